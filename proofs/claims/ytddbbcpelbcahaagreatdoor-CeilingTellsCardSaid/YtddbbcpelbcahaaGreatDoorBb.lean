/-
  Part of a proof of the laws of layer 09 (ceiling): what each function does.
  Conditions: none.
-/
import Derived.Test.YtddbbcpelbcahaaGreatDoorBa
set_option linter.unusedSimpArgs false
set_option linter.unusedVariables false
namespace Go.Eng
open Go
def Heap.toB (B B' : Nat→Prop) (h h' : Heap):Prop:=∀ id cells own,B id→h.get id=some (.blk cells own)→B' id∧h'.get id=some (.blk cells own)
theorem Heap.le.toB {h h' : Heap}(hl:h.le h'){B B' : Nat→Prop}(hB:∀ id,B id→B' id):Heap.toB B B' h h':=fun id _ _ hb hg=>⟨hB id hb,hl.get hg⟩
theorem Heap.leBut.toB {p:Nat}{h h' : Heap}(hl:h.leBut p h'){B B' : Nat→Prop}(hB:∀ id,B id→id≠p∧B' id):Heap.toB B B' h h':=fun id _ _ hb hg=>⟨(hB id hb).2,by rw [hl.get id (hB id hb).1 (by rw [hg];rfl)];exact hg⟩
end Go.Eng
namespace Go.Eng.Sy
open Go Go.Eng Go.Proofs
def SlVB (B:Nat→Prop) (h:Heap) (s:Nat) (v:Value) (xs:List (lVq)):Prop :=
 (v = nSq∧xs=[]) ∨ ∃ id off,v = .slice (some ⟨id,off,none⟩) xs.length s∧(xs=[]∨(B id∧At h id off s xs))
theorem SlVB.to {B B' : Nat→Prop}{h h' : Heap}(hk:Heap.toB B B' h h'){s:Nat}{v:Value}{xs:List (lVq)}(hv:SlVB B h s v xs):SlVB B' h' s v xs:=by
 rcases hv with hv | ⟨id,off,hv,ha⟩
 ·exact .inl hv
 ·refine .inr ⟨id,off,hv,?_⟩;rcases ha with ha | ⟨hb,cells,own,hg,hx⟩
  ·exact .inl ha
  ·obtain ⟨b,g⟩:=hk id cells own hb hg;exact .inr ⟨b,cells,own,g,hx⟩
theorem SlVB.plain {B:Nat→Prop}{h:Heap}{s:Nat}{v:Value}{xs:List (lVq)}(hv:SlVB B h s v xs):SlV h s v xs:=by
 rcases hv with hv | ⟨id,off,hv,ha⟩
 ·exact .inl hv
 ·exact .inr ⟨id,off,hv,ha.imp (fun e=>e) (·.2)⟩
theorem SlVB.nil (B:Nat→Prop) (h:Heap) (s:Nat):SlVB B h s nSq []:=.inl ⟨rfl,rfl⟩
mutual
def ExCB (B:Nat→Prop) (h:Heap):Ex→lVq→Prop
 | .mk k o n m args,x=>∃ v xs,x=[iI k,iI o,iI n,str m,v]∧SlVB B h 5 v xs∧xs.length≤140737488355328∧ExCsB B h args xs
def ExCsB (B:Nat→Prop) (h:Heap):List Ex→List (lVq)→Prop
 | [],xs=>xs=[]
 | e::r,xs=>∃ x xr,xs=x::xr∧ExCB B h e x∧ExCsB B h r xr
end
mutual
def StCB (B:Nat→Prop) (h:Heap):St→lVq→Prop
 | .mk k m f n args thn els,x=>∃ v xs u ys w zs,x=[iI k,str m,str f,iI n,v,u,w]∧(SlVB B h 5 v xs∧xs.length≤140737488355328∧ExCsB B h args xs)∧(SlVB B h 7 u ys∧ys.length≤140737488355328∧StCsB B h thn ys)∧SlVB B h 7 w zs∧zs.length≤140737488355328∧StCsB B h els zs
def StCsB (B:Nat→Prop) (h:Heap):List St→List (lVq)→Prop
 | [],xs=>xs=[]
 | e::r,xs=>∃ x xr,xs=x::xr∧StCB B h e x∧StCsB B h r xr
end
def ExsVB (B:Nat→Prop) (h:Heap) (v:Value) (l:List Ex):Prop:=∃ xs,SlVB B h 5 v xs∧xs.length≤140737488355328∧ExCsB B h l xs
def StsVB (B:Nat→Prop) (h:Heap) (v:Value) (l:List St):Prop:=∃ xs,SlVB B h 7 v xs∧xs.length≤140737488355328∧StCsB B h l xs
mutual
theorem ExCB.to {B B' : Nat→Prop}{h h' : Heap}(hk:Heap.toB B B' h h'):∀ {e:Ex}{x:lVq},ExCB B h e x→ExCB B' h' e x
 | .mk _ _ _ _ _,_,⟨v,xs,h1,h2,hb,h3⟩=>⟨v,xs,h1,h2.to hk,hb,ExCsB.to hk h3⟩
theorem ExCsB.to {B B' : Nat→Prop}{h h' : Heap}(hk:Heap.toB B B' h h'):∀ {l:List Ex}{xs:List (lVq)},ExCsB B h l xs→ExCsB B' h' l xs
 | [],_,hx=>hx
 | _::_,_,⟨x,xr,h1,h2,h3⟩=>⟨x,xr,h1,ExCB.to hk h2,ExCsB.to hk h3⟩
end
mutual
theorem StCB.to {B B' : Nat→Prop}{h h' : Heap}(hk:Heap.toB B B' h h'):∀ {e:St}{x:lVq},StCB B h e x→StCB B' h' e x
 | .mk _ _ _ _ _ _ _,_,⟨v,xs,u,ys,w,zs,h1,h2,h3,h4,h5⟩=>⟨v,xs,u,ys,w,zs,h1,⟨h2.1.to hk,h2.2.1,ExCsB.to hk h2.2.2⟩,⟨h3.1.to hk,h3.2.1,StCsB.to hk h3.2.2⟩,h4.to hk,h5.1,StCsB.to hk h5.2⟩
theorem StCsB.to {B B' : Nat→Prop}{h h' : Heap}(hk:Heap.toB B B' h h'):∀ {l:List St}{xs:List (lVq)},StCsB B h l xs→StCsB B' h' l xs
 | [],_,hx=>hx
 | _::_,_,⟨x,xr,h1,h2,h3⟩=>⟨x,xr,h1,StCB.to hk h2,StCsB.to hk h3⟩
end
theorem ExsVB.to {B B' : Nat→Prop}{h h' : Heap}(hk:Heap.toB B B' h h'){v:Value}{l:List Ex}(hv:ExsVB B h v l):ExsVB B' h' v l:=let ⟨xs,a,c,b⟩:=hv;⟨xs,a.to hk,c,b.to hk⟩
theorem StsVB.to {B B' : Nat→Prop}{h h' : Heap}(hk:Heap.toB B B' h h'){v:Value}{l:List St}(hv:StsVB B h v l):StsVB B' h' v l:=let ⟨xs,a,c,b⟩:=hv;⟨xs,a.to hk,c,b.to hk⟩
section
variable {B:Nat→Prop}{h:Heap}
mutual
theorem ExCB.plain:∀ {e:Ex}{x:lVq},ExCB B h e x→ExC h e x
 | .mk _ _ _ _ _,_,⟨v,xs,h1,h2,hb,h3⟩=>⟨v,xs,h1,h2.plain,hb,ExCsB.plain h3⟩
theorem ExCsB.plain:∀ {l:List Ex}{xs:List (lVq)},ExCsB B h l xs→ExCs h l xs
 | [],_,hx=>hx
 | _::_,_,⟨x,xr,h1,h2,h3⟩=>⟨x,xr,h1,ExCB.plain h2,ExCsB.plain h3⟩
end
mutual
theorem StCB.plain:∀ {e:St}{x:lVq},StCB B h e x→StC h e x
 | .mk _ _ _ _ _ _ _,_,⟨v,xs,u,ys,w,zs,h1,h2,h3,h4,h5⟩=>⟨v,xs,u,ys,w,zs,h1,⟨h2.1.plain,h2.2.1,ExCsB.plain h2.2.2⟩,⟨h3.1.plain,h3.2.1,StCsB.plain h3.2.2⟩,h4.plain,h5.1,StCsB.plain h5.2⟩
theorem StCsB.plain:∀ {l:List St}{xs:List (lVq)},StCsB B h l xs→StCs h l xs
 | [],_,hx=>hx
 | _::_,_,⟨x,xr,h1,h2,h3⟩=>⟨x,xr,h1,StCB.plain h2,StCsB.plain h3⟩
end
theorem ExsVB.plain {v:Value}{l:List Ex}(hv:ExsVB B h v l):ExsV h v l:=let ⟨xs,a,c,b⟩:=hv;⟨xs,a.plain,c,b.plain⟩
theorem StsVB.plain {v:Value}{l:List St}(hv:StsVB B h v l):StsV h v l:=let ⟨xs,a,c,b⟩:=hv;⟨xs,a.plain,c,b.plain⟩
theorem ExsVB.nil:ExsVB B h nSq []:=⟨[],.inl ⟨rfl,rfl⟩,by simp,rfl⟩
theorem StsVB.nil:StsVB B h nSq []:=⟨[],.inl ⟨rfl,rfl⟩,by simp,rfl⟩
theorem ExCB.of {k o n:Int}{m:lBq}{v:Value}{l:List Ex}(hv:ExsVB B h v l):ExCB B h (.mk k o n m l) [iI k,iI o,iI n,str m,v]:=let ⟨xs,a,b⟩:=hv;⟨v,xs,rfl,a,b⟩
theorem StCB.of {k n:Int}{m f:lBq}{v u w:Value}{l:List Ex}{a b:List St}(hv:ExsVB B h v l) (hu:StsVB B h u a) (hw:StsVB B h w b):StCB B h (.mk k m f n l a b) [iI k,str m,str f,iI n,v,u,w] :=
 let ⟨xs,a1,b1⟩:=hv;let ⟨ys,a2,b2⟩:=hu;let ⟨zs,a3,b3⟩:=hw;⟨v,xs,u,ys,w,zs,rfl,⟨a1,b1⟩,⟨a2,b2⟩,a3,b3⟩
theorem ExsVB.new {l:List Ex}{xs:List (lVq)}(hx:ExCsB B h l xs){B' : Nat→Prop}(hB:∀ id,B id→id < h.next→B' id) (hn:B' h.next) (hb:xs.length≤140737488355328) (h5:∀ x ∈ xs,x.length=5){cells:lVq}(hc:cells=xs.flatten){n:Nat}(hl:n=xs.length) :
  ExsVB B' (h.alloc (.blk cells true)) (.slice (some ⟨h.next,0,none⟩) n 5) l:=by
 subst hl;subst hc;refine ⟨xs,.inr ⟨h.next,0,rfl,.inr ⟨hn,_,_,Heap.get_alloc_same _ _,fun i x hi=>?_⟩⟩,hb,hx.to fun id cells own hb' hg=>⟨hB id hb' (Heap.lt_of_get hg),?_⟩⟩
 ·obtain ⟨h1,h2⟩:=yw h5 i x hi;exact ⟨h5 x (List.mem_of_getElem? hi),by omega,by simpa using h2⟩
 ·rw [Heap.get_alloc_lt (Heap.lt_of_get hg)];exact hg
end
theorem pick6_c (c n:Int) (hn:n≠0) (h:Heap) (Q:vPq) (hq:Q (iI (pick c n)) h):CallW Tryz.prog 45 [iI c,iI n] h Q:=by
 refine zg (k:=2) ok45 rfl rfl rfl fun N=>?_;rw [wn c45 kv rfl];delta c45;replace hq:=za hq;have hq1:c < 0→Q (iI ((IntKind.i64.wrap (0 - IntKind.i64.wrap (c + 1))).tmod n)) h:=fun hc=>by have:=hq.h;rwa [pick,if_pos hc] at this
 have hq2:¬ c < 0→Q (iI (c.tmod n)) h:=fun hc=>by have:=hq.h;rwa [pick,if_neg hc] at this
 replace hq1:=Hid.mk hq1;replace hq2:=Hid.mk hq2;repeat' (first | simp only [zb,ze,zf, *] | with_reducible (first | refine kcd ?_ ?_ | refine kgd ?_ ?_ | refine kci ?_ ?_ | refine kgi ?_ ?_)<;>intro hc)
 ·exact hq1.h (by assumption)
 ·exact hq2.h (by assumption)
def zh (s:List Int) (n:Nat):Nat × List Int:=match s with
 | []=>(0,[])
 | z::r=>(zl5 z n,r)
theorem ya {s:List Int}(hs:∀ z ∈ s,inI z){n:Nat}(hn:0 < n):(zh s n).1 < n:=by
 cases s with
 | nil=>exact hn
 | cons z r=>exact (zd0 (hs z (by simp)) hn).1
def Src (h:Heap) (p:Nat) (raw:List Int):Prop:=∃ v,h.get p=some (.blk [v] true)∧SlVB (· < p) h 1 v (raw.map fun z=>[iI z])∧(∀ z ∈ raw,inI z)∧raw.length≤1000
theorem Src.in {h:Heap}{p:Nat}{raw:List Int}(hs:Src h p raw):∀ z ∈ raw,inI z:=hs.elim fun _ a=>a.2.2.1
theorem Src.le {h h' : Heap}{p:Nat}{raw:List Int}(hl:h.le h') (hs:Src h p raw):Src h' p raw:=by
 obtain ⟨v,h1,h2,h3⟩:=hs;exact ⟨v,hl.get h1,h2.to (hl.toB fun _ h=>h),h3⟩
theorem Src.set {h:Heap}{p q:Nat}{raw:List Int}(hs:Src h p raw) (hq:p < q) (o:AObj):Src (h.set q o) p raw:=by
 obtain ⟨v,h1,h2,h3⟩:=hs;refine ⟨v,by rw [Heap.set_getE _ _ _ _ (by simp;omega)];exact h1,h2.to (fun id cs own hb hg=>⟨hb,?_⟩),h3⟩;have h4:id < p:=hb;rw [Heap.set_getE _ _ _ _ (by simp;omega)];exact hg
theorem Src.lt {h:Heap}{p:Nat}{raw:List Int}(hs:Src h p raw):p < h.next:=hs.elim fun _ a=>Heap.lt_of_get a.1
theorem yc {h:Heap}{p:Nat}{raw:List Int}(hs:Src h p raw){n:Nat}(hn:0 < n) (hn2:n≤1000000000000) (Q:vPq)
  (hq:∀ h',h.leBut p h' → Hid (h'.next=h.next)→Src h' p (zh raw n).2→Q (iI (zh raw n).1) h'):CallW Tryz.prog 25 [pT p 0,iI (n:Int)] h Q:=by
 obtain ⟨v,hg,hv,hin,hlen⟩:=hs;refine zg (k:=2) ok25 rfl rfl rfl fun N=>?_;rw [wn c25 Zm rfl];delta c25;replace hq:=za hq;have hl:=Ints.len hv.plain;cases raw with
 | nil =>
  have g:=hq.h h (.refl _ _) ⟨rfl⟩ ⟨v,hg,hv,hin,hlen⟩;have z0:(([]:List Int).length:Int)=0:=rfl;have e0:zh [] n=(0,[]):=rfl;rw [e0] at g;have e1:((0:Nat):Int)=0:=rfl;simp only [e1] at g;replace g:=Hid.mk g;clear hq hv;simp only [zb,aR,ze,zf, *];exact g.h
 | cons z r =>
  have c1:(((z::r).length:Int) == 0)=false:=by simp;omega
  obtain ⟨id,off,cells,own,e1,e2,e3⟩:=Ints.elem hv.plain (i:=0) (z:=z) rfl;rw [Int.ofNat_zero] at e1;obtain ⟨hp1,hp2⟩:=zd0 (hin z (by simp)) hn;have cut:∃ w,jo 1 true false [v,iI 1]=some w∧SlVB (· < p) h 1 w (r.map fun z=>[Value.int .i64 z])∧w.cells.toList=[w]∧w.oneCell' = true:=by
   rcases hv with ⟨_,hx⟩ | ⟨id,off,rfl,hx⟩
   ·simp at hx
   ·refine ⟨.slice (some ⟨id,off + 1 * 1,none⟩) r.length 1,by simp [jo,Uh];omega,.inr ⟨id,off + 1,by simp,?_⟩,rfl,rfl⟩;rcases hx with hx | ⟨hb,cells,own,hg,hx⟩
    ·simp at hx
    ·refine .inr ⟨hb,cells,own,hg,fun i x hi=>?_⟩;obtain ⟨a,b,c⟩:=hx (i + 1) x (by simpa using hi);exact ⟨a,by omega,by rw [← c];congr 2;omega⟩
  obtain ⟨w,hw1,hw2,hw3,hw4⟩:=cut;have st:=z6 (off:=0) hg (by simp) hw3 hw4;have g:=hq.h (h.set p (.blk ([v].set 0 w) true)) (Heap.leBut.set p h _) ⟨rfl⟩ ⟨w,Heap.set_getS _ _ _ (by rw [hg];rfl),hw2.to (fun id cs o hb hg'=>⟨hb,by rw [Heap.set_getE _ _ _ _ (by have h1:id < p:=hb;simp;omega)];exact hg'⟩),fun y hy=>hin y (List.mem_cons_of_mem _ hy),by simp at hlen;show r.length≤1000;omega⟩;have en:zh (z::r) n=(zl5 z n,r):=rfl;rw [en] at g;simp only [hp2] at g;replace g:=Hid.mk g;clear hq hv hw2 hp2 hin hlen;simp only [zb,aR,ze,zf, *];refine pick6_c z n (by omega) _ _ ?_;simp only [zb,aR,aW, *];exact g.h
structure Sco where
 devs:List (lBq)
 ress:List (lBq)
 free:Nat
 held:List (lBq)
 any:Bool
abbrev StrsB (B:Nat→Prop) (h:Heap) (v:Value) (l:List (lBq)):Prop:=SlVB B h 1 v (l.map fun s=>[str s])
theorem StrsB.plain {B:Nat→Prop}{h:Heap}{v:Value}{l:List (lBq)}(hv:StrsB B h v l):Strs h v l:=SlVB.plain hv
theorem StrsB.one {B:Nat→Prop}{h:Heap}{v:Value}{l:List (lBq)}(hv:StrsB B h v l):v.oneCell' = true:=SlV.one (SlVB.plain hv)
theorem u4 {B:Nat→Prop}(h:Heap) (l:List (lBq)) (hB:B h.next){n:Nat}{cells:lVq}(hn:n=l.length) (hc:cells=l.map str):StrsB B (h.alloc (.blk cells true)) (.slice (some ⟨h.next,0,none⟩) n 1) l:=by
 rcases Kf h l hn hc with ⟨e,_⟩ | ⟨id,off,e,ha⟩
 ·cases e
 ·have:id=h.next∧off=0:=by
   injection e with e1 e2 e3
   injection e1 with e1
   injection e1 with e1 e2 e3
   exact ⟨e1.symm,e2.symm⟩
  obtain ⟨rfl,rfl⟩:=this;exact .inr ⟨_,_,e,ha.imp (fun e=>e) fun a=>⟨hB,a⟩⟩
def ScB (p:Nat) (h:Heap) (c:Sco) (x:lVq):Prop :=
 ∃ dv rv hv,x=[dv,rv,iI (c.free:Int),hv,.bool c.any]∧StrsB (· ≠ p) h dv c.devs∧StrsB (· ≠ p) h rv c.ress∧StrsB (· ≠ p) h hv c.held∧c.devs.length≤100∧c.ress.length≤100∧c.held.length≤100∧c.free≤100
theorem ScB.to {p:Nat}{h h' : Heap}(hk:Heap.toB (· ≠ p) (· ≠ p) h h'){c:Sco}{x:lVq}(hc:ScB p h c x):ScB p h' c x:=by
 obtain ⟨dv,rv,hv,a,b,d,e,f⟩:=hc;exact ⟨dv,rv,hv,a,SlVB.to hk b,SlVB.to hk d,SlVB.to hk e,f⟩
theorem ScB.le {p:Nat}{h h' : Heap}(hl:h.le h'){c:Sco}{x:lVq}(hc:ScB p h c x):ScB p h' c x:=hc.to (hl.toB fun _ h=>h)
theorem ScB.but {p:Nat}{h h' : Heap}(hl:h.leBut p h'){c:Sco}{x:lVq}(hc:ScB p h c x):ScB p h' c x:=hc.to (hl.toB fun _ h=>⟨h,h⟩)
abbrev scV (dv rv:Value) (f:Int) (hv:Value) (a:Bool):Value:=.agg #[dv,rv,iI f,hv,.bool a]
theorem yc7 {dv rv hv:Value}{f:Int}{a:Bool}(h1:dv.oneCell' = true) (h2:rv.oneCell' = true) (h3:hv.oneCell' = true):Je [scV dv rv f hv a]=some ([dv,rv,iI f,hv,.bool a],fun id=>(pT id 0)):=by
 simpa [Je,Value.cells,Value.oneCell'] using ⟨h1,h2,h3⟩
def yh (any:Bool) (s:List Int) (l:List (lBq)):lBq × List Int :=
 if any || l.length == 0 then (varL (zh s 300).1,(zh s 300).2) else (l.getD (zh s l.length).1 [],(zh s l.length).2)
theorem Heap.leBut.of_le {p:Nat}{a b c:Heap}(h1:a.le b) (h2:b.leBut p c):a.leBut p c:=(h1.but p).trans h2
theorem ud {h:Heap}{p:Nat}{raw:List Int}(hs:Src h p raw){dv rv hv:Value}{f:Int}{any:Bool}(o1:dv.oneCell' = true) (o2:rv.oneCell' = true) (o3:hv.oneCell' = true){v:Value}{l:List (lBq)}(hv' : StrsB (· ≠ p) h v l) (hlen:l.length≤1000) (Q:vPq)
  (hq:∀ h',h.leBut p h' → Src h' p (yh any raw l).2→Q (str (yh any raw l).1) h'):CallW Tryz.prog 46 [scV dv rv f hv any,pT p 0,v] h Q:=by
 have b1:=yc7 (f:=f) (a:=any) o1 o2 o3;have hpl:=hs.lt;obtain ⟨q,h1,eq,eh1,gq,lh1⟩:=zj h [dv,rv,iI f,hv,.bool any];have hs1:=hs.le lh1;have hv1:StrsB (· ≠ p) h1 v l:=SlVB.to (lh1.toB fun _ h=>h) hv';have hln:=hv'.plain.len;have hqp:p≠q:=by omega
 clear hs hv';replace hs1:=za hs1;replace hv1:=za hv1;replace lh1:=za lh1;refine zg (k:=4) ok46 rfl rfl rfl fun N=>?_;rw [zj7 c46 Zm rfl];delta c46;replace hq:=za hq;have k300:(300:Int)=((300:Nat):Int):=rfl;by_cases hc:any=true∨l.length=0
 ·have e:yh any raw l=(varL (zh raw 300).1,(zh raw 300).2):=by
   unfold yh;rw [if_pos];simpa using hc
  rw [e] at hq;have hlt:=ya hs1.h.in (n:=300) (by omega);replace hlt:=za hlt;cases any with
  | true =>
   simp only [zb,aR, *];refine yc hs1.h (by omega) (by omega) _ fun h2 l2 _ hs2=>?_;have l3:=Heap.leBut.of_le lh1.h l2;replace l2:=za l2;replace hs2:=za hs2;replace l3:=za l3;simp only [zb, *];refine var_c (by have:=hlt.h;unfold inI;omega) _ _ fun h3 l4=>?_;have g:=hq.h h3 (l3.h.trans (l4.but p)) (hs2.h.le l4);replace g:=Hid.mk g;clear l4;simp only [zb, *];exact g.h
  | false =>
   have hl0:l.length=0:=by simpa using hc
   rw [hl0] at hln;have z0:((0:Nat):Int)=0:=rfl;replace hc:=Hid.mk hc;replace hl0:=Hid.mk hl0;simp only [zb,aR,ze,zf, *];refine yc hs1.h (by omega) (by omega) _ fun h2 l2 _ hs2=>?_;have l3:=Heap.leBut.of_le lh1.h l2;replace l2:=za l2;replace hs2:=za hs2;replace l3:=za l3;simp only [zb, *];refine var_c (by have:=hlt.h;unfold inI;omega) _ _ fun h3 l4=>?_;have g:=hq.h h3 (l3.h.trans (l4.but p)) (hs2.h.le l4);replace g:=Hid.mk g;clear l4;simp only [zb, *];exact g.h
 ·obtain ⟨hc1,hc2⟩:any=false∧0 < l.length:=by
   constructor
   ·cases any with
    | true=>exact absurd (.inl rfl) hc
    | false=>rfl
   ·omega
  subst hc1;have e:yh false raw l=(l.getD (zh raw l.length).1 [],(zh raw l.length).2):=by
   unfold yh;rw [if_neg];simp;intro e;rw [e] at hc2;simp at hc2
  rw [e] at hq;have c0:((l.length:Int) == 0)=false:=by simp;intro e;rw [e] at hc2;simp at hc2
  have hlt:=ya hs1.h.in (n:=l.length) hc2;have hgd:=getD_some hlt [];replace hc:=Hid.mk hc;replace hlt:=za hlt;replace hgd:=za hgd;replace hc2:=za hc2;simp only [zb,aR,ze,zf, *];refine yc hs1.h hc2.h (by omega) _ fun h2 l2 _ hs2=>?_;obtain ⟨id,off,cells,own,e1,e2,e3,_⟩:=(StrsB.plain (SlVB.to (l2.toB fun _ h=>⟨h,h⟩) hv1.h)).elem hgd.h;have l3:=Heap.leBut.of_le lh1.h l2;have g:=hq.h h2 l3 hs2;replace g:=Hid.mk g;clear l2 l3 hs2;simp only [zb,aR, *];exact g.h
end Go.Eng.Sy
namespace Go.Eng
open Go
theorem Heap.leBut.keep {p i:Nat}{h h' : Heap}(hl:h.leBut p h') (hi:i≠p){o:AObj}(hg:h.get i=some o):h'.get i=some o:=by
 rw [hl.get i hi (by rw [hg];rfl)];exact hg
theorem Heap.leBut.le' {p:Nat}{a b c:Heap}(h1:a.leBut p b) (h2:b.le c):a.leBut p c:=h1.trans (h2.but p)
theorem Heap.leBut.setQ {p q:Nat}{a b:Heap}(h1:a.leBut p b) (hq:a.next≤q) (o:AObj):a.leBut p (b.set q o) :=
 ⟨fun j hj hs=>by
  obtain ⟨x,hx⟩:=Option.isSome_iff_exists.1 hs;have:=Heap.lt_of_get hx;rw [Heap.set_getE _ _ _ _ (by simp;omega)];exact h1.get j hj hs,h1.next⟩
theorem Heap.toB_id {B B' : Nat→Prop}{h:Heap}(hB:∀ id,B id→B' id):Heap.toB B B' h h:=fun id _ _ hb hg=>⟨hB id hb,hg⟩
theorem Heap.toB_set {B B' : Nat→Prop}{h:Heap}{q:Nat}(o:AObj) (hB:∀ id,B id→id≠q∧B' id):Heap.toB B B' h (h.set q o):=fun id cs own hb hg=>⟨(hB id hb).2,by
 rw [Heap.set_getE _ _ _ _ (by simpa using (hB id hb).1)];exact hg⟩
end Go.Eng
namespace Go.Eng.Sy
open Go Go.Eng Go.Proofs
def yf7 (s:List Int):Ex × List Int :=
 (.mk 1 0 (([(zh s 10).1,(zh (zh s 10).2 300).1,(zh (zh (zh s 10).2 300).2 4294967296).1].getD (zh (zh (zh (zh s 10).2 300).2 4294967296).2 3).1 0:Nat):Int) [] [],(zh (zh (zh (zh s 10).2 300).2 4294967296).2 3).2)
def zj8:List (lBq):=[[120],[121],[122]]
def yd (c:Sco):Nat→List Int→Ex × List Int
 | 0,s=>yf7 (zh s 8).2
 | d + 1,s =>
  let k:=(zh s 8).1;let s1:=(zh s 8).2
  if k < 2 then yf7 s1
  else if k < 4 then (.mk 2 0 0 (yh c.any s1 zj8).1 [],(yh c.any s1 zj8).2)
  else if k=4 then (.mk 3 (15 + ((zh s1 3).1:Nat)) 0 [] [(yd c d (zh s1 3).2).1],(yd c d (zh s1 3).2).2)
  else if k=5∧(c.any=true∨c.held≠[]) then (.mk 5 0 0 (yh c.any s1 c.held).1 [(yd c d (yh c.any s1 c.held).2).1],(yd c d (yh c.any s1 c.held).2).2)
  else (.mk 4 (1 + ((zh s1 14).1:Nat)) 0 [] [(yd c d (zh s1 14).2).1,(yd c d (yd c d (zh s1 14).2).2).1],(yd c d (yd c d (zh s1 14).2).2).2)
def ExprC (c:Sco) (d:Nat):Prop:=∀ (raw:List Int) (h:Heap) (p:Nat) (x:lVq) (Q:vPq),Src h p raw→ScB p h c x →
 (∀ h' y,h.leBut p h' → Src h' p (yd c d raw).2→ExCB (fun id=>h.next≤id) h' (yd c d raw).1 y→Q (.agg y.toArray) h')→CallW Tryz.prog 27 [.agg x.toArray,pT p 0,iI (d:Int)] h Q
theorem bs_i3 (a b c:Int):yj [iI 0,iI 0,iI 0] [(0,1),(1,1),(2,1)] 3 1 [iI a,iI b,iI c]=some ([iI a,iI b,iI c],fun id=>.slice (some ⟨id,0,none⟩) 3 1):=ql rfl rfl rfl (by simp [Value.cells,Value.oneCell'])
theorem Qj (h:Heap) (l:List Int){n:Nat}{cells:lVq}(hn:n=l.length) (hc:cells=l.map (.int .i64)):Ints (h.alloc (.blk cells true)) (.slice (some ⟨h.next,0,none⟩) n 1) l:=by
 subst hn;subst hc;refine .inr ⟨h.next,0,by simp,.inr ⟨_,_,Heap.get_alloc_same _ _,fun j x hj=>?_⟩⟩;have hx:∀ x ∈ (l.map fun s=>[Value.int .i64 s]),x.length=1:=by simp
 obtain ⟨h1,h2⟩:=yw hx j x hj;have hf:(l.map fun s=>[Value.int .i64 s]).flatten=l.map (.int .i64):=by
  clear h1 h2 hx hj;induction l with
  | nil=>rfl
  | cons a l ih=>simp [ih]
 rw [hf] at h1 h2;exact ⟨hx x (List.mem_of_getElem? hj),by simpa using h1,by simpa using h2⟩
theorem zq1 (n:Int):yo [iI 0,iI 0,iI 0,s0q,nSq] [(0,1),(2,1)] [iI 1,iI n]=some (exV 1 0 n [] nSq):=rfl
theorem qb0 (m:lBq):yo [iI 0,iI 0,iI 0,s0q,nSq] [(0,1),(3,1)] [iI 2,str m]=some (exV 2 0 0 m nSq):=rfl
theorem zj3 (k o:Int){i n:Nat}:yo [iI 0,iI 0,iI 0,s0q,nSq] [(0,1),(1,1),(4,1)] [iI k,iI o,.slice (some ⟨i,0,none⟩) n 5]=some (exV k o 0 [] (.slice (some ⟨i,0,none⟩) n 5)):=rfl
theorem yc5 (m:lBq){i n:Nat}:yo [iI 0,iI 0,iI 0,s0q,nSq] [(0,1),(3,1),(4,1)] [iI 5,str m,.slice (some ⟨i,0,none⟩) n 5]=some (exV 5 0 0 m (.slice (some ⟨i,0,none⟩) n 5)):=rfl
theorem ExCB.cells {B:Nat→Prop}{h:Heap}{e:Ex}{x:lVq}(hx:ExCB B h e x):∃ v,x=[iI e.kind,iI e.op,iI e.n,str e.name,v]∧ExsVB B h v e.args:=by
 cases e;obtain ⟨v,xs,h1,h2,h3⟩:=hx;exact ⟨v,h1,xs,h2,h3⟩
theorem ExsVB.one {B:Nat→Prop}{h:Heap}{v:Value}{l:List Ex}(hv:ExsVB B h v l):v.oneCell' = true:=hv.plain.one
theorem yc6 {x y:lVq}(hx:x.length=5∧x.all (·.oneCell')=true) (hy:y.length=5∧y.all (·.oneCell')=true):yj [iI 0,iI 0,iI 0,s0q,nSq,iI 0,iI 0,iI 0,s0q,nSq] [(0,5),(5,5)] 2 5 [.agg x.toArray,.agg y.toArray]=some (x++y,fun id=>.slice (some ⟨id,0,none⟩) 2 5):=by
 have e1:x.all (·.oneCell')=true:=hx.2;have e2:y.all (·.oneCell')=true:=hy.2;have l1:=hx.1;have l2:=hy.1;simp [yj,Zj,Value.cells,l1,l2,e1,e2]
theorem Zk {x:lVq}(hx:x.length=5∧x.all (·.oneCell')=true):yj [iI 0,iI 0,iI 0,s0q,nSq] [(0,5)] 1 5 [.agg x.toArray]=some (x,fun id=>.slice (some ⟨id,0,none⟩) 1 5):=ui rfl hx.1 rfl hx.2
theorem ExCB.ones {B:Nat→Prop}{h:Heap}{e:Ex}{x:lVq}(hx:ExCB B h e x):x.length=5∧x.all (·.oneCell')=true:=by
 obtain ⟨v,rfl,hv⟩:=hx.cells;exact ⟨rfl,by simpa [Value.oneCell'] using hv.one⟩
theorem yt5 {c:Sco}{d:Nat}(hd:d≤100) (ih:∀ d',d=d' + 1→ExprC c d'):ExprC c d:=by
 intro raw h p x Q hs hc hq;have hc0:=hc;obtain ⟨dv,rv,hv,rfl,s1,s2,s3,_,_,hheld,_⟩:=hc;have b1:=yc7 (f:=(c.free:Int)) (a:=c.any) s1.one s2.one s3.one;have o1:=s1.one;have o2:=s2.one;have o3:=s3.one;obtain ⟨q1,h1,eq1,eh1,gq1,lh1⟩:=zj h [dv,rv,iI (c.free:Int),hv,.bool c.any];obtain ⟨q2,h2,eq2,eh2,gq2,lh2⟩:=zj h1 [iI 0,iI 0,iI 0,s0q,nSq];have hpl:=hs.lt;have hq1n:h.next≤q1:=by omega
 have hlh:=lh1.next;have hq12:=Heap.lt_of_get gq1;have hq2n:h.next≤q2:=by omega
 have hq1:q1≠p:=by omega
 have hq2:q2≠p:=by omega
 have hpq2:p < q2:=by omega
 have gq1':=lh2.get gq1;have l2:=lh1.trans lh2;have hs2:=hs.le l2;have hc2:=hc0.le l2;clear hs hc0 s1 s2 s3 gq1 lh1 lh2 hlh;replace hs2:=za hs2;replace hc2:=za hc2;replace l2:=za l2;replace o1:=za o1;replace o2:=za o2;replace o3:=za o3;replace ih:=za ih;replace hpl:=za hpl;replace hq1n:=za hq1n;replace hq12:=za hq12;replace hq2n:=za hq2n;replace hheld:=za hheld;refine Ks (k:=4) (agg:=true) (size:=5) ok27 rfl rfl rfl fun N=>?_;rw [zj7 c27 u0 rfl];delta c27;replace hq:=za hq;simp only [zb, *];refine yc (n:=8) hs2.h (by omega) (by omega) _ fun h3 l3 _ hs3=>?_;have g1:=l3.keep (i:=q1) hq1 gq1';have g2:=l3.keep (i:=q2) hq2 gq2;have hc3:=hc2.h.but l3;obtain ⟨k,hk⟩:∃ k,(zh raw 8).1=k:=⟨_,rfl⟩;obtain ⟨s1,hs1⟩:∃ k,(zh raw 8).2=k:=⟨_,rfl⟩;rw [hs1] at hs3;rw [hk];have l33:=Hid.mk l3;clear l3;have l3:=Heap.leBut.refl p h3;clear gq1' gq2 hs2 hc2 b1;replace l2:=l2.h;replace l2:=za l2;replace hs3:=za hs3;replace l3:=za l3;replace hc3:=za hc3;have hp1:(q1 == p)=false:=by simpa using hq1
 have hp2:(q2 == p)=false:=by simpa using hq2
 by_cases hnum:d=0∨k < 2
 ·have e0:yd c d raw=yf7 s1:=by
   cases d with
   | zero=>show yf7 (zh raw 8).2=_;rw [hs1]
   | succ d =>
    have hk2:k < 2:=by omega
    unfold yd;simp only [hk,hs1];rw [if_pos hk2]
  have hlt1:=ya hs3.h.in (n:=10) (by omega);clear hc3 g1;rcases Nat.eq_zero_or_pos d with hd0 | hd0
  ·subst hd0;have c1:((0:Nat):Int) < 1:=by decide
   clear hnum;simp only [zb,ze,zf, *];refine yc (n:=10) hs3.h (by omega) (by omega) _ fun h4 l4 _ hs4=>?_;have l4:=l3.h.trans l4;replace hs4:=za hs4;replace l4:=za l4;simp only [zb, *];refine yc (n:=300) hs4.h (by omega) (by omega) _ fun h5 l5 _ hs5=>?_;have l5:=l4.h.trans l5;replace hs5:=za hs5;replace l5:=za l5;simp only [zb, *];refine yc (n:=4294967296) hs5.h (by omega) (by omega) _ fun h6 l6 _ hs6=>?_;have l6:=l5.h.trans l6;obtain ⟨a,ha⟩:∃ a,(zh s1 10).1=a:=⟨_,rfl⟩;obtain ⟨b,hb⟩:∃ b,(zh (zh s1 10).2 300).1=b:=⟨_,rfl⟩;obtain ⟨c,hc⟩:∃ c,(zh (zh (zh s1 10).2 300).2 4294967296).1=c:=⟨_,rfl⟩;obtain ⟨r,hr⟩:∃ r,(zh (zh (zh s1 10).2 300).2 4294967296).2=r:=⟨_,rfl⟩;have bi:=bs_i3 a b c;have hI:=Qj h6 [(a:Int),b,c] (n:=3) (cells:=[iI a,iI b,iI c]) rfl rfl;have hr3:yf7 s1=(.mk 1 0 (([a,b,c].getD (zh r 3).1 0:Nat):Int) [] [],(zh r 3).2):=by unfold yf7;rw [ha,hb,hc,hr]
   rw [hr] at hs6;rw [ha,hb,hc];rw [e0,hr3] at hq;have hlt:=ya hs6.in (n:=3) (by omega);obtain ⟨qi,h7,eqi,eh7,gqi,lh7⟩:=zj h6 [iI (a:Int),iI b,iI c];rw [eh7,eqi] at hI;have hs7:=hs6.le lh7;have l7:=l6.le' lh7;have hqi:qi≠p:=by have:=hs6.lt;omega
   clear ha hb hc hr hr3 hs6 l6 hs4 hs5 l4 l5;replace hs7:=za hs7;replace l7:=za l7;replace hI:=za hI;replace hlt:=za hlt;replace lh7:=za lh7;simp only [zb, *];refine yc (n:=3) hs7.h (by omega) (by omega) _ fun h8 l8 _ hs8=>?_;obtain ⟨i,hi⟩:∃ i,(zh r 3).1=i:=⟨_,rfl⟩;rw [hi] at hlt hq;rw [hi];have gi:=getD_some (l:=[a,b,c]) (i:=i) hlt.h 0;have gi2:[(a:Int),b,c][i]? = some (([a,b,c].getD i 0:Nat):Int):=by
    have:[(a:Int),b,c]=[a,b,c].map (fun n:Nat=>(n:Int)):=rfl;rw [this,List.getElem?_map,gi];rfl
   have hI8:Ints h8 (.slice (some ⟨qi,0,none⟩) 3 1) [(a:Int),b,c]:=by
    rcases hI.h with ⟨e,_⟩ | ⟨id,off,e,hx⟩
    ·cases e
    ·have:id=qi:=by
      injection e with e1 e2 e3
      injection e1 with e1
      injection e1 with e1 e2 e3
      exact e1.symm
     subst this;refine .inr ⟨_,_,e,hx.imp (fun e=>e) fun ⟨cs,o,hg,hy⟩=>⟨cs,o,l8.keep hqi hg,hy⟩⟩
   obtain ⟨id,off,cells,own,e1,e2,e3⟩:=Ints.elem hI8 gi2;have l8:=l7.h.trans l8;have g8:=l8.keep (i:=q2) hq2 g2;have hbn:=zq1 ([a,b,c].getD i 0:Nat);have hst:=yz (size:=5) (v:=exV 1 0 (([a,b,c].getD i 0:Nat):Int) [] nSq) (cs:=[iI 1,iI 0,iI (([a,b,c].getD i 0:Nat):Int),str [],nSq]) g8 rfl rfl rfl rfl;have g:=hq.h (h8.set q2 (.blk [iI 1,iI 0,iI (([a,b,c].getD i 0:Nat):Int),str [],nSq] true)) [iI 1,iI 0,iI (([a,b,c].getD i 0:Nat):Int),str [],nSq]
    ((Heap.leBut.of_le l2.h (l33.h.trans l8)).setQ hq2n.h _) (hs8.set hpq2 _) (ExCB.of ExsVB.nil)
   have gs:=Heap.set_getS h8 (.blk [iI 1,iI 0,iI (([a,b,c].getD i 0:Nat):Int),str [],nSq] true) q2 (by rw [g8];rfl);replace g:=Hid.mk g;clear hq hI8 l8 hs8 hI gi gi2 hi;simp only [zb,aR,aW,zu, *];exact g.h
  ·have hk2:k < 2:=by omega
   have c1:¬ (d:Int) < 1:=by omega
   have c2:(k:Int) < 2:=by omega
   clear hnum;simp only [zb,ze,zf, *];refine yc (n:=10) hs3.h (by omega) (by omega) _ fun h4 l4 _ hs4=>?_;have l4:=l3.h.trans l4;replace hs4:=za hs4;replace l4:=za l4;simp only [zb, *];refine yc (n:=300) hs4.h (by omega) (by omega) _ fun h5 l5 _ hs5=>?_;have l5:=l4.h.trans l5;replace hs5:=za hs5;replace l5:=za l5;simp only [zb, *];refine yc (n:=4294967296) hs5.h (by omega) (by omega) _ fun h6 l6 _ hs6=>?_;have l6:=l5.h.trans l6;obtain ⟨a,ha⟩:∃ a,(zh s1 10).1=a:=⟨_,rfl⟩;obtain ⟨b,hb⟩:∃ b,(zh (zh s1 10).2 300).1=b:=⟨_,rfl⟩;obtain ⟨c,hc⟩:∃ c,(zh (zh (zh s1 10).2 300).2 4294967296).1=c:=⟨_,rfl⟩;obtain ⟨r,hr⟩:∃ r,(zh (zh (zh s1 10).2 300).2 4294967296).2=r:=⟨_,rfl⟩;have bi:=bs_i3 a b c;have hI:=Qj h6 [(a:Int),b,c] (n:=3) (cells:=[iI a,iI b,iI c]) rfl rfl;have hr3:yf7 s1=(.mk 1 0 (([a,b,c].getD (zh r 3).1 0:Nat):Int) [] [],(zh r 3).2):=by unfold yf7;rw [ha,hb,hc,hr]
   rw [hr] at hs6;rw [ha,hb,hc];rw [e0,hr3] at hq;have hlt:=ya hs6.in (n:=3) (by omega);obtain ⟨qi,h7,eqi,eh7,gqi,lh7⟩:=zj h6 [iI (a:Int),iI b,iI c];rw [eh7,eqi] at hI;have hs7:=hs6.le lh7;have l7:=l6.le' lh7;have hqi:qi≠p:=by have:=hs6.lt;omega
   clear ha hb hc hr hr3 hs6 l6 hs4 hs5 l4 l5;replace hs7:=za hs7;replace l7:=za l7;replace hI:=za hI;replace hlt:=za hlt;replace lh7:=za lh7;simp only [zb, *];refine yc (n:=3) hs7.h (by omega) (by omega) _ fun h8 l8 _ hs8=>?_;obtain ⟨i,hi⟩:∃ i,(zh r 3).1=i:=⟨_,rfl⟩;rw [hi] at hlt hq;rw [hi];have gi:=getD_some (l:=[a,b,c]) (i:=i) hlt.h 0;have gi2:[(a:Int),b,c][i]? = some (([a,b,c].getD i 0:Nat):Int):=by
    have:[(a:Int),b,c]=[a,b,c].map (fun n:Nat=>(n:Int)):=rfl;rw [this,List.getElem?_map,gi];rfl
   have hI8:Ints h8 (.slice (some ⟨qi,0,none⟩) 3 1) [(a:Int),b,c]:=by
    rcases hI.h with ⟨e,_⟩ | ⟨id,off,e,hx⟩
    ·cases e
    ·have:id=qi:=by
      injection e with e1 e2 e3
      injection e1 with e1
      injection e1 with e1 e2 e3
      exact e1.symm
     subst this;refine .inr ⟨_,_,e,hx.imp (fun e=>e) fun ⟨cs,o,hg,hy⟩=>⟨cs,o,l8.keep hqi hg,hy⟩⟩
   obtain ⟨id,off,cells,own,e1,e2,e3⟩:=Ints.elem hI8 gi2;have l8:=l7.h.trans l8;have g8:=l8.keep (i:=q2) hq2 g2;have hbn:=zq1 ([a,b,c].getD i 0:Nat);have hst:=yz (size:=5) (v:=exV 1 0 (([a,b,c].getD i 0:Nat):Int) [] nSq) (cs:=[iI 1,iI 0,iI (([a,b,c].getD i 0:Nat):Int),str [],nSq]) g8 rfl rfl rfl rfl;have g:=hq.h (h8.set q2 (.blk [iI 1,iI 0,iI (([a,b,c].getD i 0:Nat):Int),str [],nSq] true)) [iI 1,iI 0,iI (([a,b,c].getD i 0:Nat):Int),str [],nSq]
    ((Heap.leBut.of_le l2.h (l33.h.trans l8)).setQ hq2n.h _) (hs8.set hpq2 _) (ExCB.of ExsVB.nil)
   have gs:=Heap.set_getS h8 (.blk [iI 1,iI 0,iI (([a,b,c].getD i 0:Nat):Int),str [],nSq] true) q2 (by rw [g8];rfl);replace g:=Hid.mk g;clear hq hI8 l8 hs8 hI gi gi2 hi;simp only [zb,aR,aW,zu, *];exact g.h
 ·obtain ⟨hd0,hk2⟩:0 < d ∧ ¬ k < 2:=by omega
  obtain ⟨d',rfl⟩:∃ d',d=d' + 1:=⟨d - 1,by omega⟩;have c1:¬ ((d' + 1:Nat):Int) < 1:=by omega
  have c2:¬ (k:Int) < 2:=by omega
  have hih:=ih.h d' rfl;clear ih hnum;have hun:yd c (d' + 1) raw=if k < 4 then (.mk 2 0 0 (yh c.any s1 zj8).1 [],(yh c.any s1 zj8).2)
   else if k=4 then (.mk 3 (15 + ((zh s1 3).1:Nat)) 0 [] [(yd c d' (zh s1 3).2).1],(yd c d' (zh s1 3).2).2)
   else if k=5∧(c.any=true∨c.held≠[]) then (.mk 5 0 0 (yh c.any s1 c.held).1 [(yd c d' (yh c.any s1 c.held).2).1],(yd c d' (yh c.any s1 c.held).2).2)
   else (.mk 4 (1 + ((zh s1 14).1:Nat)) 0 [] [(yd c d' (zh s1 14).2).1,(yd c d' (yd c d' (zh s1 14).2).2).1],(yd c d' (yd c d' (zh s1 14).2).2).2):=by
   conv=>lhs;unfold yd
   simp only [hk,hs1];rw [if_neg hk2]
  have hwd:IntKind.i64.wrap (((d' + 1:Nat):Int) - 1)=(d' : Int):=by rw [zn (by omega) (by omega)];omega
  have fin:∀ (hN:Heap) (r:List Int) (o n:Int) (kd:Int) (m:lBq) (v:Value) (l:List Ex),h3.leBut p hN→Src hN p r→ExsVB (fun id=>h.next≤id∧id≠q2) hN v l→yd c (d' + 1) raw=(.mk kd o n m l,r) →
    zt 5 hN [pT q2 0,exV kd o n m v]=some (udq,hN.set q2 (.blk [iI kd,iI o,iI n,str m,v] true)) ∧
    (hN.set q2 (.blk [iI kd,iI o,iI n,str m,v] true)).get q2=some (.blk [iI kd,iI o,iI n,str m,v] true) ∧
    Q (exV kd o n m v) (hN.set q2 (.blk [iI kd,iI o,iI n,str m,v] true)):=by
   intro hN r o n kd m v l hlN hsN hvN he;have gN:=hlN.keep hq2 g2;refine ⟨yz gN rfl rfl rfl (by simpa [Value.oneCell'] using hvN.one),Heap.set_getS _ _ _ (by rw [gN];rfl),?_⟩;rw [he] at hq;exact hq.h _ _ ((Heap.leBut.of_le l2.h (l33.h.trans hlN)).setQ hq2n.h _) (hsN.set hpq2 _) (ExCB.of (hvN.to (Heap.toB_set _ fun id hb=>⟨hb.2,hb.1⟩)))
  replace fin:=za fin;clear hq;by_cases hk4:k < 4
  ·have c3:(k:Int) < 4:=by omega
   rw [if_pos hk4] at hun;have u:=bs_3 [120] [121] [122];obtain ⟨q4,h4,eq4,eh4,gq4,lh4⟩:=zj h3 [str [120],str [121],str [122]];have sv:StrsB (· ≠ p) h4 (.slice (some ⟨q4,0,none⟩) 3 1) zj8:=by
    rw [← eh4,← eq4];exact u4 h3 zj8 (by show h3.next≠p;have:=hs3.h.lt;omega) rfl rfl
   have hs4:=hs3.h.le lh4;replace sv:=za sv;replace hs4:=za hs4;replace lh4:=za lh4;simp only [zb,aR,ze,zf,zu, *];refine ud hs4.h o1.h o2.h o3.h sv.h (by decide) _ fun h5 l5 hs5=>?_;have l5:=(lh4.h.but p).trans l5;obtain ⟨f1,f2,f3⟩:=fin.h h5 _ 0 0 2 (yh c.any s1 zj8).1 nSq [] l5 hs5 ExsVB.nil hun;have bv:=qb0 (yh c.any s1 zj8).1;replace f3:=Hid.mk f3;clear fin hs5 l5 hun sv hs4 hih;simp only [zb,aR,aW,zu, *];exact f3.h
  rw [if_neg hk4] at hun;have c3:¬ (k:Int) < 4:=by omega
  by_cases hk5:k=4
  ·subst hk5;have c4:((4:Nat):Int)=4:=rfl;rw [if_pos rfl] at hun;replace hih:=za hih;replace hun:=za hun;clear hk4 hk2;have hlt:=ya hs3.h.in (n:=3) (by omega);simp only [zb,ze,zf,Int.reduceLT, *];refine yc (n:=3) hs3.h (by omega) (by omega) _ fun h4 l4 _ hs4=>jr l4 ?_;have g4:=l4.keep (i:=q1) hq1 g1;have hc4:=hc3.h.but l4;have hn4:=l4.next;obtain ⟨o,ho⟩:∃ o,(zh s1 3).1=o:=⟨_,rfl⟩;rw [ho] at hlt hun;rw [ho];have hw15:IntKind.i64.wrap (15 + (o:Int))=15 + (o:Int):=zn (by omega) (by omega);have l4:=l3.h.trans l4;replace hs4:=za hs4;replace l4:=za l4;replace hc4:=za hc4;replace hlt:=za hlt;replace hn4:=za hn4;simp only [zb,aR,ze,zf,zu, *];refine hih.h _ _ _ _ _ hs4.h hc4.h fun h5 y l5 hs5 hy5=>?_;have l5':=l4.h.trans l5;have hnx:h4.next≤h5.next:=l5.next;have u:=Zk hy5.ones;have hnew:=ExsVB.new (B':=fun id=>h.next≤id∧id≠q2) (l:=[(yd c d' (zh s1 3).2).1]) (xs:=[y]) ⟨y,[],rfl,hy5,rfl⟩ (fun id hb _=>by have h1:=hn4.h;have h2:=l33.h.next;have h3:=Heap.lt_of_get g2;have h4:h4.next≤id:=hb;have h5:=hq2n.h;constructor<;>omega)
    (by have h1:=hn4.h;have h2:=l33.h.next;have h3:=Heap.lt_of_get g2;have h5:=hq2n.h;constructor<;>omega) (by simp) (by simpa using hy5.ones.1) (cells:=y) (by simp) (n:=1) rfl
   obtain ⟨q6,h6,eq6,eh6,gq6,lh6⟩:=zj h5 y;rw [eh6,eq6] at hnew;have hs6:=hs5.le lh6;obtain ⟨f1,f2,f3⟩:=fin.h h6 _ (15 + (o:Int)) 0 3 [] _ _ (l5'.le' lh6) hs6 hnew hun.h;have bv:=zj3 3 (15 + (o:Int)) (i:=q6) (n:=1);replace f3:=Hid.mk f3;clear fin hs5 l5 l5' hun hs6 hnew lh6 hih hy5 g4 gq6;simp only [zb,aR,aW,ze,zf,zu, *];exact f3.h
  rw [if_neg hk5] at hun;have c4:((k:Int) == 4)=false:=by simp;omega
  by_cases hk6:k=5∧(c.any=true∨c.held≠[])
  ·obtain ⟨rfl,hk7⟩:=hk6;rw [if_pos ⟨rfl,hk7⟩] at hun;have c5:((5:Nat):Int)=5:=rfl;obtain ⟨_,_,hv',hx,t1,t2,t3,_⟩:=hc3.h;have hve:hv' = hv:=by injection hx with _ hx;injection hx with _ hx;injection hx with _ hx;injection hx with hx _;exact hx.symm
   subst hve;have ln:=t3.plain.len;have hgt:c.any=false→(0:Int) < (c.held.length:Int):=fun e=>by
    have:c.held≠[]:=hk7.resolve_left (by simp [e]);have:=List.length_pos_iff.2 this;omega
   replace hih:=za hih;replace hun:=za hun;replace t3:=za t3;replace hgt:=za hgt;clear hk4 hk2 hk5 hx t1 t2;have hboth:∀ b:Bool,c.any=b→(b=true∨(b=false∧(0:Int) < (c.held.length:Int))):=fun b e=>by
    cases b with
    | true=>exact .inl rfl
    | false=>exact .inr ⟨rfl,hgt.h e⟩
   clear hgt hk7;cases hany:c.any with
   | true =>
    clear hboth;rw [hany] at hun;simp only [hany] at *;simp only [zb,aR,ze,zf,Int.reduceBEq,Int.reduceLT,zu, *];refine ud hs3.h o1.h o2.h o3.h t3.h (by have:=hheld.h;omega) _ fun h4 l4 hs4=>jr l4 ?_;have g4:=l4.keep (i:=q1) hq1 g1;have hc4:=hc3.h.but l4;have hn4:=l4.next;obtain ⟨nm,hnm⟩:∃ nm,yh true s1 c.held=nm:=⟨_,rfl⟩;rw [hnm] at hs4 hun;rw [hnm];have l4:=l3.h.trans l4;replace hs4:=za hs4;replace l4:=za l4;replace hc4:=za hc4;replace hn4:=za hn4;simp only [zb,aR,ze,zf,zu, *];refine hih.h _ _ _ _ _ hs4.h hc4.h fun h5 y l5 hs5 hy5=>?_;have l5':=l4.h.trans l5;have hnx:h4.next≤h5.next:=l5.next;have u:=Zk hy5.ones;have hnew:=ExsVB.new (B':=fun id=>h.next≤id∧id≠q2) (l:=[(yd c d' nm.2).1]) (xs:=[y]) ⟨y,[],rfl,hy5,rfl⟩ (fun id hb _=>by have h1:=hn4.h;have h2:=l33.h.next;have h3:=Heap.lt_of_get g2;have h4:h4.next≤id:=hb;have h5:=hq2n.h;constructor<;>omega)
     (by have h1:=hn4.h;have h2:=l33.h.next;have h3:=Heap.lt_of_get g2;have h5:=hq2n.h;constructor<;>omega) (by simp) (by simpa using hy5.ones.1) (cells:=y) (by simp) (n:=1) rfl
    obtain ⟨q6,h6,eq6,eh6,gq6,lh6⟩:=zj h5 y;rw [eh6,eq6] at hnew;have hs6:=hs5.le lh6;obtain ⟨f1,f2,f3⟩:=fin.h h6 _ 0 0 5 nm.1 _ _ (l5'.le' lh6) hs6 hnew hun.h;have bv:=yc5 nm.1 (i:=q6) (n:=1);replace f3:=Hid.mk f3;clear fin hs5 l5 l5' hun hs6 hnew lh6 hih hy5 g4 gq6;simp only [zb,aR,aW,zu, *];exact f3.h
   | false =>
    have hgt:=(hboth _ hany).resolve_left (by simp);have hgt:=hgt.2;clear hboth;rw [hany] at hun;simp only [hany] at *;simp only [zb,aR,ze,zf,Int.reduceBEq,Int.reduceLT,zu, *];refine ud hs3.h o1.h o2.h o3.h t3.h (by have:=hheld.h;omega) _ fun h4 l4 hs4=>jr l4 ?_;have g4:=l4.keep (i:=q1) hq1 g1;have hc4:=hc3.h.but l4;have hn4:=l4.next;obtain ⟨nm,hnm⟩:∃ nm,yh false s1 c.held=nm:=⟨_,rfl⟩;rw [hnm] at hs4 hun;rw [hnm];have l4:=l3.h.trans l4;replace hs4:=za hs4;replace l4:=za l4;replace hc4:=za hc4;replace hn4:=za hn4;simp only [zb,aR,ze,zf,zu, *];refine hih.h _ _ _ _ _ hs4.h hc4.h fun h5 y l5 hs5 hy5=>?_;have l5':=l4.h.trans l5;have hnx:h4.next≤h5.next:=l5.next;have u:=Zk hy5.ones;have hnew:=ExsVB.new (B':=fun id=>h.next≤id∧id≠q2) (l:=[(yd c d' nm.2).1]) (xs:=[y]) ⟨y,[],rfl,hy5,rfl⟩ (fun id hb _=>by have h1:=hn4.h;have h2:=l33.h.next;have h3:=Heap.lt_of_get g2;have h4:h4.next≤id:=hb;have h5:=hq2n.h;constructor<;>omega)
     (by have h1:=hn4.h;have h2:=l33.h.next;have h3:=Heap.lt_of_get g2;have h5:=hq2n.h;constructor<;>omega) (by simp) (by simpa using hy5.ones.1) (cells:=y) (by simp) (n:=1) rfl
    obtain ⟨q6,h6,eq6,eh6,gq6,lh6⟩:=zj h5 y;rw [eh6,eq6] at hnew;have hs6:=hs5.le lh6;obtain ⟨f1,f2,f3⟩:=fin.h h6 _ 0 0 5 nm.1 _ _ (l5'.le' lh6) hs6 hnew hun.h;have bv:=yc5 nm.1 (i:=q6) (n:=1);replace f3:=Hid.mk f3;clear fin hs5 l5 l5' hun hs6 hnew lh6 hih hy5 g4 gq6;simp only [zb,aR,aW,zu, *];exact f3.h
  ·rw [if_neg hk6] at hun;have hlt:=ya hs3.h.in (n:=14) (by omega);obtain ⟨_,_,hv',hx,t1,t2,t3,_⟩:=hc3.h;have hve:hv' = hv:=by injection hx with _ hx;injection hx with _ hx;injection hx with _ hx;injection hx with hx _;exact hx.symm
   subst hve;have ln:=t3.plain.len;clear hx t1 t2 t3 hk4 hk2 hk5;replace hih:=za hih;replace hun:=za hun;by_cases hk7:k=5
   ·subst hk7;obtain ⟨hany,hh⟩:c.any=false∧c.held=[]:=by
     refine ⟨?_,?_⟩
     ·cases ha:c.any with
      | true=>exact absurd ⟨rfl,.inl ha⟩ hk6
      | false=>rfl
     ·cases hh:c.held with
      | nil=>rfl
      | cons a r=>exact absurd ⟨rfl,.inr (by simp [hh])⟩ hk6
    rw [hh] at ln;have c5:((5:Nat):Int)=5:=rfl;have c6:(([]:List (lBq)).length:Int)=0:=rfl;replace hh:=Hid.mk hh;clear hk6;simp only [hany] at *;simp only [zb,aR,ze,zf,Int.reduceBEq,Int.reduceLT, *];refine yc (n:=14) hs3.h (by omega) (by omega) _ fun h4 l4 _ hs4=>jr l4 ?_;have g4:=l4.keep (i:=q1) hq1 g1;have hc4:=hc3.h.but l4;have hn4:=l4.next;obtain ⟨o,ho⟩:∃ o,(zh s1 14).1=o:=⟨_,rfl⟩;rw [ho] at hlt hun;rw [ho];have hw15:IntKind.i64.wrap (1 + (o:Int))=1 + (o:Int):=zn (by omega) (by omega);have l4:=l3.h.trans l4;replace hs4:=za hs4;replace l4:=za l4;replace hc4:=za hc4;replace hlt:=za hlt;replace hn4:=za hn4;simp only [zb,aR,ze,zf,zu, *];refine hih.h _ _ _ _ _ hs4.h hc4.h fun h5 y l5 hs5 hy5=>jr l5 ?_;have g5:=l5.keep (i:=q1) hq1 g4;have hc5:=hc4.h.but l5;have l5':=l4.h.trans l5;have hn5:h4.next≤h5.next:=l5.next;have hp4:=hs4.h.lt;clear g4;replace hs5:=za hs5;replace l5':=za l5';replace hc5:=za hc5;replace hn5:=za hn5;replace hy5:=za hy5;replace hp4:=za hp4;simp only [zb,aR,ze,zf,zu, *];refine hih.h _ _ _ _ _ hs5.h hc5.h fun h6 z l6 hs6 hz6=>?_;have hy6:ExCB (fun id=>h4.next≤id) h6 _ y:=hy5.h.to (l6.toB fun id hb=>⟨by have h1:h4.next≤id:=hb;have h2:=hp4.h;omega,hb⟩);have hz6' : ExCB (fun id=>h4.next≤id) h6 _ z:=hz6.to (Heap.toB_id fun id hb=>by have h1:h5.next≤id:=hb;have h2:=hn5.h;show h4.next≤id;omega);have l6':=l5'.h.trans l6;have hnx:h5.next≤h6.next:=l6.next;have u:=yc6 hy6.ones hz6'.ones;have hnew:=ExsVB.new (B':=fun id=>h.next≤id∧id≠q2) (l:=[(yd c d' (zh s1 14).2).1,(yd c d' (yd c d' (zh s1 14).2).2).1]) (xs:=[y,z]) ⟨y,[z],rfl,hy6,z,[],rfl,hz6',rfl⟩ (fun id hb _=>by have h1:=hn4.h;have h2:=l33.h.next;have h3:=Heap.lt_of_get g2;have h4:h4.next≤id:=hb;have h5:=hq2n.h;constructor<;>omega)
     (by have h1:=hn4.h;have h2:=l33.h.next;have h3:=Heap.lt_of_get g2;have h5:=hq2n.h;have h6:=hn5.h;constructor<;>omega) (by simp) (by intro x hx;simp at hx;rcases hx with rfl | rfl;exact hy6.ones.1;exact hz6'.ones.1) (cells:=y++z) (by simp) (n:=2) rfl
    obtain ⟨q7,h7,eq7,eh7,gq7,lh7⟩:=zj h6 (y++z);rw [eh7,eq7] at hnew;have hs7:=hs6.le lh7;obtain ⟨f1,f2,f3⟩:=fin.h h7 _ (1 + (o:Int)) 0 4 [] _ _ (l6'.le' lh7) hs7 hnew hun.h;have bv:=zj3 4 (1 + (o:Int)) (i:=q7) (n:=2);replace f3:=Hid.mk f3;clear fin hs5 l5 l5' l6 l6' hun hs6 hs7 hnew lh7 hih hy5 hy6 hz6 hz6' g5 gq7;simp only [zb,aR,aW,ze,zf,zu, *];exact f3.h
   ·have c5:((k:Int) == 5)=false:=by simp;omega
    clear hk6 hk7;simp only [zb,ze,zf, *];refine yc (n:=14) hs3.h (by omega) (by omega) _ fun h4 l4 _ hs4=>jr l4 ?_;have g4:=l4.keep (i:=q1) hq1 g1;have hc4:=hc3.h.but l4;have hn4:=l4.next;obtain ⟨o,ho⟩:∃ o,(zh s1 14).1=o:=⟨_,rfl⟩;rw [ho] at hlt hun;rw [ho];have hw15:IntKind.i64.wrap (1 + (o:Int))=1 + (o:Int):=zn (by omega) (by omega);have l4:=l3.h.trans l4;replace hs4:=za hs4;replace l4:=za l4;replace hc4:=za hc4;replace hlt:=za hlt;replace hn4:=za hn4;simp only [zb,aR,ze,zf,zu, *];refine hih.h _ _ _ _ _ hs4.h hc4.h fun h5 y l5 hs5 hy5=>jr l5 ?_;have g5:=l5.keep (i:=q1) hq1 g4;have hc5:=hc4.h.but l5;have l5':=l4.h.trans l5;have hn5:h4.next≤h5.next:=l5.next;have hp4:=hs4.h.lt;clear g4;replace hs5:=za hs5;replace l5':=za l5';replace hc5:=za hc5;replace hn5:=za hn5;replace hy5:=za hy5;replace hp4:=za hp4;simp only [zb,aR,ze,zf,zu, *];refine hih.h _ _ _ _ _ hs5.h hc5.h fun h6 z l6 hs6 hz6=>?_;have hy6:ExCB (fun id=>h4.next≤id) h6 _ y:=hy5.h.to (l6.toB fun id hb=>⟨by have h1:h4.next≤id:=hb;have h2:=hp4.h;omega,hb⟩);have hz6' : ExCB (fun id=>h4.next≤id) h6 _ z:=hz6.to (Heap.toB_id fun id hb=>by have h1:h5.next≤id:=hb;have h2:=hn5.h;show h4.next≤id;omega);have l6':=l5'.h.trans l6;have hnx:h5.next≤h6.next:=l6.next;have u:=yc6 hy6.ones hz6'.ones;have hnew:=ExsVB.new (B':=fun id=>h.next≤id∧id≠q2) (l:=[(yd c d' (zh s1 14).2).1,(yd c d' (yd c d' (zh s1 14).2).2).1]) (xs:=[y,z]) ⟨y,[z],rfl,hy6,z,[],rfl,hz6',rfl⟩ (fun id hb _=>by have h1:=hn4.h;have h2:=l33.h.next;have h3:=Heap.lt_of_get g2;have h4:h4.next≤id:=hb;have h5:=hq2n.h;constructor<;>omega)
     (by have h1:=hn4.h;have h2:=l33.h.next;have h3:=Heap.lt_of_get g2;have h5:=hq2n.h;have h6:=hn5.h;constructor<;>omega) (by simp) (by intro x hx;simp at hx;rcases hx with rfl | rfl;exact hy6.ones.1;exact hz6'.ones.1) (cells:=y++z) (by simp) (n:=2) rfl
    obtain ⟨q7,h7,eq7,eh7,gq7,lh7⟩:=zj h6 (y++z);rw [eh7,eq7] at hnew;have hs7:=hs6.le lh7;obtain ⟨f1,f2,f3⟩:=fin.h h7 _ (1 + (o:Int)) 0 4 [] _ _ (l6'.le' lh7) hs7 hnew hun.h;have bv:=zj3 4 (1 + (o:Int)) (i:=q7) (n:=2);replace f3:=Hid.mk f3;clear fin hs5 l5 l5' l6 l6' hun hs6 hs7 hnew lh7 hih hy5 hy6 hz6 hz6' g5 gq7;simp only [zb,aR,aW,ze,zf,zu, *];exact f3.h
theorem uh (c:Sco):∀ (d:Nat),d≤100→ExprC c d
 | 0,hd=>yt5 hd fun d' hd'=>by omega
 | d + 1,hd=>yt5 hd fun d' hd'=>by cases hd';exact uh c d (by omega)
def Z5 (c:Sco) (s:List Int):lBq × Nat × List Int :=
 if c.any then ((yh true s c.ress).1,c.free,(yh true s c.ress).2)
 else
  let s1:=(yh false s c.ress).2;let i:=c.free + (zh s1 (c.ress.length - c.free)).1
  (c.ress.getD i [],i + 1,(zh s1 (c.ress.length - c.free)).2)
def inSco (c:Sco) (r:lBq) (f:Nat):Sco:={ c with free:=f,held:=c.held++[r] }
def Yu (rec:Option (Sco→List Int→List St × List Int)) (c:Sco) (loc:lBq) (k:Nat) (s2:List Int):St × List Int :=
 if k < 2 then
  let f:=yh c.any s2 c.devs
  (.mk 2 loc f.1 ((zh f.2 4).1:Nat) [] [] [],(zh f.2 4).2)
 else if k < 5 then
  let f:=yh c.any s2 c.devs;let n:=zh f.2 4
  (.mk 3 f.1 [] (n.1:Nat) [(yd c 3 n.2).1] [] [],(yd c 3 n.2).2)
 else if k < 7∧(c.any=true∨c.held≠[]) then
  let f:=yh c.any s2 c.held;let a:=yd c 2 f.2
  (.mk 4 f.1 [] 0 [a.1,(yd c 3 a.2).1] [] [],(yd c 3 a.2).2)
 else if k=11 then (.mk 8 [] [] 0 [] [] [],s2)
 else match rec with
  | none=>(.mk 1 loc [] 0 [(yd c 4 s2).1] [] [],(yd c 4 s2).2)
  | some rec =>
   if k < 9∧(c.any=true∨c.free < c.ress.length) then
    let r:=Z5 c s2;let b:=rec (inSco c r.1 r.2.1) r.2.2
    (.mk 5 r.1 [] 0 [] b.1 [],b.2)
   else if k=9 then
    let e:=yd c 3 s2;let t:=rec c e.2
    (.mk 6 [] [] 0 [e.1] t.1 (rec c t.2).1,(rec c t.2).2)
   else if k=10 then
    let n:=zh s2 5
    (.mk 7 [] [] (n.1:Nat) [] (rec c n.2).1 [],(rec c n.2).2)
   else (.mk 1 loc [] 0 [(yd c 4 s2).1] [] [],(yd c 4 s2).2)
def Zx (rec:Option (Sco→List Int→List St × List Int)) (c:Sco) (s:List Int):St × List Int :=
 Yu rec c (yh c.any s zj8).1 (zh (yh c.any s zj8).2 12).1 (zh (yh c.any s zj8).2 12).2
def jt (one:List Int→St × List Int):Nat→List Int→List St × List Int
 | 0,s=>([],s)
 | n + 1,s=>((one s).1::(jt one n (one s).2).1,(jt one n (one s).2).2)
def kw:Nat→Sco→List Int→List St × List Int
 | 0,c,s=>jt (Zx none c) (zh s 4).1 (zh s 4).2
 | d + 1,c,s=>jt (Zx (some (kw d)) c) (zh s 4).1 (zh s 4).2
def Wn:Nat→Option (Sco→List Int→List St × List Int)
 | 0=>none
 | d + 1=>some (kw d)
theorem zk3 (d:Nat) (c:Sco) (s:List Int):kw d c s=jt (Zx (Wn d) c) (zh s 4).1 (zh s 4).2:=by
 cases d<;>rfl
theorem Wd (one:List Int→St × List Int):∀ (n:Nat) (s:List Int),jt one (n + 1) s=((jt one n s).1++[(one (jt one n s).2).1],(one (jt one n s).2).2)
 | 0,s=>rfl
 | n + 1,s=>by
  have:=Wd one n (one s).2;rw [jt,this];rfl
theorem Yc (one:List Int→St × List Int):∀ (n:Nat) (s:List Int),(jt one n s).1.length=n
 | 0,s=>rfl
 | n + 1,s=>by simp [jt,Yc one n]
def StmtG (c:Sco) (d:Nat):Prop:=∀ (raw:List Int) (h:Heap) (p:Nat) (x:lVq) (Q:vPq),Src h p raw→ScB p h c x →
 (∀ h' y,h.leBut p h' → Src h' p (Zx (Wn d) c raw).2→StCB (fun id=>h.next≤id) h' (Zx (Wn d) c raw).1 y→Q (.agg y.toArray) h')→CallW Tryz.prog 47 [.agg x.toArray,pT p 0,iI (d:Int)] h Q
def qc3 (c:Sco) (d:Nat):Prop:=∀ (raw:List Int) (h:Heap) (p:Nat) (x:lVq) (Q:vPq),Src h p raw→ScB p h c x →
 (∀ h' v,h.leBut p h' → Src h' p (kw d c raw).2→StsVB (fun id=>h.next≤id) h' v (kw d c raw).1→Q v h')→CallW Tryz.prog 28 [.agg x.toArray,pT p 0,iI (d:Int)] h Q
theorem StCB.cells {B:Nat→Prop}{h:Heap}{e:St}{x:lVq}(hx:StCB B h e x):∃ v u w,x=[iI e.kind,str e.name,str e.src,iI e.n,v,u,w]∧ExsVB B h v e.args∧StsVB B h u e.thn∧StsVB B h w e.els:=by
 cases e;obtain ⟨v,xs,u,ys,w,zs,h1,h2,h3,h4⟩:=hx;exact ⟨v,u,w,h1,⟨xs,h2⟩,⟨ys,h3⟩,⟨zs,h4⟩⟩
theorem StsVB.one {B:Nat→Prop}{h:Heap}{v:Value}{l:List St}(hv:StsVB B h v l):v.oneCell' = true:=hv.plain.one
theorem StCB.ones {B:Nat→Prop}{h:Heap}{e:St}{x:lVq}(hx:StCB B h e x):x.length=7∧x.all (·.oneCell')=true:=by
 obtain ⟨v,u,w,rfl,hv,hu,hw⟩:=hx.cells;exact ⟨rfl,by simpa [Value.oneCell'] using ⟨hv.one,hu.one,hw.one⟩⟩
theorem StCsB.length {B:Nat→Prop}{h:Heap}:∀ {l:List St}{xs:List (lVq)},StCsB B h l xs→xs.length=l.length
 | [],_,hx=>by rw [show _=[] from hx];rfl
 | _::_,_,⟨x,xr,h1,h2,h3⟩=>by rw [h1];simp [StCsB.length h3]
theorem StCsB.snoc {B:Nat→Prop}{h:Heap}{e:St}{x:lVq}(hx:StCB B h e x):∀ {l:List St}{xs:List (lVq)},StCsB B h l xs→StCsB B h (l++[e]) (xs++[x])
 | [],_,h0=>by rw [show _=[] from h0];exact ⟨x,[],rfl,hx,rfl⟩
 | _::_,_,⟨y,yr,h1,h2,h3⟩=>by rw [h1];exact ⟨y,yr++[x],rfl,h2,StCsB.snoc hx h3⟩
theorem zq3 {x:lVq}(hx:x.length=7∧x.all (·.oneCell')=true):yj [iI 0,s0q,s0q,iI 0,nSq,nSq,nSq] [(0,7)] 1 7 [.agg x.toArray]=some (x,fun id=>.slice (some ⟨id,0,none⟩) 1 7):=ui rfl hx.1 rfl hx.2
end Go.Eng.Sy
namespace Go.Eng
open Go
def zw (n:Nat):Heap:=⟨n,fun _=>none,fun _ _=>rfl⟩
theorem ym {n:Nat}{h:Heap}(hn:n≤h.next):(zw n).le h:=⟨(fun _ _ e=>by cases e),hn⟩
theorem OwnS.notOf {n:Nat}{h:Heap}{s:Nat}{v:Value}{xs:List (lVq)}(ha:OwnS (zw n) h s v xs){i:Nat}(hi:i < n):notOf v i:=by
 rcases ha with ⟨rfl,_⟩ | ⟨id,rfl,h1,_⟩
 ·intro a b e;cases e
 ·intro a b e;cases e;have:n≤i:=h1;omega
theorem OwnS.keepBut {n p:Nat}{h h' : Heap}{s:Nat}{v:Value}{xs:List (lVq)}(ha:OwnS (zw n) h s v xs) (hp:p < n) (hl:h.leBut p h'):OwnS (zw n) h' s v xs :=
 ha.get fun id hv hs=>hl.get id (by
  rcases ha with ⟨rfl,_⟩ | ⟨id',e,h1,_⟩
  ·cases hv
  ·rw [hv] at e;cases e;have h2:n≤id:=h1;omega) hs
end Go.Eng
namespace Go.Eng.Sy
open Go Go.Eng Go.Proofs
theorem OwnS.slB {n:Nat}{h:Heap}{s:Nat}{v:Value}{xs:List (lVq)}(ha:OwnS (zw n) h s v xs):SlVB (fun id=>n≤id) h s v xs:=by
 have hsl:=ha.sl;rcases ha with ha | ⟨id,rfl,h1,_⟩
 ·exact .inl ha
 ·rcases hsl with ⟨e,_⟩ | ⟨id',off,e,hx⟩
  ·cases e
  ·cases e
   exact .inr ⟨_,_,rfl,hx.imp (fun e=>e) fun a=>⟨h1,a⟩⟩
theorem zx9 {c:Sco}{d:Nat}(hd:d≤100) (ih:StmtG c d):qc3 c d:=by
 intro raw h p x Q hs hc hq;have hc0:=hc;obtain ⟨dv,rv,hv,rfl,s1,s2,s3,_⟩:=hc;have b1:=yc7 (f:=(c.free:Int)) (a:=c.any) s1.one s2.one s3.one;obtain ⟨q1,h1,eq1,eh1,gq1,lh1⟩:=zj h [dv,rv,iI (c.free:Int),hv,.bool c.any];have hpl:=hs.lt;have hq1n:h.next≤q1:=by omega
 have hq1:q1≠p:=by omega
 have hs1:=hs.le lh1;have hc1:=hc0.le lh1;clear hs hc0 s1 s2 s3;replace hs1:=za hs1;replace hc1:=za hc1;replace lh1:=za lh1;replace ih:=za ih;replace hpl:=za hpl;replace hq1n:=za hq1n;refine zg (k:=4) ok28 rfl rfl rfl fun N=>?_;rw [zj7 c28 Ub rfl];delta c28;replace hq:=za hq;simp only [zb, *];refine yc (n:=4) hs1.h (by omega) (by omega) _ fun h2 l2 _ hs2=>?_;have g2:=l2.keep (i:=q1) hq1 gq1;have hc2:=hc1.h.but l2;have hlt:=ya hs1.h.in (n:=4) (by omega);have heq:=zk3 d c raw;obtain ⟨n,hn⟩:∃ k,(zh raw 4).1=k:=⟨_,rfl⟩;obtain ⟨r1,hr1⟩:∃ k,(zh raw 4).2=k:=⟨_,rfl⟩;rw [hr1] at hs2;rw [hn,hr1] at heq;rw [hn] at hlt;rw [hn];rw [heq] at hq;have l2:=Heap.leBut.of_le lh1.h l2;clear hs1 hc1 lh1 gq1 b1 heq;have hne2:h.next≤h2.next:=l2.next;replace hs2:=za hs2;replace hc2:=za hc2;replace l2:=za l2;replace hlt:=za hlt;replace hne2:=za hne2;simp only [zb, *];have hp2:=hs2.h.lt;have hq2:=Heap.lt_of_get g2;refine LoopW.down (fun m e h3=>∃ j v xs x4,j + m=n∧e=[scV dv rv (c.free:Int) hv c.any,pT p 0,iI (d:Int),pT q1 0,x4,v,iI (m:Int)]∧h2.leBut p h3 ∧
  Src h3 p (jt (Zx (Wn d) c) j r1).2∧OwnS (zw h2.next) h3 7 v xs∧StCsB (fun id=>h2.next≤id∧notOf v id) h3 (jt (Zx (Wn d) c) j r1).1 xs) ?_ (m:=n) ⟨0,nSq,[],_,by omega,rfl,.refl _ _,hs2.h,OwnS.nil _ _ _,rfl⟩
 rintro m _ h3 R ⟨j,v,xs,x4,hj,rfl,l3,hs3,ho3,hx3⟩ hR;delta c28_l6;have g3:=l3.keep (i:=q1) hq1 g2;have hc3:=hc2.h.but l3;clear g2;replace l3:=za l3;replace hc3:=za hc3;replace hs3:=za hs3;replace ho3:=za ho3;replace hx3:=za hx3;replace hj:=za hj;replace hp2:=za hp2;replace hq2:=za hq2;cases m with
 | zero =>
  have z:¬ (0:Int) < ((0:Nat):Int):=by decide
  have hjn:j=n:=by have:=hj.h;omega
  rw [hjn] at hs3 hx3;have g:=hq.h h3 v (l2.h.trans l3.h) hs3.h ⟨xs,SlVB.to (Heap.toB_id fun id hb=>by have h1:h2.next≤id:=hb;have:=hne2.h;show h.next≤id;omega) (OwnS.slB ho3.h),by rw [hx3.h.length,Yc];have:=hlt.h;omega,hx3.h.to (Heap.toB_id fun id hb=>by have:=hb.1;have:=hne2.h;show h.next≤id;omega)⟩;replace g:=Hid.mk g;clear hR hq hjn;simp only [zb,ze,zf, *];exact g.h
 | succ m =>
  have z:(0:Int) < ((m + 1:Nat):Int):=by omega
  have hw:IntKind.i64.wrap (((m + 1:Nat):Int) - 1)=(m:Int):=by have:=hj.h;have:=hlt.h;rw [zn (by omega) (by omega)];omega
  simp only [zb,aR,ze,zf,zu, *];refine ih.h _ _ _ _ _ hs3.h hc3.h fun h4 y l4 hs4 hy4=>?_;have ho4:=ho3.h.keepBut (by exact hp2.h) l4;have hne3:h2.next≤h3.next:=l3.h.next;have hvlt:∀ id,h3.next≤id→notOf v id:=fun id hid=>by
   rcases ho3.h with ⟨rfl,_⟩ | ⟨b,rfl,_,hg,_⟩
   ·intro a b e;cases e
   ·intro a b' e;cases e;have:=Heap.lt_of_get hg;omega
  have hx4:StCsB (fun id=>h2.next≤id∧notOf v id) h4 _ xs:=hx3.h.to (l4.toB fun id hb=>⟨by have:=hb.1;have:=hp2.h;omega,hb⟩);have hy4' : StCB (fun id=>h2.next≤id∧notOf v id) h4 _ y:=hy4.to (Heap.toB_id fun id hb=>by have h1:h3.next≤id:=hb;exact ⟨by omega,hvlt id h1⟩);have hlen:xs.length=j:=by rw [hx4.length,Yc]
  obtain ⟨v',h5,ap,ho5,le5,k5,n5,nx5⟩:=ho4.append1 (x:=y) (ym (by have:=l4.next;show h2.next≤h4.next;omega)) hy4'.ones.1 (by omega) (b:=120) (by have:=hj.h;have:=hlt.h;omega) (by have:=hj.h;have:=hlt.h;omega);have u:=zq3 hy4'.ones;have hk:Heap.toB (fun id=>h2.next≤id∧notOf v id) (fun id=>h2.next≤id∧notOf v' id) h4 h5:=fun id cs own hb hg=>⟨⟨hb.1,n5 id (by rw [hg];rfl)⟩,by rw [k5 id (by rw [hg];rfl) hb.2];exact hg⟩;have hx5:=StCsB.snoc (hy4'.to hk) (hx4.to hk);have hsn:=Wd (Zx (Wn d) c) j r1;have e1:(jt (Zx (Wn d) c) (j + 1) r1).1=(jt (Zx (Wn d) c) j r1).1++[(Zx (Wn d) c (jt (Zx (Wn d) c) j r1).2).1]:=by rw [hsn]
  have e2:(jt (Zx (Wn d) c) (j + 1) r1).2=(Zx (Wn d) c (jt (Zx (Wn d) c) j r1).2).2:=by rw [hsn]
  rw [← e1] at hx5;rw [← e2] at hs4;have hold:∀ i,i < h2.next→(h4.get i).isSome=true→h5.get i=h4.get i:=fun i hi hsm=>k5 i hsm (ho3.h.notOf hi);have l5:h2.leBut p h5:=⟨fun i hi hsm=>by
   obtain ⟨o,hgo⟩:=Option.isSome_iff_exists.1 hsm;have hlt':=Heap.lt_of_get hgo;have h34:=(l3.h.trans l4).get i hi hsm;rw [hold i hlt' (by rw [h34];exact hsm),h34],by have:=l4.next;omega⟩
  have hs5:Src h5 p (jt (Zx (Wn d) c) (j + 1) r1).2:=by
   obtain ⟨u,k1,k2,k3⟩:=hs4;exact ⟨u,by rw [hold p (by exact hp2.h) (by rw [k1];rfl)];exact k1,SlVB.to (fun id cs own hb hg=>⟨hb,by rw [hold id (by have h1:id < p:=hb;have:=hp2.h;omega) (by rw [hg];rfl)];exact hg⟩) k2,k3⟩
  clear hx3 hs3 ho3 hc3 hx4 hs4 ho4 hy4 hy4' k5 n5 hk hold l4 nx5 le5 e1 e2 hsn hvlt l3 g3;replace l5:=za l5;replace hs5:=za hs5;replace ho5:=za ho5;replace hx5:=za hx5;simp only [zb,aW,ze,zf, *];exact hR.h m _ _ (by omega) ⟨j + 1,v',xs++[y],_,by have:=hj.h;omega,rfl,l5.h,hs5.h,ho5.h,hx5.h⟩
abbrev zS:lVq:=[iI 0,s0q,s0q,iI 0,nSq,nSq,nSq]
abbrev zq:Value:=nSq
def IsS (v:Value):Prop:=∃ p a b,v = .slice p a b
theorem bSet {v:Value}(m:lBq) (hv:IsS v) (k:Int):yo zS [(0,1),(1,1),(4,1)] [iI k,str m,v]=some (stV k m [] 0 v zq zq):=by
 obtain ⟨_,_,_,rfl⟩:=hv;rfl
theorem bGet (m f:lBq) (n:Int):yo zS [(0,1),(1,1),(2,1),(3,1)] [iI 2,str m,str f,iI n]=some (stV 2 m f n zq zq zq):=rfl
theorem bPut {v:Value}(m:lBq) (n:Int) (hv:IsS v):yo zS [(0,1),(1,1),(3,1),(4,1)] [iI 3,str m,iI n,v]=some (stV 3 m [] n v zq zq):=by
 obtain ⟨_,_,_,rfl⟩:=hv;rfl
theorem bLock {v:Value}(m:lBq) (hv:IsS v):yo zS [(0,1),(1,1),(5,1)] [iI 5,str m,v]=some (stV 5 m [] 0 zq v zq):=by
 obtain ⟨_,_,_,rfl⟩:=hv;rfl
theorem bIf {v u w:Value}(hv:IsS v) (hu:IsS u) (hw:IsS w):yo zS [(0,1),(4,1),(5,1),(6,1)] [iI 6,v,u,w]=some (stV 6 [] [] 0 v u w):=by
 obtain ⟨_,_,_,rfl⟩:=hv;obtain ⟨_,_,_,rfl⟩:=hu;obtain ⟨_,_,_,rfl⟩:=hw;rfl
theorem bRep {v:Value}(n:Int) (hv:IsS v):yo zS [(0,1),(3,1),(5,1)] [iI 7,iI n,v]=some (stV 7 [] [] n zq v zq):=by
 obtain ⟨_,_,_,rfl⟩:=hv;rfl
theorem bHalt:yo zS [(0,1)] [iI 8]=some (stV 8 [] [] 0 zq zq zq):=rfl
theorem SlVB.isS {B:Nat→Prop}{h:Heap}{s:Nat}{v:Value}{xs:List (lVq)}(hv:SlVB B h s v xs):IsS v:=by
 rcases hv with ⟨rfl,_⟩ | ⟨id,off,rfl,_⟩<;>exact ⟨_,_,_,rfl⟩
theorem StsVB.isS {B:Nat→Prop}{h:Heap}{v:Value}{l:List St}(hv:StsVB B h v l):IsS v:=hv.elim fun _ a=>a.1.isS
theorem ExsVB.isS {B:Nat→Prop}{h:Heap}{v:Value}{l:List Ex}(hv:ExsVB B h v l):IsS v:=hv.elim fun _ a=>a.1.isS
theorem zy1 {c:Sco}{d:Nat}(hcd:c.held.length + d≤100) (ih:∀ d',d=d' + 1 → ∀ c:Sco,c.held.length + d' ≤ 100→qc3 c d'):StmtG c d:=by
 replace hcd:=Hid.mk hcd;intro raw h p x Q hs hc hq;have hc0:=hc;obtain ⟨dv,rv,hv,rfl,s1,s2,s3,bd,br,bh,bf⟩:=hc;have b1:=yc7 (f:=(c.free:Int)) (a:=c.any) s1.one s2.one s3.one;have o1:=s1.one;have o2:=s2.one;have o3:=s3.one;obtain ⟨q1,h1,eq1,eh1,gq1,lh1⟩:=zj h [dv,rv,iI (c.free:Int),hv,.bool c.any];obtain ⟨q2,h2,eq2,eh2,gq2,lh2⟩:=zj h1 zS;have hpl:=hs.lt;have hq1n:h.next≤q1:=by omega
 have hlh:=lh1.next;have hq12:=Heap.lt_of_get gq1;have hq2n:h.next≤q2:=by omega
 have hq1:q1≠p:=by omega
 have hq2:q2≠p:=by omega
 have hpq2:p < q2:=by omega
 have gq1':=lh2.get gq1;have l2:=lh1.trans lh2;have hs2:=hs.le l2;have hc2:=hc0.le l2;have hd2:StrsB (· ≠ p) h2 dv c.devs:=SlVB.to (l2.toB fun _ h=>h) s1;have hr2:StrsB (· ≠ p) h2 rv c.ress:=SlVB.to (l2.toB fun _ h=>h) s2;have hh2:StrsB (· ≠ p) h2 hv c.held:=SlVB.to (l2.toB fun _ h=>h) s3;have u3:=bs_3 [120] [121] [122];obtain ⟨q3,h3,eq3,eh3,gq3,lh3⟩:=zj h2 [str [120],str [121],str [122]];have sv:StrsB (· ≠ p) h3 (.slice (some ⟨q3,0,none⟩) 3 1) zj8:=by
  rw [← eh3,← eq3];exact u4 h2 zj8 (by show h2.next≠p;have:=hs2.lt;omega) rfl rfl
 have hs3:=hs2.le lh3;have gA3:=lh3.get gq1';have gB2:=gq2;have gA2:=gq1';clear hs hc0 s1 s2 s3 gq1 lh1 lh2 hlh hs2 gq2;replace hc2:=za hc2;replace l2:=za l2;replace o1:=za o1;replace o2:=za o2;replace o3:=za o3;replace ih:=za ih;replace hpl:=za hpl;replace hq1n:=za hq1n;replace hq12:=za hq12;replace hq2n:=za hq2n;replace bd:=za bd;replace br:=za br;replace bh:=za bh;replace bf:=za bf;replace hd2:=za hd2;replace hr2:=za hr2;replace hh2:=za hh2;replace sv:=za sv;replace hs3:=za hs3;replace lh3:=za lh3;replace gA2:=za gA2;replace gB2:=za gB2;refine Ks (k:=4) (agg:=true) (size:=7) ok47 rfl rfl rfl fun N=>?_;rw [zj7 c47 yd9 rfl];delta c47;replace hq:=za hq;simp only [zb,aR,zu, *];refine ud hs3.h o1.h o2.h o3.h sv.h (by decide) _ fun h4 l4 hs4=>?_;have l4:=(lh3.h.but p).trans l4;obtain ⟨loc,hloc⟩:∃ k,(yh c.any raw zj8).1=k:=⟨_,rfl⟩;obtain ⟨r1,hr1⟩:∃ k,(yh c.any raw zj8).2=k:=⟨_,rfl⟩;have e0:Zx (Wn d) c raw=Yu (Wn d) c loc (zh r1 12).1 (zh r1 12).2:=by unfold Zx;rw [hloc,hr1]
 rw [hr1] at hs4;rw [hloc];clear hloc hr1 sv hs3 lh3 u3 eh3 eq3 gA3 gq1' b1 eh1 eh2 eq1 eq2;replace hs4:=za hs4;replace l4:=za l4;simp only [zb, *];refine yc (n:=12) hs4.h (by omega) (by omega) _ fun h5 l5 _ hs5=>?_;have hlt:=ya hs4.h.in (n:=12) (by omega);have l5:=l4.h.trans l5;obtain ⟨k,hk⟩:∃ k,(zh r1 12).1=k:=⟨_,rfl⟩;obtain ⟨r2,hr2'⟩:∃ k,(zh r1 12).2=k:=⟨_,rfl⟩;rw [hk,hr2'] at e0;rw [hk] at hlt;rw [hr2'] at hs5;rw [hk];rw [e0] at hq;have hp2:=hs4.h.lt;have fin:∀ (hN:Heap) (r:List Int) (kd n:Int) (m f:lBq) (v u w:Value) (a:List Ex) (t e:List St),h2.leBut p hN→Src hN p r→ExsVB (fun id=>h.next≤id∧id≠q2) hN v a→StsVB (fun id=>h.next≤id∧id≠q2) hN u t→StsVB (fun id=>h.next≤id∧id≠q2) hN w e→Yu (Wn d) c loc k r2=(.mk kd m f n a t e,r) →
   zt 7 hN [pT q2 0,stV kd m f n v u w]=some (udq,hN.set q2 (.blk [iI kd,str m,str f,iI n,v,u,w] true)) ∧
   (hN.set q2 (.blk [iI kd,str m,str f,iI n,v,u,w] true)).get q2=some (.blk [iI kd,str m,str f,iI n,v,u,w] true) ∧
   Q (stV kd m f n v u w) (hN.set q2 (.blk [iI kd,str m,str f,iI n,v,u,w] true)):=by
  intro hN r kd n m f v u w a t e hlN hsN hvN huN hwN he;have gN:=hlN.keep hq2 gB2.h;refine ⟨yz gN rfl rfl rfl (by simpa [Value.oneCell'] using ⟨hvN.one,huN.one,hwN.one⟩),Heap.set_getS _ _ _ (by rw [gN];rfl),?_⟩;rw [he] at hq;have ht:Heap.toB (fun id=>h.next≤id∧id≠q2) (fun id=>h.next≤id) hN (hN.set q2 (.blk [iI kd,str m,str f,iI n,v,u,w] true)):=Heap.toB_set _ fun id hb=>⟨hb.2,hb.1⟩;exact hq.h _ _ ((Heap.leBut.of_le l2.h hlN).setQ hq2n.h _) (hsN.set hpq2 _) (StCB.of (hvN.to ht) (huN.to ht) (hwN.to ht))
 have bnd:∀ hN:Heap,h2.leBut p hN → ∀ id,hN.next≤id→h.next≤id∧id≠q2:=fun hN hl id hid=>by
  have h1:=hl.next;have h3:=Heap.lt_of_get gB2.h;have h5:=hq2n.h;constructor<;>omega
 have g1:=l5.keep (i:=q1) hq1 gA2.h;have hc5:=hc2.h.but l5;have hwd:∀ d',d=d' + 1→IntKind.i64.wrap (((d:Nat):Int) - 1)=(d' : Int):=fun d' e=>by have:=hcd.h;subst e;rw [zn (by omega) (by omega)];omega
 clear hq hs4 l4;replace fin:=za fin;replace bnd:=za bnd;replace hs5:=za hs5;replace l5:=za l5;replace hc5:=za hc5;replace hlt:=za hlt;replace hwd:=za hwd;replace e0:=za e0;replace hp2:=za hp2;have hp1:(q1 == p)=false:=by simpa using hq1
 clear e0;have e0:=Hid.mk True.intro;by_cases k2:k < 2
 ·have c1:(k:Int) < 2:=by omega
  have hun:Yu (Wn d) c loc k r2=(.mk 2 loc (yh c.any r2 c.devs).1 ((zh (yh c.any r2 c.devs).2 4).1:Nat) [] [] [],(zh (yh c.any r2 c.devs).2 4).2):=by
   unfold Yu;rw [if_pos k2]
  simp only [zb,aR,ze,zf,zu, *];refine ud hs5.h o1.h o2.h o3.h (SlVB.to (l5.h.toB fun _ h=>⟨h,h⟩) hd2.h) (by have:=bd.h;omega) _ fun h6 l6 hs6=>?_;have l6:=l5.h.trans l6;have g6:=l6.keep (i:=q1) hq1 gA2.h;have hc6:=hc2.h.but l6;replace hs6:=za hs6;replace l6:=za l6;replace hc6:=za hc6;simp only [zb, *];refine yc (n:=4) hs6.h (by omega) (by omega) _ fun h7 l7 _ hs7=>?_;have l7:=l6.h.trans l7;have g7:=l7.keep (i:=q1) hq1 gA2.h;have hc7:=hc2.h.but l7;replace hs7:=za hs7;replace l7:=za l7;replace hc7:=za hc7;obtain ⟨f1,f2,f3⟩:=fin.h h7 _ _ _ _ _ zq zq zq [] [] [] l7.h hs7.h ExsVB.nil StsVB.nil StsVB.nil hun;have bb:=bGet loc (yh c.any r2 c.devs).1 ((zh (yh c.any r2 c.devs).2 4).1:Nat);clear hun;replace f3:=Hid.mk f3;clear fin e0 bnd ih;simp only [zb,aR,aW,qv, *];exact f3.h
 have c1:¬ (k:Int) < 2:=by omega
 by_cases k5:k < 5
 ·have c2:(k:Int) < 5:=by omega
  have hun:Yu (Wn d) c loc k r2=(.mk 3 (yh c.any r2 c.devs).1 [] ((zh (yh c.any r2 c.devs).2 4).1:Nat) [(yd c 3 (zh (yh c.any r2 c.devs).2 4).2).1] [] [],(yd c 3 (zh (yh c.any r2 c.devs).2 4).2).2):=by
   unfold Yu;rw [if_neg k2,if_pos k5]
  simp only [zb,aR,ze,zf,zu, *];refine ud hs5.h o1.h o2.h o3.h (SlVB.to (l5.h.toB fun _ h=>⟨h,h⟩) hd2.h) (by have:=bd.h;omega) _ fun h6 l6 hs6=>jr l6 ?_;have l6:=l5.h.trans l6;have g6:=l6.keep (i:=q1) hq1 gA2.h;have hc6:=hc2.h.but l6;replace hs6:=za hs6;replace l6:=za l6;replace hc6:=za hc6;simp only [zb, *];refine yc (n:=4) hs6.h (by omega) (by omega) _ fun h7 l7 _ hs7=>jr l7 ?_;have l7:=l6.h.trans l7;have g7:=l7.keep (i:=q1) hq1 gA2.h;have hc7:=hc2.h.but l7;replace hs7:=za hs7;replace l7:=za l7;replace hc7:=za hc7;simp only [zb,aR,zu, *];refine uh c 3 (by omega) _ _ _ _ _ hs7.h hc7.h fun h8 y8 l8 hs8 hy8=>?_;have lr8:=Hid.mk l8;have l8:=l7.h.trans l8;have g8:=l8.keep (i:=q1) hq1 gA2.h;have hc8:=hc2.h.but l8;replace hs8:=za hs8;replace l8:=za l8;replace hc8:=za hc8;replace hy8:=za hy8;have ux:=Zk hy8.h.ones;have hnew:=ExsVB.new (B':=fun id=>h.next≤id∧id≠q2) (l:=[_]) (xs:=[y8]) ⟨y8,[],rfl,hy8.h,rfl⟩ (fun id hb _=>bnd.h _ l7.h id hb) (bnd.h _ l8.h _ (Nat.le_refl _)) (by simp) (by simpa using hy8.h.ones.1) (cells:=y8) (by simp) (n:=1) rfl;obtain ⟨qx,h9,eqx,eh9,gqx,lh9⟩:=zj h8 y8;rw [eh9,eqx] at hnew;have hs9:=hs8.h.le lh9;have l9:=l8.h.le' lh9;obtain ⟨f1,f2,f3⟩:=fin.h h9 _ _ _ _ _ _ zq zq _ [] [] l9 hs9 hnew StsVB.nil StsVB.nil hun;have bb:=bPut (yh c.any r2 c.devs).1 ((zh (yh c.any r2 c.devs).2 4).1:Nat) hnew.isS;clear hun hnew hs9 l9 lh9;replace f3:=Hid.mk f3;clear fin e0 bnd ih;simp only [zb,aR,aW,qv, *];exact f3.h
 have c2:¬ (k:Int) < 5:=by omega
 by_cases k7:k < 7∧(c.any=true∨c.held≠[])
 ·have c3:(k:Int) < 7:=by omega
  have hun:Yu (Wn d) c loc k r2=(.mk 4 (yh c.any r2 c.held).1 [] 0 [(yd c 2 (yh c.any r2 c.held).2).1,(yd c 3 (yd c 2 (yh c.any r2 c.held).2).2).1] [] [],(yd c 3 (yd c 2 (yh c.any r2 c.held).2).2).2):=by
   unfold Yu;rw [if_neg k2,if_neg k5,if_pos k7]
  have ln:=(StrsB.plain hh2.h).len;have hany:c.any=true∨(c.any=false∧(0:Int) < (c.held.length:Int)):=by
   cases ha:c.any with
   | true=>exact .inl rfl
   | false =>
    have:=List.length_pos_iff.2 (k7.2.resolve_left (by simp [ha]));exact .inr ⟨rfl,by omega⟩
  clear k7 k5 k2;obtain ⟨any,hae⟩:∃ a,c.any=a:=⟨_,rfl⟩;rcases hany with hany | ⟨hany,hgt⟩
  ·skip
   clear hae;simp only [hany] at *;simp only [zb,aR,ze,zf,zu, *];refine ud hs5.h o1.h o2.h o3.h (SlVB.to (l5.h.toB fun _ h=>⟨h,h⟩) hh2.h) (by have:=bh.h;omega) _ fun h6 l6 hs6=>jr l6 ?_;have l6:=l5.h.trans l6;have g6:=l6.keep (i:=q1) hq1 gA2.h;have hc6:=hc2.h.but l6;replace hs6:=za hs6;replace l6:=za l6;replace hc6:=za hc6;simp only [zb,aR,zu, *];refine uh c 2 (by omega) _ _ _ _ _ hs6.h hc6.h fun h7 y7 l7 hs7 hy7=>jr l7 ?_;have lr7:=Hid.mk l7;have l7:=l6.h.trans l7;have g7:=l7.keep (i:=q1) hq1 gA2.h;have hc7:=hc2.h.but l7;replace hs7:=za hs7;replace l7:=za l7;replace hc7:=za hc7;replace hy7:=za hy7;simp only [zb,aR,zu, *];refine uh c 3 (by omega) _ _ _ _ _ hs7.h hc7.h fun h8 y8 l8 hs8 hy8=>?_;have lr8:=Hid.mk l8;have l8:=l7.h.trans l8;have g8:=l8.keep (i:=q1) hq1 gA2.h;have hc8:=hc2.h.but l8;replace hs8:=za hs8;replace l8:=za l8;replace hc8:=za hc8;replace hy8:=za hy8;have hy7' : ExCB (fun id=>h6.next≤id) h8 _ y7:=hy7.h.to (lr8.h.toB fun id hb=>⟨by have h1:h6.next≤id:=hb;have h2:=hs6.h.lt;omega,hb⟩);have hy8' : ExCB (fun id=>h6.next≤id) h8 _ y8:=hy8.h.to (Heap.toB_id fun id hb=>by have h1:h7.next≤id:=hb;have h2:=lr7.h.next;show h6.next≤id;omega);have ux:=yc6 hy7'.ones hy8'.ones;have hnew:=ExsVB.new (B':=fun id=>h.next≤id∧id≠q2) (l:=[_,_]) (xs:=[y7,y8]) ⟨y7,[y8],rfl,hy7',y8,[],rfl,hy8',rfl⟩ (fun id hb _=>bnd.h _ l6.h id hb) (bnd.h _ l8.h _ (Nat.le_refl _)) (by simp) (by intro x hx;simp at hx;rcases hx with rfl | rfl;exact hy7'.ones.1;exact hy8'.ones.1) (cells:=y7++y8) (by simp) (n:=2) rfl;obtain ⟨qx,h9,eqx,eh9,gqx,lh9⟩:=zj h8 (y7++y8);rw [eh9,eqx] at hnew;have hs9:=hs8.h.le lh9;have l9:=l8.h.le' lh9;obtain ⟨f1,f2,f3⟩:=fin.h h9 _ _ _ _ _ _ zq zq _ [] [] l9 hs9 hnew StsVB.nil StsVB.nil hun;have bb:=bSet (yh true r2 c.held).1 hnew.isS 4;clear hun hnew hs9 l9 lh9 hy7' hy8';replace f3:=Hid.mk f3;clear fin e0 bnd ih;simp only [zb,aR,aW,qv, *];exact f3.h
  ·skip
   clear hae;simp only [hany] at *;simp only [zb,aR,ze,zf,zu, *];refine ud hs5.h o1.h o2.h o3.h (SlVB.to (l5.h.toB fun _ h=>⟨h,h⟩) hh2.h) (by have:=bh.h;omega) _ fun h6 l6 hs6=>jr l6 ?_;have l6:=l5.h.trans l6;have g6:=l6.keep (i:=q1) hq1 gA2.h;have hc6:=hc2.h.but l6;replace hs6:=za hs6;replace l6:=za l6;replace hc6:=za hc6;simp only [zb,aR,zu, *];refine uh c 2 (by omega) _ _ _ _ _ hs6.h hc6.h fun h7 y7 l7 hs7 hy7=>jr l7 ?_;have lr7:=Hid.mk l7;have l7:=l6.h.trans l7;have g7:=l7.keep (i:=q1) hq1 gA2.h;have hc7:=hc2.h.but l7;replace hs7:=za hs7;replace l7:=za l7;replace hc7:=za hc7;replace hy7:=za hy7;simp only [zb,aR,zu, *];refine uh c 3 (by omega) _ _ _ _ _ hs7.h hc7.h fun h8 y8 l8 hs8 hy8=>?_;have lr8:=Hid.mk l8;have l8:=l7.h.trans l8;have g8:=l8.keep (i:=q1) hq1 gA2.h;have hc8:=hc2.h.but l8;replace hs8:=za hs8;replace l8:=za l8;replace hc8:=za hc8;replace hy8:=za hy8;have hy7' : ExCB (fun id=>h6.next≤id) h8 _ y7:=hy7.h.to (lr8.h.toB fun id hb=>⟨by have h1:h6.next≤id:=hb;have h2:=hs6.h.lt;omega,hb⟩);have hy8' : ExCB (fun id=>h6.next≤id) h8 _ y8:=hy8.h.to (Heap.toB_id fun id hb=>by have h1:h7.next≤id:=hb;have h2:=lr7.h.next;show h6.next≤id;omega);have ux:=yc6 hy7'.ones hy8'.ones;have hnew:=ExsVB.new (B':=fun id=>h.next≤id∧id≠q2) (l:=[_,_]) (xs:=[y7,y8]) ⟨y7,[y8],rfl,hy7',y8,[],rfl,hy8',rfl⟩ (fun id hb _=>bnd.h _ l6.h id hb) (bnd.h _ l8.h _ (Nat.le_refl _)) (by simp) (by intro x hx;simp at hx;rcases hx with rfl | rfl;exact hy7'.ones.1;exact hy8'.ones.1) (cells:=y7++y8) (by simp) (n:=2) rfl;obtain ⟨qx,h9,eqx,eh9,gqx,lh9⟩:=zj h8 (y7++y8);rw [eh9,eqx] at hnew;have hs9:=hs8.h.le lh9;have l9:=l8.h.le' lh9;obtain ⟨f1,f2,f3⟩:=fin.h h9 _ _ _ _ _ _ zq zq _ [] [] l9 hs9 hnew StsVB.nil StsVB.nil hun;have bb:=bSet (yh false r2 c.held).1 hnew.isS 4;clear hun hnew hs9 l9 lh9 hy7' hy8';replace f3:=Hid.mk f3;clear fin e0 bnd ih;simp only [zb,aR,aW,qv, *];exact f3.h
 have hno:k < 7→c.any=false∧c.held=[]:=fun h7=>by
  constructor
  ·cases ha:c.any with
   | false=>rfl
   | true=>exact absurd ⟨h7,.inl ha⟩ k7
  ·cases hh:c.held with
   | nil=>rfl
   | cons a r=>exact absurd ⟨h7,.inr (by simp [hh])⟩ k7
 have ln:=(StrsB.plain hh2.h).len;have lnr:=(StrsB.plain hr2.h).len;replace hno:=za hno;replace ln:=za ln;replace lnr:=za lnr;by_cases k11:k=11
 ·subst k11;have e11:((11:Nat):Int)=11:=rfl;have hun:Yu (Wn d) c loc 11 r2=(.mk 8 [] [] 0 [] [] [],r2):=by
   unfold Yu;rw [if_neg k2,if_neg k5,if_neg k7,if_pos rfl]
  obtain ⟨f1,f2,f3⟩:=fin.h h5 _ _ _ _ _ zq zq zq [] [] [] l5.h hs5.h ExsVB.nil StsVB.nil StsVB.nil hun;have bb:=bHalt;clear k2 k5 k7 c1 c2 hun;replace f3:=Hid.mk f3;clear fin e0 bnd ih;simp only [zb,aR,aW,ze,zf,Int.reduceBEq,Int.reduceLT,qv, *];exact f3.h
 have e11:((k:Int) == 11)=false:=by simp;omega
 have hunB:∀ rec,Wn d=rec→Yu (Wn d) c loc k r2=match rec with
  | none=>(.mk 1 loc [] 0 [(yd c 4 r2).1] [] [],(yd c 4 r2).2)
  | some rec =>
   if k < 9∧(c.any=true∨c.free < c.ress.length) then
    (.mk 5 (Z5 c r2).1 [] 0 [] (rec (inSco c (Z5 c r2).1 (Z5 c r2).2.1) (Z5 c r2).2.2).1 [],(rec (inSco c (Z5 c r2).1 (Z5 c r2).2.1) (Z5 c r2).2.2).2)
   else if k=9 then
    (.mk 6 [] [] 0 [(yd c 3 r2).1] (rec c (yd c 3 r2).2).1 (rec c (rec c (yd c 3 r2).2).2).1,(rec c (rec c (yd c 3 r2).2).2).2)
   else if k=10 then
    (.mk 7 [] [] ((zh r2 5).1:Nat) [] (rec c (zh r2 5).2).1 [],(rec c (zh r2 5).2).2)
   else (.mk 1 loc [] 0 [(yd c 4 r2).1] [] [],(yd c 4 r2).2):=fun rec hrec=>by
  unfold Yu;rw [if_neg k2,if_neg k5,if_neg k7,if_neg k11,hrec];all_goals (cases rec<;>rfl)
 clear k2 k5 k7;rcases Nat.eq_zero_or_pos d with rfl | hdp
 ·have hun:=hunB none rfl;simp only at hun;have z0:¬ (0:Int) < ((0:Nat):Int):=by decide
  clear hunB;by_cases c3:(k:Int) < 7
  ·obtain ⟨hany,hh⟩:=hno.h (by omega);have ln:=ln.h;rw [hh] at ln;have lz:(([]:List (lBq)).length:Int)=0:=rfl;have c4:(k:Int) < 9:=by omega
   have e9:((k:Int) == 9)=false:=by simp;omega
   have e10:((k:Int) == 10)=false:=by simp;omega
   replace hh:=Hid.mk hh;simp only [hany] at *;simp only [zb,aR,ze,zf,Int.reduceLT,zu, *];refine uh c 4 (by omega) _ _ _ _ _ hs5.h hc5.h fun h6 y6 l6 hs6 hy6=>?_;have lr6:=Hid.mk l6;have l6:=l5.h.trans l6;have g6:=l6.keep (i:=q1) hq1 gA2.h;have hc6:=hc2.h.but l6;replace hs6:=za hs6;replace l6:=za l6;replace hc6:=za hc6;replace hy6:=za hy6;have ux:=Zk hy6.h.ones;have hnew:=ExsVB.new (B':=fun id=>h.next≤id∧id≠q2) (l:=[_]) (xs:=[y6]) ⟨y6,[],rfl,hy6.h,rfl⟩ (fun id hb _=>bnd.h _ l5.h id hb) (bnd.h _ l6.h _ (Nat.le_refl _)) (by simp) (by simpa using hy6.h.ones.1) (cells:=y6) (by simp) (n:=1) rfl;obtain ⟨qx,h7,eqx,eh7,gqx,lh7⟩:=zj h6 y6;rw [eh7,eqx] at hnew;have hs7:=hs6.h.le lh7;have l7:=l6.h.le' lh7;obtain ⟨f1,f2,f3⟩:=fin.h h7 _ _ _ _ _ _ zq zq _ [] [] l7 hs7 hnew StsVB.nil StsVB.nil hun;have bb:=bSet loc hnew.isS 1;clear hun hnew hs7 l7 lh7;replace f3:=Hid.mk f3;clear fin e0 bnd ih;simp only [zb,aR,aW,qv, *];exact f3.h
  ·by_cases c4:(k:Int) < 9
   ·have e9:((k:Int) == 9)=false:=by simp;omega
    have e10:((k:Int) == 10)=false:=by simp;omega
    simp only [zb,aR,ze,zf,zu, *];refine uh c 4 (by omega) _ _ _ _ _ hs5.h hc5.h fun h6 y6 l6 hs6 hy6=>?_;have lr6:=Hid.mk l6;have l6:=l5.h.trans l6;have g6:=l6.keep (i:=q1) hq1 gA2.h;have hc6:=hc2.h.but l6;replace hs6:=za hs6;replace l6:=za l6;replace hc6:=za hc6;replace hy6:=za hy6;have ux:=Zk hy6.h.ones;have hnew:=ExsVB.new (B':=fun id=>h.next≤id∧id≠q2) (l:=[_]) (xs:=[y6]) ⟨y6,[],rfl,hy6.h,rfl⟩ (fun id hb _=>bnd.h _ l5.h id hb) (bnd.h _ l6.h _ (Nat.le_refl _)) (by simp) (by simpa using hy6.h.ones.1) (cells:=y6) (by simp) (n:=1) rfl;obtain ⟨qx,h7,eqx,eh7,gqx,lh7⟩:=zj h6 y6;rw [eh7,eqx] at hnew;have hs7:=hs6.h.le lh7;have l7:=l6.h.le' lh7;obtain ⟨f1,f2,f3⟩:=fin.h h7 _ _ _ _ _ _ zq zq _ [] [] l7 hs7 hnew StsVB.nil StsVB.nil hun;have bb:=bSet loc hnew.isS 1;clear hun hnew hs7 l7 lh7;replace f3:=Hid.mk f3;clear fin e0 bnd ih;simp only [zb,aR,aW,qv, *];exact f3.h
   ·by_cases k9:k=9
    ·subst k9;have e9:((9:Nat):Int)=9:=rfl;clear c1 c2 c3 c4;simp only [zb,aR,ze,zf,Int.reduceBEq,Int.reduceLT,zu, *];refine uh c 4 (by omega) _ _ _ _ _ hs5.h hc5.h fun h6 y6 l6 hs6 hy6=>?_;have lr6:=Hid.mk l6;have l6:=l5.h.trans l6;have g6:=l6.keep (i:=q1) hq1 gA2.h;have hc6:=hc2.h.but l6;replace hs6:=za hs6;replace l6:=za l6;replace hc6:=za hc6;replace hy6:=za hy6;have ux:=Zk hy6.h.ones;have hnew:=ExsVB.new (B':=fun id=>h.next≤id∧id≠q2) (l:=[_]) (xs:=[y6]) ⟨y6,[],rfl,hy6.h,rfl⟩ (fun id hb _=>bnd.h _ l5.h id hb) (bnd.h _ l6.h _ (Nat.le_refl _)) (by simp) (by simpa using hy6.h.ones.1) (cells:=y6) (by simp) (n:=1) rfl;obtain ⟨qx,h7,eqx,eh7,gqx,lh7⟩:=zj h6 y6;rw [eh7,eqx] at hnew;have hs7:=hs6.h.le lh7;have l7:=l6.h.le' lh7;obtain ⟨f1,f2,f3⟩:=fin.h h7 _ _ _ _ _ _ zq zq _ [] [] l7 hs7 hnew StsVB.nil StsVB.nil hun;have bb:=bSet loc hnew.isS 1;clear hun hnew hs7 l7 lh7;replace f3:=Hid.mk f3;clear fin e0 bnd ih;simp only [zb,aR,aW,qv, *];exact f3.h
    ·have hk10:k=10:=by have:=hlt.h;omega
     subst hk10;have e10:((10:Nat):Int)=10:=rfl;clear c1 c2 c3 c4;simp only [zb,aR,ze,zf,Int.reduceBEq,Int.reduceLT,zu, *];refine uh c 4 (by omega) _ _ _ _ _ hs5.h hc5.h fun h6 y6 l6 hs6 hy6=>?_;have lr6:=Hid.mk l6;have l6:=l5.h.trans l6;have g6:=l6.keep (i:=q1) hq1 gA2.h;have hc6:=hc2.h.but l6;replace hs6:=za hs6;replace l6:=za l6;replace hc6:=za hc6;replace hy6:=za hy6;have ux:=Zk hy6.h.ones;have hnew:=ExsVB.new (B':=fun id=>h.next≤id∧id≠q2) (l:=[_]) (xs:=[y6]) ⟨y6,[],rfl,hy6.h,rfl⟩ (fun id hb _=>bnd.h _ l5.h id hb) (bnd.h _ l6.h _ (Nat.le_refl _)) (by simp) (by simpa using hy6.h.ones.1) (cells:=y6) (by simp) (n:=1) rfl;obtain ⟨qx,h7,eqx,eh7,gqx,lh7⟩:=zj h6 y6;rw [eh7,eqx] at hnew;have hs7:=hs6.h.le lh7;have l7:=l6.h.le' lh7;obtain ⟨f1,f2,f3⟩:=fin.h h7 _ _ _ _ _ _ zq zq _ [] [] l7 hs7 hnew StsVB.nil StsVB.nil hun;have bb:=bSet loc hnew.isS 1;clear hun hnew hs7 l7 lh7;replace f3:=Hid.mk f3;clear fin e0 bnd ih;simp only [zb,aR,aW,qv, *];exact f3.h
 obtain ⟨d',rfl⟩:∃ d',d=d' + 1:=⟨d - 1,by omega⟩;have zd:(0:Int) < ((d' + 1:Nat):Int):=by omega
 have hun:=hunB (some (kw d')) rfl;simp only at hun;have hwd:=hwd.h d' rfl;clear hunB hdp;by_cases klock:k < 9∧(c.any=true∨c.free < c.ress.length)
 ·rw [if_pos klock] at hun;have c4:(k:Int) < 9:=by omega
  have lnr:=lnr.h;cases hany:c.any with
  | true =>
   obtain ⟨rs,hrs⟩:∃ a,(yh true r2 c.ress).1=a:=⟨_,rfl⟩;obtain ⟨rr,hrr⟩:∃ a,(yh true r2 c.ress).2=a:=⟨_,rfl⟩;obtain ⟨fr,hfr'⟩:∃ a,c.free=a:=⟨_,rfl⟩;have hlk:Z5 c r2=(rs,fr,rr):=by unfold Z5;rw [hany,if_pos rfl,hrs,hrr,hfr']
   have hfr:(inSco c rs fr).free≤100:=by have:=bf.h;show fr≤100;omega
   rw [hlk] at hun;have c3:¬ (k:Int) < 7:=fun e=>by have:=(hno.h (by omega)).1;rw [hany] at this;cases this
   clear klock hlk;simp only [hany,hfr'] at g1 gA2 hc2 hc5 ⊢;have hst:=zx (h:=h5) (v:=scV dv rv (fr:Int) hv true) (zs:=[zq,zq,iI 0,zq,.bool false]) (cs:=[dv,rv,iI (fr:Int),hv,.bool true]) (size:=5) rfl rfl rfl (by simpa [Value.oneCell'] using ⟨o1.h,o2.h,o3.h⟩);obtain ⟨qn,h6,eqn,eh6,gqn,lh6⟩:=zj h5 [dv,rv,iI (fr:Int),hv,.bool true];rw [eh6,eqn] at hst;have g6:=lh6.get g1;have hqn2:h2.next≤qn:=by have:=l5.h.next;omega
   have hqnp:qn≠p:=by have:=hs5.h.lt;omega
   have hq1n' : q1≠qn:=by have:=Heap.lt_of_get g1;omega
   have hqn1:(q1 == qn)=false:=by simpa using hq1n'
   have hpn:(qn == p)=false:=by simpa using hqnp
   have hs6:=hs5.h.le lh6;have l6:=l5.h.le' lh6;replace hs6:=za hs6;replace l6:=za l6;replace lh6:=za lh6;replace hqn2:=za hqn2;simp only [zb,aR,aW,ze,zf,zu, *];refine ud hs6.h o1.h o2.h o3.h (SlVB.to (l6.h.toB fun _ h=>⟨h,h⟩) hr2.h) (by have:=br.h;omega) _ fun h7 l7 hs7=>?_;have gn7:=l7.keep (i:=qn) hqnp gqn;have g7:=l7.keep (i:=q1) hq1 g6;have l7:=l6.h.trans l7;clear gqn g6;replace hs7:=za hs7;replace l7:=za l7;rw [hrr] at hs7;rw [hrs];have hsl:=StrsB.plain (SlVB.to (B':=(· ≠ p)) (l7.h.toB fun _ h=>⟨h,h⟩) hh2.h);obtain ⟨va,h10,ap10,ho10,le10,k10,_,nx10⟩:=(OwnS.nil (zw h7.next) h7 1).append (ym (Nat.le_refl _)) hsl (by omega) (b:=16) (by have:=bh.h;simp;omega) (by have:=bh.h;simp;omega);obtain ⟨vb,h11,ap11,ho11,le11,k11,_,nx11⟩:=ho10.append1 (x:=[str rs]) le10 rfl (by omega) (b:=16) (by have:=bh.h;simp;omega) (by have:=bh.h;simp;omega);have bs1:=bs_1 rs;have leI:h7.le h11:=⟨fun i o hg=>by
    have h1:=Heap.lt_of_get hg;rw [k11 i (by rw [k10 i (by rw [hg];rfl) (by intro a b e;cases e)];rw [hg];rfl) (ho10.notOf h1),k10 i (by rw [hg];rfl) (by intro a b e;cases e)];exact hg,by omega⟩
   have gn11:=leI.get gn7;have g11:=leI.get g7;have vbS:IsS vb:=(OwnS.slB ho11).isS;have st16:=z6 (off:=3) gn11 (by simp) (v:=vb) (by obtain ⟨_,_,_,rfl⟩:=vbS;rfl) (by obtain ⟨_,_,_,rfl⟩:=vbS;rfl);have hqnl:=Heap.lt_of_get gn7;obtain ⟨h12,eh12⟩:∃ x_,h11.set qn (.blk [dv,rv,iI (fr:Int),vb,.bool true] true)=x_:=⟨_,rfl⟩;have st16' : zt 1 h11 [pT qn 3,vb]=some (udq,h12):=by rw [← eh12];exact st16
   have gn12:h12.get qn=some (.blk [dv,rv,iI (fr:Int),vb,.bool true] true):=by rw [← eh12];exact Heap.set_getS _ _ _ (by rw [gn11];rfl)
   have l12:h2.leBut p h12:=by rw [← eh12];exact (l7.h.le' leI).setQ hqn2.h _
   have hs12:Src h12 p rr:=by rw [← eh12];exact (hs7.h.le leI).set (by have:=hs5.h.lt;have:=hqn2.h;have:=hp2.h;have:=l5.h.next;omega) _
   have hheld:StrsB (· ≠ p) h12 vb (c.held++[rs]):=by
    have:=OwnS.slB ho11;rw [List.nil_append] at this;have h13:SlVB (· ≠ p) h12 1 vb ((c.held.map fun s=>[str s])++[[str rs]]):=by
     rw [← eh12];exact SlVB.to (Heap.toB_set _ fun id hb=>by have h1:h7.next≤id:=hb;have:=hs7.h.lt;constructor<;>omega) this
    show SlVB _ _ _ _ ((c.held++[rs]).map fun s=>[str s]);rw [List.map_append];exact h13
   have hc12:ScB p h12 (inSco c rs fr) [dv,rv,iI (fr:Int),vb,.bool true] :=
    ⟨dv,rv,vb,by rw [show (inSco c rs fr).any=true from hany];rfl,SlVB.to (l12.toB fun _ h=>⟨h,h⟩) hd2.h,SlVB.to (l12.toB fun _ h=>⟨h,h⟩) hr2.h,hheld,bd.h,br.h,by have:=hcd.h;simp [inSco];omega,hfr⟩
   have hns:=hcd.h;clear hsl leI gn11 g11 st16 eh12 hheld k10 k11 le10 le11 ho10 ho11 nx10 nx11;replace l12:=za l12;replace hs12:=za hs12;replace hc12:=za hc12;simp only [zb,aR,aW,ze,zf,zu, *];refine ih.h d' rfl (inSco c rs fr) (by simp [inSco];omega) _ _ _ _ _ hs12.h hc12.h fun h13 v l13 hs13 hv13=>?_;have l13:=l12.h.trans l13;have hvv:=hv13.to (B':=fun id=>h.next≤id∧id≠q2) (Heap.toB_id fun id hb=>bnd.h _ l12.h id hb);have bb:=bLock rs hvv.isS;obtain ⟨f1,f2,f3⟩:=fin.h h13 _ _ _ _ _ zq _ zq [] _ [] l13 hs13 ExsVB.nil hvv StsVB.nil hun;clear hun hvv hs13 l13 hv13;replace f3:=Hid.mk f3;clear fin e0 bnd ih;simp only [zb,aR,aW,qv, *];exact f3.h
  | false =>
   have hfl:c.free < c.ress.length:=klock.2.resolve_left (by simp [hany]);have hflI:(c.free:Int) < (c.ress.length:Int):=by omega
   have hlen0:(yh false r2 c.ress).1=(yh false r2 c.ress).1:=rfl;obtain ⟨r3,hr3⟩:∃ a,(yh false r2 c.ress).2=a:=⟨_,rfl⟩;obtain ⟨i,hi⟩:∃ a,(zh r3 (c.ress.length - c.free)).1=a:=⟨_,rfl⟩;obtain ⟨rr,hrr⟩:∃ a,(zh r3 (c.ress.length - c.free)).2=a:=⟨_,rfl⟩;obtain ⟨rs,hrs⟩:∃ a,c.ress.getD (c.free + i) []=a:=⟨_,rfl⟩;obtain ⟨fr,hfr'⟩:∃ a,c.free + i + 1=a:=⟨_,rfl⟩;have hlk:Z5 c r2=(rs,fr,rr):=by unfold Z5;rw [hany];simp only [Bool.false_eq_true,if_false];rw [hr3,hi,hrr,hrs,hfr']
   rw [hlk] at hun;clear klock hlk;simp only [hany] at g1 gA2 hc2 hc5 ⊢;have hwl:IntKind.i64.wrap ((c.ress.length:Int) - (c.free:Int))=((c.ress.length - c.free:Nat):Int):=by have:=br.h;rw [zn (by omega) (by omega)];omega
   replace hfl:=za hfl;by_cases c3:(k:Int) < 7
   ·have ln:=ln.h;rw [(hno.h (by omega)).2] at ln;have lz:(([]:List (lBq)).length:Int)=0:=rfl;have hst:=zx (h:=h5) (v:=scV dv rv (c.free:Int) hv false) (zs:=[zq,zq,iI 0,zq,.bool false]) (cs:=[dv,rv,iI (c.free:Int),hv,.bool false]) (size:=5) rfl rfl rfl (by simpa [Value.oneCell'] using ⟨o1.h,o2.h,o3.h⟩);obtain ⟨qn,h6,eqn,eh6,gqn,lh6⟩:=zj h5 [dv,rv,iI (c.free:Int),hv,.bool false];rw [eh6,eqn] at hst;have g6:=lh6.get g1;have hqn2:h2.next≤qn:=by have:=l5.h.next;omega
    have hqnp:qn≠p:=by have:=hs5.h.lt;omega
    have hq1n' : q1≠qn:=by have:=Heap.lt_of_get g1;omega
    have hqn1:(q1 == qn)=false:=by simpa using hq1n'
    have hpn:(qn == p)=false:=by simpa using hqnp
    have hs6:=hs5.h.le lh6;have l6:=l5.h.le' lh6;replace hs6:=za hs6;replace l6:=za l6;replace lh6:=za lh6;replace hqn2:=za hqn2;simp only [zb,aR,aW,ze,zf,Int.reduceLT,zu, *];refine ud hs6.h o1.h o2.h o3.h (SlVB.to (l6.h.toB fun _ h=>⟨h,h⟩) hr2.h) (by have:=br.h;omega) _ fun h7 l7 hs7=>?_;have gn7:=l7.keep (i:=qn) hqnp gqn;have g7:=l7.keep (i:=q1) hq1 g6;have l7:=l6.h.trans l7;clear gqn g6;replace hs7:=za hs7;replace l7:=za l7;rw [hr3] at hs7;have hlti:=ya hs7.h.in (n:=c.ress.length - c.free) (by have:=hfl.h;omega);rw [hi] at hlti;simp only [zb,aR,ze,zf, *];refine yc (n:=c.ress.length - c.free) hs7.h (by have:=hfl.h;omega) (by have:=br.h;omega) _ fun h8 l8 _ hs8=>jr l8 ?_;rw [hrr] at hs8;rw [hi];have gn8:=l8.keep (i:=qn) hqnp gn7;have g8:=l8.keep (i:=q1) hq1 g7;have l8:=l7.h.trans l8;have hrd:=StrsB.plain (SlVB.to (B':=(· ≠ p)) (l8.toB fun _ h=>⟨h,h⟩) hr2.h);obtain ⟨ide,off,cells,own,e1,e2,e3,_⟩:=hrd.elem (getD_some (l:=c.ress) (i:=c.free + i) (by have:=hfl.h;omega) []);rw [hrs] at e3;have hwa:IntKind.i64.wrap ((c.free:Int) + (i:Int))=((c.free + i:Nat):Int):=by have:=br.h;have:=hfl.h;rw [zn (by omega) (by omega)];omega
    have hwb:IntKind.i64.wrap (((c.free + i:Nat):Int) + 1)=(fr:Int):=by have:=br.h;have:=hfl.h;rw [zn (by omega) (by omega)];omega
    have st15:=jw (off:=2) (k:=.i64) (z:=(fr:Int)) gn8 (by simp);obtain ⟨h9,eh9⟩:∃ x_,h8.set qn (.blk ([dv,rv,iI (c.free:Int),hv,.bool false].set 2 (iI (fr:Int))) true)=x_:=⟨_,rfl⟩;rw [eh9] at st15;have gn9:h9.get qn=some (.blk [dv,rv,iI (fr:Int),hv,.bool false] true):=by rw [← eh9];exact Heap.set_getS _ _ _ (by rw [gn8];rfl)
    have g9:h9.get q1=some (.blk [dv,rv,iI (c.free:Int),hv,.bool false] true):=by rw [← eh9,Heap.set_getE _ _ _ _ hqn1];exact g8
    have hs9:Src h9 p rr:=by rw [← eh9];exact hs8.set (by have:=hp2.h;have:=hqn2.h;have:=hs5.h.lt;have:=l5.h.next;omega) _
    have l9:h2.leBut p h9:=by rw [← eh9];exact l8.setQ hqn2.h _
    have hfr:(inSco c rs fr).free≤100:=by have:=br.h;have:=hfl.h;show fr≤100;omega
    clear hrd eh9 l8 hs8 hlti hfr';replace hs9:=za hs9;replace l9:=za l9;have hsl:=StrsB.plain (SlVB.to (B':=(· ≠ p)) (l9.h.toB fun _ h=>⟨h,h⟩) hh2.h);obtain ⟨va,h10,ap10,ho10,le10,k10,_,nx10⟩:=(OwnS.nil (zw h9.next) h9 1).append (ym (Nat.le_refl _)) hsl (by omega) (b:=16) (by have:=bh.h;simp;omega) (by have:=bh.h;simp;omega);obtain ⟨vb,h11,ap11,ho11,le11,k11,_,nx11⟩:=ho10.append1 (x:=[str rs]) le10 rfl (by omega) (b:=16) (by have:=bh.h;simp;omega) (by have:=bh.h;simp;omega);have bs1:=bs_1 rs;have leI:h9.le h11:=⟨fun i o hg=>by
     have h1:=Heap.lt_of_get hg;rw [k11 i (by rw [k10 i (by rw [hg];rfl) (by intro a b e;cases e)];rw [hg];rfl) (ho10.notOf h1),k10 i (by rw [hg];rfl) (by intro a b e;cases e)];exact hg,by omega⟩
    have gn11:=leI.get gn9;have g11:=leI.get g9;have vbS:IsS vb:=(OwnS.slB ho11).isS;have st16:=z6 (off:=3) gn11 (by simp) (v:=vb) (by obtain ⟨_,_,_,rfl⟩:=vbS;rfl) (by obtain ⟨_,_,_,rfl⟩:=vbS;rfl);have hqnl:=Heap.lt_of_get gn9;obtain ⟨h12,eh12⟩:∃ x_,h11.set qn (.blk [dv,rv,iI (fr:Int),vb,.bool false] true)=x_:=⟨_,rfl⟩;have st16' : zt 1 h11 [pT qn 3,vb]=some (udq,h12):=by rw [← eh12];exact st16
    have gn12:h12.get qn=some (.blk [dv,rv,iI (fr:Int),vb,.bool false] true):=by rw [← eh12];exact Heap.set_getS _ _ _ (by rw [gn11];rfl)
    have l12:h2.leBut p h12:=by rw [← eh12];exact (l9.h.le' leI).setQ hqn2.h _
    have hs12:Src h12 p rr:=by rw [← eh12];exact (hs9.h.le leI).set (by have:=hs5.h.lt;have:=hqn2.h;have:=hp2.h;have:=l5.h.next;omega) _
    have hheld:StrsB (· ≠ p) h12 vb (c.held++[rs]):=by
     have:=OwnS.slB ho11;rw [List.nil_append] at this;have h13:SlVB (· ≠ p) h12 1 vb ((c.held.map fun s=>[str s])++[[str rs]]):=by
      rw [← eh12];exact SlVB.to (Heap.toB_set _ fun id hb=>by have h1:h9.next≤id:=hb;have:=hs9.h.lt;constructor<;>omega) this
     show SlVB _ _ _ _ ((c.held++[rs]).map fun s=>[str s]);rw [List.map_append];exact h13
    have hc12:ScB p h12 (inSco c rs fr) [dv,rv,iI (fr:Int),vb,.bool false] :=
     ⟨dv,rv,vb,by rw [show (inSco c rs fr).any=false from hany];rfl,SlVB.to (l12.toB fun _ h=>⟨h,h⟩) hd2.h,SlVB.to (l12.toB fun _ h=>⟨h,h⟩) hr2.h,hheld,bd.h,br.h,by have:=hcd.h;simp [inSco];omega,hfr⟩
    have hns:=hcd.h;clear hsl leI gn11 g11 st16 eh12 hheld k10 k11 le10 le11 ho10 ho11 nx10 nx11;replace l12:=za l12;replace hs12:=za hs12;replace hc12:=za hc12;simp only [zb,aR,aW,ze,zf,zu, *];refine ih.h d' rfl (inSco c rs fr) (by simp [inSco];omega) _ _ _ _ _ hs12.h hc12.h fun h13 v l13 hs13 hv13=>?_;have l13:=l12.h.trans l13;have hvv:=hv13.to (B':=fun id=>h.next≤id∧id≠q2) (Heap.toB_id fun id hb=>bnd.h _ l12.h id hb);have bb:=bLock rs hvv.isS;obtain ⟨f1,f2,f3⟩:=fin.h h13 _ _ _ _ _ zq _ zq [] _ [] l13 hs13 ExsVB.nil hvv StsVB.nil hun;clear hun hvv hs13 l13 hv13;replace f3:=Hid.mk f3;clear fin e0 bnd ih;simp only [zb,aR,aW,qv, *];exact f3.h
   ·skip
    have hst:=zx (h:=h5) (v:=scV dv rv (c.free:Int) hv false) (zs:=[zq,zq,iI 0,zq,.bool false]) (cs:=[dv,rv,iI (c.free:Int),hv,.bool false]) (size:=5) rfl rfl rfl (by simpa [Value.oneCell'] using ⟨o1.h,o2.h,o3.h⟩);obtain ⟨qn,h6,eqn,eh6,gqn,lh6⟩:=zj h5 [dv,rv,iI (c.free:Int),hv,.bool false];rw [eh6,eqn] at hst;have g6:=lh6.get g1;have hqn2:h2.next≤qn:=by have:=l5.h.next;omega
    have hqnp:qn≠p:=by have:=hs5.h.lt;omega
    have hq1n' : q1≠qn:=by have:=Heap.lt_of_get g1;omega
    have hqn1:(q1 == qn)=false:=by simpa using hq1n'
    have hpn:(qn == p)=false:=by simpa using hqnp
    have hs6:=hs5.h.le lh6;have l6:=l5.h.le' lh6;replace hs6:=za hs6;replace l6:=za l6;replace lh6:=za lh6;replace hqn2:=za hqn2;simp only [zb,aR,aW,ze,zf,zu, *];refine ud hs6.h o1.h o2.h o3.h (SlVB.to (l6.h.toB fun _ h=>⟨h,h⟩) hr2.h) (by have:=br.h;omega) _ fun h7 l7 hs7=>?_;have gn7:=l7.keep (i:=qn) hqnp gqn;have g7:=l7.keep (i:=q1) hq1 g6;have l7:=l6.h.trans l7;clear gqn g6;replace hs7:=za hs7;replace l7:=za l7;rw [hr3] at hs7;have hlti:=ya hs7.h.in (n:=c.ress.length - c.free) (by have:=hfl.h;omega);rw [hi] at hlti;simp only [zb,aR,ze,zf, *];refine yc (n:=c.ress.length - c.free) hs7.h (by have:=hfl.h;omega) (by have:=br.h;omega) _ fun h8 l8 _ hs8=>jr l8 ?_;rw [hrr] at hs8;rw [hi];have gn8:=l8.keep (i:=qn) hqnp gn7;have g8:=l8.keep (i:=q1) hq1 g7;have l8:=l7.h.trans l8;have hrd:=StrsB.plain (SlVB.to (B':=(· ≠ p)) (l8.toB fun _ h=>⟨h,h⟩) hr2.h);obtain ⟨ide,off,cells,own,e1,e2,e3,_⟩:=hrd.elem (getD_some (l:=c.ress) (i:=c.free + i) (by have:=hfl.h;omega) []);rw [hrs] at e3;have hwa:IntKind.i64.wrap ((c.free:Int) + (i:Int))=((c.free + i:Nat):Int):=by have:=br.h;have:=hfl.h;rw [zn (by omega) (by omega)];omega
    have hwb:IntKind.i64.wrap (((c.free + i:Nat):Int) + 1)=(fr:Int):=by have:=br.h;have:=hfl.h;rw [zn (by omega) (by omega)];omega
    have st15:=jw (off:=2) (k:=.i64) (z:=(fr:Int)) gn8 (by simp);obtain ⟨h9,eh9⟩:∃ x_,h8.set qn (.blk ([dv,rv,iI (c.free:Int),hv,.bool false].set 2 (iI (fr:Int))) true)=x_:=⟨_,rfl⟩;rw [eh9] at st15;have gn9:h9.get qn=some (.blk [dv,rv,iI (fr:Int),hv,.bool false] true):=by rw [← eh9];exact Heap.set_getS _ _ _ (by rw [gn8];rfl)
    have g9:h9.get q1=some (.blk [dv,rv,iI (c.free:Int),hv,.bool false] true):=by rw [← eh9,Heap.set_getE _ _ _ _ hqn1];exact g8
    have hs9:Src h9 p rr:=by rw [← eh9];exact hs8.set (by have:=hp2.h;have:=hqn2.h;have:=hs5.h.lt;have:=l5.h.next;omega) _
    have l9:h2.leBut p h9:=by rw [← eh9];exact l8.setQ hqn2.h _
    have hfr:(inSco c rs fr).free≤100:=by have:=br.h;have:=hfl.h;show fr≤100;omega
    clear hrd eh9 l8 hs8 hlti hfr';replace hs9:=za hs9;replace l9:=za l9;have hsl:=StrsB.plain (SlVB.to (B':=(· ≠ p)) (l9.h.toB fun _ h=>⟨h,h⟩) hh2.h);obtain ⟨va,h10,ap10,ho10,le10,k10,_,nx10⟩:=(OwnS.nil (zw h9.next) h9 1).append (ym (Nat.le_refl _)) hsl (by omega) (b:=16) (by have:=bh.h;simp;omega) (by have:=bh.h;simp;omega);obtain ⟨vb,h11,ap11,ho11,le11,k11,_,nx11⟩:=ho10.append1 (x:=[str rs]) le10 rfl (by omega) (b:=16) (by have:=bh.h;simp;omega) (by have:=bh.h;simp;omega);have bs1:=bs_1 rs;have leI:h9.le h11:=⟨fun i o hg=>by
     have h1:=Heap.lt_of_get hg;rw [k11 i (by rw [k10 i (by rw [hg];rfl) (by intro a b e;cases e)];rw [hg];rfl) (ho10.notOf h1),k10 i (by rw [hg];rfl) (by intro a b e;cases e)];exact hg,by omega⟩
    have gn11:=leI.get gn9;have g11:=leI.get g9;have vbS:IsS vb:=(OwnS.slB ho11).isS;have st16:=z6 (off:=3) gn11 (by simp) (v:=vb) (by obtain ⟨_,_,_,rfl⟩:=vbS;rfl) (by obtain ⟨_,_,_,rfl⟩:=vbS;rfl);have hqnl:=Heap.lt_of_get gn9;obtain ⟨h12,eh12⟩:∃ x_,h11.set qn (.blk [dv,rv,iI (fr:Int),vb,.bool false] true)=x_:=⟨_,rfl⟩;have st16' : zt 1 h11 [pT qn 3,vb]=some (udq,h12):=by rw [← eh12];exact st16
    have gn12:h12.get qn=some (.blk [dv,rv,iI (fr:Int),vb,.bool false] true):=by rw [← eh12];exact Heap.set_getS _ _ _ (by rw [gn11];rfl)
    have l12:h2.leBut p h12:=by rw [← eh12];exact (l9.h.le' leI).setQ hqn2.h _
    have hs12:Src h12 p rr:=by rw [← eh12];exact (hs9.h.le leI).set (by have:=hs5.h.lt;have:=hqn2.h;have:=hp2.h;have:=l5.h.next;omega) _
    have hheld:StrsB (· ≠ p) h12 vb (c.held++[rs]):=by
     have:=OwnS.slB ho11;rw [List.nil_append] at this;have h13:SlVB (· ≠ p) h12 1 vb ((c.held.map fun s=>[str s])++[[str rs]]):=by
      rw [← eh12];exact SlVB.to (Heap.toB_set _ fun id hb=>by have h1:h9.next≤id:=hb;have:=hs9.h.lt;constructor<;>omega) this
     show SlVB _ _ _ _ ((c.held++[rs]).map fun s=>[str s]);rw [List.map_append];exact h13
    have hc12:ScB p h12 (inSco c rs fr) [dv,rv,iI (fr:Int),vb,.bool false] :=
     ⟨dv,rv,vb,by rw [show (inSco c rs fr).any=false from hany];rfl,SlVB.to (l12.toB fun _ h=>⟨h,h⟩) hd2.h,SlVB.to (l12.toB fun _ h=>⟨h,h⟩) hr2.h,hheld,bd.h,br.h,by have:=hcd.h;simp [inSco];omega,hfr⟩
    have hns:=hcd.h;clear hsl leI gn11 g11 st16 eh12 hheld k10 k11 le10 le11 ho10 ho11 nx10 nx11;replace l12:=za l12;replace hs12:=za hs12;replace hc12:=za hc12;simp only [zb,aR,aW,ze,zf,zu, *];refine ih.h d' rfl (inSco c rs fr) (by simp [inSco];omega) _ _ _ _ _ hs12.h hc12.h fun h13 v l13 hs13 hv13=>?_;have l13:=l12.h.trans l13;have hvv:=hv13.to (B':=fun id=>h.next≤id∧id≠q2) (Heap.toB_id fun id hb=>bnd.h _ l12.h id hb);have bb:=bLock rs hvv.isS;obtain ⟨f1,f2,f3⟩:=fin.h h13 _ _ _ _ _ zq _ zq [] _ [] l13 hs13 ExsVB.nil hvv StsVB.nil hun;clear hun hvv hs13 l13 hv13;replace f3:=Hid.mk f3;clear fin e0 bnd ih;simp only [zb,aR,aW,qv, *];exact f3.h
 rw [if_neg klock] at hun;by_cases k9:k=9
 ·subst k9;rw [if_pos rfl] at hun;have e9:((9:Nat):Int)=9:=rfl;clear klock c1 c2;have c3:¬ (9:Int) < 7:=by decide
  simp only [zb,aR,ze,zf,Int.reduceLT,zu, *];refine uh c 3 (by omega) _ _ _ _ _ hs5.h hc5.h fun h6 y6 l6 hs6 hy6=>jr l6 ?_;have lr6:=Hid.mk l6;have l6:=l5.h.trans l6;have g6:=l6.keep (i:=q1) hq1 gA2.h;have hc6:=hc2.h.but l6;replace hs6:=za hs6;replace l6:=za l6;replace hc6:=za hc6;replace hy6:=za hy6;simp only [zb,aR,ze,zf,zu, *];refine ih.h d' rfl c (by have:=hcd.h;omega) _ _ _ _ _ hs6.h hc6.h fun h7 v7 l7 hs7 hv7=>jr l7 ?_;have lr7:=Hid.mk l7;have l7:=l6.h.trans l7;have g7:=l7.keep (i:=q1) hq1 gA2.h;have hc7:=hc2.h.but l7;replace hs7:=za hs7;replace l7:=za l7;replace hc7:=za hc7;replace hv7:=za hv7;simp only [zb,aR,ze,zf,zu, *];refine ih.h d' rfl c (by have:=hcd.h;omega) _ _ _ _ _ hs7.h hc7.h fun h8 v8 l8 hs8 hv8=>?_;have lr8:=Hid.mk l8;have l8:=l7.h.trans l8;have g8:=l8.keep (i:=q1) hq1 gA2.h;have hc8:=hc2.h.but l8;replace hs8:=za hs8;replace l8:=za l8;replace hc8:=za hc8;replace hv8:=za hv8;have hy8:ExCB (fun id=>h5.next≤id) h8 _ y6:=hy6.h.to ((lr7.h.trans lr8.h).toB fun id hb=>⟨by have h1:h5.next≤id:=hb;have h2:=hs5.h.lt;omega,hb⟩);have ux:=Zk hy8.ones;have hnew:=ExsVB.new (B':=fun id=>h.next≤id∧id≠q2) (l:=[_]) (xs:=[y6]) ⟨y6,[],rfl,hy8,rfl⟩ (fun id hb _=>bnd.h _ l5.h id hb) (bnd.h _ l8.h _ (Nat.le_refl _)) (by simp) (by simpa using hy8.ones.1) (cells:=y6) (by simp) (n:=1) rfl;have hv8' : StsVB (fun id=>h7.next≤id) h8 v8 _:=hv8.h;have hv7' : StsVB (fun id=>h.next≤id∧id≠q2) h8 v7 _:=hv7.h.to (lr8.h.toB fun id hb=>⟨by have h1:h6.next≤id:=hb;have h2:=hs6.h.lt;omega,bnd.h _ l6.h id hb⟩);obtain ⟨qx,h9,eqx,eh9,gqx,lh9⟩:=zj h8 y6;rw [eh9,eqx] at hnew;have hs9:=hs8.h.le lh9;have l9:=l8.h.le' lh9;have hv9:=hv7'.to (lh9.toB fun id hb=>hb);have hw9:=hv8'.to (B':=fun id=>h.next≤id∧id≠q2) (lh9.toB fun id hb=>bnd.h _ l7.h id hb);have bb:=bIf hnew.isS hv9.isS hw9.isS;obtain ⟨f1,f2,f3⟩:=fin.h h9 _ _ _ _ _ _ _ _ _ _ _ l9 hs9 hnew hv9 hw9 hun;clear hun hnew hs9 l9 lh9 hv9 hw9 hv7' hv8' hy8;replace f3:=Hid.mk f3;clear fin e0 bnd ih;simp only [zb,aR,aW,qv, *];exact f3.h
 rw [if_neg k9] at hun;by_cases k10:k=10
 ·subst k10;rw [if_pos rfl] at hun;have e10:((10:Nat):Int)=10:=rfl;clear klock c1 c2 k9;simp only [zb,ze,zf,Int.reduceBEq,Int.reduceLT, *];refine yc (n:=5) hs5.h (by omega) (by omega) _ fun h6 l6 _ hs6=>jr l6 ?_;have l6:=l5.h.trans l6;have g6:=l6.keep (i:=q1) hq1 gA2.h;have hc6:=hc2.h.but l6;replace hs6:=za hs6;replace l6:=za l6;replace hc6:=za hc6;simp only [zb,aR,ze,zf,zu, *];refine ih.h d' rfl c (by have:=hcd.h;omega) _ _ _ _ _ hs6.h hc6.h fun h7 v7 l7 hs7 hv7=>?_;have lr7:=Hid.mk l7;have l7:=l6.h.trans l7;have g7:=l7.keep (i:=q1) hq1 gA2.h;have hc7:=hc2.h.but l7;replace hs7:=za hs7;replace l7:=za l7;replace hc7:=za hc7;replace hv7:=za hv7;have hv7' : StsVB (fun id=>h.next≤id∧id≠q2) h7 v7 _:=hv7.h.to (Heap.toB_id fun id hb=>bnd.h _ l6.h id hb);have bb:=bRep ((zh r2 5).1:Nat) hv7'.isS;obtain ⟨f1,f2,f3⟩:=fin.h h7 _ _ _ _ _ zq _ zq [] _ [] l7.h hs7.h ExsVB.nil hv7' StsVB.nil hun;clear hun hv7';replace f3:=Hid.mk f3;clear fin e0 bnd ih;simp only [zb,aR,aW,qv, *];exact f3.h
 rw [if_neg k10] at hun;have c4:(k:Int) < 9:=by have:=hlt.h;omega
 have e9:((k:Int) == 9)=false:=by simp;omega
 have e10:((k:Int) == 10)=false:=by simp;omega
 have hany:c.any=false:=by
  cases ha:c.any with
  | false=>rfl
  | true=>exact absurd ⟨by omega,.inl ha⟩ klock
 have hfl:¬ (c.free:Int) < (c.ress.length:Int):=fun e=>klock ⟨by omega,.inr (by omega)⟩;have lnr:=lnr.h;clear klock;simp only [hany] at *;by_cases c3:(k:Int) < 7
 ·have ln:=ln.h;rw [(hno.h (by omega)).2] at ln;have lz:(([]:List (lBq)).length:Int)=0:=rfl;simp only [zb,aR,ze,zf,Int.reduceLT,zu, *];refine uh c 4 (by omega) _ _ _ _ _ hs5.h hc5.h fun h6 y6 l6 hs6 hy6=>?_;have lr6:=Hid.mk l6;have l6:=l5.h.trans l6;have g6:=l6.keep (i:=q1) hq1 gA2.h;have hc6:=hc2.h.but l6;replace hs6:=za hs6;replace l6:=za l6;replace hc6:=za hc6;replace hy6:=za hy6;have ux:=Zk hy6.h.ones;have hnew:=ExsVB.new (B':=fun id=>h.next≤id∧id≠q2) (l:=[_]) (xs:=[y6]) ⟨y6,[],rfl,hy6.h,rfl⟩ (fun id hb _=>bnd.h _ l5.h id hb) (bnd.h _ l6.h _ (Nat.le_refl _)) (by simp) (by simpa using hy6.h.ones.1) (cells:=y6) (by simp) (n:=1) rfl;obtain ⟨qx,h7,eqx,eh7,gqx,lh7⟩:=zj h6 y6;rw [eh7,eqx] at hnew;have hs7:=hs6.h.le lh7;have l7:=l6.h.le' lh7;obtain ⟨f1,f2,f3⟩:=fin.h h7 _ _ _ _ _ _ zq zq _ [] [] l7 hs7 hnew StsVB.nil StsVB.nil hun;have bb:=bSet loc hnew.isS 1;clear hun hnew hs7 l7 lh7;replace f3:=Hid.mk f3;clear fin e0 bnd ih;simp only [zb,aR,aW,qv, *];exact f3.h
 ·skip
  simp only [zb,aR,ze,zf,zu, *];refine uh c 4 (by omega) _ _ _ _ _ hs5.h hc5.h fun h6 y6 l6 hs6 hy6=>?_;have lr6:=Hid.mk l6;have l6:=l5.h.trans l6;have g6:=l6.keep (i:=q1) hq1 gA2.h;have hc6:=hc2.h.but l6;replace hs6:=za hs6;replace l6:=za l6;replace hc6:=za hc6;replace hy6:=za hy6;have ux:=Zk hy6.h.ones;have hnew:=ExsVB.new (B':=fun id=>h.next≤id∧id≠q2) (l:=[_]) (xs:=[y6]) ⟨y6,[],rfl,hy6.h,rfl⟩ (fun id hb _=>bnd.h _ l5.h id hb) (bnd.h _ l6.h _ (Nat.le_refl _)) (by simp) (by simpa using hy6.h.ones.1) (cells:=y6) (by simp) (n:=1) rfl;obtain ⟨qx,h7,eqx,eh7,gqx,lh7⟩:=zj h6 y6;rw [eh7,eqx] at hnew;have hs7:=hs6.h.le lh7;have l7:=l6.h.le' lh7;obtain ⟨f1,f2,f3⟩:=fin.h h7 _ _ _ _ _ _ zq zq _ [] [] l7 hs7 hnew StsVB.nil StsVB.nil hun;have bb:=bSet loc hnew.isS 1;clear hun hnew hs7 l7 lh7;replace f3:=Hid.mk f3;clear fin e0 bnd ih;simp only [zb,aR,aW,qv, *];exact f3.h
theorem zc4:∀ (d:Nat) (c:Sco),c.held.length + d≤100→qc3 c d
 | 0,c,hc=>zx9 (by omega) (zy1 hc fun d' hd'=>by omega)
 | d + 1,c,hc=>zx9 (by omega) (zy1 hc fun d' hd' c' hc'=>by cases hd';exact zc4 d c' hc')
end Go.Eng.Sy
