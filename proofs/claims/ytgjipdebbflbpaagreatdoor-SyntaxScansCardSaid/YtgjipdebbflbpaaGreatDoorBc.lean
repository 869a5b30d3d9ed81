/-
  Part of a proof of the laws of layer 06 (syntax): what each function does.
  Conditions: none.
-/
import Derived.Test.YtgjipdebbflbpaaGreatDoorBb
set_option linter.unusedSimpArgs false
set_option linter.unusedVariables false
namespace Go.Eng
open Go
def Heap.toB (B B' : Nat→Prop) (h h' : Heap):Prop:=∀ id cells own,B id→h.get id=some (.blk cells own)→B' id∧h'.get id=some (.blk cells own)
theorem Heap.le.toB {h h' : Heap}(hl:h.le h'){B B' : Nat→Prop}(hB:∀ id,B id→B' id):Heap.toB B B' h h':=fun id _ _ hb hg=>⟨hB id hb,hl.get hg⟩
theorem Heap.leBut.toB {p:Nat}{h h' : Heap}(hl:h.leBut p h'){B B' : Nat→Prop}(hB:∀ id,B id→id≠p∧B' id):Heap.toB B B' h h':=fun id _ _ hb hg=>⟨(hB id hb).2,by rw [hl.get id (hB id hb).1 (by rw [hg];rfl)];exact hg⟩
end Go.Eng
namespace Go.Eng.Sy
open Go Go.Eng Go.Proofs
def SlVB (B:Nat→Prop) (h:Heap) (s:Nat) (v:Value) (xs:List (List Value)):Prop :=
 (v = .slice none 0 0∧xs=[]) ∨ ∃ id off,v = .slice (some ⟨id,off,none⟩) xs.length s∧(xs=[]∨(B id∧At h id off s xs))
theorem SlVB.to {B B' : Nat→Prop}{h h' : Heap}(hk:Heap.toB B B' h h'){s:Nat}{v:Value}{xs:List (List Value)}(hv:SlVB B h s v xs):SlVB B' h' s v xs:=by
 rcases hv with hv | ⟨id,off,hv,ha⟩
 ·exact .inl hv
 ·refine .inr ⟨id,off,hv,?_⟩
  rcases ha with ha | ⟨hb,cells,own,hg,hx⟩
  ·exact .inl ha
  ·obtain ⟨b,g⟩:=hk id cells own hb hg
   exact .inr ⟨b,cells,own,g,hx⟩
theorem SlVB.plain {B:Nat→Prop}{h:Heap}{s:Nat}{v:Value}{xs:List (List Value)}(hv:SlVB B h s v xs):SlV h s v xs:=by
 rcases hv with hv | ⟨id,off,hv,ha⟩
 ·exact .inl hv
 ·exact .inr ⟨id,off,hv,ha.imp (fun e=>e) (·.2)⟩
theorem SlVB.nil (B:Nat→Prop) (h:Heap) (s:Nat):SlVB B h s (.slice none 0 0) []:=.inl ⟨rfl,rfl⟩
mutual
def ExCB (B:Nat→Prop) (h:Heap):Ex→List Value→Prop
 | .mk k o n m args,x=>∃ v xs,x=[.int .i64 k,.int .i64 o,.int .i64 n,str m,v]∧SlVB B h 5 v xs∧xs.length≤140737488355328∧ExCsB B h args xs
def ExCsB (B:Nat→Prop) (h:Heap):List Ex→List (List Value)→Prop
 | [],xs=>xs=[]
 | e::r,xs=>∃ x xr,xs=x::xr∧ExCB B h e x∧ExCsB B h r xr
end
mutual
def StCB (B:Nat→Prop) (h:Heap):St→List Value→Prop
 | .mk k m f n args thn els,x=>∃ v xs u ys w zs,x=[.int .i64 k,str m,str f,.int .i64 n,v,u,w]∧(SlVB B h 5 v xs∧xs.length≤140737488355328∧ExCsB B h args xs)∧(SlVB B h 7 u ys∧ys.length≤140737488355328∧StCsB B h thn ys)∧SlVB B h 7 w zs∧zs.length≤140737488355328∧StCsB B h els zs
def StCsB (B:Nat→Prop) (h:Heap):List St→List (List Value)→Prop
 | [],xs=>xs=[]
 | e::r,xs=>∃ x xr,xs=x::xr∧StCB B h e x∧StCsB B h r xr
end
def ExsVB (B:Nat→Prop) (h:Heap) (v:Value) (l:List Ex):Prop:=∃ xs,SlVB B h 5 v xs∧xs.length≤140737488355328∧ExCsB B h l xs
def StsVB (B:Nat→Prop) (h:Heap) (v:Value) (l:List St):Prop:=∃ xs,SlVB B h 7 v xs∧xs.length≤140737488355328∧StCsB B h l xs
mutual
theorem ExCB.to {B B' : Nat→Prop}{h h' : Heap}(hk:Heap.toB B B' h h'):∀ {e:Ex}{x:List Value},ExCB B h e x→ExCB B' h' e x
 | .mk _ _ _ _ _,_,⟨v,xs,h1,h2,hb,h3⟩=>⟨v,xs,h1,h2.to hk,hb,ExCsB.to hk h3⟩
theorem ExCsB.to {B B' : Nat→Prop}{h h' : Heap}(hk:Heap.toB B B' h h'):∀ {l:List Ex}{xs:List (List Value)},ExCsB B h l xs→ExCsB B' h' l xs
 | [],_,hx=>hx
 | _::_,_,⟨x,xr,h1,h2,h3⟩=>⟨x,xr,h1,ExCB.to hk h2,ExCsB.to hk h3⟩
end
mutual
theorem StCB.to {B B' : Nat→Prop}{h h' : Heap}(hk:Heap.toB B B' h h'):∀ {e:St}{x:List Value},StCB B h e x→StCB B' h' e x
 | .mk _ _ _ _ _ _ _,_,⟨v,xs,u,ys,w,zs,h1,h2,h3,h4,h5⟩=>⟨v,xs,u,ys,w,zs,h1,⟨h2.1.to hk,h2.2.1,ExCsB.to hk h2.2.2⟩,⟨h3.1.to hk,h3.2.1,StCsB.to hk h3.2.2⟩,h4.to hk,h5.1,StCsB.to hk h5.2⟩
theorem StCsB.to {B B' : Nat→Prop}{h h' : Heap}(hk:Heap.toB B B' h h'):∀ {l:List St}{xs:List (List Value)},StCsB B h l xs→StCsB B' h' l xs
 | [],_,hx=>hx
 | _::_,_,⟨x,xr,h1,h2,h3⟩=>⟨x,xr,h1,StCB.to hk h2,StCsB.to hk h3⟩
end
theorem ExsVB.to {B B' : Nat→Prop}{h h' : Heap}(hk:Heap.toB B B' h h'){v:Value}{l:List Ex}(hv:ExsVB B h v l):ExsVB B' h' v l:=let ⟨xs,a,c,b⟩:=hv;⟨xs,a.to hk,c,b.to hk⟩
theorem StsVB.to {B B' : Nat→Prop}{h h' : Heap}(hk:Heap.toB B B' h h'){v:Value}{l:List St}(hv:StsVB B h v l):StsVB B' h' v l:=let ⟨xs,a,c,b⟩:=hv;⟨xs,a.to hk,c,b.to hk⟩
section
variable {B:Nat→Prop}{h:Heap}
mutual
theorem ExCB.plain:∀ {e:Ex}{x:List Value},ExCB B h e x→ExC h e x
 | .mk _ _ _ _ _,_,⟨v,xs,h1,h2,hb,h3⟩=>⟨v,xs,h1,h2.plain,hb,ExCsB.plain h3⟩
theorem ExCsB.plain:∀ {l:List Ex}{xs:List (List Value)},ExCsB B h l xs→ExCs h l xs
 | [],_,hx=>hx
 | _::_,_,⟨x,xr,h1,h2,h3⟩=>⟨x,xr,h1,ExCB.plain h2,ExCsB.plain h3⟩
end
mutual
theorem StCB.plain:∀ {e:St}{x:List Value},StCB B h e x→StC h e x
 | .mk _ _ _ _ _ _ _,_,⟨v,xs,u,ys,w,zs,h1,h2,h3,h4,h5⟩=>⟨v,xs,u,ys,w,zs,h1,⟨h2.1.plain,h2.2.1,ExCsB.plain h2.2.2⟩,⟨h3.1.plain,h3.2.1,StCsB.plain h3.2.2⟩,h4.plain,h5.1,StCsB.plain h5.2⟩
theorem StCsB.plain:∀ {l:List St}{xs:List (List Value)},StCsB B h l xs→StCs h l xs
 | [],_,hx=>hx
 | _::_,_,⟨x,xr,h1,h2,h3⟩=>⟨x,xr,h1,StCB.plain h2,StCsB.plain h3⟩
end
theorem ExsVB.plain {v:Value}{l:List Ex}(hv:ExsVB B h v l):ExsV h v l:=let ⟨xs,a,c,b⟩:=hv;⟨xs,a.plain,c,b.plain⟩
theorem StsVB.plain {v:Value}{l:List St}(hv:StsVB B h v l):StsV h v l:=let ⟨xs,a,c,b⟩:=hv;⟨xs,a.plain,c,b.plain⟩
theorem ExsVB.nil:ExsVB B h (.slice none 0 0) []:=⟨[],.inl ⟨rfl,rfl⟩,by simp,rfl⟩
theorem StsVB.nil:StsVB B h (.slice none 0 0) []:=⟨[],.inl ⟨rfl,rfl⟩,by simp,rfl⟩
theorem ExCB.of {k o n:Int}{m:List UInt8}{v:Value}{l:List Ex}(hv:ExsVB B h v l):ExCB B h (.mk k o n m l) [.int .i64 k,.int .i64 o,.int .i64 n,str m,v]:=let ⟨xs,a,b⟩:=hv;⟨v,xs,rfl,a,b⟩
theorem StCB.of {k n:Int}{m f:List UInt8}{v u w:Value}{l:List Ex}{a b:List St}(hv:ExsVB B h v l) (hu:StsVB B h u a) (hw:StsVB B h w b):StCB B h (.mk k m f n l a b) [.int .i64 k,str m,str f,.int .i64 n,v,u,w] :=
 let ⟨xs,a1,b1⟩:=hv;let ⟨ys,a2,b2⟩:=hu;let ⟨zs,a3,b3⟩:=hw;⟨v,xs,u,ys,w,zs,rfl,⟨a1,b1⟩,⟨a2,b2⟩,a3,b3⟩
theorem ExsVB.new {l:List Ex}{xs:List (List Value)}(hx:ExCsB B h l xs){B' : Nat→Prop}(hB:∀ id,B id→id < h.next→B' id) (hn:B' h.next) (hb:xs.length≤140737488355328) (h5:∀ x ∈ xs,x.length=5){cells:List Value}(hc:cells=xs.flatten){n:Nat}(hl:n=xs.length) :
  ExsVB B' (h.alloc (.blk cells true)) (.slice (some ⟨h.next,0,none⟩) n 5) l:=by
 subst hl;subst hc
 refine ⟨xs,.inr ⟨h.next,0,rfl,.inr ⟨hn,_,_,Heap.get_alloc_same _ _,fun i x hi=>?_⟩⟩,hb,hx.to fun id cells own hb' hg=>⟨hB id hb' (Heap.lt_of_get hg),?_⟩⟩
 ·obtain ⟨h1,h2⟩:=yo h5 i x hi
  exact ⟨h5 x (List.mem_of_getElem? hi),by omega,by simpa using h2⟩
 ·rw [Heap.get_alloc_lt (Heap.lt_of_get hg)];exact hg
end
end Go.Eng.Sy
namespace Go.Eng.Sy
open Go Go.Eng Go.Proofs
theorem pick6_c (c n:Int) (hn:n≠0) (h:Heap) (Q:Value→Heap→Prop) (hq:Q (.int .i64 (pick c n)) h):CallW Tryz.prog 62 [.int .i64 c,.int .i64 n] h Q:=by
 refine zh (k:=2) ok62 rfl rfl rfl fun N=>?_
 rw [show yj c62 [.int .i64 c,.int .i64 n]=[.int .i64 c,.int .i64 n,undef] from rfl]
 delta c62 c62_r0 c62_r1 c62_r2 c62_r3
 replace hq:=Hid.mk hq
 have hq1:c < 0→Q (.int .i64 ((IntKind.i64.wrap (0 - IntKind.i64.wrap (c + 1))).tmod n)) h:=fun hc=>by have:=hq.h;rwa [pick,if_pos hc] at this
 have hq2:¬ c < 0→Q (.int .i64 (c.tmod n)) h:=fun hc=>by have:=hq.h;rwa [pick,if_neg hc] at this
 replace hq1:=Hid.mk hq1
 replace hq2:=Hid.mk hq2
 repeat' (first|simp -implicitDefEqProofs only [za,aR,aW,zb,ze,Int.reduceBEq,Int.reduceBNe,Nat.reduceBEq,Int.reduceLT,Int.reduceLE, *]|with_reducible (first|apply kcd|apply kgd|apply kci|apply kgi)<;>intro hc)
 ·exact hq1.h (by assumption)
 ·exact hq2.h (by assumption)
def zg (s:List Int) (n:Nat):Nat × List Int:=match s with
 | []=>(0,[])
 | z::r=>(V3 z n,r)
theorem yh {s:List Int}(hs:∀ z ∈ s,inI z){n:Nat}(hn:0 < n):(zg s n).1 < n:=by
 cases s with
 | nil=>exact hn
 | cons z r=>exact (Wd (hs z (by simp)) hn).1
def Src (h:Heap) (p:Nat) (raw:List Int):Prop:=∃ v,h.get p=some (.blk [v] true)∧SlVB (· < p) h 1 v (raw.map fun z=>[.int .i64 z])∧(∀ z ∈ raw,inI z)∧raw.length≤1000
theorem Src.in {h:Heap}{p:Nat}{raw:List Int}(hs:Src h p raw):∀ z ∈ raw,inI z:=hs.elim fun _ a=>a.2.2.1
theorem Src.le {h h' : Heap}{p:Nat}{raw:List Int}(hl:h.le h') (hs:Src h p raw):Src h' p raw:=by
 obtain ⟨v,h1,h2,h3⟩:=hs
 exact ⟨v,hl.get h1,h2.to (hl.toB fun _ h=>h),h3⟩
theorem Src.set {h:Heap}{p q:Nat}{raw:List Int}(hs:Src h p raw) (hq:p < q) (o:AObj):Src (h.set q o) p raw:=by
 obtain ⟨v,h1,h2,h3⟩:=hs
 refine ⟨v,by rw [Heap.set_getE _ _ _ _ (by simp;omega)];exact h1,h2.to (fun id cs own hb hg=>⟨hb,?_⟩),h3⟩
 have h4:id < p:=hb
 rw [Heap.set_getE _ _ _ _ (by simp;omega)];exact hg
theorem Src.lt {h:Heap}{p:Nat}{raw:List Int}(hs:Src h p raw):p < h.next:=hs.elim fun _ a=>Heap.lt_of_get a.1
theorem yp {h:Heap}{p:Nat}{raw:List Int}(hs:Src h p raw){n:Nat}(hn:0 < n) (hn2:n≤1000000000000) (Q:Value→Heap→Prop)
  (hq:∀ h',h.leBut p h' → Hid (h'.next=h.next)→Src h' p (zg raw n).2→Q (.int .i64 (zg raw n).1) h'):CallW Tryz.prog 23 [.pointer (some ⟨p,0,none⟩),.int .i64 (n:Int)] h Q:=by
 obtain ⟨v,hg,hv,hin,hlen⟩:=hs
 refine zh (k:=2) ok23 rfl rfl rfl fun N=>?_
 rw [show yj c23 [.pointer (some ⟨p,0,none⟩),.int .i64 (n:Int)]=[.pointer (some ⟨p,0,none⟩),.int .i64 (n:Int),undef,undef] from rfl]
 delta c23 c23_r0 c23_r1 c23_r2 c23_r3 c23_r4 c23_r5
 replace hq:=Hid.mk hq
 have hl:=Ints.len hv.plain
 cases raw with
 | nil =>
  have g:=hq.h h (.refl _ _) ⟨rfl⟩ ⟨v,hg,hv,hin,hlen⟩
  have z0:(([]:List Int).length:Int)=0:=rfl
  have e0:zg [] n=(0,[]):=rfl
  rw [e0] at g
  have e1:((0:Nat):Int)=0:=rfl
  simp only [e1] at g
  replace g:=Hid.mk g
  clear hq hv
  repeat' (first|simp -implicitDefEqProofs only [za,aR,aW,zb,ze,Int.reduceBEq,Int.reduceBNe,Nat.reduceBEq,Int.reduceLT,Int.reduceLE, *]|with_reducible (first|apply kcd|apply kgd|apply kci|apply kgi)<;>intro hc)
  exact g.h
 | cons z r =>
  have c1:(((z::r).length:Int) == 0)=false:=by simp;omega
  obtain ⟨id,off,cells,own,e1,e2,e3⟩:=Ints.elem hv.plain (i:=0) (z:=z) rfl
  rw [Int.ofNat_zero] at e1
  obtain ⟨hp1,hp2⟩:=Wd (hin z (by simp)) hn
  have cut:∃ w,xm 1 true false [v,.int .i64 1]=some w∧SlVB (· < p) h 1 w (r.map fun z=>[Value.int .i64 z])∧w.cells.toList=[w]∧w.oneCell' = true:=by
   rcases hv with ⟨_,hx⟩ | ⟨id,off,rfl,hx⟩
   ·simp at hx
   ·refine ⟨.slice (some ⟨id,off + 1 * 1,none⟩) r.length 1,by simp [xm,U0];omega,.inr ⟨id,off + 1,by simp,?_⟩,rfl,rfl⟩
    rcases hx with hx | ⟨hb,cells,own,hg,hx⟩
    ·simp at hx
    ·refine .inr ⟨hb,cells,own,hg,fun i x hi=>?_⟩
     obtain ⟨a,b,c⟩:=hx (i + 1) x (by simpa using hi)
     exact ⟨a,by omega,by rw [← c];congr 2;omega⟩
  obtain ⟨w,hw1,hw2,hw3,hw4⟩:=cut
  have st:=zo (off:=0) hg (by simp) hw3 hw4
  have g:=hq.h (h.set p (.blk ([v].set 0 w) true)) (Heap.leBut.set p h _) ⟨rfl⟩ ⟨w,Heap.set_getS _ _ _ (by rw [hg];rfl),hw2.to (fun id cs o hb hg'=>⟨hb,by rw [Heap.set_getE _ _ _ _ (by have h1:id < p:=hb;simp;omega)];exact hg'⟩),fun y hy=>hin y (List.mem_cons_of_mem _ hy),by simp at hlen;show r.length≤1000;omega⟩
  have en:zg (z::r) n=(V3 z n,r):=rfl
  rw [en] at g
  simp only [hp2] at g
  replace g:=Hid.mk g
  clear hq hv hw2 hp2 hin hlen
  repeat' (first|simp -implicitDefEqProofs only [za,aR,aW,zb,ze,Int.reduceBEq,Int.reduceBNe,Nat.reduceBEq,Int.reduceLT,Int.reduceLE, *]|with_reducible (first|apply kcd|apply kgd|apply kci|apply kgi)<;>intro hc)
  refine pick6_c z n (by omega) _ _ ?_
  repeat' (first|simp -implicitDefEqProofs only [za,aR,aW,zb,ze,Int.reduceBEq,Int.reduceBNe,Nat.reduceBEq,Int.reduceLT,Int.reduceLE, *]|with_reducible (first|apply kcd|apply kgd|apply kci|apply kgi)<;>intro hc)
  exact g.h
end Go.Eng.Sy
namespace Go.Eng.Sy
open Go Go.Eng Go.Proofs
structure Sco where
 devs:List (List UInt8)
 ress:List (List UInt8)
 free:Nat
 held:List (List UInt8)
 any:Bool
abbrev StrsB (B:Nat→Prop) (h:Heap) (v:Value) (l:List (List UInt8)):Prop:=SlVB B h 1 v (l.map fun s=>[str s])
theorem StrsB.plain {B:Nat→Prop}{h:Heap}{v:Value}{l:List (List UInt8)}(hv:StrsB B h v l):Strs h v l:=SlVB.plain hv
theorem StrsB.one {B:Nat→Prop}{h:Heap}{v:Value}{l:List (List UInt8)}(hv:StrsB B h v l):v.oneCell' = true:=SlV.one (SlVB.plain hv)
theorem xy {B:Nat→Prop}(h:Heap) (l:List (List UInt8)) (hB:B h.next){n:Nat}{cells:List Value}(hn:n=l.length) (hc:cells=l.map str):StrsB B (h.alloc (.blk cells true)) (.slice (some ⟨h.next,0,none⟩) n 1) l:=by
 rcases wi h l hn hc with ⟨e,_⟩ | ⟨id,off,e,ha⟩
 ·cases e
 ·have:id=h.next∧off=0:=by
   injection e with e1 e2 e3
   injection e1 with e1
   injection e1 with e1 e2 e3
   exact ⟨e1.symm,e2.symm⟩
  obtain ⟨rfl,rfl⟩:=this
  exact .inr ⟨_,_,e,ha.imp (fun e=>e) fun a=>⟨hB,a⟩⟩
def ScB (p:Nat) (h:Heap) (c:Sco) (x:List Value):Prop :=
 ∃ dv rv hv,x=[dv,rv,.int .i64 (c.free:Int),hv,.bool c.any]∧StrsB (· ≠ p) h dv c.devs∧StrsB (· ≠ p) h rv c.ress∧StrsB (· ≠ p) h hv c.held∧c.devs.length≤100∧c.ress.length≤100∧c.held.length≤100∧c.free≤100
theorem ScB.to {p:Nat}{h h' : Heap}(hk:Heap.toB (· ≠ p) (· ≠ p) h h'){c:Sco}{x:List Value}(hc:ScB p h c x):ScB p h' c x:=by
 obtain ⟨dv,rv,hv,a,b,d,e,f⟩:=hc
 exact ⟨dv,rv,hv,a,SlVB.to hk b,SlVB.to hk d,SlVB.to hk e,f⟩
theorem ScB.le {p:Nat}{h h' : Heap}(hl:h.le h'){c:Sco}{x:List Value}(hc:ScB p h c x):ScB p h' c x:=hc.to (hl.toB fun _ h=>h)
theorem ScB.but {p:Nat}{h h' : Heap}(hl:h.leBut p h'){c:Sco}{x:List Value}(hc:ScB p h c x):ScB p h' c x:=hc.to (hl.toB fun _ h=>⟨h,h⟩)
abbrev scV (dv rv:Value) (f:Int) (hv:Value) (a:Bool):Value:=.agg #[dv,rv,.int .i64 f,hv,.bool a]
theorem zo9 {dv rv hv:Value}{f:Int}{a:Bool}(h1:dv.oneCell' = true) (h2:rv.oneCell' = true) (h3:hv.oneCell' = true):Vl [scV dv rv f hv a]=some ([dv,rv,.int .i64 f,hv,.bool a],fun id=>.pointer (some ⟨id,0,none⟩)):=by
 simpa [Vl,Value.cells,Value.oneCell'] using ⟨h1,h2,h3⟩
def yb (any:Bool) (s:List Int) (l:List (List UInt8)):List UInt8 × List Int :=
 if any || l.length == 0 then (varL (zg s 300).1,(zg s 300).2) else (l.getD (zg s l.length).1 [],(zg s l.length).2)
theorem Heap.leBut.of_le {p:Nat}{a b c:Heap}(h1:a.le b) (h2:b.leBut p c):a.leBut p c:=(h1.but p).trans h2
theorem k0 {h:Heap}{p:Nat}{raw:List Int}(hs:Src h p raw){dv rv hv:Value}{f:Int}{any:Bool}(o1:dv.oneCell' = true) (o2:rv.oneCell' = true) (o3:hv.oneCell' = true){v:Value}{l:List (List UInt8)}(hv' : StrsB (· ≠ p) h v l) (hlen:l.length≤1000) (Q:Value→Heap→Prop)
  (hq:∀ h',h.leBut p h' → Src h' p (yb any raw l).2→Q (str (yb any raw l).1) h'):CallW Tryz.prog 63 [scV dv rv f hv any,.pointer (some ⟨p,0,none⟩),v] h Q:=by
 have b1:=zo9 (f:=f) (a:=any) o1 o2 o3
 have hpl:=hs.lt
 have gq:=Heap.get_alloc_same h (.blk [dv,rv,.int .i64 f,hv,.bool any] true)
 have lh1:=(Heap.le.refl h).alloc (.blk [dv,rv,.int .i64 f,hv,.bool any] true)
 obtain ⟨q,eq⟩:∃ x_,h.next=x_:=⟨_,rfl⟩
 obtain ⟨h1,eh1⟩:∃ x_,h.alloc (.blk [dv,rv,.int .i64 f,hv,.bool any] true)=x_:=⟨_,rfl⟩
 rw [eh1] at gq lh1
 rw [eq] at gq
 have hs1:=hs.le lh1
 have hv1:StrsB (· ≠ p) h1 v l:=SlVB.to (lh1.toB fun _ h=>h) hv'
 have hln:=hv'.plain.len
 have hqp:p≠q:=by omega
 clear hs hv'
 replace hs1:=Hid.mk hs1;replace hv1:=Hid.mk hv1;replace lh1:=Hid.mk lh1
 refine zh (k:=4) ok63 rfl rfl rfl fun N=>?_
 rw [show yj c63 [scV dv rv f hv any,.pointer (some ⟨p,0,none⟩),v]=[scV dv rv f hv any,.pointer (some ⟨p,0,none⟩),v,undef,undef] from rfl]
 delta c63 c63_r0 c63_r1 c63_r2 c63_r3
 replace hq:=Hid.mk hq
 have k300:(300:Int)=((300:Nat):Int):=rfl
 by_cases hc:any=true∨l.length=0
 ·have e:yb any raw l=(varL (zg raw 300).1,(zg raw 300).2):=by
   unfold yb;rw [if_pos];simpa using hc
  rw [e] at hq
  have hlt:=yh hs1.h.in (n:=300) (by omega)
  replace hlt:=Hid.mk hlt
  cases any with
  | true =>
   repeat' (first|simp -implicitDefEqProofs only [za,aR,aW,zb,ze,Int.reduceBEq,Int.reduceBNe,Nat.reduceBEq,Int.reduceLT,Int.reduceLE, *]|with_reducible (first|apply kcd|apply kgd|apply kci|apply kgi)<;>intro hc)
   refine yp hs1.h (by omega) (by omega) _ fun h2 l2 _ hs2=>?_
   have l3:=Heap.leBut.of_le lh1.h l2
   replace l2:=Hid.mk l2;replace hs2:=Hid.mk hs2;replace l3:=Hid.mk l3
   repeat' (first|simp -implicitDefEqProofs only [za,aR,aW,zb,ze,Int.reduceBEq,Int.reduceBNe,Nat.reduceBEq,Int.reduceLT,Int.reduceLE, *]|with_reducible (first|apply kcd|apply kgd|apply kci|apply kgi)<;>intro hc)
   refine var_c (by have:=hlt.h;unfold inI;omega) _ _ fun h3 l4=>?_
   have g:=hq.h h3 (l3.h.trans (l4.but p)) (hs2.h.le l4)
   replace g:=Hid.mk g
   clear l4
   repeat' (first|simp -implicitDefEqProofs only [za,aR,aW,zb,ze,Int.reduceBEq,Int.reduceBNe,Nat.reduceBEq,Int.reduceLT,Int.reduceLE, *]|with_reducible (first|apply kcd|apply kgd|apply kci|apply kgi)<;>intro hc)
   exact g.h
  | false =>
   have hl0:l.length=0:=by simpa using hc
   rw [hl0] at hln
   have z0:((0:Nat):Int)=0:=rfl
   replace hc:=Hid.mk hc
   replace hl0:=Hid.mk hl0
   repeat' (first|simp -implicitDefEqProofs only [za,aR,aW,zb,ze,Int.reduceBEq,Int.reduceBNe,Nat.reduceBEq,Int.reduceLT,Int.reduceLE, *]|with_reducible (first|apply kcd|apply kgd|apply kci|apply kgi)<;>intro hc)
   refine yp hs1.h (by omega) (by omega) _ fun h2 l2 _ hs2=>?_
   have l3:=Heap.leBut.of_le lh1.h l2
   replace l2:=Hid.mk l2;replace hs2:=Hid.mk hs2;replace l3:=Hid.mk l3
   repeat' (first|simp -implicitDefEqProofs only [za,aR,aW,zb,ze,Int.reduceBEq,Int.reduceBNe,Nat.reduceBEq,Int.reduceLT,Int.reduceLE, *]|with_reducible (first|apply kcd|apply kgd|apply kci|apply kgi)<;>intro hc)
   refine var_c (by have:=hlt.h;unfold inI;omega) _ _ fun h3 l4=>?_
   have g:=hq.h h3 (l3.h.trans (l4.but p)) (hs2.h.le l4)
   replace g:=Hid.mk g
   clear l4
   repeat' (first|simp -implicitDefEqProofs only [za,aR,aW,zb,ze,Int.reduceBEq,Int.reduceBNe,Nat.reduceBEq,Int.reduceLT,Int.reduceLE, *]|with_reducible (first|apply kcd|apply kgd|apply kci|apply kgi)<;>intro hc)
   exact g.h
 ·obtain ⟨hc1,hc2⟩:any=false∧0 < l.length:=by
   constructor
   ·cases any with
    | true=>exact absurd (.inl rfl) hc
    | false=>rfl
   ·omega
  subst hc1
  have e:yb false raw l=(l.getD (zg raw l.length).1 [],(zg raw l.length).2):=by
   unfold yb;rw [if_neg];simp;intro e;rw [e] at hc2;simp at hc2
  rw [e] at hq
  have c0:((l.length:Int) == 0)=false:=by simp;intro e;rw [e] at hc2;simp at hc2
  have hlt:=yh hs1.h.in (n:=l.length) hc2
  have hgd:=getD_some hlt []
  replace hc:=Hid.mk hc
  replace hlt:=Hid.mk hlt;replace hgd:=Hid.mk hgd;replace hc2:=Hid.mk hc2
  repeat' (first|simp -implicitDefEqProofs only [za,aR,aW,zb,ze,Int.reduceBEq,Int.reduceBNe,Nat.reduceBEq,Int.reduceLT,Int.reduceLE, *]|with_reducible (first|apply kcd|apply kgd|apply kci|apply kgi)<;>intro hc)
  refine yp hs1.h hc2.h (by omega) _ fun h2 l2 _ hs2=>?_
  obtain ⟨id,off,cells,own,e1,e2,e3,_⟩:=(StrsB.plain (SlVB.to (l2.toB fun _ h=>⟨h,h⟩) hv1.h)).elem hgd.h
  have l3:=Heap.leBut.of_le lh1.h l2
  have g:=hq.h h2 l3 hs2
  replace g:=Hid.mk g
  clear l2 l3 hs2
  repeat' (first|simp -implicitDefEqProofs only [za,aR,aW,zb,ze,Int.reduceBEq,Int.reduceBNe,Nat.reduceBEq,Int.reduceLT,Int.reduceLE, *]|with_reducible (first|apply kcd|apply kgd|apply kci|apply kgi)<;>intro hc)
  exact g.h
end Go.Eng.Sy
namespace Go.Eng
open Go
theorem Heap.leBut.keep {p i:Nat}{h h' : Heap}(hl:h.leBut p h') (hi:i≠p){o:AObj}(hg:h.get i=some o):h'.get i=some o:=by
 rw [hl.get i hi (by rw [hg];rfl)];exact hg
theorem Heap.leBut.le' {p:Nat}{a b c:Heap}(h1:a.leBut p b) (h2:b.le c):a.leBut p c:=h1.trans (h2.but p)
theorem Heap.leBut.setQ {p q:Nat}{a b:Heap}(h1:a.leBut p b) (hq:a.next≤q) (o:AObj):a.leBut p (b.set q o) :=
 ⟨fun j hj hs=>by
  obtain ⟨x,hx⟩:=Option.isSome_iff_exists.1 hs
  have:=Heap.lt_of_get hx
  rw [Heap.set_getE _ _ _ _ (by simp;omega)];exact h1.get j hj hs,h1.next⟩
theorem Heap.toB_id {B B' : Nat→Prop}{h:Heap}(hB:∀ id,B id→B' id):Heap.toB B B' h h:=fun id _ _ hb hg=>⟨hB id hb,hg⟩
theorem Heap.toB_set {B B' : Nat→Prop}{h:Heap}{q:Nat}(o:AObj) (hB:∀ id,B id→id≠q∧B' id):Heap.toB B B' h (h.set q o):=fun id cs own hb hg=>⟨(hB id hb).2,by
 rw [Heap.set_getE _ _ _ _ (by simpa using (hB id hb).1)];exact hg⟩
end Go.Eng
namespace Go.Eng.Sy
open Go Go.Eng Go.Proofs
def numL (s:List Int):Ex × List Int :=
 (.mk 1 0 (([(zg s 10).1,(zg (zg s 10).2 300).1,(zg (zg (zg s 10).2 300).2 4294967296).1].getD (zg (zg (zg (zg s 10).2 300).2 4294967296).2 3).1 0:Nat):Int) [] [],(zg (zg (zg (zg s 10).2 300).2 4294967296).2 3).2)
def U8:List (List UInt8):=[[120],[121],[122]]
def zy (c:Sco):Nat→List Int→Ex × List Int
 | 0,s=>numL (zg s 8).2
 | d + 1,s =>
  let k:=(zg s 8).1
  let s1:=(zg s 8).2
  if k < 2 then numL s1
  else if k < 4 then (.mk 2 0 0 (yb c.any s1 U8).1 [],(yb c.any s1 U8).2)
  else if k=4 then (.mk 3 (15 + ((zg s1 3).1:Nat)) 0 [] [(zy c d (zg s1 3).2).1],(zy c d (zg s1 3).2).2)
  else if k=5∧(c.any=true∨c.held≠[]) then (.mk 5 0 0 (yb c.any s1 c.held).1 [(zy c d (yb c.any s1 c.held).2).1],(zy c d (yb c.any s1 c.held).2).2)
  else (.mk 4 (1 + ((zg s1 14).1:Nat)) 0 [] [(zy c d (zg s1 14).2).1,(zy c d (zy c d (zg s1 14).2).2).1],(zy c d (zy c d (zg s1 14).2).2).2)
def ExprC (c:Sco) (d:Nat):Prop:=∀ (raw:List Int) (h:Heap) (p:Nat) (x:List Value) (Q:Value→Heap→Prop),Src h p raw→ScB p h c x →
 (∀ h' y,h.leBut p h' → Src h' p (zy c d raw).2→ExCB (fun id=>h.next≤id) h' (zy c d raw).1 y→Q (.agg y.toArray) h')→CallW Tryz.prog 25 [.agg x.toArray,.pointer (some ⟨p,0,none⟩),.int .i64 (d:Int)] h Q
theorem bs_i3 (a b c:Int):yd [.int .i64 0,.int .i64 0,.int .i64 0] [(0,1),(1,1),(2,1)] 3 1 [.int .i64 a,.int .i64 b,.int .i64 c]=some ([.int .i64 a,.int .i64 b,.int .i64 c],fun id=>.slice (some ⟨id,0,none⟩) 3 1):=yw rfl rfl rfl (by simp [Value.cells,Value.oneCell'])
theorem zj9 (h:Heap) (l:List Int){n:Nat}{cells:List Value}(hn:n=l.length) (hc:cells=l.map (.int .i64)):Ints (h.alloc (.blk cells true)) (.slice (some ⟨h.next,0,none⟩) n 1) l:=by
 subst hn;subst hc
 refine .inr ⟨h.next,0,by simp,.inr ⟨_,_,Heap.get_alloc_same _ _,fun j x hj=>?_⟩⟩
 have hx:∀ x ∈ (l.map fun s=>[Value.int .i64 s]),x.length=1:=by simp
 obtain ⟨h1,h2⟩:=yo hx j x hj
 have hf:(l.map fun s=>[Value.int .i64 s]).flatten=l.map (.int .i64):=by
  clear h1 h2 hx hj
  induction l with
  | nil=>rfl
  | cons a l ih=>simp [ih]
 rw [hf] at h1 h2
 exact ⟨hx x (List.mem_of_getElem? hj),by simpa using h1,by simpa using h2⟩
theorem J0 (n:Int):yg [.int .i64 0,.int .i64 0,.int .i64 0,.string ⟨#[]⟩,.slice none 0 0] [(0,1),(2,1)] [.int .i64 1,.int .i64 n]=some (exV 1 0 n [] (.slice none 0 0)):=rfl
theorem qn9 (m:List UInt8):yg [.int .i64 0,.int .i64 0,.int .i64 0,.string ⟨#[]⟩,.slice none 0 0] [(0,1),(3,1)] [.int .i64 2,str m]=some (exV 2 0 0 m (.slice none 0 0)):=rfl
theorem Zy (k o:Int){i n:Nat}:yg [.int .i64 0,.int .i64 0,.int .i64 0,.string ⟨#[]⟩,.slice none 0 0] [(0,1),(1,1),(4,1)] [.int .i64 k,.int .i64 o,.slice (some ⟨i,0,none⟩) n 5]=some (exV k o 0 [] (.slice (some ⟨i,0,none⟩) n 5)):=rfl
theorem zo5 (m:List UInt8){i n:Nat}:yg [.int .i64 0,.int .i64 0,.int .i64 0,.string ⟨#[]⟩,.slice none 0 0] [(0,1),(3,1),(4,1)] [.int .i64 5,str m,.slice (some ⟨i,0,none⟩) n 5]=some (exV 5 0 0 m (.slice (some ⟨i,0,none⟩) n 5)):=rfl
theorem ExCB.cells {B:Nat→Prop}{h:Heap}{e:Ex}{x:List Value}(hx:ExCB B h e x):∃ v,x=[.int .i64 e.kind,.int .i64 e.op,.int .i64 e.n,str e.name,v]∧ExsVB B h v e.args:=by
 cases e;obtain ⟨v,xs,h1,h2,h3⟩:=hx;exact ⟨v,h1,xs,h2,h3⟩
theorem ExsVB.one {B:Nat→Prop}{h:Heap}{v:Value}{l:List Ex}(hv:ExsVB B h v l):v.oneCell' = true:=hv.plain.one
theorem Xr {x y:List Value}(hx:x.length=5∧x.all (·.oneCell')=true) (hy:y.length=5∧y.all (·.oneCell')=true):yd [.int .i64 0,.int .i64 0,.int .i64 0,.string ⟨#[]⟩,.slice none 0 0,.int .i64 0,.int .i64 0,.int .i64 0,.string ⟨#[]⟩,.slice none 0 0] [(0,5),(5,5)] 2 5 [.agg x.toArray,.agg y.toArray]=some (x++y,fun id=>.slice (some ⟨id,0,none⟩) 2 5):=by
 have e1:x.all (·.oneCell')=true:=hx.2
 have e2:y.all (·.oneCell')=true:=hy.2
 have l1:=hx.1
 have l2:=hy.1
 simp [yd,vm,Value.cells,l1,l2,e1,e2]
theorem wt {x:List Value}(hx:x.length=5∧x.all (·.oneCell')=true):yd [.int .i64 0,.int .i64 0,.int .i64 0,.string ⟨#[]⟩,.slice none 0 0] [(0,5)] 1 5 [.agg x.toArray]=some (x,fun id=>.slice (some ⟨id,0,none⟩) 1 5):=qq rfl hx.1 rfl hx.2
theorem ExCB.ones {B:Nat→Prop}{h:Heap}{e:Ex}{x:List Value}(hx:ExCB B h e x):x.length=5∧x.all (·.oneCell')=true:=by
 obtain ⟨v,rfl,hv⟩:=hx.cells
 exact ⟨rfl,by simpa [Value.oneCell'] using hv.one⟩
end Go.Eng.Sy
namespace Go.Eng.Sy
open Go Go.Eng Go.Proofs
theorem yd4 {c:Sco}{d:Nat}(hd:d≤100) (ih:∀ d',d=d' + 1→ExprC c d'):ExprC c d:=by
 intro raw h p x Q hs hc hq
 have hc0:=hc
 obtain ⟨dv,rv,hv,rfl,s1,s2,s3,_,_,hheld,_⟩:=hc
 have b1:=zo9 (f:=(c.free:Int)) (a:=c.any) s1.one s2.one s3.one
 have o1:=s1.one
 have o2:=s2.one
 have o3:=s3.one
 have gq1:=Heap.get_alloc_same h (.blk [dv,rv,.int .i64 (c.free:Int),hv,.bool c.any] true)
 have lh1:=(Heap.le.refl h).alloc (.blk [dv,rv,.int .i64 (c.free:Int),hv,.bool c.any] true)
 obtain ⟨q1,eq1⟩:∃ x_,h.next=x_:=⟨_,rfl⟩
 obtain ⟨h1,eh1⟩:∃ x_,h.alloc (.blk [dv,rv,.int .i64 (c.free:Int),hv,.bool c.any] true)=x_:=⟨_,rfl⟩
 rw [eh1] at gq1 lh1
 rw [eq1] at gq1
 have gq2:=Heap.get_alloc_same h1 (.blk [.int .i64 0,.int .i64 0,.int .i64 0,.string ⟨#[]⟩,.slice none 0 0] true)
 have lh2:=(Heap.le.refl h1).alloc (.blk [.int .i64 0,.int .i64 0,.int .i64 0,.string ⟨#[]⟩,.slice none 0 0] true)
 obtain ⟨q2,eq2⟩:∃ x_,h1.next=x_:=⟨_,rfl⟩
 obtain ⟨h2,eh2⟩:∃ x_,h1.alloc (.blk [.int .i64 0,.int .i64 0,.int .i64 0,.string ⟨#[]⟩,.slice none 0 0] true)=x_:=⟨_,rfl⟩
 rw [eh2] at gq2 lh2
 rw [eq2] at gq2
 have hpl:=hs.lt
 have hq1n:h.next≤q1:=by omega
 have hlh:=lh1.next
 have hq12:=Heap.lt_of_get gq1
 have hq2n:h.next≤q2:=by omega
 have hq1:q1≠p:=by omega
 have hq2:q2≠p:=by omega
 have hpq2:p < q2:=by omega
 have gq1':=lh2.get gq1
 have l2:=lh1.trans lh2
 have hs2:=hs.le l2
 have hc2:=hc0.le l2
 clear hs hc0 s1 s2 s3 gq1 lh1 lh2 hlh
 replace hs2:=Hid.mk hs2;replace hc2:=Hid.mk hc2;replace l2:=Hid.mk l2;replace o1:=Hid.mk o1;replace o2:=Hid.mk o2;replace o3:=Hid.mk o3;replace ih:=Hid.mk ih;replace hpl:=Hid.mk hpl;replace hq1n:=Hid.mk hq1n;replace hq12:=Hid.mk hq12;replace hq2n:=Hid.mk hq2n;replace hheld:=Hid.mk hheld
 refine Qb (k:=4) (agg:=true) (size:=5) ok25 rfl rfl rfl fun N=>?_
 rw [show yj c25 [scV dv rv (c.free:Int) hv c.any,.pointer (some ⟨p,0,none⟩),.int .i64 (d:Int)]=[scV dv rv (c.free:Int) hv c.any,.pointer (some ⟨p,0,none⟩),.int .i64 (d:Int),undef,undef,undef] from rfl]
 delta c25 c25_r0 c25_r1 c25_r2 c25_r3 c25_r4 c25_r5 c25_r6 c25_r7 c25_r8 c25_r9 qb5
 replace hq:=Hid.mk hq
 repeat' (first|simp -implicitDefEqProofs only [za,aR,aW,zb,ze,Int.reduceBEq,Int.reduceBNe,Nat.reduceBEq,Int.reduceLT,Int.reduceLE, *]|with_reducible (first|apply kcd|apply kgd|apply kci|apply kgi)<;>intro hc)
 refine yp (n:=8) hs2.h (by omega) (by omega) _ fun h3 l3 _ hs3=>?_
 have g1:=l3.keep (i:=q1) hq1 gq1'
 have g2:=l3.keep (i:=q2) hq2 gq2
 have hc3:=hc2.h.but l3
 obtain ⟨k,hk⟩:∃ k,(zg raw 8).1=k:=⟨_,rfl⟩
 obtain ⟨s1,hs1⟩:∃ k,(zg raw 8).2=k:=⟨_,rfl⟩
 rw [hs1] at hs3
 rw [hk]
 have l33:=Hid.mk l3
 clear l3
 have l3:=Heap.leBut.refl p h3
 clear gq1' gq2 hs2 hc2 b1
 replace l2:=l2.h
 replace l2:=Hid.mk l2;replace hs3:=Hid.mk hs3;replace l3:=Hid.mk l3;replace hc3:=Hid.mk hc3
 have hp1:(q1 == p)=false:=by simpa using hq1
 have hp2:(q2 == p)=false:=by simpa using hq2
 by_cases hnum:d=0∨k < 2
 ·have e0:zy c d raw=numL s1:=by
   cases d with
   | zero=>show numL (zg raw 8).2=_;rw [hs1]
   | succ d =>
    have hk2:k < 2:=by omega
    unfold zy
    simp only [hk,hs1]
    rw [if_pos hk2]
  have hlt1:=yh hs3.h.in (n:=10) (by omega)
  clear hc3 g1
  rcases Nat.eq_zero_or_pos d with hd0 | hd0
  ·subst hd0
   have c1:((0:Nat):Int) < 1:=by decide
   clear hnum
   repeat' (first|simp -implicitDefEqProofs only [za,aR,aW,zb,ze,Int.reduceBEq,Int.reduceBNe,Nat.reduceBEq,Int.reduceLT,Int.reduceLE, *]|with_reducible (first|apply kcd|apply kgd|apply kci|apply kgi)<;>intro hc)
   refine yp (n:=10) hs3.h (by omega) (by omega) _ fun h4 l4 _ hs4=>?_
   have l4:=l3.h.trans l4
   replace hs4:=Hid.mk hs4;replace l4:=Hid.mk l4
   repeat' (first|simp -implicitDefEqProofs only [za,aR,aW,zb,ze,Int.reduceBEq,Int.reduceBNe,Nat.reduceBEq,Int.reduceLT,Int.reduceLE, *]|with_reducible (first|apply kcd|apply kgd|apply kci|apply kgi)<;>intro hc)
   refine yp (n:=300) hs4.h (by omega) (by omega) _ fun h5 l5 _ hs5=>?_
   have l5:=l4.h.trans l5
   replace hs5:=Hid.mk hs5;replace l5:=Hid.mk l5
   repeat' (first|simp -implicitDefEqProofs only [za,aR,aW,zb,ze,Int.reduceBEq,Int.reduceBNe,Nat.reduceBEq,Int.reduceLT,Int.reduceLE, *]|with_reducible (first|apply kcd|apply kgd|apply kci|apply kgi)<;>intro hc)
   refine yp (n:=4294967296) hs5.h (by omega) (by omega) _ fun h6 l6 _ hs6=>?_
   have l6:=l5.h.trans l6
   obtain ⟨a,ha⟩:∃ a,(zg s1 10).1=a:=⟨_,rfl⟩
   obtain ⟨b,hb⟩:∃ b,(zg (zg s1 10).2 300).1=b:=⟨_,rfl⟩
   obtain ⟨c,hc⟩:∃ c,(zg (zg (zg s1 10).2 300).2 4294967296).1=c:=⟨_,rfl⟩
   obtain ⟨r,hr⟩:∃ r,(zg (zg (zg s1 10).2 300).2 4294967296).2=r:=⟨_,rfl⟩
   have bi:=bs_i3 a b c
   have hI:=zj9 h6 [(a:Int),b,c] (n:=3) (cells:=[.int .i64 a,.int .i64 b,.int .i64 c]) rfl rfl
   have hr3:numL s1=(.mk 1 0 (([a,b,c].getD (zg r 3).1 0:Nat):Int) [] [],(zg r 3).2):=by unfold numL;rw [ha,hb,hc,hr]
   rw [hr] at hs6
   rw [ha,hb,hc]
   rw [e0,hr3] at hq
   have hlt:=yh hs6.in (n:=3) (by omega)
   have gqi:=Heap.get_alloc_same h6 (.blk [.int .i64 (a:Int),.int .i64 b,.int .i64 c] true)
   have lh7:=(Heap.le.refl h6).alloc (.blk [.int .i64 (a:Int),.int .i64 b,.int .i64 c] true)
   obtain ⟨qi,eqi⟩:∃ x_,h6.next=x_:=⟨_,rfl⟩
   obtain ⟨h7,eh7⟩:∃ x_,h6.alloc (.blk [.int .i64 (a:Int),.int .i64 b,.int .i64 c] true)=x_:=⟨_,rfl⟩
   rw [eh7] at gqi lh7
   rw [eqi] at gqi
   rw [eh7,eqi] at hI
   have hs7:=hs6.le lh7
   have l7:=l6.le' lh7
   have hqi:qi≠p:=by have:=hs6.lt;omega
   clear ha hb hc hr hr3 hs6 l6 hs4 hs5 l4 l5
   replace hs7:=Hid.mk hs7;replace l7:=Hid.mk l7;replace hI:=Hid.mk hI;replace hlt:=Hid.mk hlt;replace lh7:=Hid.mk lh7
   repeat' (first|simp -implicitDefEqProofs only [za,aR,aW,zb,ze,Int.reduceBEq,Int.reduceBNe,Nat.reduceBEq,Int.reduceLT,Int.reduceLE, *]|with_reducible (first|apply kcd|apply kgd|apply kci|apply kgi)<;>intro hc)
   refine yp (n:=3) hs7.h (by omega) (by omega) _ fun h8 l8 _ hs8=>?_
   obtain ⟨i,hi⟩:∃ i,(zg r 3).1=i:=⟨_,rfl⟩
   rw [hi] at hlt hq
   rw [hi]
   have gi:=getD_some (l:=[a,b,c]) (i:=i) hlt.h 0
   have gi2:[(a:Int),b,c][i]? = some (([a,b,c].getD i 0:Nat):Int):=by
    have:[(a:Int),b,c]=[a,b,c].map (fun n:Nat=>(n:Int)):=rfl
    rw [this,List.getElem?_map,gi];rfl
   have hI8:Ints h8 (.slice (some ⟨qi,0,none⟩) 3 1) [(a:Int),b,c]:=by
    rcases hI.h with ⟨e,_⟩ | ⟨id,off,e,hx⟩
    ·cases e
    ·have:id=qi:=by
      injection e with e1 e2 e3
      injection e1 with e1
      injection e1 with e1 e2 e3
      exact e1.symm
     subst this
     refine .inr ⟨_,_,e,hx.imp (fun e=>e) fun ⟨cs,o,hg,hy⟩=>⟨cs,o,l8.keep hqi hg,hy⟩⟩
   obtain ⟨id,off,cells,own,e1,e2,e3⟩:=Ints.elem hI8 gi2
   have l8:=l7.h.trans l8
   have g8:=l8.keep (i:=q2) hq2 g2
   have hbn:=J0 ([a,b,c].getD i 0:Nat)
   have hst:=je (size:=5) (v:=exV 1 0 (([a,b,c].getD i 0:Nat):Int) [] (.slice none 0 0)) (cs:=[.int .i64 1,.int .i64 0,.int .i64 (([a,b,c].getD i 0:Nat):Int),str [],.slice none 0 0]) g8 rfl rfl rfl rfl
   have g:=hq.h (h8.set q2 (.blk [.int .i64 1,.int .i64 0,.int .i64 (([a,b,c].getD i 0:Nat):Int),str [],.slice none 0 0] true)) [.int .i64 1,.int .i64 0,.int .i64 (([a,b,c].getD i 0:Nat):Int),str [],.slice none 0 0]
    ((Heap.leBut.of_le l2.h (l33.h.trans l8)).setQ hq2n.h _) (hs8.set hpq2 _) (ExCB.of ExsVB.nil)
   have gs:=Heap.set_getS h8 (.blk [.int .i64 1,.int .i64 0,.int .i64 (([a,b,c].getD i 0:Nat):Int),str [],.slice none 0 0] true) q2 (by rw [g8];rfl)
   replace g:=Hid.mk g
   clear hq hI8 l8 hs8 hI gi gi2 hi
   repeat' (first|simp -implicitDefEqProofs only [za,aR,aW,zb,ze,Int.reduceBEq,Int.reduceBNe,Nat.reduceBEq,Int.reduceLT,Int.reduceLE,zi, *]|with_reducible (first|apply kcd|apply kgd|apply kci|apply kgi)<;>intro hc)
   exact g.h
  ·have hk2:k < 2:=by omega
   have c1:¬ (d:Int) < 1:=by omega
   have c2:(k:Int) < 2:=by omega
   clear hnum
   repeat' (first|simp -implicitDefEqProofs only [za,aR,aW,zb,ze,Int.reduceBEq,Int.reduceBNe,Nat.reduceBEq,Int.reduceLT,Int.reduceLE, *]|with_reducible (first|apply kcd|apply kgd|apply kci|apply kgi)<;>intro hc)
   refine yp (n:=10) hs3.h (by omega) (by omega) _ fun h4 l4 _ hs4=>?_
   have l4:=l3.h.trans l4
   replace hs4:=Hid.mk hs4;replace l4:=Hid.mk l4
   repeat' (first|simp -implicitDefEqProofs only [za,aR,aW,zb,ze,Int.reduceBEq,Int.reduceBNe,Nat.reduceBEq,Int.reduceLT,Int.reduceLE, *]|with_reducible (first|apply kcd|apply kgd|apply kci|apply kgi)<;>intro hc)
   refine yp (n:=300) hs4.h (by omega) (by omega) _ fun h5 l5 _ hs5=>?_
   have l5:=l4.h.trans l5
   replace hs5:=Hid.mk hs5;replace l5:=Hid.mk l5
   repeat' (first|simp -implicitDefEqProofs only [za,aR,aW,zb,ze,Int.reduceBEq,Int.reduceBNe,Nat.reduceBEq,Int.reduceLT,Int.reduceLE, *]|with_reducible (first|apply kcd|apply kgd|apply kci|apply kgi)<;>intro hc)
   refine yp (n:=4294967296) hs5.h (by omega) (by omega) _ fun h6 l6 _ hs6=>?_
   have l6:=l5.h.trans l6
   obtain ⟨a,ha⟩:∃ a,(zg s1 10).1=a:=⟨_,rfl⟩
   obtain ⟨b,hb⟩:∃ b,(zg (zg s1 10).2 300).1=b:=⟨_,rfl⟩
   obtain ⟨c,hc⟩:∃ c,(zg (zg (zg s1 10).2 300).2 4294967296).1=c:=⟨_,rfl⟩
   obtain ⟨r,hr⟩:∃ r,(zg (zg (zg s1 10).2 300).2 4294967296).2=r:=⟨_,rfl⟩
   have bi:=bs_i3 a b c
   have hI:=zj9 h6 [(a:Int),b,c] (n:=3) (cells:=[.int .i64 a,.int .i64 b,.int .i64 c]) rfl rfl
   have hr3:numL s1=(.mk 1 0 (([a,b,c].getD (zg r 3).1 0:Nat):Int) [] [],(zg r 3).2):=by unfold numL;rw [ha,hb,hc,hr]
   rw [hr] at hs6
   rw [ha,hb,hc]
   rw [e0,hr3] at hq
   have hlt:=yh hs6.in (n:=3) (by omega)
   have gqi:=Heap.get_alloc_same h6 (.blk [.int .i64 (a:Int),.int .i64 b,.int .i64 c] true)
   have lh7:=(Heap.le.refl h6).alloc (.blk [.int .i64 (a:Int),.int .i64 b,.int .i64 c] true)
   obtain ⟨qi,eqi⟩:∃ x_,h6.next=x_:=⟨_,rfl⟩
   obtain ⟨h7,eh7⟩:∃ x_,h6.alloc (.blk [.int .i64 (a:Int),.int .i64 b,.int .i64 c] true)=x_:=⟨_,rfl⟩
   rw [eh7] at gqi lh7
   rw [eqi] at gqi
   rw [eh7,eqi] at hI
   have hs7:=hs6.le lh7
   have l7:=l6.le' lh7
   have hqi:qi≠p:=by have:=hs6.lt;omega
   clear ha hb hc hr hr3 hs6 l6 hs4 hs5 l4 l5
   replace hs7:=Hid.mk hs7;replace l7:=Hid.mk l7;replace hI:=Hid.mk hI;replace hlt:=Hid.mk hlt;replace lh7:=Hid.mk lh7
   repeat' (first|simp -implicitDefEqProofs only [za,aR,aW,zb,ze,Int.reduceBEq,Int.reduceBNe,Nat.reduceBEq,Int.reduceLT,Int.reduceLE, *]|with_reducible (first|apply kcd|apply kgd|apply kci|apply kgi)<;>intro hc)
   refine yp (n:=3) hs7.h (by omega) (by omega) _ fun h8 l8 _ hs8=>?_
   obtain ⟨i,hi⟩:∃ i,(zg r 3).1=i:=⟨_,rfl⟩
   rw [hi] at hlt hq
   rw [hi]
   have gi:=getD_some (l:=[a,b,c]) (i:=i) hlt.h 0
   have gi2:[(a:Int),b,c][i]? = some (([a,b,c].getD i 0:Nat):Int):=by
    have:[(a:Int),b,c]=[a,b,c].map (fun n:Nat=>(n:Int)):=rfl
    rw [this,List.getElem?_map,gi];rfl
   have hI8:Ints h8 (.slice (some ⟨qi,0,none⟩) 3 1) [(a:Int),b,c]:=by
    rcases hI.h with ⟨e,_⟩ | ⟨id,off,e,hx⟩
    ·cases e
    ·have:id=qi:=by
      injection e with e1 e2 e3
      injection e1 with e1
      injection e1 with e1 e2 e3
      exact e1.symm
     subst this
     refine .inr ⟨_,_,e,hx.imp (fun e=>e) fun ⟨cs,o,hg,hy⟩=>⟨cs,o,l8.keep hqi hg,hy⟩⟩
   obtain ⟨id,off,cells,own,e1,e2,e3⟩:=Ints.elem hI8 gi2
   have l8:=l7.h.trans l8
   have g8:=l8.keep (i:=q2) hq2 g2
   have hbn:=J0 ([a,b,c].getD i 0:Nat)
   have hst:=je (size:=5) (v:=exV 1 0 (([a,b,c].getD i 0:Nat):Int) [] (.slice none 0 0)) (cs:=[.int .i64 1,.int .i64 0,.int .i64 (([a,b,c].getD i 0:Nat):Int),str [],.slice none 0 0]) g8 rfl rfl rfl rfl
   have g:=hq.h (h8.set q2 (.blk [.int .i64 1,.int .i64 0,.int .i64 (([a,b,c].getD i 0:Nat):Int),str [],.slice none 0 0] true)) [.int .i64 1,.int .i64 0,.int .i64 (([a,b,c].getD i 0:Nat):Int),str [],.slice none 0 0]
    ((Heap.leBut.of_le l2.h (l33.h.trans l8)).setQ hq2n.h _) (hs8.set hpq2 _) (ExCB.of ExsVB.nil)
   have gs:=Heap.set_getS h8 (.blk [.int .i64 1,.int .i64 0,.int .i64 (([a,b,c].getD i 0:Nat):Int),str [],.slice none 0 0] true) q2 (by rw [g8];rfl)
   replace g:=Hid.mk g
   clear hq hI8 l8 hs8 hI gi gi2 hi
   repeat' (first|simp -implicitDefEqProofs only [za,aR,aW,zb,ze,Int.reduceBEq,Int.reduceBNe,Nat.reduceBEq,Int.reduceLT,Int.reduceLE,zi, *]|with_reducible (first|apply kcd|apply kgd|apply kci|apply kgi)<;>intro hc)
   exact g.h
 ·obtain ⟨hd0,hk2⟩:0 < d ∧ ¬ k < 2:=by omega
  obtain ⟨d',rfl⟩:∃ d',d=d' + 1:=⟨d - 1,by omega⟩
  have c1:¬ ((d' + 1:Nat):Int) < 1:=by omega
  have c2:¬ (k:Int) < 2:=by omega
  have hih:=ih.h d' rfl
  clear ih hnum
  have hun:zy c (d' + 1) raw=if k < 4 then (.mk 2 0 0 (yb c.any s1 U8).1 [],(yb c.any s1 U8).2)
   else if k=4 then (.mk 3 (15 + ((zg s1 3).1:Nat)) 0 [] [(zy c d' (zg s1 3).2).1],(zy c d' (zg s1 3).2).2)
   else if k=5∧(c.any=true∨c.held≠[]) then (.mk 5 0 0 (yb c.any s1 c.held).1 [(zy c d' (yb c.any s1 c.held).2).1],(zy c d' (yb c.any s1 c.held).2).2)
   else (.mk 4 (1 + ((zg s1 14).1:Nat)) 0 [] [(zy c d' (zg s1 14).2).1,(zy c d' (zy c d' (zg s1 14).2).2).1],(zy c d' (zy c d' (zg s1 14).2).2).2):=by
   conv=>lhs;unfold zy
   simp only [hk,hs1]
   rw [if_neg hk2]
  have hwd:IntKind.i64.wrap (((d' + 1:Nat):Int) - 1)=(d' : Int):=by rw [zu (by omega) (by omega)];omega
  have fin:∀ (hN:Heap) (r:List Int) (o n:Int) (kd:Int) (m:List UInt8) (v:Value) (l:List Ex),h3.leBut p hN→Src hN p r→ExsVB (fun id=>h.next≤id∧id≠q2) hN v l→zy c (d' + 1) raw=(.mk kd o n m l,r) →
    zt 5 hN [.pointer (some ⟨q2,0,none⟩),exV kd o n m v]=some (undef,hN.set q2 (.blk [.int .i64 kd,.int .i64 o,.int .i64 n,str m,v] true)) ∧
    (hN.set q2 (.blk [.int .i64 kd,.int .i64 o,.int .i64 n,str m,v] true)).get q2=some (.blk [.int .i64 kd,.int .i64 o,.int .i64 n,str m,v] true) ∧
    Q (exV kd o n m v) (hN.set q2 (.blk [.int .i64 kd,.int .i64 o,.int .i64 n,str m,v] true)):=by
   intro hN r o n kd m v l hlN hsN hvN he
   have gN:=hlN.keep hq2 g2
   refine ⟨je gN rfl rfl rfl (by simpa [Value.oneCell'] using hvN.one),Heap.set_getS _ _ _ (by rw [gN];rfl),?_⟩
   rw [he] at hq
   exact hq.h _ _ ((Heap.leBut.of_le l2.h (l33.h.trans hlN)).setQ hq2n.h _) (hsN.set hpq2 _) (ExCB.of (hvN.to (Heap.toB_set _ fun id hb=>⟨hb.2,hb.1⟩)))
  replace fin:=Hid.mk fin
  clear hq
  by_cases hk4:k < 4
  ·have c3:(k:Int) < 4:=by omega
   rw [if_pos hk4] at hun
   have u:=bs_3 [120] [121] [122]
   have gq4:=Heap.get_alloc_same h3 (.blk [str [120],str [121],str [122]] true)
   have lh4:=(Heap.le.refl h3).alloc (.blk [str [120],str [121],str [122]] true)
   obtain ⟨q4,eq4⟩:∃ x_,h3.next=x_:=⟨_,rfl⟩
   obtain ⟨h4,eh4⟩:∃ x_,h3.alloc (.blk [str [120],str [121],str [122]] true)=x_:=⟨_,rfl⟩
   rw [eh4] at gq4 lh4
   rw [eq4] at gq4
   have sv:StrsB (· ≠ p) h4 (.slice (some ⟨q4,0,none⟩) 3 1) U8:=by
    rw [← eh4,← eq4]
    exact xy h3 U8 (by show h3.next≠p;have:=hs3.h.lt;omega) rfl rfl
   have hs4:=hs3.h.le lh4
   replace sv:=Hid.mk sv;replace hs4:=Hid.mk hs4;replace lh4:=Hid.mk lh4
   repeat' (first|simp -implicitDefEqProofs only [za,aR,aW,zb,ze,Int.reduceBEq,Int.reduceBNe,Nat.reduceBEq,Int.reduceLT,Int.reduceLE,zi, *]|with_reducible (first|apply kcd|apply kgd|apply kci|apply kgi)<;>intro hc)
   refine k0 hs4.h o1.h o2.h o3.h sv.h (by decide) _ fun h5 l5 hs5=>?_
   have l5:=(lh4.h.but p).trans l5
   obtain ⟨f1,f2,f3⟩:=fin.h h5 _ 0 0 2 (yb c.any s1 U8).1 (.slice none 0 0) [] l5 hs5 ExsVB.nil hun
   have bv:=qn9 (yb c.any s1 U8).1
   replace f3:=Hid.mk f3
   clear fin hs5 l5 hun sv hs4 hih
   repeat' (first|simp -implicitDefEqProofs only [za,aR,aW,zb,ze,Int.reduceBEq,Int.reduceBNe,Nat.reduceBEq,Int.reduceLT,Int.reduceLE,zi, *]|with_reducible (first|apply kcd|apply kgd|apply kci|apply kgi)<;>intro hc)
   exact f3.h
  rw [if_neg hk4] at hun
  have c3:¬ (k:Int) < 4:=by omega
  by_cases hk5:k=4
  ·subst hk5
   have c4:((4:Nat):Int)=4:=rfl
   rw [if_pos rfl] at hun
   replace hih:=Hid.mk hih;replace hun:=Hid.mk hun
   clear hk4 hk2
   have hlt:=yh hs3.h.in (n:=3) (by omega)
   repeat' (first|simp -implicitDefEqProofs only [za,aR,aW,zb,ze,Int.reduceBEq,Int.reduceBNe,Nat.reduceBEq,Int.reduceLT,Int.reduceLE,zi, *]|with_reducible (first|apply kcd|apply kgd|apply kci|apply kgi)<;>intro hc)
   refine yp (n:=3) hs3.h (by omega) (by omega) _ fun h4 l4 _ hs4=>j2 l4 ?_
   have g4:=l4.keep (i:=q1) hq1 g1
   have hc4:=hc3.h.but l4
   have hn4:=l4.next
   obtain ⟨o,ho⟩:∃ o,(zg s1 3).1=o:=⟨_,rfl⟩
   rw [ho] at hlt hun
   rw [ho]
   have hw15:IntKind.i64.wrap (15 + (o:Int))=15 + (o:Int):=zu (by omega) (by omega)
   have l4:=l3.h.trans l4
   replace hs4:=Hid.mk hs4;replace l4:=Hid.mk l4;replace hc4:=Hid.mk hc4;replace hlt:=Hid.mk hlt;replace hn4:=Hid.mk hn4
   repeat' (first|simp -implicitDefEqProofs only [za,aR,aW,zb,ze,Int.reduceBEq,Int.reduceBNe,Nat.reduceBEq,Int.reduceLT,Int.reduceLE,zi, *]|with_reducible (first|apply kcd|apply kgd|apply kci|apply kgi)<;>intro hc)
   refine hih.h _ _ _ _ _ hs4.h hc4.h fun h5 y l5 hs5 hy5=>?_
   have l5':=l4.h.trans l5
   have hnx:h4.next≤h5.next:=l5.next
   have u:=wt hy5.ones
   have hnew:=ExsVB.new (B':=fun id=>h.next≤id∧id≠q2) (l:=[(zy c d' (zg s1 3).2).1]) (xs:=[y]) ⟨y,[],rfl,hy5,rfl⟩ (fun id hb _=>by have h1:=hn4.h;have h2:=l33.h.next;have h3:=Heap.lt_of_get g2;have h4:h4.next≤id:=hb;have h5:=hq2n.h;constructor<;>omega)
    (by have h1:=hn4.h;have h2:=l33.h.next;have h3:=Heap.lt_of_get g2;have h5:=hq2n.h;constructor<;>omega) (by simp) (by simpa using hy5.ones.1) (cells:=y) (by simp) (n:=1) rfl
   have gq6:=Heap.get_alloc_same h5 (.blk y true)
   have lh6:=(Heap.le.refl h5).alloc (.blk y true)
   obtain ⟨q6,eq6⟩:∃ x_,h5.next=x_:=⟨_,rfl⟩
   obtain ⟨h6,eh6⟩:∃ x_,h5.alloc (.blk y true)=x_:=⟨_,rfl⟩
   rw [eh6] at gq6 lh6
   rw [eq6] at gq6
   rw [eh6,eq6] at hnew
   have hs6:=hs5.le lh6
   obtain ⟨f1,f2,f3⟩:=fin.h h6 _ (15 + (o:Int)) 0 3 [] _ _ (l5'.le' lh6) hs6 hnew hun.h
   have bv:=Zy 3 (15 + (o:Int)) (i:=q6) (n:=1)
   replace f3:=Hid.mk f3
   clear fin hs5 l5 l5' hun hs6 hnew lh6 hih hy5 g4 gq6
   repeat' (first|simp -implicitDefEqProofs only [za,aR,aW,zb,ze,Int.reduceBEq,Int.reduceBNe,Nat.reduceBEq,Int.reduceLT,Int.reduceLE,zi, *]|with_reducible (first|apply kcd|apply kgd|apply kci|apply kgi)<;>intro hc)
   exact f3.h
  rw [if_neg hk5] at hun
  have c4:((k:Int) == 4)=false:=by simp;omega
  by_cases hk6:k=5∧(c.any=true∨c.held≠[])
  ·obtain ⟨rfl,hk7⟩:=hk6
   rw [if_pos ⟨rfl,hk7⟩] at hun
   have c5:((5:Nat):Int)=5:=rfl
   obtain ⟨_,_,hv',hx,t1,t2,t3,_⟩:=hc3.h
   have hve:hv' = hv:=by injection hx with _ hx;injection hx with _ hx;injection hx with _ hx;injection hx with hx _;exact hx.symm
   subst hve
   have ln:=t3.plain.len
   have hgt:c.any=false→(0:Int) < (c.held.length:Int):=fun e=>by
    have:c.held≠[]:=hk7.resolve_left (by simp [e])
    have:=List.length_pos_iff.2 this
    omega
   replace hih:=Hid.mk hih;replace hun:=Hid.mk hun;replace t3:=Hid.mk t3;replace hgt:=Hid.mk hgt
   clear hk4 hk2 hk5 hx t1 t2
   have hboth:∀ b:Bool,c.any=b→(b=true∨(b=false∧(0:Int) < (c.held.length:Int))):=fun b e=>by
    cases b with
    | true=>exact .inl rfl
    | false=>exact .inr ⟨rfl,hgt.h e⟩
   clear hgt hk7
   cases hany:c.any with
   | true =>
    clear hboth
    rw [hany] at hun
    simp only [hany] at *
    repeat' (first|simp -implicitDefEqProofs only [za,aR,aW,zb,ze,Int.reduceBEq,Int.reduceBNe,Nat.reduceBEq,Int.reduceLT,Int.reduceLE,zi, *]|with_reducible (first|apply kcd|apply kgd|apply kci|apply kgi)<;>intro hc)
    refine k0 hs3.h o1.h o2.h o3.h t3.h (by have:=hheld.h;omega) _ fun h4 l4 hs4=>j2 l4 ?_
    have g4:=l4.keep (i:=q1) hq1 g1
    have hc4:=hc3.h.but l4
    have hn4:=l4.next
    obtain ⟨nm,hnm⟩:∃ nm,yb true s1 c.held=nm:=⟨_,rfl⟩
    rw [hnm] at hs4 hun
    rw [hnm]
    have l4:=l3.h.trans l4
    replace hs4:=Hid.mk hs4;replace l4:=Hid.mk l4;replace hc4:=Hid.mk hc4;replace hn4:=Hid.mk hn4
    repeat' (first|simp -implicitDefEqProofs only [za,aR,aW,zb,ze,Int.reduceBEq,Int.reduceBNe,Nat.reduceBEq,Int.reduceLT,Int.reduceLE,zi, *]|with_reducible (first|apply kcd|apply kgd|apply kci|apply kgi)<;>intro hc)
    refine hih.h _ _ _ _ _ hs4.h hc4.h fun h5 y l5 hs5 hy5=>?_
    have l5':=l4.h.trans l5
    have hnx:h4.next≤h5.next:=l5.next
    have u:=wt hy5.ones
    have hnew:=ExsVB.new (B':=fun id=>h.next≤id∧id≠q2) (l:=[(zy c d' nm.2).1]) (xs:=[y]) ⟨y,[],rfl,hy5,rfl⟩ (fun id hb _=>by have h1:=hn4.h;have h2:=l33.h.next;have h3:=Heap.lt_of_get g2;have h4:h4.next≤id:=hb;have h5:=hq2n.h;constructor<;>omega)
     (by have h1:=hn4.h;have h2:=l33.h.next;have h3:=Heap.lt_of_get g2;have h5:=hq2n.h;constructor<;>omega) (by simp) (by simpa using hy5.ones.1) (cells:=y) (by simp) (n:=1) rfl
    have gq6:=Heap.get_alloc_same h5 (.blk y true)
    have lh6:=(Heap.le.refl h5).alloc (.blk y true)
    obtain ⟨q6,eq6⟩:∃ x_,h5.next=x_:=⟨_,rfl⟩
    obtain ⟨h6,eh6⟩:∃ x_,h5.alloc (.blk y true)=x_:=⟨_,rfl⟩
    rw [eh6] at gq6 lh6
    rw [eq6] at gq6
    rw [eh6,eq6] at hnew
    have hs6:=hs5.le lh6
    obtain ⟨f1,f2,f3⟩:=fin.h h6 _ 0 0 5 nm.1 _ _ (l5'.le' lh6) hs6 hnew hun.h
    have bv:=zo5 nm.1 (i:=q6) (n:=1)
    replace f3:=Hid.mk f3
    clear fin hs5 l5 l5' hun hs6 hnew lh6 hih hy5 g4 gq6
    repeat' (first|simp -implicitDefEqProofs only [za,aR,aW,zb,ze,Int.reduceBEq,Int.reduceBNe,Nat.reduceBEq,Int.reduceLT,Int.reduceLE,zi, *]|with_reducible (first|apply kcd|apply kgd|apply kci|apply kgi)<;>intro hc)
    exact f3.h
   | false =>
    have hgt:=(hboth _ hany).resolve_left (by simp)
    have hgt:=hgt.2
    clear hboth
    rw [hany] at hun
    simp only [hany] at *
    repeat' (first|simp -implicitDefEqProofs only [za,aR,aW,zb,ze,Int.reduceBEq,Int.reduceBNe,Nat.reduceBEq,Int.reduceLT,Int.reduceLE,zi, *]|with_reducible (first|apply kcd|apply kgd|apply kci|apply kgi)<;>intro hc)
    refine k0 hs3.h o1.h o2.h o3.h t3.h (by have:=hheld.h;omega) _ fun h4 l4 hs4=>j2 l4 ?_
    have g4:=l4.keep (i:=q1) hq1 g1
    have hc4:=hc3.h.but l4
    have hn4:=l4.next
    obtain ⟨nm,hnm⟩:∃ nm,yb false s1 c.held=nm:=⟨_,rfl⟩
    rw [hnm] at hs4 hun
    rw [hnm]
    have l4:=l3.h.trans l4
    replace hs4:=Hid.mk hs4;replace l4:=Hid.mk l4;replace hc4:=Hid.mk hc4;replace hn4:=Hid.mk hn4
    repeat' (first|simp -implicitDefEqProofs only [za,aR,aW,zb,ze,Int.reduceBEq,Int.reduceBNe,Nat.reduceBEq,Int.reduceLT,Int.reduceLE,zi, *]|with_reducible (first|apply kcd|apply kgd|apply kci|apply kgi)<;>intro hc)
    refine hih.h _ _ _ _ _ hs4.h hc4.h fun h5 y l5 hs5 hy5=>?_
    have l5':=l4.h.trans l5
    have hnx:h4.next≤h5.next:=l5.next
    have u:=wt hy5.ones
    have hnew:=ExsVB.new (B':=fun id=>h.next≤id∧id≠q2) (l:=[(zy c d' nm.2).1]) (xs:=[y]) ⟨y,[],rfl,hy5,rfl⟩ (fun id hb _=>by have h1:=hn4.h;have h2:=l33.h.next;have h3:=Heap.lt_of_get g2;have h4:h4.next≤id:=hb;have h5:=hq2n.h;constructor<;>omega)
     (by have h1:=hn4.h;have h2:=l33.h.next;have h3:=Heap.lt_of_get g2;have h5:=hq2n.h;constructor<;>omega) (by simp) (by simpa using hy5.ones.1) (cells:=y) (by simp) (n:=1) rfl
    have gq6:=Heap.get_alloc_same h5 (.blk y true)
    have lh6:=(Heap.le.refl h5).alloc (.blk y true)
    obtain ⟨q6,eq6⟩:∃ x_,h5.next=x_:=⟨_,rfl⟩
    obtain ⟨h6,eh6⟩:∃ x_,h5.alloc (.blk y true)=x_:=⟨_,rfl⟩
    rw [eh6] at gq6 lh6
    rw [eq6] at gq6
    rw [eh6,eq6] at hnew
    have hs6:=hs5.le lh6
    obtain ⟨f1,f2,f3⟩:=fin.h h6 _ 0 0 5 nm.1 _ _ (l5'.le' lh6) hs6 hnew hun.h
    have bv:=zo5 nm.1 (i:=q6) (n:=1)
    replace f3:=Hid.mk f3
    clear fin hs5 l5 l5' hun hs6 hnew lh6 hih hy5 g4 gq6
    repeat' (first|simp -implicitDefEqProofs only [za,aR,aW,zb,ze,Int.reduceBEq,Int.reduceBNe,Nat.reduceBEq,Int.reduceLT,Int.reduceLE,zi, *]|with_reducible (first|apply kcd|apply kgd|apply kci|apply kgi)<;>intro hc)
    exact f3.h
  ·rw [if_neg hk6] at hun
   have hlt:=yh hs3.h.in (n:=14) (by omega)
   obtain ⟨_,_,hv',hx,t1,t2,t3,_⟩:=hc3.h
   have hve:hv' = hv:=by injection hx with _ hx;injection hx with _ hx;injection hx with _ hx;injection hx with hx _;exact hx.symm
   subst hve
   have ln:=t3.plain.len
   clear hx t1 t2 t3 hk4 hk2 hk5
   replace hih:=Hid.mk hih;replace hun:=Hid.mk hun
   by_cases hk7:k=5
   ·subst hk7
    obtain ⟨hany,hh⟩:c.any=false∧c.held=[]:=by
     refine ⟨?_,?_⟩
     ·cases ha:c.any with
      | true=>exact absurd ⟨rfl,.inl ha⟩ hk6
      | false=>rfl
     ·cases hh:c.held with
      | nil=>rfl
      | cons a r=>exact absurd ⟨rfl,.inr (by simp [hh])⟩ hk6
    rw [hh] at ln
    have c5:((5:Nat):Int)=5:=rfl
    have c6:(([]:List (List UInt8)).length:Int)=0:=rfl
    replace hh:=Hid.mk hh
    clear hk6
    simp only [hany] at *
    repeat' (first|simp -implicitDefEqProofs only [za,aR,aW,zb,ze,Int.reduceBEq,Int.reduceBNe,Nat.reduceBEq,Int.reduceLT,Int.reduceLE,zi, *]|with_reducible (first|apply kcd|apply kgd|apply kci|apply kgi)<;>intro hc)
    refine yp (n:=14) hs3.h (by omega) (by omega) _ fun h4 l4 _ hs4=>j2 l4 ?_
    have g4:=l4.keep (i:=q1) hq1 g1
    have hc4:=hc3.h.but l4
    have hn4:=l4.next
    obtain ⟨o,ho⟩:∃ o,(zg s1 14).1=o:=⟨_,rfl⟩
    rw [ho] at hlt hun
    rw [ho]
    have hw15:IntKind.i64.wrap (1 + (o:Int))=1 + (o:Int):=zu (by omega) (by omega)
    have l4:=l3.h.trans l4
    replace hs4:=Hid.mk hs4;replace l4:=Hid.mk l4;replace hc4:=Hid.mk hc4;replace hlt:=Hid.mk hlt;replace hn4:=Hid.mk hn4
    repeat' (first|simp -implicitDefEqProofs only [za,aR,aW,zb,ze,Int.reduceBEq,Int.reduceBNe,Nat.reduceBEq,Int.reduceLT,Int.reduceLE,zi, *]|with_reducible (first|apply kcd|apply kgd|apply kci|apply kgi)<;>intro hc)
    refine hih.h _ _ _ _ _ hs4.h hc4.h fun h5 y l5 hs5 hy5=>j2 l5 ?_
    have g5:=l5.keep (i:=q1) hq1 g4
    have hc5:=hc4.h.but l5
    have l5':=l4.h.trans l5
    have hn5:h4.next≤h5.next:=l5.next
    have hp4:=hs4.h.lt
    clear g4
    replace hs5:=Hid.mk hs5;replace l5':=Hid.mk l5';replace hc5:=Hid.mk hc5;replace hn5:=Hid.mk hn5;replace hy5:=Hid.mk hy5;replace hp4:=Hid.mk hp4
    repeat' (first|simp -implicitDefEqProofs only [za,aR,aW,zb,ze,Int.reduceBEq,Int.reduceBNe,Nat.reduceBEq,Int.reduceLT,Int.reduceLE,zi, *]|with_reducible (first|apply kcd|apply kgd|apply kci|apply kgi)<;>intro hc)
    refine hih.h _ _ _ _ _ hs5.h hc5.h fun h6 z l6 hs6 hz6=>?_
    have hy6:ExCB (fun id=>h4.next≤id) h6 _ y:=hy5.h.to (l6.toB fun id hb=>⟨by have h1:h4.next≤id:=hb;have h2:=hp4.h;omega,hb⟩)
    have hz6' : ExCB (fun id=>h4.next≤id) h6 _ z:=hz6.to (Heap.toB_id fun id hb=>by have h1:h5.next≤id:=hb;have h2:=hn5.h;show h4.next≤id;omega)
    have l6':=l5'.h.trans l6
    have hnx:h5.next≤h6.next:=l6.next
    have u:=Xr hy6.ones hz6'.ones
    have hnew:=ExsVB.new (B':=fun id=>h.next≤id∧id≠q2) (l:=[(zy c d' (zg s1 14).2).1,(zy c d' (zy c d' (zg s1 14).2).2).1]) (xs:=[y,z]) ⟨y,[z],rfl,hy6,z,[],rfl,hz6',rfl⟩ (fun id hb _=>by have h1:=hn4.h;have h2:=l33.h.next;have h3:=Heap.lt_of_get g2;have h4:h4.next≤id:=hb;have h5:=hq2n.h;constructor<;>omega)
     (by have h1:=hn4.h;have h2:=l33.h.next;have h3:=Heap.lt_of_get g2;have h5:=hq2n.h;have h6:=hn5.h;constructor<;>omega) (by simp) (by intro x hx;simp at hx;rcases hx with rfl | rfl;exact hy6.ones.1;exact hz6'.ones.1) (cells:=y++z) (by simp) (n:=2) rfl
    have gq7:=Heap.get_alloc_same h6 (.blk (y++z) true)
    have lh7:=(Heap.le.refl h6).alloc (.blk (y++z) true)
    obtain ⟨q7,eq7⟩:∃ x_,h6.next=x_:=⟨_,rfl⟩
    obtain ⟨h7,eh7⟩:∃ x_,h6.alloc (.blk (y++z) true)=x_:=⟨_,rfl⟩
    rw [eh7] at gq7 lh7
    rw [eq7] at gq7
    rw [eh7,eq7] at hnew
    have hs7:=hs6.le lh7
    obtain ⟨f1,f2,f3⟩:=fin.h h7 _ (1 + (o:Int)) 0 4 [] _ _ (l6'.le' lh7) hs7 hnew hun.h
    have bv:=Zy 4 (1 + (o:Int)) (i:=q7) (n:=2)
    replace f3:=Hid.mk f3
    clear fin hs5 l5 l5' l6 l6' hun hs6 hs7 hnew lh7 hih hy5 hy6 hz6 hz6' g5 gq7
    repeat' (first|simp -implicitDefEqProofs only [za,aR,aW,zb,ze,Int.reduceBEq,Int.reduceBNe,Nat.reduceBEq,Int.reduceLT,Int.reduceLE,zi, *]|with_reducible (first|apply kcd|apply kgd|apply kci|apply kgi)<;>intro hc)
    exact f3.h
   ·have c5:((k:Int) == 5)=false:=by simp;omega
    clear hk6 hk7
    repeat' (first|simp -implicitDefEqProofs only [za,aR,aW,zb,ze,Int.reduceBEq,Int.reduceBNe,Nat.reduceBEq,Int.reduceLT,Int.reduceLE,zi, *]|with_reducible (first|apply kcd|apply kgd|apply kci|apply kgi)<;>intro hc)
    refine yp (n:=14) hs3.h (by omega) (by omega) _ fun h4 l4 _ hs4=>j2 l4 ?_
    have g4:=l4.keep (i:=q1) hq1 g1
    have hc4:=hc3.h.but l4
    have hn4:=l4.next
    obtain ⟨o,ho⟩:∃ o,(zg s1 14).1=o:=⟨_,rfl⟩
    rw [ho] at hlt hun
    rw [ho]
    have hw15:IntKind.i64.wrap (1 + (o:Int))=1 + (o:Int):=zu (by omega) (by omega)
    have l4:=l3.h.trans l4
    replace hs4:=Hid.mk hs4;replace l4:=Hid.mk l4;replace hc4:=Hid.mk hc4;replace hlt:=Hid.mk hlt;replace hn4:=Hid.mk hn4
    repeat' (first|simp -implicitDefEqProofs only [za,aR,aW,zb,ze,Int.reduceBEq,Int.reduceBNe,Nat.reduceBEq,Int.reduceLT,Int.reduceLE,zi, *]|with_reducible (first|apply kcd|apply kgd|apply kci|apply kgi)<;>intro hc)
    refine hih.h _ _ _ _ _ hs4.h hc4.h fun h5 y l5 hs5 hy5=>j2 l5 ?_
    have g5:=l5.keep (i:=q1) hq1 g4
    have hc5:=hc4.h.but l5
    have l5':=l4.h.trans l5
    have hn5:h4.next≤h5.next:=l5.next
    have hp4:=hs4.h.lt
    clear g4
    replace hs5:=Hid.mk hs5;replace l5':=Hid.mk l5';replace hc5:=Hid.mk hc5;replace hn5:=Hid.mk hn5;replace hy5:=Hid.mk hy5;replace hp4:=Hid.mk hp4
    repeat' (first|simp -implicitDefEqProofs only [za,aR,aW,zb,ze,Int.reduceBEq,Int.reduceBNe,Nat.reduceBEq,Int.reduceLT,Int.reduceLE,zi, *]|with_reducible (first|apply kcd|apply kgd|apply kci|apply kgi)<;>intro hc)
    refine hih.h _ _ _ _ _ hs5.h hc5.h fun h6 z l6 hs6 hz6=>?_
    have hy6:ExCB (fun id=>h4.next≤id) h6 _ y:=hy5.h.to (l6.toB fun id hb=>⟨by have h1:h4.next≤id:=hb;have h2:=hp4.h;omega,hb⟩)
    have hz6' : ExCB (fun id=>h4.next≤id) h6 _ z:=hz6.to (Heap.toB_id fun id hb=>by have h1:h5.next≤id:=hb;have h2:=hn5.h;show h4.next≤id;omega)
    have l6':=l5'.h.trans l6
    have hnx:h5.next≤h6.next:=l6.next
    have u:=Xr hy6.ones hz6'.ones
    have hnew:=ExsVB.new (B':=fun id=>h.next≤id∧id≠q2) (l:=[(zy c d' (zg s1 14).2).1,(zy c d' (zy c d' (zg s1 14).2).2).1]) (xs:=[y,z]) ⟨y,[z],rfl,hy6,z,[],rfl,hz6',rfl⟩ (fun id hb _=>by have h1:=hn4.h;have h2:=l33.h.next;have h3:=Heap.lt_of_get g2;have h4:h4.next≤id:=hb;have h5:=hq2n.h;constructor<;>omega)
     (by have h1:=hn4.h;have h2:=l33.h.next;have h3:=Heap.lt_of_get g2;have h5:=hq2n.h;have h6:=hn5.h;constructor<;>omega) (by simp) (by intro x hx;simp at hx;rcases hx with rfl | rfl;exact hy6.ones.1;exact hz6'.ones.1) (cells:=y++z) (by simp) (n:=2) rfl
    have gq7:=Heap.get_alloc_same h6 (.blk (y++z) true)
    have lh7:=(Heap.le.refl h6).alloc (.blk (y++z) true)
    obtain ⟨q7,eq7⟩:∃ x_,h6.next=x_:=⟨_,rfl⟩
    obtain ⟨h7,eh7⟩:∃ x_,h6.alloc (.blk (y++z) true)=x_:=⟨_,rfl⟩
    rw [eh7] at gq7 lh7
    rw [eq7] at gq7
    rw [eh7,eq7] at hnew
    have hs7:=hs6.le lh7
    obtain ⟨f1,f2,f3⟩:=fin.h h7 _ (1 + (o:Int)) 0 4 [] _ _ (l6'.le' lh7) hs7 hnew hun.h
    have bv:=Zy 4 (1 + (o:Int)) (i:=q7) (n:=2)
    replace f3:=Hid.mk f3
    clear fin hs5 l5 l5' l6 l6' hun hs6 hs7 hnew lh7 hih hy5 hy6 hz6 hz6' g5 gq7
    repeat' (first|simp -implicitDefEqProofs only [za,aR,aW,zb,ze,Int.reduceBEq,Int.reduceBNe,Nat.reduceBEq,Int.reduceLT,Int.reduceLE,zi, *]|with_reducible (first|apply kcd|apply kgd|apply kci|apply kgi)<;>intro hc)
    exact f3.h
theorem we (c:Sco):∀ (d:Nat),d≤100→ExprC c d
 | 0,hd=>yd4 hd fun d' hd'=>by omega
 | d + 1,hd=>yd4 hd fun d' hd'=>by cases hd';exact we c d (by omega)
end Go.Eng.Sy
namespace Go.Eng.Sy
open Go Go.Eng Go.Proofs
def vi (c:Sco) (s:List Int):List UInt8 × Nat × List Int :=
 if c.any then ((yb true s c.ress).1,c.free,(yb true s c.ress).2)
 else
  let s1:=(yb false s c.ress).2
  let i:=c.free + (zg s1 (c.ress.length - c.free)).1
  (c.ress.getD i [],i + 1,(zg s1 (c.ress.length - c.free)).2)
def inSco (c:Sco) (r:List UInt8) (f:Nat):Sco:={ c with free:=f,held:=c.held++[r] }
def ur (rec:Option (Sco→List Int→List St × List Int)) (c:Sco) (loc:List UInt8) (k:Nat) (s2:List Int):St × List Int :=
 if k < 2 then
  let f:=yb c.any s2 c.devs
  (.mk 2 loc f.1 ((zg f.2 4).1:Nat) [] [] [],(zg f.2 4).2)
 else if k < 5 then
  let f:=yb c.any s2 c.devs
  let n:=zg f.2 4
  (.mk 3 f.1 [] (n.1:Nat) [(zy c 3 n.2).1] [] [],(zy c 3 n.2).2)
 else if k < 7∧(c.any=true∨c.held≠[]) then
  let f:=yb c.any s2 c.held
  let a:=zy c 2 f.2
  (.mk 4 f.1 [] 0 [a.1,(zy c 3 a.2).1] [] [],(zy c 3 a.2).2)
 else if k=11 then (.mk 8 [] [] 0 [] [] [],s2)
 else match rec with
  | none=>(.mk 1 loc [] 0 [(zy c 4 s2).1] [] [],(zy c 4 s2).2)
  | some rec =>
   if k < 9∧(c.any=true∨c.free < c.ress.length) then
    let r:=vi c s2
    let b:=rec (inSco c r.1 r.2.1) r.2.2
    (.mk 5 r.1 [] 0 [] b.1 [],b.2)
   else if k=9 then
    let e:=zy c 3 s2
    let t:=rec c e.2
    (.mk 6 [] [] 0 [e.1] t.1 (rec c t.2).1,(rec c t.2).2)
   else if k=10 then
    let n:=zg s2 5
    (.mk 7 [] [] (n.1:Nat) [] (rec c n.2).1 [],(rec c n.2).2)
   else (.mk 1 loc [] 0 [(zy c 4 s2).1] [] [],(zy c 4 s2).2)
def wu (rec:Option (Sco→List Int→List St × List Int)) (c:Sco) (s:List Int):St × List Int :=
 ur rec c (yb c.any s U8).1 (zg (yb c.any s U8).2 12).1 (zg (yb c.any s U8).2 12).2
def qm (one:List Int→St × List Int):Nat→List Int→List St × List Int
 | 0,s=>([],s)
 | n + 1,s=>((one s).1::(qm one n (one s).2).1,(qm one n (one s).2).2)
def jo:Nat→Sco→List Int→List St × List Int
 | 0,c,s=>qm (wu none c) (zg s 4).1 (zg s 4).2
 | d + 1,c,s=>qm (wu (some (jo d)) c) (zg s 4).1 (zg s 4).2
def Q6:Nat→Option (Sco→List Int→List St × List Int)
 | 0=>none
 | d + 1=>some (jo d)
theorem Vt (d:Nat) (c:Sco) (s:List Int):jo d c s=qm (wu (Q6 d) c) (zg s 4).1 (zg s 4).2:=by
 cases d<;>rfl
theorem Qu (one:List Int→St × List Int):∀ (n:Nat) (s:List Int),qm one (n + 1) s=((qm one n s).1++[(one (qm one n s).2).1],(one (qm one n s).2).2)
 | 0,s=>rfl
 | n + 1,s=>by
  have:=Qu one n (one s).2
  rw [qm,this]
  rfl
theorem vt (one:List Int→St × List Int):∀ (n:Nat) (s:List Int),(qm one n s).1.length=n
 | 0,s=>rfl
 | n + 1,s=>by simp [qm,vt one n]
def StmtG (c:Sco) (d:Nat):Prop:=∀ (raw:List Int) (h:Heap) (p:Nat) (x:List Value) (Q:Value→Heap→Prop),Src h p raw→ScB p h c x →
 (∀ h' y,h.leBut p h' → Src h' p (wu (Q6 d) c raw).2→StCB (fun id=>h.next≤id) h' (wu (Q6 d) c raw).1 y→Q (.agg y.toArray) h')→CallW Tryz.prog 64 [.agg x.toArray,.pointer (some ⟨p,0,none⟩),.int .i64 (d:Int)] h Q
def qo9 (c:Sco) (d:Nat):Prop:=∀ (raw:List Int) (h:Heap) (p:Nat) (x:List Value) (Q:Value→Heap→Prop),Src h p raw→ScB p h c x →
 (∀ h' v,h.leBut p h' → Src h' p (jo d c raw).2→StsVB (fun id=>h.next≤id) h' v (jo d c raw).1→Q v h')→CallW Tryz.prog 26 [.agg x.toArray,.pointer (some ⟨p,0,none⟩),.int .i64 (d:Int)] h Q
theorem StCB.cells {B:Nat→Prop}{h:Heap}{e:St}{x:List Value}(hx:StCB B h e x):∃ v u w,x=[.int .i64 e.kind,str e.name,str e.src,.int .i64 e.n,v,u,w]∧ExsVB B h v e.args∧StsVB B h u e.thn∧StsVB B h w e.els:=by
 cases e;obtain ⟨v,xs,u,ys,w,zs,h1,h2,h3,h4⟩:=hx;exact ⟨v,u,w,h1,⟨xs,h2⟩,⟨ys,h3⟩,⟨zs,h4⟩⟩
theorem StsVB.one {B:Nat→Prop}{h:Heap}{v:Value}{l:List St}(hv:StsVB B h v l):v.oneCell' = true:=hv.plain.one
theorem StCB.ones {B:Nat→Prop}{h:Heap}{e:St}{x:List Value}(hx:StCB B h e x):x.length=7∧x.all (·.oneCell')=true:=by
 obtain ⟨v,u,w,rfl,hv,hu,hw⟩:=hx.cells
 exact ⟨rfl,by simpa [Value.oneCell'] using ⟨hv.one,hu.one,hw.one⟩⟩
theorem StCsB.length {B:Nat→Prop}{h:Heap}:∀ {l:List St}{xs:List (List Value)},StCsB B h l xs→xs.length=l.length
 | [],_,hx=>by rw [show _=[] from hx];rfl
 | _::_,_,⟨x,xr,h1,h2,h3⟩=>by rw [h1];simp [StCsB.length h3]
theorem StCsB.snoc {B:Nat→Prop}{h:Heap}{e:St}{x:List Value}(hx:StCB B h e x):∀ {l:List St}{xs:List (List Value)},StCsB B h l xs→StCsB B h (l++[e]) (xs++[x])
 | [],_,h0=>by rw [show _=[] from h0];exact ⟨x,[],rfl,hx,rfl⟩
 | _::_,_,⟨y,yr,h1,h2,h3⟩=>by rw [h1];exact ⟨y,yr++[x],rfl,h2,StCsB.snoc hx h3⟩
theorem bs_st1 {x:List Value}(hx:x.length=7∧x.all (·.oneCell')=true):yd [.int .i64 0,.string ⟨#[]⟩,.string ⟨#[]⟩,.int .i64 0,.slice none 0 0,.slice none 0 0,.slice none 0 0] [(0,7)] 1 7 [.agg x.toArray]=some (x,fun id=>.slice (some ⟨id,0,none⟩) 1 7):=qq rfl hx.1 rfl hx.2
end Go.Eng.Sy
namespace Go.Eng
open Go
def kh (n:Nat):Heap:=⟨n,fun _=>none,fun _ _=>rfl⟩
theorem vn {n:Nat}{h:Heap}(hn:n≤h.next):(kh n).le h:=⟨(fun _ _ e=>by cases e),hn⟩
theorem OwnS.notOf {n:Nat}{h:Heap}{s:Nat}{v:Value}{xs:List (List Value)}(ha:OwnS (kh n) h s v xs){i:Nat}(hi:i < n):notOf v i:=by
 rcases ha with ⟨rfl,_⟩ | ⟨id,rfl,h1,_⟩
 ·intro a b e;cases e
 ·intro a b e
  cases e
  have:n≤i:=h1
  omega
theorem OwnS.keepBut {n p:Nat}{h h' : Heap}{s:Nat}{v:Value}{xs:List (List Value)}(ha:OwnS (kh n) h s v xs) (hp:p < n) (hl:h.leBut p h'):OwnS (kh n) h' s v xs :=
 ha.get fun id hv hs=>hl.get id (by
  rcases ha with ⟨rfl,_⟩ | ⟨id',e,h1,_⟩
  ·cases hv
  ·rw [hv] at e
   cases e
   have h2:n≤id:=h1
   omega) hs
end Go.Eng
namespace Go.Eng.Sy
open Go Go.Eng Go.Proofs
theorem OwnS.slB {n:Nat}{h:Heap}{s:Nat}{v:Value}{xs:List (List Value)}(ha:OwnS (kh n) h s v xs):SlVB (fun id=>n≤id) h s v xs:=by
 have hsl:=ha.sl
 rcases ha with ha | ⟨id,rfl,h1,_⟩
 ·exact .inl ha
 ·rcases hsl with ⟨e,_⟩ | ⟨id',off,e,hx⟩
  ·cases e
  ·cases e
   exact .inr ⟨_,_,rfl,hx.imp (fun e=>e) fun a=>⟨h1,a⟩⟩
theorem OwnS.one {n:Nat}{h:Heap}{s:Nat}{v:Value}{xs:List (List Value)}(ha:OwnS (kh n) h s v xs):v.oneCell' = true:=SlV.one ha.sl
theorem zh9 {c:Sco}{d:Nat}(hd:d≤100) (ih:StmtG c d):qo9 c d:=by
 intro raw h p x Q hs hc hq
 have hc0:=hc
 obtain ⟨dv,rv,hv,rfl,s1,s2,s3,_⟩:=hc
 have b1:=zo9 (f:=(c.free:Int)) (a:=c.any) s1.one s2.one s3.one
 have gq1:=Heap.get_alloc_same h (.blk [dv,rv,.int .i64 (c.free:Int),hv,.bool c.any] true)
 have lh1:=(Heap.le.refl h).alloc (.blk [dv,rv,.int .i64 (c.free:Int),hv,.bool c.any] true)
 obtain ⟨q1,eq1⟩:∃ x_,h.next=x_:=⟨_,rfl⟩
 obtain ⟨h1,eh1⟩:∃ x_,h.alloc (.blk [dv,rv,.int .i64 (c.free:Int),hv,.bool c.any] true)=x_:=⟨_,rfl⟩
 rw [eh1] at gq1 lh1
 rw [eq1] at gq1
 have hpl:=hs.lt
 have hq1n:h.next≤q1:=by omega
 have hq1:q1≠p:=by omega
 have hs1:=hs.le lh1
 have hc1:=hc0.le lh1
 clear hs hc0 s1 s2 s3
 replace hs1:=Hid.mk hs1;replace hc1:=Hid.mk hc1;replace lh1:=Hid.mk lh1;replace ih:=Hid.mk ih;replace hpl:=Hid.mk hpl;replace hq1n:=Hid.mk hq1n
 refine zh (k:=4) ok26 rfl rfl rfl fun N=>?_
 rw [show yj c26 [scV dv rv (c.free:Int) hv c.any,.pointer (some ⟨p,0,none⟩),.int .i64 (d:Int)]=[scV dv rv (c.free:Int) hv c.any,.pointer (some ⟨p,0,none⟩),.int .i64 (d:Int),undef,undef,undef,undef] from rfl]
 delta c26 qb4 qb3 qb2 qb1 qb0 qa9 qa8
 replace hq:=Hid.mk hq
 repeat' (first|simp -implicitDefEqProofs only [za,aR,aW,zb,ze,Int.reduceBEq,Int.reduceBNe,Nat.reduceBEq,Int.reduceLT,Int.reduceLE, *]|with_reducible (first|apply kcd|apply kgd|apply kci|apply kgi)<;>intro hc)
 refine yp (n:=4) hs1.h (by omega) (by omega) _ fun h2 l2 _ hs2=>?_
 have g2:=l2.keep (i:=q1) hq1 gq1
 have hc2:=hc1.h.but l2
 have hlt:=yh hs1.h.in (n:=4) (by omega)
 have heq:=Vt d c raw
 obtain ⟨n,hn⟩:∃ k,(zg raw 4).1=k:=⟨_,rfl⟩
 obtain ⟨r1,hr1⟩:∃ k,(zg raw 4).2=k:=⟨_,rfl⟩
 rw [hr1] at hs2
 rw [hn,hr1] at heq
 rw [hn] at hlt
 rw [hn]
 rw [heq] at hq
 have l2:=Heap.leBut.of_le lh1.h l2
 clear hs1 hc1 lh1 gq1 b1 heq
 have hne2:h.next≤h2.next:=l2.next
 replace hs2:=Hid.mk hs2;replace hc2:=Hid.mk hc2;replace l2:=Hid.mk l2;replace hlt:=Hid.mk hlt;replace hne2:=Hid.mk hne2
 repeat' (first|simp -implicitDefEqProofs only [za,aR,aW,zb,ze,Int.reduceBEq,Int.reduceBNe,Nat.reduceBEq,Int.reduceLT,Int.reduceLE, *]|with_reducible (first|apply kcd|apply kgd|apply kci|apply kgi)<;>intro hc)
 have hp2:=hs2.h.lt
 have hq2:=Heap.lt_of_get g2
 refine LoopW.down (fun m e h3=>∃ j v xs x4,j + m=n∧e=[scV dv rv (c.free:Int) hv c.any,.pointer (some ⟨p,0,none⟩),.int .i64 (d:Int),.pointer (some ⟨q1,0,none⟩),x4,v,.int .i64 (m:Int)]∧h2.leBut p h3 ∧
  Src h3 p (qm (wu (Q6 d) c) j r1).2∧OwnS (kh h2.next) h3 7 v xs∧StCsB (fun id=>h2.next≤id∧notOf v id) h3 (qm (wu (Q6 d) c) j r1).1 xs) ?_ (m:=n) ⟨0,.slice none 0 0,[],_,by omega,rfl,.refl _ _,hs2.h,OwnS.nil _ _ _,rfl⟩
 rintro m _ h3 R ⟨j,v,xs,x4,hj,rfl,l3,hs3,ho3,hx3⟩ hR
 delta c26_l6 qb4 qb3 qb2 qb1 qb0 qa9 qa8
 have g3:=l3.keep (i:=q1) hq1 g2
 have hc3:=hc2.h.but l3
 clear g2
 replace l3:=Hid.mk l3;replace hc3:=Hid.mk hc3;replace hs3:=Hid.mk hs3;replace ho3:=Hid.mk ho3;replace hx3:=Hid.mk hx3;replace hj:=Hid.mk hj;replace hp2:=Hid.mk hp2;replace hq2:=Hid.mk hq2
 cases m with
 | zero =>
  have z:¬ (0:Int) < ((0:Nat):Int):=by decide
  have hjn:j=n:=by have:=hj.h;omega
  rw [hjn] at hs3 hx3
  have g:=hq.h h3 v (l2.h.trans l3.h) hs3.h ⟨xs,SlVB.to (Heap.toB_id fun id hb=>by have h1:h2.next≤id:=hb;have:=hne2.h;show h.next≤id;omega) (OwnS.slB ho3.h),by rw [hx3.h.length,vt];have:=hlt.h;omega,hx3.h.to (Heap.toB_id fun id hb=>by have:=hb.1;have:=hne2.h;show h.next≤id;omega)⟩
  replace g:=Hid.mk g
  clear hR hq hjn
  repeat' (first|simp -implicitDefEqProofs only [za,aR,aW,zb,ze,Int.reduceBEq,Int.reduceBNe,Nat.reduceBEq,Int.reduceLT,Int.reduceLE, *]|with_reducible (first|apply kcd|apply kgd|apply kci|apply kgi)<;>intro hc)
  exact g.h
 | succ m =>
  have z:(0:Int) < ((m + 1:Nat):Int):=by omega
  have hw:IntKind.i64.wrap (((m + 1:Nat):Int) - 1)=(m:Int):=by have:=hj.h;have:=hlt.h;rw [zu (by omega) (by omega)];omega
  repeat' (first|simp -implicitDefEqProofs only [za,aR,aW,zb,ze,Int.reduceBEq,Int.reduceBNe,Nat.reduceBEq,Int.reduceLT,Int.reduceLE,zi, *]|with_reducible (first|apply kcd|apply kgd|apply kci|apply kgi)<;>intro hc)
  refine ih.h _ _ _ _ _ hs3.h hc3.h fun h4 y l4 hs4 hy4=>?_
  have ho4:=ho3.h.keepBut (by exact hp2.h) l4
  have hne3:h2.next≤h3.next:=l3.h.next
  have hvlt:∀ id,h3.next≤id→notOf v id:=fun id hid=>by
   rcases ho3.h with ⟨rfl,_⟩ | ⟨b,rfl,_,hg,_⟩
   ·intro a b e;cases e
   ·intro a b' e
    cases e
    have:=Heap.lt_of_get hg
    omega
  have hx4:StCsB (fun id=>h2.next≤id∧notOf v id) h4 _ xs:=hx3.h.to (l4.toB fun id hb=>⟨by have:=hb.1;have:=hp2.h;omega,hb⟩)
  have hy4' : StCB (fun id=>h2.next≤id∧notOf v id) h4 _ y:=hy4.to (Heap.toB_id fun id hb=>by have h1:h3.next≤id:=hb;exact ⟨by omega,hvlt id h1⟩)
  have hlen:xs.length=j:=by rw [hx4.length,vt]
  obtain ⟨v',h5,ap,ho5,le5,k5,n5,nx5⟩:=ho4.append1 (x:=y) (vn (by have:=l4.next;show h2.next≤h4.next;omega)) hy4'.ones.1 (by omega) (b:=120) (by have:=hj.h;have:=hlt.h;omega) (by have:=hj.h;have:=hlt.h;omega)
  have u:=bs_st1 hy4'.ones
  have hk:Heap.toB (fun id=>h2.next≤id∧notOf v id) (fun id=>h2.next≤id∧notOf v' id) h4 h5:=fun id cs own hb hg=>⟨⟨hb.1,n5 id (by rw [hg];rfl)⟩,by rw [k5 id (by rw [hg];rfl) hb.2];exact hg⟩
  have hx5:=StCsB.snoc (hy4'.to hk) (hx4.to hk)
  have hsn:=Qu (wu (Q6 d) c) j r1
  have e1:(qm (wu (Q6 d) c) (j + 1) r1).1=(qm (wu (Q6 d) c) j r1).1++[(wu (Q6 d) c (qm (wu (Q6 d) c) j r1).2).1]:=by rw [hsn]
  have e2:(qm (wu (Q6 d) c) (j + 1) r1).2=(wu (Q6 d) c (qm (wu (Q6 d) c) j r1).2).2:=by rw [hsn]
  rw [← e1] at hx5
  rw [← e2] at hs4
  have hold:∀ i,i < h2.next→(h4.get i).isSome=true→h5.get i=h4.get i:=fun i hi hsm=>k5 i hsm (ho3.h.notOf hi)
  have l5:h2.leBut p h5:=⟨fun i hi hsm=>by
   obtain ⟨o,hgo⟩:=Option.isSome_iff_exists.1 hsm
   have hlt':=Heap.lt_of_get hgo
   have h34:=(l3.h.trans l4).get i hi hsm
   rw [hold i hlt' (by rw [h34];exact hsm),h34],by have:=l4.next;omega⟩
  have hs5:Src h5 p (qm (wu (Q6 d) c) (j + 1) r1).2:=by
   obtain ⟨u,k1,k2,k3⟩:=hs4
   exact ⟨u,by rw [hold p (by exact hp2.h) (by rw [k1];rfl)];exact k1,SlVB.to (fun id cs own hb hg=>⟨hb,by rw [hold id (by have h1:id < p:=hb;have:=hp2.h;omega) (by rw [hg];rfl)];exact hg⟩) k2,k3⟩
  clear hx3 hs3 ho3 hc3 hx4 hs4 ho4 hy4 hy4' k5 n5 hk hold l4 nx5 le5 e1 e2 hsn hvlt l3 g3
  replace l5:=Hid.mk l5;replace hs5:=Hid.mk hs5;replace ho5:=Hid.mk ho5;replace hx5:=Hid.mk hx5
  repeat' (first|simp -implicitDefEqProofs only [za,aR,aW,zb,ze,Int.reduceBEq,Int.reduceBNe,Nat.reduceBEq,Int.reduceLT,Int.reduceLE, *]|with_reducible (first|apply kcd|apply kgd|apply kci|apply kgi)<;>intro hc)
  exact hR.h m _ _ (by omega) ⟨j + 1,v',xs++[y],_,by have:=hj.h;omega,rfl,l5.h,hs5.h,ho5.h,hx5.h⟩
end Go.Eng.Sy
namespace Go.Eng.Sy
open Go Go.Eng Go.Proofs
abbrev zS:List Value:=[.int .i64 0,.string ⟨#[]⟩,.string ⟨#[]⟩,.int .i64 0,.slice none 0 0,.slice none 0 0,.slice none 0 0]
abbrev zq:Value:=.slice none 0 0
def IsS (v:Value):Prop:=∃ p a b,v = .slice p a b
theorem bSet {v:Value}(m:List UInt8) (hv:IsS v) (k:Int):yg zS [(0,1),(1,1),(4,1)] [.int .i64 k,str m,v]=some (stV k m [] 0 v zq zq):=by
 obtain ⟨_,_,_,rfl⟩:=hv;rfl
theorem bGet (m f:List UInt8) (n:Int):yg zS [(0,1),(1,1),(2,1),(3,1)] [.int .i64 2,str m,str f,.int .i64 n]=some (stV 2 m f n zq zq zq):=rfl
theorem bPut {v:Value}(m:List UInt8) (n:Int) (hv:IsS v):yg zS [(0,1),(1,1),(3,1),(4,1)] [.int .i64 3,str m,.int .i64 n,v]=some (stV 3 m [] n v zq zq):=by
 obtain ⟨_,_,_,rfl⟩:=hv;rfl
theorem bLock {v:Value}(m:List UInt8) (hv:IsS v):yg zS [(0,1),(1,1),(5,1)] [.int .i64 5,str m,v]=some (stV 5 m [] 0 zq v zq):=by
 obtain ⟨_,_,_,rfl⟩:=hv;rfl
theorem bIf {v u w:Value}(hv:IsS v) (hu:IsS u) (hw:IsS w):yg zS [(0,1),(4,1),(5,1),(6,1)] [.int .i64 6,v,u,w]=some (stV 6 [] [] 0 v u w):=by
 obtain ⟨_,_,_,rfl⟩:=hv;obtain ⟨_,_,_,rfl⟩:=hu;obtain ⟨_,_,_,rfl⟩:=hw;rfl
theorem bRep {v:Value}(n:Int) (hv:IsS v):yg zS [(0,1),(3,1),(5,1)] [.int .i64 7,.int .i64 n,v]=some (stV 7 [] [] n zq v zq):=by
 obtain ⟨_,_,_,rfl⟩:=hv;rfl
theorem bHalt:yg zS [(0,1)] [.int .i64 8]=some (stV 8 [] [] 0 zq zq zq):=rfl
theorem SlVB.isS {B:Nat→Prop}{h:Heap}{s:Nat}{v:Value}{xs:List (List Value)}(hv:SlVB B h s v xs):IsS v:=by
 rcases hv with ⟨rfl,_⟩ | ⟨id,off,rfl,_⟩<;>exact ⟨_,_,_,rfl⟩
theorem StsVB.isS {B:Nat→Prop}{h:Heap}{v:Value}{l:List St}(hv:StsVB B h v l):IsS v:=hv.elim fun _ a=>a.1.isS
theorem ExsVB.isS {B:Nat→Prop}{h:Heap}{v:Value}{l:List Ex}(hv:ExsVB B h v l):IsS v:=hv.elim fun _ a=>a.1.isS
theorem zi0 {c:Sco}{d:Nat}(hcd:c.held.length + d≤100) (ih:∀ d',d=d' + 1 → ∀ c:Sco,c.held.length + d' ≤ 100→qo9 c d'):StmtG c d:=by
 replace hcd:=Hid.mk hcd
 intro raw h p x Q hs hc hq
 have hc0:=hc
 obtain ⟨dv,rv,hv,rfl,s1,s2,s3,bd,br,bh,bf⟩:=hc
 have b1:=zo9 (f:=(c.free:Int)) (a:=c.any) s1.one s2.one s3.one
 have o1:=s1.one
 have o2:=s2.one
 have o3:=s3.one
 have gq1:=Heap.get_alloc_same h (.blk [dv,rv,.int .i64 (c.free:Int),hv,.bool c.any] true)
 have lh1:=(Heap.le.refl h).alloc (.blk [dv,rv,.int .i64 (c.free:Int),hv,.bool c.any] true)
 obtain ⟨q1,eq1⟩:∃ x_,h.next=x_:=⟨_,rfl⟩
 obtain ⟨h1,eh1⟩:∃ x_,h.alloc (.blk [dv,rv,.int .i64 (c.free:Int),hv,.bool c.any] true)=x_:=⟨_,rfl⟩
 rw [eh1] at gq1 lh1
 rw [eq1] at gq1
 have gq2:=Heap.get_alloc_same h1 (.blk zS true)
 have lh2:=(Heap.le.refl h1).alloc (.blk zS true)
 obtain ⟨q2,eq2⟩:∃ x_,h1.next=x_:=⟨_,rfl⟩
 obtain ⟨h2,eh2⟩:∃ x_,h1.alloc (.blk zS true)=x_:=⟨_,rfl⟩
 rw [eh2] at gq2 lh2
 rw [eq2] at gq2
 have hpl:=hs.lt
 have hq1n:h.next≤q1:=by omega
 have hlh:=lh1.next
 have hq12:=Heap.lt_of_get gq1
 have hq2n:h.next≤q2:=by omega
 have hq1:q1≠p:=by omega
 have hq2:q2≠p:=by omega
 have hpq2:p < q2:=by omega
 have gq1':=lh2.get gq1
 have l2:=lh1.trans lh2
 have hs2:=hs.le l2
 have hc2:=hc0.le l2
 have hd2:StrsB (· ≠ p) h2 dv c.devs:=SlVB.to (l2.toB fun _ h=>h) s1
 have hr2:StrsB (· ≠ p) h2 rv c.ress:=SlVB.to (l2.toB fun _ h=>h) s2
 have hh2:StrsB (· ≠ p) h2 hv c.held:=SlVB.to (l2.toB fun _ h=>h) s3
 have u3:=bs_3 [120] [121] [122]
 have gq3:=Heap.get_alloc_same h2 (.blk [str [120],str [121],str [122]] true)
 have lh3:=(Heap.le.refl h2).alloc (.blk [str [120],str [121],str [122]] true)
 obtain ⟨q3,eq3⟩:∃ x_,h2.next=x_:=⟨_,rfl⟩
 obtain ⟨h3,eh3⟩:∃ x_,h2.alloc (.blk [str [120],str [121],str [122]] true)=x_:=⟨_,rfl⟩
 rw [eh3] at gq3 lh3
 rw [eq3] at gq3
 have sv:StrsB (· ≠ p) h3 (.slice (some ⟨q3,0,none⟩) 3 1) U8:=by
  rw [← eh3,← eq3]
  exact xy h2 U8 (by show h2.next≠p;have:=hs2.lt;omega) rfl rfl
 have hs3:=hs2.le lh3
 have gA3:=lh3.get gq1'
 have gB2:=gq2
 have gA2:=gq1'
 clear hs hc0 s1 s2 s3 gq1 lh1 lh2 hlh hs2 gq2
 replace hc2:=Hid.mk hc2;replace l2:=Hid.mk l2;replace o1:=Hid.mk o1;replace o2:=Hid.mk o2;replace o3:=Hid.mk o3;replace ih:=Hid.mk ih;replace hpl:=Hid.mk hpl;replace hq1n:=Hid.mk hq1n;replace hq12:=Hid.mk hq12;replace hq2n:=Hid.mk hq2n;replace bd:=Hid.mk bd;replace br:=Hid.mk br;replace bh:=Hid.mk bh;replace bf:=Hid.mk bf;replace hd2:=Hid.mk hd2;replace hr2:=Hid.mk hr2;replace hh2:=Hid.mk hh2;replace sv:=Hid.mk sv;replace hs3:=Hid.mk hs3;replace lh3:=Hid.mk lh3;replace gA2:=Hid.mk gA2;replace gB2:=Hid.mk gB2
 refine Qb (k:=4) (agg:=true) (size:=7) ok64 rfl rfl rfl fun N=>?_
 rw [show yj c64 [scV dv rv (c.free:Int) hv c.any,.pointer (some ⟨p,0,none⟩),.int .i64 (d:Int)]=[scV dv rv (c.free:Int) hv c.any,.pointer (some ⟨p,0,none⟩),.int .i64 (d:Int),undef,undef,undef,undef,undef,undef,undef] from rfl]
 delta c64 c64_r0 c64_r1 c64_r2 c64_r3 c64_r4 c64_r5 c64_r6 c64_r7 c64_r8 c64_r9 ys4 ys3 ys2 ys1 ys0 yr9 yr8 yr7 yr6 yr5 yr4 yr3 yr2 yr1 yr0
 replace hq:=Hid.mk hq
 repeat' (first|simp -implicitDefEqProofs only [za,aR,aW,zb,ze,Int.reduceBEq,Int.reduceBNe,Nat.reduceBEq,Int.reduceLT,Int.reduceLE,zi, *]|with_reducible (first|apply kcd|apply kgd|apply kci|apply kgi)<;>intro hc)
 refine k0 hs3.h o1.h o2.h o3.h sv.h (by decide) _ fun h4 l4 hs4=>?_
 have l4:=(lh3.h.but p).trans l4
 obtain ⟨loc,hloc⟩:∃ k,(yb c.any raw U8).1=k:=⟨_,rfl⟩
 obtain ⟨r1,hr1⟩:∃ k,(yb c.any raw U8).2=k:=⟨_,rfl⟩
 have e0:wu (Q6 d) c raw=ur (Q6 d) c loc (zg r1 12).1 (zg r1 12).2:=by unfold wu;rw [hloc,hr1]
 rw [hr1] at hs4
 rw [hloc]
 clear hloc hr1 sv hs3 lh3 u3 eh3 eq3 gA3 gq1' b1 eh1 eh2 eq1 eq2
 replace hs4:=Hid.mk hs4;replace l4:=Hid.mk l4
 repeat' (first|simp -implicitDefEqProofs only [za,aR,aW,zb,ze,Int.reduceBEq,Int.reduceBNe,Nat.reduceBEq,Int.reduceLT,Int.reduceLE, *]|with_reducible (first|apply kcd|apply kgd|apply kci|apply kgi)<;>intro hc)
 refine yp (n:=12) hs4.h (by omega) (by omega) _ fun h5 l5 _ hs5=>?_
 have hlt:=yh hs4.h.in (n:=12) (by omega)
 have l5:=l4.h.trans l5
 obtain ⟨k,hk⟩:∃ k,(zg r1 12).1=k:=⟨_,rfl⟩
 obtain ⟨r2,hr2'⟩:∃ k,(zg r1 12).2=k:=⟨_,rfl⟩
 rw [hk,hr2'] at e0
 rw [hk] at hlt
 rw [hr2'] at hs5
 rw [hk]
 rw [e0] at hq
 have hp2:=hs4.h.lt
 have fin:∀ (hN:Heap) (r:List Int) (kd n:Int) (m f:List UInt8) (v u w:Value) (a:List Ex) (t e:List St),h2.leBut p hN→Src hN p r→ExsVB (fun id=>h.next≤id∧id≠q2) hN v a→StsVB (fun id=>h.next≤id∧id≠q2) hN u t→StsVB (fun id=>h.next≤id∧id≠q2) hN w e→ur (Q6 d) c loc k r2=(.mk kd m f n a t e,r) →
   zt 7 hN [.pointer (some ⟨q2,0,none⟩),stV kd m f n v u w]=some (undef,hN.set q2 (.blk [.int .i64 kd,str m,str f,.int .i64 n,v,u,w] true)) ∧
   (hN.set q2 (.blk [.int .i64 kd,str m,str f,.int .i64 n,v,u,w] true)).get q2=some (.blk [.int .i64 kd,str m,str f,.int .i64 n,v,u,w] true) ∧
   Q (stV kd m f n v u w) (hN.set q2 (.blk [.int .i64 kd,str m,str f,.int .i64 n,v,u,w] true)):=by
  intro hN r kd n m f v u w a t e hlN hsN hvN huN hwN he
  have gN:=hlN.keep hq2 gB2.h
  refine ⟨je gN rfl rfl rfl (by simpa [Value.oneCell'] using ⟨hvN.one,huN.one,hwN.one⟩),Heap.set_getS _ _ _ (by rw [gN];rfl),?_⟩
  rw [he] at hq
  have ht:Heap.toB (fun id=>h.next≤id∧id≠q2) (fun id=>h.next≤id) hN (hN.set q2 (.blk [.int .i64 kd,str m,str f,.int .i64 n,v,u,w] true)):=Heap.toB_set _ fun id hb=>⟨hb.2,hb.1⟩
  exact hq.h _ _ ((Heap.leBut.of_le l2.h hlN).setQ hq2n.h _) (hsN.set hpq2 _) (StCB.of (hvN.to ht) (huN.to ht) (hwN.to ht))
 have bnd:∀ hN:Heap,h2.leBut p hN → ∀ id,hN.next≤id→h.next≤id∧id≠q2:=fun hN hl id hid=>by
  have h1:=hl.next
  have h3:=Heap.lt_of_get gB2.h
  have h5:=hq2n.h
  constructor<;>omega
 have g1:=l5.keep (i:=q1) hq1 gA2.h
 have hc5:=hc2.h.but l5
 have hwd:∀ d',d=d' + 1→IntKind.i64.wrap (((d:Nat):Int) - 1)=(d' : Int):=fun d' e=>by have:=hcd.h;subst e;rw [zu (by omega) (by omega)];omega
 clear hq hs4 l4
 replace fin:=Hid.mk fin;replace bnd:=Hid.mk bnd;replace hs5:=Hid.mk hs5;replace l5:=Hid.mk l5;replace hc5:=Hid.mk hc5;replace hlt:=Hid.mk hlt;replace hwd:=Hid.mk hwd;replace e0:=Hid.mk e0;replace hp2:=Hid.mk hp2
 have hp1:(q1 == p)=false:=by simpa using hq1
 clear e0
 have e0:=Hid.mk True.intro
 by_cases k2:k < 2
 ·have c1:(k:Int) < 2:=by omega
  have hun:ur (Q6 d) c loc k r2=(.mk 2 loc (yb c.any r2 c.devs).1 ((zg (yb c.any r2 c.devs).2 4).1:Nat) [] [] [],(zg (yb c.any r2 c.devs).2 4).2):=by
   unfold ur;rw [if_pos k2]
  repeat' (first|simp -implicitDefEqProofs only [za,aR,aW,zb,ze,Int.reduceBEq,Int.reduceBNe,Nat.reduceBEq,Int.reduceLT,Int.reduceLE,zi, *]|with_reducible (first|apply kcd|apply kgd|apply kci|apply kgi)<;>intro hc)
  refine k0 hs5.h o1.h o2.h o3.h (SlVB.to (l5.h.toB fun _ h=>⟨h,h⟩) hd2.h) (by have:=bd.h;omega) _ fun h6 l6 hs6=>?_
  have l6:=l5.h.trans l6
  have g6:=l6.keep (i:=q1) hq1 gA2.h
  have hc6:=hc2.h.but l6
  replace hs6:=Hid.mk hs6;replace l6:=Hid.mk l6;replace hc6:=Hid.mk hc6
  repeat' (first|simp -implicitDefEqProofs only [za,aR,aW,zb,ze,Int.reduceBEq,Int.reduceBNe,Nat.reduceBEq,Int.reduceLT,Int.reduceLE,zi, *]|with_reducible (first|apply kcd|apply kgd|apply kci|apply kgi)<;>intro hc)
  refine yp (n:=4) hs6.h (by omega) (by omega) _ fun h7 l7 _ hs7=>?_
  have l7:=l6.h.trans l7
  have g7:=l7.keep (i:=q1) hq1 gA2.h
  have hc7:=hc2.h.but l7
  replace hs7:=Hid.mk hs7;replace l7:=Hid.mk l7;replace hc7:=Hid.mk hc7
  obtain ⟨f1,f2,f3⟩:=fin.h h7 _ _ _ _ _ zq zq zq [] [] [] l7.h hs7.h ExsVB.nil StsVB.nil StsVB.nil hun
  have bb:=bGet loc (yb c.any r2 c.devs).1 ((zg (yb c.any r2 c.devs).2 4).1:Nat)
  clear hun
  replace f3:=Hid.mk f3
  clear fin e0 bnd ih
  repeat' (first|simp -implicitDefEqProofs only [za,aR,aW,zb,ze,Int.reduceBEq,Int.reduceBNe,Nat.reduceBEq,Int.reduceLT,Int.reduceLE,qy, *]|with_reducible (first|apply kcd|apply kgd|apply kci|apply kgi)<;>intro hc)
  exact f3.h
 have c1:¬ (k:Int) < 2:=by omega
 by_cases k5:k < 5
 ·have c2:(k:Int) < 5:=by omega
  have hun:ur (Q6 d) c loc k r2=(.mk 3 (yb c.any r2 c.devs).1 [] ((zg (yb c.any r2 c.devs).2 4).1:Nat) [(zy c 3 (zg (yb c.any r2 c.devs).2 4).2).1] [] [],(zy c 3 (zg (yb c.any r2 c.devs).2 4).2).2):=by
   unfold ur;rw [if_neg k2,if_pos k5]
  repeat' (first|simp -implicitDefEqProofs only [za,aR,aW,zb,ze,Int.reduceBEq,Int.reduceBNe,Nat.reduceBEq,Int.reduceLT,Int.reduceLE,zi, *]|with_reducible (first|apply kcd|apply kgd|apply kci|apply kgi)<;>intro hc)
  refine k0 hs5.h o1.h o2.h o3.h (SlVB.to (l5.h.toB fun _ h=>⟨h,h⟩) hd2.h) (by have:=bd.h;omega) _ fun h6 l6 hs6=>j2 l6 ?_
  have l6:=l5.h.trans l6
  have g6:=l6.keep (i:=q1) hq1 gA2.h
  have hc6:=hc2.h.but l6
  replace hs6:=Hid.mk hs6;replace l6:=Hid.mk l6;replace hc6:=Hid.mk hc6
  repeat' (first|simp -implicitDefEqProofs only [za,aR,aW,zb,ze,Int.reduceBEq,Int.reduceBNe,Nat.reduceBEq,Int.reduceLT,Int.reduceLE,zi, *]|with_reducible (first|apply kcd|apply kgd|apply kci|apply kgi)<;>intro hc)
  refine yp (n:=4) hs6.h (by omega) (by omega) _ fun h7 l7 _ hs7=>j2 l7 ?_
  have l7:=l6.h.trans l7
  have g7:=l7.keep (i:=q1) hq1 gA2.h
  have hc7:=hc2.h.but l7
  replace hs7:=Hid.mk hs7;replace l7:=Hid.mk l7;replace hc7:=Hid.mk hc7
  repeat' (first|simp -implicitDefEqProofs only [za,aR,aW,zb,ze,Int.reduceBEq,Int.reduceBNe,Nat.reduceBEq,Int.reduceLT,Int.reduceLE,zi, *]|with_reducible (first|apply kcd|apply kgd|apply kci|apply kgi)<;>intro hc)
  refine we c 3 (by omega) _ _ _ _ _ hs7.h hc7.h fun h8 y8 l8 hs8 hy8=>?_
  have lr8:=Hid.mk l8
  have l8:=l7.h.trans l8
  have g8:=l8.keep (i:=q1) hq1 gA2.h
  have hc8:=hc2.h.but l8
  replace hs8:=Hid.mk hs8;replace l8:=Hid.mk l8;replace hc8:=Hid.mk hc8;replace hy8:=Hid.mk hy8
  have ux:=wt hy8.h.ones
  have hnew:=ExsVB.new (B':=fun id=>h.next≤id∧id≠q2) (l:=[_]) (xs:=[y8]) ⟨y8,[],rfl,hy8.h,rfl⟩ (fun id hb _=>bnd.h _ l7.h id hb) (bnd.h _ l8.h _ (Nat.le_refl _)) (by simp) (by simpa using hy8.h.ones.1) (cells:=y8) (by simp) (n:=1) rfl
  have gqx:=Heap.get_alloc_same h8 (.blk y8 true)
  have lh9:=(Heap.le.refl h8).alloc (.blk y8 true)
  obtain ⟨qx,eqx⟩:∃ x_,h8.next=x_:=⟨_,rfl⟩
  obtain ⟨h9,eh9⟩:∃ x_,h8.alloc (.blk y8 true)=x_:=⟨_,rfl⟩
  rw [eh9] at gqx lh9
  rw [eqx] at gqx
  rw [eh9,eqx] at hnew
  have hs9:=hs8.h.le lh9
  have l9:=l8.h.le' lh9
  obtain ⟨f1,f2,f3⟩:=fin.h h9 _ _ _ _ _ _ zq zq _ [] [] l9 hs9 hnew StsVB.nil StsVB.nil hun
  have bb:=bPut (yb c.any r2 c.devs).1 ((zg (yb c.any r2 c.devs).2 4).1:Nat) hnew.isS
  clear hun hnew hs9 l9 lh9
  replace f3:=Hid.mk f3
  clear fin e0 bnd ih
  repeat' (first|simp -implicitDefEqProofs only [za,aR,aW,zb,ze,Int.reduceBEq,Int.reduceBNe,Nat.reduceBEq,Int.reduceLT,Int.reduceLE,qy, *]|with_reducible (first|apply kcd|apply kgd|apply kci|apply kgi)<;>intro hc)
  exact f3.h
 have c2:¬ (k:Int) < 5:=by omega
 by_cases k7:k < 7∧(c.any=true∨c.held≠[])
 ·have c3:(k:Int) < 7:=by omega
  have hun:ur (Q6 d) c loc k r2=(.mk 4 (yb c.any r2 c.held).1 [] 0 [(zy c 2 (yb c.any r2 c.held).2).1,(zy c 3 (zy c 2 (yb c.any r2 c.held).2).2).1] [] [],(zy c 3 (zy c 2 (yb c.any r2 c.held).2).2).2):=by
   unfold ur;rw [if_neg k2,if_neg k5,if_pos k7]
  have ln:=(StrsB.plain hh2.h).len
  have hany:c.any=true∨(c.any=false∧(0:Int) < (c.held.length:Int)):=by
   cases ha:c.any with
   | true=>exact .inl rfl
   | false =>
    have:=List.length_pos_iff.2 (k7.2.resolve_left (by simp [ha]))
    exact .inr ⟨rfl,by omega⟩
  clear k7 k5 k2
  obtain ⟨any,hae⟩:∃ a,c.any=a:=⟨_,rfl⟩
  rcases hany with hany | ⟨hany,hgt⟩
  ·skip
   clear hae
   simp only [hany] at *
   repeat' (first|simp -implicitDefEqProofs only [za,aR,aW,zb,ze,Int.reduceBEq,Int.reduceBNe,Nat.reduceBEq,Int.reduceLT,Int.reduceLE,zi, *]|with_reducible (first|apply kcd|apply kgd|apply kci|apply kgi)<;>intro hc)
   refine k0 hs5.h o1.h o2.h o3.h (SlVB.to (l5.h.toB fun _ h=>⟨h,h⟩) hh2.h) (by have:=bh.h;omega) _ fun h6 l6 hs6=>j2 l6 ?_
   have l6:=l5.h.trans l6
   have g6:=l6.keep (i:=q1) hq1 gA2.h
   have hc6:=hc2.h.but l6
   replace hs6:=Hid.mk hs6;replace l6:=Hid.mk l6;replace hc6:=Hid.mk hc6
   repeat' (first|simp -implicitDefEqProofs only [za,aR,aW,zb,ze,Int.reduceBEq,Int.reduceBNe,Nat.reduceBEq,Int.reduceLT,Int.reduceLE,zi, *]|with_reducible (first|apply kcd|apply kgd|apply kci|apply kgi)<;>intro hc)
   refine we c 2 (by omega) _ _ _ _ _ hs6.h hc6.h fun h7 y7 l7 hs7 hy7=>j2 l7 ?_
   have lr7:=Hid.mk l7
   have l7:=l6.h.trans l7
   have g7:=l7.keep (i:=q1) hq1 gA2.h
   have hc7:=hc2.h.but l7
   replace hs7:=Hid.mk hs7;replace l7:=Hid.mk l7;replace hc7:=Hid.mk hc7;replace hy7:=Hid.mk hy7
   repeat' (first|simp -implicitDefEqProofs only [za,aR,aW,zb,ze,Int.reduceBEq,Int.reduceBNe,Nat.reduceBEq,Int.reduceLT,Int.reduceLE,zi, *]|with_reducible (first|apply kcd|apply kgd|apply kci|apply kgi)<;>intro hc)
   refine we c 3 (by omega) _ _ _ _ _ hs7.h hc7.h fun h8 y8 l8 hs8 hy8=>?_
   have lr8:=Hid.mk l8
   have l8:=l7.h.trans l8
   have g8:=l8.keep (i:=q1) hq1 gA2.h
   have hc8:=hc2.h.but l8
   replace hs8:=Hid.mk hs8;replace l8:=Hid.mk l8;replace hc8:=Hid.mk hc8;replace hy8:=Hid.mk hy8
   have hy7' : ExCB (fun id=>h6.next≤id) h8 _ y7:=hy7.h.to (lr8.h.toB fun id hb=>⟨by have h1:h6.next≤id:=hb;have h2:=hs6.h.lt;omega,hb⟩)
   have hy8' : ExCB (fun id=>h6.next≤id) h8 _ y8:=hy8.h.to (Heap.toB_id fun id hb=>by have h1:h7.next≤id:=hb;have h2:=lr7.h.next;show h6.next≤id;omega)
   have ux:=Xr hy7'.ones hy8'.ones
   have hnew:=ExsVB.new (B':=fun id=>h.next≤id∧id≠q2) (l:=[_,_]) (xs:=[y7,y8]) ⟨y7,[y8],rfl,hy7',y8,[],rfl,hy8',rfl⟩ (fun id hb _=>bnd.h _ l6.h id hb) (bnd.h _ l8.h _ (Nat.le_refl _)) (by simp) (by intro x hx;simp at hx;rcases hx with rfl | rfl;exact hy7'.ones.1;exact hy8'.ones.1) (cells:=y7++y8) (by simp) (n:=2) rfl
   have gqx:=Heap.get_alloc_same h8 (.blk (y7++y8) true)
   have lh9:=(Heap.le.refl h8).alloc (.blk (y7++y8) true)
   obtain ⟨qx,eqx⟩:∃ x_,h8.next=x_:=⟨_,rfl⟩
   obtain ⟨h9,eh9⟩:∃ x_,h8.alloc (.blk (y7++y8) true)=x_:=⟨_,rfl⟩
   rw [eh9] at gqx lh9
   rw [eqx] at gqx
   rw [eh9,eqx] at hnew
   have hs9:=hs8.h.le lh9
   have l9:=l8.h.le' lh9
   obtain ⟨f1,f2,f3⟩:=fin.h h9 _ _ _ _ _ _ zq zq _ [] [] l9 hs9 hnew StsVB.nil StsVB.nil hun
   have bb:=bSet (yb true r2 c.held).1 hnew.isS 4
   clear hun hnew hs9 l9 lh9 hy7' hy8'
   replace f3:=Hid.mk f3
   clear fin e0 bnd ih
   repeat' (first|simp -implicitDefEqProofs only [za,aR,aW,zb,ze,Int.reduceBEq,Int.reduceBNe,Nat.reduceBEq,Int.reduceLT,Int.reduceLE,qy, *]|with_reducible (first|apply kcd|apply kgd|apply kci|apply kgi)<;>intro hc)
   exact f3.h
  ·skip
   clear hae
   simp only [hany] at *
   repeat' (first|simp -implicitDefEqProofs only [za,aR,aW,zb,ze,Int.reduceBEq,Int.reduceBNe,Nat.reduceBEq,Int.reduceLT,Int.reduceLE,zi, *]|with_reducible (first|apply kcd|apply kgd|apply kci|apply kgi)<;>intro hc)
   refine k0 hs5.h o1.h o2.h o3.h (SlVB.to (l5.h.toB fun _ h=>⟨h,h⟩) hh2.h) (by have:=bh.h;omega) _ fun h6 l6 hs6=>j2 l6 ?_
   have l6:=l5.h.trans l6
   have g6:=l6.keep (i:=q1) hq1 gA2.h
   have hc6:=hc2.h.but l6
   replace hs6:=Hid.mk hs6;replace l6:=Hid.mk l6;replace hc6:=Hid.mk hc6
   repeat' (first|simp -implicitDefEqProofs only [za,aR,aW,zb,ze,Int.reduceBEq,Int.reduceBNe,Nat.reduceBEq,Int.reduceLT,Int.reduceLE,zi, *]|with_reducible (first|apply kcd|apply kgd|apply kci|apply kgi)<;>intro hc)
   refine we c 2 (by omega) _ _ _ _ _ hs6.h hc6.h fun h7 y7 l7 hs7 hy7=>j2 l7 ?_
   have lr7:=Hid.mk l7
   have l7:=l6.h.trans l7
   have g7:=l7.keep (i:=q1) hq1 gA2.h
   have hc7:=hc2.h.but l7
   replace hs7:=Hid.mk hs7;replace l7:=Hid.mk l7;replace hc7:=Hid.mk hc7;replace hy7:=Hid.mk hy7
   repeat' (first|simp -implicitDefEqProofs only [za,aR,aW,zb,ze,Int.reduceBEq,Int.reduceBNe,Nat.reduceBEq,Int.reduceLT,Int.reduceLE,zi, *]|with_reducible (first|apply kcd|apply kgd|apply kci|apply kgi)<;>intro hc)
   refine we c 3 (by omega) _ _ _ _ _ hs7.h hc7.h fun h8 y8 l8 hs8 hy8=>?_
   have lr8:=Hid.mk l8
   have l8:=l7.h.trans l8
   have g8:=l8.keep (i:=q1) hq1 gA2.h
   have hc8:=hc2.h.but l8
   replace hs8:=Hid.mk hs8;replace l8:=Hid.mk l8;replace hc8:=Hid.mk hc8;replace hy8:=Hid.mk hy8
   have hy7' : ExCB (fun id=>h6.next≤id) h8 _ y7:=hy7.h.to (lr8.h.toB fun id hb=>⟨by have h1:h6.next≤id:=hb;have h2:=hs6.h.lt;omega,hb⟩)
   have hy8' : ExCB (fun id=>h6.next≤id) h8 _ y8:=hy8.h.to (Heap.toB_id fun id hb=>by have h1:h7.next≤id:=hb;have h2:=lr7.h.next;show h6.next≤id;omega)
   have ux:=Xr hy7'.ones hy8'.ones
   have hnew:=ExsVB.new (B':=fun id=>h.next≤id∧id≠q2) (l:=[_,_]) (xs:=[y7,y8]) ⟨y7,[y8],rfl,hy7',y8,[],rfl,hy8',rfl⟩ (fun id hb _=>bnd.h _ l6.h id hb) (bnd.h _ l8.h _ (Nat.le_refl _)) (by simp) (by intro x hx;simp at hx;rcases hx with rfl | rfl;exact hy7'.ones.1;exact hy8'.ones.1) (cells:=y7++y8) (by simp) (n:=2) rfl
   have gqx:=Heap.get_alloc_same h8 (.blk (y7++y8) true)
   have lh9:=(Heap.le.refl h8).alloc (.blk (y7++y8) true)
   obtain ⟨qx,eqx⟩:∃ x_,h8.next=x_:=⟨_,rfl⟩
   obtain ⟨h9,eh9⟩:∃ x_,h8.alloc (.blk (y7++y8) true)=x_:=⟨_,rfl⟩
   rw [eh9] at gqx lh9
   rw [eqx] at gqx
   rw [eh9,eqx] at hnew
   have hs9:=hs8.h.le lh9
   have l9:=l8.h.le' lh9
   obtain ⟨f1,f2,f3⟩:=fin.h h9 _ _ _ _ _ _ zq zq _ [] [] l9 hs9 hnew StsVB.nil StsVB.nil hun
   have bb:=bSet (yb false r2 c.held).1 hnew.isS 4
   clear hun hnew hs9 l9 lh9 hy7' hy8'
   replace f3:=Hid.mk f3
   clear fin e0 bnd ih
   repeat' (first|simp -implicitDefEqProofs only [za,aR,aW,zb,ze,Int.reduceBEq,Int.reduceBNe,Nat.reduceBEq,Int.reduceLT,Int.reduceLE,qy, *]|with_reducible (first|apply kcd|apply kgd|apply kci|apply kgi)<;>intro hc)
   exact f3.h
 have hno:k < 7→c.any=false∧c.held=[]:=fun h7=>by
  constructor
  ·cases ha:c.any with
   | false=>rfl
   | true=>exact absurd ⟨h7,.inl ha⟩ k7
  ·cases hh:c.held with
   | nil=>rfl
   | cons a r=>exact absurd ⟨h7,.inr (by simp [hh])⟩ k7
 have ln:=(StrsB.plain hh2.h).len
 have lnr:=(StrsB.plain hr2.h).len
 replace hno:=Hid.mk hno;replace ln:=Hid.mk ln;replace lnr:=Hid.mk lnr
 by_cases k11:k=11
 ·subst k11
  have e11:((11:Nat):Int)=11:=rfl
  have hun:ur (Q6 d) c loc 11 r2=(.mk 8 [] [] 0 [] [] [],r2):=by
   unfold ur;rw [if_neg k2,if_neg k5,if_neg k7,if_pos rfl]
  obtain ⟨f1,f2,f3⟩:=fin.h h5 _ _ _ _ _ zq zq zq [] [] [] l5.h hs5.h ExsVB.nil StsVB.nil StsVB.nil hun
  have bb:=bHalt
  clear k2 k5 k7 c1 c2 hun
  replace f3:=Hid.mk f3
  clear fin e0 bnd ih
  repeat' (first|simp -implicitDefEqProofs only [za,aR,aW,zb,ze,Int.reduceBEq,Int.reduceBNe,Nat.reduceBEq,Int.reduceLT,Int.reduceLE,qy, *]|with_reducible (first|apply kcd|apply kgd|apply kci|apply kgi)<;>intro hc)
  exact f3.h
 have e11:((k:Int) == 11)=false:=by simp;omega
 have hunB:∀ rec,Q6 d=rec→ur (Q6 d) c loc k r2=match rec with
  | none=>(.mk 1 loc [] 0 [(zy c 4 r2).1] [] [],(zy c 4 r2).2)
  | some rec =>
   if k < 9∧(c.any=true∨c.free < c.ress.length) then
    (.mk 5 (vi c r2).1 [] 0 [] (rec (inSco c (vi c r2).1 (vi c r2).2.1) (vi c r2).2.2).1 [],(rec (inSco c (vi c r2).1 (vi c r2).2.1) (vi c r2).2.2).2)
   else if k=9 then
    (.mk 6 [] [] 0 [(zy c 3 r2).1] (rec c (zy c 3 r2).2).1 (rec c (rec c (zy c 3 r2).2).2).1,(rec c (rec c (zy c 3 r2).2).2).2)
   else if k=10 then
    (.mk 7 [] [] ((zg r2 5).1:Nat) [] (rec c (zg r2 5).2).1 [],(rec c (zg r2 5).2).2)
   else (.mk 1 loc [] 0 [(zy c 4 r2).1] [] [],(zy c 4 r2).2):=fun rec hrec=>by
  unfold ur;rw [if_neg k2,if_neg k5,if_neg k7,if_neg k11,hrec]
  all_goals (cases rec<;>rfl)
 clear k2 k5 k7
 rcases Nat.eq_zero_or_pos d with rfl | hdp
 ·have hun:=hunB none rfl
  simp only at hun
  have z0:¬ (0:Int) < ((0:Nat):Int):=by decide
  clear hunB
  by_cases c3:(k:Int) < 7
  ·obtain ⟨hany,hh⟩:=hno.h (by omega)
   have ln:=ln.h
   rw [hh] at ln
   have lz:(([]:List (List UInt8)).length:Int)=0:=rfl
   have c4:(k:Int) < 9:=by omega
   have e9:((k:Int) == 9)=false:=by simp;omega
   have e10:((k:Int) == 10)=false:=by simp;omega
   replace hh:=Hid.mk hh
   simp only [hany] at *
   repeat' (first|simp -implicitDefEqProofs only [za,aR,aW,zb,ze,Int.reduceBEq,Int.reduceBNe,Nat.reduceBEq,Int.reduceLT,Int.reduceLE,zi, *]|with_reducible (first|apply kcd|apply kgd|apply kci|apply kgi)<;>intro hc)
   refine we c 4 (by omega) _ _ _ _ _ hs5.h hc5.h fun h6 y6 l6 hs6 hy6=>?_
   have lr6:=Hid.mk l6
   have l6:=l5.h.trans l6
   have g6:=l6.keep (i:=q1) hq1 gA2.h
   have hc6:=hc2.h.but l6
   replace hs6:=Hid.mk hs6;replace l6:=Hid.mk l6;replace hc6:=Hid.mk hc6;replace hy6:=Hid.mk hy6
   have ux:=wt hy6.h.ones
   have hnew:=ExsVB.new (B':=fun id=>h.next≤id∧id≠q2) (l:=[_]) (xs:=[y6]) ⟨y6,[],rfl,hy6.h,rfl⟩ (fun id hb _=>bnd.h _ l5.h id hb) (bnd.h _ l6.h _ (Nat.le_refl _)) (by simp) (by simpa using hy6.h.ones.1) (cells:=y6) (by simp) (n:=1) rfl
   have gqx:=Heap.get_alloc_same h6 (.blk y6 true)
   have lh7:=(Heap.le.refl h6).alloc (.blk y6 true)
   obtain ⟨qx,eqx⟩:∃ x_,h6.next=x_:=⟨_,rfl⟩
   obtain ⟨h7,eh7⟩:∃ x_,h6.alloc (.blk y6 true)=x_:=⟨_,rfl⟩
   rw [eh7] at gqx lh7
   rw [eqx] at gqx
   rw [eh7,eqx] at hnew
   have hs7:=hs6.h.le lh7
   have l7:=l6.h.le' lh7
   obtain ⟨f1,f2,f3⟩:=fin.h h7 _ _ _ _ _ _ zq zq _ [] [] l7 hs7 hnew StsVB.nil StsVB.nil hun
   have bb:=bSet loc hnew.isS 1
   clear hun hnew hs7 l7 lh7
   replace f3:=Hid.mk f3
   clear fin e0 bnd ih
   repeat' (first|simp -implicitDefEqProofs only [za,aR,aW,zb,ze,Int.reduceBEq,Int.reduceBNe,Nat.reduceBEq,Int.reduceLT,Int.reduceLE,qy, *]|with_reducible (first|apply kcd|apply kgd|apply kci|apply kgi)<;>intro hc)
   exact f3.h
  ·by_cases c4:(k:Int) < 9
   ·have e9:((k:Int) == 9)=false:=by simp;omega
    have e10:((k:Int) == 10)=false:=by simp;omega
    repeat' (first|simp -implicitDefEqProofs only [za,aR,aW,zb,ze,Int.reduceBEq,Int.reduceBNe,Nat.reduceBEq,Int.reduceLT,Int.reduceLE,zi, *]|with_reducible (first|apply kcd|apply kgd|apply kci|apply kgi)<;>intro hc)
    refine we c 4 (by omega) _ _ _ _ _ hs5.h hc5.h fun h6 y6 l6 hs6 hy6=>?_
    have lr6:=Hid.mk l6
    have l6:=l5.h.trans l6
    have g6:=l6.keep (i:=q1) hq1 gA2.h
    have hc6:=hc2.h.but l6
    replace hs6:=Hid.mk hs6;replace l6:=Hid.mk l6;replace hc6:=Hid.mk hc6;replace hy6:=Hid.mk hy6
    have ux:=wt hy6.h.ones
    have hnew:=ExsVB.new (B':=fun id=>h.next≤id∧id≠q2) (l:=[_]) (xs:=[y6]) ⟨y6,[],rfl,hy6.h,rfl⟩ (fun id hb _=>bnd.h _ l5.h id hb) (bnd.h _ l6.h _ (Nat.le_refl _)) (by simp) (by simpa using hy6.h.ones.1) (cells:=y6) (by simp) (n:=1) rfl
    have gqx:=Heap.get_alloc_same h6 (.blk y6 true)
    have lh7:=(Heap.le.refl h6).alloc (.blk y6 true)
    obtain ⟨qx,eqx⟩:∃ x_,h6.next=x_:=⟨_,rfl⟩
    obtain ⟨h7,eh7⟩:∃ x_,h6.alloc (.blk y6 true)=x_:=⟨_,rfl⟩
    rw [eh7] at gqx lh7
    rw [eqx] at gqx
    rw [eh7,eqx] at hnew
    have hs7:=hs6.h.le lh7
    have l7:=l6.h.le' lh7
    obtain ⟨f1,f2,f3⟩:=fin.h h7 _ _ _ _ _ _ zq zq _ [] [] l7 hs7 hnew StsVB.nil StsVB.nil hun
    have bb:=bSet loc hnew.isS 1
    clear hun hnew hs7 l7 lh7
    replace f3:=Hid.mk f3
    clear fin e0 bnd ih
    repeat' (first|simp -implicitDefEqProofs only [za,aR,aW,zb,ze,Int.reduceBEq,Int.reduceBNe,Nat.reduceBEq,Int.reduceLT,Int.reduceLE,qy, *]|with_reducible (first|apply kcd|apply kgd|apply kci|apply kgi)<;>intro hc)
    exact f3.h
   ·by_cases k9:k=9
    ·subst k9
     have e9:((9:Nat):Int)=9:=rfl
     clear c1 c2 c3 c4
     repeat' (first|simp -implicitDefEqProofs only [za,aR,aW,zb,ze,Int.reduceBEq,Int.reduceBNe,Nat.reduceBEq,Int.reduceLT,Int.reduceLE,zi, *]|with_reducible (first|apply kcd|apply kgd|apply kci|apply kgi)<;>intro hc)
     refine we c 4 (by omega) _ _ _ _ _ hs5.h hc5.h fun h6 y6 l6 hs6 hy6=>?_
     have lr6:=Hid.mk l6
     have l6:=l5.h.trans l6
     have g6:=l6.keep (i:=q1) hq1 gA2.h
     have hc6:=hc2.h.but l6
     replace hs6:=Hid.mk hs6;replace l6:=Hid.mk l6;replace hc6:=Hid.mk hc6;replace hy6:=Hid.mk hy6
     have ux:=wt hy6.h.ones
     have hnew:=ExsVB.new (B':=fun id=>h.next≤id∧id≠q2) (l:=[_]) (xs:=[y6]) ⟨y6,[],rfl,hy6.h,rfl⟩ (fun id hb _=>bnd.h _ l5.h id hb) (bnd.h _ l6.h _ (Nat.le_refl _)) (by simp) (by simpa using hy6.h.ones.1) (cells:=y6) (by simp) (n:=1) rfl
     have gqx:=Heap.get_alloc_same h6 (.blk y6 true)
     have lh7:=(Heap.le.refl h6).alloc (.blk y6 true)
     obtain ⟨qx,eqx⟩:∃ x_,h6.next=x_:=⟨_,rfl⟩
     obtain ⟨h7,eh7⟩:∃ x_,h6.alloc (.blk y6 true)=x_:=⟨_,rfl⟩
     rw [eh7] at gqx lh7
     rw [eqx] at gqx
     rw [eh7,eqx] at hnew
     have hs7:=hs6.h.le lh7
     have l7:=l6.h.le' lh7
     obtain ⟨f1,f2,f3⟩:=fin.h h7 _ _ _ _ _ _ zq zq _ [] [] l7 hs7 hnew StsVB.nil StsVB.nil hun
     have bb:=bSet loc hnew.isS 1
     clear hun hnew hs7 l7 lh7
     replace f3:=Hid.mk f3
     clear fin e0 bnd ih
     repeat' (first|simp -implicitDefEqProofs only [za,aR,aW,zb,ze,Int.reduceBEq,Int.reduceBNe,Nat.reduceBEq,Int.reduceLT,Int.reduceLE,qy, *]|with_reducible (first|apply kcd|apply kgd|apply kci|apply kgi)<;>intro hc)
     exact f3.h
    ·have hk10:k=10:=by have:=hlt.h;omega
     subst hk10
     have e10:((10:Nat):Int)=10:=rfl
     clear c1 c2 c3 c4
     repeat' (first|simp -implicitDefEqProofs only [za,aR,aW,zb,ze,Int.reduceBEq,Int.reduceBNe,Nat.reduceBEq,Int.reduceLT,Int.reduceLE,zi, *]|with_reducible (first|apply kcd|apply kgd|apply kci|apply kgi)<;>intro hc)
     refine we c 4 (by omega) _ _ _ _ _ hs5.h hc5.h fun h6 y6 l6 hs6 hy6=>?_
     have lr6:=Hid.mk l6
     have l6:=l5.h.trans l6
     have g6:=l6.keep (i:=q1) hq1 gA2.h
     have hc6:=hc2.h.but l6
     replace hs6:=Hid.mk hs6;replace l6:=Hid.mk l6;replace hc6:=Hid.mk hc6;replace hy6:=Hid.mk hy6
     have ux:=wt hy6.h.ones
     have hnew:=ExsVB.new (B':=fun id=>h.next≤id∧id≠q2) (l:=[_]) (xs:=[y6]) ⟨y6,[],rfl,hy6.h,rfl⟩ (fun id hb _=>bnd.h _ l5.h id hb) (bnd.h _ l6.h _ (Nat.le_refl _)) (by simp) (by simpa using hy6.h.ones.1) (cells:=y6) (by simp) (n:=1) rfl
     have gqx:=Heap.get_alloc_same h6 (.blk y6 true)
     have lh7:=(Heap.le.refl h6).alloc (.blk y6 true)
     obtain ⟨qx,eqx⟩:∃ x_,h6.next=x_:=⟨_,rfl⟩
     obtain ⟨h7,eh7⟩:∃ x_,h6.alloc (.blk y6 true)=x_:=⟨_,rfl⟩
     rw [eh7] at gqx lh7
     rw [eqx] at gqx
     rw [eh7,eqx] at hnew
     have hs7:=hs6.h.le lh7
     have l7:=l6.h.le' lh7
     obtain ⟨f1,f2,f3⟩:=fin.h h7 _ _ _ _ _ _ zq zq _ [] [] l7 hs7 hnew StsVB.nil StsVB.nil hun
     have bb:=bSet loc hnew.isS 1
     clear hun hnew hs7 l7 lh7
     replace f3:=Hid.mk f3
     clear fin e0 bnd ih
     repeat' (first|simp -implicitDefEqProofs only [za,aR,aW,zb,ze,Int.reduceBEq,Int.reduceBNe,Nat.reduceBEq,Int.reduceLT,Int.reduceLE,qy, *]|with_reducible (first|apply kcd|apply kgd|apply kci|apply kgi)<;>intro hc)
     exact f3.h
 obtain ⟨d',rfl⟩:∃ d',d=d' + 1:=⟨d - 1,by omega⟩
 have zd:(0:Int) < ((d' + 1:Nat):Int):=by omega
 have hun:=hunB (some (jo d')) rfl
 simp only at hun
 have hwd:=hwd.h d' rfl
 clear hunB hdp
 by_cases klock:k < 9∧(c.any=true∨c.free < c.ress.length)
 ·rw [if_pos klock] at hun
  have c4:(k:Int) < 9:=by omega
  have lnr:=lnr.h
  cases hany:c.any with
  | true =>
   obtain ⟨rs,hrs⟩:∃ a,(yb true r2 c.ress).1=a:=⟨_,rfl⟩
   obtain ⟨rr,hrr⟩:∃ a,(yb true r2 c.ress).2=a:=⟨_,rfl⟩
   obtain ⟨fr,hfr'⟩:∃ a,c.free=a:=⟨_,rfl⟩
   have hlk:vi c r2=(rs,fr,rr):=by unfold vi;rw [hany,if_pos rfl,hrs,hrr,hfr']
   have hfr:(inSco c rs fr).free≤100:=by have:=bf.h;show fr≤100;omega
   rw [hlk] at hun
   have c3:¬ (k:Int) < 7:=fun e=>by have:=(hno.h (by omega)).1;rw [hany] at this;cases this
   clear klock hlk
   simp only [hany,hfr'] at g1 gA2 hc2 hc5 ⊢
   have hst:=zp (h:=h5) (v:=scV dv rv (fr:Int) hv true) (zs:=[zq,zq,.int .i64 0,zq,.bool false]) (cs:=[dv,rv,.int .i64 (fr:Int),hv,.bool true]) (size:=5) rfl rfl rfl (by simpa [Value.oneCell'] using ⟨o1.h,o2.h,o3.h⟩)
   have gqn:=Heap.get_alloc_same h5 (.blk [dv,rv,.int .i64 (fr:Int),hv,.bool true] true)
   have lh6:=(Heap.le.refl h5).alloc (.blk [dv,rv,.int .i64 (fr:Int),hv,.bool true] true)
   obtain ⟨qn,eqn⟩:∃ x_,h5.next=x_:=⟨_,rfl⟩
   obtain ⟨h6,eh6⟩:∃ x_,h5.alloc (.blk [dv,rv,.int .i64 (fr:Int),hv,.bool true] true)=x_:=⟨_,rfl⟩
   rw [eh6] at gqn lh6
   rw [eqn] at gqn
   rw [eh6,eqn] at hst
   have g6:=lh6.get g1
   have hqn2:h2.next≤qn:=by have:=l5.h.next;omega
   have hqnp:qn≠p:=by have:=hs5.h.lt;omega
   have hq1n' : q1≠qn:=by have:=Heap.lt_of_get g1;omega
   have hqn1:(q1 == qn)=false:=by simpa using hq1n'
   have hpn:(qn == p)=false:=by simpa using hqnp
   have hs6:=hs5.h.le lh6
   have l6:=l5.h.le' lh6
   replace hs6:=Hid.mk hs6;replace l6:=Hid.mk l6;replace lh6:=Hid.mk lh6;replace hqn2:=Hid.mk hqn2
   repeat' (first|simp -implicitDefEqProofs only [za,aR,aW,zb,ze,Int.reduceBEq,Int.reduceBNe,Nat.reduceBEq,Int.reduceLT,Int.reduceLE,zi, *]|with_reducible (first|apply kcd|apply kgd|apply kci|apply kgi)<;>intro hc)
   refine k0 hs6.h o1.h o2.h o3.h (SlVB.to (l6.h.toB fun _ h=>⟨h,h⟩) hr2.h) (by have:=br.h;omega) _ fun h7 l7 hs7=>?_
   have gn7:=l7.keep (i:=qn) hqnp gqn
   have g7:=l7.keep (i:=q1) hq1 g6
   have l7:=l6.h.trans l7
   clear gqn g6
   replace hs7:=Hid.mk hs7;replace l7:=Hid.mk l7
   rw [hrr] at hs7
   rw [hrs]
   have hsl:=StrsB.plain (SlVB.to (B':=(· ≠ p)) (l7.h.toB fun _ h=>⟨h,h⟩) hh2.h)
   obtain ⟨va,h10,ap10,ho10,le10,k10,_,nx10⟩:=(OwnS.nil (kh h7.next) h7 1).append (vn (Nat.le_refl _)) hsl (by omega) (b:=16) (by have:=bh.h;simp;omega) (by have:=bh.h;simp;omega)
   obtain ⟨vb,h11,ap11,ho11,le11,k11,_,nx11⟩:=ho10.append1 (x:=[str rs]) le10 rfl (by omega) (b:=16) (by have:=bh.h;simp;omega) (by have:=bh.h;simp;omega)
   have bs1:=bs_1 rs
   have leI:h7.le h11:=⟨fun i o hg=>by
    have h1:=Heap.lt_of_get hg
    rw [k11 i (by rw [k10 i (by rw [hg];rfl) (by intro a b e;cases e)];rw [hg];rfl) (ho10.notOf h1),k10 i (by rw [hg];rfl) (by intro a b e;cases e)];exact hg,by omega⟩
   have gn11:=leI.get gn7
   have g11:=leI.get g7
   have vbS:IsS vb:=(OwnS.slB ho11).isS
   have st16:=zo (off:=3) gn11 (by simp) (v:=vb) (by obtain ⟨_,_,_,rfl⟩:=vbS;rfl) (by obtain ⟨_,_,_,rfl⟩:=vbS;rfl)
   have hqnl:=Heap.lt_of_get gn7
   obtain ⟨h12,eh12⟩:∃ x_,h11.set qn (.blk [dv,rv,.int .i64 (fr:Int),vb,.bool true] true)=x_:=⟨_,rfl⟩
   have st16' : zt 1 h11 [.pointer (some ⟨qn,3,none⟩),vb]=some (undef,h12):=by rw [← eh12];exact st16
   have gn12:h12.get qn=some (.blk [dv,rv,.int .i64 (fr:Int),vb,.bool true] true):=by rw [← eh12];exact Heap.set_getS _ _ _ (by rw [gn11];rfl)
   have l12:h2.leBut p h12:=by rw [← eh12];exact (l7.h.le' leI).setQ hqn2.h _
   have hs12:Src h12 p rr:=by rw [← eh12];exact (hs7.h.le leI).set (by have:=hs5.h.lt;have:=hqn2.h;have:=hp2.h;have:=l5.h.next;omega) _
   have hheld:StrsB (· ≠ p) h12 vb (c.held++[rs]):=by
    have:=OwnS.slB ho11
    rw [List.nil_append] at this
    have h13:SlVB (· ≠ p) h12 1 vb ((c.held.map fun s=>[str s])++[[str rs]]):=by
     rw [← eh12]
     exact SlVB.to (Heap.toB_set _ fun id hb=>by have h1:h7.next≤id:=hb;have:=hs7.h.lt;constructor<;>omega) this
    show SlVB _ _ _ _ ((c.held++[rs]).map fun s=>[str s])
    rw [List.map_append]
    exact h13
   have hc12:ScB p h12 (inSco c rs fr) [dv,rv,.int .i64 (fr:Int),vb,.bool true] :=
    ⟨dv,rv,vb,by rw [show (inSco c rs fr).any=true from hany];rfl,SlVB.to (l12.toB fun _ h=>⟨h,h⟩) hd2.h,SlVB.to (l12.toB fun _ h=>⟨h,h⟩) hr2.h,hheld,bd.h,br.h,by have:=hcd.h;simp [inSco];omega,hfr⟩
   have hns:=hcd.h
   clear hsl leI gn11 g11 st16 eh12 hheld k10 k11 le10 le11 ho10 ho11 nx10 nx11
   replace l12:=Hid.mk l12;replace hs12:=Hid.mk hs12;replace hc12:=Hid.mk hc12
   repeat' (first|simp -implicitDefEqProofs only [za,aR,aW,zb,ze,Int.reduceBEq,Int.reduceBNe,Nat.reduceBEq,Int.reduceLT,Int.reduceLE,zi, *]|with_reducible (first|apply kcd|apply kgd|apply kci|apply kgi)<;>intro hc)
   refine ih.h d' rfl (inSco c rs fr) (by simp [inSco];omega) _ _ _ _ _ hs12.h hc12.h fun h13 v l13 hs13 hv13=>?_
   have l13:=l12.h.trans l13
   have hvv:=hv13.to (B':=fun id=>h.next≤id∧id≠q2) (Heap.toB_id fun id hb=>bnd.h _ l12.h id hb)
   have bb:=bLock rs hvv.isS
   obtain ⟨f1,f2,f3⟩:=fin.h h13 _ _ _ _ _ zq _ zq [] _ [] l13 hs13 ExsVB.nil hvv StsVB.nil hun
   clear hun hvv hs13 l13 hv13
   replace f3:=Hid.mk f3
   clear fin e0 bnd ih
   repeat' (first|simp -implicitDefEqProofs only [za,aR,aW,zb,ze,Int.reduceBEq,Int.reduceBNe,Nat.reduceBEq,Int.reduceLT,Int.reduceLE,qy, *]|with_reducible (first|apply kcd|apply kgd|apply kci|apply kgi)<;>intro hc)
   exact f3.h
  | false =>
   have hfl:c.free < c.ress.length:=klock.2.resolve_left (by simp [hany])
   have hflI:(c.free:Int) < (c.ress.length:Int):=by omega
   have hlen0:(yb false r2 c.ress).1=(yb false r2 c.ress).1:=rfl
   obtain ⟨r3,hr3⟩:∃ a,(yb false r2 c.ress).2=a:=⟨_,rfl⟩
   obtain ⟨i,hi⟩:∃ a,(zg r3 (c.ress.length - c.free)).1=a:=⟨_,rfl⟩
   obtain ⟨rr,hrr⟩:∃ a,(zg r3 (c.ress.length - c.free)).2=a:=⟨_,rfl⟩
   obtain ⟨rs,hrs⟩:∃ a,c.ress.getD (c.free + i) []=a:=⟨_,rfl⟩
   obtain ⟨fr,hfr'⟩:∃ a,c.free + i + 1=a:=⟨_,rfl⟩
   have hlk:vi c r2=(rs,fr,rr):=by unfold vi;rw [hany];simp only [Bool.false_eq_true,if_false];rw [hr3,hi,hrr,hrs,hfr']
   rw [hlk] at hun
   clear klock hlk
   simp only [hany] at g1 gA2 hc2 hc5 ⊢
   have hwl:IntKind.i64.wrap ((c.ress.length:Int) - (c.free:Int))=((c.ress.length - c.free:Nat):Int):=by have:=br.h;rw [zu (by omega) (by omega)];omega
   replace hfl:=Hid.mk hfl
   by_cases c3:(k:Int) < 7
   ·have ln:=ln.h
    rw [(hno.h (by omega)).2] at ln
    have lz:(([]:List (List UInt8)).length:Int)=0:=rfl
    have hst:=zp (h:=h5) (v:=scV dv rv (c.free:Int) hv false) (zs:=[zq,zq,.int .i64 0,zq,.bool false]) (cs:=[dv,rv,.int .i64 (c.free:Int),hv,.bool false]) (size:=5) rfl rfl rfl (by simpa [Value.oneCell'] using ⟨o1.h,o2.h,o3.h⟩)
    have gqn:=Heap.get_alloc_same h5 (.blk [dv,rv,.int .i64 (c.free:Int),hv,.bool false] true)
    have lh6:=(Heap.le.refl h5).alloc (.blk [dv,rv,.int .i64 (c.free:Int),hv,.bool false] true)
    obtain ⟨qn,eqn⟩:∃ x_,h5.next=x_:=⟨_,rfl⟩
    obtain ⟨h6,eh6⟩:∃ x_,h5.alloc (.blk [dv,rv,.int .i64 (c.free:Int),hv,.bool false] true)=x_:=⟨_,rfl⟩
    rw [eh6] at gqn lh6
    rw [eqn] at gqn
    rw [eh6,eqn] at hst
    have g6:=lh6.get g1
    have hqn2:h2.next≤qn:=by have:=l5.h.next;omega
    have hqnp:qn≠p:=by have:=hs5.h.lt;omega
    have hq1n' : q1≠qn:=by have:=Heap.lt_of_get g1;omega
    have hqn1:(q1 == qn)=false:=by simpa using hq1n'
    have hpn:(qn == p)=false:=by simpa using hqnp
    have hs6:=hs5.h.le lh6
    have l6:=l5.h.le' lh6
    replace hs6:=Hid.mk hs6;replace l6:=Hid.mk l6;replace lh6:=Hid.mk lh6;replace hqn2:=Hid.mk hqn2
    repeat' (first|simp -implicitDefEqProofs only [za,aR,aW,zb,ze,Int.reduceBEq,Int.reduceBNe,Nat.reduceBEq,Int.reduceLT,Int.reduceLE,zi, *]|with_reducible (first|apply kcd|apply kgd|apply kci|apply kgi)<;>intro hc)
    refine k0 hs6.h o1.h o2.h o3.h (SlVB.to (l6.h.toB fun _ h=>⟨h,h⟩) hr2.h) (by have:=br.h;omega) _ fun h7 l7 hs7=>?_
    have gn7:=l7.keep (i:=qn) hqnp gqn
    have g7:=l7.keep (i:=q1) hq1 g6
    have l7:=l6.h.trans l7
    clear gqn g6
    replace hs7:=Hid.mk hs7;replace l7:=Hid.mk l7
    rw [hr3] at hs7
    have hlti:=yh hs7.h.in (n:=c.ress.length - c.free) (by have:=hfl.h;omega)
    rw [hi] at hlti
    repeat' (first|simp -implicitDefEqProofs only [za,aR,aW,zb,ze,Int.reduceBEq,Int.reduceBNe,Nat.reduceBEq,Int.reduceLT,Int.reduceLE, *]|with_reducible (first|apply kcd|apply kgd|apply kci|apply kgi)<;>intro hc)
    refine yp (n:=c.ress.length - c.free) hs7.h (by have:=hfl.h;omega) (by have:=br.h;omega) _ fun h8 l8 _ hs8=>j2 l8 ?_
    rw [hrr] at hs8
    rw [hi]
    have gn8:=l8.keep (i:=qn) hqnp gn7
    have g8:=l8.keep (i:=q1) hq1 g7
    have l8:=l7.h.trans l8
    have hrd:=StrsB.plain (SlVB.to (B':=(· ≠ p)) (l8.toB fun _ h=>⟨h,h⟩) hr2.h)
    obtain ⟨ide,off,cells,own,e1,e2,e3,_⟩:=hrd.elem (getD_some (l:=c.ress) (i:=c.free + i) (by have:=hfl.h;omega) [])
    rw [hrs] at e3
    have hwa:IntKind.i64.wrap ((c.free:Int) + (i:Int))=((c.free + i:Nat):Int):=by have:=br.h;have:=hfl.h;rw [zu (by omega) (by omega)];omega
    have hwb:IntKind.i64.wrap (((c.free + i:Nat):Int) + 1)=(fr:Int):=by have:=br.h;have:=hfl.h;rw [zu (by omega) (by omega)];omega
    have st15:=Z4 (off:=2) (k:=.i64) (z:=(fr:Int)) gn8 (by simp)
    obtain ⟨h9,eh9⟩:∃ x_,h8.set qn (.blk ([dv,rv,.int .i64 (c.free:Int),hv,.bool false].set 2 (.int .i64 (fr:Int))) true)=x_:=⟨_,rfl⟩
    rw [eh9] at st15
    have gn9:h9.get qn=some (.blk [dv,rv,.int .i64 (fr:Int),hv,.bool false] true):=by rw [← eh9];exact Heap.set_getS _ _ _ (by rw [gn8];rfl)
    have g9:h9.get q1=some (.blk [dv,rv,.int .i64 (c.free:Int),hv,.bool false] true):=by rw [← eh9,Heap.set_getE _ _ _ _ hqn1];exact g8
    have hs9:Src h9 p rr:=by rw [← eh9];exact hs8.set (by have:=hp2.h;have:=hqn2.h;have:=hs5.h.lt;have:=l5.h.next;omega) _
    have l9:h2.leBut p h9:=by rw [← eh9];exact l8.setQ hqn2.h _
    have hfr:(inSco c rs fr).free≤100:=by have:=br.h;have:=hfl.h;show fr≤100;omega
    clear hrd eh9 l8 hs8 hlti hfr'
    replace hs9:=Hid.mk hs9;replace l9:=Hid.mk l9
    have hsl:=StrsB.plain (SlVB.to (B':=(· ≠ p)) (l9.h.toB fun _ h=>⟨h,h⟩) hh2.h)
    obtain ⟨va,h10,ap10,ho10,le10,k10,_,nx10⟩:=(OwnS.nil (kh h9.next) h9 1).append (vn (Nat.le_refl _)) hsl (by omega) (b:=16) (by have:=bh.h;simp;omega) (by have:=bh.h;simp;omega)
    obtain ⟨vb,h11,ap11,ho11,le11,k11,_,nx11⟩:=ho10.append1 (x:=[str rs]) le10 rfl (by omega) (b:=16) (by have:=bh.h;simp;omega) (by have:=bh.h;simp;omega)
    have bs1:=bs_1 rs
    have leI:h9.le h11:=⟨fun i o hg=>by
     have h1:=Heap.lt_of_get hg
     rw [k11 i (by rw [k10 i (by rw [hg];rfl) (by intro a b e;cases e)];rw [hg];rfl) (ho10.notOf h1),k10 i (by rw [hg];rfl) (by intro a b e;cases e)];exact hg,by omega⟩
    have gn11:=leI.get gn9
    have g11:=leI.get g9
    have vbS:IsS vb:=(OwnS.slB ho11).isS
    have st16:=zo (off:=3) gn11 (by simp) (v:=vb) (by obtain ⟨_,_,_,rfl⟩:=vbS;rfl) (by obtain ⟨_,_,_,rfl⟩:=vbS;rfl)
    have hqnl:=Heap.lt_of_get gn9
    obtain ⟨h12,eh12⟩:∃ x_,h11.set qn (.blk [dv,rv,.int .i64 (fr:Int),vb,.bool false] true)=x_:=⟨_,rfl⟩
    have st16' : zt 1 h11 [.pointer (some ⟨qn,3,none⟩),vb]=some (undef,h12):=by rw [← eh12];exact st16
    have gn12:h12.get qn=some (.blk [dv,rv,.int .i64 (fr:Int),vb,.bool false] true):=by rw [← eh12];exact Heap.set_getS _ _ _ (by rw [gn11];rfl)
    have l12:h2.leBut p h12:=by rw [← eh12];exact (l9.h.le' leI).setQ hqn2.h _
    have hs12:Src h12 p rr:=by rw [← eh12];exact (hs9.h.le leI).set (by have:=hs5.h.lt;have:=hqn2.h;have:=hp2.h;have:=l5.h.next;omega) _
    have hheld:StrsB (· ≠ p) h12 vb (c.held++[rs]):=by
     have:=OwnS.slB ho11
     rw [List.nil_append] at this
     have h13:SlVB (· ≠ p) h12 1 vb ((c.held.map fun s=>[str s])++[[str rs]]):=by
      rw [← eh12]
      exact SlVB.to (Heap.toB_set _ fun id hb=>by have h1:h9.next≤id:=hb;have:=hs9.h.lt;constructor<;>omega) this
     show SlVB _ _ _ _ ((c.held++[rs]).map fun s=>[str s])
     rw [List.map_append]
     exact h13
    have hc12:ScB p h12 (inSco c rs fr) [dv,rv,.int .i64 (fr:Int),vb,.bool false] :=
     ⟨dv,rv,vb,by rw [show (inSco c rs fr).any=false from hany];rfl,SlVB.to (l12.toB fun _ h=>⟨h,h⟩) hd2.h,SlVB.to (l12.toB fun _ h=>⟨h,h⟩) hr2.h,hheld,bd.h,br.h,by have:=hcd.h;simp [inSco];omega,hfr⟩
    have hns:=hcd.h
    clear hsl leI gn11 g11 st16 eh12 hheld k10 k11 le10 le11 ho10 ho11 nx10 nx11
    replace l12:=Hid.mk l12;replace hs12:=Hid.mk hs12;replace hc12:=Hid.mk hc12
    repeat' (first|simp -implicitDefEqProofs only [za,aR,aW,zb,ze,Int.reduceBEq,Int.reduceBNe,Nat.reduceBEq,Int.reduceLT,Int.reduceLE,zi, *]|with_reducible (first|apply kcd|apply kgd|apply kci|apply kgi)<;>intro hc)
    refine ih.h d' rfl (inSco c rs fr) (by simp [inSco];omega) _ _ _ _ _ hs12.h hc12.h fun h13 v l13 hs13 hv13=>?_
    have l13:=l12.h.trans l13
    have hvv:=hv13.to (B':=fun id=>h.next≤id∧id≠q2) (Heap.toB_id fun id hb=>bnd.h _ l12.h id hb)
    have bb:=bLock rs hvv.isS
    obtain ⟨f1,f2,f3⟩:=fin.h h13 _ _ _ _ _ zq _ zq [] _ [] l13 hs13 ExsVB.nil hvv StsVB.nil hun
    clear hun hvv hs13 l13 hv13
    replace f3:=Hid.mk f3
    clear fin e0 bnd ih
    repeat' (first|simp -implicitDefEqProofs only [za,aR,aW,zb,ze,Int.reduceBEq,Int.reduceBNe,Nat.reduceBEq,Int.reduceLT,Int.reduceLE,qy, *]|with_reducible (first|apply kcd|apply kgd|apply kci|apply kgi)<;>intro hc)
    exact f3.h
   ·skip
    have hst:=zp (h:=h5) (v:=scV dv rv (c.free:Int) hv false) (zs:=[zq,zq,.int .i64 0,zq,.bool false]) (cs:=[dv,rv,.int .i64 (c.free:Int),hv,.bool false]) (size:=5) rfl rfl rfl (by simpa [Value.oneCell'] using ⟨o1.h,o2.h,o3.h⟩)
    have gqn:=Heap.get_alloc_same h5 (.blk [dv,rv,.int .i64 (c.free:Int),hv,.bool false] true)
    have lh6:=(Heap.le.refl h5).alloc (.blk [dv,rv,.int .i64 (c.free:Int),hv,.bool false] true)
    obtain ⟨qn,eqn⟩:∃ x_,h5.next=x_:=⟨_,rfl⟩
    obtain ⟨h6,eh6⟩:∃ x_,h5.alloc (.blk [dv,rv,.int .i64 (c.free:Int),hv,.bool false] true)=x_:=⟨_,rfl⟩
    rw [eh6] at gqn lh6
    rw [eqn] at gqn
    rw [eh6,eqn] at hst
    have g6:=lh6.get g1
    have hqn2:h2.next≤qn:=by have:=l5.h.next;omega
    have hqnp:qn≠p:=by have:=hs5.h.lt;omega
    have hq1n' : q1≠qn:=by have:=Heap.lt_of_get g1;omega
    have hqn1:(q1 == qn)=false:=by simpa using hq1n'
    have hpn:(qn == p)=false:=by simpa using hqnp
    have hs6:=hs5.h.le lh6
    have l6:=l5.h.le' lh6
    replace hs6:=Hid.mk hs6;replace l6:=Hid.mk l6;replace lh6:=Hid.mk lh6;replace hqn2:=Hid.mk hqn2
    repeat' (first|simp -implicitDefEqProofs only [za,aR,aW,zb,ze,Int.reduceBEq,Int.reduceBNe,Nat.reduceBEq,Int.reduceLT,Int.reduceLE,zi, *]|with_reducible (first|apply kcd|apply kgd|apply kci|apply kgi)<;>intro hc)
    refine k0 hs6.h o1.h o2.h o3.h (SlVB.to (l6.h.toB fun _ h=>⟨h,h⟩) hr2.h) (by have:=br.h;omega) _ fun h7 l7 hs7=>?_
    have gn7:=l7.keep (i:=qn) hqnp gqn
    have g7:=l7.keep (i:=q1) hq1 g6
    have l7:=l6.h.trans l7
    clear gqn g6
    replace hs7:=Hid.mk hs7;replace l7:=Hid.mk l7
    rw [hr3] at hs7
    have hlti:=yh hs7.h.in (n:=c.ress.length - c.free) (by have:=hfl.h;omega)
    rw [hi] at hlti
    repeat' (first|simp -implicitDefEqProofs only [za,aR,aW,zb,ze,Int.reduceBEq,Int.reduceBNe,Nat.reduceBEq,Int.reduceLT,Int.reduceLE, *]|with_reducible (first|apply kcd|apply kgd|apply kci|apply kgi)<;>intro hc)
    refine yp (n:=c.ress.length - c.free) hs7.h (by have:=hfl.h;omega) (by have:=br.h;omega) _ fun h8 l8 _ hs8=>j2 l8 ?_
    rw [hrr] at hs8
    rw [hi]
    have gn8:=l8.keep (i:=qn) hqnp gn7
    have g8:=l8.keep (i:=q1) hq1 g7
    have l8:=l7.h.trans l8
    have hrd:=StrsB.plain (SlVB.to (B':=(· ≠ p)) (l8.toB fun _ h=>⟨h,h⟩) hr2.h)
    obtain ⟨ide,off,cells,own,e1,e2,e3,_⟩:=hrd.elem (getD_some (l:=c.ress) (i:=c.free + i) (by have:=hfl.h;omega) [])
    rw [hrs] at e3
    have hwa:IntKind.i64.wrap ((c.free:Int) + (i:Int))=((c.free + i:Nat):Int):=by have:=br.h;have:=hfl.h;rw [zu (by omega) (by omega)];omega
    have hwb:IntKind.i64.wrap (((c.free + i:Nat):Int) + 1)=(fr:Int):=by have:=br.h;have:=hfl.h;rw [zu (by omega) (by omega)];omega
    have st15:=Z4 (off:=2) (k:=.i64) (z:=(fr:Int)) gn8 (by simp)
    obtain ⟨h9,eh9⟩:∃ x_,h8.set qn (.blk ([dv,rv,.int .i64 (c.free:Int),hv,.bool false].set 2 (.int .i64 (fr:Int))) true)=x_:=⟨_,rfl⟩
    rw [eh9] at st15
    have gn9:h9.get qn=some (.blk [dv,rv,.int .i64 (fr:Int),hv,.bool false] true):=by rw [← eh9];exact Heap.set_getS _ _ _ (by rw [gn8];rfl)
    have g9:h9.get q1=some (.blk [dv,rv,.int .i64 (c.free:Int),hv,.bool false] true):=by rw [← eh9,Heap.set_getE _ _ _ _ hqn1];exact g8
    have hs9:Src h9 p rr:=by rw [← eh9];exact hs8.set (by have:=hp2.h;have:=hqn2.h;have:=hs5.h.lt;have:=l5.h.next;omega) _
    have l9:h2.leBut p h9:=by rw [← eh9];exact l8.setQ hqn2.h _
    have hfr:(inSco c rs fr).free≤100:=by have:=br.h;have:=hfl.h;show fr≤100;omega
    clear hrd eh9 l8 hs8 hlti hfr'
    replace hs9:=Hid.mk hs9;replace l9:=Hid.mk l9
    have hsl:=StrsB.plain (SlVB.to (B':=(· ≠ p)) (l9.h.toB fun _ h=>⟨h,h⟩) hh2.h)
    obtain ⟨va,h10,ap10,ho10,le10,k10,_,nx10⟩:=(OwnS.nil (kh h9.next) h9 1).append (vn (Nat.le_refl _)) hsl (by omega) (b:=16) (by have:=bh.h;simp;omega) (by have:=bh.h;simp;omega)
    obtain ⟨vb,h11,ap11,ho11,le11,k11,_,nx11⟩:=ho10.append1 (x:=[str rs]) le10 rfl (by omega) (b:=16) (by have:=bh.h;simp;omega) (by have:=bh.h;simp;omega)
    have bs1:=bs_1 rs
    have leI:h9.le h11:=⟨fun i o hg=>by
     have h1:=Heap.lt_of_get hg
     rw [k11 i (by rw [k10 i (by rw [hg];rfl) (by intro a b e;cases e)];rw [hg];rfl) (ho10.notOf h1),k10 i (by rw [hg];rfl) (by intro a b e;cases e)];exact hg,by omega⟩
    have gn11:=leI.get gn9
    have g11:=leI.get g9
    have vbS:IsS vb:=(OwnS.slB ho11).isS
    have st16:=zo (off:=3) gn11 (by simp) (v:=vb) (by obtain ⟨_,_,_,rfl⟩:=vbS;rfl) (by obtain ⟨_,_,_,rfl⟩:=vbS;rfl)
    have hqnl:=Heap.lt_of_get gn9
    obtain ⟨h12,eh12⟩:∃ x_,h11.set qn (.blk [dv,rv,.int .i64 (fr:Int),vb,.bool false] true)=x_:=⟨_,rfl⟩
    have st16' : zt 1 h11 [.pointer (some ⟨qn,3,none⟩),vb]=some (undef,h12):=by rw [← eh12];exact st16
    have gn12:h12.get qn=some (.blk [dv,rv,.int .i64 (fr:Int),vb,.bool false] true):=by rw [← eh12];exact Heap.set_getS _ _ _ (by rw [gn11];rfl)
    have l12:h2.leBut p h12:=by rw [← eh12];exact (l9.h.le' leI).setQ hqn2.h _
    have hs12:Src h12 p rr:=by rw [← eh12];exact (hs9.h.le leI).set (by have:=hs5.h.lt;have:=hqn2.h;have:=hp2.h;have:=l5.h.next;omega) _
    have hheld:StrsB (· ≠ p) h12 vb (c.held++[rs]):=by
     have:=OwnS.slB ho11
     rw [List.nil_append] at this
     have h13:SlVB (· ≠ p) h12 1 vb ((c.held.map fun s=>[str s])++[[str rs]]):=by
      rw [← eh12]
      exact SlVB.to (Heap.toB_set _ fun id hb=>by have h1:h9.next≤id:=hb;have:=hs9.h.lt;constructor<;>omega) this
     show SlVB _ _ _ _ ((c.held++[rs]).map fun s=>[str s])
     rw [List.map_append]
     exact h13
    have hc12:ScB p h12 (inSco c rs fr) [dv,rv,.int .i64 (fr:Int),vb,.bool false] :=
     ⟨dv,rv,vb,by rw [show (inSco c rs fr).any=false from hany];rfl,SlVB.to (l12.toB fun _ h=>⟨h,h⟩) hd2.h,SlVB.to (l12.toB fun _ h=>⟨h,h⟩) hr2.h,hheld,bd.h,br.h,by have:=hcd.h;simp [inSco];omega,hfr⟩
    have hns:=hcd.h
    clear hsl leI gn11 g11 st16 eh12 hheld k10 k11 le10 le11 ho10 ho11 nx10 nx11
    replace l12:=Hid.mk l12;replace hs12:=Hid.mk hs12;replace hc12:=Hid.mk hc12
    repeat' (first|simp -implicitDefEqProofs only [za,aR,aW,zb,ze,Int.reduceBEq,Int.reduceBNe,Nat.reduceBEq,Int.reduceLT,Int.reduceLE,zi, *]|with_reducible (first|apply kcd|apply kgd|apply kci|apply kgi)<;>intro hc)
    refine ih.h d' rfl (inSco c rs fr) (by simp [inSco];omega) _ _ _ _ _ hs12.h hc12.h fun h13 v l13 hs13 hv13=>?_
    have l13:=l12.h.trans l13
    have hvv:=hv13.to (B':=fun id=>h.next≤id∧id≠q2) (Heap.toB_id fun id hb=>bnd.h _ l12.h id hb)
    have bb:=bLock rs hvv.isS
    obtain ⟨f1,f2,f3⟩:=fin.h h13 _ _ _ _ _ zq _ zq [] _ [] l13 hs13 ExsVB.nil hvv StsVB.nil hun
    clear hun hvv hs13 l13 hv13
    replace f3:=Hid.mk f3
    clear fin e0 bnd ih
    repeat' (first|simp -implicitDefEqProofs only [za,aR,aW,zb,ze,Int.reduceBEq,Int.reduceBNe,Nat.reduceBEq,Int.reduceLT,Int.reduceLE,qy, *]|with_reducible (first|apply kcd|apply kgd|apply kci|apply kgi)<;>intro hc)
    exact f3.h
 rw [if_neg klock] at hun
 by_cases k9:k=9
 ·subst k9
  rw [if_pos rfl] at hun
  have e9:((9:Nat):Int)=9:=rfl
  clear klock c1 c2
  have c3:¬ (9:Int) < 7:=by decide
  repeat' (first|simp -implicitDefEqProofs only [za,aR,aW,zb,ze,Int.reduceBEq,Int.reduceBNe,Nat.reduceBEq,Int.reduceLT,Int.reduceLE,zi, *]|with_reducible (first|apply kcd|apply kgd|apply kci|apply kgi)<;>intro hc)
  refine we c 3 (by omega) _ _ _ _ _ hs5.h hc5.h fun h6 y6 l6 hs6 hy6=>j2 l6 ?_
  have lr6:=Hid.mk l6
  have l6:=l5.h.trans l6
  have g6:=l6.keep (i:=q1) hq1 gA2.h
  have hc6:=hc2.h.but l6
  replace hs6:=Hid.mk hs6;replace l6:=Hid.mk l6;replace hc6:=Hid.mk hc6;replace hy6:=Hid.mk hy6
  repeat' (first|simp -implicitDefEqProofs only [za,aR,aW,zb,ze,Int.reduceBEq,Int.reduceBNe,Nat.reduceBEq,Int.reduceLT,Int.reduceLE,zi, *]|with_reducible (first|apply kcd|apply kgd|apply kci|apply kgi)<;>intro hc)
  refine ih.h d' rfl c (by have:=hcd.h;omega) _ _ _ _ _ hs6.h hc6.h fun h7 v7 l7 hs7 hv7=>j2 l7 ?_
  have lr7:=Hid.mk l7
  have l7:=l6.h.trans l7
  have g7:=l7.keep (i:=q1) hq1 gA2.h
  have hc7:=hc2.h.but l7
  replace hs7:=Hid.mk hs7;replace l7:=Hid.mk l7;replace hc7:=Hid.mk hc7;replace hv7:=Hid.mk hv7
  repeat' (first|simp -implicitDefEqProofs only [za,aR,aW,zb,ze,Int.reduceBEq,Int.reduceBNe,Nat.reduceBEq,Int.reduceLT,Int.reduceLE,zi, *]|with_reducible (first|apply kcd|apply kgd|apply kci|apply kgi)<;>intro hc)
  refine ih.h d' rfl c (by have:=hcd.h;omega) _ _ _ _ _ hs7.h hc7.h fun h8 v8 l8 hs8 hv8=>?_
  have lr8:=Hid.mk l8
  have l8:=l7.h.trans l8
  have g8:=l8.keep (i:=q1) hq1 gA2.h
  have hc8:=hc2.h.but l8
  replace hs8:=Hid.mk hs8;replace l8:=Hid.mk l8;replace hc8:=Hid.mk hc8;replace hv8:=Hid.mk hv8
  have hy8:ExCB (fun id=>h5.next≤id) h8 _ y6:=hy6.h.to ((lr7.h.trans lr8.h).toB fun id hb=>⟨by have h1:h5.next≤id:=hb;have h2:=hs5.h.lt;omega,hb⟩)
  have ux:=wt hy8.ones
  have hnew:=ExsVB.new (B':=fun id=>h.next≤id∧id≠q2) (l:=[_]) (xs:=[y6]) ⟨y6,[],rfl,hy8,rfl⟩ (fun id hb _=>bnd.h _ l5.h id hb) (bnd.h _ l8.h _ (Nat.le_refl _)) (by simp) (by simpa using hy8.ones.1) (cells:=y6) (by simp) (n:=1) rfl
  have hv8' : StsVB (fun id=>h7.next≤id) h8 v8 _:=hv8.h
  have hv7' : StsVB (fun id=>h.next≤id∧id≠q2) h8 v7 _:=hv7.h.to (lr8.h.toB fun id hb=>⟨by have h1:h6.next≤id:=hb;have h2:=hs6.h.lt;omega,bnd.h _ l6.h id hb⟩)
  have gqx:=Heap.get_alloc_same h8 (.blk y6 true)
  have lh9:=(Heap.le.refl h8).alloc (.blk y6 true)
  obtain ⟨qx,eqx⟩:∃ x_,h8.next=x_:=⟨_,rfl⟩
  obtain ⟨h9,eh9⟩:∃ x_,h8.alloc (.blk y6 true)=x_:=⟨_,rfl⟩
  rw [eh9] at gqx lh9
  rw [eqx] at gqx
  rw [eh9,eqx] at hnew
  have hs9:=hs8.h.le lh9
  have l9:=l8.h.le' lh9
  have hv9:=hv7'.to (lh9.toB fun id hb=>hb)
  have hw9:=hv8'.to (B':=fun id=>h.next≤id∧id≠q2) (lh9.toB fun id hb=>bnd.h _ l7.h id hb)
  have bb:=bIf hnew.isS hv9.isS hw9.isS
  obtain ⟨f1,f2,f3⟩:=fin.h h9 _ _ _ _ _ _ _ _ _ _ _ l9 hs9 hnew hv9 hw9 hun
  clear hun hnew hs9 l9 lh9 hv9 hw9 hv7' hv8' hy8
  replace f3:=Hid.mk f3
  clear fin e0 bnd ih
  repeat' (first|simp -implicitDefEqProofs only [za,aR,aW,zb,ze,Int.reduceBEq,Int.reduceBNe,Nat.reduceBEq,Int.reduceLT,Int.reduceLE,qy, *]|with_reducible (first|apply kcd|apply kgd|apply kci|apply kgi)<;>intro hc)
  exact f3.h
 rw [if_neg k9] at hun
 by_cases k10:k=10
 ·subst k10
  rw [if_pos rfl] at hun
  have e10:((10:Nat):Int)=10:=rfl
  clear klock c1 c2 k9
  repeat' (first|simp -implicitDefEqProofs only [za,aR,aW,zb,ze,Int.reduceBEq,Int.reduceBNe,Nat.reduceBEq,Int.reduceLT,Int.reduceLE,zi, *]|with_reducible (first|apply kcd|apply kgd|apply kci|apply kgi)<;>intro hc)
  refine yp (n:=5) hs5.h (by omega) (by omega) _ fun h6 l6 _ hs6=>j2 l6 ?_
  have l6:=l5.h.trans l6
  have g6:=l6.keep (i:=q1) hq1 gA2.h
  have hc6:=hc2.h.but l6
  replace hs6:=Hid.mk hs6;replace l6:=Hid.mk l6;replace hc6:=Hid.mk hc6
  repeat' (first|simp -implicitDefEqProofs only [za,aR,aW,zb,ze,Int.reduceBEq,Int.reduceBNe,Nat.reduceBEq,Int.reduceLT,Int.reduceLE,zi, *]|with_reducible (first|apply kcd|apply kgd|apply kci|apply kgi)<;>intro hc)
  refine ih.h d' rfl c (by have:=hcd.h;omega) _ _ _ _ _ hs6.h hc6.h fun h7 v7 l7 hs7 hv7=>?_
  have lr7:=Hid.mk l7
  have l7:=l6.h.trans l7
  have g7:=l7.keep (i:=q1) hq1 gA2.h
  have hc7:=hc2.h.but l7
  replace hs7:=Hid.mk hs7;replace l7:=Hid.mk l7;replace hc7:=Hid.mk hc7;replace hv7:=Hid.mk hv7
  have hv7' : StsVB (fun id=>h.next≤id∧id≠q2) h7 v7 _:=hv7.h.to (Heap.toB_id fun id hb=>bnd.h _ l6.h id hb)
  have bb:=bRep ((zg r2 5).1:Nat) hv7'.isS
  obtain ⟨f1,f2,f3⟩:=fin.h h7 _ _ _ _ _ zq _ zq [] _ [] l7.h hs7.h ExsVB.nil hv7' StsVB.nil hun
  clear hun hv7'
  replace f3:=Hid.mk f3
  clear fin e0 bnd ih
  repeat' (first|simp -implicitDefEqProofs only [za,aR,aW,zb,ze,Int.reduceBEq,Int.reduceBNe,Nat.reduceBEq,Int.reduceLT,Int.reduceLE,qy, *]|with_reducible (first|apply kcd|apply kgd|apply kci|apply kgi)<;>intro hc)
  exact f3.h
 rw [if_neg k10] at hun
 have c4:(k:Int) < 9:=by have:=hlt.h;omega
 have e9:((k:Int) == 9)=false:=by simp;omega
 have e10:((k:Int) == 10)=false:=by simp;omega
 have hany:c.any=false:=by
  cases ha:c.any with
  | false=>rfl
  | true=>exact absurd ⟨by omega,.inl ha⟩ klock
 have hfl:¬ (c.free:Int) < (c.ress.length:Int):=fun e=>klock ⟨by omega,.inr (by omega)⟩
 have lnr:=lnr.h
 clear klock
 simp only [hany] at *
 by_cases c3:(k:Int) < 7
 ·have ln:=ln.h
  rw [(hno.h (by omega)).2] at ln
  have lz:(([]:List (List UInt8)).length:Int)=0:=rfl
  repeat' (first|simp -implicitDefEqProofs only [za,aR,aW,zb,ze,Int.reduceBEq,Int.reduceBNe,Nat.reduceBEq,Int.reduceLT,Int.reduceLE,zi, *]|with_reducible (first|apply kcd|apply kgd|apply kci|apply kgi)<;>intro hc)
  refine we c 4 (by omega) _ _ _ _ _ hs5.h hc5.h fun h6 y6 l6 hs6 hy6=>?_
  have lr6:=Hid.mk l6
  have l6:=l5.h.trans l6
  have g6:=l6.keep (i:=q1) hq1 gA2.h
  have hc6:=hc2.h.but l6
  replace hs6:=Hid.mk hs6;replace l6:=Hid.mk l6;replace hc6:=Hid.mk hc6;replace hy6:=Hid.mk hy6
  have ux:=wt hy6.h.ones
  have hnew:=ExsVB.new (B':=fun id=>h.next≤id∧id≠q2) (l:=[_]) (xs:=[y6]) ⟨y6,[],rfl,hy6.h,rfl⟩ (fun id hb _=>bnd.h _ l5.h id hb) (bnd.h _ l6.h _ (Nat.le_refl _)) (by simp) (by simpa using hy6.h.ones.1) (cells:=y6) (by simp) (n:=1) rfl
  have gqx:=Heap.get_alloc_same h6 (.blk y6 true)
  have lh7:=(Heap.le.refl h6).alloc (.blk y6 true)
  obtain ⟨qx,eqx⟩:∃ x_,h6.next=x_:=⟨_,rfl⟩
  obtain ⟨h7,eh7⟩:∃ x_,h6.alloc (.blk y6 true)=x_:=⟨_,rfl⟩
  rw [eh7] at gqx lh7
  rw [eqx] at gqx
  rw [eh7,eqx] at hnew
  have hs7:=hs6.h.le lh7
  have l7:=l6.h.le' lh7
  obtain ⟨f1,f2,f3⟩:=fin.h h7 _ _ _ _ _ _ zq zq _ [] [] l7 hs7 hnew StsVB.nil StsVB.nil hun
  have bb:=bSet loc hnew.isS 1
  clear hun hnew hs7 l7 lh7
  replace f3:=Hid.mk f3
  clear fin e0 bnd ih
  repeat' (first|simp -implicitDefEqProofs only [za,aR,aW,zb,ze,Int.reduceBEq,Int.reduceBNe,Nat.reduceBEq,Int.reduceLT,Int.reduceLE,qy, *]|with_reducible (first|apply kcd|apply kgd|apply kci|apply kgi)<;>intro hc)
  exact f3.h
 ·skip
  repeat' (first|simp -implicitDefEqProofs only [za,aR,aW,zb,ze,Int.reduceBEq,Int.reduceBNe,Nat.reduceBEq,Int.reduceLT,Int.reduceLE,zi, *]|with_reducible (first|apply kcd|apply kgd|apply kci|apply kgi)<;>intro hc)
  refine we c 4 (by omega) _ _ _ _ _ hs5.h hc5.h fun h6 y6 l6 hs6 hy6=>?_
  have lr6:=Hid.mk l6
  have l6:=l5.h.trans l6
  have g6:=l6.keep (i:=q1) hq1 gA2.h
  have hc6:=hc2.h.but l6
  replace hs6:=Hid.mk hs6;replace l6:=Hid.mk l6;replace hc6:=Hid.mk hc6;replace hy6:=Hid.mk hy6
  have ux:=wt hy6.h.ones
  have hnew:=ExsVB.new (B':=fun id=>h.next≤id∧id≠q2) (l:=[_]) (xs:=[y6]) ⟨y6,[],rfl,hy6.h,rfl⟩ (fun id hb _=>bnd.h _ l5.h id hb) (bnd.h _ l6.h _ (Nat.le_refl _)) (by simp) (by simpa using hy6.h.ones.1) (cells:=y6) (by simp) (n:=1) rfl
  have gqx:=Heap.get_alloc_same h6 (.blk y6 true)
  have lh7:=(Heap.le.refl h6).alloc (.blk y6 true)
  obtain ⟨qx,eqx⟩:∃ x_,h6.next=x_:=⟨_,rfl⟩
  obtain ⟨h7,eh7⟩:∃ x_,h6.alloc (.blk y6 true)=x_:=⟨_,rfl⟩
  rw [eh7] at gqx lh7
  rw [eqx] at gqx
  rw [eh7,eqx] at hnew
  have hs7:=hs6.h.le lh7
  have l7:=l6.h.le' lh7
  obtain ⟨f1,f2,f3⟩:=fin.h h7 _ _ _ _ _ _ zq zq _ [] [] l7 hs7 hnew StsVB.nil StsVB.nil hun
  have bb:=bSet loc hnew.isS 1
  clear hun hnew hs7 l7 lh7
  replace f3:=Hid.mk f3
  clear fin e0 bnd ih
  repeat' (first|simp -implicitDefEqProofs only [za,aR,aW,zb,ze,Int.reduceBEq,Int.reduceBNe,Nat.reduceBEq,Int.reduceLT,Int.reduceLE,qy, *]|with_reducible (first|apply kcd|apply kgd|apply kci|apply kgi)<;>intro hc)
  exact f3.h
theorem X4:∀ (d:Nat) (c:Sco),c.held.length + d≤100→qo9 c d
 | 0,c,hc=>zh9 (by omega) (zi0 hc fun d' hd'=>by omega)
 | d + 1,c,hc=>zh9 (by omega) (zi0 hc fun d' hd' c' hc'=>by cases hd';exact X4 d c' hc')
end Go.Eng.Sy
