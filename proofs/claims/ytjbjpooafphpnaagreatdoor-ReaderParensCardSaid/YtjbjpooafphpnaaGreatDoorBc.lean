/-
  Part of a proof of the laws of layer 07 (reader): what each function does.
  Conditions: none.
-/
import Derived.Test.YtjbjpooafphpnaaGreatDoorBb
set_option linter.unusedSimpArgs false
set_option linter.unusedVariables false
namespace Go.Eng
open Go
def J.cg (B B' : Nat→Prop) (h D : J):Prop:=∀ id cells own,B id→h.get id=some (.aq cells own)→B' id∧D.get id=some (.aq cells own)
theorem J.le.cg {h D : J}(ag:h.le D){B B' : Nat→Prop}(cM:∀ id,B id→B' id):J.cg B B' h D:=fun id _ _ T aA=>⟨cM id T,ag.get aA⟩
theorem J.b2.cg {p:Nat}{h D : J}(ag:h.b2 p D){B B' : Nat→Prop}(cM:∀ id,B id→id≠p∧B' id):J.cg B B' h D:=fun id _ _ T aA=>⟨(cM id T).2,by rw [ag.get id (cM id T).1 (by rw [aA];rfl)];exact aA⟩
end Go.Eng
namespace Go.Eng.Sy
open Go Go.Eng Go.Proofs
def dH (B:Nat→Prop) (h:J) (s:Nat) (v:Value) (xs:List (ar)):Prop :=
 (v = bx∧xs=[]) ∨ ∃ id off,v = .slice (some ⟨id,off,none⟩) xs.length s∧(xs=[]∨(B id∧x2 h id off s xs))
theorem dH.to {B B' : Nat→Prop}{h D : J}(ab:J.cg B B' h D){s:Nat}{v:Value}{xs:List (ar)}(ad:dH B h s v xs):dH B' D s v xs:=by
 rcases ad with ad | ⟨id,off,ad,ai⟩
 ·exact .inl ad
 ·refine .inr ⟨id,off,ad,?_⟩;rcases ai with ai | ⟨T,cells,own,aA,af⟩
  ·exact .inl ai
  ·obtain ⟨b,g⟩:=ab id cells own T aA;exact .inr ⟨b,cells,own,g,af⟩
theorem dH.plain {B:Nat→Prop}{h:J}{s:Nat}{v:Value}{xs:List (ar)}(ad:dH B h s v xs):cT h s v xs:=by
 rcases ad with ad | ⟨id,off,ad,ai⟩
 ·exact .inl ad
 ·exact .inr ⟨id,off,ad,ai.imp (fun e=>e) (·.2)⟩
theorem dH.nil (B:Nat→Prop) (h:J) (s:Nat):dH B h s bx []:=.inl ⟨rfl,rfl⟩
mutual
def gR (B:Nat→Prop) (h:J):aX→ar→Prop
 | .mk k o n m args,x=>∃ v xs,x=[I k,I o,I n,str m,v]∧dH B h 5 v xs∧xs.length≤140737488355328∧j0 B h args xs
def j0 (B:Nat→Prop) (h:J):List aX→List (ar)→Prop
 | [],xs=>xs=[]
 | e::r,xs=>∃ x fJ,xs=x::fJ∧gR B h e x∧j0 B h r fJ
end
mutual
def lJ (B:Nat→Prop) (h:J):aP→ar→Prop
 | .mk k m f n args aU bz,x=>∃ v xs u c4 w zs,x=[I k,str m,str f,I n,v,u,w]∧(dH B h 5 v xs∧xs.length≤140737488355328∧j0 B h args xs)∧(dH B h 7 u c4∧c4.length≤140737488355328∧j1 B h aU c4)∧dH B h 7 w zs∧zs.length≤140737488355328∧j1 B h bz zs
def j1 (B:Nat→Prop) (h:J):List aP→List (ar)→Prop
 | [],xs=>xs=[]
 | e::r,xs=>∃ x fJ,xs=x::fJ∧lJ B h e x∧j1 B h r fJ
end
def en (B:Nat→Prop) (h:J) (v:Value) (l:List aX):Prop:=∃ xs,dH B h 5 v xs∧xs.length≤140737488355328∧j0 B h l xs
def dN (B:Nat→Prop) (h:J) (v:Value) (l:List aP):Prop:=∃ xs,dH B h 7 v xs∧xs.length≤140737488355328∧j1 B h l xs
mutual
theorem gR.to {B B' : Nat→Prop}{h D : J}(ab:J.cg B B' h D):∀ {e:aX}{x:ar},gR B h e x→gR B' D e x
 | .mk _ _ _ _ _,_,⟨v,xs,A,S,T,ae⟩=>⟨v,xs,A,S.to ab,T,j0.to ab ae⟩
theorem j0.to {B B' : Nat→Prop}{h D : J}(ab:J.cg B B' h D):∀ {l:List aX}{xs:List (ar)},j0 B h l xs→j0 B' D l xs
 | [],_,af=>af
 | _::_,_,⟨x,fJ,A,S,ae⟩=>⟨x,fJ,A,gR.to ab S,j0.to ab ae⟩
end
mutual
theorem lJ.to {B B' : Nat→Prop}{h D : J}(ab:J.cg B B' h D):∀ {e:aP}{x:ar},lJ B h e x→lJ B' D e x
 | .mk _ _ _ _ _ _ _,_,⟨v,xs,u,c4,w,zs,A,S,ae,aB,aG⟩=>⟨v,xs,u,c4,w,zs,A,⟨S.1.to ab,S.2.1,j0.to ab S.2.2⟩,⟨ae.1.to ab,ae.2.1,j1.to ab ae.2.2⟩,aB.to ab,aG.1,j1.to ab aG.2⟩
theorem j1.to {B B' : Nat→Prop}{h D : J}(ab:J.cg B B' h D):∀ {l:List aP}{xs:List (ar)},j1 B h l xs→j1 B' D l xs
 | [],_,af=>af
 | _::_,_,⟨x,fJ,A,S,ae⟩=>⟨x,fJ,A,lJ.to ab S,j1.to ab ae⟩
end
theorem en.to {B B' : Nat→Prop}{h D : J}(ab:J.cg B B' h D){v:Value}{l:List aX}(ad:en B h v l):en B' D v l:=let ⟨xs,a,c,b⟩:=ad;⟨xs,a.to ab,c,b.to ab⟩
theorem dN.to {B B' : Nat→Prop}{h D : J}(ab:J.cg B B' h D){v:Value}{l:List aP}(ad:dN B h v l):dN B' D v l:=let ⟨xs,a,c,b⟩:=ad;⟨xs,a.to ab,c,b.to ab⟩
section
variable {B:Nat→Prop}{h:J}
mutual
theorem gR.plain:∀ {e:aX}{x:ar},gR B h e x→iN h e x
 | .mk _ _ _ _ _,_,⟨v,xs,A,S,T,ae⟩=>⟨v,xs,A,S.plain,T,j0.plain ae⟩
theorem j0.plain:∀ {l:List aX}{xs:List (ar)},j0 B h l xs→kY h l xs
 | [],_,af=>af
 | _::_,_,⟨x,fJ,A,S,ae⟩=>⟨x,fJ,A,gR.plain S,j0.plain ae⟩
end
mutual
theorem lJ.plain:∀ {e:aP}{x:ar},lJ B h e x→lI h e x
 | .mk _ _ _ _ _ _ _,_,⟨v,xs,u,c4,w,zs,A,S,ae,aB,aG⟩=>⟨v,xs,u,c4,w,zs,A,⟨S.1.plain,S.2.1,j0.plain S.2.2⟩,⟨ae.1.plain,ae.2.1,j1.plain ae.2.2⟩,aB.plain,aG.1,j1.plain aG.2⟩
theorem j1.plain:∀ {l:List aP}{xs:List (ar)},j1 B h l xs→kZ h l xs
 | [],_,af=>af
 | _::_,_,⟨x,fJ,A,S,ae⟩=>⟨x,fJ,A,lJ.plain S,j1.plain ae⟩
end
theorem en.plain {v:Value}{l:List aX}(ad:en B h v l):iv h v l:=let ⟨xs,a,c,b⟩:=ad;⟨xs,a.plain,c,b.plain⟩
theorem dN.plain {v:Value}{l:List aP}(ad:dN B h v l):hO h v l:=let ⟨xs,a,c,b⟩:=ad;⟨xs,a.plain,c,b.plain⟩
theorem en.nil:en B h bx []:=⟨[],.inl ⟨rfl,rfl⟩,by simp,rfl⟩
theorem dN.nil:dN B h bx []:=⟨[],.inl ⟨rfl,rfl⟩,by simp,rfl⟩
theorem gR.of {k o n:Int}{m:aD}{v:Value}{l:List aX}(ad:en B h v l):gR B h (.mk k o n m l) [I k,I o,I n,str m,v]:=let ⟨xs,a,b⟩:=ad;⟨v,xs,rfl,a,b⟩
theorem lJ.of {k n:Int}{m f:aD}{v u w:Value}{l:List aX}{a b:List aP}(ad:en B h v l) (hu:dN B h u a) (ax:dN B h w b):lJ B h (.mk k m f n l a b) [I k,str m,str f,I n,v,u,w] :=
 let ⟨xs,dP,dJ⟩:=ad;let ⟨c4,a2,kB⟩:=hu;let ⟨zs,a3,qt⟩:=ax;⟨v,xs,u,c4,w,zs,rfl,⟨dP,dJ⟩,⟨a2,kB⟩,a3,qt⟩
theorem en.new {l:List aX}{xs:List (ar)}(af:j0 B h l xs){B' : Nat→Prop}(cM:∀ id,B id→id < h.next→B' id) (hn:B' h.next) (T:xs.length≤140737488355328) (aG:∀ x ∈ xs,x.length=5){cells:ar}(aj:cells=xs.flatten){n:Nat}(ag:n=xs.length) :
  en B' (h.alloc (.aq cells true)) (.slice (some ⟨h.next,0,none⟩) n 5) l:=by
 subst ag;subst aj;refine ⟨xs,.inr ⟨h.next,0,rfl,.inr ⟨hn,_,_,J.hy _ _,fun i x au=>?_⟩⟩,T,af.to fun id cells own pY aA=>⟨cM id pY (J.bY aA),?_⟩⟩
 ·obtain ⟨A,S⟩:=CX aG i x au;exact ⟨aG x (List.mem_of_getElem? au),by omega,by simpa using S⟩
 ·rw [J.oH (J.bY aA)];exact aA
end
theorem aon (c n:Int) (hn:n≠0) (h:J) (Q:aT) (L:Q (I (pick c n)) h):bj Tryz.prog 82 [I c,I n] h Q:=by
 refine c7 (k:=2) anA rfl rfl rfl fun N=>?_;rw [eJ Qq iL rfl];delta Qq;replace L:=U L;have eq:c < 0→Q (I ((IntKind.i64.wrap (0 - IntKind.i64.wrap (c + 1))).tmod n)) h:=fun aj=>by have:=L.h;rwa [pick,if_pos aj] at this
 have cN:¬ c < 0→Q (I (c.tmod n)) h:=fun aj=>by have:=L.h;rwa [pick,if_neg aj] at this
 replace eq:=Hid.mk eq;replace cN:=Hid.mk cN;repeat' (first | simp only [aa,av,ay, *] | with_reducible (first | refine aap ?_ ?_ | refine aaw ?_ ?_ | refine aaq ?_ ?_ | refine aax ?_ ?_)<;>intro aj)
 ·exact eq.h (by assumption)
 ·exact cN.h (by assumption)
def bf (s:List Int) (n:Nat):Nat × List Int:=match s with
 | []=>(0,[])
 | z::r=>(zV z n,r)
theorem nq {s:List Int}(ak:∀ z ∈ s,nO z){n:Nat}(hn:0 < n):(bf s n).1 < n:=by
 cases s with
 | nil=>exact hn
 | cons z r=>exact (Uy (ak z (by simp)) hn).1
def Src (h:J) (p:Nat) (br:List Int):Prop:=∃ v,h.get p=some (.aq [v] true)∧dH (· < p) h 1 v (br.map fun z=>[I z])∧(∀ z ∈ br,nO z)∧br.length≤1000
theorem Src.in {h:J}{p:Nat}{br:List Int}(ak:Src h p br):∀ z ∈ br,nO z:=ak.elim fun _ a=>a.2.2.1
theorem Src.le {h D : J}{p:Nat}{br:List Int}(ag:h.le D) (ak:Src h p br):Src D p br:=by
 obtain ⟨v,A,S,ae⟩:=ak;exact ⟨v,ag.get A,S.to (ag.cg fun _ h=>h),ae⟩
theorem Src.set {h:J}{p q:Nat}{br:List Int}(ak:Src h p br) (L:p < q) (o:bQ):Src (h.set q o) p br:=by
 obtain ⟨v,A,S,ae⟩:=ak;refine ⟨v,by rw [J.dT _ _ _ _ (by simp;omega)];exact A,S.to (fun id cs own T aA=>⟨T,?_⟩),ae⟩;have aB:id < p:=T;rw [J.dT _ _ _ _ (by simp;omega)];exact aA
theorem Src.lt {h:J}{p:Nat}{br:List Int}(ak:Src h p br):p < h.next:=ak.elim fun _ a=>J.bY a.1
theorem jr {h:J}{p:Nat}{br:List Int}(ak:Src h p br){n:Nat}(hn:0 < n) (k8:n≤1000000000000) (Q:aT)
  (L:∀ D,h.b2 p D → Hid (D.next=h.next)→Src D p (bf br n).2→Q (I (bf br n).1) D):bj Tryz.prog 33 [aH p 0,I (n:Int)] h Q:=by
 obtain ⟨v,aA,ad,lp,aR⟩:=ak;refine c7 (k:=2) amO rfl rfl rfl fun N=>?_;rw [eJ Pv mY rfl];delta Pv;replace L:=U L;have ag:=nc.len ad.plain;cases br with
 | nil =>
  have g:=L.h h (.refl _ _) ⟨rfl⟩ ⟨v,aA,ad,lp,aR⟩;have z0:(([]:List Int).length:Int)=0:=rfl;have eI:bf [] n=(0,[]):=rfl;rw [eI] at g;have az:((0:Nat):Int)=0:=rfl;simp only [az] at g;replace g:=Hid.mk g;clear L ad;simp only [aa,aw,av,ay, *];exact g.h
 | cons z r =>
  have bk:(((z::r).length:Int) == 0)=false:=by simp;omega
  obtain ⟨id,off,cells,own,az,aL,bq⟩:=nc.elem ad.plain (i:=0) (z:=z) rfl;rw [Int.ofNat_zero] at az;obtain ⟨mJ,la⟩:=Uy (lp z (by simp)) hn;have s0:∃ w,rR 1 true false [v,I 1]=some w∧dH (· < p) h 1 w (r.map fun z=>[Value.int .i64 z])∧w.cells.toList=[w]∧w.oneCell' = true:=by
   rcases ad with ⟨_,af⟩ | ⟨id,off,rfl,af⟩
   ·simp at af
   ·refine ⟨.slice (some ⟨id,off + 1 * 1,none⟩) r.length 1,by simp [rR,oD];omega,.inr ⟨id,off + 1,by simp,?_⟩,rfl,rfl⟩;rcases af with af | ⟨T,cells,own,aA,af⟩
    ·simp at af
    ·refine .inr ⟨T,cells,own,aA,fun i x au=>?_⟩;obtain ⟨a,b,c⟩:=af (i + 1) x (by simpa using au);exact ⟨a,by omega,by rw [← c];congr 2;omega⟩
  obtain ⟨w,sw,iE,Hd,ak9⟩:=s0;have bu:=iU (off:=0) aA (by simp) Hd ak9;have g:=L.h (h.set p (.aq ([v].set 0 w) true)) (J.b2.set p h _) ⟨rfl⟩ ⟨w,J.e7 _ _ _ (by rw [aA];rfl),iE.to (fun id cs o T lR=>⟨T,by rw [J.dT _ _ _ _ (by have A:id < p:=T;simp;omega)];exact lR⟩),fun y bw=>lp y (List.mem_cons_of_mem _ bw),by simp at aR;show r.length≤1000;omega⟩;have j4:bf (z::r) n=(zV z n,r):=rfl;rw [j4] at g;simp only [la] at g;replace g:=Hid.mk g;clear L ad iE la lp aR;simp only [aa,aw,av,ay, *];refine aon z n (by omega) _ _ ?_;simp only [aa,aw,bh, *];exact g.h
structure fk where
 c2:List (aD)
 cv:List (aD)
 free:Nat
 held:List (aD)
 any:Bool
abbrev iw (B:Nat→Prop) (h:J) (v:Value) (l:List (aD)):Prop:=dH B h 1 v (l.map fun s=>[str s])
theorem iw.plain {B:Nat→Prop}{h:J}{v:Value}{l:List (aD)}(ad:iw B h v l):ng h v l:=dH.plain ad
theorem iw.one {B:Nat→Prop}{h:J}{v:Value}{l:List (aD)}(ad:iw B h v l):v.oneCell' = true:=cT.one (dH.plain ad)
theorem B9 {B:Nat→Prop}(h:J) (l:List (aD)) (cM:B h.next){n:Nat}{cells:ar}(hn:n=l.length) (aj:cells=l.map str):iw B (h.alloc (.aq cells true)) (.slice (some ⟨h.next,0,none⟩) n 1) l:=by
 rcases vZ h l hn aj with ⟨e,_⟩ | ⟨id,off,e,ai⟩
 ·cases e
 ·have:id=h.next∧off=0:=by
   injection e with az aL bq
   injection az with az
   injection az with az aL bq
   exact ⟨az.symm,aL.symm⟩
  obtain ⟨rfl,rfl⟩:=this;exact .inr ⟨_,_,e,ai.imp (fun e=>e) fun a=>⟨cM,a⟩⟩
def o6 (p:Nat) (h:J) (c:fk) (x:ar):Prop :=
 ∃ cc cw ad,x=[cc,cw,I (c.free:Int),ad,.bool c.any]∧iw (· ≠ p) h cc c.c2∧iw (· ≠ p) h cw c.cv∧iw (· ≠ p) h ad c.held∧c.c2.length≤100∧c.cv.length≤100∧c.held.length≤100∧c.free≤100
theorem o6.to {p:Nat}{h D : J}(ab:J.cg (· ≠ p) (· ≠ p) h D){c:fk}{x:ar}(aj:o6 p h c x):o6 p D c x:=by
 obtain ⟨cc,cw,ad,a,b,d,e,f⟩:=aj;exact ⟨cc,cw,ad,a,dH.to ab b,dH.to ab d,dH.to ab e,f⟩
theorem o6.le {p:Nat}{h D : J}(ag:h.le D){c:fk}{x:ar}(aj:o6 p h c x):o6 p D c x:=aj.to (ag.cg fun _ h=>h)
theorem o6.eA {p:Nat}{h D : J}(ag:h.b2 p D){c:fk}{x:ar}(aj:o6 p h c x):o6 p D c x:=aj.to (ag.cg fun _ h=>⟨h,h⟩)
abbrev En (cc cw:Value) (f:Int) (ad:Value) (a:Bool):Value:=.agg #[cc,cw,I f,ad,.bool a]
theorem I4 {cc cw ad:Value}{f:Int}{a:Bool}(A:cc.oneCell' = true) (S:cw.oneCell' = true) (ae:ad.oneCell' = true):nB [En cc cw f ad a]=some ([cc,cw,I f,ad,.bool a],fun id=>(aH id 0)):=by
 simpa [nB,Value.cells,Value.oneCell'] using ⟨A,S,ae⟩
def eZ (any:Bool) (s:List Int) (l:List (aD)):aD × List Int :=
 if any || l.length == 0 then (Il (bf s 300).1,(bf s 300).2) else (l.getD (bf s l.length).1 [],(bf s l.length).2)
theorem J.b2.of_le {p:Nat}{a b c:J}(A:a.le b) (S:b.b2 p c):a.b2 p c:=(A.eA p).trans S
theorem uy {h:J}{p:Nat}{br:List Int}(ak:Src h p br){cc cw ad:Value}{f:Int}{any:Bool}(cG:cc.oneCell' = true) (cP:cw.oneCell' = true) (gm:ad.oneCell' = true){v:Value}{l:List (aD)}(fV : iw (· ≠ p) h v l) (aR:l.length≤1000) (Q:aT)
  (L:∀ D,h.b2 p D → Src D p (eZ any br l).2→Q (str (eZ any br l).1) D):bj Tryz.prog 63 [En cc cw f ad any,aH p 0,v] h Q:=by
 have dJ:=I4 (f:=f) (a:=any) cG cP gm;have hpl:=ak.lt;obtain ⟨q,A,mg,gO,dY,bt⟩:=b9 h [cc,cw,I f,ad,.bool any];have jl:=ak.le bt;have fr:iw (· ≠ p) A v l:=dH.to (bt.cg fun _ h=>h) fV;have iQ:=fV.plain.len;have ls:p≠q:=by omega
 clear ak fV;replace jl:=U jl;replace fr:=U fr;replace bt:=U bt;refine c7 (k:=4) ang rfl rfl rfl fun N=>?_;rw [s3 P0 mY rfl];delta P0;replace L:=U L;have at2:(300:Int)=((300:Nat):Int):=rfl;by_cases aj:any=true∨l.length=0
 ·have e:eZ any br l=(Il (bf br 300).1,(bf br 300).2):=by
   unfold eZ;rw [if_pos];simpa using aj
  rw [e] at L;have aV:=nq jl.h.in (n:=300) (by omega);replace aV:=U aV;cases any with
  | true =>
   simp only [aa,aw, *];refine jr jl.h (by omega) (by omega) _ fun S l2 _ e5=>?_;have aE:=J.b2.of_le bt.h l2;replace l2:=U l2;replace e5:=U e5;replace aE:=U aE;simp only [aa, *];refine aej (by have:=aV.h;unfold nO;omega) _ _ fun ae aO=>?_;have g:=L.h ae (aE.h.trans (aO.eA p)) (e5.h.le aO);replace g:=Hid.mk g;clear aO;simp only [aa, *];exact g.h
  | false =>
   have vl:l.length=0:=by simpa using aj
   rw [vl] at iQ;have z0:((0:Nat):Int)=0:=rfl;replace aj:=Hid.mk aj;replace vl:=Hid.mk vl;simp only [aa,aw,av,ay, *];refine jr jl.h (by omega) (by omega) _ fun S l2 _ e5=>?_;have aE:=J.b2.of_le bt.h l2;replace l2:=U l2;replace e5:=U e5;replace aE:=U aE;simp only [aa, *];refine aej (by have:=aV.h;unfold nO;omega) _ _ fun ae aO=>?_;have g:=L.h ae (aE.h.trans (aO.eA p)) (e5.h.le aO);replace g:=Hid.mk g;clear aO;simp only [aa, *];exact g.h
 ·obtain ⟨k4,eN⟩:any=false∧0 < l.length:=by
   constructor
   ·cases any with
    | true=>exact absurd (.inl rfl) aj
    | false=>rfl
   ·omega
  subst k4;have e:eZ false br l=(l.getD (bf br l.length).1 [],(bf br l.length).2):=by
   unfold eZ;rw [if_neg];simp;intro e;rw [e] at eN;simp at eN
  rw [e] at L;have l9:((l.length:Int) == 0)=false:=by simp;intro e;rw [e] at eN;simp at eN
  have aV:=nq jl.h.in (n:=l.length) eN;have y8:=getD_some aV [];replace aj:=Hid.mk aj;replace aV:=U aV;replace y8:=U y8;replace eN:=U eN;simp only [aa,aw,av,ay, *];refine jr jl.h eN.h (by omega) _ fun S l2 _ e5=>?_;obtain ⟨id,off,cells,own,az,aL,bq,_⟩:=(iw.plain (dH.to (l2.cg fun _ h=>⟨h,h⟩) fr.h)).elem y8.h;have aE:=J.b2.of_le bt.h l2;have g:=L.h S aE e5;replace g:=Hid.mk g;clear l2 aE e5;simp only [aa,aw, *];exact g.h
end Go.Eng.Sy
namespace Go.Eng
open Go
theorem J.b2.bP {p i:Nat}{h D : J}(ag:h.b2 p D) (au:i≠p){o:bQ}(aA:h.get i=some o):D.get i=some o:=by
 rw [ag.get i au (by rw [aA];rfl)];exact aA
theorem J.b2.mo {p:Nat}{a b c:J}(A:a.b2 p b) (S:b.le c):a.b2 p c:=A.trans (S.eA p)
theorem J.b2.oW {p q:Nat}{a b:J}(A:a.b2 p b) (L:a.next≤q) (o:bQ):a.b2 p (b.set q o) :=
 ⟨fun j bn ak=>by
  obtain ⟨x,af⟩:=Option.isSome_iff_exists.1 ak;have:=J.bY af;rw [J.dT _ _ _ _ (by simp;omega)];exact A.get j bn ak,A.next⟩
theorem J.jd {B B' : Nat→Prop}{h:J}(cM:∀ id,B id→B' id):J.cg B B' h h:=fun id _ _ T aA=>⟨cM id T,aA⟩
theorem J.lf {B B' : Nat→Prop}{h:J}{q:Nat}(o:bQ) (cM:∀ id,B id→id≠q∧B' id):J.cg B B' h (h.set q o):=fun id cs own T aA=>⟨(cM id T).2,by
 rw [J.dT _ _ _ _ (by simpa using (cM id T).1)];exact aA⟩
end Go.Eng
namespace Go.Eng.Sy
open Go Go.Eng Go.Proofs
def xx (s:List Int):aX × List Int :=
 (.mk 1 0 (([(bf s 10).1,(bf (bf s 10).2 300).1,(bf (bf (bf s 10).2 300).2 4294967296).1].getD (bf (bf (bf (bf s 10).2 300).2 4294967296).2 3).1 0:Nat):Int) [] [],(bf (bf (bf (bf s 10).2 300).2 4294967296).2 3).2)
def qm:List (aD):=[[120],[121],[122]]
def eG (c:fk):Nat→List Int→aX × List Int
 | 0,s=>xx (bf s 8).2
 | d + 1,s =>
  let k:=(bf s 8).1;let bT:=(bf s 8).2
  if k < 2 then xx bT
  else if k < 4 then (.mk 2 0 0 (eZ c.any bT qm).1 [],(eZ c.any bT qm).2)
  else if k=4 then (.mk 3 (15 + ((bf bT 3).1:Nat)) 0 [] [(eG c d (bf bT 3).2).1],(eG c d (bf bT 3).2).2)
  else if k=5∧(c.any=true∨c.held≠[]) then (.mk 5 0 0 (eZ c.any bT c.held).1 [(eG c d (eZ c.any bT c.held).2).1],(eG c d (eZ c.any bT c.held).2).2)
  else (.mk 4 (1 + ((bf bT 14).1:Nat)) 0 [] [(eG c d (bf bT 14).2).1,(eG c d (eG c d (bf bT 14).2).2).1],(eG c d (eG c d (bf bT 14).2).2).2)
def Nc (c:fk) (d:Nat):Prop:=∀ (br:List Int) (h:J) (p:Nat) (x:ar) (Q:aT),Src h p br→o6 p h c x →
 (∀ D y,h.b2 p D → Src D p (eG c d br).2→gR (fun id=>h.next≤id) D (eG c d br).1 y→Q (.agg y.toArray) D)→bj Tryz.prog 25 [.agg x.toArray,aH p 0,I (d:Int)] h Q
theorem WX (a b c:Int):ie [I 0,I 0,I 0] [(0,1),(1,1),(2,1)] 3 1 [I a,I b,I c]=some ([I a,I b,I c],fun id=>.slice (some ⟨id,0,none⟩) 3 1):=rq rfl rfl rfl (by simp [Value.cells,Value.oneCell'])
theorem Tg (h:J) (l:List Int){n:Nat}{cells:ar}(hn:n=l.length) (aj:cells=l.map (.int .i64)):nc (h.alloc (.aq cells true)) (.slice (some ⟨h.next,0,none⟩) n 1) l:=by
 subst hn;subst aj;refine .inr ⟨h.next,0,by simp,.inr ⟨_,_,J.hy _ _,fun j x bn=>?_⟩⟩;have af:∀ x ∈ (l.map fun s=>[Value.int .i64 s]),x.length=1:=by simp
 obtain ⟨A,S⟩:=CX af j x bn;have aZ:(l.map fun s=>[Value.int .i64 s]).flatten=l.map (.int .i64):=by
  clear A S af bn;induction l with
  | nil=>rfl
  | cons a l ih=>simp [ih]
 rw [aZ] at A S;exact ⟨af x (List.mem_of_getElem? bn),by simpa using A,by simpa using S⟩
theorem NI (n:Int):gQ [I 0,I 0,I 0,aI,bx] [(0,1),(2,1)] [I 1,I n]=some (ko 1 0 n [] bx):=rfl
theorem W3 (m:aD):gQ [I 0,I 0,I 0,aI,bx] [(0,1),(3,1)] [I 2,str m]=some (ko 2 0 0 m bx):=rfl
theorem EZ (k o:Int){i n:Nat}:gQ [I 0,I 0,I 0,aI,bx] [(0,1),(1,1),(4,1)] [I k,I o,.slice (some ⟨i,0,none⟩) n 5]=some (ko k o 0 [] (.slice (some ⟨i,0,none⟩) n 5)):=rfl
theorem W1 (m:aD){i n:Nat}:gQ [I 0,I 0,I 0,aI,bx] [(0,1),(3,1),(4,1)] [I 5,str m,.slice (some ⟨i,0,none⟩) n 5]=some (ko 5 0 0 m (.slice (some ⟨i,0,none⟩) n 5)):=rfl
theorem gR.cells {B:Nat→Prop}{h:J}{e:aX}{x:ar}(af:gR B h e x):∃ v,x=[I e.kind,I e.op,I e.n,str e.name,v]∧en B h v e.args:=by
 cases e;obtain ⟨v,xs,A,S,ae⟩:=af;exact ⟨v,A,xs,S,ae⟩
theorem en.one {B:Nat→Prop}{h:J}{v:Value}{l:List aX}(ad:en B h v l):v.oneCell' = true:=ad.plain.one
theorem EY {x y:ar}(af:x.length=5∧x.all (·.oneCell')=true) (bw:y.length=5∧y.all (·.oneCell')=true):ie [I 0,I 0,I 0,aI,bx,I 0,I 0,I 0,aI,bx] [(0,5),(5,5)] 2 5 [.agg x.toArray,.agg y.toArray]=some (x++y,fun id=>.slice (some ⟨id,0,none⟩) 2 5):=by
 have az:x.all (·.oneCell')=true:=af.2;have aL:y.all (·.oneCell')=true:=bw.2;have l1:=af.1;have l2:=bw.1;simp [ie,pe,Value.cells,l1,l2,az,aL]
theorem pO {x:ar}(af:x.length=5∧x.all (·.oneCell')=true):ie [I 0,I 0,I 0,aI,bx] [(0,5)] 1 5 [.agg x.toArray]=some (x,fun id=>.slice (some ⟨id,0,none⟩) 1 5):=uT rfl af.1 rfl af.2
theorem gR.ea {B:Nat→Prop}{h:J}{e:aX}{x:ar}(af:gR B h e x):x.length=5∧x.all (·.oneCell')=true:=by
 obtain ⟨v,rfl,ad⟩:=af.cells;exact ⟨rfl,by simpa [Value.oneCell'] using ad.one⟩
theorem Yt {c:fk}{d:Nat}(aC:d≤100) (ih:∀ bW,d=bW + 1→Nc c bW):Nc c d:=by
 intro br h p x Q ak aj L;have pZ:=aj;obtain ⟨cc,cw,ad,rfl,bT,b4,eg,_,_,sm,_⟩:=aj;have dJ:=I4 (f:=(c.free:Int)) (a:=c.any) bT.one b4.one eg.one;have cG:=bT.one;have cP:=b4.one;have gm:=eg.one;obtain ⟨cd,A,tO,gO,iA,bt⟩:=b9 h [cc,cw,I (c.free:Int),ad,.bool c.any];obtain ⟨cS,S,u4,jz,eE,dh⟩:=b9 A [I 0,I 0,I 0,aI,bx];have hpl:=ak.lt;have zg:h.next≤cd:=by omega
 have Sl:=bt.next;have GR:=J.bY iA;have nM:h.next≤cS:=by omega
 have eq:cd≠p:=by omega
 have cN:cS≠p:=by omega
 have Dv:p < cS:=by omega
 have wT:=dh.get iA;have l2:=bt.trans dh;have e5:=ak.le l2;have eN:=pZ.le l2;clear ak pZ bT b4 eg iA bt dh Sl;replace e5:=U e5;replace eN:=U eN;replace l2:=U l2;replace cG:=U cG;replace cP:=U cP;replace gm:=U gm;replace ih:=U ih;replace hpl:=U hpl;replace zg:=U zg;replace GR:=U GR;replace nM:=U nM;replace sm:=U sm;refine E5 (k:=4) (agg:=true) (size:=5) amH rfl rfl rfl fun N=>?_;rw [s3 Pk mZ rfl];delta Pk;replace L:=U L;simp only [aa, *];refine jr (n:=8) e5.h (by omega) (by omega) _ fun ae aE _ fC=>?_;have g1:=aE.bP (i:=cd) eq wT;have g2:=aE.bP (i:=cS) cN eE;have qM:=eN.h.eA aE;obtain ⟨k,ab⟩:∃ k,(bf br 8).1=k:=⟨_,rfl⟩;obtain ⟨bT,jl⟩:∃ k,(bf br 8).2=k:=⟨_,rfl⟩;rw [jl] at fC;rw [ab];have sD:=Hid.mk aE;clear aE;have aE:=J.b2.refl p ae;clear wT eE e5 eN dJ;replace l2:=l2.h;replace l2:=U l2;replace fC:=U fC;replace aE:=U aE;replace qM:=U qM;have mJ:(cd == p)=false:=by simpa using eq
 have la:(cS == p)=false:=by simpa using cN
 by_cases SD:d=0∨k < 2
 ·have eI:eG c d br=xx bT:=by
   cases d with
   | zero=>show xx (bf br 8).2=_;rw [jl]
   | succ d =>
    have jH:k < 2:=by omega
    unfold eG;simp only [ab,jl];rw [if_pos jH]
  have Zs:=nq fC.h.in (n:=10) (by omega);clear qM g1;rcases Nat.eq_zero_or_pos d with k6 | k6
  ·subst k6;have bk:((0:Nat):Int) < 1:=by decide
   clear SD;simp only [aa,av,ay, *];refine jr (n:=10) fC.h (by omega) (by omega) _ fun aB aO _ eB=>?_;have aO:=aE.h.trans aO;replace eB:=U eB;replace aO:=U aO;simp only [aa, *];refine jr (n:=300) eB.h (by omega) (by omega) _ fun aG bc _ ds=>?_;have bc:=aO.h.trans bc;replace ds:=U ds;replace bc:=U bc;simp only [aa, *];refine jr (n:=4294967296) ds.h (by omega) (by omega) _ fun a1 aY _ cC=>?_;have aY:=bc.h.trans aY;obtain ⟨a,ai⟩:∃ a,(bf bT 10).1=a:=⟨_,rfl⟩;obtain ⟨b,T⟩:∃ b,(bf (bf bT 10).2 300).1=b:=⟨_,rfl⟩;obtain ⟨c,aj⟩:∃ c,(bf (bf (bf bT 10).2 300).2 4294967296).1=c:=⟨_,rfl⟩;obtain ⟨r,hr⟩:∃ r,(bf (bf (bf bT 10).2 300).2 4294967296).2=r:=⟨_,rfl⟩;have afU:=WX a b c;have bi:=Tg a1 [(a:Int),b,c] (n:=3) (cells:=[I a,I b,I c]) rfl rfl;have lW:xx bT=(.mk 1 0 (([a,b,c].getD (bf r 3).1 0:Nat):Int) [] [],(bf r 3).2):=by unfold xx;rw [ai,T,aj,hr]
   rw [hr] at cC;rw [ai,T,aj];rw [eI,lW] at L;have aV:=nq cC.in (n:=3) (by omega);obtain ⟨B2,bN,Rb,mc,aid,gf⟩:=b9 a1 [I (a:Int),I b,I c];rw [mc,Rb] at bi;have di:=cC.le gf;have bE:=aY.mo gf;have SI:B2≠p:=by have:=cC.lt;omega
   clear ai T aj hr lW cC aY eB ds aO bc;replace di:=U di;replace bE:=U bE;replace bi:=U bi;replace aV:=U aV;replace gf:=U gf;simp only [aa, *];refine jr (n:=3) di.h (by omega) (by omega) _ fun b7 cq _ hW=>?_;obtain ⟨i,au⟩:∃ i,(bf r 3).1=i:=⟨_,rfl⟩;rw [au] at aV L;rw [au];have j6:=getD_some (l:=[a,b,c]) (i:=i) aV.h 0;have FE:[(a:Int),b,c][i]? = some (([a,b,c].getD i 0:Nat):Int):=by
    have:[(a:Int),b,c]=[a,b,c].map (fun n:Nat=>(n:Int)):=rfl;rw [this,List.getElem?_map,j6];rfl
   have FO:nc b7 (.slice (some ⟨B2,0,none⟩) 3 1) [(a:Int),b,c]:=by
    rcases bi.h with ⟨e,_⟩ | ⟨id,off,e,af⟩
    ·cases e
    ·have:id=B2:=by
      injection e with az aL bq
      injection az with az
      injection az with az aL bq
      exact az.symm
     subst this;refine .inr ⟨_,_,e,af.imp (fun e=>e) fun ⟨cs,o,aA,bw⟩=>⟨cs,o,cq.bP SI aA,bw⟩⟩
   obtain ⟨id,off,cells,own,az,aL,bq⟩:=nc.elem FO FE;have cq:=bE.h.trans cq;have g8:=cq.bP (i:=cS) cN g2;have aiN:=NI ([a,b,c].getD i 0:Nat);have dS:=nZ (size:=5) (v:=ko 1 0 (([a,b,c].getD i 0:Nat):Int) [] bx) (cs:=[I 1,I 0,I (([a,b,c].getD i 0:Nat):Int),str [],bx]) g8 rfl rfl rfl rfl;have g:=L.h (b7.set cS (.aq [I 1,I 0,I (([a,b,c].getD i 0:Nat):Int),str [],bx] true)) [I 1,I 0,I (([a,b,c].getD i 0:Nat):Int),str [],bx]
    ((J.b2.of_le l2.h (sD.h.trans cq)).oW nM.h _) (hW.set Dv _) (gR.of en.nil)
   have vb:=J.e7 b7 (.aq [I 1,I 0,I (([a,b,c].getD i 0:Nat):Int),str [],bx] true) cS (by rw [g8];rfl);replace g:=Hid.mk g;clear L FO cq hW bi j6 FE au;simp only [aa,aw,bh,dt, *];exact g.h
  ·have jH:k < 2:=by omega
   have bk:¬ (d:Int) < 1:=by omega
   have bJ:(k:Int) < 2:=by omega
   clear SD;simp only [aa,av,ay, *];refine jr (n:=10) fC.h (by omega) (by omega) _ fun aB aO _ eB=>?_;have aO:=aE.h.trans aO;replace eB:=U eB;replace aO:=U aO;simp only [aa, *];refine jr (n:=300) eB.h (by omega) (by omega) _ fun aG bc _ ds=>?_;have bc:=aO.h.trans bc;replace ds:=U ds;replace bc:=U bc;simp only [aa, *];refine jr (n:=4294967296) ds.h (by omega) (by omega) _ fun a1 aY _ cC=>?_;have aY:=bc.h.trans aY;obtain ⟨a,ai⟩:∃ a,(bf bT 10).1=a:=⟨_,rfl⟩;obtain ⟨b,T⟩:∃ b,(bf (bf bT 10).2 300).1=b:=⟨_,rfl⟩;obtain ⟨c,aj⟩:∃ c,(bf (bf (bf bT 10).2 300).2 4294967296).1=c:=⟨_,rfl⟩;obtain ⟨r,hr⟩:∃ r,(bf (bf (bf bT 10).2 300).2 4294967296).2=r:=⟨_,rfl⟩;have afU:=WX a b c;have bi:=Tg a1 [(a:Int),b,c] (n:=3) (cells:=[I a,I b,I c]) rfl rfl;have lW:xx bT=(.mk 1 0 (([a,b,c].getD (bf r 3).1 0:Nat):Int) [] [],(bf r 3).2):=by unfold xx;rw [ai,T,aj,hr]
   rw [hr] at cC;rw [ai,T,aj];rw [eI,lW] at L;have aV:=nq cC.in (n:=3) (by omega);obtain ⟨B2,bN,Rb,mc,aid,gf⟩:=b9 a1 [I (a:Int),I b,I c];rw [mc,Rb] at bi;have di:=cC.le gf;have bE:=aY.mo gf;have SI:B2≠p:=by have:=cC.lt;omega
   clear ai T aj hr lW cC aY eB ds aO bc;replace di:=U di;replace bE:=U bE;replace bi:=U bi;replace aV:=U aV;replace gf:=U gf;simp only [aa, *];refine jr (n:=3) di.h (by omega) (by omega) _ fun b7 cq _ hW=>?_;obtain ⟨i,au⟩:∃ i,(bf r 3).1=i:=⟨_,rfl⟩;rw [au] at aV L;rw [au];have j6:=getD_some (l:=[a,b,c]) (i:=i) aV.h 0;have FE:[(a:Int),b,c][i]? = some (([a,b,c].getD i 0:Nat):Int):=by
    have:[(a:Int),b,c]=[a,b,c].map (fun n:Nat=>(n:Int)):=rfl;rw [this,List.getElem?_map,j6];rfl
   have FO:nc b7 (.slice (some ⟨B2,0,none⟩) 3 1) [(a:Int),b,c]:=by
    rcases bi.h with ⟨e,_⟩ | ⟨id,off,e,af⟩
    ·cases e
    ·have:id=B2:=by
      injection e with az aL bq
      injection az with az
      injection az with az aL bq
      exact az.symm
     subst this;refine .inr ⟨_,_,e,af.imp (fun e=>e) fun ⟨cs,o,aA,bw⟩=>⟨cs,o,cq.bP SI aA,bw⟩⟩
   obtain ⟨id,off,cells,own,az,aL,bq⟩:=nc.elem FO FE;have cq:=bE.h.trans cq;have g8:=cq.bP (i:=cS) cN g2;have aiN:=NI ([a,b,c].getD i 0:Nat);have dS:=nZ (size:=5) (v:=ko 1 0 (([a,b,c].getD i 0:Nat):Int) [] bx) (cs:=[I 1,I 0,I (([a,b,c].getD i 0:Nat):Int),str [],bx]) g8 rfl rfl rfl rfl;have g:=L.h (b7.set cS (.aq [I 1,I 0,I (([a,b,c].getD i 0:Nat):Int),str [],bx] true)) [I 1,I 0,I (([a,b,c].getD i 0:Nat):Int),str [],bx]
    ((J.b2.of_le l2.h (sD.h.trans cq)).oW nM.h _) (hW.set Dv _) (gR.of en.nil)
   have vb:=J.e7 b7 (.aq [I 1,I 0,I (([a,b,c].getD i 0:Nat):Int),str [],bx] true) cS (by rw [g8];rfl);replace g:=Hid.mk g;clear L FO cq hW bi j6 FE au;simp only [aa,aw,bh,dt, *];exact g.h
 ·obtain ⟨k6,jH⟩:0 < d ∧ ¬ k < 2:=by omega
  obtain ⟨bW,rfl⟩:∃ bW,d=bW + 1:=⟨d - 1,by omega⟩;have bk:¬ ((bW + 1:Nat):Int) < 1:=by omega
  have bJ:¬ (k:Int) < 2:=by omega
  have hI:=ih.h bW rfl;clear ih SD;have cF:eG c (bW + 1) br=if k < 4 then (.mk 2 0 0 (eZ c.any bT qm).1 [],(eZ c.any bT qm).2)
   else if k=4 then (.mk 3 (15 + ((bf bT 3).1:Nat)) 0 [] [(eG c bW (bf bT 3).2).1],(eG c bW (bf bT 3).2).2)
   else if k=5∧(c.any=true∨c.held≠[]) then (.mk 5 0 0 (eZ c.any bT c.held).1 [(eG c bW (eZ c.any bT c.held).2).1],(eG c bW (eZ c.any bT c.held).2).2)
   else (.mk 4 (1 + ((bf bT 14).1:Nat)) 0 [] [(eG c bW (bf bT 14).2).1,(eG c bW (eG c bW (bf bT 14).2).2).1],(eG c bW (eG c bW (bf bT 14).2).2).2):=by
   conv=>lhs;unfold eG
   simp only [ab,jl];rw [if_neg jH]
  have zl:IntKind.i64.wrap (((bW + 1:Nat):Int) - 1)=(bW : Int):=by rw [cZ (by omega) (by omega)];omega
  have fin:∀ (bH:J) (r:List Int) (o n:Int) (fE:Int) (m:aD) (v:Value) (l:List aX),ae.b2 p bH→Src bH p r→en (fun id=>h.next≤id∧id≠cS) bH v l→eG c (bW + 1) br=(.mk fE o n m l,r) →
    cz 5 bH [aH cS 0,ko fE o n m v]=some (b0,bH.set cS (.aq [I fE,I o,I n,str m,v] true)) ∧
    (bH.set cS (.aq [I fE,I o,I n,str m,v] true)).get cS=some (.aq [I fE,I o,I n,str m,v] true) ∧
    Q (ko fE o n m v) (bH.set cS (.aq [I fE,I o,I n,str m,v] true)):=by
   intro bH r o n fE m v l Gu SP G9 aK;have yQ:=Gu.bP cN g2;refine ⟨nZ yQ rfl rfl rfl (by simpa [Value.oneCell'] using G9.one),J.e7 _ _ _ (by rw [yQ];rfl),?_⟩;rw [aK] at L;exact L.h _ _ ((J.b2.of_le l2.h (sD.h.trans Gu)).oW nM.h _) (SP.set Dv _) (gR.of (G9.to (J.lf _ fun id T=>⟨T.2,T.1⟩)))
  replace fin:=U fin;clear L;by_cases Gp:k < 4
  ·have cR:(k:Int) < 4:=by omega
   rw [if_pos Gp] at cF;have u:=ym [120] [121] [122];obtain ⟨Ec,aB,AD,nI,qH,eO⟩:=b9 ae [str [120],str [121],str [122]];have ib:iw (· ≠ p) aB (.slice (some ⟨Ec,0,none⟩) 3 1) qm:=by
    rw [← nI,← AD];exact B9 ae qm (by show ae.next≠p;have:=fC.h.lt;omega) rfl rfl
   have eB:=fC.h.le eO;replace ib:=U ib;replace eB:=U eB;replace eO:=U eO;simp only [aa,aw,av,ay,dt, *];refine uy eB.h cG.h cP.h gm.h ib.h (by decide) _ fun aG bc ds=>?_;have bc:=(eO.h.eA p).trans bc;obtain ⟨f1,f2,f3⟩:=fin.h aG _ 0 0 2 (eZ c.any bT qm).1 bx [] bc ds en.nil cF;have wr:=W3 (eZ c.any bT qm).1;replace f3:=Hid.mk f3;clear fin ds bc cF ib eB hI;simp only [aa,aw,bh,dt, *];exact f3.h
  rw [if_neg Gp] at cF;have cR:¬ (k:Int) < 4:=by omega
  by_cases za:k=4
  ·subst za;have fa:((4:Nat):Int)=4:=rfl;rw [if_pos rfl] at cF;replace hI:=U hI;replace cF:=U cF;clear Gp jH;have aV:=nq fC.h.in (n:=3) (by omega);simp only [aa,av,ay,Int.reduceLT, *];refine jr (n:=3) fC.h (by omega) (by omega) _ fun aB aO _ eB=>jt aO ?_;have g4:=aO.bP (i:=cd) eq g1;have lQ:=qM.h.eA aO;have gY:=aO.next;obtain ⟨o,ah⟩:∃ o,(bf bT 3).1=o:=⟨_,rfl⟩;rw [ah] at aV cF;rw [ah];have Z1:IntKind.i64.wrap (15 + (o:Int))=15 + (o:Int):=cZ (by omega) (by omega);have aO:=aE.h.trans aO;replace eB:=U eB;replace aO:=U aO;replace lQ:=U lQ;replace aV:=U aV;replace gY:=U gY;simp only [aa,aw,av,ay,dt, *];refine hI.h _ _ _ _ _ eB.h lQ.h fun aG y bc ds kP=>?_;have oQ:=aO.h.trans bc;have ik:aB.next≤aG.next:=bc.next;have u:=pO kP.ea;have c9:=en.new (B':=fun id=>h.next≤id∧id≠cS) (l:=[(eG c bW (bf bT 3).2).1]) (xs:=[y]) ⟨y,[],rfl,kP,rfl⟩ (fun id T _=>by have A:=gY.h;have S:=sD.h.next;have ae:=J.bY g2;have aB:aB.next≤id:=T;have aG:=nM.h;constructor<;>omega)
    (by have A:=gY.h;have S:=sD.h.next;have ae:=J.bY g2;have aG:=nM.h;constructor<;>omega) (by simp) (by simpa using kP.ea.1) (cells:=y) (by simp) (n:=1) rfl
   obtain ⟨Ed,a1,CK,iV,lO,gk⟩:=b9 aG y;rw [iV,CK] at c9;have cC:=ds.le gk;obtain ⟨f1,f2,f3⟩:=fin.h a1 _ (15 + (o:Int)) 0 3 [] _ _ (oQ.mo gk) cC c9 cF.h;have wr:=EZ 3 (15 + (o:Int)) (i:=Ed) (n:=1);replace f3:=Hid.mk f3;clear fin ds bc oQ cF cC c9 gk hI kP g4 lO;simp only [aa,aw,bh,av,ay,dt, *];exact f3.h
  rw [if_neg za] at cF;have fa:((k:Int) == 4)=false:=by simp;omega
  by_cases vk:k=5∧(c.any=true∨c.held≠[])
  ·obtain ⟨rfl,Di⟩:=vk;rw [if_pos ⟨rfl,Di⟩] at cF;have j2:((5:Nat):Int)=5:=rfl;obtain ⟨_,_,fV,af,t1,t2,t3,_⟩:=qM.h;have jm:fV = ad:=by injection af with _ af;injection af with _ af;injection af with _ af;injection af with af _;exact af.symm
   subst jm;have kf:=t3.plain.len;have ml:c.any=false→(0:Int) < (c.held.length:Int):=fun e=>by
    have:c.held≠[]:=Di.resolve_left (by simp [e]);have:=List.length_pos_iff.2 this;omega
   replace hI:=U hI;replace cF:=U cF;replace t3:=U t3;replace ml:=U ml;clear Gp jH za af t1 t2;have RV:∀ b:Bool,c.any=b→(b=true∨(b=false∧(0:Int) < (c.held.length:Int))):=fun b e=>by
    cases b with
    | true=>exact .inl rfl
    | false=>exact .inr ⟨rfl,ml.h e⟩
   clear ml Di;cases kI:c.any with
   | true =>
    clear RV;rw [kI] at cF;simp only [kI] at *;simp only [aa,aw,av,ay,Int.reduceBEq,Int.reduceLT,dt, *];refine uy fC.h cG.h cP.h gm.h t3.h (by have:=sm.h;omega) _ fun aB aO eB=>jt aO ?_;have g4:=aO.bP (i:=cd) eq g1;have lQ:=qM.h.eA aO;have gY:=aO.next;obtain ⟨nm,lT⟩:∃ nm,eZ true bT c.held=nm:=⟨_,rfl⟩;rw [lT] at eB cF;rw [lT];have aO:=aE.h.trans aO;replace eB:=U eB;replace aO:=U aO;replace lQ:=U lQ;replace gY:=U gY;simp only [aa,aw,av,ay,dt, *];refine hI.h _ _ _ _ _ eB.h lQ.h fun aG y bc ds kP=>?_;have oQ:=aO.h.trans bc;have ik:aB.next≤aG.next:=bc.next;have u:=pO kP.ea;have c9:=en.new (B':=fun id=>h.next≤id∧id≠cS) (l:=[(eG c bW nm.2).1]) (xs:=[y]) ⟨y,[],rfl,kP,rfl⟩ (fun id T _=>by have A:=gY.h;have S:=sD.h.next;have ae:=J.bY g2;have aB:aB.next≤id:=T;have aG:=nM.h;constructor<;>omega)
     (by have A:=gY.h;have S:=sD.h.next;have ae:=J.bY g2;have aG:=nM.h;constructor<;>omega) (by simp) (by simpa using kP.ea.1) (cells:=y) (by simp) (n:=1) rfl
    obtain ⟨Ed,a1,CK,iV,lO,gk⟩:=b9 aG y;rw [iV,CK] at c9;have cC:=ds.le gk;obtain ⟨f1,f2,f3⟩:=fin.h a1 _ 0 0 5 nm.1 _ _ (oQ.mo gk) cC c9 cF.h;have wr:=W1 nm.1 (i:=Ed) (n:=1);replace f3:=Hid.mk f3;clear fin ds bc oQ cF cC c9 gk hI kP g4 lO;simp only [aa,aw,bh,dt, *];exact f3.h
   | false =>
    have ml:=(RV _ kI).resolve_left (by simp);have ml:=ml.2;clear RV;rw [kI] at cF;simp only [kI] at *;simp only [aa,aw,av,ay,Int.reduceBEq,Int.reduceLT,dt, *];refine uy fC.h cG.h cP.h gm.h t3.h (by have:=sm.h;omega) _ fun aB aO eB=>jt aO ?_;have g4:=aO.bP (i:=cd) eq g1;have lQ:=qM.h.eA aO;have gY:=aO.next;obtain ⟨nm,lT⟩:∃ nm,eZ false bT c.held=nm:=⟨_,rfl⟩;rw [lT] at eB cF;rw [lT];have aO:=aE.h.trans aO;replace eB:=U eB;replace aO:=U aO;replace lQ:=U lQ;replace gY:=U gY;simp only [aa,aw,av,ay,dt, *];refine hI.h _ _ _ _ _ eB.h lQ.h fun aG y bc ds kP=>?_;have oQ:=aO.h.trans bc;have ik:aB.next≤aG.next:=bc.next;have u:=pO kP.ea;have c9:=en.new (B':=fun id=>h.next≤id∧id≠cS) (l:=[(eG c bW nm.2).1]) (xs:=[y]) ⟨y,[],rfl,kP,rfl⟩ (fun id T _=>by have A:=gY.h;have S:=sD.h.next;have ae:=J.bY g2;have aB:aB.next≤id:=T;have aG:=nM.h;constructor<;>omega)
     (by have A:=gY.h;have S:=sD.h.next;have ae:=J.bY g2;have aG:=nM.h;constructor<;>omega) (by simp) (by simpa using kP.ea.1) (cells:=y) (by simp) (n:=1) rfl
    obtain ⟨Ed,a1,CK,iV,lO,gk⟩:=b9 aG y;rw [iV,CK] at c9;have cC:=ds.le gk;obtain ⟨f1,f2,f3⟩:=fin.h a1 _ 0 0 5 nm.1 _ _ (oQ.mo gk) cC c9 cF.h;have wr:=W1 nm.1 (i:=Ed) (n:=1);replace f3:=Hid.mk f3;clear fin ds bc oQ cF cC c9 gk hI kP g4 lO;simp only [aa,aw,bh,dt, *];exact f3.h
  ·rw [if_neg vk] at cF;have aV:=nq fC.h.in (n:=14) (by omega);obtain ⟨_,_,fV,af,t1,t2,t3,_⟩:=qM.h;have jm:fV = ad:=by injection af with _ af;injection af with _ af;injection af with _ af;injection af with af _;exact af.symm
   subst jm;have kf:=t3.plain.len;clear af t1 t2 t3 Gp jH za;replace hI:=U hI;replace cF:=U cF;by_cases Di:k=5
   ·subst Di;obtain ⟨kI,cp⟩:c.any=false∧c.held=[]:=by
     refine ⟨?_,?_⟩
     ·cases ai:c.any with
      | true=>exact absurd ⟨rfl,.inl ai⟩ vk
      | false=>rfl
     ·cases cp:c.held with
      | nil=>rfl
      | cons a r=>exact absurd ⟨rfl,.inr (by simp [cp])⟩ vk
    rw [cp] at kf;have j2:((5:Nat):Int)=5:=rfl;have pb:(([]:List (aD)).length:Int)=0:=rfl;replace cp:=Hid.mk cp;clear vk;simp only [kI] at *;simp only [aa,aw,av,ay,Int.reduceBEq,Int.reduceLT, *];refine jr (n:=14) fC.h (by omega) (by omega) _ fun aB aO _ eB=>jt aO ?_;have g4:=aO.bP (i:=cd) eq g1;have lQ:=qM.h.eA aO;have gY:=aO.next;obtain ⟨o,ah⟩:∃ o,(bf bT 14).1=o:=⟨_,rfl⟩;rw [ah] at aV cF;rw [ah];have Z1:IntKind.i64.wrap (1 + (o:Int))=1 + (o:Int):=cZ (by omega) (by omega);have aO:=aE.h.trans aO;replace eB:=U eB;replace aO:=U aO;replace lQ:=U lQ;replace aV:=U aV;replace gY:=U gY;simp only [aa,aw,av,ay,dt, *];refine hI.h _ _ _ _ _ eB.h lQ.h fun aG y bc ds kP=>jt bc ?_;have g5:=bc.bP (i:=cd) eq g4;have mH:=lQ.h.eA bc;have oQ:=aO.h.trans bc;have jI:aB.next≤aG.next:=bc.next;have lV:=eB.h.lt;clear g4;replace ds:=U ds;replace oQ:=U oQ;replace mH:=U mH;replace jI:=U jI;replace kP:=U kP;replace lV:=U lV;simp only [aa,aw,av,ay,dt, *];refine hI.h _ _ _ _ _ ds.h mH.h fun a1 z aY cC Hh=>?_;have gd:gR (fun id=>aB.next≤id) a1 _ y:=kP.h.to (aY.cg fun id T=>⟨by have A:aB.next≤id:=T;have S:=lV.h;omega,T⟩);have xj : gR (fun id=>aB.next≤id) a1 _ z:=Hh.to (J.jd fun id T=>by have A:aG.next≤id:=T;have S:=jI.h;show aB.next≤id;omega);have Hq:=oQ.h.trans aY;have ik:aG.next≤a1.next:=aY.next;have u:=EY gd.ea xj.ea;have c9:=en.new (B':=fun id=>h.next≤id∧id≠cS) (l:=[(eG c bW (bf bT 14).2).1,(eG c bW (eG c bW (bf bT 14).2).2).1]) (xs:=[y,z]) ⟨y,[z],rfl,gd,z,[],rfl,xj,rfl⟩ (fun id T _=>by have A:=gY.h;have S:=sD.h.next;have ae:=J.bY g2;have aB:aB.next≤id:=T;have aG:=nM.h;constructor<;>omega)
     (by have A:=gY.h;have S:=sD.h.next;have ae:=J.bY g2;have aG:=nM.h;have a1:=jI.h;constructor<;>omega) (by simp) (by intro x af;simp at af;rcases af with rfl | rfl;exact gd.ea.1;exact xj.ea.1) (cells:=y++z) (by simp) (n:=2) rfl
    obtain ⟨UE,bN,Q9,mc,Rp,gf⟩:=b9 a1 (y++z);rw [mc,Q9] at c9;have di:=cC.le gf;obtain ⟨f1,f2,f3⟩:=fin.h bN _ (1 + (o:Int)) 0 4 [] _ _ (Hq.mo gf) di c9 cF.h;have wr:=EZ 4 (1 + (o:Int)) (i:=UE) (n:=2);replace f3:=Hid.mk f3;clear fin ds bc oQ aY Hq cF cC di c9 gf hI kP gd Hh xj g5 Rp;simp only [aa,aw,bh,av,ay,dt, *];exact f3.h
   ·have j2:((k:Int) == 5)=false:=by simp;omega
    clear vk Di;simp only [aa,av,ay, *];refine jr (n:=14) fC.h (by omega) (by omega) _ fun aB aO _ eB=>jt aO ?_;have g4:=aO.bP (i:=cd) eq g1;have lQ:=qM.h.eA aO;have gY:=aO.next;obtain ⟨o,ah⟩:∃ o,(bf bT 14).1=o:=⟨_,rfl⟩;rw [ah] at aV cF;rw [ah];have Z1:IntKind.i64.wrap (1 + (o:Int))=1 + (o:Int):=cZ (by omega) (by omega);have aO:=aE.h.trans aO;replace eB:=U eB;replace aO:=U aO;replace lQ:=U lQ;replace aV:=U aV;replace gY:=U gY;simp only [aa,aw,av,ay,dt, *];refine hI.h _ _ _ _ _ eB.h lQ.h fun aG y bc ds kP=>jt bc ?_;have g5:=bc.bP (i:=cd) eq g4;have mH:=lQ.h.eA bc;have oQ:=aO.h.trans bc;have jI:aB.next≤aG.next:=bc.next;have lV:=eB.h.lt;clear g4;replace ds:=U ds;replace oQ:=U oQ;replace mH:=U mH;replace jI:=U jI;replace kP:=U kP;replace lV:=U lV;simp only [aa,aw,av,ay,dt, *];refine hI.h _ _ _ _ _ ds.h mH.h fun a1 z aY cC Hh=>?_;have gd:gR (fun id=>aB.next≤id) a1 _ y:=kP.h.to (aY.cg fun id T=>⟨by have A:aB.next≤id:=T;have S:=lV.h;omega,T⟩);have xj : gR (fun id=>aB.next≤id) a1 _ z:=Hh.to (J.jd fun id T=>by have A:aG.next≤id:=T;have S:=jI.h;show aB.next≤id;omega);have Hq:=oQ.h.trans aY;have ik:aG.next≤a1.next:=aY.next;have u:=EY gd.ea xj.ea;have c9:=en.new (B':=fun id=>h.next≤id∧id≠cS) (l:=[(eG c bW (bf bT 14).2).1,(eG c bW (eG c bW (bf bT 14).2).2).1]) (xs:=[y,z]) ⟨y,[z],rfl,gd,z,[],rfl,xj,rfl⟩ (fun id T _=>by have A:=gY.h;have S:=sD.h.next;have ae:=J.bY g2;have aB:aB.next≤id:=T;have aG:=nM.h;constructor<;>omega)
     (by have A:=gY.h;have S:=sD.h.next;have ae:=J.bY g2;have aG:=nM.h;have a1:=jI.h;constructor<;>omega) (by simp) (by intro x af;simp at af;rcases af with rfl | rfl;exact gd.ea.1;exact xj.ea.1) (cells:=y++z) (by simp) (n:=2) rfl
    obtain ⟨UE,bN,Q9,mc,Rp,gf⟩:=b9 a1 (y++z);rw [mc,Q9] at c9;have di:=cC.le gf;obtain ⟨f1,f2,f3⟩:=fin.h bN _ (1 + (o:Int)) 0 4 [] _ _ (Hq.mo gf) di c9 cF.h;have wr:=EZ 4 (1 + (o:Int)) (i:=UE) (n:=2);replace f3:=Hid.mk f3;clear fin ds bc oQ aY Hq cF cC di c9 gf hI kP gd Hh xj g5 Rp;simp only [aa,aw,bh,av,ay,dt, *];exact f3.h
theorem ru (c:fk):∀ (d:Nat),d≤100→Nc c d
 | 0,aC=>Yt aC fun bW hB=>by omega
 | d + 1,aC=>Yt aC fun bW hB=>by cases hB;exact ru c d (by omega)
theorem lJ.cells {B:Nat→Prop}{h:J}{e:aP}{x:ar}(af:lJ B h e x):∃ v u w,x=[I e.kind,str e.name,str e.src,I e.n,v,u,w]∧en B h v e.args∧dN B h u e.aU∧dN B h w e.bz:=by
 cases e;obtain ⟨v,xs,u,c4,w,zs,A,S,ae,aB⟩:=af;exact ⟨v,u,w,A,⟨xs,S⟩,⟨c4,ae⟩,⟨zs,aB⟩⟩
theorem dN.one {B:Nat→Prop}{h:J}{v:Value}{l:List aP}(ad:dN B h v l):v.oneCell' = true:=ad.plain.one
theorem lJ.ea {B:Nat→Prop}{h:J}{e:aP}{x:ar}(af:lJ B h e x):x.length=7∧x.all (·.oneCell')=true:=by
 obtain ⟨v,u,w,rfl,ad,hu,ax⟩:=af.cells;exact ⟨rfl,by simpa [Value.oneCell'] using ⟨ad.one,hu.one,ax.one⟩⟩
theorem j1.snoc {B:Nat→Prop}{h:J}{e:aP}{x:ar}(af:lJ B h e x):∀ {l:List aP}{xs:List (ar)},j1 B h l xs→j1 B h (l++[e]) (xs++[x])
 | [],_,h0=>by rw [show _=[] from h0];exact ⟨x,[],rfl,af,rfl⟩
 | _::_,_,⟨y,Aj,A,S,ae⟩=>by rw [A];exact ⟨y,Aj++[x],rfl,S,j1.snoc af ae⟩
theorem WY {x:ar}(af:x.length=7∧x.all (·.oneCell')=true):ie [I 0,aI,aI,I 0,bx,bx,bx] [(0,7)] 1 7 [.agg x.toArray]=some (x,fun id=>.slice (some ⟨id,0,none⟩) 1 7):=uT rfl af.1 rfl af.2
end Go.Eng.Sy
namespace Go.Eng
open Go
def km (n:Nat):J:=⟨n,fun _=>none,fun _ _=>rfl⟩
theorem AB {n:Nat}{h:J}(hn:n≤h.next):(km n).le h:=⟨(fun _ _ e=>by cases e),hn⟩
theorem cL.da {n:Nat}{h:J}{s:Nat}{v:Value}{xs:List (ar)}(ai:cL (km n) h s v xs){i:Nat}(au:i < n):da v i:=by
 rcases ai with ⟨rfl,_⟩ | ⟨id,rfl,A,_⟩
 ·intro a b e;cases e
 ·intro a b e;cases e;have:n≤i:=A;omega
theorem cL.rK {n p:Nat}{h D : J}{s:Nat}{v:Value}{xs:List (ar)}(ai:cL (km n) h s v xs) (hp:p < n) (ag:h.b2 p D):cL (km n) D s v xs :=
 ai.get fun id ad ak=>ag.get id (by
  rcases ai with ⟨rfl,_⟩ | ⟨pw,e,A,_⟩
  ·cases ad
  ·rw [ad] at e;cases e;have S:n≤id:=A;omega) ak
end Go.Eng
namespace Go.Eng.Sy
open Go Go.Eng Go.Proofs
theorem cL.oY {n:Nat}{h:J}{s:Nat}{v:Value}{xs:List (ar)}(ai:cL (km n) h s v xs):dH (fun id=>n≤id) h s v xs:=by
 have ka:=ai.vW;rcases ai with ai | ⟨id,rfl,A,_⟩
 ·exact .inl ai
 ·rcases ka with ⟨e,_⟩ | ⟨pw,off,e,af⟩
  ·cases e
  ·cases e
   exact .inr ⟨_,_,rfl,af.imp (fun e=>e) fun a=>⟨A,a⟩⟩
theorem cL.one {n:Nat}{h:J}{s:Nat}{v:Value}{xs:List (ar)}(ai:cL (km n) h s v xs):v.oneCell' = true:=cT.one ai.vW
abbrev ny:ar:=[I 0,aI,aI,I 0,bx,bx,bx]
abbrev aJ:Value:=bx
def gN (v:Value):Prop:=∃ p a b,v = .slice p a b
theorem dH.e6 {B:Nat→Prop}{h:J}{s:Nat}{v:Value}{xs:List (ar)}(ad:dH B h s v xs):gN v:=by
 rcases ad with ⟨rfl,_⟩ | ⟨id,off,rfl,_⟩<;>exact ⟨_,_,_,rfl⟩
theorem dN.e6 {B:Nat→Prop}{h:J}{v:Value}{l:List aP}(ad:dN B h v l):gN v:=ad.elim fun _ a=>a.1.e6
end Go.Eng.Sy
