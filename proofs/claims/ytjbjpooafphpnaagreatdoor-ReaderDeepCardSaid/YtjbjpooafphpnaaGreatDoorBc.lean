/-
  Part of a proof of the laws of layer 07 (reader): what each function does.
  Conditions: none.
-/
import Derived.Test.YtjbjpooafphpnaaGreatDoorBb
set_option linter.unusedSimpArgs false
set_option linter.unusedVariables false
namespace Go.Eng
open Go
def J.cg (B B' : Nat→Prop) (h D : J):Prop:=∀ id cells own,B id→h.get id=some (.aq cells own)→B' id∧D.get id=some (.aq cells own)
theorem J.le.cg {h D : J}(ag:h.le D){B B' : Nat→Prop}(cM:∀ id,B id→B' id):J.cg B B' h D:=fun id _ _ T aA=>⟨cM id T,ag.get aA⟩
theorem J.b2.cg {p:Nat}{h D : J}(ag:h.b2 p D){B B' : Nat→Prop}(cM:∀ id,B id→id≠p∧B' id):J.cg B B' h D:=fun id _ _ T aA=>⟨(cM id T).2,by rw [ag.get id (cM id T).1 (by rw [aA];rfl)];exact aA⟩
end Go.Eng
namespace Go.Eng.Sy
open Go Go.Eng Go.Proofs
def dH (B:Nat→Prop) (h:J) (s:Nat) (v:Value) (xs:List (ar)):Prop :=
 (v = bx∧xs=[]) ∨ ∃ id off,v = .slice (some ⟨id,off,none⟩) xs.length s∧(xs=[]∨(B id∧x2 h id off s xs))
theorem dH.to {B B' : Nat→Prop}{h D : J}(ab:J.cg B B' h D){s:Nat}{v:Value}{xs:List (ar)}(ad:dH B h s v xs):dH B' D s v xs:=by
 rcases ad with ad | ⟨id,off,ad,ai⟩
 ·exact .inl ad
 ·refine .inr ⟨id,off,ad,?_⟩;rcases ai with ai | ⟨T,cells,own,aA,af⟩
  ·exact .inl ai
  ·obtain ⟨b,g⟩:=ab id cells own T aA;exact .inr ⟨b,cells,own,g,af⟩
theorem dH.plain {B:Nat→Prop}{h:J}{s:Nat}{v:Value}{xs:List (ar)}(ad:dH B h s v xs):cT h s v xs:=by
 rcases ad with ad | ⟨id,off,ad,ai⟩
 ·exact .inl ad
 ·exact .inr ⟨id,off,ad,ai.imp (fun e=>e) (·.2)⟩
mutual
def gR (B:Nat→Prop) (h:J):aX→ar→Prop
 | .mk k o n m args,x=>∃ v xs,x=[I k,I o,I n,str m,v]∧dH B h 5 v xs∧xs.length≤140737488355328∧j0 B h args xs
def j0 (B:Nat→Prop) (h:J):List aX→List (ar)→Prop
 | [],xs=>xs=[]
 | e::r,xs=>∃ x fJ,xs=x::fJ∧gR B h e x∧j0 B h r fJ
end
mutual
def lJ (B:Nat→Prop) (h:J):aP→ar→Prop
 | .mk k m f n args aU bz,x=>∃ v xs u c4 w zs,x=[I k,str m,str f,I n,v,u,w]∧(dH B h 5 v xs∧xs.length≤140737488355328∧j0 B h args xs)∧(dH B h 7 u c4∧c4.length≤140737488355328∧j1 B h aU c4)∧dH B h 7 w zs∧zs.length≤140737488355328∧j1 B h bz zs
def j1 (B:Nat→Prop) (h:J):List aP→List (ar)→Prop
 | [],xs=>xs=[]
 | e::r,xs=>∃ x fJ,xs=x::fJ∧lJ B h e x∧j1 B h r fJ
end
def en (B:Nat→Prop) (h:J) (v:Value) (l:List aX):Prop:=∃ xs,dH B h 5 v xs∧xs.length≤140737488355328∧j0 B h l xs
def dN (B:Nat→Prop) (h:J) (v:Value) (l:List aP):Prop:=∃ xs,dH B h 7 v xs∧xs.length≤140737488355328∧j1 B h l xs
mutual
theorem gR.to {B B' : Nat→Prop}{h D : J}(ab:J.cg B B' h D):∀ {e:aX}{x:ar},gR B h e x→gR B' D e x
 | .mk _ _ _ _ _,_,⟨v,xs,A,S,T,ae⟩=>⟨v,xs,A,S.to ab,T,j0.to ab ae⟩
theorem j0.to {B B' : Nat→Prop}{h D : J}(ab:J.cg B B' h D):∀ {l:List aX}{xs:List (ar)},j0 B h l xs→j0 B' D l xs
 | [],_,af=>af
 | _::_,_,⟨x,fJ,A,S,ae⟩=>⟨x,fJ,A,gR.to ab S,j0.to ab ae⟩
end
mutual
theorem lJ.to {B B' : Nat→Prop}{h D : J}(ab:J.cg B B' h D):∀ {e:aP}{x:ar},lJ B h e x→lJ B' D e x
 | .mk _ _ _ _ _ _ _,_,⟨v,xs,u,c4,w,zs,A,S,ae,aB,aG⟩=>⟨v,xs,u,c4,w,zs,A,⟨S.1.to ab,S.2.1,j0.to ab S.2.2⟩,⟨ae.1.to ab,ae.2.1,j1.to ab ae.2.2⟩,aB.to ab,aG.1,j1.to ab aG.2⟩
theorem j1.to {B B' : Nat→Prop}{h D : J}(ab:J.cg B B' h D):∀ {l:List aP}{xs:List (ar)},j1 B h l xs→j1 B' D l xs
 | [],_,af=>af
 | _::_,_,⟨x,fJ,A,S,ae⟩=>⟨x,fJ,A,lJ.to ab S,j1.to ab ae⟩
end
theorem en.to {B B' : Nat→Prop}{h D : J}(ab:J.cg B B' h D){v:Value}{l:List aX}(ad:en B h v l):en B' D v l:=let ⟨xs,a,c,b⟩:=ad;⟨xs,a.to ab,c,b.to ab⟩
theorem dN.to {B B' : Nat→Prop}{h D : J}(ab:J.cg B B' h D){v:Value}{l:List aP}(ad:dN B h v l):dN B' D v l:=let ⟨xs,a,c,b⟩:=ad;⟨xs,a.to ab,c,b.to ab⟩
section
variable {B:Nat→Prop}{h:J}
mutual
theorem gR.plain:∀ {e:aX}{x:ar},gR B h e x→iN h e x
 | .mk _ _ _ _ _,_,⟨v,xs,A,S,T,ae⟩=>⟨v,xs,A,S.plain,T,j0.plain ae⟩
theorem j0.plain:∀ {l:List aX}{xs:List (ar)},j0 B h l xs→kY h l xs
 | [],_,af=>af
 | _::_,_,⟨x,fJ,A,S,ae⟩=>⟨x,fJ,A,gR.plain S,j0.plain ae⟩
end
mutual
theorem lJ.plain:∀ {e:aP}{x:ar},lJ B h e x→lI h e x
 | .mk _ _ _ _ _ _ _,_,⟨v,xs,u,c4,w,zs,A,S,ae,aB,aG⟩=>⟨v,xs,u,c4,w,zs,A,⟨S.1.plain,S.2.1,j0.plain S.2.2⟩,⟨ae.1.plain,ae.2.1,j1.plain ae.2.2⟩,aB.plain,aG.1,j1.plain aG.2⟩
theorem j1.plain:∀ {l:List aP}{xs:List (ar)},j1 B h l xs→kZ h l xs
 | [],_,af=>af
 | _::_,_,⟨x,fJ,A,S,ae⟩=>⟨x,fJ,A,lJ.plain S,j1.plain ae⟩
end
theorem en.plain {v:Value}{l:List aX}(ad:en B h v l):iv h v l:=let ⟨xs,a,c,b⟩:=ad;⟨xs,a.plain,c,b.plain⟩
theorem dN.plain {v:Value}{l:List aP}(ad:dN B h v l):hO h v l:=let ⟨xs,a,c,b⟩:=ad;⟨xs,a.plain,c,b.plain⟩
theorem en.nil:en B h bx []:=⟨[],.inl ⟨rfl,rfl⟩,by simp,rfl⟩
theorem dN.nil:dN B h bx []:=⟨[],.inl ⟨rfl,rfl⟩,by simp,rfl⟩
theorem gR.of {k o n:Int}{m:aD}{v:Value}{l:List aX}(ad:en B h v l):gR B h (.mk k o n m l) [I k,I o,I n,str m,v]:=let ⟨xs,a,b⟩:=ad;⟨v,xs,rfl,a,b⟩
theorem lJ.of {k n:Int}{m f:aD}{v u w:Value}{l:List aX}{a b:List aP}(ad:en B h v l) (hu:dN B h u a) (ax:dN B h w b):lJ B h (.mk k m f n l a b) [I k,str m,str f,I n,v,u,w] :=
 let ⟨xs,dP,dJ⟩:=ad;let ⟨c4,a2,kB⟩:=hu;let ⟨zs,a3,qt⟩:=ax;⟨v,xs,u,c4,w,zs,rfl,⟨dP,dJ⟩,⟨a2,kB⟩,a3,qt⟩
theorem en.new {l:List aX}{xs:List (ar)}(af:j0 B h l xs){B' : Nat→Prop}(cM:∀ id,B id→id < h.next→B' id) (hn:B' h.next) (T:xs.length≤140737488355328) (aG:∀ x ∈ xs,x.length=5){cells:ar}(aj:cells=xs.flatten){n:Nat}(ag:n=xs.length) :
  en B' (h.alloc (.aq cells true)) (.slice (some ⟨h.next,0,none⟩) n 5) l:=by
 subst ag;subst aj;refine ⟨xs,.inr ⟨h.next,0,rfl,.inr ⟨hn,_,_,J.hy _ _,fun i x au=>?_⟩⟩,T,af.to fun id cells own pY aA=>⟨cM id pY (J.bY aA),?_⟩⟩
 ·obtain ⟨A,S⟩:=CX aG i x au;exact ⟨aG x (List.mem_of_getElem? au),by omega,by simpa using S⟩
 ·rw [J.oH (J.bY aA)];exact aA
end
def Src (h:J) (p:Nat) (br:List Int):Prop:=∃ v,h.get p=some (.aq [v] true)∧dH (· < p) h 1 v (br.map fun z=>[I z])∧(∀ z ∈ br,nO z)∧br.length≤1000
abbrev iw (B:Nat→Prop) (h:J) (v:Value) (l:List (aD)):Prop:=dH B h 1 v (l.map fun s=>[str s])
theorem iw.plain {B:Nat→Prop}{h:J}{v:Value}{l:List (aD)}(ad:iw B h v l):ng h v l:=dH.plain ad
theorem B9 {B:Nat→Prop}(h:J) (l:List (aD)) (cM:B h.next){n:Nat}{cells:ar}(hn:n=l.length) (aj:cells=l.map str):iw B (h.alloc (.aq cells true)) (.slice (some ⟨h.next,0,none⟩) n 1) l:=by
 rcases vZ h l hn aj with ⟨e,_⟩ | ⟨id,off,e,ai⟩
 ·cases e
 ·have:id=h.next∧off=0:=by
   injection e with az aL bq
   injection az with az
   injection az with az aL bq
   exact ⟨az.symm,aL.symm⟩
  obtain ⟨rfl,rfl⟩:=this;exact .inr ⟨_,_,e,ai.imp (fun e=>e) fun a=>⟨cM,a⟩⟩
end Go.Eng.Sy
namespace Go.Eng
open Go
theorem J.b2.bP {p i:Nat}{h D : J}(ag:h.b2 p D) (au:i≠p){o:bQ}(aA:h.get i=some o):D.get i=some o:=by
 rw [ag.get i au (by rw [aA];rfl)];exact aA
theorem J.b2.oW {p q:Nat}{a b:J}(A:a.b2 p b) (L:a.next≤q) (o:bQ):a.b2 p (b.set q o) :=
 ⟨fun j bn ak=>by
  obtain ⟨x,af⟩:=Option.isSome_iff_exists.1 ak;have:=J.bY af;rw [J.dT _ _ _ _ (by simp;omega)];exact A.get j bn ak,A.next⟩
theorem J.jd {B B' : Nat→Prop}{h:J}(cM:∀ id,B id→B' id):J.cg B B' h h:=fun id _ _ T aA=>⟨cM id T,aA⟩
theorem J.lf {B B' : Nat→Prop}{h:J}{q:Nat}(o:bQ) (cM:∀ id,B id→id≠q∧B' id):J.cg B B' h (h.set q o):=fun id cs own T aA=>⟨(cM id T).2,by
 rw [J.dT _ _ _ _ (by simpa using (cM id T).1)];exact aA⟩
end Go.Eng
namespace Go.Eng.Sy
open Go Go.Eng Go.Proofs
theorem Tg (h:J) (l:List Int){n:Nat}{cells:ar}(hn:n=l.length) (aj:cells=l.map (.int .i64)):nc (h.alloc (.aq cells true)) (.slice (some ⟨h.next,0,none⟩) n 1) l:=by
 subst hn;subst aj;refine .inr ⟨h.next,0,by simp,.inr ⟨_,_,J.hy _ _,fun j x bn=>?_⟩⟩;have af:∀ x ∈ (l.map fun s=>[Value.int .i64 s]),x.length=1:=by simp
 obtain ⟨A,S⟩:=CX af j x bn;have aZ:(l.map fun s=>[Value.int .i64 s]).flatten=l.map (.int .i64):=by
  clear A S af bn;induction l with
  | nil=>rfl
  | cons a l ih=>simp [ih]
 rw [aZ] at A S;exact ⟨af x (List.mem_of_getElem? bn),by simpa using A,by simpa using S⟩
theorem NI (n:Int):gQ [I 0,I 0,I 0,aI,bx] [(0,1),(2,1)] [I 1,I n]=some (ko 1 0 n [] bx):=rfl
theorem W3 (m:aD):gQ [I 0,I 0,I 0,aI,bx] [(0,1),(3,1)] [I 2,str m]=some (ko 2 0 0 m bx):=rfl
theorem EZ (k o:Int){i n:Nat}:gQ [I 0,I 0,I 0,aI,bx] [(0,1),(1,1),(4,1)] [I k,I o,.slice (some ⟨i,0,none⟩) n 5]=some (ko k o 0 [] (.slice (some ⟨i,0,none⟩) n 5)):=rfl
theorem gR.cells {B:Nat→Prop}{h:J}{e:aX}{x:ar}(af:gR B h e x):∃ v,x=[I e.kind,I e.op,I e.n,str e.name,v]∧en B h v e.args:=by
 cases e;obtain ⟨v,xs,A,S,ae⟩:=af;exact ⟨v,A,xs,S,ae⟩
theorem en.one {B:Nat→Prop}{h:J}{v:Value}{l:List aX}(ad:en B h v l):v.oneCell' = true:=ad.plain.one
theorem EY {x y:ar}(af:x.length=5∧x.all (·.oneCell')=true) (bw:y.length=5∧y.all (·.oneCell')=true):ie [I 0,I 0,I 0,aI,bx,I 0,I 0,I 0,aI,bx] [(0,5),(5,5)] 2 5 [.agg x.toArray,.agg y.toArray]=some (x++y,fun id=>.slice (some ⟨id,0,none⟩) 2 5):=by
 have az:x.all (·.oneCell')=true:=af.2;have aL:y.all (·.oneCell')=true:=bw.2;have l1:=af.1;have l2:=bw.1;simp [ie,pe,Value.cells,l1,l2,az,aL]
theorem pO {x:ar}(af:x.length=5∧x.all (·.oneCell')=true):ie [I 0,I 0,I 0,aI,bx] [(0,5)] 1 5 [.agg x.toArray]=some (x,fun id=>.slice (some ⟨id,0,none⟩) 1 5):=uT rfl af.1 rfl af.2
theorem gR.ea {B:Nat→Prop}{h:J}{e:aX}{x:ar}(af:gR B h e x):x.length=5∧x.all (·.oneCell')=true:=by
 obtain ⟨v,rfl,ad⟩:=af.cells;exact ⟨rfl,by simpa [Value.oneCell'] using ad.one⟩
theorem lJ.cells {B:Nat→Prop}{h:J}{e:aP}{x:ar}(af:lJ B h e x):∃ v u w,x=[I e.kind,str e.name,str e.src,I e.n,v,u,w]∧en B h v e.args∧dN B h u e.aU∧dN B h w e.bz:=by
 cases e;obtain ⟨v,xs,u,c4,w,zs,A,S,ae,aB⟩:=af;exact ⟨v,u,w,A,⟨xs,S⟩,⟨c4,ae⟩,⟨zs,aB⟩⟩
theorem dN.one {B:Nat→Prop}{h:J}{v:Value}{l:List aP}(ad:dN B h v l):v.oneCell' = true:=ad.plain.one
theorem lJ.ea {B:Nat→Prop}{h:J}{e:aP}{x:ar}(af:lJ B h e x):x.length=7∧x.all (·.oneCell')=true:=by
 obtain ⟨v,u,w,rfl,ad,hu,ax⟩:=af.cells;exact ⟨rfl,by simpa [Value.oneCell'] using ⟨ad.one,hu.one,ax.one⟩⟩
theorem j1.snoc {B:Nat→Prop}{h:J}{e:aP}{x:ar}(af:lJ B h e x):∀ {l:List aP}{xs:List (ar)},j1 B h l xs→j1 B h (l++[e]) (xs++[x])
 | [],_,h0=>by rw [show _=[] from h0];exact ⟨x,[],rfl,af,rfl⟩
 | _::_,_,⟨y,Aj,A,S,ae⟩=>by rw [A];exact ⟨y,Aj++[x],rfl,S,j1.snoc af ae⟩
theorem WY {x:ar}(af:x.length=7∧x.all (·.oneCell')=true):ie [I 0,aI,aI,I 0,bx,bx,bx] [(0,7)] 1 7 [.agg x.toArray]=some (x,fun id=>.slice (some ⟨id,0,none⟩) 1 7):=uT rfl af.1 rfl af.2
end Go.Eng.Sy
namespace Go.Eng
open Go
def km (n:Nat):J:=⟨n,fun _=>none,fun _ _=>rfl⟩
theorem AB {n:Nat}{h:J}(hn:n≤h.next):(km n).le h:=⟨(fun _ _ e=>by cases e),hn⟩
theorem cL.da {n:Nat}{h:J}{s:Nat}{v:Value}{xs:List (ar)}(ai:cL (km n) h s v xs){i:Nat}(au:i < n):da v i:=by
 rcases ai with ⟨rfl,_⟩ | ⟨id,rfl,A,_⟩
 ·intro a b e;cases e
 ·intro a b e;cases e;have:n≤i:=A;omega
theorem cL.rK {n p:Nat}{h D : J}{s:Nat}{v:Value}{xs:List (ar)}(ai:cL (km n) h s v xs) (bf:p < n) (ag:h.b2 p D):cL (km n) D s v xs :=
 ai.get fun id ad ak=>ag.get id (by
  rcases ai with ⟨rfl,_⟩ | ⟨pw,e,A,_⟩
  ·cases ad
  ·rw [ad] at e;cases e;have S:n≤id:=A;omega) ak
end Go.Eng
namespace Go.Eng.Sy
open Go Go.Eng Go.Proofs
theorem cL.oY {n:Nat}{h:J}{s:Nat}{v:Value}{xs:List (ar)}(ai:cL (km n) h s v xs):dH (fun id=>n≤id) h s v xs:=by
 have ka:=ai.vW;rcases ai with ai | ⟨id,rfl,A,_⟩
 ·exact .inl ai
 ·rcases ka with ⟨e,_⟩ | ⟨pw,off,e,af⟩
  ·cases e
  ·cases e
   exact .inr ⟨_,_,rfl,af.imp (fun e=>e) fun a=>⟨A,a⟩⟩
theorem cL.one {n:Nat}{h:J}{s:Nat}{v:Value}{xs:List (ar)}(ai:cL (km n) h s v xs):v.oneCell' = true:=cT.one ai.vW
abbrev ny:ar:=[I 0,aI,aI,I 0,bx,bx,bx]
abbrev aJ:Value:=bx
def gN (v:Value):Prop:=∃ p a b,v = .slice p a b
theorem dH.e6 {B:Nat→Prop}{h:J}{s:Nat}{v:Value}{xs:List (ar)}(ad:dH B h s v xs):gN v:=by
 rcases ad with ⟨rfl,_⟩ | ⟨id,off,rfl,_⟩<;>exact ⟨_,_,_,rfl⟩
theorem dN.e6 {B:Nat→Prop}{h:J}{v:Value}{l:List aP}(ad:dN B h v l):gN v:=ad.elim fun _ a=>a.1.e6
end Go.Eng.Sy
