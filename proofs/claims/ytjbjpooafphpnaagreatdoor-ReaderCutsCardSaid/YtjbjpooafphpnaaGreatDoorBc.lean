/-
  Part of a proof of the laws of layer 07 (reader): what each function does.
  Conditions: none.
-/
import Derived.Test.YtjbjpooafphpnaaGreatDoorBb
set_option linter.unusedSimpArgs false
set_option linter.unusedVariables false
namespace Go.Eng
open Go
def J.cg(B B':Nat→Prop)(h D:J):Prop:=∀ id cells own,B id→h.get id=some (.aq cells own)→B' id∧D.get id=some (.aq cells own)
theorem J.le.cg{h D:J}(ag:h.le D){B B':Nat→Prop}(cM:∀ id,B id→B' id):J.cg B B' h D:=fun id _ _ T aA=>⟨cM id T,ag.get aA⟩
theorem J.b2.cg{p:Nat}{h D:J}(ag:h.b2 p D){B B':Nat→Prop}(cM:∀ id,B id→id≠p∧B' id):J.cg B B' h D:=fun id _ _ T aA=>⟨(cM id T).2,by rw[ag.get id (cM id T).1 (by rw[aA];rfl)];exact aA⟩
end Go.Eng
namespace Go.Eng.Sy
open Go Go.Eng Go.Proofs
def dH(B:Nat→Prop)(h:J)(s:Nat)(v:Value)(xs:List (ar)):Prop :=
 (v=bx∧xs=[])∨∃ id off,v=.slice (some ⟨id,off,none⟩) xs.length s∧(xs=[]∨(B id∧x2 h id off s xs))
theorem dH.to{B B':Nat→Prop}{h D:J}(ab:J.cg B B' h D){s:Nat}{v:Value}{xs:List (ar)}(ad:dH B h s v xs):dH B' D s v xs:=by
 rcases ad with ad|⟨id,off,ad,ai⟩
 ·exact .inl ad
 ·refine .inr ⟨id,off,ad,?_⟩;rcases ai with ai|⟨T,cells,own,aA,af⟩
  ·exact .inl ai
  ·obtain⟨b,g⟩:=ab id cells own T aA;exact .inr ⟨b,cells,own,g,af⟩
theorem dH.plain{B:Nat→Prop}{h:J}{s:Nat}{v:Value}{xs:List (ar)}(ad:dH B h s v xs):cT h s v xs:=by
 rcases ad with ad|⟨id,off,ad,ai⟩
 ·exact .inl ad
 ·exact .inr ⟨id,off,ad,ai.imp (fun e=>e) (·.2)⟩
theorem dH.nil(B:Nat→Prop)(h:J)(s:Nat):dH B h s bx []:=.inl ⟨rfl,rfl⟩
mutual
def gR(B:Nat→Prop)(h:J):aX→ar→Prop
 |.mk k o n m args,x=>∃ v xs,x=[I k,I o,I n,str m,v]∧dH B h 5 v xs∧xs.length≤140737488355328∧j0 B h args xs
def j0(B:Nat→Prop)(h:J):List aX→List (ar)→Prop
 |[],xs=>xs=[]
 |e::r,xs=>∃ x fJ,xs=x::fJ∧gR B h e x∧j0 B h r fJ
end
mutual
def lJ(B:Nat→Prop)(h:J):aP→ar→Prop
 |.mk k m f n args aU bz,x=>∃ v xs u c4 w zs,x=[I k,str m,str f,I n,v,u,w]∧(dH B h 5 v xs∧xs.length≤140737488355328∧j0 B h args xs)∧(dH B h 7 u c4∧c4.length≤140737488355328∧j1 B h aU c4)∧dH B h 7 w zs∧zs.length≤140737488355328∧j1 B h bz zs
def j1(B:Nat→Prop)(h:J):List aP→List (ar)→Prop
 |[],xs=>xs=[]
 |e::r,xs=>∃ x fJ,xs=x::fJ∧lJ B h e x∧j1 B h r fJ
end
def en(B:Nat→Prop)(h:J)(v:Value)(l:List aX):Prop:=∃ xs,dH B h 5 v xs∧xs.length≤140737488355328∧j0 B h l xs
def dN(B:Nat→Prop)(h:J)(v:Value)(l:List aP):Prop:=∃ xs,dH B h 7 v xs∧xs.length≤140737488355328∧j1 B h l xs
mutual
theorem gR.to{B B':Nat→Prop}{h D:J}(ab:J.cg B B' h D):∀ {e:aX}{x:ar},gR B h e x→gR B' D e x
 |.mk _ _ _ _ _,_,⟨v,xs,A,S,T,ae⟩=>⟨v,xs,A,S.to ab,T,j0.to ab ae⟩
theorem j0.to{B B':Nat→Prop}{h D:J}(ab:J.cg B B' h D):∀ {l:List aX}{xs:List (ar)},j0 B h l xs→j0 B' D l xs
 |[],_,af=>af
 |_::_,_,⟨x,fJ,A,S,ae⟩=>⟨x,fJ,A,gR.to ab S,j0.to ab ae⟩
end
mutual
theorem lJ.to{B B':Nat→Prop}{h D:J}(ab:J.cg B B' h D):∀ {e:aP}{x:ar},lJ B h e x→lJ B' D e x
 |.mk _ _ _ _ _ _ _,_,⟨v,xs,u,c4,w,zs,A,S,ae,aB,aG⟩=>⟨v,xs,u,c4,w,zs,A,⟨S.1.to ab,S.2.1,j0.to ab S.2.2⟩,⟨ae.1.to ab,ae.2.1,j1.to ab ae.2.2⟩,aB.to ab,aG.1,j1.to ab aG.2⟩
theorem j1.to{B B':Nat→Prop}{h D:J}(ab:J.cg B B' h D):∀ {l:List aP}{xs:List (ar)},j1 B h l xs→j1 B' D l xs
 |[],_,af=>af
 |_::_,_,⟨x,fJ,A,S,ae⟩=>⟨x,fJ,A,lJ.to ab S,j1.to ab ae⟩
end
theorem en.to{B B':Nat→Prop}{h D:J}(ab:J.cg B B' h D){v:Value}{l:List aX}(ad:en B h v l):en B' D v l:=let ⟨xs,a,c,b⟩:=ad;⟨xs,a.to ab,c,b.to ab⟩
theorem dN.to{B B':Nat→Prop}{h D:J}(ab:J.cg B B' h D){v:Value}{l:List aP}(ad:dN B h v l):dN B' D v l:=let ⟨xs,a,c,b⟩:=ad;⟨xs,a.to ab,c,b.to ab⟩
section
variable {B:Nat→Prop}{h:J}
mutual
theorem gR.plain:∀ {e:aX}{x:ar},gR B h e x→iN h e x
 |.mk _ _ _ _ _,_,⟨v,xs,A,S,T,ae⟩=>⟨v,xs,A,S.plain,T,j0.plain ae⟩
theorem j0.plain:∀ {l:List aX}{xs:List (ar)},j0 B h l xs→kY h l xs
 |[],_,af=>af
 |_::_,_,⟨x,fJ,A,S,ae⟩=>⟨x,fJ,A,gR.plain S,j0.plain ae⟩
end
mutual
theorem lJ.plain:∀ {e:aP}{x:ar},lJ B h e x→lI h e x
 |.mk _ _ _ _ _ _ _,_,⟨v,xs,u,c4,w,zs,A,S,ae,aB,aG⟩=>⟨v,xs,u,c4,w,zs,A,⟨S.1.plain,S.2.1,j0.plain S.2.2⟩,⟨ae.1.plain,ae.2.1,j1.plain ae.2.2⟩,aB.plain,aG.1,j1.plain aG.2⟩
theorem j1.plain:∀ {l:List aP}{xs:List (ar)},j1 B h l xs→kZ h l xs
 |[],_,af=>af
 |_::_,_,⟨x,fJ,A,S,ae⟩=>⟨x,fJ,A,lJ.plain S,j1.plain ae⟩
end
theorem en.plain{v:Value}{l:List aX}(ad:en B h v l):iv h v l:=let ⟨xs,a,c,b⟩:=ad;⟨xs,a.plain,c,b.plain⟩
theorem dN.plain{v:Value}{l:List aP}(ad:dN B h v l):hO h v l:=let ⟨xs,a,c,b⟩:=ad;⟨xs,a.plain,c,b.plain⟩
theorem en.nil:en B h bx []:=⟨[],.inl ⟨rfl,rfl⟩,by simp,rfl⟩
theorem dN.nil:dN B h bx []:=⟨[],.inl ⟨rfl,rfl⟩,by simp,rfl⟩
theorem gR.of{k o n:Int}{m:aD}{v:Value}{l:List aX}(ad:en B h v l):gR B h (.mk k o n m l) [I k,I o,I n,str m,v]:=let ⟨xs,a,b⟩:=ad;⟨v,xs,rfl,a,b⟩
theorem lJ.of{k n:Int}{m f:aD}{v u w:Value}{l:List aX}{a b:List aP}(ad:en B h v l)(hu:dN B h u a)(ax:dN B h w b):lJ B h (.mk k m f n l a b) [I k,str m,str f,I n,v,u,w] :=
 let ⟨xs,dP,dJ⟩:=ad;let ⟨c4,a2,kB⟩:=hu;let ⟨zs,a3,qt⟩:=ax;⟨v,xs,u,c4,w,zs,rfl,⟨dP,dJ⟩,⟨a2,kB⟩,a3,qt⟩
theorem en.new{l:List aX}{xs:List (ar)}(af:j0 B h l xs){B':Nat→Prop}(cM:∀ id,B id→id<h.next→B' id)(hn:B' h.next)(T:xs.length≤140737488355328)(aG:∀ x∈xs,x.length=5){cells:ar}(aj:cells=xs.flatten){n:Nat}(ag:n=xs.length) :
  en B' (h.alloc (.aq cells true)) (.slice (some ⟨h.next,0,none⟩) n 5) l:=by
 subst ag;subst aj;refine⟨xs,.inr ⟨h.next,0,rfl,.inr ⟨hn,_,_,J.hy _ _,fun i x au=>?_⟩⟩,T,af.to fun id cells own pY aA=>⟨cM id pY (J.bY aA),?_⟩⟩
 ·obtain⟨A,S⟩:=CX aG i x au;exact⟨aG x (List.mem_of_getElem? au),by omega,by simpa using S⟩
 ·rw[J.oH (J.bY aA)];exact aA
end
theorem aon(c n:Int)(hn:n≠0)(h:J)(Q:aT)(L:Q (I (pick c n)) h):bj Tryz.prog 82 [I c,I n] h Q:=by
 refine c7 (k:=2) anA rfl rfl rfl fun N=>?_;rw[eJ Qq iL rfl];delta Qq;replace L:=U L;have dw:c<0→Q (I ((IntKind.i64.wrap (0-IntKind.i64.wrap (c+1))).tmod n)) h:=fun aj=>by have:=L.h;rwa[pick,if_pos aj]at this
 have cN:¬ c<0→Q (I (c.tmod n)) h:=fun aj=>by have:=L.h;rwa[pick,if_neg aj]at this
 replace dw:=Hid.mk dw;replace cN:=Hid.mk cN;repeat' (first|simp only[aa,av,ay, *]|with_reducible (first|refine aap ?_ ?_|refine aaw ?_ ?_|refine aaq ?_ ?_|refine aax ?_ ?_)<;>intro aj)
 ·exact dw.h (by assumption)
 ·exact cN.h (by assumption)
def bf(s:List Int)(n:Nat):Nat × List Int:=match s with
 |[]=>(0,[])
 |z::r=>(zV z n,r)
theorem nq{s:List Int}(ak:∀ z∈s,nO z){n:Nat}(hn:0<n):(bf s n).1<n:=by
 cases s with
 |nil=>exact hn
 |cons z r=>exact(Uy (ak z (by simp)) hn).1
def Src(h:J)(p:Nat)(raw:List Int):Prop:=∃ v,h.get p=some (.aq [v] true)∧dH (· < p) h 1 v (raw.map fun z=>[I z])∧(∀ z∈raw,nO z)∧raw.length≤1000
theorem Src.in{h:J}{p:Nat}{raw:List Int}(ak:Src h p raw):∀ z∈raw,nO z:=ak.elim fun _ a=>a.2.2.1
theorem Src.le{h D:J}{p:Nat}{raw:List Int}(ag:h.le D)(ak:Src h p raw):Src D p raw:=by
 obtain⟨v,A,S,ae⟩:=ak;exact⟨v,ag.get A,S.to (ag.cg fun _ h=>h),ae⟩
theorem Src.set{h:J}{p q:Nat}{raw:List Int}(ak:Src h p raw)(L:p<q)(o:bQ):Src (h.set q o) p raw:=by
 obtain⟨v,A,S,ae⟩:=ak;refine⟨v,by rw[J.dT _ _ _ _ (by simp;omega)];exact A,S.to (fun id cs own T aA=>⟨T,?_⟩),ae⟩;have aB:id<p:=T;rw[J.dT _ _ _ _ (by simp;omega)];exact aA
theorem Src.lt{h:J}{p:Nat}{raw:List Int}(ak:Src h p raw):p<h.next:=ak.elim fun _ a=>J.bY a.1
theorem jr{h:J}{p:Nat}{raw:List Int}(ak:Src h p raw){n:Nat}(hn:0<n)(k8:n≤1000000000000)(Q:aT)
  (L:∀ D,h.b2 p D→Hid (D.next=h.next)→Src D p (bf raw n).2→Q (I (bf raw n).1) D):bj Tryz.prog 33 [aH p 0,I (n:Int)] h Q:=by
 obtain⟨v,aA,ad,lp,aR⟩:=ak;refine c7 (k:=2) amO rfl rfl rfl fun N=>?_;rw[eJ Pv mY rfl];delta Pv;replace L:=U L;have ag:=nc.len ad.plain;cases raw with
 |nil =>
  have g:=L.h h (.refl _ _) ⟨rfl⟩ ⟨v,aA,ad,lp,aR⟩;have z0:(([]:List Int).length:Int)=0:=rfl;have eI:bf [] n=(0,[]):=rfl;rw[eI]at g;have az:((0:Nat):Int)=0:=rfl;simp only[az]at g;replace g:=Hid.mk g;clear L ad;simp only[aa,aw,av,ay, *];exact g.h
 |cons z r =>
  have bk:(((z::r).length:Int)==0)=false:=by simp;omega
  obtain⟨id,off,cells,own,az,aL,bq⟩:=nc.elem ad.plain (i:=0) (z:=z) rfl;rw[Ch]at az;obtain⟨mJ,la⟩:=Uy (lp z (by simp)) hn;have s0:∃ w,rR 1 true false [v,I 1]=some w∧dH (· < p) h 1 w (r.map fun z=>[Value.int .i64 z])∧w.cells.toList=[w]∧w.oneCell'=true:=by
   rcases ad with⟨_,af⟩|⟨id,off,rfl,af⟩
   ·simp at af
   ·refine⟨.slice (some ⟨id,off+1*1,none⟩) r.length 1,by simp[rR,oD];omega,.inr ⟨id,off+1,by simp,?_⟩,rfl,rfl⟩;rcases af with af|⟨T,cells,own,aA,af⟩
    ·simp at af
    ·refine .inr ⟨T,cells,own,aA,fun i x au=>?_⟩;obtain⟨a,b,c⟩:=af (i+1) x (by simpa using au);exact⟨a,by omega,by rw[← c];congr 2;omega⟩
  obtain⟨w,sw,iE,Hd,ak9⟩:=s0;have bu:=iU (off:=0) aA (by simp) Hd ak9;have g:=L.h (h.set p (.aq ([v].set 0 w) true)) (J.b2.set p h _) ⟨rfl⟩ ⟨w,J.gz _ _ _ (by rw[aA];rfl),iE.to (fun id cs o T lR=>⟨T,by rw[J.dT _ _ _ _ (by have A:id<p:=T;simp;omega)];exact lR⟩),fun y bw=>lp y (List.mem_cons_of_mem _ bw),by simp at aR;show r.length≤1000;omega⟩;have j4:bf (z::r) n=(zV z n,r):=rfl;rw[j4]at g;simp only[la]at g;replace g:=Hid.mk g;clear L ad iE la lp aR;simp only[aa,aw,av,ay, *];refine aon z n (by omega) _ _ ?_;simp only[aa,aw,bh, *];exact g.h
structure fk where
 c2:List (aD)
 cv:List (aD)
 free:Nat
 held:List (aD)
 any:Bool
abbrev iw(B:Nat→Prop)(h:J)(v:Value)(l:List (aD)):Prop:=dH B h 1 v (l.map fun s=>[str s])
theorem iw.plain{B:Nat→Prop}{h:J}{v:Value}{l:List (aD)}(ad:iw B h v l):ng h v l:=dH.plain ad
theorem iw.one{B:Nat→Prop}{h:J}{v:Value}{l:List (aD)}(ad:iw B h v l):v.oneCell'=true:=cT.one (dH.plain ad)
theorem B9{B:Nat→Prop}(h:J)(l:List (aD))(cM:B h.next){n:Nat}{cells:ar}(hn:n=l.length)(aj:cells=l.map str):iw B (h.alloc (.aq cells true)) (.slice (some ⟨h.next,0,none⟩) n 1) l:=by
 rcases vZ h l hn aj with⟨e,_⟩|⟨id,off,e,ai⟩
 ·cases e
 ·have:id=h.next∧off=0:=by
   injection e with az aL bq
   injection az with az
   injection az with az aL bq
   exact⟨az.symm,aL.symm⟩
  obtain⟨rfl,rfl⟩:=this;exact .inr ⟨_,_,e,ai.imp (fun e=>e) fun a=>⟨cM,a⟩⟩
def o6(p:Nat)(h:J)(c:fk)(x:ar):Prop :=
 ∃ dv rv ad,x=[dv,rv,I (c.free:Int),ad,.bool c.any]∧iw (· ≠ p) h dv c.c2∧iw (· ≠ p) h rv c.cv∧iw (· ≠ p) h ad c.held∧c.c2.length≤100∧c.cv.length≤100∧c.held.length≤100∧c.free≤100
theorem o6.to{p:Nat}{h D:J}(ab:J.cg (· ≠ p) (· ≠ p) h D){c:fk}{x:ar}(aj:o6 p h c x):o6 p D c x:=by
 obtain⟨dv,rv,ad,a,b,d,e,f⟩:=aj;exact⟨dv,rv,ad,a,dH.to ab b,dH.to ab d,dH.to ab e,f⟩
theorem o6.le{p:Nat}{h D:J}(ag:h.le D){c:fk}{x:ar}(aj:o6 p h c x):o6 p D c x:=aj.to (ag.cg fun _ h=>h)
theorem o6.eA{p:Nat}{h D:J}(ag:h.b2 p D){c:fk}{x:ar}(aj:o6 p h c x):o6 p D c x:=aj.to (ag.cg fun _ h=>⟨h,h⟩)
abbrev En(dv rv:Value)(f:Int)(ad:Value)(a:Bool):Value:=.agg #[dv,rv,I f,ad,.bool a]
theorem I4{dv rv ad:Value}{f:Int}{a:Bool}(A:dv.oneCell'=true)(S:rv.oneCell'=true)(ae:ad.oneCell'=true):nB [En dv rv f ad a]=some ([dv,rv,I f,ad,.bool a],fun id=>(aH id 0)):=by
 simpa[nB,Value.cells,Value.oneCell'] using⟨A,S,ae⟩
def eZ(any:Bool)(s:List Int)(l:List (aD)):aD × List Int :=
 if any || l.length==0 then(Il (bf s 300).1,(bf s 300).2) else(l.getD (bf s l.length).1 [],(bf s l.length).2)
theorem J.b2.of_le{p:Nat}{a b c:J}(A:a.le b)(S:b.b2 p c):a.b2 p c:=(A.eA p).trans S
theorem uy{h:J}{p:Nat}{raw:List Int}(ak:Src h p raw){dv rv ad:Value}{f:Int}{any:Bool}(cG:dv.oneCell'=true)(cP:rv.oneCell'=true)(gm:ad.oneCell'=true){v:Value}{l:List (aD)}(fV:iw (· ≠ p) h v l)(aR:l.length≤1000)(Q:aT)
  (L:∀ D,h.b2 p D→Src D p (eZ any raw l).2→Q (str (eZ any raw l).1) D):bj Tryz.prog 63 [En dv rv f ad any,aH p 0,v] h Q:=by
 have dJ:=I4 (f:=f) (a:=any) cG cP gm;have hpl:=ak.lt;obtain⟨q,A,eq,gO,dY,bt⟩:=b9 h [dv,rv,I f,ad,.bool any];have jl:=ak.le bt;have fr:iw (· ≠ p) A v l:=dH.to (bt.cg fun _ h=>h) fV;have iQ:=fV.plain.len;have ls:p≠q:=by omega
 clear ak fV;replace jl:=U jl;replace fr:=U fr;replace bt:=U bt;refine c7 (k:=4) ang rfl rfl rfl fun N=>?_;rw[s3 P0 mY rfl];delta P0;replace L:=U L;have at2:(300:Int)=((300:Nat):Int):=rfl;by_cases aj:any=true∨l.length=0
 ·have e:eZ any raw l=(Il (bf raw 300).1,(bf raw 300).2):=by
   unfold eZ;rw[if_pos];simpa using aj
  rw[e]at L;have aV:=nq jl.h.in (n:=300) (by omega);replace aV:=U aV;cases any with
  |true =>
   simp only[aa,aw, *];refine jr jl.h (by omega) (by omega) _ fun S l2 _ e5=>?_;have aE:=J.b2.of_le bt.h l2;replace l2:=U l2;replace e5:=U e5;replace aE:=U aE;simp only[aa, *];refine aej (by have:=aV.h;unfold nO;omega) _ _ fun ae aO=>?_;have g:=L.h ae (aE.h.trans (aO.eA p)) (e5.h.le aO);replace g:=Hid.mk g;clear aO;simp only[aa, *];exact g.h
  |false =>
   have vl:l.length=0:=by simpa using aj
   rw[vl]at iQ;have z0:((0:Nat):Int)=0:=rfl;replace aj:=Hid.mk aj;replace vl:=Hid.mk vl;simp only[aa,aw,av,ay, *];refine jr jl.h (by omega) (by omega) _ fun S l2 _ e5=>?_;have aE:=J.b2.of_le bt.h l2;replace l2:=U l2;replace e5:=U e5;replace aE:=U aE;simp only[aa, *];refine aej (by have:=aV.h;unfold nO;omega) _ _ fun ae aO=>?_;have g:=L.h ae (aE.h.trans (aO.eA p)) (e5.h.le aO);replace g:=Hid.mk g;clear aO;simp only[aa, *];exact g.h
 ·obtain⟨k4,eN⟩:any=false∧0<l.length:=by
   constructor
   ·cases any with
    |true=>exact absurd (.inl rfl) aj
    |false=>rfl
   ·omega
  subst k4;have e:eZ false raw l=(l.getD (bf raw l.length).1 [],(bf raw l.length).2):=by
   unfold eZ;rw[if_neg];simp;intro e;rw[e]at eN;simp at eN
  rw[e]at L;have l9:((l.length:Int)==0)=false:=by simp;intro e;rw[e]at eN;simp at eN
  have aV:=nq jl.h.in (n:=l.length) eN;have y8:=getD_some aV [];replace aj:=Hid.mk aj;replace aV:=U aV;replace y8:=U y8;replace eN:=U eN;simp only[aa,aw,av,ay, *];refine jr jl.h eN.h (by omega) _ fun S l2 _ e5=>?_;obtain⟨id,off,cells,own,az,aL,bq,_⟩:=(iw.plain (dH.to (l2.cg fun _ h=>⟨h,h⟩) fr.h)).elem y8.h;have aE:=J.b2.of_le bt.h l2;have g:=L.h S aE e5;replace g:=Hid.mk g;clear l2 aE e5;simp only[aa,aw, *];exact g.h
end Go.Eng.Sy
namespace Go.Eng
open Go
theorem J.b2.bP{p i:Nat}{h D:J}(ag:h.b2 p D)(au:i≠p){o:bQ}(aA:h.get i=some o):D.get i=some o:=by
 rw[ag.get i au (by rw[aA];rfl)];exact aA
theorem J.b2.mo{p:Nat}{a b c:J}(A:a.b2 p b)(S:b.le c):a.b2 p c:=A.trans (S.eA p)
theorem J.b2.oW{p q:Nat}{a b:J}(A:a.b2 p b)(L:a.next≤q)(o:bQ):a.b2 p (b.set q o) :=
 ⟨fun j bn ak=>by
  obtain⟨x,af⟩:=r1.1 ak;have:=J.bY af;rw[J.dT _ _ _ _ (by simp;omega)];exact A.get j bn ak,A.next⟩
theorem J.jd{B B':Nat→Prop}{h:J}(cM:∀ id,B id→B' id):J.cg B B' h h:=fun id _ _ T aA=>⟨cM id T,aA⟩
theorem J.lf{B B':Nat→Prop}{h:J}{q:Nat}(o:bQ)(cM:∀ id,B id→id≠q∧B' id):J.cg B B' h (h.set q o):=fun id cs own T aA=>⟨(cM id T).2,by
 rw[J.dT _ _ _ _ (by simpa using(cM id T).1)];exact aA⟩
end Go.Eng
namespace Go.Eng.Sy
open Go Go.Eng Go.Proofs
def xx(s:List Int):aX × List Int :=
 (.mk 1 0 (([(bf s 10).1,(bf (bf s 10).2 300).1,(bf (bf (bf s 10).2 300).2 4294967296).1].getD (bf (bf (bf (bf s 10).2 300).2 4294967296).2 3).1 0:Nat):Int) [] [],(bf (bf (bf (bf s 10).2 300).2 4294967296).2 3).2)
def qm:List (aD):=[[120],[121],[122]]
def eG(c:fk):Nat→List Int→aX × List Int
 |0,s=>xx (bf s 8).2
 |d+1,s =>
  let k:=(bf s 8).1;let bT:=(bf s 8).2
  if k<2 then xx bT
  else if k<4 then(.mk 2 0 0 (eZ c.any bT qm).1 [],(eZ c.any bT qm).2)
  else if k=4 then(.mk 3 (15+((bf bT 3).1:Nat)) 0 [] [(eG c d (bf bT 3).2).1],(eG c d (bf bT 3).2).2)
  else if k=5∧(c.any=true∨c.held≠[]) then(.mk 5 0 0 (eZ c.any bT c.held).1 [(eG c d (eZ c.any bT c.held).2).1],(eG c d (eZ c.any bT c.held).2).2)
  else(.mk 4 (1+((bf bT 14).1:Nat)) 0 [] [(eG c d (bf bT 14).2).1,(eG c d (eG c d (bf bT 14).2).2).1],(eG c d (eG c d (bf bT 14).2).2).2)
def Nc(c:fk)(d:Nat):Prop:=∀(raw:List Int) (h:J) (p:Nat) (x:ar) (Q:aT),Src h p raw→o6 p h c x →
 (∀ D y,h.b2 p D→Src D p (eG c d raw).2→gR (fun id=>h.next≤id) D (eG c d raw).1 y→Q (.agg y.toArray) D)→bj Tryz.prog 25 [.agg x.toArray,aH p 0,I (d:Int)] h Q
theorem WX(a b c:Int):ie [I 0,I 0,I 0] [(0,1),(1,1),(2,1)] 3 1 [I a,I b,I c]=some ([I a,I b,I c],fun id=>.slice (some ⟨id,0,none⟩) 3 1):=rq rfl rfl rfl (by simp[Value.cells,Value.oneCell'])
theorem Tg(h:J)(l:List Int){n:Nat}{cells:ar}(hn:n=l.length)(aj:cells=l.map (.int .i64)):nc (h.alloc (.aq cells true)) (.slice (some ⟨h.next,0,none⟩) n 1) l:=by
 subst hn;subst aj;refine .inr ⟨h.next,0,by simp,.inr ⟨_,_,J.hy _ _,fun j x bn=>?_⟩⟩;have af:∀ x∈(l.map fun s=>[Value.int .i64 s]),x.length=1:=by simp
 obtain⟨A,S⟩:=CX af j x bn;have aZ:(l.map fun s=>[Value.int .i64 s]).flatten=l.map (.int .i64):=by
  clear A S af bn;induction l with
  |nil=>rfl
  |cons a l ih=>simp[ih]
 rw[aZ]at A S;exact⟨af x (List.mem_of_getElem? bn),by simpa using A,by simpa using S⟩
theorem NI(n:Int):gQ [I 0,I 0,I 0,aI,bx] [(0,1),(2,1)] [I 1,I n]=some (ko 1 0 n [] bx):=rfl
theorem W3(m:aD):gQ [I 0,I 0,I 0,aI,bx] [(0,1),(3,1)] [I 2,str m]=some (ko 2 0 0 m bx):=rfl
theorem EZ(k o:Int){i n:Nat}:gQ [I 0,I 0,I 0,aI,bx] [(0,1),(1,1),(4,1)] [I k,I o,.slice (some ⟨i,0,none⟩) n 5]=some (ko k o 0 [] (.slice (some ⟨i,0,none⟩) n 5)):=rfl
theorem W1(m:aD){i n:Nat}:gQ [I 0,I 0,I 0,aI,bx] [(0,1),(3,1),(4,1)] [I 5,str m,.slice (some ⟨i,0,none⟩) n 5]=some (ko 5 0 0 m (.slice (some ⟨i,0,none⟩) n 5)):=rfl
theorem gR.cells{B:Nat→Prop}{h:J}{e:aX}{x:ar}(af:gR B h e x):∃ v,x=[I e.kind,I e.op,I e.n,str e.name,v]∧en B h v e.args:=by
 cases e;obtain⟨v,xs,A,S,ae⟩:=af;exact⟨v,A,xs,S,ae⟩
theorem en.one{B:Nat→Prop}{h:J}{v:Value}{l:List aX}(ad:en B h v l):v.oneCell'=true:=ad.plain.one
theorem EY{x y:ar}(af:x.length=5∧x.all (·.oneCell')=true)(bw:y.length=5∧y.all (·.oneCell')=true):ie [I 0,I 0,I 0,aI,bx,I 0,I 0,I 0,aI,bx] [(0,5),(5,5)] 2 5 [.agg x.toArray,.agg y.toArray]=some (x++y,fun id=>.slice (some ⟨id,0,none⟩) 2 5):=by
 have az:x.all (·.oneCell')=true:=af.2;have aL:y.all (·.oneCell')=true:=bw.2;have l1:=af.1;have l2:=bw.1;simp[ie,pe,Value.cells,l1,l2,az,aL]
theorem pO{x:ar}(af:x.length=5∧x.all (·.oneCell')=true):ie [I 0,I 0,I 0,aI,bx] [(0,5)] 1 5 [.agg x.toArray]=some (x,fun id=>.slice (some ⟨id,0,none⟩) 1 5):=uT rfl af.1 rfl af.2
theorem gR.ea{B:Nat→Prop}{h:J}{e:aX}{x:ar}(af:gR B h e x):x.length=5∧x.all (·.oneCell')=true:=by
 obtain⟨v,rfl,ad⟩:=af.cells;exact⟨rfl,by simpa[Value.oneCell'] using ad.one⟩
theorem Yt{c:fk}{d:Nat}(hd:d≤100)(ih:∀ bW,d=bW+1→Nc c bW):Nc c d:=by
 intro raw h p x Q ak aj L;have pZ:=aj;obtain⟨dv,rv,ad,rfl,bT,b4,eg,_,_,sm,_⟩:=aj;have dJ:=I4 (f:=(c.free:Int)) (a:=c.any) bT.one b4.one eg.one;have cG:=bT.one;have cP:=b4.one;have gm:=eg.one;obtain⟨cd,A,tO,gO,iA,bt⟩:=b9 h [dv,rv,I (c.free:Int),ad,.bool c.any];obtain⟨cS,S,u4,jz,eE,dh⟩:=b9 A [I 0,I 0,I 0,aI,bx];have hpl:=ak.lt;have zg:h.next≤cd:=by omega
 have Sl:=bt.next;have GR:=J.bY iA;have nM:h.next≤cS:=by omega
 have dw:cd≠p:=by omega
 have cN:cS≠p:=by omega
 have Dv:p<cS:=by omega
 have wT:=dh.get iA;have l2:=bt.trans dh;have e5:=ak.le l2;have eN:=pZ.le l2;clear ak pZ bT b4 eg iA bt dh Sl;replace e5:=U e5;replace eN:=U eN;replace l2:=U l2;replace cG:=U cG;replace cP:=U cP;replace gm:=U gm;replace ih:=U ih;replace hpl:=U hpl;replace zg:=U zg;replace GR:=U GR;replace nM:=U nM;replace sm:=U sm;refine E5 (k:=4) (agg:=true) (size:=5) amH rfl rfl rfl fun N=>?_;rw[s3 Pk mZ rfl];delta Pk;replace L:=U L;simp only[aa, *];refine jr (n:=8) e5.h (by omega) (by omega) _ fun ae aE _ fC=>?_;have g1:=aE.bP (i:=cd) dw wT;have g2:=aE.bP (i:=cS) cN eE;have qM:=eN.h.eA aE;obtain⟨k,ab⟩:∃ k,(bf raw 8).1=k:=⟨_,rfl⟩;obtain⟨bT,jl⟩:∃ k,(bf raw 8).2=k:=⟨_,rfl⟩;rw[jl]at fC;rw[ab];have sD:=Hid.mk aE;clear aE;have aE:=J.b2.refl p ae;clear wT eE e5 eN dJ;replace l2:=l2.h;replace l2:=U l2;replace fC:=U fC;replace aE:=U aE;replace qM:=U qM;have mJ:(cd==p)=false:=by simpa using dw
 have la:(cS==p)=false:=by simpa using cN
 by_cases SD:d=0∨k<2
 ·have eI:eG c d raw=xx bT:=by
   cases d with
   |zero=>show xx (bf raw 8).2=_;rw[jl]
   |succ d =>
    have jH:k<2:=by omega
    unfold eG;simp only[ab,jl];rw[if_pos jH]
  have Zs:=nq fC.h.in (n:=10) (by omega);clear qM g1;rcases Nat.eq_zero_or_pos d with k6|k6
  ·subst k6;have bk:((0:Nat):Int)<1:=by decide
   clear SD;simp only[aa,av,ay, *];refine jr (n:=10) fC.h (by omega) (by omega) _ fun aB aO _ eB=>?_;have aO:=aE.h.trans aO;replace eB:=U eB;replace aO:=U aO;simp only[aa, *];refine jr (n:=300) eB.h (by omega) (by omega) _ fun aG bc _ ds=>?_;have bc:=aO.h.trans bc;replace ds:=U ds;replace bc:=U bc;simp only[aa, *];refine jr (n:=4294967296) ds.h (by omega) (by omega) _ fun a1 aY _ cC=>?_;have aY:=bc.h.trans aY;obtain⟨a,ai⟩:∃ a,(bf bT 10).1=a:=⟨_,rfl⟩;obtain⟨b,T⟩:∃ b,(bf (bf bT 10).2 300).1=b:=⟨_,rfl⟩;obtain⟨c,aj⟩:∃ c,(bf (bf (bf bT 10).2 300).2 4294967296).1=c:=⟨_,rfl⟩;obtain⟨r,hr⟩:∃ r,(bf (bf (bf bT 10).2 300).2 4294967296).2=r:=⟨_,rfl⟩;have afU:=WX a b c;have bi:=Tg a1 [(a:Int),b,c] (n:=3) (cells:=[I a,I b,I c]) rfl rfl;have lW:xx bT=(.mk 1 0 (([a,b,c].getD (bf r 3).1 0:Nat):Int) [] [],(bf r 3).2):=by unfold xx;rw[ai,T,aj,hr]
   rw[hr]at cC;rw[ai,T,aj];rw[eI,lW]at L;have aV:=nq cC.in (n:=3) (by omega);obtain⟨B2,bN,Rb,mc,aid,gf⟩:=b9 a1 [I (a:Int),I b,I c];rw[mc,Rb]at bi;have di:=cC.le gf;have bE:=aY.mo gf;have SI:B2≠p:=by have:=cC.lt;omega
   clear ai T aj hr lW cC aY eB ds aO bc;replace di:=U di;replace bE:=U bE;replace bi:=U bi;replace aV:=U aV;replace gf:=U gf;simp only[aa, *];refine jr (n:=3) di.h (by omega) (by omega) _ fun b7 cq _ hW=>?_;obtain⟨i,au⟩:∃ i,(bf r 3).1=i:=⟨_,rfl⟩;rw[au]at aV L;rw[au];have j6:=getD_some (l:=[a,b,c]) (i:=i) aV.h 0;have FE:[(a:Int),b,c][i]?=some (([a,b,c].getD i 0:Nat):Int):=by
    have:[(a:Int),b,c]=[a,b,c].map (fun n:Nat=>(n:Int)):=rfl;rw[this,NA,j6];rfl
   have FO:nc b7 (.slice (some ⟨B2,0,none⟩) 3 1) [(a:Int),b,c]:=by
    rcases bi.h with⟨e,_⟩|⟨id,off,e,af⟩
    ·cases e
    ·have:id=B2:=by
      injection e with az aL bq
      injection az with az
      injection az with az aL bq
      exact az.symm
     subst this;refine .inr ⟨_,_,e,af.imp (fun e=>e) fun⟨cs,o,aA,bw⟩=>⟨cs,o,cq.bP SI aA,bw⟩⟩
   obtain⟨id,off,cells,own,az,aL,bq⟩:=nc.elem FO FE;have cq:=bE.h.trans cq;have g8:=cq.bP (i:=cS) cN g2;have aiN:=NI ([a,b,c].getD i 0:Nat);have dS:=nZ (size:=5) (v:=ko 1 0 (([a,b,c].getD i 0:Nat):Int) [] bx) (cs:=[I 1,I 0,I (([a,b,c].getD i 0:Nat):Int),str [],bx]) g8 rfl rfl rfl rfl;have g:=L.h (b7.set cS (.aq [I 1,I 0,I (([a,b,c].getD i 0:Nat):Int),str [],bx] true)) [I 1,I 0,I (([a,b,c].getD i 0:Nat):Int),str [],bx]
    ((J.b2.of_le l2.h (sD.h.trans cq)).oW nM.h _) (hW.set Dv _) (gR.of en.nil)
   have vb:=J.gz b7 (.aq [I 1,I 0,I (([a,b,c].getD i 0:Nat):Int),str [],bx] true) cS (by rw[g8];rfl);replace g:=Hid.mk g;clear L FO cq hW bi j6 FE au;simp only[aa,aw,bh,dt, *];exact g.h
  ·have jH:k<2:=by omega
   have bk:¬(d:Int)<1:=by omega
   have bJ:(k:Int)<2:=by omega
   clear SD;simp only[aa,av,ay, *];refine jr (n:=10) fC.h (by omega) (by omega) _ fun aB aO _ eB=>?_;have aO:=aE.h.trans aO;replace eB:=U eB;replace aO:=U aO;simp only[aa, *];refine jr (n:=300) eB.h (by omega) (by omega) _ fun aG bc _ ds=>?_;have bc:=aO.h.trans bc;replace ds:=U ds;replace bc:=U bc;simp only[aa, *];refine jr (n:=4294967296) ds.h (by omega) (by omega) _ fun a1 aY _ cC=>?_;have aY:=bc.h.trans aY;obtain⟨a,ai⟩:∃ a,(bf bT 10).1=a:=⟨_,rfl⟩;obtain⟨b,T⟩:∃ b,(bf (bf bT 10).2 300).1=b:=⟨_,rfl⟩;obtain⟨c,aj⟩:∃ c,(bf (bf (bf bT 10).2 300).2 4294967296).1=c:=⟨_,rfl⟩;obtain⟨r,hr⟩:∃ r,(bf (bf (bf bT 10).2 300).2 4294967296).2=r:=⟨_,rfl⟩;have afU:=WX a b c;have bi:=Tg a1 [(a:Int),b,c] (n:=3) (cells:=[I a,I b,I c]) rfl rfl;have lW:xx bT=(.mk 1 0 (([a,b,c].getD (bf r 3).1 0:Nat):Int) [] [],(bf r 3).2):=by unfold xx;rw[ai,T,aj,hr]
   rw[hr]at cC;rw[ai,T,aj];rw[eI,lW]at L;have aV:=nq cC.in (n:=3) (by omega);obtain⟨B2,bN,Rb,mc,aid,gf⟩:=b9 a1 [I (a:Int),I b,I c];rw[mc,Rb]at bi;have di:=cC.le gf;have bE:=aY.mo gf;have SI:B2≠p:=by have:=cC.lt;omega
   clear ai T aj hr lW cC aY eB ds aO bc;replace di:=U di;replace bE:=U bE;replace bi:=U bi;replace aV:=U aV;replace gf:=U gf;simp only[aa, *];refine jr (n:=3) di.h (by omega) (by omega) _ fun b7 cq _ hW=>?_;obtain⟨i,au⟩:∃ i,(bf r 3).1=i:=⟨_,rfl⟩;rw[au]at aV L;rw[au];have j6:=getD_some (l:=[a,b,c]) (i:=i) aV.h 0;have FE:[(a:Int),b,c][i]?=some (([a,b,c].getD i 0:Nat):Int):=by
    have:[(a:Int),b,c]=[a,b,c].map (fun n:Nat=>(n:Int)):=rfl;rw[this,NA,j6];rfl
   have FO:nc b7 (.slice (some ⟨B2,0,none⟩) 3 1) [(a:Int),b,c]:=by
    rcases bi.h with⟨e,_⟩|⟨id,off,e,af⟩
    ·cases e
    ·have:id=B2:=by
      injection e with az aL bq
      injection az with az
      injection az with az aL bq
      exact az.symm
     subst this;refine .inr ⟨_,_,e,af.imp (fun e=>e) fun⟨cs,o,aA,bw⟩=>⟨cs,o,cq.bP SI aA,bw⟩⟩
   obtain⟨id,off,cells,own,az,aL,bq⟩:=nc.elem FO FE;have cq:=bE.h.trans cq;have g8:=cq.bP (i:=cS) cN g2;have aiN:=NI ([a,b,c].getD i 0:Nat);have dS:=nZ (size:=5) (v:=ko 1 0 (([a,b,c].getD i 0:Nat):Int) [] bx) (cs:=[I 1,I 0,I (([a,b,c].getD i 0:Nat):Int),str [],bx]) g8 rfl rfl rfl rfl;have g:=L.h (b7.set cS (.aq [I 1,I 0,I (([a,b,c].getD i 0:Nat):Int),str [],bx] true)) [I 1,I 0,I (([a,b,c].getD i 0:Nat):Int),str [],bx]
    ((J.b2.of_le l2.h (sD.h.trans cq)).oW nM.h _) (hW.set Dv _) (gR.of en.nil)
   have vb:=J.gz b7 (.aq [I 1,I 0,I (([a,b,c].getD i 0:Nat):Int),str [],bx] true) cS (by rw[g8];rfl);replace g:=Hid.mk g;clear L FO cq hW bi j6 FE au;simp only[aa,aw,bh,dt, *];exact g.h
 ·obtain⟨k6,jH⟩:0<d∧¬ k<2:=by omega
  obtain⟨bW,rfl⟩:∃ bW,d=bW+1:=⟨d-1,by omega⟩;have bk:¬((bW+1:Nat):Int)<1:=by omega
  have bJ:¬(k:Int)<2:=by omega
  have hI:=ih.h bW rfl;clear ih SD;have cF:eG c (bW+1) raw=if k<4 then(.mk 2 0 0 (eZ c.any bT qm).1 [],(eZ c.any bT qm).2)
   else if k=4 then(.mk 3 (15+((bf bT 3).1:Nat)) 0 [] [(eG c bW (bf bT 3).2).1],(eG c bW (bf bT 3).2).2)
   else if k=5∧(c.any=true∨c.held≠[]) then(.mk 5 0 0 (eZ c.any bT c.held).1 [(eG c bW (eZ c.any bT c.held).2).1],(eG c bW (eZ c.any bT c.held).2).2)
   else(.mk 4 (1+((bf bT 14).1:Nat)) 0 [] [(eG c bW (bf bT 14).2).1,(eG c bW (eG c bW (bf bT 14).2).2).1],(eG c bW (eG c bW (bf bT 14).2).2).2):=by
   conv=>lhs;unfold eG
   simp only[ab,jl];rw[if_neg jH]
  have zl:IntKind.i64.wrap (((bW+1:Nat):Int)-1)=(bW:Int):=by rw[cZ (by omega) (by omega)];omega
  have fin:∀(bH:J) (r:List Int) (o n:Int) (fE:Int) (m:aD) (v:Value) (l:List aX),ae.b2 p bH→Src bH p r→en (fun id=>h.next≤id∧id≠cS) bH v l→eG c (bW+1) raw=(.mk fE o n m l,r) →
    cz 5 bH [aH cS 0,ko fE o n m v]=some (b0,bH.set cS (.aq [I fE,I o,I n,str m,v] true)) ∧
    (bH.set cS (.aq [I fE,I o,I n,str m,v] true)).get cS=some (.aq [I fE,I o,I n,str m,v] true) ∧
    Q (ko fE o n m v) (bH.set cS (.aq [I fE,I o,I n,str m,v] true)):=by
   intro bH r o n fE m v l Gu SP G9 aK;have yQ:=Gu.bP cN g2;refine⟨nZ yQ rfl rfl rfl (by simpa[Value.oneCell'] using G9.one),J.gz _ _ _ (by rw[yQ];rfl),?_⟩;rw[aK]at L;exact L.h _ _ ((J.b2.of_le l2.h (sD.h.trans Gu)).oW nM.h _) (SP.set Dv _) (gR.of (G9.to (J.lf _ fun id T=>⟨T.2,T.1⟩)))
  replace fin:=U fin;clear L;by_cases Gp:k<4
  ·have dl:(k:Int)<4:=by omega
   rw[if_pos Gp]at cF;have u:=ym [120] [121] [122];obtain⟨Ec,aB,AD,nI,qH,eO⟩:=b9 ae [str [120],str [121],str [122]];have ib:iw (· ≠ p) aB (.slice (some ⟨Ec,0,none⟩) 3 1) qm:=by
    rw[← nI,← AD];exact B9 ae qm (by show ae.next≠p;have:=fC.h.lt;omega) rfl rfl
   have eB:=fC.h.le eO;replace ib:=U ib;replace eB:=U eB;replace eO:=U eO;simp only[aa,aw,av,ay,dt, *];refine uy eB.h cG.h cP.h gm.h ib.h (by decide) _ fun aG bc ds=>?_;have bc:=(eO.h.eA p).trans bc;obtain⟨f1,f2,f3⟩:=fin.h aG _ 0 0 2 (eZ c.any bT qm).1 bx [] bc ds en.nil cF;have wr:=W3 (eZ c.any bT qm).1;replace f3:=Hid.mk f3;clear fin ds bc cF ib eB hI;simp only[aa,aw,bh,dt, *];exact f3.h
  rw[if_neg Gp]at cF;have dl:¬(k:Int)<4:=by omega
  by_cases za:k=4
  ·subst za;have fa:((4:Nat):Int)=4:=rfl;rw[if_pos rfl]at cF;replace hI:=U hI;replace cF:=U cF;clear Gp jH;have aV:=nq fC.h.in (n:=3) (by omega);simp only[aa,av,ay,Int.reduceLT, *];refine jr (n:=3) fC.h (by omega) (by omega) _ fun aB aO _ eB=>jt aO ?_;have g4:=aO.bP (i:=cd) dw g1;have lQ:=qM.h.eA aO;have gY:=aO.next;obtain⟨o,ah⟩:∃ o,(bf bT 3).1=o:=⟨_,rfl⟩;rw[ah]at aV cF;rw[ah];have Z1:IntKind.i64.wrap (15+(o:Int))=15+(o:Int):=cZ (by omega) (by omega);have aO:=aE.h.trans aO;replace eB:=U eB;replace aO:=U aO;replace lQ:=U lQ;replace aV:=U aV;replace gY:=U gY;simp only[aa,aw,av,ay,dt, *];refine hI.h _ _ _ _ _ eB.h lQ.h fun aG y bc ds kP=>?_;have oQ:=aO.h.trans bc;have ik:aB.next≤aG.next:=bc.next;have u:=pO kP.ea;have c9:=en.new (B':=fun id=>h.next≤id∧id≠cS) (l:=[(eG c bW (bf bT 3).2).1]) (xs:=[y]) ⟨y,[],rfl,kP,rfl⟩ (fun id T _=>by have A:=gY.h;have S:=sD.h.next;have ae:=J.bY g2;have aB:aB.next≤id:=T;have aG:=nM.h;constructor<;>omega)
    (by have A:=gY.h;have S:=sD.h.next;have ae:=J.bY g2;have aG:=nM.h;constructor<;>omega) (by simp) (by simpa using kP.ea.1) (cells:=y) (by simp) (n:=1) rfl
   obtain⟨Ed,a1,CK,iV,lO,gk⟩:=b9 aG y;rw[iV,CK]at c9;have cC:=ds.le gk;obtain⟨f1,f2,f3⟩:=fin.h a1 _ (15+(o:Int)) 0 3 [] _ _ (oQ.mo gk) cC c9 cF.h;have wr:=EZ 3 (15+(o:Int)) (i:=Ed) (n:=1);replace f3:=Hid.mk f3;clear fin ds bc oQ cF cC c9 gk hI kP g4 lO;simp only[aa,aw,bh,av,ay,dt, *];exact f3.h
  rw[if_neg za]at cF;have fa:((k:Int)==4)=false:=by simp;omega
  by_cases vk:k=5∧(c.any=true∨c.held≠[])
  ·obtain⟨rfl,Di⟩:=vk;rw[if_pos ⟨rfl,Di⟩]at cF;have p8:((5:Nat):Int)=5:=rfl;obtain⟨_,_,fV,af,t1,t2,t3,_⟩:=qM.h;have jm:fV=ad:=by injection af with _ af;injection af with _ af;injection af with _ af;injection af with af _;exact af.symm
   subst jm;have kf:=t3.plain.len;have ml:c.any=false→(0:Int)<(c.held.length:Int):=fun e=>by
    have:c.held≠[]:=Di.resolve_left (by simp[e]);have:=List.length_pos_iff.2 this;omega
   replace hI:=U hI;replace cF:=U cF;replace t3:=U t3;replace ml:=U ml;clear Gp jH za af t1 t2;have RV:∀ b:Bool,c.any=b→(b=true∨(b=false∧(0:Int)<(c.held.length:Int))):=fun b e=>by
    cases b with
    |true=>exact .inl rfl
    |false=>exact .inr ⟨rfl,ml.h e⟩
   clear ml Di;cases kI:c.any with
   |true =>
    clear RV;rw[kI]at cF;simp only[kI]at *;simp only[aa,aw,av,ay,Int.reduceBEq,Int.reduceLT,dt, *];refine uy fC.h cG.h cP.h gm.h t3.h (by have:=sm.h;omega) _ fun aB aO eB=>jt aO ?_;have g4:=aO.bP (i:=cd) dw g1;have lQ:=qM.h.eA aO;have gY:=aO.next;obtain⟨nm,lT⟩:∃ nm,eZ true bT c.held=nm:=⟨_,rfl⟩;rw[lT]at eB cF;rw[lT];have aO:=aE.h.trans aO;replace eB:=U eB;replace aO:=U aO;replace lQ:=U lQ;replace gY:=U gY;simp only[aa,aw,av,ay,dt, *];refine hI.h _ _ _ _ _ eB.h lQ.h fun aG y bc ds kP=>?_;have oQ:=aO.h.trans bc;have ik:aB.next≤aG.next:=bc.next;have u:=pO kP.ea;have c9:=en.new (B':=fun id=>h.next≤id∧id≠cS) (l:=[(eG c bW nm.2).1]) (xs:=[y]) ⟨y,[],rfl,kP,rfl⟩ (fun id T _=>by have A:=gY.h;have S:=sD.h.next;have ae:=J.bY g2;have aB:aB.next≤id:=T;have aG:=nM.h;constructor<;>omega)
     (by have A:=gY.h;have S:=sD.h.next;have ae:=J.bY g2;have aG:=nM.h;constructor<;>omega) (by simp) (by simpa using kP.ea.1) (cells:=y) (by simp) (n:=1) rfl
    obtain⟨Ed,a1,CK,iV,lO,gk⟩:=b9 aG y;rw[iV,CK]at c9;have cC:=ds.le gk;obtain⟨f1,f2,f3⟩:=fin.h a1 _ 0 0 5 nm.1 _ _ (oQ.mo gk) cC c9 cF.h;have wr:=W1 nm.1 (i:=Ed) (n:=1);replace f3:=Hid.mk f3;clear fin ds bc oQ cF cC c9 gk hI kP g4 lO;simp only[aa,aw,bh,dt, *];exact f3.h
   |false =>
    have ml:=(RV _ kI).resolve_left (by simp);have ml:=ml.2;clear RV;rw[kI]at cF;simp only[kI]at *;simp only[aa,aw,av,ay,Int.reduceBEq,Int.reduceLT,dt, *];refine uy fC.h cG.h cP.h gm.h t3.h (by have:=sm.h;omega) _ fun aB aO eB=>jt aO ?_;have g4:=aO.bP (i:=cd) dw g1;have lQ:=qM.h.eA aO;have gY:=aO.next;obtain⟨nm,lT⟩:∃ nm,eZ false bT c.held=nm:=⟨_,rfl⟩;rw[lT]at eB cF;rw[lT];have aO:=aE.h.trans aO;replace eB:=U eB;replace aO:=U aO;replace lQ:=U lQ;replace gY:=U gY;simp only[aa,aw,av,ay,dt, *];refine hI.h _ _ _ _ _ eB.h lQ.h fun aG y bc ds kP=>?_;have oQ:=aO.h.trans bc;have ik:aB.next≤aG.next:=bc.next;have u:=pO kP.ea;have c9:=en.new (B':=fun id=>h.next≤id∧id≠cS) (l:=[(eG c bW nm.2).1]) (xs:=[y]) ⟨y,[],rfl,kP,rfl⟩ (fun id T _=>by have A:=gY.h;have S:=sD.h.next;have ae:=J.bY g2;have aB:aB.next≤id:=T;have aG:=nM.h;constructor<;>omega)
     (by have A:=gY.h;have S:=sD.h.next;have ae:=J.bY g2;have aG:=nM.h;constructor<;>omega) (by simp) (by simpa using kP.ea.1) (cells:=y) (by simp) (n:=1) rfl
    obtain⟨Ed,a1,CK,iV,lO,gk⟩:=b9 aG y;rw[iV,CK]at c9;have cC:=ds.le gk;obtain⟨f1,f2,f3⟩:=fin.h a1 _ 0 0 5 nm.1 _ _ (oQ.mo gk) cC c9 cF.h;have wr:=W1 nm.1 (i:=Ed) (n:=1);replace f3:=Hid.mk f3;clear fin ds bc oQ cF cC c9 gk hI kP g4 lO;simp only[aa,aw,bh,dt, *];exact f3.h
  ·rw[if_neg vk]at cF;have aV:=nq fC.h.in (n:=14) (by omega);obtain⟨_,_,fV,af,t1,t2,t3,_⟩:=qM.h;have jm:fV=ad:=by injection af with _ af;injection af with _ af;injection af with _ af;injection af with af _;exact af.symm
   subst jm;have kf:=t3.plain.len;clear af t1 t2 t3 Gp jH za;replace hI:=U hI;replace cF:=U cF;by_cases Di:k=5
   ·subst Di;obtain⟨kI,cp⟩:c.any=false∧c.held=[]:=by
     refine⟨?_,?_⟩
     ·cases ai:c.any with
      |true=>exact absurd ⟨rfl,.inl ai⟩ vk
      |false=>rfl
     ·cases cp:c.held with
      |nil=>rfl
      |cons a r=>exact absurd ⟨rfl,.inr (by simp[cp])⟩ vk
    rw[cp]at kf;have p8:((5:Nat):Int)=5:=rfl;have pb:(([]:List (aD)).length:Int)=0:=rfl;replace cp:=Hid.mk cp;clear vk;simp only[kI]at *;simp only[aa,aw,av,ay,Int.reduceBEq,Int.reduceLT, *];refine jr (n:=14) fC.h (by omega) (by omega) _ fun aB aO _ eB=>jt aO ?_;have g4:=aO.bP (i:=cd) dw g1;have lQ:=qM.h.eA aO;have gY:=aO.next;obtain⟨o,ah⟩:∃ o,(bf bT 14).1=o:=⟨_,rfl⟩;rw[ah]at aV cF;rw[ah];have Z1:IntKind.i64.wrap (1+(o:Int))=1+(o:Int):=cZ (by omega) (by omega);have aO:=aE.h.trans aO;replace eB:=U eB;replace aO:=U aO;replace lQ:=U lQ;replace aV:=U aV;replace gY:=U gY;simp only[aa,aw,av,ay,dt, *];refine hI.h _ _ _ _ _ eB.h lQ.h fun aG y bc ds kP=>jt bc ?_;have g5:=bc.bP (i:=cd) dw g4;have mH:=lQ.h.eA bc;have oQ:=aO.h.trans bc;have jI:aB.next≤aG.next:=bc.next;have lV:=eB.h.lt;clear g4;replace ds:=U ds;replace oQ:=U oQ;replace mH:=U mH;replace jI:=U jI;replace kP:=U kP;replace lV:=U lV;simp only[aa,aw,av,ay,dt, *];refine hI.h _ _ _ _ _ ds.h mH.h fun a1 z aY cC Hh=>?_;have gd:gR (fun id=>aB.next≤id) a1 _ y:=kP.h.to (aY.cg fun id T=>⟨by have A:aB.next≤id:=T;have S:=lV.h;omega,T⟩);have xj:gR (fun id=>aB.next≤id) a1 _ z:=Hh.to (J.jd fun id T=>by have A:aG.next≤id:=T;have S:=jI.h;show aB.next≤id;omega);have Hq:=oQ.h.trans aY;have ik:aG.next≤a1.next:=aY.next;have u:=EY gd.ea xj.ea;have c9:=en.new (B':=fun id=>h.next≤id∧id≠cS) (l:=[(eG c bW (bf bT 14).2).1,(eG c bW (eG c bW (bf bT 14).2).2).1]) (xs:=[y,z]) ⟨y,[z],rfl,gd,z,[],rfl,xj,rfl⟩ (fun id T _=>by have A:=gY.h;have S:=sD.h.next;have ae:=J.bY g2;have aB:aB.next≤id:=T;have aG:=nM.h;constructor<;>omega)
     (by have A:=gY.h;have S:=sD.h.next;have ae:=J.bY g2;have aG:=nM.h;have a1:=jI.h;constructor<;>omega) (by simp) (by intro x af;simp at af;rcases af with rfl|rfl;exact gd.ea.1;exact xj.ea.1) (cells:=y++z) (by simp) (n:=2) rfl
    obtain⟨UE,bN,Q9,mc,Rp,gf⟩:=b9 a1 (y++z);rw[mc,Q9]at c9;have di:=cC.le gf;obtain⟨f1,f2,f3⟩:=fin.h bN _ (1+(o:Int)) 0 4 [] _ _ (Hq.mo gf) di c9 cF.h;have wr:=EZ 4 (1+(o:Int)) (i:=UE) (n:=2);replace f3:=Hid.mk f3;clear fin ds bc oQ aY Hq cF cC di c9 gf hI kP gd Hh xj g5 Rp;simp only[aa,aw,bh,av,ay,dt, *];exact f3.h
   ·have p8:((k:Int)==5)=false:=by simp;omega
    clear vk Di;simp only[aa,av,ay, *];refine jr (n:=14) fC.h (by omega) (by omega) _ fun aB aO _ eB=>jt aO ?_;have g4:=aO.bP (i:=cd) dw g1;have lQ:=qM.h.eA aO;have gY:=aO.next;obtain⟨o,ah⟩:∃ o,(bf bT 14).1=o:=⟨_,rfl⟩;rw[ah]at aV cF;rw[ah];have Z1:IntKind.i64.wrap (1+(o:Int))=1+(o:Int):=cZ (by omega) (by omega);have aO:=aE.h.trans aO;replace eB:=U eB;replace aO:=U aO;replace lQ:=U lQ;replace aV:=U aV;replace gY:=U gY;simp only[aa,aw,av,ay,dt, *];refine hI.h _ _ _ _ _ eB.h lQ.h fun aG y bc ds kP=>jt bc ?_;have g5:=bc.bP (i:=cd) dw g4;have mH:=lQ.h.eA bc;have oQ:=aO.h.trans bc;have jI:aB.next≤aG.next:=bc.next;have lV:=eB.h.lt;clear g4;replace ds:=U ds;replace oQ:=U oQ;replace mH:=U mH;replace jI:=U jI;replace kP:=U kP;replace lV:=U lV;simp only[aa,aw,av,ay,dt, *];refine hI.h _ _ _ _ _ ds.h mH.h fun a1 z aY cC Hh=>?_;have gd:gR (fun id=>aB.next≤id) a1 _ y:=kP.h.to (aY.cg fun id T=>⟨by have A:aB.next≤id:=T;have S:=lV.h;omega,T⟩);have xj:gR (fun id=>aB.next≤id) a1 _ z:=Hh.to (J.jd fun id T=>by have A:aG.next≤id:=T;have S:=jI.h;show aB.next≤id;omega);have Hq:=oQ.h.trans aY;have ik:aG.next≤a1.next:=aY.next;have u:=EY gd.ea xj.ea;have c9:=en.new (B':=fun id=>h.next≤id∧id≠cS) (l:=[(eG c bW (bf bT 14).2).1,(eG c bW (eG c bW (bf bT 14).2).2).1]) (xs:=[y,z]) ⟨y,[z],rfl,gd,z,[],rfl,xj,rfl⟩ (fun id T _=>by have A:=gY.h;have S:=sD.h.next;have ae:=J.bY g2;have aB:aB.next≤id:=T;have aG:=nM.h;constructor<;>omega)
     (by have A:=gY.h;have S:=sD.h.next;have ae:=J.bY g2;have aG:=nM.h;have a1:=jI.h;constructor<;>omega) (by simp) (by intro x af;simp at af;rcases af with rfl|rfl;exact gd.ea.1;exact xj.ea.1) (cells:=y++z) (by simp) (n:=2) rfl
    obtain⟨UE,bN,Q9,mc,Rp,gf⟩:=b9 a1 (y++z);rw[mc,Q9]at c9;have di:=cC.le gf;obtain⟨f1,f2,f3⟩:=fin.h bN _ (1+(o:Int)) 0 4 [] _ _ (Hq.mo gf) di c9 cF.h;have wr:=EZ 4 (1+(o:Int)) (i:=UE) (n:=2);replace f3:=Hid.mk f3;clear fin ds bc oQ aY Hq cF cC di c9 gf hI kP gd Hh xj g5 Rp;simp only[aa,aw,bh,av,ay,dt, *];exact f3.h
theorem ru(c:fk):∀(d:Nat),d≤100→Nc c d
 |0,hd=>Yt hd fun bW hB=>by omega
 |d+1,hd=>Yt hd fun bW hB=>by cases hB;exact ru c d (by omega)
def pA(c:fk)(s:List Int):aD × Nat × List Int :=
 if c.any then((eZ true s c.cv).1,c.free,(eZ true s c.cv).2)
 else
  let bT:=(eZ false s c.cv).2;let i:=c.free+(bf bT (c.cv.length-c.free)).1
  (c.cv.getD i [],i+1,(bf bT (c.cv.length-c.free)).2)
def ly(c:fk)(r:aD)(f:Nat):fk:={ c with free:=f,held:=c.held++[r] }
def rf(rec:Option (fk→List Int→List aP × List Int))(c:fk)(hC:aD)(k:Nat)(b4:List Int):aP × List Int :=
 if k<2 then
  let f:=eZ c.any b4 c.c2
  (.mk 2 hC f.1 ((bf f.2 4).1:Nat) [] [] [],(bf f.2 4).2)
 else if k<5 then
  let f:=eZ c.any b4 c.c2;let n:=bf f.2 4
  (.mk 3 f.1 [] (n.1:Nat) [(eG c 3 n.2).1] [] [],(eG c 3 n.2).2)
 else if k<7∧(c.any=true∨c.held≠[]) then
  let f:=eZ c.any b4 c.held;let a:=eG c 2 f.2
  (.mk 4 f.1 [] 0 [a.1,(eG c 3 a.2).1] [] [],(eG c 3 a.2).2)
 else if k=11 then(.mk 8 [] [] 0 [] [] [],b4)
 else match rec with
  |none=>(.mk 1 hC [] 0 [(eG c 4 b4).1] [] [],(eG c 4 b4).2)
  |some rec =>
   if k<9∧(c.any=true∨c.free<c.cv.length) then
    let r:=pA c b4;let b:=rec (ly c r.1 r.2.1) r.2.2
    (.mk 5 r.1 [] 0 [] b.1 [],b.2)
   else if k=9 then
    let e:=eG c 3 b4;let t:=rec c e.2
    (.mk 6 [] [] 0 [e.1] t.1 (rec c t.2).1,(rec c t.2).2)
   else if k=10 then
    let n:=bf b4 5
    (.mk 7 [] [] (n.1:Nat) [] (rec c n.2).1 [],(rec c n.2).2)
   else(.mk 1 hC [] 0 [(eG c 4 b4).1] [] [],(eG c 4 b4).2)
def oZ(rec:Option (fk→List Int→List aP × List Int))(c:fk)(s:List Int):aP × List Int :=
 rf rec c (eZ c.any s qm).1 (bf (eZ c.any s qm).2 12).1 (bf (eZ c.any s qm).2 12).2
def mu(one:List Int→aP × List Int):Nat→List Int→List aP × List Int
 |0,s=>([],s)
 |n+1,s=>((one s).1::(mu one n (one s).2).1,(mu one n (one s).2).2)
def ow:Nat→fk→List Int→List aP × List Int
 |0,c,s=>mu (oZ none c) (bf s 4).1 (bf s 4).2
 |d+1,c,s=>mu (oZ (some (ow d)) c) (bf s 4).1 (bf s 4).2
def ms:Nat→Option (fk→List Int→List aP × List Int)
 |0=>none
 |d+1=>some (ow d)
theorem adK(d:Nat)(c:fk)(s:List Int):ow d c s=mu (oZ (ms d) c) (bf s 4).1 (bf s 4).2:=by
 cases d<;>rfl
theorem adM(one:List Int→aP × List Int):∀(n:Nat) (s:List Int),mu one (n+1) s=((mu one n s).1++[(one (mu one n s).2).1],(one (mu one n s).2).2)
 |0,s=>rfl
 |n+1,s=>by
  have:=adM one n (one s).2;rw[mu,this];rfl
theorem MO(one:List Int→aP × List Int):∀(n:Nat) (s:List Int),(mu one n s).1.length=n
 |0,s=>rfl
 |n+1,s=>by simp[mu,MO one n]
def V0(c:fk)(d:Nat):Prop:=∀(raw:List Int) (h:J) (p:Nat) (x:ar) (Q:aT),Src h p raw→o6 p h c x →
 (∀ D y,h.b2 p D→Src D p (oZ (ms d) c raw).2→lJ (fun id=>h.next≤id) D (oZ (ms d) c raw).1 y→Q (.agg y.toArray) D)→bj Tryz.prog 83 [.agg x.toArray,aH p 0,I (d:Int)] h Q
def Nq(c:fk)(d:Nat):Prop:=∀(raw:List Int) (h:J) (p:Nat) (x:ar) (Q:aT),Src h p raw→o6 p h c x →
 (∀ D v,h.b2 p D→Src D p (ow d c raw).2→dN (fun id=>h.next≤id) D v (ow d c raw).1→Q v D)→bj Tryz.prog 34 [.agg x.toArray,aH p 0,I (d:Int)] h Q
theorem lJ.cells{B:Nat→Prop}{h:J}{e:aP}{x:ar}(af:lJ B h e x):∃ v u w,x=[I e.kind,str e.name,str e.src,I e.n,v,u,w]∧en B h v e.args∧dN B h u e.aU∧dN B h w e.bz:=by
 cases e;obtain⟨v,xs,u,c4,w,zs,A,S,ae,aB⟩:=af;exact⟨v,u,w,A,⟨xs,S⟩,⟨c4,ae⟩,⟨zs,aB⟩⟩
theorem dN.one{B:Nat→Prop}{h:J}{v:Value}{l:List aP}(ad:dN B h v l):v.oneCell'=true:=ad.plain.one
theorem lJ.ea{B:Nat→Prop}{h:J}{e:aP}{x:ar}(af:lJ B h e x):x.length=7∧x.all (·.oneCell')=true:=by
 obtain⟨v,u,w,rfl,ad,hu,ax⟩:=af.cells;exact⟨rfl,by simpa[Value.oneCell'] using⟨ad.one,hu.one,ax.one⟩⟩
theorem j1.length{B:Nat→Prop}{h:J}:∀ {l:List aP}{xs:List (ar)},j1 B h l xs→xs.length=l.length
 |[],_,af=>by rw[show _=[] from af];rfl
 |_::_,_,⟨x,fJ,A,S,ae⟩=>by rw[A];simp[j1.length ae]
theorem j1.snoc{B:Nat→Prop}{h:J}{e:aP}{x:ar}(af:lJ B h e x):∀ {l:List aP}{xs:List (ar)},j1 B h l xs→j1 B h (l++[e]) (xs++[x])
 |[],_,h0=>by rw[show _=[] from h0];exact⟨x,[],rfl,af,rfl⟩
 |_::_,_,⟨y,Aj,A,S,ae⟩=>by rw[A];exact⟨y,Aj++[x],rfl,S,j1.snoc af ae⟩
theorem WY{x:ar}(af:x.length=7∧x.all (·.oneCell')=true):ie [I 0,aI,aI,I 0,bx,bx,bx] [(0,7)] 1 7 [.agg x.toArray]=some (x,fun id=>.slice (some ⟨id,0,none⟩) 1 7):=uT rfl af.1 rfl af.2
end Go.Eng.Sy
namespace Go.Eng
open Go
def km(n:Nat):J:=⟨n,fun _=>none,fun _ _=>rfl⟩
theorem AB{n:Nat}{h:J}(hn:n≤h.next):(km n).le h:=⟨(fun _ _ e=>by cases e),hn⟩
theorem cL.da{n:Nat}{h:J}{s:Nat}{v:Value}{xs:List (ar)}(ai:cL (km n) h s v xs){i:Nat}(au:i<n):da v i:=by
 rcases ai with⟨rfl,_⟩|⟨id,rfl,A,_⟩
 ·intro a b e;cases e
 ·intro a b e;cases e;have:n≤i:=A;omega
theorem cL.rK{n p:Nat}{h D:J}{s:Nat}{v:Value}{xs:List (ar)}(ai:cL (km n) h s v xs)(hp:p<n)(ag:h.b2 p D):cL (km n) D s v xs :=
 ai.get fun id ad ak=>ag.get id (by
  rcases ai with⟨rfl,_⟩|⟨pw,e,A,_⟩
  ·cases ad
  ·rw[ad]at e;cases e;have S:n≤id:=A;omega) ak
end Go.Eng
namespace Go.Eng.Sy
open Go Go.Eng Go.Proofs
theorem cL.oY{n:Nat}{h:J}{s:Nat}{v:Value}{xs:List (ar)}(ai:cL (km n) h s v xs):dH (fun id=>n≤id) h s v xs:=by
 have ka:=ai.vW;rcases ai with ai|⟨id,rfl,A,_⟩
 ·exact .inl ai
 ·rcases ka with⟨e,_⟩|⟨pw,off,e,af⟩
  ·cases e
  ·cases e
   exact .inr ⟨_,_,rfl,af.imp (fun e=>e) fun a=>⟨A,a⟩⟩
theorem cL.one{n:Nat}{h:J}{s:Nat}{v:Value}{xs:List (ar)}(ai:cL (km n) h s v xs):v.oneCell'=true:=cT.one ai.vW
theorem adN{c:fk}{d:Nat}(hd:d≤100)(ih:V0 c d):Nq c d:=by
 intro raw h p x Q ak aj L;have pZ:=aj;obtain⟨dv,rv,ad,rfl,bT,b4,eg,_⟩:=aj;have dJ:=I4 (f:=(c.free:Int)) (a:=c.any) bT.one b4.one eg.one;obtain⟨cd,A,tO,gO,iA,bt⟩:=b9 h [dv,rv,I (c.free:Int),ad,.bool c.any];have hpl:=ak.lt;have zg:h.next≤cd:=by omega
 have dw:cd≠p:=by omega
 have jl:=ak.le bt;have k4:=pZ.le bt;clear ak pZ bT b4 eg;replace jl:=U jl;replace k4:=U k4;replace bt:=U bt;replace ih:=U ih;replace hpl:=U hpl;replace zg:=U zg;refine c7 (k:=4) amP rfl rfl rfl fun N=>?_;rw[s3 c34 uO rfl];delta c34;replace L:=U L;simp only[aa, *];refine jr (n:=4) jl.h (by omega) (by omega) _ fun S l2 _ e5=>?_;have g2:=l2.bP (i:=cd) dw iA;have eN:=k4.h.eA l2;have aV:=nq jl.h.in (n:=4) (by omega);have dK:=adK d c raw;obtain⟨n,hn⟩:∃ k,(bf raw 4).1=k:=⟨_,rfl⟩;obtain⟨cn,iX⟩:∃ k,(bf raw 4).2=k:=⟨_,rfl⟩;rw[iX]at e5;rw[hn,iX]at dK;rw[hn]at aV;rw[hn];rw[dK]at L;have l2:=J.b2.of_le bt.h l2;clear jl k4 bt iA dJ dK;have Lf:h.next≤S.next:=l2.next;replace e5:=U e5;replace eN:=U eN;replace l2:=U l2;replace aV:=U aV;replace Lf:=U Lf;simp only[aa, *];have la:=e5.h.lt;have cN:=J.bY g2;refine ch.down (fun m e ae=>∃ j v xs ek,j+m=n∧e=[En dv rv (c.free:Int) ad c.any,aH p 0,I (d:Int),aH cd 0,ek,v,I (m:Int)]∧S.b2 p ae ∧
  Src ae p (mu (oZ (ms d) c) j cn).2∧cL (km S.next) ae 7 v xs∧j1 (fun id=>S.next≤id∧da v id) ae (mu (oZ (ms d) c) j cn).1 xs) ?_ (m:=n) ⟨0,bx,[],_,by omega,rfl,.refl _ _,e5.h,cL.nil _ _ _,rfl⟩
 rintro m _ ae R ⟨j,v,xs,ek,bn,rfl,aE,fC,fb,gc⟩ aN;delta Xo;have g3:=aE.bP (i:=cd) dw g2;have qM:=eN.h.eA aE;clear g2;replace aE:=U aE;replace qM:=U qM;replace fC:=U fC;replace fb:=U fb;replace gc:=U gc;replace bn:=U bn;replace la:=U la;replace cN:=U cN;cases m with
 |zero =>
  have z:¬(0:Int)<((0:Nat):Int):=by decide
  have Zm:j=n:=by have:=bn.h;omega
  rw[Zm]at fC gc;have g:=L.h ae v (l2.h.trans aE.h) fC.h ⟨xs,dH.to (J.jd fun id T=>by have A:S.next≤id:=T;have:=Lf.h;show h.next≤id;omega) (cL.oY fb.h),by rw[gc.h.length,MO];have:=aV.h;omega,gc.h.to (J.jd fun id T=>by have:=T.1;have:=Lf.h;show h.next≤id;omega)⟩;replace g:=Hid.mk g;clear aN L Zm;simp only[aa,av,ay, *];exact g.h
 |succ m =>
  have z:(0:Int)<((m+1:Nat):Int):=by omega
  have ax:IntKind.i64.wrap (((m+1:Nat):Int)-1)=(m:Int):=by have:=bn.h;have:=aV.h;rw[cZ (by omega) (by omega)];omega
  simp only[aa,aw,av,ay,dt, *];refine ih.h _ _ _ _ _ fC.h qM.h fun aB y aO eB Z8=>?_;have kM:=fb.h.rK (by exact la.h) aO;have asI:S.next≤ae.next:=aE.h.next;have zk:∀ id,ae.next≤id→da v id:=fun id cQ=>by
   rcases fb.h with⟨rfl,_⟩|⟨b,rfl,_,aA,_⟩
   ·intro a b e;cases e
   ·intro a b' e;cases e;have:=J.bY aA;omega
  have DE:j1 (fun id=>S.next≤id∧da v id) aB _ xs:=gc.h.to (aO.cg fun id T=>⟨by have:=T.1;have:=la.h;omega,T⟩);have xf:lJ (fun id=>S.next≤id∧da v id) aB _ y:=Z8.to (J.jd fun id T=>by have A:ae.next≤id:=T;exact⟨by omega,zk id A⟩);have aR:xs.length=j:=by rw[DE.length,MO]
  obtain⟨v',aG,qr,rE,TV,dG,p9,HR⟩:=kM.yh (x:=y) (AB (by have:=aO.next;show S.next≤aB.next;omega)) xf.ea.1 (by omega) (b:=120) (by have:=bn.h;have:=aV.h;omega) (by have:=bn.h;have:=aV.h;omega);have u:=WY xf.ea;have ab:J.cg (fun id=>S.next≤id∧da v id) (fun id=>S.next≤id∧da v' id) aB aG:=fun id cs own T aA=>⟨⟨T.1,p9 id (by rw[aA];rfl)⟩,by rw[dG id (by rw[aA];rfl) T.2];exact aA⟩;have th:=j1.snoc (xf.to ab) (DE.to ab);have nN:=adM (oZ (ms d) c) j cn;have az:(mu (oZ (ms d) c) (j+1) cn).1=(mu (oZ (ms d) c) j cn).1++[(oZ (ms d) c (mu (oZ (ms d) c) j cn).2).1]:=by rw[nN]
  have aL:(mu (oZ (ms d) c) (j+1) cn).2=(oZ (ms d) c (mu (oZ (ms d) c) j cn).2).2:=by rw[nN]
  rw[← az]at th;rw[← aL]at eB;have gF:∀ i,i<S.next→(aB.get i).isSome=true→aG.get i=aB.get i:=fun i au dj=>dG i dj (fb.h.da au);have bc:S.b2 p aG:=⟨fun i au dj=>by
   obtain⟨o,Gh⟩:=r1.1 dj;have dm:=J.bY Gh;have k2:=(aE.h.trans aO).get i au dj;rw[gF i dm (by rw[k2];exact dj),k2],by have:=aO.next;omega⟩
  have ds:Src aG p (mu (oZ (ms d) c) (j+1) cn).2:=by
   obtain⟨u,ck,cm,cb⟩:=eB;exact⟨u,by rw[gF p (by exact la.h) (by rw[ck];rfl)];exact ck,dH.to (fun id cs own T aA=>⟨T,by rw[gF id (by have A:id<p:=T;have:=la.h;omega) (by rw[aA];rfl)];exact aA⟩) cm,cb⟩
  clear gc fC fb qM DE eB kM Z8 xf dG p9 ab gF aO HR TV az aL nN zk aE g3;replace bc:=U bc;replace ds:=U ds;replace rE:=U rE;replace th:=U th;simp only[aa,bh,av,ay, *];exact aN.h m _ _ (by omega) ⟨j+1,v',xs++[y],_,by have:=bn.h;omega,rfl,bc.h,ds.h,rE.h,th.h⟩
abbrev ny:ar:=[I 0,aI,aI,I 0,bx,bx,bx]
abbrev aJ:Value:=bx
def gN(v:Value):Prop:=∃ p a b,v=.slice p a b
theorem yi{v:Value}(m:aD)(ad:gN v)(k:Int):gQ ny [(0,1),(1,1),(4,1)] [I k,str m,v]=some (kw k m [] 0 v aJ aJ):=by
 obtain⟨_,_,_,rfl⟩:=ad;rfl
theorem afE(m f:aD)(n:Int):gQ ny [(0,1),(1,1),(2,1),(3,1)] [I 2,str m,str f,I n]=some (kw 2 m f n aJ aJ aJ):=rfl
theorem afJ{v:Value}(m:aD)(n:Int)(ad:gN v):gQ ny [(0,1),(1,1),(3,1),(4,1)] [I 3,str m,I n,v]=some (kw 3 m [] n v aJ aJ):=by
 obtain⟨_,_,_,rfl⟩:=ad;rfl
theorem Ny{v:Value}(m:aD)(ad:gN v):gQ ny [(0,1),(1,1),(5,1)] [I 5,str m,v]=some (kw 5 m [] 0 aJ v aJ):=by
 obtain⟨_,_,_,rfl⟩:=ad;rfl
theorem afG{v u w:Value}(ad:gN v)(hu:gN u)(ax:gN w):gQ ny [(0,1),(4,1),(5,1),(6,1)] [I 6,v,u,w]=some (kw 6 [] [] 0 v u w):=by
 obtain⟨_,_,_,rfl⟩:=ad;obtain⟨_,_,_,rfl⟩:=hu;obtain⟨_,_,_,rfl⟩:=ax;rfl
theorem afK{v:Value}(n:Int)(ad:gN v):gQ ny [(0,1),(3,1),(5,1)] [I 7,I n,v]=some (kw 7 [] [] n aJ v aJ):=by
 obtain⟨_,_,_,rfl⟩:=ad;rfl
theorem afF:gQ ny [(0,1)] [I 8]=some (kw 8 [] [] 0 aJ aJ aJ):=rfl
theorem dH.e6{B:Nat→Prop}{h:J}{s:Nat}{v:Value}{xs:List (ar)}(ad:dH B h s v xs):gN v:=by
 rcases ad with⟨rfl,_⟩|⟨id,off,rfl,_⟩<;>exact⟨_,_,_,rfl⟩
theorem dN.e6{B:Nat→Prop}{h:J}{v:Value}{l:List aP}(ad:dN B h v l):gN v:=ad.elim fun _ a=>a.1.e6
theorem en.e6{B:Nat→Prop}{h:J}{v:Value}{l:List aX}(ad:en B h v l):gN v:=ad.elim fun _ a=>a.1.e6
theorem adH{c:fk}{d:Nat}(s9:c.held.length+d≤100)(ih:∀ bW,d=bW+1→∀ c:fk,c.held.length+bW≤100→Nq c bW):V0 c d:=by
 replace s9:=Hid.mk s9;intro raw h p x Q ak aj L;have pZ:=aj;obtain⟨dv,rv,ad,rfl,bT,b4,eg,iy,ni,pN,I1⟩:=aj;have dJ:=I4 (f:=(c.free:Int)) (a:=c.any) bT.one b4.one eg.one;have cG:=bT.one;have cP:=b4.one;have gm:=eg.one;obtain⟨cd,A,tO,gO,iA,bt⟩:=b9 h [dv,rv,I (c.free:Int),ad,.bool c.any];obtain⟨cS,S,u4,jz,eE,dh⟩:=b9 A ny;have hpl:=ak.lt;have zg:h.next≤cd:=by omega
 have Sl:=bt.next;have GR:=J.bY iA;have nM:h.next≤cS:=by omega
 have dw:cd≠p:=by omega
 have cN:cS≠p:=by omega
 have Dv:p<cS:=by omega
 have wT:=dh.get iA;have l2:=bt.trans dh;have e5:=ak.le l2;have eN:=pZ.le l2;have h5:iw (· ≠ p) S dv c.c2:=dH.to (l2.cg fun _ h=>h) bT;have fO:iw (· ≠ p) S rv c.cv:=dH.to (l2.cg fun _ h=>h) b4;have mI:iw (· ≠ p) S ad c.held:=dH.to (l2.cg fun _ h=>h) eg;have fi:=ym [120] [121] [122];obtain⟨tu,ae,yJ,jA,hT,dq⟩:=b9 S [str [120],str [121],str [122]];have ib:iw (· ≠ p) ae (.slice (some ⟨tu,0,none⟩) 3 1) qm:=by
  rw[← jA,← yJ];exact B9 S qm (by show S.next≠p;have:=e5.lt;omega) rfl rfl
 have fC:=e5.le dq;have ai6:=dq.get wT;have KI:=eE;have kG:=wT;clear ak pZ bT b4 eg iA bt dh Sl e5 eE;replace eN:=U eN;replace l2:=U l2;replace cG:=U cG;replace cP:=U cP;replace gm:=U gm;replace ih:=U ih;replace hpl:=U hpl;replace zg:=U zg;replace GR:=U GR;replace nM:=U nM;replace iy:=U iy;replace ni:=U ni;replace pN:=U pN;replace I1:=U I1;replace h5:=U h5;replace fO:=U fO;replace mI:=U mI;replace ib:=U ib;replace fC:=U fC;replace dq:=U dq;replace kG:=U kG;replace KI:=U KI;refine E5 (k:=4) (agg:=true) (size:=7) anB rfl rfl rfl fun N=>?_;rw[s3 Qr Vv rfl];delta Qr;replace L:=U L;simp only[aa,aw,dt, *];refine uy fC.h cG.h cP.h gm.h ib.h (by decide) _ fun aB aO eB=>?_;have aO:=(dq.h.eA p).trans aO;obtain⟨hC,Sn⟩:∃ k,(eZ c.any raw qm).1=k:=⟨_,rfl⟩;obtain⟨cn,iX⟩:∃ k,(eZ c.any raw qm).2=k:=⟨_,rfl⟩;have eI:oZ (ms d) c raw=rf (ms d) c hC (bf cn 12).1 (bf cn 12).2:=by unfold oZ;rw[Sn,iX]
 rw[iX]at eB;rw[Sn];clear Sn iX ib fC dq fi jA yJ ai6 wT dJ gO jz tO u4;replace eB:=U eB;replace aO:=U aO;simp only[aa, *];refine jr (n:=12) eB.h (by omega) (by omega) _ fun aG bc _ ds=>?_;have aV:=nq eB.h.in (n:=12) (by omega);have bc:=aO.h.trans bc;obtain⟨k,ab⟩:∃ k,(bf cn 12).1=k:=⟨_,rfl⟩;obtain⟨bM,ZM⟩:∃ k,(bf cn 12).2=k:=⟨_,rfl⟩;rw[ab,ZM]at eI;rw[ab]at aV;rw[ZM]at ds;rw[ab];rw[eI]at L;have la:=eB.h.lt;have fin:∀(bH:J) (r:List Int) (fE n:Int) (m f:aD) (v u w:Value) (a:List aX) (t e:List aP),S.b2 p bH→Src bH p r→en (fun id=>h.next≤id∧id≠cS) bH v a→dN (fun id=>h.next≤id∧id≠cS) bH u t→dN (fun id=>h.next≤id∧id≠cS) bH w e→rf (ms d) c hC k bM=(.mk fE m f n a t e,r) →
   cz 7 bH [aH cS 0,kw fE m f n v u w]=some (b0,bH.set cS (.aq [I fE,str m,str f,I n,v,u,w] true)) ∧
   (bH.set cS (.aq [I fE,str m,str f,I n,v,u,w] true)).get cS=some (.aq [I fE,str m,str f,I n,v,u,w] true) ∧
   Q (kw fE m f n v u w) (bH.set cS (.aq [I fE,str m,str f,I n,v,u,w] true)):=by
  intro bH r fE n m f v u w a t e Gu SP G9 ZW Z4 aK;have yQ:=Gu.bP cN KI.h;refine⟨nZ yQ rfl rfl rfl (by simpa[Value.oneCell'] using⟨G9.one,ZW.one,Z4.one⟩),J.gz _ _ _ (by rw[yQ];rfl),?_⟩;rw[aK]at L;have aC:J.cg (fun id=>h.next≤id∧id≠cS) (fun id=>h.next≤id) bH (bH.set cS (.aq [I fE,str m,str f,I n,v,u,w] true)):=J.lf _ fun id T=>⟨T.2,T.1⟩;exact L.h _ _ ((J.b2.of_le l2.h Gu).oW nM.h _) (SP.set Dv _) (lJ.of (G9.to aC) (ZW.to aC) (Z4.to aC))
 have gV:∀ bH:J,S.b2 p bH→∀ id,bH.next≤id→h.next≤id∧id≠cS:=fun bH ag id cQ=>by
  have A:=ag.next;have ae:=J.bY KI.h;have aG:=nM.h;constructor<;>omega
 have g1:=bc.bP (i:=cd) dw kG.h;have mH:=eN.h.eA bc;have zl:∀ bW,d=bW+1→IntKind.i64.wrap (((d:Nat):Int)-1)=(bW:Int):=fun bW e=>by have:=s9.h;subst e;rw[cZ (by omega) (by omega)];omega
 clear L eB aO;replace fin:=U fin;replace gV:=U gV;replace ds:=U ds;replace bc:=U bc;replace mH:=U mH;replace aV:=U aV;replace zl:=U zl;replace eI:=U eI;replace la:=U la;have mJ:(cd==p)=false:=by simpa using dw
 clear eI;have eI:=Hid.mk True.intro;by_cases cm:k<2
 ·have bk:(k:Int)<2:=by omega
  have cF:rf (ms d) c hC k bM=(.mk 2 hC (eZ c.any bM c.c2).1 ((bf (eZ c.any bM c.c2).2 4).1:Nat) [] [] [],(bf (eZ c.any bM c.c2).2 4).2):=by
   unfold rf;rw[if_pos cm]
  simp only[aa,aw,av,ay,dt, *];refine uy ds.h cG.h cP.h gm.h (dH.to (bc.h.cg fun _ h=>⟨h,h⟩) h5.h) (by have:=iy.h;omega) _ fun a1 aY cC=>?_;have aY:=bc.h.trans aY;have g6:=aY.bP (i:=cd) dw kG.h;have hg:=eN.h.eA aY;replace cC:=U cC;replace aY:=U aY;replace hg:=U hg;simp only[aa, *];refine jr (n:=4) cC.h (by omega) (by omega) _ fun bN bE _ di=>?_;have bE:=aY.h.trans bE;have g7:=bE.bP (i:=cd) dw kG.h;have nk:=eN.h.eA bE;replace di:=U di;replace bE:=U bE;replace nk:=U nk;obtain⟨f1,f2,f3⟩:=fin.h bN _ _ _ _ _ aJ aJ aJ [] [] [] bE.h di.h en.nil dN.nil dN.nil cF;have mA:=afE hC (eZ c.any bM c.c2).1 ((bf (eZ c.any bM c.c2).2 4).1:Nat);clear cF;replace f3:=Hid.mk f3;clear fin eI gV ih;simp only[aa,aw,bh,jX, *];exact f3.h
 have bk:¬(k:Int)<2:=by omega
 by_cases dG:k<5
 ·have bJ:(k:Int)<5:=by omega
  have cF:rf (ms d) c hC k bM=(.mk 3 (eZ c.any bM c.c2).1 [] ((bf (eZ c.any bM c.c2).2 4).1:Nat) [(eG c 3 (bf (eZ c.any bM c.c2).2 4).2).1] [] [],(eG c 3 (bf (eZ c.any bM c.c2).2 4).2).2):=by
   unfold rf;rw[if_neg cm,if_pos dG]
  simp only[aa,aw,av,ay,dt, *];refine uy ds.h cG.h cP.h gm.h (dH.to (bc.h.cg fun _ h=>⟨h,h⟩) h5.h) (by have:=iy.h;omega) _ fun a1 aY cC=>jt aY ?_;have aY:=bc.h.trans aY;have g6:=aY.bP (i:=cd) dw kG.h;have hg:=eN.h.eA aY;replace cC:=U cC;replace aY:=U aY;replace hg:=U hg;simp only[aa, *];refine jr (n:=4) cC.h (by omega) (by omega) _ fun bN bE _ di=>jt bE ?_;have bE:=aY.h.trans bE;have g7:=bE.bP (i:=cd) dw kG.h;have nk:=eN.h.eA bE;replace di:=U di;replace bE:=U bE;replace nk:=U nk;simp only[aa,aw,dt, *];refine ru c 3 (by omega) _ _ _ _ _ di.h nk.h fun b7 l4 cq hW oN=>?_;have BN:=Hid.mk cq;have cq:=bE.h.trans cq;have g8:=cq.bP (i:=cd) dw kG.h;have tY:=eN.h.eA cq;replace hW:=U hW;replace cq:=U cq;replace tY:=U tY;replace oN:=U oN;have xR:=pO oN.h.ea;have c9:=en.new (B':=fun id=>h.next≤id∧id≠cS) (l:=[_]) (xs:=[l4]) ⟨l4,[],rfl,oN.h,rfl⟩ (fun id T _=>gV.h _ bE.h id T) (gV.h _ cq.h _ (br _)) (by simp) (by simpa using oN.h.ea.1) (cells:=l4) (by simp) (n:=1) rfl;obtain⟨xF,dE,n9,j3,wV,pz⟩:=b9 b7 l4;rw[j3,n9]at c9;have no:=hW.h.le pz;have jo:=cq.h.mo pz;obtain⟨f1,f2,f3⟩:=fin.h dE _ _ _ _ _ _ aJ aJ _ [] [] jo no c9 dN.nil dN.nil cF;have mA:=afJ (eZ c.any bM c.c2).1 ((bf (eZ c.any bM c.c2).2 4).1:Nat) c9.e6;clear cF c9 no jo pz;replace f3:=Hid.mk f3;clear fin eI gV ih;simp only[aa,aw,bh,jX, *];exact f3.h
 have bJ:¬(k:Int)<5:=by omega
 by_cases iF:k<7∧(c.any=true∨c.held≠[])
 ·have dl:(k:Int)<7:=by omega
  have cF:rf (ms d) c hC k bM=(.mk 4 (eZ c.any bM c.held).1 [] 0 [(eG c 2 (eZ c.any bM c.held).2).1,(eG c 3 (eG c 2 (eZ c.any bM c.held).2).2).1] [] [],(eG c 3 (eG c 2 (eZ c.any bM c.held).2).2).2):=by
   unfold rf;rw[if_neg cm,if_neg dG,if_pos iF]
  have kf:=(iw.plain mI.h).len;have kI:c.any=true∨(c.any=false∧(0:Int)<(c.held.length:Int)):=by
   cases ai:c.any with
   |true=>exact .inl rfl
   |false =>
    have:=List.length_pos_iff.2 (iF.2.resolve_left (by simp[ai]));exact .inr ⟨rfl,by omega⟩
  clear iF dG cm;obtain⟨any,Y5⟩:∃ a,c.any=a:=⟨_,rfl⟩;rcases kI with kI|⟨kI,ml⟩
  ·skip
   clear Y5;simp only[kI]at *;simp only[aa,aw,av,ay,dt, *];refine uy ds.h cG.h cP.h gm.h (dH.to (bc.h.cg fun _ h=>⟨h,h⟩) mI.h) (by have:=pN.h;omega) _ fun a1 aY cC=>jt aY ?_;have aY:=bc.h.trans aY;have g6:=aY.bP (i:=cd) dw kG.h;have hg:=eN.h.eA aY;replace cC:=U cC;replace aY:=U aY;replace hg:=U hg;simp only[aa,aw,dt, *];refine ru c 2 (by omega) _ _ _ _ _ cC.h hg.h fun bN sS bE di Bu=>jt bE ?_;have DW:=Hid.mk bE;have bE:=aY.h.trans bE;have g7:=bE.bP (i:=cd) dw kG.h;have nk:=eN.h.eA bE;replace di:=U di;replace bE:=U bE;replace nk:=U nk;replace Bu:=U Bu;simp only[aa,aw,dt, *];refine ru c 3 (by omega) _ _ _ _ _ di.h nk.h fun b7 l4 cq hW oN=>?_;have BN:=Hid.mk cq;have cq:=bE.h.trans cq;have g8:=cq.bP (i:=cd) dw kG.h;have tY:=eN.h.eA cq;replace hW:=U hW;replace cq:=U cq;replace tY:=U tY;replace oN:=U oN;have xg:gR (fun id=>a1.next≤id) b7 _ sS:=Bu.h.to (BN.h.cg fun id T=>⟨by have A:a1.next≤id:=T;have S:=cC.h.lt;omega,T⟩);have xh:gR (fun id=>a1.next≤id) b7 _ l4:=oN.h.to (J.jd fun id T=>by have A:bN.next≤id:=T;have S:=DW.h.next;show a1.next≤id;omega);have xR:=EY xg.ea xh.ea;have c9:=en.new (B':=fun id=>h.next≤id∧id≠cS) (l:=[_,_]) (xs:=[sS,l4]) ⟨sS,[l4],rfl,xg,l4,[],rfl,xh,rfl⟩ (fun id T _=>gV.h _ aY.h id T) (gV.h _ cq.h _ (br _)) (by simp) (by intro x af;simp at af;rcases af with rfl|rfl;exact xg.ea.1;exact xh.ea.1) (cells:=sS++l4) (by simp) (n:=2) rfl;obtain⟨xF,dE,n9,j3,wV,pz⟩:=b9 b7 (sS++l4);rw[j3,n9]at c9;have no:=hW.h.le pz;have jo:=cq.h.mo pz;obtain⟨f1,f2,f3⟩:=fin.h dE _ _ _ _ _ _ aJ aJ _ [] [] jo no c9 dN.nil dN.nil cF;have mA:=yi (eZ true bM c.held).1 c9.e6 4;clear cF c9 no jo pz xg xh;replace f3:=Hid.mk f3;clear fin eI gV ih;simp only[aa,aw,bh,jX, *];exact f3.h
  ·skip
   clear Y5;simp only[kI]at *;simp only[aa,aw,av,ay,dt, *];refine uy ds.h cG.h cP.h gm.h (dH.to (bc.h.cg fun _ h=>⟨h,h⟩) mI.h) (by have:=pN.h;omega) _ fun a1 aY cC=>jt aY ?_;have aY:=bc.h.trans aY;have g6:=aY.bP (i:=cd) dw kG.h;have hg:=eN.h.eA aY;replace cC:=U cC;replace aY:=U aY;replace hg:=U hg;simp only[aa,aw,dt, *];refine ru c 2 (by omega) _ _ _ _ _ cC.h hg.h fun bN sS bE di Bu=>jt bE ?_;have DW:=Hid.mk bE;have bE:=aY.h.trans bE;have g7:=bE.bP (i:=cd) dw kG.h;have nk:=eN.h.eA bE;replace di:=U di;replace bE:=U bE;replace nk:=U nk;replace Bu:=U Bu;simp only[aa,aw,dt, *];refine ru c 3 (by omega) _ _ _ _ _ di.h nk.h fun b7 l4 cq hW oN=>?_;have BN:=Hid.mk cq;have cq:=bE.h.trans cq;have g8:=cq.bP (i:=cd) dw kG.h;have tY:=eN.h.eA cq;replace hW:=U hW;replace cq:=U cq;replace tY:=U tY;replace oN:=U oN;have xg:gR (fun id=>a1.next≤id) b7 _ sS:=Bu.h.to (BN.h.cg fun id T=>⟨by have A:a1.next≤id:=T;have S:=cC.h.lt;omega,T⟩);have xh:gR (fun id=>a1.next≤id) b7 _ l4:=oN.h.to (J.jd fun id T=>by have A:bN.next≤id:=T;have S:=DW.h.next;show a1.next≤id;omega);have xR:=EY xg.ea xh.ea;have c9:=en.new (B':=fun id=>h.next≤id∧id≠cS) (l:=[_,_]) (xs:=[sS,l4]) ⟨sS,[l4],rfl,xg,l4,[],rfl,xh,rfl⟩ (fun id T _=>gV.h _ aY.h id T) (gV.h _ cq.h _ (br _)) (by simp) (by intro x af;simp at af;rcases af with rfl|rfl;exact xg.ea.1;exact xh.ea.1) (cells:=sS++l4) (by simp) (n:=2) rfl;obtain⟨xF,dE,n9,j3,wV,pz⟩:=b9 b7 (sS++l4);rw[j3,n9]at c9;have no:=hW.h.le pz;have jo:=cq.h.mo pz;obtain⟨f1,f2,f3⟩:=fin.h dE _ _ _ _ _ _ aJ aJ _ [] [] jo no c9 dN.nil dN.nil cF;have mA:=yi (eZ false bM c.held).1 c9.e6 4;clear cF c9 no jo pz xg xh;replace f3:=Hid.mk f3;clear fin eI gV ih;simp only[aa,aw,bh,jX, *];exact f3.h
 have b8:k<7→c.any=false∧c.held=[]:=fun bN=>by
  constructor
  ·cases ai:c.any with
   |false=>rfl
   |true=>exact absurd ⟨bN,.inl ai⟩ iF
  ·cases cp:c.held with
   |nil=>rfl
   |cons a r=>exact absurd ⟨bN,.inr (by simp[cp])⟩ iF
 have kf:=(iw.plain mI.h).len;have DT:=(iw.plain fO.h).len;replace b8:=U b8;replace kf:=U kf;replace DT:=U DT;by_cases tk:k=11
 ·subst tk;have ahn:((11:Nat):Int)=11:=rfl;have cF:rf (ms d) c hC 11 bM=(.mk 8 [] [] 0 [] [] [],bM):=by
   unfold rf;rw[if_neg cm,if_neg dG,if_neg iF,if_pos rfl]
  obtain⟨f1,f2,f3⟩:=fin.h aG _ _ _ _ _ aJ aJ aJ [] [] [] bc.h ds.h en.nil dN.nil dN.nil cF;have mA:=afF;clear cm dG iF bk bJ cF;replace f3:=Hid.mk f3;clear fin eI gV ih;simp only[aa,aw,bh,av,ay,Int.reduceBEq,Int.reduceLT,jX, *];exact f3.h
 have ahn:((k:Int)==11)=false:=by simp;omega
 have Lu:∀ rec,ms d=rec→rf (ms d) c hC k bM=match rec with
  |none=>(.mk 1 hC [] 0 [(eG c 4 bM).1] [] [],(eG c 4 bM).2)
  |some rec =>
   if k<9∧(c.any=true∨c.free<c.cv.length) then
    (.mk 5 (pA c bM).1 [] 0 [] (rec (ly c (pA c bM).1 (pA c bM).2.1) (pA c bM).2.2).1 [],(rec (ly c (pA c bM).1 (pA c bM).2.1) (pA c bM).2.2).2)
   else if k=9 then
    (.mk 6 [] [] 0 [(eG c 3 bM).1] (rec c (eG c 3 bM).2).1 (rec c (rec c (eG c 3 bM).2).2).1,(rec c (rec c (eG c 3 bM).2).2).2)
   else if k=10 then
    (.mk 7 [] [] ((bf bM 5).1:Nat) [] (rec c (bf bM 5).2).1 [],(rec c (bf bM 5).2).2)
   else(.mk 1 hC [] 0 [(eG c 4 bM).1] [] [],(eG c 4 bM).2):=fun rec GV=>by
  unfold rf;rw[if_neg cm,if_neg dG,if_neg iF,if_neg tk,GV];all_goals (cases rec<;>rfl)
 clear cm dG iF;rcases Nat.eq_zero_or_pos d with rfl|aj0
 ·have cF:=Lu none rfl;simp only at cF;have z0:¬(0:Int)<((0:Nat):Int):=by decide
  clear Lu;by_cases dl:(k:Int)<7
  ·obtain⟨kI,cp⟩:=b8.h (by omega);have kf:=kf.h;rw[cp]at kf;have ab3:(([]:List (aD)).length:Int)=0:=rfl;have fa:(k:Int)<9:=by omega
   have e9:((k:Int)==9)=false:=by simp;omega
   have Fb:((k:Int)==10)=false:=by simp;omega
   replace cp:=Hid.mk cp;simp only[kI]at *;simp only[aa,aw,av,ay,Int.reduceLT,dt, *];refine ru c 4 (by omega) _ _ _ _ _ ds.h mH.h fun a1 ic aY cC gd=>?_;have DV:=Hid.mk aY;have aY:=bc.h.trans aY;have g6:=aY.bP (i:=cd) dw kG.h;have hg:=eN.h.eA aY;replace cC:=U cC;replace aY:=U aY;replace hg:=U hg;replace gd:=U gd;have xR:=pO gd.h.ea;have c9:=en.new (B':=fun id=>h.next≤id∧id≠cS) (l:=[_]) (xs:=[ic]) ⟨ic,[],rfl,gd.h,rfl⟩ (fun id T _=>gV.h _ bc.h id T) (gV.h _ aY.h _ (br _)) (by simp) (by simpa using gd.h.ea.1) (cells:=ic) (by simp) (n:=1) rfl;obtain⟨xF,bN,n9,mc,wV,gf⟩:=b9 a1 ic;rw[mc,n9]at c9;have di:=cC.h.le gf;have bE:=aY.h.mo gf;obtain⟨f1,f2,f3⟩:=fin.h bN _ _ _ _ _ _ aJ aJ _ [] [] bE di c9 dN.nil dN.nil cF;have mA:=yi hC c9.e6 1;clear cF c9 di bE gf;replace f3:=Hid.mk f3;clear fin eI gV ih;simp only[aa,aw,bh,jX, *];exact f3.h
  ·by_cases fa:(k:Int)<9
   ·have e9:((k:Int)==9)=false:=by simp;omega
    have Fb:((k:Int)==10)=false:=by simp;omega
    simp only[aa,aw,av,ay,dt, *];refine ru c 4 (by omega) _ _ _ _ _ ds.h mH.h fun a1 ic aY cC gd=>?_;have DV:=Hid.mk aY;have aY:=bc.h.trans aY;have g6:=aY.bP (i:=cd) dw kG.h;have hg:=eN.h.eA aY;replace cC:=U cC;replace aY:=U aY;replace hg:=U hg;replace gd:=U gd;have xR:=pO gd.h.ea;have c9:=en.new (B':=fun id=>h.next≤id∧id≠cS) (l:=[_]) (xs:=[ic]) ⟨ic,[],rfl,gd.h,rfl⟩ (fun id T _=>gV.h _ bc.h id T) (gV.h _ aY.h _ (br _)) (by simp) (by simpa using gd.h.ea.1) (cells:=ic) (by simp) (n:=1) rfl;obtain⟨xF,bN,n9,mc,wV,gf⟩:=b9 a1 ic;rw[mc,n9]at c9;have di:=cC.h.le gf;have bE:=aY.h.mo gf;obtain⟨f1,f2,f3⟩:=fin.h bN _ _ _ _ _ _ aJ aJ _ [] [] bE di c9 dN.nil dN.nil cF;have mA:=yi hC c9.e6 1;clear cF c9 di bE gf;replace f3:=Hid.mk f3;clear fin eI gV ih;simp only[aa,aw,bh,jX, *];exact f3.h
   ·by_cases zy:k=9
    ·subst zy;have e9:((9:Nat):Int)=9:=rfl;clear bk bJ dl fa;simp only[aa,aw,av,ay,Int.reduceBEq,Int.reduceLT,dt, *];refine ru c 4 (by omega) _ _ _ _ _ ds.h mH.h fun a1 ic aY cC gd=>?_;have DV:=Hid.mk aY;have aY:=bc.h.trans aY;have g6:=aY.bP (i:=cd) dw kG.h;have hg:=eN.h.eA aY;replace cC:=U cC;replace aY:=U aY;replace hg:=U hg;replace gd:=U gd;have xR:=pO gd.h.ea;have c9:=en.new (B':=fun id=>h.next≤id∧id≠cS) (l:=[_]) (xs:=[ic]) ⟨ic,[],rfl,gd.h,rfl⟩ (fun id T _=>gV.h _ bc.h id T) (gV.h _ aY.h _ (br _)) (by simp) (by simpa using gd.h.ea.1) (cells:=ic) (by simp) (n:=1) rfl;obtain⟨xF,bN,n9,mc,wV,gf⟩:=b9 a1 ic;rw[mc,n9]at c9;have di:=cC.h.le gf;have bE:=aY.h.mo gf;obtain⟨f1,f2,f3⟩:=fin.h bN _ _ _ _ _ _ aJ aJ _ [] [] bE di c9 dN.nil dN.nil cF;have mA:=yi hC c9.e6 1;clear cF c9 di bE gf;replace f3:=Hid.mk f3;clear fin eI gV ih;simp only[aa,aw,bh,jX, *];exact f3.h
    ·have Zn:k=10:=by have:=aV.h;omega
     subst Zn;have Fb:((10:Nat):Int)=10:=rfl;clear bk bJ dl fa;simp only[aa,aw,av,ay,Int.reduceBEq,Int.reduceLT,dt, *];refine ru c 4 (by omega) _ _ _ _ _ ds.h mH.h fun a1 ic aY cC gd=>?_;have DV:=Hid.mk aY;have aY:=bc.h.trans aY;have g6:=aY.bP (i:=cd) dw kG.h;have hg:=eN.h.eA aY;replace cC:=U cC;replace aY:=U aY;replace hg:=U hg;replace gd:=U gd;have xR:=pO gd.h.ea;have c9:=en.new (B':=fun id=>h.next≤id∧id≠cS) (l:=[_]) (xs:=[ic]) ⟨ic,[],rfl,gd.h,rfl⟩ (fun id T _=>gV.h _ bc.h id T) (gV.h _ aY.h _ (br _)) (by simp) (by simpa using gd.h.ea.1) (cells:=ic) (by simp) (n:=1) rfl;obtain⟨xF,bN,n9,mc,wV,gf⟩:=b9 a1 ic;rw[mc,n9]at c9;have di:=cC.h.le gf;have bE:=aY.h.mo gf;obtain⟨f1,f2,f3⟩:=fin.h bN _ _ _ _ _ _ aJ aJ _ [] [] bE di c9 dN.nil dN.nil cF;have mA:=yi hC c9.e6 1;clear cF c9 di bE gf;replace f3:=Hid.mk f3;clear fin eI gV ih;simp only[aa,aw,bh,jX, *];exact f3.h
 obtain⟨bW,rfl⟩:∃ bW,d=bW+1:=⟨d-1,by omega⟩;have atX:(0:Int)<((bW+1:Nat):Int):=by omega
 have cF:=Lu (some (ow bW)) rfl;simp only at cF;have zl:=zl.h bW rfl;clear Lu aj0;by_cases vF:k<9∧(c.any=true∨c.free<c.cv.length)
 ·rw[if_pos vF]at cF;have fa:(k:Int)<9:=by omega
  have DT:=DT.h;cases kI:c.any with
  |true =>
   obtain⟨b3,vz⟩:∃ a,(eZ true bM c.cv).1=a:=⟨_,rfl⟩;obtain⟨nv,sq⟩:∃ a,(eZ true bM c.cv).2=a:=⟨_,rfl⟩;obtain⟨he,ub⟩:∃ a,c.free=a:=⟨_,rfl⟩;have Gx:pA c bM=(b3,he,nv):=by unfold pA;rw[kI,if_pos rfl,vz,sq,ub]
   have bZ:(ly c b3 he).free≤100:=by have:=I1.h;show he≤100;omega
   rw[Gx]at cF;have dl:¬(k:Int)<7:=fun e=>by have:=(b8.h (by omega)).1;rw[kI]at this;cases this
   clear vF Gx;simp only[kI,ub]at g1 kG eN mH ⊢;have dS:=kk (h:=aG) (v:=En dv rv (he:Int) ad true) (zs:=[aJ,aJ,I 0,aJ,.bool false]) (cs:=[dv,rv,I (he:Int),ad,.bool true]) (size:=5) rfl rfl rfl (by simpa[Value.oneCell'] using⟨cG.h,cP.h,gm.h⟩);obtain⟨iK,a1,Fk,iV,yV,gk⟩:=b9 aG [dv,rv,I (he:Int),ad,.bool true];rw[iV,Fk]at dS;have g6:=gk.get g1;have oK:S.next≤iK:=by have:=bc.h.next;omega
   have vy:iK≠p:=by have:=ds.h.lt;omega
   have GS:cd≠iK:=by have:=J.bY g1;omega
   have Lj:(cd==iK)=false:=by simpa using GS
   have vv:(iK==p)=false:=by simpa using vy
   have cC:=ds.h.le gk;have aY:=bc.h.mo gk;replace cC:=U cC;replace aY:=U aY;replace gk:=U gk;replace oK:=U oK;simp only[aa,aw,bh,av,ay,dt, *];refine uy cC.h cG.h cP.h gm.h (dH.to (aY.h.cg fun _ h=>⟨h,h⟩) fO.h) (by have:=ni.h;omega) _ fun bN bE di=>?_;have C1:=bE.bP (i:=iK) vy yV;have g7:=bE.bP (i:=cd) dw g6;have bE:=aY.h.trans bE;clear yV g6;replace di:=U di;replace bE:=U bE;rw[sq]at di;rw[vz];have ka:=iw.plain (dH.to (B':=(· ≠ p)) (bE.h.cg fun _ h=>⟨h,h⟩) mI.h);obtain⟨fR,lk,Wu,uf,zI,p7,_,HP⟩:=(cL.nil (km bN.next) bN 1).append (AB (br _)) ka (by omega) (b:=16) (by have:=pN.h;simp;omega) (by have:=pN.h;simp;omega);obtain⟨eX,pU,Wv,ug,Hu,tk,_,HQ⟩:=uf.yh (x:=[str b3]) zI rfl (by omega) (b:=16) (by have:=pN.h;simp;omega) (by have:=pN.h;simp;omega);have NB:=uW b3;have py:bN.le pU:=⟨fun i o aA=>by
    have A:=J.bY aA;rw[tk i (by rw[p7 i (by rw[aA];rfl) (by intro a b e;cases e)];rw[aA];rfl) (uf.da A),p7 i (by rw[aA];rfl) (by intro a b e;cases e)];exact aA,by omega⟩
   have tT:=py.get C1;have g11:=py.get g7;have Af:gN eX:=(cL.oY ug).e6;have Ab:=iU (off:=3) tT (by simp) (v:=eX) (by obtain⟨_,_,_,rfl⟩:=Af;rfl) (by obtain⟨_,_,_,rfl⟩:=Af;rfl);have ZK:=J.bY C1;obtain⟨hj,nH⟩:∃ nx,pU.set iK (.aq [dv,rv,I (he:Int),eX,.bool true] true)=nx:=⟨_,rfl⟩;have adA:cz 1 pU [aH iK 3,eX]=some (b0,hj):=by rw[← nH];exact Ab
   have YF:hj.get iK=some (.aq [dv,rv,I (he:Int),eX,.bool true] true):=by rw[← nH];exact J.gz _ _ _ (by rw[tT];rfl)
   have mn:S.b2 p hj:=by rw[← nH];exact(bE.h.mo py).oW oK.h _
   have um:Src hj p nv:=by rw[← nH];exact(di.h.le py).set (by have:=ds.h.lt;have:=oK.h;have:=la.h;have:=bc.h.next;omega) _
   have sm:iw (· ≠ p) hj eX (c.held++[b3]):=by
    have:=cL.oY ug;rw[NE]at this;have pV:dH (· ≠ p) hj 1 eX ((c.held.map fun s=>[str s])++[[str b3]]):=by
     rw[← nH];exact dH.to (J.lf _ fun id T=>by have A:bN.next≤id:=T;have:=di.h.lt;constructor<;>omega) this
    show dH _ _ _ _ ((c.held++[b3]).map fun s=>[str s]);rw[Ir];exact pV
   have tX:o6 p hj (ly c b3 he) [dv,rv,I (he:Int),eX,.bool true] :=
    ⟨dv,rv,eX,by rw[show(ly c b3 he).any=true from kI];rfl,dH.to (mn.cg fun _ h=>⟨h,h⟩) h5.h,dH.to (mn.cg fun _ h=>⟨h,h⟩) fO.h,sm,iy.h,ni.h,by have:=s9.h;simp[ly];omega,bZ⟩
   have Lh:=s9.h;clear ka py tT g11 Ab nH sm p7 tk zI Hu uf ug HP HQ;replace mn:=U mn;replace um:=U um;replace tX:=U tX;simp only[aa,aw,bh,av,ay,dt, *];refine ih.h bW rfl (ly c b3 he) (by simp[ly];omega) _ _ _ _ _ um.h tX.h fun pV v om zi zj=>?_;have om:=mn.h.trans om;have uq:=zj.to (B':=fun id=>h.next≤id∧id≠cS) (J.jd fun id T=>gV.h _ mn.h id T);have mA:=Ny b3 uq.e6;obtain⟨f1,f2,f3⟩:=fin.h pV _ _ _ _ _ aJ _ aJ [] _ [] om zi en.nil uq dN.nil cF;clear cF uq zi om zj;replace f3:=Hid.mk f3;clear fin eI gV ih;simp only[aa,aw,bh,jX, *];exact f3.h
  |false =>
   have kK:c.free<c.cv.length:=vF.2.resolve_left (by simp[kI]);have ast:(c.free:Int)<(c.cv.length:Int):=by omega
   have asD:(eZ false bM c.cv).1=(eZ false bM c.cv).1:=rfl;obtain⟨cE,lW⟩:∃ a,(eZ false bM c.cv).2=a:=⟨_,rfl⟩;obtain⟨i,au⟩:∃ a,(bf cE (c.cv.length-c.free)).1=a:=⟨_,rfl⟩;obtain⟨nv,sq⟩:∃ a,(bf cE (c.cv.length-c.free)).2=a:=⟨_,rfl⟩;obtain⟨b3,vz⟩:∃ a,c.cv.getD (c.free+i) []=a:=⟨_,rfl⟩;obtain⟨he,ub⟩:∃ a,c.free+i+1=a:=⟨_,rfl⟩;have Gx:pA c bM=(b3,he,nv):=by unfold pA;rw[kI];simp only[xZ,if_false];rw[lW,au,sq,vz,ub]
   rw[Gx]at cF;clear vF Gx;simp only[kI]at g1 kG eN mH ⊢;have Bs:IntKind.i64.wrap ((c.cv.length:Int)-(c.free:Int))=((c.cv.length-c.free:Nat):Int):=by have:=ni.h;rw[cZ (by omega) (by omega)];omega
   replace kK:=U kK;by_cases dl:(k:Int)<7
   ·have kf:=kf.h;rw[(b8.h (by omega)).2]at kf;have ab3:(([]:List (aD)).length:Int)=0:=rfl;have dS:=kk (h:=aG) (v:=En dv rv (c.free:Int) ad false) (zs:=[aJ,aJ,I 0,aJ,.bool false]) (cs:=[dv,rv,I (c.free:Int),ad,.bool false]) (size:=5) rfl rfl rfl (by simpa[Value.oneCell'] using⟨cG.h,cP.h,gm.h⟩);obtain⟨iK,a1,Fk,iV,yV,gk⟩:=b9 aG [dv,rv,I (c.free:Int),ad,.bool false];rw[iV,Fk]at dS;have g6:=gk.get g1;have oK:S.next≤iK:=by have:=bc.h.next;omega
    have vy:iK≠p:=by have:=ds.h.lt;omega
    have GS:cd≠iK:=by have:=J.bY g1;omega
    have Lj:(cd==iK)=false:=by simpa using GS
    have vv:(iK==p)=false:=by simpa using vy
    have cC:=ds.h.le gk;have aY:=bc.h.mo gk;replace cC:=U cC;replace aY:=U aY;replace gk:=U gk;replace oK:=U oK;simp only[aa,aw,bh,av,ay,Int.reduceLT,dt, *];refine uy cC.h cG.h cP.h gm.h (dH.to (aY.h.cg fun _ h=>⟨h,h⟩) fO.h) (by have:=ni.h;omega) _ fun bN bE di=>?_;have C1:=bE.bP (i:=iK) vy yV;have g7:=bE.bP (i:=cd) dw g6;have bE:=aY.h.trans bE;clear yV g6;replace di:=U di;replace bE:=U bE;rw[lW]at di;have GA:=nq di.h.in (n:=c.cv.length-c.free) (by have:=kK.h;omega);rw[au]at GA;simp only[aa,aw,av,ay, *];refine jr (n:=c.cv.length-c.free) di.h (by have:=kK.h;omega) (by have:=ni.h;omega) _ fun b7 cq _ hW=>jt cq ?_;rw[sq]at hW;rw[au];have FF:=cq.bP (i:=iK) vy C1;have g8:=cq.bP (i:=cd) dw g7;have cq:=bE.h.trans cq;have GU:=iw.plain (dH.to (B':=(· ≠ p)) (cq.cg fun _ h=>⟨h,h⟩) fO.h);obtain⟨sA,off,cells,own,az,aL,bq,_⟩:=GU.elem (getD_some (l:=c.cv) (i:=c.free+i) (by have:=kK.h;omega) []);rw[vz]at bq;have He:IntKind.i64.wrap ((c.free:Int)+(i:Int))=((c.free+i:Nat):Int):=by have:=ni.h;have:=kK.h;rw[cZ (by omega) (by omega)];omega
    have sx:IntKind.i64.wrap (((c.free+i:Nat):Int)+1)=(he:Int):=by have:=ni.h;have:=kK.h;rw[cZ (by omega) (by omega)];omega
    have U7:=VC (off:=2) (k:=.i64) (z:=(he:Int)) FF (by simp);obtain⟨dE,j3⟩:∃ nx,b7.set iK (.aq ([dv,rv,I (c.free:Int),ad,.bool false].set 2 (I (he:Int))) true)=nx:=⟨_,rfl⟩;rw[j3]at U7;have FG:dE.get iK=some (.aq [dv,rv,I (he:Int),ad,.bool false] true):=by rw[← j3];exact J.gz _ _ _ (by rw[FF];rfl)
    have g9:dE.get cd=some (.aq [dv,rv,I (c.free:Int),ad,.bool false] true):=by rw[← j3,J.dT _ _ _ _ Lj];exact g8
    have no:Src dE p nv:=by rw[← j3];exact hW.set (by have:=la.h;have:=oK.h;have:=ds.h.lt;have:=bc.h.next;omega) _
    have jo:S.b2 p dE:=by rw[← j3];exact cq.oW oK.h _
    have bZ:(ly c b3 he).free≤100:=by have:=ni.h;have:=kK.h;show he≤100;omega
    clear GU j3 cq hW GA ub;replace no:=U no;replace jo:=U jo;have ka:=iw.plain (dH.to (B':=(· ≠ p)) (jo.h.cg fun _ h=>⟨h,h⟩) mI.h);obtain⟨fR,lk,Wu,uf,zI,p7,_,HP⟩:=(cL.nil (km dE.next) dE 1).append (AB (br _)) ka (by omega) (b:=16) (by have:=pN.h;simp;omega) (by have:=pN.h;simp;omega);obtain⟨eX,pU,Wv,ug,Hu,tk,_,HQ⟩:=uf.yh (x:=[str b3]) zI rfl (by omega) (b:=16) (by have:=pN.h;simp;omega) (by have:=pN.h;simp;omega);have NB:=uW b3;have py:dE.le pU:=⟨fun i o aA=>by
     have A:=J.bY aA;rw[tk i (by rw[p7 i (by rw[aA];rfl) (by intro a b e;cases e)];rw[aA];rfl) (uf.da A),p7 i (by rw[aA];rfl) (by intro a b e;cases e)];exact aA,by omega⟩
    have tT:=py.get FG;have g11:=py.get g9;have Af:gN eX:=(cL.oY ug).e6;have Ab:=iU (off:=3) tT (by simp) (v:=eX) (by obtain⟨_,_,_,rfl⟩:=Af;rfl) (by obtain⟨_,_,_,rfl⟩:=Af;rfl);have ZK:=J.bY FG;obtain⟨hj,nH⟩:∃ nx,pU.set iK (.aq [dv,rv,I (he:Int),eX,.bool false] true)=nx:=⟨_,rfl⟩;have adA:cz 1 pU [aH iK 3,eX]=some (b0,hj):=by rw[← nH];exact Ab
    have YF:hj.get iK=some (.aq [dv,rv,I (he:Int),eX,.bool false] true):=by rw[← nH];exact J.gz _ _ _ (by rw[tT];rfl)
    have mn:S.b2 p hj:=by rw[← nH];exact(jo.h.mo py).oW oK.h _
    have um:Src hj p nv:=by rw[← nH];exact(no.h.le py).set (by have:=ds.h.lt;have:=oK.h;have:=la.h;have:=bc.h.next;omega) _
    have sm:iw (· ≠ p) hj eX (c.held++[b3]):=by
     have:=cL.oY ug;rw[NE]at this;have pV:dH (· ≠ p) hj 1 eX ((c.held.map fun s=>[str s])++[[str b3]]):=by
      rw[← nH];exact dH.to (J.lf _ fun id T=>by have A:dE.next≤id:=T;have:=no.h.lt;constructor<;>omega) this
     show dH _ _ _ _ ((c.held++[b3]).map fun s=>[str s]);rw[Ir];exact pV
    have tX:o6 p hj (ly c b3 he) [dv,rv,I (he:Int),eX,.bool false] :=
     ⟨dv,rv,eX,by rw[show(ly c b3 he).any=false from kI];rfl,dH.to (mn.cg fun _ h=>⟨h,h⟩) h5.h,dH.to (mn.cg fun _ h=>⟨h,h⟩) fO.h,sm,iy.h,ni.h,by have:=s9.h;simp[ly];omega,bZ⟩
    have Lh:=s9.h;clear ka py tT g11 Ab nH sm p7 tk zI Hu uf ug HP HQ;replace mn:=U mn;replace um:=U um;replace tX:=U tX;simp only[aa,aw,bh,av,ay,dt, *];refine ih.h bW rfl (ly c b3 he) (by simp[ly];omega) _ _ _ _ _ um.h tX.h fun pV v om zi zj=>?_;have om:=mn.h.trans om;have uq:=zj.to (B':=fun id=>h.next≤id∧id≠cS) (J.jd fun id T=>gV.h _ mn.h id T);have mA:=Ny b3 uq.e6;obtain⟨f1,f2,f3⟩:=fin.h pV _ _ _ _ _ aJ _ aJ [] _ [] om zi en.nil uq dN.nil cF;clear cF uq zi om zj;replace f3:=Hid.mk f3;clear fin eI gV ih;simp only[aa,aw,bh,jX, *];exact f3.h
   ·skip
    have dS:=kk (h:=aG) (v:=En dv rv (c.free:Int) ad false) (zs:=[aJ,aJ,I 0,aJ,.bool false]) (cs:=[dv,rv,I (c.free:Int),ad,.bool false]) (size:=5) rfl rfl rfl (by simpa[Value.oneCell'] using⟨cG.h,cP.h,gm.h⟩);obtain⟨iK,a1,Fk,iV,yV,gk⟩:=b9 aG [dv,rv,I (c.free:Int),ad,.bool false];rw[iV,Fk]at dS;have g6:=gk.get g1;have oK:S.next≤iK:=by have:=bc.h.next;omega
    have vy:iK≠p:=by have:=ds.h.lt;omega
    have GS:cd≠iK:=by have:=J.bY g1;omega
    have Lj:(cd==iK)=false:=by simpa using GS
    have vv:(iK==p)=false:=by simpa using vy
    have cC:=ds.h.le gk;have aY:=bc.h.mo gk;replace cC:=U cC;replace aY:=U aY;replace gk:=U gk;replace oK:=U oK;simp only[aa,aw,bh,av,ay,dt, *];refine uy cC.h cG.h cP.h gm.h (dH.to (aY.h.cg fun _ h=>⟨h,h⟩) fO.h) (by have:=ni.h;omega) _ fun bN bE di=>?_;have C1:=bE.bP (i:=iK) vy yV;have g7:=bE.bP (i:=cd) dw g6;have bE:=aY.h.trans bE;clear yV g6;replace di:=U di;replace bE:=U bE;rw[lW]at di;have GA:=nq di.h.in (n:=c.cv.length-c.free) (by have:=kK.h;omega);rw[au]at GA;simp only[aa,aw,av,ay, *];refine jr (n:=c.cv.length-c.free) di.h (by have:=kK.h;omega) (by have:=ni.h;omega) _ fun b7 cq _ hW=>jt cq ?_;rw[sq]at hW;rw[au];have FF:=cq.bP (i:=iK) vy C1;have g8:=cq.bP (i:=cd) dw g7;have cq:=bE.h.trans cq;have GU:=iw.plain (dH.to (B':=(· ≠ p)) (cq.cg fun _ h=>⟨h,h⟩) fO.h);obtain⟨sA,off,cells,own,az,aL,bq,_⟩:=GU.elem (getD_some (l:=c.cv) (i:=c.free+i) (by have:=kK.h;omega) []);rw[vz]at bq;have He:IntKind.i64.wrap ((c.free:Int)+(i:Int))=((c.free+i:Nat):Int):=by have:=ni.h;have:=kK.h;rw[cZ (by omega) (by omega)];omega
    have sx:IntKind.i64.wrap (((c.free+i:Nat):Int)+1)=(he:Int):=by have:=ni.h;have:=kK.h;rw[cZ (by omega) (by omega)];omega
    have U7:=VC (off:=2) (k:=.i64) (z:=(he:Int)) FF (by simp);obtain⟨dE,j3⟩:∃ nx,b7.set iK (.aq ([dv,rv,I (c.free:Int),ad,.bool false].set 2 (I (he:Int))) true)=nx:=⟨_,rfl⟩;rw[j3]at U7;have FG:dE.get iK=some (.aq [dv,rv,I (he:Int),ad,.bool false] true):=by rw[← j3];exact J.gz _ _ _ (by rw[FF];rfl)
    have g9:dE.get cd=some (.aq [dv,rv,I (c.free:Int),ad,.bool false] true):=by rw[← j3,J.dT _ _ _ _ Lj];exact g8
    have no:Src dE p nv:=by rw[← j3];exact hW.set (by have:=la.h;have:=oK.h;have:=ds.h.lt;have:=bc.h.next;omega) _
    have jo:S.b2 p dE:=by rw[← j3];exact cq.oW oK.h _
    have bZ:(ly c b3 he).free≤100:=by have:=ni.h;have:=kK.h;show he≤100;omega
    clear GU j3 cq hW GA ub;replace no:=U no;replace jo:=U jo;have ka:=iw.plain (dH.to (B':=(· ≠ p)) (jo.h.cg fun _ h=>⟨h,h⟩) mI.h);obtain⟨fR,lk,Wu,uf,zI,p7,_,HP⟩:=(cL.nil (km dE.next) dE 1).append (AB (br _)) ka (by omega) (b:=16) (by have:=pN.h;simp;omega) (by have:=pN.h;simp;omega);obtain⟨eX,pU,Wv,ug,Hu,tk,_,HQ⟩:=uf.yh (x:=[str b3]) zI rfl (by omega) (b:=16) (by have:=pN.h;simp;omega) (by have:=pN.h;simp;omega);have NB:=uW b3;have py:dE.le pU:=⟨fun i o aA=>by
     have A:=J.bY aA;rw[tk i (by rw[p7 i (by rw[aA];rfl) (by intro a b e;cases e)];rw[aA];rfl) (uf.da A),p7 i (by rw[aA];rfl) (by intro a b e;cases e)];exact aA,by omega⟩
    have tT:=py.get FG;have g11:=py.get g9;have Af:gN eX:=(cL.oY ug).e6;have Ab:=iU (off:=3) tT (by simp) (v:=eX) (by obtain⟨_,_,_,rfl⟩:=Af;rfl) (by obtain⟨_,_,_,rfl⟩:=Af;rfl);have ZK:=J.bY FG;obtain⟨hj,nH⟩:∃ nx,pU.set iK (.aq [dv,rv,I (he:Int),eX,.bool false] true)=nx:=⟨_,rfl⟩;have adA:cz 1 pU [aH iK 3,eX]=some (b0,hj):=by rw[← nH];exact Ab
    have YF:hj.get iK=some (.aq [dv,rv,I (he:Int),eX,.bool false] true):=by rw[← nH];exact J.gz _ _ _ (by rw[tT];rfl)
    have mn:S.b2 p hj:=by rw[← nH];exact(jo.h.mo py).oW oK.h _
    have um:Src hj p nv:=by rw[← nH];exact(no.h.le py).set (by have:=ds.h.lt;have:=oK.h;have:=la.h;have:=bc.h.next;omega) _
    have sm:iw (· ≠ p) hj eX (c.held++[b3]):=by
     have:=cL.oY ug;rw[NE]at this;have pV:dH (· ≠ p) hj 1 eX ((c.held.map fun s=>[str s])++[[str b3]]):=by
      rw[← nH];exact dH.to (J.lf _ fun id T=>by have A:dE.next≤id:=T;have:=no.h.lt;constructor<;>omega) this
     show dH _ _ _ _ ((c.held++[b3]).map fun s=>[str s]);rw[Ir];exact pV
    have tX:o6 p hj (ly c b3 he) [dv,rv,I (he:Int),eX,.bool false] :=
     ⟨dv,rv,eX,by rw[show(ly c b3 he).any=false from kI];rfl,dH.to (mn.cg fun _ h=>⟨h,h⟩) h5.h,dH.to (mn.cg fun _ h=>⟨h,h⟩) fO.h,sm,iy.h,ni.h,by have:=s9.h;simp[ly];omega,bZ⟩
    have Lh:=s9.h;clear ka py tT g11 Ab nH sm p7 tk zI Hu uf ug HP HQ;replace mn:=U mn;replace um:=U um;replace tX:=U tX;simp only[aa,aw,bh,av,ay,dt, *];refine ih.h bW rfl (ly c b3 he) (by simp[ly];omega) _ _ _ _ _ um.h tX.h fun pV v om zi zj=>?_;have om:=mn.h.trans om;have uq:=zj.to (B':=fun id=>h.next≤id∧id≠cS) (J.jd fun id T=>gV.h _ mn.h id T);have mA:=Ny b3 uq.e6;obtain⟨f1,f2,f3⟩:=fin.h pV _ _ _ _ _ aJ _ aJ [] _ [] om zi en.nil uq dN.nil cF;clear cF uq zi om zj;replace f3:=Hid.mk f3;clear fin eI gV ih;simp only[aa,aw,bh,jX, *];exact f3.h
 rw[if_neg vF]at cF;by_cases zy:k=9
 ·subst zy;rw[if_pos rfl]at cF;have e9:((9:Nat):Int)=9:=rfl;clear vF bk bJ;have dl:¬(9:Int)<7:=by decide
  simp only[aa,aw,av,ay,Int.reduceLT,dt, *];refine ru c 3 (by omega) _ _ _ _ _ ds.h mH.h fun a1 ic aY cC gd=>jt aY ?_;have DV:=Hid.mk aY;have aY:=bc.h.trans aY;have g6:=aY.bP (i:=cd) dw kG.h;have hg:=eN.h.eA aY;replace cC:=U cC;replace aY:=U aY;replace hg:=U hg;replace gd:=U gd;simp only[aa,aw,av,ay,dt, *];refine ih.h bW rfl c (by have:=s9.h;omega) _ _ _ _ _ cC.h hg.h fun bN Vy bE di Bp=>jt bE ?_;have DW:=Hid.mk bE;have bE:=aY.h.trans bE;have g7:=bE.bP (i:=cd) dw kG.h;have nk:=eN.h.eA bE;replace di:=U di;replace bE:=U bE;replace nk:=U nk;replace Bp:=U Bp;simp only[aa,aw,av,ay,dt, *];refine ih.h bW rfl c (by have:=s9.h;omega) _ _ _ _ _ di.h nk.h fun b7 ar7 cq hW S2=>?_;have BN:=Hid.mk cq;have cq:=bE.h.trans cq;have g8:=cq.bP (i:=cd) dw kG.h;have tY:=eN.h.eA cq;replace hW:=U hW;replace cq:=U cq;replace tY:=U tY;replace S2:=U S2;have oN:gR (fun id=>aG.next≤id) b7 _ ic:=gd.h.to ((DW.h.trans BN.h).cg fun id T=>⟨by have A:aG.next≤id:=T;have S:=ds.h.lt;omega,T⟩);have xR:=pO oN.ea;have c9:=en.new (B':=fun id=>h.next≤id∧id≠cS) (l:=[_]) (xs:=[ic]) ⟨ic,[],rfl,oN,rfl⟩ (fun id T _=>gV.h _ bc.h id T) (gV.h _ cq.h _ (br _)) (by simp) (by simpa using oN.ea.1) (cells:=ic) (by simp) (n:=1) rfl;have ZX:dN (fun id=>bN.next≤id) b7 ar7 _:=S2.h;have DA:dN (fun id=>h.next≤id∧id≠cS) b7 Vy _:=Bp.h.to (BN.h.cg fun id T=>⟨by have A:a1.next≤id:=T;have S:=cC.h.lt;omega,gV.h _ aY.h id T⟩);obtain⟨xF,dE,n9,j3,wV,pz⟩:=b9 b7 ic;rw[j3,n9]at c9;have no:=hW.h.le pz;have jo:=cq.h.mo pz;have S3:=DA.to (pz.cg fun id T=>T);have xc:=ZX.to (B':=fun id=>h.next≤id∧id≠cS) (pz.cg fun id T=>gV.h _ bE.h id T);have mA:=afG c9.e6 S3.e6 xc.e6;obtain⟨f1,f2,f3⟩:=fin.h dE _ _ _ _ _ _ _ _ _ _ _ jo no c9 S3 xc cF;clear cF c9 no jo pz S3 xc DA ZX oN;replace f3:=Hid.mk f3;clear fin eI gV ih;simp only[aa,aw,bh,jX, *];exact f3.h
 rw[if_neg zy]at cF;by_cases p7:k=10
 ·subst p7;rw[if_pos rfl]at cF;have Fb:((10:Nat):Int)=10:=rfl;clear vF bk bJ zy;simp only[aa,av,ay,Int.reduceBEq,Int.reduceLT, *];refine jr (n:=5) ds.h (by omega) (by omega) _ fun a1 aY _ cC=>jt aY ?_;have aY:=bc.h.trans aY;have g6:=aY.bP (i:=cd) dw kG.h;have hg:=eN.h.eA aY;replace cC:=U cC;replace aY:=U aY;replace hg:=U hg;simp only[aa,aw,av,ay,dt, *];refine ih.h bW rfl c (by have:=s9.h;omega) _ _ _ _ _ cC.h hg.h fun bN Vy bE di Bp=>?_;have DW:=Hid.mk bE;have bE:=aY.h.trans bE;have g7:=bE.bP (i:=cd) dw kG.h;have nk:=eN.h.eA bE;replace di:=U di;replace bE:=U bE;replace nk:=U nk;replace Bp:=U Bp;have DA:dN (fun id=>h.next≤id∧id≠cS) bN Vy _:=Bp.h.to (J.jd fun id T=>gV.h _ aY.h id T);have mA:=afK ((bf bM 5).1:Nat) DA.e6;obtain⟨f1,f2,f3⟩:=fin.h bN _ _ _ _ _ aJ _ aJ [] _ [] bE.h di.h en.nil DA dN.nil cF;clear cF DA;replace f3:=Hid.mk f3;clear fin eI gV ih;simp only[aa,aw,bh,jX, *];exact f3.h
 rw[if_neg p7]at cF;have fa:(k:Int)<9:=by have:=aV.h;omega
 have e9:((k:Int)==9)=false:=by simp;omega
 have Fb:((k:Int)==10)=false:=by simp;omega
 have kI:c.any=false:=by
  cases ai:c.any with
  |false=>rfl
  |true=>exact absurd ⟨by omega,.inl ai⟩ vF
 have kK:¬(c.free:Int)<(c.cv.length:Int):=fun e=>vF ⟨by omega,.inr (by omega)⟩;have DT:=DT.h;clear vF;simp only[kI]at *;by_cases dl:(k:Int)<7
 ·have kf:=kf.h;rw[(b8.h (by omega)).2]at kf;have ab3:(([]:List (aD)).length:Int)=0:=rfl;simp only[aa,aw,av,ay,Int.reduceLT,dt, *];refine ru c 4 (by omega) _ _ _ _ _ ds.h mH.h fun a1 ic aY cC gd=>?_;have DV:=Hid.mk aY;have aY:=bc.h.trans aY;have g6:=aY.bP (i:=cd) dw kG.h;have hg:=eN.h.eA aY;replace cC:=U cC;replace aY:=U aY;replace hg:=U hg;replace gd:=U gd;have xR:=pO gd.h.ea;have c9:=en.new (B':=fun id=>h.next≤id∧id≠cS) (l:=[_]) (xs:=[ic]) ⟨ic,[],rfl,gd.h,rfl⟩ (fun id T _=>gV.h _ bc.h id T) (gV.h _ aY.h _ (br _)) (by simp) (by simpa using gd.h.ea.1) (cells:=ic) (by simp) (n:=1) rfl;obtain⟨xF,bN,n9,mc,wV,gf⟩:=b9 a1 ic;rw[mc,n9]at c9;have di:=cC.h.le gf;have bE:=aY.h.mo gf;obtain⟨f1,f2,f3⟩:=fin.h bN _ _ _ _ _ _ aJ aJ _ [] [] bE di c9 dN.nil dN.nil cF;have mA:=yi hC c9.e6 1;clear cF c9 di bE gf;replace f3:=Hid.mk f3;clear fin eI gV ih;simp only[aa,aw,bh,jX, *];exact f3.h
 ·skip
  simp only[aa,aw,av,ay,dt, *];refine ru c 4 (by omega) _ _ _ _ _ ds.h mH.h fun a1 ic aY cC gd=>?_;have DV:=Hid.mk aY;have aY:=bc.h.trans aY;have g6:=aY.bP (i:=cd) dw kG.h;have hg:=eN.h.eA aY;replace cC:=U cC;replace aY:=U aY;replace hg:=U hg;replace gd:=U gd;have xR:=pO gd.h.ea;have c9:=en.new (B':=fun id=>h.next≤id∧id≠cS) (l:=[_]) (xs:=[ic]) ⟨ic,[],rfl,gd.h,rfl⟩ (fun id T _=>gV.h _ bc.h id T) (gV.h _ aY.h _ (br _)) (by simp) (by simpa using gd.h.ea.1) (cells:=ic) (by simp) (n:=1) rfl;obtain⟨xF,bN,n9,mc,wV,gf⟩:=b9 a1 ic;rw[mc,n9]at c9;have di:=cC.h.le gf;have bE:=aY.h.mo gf;obtain⟨f1,f2,f3⟩:=fin.h bN _ _ _ _ _ _ aJ aJ _ [] [] bE di c9 dN.nil dN.nil cF;have mA:=yi hC c9.e6 1;clear cF c9 di bE gf;replace f3:=Hid.mk f3;clear fin eI gV ih;simp only[aa,aw,bh,jX, *];exact f3.h
theorem Ve:∀(d:Nat) (c:fk),c.held.length+d≤100→Nq c d
 |0,c,aj=>adN (by omega) (adH aj fun bW hB=>by omega)
 |d+1,c,aj=>adN (by omega) (adH aj fun bW hB fl j8=>by cases hB;exact Ve d fl j8)
end Go.Eng.Sy
