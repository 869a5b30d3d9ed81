/-
  Part of a proof of the laws of layer 07 (reader): the laws.
  Conditions: none.
-/
import Derived.Test.YtjbjpooafphpnaaGreatDoorBp
import Derived.Test.YtjbjpooafphpnaaGreatDoorEc
set_option linter.unusedSimpArgs false
set_option linter.unusedVariables false
namespace Go.Eng
open Go
theorem J.b2.pad{p:Nat}{a b:J}(h:a.b2 p b)(n:Nat):a.b2 p (b.pad n) :=
 ⟨fun j bn ak=>by
  obtain⟨x,af⟩:=r1.1 ak;have A:=h.get j bn ak;rw[af]at A;rw[J.BZ (J.bY A),A,af],rI h.next (J.Vd b n).next⟩
end Go.Eng
namespace Go.Eng.Sy
open Go Go.Eng Go.Proofs
def ao9:List FuncId:=[115,75,72,79,76,116,73,30,118,163,142,164,78,81,32,31,29]
def abU(f:FuncId):Bool:=ao9.contains f
abbrev iS(R:aT):kA:=⟨R,abU,true⟩
abbrev MS:TypeId:=119
abbrev xS(e l:Int):Value:=.iface MS (.agg #[I e,I l])
theorem dH.aok{B:Nat→Prop}{h:J}{s:Nat}{v:Value}{xs:List (ar)}(ai:dH B h s v xs){a:Nat}(T:a≤xs.length)(h0:xs≠[]) :
  ∃ w,rR s true false [v,I a]=some w∧dH B h s w (xs.drop a):=by
 rcases ai with⟨rfl,rfl⟩|⟨id,off,rfl,ai⟩
 ·exact absurd rfl h0
 ·refine⟨.slice (some ⟨id,off+a*s,none⟩) (xs.length-a) s,by simp[rR,oD];omega,.inr ⟨id,off+a*s,by simp,?_⟩⟩;rcases ai with rfl|⟨cM,cells,own,aA,af⟩
  ·left;simp
  ·right;refine⟨cM,cells,own,aA,fun i x au=>?_⟩;rw[Nu]at au;obtain⟨A,S,ae⟩:=af _ _ au;rw[Nat.add_mul,← Nat.add_assoc]at S ae;exact⟨A,S,ae⟩
structure eo(h:J)(q:Nat)(l:List Tok):Prop where
 ex:∃ v,h.get q=some (.aq [v] true)∧v.oneCell'=true∧dH (· < q) h 4 v (l.map Tok.cells)
 len:l.length≤100000
 ends:∃ a e,l=a++[e]∧e.kind=5
theorem eo.bP{h D:J}{q:Nat}{l:List Tok}(hr:eo h q l)(ab:∀ i,i≤q→(h.get i).isSome=true→D.get i=h.get i):eo D q l:=by
 obtain⟨⟨v,A,S,ae⟩,aB,aG⟩:=hr;exact⟨⟨v,by rw[ab q (br _) (by rw[A];rfl)];exact A,S,ae.to fun id cs own T aA=>⟨T,by rw[ab id (Nat.le_of_lt T) (by rw[aA];rfl)];exact aA⟩⟩,aB,aG⟩
theorem eo.le{h D:J}{q:Nat}{l:List Tok}(hr:eo h q l)(ag:h.le D):eo D q l:=hr.bP fun i _ ak=>ag.pf i ak
theorem eo.set{h:J}{q c:Nat}{l:List Tok}(hr:eo h q l)(aj:q<c)(o:bQ):eo (h.set c o) q l:=hr.bP fun i au _=>J.dT _ _ _ _ (by simp;omega)
theorem eo.lt{h:J}{q:Nat}{l:List Tok}(hr:eo h q l):q<h.next:=hr.ex.elim fun _ a=>J.bY a.1
theorem KZ{l:List Tok}(h:∃ a e,l=a++[e]∧e.kind=5):l[0]?=some (hd l):=by
 obtain⟨a,e,rfl,_⟩:=h;cases a<;>rfl
theorem Q6{l:List Tok}(h:∃ a e,l=a++[e]∧e.kind=5)(ab:(hd l).kind≠5):∃ a e,l.tail=a++[e]∧e.kind=5:=by
 obtain⟨a,e,rfl,aK⟩:=h;cases a with
 |nil=>exact absurd aK ab
 |cons x r=>exact⟨r,e,rfl,aK⟩
theorem eo.hd{h:J}{q:Nat}{l:List Tok}(hr:eo h q l):∃ v id off cells own,h.get q=some (.aq [v] true)∧oU 4 [v,I 0]=some (aH id off)∧h.get id=some (.aq cells own)∧gI true off 4 cells=some (hd l).val ∧
  cells[off]?=some (I (hd l).kind)∧cells[off+1]?=some (str (hd l).text)∧cells[off+2]?=some (I (hd l).n)∧cells[off+3]?=some (I (hd l).line):=by
 obtain⟨⟨v,A,S,ae⟩,aB,aG⟩:=hr;have h0:(l.map Tok.cells)[((0:Nat))]?=some (Sy.hd l).cells:=by rw[NA,KZ aG];rfl
 obtain⟨id,off,cells,own,g1,g2,g3,g4⟩:=ae.plain.elem h0;exact⟨v,id,off,cells,own,A,g1,g2,g3,g4 0 (by omega),g4 1 (by omega),g4 2 (by omega),g4 3 (by omega)⟩
theorem eo.tail{h:J}{q:Nat}{l:List Tok}(hr:eo h q l)(ab:(Sy.hd l).kind≠5){v:Value}(ad:h.get q=some (.aq [v] true)):∃ w,rR 4 true false [v,I 1]=some w∧w.oneCell'=true∧cz 1 h [aH q 0,w]=some (b0,h.set q (.aq [w] true))∧h.b2 q (h.set q (.aq [w] true))∧eo (h.set q (.aq [w] true)) q l.tail:=by
 obtain⟨⟨v',A,S,ae⟩,aB,aG⟩:=hr;obtain rfl:v'=v:=by rw[ad]at A;cases A;rfl
 have cH:l.map Tok.cells≠[]:=by obtain⟨a,e,rfl,_⟩:=aG;simp
 have aii:1≤(l.map Tok.cells).length:=by cases hm:l.map Tok.cells with|nil=>exact absurd hm cH|cons=>simp
 obtain⟨w,az,aL⟩:=ae.aok (a:=1) aii cH;have aV:=J.bY ad;have one:=cT.one aL.plain;have dY:(h.set q (.aq [w] true)).get q=some (.aq [w] true):=by rw[J.qG,if_pos ⟨rfl,aV⟩]
 have arf:w.cells.toList=[w]:=by
  have:=cT.e6 aL.plain;obtain⟨_,_,_,rfl⟩:=this;rfl
 refine⟨w,az,one,iU (off:=0) ad (by simp) arf one,J.b2.set q h _,⟨w,dY,one,?_⟩,by simp;omega,Q6 aG ab⟩;rw[List.map_tail,← List.drop_one];exact aL.to (J.lf _ fun id T=>⟨by omega,T⟩)
theorem ap3{s:aD}{t:Tok}(h:dk s t=true):t.kind≠5:=by
 unfold dk at h;simp only[Bool.and_eq_true,Ln,beq_iff_eq]at h;omega
theorem adE(h:J)(t:Tok):cz 4 (h.alloc (.aq [I 0,aI,I 0,I 0] true)) [aH h.next 0,t.val]=some (b0,h.alloc (.aq t.cells true)):=kk rfl rfl rfl rfl
theorem H6{h:J}{q:Nat}{l:List Tok}(hr:eo h q l)(s:aD)(Q:aT)(L:∀ D,h.le D→Q (.bool (dk s (hd l))) D):bj Tryz.prog 80 [aH q 0,str s] h Q:=by
 obtain⟨v,id,off,cells,own,g1,g2,g3,g4,_⟩:=hr.hd;obtain⟨t,aC⟩:∃ t,hd l=t:=⟨_,rfl⟩;rw[aC]at g4 L;have iu:=adE h t;obtain⟨p,A,gr,gO,ep,bt⟩:=b9 h t.cells;rw[gO,gr]at iu;have kO:=L A bt;have b6:dk s t=(t.text==s && (t.kind==2 || t.kind==4)):=rfl;rw[b6]at kO;have v1:t.cells=[I t.kind,str t.text,I t.n,I t.line]:=rfl;rw[v1]at ep;replace kO:=Hid.mk kO;clear L bt hr aC b6;have L:=kO;refine c7 (k:=2) anx rfl rfl rfl fun N=>?_;rw[eJ Qg mY rfl];delta Qg;replace L:=U L;have go:∀ c,c=(t.text==s && (t.kind==2 || t.kind==4))→Q (.bool c) A:=fun c e=>by rw[e];exact kO.h
 replace go:=Hid.mk go;clear L kO;cases bk:(t.text==s) with
 |false =>
  have g:=go.h false (by rw[bk];rfl);replace g:=Hid.mk g;clear go;simp only[aa,aw,bh,av,iz, *];exact g.h
 |true =>
 cases bJ:(t.kind==2) with
 |true =>
  have g:=go.h true (by rw[bk,bJ];rfl);replace g:=Hid.mk g;clear go;simp only[aa,aw,bh,av,ay,iz, *];exact g.h
 |false =>
  have g:=go.h (t.kind==4) (by rw[bk,bJ];rfl);replace g:=Hid.mk g;clear go;simp only[aa,aw,bh,av,ay,iz, *];exact g.h
theorem qf{h:J}{q:Nat}{l:List Tok}(hr:eo h q l)(s:aD)(Q:aT)(L:∀ b D,dk s (hd l)=b→h.b2 q D→eo D q (if b=true then l.tail else l)→Q (.bool b) D):bj Tryz.prog 77 [aH q 0,str s] h Q:=by
 replace hr:=U hr;refine c7 (k:=2) anu rfl rfl rfl fun N=>?_;rw[eJ Qd mY rfl];delta Qd;replace L:=U L;simp only[aa, *];refine H6 hr.h s _ fun A l1=>?_;have cn:=hr.h.le l1;cases T:dk s (hd l) with
 |false =>
  have g:=L.h false A T (l1.eA q) cn;replace g:=Hid.mk g;clear L hr l1 cn T;simp only[aa, *];exact g.h
 |true =>
  obtain⟨v,id,off,cells,own,g1,_⟩:=cn.hd;obtain⟨w,az,aL,bq,cV,h2⟩:=cn.tail (ap3 T) g1;have g:=L.h true _ T ((l1.eA q).trans cV) h2;replace g:=Hid.mk g;clear L hr l1 cn T cV h2;simp only[aa,aw,bh, *];exact g.h
theorem e0:(type_of% @Mq.eq_1)∧(type_of% @qs.eq_1)∧(type_of% @qs.eq_2)∧(type_of% @u1.eq_1)∧(type_of% @K.cD.eq_1)∧(type_of% @K.dF.eq_1):=⟨@Mq.eq_1,@qs.eq_1,@qs.eq_2,@u1.eq_1,@K.cD.eq_1,@K.dF.eq_1⟩
abbrev aeJ:ar:=[I 0,aI,I 0,I 0]
theorem aa7(t:TypeId)(a:Array Value):cr (.iface t) [.agg a]=some (.iface t (.agg a)):=rfl
theorem WG(e l:Int):gQ [I 0,I 0] [(0,1),(1,1)] [I e,I l]=some (.agg #[I e,I l]):=rfl
variable {R:aT}
theorem Re{h:J}{q:Nat}{l:List Tok}(hr:eo h q l){post:Prop}(fB:post)(Q:aT)(hp:∀ D,h.b2 q D→R (xS 70 (hd l).line) D) :
  iM (PR:=iS R) Tryz.prog 115 [aH q 0] h post Q:=by
 obtain⟨v,id,off,cells,own,g1,g2,g3,g4,g5,g6,g7,g8⟩:=hr.hd;obtain⟨t,aC⟩:∃ t,hd l=t:=⟨_,rfl⟩;rw[aC]at g4 g5 g6 g7 g8 hp;have L:=hp;refine E4 alS (by rfl) rfl fB rfl rfl fun N=>?_;rw[show kn N0 [aH q 0]=[aH q 0] from rfl];delta N0;replace L:=U L;have agj:=WG 70 t.line;clear hp;simp only[aa,aw,Wl,aa7, *];exact⟨rfl,(by simp[e0,K.cD,K.dF]),fun n=>L.h _ ((J.b2.refl _ _).pad n)⟩
theorem Yb{h:J}{q:Nat}(d:Nat){post:Prop}(fB:post)(Q:aT)(L:d≤1000→Q (.tuple #[]) h)(hp:1000<d→∀ D,h.b2 q D→R (xS 71 1) D) :
  iM (PR:=iS R) Tryz.prog 116 [I (d:Int)] h post Q:=by
 have oi:=hp;refine E4 alT (by rfl) rfl fB rfl rfl fun N=>?_;rw[show kn N1 [I (d:Int)]=[I (d:Int)] from rfl];delta N1;replace L:=U L;have agj:=WG 71 1;replace hp:=Hid.mk oi;clear oi;by_cases hd:1000<d
 ·have hB:(1000:Int)<(d:Int):=by omega
  clear L;simp only[aa,av,ay,Wl,aa7, *];exact⟨rfl,(by simp[e0,K.cD,K.dF]),fun n=>hp.h hd _ ((J.b2.refl _ _).pad n)⟩
 ·have hB:¬(1000:Int)<(d:Int):=by omega
  have g:=L.h (by omega);replace g:=Hid.mk g;clear L hp hd;simp only[aa,av,ay, *];exact g.h
theorem abr{h:J}{q:Nat}{l:List Tok}(hr:eo h q l)(s:aD){post:Prop}(fB:post)(Q:aT)(L:dk s (hd l)=true→∀ D,h.b2 q D→eo D q l.tail→Q (.tuple #[]) D)
  (hp:dk s (hd l)=false→∀ D,h.b2 q D→R (xS 70 (hd l).line) D):iM (PR:=iS R) Tryz.prog 75 [aH q 0,str s] h post Q:=by
 replace hr:=U hr;have oi:=hp;refine E4 ans (by rfl) rfl fB rfl rfl fun N=>?_;rw[show kn Qb [aH q 0,str s]=[aH q 0,str s] from rfl];delta Qb;replace L:=U L;replace hp:=Hid.mk oi;clear oi;simp only[aa,dX, *];refine bj.x (qf hr.h s _ fun b A T l1 cn=>?_);cases b with
 |true =>
  have g:=L.h T A l1 (by simpa using cn);replace g:=Hid.mk g;clear L hp hr T l1 cn;simp only[aa, *];exact g.h
 |false =>
  have Ms:eo A q l:=by simpa using cn
  clear L cn;replace T:=U T;replace l1:=U l1;replace Ms:=U Ms;simp only[aa,dX, *];exact Re Ms.h (by simp[e0,K.cD,K.dF]) _ fun D df=>hp.h T.h D (l1.h.trans df)
theorem TQ{h:J}{q:Nat}{l:List Tok}(hr:eo h q l)(k:Int){post:Prop}(fB:post)(Q:aT)(L:(hd l).kind=k→∀ D,h.b2 q D→eo D q (if k=5 then l else l.tail)→Q (hd l).val D)
  (hp:(hd l).kind≠k→∀ D,h.b2 q D→R (xS 70 (hd l).line) D):iM (PR:=iS R) Tryz.prog 72 [aH q 0,I k] h post Q:=by
 have gb:=hr.lt;obtain⟨eP,A,Q7,gO,AM,bt⟩:=b9 h aeJ;have cn:=hr.le bt;have jk:h.next=eP:=Q7;obtain⟨v,id,off,cells,own,g1,g2,g3,g4,g5,g6,g7,g8⟩:=cn.hd;obtain⟨t,aC⟩:∃ t,hd l=t:=⟨_,rfl⟩;rw[aC]at g4 g5 g6 g7 g8 hp L;have iu:=adE A t;obtain⟨bA,S,qF,jz,fA,dh⟩:=b9 A t.cells;rw[jz,qF]at iu;have bM:=cn.le dh;have aic:=dh.get AM;have l2:=bt.trans dh;have v1:t.cells=[I t.kind,str t.text,I t.n,I t.line]:=rfl;rw[v1]at fA;have SF:eP<bA:=by have:=J.bY AM;omega
 clear bt dh AM hr cn g5 g6 g7 g8 v1;replace bM:=U bM;replace l2:=U l2;replace jk:=U jk;replace gb:=U gb;replace aC:=U aC;replace SF:=U SF;have oi:=hp;refine wC (k:=2) (agg:=true) (size:=4) anp (by rfl) rfl fB rfl rfl fun N=>?_;rw[eJ P8 mY rfl];delta P8;replace L:=U L;replace hp:=Hid.mk oi;clear oi;cases bk:(t.kind != k) with
 |true =>
  have cH:t.kind≠k:=by simpa using bk
  replace cH:=Hid.mk cH;clear L;simp only[aa,aw,bh,av,ay,dX, *];refine Re bM.h (by simp[e0,K.cD,K.dF]) _ fun D df=>?_;rw[aC.h];exact hp.h cH.h D ((l2.h.eA q).trans df)
 |false =>
  have aK:t.kind=k:=by simpa using bk
  -- the end: the aqQ is the atz
  have fin:∀ ae,S.b2 q ae→eo ae q (if k=5 then l else l.tail)→∃ aB,ae.get eP=some (.aq aeJ true)∧cz 4 ae [aH eP 0,t.val]=some (b0,aB)∧aB.get eP=some (.aq t.cells true)∧Q t.val aB:=fun ae aE cE=>by
   have eI:=aE.bP (i:=eP) (by have:=jk.h;have:=gb.h;omega) aic;have aV:=J.bY eI;refine⟨ae.set eP (.aq t.cells true),eI,aek eI (y:=t.cells) rfl rfl,by rw[J.qG,if_pos ⟨rfl,aV⟩],L.h aK _ ?_ (cE.set (by have:=jk.h;have:=gb.h;omega) _)⟩;exact((l2.h.eA q).trans aE).oW (by have:=jk.h;omega) _
  clear L hp;by_cases dG:k=5
  ·have p8:(k != 5)=false:=by simp[dG]
   obtain⟨aB,az,aL,bq,cV⟩:=fin S (.refl _ _) (by rw[if_pos dG];exact bM.h);have ca:t.val=.agg #[I t.kind,str t.text,I t.n,I t.line]:=rfl;have v1:t.cells=[I t.kind,str t.text,I t.n,I t.line]:=rfl;rw[ca]at aL cV g4 iu;rw[v1]at bq;replace cV:=Hid.mk cV;clear fin dG ca v1 aK;simp only[aa,aw,bh,av,ay,rS, *];exact cV.h
  ·have p8:(k != 5)=true:=by simp[dG]
   obtain⟨v2,eI,_⟩:=bM.h.ex;obtain⟨w,f1,f2,f3,f4,f5⟩:=bM.h.tail (by rw[aC.h,aK];exact dG) eI;obtain⟨aB,az,aL,bq,cV⟩:=fin _ f4 (by rw[if_neg dG];exact f5);have ca:t.val=.agg #[I t.kind,str t.text,I t.n,I t.line]:=rfl;have v1:t.cells=[I t.kind,str t.text,I t.n,I t.line]:=rfl;rw[ca]at aL cV g4 iu;rw[v1]at bq;replace cV:=Hid.mk cV;obtain⟨aG,h2⟩:∃ x,S.set q (.aq [w] true)=x:=⟨_,rfl⟩;have j7:=(J.dT S (.aq [w] true) q bA (by have:=jk.h;have:=gb.h;have:=SF.h;simp;omega)).trans fA;rw[h2]at az aL f3 j7;clear fin dG ca v1 aK f4 f5 h2;simp only[aa,aw,bh,av,ay,rS, *];exact cV.h
end Go.Eng.Sy
namespace Go.Eng.Sy
open Go Go.Eng Go.Proofs
variable {R:aT}
theorem acg{h:J}{q:Nat}{l:List Tok}(hr:eo h q l){post:Prop}(fB:post)(Q:aT)(L:(hd l).kind=1→∀ D,h.b2 q D→eo D q l.tail→Q (str (hd l).text) D)
  (hp:(hd l).kind≠1→∀ D,h.b2 q D→R (xS 70 (hd l).line) D):iM (PR:=iS R) Tryz.prog 79 [aH q 0] h post Q:=by
 replace hr:=U hr;have oi:=hp;refine QH (k:=1) anw (by rfl) rfl fB rfl rfl fun N=>?_;rw[gE Qf iL rfl];delta Qf;replace L:=U L;replace hp:=Hid.mk oi;clear oi;simp only[aa,dX, *];refine TQ hr.h 1 (by simp[e0,K.cD,K.dF]) _ (fun ab A l1 cn=>?_) fun ab A l1=>hp.h ab A l1;have g:=L.h ab A l1 (by simpa using cn);obtain⟨t,aC⟩:∃ t,hd l=t:=⟨_,rfl⟩;rw[aC]at g ⊢;have ca:t.val=.agg #[I t.kind,str t.text,I t.n,I t.line]:=rfl;replace g:=Hid.mk g;clear L hp hr ab l1 cn aC;simp only[aa, *];exact g.h
theorem ach{h:J}{q:Nat}{l:List Tok}(hr:eo h q l){post:Prop}(fB:post)(Q:aT)(L:(hd l).kind=3→∀ D,h.b2 q D→eo D q l.tail→Q (I (hd l).n) D)
  (hp:(hd l).kind≠3→∀ D,h.b2 q D→R (xS 70 (hd l).line) D):iM (PR:=iS R) Tryz.prog 76 [aH q 0] h post Q:=by
 replace hr:=U hr;have oi:=hp;refine QH (k:=1) ant (by rfl) rfl fB rfl rfl fun N=>?_;rw[gE Qc iL rfl];delta Qc;replace L:=U L;replace hp:=Hid.mk oi;clear oi;simp only[aa,dX, *];refine TQ hr.h 3 (by simp[e0,K.cD,K.dF]) _ (fun ab A l1 cn=>?_) fun ab A l1=>hp.h ab A l1;have g:=L.h ab A l1 (by simpa using cn);obtain⟨t,aC⟩:∃ t,hd l=t:=⟨_,rfl⟩;rw[aC]at g ⊢;have ca:t.val=.agg #[I t.kind,str t.text,I t.n,I t.line]:=rfl;replace g:=Hid.mk g;clear L hp hr ab l1 cn aC;simp only[aa, *];exact g.h
theorem Yy{p:Nat→Bool}{a n:Nat}(h:∀ o,a≤o→o<a+n→p o=false):(List.range' a n).find? p=none:=by
 rw[List.find?_eq_none];intro o ah;rw[List.mem_range'_1]at ah;rw[h o (by omega) (by omega)];simp
theorem Yw{p:Nat→Bool}{a n i:Nat}(h:∀ o,a≤o→o<i→p o=false)(au:a≤i)(hn:i<a+n)(hp:p i=true):(List.range' a n).find? p=some i:=by
 induction n generalizing a with
 |zero=>omega
 |succ n ih =>
  rw[List.range'_succ,List.find?_cons];by_cases e:a=i
  ·subst e;rw[hp]
  ·rw[h a (br _) (by omega)];exact ih (fun o A S=>h o (by omega) S) (by omega) (by omega)
theorem afV{h:J}{q:Nat}{l:List Tok}(hr:eo h q l)(Q:aT)(L:∀ D,h.le D→Q (I (binOp (hd l))) D):bj Tryz.prog 74 [aH q 0] h Q:=by
 replace hr:=U hr;refine c7 (k:=1) anr rfl rfl rfl fun N=>?_;rw[gE Qa mZ rfl];delta Qa;replace L:=U L;simp only[aa, *];refine ch.upto 15 (fun i e A=>1≤i∧h.le A∧(∀ o:Nat,1≤o→o<i→dk (eU (o:Nat)) (hd l)=false)∧∃ x3,e=[aH q 0,I 0,I (i:Int),x3]) ?_ (i:=1) (by omega) ⟨by omega,.refl h,fun _ _ _=>by omega,_,rfl⟩;rintro i e A R au ⟨wW,l1,aZ,x3,rfl⟩ aN;delta Xw;by_cases aV:i<15
 ·have bk:(i:Int)≤14:=by omega
  have er:IntKind.i64.wrap ((i:Int)+1)=((i+1:Nat):Int):=by rw[cZ (by omega) (by omega)];rfl
  replace l1:=U l1;replace aZ:=U aZ;replace au:=U au;replace wW:=U wW;replace aV:=U aV;simp only[aa,av,ay, *];refine U4 i A _ fun S l2=>?_;have bM:=hr.h.le (l1.h.trans l2);replace bM:=U bM;replace l2:=U l2;simp only[aa, *];refine H6 bM.h (eU i) _ fun ae aE=>?_;have rM:=(l1.h.trans l2.h).trans aE;cases T:dk (eU i) (hd l) with
  |true =>
   have az:binOp (hd l)=i:=by
    unfold binOp;rw[Yw (i:=i) (fun o a b=>aZ.h o a b) wW.h (by have:=aV.h;omega) T]
   have g:=L.h ae rM;rw[az]at g;replace g:=Hid.mk g;clear aE rM L aN hr T bM az;simp only[aa, *];exact g.h
  |false =>
   have g:=aN.h [aH q 0,I 0,I ((i+1:Nat):Int),str (eU i)] ae aV.h ⟨Nat.le_succ_of_le wW.h,rM,fun o a b=>by
    by_cases e:o=i
    ·subst e;exact T
    ·exact aZ.h o a (by omega),_,rfl⟩
   replace g:=Hid.mk g;clear aE rM L aN hr T bM;simp only[aa,av,ay, *];exact g.h
 ·have bk:¬(i:Int)≤14:=by omega
  have g:=L.h A l1;have az:binOp (hd l)=0:=by
   unfold binOp;rw[Yy fun o a b=>aZ o a (by omega)]
  rw[az]at g;replace g:=Hid.mk g;clear aZ l1 hr L aN au az aV;simp only[aa,av,ay, *];exact g.h
theorem ar1{h:J}{q:Nat}{l:List Tok}(hr:eo h q l)(Q:aT)(L:∀ D,h.le D→Q (I (unOp (hd l))) D):bj Tryz.prog 117 [aH q 0] h Q:=by
 replace hr:=U hr;refine c7 (k:=1) alU rfl rfl rfl fun N=>?_;rw[gE N2 mZ rfl];delta N2;replace L:=U L;simp only[aa, *];refine ch.upto 18 (fun i e A=>15≤i∧h.le A∧(∀ o:Nat,15≤o→o<i→dk (eU (o:Nat)) (hd l)=false)∧∃ x3,e=[aH q 0,I 0,I (i:Int),x3]) ?_ (i:=15) (by omega) ⟨by omega,.refl h,fun _ _ _=>by omega,_,rfl⟩;rintro i e A R au ⟨wW,l1,aZ,x3,rfl⟩ aN;delta Xd;by_cases aV:i<18
 ·have bk:(i:Int)≤17:=by omega
  have er:IntKind.i64.wrap ((i:Int)+1)=((i+1:Nat):Int):=by rw[cZ (by omega) (by omega)];rfl
  replace l1:=U l1;replace aZ:=U aZ;replace au:=U au;replace wW:=U wW;replace aV:=U aV;simp only[aa,av,ay, *];refine U4 i A _ fun S l2=>?_;have bM:=hr.h.le (l1.h.trans l2);replace bM:=U bM;replace l2:=U l2;simp only[aa, *];refine H6 bM.h (eU i) _ fun ae aE=>?_;have rM:=(l1.h.trans l2.h).trans aE;cases T:dk (eU i) (hd l) with
  |true =>
   have az:unOp (hd l)=i:=by
    unfold unOp;rw[Yw (i:=i) (fun o a b=>aZ.h o a b) wW.h (by have:=aV.h;omega) T]
   have g:=L.h ae rM;rw[az]at g;replace g:=Hid.mk g;clear aE rM L aN hr T bM az;simp only[aa, *];exact g.h
  |false =>
   have g:=aN.h [aH q 0,I 0,I ((i+1:Nat):Int),str (eU i)] ae aV.h ⟨Nat.le_succ_of_le wW.h,rM,fun o a b=>by
    by_cases e:o=i
    ·subst e;exact T
    ·exact aZ.h o a (by omega),_,rfl⟩
   replace g:=Hid.mk g;clear aE rM L aN hr T bM;simp only[aa,av,ay, *];exact g.h
 ·have bk:¬(i:Int)≤17:=by omega
  have g:=L.h A l1;have az:unOp (hd l)=0:=by
   unfold unOp;rw[Yy fun o a b=>aZ o a (by omega)]
  rw[az]at g;replace g:=Hid.mk g;clear aZ l1 hr L aN au az aV;simp only[aa,av,ay, *];exact g.h
end Go.Eng.Sy
namespace Go.Eng.Sy
open Go Go.Eng Go.Proofs
structure Out{c1:Type}(R:aT)(q:Nat)(h:J)(x:PR c1)(V:J→c1→Value→Prop)(Q:aT):Prop where
 ok:∀ a r,x=.ok a r→∀ v D,h.b2 q D→eo D q r→V D a v→Q v D
 bad:∀ e line,x=.bad e line→∀ D,h.b2 q D→R (xS e line) D
 ne:x≠.out
theorem Out.sub{c1 l5:Type}{R:aT}{q:Nat}{h A:J}{x:PR l5}{g:l5→List Tok→PR c1}{V:J→c1→Value→Prop}{EM:J→l5→Value→Prop}{Q gA:aT}(ah:Out R q h (x.bind g) V Q)(ag:h.b2 q A)
  (k:∀ a r,x=.ok a r→Out R q h (g a r) V Q→∀ v D,A.b2 q D→eo D q r→EM D a v→gA v D):Out R q A x EM gA :=
 ⟨fun a r af=>k a r af (by rw[af]at ah;exact ah),fun e l af D cW=>ah.bad e l (by rw[af];rfl) D (ag.trans cW),fun af=>ah.ne (by rw[af];rfl)⟩
theorem Out.fin{c1:Type}{R:aT}{q:Nat}{h D:J}{a:c1}{r:List Tok}{V:J→c1→Value→Prop}{Q:aT}(ah:Out R q h (.ok a r) V Q)(ag:h.b2 q D)(hr:eo D q r){v:Value}(ad:V D a v):Q v D:=ah.ok a r rfl v D ag hr ad
variable {R:aT}
theorem uB{h:J}{q:Nat}{l:List Tok}(hr:eo h q l)(s:aD){post:Prop}(fB:post)(Q:aT)(ah:Out R q h (mP s l) (fun _ _ v=>v=.tuple #[]) Q) :
  iM (PR:=iS R) Tryz.prog 75 [aH q 0,str s] h post Q :=
 abr hr s fB Q (fun b D df dL=>ah.ok () l.tail (by unfold mP;rw[if_pos b]) _ D df dL rfl) fun b D df=>ah.bad tM _ (by unfold mP;rw[if_neg (by simp[b])]) D df
theorem Eg{h:J}{q:Nat}{l:List Tok}(hr:eo h q l){post:Prop}(fB:post)(Q:aT)(ah:Out R q h (im 1 l) (fun _ t v=>v=str t.text) Q) :
  iM (PR:=iS R) Tryz.prog 79 [aH q 0] h post Q :=
 acg hr fB Q (fun b D df dL=>ah.ok (hd l) l.tail (by unfold im;rw[if_pos b,if_neg (by decide)]) _ D df dL rfl) fun b D df=>ah.bad tM _ (by unfold im;rw[if_neg b]) D df
theorem zY{h:J}{q:Nat}{l:List Tok}(hr:eo h q l){post:Prop}(fB:post)(Q:aT)(ah:Out R q h (im 3 l) (fun _ t v=>v=I t.n) Q) :
  iM (PR:=iS R) Tryz.prog 76 [aH q 0] h post Q :=
 ach hr fB Q (fun b D df dL=>ah.ok (hd l) l.tail (by unfold im;rw[if_pos b,if_neg (by decide)]) _ D df dL rfl) fun b D df=>ah.bad tM _ (by unfold im;rw[if_neg b]) D df
def IA(n:Nat)(h:J)(e:aX)(v:Value):Prop:=∃ x,v=.agg x.toArray∧gR (fun id=>n≤id) h e x
def IF(f:Nat):Prop:=∀(R:aT) (deep:Nat) (l:List Tok) (h:J) (q:Nat),eo h q l→∀ {post:Prop},post→∀ Q:aT,Out R q h (nT f deep l) (IA h.next) Q →
 iM (PR:=iS R) Tryz.prog 73 [aH q 0,I (deep:Int)] h post Q
def Cw(f:Nat):Prop:=∀(R:aT) (dz deep:Nat) (l:List Tok) (h:J) (q:Nat),eo h q l→∀ {post:Prop},post→∀ Q:aT,Out R q h (lB f dz deep l) (IA h.next) Q →
 iM (PR:=iS R) Tryz.prog 30 [aH q 0,I (dz:Int),I (deep:Int)] h post Q
theorem Ys{h:J}{q eP:Nat}{Q:aT}(L:q<h.next)(hp:eP=h.next)(bH:J)(c:ar)(yQ:bH.get eP=some (.aq c true))(aj:c.length=5)(r:List Tok)(k o n:Int)(m:aD)(v:Value)(l:List aX)(ag:h.b2 q bH)(hr:eo bH q r)
  (ad:en (fun id=>h.next≤id∧id≠eP) bH v l) (ah:Out R q h (.ok (.mk k o n m l) r) (IA h.next) Q) :
  cz 5 bH [aH eP 0,ko k o n m v]=some (b0,bH.set eP (.aq [I k,I o,I n,str m,v] true)) ∧
   (bH.set eP (.aq [I k,I o,I n,str m,v] true)).get eP=some (.aq [I k,I o,I n,str m,v] true) ∧
   Q (ko k o n m v) (bH.set eP (.aq [I k,I o,I n,str m,v] true)):=by
 subst hp;refine⟨nZ yQ rfl rfl aj (by simpa[Value.oneCell'] using ad.one),J.gz _ _ _ (by rw[yQ];rfl),?_⟩;exact ah.fin (ag.oW (br _) _) (hr.set L _) ⟨_,rfl,gR.of (ad.to (J.lf _ fun id T=>⟨T.2,T.1⟩))⟩
end Go.Eng.Sy
namespace Go.Eng.Sy
open Go Go.Eng Go.Proofs
theorem UT{m:Nat}{h:J}{e:aX}{x:ar}(af:gR (fun id=>m≤id) h e x)(hm:m≤h.next){cells:ar}(aj:cells=x) :
  en (fun id=>m≤id) (h.alloc (.aq cells true)) (.slice (some ⟨h.next,0,none⟩) 1 5) [e]:=by
 subst aj;exact en.new (B:=fun id=>m≤id) (l:=[e]) (xs:=[cells]) ⟨cells,[],rfl,af,rfl⟩ (fun id T _=>T) hm (by simp) (by simpa using af.ea.1) (by simp) (n:=1) rfl
theorem aoX{f:Nat}(ih:∀ g,g<f→IF g∧Cw g):IF f:=by
 intro R deep l h q hr post fB Q ah;cases f with
 |zero=>exact absurd (by rw[nT]) ah.ne
 |succ f =>
 obtain⟨zt,zr⟩:=ih f (by omega);clear ih;have gb:=hr.lt;obtain⟨eP,A,Q7,gO,AM,bt⟩:=b9 h [I 0,I 0,I 0,aI,bx];have jk:eP=h.next:=Q7.symm;have iX:=hr.le bt;have ls:q≠eP:=by omega
 have zf:(eP==q)=false:=by simp;omega
 have h6:=J.bY AM;clear hr;replace iX:=U iX;replace bt:=U bt;replace zt:=U zt;replace zr:=U zr;replace gb:=U gb;replace jk:=U jk;replace ls:=U ls;replace h6:=U h6;have L:=ah;clear ah;refine wC (k:=2) (agg:=true) (size:=5) anq (by rfl) rfl fB rfl rfl fun N=>?_;rw[eJ P9 uO rfl];delta P9;replace L:=U L;simp only[aa,dX, *];refine Yb deep (by simp[e0,K.cD,K.dF]) _ (fun fd=>?_) fun fd D df=>L.h.bad Fc 1 (by rw[nT,if_pos fd]) D ((bt.h.eA q).trans df);have ah:=L.h;rw[nT,if_neg (by omega)]at ah;clear L;replace ah:=U ah;replace fd:=U fd;simp only[aa,dX, *];refine bj.x (ar1 iX.h _ fun S l2=>?_);have fO:=iX.h.le l2;have g2:=l2.get AM;have hk:=(bt.h.trans l2).eA q;have fin:=@Ys R h q eP Q gb.h jk.h;have ax:IntKind.i64.wrap ((deep:Int)+1)=((deep+1:Nat):Int):=by have:=fd.h;rw[cZ (by omega) (by omega)];rfl
 have k8:=J.bY g2;clear iX AM l2 bt;replace fO:=U fO;replace hk:=U hk;replace fin:=U fin;replace k8:=U k8;by_cases hu:unOp (hd l)=0
 ·replace ah:=ah.h;rw[if_neg (by simp[hu])]at ah;have st:((0:Int) != 0)=false:=rfl;rw[hu];replace ah:=U ah;replace hu:=U hu;simp only[aa,av,ay,dX, *];refine bj.x (qf fO.h [40] _ fun b ae T aE cE=>?_);have g3:=aE.bP (i:=eP) (Ne.symm ls.h) g2;have gH:=hk.h.trans aE;have hq:=aE.next;replace ah:=ah.h;clear g2 aE fO hk;cases b with
  |true =>
   rw[if_pos T]at ah;replace cE:eo ae q l.tail:=by simpa using cE
   replace ah:=U ah;replace gH:=U gH;replace hq:=U hq;replace T:=U T;replace cE:=U cE;simp only[aa,av,ay,dX, *];refine zr.h _ 1 (deep+1) _ _ _ cE.h (by simp[e0,K.cD,K.dF]) _ (ah.h.sub gH.h fun a r _ ah v aB aO eb ⟨x,e,af⟩=>?_);subst e;have g4:=aO.bP (i:=eP) (Ne.symm ls.h) g3;have np:=gH.h.trans aO;have bu:=Ib aB af.plain;have vx:q<aB.next:=by have:=gb.h;have:=np.next;omega
   have lV:eP<aB.next:=by have:=k8.h;have:=hq.h;have:=aO.next;omega
   have ajt:=aO.next;obtain⟨ft,aG,tN,qD,h4,iG⟩:=b9 aB x;rw[qD,tN]at bu;have g5:=iG.get g4;have gn:=eb.le iG;have jn:=np.trans (iG.eA q);have th:=af.to (iG.cg (B':=fun id=>ae.next≤id) fun id T=>T);have uj:ft≠q:=by omega
   have tf:eP<ft:=by omega
   have ajI:(ft==q)=false:=by simpa using uj
   have ajG:(ft==eP)=false:=by simp;omega
   clear g4 iG af eb aO np g3 ajt;replace ah:=U ah;replace gn:=U gn;replace jn:=U jn;replace th:=U th;replace uj:=U uj;replace tf:=U tf;replace vx:=U vx;replace lV:=U lV;simp only[aa,bh,dX, *];refine uB gn.h [41] (by simp[e0,K.cD,K.dF]) _ (ah.h.sub jn.h fun _ ku _ ah v a1 aY ku ev=>?_);subst ev;have g6:=aY.bP (i:=eP) (Ne.symm ls.h) g5;have Ri:=aY.bP (i:=ft) uj.h h4;have Bt:gR (fun id=>h.next≤id∧id≠eP) a1 a x:=th.h.to (aY.cg fun id T=>by
    have A:ae.next≤id:=T;have S:=hq.h;have ae:=k8.h;have aB:=gH.h.next;have aG:=gb.h;refine⟨?_,?_,?_⟩<;>omega)
   obtain⟨k,o,n,m,afy⟩:=a;obtain⟨w,rfl,Br⟩:=Bt.cells;obtain⟨ck,cm,cb⟩:=fin.h _ _ g6 rfl _ _ _ _ _ _ _ (jn.h.trans aY) ku Br ah;replace cb:=Hid.mk cb;have one:=Br.one;clear fin ah aY ku Br Bt g5 h4 th bu;simp only[aa,aw,bh,dt,aX.kind,aX.op,aX.n,aX.name, *];exact cb.h
  |false =>
   rw[if_neg (by rw[T];simp)]at ah;replace cE:eo ae q l:=by simpa using cE
   obtain⟨v,id,off,cells,own,az,aL,bq,cV,h2,hH,e7,e8⟩:=cE.hd;obtain⟨t,aC⟩:∃ t,hd l=t:=⟨_,rfl⟩;rw[aC]at ah h2;clear cV hH e7 e8;by_cases wY:t.kind=3
   ·rw[if_pos wY]at ah;have dl:(t.kind==3)=true:=by simp[wY]
    replace ah:=U ah;replace gH:=U gH;replace hq:=U hq;replace T:=U T;replace cE:=U cE;replace wY:=U wY;replace aC:=U aC;simp only[aa,aw,av,ay,dX, *];refine ach cE.h (by simp[e0,K.cD,K.dF]) _ (fun _ aB aO eb=>?_) fun ab=>absurd (by rw[aC.h];exact wY.h) ab;have g4:=aO.bP (i:=eP) (Ne.symm ls.h) g3;obtain⟨ck,cm,cb⟩:=fin.h _ _ g4 rfl _ _ _ _ _ _ _ (gH.h.trans aO) eb en.nil ah.h;rw[aC.h];have wr:=NI t.n;replace cb:=Hid.mk cb;clear fin ah aO eb g3;simp only[aa,aw,bh,dt, *];exact cb.h
   ·rw[if_neg wY]at ah;have dl:(t.kind==3)=false:=by simp[wY]
    replace ah:=U ah;replace gH:=U gH;replace hq:=U hq;replace T:=U T;replace cE:=U cE;replace wY:=U wY;replace aC:=U aC;simp only[aa,aw,av,ay,dX, *];refine acg cE.h (by simp[e0,K.cD,K.dF]) _ (fun ab aB aO eb=>?_) fun ab D df=>ah.h.bad tM t.line (by rw[if_pos (by rw[← aC.h];exact ab)]) D (gH.h.trans df) |> fun z=>by rw[aC.h];exact z
    have g4:=aO.bP (i:=eP) (Ne.symm ls.h) g3;replace ah:=ah.h;rw[if_neg (by rw[← aC.h];simp[ab])]at ah;rw[aC.h];have np:=gH.h.trans aO;have wr:=W3 t.text;have bu:cz 5 (aB.alloc (.aq [I 0,I 0,I 0,aI,bx] true)) [aH aB.next 0,ko 2 0 0 t.text bx]=some (b0,aB.alloc (.aq [I 2,I 0,I 0,str t.text,bx] true)):=kk rfl rfl rfl rfl;have vx:q<aB.next:=by have:=gb.h;have:=np.next;omega
    have lV:eP<aB.next:=by have:=k8.h;have:=hq.h;have:=aO.next;omega
    obtain⟨ft,aG,tN,qD,h4,iG⟩:=b9 aB [I 2,I 0,I 0,str t.text,bx];rw[qD,tN]at bu;have g5:=iG.get g4;have gn:=eb.le iG;have jn:=np.trans (iG.eA q);have uj:ft≠q:=by omega
    have tf:eP<ft:=by omega
    have ajI:(ft==q)=false:=by simpa using uj
    have ajG:(ft==eP)=false:=by simp;omega
    have jI:=J.bY h4;clear g4 g3 iG eb aO np ab az aL bq h2 dl;replace ah:=U ah;replace gn:=U gn;replace jn:=U jn;replace uj:=U uj;replace tf:=U tf;replace vx:=U vx;replace lV:=U lV;replace jI:=U jI;simp only[aa,bh,dX, *];refine bj.x (qf gn.h [91] _ fun b a1 T aY ku=>?_);have g6:=aY.bP (i:=eP) (Ne.symm ls.h) g5;have Ri:=aY.bP (i:=ft) uj.h h4;have nP:=jn.h.trans aY;have h7:=aY.next;replace ah:=ah.h;clear g5 h4 aY gn jn bu;cases b with
    |true =>
     rw[if_pos T]at ah;replace ku:eo a1 q l.tail.tail:=by simpa using ku
     replace ah:=U ah;replace nP:=U nP;replace h7:=U h7;replace T:=U T;replace ku:=U ku;simp only[aa,av,ay,dX, *];refine zr.h _ 1 (deep+1) _ _ _ ku.h (by simp[e0,K.cD,K.dF];repeat (first|exact rfl|exact⟨_,rfl⟩|refine⟨_,rfl,?_⟩|refine⟨rfl,?_⟩)) _ (ah.h.sub nP.h fun a r _ ah v bN bE l0 ⟨x,e,af⟩=>?_);subst e;have u:=pO af.ea;have jU:=UT af bE.next rfl;have g7:=bE.bP (i:=eP) (Ne.symm ls.h) g6;have Rj:=bE.bP (i:=ft) uj.h Ri;have Hm:=nP.h.trans bE;have vo:=bE.next;obtain⟨ou,b7,Q8,qE,yU,vH⟩:=b9 bN x;rw[qE,Q8]at jU;have g8:=vH.get g7;have Rk:=vH.get Rj;have ov:=l0.le vH;have Hn:=Hm.trans (vH.eA q);have ZF:ft<ou:=by have:=J.bY Rj;omega
     have Le:eP<a1.next:=by have:=lV.h;have:=jI.h;have:=h7.h;have:=tf.h;omega
     have Sw:ft<a1.next:=by have:=jI.h;have:=h7.h;omega
     have KU:=nP.h.next;have er:=iU (off:=0) (v:=I 5) Rk (by simp) rfl rfl;have cd:=J.gz b7 (.aq [I 5,I 0,I 0,str t.text,bx] true) ft (by rw[Rk];rfl);have dd:=iU (off:=4) (v:=.slice (some ⟨ou,0,none⟩) 1 5) cd (by simp) rfl rfl;obtain⟨dE,j3⟩:∃ x,b7.set ft (.aq [I 5,I 0,I 0,str t.text,bx] true)=x:=⟨_,rfl⟩;replace er:cz 1 b7 [aH ft 0,I 5]=some (b0,dE):=by rw[← j3];exact er
     rw[j3]at dd cd;have cS:=J.gz dE (.aq [I 5,I 0,I 0,str t.text,.slice (some ⟨ou,0,none⟩) 1 5] true) ft (by rw[cd];rfl);have cR:(dE.set ft (.aq [I 5,I 0,I 0,str t.text,.slice (some ⟨ou,0,none⟩) 1 5] true)).get eP=_:=(J.dT _ _ _ _ (by simp;have:=tf.h;omega)).trans ((by rw[← j3];exact J.dT _ _ _ _ (by simp;have:=tf.h;omega):dE.get eP=b7.get eP).trans g8);have Ef:eo dE q r:=by rw[← j3];exact ov.set (by have:=vx.h;have:=tf.h;have:=gb.h;have:=jk.h;omega) _
     have ld:=Ef.set (c:=ft) (by have:=vx.h;have:=tf.h;have:=gb.h;have:=jk.h;omega) (.aq [I 5,I 0,I 0,str t.text,.slice (some ⟨ou,0,none⟩) 1 5] true);have mM:h.b2 q (dE.set ft (.aq [I 5,I 0,I 0,str t.text,.slice (some ⟨ou,0,none⟩) 1 5] true)):=by
      rw[← j3];exact(Hn.oW (by have:=tf.h;have:=jk.h;omega) _).oW (by have:=tf.h;have:=jk.h;omega) _
     have q1:en (fun id=>a1.next≤id) (dE.set ft (.aq [I 5,I 0,I 0,str t.text,.slice (some ⟨ou,0,none⟩) 1 5] true)) (.slice (some ⟨ou,0,none⟩) 1 5) [a]:=by
      have A:en (fun id=>a1.next≤id) dE (.slice (some ⟨ou,0,none⟩) 1 5) [a]:=by rw[← j3];exact jU.to (J.lf _ fun id T=>⟨by have T:a1.next≤id:=T;omega,T⟩)
      exact A.to (J.lf _ fun id T=>⟨by have T:a1.next≤id:=T;omega,T⟩)
     replace dd:cz 1 dE [aH ft 4,.slice (some ⟨ou,0,none⟩) 1 5]=some (b0,dE.set ft (.aq [I 5,I 0,I 0,str t.text,.slice (some ⟨ou,0,none⟩) 1 5] true)):=dd;obtain⟨ai,Yg⟩:∃ x,dE.set ft (.aq [I 5,I 0,I 0,str t.text,.slice (some ⟨ou,0,none⟩) 1 5] true)=x:=⟨_,rfl⟩;rw[Yg]at dd cS cR ld mM q1;clear g8 Rk Hn vH ov Ef jU bE l0 af g7 Rj Hm j3 Yg g6 Ri;replace ah:=U ah;replace ld:=U ld;replace mM:=U mM;replace q1:=U q1;replace Le:=U Le;replace Sw:=U Sw;replace KU:=U KU;replace vo:=U vo;replace ZF:=U ZF;simp only[aa,bh,dX, *];refine uB ld.h [93] (by simp[e0,K.cD,K.dF]) _ (ah.h.sub mM.h fun _ lC _ ah v T nQ lC ev=>?_);subst ev;have ai7:=nQ.bP (i:=eP) (Ne.symm ls.h) cR;have asb:=nQ.bP (i:=ft) uj.h cS;have q1:=q1.h.to (B':=fun id=>h.next≤id∧id≠eP) (nQ.cg fun id T=>by have T:a1.next≤id:=T;have:=gb.h;have:=KU.h;have:=Le.h;refine⟨?_,?_,?_⟩<;>omega);obtain⟨ck,cm,cb⟩:=fin.h _ _ ai7 rfl _ _ _ _ _ _ _ (mM.h.trans nQ) lC q1 ah;replace cb:=Hid.mk cb;clear fin ah nQ lC q1 ld mM Le Sw KU cR cS cd er dd;simp only[aa,aw,bh,dt, *];exact cb.h
    |false =>
     rw[if_neg (by rw[T];simp)]at ah;replace ku:eo a1 q l.tail:=by simpa using ku
     obtain⟨ck,cm,cb⟩:=fin.h _ _ g6 rfl _ _ _ _ _ _ _ nP ku en.nil ah;replace cb:=Hid.mk cb;clear fin ah nP ku;simp only[aa,aw,bh,dt, *];exact cb.h
 ·replace ah:=ah.h;rw[if_pos hu]at ah;have ab:=zP (n:=15) (k:=3) hu;obtain⟨v2,eI,_⟩:=fO.h.ex;obtain⟨w,f1,f2,f3,f4,f5⟩:=fO.h.tail ab eI;obtain⟨ae,jA⟩:∃ x,S.set q (.aq [w] true)=x:=⟨_,rfl⟩;rw[jA]at f3 f4 f5;have g3:=f4.bP (i:=eP) (Ne.symm ls.h) g2;have gH:=hk.h.trans f4;have hq:=f4.next;clear g2 jA f4;have st:(unOp (hd l) != 0)=true:=by simpa using hu
  obtain⟨o,AC⟩:∃ o,unOp (hd l)=o:=⟨_,rfl⟩;rw[AC]at ah st ⊢;replace ah:=U ah;replace gH:=U gH;replace hq:=U hq;replace ab:=U ab;replace hu:=U hu;replace AC:=U AC;replace f5:=U f5;simp only[aa,aw,bh,av,ay,dX, *];refine zt.h _ _ _ _ _ f5.h (by simp[e0,K.cD,K.dF]) _ (ah.h.sub gH.h fun a r _ ah v aB aO eb ⟨x,e,af⟩=>?_);subst e;have u:=pO af.ea;have jU:=UT af aO.next rfl;have g4:=aO.bP (i:=eP) (Ne.symm ls.h) g3;have np:=gH.h.trans aO;obtain⟨ft,aG,tN,qD,h4,iG⟩:=b9 aB x;rw[qD,tN]at jU;have g5:=iG.get g4;have jU:en (fun id=>h.next≤id∧id≠eP) aG _ _:=jU.to (J.jd fun id T=>by
   have A:ae.next≤id:=T;have S:=hq.h;have ae:=k8.h;have aB:=gH.h.next;constructor<;>omega)
  obtain⟨ck,cm,cb⟩:=fin.h _ _ g5 rfl r 3 o 0 [] _ _ (np.trans (iG.eA q)) (eb.le iG) jU ah;have wr:=EZ 3 o (i:=ft) (n:=1);replace cb:=Hid.mk cb;clear fin ah aO eb af jU g4 np iG g3;simp only[aa,aw,bh,dt, *];exact cb.h
theorem apG{B:Nat→Prop}{n:Nat}{h:J}{e b:aX}{x y:ar}(af:gR B h e x)(bw:gR (fun id=>n≤id) h b y)(cM:∀ id,n≤id→B id)(hm:n≤h.next){cells:ar}(aj:cells=x++y) :
  en B (h.alloc (.aq cells true)) (.slice (some ⟨h.next,0,none⟩) 2 5) [e,b]:=by
 have ti:gR B h b y:=bw.to (J.jd cM);exact en.new (B:=B) (l:=[e,b]) (xs:=[x,y]) ⟨x,[y],rfl,af,y,[],rfl,ti,rfl⟩ (fun id T _=>T) (cM _ hm) (by simp) (by
  intro z bp;simp at bp;rcases bp with rfl|rfl
  ·exact af.ea.1
  ·exact bw.ea.1) (by simp[aj]) (n:=2) rfl
theorem aoV{f:Nat}(ih:∀ g,g<f→IF g∧Cw g):Cw f:=by
 intro R dz deep l h q hr post fB Q ah;cases f with
 |zero=>exact absurd (by rw[lB]) ah.ne
 |succ f =>
 rw[lB]at ah;have zt:=(ih f (by omega)).1;have zr:∀ g,g<f+1→Cw g:=fun g aA=>(ih g aA).2;clear ih;have gb:=hr.lt;obtain⟨b5,A,s1,gO,hz,bt⟩:=b9 h [I 0,I 0,I 0,aI,bx];have p4:b5=h.next:=s1.symm;have iX:=hr.le bt;have ls:q≠b5:=by omega
 have zf:(b5==q)=false:=by simp;omega
 have h6:=J.bY hz;clear hr;replace iX:=U iX;replace bt:=U bt;replace zt:=U zt;replace zr:=U zr;replace gb:=U gb;replace p4:=U p4;replace ls:=U ls;replace h6:=U h6;have L:=ah;clear ah;refine wC (k:=3) (agg:=true) (size:=5) amL (by rfl) rfl fB rfl rfl fun N=>?_;rw[s3 Po uO rfl];delta Po;replace L:=U L;simp only[aa,dX, *];refine zt.h _ _ _ _ _ iX.h (by simp[e0,K.cD,K.dF]) _ (L.h.sub (bt.h.eA q) fun a r _ ah v S l2 bM ⟨x,e,af⟩=>?_);subst e;have g2:=l2.bP (i:=b5) (Ne.symm ls.h) hz;have hk:=(bt.h.eA q).trans l2;have bu:=Ib S af.plain;have k8:=l2.next;have cN:q<S.next:=by have:=gb.h;have:=hk.next;omega
 obtain⟨cx,ae,CJ,jA,hf,dq⟩:=b9 S x;rw[jA,CJ]at bu;have g3:=dq.get g2;have cE:=bM.le dq;have gH:=hk.trans (dq.eA q);have Lk:q≠cx:=by omega
 have asL:(cx==q)=false:=by simp;omega
 have ZE:=J.bY hf;have zd:b5<cx:=by have:=h6.h;omega
 have gc:gR (fun id=>A.next≤id∧id≠cx) ae a x:=af.to fun id cs own T aA=>⟨⟨T,by have:=J.bY aA;omega⟩,dq.get aA⟩;have fin:=@Ys R h q b5 Q gb.h p4.h;have pV:A.next≤ae.next:=by have:=dq.next;omega
 clear L dq af bM l2 g2 hk hz zt bt iX;replace ah:=U ah;replace cE:=U cE;replace gH:=U gH;replace gc:=U gc;replace Lk:=U Lk;replace ZE:=U ZE;replace zd:=U zd;replace fin:=U fin;replace k8:=U k8;replace cN:=U cN;replace pV:=U pV;simp only[aa,bh, *];refine ch.CG (by rfl) (fun m j4 cp=>∃ e r x B4 u6,j4=[aH q 0,I (dz:Int),I (deep:Int),aH b5 0,aH cx 0,B4,u6]∧h.b2 q cp∧eo cp q r ∧
  cp.get b5=some (.aq [I 0,I 0,I 0,aI,bx] true)∧cp.get cx=some (.aq x true)∧gR (fun id=>A.next≤id∧id≠cx) cp e x∧Out R q h (qc m e dz deep r) (IA h.next) Q∧m≤f) ?_ (m:=f) ⟨a,r,x,_,_,rfl,gH.h,cE.h,g3,hf,gc.h,ah.h,br _⟩
 clear g3 hf cE gH gc bu ah;rintro m j4 aB ce ⟨e,r,x,B4,u6,rfl,np,eb,g3,g4,af,ah,hm⟩ aN;have gY:=J.bY g4;replace np:=U np;replace eb:=U eb;replace af:=U af;replace ah:=U ah;replace hm:=U hm;replace gY:=U gY;delta Xn;simp only[aa,dX, *];refine bj.x (afV eb.h _ fun aG bc=>?_);have gn:=eb.h.le bc;have jn:=np.h.trans (bc.eA q);have g3:=bc.get g3;have g4:=bc.get g4;have af:=af.h.to (bc.cg (B':=fun id=>A.next≤id∧id≠cx) fun id T=>T);have Sv:=bc.next;clear np eb bc;replace gn:=U gn;replace jn:=U jn;replace af:=U af;replace Sv:=U Sv;simp only[aa,dX, *];refine bj.x (DP _ _ _ ?_);cases m with
 |zero=>exact absurd (by rw[qc]) ah.h.ne
 |succ m =>
 replace ah:=ah.h;rw[qc]at ah;obtain⟨o,AC⟩:∃ o,binOp (hd r)=o:=⟨_,rfl⟩;rw[AC]at ah ⊢;have Sg:=TY o;by_cases ak:cy o=0∨cy o<dz
 ·rw[if_pos ak]at ah;obtain⟨k,gl,n,m',afy⟩:=e;obtain⟨w,rfl,ax⟩:=af.h.cells;obtain⟨ck,cm,cb⟩:=fin.h _ _ g3 rfl _ _ _ _ _ _ _ jn.h gn.h (ax.to (J.jd fun id T=>by have:=h6.h;have:=p4.h;constructor<;>omega)) ah;have one:=ax.one;replace cb:=Hid.mk cb;clear ah ax aN af gn jn;obtain⟨lz,Yi⟩:∃ lz,cy o=lz:=⟨_,rfl⟩;rw[Yi]at ak ⊢;clear Yi Sg;by_cases h0:lz=0
  ·have bk:((lz:Int)==0)=true:=by simp[h0]
   clear ak fin h0;simp only[aa,aw,bh,av,ay,dt,aX.kind,aX.op,aX.n,aX.name, *];exact cb.h
  ·have bk:((lz:Int)==0)=false:=by simp[h0]
   have bJ:(lz:Int)<(dz:Int):=by omega
   clear ak fin h0;simp only[aa,aw,bh,av,ay,dt,aX.kind,aX.op,aX.n,aX.name, *];exact cb.h
 ·rw[if_neg ak]at ah;obtain⟨lu,jl⟩:cy o≠0∧¬ cy o<dz:=by omega
  have bk:(((cy o:Nat):Int)==0)=false:=by simp[lu]
  have bJ:¬(cy o:Int)<(dz:Int):=by omega
  have ax:IntKind.i64.wrap ((cy o:Int)+1)=((cy o+1:Nat):Int):=by rw[cZ (by omega) (by omega)];rfl
  have ab:(hd r).kind≠5:=zP (n:=1) (k:=14) (fun bp=>lu (by rw[← AC,show binOp (hd r)=0 from bp];rfl));obtain⟨v2,eI,_⟩:=gn.h.ex;obtain⟨w,f1,f2,f3,f4,f5⟩:=gn.h.tail ab eI;obtain⟨a1,iV⟩:∃ x,aG.set q (.aq [w] true)=x:=⟨_,rfl⟩;rw[iV]at f3 f4 f5;have g3:=f4.bP (i:=b5) (Ne.symm ls.h) g3;have g4:=f4.bP (i:=cx) (Ne.symm Lk.h) g4;have af:=af.h.to (f4.cg (B':=fun id=>A.next≤id∧id≠cx) fun id T=>⟨by have:=gb.h;have:=p4.h;have:=h6.h;omega,T⟩);have nP:=jn.h.trans f4;have h7:=f4.next;clear fin ak lu jl iV f4 gn jn ab AC;have kr:aw (.load true 5) [aH cx 0] a1.get=some (.agg x.toArray):=by
   obtain⟨w',rfl,_⟩:=af.cells;simp[aw,g4,dt]
  replace af:=U af;replace nP:=U nP;replace f5:=U f5;replace h7:=U h7;replace ah:=U ah;replace Sg:=U Sg;replace kr:=U kr;simp only[aa,aw,bh,av,ay,CB, *];refine(zr.h m (by have:=hm.h;omega)) _ (cy o+1) deep _ _ _ f5.h ?_ _ (ah.h.sub nP.h fun b dL _ ah v bN bE l0 ⟨y,Rd,bw⟩=>jt bE ?_)
  ·simp[e0,K.cD,K.dF];exact⟨rfl,_,rfl,_,rfl,rfl,_,rfl,⟨_,kr.h⟩,by simp[vP]⟩
  subst Rd;have g3:=bE.bP (i:=b5) (Ne.symm ls.h) g3;have g4:=bE.bP (i:=cx) (Ne.symm Lk.h) g4;have af:=af.h.to (bE.cg (B':=fun id=>A.next≤id∧id≠cx) fun id T=>⟨by have:=gb.h;have:=p4.h;have:=h6.h;omega,T⟩);have u:=EY af.ea bw.ea;have jU:=apG af bw (fun id T=>by have:=h7.h;have:=gY.h;have:=Sv.h;have:=pV.h;have:=k8.h;constructor<;>omega) bE.next rfl;have Hm:=nP.h.trans bE;obtain⟨ou,b7,Q8,qE,yU,vH⟩:=b9 bN (x++y);rw[qE,Q8]at jU;have g3:=vH.get g3;have g4:=vH.get g4;have ov:=l0.le vH;have Hn:=Hm.trans (vH.eA q);obtain⟨w',rfl,mL⟩:=af.cells;have bu:cz 5 b7 [aH cx 0,ko 4 o 0 [] (.slice (some ⟨ou,0,none⟩) 2 5)]=some (b0,b7.set cx (.aq [I 4,I o,I 0,str [],.slice (some ⟨ou,0,none⟩) 2 5] true)):=nZ g4 rfl rfl rfl rfl;have wr:=EZ 4 o (i:=ou) (n:=2);have yP:=(J.dT b7 (.aq [I 4,I o,I 0,str [],.slice (some ⟨ou,0,none⟩) 2 5] true) cx b5 (by simp;have:=zd.h;omega)).trans g3;have KH:=J.gz b7 (.aq [I 4,I o,I 0,str [],.slice (some ⟨ou,0,none⟩) 2 5] true) cx (by rw[g4];rfl);have g:=aN.h m _ _ (by omega) ⟨_,dL,_,I o,I (cy o:Int),rfl,Hn.oW (by have:=zd.h;have:=p4.h;omega) (.aq [I 4,I o,I 0,str [],.slice (some ⟨ou,0,none⟩) 2 5] true),ov.set (by have:=cN.h;have:=gb.h;have:=p4.h;have:=zd.h;omega) _,yP,KH,gR.of (jU.to (J.lf _ fun id T=>⟨T.2,T⟩)),ah,by have:=hm.h;omega⟩;replace g:=Hid.mk g;clear aN ah bE l0 af bw jU Hm ov Hn mL yP KH f1 f2 f3;simp only[aa,aw,bh,dt, *];exact g.h
theorem aoW:∀ f,IF f∧Cw f:=fun f=>by
 induction f using Nat.strongRecOn with
 |ind f ih=>exact⟨aoX ih,aoV ih⟩
theorem Kw(f:Nat):Cw f:=(aoW f).2
variable {R:aT}
theorem eo.h5{h:J}{q:Nat}{l:List Tok}(hr:eo h q l)(ab:(Sy.hd l).kind≠5){v:Value}(ad:h.get q=some (.aq [v] true)):∃ id off cells own,oU 4 [v,I 1]=some (aH id off)∧h.get id=some (.aq cells own) ∧
  cells[off]?=some (I (Sy.hd l.tail).kind)∧cells[off+1]?=some (str (Sy.hd l.tail).text):=by
 obtain⟨⟨v',A,S,ae⟩,aB,aG⟩:=hr;obtain rfl:v'=v:=by rw[ad]at A;cases A;rfl
 have h0:(l.map Tok.cells)[((1:Nat))]?=some (Sy.hd l.tail).cells:=by
  have:=KZ (Q6 aG ab);rw[NA,← List.getElem?_tail (i:=0),this];rfl
 obtain⟨id,off,cells,own,g1,g2,g3,g4⟩:=ae.plain.elem h0;exact⟨id,off,cells,own,g1,g2,g4 0 (by omega),g4 1 (by omega)⟩
structure eQ(h0:J)(q p:Nat)(c:ar)(bH:J)(r:List Tok):Prop where
 lt:q<h0.next
 ge:h0.next≤p
 le:h0.b2 q bH
 rd:eo bH q r
 g:bH.get p=some (.aq c true)
theorem eQ.ne{h0:J}{q p:Nat}{c:ar}{bH:J}{r:List Tok}(s:eQ h0 q p c bH r):(p==q)=false:=by have:=s.lt;have:=s.ge;simp;omega
theorem eQ.go{h0:J}{q p:Nat}{c:ar}{bH lP:J}{r dL:List Tok}(s:eQ h0 q p c bH r)(l:bH.b2 q lP)(rd:eo lP q dL):eQ h0 q p c lP dL :=
 ⟨s.lt,s.ge,s.le.trans l,rd,l.bP (by have:=s.lt;have:=s.ge;omega) s.g⟩
theorem eQ.up{h0:J}{q p:Nat}{c:ar}{bH lP:J}{r:List Tok}(s:eQ h0 q p c bH r)(l:bH.le lP):eQ h0 q p c lP r:=s.go (l.eA q) (s.rd.le l)
theorem eQ.bu{h0:J}{q p:Nat}{c:ar}{bH:J}{r:List Tok}(s:eQ h0 q p c bH r)(off:Nat){v:Value}(ad:v.cells.toList=[v])(A:v.oneCell'=true)(ah:off<c.length) :
  cz 1 bH [aH p off,v]=some (b0,bH.set p (.aq (c.set off v) true))∧eQ h0 q p (c.set off v) (bH.set p (.aq (c.set off v) true)) r :=
 ⟨iU s.g ah ad A,s.lt,s.ge,s.le.oW s.ge _,s.rd.set (by have:=s.lt;have:=s.ge;omega) _,J.gz _ _ _ (by rw[s.g];rfl)⟩
theorem eQ.other{h0:J}{q p pC:Nat}{c:ar}{bH:J}{r:List Tok}(s:eQ h0 q p c bH r)(hp:h0.next≤pC)(hn:p≠pC)(o:bQ):eQ h0 q p c (bH.set pC o) r :=
 ⟨s.lt,s.ge,s.le.oW hp _,s.rd.set (by have:=s.lt;omega) _,by rw[J.dT _ _ _ _ (by simpa using hn)];exact s.g⟩
theorem eQ.new{h0 bH:J}{q:Nat}{r:List Tok}(lt:q<h0.next)(le:h0.b2 q bH)(rd:eo bH q r)(c:ar):eQ h0 q bH.next c (bH.alloc (.aq c true)) r :=
 ⟨lt,le.next,le.trans (((J.le.refl bH).alloc _).eA q),rd.le ((J.le.refl bH).alloc _),J.hy _ _⟩
def ye(n:Nat)(h:J)(e:aP)(v:Value):Prop:=∃ x,v=.agg x.toArray∧lJ (fun id=>n≤id) h e x
def yf(n:Nat)(h:J)(l:List aP)(v:Value):Prop:=dN (fun id=>n≤id) h v l
theorem eQ.Fp{h0:J}{q p:Nat}{c:ar}{bH:J}{r:List Tok}{Q:aT}(s:eQ h0 q p c bH r)(aj:c.length=7){k n:Int}{m f:aD}{v u w:Value}{a:List aX}{t e:List aP}
  (ad:en (fun id=>h0.next≤id∧id≠p) bH v a) (hu:dN (fun id=>h0.next≤id∧id≠p) bH u t) (ax:dN (fun id=>h0.next≤id∧id≠p) bH w e) (ah:Out R q h0 (.ok (.mk k m f n a t e) r) (ye h0.next) Q) :
  cz 7 bH [aH p 0,kw k m f n v u w]=some (b0,bH.set p (.aq [I k,str m,str f,I n,v,u,w] true)) ∧
   (bH.set p (.aq [I k,str m,str f,I n,v,u,w] true)).get p=some (.aq [I k,str m,str f,I n,v,u,w] true) ∧
   Q (kw k m f n v u w) (bH.set p (.aq [I k,str m,str f,I n,v,u,w] true)):=by
 have aC:J.cg (fun id=>h0.next≤id∧id≠p) (fun id=>h0.next≤id) bH (bH.set p (.aq [I k,str m,str f,I n,v,u,w] true)):=J.lf _ fun id T=>⟨T.2,T.1⟩;have a8:=s.le.oW s.ge (.aq [I k,str m,str f,I n,v,u,w] true);refine⟨nZ s.g rfl rfl aj (by simpa[Value.oneCell'] using⟨ad.one,hu.one,ax.one⟩),J.gz _ _ _ (by rw[s.g];rfl),?_⟩;exact ah.fin a8 (s.rd.set (by have:=s.lt;have:=s.ge;omega) _) ⟨_,rfl,lJ.of (ad.to aC) (hu.to aC) (ax.to aC)⟩
end Go.Eng.Sy
namespace Go.Eng.Sy
open Go Go.Eng Go.Proofs
variable {R:aT}
theorem ag1{B:Nat→Prop}{h:J}{e:aX}{x:ar}(af:gR B h e x):ie [I 0,I 0,I 0,aI,bx] [(0,5)] 1 5 [.agg x.toArray]=some (x,fun id=>.slice (some ⟨id,0,none⟩) 1 5):=pO af.ea
noncomputable def L7:bo:=(.seq (.aW OM []) (.seq (.aW ON []) .ret))
theorem j0.snoc{B:Nat→Prop}{h:J}{e:aX}{x:ar}(af:gR B h e x):∀ {l:List aX}{xs:List (ar)},j0 B h l xs→j0 B h (l++[e]) (xs++[x])
 |[],_,h=>by rw[show _=[] from h];exact⟨x,[],rfl,af,rfl⟩
 |_::_,_,⟨y,Aj,A,S,ae⟩=>by rw[A];exact⟨y,Aj++[x],rfl,S,j0.snoc af ae⟩
theorem eQ.low{h0:J}{q p n0:Nat}{c:ar}{bH lP:J}{r:List Tok}(s:eQ h0 q p c bH r)(hp:p<n0)(k:∀ i,i<n0→(bH.get i).isSome=true→lP.get i=bH.get i)(jU:bH.next≤lP.next):eQ h0 q p c lP r :=
 ⟨s.lt,s.ge,⟨fun i au ak=>by
  obtain⟨o,ah⟩:=r1.1 ak;have A:=J.bY ah;have S:=s.ge;have ae:=s.le.get i au ak;rw[k i (by omega) (by rw[ae];exact ak),ae],rI s.le.next jU⟩,
 s.rd.bP fun i au ak=>k i (by have:=s.lt;have:=s.ge;omega) ak,by rw[k p hp (by rw[s.g];rfl)];exact s.g⟩
theorem cL.agD{n:Nat}{h:J}{s:Nat}{v:Value}{xs:List (ar)}(ai:cL (km n) h s v xs):v.cells.toList=[v]:=by
 obtain⟨_,_,_,rfl⟩:=cL.e6 ai;rfl
theorem alj{f deep:Nat}{h0 bH:J}{q b5 cx n0:Nat}{k n:Int}{m:aD}{v:Value}{xs:List (ar)}{es:List aX}{r:List Tok}{Q:aT}{N:Nat}{vars:List Nat}{m':Value}
  (eg:eQ h0 q b5 ny bH r) (kU:eQ h0 q cx [I k,str m,str [],I n,v,aJ,aJ] bH r) (k2:b5<cx) (j9:cx<n0) (hn:n0≤bH.next) (kN:cL (km n0) bH 5 v xs) (af:j0 (fun id=>n0≤id∧da v id) bH es xs) (aR:xs.length≤1)
  (ah:Out R q h0 ((lB f 1 deep r).bind fun e r=>.ok (.mk k m [] n (es++[e]) [] []) r) (ye h0.next) Q) :
  W (PR:=iS R) Tryz.prog N vars L7 (B3 3 true 7 Q) [aH q 0,m',I (deep:Int),aH b5 0,aH cx 0] bH:=by
 delta L7 OM ON;have oJ:=eg.ne;have vx:=kU.ne;have zd:(cx==b5)=false:=by simp;omega
 have g4:=kU.g;have kr:aw (.load false 1) [aH cx 4] bH.get=some v:=by simp only[aw,g4];rfl
 replace eg:=U eg;replace kU:=U kU;replace k2:=U k2;replace j9:=U j9;replace hn:=U hn;replace kN:=U kN;replace af:=U af;replace aR:=U aR;replace ah:=U ah;replace kr:=U kr;replace g4:=U g4;simp only[aa,CB, *];refine Kw f _ 1 deep _ _ _ eg.h.rd ?_ _ (ah.h.sub eg.h.le fun e dL _ ah w A l1 cn ⟨x,hS,bw⟩=>jt l1 ?_)
 ·simp[e0,K.cD,K.dF];exact⟨rfl,_,rfl,_,rfl,rfl,_,rfl,_,kr.h,by simp[vP],rfl,_,rfl,_,rfl⟩
 subst hS;have t3:=eg.h.go l1 cn;have t4:=kU.h.go l1 cn;have g1:=t4.g;have gb:q<n0:=by have:=t4.lt;have:=t4.ge;have:=j9.h;omega
 have te:=kN.h.rK gb l1;have h6:n0≤A.next:=by have:=hn.h;have:=l1.next;omega
 have zk:∀ id,bH.next≤id→da v id:=fun id cQ=>cL.Uk kN.h cQ;have eK:j0 (fun id=>n0≤id∧da v id) A es xs:=af.h.to (l1.cg fun id T=>⟨by have:=T.1;omega,T⟩);have xe:gR (fun id=>n0≤id∧da v id) A e x:=bw.to (J.jd fun id T=>by have A:bH.next≤id:=T;exact⟨by have:=hn.h;omega,zk id A⟩);obtain⟨v',ae,qr,fb,akN,cb,rN,Ul⟩:=te.yh (x:=x) (AB h6) xe.ea.1 (by omega) (b:=64) (by have:=aR.h;omega) (by have:=aR.h;omega);have u:=ag1 xe;have ab:J.cg (fun id=>n0≤id∧da v id) (fun id=>n0≤id∧da v' id) A ae:=fun id cs own T aA=>⟨⟨T.1,rN id (by rw[aA];rfl)⟩,by rw[cb id (by rw[aA];rfl) T.2];exact aA⟩;have gc:=j0.snoc (xe.to ab) (eK.to ab);have gF:∀ i,i<n0→(A.get i).isSome=true→ae.get i=A.get i:=fun i au dj=>cb i dj (te.da au);have t3:=t3.low (by have:=k2.h;have:=j9.h;omega) gF Ul;have t4:=t4.low j9.h gF Ul;have bk:=cL.agD fb;have cG:=cL.one fb;obtain⟨bu,adS⟩:=t4.bu 4 bk cG (by simp);replace bu:cz 1 ae [aH cx 4,v']=some (b0,ae.set cx (.aq [I k,str m,str [],I n,v',aJ,aJ] true)):=bu;have t4:eQ h0 q cx [I k,str m,str [],I n,v',aJ,aJ] (ae.set cx (.aq [I k,str m,str [],I n,v',aJ,aJ] true)) dL:=adS;have t3:=t3.other t4.ge (by have:=k2.h;omega) (.aq [I k,str m,str [],I n,v',aJ,aJ] true);have iY:en (fun id=>h0.next≤id∧id≠b5) (ae.set cx (.aq [I k,str m,str [],I n,v',aJ,aJ] true)) v' (es++[e]):=by
  have oe:=t3.ge;have cp:=k2.h;have mI:=j9.h;have cM:J.cg (fun id=>n0≤id) (fun id=>h0.next≤id∧id≠b5) ae (ae.set cx (.aq [I k,str m,str [],I n,v',aJ,aJ] true)):=J.lf _ fun id T=>by
   have T:n0≤id:=T;refine⟨?_,?_,?_⟩<;>omega
  exact⟨xs++[x],(cL.oY fb).to cM,by have:=aR.h;simp;omega,(gc.to (J.jd fun id T=>T.1)).to cM⟩
 obtain⟨aG,h2⟩:∃ y,ae.set cx (.aq [I k,str m,str [],I n,v',aJ,aJ] true)=y:=⟨_,rfl⟩;rw[h2]at bu t3 t4 iY;obtain⟨ck,cm,dp⟩:=t3.Fp rfl iY dN.nil dN.nil ah;have g5:=t4.g;replace dp:=Hid.mk dp;clear eg kU kr kN af te eK xe zk bw l1 cn h2 t3 t4 adS iY gc gF ab fb akN cb rN Ul ah bk;simp only[aa,aw,bh,jX, *];exact dp.h
end Go.Eng.Sy
namespace Go.Eng.Sy
open Go Go.Eng Go.Proofs
variable {R:aT}
theorem cL.ahT{n0:Nat}{h:J}{v:Value}{xs:List (ar)}{es:List aX}(kN:cL (km n0) h 5 v xs)(af:j0 (fun id=>n0≤id∧da v id) h es xs)(aR:xs.length≤1){B:Nat→Prop}(cM:∀ id,n0≤id→B id):en B h v es :=
 ⟨xs,(cL.oY kN).to (J.jd cM),by omega,af.to (J.jd fun id T=>cM id T.1)⟩
noncomputable def Uc:bo:=(.seq (.aW OT []) (.seq (.hK OU [] 0 (.seq (.aW OV []) (.seq (.aW OJ []) (.seq (.aW OK []) (.seq (.aW OL []) .ret)))) .skip) L7))
theorem Ud{f deep:Nat}{h0 bH:J}{q b5 cx n0:Nat}{k n:Int}{m:aD}{v:Value}{xs:List (ar)}{es:List aX}{r:List Tok}{Q:aT}{N:Nat}{vars:List Nat}{m':Value}
  (eg:eQ h0 q b5 ny bH r) (kU:eQ h0 q cx [I k,str m,str [],I n,v,aJ,aJ] bH r) (k2:b5<cx) (j9:cx<n0) (hn:n0≤bH.next) (kN:cL (km n0) bH 5 v xs) (af:j0 (fun id=>n0≤id∧da v id) bH es xs) (aR:xs.length≤1) (ab:k=1→es=[])
  (ah:Out R q h0 (tq f deep k m n es r) (ye h0.next) Q) :
  W (PR:=iS R) Tryz.prog N vars Uc (B3 3 true 7 Q) [aH q 0,m',I (deep:Int),aH b5 0,aH cx 0] bH:=by
 delta Uc OT OU OV OJ OK OL;unfold tq at ah;have oJ:=eg.ne;have vx:=kU.ne;have zd:(cx==b5)=false:=by simp;omega
 replace eg:=U eg;replace kU:=U kU;replace k2:=U k2;replace j9:=U j9;replace hn:=U hn;replace kN:=U kN;replace af:=U af;replace aR:=U aR;replace ah:=U ah;replace ab:=U ab;simp only[aa,dX, *];refine uB eg.h.rd [61] (by simp[e0,K.cD,K.dF]) _ (ah.h.sub eg.h.le fun _ cn _ jS w A l1 rd ev=>?_);subst ev;have t3:=eg.h.go l1 rd;have t4:=kU.h.go l1 rd;have gb:q<n0:=by have:=t4.lt;have:=t4.ge;have:=j9.h;omega
 have te:=kN.h.rK gb l1;have h6:n0≤A.next:=by have:=hn.h;have:=l1.next;omega
 have eK:j0 (fun id=>n0≤id∧da v id) A es xs:=af.h.to (l1.cg fun id T=>⟨by have:=T.1;omega,T⟩);have g4:=t4.g;clear eg kU kN af hn l1 ah;have ah:=jS;clear jS;obtain⟨v0,i0,atj,arK,atn,az,aL,bq,cV,h2,hH,e7,e8⟩:=rd.hd;by_cases aj:k=1∧(hd cn).kind=1∧(hd cn.tail).text=[46]
 ·rw[if_pos aj]at ah;obtain⟨jj,jH,nL⟩:=aj;have aK:=ab.h jj;subst jj;subst aK;obtain⟨i2,q9,qy,rb,d1,d2,d3,d4⟩:=rd.h5 (by rw[jH];decide) az;rw[nL]at d4;rw[jH]at h2;clear cV hH e7 e8 d3 ab;have adx:((Value.string ⟨#[46]⟩):Value)=str [46]:=rfl;replace t3:=U t3;replace t4:=U t4;replace te:=U te;replace h6:=U h6;replace eK:=U eK;replace ah:=U ah;replace rd:=U rd;replace jH:=U jH;replace nL:=U nL;simp only[aa,aw,av,ay,dX,iz, *];refine Eg rd.h (by simp[e0,K.cD,K.dF];repeat (first|exact rfl|exact⟨_,rfl⟩|refine⟨_,rfl,?_⟩|refine⟨rfl,?_⟩)) _ (ah.h.sub t3.h.le fun t bM _ ew w S l2 qg ev=>?_);subst ev;have t4:=t4.h.go l2 qg;have t3:=t3.h.go l2 qg;have ZC:=te.h.rK gb l2;have gZ:j0 (fun id=>n0≤id∧da v id) S [] xs:=eK.h.to (l2.cg fun id T=>⟨by have:=T.1;omega,T⟩);have iY:en (fun id=>n0≤id) S v []:=cL.ahT ZC gZ aR.h fun id T=>T;have oe:=t3.ge;have yW:=k2.h;have St:=j9.h;obtain⟨er,ox⟩:=t4.bu 0 (v:=I 2) rfl rfl (by simp);have fi:=t3.other t4.ge (by omega) (.aq [I 2,str m,str [],I n,v,aJ,aJ] true);have iY:en (fun id=>n0≤id) (S.set cx (.aq [I 2,str m,str [],I n,v,aJ,aJ] true)) v []:=iY.to (J.lf _ fun id T=>⟨by have T:n0≤id:=T;omega,T⟩);obtain⟨ai,c8⟩:∃ y,S.set cx (.aq [I 2,str m,str [],I n,v,aJ,aJ] true)=y:=⟨_,rfl⟩;replace er:cz 1 S [aH cx 0,I 2]=some (b0,ai):=by rw[← c8];exact er
  replace ox:eQ h0 q cx [I 2,str m,str [],I n,v,aJ,aJ] ai bM:=by rw[← c8];exact ox
  rw[c8]at fi iY;obtain⟨dd,ek⟩:=ox.bu 2 (v:=str t.text) rfl rfl (by simp);have x3:=fi.other t4.ge (by omega) (.aq [I 2,str m,str t.text,I n,v,aJ,aJ] true);have iY:en (fun id=>n0≤id) (ai.set cx (.aq [I 2,str m,str t.text,I n,v,aJ,aJ] true)) v []:=iY.to (J.lf _ fun id T=>⟨by have T:n0≤id:=T;omega,T⟩);obtain⟨T,iO⟩:∃ y,ai.set cx (.aq [I 2,str m,str t.text,I n,v,aJ,aJ] true)=y:=⟨_,rfl⟩;replace dd:cz 1 ai [aH cx 2,str t.text]=some (b0,T):=by rw[← iO];exact dd
  replace ek:eQ h0 q cx [I 2,str m,str t.text,I n,v,aJ,aJ] T bM:=by rw[← iO];exact ek
  rw[iO]at x3 iY;clear ah az aL bq h2 d1 d2 d4 g4 t3 t4 fi ox l2 qg rd te ZC eK gZ h6 c8 iO oe yW St adx;replace x3:=U x3;replace ek:=U ek;replace iY:=U iY;replace ew:=U ew;simp only[aa,bh,dX, *];refine uB x3.h.rd [46] (by simp[e0,K.cD,K.dF]) _ (ew.h.sub x3.h.le fun _ cE _ fb w ae aE kS ev=>?_);subst ev;have t3:=x3.h.go aE kS;have t4:=ek.h.go aE kS;have iY:en (fun id=>n0≤id) ae v []:=iY.h.to (aE.cg fun id T=>⟨by have T:n0≤id:=T;omega,T⟩);clear x3 ek ew er dd aE kS;replace t3:=U t3;replace t4:=U t4;replace iY:=U iY;replace fb:=U fb;simp only[aa,dX, *];refine zY t3.h.rd (by simp[e0,K.cD,K.dF];repeat (first|exact rfl|exact⟨_,rfl⟩|refine⟨_,rfl,?_⟩|refine⟨rfl,?_⟩)) _ (fb.h.sub t3.h.le fun i eb _ kM w aB aO qh ev=>?_);subst ev;have t3:=t3.h.go aO qh;have t4:=t4.h.go aO qh;have iY:en (fun id=>n0≤id) aB v []:=iY.h.to (aO.cg fun id T=>⟨by have T:n0≤id:=T;omega,T⟩);have oe:=t3.ge;have yW:=k2.h;have St:=j9.h;obtain⟨er,ox⟩:=t4.bu 3 (v:=I i.n) rfl rfl (by simp);have fi:=t3.other t4.ge (by omega) (.aq [I 2,str m,str t.text,I i.n,v,aJ,aJ] true);have iY:en (fun id=>h0.next≤id∧id≠b5) (aB.set cx (.aq [I 2,str m,str t.text,I i.n,v,aJ,aJ] true)) v []:=iY.to (J.lf _ fun id T=>by have T:n0≤id:=T;refine⟨?_,?_,?_⟩<;>omega);obtain⟨ai,c8⟩:∃ y,aB.set cx (.aq [I 2,str m,str t.text,I i.n,v,aJ,aJ] true)=y:=⟨_,rfl⟩;replace er:cz 1 aB [aH cx 3,I i.n]=some (b0,ai):=by rw[← c8];exact er
  replace ox:eQ h0 q cx [I 2,str m,str t.text,I i.n,v,aJ,aJ] ai eb:=by rw[← c8];exact ox
  rw[c8]at fi iY;obtain⟨ck,cm,dp⟩:=fi.Fp rfl iY dN.nil dN.nil kM;have g5:=ox.g;replace dp:=Hid.mk dp;clear fb kM t3 t4 fi ox iY aO qh c8 oe yW St;simp only[aa,aw,bh,jX, *];exact dp.h
 ·rw[if_neg aj]at ah;have stop:W (PR:=iS R) Tryz.prog N vars L7 (B3 3 true 7 Q) [aH q 0,m',I (deep:Int),aH b5 0,aH cx 0] A :=
   alj t3 t4 k2.h j9.h h6 te eK aR.h ah
  replace stop:=Hid.mk stop;by_cases jj:k=1
  ·by_cases jH:(hd cn).kind=1
   ·have nL:¬(hd cn.tail).text=[46]:=fun e=>aj ⟨jj,jH,e⟩;obtain⟨i2,q9,qy,rb,d1,d2,d3,d4⟩:=rd.h5 (by rw[jH];decide) az;obtain⟨aqV,ahO⟩:∃ x,(hd cn.tail).text=x:=⟨_,rfl⟩;rw[ahO]at nL d4;rw[jH]at h2;subst jj;have adx:(aqV==[46])=false:=by simpa using nL
    clear cV hH e7 e8 d3 ab jH nL aj ah t3 t4 te eK rd;simp only[aa,aw,av,ay,iz, *];exact stop.h
   ·have bJ:((hd cn).kind==1)=false:=by simpa using jH
    subst jj;clear cV hH e7 e8 ab jH aj ah t3 t4 te eK rd;simp only[aa,aw,av,ay, *];exact stop.h
  ·have bk:(k==1)=false:=by simpa using jj
   clear az aL bq cV h2 hH e7 e8 ab jj aj ah t3 t4 te eK rd;simp only[aa,aw,av,ay, *];exact stop.h
end Go.Eng.Sy
namespace Go.Eng.Sy
open Go Go.Eng Go.Proofs
variable {R:aT}
theorem WD(k:Int)(m:aD):gQ ny [(0,1),(1,1)] [I k,str m]=some (kw k m [] 0 aJ aJ aJ):=rfl
theorem aqk(h:J)(k n:Int)(m f:aD):cz 7 (h.alloc (.aq ny true)) [aH h.next 0,kw k m f n aJ aJ aJ]=some (b0,h.alloc (.aq [I k,str m,str f,I n,aJ,aJ,aJ] true)):=kk rfl rfl rfl rfl
theorem ali{f deep:Nat}(fd:deep≤1000){m:aD}{l:List Tok}{h:J}{q:Nat}(hr:eo h q l){post:Prop}(fB:post)(Q:aT)(ah:Out R q h (uH f deep m l) (ye h.next) Q) :
  iM (PR:=iS R) Tryz.prog 164 [aH q 0,str m,I (deep:Int)] h post Q:=by
 unfold uH at ah;have eg:=eQ.new hr.lt (J.b2.refl q h) hr ny;obtain⟨b5,A,s1,gO,hz,bt⟩:=b9 h ny;rw[gO,s1]at eg;have bu:=aqk A 1 0 m [];have kU:=eQ.new eg.lt eg.le eg.rd [I 1,str m,str [],I 0,aJ,aJ,aJ];obtain⟨cx,S,CJ,jz,hf,dh⟩:=b9 A [I 1,str m,str [],I 0,aJ,aJ,aJ];rw[jz,CJ]at kU;rw[jz,CJ]at bu;replace eg:=eg.up dh;have k2:b5<cx:=by have:=J.bY hz;omega
 have gY:=J.bY hf;have oJ:=eg.ne;have vx:=kU.ne;have zd:(cx==b5)=false:=by simp;omega
 have wn:=WD 1 m;have ax:IntKind.i64.wrap ((deep:Int)+1)=((deep+1:Nat):Int):=by rw[cZ (by omega) (by omega)];rfl
 clear hr bt dh hz;replace eg:=U eg;replace kU:=U kU;replace k2:=U k2;replace gY:=U gY;replace fd:=U fd;replace ah:=U ah;have L:=ah;refine wC (k:=3) (agg:=true) (size:=7) amv (by rfl) rfl fB rfl rfl fun N=>?_;show W (PR:=iS R) Tryz.prog N _ ((.seq (.aW OH [(3,0)]) (.seq (.aW OI [(4,1)]) (.seq (.block 0 (.hK OO [] 0 (.aW OP []) (.hK OQ [] 0 (.seq (.aW OR []) (.aW OS [])) .skip))) Uc)))) _ [aH q 0,str m,I (deep:Int),b0,b0] _;delta OH OI OO OP OQ OR OS;replace L:=U L;clear L;simp only[aa,bh,dX, *];refine bj.x (qf eg.h.rd [46] _ fun b ae T aE cE=>?_);have t3:=eg.h.go aE cE;have t4:=kU.h.go aE cE;have hq:=aE.next;have g4:=t4.g;replace ah:=ah.h;clear eg kU aE bu hf;cases b with
 |true =>
  rw[if_pos T]at ah;have b6:(if true=true then l.tail else l)=l.tail:=rfl;rw[b6]at cE t3 t4;replace t3:=U t3;replace t4:=U t4;replace ah:=U ah;replace cE:=U cE;replace T:=U T;replace hq:=U hq;simp only[aa,dX, *];refine zY cE.h (by simp[e0,K.cD,K.dF];repeat (first|exact rfl|exact⟨_,rfl⟩|refine⟨_,rfl,?_⟩|refine⟨rfl,?_⟩)) _ (ah.h.sub t3.h.le fun i eb _ jS w aB aO qh ev=>?_);subst ev;have t3:=t3.h.go aO qh;have t4:=t4.h.go aO qh;have GD:cx+1≤aB.next:=by have:=gY.h;have:=hq.h;have:=aO.next;omega
  have oe:=t3.ge;have yW:=k2.h;obtain⟨er,ox⟩:=t4.bu 0 (v:=I 3) rfl rfl (by simp);have fi:=t3.other t4.ge (by omega) (.aq [I 3,str m,str [],I 0,aJ,aJ,aJ] true);obtain⟨ai,c8⟩:∃ y,aB.set cx (.aq [I 3,str m,str [],I 0,aJ,aJ,aJ] true)=y:=⟨_,rfl⟩;replace er:cz 1 aB [aH cx 0,I 3]=some (b0,ai):=by rw[← c8];exact er
  replace ox:eQ h q cx [I 3,str m,str [],I 0,aJ,aJ,aJ] ai eb:=by rw[← c8];exact ox
  rw[c8]at fi;obtain⟨dd,ek⟩:=ox.bu 3 (v:=I i.n) rfl rfl (by simp);have x3:=fi.other t4.ge (by omega) (.aq [I 3,str m,str [],I i.n,aJ,aJ,aJ] true);have Sx:ai.next=aB.next:=by rw[← c8];rfl
  have fin:=Ud (R:=R) (f:=f) (deep:=deep) (N:=N) (vars:=J9.vars) (n0:=cx+1) (xs:=[]) (es:=[]) (m':=str m) x3 ek yW (Nat.lt_succ_self _) (by show cx+1≤(ai.set cx _).next;rw[show(ai.set cx (.aq [I 3,str m,str [],I i.n,aJ,aJ,aJ] true)).next=ai.next from rfl];omega) (cL.nil _ _ _) rfl (by simp) (fun _=>rfl) jS;obtain⟨T,iO⟩:∃ y,ai.set cx (.aq [I 3,str m,str [],I i.n,aJ,aJ,aJ] true)=y:=⟨_,rfl⟩;replace dd:cz 1 ai [aH cx 3,I i.n]=some (b0,T):=by rw[← iO];exact dd
  rw[iO]at fin;replace fin:=Hid.mk fin;clear ah jS t3 t4 fi ox x3 ek aO qh c8 iO oe yW GD cE Sx g4;simp only[aa,bh, *];exact fin.h
 |false =>
  rw[if_neg (by rw[T];simp)]at ah;have b6:(if false=true then l.tail else l)=l:=rfl;rw[b6]at cE t3 t4;replace t3:=U t3;replace t4:=U t4;replace ah:=U ah;replace cE:=U cE;replace T:=U T;replace hq:=U hq;simp only[aa,dX, *];refine bj.x (qf cE.h [91] _ fun b aB dy aO eb=>?_);have t3:=t3.h.go aO eb;have t4:=t4.h.go aO eb;have GD:=aO.next;have KH:=t4.g;replace ah:=ah.h;clear aO g4 T cE;cases b with
  |true =>
   rw[if_pos dy]at ah;have b6:(if true=true then l.tail else l)=l.tail:=rfl;rw[b6]at eb t3 t4;replace t3:=U t3;replace t4:=U t4;replace ah:=U ah;replace eb:=U eb;replace dy:=U dy;replace GD:=U GD;simp only[aa,av,ay,dX, *];refine Kw f _ 1 (deep+1) _ _ _ eb.h (by simp[e0,K.cD,K.dF];repeat (first|exact rfl|exact⟨_,rfl⟩|refine⟨_,rfl,?_⟩|refine⟨rfl,?_⟩)) _ (ah.h.sub t3.h.le fun e gn _ jS w aG bc UF ⟨x,hS,af⟩=>?_);subst hS;have u:=pO af.ea;have t3:=t3.h.go bc UF;have t4:=t4.h.go bc UF;have asl:cx<aB.next:=by have:=gY.h;have:=hq.h;have:=GD.h;omega
   have jI:=bc.next;obtain⟨nt,a1,as1,iV,nj,gk⟩:=b9 aG x;have t3:=t3.up gk;have t4:=t4.up gk;have Bt:j0 (fun id=>cx+1≤id∧da (.slice (some ⟨nt,0,none⟩) 1 5) id) a1 [e] [x]:=⟨x,[],rfl,af.to fun id cs own T aA=>⟨⟨by have T:aB.next≤id:=T;omega,fun a b CI=>by cases CI;have:=J.bY aA;omega⟩,gk.get aA⟩,rfl⟩;have Bf:cL (km (cx+1)) a1 5 (.slice (some ⟨nt,0,none⟩) 1 5) [x]:=.inr ⟨nt,rfl,by show cx+1≤nt;omega,by simpa using nj,by simpa using af.ea.1⟩;have Ba:=J.bY nj;have oe:=t3.ge;have yW:=k2.h;have YW:cx<nt:=by omega
   have aas:∀ o,J.cg (fun id=>cx+1≤id∧da (.slice (some ⟨nt,0,none⟩) 1 5) id) (fun id=>cx+1≤id∧da (.slice (some ⟨nt,0,none⟩) 1 5) id) a1 (a1.set cx o):=fun o=>J.lf _ fun id T=>⟨by have:=T.1;omega,T⟩;obtain⟨er,ox⟩:=t4.bu 0 (v:=I 4) rfl rfl (by simp);have fi:=t3.other t4.ge (by omega) (.aq [I 4,str m,str [],I 0,aJ,aJ,aJ] true);have S9:=Bt.to (aas (.aq [I 4,str m,str [],I 0,aJ,aJ,aJ] true));have Dr:cL (km (cx+1)) (a1.set cx (.aq [I 4,str m,str [],I 0,aJ,aJ,aJ] true)) 5 (.slice (some ⟨nt,0,none⟩) 1 5) [x]:=Bf.get fun id e _=>J.dT _ _ _ _ (by cases e;simp;omega);obtain⟨ai,c8⟩:∃ y,a1.set cx (.aq [I 4,str m,str [],I 0,aJ,aJ,aJ] true)=y:=⟨_,rfl⟩;have Sx:ai.next=a1.next:=by rw[← c8];rfl
   replace er:cz 1 a1 [aH cx 0,I 4]=some (b0,ai):=by rw[← c8];exact er
   replace ox:eQ h q cx [I 4,str m,str [],I 0,aJ,aJ,aJ] ai gn:=by rw[← c8];exact ox
   rw[c8]at fi S9 Dr;have aat:∀ o,J.cg (fun id=>cx+1≤id∧da (.slice (some ⟨nt,0,none⟩) 1 5) id) (fun id=>cx+1≤id∧da (.slice (some ⟨nt,0,none⟩) 1 5) id) ai (ai.set cx o):=fun o=>J.lf _ fun id T=>⟨by have:=T.1;omega,T⟩;obtain⟨dd,ek⟩:=ox.bu 4 (v:=.slice (some ⟨nt,0,none⟩) 1 5) rfl rfl (by simp);have x3:=fi.other t4.ge (by omega) (.aq [I 4,str m,str [],I 0,.slice (some ⟨nt,0,none⟩) 1 5,aJ,aJ] true);have Hf:=S9.to (aat (.aq [I 4,str m,str [],I 0,.slice (some ⟨nt,0,none⟩) 1 5,aJ,aJ] true));have GI:cL (km (cx+1)) (ai.set cx (.aq [I 4,str m,str [],I 0,.slice (some ⟨nt,0,none⟩) 1 5,aJ,aJ] true)) 5 (.slice (some ⟨nt,0,none⟩) 1 5) [x]:=Dr.get fun id e _=>J.dT _ _ _ _ (by cases e;simp;omega);obtain⟨T,iO⟩:∃ y,ai.set cx (.aq [I 4,str m,str [],I 0,.slice (some ⟨nt,0,none⟩) 1 5,aJ,aJ] true)=y:=⟨_,rfl⟩;have vr:cx+1≤T.next:=by rw[← iO];show cx+1≤ai.next;omega
   replace dd:cz 1 ai [aH cx 4,.slice (some ⟨nt,0,none⟩) 1 5]=some (b0,T):=by rw[← iO];exact dd
   replace ek:eQ h q cx [I 4,str m,str [],I 0,.slice (some ⟨nt,0,none⟩) 1 5,aJ,aJ] T gn:=by rw[← iO];exact ek
   rw[iO]at x3 Hf GI;clear ah t3 t4 fi ox bc UF eb c8 iO oe yW KH nj Bt Bf S9 Dr af gk aas aat Sx;replace x3:=U x3;replace ek:=U ek;replace Hf:=U Hf;replace GI:=U GI;replace vr:=U vr;replace jS:=U jS;replace YW:=U YW;simp only[aa,bh,dX, *];refine uB x3.h.rd [93] (by simp[e0,K.cD,K.dF]) _ (jS.h.sub x3.h.le fun _ l0 _ ew w bN bE lD ev=>?_);subst ev;have gb:=x3.h.lt;have asM:=x3.h.ge;have Z6:j0 (fun id=>cx+1≤id∧da (.slice (some ⟨nt,0,none⟩) 1 5) id) bN [e] [x]:=Hf.h.to (bE.cg fun id T=>⟨by have:=T.1;have:=k2.h;omega,T⟩);have fin:=Ud (R:=R) (f:=f) (deep:=deep) (N:=N) (vars:=J9.vars) (n0:=cx+1) (m':=str m) (x3.h.go bE lD) (ek.h.go bE lD) k2.h (Nat.lt_succ_self _) (rI vr.h bE.next) (GI.h.rK (by have:=k2.h;omega) bE) Z6 (by simp) (fun e=>absurd e (by decide)) ew;replace fin:=Hid.mk fin;clear jS ew x3 ek Hf GI bE lD Z6 er dd;simp only[aa, *];exact fin.h
  |false =>
   rw[if_neg (by rw[dy];simp)]at ah;have b6:(if false=true then l.tail else l)=l:=rfl;rw[b6]at eb t3 t4;have fin:=Ud (R:=R) (f:=f) (deep:=deep) (N:=N) (vars:=J9.vars) (n0:=cx+1) (xs:=[]) (es:=[]) (m':=str m) t3 t4 k2.h (Nat.lt_succ_self _) (by have:=gY.h;have:=hq.h;omega) (cL.nil _ _ _) rfl (by simp) (fun _=>rfl) ah;replace fin:=Hid.mk fin;clear ah t3 t4 eb dy;simp only[aa, *];exact fin.h
end Go.Eng.Sy
namespace Go.Eng.Sy
open Go Go.Eng Go.Proofs
variable {R:aT}
def Ni(f:Nat):Prop:=∀(R:aT) (deep:Nat) (l:List Tok) (h:J) (q:Nat),deep≤1000→eo h q l→∀ {post:Prop},post→∀ Q:aT,Out R q h (pE f deep l) (ye h.next) Q →
 iM (PR:=iS R) Tryz.prog 142 [aH q 0,I (deep:Int)] h post Q
def Cv(f:Nat):Prop:=∀(R:aT) (deep:Nat) (l:List Tok) (h:J) (q:Nat),eo h q l→∀ {post:Prop},post→∀ Q:aT,Out R q h (jL f deep l) (yf h.next) Q →
 iM (PR:=iS R) Tryz.prog 118 [aH q 0,I (deep:Int)] h post Q
def Uu(f deep:Nat)(l:List Tok):PR aP:=(mP [40] l).bind fun _ r=>(lB f 1 (deep+1) r).bind fun e r=>(mP [41] r).bind fun _ r=>(jL f (deep+1) r).bind fun t r =>
 if dk [101,108,115,101] (hd r) then(jL f (deep+1) r.tail).bind fun x r=>.ok (.mk 6 [] [] 0 [e] t x) r else .ok (.mk 6 [] [] 0 [e] t []) r
theorem afH(i n:Nat)(hn:n=1):gQ ny [(0,1),(4,1)] [I 6,.slice (some ⟨i,0,none⟩) n 5]=some (kw 6 [] [] 0 (.slice (some ⟨i,0,none⟩) n 5) aJ aJ):=rfl
theorem aql(h:J)(k n:Int)(m f:aD){v:Value}(ad:v.oneCell'=true):cz 7 (h.alloc (.aq ny true)) [aH h.next 0,kw k m f n v aJ aJ]=some (b0,h.alloc (.aq [I k,str m,str f,I n,v,aJ,aJ] true)) :=
 kk rfl rfl rfl (by simp[ad];simp[Value.oneCell'])
theorem yf.one{n:Nat}{h:J}{v:Value}{l:List aP}(ad:yf n h l v):v.oneCell'=true∧v.cells.toList=[v]:=by
 obtain⟨_,_,_,rfl⟩:=dN.e6 ad;exact⟨dN.plain ad |>.one,rfl⟩
theorem agE{f deep:Nat}(lx:Cv f)(fd:deep≤1000){l:List Tok}{h:J}{q:Nat}(hr:eo h q l){post:Prop}(fB:post)(Q:aT)(ah:Out R q h (Uu f deep l) (ye h.next) Q) :
  iM (PR:=iS R) Tryz.prog 163 [aH q 0,I (deep:Int)] h post Q:=by
 unfold Uu at ah;have b4:=eQ.new hr.lt (J.b2.refl q h) hr ny;obtain⟨bO,A,lK,gO,dV,bt⟩:=b9 h ny;rw[gO,lK]at b4;have cN:=b4.ne;have ax:IntKind.i64.wrap ((deep:Int)+1)=((deep+1:Nat):Int):=by rw[cZ (by omega) (by omega)];rfl
 have ui:=J.bY dV;clear hr bt dV;replace b4:=U b4;replace fd:=U fd;replace ah:=U ah;replace lx:=U lx;replace ui:=U ui;have L:=ah;refine wC (k:=2) (agg:=true) (size:=7) amu (by rfl) rfl fB rfl rfl fun N=>?_;rw[eJ OG mY rfl];delta OG;replace L:=U L;clear L;simp only[aa,dX, *];refine uB b4.h.rd [40] (by simp[e0,K.cD,K.dF]) _ (ah.h.sub b4.h.le fun _ cE _ jS w ae aE kS ev=>?_);subst ev;have t2:=b4.h.go aE kS;have sp:bO<ae.next:=by have:=ui.h;have:=aE.next;omega
 clear ah b4 aE;replace t2:=U t2;replace jS:=U jS;replace kS:=U kS;replace sp:=U sp;simp only[aa,av,ay,dX, *];refine Kw f _ 1 (deep+1) _ _ _ kS.h (by simp[e0,K.cD,K.dF];repeat (first|exact rfl|exact⟨_,rfl⟩|refine⟨_,rfl,?_⟩|refine⟨rfl,?_⟩)) _ (jS.h.sub t2.h.le fun e eb _ ew w aB aO qh ⟨x,hS,af⟩=>?_);subst hS;have u:=pO af.ea;have t2:=t2.h.go aO qh;have jU:=UT af aO.next rfl;have gY:=aO.next;obtain⟨ft,aG,tN,qD,h4,iG⟩:=b9 aB x;rw[qD,tN]at jU;have t2:=t2.up iG;have mA:=afH ft 1 rfl;have bu:=aql aG 6 0 [] [] (v:=.slice (some ⟨ft,0,none⟩) 1 5) rfl;have eg:=eQ.new t2.lt t2.le t2.rd [I 6,str [],str [],I 0,.slice (some ⟨ft,0,none⟩) 1 5,aJ,aJ];have ajH:=J.bY h4;obtain⟨b5,a1,s1,iV,hz,gk⟩:=b9 aG [I 6,str [],str [],I 0,.slice (some ⟨ft,0,none⟩) 1 5,aJ,aJ];rw[iV,s1]at eg;rw[iV,s1]at bu;have t2:=t2.up gk;have oJ:=eg.ne;have pW:bO<b5:=by have:=sp.h;omega
 have ZD:(b5==bO)=false:=by simp;omega
 have Me:en (fun id=>bO<id∧id≠b5) a1 (.slice (some ⟨ft,0,none⟩) 1 5) [e]:=jU.to fun id cs own T aA=>⟨⟨by have T:ae.next≤id:=T;have:=sp.h;omega,by have:=J.bY aA;omega⟩,gk.get aA⟩;have Bk:=J.bY hz;clear jS aO qh af jU iG gk h4 hz gY kS ajH;replace t2:=U t2;replace eg:=U eg;replace Me:=U Me;replace ew:=U ew;replace pW:=U pW;replace Bk:=U Bk;simp only[aa,bh,dX, *];refine uB t2.h.rd [41] (by simp[e0,K.cD,K.dF]) _ (ew.h.sub t2.h.le fun _ l0 _ fb w bN bE lD ev=>?_);subst ev;have gb:=t2.h.lt;have ls:=t2.h.ge;have t2:=t2.h.go bE lD;have t3:=eg.h.go bE lD;have D4:en (fun id=>bO<id∧id≠b5) bN (.slice (some ⟨ft,0,none⟩) 1 5) [e]:=Me.h.to (bE.cg fun id T=>⟨by have:=T.1;omega,T⟩);have GN:b5<bN.next:=by have:=Bk.h;have:=bE.next;omega
 clear eg Me ew bE bu;replace t2:=U t2;replace t3:=U t3;replace D4:=U D4;replace fb:=U fb;replace lD:=U lD;replace GN:=U GN;simp only[aa,av,ay,dX, *];refine lx.h _ (deep+1) _ _ _ lD.h (by simp[e0,K.cD,K.dF];repeat (first|exact rfl|exact⟨_,rfl⟩|refine⟨_,rfl,?_⟩|refine⟨rfl,?_⟩)) _ (fb.h.sub t2.h.le fun v6 ov _ kM w b7 cq xG S5=>?_);have Lx:w.oneCell'=true∧w.cells.toList=[w]:=yf.one S5;have t2:=t2.h.go cq xG;have t3:=t3.h.go cq xG;have abz:en (fun id=>bO<id∧id≠b5) b7 (.slice (some ⟨ft,0,none⟩) 1 5) [e]:=D4.h.to (cq.cg fun id T=>⟨by have:=T.1;omega,T⟩);have Z2:dN (fun id=>bO<id∧id≠b5) b7 w v6:=dN.to (J.jd fun id T=>by have T:bN.next≤id:=T;have:=GN.h;have:=pW.h;constructor<;>omega) S5;obtain⟨bu,fi⟩:=t3.bu 5 Lx.2 Lx.1 (by simp);have asw:=pW.h;have u2:=t2.other t3.ge (by omega) (.aq [I 6,str [],str [],I 0,.slice (some ⟨ft,0,none⟩) 1 5,w,aJ] true);have fF:J.cg (fun id=>bO<id∧id≠b5) (fun id=>bO<id∧id≠b5) b7 (b7.set b5 (.aq [I 6,str [],str [],I 0,.slice (some ⟨ft,0,none⟩) 1 5,w,aJ] true)):=J.lf _ fun id T=>⟨T.2,T⟩;have HS:=abz.to fF;have xc:=Z2.to fF;have vp:(b7.set b5 (.aq [I 6,str [],str [],I 0,.slice (some ⟨ft,0,none⟩) 1 5,w,aJ] true)).next=b7.next:=rfl;have qR:=cq.next;obtain⟨dE,e9⟩:∃ y,b7.set b5 (.aq [I 6,str [],str [],I 0,.slice (some ⟨ft,0,none⟩) 1 5,w,aJ] true)=y:=⟨_,rfl⟩;replace bu:cz 1 b7 [aH b5 5,w]=some (b0,dE):=by rw[← e9];exact bu
 replace fi:eQ h q b5 [I 6,str [],str [],I 0,.slice (some ⟨ft,0,none⟩) 1 5,w,aJ] dE ov:=by rw[← e9];exact fi
 rw[e9]at u2 HS xc vp;have SG:b5<dE.next:=by have:=GN.h;omega
 have ati:=Lx.1;clear fb cq xG S5 t2 t3 D4 abz Z2 fF e9 Lx vp qR lD GN;replace u2:=U u2;replace fi:=U fi;replace HS:=U HS;replace xc:=U xc;replace kM:=U kM;replace SG:=U SG;simp only[aa,bh,dX, *];refine bj.x (qf u2.h.rd [101,108,115,101] _ fun b dW T lc vT=>?_);have t2:=u2.h.go lc vT;have t3:=fi.h.go lc vT;have zO:en (fun id=>bO<id∧id≠b5) dW (.slice (some ⟨ft,0,none⟩) 1 5) [e]:=HS.h.to (lc.cg fun id T=>⟨by have:=T.1;omega,T⟩);have DB:dN (fun id=>bO<id∧id≠b5) dW w v6:=xc.h.to (lc.cg fun id T=>⟨by have:=T.1;omega,T⟩);have GF:=lc.next;replace ah:=kM.h;have g3:=t3.g;clear u2 fi HS xc kM lc bu;cases b with
 |true =>
  rw[if_pos T]at ah;have b6:(if true=true then ov.tail else ov)=ov.tail:=rfl;rw[b6]at vT t2 t3;replace t2:=U t2;replace t3:=U t3;replace zO:=U zO;replace DB:=U DB;replace ah:=U ah;replace vT:=U vT;replace T:=U T;replace GF:=U GF;simp only[aa,av,ay,dX, *];refine lx.h _ (deep+1) _ _ _ vT.h (by simp[e0,K.cD,K.dF];repeat (first|exact rfl|exact⟨_,rfl⟩|refine⟨_,rfl,?_⟩|refine⟨rfl,?_⟩)) _ (ah.h.sub t2.h.le fun et aoT _ rE z cM BJ H8 Ta=>?_);have LC:z.oneCell'=true∧z.cells.toList=[z]:=yf.one Ta;have t2:=t2.h.go BJ H8;have t3:=t3.h.go BJ H8;have abA:en (fun id=>bO<id∧id≠b5) cM (.slice (some ⟨ft,0,none⟩) 1 5) [e]:=zO.h.to (BJ.cg fun id T=>⟨by have:=T.1;omega,T⟩);have Z3:dN (fun id=>bO<id∧id≠b5) cM w v6:=DB.h.to (BJ.cg fun id T=>⟨by have:=T.1;omega,T⟩);have Z9:dN (fun id=>bO<id∧id≠b5) cM z et:=dN.to (J.jd fun id T=>by have T:dW.next≤id:=T;have:=SG.h;have:=GF.h;constructor<;>omega) Ta;obtain⟨bu,fi⟩:=t3.bu 6 LC.2 LC.1 (by simp);have u2:=t2.other t3.ge (by omega) (.aq [I 6,str [],str [],I 0,.slice (some ⟨ft,0,none⟩) 1 5,w,z] true);have fF:J.cg (fun id=>bO<id∧id≠b5) (fun id=>h.next≤id∧id≠bO) cM (cM.set b5 (.aq [I 6,str [],str [],I 0,.slice (some ⟨ft,0,none⟩) 1 5,w,z] true)):=J.lf _ fun id T=>⟨T.2,by have:=T.1;constructor<;>omega⟩;have Um:=abA.to fF;have S6:=Z3.to fF;have Tb:=Z9.to fF;obtain⟨sg,Kq⟩:∃ y,cM.set b5 (.aq [I 6,str [],str [],I 0,.slice (some ⟨ft,0,none⟩) 1 5,w,z] true)=y:=⟨_,rfl⟩;replace bu:cz 1 cM [aH b5 6,z]=some (b0,sg):=by rw[← Kq];exact bu
  replace fi:eQ h q b5 [I 6,str [],str [],I 0,.slice (some ⟨ft,0,none⟩) 1 5,w,z] sg aoT:=by rw[← Kq];exact fi
  rw[Kq]at u2 Um S6 Tb;obtain⟨ck,cm,dp⟩:=u2.Fp rfl Um S6 Tb rE;have g5:=fi.g;have ato:=LC.1;replace dp:=Hid.mk dp;clear ah rE t2 t3 u2 fi BJ H8 Ta Z9 Z3 S6 Tb abA Um Kq fF LC zO DB vT g3;simp only[aa,aw,bh,jX, *];exact dp.h
 |false =>
  rw[if_neg (by rw[T];simp)]at ah;have b6:(if false=true then ov.tail else ov)=ov:=rfl;rw[b6]at vT t2 t3;have fF:J.cg (fun id=>bO<id∧id≠b5) (fun id=>h.next≤id∧id≠bO) dW dW:=J.jd fun id T=>by have:=T.1;constructor<;>omega
  obtain⟨ck,cm,dp⟩:=t2.Fp rfl (zO.to fF) (DB.to fF) dN.nil ah;replace dp:=Hid.mk dp;clear ah t2 t3 zO DB fF vT T;simp only[aa,aw,bh,jX, *];exact dp.h
end Go.Eng.Sy
namespace Go.Eng.Sy
open Go Go.Eng Go.Proofs
theorem Out.last{c1:Type}{R:aT}{q:Nat}{h A:J}{x:PR c1}{V EM:J→c1→Value→Prop}{Q gA:aT}(ah:Out R q h x V Q)(ag:h.b2 q A)
  (k:∀ a r,x=.ok a r→Out R q h (.ok a r) V Q→∀ v D,A.b2 q D→eo D q r→EM D a v→gA v D):Out R q A x EM gA :=
 ⟨fun a r af=>k a r af (by rw[af]at ah;exact ah),fun e l af D cW=>ah.bad e l af D (ag.trans cW),ah.ne⟩
variable {R:aT}
theorem adI{f deep:Nat}(lx:Cv f){h A:J}{q bO:Nat}{k n:Int}{m:aD}{r:List Tok}{Q:aT}(b4:eQ h q bO [I k,str m,str [],I n,aJ,aJ,aJ] A r)(hp:bO<A.next)
  {post:Prop}(fB:post) (gA:aT) (ah:Out R q h ((jL f (deep+1) r).bind fun t r=>.ok (.mk k m [] n [] t []) r) (ye h.next) Q)
  (L:∀ w S,w.oneCell'=true→S.get bO=some (.aq [I k,str m,str [],I n,aJ,aJ,aJ] true)→cz 1 S [aH bO 5,w]=some (b0,S.set bO (.aq [I k,str m,str [],I n,aJ,w,aJ] true)) →
   (S.set bO (.aq [I k,str m,str [],I n,aJ,w,aJ] true)).get bO=some (.aq [I k,str m,str [],I n,aJ,w,aJ] true) →
   Hid (Q (kw k m [] n aJ w aJ) (S.set bO (.aq [I k,str m,str [],I n,aJ,w,aJ] true)))→gA w S) :
  iM (PR:=iS R) Tryz.prog 118 [aH q 0,I ((deep+1:Nat):Int)] A post gA:=by
 refine lx _ (deep+1) _ _ _ b4.rd fB _ (ah.sub b4.le fun v6 bM _ ew w S l2 qg ax=>?_);have zm:w.oneCell'=true∧w.cells.toList=[w]:=yf.one ax;have t2:=b4.go l2 qg;obtain⟨bu,u2⟩:=t2.bu 5 zm.2 zm.1 (by simp);refine L w S zm.1 t2.g bu u2.g ⟨?_⟩;have oe:=t2.ge;have aV:=t2.lt;have fF:J.cg (fun id=>A.next≤id) (fun id=>h.next≤id) S (S.set bO (.aq [I k,str m,str [],I n,aJ,w,aJ] true)):=J.lf _ fun id T=>by have T:A.next≤id:=T;constructor<;>omega
 exact ew.fin u2.le u2.rd ⟨_,rfl,lJ.of en.nil (dN.to fF ax) dN.nil⟩
theorem eQ.all{h0:J}{q p:Nat}{c:ar}{bH:J}{r:List Tok}(s:eQ h0 q p c bH r){n:Nat}(aj:c.length=n){v:Value}{cs:ar}(ad:v.cells.toList=cs)(ag:cs.length=n)(A:cs.all (·.oneCell')=true) :
  cz n bH [aH p 0,v]=some (b0,bH.set p (.aq cs true))∧eQ h0 q p cs (bH.set p (.aq cs true)) r :=
 ⟨nZ s.g ad ag aj A,s.lt,s.ge,s.le.oW s.ge _,s.rd.set (by have:=s.lt;have:=s.ge;omega) _,J.gz _ _ _ (by rw[s.g];rfl)⟩
theorem afL(n:Int):gQ ny [(0,1),(3,1)] [I 7,I n]=some (kw 7 [] [] n aJ aJ aJ):=rfl
theorem aoZ{f:Nat}(lx:∀ g,g<f→Cv g):Ni f:=by
 intro R deep l h q fd hr post fB Q ah;cases f with
 |zero=>exact absurd (by rw[pE]) ah.ne
 |succ f =>
 replace lx:=lx f (by omega);rw[pE]at ah;have b4:=eQ.new hr.lt (J.b2.refl q h) hr ny;obtain⟨bO,A,lK,gO,dV,bt⟩:=b9 h ny;rw[gO,lK]at b4;have cN:=b4.ne;have ax:IntKind.i64.wrap ((deep:Int)+1)=((deep+1:Nat):Int):=by rw[cZ (by omega) (by omega)];rfl
 have ui:=J.bY dV;clear hr bt dV;replace b4:=U b4;replace fd:=U fd;replace ah:=U ah;replace lx:=U lx;replace ui:=U ui;have L:=ah;refine wC (k:=2) (agg:=true) (size:=7) amh (by rfl) rfl fB rfl rfl fun N=>?_;rw[eJ Oq iL rfl];delta Oq;replace L:=U L;clear L;simp only[aa,dX, *];refine bj.x (qf b4.h.rd [105,102] _ fun b ae T aE cE=>?_);have t2:=b4.h.go aE cE;have sp:bO<ae.next:=by have:=ui.h;have:=aE.next;omega
 replace ah:=ah.h;clear b4 aE;cases b with
 |true =>
  rw[if_pos T]at ah;replace ah:Out R q h (Uu f deep l.tail) (ye h.next) Q:=ah;have b6:(if true=true then l.tail else l)=l.tail:=rfl;rw[b6]at cE t2;replace t2:=U t2;replace ah:=U ah;replace cE:=U cE;replace T:=U T;replace sp:=U sp;simp only[aa,dX, *];refine agE lx.h fd.h cE.h (by simp[e0,K.cD,K.dF];repeat (first|exact rfl|exact⟨_,rfl⟩|refine⟨_,rfl,?_⟩|refine⟨rfl,?_⟩)) _ (ah.h.last t2.h.le fun e eb _ ew w aB aO qh ⟨x,hS,af⟩=>?_);subst hS;have t2:=t2.h.go aO qh;obtain⟨k,m,g,n,a,aqK,el⟩:=e;obtain⟨v,u,w,rfl,ad,hu,mL⟩:=af.cells;have oe:=t2.ge;have fF:J.cg (fun id=>ae.next≤id) (fun id=>h.next≤id∧id≠bO) aB aB:=J.jd fun id T=>by have T:ae.next≤id:=T;have:=sp.h;constructor<;>omega
  obtain⟨ck,cm,dp⟩:=t2.Fp rfl (ad.to fF) (hu.to fF) (mL.to fF) ew;have cG:=ad.plain.one;have cP:=hu.plain.one;have gm:=mL.plain.one;replace dp:=Hid.mk dp;clear ah ew t2 aO qh af ad hu mL fF oe cE;simp only[aa,aw,bh,jX,aP.kind,aP.name,aP.src,aP.n, *];exact dp.h
 |false =>
 rw[if_neg (by rw[T];simp)]at ah;have b6:(if false=true then l.tail else l)=l:=rfl;rw[b6]at cE t2;clear T b6 cE;replace t2:=U t2;replace ah:=U ah;replace sp:=U sp;simp only[aa,dX, *];refine bj.x (qf t2.h.rd [108,111,99,107] _ fun b aB T aO eb=>?_);have t2:=t2.h.go aO eb;have Bi:bO<aB.next:=by have:=sp.h;have:=aO.next;omega
 replace ah:=ah.h;clear aO sp;cases b with
 |true =>
  rw[if_pos T]at ah;have b6:(if true=true then l.tail else l)=l.tail:=rfl;rw[b6]at eb t2;replace t2:=U t2;replace ah:=U ah;replace eb:=U eb;replace T:=U T;replace Bi:=U Bi;simp only[aa,dX, *];refine Eg eb.h (by simp[e0,K.cD,K.dF];repeat (first|exact rfl|exact⟨_,rfl⟩|refine⟨_,rfl,?_⟩|refine⟨rfl,?_⟩)) _ (ah.h.sub t2.h.le fun t gn _ ew w aG bc rV ev=>?_);subst ev;have t2:=t2.h.go bc rV;have w5:bO<aG.next:=by have:=Bi.h;have:=bc.next;omega
  have wn:=WD 5 t.text;obtain⟨bu,u2⟩:=t2.all (v:=kw 5 t.text [] 0 aJ aJ aJ) rfl rfl rfl rfl;have h7:(aG.set bO (.aq [I 5,str t.text,str [],I 0,aJ,aJ,aJ] true)).next=aG.next:=rfl;obtain⟨a1,hH⟩:∃ y,aG.set bO (.aq [I 5,str t.text,str [],I 0,aJ,aJ,aJ] true)=y:=⟨_,rfl⟩;replace bu:cz 7 aG [aH bO 0,kw 5 t.text [] 0 aJ aJ aJ]=some (b0,a1):=by rw[← hH];exact bu
  replace u2:eQ h q bO [I 5,str t.text,str [],I 0,aJ,aJ,aJ] a1 gn:=by rw[← hH];exact u2
  rw[hH]at h7;have vu:bO<a1.next:=by omega
  clear ah t2 bc rV hH h7 eb w5;replace u2:=U u2;replace ew:=U ew;replace vu:=U vu;simp only[aa,bh,av,ay,dX, *];refine adI lx.h u2.h vu.h (by simp[e0,K.cD,K.dF];repeat (first|exact rfl|exact⟨_,rfl⟩|refine⟨_,rfl,?_⟩|refine⟨rfl,?_⟩)) _ ew.h fun w bN er g7 uL g8 dp=>?_;clear ew u2 bu;simp only[aa,aw,bh,jX, *];exact dp.h
 |false =>
 rw[if_neg (by rw[T];simp)]at ah;have b6:(if false=true then l.tail else l)=l:=rfl;rw[b6]at eb t2;clear T b6 eb;replace t2:=U t2;replace ah:=U ah;replace Bi:=U Bi;simp only[aa,dX, *];refine bj.x (qf t2.h.rd [114,101,112,101,97,116] _ fun b aG T bc gn=>?_);have t2:=t2.h.go bc gn;have w5:bO<aG.next:=by have:=Bi.h;have:=bc.next;omega
 replace ah:=ah.h;clear bc Bi;cases b with
 |true =>
  rw[if_pos T]at ah;have b6:(if true=true then l.tail else l)=l.tail:=rfl;rw[b6]at gn t2;replace t2:=U t2;replace ah:=U ah;replace gn:=U gn;replace T:=U T;replace w5:=U w5;simp only[aa,dX, *];refine zY gn.h (by simp[e0,K.cD,K.dF];repeat (first|exact rfl|exact⟨_,rfl⟩|refine⟨_,rfl,?_⟩|refine⟨rfl,?_⟩)) _ (ah.h.sub t2.h.le fun t ku _ ew w a1 aY oV ev=>?_);subst ev;have t2:=t2.h.go aY oV;have vu:bO<a1.next:=by have:=w5.h;have:=aY.next;omega
  have wn:=afL t.n;obtain⟨bu,u2⟩:=t2.all (v:=kw 7 [] [] t.n aJ aJ aJ) rfl rfl rfl rfl;have vo:(a1.set bO (.aq [I 7,str [],str [],I t.n,aJ,aJ,aJ] true)).next=a1.next:=rfl;obtain⟨bN,e7⟩:∃ y,a1.set bO (.aq [I 7,str [],str [],I t.n,aJ,aJ,aJ] true)=y:=⟨_,rfl⟩;replace bu:cz 7 a1 [aH bO 0,kw 7 [] [] t.n aJ aJ aJ]=some (b0,bN):=by rw[← e7];exact bu
  replace u2:eQ h q bO [I 7,str [],str [],I t.n,aJ,aJ,aJ] bN ku:=by rw[← e7];exact u2
  rw[e7]at vo;have Bj:bO<bN.next:=by omega
  clear ah t2 aY oV e7 vo gn vu;replace u2:=U u2;replace ew:=U ew;replace Bj:=U Bj;simp only[aa,bh,av,ay,dX, *];refine adI lx.h u2.h Bj.h (by simp[e0,K.cD,K.dF];repeat (first|exact rfl|exact⟨_,rfl⟩|refine⟨_,rfl,?_⟩|refine⟨rfl,?_⟩)) _ ew.h fun w b7 er g7 uL g8 dp=>?_;clear ew u2 bu;simp only[aa,aw,bh,jX, *];exact dp.h
 |false =>
 rw[if_neg (by rw[T];simp)]at ah;have b6:(if false=true then l.tail else l)=l:=rfl;rw[b6]at gn t2;clear T b6 gn;replace t2:=U t2;replace ah:=U ah;replace w5:=U w5;simp only[aa,dX, *];refine bj.x (qf t2.h.rd [104,97,108,116] _ fun b a1 T aY ku=>?_);have t2:=t2.h.go aY ku;have vu:bO<a1.next:=by have:=w5.h;have:=aY.next;omega
 have g6:=t2.g;replace ah:=ah.h;clear aY w5;cases b with
 |true =>
  rw[if_pos T]at ah;have b6:(if true=true then l.tail else l)=l.tail:=rfl;rw[b6]at ku t2;obtain⟨bu,u2⟩:=t2.bu 0 (v:=I 8) rfl rfl (by simp);obtain⟨bN,e7⟩:∃ y,a1.set bO (.aq [I 8,str [],str [],I 0,aJ,aJ,aJ] true)=y:=⟨_,rfl⟩;replace bu:cz 1 a1 [aH bO 0,I 8]=some (b0,bN):=by rw[← e7];exact bu
  replace u2:eQ h q bO [I 8,str [],str [],I 0,aJ,aJ,aJ] bN l.tail:=by rw[← e7];exact u2
  clear t2 e7 ku vu;replace u2:=U u2;replace ah:=U ah;replace T:=U T;simp only[aa,bh,dX, *];refine uB u2.h.rd [59] (by simp[e0,K.cD,K.dF]) _ (ah.h.sub u2.h.le fun _ ov _ ew w b7 cq xG ev=>?_);subst ev;have u2:=u2.h.go cq xG;have g8:=u2.g;have dp:=ew.fin u2.le u2.rd ⟨_,rfl,lJ.of en.nil dN.nil dN.nil⟩;replace dp:=Hid.mk dp;clear ah ew u2 cq xG bu;simp only[aa,aw,jX, *];exact dp.h
 |false =>
 rw[if_neg (by rw[T];simp)]at ah;have b6:(if false=true then l.tail else l)=l:=rfl;rw[b6]at ku t2;clear T b6 g6;replace t2:=U t2;replace ah:=U ah;replace vu:=U vu;replace ku:=U ku;simp only[aa,dX, *];refine Eg ku.h (by simp[e0,K.cD,K.dF];repeat (first|exact rfl|exact⟨_,rfl⟩|refine⟨_,rfl,?_⟩|refine⟨rfl,?_⟩)) _ (ah.h.sub t2.h.le fun t l0 _ ew w bN bE lD ev=>?_);subst ev;have t2:=t2.h.go bE lD;have Bj:bO<bN.next:=by have:=vu.h;have:=bE.next;omega
 clear ah bE ku;replace t2:=U t2;replace ew:=U ew;replace Bj:=U Bj;replace lD:=U lD;simp only[aa,dX, *];refine ali fd.h lD.h (by simp[e0,K.cD,K.dF];repeat (first|exact rfl|exact⟨_,rfl⟩|refine⟨_,rfl,?_⟩|refine⟨rfl,?_⟩)) _ (ew.h.sub t2.h.le fun e ov _ fb w b7 cq xG ⟨x,hS,af⟩=>?_);subst hS;have t2:=t2.h.go cq xG;obtain⟨k,m,g,n,a,aqK,el⟩:=e;obtain⟨v,u,w,rfl,ad,hu,mL⟩:=af.cells;have oe:=t2.ge;have cG:=ad.plain.one;have cP:=hu.plain.one;have gm:=mL.plain.one;obtain⟨bu,u2⟩:=t2.all (v:=kw k m g n v u w) (cs:=[I k,str m,str g,I n,v,u,w]) rfl rfl rfl (by simp[cG,cP,gm];simp[Value.oneCell']);have fF:J.cg (fun id=>bN.next≤id) (fun id=>h.next≤id∧id≠bO) b7 (b7.set bO (.aq [I k,str m,str g,I n,v,u,w] true)):=J.lf _ fun id T=>by have T:bN.next≤id:=T;have:=Bj.h;refine⟨?_,?_,?_⟩<;>omega
 have ad:=ad.to fF;have hu:=hu.to fF;have mL:=mL.to fF;obtain⟨dE,e9⟩:∃ y,b7.set bO (.aq [I k,str m,str g,I n,v,u,w] true)=y:=⟨_,rfl⟩;replace bu:cz 7 b7 [aH bO 0,kw k m g n v u w]=some (b0,dE):=by rw[← e9];exact bu
 replace u2:eQ h q bO [I k,str m,str g,I n,v,u,w] dE ov:=by rw[← e9];exact u2
 rw[e9]at ad hu mL;clear t2 ew cq xG lD af fF e9;replace u2:=U u2;replace fb:=U fb;replace ad:=U ad;replace hu:=U hu;replace mL:=U mL;replace oe:=U oe;simp only[aa,bh,dX,aP.kind,aP.name,aP.src,aP.n, *];refine uB u2.h.rd [59] (by simp[e0,K.cD,K.dF]) _ (fb.h.sub u2.h.le fun _ vT _ kM w' dW lc acl ev=>?_);subst ev;have gb:=u2.h.lt;have u2:=u2.h.go lc acl;have asa:=u2.g;have fF:J.cg (fun id=>h.next≤id∧id≠bO) (fun id=>h.next≤id) dE dW:=lc.cg fun id T=>⟨by have:=T.1;omega,T.1⟩;have dp:=kM.fin u2.le u2.rd ⟨_,rfl,lJ.of (ad.h.to fF) (hu.h.to fF) (mL.h.to fF)⟩;replace dp:=Hid.mk dp;clear fb kM u2 lc acl bu fF ad hu mL;simp only[aa,aw,jX, *];exact dp.h
end Go.Eng.Sy
namespace Go.Eng.Sy
open Go Go.Eng Go.Proofs
theorem afW(x:PR (List aP)):(x.bind fun t r=>.ok ([]++t) r)=x:=by cases x<;>rfl
theorem afX(et:List aP)(s:aP)(x:PR (List aP)):((x.bind fun t r=>.ok (s::t) r).bind fun t r=>PR.ok (et++t) r)=x.bind fun t r=>.ok ((et++[s])++t) r:=by
 cases x<;>simp[PR.bind]
theorem EV{c1 l5 VJ:Type}(x:PR c1)(g:c1→List Tok→PR l5)(k:l5→List Tok→PR VJ):(x.bind g).bind k=x.bind fun a r=>(g a r).bind k:=by cases x<;>rfl
theorem aoU{f:Nat}(ih:∀ g,g<f→Ni g):Cv f:=by
 intro R deep l h q hr post fB Q ah;cases f with
 |zero=>exact absurd (by rw[jL]) ah.ne
 |succ f =>
 rw[jL]at ah;have gb:=hr.lt;have aR:=hr.len;replace hr:=U hr;replace ih:=U ih;replace gb:=U gb;replace aR:=U aR;have L:=ah;clear ah;refine QH (k:=2) alV (by rfl) rfl fB rfl rfl fun N=>?_;rw[eJ N3 iL rfl];delta N3;replace L:=U L;simp only[aa,dX, *];refine uB hr.h [123] (by simp[e0,K.cD,K.dF]) _ (L.h.sub (.refl _ _) fun _ cn hn ah w A l1 zZ ev=>?_);subst ev;have bF:cn.length<l.length:=(oS hn).1;clear L hn;replace l1:=U l1;replace zZ:=U zZ;replace ah:=U ah;replace bF:=U bF;simp only[aa,dX, *];refine Yb deep (by simp[e0,K.cD,K.dF]) _ (fun fd=>?_) fun fd D df=>ah.h.bad Fc 1 (by rw[if_pos fd]) D (l1.h.trans df);replace ah:=ah.h;rw[if_neg (by omega)]at ah;replace ah:=U ah;replace fd:=U fd;simp only[aa, *];refine ch.CG (by rfl) (fun m j4 cp=>∃ v xs et r,j4=[aH q 0,I (deep:Int),v]∧h.b2 q cp∧eo cp q r∧cL (km h.next) cp 7 v xs∧j1 (fun id=>h.next≤id∧da v id) cp et xs ∧
  Out R q h ((pF m deep r).bind fun t r=>.ok (et++t) r) (yf h.next) Q∧xs.length+r.length≤l.length∧m≤f) ?_ (m:=f) ⟨bx,[],[],cn,rfl,l1.h,zZ.h,cL.nil _ _ _,rfl,by rw[afW];exact ah.h,by have:=bF.h;simp;omega,br _⟩
 clear zZ ah l1 bF;rintro m j4 S ce ⟨v,xs,et,r,rfl,l2,bM,kN,af,ah,Bb,hm⟩ aN;replace l2:=U l2;replace bM:=U bM;replace kN:=U kN;replace af:=U af;replace ah:=U ah;replace Bb:=U Bb;replace hm:=U hm;delta Xe;simp only[aa,dX, *];refine bj.x (qf bM.h [125] _ fun b ae T aE cE=>?_);have zc:=kN.h.rK (by exact gb.h) aE;have gc:j1 (fun id=>h.next≤id∧da v id) ae et xs:=af.h.to (aE.cg fun id T=>⟨by have:=T.1;have:=gb.h;omega,T⟩);have gH:=l2.h.trans aE;cases m with
 |zero=>exact absurd (by rw[pF];rfl) ah.h.ne
 |succ m =>
 replace ah:=ah.h;rw[pF]at ah;clear kN af l2 bM aE;cases b with
 |true =>
  rw[if_pos T]at ah;have b6:(if true=true then r.tail else r)=r.tail:=rfl;rw[b6]at cE;have bX:=aR.h;have Zt:=Bb.h;have dp:Q v ae:=ah.fin gH cE (show dN _ _ _ _ from⟨xs,cL.oY zc,by omega,by simpa using gc.to (J.jd fun id T=>T.1)⟩);replace dp:=Hid.mk dp;clear ah gH cE zc gc T aN Bb Zt bX;simp only[aa, *];exact dp.h
 |false =>
  rw[if_neg (by rw[T];simp),EV]at ah;have b6:(if false=true then r.tail else r)=r:=rfl;rw[b6]at cE;have hq:h.next≤ae.next:=gH.next;replace ah:=U ah;replace gH:=U gH;replace cE:=U cE;replace zc:=U zc;replace gc:=U gc;replace T:=U T;replace aN:=U aN;replace hq:=U hq;simp only[aa,dX, *];refine ih.h m (by have:=hm.h;omega) _ deep _ _ _ fd.h cE.h (by simp[e0,K.cD,K.dF];repeat (first|exact rfl|exact⟨_,rfl⟩|refine⟨_,rfl,?_⟩|refine⟨rfl,?_⟩)) _ (ah.h.sub gH.h fun e eb ak ew w aB aO qh ⟨y,hS,bw⟩=>?_);subst hS;rw[afX]at ew;have lq:eb.length<r.length:=(Ia m).1 deep r e eb ak;have kM:=zc.h.rK (by exact gb.h) aO;have zk:∀ id,ae.next≤id→da v id:=fun id cQ=>cL.Uk zc.h cQ;have DE:j1 (fun id=>h.next≤id∧da v id) aB _ xs:=gc.h.to (aO.cg fun id T=>⟨by have:=T.1;have:=gb.h;omega,T⟩);have xf:lJ (fun id=>h.next≤id∧da v id) aB _ y:=bw.to (J.jd fun id T=>by have A:ae.next≤id:=T;have:=hq.h;exact⟨by omega,zk id A⟩);have bX:=aR.h;have Zt:=Bb.h;obtain⟨v',aG,qr,rE,TV,dG,p9,HR⟩:=kM.yh (x:=y) (AB (by have:=aO.next;have:=hq.h;show h.next≤aB.next;omega)) xf.ea.1 (by omega) (b:=120) (by omega) (by omega);have u:=WY xf.ea;have ab:J.cg (fun id=>h.next≤id∧da v id) (fun id=>h.next≤id∧da v' id) aB aG:=fun id cs own T aA=>⟨⟨T.1,p9 id (by rw[aA];rfl)⟩,by rw[dG id (by rw[aA];rfl) T.2];exact aA⟩;have th:=j1.snoc (xf.to ab) (DE.to ab);have gF:∀ i,i<h.next→(aB.get i).isSome=true→aG.get i=aB.get i:=fun i au dj=>dG i dj (zc.h.da au);have bc:h.b2 q aG:=⟨fun i au dj=>by
   obtain⟨o,Gh⟩:=r1.1 dj;have dm:=J.bY Gh;have k2:=(gH.h.trans aO).get i au dj;rw[gF i dm (by rw[k2];exact dj),k2],by have:=aO.next;have:=hq.h;omega⟩
  have gn:eo aG q eb:=qh.bP fun i au ak=>gF i (by have:=gb.h;omega) ak;have g:=aN.h.h m _ _ (by omega) ⟨v',xs++[y],et++[e],eb,rfl,bc,gn,rE,th,ew,by simp;omega,by have:=hm.h;omega⟩;replace g:=Hid.mk g;clear DE kM bw xf dG p9 ab gF HR TV zk aO ah ew qh ak bc gn rE th aN zc gc;simp only[aa,bh, *];exact g.h
theorem aoY:∀ f,Ni f∧Cv f:=fun f=>by
 induction f using Nat.strongRecOn with
 |ind f ih=>exact⟨aoZ fun g aA=>(ih g aA).2,aoU fun g aA=>(ih g aA).1⟩
theorem afY(f:Nat):Cv f:=(aoY f).2
end Go.Eng.Sy
