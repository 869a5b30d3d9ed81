/-
  Part of a proof of the laws of layer 07 (reader): an order-free machine for the code, and that it is sound.
  Conditions: none.
-/
import Derived.Test.YtjbjpooafphpnaaGreatDoorEb
import Derived.WalkKit
import Derived.ProofKit
import Derived.OpenShut
import Derived.JoinedCond
import Derived.Carry
import Derived.Deep.Slices
import Derived.KernelRfl
import Derived.Sort.Grow
import Derived.RecoverIn
set_option linter.unusedSimpArgs false
set_option linter.unusedVariables false
namespace Go.Eng
open Go
variable {P:Program}
def sF(v:Value):List PanicEntry:=[{ v:=v,recovered:=false }]
def yd(P:Program)(f:FuncId)(args:ar)(h:J)(v:Value)(D:J):Prop :=
 Enters P f∧h.step D∧∀(base:Nat) (G:Nat→Option bQ) (al:Ren) (w:World) (gq:ar),0<w.heap.size→h.hX G→jf al h.next D.next→b1 base G al w→be al args gq →
  Calls P f gq.toArray w fun e w'=>∃ v' bd,e=.panicked (sF v')∧lh base G al w h D v v' bd w'
def r3(P:Program)(k:K)(vs:ar)(h:J)(v:Value)(D:J):Prop :=
 match k with
 |.call f=>yd P f vs h v D
 |.rr=>match vs with
  |.func (.func f) first cap::args=>yd P f (first.toList++args++cap.toList) h v D
  |_=>False
 |.tt=>(∃ t x,v=.iface t x)∧vs=[v]∧D=h
 |_=>False
theorem r3.cD{k:K}{vs:ar}{h D:J}{v:Value}(ai:r3 P k vs h v D):k.cD=true:=by
 unfold r3 at ai;split at ai<;>first|rfl|exact ai.elim
theorem r3.step{k:K}{vs:ar}{h D:J}{v:Value}(ai:r3 P k vs h v D):h.step D:=by
 unfold r3 at ai;split at ai
 ·exact ai.2.1
 ·split at ai
  ·exact ai.2.1
  ·exact ai.elim
 ·rw[ai.2.2];exact J.step.refl _
 ·exact ai.elim
def u9(s:aF):Bool:=match s.k,s.args,s.g with
 |.a (.new _),[],none=>true
 |_,_,_=>false
def u1(q:Bool)(jC:List Nat)(s:aF):Bool:=s.k.cD || (s.k.dF && !q) || s.args.any (fun|.t d=>jC.getD d 0==1|_=>false) || (match s.g with|some (d,_)=>jC.getD d 0==1|none=>false)
def IZ(jC:List Nat):Arg→Bool
 |.t d=>jC.getD d 2==0
 |_=>true
def qs(q:Bool):List Nat→List aF→List Nat→ar→ar→J→Prop
 |_,[],_,_,_,_=>True
 |jC,s::r,bb,ts,env,h =>
  match u1 q jC s with
  |true=>qs q (1::jC) r bb (undef::ts) env h
  |false=>match s.g,s.k with
   |none,.p k=>s.args.all (IZ jC)=true∧∃ vs v,kE ts env s.args=some vs∧cr k vs=some v∧qs q (0::jC) r bb (v::ts) env h
   |none,.r (.load a z)=>s.args.all (IZ jC)=true∧∃ vs v,kE ts env s.args=some vs∧aw (.load a z) vs h.get=some v∧vP bb vs∧qs q (0::jC) r bb (v::ts) env h
   |none,.a (.new _)=>s.args=[]∧qs q (2::jC) r bb (undef::ts) env h
   |_,_=>False
def wO:List aF→Nat
 |[]=>0
 |s::r=>(if u9 s then 1 else 0)+wO r
def J.pad(h:J)(n:Nat):J where
 next:=h.next+n
 get:=fun id=>if h.next≤id∧id<h.next+n then some .dead else h.get id
 wf:=fun id cQ=>by
  have A:¬(h.next≤id∧id<h.next+n):=by omega
  simp only[A,if_false];exact h.wf id (by omega)
theorem J.BZ{h:J}{n id:Nat}(cQ:id<h.next):(h.pad n).get id=h.get id:=by
 have A:¬(h.next≤id∧id<h.next+n):=by omega
 simp only[J.pad,A,if_false]
theorem J.ao5{h:J}{n id:Nat}(A:h.next≤id)(S:id<h.next+n):(h.pad n).get id=some .dead:=by
 simp only[J.pad,A,S,and_self,if_true]
theorem J.ao7{h:J}{n id:Nat}(A:h.next+n≤id):(h.pad n).get id=none:=(h.pad n).wf id A
theorem J.ao8(h:J):h.pad 0=h:=by
 cases h with
 |mk next get wf =>
  simp only[J.pad,Gr]
  congr 1
  funext id
  rw[if_neg (by omega)]
theorem J.ao6(h:J)(n m:Nat):(h.pad n).pad m=h.pad (n+m):=by
 cases h with
 |mk next get wf =>
  simp only[J.pad,Nat.add_assoc]
  congr 1
  funext id
  by_cases A:next≤id∧id<next+n
  ·rw[if_neg (by omega),if_pos A,if_pos (by omega)]
  ·by_cases S:next+n≤id∧id<next+(n+m)
   ·rw[if_pos S,if_pos (by omega)]
   ·rw[if_neg S,if_neg A,if_neg (by omega)]
theorem J.Vd(h:J)(n:Nat):h.step (h.pad n) :=
 ⟨by simp[J.pad],fun id cQ=>by
  cases af:h.get id with
  |none=>rw[af]at cQ;cases cQ
  |some o=>rw[J.BZ (J.bY af),af];rfl,fun id ag hn=>by rw[J.BZ ag];exact hn,fun id hd=>by rw[J.BZ (J.bY hd)];exact hd⟩
theorem b1.agZ{base:Nat}{G qo:Nat→Option bQ}{al bd:Ren}{w:World}(h:b1 base G al w)(bX:al.le bd)(ab:∀ id,(qo id=G id∧bd id=al id)∨(qo id=some .dead∧∃ l,bd id=some l∧l.b<w.heap.size)):b1 base qo bd w where
 gC:=fun id=>by
  rcases ab id with⟨az,aL⟩|⟨az,l,aL,_⟩
  ·rw[az,aL];exact h.gC id
  ·rw[az,aL];rfl
 size:=h.size
 nJ:=h.nJ
 lE:=fun id l ag=>by
  rcases ab id with⟨_,aL⟩|⟨_,df,aL,ae⟩
  ·exact h.lE id l (by rw[← aL];exact ag)
  ·rw[aL]at ag;cases ag;exact ae
 obj:=fun id o l aA ag=>by
  rcases ab id with⟨az,aL⟩|⟨az,_⟩
  ·exact(h.obj id o l (by rw[← az];exact aA) (by rw[← aL];exact ag)).mono bX rfl
  ·rw[az]at aA;cases aA;trivial
 inj:=fun i j hE BQ zJ hl j6 yT H1 Mz cH ah hd=>by
  rcases ab i with⟨az,aL⟩|⟨az,_⟩
  ·rcases ab j with⟨bq,cV⟩|⟨bq,_⟩
   ·exact h.inj i j hE BQ zJ hl (by rw[← az];exact j6) (by rw[← bq];exact yT) (by rw[← aL];exact H1) (by rw[← cV];exact Mz) cH ah hd
   ·rw[bq]at yT;cases yT;exact absurd rfl hd
  ·rw[az]at j6;cases j6;simp[bQ.own]at ah
theorem Rc{jC:List Nat}{ts lG env:ar}(ab:∀ d:Nat,jC.getD d 2=0→lG[d]?=ts[d]?):∀ {l:List Arg}{vs:ar},l.all (IZ jC)=true→kE ts env l=some vs→kE lG env l=some vs
 |[],_,_,h=>h
 |x::r,vs,ai,h=>by
  simp only[List.all_cons,Bool.and_eq_true]at ai;simp only[kE]at h ⊢;have af:x.ev lG env=x.ev ts env:=by
   cases x with
   |t d =>
    have A:jC.getD d 2=0:=by simpa[IZ] using ai.1
    simp only[Arg.ev];exact ab d A
   |_=>rfl
  rw[af];split at h<;>first|(cases h;done)|skip
  rename_i v l ad ag;rw[ad,Rc ab ai.2 ag];exact h
theorem afb{h D:J}(ak:h.sub D){a:Bool}{z:Nat}{vs:ar}{v:Value}(ad:aw (.load a z) vs h.get=some v):aw (.load a z) vs D.get=some v:=by
 unfold aw at ad ⊢;split at ad<;>first|(cases ad;done)|contradiction|skip
 rename_i se afi aqa id off A4;cases A4;cases aA:h.get id with
 |none=>rw[aA]at ad;cases ad
 |some o=>rw[ak id o aA];rw[aA]at ad;exact ad
theorem post_at{q:Bool}{env:ar}:∀(l:List aF) (jC bb:List Nat) (ts:ar) (h:J),qs q jC l bb ts env h→∀(k:Nat) (vq:Nat→Value) (hp:J),h.sub hp→(∀ d:Nat,jC.getD d 2=0→(gK vq k)[d]?=ts[d]?) →
  ∃(eh:Nat→J) (vq':Nat→Value) (lz:Nat→Bool),(∀ i,i<k→vq' i=vq i)∧eh k=hp∧(eh (k+l.length)).next=hp.next+wO l ∧
   ∀(i:Nat) s,l[i]?=some s →
    (lz (k+i)=true∧s.k.cD=false∧pL P s bb (gK vq' (k+i)) env (eh (k+i)) (vq' (k+i)) (eh (k+i+1)) bb) ∨
    (lz (k+i)=false∧eh (k+i+1)=eh (k+i)∧∃ yM,u1 q yM s=true∧∀ d:Nat,yM.getD d 0=1→(d<i∧lz (k+i-1-d)=false)∨(i≤d∧jC.getD (d-i) 0=1))
 |[],jC,bb,ts,h,_,k,vq,hp,_,_=>⟨fun _=>hp,vq,fun _=>false,fun _ _=>rfl,rfl,by simp[wO],fun i s ak=>by simp at ak⟩
 |s::r,jC,bb,ts,h,ax,k,vq,hp,Dy,pn=>by
  -- one place, and the rest
  have LS:∀(c:Nat) (v:Value) (Eu:ar) (mJ:J) (fP:Bool),qs q (c::jC) r bb Eu env h→h.sub mJ→(c=0→Eu[0]?=some v)→(∀ d:Nat,Eu[d+1]?=ts[d]?)→mJ.next=hp.next+(if u9 s then 1 else 0)→(c=1↔fP=false) →
    ((fP=true∧s.k.cD=false∧pL P s bb (gK vq k) env hp v mJ bb)∨(fP=false∧mJ=hp∧u1 q jC s=true)) →
    ∃(eh:Nat→J) (vq':Nat→Value) (lz:Nat→Bool),(∀ i,i<k→vq' i=vq i)∧eh k=hp∧(eh (k+(s::r).length)).next=hp.next+wO (s::r) ∧
     ∀(i:Nat) a8,(s::r)[i]?=some a8 →
      (lz (k+i)=true∧a8.k.cD=false∧pL P a8 bb (gK vq' (k+i)) env (eh (k+i)) (vq' (k+i)) (eh (k+i+1)) bb) ∨
      (lz (k+i)=false∧eh (k+i+1)=eh (k+i)∧∃ yM,u1 q yM a8=true∧∀ d:Nat,yM.getD d 0=1→(d<i∧lz (k+i-1-d)=false)∨(i≤d∧jC.getD (d-i) 0=1)):=by
   intro c v Eu mJ fP sw jl h0 aM hn aj oI;let mv:Nat→Value:=fun i=>if i=k then v else vq i
   have az:gK mv (k+1)=v::gK vq k:=by
    simp only[gK,mv,if_true];rw[v8 (vq:=vq) (vq':=mv) k fun i au=>by simp[mv];omega]
   obtain⟨eh,vq',lz,dP,a2,a3,a4⟩:=post_at r (c::jC) bb Eu h sw (k+1) mv mJ jl (fun d hd=>by
    rw[az];cases d with
    |zero=>simp only[List.getD_cons_zero]at hd;rw[h0 hd];rfl
    |succ d=>simp only[List.getD_cons_succ]at hd;rw[List.getElem?_cons_succ,pn d hd,aM])
   have Hb:vq' k=v:=by rw[dP k (by omega)];simp[mv]
   have qX:∀ i,i<k→vq' i=vq i:=fun i au=>by rw[dP i (by omega)];simp[mv];omega
   refine⟨fun i=>if i=k then hp else eh i,vq',fun i=>if i=k then fP else lz i,qX,by simp,?_,fun i a8 au=>?_⟩
   ·have:k+(s::r).length≠k:=by simp
    simp only[this,if_false];rw[show k+(s::r).length=k+1+r.length by simp;omega,a3,hn];simp only[wO];omega
   ·cases i with
    |zero =>
     simp only[PG,Option.some.injEq]at au;subst au;have hD:k+0+1≠k:=by omega
     simp only[Gr,if_true]at hD ⊢;have h9:¬(k+1=k):=by omega
     simp only[h9,if_false,a2,Hb];rw[v8 k qX];rcases oI with h|⟨dJ,kB,qt⟩
     ·exact .inl h
     ·exact .inr ⟨dJ,kB,jC,qt,fun d hd=>.inr ⟨by omega,by simpa using hd⟩⟩
    |succ i =>
     have:=a4 i a8 (by simpa using au);have aL:k+1+i=k+(i+1):=by omega
     rw[aL]at this;have hD:¬(k+(i+1)=k):=by omega
     have h9:¬(k+(i+1)+1=k):=by omega
     simp only[hD,h9,if_false];rcases this with h|⟨dJ,kB,yM,qt,afC⟩
     ·exact .inl h
     ·refine .inr ⟨dJ,kB,yM,qt,fun d hd=>?_⟩;rcases afC d hd with⟨bk,bJ⟩|⟨bk,bJ⟩
      ·refine .inl ⟨by omega,?_⟩;have:¬(k+(i+1)-1-d=k):=by omega
       rw[if_neg this];exact bJ
      ·by_cases Ye:d=i
       ·subst Ye;rw[Nat.sub_self,List.getD_cons_zero]at bJ;refine .inl ⟨by omega,?_⟩;rw[if_pos (by omega)];exact aj.1 bJ
       ·refine .inr ⟨by omega,?_⟩;rw[show d-i=(d-(i+1))+1 by omega,List.getD_cons_succ]at bJ;exact bJ
  have alu:u1 q jC s=true→u9 s=false:=fun hd=>by
   unfold u1 at hd;unfold u9;split
   ·rename_i ab ct aA;rw[ab,ct,aA]at hd;simp[K.cD,K.dF]at hd
   ·rfl
  unfold qs at ax;split at ax
  ·rename_i hd;exact LS 1 undef (undef::ts) hp false ax Dy (fun e=>by cases e) (fun d=>by simp) (by rw[alu hd];simp) (by simp) (.inr ⟨rfl,rfl,hd⟩)
  ·rename_i hd;split at ax
   ·rename_i k aA ab;obtain⟨ai,vs,v,A,S,ae⟩:=ax;have aZ:u9 s=false:=by unfold u9;rw[ab]
    refine LS 0 v (v::ts) hp true ae Dy (fun _=>rfl) (fun d=>by simp) (by rw[aZ];simp) (by simp) (.inl ⟨rfl,by rw[ab];rfl,true,by rw[aA];rfl,fun _ h=>h,?_⟩);simp only[if_true];refine⟨vs,Rc pn ai A,?_,fun _ id o _ aA=>.inl aA,fun e=>by rw[ab]at e;cases e⟩;rw[ab];exact⟨S,rfl⟩
   ·rename_i a z aA ab;obtain⟨ai,vs,v,A,S,ae,aB⟩:=ax;have aZ:u9 s=false:=by unfold u9;rw[ab]
    refine LS 0 v (v::ts) hp true aB Dy (fun _=>rfl) (fun d=>by simp) (by rw[aZ];simp) (by simp) (.inl ⟨rfl,by rw[ab];rfl,true,by rw[aA];rfl,fun _ h=>h,?_⟩);simp only[if_true];refine⟨vs,Rc pn ai A,?_,fun _ id o _ aA=>.inl aA,fun _=>ae⟩;rw[ab];exact⟨afb Dy S,rfl⟩
   ·rename_i z aA ab;obtain⟨ai,A⟩:=ax;have aZ:u9 s=true:=by unfold u9;rw[ab,ai,aA]
    refine LS 2 (.pointer (some ⟨hp.next,0,none⟩)) (undef::ts) (hp.alloc (.aq z true)) true A (fun id o ah=>by rw[J.oH (J.bY (Dy id o ah))];exact Dy id o ah) (fun e=>by cases e) (fun d=>by simp) (by rw[aZ];simp) (by simp) (.inl ⟨rfl,by rw[ab];rfl,true,by rw[aA];rfl,fun _ h=>h,?_⟩);simp only[if_true];refine⟨[],by rw[ai];rfl,?_,fun _ id o _ aA=>.inl (by rw[J.oH (J.bY aA)];exact aA),fun e=>by rw[ab]at e;cases e⟩;rw[ab];exact⟨z,fun id=>.pointer (some ⟨id,0,none⟩),rfl,rfl,rfl⟩
   ·exact ax.elim
theorem n1.right{c1 l5:Type}{R:c1→l5→Prop}:∀ {l:List c1}{m:List l5},n1 R l m→∀ b∈m,∃ a,R a b
 |_,_,.nil,b,T=>by simp at T
 |_,_,.cons h hr,b,T=>by
  rcases oj.1 T with rfl|T
  ·exact⟨_,h⟩
  ·exact n1.right hr b T
theorem agY{N:Nat}{vars:List Nat}{aQ:Array Oper}{a6:List aF}{bI:Nat→List Nat}(aN:II P N vars aQ a6 bI){cU:Nat}{s:aF}(ak:a6[cU]?=some s)(aK:s.k.cD=true){fP:Nat→Prop}(bg:¬ fP cU)
  {p:Nat}{a8:aF}(Y3:cU<p) (hp:a6[p]?=some a8){jC:List Nat}(hd:u1 s.q jC a8=true) (wt:∀ {d:Nat},jC.getD d 0=1→d<p∧¬ fP (p-1-d)):∃(q:Nat) (uJ:aF),¬ fP q∧a6[q]?=some uJ∧uJ.j∈bI a8.j:=by
 have ah:=Lo (aN.lt p a8 hp);unfold u1 at hd;simp only[Ln]at hd;rcases hd with((h|h)|h)|h
 ·exact⟨cU,s,bg,ak,aN.Fe p cU a8 s hp h Y3 ak⟩
 ·simp only[Bool.and_eq_true,K6]at h;rcases aN.rd p cU a8 s hp h.1 Y3 ak aK with A|A
  ·exact⟨cU,s,bg,ak,A⟩
  ·rw[h.2]at A;cases A
 ·obtain⟨x,af,y7⟩:=Nk.1 h;obtain⟨xs,ab,ct⟩:=aN.kind p a8 _ hp ah;obtain⟨y,bw⟩:=ct.right x af;cases x with
  |t d =>
   have aV:=wt (by simpa using y7);cases y with
   |tmp t =>
    obtain⟨A,b4,cP,S,_,_,ae⟩:=bw;exact⟨p-1-d,b4,aV.2,S,ae⟩
   |_=>exact bw.elim
  |_=>simp at y7
 ·have aA:=aN.guard p a8 _ hp ah;cases G0:a8.g with
  |none=>rw[G0]at h;simp at h
  |some g =>
   obtain⟨d,pI⟩:=g;rw[G0]at h aA;have aV:=wt (by simpa using h);unfold EH at aA;split at aA
   ·rename_i dK;cases dK
   ·rename_i j6 er bW dd _ dK;cases dK;obtain⟨_,A,b4,cP,t2,S,rfl,_,_,ae⟩:=aA;exact⟨p-1-d,b4,aV.2,S,ae⟩
   ·exact aA.elim
def tD(P:Program):List aF→List Nat→ar→ar→J→aT
 |[],_,_,_,_,_,_=>False
 |s::r,bb,ts,env,h,v,D =>
  (oy s.g ts=some true∧(∃ vs A,kE ts env s.args=some vs∧r3 P s.k vs h v A∧D=A.pad (wO r))∧qs s.q (1::List.replicate ts.length 0) r bb (undef::ts) env h) ∨
  ∃ iT A o5,pL P s bb ts env h iT A o5∧tD P r o5 (iT::ts) env A v D
theorem ae7(vq:Nat→Value):∀ k,(gK vq k).length=k
 |0=>rfl
 |k+1=>by simp[gK,ae7 vq k]
theorem abT{env:ar}:∀(l:List aF) (bb:List Nat) (k:Nat) (vq:Nat→Value) (h D:J) (v:Value),tD P l bb (gK vq k) env h v D →
  ∃ pre s post,∃(ak:Nat→J) (vq':Nat→Value) (bG:Nat→List Nat),l=pre++s::post∧(∀ i,i<k→vq' i=vq i)∧ak k=h∧bG k=bb ∧
   (∀(i:Nat) a8,i<pre.length→l[i]?=some a8→pL P a8 (bG (k+i)) (gK vq' (k+i)) env (ak (k+i)) (vq' (k+i)) (ak (k+i+1)) (bG (k+i+1))) ∧
   oy s.g (gK vq' (k+pre.length))=some true∧(∃ vs S,kE (gK vq' (k+pre.length)) env s.args=some vs∧r3 P s.k vs (ak (k+pre.length)) v S∧D=S.pad (wO post)) ∧
   qs s.q (1::List.replicate (k+pre.length) 0) post (bG (k+pre.length)) (undef::gK vq' (k+pre.length)) env (ak (k+pre.length))
 |[],bb,k,vq,h,D,v,hr=>hr.elim
 |s::r,bb,k,vq,h,D,v,hr=>by
  rcases hr with⟨A,S,ae⟩|⟨iT,A,o5,ah,hr⟩
  ·rw[ae7]at ae;exact⟨[],s,r,fun _=>h,vq,fun _=>bb,rfl,fun _ _=>rfl,rfl,rfl,fun i _ au=>by simp at au,A,S,ae⟩
  ·let mv:Nat→Value:=fun i=>if i=k then iT else vq i
   have az:gK mv (k+1)=iT::gK vq k:=by
    simp only[gK,mv,if_true];rw[v8 (vq:=vq) (vq':=mv) k fun i au=>by simp[mv];omega]
   rw[← az]at hr;obtain⟨pre,b4,post,ak,vq',bG,rfl,dP,a2,a3,a4,a5,yg,Wb⟩:=abT r o5 (k+1) mv A D v hr;have Hb:vq' k=iT:=by rw[dP k (by omega)];simp[mv]
   have qX:∀ i,i<k→vq' i=vq i:=fun i au=>by rw[dP i (by omega)];simp[mv];omega
   have el:k+1+pre.length=k+(s::pre).length:=by simp;omega
   rw[el]at a5 yg Wb;have n0:¬(k+(s::pre).length=k):=by simp
   refine⟨s::pre,b4,post,fun i=>if i=k then h else ak i,vq',fun i=>if i=k then bb else bG i,rfl,qX,by simp,by simp,fun i a8 au eh=>?_,a5,by simpa only[n0,if_false] using yg,by simpa only[n0,if_false] using Wb⟩;cases i with
   |zero =>
    simp only[E0,PG,Option.some.injEq]at eh;subst eh;have h9:¬(k+1=k):=by omega
    simp only[Gr,if_true,h9,if_false,a2,a3,Hb];rw[v8 k qX];exact ah
   |succ i =>
    have:=a4 i a8 (by simpa using au) (by simpa using eh);have aL:k+1+i=k+(i+1):=by omega
    rw[aL]at this;have hD:¬(k+(i+1)=k):=by omega
    have h9:¬(k+(i+1)+1=k):=by omega
    simp only[hD,h9,if_false];exact this
theorem tD.step:∀ {l:List aF}{bb:List Nat}{ts env:ar}{h:J}{v:Value}{D:J},tD P l bb ts env h v D→h.step D
 |[],_,_,_,_,_,_,hr=>hr.elim
 |s::r,bb,ts,env,h,v,D,hr=>by
  rcases hr with⟨_,⟨vs,A,_,aL,rfl⟩,_⟩|⟨iT,A,o5,ah,hr⟩
  ·exact aL.step.trans (J.Vd _ _)
  ·exact ah.step.trans (tD.step hr)
structure ya(h D:J)(base:Nat)(G:Nat→Option bQ)(al:Ren)(w:World)(a:Act)(v:Value)(a':Act)(bd:Ren)(w':World)(v':Value):Prop where
 agree:fj al bd h.next D.next
 val:bL bd v v'
 defers:a'.defers=a.defers
 fI:b1 base (over D G) bd w'
 step:gi base w w'
theorem abV{f:FuncId}{first cap:Array Value}{args:ar}{h D:J}{v:Value}(aj:yd P f (first.toList++args++cap.toList) h v D){base:Nat}{G:Nat→Option bQ}{al:Ren}{w:World}{s2:Value}{gq:ar}(bv:h.hX G)(bZ:jf al h.next D.next)(aM:b1 base G al w)(bp:0<w.heap.size)
  (A6:bL al (.func (.func f) first cap) s2) (ct:be al args gq) (cI:Option Nat) (o:Oper) (a:Act) (next:Act→World→Prop) (Q:Exit→Act→World→Prop) (hn:∀ v' bd w',lh base G al w h D v v' bd w'→Q (.panic (sF v')) a w') :
  o.uponIn (hG cI) 0 P a next Q ((do let d ← Deferred.ofValue s2 gq.toArray;invoke d.target d.args:Sem Next).run P w):=by
 obtain⟨a',fl,rfl,ai,A2⟩:=A6.KE;have F9:=aj.2.2 base G al w (a'++gq++fl) bp bv bZ aM ((ai.append ct).append A2);have e4:((do let d ← Deferred.ofValue (.func (.func f) a'.toArray fl.toArray) gq.toArray;invoke d.target d.args:Sem Next).run P w)=.ok (.enter f (a'++gq++fl).toArray) w:=by
  simp only[Deferred.ofValue,Sem.run_bind,Sem.run_pure,Result.andThen_ok,invoke];rw[aj.1];simp
 rw[e4,Oper.uponIn_enter];refine⟨fun hd=>by simp[hG,Fence.wide]at hd,?_⟩;have S:CallsIn Fence.wide (0-1) P f (a'++gq++fl).toArray w (fun e w'=>∃ v' bd,e=.panicked (sF v')∧lh base G al w h D v v' bd w'):=callsIn_wide.2 F9;have ae:CallsIn (hG cI) (0-1) P f (a'++gq++fl).toArray w (fun e w'=>∃ v' bd,e=.panicked (sF v')∧lh base G al w h D v v' bd w'):=S;refine ae.mono fun e VB aK=>?_;obtain⟨v',bd,rfl,c6⟩:=aK;exact hn v' bd VB c6
theorem aob{op:Op}{xs:List Operand}(ab:kindOf P op=some (.tt,xs)):∃ x,op=.panic x∧xs=[x]:=by
 cases op with
 |panic x=>simp only[kindOf]at ab;cases ab;exact⟨x,rfl,rfl⟩
 |call c =>
  exfalso;simp only[kindOf,zA]at ab;split at ab
  ·unfold zD zE at ab;(repeat' split at ab)<;>cases ab
  ·unfold zz at ab;(repeat' split at ab)<;>cases ab
  ·unfold sB at ab;(repeat' split at ab)<;>cases ab
  ·unfold sB at ab;(repeat' split at ab)<;>cases ab
  ·unfold zB at ab;(repeat' split at ab)<;>cases ab
  ·unfold zF at ab;(repeat' split at ab)<;>cases ab
  ·unfold zG at ab;(repeat' split at ab)<;>cases ab
  ·cases ab
  ·(repeat' split at ab)<;>cases ab
  ·cases ab
  ·cases ab
 |alloc e =>
  exfalso;simp only[kindOf,xo]at ab;cases bp:oz P e with
  |none=>rw[bp]at ab;cases ab
  |some z=>rw[bp,N6]at ab;split at ab<;>cases ab
 |makeFunc fn first captured=>exfalso;cases fn<;>simp[kindOf]at ab
 |slice t x fs au mx=>exfalso;cases mx<;>simp only[kindOf,vE]at ab<;>first|(cases ab;done)|((repeat' split at ab)<;>first|(cases ab;done)|(simp at ab;done))
 |_ =>
  exfalso;first
   |(cases ab;done)
   |(simp only[kindOf,BG,BE]at ab;(repeat' split at ab)<;>cases ab;done)
   |(simp only[kindOf]at ab;(repeat' split at ab)<;>first|(cases ab;done)|(simp at ab;done);done)
   |(simp[kindOf]at ab;done)
   |(simp only[kindOf,BC,uv,BF,xp]at ab;(repeat' split at ab)<;>first|(cases ab;done)|(simp at ab;done))
   |(simp only[kindOf,BD]at ab;(repeat' split at ab)<;>first|(cases ab;done)|(simp at ab;done))
section
variable {aQ:Array Oper}{a6:List aF}{bI:Nat→List Nat}{ak:Nat→J}{vq:Nat→Value}{env:ar}{vars:List Nat}{N:Nat}{base:Nat}{eH:Nat→Option bQ}{fv:Ren}{eF:World}{a0:Act}
variable {fP:Nat→Prop}{cU:Nat}(C:h1 P aQ a6 bI ak vq env vars N base eH fv eF fP)
include C
theorem h1.aoa{ce:Nat→Prop}{a:Act}{w:World}(bi:Inv aQ a6 ak vq env vars N base eH fv eF a0 ce a w)(eY:∀ i,ce i→∀ k∈bI i,ce k)
  {s:aF}(hp:a6[cU]?=some s){n:Nat}(fU:∀ i∈bI s.j,ce i) (hn:¬ ce s.j) (cI:Option Nat)
  {vs:ar}{v:Value}{D:J}(ax:oy s.g (gK vq cU)=some true) (sv:kE (gK vq cU) env s.args=some vs) (ai:r3 P s.k vs (ak cU) v D) (C5:(ak (cU+1)).next=D.next) (Df:(ak a6.length).next=D.next+n) (bp:0<eF.heap.size)
  {qp:Act→World→Prop}{Q:Exit→Act→World→Prop}(dZ:∀ a' bd w' v',ya (ak 0) (D.pad n) base eH fv eF a0 v a' bd w' v'→(∀(k t:Nat) x,vars[k]?=some t→env[k]?=some x→(∀(i:Nat) o,aQ[i]?=some o→o.dst≠some t)→∃ hZ,a'.tmps[t]?=some hZ∧bL bd x hZ)→a'.tmps.size=N→Q (.panic (sF v')) a' w'):wpOpIn (hG cI) 0 P aQ Q s.j qp a w:=by
 obtain⟨b,G,al,bi⟩:=bi;have ze:cU<a6.length:=(j2.1 hp).1;have mh:b≤cU:=by
  rcases Dj cU b with h|h
  ·exact absurd (bi.wz cU s h hp) hn
  ·exact h
 have iP:=ai.cD;have ah:=Lo (C.ok.lt cU s hp);generalize aQ[s.j]'(C.ok.lt cU s hp)=o at ah;obtain⟨xs,ab,ct⟩:=C.ok.kind cU s o hp ah;have akb:=h1.wanted bi fU (C.ok.guard cU s o hp ah) ax;unfold wpOpIn;simp only[ah,akb,if_true];have il:=h1.args bi hn fU eY ct sv;have SC:=abx ab;refine⟨fun _ _=>trivial,?_⟩;rw[Oper.semAt_eq _ _ _ SC];have vj:(ak cU).hX G:=C.Hj bi mh (by omega) fun q a8 A S ae=>by
  have aM:=fU _ (C.ok.Fe cU q s a8 hp iP S ae);refine⟨aM,?_⟩;cases aiv:a8.k.cD with
  |false=>rfl
  |true=>have:=(bi.r6 q a8 ae aiv).1 aM;omega
 have dS:=ai.step;have m0:=(C.mono (lj cU) (by omega)).next;have bZ:jf al (ak cU).next D.next:=by rw[← C5];exact C.KD bi hp mh hn
 have Td:0<w.heap.size:=BS bp bi.step.size;have aix:∀ id,¬(D.next≤id∧id<D.next+n)→D.get id=none→G id=eH id:=fun id cQ af=>by
  have Dq:∀ q,q≤cU→(ak q).get id=none:=fun q L=>by
   cases bw:(ak q).get id with
   |none=>rfl
   |some cP=>have:=((C.mono L (by omega)).trans dS).gC id (by rw[bw];rfl);rw[af]at this;simp at this
  cases bv:G id with
  |some o =>
   rcases(bi.ob id o).1 bv with h|⟨q,a8,mi,L,aM,A,S,ae⟩|⟨_,_,h⟩
   ·rw[Dq b mh]at h;cases h
   ·have ajM:=(j2.1 L).1;rcases Nat.lt_trichotomy q cU with h|rfl|h
    ·rw[Dq (q+1) (by omega)]at ae;cases ae
    ·rw[hp]at L;cases L;exact absurd aM hn
    ·have dP:=(C.mono (show cU+1≤q by omega) (by omega)).next;have a2:=(C.mono (show q+1≤a6.length by omega) (br _)).next;rw[C5]at dP;exact absurd ⟨by omega,by omega⟩ cQ
   ·exact h.symm
  |none =>
   cases h0:eH id with
   |none=>rfl
   |some o =>
    exfalso;have:G id=some o:=(bi.ob id o).2 (.inr (.inr ⟨Dq b mh,by
     rcases Dj id (ak 0).next with A|A
     ·exact .inl A
     ·rcases Dj id (ak a6.length).next with S|S
      ·have:=C.fI.gC id;rw[h0,C.fresh id A S]at this;simp at this
      ·exact .inr S,h0⟩))
    rw[bv]at this;cases this
 have fin:∀ v' bd w',lh base G al w (ak cU) D v v' bd w'→Q (.panic (sF v')) a w':=fun v' bd w' c6=>by
  let fZ:Ren:=fun id=>if(D.next≤id∧id<D.next+n)∧bd id=none then some ⟨0,0,0⟩ else bd id
  have iD:0<w'.heap.size:=BS Td c6.step.size;have bX:bd.le fZ:=fun id l ag=>by
   have:¬((D.next≤id∧id<D.next+n)∧bd id=none):=fun e=>by rw[e.2]at ag;cases ag
   simp only[fZ,this,if_false];exact ag
  have ZB:∀ id,¬(D.next≤id∧id<D.next+n)→fZ id=bd id:=fun id cQ=>by
   have:¬((D.next≤id∧id<D.next+n)∧bd id=none):=fun e=>cQ e.1;simp only[fZ,this,if_false]
  refine dZ a fZ w' v' ⟨fun id cQ=>?_,bL.mono bX c6.val,bi.defers,c6.fI.agZ bX fun id=>?_,bi.step.trans c6.step⟩ (fun k t x ab af b8=>?_) bi.size
  rotate_left 2
  ·obtain⟨hZ,A,S⟩:=bi.vars k t x ab af fun i o au ah _=>b8 i o au ah;exact⟨hZ,A,bL.mono bX (bL.mono (c6.agree.le bZ) S)⟩
  ·have ik:(D.pad n).next=D.next+n:=rfl;rw[ik]at cQ;have w4:=dS.next;rw[ZB id (by rcases cQ with h|h<;>omega),c6.agree id (by rcases cQ with h|h;exact .inl (by omega);exact .inr (by omega))];refine bi.agree id ?_;rcases cQ with h|h
   ·exact .inl h
   ·rw[Df];exact .inr h
  ·by_cases cQ:D.next≤id∧id<D.next+n
   ·refine .inr ⟨by simp only[over,J.ao5 cQ.1 cQ.2,Option.some_or],?_⟩;cases hr:bd id with
    |none=>exact⟨⟨0,0,0⟩,by simp only[fZ,cQ,hr,and_self,if_true],iD⟩
    |some l=>exact⟨l,bX id l hr,c6.fI.lE id l hr⟩
   ·refine .inl ⟨?_,ZB id cQ⟩;have e:(D.pad n).get id=D.get id:=by
     rcases Dj id D.next with h|h
     ·exact J.BZ h
     ·rw[J.ao7 (by omega),D.wf id h]
    unfold over;rw[e];cases af:D.get id with
    |some o=>rfl
    |none=>simp only[Option.none_or];exact(aix id cQ af).symm
 unfold r3 at ai;split at ai
 ·rename_i f fe;obtain⟨c,g,as,nn,gu,vd,aj⟩:=Kf ab (.inl ⟨f,fe⟩);rcases aj with⟨oF,od,rfl,rfl⟩|⟨h,_⟩
  ·rw[fe]at od;cases od;have e:(execOp a.eval o).run P w=((do let d ← Deferred.ofValue (.func (.func f) #[] #[]) (c.args.toList.map a.eval).toArray;invoke d.target d.args:Sem Next).run P w):=by
    have az:(c.args.toList.map a.eval).toArray=c.args.map a.eval:=by apply Array.ext';simp
    simp only[execOp,nn,resolve,gu,az];rfl
   rw[e];exact abV (first:=#[]) (cap:=#[]) (args:=vs) (by simpa using ai) vj bZ bi.fI Td (.func f [] [] [] [] .nil .nil) (by rw[vd];exact il) cI o a qp Q fin
  ·rw[fe]at h;cases h
 ·rename_i fe;obtain⟨c,g,as,nn,gu,vd,aj⟩:=Kf ab (.inr fe);rcases aj with⟨oF,od,_,_⟩|⟨_,rfl⟩
  ·rw[fe]at od;cases od
  ·split at ai
   ·rename_i f first cap args
    cases il with
    |cons _ s2 _ gq A6 RM =>
     have e:(execOp a.eval o).run P w=((do let d ← Deferred.ofValue (a.eval g) (c.args.toList.map a.eval).toArray;invoke d.target d.args:Sem Next).run P w):=by
      have az:(c.args.toList.map a.eval).toArray=c.args.map a.eval:=by apply Array.ext';simp
      simp only[execOp,nn,resolve,gu,az]
     rw[e];exact abV ai vj bZ bi.fI Td A6 (by rw[vd];exact RM) cI o a qp Q fin
   ·exact ai.elim
 ·rename_i fe;rw[fe]at ab;obtain⟨x,nn,rfl⟩:=aob ab;obtain⟨⟨t,y,rfl⟩,rfl,rfl⟩:=ai;cases il with
  |cons _ v' _ _ ad _ =>
   obtain⟨Cn,ti⟩:∃ Cn,a.eval x=.iface t Cn:=by
    generalize a.eval x=z at ad;cases ad with
    |same _ h=>exact⟨_,rfl⟩
    |iface t v v' h=>exact⟨v',rfl⟩
   have e:(execOp a.eval o).run P w=.halt (.panic (a.eval x)) w:=by
    simp[execOp,nn,ti,Instr.panic,goPanic]
   rw[e];exact fin (a.eval x) al w ⟨fj.refl _ _ _,ad,b1.congr bi.fI (over_self vj),gi.refl _ _⟩
 ·exact ai.elim
theorem h1.afl(p3:tC aQ bI true)(cI:Option Nat){s:aF}(jk:a6[cU]?=some s)(w0:¬ fP cU)(DC:∀(p:Nat) a8,p≠cU→¬ fP p→a6[p]?=some a8→∃(q:Nat) (uJ:aF),¬ fP q∧a6[q]?=some uJ∧uJ.j∈bI a8.j){Q:Exit→Act→World→Prop}
  (Ds:∀(ce:Nat→Prop) a w,Inv aQ a6 ak vq env vars N base eH fv eF a0 ce a w→(∀ i,ce i→∀ k∈bI i,ce k)→(∀ i∈bI s.j,ce i)→¬ ce s.j→∀ qp,wpOpIn (hG cI) 0 P aQ Q s.j qp a w) :
  ∀(jP:Nat) (listed:Array Bool) (a:Act) (w:World),listed.size=aQ.size→listed.toList.count false=jP→(∀ i,listed.getD i false=true→∀ k∈bI i,listed.getD k false=true) →
   (∀(q:Nat) a8,¬ fP q→a6[q]?=some a8→¬ listed.getD a8.j false=true) →
   Inv aQ a6 ak vq env vars N base eH fv eF a0 (fun i=>listed.getD i false=true) a w→wpAnyIn (hG cI) 0 P .any aQ Q jP listed a w:=by
 simp only[tC,if_true]at p3;obtain⟨fU,aV⟩:=p3;intro jP;induction jP with
 |zero =>
  intro listed a w iD aj eY b8 bi;exfalso;have A:=b8 cU s w0 jk;have S:=C.ok.lt cU s jk;have:false∈listed.toList:=by
   have rB:s.j<listed.size:=by omega
   have ae:listed[s.j]?=some false:=by
    rw[Lo rB];simpa[lF,rB] using A
   exact List.mem_of_getElem? (i:=s.j) (by simpa using ae)
  have:=List.count_pos_iff.2 this;omega
 |succ jP ih =>
  intro listed a w iD aj eY b8 bi;refine⟨fun Be=>?_,fun i au=>?_⟩
  ·exfalso;have dr:∃ i,i<aQ.size∧listed.getD i true=false:=by
    have:false∈listed.toList:=List.count_pos_iff.1 (by omega);obtain⟨i,au⟩:=Gm.1 this;have ef:listed[i]?=some false:=by simpa using au
    have lo:=(Ic.1 ef).1;exact⟨i,by omega,by simp[lF,ef]⟩
   have Sj:∃ i,(i<aQ.size∧listed.getD i true=false)∧∀ k,k<i→¬(k<aQ.size∧listed.getD k true=false):=by
    obtain⟨i,au⟩:=dr;induction i using Nat.strongRecOn with
    |_ i By =>
     by_cases ab:∃ k,k<i∧(k<aQ.size∧listed.getD k true=false)
     ·obtain⟨k,jj,jH⟩:=ab;exact By k jj jH
     ·exact⟨i,au,fun k jj jH=>ab ⟨k,jj,jH⟩⟩
   obtain⟨i,⟨Gj,ef⟩,Sq⟩:=Sj;have aA:=Lo Gj;have:i∈Region.ready .any aQ listed:=by
    unfold Region.ready;refine List.mem_filter.2 ⟨CS.2 Gj,?_⟩;rw[ef,aA];simp only[Cg,N6,Option.getD_some,kx];refine Array.all_eq_true'.2 fun e aK=>?_;cases T:Region.binds .any e with
    |false=>simp
    |true =>
     simp only[Fj,yA];have dm:=aV i e.on ⟨_,e,aA,aK,T,rfl⟩;have:=Sq e.on dm;have eh:e.on<listed.size:=by omega
     simp[lF,eh]at this ⊢;exact this (by omega)
   rw[Be]at this;simp at this
  ·obtain⟨A,S,o,ah,hr⟩:=T3 au;have lo:i<listed.size:=by omega
   have Gw:listed[i]?=some false:=by
    rw[Lo lo];simpa[lF,lo] using S
   obtain⟨p,bT,hp,rfl⟩:=C.ok.place i A;have hn:¬(listed.getD bT.j false=true):=by simp[lF,Gw]
   have Bd:∀ k∈bI bT.j,listed.getD k false=true:=fun k ab=>by
    rcases fU bT.j k ab with h|⟨m,h,hm⟩
    ·exact Kp ah hr h
    ·exact eY m (Kp ah hr h) k hm
   by_cases lb:p=cU
   ·subst lb;rw[jk]at hp;cases hp;exact Ds _ a w bi eY Bd hn _
   by_cases hpl:fP p
   ·have rA:∀ k,(listed.setIfInBounds bT.j true).getD k false=true↔(listed.getD k false=true∨k=bT.j):=fun k=>by
     by_cases e:k=bT.j
     ·subst e;simp[lF,lo]
     ·simp[lF,Array.getElem?_setIfInBounds_ne (Ne.symm e),e]
    refine C.MN bi eY hp hpl Bd hn cI fun a' w' AP=>ih _ a' w' (by simpa using iD) ?_ ?_ ?_ (Inv.congr (fun k=>(rA k).symm) AP)
    ·have hA:=List.count_set (l:=listed.toList) (a:=true) (b:=false) (i:=bT.j) (by simpa using lo);have R9:listed.toList[bT.j]'(by simpa using lo)=false:=by
      have:=(Ic.1 Gw).2;simpa using this
     rw[R9]at hA;simp only[Array.toList_setIfInBounds];rw[hA,aj];rfl
    ·intro k ab m hm;rw[rA]at ab ⊢;rcases ab with ab|rfl
     ·exact .inl (eY k ab m hm)
     ·exact .inl (Bd m hm)
    ·intro q a8 L eh;rw[rA];rintro(h|h)
     ·exact b8 q a8 L eh h
     ·have:=C.ok.inj q p a8 bT eh hp h;subst this;exact L hpl
   ·exfalso;obtain⟨q,b4,ae,aB,aG⟩:=DC p bT lb hpl hp;exact b8 q b4 ae aB (Bd _ aG)
theorem h1.aqI(p3:tC aQ bI false)(cI:Option Nat){s:aF}(jk:a6[cU]?=some s)(w0:¬ fP cU)(DC:∀(p:Nat) a8,p≠cU→¬ fP p→a6[p]?=some a8→∃(q:Nat) (uJ:aF),¬ fP q∧a6[q]?=some uJ∧uJ.j∈bI a8.j){Q:Exit→Act→World→Prop}
  (Ds:∀(ce:Nat→Prop) a w,Inv aQ a6 ak vq env vars N base eH fv eF a0 ce a w→(∀ i,ce i→∀ k∈bI i,ce k)→(∀ i∈bI s.j,ce i)→¬ ce s.j→∀ qp,wpOpIn (hG cI) 0 P aQ Q s.j qp a w) :
  ∀(n k:Nat) (a:Act) (w:World),k+n=aQ.size→(∀(q:Nat) a8,¬ fP q→a6[q]?=some a8→¬ a8.j<k)→Inv aQ a6 ak vq env vars N base eH fv eF a0 (fun i=>i<k) a w→wpOpsIn (hG cI) 0 P aQ Q (List.range' k n) a w:=by
 simp only[tC,xZ,if_false]at p3;intro n;induction n with
 |zero =>
  intro k a w ab b8 bi;exact absurd (C.ok.lt cU s jk) (fun h=>b8 cU s w0 jk (by omega))
 |succ n ih =>
  intro k a w ab b8 bi;simp only[List.range'_succ];rw[wpOpsIn_cons];obtain⟨p,bT,hp,bn⟩:=C.ok.place k (by omega);subst bn;by_cases lb:p=cU
  ·subst lb;rw[jk]at hp;cases hp;exact Ds _ a w bi (fun i au m hm=>by have:=p3 i m hm;omega) (fun i au=>p3 _ i au) (by omega) _
  by_cases hpl:fP p
  ·refine C.MN bi (fun i au m hm=>by have:=p3 i m hm;omega) hp hpl (fun i au=>p3 _ i au) (by omega) cI fun a' w' AP=>?_;have:=ih (bT.j+1) a' w' (by omega) (fun q a8 L eh aV=>by
    rcases Dj a8.j bT.j with h|h
    ·exact b8 q a8 L eh h
    ·have e:a8.j=bT.j:=by omega
     have:=C.ok.inj q p a8 bT eh hp e;subst this;exact L hpl) (Inv.congr (fun i=>by omega) AP)
   simpa using this
  ·exfalso;obtain⟨q,b4,ae,aB,aG⟩:=DC p bT lb hpl hp;exact b8 q b4 ae aB (p3 _ _ aG)
end
theorem acI{N:Nat}{vars:List Nat}{aQ:Array Oper}{fq:Bool}{a6:List aF}{outs:List (Nat × Nat)}(aN:Am P N vars aQ fq a6 outs){id:Nat}{env:ar}{h D:J}{v:Value}
  (hr:tD P a6 [] [] env h v D){base:Nat}{G:Nat→Option bQ}{al:Ren}{w:World}{a:Act}(cI:Option Nat) (bp:0<w.heap.size) (bv:h.hX G) (bZ:jf al h.next D.next) (aM:b1 base G al w) (c3:kz al N vars env a.tmps){Q:Exit→Act→World→Prop}
  (dZ:∀ a' bd w' v',ya h D base G al w a v a' bd w' v'→(outs=[]→kz bd N vars env a'.tmps)→Q (.panic (sF v')) a' w'):(Code.region id aQ fq).wpIn (hG cI) 0 P Q a w:=by
 obtain⟨bI,aN⟩:=aN;obtain⟨pre,s,post,ak,vq,bG,rfl,_,az,aL,cV,S7,⟨vs,S,sv,ai,rfl⟩,fB⟩:=abT a6 [] 0 (fun _=>undef) h D v hr;simp only[zS]at az aL cV S7 sv ai fB;generalize bg:pre.length=cU at *;have dS:=ai.step;let Ey:Nat→Value:=fun i=>if i<cU then vq i else undef
 have ak5:gK Ey (cU+1)=undef::gK vq cU:=by
  simp only[gK,Ey,Nat.lt_irrefl,if_false];rw[v8 (vq:=vq) (vq':=Ey) cU fun i au=>by simp[Ey,au]]
 obtain⟨ajQ,Im,lz,bA,bO,b5,cx⟩:=post_at (P:=P) post _ _ _ _ fB (cU+1) Ey ((ak cU).pad (S.next-(ak cU).next)) (fun id o ah=>by rw[J.BZ (J.bY ah)];exact ah) (fun d _=>by rw[ak5]);let eh:Nat→J:=fun i=>if i≤cU then ak i else ajQ i
 let Fa:Nat→List Nat:=fun i=>if i≤cU then bG i else bG cU
 let fP:Nat→Prop:=fun p=>p<cU∨(cU<p∧lz p=true);have rA:(pre++s::post)[cU]?=some s:=by simp[← bg]
 have ZI:∀ p,cU<p→(pre++s::post)[p]?=post[p-(cU+1)]?:=fun p hp=>by
  rw[List.getElem?_append_right (by omega),bg,show p-cU=(p-(cU+1))+1 by omega];simp
 have h0:eh 0=h:=by simp[eh,az]
 have RH:eh cU=ak cU:=by simp[eh]
 have ale:¬ cU+1≤cU:=by omega
 have KX:eh (cU+1)=(ak cU).pad (S.next-(ak cU).next):=by simp only[eh,ale,if_false];exact bO
 have ik:(eh (cU+1)).next=S.next:=by rw[KX];have:=dS.next;simp only[J.pad];omega
 have qX:∀ i,i<cU→Im i=vq i:=fun i au=>by rw[bA i (by omega)];simp[Ey,au]
 have kb:gK Im cU=gK vq cU:=v8 cU qX;have Df:(eh (pre++s::post).length).next=S.next+wO post:=by
  have:¬(pre++s::post).length≤cU:=by simp[bg]
  simp only[eh,this,if_false];rw[show(pre++s::post).length=cU+1+post.length by simp[bg];omega,b5,← KX,ik]
 have w0:¬ fP cU:=fun h=>by rcases h with h|h<;>omega
 have DC:∀(p:Nat) a8,p≠cU→¬ fP p→(pre++s::post)[p]?=some a8→∃(q:Nat) (uJ:aF),¬ fP q∧(pre++s::post)[q]?=some uJ∧uJ.j∈lY bI a8.j:=fun p a8 cH SB hp=>by
  have aV:cU<p:=by
   rcases Nat.lt_trichotomy p cU with h|h|h
   ·exact absurd (.inl h) SB
   ·exact absurd h cH
   ·exact h
  have oi:=hp;rw[ZI p aV]at oi;have gr:cU+1+(p-(cU+1))=p:=by omega
  have:=cx _ a8 oi;rw[gr]at this;rcases this with⟨A,_⟩|⟨A,_,yM,ae,aB⟩
  ·exact absurd (.inr ⟨aV,A⟩) SB
  ·refine agY aN.aW rA ai.cD w0 aV hp ae fun {d} hd=>?_;rcases aB d hd with⟨bk,bJ⟩|⟨bk,bJ⟩
   ·refine⟨by omega,fun ag=>?_⟩;rcases ag with ag|⟨_,ag⟩
    ·omega
    ·rw[bJ]at ag;cases ag
   ·by_cases Ye:d=p-(cU+1)
    ·refine⟨by omega,?_⟩;rw[show p-1-d=cU by omega];exact w0
    ·exfalso;rw[show d-(p-(cU+1))=(d-(p-(cU+1))-1)+1 by omega,List.getD_cons_succ,List.getD_eq_getElem?_getD,List.getElem?_replicate]at bJ;split at bJ<;>simp at bJ
 have C:h1 P aQ (pre++s::post) (lY bI) eh Im env vars N base G al w fP:=by
  refine⟨aN.aW,⟨Fa,fun p a8 hp=>?_⟩,by rw[h0];exact bv,?_,aM⟩
  ·rcases Nat.lt_trichotomy p cU with aV|rfl|ml
   ·refine .inl ⟨.inl aV,?_⟩;have:=cV p a8 aV hp;have dP:p≤cU:=by omega
    have a2:p+1≤cU:=by omega
    have ahN:gK Im p=gK vq p:=v8 p fun i au=>qX i (by omega);rw[ahN,qX p aV];simp only[eh,Fa,dP,a2,if_true];exact this
   ·refine .inr ⟨w0,by rw[RH,KX];exact J.Vd _ _,fun id o ah=>?_,(fun e=>by rw[rA]at hp;cases hp;rw[ai.cD]at e;cases e),?_⟩
    ·rw[RH]at ah;rw[KX,J.BZ (J.bY ah)];exact .inl ah
    ·have a2:¬ p+1≤p:=by omega
     simp only[Fa,a2,if_false,br,if_true]
   ·rw[ZI p ml]at hp;have dP:¬ p≤cU:=by omega
    have a2:¬ p+1≤cU:=by omega
    have gr:cU+1+(p-(cU+1))=p:=by omega
    have:=cx _ a8 hp;rw[gr]at this;simp only[eh,Fa,dP,a2,if_false];rcases this with⟨A,_,ae⟩|⟨A,ae,_⟩
    ·exact .inl ⟨.inr ⟨ml,A⟩,ae⟩
    ·refine .inr ⟨fun ag=>?_,by rw[ae];exact J.step.refl _,fun id o ah=>by rw[ae];exact .inl ah,fun _=>ae,rfl⟩;rcases ag with ag|⟨_,ag⟩
     ·omega
     ·rw[A]at ag;cases ag
  ·rw[h0,Df];exact bZ
 rw[← kb]at S7 sv;rw[← RH]at ai;have Ds:∀(ce:Nat→Prop) dP er,Inv aQ (pre++s::post) eh Im env vars N base G al w a ce dP er→(∀ i,ce i→∀ k∈lY bI i,ce k)→(∀ i∈lY bI s.j,ce i)→¬ ce s.j→∀ qp,wpOpIn (hG cI) 0 P aQ Q s.j qp dP er :=
  fun ce dP er bi eY fU b8 qp=>C.aoa bi eY rA fU b8 cI S7 sv ai ik Df bp (by
   rw[h0];exact fun a' bd w' v' aK ab ak=>dZ a' bd w' v' aK fun ah=>⟨ak,c3.len,fun k t x jj af=>ab k t x jj af fun i o au hd=>by
    obtain⟨p,b4,_,_,hm⟩:=aN.outs.all i o t k au hd jj;rw[ah]at hm;cases hm⟩)
 cases fq with
 |true =>
  refine wpIn_region_any (aN.mixed rfl) ?_;refine C.afl aN.order cI rA w0 DC Ds aQ.size _ _ _ (by simp) (by simp) (fun i au=>?_) (fun q a8 _ L au=>?_) ?_
  ·simp[lF,ND]at au;split at au<;>simp at au
  ·simp[lF,ND]at au;split at au<;>simp at au
  ·refine Inv.congr (fun i=>?_) (C.start (w:={ w with drawn:=w.drawn+1 }) ⟨rfl,rfl,rfl,rfl⟩ c3);constructor
   ·exact fun h=>h.elim
   ·intro au;simp[lF,ND]at au;split at au<;>simp at au
 |false =>
  refine wpIn_region ?_;rw[List.range_eq_range'];exact C.aqI aN.order cI rA w0 DC Ds aQ.size 0 a w (by simp) (fun _ _ _ _ h=>by omega) (Inv.congr (fun i=>⟨fun h=>h.elim,fun h=>by omega⟩) (C.start (w:=w) ⟨rfl,rfl,rfl,rfl⟩ c3))
theorem acH{N:Nat}{vars:List Nat}{aQ:Array Oper}{fq:Bool}{a6:List aF}{outs:List (Nat × Nat)}(aN:Am P N vars aQ fq a6 outs){id:Nat}{env:ar}{h D:J}{v:Value}
  (hr:tD P a6 [] [] env h v D){base:Nat}{G:Nat→Option bQ}{al:Ren}{w:World}{a:Act}(cI:Option Nat) (bp:0<w.heap.size) (bv:h.hX G) (bZ:jf al h.next D.next) (aM:b1 base G al w) (c3:kz al N vars env a.tmps){Q:Exit→Act→World→Prop}
  (dZ:∀ a' bd w' v',ya h D base G al w a v a' bd w' v'→Q (.panic (sF v')) a' w'):(Code.region id aQ fq).wpIn (hG cI) 0 P Q a w :=
 acI aN hr cI bp bv bZ aM c3 fun a' bd w' v' aK _=>dZ a' bd w' v' aK
def hN(P:Program)(N:Nat)(vars:List Nat)(c:bo)(env:ar)(h:J)(v:Value)(D:J):Prop :=
 h.step D∧∀ code,eD P N vars c code→∀(base:Nat) (G:Nat→Option bQ) (al:Ren) (w:World) (a:Act) (cI:Option Nat),0<w.heap.size→h.hX G→jf al h.next D.next→b1 base G al w→kz al N vars env a.tmps →
  ∀ Q:Exit→Act→World→Prop,(∀ a' bd w' v',ya h D base G al w a v a' bd w' v'→Q (.panic (sF v')) a' w')→code.wpIn (hG cI) 0 P Q a w
theorem Left.Kr{iI:Bool}{base:Nat}{G:Nat→Option bQ}{al ky fZ:Ren}{w er dd:World}{a dP a2:Act}{N:Nat}{vars:List Nat}{h A S:J}{gD:ar}{v v':Value}(bT:h.step A)(b4:A.step S)(hn:iI=true)
  (l1:Left iI base G al w a N vars h A gD dP ky er) (l2:ya A S base (over A G) ky er dP v a2 fZ dd v'):ya h S base G al w a v a2 fZ dd v' :=
 ⟨l1.agree.trans l2.agree bT.next b4.next,l2.val,by
  obtain⟨d1,m1,az,wi⟩:=l1.defers;rw[l2.defers,az,wi hn];rfl,b1.congr l2.fI fun id=>(HY b4 G id).symm,l1.step.trans l2.step⟩
section
variable {N:Nat}{vars:List Nat}
theorem hN.aW{a6:List aF}{outs:List (Nat × Nat)}{env:ar}{h D:J}{v:Value}(hr:tD P a6 [] [] env h v D):hN P N vars (.aW a6 outs) env h v D:=by
 refine⟨hr.step,fun code aj base G al w a cI bp bv bZ aM c3 Q dZ=>?_⟩;cases code<;>simp only[eD]at aj;exact acH aj hr cI bp bv bZ aM c3 dZ
theorem hN.aq0{bk bJ:bo}{env:ar}{h D:J}{v:Value}(t:hN P N vars bk env h v D):hN P N vars (.seq bk bJ) env h v D:=by
 refine⟨t.1,fun code aj base G al w a cI bp bv bZ aM c3 Q dZ=>?_⟩;cases code<;>simp only[eD]at aj;exact wpIn_seq (t.2 _ aj.1 base G al w a cI bp bv bZ aM c3 _ fun a' bd w' v' ag=>dZ a' bd w' v' ag)
theorem hN.aq1{bk bJ:bo}{env gD:ar}{h A S:J}{v:Value}(hn:bk.cX=true)(t1:eu P N vars bk env h .normal gD A)(t2:hN P N vars bJ gD A v S):hN P N vars (.seq bk bJ) env h v S:=by
 refine⟨t1.1.trans t2.1,fun code aj base G al w a cI bp bv bZ aM c3 Q dZ=>?_⟩;cases code<;>simp only[eD]at aj;refine wpIn_seq (t1.2 _ aj.1 base G al w a cI (fun e=>by rw[hn]at e;cases e) bv (bZ.left t2.1.next) aM c3 _ fun a' bd w' ag=>?_);rw[hn]at ag;exact t2.2 _ aj.2 base (over A G) bd w' a' cI (BS bp ag.step.size) (oO _ _) (bZ.right t1.1.next ag.agree) ag.fI ag.env Q fun a2 fZ dd v2 bC=>dZ a2 fZ dd v2 (ag.Kr t1.1 t2.1 rfl bC)
theorem hN.ap2{a6:List aF}{outs:List (Nat × Nat)}{d:Nat}{bk bJ:bo}{env:ar}{h D:J}{v:Value}(hr:tD P a6 [] [] env h v D):hN P N vars (.hK a6 outs d bk bJ) env h v D:=by
 refine⟨hr.step,fun code aj base G al w a cI bp bv bZ aM c3 Q dZ=>?_⟩;cases code<;>first|(simp only[eD]at aj;done)|skip
 rename_i wg xY;cases wg<;>first|(simp only[eD]at aj;done)|skip
 rename_i id aQ fq;cases xY<;>first|(simp only[eD]at aj;done)|skip
 rename_i n7 hQ bl;cases n7<;>first|(simp only[eD]at aj;done)|skip
 simp only[eD]at aj;exact wpIn_seq (acH aj.1 hr cI bp bv bZ aM c3 dZ)
theorem hN.acm{a6:List aF}{outs:List (Nat × Nat)}{d:Nat}{bk bJ:bo}{env ts:ar}{h A S:J}{v:Value}{b:Bool}(hr:sU P a6 [] [] env h ts A)
  (hd:ts[d]?=some (.bool b)) (t2:hN P N vars (if b then bk else bJ) (kX ts outs env) A v S):hN P N vars (.hK a6 outs d bk bJ) env h v S:=by
 refine⟨hr.step.trans t2.1,fun code aj base G al w a cI bp bv bZ aM c3 Q dZ=>?_⟩;cases code<;>first|(simp only[eD]at aj;done)|skip
 rename_i wg xY;cases wg<;>first|(simp only[eD]at aj;done)|skip
 rename_i id aQ fq;cases xY<;>first|(simp only[eD]at aj;done)|skip
 rename_i n7 hQ bl;cases n7<;>first|(simp only[eD]at aj;done)|skip
 rename_i v6;simp only[eD]at aj;obtain⟨aN,⟨tb,s,o,s5,pg,tU⟩,A1,y3⟩:=aj;refine wpIn_seq (Mv aN hr cI bv (bZ.left t2.1.next) aM c3 fun a' bd w' ag SY=>?_);obtain⟨v',aB,aG⟩:=SY d s o _ _ s5 tb pg tU hd;have T:=aG.bool;subst T;have sk:a'.eval (.tmp v6)=.bool b:=by simp only[Act.eval,lF,aB];rfl
 refine wpIn_cond sk ?_;exact t2.2 (if b then hQ else bl) (by cases b<;>first|exact A1|exact y3) base (over A G) bd w' a' cI (BS bp ag.step.size) (oO _ _) (bZ.right hr.step.next ag.agree) ag.fI ag.env Q fun a2 fZ dd v2 bC=>dZ a2 fZ dd v2 (ag.Kr hr.step t2.1 rfl bC)
theorem hN.cond{y:Arg}{bk bJ:bo}{env:ar}{h S:J}{v:Value}{b:Bool}(hd:y.ev [] env=some (.bool b))(t2:hN P N vars (if b then bk else bJ) env h v S):hN P N vars (.cond y bk bJ) env h v S:=by
 refine⟨t2.1,fun code aj base G al w a cI bp bv bZ aM c3 Q dZ=>?_⟩;cases code<;>first|(simp only[eD]at aj;done)|skip
 rename_i n7 hQ bl;simp only[eD]at aj;obtain⟨af,A1,y3⟩:=aj;have sk:a.eval n7=.bool b:=by
  unfold Ix at af;split at af
  ·simp only[Arg.ev]at hd;obtain⟨v',aB,aG⟩:=c3.get _ _ _ af hd;have T:=aG.bool;subst T;simp only[Act.eval,lF,aB];rfl
  ·simp only[Arg.ev]at hd;cases hd;obtain⟨rfl,_⟩:=af;rfl
  ·exact af.elim
 refine wpIn_cond sk ?_;exact t2.2 (if b then hQ else bl) (by cases b<;>first|exact A1|exact y3) base G al w a cI bp bv bZ aM c3 Q dZ
theorem hN.block{id:Nat}{c:bo}{env:ar}{h A:J}{v:Value}(t:hN P N vars c env h v A):hN P N vars (.block id c) env h v A:=by
 refine⟨t.1,fun code aj base G al w a cI bp bv bZ aM c3 Q dZ=>?_⟩;cases code<;>simp only[eD]at aj;obtain⟨rfl,aj⟩:=aj;exact wpIn_block (t.2 _ aj base G al w a cI bp bv bZ aM c3 _ fun a' bd w' v' ag=>dZ a' bd w' v' ag)
theorem hN.scope{c:bo}{env:ar}{h A:J}{v:Value}(t:hN P N vars c env h v A):hN P N vars (.scope c) env h v A:=by
 refine⟨t.1,fun code aj base G al w a cI bp bv bZ aM c3 Q dZ=>?_⟩;cases code<;>simp only[eD]at aj;exact aeD (t.2 _ aj base G al w a cI bp bv bZ aM c3 _ fun a' bd w' v' ag=>dZ a' bd w' v' ag)
inductive wo(P:Program)(N:Nat)(vars:List Nat)(c:bo):Nat→ar→J→aT
 |stop {env h v A}(t:hN P N vars c env h v A):wo P N vars c 1 env h v A
 |next {m env h gD A v S}(t:eu P N vars c env h .normal gD A) (r:wo P N vars c m gD A v S):wo P N vars c (m+1) env h v S
theorem wo.step{c:bo}{m:Nat}{env:ar}{h A:J}{v:Value}(t:wo P N vars c m env h v A):h.step A:=by
 induction t with
 |stop t=>exact t.1
 |next t _ ih=>exact t.1.trans ih
theorem wo.rounds{c:bo}{body:Code}(aj:eD P N vars c body)(base:Nat)(cI:Option Nat)(hn:c.cX=true){m:Nat}{env:ar}{h A:J}{v:Value}(t:wo P N vars c m env h v A) :
  ∀(G:Nat→Option bQ) (al:Ren) (w:World) (a:Act),0<w.heap.size→h.hX G→jf al h.next A.next→b1 base G al w→kz al N vars env a.tmps→∀ Q:Exit→Act→World→Prop,(∀ a' bd w' v',ya h A base G al w a v a' bd w' v'→Q (.panic (sF v')) a' w') →
   Code.roundsIn (hG cI) 0 P body Q m a w:=by
 induction t with
 |stop t =>
  intro G al w a bp bv bZ aM c3 Q dZ;exact t.2 _ aj base G al w a cI bp bv bZ aM c3 _ fun a' bd w' v' ag=>dZ a' bd w' v' ag
 |next t r ih =>
  intro G al w a bp bv bZ aM c3 Q dZ;have bu:=r.step;refine t.2 _ aj base G al w a cI (fun e=>by rw[hn]at e;cases e) bv (bZ.left bu.next) aM c3 _ fun a' bd w' ag=>?_;rw[hn]at ag;exact ih (over _ G) bd w' a' (BS bp ag.step.size) (oO _ _) (bZ.right t.1.next ag.agree) ag.fI ag.env Q fun a2 fZ dd v2 bC=>dZ a2 fZ dd v2 (ag.Kr t.1 bu rfl bC)
theorem hN.loop{c:bo}{m:Nat}{env:ar}{h A:J}{v:Value}(hn:c.cX=true)(t:wo P N vars c m env h v A):hN P N vars (.loop c) env h v A:=by
 refine⟨t.step,fun code aj base G al w a cI bp bv bZ aM c3 Q dZ=>?_⟩;cases code<;>simp only[eD]at aj;exact wpIn_loop_rounds m (t.rounds aj base cI hn G al w a bp bv bZ aM c3 Q dZ)
end
theorem Yl{al:Ren}{n m:Nat}{vars:List Nat}{args gq:ar}(ct:be al args gq)(hn:args.length=n)(a1:n≤m)
  (bN:∀(k:Nat) s,vars[k]?=some s→(k<n→s=k)∧(n≤k→n≤s∧s<m)) (b7:n≤vars.length) :
  kz al m vars (args++List.replicate (vars.length-args.length) undef) (gq.toArray++Array.replicate (m-gq.toArray.size) undef):=by
 have ag:gq.length=n:=by rw[← ct.length];exact hn
 refine⟨by simp;omega,by simp;omega,fun k s v ab ad=>?_⟩;obtain⟨ai,T⟩:=bN k s ab;by_cases Gq:k<n
 ·obtain rfl:=ai Gq;rw[PF (by omega)]at ad;obtain⟨v',az,aL⟩:=ct.get s v ad;refine⟨v',?_,aL⟩;rw[Pf (by simp;omega)];simpa using az
 ·obtain⟨fg,dx⟩:=T (by omega);rw[List.getElem?_append_right (by omega)]at ad;have Hc:v=undef:=by
   have:=List.mem_of_getElem? ad;exact(List.mem_replicate.1 this).2
  subst Hc;refine⟨undef,?_,.same _ rfl⟩;rw[Array.getElem?_append_right (by simp;omega),ND,if_pos];simp only[List.size_toArray];omega
theorem yd.alz{f:FuncId}{bm:bB}(aZ:bK P f bm){args:ar}{h D:J}{v:Value}(hn:args.length=bm.iH){fn:Func}(mj:P.funcs[f]?=some fn)(T:hN P fn.ntmps bm.vars bm.body (kn bm args) h v D):yd P f args h v D:=by
 obtain⟨Rg,code,A,S,ae,aB,aG,a1,bN,b7⟩:=aZ.fn;rw[mj]at A;cases A;refine⟨aZ.enters,T.1,fun base G al w gq bp bv bZ aM ct=>?_⟩;refine callsIn_wide.1 (callsIn_of_wp_marks (n:=0) mj S trivial ?_);have sy:hG none=Fence.wide:=rfl;rw[← sy];refine T.2 code aB base G al w _ none bp bv bZ aM ?_ _ fun a' bd w' v' ag=>?_
 ·exact Yl ct hn a1 bN b7
 show LeavesInM _ _ _ _ _ _ a'.defers (.panicking _) w';rw[ag.defers];exact⟨v',bd,rfl,ag.agree,ag.val,ag.fI,ag.step⟩
end Go.Eng
namespace Go.Eng
open Go
variable {P:Program}
def bj(P:Program)(f:FuncId)(args:ar)(h:J)(Q:aT):Prop:=∃ v D,my P f args h v D∧Q v D
def oC(P:Program)(du:Value)(args:ar)(h:J)(Q:aT):Prop:=∃ v D,IM P du args h v D∧Q v D
class kA where
 R:aT
 F:FuncId→Bool
 V:Bool
def kA.rm(PR:kA)(v:Value)(h:J):Prop:=∀ n,PR.R v (h.pad n)
theorem kA.rm.pad{PR:kA}{v:Value}{h:J}(hr:PR.rm v h)(n:Nat):PR.rm v (h.pad n):=fun m=>by rw[J.ao6];exact hr _
instance vL:kA:=⟨fun _ _=>False,fun _=>false,false⟩
def iM[PR:kA](P:Program)(f:FuncId)(args:ar)(h:J)(post:Prop)(Q:aT):Prop:=bj P f args h Q∨(PR.F f=true∧post∧∃ v D,yd P f args h v D∧PR.rm v D)
def VP(P:Program)(du:Value)(args:ar)(h:J)(v:Value)(D:J):Prop:=match du with
 |.func (.func f) first cap=>yd P f (first.toList++args++cap.toList) h v D
 |_=>False
def EN[PR:kA](P:Program)(du:Value)(args:ar)(h:J)(post:Prop)(Q:aT):Prop:=oC P du args h Q∨(PR.V=true∧post∧∃ v D,VP P du args h v D∧PR.rm v D)
theorem QG(f:FuncId)(args:ar)(h:J)(post:Prop)(Q:aT):iM P f args h post Q=bj P f args h Q:=propext ⟨fun h=>h.elim id fun⟨h,_⟩=>(by cases h),.inl⟩
theorem Vz(du:Value)(args:ar)(h:J)(post:Prop)(Q:aT):EN P du args h post Q=oC P du args h Q:=propext ⟨fun h=>h.elim id fun⟨h,_⟩=>(by cases h),.inl⟩
theorem bj.mono{f:FuncId}{args:ar}{h:J}{Q gA:aT}(aj:bj P f args h Q)(L:∀ v D,h.step D→Q v D→gA v D):bj P f args h gA :=
 let ⟨v,D,t,q⟩:=aj;⟨v,D,t,L v D t.2.1 q⟩
theorem bj.val{f:FuncId}{first captured:Array Value}{args:ar}{h:J}{Q:aT}(aj:bj P f (first.toList++args++captured.toList) h Q):oC P (.func (.func f) first captured) args h Q :=
 let ⟨v,D,t,q⟩:=aj;⟨v,D,t.val,q⟩
def cu{c1:Type}(o:Option c1)(K:c1→Prop):Prop:=match o with|some x=>K x|none=>False
@[simp] theorem abL {c1:Type}(x:c1) (K:c1→Prop):cu (some x) K=K x:=rfl
def vV(bb:List Nat)(vs:ar)(o:Option Value):Option Value :=
 match Nz vs with
 |some id=>if bb.contains id then none else o
 |none=>o
def Cc(bb:List Nat)(h:J)(Q:List Nat→aT):aT:=fun v D=>∃ ha,(∀ i∈bb,i∈ha)∧h.Fm ha D∧Q ha v D
def MV(q:Bool)(bb:List Nat)(h:J)(Q:List Nat→aT):aT:=match q with|true=>Cc bb h Q|false=>Q bb
def o4[PR:kA](P:Program)(k:K)(q:Bool)(bb:List Nat)(vs:ar)(h:J)(post:Prop)(Q:List Nat→aT):Prop :=
 match k with
 |.p k=>cu (cr k vs) fun v=>Q bb v h
 |.r k=>cu (vV bb vs (aw k vs h.get)) fun v=>Q bb v h
 |.a k=>cu (o7 k vs) fun r=>Q bb (r.2 h.next) (h.alloc (.aq r.1 true))
 |.w k=>cu (bh k vs h) fun r=>MV q bb h Q r.1 r.2
 |.call f=>iM P f vs h post (MV q bb h Q)
 |.rr=>match vs with|du::args=>EN P du args h post (MV q bb h Q)|[]=>False
 |.tt=>match vs with|[.iface t x]=>PR.V=true∧post∧PR.rm (.iface t x) h|_=>False
def KO(g:Option (Nat × Bool))(ts:ar)(wh cO:Prop):Prop :=
 match g with
 |none=>wh
 |some (d,pI)=>match ts[d]? with
  |some (.bool b)=>(b=pI→wh)∧(b = !pI→cO)
  |some _=>cO
  |none=>False
def uR[PR:kA](P:Program)(s:aF)(post:Prop)(bb:List Nat)(ts env:ar)(h:J)(Q:List Nat→aT):Prop :=
 KO s.g ts (cu (kE ts env s.args) fun vs=>o4 P s.k s.q bb vs h post Q) (Q bb undef h)
def lH[PR:kA](P:Program):List aF→List Nat→ar→ar→J→(ar→J→Prop)→Prop
 |[],_,ts,_,h,Q=>Q ts h
 |s::r,bb,ts,env,h,Q=>uR P s (qs s.q (1::List.replicate ts.length 0) r bb (undef::ts) env h) bb ts env h fun o5 v A=>lH P r o5 (v::ts) env A Q
theorem Ih{q:Bool}{bb:List Nat}{h D:J}{Q:List Nat→aT}{v:Value}(aC:MV q bb h Q v D):∃ ha,(∀ i∈bb,i∈ha)∧(q=true→h.Fm ha D)∧Q ha v D:=by
 cases q with
 |true=>obtain⟨ha,A,S,ae⟩:=aC;exact⟨ha,A,fun _=>S,ae⟩
 |false=>exact⟨bb,fun _ h=>h,(fun e=>by cases e),aC⟩
theorem acp{bb:List Nat}{vs:ar}{o:Option Value}{v:Value}(h:vV bb vs o=some v):o=some v∧vP bb vs:=by
 unfold vV at h;unfold vP;split at h
 ·rename_i id cQ;split at h
  ·cases h
  ·rename_i aj;refine⟨h,fun pw A7=>?_⟩;rw[cQ]at A7;cases A7;simpa using aj
 ·rename_i cQ;exact⟨h,fun pw A7=>by rw[cQ]at A7;cases A7⟩
theorem o4.sound{k:K}{q:Bool}{bb:List Nat}{vs:ar}{h:J}{post:Prop}{Q:List Nat→aT}(ai:o4 P k q bb vs h post Q):∃ v D ha,x1 P k vs h v D∧(∀ i∈bb,i∈ha)∧(q=true→h.Fm ha D)∧(k.dF=true→vP bb vs)∧Q ha v D:=by
 have bP:∀ i∈bb,i∈bb:=fun _ h=>h;unfold o4 at ai;split at ai
 ·rename_i k;cases af:cr k vs with
  |none=>rw[af]at ai;exact ai.elim
  |some v=>rw[af]at ai;exact⟨v,h,bb,⟨af,rfl⟩,bP,fun _ id o _ aA=>.inl aA,(fun e=>by simp[K.dF]at e),ai⟩
 ·rename_i k;cases af:vV bb vs (aw k vs h.get) with
  |none=>rw[af]at ai;exact ai.elim
  |some v=>rw[af]at ai;exact⟨v,h,bb,⟨(acp af).1,rfl⟩,bP,fun _ id o _ aA=>.inl aA,fun _=>(acp af).2,ai⟩
 ·rename_i k;cases af:o7 k vs with
  |none=>rw[af]at ai;exact ai.elim
  |some r=>rw[af]at ai;exact⟨_,_,bb,⟨r.1,r.2,af,rfl,rfl⟩,bP,fun _ id o _ aA=>.inl (by rw[J.oH (J.bY aA)];exact aA),(fun e=>by simp[K.dF]at e),ai⟩
 ·rename_i k;cases af:bh k vs h with
  |none=>rw[af]at ai;exact ai.elim
  |some r =>
   rw[af]at ai;obtain⟨ha,A,S,ae⟩:=Ih ai;exact⟨_,_,ha,af,A,S,(fun e=>by simp[K.dF]at e),ae⟩
 ·rw[QG]at ai;obtain⟨v,D,aC,L⟩:=ai;obtain⟨ha,A,S,ae⟩:=Ih L;exact⟨v,D,ha,aC,A,S,(fun e=>by simp[K.dF]at e),ae⟩
 ·split at ai
  ·rw[Vz]at ai;obtain⟨v,D,aC,L⟩:=ai;obtain⟨ha,A,S,ae⟩:=Ih L;exact⟨v,D,ha,aC,A,S,(fun e=>by simp[K.dF]at e),ae⟩
  ·exact ai.elim
 ·split at ai
  ·cases ai.1
  ·exact ai.elim
theorem uR.sound{s:aF}{bb:List Nat}{ts env:ar}{h:J}{post:Prop}{Q:List Nat→aT}(ai:uR P s post bb ts env h Q):∃ v D ha,pL P s bb ts env h v D ha∧Q ha v D:=by
 have wh:cu (kE ts env s.args) (fun vs=>o4 P s.k s.q bb vs h post Q)→oy s.g ts=some true→∃ v D ha,pL P s bb ts env h v D ha∧Q ha v D:=by
  intro bw ax;cases af:kE ts env s.args with
  |none=>rw[af]at bw;exact bw.elim
  |some vs =>
   rw[af]at bw;obtain⟨v,D,ha,A,S,ae,aB,aG⟩:=o4.sound bw;exact⟨v,D,ha,⟨true,ax,S,by simpa using⟨vs,af,A,ae,aB⟩⟩,aG⟩
 have cO:Q bb undef h→oy s.g ts=some false→∃ v D ha,pL P s bb ts env h v D ha∧Q ha v D:=fun hn ax=>⟨undef,h,bb,⟨false,ax,fun _ h=>h,by simp⟩,hn⟩;unfold uR KO at ai;split at ai
 ·rename_i aA;exact wh ai (by rw[aA];rfl)
 ·rename_i d pI aA;split at ai
  ·rename_i b T;by_cases e:b=pI
   ·exact wh (ai.1 e) (by rw[aA];simp[oy,T,e])
   ·exact cO (ai.2 (by cases b<;>cases pI<;>simp_all)) (by rw[aA];simp[oy,T,e])
  ·rename_i v vr ad;refine cO ai ?_;rw[aA];simp only[oy,ad,N6]
  ·exact ai.elim
theorem lH.sound:∀ {l:List aF}{bb:List Nat}{ts env:ar}{h:J}{Q:ar→J→Prop},lH P l bb ts env h Q→∃ lG D,sU P l bb ts env h lG D∧Q lG D
 |[],bb,ts,env,h,Q,hr=>⟨ts,h,⟨rfl,rfl⟩,hr⟩
 |s::r,bb,ts,env,h,Q,hr=>by
  obtain⟨v,A,o5,ah,hr⟩:=uR.sound hr;obtain⟨lG,D,S,ae⟩:=lH.sound hr;exact⟨lG,D,⟨v,A,o5,ah,S⟩,ae⟩
def Cp(P:Program)(N:Nat)(vars:List Nat)(c:bo)(env:ar)(h:J)(Q:dM→ar→J→Prop):Prop:=∃ x mf D,eu P N vars c env h x mf D∧Q x mf D
def ch[PR:kA](P:Program)(N:Nat)(vars:List Nat)(c:bo)(env:ar)(h:J)(Q:dM→ar→J→Prop):Prop:=(∃ x mf D,Ak P N vars c env h x mf D∧Q x mf D)∨∃ m v D,wo P N vars c m env h v D∧PR.rm v D
def rh(next:ar→J→Prop)(Q:dM→ar→J→Prop):dM→ar→J→Prop
 |.normal,e,h=>next e h
 |.exit i,e,h=>Q (.exit i) e h
 |.ret,e,h=>Q .ret e h
def sW(id:Nat)(Q:dM→ar→J→Prop):dM→ar→J→Prop
 |.normal,e,h=>Q .normal e h
 |.exit i,e,h=>Q (if i=id then .normal else .exit i) e h
 |.ret,e,h=>Q .ret e h
def wD(v:Option Value)(wh cO:Prop):Prop :=
 match v with
 |some (.bool b)=>(b=true→wh)∧(b=false→cO)
 |_=>False
def aff(P:Program)(N:Nat)(vars fH:List Nat)(a b:bo)(env:ar)(cU:Nat)(Q:dM→ar→J→Prop)(h:J):Prop :=
 ∃ bu x,h.get cU=some (.loop env vars N (Mf P N vars fH a b) bu (LU x))∧bu≠.busy∧Q x env (h.set cU .dead)
def VS(P:Program)(N:Nat)(vars fH:List Nat)(a b:bo)(du:Option Value)(env:ar)(h:J)(Q:dM→ar→J→Prop):Prop :=
 match du with
 |some (.func (.func f) first cap)=>bj P f (first.toList++[.func (.yield (h.next+1)) #[] #[]]++cap.toList) (vU P N vars fH a b env h) fun _ S=>aff P N vars fH a b env (h.next+1) Q S
 |_=>False
def W[PR:kA](P:Program)(N:Nat)(vars:List Nat):bo→(dM→ar→J→Prop)→ar→J→Prop
 |.skip,Q,e,h=>Q .normal e h
 |.aW s o,Q,e,h=>lH P s [] [] e h fun ts A=>Q .normal (kX ts o e) A
 |.seq a b,Q,e,h=>W P N vars a (rh (W P N vars b Q) Q) e h
 |.hK s o d a b,Q,e,h=>lH P s [] [] e h fun ts A=>wD ts[d]? (W P N vars a Q (kX ts o e) A) (W P N vars b Q (kX ts o e) A)
 |.cond x a b,Q,e,h=>wD (x.ev [] e) (W P N vars a Q e h) (W P N vars b Q e h)
 |.block id c,Q,e,h=>W P N vars c (sW id Q) e h
 |.loop c,Q,e,h=>ch P N vars c e h Q
 |.exit id,Q,e,h=>Q (.exit id) e h
 |.ret,Q,e,h=>Q .ret e h
 |.scope c,Q,e,h=>W P N vars c Q e h
 |.label,Q,e,h=>Q .normal e h
 |.never,_,_,_=>False
 |.range g fH a b,Q,e,h=>VS P N vars fH a b (g.ev [] e) e h Q
theorem W.sound{N:Nat}{vars:List Nat}:∀ {c:bo}{Q:dM→ar→J→Prop}{e:ar}{h:J},W P N vars c Q e h→Cp P N vars c e h Q
 |.skip,Q,e,h,ax=>⟨_,_,_,eu.skip,ax⟩
 |.aW s o,Q,e,h,ax=>by
  obtain⟨ts,A,hr,L⟩:=lH.sound ax;exact⟨_,_,_,eu.aW hr,L⟩
 |.seq a b,Q,e,h,ax=>by
  obtain⟨x,az,A,aC,L⟩:=W.sound (c:=a) ax;cases x with
  |normal =>
   obtain⟨ej,aL,S,rG,cN⟩:=W.sound (c:=b) L;exact⟨_,_,_,aC.seq rG,cN⟩
  |exit i=>exact⟨_,_,_,aC.ME (by simp),L⟩
  |ret=>exact⟨_,_,_,aC.ME (by simp),L⟩
 |.hK s o d a b,Q,e,h,ax=>by
  obtain⟨ts,A,hr,L⟩:=lH.sound ax;unfold wD at L;split at L<;>first|(exact L.elim)|skip
  rename_i v ad;cases v with
  |true =>
   obtain⟨x,aL,S,aC,cN⟩:=W.sound (c:=a) (L.1 rfl);exact⟨_,_,_,eu.hK hr ad (by simpa using aC),cN⟩
  |false =>
   obtain⟨x,aL,S,aC,cN⟩:=W.sound (c:=b) (L.2 rfl);exact⟨_,_,_,eu.hK hr ad (by simpa using aC),cN⟩
 |.cond y a b,Q,e,h,ax=>by
  simp only[W]at ax;unfold wD at ax;split at ax<;>first|(exact ax.elim)|skip
  rename_i v ad;cases v with
  |true =>
   obtain⟨x,aL,S,aC,cN⟩:=W.sound (c:=a) (ax.1 rfl);exact⟨_,_,_,eu.cond ad (by simpa using aC),cN⟩
  |false =>
   obtain⟨x,aL,S,aC,cN⟩:=W.sound (c:=b) (ax.2 rfl);exact⟨_,_,_,eu.cond ad (by simpa using aC),cN⟩
 |.block id c,Q,e,h,ax=>by
  obtain⟨x,az,A,aC,L⟩:=W.sound (c:=c) ax;refine⟨_,_,_,aC.block,?_⟩;cases x with
  |normal=>exact L
  |ret=>exact L
  |exit i=>simpa[sW] using L
 |.loop c,Q,e,h,ax=>by
  rcases ax with⟨x,az,A,aC,L⟩|⟨_,_,_,_,h⟩
  ·exact⟨_,_,_,eu.loop aC,L⟩
  ·exact(h 0).elim
 |.exit id,Q,e,h,ax=>⟨_,_,_,eu.exit,ax⟩
 |.ret,Q,e,h,ax=>⟨_,_,_,eu.ret,ax⟩
 |.scope c,Q,e,h,ax=>by
  obtain⟨x,az,A,aC,L⟩:=W.sound (c:=c) ax;exact⟨_,_,_,aC.scope,L⟩
 |.label,Q,e,h,ax=>⟨_,_,_,eu.label,ax⟩
 |.never,_,_,_,ax=>ax.elim
 |.range g fH a b,Q,e,h,ax=>by
  simp only[W]at ax;unfold VS at ax;split at ax<;>first|(exact ax.elim)|skip
  rename_i f first cap aA
  obtain⟨v,S,aj,bu,x,bg,dS,L⟩:=ax;exact⟨x,e,_,eu.range aA aj bg dS,L⟩
section
variable {PR:kA}
theorem o4.mU{k:K}{q:Bool}{bb:List Nat}{vs:ar}{h:J}{post:Prop}{Q:List Nat→aT}(ai:o4 P k q bb vs h post Q) :
  (∃ v D ha,x1 P k vs h v D∧(∀ i∈bb,i∈ha)∧(q=true→h.Fm ha D)∧(k.dF=true→vP bb vs)∧Q ha v D)∨(post∧∃ v D,r3 P k vs h v D∧PR.rm v D):=by
 cases k with
 |call f =>
  rcases ai with⟨v,D,aC,L⟩|⟨_,aZ,v,D,aC,hr⟩
  ·obtain⟨ha,A,S,ae⟩:=Ih L;exact .inl ⟨v,D,ha,aC,A,S,(fun e=>by simp[K.dF]at e),ae⟩
  ·exact .inr ⟨aZ,v,D,aC,hr⟩
 |rr =>
  simp only[o4]at ai;split at ai
  ·rename_i du args;rcases ai with⟨v,D,aC,L⟩|⟨_,aZ,v,D,aC,hr⟩
   ·obtain⟨ha,A,S,ae⟩:=Ih L;exact .inl ⟨v,D,ha,aC,A,S,(fun e=>by simp[K.dF]at e),ae⟩
   ·refine .inr ⟨aZ,v,D,?_,hr⟩;unfold VP at aC;split at aC
    ·exact aC
    ·exact aC.elim
  ·exact ai.elim
 |tt =>
  simp only[o4]at ai;split at ai
  ·exact .inr ⟨ai.2.1,_,h,⟨⟨_,_,rfl⟩,rfl,rfl⟩,ai.2.2⟩
  ·exact ai.elim
 |p k=>exact .inl (o4.sound (k:=.p k) (post:=post) ai)
 |r k=>exact .inl (o4.sound (k:=.r k) (post:=post) ai)
 |a k=>exact .inl (o4.sound (k:=.a k) (post:=post) ai)
 |w k=>exact .inl (o4.sound (k:=.w k) (post:=post) ai)
theorem uR.mU{s:aF}{bb:List Nat}{ts env:ar}{h:J}{post:Prop}{Q:List Nat→aT}(ai:uR P s post bb ts env h Q) :
  (∃ v D ha,pL P s bb ts env h v D ha∧Q ha v D)∨(post∧oy s.g ts=some true∧∃ v D,(∃ vs,kE ts env s.args=some vs∧r3 P s.k vs h v D)∧PR.rm v D):=by
 have wh:cu (kE ts env s.args) (fun vs=>o4 P s.k s.q bb vs h post Q)→oy s.g ts=some true→(∃ v D ha,pL P s bb ts env h v D ha∧Q ha v D)∨(post∧oy s.g ts=some true∧∃ v D,(∃ vs,kE ts env s.args=some vs∧r3 P s.k vs h v D)∧PR.rm v D):=by
  intro bw ax;cases af:kE ts env s.args with
  |none=>rw[af]at bw;exact bw.elim
  |some vs =>
   rw[af]at bw;rcases o4.mU bw with⟨v,D,ha,A,S,ae,aB,aG⟩|⟨h0,v,D,A,S⟩
   ·exact .inl ⟨v,D,ha,⟨true,ax,S,by simpa using⟨vs,af,A,ae,aB⟩⟩,aG⟩
   ·exact .inr ⟨h0,ax,v,D,⟨vs,rfl,A⟩,S⟩
 have cO:Q bb undef h→oy s.g ts=some false→∃ v D ha,pL P s bb ts env h v D ha∧Q ha v D:=fun hn ax=>⟨undef,h,bb,⟨false,ax,fun _ h=>h,by simp⟩,hn⟩;unfold uR KO at ai;split at ai
 ·rename_i aA;exact wh ai (by rw[aA];rfl)
 ·rename_i d pI aA;split at ai
  ·rename_i b T;by_cases e:b=pI
   ·exact wh (ai.1 e) (by rw[aA];simp[oy,T,e])
   ·exact .inl (cO (ai.2 (by cases b<;>cases pI<;>simp_all)) (by rw[aA];simp[oy,T,e]))
  ·rename_i v vr ad;refine .inl (cO ai ?_);rw[aA];simp only[oy,ad,N6]
  ·exact ai.elim
theorem lH.mU:∀ {l:List aF}{bb:List Nat}{ts env:ar}{h:J}{Q:ar→J→Prop},lH P l bb ts env h Q →
  (∃ lG D,sU P l bb ts env h lG D∧Q lG D)∨∃ v D,tD P l bb ts env h v D∧PR.rm v D
 |[],bb,ts,env,h,Q,hr=>.inl ⟨ts,h,⟨rfl,rfl⟩,hr⟩
 |s::r,bb,ts,env,h,Q,hr=>by
  rcases uR.mU hr with⟨v,A,o5,ah,hr⟩|⟨h0,A,v,D,⟨vs,fr,fD⟩,ae⟩
  ·rcases lH.mU hr with⟨lG,D,S,ae⟩|⟨v2,D,S,ae⟩
   ·exact .inl ⟨lG,D,⟨v,A,o5,ah,S⟩,ae⟩
   ·exact .inr ⟨v2,D,.inr ⟨v,A,o5,ah,S⟩,ae⟩
  ·exact .inr ⟨v,D.pad (wO r),.inl ⟨A,⟨vs,D,fr,fD,rfl⟩,h0⟩,ae.pad _⟩
def wk[PR:kA](P:Program)(N:Nat)(vars:List Nat)(c:bo)(env:ar)(h:J)(Q:dM→ar→J→Prop):Prop:=Cp P N vars c env h Q∨∃ v D,hN P N vars c env h v D∧PR.rm v D
theorem W.mU{N:Nat}{vars:List Nat}:∀ {c:bo}{Q:dM→ar→J→Prop}{e:ar}{h:J},W P N vars c Q e h→c.cX=true→wk P N vars c e h Q
 |.skip,Q,e,h,ax,_=>.inl ⟨_,_,_,eu.skip,ax⟩
 |.aW s o,Q,e,h,ax,hd=>by
  rcases lH.mU ax with⟨ts,A,hr,L⟩|⟨v,D,A,S⟩
  ·exact .inl ⟨_,_,_,eu.aW hr,L⟩
  ·exact .inr ⟨v,D,hN.aW A,S⟩
 |.seq a b,Q,e,h,ax,hd=>by
  simp only[bo.cX,Bool.and_eq_true]at hd;rcases W.mU (c:=a) ax hd.1 with⟨x,az,A,aC,L⟩|⟨v,D,A,S⟩
  ·cases x with
   |normal =>
    rcases W.mU (c:=b) L hd.2 with⟨ej,aL,S,rG,cN⟩|⟨v,D,S,ae⟩
    ·exact .inl ⟨_,_,_,aC.seq rG,cN⟩
    ·exact .inr ⟨v,D,hN.aq1 hd.1 aC S,ae⟩
   |exit i=>exact .inl ⟨_,_,_,aC.ME (by simp),L⟩
   |ret=>exact .inl ⟨_,_,_,aC.ME (by simp),L⟩
  ·exact .inr ⟨v,D,hN.aq0 A,S⟩
 |.hK s o d a b,Q,e,h,ax,hd=>by
  simp only[bo.cX,Bool.and_eq_true]at hd;rcases lH.mU ax with⟨ts,A,hr,L⟩|⟨v,D,A,S⟩
  ·unfold wD at L;split at L<;>first|(exact L.elim)|skip
   rename_i v ad;cases v with
   |true =>
    rcases W.mU (c:=a) (L.1 rfl) hd.1 with⟨x,aL,S,aC,cN⟩|⟨v,D,S,ae⟩
    ·exact .inl ⟨_,_,_,eu.hK hr ad (by simpa using aC),cN⟩
    ·exact .inr ⟨v,D,hN.acm hr ad (by simpa using S),ae⟩
   |false =>
    rcases W.mU (c:=b) (L.2 rfl) hd.2 with⟨x,aL,S,aC,cN⟩|⟨v,D,S,ae⟩
    ·exact .inl ⟨_,_,_,eu.hK hr ad (by simpa using aC),cN⟩
    ·exact .inr ⟨v,D,hN.acm hr ad (by simpa using S),ae⟩
  ·exact .inr ⟨v,D,hN.ap2 A,S⟩
 |.cond y a b,Q,e,h,ax,hd=>by
  simp only[bo.cX,Bool.and_eq_true]at hd;simp only[W]at ax;unfold wD at ax;split at ax<;>first|(exact ax.elim)|skip
  rename_i v ad;cases v with
  |true =>
   rcases W.mU (c:=a) (ax.1 rfl) hd.1 with⟨x,aL,S,aC,cN⟩|⟨v,D,S,ae⟩
   ·exact .inl ⟨_,_,_,eu.cond ad (by simpa using aC),cN⟩
   ·exact .inr ⟨v,D,hN.cond ad (by simpa using S),ae⟩
  |false =>
   rcases W.mU (c:=b) (ax.2 rfl) hd.2 with⟨x,aL,S,aC,cN⟩|⟨v,D,S,ae⟩
   ·exact .inl ⟨_,_,_,eu.cond ad (by simpa using aC),cN⟩
   ·exact .inr ⟨v,D,hN.cond ad (by simpa using S),ae⟩
 |.block id c,Q,e,h,ax,hd=>by
  rcases W.mU (c:=c) ax hd with⟨x,az,A,aC,L⟩|⟨v,D,A,S⟩
  ·refine .inl ⟨_,_,_,aC.block,?_⟩;cases x with
   |normal=>exact L
   |ret=>exact L
   |exit i=>simpa[sW] using L
  ·exact .inr ⟨v,D,hN.block A,S⟩
 |.loop c,Q,e,h,ax,hd=>by
  rcases ax with⟨x,az,A,aC,L⟩|⟨m,v,D,A,S⟩
  ·exact .inl ⟨_,_,_,eu.loop aC,L⟩
  ·exact .inr ⟨v,D,hN.loop hd A,S⟩
 |.exit id,Q,e,h,ax,_=>.inl ⟨_,_,_,eu.exit,ax⟩
 |.ret,Q,e,h,ax,_=>.inl ⟨_,_,_,eu.ret,ax⟩
 |.scope c,Q,e,h,ax,hd=>by
  rcases W.mU (c:=c) ax hd with⟨x,az,A,aC,L⟩|⟨v,D,A,S⟩
  ·exact .inl ⟨_,_,_,aC.scope,L⟩
  ·exact .inr ⟨v,D,hN.scope A,S⟩
 |.label,Q,e,h,ax,_=>.inl ⟨_,_,_,eu.label,ax⟩
 |.never,_,_,_,ax,_=>ax.elim
 |.range g fH a b,Q,e,h,ax,hd=>by simp[bo.cX]at hd
theorem ch.US{N:Nat}{vars:List Nat}{c:bo}{e:ar}{h:J}{Q:dM→ar→J→Prop}(R:ar→J→Prop)(ax:wk P N vars c e h (rh R Q))(aN:∀ az A,R az A→ch P N vars c az A Q):ch P N vars c e h Q:=by
 rcases ax with⟨x,az,A,aC,L⟩|⟨v,D,A,S⟩
 ·cases x with
  |normal =>
   rcases aN _ _ L with⟨ej,aL,S,⟨m,rG⟩,cN⟩|⟨m,v,D,S,ae⟩
   ·exact .inl ⟨_,_,_,.next aC ⟨m,rG⟩,cN⟩
   ·exact .inr ⟨_,v,D,.next aC S,ae⟩
  |exit i=>exact .inl ⟨_,_,_,.stop aC (by simp),L⟩
  |ret=>exact .inl ⟨_,_,_,.stop aC (by simp),L⟩
 ·exact .inr ⟨1,v,D,.stop A,S⟩
end
theorem ch.round{N:Nat}{vars:List Nat}{c:bo}{e:ar}{h:J}{Q:dM→ar→J→Prop}(ax:W P N vars c (rh (fun az A=>ch P N vars c az A Q) Q) e h):ch P N vars c e h Q :=
 ch.US _ (.inl (W.sound ax)) fun _ _ h=>h
def Cy(bm:bB)(n:Nat)(Q:aT):dM→ar→J→Prop
 |.exit _,_,_=>False
 |.normal,e,h=>cu (hF e (fin bm.body.cX n h) bm.results) fun vs=>Q (packed vs) (fin bm.body.cX n h)
 |.ret,e,h=>cu (hF e (fin bm.body.cX n h) bm.results) fun vs=>Q (packed vs) (fin bm.body.cX n h)
end Go.Eng
namespace Go.Eng
open Go Go.ChangeShapes Go.WideShapes Go.ChangeAt Go.RowKit
variable {P:Program}{H:Type}{enc:TypeId × Value→H}
theorem gi.below{w w':World}(h:gi w.heap.size w w'):Below w.heap.size w w':=⟨h.os,h.tape,h.output,h.size,h.low⟩
theorem gi.kept{w w':World}(h:gi w.heap.size w w')(ab6:MemPlace→Prop):w.keptBut w' ab6:=by
 refine⟨h.os,h.output,fun i au=>?_⟩;rw[h.low i au];generalize w.heap[i]?=o;cases o with
 |none=>rfl
 |some o=>cases o<;>first|exact⟨rfl,rfl,rfl,fun _ _=>rfl⟩|exact .inr ⟨rfl,rfl⟩|rfl
theorem ae6(ag:laidOutB P=true){W r4:World}(T:Below W.heap.size W r4){tv:Nat→Bool}:∀ {ts:List TypeId}{vs:ar}{bG:List (DataW H)}{fH:List MemPlace},(∀ t∈ts,P.readableRec t=true∧t<P.types.size) →
  DataW.TrodAll enc P W 0 (fun _=>true) true ts vs bG fH→(∀ x∈fH,x.block<W.heap.size)→(∀ x∈fH,tv x.block=true)→DataW.TrodAll enc P r4 0 tv true ts vs bG fH
 |[],vs,bG,fH,_,h,_,_=>by
  obtain⟨rfl,rfl,rfl⟩:=trodAll_nil h;exact trodAll_mk0
 |t::ts,vs,bG,fH,aC,h,aV,lX=>by
  obtain⟨v,gM,d,Fa,p,q,rfl,rfl,rfl,h0,hr⟩:=trodAll_cons h;have A:=aC t (by simp);refine trodAll_cons_mk (WideElems.Trod_stays ag A.1 A.2 h0 (fun x af=>T.same (aV x (by simp[af]))) (fun x af=>lX x (by simp[af]))) ?_;exact ae6 ag T (fun mV p6=>aC mV (by simp[p6])) hr (fun x af=>aV x (by simp[af])) (fun x af=>lX x (by simp[af]))
theorem aos{f:Func}{s:ChangeSpec}{EP fresh aiI afh:Bool}{W r4:World}{args:Array Value}{bG vb:List (DataW H)}{EU:List MemPlace}{Vn:TypeId}(ag:laidOutB P=true)(kq:f.resultTypes=#[Vn])(SW:P.underlying Vn=some .bool)
  (hp:∀ t∈f.params.toList,P.readableRec t=true∧t<P.types.size) (ad:s.vars=[])
  (AZ:DataW.Whole enc P f.params.toList s.vars EP W args.toList bG vb EU) (ajX:(s.fn H (bG++vb)).results=[.lit (.bool true)]) (ajR:(s.fn H (bG++vb)).args=bG) (G2:(s.fn H (bG++vb)).vars=[])
  (dS:gi W.heap.size W r4):s.post enc P f EP fresh aiI afh W args (.bool true) r4:=by
 have Y4:=AZ;obtain⟨p,q,dW,s7,rfl,Dg,fU⟩:=AZ;rw[ad]at s7;obtain⟨rfl,rfl⟩:=trodVars_none s7;have aV:∀ x∈p++[],x.block<W.heap.size:=fun x af=>Y4.lt x af;have ct:∀ tv:Nat→Bool,(∀ x∈p++[],tv x.block=true)→DataW.TrodAll enc P r4 0 tv true f.params.toList args.toList (s.fn H (bG++[])).args p:=fun tv lX=>by
  rw[ajR];exact ae6 ag dS.below hp dW (fun x af=>aV x (by simp[af])) (fun x af=>lX x (by simp[af]))
 have ZP:∀(b:Nat) (tv:Nat→Bool) (hd:Bool),DataW.TrodAll enc P r4 b tv hd f.resultTypes.toList ((Value.bool true).resultList f.resultTypes.size) (s.fn H (bG++[])).results []:=fun b tv hd=>by
  rw[kq,ajX];exact trodAll_mk1 (shut_bool SW _)
 have ZY:∀ tv:Nat→Bool,DataW.TrodVars enc P r4 tv s.vars (s.fn H (bG++[])).vars []:=fun tv=>by rw[G2,ad];rfl
 have gF:∀ x∈p++[],(fun b=>decide (b<W.heap.size)) x.block=true:=fun x af=>by simpa using aV x af
 refine⟨bG,[],p++[],[],p,[],Y4,ZP _ _ _,ct _ gF,ZY _,World.keptBut_mono (fun x af=>⟨af,.inr (by simpa using af)⟩) (dS.kept _),fun _=>⟨ok_one kq rfl (okWide_bool_mk SW _),_,_,([]++p)++[],⟨[]++p,[],trodAll_append (ct _ (fun _ _=>rfl)) (ZP _ _ _),ZY _,rfl,?_,?_⟩,?_⟩⟩
 ·intro b off af;have gG:MemPlace.cell b off∈p++[]:=by simpa using af
  rw[dS.CZ _ (aV _ gG)];exact Dg b off gG
 ·intro ai;simpa using fU ai
 ·intro x af _;simpa using af
abbrev uS:=Option (bQ × Loc)
def ua(slots:List uS):J where
 next:=slots.length
 get:=fun id=>((slots[id]?).join).map (·.1)
 wf:=fun id cQ=>by simp[PH cQ]
def xH(slots:List uS):Ren:=fun id=>((slots[id]?).join).map (·.2)
def Nn(W:World)(s:uS):Prop:=∀ o l,s=some (o,l)→l.b<W.heap.size∧o.own=false∧∀ al,nA W.heap.size al W l o
theorem b1.start{W:World}{slots:List uS}(Gg:tS W.heap.size W)(h:∀ s∈slots,Nn W s):b1 W.heap.size (ua slots).get (xH slots) W:=by
 have key:∀ id o l,(ua slots).get id=some o→xH slots id=some l→l.b<W.heap.size∧o.own=false∧∀ al,nA W.heap.size al W l o:=by
  intro id o l A S;simp only[ua,Option.map_eq_some_iff]at A;simp only[xH,Option.map_eq_some_iff]at S;obtain⟨x,af,rfl⟩:=A;obtain⟨y,bw,rfl⟩:=S;rw[af]at bw;cases bw;rw[Option.join_eq_some_iff]at af;exact h _ (List.mem_of_getElem? af) x.1 x.2 rfl
 have gC:∀ id,((ua slots).get id).isSome=(xH slots id).isSome:=fun id=>by simp[ua,xH]
 refine⟨gC,br _,fun id l ag=>?_,fun id o l aA ag=>(key id o l aA ag).2.2 _,fun i j hE BQ zJ hl j6 yT H1 Mz cH ah hd=>?_,Gg⟩
 ·have A:=gC id;rw[ag]at A;obtain⟨o,ah⟩:=r1.1 A;exact(key id o l ah ag).1
 ·rw[(key i hE zJ j6 H1).2.1]at ah;cases ah
theorem agB{f:FuncId}{W:World}{args:ar}{slots:List uS}{absArgs:ar}(Gg:tS W.heap.size W)(ak:∀ s∈slots,Nn W s)(ai:be (xH slots) absArgs args)(aj:bj P f absArgs (ua slots) fun v _=>v=.bool true) :
  Calls P f args.toArray W fun e r4=>e=.returned (.bool true)∧gi W.heap.size W r4:=by
 obtain⟨v,D,aC,rfl⟩:=aj;have bZ:jf (xH slots) (ua slots).next D.next:=fun id A _=>by
  simp only[xH];rw[PH A];rfl
 refine(aC.2.2 W.heap.size (ua slots).get (xH slots) W args (fun _ _ h=>h) bZ (b1.start Gg ak) ai).mono fun e r4 ⟨v',bd,aK,c6⟩=>?_;have:=c6.val.bool;subst this;exact⟨aK,c6.step⟩
def M5(P:Program)(e c:Nat):Prop:=∀ {H:Type}(enc:TypeId × Value→H) (W:World) (n:Nat) (cells:ar) (x:DataW H × List MemPlace),DataW.trod enc P W 0 (fun _=>true) true n e cells=some x→∃ l:List Int,l.length=c∧cells=l.map (.int .i64)∧∀ z∈l,(Lit.int .i64 z).wf=true
theorem afv{e:TypeId}(aK:P.underlying e=some (.int .i64)):M5 P e 1:=fun enc W n cells x h=>by
 obtain⟨z,rfl,_,bp⟩:=DataW.trod_int aK h;exact⟨[z],rfl,rfl,by simpa using bp⟩
theorem chunks(c:Nat)(cells:ar):∀(n:Nat),(∀ i,i<n→∃ l:List Int,l.length=c∧(cells.drop (i*c)).take c=l.map (.int .i64)∧∀ z∈l,(Lit.int .i64 z).wf=true) →
  ∃ l:List Int,l.length=n*c∧cells.take (n*c)=l.map (.int .i64)∧∀ z∈l,(Lit.int .i64 z).wf=true
 |0,_=>⟨[],by simp,by simp,by simp⟩
 |n+1,h=>by
  obtain⟨l,A,S,ae⟩:=chunks c cells n fun i au=>h i (by omega);obtain⟨m,ck,cm,cb⟩:=h n (by omega);refine⟨l++m,by rw[ap,A,ck,IQ],?_,?_⟩
  ·rw[IQ,List.take_add,S,cm,Ir]
  ·intro z bp;rcases Aa.1 bp with bp|bp
   ·exact ae z bp
   ·exact cb z bp
def IS(i n c:Nat)(isNil:Bool):Value:=if isNil then .slice none 0 0 else .slice (some ⟨i,0,none⟩) n c
theorem IV(b off n:Nat):Addr.add ⟨b,off,none⟩ n=⟨b,off+n,none⟩:=by
 by_cases h:n=0
 ·subst h;simp[Addr.add]
 ·simp[Addr.add,h]
theorem aqe{W:World}{t e:TypeId}{c:Nat}{v:Value}{d:DataW H}{p:List MemPlace}{r:Reach}{r5:Nat}(aC:P.underlying t=some (.slice e))(aj:P.cellsOf e=c)(pZ:0<c)(aK:M5 P e c)(oM:Value.okWide P W r r5 t v)
  (hd:DataW.Trod enc P W 0 (fun _=>true) true t v d p) :
  ∃(n:Nat) (l:List Int) (isNil:Bool) (s:uS),l.length=n*c∧(∀ z∈l,(Lit.int .i64 z).wf=true)∧(n:Int)≤9223372036854775807∧(isNil=true→n=0)∧Nn W s∧(isNil=false→∃ hC,s=some (.aq (l.map (.int .i64)) false,hC)) ∧
   ∀(al:Ren) (i:Nat),al i=s.map (·.2)→bL al (IS i n c isNil) v:=by
 have S4:Cell.ok P W r r5 t v:=by
  simp only[Value.okWide,aC]at oM;cases v<;>simpa[Cell.okWide,aC] using oM
 have oI:v.cells.toList=[v]:=by cases v<;>first|rfl|(simp[Cell.ok,aC]at S4;done)
 obtain⟨jP,hd⟩:=hd;rw[oI]at hd;rcases Deep.open_slice aC hd with⟨h0,_⟩|⟨a,len,cap,m,n,bb,ary,h0,T,Si,asq,hm,_,af⟩
 ·have:v=.slice none 0 0:=by simpa using h0
  subst this;exact⟨0,[],true,none,by simp,by simp,by simp,fun _=>rfl,fun o l h=>by simp at h,fun h=>by simp at h,fun al i _=>bL.same _ rfl⟩
 ·have:v=.slice (some a) len cap:=by simpa using h0
  subst this;simp only[Cell.ok,aC]at S4;obtain⟨_,tZ,_,ZS,apF,cells,hJ,_⟩:=S4;simp only[if_true]at hm;subst hm;unfold World.shape? at hJ;split at hJ<;>first|(cases hJ;done)|skip
  rename_i cs el fz Gi;obtain⟨b,off,atC⟩:=a;simp only at ZS Gi;subst ZS;rw[aj]at af;have k5:∀ j,j<m*c→∃ z,cs[off+j]?=some z:=by
   intro j bn;have au:j / c<m:=(Nat.div_lt_iff_lt_mul pZ).2 bn;obtain⟨cs',A,_⟩:=af (j / c) au;obtain⟨_,ag,A2⟩:=World.cells?_some A;have ajj:j % c<c:=Nat.mod_lt _ pZ;have S:=A2 (j % c) ajj;rw[hi (by omega),IV,IV,cell_of_row W b _ cs el fz Gi]at S;refine⟨cs'[j % c]'(by omega),?_⟩
   ·have az:off+j / c*c+j % c=off+j:=by rw[Nat.add_assoc,Nat.div_add_mod' j c]
    rw[az]at S;exact S
  have iD:m=0∨off+m*c≤cs.size:=by
   rcases Nat.eq_zero_or_pos m with h|h
   ·exact .inl h
   ·right;have A:0<m*c:=Nat.mul_pos h pZ;obtain⟨z,bp⟩:=k5 (m*c-1) (by omega);have:=(Ic.1 bp).1;omega
  have aiR:∀ i,i<len→∃ l:List Int,l.length=c∧((cs.toList.drop off).drop (i*c)).take c=l.map (.int .i64)∧∀ z∈l,(Lit.int .i64 z).wf=true:=by
   intro i au;obtain⟨cs',A,S⟩:=af i (by omega);obtain⟨l,ck,cm,cb⟩:=aK enc W _ _ _ S;refine⟨l,ck,?_,cb⟩;rw[← cm];obtain⟨_,ag,A2⟩:=World.cells?_some A;apply List.ext_getElem?;intro j;by_cases bn:j<c
   ·have ae:=A2 j bn;rw[IV,IV,cell_of_row W b _ cs el fz Gi]at ae;rw[PI bn,Nu,Nu,← ae];simp[Nat.add_assoc]
   ·rw[PH (by simp;omega),PH (by omega)]
  obtain⟨l,ck,cm,cb⟩:=chunks c (cs.toList.drop off) len aiR;refine⟨len,l,false,some (.aq (l.map (.int .i64)) false,⟨b,if m=0 then 0 else off,cs.size⟩),ck,cb,?_,fun h=>(Bool.false_ne_true h).elim,?_,fun _=>⟨_,rfl⟩,fun al i DH=>?_⟩
  ·have:IntKind.i64.max=9223372036854775807:=rfl;omega
  ·intro o hC h;cases h;refine⟨(Ic.1 Gi).1,rfl,fun al=>⟨cs,el,fz,Gi,rfl,?_,fun i v ad=>?_,fun h=>by cases h⟩⟩
   ·simp only[List.length_map,ck];rcases iD with h|h
    ·have:len=0:=by omega
     simp[h,this]
    ·have:len*c≤m*c:=HA _ Si;split<;>omega
   ·have lo:i<len*c:=by
     have:=(j2.1 ad).1;simpa[ck] using this
    have Bc:¬ m=0:=fun e=>by
     have:len=0:=by omega
     rw[this]at lo;omega
    simp only[Bc,if_false];have ajg:∃ z:Int,v=.int .i64 z:=by
     have:=List.mem_of_getElem? ad;obtain⟨z,_,rfl⟩:=Is.1 this;exact⟨z,rfl⟩
    obtain⟨z,rfl⟩:=ajg;rw[← cm,PI lo,Nu]at ad;exact⟨_,by simpa using ad,.same _ rfl,rfl⟩
  ·refine .slice i 0 off len c m _ DH Si ?_;by_cases Bc:m=0
   ·right;omega
   ·left;simp only[Bc,if_false];rcases iD with h|h
    ·exact absurd h Bc
    ·exact⟨by simp,by simpa using h⟩
end Go.Eng
namespace Go.Eng
open Go
variable {P:Program}
def QT[PR:kA](P:Program)(r:List aF)(ts env:ar)(Q:ar→J→Prop):List Nat→aT:=fun bb v h=>lH P r bb (v::ts) env h Q
def Mq(q:Bool)(r:List aF)(ts env:ar)(bb:List Nat)(h:J):Prop:=qs q (1::List.replicate ts.length 0) r bb (undef::ts) env h
def o9[PR:kA](P:Program)(k:K)(q:Bool)(bb:List Nat)(h:J)(post:Prop)(Q:List Nat→aT):ar→Prop:=fun vs=>o4 P k q bb vs h post Q
def Uq[PR:kA](P:Program)(k:K)(args:List Arg)(q:Bool)(bb:List Nat)(ts env:ar)(h:J)(post:Prop)(Q:List Nat→aT):Prop:=cu (kE ts env args) (o9 P k q bb h post Q)
def pT[PR:kA](P:Program)(w:Bool)(k:K)(args:List Arg)(q:Bool)(bb:List Nat)(ts env:ar)(h:J)(post:Prop)(Q:List Nat→aT):Value→Prop
 |.bool b=>(b=w→Uq P k args q bb ts env h post Q)∧(b = !w→Q bb undef h)
 |_=>Q bb undef h
def A3(Q:aT)(h:J):Value→Prop:=fun v=>Q v h
def Ws(Q:aT)(h:J):ar × (Nat→Value)→Prop:=fun r=>Q (r.2 h.next) (h.alloc (.aq r.1 true))
def VG(Q:aT):Value × J→Prop:=fun r=>Q r.1 r.2
def acF(Q:dM→ar→J→Prop)(o:List (Nat × Nat))(e:ar):ar→J→Prop:=fun ts h=>Q .normal (kX ts o e) h
def UI[PR:kA](P:Program)(N:Nat)(vars:List Nat)(Q:dM→ar→J→Prop)(o:List (Nat × Nat))(e:ar)(d:Nat)(a b:bo):ar→J→Prop:=fun ts h=>wD ts[d]? (W P N vars a Q (kX ts o e) h) (W P N vars b Q (kX ts o e) h)
def yq[PR:kA](P:Program)(N:Nat)(vars:List Nat)(a b:bo)(Q:dM→ar→J→Prop)(e:ar)(h:J):Value→Prop
 |.bool c=>(c=true→W P N vars a Q e h)∧(c=false→W P N vars b Q e h)
 |_=>False
section
variable {PR:kA}
theorem VU(bb:List Nat)(ts env:ar)(h:J)(Q:ar→J→Prop):lH P [] bb ts env h Q=Q ts h:=rfl
theorem VV(j:Nat)(k:K)(args:List Arg)(q:Bool)(r:List aF)(bb:List Nat)(ts env:ar)(h:J)(Q:ar→J→Prop) :
  lH P (⟨j,k,args,none,q⟩::r) bb ts env h Q=cu (kE ts env args) (o9 P k q bb h (Mq q r ts env bb h) (QT P r ts env Q)):=rfl
theorem VW(j:Nat)(k:K)(args:List Arg)(d:Nat)(w:Bool)(q:Bool)(r:List aF)(bb:List Nat)(ts env:ar)(h:J)(Q:ar→J→Prop) :
  lH P (⟨j,k,args,some (d,w),q⟩::r) bb ts env h Q=cu ts[d]? (pT P w k args q bb ts env h (Mq q r ts env bb h) (QT P r ts env Q)):=by
 simp only[lH,uR,KO];cases ts[d]? with
 |none=>rfl
 |some v=>cases v<;>rfl
theorem XT(r:List aF)(bb:List Nat)(ts env:ar)(Q:ar→J→Prop)(v:Value)(h:J):QT P r ts env Q bb v h=lH P r bb (v::ts) env h Q:=rfl
section
variable (k:K) (args:List Arg) (q:Bool) (bb:List Nat) (ts env:ar) (h:J) (post:Prop) (Q:List Nat→aT)
theorem YQ:pT P true k args q bb ts env h post Q (.bool true)=cu (kE ts env args) (o9 P k q bb h post Q):=by simp[pT,Uq]
theorem YN:pT P false k args q bb ts env h post Q (.bool false)=cu (kE ts env args) (o9 P k q bb h post Q):=by simp[pT,Uq]
theorem YP:pT P true k args q bb ts env h post Q (.bool false)=Q bb undef h:=by simp[pT]
theorem YO:pT P false k args q bb ts env h post Q (.bool true)=Q bb undef h:=by simp[pT]
theorem YR(w:Bool):pT P w k args q bb ts env h post Q undef=Q bb undef h:=rfl
theorem Wk(k:yc)(vs:ar):o9 P (.p k) q bb h post Q vs=cu (cr k vs) (A3 (Q bb) h):=rfl
theorem Wm(k:IE)(vs:ar):o9 P (.r k) q bb h post Q vs=cu (vV bb vs (aw k vs h.get)) (A3 (Q bb) h):=rfl
theorem Wf(k:Iv)(vs:ar):o9 P (.a k) q bb h post Q vs=cu (o7 k vs) (Ws (Q bb) h):=rfl
theorem Wn(k:CA)(vs:ar):o9 P (.w k) false bb h post Q vs=cu (bh k vs h) (VG (Q bb)):=rfl
theorem Wo(k:CA)(vs:ar):o9 P (.w k) true bb h post Q vs=cu (bh k vs h) (VG (Cc bb h Q)):=rfl
theorem dX(f:FuncId)(vs:ar):o9 P (.call f) false bb h post Q vs=iM P f vs h post (Q bb):=rfl
theorem CB(f:FuncId)(vs:ar):o9 P (.call f) true bb h post Q vs=iM P f vs h post (Cc bb h Q):=rfl
theorem afe(du:Value)(args:ar):o9 P .rr false bb h post Q (du::args)=EN P du args h post (Q bb):=rfl
theorem Wl(t:TypeId)(x:Value):o9 P .tt q bb h post Q [.iface t x]=(PR.V=true∧post∧PR.rm (.iface t x) h):=rfl
end
theorem acn(vs:ar)(o:Option Value):vV [] vs o=o:=by
 unfold vV;split<;>simp
theorem aco(p:Nat)(bb:List Nat)(a:Addr)(r:ar)(o:Option Value):vV (p::bb) (.pointer (some a)::r) o=if a.block==p then none else vV bb (.pointer (some a)::r) o:=by
 simp only[vV,Nz,List.contains_cons];by_cases h:a.block==p<;>simp[h]
theorem lg{bb:List Nat}{h D:J}{Q:List Nat→aT}{v:Value}(aK:h.ext D)(L:Q bb v D):Cc bb h Q v D:=⟨bb,fun _ h=>h,fun id o _ aA=>aK id o aA,L⟩
theorem Zd(Q:aT)(h:J)(v:Value):A3 Q h v=Q v h:=rfl
theorem Wt(Q:aT)(h:J)(l:ar)(m:Nat→Value):Ws Q h (l,m)=Q (m h.next) (h.alloc (.aq l true)):=rfl
theorem aeF(Q:aT)(v:Value)(h:J):VG Q (v,h)=Q v h:=rfl
theorem acG(Q:dM→ar→J→Prop)(o:List (Nat × Nat))(e ts:ar)(h:J):acF Q o e ts h=Q .normal (kX ts o e) h:=rfl
section
variable {N:Nat}{vars:List Nat}{Q:dM→ar→J→Prop}{e:ar}{h:J}
theorem ack(o:List (Nat × Nat))(d:Nat)(a b:bo)(ts:ar):UI P N vars Q o e d a b ts h=cu ts[d]? (yq P N vars a b Q (kX ts o e) h):=by
 simp only[UI,wD];cases ts[d]? with
 |none=>rfl
 |some v=>cases v<;>rfl
theorem XK(a b:bo):yq P N vars a b Q e h (.bool true)=W P N vars a Q e h:=by simp[yq]
theorem XJ(a b:bo):yq P N vars a b Q e h (.bool false)=W P N vars b Q e h:=by simp[yq]
theorem Wa:W P N vars .skip Q e h=Q .normal e h:=rfl
theorem V6(s:List aF)(o:List (Nat × Nat)):W P N vars (.aW s o) Q e h=lH P s [] [] e h (acF Q o e):=rfl
theorem V9(a b:bo):W P N vars (.seq a b) Q e h=W P N vars a (rh (W P N vars b Q) Q) e h:=rfl
theorem V5(s:List aF)(o:List (Nat × Nat))(d:Nat)(a b:bo):W P N vars (.hK s o d a b) Q e h=lH P s [] [] e h (UI P N vars Q o e d a b):=rfl
theorem V2(x:Arg)(a b:bo):W P N vars (.cond x a b) Q e h=cu (x.ev [] e) (yq P N vars a b Q e h):=by
 simp only[W,wD];cases x.ev [] e with
 |none=>rfl
 |some v=>cases v<;>rfl
theorem V1(id:Nat)(c:bo):W P N vars (.block id c) Q e h=W P N vars c (sW id Q) e h:=rfl
theorem V4(c:bo):W P N vars (.loop c) Q e h=ch P N vars c e h Q:=rfl
theorem V8(c:bo):W P N vars (.scope c) Q e h=W P N vars c Q e h:=rfl
theorem af9:W P N vars .label Q e h=Q .normal e h:=rfl
theorem V3(id:Nat):W P N vars (.exit id) Q e h=Q (.exit id) e h:=rfl
theorem V7:W P N vars .ret Q e h=Q .ret e h:=rfl
theorem ae1(next:ar→J→Prop):rh next Q .normal e h=next e h:=rfl
theorem ae0(next:ar→J→Prop)(i:Nat):rh next Q (.exit i) e h=Q (.exit i) e h:=rfl
theorem ae2(next:ar→J→Prop):rh next Q .ret e h=Q .ret e h:=rfl
theorem WR(id:Nat):sW id Q .normal e h=Q .normal e h:=rfl
theorem WS(id:Nat):sW id Q .ret e h=Q .ret e h:=rfl
theorem WQ(id:Nat):sW id Q (.exit id) e h=Q .normal e h:=by simp[sW]
theorem WO(id i:Nat)(au:(i==id)=false):sW id Q (.exit i) e h=Q (.exit i) e h:=by
 have:i≠id:=by simpa using au
 simp[sW,this]
end
end
section
variable (bb:List Nat) (h:J) (post:Prop) (Q:List Nat→aT)
theorem Wg(f:FuncId)(vs:ar):o9 (PR:=vL) P (.call f) false bb h post Q vs=bj P f vs h (Q bb):=QG _ _ _ _ _
theorem Wh(f:FuncId)(vs:ar):o9 (PR:=vL) P (.call f) true bb h post Q vs=bj P f vs h (Cc bb h Q):=QG _ _ _ _ _
theorem Wi(du:Value)(args:ar):o9 (PR:=vL) P .rr false bb h post Q (du::args)=oC P du args h (Q bb):=Vz _ _ _ _ _
theorem Wj(du:Value)(args:ar):o9 (PR:=vL) P .rr true bb h post Q (du::args)=oC P du args h (Cc bb h Q):=Vz _ _ _ _ _
end
end Go.Eng
namespace Go.Eng
open Go
variable {P:Program}
def xI(k:Nat)(Q:aT):dM→ar→J→Prop
 |.exit _,_,_=>False
 |.normal,e,h=>cu e[k]? fun v=>Q v h
 |.ret,e,h=>cu e[k]? fun v=>Q v h
theorem acQ(k:Nat)(Q:aT)(e:ar)(h:J):xI k Q .ret e h=cu e[k]? (A3 Q h):=rfl
theorem acP(k:Nat)(Q:aT)(e:ar)(h:J):xI k Q .normal e h=cu e[k]? (A3 Q h):=rfl
def Mx(Q:aT):dM→ar→J→Prop
 |.exit _,_,_=>False
 |.normal,_,h=>Q (.tuple #[]) h
 |.ret,_,h=>Q (.tuple #[]) h
theorem acO(Q:aT)(e:ar)(h:J):Mx Q .ret e h=Q (.tuple #[]) h:=rfl
theorem acN(Q:aT)(e:ar)(h:J):Mx Q .normal e h=Q (.tuple #[]) h:=rfl
def My(k j:Nat)(Q:aT):dM→ar→J→Prop
 |.exit _,_,_=>False
 |.normal,e,h=>cu e[k]? fun v=>cu e[j]? fun u=>Q (.tuple #[v,u]) h
 |.ret,e,h=>cu e[k]? fun v=>cu e[j]? fun u=>Q (.tuple #[v,u]) h
theorem W.mono{N:Nat}{vars:List Nat}{c:bo}{e:ar}{h:J}{Q gA:dM→ar→J→Prop}(L:∀ x e h,Q x e h→gA x e h)(ax:Cp P N vars c e h Q):Cp P N vars c e h gA :=
 let ⟨x,cA,D,t,q⟩:=ax;⟨x,cA,D,t,L _ _ _ q⟩
theorem Av{f:FuncId}{bm:bB}(aZ:bK P f bm){args:ar}{h:J}{Q:aT}(hn:args.length=bm.iH)(T:∀ N,Cp P N bm.vars bm.body (kn bm args) h (Cy bm h.next Q)):bj P f args h Q:=by
 have od:=aZ;obtain⟨fn,code,A,S,ae⟩:=aZ.fn;obtain⟨x,cA,D,aC,L⟩:=T fn.ntmps;have Fo:(x=.normal∨x=.ret)→cu (hF cA (fin bm.body.cX h.next D) bm.results) (fun vs=>Q (packed vs) (fin bm.body.cX h.next D))→bj P f args h Q:=by
  intro af hr;cases kq:hF cA (fin bm.body.cX h.next D) bm.results with
  |none=>rw[kq]at hr;exact hr.elim
  |some vs =>
   rw[kq]at hr;exact⟨packed vs,_,my.abF od hn A ⟨x,cA,vs,D,aC,af,rfl,kq,rfl⟩,hr⟩
 cases x with
 |normal=>exact Fo (.inl rfl) L
 |ret=>exact Fo (.inr rfl) L
 |exit i=>exact L.elim
theorem c7{f:FuncId}{bm:bB}(aZ:bK P f bm){args:ar}{h:J}{Q:aT}{k:Nat}(iW:bm.body.cX=true)(hr:bm.results=[.var k])(hn:args.length=bm.iH)
  (T:∀ N,W P N bm.vars bm.body (xI k Q) (kn bm args) h):bj P f args h Q:=by
 refine Av aZ hn fun N=>W.mono ?_ (T N).sound;intro x e D L;have key:cu e[k]? (fun v=>Q v D)→cu (hF e (fin bm.body.cX h.next D) bm.results) fun vs=>Q (packed vs) (fin bm.body.cX h.next D):=by
  intro L;rw[iW,hr];cases aK:e[k]? with
  |none=>rw[aK]at L;exact L.elim
  |some v=>rw[aK]at L;simpa[hF,l7.get,aK,cu,packed,fin] using L
 cases x with
 |exit i=>exact L.elim
 |normal=>exact key L
 |ret=>exact key L
theorem CE{f:FuncId}{bm:bB}(aZ:bK P f bm){args:ar}{h:J}{Q:aT}(iW:bm.body.cX=true)(hr:bm.results=[])(hn:args.length=bm.iH)
  (T:∀ N,W P N bm.vars bm.body (Mx Q) (kn bm args) h):bj P f args h Q:=by
 refine Av aZ hn fun N=>W.mono ?_ (T N).sound;intro x e D L;cases x with
 |exit i=>exact L.elim
 |normal=>simp only[Cy,iW,hr,hF,cu,packed,fin];exact L
 |ret=>simp only[Cy,iW,hr,hF,cu,packed,fin];exact L
end Go.Eng
namespace Go.Eng
open Go
variable {P:Program}
structure J.le(h D:J):Prop where
 sub:h.sub D
 next:h.next≤D.next
theorem J.le.refl(h:J):h.le h:=⟨fun _ _ h=>h,br _⟩
theorem J.le.trans{a b c:J}(h:a.le b)(D:b.le c):a.le c:=⟨fun id o e=>D.sub id o (h.sub id o e),rI h.next D.next⟩
theorem J.le.alloc{a b:J}(h:a.le b)(o:bQ):a.le (b.alloc o):=h.trans ⟨fun id gl e=>by rw[J.oH (J.bY e)];exact e,by simp⟩
theorem J.le.set{a b:J}(h:a.le b){i:Nat}(au:a.next≤i)(o:bQ):a.le (b.set i o):=⟨fun id gl e=>by
 have:=J.bY e;rw[J.qG,if_neg (by omega)];exact h.sub id gl e,h.next⟩
theorem J.le.get{a b:J}(h:a.le b){i:Nat}{o:bQ}(e:a.get i=some o):b.get i=some o:=h.sub i o e
theorem J.le.pf{a b:J}(h:a.le b)(i:Nat)(ak:(a.get i).isSome=true):b.get i=a.get i:=by
 obtain⟨o,ah⟩:=r1.1 ak;rw[ah];exact h.sub _ _ ah
theorem J.sV(h:J)(o:bQ)(i:Nat)(ak:(h.get i).isSome=true):(h.alloc o).get i=h.get i:=by
 obtain⟨gl,ah⟩:=r1.1 ak;exact J.oH (J.bY ah)
theorem J.dT(h:J)(o:bQ)(i j:Nat)(ak:(j==i)=false):(h.set i o).get j=h.get j:=by
 rw[J.qG,if_neg];intro e;simp[e.1]at ak
theorem J.gz(h:J)(o:bQ)(i:Nat)(ak:(h.get i).isSome=true):(h.set i o).get i=some o:=by
 obtain⟨gl,ah⟩:=r1.1 ak;rw[J.qG,if_pos ⟨rfl,J.bY ah⟩]
structure J.b2(i:Nat)(h D:J):Prop where
 get:∀ j,j≠i→(h.get j).isSome=true→D.get j=h.get j
 next:h.next≤D.next
theorem J.le.eA{h D:J}(ag:h.le D)(i:Nat):h.b2 i D:=⟨fun j _ ak=>ag.pf j ak,ag.next⟩
theorem J.b2.refl(i:Nat)(h:J):h.b2 i h:=⟨fun _ _ _=>rfl,br _⟩
theorem J.b2.trans{i:Nat}{a b c:J}(h:a.b2 i b)(D:b.b2 i c):a.b2 i c :=
 ⟨fun j bn ak=>by rw[D.get j bn (by rw[h.get j bn ak];exact ak),h.get j bn ak],rI h.next D.next⟩
theorem J.b2.set(i:Nat)(h:J)(o:bQ):h.b2 i (h.set i o):=⟨fun j bn _=>J.dT _ _ _ _ (by simpa using bn),br _⟩
theorem J.b2.le{i:Nat}{a b c:J}(ag:a.le b)(au:a.next≤i)(T:b.b2 i c):a.le c :=
 ⟨fun id o e=>by
  have A:=ag.get e;have S:=J.bY e;rw[T.get id (by omega) (by rw[A];rfl)];exact A,rI ag.next T.next⟩
def x2(h:J)(id off s:Nat)(xs:List (ar)):Prop :=
 ∃ cells own,h.get id=some (.aq cells own)∧∀(i:Nat) x,xs[i]?=some x→x.length=s∧off+i*s+s≤cells.length∧(cells.drop (off+i*s)).take s=x
def cT(h:J)(s:Nat)(v:Value)(xs:List (ar)):Prop :=
 (v=.slice none 0 0∧xs=[])∨∃ id off,v=.slice (some ⟨id,off,none⟩) xs.length s∧(xs=[]∨x2 h id off s xs)
theorem x2.mono{h D:J}(ag:h.le D){id off s:Nat}{xs:List (ar)}(ai:x2 h id off s xs):x2 D id off s xs :=
 let ⟨c,o,aA,af⟩:=ai;⟨c,o,ag.get aA,af⟩
theorem cT.mono{h D:J}(ag:h.le D){s:Nat}{v:Value}{xs:List (ar)}(ai:cT h s v xs):cT D s v xs:=by
 rcases ai with ai|⟨id,off,ad,ai⟩
 ·exact .inl ai
 ·exact .inr ⟨id,off,ad,ai.imp (fun e=>e) (·.mono ag)⟩
theorem cT.len{h:J}{s:Nat}{v:Value}{xs:List (ar)}(ai:cT h s v xs):pD [v]=some (.int .i64 xs.length):=by
 rcases ai with⟨rfl,rfl⟩|⟨id,off,rfl,_⟩<;>rfl
theorem cT.elem{h:J}{s:Nat}{v:Value}{xs:List (ar)}(ai:cT h s v xs){i:Nat}{x:ar}(au:xs[i]?=some x) :
  ∃ id off cells own,oU s [v,.int .i64 i]=some (.pointer (some ⟨id,off,none⟩))∧h.get id=some (.aq cells own)∧gI true off s cells=some (.agg x.toArray)∧∀ j,j<s→cells[off+j]?=x[j]?:=by
 have aV:=(j2.1 au).1;rcases ai with⟨rfl,rfl⟩|⟨id,off,rfl,ai⟩
 ·simp at au
 ·rcases ai with rfl|⟨cells,own,aA,af⟩
  ·simp at au
  ·obtain⟨A,S,ae⟩:=af i x au;refine⟨id,off+i*s,cells,own,?_,aA,?_,fun j bn=>?_⟩
   ·simp[oU,aV]
   ·simp[gI,S,ae]
   ·rw[← ae,PI bn,Nu]
theorem cT.part{h:J}{s:Nat}{v:Value}{xs:List (ar)}(ai:cT h s v xs){a b:Nat}(y0:a≤b)(T:b≤xs.length) :
  ∃ w,rR s true true [v,.int .i64 a,.int .i64 b]=some w∧cT h s w ((xs.take b).drop a):=by
 rcases ai with⟨rfl,rfl⟩|⟨id,off,rfl,ai⟩
 ·simp only[qz,Nat.le_zero_eq]at T;subst T;have:a=0:=by omega
  subst this;exact⟨_,by simp[rR,oD],.inl ⟨rfl,by simp⟩⟩
 ·refine⟨.slice (some ⟨id,off+a*s,none⟩) (b-a) s,?_,.inr ⟨id,off+a*s,?_,?_⟩⟩
  ·simp only[rR,if_true,oD];rw[if_pos (by omega)];simp
  ·simp[Nat.min_eq_left T]
  ·rcases ai with rfl|⟨cells,own,aA,af⟩
   ·left;simp
   ·right;refine⟨cells,own,aA,fun i x au=>?_⟩;rw[Nu,List.getElem?_take]at au;split at au
    ·obtain⟨A,S,ae⟩:=af _ _ au;rw[Nat.add_mul,← Nat.add_assoc]at S ae;exact⟨A,S,ae⟩
    ·cases au
theorem cT.ac3{h:J}{s:Nat}{v:Value}{xs:List (ar)}(ai:cT h s v xs){b:Nat}(T:b≤xs.length) :
  ∃ w,rR s false true [v,.int .i64 b]=some w∧cT h s w (xs.take b):=by
 obtain⟨w,A,S⟩:=ai.part (lj b) T;refine⟨w,?_,by simpa using S⟩;rw[← A];rcases ai with⟨rfl,rfl⟩|⟨id,off,rfl,ai⟩<;>simp[rR,oD]
def cL(h0 h:J)(s:Nat)(v:Value)(xs:List (ar)):Prop :=
 (v=.slice none 0 0∧xs=[])∨∃ id,v=.slice (some ⟨id,0,none⟩) xs.length s∧h0.next≤id∧h.get id=some (.aq xs.flatten true)∧(∀ x∈xs,x.length=s)
theorem cL.mono{h0 h D:J}(ag:h.le D){s:Nat}{v:Value}{xs:List (ar)}(ai:cL h0 h s v xs):cL h0 D s v xs:=by
 rcases ai with ai|⟨id,ad,au,aA,af⟩
 ·exact .inl ai
 ·exact .inr ⟨id,ad,au,ag.get aA,af⟩
theorem cL.wc{h0 A h:J}(ag:h0.next≤A.next){s:Nat}{v:Value}{xs:List (ar)}(ai:cL A h s v xs):cL h0 h s v xs:=by
 rcases ai with ai|⟨id,ad,au,aA,af⟩
 ·exact .inl ai
 ·exact .inr ⟨id,ad,rI ag au,aA,af⟩
theorem cL.nil(h0 h:J)(s:Nat):cL h0 h s (.slice none 0 0) []:=.inl ⟨rfl,rfl⟩
theorem CX{s:Nat}:∀ {xs:List (ar)},(∀ x∈xs,x.length=s)→∀(i:Nat) x,xs[i]?=some x→i*s+s≤xs.flatten.length∧(xs.flatten.drop (i*s)).take s=x
 |[],_,i,x,h=>by simp at h
 |y::c4,af,0,x,h=>by
  simp only[PG,Option.some.injEq]at h;subst h;have:=af y (by simp);subst this;simp
 |y::c4,af,i+1,x,h=>by
  simp only[List.getElem?_cons_succ]at h;obtain⟨A,S⟩:=CX (fun x gG=>af x (by simp[gG])) i x h;have:=af y (by simp);subst this;refine⟨by rw[z8,ap,IQ];omega,?_⟩;have e:(i+1)*y.length=y.length+i*y.length:=by rw[IQ,Nat.add_comm]
  rw[z8,e,List.drop_append,Pg (by omega)];simpa using S
theorem KC{s:Nat}:∀ {xs:List (ar)},(∀ x∈xs,x.length=s)→xs.flatten.length=xs.length*s
 |[],_=>by simp
 |y::c4,af=>by
  rw[z8,ap,KC (fun x gG=>af x (by simp[gG])),af y (by simp),hR,IQ,Nat.add_comm]
theorem cL.vW{h0 h:J}{s:Nat}{v:Value}{xs:List (ar)}(ai:cL h0 h s v xs):cT h s v xs:=by
 rcases ai with ai|⟨id,ad,au,aA,af⟩
 ·exact .inl ai
 ·refine .inr ⟨id,0,ad,.inr ⟨_,_,aA,fun i x h=>?_⟩⟩;obtain⟨A,S⟩:=CX af i x h;exact⟨af x (List.mem_of_getElem? h),by omega,by simpa using S⟩
def da(v:Value)(i:Nat):Prop:=∀ n s,v≠.slice (some ⟨i,0,none⟩) n s
theorem cL.yh{h0 h:J}{s:Nat}{v:Value}{xs:List (ar)}(ai:cL h0 h s v xs)(bX:h0.le h){x:ar}(af:x.length=s)(ak:0<s){b:Nat}(T:(xs.length+1)*b≤140737488355328)(dx:xs.length+1≤9223372036854775807) :
  ∃ v' D,o1 s b (h.alloc (.aq x true)) [v,.slice (some ⟨h.next,0,none⟩) 1 s]=some (v',D)∧cL h0 D s v' (xs++[x])∧h0.le D∧(∀ i,(h.get i).isSome=true→da v i→D.get i=h.get i)∧(∀ i,(h.get i).isSome=true→da v' i)∧h.next≤D.next:=by
 have lv:rZ s (h.alloc (.aq x true)) (.slice (some ⟨h.next,0,none⟩) 1 s)=some x:=by
  subst af;simp[rZ]
 have ta:x.length / s=1:=by rw[af];exact Nat.div_self ak
 rcases ai with⟨rfl,rfl⟩|⟨id,rfl,au,aA,gG⟩
 ·have R8:((h.alloc (.aq x true)).alloc (.aq x true)).get (h.next+1)=some (.aq x true):=J.hy (h.alloc (.aq x true)) _;refine⟨.slice (some ⟨h.next+1,0,none⟩) 1 s,(h.alloc (.aq x true)).alloc (.aq x true),?_,.inr ⟨h.next+1,by simp,?_,by simpa using R8,by simpa using af⟩,(bX.alloc _).alloc _,?_,?_,?_⟩
  ·unfold o1;simp only[lv,ta];rw[if_neg (by omega),if_pos (by simp at T;omega)];rfl
  ·have:=bX.next;omega
  ·intro i au _;rw[J.sV,J.sV _ _ _ au];rw[J.sV _ _ _ au];exact au
  ·intro i au n s e;cases e;obtain⟨o,ah⟩:=r1.1 au;have:=J.bY ah;omega
  ·simp;omega
 ·have aV:=J.bY aA;have aR:=KC gG;have k5:(h.alloc (.aq x true)).get id=some (.aq xs.flatten true):=by rw[J.oH aV];exact aA
  have kK:(xs++[x]).flatten=xs.flatten++x:=by simp
  have R8:(((h.alloc (.aq x true)).set id .dead).alloc (.aq (xs.flatten++x) true)).get (h.next+1)=some (.aq (xs.flatten++x) true):=J.hy ((h.alloc (.aq x true)).set id .dead) _;refine⟨.slice (some ⟨h.next+1,0,none⟩) (xs.length+1) s,((h.alloc (.aq x true)).set id .dead).alloc (.aq (xs.flatten++x) true),?_,.inr ⟨h.next+1,by simp,?_,by rw[kK];exact R8,?_⟩,((bX.alloc _).set au _).alloc _,?_,?_,?_⟩
  ·unfold o1;simp only[lv,ta,k5];rw[if_neg (by omega),if_pos ⟨trivial,aR,T,dx⟩];rfl
  ·have:=bX.next;omega
  ·intro y bw;rcases Aa.1 bw with bw|bw
   ·exact gG y bw
   ·simp only[Iw]at bw;rw[bw,af]
  ·intro i au b8;have cH:i≠id:=fun e=>by subst e;exact b8 _ _ rfl
   have A:((h.alloc (.aq x true)).set id .dead).get i=h.get i:=by
    rw[J.dT _ _ _ _ (by simpa using cH),J.sV _ _ _ au]
   rw[J.sV _ _ _ (by rw[A];exact au),A]
  ·intro i au n s e;cases e;obtain⟨o,ah⟩:=r1.1 au;have:=J.bY ah;omega
  ·simp;omega
theorem ac5(off s:Nat)(cs:ar):gI false off s cs=cs[off]?:=rfl
structure Hid(p:Prop):Prop where
 h:p
theorem U{p:Prop}(h:p):Hid p:=⟨h⟩
theorem J.adp(h:J)(a b:bQ):(h.alloc a).set h.next b=h.alloc b:=by
 simp only[J.alloc,J.set]
 congr 1
 funext id
 by_cases e:id=h.next
 ·simp[e]
 ·simp[e]
theorem kk{h:J}{size:Nat}{zs cs:ar}{v:Value}(ad:v.cells.toList=cs)(aj:cs.length=size)(bp:zs.length=size)(A:cs.all (·.oneCell')=true) :
  cz size (h.alloc (.aq zs true)) [.pointer (some ⟨h.next,0,none⟩),v]=some (undef,h.alloc (.aq cs true)):=by
 subst ad;have hd:zs.drop size=[]:=Pg (by omega);simp only[cz,J.hy];rw[if_pos ⟨aj,by omega,A⟩];simp only[List.take_zero,NE,zS,hd,zR,J.adp]
theorem iU{h:J}{id off:Nat}{cells:ar}{v:Value}(aA:h.get id=some (.aq cells true))(ah:off<cells.length)(ad:v.cells.toList=[v])(A:v.oneCell'=true) :
  cz 1 h [.pointer (some ⟨id,off,none⟩),v]=some (undef,h.set id (.aq (cells.set off v) true)):=by
 simp only[cz,aA,ad];rw[if_pos ⟨rfl,by omega,by simp[A]⟩,List.set_eq_take_append_cons_drop,if_pos ah];simp
theorem VC{h:J}{id off:Nat}{cells:ar}{k:IntKind}{z:Int}(aA:h.get id=some (.aq cells true))(ah:off<cells.length) :
  cz 1 h [.pointer (some ⟨id,off,none⟩),.int k z]=some (undef,h.set id (.aq (cells.set off (.int k z)) true)):=iU aA ah rfl rfl
theorem ael{h:J}{id off:Nat}{cells:ar}{z:Bool}(aA:h.get id=some (.aq cells true))(ah:off<cells.length) :
  cz 1 h [.pointer (some ⟨id,off,none⟩),.bool z]=some (undef,h.set id (.aq (cells.set off (.bool z)) true)):=iU aA ah rfl rfl
theorem uT{s:Nat}{zs cs:ar}{v:Value}(ad:v.cells.toList=cs)(aj:cs.length=s)(bp:zs.length=s)(A:cs.all (·.oneCell')=true) :
  ie zs [(0,s)] 1 s [v]=some (cs,fun id=>.slice (some ⟨id,0,none⟩) 1 s):=by
 subst ad;have hd:zs.drop s=[]:=Pg (by omega);simp only[ie,hR,qz,if_true,List.zip_cons_cons,List.zip_nil_right,pe];rw[if_pos ⟨aj,by omega,A⟩];simp[hd]
section
variable {PR:kA}
variable {N:Nat}{vars:List Nat}{Q:dM→ar→J→Prop}{e:ar}{h:J}
theorem aap{a b:bo}{p:Prop}[Decidable p](aC:p→W P N vars a Q e h)(aZ:¬ p→W P N vars b Q e h):yq P N vars a b Q e h (.bool (decide p)):=⟨fun h=>aC (of_decide_eq_true h),fun h=>aZ (of_decide_eq_false h)⟩
theorem aaq{a b:bo}{c:Bool}(aC:c=true→W P N vars a Q e h)(aZ:c=false→W P N vars b Q e h):yq P N vars a b Q e h (.bool c):=⟨aC,aZ⟩
end
section
variable {PR:kA}
theorem aaw{w:Bool}{k:K}{args:List Arg}{q:Bool}{bb:List Nat}{ts env:ar}{h:J}{post:Prop}{Q:List Nat→aT}{p:Prop}[Decidable p](A:p→pT P w k args q bb ts env h post Q (.bool true))(S:¬ p→pT P w k args q bb ts env h post Q (.bool false)):pT P w k args q bb ts env h post Q (.bool (decide p)):=by
 by_cases hp:p
 ·simpa[hp] using A hp
 ·simpa[hp] using S hp
theorem aax{w:Bool}{k:K}{args:List Arg}{q:Bool}{bb:List Nat}{ts env:ar}{h:J}{post:Prop}{Q:List Nat→aT}{c:Bool}(A:c=true→pT P w k args q bb ts env h post Q (.bool true))(S:c=false→pT P w k args q bb ts env h post Q (.bool false)):pT P w k args q bb ts env h post Q (.bool c):=by
 cases c
 ·exact S rfl
 ·exact A rfl
theorem ch.CG{N:Nat}{vars:List Nat}{c:bo}{Q:dM→ar→J→Prop}(hp:c.cX=true)(nz:Nat→ar→J→Prop)
  (T:∀ m e h R,nz m e h→Hid (∀ m' e h,m'<m→nz m' e h→R e h)→W P N vars c (rh R Q) e h):∀ {m:Nat}{e:ar}{h:J},nz m e h→ch P N vars c e h Q:=by
 intro m;induction m using Nat.strongRecOn with
 |ind m ih =>
  intro e h au;exact ch.US _ (W.mU (T m e h (fun e h=>∃ m',m'<m∧nz m' e h) au ⟨fun m' e h A S=>⟨m',A,S⟩⟩) hp) fun az A ⟨m',hm,rB⟩=>ih m' hm rB
theorem ch.ar6{N:Nat}{vars:List Nat}{c:bo}{Q:dM→ar→J→Prop}(hp:c.cX=true)(n:Nat)(nz:Nat→ar→J→Prop)
  (T:∀ i e h R,i≤n→nz i e h→Hid (∀ e h,i<n→nz (i+1) e h→R e h)→W P N vars c (rh R Q) e h){i:Nat}{e:ar}{h:J}(au:i≤n) (h0:nz i e h):ch P N vars c e h Q:=by
 refine ch.CG hp (fun m e h=>∃ i,m=n-i∧i≤n∧nz i e h) (fun m e h R ⟨i,hm,au,A⟩ aN=>T i e h R au A ⟨fun e h aV S=>aN.h (n-(i+1)) e h (by omega) ⟨i+1,rfl,by omega,S⟩⟩) ⟨i,rfl,au,h0⟩
end
theorem ch.apE{N:Nat}{vars:List Nat}{c:bo}{e:ar}{h:J}{Q:dM→ar→J→Prop}(R:ar→J→Prop)(ax:Cp P N vars c e h (rh R Q))(aN:∀ az A,R az A→ch P N vars c az A Q):ch P N vars c e h Q:=by
 exact ch.US R (.inl ax) aN
theorem ch.UR{N:Nat}{vars:List Nat}{c:bo}{e:ar}{h:J}{Q:dM→ar→J→Prop}(R:ar→J→Prop)(ax:W P N vars c (rh R Q) e h)(aN:∀ az A,R az A→ch P N vars c az A Q):ch P N vars c e h Q :=
 ch.apE R (W.sound ax) aN
theorem ch.down{N:Nat}{vars:List Nat}{c:bo}{Q:dM→ar→J→Prop}(nz:Nat→ar→J→Prop)
  (T:∀ m e h R,nz m e h→Hid (∀ m' e h,m'<m→nz m' e h→R e h)→W P N vars c (rh R Q) e h):∀ {m:Nat}{e:ar}{h:J},nz m e h→ch P N vars c e h Q:=by
 intro m;induction m using Nat.strongRecOn with
 |ind m ih =>
  intro e h au;exact ch.UR _ (T m e h (fun e h=>∃ m',m'<m∧nz m' e h) au ⟨fun m' e h A S=>⟨m',A,S⟩⟩) fun az A ⟨m',hm,rB⟩=>ih m' hm rB
theorem ch.upto{N:Nat}{vars:List Nat}{c:bo}{Q:dM→ar→J→Prop}(n:Nat)(nz:Nat→ar→J→Prop)
  (T:∀ i e h R,i≤n→nz i e h→Hid (∀ e h,i<n→nz (i+1) e h→R e h)→W P N vars c (rh R Q) e h){i:Nat}{e:ar}{h:J}(au:i≤n) (h0:nz i e h):ch P N vars c e h Q:=by
 suffices ∀(k i:Nat),n-i=k→i≤n→∀ e h,nz i e h→ch P N vars c e h Q from this _ i rfl au e h h0
 have pY:=fun i e h A S=>T i e h (fun e h=>i<n∧nz (i+1) e h) A S ⟨fun e h ae aB=>⟨ae,aB⟩⟩;intro k;induction k with
 |zero =>
  intro i ab au e h h0;exact ch.UR _ (pY i e h au h0) fun az A ⟨aV,_⟩=>by omega
 |succ k ih =>
  intro i ab au e h h0;exact ch.UR _ (pY i e h au h0) fun az A ⟨aV,S⟩=>ih (i+1) (by omega) (by omega) az A S
end Go.Eng
namespace Go.Eng
open Go
variable {P:Program}
def uN(Q:aT)(h:J)(o:Option Value):Value→Prop:=fun v=>cu o fun u=>Q (.tuple #[v,u]) h
theorem acR(k j:Nat)(Q:aT)(e:ar)(h:J):My k j Q .ret e h=cu e[k]? (uN Q h e[j]?):=rfl
theorem adZ(Q:aT)(h:J)(v u:Value):uN Q h (some u) v=Q (.tuple #[v,u]) h:=rfl
theorem qw{f:FuncId}{bm:bB}(aZ:bK P f bm){args:ar}{h:J}{Q:aT}{k j:Nat}(iW:bm.body.cX=true)(hr:bm.results=[.var k,.var j])(hn:args.length=bm.iH)
  (T:∀ N,W P N bm.vars bm.body (My k j Q) (kn bm args) h):bj P f args h Q:=by
 refine Av aZ hn fun N=>W.mono ?_ (T N).sound;intro x e D L;have key:cu e[k]? (fun v=>cu e[j]? fun u=>Q (.tuple #[v,u]) D)→cu (hF e (fin bm.body.cX h.next D) bm.results) fun vs=>Q (packed vs) (fin bm.body.cX h.next D):=by
  intro L;rw[iW,hr];cases aK:e[k]? with
  |none=>rw[aK]at L;exact L.elim
  |some v =>
   cases hu:e[j]? with
   |none=>rw[aK,hu]at L;exact L.elim
   |some u=>rw[aK,hu]at L;simpa[hF,l7.get,aK,hu,cu,packed,fin] using L
 cases x with
 |exit i=>exact L.elim
 |normal=>exact key L
 |ret=>exact key L
def acW(k:Nat)(agg:Bool)(size j:Nat)(Q:aT):dM→ar→J→Prop
 |.exit _,_,_=>False
 |.normal,e,h=>cu e[k]? fun p=>cu (aw (.load agg size) [p] h.get) (uN Q h e[j]?)
 |.ret,e,h=>cu e[k]? fun p=>cu (aw (.load agg size) [p] h.get) (uN Q h e[j]?)
def acX(agg:Bool)(size:Nat)(Q:aT)(h:J)(o:Option Value):Value→Prop:=fun p=>cu (aw (.load agg size) [p] h.get) (uN Q h o)
theorem acZ(k:Nat)(agg:Bool)(size j:Nat)(Q:aT)(e:ar)(h:J):acW k agg size j Q .ret e h=cu e[k]? (acX agg size Q h e[j]?):=rfl
theorem acY(agg:Bool)(size:Nat)(Q:aT)(h:J)(o:Option Value)(p:Value):acX agg size Q h o p=cu (aw (.load agg size) [p] h.get) (uN Q h o):=rfl
theorem QJ{f:FuncId}{bm:bB}(aZ:bK P f bm){args:ar}{h:J}{Q:aT}{k j size:Nat}{agg:Bool}(iW:bm.body.cX=true)(hr:bm.results=[.cell k agg size,.var j])(hn:args.length=bm.iH)
  (T:∀ N,W P N bm.vars bm.body (acW k agg size j Q) (kn bm args) h):bj P f args h Q:=by
 refine Av aZ hn fun N=>W.mono ?_ (T N).sound;intro x e D L;have key:cu e[k]? (fun p=>cu (aw (.load agg size) [p] D.get) (uN Q D e[j]?))→cu (hF e (fin bm.body.cX h.next D) bm.results) fun vs=>Q (packed vs) (fin bm.body.cX h.next D):=by
  intro L;rw[iW,hr];cases aK:e[k]? with
  |none=>rw[aK]at L;exact L.elim
  |some v =>
   rw[aK]at L;simp only[cu]at L;cases ad:aw (.load agg size) [v] D.get with
   |none=>rw[ad]at L;exact L.elim
   |some w =>
    rw[ad]at L;simp only[uN]at L;cases hu:e[j]? with
    |none=>rw[hu]at L;exact L.elim
    |some u=>rw[hu]at L;simpa[hF,l7.get,aK,hu,ad,cu,packed,fin] using L
 cases x with
 |exit i=>exact L.elim
 |normal=>exact key L
 |ret=>exact key L
theorem nZ{h:J}{id size:Nat}{zs cs:ar}{v:Value}(aA:h.get id=some (.aq zs true))(ad:v.cells.toList=cs)(aj:cs.length=size)(bp:zs.length=size)(A:cs.all (·.oneCell')=true) :
  cz size h [.pointer (some ⟨id,0,none⟩),v]=some (undef,h.set id (.aq cs true)):=by
 subst ad;have hd:zs.drop size=[]:=Pg (by omega);simp only[cz,aA];rw[if_pos ⟨aj,by omega,A⟩];simp only[List.take_zero,NE,zS,hd,zR]
theorem cT.src{h:J}{s:Nat}{w:Value}{c4:List (ar)}(ax:cT h s w c4):rZ s h w=some c4.flatten∧∀ y∈c4,y.length=s:=by
 rcases ax with⟨rfl,rfl⟩|⟨id,off,rfl,ai⟩
 ·exact⟨rfl,by simp⟩
 ·rcases ai with rfl|⟨cells,own,aA,af⟩
  ·exact⟨by simp[rZ],by simp⟩
  ·have aR:∀ y∈c4,y.length=s:=fun y bw=>by
    obtain⟨i,au⟩:=Gm.1 bw;exact(af i y au).1
   refine⟨?_,aR⟩;by_cases h0:c4.length=0
   ·have:c4=[]:=List.length_eq_zero_iff.1 h0;subst this;simp[rZ]
   ·obtain⟨y,bw⟩:∃ y,c4[c4.length-1]?=some y:=⟨_,hi (by omega)⟩;obtain⟨_,S,_⟩:=af _ _ bw;have bX:off+c4.length*s≤cells.length:=by
     obtain⟨n,hn⟩:∃ n,c4.length=n+1:=⟨c4.length-1,by omega⟩;rw[hn,IQ];rw[hn]at S;simp only[Nat.add_sub_cancel]at S;omega
    simp only[rZ,if_true,h0,if_false,aA,bX]
    congr 1
    have key:∀(c4:List (ar)) (k:Nat),(∀(i:Nat) x,c4[i]?=some x→x.length=s∧off+(k+i)*s+s≤cells.length∧(cells.drop (off+(k+i)*s)).take s=x)→(cells.drop (off+k*s)).take (c4.length*s)=c4.flatten:=by
     intro c4;induction c4 with
     |nil=>intro k _;simp
     |cons y r ih =>
      intro k af;obtain⟨A,S,ae⟩:=af 0 y rfl;have:=ih (k+1) fun i x au=>by
       have:=af (i+1) x (by simpa using au)
       rwa[show k+(i+1)=k+1+i by omega]at this
      rw[z8,← this,hR,IQ,Nat.add_comm (r.length*s) s,List.take_add];rw[Gr]at ae
      congr 1
      rw[List.drop_drop,IQ,Nat.add_assoc]
    have:=key c4 0 fun i x au=>by simpa using af i x au
    simpa using this
theorem cL.append{h0 h:J}{s:Nat}{v w:Value}{xs c4:List (ar)}(ai:cL h0 h s v xs)(bX:h0.le h)(ax:cT h s w c4)(ak:0<s){b:Nat}(T:(xs.length+c4.length)*b≤140737488355328)(dx:xs.length+c4.length≤9223372036854775807) :
  ∃ v' D,o1 s b h [v,w]=some (v',D)∧cL h0 D s v' (xs++c4)∧h0.le D∧(∀ i,(h.get i).isSome=true→da v i→D.get i=h.get i)∧(∀ i,(h.get i).isSome=true→da v i→da v' i)∧h.next≤D.next:=by
 obtain⟨lv,DF⟩:=ax.src;have kK:=KC DF;by_cases YT:c4.length=0
 ·have:c4=[]:=List.length_eq_zero_iff.1 YT;subst this;refine⟨v,h,?_,by simpa using ai,bX,fun _ _ _=>rfl,fun _ _ h=>h,br _⟩;have G2:∃ p n c,v=.slice p n c:=by
   rcases ai with⟨rfl,_⟩|⟨id,rfl,_⟩
   ·exact⟨_,_,_,rfl⟩
   ·exact⟨_,_,_,rfl⟩
  obtain⟨p,n,c,rfl⟩:=G2;unfold o1;simp only[lv];rfl
 ·have cH:c4.flatten.length≠0:=by
   rw[kK];exact Nat.mul_ne_zero YT (by omega)
  have ta:c4.flatten.length / s=c4.length:=by rw[kK];exact Nat.mul_div_cancel _ ak
  rcases ai with⟨rfl,rfl⟩|⟨id,rfl,au,aA,gG⟩
  ·refine⟨.slice (some ⟨h.next,0,none⟩) c4.length s,h.alloc (.aq c4.flatten true),?_,.inr ⟨h.next,by simp,bX.next,by simp,by simpa using DF⟩,bX.alloc _,?_,?_,by simp⟩
   ·unfold o1;simp only[lv,ta];rw[if_neg cH,if_pos (by simp at T dx;exact⟨T,dx⟩)]
   ·intro i au _;exact J.sV _ _ _ au
   ·intro i au _ n s e;cases e;obtain⟨o,ah⟩:=r1.1 au;have:=J.bY ah;omega
  ·have aV:=J.bY aA;have aR:=KC gG;have aj7:(xs++c4).flatten=xs.flatten++c4.flatten:=by simp
   refine⟨.slice (some ⟨h.next,0,none⟩) (xs.length+c4.length) s,(h.set id .dead).alloc (.aq (xs.flatten++c4.flatten) true),?_,.inr ⟨h.next,by simp,bX.next,by rw[aj7];exact J.hy (h.set id .dead) _,?_⟩,(bX.set au _).alloc _,?_,?_,by simp⟩
   ·unfold o1;simp only[lv,ta,aA];rw[if_neg cH,if_pos ⟨trivial,aR,T,dx⟩]
   ·intro y bw;rcases Aa.1 bw with bw|bw
    ·exact gG y bw
    ·exact DF y bw
   ·intro i au b8;have cH:i≠id:=fun e=>by subst e;exact b8 _ _ rfl
    have A:(h.set id .dead).get i=h.get i:=J.dT _ _ _ _ (by simpa using cH);rw[J.sV _ _ _ (by rw[A];exact au),A]
   ·intro i au _ n s e;cases e;obtain⟨o,ah⟩:=r1.1 au;have:=J.bY ah;omega
theorem J.le.ext{a b:J}(h:a.le b):a.ext b:=fun _ _ aA=>.inl (h.get aA)
theorem cL.get{h0 h D:J}{s:Nat}{v:Value}{xs:List (ar)}(ai:cL h0 h s v xs)(ab:∀ id,v=.slice (some ⟨id,0,none⟩) xs.length s→(h.get id).isSome=true→D.get id=h.get id):cL h0 D s v xs:=by
 rcases ai with ai|⟨id,ad,au,aA,af⟩
 ·exact .inl ai
 ·exact .inr ⟨id,ad,au,by rw[ab id ad (by rw[aA];rfl)];exact aA,af⟩
theorem Wc(k:IntKind)(z:Int):nB [.int k z]=some ([.int k z],fun id=>.pointer (some ⟨id,0,none⟩)):=rfl
end Go.Eng
namespace Go.Eng
open Go
variable {P:Program}
end Go.Eng
namespace Go.Eng
open Go
variable {P:Program}
def B3(k:Nat)(agg:Bool)(size:Nat)(Q:aT):dM→ar→J→Prop
 |.exit _,_,_=>False
 |.normal,e,h=>cu e[k]? fun p=>cu (aw (.load agg size) [p] h.get) fun v=>Q v h
 |.ret,e,h=>cu e[k]? fun p=>cu (aw (.load agg size) [p] h.get) fun v=>Q v h
def acT(agg:Bool)(size:Nat)(Q:aT)(h:J):Value→Prop:=fun p=>cu (aw (.load agg size) [p] h.get) (A3 Q h)
theorem acV(k:Nat)(agg:Bool)(size:Nat)(Q:aT)(e:ar)(h:J):B3 k agg size Q .ret e h=cu e[k]? (acT agg size Q h):=rfl
theorem acU(agg:Bool)(size:Nat)(Q:aT)(h:J)(p:Value):acT agg size Q h p=cu (aw (.load agg size) [p] h.get) (A3 Q h):=rfl
theorem E5{f:FuncId}{bm:bB}(aZ:bK P f bm){args:ar}{h:J}{Q:aT}{k size:Nat}{agg:Bool}(iW:bm.body.cX=true)(hr:bm.results=[.cell k agg size])(hn:args.length=bm.iH)
  (T:∀ N,W P N bm.vars bm.body (B3 k agg size Q) (kn bm args) h):bj P f args h Q:=by
 refine Av aZ hn fun N=>W.mono ?_ (T N).sound;intro x e D L;have key:cu e[k]? (fun p=>cu (aw (.load agg size) [p] D.get) fun v=>Q v D)→cu (hF e (fin bm.body.cX h.next D) bm.results) fun vs=>Q (packed vs) (fin bm.body.cX h.next D):=by
  intro L;rw[iW,hr];cases aK:e[k]? with
  |none=>rw[aK]at L;exact L.elim
  |some v =>
   rw[aK]at L;simp only[cu]at L;cases ad:aw (.load agg size) [v] D.get with
   |none=>rw[ad]at L;exact L.elim
   |some w=>rw[ad]at L;simpa[hF,l7.get,aK,ad,cu,packed,fin] using L
 cases x with
 |exit i=>exact L.elim
 |normal=>exact key L
 |ret=>exact key L
end Go.Eng
namespace Go.Eng
open Go
variable {P:Program}
def acS(k j i:Nat)(Q:aT):dM→ar→J→Prop
 |.exit _,_,_=>False
 |.normal,e,h=>cu e[k]? fun v=>cu e[j]? fun u=>cu e[i]? fun t=>Q (.tuple #[v,u,t]) h
 |.ret,e,h=>cu e[k]? fun v=>cu e[j]? fun u=>cu e[i]? fun t=>Q (.tuple #[v,u,t]) h
def Ac(Q:aT)(h:J)(o gl:Option Value):Value→Prop:=fun v=>cu o fun u=>cu gl fun t=>Q (.tuple #[v,u,t]) h
theorem UO(k j i:Nat)(Q:aT)(e:ar)(h:J):acS k j i Q .ret e h=cu e[k]? (Ac Q h e[j]? e[i]?):=rfl
theorem xN(Q:aT)(h:J)(v u t:Value):Ac Q h (some u) (some t) v=Q (.tuple #[v,u,t]) h:=rfl
theorem agz{f:FuncId}{bm:bB}(aZ:bK P f bm){args:ar}{h:J}{Q:aT}{k j i:Nat}(iW:bm.body.cX=true)(hr:bm.results=[.var k,.var j,.var i])(hn:args.length=bm.iH)
  (T:∀ N,W P N bm.vars bm.body (acS k j i Q) (kn bm args) h):bj P f args h Q:=by
 refine Av aZ hn fun N=>W.mono ?_ (T N).sound;intro x e D L;have key:cu e[k]? (fun v=>cu e[j]? fun u=>cu e[i]? fun t=>Q (.tuple #[v,u,t]) D)→cu (hF e (fin bm.body.cX h.next D) bm.results) fun vs=>Q (packed vs) (fin bm.body.cX h.next D):=by
  intro L;rw[iW,hr];cases aK:e[k]? with
  |none=>rw[aK]at L;exact L.elim
  |some v =>
   cases hu:e[j]? with
   |none=>rw[aK,hu]at L;exact L.elim
   |some u =>
    cases aC:e[i]? with
    |none=>rw[aK,hu,aC]at L;exact L.elim
    |some t=>rw[aK,hu,aC]at L;simpa[hF,l7.get,aK,hu,aC,cu,packed,fin] using L
 cases x with
 |exit i=>exact L.elim
 |normal=>exact key L
 |ret=>exact key L
theorem jt{p:Nat}{bb:List Nat}{h D:J}{Q:List Nat→aT}{v:Value}(T:h.b2 p D)(L:Q (p::bb) v D):Cc bb h Q v D :=
 ⟨p::bb,fun _ h=>List.mem_cons_of_mem _ h,fun id o cQ aA=>.inl (by
  have:id≠p:=fun e=>cQ (by simp[e]);rw[T.get id this (by rw[aA];rfl)];exact aA),L⟩
end Go.Eng
namespace Go.Eng
open Go
variable {P:Program}
theorem be.rT{al:Go.Eng.Ren}:∀ {l df:ar},(∀ v∈l,Value.plain v=true)→be al l df→df=l
 |[],_,_,h=>by cases h;rfl
 |v::r,_,h,hr=>by
  cases hr with
  |cons v v' r dL A hr=>rw[bL.rT (h v (by simp)) A,be.rT (fun x af=>h x (by simp[af])) hr]
theorem b1.below{base:Nat}{G:Nat→Option bQ}{al:Go.Eng.Ren}{w w':World}(aM:b1 base G al w)(T:RowKit.Below w.heap.size w w'):b1 base G al w' where
 gC:=aM.gC
 size:=rI aM.size T.size
 lE:=fun id l ag=>BS (aM.lE id l ag) T.size
 obj:=fun id o l aA ag=>(aM.obj id o l aA ag).mono (Ren.le_refl _) (T.block _ (aM.lE id l ag))
 inj:=aM.inj
 nJ:=C0 (fun b pY=>T.block b (BS pY aM.size)) aM.nJ
theorem my.abE{f:FuncId}{args:ar}{v:Value}{h:J}(aK:Enters P f)(hpl:∀ a∈args,Value.plain a=true)(ad:Value.plain v=true)
  (aj:∀ base w,tS base w→Calls P f args.toArray w fun e w'=>e=.returned v∧RowKit.Below w.heap.size w w'):my P f args h v h:=by
 refine⟨aK,J.step.refl h,fun base G al w gq bv bZ aM ct=>?_⟩;obtain rfl:=be.rT hpl ct;refine(aj base w aM.nJ).mono fun e w' ⟨A,T⟩=>⟨v,al,A,fj.refl _ _ _,.same v ad,?_,?_⟩
 ·exact b1.congr (aM.below T) (over_self bv)
 ·have qL:=aM.size;refine⟨T.size,fun b pY=>T.block b (by omega),T.tape,T.os,T.output,fun a ai=>?_⟩;unfold World.frozen?;rw[T.block a.block (by omega)]
theorem b9(h:J)(c:ar):∃ p A,h.next=p∧h.alloc (.aq c true)=A∧A.get p=some (.aq c true)∧h.le A:=⟨_,_,rfl,rfl,J.hy h _,(J.le.refl h).alloc _⟩
end Go.Eng
namespace Go.Eng
open Go Go.Sort
variable {P:Program}
end Go.Eng
namespace Go.Eng
open Go
theorem aa:(type_of% @Wa) ∧
 (type_of% @V6) ∧
 (type_of% @V9) ∧
 (type_of% @V5) ∧
 (type_of% @V2) ∧
 (type_of% @V1) ∧
 (type_of% @V4) ∧
 (type_of% @V3) ∧
 (type_of% @V7) ∧
 (type_of% @ae1) ∧
 (type_of% @ae0) ∧
 (type_of% @ae2) ∧
 (type_of% @WR) ∧
 (type_of% @WS) ∧
 (type_of% @WQ) ∧
 (type_of% @acG) ∧
 (type_of% @ack) ∧
 (type_of% @XK) ∧
 (type_of% @XJ) ∧
 (type_of% @VU) ∧
 (type_of% @VV) ∧
 (type_of% @VW) ∧
 (type_of% @XT) ∧
 (type_of% @YQ) ∧
 (type_of% @YN) ∧
 (type_of% @YP) ∧
 (type_of% @YO) ∧
 (type_of% @YR) ∧
 (type_of% @Wk) ∧
 (type_of% @Wm) ∧
 (type_of% @Wf) ∧
 (type_of% @Wn) ∧
 (type_of% @Wg) ∧
 (type_of% @Wi) ∧
 (type_of% @Wh) ∧
 (type_of% @Wo) ∧
 (type_of% @Wj) ∧
 (type_of% @acn) ∧
 (type_of% @aco) ∧
 (type_of% @Zd) ∧
 (type_of% @Wt) ∧
 (type_of% @aeF) ∧
 (type_of% @acQ) ∧
 (type_of% @acP) ∧
 (type_of% @acO) ∧
 (type_of% @acN) ∧
 (type_of% @acR) ∧
 (type_of% @adZ) ∧
 (type_of% @acZ) ∧
 (type_of% @acY) ∧
 (type_of% @acV) ∧
 (type_of% @acU) ∧
 (type_of% @abL) ∧
 (type_of% @ac5) ∧
 (type_of% @List.getElem?_cons_zero.{0}) ∧
 (type_of% @List.getElem?_cons_succ.{0}) ∧
 (type_of% @List.getD_cons_zero.{0}) ∧
 (type_of% @List.getD_cons_succ.{0}) ∧
 (type_of% @List.set_cons_zero.{0}) ∧
 (type_of% @List.set_cons_succ.{0}) ∧
 (type_of% @Nat.zero_add) ∧
 (type_of% @Nat.add_zero) ∧
 (type_of% @List.getElem?_toArray.{0}) ∧
 (type_of% @List.take_zero.{0}) ∧
 (type_of% @List.drop_zero.{0}) ∧
 (type_of% @List.take_succ_cons.{0}) ∧
 (type_of% @List.drop_succ_cons.{0}) ∧
 (type_of% @if_true.{1}) ∧
 (type_of% @if_false.{1}) ∧
 (type_of% @decide_true) ∧
 (type_of% @decide_false) ∧
 (type_of% @Bool.false_eq_true) ∧
 (type_of% @Bool.true_eq_false) ∧
 (type_of% @Bool.not_true) ∧
 (type_of% @Bool.not_false) ∧
 (type_of% @not_true_eq_false) ∧
 (type_of% @not_false_eq_true) ∧
 (type_of% @ge_iff_le.{0}) ∧
 (type_of% @gt_iff_lt.{0}) ∧
 (type_of% @beq_self_eq_true.{0}) ∧
 (type_of% @bne_self_eq_false.{0}) ∧
 (type_of% @and_self) ∧
 (type_of% @and_true) ∧
 (type_of% @true_and) ∧
 (type_of% @Option.isSome_some.{0}) ∧
 (type_of% @J.hy) ∧
 (type_of% @J.sV) ∧
 (type_of% @WO) ∧
 (type_of% @kE.eq_1) ∧
 (type_of% @kE.eq_2) ∧
 (type_of% @Arg.ev.eq_1) ∧
 (type_of% @Arg.ev.eq_2) ∧
 (type_of% @Arg.ev.eq_3) ∧
 (type_of% @Arg.ev.eq_4) ∧
 (type_of% @cr.eq_1) ∧
 (type_of% @cr.eq_2) ∧
 (type_of% @cr.eq_3) ∧
 (type_of% @cr.eq_4) ∧
 (type_of% @cr.eq_5) ∧
 (type_of% @cr.eq_6) ∧
 (type_of% @cr.eq_7) ∧
 (type_of% @cr.eq_8) ∧
 (type_of% @cr.eq_9) ∧
 (type_of% @cr.eq_10) ∧
 (type_of% @cr.eq_11) ∧
 (type_of% @cr.eq_12) ∧
 (type_of% @cr.eq_13) ∧
 (type_of% @cr.eq_14) ∧
 (type_of% @cr.eq_15) ∧
 (type_of% @cr.eq_16) ∧
 (type_of% @cr.eq_17) ∧
 (type_of% @cr.eq_18) ∧
 (type_of% @cr.eq_19) ∧
 (type_of% @cr.eq_20) ∧
 (type_of% @cr.eq_21) ∧
 (type_of% @cr.eq_22) ∧
 (type_of% @cr.eq_23) ∧
 (type_of% @cr.eq_24) ∧
 (type_of% @cr.eq_25) ∧
 (type_of% @cr.eq_26) ∧
 (type_of% @cr.eq_27) ∧
 (type_of% @cr.eq_28) ∧
 (type_of% @cr.eq_29) ∧
 (type_of% @cr.eq_30) ∧
 (type_of% @o7.eq_1) ∧
 (type_of% @o7.eq_2) ∧
 (type_of% @o7.eq_3) ∧
 (type_of% @o7.eq_4) ∧
 (type_of% @HZ.eq_1) ∧
 (type_of% @Ut.eq_1) ∧
 (type_of% @Mn.eq_1) ∧
 (type_of% @Mi.eq_1) ∧
 (type_of% @Mm.eq_1) ∧
 (type_of% @Mk.eq_1) ∧
 (type_of% @zU.eq_1) ∧
 (type_of% @zU.eq_2) ∧
 (type_of% @zU.eq_3) ∧
 (type_of% @BW.eq_1) ∧
 (type_of% @uV.eq_1) ∧
 (type_of% @uV.eq_2) ∧
 (type_of% @uV.eq_4) ∧
 (type_of% @uV.eq_5) ∧
 (type_of% @IP.eq_1) ∧
 (type_of% @kX.eq_1) ∧
 (type_of% @kX.eq_2) :=
 ⟨@Wa,@V6,@V9,@V5,@V2,@V1,@V4,@V3,@V7,@ae1,@ae0,@ae2,@WR,@WS,@WQ,@acG,@ack,@XK,@XJ,@VU,@VV,@VW,@XT,@YQ,@YN,@YP,@YO,@YR,@Wk,@Wm,@Wf,@Wn,@Wg,@Wi,@Wh,@Wo,@Wj,@acn,@aco,@Zd,@Wt,@aeF,@acQ,@acP,@acO,@acN,@acR,@adZ,@acZ,@acY,@acV,@acU,@abL,@ac5,@List.getElem?_cons_zero.{0},@List.getElem?_cons_succ.{0},@List.getD_cons_zero.{0},@List.getD_cons_succ.{0},@List.set_cons_zero.{0},@List.set_cons_succ.{0},@Nat.zero_add,@Nat.add_zero,@List.getElem?_toArray.{0},@List.take_zero.{0},@List.drop_zero.{0},@List.take_succ_cons.{0},@List.drop_succ_cons.{0},@if_true.{1},@if_false.{1},@decide_true,@decide_false,@Bool.false_eq_true,@Bool.true_eq_false,@Bool.not_true,@Bool.not_false,@not_true_eq_false,@not_false_eq_true,@ge_iff_le.{0},@gt_iff_lt.{0},@beq_self_eq_true.{0},@bne_self_eq_false.{0},@and_self,@and_true,@true_and,@Option.isSome_some.{0},@J.hy,@J.sV,@WO,@kE.eq_1,@kE.eq_2,@Arg.ev.eq_1,@Arg.ev.eq_2,@Arg.ev.eq_3,@Arg.ev.eq_4,@cr.eq_1,@cr.eq_2,@cr.eq_3,@cr.eq_4,@cr.eq_5,@cr.eq_6,@cr.eq_7,@cr.eq_8,@cr.eq_9,@cr.eq_10,@cr.eq_11,@cr.eq_12,@cr.eq_13,@cr.eq_14,@cr.eq_15,@cr.eq_16,@cr.eq_17,@cr.eq_18,@cr.eq_19,@cr.eq_20,@cr.eq_21,@cr.eq_22,@cr.eq_23,@cr.eq_24,@cr.eq_25,@cr.eq_26,@cr.eq_27,@cr.eq_28,@cr.eq_29,@cr.eq_30,@o7.eq_1,@o7.eq_2,@o7.eq_3,@o7.eq_4,@HZ.eq_1,@Ut.eq_1,@Mn.eq_1,@Mi.eq_1,@Mm.eq_1,@Mk.eq_1,@zU.eq_1,@zU.eq_2,@zU.eq_3,@BW.eq_1,@uV.eq_1,@uV.eq_2,@uV.eq_4,@uV.eq_5,@IP.eq_1,@kX.eq_1,@kX.eq_2⟩
open Go Go.ChangeShapes Go.WideShapes Go.ChangeAt
variable {P:Program}{H:Type}{enc:TypeId × Value→H}
end Go.Eng
namespace Go.Eng
open Go
variable {P:Program}
structure x4 where
 iH:Nat
 vars:List Nat
 pre:List bo
 ma:List Nat
 gB:FuncId
 rest:bo
 results:List l7
structure M9(N:Nat)(vars ma:List Nat)(gB:FuncId)(cG cP:Oper)(t:Nat)(cs:Array Operand)(c:Call):Prop where
 abJ:cG.op=.makeFunc (.func gB) #[] cs
 ahl:cG.dst=some t
 g1:cG.guard=none
 anT:cP.op=.defer c
 ahm:cP.dst=none
 g2:cP.guard=none
 fn:c.callee=.value (.tmp t)
 args:c.args=#[]
 out:t ∉ vars
 lt:t<N
 ma:n1 (fun k x=>∃ s,x=Operand.tmp s∧vars[k]?=some s) ma cs.toList
def r2(P:Program)(N:Nat)(vars ma:List Nat)(gB:FuncId):List bo→bo→Code→Prop
 |[],rest,.seq (.region _ aQ false) y=>(∃ cG cP t cs c,aQ=#[cG,cP]∧M9 N vars ma gB cG cP t cs c)∧eD P N vars rest y
 |c::pre,rest,.seq x y=>eD P N vars c x∧r2 P N vars ma gB pre rest y
 |_,_,_=>False
inductive tE(P:Program)(N:Nat)(vars:List Nat):List bo→ar→J→Bool→ar→J→Prop
 |nil {env h}:tE P N vars [] env h true env h
 |cons {c r env h az A b aL S}(hn:c.cX=true) (t:eu P N vars c env h .normal az A) (dL:tE P N vars r az A b aL S):tE P N vars (c::r) env h b aL S
 |stop {c r env h az A}(hn:c.cX=true) (t:eu P N vars c env h .ret az A):tE P N vars (c::r) env h false az A
theorem tE.step{N:Nat}{vars:List Nat}{l:List bo}{env az:ar}{h A:J}{b:Bool}(t:tE P N vars l env h b az A):h.step A:=by
 induction t with
 |nil=>exact J.step.refl _
 |cons _ t _ ih=>exact t.1.trans ih
 |stop _ t=>exact t.1
def r8(env:ar):List Nat→Option (ar)
 |[]=>some []
 |k::r=>match env[k]?,r8 env r with
  |some v,some l=>some (v::l)
  |_,_=>none
theorem Uz{N:Nat}{vars ma:List Nat}{gB:FuncId}{rest:bo}{base:Nat}{l:List bo}{env az:ar}{h A:J}{b:Bool}(t:tE P N vars l env h b az A):∀ {code:Code},r2 P N vars ma gB l rest code →
  ∀(G:Nat→Option bQ) (al:Ren) (w:World) (a:Act),h.hX G→jf al h.next A.next→b1 base G al w→kz al N vars env a.tmps→∀ Q:Exit→Act→World→Prop,
   (b=false→∀ a' bd w',Left true base G al w a N vars h A az a' bd w'→Q .ret a' w') →
   (b=true→∀ yr,r2 P N vars ma gB [] rest yr→∀ a' bd w',Left true base G al w a N vars h A az a' bd w'→yr.wpIn (hG none) 0 P Q a' w')→code.wpIn (hG none) 0 P Q a w:=by
 induction t with
 |nil=>intro code aj G al w a bv bZ aM c3 Q _ S;exact S rfl code aj a al w ⟨fj.refl _ _ _,c3,HO,b1.congr aM (over_self bv),gi.refl _ _⟩
 |@cons c r env h az A b aL S hn t dL ih =>
  intro code aj G al w a bv bZ aM c3 Q cd cS;cases code<;>simp only[r2]at aj;refine wpIn_seq (t.2 _ aj.1 base G al w a none (fun _=>rfl) bv (bZ.left dL.step.next) aM c3 _ fun a' bd w' ag=>?_);have ae5:∀ {a2 fZ dd},Left true base (over A G) bd w' a' N vars A S aL a2 fZ dd→Left true base G al w a N vars h S aL a2 fZ dd:=fun bC=>ag.trans t.1 dL.step (fun _=>⟨hn,rfl⟩) bC;exact ih aj.2 (over A G) bd w' a' (oO _ _) (bZ.right t.1.next ag.agree) ag.fI ag.env Q (fun T a2 fZ dd bC=>cd T a2 fZ dd (ae5 bC)) (fun T yr j8 a2 fZ dd bC=>cS T yr j8 a2 fZ dd (ae5 bC))
 |@stop c r env h az A hn t =>
  intro code aj G al w a bv bZ aM c3 Q cd cS;cases code<;>simp only[r2]at aj;refine wpIn_seq (t.2 _ aj.1 base G al w a none (fun _=>rfl) bv bZ aM c3 _ fun a' bd w' ag=>?_);exact cd rfl a' bd w' (ag.wc fun _=>hn)
theorem X4{N:Nat}{vars ma:List Nat}{gB:FuncId}{cG cP:Oper}{t:Nat}{cs:Array Operand}{c:Call}(hd:M9 N vars ma gB cG cP t cs c){id:Nat}{al:Ren}{env vs:ar}{a:Act}{w:World}(c3:kz al N vars env a.tmps)(ad:r8 env ma=some vs){Q:Exit→Act→World→Prop}
  (L:∀ a' gM,be al vs gM→kz al N vars env a'.tmps→a'.defers = { target:=.fn (.func gB) gM.toArray,args:=#[] }::a.defers→Q .normal a' w):(Code.region id #[cG,cP] false).wpIn (hG none) 0 P Q a w:=by
 refine wpIn_region ?_;show wpOpsIn (hG none) 0 P #[cG,cP] Q [0,1] a w;obtain⟨gM,A,S⟩:∃ gM,cs.toList.map a.eval=gM∧be al vs gM:=by
  refine⟨_,rfl,?_⟩;have:∀ {ke:List Nat}{xs:List Operand},n1 (fun k x=>∃ s,x=Operand.tmp s∧vars[k]?=some s) ke xs→∀ {vs:ar},r8 env ke=some vs→be al vs (xs.map a.eval):=by
   intro ke xs h;induction h with
   |nil=>intro vs ad;cases ad;exact .nil
   |@cons k x ke xs ab hr ih =>
    intro vs ad;obtain⟨s,rfl,ak⟩:=ab;simp only[r8]at ad;split at ad<;>first|(cases ad;done)|skip
    rename_i v l fr ag;cases ad;obtain⟨v',az,aL⟩:=c3.get k s v ak fr;refine .cons _ _ _ _ ?_ (ih ag);simp only[Act.eval,lF,az];exact aL
  exact this hd.ma ad
 have er:Region.wanted cG (yielded #[cG,cP] a.tmps)=true:=by simp[Region.wanted,hd.g1]
 have iD:=c3.size;have cn:(cG.semAt none a.eval).run P w=.ok (.value (.func (.func gB) #[] gM.toArray)) w:=by
  rw[Oper.semAt_none];simp[execOp,hd.abJ,Instr.makeFunc,← A,← Lz]
 simp only[wpOpsIn,List.getElem?_toArray,PG,er,if_true,Oper.wpIn];refine⟨fun _ _=>trivial,?_⟩;show Oper.uponIn _ _ _ _ _ _ _ ((cG.semAt none a.eval).run P w);rw[cn,Oper.uponIn_value];have dd:∀ b:Array Value,Region.wanted cP (yielded #[cG,cP] b)=true:=fun b=>by simp[Region.wanted,hd.g2]
 simp only[List.getElem?_cons_succ,PG,dd,if_true];refine⟨fun _ _=>trivial,?_⟩;show Oper.uponIn _ _ _ _ _ _ _ ((cP.semAt none (a.put cG.dst (.func (.func gB) #[] gM.toArray)).eval).run P w);rw[hd.ahl];have aC:(a.put (some t) (.func (.func gB) #[] gM.toArray)).eval (.tmp t)=.func (.func gB) #[] gM.toArray:=by
  simp only[Act.eval,lF];rw[Act.zW (by rw[iD];exact hd.lt)];rfl
 have bM:(cP.semAt none (a.put (some t) (.func (.func gB) #[] gM.toArray)).eval).run P w=.ok (.defer { target:=.fn (.func gB) gM.toArray,args:=#[] }) w:=by
  rw[Oper.semAt_none];simp[execOp,hd.anT,resolve,hd.fn,hd.args,aC,Deferred.ofValue]
 rw[bM,Oper.uponIn_defer,hd.ahm];refine L _ gM S ⟨?_,c3.len,fun k s v ab ad=>?_⟩ rfl
 ·rw[Act.zX];show(a.put (some t) _).tmps.size=N;rw[Act.zX];exact iD
 ·obtain⟨v',az,aL⟩:=c3.get k s v ab ad;refine⟨v',?_,aL⟩;show(a.put (some t) _).tmps[s]?=some v';rw[Act.qe fun e=>by cases e;exact hd.out (List.mem_of_getElem? ab)];exact az
structure EE(P:Program)(f:FuncId)(d:x4):Prop where
 fn : ∃ fn code, P.funcs[f]? = some fn ∧ fn.body = some code ∧ (fn.name == "runtime.NumGoroutine") = false ∧ r2 P fn.ntmps d.vars d.ma d.gB d.pre d.rest code ∧ n1 (Cx P d.vars) fn.results.toList d.results ∧ d.iH ≤ fn.ntmps ∧
  (∀(k:Nat) s,d.vars[k]?=some s→(k<d.iH→s=k)∧(d.iH≤k→d.iH≤s∧s<fn.ntmps))∧d.iH≤d.vars.length
structure M8(P:Program)(f:FuncId)(n:Nat):Prop where
 enters:Enters P f
 ret:∀(args:Array Value) (w:World),args.size=n→tS w.heap.size w→CallsDIn Fence.wide 0 P f args .returning w fun e qi w'=>qi=.returning∧(∃ v,e=.returned v)∧gi w.heap.size w w'
theorem abS{al:Ren}{vs gM:ar}(az:be al vs gM):bL al (packed vs) (packed gM):=by
 cases az with
 |nil=>exact .tuple [] [] .nil
 |cons x hZ r dL af hr=>cases hr with
  |nil=>exact af
  |cons y Cn bM acf bw hr=>exact .tuple _ _ (.cons _ _ _ _ af (.cons _ _ _ _ bw hr))
theorem acM{fn:Func}{tmps:Array Value}{gM:ar}{dd:World}(aL:(fn.results.toList.mapM (fun|.tmp t=>pure (tmps.getD t undef)|.cell p t=>do loadVar t (← asAddr (tmps.getD p undef)):ResultVar→Sem Value)).run P dd=.ok gM dd):(results fn tmps).run P dd=.ok (packed gM) dd:=by
 unfold results;rw[Array.mapM_eq_mapM_toList];simp only[Sem.run_bind,Sem.run_map]
 erw[aL]
 simp only[Result.andThen_ok];cases gM with
 |nil=>rfl
 |cons x r=>cases r with
  |nil=>rfl
  |cons y r=>simp[packed]
theorem b1.after{base:Nat}{G:Nat→Option bQ}{al:Ren}{w w':World}(aM:b1 base G al w)(dS:gi w.heap.size w w'):b1 base G al w'∧gi base w w' :=
 ⟨⟨aM.gC,rI aM.size dS.size,fun id l ag=>BS (aM.lE id l ag) dS.size,fun id o l aA ag=>(aM.obj id o l aA ag).mono (Ren.le_refl _) (dS.low _ (aM.lE id l ag)),aM.inj,C0 (fun b T=>dS.low b (BS T aM.size)) aM.nJ⟩,
 ⟨dS.size,fun b T=>dS.low b (BS T aM.size),dS.tape,dS.os,dS.output,fun a ai=>dS.CZ a (BS ai aM.size)⟩⟩
def aeM(P:Program)(N:Nat)(d:x4)(args:ar)(h:J)(v:Value)(D:J):Prop :=
 (∃ env vs,tE P N d.vars d.pre (args++List.replicate (d.vars.length-args.length) undef) h false env D∧hF env D d.results=some vs∧v=packed vs) ∨
 (d.rest.cX=true∧∃ env A jB cs x vs,tE P N d.vars d.pre (args++List.replicate (d.vars.length-args.length) undef) h true env A∧r8 env d.ma=some cs∧eu P N d.vars d.rest env A x jB D∧(x=.normal∨x=.ret)∧hF jB D d.results=some vs∧v=packed vs)
theorem XF{env:ar}:∀ {ke:List Nat}{vs:ar},r8 env ke=some vs→vs.length=ke.length
 |[],vs,h=>by cases h;rfl
 |k::r,vs,h=>by
  simp only[r8]at h;split at h<;>first|(cases h;done)|skip
  rename_i ag;cases h;simp[XF ag]
theorem my.abG{f:FuncId}{d:x4}(aZ:EE P f d)(y4:M8 P d.gB d.ma.length){args:ar}{h D:J}{v:Value}(hn:args.length=d.iH){fn:Func}(mj:P.funcs[f]?=some fn)(T:aeM P fn.ntmps d args h v D):my P f args h v D:=by
 obtain⟨Rg,code,A,S,ae,aB,aG,a1,bN,b7⟩:=aZ.fn;rw[mj]at A;cases A;have R3:Enters P f:=by
  intro args w;have tU : ¬ fn.name = "runtime.NumGoroutine" := by simpa using ae
  simp[callFunc,mj,tU,S]
 have dS:h.step D:=by
  rcases T with⟨env,vs,hp,_⟩|⟨_,env,A,jB,cs,x,vs,hp,_,aj,_⟩
  ·exact hp.step
  ·exact hp.step.trans aj.1
 refine⟨R3,dS,fun base G al w gq bv bZ aM ct=>?_⟩;have ag:gq.length=d.iH:=by rw[← ct.length];exact hn
 refine callsIn_wide.1 (callsIn_of_wp_marks (n:=0) mj S trivial ?_);have sy:hG none=Fence.wide:=rfl;rw[← sy];have c3:kz al fn.ntmps d.vars (args++List.replicate (d.vars.length-args.length) undef) (gq.toArray++Array.replicate (fn.ntmps-gq.toArray.size) undef):=by
  refine⟨by simp;omega,by simp;omega,fun k s v ab ad=>?_⟩;obtain⟨ai,T⟩:=bN k s ab;by_cases Gq:k<d.iH
  ·obtain rfl:=ai Gq;rw[PF (by omega)]at ad;obtain⟨v',az,aL⟩:=ct.get s v ad;refine⟨v',?_,aL⟩;rw[Pf (by simp;omega)];simpa using az
  ·obtain⟨fg,dx⟩:=T (by omega);rw[List.getElem?_append_right (by omega)]at ad;have Hc:v=undef:=by
    have:=List.mem_of_getElem? ad;exact(List.mem_replicate.1 this).2
   subst Hc;refine⟨undef,?_,.same _ rfl⟩;rw[Array.getElem?_append_right (by simp;omega),ND,if_pos];simp only[List.size_toArray];omega
 -- what is read at the end
 have fin:∀ {env:ar}{vs:ar}{a':Act}{bd:Ren}{w':World},hF env D d.results=some vs→v=packed vs→fj al bd h.next D.next→kz bd fn.ntmps d.vars env a'.tmps→b1 base (over D G) bd w'→gi base w w' →
   LeavesInM (hG none) 0 P fn a'.tmps (fun e w'=>∃ v' bd,e=.returned v'∧lh base G al w h D v v' bd w') [] .returning w':=by
  intro env vs a' bd w' kq ad A0 aK ak dS;obtain⟨gM,iX,fO⟩:=Mw aK ak (oO D G) aG kq;refine⟨packed gM,?_,packed gM,bd,rfl,A0,?_,ak,dS⟩
  ·exact acM fO
  ·rw[ad];exact abS iX
 rcases T with⟨env,vs,hp,kq,ad⟩|⟨iW,env,s5,jB,cs,x,vs,hp,hA,aj,af,kq,ad⟩
 ·refine Uz hp aB G al w _ bv bZ aM c3 _ (fun _ a' bd w' ag=>?_) (fun T=>by cases T);obtain⟨bG,_,dR,bp⟩:=ag.defers;rw[bp rfl]at dR;show LeavesInM _ _ _ _ _ _ a'.defers .returning w';rw[dR];exact fin kq ad ag.agree ag.env ag.fI ag.step
 ·refine Uz hp aB G al w _ bv (bZ.left aj.1.next) aM c3 _ (fun T=>by cases T) (fun _ yr j8 a' bd w' ag=>?_);obtain⟨bG,_,dR,bp⟩:=ag.defers;rw[bp rfl]at dR;cases yr<;>first|(simp only[r2]at j8;done)|skip
  rename_i bk y;cases bk<;>first|(simp only[r2]at j8;done)|skip
  rename_i id aQ fq;cases fq<;>simp only[r2]at j8;obtain⟨⟨cG,cP,t,cap,c,rfl,hd⟩,oL⟩:=j8;refine wpIn_seq (X4 hd ag.env hA fun a2 cs' il Ge R1=>?_);refine aj.2 y oL base (over s5 G) bd w' a2 none (fun _=>rfl) (oO _ _) (bZ.right hp.step.next ag.agree) ag.fI Ge _ fun a3 EA sR gP=>?_;obtain⟨arS,_,Zb,vC⟩:=gP.defers;rw[vC iW]at Zb;have vg:a3.defers=[{ target:=.fn (.func d.gB) cs'.toArray,args:=#[] }]:=by rw[Zb,R1,dR];rfl
  have key:LeavesInM (hG none) 0 P fn a3.tmps (fun e w'=>∃ v' bd,e=.returned v'∧lh base G al w h D v v' bd w') a3.defers .returning sR:=by
   rw[vg];refine⟨by simp,.inr ⟨fun hd=>by simp[hG,Fence.wide]at hd,.func d.gB,cs'.toArray,d.gB,cs'.toArray,rfl,?_,fun _ _=>trivial,?_⟩⟩
   ·have:=hd.abJ;simp only[invoke];have eY:Enters P d.gB:=y4.enters;rw[eY];simp
   ·refine(y4.ret cs'.toArray sR (by simp only[List.size_toArray];rw[← il.length];exact XF hA) (YE gP.fI.size gP.fI.nJ)).mono ?_;rintro e qi Cj ⟨rfl,⟨rv,rfl⟩,SS⟩;have C7:b1 base (over D G) EA sR:=b1.congr gP.fI fun id=>(HY aj.1 G id).symm;obtain⟨C8,ak0⟩:=C7.after SS;exact fin kq ad (ag.agree.trans gP.agree hp.step.next aj.1.next) gP.env C8 ((ag.step.trans gP.step).trans ak0)
  rcases af with rfl|rfl
  ·exact key
  ·exact key
theorem b1.empty{base:Nat}{w:World}(aA:tS base w)(ak:base≤w.heap.size):b1 w.heap.size (fun _=>none) (fun _=>none) w :=
 ⟨fun _=>rfl,br _,fun _ _ h=>(by cases h),fun _ _ _ h _=>(by cases h),fun _ _ _ _ _ _ h _ _ _ _ _ _=>(by cases h),YE ak aA⟩
section
variable {aQ:Array Oper}{Q:Exit→Act→List Frame→World→Prop}{rest:List Nat}{a:Act}{cs:List Frame}{w:World}{i:Nat}{o:Oper}
theorem qb{v:Value}{w':World}(ah:aQ[i]?=some o)(aA:o.guard=none)(hr:(execOp a.eval o).run P w=.ok (.value v) w')(h:wpOpsSIn Fence.wide 0 P aQ Q rest (a.put o.dst v) cs w'):wpOpsSIn Fence.wide 0 P aQ Q (i::rest) a cs w:=by
 have ax:Region.wanted o (yielded aQ a.tmps)=true:=by simp[Region.wanted,aA]
 simp only[wpOpsSIn,ah,ax,if_true,hr];exact⟨fun _ _=>trivial,h⟩
theorem abK{w':World}(ah:aQ[i]?=some o)(aA:o.guard=none)(hr:(execOp a.eval o).run P w=.ok .skip w')(h:wpOpsSIn Fence.wide 0 P aQ Q rest (a.put o.dst undef) cs w'):wpOpsSIn Fence.wide 0 P aQ Q (i::rest) a cs w:=by
 have ax:Region.wanted o (yielded aQ a.tmps)=true:=by simp[Region.wanted,aA]
 simp only[wpOpsSIn,ah,ax,if_true,hr];exact⟨fun _ _=>trivial,h⟩
theorem anU{w':World}(ah:aQ[i]?=some o)(aA:o.guard=none)(hr:(execOp a.eval o).run P w=.ok .recover w')(aj:recoverD cs=none)(h:wpOpsSIn Fence.wide 0 P aQ Q rest (a.put o.dst .nilIface) cs w'):wpOpsSIn Fence.wide 0 P aQ Q (i::rest) a cs w:=by
 have ax:Region.wanted o (yielded aQ a.tmps)=true:=by simp[Region.wanted,aA]
 simp only[wpOpsSIn,ah,ax,if_true,hr,aj];exact⟨fun _ _=>trivial,h⟩
end
structure VT(P:Program)(f:FuncId)(hL:TypeId)(z:ar):Prop where
 code : ∃ fn id Bv aQ BT x, P.funcs[f]? = some fn ∧ fn.body = some (.seq (.region id aQ false) (.seq (.region Bv BT false) (.cond (.tmp 9) x .skip))) ∧ fn.ntmps = 14 ∧ fn.results = #[] ∧ (fn.name == "runtime.NumGoroutine") = false ∧
  (∃ q6 cG cP gm q7 ot ns q8 l9 It,aQ=#[q6,cG,cP,gm,q7,ot,ns,q8]∧(q6.op=.call l9∧q6.dst=some 5∧q6.guard=none∧l9.callee=.builtin .recover∧l9.args=#[])∧(cG.op=.typeAssert (.tmp 5) It hL true∧cG.dst=some 6∧cG.guard=none) ∧
   (cP.op=.move (.tmp 6)∧cP.dst=some 4∧cP.guard=none)∧(gm.op=.extract (.tmp 4) 0∧gm.dst=some 7∧gm.guard=none)∧(q7.op=.extract (.tmp 4) 1∧q7.dst=some 8∧q7.guard=none) ∧
   (ot.op=.alloc hL∧ot.dst=some 2∧ot.guard=none)∧(ns.op=.store hL (.tmp 2) (.tmp 7)∧ns.dst=none∧ns.guard=none)∧(q8.op=.assign (.tmp 8)∧q8.dst=some 3∧q8.guard=none)) ∧
  (∃ eP,BT=#[eP]∧eP.op=.move (.tmp 3)∧eP.dst=some 9∧eP.guard=none)
 zero:oz P hL=some z
 Ii:(yL P hL).isSome=true
 held:Gd P hL=false
 size:gJ P hL=some z.length
theorem agJ{f:FuncId}{hL:TypeId}{z:ar}(hr:VT P f hL z):M8 P f 2:=by
 obtain⟨fn,id,Bv,aQ,BT,x,aZ,T,bH,kq,Do,⟨q6,cG,cP,gm,q7,ot,ns,q8,l9,It,rfl,⟨dP,a2,a3,a4,a5⟩,⟨dJ,kB,qt⟩,⟨d1,d2,d3⟩,⟨az,aL,bq⟩,⟨f1,f2,f3⟩,⟨g1,g2,g3⟩,⟨A,S,ae⟩,⟨i1,i2,i3⟩⟩,⟨eP,rfl,Tr,Ts,Tt⟩⟩:=hr.code;refine⟨?_,fun args w hn Gg=>?_⟩
 ·intro args w;have tU : ¬ fn.name = "runtime.NumGoroutine" := by simpa using Do
  simp[callFunc,aZ,tU,T]
 obtain⟨eL,xi,ur,vC,zo⟩:=wj hr.zero;obtain⟨kF,hu⟩:∃ kF,P.underlying hL=some (.struct kF):=by
  have:=hr.Ii;unfold yL at this;split at this
  ·rename_i kF h;exact⟨kF,h⟩
  ·cases this
 obtain⟨cR,cd,rfl⟩:∃ cR cd,args=#[cR,cd]:=by
  obtain⟨l⟩:=args
  match l,hn with
  |[a,b],_=>exact⟨a,b,rfl⟩
 clear hn;refine callsDIn_of_wpSIn aZ T trivial fun ww cs st=>?_;have t0 : #[cR,cd]++Array.replicate (fn.ntmps-#[cR,cd].size) undef=#[cR,cd,undef,undef,undef,undef,undef,undef,undef,undef,undef,undef,undef,undef]:=by rw[bH];rfl
 rw[t0];apply wpSIn_seq;apply wpSIn_region;change wpOpsSIn _ _ _ _ _ [0,1,2,3,4,5,6,7] _ _ _;refine anU (o:=q6) (w':=w) rfl a3 (by simp[execOp,dP,resolve,a4,a5,invoke,builtin]) (by simp[recoverD,st]) ?_;rw[a2];refine qb (o:=cG) (v:=.tuple #[eL,.bool false]) (w':=w) rfl qt ?_ ?_
 ·simp[execOp,dJ,Act.eval,Act.put,Instr.typeAssert,run_underlying hu,xi]
 rw[kB];refine qb (o:=cP) (v:=.tuple #[eL,.bool false]) (w':=w) rfl d3 ?_ ?_
 ·simp[execOp,d1,Act.eval,Act.put]
 rw[d2];refine qb (o:=gm) (v:=eL) (w':=w) rfl bq ?_ ?_
 ·simp[execOp,az,Act.eval,Act.put,Instr.extract]
 rw[aL];refine qb (o:=q7) (v:=.bool false) (w':=w) rfl f3 ?_ ?_
 ·simp[execOp,f1,Act.eval,Act.put,Instr.extract]
 rw[f2];generalize dW:Act.put _ (some 8) _=qn;have Rx:qn.eval (.tmp 7)=eL:=by rw[← dW];simp[Act.eval,Act.put]
 have Ry:qn.tmps[8]?=some (.bool false):=by rw[← dW];simp[Act.put]
 have RA:qn.tmps.size=14:=by rw[← dW];simp[Act.put]
 have Rz:qn.defers=[]:=by rw[← dW];rfl
 clear dW;have aM:=b1.empty Gg (br _);have za:kindOf P ot.op=some (.a (.new z),[]):=by simp[g1,kindOf,xo,hr.zero,hr.held]
 obtain⟨l,v5,Io,ck,cm,cb,eC⟩:=Nt (ev:=qn.eval) za (vs:=[]) .nil aM (cells:=z) (mk:=fun id=>.pointer (some ⟨id,0,none⟩)) rfl (id:=0) rfl;refine qb (o:=ot) (v:=v5) (w':=Io) rfl g3 (eC ot rfl) ?_;rw[g2];have vk:kindOf P ns.op=some (.w (.store z.length),[.tmp 2,.tmp 7]):=by simp[A,kindOf,hr.size]
 let hp:J:=⟨1,fun id=>if id=0 then some (.aq z true) else .none,fun id cQ=>by rw[if_neg (by omega)]⟩;have bv:hp.hX (fS (fun _=>.none) 0 (.aq z true)):=fun id o ah=>ah;have Bq:∀ al,bL al eL eL:=fun al=>by
  have key:Value.plain eL=true∨∃ c,eL=.agg c:=by
   cases eL<;>first|exact .inr ⟨_,rfl⟩|(left;exact vC _ (by rw[← ur];simp[Value.cells]))
  rcases key with h|⟨c,rfl⟩
  ·exact .same _ h
  ·have aj:c.toList=z:=ur;have:=bL.agg (al:=al) c.toList c.toList (be.plain (by rw[aj];exact vC)) (by rw[aj];exact zo);simpa using this
 have Br:bh (.store z.length) [.pointer (some ⟨0,0,none⟩),eL] hp=some (undef,hp.set 0 (.aq (z.take 0++eL.cells.toList++z.drop (0+z.length)) true)):=by
  have az:hp.get 0=some (.aq z true):=rfl;simp only[bh,cz,az,ur];rw[if_pos ⟨trivial,by omega,by rw[nU];exact zo⟩]
 generalize cM:Act.put qn (some 2) v5=B;have RB:B.eval (.tmp 2)=v5:=by rw[← cM];simp only[Act.eval,lF];rw[Act.zW (by omega)];rfl
 have RC:B.eval (.tmp 7)=eL:=by
  rw[← Rx,← cM];simp only[Act.eval,lF];rw[Act.qe (by simp)]
 have RD:B.tmps[8]?=some (.bool false):=by rw[← cM,Act.qe (by simp)];exact Ry
 have RF:B.tmps.size=14:=by rw[← cM,Act.zX];exact RA
 have RE:B.defers=[]:=by rw[← cM,Act.B1];exact Rz
 obtain⟨Vx,EB,ri,m1,m2⟩:=VH (ev:=B.eval) vk (vs:=[.pointer (some ⟨0,0,none⟩),eL]) (by rw[Fx,Fx,RB,RC];exact .cons _ _ _ _ ck (.cons _ _ _ _ (Bq _) .nil)) cm bv Br (fun id A S=>absurd S (by simp;exact A));have dS:=cb.trans m2.step;have YG:wpOpsSIn Fence.wide 0 P #[q6,cG,cP,gm,q7,ot,ns,q8] (Exit.thenS (((Code.region Bv #[eP] false).seq (.cond (.tmp 9) x .skip)).wpSIn Fence.wide 0 P (bodyPostS P fn ww cs fun e qi w'=>qi=.returning∧(∃ v,e=.returned v)∧gi w.heap.size w w')) (bodyPostS P fn ww cs fun e qi w'=>qi=.returning∧(∃ v,e=.returned v)∧gi w.heap.size w w')) [7] B (ww::cs) ri:=by
  refine qb (o:=q8) (v:=.bool false) (w':=ri) rfl i3 ?_ ?_
  ·simp[execOp,i1,Act.eval,RD]
  rw[i2];apply wpSIn_seq;apply wpSIn_region;change wpOpsSIn _ _ _ _ _ [0] _ _ _;generalize sg:Act.put B (some 3) _=bb;have KW:bb.tmps[3]?=some (.bool false):=by rw[← sg];exact Act.zW (by omega)
  have Y0:bb.tmps.size=14:=by rw[← sg,Act.zX];exact RF
  have RG:bb.defers=[]:=by rw[← sg,Act.B1];exact RE
  refine qb (o:=eP) (v:=.bool false) (w':=ri) rfl Tt (by simp[execOp,Tr,Act.eval,KW]) ?_;rw[Ts];show(Code.cond (.tmp 9) x .skip).wpSIn _ _ _ _ _ _ _;refine wpSIn_cond (t:=false) (by simp only[Act.eval,lF];rw[Act.zW (by omega)];rfl) ?_;refine wpSIn_of_wpIn rfl (wpIn_skip ?_);refine⟨by rw[Act.B1];exact RG,.returning,by cases ww;simp_all,.tuple #[],?_,rfl,⟨_,rfl⟩,dS⟩;simp[results,kq]
 have hm:=m1 ns rfl;rcases hm with hm|⟨hm,_⟩
 ·refine qb (o:=ns) (v:=Vx) (w':=ri) rfl ae hm ?_;rw[S];exact YG
 ·exact abK (o:=ns) (w':=ri) rfl ae hm (by rw[S];exact YG)
end Go.Eng
namespace Go.Eng
open Go
variable {P:Program}
def HF(vars:List Nat):List Operand→Option (List Nat)
 |[]=>some []
 |.tmp s::r=>match D0 vars s,HF vars r with
  |some k,some l=>some (k::l)
  |_,_=>none
 |_::_=>none
def T5(N:Nat)(vars:List Nat)(aQ:Array Oper):Option (List Nat × FuncId) :=
 match aQ.toList with
 |[cG,cP]=>match cG.op,cG.dst,cG.guard,cP.op,cP.dst,cP.guard with
  |.makeFunc (.func gB) first cs,some t,none,.defer c,none,none=>match c.callee with
   |.value (.tmp mV)=>if mV=t∧c.args.size=0∧first.size=0∧t ∉ vars∧t<N then(HF vars cs.toList).map fun ke=>(ke,gB) else none
   |_=>none
  |_,_,_,_,_,_=>none
 |_=>none
def X3(N:Nat)(vars:List Nat):Code→Option (List Nat × FuncId)
 |.region _ aQ false=>T5 N vars aQ
 |_=>none
def Kh(P:Program)(N:Nat)(vars:List Nat):Code→Option (List bo × List Nat × FuncId × bo)
 |.seq x y=>match X3 N vars x with
  |some (ke,gB)=>(mE P N vars 4000 y).map fun c=>([],ke,gB,c)
  |none=>match mE P N vars 4000 x,Kh P N vars y with
   |some c,some (pre,ke,gB,rest)=>some (c::pre,ke,gB,rest)
   |_,_=>none
 |_=>none
def XQ(P:Program)(f:FuncId)(na:Nat)(vars:List Nat):Option x4 :=
 match P.funcs[f]? with
 |some fn =>
  match fn.body with
  |some code =>
   if !(fn.name == "runtime.NumGoroutine") && MY na fn.ntmps vars then
    match Kh P fn.ntmps vars code,DZ P vars fn.results.toList with
    |some (pre,ma,gB,rest),some results=>some { iH:=na,vars,pre,ma,gB,rest,results }
    |_,_=>none
   else none
  |none=>none
 |none=>none
theorem abe{vars:List Nat}:∀ {cs:List Operand}{ke:List Nat},HF vars cs=some ke→n1 (fun k x=>∃ s,x=Operand.tmp s∧vars[k]?=some s) ke cs
 |[],ke,h=>by cases h;exact .nil
 |x::r,ke,h=>by
  unfold HF at h;split at h<;>first|(cases h;done)|skip
  ·rename_i dK;cases dK
  ·rename_i s dL dK;cases dK;split at h<;>first|(cases h;done)|skip
   rename_i A S;cases h;exact .cons ⟨s,rfl,Ua A⟩ (abe S)
theorem al7{N:Nat}{vars ke:List Nat}{gB:FuncId}{aQ:Array Oper}(h:T5 N vars aQ=some (ke,gB)):∃ cG cP t cs c,aQ=#[cG,cP]∧M9 N vars ke gB cG cP t cs c:=by
 unfold T5 at h;split at h<;>first|(cases h;done)|skip
 rename_i cG cP ajE;split at h<;>first|(cases h;done)|skip
 rename_i XI first cs t c bA bO b5 cx ft nt
 split at h<;>first|(cases h;done)|skip
 rename_i mV gu;split at h<;>first|(cases h;done)|skip
 rename_i aj;obtain⟨rfl,ai,aZ,ad,bH⟩:=aj;cases ab:HF vars cs.toList with
 |none=>rw[ab]at h;cases h
 |some l =>
  rw[ab]at h;cases h;have od:first=#[]:=Array.eq_empty_of_size_eq_zero aZ
  subst od;exact⟨cG,cP,mV,cs,c,by rw[← Lz];exact ajE,bA,bO,b5,cx,ft,nt,gu,Array.eq_empty_of_size_eq_zero ai,ad,bH,abe ab⟩
theorem agN{N:Nat}{vars ke:List Nat}{gB:FuncId}{rest:bo}:∀ {code:Code}{pre:List bo},Kh P N vars code=some (pre,ke,gB,rest)→r2 P N vars ke gB pre rest code:=by
 intro code;induction code with
 |seq x y _ ih =>
  intro pre h;unfold Kh at h;split at h
  ·rename_i akF XI hd;cases aj:mE P N vars 4000 y with
   |none=>rw[aj]at h;cases h
   |some c =>
    rw[aj]at h;cases h;unfold X3 at hd;split at hd<;>first|(cases hd;done)|skip
    exact⟨al7 hd,qA aj⟩
  ·split at h<;>first|(cases h;done)|skip
   rename_i c ats akF XI aty A S;cases h;exact⟨qA A,ih S⟩
 |_=>intro pre h;cases h
theorem agL{f:FuncId}{na:Nat}{vars:List Nat}{d:x4}(h:XQ P f na vars=some d):EE P f d:=by
 unfold XQ at h;split at h<;>first|(cases h;done)|skip
 rename_i fn mj;split at h<;>first|(cases h;done)|skip
 rename_i code Dc;split at h<;>first|(cases h;done)|skip
 rename_i aj;split at h<;>first|(cases h;done)|skip
 rename_i pre ma gB rest results T hr;cases h;simp only[Bool.and_eq_true,K6]at aj;obtain⟨Do,ad⟩:=aj;unfold MY at ad;simp only[Bool.and_eq_true,decide_eq_true_eq]at ad;obtain⟨⟨A,S⟩,ae⟩:=ad;refine⟨fn,code,mj,Dc,Do,agN T,T9 hr,A,fun k s ab=>?_,S⟩;have:=nU.1 ae k (CS.2 (j2.1 ab).1);have Gn:vars[k]?=some s:=ab;simp only[Gn,Bool.and_eq_true,Ln,decide_eq_true_eq,beq_iff_eq]at this;show(k<na→s=k)∧(na≤k→na≤s∧s<fn.ntmps);omega
end Go.Eng
namespace Go.Eng
open Go
variable {P:Program}
section
variable {PR:kA}
theorem wk.mono{N:Nat}{vars:List Nat}{c:bo}{e:ar}{h:J}{Q gA:dM→ar→J→Prop}(L:∀ x e h,Q x e h→gA x e h)(ax:wk P N vars c e h Q):wk P N vars c e h gA :=
 ax.imp (W.mono L) id
theorem QI{f:FuncId}{bm:bB}(aZ:bK P f bm)(AO:PR.F f=true){args:ar}{h:J}{post:Prop}(fB:post){Q:aT}(hn:args.length=bm.iH)(T:∀ N,wk P N bm.vars bm.body (kn bm args) h (Cy bm h.next Q)):iM P f args h post Q:=by
 obtain⟨fn,code,A,S,ae⟩:=aZ.fn;rcases T fn.ntmps with⟨x,cA,D,aC,L⟩|⟨v,D,hp,hr⟩
 ·left;have Fo:(x=.normal∨x=.ret)→cu (hF cA (fin bm.body.cX h.next D) bm.results) (fun vs=>Q (packed vs) (fin bm.body.cX h.next D))→bj P f args h Q:=by
   intro af hr;cases kq:hF cA (fin bm.body.cX h.next D) bm.results with
   |none=>rw[kq]at hr;exact hr.elim
   |some vs =>
    rw[kq]at hr;exact⟨packed vs,_,my.abF aZ hn A ⟨x,cA,vs,D,aC,af,rfl,kq,rfl⟩,hr⟩
  cases x with
  |normal=>exact Fo (.inl rfl) L
  |ret=>exact Fo (.inr rfl) L
  |exit i=>exact L.elim
 ·exact .inr ⟨AO,fB,v,D,yd.alz aZ hn A hp,hr⟩
theorem QH{f:FuncId}{bm:bB}(aZ:bK P f bm)(AO:PR.F f=true)(hp:bm.body.cX=true){args:ar}{h:J}{post:Prop}(fB:post){Q:aT}{k:Nat}(hr:bm.results=[.var k])(hn:args.length=bm.iH)
  (T:∀ N,W P N bm.vars bm.body (xI k Q) (kn bm args) h):iM P f args h post Q:=by
 refine QI aZ AO fB hn fun N=>wk.mono ?_ ((T N).mU hp);intro x e D L;have iW:=hp;have key:cu e[k]? (fun v=>Q v D)→cu (hF e (fin bm.body.cX h.next D) bm.results) fun vs=>Q (packed vs) (fin bm.body.cX h.next D):=by
  intro L;rw[iW,hr];cases aK:e[k]? with
  |none=>rw[aK]at L;exact L.elim
  |some v=>rw[aK]at L;simpa[hF,l7.get,aK,cu,packed,fin] using L
 cases x with
 |exit i=>exact L.elim
 |normal=>exact key L
 |ret=>exact key L
theorem E4{f:FuncId}{bm:bB}(aZ:bK P f bm)(AO:PR.F f=true)(hp:bm.body.cX=true){args:ar}{h:J}{post:Prop}(fB:post){Q:aT}(hr:bm.results=[])(hn:args.length=bm.iH)
  (T:∀ N,W P N bm.vars bm.body (Mx Q) (kn bm args) h):iM P f args h post Q:=by
 refine QI aZ AO fB hn fun N=>wk.mono ?_ ((T N).mU hp);intro x e D L;have iW:=hp;cases x with
 |exit i=>exact L.elim
 |normal=>simp only[Cy,iW,hr,hF,cu,packed,fin];exact L
 |ret=>simp only[Cy,iW,hr,hF,cu,packed,fin];exact L
theorem wC{f:FuncId}{bm:bB}(aZ:bK P f bm)(AO:PR.F f=true)(hp:bm.body.cX=true){args:ar}{h:J}{post:Prop}(fB:post){Q:aT}{k size:Nat}{agg:Bool}(hr:bm.results=[.cell k agg size])(hn:args.length=bm.iH)
  (T:∀ N,W P N bm.vars bm.body (B3 k agg size Q) (kn bm args) h):iM P f args h post Q:=by
 refine QI aZ AO fB hn fun N=>wk.mono ?_ ((T N).mU hp);intro x e D L;have iW:=hp;have key:cu e[k]? (fun p=>cu (aw (.load agg size) [p] D.get) fun v=>Q v D)→cu (hF e (fin bm.body.cX h.next D) bm.results) fun vs=>Q (packed vs) (fin bm.body.cX h.next D):=by
  intro L;rw[iW,hr];cases aK:e[k]? with
  |none=>rw[aK]at L;exact L.elim
  |some v =>
   rw[aK]at L;simp only[cu]at L;cases ad:aw (.load agg size) [v] D.get with
   |none=>rw[ad]at L;exact L.elim
   |some w=>rw[ad]at L;simpa[hF,l7.get,aK,ad,cu,packed,fin] using L
 cases x with
 |exit i=>exact L.elim
 |normal=>exact key L
 |ret=>exact key L
theorem bj.x{f:FuncId}{args:ar}{h:J}{post:Prop}{Q:aT}(aj:bj P f args h Q):iM P f args h post Q:=.inl aj
end
end Go.Eng
namespace Go.Eng
open Go
variable {P:Program}
section
variable {aQ:Array Oper}{Q:Exit→Act→List Frame→World→Prop}{rest:List Nat}{a:Act}{cs cs':List Frame}{w:World}{i:Nat}{o:Oper}
theorem anV{v:Value}{w':World}(ah:aQ[i]?=some o)(aA:o.guard=none)(hr:(execOp a.eval o).run P w=.ok .recover w')(aj:recoverD cs=some (v,cs'))(h:wpOpsSIn Fence.wide 0 P aQ Q rest (a.put o.dst v) cs' w'):wpOpsSIn Fence.wide 0 P aQ Q (i::rest) a cs w:=by
 have ax:Region.wanted o (yielded aQ a.tmps)=true:=by simp[Region.wanted,aA]
 simp only[wpOpsSIn,ah,ax,if_true,hr,aj];exact⟨fun _ _=>trivial,h⟩
end
abbrev Iq(hL:TypeId)(e l:Int):Value:=.iface hL (.agg #[.int .i64 e,.int .i64 l])
def nV(h:J)(gt eS:Nat)(e l:Int):J:=((h.alloc (.aq [.int .i64 e,.int .i64 l] true)).set gt (.aq [.int .i64 e] true)).set eS (.aq [.int .i64 l] true)
abbrev fQ(id:Nat):Value:=.pointer (some ⟨id,0,none⟩)
structure IH(P:Program)(f:FuncId)(hL:TypeId)(n7:bo):Prop where
 code : ∃ fn id Bv aQ BT x, P.funcs[f]? = some fn ∧ fn.body = some (.seq (.region id aQ false) (.seq (.region Bv BT false) (.cond (.tmp 9) x .skip))) ∧ fn.ntmps = 14 ∧ fn.results = #[] ∧ (fn.name == "runtime.NumGoroutine") = false ∧
  (∃ q6 cG cP gm q7 ot ns q8 l9 It,aQ=#[q6,cG,cP,gm,q7,ot,ns,q8]∧(q6.op=.call l9∧q6.dst=some 5∧q6.guard=none∧l9.callee=.builtin .recover∧l9.args=#[])∧(cG.op=.typeAssert (.tmp 5) It hL true∧cG.dst=some 6∧cG.guard=none) ∧
   (cP.op=.move (.tmp 6)∧cP.dst=some 4∧cP.guard=none)∧(gm.op=.extract (.tmp 4) 0∧gm.dst=some 7∧gm.guard=none)∧(q7.op=.extract (.tmp 4) 1∧q7.dst=some 8∧q7.guard=none) ∧
   (ot.op=.alloc hL∧ot.dst=some 2∧ot.guard=none)∧(ns.op=.store hL (.tmp 2) (.tmp 7)∧ns.dst=none∧ns.guard=none)∧(q8.op=.assign (.tmp 8)∧q8.dst=some 3∧q8.guard=none)) ∧
  (∃ eP,BT=#[eP]∧eP.op=.move (.tmp 3)∧eP.dst=some 9∧eP.guard=none)∧mE P 14 [0,1,2,3] 4000 x=some n7
 zero:oz P hL=some [.int .i64 0,.int .i64 0]
 Ii:(yL P hL).isSome=true
 held:Gd P hL=false
 size:gJ P hL=some 2
 iI:n7.cX=true
 run:∀(gt eS Ah:Nat) (e l:Int) (h:J) (qx cl:Value),gt≠eS→Ah≠gt→Ah≠eS→h.get gt=some (.aq [qx] true)→h.get eS=some (.aq [cl] true)→h.get Ah=some (.aq [.int .i64 e,.int .i64 l] true) →
  W P 14 [0,1,2,3] n7 (fun x _ D=>x=.normal∧D=(h.set gt (.aq [.int .i64 e] true)).set eS (.aq [.int .i64 l] true)) [fQ gt,fQ eS,fQ Ah,.bool true] h
theorem ao0{h:J}{G:Nat→Option bQ}(id:Nat)(o gl:bQ)(aA:h.get id=some o):over h (fS G id gl)=over h G:=by
 funext i
 unfold over fS;by_cases e:i=id
 ·subst e;rw[aA];rfl
 ·rw[if_neg e]
theorem agI{f:FuncId}{hL:TypeId}{n7:bo}(hr:IH P f hL n7){e l:Int}{gt eS:Nat}{S:J}{qx cl:Value}(cH:gt≠eS)(tc:S.get gt=some (.aq [qx] true))(bC:S.get eS=some (.aq [cl] true))
  {base:Nat}{G:Nat→Option bQ}{al:Ren}{w:World}(aM:b1 base (over S G) al w) (bZ:jf al S.next (S.next+1)){cs':ar}(hA:be al [fQ gt,fQ eS] cs') :
  CallsDIn Fence.wide 0 P f cs'.toArray (.panicking (sF (Iq hL e l))) w fun j4 qi w'=>settle qi=.returning∧(∃ v,j4=.returned v)∧∃ bd,fj al bd S.next (S.next+1)∧b1 base (over (nV S gt eS e l) G) bd w'∧gi base w w':=by
 obtain⟨fn,id,Bv,aQ,BT,x,aZ,T,bH,kq,Do,⟨q6,cG,cP,gm,q7,ot,ns,q8,l9,It,rfl,⟨dP,a2,a3,a4,a5⟩,⟨dJ,kB,qt⟩,⟨d1,d2,d3⟩,⟨az,aL,bq⟩,⟨f1,f2,f3⟩,⟨g1,g2,g3⟩,⟨A,pg,ae⟩,⟨i1,i2,i3⟩⟩,⟨eP,rfl,Tr,Ts,Tt⟩,RZ⟩:=hr.code;obtain⟨kF,hu⟩:∃ kF,P.underlying hL=some (.struct kF):=by
  have:=hr.Ii;unfold yL at this;split at this
  ·rename_i kF h;exact⟨kF,h⟩
  ·cases this
 obtain⟨cR,cd,rfl,qT,dw⟩:∃ cR cd,cs'=[cR,cd]∧bL al (fQ gt) cR∧bL al (fQ eS) cd:=by
  cases hA with
  |cons _ a _ r ai hr=>cases hr with
   |cons _ b _ bM T fO=>cases fO;exact⟨a,b,rfl,ai,T⟩
 refine callsDIn_of_wpSIn aZ T trivial fun ww cs st=>?_;have t0:[cR,cd].toArray++Array.replicate (fn.ntmps-[cR,cd].toArray.size) undef=#[cR,cd,undef,undef,undef,undef,undef,undef,undef,undef,undef,undef,undef,undef]:=by rw[bH];rfl
 rw[t0];apply wpSIn_seq;apply wpSIn_region;change wpOpsSIn _ _ _ _ _ [0,1,2,3,4,5,6,7] _ _ _;obtain⟨eL,Tc⟩:∃ eL:Value,eL=.agg #[.int .i64 e,.int .i64 l]:=⟨_,rfl⟩;refine anV (o:=q6) (w':=w) (v:=.iface hL eL) (cs':={ ww with mode:=.panicking [{ v:=.iface hL eL,recovered:=true }] }::cs) rfl a3 (by simp[execOp,dP,resolve,a4,a5,invoke,builtin]) (by simp[recoverD,st,sF,Iq,Tc]) ?_;rw[a2];refine qb (o:=cG) (v:=.tuple #[eL,.bool true]) (w':=w) rfl qt ?_ ?_
 ·simp[execOp,dJ,Act.eval,Act.put,Instr.typeAssert,run_underlying hu]
 rw[kB];refine qb (o:=cP) (v:=.tuple #[eL,.bool true]) (w':=w) rfl d3 ?_ ?_
 ·simp[execOp,d1,Act.eval,Act.put]
 rw[d2];refine qb (o:=gm) (v:=eL) (w':=w) rfl bq ?_ ?_
 ·simp[execOp,az,Act.eval,Act.put,Instr.extract]
 rw[aL];refine qb (o:=q7) (v:=.bool true) (w':=w) rfl f3 ?_ ?_
 ·simp[execOp,f1,Act.eval,Act.put,Instr.extract]
 rw[f2];generalize dW:Act.put _ (some 8) _=qn;have Rw:qn.tmps[0]?=some cR:=by rw[← dW];simp[Act.put]
 have aip:qn.tmps[1]?=some cd:=by rw[← dW];simp[Act.put]
 have Rx:qn.eval (.tmp 7)=eL:=by rw[← dW];simp[Act.eval,Act.put]
 have Ry:qn.tmps[8]?=some (.bool true):=by rw[← dW];simp[Act.put]
 have RA:qn.tmps.size=14:=by rw[← dW];simp[Act.put]
 have Rz:qn.defers=[]:=by rw[← dW];rfl
 clear dW;have za:kindOf P ot.op=some (.a (.new [.int .i64 0,.int .i64 0]),[]):=by simp[g1,kindOf,xo,hr.zero,hr.held]
 have cQ:al S.next=none:=bZ _ (br _) (by omega);obtain⟨fs,v5,Io,ck,cm,cb,eC⟩:=Nt (ev:=qn.eval) za (vs:=[]) .nil aM (cells:=[.int .i64 0,.int .i64 0]) (mk:=fun id=>fQ id) rfl (id:=S.next) cQ;refine qb (o:=ot) (v:=v5) (w':=Io) rfl g3 (eC ot rfl) ?_;rw[g2];have vk:kindOf P ns.op=some (.w (.store 2),[.tmp 2,.tmp 7]):=by simp[A,kindOf,hr.size]
 have bv:(S.alloc (.aq [.int .i64 0,.int .i64 0] true)).hX (fS (over S G) S.next (.aq [.int .i64 0,.int .i64 0] true)):=fun id o ah=>by
  unfold fS;by_cases e:id=S.next
  ·subst e;rw[J.hy]at ah;rw[if_pos rfl,ah]
  ·rw[J.tR,if_neg e]at ah;rw[if_neg e];unfold over;rw[ah];rfl
 have Bq:∀ al,bL al eL eL:=fun al=>by
  rw[Tc];exact bL.agg (al:=al) [.int .i64 e,.int .i64 l] [.int .i64 e,.int .i64 l] (be.plain (by intro v ad;simp at ad;rcases ad with rfl|rfl<;>rfl)) (by intro v ad;simp at ad;rcases ad with rfl|rfl<;>rfl)
 have Br:bh (.store 2) [fQ S.next,eL] (S.alloc (.aq [.int .i64 0,.int .i64 0] true))=some (undef,S.alloc (.aq [.int .i64 e,.int .i64 l] true)):=by
  rw[Tc];exact kk rfl rfl rfl rfl
 generalize cM:Act.put qn (some 2) v5=B;have aiq:B.tmps[0]?=some cR:=by rw[← cM,Act.qe (by simp)];exact Rw
 have air:B.tmps[1]?=some cd:=by rw[← cM,Act.qe (by simp)];exact aip
 have YX:B.tmps[2]?=some v5:=by rw[← cM];exact Act.zW (by omega)
 have RB:B.eval (.tmp 2)=v5:=by simp only[Act.eval,lF,YX];rfl
 have RC:B.eval (.tmp 7)=eL:=by
  rw[← Rx,← cM];simp only[Act.eval,lF];rw[Act.qe (by simp)]
 have RD:B.tmps[8]?=some (.bool true):=by rw[← cM,Act.qe (by simp)];exact Ry
 have RF:B.tmps.size=14:=by rw[← cM,Act.zX];exact RA
 have RE:B.defers=[]:=by rw[← cM,Act.B1];exact Rz
 obtain⟨Vx,EB,ri,m1,m2⟩:=VH (ev:=B.eval) vk (vs:=[fQ S.next,eL]) (by rw[Fx,Fx,RB,RC];exact .cons _ _ _ _ ck (.cons _ _ _ _ (Bq _) .nil)) cm bv Br (fun id A S=>absurd S (by simp;exact A));have dS:=cb.trans m2.step;have so:al.le (al.put S.next fs):=Ren.vG cQ fs;have Zq:(al.put S.next fs).le EB:=m2.agree.le fun id A S=>absurd S (by simp;exact A);have aiD:b1 base (over (S.alloc (.aq [.int .i64 e,.int .i64 l] true)) G) EB ri:=by
  have:=m2.fI;rw[ao0 _ _ _ (J.hy _ _)]at this;refine b1.congr this fun id=>?_;unfold over;rw[J.tR];by_cases e:id=S.next
  ·rw[if_pos e];rfl
  ·rw[if_neg e];cases S.get id<;>rfl
 have aiG:fj al EB S.next (S.next+1):=fun id y9=>by
  rw[m2.agree id (by simp;rcases y9 with h|h<;>omega)];have:id≠S.next:=by omega
  simp only[Ren.put,this,if_false]
 have act:wpOpsSIn Fence.wide 0 P #[q6,cG,cP,gm,q7,ot,ns,q8] (Exit.thenS (((Code.region Bv #[eP] false).seq (.cond (.tmp 9) x .skip)).wpSIn Fence.wide 0 P (bodyPostS P fn ww cs fun j4 qi w'=>settle qi=.returning∧(∃ v,j4=.returned v)∧∃ bd,fj al bd S.next (S.next+1)∧b1 base (over (nV S gt eS e l) G) bd w'∧gi base w w')) (bodyPostS P fn ww cs fun j4 qi w'=>settle qi=.returning∧(∃ v,j4=.returned v)∧∃ bd,fj al bd S.next (S.next+1)∧b1 base (over (nV S gt eS e l) G) bd w'∧gi base w w')) [7] B ({ ww with mode:=.panicking [{ v:=.iface hL eL,recovered:=true }] }::cs) ri:=by
  refine qb (o:=q8) (v:=.bool true) (w':=ri) rfl i3 ?_ ?_
  ·simp[execOp,i1,Act.eval,RD]
  rw[i2];apply wpSIn_seq;apply wpSIn_region;change wpOpsSIn _ _ _ _ _ [0] _ _ _;generalize sg:Act.put B (some 3) _=bb;have ais:bb.tmps[0]?=some cR:=by rw[← sg,Act.qe (by simp)];exact aiq
  have ait:bb.tmps[1]?=some cd:=by rw[← sg,Act.qe (by simp)];exact air
  have aiu:bb.tmps[2]?=some v5:=by rw[← sg,Act.qe (by simp)];exact YX
  have KW:bb.tmps[3]?=some (.bool true):=by rw[← sg];exact Act.zW (by omega)
  have Y0:bb.tmps.size=14:=by rw[← sg,Act.zX];exact RF
  have RG:bb.defers=[]:=by rw[← sg,Act.B1];exact RE
  refine qb (o:=eP) (v:=.bool true) (w':=ri) rfl Tt (by simp[execOp,Tr,Act.eval,KW]) ?_;rw[Ts];show(Code.cond (.tmp 9) x .skip).wpSIn _ _ _ _ _ _ _;refine wpSIn_cond (t:=true) (by simp only[Act.eval,lF];rw[Act.zW (by omega)];rfl) ?_;simp only[if_true];refine wpSIn_of_wpIn rfl ?_;have ml:∀ id o,S.get id=some o→id≠S.next:=fun id o aA=>by have:=J.bY aA;omega
  obtain⟨o2,mf,D,aC,akd,rfl⟩:=W.sound (hr.run gt eS S.next e l (S.alloc (.aq [.int .i64 e,.int .i64 l] true)) qx cl cH (Ne.symm (ml _ _ tc)) (Ne.symm (ml _ _ bC))
   (by rw[J.oH (J.bY tc)];exact tc) (by rw[J.oH (J.bY bC)];exact bC) (J.hy _ _))
  subst akd;have sy:hG none=Fence.wide:=rfl;rw[← sy];refine aC.2 x (qA RZ) base (over (S.alloc (.aq [.int .i64 e,.int .i64 l] true)) G) EB ri _ none (fun _=>rfl) (oO _ _) (fun id i1 i2=>by simp only[J.zN,J.HL]at i1 i2;omega) aiD ?_ _ fun a' bd w' ag=>?_
  ·refine⟨by rw[Act.zX];exact Y0,rfl,fun k s v ab ad=>?_⟩;have bX:al.le EB:=Ren.le_trans so Zq
   match k,ab,ad with
   |0,ab,ad=>cases ab;cases ad;exact⟨cR,by rw[Act.qe (by simp)];exact ais,bL.mono bX qT⟩
   |1,ab,ad=>cases ab;cases ad;exact⟨cd,by rw[Act.qe (by simp)];exact ait,bL.mono bX dw⟩
   |2,ab,ad=>cases ab;cases ad;exact⟨v5,by rw[Act.qe (by simp)];exact aiu,bL.mono Zq ck⟩
   |3,ab,ad=>cases ab;cases ad;exact⟨.bool true,by rw[Act.qe (by simp)];exact KW,.same _ rfl⟩
   |k+4,ab,_=>simp at ab
  ·obtain⟨bG,_,dR,bp⟩:=ag.defers;rw[bp hr.iI]at dR;show a'.defers=[]∧_;refine⟨by rw[dR,Act.B1];exact RG,.panicking [{ v:=.iface hL eL,recovered:=true }],rfl,.tuple #[],?_,rfl,⟨_,rfl⟩,bd,?_,?_,dS.trans ag.step⟩
   ·simp[results,kq]
   ·refine fun id y9=>?_;rw[ag.agree id (by simp;omega)];exact aiG id y9
   ·refine b1.congr ag.fI fun id=>?_;have ak:(S.alloc (.aq [.int .i64 e,.int .i64 l] true)).step (nV S gt eS e l):=aC.1;exact(HY ak G id).symm
 rcases m1 ns rfl with hm|⟨hm,_⟩
 ·refine qb (o:=ns) (v:=Vx) (w':=ri) rfl ae hm ?_;rw[pg];exact act
 ·exact abK (o:=ns) (w':=ri) rfl ae hm (by rw[pg];exact act)
inductive wq(P:Program)(N:Nat)(vars:List Nat):bo→ar→J→Value→J→ar→Prop
 |here {s c env h v D}(hr:tD P s [] [] env h v D):wq P N vars (.seq (.aW s []) c) env h v D env
 |next {s o c env h ts A v D mf}(hr:sU P s [] [] env h ts A) (r:wq P N vars c (kX ts o env) A v D mf):wq P N vars (.seq (.aW s o) c) env h v D mf
theorem wq.step{N:Nat}{vars:List Nat}{c:bo}{env mf:ar}{h D:J}{v:Value}(r:wq P N vars c env h v D mf):h.step D:=by
 induction r with
 |here hr=>exact hr.step
 |next hr _ ih=>exact hr.step.trans ih
theorem wq.wp{N:Nat}{vars:List Nat}{base:Nat}{c:bo}{env mf:ar}{h D:J}{v:Value}(r:wq P N vars c env h v D mf):∀ {code:Code},eD P N vars c code→∀(G:Nat→Option bQ) (al:Ren) (w:World) (a:Act),0<w.heap.size→h.hX G→jf al h.next D.next→b1 base G al w→kz al N vars env a.tmps →
  ∀ Q:Exit→Act→World→Prop,(∀ a' bd w' v',ya h D base G al w a v a' bd w' v'→kz bd N vars mf a'.tmps→Q (.panic (sF v')) a' w')→code.wpIn (hG none) 0 P Q a w:=by
 induction r with
 |here hr =>
  intro code aj G al w a bp bv bZ aM c3 Q dZ;cases code<;>simp only[eD]at aj;rename_i x y;obtain⟨k4,_⟩:=aj;cases x<;>simp only[eD]at k4;exact wpIn_seq (acI k4 hr none bp bv bZ aM c3 fun a' bd w' v' aK ab=>dZ a' bd w' v' aK (ab rfl))
 |next hr r ih =>
  intro code aj G al w a bp bv bZ aM c3 Q dZ;cases code<;>simp only[eD]at aj;rename_i x y;obtain⟨k4,eN⟩:=aj;cases x<;>simp only[eD]at k4;refine wpIn_seq (Mv k4 hr none bv (bZ.left r.step.next) aM c3 fun a' bd w' ag _=>?_);exact ih eN (over _ G) bd w' a' (BS bp ag.step.size) (oO _ _) (bZ.right hr.step.next ag.agree) ag.fI ag.env Q fun a2 fZ dd v2 bC aK=>dZ a2 fZ dd v2 (ag.Kr hr.step r.step rfl bC) aK
theorem my.alA{f:FuncId}{d:x4}(aZ:EE P f d){hL:TypeId}{n7:bo}(y4:IH P d.gB hL n7){args:ar}{h:J}(hn:args.length=d.iH){fn:Func}(mj:P.funcs[f]?=some fn)
  {env jB:ar}{A S:J}{e l:Int}{gt eS:Nat}{qx cl:Value}{vs:ar}(hp:tE P fn.ntmps d.vars d.pre (args++List.replicate (d.vars.length-args.length) undef) h true env A) (hA:r8 env d.ma=some [fQ gt,fQ eS])
  (hr:wq P fn.ntmps d.vars d.rest env A (Iq hL e l) S jB) (cH:gt≠eS) (De:A.get gt=some (.aq [qx] true)){WP QN:Value}(tc:S.get gt=some (.aq [WP] true)) (bC:S.get eS=some (.aq [QN] true))
  (kq:hF jB (nV S gt eS e l) d.results=some vs):my P f args h (packed vs) (nV S gt eS e l):=by
 obtain⟨Rg,code,s5,pg,ae,aB,aG,a1,bN,b7⟩:=aZ.fn;rw[mj]at s5;cases s5;have R3:Enters P f:=by
  intro args w;have tU : ¬ fn.name = "runtime.NumGoroutine" := by simpa using ae
  simp[callFunc,mj,tU,pg]
 have GV:S.step (nV S gt eS e l):=by
  have bT:=J.r0 S (.aq [.int .i64 e,.int .i64 l] true);have g1:(S.alloc (.aq [.int .i64 e,.int .i64 l] true)).get gt=some (.aq [WP] true):=by rw[J.oH (J.bY tc)];exact tc
  have g2:(S.alloc (.aq [.int .i64 e,.int .i64 l] true)).get eS=some (.aq [QN] true):=by rw[J.oH (J.bY bC)];exact bC
  have b4:=J.xK g1 (.aq [.int .i64 e] true) (by simp);have g3:((S.alloc (.aq [.int .i64 e,.int .i64 l] true)).set gt (.aq [.int .i64 e] true)).get eS=some (.aq [QN] true):=by
   rw[J.qG,if_neg (by intro e;exact cH e.1.symm)];exact g2
  exact(bT.trans b4).trans (J.xK g3 _ (by simp))
 have dS:h.step (nV S gt eS e l):=(hp.step.trans hr.step).trans GV;have ik:(nV S gt eS e l).next=S.next+1:=rfl;refine⟨R3,dS,fun base G al w gq bv bZ aM ct=>?_⟩;refine callsIn_wide.1 (callsIn_of_wp_marks (n:=0) mj pg trivial ?_);have sy:hG none=Fence.wide:=rfl;rw[← sy];have hD:=hp.step.next;have h9:=hr.step.next;rw[ik]at bZ;refine Uz hp aB G al w _ bv (bZ.left (by omega)) aM (Yl ct hn a1 bN b7) _ (fun T=>by cases T) (fun _ yr j8 a' bd w' ag=>?_);obtain⟨bG,_,dR,bp⟩:=ag.defers;rw[bp rfl]at dR;cases yr<;>first|(simp only[r2]at j8;done)|skip
 rename_i bk y;cases bk<;>first|(simp only[r2]at j8;done)|skip
 rename_i id aQ fq;cases fq<;>simp only[r2]at j8;obtain⟨⟨cG,cP,t,cap,c,rfl,hd⟩,oL⟩:=j8;refine wpIn_seq (X4 hd ag.env hA fun a2 cs' il Ge R1=>?_);have zn:0<w'.heap.size:=by
  have aiw:over A G gt=some (.aq [qx] true):=by unfold over;rw[De];rfl
  have:=ag.fI.gC gt;rw[aiw]at this;obtain⟨fs,Sm⟩:=r1.1 this.symm;have:=ag.fI.lE gt fs Sm;omega
 refine hr.wp oL (over A G) bd w' a2 zn (oO _ _) ((bZ.left (show S.next≤S.next+1 by omega)).right hD ag.agree) ag.fI Ge _ fun a3 EA sR v3 gP aj3=>?_;have vg:a3.defers=[{ target:=.fn (.func d.gB) cs'.toArray,args:=#[] }]:=by rw[gP.defers,R1,dR];rfl
 have G7:v3=Iq hL e l:=by
  have:=gP.val;cases this with
  |same _ h=>simp[Value.plain]at h
  |iface _ _ v' h =>
   congr 1
   have:∀ {cs cs':ar},be EA cs cs'→(∀ c∈cs,∃ k z,c=.int k z)→cs'=cs:=by
    intro cs cs' aj;induction cs generalizing cs' with
    |nil=>cases aj;exact fun _=>rfl
    |cons a r ih =>
     cases aj with
     |cons _ a' _ dL ai hr =>
      intro au;obtain⟨k,z,rfl⟩:=au a (by simp);cases ai;rw[ih hr fun c aj=>au c (by simp[aj])]
   generalize bp:(Value.agg #[.int .i64 e,.int .i64 l])=z at h;cases h with
   |same _ h=>rfl
   |agg XW arO aj _ =>
    have aiT:XW=[.int .i64 e,.int .i64 l]:=by
     have:=congrArg (fun v=>match v with|.agg a=>a.toList|_=>[]) bp;simpa using this.symm
    subst aiT;rw[this aj (by intro c aj;simp at aj;rcases aj with rfl|rfl<;>exact⟨_,_,rfl⟩)]
   |ptr=>cases bp
   |slice=>cases bp
   |clip=>cases bp
   |map=>cases bp
   |func=>cases bp
   |yield=>cases bp
   |iface=>cases bp
   |tuple=>cases bp
 subst G7;have C7:b1 base (over S G) EA sR:=b1.congr gP.fI fun id=>(HY hr.step G id).symm;have RK:fj al EA h.next S.next:=ag.agree.trans gP.agree hD h9;show LeavesInM (hG none) 0 P fn a3.tmps _ a3.defers (.panicking _) sR;rw[vg];have aiP:be EA [fQ gt,fQ eS] cs':=be.mono (gP.agree.le ((bZ.left (show S.next≤S.next+1 by omega)).right hD ag.agree)) il;refine⟨by simp,.inr ⟨fun hd=>by simp[hG,Fence.wide]at hd,.func d.gB,cs'.toArray,d.gB,cs'.toArray,rfl,?_,fun _ _=>trivial,?_⟩⟩
 ·have eY:Enters P d.gB:=by
   obtain ⟨ai0,_,_,_,_,_,cd,cS,_,_,acc,_⟩:=y4.code;intro args w;have aoR : ¬ ai0.name = "runtime.NumGoroutine" := by simpa using acc
   simp[callFunc,cd,aoR,cS]
  simp only[invoke];rw[eY];simp
 ·refine(agI y4 cH tc bC C7 (bZ.right (by omega) RK) aiP).mono ?_;rintro j4 qi Cj ⟨ajT,⟨rv,rfl⟩,aeK,Y6,C8,SS⟩;simp only[ajT];have aj4:kz aeK fn.ntmps d.vars jB a3.tmps:=aj3.mono (Y6.le (bZ.right (by omega) RK));obtain⟨gM,iX,fO⟩:=Mw aj4 C8 (oO (nV S gt eS e l) G) aG kq;refine⟨packed gM,acM fO,packed gM,aeK,rfl,?_,abS iX,C8,(ag.step.trans gP.step).trans SS⟩;exact RK.trans Y6 (by omega) (by omega)
abbrev iL:List Value:=[undef]
abbrev mY:List Value:=[undef,undef]
abbrev mZ:List Value:=[undef,undef,undef]
abbrev uO:List Value:=[undef,undef,undef,undef]
abbrev qj:List Value:=[undef,undef,undef,undef,undef]
abbrev aee:List Value:=[undef,undef,undef,undef,undef,undef]
abbrev Vv:List Value:=[undef,undef,undef,undef,undef,undef,undef]
abbrev MW:List Value:=[undef,undef,undef,undef,undef,undef,undef,undef]
abbrev aef:List Value:=[undef,undef,undef,undef,undef,undef,undef,undef,undef]
abbrev Ij:List Value:=[undef,undef,undef,undef,undef,undef,undef,undef,undef,undef]
abbrev aed:List Value:=[undef,undef,undef,undef,undef,undef,undef,undef,undef,undef,undef]
abbrev ar2:List Value:=[undef,undef,undef,undef,undef,undef,undef,undef,undef,undef,undef,undef,undef]
abbrev ar3:List Value:=[undef,undef,undef,undef,undef,undef,undef,undef,undef,undef,undef,undef,undef,undef,undef,undef]
abbrev asC:List Value:=[undef,undef,undef,undef,undef,undef,undef,undef,undef,undef,undef,undef,undef,undef,undef,undef,undef,undef]
theorem Fl(c:bB)(r:List Value)(h:List.replicate (c.vars.length-0) undef=r):kn c []=r:=by subst h;rfl
theorem gE(c:bB)(r:List Value){a0:Value}(h:List.replicate (c.vars.length-1) undef=r):kn c [a0]=a0::r:=by subst h;rfl
theorem eJ(c:bB)(r:List Value){a0 dP:Value}(h:List.replicate (c.vars.length-2) undef=r):kn c [a0,dP]=a0::dP::r:=by subst h;rfl
theorem s3(c:bB)(r:List Value){a0 dP a2:Value}(h:List.replicate (c.vars.length-3) undef=r):kn c [a0,dP,a2]=a0::dP::a2::r:=by subst h;rfl
theorem ahP(c:bB)(r:List Value){a0 dP a2 a3:Value}(h:List.replicate (c.vars.length-4) undef=r):kn c [a0,dP,a2,a3]=a0::dP::a2::a3::r:=by subst h;rfl
end Go.Eng
