/-
  Part of a proof of the laws of layer 07 (reader): the laws.
  Conditions: none.
-/
import Derived.Test.YtjbjpooafphpnaaGreatDoorVb
set_option linter.unusedSimpArgs false
set_option linter.unusedVariables false
namespace Go.Eng.Sy
open Go Go.Eng Go.Proofs
theorem X9(b:UInt8)(h:J)(Q:aT)(L:Q (.bool (rJ b)) h):bj Tryz.prog 39 [.int .u8 b.toNat] h Q:=by
 refine c7 (k:=1) amU rfl rfl rfl fun N=>?_;rw[gE PD iL rfl];delta PD;replace L:=U L;have hd:rJ b=(decide (48≤b.toNat) && decide (b.toNat≤57)):=rfl;have go:∀ c,c=rJ b→Q (.bool c) h:=fun c e=>by rw[e];exact L.h
 rw[hd]at go;replace go:=Hid.mk go;clear L hd;by_cases A:(48:Int)≤(b.toNat:Int)<;>by_cases S:(b.toNat:Int)≤57;all_goals
  simp only[aa,av,ay, *];exact go.h _ (by simp;omega)
def DX(z:Int):Bool:=(decide (97≤z) && decide (z≤122)) || (decide (65≤z) && decide (z≤90)) || (z==95)
theorem akQ(b:UInt8)(h:J)(Q:aT)(L:Q (.bool (DX b.toNat)) h):bj Tryz.prog 38 [.int .u8 b.toNat] h Q:=by
 obtain⟨z,bp⟩:∃ z:Int,(b.toNat:Int)=z:=⟨_,rfl⟩;rw[bp]at L ⊢;refine c7 (k:=1) amT rfl rfl rfl fun N=>?_;rw[gE PC iL rfl];delta PC;replace L:=U L;have go:∀ c,DX z=c→Q (.bool c) h:=fun c T=>by rw[← T];exact L.h
 replace go:=Hid.mk go;clear L bp;by_cases A:97≤z<;>by_cases S:z≤122<;>by_cases ae:65≤z<;>by_cases aB:z≤90;all_goals cases aG:(z==95)
 all_goals first
  |(exfalso;omega)
  |(
   simp only[aa,av,ay, *];exact go.h _ (by simp only[DX,A,S,ae,aB,aG];rfl))
theorem als(b:UInt8):nm b=(DX b.toNat || rJ b):=by
 unfold nm BP DX rJ
 congr 1
 rw[Bool.eq_iff_iff];simp;omega
theorem apw{l:aD}(h:J)(Q:aT)(L:∀ D,h.le D→Q (.bool (isWord l)) D):bj Tryz.prog 87 [str l] h Q:=by
 refine c7 (k:=1) anF rfl rfl rfl fun N=>?_;rw[gE Qv mZ rfl];delta Qv;replace L:=U L;have MQ:=vZ h rj (n:=13) (cells:=[.string ⟨#[104,97,114,116,115]⟩,.string ⟨#[100,101,118,105,99,101]⟩,.string ⟨#[117,97,114,116]⟩,.string ⟨#[116,105,109,101,114]⟩,.string ⟨#[103,112,105,111]⟩,.string ⟨#[114,101,115,111,117,114,99,101]⟩,.string ⟨#[116,97,115,107]⟩,.string ⟨#[104,97,110,100,108,101,114]⟩,.string ⟨#[108,111,99,107]⟩,.string ⟨#[105,102]⟩,.string ⟨#[101,108,115,101]⟩,.string ⟨#[114,101,112,101,97,116]⟩,.string ⟨#[104,97,108,116]⟩]) rfl rfl;obtain⟨q,qU⟩:∃ x,h.next=x:=⟨_,rfl⟩;obtain⟨A,hh⟩:∃ x,h.alloc (.aq [.string ⟨#[104,97,114,116,115]⟩,.string ⟨#[100,101,118,105,99,101]⟩,.string ⟨#[117,97,114,116]⟩,.string ⟨#[116,105,109,101,114]⟩,.string ⟨#[103,112,105,111]⟩,.string ⟨#[114,101,115,111,117,114,99,101]⟩,.string ⟨#[116,97,115,107]⟩,.string ⟨#[104,97,110,100,108,101,114]⟩,.string ⟨#[108,111,99,107]⟩,.string ⟨#[105,102]⟩,.string ⟨#[101,108,115,101]⟩,.string ⟨#[114,101,112,101,97,116]⟩,.string ⟨#[104,97,108,116]⟩] true)=x:=⟨_,rfl⟩;have l1:h.le A:=by rw[← hh];exact(J.le.refl _).alloc _
 rw[qU,hh]at MQ;have g:=L.h A l1;replace g:=Hid.mk g;clear L l1;replace MQ:=Hid.mk MQ;have jq:pD [.slice (some ⟨q,0,none⟩) 13 1]=some (I 13):=rfl;simp only[aa,aga, *];refine ch.upto 13 (fun i e D=>D=A∧(rj.take i).contains l=false∧e=[str l,.bool false,.slice (some ⟨q,0,none⟩) 13 1,I i]) ?_ (lj _) ⟨rfl,rfl,rfl⟩;rintro i _ _ R au ⟨rfl,gx,rfl⟩ aN;replace gx:=Hid.mk gx;delta XA;by_cases aV:i<13
 case neg =>
  have dm:¬(i:Int)<13:=by omega
  have ax:isWord l=false:=by
   have:=gx.h;rw[Lt (show rj.length≤i by show 13≤i;omega)]at this;exact this
  rw[ax]at g;simp only[aa,av,ay, *];exact g.h
 case pos =>
  have dm:(i:Int)<13:=by omega
  have DD:IntKind.i64.wrap ((i:Int)+1)=((i+1:Nat):Int):=by rw[cZ (by omega) (by omega)];rfl
  obtain⟨w,ax⟩:∃ w,rj[i]?=some w:=⟨_,hi (show i<rj.length from aV)⟩;obtain⟨id,off,cells,own,az,aL,bq,_⟩:=MQ.h.elem ax;cases ak:(w==l) with
  |true =>
   have Bs:w=l:=by simpa using ak
   have lp:isWord l=true:=by
    unfold isWord;rw[← Bs];simpa using List.mem_of_getElem? ax
   rw[lp]at g;replace ax:=Hid.mk ax;clear Bs lp;simp only[aa,aw,av,ay,iz, *];exact g.h
  |false =>
   have ik:(rj.take (i+1)).contains l=false:=by
    have A:=gx.h;rw[G5,ax];have S:¬ l=w:=by rintro rfl;simp at ak
    simp at A ⊢;exact⟨A,S⟩
   replace ax:=Hid.mk ax;replace ik:=Hid.mk ik;simp only[aa,aw,av,ay,iz, *];exact aN.h _ _ aV ⟨rfl,ik.h,rfl⟩
theorem ad7:∀ {l:aD}{i:Nat},runN (l.take i)=i→i≤l.length→∀ {b},l[i]?=some b→(nm b=true→runN (l.take (i+1))=i+1)∧(nm b=false→runN l=i)
 |[],i,_,_,b,T=>by simp at T
 |x::l,0,_,_,b,T=>by
  simp only[PG,Option.some.injEq]at T;subst T;constructor
  ·intro hn;simp[sJ,hn];rfl
  ·intro hn;simp[sJ,hn]
 |x::l,i+1,hr,au,b,T=>by
  rw[List.take_succ_cons,sJ]at hr;cases af:nm x with
  |false=>rw[af]at hr;simp at hr
  |true =>
   rw[af,if_pos rfl]at hr;obtain⟨A,S⟩:=ad7 (l:=l) (i:=i) (by omega) (by simpa using au) (by simpa using T);constructor
   ·intro hn;rw[List.take_succ_cons,sJ,af,if_pos rfl,A hn]
   ·intro hn;rw[sJ,af,if_pos rfl,S hn]
theorem Eh{l:aD}(h:J)(Q:aT)(L:∀ D,h.le D→Q (.bool (de l)) D):bj Tryz.prog 84 [str l] h Q:=by
 refine c7 (k:=1) anC rfl rfl rfl fun N=>?_;rw[gE Qs uO rfl];delta Qs;replace L:=U L;simp only[aa, *];refine apw h _ fun A l1=>?_;have g:=L.h A l1;replace g:=Hid.mk g;clear L l1;cases l with
 |nil =>
  obtain⟨w,ax⟩:∃ w,isWord []=w:=⟨_,rfl⟩;rw[ax];have:de []=false:=rfl;rw[this]at g;simp only[aa,av,iz, *];exact g.h
 |cons b r =>
  obtain⟨l,ag⟩:∃ l,b::r=l:=⟨_,rfl⟩;have T:l[0]?=some b:=by rw[← ag];rfl
  have cH:(l==[])=false:=by rw[← ag];rfl
  have lX:de l=(decide (l.length≤20) && (runN l==l.length) && decide (57<(b.toNat:Int)) && !isWord l):=by rw[← ag];rfl
  have SO:nm b=false→runN l=0:=fun h=>by rw[← ag,sJ,h];rfl
  have aR:0<l.length:=by rw[← ag];simp
  rw[ag]at g ⊢;clear ag;have oP:=xl T .i64;rw[Ch]at oP;have go:∀ c,c=de l→Q (.bool c) A:=fun c e=>by rw[e];exact g.h
  rw[lX]at go;replace go:=Hid.mk go;clear g lX;by_cases KV:20<l.length
  ·have Rt:(20:Int)<(l.length:Int):=by omega
   have g:=go.h false (by simp;omega);replace g:=Hid.mk g;clear KV;simp only[aa,av,ay,iz,ja, *];exact g.h
  ·have Rt:¬(20:Int)<(l.length:Int):=by omega
   simp only[aa,av,ay,iz,ja, *];refine X9 b A _ ?_;cases y6:rJ b with
   |true =>
    have g:=go.h false (by have:=(CF y6).2.2.2;simp;intro _ _ h;omega);replace g:=Hid.mk g;clear KV y6;simp only[aa, *];exact g.h
   |false =>
    cases ax:isWord l with
    |true =>
     have g:=go.h false (by rw[ax];simp);replace g:=Hid.mk g;clear KV y6 ax;simp only[aa, *];exact g.h
    |false =>
     -- as3 arH is looked at
     have g1:=fun(rt:57<(b.toNat:Int)) (hr:runN l=l.length)=>go.h true (by rw[ax,hr];simp;omega);have g0:=fun(hr:runN l≠l.length)=>go.h false (by rw[ax];simp;intro _ h;exact absurd h hr);have rt:nm b=true→57<(b.toNat:Int):=by
      have:∀ n:Fin 256,rJ (UInt8.ofNat n.val)=false→nm (UInt8.ofNat n.val)=true→57<((UInt8.ofNat n.val).toNat:Int):=by decide +kernel
      have:=this ⟨b.toNat,Ew b⟩;simp only[UInt8.ofNat_toNat]at this;exact this y6
     replace g1:=Hid.mk g1;replace g0:=Hid.mk g0;replace rt:=Hid.mk rt;replace SO:=Hid.mk SO;clear y6 ax;simp only[aa, *];refine ch.upto l.length (fun i e D=>D=A∧runN (l.take i)=i∧∃ x,e=[str l,.bool false,.bool false,I i,x]) ?_ (lj _) ⟨rfl,by simp;rfl,_,rfl⟩;rintro i _ _ R au ⟨rfl,gx,x,rfl⟩ aN;replace gx:=Hid.mk gx;delta Xy;by_cases aV:i<l.length
     case neg =>
      have dm:¬(i:Int)<(l.length:Int):=by omega
      have hr:runN l=l.length:=by
       have:=gx.h;rw[Lt (by omega)]at this;omega
      have vr:nm b=true:=by
       cases hn:nm b with
       |true=>rfl
       |false=>have:=SO.h hn;omega
      have g:=g1.h (rt.h vr) hr;replace g:=Hid.mk g;clear hr vr;simp only[aa,av,ay,ja, *];exact g.h
     case pos =>
      have dm:(i:Int)<(l.length:Int):=by omega
      have DD:IntKind.i64.wrap ((i:Int)+1)=((i+1:Nat):Int):=by rw[cZ (by omega) (by omega)];rfl
      obtain⟨c,aj⟩:∃ c,l[i]?=some c:=⟨_,hi aV⟩;obtain⟨bT,b4⟩:=ad7 gx.h (by omega) aj;have asZ:=xl aj .i64;have lX:=als c;rw[lX]at bT b4;replace bT:=Hid.mk bT;replace b4:=Hid.mk b4;clear aj lX;simp only[aa,av,ay,ja, *];refine akQ c _ _ ?_;cases zb:DX c.toNat with
      |true =>
       simp only[aa,av,ay, *];exact aN.h _ _ aV ⟨rfl,bT.h (by rw[zb];rfl),_,rfl⟩
      |false =>
       simp only[aa, *];refine X9 c _ _ ?_;cases y6:rJ c with
       |true =>
        simp only[aa,av,ay, *];exact aN.h _ _ aV ⟨rfl,bT.h (by rw[zb,y6];rfl),_,rfl⟩
       |false =>
        have g:=g0.h (by rw[b4.h (by rw[zb,y6];rfl)];omega);replace g:=Hid.mk g;simp only[aa, *];exact g.h
def xu:List Int:=[7,7,8,8,8,3,1,2,6,6,5,5,4,4]
theorem akR:∀ k:Fin 14,xu.getD k.val 0=(cy ((k.val:Int)+1):Nat):=by decide
theorem ag3:ie (List.replicate 14 (I 0)) ((List.range' 0 14).map fun i=>(i,1)) 14 1 (xu.map (.int .i64))=some (xu.map (.int .i64),fun id=>.slice (some ⟨id,0,none⟩) 14 1) :=
 rq (by rfl) (by rfl) (by rfl) (by simp[xu,Value.cells,Value.oneCell'])
theorem Mt(op:Int)(h:J)(Q:aT)(L:∀ D,h.le D→Q (I (cy op:Nat)) D):bj Tryz.prog 104 [I op] h Q:=by
 refine c7 (k:=1) alG rfl rfl rfl fun N=>?_;rw[gE NO iL rfl];delta NO;replace L:=U L;by_cases A:op<1
 ·have e:cy op=0:=by unfold cy;(repeat' split)<;>omega
  have g:=L.h h (J.le.refl h);rw[e]at g;replace g:=Hid.mk g;clear L e;simp only[aa,av,ay, *];exact g.h
 by_cases S:14<op
 ·have e:cy op=0:=by unfold cy;(repeat' split)<;>omega
  have g:=L.h h (J.le.refl h);rw[e]at g;replace g:=Hid.mk g;clear L e;simp only[aa,av,ay, *];exact g.h
 obtain⟨k,rfl⟩:∃ k:Nat,op=(k:Int)+1:=⟨(op-1).toNat,by omega⟩;have ab:k<14:=by omega
 have ad:=Tg h xu (n:=14) (cells:=xu.map (.int .i64)) rfl rfl;have Hz:=(J.le.refl h).alloc (.aq (xu.map (.int .i64)) true);obtain⟨id,off,cells,own,az,aL,bq⟩:=nc.elem ad (getD_some (l:=xu) (i:=k) ab 0);have mF:=akR ⟨k,ab⟩;simp only at mF;rw[mF]at bq;have ax:IntKind.i64.wrap ((k:Int)+1-1)=(k:Int):=by rw[cZ (by omega) (by omega)];omega
 have g:=L.h _ Hz;have u:=ag3;simp only[xu,Fx,List.map_nil,List.replicate,List.range',Nat.reduceAdd]at u az aL g;replace g:=Hid.mk g;clear L ad Hz mF;simp only[aa,aw,av,ay, *];exact g.h
theorem wG(n:Nat):∀(hn:n≤9223372036854775807) (h:J) (Q:aT),(∀ D,h.le D→Q (str (bs n)) D)→bj Tryz.prog 36 [I n] h Q:=by
 induction n using Nat.strongRecOn with
 |_ n ih =>
 intro hn h Q L;have T:=X2 n;have qI:IntKind.i64.wrap (48+(n:Int).tmod 10)=48+(n:Int).tmod 10:=by
  have A:(n:Int).tmod 10=((n % 10:Nat):Int):=by
   rw[Int.tmod_eq_emod_of_nonneg (by omega)];omega
  rw[A];exact cZ (by omega) (by omega)
 refine c7 (k:=1) amR rfl rfl rfl fun N=>?_;rw[gE PA mY rfl];delta PA;replace L:=U L;obtain⟨q,qU⟩:∃ x,h.next=x:=⟨_,rfl⟩;have wn:ie [.int .u8 0] [(0,1)] 1 1 [.int .u8 ((UInt8.ofNat (48+n % 10)).toNat:Int)]=some ([.int .u8 ((UInt8.ofNat (48+n % 10)).toNat:Int)],fun id=>.slice (some ⟨id,0,none⟩) 1 1):=uT rfl rfl rfl rfl;obtain⟨A,hh⟩:∃ x,h.alloc (.aq [.int .u8 ((UInt8.ofNat (48+n % 10)).toNat:Int)] true)=x:=⟨_,rfl⟩;have g1:A.get q=some (.aq [.int .u8 ((UInt8.ofNat (48+n % 10)).toNat:Int)] true):=by rw[← hh,← qU];exact J.hy _ _
 have l1:h.le A:=by rw[← hh];exact(J.le.refl _).alloc _
 have dJ:=W5 g1;have kO:∀ D,A.le D→Q (str (bs n)) D:=fun D ag=>L.h D (l1.trans ag);replace kO:=Hid.mk kO;clear L l1;have cF:bs n=if 10≤n then bs (n / 10)++[UInt8.ofNat (48+n % 10)] else[UInt8.ofNat (48+n % 10)]:=by rw[bs]
 have YU:¬(10:Int)=0:=by decide
 by_cases lk:10≤n
 ·have FN:(10:Int)≤(n:Int):=by omega
  rw[if_pos lk]at cF;have K0:IntKind.i64.wrap ((n:Int).tdiv 10)=((n / 10:Nat):Int):=by
   rw[Int.tdiv_eq_ediv_of_nonneg (by omega),cZ (by omega) (by omega)];omega
  replace ih:=Hid.mk ih;replace cF:=Hid.mk cF;simp only[aa,av,ay, *];refine ih.h (n / 10) (by omega) (by omega) A _ fun S l2=>?_;have aR:=N7 18 (n / 10) (by omega);have qB:=cf (a:=bs (n / 10)) (b:=[UInt8.ofNat (48+n % 10)]) (by simp;omega);have g:=kO.h S l2;rw[cF.h]at g;replace g:=Hid.mk g;clear l2;simp only[aa,av, *];exact g.h
 ·have FN:¬(10:Int)≤(n:Int):=by omega
  rw[if_neg lk]at cF;have g:=kO.h A (J.le.refl _);rw[cF]at g;replace g:=Hid.mk g;clear cF ih;simp only[aa,av,ay, *];exact g.h
theorem aq5{k:Nat}(ab:k<17):opsL.tail[k]?=some (eU ((k:Int)+1)):=by
 have:∀ j:Fin 17,opsL.tail[j.val]?=some (eU ((j.val:Int)+1)):=by decide
 exact this ⟨k,ab⟩
theorem ag5:ie (List.replicate 17 aI) ((List.range' 0 17).map fun i=>(i,1)) 17 1 (opsL.tail.map str)=some (opsL.tail.map str,fun id=>.slice (some ⟨id,0,none⟩) 17 1) :=
 rq (by rfl) (by rfl) (by rfl) (by simp[opsL,Value.cells,Value.oneCell'])
theorem apo(op:Int)(h:J)(Q:aT)(L:∀ D,h.le D→Q (.tuple #[str (eU op),.bool (decide (1≤op∧op≤17))]) D):bj Tryz.prog 103 [I op] h Q:=by
 refine qw (k:=1) (j:=2) alF rfl rfl rfl fun N=>?_;rw[gE NN mY rfl];delta NN;replace L:=U L;by_cases A:op<1
 ·have g:=L.h h (J.le.refl h);rw[show eU op=[] by unfold eU;rw[if_neg (by omega)],decide_eq_false (by omega)]at g;replace g:=Hid.mk g;clear L;simp only[aa,av,ay, *];exact g.h
 by_cases S:17<op
 ·have g:=L.h h (J.le.refl h);rw[show eU op=[] by unfold eU;rw[if_neg (by omega)],decide_eq_false (by omega)]at g;replace g:=Hid.mk g;clear L;simp only[aa,av,ay, *];exact g.h
 obtain⟨k,rfl⟩:∃ k:Nat,op=(k:Int)+1:=⟨(op-1).toNat,by omega⟩;have ab:k<17:=by omega
 have ad:=vZ h opsL.tail (n:=17) (cells:=opsL.tail.map str) rfl rfl;have Hz:=(J.le.refl h).alloc (.aq (opsL.tail.map str) true);obtain⟨id,off,cells,own,az,aL,bq,_⟩:=ng.elem ad (aq5 ab);have ax:IntKind.i64.wrap ((k:Int)+1-1)=(k:Int):=by rw[cZ (by omega) (by omega)];omega
 have g:=L.h _ Hz;rw[decide_eq_true (by omega)]at g;obtain⟨adc,G0⟩:∃ s,eU ((k:Int)+1)=s:=⟨_,rfl⟩;rw[G0]at g bq;have u:=ag5;simp only[opsL,List.tail_cons,Fx,List.map_nil,List.replicate,List.range',Nat.reduceAdd]at u az aL g;replace g:=Hid.mk g;clear L ad Hz G0;simp only[aa,aw,av,ay, *];exact g.h
def tp(o n:Int)(m:aD)(a b c:Bool):Bool:=(a || o==0) && (b || n==0) && (c || m==[])
theorem HN{k o n:Int}{m:aD}{v:Value}(ad:v.oneCell'=true)(a b c:Bool)(h:J)(Q:aT)(L:∀ D,h.le D→Q (.bool (tp o n m a b c)) D) :
  bj Tryz.prog 135 [ko k o n m v,.bool a,.bool b,.bool c] h Q:=by
 have dJ:=qu (k:=k) (o:=o) (n:=n) (m:=m) ad;obtain⟨q,A,eq,gO,dY,bt⟩:=b9 h [I k,I o,I n,str m,v];have es:=iz m [];replace L:=L A bt;unfold tp at L;clear bt;refine c7 (k:=5) am9 rfl rfl rfl fun N=>?_;rw[ahP Oh mY rfl];delta Oh;replace L:=U L;cases a<;>cases b<;>cases c<;>cases bk:(o==0)<;>cases bJ:(n==0)<;>cases dl:(m==[]);all_goals
  rw[dl]at es;have g:=L.h;simp only[bk,bJ,dl,Bool.or_true,Bool.or_false,r9,uG,Bool.true_or,yA,kx,mb]at g;replace g:=Hid.mk g;clear L;simp only[aa,aw,av,ay, *];exact g.h
def Iy(left:Nat):Prop:=∀(e:aX) (x:ar) (h:J) (Q:aT),iN h e x →
 (∀ D (d:Nat),h.le D→(fu e left=true→1≤d∧d≤left)→(fu e left=false→d=31)→Q (I (d:Int)) D)→bj Tryz.prog 102 [.agg x.toArray,I (left:Int)] h Q
theorem al5(a b:Nat):D8 true [I (a:Int),I (b:Int)]=some (I ((max a b:Nat):Int)):=by
 simp[D8];omega
theorem al6(a b:Nat):D8 false [I (a:Int),I (b:Int)]=some (I ((min a b:Nat):Int)):=by
 simp[D8];omega
noncomputable def Ko:bo:=(.seq (.hK Jl [] 0 (.seq (.aW Jm [(3,0)]) .ret) .skip) (.seq (.aW Jn [(7,0)]) (.seq (.seq (.aW Jo [(8,0)]) (.block 1 (.loop NM))) (.seq (.aW Jp [(3,0)]) .ret))))
theorem ah4{l:Nat}(ag:l+1≤30)(ih:Iy l){args:List aX}{v:Value}{h:J}{q:Nat}{c:ar}(qT:h.get q=some (.aq c true))(aj:c[4]?=some v)(ad:iv h v args){ok:Bool}{oo:Nat}{N:Nat}{vars:List Nat}{x0 x3 x6 x7 x8 x9:Value}
  (Q:aT) (L:∀ D (d:Nat),h.le D→(ok=true∧args.length=oo∧hv args l=true→1≤d∧d≤l+1)→(¬(ok=true∧args.length=oo∧hv args l=true)→d=31)→Q (I (d:Int)) D) :
  W Tryz.prog N vars Ko (xI 3 Q) [x0,I ((l+1:Nat):Int),aH q 0,x3,.bool ok,I (oo:Int),x6,x7,x8,x9] h:=by
 have iQ:=ad.len;have bX:=ad.le;replace ag:=U ag;replace ih:=U ih;replace ad:=U ad;replace L:=U L;delta Ko Jl Jm Jn Jo Jp;cases ok with
 |false =>
  have g:=L.h h 31 (.refl _) (fun e=>by cases e.1) (fun _=>rfl);replace g:=Hid.mk g;clear L;simp only[aa, *];exact g.h
 |true =>
 by_cases hm:args.length=oo
 case neg =>
  have g:=L.h h 31 (.refl _) (fun e=>absurd e.2.1 hm) (fun _=>rfl);have agK:((args.length:Int) != (oo:Int))=true:=by simp only[bne_iff_ne,ne_eq];omega
  replace g:=Hid.mk g;clear L;simp only[aa,aw,av,ay, *];exact g.h
 subst hm;have agK:((args.length:Int) != (args.length:Int))=false:=by simp
 simp only[aa,aw,av,ay, *];refine ch.upto args.length (fun i e A=>h.le A∧∃ m:Nat,(((args.take i).all fun e=>fu e l)=true→m≤l)∧(((args.take i).all fun e=>fu e l)=false→m=31)∧e=[x0,I ((l+1:Nat):Int),aH q 0,x3,.bool true,I (args.length:Int),x6,I (m:Int),I i,x9]) ?_ (lj _) ⟨.refl _,0,fun _=>lj _,fun e=>by simp at e,rfl⟩;rintro i _ A R au ⟨bF,m,pq,oh,rfl⟩ aN;have dY:=bF.get qT;delta NM I8 I9 Jk Jq Jr Js Jt Ju Jv Jw Ja Jb Jc Jd Je Jf Jg Jh Ji Jj Jl Jm Jn Jo Jp;by_cases aV:i<args.length
 case neg =>
  have dm:¬(i:Int)<args.length:=by omega
  have ef:i=args.length:=by omega
  have rD:=ag.h;have Sp:m≤31:=by
   cases ai:((args.take i).all fun e=>fu e l) with
   |true=>have:=pq ai;omega
   |false=>have:=oh ai;omega
  have c8:hv args l=((args.take i).all fun e=>fu e l):=by rw[El,ef,NU]
  have g:=L.h A (min 31 (m+1)) bF (fun e=>by rw[c8]at e;have:=pq e.2.2;omega) (fun e=>by
   have:((args.take i).all fun e=>fu e l)=false:=by
    cases ai:((args.take i).all fun e=>fu e l) with
    |true=>exact absurd ⟨rfl,rfl,by rw[c8];exact ai⟩ e
    |false=>rfl
   have:=oh this;omega)
  have w:IntKind.i64.wrap ((m:Int)+1)=((m+1:Nat):Int):=by rw[cZ (by omega) (by omega)];rfl
  have alb:=al6 31 (m+1);have Yd:((31:Nat):Int)=31:=rfl;rw[Yd]at alb;subst ef;replace g:=Hid.mk g;clear L aN pq oh c8 Yd Sp rD;simp only[aa,av,ay, *];exact g.h
 have dm:(i:Int)<args.length:=by omega
 obtain⟨e,aK⟩:∃ e,args[i]?=some e:=⟨_,hi aV⟩;obtain⟨id,off,cells,own,x,az,aL,bq,af,_⟩:=(ad.h.mono bF).elem aK;have arl:IntKind.i64.wrap (((l+1:Nat):Int)-1)=(l:Int):=by have:=ag.h;rw[cZ (by omega) (by omega)];omega
 have w:IntKind.i64.wrap ((i:Int)+1)=((i+1:Nat):Int):=by rw[cZ (by omega) (by omega)];rfl
 have b6:((args.take (i+1)).all fun e=>fu e l)=(((args.take i).all fun e=>fu e l) && fu e l):=by rw[G5,aK];simp
 replace af:=U af;replace pq:=U pq;replace oh:=U oh;replace bF:=U bF;replace b6:=U b6;clear aK;simp only[aa,aw,av,ay, *];refine ih.h e x A _ af.h fun S d l2 fd h5=>?_;have mx:=al5 m d;have pp:=bF.h.trans l2;have g:=aN.h _ S aV ⟨pp,max m d,fun ai=>by
  rw[b6.h,Bool.and_eq_true]at ai;have:=pq.h ai.1;have:=(fd ai.2).2;omega,fun ai=>by
  rw[b6.h]at ai;have Dk:=ag.h;cases hr:fu e l with
  |false =>
   have:=h5 hr;cases ji:((args.take i).all fun e=>fu e l) with
   |true=>have:=pq.h ji;omega
   |false=>have:=oh.h ji;omega
  |true =>
   rw[hr,r9]at ai;have:=oh.h ai;have:=(fd hr).2;omega,rfl⟩
 replace g:=Hid.mk g;clear aN L pq oh fd h5 l2 pp b6;simp only[aa,av,ay, *];exact g.h
set_option maxHeartbeats 400000 in
theorem X5(left:Nat)(ag:left≤30)(ih:∀ l,left=l+1→Iy l):Iy left:=by
 intro e x h Q af L;obtain⟨v,rfl,ct⟩:=af.cells;have dJ:=qu (k:=e.kind) (o:=e.op) (n:=e.n) (m:=e.name) ct.one;obtain⟨q,A,eq,gO,dY,bt⟩:=b9 h [I e.kind,I e.op,I e.n,str e.name,v];have jR:=ct.mono bt;have cG:=ct.one;clear ct af;replace jR:=U jR;replace bt:=U bt;replace ih:=U ih;replace ag:=U ag;refine c7 (k:=3) alE rfl rfl rfl fun N=>?_;show W Tryz.prog N _ ((.seq (.aW I8 [(2,1),(3,0)]) (.seq (.hK I9 [] 0 (.seq (.aW Jk [(3,0)]) .ret) .skip) (.seq (.aW Jq [(4,0)]) (.seq (.aW Jr [(5,0)]) (.seq (.aW Js [(6,0)]) (.seq (.seq (.aW Jt [(9,0)]) (.block 0 (.hK Ju [] 0 (.aW Jv [(4,0)]) (.hK Jw [] 0 (.aW Ja [(4,0)]) (.hK Jb [] 0 (.seq (.aW Jc [(4,0)]) (.aW Jd [(5,0)])) (.hK Je [] 0 (.seq (.aW Jf [(4,0)]) (.aW Jg [(5,0)])) (.hK Jh [] 0 (.seq (.aW Ji [(4,0)]) (.aW Jj [(5,0)])) .skip))))))) Ko))))))) _ [ko e.kind e.op e.n e.name v,I (left:Int),b0,b0,b0,b0,b0,b0,b0,b0] _;delta I8 I9 Jk Jq Jr Js Jt Ju Jv Jw Ja Jb Jc Jd Je Jf Jg Jh Ji Jj;replace L:=Hid.mk L;cases left with
 |zero =>
  have g:=L.h A 31 bt.h (fun hr=>by cases e;simp[fu]at hr) (fun _=>rfl);replace g:=Hid.mk g;have z:((0:Nat):Int)<1:=by decide
  clear L;simp only[aa,av,ay, *];exact g.h
 |succ l =>
  have z:¬((l+1:Nat):Int)<1:=by omega
  simp only[aa,aw,av,ay, *];refine Eh A _ fun S l2=>?_;have g2:=l2.get dY;have ji:=jR.h.mono l2;have l2:=bt.h.trans l2;have fin:∀(D:J) (mR:Bool) (oo:Nat) (x9:Value),S.le D→((mR=true∧e.args.length=oo)↔(fX e.kind e.op e.n e.name=true∧e.args.length=mN e.kind)) →
    W Tryz.prog N Xa.vars Ko (xI 3 Q) [ko e.kind e.op e.n e.name v,I ((l+1:Nat):Int),aH q 0,I 0,.bool mR,I (oo:Int),.bool (de e.name),b0,b0,x9] D:=fun D mR oo x9 cW Sc=>by
   have AE:fu e (l+1)=true↔(mR=true∧e.args.length=oo∧hv e.args l=true):=by
    have:fu e (l+1)=(fX e.kind e.op e.n e.name && e.args.length==mN e.kind && hv e.args l):=by cases e;rfl
    rw[this,Bool.and_eq_true,Bool.and_eq_true,beq_iff_eq,← and_assoc,← Sc,and_assoc]
   refine ah4 ag.h (ih.h l rfl) (cW.get g2) rfl (ji.mono cW) Q fun ae d aE fd h5=>L.h ae d (l2.trans (cW.trans aE)) (fun hr=>fd (AE.1 hr)) (fun hr=>h5 fun aj=>by rw[AE.2 aj]at hr;cases hr)
  replace fin:=Hid.mk fin;clear dY jR bt dJ L ih l2 ji;by_cases ck:e.kind=1
  ·have bk:(e.kind==1)=true:=by simp[ck]
   replace ck:=Hid.mk ck;simp only[aa,aw,av,ay,dt, *];refine HN cG _ _ _ _ _ fun ae aE=>?_;have g3:=aE.get g2;have es:tp e.op e.n e.name false true false=(e.op==0 && e.name==[]):=by simp[tp]
   rw[es];have g:=fun mR (c6:mR=fX e.kind e.op e.n e.name)=>fin.h ae mR 0 (I e.kind) aE (by rw[c6,ck.h];simp[mN]);have dB:fX e.kind e.op e.n e.name=(decide (0≤e.n∧e.n<4294967296) && e.op==0 && e.name==[]):=by simp[fX,ck.h]
   rw[dB]at g;replace g:=U g;clear fin aE dB es;cases bJ:(e.op==0 && e.name==[]) with
   |false =>
    have g:=g.h false (by rw[Kv,bJ];simp);replace g:=Hid.mk g;simp only[aa, *];exact g.h
   |true =>
    by_cases dl:0≤e.n
    ·by_cases fa:e.n<4294967296
     ·have g:=g.h true (by rw[Kv,bJ];simp[dl,fa]);replace g:=Hid.mk g;simp only[aa,aw,av,ay, *];exact g.h
     ·have g:=g.h false (by simp[fa]);replace g:=Hid.mk g;simp only[aa,aw,av,ay, *];exact g.h
    ·have g:=g.h false (by simp[dl]);replace g:=Hid.mk g;simp only[aa,aw,av,ay, *];exact g.h
  have hD:(e.kind==1)=false:=by simp[ck]
  by_cases cm:e.kind=2
  ·have bk:(e.kind==2)=true:=by simp[cm]
   replace cm:=Hid.mk cm;simp only[aa,aw,av,ay,dt, *];refine HN cG _ _ _ _ _ fun ae aE=>?_;have g3:=aE.get g2;have es:tp e.op e.n e.name false false true=(e.op==0 && e.n==0):=by simp[tp]
   rw[es];have g:=fun mR (c6:mR=fX e.kind e.op e.n e.name)=>fin.h ae mR 0 (I e.kind) aE (by rw[c6,cm.h];simp[mN]);have dB:fX e.kind e.op e.n e.name=(de e.name && e.op==0 && e.n==0):=by simp[fX,cm.h]
   rw[dB]at g;replace g:=U g;clear fin aE dB es;cases bJ:(e.op==0 && e.n==0) with
   |false =>
    have g:=g.h false (by rw[Kv,bJ];simp);replace g:=Hid.mk g;simp only[aa, *];exact g.h
   |true =>
    have g:=g.h (de e.name) (by rw[Kv,bJ];simp);replace g:=Hid.mk g;simp only[aa, *];exact g.h
  have h9:(e.kind==2)=false:=by simp[cm]
  by_cases cb:e.kind=3
  ·have bk:(e.kind==3)=true:=by simp[cb]
   replace cb:=Hid.mk cb;simp only[aa,aw,av,ay,dt, *];refine HN cG _ _ _ _ _ fun ae aE=>?_;have g3:=aE.get g2;have es:tp e.op e.n e.name true false false=(e.n==0 && e.name==[]):=by simp[tp]
   rw[es];have g:=fun mR (c6:mR=fX e.kind e.op e.n e.name)=>fin.h ae mR 1 (I e.kind) aE (by rw[c6,cb.h];simp[mN]);have dB:fX e.kind e.op e.n e.name=(decide (15≤e.op∧e.op≤17) && e.n==0 && e.name==[]):=by simp[fX,cb.h]
   rw[dB]at g;replace g:=U g;clear fin aE dB es;have az:((1:Nat):Int)=1:=rfl;rw[az]at g;cases bJ:(e.n==0 && e.name==[]) with
   |false =>
    have g:=g.h false (by rw[Kv,bJ];simp);replace g:=Hid.mk g;simp only[aa, *];exact g.h
   |true =>
    by_cases dl:15≤e.op
    ·by_cases fa:e.op≤17
     ·have g:=g.h true (by rw[Kv,bJ];simp[dl,fa]);replace g:=Hid.mk g;simp only[aa,aw,av,ay, *];exact g.h
     ·have g:=g.h false (by simp[fa]);replace g:=Hid.mk g;simp only[aa,aw,av,ay, *];exact g.h
    ·have g:=g.h false (by simp[dl]);replace g:=Hid.mk g;simp only[aa,aw,av,ay, *];exact g.h
  have rN:(e.kind==3)=false:=by simp[cb]
  by_cases eC:e.kind=4
  ·have bk:(e.kind==4)=true:=by simp[eC]
   replace eC:=Hid.mk eC;simp only[aa,aw,av,ay,dt, *];refine HN cG _ _ _ _ _ fun ae aE=>?_;have g3:=aE.get g2;have es:tp e.op e.n e.name true false false=(e.n==0 && e.name==[]):=by simp[tp]
   rw[es];have dB:fX e.kind e.op e.n e.name=(decide (0<cy e.op) && e.n==0 && e.name==[]):=by simp[fX,eC.h]
   have az:((2:Nat):Int)=2:=rfl;cases bJ:(e.n==0 && e.name==[]) with
   |false =>
    have g:=fun mR (c6:mR=fX e.kind e.op e.n e.name)=>fin.h ae mR 2 (I e.kind) aE (by rw[c6,eC.h];simp[mN]);rw[dB,az]at g;have g:=g false (by rw[Kv,bJ];simp);replace g:=Hid.mk g;clear fin aE dB es;simp only[aa, *];exact g.h
   |true =>
    replace fin:=U fin;replace aE:=U aE;replace dB:=U dB;simp only[aa,aw, *];refine Mt e.op _ _ fun aB aO=>?_;have g:=fun mR (c6:mR=fX e.kind e.op e.n e.name)=>fin.h.h aB mR 2 (I e.kind) (aE.h.trans aO) (by rw[c6,eC.h];simp[mN]);rw[dB.h,az]at g;have g:=g (decide (0<cy e.op)) (by rw[Kv,bJ];simp);have g4:=aO.get g3;clear fin aE dB es aO;by_cases dl:0<cy e.op
    ·have agr:(0:Int)<(cy e.op:Int):=by omega
     rw[show decide (0<cy e.op)=true by simp[dl]]at g;replace g:=Hid.mk g;simp only[aa,av,ay, *];exact g.h
    ·have agr:¬(0:Int)<(cy e.op:Int):=by omega
     rw[show decide (0<cy e.op)=false by simp[dl]]at g;replace g:=Hid.mk g;simp only[aa,av,ay, *];exact g.h
  have L6:(e.kind==4)=false:=by simp[eC]
  by_cases dG:e.kind=5
  ·have bk:(e.kind==5)=true:=by simp[dG]
   replace dG:=Hid.mk dG;simp only[aa,aw,av,ay,dt, *];refine HN cG _ _ _ _ _ fun ae aE=>?_;have g3:=aE.get g2;have es:tp e.op e.n e.name false false true=(e.op==0 && e.n==0):=by simp[tp]
   rw[es];have g:=fun mR (c6:mR=fX e.kind e.op e.n e.name)=>fin.h ae mR 1 (I e.kind) aE (by rw[c6,dG.h];simp[mN]);have dB:fX e.kind e.op e.n e.name=(de e.name && e.op==0 && e.n==0):=by simp[fX,dG.h]
   have az:((1:Nat):Int)=1:=rfl;rw[dB,az]at g;replace g:=U g;clear fin aE dB es;cases bJ:(e.op==0 && e.n==0) with
   |false =>
    have g:=g.h false (by rw[Kv,bJ];simp);replace g:=Hid.mk g;simp only[aa, *];exact g.h
   |true =>
    have g:=g.h (de e.name) (by rw[Kv,bJ];simp);replace g:=Hid.mk g;simp only[aa, *];exact g.h
  have p9:(e.kind==5)=false:=by simp[dG]
  have g:=fin.h S false 0 (I e.kind) (.refl _) (by simp[fX,ck,cm,cb,eC,dG]);replace g:=Hid.mk g;clear fin;simp only[aa,aw,av,ay, *];exact g.h
theorem ah3:∀ left,left≤30→Iy left:=by
 intro left;induction left with
 |zero=>intro ag;exact X5 0 ag fun l h=>by omega
 |succ l ih=>intro ag;exact X5 _ ag fun df h=>by cases h;exact ih (by omega)
theorem acC{h:J}{e:aX}{x:ar}(af:iN h e x)(Q:aT)(L:∀ D,h.le D→Q (.bool (fu e 30)) D):bj Tryz.prog 61 [.agg x.toArray] h Q:=by
 have ht:=af;obtain⟨v,rfl,ct⟩:=af.cells;have dJ:=qu (k:=e.kind) (o:=e.op) (n:=e.n) (m:=e.name) ct.one;obtain⟨q,A,eq,gO,dY,bt⟩:=b9 h [I e.kind,I e.op,I e.n,str e.name,v];have eK:=ht.mono bt;clear af ht ct;replace eK:=U eK;replace bt:=U bt;refine c7 (k:=2) ane rfl rfl rfl fun N=>?_;rw[gE PY mY rfl];delta PY;replace L:=U L;simp only[aa,aw,dt, *];refine ah3 30 (by omega) e _ _ _ eK.h fun S d l2 fd h5=>?_;cases hr:fu e 30 with
 |true =>
  have:=fd hr;have hd:(d:Int)≤30:=by omega
  have g:=L.h S (bt.h.trans l2);rw[hr]at g;replace g:=Hid.mk g;clear L fd h5 l2 bt this;simp only[aa,av,ay, *];exact g.h
 |false =>
  have:=h5 hr;subst this;have g:=L.h S (bt.h.trans l2);rw[hr]at g;replace g:=Hid.mk g;have hd:¬((31:Nat):Int)≤30:=by omega
  clear L fd h5 l2 bt;simp only[aa,av,ay, *];exact g.h
def No(left:Nat):Prop:=∀(s:aP) (x:ar) (h:J) (Q:aT),lI h s x→(∀ D,h.le D→Q (.bool (je s left)) D)→bj Tryz.prog 119 [.agg x.toArray,I (left:Int)] h Q
def Cz(left:Nat):Prop:=∀(l:List aP) (v:Value) (h:J) (Q:aT),hO h v l→(∀ D,h.le D→Q (.bool (hx l left)) D)→bj Tryz.prog 85 [v,I (left:Int)] h Q
theorem acE{left:Nat}(ih:No left):Cz left:=by
 intro l v h Q ad L;have iQ:=ad.len;have bX:=ad.le;replace ad:=U ad;replace ih:=U ih;refine c7 (k:=2) anD rfl rfl rfl fun N=>?_;rw[eJ Qt mZ rfl];delta Qt;replace L:=U L;simp only[aa, *];refine ch.upto l.length (fun i e A=>h.le A∧((l.take i).all fun s=>je s left)=true∧∃ ek,e=[v,I (left:Int),.bool false,I (i:Int),ek]) ?_ (lj _) ⟨.refl h,rfl,_,rfl⟩;rintro i _ A R au ⟨bF,ai,ek,rfl⟩ aN;delta Xz;by_cases aV:i<l.length
 case neg =>
  have dm:¬(i:Int)<l.length:=by omega
  have ef:i=l.length:=by omega
  have g:=L.h A bF;rw[we,← NU (l:=l),← ef,ai]at g;replace g:=Hid.mk g;clear L aN ai ef;simp only[aa,av,ay, *];exact g.h
 have dm:(i:Int)<l.length:=by omega
 obtain⟨s,ak⟩:∃ e,l[i]?=some e:=⟨_,hi aV⟩;obtain⟨id,off,cells,own,x,az,aL,bq,af,_⟩:=(ad.h.mono bF).elem ak;have w:IntKind.i64.wrap ((i:Int)+1)=((i+1:Nat):Int):=by rw[cZ (by omega) (by omega)];rfl
 have b6:((l.take (i+1)).all fun s=>je s left)=(((l.take i).all fun s=>je s left) && je s left):=by rw[G5,ak];simp
 have fT:s∈l:=List.mem_of_getElem? ak;rw[ai]at b6;replace af:=U af;replace ai:=U ai;replace bF:=U bF;replace b6:=U b6;replace fT:=U fT;clear ak;simp only[aa,aw,av,ay, *];refine ih.h s x A _ af.h fun S l2=>?_;cases T:je s left with
 |true =>
  have g:=aN.h _ S aV ⟨bF.h.trans l2,by rw[b6.h,T];rfl,.bool true,rfl⟩;replace g:=Hid.mk g;clear aN L l2 b6 fT;simp only[aa,av,ay, *];exact g.h
 |false =>
  have g:=L.h S (bF.h.trans l2);have:hx l left=false:=by
   rw[we,List.all_eq_false];exact⟨s,fT.h,by rw[T];simp⟩
  rw[this]at g;replace g:=Hid.mk g;clear aN L l2 b6 fT this;simp only[aa, *];exact g.h
noncomputable def U9:bo:=(.seq (.seq (.aW JZ [(9,0)]) (.block 1 (.loop N4))) (.seq (.aW J1 [(11,0)]) (.seq (.aW J2 [(12,0)]) (.seq (.aW J3 [(3,0)]) .ret))))
theorem aqo{l:Nat}(ag:l+1≤30)(ih:Cz l){k n:Int}{m f:aD}{fR qk sQ:Value}{args:List aX}{aU bz:List aP}{h:J}{q:Nat}(qT:h.get q=some (.aq [I k,str m,str f,I n,fR,qk,sQ] true))(hs:iv h fR args)(kc:hO h qk aU)(jm:hO h sQ bz)
  {N:Nat}{vars:List Nat}{x0 x3 x5 x6 x7 x8 x9 x10 x11 x12 x13:Value}(Q:aT)
  (L:∀ D,h.le D→Q (.bool (hv args 30 && hx aU l && hx bz l)) D) :
  W Tryz.prog N vars U9 (xI 3 Q) [x0,I ((l+1:Nat):Int),aH q 0,x3,I (args.length:Int),x5,x6,x7,x8,x9,x10,x11,x12,x13] h:=by
 have mM:=hs.len;have DN:=hs.le;replace L:=U L;replace hs:=U hs;replace kc:=U kc;replace jm:=U jm;replace ih:=U ih;replace ag:=U ag;replace DN:=U DN;delta U9 JZ J1 J2 J3;simp only[aa, *];refine ch.upto args.length (fun i e A=>h.le A∧((args.take i).all fun e=>fu e 30)=true∧∃ x10,e=[x0,I ((l+1:Nat):Int),aH q 0,x3,I (args.length:Int),x5,x6,x7,x8,I i,x10,x11,x12,x13]) ?_ (lj _) ⟨.refl _,rfl,_,rfl⟩;rintro i _ A R au ⟨bF,ai,x10,rfl⟩ aN;have dY:=bF.get qT;delta N4 Jx Jy JJ JU J0 J4 J5 J6 J7 J8 Jz JA JB JC JD JE JF JG JH JI JK JL JM JN JO JP JQ JR JS JT JV JW JX JY JZ J1 J2 J3;by_cases aV:i<args.length
 case neg =>
  have dm:¬(i:Int)<args.length:=by omega
  have ef:i=args.length:=by omega
  have c8:hv args 30=true:=by rw[El,← NU (l:=args),← ef,ai]
  have kO:∀ D,h.le D→Q (.bool (hx aU l && hx bz l)) D:=fun D df=>by have g:=L.h D df;rw[c8,kx]at g;exact g
  have arl:IntKind.i64.wrap (((l+1:Nat):Int)-1)=(l:Int):=by have:=ag.h;rw[cZ (by omega) (by omega)];omega
  subst ef;clear L aN ai c8 qT;replace bF:=U bF;replace kO:=U kO;simp only[aa,aw,av,ay, *];refine ih.h aU qk A _ (kc.h.mono bF.h) fun S l2=>?_;have eE:=l2.get dY;have hk:=bF.h.trans l2;replace l2:=U l2;replace hk:=U hk;simp only[aa,aw,av,ay, *];refine ih.h bz sQ S _ (jm.h.mono hk.h) fun ae aE=>?_;have g:=kO.h ae (hk.h.trans aE);clear dY eE l2 hk aE kO;cases ax:hx aU l with
  |true =>
   rw[ax,kx]at g;replace g:=Hid.mk g;simp only[aa, *];exact g.h
  |false =>
   rw[ax,mb]at g;replace g:=Hid.mk g;simp only[aa, *];exact g.h
 have dm:(i:Int)<args.length:=by omega
 obtain⟨e,aK⟩:∃ e,args[i]?=some e:=⟨_,hi aV⟩;obtain⟨id,off,cells,own,x,az,aL,bq,af,_⟩:=(hs.h.mono bF).elem aK;have w:IntKind.i64.wrap ((i:Int)+1)=((i+1:Nat):Int):=by have:=DN.h;rw[cZ (by omega) (by omega)];rfl
 have b6:((args.take (i+1)).all fun e=>fu e 30)=(((args.take i).all fun e=>fu e 30) && fu e 30):=by rw[G5,aK];simp
 have fT:e∈args:=List.mem_of_getElem? aK;rw[ai]at b6;replace af:=U af;replace ai:=U ai;replace bF:=U bF;replace b6:=U b6;replace fT:=U fT;clear aK;simp only[aa,aw,av,ay, *];refine acC af.h _ fun S l2=>?_;cases T:fu e 30 with
 |true =>
  have g:=aN.h _ S aV ⟨bF.h.trans l2,by rw[b6.h,T];rfl,.bool true,rfl⟩;replace g:=Hid.mk g;clear aN L l2 b6 fT;simp only[aa,av,ay, *];exact g.h
 |false =>
  have g:=L.h S (bF.h.trans l2);have:hv args 30=false:=by
   rw[El,List.all_eq_false];exact⟨e,fT.h,by rw[T];simp⟩
  rw[this]at g;replace g:=Hid.mk g;clear aN L l2 b6 fT this;simp only[aa, *];exact g.h
noncomputable def MK:bo:=(.seq (.hK JX [] 0 (.seq (.aW JY [(3,0)]) .ret) .skip) U9)
theorem aqn{l:Nat}(ag:l+1≤30)(ih:Cz l){k n:Int}{m f:aD}{fR qk sQ:Value}{args:List aX}{aU bz:List aP}{h:J}{q:Nat}(qT:h.get q=some (.aq [I k,str m,str f,I n,fR,qk,sQ] true))(hs:iv h fR args)(kc:hO h qk aU)(jm:hO h sQ bz)
  {oo:Nat}{nw nm he:Bool}{zL:Int}{N:Nat}{vars:List Nat}{x0 x3 x9 x10 x11 x12 x13:Value}(Q:aT)
  (L:∀ D,h.le D→Q (.bool (nm && he && decide (0≤n) && decide (n≤zL) && args.length==oo && (nw || aU.length==0) && (k==6 || bz.length==0) && hv args 30 && hx aU l && hx bz l)) D) :
  W Tryz.prog N vars MK (xI 3 Q) [x0,I ((l+1:Nat):Int),aH q 0,x3,I (oo:Int),.bool nw,.bool nm,.bool he,I zL,x9,x10,x11,x12,x13] h:=by
 have mM:=hs.len;have DN:=hs.le;have lt:=kc.len;have le:=jm.len;have b8:∀ b:Bool,b=false→(nm && he && decide (0≤n) && decide (n≤zL) && args.length==oo && (nw || aU.length==0) && (k==6 || bz.length==0) && hv args 30 && hx aU l && hx bz l)=b→Hid (Q (.bool false) h):=fun b T e=>⟨by
  have g:=L h (.refl _);rw[e,T]at g;exact g⟩
 replace L:=U L;replace hs:=U hs;replace kc:=U kc;replace jm:=U jm;replace b8:=U b8;replace ih:=U ih;replace ag:=U ag;replace DN:=U DN;delta MK JX JY;cases nm with
 |false =>
  have g:=b8.h _ rfl (by simp);simp only[aa, *];exact g.h
 |true =>
 cases he with
 |false =>
  have g:=b8.h _ rfl (by simp);simp only[aa, *];exact g.h
 |true =>
 by_cases j9:n<0
 ·have g:=b8.h _ rfl (by
  have:decide (0≤n)=false:=by simp;omega
  rw[this];simp)
  simp only[aa,aw,av,ay, *];exact g.h
 by_cases lT:zL<n
 ·have g:=b8.h _ rfl (by
  have:decide (n≤zL)=false:=by simp;omega
  rw[this];simp)
  simp only[aa,aw,av,ay, *];exact g.h
 by_cases hm:args.length=oo
 case neg =>
  have Dm:((args.length:Int) != (oo:Int))=true:=by simp;omega
  have g:=b8.h _ rfl (by
   have:(args.length==oo)=false:=by simpa using hm
   rw[this];simp)
  clear hm;simp only[aa,aw,av,ay, *];exact g.h
 have Dm:((args.length:Int) != (oo:Int))=false:=by simp;omega
 have Ls:(nw=false∧(0:Int)<(aU.length:Int))∨((nw || aU.length==0)=true∧(nw=true∨(nw=false∧¬(0:Int)<(aU.length:Int)))):=by
  cases nw with
  |true=>exact .inr ⟨rfl,.inl rfl⟩
  |false =>
   by_cases h0:aU.length=0
   ·exact .inr ⟨by simp[h0],.inr ⟨rfl,by omega⟩⟩
   ·exact .inl ⟨rfl,by omega⟩
 rcases Ls with⟨rfl,h0⟩|⟨Ls,ZU⟩
 ·have g:=b8.h _ rfl (by
  have:(aU.length==0)=false:=beq_eq_false_iff_ne.2 (by omega);rw[this];simp)
  simp only[aa,aw,av,ay, *];exact g.h
 have K4:((k != 6)=true∧(0:Int)<(bz.length:Int))∨((k==6 || bz.length==0)=true∧((k != 6)=false∨((k != 6)=true∧¬(0:Int)<(bz.length:Int)))):=by
  by_cases a1:k=6
  ·exact .inr ⟨by simp[a1],.inl (by simp[a1])⟩
  ·by_cases h0:bz.length=0
   ·exact .inr ⟨by simp[h0],.inr ⟨by simpa using a1,by omega⟩⟩
   ·exact .inl ⟨by simpa using a1,by omega⟩
 rcases K4 with⟨a1,h0⟩|⟨K4,aj2⟩
 ·have g:=b8.h _ rfl (by
  have dP:(bz.length==0)=false:=beq_eq_false_iff_ne.2 (by omega);have a2:(k==6)=false:=by simpa using a1
  rw[dP,a2];simp)
  rcases ZU with rfl|⟨rfl,bN⟩
  ·simp only[aa,aw,av,ay, *];exact g.h
  ·simp only[aa,aw,av,ay, *];exact g.h
 have fin:=fun x9=>aqo (N:=N) (vars:=vars) (x0:=x0) (x3:=x3) (x5:=.bool nw) (x6:=.bool true) (x7:=.bool true) (x8:=I zL) (x9:=x9) (x10:=x10) (x11:=x11) (x12:=x12) (x13:=x13) ag.h ih.h qT hs.h kc.h jm.h Q fun D df=>by
  have g:=L.h D df;have dJ:decide (0≤n)=true:=by simp;omega
  have kB:decide (n≤zL)=true:=by simp;omega
  have qt:(args.length==oo)=true:=by simpa using hm
  rw[dJ,kB,qt,Ls,K4]at g;simpa using g
 rw[hm]at fin;replace fin:=Hid.mk (fin x9);clear b8 L hs kc jm Ls K4;rcases ZU with rfl|⟨rfl,bN⟩<;>rcases aj2 with b7|⟨b7,dE⟩
 ·simp only[aa,aw,av,ay, *];exact fin.h
 ·simp only[aa,aw,av,ay, *];exact fin.h
 ·simp only[aa,aw,av,ay, *];exact fin.h
 ·simp only[aa,aw,av,ay, *];exact fin.h
theorem acD{left:Nat}(ag:left≤30)(ih:∀ l,left=l+1→Cz l):No left:=by
 intro s x h Q af L;obtain⟨k,m,f,n,args,aU,bz⟩:=s;obtain⟨fR,qk,sQ,rfl,hs,kc,jm⟩:=af.cells;have dJ:=yk (k:=k) (n:=n) (m:=m) (f:=f) hs.one kc.one jm.one;obtain⟨q,A,eq,gO,dY,bt⟩:=b9 h [I k,str m,str f,I n,fR,qk,sQ];have cG:=hs.one;have cP:=kc.one;have gm:=jm.one;replace hs:=hs.mono bt;replace kc:=kc.mono bt;replace jm:=jm.mono bt;clear af;replace hs:=U hs;replace kc:=U kc;replace jm:=U jm;replace bt:=U bt;replace ih:=U ih;replace ag:=U ag;refine c7 (k:=3) alW rfl rfl rfl fun N=>?_;show W Tryz.prog N _ ((.seq (.aW Jx [(2,1),(3,0)]) (.seq (.hK Jy [] 0 (.seq (.aW JJ [(3,0)]) .ret) .skip) (.seq (.aW JU [(4,0)]) (.seq (.aW J0 [(5,0)]) (.seq (.aW J4 [(6,0)]) (.seq (.aW J5 [(7,0)]) (.seq (.aW J6 [(8,0)]) (.seq (.seq (.aW J7 [(13,0)]) (.block 0 (.hK J8 [] 0 (.aW Jz [(4,0)]) (.hK JA [] 0 (.seq (.aW JB [(7,0)]) (.aW JC [(8,0)])) (.hK JD [] 0 (.seq (.aW JE [(4,0)]) (.aW JF [(8,0)])) (.hK JG [] 0 (.aW JH [(4,0)]) (.hK JI [] 0 (.aW JK [(5,0)]) (.hK JL [] 0 (.seq (.aW JM [(4,0)]) (.seq (.aW JN [(5,0)]) (.aW JO [(6,0)]))) (.hK JP [] 0 (.seq (.aW JQ [(5,0)]) (.seq (.aW JR [(8,0)]) (.aW JS [(6,0)]))) (.hK JT [] 0 (.aW JV [(6,0)]) (.seq (.aW JW [(3,0)]) .ret))))))))))) MK))))))))) _ [kw k m f n fR qk sQ,I (left:Int),b0,b0,b0,b0,b0,b0,b0,b0,b0,b0,b0,b0] _;delta Jx Jy JJ JU J0 J4 J5 J6 J7 J8 Jz JA JB JC JD JE JF JG JH JI JK JL JM JN JO JP JQ JR JS JT JV JW;replace L:=Hid.mk L;cases left with
 |zero =>
  have g:=L.h A bt.h;have g:Q (.bool false) A:=g;replace g:=Hid.mk g;have z:((0:Nat):Int)<1:=by decide
  clear L;simp only[aa,av,ay, *];exact g.h
 |succ l =>
  have z:¬((l+1:Nat):Int)<1:=by omega
  simp only[aa,aw,av,ay, *];refine Eh A _ fun S l2=>?_;have g2:=l2.get dY;have fin:∀(D:J) (x13:Value),S.le D→oa k=true →
    W Tryz.prog N Xf.vars MK (xI 3 Q) [kw k m f n fR qk sQ,I ((l+1:Nat):Int),aH q 0,.bool false,I (k1 k:Int),.bool (j5 k),.bool (mO m (lM k)),.bool (mO f (lN k)),I (lL k),b0,b0,b0,b0,x13] D:=fun D x13 cW ab=>by
   have zH:=l2.trans cW;refine aqn ag.h (ih.h l rfl) (cW.get g2) (hs.h.mono zH) (kc.h.mono zH) (jm.h.mono zH) Q fun ae aE=>?_;have g:=L.h ae (bt.h.trans (zH.trans aE));have e:je (.mk k m f n args aU bz) (l+1)=(mO m (lM k) && mO f (lN k) && decide (0≤n) && decide (n≤lL k) && args.length==k1 k && (j5 k || aU.length==0) && (k==6 || bz.length==0) && hv args 30 && hx aU l && hx bz l):=by
    have hH:kp k=(k==6):=by unfold kp;by_cases h:k=6<;>simp[h]
    simp only[je,ab,kx,hH];generalize (j5 k || aU.length==0)=dJ;generalize (k==6 || bz.length==0)=kB;generalize hv args 30=qt;cases dJ<;>cases kB<;>cases qt<;>simp
   rw[e]at g;exact g
  have bad:oa k=false→Q (.bool false) S:=fun ab=>by
   have g:=L.h S (bt.h.trans l2);have e:je (.mk k m f n args aU bz) (l+1)=false:=by simp only[je,ab,mb]
   rw[e]at g;exact g
  clear dY hs kc jm dJ L ih;replace fin:=U fin;replace bad:=U bad;replace l2:=U l2;replace bt:=U bt;by_cases ck:k=1
  ·subst ck;have g:=Hid.mk (fin.h S (I 1) (.refl _) rfl);clear fin bad;simp only[aa,aw,av,ay,iz, *];exact g.h
  have hD:(k==1)=false:=by simp[ck]
  by_cases cm:k=2
  ·subst cm;simp only[aa,aw,av,ay,iz, *];refine Eh S _ fun ae aE=>?_;have g3:=aE.get g2;have g:=Hid.mk (fin.h ae (I 2) aE rfl);clear fin bad aE g2;simp only[aa, *];exact g.h
  have h9:(k==2)=false:=by simp[cm]
  by_cases cb:k=3
  ·subst cb;have g:=Hid.mk (fin.h S (I 3) (.refl _) rfl);clear fin bad;simp only[aa,aw,av,ay,iz, *];exact g.h
  have rN:(k==3)=false:=by simp[cb]
  by_cases eC:k=4
  ·subst eC;have g:=Hid.mk (fin.h S (I 4) (.refl _) rfl);clear fin bad;simp only[aa,aw,av,ay,iz, *];exact g.h
  have L6:(k==4)=false:=by simp[eC]
  by_cases dG:k=5
  ·subst dG;have g:=Hid.mk (fin.h S (I 5) (.refl _) rfl);clear fin bad;simp only[aa,aw,av,ay,iz, *];exact g.h
  have p9:(k==5)=false:=by simp[dG]
  by_cases ol:k=6
  ·subst ol;have g:=Hid.mk (fin.h S (I 6) (.refl _) rfl);clear fin bad;simp only[aa,aw,av,ay,iz, *];exact g.h
  have abl:(k==6)=false:=by simp[ol]
  by_cases iF:k=7
  ·subst iF;have g:=Hid.mk (fin.h S (I 7) (.refl _) rfl);clear fin bad;simp only[aa,aw,av,ay,iz, *];exact g.h
  have rO:(k==7)=false:=by simp[iF]
  by_cases TO:k=8
  ·subst TO;have g:=Hid.mk (fin.h S (I 8) (.refl _) rfl);clear fin bad;simp only[aa,aw,av,ay,iz, *];exact g.h
  have abm:(k==8)=false:=by simp[TO]
  have g:=Hid.mk (bad.h (by unfold oa;simp;omega));clear fin bad;simp only[aa,aw,av,ay,iz, *];exact g.h
theorem app:∀ left,left≤30→No left∧Cz left:=by
 intro left;induction left with
 |zero=>intro ag;have a:=acD (left:=0) ag (fun l h=>by omega);exact⟨a,acE a⟩
 |succ l ih=>intro ag;have a:=acD ag (fun df h=>by cases h;exact(ih (by omega)).2);exact⟨a,acE a⟩
theorem aps{left:Nat}(h:left≤30):Cz left:=(app left h).2
theorem apa{h:J}{q:Nat}{H:Int}{d r t:Value}{l:List Nm}(dY:h.get q=some (.aq [I H,d,r,t] true))(ad:kl h d l){N:Nat}{vars:List Nat}{x0 ek x5 x6 x7 x8 x9 x10:Value}(jv:dM→ar→J→Prop)
  (L:∀ D y,h.le D→l.all jO=true→jv (.exit 0) [x0,aH q 0,.bool false,I (l.length:Int),y,x5,x6,x7,x8,x9,x10] D)
  (b8:∀ D i y,h.le D→l.all jO=false→jv .ret [x0,aH q 0,.bool false,i,y,x5,x6,x7,x8,x9,x10] D) :
  ch Tryz.prog N vars Pz [x0,aH q 0,.bool false,I 0,ek,x5,x6,x7,x8,x9,x10] h jv:=by
 have bX:=ad.2;replace ad:=U ad;replace L:=U L;replace b8:=U b8;refine ch.upto l.length (fun i e A=>h.le A∧(l.take i).all jO=true∧∃ y,e=[x0,aH q 0,.bool false,I (i:Int),y,x5,x6,x7,x8,x9,x10]) ?_ (lj _) ⟨.refl h,rfl,_,rfl⟩;rintro i _ A R au ⟨bF,ai,y,rfl⟩ aN;have dY:=bF.get dY;have fr:=ad.h.mono bF;have iQ:=fr.len;delta Pz;by_cases aV:i<l.length
 case neg =>
  have dm:¬(i:Int)<l.length:=by omega
  have ef:i=l.length:=by omega
  have g:=L.h A y bF (by rw[← NU (l:=l),← ef,ai]);rw[← ef]at g;replace g:=Hid.mk g;clear L b8 aN ai ef;replace bF:=U bF;replace fr:=U fr;simp only[aa,aw,av,ay, *];exact g.h
 have dm:(i:Int)<l.length:=by omega
 obtain⟨s,ak⟩:∃ e,l[i]?=some e:=⟨_,hi aV⟩;obtain⟨id,off,cells,own,az,aL,_,bq⟩:=cT.elem fr.1 (i:=i) (x:=[str s.name,I s.n]) (by simp[ak]);have f0:cells[off]?=some (str s.name):=bq 0 (by omega);have f1:cells[off+1]?=some (I s.n):=bq 1 (by omega);have w:IntKind.i64.wrap ((i:Int)+1)=((i+1:Nat):Int):=by rw[cZ (by omega) (by omega)];rfl
 have b6:(l.take (i+1)).all jO=((l.take i).all jO && jO s):=by rw[G5,ak];simp
 have fT:s∈l:=List.mem_of_getElem? ak;rw[ai]at b6;have ho:jO s=false→l.all jO=false:=fun T=>by
  rw[List.all_eq_false];exact⟨s,fT,by rw[T];simp⟩
 have dR:jO s=(de s.name && decide (1≤s.n∧s.n≤3)):=rfl;clear ak bq;replace ai:=U ai;replace bF:=U bF;replace b6:=U b6;replace fT:=U fT;replace fr:=U fr;replace ho:=U ho;replace dR:=U dR;simp only[aa,aw,av,ay, *];refine Eh A _ fun S l2=>?_;have eE:=l2.get dY;have Q2:=l2.get aL;clear dY aL;cases T:de s.name with
 |false =>
  have g:=b8.h S (I i) (.bool false) (bF.h.trans l2) (ho.h (by rw[dR.h,T];rfl));replace g:=Hid.mk g;clear aN L b8 l2 b6 fT ho dR;simp only[aa, *];exact g.h
 |true =>
  by_cases wX:s.n<1
  ·have g:=b8.h S (I i) (.bool true) (bF.h.trans l2) (ho.h (by rw[dR.h,T];simp;omega));replace g:=Hid.mk g;clear aN L b8 l2 b6 fT ho dR;simp only[aa,aw,av,ay, *];exact g.h
  by_cases aij:3<s.n
  ·have g:=b8.h S (I i) (.bool true) (bF.h.trans l2) (ho.h (by rw[dR.h,T];simp;omega));replace g:=Hid.mk g;clear aN L b8 l2 b6 fT ho dR;simp only[aa,aw,av,ay, *];exact g.h
  have g:=aN.h _ S aV ⟨bF.h.trans l2,by rw[b6.h,dR.h,T];simp;omega,.bool true,rfl⟩;replace g:=Hid.mk g;clear aN L b8 l2 b6 fT ho dR;simp only[aa,aw,av,ay, *];exact g.h
theorem apk{h:J}{q:Nat}{H:Int}{d r t:Value}{l:List Nm}(dY:h.get q=some (.aq [I H,d,r,t] true))(ad:kl h r l){N:Nat}{vars:List Nat}{x0 x3 ek x6 x7 x8 x9 x10:Value}(jv:dM→ar→J→Prop)
  (L:∀ D y,h.le D→l.all jY=true→jv (.exit 2) [x0,aH q 0,.bool false,x3,ek,I (l.length:Int),y,x7,x8,x9,x10] D)
  (b8:∀ D i y,h.le D→l.all jY=false→jv .ret [x0,aH q 0,.bool false,x3,ek,i,y,x7,x8,x9,x10] D) :
  ch Tryz.prog N vars Px [x0,aH q 0,.bool false,x3,ek,I 0,x6,x7,x8,x9,x10] h jv:=by
 have bX:=ad.2;replace ad:=U ad;replace L:=U L;replace b8:=U b8;refine ch.upto l.length (fun i e A=>h.le A∧(l.take i).all jY=true∧∃ y,e=[x0,aH q 0,.bool false,x3,ek,I (i:Int),y,x7,x8,x9,x10]) ?_ (lj _) ⟨.refl h,rfl,_,rfl⟩;rintro i _ A R au ⟨bF,ai,y,rfl⟩ aN;have dY:=bF.get dY;have fr:=ad.h.mono bF;have iQ:=fr.len;delta Px;by_cases aV:i<l.length
 case neg =>
  have dm:¬(i:Int)<l.length:=by omega
  have ef:i=l.length:=by omega
  have g:=L.h A y bF (by rw[← NU (l:=l),← ef,ai]);rw[← ef]at g;replace g:=Hid.mk g;clear L b8 aN ai ef;replace bF:=U bF;replace fr:=U fr;simp only[aa,aw,av,ay, *];exact g.h
 have dm:(i:Int)<l.length:=by omega
 obtain⟨s,ak⟩:∃ e,l[i]?=some e:=⟨_,hi aV⟩;obtain⟨id,off,cells,own,az,aL,_,bq⟩:=cT.elem fr.1 (i:=i) (x:=[str s.name,I s.n]) (by simp[ak]);have f0:cells[off]?=some (str s.name):=bq 0 (by omega);have f1:cells[off+1]?=some (I s.n):=bq 1 (by omega);have w:IntKind.i64.wrap ((i:Int)+1)=((i+1:Nat):Int):=by rw[cZ (by omega) (by omega)];rfl
 have b6:(l.take (i+1)).all jY=((l.take i).all jY && jY s):=by rw[G5,ak];simp
 have fT:s∈l:=List.mem_of_getElem? ak;rw[ai]at b6;have ho:jY s=false→l.all jY=false:=fun T=>by
  rw[List.all_eq_false];exact⟨s,fT,by rw[T];simp⟩
 have dR:jY s=(de s.name && decide (1≤s.n∧s.n≤8)):=rfl;clear ak bq;replace ai:=U ai;replace bF:=U bF;replace b6:=U b6;replace fT:=U fT;replace fr:=U fr;replace ho:=U ho;replace dR:=U dR;simp only[aa,aw,av,ay, *];refine Eh A _ fun S l2=>?_;have eE:=l2.get dY;have Q2:=l2.get aL;clear dY aL;cases T:de s.name with
 |false =>
  have g:=b8.h S (I i) (.bool false) (bF.h.trans l2) (ho.h (by rw[dR.h,T];rfl));replace g:=Hid.mk g;clear aN L b8 l2 b6 fT ho dR;simp only[aa, *];exact g.h
 |true =>
  by_cases wX:s.n<1
  ·have g:=b8.h S (I i) (.bool true) (bF.h.trans l2) (ho.h (by rw[dR.h,T];simp;omega));replace g:=Hid.mk g;clear aN L b8 l2 b6 fT ho dR;simp only[aa,aw,av,ay, *];exact g.h
  by_cases aij:8<s.n
  ·have g:=b8.h S (I i) (.bool true) (bF.h.trans l2) (ho.h (by rw[dR.h,T];simp;omega));replace g:=Hid.mk g;clear aN L b8 l2 b6 fT ho dR;simp only[aa,aw,av,ay, *];exact g.h
  have g:=aN.h _ S aV ⟨bF.h.trans l2,by rw[b6.h,dR.h,T];simp;omega,.bool true,rfl⟩;replace g:=Hid.mk g;clear aN L b8 l2 b6 fT ho dR;simp only[aa,aw,av,ay, *];exact g.h
abbrev arx:ar:=[aI,.bool false,I 0,I 0,I 0,bx]
theorem adF(h:J)(m:aD)(b:Bool)(a p i:Int){u:Value}(hu:u.oneCell'=true):cz 6 (h.alloc (.aq arx true)) [aH h.next 0,tz m b a p i u]=some (b0,h.alloc (.aq [str m,.bool b,I a,I p,I i,u] true)) :=
 kk rfl rfl rfl (by simp[hu];simp[Value.oneCell'])
theorem apv{h:J}{q:Nat}{H:Int}{d r t:Value}{l:List dO}(dY:h.get q=some (.aq [I H,d,r,t] true))(ad:mz h t l)(bX:l.length≤140737488355328){N:Nat}{vars:List Nat}{x0 x3 ek x5 x6 x8 x9 x10:Value}(jv:dM→ar→J→Prop)
  (L:∀ D i x8 x9 x10,h.le D→l.all js=true→jv (.exit 4) [x0,aH q 0,.bool false,x3,ek,x5,x6,i,x8,x9,x10] D)
  (b8:∀ D i x8 x9 x10,h.le D→l.all js=false→jv .ret [x0,aH q 0,.bool false,x3,ek,x5,x6,i,x8,x9,x10] D) :
  ch Tryz.prog N vars Py [x0,aH q 0,.bool false,x3,ek,x5,x6,I 0,x8,x9,x10] h jv:=by
 replace ad:=U ad;replace L:=U L;replace b8:=U b8;refine ch.upto l.length (fun i e A=>h.le A∧(l.take i).all js=true∧∃ x8 x9 x10,e=[x0,aH q 0,.bool false,x3,ek,x5,x6,I (i:Int),x8,x9,x10]) ?_ (lj _) ⟨.refl h,rfl,_,_,_,rfl⟩;rintro i _ A R au ⟨bF,ai,l4,rl,rk,rfl⟩ aN;have dY:=bF.get dY;have fr:=ad.h.mono bF;have iQ:=fr.len;delta Py;by_cases aV:i<l.length
 case neg =>
  have dm:¬(i:Int)<l.length:=by omega
  have ef:i=l.length:=by omega
  have g:=L.h A (I i) l4 rl rk bF (by rw[← NU (l:=l),← ef,ai]);replace g:=Hid.mk g;clear L b8 aN ai ef;replace bF:=U bF;replace fr:=U fr;simp only[aa,aw,av,ay, *];exact g.h
 have dm:(i:Int)<l.length:=by omega
 obtain⟨s,ak⟩:∃ e,l[i]?=some e:=⟨_,hi aV⟩;obtain⟨id,off,cells,own,u,az,aL,bq,hu⟩:=mz.elem fr ak;have w:IntKind.i64.wrap ((i:Int)+1)=((i+1:Nat):Int):=by rw[cZ (by omega) (by omega)];rfl
 have b6:(l.take (i+1)).all js=((l.take i).all js && js s):=by rw[G5,ak];simp
 have fT:s∈l:=List.mem_of_getElem? ak;rw[ai]at b6;have ho:js s=false→l.all js=false:=fun T=>by
  rw[List.all_eq_false];exact⟨s,fT,by rw[T];simp⟩
 obtain⟨nm,T,cB,prio,line,body⟩:=s;have dR:js ⟨nm,T,cB,prio,line,body⟩=(de nm && decide (0≤cB∧cB≤3) && decide (1≤prio∧prio≤7) && decide (0≤line∧line≤(if T then 7 else 0)) && hx body 30):=rfl;have hu:hO A u body:=hu;have bq:gI true off 6 cells=some (tz nm T cB prio line u):=bq;have cG:=hu.one;have bu:=adF A nm T cB prio line cG;obtain⟨bO,S,lK,jz,dV,dh⟩:=b9 A [str nm,.bool T,I cB,I prio,I line,u];rw[jz,lK]at bu;have xa:=hu.mono dh;have eE:=dh.get dY;have hk:=bF.trans dh;clear ak bF hu dh;replace ai:=U ai;replace b6:=U b6;replace fT:=U fT;replace fr:=U fr;replace ho:=U ho;replace dR:=U dR;replace xa:=U xa;replace hk:=U hk;simp only[aa,aw,bh,av,ay, *];refine Eh S _ fun ae aE=>?_;have hz:=aE.get dV;have hT:=aE.get eE;have qW:=xa.h.mono aE;have gH:=hk.h.trans aE;clear dV eE xa aE;replace qW:=U qW;replace gH:=U gH;simp only[aa,aw, *];refine aps (left:=30) (by omega) body u ae _ qW.h fun aB aO=>?_;have hf:=aO.get hz;have np:=gH.h.trans aO;clear hz qW aO;have cO:∀ rl rk,js ⟨nm,T,cB,prio,line,body⟩=false→Hid (jv .ret [x0,aH q 0,.bool false,x3,ek,x5,x6,I i,aH bO 0,rl,rk] aB):=fun rl rk aZ=>⟨b8.h aB _ _ _ _ np (ho.h aZ)⟩;replace cO:=U cO;replace np:=U np;clear b8 ho;cases hn:de nm with
 |false =>
  have g:=cO.h (.bool false) (.bool (hx body 30)) (by rw[dR.h,hn];rfl);clear aN L b6 fT dR cO;simp only[aa, *];exact g.h
 |true =>
 cases ax:hx body 30 with
 |false =>
  have g:=cO.h (.bool true) (.bool false) (by rw[dR.h,ax];simp);clear aN L b6 fT dR cO;simp only[aa, *];exact g.h
 |true =>
 have qa:=fun aZ=>cO.h (.bool true) (.bool true) aZ;by_cases bk:cB<0
 ·have g:=qa (by rw[dR.h];simp;omega);clear aN L b6 fT dR cO qa;simp only[aa,aw,av,ay, *];exact g.h
 by_cases bJ:3<cB
 ·have g:=qa (by rw[dR.h];simp;omega);clear aN L b6 fT dR cO qa;simp only[aa,aw,av,ay, *];exact g.h
 by_cases dl:prio<1
 ·have g:=qa (by rw[dR.h];simp;omega);clear aN L b6 fT dR cO qa;simp only[aa,aw,av,ay, *];exact g.h
 by_cases fa:7<prio
 ·have g:=qa (by rw[dR.h];simp;omega);clear aN L b6 fT dR cO qa;simp only[aa,aw,av,ay, *];exact g.h
 by_cases p8:line<0
 ·have g:=qa (by rw[dR.h];simp;omega);clear aN L b6 fT dR cO qa;simp only[aa,aw,av,ay, *];exact g.h
 by_cases pb:7<line
 ·have g:=qa (by rw[dR.h];cases T<;>simp<;>omega);clear aN L b6 fT dR cO qa;simp only[aa,aw,av,ay, *];exact g.h
 cases T with
 |true =>
  have g:=aN.h _ aB aV ⟨np.h,by rw[b6.h,dR.h,hn,ax];simp;omega,aH bO 0,.bool true,.bool true,rfl⟩;replace g:=Hid.mk g;clear aN L b6 fT dR cO qa;simp only[aa,aw,av,ay, *];exact g.h
 |false =>
  by_cases PM:0<line
  ·have g:=qa (by rw[dR.h];simp;omega);clear aN L b6 fT dR cO qa;simp only[aa,aw,av,ay, *];exact g.h
  ·have g:=aN.h _ aB aV ⟨np.h,by rw[b6.h,dR.h,hn,ax];simp;omega,aH bO 0,.bool true,.bool true,rfl⟩;replace g:=Hid.mk g;clear aN L b6 fT dR cO qa;simp only[aa,aw,av,ay, *];exact g.h
theorem apl{h:J}{p:gS}{x:ar}(af:pM h p x)(Q:aT)(L:∀ D,h.le D→Q (.bool (mT p)) D):bj Tryz.prog 35 [.agg x.toArray] h Q:=by
 obtain⟨d,r,t,rfl,hd,hr,aC⟩:=af;obtain⟨H,c2,cv,db⟩:=p;simp only at hd hr aC;have dJ:=yj (n:=H) hd.one hr.one aC.one;obtain⟨q,A,eq,gO,dY,bt⟩:=b9 h [I H,d,r,t];have fd:=hd.mono bt;have iX:=hr.mono bt;have rF:=aC.mono bt;have akV:=fd.len;have aaW:=iX.len;have aaX:=rF.len;have dR:mT ⟨H,c2,cv,db⟩=(decide (1≤H∧H≤4) && decide (c2.length≤8) && decide (cv.length≤8) && decide (db.length≤16) && c2.all jO && cv.all jY && db.all js):=rfl;clear hd hr aC;replace fd:=U fd;replace iX:=U iX;replace rF:=U rF;replace bt:=U bt;replace dR:=U dR;refine c7 (k:=2) amQ rfl rfl rfl fun N=>?_;rw[gE Pw Ij rfl];delta Pw;replace L:=U L;have cO:mT ⟨H,c2,cv,db⟩=false→∀ D,A.le D→Hid (Q (.bool false) D):=fun aZ D df=>⟨by have g:=L.h D (bt.h.trans df);rw[aZ]at g;exact g⟩;replace cO:=U cO;by_cases bk:H<1
 ·have g:=cO.h (by rw[dR.h];simp;omega) A (.refl _);clear L cO;simp only[aa,aw,av,ay, *];exact g.h
 by_cases bJ:4<H
 ·have g:=cO.h (by rw[dR.h];simp;omega) A (.refl _);clear L cO;simp only[aa,aw,av,ay, *];exact g.h
 by_cases dl:(8:Int)<(c2.length:Int)
 ·have g:=cO.h (by
  rw[dR.h];have:decide (c2.length≤8)=false:=by simp;omega
  rw[this];simp) A (.refl _)
  clear L cO;simp only[aa,aw,av,ay, *];exact g.h
 by_cases fa:(8:Int)<(cv.length:Int)
 ·have g:=cO.h (by
  rw[dR.h];have:decide (cv.length≤8)=false:=by simp;omega
  rw[this];simp) A (.refl _)
  clear L cO;simp only[aa,aw,av,ay, *];exact g.h
 by_cases p8:(16:Int)<(db.length:Int)
 ·have g:=cO.h (by
  rw[dR.h];have:decide (db.length≤16)=false:=by simp;omega
  rw[this];simp) A (.refl _)
  clear L cO;simp only[aa,aw,av,ay, *];exact g.h
 simp only[aa,aw,av,ay, *];refine apa dY fd.h _ (fun S y l2 ai=>?_) fun S i y l2 ai=>?_
 case refine_2 =>
  have g:=cO.h (by rw[dR.h,ai];simp) S l2;clear L cO l2 ai;simp only[aa, *];exact g.h
 have eE:=l2.get dY;have fO:=iX.h.mono l2;replace fO:=U fO;replace l2:=U l2;replace ai:=U ai;simp only[aa, *];refine apk eE fO.h _ (fun ae y aE T=>?_) fun ae i y aE T=>?_
 case refine_2 =>
  have g:=cO.h (by rw[dR.h,T];simp) ae (l2.h.trans aE);clear L cO l2 ai aE T;simp only[aa, *];exact g.h
 have hT:=aE.get eE;have w7:=rF.h.mono (l2.h.trans aE);replace w7:=U w7;replace aE:=U aE;replace T:=U T;simp only[aa, *];refine apv hT w7.h (by have:=w7.h;obtain⟨xs,a,c,b⟩:=this;rw[← b.length];exact c) _ (fun aB i l4 rl rk aO aj=>?_) fun aB i l4 rl rk aO aj=>?_
 case refine_2 =>
  have g:=cO.h (by rw[dR.h,aj];simp) aB ((l2.h.trans aE.h).trans aO);clear L cO l2 ai aE T aO aj;simp only[aa, *];exact g.h
 have g:=L.h aB (bt.h.trans ((l2.h.trans aE.h).trans aO));have hr:mT ⟨H,c2,cv,db⟩=true:=by rw[dR.h,ai.h,T.h,aj];simp;omega
 rw[hr]at g;replace g:=Hid.mk g;clear L cO l2 ai aE T aO aj hr;simp only[aa, *];exact g.h
def IK(d:Nat):Prop:=∀(e:aX),e1 e d→∀(x:ar) (h:J) (Q:aT),iN h e x→(∀ D,h.le D→Q (str (bU e)) D)→bj Tryz.prog 62 [.agg x.toArray] h Q
def af0(d:Nat):Prop:=∀(e:aX),e1 e d→∀(dz:Nat) (x:ar) (h:J) (Q:aT),iN h e x→(∀ D,h.le D→Q (str (iJ e dz)) D)→bj Tryz.prog 105 [.agg x.toArray,I (dz:Int)] h Q
theorem apf{d:Nat}(hd:d≤30)(ih:IK d):af0 d:=by
 intro e aK dz x h Q af L;have aR:=uM aK hd;have Bz:=ih e aK;have ht:=af;obtain⟨v,rfl,ct⟩:=af.cells;have dJ:=qu (k:=e.kind) (o:=e.op) (n:=e.n) (m:=e.name) ct.one;obtain⟨p,h0,gr,yG,ep,h8⟩:=b9 h [I e.kind,I e.op,I e.n,str e.name,v];have eK:=ht.mono h8;clear ct af ht;replace Bz:=U Bz;replace eK:=U eK;replace h8:=U h8;refine c7 (k:=3) alH rfl rfl rfl fun N=>?_;rw[eJ NP mZ rfl];delta NP;replace L:=U L;simp only[aa,aw,dt, *];refine Bz.h _ _ _ eK.h fun A l1=>?_;have fA:=l1.get ep;have dw:∀ D,A.le D→Q (str (iJ e dz)) D:=fun D df=>L.h D ((h8.h.trans l1).trans df);clear L l1 dJ;unfold iJ nb at dw;by_cases eC:e.kind=4
 ·by_cases ag:cy e.op<dz
  ·rw[if_pos ⟨eC,ag⟩]at dw;have cW:(cy e.op:Int)<(dz:Int):=by omega
   have bk:=cf (a:=[40]) (b:=bU e) (by simp;omega);have bJ:=cf (a:=[40]++bU e) (b:=[41]) (by simp;omega);have az:(40::(bU e++[41]):aD)=[40]++bU e++[41]:=by simp
   rw[az]at dw;clear az;have Hl:(e.kind==4)=true:=by simpa using eC
   clear eC;replace dw:=U dw;simp only[aa,aw,av,ay, *];refine Mt e.op _ _ fun S l2=>?_;have g:=Hid.mk (dw.h S l2);clear dw l2;simp only[aa,av,ay, *];exact g.h
  ·rw[if_neg (by omega)]at dw;have cW:¬(cy e.op:Int)<(dz:Int):=by omega
   have Hl:(e.kind==4)=true:=by simpa using eC
   clear eC;replace dw:=U dw;simp only[aa,aw,av,ay, *];refine Mt e.op _ _ fun S l2=>?_;have g:=Hid.mk (dw.h S l2);clear dw l2;simp only[aa,av,ay, *];exact g.h
 ·rw[if_neg (by omega)]at dw;have g:=Hid.mk (dw A (.refl _));have Hl:(e.kind==4)=false:=by simpa using eC
  clear eC dw;simp only[aa,aw,av,ay, *];exact g.h
theorem apt{d:Nat}(hd:d+1≤30)(ih:IK d):IK (d+1):=by
 intro e aK x h Q af L;have ut:=apf (by omega) ih;have ht:=af;obtain⟨v,rfl,ct⟩:=af.cells;have dJ:=qu (k:=e.kind) (o:=e.op) (n:=e.n) (m:=e.name) ct.one;obtain⟨p,h0,gr,yG,ep,h8⟩:=b9 h [I e.kind,I e.op,I e.n,str e.name,v];have jR:=ct.mono h8;clear ct af ht;replace ih:=U ih;replace ut:=U ut;replace jR:=U jR;replace h8:=U h8;refine c7 (k:=2) anf rfl rfl rfl fun N=>?_;rw[gE PZ qj rfl];delta PZ;replace L:=U L;simp only[aa,aw, *];refine apo _ _ _ fun KT dD=>?_;have ep:=dD.get ep;simp only[aa,aw, *];refine Mt _ _ _ fun A zH=>?_;have l1:=dD.trans zH;have fA:=zH.get ep;have ji:=jR.h.mono l1;have cN:=fun D (l2:A.le D)=>L.h D ((h8.h.trans l1).trans l2);clear L ep dJ yG gr jR h8 l1 dD zH;replace ji:=U ji;replace cN:=U cN;cases aK with
 |num n d h =>
  have g:=cN.h A (J.le.refl A);simp only[bU,sE,if_true]at g;simp only[aX.kind,aX.op,aX.n,aX.name,aX.args]at *;replace g:=Hid.mk g;clear g;simp only[aa,aw,av,ay, *];refine wG n (by omega) _ _ fun S l2=>?_;have g:=cN.h S l2;simp only[bU,sE,if_true]at g;replace g:=Hid.mk g;clear cN l2;simp only[aa, *];exact g.h
 |var m d h =>
  have g:=cN.h A (J.le.refl A);have az:bU (.mk 2 0 0 m [])=m:=rfl;rw[az]at g;simp only[aX.kind,aX.op,aX.n,aX.name,aX.args]at *;replace g:=Hid.mk g;simp only[aa,aw,av,ay,Int.reduceBEq, *];exact g.h
 |one o a d h bi =>
  have az:bU (.mk 3 o 0 [] [a])=eU o++iJ a 9:=rfl;rw[az]at cN;simp only[aX.kind,aX.op,aX.n,aX.name,aX.args]at *;obtain⟨id,off,cells,own,y,az,aL,bq,dr,_⟩:=ji.h.elem (i:=0) (e:=a) rfl;have ax:=xU a 9 (bU a);have ag:=uM bi (by omega);have ak:=Eo o;have bk:=cf (a:=eU o) (b:=iJ a 9) (by unfold iJ;omega);clear ax ag ak;replace dr:=U dr;rw[Ch]at az;have zy:(9:Int)=((9:Nat):Int):=rfl;simp only[aa,aw,av,ay,Int.reduceBEq, *];refine ut.h _ bi _ _ _ _ dr.h fun S l2=>?_;have g:=cN.h S l2;replace g:=Hid.mk g;clear l2;simp only[aa,av, *];exact g.h
 |two o a b d h bi FP =>
  have az:bU (.mk 4 o 0 [] [a,b])=iJ a (cy o)++[32]++eU o++[32]++iJ b (cy o+1):=by simp[bU,xM,sE,iJ]
  rw[az]at cN;simp only[aX.kind,aX.op,aX.n,aX.name,aX.args]at *;have ax:=xU a (cy o) (bU a);have iE:=xU b (cy o+1) (bU b);have ag:=uM bi (by omega);have bC:=uM FP (by omega);have ak:=Eo o;have bk:=cf (a:=iJ a (cy o)) (b:=[32]) (by unfold iJ;simp;omega);have bJ:=cf (a:=iJ a (cy o)++[32]) (b:=eU o) (by unfold iJ;simp;omega);have dl:=cf (a:=iJ a (cy o)++[32]++eU o) (b:=[32]) (by unfold iJ;simp;omega);have fa:=cf (a:=iJ a (cy o)++[32]++eU o++[32]) (b:=iJ b (cy o+1)) (by unfold iJ;simp;omega);clear ax ag ak iE bC;have ajs:=wa (cy o) (by have:=TY o;omega);obtain⟨id,off,cells,own,y,az,aL,bq,dr,_⟩:=ji.h.elem (i:=0) (e:=a) rfl;rw[Ch]at az;replace dr:=U dr;simp only[aa,aw,av,ay,Int.reduceBEq, *];refine ut.h _ bi _ _ _ _ dr.h fun S l2=>lg l2.ext ?_;have dV:=l2.get fA;obtain⟨sz,q9,qy,rb,xY,f1,f2,f3,p2,_⟩:=(ji.h.mono l2).elem (i:=1) (e:=b) rfl;have oJ:=fun D (aE:S.le D)=>cN.h D (l2.trans aE);rw[show((1:Nat):Int)=1 from rfl]at f1;clear cN l2 az aL bq dr;replace p2:=U p2;replace oJ:=U oJ;simp only[aa,aw,av,ay, *];refine ut.h _ FP _ _ _ _ p2.h fun ae aE=>?_;have g:=oJ.h ae aE;replace g:=Hid.mk g;clear aE;simp only[aa,av, *];exact g.h
 |idx m a d h bi =>
  have az:bU (.mk 5 0 0 m [a])=m++[91]++bU a++[93]:=by simp[bU,xM,sE]
  rw[az]at cN;simp only[aX.kind,aX.op,aX.n,aX.name,aX.args]at *;obtain⟨id,off,cells,own,y,az,aL,bq,dr,_⟩:=ji.h.elem (i:=0) (e:=a) rfl;have ag:=uM bi (by omega);have ak:=qY h;have bk:=cf (a:=m) (b:=[91]) (by simp;omega);have bJ:=cf (a:=m++[91]) (b:=bU a) (by simp;omega);have dl:=cf (a:=m++[91]++bU a) (b:=[93]) (by simp;omega);clear ag ak;replace dr:=U dr;rw[Ch]at az;simp only[aa,aw,av,ay,Int.reduceBEq, *];refine ih.h a bi _ _ _ dr.h fun S l2=>lg l2.ext ?_;have dV:=l2.get fA;have g:=cN.h S l2;replace g:=Hid.mk g;clear l2;simp only[aa,aw,av, *];exact g.h
theorem z1:∀(d:Nat),d≤30→IK d
 |0,_=>fun e aK=>by cases aK
 |d+1,hd=>apt hd (z1 d (by omega))
theorem apd{h:J}{e:aX}{x:ar}(af:iN h e x)(Q:aT)
  (L:∀ D,h.le D→Q (.tuple #[str (if fu e 30 then bU e else[]),I (if fu e 30 then 0 else 1)]) D):bj Tryz.prog 24 [.agg x.toArray] h Q:=by
 have ht:=af;obtain⟨v,rfl,ct⟩:=af.cells;have dJ:=qu (k:=e.kind) (o:=e.op) (n:=e.n) (m:=e.name) ct.one;obtain⟨p,h0,gr,yG,ep,h8⟩:=b9 h [I e.kind,I e.op,I e.n,str e.name,v];have eK:=ht.mono h8;clear af ht ct;replace eK:=U eK;replace h8:=U h8;refine qw (k:=2) (j:=3) amG rfl rfl rfl fun N=>?_;rw[gE Pj uO rfl];delta Pj;replace L:=U L;simp only[aa,aw,dt, *];refine acC eK.h _ fun S l2=>?_;have dV:=l2.get ep;have gc:=eK.h.mono l2;have aE:=h8.h.trans l2;clear eK l2 h8;cases hr:fu e 30 with
 |false =>
  have g:=L.h S aE;rw[hr]at g;simp only[xZ,if_false]at g;replace g:=Hid.mk g;clear L gc aE;simp only[aa, *];exact g.h
 |true =>
  rw[hr]at L;simp only[if_true]at L;replace gc:=U gc;replace aE:=U aE;simp only[aa,aw,dt, *];refine z1 30 (by omega) e ((rX 30 e).1 hr) _ _ _ gc.h fun aB aO=>?_;have g:=Hid.mk (L.h aB (aE.h.trans aO));clear L gc aE aO;simp only[aa, *];exact g.h
def IB(d:Nat):Prop:=∀(s:aP),jx s d→∀(t:Nat),t+d≤100→∀(x:ar) (h:J) (Q:aT),lI h s x→(gy t s).length≤ez→(∀ D,h.le D→Q (str (gy t s)) D)→bj Tryz.prog 86 [.agg x.toArray,str (bR t)] h Q
def M6(d:Nat):Prop:=∀(et:List aP),(∀ s∈et,jx s d)→∀(t:Nat),t+d≤100→∀(v:Value) (h:J) (Q:aT),hO h v et→(cJ t et).length≤ez→(∀ D,h.le D→Q (str (cJ t et)) D)→bj Tryz.prog 37 [v,str (bR t)] h Q
theorem acz{d:Nat}(ih:IB d):M6 d:=by
 intro et pu t aC v h Q ad aR L;have iQ:=ad.len;have bX:=ad.le;replace ih:=U ih;replace pu:=U pu;replace ad:=U ad;replace aR:=U aR;refine c7 (k:=2) amS rfl rfl rfl fun N=>?_;rw[eJ PB mZ rfl];delta PB;replace L:=U L;simp only[aa, *];refine ch.upto et.length (fun i e S=>h.le S∧e=[v,str (bR t),aI,str (cJ t (et.take i)),I (i:Int)]) ?_ (lj _) ⟨.refl h,rfl⟩;rintro i _ S R au ⟨bC,rfl⟩ aN;delta Xp;by_cases aV:i<et.length
 ·have dm:(i:Int)<et.length:=by omega
  obtain⟨s,ak⟩:∃ s,et[i]?=some s:=⟨_,hi aV⟩;have Bm:=pu.h s (List.mem_of_getElem? ak);obtain⟨id,off,cells,own,x,az,aL,bq,af,_⟩:=(ad.h.mono bC).elem ak;have ax:IntKind.i64.wrap ((i:Int)+1)=((i+1:Nat):Int):=by rw[cZ (by omega) (by omega)];rfl
  have vw:=UB t et i s ak;have gw:=UC t et (i+1);rw[vw,ap]at gw;have ck:=cf (a:=cJ t (et.take i)) (b:=gy t s) (by have:=aR.h;simp only[ez]at this;omega);replace af:=U af;replace ak:=U ak;replace Bm:=U Bm;replace vw:=U vw;replace gw:=U gw;replace bC:=U bC;simp only[aa,aw,av,ay, *];refine ih.h s Bm.h t aC _ S _ af.h (by have az:=aR.h;have aL:=gw.h;omega) fun aB aO=>?_;have g:=aN.h _ aB aV ⟨bC.h.trans aO,by rw[vw.h]⟩;replace g:=Hid.mk g;clear aN L vw gw aO;simp only[aa,av,ay, *];exact g.h
 ·have dm:¬(i:Int)<et.length:=by omega
  have ef:i=et.length:=by omega
  subst ef;have g:=L.h S bC;rw[NU];replace g:=Hid.mk g;clear aN L bC;simp only[aa,av,ay, *];exact g.h
theorem aqB(t:Nat)(aC:t≤100):uU .add ⟨(bR t).toArray⟩ ⟨#[9]⟩=some (.string ⟨(bR (t+1)).toArray⟩):=by
 have:=cf (a:=bR t) (b:=[9]) (by simp[bR];omega);have e:bR t++[9]=bR (t+1):=by simp[bR,List.replicate_succ']
 rw[e]at this;exact this
theorem ape{d:Nat}(ih:M6 d):IB (d+1):=by
 intro s ak t aC x h Q af aR L;obtain⟨fR,qk,sQ,rfl,hs,kc,jm⟩:=af.cells;have dJ:=yk (k:=s.kind) (n:=s.n) (m:=s.name) (f:=s.src) hs.one kc.one jm.one;have cG:=hs.one;have cP:=kc.one;have gm:=jm.one;obtain⟨q,h0,eq,yG,dY,h8⟩:=b9 h [I s.kind,str s.name,str s.src,I s.n,fR,qk,sQ];have hs:=hs.mono h8;have kc:=kc.mono h8;have jm:=jm.mono h8;have L:∀ D,h0.le D→Q (str (gy t s)) D:=fun D df=>L D (h8.trans df);have Vn:=aqB t (by omega);clear af h8;replace ih:=U ih;replace hs:=U hs;replace kc:=U kc;replace jm:=U jm;simp only[ez]at aR;refine c7 (k:=3) anE rfl rfl rfl fun N=>?_;rw[eJ Qu uO rfl];delta Qu;replace L:=U L;replace L:=L.h;cases ak with
 |set m a _ hm ai =>
  have az:gy t (.mk 1 m [] 0 [a] [] [])=bR t++m++[32,61,32]++bU a++[59,10]:=by simp[gy,oR,dA,pa,wy,kC]
  rw[az]at aR L;have bg:=aR;simp only[aP.kind,aP.name,aP.src,aP.n,aP.args,aP.aU,aP.bz]at *;have ck:=cf (a:=(bR t)) (b:=m) (by simp only[ap]at bg ⊢;omega);have cm:=cf (a:=(bR t)++m) (b:=[32,61,32]) (by simp only[ap]at bg ⊢;omega);have cb:=cf (a:=(bR t)++m++[32,61,32]) (b:=bU a) (by simp only[ap]at bg ⊢;omega);have eC:=cf (a:=(bR t)++m++[32,61,32]++bU a) (b:=[59,10]) (by simp only[ap]at bg ⊢;omega);clear bg aR az;replace L:=U L;obtain⟨id,off,cells,own,y,az,aL,bq,dr,_⟩:=hs.h.elem (i:=0) (e:=a) rfl;rw[Ch]at az;replace dr:=U dr;simp only[aa,aw,av,ay, *];refine z1 30 (by omega) a ai _ h0 _ dr.h fun S l2=>lg l2.ext ?_;have eE:=l2.get dY;have g:=Hid.mk (L.h S l2);clear L l2;simp only[aa,aw,av, *];exact g.h
 |get m f n _ hm aZ hn =>
  have az:gy t (.mk 2 m f (n:Nat) [] [] [])=bR t++m++[32,61,32]++f++[46]++bs n++[59,10]:=by simp[gy,oR,dA,pa,wy,kC]
  rw[az]at aR L;have bg:=aR;simp only[aP.kind,aP.name,aP.src,aP.n,aP.args,aP.aU,aP.bz]at *;have ck:=cf (a:=(bR t)) (b:=m) (by simp only[ap]at bg ⊢;omega);have cm:=cf (a:=(bR t)++m) (b:=[32,61,32]) (by simp only[ap]at bg ⊢;omega);have cb:=cf (a:=(bR t)++m++[32,61,32]) (b:=f) (by simp only[ap]at bg ⊢;omega);have eC:=cf (a:=(bR t)++m++[32,61,32]++f) (b:=[46]) (by simp only[ap]at bg ⊢;omega);have dG:=cf (a:=(bR t)++m++[32,61,32]++f++[46]) (b:=bs n) (by simp only[ap]at bg ⊢;omega);have ol:=cf (a:=(bR t)++m++[32,61,32]++f++[46]++bs n) (b:=[59,10]) (by simp only[ap]at bg ⊢;omega);clear bg aR az;replace L:=U L;simp only[aa,aw,av,ay,Int.reduceBEq, *];refine wG n (by omega) h0 _ fun S l2=>lg l2.ext ?_;have eE:=l2.get dY;have g:=Hid.mk (L.h S l2);clear L l2;simp only[aa,aw,av, *];exact g.h
 |put m n a _ hm hn ai =>
  have az:gy t (.mk 3 m [] (n:Nat) [a] [] [])=bR t++m++[46]++bs n++[32,61,32]++bU a++[59,10]:=by simp[gy,oR,dA,pa,wy,kC]
  rw[az]at aR L;have bg:=aR;simp only[aP.kind,aP.name,aP.src,aP.n,aP.args,aP.aU,aP.bz]at *;have ck:=cf (a:=(bR t)) (b:=m) (by simp only[ap]at bg ⊢;omega);have cm:=cf (a:=(bR t)++m) (b:=[46]) (by simp only[ap]at bg ⊢;omega);have cb:=cf (a:=(bR t)++m++[46]) (b:=bs n) (by simp only[ap]at bg ⊢;omega);have eC:=cf (a:=(bR t)++m++[46]++bs n) (b:=[32,61,32]) (by simp only[ap]at bg ⊢;omega);have dG:=cf (a:=(bR t)++m++[46]++bs n++[32,61,32]) (b:=bU a) (by simp only[ap]at bg ⊢;omega);have ol:=cf (a:=(bR t)++m++[46]++bs n++[32,61,32]++bU a) (b:=[59,10]) (by simp only[ap]at bg ⊢;omega);clear bg aR az;replace L:=U L;simp only[aa,aw,av,ay,Int.reduceBEq, *];refine wG n (by omega) h0 _ fun S l2=>lg l2.ext ?_;have eE:=l2.get dY;obtain⟨id,off,cells,own,y,az,aL,bq,dr,_⟩:=(hs.h.mono l2).elem (i:=0) (e:=a) rfl;rw[Ch]at az;replace dr:=U dr;replace l2:=U l2;simp only[aa,aw, *];refine z1 30 (by omega) a ai _ S _ dr.h fun ae aE=>lg aE.ext ?_;have hT:=aE.get eE;have g:=Hid.mk (L.h ae (l2.h.trans aE));clear L l2 aE;simp only[aa,aw,av, *];exact g.h
 |store m a b _ hm ai T =>
  have az:gy t (.mk 4 m [] 0 [a,b] [] [])=bR t++m++[91]++bU a++[93,32,61,32]++bU b++[59,10]:=by simp[gy,oR,dA,pa,wy,kC]
  rw[az]at aR L;have bg:=aR;simp only[aP.kind,aP.name,aP.src,aP.n,aP.args,aP.aU,aP.bz]at *;have ck:=cf (a:=(bR t)) (b:=m) (by simp only[ap]at bg ⊢;omega);have cm:=cf (a:=(bR t)++m) (b:=[91]) (by simp only[ap]at bg ⊢;omega);have cb:=cf (a:=(bR t)++m++[91]) (b:=bU a) (by simp only[ap]at bg ⊢;omega);have eC:=cf (a:=(bR t)++m++[91]++bU a) (b:=[93,32,61,32]) (by simp only[ap]at bg ⊢;omega);have dG:=cf (a:=(bR t)++m++[91]++bU a++[93,32,61,32]) (b:=bU b) (by simp only[ap]at bg ⊢;omega);have ol:=cf (a:=(bR t)++m++[91]++bU a++[93,32,61,32]++bU b) (b:=[59,10]) (by simp only[ap]at bg ⊢;omega);clear bg aR az;replace L:=U L;obtain⟨id,off,cells,own,y,az,aL,bq,dr,_⟩:=hs.h.elem (i:=0) (e:=a) rfl;rw[Ch]at az;replace dr:=U dr;simp only[aa,aw,av,ay,Int.reduceBEq, *];refine z1 30 (by omega) a ai _ h0 _ dr.h fun S l2=>lg l2.ext ?_;have eE:=l2.get dY;obtain⟨sz,q9,qy,rb,xY,f1,f2,f3,p2,_⟩:=(hs.h.mono l2).elem (i:=1) (e:=b) rfl;rw[show((1:Nat):Int)=1 from rfl]at f1;clear az aL bq dr;replace p2:=U p2;replace l2:=U l2;simp only[aa,aw, *];refine z1 30 (by omega) b T _ S _ p2.h fun ae aE=>lg aE.ext ?_;have hT:=aE.get eE;have g:=Hid.mk (L.h ae (l2.h.trans aE));clear L l2 aE;simp only[aa,aw,av, *];exact g.h
 |lock m aU _ hm jT =>
  have az:gy t (.mk 5 m [] 0 [] aU [])=bR t++[108,111,99,107,32]++m++[32,123,10]++cJ (t+1) aU++bR t++[125,10]:=by simp[gy,oR,dA,pa,wy,kC]
  rw[az]at aR L;have bg:=aR;simp only[aP.kind,aP.name,aP.src,aP.n,aP.args,aP.aU,aP.bz]at *;have ck:=cf (a:=(bR t)) (b:=[108,111,99,107,32]) (by simp only[ap]at bg ⊢;omega);have cm:=cf (a:=(bR t)++[108,111,99,107,32]) (b:=m) (by simp only[ap]at bg ⊢;omega);have cb:=cf (a:=(bR t)++[108,111,99,107,32]++m) (b:=[32,123,10]) (by simp only[ap]at bg ⊢;omega);have eC:=cf (a:=(bR t)++[108,111,99,107,32]++m++[32,123,10]) (b:=cJ (t+1) aU) (by simp only[ap]at bg ⊢;omega);have dG:=cf (a:=(bR t)++[108,111,99,107,32]++m++[32,123,10]++cJ (t+1) aU) (b:=(bR t)) (by simp only[ap]at bg ⊢;omega);have ol:=cf (a:=(bR t)++[108,111,99,107,32]++m++[32,123,10]++cJ (t+1) aU++(bR t)) (b:=[125,10]) (by simp only[ap]at bg ⊢;omega);have dx:(cJ (t+1) aU).length≤ez:=by simp only[ez];simp only[ap]at bg;omega
  clear bg aR az;replace L:=U L;simp only[aa,aw,av,ay,Int.reduceBEq, *];refine ih.h aU jT (t+1) (by omega) qk h0 _ kc.h dx fun S l2=>lg l2.ext ?_;have eE:=l2.get dY;have g:=Hid.mk (L.h S l2);clear L l2;simp only[aa,aw,av, *];exact g.h
 |cond a aU bz _ ai jT k7 =>
  have dx:(cJ (t+1) aU).length≤ez∧(cJ (t+1) bz).length≤ez:=by
   simp only[ez];have az:gy t (.mk 6 [] [] 0 [a] aU bz)=kC t ([105,102,32,40]++bU a++[41]) (cJ (t+1) aU) (cJ (t+1) bz) (!bz.isEmpty):=rfl;rw[az]at aR;unfold kC at aR;cases bz with
   |nil=>simp only[ap]at aR;exact⟨by omega,by simp[cJ]⟩
   |cons e r=>simp only[List.isEmpty_cons,Cg,if_true,ap]at aR;exact⟨by omega,by omega⟩
  simp only[aP.kind,aP.name,aP.src,aP.n,aP.args,aP.aU,aP.bz]at *;obtain⟨id,off,cells,own,y,az,aL,bq,dr,_⟩:=hs.h.elem (i:=0) (e:=a) rfl;rw[Ch]at az;have iQ:=jm.h.len;replace dr:=U dr;cases bz with
  |nil =>
   have cV:gy t (.mk 6 [] [] 0 [a] aU [])=(bR t)++[105,102,32,40]++bU a++[41,32,123,10]++cJ (t+1) aU++bR t++[125,10]:=by simp[gy,oR,dA,pa,kC]
   rw[cV]at aR L;have bg:=aR;have ck:=cf (a:=(bR t)) (b:=[105,102,32,40]) (by simp only[ap]at bg ⊢;omega);have cm:=cf (a:=(bR t)++[105,102,32,40]) (b:=bU a) (by simp only[ap]at bg ⊢;omega);have cb:=cf (a:=(bR t)++[105,102,32,40]++bU a) (b:=[41,32,123,10]) (by simp only[ap]at bg ⊢;omega);have eC:=cf (a:=(bR t)++[105,102,32,40]++bU a++[41,32,123,10]) (b:=cJ (t+1) aU) (by simp only[ap]at bg ⊢;omega);have dG:=cf (a:=(bR t)++[105,102,32,40]++bU a++[41,32,123,10]++cJ (t+1) aU) (b:=(bR t)) (by simp only[ap]at bg ⊢;omega);have ol:=cf (a:=(bR t)++[105,102,32,40]++bU a++[41,32,123,10]++cJ (t+1) aU++bR t) (b:=[125,10]) (by simp only[ap]at bg ⊢;omega);clear bg aR cV;have bp:(([]:List aP).length:Int)=0:=rfl;replace L:=U L;replace dx:=U dx;simp only[aa,aw,av,ay,Int.reduceBEq, *];refine z1 30 (by omega) a ai _ h0 _ dr.h fun S l2=>lg l2.ext ?_;have eE:=l2.get dY;have xb:=kc.h.mono l2;have asE:=(jm.h.mono l2).len;replace xb:=U xb;replace l2:=U l2;simp only[aa,aw,av, *];refine ih.h aU jT (t+1) (by omega) qk S _ xb.h dx.h.1 fun ae aE=>?_;have hT:=aE.get eE;have g:=Hid.mk (L.h ae (l2.h.trans aE));clear L l2 aE xb dx;simp only[aa,aw,av,ay,Int.reduceLT, *];exact g.h
  |cons eI AA =>
   have cV:gy t (.mk 6 [] [] 0 [a] aU (eI::AA))=(bR t)++[105,102,32,40]++bU a++[41,32,123,10]++cJ (t+1) aU++bR t++[125,32,101,108,115,101,32,123,10]++cJ (t+1) (eI::AA)++bR t++[125,10]:=by simp[gy,oR,dA,pa,kC]
   rw[cV]at aR L;have bg:=aR;have ck:=cf (a:=(bR t)) (b:=[105,102,32,40]) (by simp only[ap]at bg ⊢;omega);have cm:=cf (a:=(bR t)++[105,102,32,40]) (b:=bU a) (by simp only[ap]at bg ⊢;omega);have cb:=cf (a:=(bR t)++[105,102,32,40]++bU a) (b:=[41,32,123,10]) (by simp only[ap]at bg ⊢;omega);have eC:=cf (a:=(bR t)++[105,102,32,40]++bU a++[41,32,123,10]) (b:=cJ (t+1) aU) (by simp only[ap]at bg ⊢;omega);have dG:=cf (a:=(bR t)++[105,102,32,40]++bU a++[41,32,123,10]++cJ (t+1) aU) (b:=(bR t)) (by simp only[ap]at bg ⊢;omega);have ol:=cf (a:=(bR t)++[105,102,32,40]++bU a++[41,32,123,10]++cJ (t+1) aU++bR t) (b:=[125,32,101,108,115,101,32,123,10]) (by simp only[ap]at bg ⊢;omega);have iF:=cf (a:=(bR t)++[105,102,32,40]++bU a++[41,32,123,10]++cJ (t+1) aU++bR t++[125,32,101,108,115,101,32,123,10]) (b:=cJ (t+1) (eI::AA)) (by simp only[ap]at bg ⊢;omega);have TO:=cf (a:=(bR t)++[105,102,32,40]++bU a++[41,32,123,10]++cJ (t+1) aU++bR t++[125,32,101,108,115,101,32,123,10]++cJ (t+1) (eI::AA)) (b:=(bR t)) (by simp only[ap]at bg ⊢;omega);have zy:=cf (a:=(bR t)++[105,102,32,40]++bU a++[41,32,123,10]++cJ (t+1) aU++bR t++[125,32,101,108,115,101,32,123,10]++cJ (t+1) (eI::AA)++bR t) (b:=[125,10]) (by simp only[ap]at bg ⊢;omega);clear bg aR cV;have bp:(0:Int)<((eI::AA).length:Int):=by simp
   replace L:=U L;replace dx:=U dx;simp only[aa,aw,av,ay,Int.reduceBEq, *];refine z1 30 (by omega) a ai _ h0 _ dr.h fun S l2=>lg l2.ext ?_;have eE:=l2.get dY;have xb:=kc.h.mono l2;replace xb:=U xb;replace l2:=U l2;simp only[aa,aw,av, *];refine ih.h aU jT (t+1) (by omega) qk S _ xb.h dx.h.1 fun ae aE=>?_;have hT:=aE.get eE;have gH:=l2.h.trans aE;have Ha:=jm.h.mono gH;have asF:=Ha.len;clear aE l2;replace Ha:=U Ha;replace gH:=U gH;simp only[aa,aw,av,ay, *];refine ih.h (eI::AA) k7 (t+1) (by omega) sQ ae _ Ha.h dx.h.2 fun aB aO=>?_;have qH:=aO.get hT;have g:=Hid.mk (L.h aB (gH.h.trans aO));clear L gH aO xb dx Ha;simp only[aa,av, *];exact g.h
 |rW n aU _ hn jT =>
  have az:gy t (.mk 7 [] [] (n:Nat) [] aU [])=bR t++[114,101,112,101,97,116,32]++bs n++[32,123,10]++cJ (t+1) aU++bR t++[125,10]:=by simp[gy,oR,dA,pa,wy,kC]
  rw[az]at aR L;have bg:=aR;simp only[aP.kind,aP.name,aP.src,aP.n,aP.args,aP.aU,aP.bz]at *;have ck:=cf (a:=(bR t)) (b:=[114,101,112,101,97,116,32]) (by simp only[ap]at bg ⊢;omega);have cm:=cf (a:=(bR t)++[114,101,112,101,97,116,32]) (b:=bs n) (by simp only[ap]at bg ⊢;omega);have cb:=cf (a:=(bR t)++[114,101,112,101,97,116,32]++bs n) (b:=[32,123,10]) (by simp only[ap]at bg ⊢;omega);have eC:=cf (a:=(bR t)++[114,101,112,101,97,116,32]++bs n++[32,123,10]) (b:=cJ (t+1) aU) (by simp only[ap]at bg ⊢;omega);have dG:=cf (a:=(bR t)++[114,101,112,101,97,116,32]++bs n++[32,123,10]++cJ (t+1) aU) (b:=(bR t)) (by simp only[ap]at bg ⊢;omega);have ol:=cf (a:=(bR t)++[114,101,112,101,97,116,32]++bs n++[32,123,10]++cJ (t+1) aU++(bR t)) (b:=[125,10]) (by simp only[ap]at bg ⊢;omega);have dx:(cJ (t+1) aU).length≤ez:=by simp only[ez];simp only[ap]at bg;omega
  clear bg aR az;replace L:=U L;simp only[aa,aw,av,ay,Int.reduceBEq, *];refine wG n (by omega) h0 _ fun A l1=>lg l1.ext ?_;have iA:=l1.get dY;have Lw:=kc.h.mono l1;replace Lw:=U Lw;replace l1:=U l1;simp only[aa,aw,av, *];refine ih.h aU jT (t+1) (by omega) qk A _ Lw.h dx fun S l2=>?_;have eE:=l2.get iA;have g:=Hid.mk (L.h S (l1.h.trans l2));clear L l2 l1 Lw;simp only[aa,av, *];exact g.h
 |halt =>
  have az:gy t (.mk 8 [] [] 0 [] [] [])=bR t++[104,97,108,116,59,10]:=by simp[gy,oR,dA,pa,wy,kC]
  rw[az]at aR L;have bg:=aR;simp only[aP.kind,aP.name,aP.src,aP.n,aP.args,aP.aU,aP.bz]at *;have ck:=cf (a:=(bR t)) (b:=[104,97,108,116,59,10]) (by simp only[ap]at bg ⊢;omega);clear bg aR az;replace L:=U L;have g:=Hid.mk (L.h h0 (.refl _));clear L;simp only[aa,aw,av,ay,Int.reduceBEq, *];exact g.h
theorem acB:∀ d,IB d∧M6 d:=by
 intro d;induction d with
 |zero =>
  have a:IB 0:=fun s ak=>by cases ak
  exact⟨a,acz a⟩
 |succ d ih=>have a:=ape ih.2;exact⟨a,acz a⟩
def zC:List (aD):=[[117,97,114,116],[116,105,109,101,114],[103,112,105,111]]
theorem apg{h:J}{q:Nat}{H:Int}{d r t:Value}{l:List Nm}(dY:h.get q=some (.aq [I H,d,r,t] true))(ad:kl h d l)(bX:l.length≤140737488355328)(c6:∀ d∈l,jO d=true){dD:aD}(aR:dD.length+(l.map ir).flatten.length≤ez){N:Nat}{vars:List Nat}{x0 ej x3 ek x7 x8 x9 x10:Value}(jv:dM→ar→J→Prop)
  (L:∀ D ,h.le D→jv (.exit 0) [x0,aH q 0,ej,x3,ek,str (dD++(l.map ir).flatten),I (l.length:Int),x7,x8,x9,x10] D) :
  ch Tryz.prog N vars O7 [x0,aH q 0,ej,x3,ek,str dD,I 0,x7,x8,x9,x10] h jv:=by
 replace L:=Hid.mk L;refine ch.upto l.length (fun i e S=>h.le S∧e=[x0,aH q 0,ej,x3,ek,str (dD++((l.map ir).take i).flatten),I (i:Int),x7,x8,x9,x10]) ?_ (lj _) ⟨.refl h,by simp⟩;rintro i _ S EJ au ⟨bC,rfl⟩ aN;have eE:=bC.get dY;have iQ:=(ad.mono bC).len;delta O7;by_cases aV:i<l.length
 ·have dm:(i:Int)<l.length:=by omega
  obtain⟨d1,hd⟩:∃ d,l[i]?=some d:=⟨_,hi aV⟩;have fN:=c6 d1 (List.mem_of_getElem? hd);simp only[jO,Bool.and_eq_true,decide_eq_true_eq]at fN;obtain⟨id,off,cells,own,az,aL,_,bq⟩:=cT.elem (ad.mono bC).1 (i:=i) (x:=[str d1.name,I d1.n]) (by simp[hd]);have f0:cells[off]?=some (str d1.name):=bq 0 (by omega);have f1:cells[off+1]?=some (I d1.n):=bq 1 (by omega);have ax:IntKind.i64.wrap ((i:Int)+1)=((i+1:Nat):Int):=by rw[cZ (by omega) (by omega)];rfl
  have gv:=AG (vI ir hd);have gw:=yN (l.map ir) (i+1);rw[gv,ap]at gw;obtain⟨iq,pn⟩:∃ k:Nat,d1.n=((k+1:Nat):Int):=⟨d1.n.toNat-1,by omega⟩;have nL:iq<3:=by omega
  have zl:IntKind.i64.wrap (d1.n-1)=(iq:Int):=by rw[pn,cZ (by omega) (by omega)];omega
  have mF:sC.getD d1.n.toNat []=zC.getD iq []:=by
   rw[pn];have:iq=0∨iq=1∨iq=2:=by omega
   rcases this with rfl|rfl|rfl<;>rfl
  have pr:ir d1=[100,101,118,105,99,101,32]++d1.name++[32]++zC.getD iq []++[10]:=by rw[ir,mF];simp[dA,bR]
  rw[pr]at gv gw;have bg:((dD++((l.map ir).take i).flatten)++([100,101,118,105,99,101,32]++d1.name++[32]++zC.getD iq []++[10])).length≤ez:=by rw[ap,ap];omega
  simp only[ez]at bg;have ck:=cf (a:=(dD++((l.map ir).take i).flatten)) (b:=[100,101,118,105,99,101,32]) (by simp only[ap]at bg ⊢;omega);have cm:=cf (a:=(dD++((l.map ir).take i).flatten)++[100,101,118,105,99,101,32]) (b:=d1.name) (by simp only[ap]at bg ⊢;omega);have cb:=cf (a:=(dD++((l.map ir).take i).flatten)++[100,101,118,105,99,101,32]++d1.name) (b:=[32]) (by simp only[ap]at bg ⊢;omega);have eC:=cf (a:=(dD++((l.map ir).take i).flatten)++[100,101,118,105,99,101,32]++d1.name++[32]) (b:=zC.getD iq []) (by simp only[ap]at bg ⊢;omega);have dG:=cf (a:=(dD++((l.map ir).take i).flatten)++[100,101,118,105,99,101,32]++d1.name++[32]++zC.getD iq []) (b:=[10]) (by simp only[ap]at bg ⊢;omega);clear bg;have fi:=ym [117,97,114,116] [116,105,109,101,114] [103,112,105,111];have ib:=vZ S zC (n:=3) (cells:=[str [117,97,114,116],str [116,105,109,101,114],str [103,112,105,111]]) rfl rfl;obtain⟨b5,ae,s1,jA,hz,dq⟩:=b9 S [str [117,97,114,116],str [116,105,109,101,114],str [103,112,105,111]];rw[jA,s1]at ib;obtain⟨sz,q9,qy,rb,dP,a2,a3,_⟩:=ib.elem (getD_some (l:=zC) (i:=iq) nL []);have hT:=dq.get eE;have Q2:=dq.get aL;have g:=aN.h [x0,aH q 0,ej,x3,ek,str (dD++((l.map ir).take (i+1)).flatten),I ((i+1:Nat):Int),x7,x8,x9,x10] ae aV ⟨bC.trans dq,rfl⟩;have pd:dD++((l.map ir).take (i+1)).flatten=dD++((l.map ir).take i).flatten++[100,101,118,105,99,101,32]++d1.name++[32]++zC.getD iq []++[10]:=by rw[gv];simp only[wB]
  rw[pd]at g;replace g:=Hid.mk g;clear aN L hd fN gv gw aR bC ad pr mF pn nL ib dq pd c6 bq;simp only[aa,aw,av,ay, *];exact g.h
 ·have dm:¬(i:Int)<l.length:=by omega
  have ef:i=l.length:=by omega
  subst ef;have g:=L.h S bC;rw[Lt (by simp)];replace g:=Hid.mk g;clear aN L aR bC ad c6;simp only[aa,aw,av,ay, *];exact g.h
theorem aph{h:J}{q:Nat}{H:Int}{d r t:Value}{l:List Nm}(dY:h.get q=some (.aq [I H,d,r,t] true))(ad:kl h r l)(bX:l.length≤140737488355328)(c6:∀ d∈l,jY d=true){dD:aD}(aR:dD.length+(l.map iR).flatten.length≤ez){N:Nat}{vars:List Nat}{x0 ej x3 ek x6 x8 x9 x10:Value}(jv:dM→ar→J→Prop)
  (L:∀ D ,h.le D→jv (.exit 2) [x0,aH q 0,ej,x3,ek,str (dD++(l.map iR).flatten),x6,I (l.length:Int),x8,x9,x10] D) :
  ch Tryz.prog N vars O5 [x0,aH q 0,ej,x3,ek,str dD,x6,I 0,x8,x9,x10] h jv:=by
 replace L:=Hid.mk L;refine ch.upto l.length (fun i e S=>h.le S∧e=[x0,aH q 0,ej,x3,ek,str (dD++((l.map iR).take i).flatten),x6,I (i:Int),x8,x9,x10]) ?_ (lj _) ⟨.refl h,by simp⟩;rintro i _ S EJ au ⟨bC,rfl⟩ aN;have eE:=bC.get dY;have iQ:=(ad.mono bC).len;delta O5;by_cases aV:i<l.length
 ·have dm:(i:Int)<l.length:=by omega
  obtain⟨d1,hd⟩:∃ d,l[i]?=some d:=⟨_,hi aV⟩;have fN:=c6 d1 (List.mem_of_getElem? hd);simp only[jY,Bool.and_eq_true,decide_eq_true_eq]at fN;obtain⟨id,off,cells,own,az,aL,_,bq⟩:=cT.elem (ad.mono bC).1 (i:=i) (x:=[str d1.name,I d1.n]) (by simp[hd]);have f0:cells[off]?=some (str d1.name):=bq 0 (by omega);have f1:cells[off+1]?=some (I d1.n):=bq 1 (by omega);have ax:IntKind.i64.wrap ((i:Int)+1)=((i+1:Nat):Int):=by rw[cZ (by omega) (by omega)];rfl
  have gv:=AG (vI iR hd);have gw:=yN (l.map iR) (i+1);rw[gv,ap]at gw;obtain⟨iq,pn⟩:∃ k:Nat,d1.n=(k:Int):=⟨d1.n.toNat,by omega⟩;have pr:iR d1=[114,101,115,111,117,114,99,101,32]++d1.name++[32]++bs iq++[10]:=by rw[iR,pn];simp[dA,bR]
  rw[pr]at gv gw;have bg:((dD++((l.map iR).take i).flatten)++([114,101,115,111,117,114,99,101,32]++d1.name++[32]++bs iq++[10])).length≤ez:=by rw[ap,ap];omega
  simp only[ez]at bg;have ck:=cf (a:=(dD++((l.map iR).take i).flatten)) (b:=[114,101,115,111,117,114,99,101,32]) (by simp only[ap]at bg ⊢;omega);have cm:=cf (a:=(dD++((l.map iR).take i).flatten)++[114,101,115,111,117,114,99,101,32]) (b:=d1.name) (by simp only[ap]at bg ⊢;omega);have cb:=cf (a:=(dD++((l.map iR).take i).flatten)++[114,101,115,111,117,114,99,101,32]++d1.name) (b:=[32]) (by simp only[ap]at bg ⊢;omega);have eC:=cf (a:=(dD++((l.map iR).take i).flatten)++[114,101,115,111,117,114,99,101,32]++d1.name++[32]) (b:=bs iq) (by simp only[ap]at bg ⊢;omega);have dG:=cf (a:=(dD++((l.map iR).take i).flatten)++[114,101,115,111,117,114,99,101,32]++d1.name++[32]++bs iq) (b:=[10]) (by simp only[ap]at bg ⊢;omega);clear bg;have K9:iq≤9223372036854775807:=by omega
  rw[pn]at f1;have pd:dD++((l.map iR).take (i+1)).flatten=dD++((l.map iR).take i).flatten++[114,101,115,111,117,114,99,101,32]++d1.name++[32]++bs iq++[10]:=by rw[gv];simp only[wB]
  clear hd fN gv gw aR ad pr pn c6 bq;replace bC:=U bC;replace pd:=U pd;replace K9:=U K9;simp only[aa,aw,av,ay, *];refine wG iq K9.h S _ fun ae aE=>lg aE.ext ?_;have hT:=aE.get eE;have Q2:=aE.get aL;have g:=aN.h [x0,aH q 0,ej,x3,ek,str (dD++((l.map iR).take (i+1)).flatten),x6,I ((i+1:Nat):Int),x8,x9,x10] ae aV ⟨bC.h.trans aE,rfl⟩;rw[pd.h]at g;replace g:=Hid.mk g;clear aN L bC aE pd K9;simp only[aa,aw,av,ay, *];exact g.h
 ·have dm:¬(i:Int)<l.length:=by omega
  have ef:i=l.length:=by omega
  subst ef;have g:=L.h S bC;rw[Lt (by simp)];replace g:=Hid.mk g;clear aN L aR bC ad c6;simp only[aa,aw,av,ay, *];exact g.h
theorem aen{l:List aP}{d:Nat}(h:hx l d=true):∀ s∈l,jx s d:=by
 rw[we,nU]at h;exact fun s ak=>(Cl d s).1 (h s ak)
theorem api{h:J}{q:Nat}{H:Int}{d r t:Value}{l:List dO}(dY:h.get q=some (.aq [I H,d,r,t] true))(ad:mz h t l)(bX:l.length≤140737488355328)(c6:∀ d∈l,js d=true){dD:aD}(aR:dD.length+(l.map fh).flatten.length≤ez){N:Nat}{vars:List Nat}{x0 ej x3 ek x6 x7 x9 x10:Value}(jv:dM→ar→J→Prop)
  (L:∀ D rl rk,h.le D→jv (.exit 4) [x0,aH q 0,ej,x3,ek,str (dD++(l.map fh).flatten),x6,x7,I (l.length:Int),rl,rk] D) :
  ch Tryz.prog N vars O6 [x0,aH q 0,ej,x3,ek,str dD,x6,x7,I 0,x9,x10] h jv:=by
 replace L:=Hid.mk L;refine ch.upto l.length (fun i e S=>h.le S∧∃ rl rk,e=[x0,aH q 0,ej,x3,ek,str (dD++((l.map fh).take i).flatten),x6,x7,I (i:Int),rl,rk]) ?_ (lj _) ⟨.refl h,x9,x10,by simp⟩;rintro i _ S EJ au ⟨bC,rl,rk,rfl⟩ aN;have eE:=bC.get dY;have iQ:=(ad.mono bC).len;delta O6;by_cases aV:i<l.length
 case neg =>
  have dm:¬(i:Int)<l.length:=by omega
  have ef:i=l.length:=by omega
  subst ef;have g:=L.h S rl rk bC;rw[Lt (by simp)];replace g:=Hid.mk g;clear aN L aR bC ad c6;simp only[aa,aw,av,ay, *];exact g.h
 have dm:(i:Int)<l.length:=by omega
 obtain⟨s,hd⟩:∃ d,l[i]?=some d:=⟨_,hi aV⟩;have fN:=c6 s (List.mem_of_getElem? hd);obtain⟨id,off,cells,own,u,az,aL,bq,hu⟩:=mz.elem (ad.mono bC) hd;have gv:=AG (vI fh hd);obtain⟨nm,T,RN,UD,L0,body⟩:=s;have hu:hO S u body:=hu;have bq:gI true off 6 cells=some (tz nm T RN UD L0 u):=bq;simp only[js,Bool.and_eq_true,decide_eq_true_eq]at fN;have sx:=fN.2;replace fN:=fN.1;have asB:L0≤7:=by have:=fN.2.2;split at this<;>omega
 obtain⟨cB,rfl⟩:∃ k:Nat,RN=(k:Int):=⟨RN.toNat,by omega⟩;obtain⟨prio,rfl⟩:∃ k:Nat,UD=(k:Int):=⟨UD.toNat,by omega⟩;obtain⟨line,rfl⟩:∃ k:Nat,L0=(k:Int):=⟨L0.toNat,by omega⟩;replace fN:cB≤3∧prio≤7∧line≤7:=by omega
 have ax:IntKind.i64.wrap ((i:Int)+1)=((i+1:Nat):Int):=by rw[cZ (by omega) (by omega)];rfl
 have gw:=yN (l.map fh) (i+1);rw[gv,ap]at gw;have cG:=hu.one;have bu:=adF S nm T cB prio line cG;obtain⟨bO,ae,lK,jA,dV,dq⟩:=b9 S [str nm,.bool T,I cB,I prio,I line,u];rw[jA,lK]at bu;have qW:=hu.mono dq;have hT:=dq.get eE;have gH:=bC.trans dq;have bg:([32]++nm++[32]++bs cB++[32]++bs prio).length≤ez:=by
  have:([32]++nm++[32]++bs cB++[32]++bs prio).length≤(fh ⟨nm,T,cB,prio,line,body⟩).length:=by
   cases T<;>simp[fh,qN,dA,bR]<;>omega
  simp only[ez]at aR ⊢;omega
 simp only[ez]at bg;have ck:=cf (a:=[32]) (b:=nm) (by simp only[ap]at bg ⊢;omega);have cm:=cf (a:=[32]++nm) (b:=[32]) (by simp only[ap]at bg ⊢;omega);have cb:=cf (a:=[32]++nm++[32]) (b:=bs cB) (by simp only[ap]at bg ⊢;omega);have eC:=cf (a:=[32]++nm++[32]++bs cB) (b:=[32]) (by simp only[ap]at bg ⊢;omega);have dG:=cf (a:=[32]++nm++[32]++bs cB++[32]) (b:=bs prio) (by simp only[ap]at bg ⊢;omega);clear bg hd hu dq bC ad c6;replace gv:=U gv;replace gw:=U gw;replace aR:=U aR;replace qW:=U qW;replace gH:=U gH;replace fN:=U fN;replace sx:=U sx;simp only[aa,aw,bh,av,ay, *];refine wG cB (by have:=fN.h;omega) ae _ fun aB aO=>lg aO.ext ?_;have hf:=aO.get dV;replace aO:=U aO;simp only[aa,aw, *];refine wG prio (by have:=fN.h;omega) aB _ fun aG bc=>lg bc.ext ?_;have h4:=bc.get hf;have G6:=qW.h.mono (aO.h.trans bc);have jn:=gH.h.trans (aO.h.trans bc);clear hf dV hT eE aL qW gH aO bc;replace gv:=gv.h;replace gw:=gw.h;replace aR:=aR.h;replace G6:=U G6;replace jn:=U jn;cases T with
 |true =>
   have pr:fh ⟨nm,true,cB,prio,line,body⟩=[104,97,110,100,108,101,114]++([32]++nm++[32]++bs cB++[32]++bs prio)++[32]++bs line++[32,123,10]++cJ 1 body++[125,10]:=by simp[fh,qN,dA,bR]
   rw[pr]at gv gw;have bg:((dD++((l.map fh).take i).flatten)++([104,97,110,100,108,101,114]++([32]++nm++[32]++bs cB++[32]++bs prio)++[32]++bs line++[32,123,10]++cJ 1 body++[125,10])).length≤ez:=by rw[ap,ap];omega
   simp only[ez]at bg;have p7:=cf (a:=[104,97,110,100,108,101,114]) (b:=([32]++nm++[32]++bs cB++[32]++bs prio)) (by simp only[ap]at bg ⊢;omega);have tk:=cf (a:=[104,97,110,100,108,101,114]++([32]++nm++[32]++bs cB++[32]++bs prio)) (b:=[32]) (by simp only[ap]at bg ⊢;omega);have at0:=cf (a:=[104,97,110,100,108,101,114]++([32]++nm++[32]++bs cB++[32]++bs prio)++[32]) (b:=bs line) (by simp only[ap]at bg ⊢;omega);have akx:=cf (a:=(dD++((l.map fh).take i).flatten)) (b:=([104,97,110,100,108,101,114]++([32]++nm++[32]++bs cB++[32]++bs prio)++[32]++bs line)) (by simp only[ap]at bg ⊢;omega);have aky:=cf (a:=(dD++((l.map fh).take i).flatten)++([104,97,110,100,108,101,114]++([32]++nm++[32]++bs cB++[32]++bs prio)++[32]++bs line)) (b:=[32,123,10]) (by simp only[ap]at bg ⊢;omega);have akz:=cf (a:=(dD++((l.map fh).take i).flatten)++([104,97,110,100,108,101,114]++([32]++nm++[32]++bs cB++[32]++bs prio)++[32]++bs line)++[32,123,10]) (b:=cJ 1 body) (by simp only[ap]at bg ⊢;omega);have akA:=cf (a:=(dD++((l.map fh).take i).flatten)++([104,97,110,100,108,101,114]++([32]++nm++[32]++bs cB++[32]++bs prio)++[32]++bs line)++[32,123,10]++cJ 1 body) (b:=[125,10]) (by simp only[ap]at bg ⊢;omega);have dx:(cJ 1 body).length≤ez:=by simp only[ez];simp only[ap]at bg;omega
   have pd:dD++((l.map fh).take (i+1)).flatten=dD++((l.map fh).take i).flatten++([104,97,110,100,108,101,114]++([32]++nm++[32]++bs cB++[32]++bs prio)++[32]++bs line)++[32,123,10]++cJ 1 body++[125,10]:=by rw[gv];simp only[wB]
   clear bg gv gw pr;replace pd:=U pd;replace dx:=U dx;simp only[aa,aw,av, *];refine wG line (by have:=fN.h;omega) aG _ fun a1 aY=>?_;have nj:=aY.get h4;have SZ:=G6.h.mono aY;have nP:=jn.h.trans aY;clear G6 jn h4;replace SZ:=U SZ;replace nP:=U nP;simp only[aa,aw,av, *];refine(acB 30).2 body (aen sx.h) 1 (by omega) u a1 _ SZ.h dx.h fun bN bE=>?_;have g:=aN.h [x0,aH q 0,ej,x3,ek,str (dD++((l.map fh).take (i+1)).flatten),x6,x7,I ((i+1:Nat):Int),aH bO 0,str ([104,97,110,100,108,101,114]++([32]++nm++[32]++bs cB++[32]++bs prio)++[32]++bs line)] bN aV ⟨nP.h.trans bE,_,_,rfl⟩;rw[pd.h]at g;replace g:=Hid.mk g;clear aN L pd dx fN sx nP bE;simp only[aa,av,ay, *];exact g.h
 |false =>
   have pr:fh ⟨nm,false,cB,prio,line,body⟩=[116,97,115,107]++([32]++nm++[32]++bs cB++[32]++bs prio)++[32,123,10]++cJ 1 body++[125,10]:=by simp[fh,qN,dA,bR]
   rw[pr]at gv gw;have bg:((dD++((l.map fh).take i).flatten)++([116,97,115,107]++([32]++nm++[32]++bs cB++[32]++bs prio)++[32,123,10]++cJ 1 body++[125,10])).length≤ez:=by rw[ap,ap];omega
   simp only[ez]at bg;have p7:=cf (a:=[116,97,115,107]) (b:=([32]++nm++[32]++bs cB++[32]++bs prio)) (by simp only[ap]at bg ⊢;omega);have akx:=cf (a:=(dD++((l.map fh).take i).flatten)) (b:=([116,97,115,107]++([32]++nm++[32]++bs cB++[32]++bs prio))) (by simp only[ap]at bg ⊢;omega);have aky:=cf (a:=(dD++((l.map fh).take i).flatten)++([116,97,115,107]++([32]++nm++[32]++bs cB++[32]++bs prio))) (b:=[32,123,10]) (by simp only[ap]at bg ⊢;omega);have akz:=cf (a:=(dD++((l.map fh).take i).flatten)++([116,97,115,107]++([32]++nm++[32]++bs cB++[32]++bs prio))++[32,123,10]) (b:=cJ 1 body) (by simp only[ap]at bg ⊢;omega);have akA:=cf (a:=(dD++((l.map fh).take i).flatten)++([116,97,115,107]++([32]++nm++[32]++bs cB++[32]++bs prio))++[32,123,10]++cJ 1 body) (b:=[125,10]) (by simp only[ap]at bg ⊢;omega);have dx:(cJ 1 body).length≤ez:=by simp only[ez];simp only[ap]at bg;omega
   have pd:dD++((l.map fh).take (i+1)).flatten=dD++((l.map fh).take i).flatten++([116,97,115,107]++([32]++nm++[32]++bs cB++[32]++bs prio))++[32,123,10]++cJ 1 body++[125,10]:=by rw[gv];simp only[wB]
   clear bg gv gw pr;replace pd:=U pd;replace dx:=U dx;simp only[aa,aw,av, *];refine(acB 30).2 body (aen sx.h) 1 (by omega) u aG _ G6.h dx.h fun bN bE=>?_;have nP:=jn;have g:=aN.h [x0,aH q 0,ej,x3,ek,str (dD++((l.map fh).take (i+1)).flatten),x6,x7,I ((i+1:Nat):Int),aH bO 0,str ([116,97,115,107]++([32]++nm++[32]++bs cB++[32]++bs prio))] bN aV ⟨nP.h.trans bE,_,_,rfl⟩;rw[pd.h]at g;replace g:=Hid.mk g;clear aN L pd dx fN sx nP bE;simp only[aa,av,ay, *];exact g.h
theorem apj{h:J}{p:gS}{x:ar}(af:pM h p x)(aR:mT p=true→(lZ p).length≤ez)(Q:aT)
  (L:∀ D,h.le D→Q (.tuple #[str (if mT p then lZ p else[]),I (if mT p then 0 else 1)]) D):bj Tryz.prog 18 [.agg x.toArray] h Q:=by
 have ht:=af;obtain⟨d,r,t,rfl,hd,hr,aC⟩:=af;have dJ:=yj (n:=p.bS) hd.one hr.one aC.one;obtain⟨q,A,eq,gO,dY,bt⟩:=b9 h [I p.bS,d,r,t];have eK:=ht.mono bt;clear ht hd hr aC;replace eK:=U eK;replace bt:=U bt;replace aR:=U aR;refine qw (k:=2) (j:=3) amA rfl rfl rfl fun N=>?_;rw[gE O3 Ij rfl];delta O3;replace L:=U L;simp only[aa,aw,rS, *];refine apl eK.h _ fun S l2=>?_;have eE:=l2.get dY;have gZ:=eK.h.mono l2;have hk:=bt.h.trans l2;clear eK l2 bt dY;cases ul:mT p with
 |false =>
  have g:=L.h S hk;rw[ul]at g;simp only[xZ,if_false]at g;replace g:=Hid.mk g;clear L gZ hk aR;simp only[aa, *];exact g.h
 |true =>
  rw[ul]at L;simp only[if_true]at L;have aR:=aR.h ul;obtain⟨cp,fN,GK,GL⟩:=UQ ul;obtain⟨bW,dL,mV,ex,hd,hr,aC⟩:=gZ;simp only[List.cons.injEq,and_true,true_and]at ex;obtain⟨rfl,rfl,rfl⟩:=ex;obtain⟨bS,c2,cv,db⟩:=p;simp only at cp fN GK GL hd hr aC eE ⊢;obtain⟨iq,pn⟩:∃ k:Nat,bS=(k:Int):=⟨bS.toNat,by omega⟩;subst pn;have pt:lZ ⟨(iq:Int),c2,cv,db⟩=[104,97,114,116,115,32]++bs iq++[10]++(c2.map ir).flatten++(cv.map iR).flatten++(db.map fh).flatten:=by simp[lZ,dA,bR]
  rw[pt]at aR L;have bg:=aR;simp only[ez]at bg;have ck:=cf (a:=[104,97,114,116,115,32]) (b:=bs iq) (by simp only[ap]at bg ⊢;omega);have cm:=cf (a:=[104,97,114,116,115,32]++bs iq) (b:=[10]) (by simp only[ap]at bg ⊢;omega);have bF:([104,97,114,116,115,32]++bs iq++[10]).length+(c2.map ir).flatten.length≤ez:=by simp only[ap,ez]at bg ⊢;omega
  have bC:([104,97,114,116,115,32]++bs iq++[10]++(c2.map ir).flatten).length+(cv.map iR).flatten.length≤ez:=by simp only[ap,ez]at bg ⊢;omega
  have gP:([104,97,114,116,115,32]++bs iq++[10]++(c2.map ir).flatten++(cv.map iR).flatten).length+(db.map fh).flatten.length≤ez:=by simp only[ap,ez]at bg ⊢;omega
  have vB:db.length≤140737488355328:=by obtain⟨xs,a,c,b⟩:=aC;rw[← b.length];exact c
  clear bg aR pt;replace hd:=U hd;replace hr:=U hr;replace aC:=U aC;replace fN:=U fN;replace GK:=U GK;replace GL:=U GL;replace bF:=U bF;replace bC:=U bC;replace gP:=U gP;replace hk:=U hk;replace cp:=U cp;replace vB:=U vB;simp only[aa,aw, *];refine wG iq (by have:=cp.h;omega) S _ fun ae aE=>?_;have hT:=aE.get eE;have lm:=hd.h.mono aE;replace lm:=U lm;replace aE:=U aE;simp only[aa,av, *];refine apg hT lm.h lm.h.2 fN.h bF.h _ fun aB aO=>?_;have qH:=aO.get hT;have Hp:=aE.h.trans aO;have p5:=hr.h.mono Hp;clear aE aO lm hT;replace p5:=U p5;replace Hp:=U Hp;simp only[aa, *];refine aph qH p5.h p5.h.2 GK.h bC.h _ fun aG bc=>?_;have wU:=bc.get qH;have BI:=Hp.h.trans bc;have w8:=aC.h.mono BI;clear Hp bc p5 qH;replace w8:=U w8;replace BI:=U BI;simp only[aa, *];refine api wU w8.h vB.h GL.h gP.h _ fun a1 rl rk aY=>?_;have g:=Hid.mk (L.h a1 (hk.h.trans (BI.h.trans aY)));clear L w8 BI aY hk bF bC gP fN GK GL hd hr aC;simp only[aa, *];exact g.h
end Go.Eng.Sy
