/-
  Part of a proof of the laws of layer 07 (reader): the laws.
  Conditions: none.
-/
import Derived.Test.YtjbjpooafphpnaaGreatDoorVa
set_option linter.unusedSimpArgs false
set_option linter.unusedVariables false
namespace Go.Eng.Sy
open Go Go.Eng Go.Proofs
variable {R:aT}
def Az:List (aD):=[[117,97,114,116],[116,105,109,101,114],[103,112,105,111]]
def E9(n:aD)(r:List Tok):PR Nm :=
 if dk [117,97,114,116] (hd r) then .ok ⟨n,1⟩ r.tail else if dk [116,105,109,101,114] (hd r) then .ok ⟨n,2⟩ r.tail else if dk [103,112,105,111] (hd r) then .ok ⟨n,3⟩ r.tail else .bad tM (hd r).line
theorem ah6{n:aD}{r:List Tok}{i:Nat}(au:i<3)(h0:∀ j,j<i→dk (Az.getD j []) (hd r)=false)(A:dk (Az.getD i []) (hd r)=true):E9 n r=.ok ⟨n,(1+i:Int)⟩ r.tail:=by
 unfold E9;have:i=0∨i=1∨i=2:=by omega
 rcases this with rfl|rfl|rfl
 ·rw[if_pos (show dk [117,97,114,116] (hd r)=true from A)];rfl
 ·have a:=h0 0 (by omega);rw[if_neg (by rw[show dk [117,97,114,116] (hd r)=false from a];simp),if_pos (show dk [116,105,109,101,114] (hd r)=true from A)];rfl
 ·have a:=h0 0 (by omega);have b:=h0 1 (by omega);rw[if_neg (by rw[show dk [117,97,114,116] (hd r)=false from a];simp),if_neg (by rw[show dk [116,105,109,101,114] (hd r)=false from b];simp),if_pos (show dk [103,112,105,111] (hd r)=true from A)];rfl
theorem ah7{n:aD}{r:List Tok}(h0:∀ j,j<3→dk (Az.getD j []) (hd r)=false):E9 n r=.bad tM (hd r).line:=by
 unfold E9;have a:=h0 0 (by omega);have b:=h0 1 (by omega);have c:=h0 2 (by omega);rw[if_neg (by rw[show dk [117,97,114,116] (hd r)=false from a];simp),if_neg (by rw[show dk [116,105,109,101,114] (hd r)=false from b];simp),if_neg (by rw[show dk [103,112,105,111] (hd r)=false from c];simp)]
theorem ac4(a b:Value):gI true 0 2 [a,b]=some (.agg #[a,b]):=rfl
abbrev M1:ar:=[aI,I 0]
theorem WC(m:aD):gQ M1 [(0,1)] [str m]=some (ks m 0):=rfl
theorem adD(h:J)(m:aD)(k:Int):cz 2 (h.alloc (.aq M1 true)) [aH h.next 0,ks m k]=some (b0,h.alloc (.aq [str m,I k] true)):=kk rfl rfl rfl rfl
theorem ahc{l:List Tok}{h:J}{q:Nat}(hr:eo h q l){post:Prop}(fB:post)(Q:aT)(ah:Out R q h (BU l) (fun _ d v=>v=ks d.name d.n) Q) :
  iM (PR:=iS R) Tryz.prog 78 [aH q 0] h post Q:=by
 have ah:Out R q h ((im 1 l).bind fun n r=>E9 n.text r) (fun _ d v=>v=ks d.name d.n) Q:=ah;have bT:=eQ.new hr.lt (J.b2.refl q h) hr M1;obtain⟨bA,A,qF,gO,fA,bt⟩:=b9 h M1;rw[gO,qF]at bT;have dw:=bT.ne;have Bh:=J.bY fA;clear hr bt fA;replace bT:=U bT;replace ah:=U ah;replace Bh:=U Bh;have L:=ah;refine wC (k:=1) (agg:=true) (size:=2) anv (by rfl) rfl fB rfl rfl fun N=>?_;rw[gE Qe MW rfl];delta Qe;replace L:=U L;clear L;simp only[aa,dX, *];refine Eg bT.h.rd (by simp[e0,K.cD,K.dF];repeat (first|exact rfl|exact⟨_,rfl⟩|refine⟨_,rfl,?_⟩|refine⟨rfl,?_⟩)) _ (ah.h.sub bT.h.le fun t cE _ ew w ae aE kS ev=>?_);subst ev;have t1:=bT.h.go aE kS;have asK:bA<ae.next:=by have:=Bh.h;have:=aE.next;omega
 have I3:=WC t.text;have bu:=adD ae t.text 0;have b4:=eQ.new t1.lt t1.le t1.rd [str t.text,I 0];obtain⟨bO,aB,lK,nI,dV,eO⟩:=b9 ae [str t.text,I 0];rw[nI,lK]at b4;rw[nI,lK]at bu;have t1:=t1.up eO;have cN:=b4.ne;have hj:bA<bO:=by omega
 have ajF:(bO==bA)=false:=by simp;omega
 have zb:=J.bY dV;have fi:=ym [117,97,114,116] [116,105,109,101,114] [103,112,105,111];have ib:=B9 (B:=fun id=>id≠q∧bO<id) aB Az (by have:=b4.lt;have:=t1.ge;constructor<;>omega) (n:=3) (cells:=[str [117,97,114,116],str [116,105,109,101,114],str [103,112,105,111]]) rfl rfl;clear ah bT aE kS eO dV;obtain⟨ft,aG,tN,qD,h4,iG⟩:=b9 aB [str [117,97,114,116],str [116,105,109,101,114],str [103,112,105,111]];rw[qD,tN]at ib;have t1:=t1.up iG;have t2:=b4.up iG;have rV:=t2.rd;clear b4 iG h4;replace t1:=U t1;replace t2:=U t2;replace ib:=U ib;replace ew:=U ew;replace hj:=U hj;replace zb:=U zb;replace rV:=U rV;simp only[aa,bh, *];refine ch.ar6 (by rfl) 3 (fun i j4 cp=>aG.b2 q cp∧eo cp q cE∧(∀ j,j<i→dk (Az.getD j []) (hd cE)=false)∧∃ x3 ek x8,j4=[aH q 0,aH bA 0,aH bO 0,x3,ek,.slice (some ⟨ft,0,none⟩) 3 1,I 3,I (i:Int),x8]) ?_ (lj _) ⟨.refl _ _,rV.h,fun _ h=>absurd h (by omega),_,_,_,rfl⟩;rintro i j4 a1 ce au ⟨aY,oV,b8,x3,ek,x8,rfl⟩ aN;delta Xx;have t1:=t1.h.go aY oV;have t2:=t2.h.go aY oV;by_cases aV:i<3
 ·have bk:(i:Int)<3:=by omega
  have er:IntKind.i64.wrap ((i:Int)+1)=((i+1:Nat):Int):=by rw[cZ (by omega) (by omega)];rfl
  have dd:IntKind.i64.wrap (1+(i:Int))=(1+i:Int):=by rw[cZ (by omega) (by omega)]
  obtain⟨id,off,cells,own,az,aL,bq,cV⟩:=iw.elem ib.h (getD_some (l:=Az) (i:=i) aV []);obtain⟨k,ab⟩:∃ k,Az.getD i []=k:=⟨_,rfl⟩;have g6:=aY.bP cV.1 aL;rw[ab]at bq;clear aL;replace t1:=U t1;replace t2:=U t2;replace b8:=U b8;replace oV:=U oV;replace aY:=U aY;replace ab:=U ab;replace aV:=U aV;replace cV:=U cV;simp only[aa,aw,av,ay,dX, *];refine bj.x (qf oV.h k _ fun b bN T bE l0=>?_);have t1:=t1.h.go bE l0;have t2:=t2.h.go bE l0;cases b with
  |true =>
   have eq:=ah6 (n:=t.text) aV.h b8.h (by rw[ab.h];exact T);have ah:=ew.h;rw[eq]at ah;have b6:(if true=true then cE.tail else cE)=cE.tail:=rfl;rw[b6]at l0 t1 t2;obtain⟨bu,u2⟩:=t2.bu 1 (v:=I (1+i)) rfl rfl (by simp);have nY:=t1.other t2.ge (by have:=hj.h;omega) (.aq [str t.text,I (1+i)] true);obtain⟨b7,e8⟩:∃ y,bN.set bO (.aq [str t.text,I (1+i)] true)=y:=⟨_,rfl⟩;replace bu:cz 1 bN [aH bO 1,I (1+i)]=some (b0,b7):=by rw[← e8];exact bu
   replace u2:eQ h q bO [str t.text,I (1+i)] b7 cE.tail:=by rw[← e8];exact u2
   rw[e8]at nY;have g2:=u2.g;obtain⟨uL,iT⟩:=nY.all (v:=ks t.text (1+i)) rfl rfl rfl rfl;have g3:=iT.g;have uL:cz 2 b7 [aH bA 0,.agg #[str t.text,I (1+i)]]=some (b0,b7.set bA (.aq [str t.text,I (1+i)] true)):=uL;have dp:=ah.fin iT.le iT.rd rfl;replace g3:(b7.set bA (.aq [str t.text,I (1+i)] true)).get bA=some (.aq [str t.text,I (1+i)] true):=g3;replace dp:Q (ks t.text (1+i)) (b7.set bA (.aq [str t.text,I (1+i)] true)):=dp;replace dp:=Hid.mk dp;clear ah ew t1 t2 nY u2 iT bE l0 T aN b8 oV aY e8 eq cV ab;simp only[aa,aw,bh,av,ay,ac4, *];exact dp.h
  |false =>
   have b6:(if false=true then cE.tail else cE)=cE:=rfl;rw[b6]at l0 t1 t2;have g:=aN.h [aH q 0,aH bA 0,aH bO 0,I (i:Int),str k,.slice (some ⟨ft,0,none⟩) 3 1,I 3,I ((i+1:Nat):Int),.bool true] bN aV.h ⟨aY.h.trans bE,l0,fun j bn=>by
    by_cases e:j=i
    ·subst e;rw[ab.h];exact T
    ·exact b8.h j (by omega),_,_,_,rfl⟩
   replace g:=Hid.mk g;clear aN ew t1 t2 bE l0 T b8 oV aY cV ab;simp only[aa,av,ay, *];exact g.h
 ·have bk:¬(i:Int)<3:=by omega
  have ajc:i=3:=by omega
  have eq:=ah7 (n:=t.text) (r:=cE) fun j bn=>b8 j (by omega);have ah:=ew.h;rw[eq]at ah;replace t1:=U t1;replace t2:=U t2;replace b8:=U b8;replace oV:=U oV;replace aY:=U aY;replace ah:=U ah;replace eq:=U eq;clear ajc;simp only[aa,av,ay,dX, *];exact Re oV.h (by simp[e0,K.cD,K.dF];repeat (first|exact rfl|exact⟨_,rfl⟩|refine⟨_,rfl,?_⟩|refine⟨rfl,?_⟩)) _ fun D df=>ah.h.bad _ _ rfl D (t1.h.le.trans df)
end Go.Eng.Sy
namespace Go.Eng.Sy
open Go Go.Eng Go.Proofs
variable {R:aT}
abbrev Ez:ar:=[aI,.bool false,I 0,I 0,I 0,bx]
def Nr(n:Nat)(h:J)(t:dO)(v:Value):Prop:=∃ x,v=.agg x.toArray∧tF (fun id=>n≤id) h t x
theorem afM(m:aD)(b:Bool):gQ Ez [(0,1),(1,1)] [str m,.bool b]=some (tz m b 0 0 0 aJ):=rfl
theorem aqm(h:J)(m:aD)(b:Bool):cz 6 (h.alloc (.aq Ez true)) [aH h.next 0,tz m b 0 0 0 aJ]=some (b0,h.alloc (.aq [str m,.bool b,I 0,I 0,I 0,aJ] true)):=kk rfl rfl rfl rfl
noncomputable def Vt:bo:=(.seq (.aW Qo []) (.seq (.aW Qp []) .ret))
theorem adY{f:Nat}{h0 bH:J}{q bO b5:Nat}{m:aD}{b:Bool}{a p i:Int}{r:List Tok}{Q:aT}{N:Nat}{vars:List Nat}{b':Value}
  (b4:eQ h0 q bO Ez bH r) (eg:eQ h0 q b5 [str m,.bool b,I a,I p,I i,aJ] bH r) (pW:bO<b5) (hn:b5<bH.next)
  (ah:Out R q h0 ((jL f 1 r).bind fun iy r=>.ok ⟨m,b,a,p,i,iy⟩ r) (Nr h0.next) Q) :
  W (PR:=iS R) Tryz.prog N vars Vt (B3 2 true 6 Q) [aH q 0,b',aH bO 0,aH b5 0] bH:=by
 delta Vt Qo Qp;have cN:=b4.ne;have oJ:=eg.ne;have ZD:(b5==bO)=false:=by simp;omega
 replace b4:=U b4;replace eg:=U eg;replace pW:=U pW;replace hn:=U hn;replace ah:=U ah;simp only[aa,dX, *];refine afY f _ 1 _ _ _ b4.h.rd (by simp[e0,K.cD,K.dF];repeat (first|exact rfl|exact⟨_,rfl⟩|refine⟨_,rfl,?_⟩|refine⟨rfl,?_⟩)) _ (ah.h.sub b4.h.le fun v6 cn _ jS w A l1 zZ ax=>?_);have zm:w.oneCell'=true∧w.cells.toList=[w]:=yf.one ax;have t2:=b4.h.go l1 zZ;have t3:=eg.h.go l1 zZ;have oe:=t2.ge;have cp:=pW.h;have vn:=hn.h;obtain⟨bu,fi⟩:=t3.bu 5 zm.2 zm.1 (by simp);have u2:=t2.other t3.ge (by omega) (.aq [str m,.bool b,I a,I p,I i,w] true);have iE:dN (fun id=>h0.next≤id∧id≠bO) (A.set b5 (.aq [str m,.bool b,I a,I p,I i,w] true)) w v6:=dN.to (J.lf _ fun id T=>by have T:bH.next≤id:=T;refine⟨?_,?_,?_⟩<;>omega) ax;obtain⟨S,aL⟩:∃ y,A.set b5 (.aq [str m,.bool b,I a,I p,I i,w] true)=y:=⟨_,rfl⟩;replace bu:cz 1 A [aH b5 5,w]=some (b0,S):=by rw[← aL];exact bu
 replace fi:eQ h0 q b5 [str m,.bool b,I a,I p,I i,w] S cn:=by rw[← aL];exact fi
 rw[aL]at u2 iE;have g3:=fi.g;have cG:=zm.1;obtain⟨uL,v2⟩:=u2.all (v:=tz m b a p i w) (cs:=[str m,.bool b,I a,I p,I i,w]) rfl rfl rfl (by simp[cG];simp[Value.oneCell']);have g2:=v2.g;replace uL:cz 6 S [aH bO 0,.agg #[str m,.bool b,I a,I p,I i,w]]=some (b0,S.set bO (.aq [str m,.bool b,I a,I p,I i,w] true)):=uL;have dp:=jS.fin v2.le v2.rd ⟨_,rfl,w,rfl,iE.to (J.lf (B':=fun id=>h0.next≤id) (.aq [str m,.bool b,I a,I p,I i,w] true) fun id T=>⟨T.2,T.1⟩)⟩;replace dp:Q (.agg #[str m,.bool b,I a,I p,I i,w]) (S.set bO (.aq [str m,.bool b,I a,I p,I i,w] true)):=dp;replace dp:=Hid.mk dp;clear ah jS b4 eg t2 t3 u2 fi v2 l1 zZ ax zm iE aL oe cp vn;simp only[aa,aw,bh,Mo, *];exact dp.h
theorem aqF{f:Nat}{b:Bool}{l:List Tok}{h:J}{q:Nat}(hr:eo h q l){post:Prop}(fB:post)(Q:aT)(ah:Out R q h (vR f b l) (Nr h.next) Q) :
  iM (PR:=iS R) Tryz.prog 81 [aH q 0,.bool b] h post Q:=by
 unfold vR at ah;have b4:=eQ.new hr.lt (J.b2.refl q h) hr Ez;obtain⟨bO,A,lK,gO,dV,bt⟩:=b9 h Ez;rw[gO,lK]at b4;have cN:=b4.ne;have ui:=J.bY dV;clear hr bt dV;replace b4:=U b4;replace ah:=U ah;replace ui:=U ui;have L:=ah;refine wC (k:=2) (agg:=true) (size:=6) anz (by rfl) rfl fB rfl rfl fun N=>?_;show W (PR:=iS R) Tryz.prog N _ ((.seq (.aW Qi [(2,0)]) (.seq (.aW Qj [(3,1)]) (.seq (.aW Qk []) (.seq (.aW Ql []) (.seq (.hK Qm [] 0 (.aW Qn []) .skip) Vt)))))) _ [aH q 0,.bool b,b0,b0] _;delta Qi Qj Qk Ql Qm Qn;replace L:=U L;clear L;simp only[aa,dX, *];refine Eg b4.h.rd (by simp[e0,K.cD,K.dF];repeat (first|exact rfl|exact⟨_,rfl⟩|refine⟨_,rfl,?_⟩|refine⟨rfl,?_⟩)) _ (ah.h.sub b4.h.le fun t cE _ jS w ae aE kS ev=>?_);subst ev;have t2:=b4.h.go aE kS;have sp:bO<ae.next:=by have:=ui.h;have:=aE.next;omega
 have I3:=afM t.text b;have bu:=aqm ae t.text b;have eg:=eQ.new t2.lt t2.le t2.rd [str t.text,.bool b,I 0,I 0,I 0,aJ];obtain⟨b5,aB,s1,nI,hz,eO⟩:=b9 ae [str t.text,.bool b,I 0,I 0,I 0,aJ];rw[nI,s1]at eg;rw[nI,s1]at bu;have t2:=t2.up eO;have oJ:=eg.ne;have pW:bO<b5:=by omega
 have ZD:(b5==bO)=false:=by simp;omega
 have td:=J.bY hz;clear ah b4 aE kS eO hz;replace t2:=U t2;replace eg:=U eg;replace jS:=U jS;replace pW:=U pW;replace td:=U td;simp only[aa,bh,dX, *];refine zY t2.h.rd (by simp[e0,K.cD,K.dF];repeat (first|exact rfl|exact⟨_,rfl⟩|refine⟨_,rfl,?_⟩|refine⟨rfl,?_⟩)) _ (jS.h.sub t2.h.le fun i1 gn _ ew w aG bc rV ev=>?_);subst ev;have t2:=t2.h.go bc rV;have t3:=eg.h.go bc rV;have jI:b5<aG.next:=by have:=td.h;have:=bc.next;omega
 obtain⟨vY,fi⟩:=t3.bu 2 (v:=I i1.n) rfl rfl (by simp);have u2:=t2.other t3.ge (by have:=pW.h;omega) (.aq [str t.text,.bool b,I i1.n,I 0,I 0,aJ] true);have h7:(aG.set b5 (.aq [str t.text,.bool b,I i1.n,I 0,I 0,aJ] true)).next=aG.next:=rfl;obtain⟨a1,hH⟩:∃ y,aG.set b5 (.aq [str t.text,.bool b,I i1.n,I 0,I 0,aJ] true)=y:=⟨_,rfl⟩;replace vY:cz 1 aG [aH b5 2,I i1.n]=some (b0,a1):=by rw[← hH];exact vY
 replace fi:eQ h q b5 [str t.text,.bool b,I i1.n,I 0,I 0,aJ] a1 gn:=by rw[← hH];exact fi
 rw[hH]at u2 h7;have h7:b5<a1.next:=by omega
 clear jS eg t2 t3 bc rV hH jI td bu;replace u2:=U u2;replace fi:=U fi;replace ew:=U ew;replace h7:=U h7;simp only[aa,bh,dX, *];refine zY u2.h.rd (by simp[e0,K.cD,K.dF];repeat (first|exact rfl|exact⟨_,rfl⟩|refine⟨_,rfl,?_⟩|refine⟨rfl,?_⟩)) _ (ew.h.sub u2.h.le fun i2 l0 _ fb w bN bE lD ev=>?_);subst ev;have t2:=u2.h.go bE lD;have t3:=fi.h.go bE lD;have vo:b5<bN.next:=by have:=h7.h;have:=bE.next;omega
 obtain⟨tw,v3⟩:=t3.bu 3 (v:=I i2.n) rfl rfl (by simp);have v2:=t2.other t3.ge (by have:=pW.h;omega) (.aq [str t.text,.bool b,I i1.n,I i2.n,I 0,aJ] true);have qR:(bN.set b5 (.aq [str t.text,.bool b,I i1.n,I i2.n,I 0,aJ] true)).next=bN.next:=rfl;obtain⟨b7,e8⟩:∃ y,bN.set b5 (.aq [str t.text,.bool b,I i1.n,I i2.n,I 0,aJ] true)=y:=⟨_,rfl⟩;replace tw:cz 1 bN [aH b5 3,I i2.n]=some (b0,b7):=by rw[← e8];exact tw
 replace v3:eQ h q b5 [str t.text,.bool b,I i1.n,I i2.n,I 0,aJ] b7 l0:=by rw[← e8];exact v3
 rw[e8]at v2 qR;have qR:b5<b7.next:=by omega
 replace fb:Out R q h (if b=true then(im 3 l0).bind fun i r=>(jL f 1 r).bind fun iy r=>.ok ⟨t.text,true,i1.n,i2.n,i.n,iy⟩ r else(jL f 1 l0).bind fun iy r=>.ok ⟨t.text,false,i1.n,i2.n,0,iy⟩ r) (Nr h.next) Q:=fb;clear ew u2 fi t2 t3 bE lD e8 vo h7 vY;cases b with
 |false =>
  rw[if_neg (by simp)]at fb;have fin:=adY (R:=R) (N:=N) (vars:=Qh.vars) (b':=.bool false) v2 v3 pW.h qR fb;replace fin:=Hid.mk fin;clear fb v2 v3 qR;simp only[aa,bh, *];exact fin.h
 |true =>
  rw[if_pos rfl]at fb;replace v2:=U v2;replace v3:=U v3;replace fb:=U fb;replace qR:=U qR;simp only[aa,bh,dX, *];refine zY v2.h.rd (by simp[e0,K.cD,K.dF];repeat (first|exact rfl|exact⟨_,rfl⟩|refine⟨_,rfl,?_⟩|refine⟨rfl,?_⟩)) _ (fb.h.sub v2.h.le fun i3 Ef _ kM w dE jo UJ ev=>?_);subst ev;have t2:=v2.h.go jo UJ;have t3:=v3.h.go jo UJ;have vp:b5<dE.next:=by have:=qR.h;have:=jo.next;omega
  obtain⟨adB,x3⟩:=t3.bu 4 (v:=I i3.n) rfl rfl (by simp);have ej:=t2.other t3.ge (by have:=pW.h;omega) (.aq [str t.text,.bool true,I i1.n,I i2.n,I i3.n,aJ] true);have fin:=adY (R:=R) (N:=N) (vars:=Qh.vars) (b':=.bool true) ej x3 pW.h vp kM;obtain⟨dW,yD⟩:∃ y,dE.set b5 (.aq [str t.text,.bool true,I i1.n,I i2.n,I i3.n,aJ] true)=y:=⟨_,rfl⟩;replace adB:cz 1 dE [aH b5 4,I i3.n]=some (b0,dW):=by rw[← yD];exact adB
  rw[yD]at fin;replace fin:=Hid.mk fin;clear fb kM v2 v3 qR t2 t3 ej x3 jo UJ yD vp tw;simp only[aa,bh, *];exact fin.h
end Go.Eng.Sy
namespace Go.Eng.Sy
open Go Go.Eng Go.Proofs
def nf(n:Nat)(h:J)(p:gS)(v:Value):Prop:=∃ d r t xs,v=.agg #[I p.bS,d,r,t]∧dH (fun id=>n≤id) h 2 d (p.c2.map eT)∧dH (fun id=>n≤id) h 2 r (p.cv.map eT)∧dH (fun id=>n≤id) h 6 t xs∧gp (fun id=>n≤id) h p.db xs ∧
 p.c2.length≤140737488355328∧p.cv.length≤140737488355328∧xs.length≤140737488355328
structure jN(h0:J)(q bA:Nat)(H:Int)(cw cY:List Nm)(hb:List dO)(bH:J)(r:List Tok)(dv rv ca:Value)(xs:List (ar)):Prop where
 b3:eQ h0 q bA [I H,dv,rv,ca] bH r
 n:bA<bH.next
 rows:Rows (bA+1) bH [(dv,2,cw.map eT),(rv,2,cY.map eT),(ca,6,xs)]
 ts:gp (fK (bA+1) [dv,rv,ca]) bH hb xs
 Ax:cw.length+cY.length+hb.length+r.length≤100000
section
variable {h0 bH:J}{q bA:Nat}{H:Int}{cw cY:List Nm}{hb:List dO}{r:List Tok}{dv rv ca:Value}{xs:List (ar)}
theorem jN.go(g:jN h0 q bA H cw cY hb bH r dv rv ca xs){lP:J}{dL:List Tok}(l:bH.b2 q lP)(rd:eo lP q dL)(ag:dL.length≤r.length):jN h0 q bA H cw cY hb lP dL dv rv ca xs:=by
 have A:=g.b3.lt;have S:=g.b3.ge;exact⟨g.b3.go l rd,BS g.n l.next,g.rows.bP fun i au ak=>l.get i (by omega) ak,g.ts.to (l.cg fun id T=>⟨by have:=T.1;omega,T⟩),by have:=g.Ax;omega⟩
theorem jN.aoM(g:jN h0 q bA H cw cY hb bH r dv rv ca xs)(d:Nm)(aj:cw.length+1+cY.length+hb.length+r.length≤100000) :
  ∃ v' D,o1 2 24 (bH.alloc (.aq (eT d) true)) [dv,.slice (some ⟨bH.next,0,none⟩) 1 2]=some (v',D)∧cz 1 D [aH bA 1,v']=some (b0,D.set bA (.aq [I H,v',rv,ca] true))∧jN h0 q bA H (cw++[d]) cY hb (D.set bA (.aq [I H,v',rv,ca] true)) r v' rv ca xs:=by
 have hn:=g.n;obtain⟨v',D,qr,aN,ck,cm,jU⟩:=Rows.push (l1:=[]) (l2:=[(rv,2,cY.map eT),(ca,6,xs)]) g.rows (by omega) (x:=eT d) rfl (by omega) (b:=24) (by simp;omega) (by simp;omega);have gF:∀ i,i<bA+1→(bH.get i).isSome=true→D.get i=bH.get i:=fun i au ak=>ck i ak (g.rows.da (r:=(dv,2,cw.map eT)) (by simp) (.inl au));have s:=g.b3.low (Nat.lt_succ_self _) gF jU;have k4:=gN.cell (Rows.e6 (l1:=[]) aN);obtain⟨bu,u⟩:=s.bu 1 k4.1 k4.2 (by simp);have fF:J.cg (fK (bA+1) [dv,rv,ca]) (fK (bA+1) [v',rv,ca]) bH (D.set bA (.aq [I H,v',rv,ca] true)):=fun id cs own T aA=>by
  refine⟨⟨T.1,fun v ad=>?_⟩,?_⟩
  ·simp only[oj,BR,or_false]at ad;rcases ad with rfl|rfl|rfl
   ·exact cm id (by rw[aA];rfl)
   ·exact T.2 _ (by simp)
   ·exact T.2 _ (by simp)
  ·rw[J.dT _ _ _ _ (by have:=T.1;simp;omega),ck id (by rw[aA];rfl) (T.2 _ (by simp))];exact aA
 exact⟨v',D,qr,bu,u,BS hn jU,by
  have FY:Rows (bA+1) D [(v',2,(cw++[d]).map eT),(rv,2,cY.map eT),(ca,6,xs)]:=by simpa using aN
  exact FY.bP fun i au ak=>J.dT _ _ _ _ (by simp;omega),g.ts.to fF,by simp;omega⟩
theorem jN.aoN(g:jN h0 q bA H cw cY hb bH r dv rv ca xs)(d:Nm)(aj:cw.length+(cY.length+1)+hb.length+r.length≤100000) :
  ∃ v' D,o1 2 24 (bH.alloc (.aq (eT d) true)) [rv,.slice (some ⟨bH.next,0,none⟩) 1 2]=some (v',D)∧cz 1 D [aH bA 2,v']=some (b0,D.set bA (.aq [I H,dv,v',ca] true))∧jN h0 q bA H cw (cY++[d]) hb (D.set bA (.aq [I H,dv,v',ca] true)) r dv v' ca xs:=by
 have hn:=g.n;obtain⟨v',D,qr,aN,ck,cm,jU⟩:=Rows.push (l1:=[(dv,2,cw.map eT)]) (l2:=[(ca,6,xs)]) g.rows (by omega) (x:=eT d) rfl (by omega) (b:=24) (by simp;omega) (by simp;omega);have gF:∀ i,i<bA+1→(bH.get i).isSome=true→D.get i=bH.get i:=fun i au ak=>ck i ak (g.rows.da (r:=(rv,2,cY.map eT)) (by simp) (.inl au));have s:=g.b3.low (Nat.lt_succ_self _) gF jU;have k4:=gN.cell (Rows.e6 (l1:=[(dv,2,cw.map eT)]) aN);obtain⟨bu,u⟩:=s.bu 2 k4.1 k4.2 (by simp);have fF:J.cg (fK (bA+1) [dv,rv,ca]) (fK (bA+1) [dv,v',ca]) bH (D.set bA (.aq [I H,dv,v',ca] true)):=fun id cs own T aA=>by
  refine⟨⟨T.1,fun v ad=>?_⟩,?_⟩
  ·simp only[oj,BR,or_false]at ad;rcases ad with rfl|rfl|rfl
   ·exact T.2 _ (by simp)
   ·exact cm id (by rw[aA];rfl)
   ·exact T.2 _ (by simp)
  ·rw[J.dT _ _ _ _ (by have:=T.1;simp;omega),ck id (by rw[aA];rfl) (T.2 _ (by simp))];exact aA
 exact⟨v',D,qr,bu,u,BS hn jU,by
  have FY:Rows (bA+1) D [(dv,2,cw.map eT),(v',2,(cY++[d]).map eT),(ca,6,xs)]:=by simpa using aN
  exact FY.bP fun i au ak=>J.dT _ _ _ _ (by simp;omega),g.ts.to fF,by simp;omega⟩
theorem jN.aoO(g:jN h0 q bA H cw cY hb bH r dv rv ca xs){t:dO}{x:ar}(af:tF (fK (bA+1) [dv,rv,ca]) bH t x)(Bt:x.length=6)(aj:cw.length+cY.length+(hb.length+1)+r.length≤100000) :
  ∃ v' D,o1 6 72 (bH.alloc (.aq x true)) [ca,.slice (some ⟨bH.next,0,none⟩) 1 6]=some (v',D)∧cz 1 D [aH bA 3,v']=some (b0,D.set bA (.aq [I H,dv,rv,v'] true))∧jN h0 q bA H cw cY (hb++[t]) (D.set bA (.aq [I H,dv,rv,v'] true)) r dv rv v' (xs++[x]):=by
 have hn:=g.n;have xd:=g.ts.length;obtain⟨v',D,qr,aN,ck,cm,jU⟩:=Rows.push (l1:=[(dv,2,cw.map eT),(rv,2,cY.map eT)]) (l2:=[]) g.rows (by omega) (x:=x) Bt (by omega) (b:=72) (by omega) (by omega);have gF:∀ i,i<bA+1→(bH.get i).isSome=true→D.get i=bH.get i:=fun i au ak=>ck i ak (g.rows.da (r:=(ca,6,xs)) (by simp) (.inl au));have s:=g.b3.low (Nat.lt_succ_self _) gF jU;have k4:=gN.cell (Rows.e6 (l1:=[(dv,2,cw.map eT),(rv,2,cY.map eT)]) aN);obtain⟨bu,u⟩:=s.bu 3 k4.1 k4.2 (by simp);have fF:J.cg (fK (bA+1) [dv,rv,ca]) (fK (bA+1) [dv,rv,v']) bH (D.set bA (.aq [I H,dv,rv,v'] true)):=fun id cs own T aA=>by
  refine⟨⟨T.1,fun v ad=>?_⟩,?_⟩
  ·simp only[oj,BR,or_false]at ad;rcases ad with rfl|rfl|rfl
   ·exact T.2 _ (by simp)
   ·exact T.2 _ (by simp)
   ·exact cm id (by rw[aA];rfl)
  ·rw[J.dT _ _ _ _ (by have:=T.1;simp;omega),ck id (by rw[aA];rfl) (T.2 _ (by simp))];exact aA
 exact⟨v',D,qr,bu,u,BS hn jU,by
  have FY:Rows (bA+1) D [(dv,2,cw.map eT),(rv,2,cY.map eT),(v',6,xs++[x])]:=by simpa using aN
  exact FY.bP fun i au ak=>J.dT _ _ _ _ (by simp;omega),gp.snoc (af.to fF) (g.ts.to fF),by simp;omega⟩
theorem jN.new(g:jN h0 q bA H cw cY hb bH r dv rv ca xs){id:Nat}(au:bH.next≤id):fK (bA+1) [dv,rv,ca] id:=by
 refine⟨by have:=g.n;omega,fun v ad=>?_⟩;simp only[oj,BR,or_false]at ad;rcases ad with rfl|rfl|rfl
 ·exact g.rows.da (r:=(_,2,cw.map eT)) (by simp) (.inr au)
 ·exact g.rows.da (r:=(_,2,cY.map eT)) (by simp) (.inr au)
 ·exact g.rows.da (r:=(_,6,xs)) (by simp) (.inr au)
theorem jN.aoA(g:jN h0 q bA H cw cY hb bH r dv rv ca xs):nf h0.next bH ⟨H,cw,cY,hb⟩ (.agg #[I H,dv,rv,ca]):=by
 have aA:=g.b3.ge;have aj:=g.Ax;have ab:J.cg (fun id=>bA+1≤id) (fun id=>h0.next≤id) bH bH:=J.jd fun id T=>by have T:bA+1≤id:=T;show h0.next≤id;omega
 refine⟨dv,rv,ca,xs,rfl,(cL.oY (g.rows.own (dv,2,cw.map eT) (by simp))).to ab,(cL.oY (g.rows.own (rv,2,cY.map eT) (by simp))).to ab,(cL.oY (g.rows.own (ca,6,xs) (by simp))).to ab,g.ts.to (J.jd fun id T=>by have:=T.1;show h0.next≤id;omega),?_,?_,?_⟩
 ·show cw.length≤_;omega
 ·show cY.length≤_;omega
 ·rw[g.ts.length];omega
end
variable {R:aT}
theorem I2{c1 VJ:Type}(x:PR c1)(y:List Tok→PR (List c1))(K:List c1→List Tok→PR VJ)(cw:List c1) :
  ((x.bind fun d r=>(y r).bind fun bG r=>PR.ok (d::bG) r).bind fun bG r=>K (cw++bG) r)=x.bind fun d r=>(y r).bind fun bG r=>K ((cw++[d])++bG) r:=by
 cases x with
 |ok a r=>show((y r).bind _).bind _=(y r).bind _;cases y r<;>simp[PR.bind]
 |bad=>rfl
 |out=>rfl
theorem ag4(d:Nm):ie [aI,I 0] [(0,2)] 1 2 [ks d.name d.n]=some (eT d,fun id=>.slice (some ⟨id,0,none⟩) 1 2):=I6 _ _
theorem ahd{f:Nat}{h0 aM:J}{q bA:Nat}{H:Int}{r:List Tok}{G:List Nm→List Tok→PR gS}{Q:aT}{N:Nat}{vars:List Nat}{ej x3:Value}(jv:dM→ar→J→Prop)
  (g:jN h0 q bA H [] [] [] aM r aJ aJ aJ []) (ah:Out R q h0 ((oT f r).bind fun bG r=>G bG r) (nf h0.next) Q)
  (L:∀ D dL cw dv,jN h0 q bA H cw [] [] D dL dv aJ aJ []→Out R q h0 (G cw dL) (nf h0.next) Q→jv (.exit 0) [aH q 0,aH bA 0,ej,x3] D) :
  ch (PR:=iS R) Tryz.prog N vars Pt [aH q 0,aH bA 0,ej,x3] aM jv:=by
 refine ch.CG (by rfl) (fun m j4 cp=>∃ r cw dv,j4=[aH q 0,aH bA 0,ej,x3]∧jN h0 q bA H cw [] [] cp r dv aJ aJ []∧Out R q h0 ((oT m r).bind fun bG r=>G (cw++bG) r) (nf h0.next) Q) ?_ (m:=f) ⟨r,[],_,rfl,g,ah⟩;clear g ah;rintro m j4 A ce ⟨r,cw,dv,rfl,g,ah⟩ aN;delta Pt As;have zf:=g.b3.ne;replace g:=U g;replace ah:=U ah;replace L:=U L;simp only[aa,dX, *];refine bj.x (qf g.h.b3.rd [100,101,118,105,99,101] _ fun b S T l2 bM=>?_);cases m with
 |zero=>exact(ah.h.ne (by rw[oT];rfl)).elim
 |succ m =>
 replace ah:=ah.h;rw[oT]at ah;cases b with
 |false =>
  rw[if_neg (by rw[T];simp)]at ah;have b6:(if false=true then r.tail else r)=r:=rfl;rw[b6]at bM;have dp:=L.h S r cw dv (g.h.go l2 bM (br _)) (by simpa[PR.bind] using ah);replace dp:=Hid.mk dp;clear L ah aN l2 bM g T;simp only[aa, *];exact dp.h
 |true =>
  rw[if_pos T,I2]at ah;have b6:(if true=true then r.tail else r)=r.tail:=rfl;rw[b6]at bM;have g2:=g.h.go l2 bM (by simp);have lq:r.tail.length<r.length:=hM (iZ T);have se:=g2.b3.g;have kr:aw (.load false 1) [aH bA 1] S.get=some dv:=by simp only[aw,se];rfl
  replace g2:=U g2;replace ah:=U ah;replace bM:=U bM;replace T:=U T;replace aN:=U aN;replace kr:=U kr;replace l2:=U l2;replace se:=U se;replace lq:=U lq;simp only[aa,CB, *];refine ahc bM.h ?_ _ (ah.h.sub g2.h.b3.le fun d cE K0 fb v ae aE kS ev=>jt aE ?_)
  ·simp[e0,K.cD,K.dF];exact⟨rfl,_,rfl,_,rfl,rfl,_,rfl,_,kr.h,by simp[vP],rfl,_,rfl,_,rfl⟩
  subst ev;have gP:=QX K0;have g3:=g2.h.go aE kS (by omega);have Db:=g2.h.Ax;obtain⟨v',aB,qr,bu,g5⟩:=g3.aoM d (by simp only[qz]at Db ⊢;omega);have aia:=g3.b3.g;have wn:=ag4 d;have dp:=aN.h.h m _ _ (by omega) ⟨cE,cw++[d],v',rfl,g5,fb⟩;replace dp:=Hid.mk dp;clear L ah fb aN l2 bM g g2 T aE kS K0 g3 g5 kr se Db;simp only[aa,aw,bh, *];exact dp.h
end Go.Eng.Sy
namespace Go.Eng.Sy
open Go Go.Eng Go.Proofs
variable {R:aT}
def Uv(l:List Tok):PR Nm:=(im 1 l).bind fun n r=>(im 3 r).bind fun k r=>.ok ⟨n.text,k.n⟩ r
theorem ao4(f:Nat)(l:List Tok):mS (f+1) l=if dk [114,101,115,111,117,114,99,101] (hd l) then(Uv l.tail).bind fun d r=>(mS f r).bind fun bG r=>.ok (d::bG) r else .ok [] l:=by
 rw[mS];split
 ·unfold Uv;rw[EV]
  congr 1
  funext n r
  rw[EV];rfl
 ·rfl
theorem jN.aq3{h0 bH:J}{q bA bO:Nat}{H:Int}{cw cY:List Nm}{r:List Tok}{dv rv ca:Value}(g:jN h0 q bA H cw cY [] bH r dv rv ca [])(hp:fK (bA+1) [dv,rv,ca] bO)(o:bQ):jN h0 q bA H cw cY [] (bH.set bO o) r dv rv ca []:=by
 have A:=hp.1;have S:=g.b3.ge;have ne:∀ v∈[dv,rv,ca],∀ id m s,v=.slice (some ⟨id,0,none⟩) m s→(id==bO)=false:=fun v ad id m s e=>by
  have:=hp.2 v ad;simp only[beq_eq_false_iff_ne,ne_eq];intro aL;subst aL;exact this m s e
 exact⟨g.b3.other (by omega) (by omega) o,g.n,⟨fun nv hr=>(g.rows.own nv hr).get fun id ad _=>J.dT _ _ _ _ (by
  simp only[oj,BR,or_false]at hr;rcases hr with rfl|rfl|rfl
  ·exact ne _ (by simp) _ _ _ ad
  ·exact ne _ (by simp) _ _ _ ad
  ·exact ne _ (by simp) _ _ _ ad),g.rows.sep⟩,rfl,g.Ax⟩
theorem apC{f:Nat}{h0 aM:J}{q bA:Nat}{H:Int}{r:List Tok}{G:List Nm→List Tok→PR gS}{Q:aT}{N:Nat}{vars:List Nat}{ej x3:Value}(jv:dM→ar→J→Prop){cw:List Nm}{dv:Value}
  (g:jN h0 q bA H cw [] [] aM r dv aJ aJ []) (ah:Out R q h0 ((mS f r).bind fun bG r=>G bG r) (nf h0.next) Q)
  (L:∀ D dL cY rv ej,jN h0 q bA H cw cY [] D dL dv rv aJ []→Out R q h0 (G cY dL) (nf h0.next) Q→jv (.exit 2) [aH q 0,aH bA 0,ej,x3] D) :
  ch (PR:=iS R) Tryz.prog N vars Pr [aH q 0,aH bA 0,ej,x3] aM jv:=by
 refine ch.CG (by rfl) (fun m j4 cp=>∃ r cY rv ej,j4=[aH q 0,aH bA 0,ej,x3]∧jN h0 q bA H cw cY [] cp r dv rv aJ []∧Out R q h0 ((mS m r).bind fun bG r=>G (cY++bG) r) (nf h0.next) Q) ?_ (m:=f) ⟨r,[],_,_,rfl,g,ah⟩;clear g ah;rintro m j4 A ce ⟨r,cY,rv,ej,rfl,g,ah⟩ aN;delta Pr As;have zf:=g.b3.ne;replace g:=U g;replace ah:=U ah;replace L:=U L;simp only[aa,dX, *];refine bj.x (qf g.h.b3.rd [114,101,115,111,117,114,99,101] _ fun b S T l2 bM=>?_);cases m with
 |zero=>exact(ah.h.ne (by rw[mS];rfl)).elim
 |succ m =>
 replace ah:=ah.h;rw[ao4]at ah;cases b with
 |false =>
  rw[if_neg (by rw[T];simp)]at ah;have b6:(if false=true then r.tail else r)=r:=rfl;rw[b6]at bM;have dp:=L.h S r cY rv ej (g.h.go l2 bM (br _)) (by simpa[PR.bind] using ah);replace dp:=Hid.mk dp;clear L ah aN l2 bM g T;simp only[aa, *];exact dp.h
 |true =>
  rw[if_pos T,I2]at ah;have b6:(if true=true then r.tail else r)=r.tail:=rfl;rw[b6]at bM;have g2:=g.h.go l2 bM (by simp);unfold Uv at ah;rw[EV]at ah;replace g2:=U g2;replace ah:=U ah;replace bM:=U bM;replace T:=U T;replace aN:=U aN;replace l2:=U l2;simp only[aa,dX, *];refine Eg bM.h (by simp[e0,K.cD,K.dF];repeat (first|exact rfl|exact⟨_,rfl⟩|refine⟨_,rfl,?_⟩|refine⟨rfl,?_⟩)) _ (ah.h.sub g2.h.b3.le fun t cE aC fb w ae aE kS ev=>?_);subst ev;rw[EV]at fb;have gP:=(kQ (by decide) aC).1;have g3:=g2.h.go aE kS (by omega);have I3:=WC t.text;have bu:=adD ae t.text 0;have c9:=g3.new (br _);have b4:=eQ.new g3.b3.lt g3.b3.le g3.b3.rd [str t.text,I 0];obtain⟨bO,aB,lK,nI,dV,eO⟩:=b9 ae [str t.text,I 0];rw[nI,lK]at b4;rw[nI,lK]at bu;rw[lK]at c9;have Dv:=b4.ne;have g4:=g3.go (eO.eA q) (g3.b3.rd.le eO) (br _);have hj:bA<bO:=by have:=g3.n;omega
  have ajF:(bO==bA)=false:=by simp;omega
  clear ah g2 aE kS eO dV g3 bM l2;replace g4:=U g4;replace b4:=U b4;replace fb:=U fb;replace hj:=U hj;replace gP:=U gP;replace c9:=U c9;simp only[aa,bh,dX, *];refine zY g4.h.b3.rd (by simp[e0,K.cD,K.dF];repeat (first|exact rfl|exact⟨_,rfl⟩|refine⟨_,rfl,?_⟩|refine⟨rfl,?_⟩)) _ (fb.h.sub g4.h.b3.le fun k gn ab kM w aG bc rV ev=>?_);subst ev;have asA:=(kQ (by decide) ab).1;have Db:=g4.h.Ax;have g5:=g4.h.go bc rV (by omega);have t2:=b4.h.go bc rV;obtain⟨vY,u2⟩:=t2.bu 1 (v:=I k.n) rfl rfl (by simp);have g6:=g5.aq3 c9.h (.aq [str t.text,I k.n] true);obtain⟨a1,hH⟩:∃ y,aG.set bO (.aq [str t.text,I k.n] true)=y:=⟨_,rfl⟩;replace vY:cz 1 aG [aH bO 1,I k.n]=some (b0,a1):=by rw[← hH];exact vY
  replace u2:eQ h0 q bO [str t.text,I k.n] a1 gn:=by rw[← hH];exact u2
  rw[hH]at g6;have asc:=g6.b3.g;have wP:=u2.g;have lQ:=g4.h.Ax;obtain⟨v',bN,qr,tw,g8⟩:=g6.aoN ⟨t.text,k.n⟩ (by simp only[qz]at lQ ⊢;omega);have wn:ie [aI,I 0] [(0,2)] 1 2 [.agg #[str t.text,I k.n]]=some (eT ⟨t.text,k.n⟩,fun id=>.slice (some ⟨id,0,none⟩) 1 2):=I6 _ _;replace kM:Out R q h0 ((mS m gn).bind fun bG r=>G ((cY++[⟨t.text,k.n⟩])++bG) r) (nf h0.next) Q:=kM;have dp:=aN.h.h m _ _ (by omega) ⟨gn,cY++[⟨t.text,k.n⟩],v',aH bO 0,rfl,g8,kM⟩;replace dp:=Hid.mk dp;clear L fb kM aN bc rV g4 g5 g6 g8 T ab t2 u2 b4 hH Db lQ bu gP c9;simp only[aa,aw,bh,ac4, *];exact dp.h
end Go.Eng.Sy
namespace Go.Eng.Sy
open Go Go.Eng Go.Proofs
variable {R:aT}
theorem akw{s t:aD}(h:s≠t){k:Tok}(ak:dk s k=true):dk t k=false:=by
 unfold dk at ak ⊢;simp only[Bool.and_eq_true,beq_iff_eq]at ak;have:(k.text==t)=false:=by simp only[beq_eq_false_iff_ne,ne_eq];rw[ak.1];exact h
 rw[this];rfl
theorem tF.ea{B:Nat→Prop}{h:J}{t:dO}{x:ar}(af:tF B h t x):x.length=6∧x.all (·.oneCell')=true:=by
 obtain⟨v,rfl,ad⟩:=af;have:=ad.plain.one;exact⟨rfl,by simp[this];simp[Value.oneCell']⟩
theorem ag6{B:Nat→Prop}{h:J}{t:dO}{x:ar}(af:tF B h t x):ie Ez [(0,6)] 1 6 [.agg x.toArray]=some (x,fun id=>.slice (some ⟨id,0,none⟩) 1 6):=uT rfl af.ea.1 rfl af.ea.2
theorem aqG{f:Nat}{h0 aM:J}{q bA:Nat}{H:Int}{r:List Tok}{G:List dO→List Tok→PR gS}{Q:aT}{N:Nat}{vars:List Nat}{ej x3:Value}(jv:dM→ar→J→Prop){cw cY:List Nm}{dv rv:Value}
  (g:jN h0 q bA H cw cY [] aM r dv rv aJ []) (ah:Out R q h0 ((nu f r).bind fun bG r=>G bG r) (nf h0.next) Q)
  (L:∀ D dL hb ca xs x3,jN h0 q bA H cw cY hb D dL dv rv ca xs→Out R q h0 (G hb dL) (nf h0.next) Q→jv (.exit 4) [aH q 0,aH bA 0,ej,x3] D) :
  ch (PR:=iS R) Tryz.prog N vars Ps [aH q 0,aH bA 0,ej,x3] aM jv:=by
 refine ch.CG (by rfl) (fun m j4 cp=>∃ r hb ca xs x3,j4=[aH q 0,aH bA 0,ej,x3]∧jN h0 q bA H cw cY hb cp r dv rv ca xs∧Out R q h0 ((nu m r).bind fun bG r=>G (hb++bG) r) (nf h0.next) Q) ?_ (m:=f) ⟨r,[],_,_,_,rfl,g,ah⟩;clear g ah;rintro m j4 A ce ⟨r,hb,ca,xs,x3,rfl,g,ah⟩ aN;delta Ps As;have zf:=g.b3.ne;cases m with
 |zero=>exact(ah.ne (by rw[nu];rfl)).elim
 |succ m =>
 rw[nu]at ah
 -- a atF, or a ga, is read: what arN then
 have step:∀(fd:Bool) (S:J) (bM:List Tok),bM.length<r.length→jN h0 q bA H cw cY hb S bM dv rv ca xs→Out R q h0 ((vR m fd bM).bind fun t r=>(nu m r).bind fun ts r=>G ((hb++[t])++ts) r) (nf h0.next) Q →
   W (PR:=iS R) Tryz.prog N vars (.aW As []) (sW 5 (rh ce jv)) [aH q 0,aH bA 0,ej,.bool fd] S:=by
  intro fd S bM lq g2 ew;have se:=g2.b3.g;have kr:aw (.load false 1) [aH bA 3] S.get=some ca:=by simp only[aw,se];rfl
  delta As;clear ah g;replace g2:=U g2;replace ew:=U ew;replace aN:=U aN;replace kr:=U kr;replace se:=U se;replace lq:=U lq;replace L:=U L;simp only[aa,CB, *];refine aqF g2.h.b3.rd ?_ _ (ew.h.sub g2.h.b3.le fun t cE aC fb v ae aE kS ⟨x,ev,af⟩=>jt aE ?_)
  ·simp[e0,K.cD,K.dF];exact⟨rfl,_,rfl,_,rfl,rfl,_,rfl,_,kr.h,by simp[vP],rfl,_,rfl,_,rfl⟩
  subst ev;have gP:=Vk aC;have Db:=g2.h.Ax;have g3:=g2.h.go aE kS (by omega);have wn:=ag6 af;have gG:tF (fK (bA+1) [dv,rv,ca]) ae t x:=af.to (J.jd fun id T=>g2.h.new T);obtain⟨v',aB,qr,bu,g5⟩:=g3.aoO gG af.ea.1 (by omega);have aia:=g3.b3.g;have dp:=aN.h.h m _ _ (by omega) ⟨cE,hb++[t],v',_,.bool fd,rfl,g5,fb⟩;replace dp:=Hid.mk dp;clear L ew fb aN g2 aE kS aC g3 g5 kr se Db af gG;simp only[aa,aw,bh, *];exact dp.h
 replace g:=U g;replace ah:=U ah;replace L:=U L;replace step:=U step;simp only[aa,dX, *];refine bj.x (H6 g.h.b3.rd [116,97,115,107] _ fun S l2=>?_);have g2:=g.h.go (l2.eA q) (g.h.b3.rd.le l2) (br _);replace ah:=ah.h;cases ig:dk [116,97,115,107] (hd r) with
 |true =>
  have sh:dk [104,97,110,100,108,101,114] (hd r)=false:=akw (by decide) ig;rw[if_neg (by rw[sh];simp),if_pos ig,I2]at ah;clear g l2;replace g2:=U g2;replace ah:=U ah;replace ig:=U ig;replace sh:=U sh;replace aN:=U aN;simp only[aa,dX, *];refine bj.x (qf g2.h.b3.rd [104,97,110,100,108,101,114] _ fun b ae T aE cE=>?_);have RQ:b=false:=by rw[← T];exact sh.h
  subst RQ;have b6:(if false=true then r.tail else r)=r:=rfl;rw[b6]at cE;have g3:=g2.h.go aE cE (br _);clear g2 aE;replace g3:=U g3;replace cE:=U cE;replace T:=U T;simp only[aa,dX, *];refine abr cE.h [116,97,115,107] (by simp[e0,K.cD,K.dF]) _ (fun _ aB aO eb=>?_) fun aZ=>absurd ig.h (by rw[aZ];simp);have lq:r.tail.length<r.length:=hM (iZ ig.h);have dp:=step.h false aB r.tail lq (g3.h.go aO eb (by omega)) ah.h;replace dp:=Hid.mk dp;clear step ah g3 cE aO eb aN L T;simp only[aa,CB, *];exact dp.h
 |false =>
  clear g l2;replace g2:=U g2;replace ah:=U ah;replace ig:=U ig;replace aN:=U aN;simp only[aa,dX, *];refine bj.x (H6 g2.h.b3.rd [104,97,110,100,108,101,114] _ fun ae aE=>?_);have g3:=g2.h.go (aE.eA q) (g2.h.b3.rd.le aE) (br _);replace ah:=ah.h;cases sh:dk [104,97,110,100,108,101,114] (hd r) with
  |false =>
   rw[if_neg (by rw[sh];simp),if_neg (by rw[ig.h];simp)]at ah;have dp:=L.h ae r hb ca xs x3 g3 (by simpa[PR.bind] using ah);replace dp:=Hid.mk dp;clear L ah aN g2 aE g3 ig step;simp only[aa, *];exact dp.h
  |true =>
   rw[if_pos sh,I2]at ah;clear g2 aE;replace g3:=U g3;replace ah:=U ah;replace sh:=U sh;simp only[aa,dX, *];refine bj.x (qf g3.h.b3.rd [104,97,110,100,108,101,114] _ fun b aB T aO eb=>?_);have RQ:b=true:=by rw[← T];exact sh.h
   subst RQ;have b6:(if true=true then r.tail else r)=r.tail:=rfl;rw[b6]at eb;have lq:r.tail.length<r.length:=hM (iZ sh.h);have dp:=step.h true aB r.tail lq (g3.h.go aO eb (by omega)) ah.h;replace dp:=Hid.mk dp;clear step ah g3 eb aO aN L T;simp only[aa,CB, *];exact dp.h
end Go.Eng.Sy
namespace Go.Eng.Sy
open Go Go.Eng Go.Proofs
variable {R:aT}
abbrev uQ:ar:=[I 0,bx,bx,bx]
theorem aoK{f:Nat}{l:List Tok}{h:J}{q:Nat}(hr:eo h q l){post:Prop}(fB:post)(Q:aT)(ah:Out R q h (BX f l) (nf h.next) Q) :
  iM (PR:=iS R) Tryz.prog 32 [aH q 0] h post Q:=by
 unfold BX at ah;have aR:=hr.len;have bT:=eQ.new hr.lt (J.b2.refl q h) hr uQ;obtain⟨bA,A,qF,gO,fA,bt⟩:=b9 h uQ;rw[gO,qF]at bT;have zf:=bT.ne;have Bh:=J.bY fA;clear hr bt fA;replace bT:=U bT;replace ah:=U ah;replace Bh:=U Bh;replace aR:=U aR;have L:=ah;refine wC (k:=1) (agg:=true) (size:=4) amN (by rfl) rfl fB rfl rfl fun N=>?_;rw[gE Pq mZ rfl];delta Pq As;replace L:=U L;clear L;simp only[aa,dX, *];refine uB bT.h.rd [104,97,114,116,115] (by simp[e0,K.cD,K.dF]) _ (ah.h.sub bT.h.le fun _ bM hn ew w S l2 qg ev=>?_);subst ev;have bC:=(oS hn).1;have b4:=bT.h.go l2 qg;have k8:bA<S.next:=by have:=Bh.h;have:=l2.next;omega
 clear ah bT l2 hn;replace b4:=U b4;replace ew:=U ew;replace k8:=U k8;replace bC:=U bC;replace qg:=U qg;simp only[aa,dX, *];refine zY qg.h (by simp[e0,K.cD,K.dF];repeat (first|exact rfl|exact⟨_,rfl⟩|refine⟨_,rfl,?_⟩|refine⟨rfl,?_⟩)) _ (ew.h.sub b4.h.le fun i cE ab fb w ae aE kS ev=>?_);subst ev;have gP:=(kQ (by decide) ab).1;have eg:=b4.h.go aE kS;have hq:bA<ae.next:=by have:=k8.h;have:=aE.next;omega
 obtain⟨bu,fi⟩:=eg.bu 0 (v:=I i.n) rfl rfl (by simp);have g:jN h q bA i.n [] [] [] (ae.set bA (.aq [I i.n,aJ,aJ,aJ] true)) cE aJ aJ aJ []:=⟨fi,hq,⟨fun nv hr=>by
  simp only[oj,BR,or_false]at hr;rcases hr with rfl|rfl|rfl<;>exact cL.nil _ _ _,by simp[xJ]⟩,rfl,by have:=aR.h;have:=bC.h;simp only[qz];omega⟩
 obtain⟨aB,cV⟩:∃ y,ae.set bA (.aq [I i.n,aJ,aJ,aJ] true)=y:=⟨_,rfl⟩;replace bu:cz 1 ae [aH bA 0,I i.n]=some (b0,aB):=by rw[← cV];exact bu
 rw[cV]at g;clear ew b4 eg aE ab fi cV kS gP hq;replace g:=U g;replace fb:=U fb;simp only[aa,bh, *];refine ahd (f:=f) (G:=fun bG r=>(mS f r).bind fun b3 r=>(nu f r).bind fun ts r=>.ok ⟨i.n,bG,b3,ts⟩ r) _ g.h fb.h fun aG gn cw dv g5 rE=>?_;clear g fb bu;replace g5:=U g5;replace rE:=U rE;simp only[aa, *];refine apC (f:=f) (G:=fun b3 r=>(nu f r).bind fun ts r=>.ok ⟨i.n,cw,b3,ts⟩ r) _ g5.h rE.h fun a1 ku cY rv ej g6 Bf=>?_;clear g5 rE;replace g6:=U g6;replace Bf:=U Bf;simp only[aa, *];refine aqG (f:=f) (G:=fun ts r=>.ok ⟨i.n,cw,cY,ts⟩ r) _ g6.h Bf.h fun bN l0 hb ca xs x3 g7 Dr=>?_;clear g6 Bf;have dp:=Dr.fin g7.b3.le g7.b3.rd g7.aoA;have se:=g7.b3.g;replace dp:=Hid.mk dp;clear g7 Dr;simp only[aa,aw,rS, *];exact dp.h
end Go.Eng.Sy
namespace Go.Eng.Sy
open Go Go.Eng Go.Proofs
theorem ap8:VT Tryz.prog 71 MS [I 0,I 0] where
 code:=⟨Tryz.f71,_,_,_,_,_,Tryz.func71,rfl,Tryz.ntmps71,Tryz.results71,rfl,⟨_,_,_,_,_,_,_,_,_,_,rfl,⟨rfl,rfl,rfl,rfl,rfl⟩,⟨rfl,rfl,rfl⟩,⟨rfl,rfl,rfl⟩,⟨rfl,rfl,rfl⟩,⟨rfl,rfl,rfl⟩,⟨rfl,rfl,rfl⟩,⟨rfl,rfl,rfl⟩,⟨rfl,rfl,rfl⟩⟩,⟨_,rfl,rfl,rfl,rfl⟩⟩
 zero:=by kernel_rfl
 Ii:=by kernel_rfl
 held:=by kernel_rfl
 size:=by kernel_rfl
noncomputable def acy:List aF:=[⟨0,.p (.fieldAddr 0),[.v 2],none,false⟩,⟨1,.r (.load false 1),[.t 0],none,false⟩,⟨4,.w (.store 1),[.v 0,.t 0],none,true⟩,⟨2,.p (.fieldAddr 1),[.v 2],none,false⟩,⟨3,.r (.load false 1),[.t 0],none,false⟩,⟨5,.w (.store 1),[.v 1,.t 0],none,false⟩]
noncomputable def recC:bo:=.aW acy []
noncomputable def aep:List aF:=[⟨0,.a (.new [I 0]),[],none,false⟩,⟨1,.a (.new [I 0]),[],none,false⟩]
noncomputable def aer:List aF:=[⟨0,.p (.jK),[.v 0],none,false⟩,⟨1,.call 70,[.t 0],none,false⟩,⟨2,.p (.jK),[.t 0],none,false⟩,⟨3,.p (.extract 0),[.t 0],none,false⟩,⟨4,.p (.extract 1),[.t 1],none,false⟩,⟨5,.p (.extract 2),[.t 2],none,false⟩,⟨6,.p (.jK),[.t 2],none,false⟩,⟨7,.w (.store 1),[.v 2,.t 2],none,false⟩,⟨8,.w (.store 1),[.v 3,.t 2],none,false⟩]
noncomputable def aet:List aF:=[⟨0,.r (.load false 1),[.v 2],none,false⟩,⟨1,.p (.bin .neq),[.t 0,.c (I 0)],none,false⟩]
noncomputable def aeu:List aF:=[⟨0,.r (.load false 1),[.v 2],none,false⟩,⟨2,.w (.store 1),[.v 2,.t 0],none,true⟩,⟨1,.r (.load false 1),[.v 3],none,false⟩,⟨3,.w (.store 1),[.v 3,.t 0],none,false⟩]
noncomputable def VF:bo:=.aW aep [(2,1),(3,0)]
noncomputable def aeq:bo:=.aW aer [(4,2)]
noncomputable def aes:bo:=.hK aet [] 0 (.seq (.aW aeu []) .ret) .skip
noncomputable def aev:List aF:=[⟨0,.p (.jK),[.v 4],none,false⟩,⟨1,.p (.build [bx] [(0,1)]),[.t 0],none,false⟩,⟨2,.a .box,[.t 0],none,false⟩,⟨3,.p (.jK),[.t 0],none,false⟩]
noncomputable def aew:List aF:=[⟨0,.p (.jK),[.v 1],none,false⟩,⟨1,.p (.jK),[.v 5],none,false⟩,⟨2,.rr,[.t 1,.t 0],none,false⟩]
noncomputable def aex:List aF:=[⟨0,.p (.jK),[.v 5],none,false⟩,⟨1,.call 72,[.t 0,.c (I 5)],none,false⟩]
noncomputable def aey:List aF:=[⟨0,.w (.store 1),[.v 2,.c (I 0)],none,false⟩,⟨1,.w (.store 1),[.v 3,.c (I 0)],none,false⟩]
noncomputable def aez:bo:=.seq (.aW aey []) .ret
noncomputable def arj:x4:={ iH:=2,vars:=[0,1,4,5,6,7],pre:=[VF,aeq,aes],ma:=[2,3],gB:=71,rest:=.seq (.aW aev [(5,0)]) (.seq (.aW aew []) (.seq (.aW aex []) aez)),results:=[.cell 2 false 1,.cell 3 false 1] }
set_option maxRecDepth 100000 in
theorem anQ:EE Tryz.prog 28 arj:=agL (na:=2) (vars:=[0,1,4,5,6,7]) (by kernel_rfl)
set_option maxRecDepth 100000 in
theorem ap9:IH Tryz.prog 71 MS recC where
 code:=⟨Tryz.f71,_,_,_,_,_,Tryz.func71,rfl,Tryz.ntmps71,Tryz.results71,rfl,⟨_,_,_,_,_,_,_,_,_,_,rfl,⟨rfl,rfl,rfl,rfl,rfl⟩,⟨rfl,rfl,rfl⟩,⟨rfl,rfl,rfl⟩,⟨rfl,rfl,rfl⟩,⟨rfl,rfl,rfl⟩,⟨rfl,rfl,rfl⟩,⟨rfl,rfl,rfl⟩,⟨rfl,rfl,rfl⟩⟩,⟨_,rfl,rfl,rfl,rfl⟩,by kernel_rfl⟩
 zero:=by kernel_rfl
 Ii:=by kernel_rfl
 held:=by kernel_rfl
 size:=by kernel_rfl
 iI:=rfl
 run:=by
  intro gt eS Ah e l h qx cl A S ae g1 g2 g3;have bT:cz 1 h [fQ gt,I e]=some (b0,h.set gt (.aq [I e] true)):=iU (off:=0) g1 (by simp) rfl rfl;have yO:=(J.dT h (.aq [I e] true) gt eS (by simp;exact fun e=>A e.symm)).trans g2;have yP:=(J.dT h (.aq [I e] true) gt Ah (by simpa using S)).trans g3;have b4:cz 1 (h.set gt (.aq [I e] true)) [fQ eS,I l]=some (b0,(h.set gt (.aq [I e] true)).set eS (.aq [I l] true)):=iU (off:=0) yO (by simp) rfl rfl;have hD:(Ah==gt)=false:=by simpa using S
  have h9:(Ah==eS)=false:=by simpa using ae
  delta recC acy;simp only[aa,aw,bh, *];refine jt (J.b2.set gt h _) ?_;simp only[aa,aw,bh, *]
end Go.Eng.Sy
namespace Go.Eng
open Go
variable {P:Program}
def IG(hL:TypeId)(gt eS:Nat)(Q:aT)(v:Value)(D:J):Prop :=
 ∃ e l qx cl,v=Iq hL e l∧D.get gt=some (.aq [qx] true)∧D.get eS=some (.aq [cl] true)∧Q (.tuple #[I e,I l]) (nV D gt eS e l)
theorem agC{e:ar}{gt eS:Nat}(h:r8 e [2,3]=some [fQ gt,fQ eS]):e[2]?=some (fQ gt)∧e[3]?=some (fQ eS):=by
 unfold r8 r8 r8 at h;split at h
 ·rename_i v l A S;split at S
  ·rename_i v2 l2 ae aB;cases aB;cases S;cases h;exact⟨A,ae⟩
  ·cases S
 ·cases h
theorem ap7{aL:ar}{h:J}{gt eS:Nat}{e l:Int}(cH:gt≠eS){qx cl:Value}(g1:h.get gt=some (.aq [qx] true))(g2:h.get eS=some (.aq [cl] true))(ck:aL[2]?=some (fQ gt))(cm:aL[3]?=some (fQ eS)) :
  hF aL (nV h gt eS e l) [.cell 2 false 1,.cell 3 false 1]=some [I e,I l]:=by
 have hD:=J.bY g1;have h9:=J.bY g2;have dP:(nV h gt eS e l).get gt=some (.aq [I e] true):=by
  unfold nV;rw[J.dT _ _ _ _ (by simpa using cH),J.gz _ _ _ (by rw[J.oH hD,g1];rfl)]
 have a2:(nV h gt eS e l).get eS=some (.aq [I l] true):=by
  unfold nV;rw[J.gz _ _ _ (by rw[J.dT _ _ _ _ (by simp;exact fun e=>cH e.symm),J.oH h9,g2];rfl)]
 have dJ:aw (.load false 1) [fQ gt] (nV h gt eS e l).get=some (I e):=by simp only[aw,dP];rfl
 have kB:aw (.load false 1) [fQ eS] (nV h gt eS e l).get=some (I l):=by simp only[aw,a2];rfl
 simp only[hF,l7.get,ck,cm,dJ,kB]
theorem agA{f:FuncId}{d:x4}(aZ:EE P f d){hL:TypeId}{n7:bo}(GV:IH P d.gB hL n7)(y4:M8 P d.gB d.ma.length){bk bJ dl tail:bo}{sK bT b4:List aF}
  (gx:d.pre=[bk,bJ,dl]) (oL:d.rest=.seq (.aW sK [(5,0)]) (.seq (.aW bT []) (.seq (.aW b4 []) tail))) (h6:bk.cX=true) (k8:bJ.cX=true) (hq:dl.cX=true) (iW:d.rest.cX=true)
  (Y9:d.ma=[2,3]) (kq:d.results=[.cell 2 false 1,.cell 3 false 1]){args:ar}{h:J}(hn:args.length=d.iH){Q:aT}{F:FuncId→Bool}
  (w:∀ N,W (PR:=vL) P N d.vars bk (fun x az A=>x=.normal∧W (PR:=vL) P N d.vars bJ (fun x aL S=>x=.normal∧W (PR:=vL) P N d.vars dl (fun x bq ae =>
   (x=.ret∧cu (hF bq ae [.cell 2 false 1,.cell 3 false 1]) fun vs=>Q (packed vs) ae) ∨
   (x=.normal∧∃ gt eS qx,gt≠eS∧r8 bq [2,3]=some [fQ gt,fQ eS]∧ae.get gt=some (.aq [qx] true) ∧
    W (PR:=vL) P N d.vars (.aW sK [(5,0)]) (fun x cV aB=>x=.normal∧W (PR:=⟨IG hL gt eS Q,F,true⟩) P N d.vars (.aW bT []) (fun x h2 aG=>x=.normal ∧
     W (PR:=⟨IG hL gt eS Q,F,true⟩) P N d.vars (.aW b4 []) (fun x hH a1=>x=.normal∧W (PR:=vL) P N d.vars tail (fun x e7 bN=>(x=.normal∨x=.ret)∧cu (hF e7 bN [.cell 2 false 1,.cell 3 false 1]) fun vs=>Q (packed vs) bN) hH a1) h2 aG) cV aB) bq ae)) aL S) az A)
   (args++List.replicate (d.vars.length-args.length) b0) h):bj P f args h Q:=by
 obtain⟨fn,code,mj,_⟩:=aZ.fn;obtain⟨xV,az,A,t1,rfl,w⟩:=W.sound (w fn.ntmps);obtain⟨ej,aL,S,t2,rfl,w⟩:=W.sound w;obtain⟨x3,bq,ae,t3,w⟩:=W.sound w;rcases w with⟨rfl,w⟩|⟨rfl,gt,eS,qx,cH,hA,aK,w⟩
 ·unfold cu at w;split at w
  ·rename_i vs sv;refine⟨packed vs,ae,my.abG aZ y4 hn mj (.inl ⟨bq,vs,?_,by rw[kq];exact sv,rfl⟩),w⟩;rw[gx];exact .cons h6 t1 (.cons k8 t2 (.stop hq t3))
  ·exact w.elim
 have hp:tE P fn.ntmps d.vars d.pre (args++List.replicate (d.vars.length-args.length) b0) h true bq ae:=by
  rw[gx];exact .cons h6 t1 (.cons k8 t2 (.cons hq t3 .nil))
 obtain⟨cm,cb⟩:=agC hA;have Lv:∀ ts:ar,(kX ts [(5,0)] bq)[2]?=some (fQ gt)∧(kX ts [(5,0)] bq)[3]?=some (fQ eS):=fun ts=>by
  rw[Ik ts 2 _ _ (by simp),Ik ts 3 _ _ (by simp)];exact⟨cm,cb⟩
 obtain⟨tx,aB,Ee,_,w⟩:=lH.sound w;have tt:∀ {jB:ar}{v:Value}{D:J},wq P fn.ntmps d.vars d.rest bq ae v D jB→kA.rm ⟨IG hL gt eS Q,F,true⟩ v D→jB[2]?=some (fQ gt)→jB[3]?=some (fQ eS)→bj P f args h Q:=by
  intro jB v D hr aN cS tu;obtain⟨e,l,arJ,arM,rfl,g1,g2,dZ⟩:=aN 0;rw[J.ao8]at g1 g2 dZ;exact⟨packed [I e,I l],_,my.alA (cl:=b0) aZ GV hn mj hp (by rw[Y9];exact hA) hr cH aK g1 g2 (by rw[kq];exact ap7 cH g1 g2 cS tu),dZ⟩
 rcases lH.mU w with⟨Eu,aG,cn,_,w⟩|⟨v,D,cn,aN⟩
 ·rcases lH.mU w with⟨atI,a1,bM,_,w⟩|⟨v,D,bM,aN⟩
  ·obtain⟨x7,e7,bN,t7,af,w⟩:=W.sound w;unfold cu at w;split at w
   ·rename_i vs sv;refine⟨packed vs,bN,my.abG aZ y4 hn mj (.inr ⟨iW,bq,ae,e7,_,x7,vs,hp,by rw[Y9];exact hA,?_,af,by rw[kq];exact sv,rfl⟩),w⟩;rw[oL];exact(eu.aW Ee).seq ((eu.aW cn).seq ((eu.aW bM).seq t7))
   ·exact w.elim
  ·refine tt (by rw[oL];exact .next Ee (.next cn (.here bM))) aN ?_ ?_
   ·exact(Lv tx).1
   ·exact(Lv tx).2
 ·refine tt (by rw[oL];exact .next Ee (.here cn)) aN ?_ ?_
  ·exact(Lv tx).1
  ·exact(Lv tx).2
end Go.Eng
namespace Go.Eng.Sy
open Go Go.Eng Go.Proofs
def ql{c1:Type}(x:List Tok→PR c1)(s:aD):PR c1 :=
 if(jc s).2.1≠0 then .bad (jc s).2.1 (jc s).2.2 else(x (jc s).1).bind fun a r=>(im 5 r).bind fun _ r=>.ok a r
theorem adb{s:aD}(h:(jc s).2.1=0):(∃ a e,(jc s).1=a++[e]∧e.kind=5)∧(jc s).1.length≤100000∧(jc s).2.2=0:=by
 unfold jc at h ⊢;split
 ·rename_i T;rw[if_pos T]at h;cases h
 ·rename_i T;rw[if_neg T]at h;split
  ·refine⟨⟨_,_,rfl,rfl⟩,?_,rfl⟩;have A:=MC (s.length+1) (skip false s 1).1 (skip false s 1).2;have S:=sL false s 1;have ae:(rY s).1.length≤(skip false s 1).1.length:=A;simp;omega
  ·rename_i ak;rw[if_neg ak]at h;cases h
def M7{c1:Type}(x:List Tok→PR c1)(V:Nat→J→c1→ar→Prop)(du:Value)(c:Nat)(z:ar):Prop :=
 ∀(R:aT) (l:List Tok) (A:J) (q:Nat),eo A q l→c≠q→A.get c=some (.aq z true)→∀ {post:Prop},post→∀ gA:aT,
  (∀ a r,x l=.ok a r→∀ cells D,(∀ i,i≠q→i≠c→(A.get i).isSome=true→D.get i=A.get i)→A.next≤D.next→eo D q r→D.get c=some (.aq cells true)→V A.next D a cells→gA (.tuple #[]) D) →
  (∀ e line,x l=.bad e line→∀ D,A.b2 q D→R (xS e line) D)→x l≠.out→EN (PR:=iS R) Tryz.prog du [aH q 0] A post gA
theorem aeA{c1:Type}{x:List Tok→PR c1}{V:Nat→J→c1→ar→Prop}{du:Value}{c:Nat}{z:ar}(eY:M7 x V du c z)
  (s7:∀ n h D a cells,(∀ id cs own,n≤id→h.get id=some (.aq cs own)→D.get id=some (.aq cs own))→V n h a cells→V n D a cells) (af:∀ l,x l≠.out){s:aD}{h:J}(aj:h.get c=some (.aq z true)) (Q:aT)
  (c6:∀ a r,ql x s=.ok a r→∀ cells n D,(∀ i,i≠c→(h.get i).isSome=true→D.get i=h.get i)→h.next≤n→h.next≤D.next→D.get c=some (.aq cells true)→V n D a cells→Q (.tuple #[I 0,I 0]) D)
  (ho:∀ e l,ql x s=.bad e l→∀ D,(∀ i,i≠c→(h.get i).isSome=true→D.get i=h.get i)→h.next≤D.next→Q (.tuple #[I e,I l]) D) :
  bj Tryz.prog 28 [str s,du] h Q:=by
 obtain⟨bO,A,lK,gO,dV,bt⟩:=b9 h [I 0];obtain⟨b5,S,s1,jz,hz,dh⟩:=b9 A [I 0];have Ro:=dh.get dV;have y5:=J.bY aj;have eN:=(bt.trans dh).get aj;have hk:=bt.trans dh;have hj:=J.bY dV;have n23:bO≠b5:=by omega
 have arB:(b5==bO)=false:=by simp;omega
 have la:h.next≤bO:=by omega
 have p4:h.next≤b5:=by omega
 have Bk:=J.bY hz;clear bt dh dV;replace eY:=U eY;replace s7:=U s7;replace af:=U af;replace aj:=U aj;replace c6:=U c6;replace ho:=U ho;replace hk:=U hk;replace eN:=U eN;replace y5:=U y5;replace n23:=U n23;replace la:=U la;replace p4:=U p4;replace Bk:=U Bk;refine agA anQ ap9 (agJ ap8) rfl rfl rfl rfl rfl rfl rfl rfl rfl (F:=abU) fun N=>?_;show W (PR:=vL) Tryz.prog N [0,1,4,5,6,7] VF _ [str s,du,b0,b0,b0,b0] h;delta VF aep;simp only[aa, *];delta aeq aer;simp only[aa, *];refine af7 (l:=s) S (.refl _) _ fun v ae rH DM=>?_;obtain⟨e,aK⟩:∃ e,(jc s).2.1=e:=⟨_,rfl⟩;obtain⟨m,hm⟩:∃ e,(jc s).2.2=e:=⟨_,rfl⟩;rw[aK,hm];have g2:=DM.get Ro;have g3:=DM.get hz;have pv:gN v:=cL.e6 (cL.wc (h0:=km S.next) (br _) rH);have fr:=(gN.cell pv).2;have uL:cz 1 ae [aH bO 0,I e]=some (b0,ae.set bO (.aq [I e] true)):=iU (off:=0) g2 (by simp) rfl rfl;have yO:=J.gz ae (.aq [I e] true) bO (by rw[g2];rfl);have yP:=(J.dT ae (.aq [I e] true) bO b5 (by simp;exact fun e=>n23.h e.symm)).trans g3;obtain⟨aB,cV⟩:∃ y,ae.set bO (.aq [I e] true)=y:=⟨_,rfl⟩;rw[cV]at uL yO yP;have MJ:cz 1 aB [aH b5 0,I m]=some (b0,aB.set b5 (.aq [I m] true)):=iU (off:=0) yP (by simp) rfl rfl;have KG:=J.gz aB (.aq [I m] true) b5 (by rw[yP];rfl);have AH:=(J.dT aB (.aq [I m] true) b5 bO (by simpa using n23.h)).trans yO;obtain⟨aG,h2⟩:∃ y,aB.set b5 (.aq [I m] true)=y:=⟨_,rfl⟩;rw[h2]at MJ AH KG
 -- what vd arD of h
 have dG:∀ i,i<S.next→i≠bO→i≠b5→(S.get i).isSome=true→aG.get i=S.get i:=fun i _ a b ak=>by
  rw[← h2,J.dT _ _ _ _ (by simpa using b),← cV,J.dT _ _ _ _ (by simpa using a)];exact DM.pf i ak
 have jI:ae.next=aG.next:=by rw[← h2,← cV];rfl
 have Dz:cL (km S.next) aG 4 v ((jc s).1.map Tok.cells):=(cL.wc (h0:=km S.next) (br _) rH).get fun id ad ak=>by
  have A:S.next≤id:=((cL.wc (h0:=km S.next) (br _) rH).EW id _ _ ad).1;have h0:=Bk.h;have aB:bO<S.next:=J.bY Ro;rw[← h2,J.dT _ _ _ _ (by simp;omega),← cV,J.dT _ _ _ _ (by simp;omega)]
 have zx:∀ i,(h.get i).isSome=true→aG.get i=h.get i:=fun i ak=>by
  obtain⟨o,ah⟩:=r1.1 ak;have A:=J.bY ah;have pg:=hk.h.get ah;rw[dG i (by have:=hk.h.next;omega) (by have:=la.h;omega) (by have:=p4.h;omega) (by rw[pg];rfl),pg,ah]
 have ik:h.next≤aG.next:=by have:=hk.h.next;have:=DM.next;omega
 have Zv:S.next≤aG.next:=by have:=DM.next;omega
 clear g2 g3 yO yP cV h2 DM rH jI dG Ro hz;replace Dz:=U Dz;replace zx:=U zx;replace ik:=U ik;replace pv:=U pv;replace Zv:=U Zv;replace aK:=U aK;replace hm:=U hm;simp only[aa,bh, *];delta aes aet aeu;by_cases De:e=0
 ·subst De;have bk:((0:Int) != 0)=false:=rfl;obtain⟨K5,aR,Bc⟩:=adb aK.h;rw[hm.h]at Bc;subst Bc;have hS:ql x s=(x (jc s).1).bind fun a r=>(im 5 r).bind fun _ r=>.ok a r:=by unfold ql;rw[aK.h,if_neg (by simp)]
  obtain⟨gh,ahM⟩:∃ gh,(jc s).1=gh:=⟨_,rfl⟩;rw[ahM]at hS K5 aR Dz;have Ly:=af.h gh;replace K5:=U K5;replace aR:=U aR;replace hS:=U hS;replace Ly:=U Ly;simp only[aa,aw,av,ay, *];refine .inr ⟨bO,b5,I 0,n23.h,rfl,AH,?_⟩;delta aev;have asT:=(gN.cell pv.h).1;have asS:=fr;obtain⟨q,a1,eq,iV,dY,gk⟩:=b9 aG [v];have sX:nB [.agg #[v]]=some ([v],fun id=>(aH id 0)):=by
   obtain⟨_,_,_,rfl⟩:=pv.h;rfl
  have mA:gQ [bx] [(0,1)] [v]=some (.agg #[v]):=by
   obtain⟨_,_,_,rfl⟩:=pv.h;rfl
  have oV:eo a1 q gh:=⟨⟨v,dY,(gN.cell pv.h).2,dH.to (fun id cs own _ aA=>⟨by have:=J.bY aA;omega,gk.get aA⟩) (cL.oY Dz.h)⟩,aR.h,K5.h⟩;have mH:aG.get c=some (.aq z true):=by rw[zx.h c (by rw[aj.h];rfl)];exact aj.h
  have hg:=gk.get mH;have p0:c≠q:=by have:=y5.h;have:=ik.h;omega
  have wP:=gk.get AH;have wQ:=gk.get KG;have gb:=J.bY dY;have ash:=J.bY AH;have asi:=J.bY KG;have ol:∀ i,(h.get i).isSome=true→a1.get i=h.get i:=fun i ak=>by rw[gk.pf i (by rw[zx.h i ak];exact ak)];exact zx.h i ak
  have h7:h.next≤a1.next:=by have:=ik.h;have:=gk.next;omega
  have ET:∀(e l:Int) (cp:J),ql x s=.bad e l→(∀ i,i≠c→(h.get i).isSome=true→cp.get i=h.get i)→h.next≤cp.next→(∃ a,cp.get bO=some (.aq [a] true))→(∃ b,cp.get b5=some (.aq [b] true))→IG MS bO b5 Q (xS e l) cp:=fun e l cp T ab Zy ⟨a,jE⟩ ⟨b,jQ⟩ =>
   ⟨e,l,a,b,rfl,jE,jQ,ho.h e l T _ (fun i au ak=>by
    have lp:i<h.next:=by obtain⟨o,ah⟩:=r1.1 ak;exact J.bY ah
    unfold nV;rw[J.dT _ _ _ _ (by have:=p4.h;simp;omega),J.dT _ _ _ _ (by have:=la.h;simp;omega),J.oH (by omega)];exact ab i au ak) (by unfold nV;simp;omega)⟩
  have D2:bO≠q:=by omega
  have D3:b5≠q:=by omega
  have qT:h.next≤q:=by have:=ik.h;omega
  have L8:bO≠c:=by have:=y5.h;have:=la.h;omega
  have L9:b5≠c:=by have:=y5.h;have:=p4.h;omega
  replace oV:=U oV;replace hg:=U hg;replace p0:=U p0;replace ol:=U ol;replace h7:=U h7;replace ET:=U ET;replace gk:=U gk;replace wP:=U wP;replace wQ:=U wQ;replace gb:=U gb;replace D2:=U D2;replace D3:=U D3;replace qT:=U qT;replace L8:=U L8;replace L9:=U L9;clear mH Dz zx ik aj eN;simp only[aa, *];delta aew;simp only[aa,afe, *];refine eY.h _ gh a1 q oV.h p0.h hg.h (by simp[e0,K.cD,K.dF];repeat (first|exact rfl|exact⟨_,rfl⟩|refine⟨_,rfl,?_⟩|refine⟨rfl,?_⟩)) _ (fun a r Z7 cells bN iF rO lD va IL=>?_) (fun e l akc D df=>ET.h e l D (by rw[hS.h,akc];rfl) (fun i au ak=>by
   have lp:i<h.next:=by obtain⟨o,ah⟩:=r1.1 ak;exact J.bY ah
   rw[df.get i (by have:=qT.h;omega) (by rw[ol.h i ak];exact ak),ol.h i ak]) (rI h7.h df.next) ⟨_,df.bP D2.h wP.h⟩ ⟨_,df.bP D3.h wQ.h⟩) Ly.h
  have jE:(x gh).bind (fun a r=>(im 5 r).bind fun _ r=>.ok a r)=(im 5 r).bind fun _ r=>.ok a r:=by rw[Z7];rfl
  have AI:bN.get bO=some (.aq [I 0] true):=by rw[iF bO D2.h L8.h (by rw[wP.h];rfl)];exact wP.h
  have AJ:bN.get b5=some (.aq [I 0] true):=by rw[iF b5 D3.h L9.h (by rw[wQ.h];rfl)];exact wQ.h
  have uu:∀ i,i≠c→(h.get i).isSome=true→bN.get i=h.get i:=fun i au ak=>by
   have lp:i<h.next:=by obtain⟨o,ah⟩:=r1.1 ak;exact J.bY ah
   rw[iF i (by have:=qT.h;omega) au (by rw[ol.h i ak];exact ak),ol.h i ak]
  clear eY oV Z7;replace iF:=U iF;replace rO:=U rO;replace lD:=U lD;replace va:=U va;replace IL:=U IL;replace uu:=U uu;replace jE:=U jE;replace AI:=U AI;replace AJ:=U AJ;simp only[aa, *];delta aex;simp only[aa,dX, *];refine TQ lD.h 5 (by simp[e0,K.cD,K.dF];repeat (first|exact rfl|exact⟨_,rfl⟩|refine⟨_,rfl,?_⟩|refine⟨rfl,?_⟩)) _ (fun ab b7 cq _=>?_) (fun ab D df=>ET.h tM _ D (by rw[hS.h,jE.h];unfold im;rw[if_neg ab];rfl) (fun i au ak=>by
   have lp:i<h.next:=by obtain⟨o,ah⟩:=r1.1 ak;exact J.bY ah
   rw[df.get i (by have:=qT.h;omega) (by rw[uu.h i au ak];exact ak),uu.h i au ak]) (rI (rI h7.h rO.h) df.next) ⟨_,df.bP D2.h AI.h⟩ ⟨_,df.bP D3.h AJ.h⟩)
  have Yr:ql x s=.ok a r:=by rw[hS.h,jE.h];unfold im;rw[if_pos ab,if_pos rfl];rfl
  have YC:=cq.bP D2.h AI.h;have ai4:=cq.bP D3.h AJ.h;have AL:=cq.bP p0.h va.h;have uL:cz 1 b7 [aH bO 0,I 0]=some (b0,b7.set bO (.aq [I 0] true)):=iU (off:=0) YC (by simp) rfl rfl;have cS:=J.gz b7 (.aq [I 0] true) bO (by rw[YC];rfl);have tu:=(J.dT b7 (.aq [I 0] true) bO b5 (by simp;exact fun e=>n23.h e.symm)).trans ai4;have cj:=(J.dT b7 (.aq [I 0] true) bO c (by simp;exact fun e=>L8.h e.symm)).trans AL;obtain⟨dE,e9⟩:∃ y,b7.set bO (.aq [I 0] true)=y:=⟨_,rfl⟩;rw[e9]at uL cS tu cj;have MJ:cz 1 dE [aH b5 0,I 0]=some (b0,dE.set b5 (.aq [I 0] true)):=iU (off:=0) tu (by simp) rfl rfl;have aoQ:=J.gz dE (.aq [I 0] true) b5 (by rw[tu];rfl);have aoP:=(J.dT dE (.aq [I 0] true) b5 bO (by simpa using n23.h)).trans cS;have acd:=(J.dT dE (.aq [I 0] true) b5 c (by simp;exact fun e=>L9.h e.symm)).trans cj;obtain⟨dW,yD⟩:∃ y,dE.set b5 (.aq [I 0] true)=y:=⟨_,rfl⟩;rw[yD]at MJ aoQ aoP acd;have GF:dW.next=b7.next:=by rw[← yD,← e9];rfl
  have px:∀ i,i≠bO→i≠b5→dW.get i=b7.get i:=fun i a b=>by rw[← yD,J.dT _ _ _ _ (by simpa using b),← e9,J.dT _ _ _ _ (by simpa using a)]
  have g:=c6.h a r Yr cells a1.next dW (fun i au ak=>by
   have lp:i<h.next:=by obtain⟨o,ah⟩:=r1.1 ak;exact J.bY ah
   have kB:=la.h;have qt:=p4.h;rw[px i (by omega) (by omega),cq.get i (by have:=qT.h;omega) (by rw[uu.h i au ak];exact ak),uu.h i au ak]) h7.h (by have dP:=h7.h;have a2:=rO.h;have a3:=cq.next;omega) acd (s7.h _ _ _ _ _ (fun id cs own cQ aA=>by
    have dP:=gb.h;have a2:=gk.h.next;rw[px id (by omega) (by omega)];exact cq.bP (by omega) aA) IL.h)
  replace g:=Hid.mk g;clear c6 ho s7 af Ly hS jE iF rO lD va IL uu ET ol cq px GF yD e9 Yr ab AI AJ;simp only[aa, *];delta aez aey;simp only[aa,aw,bh,hF,l7.get,packed, *];exact⟨.inr trivial,g.h⟩
 ·have bk:(e != 0)=true:=by simpa using De
  have pH:cz 1 aG [aH bO 0,I e]=some (b0,aG.set bO (.aq [I e] true)):=iU (off:=0) AH (by simp) rfl rfl;have wQ:=(J.dT aG (.aq [I e] true) bO b5 (by simp;exact fun e=>n23.h e.symm)).trans KG;have wP:=J.gz aG (.aq [I e] true) bO (by rw[AH];rfl);have aaM:=Hid.mk (J.b2.set bO aG (.aq [I e] true));have TN:∀ i,(h.get i).isSome=true→(aG.set bO (.aq [I e] true)).get i=h.get i:=fun i ak=>by
   have:i<h.next:=by obtain⟨o,ah⟩:=r1.1 ak;exact J.bY ah
   rw[J.dT _ _ _ _ (by have:=la.h;simp;omega)];exact zx.h i ak
  have h7:(aG.set bO (.aq [I e] true)).next=aG.next:=rfl;obtain⟨a1,hH⟩:∃ y,aG.set bO (.aq [I e] true)=y:=⟨_,rfl⟩;rw[hH]at pH wQ wP aaM TN h7;have tw:cz 1 a1 [aH b5 0,I m]=some (b0,a1.set b5 (.aq [I m] true)):=iU (off:=0) wQ (by simp) rfl rfl;have AJ:=J.gz a1 (.aq [I m] true) b5 (by rw[wQ];rfl);have AI:=(J.dT a1 (.aq [I m] true) b5 bO (by simpa using n23.h)).trans wP;have uu:∀ i,(h.get i).isSome=true→(a1.set b5 (.aq [I m] true)).get i=h.get i:=fun i ak=>by
   have:i<h.next:=by obtain⟨o,ah⟩:=r1.1 ak;exact J.bY ah
   rw[J.dT _ _ _ _ (by have:=p4.h;simp;omega)];exact TN i ak
  have vo:(a1.set b5 (.aq [I m] true)).next=a1.next:=rfl;obtain⟨bN,e7⟩:∃ y,a1.set b5 (.aq [I m] true)=y:=⟨_,rfl⟩;rw[e7]at tw AJ AI uu vo;have g:=ho.h e m (by unfold ql;rw[aK.h,hm.h,if_pos De]) bN (fun i _ ak=>uu i ak) (by have:=ik.h;omega);replace g:=Hid.mk g;clear eY s7 af c6 ho zx ik Dz h7 vo TN uu hH e7 De;simp only[aa,aw,bh,av,ay, *];refine jt aaM.h ?_;simp only[aa,aw,bh, *];simp only[aa,aw,hF,l7.get,packed, *];exact .inl g.h
def jg(P:Int→Int→Prop)(l:List Tok):Prop:=(∃ a e,l=a++[e]∧e.kind=5)∧∀ t∈l,P 70 t.line
def jM{c1:Type}(P:Int→Int→Prop)(x:PR c1):Prop:=(∀ e m,x=.bad e m→P e m)∧∀ a r,x=.ok a r→jg P r
section
variable {P:Int→Int→Prop}
theorem jg.tail{l:List Tok}(h:jg P l)(ab:(hd l).kind≠5):jg P l.tail:=⟨Q6 h.1 ab,fun t aC=>h.2 t (List.mem_of_mem_tail aC)⟩
theorem jg.hd{l:List Tok}(h:jg P l):P 70 (Sy.hd l).line:=h.2 _ (List.mem_of_getElem? (KZ h.1))
theorem jg.o0{l:List Tok}{s:aD}(h:jg P l)(ab:dk s (Sy.hd l)=true):jg P l.tail:=h.tail (iZ ab)
theorem jM.bind{c1 l5:Type}{x:PR c1}{g:c1→List Tok→PR l5}(af:jM P x)(aA:∀ a r,jg P r→jM P (g a r)):jM P (x.bind g):=by
 cases x with
 |ok a r=>exact aA a r (af.2 a r rfl)
 |bad e m=>exact⟨fun cA m' h=>(by cases h;exact af.1 e m rfl),fun a r h=>by cases h⟩
 |out=>exact⟨fun cA m' h=>(by cases h),fun a r h=>(by cases h)⟩
theorem jM.ok{c1:Type}{a:c1}{r:List Tok}(h:jg P r):jM P (.ok a r:PR c1):=⟨fun _ _ h=>(by cases h),fun a r D=>(by cases D;exact h)⟩
theorem jM.bad{c1:Type}{e m:Int}(h:P e m):jM P (.bad e m:PR c1):=⟨fun _ _ D=>(by cases D;exact h),fun a r D=>(by cases D)⟩
theorem jM.out{c1:Type}:jM P (.out:PR c1):=⟨fun _ _ D=>(by cases D),fun a r D=>(by cases D)⟩
theorem uz{s:aD}{l:List Tok}(h:jg P l):jM P (mP s l):=by
 unfold mP;split
 ·rename_i T;exact .ok (h.o0 T)
 ·exact .bad h.hd
theorem q0{k:Int}{l:List Tok}(h:jg P l):jM P (im k l):=by
 unfold im;split
 ·rename_i T;split
  ·exact .ok h
  ·rename_i aG;exact .ok (h.tail (by omega))
 ·exact .bad h.hd
variable (bg:P 71 1)
include bg
theorem H2:∀ f:Nat,(∀ deep l,jg P l→jM P (nT f deep l))∧(∀ dz deep l,jg P l→jM P (lB f dz deep l))∧(∀ x dz deep l,jg P l→jM P (qc f x dz deep l))
 |0=>⟨fun _ _ _=>by rw[nT];exact .out,fun _ _ _ _=>by rw[lB];exact .out,fun _ _ _ _ _=>by rw[qc];exact .out⟩
 |f+1=>by
  obtain⟨A,S,ae⟩:=H2 f;refine⟨fun deep l h=>?_,fun dz deep l h=>?_,fun x dz deep l h=>?_⟩
  ·rw[nT];split
   ·exact .bad bg
   ·split
    ·rename_i hu;exact(A _ _ (h.tail (zP (n:=15) (k:=3) hu))).bind fun _ r hr=>.ok hr
    ·split
     ·rename_i T;exact(S _ _ _ (h.o0 T)).bind fun _ r hr=>(uz hr).bind fun _ r hr=>.ok hr
     ·split
      ·rename_i ab;exact .ok (h.tail (by omega))
      ·split
       ·exact .bad h.hd
       ·rename_i ab;have aC:=h.tail (by omega);split
        ·rename_i T;exact(S _ _ _ (aC.o0 T)).bind fun _ r hr=>(uz hr).bind fun _ r hr=>.ok hr
        ·exact .ok aC
  ·rw[lB];exact(A _ _ h).bind fun _ r hr=>ae _ _ _ _ hr
  ·rw[qc];split
   ·exact .ok h
   ·rename_i ak;have h0:binOp (hd l)≠0:=fun bp=>ak (.inl (by rw[bp];rfl));exact(S _ _ _ (h.tail (zP (n:=1) (k:=14) h0))).bind fun _ r hr=>ae _ _ _ _ hr
theorem UL{f deep:Nat}{k n:Int}{m:aD}{xs:List aX}{l:List Tok}(h:jg P l):jM P (tq f deep k m n xs l):=by
 unfold tq;refine(uz h).bind fun _ r hr=>?_;split
 ·exact(q0 hr).bind fun _ r hr=>(uz hr).bind fun _ r hr=>(q0 hr).bind fun _ r hr=>.ok hr
 ·exact((H2 bg f).2.1 _ _ _ hr).bind fun _ r hr=>.ok hr
theorem alf{f deep:Nat}{m:aD}{l:List Tok}(h:jg P l):jM P (uH f deep m l):=by
 unfold uH;split
 ·rename_i T;exact(q0 (h.o0 T)).bind fun _ r hr=>UL bg hr
 ·split
  ·rename_i T;exact((H2 bg f).2.1 _ _ _ (h.o0 T)).bind fun _ r hr=>(uz hr).bind fun _ r hr=>UL bg hr
  ·exact UL bg h
theorem UW:∀ f:Nat,(∀ deep l,jg P l→jM P (pE f deep l))∧(∀ deep l,jg P l→jM P (jL f deep l))∧(∀ deep l,jg P l→jM P (pF f deep l))
 |0=>⟨fun _ _ _=>by rw[pE];exact .out,fun _ _ _=>by rw[jL];exact .out,fun _ _ _=>by rw[pF];exact .out⟩
 |f+1=>by
  obtain⟨A,S,ae⟩:=UW f;refine⟨fun deep l h=>?_,fun deep l h=>?_,fun deep l h=>?_⟩
  ·rw[pE];split
   ·rename_i T;refine(uz (h.o0 T)).bind fun _ r hr=>((H2 bg f).2.1 _ _ _ hr).bind fun _ r hr=>(uz hr).bind fun _ r hr=>(S _ _ hr).bind fun _ r hr=>?_;split
    ·rename_i dx;exact(S _ _ (hr.o0 dx)).bind fun _ r hr=>.ok hr
    ·exact .ok hr
   ·split
    ·rename_i T;exact(q0 (h.o0 T)).bind fun _ r hr=>(S _ _ hr).bind fun _ r hr=>.ok hr
    ·split
     ·rename_i T;exact(q0 (h.o0 T)).bind fun _ r hr=>(S _ _ hr).bind fun _ r hr=>.ok hr
     ·split
      ·rename_i T;exact(uz (h.o0 T)).bind fun _ r hr=>.ok hr
      ·exact(q0 h).bind fun _ r hr=>(alf bg hr).bind fun _ r hr=>(uz hr).bind fun _ r hr=>.ok hr
  ·rw[jL];refine(uz h).bind fun _ r hr=>?_;split
   ·exact .bad bg
   ·exact ae _ _ hr
  ·rw[pF];split
   ·rename_i T;exact .ok (h.o0 T)
   ·exact(A _ _ h).bind fun _ r hr=>(ae _ _ hr).bind fun _ r hr=>.ok hr
omit bg in
theorem aha{l:List Tok}(h:jg P l):jM P (BU l):=by
 refine(q0 h).bind fun _ r hr=>?_;split
 ·rename_i T;exact .ok (hr.o0 T)
 ·split
  ·rename_i T;exact .ok (hr.o0 T)
  ·split
   ·rename_i T;exact .ok (hr.o0 T)
   ·exact .bad hr.hd
omit bg in
theorem X6:∀(f:Nat) (l:List Tok),jg P l→jM P (oT f l)
 |0,_,_=>by rw[oT];exact .out
 |f+1,l,h=>by
  rw[oT];split
  ·rename_i T;exact(aha (h.o0 T)).bind fun _ r hr=>(X6 f r hr).bind fun _ r hr=>.ok hr
  ·exact .ok h
omit bg in
theorem acJ:∀(f:Nat) (l:List Tok),jg P l→jM P (mS f l)
 |0,_,_=>by rw[mS];exact .out
 |f+1,l,h=>by
  rw[mS];split
  ·rename_i T;exact(q0 (h.o0 T)).bind fun _ r hr=>(q0 hr).bind fun _ r hr=>(acJ f r hr).bind fun _ r hr=>.ok hr
  ·exact .ok h
theorem adW{f:Nat}{b:Bool}{l:List Tok}(h:jg P l):jM P (vR f b l):=by
 refine(q0 h).bind fun _ r hr=>(q0 hr).bind fun _ r hr=>(q0 hr).bind fun _ r hr=>?_;split
 ·exact(q0 hr).bind fun _ r hr=>((UW bg f).2.1 _ _ hr).bind fun _ r hr=>.ok hr
 ·exact((UW bg f).2.1 _ _ hr).bind fun _ r hr=>.ok hr
theorem Vl:∀(f:Nat) (l:List Tok),jg P l→jM P (nu f l)
 |0,_,_=>by rw[nu];exact .out
 |f+1,l,h=>by
  rw[nu];split
  ·rename_i T;exact(adW bg (h.o0 T)).bind fun _ r hr=>(Vl f r hr).bind fun _ r hr=>.ok hr
  ·split
   ·rename_i T;exact(adW bg (h.o0 T)).bind fun _ r hr=>(Vl f r hr).bind fun _ r hr=>.ok hr
   ·exact .ok h
theorem aoI{f:Nat}{l:List Tok}(h:jg P l):jM P (BX f l) :=
 (uz h).bind fun _ r hr=>(q0 hr).bind fun _ r hr=>(X6 f r hr).bind fun _ r hr=>(acJ f r hr).bind fun _ r hr=>(Vl bg f r hr).bind fun _ r hr=>.ok hr
end
theorem ark{c1:Type}{x:List Tok→PR c1}{s:aD}{e m:Int}(af:∀ P:Int→Int→Prop,P 71 1→∀ l,jg P l→jM P (x l)){P:Int→Int→Prop}(ain:P 71 1)(ak:(jc s).2.1≠0→P (jc s).2.1 (jc s).2.2)(aC:(jc s).2.1=0→∀ t∈(jc s).1,P 70 t.line)
  (h:ql x s=.bad e m):P e m:=by
 unfold ql at h;split at h
 ·rename_i h0;cases h;exact ak h0
 ·rename_i h0;have h0:(jc s).2.1=0:=by simpa using h0
  have aA:jg P (jc s).1:=⟨(adb h0).1,aC h0⟩;exact((af P ain _ aA).bind fun a r hr=>(q0 (k:=5) hr).bind fun _ r hr=>.ok (a:=a) hr).1 e m h
theorem aeB{c1:Type}{x:List Tok→PR c1}{s:aD}{e m:Int}(af:∀ P:Int→Int→Prop,P 71 1→∀ l,jg P l→jM P (x l))(h:ql x s=.bad e m):e≠0 :=
 ark (P:=fun e _=>e≠0) af (by decide) (fun h=>h) (fun _ _ _=>by decide) h
end Go.Eng.Sy
namespace Go.Eng
open Go
variable {P:Program}
theorem iM.val[PR:kA]{f:FuncId}{first captured:Array Value}{args:ar}{h:J}{post:Prop}{Q:aT}(aj:iM P f (first.toList++args++captured.toList) h post Q)(s7:PR.V=true):EN P (.func (.func f) first captured) args h post Q :=
 aj.imp bj.val fun⟨_,hp,v,D,A,S⟩=>⟨s7,hp,v,D,A,S⟩
def ad0(k:Nat)(agg:Bool)(size j i:Nat)(Q:aT):dM→ar→J→Prop
 |.exit _,_,_=>False
 |.normal,e,h=>cu e[k]? fun p=>cu (aw (.load agg size) [p] h.get) (Ac Q h e[j]? e[i]?)
 |.ret,e,h=>cu e[k]? fun p=>cu (aw (.load agg size) [p] h.get) (Ac Q h e[j]? e[i]?)
def ad1(agg:Bool)(size:Nat)(Q:aT)(h:J)(o gl:Option Value):Value→Prop:=fun p=>cu (aw (.load agg size) [p] h.get) (Ac Q h o gl)
theorem Ej(k:Nat)(agg:Bool)(size j i:Nat)(Q:aT)(e:ar)(h:J):ad0 k agg size j i Q .ret e h=cu e[k]? (ad1 agg size Q h e[j]? e[i]?):=rfl
theorem Ei(agg:Bool)(size:Nat)(Q:aT)(h:J)(o gl:Option Value)(p:Value):ad1 agg size Q h o gl p=cu (aw (.load agg size) [p] h.get) (Ac Q h o gl):=rfl
theorem XE{f:FuncId}{bm:bB}(aZ:bK P f bm){args:ar}{h:J}{Q:aT}{k j i size:Nat}{agg:Bool}(iW:bm.body.cX=true)(hr:bm.results=[.cell k agg size,.var j,.var i])(hn:args.length=bm.iH)
  (T:∀ N,W P N bm.vars bm.body (ad0 k agg size j i Q) (kn bm args) h):bj P f args h Q:=by
 refine Av aZ hn fun N=>W.mono ?_ (T N).sound;intro x e D L;have key:cu e[k]? (fun p=>cu (aw (.load agg size) [p] D.get) (Ac Q D e[j]? e[i]?))→cu (hF e (fin bm.body.cX h.next D) bm.results) fun vs=>Q (packed vs) (fin bm.body.cX h.next D):=by
  intro L;rw[iW,hr];cases aK:e[k]? with
  |none=>rw[aK]at L;exact L.elim
  |some v =>
   rw[aK]at L;simp only[cu]at L;cases ad:aw (.load agg size) [v] D.get with
   |none=>rw[ad]at L;exact L.elim
   |some w =>
    rw[ad]at L;simp only[Ac]at L;cases hu:e[j]? with
    |none=>rw[hu]at L;exact L.elim
    |some u =>
     cases aC:e[i]? with
     |none=>rw[hu,aC]at L;exact L.elim
     |some t=>rw[hu,aC]at L;simpa[hF,l7.get,aK,hu,aC,ad,cu,packed,fin] using L
 cases x with
 |exit i=>exact L.elim
 |normal=>exact key L
 |ret=>exact key L
end Go.Eng
namespace Go.Eng.Sy
open Go Go.Eng Go.Proofs
theorem eo.adq{h:J}{q c:Nat}{l:List Tok}{z:ar}(hr:eo h q l)(g:h.get c=some (.aq z true))(bp:∀(off:Nat) (k n:Int) (t:aD),¬(z[off]?=some (I k)∧z[off+1]?=some (str t)∧z[off+2]?=some (I n)))(p0:c≠q)(o:bQ):eo (h.set c o) q l:=by
 obtain⟨⟨v,A,S,ae⟩,aB,aG⟩:=hr;refine⟨⟨v,by rw[J.dT _ _ _ _ (by simp;exact fun e=>p0 e.symm)];exact A,S,?_⟩,aB,aG⟩;have h0:=KZ aG;rcases ae with ae|⟨id,off,ad,ai⟩
 ·exact .inl ae
 ·refine .inr ⟨id,off,ad,?_⟩;rcases ai with ai|⟨T,cells,own,aA,af⟩
  ·exact .inl ai
  ·refine .inr ⟨T,cells,own,?_,af⟩;rw[J.dT _ _ _ _ ?_]
   ·exact aA
   ·simp only[beq_eq_false_iff_ne,ne_eq];intro e;subst e;rw[g]at aA;cases aA;obtain⟨_,ag,aC⟩:=af 0 (Sy.hd l).cells (by rw[NA,h0];rfl);have eI:∀ j,j<4→z[off+j]?=(Sy.hd l).cells[j]?:=fun j bn=>by
     rw[← aC,List.getElem?_take,if_pos bn,Nu];simp
    exact bp off (Sy.hd l).kind (Sy.hd l).n (Sy.hd l).text ⟨eI 0 (by omega),eI 1 (by omega),eI 2 (by omega)⟩
theorem arw(off:Nat)(k n:Int)(t:aD):¬(uQ[off]?=some (I k)∧uQ[off+1]?=some (str t)∧uQ[off+2]?=some (I n)):=by
 rintro⟨a,b,c⟩
 match off,a,b,c with
 |0,_,b,_=>simp[str]at b
 |1,a,_,_=>simp at a
 |2,a,_,_=>simp at a
 |3,a,_,_=>simp at a
 |off+4,a,_,_=>simp at a
theorem arv(off:Nat)(k n:Int)(t:aD):¬(uP[off]?=some (I k)∧uP[off+1]?=some (str t)∧uP[off+2]?=some (I n)):=by
 rintro⟨a,b,c⟩
 match off,a,b,c with
 |0,_,b,_=>simp[str]at b
 |1,_,b,_=>simp[str]at b
 |2,_,_,c=>simp at c
 |3,a,_,_=>simp at a
 |4,a,_,_=>simp at a
 |off+5,a,_,_=>simp at a
def Eb(k:Nat)(l:List Tok):PR gS:=BX (max k (3*l.length+1)) l
def CM(k:Nat)(l:List Tok):PR aX:=lB (max k (3*l.length+2)) 1 1 l
theorem aoc(k c:Nat):M7 (Eb k) (fun n h p cells=>nf n h p (.agg cells.toArray)) (.func (.func 31) #[] #[aH c 0]) c uQ:=by
 intro R l A q rd p0 aj post fB gA c6 ho cH;refine iM.val (PR:=iS R) ?_ rfl;show iM (PR:=iS R) Tryz.prog 31 [aH q 0,aH c 0] A post gA;replace rd:=U rd;replace p0:=U p0;replace aj:=U aj;replace ho:=U ho;replace cH:=U cH;have L:=c6;clear c6;refine E4 amM (by rfl) rfl fB rfl rfl fun N=>?_;rw[show kn Pp [aH q 0,aH c 0]=[aH q 0,aH c 0] from rfl];delta Pp;replace L:=U L;simp only[aa,dX, *];refine aoK (f:=max k (3*l.length+1)) rd.h (by simp[e0,K.cD,K.dF];repeat (first|exact rfl|exact⟨_,rfl⟩|refine⟨_,rfl,?_⟩|refine⟨rfl,?_⟩)) _ ⟨fun p r hp v S l2 qg ad=>?_,fun e m T D df=>ho.h e m T D df,cH.h⟩;obtain⟨d,dL,t,xs,rfl,ad⟩:=ad;have eN:=l2.bP p0.h aj.h;have cG:=ad.1.e6;have cP:=ad.2.1.e6;have gm:=ad.2.2.1.e6;have bu:cz 4 S [aH c 0,.agg #[I p.bS,d,dL,t]]=some (b0,S.set c (.aq [I p.bS,d,dL,t] true)):=nZ eN rfl rfl rfl (by
  have az:=(gN.cell cG).2;have aL:=(gN.cell cP).2;have bq:=(gN.cell gm).2;simp[az,aL,bq];simp[Value.oneCell'])
 have y5:=J.bY aj.h;have fF:J.cg (fun id=>A.next≤id) (fun id=>A.next≤id) S (S.set c (.aq [I p.bS,d,dL,t] true)):=J.lf _ fun id T=>⟨by have T:A.next≤id:=T;omega,T⟩;have g:=L.h p r hp [I p.bS,d,dL,t] (S.set c (.aq [I p.bS,d,dL,t] true)) (fun i a b ak=>by
  rw[J.dT _ _ _ _ (by simpa using b)];exact l2.get i a ak) l2.next (qg.adq eN arw p0.h _) (J.gz _ _ _ (by rw[eN];rfl))
  ⟨d,dL,t,xs,rfl,ad.1.to fF,ad.2.1.to fF,ad.2.2.1.to fF,ad.2.2.2.1.to fF,ad.2.2.2.2⟩
 replace g:=Hid.mk g;clear L ho ad l2 qg fF rd;simp only[aa,bh, *];exact g.h
theorem ahQ(k c:Nat):M7 (CM k) (fun n h e cells=>gR (fun id=>n≤id) h e cells) (.func (.func 29) #[] #[aH c 0]) c uP:=by
 intro R l A q rd p0 aj post fB gA c6 ho cH;refine iM.val (PR:=iS R) ?_ rfl;show iM (PR:=iS R) Tryz.prog 29 [aH q 0,aH c 0] A post gA;replace rd:=U rd;replace p0:=U p0;replace aj:=U aj;replace ho:=U ho;replace cH:=U cH;have L:=c6;clear c6;refine E4 amK (by rfl) rfl fB rfl rfl fun N=>?_;rw[show kn Pn [aH q 0,aH c 0]=[aH q 0,aH c 0] from rfl];delta Pn;replace L:=U L;simp only[aa,dX, *];refine Kw (max k (3*l.length+2)) _ 1 1 _ _ _ rd.h (by simp[e0,K.cD,K.dF];repeat (first|exact rfl|exact⟨_,rfl⟩|refine⟨_,rfl,?_⟩|refine⟨rfl,?_⟩)) _ ⟨fun p r hp v S l2 qg ⟨x,ev,af⟩=>?_,fun e m T D df=>ho.h e m T D df,cH.h⟩;subst ev;have eN:=l2.bP p0.h aj.h;have bu:cz 5 S [aH c 0,.agg x.toArray]=some (b0,S.set c (.aq x true)):=nZ eN (by simp[Value.cells]) af.ea.1 rfl af.ea.2;have y5:=J.bY aj.h;have fF:J.cg (fun id=>A.next≤id) (fun id=>A.next≤id) S (S.set c (.aq x true)):=J.lf _ fun id T=>⟨by have T:A.next≤id:=T;omega,T⟩;have g:=L.h p r hp x (S.set c (.aq x true)) (fun i a b ak=>by
  rw[J.dT _ _ _ _ (by simpa using b)];exact l2.get i a ak) l2.next (qg.adq eN arv p0.h _) (J.gz _ _ _ (by rw[eN];rfl)) (af.to fF)
 replace g:=Hid.mk g;clear L ho af l2 qg fF rd;simp only[aa,bh, *];exact g.h
theorem aoH(k:Nat)(l:List Tok):Eb k l≠.out:=aoJ (by omega)
theorem ahS(k:Nat)(l:List Tok):CM k l≠.out:=(H3 _).2.1 _ _ _ (by omega)
theorem aoG(k:Nat)(P:Int→Int→Prop)(h:P 71 1)(l:List Tok)(ag:jg P l):jM P (Eb k l):=aoI h ag
theorem ahR(k:Nat)(P:Int→Int→Prop)(h:P 71 1)(l:List Tok)(ag:jg P l):jM P (CM k l):=(H2 h _).2.1 _ _ _ ag
def xw:gS:=⟨0,[],[],[]⟩
def sH(k:Nat)(s:aD):gS × Int × Int:=match ql (Eb k) s with
 |.ok p _=>if mT p then(p,0,0) else(xw,71,1)
 |.bad e m=>(xw,e,m)
 |.out=>(xw,0,0)
def s4(k:Nat)(s:aD):aX × Int × Int:=match ql (CM k) s with
 |.ok x _=>if fu x 30 then(x,0,0) else(.mk 0 0 0 [] [],71,1)
 |.bad e m=>(.mk 0 0 0 [] [],e,m)
 |.out=>(.mk 0 0 0 [] [],0,0)
theorem nf.to{n:Nat}{h D:J}{p:gS}{v:Value}(ab:∀ id cs own,n≤id→h.get id=some (.aq cs own)→D.get id=some (.aq cs own))(ad:nf n h p v):nf n D p v:=by
 obtain⟨d,r,t,xs,rfl,A,S,ae,aB,aG⟩:=ad;have fF:J.cg (fun id=>n≤id) (fun id=>n≤id) h D:=fun id cs own T aA=>⟨T,ab id cs own T aA⟩;exact⟨d,r,t,xs,rfl,A.to fF,S.to fF,ae.to fF,aB.to fF,aG⟩
theorem nf.Mr{n:Nat}{h:J}{p:gS}{v:Value}(ad:nf n h p v):∃ d r t,v=.agg #[I p.bS,d,r,t]∧pM h p [I p.bS,d,r,t]∧gN d∧gN r∧gN t:=by
 obtain⟨d,r,t,xs,rfl,A,S,ae,aB,aG,a1,bN⟩:=ad;exact⟨d,r,t,rfl,⟨d,r,t,rfl,⟨A.plain,aG⟩,⟨S.plain,a1⟩,xs,ae.plain,bN,aB.plain⟩,A.e6,S.e6,ae.e6⟩
theorem abw(h:J):pM h xw [I 0,aJ,aJ,aJ]:=⟨aJ,aJ,aJ,rfl,⟨.inl ⟨rfl,rfl⟩,by simp[xw]⟩,⟨.inl ⟨rfl,rfl⟩,by simp[xw]⟩,[],.inl ⟨rfl,rfl⟩,by simp,rfl⟩
def rK(c:Nat)(h D:J):Prop:=(∀ i,i≠c→(h.get i).isSome=true→D.get i=h.get i)∧h.next≤D.next
theorem rK.LX{c:Nat}{h0 h D:J}(l:h0.le h)(aj:h0.next≤c)(k:rK c h D):h0.le D :=
 ⟨fun i o aA=>by
  have A:=l.get aA;have S:=J.bY aA;rw[k.1 _ (by omega) (by rw[A];rfl)];exact A,rI l.next k.2⟩
theorem Ng(k:Nat)(s:aD)(h:J)(Q:aT)
  (L:∀ D x,h.le D→pM D (sH k s).1 x→Q (.tuple #[.agg x.toArray,I (sH k s).2.1,I (sH k s).2.2]) D):bj Tryz.prog 16 [str s] h Q:=by
 obtain⟨bA,A,qF,gO,fA,bt⟩:=b9 h uQ;obtain⟨cx,S,CJ,jz,hf,dh⟩:=b9 A uQ;have j7:=dh.get fA;have n14:bA<cx:=by have:=J.bY fA;omega
 have hk:=bt.trans dh;have mJ:h.next≤bA:=by omega
 have lV:h.next≤cx:=by omega
 have afA:(cx==bA)=false:=by simp;omega
 clear bt dh fA;replace hk:=U hk;replace n14:=U n14;replace mJ:=U mJ;replace lV:=U lV;replace hf:=U hf;refine XE (k:=1) (agg:=true) (size:=4) (j:=2) (i:=3) amr rfl rfl rfl fun N=>?_;rw[gE OD aee rfl];delta OD;replace L:=Hid.mk L;simp only[aa, *];refine aeA (aoc k cx) (fun n a b p cells ab ad=>ad.to ab) (aoH k) hf.h _ (fun p r ax cells n ae cb hq gc g4 ad=>?_) (fun e m ax ae cb gc=>?_)
 ·have aE:h.le ae:=rK.LX hk.h lV.h ⟨cb,gc⟩;have g1:ae.get bA=some (.aq uQ true):=by rw[cb bA (by have:=n14.h;omega) (by rw[j7];rfl)];exact j7
  have wX:=J.bY j7;obtain⟨d,nv,t,yE,GO,cG,cP,gm⟩:=ad.Mr;have yE:cells=[I p.bS,d,nv,t]:=by
   have:=congrArg (fun v=>match v with|.agg a=>a.toList|_=>[]) yE;simpa using this
  subst yE;have bJ:=(gN.cell cG).2;have dl:=(gN.cell cP).2;have fa:=(gN.cell gm).2;clear cb gc j7;replace aE:=U aE;replace ad:=U ad;replace GO:=U GO;replace hq:=U hq;replace ax:=U ax;replace wX:=U wX;simp only[aa,aw,av,ay,rS, *];refine VX GO.h _ fun aG bc=>?_;have g15:=bc.get g1;have ai5:=bc.get g4;have Bo:nf n aG p (.agg #[I p.bS,d,nv,t]):=ad.h.to fun id cs own _ aA=>bc.get aA;have jn:=aE.h.trans bc;cases ul:mT p with
  |true =>
   have gr:sH k s=(p,0,0):=by unfold sH;rw[ax.h];simp[ul]
   have bu:cz 4 aG [aH bA 0,.agg #[I p.bS,d,nv,t]]=some (b0,aG.set bA (.aq [I p.bS,d,nv,t] true)):=nZ g15 rfl rfl rfl (by simp[bJ,dl,fa];simp[Value.oneCell']);have G8:nf n (aG.set bA (.aq [I p.bS,d,nv,t] true)) p (.agg #[I p.bS,d,nv,t]):=Bo.to fun id cs own cQ aA=>by
    rw[J.dT _ _ _ _ (by have:=hq.h;have:=wX.h;simp;omega)];exact aA
   obtain⟨bW,dL,mV,yE,ZG,_⟩:=G8.Mr;cases yE;have g16:=J.gz aG (.aq [I p.bS,d,nv,t] true) bA (by rw[g15];rfl);have aY:h.le (aG.set bA (.aq [I p.bS,d,nv,t] true)):=jn.set mJ.h _;have g:=L.h _ [I p.bS,d,nv,t] aY (by rw[gr];exact ZG);rw[gr]at g;replace g:=Hid.mk g;clear L ad Bo G8 GO ZG jn aY bc aE ax g1 g4;simp only[aa,aw,bh,rS,Ej,Ei,xN, *];exact g.h
  |false =>
   have gr:sH k s=(xw,71,1):=by unfold sH;rw[ax.h];simp[ul]
   have bu:cz 4 aG [aH bA 0,.agg #[I 0,aJ,aJ,aJ]]=some (b0,aG.set bA (.aq [I 0,aJ,aJ,aJ] true)):=nZ g15 rfl rfl rfl rfl;have NJ:gQ [I 0,bx,bx,bx] [] []=some (.agg #[I 0,aJ,aJ,aJ]):=rfl;have g16:=J.gz aG (.aq [I 0,aJ,aJ,aJ] true) bA (by rw[g15];rfl);have aY:h.le (aG.set bA (.aq [I 0,aJ,aJ,aJ] true)):=jn.set mJ.h _;have g:=L.h _ [I 0,aJ,aJ,aJ] aY (by rw[gr];exact abw _);rw[gr]at g;replace g:=Hid.mk g;clear L ad Bo GO jn aY bc aE ax g1 g4;simp only[aa,aw,bh,rS,Ej,Ei,xN, *];exact g.h
 ·have aE:h.le ae:=rK.LX hk.h lV.h ⟨cb,gc⟩;have g1:ae.get bA=some (.aq uQ true):=by rw[cb bA (by have:=n14.h;omega) (by rw[j7];rfl)];exact j7
  have ne:(e != 0)=true:=by simpa using aeB (aoG k) ax
  have gr:sH k s=(xw,e,m):=by unfold sH;rw[ax]
  have bu:cz 4 ae [aH bA 0,.agg #[I 0,aJ,aJ,aJ]]=some (b0,ae.set bA (.aq [I 0,aJ,aJ,aJ] true)):=nZ g1 rfl rfl rfl rfl;have NJ:gQ [I 0,bx,bx,bx] [] []=some (.agg #[I 0,aJ,aJ,aJ]):=rfl;have g16:=J.gz ae (.aq [I 0,aJ,aJ,aJ] true) bA (by rw[g1];rfl);have aY:h.le (ae.set bA (.aq [I 0,aJ,aJ,aJ] true)):=aE.set mJ.h _;have g:=L.h _ [I 0,aJ,aJ,aJ] aY (by rw[gr];exact abw _);rw[gr]at g;replace g:=Hid.mk g;clear L ax cb gc aE aY g1 j7;simp only[aa,aw,bh,av,ay,rS,Ej,Ei,xN, *];exact g.h
abbrev Ui:aX:=.mk 0 0 0 [] []
theorem abv(h:J):iN h Ui [I 0,I 0,I 0,aI,aJ]:=iN.of (iv.nil h)
theorem VM(k:Nat)(s:aD)(h:J)(Q:aT)
  (L:∀ D x,h.le D→iN D (s4 k s).1 x→Q (.tuple #[.agg x.toArray,I (s4 k s).2.1,I (s4 k s).2.2]) D):bj Tryz.prog 14 [str s] h Q:=by
 obtain⟨bA,A,qF,gO,fA,bt⟩:=b9 h uP;obtain⟨cx,S,CJ,jz,hf,dh⟩:=b9 A uP;have j7:=dh.get fA;have n14:bA<cx:=by have:=J.bY fA;omega
 have hk:=bt.trans dh;have mJ:h.next≤bA:=by omega
 have lV:h.next≤cx:=by omega
 have afA:(cx==bA)=false:=by simp;omega
 clear bt dh fA;replace hk:=U hk;replace n14:=U n14;replace mJ:=U mJ;replace lV:=U lV;replace hf:=U hf;refine XE (k:=1) (agg:=true) (size:=5) (j:=2) (i:=3) ame rfl rfl rfl fun N=>?_;rw[gE Om Vv rfl];delta Om;replace L:=Hid.mk L;simp only[aa, *];refine aeA (ahQ k cx) (fun n a b p cells ab ad=>ad.to fun id cs own T aA=>⟨T,ab id cs own T aA⟩) (ahS k) hf.h _ (fun p r ax cells n ae cb hq gc g4 ad=>?_) (fun e m ax ae cb gc=>?_)
 ·have aE:h.le ae:=rK.LX hk.h lV.h ⟨cb,gc⟩;have g1:ae.get bA=some (.aq uP true):=by rw[cb bA (by have:=n14.h;omega) (by rw[j7];rfl)];exact j7
  have wX:=J.bY j7;obtain⟨w,yE,sw⟩:=ad.cells;have bJ:=sw.one;have arU:=yE;subst yE;have ht:=ad.plain;clear cb gc j7;replace aE:=U aE;replace ad:=U ad;replace hq:=U hq;replace ax:=U ax;replace wX:=U wX;replace ht:=U ht;simp only[aa,aw,av,ay,dt, *];refine VN ht.h _ fun aG bc=>?_;have g15:=bc.get g1;have ai5:=bc.get g4;have Bo:gR (fun id=>n≤id) aG p _:=ad.h.to (bc.cg fun id T=>T);have jn:=aE.h.trans bc;clear ht;cases ul:fu p 30 with
  |true =>
   have gr:s4 k s=(p,0,0):=by unfold s4;rw[ax.h];simp[ul]
   have bu:cz 5 aG [aH bA 0,ko p.kind p.op p.n p.name w]=some (b0,aG.set bA (.aq [I p.kind,I p.op,I p.n,str p.name,w] true)):=nZ g15 rfl rfl rfl (by simp[bJ];simp[Value.oneCell']);have G8:gR (fun id=>n≤id) (aG.set bA (.aq [I p.kind,I p.op,I p.n,str p.name,w] true)) p _:=Bo.to (J.lf _ fun id T=>⟨by have T:n≤id:=T;have:=hq.h;have:=wX.h;omega,T⟩);have g16:=J.gz aG (.aq [I p.kind,I p.op,I p.n,str p.name,w] true) bA (by rw[g15];rfl);have aY:h.le (aG.set bA (.aq [I p.kind,I p.op,I p.n,str p.name,w] true)):=jn.set mJ.h _;have g:=L.h _ [I p.kind,I p.op,I p.n,str p.name,w] aY (by rw[gr];exact G8.plain);rw[gr]at g;replace g:=Hid.mk g;clear L ad Bo G8 jn aY bc aE ax g1 g4 sw;simp only[aa,aw,bh,av,ay,dt,Ej,Ei,xN, *];exact g.h
  |false =>
   have gr:s4 k s=(Ui,71,1):=by unfold s4;rw[ax.h];simp[ul]
   have bu:cz 5 aG [aH bA 0,ko 0 0 0 [] aJ]=some (b0,aG.set bA (.aq [I 0,I 0,I 0,aI,aJ] true)):=nZ g15 rfl rfl rfl rfl;have NJ:gQ [I 0,I 0,I 0,aI,bx] [] []=some (ko 0 0 0 [] aJ):=rfl;have g16:=J.gz aG (.aq [I 0,I 0,I 0,aI,aJ] true) bA (by rw[g15];rfl);have aY:h.le (aG.set bA (.aq [I 0,I 0,I 0,aI,aJ] true)):=jn.set mJ.h _;have g:=L.h _ [I 0,I 0,I 0,aI,aJ] aY (by rw[gr];exact abv _);rw[gr]at g;replace g:=Hid.mk g;clear L ad Bo jn aY bc aE ax g1 g4 sw;simp only[aa,aw,bh,av,ay,Int.reduceBNe,dt,Ej,Ei,xN, *];exact g.h
 ·have aE:h.le ae:=rK.LX hk.h lV.h ⟨cb,gc⟩;have g1:ae.get bA=some (.aq uP true):=by rw[cb bA (by have:=n14.h;omega) (by rw[j7];rfl)];exact j7
  have ne:(e != 0)=true:=by simpa using aeB (ahR k) ax
  have gr:s4 k s=(Ui,e,m):=by unfold s4;rw[ax]
  have bu:cz 5 ae [aH bA 0,ko 0 0 0 [] aJ]=some (b0,ae.set bA (.aq [I 0,I 0,I 0,aI,aJ] true)):=nZ g1 rfl rfl rfl rfl;have NJ:gQ [I 0,I 0,I 0,aI,bx] [] []=some (ko 0 0 0 [] aJ):=rfl;have g16:=J.gz ae (.aq [I 0,I 0,I 0,aI,aJ] true) bA (by rw[g1];rfl);have aY:h.le (ae.set bA (.aq [I 0,I 0,I 0,aI,aJ] true)):=aE.set mJ.h _;have g:=L.h _ [I 0,I 0,I 0,aI,aJ] aY (by rw[gr];exact abv _);rw[gr]at g;replace g:=Hid.mk g;clear L ax cb gc aE aY g1 j7;simp only[aa,aw,bh,av,ay,dt,Ej,Ei,xN, *];exact g.h
end Go.Eng.Sy
