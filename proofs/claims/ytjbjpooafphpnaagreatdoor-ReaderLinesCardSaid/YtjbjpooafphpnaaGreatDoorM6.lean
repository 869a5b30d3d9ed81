/-
  Part of a proof of the laws of layer 07 (reader): the laws.
  Conditions: none.
-/
import Derived.Test.YtjbjpooafphpnaaGreatDoorEc
import Derived.Test.YtjbjpooafphpnaaGreatDoorProg
import Derived.KernelRfl
import Derived.Test.YtjbjpooafphpnaaGreatDoorN
set_option linter.unusedSimpArgs false
set_option linter.unusedVariables false
namespace Go.Eng.Sy
open Go Go.Eng Go.Proofs
section
set_option maxRecDepth 100000
noncomputable def IQ:bo:=(aS (a7 [E 0 13,E 1 11,nE 2,nG 3 2] [] 0 .skip (.exit 0)) (aS (.block 1 (a7 [E 0 11,E 1 13,CW 2,ii 3 10] [] 0 (.aW [E 0 12,e2 1,ap 2 0] [(12,0)]) .skip)) (.aW [E 0 13,e2 1,ap 2 0] [(13,0)])))
noncomputable def Kv:bo:=(aS (a7 [E 0 17,E 1 6,nE 2,nG 3 2] [] 0 .skip (.exit 2)) (aS (.block 3 (ao [E 0 15,E 1 6,E 2 17,E 3 17,e2 4,⟨5,.p (.uK true true),[.t 3,.t 2,.t 0],none,false⟩,am 6 5 0,ap 7 0] [(15,0)] (a7 [E 0 6,E 1 17,CW 2,ii 3 10] [] 0 (ao [E 0 16,e2 1,ap 2 0] [(16,0)] (a7 [E 0 16,E 1 14,AF 2 1] [] 0 (.aW [E 0 15,E 1 8,am 2 1 0,Fy 3,ap 4 0] [(15,0)]) .skip)) .skip))) (.aW [E 0 17,e2 1,ap 2 0] [(17,0)])))
noncomputable def jZ:bB:=⟨3,[0,1,2,6,7,8,9,10,11,12,13,14,16,17,18,19,20,21,23,24],(ao [dC 0] [(3,0)] (ao [KN 0 10,ap 1 0] [(4,0)] (ao [E 0 0,⟨1,.call 17,[.t 0,.c (.bool false)],none,false⟩,tH 2,ac 3 4 1] [(5,1)] (ao [dI 0 4 5,c0 1 18,ap 2 0,ee 3 0 0,ee 4 1 1,ap 5 1,ap 6 1] [(6,1),(7,0)] (aS (a7 [E 0 6,nE 1,sb 2 15000] [] 0 (ao [E 0 4,ap 1 0] [(3,0)] .ret) .skip) (ao [⟨0,.a (.hP [aI,aI,aI,aI,aI,aI,aI,aI,aI] [(0,1),(1,1),(2,1),(3,1),(4,1),(5,1),(6,1),(7,1),(8,1)] 9 1),[.c (.string ⟨#[61]⟩),.c (.string ⟨#[40]⟩),.c (.string ⟨#[93]⟩),.c (.string ⟨#[59]⟩),.c (.string ⟨#[43]⟩),.c (.string ⟨#[55]⟩),.c (.string ⟨#[101,108,115,101]⟩),.c (.string ⟨#[117,97,114,116]⟩),.c (.string ⟨#[46]⟩)],none,false⟩,E 1 2,mC 2 13 9,gj 3 1 2,O 4,ap 5 0] [(8,0)] (ao [ba 0 1 5,O 1,jh 2,sa 3 0 2,ba 4 2 5,O 5,jh 6,am 7 3 0,ap 8 0] [(9,0)] (ao [dI 0 4 5,tH 1,ac 2 4 1] [(10,1)] (ao [ba 0 3 5,O 1,TI 2 6 1,ba 3 3 10,ac 4 1 1] [] (ao [dI 0 4 10,c0 1 18,ap 2 0,ee 3 0 0,ee 4 1 1,ap 5 1,ap 6 1] [(11,1)] (ao [cK 0 0] [(12,0)] (aS (ao [cK 0 0] [(13,0)] (.block 0 (.loop IQ))) (ao [E 0 9,E 1 1,E 2 12,E 3 9,Ti 4 1,eV 5 13 3,am 6 5 0,ap 7 0] [(14,0)] (ao [jy 0] [(15,0)] (ao [cK 0 0] [(16,0)] (aS (ao [cK 0 0] [(17,0)] (.block 2 (.loop Kv))) (ao [E 0 15,c0 1 16,ap 2 0,ee 3 0 0,ee 4 1 1,ee 5 2 2,tH 6,ac 7 4 3,ap 8 3,ap 9 3] [(18,1),(19,0)] (ao [E 0 4,ap 1 0,dQ 2 7 0,pS 3 1 0,c5 4 2,ap 5 0,dQ 6 18 0,pS 7 1 70,d8 8 2,dQ 9 19 0,dQ 10 14 1,⟨11,.p (.bin .add),[.t 0,.c (I 1)],some (2,true),false⟩,yC 12 2 3,⟨13,.p .pick,[.t 4,.t 0,.c (.bool false)],some (7,true),false⟩,d8 14 8,fp 15 8 0,ab0 16,wK 17 2,dQ 18 18 0,pS 19 1 0,yv 20 2 5,tJ 21 6 15,d8 22 16,fp 23 8 0,ab0 24,wK 25 2,dQ 26 18 0,pS 27 1 70,yv 28 2 5,tJ 29 6 23,c5 30 24,ap 31 0] [(3,0)] .ret)))))))))))))))))),[.var 3]⟩
theorem Qz:bK Tryz.prog 6 jZ:=bV (by kernel_rfl)
end
def xZ:List (aD):=[[61],[40],[93],[59],[43],[55],[101,108,115,101],[117,97,114,116],[46]]
def zR(n:Nat)(m:Int):Tok:=if n=5 then kV 7 m else if n=7 then l3 [117,97,114,116] m else bD (xZ.getD n []) m
theorem Ot{n:Nat}(h:n<9)(a1:n≠6)(m:Int)(z:aD):dc (xZ.getD n []++([10]++z)) m=fL [zR n m] (dc z (m+1)):=by
 have adc:∀ g∈kh,dc (g++([10]++z)) m=fL [bD g m] (dc z (m+1)):=fun g aA=>mr aA (nW (by decide)) (q5 (Nw _).symm);have c:n=0∨n=1∨n=2∨n=3∨n=4∨n=5∨n=7∨n=8:=by omega
 rcases c with rfl|rfl|rfl|rfl|rfl|rfl|rfl|rfl
 ·exact adc [61] (by decide)
 ·exact adc [40] (by decide)
 ·exact adc [93] (by decide)
 ·exact adc [59] (by decide)
 ·exact adc [43] (by decide)
 ·have d7:bs 7=[55]:=by rw[bs];rfl
  have:=vN (n:=7) (l:=[10]++z) (m:=m) (by omega) (jD (by decide)) (q5 (Nw _).symm);rw[d7]at this;exact this
 ·exact uE (w:=[117,97,114,116]) (by decide) (jD (by decide)) (q5 (Nw _).symm)
 ·exact adc [46] (by decide)
theorem N9{n:Nat}(h:n<9)(a1:n≠6)(m:Int):uF (zR n m)∧dk [101,108,115,101] (zR n m)=false∧(zR n m).line=m:=by
 have c:n=0∨n=1∨n=2∨n=3∨n=4∨n=5∨n=7∨n=8:=by omega
 rcases c with rfl|rfl|rfl|rfl|rfl|rfl|rfl|rfl
 ·exact⟨⟨(by decide:(4:Int)≠1),rfl,rfl,rfl,rfl,rfl⟩,rfl,rfl⟩
 ·exact⟨⟨(by decide:(4:Int)≠1),rfl,rfl,rfl,rfl,rfl⟩,rfl,rfl⟩
 ·exact⟨⟨(by decide:(4:Int)≠1),rfl,rfl,rfl,rfl,rfl⟩,rfl,rfl⟩
 ·exact⟨⟨(by decide:(4:Int)≠1),rfl,rfl,rfl,rfl,rfl⟩,rfl,rfl⟩
 ·exact⟨⟨(by decide:(4:Int)≠1),rfl,rfl,rfl,rfl,rfl⟩,rfl,rfl⟩
 ·exact⟨⟨(by decide:(3:Int)≠1),vm _ 7 m,vm _ 7 m,vm _ 7 m,vm _ 7 m,vm _ 7 m⟩,vm _ 7 m,rfl⟩
 ·exact⟨⟨(by decide:(2:Int)≠1),rfl,rfl,rfl,rfl,rfl⟩,rfl,rfl⟩
 ·exact⟨⟨(by decide:(4:Int)≠1),rfl,rfl,rfl,rfl,rfl⟩,rfl,rfl⟩
def Fg:ar:=[.string ⟨#[61]⟩,.string ⟨#[40]⟩,.string ⟨#[93]⟩,.string ⟨#[59]⟩,.string ⟨#[43]⟩,.string ⟨#[55]⟩,.string ⟨#[101,108,115,101]⟩,.string ⟨#[117,97,114,116]⟩,.string ⟨#[46]⟩]
theorem N8{k:Nat}(h:k<9):Fg[k]?=some (str (xZ.getD k [])):=by
 have:k=0∨k=1∨k=2∨k=3∨k=4∨k=5∨k=6∨k=7∨k=8:=by omega
 rcases this with rfl|rfl|rfl|rfl|rfl|rfl|rfl|rfl|rfl<;>rfl
theorem Oa:∀ n,(xZ.getD n []).length≤4:=by
 intro n;by_cases h:n<9
 ·have:n=0∨n=1∨n=2∨n=3∨n=4∨n=5∨n=6∨n=7∨n=8:=by omega
  rcases this with rfl|rfl|rfl|rfl|rfl|rfl|rfl|rfl|rfl<;>decide
 ·rw[List.getD_eq_getElem?_getD,List.getElem?_eq_none (by show 9≤n;omega)];simp
theorem KF(l:aD)(i:Nat)(b:UInt8)(au:l[i]?=some b):(l.take (i+1)).count 10=(l.take i).count 10+(if b=10 then 1 else 0):=by
 rw[List.take_add_one,au,List.count_append]
 congr 1
 simp[List.count_cons]
def u7(p:gS):gS:={ p with db:=p.db.take 1 }
theorem Pd{p:gS}(h:p.fm):(u7 p).fm:=⟨h.bS,h.c2,h.cv,fun t aC=>h.db t (List.mem_of_mem_take aC),h.cw,h.cY,by
 have:=h.hb;constructor
 ·show 1≤(p.db.take 1).length;rw[List.length_take];omega
 ·show(p.db.take 1).length≤6;rw[List.length_take];omega⟩
theorem Pe{h D:J}{p:gS}{d r w:Value}{ts:List (ar)}(A:kl h d p.c2)(S:kl h r p.cv)(aG:oB h p.db ts)(aB:ts.length≤140737488355328)(ae:cT h 6 w (ts.take 1))(ag:h.le D):pM D (u7 p) [I p.bS,d,r,w]:=by
 have gh:∀(l:List dO) (xs:List (ar)),oB h l xs→oB h (l.take 1) (xs.take 1):=by
  intro l xs aj;cases l with
  |nil =>
   cases xs with
   |nil=>exact aj
   |cons x r=>cases aj
  |cons s r =>
   obtain⟨x,fJ,e,ck,cm⟩:=aj;subst e;exact⟨x,[],rfl,ck,rfl⟩
 exact⟨d,r,w,rfl,A.mono ag,S.mono ag,ts.take 1,ae.mono ag,by rw[List.length_take];omega,(gh _ _ aG).mono ag⟩
set_option maxHeartbeats 2000000 in
theorem PM{h:J}{iT:Value}{br:List Int}{uG tK:Int}(A:nc h iT br)(i1:∀ z∈br,nO z)(akf:nO uG)(LO:nO tK)(Q:aT)(L:∀ D,Q (.bool true) D):bj Tryz.prog 6 [iT,I uG,I tK] h Q:=by
 have xA:=aoD br false;obtain⟨Cd,Lz⟩:∃ k,zV tK 9=k:=⟨_,rfl⟩;have xc:=Uy LO (n:=9) (by omega);rw[Lz]at xc;have G5:pick tK 9=(Cd:Int):=xc.2.symm;have sw:=xc.1;clear xc Lz LO;replace A:=U A;replace i1:=U i1;replace xA:=U xA;replace akf:=U akf;replace G5:=U G5;replace sw:=U sw;refine c7 (k:=3) Qz rfl rfl rfl fun N=>?_;rw[s3 jZ RW rfl];delta jZ;replace L:=U L;simp only[aa, *];refine afx h _ fun ae aE=>?_;have dP:=cT.mono aE A.h;clear A aE;replace dP:=U dP;simp only[aa, *];refine af2 dP.h i1.h false _ fun aB d r t xs aO CS=>?_;obtain⟨p,hp⟩:∃ p,Ea br false=p:=⟨_,rfl⟩;rw[hp]at CS xA;rw[hp];obtain⟨bT,b4,eg⟩:=CS.e6;have iu:=aqj aB p.bS bT b4 eg;obtain⟨cd,aG,tO,qD,iA,iG⟩:=b9 aB [I p.bS,d,r,t];rw[qD,tO]at iu;have hw:=CS.Mr.mono iG;have aR:=aow xA.h;have az:=xA.h.right;clear dP aO iG CS hp i1;replace hw:=U hw;replace aR:=U aR;replace az:=U az;replace bT:=U bT;replace b4:=U b4;replace eg:=U eg;simp only[aa,aw,bh,rS, *];refine apj hw.h (fun _=>aR.h) _ fun a1 aY=>?_;rw[if_pos az.h,if_pos az.h];have iA:=aY.get iA;have hw:=hw.h.mono aY;have asG:=akP (lZ p);clear aY;by_cases y2:15000<(lZ p).length
 ·have T:(15000:Int)<((lZ p).length:Int):=by omega
  have g:=Hid.mk (L.h a1);clear L y2 hw;simp only[aa,av,ay, *];exact g.h
 have T:¬(15000:Int)<((lZ p).length:Int):=by omega
 have wn:ie [aI,aI,aI,aI,aI,aI,aI,aI,aI] [(0,1),(1,1),(2,1),(3,1),(4,1),(5,1),(6,1),(7,1),(8,1)] 9 1 [.string ⟨#[61]⟩,.string ⟨#[40]⟩,.string ⟨#[93]⟩,.string ⟨#[59]⟩,.string ⟨#[43]⟩,.string ⟨#[55]⟩,.string ⟨#[101,108,115,101]⟩,.string ⟨#[117,97,114,116]⟩,.string ⟨#[46]⟩]=some (Fg,fun id=>.slice (some ⟨id,0,none⟩) 9 1):=rfl;obtain⟨tu,bN,yJ,mc,hT,gf⟩:=b9 a1 Fg;have iA:=gf.get iA;have hw:=hw.mono gf;have Iw:=N8 sw.h;have oP:=asY (id:=tu) sw.h;have arl:=Oa Cd;clear gf y2;replace hw:=U hw;replace arl:=U arl;simp only[aa,av,ay, *];refine Np tK 9 (by decide) _ _ ?_;rw[G5.h];obtain⟨w,ax⟩:∃ w,xZ.getD Cd []=w:=⟨_,rfl⟩;rw[ax]at Iw arl;obtain⟨bW,dL,mV,e,K0,Hg,ts,Lt,vB,G4⟩:=hw.h;cases e;have kr:pD [d]=some (I p.c2.length):=by have:=K0.1.len;simpa using this
 have at7:pD [r]=some (I p.cv.length):=by have:=Hg.1.len;simpa using this
 have Ou:=xA.h.cw;have O8:=xA.h.cY;have Fj:=xA.h.hb;have er:IntKind.i64.wrap (2+(p.c2.length:Int))=((2+p.c2.length:Nat):Int):=by rw[cZ (by omega) (by omega)];omega
 have dd:IntKind.i64.wrap (((2+p.c2.length:Nat):Int)+(p.cv.length:Int))=((2+p.c2.length+p.cv.length:Nat):Int):=by rw[cZ (by omega) (by omega)];omega
 obtain⟨N,bH⟩:∃ N,2+p.c2.length+p.cv.length=N:=⟨_,rfl⟩;have SM:N≤10:=by omega
 rw[bH]at dd;have asE:ts.length=p.db.length:=G4.length;obtain⟨rP,Hs,Hr⟩:=Lt.ac3 (b:=1) (by omega);have Hs:rR 6 false true [t,I 1]=some rP:=Hs;have H7:rP.oneCell'=true∧rP.cells.toList=[rP]:=by
  rcases Hr with⟨e,_⟩|⟨id,off,e,_⟩<;>(subst e;exact⟨rfl,rfl⟩)
 have Vi:=aqj bN p.bS bT.h b4.h eg.h;obtain⟨cS,b7,u4,qE,eE,vH⟩:=b9 bN [I p.bS,d,r,t];rw[qE,u4]at Vi;have Ft:=iA;have iA:=vH.get iA;have Ir:=iU (v:=rP) (off:=3) eE (by simp) H7.2 H7.1;simp only[List.set_cons_zero,List.set_cons_succ]at Ir;have vo:bN.next≤cS:=by omega
 have cH:(cd==cS)=false:=by
  have:=J.bY Ft;simp;omega
 obtain⟨dE,j3⟩:∃ x,b7.set cS (.aq [I p.bS,d,r,rP] true)=x:=⟨_,rfl⟩;have HX:bN.le dE:=by rw[← j3];exact vH.set vo _
 have Pf:dE.get cd=some (.aq [I p.bS,d,r,t] true):=HX.get Ft;have Pg:dE.get cS=some (.aq [I p.bS,d,r,rP] true):=by rw[← j3];exact J.e7 _ _ _ (by rw[eE];rfl)
 have Cg:pM dE (u7 p) [I p.bS,d,r,rP]:=Pe K0 Hg G4 vB Hr HX;rw[j3]at Ir;have Cf:=Pd xA.h;have z7:=aow Cf;have he:=Cf.right;have pl:=QA Cf;have ka:(lZ p).length≤15000:=by omega
 obtain⟨t0,rest,vh⟩:∃ t0 rest,p.db=t0::rest:=by
  cases af:p.db with
  |nil=>rw[af]at Fj;simp at Fj
  |cons a b=>exact⟨a,b,rfl⟩
 have K2:(u7 p).db=[t0]:=by show p.db.take 1=_;rw[vh];rfl
 rw[K2]at pl;have pl:(lZ (u7 p)).count 10=N+ey t0.body+1:=by
  rw[pl];show 1+p.c2.length+p.cv.length+(2+ey t0.body+0)=_;omega
 have pK:=fun j (bn:j≤ey t0.body)=>PN az.h vh (j:=j) bn;rw[bH]at pK;obtain⟨d2,d3⟩:True∧True:=⟨trivial,trivial⟩;clear K0 Hg Lt vB G4 Hr H7 asE Ou O8 Fj hw HX vH j3 xA Cf K2 vh bH Ft aR vo d2 d3;replace Cg:=U Cg;replace z7:=U z7;replace he:=U he;replace pl:=U pl;replace ka:=U ka;replace pK:=U pK;replace az:=U az;simp only[aa,aw,bh,av,ay,rS, *];refine apj Cg.h (fun _=>z7.h) _ fun lk aaJ=>?_;rw[if_pos he.h,if_pos he.h];obtain⟨u,hu⟩:∃ u,lZ (u7 p)=u:=⟨_,rfl⟩;rw[hu]at pl z7;rw[hu];obtain⟨s,ak⟩:∃ s,lZ p=s:=⟨_,rfl⟩;rw[ak]at ka pK asG T;rw[ak];obtain⟨q1,vr⟩:∃ q1,ey t0.body=q1:=⟨_,rfl⟩;rw[vr]at pl pK;clear Hs Cg aaJ he hu ak vr Pf Pg Ir Iw oP iu Vi eE iA hT az;have SX:=akP u;have z0:((0:Nat):Int)=0:=rfl;simp only[aa, *];refine ch.upto u.length (fun i e S=>S=lk∧e=[iT,I uG,I tK,.bool false,.bool true,aH cd 0,str s,I 0,str w,I (N:Int),aH cS 0,str u,I (((u.take i).count 10:Nat):Int),I (i:Int),b0,b0,b0,b0,b0,b0]) ?_ (Nat.zero_le _) ⟨rfl,rfl⟩;rintro i _ S R au ⟨rfl,rfl⟩ aN;delta IQ;have S1:=z7.h;simp only[ez]at S1;by_cases aV:i<u.length
 ·have dm:(i:Int)<(u.length:Int):=by omega
  have mL:IntKind.i64.wrap ((i:Int)+1)=((i+1:Nat):Int):=by rw[cZ (by omega) (by omega)];rfl
  obtain⟨b,fg⟩:∃ b,u[i]?=some b:=⟨_,List.getElem?_eq_getElem aV⟩;have qB:=KF u i b fg;have oP:=xl fg .i64;have cl:(u.take i).count 10≤i:=Nat.le_trans List.count_le_length (by rw[List.length_take];omega);have g:=aN.h _ S aV ⟨rfl,rfl⟩;rw[qB]at g;obtain⟨qq,y5⟩:∃ c,(u.take i).count 10=c:=⟨_,rfl⟩;rw[y5]at g cl;rw[y5];have aka:IntKind.i64.wrap ((qq:Int)+1)=((qq+1:Nat):Int):=by rw[cZ (by omega) (by omega)];rfl
  by_cases pB:b=10
  ·subst pB;have N7:(((10:UInt8).toNat:Int)==10)=true:=rfl;rw[if_pos rfl]at g;replace g:=Hid.mk g;clear aN L pK S1 fg qB y5 cl;simp only[aa,av,ay, *];exact g.h
  ·have aiN:((b.toNat:Int)==10)=false:=by
    simp;intro e;exact pB (UInt8.toNat_inj.1 (by simpa using(by omega:b.toNat=10)))
   rw[if_neg pB,Nat.add_zero]at g;replace g:=Hid.mk g;clear aN L pK S1 fg qB y5 cl pB;simp only[aa,av,ay, *];exact g.h
 have ef:i=u.length:=by omega
 subst ef;have dm:¬(u.length:Int)<(u.length:Int):=by omega
 rw[List.take_length,pl.h];have Aa:N+q1+1≤140737488355328:=by rw[← pl.h];exact Nat.le_trans List.count_le_length S1
 have Tn:IntKind.i64.wrap (((N+q1+1:Nat):Int)-(N:Int))=((q1+1:Nat):Int):=by rw[cZ (by omega) (by omega)];omega
 clear aN aV au;replace Aa:=U Aa;simp only[aa,av,ay, *];refine Np uG _ (by omega) _ _ ?_;obtain⟨j,bn⟩:∃ j,zV uG (q1+1)=j:=⟨_,rfl⟩;have aji:=Uy akf.h (n:=q1+1) (by omega);rw[bn]at aji;rw[← aji.2];obtain⟨a,y,Ho,Gr,p8,rQ⟩:=pK.h j (by omega);have RX:IntKind.i64.wrap ((N:Int)+(j:Int))=((N+j:Nat):Int):=by have:=Aa.h;rw[cZ (by omega) (by omega)];omega
 obtain⟨k,ab⟩:∃ k,N+j=k:=⟨_,rfl⟩;have GX:k≤140737488355328:=by have:=Aa.h;omega
 rw[ab]at Gr RX p8;have ig:=PJ (k:=k) (w:=w) (a:=a) (y:=y) Gr;rw[← Ho]at ig;have qz:(a++10::(w++10::y)).length≤20000:=by
  have A:=ka.h;have S:=arl.h;rw[Ho]at A;simp only[List.length_append,List.length_cons]at A ⊢;omega
 clear pK bn aji Gr ab pl Aa akf Ho;replace ig:=U ig;replace qz:=U qz;replace p8:=U p8;replace rQ:=U rQ;replace GX:=U GX;simp only[aa,av,ay, *];have T0:((0:Nat):Int)=0:=rfl;refine ch.upto s.length (fun i e ae=>ae=S∧e=[iT,I uG,I tK,.bool false,.bool true,aH cd 0,str s,I 0,str w,I (N:Int),aH cS 0,str u,I ((N+q1+1:Nat):Int),I (u.length:Int),I (k:Int),str (ha k w 0 (s.take i)),I (((s.take i).count 10:Nat):Int),I (i:Int),b0,b0]) ?_ (Nat.zero_le _) ⟨rfl,rfl⟩;rintro i _ ae R au ⟨rfl,rfl⟩ aN;delta Kv;by_cases aV:i<s.length
 ·have dm:(i:Int)<(s.length:Int):=by omega
  have SQ:=ka.h;have sx:=arl.h;have mL:IntKind.i64.wrap ((i:Int)+1)=((i+1:Nat):Int):=by rw[cZ (by omega) (by omega)];rfl
  obtain⟨b,fg⟩:∃ b,s[i]?=some b:=⟨_,List.getElem?_eq_getElem aV⟩;have qB:=KF s i b fg;have oP:=xl fg .i64;have cl:(s.take i).count 10≤i:=Nat.le_trans List.count_le_length (by rw[List.length_take];omega);have B4:s.take (i+1)=s.take i++[b]:=by rw[List.take_add_one,fg];rfl
  have vW:=Pa (l:=s) (m:=i) (n:=i+1) (by omega) (by omega);rw[show(s.take (i+1)).drop i=[b] by rw[B4,List.drop_append_of_le_length (by rw[List.length_take];omega),List.drop_eq_nil_of_le (by rw[List.length_take];omega)];rfl]at vW;have one:=PK k w (s.take i) b;rw[← B4]at one;have g:=aN.h _ ae aV ⟨rfl,rfl⟩;rw[qB,one]at g;have Dj:=HB k w (s.take i) 0;have DQ:(ha k w 0 (s.take i)).length≤15000*6:=by
   refine Nat.le_trans Dj ?_;have:(s.take i).length≤15000:=by rw[List.length_take];omega
   exact Nat.mul_le_mul this (by omega)
  obtain⟨qq,y5⟩:∃ c,(s.take i).count 10=c:=⟨_,rfl⟩;rw[y5]at g cl;rw[y5];obtain⟨gT,z8⟩:∃ gT,ha k w 0 (s.take i)=gT:=⟨_,rfl⟩;rw[z8]at g DQ;rw[z8];have aka:IntKind.i64.wrap ((qq:Int)+1)=((qq+1:Nat):Int):=by rw[cZ (by omega) (by omega)];rfl
  have ck:=cf (a:=gT) (b:=[b]) (by simp only[List.length_cons,List.length_nil];omega);have cm:=cf (a:=gT++[b]) (b:=w) (by simp only[List.length_append,List.length_cons,List.length_nil];omega);have cb:=cf (a:=gT++[b]++w) (b:=[10]) (by simp only[List.length_append,List.length_cons,List.length_nil];omega);by_cases pB:b=10
  ·subst pB;have N7:(((10:UInt8).toNat:Int)==10)=true:=rfl;rw[if_pos rfl,if_pos rfl]at g;by_cases Ci:qq+1=k
   ·have PE:(((qq+1:Nat):Int)==(k:Int))=true:=by simp;omega
    rw[if_pos Ci,show gT++10::(w++[10])=gT++[10]++w++[10] by simp]at g;replace g:=Hid.mk g;clear aN L SQ sx fg qB y5 cl B4 one Dj DQ z8 p8 rQ ig qz Ci;simp only[aa,av,ay, *];exact g.h
   ·have PE:(((qq+1:Nat):Int)==(k:Int))=false:=by simp;omega
    rw[if_neg Ci]at g;replace g:=Hid.mk g;clear aN L SQ sx fg qB y5 cl B4 one Dj DQ z8 p8 rQ ig qz Ci;simp only[aa,av,ay, *];exact g.h
  ·have aiN:((b.toNat:Int)==10)=false:=by
    simp;intro e;exact pB (UInt8.toNat_inj.1 (by simpa using(by omega:b.toNat=10)))
   rw[if_neg pB,if_neg pB,Nat.add_zero]at g;replace g:=Hid.mk g;clear aN L SQ sx fg qB y5 cl B4 one Dj DQ z8 p8 rQ ig qz pB;simp only[aa,av,ay, *];exact g.h
 have ajc:i=s.length:=by omega
 subst ajc;have zb:¬(s.length:Int)<(s.length:Int):=by omega
 rw[List.take_length,ig.h];obtain⟨aqV,ZV⟩:∃ aqV,a++10::(w++10::y)=aqV:=⟨_,rfl⟩;rw[ZV];have fin:∃ TR kf,sH TR aqV=(xw,70,kf)∧(kf=((k+1:Nat):Int)∨w=[101,108,115,101]):=by
  rw[← ZV];by_cases a1:Cd=6
  ·subst a1;have Br:w=[101,108,115,101]:=ax.symm;obtain⟨TR,kf,e⟩:=rQ.h (by have:=qz.h;rw[Br]at this;exact this);exact⟨TR,kf,by rw[Br];exact e,.inr Br⟩
  ·obtain⟨TR,e⟩:=p8.h w (zR Cd) (fun m z=>by rw[← ax];exact Ot sw.h a1 m z) (fun m=>N9 sw.h a1 m) qz.h;exact⟨TR,_,e,.inl rfl⟩
 obtain⟨TR,kf,BR,iQ⟩:=fin;have Te:IntKind.i64.wrap ((k:Int)+1)=((k+1:Nat):Int):=by have:=GX.h;rw[cZ (by omega) (by omega)];rfl
 clear aN aV au ig qz p8 rQ ZV ax;replace BR:=U BR;replace iQ:=U iQ;simp only[aa,av,ay, *];refine Ng TR aqV ae _ fun pU z TT bp=>?_;rw[BR.h]at bp;rw[BR.h];have bu:=Va pU bp;obtain⟨acc,hj,as2,nH,wU,HA⟩:=b9 pU z;rw[nH,as2]at bu;obtain⟨R0,nv,v6,rfl,_⟩:=bp;have g:=Hid.mk (L.h hj);clear L TT HA BR;have hS:=iz w [101,108,115,101];by_cases bF:kf=((k+1:Nat):Int)
 ·subst bF;clear iQ;simp only[aa,bh,av,ay, *];exact g.h
 ·have bC:(kf==((k+1:Nat):Int))=false:=by simpa using bF
  have Br:w=[101,108,115,101]:=iQ.h.resolve_left bF;subst Br;rw[beq_self_eq_true]at hS;clear iQ bF;simp only[aa,bh,av,ay,Int.reduceBEq, *];exact g.h
end Go.Eng.Sy
