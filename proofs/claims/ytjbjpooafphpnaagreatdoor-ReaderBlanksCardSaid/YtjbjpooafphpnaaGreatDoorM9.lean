/-
  Part of a proof of the laws of layer 07 (reader): the laws.
  Conditions: none.
-/
import Derived.Test.YtjbjpooafphpnaaGreatDoorEc
import Derived.Test.YtjbjpooafphpnaaGreatDoorProg
import Derived.KernelRfl
import Derived.Test.YtjbjpooafphpnaaGreatDoorN
set_option linter.unusedSimpArgs false
set_option linter.unusedVariables false
namespace Go.Eng.Sy
open Go Go.Eng Go.Proofs
section
set_option maxRecDepth 100000
noncomputable def aCB:bo:=(aS (a7 [E 0 9,oj 1 1,E 2 6,ff 3,nh 4 2] [] 0 .skip (.exit 0)) (aS (.block 1 (ao [Y 0 0] [(10,0)] (aS (a7 [E 0 9,E 1 1,ff 2,nh 3 2] [] 0 (.aW [E 0 1,E 1 9,fx 2 1 1,O 3,mD 4 13 4,ap 5 0] [(10,0)]) .skip) (.aW [E 0 8,E 1 6,E 2 9,fx 3 4 1,ed 4 1,O 5,e2 6 5 0,⟨7,.a (.hP [aI,aI,aI,aI] [(0,1),(1,1),(2,1),(3,1)] 4 1),[.c (.string ⟨#[32]⟩),.c (.string ⟨#[10]⟩),.c (.string ⟨#[9,9]⟩),.c (.string ⟨#[32,35,32,120,59,10]⟩)],none,false⟩,E 8 10,fx 9 1 1,O 10,e2 11 4 0,ap 12 0] [(8,0)])))) (.aW [E 0 9,oj 1 1,ap 2 0] [(9,0)])))
noncomputable def VR:bB:=⟨2,[0,1,4,5,6,7,9,10,12,13,14,15,16],(ao [c0 0] [(2,0)] (ao [io 0 10,ap 1 0] [(3,0)] (ao [E 0 0,⟨1,.call 17,[.t 0,.c (.bool false)],none,false⟩,u0 2,c5 3 4 0 1] [(4,1)] (ao [dC 0 4 4,cK 1 20,ap 2 0,ee 3 0 0,ee 4 1 1,ap 5 1,ap 6 1] [(5,1)] (ao [E 0 5,cK 1 19,ap 2 0,ee 3 0 0,ee 4 1 1,ee 5 2 2,ap 6 2,ap 7 2,ap 8 2] [(6,2),(7,1)] (ao [jh 0] [(8,0)] (aS (ao [Y 0 0] [(9,0)] (.block 0 (.loop aCB))) (aS (a7 [E 0 8,mB 1,pS 2 20000,ap 3 0,fp 4 7 0,aD1 5 1 0,eR 6 2] [] 0 (ao [E 0 3,ap 1 0] [(2,0)] .ret) .skip) (ao [E 0 8,cK 1 16,ap 2 0,ee 3 0 0,ee 4 1 1,ee 5 2 2,u0 6,c5 7 4 0 3,ap 8 3,ap 9 3] [(11,3),(12,1)] (ao [E 0 3,ap 1 0,dI 2 12 0,u3 3 1 0,Z 4 2,ap 5 0,LP 6 4 4 0,LP 7 4 11 1,tJ 8 21 1 2,Z 9 3,ap 10 0] [(2,0)] .ret)))))))))),[.var 2]⟩
theorem aDZ:bK Tryz.prog 9 VR:=bV (by kernel_rfl)
end
def UH(arF:List Int)(i:Nat):Nat:=match arF[i]? with|some z=>zV z 4|none=>0
theorem aDm{arF:List Int}(h:∀ z∈arF,nO z)(i:Nat):UH arF i<4:=by
 unfold UH;split
 ·rename_i z bp;exact(Uy (h z (List.mem_of_getElem? bp)) (by omega)).1
 ·omega
theorem aDg{t:Tok}(h:TL t):t.text.length≤24:=by
 have er:∀ w∈rj,w.length≤24:=by decide +kernel
 have dd:∀ w∈kh,w.length≤24:=by decide +kernel
 cases h with
 |name s m h=>have:=qY h;show s.length≤24;omega
 |word s m h=>exact er s h
 |num n m h=>have:=yt h;show(bs n).length≤24;omega
 |sign s m h=>exact dd s h
theorem aCP(b:Nat):(aaI b).length≤6:=by
 unfold aaI;(repeat' split)<;>simp
theorem aCY(b:Nat→Nat):∀(ts:List Tok),(∀ t∈ts,TL t)→∀ i,(Ou b i ts).length≤30*ts.length
 |[],_,i=>by simp[Ou]
 |t::r,h,i=>by
  have A:=aDg (h t (by simp));have S:=aCP (b i);have ae:=aCY b r (fun x af=>h x (by simp[af])) (i+1);simp only[Ou,gj,HA];omega
theorem aEg{p:gS}(A:mT p=true)(ag:(lZ p).length≤20000):(Et p).length≤20000:=by
 obtain⟨cp,S,ae,aB⟩:=UQ A;have ak:=apZ (p:=p) (by omega) S ae aB;have ck:=MC ((lZ p).length+1) (skip false (lZ p) 1).1 (skip false (lZ p) 1).2;have cm:=sL false (lZ p) 1;unfold dc at ak;rw[ak]at ck;simp only at ck;omega
def aCs:ar:=[.string ⟨#[32]⟩,.string ⟨#[10]⟩,.string ⟨#[9,9]⟩,.string ⟨#[32,35,32,120,59,10]⟩]
theorem aDp{k:Nat}(h:k<4):aCs[k]?=some (str (aaI k)):=by
 have:k=0∨k=1∨k=2∨k=3:=by omega
 rcases this with rfl|rfl|rfl|rfl<;>rfl
set_option maxHeartbeats 2000000 in
theorem aDo{h:J}{iT v2:Value}{br arF:List Int}(A:nc h iT br)(i1:∀ z∈br,nO z)(S:nc h v2 arF)(i2:∀ z∈arF,nO z)(Q:aT)(L:∀ D,Q (.bool true) D):bj Tryz.prog 9 [iT,v2] h Q:=by
 have xA:=aoD br false;replace A:=U A;replace i1:=U i1;replace S:=U S;replace i2:=U i2;replace xA:=U xA;refine c7 (k:=2) aDZ rfl rfl rfl fun N=>?_;rw[eJ VR aed rfl];delta VR;replace L:=U L;simp only[aa, *];refine afx h _ fun ae aE=>?_;have dP:=cT.mono aE A.h;have a2:=cT.mono aE S.h;clear A S aE;replace dP:=U dP;replace a2:=U a2;simp only[aa, *];refine af2 dP.h i1.h false _ fun aB d r t xs aO aCq=>?_;obtain⟨p,hp⟩:∃ p,Ea br false=p:=⟨_,rfl⟩;rw[hp]at aCq xA;rw[hp];obtain⟨bT,b4,eg⟩:=aCq.e6;have iu:=aqj aB p.bS bT b4 eg;obtain⟨cd,aG,tO,qD,iA,iG⟩:=b9 aB [I p.bS,d,r,t];rw[qD,tO]at iu;have hw:=aCq.Mr.mono iG;have kB:=cT.mono (aO.trans iG) a2.h;have aR:=aow xA.h;have az:=xA.h.right;clear dP a2 aO iG aCq hp i1;replace hw:=U hw;replace kB:=U kB;replace aR:=U aR;replace az:=U az;simp only[aa,aw,bh,rS, *];refine af1 hw.h (fun _=>aR.h) _ fun a1 aY=>?_;rw[if_pos az.h,if_pos az.h];have iA:=aY.get iA;have hw:=hw.h.mono aY;have kB:=cT.mono aY kB.h;clear aY;replace hw:=U hw;replace kB:=U kB;simp only[aa, *];refine aE5 (h0:=a1) a1 (.refl _) _ fun v bN ig bE=>?_;have iA:=bE.get iA;have hw:=hw.h.mono bE;have kB:=cT.mono bE kB.h;have ka:=ig.vW;clear ig bE;by_cases y2:20000<(lZ p).length
 ·have sr:jc (lZ p)=([],2,0):=by unfold jc;rw[if_pos y2]
  rw[sr]at ka;rw[sr];have iQ:pD [v]=some (I 0):=by simpa using ka.len
  have eF:IntKind.i64.wrap (0+1)=1:=rfl;have g:=Hid.mk (L.h bN);have vl:=akP [];have z0:(([]:aD).length:Int)=0:=rfl;clear L ka hw kB sr y2;simp only[aa, *];refine ch.upto 0 (fun i e S=>S=bN∧e=[iT,v2,.bool false,.bool true,aH cd 0,str (lZ p),v,I 2,aI,I 0,b0,b0,b0]) ?_ (pc _) ⟨rfl,rfl⟩;rintro i _ b7 R au ⟨rfl,rfl⟩ aN;delta aCB;clear aN;simp only[aa,av,ay,Int.reduceBNe,Int.reduceLT, *];exact g.h
 obtain⟨aL,bq,cV,h2⟩:=UQ az.h;have sr:=apT (p:=p) ⟨by omega,by omega⟩ bq cV h2 (by omega);rw[sr]at ka;rw[sr];have bv:=aDh az.h;have hn:=aEg az.h (by omega);have aig:=aE0 az.h (UH arF);obtain⟨ts,kb⟩:∃ y,Et p=y:=⟨_,rfl⟩;rw[kb]at ka bv hn aig;have iQ:pD [v]=some (I ((ts.length+1:Nat):Int)):=by simpa using ka.len
 have nQ:=nc.len kB;clear sr aL bq cV h2 kb y2;replace hw:=U hw;replace kB:=U kB;replace ka:=U ka;replace bv:=U bv;replace hn:=U hn;replace aig:=U aig;simp only[aa, *];have z0:((0:Nat):Int)=0:=rfl;refine ch.upto ts.length (fun i e S=>bN.le S∧∃ x,e=[iT,v2,.bool false,.bool true,aH cd 0,str (lZ p),v,I 0,str (Ou (UH arF) 0 (ts.take i)),I (i:Int),x,b0,b0]) ?_ (pc _) ⟨.refl _,b0,rfl⟩;rintro i _ b7 R au ⟨cq,x,rfl⟩ aN;have ax:IntKind.i64.wrap ((i:Int)+1)=((i+1:Nat):Int):=by have:=hn.h;rw[cZ (by omega) (by omega)];rfl
 delta aCB;by_cases aV:i<ts.length
 ·have dm:((i+1:Nat):Int)<((ts.length+1:Nat):Int):=by omega
  obtain⟨gh,rH⟩:∃ e,ts[i]?=some e:=⟨_,l8 aV⟩;have F4:=cT.mono cq ka.h;have hb:=aDg (bv.h gh (List.mem_of_getElem? rH));have aCX:=aCY (UH arF) (ts.take i) (fun t aC=>bv.h t (List.mem_of_mem_take aC)) 0;have aCG:=aD0 (UH arF) ts 0 i gh rH;rw[NU]at aCG;obtain⟨k,ab⟩:∃ k,UH arF i=k:=⟨_,rfl⟩;have Gp:=aDm i2.h i;rw[ab]at aCG Gp;have aDN:(Ou (UH arF) 0 (ts.take i)).length≤600000:=by have:=hn.h;rw[List.length_take]at aCX;omega
  have ck:=cf (a:=Ou (UH arF) 0 (ts.take i)) (b:=gh.text) (by omega);have cm:=cf (a:=Ou (UH arF) 0 (ts.take i)++gh.text) (b:=aaI k) (by have:=aCP k;rw[gj];omega);have g:=fun D (df:bN.le D) x=>aN.h _ D aV ⟨df,x,rfl⟩;rw[aCG,← Lz]at g;obtain⟨aEo,Zm⟩:∃ y,Ou (UH arF) 0 (ts.take i)=y:=⟨_,rfl⟩;rw[Zm]at ck cm g;rw[Zm];have wn:ie [aI,aI,aI,aI] [(0,1),(1,1),(2,1),(3,1)] 4 1 [.string ⟨#[32]⟩,.string ⟨#[10]⟩,.string ⟨#[9,9]⟩,.string ⟨#[32,35,32,120,59,10]⟩]=some (aCs,fun id=>.slice (some ⟨id,0,none⟩) 4 1):=rfl;obtain⟨tu,dE,yJ,j3,hT,pz⟩:=b9 b7 aCs;obtain⟨id,off,cells,own,g1,g2,g3,g4⟩:=F4.elem (i:=i) (x:=gh.cells) (by rw[apb,arX aV,rH];rfl);have f1:cells[off+1]?=some (str gh.text):=g4 1 (by omega);have oP:=asY (id:=tu) (n:=4) Gp;have aEj:=aDp Gp;have yO:=pz.get g2;have asd:=cq.trans pz;have aCO:=cT.mono cq kB.h;replace g:=Hid.mk (fun x=>g dE asd x);clear aN aCX aDN hb rH F4 Zm pz asd L aig;have aDn:=Hid.mk aCO;clear aCO;by_cases T:i<arF.length
  ·have pY:(i:Int)<(arF.length:Int):=by omega
   obtain⟨z,bp⟩:∃ z,arF[i]?=some z:=⟨_,l8 T⟩;obtain⟨pw,eW,sY,ao1,dP,a2,a3⟩:=nc.elem aDn.h bp;have GQ:=(Uy (i2.h z (List.mem_of_getElem? bp)) (n:=4) (by omega)).2;have Gn:zV z 4=k:=by rw[← ab];unfold UH;rw[bp]
   rw[Gn]at GQ;have ZH:pick z 4=(k:Int):=GQ.symm;clear GQ Gn ab bp T g3 g4;replace ZH:=U ZH;simp only[aa,aw,av,ay, *];refine aE1 z 4 (by decide) _ _ ?_;rw[ZH.h];simp only[aa,aw,av,ay, *];exact g.h _
  ·have pY:¬(i:Int)<(arF.length:Int):=by omega
   have aCU:k=0:=by rw[← ab];unfold UH;rw[apr (by omega)]
   subst aCU;rw[z0]at oP;clear ab T g3 g4;simp only[aa,aw,av,ay, *];exact g.h _
 have ef:i=ts.length:=by omega
 subst ef;have dm:¬((ts.length+1:Nat):Int)<((ts.length+1:Nat):Int):=by omega
 rw[T1];obtain⟨aqV,ZV⟩:∃ y,Ou (UH arF) 0 ts=y:=⟨_,rfl⟩;rw[ZV];rw[ZV]at aig;have zb:=akP aqV;have iA:=cq.get iA;have hw:=hw.h.mono cq;clear aN aV kB ka bv cq ZV au;by_cases y2:20000<aqV.length
 ·have T:(20000:Int)<(aqV.length:Int):=by omega
  have g:=Hid.mk (L.h b7);clear L y2 aig hw;simp only[aa,av,ay, *];exact g.h
 have T:¬(20000:Int)<(aqV.length:Int):=by omega
 obtain⟨fF,Gr⟩:=aig.h (by omega);clear y2 aig;replace hw:=U hw;replace Gr:=U Gr;simp only[aa,av,ay, *];refine Ng fF aqV b7 _ fun dE z jo bp=>?_;rw[Gr.h]at bp;rw[Gr.h];have bu:=Va dE bp;obtain⟨cS,lk,u4,aDy,eE,aCH⟩:=b9 dE z;rw[aDy,u4]at bu;have l:=jo.trans aCH;have iA:=l.get iA;have hw:=hw.h.mono l;have xZ:=bp.mono aCH;obtain⟨bW,dL,mV,rfl,_⟩:=bp;clear l jo aCH Gr;replace hw:=U hw;replace xZ:=U xZ;simp only[aa,aw,bh,av,ay,rS, *];refine af6 hw.h xZ.h xA.h.ok xA.h.ok _ fun ck pU jj TT=>?_;have ab:ck=true:=jj.2 rfl;subst ab;have g:=Hid.mk (L.h pU);clear L hw xZ jj TT;simp only[aa, *];exact g.h
end Go.Eng.Sy
