/-
  Part of a proof of the laws of layer 07 (reader): the laws.
  Conditions: none.
-/
import Derived.Test.YtjbjpooafphpnaaGreatDoorEc
import Derived.Test.YtjbjpooafphpnaaGreatDoorProg
import Derived.KernelRfl
import Derived.Test.YtjbjpooafphpnaaGreatDoorN
set_option linter.unusedSimpArgs false
set_option linter.unusedVariables false
namespace Go.Eng.Sy
open Go Go.Eng Go.Proofs
section
set_option maxRecDepth 100000
noncomputable def YS:bo:=(aS (a7 [E 0 11,E 1 8,mC 2 1] [] 0 .skip (.exit 0)) (aS (.block 1 (ao [E 0 9,E 1 6,E 2 11,fx 3 4 1,eR 4 1,O 5,am 6 5 0,d8 7 0,M 8 0] [(9,0)] (aS (a7 [E 0 6,E 1 11,fx 2 4 1,eR 3 1,O 4,⟨5,.p (.bin .eql),[.t 0,.c (.string ⟨#[123]⟩)],none,false⟩] [] 0 (.aW [E 0 10,ee 1 1,M 2 0] [(10,0)]) .skip) (a7 [E 0 6,E 1 11,fx 2 4 1,eR 3 1,O 4,⟨5,.p (.bin .eql),[.t 0,.c (.string ⟨#[125]⟩)],none,false⟩] [] 0 (.aW [E 0 10,nC 1,M 2 0] [(10,0)]) .skip)))) (.aW [E 0 11,ee 1 1,M 2 0] [(11,0)])))
noncomputable def p8:bB:=⟨2,[0,1,4,5,6,7,9,10,12,13,14,15,16,17,18,19,20,21,22,23],(ao [c5 0] [(2,0)] (ao [i6 0 10,M 1 0] [(3,0)] (ao [E 0 0,⟨1,.call 17,[.t 0,.c (.bool false)],none,false⟩,pR 2,c0 3 4 1] [(4,1)] (ao [dC 0 4 4,Z 1 18,M 2 0,dQ 3 0 0,dQ 4 1 1,M 5 1,M 6 1] [(5,1)] (ao [E 0 5,Z 1 19,M 2 0,dQ 3 0 0,dQ 4 1 1,dQ 5 2 2,M 6 2,M 7 2,M 8 2] [(6,2),(7,1)] (aS (a7 [E 0 5,jy 1,ci 2 15000] [] 0 (ao [E 0 3,M 1 0] [(2,0)] .ret) .skip) (ao [E 0 1,E 1 6,ix 2,⟨3,.p (.L1 true),[.t 0,.c (I 1)],none,false⟩,eV 4 13 3,M 5 0] [(8,0)] (ao [gj 0] [(9,0)] (ao [Y 0 0] [(10,0)] (aS (ao [Y 0 0] [(11,0)] (.block 0 (.loop YS))) (ao [E 0 9,Z 1 16,M 2 0,dQ 3 0 0,dQ 4 1 1,dQ 5 2 2,pR 6,c0 7 4 3,M 8 3,M 9 3] [(12,3),(13,1),(14,0)] (ao [dC 0 4 4,pR 1,c0 2 4 1] [(15,1)] (ao [ba 0 3 4,O 1,TK 2 6 1,ba 3 3 15,c0 4 1 1] [] (ao [dC 0 4 15,Z 1 18,M 2 0,dQ 3 0 0,dQ 4 1 1,M 5 1,M 6 1] [(16,1),(17,0)] (ao [E 0 16,Z 1 16,M 2 0,dQ 3 0 0,dQ 4 1 1,dQ 5 2 2,pR 6,c0 7 4 3,M 8 3,M 9 3] [(18,3),(19,1)] (aS (a7 [E 0 3,gU 1,M 2 0,e2 3 7 0,Fs 4 1 0,dI 5 2,M 6 0,e2 7 17 0,Fs 8 1 0,dI 9 2,M 10 0,e2 11 19 0,Fs 12 1 0,dI 13 2,M 14 0,fw 15 3 18 0,ff 16 1,n5 17 2,Fs 18 3 1,dI 19 4] [] 0 (ao [c5 0] [(2,0)] .ret) .skip) (aS (a7 [E 0 10,ci 1 0] [] 0 (ao [E 0 13,mD 1 70,M 2 0,ac 3 14 0,pS 4 1 1,cK 5 2,M 6 0,jZ 7 3 12 0,ed 8 1,yC 9,pS 10 3 0,cK 11 4,M 12 0] [(2,0)] .ret) .skip) (ao [E 0 13,mD 1 0,M 2 0,e2 3 13 0,wH 4 1 70,u3 5 2,ac 6 14 0,pS 7 1 1,wE 8 2 5,dI 9 6,M 10 0] [(2,0)] .ret)))))))))))))))))),[.var 2]⟩
theorem apL:bK Tryz.prog 5 p8:=bV (by kernel_rfl)
end
def K1(p:gS):gS:={ p with db:=p.db.take 1 }
theorem amD{p:gS}(h:p.fm):(K1 p).fm:=⟨h.bS,h.c2,h.cv,fun t aC=>h.db t (List.mem_of_mem_take aC),h.cw,h.cY,by
 have:=h.hb;constructor
 ·show 1≤(p.db.take 1).length;rw[List.length_take];omega
 ·show(p.db.take 1).length≤6;rw[List.length_take];omega⟩
theorem amE{h D:J}{p:gS}{d r w:Value}{ts:List (ar)}(A:kl h d p.c2)(S:kl h r p.cv)(aG:oB h p.db ts)(aB:ts.length≤140737488355328)(ae:cT h 6 w (ts.take 1))(ag:h.le D):pM D (K1 p) [I p.bS,d,r,w]:=by
 have gh:∀(l:List dO) (xs:List (ar)),oB h l xs→oB h (l.take 1) (xs.take 1):=by
  intro l xs aj;cases l with
  |nil =>
   cases xs with
   |nil=>exact aj
   |cons x r=>cases aj
  |cons s r =>
   obtain⟨x,fJ,e,ck,cm⟩:=aj;subst e;exact⟨x,[],rfl,ck,rfl⟩
 exact⟨d,r,w,rfl,A.mono ag,S.mono ag,ts.take 1,ae.mono ag,by rw[List.length_take];omega,(gh _ _ aG).mono ag⟩
theorem rQ(s:List Int)(n:Nat):(bf s n).2.length≤s.length∧((bf s n).1≠0→(bf s n).2.length+1≤s.length):=by
 cases s with
 |nil=>exact⟨br _,fun h=>absurd rfl h⟩
 |cons z r=>exact⟨by simp[bf],fun _=>by simp[bf]⟩
theorem LZ(any:Bool)(s:List Int)(l:List (aD)):(eZ any s l).2.length≤s.length:=by
 unfold eZ;split
 ·exact(rQ s 300).1
 ·exact(rQ s l.length).1
theorem ap4(c:fk)(s:List Int):(pA c s).2.2.length≤s.length:=by
 unfold pA;split
 ·exact LZ _ _ _
 ·exact rI (rQ _ _).1 (LZ _ _ _)
theorem af3(s:List Int):wS (xx s).1=1∧(xx s).2.length≤s.length:=by
 refine⟨rfl,?_⟩;have A:=(rQ s 10).1;have S:=(rQ (bf s 10).2 300).1;have ae:=(rQ (bf (bf s 10).2 300).2 4294967296).1;have aB:=(rQ (bf (bf (bf s 10).2 300).2 4294967296).2 3).1;show(bf (bf (bf (bf s 10).2 300).2 4294967296).2 3).2.length≤_;omega
theorem Qw(c:fk):∀(d:Nat) (s:List Int),wS (eG c d s).1+2*(eG c d s).2.length≤2*s.length+1
 |0,s=>by
  obtain⟨A,S⟩:=af3 (bf s 8).2;have ae:=(rQ s 8).1;show wS (xx (bf s 8).2).1+2*(xx (bf s 8).2).2.length≤_;omega
 |d+1,s=>by
  obtain⟨A,S⟩:=rQ s 8;unfold eG;dsimp only;split
  ·obtain⟨ck,cm⟩:=af3 (bf s 8).2;omega
  split
  ·have:=LZ c.any (bf s 8).2 qm;simp only[wS,pB];omega
  split
  ·have ck:=Qw c d (bf (bf s 8).2 3).2;have cm:=(rQ (bf s 8).2 3).1;have:=S (by omega);simp only[wS,pB];omega
  split
  ·have ck:=Qw c d (eZ c.any (bf s 8).2 c.held).2;have cm:=LZ c.any (bf s 8).2 c.held;have:=S (by omega);simp only[wS,pB];omega
  ·have ck:=Qw c d (bf (bf s 8).2 14).2;have cb:=Qw c d (eG c d (bf (bf s 8).2 14).2).2;have cm:=(rQ (bf s 8).2 14).1;have:=S (by omega);simp only[wS,pB];omega
theorem arX{rec:Option (fk→List Int→List aP × List Int)}(hr:∀ f,rec=some f→∀(c:fk) (s:List Int),nF (f c s).1+3*(f c s).2.length≤3*s.length)(c:fk)(hC:aD)(k:Nat)(s:List Int) :
  uF (rf rec c hC k s).1+3*(rf rec c hC k s).2.length≤3*s.length+(if k=0 then 1 else 4):=by
 have ex:=Qw c;unfold rf;split
 ·have A:=LZ c.any s c.c2;have S:=(rQ (eZ c.any s c.c2).2 4).1;dsimp only;simp only[uF,pB,nF];split<;>omega
 split
 ·have A:=LZ c.any s c.c2;have S:=(rQ (eZ c.any s c.c2).2 4).1;have ae:=ex 3 (bf (eZ c.any s c.c2).2 4).2;dsimp only;simp only[uF,pB,nF];split<;>omega
 split
 ·have A:=LZ c.any s c.held;have ae:=ex 2 (eZ c.any s c.held).2;have aB:=ex 3 (eG c 2 (eZ c.any s c.held).2).2;dsimp only;simp only[uF,pB,nF];split<;>omega
 split
 ·simp only[uF,pB,nF];split<;>omega
 split
 ·have ae:=ex 4 s;simp only[uF,pB,nF];split<;>omega
 ·rename_i ap6;split
  ·have A:=ap4 c s;have S:=hr _ rfl (ly c (pA c s).1 (pA c s).2.1) (pA c s).2.2;dsimp only;simp only[uF,pB,nF];split<;>omega
  split
  ·have ae:=ex 3 s;have A:=hr _ rfl c (eG c 3 s).2;have S:=hr _ rfl c (ap6 c (eG c 3 s).2).2;dsimp only;simp only[uF,pB,nF];split<;>omega
  split
  ·have A:=(rQ s 5).1;have S:=hr _ rfl c (bf s 5).2;dsimp only;simp only[uF,pB,nF];split<;>omega
  ·have ae:=ex 4 s;simp only[uF,pB,nF];split<;>omega
theorem arY{rec:Option (fk→List Int→List aP × List Int)}(hr:∀ f,rec=some f→∀(c:fk) (s:List Int),nF (f c s).1+3*(f c s).2.length≤3*s.length)(c:fk)(s:List Int) :
  uF (oZ rec c s).1+3*(oZ rec c s).2.length≤3*s.length+1:=by
 unfold oZ;have A:=LZ c.any s qm;obtain⟨S,ae⟩:=rQ (eZ c.any s qm).2 12;have aB:=arX hr c (eZ c.any s qm).1 (bf (eZ c.any s qm).2 12).1 (bf (eZ c.any s qm).2 12).2;split at aB
 ·omega
 ·rename_i ab;have:=ae ab;omega
theorem agl{one:List Int→aP × List Int}(h:∀ s,uF (one s).1+3*(one s).2.length≤3*s.length+1):∀(n:Nat) (s:List Int),nF (mu one n s).1+3*(mu one n s).2.length≤3*s.length+n
 |0,s=>by simp[mu,nF]
 |n+1,s=>by
  have A:=h s;have S:=agl h n (one s).2;simp only[mu,nF];omega
theorem XZ:∀(d:Nat) (c:fk) (s:List Int),nF (ow d c s).1+3*(ow d c s).2.length≤3*s.length
 |d,c,s=>by
  rw[adK];have ax:∀ s,uF (oZ (ms d) c s).1+3*(oZ (ms d) c s).2.length≤3*s.length+1:=fun s=>arY (fun f aZ c s=>by
   cases d with
   |zero=>cases aZ
   |succ d=>cases aZ;exact XZ d c s) c s
  have A:=agl ax (bf s 4).1 (bf s 4).2;obtain⟨S,ae⟩:=rQ s 4;by_cases h0:(bf s 4).1=0
  ·omega
  ·have:=ae h0;have:=nr s (n:=4) (by omega);omega
def Cf:List dO→Nat
 |[]=>0
 |t::r=>nF t.body+Cf r
theorem af1:∀ a b:List dO,Cf (a++b)=Cf a+Cf b
 |[],b=>by simp[Cf]
 |t::r,b=>by simp only[E0,Cf,af1 r b];omega
theorem ahK(c:fk):∀(k j:Nat) (s:List Int),Cf (kW c k j s).1+3*(kW c k j s).2.length≤3*s.length
 |0,j,s=>by simp[kW,Cf]
 |k+1,j,s=>by
  have A:=(rQ s 3).1;have S:=XZ 3 c (bf s 3).2;have ae:=ahK c k (j+1) (ow 3 c (bf s 3).2).2;simp only[kW,Cf];omega
theorem aaO(c:fk)(hn:Nat):∀(k j:Nat) (s:List Int),Cf (k9 c hn k j s).1+3*(k9 c hn k j s).2.length≤3*s.length
 |0,j,s=>by simp[k9,Cf]
 |k+1,j,s=>by
  have A:=(rQ s hn).1;have s5:=(rQ (bf s hn).2 4).1;have att:=(rQ (bf (bf s hn).2 4).2 2).1;have S:=XZ 2 c (bf (bf (bf s hn).2 4).2 2).2;have ae:=aaO c hn k (j+1) (ow 2 c (bf (bf (bf s hn).2 4).2 2).2).2;simp only[k9,Cf];omega
theorem Xs(kt:List (aD))(m:Nat):∀(k j:Nat) (s:List Int),(fW kt m k j s).2.length≤s.length
 |0,j,s=>br _
 |k+1,j,s=>rI (Xs kt m k (j+1) _) (rQ s m).1
theorem apP(raw:List Int)(all:Bool):Cf (Ea raw all).db≤1200:=by
 unfold Ea;dsimp only;rw[af1];have h0:(raw.take 400).length≤400:=by rw[List.length_take];omega
 have A:=(rQ (raw.take 400) 3).1;generalize bf (raw.take 400) 3=a at *;have S:=(rQ a.2 3).1;generalize bf a.2 3=bI at *;have ae:=Xs kD 3 (bI.1+1) 0 bI.2;generalize fW kD 3 (bI.1+1) 0 bI.2=bG at *;have aB:=(rQ bG.2 3).1;generalize bf bG.2 3=iI at *;have aG:=Xs kT 8 iI.1 0 iI.2;generalize fW kT 8 iI.1 0 iI.2=b3 at *;generalize (⟨bG.1.map (·.name),b3.1.map (·.name),0,[],all⟩:fk)=c;have a1:=ahK c (1+a.1) 0 b3.2;generalize kW c (1+a.1) 0 b3.2=ts at *;have bN:=(rQ ts.2 4).1;generalize bf ts.2 4=q3 at *;have b7:=aaO c (1+a.1) q3.1 0 q3.2;omega
def TL(ts:List Tok):Nat:=(rP (fun _=>0) 0 ts).length
theorem adJ(i j:Nat):∀ ts:List Tok,rP (fun _=>0) i ts=rP (fun _=>0) j ts
 |[]=>rfl
 |t::r=>by simp only[rP];rw[adJ (i+1) (j+1) r]
theorem tG:TL []=0:=rfl
theorem qq(t:Tok)(r:List Tok):TL (t::r)=t.text.length+1+TL r:=by
 unfold TL;simp only[rP,ap];rw[adJ (0+1) 0 r];rfl
theorem xP:∀ a b:List Tok,TL (a++b)=TL a+TL b
 |[],b=>by simp[tG]
 |t::r,b=>by rw[E0,qq,qq,xP r b];omega
theorem QA{e:aX}{d:Nat}(h:e1 e d)(m:Int):TL (fo m e)+2≤(bU e).length+3*wS e:=by
 have O8:∀(e:aX) (k:Nat) (ts:List Tok) (s:aD),TL (pJ m e k ts)+s.length≤(nb e k s).length+TL ts+2:=fun e k ts s=>by
  unfold pJ nb;split
  ·rw[qq,xP,qq,tG];simp only[hR,ap,qz,bD];omega
  ·omega
 induction h with
 |num n d h =>
  show TL [kV n m]+2≤(bs n).length+3*wS (.mk 1 0 n [] []);rw[qq,tG];simp only[wS,pB,kV];omega
 |var s d h =>
  show TL [fY s m]+2≤s.length+3*wS (.mk 2 0 0 s []);rw[qq,tG];simp only[wS,pB,fY];omega
 |one o a d h ai ih =>
  show TL (bD (eU o) m::pJ m a 9 (fo m a))+2≤(eU o++nb a 9 (bU a)).length+3*wS (.mk 3 o 0 [] [a]);have:=O8 a 9 (fo m a) (bU a);rw[qq];simp only[wS,pB,bD,ap];omega
 |two o a b d h ai T zu DI =>
  show TL (pJ m a (cy o) (fo m a)++bD (eU o) m::pJ m b (cy o+1) (fo m b))+2≤(nb a (cy o) (bU a)++32::(eU o++32::nb b (cy o+1) (bU b))).length+3*wS (.mk 4 o 0 [] [a,b]);have ck:=O8 a (cy o) (fo m a) (bU a);have cm:=O8 b (cy o+1) (fo m b) (bU b);rw[xP,qq];simp only[wS,pB,bD,ap,hR];omega
 |idx s a d h ai ih =>
  show TL (fY s m::bD [91] m::(fo m a++[bD [93] m]))+2≤(s++91::(bU a++[93])).length+3*wS (.mk 5 0 0 s [a]);rw[qq,qq,xP,qq,tG];simp only[wS,pB,bD,fY,ap,hR,qz];omega
theorem Xq{d t:Nat}(aM:∀ s,jx s d→∀ m,TL (sO m s)≤(gy t s).length+3*uF s):∀ {l:List aP},(∀ s∈l,jx s d)→∀ m,TL (ki m l)≤(cJ t l).length+3*nF l
 |[],_,m=>by simp[ki,tG]
 |s::r,h,m=>by
  have A:=aM s (h s (by simp)) m;have S:=Xq aM (l:=r) (fun x af=>h x (by simp[af])) (m+DS s);show TL (sO m s++ki (m+DS s) r)≤(gy t s++cJ t r).length+_;rw[xP,ap];simp only[nF];omega
theorem Gs(t:Nat)(jq:List (aD)):(dA t jq).length=t+jq.flatten.length+1:=by
 unfold dA bR;rw[ap,ap,List.length_replicate];rfl
theorem acA:∀(d:Nat) (s:aP),jx s d→∀(t:Nat) (m:Int),1≤t→TL (sO m s)≤(gy t s).length+3*uF s
 |0,s,h,t,m,aC=>by cases h
 |d+1,s,h,t,m,aC=>by
  have ih:∀ {l:List aP},(∀ s∈l,jx s d)→∀ m,TL (ki m l)≤(cJ (t+1) l).length+3*nF l:=fun {l} ag m=>Xq (t:=t+1) (fun s ak m=>acA d s ak (t+1) m (by omega)) ag m;have ni:∀(head:aD) (hd:List Tok) (aU bz:List aP) (k:Nat),TL hd+1≤head.length+k→(∀ s∈aU,jx s d)→(∀ s∈bz,jx s d) →
    TL (yl m hd (ki (m+1) aU) (ey aU) (ki (m+1+ey aU+1) bz) (ey bz) (!bz.isEmpty))≤(kC t head (cJ (t+1) aU) (cJ (t+1) bz) (!bz.isEmpty)).length+3*nF aU+3*nF bz+k:=fun head hd aU bz k ab A S=>by
   have dP:=ih A (m+1);have a2:=ih S (m+1+ey aU+1);unfold yl kC;cases bz with
   |nil =>
    simp only[List.isEmpty_nil,Fj,xZ,if_false,NE,zR,ap,Gs,xP,qq,tG,bD,z8,Ft,hR,qz,nF];omega
   |cons x r =>
    simp only[List.isEmpty_cons,Cg,if_true,ap,Gs,xP,qq,tG,bD,l3,z8,Ft,zR,hR,qz,E0];omega
  cases h with
  |set s a _ h ai =>
   have:=QA ai m;show TL (fY s m::bD [61] m::(fo m a++[bD [59] m]))≤(dA t [s,[32,61,32],bU a,[59]]).length+_;simp only[qq,xP,tG,Gs,fY,bD,z8,Ft,zR,ap,hR,qz,uF,pB,nF];omega
  |get s f n _ h aZ hn =>
   show TL [fY s m,bD [61] m,fY f m,bD [46] m,kV n m,bD [59] m]≤(dA t [s,[32,61,32],f,[46],bs n,[59]]).length+_;simp only[qq,xP,tG,Gs,fY,bD,kV,z8,Ft,zR,ap,hR,qz,uF,pB,nF];omega
  |put s n a _ h hn ai =>
   have:=QA ai m;show TL (fY s m::bD [46] m::kV n m::bD [61] m::(fo m a++[bD [59] m]))≤(dA t [s,[46],bs n,[32,61,32],bU a,[59]]).length+_;simp only[qq,xP,tG,Gs,fY,bD,kV,z8,Ft,zR,ap,hR,qz,uF,pB,nF];omega
  |store s a b _ h ai T =>
   have:=QA ai m;have:=QA T m;show TL (fY s m::bD [91] m::(fo m a++bD [93] m::bD [61] m::(fo m b++[bD [59] m])))≤(dA t [s,[91],bU a,[93,32,61,32],bU b,[59]]).length+_;simp only[qq,xP,tG,Gs,fY,bD,kV,z8,Ft,zR,ap,hR,qz,uF,pB,nF];omega
  |lock s aU _ h Ls =>
   have:=ni ([108,111,99,107,32]++s) [l3 [108,111,99,107] m,fY s m] aU [] 3 (by simp only[qq,tG,l3,fY,ap,hR,qz];omega) Ls (fun s ak=>by cases ak);show TL (yl m [l3 [108,111,99,107] m,fY s m] (ki (m+1) aU) (ey aU) (ki (m+1+ey aU+1) []) (ey []) (!([]:List aP).isEmpty))≤(kC t ([108,111,99,107,32]++s) (cJ (t+1) aU) (cJ (t+1) []) (!([]:List aP).isEmpty)).length+_;simp only[uF,pB,nF]at this ⊢;omega
  |cond a aU bz _ ai Ls K4 =>
   have A:=QA ai m;have:=ni ([105,102,32,40]++bU a++[41]) (l3 [105,102] m::bD [40] m::(fo m a++[bD [41] m])) aU bz (3*wS a+3) (by simp only[qq,xP,tG,l3,bD,ap,hR,qz];omega) Ls K4;show TL (yl m (l3 [105,102] m::bD [40] m::(fo m a++[bD [41] m])) (ki (m+1) aU) (ey aU) (ki (m+1+ey aU+1) bz) (ey bz) (!bz.isEmpty))≤(kC t ([105,102,32,40]++bU a++[41]) (cJ (t+1) aU) (cJ (t+1) bz) (!bz.isEmpty)).length+_;simp only[uF,pB]at this ⊢;omega
  |rW n aU _ hn Ls =>
   have:=ni ([114,101,112,101,97,116,32]++bs n) [l3 [114,101,112,101,97,116] m,kV n m] aU [] 3 (by simp only[qq,tG,l3,kV,ap,hR,qz];omega) Ls (fun s ak=>by cases ak);show TL (yl m [l3 [114,101,112,101,97,116] m,kV n m] (ki (m+1) aU) (ey aU) (ki (m+1+ey aU+1) []) (ey []) (!([]:List aP).isEmpty))≤(kC t ([114,101,112,101,97,116,32]++bs n) (cJ (t+1) aU) (cJ (t+1) []) (!([]:List aP).isEmpty)).length+_;simp only[uF,pB,nF]at this ⊢;omega
  |halt =>
   show TL [l3 [104,97,108,116] m,bD [59] m]≤(dA t [[104,97,108,116,59]]).length+_;simp only[qq,tG,Gs,l3,bD,z8,Ft,zR,hR,qz,uF,pB,nF];omega
theorem abj:∀(bG:List Nm) (m:Int),TL (xO m bG)≤((bG.map ir).flatten).length
 |[],m=>by simp[xO,tG]
 |d::r,m=>by
  have h:=abj r (m+1);show TL (aqO m d++xO (m+1) r)≤(ir d++(r.map ir).flatten).length;rw[xP,ap];have:TL (aqO m d)≤(ir d).length:=by
   unfold aqO ir;simp only[qq,tG,Gs,l3,fY,z8,Ft,zR,ap,hR,qz];omega
  omega
theorem abk:∀(bG:List Nm) (m:Int),TL (v7 m bG)≤((bG.map iR).flatten).length
 |[],m=>by simp[v7,tG]
 |d::r,m=>by
  have h:=abk r (m+1);show TL (aqP m d++v7 (m+1) r)≤(iR d++(r.map iR).flatten).length;rw[xP,ap];have:TL (aqP m d)≤(iR d).length:=by
   unfold aqP iR;simp only[qq,tG,Gs,l3,fY,kV,z8,Ft,zR,ap,hR,qz];omega
  omega
theorem ad9:∀(ts:List dO),(∀ t∈ts,js t=true)→∀ m:Int,TL (nX m ts)≤((ts.map fh).flatten).length+3*Cf ts
 |[],_,m=>by simp[nX,tG]
 |t::r,h,m=>by
  have A:=ad9 r (fun x af=>h x (by simp[af])) (m+(2+ey t.body:Nat));obtain⟨cd,cS,tu,Ec,acc⟩:=agX (h t (by simp));have T:=Xq (t:=1) (fun s ak m=>acA 30 s ak 1 m (by omega)) acc (m+1);show TL (If m t++nX (m+(2+ey t.body:Nat)) r)≤(fh t++(r.map fh).flatten).length+3*(nF t.body+Cf r);rw[xP,ap];have:TL (If m t)≤(fh t).length+3*nF t.body:=by
   unfold If Gc fh qN;cases t.ga with
   |true =>
    simp only[if_true,xP,qq,tG,Gs,l3,fY,kV,bD,z8,Ft,zR,ap,hR,qz];omega
   |false =>
    simp only[xZ,if_false,xP,qq,tG,Gs,l3,fY,kV,bD,z8,Ft,zR,ap,hR,qz];omega
  omega
theorem aov{p:gS}(hp:mT p=true):TL (Et p)≤(lZ p).length+3*Cf p.db:=by
 obtain⟨cp,S,ae,aB⟩:=UQ hp;have a:=abj p.c2 2;have b:=abk p.cv (2+p.c2.length);have c:=ad9 p.db aB (2+p.c2.length+p.cv.length);unfold Et lZ;simp only[xP,qq,tG,Gs,l3,kV,z8,Ft,zR,ap,hR,qz];omega
theorem aox(ts:List Tok)(k:Nat):TL (ts.take k)≤TL ts:=by
 have:=xP (ts.take k) (ts.drop k);rw[PJ]at this;omega
section
variable (m0:Int)
def pc{c1:Type}(two:c1→Prop)(w:List Tok)(a:c1)(r:List Tok)(y:PR c1):Prop :=
 y=.out∨(∃ n,y=.bad 70 n)∨(∃ a',two a'∧y=.ok a' [me m0])∨∃ u2,r=u2++w∧y=.ok a (u2++[me m0])
def any{c1:Type}:c1→Prop:=fun _=>True
def Pd{c1:Type}:c1→Prop:=fun _=>False
variable {m0}
theorem pc.bad{c1:Type}{two:c1→Prop}{w r:List Tok}{a:c1}{y:PR c1}{n:Int}(h:y=.bad 70 n):pc m0 two w a r y:=.inr (.inl ⟨n,h⟩)
theorem pc.xQ{c1:Type}{two:c1→Prop}{w r:List Tok}{a a':c1}{y:PR c1}(S:two a')(h:y=.ok a' [me m0]):pc m0 two w a r y:=.inr (.inr (.inl ⟨a',S,h⟩))
theorem pc.three{c1:Type}{two:c1→Prop}{w r u2:List Tok}{a:c1}{y:PR c1}(hr:r=u2++w)(h:y=.ok a (u2++[me m0])):pc m0 two w a r y:=.inr (.inr (.inr ⟨u2,hr,h⟩))
theorem pc.bind{c1 l5:Type}{two:c1→Prop}{Yz:l5→Prop}{w r dL:List Tok}{a:c1}{b:l5}{y:PR c1}{HI:c1→List Tok→PR l5}(h:pc m0 two w a r y)
  (S:∀ a',two a'→pc m0 Yz w b dL (HI a' [me m0])) (ae:∀ u2,r=u2++w→pc m0 Yz w b dL (HI a (u2++[me m0]))):pc m0 Yz w b dL (y.bind HI):=by
 rcases h with h|⟨n,h⟩|⟨a',k,h⟩|⟨u2,k,h⟩
 ·rw[h];exact .inl rfl
 ·rw[h];exact .bad rfl
 ·rw[h];exact S a' k
 ·rw[h];exact ae u2 k
theorem Ce(s:aD)(m:Int):dk s (me m)=false:=by simp[dk,me]
theorem Ou(s:aD):mP s [me m0]=.bad 70 m0:=by
 unfold mP;rw[show hd [me m0]=me m0 from rfl,Ce];rfl
theorem aeo{k:Int}(h:k≠5):im k [me m0]=.bad 70 m0:=by
 unfold im;rw[show hd [me m0]=me m0 from rfl,if_neg (by show(5:Int)≠k;omega)];rfl
theorem Hs{s:aD}{u w r:List Tok}{x:Unit}(h:mP s (u++w)=.ok x r):pc m0 Pd w x r (mP s (u++[me m0])):=by
 cases u with
 |nil=>exact .bad (Ou s)
 |cons t u =>
  unfold mP at h ⊢;rw[show hd (t::u++w)=t from rfl]at h;rw[show hd (t::u++[me m0])=t from rfl];split at h
  ·rename_i aj;cases h;rw[if_pos aj];exact .three (u2:=u) rfl rfl
  ·cases h
theorem E7{k:Int}(ab:k≠5){u w r:List Tok}{x:Tok}(h:im k (u++w)=.ok x r):pc m0 Pd w x r (im k (u++[me m0])):=by
 cases u with
 |nil=>exact .bad (aeo ab)
 |cons t u =>
  unfold im at h ⊢;rw[show hd (t::u++w)=t from rfl,if_neg ab]at h;rw[show hd (t::u++[me m0])=t from rfl,if_neg ab];split at h
  ·rename_i aj;cases h;rw[if_pos aj];exact .three (u2:=u) rfl rfl
  ·cases h
theorem afn(f deep:Nat)(h:¬ 1000<deep):nT (f+1) deep [me m0]=.bad 70 m0:=by
 rw[nT,if_neg h];simp only[show hd [me m0]=me m0 from rfl,Ce,show unOp (me m0)=0 from rfl,show(me m0).kind=5 from rfl];rfl
theorem Te(f:Nat)(x:aX)(dz deep:Nat):qc (f+1) x dz deep [me m0]=.ok x [me m0]:=by
 rw[qc,if_pos (.inl rfl)]
theorem QP:∀ f:Nat,(∀ deep u w e r,nT f deep (u++w)=.ok e r→pc m0 any w e r (nT f deep (u++[me m0])))∧(∀ dz deep u w e r,lB f dz deep (u++w)=.ok e r→pc m0 any w e r (lB f dz deep (u++[me m0])))∧(∀ x dz deep u w e r,qc f x dz deep (u++w)=.ok e r→pc m0 any w e r (qc f x dz deep (u++[me m0])))
 |0=>⟨fun _ _ _ _ _ h=>(by rw[nT]at h;cases h),fun _ _ _ _ _ _ h=>(by rw[lB]at h;cases h),fun _ _ _ _ _ _ _ h=>(by rw[qc]at h;cases h)⟩
 |f+1=>by
  obtain⟨A,S,ae⟩:=QP f;refine⟨fun deep u w e r h=>?_,fun dz deep u w e r h=>?_,fun x dz deep u w e r h=>?_⟩
  ·rw[nT]at h;split at h
   ·cases h
   rename_i aj0;cases u with
   |nil=>exact .bad (afn f deep aj0)
   |cons t u =>
    rw[nT,if_neg aj0];rw[show hd (t::u++w)=t from rfl,show(t::u++w).tail=u++w from rfl]at h;rw[show hd (t::u++[me m0])=t from rfl,show(t::u++[me m0]).tail=u++[me m0] from rfl];split at h
    ·rename_i aj;rw[if_pos aj];obtain⟨a,cn,g1,g2⟩:=PR.hc h;refine(A _ _ _ _ _ g1).bind (fun a' _=>.xQ trivial rfl) (fun u2 k=>?_);cases g2;exact .three k rfl
    rename_i pZ;rw[if_neg pZ];split at h
    ·rename_i aj;rw[if_pos aj];obtain⟨a,cn,g1,g2⟩:=PR.hc h;refine(S _ _ _ _ _ _ g1).bind (fun a' _=>?_) (fun u2 k=>?_)
     ·rw[Ou];exact .bad rfl
     ·subst k;obtain⟨b,bM,g3,g4⟩:=PR.hc g2;refine(Hs g3).bind (fun _ k=>k.elim) (fun fi k=>?_);cases g4;exact .three k rfl
    rename_i k4;rw[if_neg k4];split at h
    ·rename_i aj;rw[if_pos aj];cases h;exact .three rfl rfl
    rename_i eN;rw[if_neg eN];split at h
    ·cases h
    rename_i qM;rw[if_neg qM];cases u with
    |nil =>
     rw[show hd ([]++[me m0])=me m0 from rfl,Ce];exact .xQ trivial rfl
    |cons t2 u =>
     rw[show hd (t2::u++w)=t2 from rfl,show(t2::u++w).tail=u++w from rfl]at h;rw[show hd (t2::u++[me m0])=t2 from rfl,show(t2::u++[me m0]).tail=u++[me m0] from rfl];split at h
     ·rename_i T;rw[if_pos T];obtain⟨a,cn,g1,g2⟩:=PR.hc h;refine(S _ _ _ _ _ _ g1).bind (fun a' _=>?_) (fun u2 k=>?_)
      ·rw[Ou];exact .bad rfl
      ·subst k;obtain⟨b,bM,g3,g4⟩:=PR.hc g2;refine(Hs g3).bind (fun _ k=>k.elim) (fun fi k=>?_);cases g4;exact .three k rfl
     ·rename_i T;rw[if_neg T];cases h;exact .three (u2:=t2::u) rfl rfl
  ·rw[lB]at h ⊢;obtain⟨a,cn,g1,g2⟩:=PR.hc h;refine(A _ _ _ _ _ g1).bind (fun a' _=>?_) (fun u2 k=>?_)
   ·cases f with
    |zero=>rw[qc];exact .inl rfl
    |succ f=>rw[Te];exact .xQ trivial rfl
   ·subst k;exact ae _ _ _ _ _ _ _ g2
  ·cases u with
   |nil=>rw[NE,Te];exact .xQ trivial rfl
   |cons t u =>
    rw[qc]at h ⊢;rw[show hd (t::u++w)=t from rfl,show(t::u++w).tail=u++w from rfl]at h;rw[show hd (t::u++[me m0])=t from rfl,show(t::u++[me m0]).tail=u++[me m0] from rfl];split at h
    ·rename_i aj;rw[if_pos aj];cases h;exact .three (u2:=t::u) rfl rfl
    ·rename_i aj;rw[if_neg aj];obtain⟨a,cn,g1,g2⟩:=PR.hc h;refine(S _ _ _ _ _ _ g1).bind (fun a' _=>?_) (fun u2 k=>?_)
     ·cases f with
      |zero=>rw[qc];exact .inl rfl
      |succ f=>rw[Te];exact .xQ trivial rfl
     ·subst k;exact ae _ _ _ _ _ _ _ g2
theorem amj(f dz deep:Nat)(h:¬ 1000<deep):lB f dz deep [me m0]=.out∨∃ n,lB f dz deep [me m0]=.bad 70 n:=by
 cases f with
 |zero=>exact .inl (by rw[lB])
 |succ f =>
  rw[lB];cases f with
  |zero=>rw[nT];exact .inl rfl
  |succ f=>rw[afn f deep h];exact .inr ⟨_,rfl⟩
theorem amC{c1:Type}{two:c1→Prop}{w r:List Tok}{a:c1}{f dz deep:Nat}{g:aX→List Tok→PR c1}(h:¬ 1000<deep):pc m0 two w a r ((lB f dz deep [me m0]).bind g):=by
 rcases amj (m0:=m0) f dz deep h with e|⟨n,e⟩
 ·rw[e];exact .inl rfl
 ·rw[e];exact .bad rfl
theorem XM{f deep:Nat}(aj0:¬ 1000<deep){k n:Int}{m:aD}{xs:List aX}{u w r:List Tok}{s:aP}(h:tq f deep k m n xs (u++w)=.ok s r):pc m0 any w s r (tq f deep k m n xs (u++[me m0])):=by
 unfold tq at h ⊢;obtain⟨_,cn,g1,g2⟩:=PR.hc h;refine(Hs g1).bind (fun _ k=>k.elim) (fun u2 ab=>?_);subst ab;cases u2 with
 |nil =>
  rw[if_neg (fun aj=>absurd aj.2.1 (show(5:Int)≠1 by decide))];exact amC aj0
 |cons t u2 =>
  rw[show hd (t::u2++w)=t from rfl,show(t::u2++w).tail=u2++w from rfl]at g2;rw[show hd (t::u2++[me m0])=t from rfl,show(t::u2++[me m0]).tail=u2++[me m0] from rfl];cases u2 with
  |nil =>
   rw[if_neg (fun aj=>absurd aj.2.2 (show([]:aD)≠[46] by decide))];split at g2
   ·rename_i aj
    -- a name, and the end
    have it:∀ s,dk s t=false:=fun s=>by simp[dk,aj.2.1]
    have un:unOp t=0:=by unfold unOp;simp only[it];rfl
    cases f with
    |zero=>rw[lB];exact .inl rfl
    |succ f =>
     rw[lB];cases f with
     |zero=>rw[nT];exact .inl rfl
     |succ f =>
      have az:nT (f+1) deep (t::([]++[me m0]))=.ok (.mk 2 0 0 t.text []) [me m0]:=by
       rw[nT,if_neg aj0];simp only[show hd (t::([]++[me m0]))=t from rfl,show(t::([]++[me m0])).tail=[me m0] from rfl,show hd [me m0]=me m0 from rfl,it,un,Ce,aj.2.1];rfl
      rw[show t::[]++[me m0]=t::([]++[me m0]) from rfl,az];show pc m0 any w s r ((qc (f+1) _ 1 deep [me m0]).bind _);rw[Te];exact .xQ trivial rfl
   ·obtain⟨a,bM,g3,g4⟩:=PR.hc g2;refine((QP f).2.1 _ _ [t] w _ _ g3).bind (fun a' _=>.xQ trivial rfl) (fun fi ab=>?_);cases g4;exact .three ab rfl
  |cons t2 u2 =>
   rw[show hd (t2::u2++w)=t2 from rfl]at g2;rw[show hd (t2::u2++[me m0])=t2 from rfl];split at g2
   ·rename_i aj;rw[if_pos aj];obtain⟨a,bM,g3,g4⟩:=PR.hc g2;refine(E7 (by decide) (u:=t::t2::u2) g3).bind (fun _ k=>k.elim) (fun fi ab=>?_);subst ab;obtain⟨b,cE,g5,g6⟩:=PR.hc g4;refine(Hs g5).bind (fun _ k=>k.elim) (fun ox ab=>?_);subst ab;obtain⟨c,eb,g7,g8⟩:=PR.hc g6;refine(E7 (by decide) g7).bind (fun _ k=>k.elim) (fun B4 ab=>?_);cases g8;exact .three ab rfl
   ·rename_i aj;rw[if_neg aj];obtain⟨a,bM,g3,g4⟩:=PR.hc g2;refine((QP f).2.1 _ _ (t::t2::u2) w _ _ g3).bind (fun a' _=>.xQ trivial rfl) (fun fi ab=>?_);cases g4;exact .three ab rfl
theorem aqX{f deep:Nat}{k n:Int}{m:aD}{xs:List aX}:tq f deep k m n xs [me m0]=.bad 70 m0:=by
 unfold tq;rw[Ou];rfl
theorem apn{f deep:Nat}(aj0:¬ 1000<deep){m:aD}{u w r:List Tok}{s:aP}(h:uH f deep m (u++w)=.ok s r):pc m0 any w s r (uH f deep m (u++[me m0])):=by
 unfold uH at h ⊢;cases u with
 |nil =>
  rw[show hd ([]++[me m0])=me m0 from rfl,Ce,Ce];exact .bad (aqX (m0:=m0) (f:=f) (deep:=deep) (k:=1) (n:=0) (m:=m) (xs:=[]))
 |cons t u =>
  rw[show hd (t::u++w)=t from rfl,show(t::u++w).tail=u++w from rfl]at h;rw[show hd (t::u++[me m0])=t from rfl,show(t::u++[me m0]).tail=u++[me m0] from rfl];split at h
  ·rename_i aj;rw[if_pos aj];obtain⟨a,cn,g1,g2⟩:=PR.hc h;refine(E7 (by decide) g1).bind (fun _ k=>k.elim) (fun u2 ab=>?_);subst ab;exact XM aj0 g2
  rename_i pZ;rw[if_neg pZ];split at h
  ·rename_i aj;rw[if_pos aj];obtain⟨a,cn,g1,g2⟩:=PR.hc h;refine((QP f).2.1 _ _ _ _ _ _ g1).bind (fun a' _=>?_) (fun u2 ab=>?_)
   ·rw[Ou];exact .bad rfl
   ·subst ab;obtain⟨b,bM,g3,g4⟩:=PR.hc g2;refine(Hs g3).bind (fun _ k=>k.elim) (fun fi ab=>?_);subst ab;exact XM aj0 g4
  ·rename_i aj;rw[if_neg aj];exact XM aj0 h
theorem ag2(f deep:Nat):pE f deep [me m0]=.out∨∃ n,pE f deep [me m0]=.bad 70 n:=by
 cases f with
 |zero=>exact .inl (by rw[pE])
 |succ f =>
  refine .inr ⟨m0,?_⟩;rw[pE];simp only[show hd [me m0]=me m0 from rfl,Ce,xZ,if_false];rw[aeo (by decide)];rfl
theorem agx(f deep:Nat):pF f deep [me m0]=.out∨∃ n,pF f deep [me m0]=.bad 70 n:=by
 cases f with
 |zero=>exact .inl (by rw[pF])
 |succ f =>
  rw[pF];simp only[show hd [me m0]=me m0 from rfl,Ce,xZ,if_false];rcases ag2 (m0:=m0) f deep with e|⟨n,e⟩
  ·rw[e];exact .inl rfl
  ·rw[e];exact .inr ⟨n,rfl⟩
theorem XU:∀ f:Nat,(∀ deep u w e r,¬ 1000<deep→pE f deep (u++w)=.ok e r→pc m0 any w e r (pE f deep (u++[me m0])))∧(∀ deep u w e r,jL f deep (u++w)=.ok e r→pc m0 Pd w e r (jL f deep (u++[me m0])))∧(∀ deep u w e r,¬ 1000<deep→pF f deep (u++w)=.ok e r→pc m0 Pd w e r (pF f deep (u++[me m0])))
 |0=>⟨fun _ _ _ _ _ _ h=>(by rw[pE]at h;cases h),fun _ _ _ _ _ h=>(by rw[jL]at h;cases h),fun _ _ _ _ _ _ h=>(by rw[pF]at h;cases h)⟩
 |f+1=>by
  obtain⟨A,S,ae⟩:=XU f;refine⟨fun deep u w e r k6 h=>?_,fun deep u w e r h=>?_,fun deep u w e r k6 h=>?_⟩
  ·cases u with
   |nil =>
    rcases ag2 (m0:=m0) (f+1) deep with az|⟨n,az⟩
    ·exact .inl az
    ·exact .bad az
   |cons t u =>
    rw[pE]at h ⊢;rw[show hd (t::u++w)=t from rfl,show(t::u++w).tail=u++w from rfl]at h;rw[show hd (t::u++[me m0])=t from rfl,show(t::u++[me m0]).tail=u++[me m0] from rfl];split at h
    ·rename_i aj;rw[if_pos aj];obtain⟨_,cn,g1,g⟩:=PR.hc h;refine(Hs g1).bind (fun _ k=>k.elim) (fun u2 ab=>?_);subst ab;obtain⟨az,bM,g2,g⟩:=PR.hc g;refine((QP f).2.1 _ _ _ _ _ _ g2).bind (fun a' _=>?_) (fun fi ab=>?_)
     ·rw[Ou];exact .bad rfl
     subst ab;obtain⟨_,cE,g3,g⟩:=PR.hc g;refine(Hs g3).bind (fun _ k=>k.elim) (fun ox ab=>?_);subst ab;obtain⟨v6,eb,g4,g⟩:=PR.hc g;refine(S _ _ _ _ _ g4).bind (fun _ k=>k.elim) (fun B4 ab=>?_);subst ab;cases B4 with
     |nil =>
      rw[show hd ([]++[me m0])=me m0 from rfl,Ce];exact .xQ trivial rfl
     |cons t5 B4 =>
      rw[show hd (t5::B4++w)=t5 from rfl,show(t5::B4++w).tail=B4++w from rfl]at g;rw[show hd (t5::B4++[me m0])=t5 from rfl,show(t5::B4++[me m0]).tail=B4++[me m0] from rfl];split at g
      ·rename_i T;rw[if_pos T];obtain⟨x,ku,g6,g⟩:=PR.hc g;refine(S _ _ _ _ _ g6).bind (fun _ k=>k.elim) (fun u6 ab=>?_);cases g;exact .three ab rfl
      ·rename_i T;rw[if_neg T];cases g;exact .three (u2:=t5::B4) rfl rfl
    rename_i k4;rw[if_neg k4];split at h
    ·rename_i aj;rw[if_pos aj];obtain⟨a,cn,g1,g⟩:=PR.hc h;refine(E7 (by decide) g1).bind (fun _ k=>k.elim) (fun u2 ab=>?_);subst ab;obtain⟨v6,eb,g4,g⟩:=PR.hc g;refine(S _ _ _ _ _ g4).bind (fun _ k=>k.elim) (fun B4 ab=>?_);cases g;exact .three ab rfl
    rename_i eN;rw[if_neg eN];split at h
    ·rename_i aj;rw[if_pos aj];obtain⟨a,cn,g1,g⟩:=PR.hc h;refine(E7 (by decide) g1).bind (fun _ k=>k.elim) (fun u2 ab=>?_);subst ab;obtain⟨v6,eb,g4,g⟩:=PR.hc g;refine(S _ _ _ _ _ g4).bind (fun _ k=>k.elim) (fun B4 ab=>?_);cases g;exact .three ab rfl
    rename_i qM;rw[if_neg qM];split at h
    ·rename_i aj;rw[if_pos aj];obtain⟨a,cn,g1,g⟩:=PR.hc h;refine(Hs g1).bind (fun _ k=>k.elim) (fun u2 ab=>?_);cases g;exact .three ab rfl
    ·rename_i aj;rw[if_neg aj];obtain⟨a,cn,g1,g⟩:=PR.hc h;refine(E7 (by decide) (u:=t::u) g1).bind (fun _ k=>k.elim) (fun u2 ab=>?_);subst ab;obtain⟨x,bM,g2,g⟩:=PR.hc g;refine(apn k6 g2).bind (fun a' _=>?_) (fun fi ab=>?_)
     ·rw[Ou];exact .bad rfl
     subst ab;obtain⟨_,cE,g3,g⟩:=PR.hc g;refine(Hs g3).bind (fun _ k=>k.elim) (fun ox ab=>?_);cases g;exact .three ab rfl
  ·rw[jL]at h ⊢;obtain⟨_,cn,g1,g2⟩:=PR.hc h;refine(Hs g1).bind (fun _ k=>k.elim) (fun u2 ab=>?_);subst ab;split at g2
   ·cases g2
   ·rename_i aj;rw[if_neg aj];exact ae _ _ _ _ _ aj g2
  ·cases u with
   |nil =>
    rcases agx (m0:=m0) (f+1) deep with az|⟨n,az⟩
    ·exact .inl az
    ·exact .bad az
   |cons t u =>
    rw[pF]at h ⊢;rw[show hd (t::u++w)=t from rfl,show(t::u++w).tail=u++w from rfl]at h;rw[show hd (t::u++[me m0])=t from rfl,show(t::u++[me m0]).tail=u++[me m0] from rfl];split at h
    ·rename_i aj;rw[if_pos aj];cases h;exact .three rfl rfl
    ·rename_i aj;rw[if_neg aj];obtain⟨a,cn,g1,g⟩:=PR.hc h;refine(A deep (t::u) _ _ _ k6 g1).bind (fun a' _=>?_) (fun u2 ab=>?_)
     ·rcases agx (m0:=m0) f deep with az|⟨n,az⟩
      ·rw[az];exact .inl rfl
      ·rw[az];exact .bad rfl
     subst ab;obtain⟨b,bM,g2,g⟩:=PR.hc g;refine(ae _ _ _ _ _ k6 g2).bind (fun _ k=>k.elim) (fun fi ab=>?_);cases g;exact .three ab rfl
def pre{c1:Type}(bG:List c1):List c1→Prop:=fun x=>∃ k,x=bG.take k
theorem alM{u w r:List Tok}{d:Nm}(h:BU (u++w)=.ok d r):pc m0 Pd w d r (BU (u++[me m0])):=by
 unfold BU at h ⊢;obtain⟨a,cn,g1,g⟩:=PR.hc h;refine(E7 (by decide) g1).bind (fun _ k=>k.elim) (fun u2 ab=>?_);subst ab;cases u2 with
 |nil =>
  rw[show hd ([]++[me m0])=me m0 from rfl,Ce,Ce,Ce];exact .bad (n:=m0) rfl
 |cons t u2 =>
  rw[show hd (t::u2++w)=t from rfl,show(t::u2++w).tail=u2++w from rfl]at g;rw[show hd (t::u2++[me m0])=t from rfl,show(t::u2++[me m0]).tail=u2++[me m0] from rfl];split at g
  ·rename_i aj;rw[if_pos aj];cases g;exact .three rfl rfl
  rename_i A;rw[if_neg A];split at g
  ·rename_i aj;rw[if_pos aj];cases g;exact .three rfl rfl
  rename_i S;rw[if_neg S];split at g
  ·rename_i aj;rw[if_pos aj];cases g;exact .three rfl rfl
  ·cases g
theorem alZ(f:Nat):oT f [me m0]=.out∨oT f [me m0]=.ok [] [me m0]:=by
 cases f with
 |zero=>exact .inl (by rw[oT])
 |succ f=>rw[oT,show hd [me m0]=me m0 from rfl,Ce];exact .inr rfl
theorem afN(f:Nat):mS f [me m0]=.out∨mS f [me m0]=.ok [] [me m0]:=by
 cases f with
 |zero=>exact .inl (by rw[mS])
 |succ f=>rw[mS,show hd [me m0]=me m0 from rfl,Ce];exact .inr rfl
theorem Yq(f:Nat):nu f [me m0]=.out∨nu f [me m0]=.ok [] [me m0]:=by
 cases f with
 |zero=>exact .inl (by rw[nu])
 |succ f=>rw[nu,show hd [me m0]=me m0 from rfl,Ce,Ce];exact .inr rfl
theorem pre_nil{c1:Type}(bG:List c1):pre bG []:=⟨0,by simp⟩
theorem T1{c1:Type}{d:c1}{bG x:List c1}(h:pre bG x):pre (d::bG) (d::x):=by
 obtain⟨k,e⟩:=h;exact⟨k+1,by rw[e];rfl⟩
theorem ZT:∀(f:Nat) (u w r:List Tok) (bG:List Nm),oT f (u++w)=.ok bG r→pc m0 (pre bG) w bG r (oT f (u++[me m0]))
 |0,u,w,r,bG,h=>by rw[oT]at h;cases h
 |f+1,u,w,r,bG,h=>by
  cases u with
  |nil =>
   rcases alZ (m0:=m0) (f+1) with e|e
   ·exact .inl e
   ·exact .xQ (pre_nil bG) e
  |cons t u =>
   rw[oT]at h ⊢;rw[show hd (t::u++w)=t from rfl,show(t::u++w).tail=u++w from rfl]at h;rw[show hd (t::u++[me m0])=t from rfl,show(t::u++[me m0]).tail=u++[me m0] from rfl];split at h
   ·rename_i aj;rw[if_pos aj];obtain⟨a,cn,g1,g⟩:=PR.hc h;obtain⟨b,bM,g2,g⟩:=PR.hc g;cases g;refine(alM g1).bind (fun _ k=>k.elim) (fun u2 ab=>?_);subst ab;exact(ZT f _ _ _ _ g2).bind (fun a' k=>.xQ (T1 k) rfl) (fun fi ab=>.three ab rfl)
   ·rename_i aj;rw[if_neg aj];cases h;exact .three (u2:=t::u) rfl rfl
theorem afB:∀(f:Nat) (u w r:List Tok) (bG:List Nm),mS f (u++w)=.ok bG r→pc m0 (pre bG) w bG r (mS f (u++[me m0]))
 |0,u,w,r,bG,h=>by rw[mS]at h;cases h
 |f+1,u,w,r,bG,h=>by
  cases u with
  |nil =>
   rcases afN (m0:=m0) (f+1) with e|e
   ·exact .inl e
   ·exact .xQ (pre_nil bG) e
  |cons t u =>
   rw[mS]at h ⊢;rw[show hd (t::u++w)=t from rfl,show(t::u++w).tail=u++w from rfl]at h;rw[show hd (t::u++[me m0])=t from rfl,show(t::u++[me m0]).tail=u++[me m0] from rfl];split at h
   ·rename_i aj;rw[if_pos aj];obtain⟨a,cn,g1,g⟩:=PR.hc h;obtain⟨b,bM,g2,g⟩:=PR.hc g;obtain⟨c,cE,g3,g⟩:=PR.hc g;cases g;refine(E7 (by decide) g1).bind (fun _ k=>k.elim) (fun u2 ab=>?_);subst ab;refine(E7 (by decide) g2).bind (fun _ k=>k.elim) (fun fi ab=>?_);subst ab;exact(afB f _ _ _ _ g3).bind (fun a' k=>.xQ (T1 k) rfl) (fun fi ab=>.three ab rfl)
   ·rename_i aj;rw[if_neg aj];cases h;exact .three (u2:=t::u) rfl rfl
theorem ahH{f:Nat}{b:Bool}{u w r:List Tok}{d:dO}(h:vR f b (u++w)=.ok d r):pc m0 Pd w d r (vR f b (u++[me m0])):=by
 unfold vR at h ⊢;obtain⟨dP,cn,g1,g⟩:=PR.hc h;refine(E7 (by decide) g1).bind (fun _ k=>k.elim) (fun u2 ab=>?_);subst ab;obtain⟨a2,bM,g2,g⟩:=PR.hc g;refine(E7 (by decide) g2).bind (fun _ k=>k.elim) (fun fi ab=>?_);subst ab;obtain⟨a3,cE,g3,g⟩:=PR.hc g;refine(E7 (by decide) g3).bind (fun _ k=>k.elim) (fun ox ab=>?_);subst ab;split at g
 ·rename_i aj;rw[if_pos aj];obtain⟨a4,eb,g4,g⟩:=PR.hc g;refine(E7 (by decide) g4).bind (fun _ k=>k.elim) (fun B4 ab=>?_);subst ab;obtain⟨a5,gn,g5,g⟩:=PR.hc g;cases g;exact((XU f).2.1 _ _ _ _ _ g5).bind (fun _ k=>k.elim) (fun u6 ab=>.three ab rfl)
 ·rename_i aj;rw[if_neg aj];obtain⟨a5,gn,g5,g⟩:=PR.hc g;cases g;exact((XU f).2.1 _ _ _ _ _ g5).bind (fun _ k=>k.elim) (fun u6 ab=>.three ab rfl)
theorem Yp:∀(f:Nat) (u w r:List Tok) (bG:List dO),nu f (u++w)=.ok bG r→pc m0 (pre bG) w bG r (nu f (u++[me m0]))
 |0,u,w,r,bG,h=>by rw[nu]at h;cases h
 |f+1,u,w,r,bG,h=>by
  cases u with
  |nil =>
   rcases Yq (m0:=m0) (f+1) with e|e
   ·exact .inl e
   ·exact .xQ (pre_nil bG) e
  |cons t u =>
   rw[nu]at h ⊢;rw[show hd (t::u++w)=t from rfl,show(t::u++w).tail=u++w from rfl]at h;rw[show hd (t::u++[me m0])=t from rfl,show(t::u++[me m0]).tail=u++[me m0] from rfl];split at h
   ·rename_i aj;rw[if_pos aj];obtain⟨a,cn,g1,g⟩:=PR.hc h;obtain⟨b,bM,g2,g⟩:=PR.hc g;cases g;refine(ahH g1).bind (fun _ k=>k.elim) (fun u2 ab=>?_);subst ab;exact(Yp f _ _ _ _ g2).bind (fun a' k=>.xQ (T1 k) rfl) (fun fi ab=>.three ab rfl)
   rename_i k4;rw[if_neg k4];split at h
   ·rename_i aj;rw[if_pos aj];obtain⟨a,cn,g1,g⟩:=PR.hc h;obtain⟨b,bM,g2,g⟩:=PR.hc g;cases g;refine(ahH g1).bind (fun _ k=>k.elim) (fun u2 ab=>?_);subst ab;exact(Yp f _ _ _ _ g2).bind (fun a' k=>.xQ (T1 k) rfl) (fun fi ab=>.three ab rfl)
   ·rename_i aj;rw[if_neg aj];cases h;exact .three (u2:=t::u) rfl rfl
def aft(p:gS):gS→Prop:=fun q=>q.bS=p.bS∧pre p.c2 q.c2∧pre p.cv q.cv∧pre p.db q.db
theorem Xu{c1:Type}(bG:List c1):pre bG bG:=⟨bG.length,by simp⟩
theorem apR{f:Nat}{u w r:List Tok}{p:gS}(h:BX f (u++w)=.ok p r):pc m0 (aft p) w p r (BX f (u++[me m0])):=by
 unfold BX at h ⊢;obtain⟨_,cn,g1,g⟩:=PR.hc h;refine(Hs g1).bind (fun _ k=>k.elim) (fun u2 ab=>?_);subst ab;obtain⟨a2,bM,g2,g⟩:=PR.hc g;refine(E7 (by decide) g2).bind (fun _ k=>k.elim) (fun fi ab=>?_);subst ab;obtain⟨bG,cE,g3,g⟩:=PR.hc g;obtain⟨b3,eb,g4,g⟩:=PR.hc g;obtain⟨ts,gn,g5,g⟩:=PR.hc g;cases g;refine(ZT f _ _ _ _ g3).bind (fun Fa fE=>?_) (fun ox ab=>?_)
 ·rcases afN (m0:=m0) f with e|e
  ·rw[e];exact .inl rfl
  ·rw[e];show pc m0 _ w _ _ ((nu f [me m0]).bind _);rcases Yq (m0:=m0) f with e|e
   ·rw[e];exact .inl rfl
   ·rw[e];exact .xQ (a':=(⟨a2.n,Fa,[],[]⟩:gS)) ⟨rfl,fE,pre_nil _,pre_nil _⟩ rfl
 subst ab;refine(afB f _ _ _ _ g4).bind (fun ar4 aoz=>?_) (fun B4 ab=>?_)
 ·rcases Yq (m0:=m0) f with e|e
  ·rw[e];exact .inl rfl
  ·rw[e];exact .xQ (a':=(⟨a2.n,bG,ar4,[]⟩:gS)) ⟨rfl,Xu _,aoz,pre_nil _⟩ rfl
 subst ab;exact(Yp f _ _ _ _ g5).bind (fun lG DL=>.xQ (a':=(⟨a2.n,bG,b3,lG⟩:gS)) ⟨rfl,Xu _,Xu _,DL⟩ rfl) (fun u6 ab=>.three ab rfl)
end
theorem Xv{c1:Type}{bG x:List c1}(h:pre bG x):(∀ d∈x,d∈bG)∧x.length≤bG.length:=by
 obtain⟨k,e⟩:=h;subst e;exact⟨fun d hd=>List.mem_of_mem_take hd,by rw[List.length_take];omega⟩
theorem apO{p q:gS}(hp:mT p=true)(h:aft p q):mT q=true:=by
 obtain⟨h0,A,S,ae⟩:=h;simp only[mT,Bool.and_eq_true,decide_eq_true_eq,nU]at hp ⊢;obtain⟨⟨⟨⟨⟨⟨a0,dP⟩,a2⟩,a3⟩,a4⟩,a5⟩,yg⟩:=hp;have dJ:=Xv A;have kB:=Xv S;have qt:=Xv ae;rw[h0];exact⟨⟨⟨⟨⟨⟨a0,by omega⟩,by omega⟩,by omega⟩,fun d hd=>a4 d (dJ.1 d hd)⟩,fun d hd=>a5 d (kB.1 d hd)⟩,fun d hd=>yg d (qt.1 d hd)⟩
def u5(s:aD):Int:=if s=[123] then 1 else if s=[125] then -1 else 0
def bl:List Tok→Int
 |[]=>0
 |t::r=>u5 t.text+bl r
def sP(l:List Tok):Prop:=∀ t∈l,t.kind=1∨t.kind=3→u5 t.text=0
theorem sP.tail{l:List Tok}(h:sP l):sP l.tail:=fun t aC=>h t (List.mem_of_mem_tail aC)
theorem RU{l:List Tok}(h:(hd l).kind≠5):bl l=u5 (hd l).text+bl l.tail:=by
 cases l with
 |nil=>exact absurd rfl h
 |cons t r=>rfl
theorem anG{l:List Tok}(h:(hd l).kind≠5):hd l∈l:=by
 cases l with
 |nil=>exact absurd rfl h
 |cons t r=>simp[hd]
theorem abc{s:aD}{t:Tok}(h:dk s t=true):t.text=s:=by
 simp only[dk,Bool.and_eq_true,beq_iff_eq]at h;exact h.1
theorem z6{s:aD}{l:List Tok}(h:dk s (hd l)=true):bl l=u5 s+bl l.tail:=by
 rw[RU (iZ h),abc h]
theorem VE{l:List Tok}(aA:sP l)(h:(hd l).kind=1∨(hd l).kind=3):bl l=bl l.tail:=by
 have aG:(hd l).kind≠5:=by omega
 rw[RU aG,aA _ (anG aG) h];omega
def n8{c1:Type}(k:Int)(l:List Tok)(x:PR c1):Prop:=∀ a r,x=.ok a r→bl l=k+bl r∧sP r
theorem n8.bad{c1:Type}{k e m:Int}{l:List Tok}:n8 k l (.bad e m:PR c1):=fun a r h=>by cases h
theorem n8.out{c1:Type}{k:Int}{l:List Tok}:n8 k l (.out:PR c1):=fun a r h=>by cases h
theorem n8.ok{c1:Type}{k:Int}{l r:List Tok}{a:c1}(h:bl l=k+bl r)(aA:sP r):n8 k l (.ok a r:PR c1):=fun b s e=>by cases e;exact⟨h,aA⟩
theorem n8.bind{c1 l5:Type}{k j:Int}{l:List Tok}{x:PR c1}{g:c1→List Tok→PR l5}(af:n8 k l x)(aA:∀ a r,sP r→n8 j r (g a r)):n8 (k+j) l (x.bind g):=by
 intro b s e;obtain⟨a,r,az,aL⟩:=PR.hc e;obtain⟨A,S⟩:=af a r az;obtain⟨ae,aB⟩:=aA a r S b s aL;exact⟨by rw[A,ae];omega,aB⟩
theorem n8.eq{c1:Type}{k j:Int}{l:List Tok}{x:PR c1}(h:n8 k l x)(e:k=j):n8 j l x:=e ▸ h
theorem n8.step{c1:Type}{k j:Int}{l:List Tok}{x:PR c1}(h:n8 k l.tail x)(e:bl l=j+bl l.tail):n8 (j+k) l x:=fun a r ai=>by
 obtain⟨A,S⟩:=h a r ai;exact⟨by rw[e,A];omega,S⟩
theorem Hr{s:aD}{l:List Tok}(aA:sP l):n8 (u5 s) l (mP s l):=by
 unfold mP;split
 ·rename_i h;exact .ok (z6 h) aA.tail
 ·exact .bad
theorem E6{k:Int}(ab:k=1∨k=3){l:List Tok}(aA:sP l):n8 0 l (im k l):=by
 unfold im;split
 ·rename_i h;rw[if_neg (by omega)];exact .ok (by rw[VE aA (by omega)];omega) aA.tail
 ·exact .bad
theorem af6{n k:Nat}{t:Tok}(h:(match(List.range' n k).find? (fun o=>dk (eU (o:Nat)) t) with|some o=>(o:Int)|none=>0)≠0)(hn:1≤n∧n+k≤18):u5 t.text=0:=by
 cases aZ:(List.range' n k).find? (fun o=>dk (eU (o:Nat)) t) with
 |none=>rw[aZ]at h;exact absurd rfl h
 |some o =>
  have A:=List.find?_some aZ;have S:=List.mem_of_find?_eq_some aZ;have ae:1≤o∧o≤17:=by
   have:=List.mem_range'_1.1 S;omega
  rw[abc (s:=eU (o:Nat)) A];have all:∀ i:Fin 18,u5 (eU (i.val:Int))=0:=by decide +kernel
  exact all ⟨o,by omega⟩
theorem TZ:∀ f:Nat,(∀ deep l,sP l→n8 0 l (nT f deep l))∧(∀ dz deep l,sP l→n8 0 l (lB f dz deep l))∧(∀ x dz deep l,sP l→n8 0 l (qc f x dz deep l))
 |0=>⟨fun _ _ _=>by rw[nT];exact .out,fun _ _ _ _=>by rw[lB];exact .out,fun _ _ _ _ _=>by rw[qc];exact .out⟩
 |f+1=>by
  obtain⟨A,S,ae⟩:=TZ f;refine⟨fun deep l h=>?_,fun dz deep l h=>?_,fun x dz deep l h=>?_⟩
  ·rw[nT];split
   ·exact .bad
   split
   ·rename_i aj;have e:bl l=0+bl l.tail:=by rw[RU (zP (n:=15) (k:=3) aj),af6 (n:=15) (k:=3) aj (by omega)]
    exact(((A _ _ h.tail).bind (j:=0) fun a r hr=>.ok (by omega) hr).step e).eq (by omega)
   split
   ·rename_i aj;exact(((S _ _ _ h.tail).bind fun a r hr=>(Hr hr).bind (j:=0) fun _ s ak=>.ok (by omega) ak).step (z6 aj)).eq rfl
   split
   ·rename_i aj;exact .ok (by rw[VE h (.inr aj)];omega) h.tail
   split
   ·exact .bad
   rename_i aj;have ab:(hd l).kind=1:=by omega
   have eI:bl l=0+bl l.tail:=by rw[VE h (.inl ab)];omega
   split
   ·rename_i T;exact((((S _ _ _ h.tail.tail).bind fun a r hr=>(Hr hr).bind (j:=0) fun _ s ak=>.ok (by omega) ak).step (z6 T)).step eI).eq rfl
   ·exact .ok eI h.tail
  ·rw[lB];exact((A _ _ h).bind (j:=0) fun a r hr=>ae _ _ _ _ hr).eq (by omega)
  ·rw[qc];split
   ·exact .ok (by omega) h
   ·rename_i aj;have h0:binOp (hd l)≠0:=fun e=>aj (.inl (by rw[e];rfl));have e:bl l=0+bl l.tail:=by rw[RU (zP (n:=1) (k:=14) h0),af6 (n:=1) (k:=14) h0 (by omega)]
    exact(((S _ _ _ h.tail).bind (j:=0) fun a r hr=>ae _ _ _ _ hr).step e).eq (by omega)
theorem XL{f deep:Nat}{k n:Int}{m:aD}{xs:List aX}{l:List Tok}(h:sP l):n8 0 l (tq f deep k m n xs l):=by
 unfold tq;refine((Hr h).bind (j:=0) fun _ r hr=>?_).eq rfl;split
 ·exact((E6 (.inl rfl) hr).bind fun a s ak=>(Hr ak).bind fun _ u hu=>(E6 (.inr rfl) hu).bind (j:=0) fun _ v ad=>.ok (by omega) ad).eq rfl
 ·exact(((TZ f).2.1 _ _ _ hr).bind (j:=0) fun a s ak=>.ok (by omega) ak).eq rfl
theorem apm{f deep:Nat}{m:aD}{l:List Tok}(h:sP l):n8 0 l (uH f deep m l):=by
 unfold uH;split
 ·rename_i aj;exact(((E6 (.inr rfl) h.tail).bind fun a r hr=>XL hr).step (z6 aj)).eq rfl
 split
 ·rename_i aj;exact((((TZ f).2.1 _ _ _ h.tail).bind fun a r hr=>(Hr hr).bind fun _ s ak=>XL ak).step (z6 aj)).eq rfl
 ·exact XL h
theorem XO:∀ f:Nat,(∀ deep l,sP l→n8 0 l (pE f deep l))∧(∀ deep l,sP l→n8 0 l (jL f deep l))∧(∀ deep l,sP l→n8 (-1) l (pF f deep l))
 |0=>⟨fun _ _ _=>by rw[pE];exact .out,fun _ _ _=>by rw[jL];exact .out,fun _ _ _=>by rw[pF];exact .out⟩
 |f+1=>by
  obtain⟨A,S,ae⟩:=XO f;refine⟨fun deep l h=>?_,fun deep l h=>?_,fun deep l h=>?_⟩
  ·rw[pE];split
   ·rename_i aj;refine(((Hr h.tail).bind fun _ r hr=>((TZ f).2.1 _ _ _ hr).bind fun e r hr=>(Hr hr).bind fun _ r hr=>(S _ _ hr).bind (j:=0) fun t r hr=>?_).step (z6 aj)).eq rfl;split
    ·rename_i T;exact(((S _ _ hr.tail).bind (j:=0) fun x s ak=>.ok (by omega) ak).step (z6 T)).eq rfl
    ·exact .ok (by omega) hr
   split
   ·rename_i aj;exact(((E6 (.inl rfl) h.tail).bind fun a r hr=>(S _ _ hr).bind (j:=0) fun t s ak=>.ok (by omega) ak).step (z6 aj)).eq rfl
   split
   ·rename_i aj;exact(((E6 (.inr rfl) h.tail).bind fun a r hr=>(S _ _ hr).bind (j:=0) fun t s ak=>.ok (by omega) ak).step (z6 aj)).eq rfl
   split
   ·rename_i aj;exact(((Hr h.tail).bind (j:=0) fun _ r hr=>.ok (by omega) hr).step (z6 aj)).eq rfl
   ·exact((E6 (.inl rfl) h).bind fun a r hr=>(apm hr).bind fun x s ak=>(Hr ak).bind (j:=0) fun _ u hu=>.ok (by omega) hu).eq rfl
  ·rw[jL];refine((Hr h).bind (j:=-1) fun _ r hr=>?_).eq rfl;split
   ·exact .bad
   ·exact ae _ _ hr
  ·rw[pF];split
   ·rename_i aj;exact .ok (z6 aj) h.tail
   ·exact((A _ _ h).bind fun s r hr=>(ae _ _ hr).bind (j:=0) fun et u hu=>.ok (by omega) hu).eq rfl
theorem ald{l:List Tok}(h:sP l):n8 0 l (BU l):=by
 refine((E6 (.inl rfl) h).bind (j:=0) fun a r hr=>?_).eq rfl;split
 ·rename_i aj;exact .ok (z6 aj) hr.tail
 split
 ·rename_i aj;exact .ok (z6 aj) hr.tail
 split
 ·rename_i aj;exact .ok (z6 aj) hr.tail
 ·exact .bad
theorem ZJ:∀(f:Nat) (l:List Tok),sP l→n8 0 l (oT f l)
 |0,_,_=>by rw[oT];exact .out
 |f+1,l,h=>by
  rw[oT];split
  ·rename_i aj;exact(((ald h.tail).bind fun d r hr=>(ZJ f r hr).bind (j:=0) fun bG s ak=>.ok (by omega) ak).step (z6 aj)).eq rfl
  ·exact .ok (by omega) h
theorem afz:∀(f:Nat) (l:List Tok),sP l→n8 0 l (mS f l)
 |0,_,_=>by rw[mS];exact .out
 |f+1,l,h=>by
  rw[mS];split
  ·rename_i aj;exact(((E6 (.inl rfl) h.tail).bind fun a r hr=>(E6 (.inr rfl) hr).bind fun b s ak=>(afz f s ak).bind (j:=0) fun bG u hu=>.ok (by omega) hu).step (z6 aj)).eq rfl
  ·exact .ok (by omega) h
theorem aht{f:Nat}{b:Bool}{l:List Tok}(h:sP l):n8 0 l (vR f b l):=by
 refine((E6 (.inl rfl) h).bind fun a r hr=>(E6 (.inr rfl) hr).bind fun c s ak=>(E6 (.inr rfl) ak).bind (j:=0) fun d u hu=>?_).eq rfl;split
 ·exact((E6 (.inr rfl) hu).bind fun e v ad=>((XO f).2.1 _ _ ad).bind (j:=0) fun x w ax=>.ok (by omega) ax).eq rfl
 ·exact(((XO f).2.1 _ _ hu).bind (j:=0) fun x w ax=>.ok (by omega) ax).eq rfl
theorem Yo:∀(f:Nat) (l:List Tok),sP l→n8 0 l (nu f l)
 |0,_,_=>by rw[nu];exact .out
 |f+1,l,h=>by
  rw[nu];split
  ·rename_i aj;exact(((aht h.tail).bind fun t r hr=>(Yo f r hr).bind (j:=0) fun ts s ak=>.ok (by omega) ak).step (z6 aj)).eq rfl
  split
  ·rename_i aj;exact(((aht h.tail).bind fun t r hr=>(Yo f r hr).bind (j:=0) fun ts s ak=>.ok (by omega) ak).step (z6 aj)).eq rfl
  ·exact .ok (by omega) h
theorem apQ{f:Nat}{l:List Tok}(h:sP l):n8 0 l (BX f l) :=
 ((Hr h).bind fun _ r hr=>(E6 (.inr rfl) hr).bind fun a s ak=>(ZJ f s ak).bind fun bG u hu=>(afz f u hu).bind fun b3 v ad=>(Yo f v ad).bind (j:=0) fun ts w ax=>.ok (by omega) ax).eq rfl
theorem as2{t:Tok}(h:DQ t)(ab:t.kind=1∨t.kind=3):u5 t.text=0:=by
 cases h with
 |name s m h =>
  show u5 s=0;have A:s≠[123]:=fun e=>by subst e;revert h;decide +kernel
  have S:s≠[125]:=fun e=>by subst e;revert h;decide +kernel
  unfold u5;rw[if_neg A,if_neg S]
 |word s m h=>exact absurd ab (by show ¬((2:Int)=1∨(2:Int)=3);decide)
 |num n m h =>
  show u5 (bs n)=0;obtain⟨b,r,e,T⟩:=Km n;rw[e];have A:b::r≠[123]:=fun e=>by cases e;revert T;decide
  have S:b::r≠[125]:=fun e=>by cases e;revert T;decide
  unfold u5;rw[if_neg A,if_neg S]
 |sign s m h=>exact absurd ab (by show ¬((4:Int)=1∨(4:Int)=3);decide)
def HW(m:Int)(t:Tok):Tok:={ t with line:=m }
theorem ada:∀(ts:List Tok),(∀ t∈ts,DQ t)→∀(i:Nat) (m:Int),dc (rP (fun _=>0) i ts) m=(ts.map (HW m),m,true)
 |[],_,i,m=>rfl
 |t::r,h,i,m=>by
  show dc (t.text++[32]++rP (fun _=>0) (i+1) r) m=_;rw[wB,as4 (h t (by simp)) (E8 (by decide)),show[32]++rP (fun _=>0) (i+1) r=32::rP (fun _=>0) (i+1) r from rfl,MD (by decide),ada r (fun x af=>h x (by simp[af])) (i+1) m];rfl
theorem VR:∀ a b:List Tok,bl (a++b)=bl a+bl b
 |[],b=>by simp[bl]
 |t::r,b=>by simp only[E0,bl,VR r b];omega
theorem Zu(m:Int):∀ a:List Tok,bl (a.map (HW m))=bl a
 |[]=>rfl
 |t::r=>by simp only[Fx,bl,Zu m r];rfl
theorem akS{ts:List Tok}{i:Nat}{t:Tok}(h:ts[i]?=some t):bl (ts.take (i+1))=bl (ts.take i)+u5 t.text:=by
 rw[G5,h,VR];simp[bl]
theorem Zj:∀ ts:List Tok,bl ts≤ts.length ∧ -(ts.length:Int)≤bl ts
 |[]=>by simp[bl]
 |t::r=>by
  have:=Zj r;have T:u5 t.text≤1 ∧ -1≤u5 t.text:=by unfold u5;split<;>first|omega|(split<;>omega)
  simp only[bl,hR];omega
theorem al2{p:gS}(hp:mT p=true){k:Nat}(ag:TL ((Et p).take k)≤20000):∃ QB q e n,sH QB (rP (fun _=>0) 0 ((Et p).take k))=(q,e,n)∧((e=0∧bl ((Et p).take k)=0)∨(q=xw∧e=70∧n=1)):=by
 obtain⟨cp,S,ae,aB⟩:=UQ hp;have bv:=as8 hp;obtain⟨ts,kb⟩:∃ ts,(Et p).take k=ts:=⟨_,rfl⟩;have aaG:∀ t∈ts,DQ t:=fun t aC=>bv t (by rw[← kb]at aC;exact List.mem_of_mem_take aC);have ak:=ada ts aaG 0 1;have S0:=arp (s:=rP (fun _=>0) 0 ts) (by rw[kb]at ag;exact ag) ak;obtain⟨f0,aZ⟩:=ap5 (p:=p) (by omega) S ae aB 0;rw[kb];have bp:kv (Et p++[me 0]) (ts.map (HW 1)++((Et p).drop k++[me 0])):=by
  unfold kv;have az:(ts.map (HW 1)).map KF=ts.map KF:=by rw[List.map_map];exact List.map_congr_left fun t _=>rfl
  have bq:(Et p).map KF=ts.map KF++((Et p).drop k).map KF:=by rw[← Ir,← kb,PJ]
  simp only[Ir,az,bq,wB]
 obtain⟨F,AO⟩:∃ F,max f0 (3*(ts.map (HW 1)++[me 1]).length+1)=F:=⟨_,rfl⟩;obtain⟨dL,az,aL⟩:=apU bp p [me 0] (aZ F (by omega));have ann:=apR (m0:=1) az;have an0:sP (ts.map (HW 1)++[me 1]):=fun t aC ab=>by
  rcases Aa.1 aC with aC|aC
  ·obtain⟨x,af,rfl⟩:=Is.1 aC;have:=as2 (aaG x af) ab;exact this
  ·rw[Iw.1 aC];rfl
 have y3:=apQ (f:=F) an0;have lp:=aoH f0 (ts.map (HW 1)++[me 1]);have WB:Eb f0 (ts.map (HW 1)++[me 1])=BX F (ts.map (HW 1)++[me 1]):=by rw[← AO];rfl
 rw[WB]at lp;have fm:∀ q,mT q=true→BX F (ts.map (HW 1)++[me 1])=.ok q [me 1]→∃ QB q e n,sH QB (rP (fun _=>0) 0 ts)=(q,e,n)∧((e=0∧bl ts=0)∨(q=xw∧e=70∧n=1)):=fun q L e=>by
  refine⟨f0,q,0,0,?_,.inl ⟨rfl,?_⟩⟩
  ·have ax:ql (Eb f0) (rP (fun _=>0) 0 ts)=.ok q [me 1]:=by
    unfold ql;rw[S0];simp only[ne_eq,not_true,if_false];rw[WB,e];rfl
   unfold sH;rw[ax];simp[L]
  ·have:=(y3 q [me 1] e).1;rw[VR,Zu]at this;have bk:bl [me 1]=0:=rfl;rw[bk]at this;omega
 rcases ann with h|⟨n,h⟩|⟨q,ck,h⟩|⟨u2,ck,h⟩
 ·exact absurd h lp
 ·have ax:ql (Eb f0) (rP (fun _=>0) 0 ts)=.bad 70 n:=by
   unfold ql;rw[S0];simp only[ne_eq,not_true,if_false];rw[WB,h];rfl
  have hn:n=1:=ark (P:=fun _ m=>m=1) (aoG f0) rfl (fun h=>absurd (by rw[S0]) h) (fun _ t aC=>by
   rw[S0]at aC;rcases Aa.1 aC with aC|aC
   ·obtain⟨x,af,rfl⟩:=Is.1 aC;rfl
   ·rw[Iw.1 aC];rfl) ax
  refine⟨f0,xw,70,n,?_,.inr ⟨rfl,rfl,hn⟩⟩;unfold sH;rw[ax]
 ·exact fm q (apO hp ck) h
 ·have aR:=aL.len;rw[ck]at aR;simp only[ap,hR,qz]at aR;have hu:u2=[]:=by
   cases u2 with
   |nil=>rfl
   |cons x y=>simp only[hR]at aR;omega
  rw[hu]at h;exact fm p hp h
theorem akU{raw:List Int}{all:Bool}(hp:mT (Ea raw all)=true)(ag:(lZ (Ea raw all)).length≤15000)(k:Nat):TL ((Et (Ea raw all)).take k)≤20000:=by
 have A:=aov hp;have S:=apP raw all;have ae:=aox (Et (Ea raw all)) k;omega
theorem amV(p:gS):(lZ (K1 p)).length≤(lZ p).length:=by
 have:∀ l:List dO,(((l.take 1).map fh).flatten).length≤((l.map fh).flatten).length:=by
  intro l;cases l with
  |nil=>exact br _
  |cons a r=>simp only[List.take_succ_cons,List.take_zero,Fx,List.map_nil,z8,Ft,ap,qz];omega
 have h:=this p.db;simp only[lZ,ap];show _+(((p.db.take 1).map fh).flatten).length≤_;have az:(K1 p).bS=p.bS:=rfl;have aL:(K1 p).c2=p.c2:=rfl;have bq:(K1 p).cv=p.cv:=rfl;rw[az,aL,bq];omega
theorem akD{s:aD}(A:(s==[123])=false)(S:(s==[125])=false):u5 s=0:=by
 simp only[beq_eq_false_iff_ne]at A S;unfold u5;rw[if_neg A,if_neg S]
theorem ajJ{s:aD}(S:(s==[125])=true):u5 s = -1:=by
 have:=eq_of_beq S;rw[this];rfl
theorem aiQ{s:aD}(S:(s==[123])=true):u5 s=1∧(s==[125])=false:=by
 have:=eq_of_beq S;rw[this];exact⟨rfl,rfl⟩
set_option maxHeartbeats 2000000 in
theorem alc{h:J}{iT:Value}{raw:List Int}{PK:Int}(A:nc h iT raw)(i1:∀ z∈raw,nO z)(akf:nO PK)(Q:aT)(L:∀ D,Q (.bool true) D):bj Tryz.prog 5 [iT,I PK] h Q:=by
 have xA:=aoD raw false;replace A:=U A;replace i1:=U i1;replace xA:=U xA;replace akf:=U akf;refine c7 (k:=2) apL rfl rfl rfl fun N=>?_;rw[eJ p8 asC rfl];delta p8;replace L:=U L;simp only[aa, *];refine afx h _ fun ae aE=>?_;have dP:=cT.mono aE A.h;clear A aE;replace dP:=U dP;simp only[aa, *];refine af2 dP.h i1.h false _ fun aB d r t xs aO SX=>?_;have cl:=fun hr ag k=>akU (raw:=raw) (all:=false) hr ag k;obtain⟨p,hp⟩:∃ p,Ea raw false=p:=⟨_,rfl⟩;rw[hp]at SX xA cl;rw[hp];obtain⟨bT,b4,eg⟩:=SX.e6;have iu:=aqj aB p.bS bT b4 eg;obtain⟨cd,aG,tO,qD,iA,iG⟩:=b9 aB [I p.bS,d,r,t];rw[qD,tO]at iu;have hw:=SX.Mr.mono iG;have aR:=aow xA.h;have az:=xA.h.right;clear dP aO iG SX hp i1;replace hw:=U hw;replace aR:=U aR;replace az:=U az;replace bT:=U bT;replace b4:=U b4;replace eg:=U eg;replace cl:=U cl;simp only[aa,aw,bh,rS, *];refine apj hw.h (fun _=>aR.h) _ fun a1 aY=>?_;rw[if_pos az.h,if_pos az.h];have iA:=aY.get iA;have hw:=hw.h.mono aY;have asG:=akP (lZ p);clear aY;replace hw:=U hw;simp only[aa, *];refine aqu (h0:=a1) a1 (.refl _) _ fun v bN ig bE=>?_;have iA:=bE.get iA;have hw:=hw.h.mono bE;have ka:=ig.vW;clear ig bE;by_cases y2:15000<(lZ p).length
 ·have T:(15000:Int)<((lZ p).length:Int):=by omega
  have g:=Hid.mk (L.h bN);clear L y2 hw ka;simp only[aa,av,ay, *];exact g.h
 have T:¬(15000:Int)<((lZ p).length:Int):=by omega
 obtain⟨aL,bq,cV,h2⟩:=UQ az.h;have sr:=apT (p:=p) ⟨by omega,by omega⟩ bq cV h2 (by omega);rw[sr]at ka;rw[sr];have hn:=as9 az.h (by omega);have cl:=cl.h az.h (by omega);have Qz:=fun k=>al2 (k:=k) az.h (cl k);have jC:=amV p;have Qx:(lZ (K1 p)).length≤20000:=by omega
 obtain⟨ts,kb⟩:∃ y,Et p=y:=⟨_,rfl⟩;rw[kb]at ka hn Qz cl;have iQ:pD [v]=some (I ((ts.length+1:Nat):Int)):=by simpa using ka.len
 have mx:D8 true [I ((ts.length+1:Nat):Int),I 1]=some (I ((ts.length+1:Nat):Int)):=by
  simp only[D8,if_true];split
  ·rename_i af;have:(1:Int)=((ts.length+1:Nat):Int):=by omega
   rw[← this]
  ·rfl
 clear sr aL bq cV h2 kb y2 jC;replace hw:=U hw;replace ka:=U ka;replace hn:=U hn;replace Qz:=U Qz;replace cl:=U cl;replace Qx:=U Qx;simp only[aa,av,ay, *];refine apN PK _ (by omega) _ _ ?_;obtain⟨k,ab⟩:∃ j,zV PK (ts.length+1)=j:=⟨_,rfl⟩;have Gn:=Uy akf.h (n:=ts.length+1) (by omega);rw[ab]at Gn;rw[← Gn.2];have pn:=Gn.1;obtain⟨QB,q,e,n,Ot,Zf⟩:=Qz.h k;clear ab Gn Qz akf;replace Ot:=U Ot;replace Zf:=U Zf;replace pn:=U pn;simp only[aa, *];have z0:((0:Nat):Int)=0:=rfl;refine ch.upto k (fun i e S=>S=bN∧e=[iT,I PK,.bool false,.bool true,aH cd 0,str (lZ p),v,I 0,I (k:Int),str (rP (fun _=>0) 0 (ts.take i)),I (bl (ts.take i)),I (i:Int),b0,b0,b0,b0,b0,b0,b0,b0]) ?_ (lj _) ⟨rfl,rfl⟩;rintro i _ S R au ⟨rfl,rfl⟩ aN;delta YS;by_cases aV:i<k
 ·have anL:=pn.h;have Zy:=hn.h;have dm:(i:Int)<(k:Int):=by omega
  have ax:IntKind.i64.wrap ((i:Int)+1)=((i+1:Nat):Int):=by rw[cZ (by omega) (by omega)];rfl
  obtain⟨gh,rH⟩:∃ e,ts[i]?=some e:=⟨_,hi (by omega)⟩;have Tr:(rP (fun _=>0) 0 (ts.take i)).length≤20000:=cl.h i;have Ts:(rP (fun _=>0) 0 (ts.take (i+1))).length≤20000:=cl.h (i+1);have S1:=adU (fun _=>0) ts 0 i gh rH;rw[show Ur 0=[32] from rfl,← wB]at S1;have ck:(rP (fun _=>0) 0 (ts.take i)).length+gh.text.length+1≤20000:=by
   rw[S1]at Ts;simp only[ap,hR,qz]at Ts;omega
  have l9:=akS rH;have bk:=Zj (ts.take i);have bJ:(ts.take i).length≤20000:=by rw[List.length_take];omega
  have g:=aN.h _ S aV ⟨rfl,rfl⟩;rw[S1]at g;obtain⟨c,aj⟩:∃ c,bl (ts.take i)=c:=⟨_,rfl⟩;obtain⟨fl,j8⟩:∃ c,bl (ts.take (i+1))=c:=⟨_,rfl⟩;rw[j8]at g l9;rw[aj]at l9 bk;rw[aj];obtain⟨LA,FP⟩:∃ LA,rP (fun _=>0) 0 (ts.take i)=LA:=⟨_,rfl⟩;rw[FP]at g ck;rw[FP];have atf:=cf (a:=LA) (b:=gh.text) (by omega);have atg:=cf (a:=LA++gh.text) (b:=[32]) (by rw[ap];simp only[hR,qz];omega);obtain⟨id,off,cells,own,g1,g2,g3,g4⟩:=ka.h.elem (i:=i) (x:=gh.cells) (by rw[NA,PF (by omega),rH];rfl);have f1:cells[off+1]?=some (str gh.text):=g4 1 (by omega);have up:u5 gh.text=1→IntKind.i64.wrap (c+1)=fl:=fun e=>by rw[cZ (by omega) (by omega)];omega
  have dn:u5 gh.text = -1→IntKind.i64.wrap (c-1)=fl:=fun e=>by rw[cZ (by omega) (by omega)];omega
  have eq:u5 gh.text=0→c=fl:=fun e=>by omega
  replace g:=U g;replace up:=U up;replace dn:=U dn;replace eq:=U eq;clear aN L g3 g4 l9 bk bJ aj j8 FP S1 Tr Ts ck rH anL Zy pn hn ka hw cl Qx Ot Zf aV au iA;cases t1:(gh.text==[123]) with
  |true =>
   obtain⟨dJ,t2⟩:=aiQ t1;have w:=up.h dJ;clear up dn eq dJ;simp only[aa,aw,av,ay,iz, *];exact g.h
  |false =>
  cases t2:(gh.text==[125]) with
  |true =>
   have w:=dn.h (ajJ t2);clear up dn eq;simp only[aa,aw,av,ay,iz, *];exact g.h
  |false =>
   have w:=eq.h (akD t1 t2);subst w;clear up dn eq;simp only[aa,aw,av,ay,iz, *];exact g.h
 have ef:i=k:=by omega
 subst ef;have dm:¬(i:Int)<(i:Int):=by omega
 obtain⟨c,aj⟩:∃ c,bl (ts.take i)=c:=⟨_,rfl⟩;obtain⟨LA,FP⟩:∃ LA,rP (fun _=>0) 0 (ts.take i)=LA:=⟨_,rfl⟩;rw[aj]at Zf;rw[FP]at Ot;rw[aj,FP];clear aN aV au ka hn cl aj FP pn iQ mx;simp only[aa,av,ay, *];refine Ng QB LA S _ fun b7 z cq bp=>?_;rw[Ot.h]at bp;rw[Ot.h];have bu:=Va b7 bp;obtain⟨tu,dE,yJ,j3,hT,pz⟩:=b9 b7 z;rw[j3,yJ]at bu;have l:=cq.trans pz;have iA:=l.get iA;have hw:=hw.h.mono l;have at5:=bp.mono pz;obtain⟨bW,dL,mV,rfl,_⟩:=bp;obtain⟨atm,axL,aqV,ex,anI,ao2,aym,ZV,ao3,ab9⟩:=at5;cases ex;have aeI:pD [mV]=some (I (q.db.length:Int)):=by have:=ZV.len;rw[ab9.length]at this;exact this
 obtain⟨ath,awM,axY,CI,K0,ab0,asu,abb,vB,G4⟩:=hw;cases CI;have aig:=xA.h.hb;have asE:asu.length=p.db.length:=G4.length;obtain⟨Nj,Xm,W6⟩:=abb.ac3 (b:=1) (by omega);have Xm:rR 6 false true [t,I 1]=some Nj:=Xm;have Xt:Nj.oneCell'=true∧Nj.cells.toList=[Nj]:=by
  rcases W6 with⟨e,_⟩|⟨id,off,e,_⟩<;>(subst e;exact⟨rfl,rfl⟩)
 have Vi:=aqj dE p.bS bT.h b4.h eg.h;clear l cq pz Ot anI ao2 ZV ao3 ab9;obtain⟨cS,lk,u4,am2,eE,Xr⟩:=b9 dE [I p.bS,d,r,t];rw[am2,u4]at Vi;have aag:=iA;have aaE:=hT;have iA:=Xr.get iA;have Yf:=iU (v:=Nj) (off:=3) eE (by simp) Xt.2 Xt.1;simp only[List.set_cons_zero,List.set_cons_succ]at Yf;have vp:dE.next≤cS:=by omega
 have cH:(cd==cS)=false:=by
  have:=J.bY aag;simp;omega
 obtain⟨pU,ahs⟩:∃ x,lk.set cS (.aq [I p.bS,d,r,Nj] true)=x:=⟨_,rfl⟩;have jo:dE.le pU:=by rw[← ahs];exact Xr.set vp _
 have aau:=jo.get aaE;have amW:pU.get cS=some (.aq [I p.bS,d,r,Nj] true):=by rw[← ahs];exact J.gz _ _ _ (by rw[eE];rfl)
 have RX:pM pU (K1 p) [I p.bS,d,r,Nj]:=amE K0 ab0 G4 vB W6 jo;rw[ahs]at Yf;have VY:=amD xA.h;have RW:=aow VY;have he:=VY.right;obtain⟨ap0,Qy⟩:=aoh he Qx.h;have R0:(K1 p).db.length=1:=by show(p.db.take 1).length=1;rw[List.length_take];omega
 clear K0 ab0 abb vB G4 W6 Xt asE aig jo Xr ahs xA VY aag aR vp az Qx;replace RX:=U RX;replace RW:=U RW;replace he:=U he;replace Qy:=U Qy;replace R0:=U R0;replace Zf:=U Zf;simp only[aa,aw,bh,rS, *];refine apj RX.h (fun _=>RW.h) _ fun hj mn=>?_;rw[if_pos he.h,if_pos he.h];have hT:=mn.get aau;clear Xm RX mn he RW aau amW Yf iu Vi eE iA bu aaE asG T;simp only[aa, *];refine Ng ap0 _ hj _ fun pV z om bp=>?_;rw[Qy.h]at bp;rw[Qy.h];have bu:=Va pV bp;obtain⟨Ec,asg,AD,ami,qH,aeH⟩:=b9 pV z;rw[ami,AD]at bu;have l:=om.trans aeH;have hT:=l.get hT;obtain⟨d3,cE,t3,rfl,lm,lW,axZ,w7,gP,qM⟩:=bp;have at7:pD [t3]=some (I 1):=by have:=w7.len;rw[qM.length,R0.h]at this;exact this
 have g:=Hid.mk (L.h asg);clear L l om aeH Qy lm lW w7 gP qM R0;rcases Zf.h with⟨eI,l9⟩|⟨cR,eI,n0⟩
 ·subst eI;subst l9;clear Zf;simp only[aa,aw,bh,av,ay,Int.reduceLT, *];exact g.h
 ·subst eI;subst n0;subst cR;have aeI:pD [mV]=some (I 0):=aeI;clear Zf;by_cases aj:0<c
  ·simp only[aa,aw,bh,av,ay, *];exact g.h
  ·simp only[aa,aw,bh,av,ay,Int.reduceBEq, *];exact g.h
end Go.Eng.Sy
