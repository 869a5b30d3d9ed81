/-
  Part of a proof of the laws of layer 07 (reader): the laws.
  Conditions: none.
-/
import Derived.Test.YtjbjpooafphpnaaGreatDoorEc
import Derived.Test.YtjbjpooafphpnaaGreatDoorProg
import Derived.KernelRfl
import Derived.Test.YtjbjpooafphpnaaGreatDoorM3
set_option linter.unusedSimpArgs false
set_option linter.unusedVariables false
namespace Go.Eng.Sy
open Go Go.Eng Go.Proofs
section
set_option maxRecDepth 100000
noncomputable def Fj:bo:=(ao [nh 0 19 18] [(20,0)] (aS (.cond (.v 20) .skip (.exit 0)) (aS (.block 1 (ao [qC 0 1 17 19,O 1,ap 2 0] [(8,0)] (ao [E 0 8,cK 1 16,ap 2 0,ed 3 0 0,ed 4 1 1,ed 5 2 2,tK 6,c5 7 4 0 3,ap 8 3,ap 9 3] [(9,3),(10,1),(11,0)] (aS (a7 [E 0 10,wF 1 0] [] 0 (aS (a7 [ba 0 3 9,O 1,e9 2,ba 3 1 9,O 4,e9 5,ee 6 3 0,ba 7 2 9,O 8,e9 9,ee 10 3 0,ba 11 0 9,O 12,ee 13 2 0,pP 14 0,ap 15 0,fw 16 11 0,wI 17 1 1,yK 18 2,eR 19 8 0,Ft 20 1,yI 21 2 20000,AF 22 3 6,am 23 7] [] 0 (ao [c0 0] [(4,0)] .ret) .skip) (.exit 1)) .skip) (ao [ac 0 4 9,cK 1 20,ap 2 0,ed 3 0 0,ed 4 1 1,ap 5 1,ap 6 1] [(12,1),(13,0)] (aS (a7 [E 0 13,wF 1 0,ap 2 0,fw 3 11 0,lw 4 1 0,am 5 2,ap 6 0,jp 7 9 0,LO 8 23 1,tI 9 2,am 10 3] [] 0 (ao [c0 0] [(4,0)] .ret) .skip) (aS (a7 [E 0 12,l8 1,pP 2 20000] [] 0 (.exit 1) .skip) (ao [E 0 12,cK 1 16,ap 2 0,ed 3 0 0,ed 4 1 1,ed 5 2 2,tK 6,c5 7 4 0 3,ap 8 3,ap 9 3] [(14,3),(15,1)] (ao [ac 0 4 14,cK 1 20,ap 2 0,ed 3 0 0,ed 4 1 1,ap 5 1,ap 6 1] [(16,1)] (a7 [E 0 15,wF 1 0,ap 2 0,jp 3 9 0,jp 4 14 1,⟨5,.call 21,[.t 1,.t 0],some (2,false),false⟩,tI 6 3,am 7 4,ap 8 0,fw 9 12 0,fw 10 16 1,Fu 11 2,am 12 3] [] 0 (ao [c0 0] [(4,0)] .ret) .skip)))))))))) (.aW [nC 0 19,ap 1 0] [(19,0)]))))
noncomputable def tG:bB:=⟨4,[0,1,2,3,8,9,10,12,14,15,16,17,18,19,20,21,23,62,63,64,65],(ao [c0 0] [(4,0)] (ao [i7 0 10,ap 1 0] [(5,0)] (ao [E 0 1,⟨1,.call 17,[.t 0,.c (.bool false)],none,false⟩,cK 2 18,ap 3 0,ed 4 0 0,ed 5 1 1,ap 6 1,ap 7 1] [(6,1)] (ao [E 0 2,E 1 6,l8 2,fp 3,dQ 4 13 3 0,ap 5 0] [(7,0)] (aS (ao [E 0 0,E 1 6,E 2 7,LG 3,E 4 3,ee 5 1 0,E 6 6,E 7 7,E 8 3,l8 9,ee 10 2 0,E 11 6,l8 12,⟨13,.p (.L1 false),[.t 2,.t 0],none,false⟩,FA 14 7,ee 15 9 0,E 16 6,E 17 7,LG 18,E 19 3,ee 20 1 0,E 21 6,E 22 7,FA 23 1,ee 24 3 0,⟨25,.a (.hP [aI,aI,aI] [(0,1),(1,1),(2,1)] 3 1),[.t 24,.t 9,.t 0],none,false⟩,e9 26,Y 27 0] [(17,2),(18,1),(19,0)] (.block 0 (.loop Fj))) (ao [E 0 5,ap 1 0] [(4,0)] .ret)))))),[.var 4]⟩
theorem TZ:bK Tryz.prog 8 tG:=bV (by kernel_rfl)
end
mutual
def u5:aX→Nat
 |.mk _ _ _ _ args=>1+kx args
def kx:List aX→Nat
 |[]=>0
 |e::r=>u5 e+kx r
end
mutual
def qZ:aP→Nat
 |.mk _ _ _ _ args aU bz=>1+kx args+pB aU+pB bz
def pB:List aP→Nat
 |[]=>0
 |s::r=>qZ s+pB r
end
theorem Nj:∀(a b:List aX),kx (a++b)=kx a+kx b
 |[],b=>by simp[kx]
 |e::r,b=>by simp only[List.cons_append,kx,Nj r b];omega
theorem HI:∀ f:Nat,(∀ deep l e r,nT f deep l=.ok e r→u5 e+r.length≤l.length)∧(∀ dz deep l e r,lB f dz deep l=.ok e r→u5 e+r.length≤l.length)∧(∀ x dz deep l e r,qc f x dz deep l=.ok e r→u5 e+r.length≤u5 x+l.length)
 |0=>⟨fun _ _ _ _ h=>(by rw[nT]at h;cases h),fun _ _ _ _ _ h=>(by rw[lB]at h;cases h),fun _ _ _ _ _ _ h=>(by rw[qc]at h;cases h)⟩
 |f+1=>by
  obtain⟨A,S,ae⟩:=HI f;refine⟨fun deep l e r h=>?_,fun dz deep l e r h=>?_,fun x dz deep l e r h=>?_⟩
  ·rw[nT]at h;split at h
   ·cases h
   split at h
   ·rename_i aj;obtain⟨a,cn,g1,g2⟩:=PR.hc h;cases g2;have:=A _ _ _ _ g1;have:=hM (zP (n:=15) (k:=3) aj);simp only[u5,kx];omega
   split at h
   ·rename_i aj;obtain⟨a,cn,g1,g2⟩:=PR.hc h;obtain⟨b,bM,g3,g4⟩:=PR.hc g2;cases g4;have:=S _ _ _ _ _ g1;have:=(oS g3).1;have:=hM (iZ aj);omega
   split at h
   ·rename_i aj;cases h;have:=hM (l:=l) (by omega);simp only[u5,kx];omega
   split at h
   ·cases h
   rename_i aj;have ab:(hd l).kind≠5:=by omega
   have aC:=hM ab;split at h
   ·rename_i T;obtain⟨a,cn,g1,g2⟩:=PR.hc h;obtain⟨b,bM,g3,g4⟩:=PR.hc g2;cases g4;have:=S _ _ _ _ _ g1;have:=(oS g3).1;have:=hM (iZ T);simp only[u5,kx];omega
   ·cases h
    simp only[u5,kx];omega
  ·rw[lB]at h;obtain⟨a,cn,g1,g2⟩:=PR.hc h;have:=A _ _ _ _ g1;have:=ae _ _ _ _ _ _ g2;omega
  ·rw[qc]at h;split at h
   ·cases h;exact Nat.le_refl _
   ·rename_i aj;obtain⟨a,cn,g1,g2⟩:=PR.hc h;have h0:binOp (hd l)≠0:=fun e=>aj (.inl (by rw[e];rfl));have:=S _ _ _ _ _ g1;have:=ae _ _ _ _ _ _ g2;have:=hM (zP (n:=1) (k:=14) h0);simp only[u5,kx]at *;omega
theorem KM{f deep:Nat}{k n:Int}{m:aD}{xs:List aX}{l r:List Tok}{s:aP}(h:tq f deep k m n xs l=.ok s r):qZ s+r.length≤1+kx xs+l.length:=by
 unfold tq at h;obtain⟨_,cn,g1,h⟩:=PR.hc h;have:=(oS g1).1;split at h
 ·obtain⟨_,bM,g2,h⟩:=PR.hc h;obtain⟨_,cE,g3,h⟩:=PR.hc h;obtain⟨_,eb,g4,h⟩:=PR.hc h;cases h;have:=(kQ (by decide) g2).1;have:=(oS g3).1;have:=(kQ (by decide) g4).1;simp only[qZ,kx,pB];omega
 ·obtain⟨_,bM,g2,h⟩:=PR.hc h;cases h;have:=(HI f).2.1 _ _ _ _ _ g2;simp only[qZ,Nj,kx,pB];omega
theorem R0{f deep:Nat}{m:aD}{l r:List Tok}{s:aP}(h:uH f deep m l=.ok s r):qZ s+r.length≤1+l.length:=by
 unfold uH at h;split at h
 ·rename_i aj;obtain⟨_,cn,g1,h⟩:=PR.hc h;have:=(kQ (by decide) g1).1;have:=hM (iZ aj);have:=KM h;simp only[kx]at this;omega
 split at h
 ·rename_i aj;obtain⟨_,cn,g1,h⟩:=PR.hc h;obtain⟨_,bM,g2,h⟩:=PR.hc h;have:=(HI f).2.1 _ _ _ _ _ g1;have:=(oS g2).1;have:=hM (iZ aj);have:=KM h;simp only[kx]at this;omega
 ·have:=KM h;simp only[kx]at this;omega
theorem Lz:∀ f:Nat,(∀ deep l e r,pE f deep l=.ok e r→qZ e+r.length≤l.length)∧(∀ deep l e r,jL f deep l=.ok e r→pB e+r.length≤l.length)∧(∀ deep l e r,pF f deep l=.ok e r→pB e+r.length≤l.length)
 |0=>⟨fun _ _ _ _ h=>(by rw[pE]at h;cases h),fun _ _ _ _ h=>(by rw[jL]at h;cases h),fun _ _ _ _ h=>(by rw[pF]at h;cases h)⟩
 |f+1=>by
  obtain⟨A,S,ae⟩:=Lz f;have af:=(HI f).2.1;refine⟨fun deep l e r h=>?_,fun deep l e r h=>?_,fun deep l e r h=>?_⟩
  ·rw[pE]at h;split at h
   ·rename_i aj;have:=hM (iZ aj);obtain⟨_,cn,g1,h⟩:=PR.hc h;obtain⟨_,bM,g2,h⟩:=PR.hc h;obtain⟨_,cE,g3,h⟩:=PR.hc h;obtain⟨_,eb,g4,h⟩:=PR.hc h;have:=(oS g1).1;have:=af _ _ _ _ _ g2;have:=(oS g3).1;have:=S _ _ _ _ g4;split at h
    ·rename_i aK;have:=hM (iZ aK);obtain⟨_,gn,g5,h⟩:=PR.hc h;cases h;have:=S _ _ _ _ g5;simp only[qZ,kx,pB];omega
    ·cases h;simp only[qZ,kx,pB];omega
   split at h
   ·rename_i aj;have:=hM (iZ aj);obtain⟨_,cn,g1,h⟩:=PR.hc h;obtain⟨_,bM,g2,h⟩:=PR.hc h;cases h;have:=(kQ (by decide) g1).1;have:=S _ _ _ _ g2;simp only[qZ,kx,pB];omega
   split at h
   ·rename_i aj;have:=hM (iZ aj);obtain⟨_,cn,g1,h⟩:=PR.hc h;obtain⟨_,bM,g2,h⟩:=PR.hc h;cases h;have:=(kQ (by decide) g1).1;have:=S _ _ _ _ g2;simp only[qZ,kx,pB];omega
   split at h
   ·rename_i aj;have:=hM (iZ aj);obtain⟨_,cn,g1,h⟩:=PR.hc h;cases h;have:=(oS g1).1;simp only[qZ,kx,pB];omega
   ·obtain⟨_,cn,g1,h⟩:=PR.hc h;obtain⟨_,bM,g2,h⟩:=PR.hc h;obtain⟨_,cE,g3,h⟩:=PR.hc h;cases h;have:=(kQ (by decide) g1).1;have:=R0 g2;have:=(oS g3).1;omega
  ·rw[jL]at h;obtain⟨_,cn,g1,h⟩:=PR.hc h;have:=(oS g1).1;split at h
   ·cases h
   ·have:=ae _ _ _ _ h;omega
  ·rw[pF]at h;split at h
   ·rename_i aj;cases h;have:=hM (iZ aj);simp only[pB];omega
   ·obtain⟨_,cn,g1,h⟩:=PR.hc h;obtain⟨_,bM,g2,h⟩:=PR.hc h;cases h;have:=A _ _ _ _ g1;have:=ae _ _ _ _ g2;simp only[pB];omega
theorem Ou{f:Nat}{b:Bool}{l r:List Tok}{t:dO}(h:vR f b l=.ok t r):pB t.body+r.length≤l.length:=by
 unfold vR at h;obtain⟨_,cn,g1,h⟩:=PR.hc h;obtain⟨_,bM,g2,h⟩:=PR.hc h;obtain⟨_,cE,g3,h⟩:=PR.hc h;have:=(kQ (by decide) g1).1;have:=(kQ (by decide) g2).1;have:=(kQ (by decide) g3).1;split at h
 ·obtain⟨_,eb,g4,h⟩:=PR.hc h;obtain⟨_,gn,g5,h⟩:=PR.hc h;cases h;have:=(kQ (by decide) g4).1;have:=(Lz f).2.1 _ _ _ _ g5;dsimp only;omega
 ·obtain⟨_,gn,g5,h⟩:=PR.hc h;cases h;have:=(Lz f).2.1 _ _ _ _ g5;dsimp only;omega
theorem LH:∀(f:Nat) (l r:List Tok) (ts:List dO),nu f l=.ok ts r→∀ t∈ts,pB t.body≤l.length
 |0,l,r,ts,h=>by rw[nu]at h;cases h
 |f+1,l,r,ts,h=>by
  rw[nu]at h;split at h
  ·rename_i aj;have:=hM (iZ aj);obtain⟨_,cn,g1,h⟩:=PR.hc h;obtain⟨_,bM,g2,h⟩:=PR.hc h;cases h;have:=Ou g1;have ih:=LH f _ _ _ g2;intro t aC;rcases List.mem_cons.1 aC with rfl|aC
   ·omega
   ·have:=ih t aC;omega
  split at h
  ·rename_i aj;have:=hM (iZ aj);obtain⟨_,cn,g1,h⟩:=PR.hc h;obtain⟨_,bM,g2,h⟩:=PR.hc h;cases h;have:=Ou g1;have ih:=LH f _ _ _ g2;intro t aC;rcases List.mem_cons.1 aC with rfl|aC
   ·omega
   ·have:=ih t aC;omega
  ·cases h;intro t aC;cases aC
theorem Xm{f:Nat}{l r:List Tok}{p:gS}(h:BX f l=.ok p r):∀ t∈p.db,pB t.body≤l.length:=by
 unfold BX at h;obtain⟨_,cn,g1,h⟩:=PR.hc h;obtain⟨_,bM,g2,h⟩:=PR.hc h;obtain⟨_,cE,g3,h⟩:=PR.hc h;obtain⟨_,eb,g4,h⟩:=PR.hc h;obtain⟨_,gn,g5,h⟩:=PR.hc h;cases h;have:=(oS g1).1;have:=(kQ (by decide) g2).1;have:=X8 f _ _ _ g3;have:=acL f _ _ _ g4;intro t aC;have:=LH f _ _ _ g5 t aC;omega
theorem Yu{e:aX}{d:Nat}(h:e1 e d):(bU e).length+4≤30*u5 e:=by
 induction h with
 |num n d h =>
  have:=u2 9 n (by omega);simp only[bU,sE,if_true,Int.toNat_natCast,u5,kx];omega
 |var m d h =>
  have:=qY h;simp only[bU,sE,u5,kx];simp;omega
 |one o a d h ai ih =>
  have A:=Eo o;have S:=xU a 9 (bU a);simp only[bU,xM,sE,u5,kx];simp;omega
 |two o a b d h ai T zu DI =>
  have A:=Eo o;have S:=xU a (cy o) (bU a);have ae:=xU b (cy o+1) (bU b);simp only[bU,xM,sE,u5,kx];simp;omega
 |idx m a d h ai ih =>
  have:=qY h;simp only[bU,xM,sE,u5,kx];simp;omega
theorem KK{t:Nat}:∀ {l:List aP},(∀ s∈l,(gy t s).length≤300*qZ s)→(cJ t l).length≤300*pB l
 |[],_=>by simp[cJ]
 |a::r,h=>by
  have A:=h a (by simp);have S:=KK (l:=r) fun s ak=>h s (by simp[ak]);simp only[cJ,List.length_append,pB];omega
theorem Nk:∀(d:Nat) (s:aP),jx s d→∀ t,t+d≤60→(gy t s).length≤300*qZ s
 |0,s,h,t,_=>by cases h
 |d+1,s,h,t,aC=>by
  have h2:∀ {a:aX},e1 a 30→(bU a).length+4≤30*u5 a:=fun h=>Yu h;have sub:∀ {l:List aP},(∀ s∈l,jx s d)→(cJ (t+1) l).length≤300*pB l:=fun {l} ak=>KK fun s h=>Nk d s (ak s h) (t+1) (by omega);cases h with
  |set m a d h ai =>
   have:=qY h;have:=h2 ai;simp[gy,oR,dA,bR,pa,qZ,kx,pB];omega
  |get m f n d h aZ hn =>
   have:=qY h;have:=qY aZ;have:=yt (n:=n) (by omega);simp[gy,oR,dA,bR,qZ,kx,pB];omega
  |put m n a d h hn ai =>
   have:=qY h;have:=h2 ai;have:=yt (n:=n) (by omega);simp[gy,oR,dA,bR,pa,qZ,kx,pB];omega
  |store m a b d h ai T =>
   have:=qY h;have:=h2 ai;have:=h2 T;simp[gy,oR,dA,bR,pa,wy,qZ,kx,pB];omega
  |lock m aU d h ak =>
   have:=qY h;have:=sub ak;simp[gy,oR,dA,bR,kC,cJ,qZ,kx,pB];omega
  |cond a aU bz d ai ak eh =>
   have:=h2 ai;have:=sub ak;have:=sub eh;simp[gy,oR,dA,bR,kC,pa,qZ,kx];split<;>simp<;>omega
  |rW n aU d hn ak =>
   have:=yt (n:=n) (by omega);have:=sub ak;simp[gy,oR,dA,bR,kC,cJ,qZ,kx,pB];omega
  |halt d=>simp[gy,oR,dA,bR,qZ];omega
theorem Yq{t:dO}(h:js t=true):de t.name=true∧(0≤t.cB∧t.cB≤3)∧(1≤t.prio∧t.prio≤7)∧(0≤t.line∧t.line≤7)∧∀ s∈t.body,jx s 30:=by
 simp only[js,Bool.and_eq_true,decide_eq_true_eq,we,List.all_eq_true]at h;obtain⟨⟨⟨⟨A,S⟩,ae⟩,aB⟩,aG⟩:=h;exact⟨A,S,ae,by cases T:t.ga<;>simp[T]at aB<;>omega,fun s ak=>(Cl 30 s).1 (aG s ak)⟩
theorem WB{t:dO}(aC:js t=true)(hn:pB t.body≤100000):(fh t).length≤40000000:=by
 obtain⟨A,S,ae,aB,aG⟩:=Yq aC;have A:=qY A;have aG:=KK (t:=1) fun s ak=>Nk 30 s (aG s ak) 1 (by omega);have d1:=yt (n:=t.cB.toNat) (by omega);have d2:=yt (n:=t.prio.toNat) (by omega);have d3:=yt (n:=t.line.toNat) (by omega);unfold fh;split<;>simp[dA,bR,qN]<;>omega
theorem VR{g:gS}(aA:mT g=true)(hn:∀ t∈g.db,pB t.body≤100000):(lZ g).length≤ez:=by
 have lR:=aA;simp only[mT,Bool.and_eq_true,decide_eq_true_eq,List.all_eq_true]at lR;obtain⟨⟨⟨⟨⟨⟨h0,l1⟩,l2⟩,aE⟩,cd⟩,cS⟩,tu⟩:=lR;have S:∀ d∈g.c2,(ir d).length≤100:=fun d hd=>by
  have:=cd d hd;simp only[jO,Bool.and_eq_true,decide_eq_true_eq]at this;obtain⟨a,b,c⟩:=this;have:=qY a;have:=akC ⟨d.n.toNat,by omega⟩;simp[ir,dA,bR]at *;omega
 have ae:∀ d∈g.cv,(iR d).length≤100:=fun d hd=>by
  have:=cS d hd;simp only[jY,Bool.and_eq_true,decide_eq_true_eq]at this;obtain⟨a,b,c⟩:=this;have:=qY a;have:=yt (n:=d.n.toNat) (by omega);simp[iR,dA,bR];omega
 have f1:=tP S;have f2:=tP ae;have f3:=tP (f:=fh) (K:=40000000) fun t aC=>WB (tu t aC) (hn t aC);have d1:=yt (n:=g.bS.toNat) (by omega);have:(dA 0 [[104,97,114,116,115,32],bs g.bS.toNat]).length≤30:=by simp[dA,bR];omega
 unfold lZ;simp only[List.length_append];have m1:g.c2.length*100≤8*100:=Nat.mul_le_mul_right _ l1;have m2:g.cv.length*100≤8*100:=Nat.mul_le_mul_right _ l2;have m3:g.db.length*40000000≤16*40000000:=Nat.mul_le_mul_right _ aE;show _≤140737488355328;omega
theorem Xv{p:gS}(aA:mT p=true):p.ok:=by
 obtain⟨_,S,ae,_⟩:=UQ aA;refine⟨fun d hd=>?_,fun d hd=>?_⟩
 ·have:=S d hd;simp only[jO,Bool.and_eq_true,decide_eq_true_eq]at this;have A:=qY this.1;exact⟨by unfold nO;omega,by omega⟩
 ·have:=ae d hd;simp only[jY,Bool.and_eq_true,decide_eq_true_eq]at this;have A:=qY this.1;exact⟨by unfold nO;omega,by omega⟩
theorem wB:∀(c:Bool) (l:aD) (n:Int),n≤(skip c l n).2
 |_,[],n=>by simp[skip]
 |true,b::r,n=>by
  unfold skip;split
  ·have:=wB false r (n+1);omega
  ·exact wB true r n
 |false,b::r,n=>by
  unfold skip;split
  ·exact wB false r n
  ·split
   ·have:=wB false r (n+1);omega
   ·split
    ·exact wB true r n
    ·exact Int.le_refl _
theorem NU:∀(k:Nat) (l:aD) (m:Int),(∀ t∈(ia k l m).1,m≤t.line)∧m≤(ia k l m).2.1
 |0,l,m=>by simp[ia]
 |k+1,[],m=>by simp[ia]
 |k+1,b::r,m=>by
  have key:∀ x:aD,(∀ t∈(ia k (skip false x m).1 (skip false x m).2).1,m≤t.line)∧m≤(ia k (skip false x m).1 (skip false x m).2).2.1:=fun x=>by
   have A:=wB false x m;obtain⟨S,ae⟩:=NU k (skip false x m).1 (skip false x m).2;exact⟨fun t aC=>by have:=S t aC;omega,by omega⟩
  unfold ia;split
  ·split
   ·obtain⟨S,ae⟩:=key ((b::r).drop (runN (b::r)));refine⟨fun t aC=>?_,ae⟩;rcases List.mem_cons.1 aC with rfl|aC
    ·exact Int.le_refl _
    ·exact S t aC
   ·exact⟨fun t aC=>(by cases aC),Int.le_refl _⟩
  ·split
   ·rename_i g aA;obtain⟨S,ae⟩:=key ((b::r).drop g.length);refine⟨fun t aC=>?_,ae⟩;rcases List.mem_cons.1 aC with rfl|aC
    ·exact Int.le_refl _
    ·exact S t aC
   ·exact⟨fun t aC=>(by cases aC),Int.le_refl _⟩
theorem LA(l:aD):(∀ t∈(rY l).1,1≤t.line)∧1≤(rY l).2.1:=by
 have A:=wB false l 1;obtain⟨S,ae⟩:=NU (l.length+1) (skip false l 1).1 (skip false l 1).2;exact⟨fun t aC=>by have:=S t aC;omega,by show 1≤(ia _ _ _).2.1;omega⟩
theorem T0{k:Nat}{s:aD}(h:(sH k s).2.1≠0):(sH k s).1=xw∧(1≤(sH k s).2.2∨20000<s.length):=by
 unfold sH at h ⊢;cases ax:ql (Eb k) s with
 |ok p r =>
  rw[ax]at h;by_cases hp:mT p=true
  ·simp[hp]at h
  ·simp[hp]
 |bad e m =>
  refine⟨rfl,?_⟩;refine ark (P:=fun _ m=>1≤m∨20000<s.length) (aoG k) (.inl (Int.le_refl 1)) ?_ ?_ ax
  ·intro aK;unfold jc at aK ⊢;split
   ·rename_i T;exact .inr T
   ·split
    ·rename_i T ak;rw[if_neg T,if_pos ak]at aK;exact absurd rfl aK
    ·exact .inl (LA s).2
  ·intro aK t aC;unfold jc at aK aC;split at aC
   ·cases aC
   ·split at aC
    ·rcases List.mem_append.1 aC with aC|aC
     ·exact .inl ((LA s).1 t aC)
     ·rw[List.mem_singleton.1 aC];exact .inl (LA s).2
    ·cases aC
 |out=>exact absurd ax (aDk (aoH k) s)
theorem T1{k:Nat}{s:aD}(h:(sH k s).2.1=0):mT (sH k s).1=true∧(lZ (sH k s).1).length≤ez∧(sH k s).1.ok∧(sH k s).2.2=0:=by
 cases ax:ql (Eb k) s with
 |ok p r =>
  by_cases hp:mT p=true
  ·have gr:sH k s=(p,0,0):=by unfold sH;rw[ax];simp[hp]
   rw[gr];refine⟨hp,VR hp ?_,Xv hp,rfl⟩;unfold ql at ax;split at ax
   ·cases ax
   ·rename_i h0;have h0:(jc s).2.1=0:=by simpa using h0
    obtain⟨a,cn,g1,g2⟩:=PR.hc ax;obtain⟨_,bM,g3,g4⟩:=PR.hc g2;cases g4;intro t aC;exact Nat.le_trans (Xm g1 t aC) (adb h0).2.1
  ·unfold sH at h;rw[ax]at h;simp[hp]at h
 |bad e m=>unfold sH at h;rw[ax]at h;exact absurd h (aeB (aoG k) ax)
 |out=>exact absurd ax (aDk (aoH k) s)
theorem S0{h:J}{d r t:Value}(af:pM h xw [I 0,d,r,t]):pD [d]=some (I 0)∧pD [r]=some (I 0)∧pD [t]=some (I 0):=by
 obtain⟨bW,dL,mV,e,A,S,xs,ae,_,aB⟩:=af;cases e;have a:=A.1.len;have b:=S.1.len;have c:=ae.len;rw[aB.length]at c;exact⟨a,b,c⟩
def H7(s:aD)(iT:Value)(c:Int)(tn t:aD)(k:Int)(p:Nat)(i:Nat)(e:ar):Prop:=∃ x0 xV ej x3 ek x5 x6 x7 x8 x9,e=[str s,iT,I c,str tn,.bool false,.bool true,str t,I k,x0,xV,ej,x3,ek,x5,x6,x7,x8,.slice (some ⟨p,0,none⟩) 3 1,I 3,I (i:Int),x9]
set_option maxHeartbeats 2000000 in
theorem Pd{N:Nat}{s:aD}{iT:Value}{c:Int}{tn t:aD}{k:Int}{p i:Nat}{h:J}{x:aD}{e:ar}{R:ar→J→Prop}{Q:dM→ar→J→Prop}
  (aK:H7 s iT c tn t k p i e) (au:i<3){cells:ar}(aA:h.get p=some (.aq cells true)) (af:cells[i]?=some (str x)) (xd:x.length≤9000000000000000000)
  (aN:∀ cA D,h.le D→H7 s iT c tn t k p (i+1) cA→R cA D):W Tryz.prog N tG.vars Fj (rh R Q) e h:=by
 obtain⟨x0,xV,ej,x3,ek,x5,x6,x7,x8,x9,rfl⟩:=aK;have ax:IntKind.i64.wrap ((i:Int)+1)=((i+1:Nat):Int):=by rw[cZ (by omega) (by omega)];rfl
 have aV:(i:Int)<3:=by omega
 have oP:=asY (id:=p) (n:=3) au;have asG:=akP x;rw[show tG.vars=[0,1,2,3,8,9,10,12,14,15,16,17,18,19,20,21,23,62,63,64,65] from rfl];delta Fj;replace aN:=U aN;simp only[aa,aw,av,ay, *];refine Ng 0 x h _ fun A z l1 bp=>?_;have bu:=Va A bp;obtain⟨⟨g,AE,kf⟩,hp⟩:∃ y,sH 0 x=y:=⟨_,rfl⟩;have bad:=T0 (k:=0) (s:=x);have fm:=T1 (k:=0) (s:=x);rw[hp]at bp bad fm;rw[hp];dsimp only at bp bad fm;obtain⟨cd,S,tO,jz,iA,dh⟩:=b9 A z;rw[jz,tO]at bu;have hw:=bp.mono dh;have l:=l1.trans dh;by_cases De:AE=0
 ·subst De;obtain⟨YK,asd,Ho,Pf⟩:=fm rfl;subst Pf;obtain⟨d,r,v6,rfl,_⟩:=bp;clear bad fm hp l1 dh;replace hw:=U hw;replace l:=U l;replace YK:=U YK;replace asd:=U asd;replace Ho:=U Ho;simp only[aa,aw,bh,av,ay,rS, *];refine af1 hw.h (fun _=>asd.h) _ fun ae aE=>?_;rw[if_pos YK.h,if_pos YK.h];have iA:=aE.get iA;have hw:=hw.h.mono aE;have l:=l.h.trans aE;clear aE;replace hw:=U hw;replace l:=U l;simp only[aa,aw,av,ay,rS, *];refine VX hw.h _ fun aB aO=>?_;rw[YK.h];have iA:=aO.get iA;have hw:=hw.h.mono aO;have l:=l.h.trans aO;clear aO;have ZZ:=akP (lZ g);by_cases y2:20000<(lZ g).length
  ·have T:(20000:Int)<((lZ g).length:Int):=by omega
   have xr:=Hid.mk (fun x0 xV ej x3 ek x5 x6 x7 x8 x9=>aN.h _ aB l ⟨x0,xV,ej,x3,ek,x5,x6,x7,x8,x9,rfl⟩);clear aN y2 l;replace hw:=U hw;simp only[aa,av,ay, *];exact xr.h _ _ _ _ _ _ _ _ _ _
  have T:¬(20000:Int)<((lZ g).length:Int):=by omega
  obtain⟨fF,Gr⟩:=aoh YK.h (by omega);clear y2;replace Gr:=U Gr;replace hw:=U hw;replace l:=U l;simp only[aa,av,ay, *];refine Ng fF _ aB _ fun aG aru bc DG=>?_;rw[Gr.h]at DG;rw[Gr.h];have bu:=Va aG DG;obtain⟨cS,a1,u4,iV,eE,gk⟩:=b9 aG aru;rw[iV,u4]at bu;have HA:=bc.trans gk;have iA:=HA.get iA;have hw:=hw.h.mono HA;have l:=l.h.trans HA;have xZ:=DG.mono gk;obtain⟨bW,dL,mV,rfl,_⟩:=DG;clear bc gk HA Gr;replace hw:=U hw;replace xZ:=U xZ;replace l:=U l;simp only[aa,aw,bh,rS, *];refine af1 xZ.h (fun _=>asd.h) _ fun bN bE=>?_;rw[if_pos YK.h,if_pos YK.h];have iA:=bE.get iA;have eE:=bE.get eE;have hw:=hw.h.mono bE;have xZ:=xZ.h.mono bE;have l:=l.h.trans bE;clear bE;have S1:=mq (lZ g) (lZ g);rw[beq_self_eq_true]at S1;replace hw:=U hw;replace xZ:=U xZ;replace l:=U l;simp only[aa,aw,av,ay,rS, *];refine af6 hw.h xZ.h Ho.h Ho.h _ fun ck b7 jj cq=>?_;have ab:ck=true:=jj.2 rfl;subst ab;have xr:=Hid.mk (fun x0 xV ej x3 ek x5 x6 x7 x8 x9=>aN.h _ b7 (l.h.trans cq) ⟨x0,xV,ej,x3,ek,x5,x6,x7,x8,x9,rfl⟩);clear aN l jj cq;simp only[aa,av,ay, *];exact xr.h _ _ _ _ _ _ _ _ _ _
 ·obtain⟨rfl,I3⟩:=bad De;have cH:(AE != 0)=true:=by simpa using De
  obtain⟨d,r,v6,rfl,_⟩:=bp;obtain⟨hD,h9,rN⟩:=S0 (h:=S) hw;have xr:=Hid.mk (fun x0 xV ej x3 ek x5 x6 x7 x8 x9=>aN.h _ S l ⟨x0,xV,ej,x3,ek,x5,x6,x7,x8,x9,rfl⟩);have eF:IntKind.i64.wrap (0+0)=0:=rfl;have j9:xw.bS=0:=rfl;simp only[j9]at bu iA ⊢;clear j9;clear aN fm bad hp l l1 dh hw De;by_cases h6:kf<1
  ·have T:¬(x.length:Int)≤20000:=by omega
   clear I3;simp only[aa,aw,bh,av,ay,Int.reduceLT, *];exact xr.h _ _ _ _ _ _ _ _ _ _
  ·clear I3;simp only[aa,aw,bh,av,ay,Int.reduceLT, *];exact xr.h _ _ _ _ _ _ _ _ _ _
set_option maxHeartbeats 2000000 in
theorem Pe{h:J}{s tn:aD}{iT:Value}{br:List Int}{c:Int}(ak:s.length≤140737488351232)(hm:tn.length≤140737488351232)(A:nc h iT br)(i1:∀ z∈br,nO z)(Kv:nO c)(Q:aT)(L:∀ D,Q (.bool true) D):bj Tryz.prog 8 [str s,iT,I c,str tn] h Q:=by
 have xA:=aoD br false;replace A:=U A;replace i1:=U i1;replace xA:=U xA;replace ak:=U ak;replace hm:=U hm;replace Kv:=U Kv;refine c7 (k:=4) TZ rfl rfl rfl fun N=>?_;rw[ahP tG ZJ rfl];delta tG;replace L:=U L;simp only[aa, *];refine afx h _ fun ae aE=>?_;have dP:=cT.mono aE A.h;clear A aE;replace dP:=U dP;simp only[aa, *];refine af2 dP.h i1.h false _ fun aB d r t xs aO Ic=>?_;obtain⟨p,hp⟩:∃ p,Ea br false=p:=⟨_,rfl⟩;rw[hp]at Ic xA;rw[hp];have hw:=Ic.Mr;have aR:=aow xA.h;have az:=xA.h.right;clear dP aO hp Ic i1;replace hw:=U hw;replace aR:=U aR;replace az:=U az;simp only[aa, *];refine apj (x:=[I p.bS,d,r,t]) hw.h (fun _=>aR.h) _ fun aG bc=>?_;rw[if_pos az.h,if_pos az.h];obtain⟨aqV,ZV⟩:∃ y,lZ p=y:=⟨_,rfl⟩;rw[ZV]at aR;rw[ZV];clear hw bc ZV xA az;have aV:=akP aqV;have vm:=akP tn;have er:IntKind.i64.wrap ((aqV.length:Int)+1)=((aqV.length+1:Nat):Int):=by have S:=aR.h;simp only[ez]at S;rw[cZ (by omega) (by omega)];rfl
 simp only[aa,av,ay, *];refine UH c _ (by omega) _ _ ?_;obtain⟨k,ab⟩:∃ k,zV c (aqV.length+1)=k:=⟨_,rfl⟩;have Gn:=Uy Kv.h (n:=aqV.length+1) (by omega);rw[ab]at Gn;rw[← Gn.2];have jj:k≤aqV.length:=by omega
 clear ab Gn;obtain⟨alb,Ld⟩:∃ y,min (k+tn.length) aqV.length=y:=⟨_,rfl⟩;have dx:=aR.h;have gW:=hm.h;simp only[ez]at dx;have dd:IntKind.i64.wrap ((k:Int)+(tn.length:Int))=((k+tn.length:Nat):Int):=by rw[cZ (by omega) (by omega)];rfl
 have aaa:D8 false [I ((k+tn.length:Nat):Int),I (aqV.length:Int)]=some (I (alb:Int)):=by
  simp only[D8,if_true,Bool.false_eq_true,if_false];split<;>(congr 2;omega)
 have LZ:alb≤aqV.length:=by omega
 have bT:=QW jj;have b4:=ys LZ;have eg:=ys jj;have ck:=cf (a:=aqV.take k) (b:=tn) (by have:=List.length_take_le k aqV;omega);have cm:=cf (a:=aqV.take k++tn) (b:=aqV.drop alb) (by simp only[List.length_append,List.length_take,List.length_drop];omega);have cb:=cf (a:=aqV.take k++tn) (b:=aqV.drop k) (by simp only[List.length_append,List.length_take,List.length_drop];omega);obtain⟨rg,Z7⟩:∃ y,aqV.take k++tn++aqV.drop alb=y:=⟨_,rfl⟩;obtain⟨arq,akc⟩:∃ y,aqV.take k++tn++aqV.drop k=y:=⟨_,rfl⟩;have mM:rg.length≤9000000000000000000:=by rw[← Z7];simp only[List.length_append,List.length_take,List.length_drop];omega
 have nQ:arq.length≤9000000000000000000:=by rw[← akc];simp only[List.length_append,List.length_take,List.length_drop];omega
 rw[Z7]at cm;rw[akc]at cb;have wn:ie [aI,aI,aI] [(0,1),(1,1),(2,1)] 3 1 [str s,str rg,str arq]=some ([str s,str rg,str arq],fun id=>.slice (some ⟨id,0,none⟩) 3 1):=rfl;obtain⟨cR,a1,Fh,iV,kH,gk⟩:=b9 aG [str s,str rg,str arq];have z0:((0:Nat):Int)=0:=rfl;have aE:pD [.slice (some ⟨cR,0,none⟩) 3 1]=some (I 3):=rfl;clear Ld Z7 akc LZ jj dx gW;replace mM:=U mM;replace nQ:=U nQ;replace kH:=U kH;simp only[aa,av,ay, *];refine ch.upto 3 (fun i e S=>a1.le S∧H7 s iT c tn aqV k cR i e) ?_ (Nat.zero_le _) ⟨.refl a1,_,_,_,_,_,_,_,_,_,_,rfl⟩;intro i e bN R au ⟨bE,aK⟩ aN;by_cases aV:i<3
 ·have dl:i=0∨i=1∨i=2:=by omega
  have g7:=bE.get kH.h;have T:∀(gA:dM→ar→J→Prop) (x:aD),([str s,str rg,str arq]:ar)[i]?=some (str x)→x.length≤9000000000000000000→W Tryz.prog N tG.vars Fj (rh R gA) e bN:=fun gA x af ag =>
   Pd aK aV g7 af ag fun cA D cq ass=>aN.h cA D aV ⟨bE.trans cq,ass⟩
  rcases dl with rfl|rfl|rfl
  ·exact T _ s rfl (by have:=ak.h;omega)
  ·exact T _ rg rfl mM.h
  ·exact T _ arq rfl nQ.h
 ·have ef:i=3:=by omega
  subst ef;obtain⟨x0,xV,ej,x3,ek,x5,x6,x7,x8,x9,rfl⟩:=aK;have dm:¬((3:Nat):Int)<3:=by omega
  have g:=Hid.mk (L.h bN);clear L aN aV bE;delta Fj;simp only[aa,av,ay, *];exact g.h
end Go.Eng.Sy
