/-
  Part of a proof of the laws of layer 07 (reader): the laws.
  Conditions: none.
-/
import Derived.Test.YtjbjpooafphpnaaGreatDoorEc
import Derived.Test.YtjbjpooafphpnaaGreatDoorProg
import Derived.KernelRfl
import Derived.Test.YtjbjpooafphpnaaGreatDoorM3
set_option linter.unusedSimpArgs false
set_option linter.unusedVariables false
namespace Go.Eng.Sy
open Go Go.Eng Go.Proofs
section
set_option maxRecDepth 100000
noncomputable def gd:bo:=(aS (a7 [E 0 6,E 1 4,fW 2 1] [] 0 .skip (.exit 0)) (aS (.block 1 (.aW [⟨0,.a (.hP [aI,aI,aI] [(0,1),(1,1),(2,1)] 3 1),[.c (.string ⟨#[45]⟩),.c (.string ⟨#[33]⟩),.c (.string ⟨#[126]⟩)],none,false⟩,E 1 6,i7 2 3,gU 3 1 2,M 4,E 5 5,ec 6 1 0,ap 7 0] [(5,0)])) (.aW [E 0 6,am 1,ap 2 0] [(6,0)])))
noncomputable def fY:bo:=(aS (a7 [E 0 12,E 1 9,fW 2 1] [] 0 .skip (.exit 2)) (aS (.block 3 (ao [E 0 10,⟨1,.p (.bin .add),[.t 0,.c (.string ⟨#[114,101,112,101,97,116,32,49,32,123]⟩)],none,false⟩,ap 2 0] [(10,0)] (.aW [E 0 11,TJ 1,ap 2 0] [(11,0)]))) (.aW [E 0 12,am 1,ap 2 0] [(12,0)])))
noncomputable def cR:bB:=⟨2,[0,1,4,5,6,7,8,10,11,12,13,14,15,16,17,18],(ao [cK 0] [(2,0)] (ao [CN 0 10,ap 1 0] [(3,0)] (ao [E 0 0,nC 1 13 61,ap 2 0] [(4,0)] (ao [⟨0,.p .jK,[.c (.string ⟨#[49]⟩)],none,false⟩] [(5,0)] (aS (ao [ba 0 0] [(6,0)] (.block 0 (.loop gd))) (ao [E 0 5,Y 1 14,ap 2 0,dC 3 0 0,dC 4 1 1,dC 5 2 2,nh 6,ac 7 5 3,ap 8 3,ap 9 3] [(7,1),(8,0)] (ao [E 0 1,nC 1 13 61,ap 2 0] [(9,0)] (ao [gj 0] [(10,0)] (ao [gj 0] [(11,0)] (aS (ao [ba 0 0] [(12,0)] (.block 2 (.loop fY))) (ao [E 0 10,⟨1,.p (.bin .add),[.c (.string ⟨#[10,104,97,114,116,115,32,49,32,116,97,115,107,32,116,32,48,32,49,32,123,32]⟩),.t 0],none,false⟩,E 2 11,ec 3 1 0,TJ 4,Y 5 16,ap 6 0,dC 7 0 0,dC 8 1 1,dC 9 2 2,tH 10,ac 11 4 3,ap 12 3,ap 13 3] [(13,3),(14,1),(15,0)] (ao [E 0 3,ap 1 0,c0 2 7 0,l8 3 1 0,c0 4 4 2,Tq 5 3 30,TK 6,Z 7 5,ap 8 0,c0 9 7 0,l8 10 1 0,sb 11 2,eV 12 7 0,n5 13 1 71,qC 14 2,c0 15 8 0,l8 16 1 1,rs 17 2 5,d9 18 6 9,Z 19 10,ap 20 0,c0 21 14 0,l8 22 1 0,c0 23 9 2,d8 24 3 30,TK 25,Z 26 5,ap 27 0,c0 28 14 0,l8 29 1 0,sb 30 2,ed 31 3 13 0,dQ 32 1,d7 33,l8 34 3 1,⟨35,.p .pick,[.t 4,.t 0,.c (.bool false)],some (7,true),false⟩,sb 36 8,eV 37 14 0,n5 38 1 71,qC 39 2,c0 40 15 0,l8 41 1 1,rs 42 2 5,d9 43 6 15,Z 44 16,ap 45 0] [(2,0)] .ret)))))))))))),[.var 2]⟩
theorem ki:bK Tryz.prog 4 cR:=bV (by kernel_rfl)
end
def eX (i:Nat):UInt8:=if i % 3=0 then 45 else if i % 3=1 then 33 else 126
def ey:Nat→aD
 | 0=>[49]
 | k + 1=>eX k::ey k
def eB:Nat→aD
 | 0=>[]
 | k + 1=>eB k++[114,101,112,101,97,116,32,49,32,123]
def eG:Nat→aD
 | 0=>[]
 | k + 1=>eG k++[125]
def eZ (d:Nat):aD:=[10,104,97,114,116,115,32,49,32,116,97,115,107,32,116,32,48,32,49,32,123,32]++eB d++eG d++[125]
def fE (k:Nat):Bool:=if k < 30 then (s4 0 (ey k)).2.1 == 0 else (s4 0 (ey k)).2.1 == 71 && (s4 0 (ey k)).2.2 == 1
def fL (k:Nat):Bool:=if k≤30 then (sH 0 (eZ k)).2.1 == 0 && (sH 0 (eZ k)).1.db.length == 1 else (sH 0 (eZ k)).2.1 == 71 && (sH 0 (eZ k)).2.2 == 1
set_option maxRecDepth 100000 in
theorem hd:(List.range 61).all fE=true:=by kernel_rfl
set_option maxRecDepth 100000 in
theorem jr:(List.range 61).all fL=true:=by kernel_rfl
theorem jw {k:Nat}(h:k < 61):fE k=true:=List.all_eq_true.1 hd k (by simpa using h)
theorem jD {k:Nat}(h:k < 61):fL k=true:=List.all_eq_true.1 jr k (by simpa using h)
theorem hb:∀ k,(ey k).length=k + 1
 | 0=>rfl
 | k + 1=>by simp [ey,hb k]
theorem fk:∀ k,(eB k).length=10 * k
 | 0=>rfl
 | k + 1=>by simp [eB,fk k];omega
theorem fC:∀ k,(eG k).length=k
 | 0=>rfl
 | k + 1=>by simp [eG,fC k]
set_option maxHeartbeats 1000000 in
theorem hW {h:J}{n m:Int}(i1:nO n) (i2:nO m) (Q:aT) (L:∀ D,Q (.bool true) D):bj Tryz.prog 4 [I n,I m] h Q:=by
 obtain ⟨iq,pn⟩:∃ k,zV n 61=k:=⟨_,rfl⟩;have ab:=Uy i1 (n:=61) (by omega);rw [pn] at ab;obtain ⟨iK,gV⟩:∃ k,zV m 61=k:=⟨_,rfl⟩;have aC:=Uy i2 (n:=61) (by omega);rw [gV] at aC;have GQ:pick n 61=(iq:Int):=ab.2.symm;have pr:pick m 61=(iK:Int):=aC.2.symm;have jj:=ab.1;have fd:=aC.1;clear ab pn aC gV i1 i2;replace jj:=U jj;replace fd:=U fd;replace GQ:=U GQ;replace pr:=U pr;refine c7 (k:=2) ki rfl rfl rfl fun N=>?_;rw [eJ cR kj rfl];delta cR;replace L:=U L;simp only [aa, *];refine afx h _ fun ae aE=>?_;clear aE;simp only [aa, *];refine ms n 61 (by decide) _ _ ?_;rw [GQ.h];have z0:((0:Nat):Int)=0:=rfl;simp only [aa, *];refine ch.upto iq (fun i e S=>e=[I n,I m,.bool false,.bool true,I (iq:Int),str (ey i),I (i:Int),b0,b0,b0,b0,b0,b0,b0,b0,b0]) ?_ (Nat.zero_le _) rfl;rintro i _ aB R au rfl aN;delta gd;by_cases aV:i < iq
 ·have dm : (i:Int) < iq:=by omega
  have ax:IntKind.i64.wrap ((i:Int) + 1)=((i + 1:Nat):Int):=by have:=jj.h;rw [cZ (by omega) (by omega)];rfl
  have wn:ie [aI,aI,aI] [(0,1),(1,1),(2,1)] 3 1 [.string ⟨#[45]⟩,.string ⟨#[33]⟩,.string ⟨#[126]⟩]=some ([.string ⟨#[45]⟩,.string ⟨#[33]⟩,.string ⟨#[126]⟩],fun id=>.slice (some ⟨id,0,none⟩) 3 1):=rfl;obtain ⟨p,aG,gr,qD,ep,iG⟩:=b9 aB [.string ⟨#[45]⟩,.string ⟨#[33]⟩,.string ⟨#[126]⟩];obtain ⟨j,bn⟩:∃ j,i % 3=j:=⟨_,rfl⟩;have fm:j < 3:=by omega
  have H:(i:Int).tmod 3=(j:Int):=by rw [Int.tmod_eq_emod_of_nonneg (by omega)];omega
  have z3:¬ (3:Int)=0:=by decide
  have oP:=jZ (id:=p) (n:=3) fm;have ck:=cf (a:=[eX i]) (b:=ey i) (by have:=hb i;have:=jj.h;simp only [List.length_cons,List.length_nil];omega);have g:=aN.h _ aG aV rfl;rw [show ey (i + 1)=[eX i]++ey i from rfl] at g;replace g:=Hid.mk g;clear aN L iG;have cC:j=0∨j=1∨j=2:=by omega
  rcases cC with rfl | rfl | rfl
  ·have ak:eX i=45:=by unfold eX;rw [if_pos bn]
   rw [ak] at ck g;rw [z0] at oP;clear bn ak fm;simp only [aa,aw,av,ay, *];exact g.h
  ·have ak:eX i=33:=by unfold eX;rw [if_neg (by omega),if_pos bn]
   rw [ak] at ck g;clear bn ak fm;simp only [aa,aw,av,ay, *];exact g.h
  ·have ak:eX i=126:=by unfold eX;rw [if_neg (by omega),if_neg (by omega)]
   rw [ak] at ck g;clear bn ak fm;simp only [aa,aw,av,ay, *];exact g.h
 have ef:i=iq:=by omega
 subst ef;have dm : ¬ (i:Int) < i:=by omega
 clear aN aV;simp only [aa,av,ay, *];refine VM 0 (ey i) aB _ fun lk z aaJ bp=>?_;have bu:=Ib lk bp;obtain ⟨⟨kD,jp,cY⟩,hr⟩:∃ x,s4 0 (ey i)=x:=⟨_,rfl⟩;rw [hr] at bp;rw [hr];obtain ⟨tu,pU,yJ,ahs,hT,TZ⟩:=b9 lk z;rw [ahs,yJ] at bu;clear aaJ TZ bp;replace hr:=U hr;simp only [aa,bh, *];refine ms m 61 (by decide) _ _ ?_;rw [pr.h];simp only [aa, *];refine ch.upto iK (fun j e S=>S=pU∧e=[I n,I m,.bool false,.bool true,I (i:Int),str (ey i),I (i:Int),I jp,I cY,I (iK:Int),str (eB j),str (eG j),I (j:Int),b0,b0,b0]) ?_ (Nat.zero_le _) ⟨rfl,rfl⟩;rintro j _ S R bn ⟨rfl,rfl⟩ aN;delta fY;by_cases aV:j < iK
 ·have dm : (j:Int) < iK:=by omega
  have ax:IntKind.i64.wrap ((j:Int) + 1)=((j + 1:Nat):Int):=by have:=fd.h;rw [cZ (by omega) (by omega)];rfl
  have ck:=cf (a:=eB j) (b:=[114,101,112,101,97,116,32,49,32,123]) (by have:=fk j;have:=fd.h;simp only [List.length_cons,List.length_nil];omega);have cm:=cf (a:=eG j) (b:=[125]) (by have:=fC j;have:=fd.h;simp only [List.length_cons,List.length_nil];omega);have g:=aN.h _ S aV ⟨rfl,rfl⟩;rw [show eB (j + 1)=eB j++[114,101,112,101,97,116,32,49,32,123] from rfl,show eG (j + 1)=eG j++[125] from rfl] at g;replace g:=Hid.mk g;clear aN L;simp only [aa,av,ay, *];exact g.h
 have asz:j=iK:=by omega
 subst asz;have dm : ¬ (j:Int) < j:=by omega
 clear aN aV;have ck:=cf (a:=[10,104,97,114,116,115,32,49,32,116,97,115,107,32,116,32,48,32,49,32,123,32]) (b:=eB j) (by have:=fk j;have:=fd.h;simp only [List.length_cons,List.length_nil];omega);have cm:=cf (a:=[10,104,97,114,116,115,32,49,32,116,97,115,107,32,116,32,48,32,49,32,123,32]++eB j) (b:=eG j) (by have:=fk j;have:=fC j;have:=fd.h;simp only [List.length_append,List.length_cons,List.length_nil];omega);have cb:=cf (a:=[10,104,97,114,116,115,32,49,32,116,97,115,107,32,116,32,48,32,49,32,123,32]++eB j++eG j) (b:=[125]) (by have:=fk j;have:=fC j;have:=fd.h;simp only [List.length_append,List.length_cons,List.length_nil];omega);simp only [aa,av,ay, *];refine Ng 0 (eZ j) S _ fun hj aru mn DG=>?_;have bu:=Va hj DG;obtain ⟨⟨hp,xC,atr⟩,bf⟩:∃ x,sH 0 (eZ j)=x:=⟨_,rfl⟩;rw [bf] at DG;rw [bf];obtain ⟨Ec,pV,AD,aht,qH,T0⟩:=b9 hj aru;rw [aht,AD] at bu;have kx:=DG.mono T0;obtain ⟨bW,dL,mV,rfl,_,_,H⟩:=kx;obtain ⟨xs,iY,_,G4⟩:=H;have iQ:xs.length=hp.db.length:=G4.length;clear G4;have aR:=iY.len;have g:=Hid.mk (L.h pV);have qx:=jw jj.h;have di:=jD fd.h;unfold fE at qx;unfold fL at di;rw [hr.h] at qx;rw [bf] at di;clear L hr bf mn T0 DG ck cm cb;by_cases ha:i < 30
 ·rw [if_pos ha] at qx;simp only [Bool.and_eq_true,beq_iff_eq] at qx;subst qx;have rB : (i:Int) < 30:=by omega
  by_cases fa:j≤30
  ·rw [if_pos fa] at di;simp only [Bool.and_eq_true,beq_iff_eq] at di;obtain ⟨rfl,di⟩:=di;have aji : (j:Int)≤30:=by omega
   have wi:((1:Nat):Int)=1:=rfl;simp only [aa,aw,bh,av,ay,fo, *];exact g.h
  ·rw [if_neg fa] at di;simp only [Bool.and_eq_true,beq_iff_eq] at di;obtain ⟨rfl,rfl⟩:=di;have aji : ¬ (j:Int)≤30:=by omega
   simp only [aa,bh,av,ay,Int.reduceBEq,fo, *];exact g.h
 ·rw [if_neg ha] at qx;simp only [Bool.and_eq_true,beq_iff_eq] at qx;obtain ⟨rfl,rfl⟩:=qx;have rB : ¬ (i:Int) < 30:=by omega
  by_cases fa:j≤30
  ·rw [if_pos fa] at di;simp only [Bool.and_eq_true,beq_iff_eq] at di;obtain ⟨rfl,di⟩:=di;have aji : (j:Int)≤30:=by omega
   have wi:((1:Nat):Int)=1:=rfl;simp only [aa,aw,bh,av,ay,Int.reduceBEq,fo, *];exact g.h
  ·rw [if_neg fa] at di;simp only [Bool.and_eq_true,beq_iff_eq] at di;obtain ⟨rfl,rfl⟩:=di;have aji : ¬ (j:Int)≤30:=by omega
   simp only [aa,bh,av,ay,Int.reduceBEq,fo, *];exact g.h
end Go.Eng.Sy
