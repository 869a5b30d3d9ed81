/-
  Part of a proof of the laws of layer 07 (reader): the laws.
  Conditions: none.
-/
import Derived.Test.YtjbjpooafphpnaaGreatDoorY
import Derived.KernelRfl
set_option linter.unusedSimpArgs false
set_option linter.unusedVariables false
namespace Go.Eng.Sy
open Go Go.Eng Go.Proofs
def Nx:gS:=⟨1,[],[],[⟨[116],false,0,1,0,[.mk 1 [120] [] 0 [.mk 4 1 0 [] [.mk 1 0 1 [] [],.mk 4 3 0 [] [.mk 1 0 2 [] [],.mk 1 0 3 [] []]]] [] []]⟩]⟩
def I0:aX:=.mk 4 1 0 [] [.mk 4 3 0 [] [.mk 1 0 1 [] [],.mk 1 0 2 [] []],.mk 1 0 3 [] []]
set_option maxRecDepth 100000 in
theorem Wy:sH 0 [104,97,114,116,115,32,49,32,116,97,115,107,32,116,32,48,32,49,32,123,32,120,32,61,32,49,32,43,32,50,32,42,32,51,59,32,125]=(Nx,0,0):=by kernel_rfl
set_option maxRecDepth 100000 in
theorem Wz:sH 0 [104,97,114,116,115,32,49,10,116,97,115,107,32,116,32,48,32,123]=(xw,70,2):=by kernel_rfl
set_option maxRecDepth 100000 in
theorem WA:s4 0 [49,32,42,32,50,32,43,32,51]=(I0,0,0):=by kernel_rfl
set_option maxRecDepth 100000 in
theorem ER:mT Nx=true∧lZ Nx=[104,97,114,116,115,32,49,10,116,97,115,107,32,116,32,48,32,49,32,123,10,9,120,32,61,32,49,32,43,32,50,32,42,32,51,59,10,125,10]∧fu I0 30=true∧bU I0=[49,32,42,32,50,32,43,32,51]:=⟨by kernel_rfl,by kernel_rfl,by kernel_rfl,by kernel_rfl⟩
theorem Va(h:J){p:gS}{x:ar}(af:pM h p x):cz 4 (h.alloc (.aq uQ true)) [aH h.next 0,.agg x.toArray]=some (b0,h.alloc (.aq x true)):=by
 obtain⟨d,r,t,rfl,hd,hr,aC⟩:=af;exact kk rfl rfl rfl (by simp[hd.one,hr.one,aC.one];simp[Value.oneCell'])
theorem afx(h:J)(Q:aT)(L:∀ D,h.le D→Q (.bool true) D):bj Tryz.prog 10 [] h Q:=by
 refine c7 (k:=0) alB rfl rfl rfl fun N=>?_;rw[Fl qv Ij rfl];delta qv;replace L:=U L;simp only[aa, *];refine Ng 0 [104,97,114,116,115,32,49,32,116,97,115,107,32,116,32,48,32,49,32,123,32,120,32,61,32,49,32,43,32,50,32,42,32,51,59,32,125] h _ fun A x l1 af=>?_;rw[Wy]at af;rw[Wy];have bu:=Va A af;obtain⟨bA,S,qF,jz,fA,dh⟩:=b9 A x;rw[jz,qF]at bu;have gZ:=af.mono dh;obtain⟨d,r,t,rfl,_⟩:=af;have l2:=l1.trans dh;clear dh l1;replace gZ:=U gZ;replace l2:=U l2;simp only[aa,aw,bh,rS, *];refine apj gZ.h (fun _=>by rw[ER.2.1];decide) _ fun ae aE=>?_;rw[ER.1,ER.2.1];have rM:=l2.h.trans aE;clear gZ l2 aE bu fA;replace rM:=U rM;simp only[aa, *];refine Ng 0 [104,97,114,116,115,32,49,10,116,97,115,107,32,116,32,48,32,123] ae _ fun aB y aO bw=>?_;rw[Wz]at bw;rw[Wz];have bu:=Va aB bw;obtain⟨ft,aG,tN,qD,h4,iG⟩:=b9 aB y;rw[qD,tN]at bu;obtain⟨d,r,t,rfl,_⟩:=bw;have bc:=(rM.h.trans aO).trans iG;clear rM aO iG;replace bc:=U bc;simp only[aa,bh, *];refine VM 0 [49,32,42,32,50,32,43,32,51] aG _ fun a1 z aY bp=>?_;rw[WA]at bp;rw[WA];have tw:=Ib a1 bp;obtain⟨atp,bN,ahu,mc,FH,gf⟩:=b9 a1 z;rw[mc,ahu]at tw;have LB:=bp.mono gf;obtain⟨w,rfl,ax⟩:=bp.cells;have cG:=ax.one;have bE:=(bc.h.trans aY).trans gf;clear bc aY gf bp ax;replace LB:=U LB;replace bE:=U bE;simp only[aa,aw,bh,dt, *];refine apd LB.h _ fun b7 cq=>?_;rw[ER.2.2.1,ER.2.2.2];have yU:=cq.get FH;have g:=Hid.mk (L.h b7 (bE.h.trans cq));have cd:=iz [104,97,114,116,115,32,49,10,116,97,115,107,32,116,32,48,32,49,32,123,10,9,120,32,61,32,49,32,43,32,50,32,42,32,51,59,10,125,10] [104,97,114,116,115,32,49,10,116,97,115,107,32,116,32,48,32,49,32,123,10,9,120,32,61,32,49,32,43,32,50,32,42,32,51,59,10,125,10];have cS:=iz [49,32,42,32,50,32,43,32,51] [49,32,42,32,50,32,43,32,51];rw[beq_self_eq_true]at cd cS;clear L LB bE cq;simp only[aa,aw,av,ay,I0,aX.op, *];exact g.h
theorem aoh{p:gS}(hp:mT p=true)(ag:(lZ p).length≤20000):∃ k,sH k (lZ p)=(p,0,0):=by
 obtain⟨cp,S,ae,aB⟩:=UQ hp;have ak:=apT (p:=p) (by omega) S ae aB ag;obtain⟨f0,aZ⟩:=ap5 (p:=p) (by omega) S ae aB (HB p);refine⟨f0,?_⟩;have ax:ql (Eb f0) (lZ p)=.ok p [me (HB p)]:=by
  unfold ql;rw[ak];simp only[ne_eq,not_true,if_false];rw[Eb,aZ _ (by omega)];rfl
 unfold sH;rw[ax];simp[hp]
theorem akP(l:aD):vQ [.string ⟨l.toArray⟩]=some (I l.length):=by simp[vQ,ByteArray.size]
end Go.Eng.Sy
