/-
  Part of a proof of the laws of layer 07 (reader): the laws.
  Conditions: none.
-/
import Derived.Test.YtjbjpooafphpnaaGreatDoorEc
import Derived.Test.YtjbjpooafphpnaaGreatDoorProg
import Derived.KernelRfl
import Derived.Test.YtjbjpooafphpnaaGreatDoorW
set_option linter.unusedSimpArgs false
set_option linter.unusedVariables false
namespace Go.Eng.Sy
open Go Go.Eng Go.Proofs
section
set_option maxRecDepth 100000
noncomputable def kj:bo:=(aS (a7 [E 0 9,E 1 7,gz 2 1] [] 0 .skip (.exit 0)) (aS (.block 1 (.aW [E 0 8,CU 1,CV 2,ap 3 0] [(8,0)])) (.aW [E 0 9,ff 1,ap 2 0] [(9,0)])))
noncomputable def cR:bB:=⟨2,[0,1,4,5,6,7,8,9,10,11,12,13,16,19],(ao [c0 0] [(2,0)] (ao [CT 0 10,ap 1 0] [(3,0)] (ao [E 0 0,Z 1 11,mB 2,c5 3 5 1] [(4,1)] (ao [eR 0 5 4,Z 1 12,ap 2 0,dI 3 0 0,dI 4 1 1,ap 5 1,ap 6 1] [(5,1),(6,0)] (ao [E 0 1,l8 1 13 51,ap 2 0] [(7,0)] (ao [E 0 5,ap 1 0] [(8,0)] (aS (ao [Y 0 0] [(9,0)] (.block 0 (.loop kj))) (ao [E 0 8,Z 1 14,ap 2 0,dI 3 0 0,dI 4 1 1,dI 5 2 2,mB 6,c5 7 5 3,ap 8 3,ap 9 3] [(10,3),(11,1)] (ao [E 0 8,CV 1,Z 2 14,ap 3 0,dI 4 0 0,dI 5 1 1,dI 6 2 2,mB 7,c5 8 5 3,ap 9 3,ap 10 3] [(12,1)] (ao [E 0 8,CU 1,Z 2 14,ap 3 0,dI 4 0 0,dI 5 1 1,dI 6 2 2,mB 7,c5 8 5 3,ap 9 3,ap 10 3] [(13,1)] (ao [E 0 3,ap 1 0,dU 2 6 0,gL 3 1 0,cK 4 2,ap 5 0,dU 6 11 0,gL 7 1 0,cK 8 2,ap 9 0,dU 10 12 0,gL 11 1 70,cK 12 2,ap 13 0,dU 14 13 0,gL 15 1 70,cK 16 2,ap 17 0,CS 18 4 0,aaf 19 1,CS 20 10 2,aaf 21 3,pS 22 15 2 4,cK 23 5,ap 24 0] [(2,0)] .ret))))))))))),[.var 2]⟩
theorem ll:bK Tryz.prog 3 cR:=bV (by kernel_rfl)
end
def ey:Nat→aD→aD
 | 0,s=>s
 | k + 1,s=>40::(ey k s++[41])
def gV (m:Int) (e:aX):Nat→List Tok
 | 0=>fo m e
 | k + 1=>bD [40] m::(gV m e k++[bD [41] m])
theorem hb (s:aD):∀ k,(ey k s).length=s.length + 2 * k
 | 0=>rfl
 | k + 1=>by simp [ey,hb s k];omega
theorem kG {e:aX}{d:Nat}(h:e1 e d) (k:Nat) (l:aD):re (ey k (bU e)++l):=by
 cases k with
 | zero=>exact B7 h l
 | succ k=>exact B6 (by decide)
theorem jD {e:aX}{d:Nat}(h:e1 e d):∀ (k:Nat) (l:aD) (m:Int),del l→dc (ey k (bU e)++l) m=fL (gV m e k) (dc l m)
 | 0,l,m,ag=>adl h l m ag
 | k + 1,l,m,ag=>by
  have az:ey (k + 1) (bU e)++l=[40]++(ey k (bU e)++([41]++l)):=by simp [ey]
  rw [az,B5 (by decide) (kG h k _),jD h k ([41]++l) m (E8 (by decide)),B5 (by decide) ag.2,rp,rp];rfl
theorem jw {e:aX}{d:Nat}(h:e1 e d) (m:Int):∀ (k deep:Nat) (l:List Tok),deep + k + 2 * d≤1000→HC l=0→q1 l→wm 1 deep (gV m e k++l) e l
 | 0,deep,l,aC,ad,hn=>(acw h).1 deep m 1 l e l (by omega) (akS h) hn (by omega) (EF (.inl ad))
 | k + 1,deep,l,aC,ad,hn=>by
  have az:gV m e (k + 1)++l=bD [40] m::(gV m e k++(bD [41] m::l)):=by simp [gV]
  rw [az];obtain ⟨bk,bJ⟩:=HD [41] (.inl rfl) m l;exact VL (aeR (by omega) (jw h m k (deep + 1) _ (by omega) bk bJ)) (EF (.inl ad))
theorem mu {s:aD}{ts:List Tok}{m:Int}(ag:s.length≤20000) (h:dc s 1=(ts,m,true)):jc s=(ts++[me m],0,0):=by
 unfold jc;rw [if_neg (by omega),ade,h];simp
theorem jZ {s:aD}{ts:List Tok}{m:Int}(ag:s.length≤20000) (h:dc s 1=(ts,m,true)) (k:Nat):s4 k s=match (CM k (ts++[me m])).bind fun a r=>(im 5 r).bind fun _ r=>.ok a r with
 | .ok x _=>if fu x 30 then (x,0,0) else (.mk 0 0 0 [] [],71,1)
 | .bad e m=>(.mk 0 0 0 [] [],e,m)
 | .out=>(.mk 0 0 0 [] [],0,0):=by
 unfold s4 ql;rw [mu ag h];simp only [ne_eq,not_true,if_false];rfl
section
variable {e:aX}{d:Nat}(h:e1 e d) (kv:d≤30){n:Nat}(hn:n≤60) (ag:(bU e).length≤10000)
include h kv hn ag
theorem l3:∃ k,s4 k (ey n (bU e))=(e,0,0):=by
 have iK:del []:=And.intro (fun b r h=>absurd h (by simp)) (fun b r h=>absurd h (by simp));have ak:=jD h n [] 1 iK;rw [List.append_nil,adg] at ak;obtain ⟨f0,aZ⟩:=jw h 1 n 1 [me 1] (by omega) rfl rfl;refine ⟨f0,?_⟩;rw [jZ (ts:=gV 1 e n) (m:=1) (by rw [hb];omega) (by rw [ak];simp [fL]),CM,aZ _ (by omega)];have hr:fu e 30=true:=(rX 30 e).2 (h.mono kv);show (if fu e 30 then (e,0,0) else _)=_;rw [if_pos hr]
theorem l6:∃ k m,s4 k (ey n (bU e)++[41])=(.mk 0 0 0 [] [],70,m):=by
 have iK:re []:=fun b r h=>absurd h (by simp);have ak:=jD h n ([41]++[]) 1 (E8 (by decide));rw [B5 (by decide) iK,adg] at ak;obtain ⟨f0,aZ⟩:=jw h 1 n 1 [bD [41] 1,me 1] (by omega) rfl rfl;refine ⟨f0,1,?_⟩;rw [jZ (ts:=gV 1 e n++[bD [41] 1]) (m:=1) (by rw [List.length_append,hb];simp;omega) (by rw [show ey n (bU e)++[41]=ey n (bU e)++([41]++[]) from rfl,ak];simp [fL]),CM,List.append_assoc];rw [show [bD [41] 1]++[me 1]=[bD [41] 1,me 1] from rfl,aZ _ (by simp;omega)];rfl
theorem mr:∃ k m,s4 k (40::ey n (bU e))=(.mk 0 0 0 [] [],70,m):=by
 have iK:del []:=And.intro (fun b r h=>absurd h (by simp)) (fun b r h=>absurd h (by simp));have ak:=jD h n [] 1 iK;have aB:=B5 (g:=[40]) (by decide) (kG h n []) 1;rw [ak,adg,List.append_nil] at aB;obtain ⟨f0,aZ⟩:=jw h 1 n 2 [me 1] (by omega) rfl rfl;refine ⟨f0 + 2,1,?_⟩;rw [jZ (ts:=bD [40] 1::gV 1 e n) (m:=1) (by rw [List.length_cons,hb];omega) (by rw [show 40::ey n (bU e)=[40]++ey n (bU e) from rfl,aB];simp [fL]),CM];obtain ⟨f,lj⟩:∃ f,max (f0 + 2) (3 * (bD [40] 1::gV 1 e n++[me 1]).length + 2)=f + 2:=⟨max (f0 + 2) (3 * (bD [40] 1::gV 1 e n++[me 1]).length + 2) - 2,by omega⟩;rw [lj,List.cons_append];have u:unOp (bD [40] 1)=0:=rfl;have i:dk [40] (bD [40] 1)=true:=rfl;rw [lB,nT,if_neg (by omega),show aC (bD [40] 1::(gV 1 e n++[me 1]))=bD [40] 1 from rfl,u,if_neg (by simp),if_pos i,List.tail_cons,aZ _ (by omega)];rfl
end
theorem ms (c n:Int) (hn:n≠0) (h:J) (Q:aT) (L:Q (I (pick c n)) h):bj Tryz.prog 13 [I c,I n] h Q:=by
 refine c7 (k:=2) atk rfl rfl rfl fun N=>?_;rw [eJ agm iL rfl];delta agm;replace L:=U L;have eq:c < 0→Q (I ((IntKind.i64.wrap (0 - IntKind.i64.wrap (c + 1))).tmod n)) h:=fun aj=>by have:=L.h;rwa [pick,if_pos aj] at this
 have cN:¬ c < 0→Q (I (c.tmod n)) h:=fun aj=>by have:=L.h;rwa [pick,if_neg aj] at this
 replace eq:=Hid.mk eq;replace cN:=Hid.mk cN;repeat' (first | simp only [aa,av,ay, *] | with_reducible (first | refine aap ?_ ?_ | refine aaw ?_ ?_ | refine aaq ?_ ?_ | refine aax ?_ ?_)<;>intro aj)
 ·exact eq.h (by assumption)
 ·exact cN.h (by assumption)
set_option maxHeartbeats 1000000 in
theorem ly {h:J}{iT:Value}{br:List Int}{n:Int}(A:nc h iT br) (i1:∀ z ∈ br,nO z) (i2:nO n) (Q:aT) (L:∀ D,Q (.bool true) D):bj Tryz.prog 3 [iT,I n] h Q:=by
 have cn:=ap0 br;have hd:=UH br;have cY:=ap1 br;obtain ⟨iq,pn⟩:∃ k,zV n 51=k:=⟨_,rfl⟩;have ab:=Uy i2 (n:=51) (by omega);rw [pn] at ab;have GQ:pick n 51=(iq:Int):=ab.2.symm;have jj:=ab.1;clear ab pn i2;replace A:=U A;replace i1:=U i1;replace cn:=U cn;replace hd:=U hd;replace cY:=U cY;replace jj:=U jj;replace GQ:=U GQ;refine c7 (k:=2) ll rfl rfl rfl fun N=>?_;rw [eJ cR mX rfl];delta cR;replace L:=U L;simp only [aa, *];refine afx h _ fun ae aE=>?_;have dP:=cT.mono aE A.h;clear A aE;replace dP:=U dP;simp only [aa, *];refine af3 dP.h i1.h _ fun a1 y aY bw=>?_;have Lz:=bw.plain;obtain ⟨x,af⟩:∃ x,H7 br=x:=⟨_,rfl⟩;rw [af] at bw Lz cn hd cY;have iu:=Ib a1 Lz;obtain ⟨cS,bN,u4,mc,eE,gf⟩:=b9 a1 y;rw [mc,u4] at iu;have kx:=Lz.mono gf;obtain ⟨er,rfl,sw⟩:=kx.cells;have cG:=sw.one;clear dP aY gf bw Lz af i1;replace kx:=U kx;replace sw:=U sw;simp only [aa,aw,bh,dt, *];refine VN kx.h _ fun dE jo=>?_;rw [if_pos cn.h,if_pos cn.h];have eE:=jo.get eE;have kx:=kx.h.mono jo;clear jo;replace kx:=U kx;simp only [aa, *];refine ms n 51 (by decide) _ _ ?_;rw [GQ.h];have z0:((0:Nat):Int)=0:=rfl;simp only [aa, *];refine ch.upto iq (fun i e S=>S=dE∧e=[iT,I n,.bool false,.bool true,aH cS 0,str (bU x),I 0,I (iq:Int),str (ey i (bU x)),I (i:Int),b0,b0,b0,b0]) ?_ (Nat.zero_le _) ⟨rfl,rfl⟩;rintro i _ S R au ⟨rfl,rfl⟩ aN;delta kj;by_cases aV:i < iq
 ·have dm : (i:Int) < iq:=by omega
  have ax:IntKind.i64.wrap ((i:Int) + 1)=((i + 1:Nat):Int):=by have:=jj.h;rw [cZ (by omega) (by omega)];rfl
  have ag:=hb (bU x) i;have ck:=cf (a:=[40]) (b:=ey i (bU x)) (by have:=jj.h;have:=cY.h;simp only [List.length_cons,List.length_nil];omega);have cm:=cf (a:=[40]++ey i (bU x)) (b:=[41]) (by have:=jj.h;have:=cY.h;simp only [List.length_append,List.length_cons,List.length_nil];omega);have g:=aN.h _ S aV ⟨rfl,rfl⟩;rw [show ey (i + 1) (bU x)=[40]++ey i (bU x)++[41] by simp [ey]] at g;replace g:=Hid.mk g;clear aN L ag;simp only [aa,av,ay, *];exact g.h
 have ef:i=iq:=by omega
 subst ef;have dm : ¬ (i:Int) < i:=by omega
 obtain ⟨ck,az⟩:=l3 hd.h (by omega) (n:=i) (by have:=jj.h;omega) (by have:=cY.h;omega);obtain ⟨cm,m2,aL⟩:=l6 hd.h (by omega) (n:=i) (by have:=jj.h;omega) (by have:=cY.h;omega);obtain ⟨cb,m3,bq⟩:=mr hd.h (by omega) (n:=i) (by have:=jj.h;omega) (by have:=cY.h;omega);have ag:=hb (bU x) i;have bk:=cf (a:=ey i (bU x)) (b:=[41]) (by have:=jj.h;have:=cY.h;simp only [List.length_cons,List.length_nil];omega);have bJ:=cf (a:=[40]) (b:=ey i (bU x)) (by have:=jj.h;have:=cY.h;simp only [List.length_cons,List.length_nil];omega);clear aN ag;replace az:=U az;replace aL:=U aL;replace bq:=U bq;simp only [aa,av,ay, *];refine VM ck _ S _ fun lk z aaJ bp=>?_;rw [az.h] at bp;rw [az.h];have bu:=Ib lk bp;obtain ⟨tu,pU,yJ,ahs,hT,TZ⟩:=b9 lk z;rw [ahs,yJ] at bu;have l:=aaJ.trans TZ;have eE:=l.get eE;have kx:=kx.h.mono l;have pK:=bp.mono TZ;obtain ⟨dd,rfl,iE⟩:=pK.cells;have cP:=iE.one;clear l aaJ TZ bp az;replace kx:=U kx;replace pK:=U pK;replace iE:=U iE;simp only [aa,bh,av, *];refine VM cm (ey i (bU x)++[41]) pU _ fun hj aru mn DG=>?_;rw [aL.h] at DG;rw [aL.h];have bu:=Ib hj DG;obtain ⟨Ec,pV,AD,aht,qH,T0⟩:=b9 hj aru;rw [aht,AD] at bu;have l:=mn.trans T0;have eE:=l.get eE;have hT:=l.get hT;have kx:=kx.h.mono l;have pK:=pK.h.mono l;clear l mn T0 DG aL;replace kx:=U kx;replace pK:=U pK;simp only [aa,bh,av, *];refine VM cb ([40]++ey i (bU x)) pV _ fun asg md xr ki=>?_;rw [show [40]++ey i (bU x)=40::ey i (bU x) from rfl,bq.h] at ki;rw [show [40]++ey i (bU x)=40::ey i (bU x) from rfl,bq.h];have bu:=Ib asg ki;obtain ⟨UE,aig,Q9,k9,Rp,kD⟩:=b9 asg md;rw [k9,Q9] at bu;have l:=xr.trans kD;have eE:=l.get eE;have hT:=l.get hT;have kx:=kx.h.mono l;have pK:=pK.h.mono l;have NB:=NF x.kind x.op x.n x.name cG;have arG:=NF x.kind x.op x.n x.name cP;obtain ⟨acc,YV,as2,arW,wU,LZ⟩:=b9 aig [I x.kind,I x.op,I x.n,str x.name,er];have hT:=LZ.get hT;have pK:=pK.mono LZ;have Yq:=Yu wU LZ kx;obtain ⟨Ed,aih,CK,arX,lO,T1⟩:=b9 YV [I x.kind,I x.op,I x.n,str x.name,dd];have wL:=Yu lO T1 pK;have Kv:=Yq.mono T1;clear kx pK l xr kD LZ T1 Yq ki bq;replace Kv:=U Kv;replace wL:=U wL;simp only [aa,aw,bh,av,ay,dt, *];refine acA _ Kv.h wL.h ?_;have t3:lF [x] [x]=true:=(apM x x).2 rfl;have g:=Hid.mk (L.h aih);clear L Kv wL;simp only [aa, *];exact g.h
end Go.Eng.Sy
