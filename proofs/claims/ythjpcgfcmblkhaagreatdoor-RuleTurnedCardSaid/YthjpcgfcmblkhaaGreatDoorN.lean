/-
  Part of a proof of the laws of layer 08 (rule): the laws.
  Conditions: none.
-/
import Derived.Test.YthjpcgfcmblkhaaGreatDoorM
set_option linter.unusedSimpArgs false
set_option linter.unusedVariables false
namespace Go.Eng.Sy
open Go Go.Eng Go.Proofs
theorem strange_first {p:Prg} (hr:rightP p=true) (hn:(namesP p).Nodup) (ht:TasksOk p) (hb:∀ t ∈ p.tasks,okSs p (namesP p) [] t.body) (hx:ixOf p.ress [115,116,114,97,110,103,101] < 0) {k:Nat} {t:Tsk} (hk:p.tasks[k]? = some t) {e i n:Int} (hc:CheckIs (putB p k t (t.body++[strangeS])) e i n):e=84∧i=k∧n=cntSs t.body:=by
 have hI:∀ s ∈ t.body++[strangeS],StI s 30:=fun s hs=>by
  rcases List.mem_append.1 hs with hs | hs
  ·exact rightP_st hr t (List.mem_of_getElem? hk) s hs
  ·rw [List.mem_singleton.1 hs]; exact .lock _ _ _ (by decide) (by simp)
 obtain ⟨r2,t2⟩:=putB_facts hr ht hk hI
 have hn2:namesP (putB p k t (t.body++[strangeS]))=namesP p:=set_names hk _
 obtain ⟨f1,f2⟩:=flat_more t.body
 have hlt:=(List.getElem?_eq_some_iff.1 hk).1
 have st:∀ x,stE (putB p k t (t.body++[strangeS])) x=stmtR p (namesP p) x.2 x.1:=fun x=>by unfold stE; rw [hn2]; exact stmtR_p (p:=p) (p2:=putB p k t (t.body++[strangeS])) rfl rfl _ _ _
 have e84:stE (putB p k t (t.body++[strangeS])) (strangeS,[])=84:=by rw [st]; exact strange_bad hx _ _
 have:=hc.first r2 (by rw [hn2]; exact hn) t2 (k:=k) (t:={ t with body:=t.body++[strangeS] }) (m:=cntSs t.body) (x:=(strangeS,[])) (by show (p.tasks.set k _)[k]? = _; simp [hlt]) (fun j hj t' ht'=>by
  rw [hn2]
  refine (okSs_p (p:=p) (p2:=putB p k t (t.body++[strangeS])) rfl rfl _ _ _).2 (hb t' (List.mem_of_getElem? (i:=j) ?_))
  have h2:(p.tasks.set k { t with body:=t.body++[strangeS] })[j]? = some t':=ht'
  rwa [List.getElem?_set_ne (by omega)] at h2) f1 (fun j hj y hy=>by
  rw [st]
  have hy2:(flatSs [] (t.body++[strangeS]))[j]? = some y:=hy
  rw [f2 j hj] at hy2
  exact hb t (List.mem_of_getElem? hk) y (List.mem_of_getElem? hy2)) (by rw [e84]; decide)
 rw [e84] at this
 exact this
theorem strange_ix:∀ (nr:Fin 3),ixN (resNs.take nr.val) [115,116,114,97,110,103,101] = -1:=by decide +kernel
theorem bStrange:pBuild zS [(0,1),(1,1)] [.int .i64 5,str [115,116,114,97,110,103,101]]=some (stV 5 [115,116,114,97,110,103,101] [] 0 nilS nilS nilS):=rfl
set_option maxHeartbeats 1000000 in
theorem RuleTurned_c {h:Heap} {v:Value} {raw:List Int} (hv:Ints h v raw) (hin:∀ z ∈ raw,inI z) {z1:Int} (j1:inI z1) (Q:Value→Heap→Prop) (hq:∀ h',Q (.bool true) h'):CallW Tryz.prog 5 [v,.int .i64 z1] h Q:=by
 replace hv:=Hid.mk hv
 refine call_of1 (k:=2) ok5 rfl rfl rfl fun N=>?_
 rw [show env0 c5 [v,.int .i64 z1]=[v,.int .i64 z1,undef,undef,undef,undef,undef,undef,undef,undef,undef,undef,undef,undef,undef,undef] from rfl]
 delta c5 c5_r0 c5_r1 c5_r2 c5_r3 c5_r4 c5_r5 c5_r6 c5_r7 c5_r8 c5_r9 c5_r10 c5_r11 c5_r12 c5_r13 c5_r14 c5_r15 c5_r16
 replace hq:=Hid.mk hq
 repeat' (first | simp -implicitDefEqProofs only [walkL,aR,aW,aBin,aInt,Int.reduceBEq,Int.reduceBNe,Nat.reduceBEq,Int.reduceLT,Int.reduceLE, *] | with_reducible (first | refine kcd ?_ ?_ | refine kgd ?_ ?_ | refine kci ?_ ?_ | refine kgi ?_ ?_)<;>intro hc)
 refine awake_c _ _ ?_
 repeat' (first | simp -implicitDefEqProofs only [walkL,aR,aW,aBin,aInt,Int.reduceBEq,Int.reduceBNe,Nat.reduceBEq,Int.reduceLT,Int.reduceLE, *] | with_reducible (first | refine kcd ?_ ?_ | refine kgd ?_ ?_ | refine kci ?_ ?_ | refine kgi ?_ ?_)<;>intro hc)
 refine Prog_c hv.h hin false _ fun h1 d r t xs l1 hm=>?_
 obtain ⟨iD,iR,iT⟩:=hm.isS
 obtain ⟨nd,nr,H,nh,hf⟩:=progL_facts raw
 have hg:=progL_good raw false
 generalize progL raw false=p at *
 have st:=st_PA h1 p.harts iD iR iT
 obtain ⟨n,hn⟩:∃ n,h.next=n:=⟨_,rfl⟩
 rw [hn] at hm
 have hn1:n≤h1.next:=by rw [← hn]; exact l1.next
 have gq:=Heap.get_alloc_same h1 (.blk [.int .i64 p.harts,d,r,t] true)
 have lh2:=(Heap.le.refl h1).alloc (.blk [.int .i64 p.harts,d,r,t] true)
 obtain ⟨q,eq⟩:∃ x_,h1.next=x_:=⟨_,rfl⟩
 obtain ⟨h2,eh2⟩:∃ x_,h1.alloc (.blk [.int .i64 p.harts,d,r,t] true)=x_:=⟨_,rfl⟩
 rw [eh2] at gq lh2
 rw [eq] at gq
 rw [eh2,eq] at st
 have hm2:=hm.le lh2
 have lt:pLenS [t]=some (.int .i64 p.tasks.length):=by
  have:=SlV.len hm2.ht.sl
  rw [hm2.hts.length] at this; exact this
 have xl:xs.length=p.tasks.length:=hm2.hts.length
 have b3:=hg.tl
 have r5:=pick_range j1 (n:=(p.tasks.length:Int)) (by omega)
 obtain ⟨k,hk⟩:∃ k:Nat,pick z1 (p.tasks.length:Int)=(k:Int):=⟨(pick z1 (p.tasks.length:Int)).toNat,by omega⟩
 have hkl:k < p.tasks.length:=by omega
 have hnz:(p.tasks.length:Int)≠0:=by omega
 have st2:=st_PA h2 p.harts iD iR iT
 clear r5 hm
 replace l1:=Hid.mk l1; replace hm2:=Hid.mk hm2; replace hf:=Hid.mk hf; replace hg:=Hid.mk hg; replace lh2:=Hid.mk lh2; replace hk:=Hid.mk hk; replace hnz:=Hid.mk hnz; replace iD:=Hid.mk iD; replace iR:=Hid.mk iR; replace iT:=Hid.mk iT
 repeat' (first | simp -implicitDefEqProofs only [walkL,aR,aW,aBin,aInt,Int.reduceBEq,Int.reduceBNe,Nat.reduceBEq,Int.reduceLT,Int.reduceLE, *] | with_reducible (first | refine kcd ?_ ?_ | refine kgd ?_ ?_ | refine kci ?_ ?_ | refine kgi ?_ ?_)<;>intro hc)
 refine pick8_c _ _ hnz.h _ _ ?_
 rw [hk.h]
 have gq2:=Heap.get_alloc_same h2 (.blk [.int .i64 p.harts,d,r,t] true)
 have lh3:=(Heap.le.refl h2).alloc (.blk [.int .i64 p.harts,d,r,t] true)
 obtain ⟨q2,eq2⟩:∃ x_,h2.next=x_:=⟨_,rfl⟩
 obtain ⟨h3,eh3⟩:∃ x_,h2.alloc (.blk [.int .i64 p.harts,d,r,t] true)=x_:=⟨_,rfl⟩
 rw [eh3] at gq2 lh3
 rw [eq2] at gq2
 rw [eh3,eq2] at st2
 have gqh3:=lh3.get gq
 have hn2:n≤h2.next:=Nat.le_trans hn1 lh2.h.next
 have hm3d:Made n (h3.set q2 .dead) p d r t xs:=hm2.h.le (le_dead_new lh3 (by omega))
 have hn3:n≤h3.next:=Nat.le_trans hn2 lh3.next
 obtain ⟨w1,w2,va,ha,vb,hb,e1,e2,a1,a2,la,lb,nvq,hmt⟩:=hm3d.turn2 hn3 (by rw [gq2]; rfl) (by omega) (k:=k) (by omega)
 have iB:IsS vb:=(hmt hb fun _ _ _ h=>h).isS.2.2
 have gqa:=la.get gqh3
 have gqb:=lb.get gqh3
 have gq2b:=lb.get gq2
 have s5:wStore 1 hb [.pointer (some ⟨q2,3,none⟩),vb]=some (undef,hb.set q2 (.blk [.int .i64 p.harts,d,r,vb] true)):=by
  obtain ⟨_,_,_,rfl⟩:=iB; exact wStore_one gq2b (by simp) rfl rfl
 obtain ⟨h4,eh4⟩:∃ x,hb.set q2 (.blk [.int .i64 p.harts,d,r,vb] true)=x:=⟨_,rfl⟩
 have gq24:h4.get q2=some (.blk [.int .i64 p.harts,d,r,vb] true):=by rw [← eh4]; exact Heap.set_getS _ _ _ (by rw [gq2b]; rfl)
 have hm4:=hmt h4 fun i o hne hg=>by rw [← eh4,Heap.set_getE _ _ _ _ (by simpa using hne)]; exact hg
 have hm4d:=hmt (h4.set q2 .dead) fun i o hne hg=>by rw [Heap.set_getE _ _ _ _ (by simpa using hne),← eh4,Heap.set_getE _ _ _ _ (by simpa using hne)]; exact hg
 rw [eh4] at s5
 have hla:=la.ext
 replace lh3:=Hid.mk lh3; replace la:=Hid.mk la; replace lb:=Hid.mk lb; replace hmt:=Hid.mk hmt; replace iB:=Hid.mk iB; replace hm4:=Hid.mk hm4; replace hm4d:=Hid.mk hm4d; replace hm3d:=Hid.mk hm3d; replace hla:=Hid.mk hla; replace nvq:=Hid.mk nvq
 repeat' (first | simp -implicitDefEqProofs only [walkL,aR,aW,aBin,aInt,Int.reduceBEq,Int.reduceBNe,Nat.reduceBEq,Int.reduceLT,Int.reduceLE,partL4, *] | with_reducible (first | refine kcd ?_ ?_ | refine kgd ?_ ?_ | refine kci ?_ ?_ | refine kgi ?_ ?_)<;>intro hc)
 refine turn0 hla.h ?_
 repeat' (first | simp -implicitDefEqProofs only [walkL,aR,aW,aBin,aInt,Int.reduceBEq,Int.reduceBNe,Nat.reduceBEq,Int.reduceLT,Int.reduceLE,partL4, *] | with_reducible (first | refine kcd ?_ ?_ | refine kgd ?_ ?_ | refine kci ?_ ?_ | refine kgi ?_ ?_)<;>intro hc)
 obtain ⟨p1,hp1⟩:∃ x:Prg,{ p with tasks:=rotT k p.tasks }=x:=⟨_,rfl⟩
 have prm:=rotT_perm k p.tasks
 have r1:rightP p1=true:=by rw [← hp1]; exact rightP_perm hg.h.right prm
 have n1:(namesP p1).Nodup:=by rw [← hp1]; exact namesP_perm hf.h.nodup prm
 have t1:TasksOk p1:=by rw [← hp1]; exact hf.h.tasks.perm prm
 have o1:∀ t ∈ p1.tasks,okSs p1 (namesP p1) [] t.body:=by rw [← hp1]; exact turn_ok prm hf.h.body
 have bd1:∀ t' ∈ p1.tasks,(flatSs [] t'.body).length≤1000:=by rw [← hp1]; exact fun t' ht'=>good_bd hg.h t' (prm.mem_iff.1 ht')
 have tl1:p1.tasks.length=p.tasks.length:=by rw [← hp1]; exact prm.length_eq
 have tk1:p1.tasks[0]? = p.tasks[k]?:=by rw [← hp1]; show (p.tasks.drop k++p.tasks.take k)[0]? = _; rw [List.getElem?_append_left (by rw [List.length_drop]; omega),List.getElem?_drop]; rfl
 have hh1:p1.harts=p.harts:=by rw [← hp1]
 have ixr:ixOf p1.ress [115,116,114,97,110,103,101] < 0:=by
  rw [← hp1]; show ixOf p.ress _ < 0; rw [ixOf_N,hf.h.rn,strange_ix ⟨nr,by have:=hf.h.b2; omega⟩]; decide
 rw [hp1] at hm4 hm4d
 refine Check_c (p:=p1) (by have:=hm4.h.prc; rw [hh1] at this; exact this) (fun t' ht'=>by have:=bd1 t' ht'; omega) _ fun h5 e i n' hci l5=>?_
 obtain ⟨rfl,rfl,rfl⟩:=hci.zero r1 n1 t1 o1
 clear hci
 have st3:wStore 2 (h5.alloc (.blk [.int .i64 0,.int .i64 0] true)) [.pointer (some ⟨h5.next,0,none⟩),.agg #[.int .i64 0,.int .i64 0]]=some (undef,h5.alloc (.blk [.int .i64 0,.int .i64 0] true)):=wStore_new rfl rfl rfl rfl
 have gq5:=Heap.get_alloc_same h5 (.blk [.int .i64 0,.int .i64 0] true)
 have lh6:=(Heap.le.refl h5).alloc (.blk [.int .i64 0,.int .i64 0] true)
 obtain ⟨q5,eq5⟩:∃ x_,h5.next=x_:=⟨_,rfl⟩
 obtain ⟨h6,eh6⟩:∃ x_,h5.alloc (.blk [.int .i64 0,.int .i64 0] true)=x_:=⟨_,rfl⟩
 rw [eh6] at gq5 lh6
 rw [eq5] at gq5
 rw [eh6,eq5] at st3
 have hm6:=hm4.h.le (l5.trans lh6)
 have gq26:=lh6.get (l5.get gq24)
 have hm6d:=hm4d.h.le (le_dead (l5.trans lh6) (q:=q2) (by rw [gq24]; rfl))
 obtain ⟨tk,hkt⟩:∃ tk,p.tasks[k]? = some tk:=⟨_,List.getElem?_eq_getElem hkl⟩
 rw [hkt] at tk1
 obtain ⟨id,vo,hid,hidn,gid,e3,e4,hvb⟩:=hm6d.at tk1
 obtain ⟨idq2,gid⟩:=dead_blk gid
 have e3' : pIdxAddrS 6 [vb,.int .i64 0]=some (.pointer (some ⟨id,0,none⟩)):=by simpa using e3
 have e4' : partL true 0 6 (xs.drop k++xs.take k).flatten=some (tsV tk.name tk.handler tk.hart tk.prio tk.line vo):=by simpa using e4
 have sz6:=st_T h6 tk.name tk.handler tk.hart tk.prio tk.line hvb.isS
 clear e3 e4
 replace hm6:=Hid.mk hm6; replace hm6d:=Hid.mk hm6d; replace idq2:=Hid.mk idq2; replace l5:=Hid.mk l5; replace lh6:=Hid.mk lh6; replace hid:=Hid.mk hid; replace hkt:=Hid.mk hkt; replace tk1:=Hid.mk tk1; replace r1:=Hid.mk r1; replace n1:=Hid.mk n1; replace t1:=Hid.mk t1; replace o1:=Hid.mk o1; replace bd1:=Hid.mk bd1; replace tl1:=Hid.mk tl1; replace hh1:=Hid.mk hh1; replace ixr:=Hid.mk ixr; replace prm:=Hid.mk prm
 have gq3:=Heap.get_alloc_same h6 (.blk [str tk.name,.bool tk.handler,.int .i64 tk.hart,.int .i64 tk.prio,.int .i64 tk.line,vo] true)
 have lh7:=(Heap.le.refl h6).alloc (.blk [str tk.name,.bool tk.handler,.int .i64 tk.hart,.int .i64 tk.prio,.int .i64 tk.line,vo] true)
 obtain ⟨q3,eq3⟩:∃ x_,h6.next=x_:=⟨_,rfl⟩
 obtain ⟨h7,eh7⟩:∃ x_,h6.alloc (.blk [str tk.name,.bool tk.handler,.int .i64 tk.hart,.int .i64 tk.prio,.int .i64 tk.line,vo] true)=x_:=⟨_,rfl⟩
 rw [eh7] at gq3 lh7
 rw [eq3] at gq3
 rw [eh7,eq3] at sz6
 have gq3x:=gq3
 have q2l:q2 < h6.next:=Heap.lt_of_get gq26
 have hv7:StsVB (fun i=>(PB n [vb] i∧i≠q2)∧i≠q3) h7 vo tk.body:=hvb.to fun i cs own hb hg=>⟨⟨⟨hb,(dead_blk hg).1⟩,by have:=Heap.lt_of_get (dead_blk hg).2; omega⟩,lh7.get (dead_blk hg).2⟩
 have hbd:cntSs tk.body≤1000:=by rw [← cntSs_flat []]; exact good_bd hg.h tk (List.mem_of_getElem? hkt.h)
 have hbl:=cnt_len tk.body
 have e4n:h4.next=hb.next:=by rw [← eh4]; rfl
 have m1:=lh3.h.next
 have m2:=lb.h.next
 have m3:=l5.h.next
 have m4:=lh6.h.next
 have n6:n≤h6.next:=by omega
 have hB7:∀ i,h7.next≤i→(PB n [vb] i∧i≠q2)∧i≠q3:=fun i hi=>⟨⟨⟨by have:=lh7.next; omega,fun w hw=>by rw [List.mem_singleton.1 hw]; exact hm6.h.ht.notOf_new (by have:=lh7.next; omega)⟩,by have:=lh7.next; omega⟩,by have:=Heap.lt_of_get gq3x; omega⟩
 obtain ⟨va7,h8,ap1,l8,hmore⟩:=more_row hv7 (by omega) fun i hi=>hB7 i hi
 have hsS:StCB (fun i=>(PB n [vb] i∧i≠q2)∧i≠q3) h7 strangeS [.int .i64 5,str [115,116,114,97,110,103,101],str [],.int .i64 0,nilS,nilS,nilS]:=StCB.of ExsVB.nil StsVB.nil StsVB.nil
 obtain ⟨vc,h9,ap2,l9,hvc⟩:=hmore hsS
 have bs:=bs_st1 hsS.ones
 have i9:IsS vc:=hvc.isS
 have g38:=l8.get gq3x
 have g39:=l9.get gq3x
 have gq29:=l9.get (lh7.get gq26)
 have s9:wStore 1 h9 [.pointer (some ⟨q3,5,none⟩),vc]=some (undef,h9.set q3 (.blk [str tk.name,.bool tk.handler,.int .i64 tk.hart,.int .i64 tk.prio,.int .i64 tk.line,vc] true)):=by
  obtain ⟨_,_,_,rfl⟩:=i9; exact wStore_one g39 (by simp) rfl rfl
 obtain ⟨hC,ehC⟩:∃ x,h9.set q3 (.blk [str tk.name,.bool tk.handler,.int .i64 tk.hart,.int .i64 tk.prio,.int .i64 tk.line,vc] true)=x:=⟨_,rfl⟩
 rw [ehC] at s9
 have l6C:h6.le hC:=by rw [← ehC]; exact (lh7.trans l9).set (by omega) _
 have g3C:hC.get q3=some (.blk [str tk.name,.bool tk.handler,.int .i64 tk.hart,.int .i64 tk.prio,.int .i64 tk.line,vc] true):=by rw [← ehC]; exact Heap.set_getS _ _ _ (by rw [g39]; rfl)
 have gq2C:=l6C.get gq26
 have hvC:StsVB (fun i=>PB n [vb] i∧i≠q2) hC vc (tk.body++[strangeS]):=hvc.to (by rw [← ehC]; exact Heap.toB_set _ fun i hb=>⟨hb.2,hb.1⟩)
 have cC:cntSs (tk.body++[strangeS])=cntSs tk.body + 1:=by rw [cntSs_app]; rfl
 have bb:=bStrange
 clear hmore
 have i7:=hC.next
 have nC:h7.next≤hC.next:=by
  have h1:=l9.next; have e:hC.next=h9.next:=by rw [← ehC]; rfl
  omega
 replace hv7:=Hid.mk hv7; replace hB7:=Hid.mk hB7; replace hsS:=Hid.mk hsS; replace hvc:=Hid.mk hvc; replace i9:=Hid.mk i9; replace l8:=Hid.mk l8; replace l9:=Hid.mk l9; replace lh7:=Hid.mk lh7; replace l6C:=Hid.mk l6C; replace hvC:=Hid.mk hvC; replace cC:=Hid.mk cC; replace hvb:=Hid.mk hvb
 repeat' (first | simp -implicitDefEqProofs only [walkL,aR,aW,aBin,aInt,Int.reduceBEq,Int.reduceBNe,Nat.reduceBEq,Int.reduceLT,Int.reduceLE,partL4,partL6, *] | with_reducible (first | refine kcd ?_ ?_ | refine kgd ?_ ?_ | refine kci ?_ ?_ | refine kgi ?_ ?_)<;>intro hc)
 refine less_c (cntSs (tk.body++[strangeS]) + 1) (tk.body++[strangeS]) (fun i=>PB n [vb] i∧i≠q2) vc hC (-1) _ (by omega) (by have:=cC.h; omega) (by have:=cC.h; omega) (by omega) hvC.h (fun i hi=>(hB7.h i (by omega)).1) fun hD wD lD hwD=>?_
 have g3D:=lD.get g3C
 have gq2D:=lD.get gq2C
 obtain ⟨stc,hmd⟩:=(hm6.h.le (l6C.h.trans lD)).put2 hid.h tk1.h { tk with body:=tk.body++[strangeS] } (hvC.h.to fun i cs own hb hg=>⟨hb.1,lD.get hg⟩)
 obtain ⟨-,hmdd⟩:=(hm6d.h.le (le_dead (l6C.h.trans lD) (q:=q2) (by rw [gq26]; rfl))).put2 hid.h tk1.h { tk with body:=tk.body++[strangeS] } (hvC.h.to fun i cs own hb hg=>⟨hb.1,by rw [Heap.set_getE _ _ _ _ (by simpa using hb.2)]; exact lD.get hg⟩)
 obtain ⟨cc,hcc⟩:∃ x,AObj.blk ((xs.drop k++xs.take k).set 0 (tsL { tk with body:=tk.body++[strangeS] } vc)).flatten true=x:=⟨_,rfl⟩
 rw [hcc] at stc hmd hmdd
 have hmdd:=hmdd.same (set_dead idq2.h cc)
 have stc' : wStore 6 hD [.pointer (some ⟨id,0,none⟩),tsV tk.name tk.handler tk.hart tk.prio tk.line vc]=some (undef,hD.set id cc):=by simpa using stc
 obtain ⟨hE,ehE⟩:∃ x_,hD.set id cc=x_:=⟨_,rfl⟩
 have gq2E:hE.get q2=some (.blk [.int .i64 p.harts,d,r,vb] true):=by rw [← ehE,Heap.set_getE _ _ _ _ (by simpa using idq2.h.symm)]; exact gq2D
 rw [ehE] at stc' hmd hmdd
 rw [cC.h]
 clear stc
 have hmd2:Made n hE (putB p1 0 tk (tk.body++[strangeS])) d r vb _:=hmd
 have hp2:PrC hE (putB p1 0 tk (tk.body++[strangeS])) [.int .i64 p.harts,d,r,vb]:=by have:=hmd2.prc; rw [show (putB p1 0 tk (tk.body++[strangeS])).harts=p.harts from hh1.h] at this; exact this
 have bd2:∀ t' ∈ (putB p1 0 tk (tk.body++[strangeS])).tasks,(flatSs [] t'.body).length < 4611686018427387904:=fun t' ht'=>by
  have ht' : t' ∈ p1.tasks.set 0 { tk with body:=tk.body++[strangeS] }:=ht'
  rcases List.mem_or_eq_of_mem_set ht' with h | rfl
  ·have:=bd1.h t' h; omega
  ·have:=cC.h
   rw [cntSs_flat]; show cntSs (tk.body++[strangeS]) < _; omega
 clear hmd
 replace lD:=Hid.mk lD; replace hwD:=Hid.mk hwD; replace hmd2:=Hid.mk hmd2; replace hmdd:=Hid.mk hmdd; replace hp2:=Hid.mk hp2; replace bd2:=Hid.mk bd2
 repeat' (first | simp -implicitDefEqProofs only [walkL,aR,aW,aBin,aInt,Int.reduceBEq,Int.reduceBNe,Nat.reduceBEq,Int.reduceLT,Int.reduceLE,partL4,partL6, *] | with_reducible (first | refine kcd ?_ ?_ | refine kgd ?_ ?_ | refine kci ?_ ?_ | refine kgi ?_ ?_)<;>intro hc)
 refine Check_c hp2.h bd2.h _ fun hF e i n' hci lF=>?_
 obtain ⟨rfl,rfl,rfl⟩:=strange_first r1.h n1.h t1.h o1.h ixr.h tk1.h hci
 clear hci
 repeat' (first | simp -implicitDefEqProofs only [walkL,aR,aW,aBin,aInt,Int.reduceBEq,Int.reduceBNe,Nat.reduceBEq,Int.reduceLT,Int.reduceLE,partL4,partL6, *] | with_reducible (first | refine kcd ?_ ?_ | refine kgd ?_ ?_ | refine kci ?_ ?_ | refine kgi ?_ ?_)<;>intro hc)
 rw [show ((0:Nat):Int)=0 from rfl]
 obtain ⟨cn,hcn⟩:∃ c,cntSs tk.body=c:=⟨_,rfl⟩
 rw [hcn] at hbd ⊢
 have st4:wStore 2 (hF.alloc (.blk [.int .i64 0,.int .i64 0] true)) [.pointer (some ⟨hF.next,0,none⟩),.agg #[.int .i64 0,.int .i64 cn]]=some (undef,hF.alloc (.blk [.int .i64 0,.int .i64 cn] true)):=wStore_new rfl rfl rfl rfl
 have gq6:=Heap.get_alloc_same hF (.blk [.int .i64 0,.int .i64 cn] true)
 have lhG:=(Heap.le.refl hF).alloc (.blk [.int .i64 0,.int .i64 cn] true)
 obtain ⟨q6,eq6⟩:∃ x_,hF.next=x_:=⟨_,rfl⟩
 obtain ⟨hG,ehG⟩:∃ x_,hF.alloc (.blk [.int .i64 0,.int .i64 cn] true)=x_:=⟨_,rfl⟩
 rw [ehG] at gq6 lhG
 rw [eq6] at gq6
 rw [ehG,eq6] at st4
 have gq2G:=lhG.get (lF.get gq2E)
 have hmG:=hmdd.h.le (le_dead (lF.trans lhG) (q:=q2) (by rw [gq2E]; rfl))
 have rl:((xs.drop k++xs.take k).set 0 (tsL { tk with body:=tk.body++[strangeS] } vc)).length=p.tasks.length:=by rw [List.length_set,List.length_append,List.length_drop,List.length_take]; omega
 have m5:=lh7.h.next
 have m6:=l6C.h.next
 have nG:n≤hG.next:=by
  have h1:=lD.h.next; have h2:=lF.next; have h3:=lhG.next; have h4:hE.next=hD.next:=by rw [← ehE]; rfl
  omega
 obtain ⟨w3,w4,vX,hH,vd,hI,e5,e6,a3,a4,lH,lI,nvq3,hmt2⟩:=hmG.turn2 nG (by rw [gq2G]; rfl) (by rw [rl]; omega) (k:=p.tasks.length - k) (by rw [rl]; omega)
 have wk:IntKind.i64.wrap ((p.tasks.length:Int) - (k:Int))=((p.tasks.length - k:Nat):Int):=by rw [wrapI (by omega) (by omega)]; omega
 have gq2H:=lH.get gq2G
 have gq2I:=lI.get gq2G
 have iV:IsS vd:=(hmt2 hI fun _ _ _ h=>h).isS.2.2
 have s6:wStore 1 hI [.pointer (some ⟨q2,3,none⟩),vd]=some (undef,hI.set q2 (.blk [.int .i64 p.harts,d,r,vd] true)):=by
  obtain ⟨_,_,_,rfl⟩:=iV; exact wStore_one gq2I (by simp) rfl rfl
 obtain ⟨hJ,ehJ⟩:∃ x,hI.set q2 (.blk [.int .i64 p.harts,d,r,vd] true)=x:=⟨_,rfl⟩
 have gq2J:hJ.get q2=some (.blk [.int .i64 p.harts,d,r,vd] true):=by rw [← ehJ]; exact Heap.set_getS _ _ _ (by rw [gq2I]; rfl)
 have hmJ:=hmt2 hJ fun i o hne hg=>by rw [← ehJ,Heap.set_getE _ _ _ _ (by simpa using hne)]; exact hg
 rw [ehJ] at s6
 have gq6J:hJ.get q6=some (.blk [.int .i64 0,.int .i64 cn] true):=by
  have:q2≠q6:=by have:=Heap.lt_of_get gq2E; have:=lF.next; omega
  rw [← ehJ,Heap.set_getE _ _ _ _ (by simpa using this.symm)]; exact lI.get gq6
 have ep:({ p1 with tasks:=rotT (p.tasks.length - k) (p1.tasks.set 0 { tk with body:=tk.body++[strangeS] }) }:Prg)=putB p k tk (tk.body++[strangeS]):=by
  rw [← hp1]; simp only [putB]; rw [rot_back hkl]
 obtain ⟨xJ,hmJ'⟩:∃ xs,Made n hJ (putB p k tk (tk.body++[strangeS])) d r vd xs:=⟨_,by rw [← ep]; exact hmJ⟩
 have ixp:ixOf p.ress [115,116,114,97,110,103,101] < 0:=by have:=ixr.h; rw [← hp1] at this; exact this
 have gq6I:=lI.get gq6
 have lHe:=lH.ext
 clear hmt2 e3' e4'
 replace lF:=Hid.mk lF; replace lhG:=Hid.mk lhG; replace hcn:=Hid.mk hcn; replace hmG:=Hid.mk hmG; replace rl:=Hid.mk rl; replace nG:=Hid.mk nG; replace lH:=Hid.mk lH; replace lI:=Hid.mk lI; replace nvq3:=Hid.mk nvq3; replace hmJ:=Hid.mk hmJ; replace hmJ':=Hid.mk hmJ'; replace ixp:=Hid.mk ixp; replace ep:=Hid.mk ep; replace iV:=Hid.mk iV; replace lHe:=Hid.mk lHe
 repeat' (first | simp -implicitDefEqProofs only [walkL,aR,aW,aBin,aInt,Int.reduceBEq,Int.reduceBNe,Nat.reduceBEq,Int.reduceLT,Int.reduceLE,partL4,partL6, *] | with_reducible (first | refine kcd ?_ ?_ | refine kgd ?_ ?_ | refine kci ?_ ?_ | refine kgi ?_ ?_)<;>intro hc)
 have hp3:PrC hJ (putB p k tk (tk.body++[strangeS])) [.int .i64 p.harts,d,r,vd]:=hmJ'.h.prc
 have bd3:∀ t' ∈ (putB p k tk (tk.body++[strangeS])).tasks,(flatSs [] t'.body).length < 4611686018427387904:=fun t' ht'=>by
  have ht' : t' ∈ p.tasks.set k { tk with body:=tk.body++[strangeS] }:=ht'
  rcases List.mem_or_eq_of_mem_set ht' with h | rfl
  ·have:=good_bd hg.h t' h; omega
  ·have:=cC.h
   have:=hcn.h
   rw [cntSs_flat]; show cntSs (tk.body++[strangeS]) < _; omega
 refine Check_c hp3 bd3 _ fun hK e i n' hci lK=>?_
 obtain ⟨rfl,rfl,rfl⟩:=strange_first hg.h.right hf.h.nodup hf.h.tasks hf.h.body ixp.h hkt.h hci
 clear hci bd3 hp3
 rw [hcn.h]
 have st7:wStore 2 (hK.alloc (.blk [.int .i64 0,.int .i64 0] true)) [.pointer (some ⟨hK.next,0,none⟩),.agg #[.int .i64 k,.int .i64 cn]]=some (undef,hK.alloc (.blk [.int .i64 k,.int .i64 cn] true)):=wStore_new rfl rfl rfl rfl
 have gq6K:=lK.get gq6J
 have gq7:=Heap.get_alloc_same hK (.blk [.int .i64 k,.int .i64 cn] true)
 have lhL:=(Heap.le.refl hK).alloc (.blk [.int .i64 k,.int .i64 cn] true)
 obtain ⟨q7,eq7⟩:∃ x_,hK.next=x_:=⟨_,rfl⟩
 obtain ⟨hL,ehL⟩:∃ x_,hK.alloc (.blk [.int .i64 k,.int .i64 cn] true)=x_:=⟨_,rfl⟩
 rw [ehL] at gq7 lhL
 rw [eq7] at gq7
 rw [ehL,eq7] at st7
 have gq6L:=lhL.get gq6K
 have wcn:IntKind.i64.wrap (((cn + 1:Nat):Int) - 1)=(cn:Int):=by rw [wrapI (by omega) (by omega)]; omega
 have pbb:∀ a b:Int,pBuild [.int .i64 0,.int .i64 0] [(0,1),(1,1)] [.int .i64 a,.int .i64 b]=some (.agg #[.int .i64 a,.int .i64 b]):=fun _ _=>rfl
 have q0:=eq22 (a:=0) (b:=cn) (by unfold inI; omega) (by unfold inI; omega)
 have q1:=eq22 (a:=k) (b:=cn) (by unfold inI; omega) (by unfold inI; omega)
 replace lK:=Hid.mk lK; replace lhL:=Hid.mk lhL
 repeat' (first | simp -implicitDefEqProofs only [walkL,aR,aW,aBin,aInt,Int.reduceBEq,Int.reduceBNe,Nat.reduceBEq,Int.reduceLT,Int.reduceLE,part22b, *] | with_reducible (first | refine kcd ?_ ?_ | refine kgd ?_ ?_ | refine kci ?_ ?_ | refine kgi ?_ ?_)<;>intro hc)
 exact hq.h _
end Go.Eng.Sy
