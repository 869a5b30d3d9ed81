/-
  Part of a proof of the laws of layer 08 (rule): the laws.
  Conditions: none.
-/
import Derived.Test.YthjpcgfcmblkhaaGreatDoorM
set_option linter.unusedSimpArgs false
set_option linter.unusedVariables false
namespace Go.Eng.Sy
open Go Go.Eng Go.Proofs
set_option maxHeartbeats 2000000 in
theorem RuleWrong_c {h:Heap} {v:Value} {raw:List Int} (hv:Ints h v raw) (hin:∀ z ∈ raw,inI z) {z1 z2:Int} (j1:inI z1) (j2:inI z2) (Q:Value→Heap→Prop) (hq:∀ h',Q (.bool true) h'):CallW Tryz.prog 6 [v,.int .i64 z1,.int .i64 z2] h Q:=by
 replace hv:=Hid.mk hv
 refine call_of1 (k:=3) ok6 rfl rfl rfl fun N=>?_
 rw [show env0 c6 [v,.int .i64 z1,.int .i64 z2]=[v,.int .i64 z1,.int .i64 z2,undef,undef,undef,undef,undef,undef,undef,undef,undef,undef,undef,undef,undef,undef,undef,undef] from rfl]
 delta c6 c6_r0 c6_r1 c6_r2 c6_r3 c6_r4 c6_r5 c6_r6 c6_r7 c6_r8 c6_r9 c6_r10 c6_r11 c6_r12 c6_r13 c6_r14 c6_r15 c6_r16 c6_r17 c6_r18 c6_r19 c6_r20 c6_r21 c6_r22 c6_r23
 replace hq:=Hid.mk hq
 repeat' (first | simp -implicitDefEqProofs only [walkL,aR,aW,aBin,aInt,Int.reduceBEq,Int.reduceBNe,Nat.reduceBEq,Int.reduceLT,Int.reduceLE, *] | with_reducible (first | refine kcd ?_ ?_ | refine kgd ?_ ?_ | refine kci ?_ ?_ | refine kgi ?_ ?_)<;>intro hc)
 refine awake_c _ _ ?_
 repeat' (first | simp -implicitDefEqProofs only [walkL,aR,aW,aBin,aInt,Int.reduceBEq,Int.reduceBNe,Nat.reduceBEq,Int.reduceLT,Int.reduceLE, *] | with_reducible (first | refine kcd ?_ ?_ | refine kgd ?_ ?_ | refine kci ?_ ?_ | refine kgi ?_ ?_)<;>intro hc)
 refine Prog_c hv.h hin false _ fun h1 d r t xs l1 hm=>?_
 obtain ⟨iD,iR,iT⟩:=hm.isS
 obtain ⟨nd,nr,H,nh,hf⟩:=progL_facts raw
 have hg:=progL_good raw false
 generalize progL raw false=p at *
 have st:=st_PA h1 p.harts iD iR iT
 obtain ⟨n,hn⟩:∃ n,h.next=n:=⟨_,rfl⟩
 rw [hn] at hm
 have hn1:n≤h1.next:=by rw [← hn]; exact l1.next
 have gq:=Heap.get_alloc_same h1 (.blk [.int .i64 p.harts,d,r,t] true)
 have lh2:=(Heap.le.refl h1).alloc (.blk [.int .i64 p.harts,d,r,t] true)
 obtain ⟨q,eq⟩:∃ x_,h1.next=x_:=⟨_,rfl⟩
 obtain ⟨h2,eh2⟩:∃ x_,h1.alloc (.blk [.int .i64 p.harts,d,r,t] true)=x_:=⟨_,rfl⟩
 rw [eh2] at gq lh2
 rw [eq] at gq
 rw [eh2,eq] at st
 have hm2:=hm.le lh2
 have lt:pLenS [t]=some (.int .i64 p.tasks.length):=by
  have:=SlV.len hm2.ht.sl
  rw [hm2.hts.length] at this; exact this
 have lr:pLenS [r]=some (.int .i64 p.ress.length):=by
  have:=SlV.len hm2.hr.plain
  rw [List.length_map] at this; exact this
 have rnr:p.ress.length=nr:=by
  have:=congrArg List.length hf.rn
  rw [List.length_map,List.length_take] at this
  have h2:resNs.length=2:=rfl
  have:=hf.b2
  omega
 have xl:xs.length=p.tasks.length:=hm2.hts.length
 have b3:=hg.tl
 have r5:=pick_range j1 (n:=(p.tasks.length:Int)) (by omega)
 obtain ⟨k,hk⟩:∃ k:Nat,pick z1 (p.tasks.length:Int)=(k:Int):=⟨(pick z1 (p.tasks.length:Int)).toNat,by omega⟩
 have hkl:k < p.tasks.length:=by omega
 have hnz:(p.tasks.length:Int)≠0:=by omega
 have r6:=pick_range j2 (n:=(9:Int)) (by omega)
 obtain ⟨i,hi⟩:∃ k:Nat,pick z2 9=(k:Int):=⟨(pick z2 9).toNat,by omega⟩
 have hi9:i < 9:=by omega
 obtain ⟨s0,w0,hs0,hw0,ew0,nw0⟩:=badW_want hf i hi9
 clear r5 r6 hm
 have hn2:n≤h2.next:=Nat.le_trans hn1 lh2.next
 obtain ⟨m,hm0⟩:∃ m,h2.next=m:=⟨_,rfl⟩
 replace l1:=Hid.mk l1; replace hm2:=Hid.mk hm2; replace hf:=Hid.mk hf; replace hg:=Hid.mk hg; replace lh2:=Hid.mk lh2; replace hk:=Hid.mk hk; replace hnz:=Hid.mk hnz; replace iD:=Hid.mk iD; replace iR:=Hid.mk iR; replace iT:=Hid.mk iT; replace hi:=Hid.mk hi; replace hs0:=Hid.mk hs0; replace hw0:=Hid.mk hw0; replace ew0:=Hid.mk ew0; replace nw0:=Hid.mk nw0; replace hn2:=Hid.mk hn2
 repeat' (first | simp -implicitDefEqProofs only [walkL,aR,aW,aBin,aInt,Int.reduceBEq,Int.reduceBNe,Nat.reduceBEq,Int.reduceLT,Int.reduceLE, *] | with_reducible (first | refine kcd ?_ ?_ | refine kgd ?_ ?_ | refine kci ?_ ?_ | refine kgi ?_ ?_)<;>intro hc)
 refine pick8_c _ _ hnz.h _ _ ?_
 rw [hk.h]
 have hnS:IsS nilS:=⟨_,_,_,rfl⟩
 have b1:=build_num 1
 have sx:=store_exv h2 1 0 1 [] hnS
 have gq2:=Heap.get_alloc_same h2 (.blk numX true)
 have lh3:=(Heap.le.refl h2).alloc (.blk numX true)
 obtain ⟨q2,eq2⟩:∃ x_,h2.next=x_:=⟨_,rfl⟩
 obtain ⟨h3,eh3⟩:∃ x_,h2.alloc (.blk numX true)=x_:=⟨_,rfl⟩
 rw [eh3] at gq2 lh3
 rw [eq2] at gq2
 rw [eh3,eq2] at sx
 have u1:=bs_ex1 (numX_B (fun _=>True) h3).ones
 have v3:=ExsVB.new1 (numX_B (m ≤ ·) h3) (by have:=lh3.next; show m≤h3.next; omega)
 have gq3:=Heap.get_alloc_same h3 (.blk numX true)
 have lh4:=(Heap.le.refl h3).alloc (.blk numX true)
 obtain ⟨q3,eq3⟩:∃ x_,h3.next=x_:=⟨_,rfl⟩
 obtain ⟨h4,eh4⟩:∃ x_,h3.alloc (.blk numX true)=x_:=⟨_,rfl⟩
 rw [eh4] at gq3 lh4
 rw [eq3] at gq3
 rw [eh4,eq3] at v3
 have i3:IsS (.slice (some ⟨q3,0,none⟩) 1 5):=⟨_,_,_,rfl⟩
 have bf:=build_at [114,97] (i:=q3) (n:=1)
 have sf:=store_exv h4 5 0 0 [114,97] i3
 have gq4:=Heap.get_alloc_same h4 (.blk [.int .i64 5,.int .i64 0,.int .i64 0,str [114,97],.slice (some ⟨q3,0,none⟩) 1 5] true)
 have lh5:=(Heap.le.refl h4).alloc (.blk [.int .i64 5,.int .i64 0,.int .i64 0,str [114,97],.slice (some ⟨q3,0,none⟩) 1 5] true)
 obtain ⟨q4,eq4⟩:∃ x_,h4.next=x_:=⟨_,rfl⟩
 obtain ⟨h5,eh5⟩:∃ x_,h4.alloc (.blk [.int .i64 5,.int .i64 0,.int .i64 0,str [114,97],.slice (some ⟨q3,0,none⟩) 1 5] true)=x_:=⟨_,rfl⟩
 rw [eh5] at gq4 lh5
 rw [eq4] at gq4
 rw [eh5,eq4] at sf
 have gq22:=lh5.get (lh4.get gq2)
 have gq2h4:=lh4.get gq2
 have v3':=ExsVB.le lh5 v3
 have fB:ExCB (m ≤ ·) h5 (.mk 5 0 0 [114,97] [numE]) [.int .i64 5,.int .i64 0,.int .i64 0,str [114,97],.slice (some ⟨q3,0,none⟩) 1 5]:=ExCB.of v3'
 have m5:m≤h5.next:=by have:=lh3.next; have:=lh4.next; have:=lh5.next; omega
 have v5:=ExsVB.new1 (numX_B (m ≤ ·) h5) m5
 have gq5:=Heap.get_alloc_same h5 (.blk numX true)
 have lh6:=(Heap.le.refl h5).alloc (.blk numX true)
 obtain ⟨q5,eq5⟩:∃ x_,h5.next=x_:=⟨_,rfl⟩
 obtain ⟨h6,eh6⟩:∃ x_,h5.alloc (.blk numX true)=x_:=⟨_,rfl⟩
 rw [eh6] at gq5 lh6
 rw [eq5] at gq5
 rw [eh6,eq5] at v5
 have v6:=ExsVB.new1 (numX_B (m ≤ ·) h6) (by have:=lh6.next; omega)
 have gq6:=Heap.get_alloc_same h6 (.blk numX true)
 have lh7:=(Heap.le.refl h6).alloc (.blk numX true)
 obtain ⟨q6,eq6⟩:∃ x_,h6.next=x_:=⟨_,rfl⟩
 obtain ⟨h7,eh7⟩:∃ x_,h6.alloc (.blk numX true)=x_:=⟨_,rfl⟩
 rw [eh7] at gq6 lh7
 rw [eq6] at gq6
 rw [eh7,eq6] at v6
 have u2:=bsW2 (numX_B (fun _=>True) h3).ones (numX_B (fun _=>True) h3).ones
 have m7:m≤h7.next:=by have:=lh6.next; have:=lh7.next; omega
 have v7:=ExsVB.new2 (numX_B (m ≤ ·) h7) (numX_B (m ≤ ·) h7) m7
 have gq7:=Heap.get_alloc_same h7 (.blk (numX++numX) true)
 have lh8:=(Heap.le.refl h7).alloc (.blk (numX++numX) true)
 obtain ⟨q7,eq7⟩:∃ x_,h7.next=x_:=⟨_,rfl⟩
 obtain ⟨h8,eh8⟩:∃ x_,h7.alloc (.blk (numX++numX) true)=x_:=⟨_,rfl⟩
 rw [eh8] at gq7 lh8
 rw [eq7] at gq7
 rw [eh8,eq7] at v7
 have bd:=build_var [100]
 have u3:=bs_ex1 (varX_B (fun _=>True) h3 [100]).ones
 have m8:m≤h8.next:=by have:=lh8.next; omega
 have v8:=ExsVB.new1 (varX_B (m ≤ ·) h8 [100]) m8
 have gq8:=Heap.get_alloc_same h8 (.blk (varX [100]) true)
 have lh9:=(Heap.le.refl h8).alloc (.blk (varX [100]) true)
 obtain ⟨q8,eq8⟩:∃ x_,h8.next=x_:=⟨_,rfl⟩
 obtain ⟨h9,eh9⟩:∃ x_,h8.alloc (.blk (varX [100]) true)=x_:=⟨_,rfl⟩
 rw [eh9] at gq8 lh9
 rw [eq8] at gq8
 rw [eh9,eq8] at v8
 have m9:m≤h9.next:=by have:=lh9.next; omega
 have u4:=bs_ex1 fB.ones
 have fB9:=fB.to ((((lh6.trans lh7).trans lh8).trans lh9).toB fun _ h=>h)
 have v9:=ExsVB.new1 fB9 m9
 have gq9:=Heap.get_alloc_same h9 (.blk [.int .i64 5,.int .i64 0,.int .i64 0,str [114,97],.slice (some ⟨q3,0,none⟩) 1 5] true)
 have lh10:=(Heap.le.refl h9).alloc (.blk [.int .i64 5,.int .i64 0,.int .i64 0,str [114,97],.slice (some ⟨q3,0,none⟩) 1 5] true)
 obtain ⟨q9,eq9⟩:∃ x_,h9.next=x_:=⟨_,rfl⟩
 obtain ⟨h10,eh10⟩:∃ x_,h9.alloc (.blk [.int .i64 5,.int .i64 0,.int .i64 0,str [114,97],.slice (some ⟨q3,0,none⟩) 1 5] true)=x_:=⟨_,rfl⟩
 rw [eh10] at gq9 lh10
 rw [eq9] at gq9
 rw [eh10,eq9] at v9
 have bt:=build_var [116,97]
 have u5:=bs_ex1 (varX_B (fun _=>True) h3 [116,97]).ones
 have m10:m≤h10.next:=by have:=lh10.next; omega
 have v10:=ExsVB.new1 (varX_B (m ≤ ·) h10 [116,97]) m10
 have gq10:=Heap.get_alloc_same h10 (.blk (varX [116,97]) true)
 have lh11:=(Heap.le.refl h10).alloc (.blk (varX [116,97]) true)
 obtain ⟨q10,eq10⟩:∃ x_,h10.next=x_:=⟨_,rfl⟩
 obtain ⟨h11,eh11⟩:∃ x_,h10.alloc (.blk (varX [116,97]) true)=x_:=⟨_,rfl⟩
 rw [eh11] at gq10 lh11
 rw [eq10] at gq10
 rw [eh11,eq10] at v10
 have bo:=build_op 3 16 (i:=q10) (n:=1)
 have m11:m≤h11.next:=by have:=lh11.next; omega
 have nB:ExCB (m ≤ ·) h11 (.mk 3 16 0 [] [varE [116,97]]) [.int .i64 3,.int .i64 16,.int .i64 0,str [],.slice (some ⟨q10,0,none⟩) 1 5]:=ExCB.of v10
 have u6:=bs_ex1 nB.ones
 have v11:=ExsVB.new1 nB m11
 have gq11:=Heap.get_alloc_same h11 (.blk [.int .i64 3,.int .i64 16,.int .i64 0,str [],.slice (some ⟨q10,0,none⟩) 1 5] true)
 have lh12:=(Heap.le.refl h11).alloc (.blk [.int .i64 3,.int .i64 16,.int .i64 0,str [],.slice (some ⟨q10,0,none⟩) 1 5] true)
 obtain ⟨q11,eq11⟩:∃ x_,h11.next=x_:=⟨_,rfl⟩
 obtain ⟨h12,eh12⟩:∃ x_,h11.alloc (.blk [.int .i64 3,.int .i64 16,.int .i64 0,str [],.slice (some ⟨q10,0,none⟩) 1 5] true)=x_:=⟨_,rfl⟩
 rw [eh12] at gq11 lh12
 rw [eq11] at gq11
 rw [eh12,eq11] at v11
 have w5:=ExsVB.le ((((((lh7.trans lh8).trans lh9).trans lh10).trans lh11).trans lh12)) v5
 have w6:=ExsVB.le (((((lh8.trans lh9).trans lh10).trans lh11).trans lh12)) v6
 have w7:=ExsVB.le ((((lh9.trans lh10).trans lh11).trans lh12)) v7
 have w8:=ExsVB.le (((lh10.trans lh11).trans lh12)) v8
 have w9:=ExsVB.le ((lh11.trans lh12)) v9
 have en:∀ {l:List Ex},l=[]→ExsVB (m ≤ ·) h12 nilS l:=fun e=>by rw [e]; exact ExsVB.nil
 have sn:StsVB (m ≤ ·) h12 nilS []:=StsVB.nil
 obtain ⟨rows,hrows⟩:∃ rows:List (List Value),rows=[[.int .i64 1,str [116,97],str [],.int .i64 0,.slice (some ⟨q5,0,none⟩) 1 5,nilS,nilS],[.int .i64 2,str [100],str [100],.int .i64 0,nilS,nilS,nilS],[.int .i64 2,str [120],str [120],.int .i64 0,nilS,nilS,nilS],
   [.int .i64 3,str [116,97],str [],.int .i64 0,.slice (some ⟨q6,0,none⟩) 1 5,nilS,nilS],[.int .i64 5,str [100],str [],.int .i64 0,nilS,nilS,nilS],[.int .i64 4,str [115,116,114,97,110,103,101],str [],.int .i64 0,.slice (some ⟨q7,0,none⟩) 2 5,nilS,nilS],
   [.int .i64 1,str [120],str [],.int .i64 0,.slice (some ⟨q8,0,none⟩) 1 5,nilS,nilS],[.int .i64 1,str [120],str [],.int .i64 0,.slice (some ⟨q9,0,none⟩) 1 5,nilS,nilS],[.int .i64 6,str [],str [],.int .i64 0,.slice (some ⟨q11,0,none⟩) 1 5,nilS,nilS]]:=⟨_,rfl⟩
 have hcs:StCsB (m ≤ ·) h12 badW rows:=by
  rw [hrows]
  exact ⟨_,_,rfl,StCB.of w5 sn sn,_,_,rfl,StCB.of (en rfl) sn sn,_,_,rfl,StCB.of (en rfl) sn sn,_,_,rfl,StCB.of w6 sn sn,_,_,rfl,StCB.of (en rfl) sn sn,_,_,rfl,StCB.of w7 sn sn,_,_,rfl,StCB.of w8 sn sn,
   _,_,rfl,StCB.of w9 sn sn,_,_,rfl,StCB.of v11 sn sn,rfl⟩
 have hrl:rows.length=9:=by rw [hrows]; rfl
 have hr7:∀ x ∈ rows,x.length=7∧x.all (·.oneCell')=true:=by
  rw [hrows]
  intro x hx
  simp only [List.mem_cons,List.not_mem_nil,or_false] at hx
  rcases hx with rfl | rfl | rfl | rfl | rfl | rfl | rfl | rfl | rfl<;>exact ⟨rfl,rfl⟩
 have hsl:=SlV.new h12 (s:=7) (xs:=rows) (fun x hx=>(hr7 x hx).1) (cells:=rows.flatten) rfl (n:=9) (by rw [hrows]; rfl)
 have gq12:=Heap.get_alloc_same h12 (.blk rows.flatten true)
 have lh13:=(Heap.le.refl h12).alloc (.blk rows.flatten true)
 obtain ⟨q12,eq12⟩:∃ x_,h12.next=x_:=⟨_,rfl⟩
 obtain ⟨h13,eh13⟩:∃ x_,h12.alloc (.blk rows.flatten true)=x_:=⟨_,rfl⟩
 rw [eh13] at gq12 lh13
 rw [eq12] at gq12
 rw [eh13,eq12] at hsl
 have gq2a:=lh6.get gq22
 have gq2b:=lh7.get gq2a
 have gq2c:=lh8.get gq2b
 have gq4a:=lh9.get (lh8.get (lh7.get (lh6.get gq4)))
 have i5:IsS (.slice (some ⟨q5,0,none⟩) 1 5):=⟨_,_,_,rfl⟩
 have i6:IsS (.slice (some ⟨q6,0,none⟩) 1 5):=⟨_,_,_,rfl⟩
 have i7:IsS (.slice (some ⟨q7,0,none⟩) 2 5):=⟨_,_,_,rfl⟩
 have i8:IsS (.slice (some ⟨q8,0,none⟩) 1 5):=⟨_,_,_,rfl⟩
 have i9:IsS (.slice (some ⟨q9,0,none⟩) 1 5):=⟨_,_,_,rfl⟩
 have i11:IsS (.slice (some ⟨q11,0,none⟩) 1 5):=⟨_,_,_,rfl⟩
 have c1:=bW4 1 [116,97] i5
 have c2:=bW5 2 [100] [100]
 have c3:=bW5 2 [120] [120]
 have c4:=bW4 3 [116,97] i6
 have c5:=bW3 5 [100]
 have c6:=bW4 4 [115,116,114,97,110,103,101] i7
 have c7:=bW4 1 [120] i8
 have c8:=bW4 1 [120] i9
 have c9:=bW8 6 i11
 have hcs13:StCsB (fun i=>m≤i∧i < h13.next) h13 badW rows:=hcs.to fun i cs own hb hg=>⟨⟨hb,Nat.lt_of_lt_of_le (Heap.lt_of_get hg) lh13.next⟩,lh13.get hg⟩
 have l213:h2.le h13:=(((((((((lh3.trans lh4).trans lh5).trans lh6).trans lh7).trans lh8).trans lh9).trans lh10).trans lh11).trans lh12).trans lh13
 have gq13:=l213.get gq
 clear v3 v3' v5 v6 v7 v8 v9 v10 v11 w5 w6 w7 w8 w9 en sn hcs fB fB9 nB lh3 lh4 lh5 lh6 lh7 lh8 lh9 lh10 lh11 lh12 lh13 m5 m7 m8 m9 m10 m11 gq3 gq5 gq6 gq7 gq8 gq9 gq10 gq11 i3 i5 i6 i7 i8 i9 i11 hnS
 replace hcs13:=Hid.mk hcs13; replace l213:=Hid.mk l213; replace hsl:=Hid.mk hsl; replace hr7:=Hid.mk hr7; replace hrl:=Hid.mk hrl; replace hrows:=Hid.mk hrows; replace hm0:=Hid.mk hm0; replace hn:=Hid.mk hn; replace hn1:=Hid.mk hn1
 repeat' (first | simp -implicitDefEqProofs only [walkL,aR,aW,aBin,aInt,Int.reduceBEq,Int.reduceBNe,Nat.reduceBEq,Int.reduceLT,Int.reduceLE,partL5, *] | with_reducible (first | refine kcd ?_ ?_ | refine kgd ?_ ?_ | refine kci ?_ ?_ | refine kgi ?_ ?_)<;>intro hc)
 rw [bslice_rows (xs:=rows) ?e1 ?e2 ?e3 hr7.h]
 case e1=>rw [hrl.h]; decide
 case e2=>rw [hrows.h]; rfl
 case e3=>rw [hrl.h]; rfl
 clear hrows c1 c2 c3 c4 c5 c6 c7 c8 c9 u1 u2 u3 u4 u5 u6 eh3 eh4 eh5 eh6 eh7 eh8 eh9 eh10 eh11 eh12 sx sf b1 bf bd bt bo gq2a gq2b gq2c gq4a gq22 gq2h4 gq2 gq4
 have ln:pLenS [.slice (some ⟨q12,0,none⟩) 9 7]=some (.int .i64 9):=rfl
 have bi:=bs_i9 80 80 84 84 84 84 80 86 80
 have gq13:=Heap.get_alloc_same h13 (.blk [.int .i64 80,.int .i64 80,.int .i64 84,.int .i64 84,.int .i64 84,.int .i64 84,.int .i64 80,.int .i64 86,.int .i64 80] true)
 have lh14:=(Heap.le.refl h13).alloc (.blk [.int .i64 80,.int .i64 80,.int .i64 84,.int .i64 84,.int .i64 84,.int .i64 84,.int .i64 80,.int .i64 86,.int .i64 80] true)
 obtain ⟨q13,eq13⟩:∃ x_,h13.next=x_:=⟨_,rfl⟩
 obtain ⟨h14,eh14⟩:∃ x_,h13.alloc (.blk [.int .i64 80,.int .i64 80,.int .i64 84,.int .i64 84,.int .i64 84,.int .i64 84,.int .i64 80,.int .i64 86,.int .i64 80] true)=x_:=⟨_,rfl⟩
 rw [eh14] at gq13 lh14
 rw [eq13] at gq13
 have l214:=l213.h.trans lh14
 have gq_14:=l214.get gq
 have m13:m≤q13:=by have:=l213.h.next; have:=hm0.h; omega
 replace lh14:=Hid.mk lh14; replace l214:=Hid.mk l214; replace m13:=Hid.mk m13
 repeat' (first | simp -implicitDefEqProofs only [walkL,aR,aW,aBin,aInt,Int.reduceBEq,Int.reduceBNe,Nat.reduceBEq,Int.reduceLT,Int.reduceLE, *] | with_reducible (first | refine kcd ?_ ?_ | refine kgd ?_ ?_ | refine kci ?_ ?_ | refine kgi ?_ ?_)<;>intro hc)
 refine pick8_c _ _ (by decide) _ _ ?_
 rw [hi.h]
 refine cutH (P:=fun x=>(∃ ws:List Int,x.get q13=some (.blk (ws.map (.int .i64)) true)∧ws[i]? = some w0∧ws.length=9)∧h13.le x∧h14.next≤x.next) (G:=?G) ?b ?main
 case b =>
  intro main
  replace main:=Hid.mk main
  by_cases h7:i=7∧nr=0
  case pos =>
   obtain ⟨h7,h0⟩:=h7
   have e7:((i:Int) == 7)=true:=by rw [h7]; rfl
   have e8:((nr:Int) == 0)=true:=by rw [h0]; rfl
   have w84:w0=84:=by
    have:=hw0.h
    rw [h7,h0] at this
    simpa [wantW] using this.symm
   have ix7:pIdxAddrS 1 [.slice (some ⟨q13,0,none⟩) 9 1,.int .i64 7]=some (.pointer (some ⟨q13,7,none⟩)):=rfl
   have s7:=wStore_int (k:=.i64) (z:=84) (off:=7) gq13 (by simp)
   obtain ⟨hX,hXe⟩:∃ x,h14.set q13 (.blk ([.int .i64 80,.int .i64 80,.int .i64 84,.int .i64 84,.int .i64 84,.int .i64 84,.int .i64 80,.int .i64 86,.int .i64 80].set 7 (.int .i64 84)) true)=x:=⟨_,rfl⟩
   have gqX:hX.get q=some (.blk [.int .i64 p.harts,d,r,t] true):=by rw [← hXe,Heap.set_getE _ _ _ _ (by have:=Heap.lt_of_get gq; have:=m13.h; have:=hm0.h; simp; omega)]; exact gq_14
   rw [hXe] at s7
   have g:=main.h hX ⟨⟨[80,80,84,84,84,84,80,84,80],by rw [← hXe]; exact Heap.set_getS _ _ _ (by rw [gq13]; rfl),by rw [h7,w84]; rfl,rfl⟩,by rw [← hXe]; exact lh14.h.set (by omega) _,by rw [← hXe]; exact Nat.le_refl _⟩
   replace g:=Hid.mk g
   clear main
   replace h7:=Hid.mk h7; replace h0:=Hid.mk h0; replace w84:=Hid.mk w84
   repeat' (first | simp -implicitDefEqProofs only [walkL,aR,aW,aBin,aInt,Int.reduceBEq,Int.reduceBNe,Nat.reduceBEq,Int.reduceLT,Int.reduceLE, *] | with_reducible (first | refine kcd ?_ ?_ | refine kgd ?_ ?_ | refine kci ?_ ?_ | refine kgi ?_ ?_)<;>intro hc)
   exact g.h
  case neg =>
   have g:=main.h h14 ⟨⟨wantB,gq13,by rw [← wantW_ne (nr:=nr) hi9 (by omega)]; exact hw0.h,rfl⟩,lh14.h,Nat.le_refl _⟩
   replace g:=Hid.mk g
   clear main
   by_cases h7:i=7
   ·have e7:((i:Int) == 7)=true:=by rw [h7]; rfl
    have e8:((nr:Int) == 0)=false:=by simp only [beq_eq_false_iff_ne]; omega
    replace h7:=Hid.mk h7
    repeat' (first | simp -implicitDefEqProofs only [walkL,aR,aW,aBin,aInt,Int.reduceBEq,Int.reduceBNe,Nat.reduceBEq,Int.reduceLT,Int.reduceLE, *] | with_reducible (first | refine kcd ?_ ?_ | refine kgd ?_ ?_ | refine kci ?_ ?_ | refine kgi ?_ ?_)<;>intro hc)
    exact g.h
   ·have e7:((i:Int) == 7)=false:=by simp only [beq_eq_false_iff_ne]; omega
    replace h7:=Hid.mk h7
    repeat' (first | simp -implicitDefEqProofs only [walkL,aR,aW,aBin,aInt,Int.reduceBEq,Int.reduceBNe,Nat.reduceBEq,Int.reduceLT,Int.reduceLE, *] | with_reducible (first | refine kcd ?_ ?_ | refine kgd ?_ ?_ | refine kci ?_ ?_ | refine kgi ?_ ?_)<;>intro hc)
    exact g.h
 case main =>
  rintro hX ⟨⟨ws,gws,hws,wl⟩,lX,nX⟩
  have l2X:=l213.h.trans lX
  have gqX:=l2X.get gq
  have st2X:=st_PA hX p.harts iD.h iR.h iT.h
  have hq13:=Heap.lt_of_get gq13
  replace lX:=Hid.mk lX; replace nX:=Hid.mk nX; replace l2X:=Hid.mk l2X
  have gq14:=Heap.get_alloc_same hX (.blk [.int .i64 p.harts,d,r,t] true)
  have lh16:=(Heap.le.refl hX).alloc (.blk [.int .i64 p.harts,d,r,t] true)
  obtain ⟨q14,eq14⟩:∃ x_,hX.next=x_:=⟨_,rfl⟩
  obtain ⟨h16,eh16⟩:∃ x_,hX.alloc (.blk [.int .i64 p.harts,d,r,t] true)=x_:=⟨_,rfl⟩
  rw [eh16] at gq14 lh16
  rw [eq14] at gq14
  rw [eh16,eq14] at st2X
  have gq16:=lh16.get gqX
  have gw16:=lh16.get gws
  have nn16:n≤h16.next:=by have:=hn2.h; have h1:=l2X.h.next; have h2:=lh16.next; omega
  have hm16d:Made n (h16.set q14 .dead) p d r t xs:=hm2.h.le (le_dead_new (l2X.h.trans lh16) (by have:=l2X.h.next; omega))
  obtain ⟨va,ha,ap,lA,nvq,nvo,hmc⟩:=hm16d.clone2 nn16 (by rw [gq14]; rfl) (by omega)
  have iV:IsS va:=(hmc ha fun _ _ _ h=>h).isS.2.2
  have gq14a:=lA.get gq14
  have s17:wStore 1 ha [.pointer (some ⟨q14,3,none⟩),va]=some (undef,ha.set q14 (.blk [.int .i64 p.harts,d,r,va] true)):=by
   obtain ⟨_,_,_,rfl⟩:=iV; exact wStore_one gq14a (by simp) rfl rfl
  obtain ⟨h17,eh17⟩:∃ x,ha.set q14 (.blk [.int .i64 p.harts,d,r,va] true)=x:=⟨_,rfl⟩
  rw [eh17] at s17
  have gq14b:h17.get q14=some (.blk [.int .i64 p.harts,d,r,va] true):=by rw [← eh17]; exact Heap.set_getS _ _ _ (by rw [gq14a]; rfl)
  have hm17:=hmc h17 fun i o hne hg=>by rw [← eh17,Heap.set_getE _ _ _ _ (by simpa using hne)]; exact hg
  have lX17:hX.le h17:=by rw [← eh17]; exact (lh16.trans lA).set (by omega) _
  have gq17:=lX17.get gqX
  have gw17:=lX17.get gws
  obtain ⟨tk,hkt⟩:∃ tk,p.tasks[k]? = some tk:=⟨_,List.getElem?_eq_getElem hkl⟩
  obtain ⟨id,vb,hid,hidn,gid,e1,e2,hvb⟩:=hm17.at hkt
  have sz6:=st_T h17 tk.name tk.handler tk.hart tk.prio tk.line hvb.isS
  have idq14:id≠q14:=fun e=>nvq _ _ (by rw [hid,e])
  have idold:∀ i,(h16.get i).isSome=true→id≠i:=fun i hs e=>nvo i hs _ _ (by rw [hid,e])
  have idq:id≠q:=idold q (by rw [gq16]; rfl)
  have idw:id≠q13:=idold q13 (by rw [gw16]; rfl)
  have lt' : pLenS [va]=some (.int .i64 p.tasks.length):=by
   have:=SlV.len hm17.ht.sl
   rw [hm17.hts.length] at this; exact this
  clear hmc
  replace lh16:=Hid.mk lh16; replace hm16d:=Hid.mk hm16d; replace lA:=Hid.mk lA; replace nvq:=Hid.mk nvq; replace nvo:=Hid.mk nvo; replace iV:=Hid.mk iV; replace hm17:=Hid.mk hm17; replace lX17:=Hid.mk lX17; replace hid:=Hid.mk hid; replace idold:=Hid.mk idold; replace idq14:=Hid.mk idq14; replace idq:=Hid.mk idq; replace idw:=Hid.mk idw
  repeat' (first | simp -implicitDefEqProofs only [walkL,aR,aW,aBin,aInt,Int.reduceBEq,Int.reduceBNe,Nat.reduceBEq,Int.reduceLT,Int.reduceLE,partL4, *] | with_reducible (first | refine kcd ?_ ?_ | refine kgd ?_ ?_ | refine kci ?_ ?_ | refine kgi ?_ ?_)<;>intro hc)
  have gq15:=Heap.get_alloc_same h17 (.blk [str tk.name,.bool tk.handler,.int .i64 tk.hart,.int .i64 tk.prio,.int .i64 tk.line,vb] true)
  have lh18:=(Heap.le.refl h17).alloc (.blk [str tk.name,.bool tk.handler,.int .i64 tk.hart,.int .i64 tk.prio,.int .i64 tk.line,vb] true)
  obtain ⟨q15,eq15⟩:∃ x_,h17.next=x_:=⟨_,rfl⟩
  obtain ⟨h18,eh18⟩:∃ x_,h17.alloc (.blk [str tk.name,.bool tk.handler,.int .i64 tk.hart,.int .i64 tk.prio,.int .i64 tk.line,vb] true)=x_:=⟨_,rfl⟩
  rw [eh18] at gq15 lh18
  rw [eq15] at gq15
  rw [eh18,eq15] at sz6
  obtain ⟨x0,hx0,hsx⟩:=hcs13.h.get' hs0.h
  obtain ⟨idr,off,cells,own,r1,r2,r3,_⟩:=SlV.elem (SlV.mono (lX.h.trans (lX17.h.trans lh18)) hsl.h) hx0
  obtain ⟨xa,xu,xw,rfl,y1,y2,y3⟩:=hsx.cells
  have r3' : partL true off 7 cells=some (stV s0.kind s0.name s0.src s0.n xa xu xw):=r3
  have q1417:q14 < h17.next:=Heap.lt_of_get gq14b
  have n1613:h13.next≤h16.next:=by have h1:=lX.h.next; have h2:=lh16.h.next; omega
  have n1617:h16.next≤h17.next:=by have h1:=lA.h.next; rw [← eh17]; exact h1
  have hsx18:StCB (fun i=>PB n [va] i∧i≠q15) h18 s0 [.int .i64 s0.kind,str s0.name,str s0.src,.int .i64 s0.n,xa,xu,xw]:=hsx.to fun i cs own hb hg=>⟨⟨⟨by have:=hb.1; have:=hm0.h; have:=hn2.h; omega,fun w hw=>by
   rw [List.mem_singleton.1 hw]; exact nvo.h i (by rw [lh16.h.get (lX.h.get hg)]; rfl)⟩,by have:=hb.2; omega⟩,(lX17.h.trans lh18).get (lX.h.get hg)⟩
  have hv18:StsVB (fun i=>PB n [va] i∧i≠q15) h18 vb tk.body:=hvb.to fun i cs own hb hg=>⟨⟨hb,by have:=Heap.lt_of_get hg; omega⟩,lh18.get hg⟩
  have hbd:cntSs tk.body≤1000:=by rw [← cntSs_flat []]; exact good_bd hg.h tk (List.mem_of_getElem? hkt)
  have hbl:=cnt_len tk.body
  have hB18:∀ i,h18.next≤i→PB n [va] i∧i≠q15:=fun i hi=>⟨⟨by have:=lh18.next; omega,fun w hw=>by rw [List.mem_singleton.1 hw]; exact hm17.h.ht.notOf_new (by have:=lh18.next; omega)⟩,by have:=Heap.lt_of_get gq15; omega⟩
  obtain ⟨vc,h20,ap2,l20,hvc⟩:=ahead_row hv18 (by omega) hB18 hsx18
  have bs:=bs_st1 hsx18.ones
  have i20:IsS vc:=hvc.isS
  have g15:=l20.get gq15
  have s20:wStore 1 h20 [.pointer (some ⟨q15,5,none⟩),vc]=some (undef,h20.set q15 (.blk [str tk.name,.bool tk.handler,.int .i64 tk.hart,.int .i64 tk.prio,.int .i64 tk.line,vc] true)):=by
   obtain ⟨_,_,_,rfl⟩:=i20; exact wStore_one g15 (by simp) rfl rfl
  obtain ⟨h21,eh21⟩:∃ x,h20.set q15 (.blk [str tk.name,.bool tk.handler,.int .i64 tk.hart,.int .i64 tk.prio,.int .i64 tk.line,vc] true)=x:=⟨_,rfl⟩
  rw [eh21] at s20
  have l17_21:h17.le h21:=by rw [← eh21]; exact (lh18.trans l20).set (by omega) _
  have gq15b:h21.get q15=some (.blk [str tk.name,.bool tk.handler,.int .i64 tk.hart,.int .i64 tk.prio,.int .i64 tk.line,vc] true):=by rw [← eh21]; exact Heap.set_getS _ _ _ (by rw [g15]; rfl)
  have hv21:StsVB (PB n [va]) h21 vc (s0::tk.body):=hvc.to (by rw [← eh21]; exact Heap.toB_set _ fun i hb=>⟨hb.2,hb.1⟩)
  have gq14c:=l17_21.get gq14b
  have gq_21:=l17_21.get gq17
  have gw21:=l17_21.get gw17
  have gq14_18:=lh18.get gq14b
  obtain ⟨cc,stc,hmd⟩:=(hm17.h.le l17_21).put hid.h hkt { tk with body:=s0::tk.body } hv21
  have stc' : wStore 6 h21 [.pointer (some ⟨id,k * 6,none⟩),tsV tk.name tk.handler tk.hart tk.prio tk.line vc]=some (undef,h21.set id cc):=stc
  obtain ⟨h22,eh22⟩:∃ x_,h21.set id cc=x_:=⟨_,rfl⟩
  rw [eh22] at stc' hmd
  have gq14d:h22.get q14=some (.blk [.int .i64 p.harts,d,r,va] true):=by rw [← eh22,Heap.set_getE _ _ _ _ (by have:=idq14.h; simpa using this.symm)]; exact gq14c
  have gq_22:h22.get q=some (.blk [.int .i64 p.harts,d,r,t] true):=by rw [← eh22,Heap.set_getE _ _ _ _ (by have:=idq.h; simpa using this.symm)]; exact gq_21
  have gw22:h22.get q13=some (.blk (ws.map (.int .i64)) true):=by rw [← eh22,Heap.set_getE _ _ _ _ (by have:=idw.h; simpa using this.symm)]; exact gw21
  clear stc r3 y1 y2 y3
  replace hsx:=Hid.mk hsx; replace hsx18:=Hid.mk hsx18; replace hv18:=Hid.mk hv18; replace hvc:=Hid.mk hvc; replace hv21:=Hid.mk hv21; replace i20:=Hid.mk i20; replace l20:=Hid.mk l20; replace lh18:=Hid.mk lh18; replace l17_21:=Hid.mk l17_21; replace hmd:=Hid.mk hmd; replace hvb:=Hid.mk hvb
  repeat' (first | simp -implicitDefEqProofs only [walkL,aR,aW,aBin,aInt,Int.reduceBEq,Int.reduceBNe,Nat.reduceBEq,Int.reduceLT,Int.reduceLE,partL4,partL6,partL7, *] | with_reducible (first | refine kcd ?_ ?_ | refine kgd ?_ ?_ | refine kci ?_ ?_ | refine kgi ?_ ?_)<;>intro hc)
  obtain ⟨r2',t2,nn2,hfirst⟩:=wrong_first hg.h.right hf.h.nodup hf.h.tasks hf.h.body (badW_I s0 (List.mem_of_getElem? hs0.h)) ew0.h nw0.h hkt
  obtain ⟨xM,hmd2⟩:∃ xs,Made n h22 (putB p k tk (s0::tk.body)) d r va xs:=⟨_,hmd.h⟩
  have hp2:PrC h22 (putB p k tk (s0::tk.body)) [.int .i64 p.harts,d,r,va]:=hmd2.prc
  have c0:=badW_cnt s0 (List.mem_of_getElem? hs0.h)
  have bd2:∀ t' ∈ (putB p k tk (s0::tk.body)).tasks,(flatSs [] t'.body).length < 4611686018427387904:=fun t' ht'=>by
   have ht' : t' ∈ p.tasks.set k { tk with body:=s0::tk.body }:=ht'
   rcases List.mem_or_eq_of_mem_set ht' with h | rfl
   ·have:=good_bd hg.h t' h; omega
   ·rw [cntSs_flat]; show cntS s0 + cntSs tk.body < _; omega
  have hbl2:p.tasks.length=(putB p k tk (s0::tk.body)).tasks.length:=by simp [putB]
  replace hmd2:=Hid.mk hmd2; replace bd2:=Hid.mk bd2; replace hfirst:=Hid.mk hfirst; replace r2':=Hid.mk r2'; replace t2:=Hid.mk t2; replace nn2:=Hid.mk nn2; replace c0:=Hid.mk c0; replace hbl2:=Hid.mk hbl2
  refine Check_c hp2 bd2.h _ fun h23 e i' n' hci l23=>?_
  obtain ⟨ee,ei,en⟩:=hfirst.h e i' n' hci
  rw [ee,ei,en]
  clear hci hp2
  have st4:wStore 2 (h23.alloc (.blk [.int .i64 0,.int .i64 0] true)) [.pointer (some ⟨h23.next,0,none⟩),.agg #[.int .i64 k,.int .i64 0]]=some (undef,h23.alloc (.blk [.int .i64 k,.int .i64 0] true)):=wStore_new rfl rfl rfl rfl
  have gq14e:=l23.get gq14d
  have gq_23:=l23.get gq_22
  have gw23:=l23.get gw22
  have gqa:=Heap.get_alloc_same h23 (.blk [.int .i64 k,.int .i64 0] true)
  have lh24:=(Heap.le.refl h23).alloc (.blk [.int .i64 k,.int .i64 0] true)
  obtain ⟨qa,eqa⟩:∃ x_,h23.next=x_:=⟨_,rfl⟩
  obtain ⟨h24,eh24⟩:∃ x_,h23.alloc (.blk [.int .i64 k,.int .i64 0] true)=x_:=⟨_,rfl⟩
  rw [eh24] at gqa lh24
  rw [eqa] at gqa
  rw [eh24,eqa] at st4
  have gq14f:=lh24.get gq14e
  have gq_24:=lh24.get gq_23
  have gw24:=lh24.get gw23
  have hmd24:=hmd2.h.le (l23.trans lh24)
  obtain ⟨tl,htl⟩:∃ tl,(putB p k tk (s0::tk.body)).tasks[p.tasks.length - 1]? = some tl:=⟨_,List.getElem?_eq_getElem (by rw [← hbl2.h]; omega)⟩
  obtain ⟨id2,vl,hid2,_,gid2,f1,f2,hvl⟩:=hmd24.at htl
  have wlen:IntKind.i64.wrap ((p.tasks.length:Int) - 1)=((p.tasks.length - 1:Nat):Int):=by rw [wrapI (by omega) (by omega)]; omega
  have idid:id2=id:=by
   have e:=hid.h
   rw [hid2] at e
   injection e with e1 e2 e3
   injection e1 with e1
   injection e1 with e1 e2 e3
  rw [idid] at hid2 gid2 f1
  have sz7:=st_T h24 tl.name tl.handler tl.hart tl.prio tl.line hvl.isS
  replace ee:=Hid.mk ee; replace ei:=Hid.mk ei; replace en:=Hid.mk en; replace l23:=Hid.mk l23; replace lh24:=Hid.mk lh24; replace hmd24:=Hid.mk hmd24; replace htl:=Hid.mk htl; replace hid2:=Hid.mk hid2; replace hvl:=Hid.mk hvl; replace idid:=Hid.mk idid
  have gq18:=Heap.get_alloc_same h24 (.blk [str tl.name,.bool tl.handler,.int .i64 tl.hart,.int .i64 tl.prio,.int .i64 tl.line,vl] true)
  have lh25:=(Heap.le.refl h24).alloc (.blk [str tl.name,.bool tl.handler,.int .i64 tl.hart,.int .i64 tl.prio,.int .i64 tl.line,vl] true)
  obtain ⟨q18,eq18⟩:∃ x_,h24.next=x_:=⟨_,rfl⟩
  obtain ⟨h25,eh25⟩:∃ x_,h24.alloc (.blk [str tl.name,.bool tl.handler,.int .i64 tl.hart,.int .i64 tl.prio,.int .i64 tl.line,vl] true)=x_:=⟨_,rfl⟩
  rw [eh25] at gq18 lh25
  rw [eq18] at gq18
  rw [eh25,eq18] at sz7
  have s26:=wStore_int (k:=.i64) (z:=p.harts) (off:=2) gq18 (by simp)
  obtain ⟨h26,eh26⟩:∃ x,h25.set q18 (.blk ([str tl.name,.bool tl.handler,.int .i64 tl.hart,.int .i64 tl.prio,.int .i64 tl.line,vl].set 2 (.int .i64 p.harts)) true)=x:=⟨_,rfl⟩
  rw [eh26] at s26
  have l24_26:h24.le h26:=by rw [← eh26]; exact lh25.set (by omega) _
  have gq18b:h26.get q18=some (.blk [str tl.name,.bool tl.handler,.int .i64 p.harts,.int .i64 tl.prio,.int .i64 tl.line,vl] true):=by rw [← eh26]; exact Heap.set_getS _ _ _ (by rw [gq18]; rfl)
  have gq14g:=l24_26.get gq14f
  have gq14_25:=lh25.get gq14f
  have gq_25:=lh25.get gq_24
  have gq_26:=l24_26.get gq_24
  have gw26:=l24_26.get gw24
  have gat26:=l24_26.get gqa
  obtain ⟨cc2,stc2,hme⟩:=(hmd24.h.le l24_26).put hid2.h htl.h { tl with hart:=p.harts } (hvl.h.to (l24_26.toB fun i h=>h))
  have stc2' : wStore 6 h26 [.pointer (some ⟨id,(p.tasks.length - 1) * 6,none⟩),tsV tl.name tl.handler p.harts tl.prio tl.line vl]=some (undef,h26.set id cc2):=stc2
  obtain ⟨h27,eh27⟩:∃ x_,h26.set id cc2=x_:=⟨_,rfl⟩
  rw [eh27] at stc2' hme
  have gq14h:h27.get q14=some (.blk [.int .i64 p.harts,d,r,va] true):=by rw [← eh27,Heap.set_getE _ _ _ _ (by have:=idq14.h; simpa using this.symm)]; exact gq14g
  have gq_27:h27.get q=some (.blk [.int .i64 p.harts,d,r,t] true):=by rw [← eh27,Heap.set_getE _ _ _ _ (by have:=idq.h; simpa using this.symm)]; exact gq_26
  have gw27:h27.get q13=some (.blk (ws.map (.int .i64)) true):=by rw [← eh27,Heap.set_getE _ _ _ _ (by have:=idw.h; simpa using this.symm)]; exact gw26
  have idqa:id≠qa:=by
   have:=Heap.lt_of_get gid
   have h1:=l17_21.h.next
   have h2:h22.next=h21.next:=by rw [← eh22]; rfl
   have h3:=l23.h.next
   omega
  have gqa27:h27.get qa=some (.blk [.int .i64 k,.int .i64 0] true):=by rw [← eh27,Heap.set_getE _ _ _ _ (by simpa using idqa.symm)]; exact gat26
  obtain ⟨p3,hp3⟩:∃ x:Prg,({ putB p k tk (s0::tk.body) with tasks:=(putB p k tk (s0::tk.body)).tasks.set (p.tasks.length - 1) { tl with hart:=p.harts } }:Prg)=x:=⟨_,rfl⟩
  obtain ⟨xE,hme2⟩:∃ xs,Made n h27 p3 d r va xs:=⟨_,by rw [← hp3]; exact hme⟩
  have hph:p3.harts=p.harts:=by rw [← hp3]; rfl
  have hp4:PrC h27 p3 [.int .i64 p.harts,d,r,va]:=by have:=hme2.prc; rw [hph] at this; exact this
  have hle3:p.harts≤3:=by rw [hf.h.harts]; have:=hf.h.b3; omega
  have hge0:0≤p.harts:=by rw [hf.h.harts]; omega
  obtain ⟨r3',n3⟩:=rightP_hart r2'.h htl.h hge0 hle3
  rw [show ({ putB p k tk (s0::tk.body) with tasks:=(putB p k tk (s0::tk.body)).tasks.set (p.tasks.length - 1) { tl with hart:=p.harts } }:Prg)=p3 from hp3] at r3' n3
  have bd3:∀ t' ∈ p3.tasks,(flatSs [] t'.body).length < 4611686018427387904:=fun t' ht'=>by
   rw [← hp3] at ht'
   rcases List.mem_or_eq_of_mem_set ht' with h | rfl
   ·exact bd2.h t' h
   ·exact bd2.h tl (List.mem_of_getElem? htl.h)
  have hl1:p.tasks.length - 1 + 1=(putB p k tk (s0::tk.body)).tasks.length:=by rw [← hbl2.h]; omega
  have hsec:∀ e i' n' : Int,CheckIs p3 e i' n' → e=81∧i' = (p.tasks.length - 1:Nat)∧n' = 0:=fun e i' n' hci=>hart_first (p:=putB p k tk (s0::tk.body)) r3' (by rw [n3]; exact nn2.h) t2.h htl.h hl1 (by rw [← hp3]; rfl) (by rw [← hp3]) hci
  clear stc2 hme
  replace l24_26:=Hid.mk l24_26; replace hme2:=Hid.mk hme2; replace hp3:=Hid.mk hp3; replace hph:=Hid.mk hph; replace hp4:=Hid.mk hp4; replace hsec:=Hid.mk hsec; replace bd3:=Hid.mk bd3; replace hle3:=Hid.mk hle3; replace hge0:=Hid.mk hge0; replace r3':=Hid.mk r3'; replace n3:=Hid.mk n3; replace hl1:=Hid.mk hl1; replace idqa:=Hid.mk idqa
  repeat' (first | simp -implicitDefEqProofs only [walkL,aR,aW,aBin,aInt,Int.reduceBEq,Int.reduceBNe,Nat.reduceBEq,Int.reduceLT,Int.reduceLE,partL4,partL6,part22b, *] | with_reducible (first | refine kcd ?_ ?_ | refine kgd ?_ ?_ | refine kci ?_ ?_ | refine kgi ?_ ?_)<;>intro hc)
  refine Check_c hp4.h bd3.h _ fun h28 e2 i2 n2 hci l28=>?_
  obtain ⟨ee2,ei2,en2⟩:=hsec.h e2 i2 n2 hci
  rw [ee2,ei2,en2]
  clear hci
  have st5:wStore 2 (h28.alloc (.blk [.int .i64 0,.int .i64 0] true)) [.pointer (some ⟨h28.next,0,none⟩),.agg #[.int .i64 (p.tasks.length - 1:Nat),.int .i64 0]]=some (undef,h28.alloc (.blk [.int .i64 (p.tasks.length - 1:Nat),.int .i64 0] true)):=wStore_new rfl rfl rfl rfl
  have gq14i:=l28.get gq14h
  have gq_28:=l28.get gq_27
  have gw28:=l28.get gw27
  have gqa28:=l28.get gqa27
  have gqb:=Heap.get_alloc_same h28 (.blk [.int .i64 (p.tasks.length - 1:Nat),.int .i64 0] true)
  have lh29:=(Heap.le.refl h28).alloc (.blk [.int .i64 (p.tasks.length - 1:Nat),.int .i64 0] true)
  obtain ⟨qb,eqb⟩:∃ x_,h28.next=x_:=⟨_,rfl⟩
  obtain ⟨h29,eh29⟩:∃ x_,h28.alloc (.blk [.int .i64 (p.tasks.length - 1:Nat),.int .i64 0] true)=x_:=⟨_,rfl⟩
  rw [eh29] at gqb lh29
  rw [eqb] at gqb
  rw [eh29,eqb] at st5
  have gq14j:=lh29.get gq14i
  have gq_29:=lh29.get gq_28
  have gw29:=lh29.get gw28
  have gqa29:=lh29.get gqa28
  have ixi:pIdxAddrS 1 [.slice (some ⟨q13,0,none⟩) 9 1,.int .i64 i]=some (.pointer (some ⟨q13,i,none⟩)):=by
   have:(i:Int) < 9:=by omega
   simp [pIdxAddrS,this]
  have gwi:(ws.map (Value.int .i64))[i]? = some (.int .i64 w0):=by rw [List.getElem?_map,hws]; rfl
  have pbb:∀ a b:Int,pBuild [.int .i64 0,.int .i64 0] [(0,1),(1,1)] [.int .i64 a,.int .i64 b]=some (.agg #[.int .i64 a,.int .i64 b]):=fun _ _=>rfl
  have q0:=eq22 (a:=k) (b:=0) (by unfold inI; omega) (by unfold inI; omega)
  have q1:=eq22 (a:=(p.tasks.length - 1:Nat)) (b:=0) (by unfold inI; omega) (by unfold inI; omega)
  have h3n:¬ (3 < p.harts):=by have:=hle3.h; omega
  have bq:(w0 == w0)=true:=by simp
  replace ee2:=Hid.mk ee2; replace ei2:=Hid.mk ei2; replace en2:=Hid.mk en2; replace l28:=Hid.mk l28; replace lh29:=Hid.mk lh29
  repeat' (first | simp -implicitDefEqProofs only [walkL,aR,aW,aBin,aInt,Int.reduceBEq,Int.reduceBNe,Nat.reduceBEq,Int.reduceLT,Int.reduceLE,part22b, *] | with_reducible (first | refine kcd ?_ ?_ | refine kgd ?_ ?_ | refine kci ?_ ?_ | refine kgi ?_ ?_)<;>intro hc)
  exact hq.h _
end Go.Eng.Sy
