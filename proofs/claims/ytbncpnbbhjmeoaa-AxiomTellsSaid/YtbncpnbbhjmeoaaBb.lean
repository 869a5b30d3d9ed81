/-
  Part of a proof of the laws of layer 12 (axiom): what each function does.
  Conditions: none.
-/
import Derived.Test.YtbncpnbbhjmeoaaBa
set_option linter.unusedSimpArgs false
set_option linter.unusedVariables false
namespace Go.Eng.Ax
open Go Go.Eng Go.Proofs

theorem isOrder_mem {l : List Ev} {o : List Int} (h : isOrder l o = true) : ∀ j ∈ o, 0 ≤ j ∧ j < l.length := by
  intro j hj
  have := (of_decide_eq_true h).mem_iff.1 hj
  simp only [accs, accsTo, List.mem_map, List.mem_filter, List.mem_range] at this
  obtain ⟨k, ⟨h1, _⟩, rfl⟩ := this
  omega
theorem isOrder_len {l : List Ev} {o : List Int} (h : isOrder l o = true) : o.length ≤ l.length := by
  rw [(of_decide_eq_true h).length_eq]
  exact accsTo_len l l.length

def ValueS (l : List Ev) (o : List Int) (i : Int) : Int × Bool :=
  if right l && isOrder l o && decide (0 ≤ i) && decide (i < l.length) && (l[i.toNat]?).any (fun e => e.kind == 1) then (value l o i, true) else (0, false)

theorem Value_c {v w : Value} {l : List Ev} {o : List Int} {h : Heap} (hv : Evs h v l) (hw : Ints h w o) (hl : l.length ≤ 1000000) (ho : o.length ≤ 12) (i : Int) (Q : Value → Heap → Prop)
    (hq : ∀ h', h.le h' → Q (.tuple #[.int .i64 (ValueS l o i).1, .bool (ValueS l o i).2]) h') : CallW Try.prog 15 [v, w, .int .i64 i] h Q := by
  refine call_of2 (k := 3) (j := 4) ok15 rfl rfl rfl fun N => ?_
  rw [show env0 c15 [v, w, .int .i64 i] = [v, w, .int .i64 i, undef, undef] from rfl]
  delta c15 c15_r0 c15_r1 c15_r2 c15_r3
  replace hq := Hid.mk hq
  repeat' (first | simp -implicitDefEqProofs only [W_skip, W_reg, W_seq, W_rcond, W_cond, W_block, W_loop, W_exit, W_ret, thenQ_normal, thenQ_exit, thenQ_ret, blockQ_normal, blockQ_ret, blockQ_here, regQ_app, rcQ_app, cndK_t, cndK_f, RegW_nil, RegW_none, RegW_some, contW_app, grdK_tt, grdK_ff, grdK_tf, grdK_ft, grdK_undef, actK_p, actK_r, actK_a, actK_w, actK_call, actK_callV, heapK_app, allocK_app, writeK_app, ret1_ret, ret1_normal, ret0_ret, ret0_normal, ret2_ret2, thenK_app, retcv_ret, retcvK_app, optW_some, evs, Arg.ev, aP, aR, aA, aW, pMov, pBin, pUn, pConv, pPick, pFieldAddr, pNilCheck, pExtract, aBin, aUn, aInt, aNew, partL_f, upd, List.getElem?_cons_zero, List.getElem?_cons_succ, List.getD_cons_zero, List.getD_cons_succ, List.set_cons_zero, List.set_cons_succ, Nat.zero_add, Nat.add_zero, List.getElem?_toArray, List.take_zero, List.drop_zero, List.take_succ_cons, List.drop_succ_cons, if_true, if_false, decide_true, decide_false, Bool.false_eq_true, Bool.true_eq_false, Bool.not_true, Bool.not_false, not_true_eq_false, not_false_eq_true, ge_iff_le, gt_iff_lt, beq_self_eq_true, bne_self_eq_false, and_self, and_true, true_and, Option.isSome_some, Heap.get_alloc_same, Heap.alloc_getE, *] | with_reducible refine cndK_d (fun hc => ?_) (fun hc => ?_) | with_reducible refine grdK_d (fun hc => ?_) (fun hc => ?_) | with_reducible refine cndK_i (fun hc => ?_) (fun hc => ?_) | with_reducible refine grdK_i (fun hc => ?_) (fun hc => ?_))
  refine right_c hv (by omega) _ fun v1 h1 hv1 hl1 => ?_
  subst hv1
  have bad : ∀ h', h.le h' → ValueS l o i = (0, false) → Q (.tuple #[.int .i64 0, .bool false]) h' := fun h' hl e => by have := hq.h h' hl; rwa [e] at this
  replace bad := Hid.mk bad
  cases hr : right l with
  | false =>
    repeat' (first | simp -implicitDefEqProofs only [W_skip, W_reg, W_seq, W_rcond, W_cond, W_block, W_loop, W_exit, W_ret, thenQ_normal, thenQ_exit, thenQ_ret, blockQ_normal, blockQ_ret, blockQ_here, regQ_app, rcQ_app, cndK_t, cndK_f, RegW_nil, RegW_none, RegW_some, contW_app, grdK_tt, grdK_ff, grdK_tf, grdK_ft, grdK_undef, actK_p, actK_r, actK_a, actK_w, actK_call, actK_callV, heapK_app, allocK_app, writeK_app, ret1_ret, ret1_normal, ret0_ret, ret0_normal, ret2_ret2, thenK_app, retcv_ret, retcvK_app, optW_some, evs, Arg.ev, aP, aR, aA, aW, pMov, pBin, pUn, pConv, pPick, pFieldAddr, pNilCheck, pExtract, aBin, aUn, aInt, aNew, partL_f, upd, List.getElem?_cons_zero, List.getElem?_cons_succ, List.getD_cons_zero, List.getD_cons_succ, List.set_cons_zero, List.set_cons_succ, Nat.zero_add, Nat.add_zero, List.getElem?_toArray, List.take_zero, List.drop_zero, List.take_succ_cons, List.drop_succ_cons, if_true, if_false, decide_true, decide_false, Bool.false_eq_true, Bool.true_eq_false, Bool.not_true, Bool.not_false, not_true_eq_false, not_false_eq_true, ge_iff_le, gt_iff_lt, beq_self_eq_true, bne_self_eq_false, and_self, and_true, true_and, Option.isSome_some, Heap.get_alloc_same, Heap.alloc_getE, *] | with_reducible refine cndK_d (fun hc => ?_) (fun hc => ?_) | with_reducible refine grdK_d (fun hc => ?_) (fun hc => ?_) | with_reducible refine cndK_i (fun hc => ?_) (fun hc => ?_) | with_reducible refine grdK_i (fun hc => ?_) (fun hc => ?_))
    exact bad.h _ hl1 (by simp [ValueS, hr])
  | true =>
    repeat' (first | simp -implicitDefEqProofs only [W_skip, W_reg, W_seq, W_rcond, W_cond, W_block, W_loop, W_exit, W_ret, thenQ_normal, thenQ_exit, thenQ_ret, blockQ_normal, blockQ_ret, blockQ_here, regQ_app, rcQ_app, cndK_t, cndK_f, RegW_nil, RegW_none, RegW_some, contW_app, grdK_tt, grdK_ff, grdK_tf, grdK_ft, grdK_undef, actK_p, actK_r, actK_a, actK_w, actK_call, actK_callV, heapK_app, allocK_app, writeK_app, ret1_ret, ret1_normal, ret0_ret, ret0_normal, ret2_ret2, thenK_app, retcv_ret, retcvK_app, optW_some, evs, Arg.ev, aP, aR, aA, aW, pMov, pBin, pUn, pConv, pPick, pFieldAddr, pNilCheck, pExtract, aBin, aUn, aInt, aNew, partL_f, upd, List.getElem?_cons_zero, List.getElem?_cons_succ, List.getD_cons_zero, List.getD_cons_succ, List.set_cons_zero, List.set_cons_succ, Nat.zero_add, Nat.add_zero, List.getElem?_toArray, List.take_zero, List.drop_zero, List.take_succ_cons, List.drop_succ_cons, if_true, if_false, decide_true, decide_false, Bool.false_eq_true, Bool.true_eq_false, Bool.not_true, Bool.not_false, not_true_eq_false, not_false_eq_true, ge_iff_le, gt_iff_lt, beq_self_eq_true, bne_self_eq_false, and_self, and_true, true_and, Option.isSome_some, Heap.get_alloc_same, Heap.alloc_getE, *] | with_reducible refine cndK_d (fun hc => ?_) (fun hc => ?_) | with_reducible refine grdK_d (fun hc => ?_) (fun hc => ?_) | with_reducible refine cndK_i (fun hc => ?_) (fun hc => ?_) | with_reducible refine grdK_i (fun hc => ?_) (fun hc => ?_))
    refine isOrder_c (hv.mono hl1) (hw.mono hl1) hl ho _ fun v2 h2 hv2 hl2 => ?_
    subst hv2
    cases hor : isOrder l o with
    | false =>
      repeat' (first | simp -implicitDefEqProofs only [W_skip, W_reg, W_seq, W_rcond, W_cond, W_block, W_loop, W_exit, W_ret, thenQ_normal, thenQ_exit, thenQ_ret, blockQ_normal, blockQ_ret, blockQ_here, regQ_app, rcQ_app, cndK_t, cndK_f, RegW_nil, RegW_none, RegW_some, contW_app, grdK_tt, grdK_ff, grdK_tf, grdK_ft, grdK_undef, actK_p, actK_r, actK_a, actK_w, actK_call, actK_callV, heapK_app, allocK_app, writeK_app, ret1_ret, ret1_normal, ret0_ret, ret0_normal, ret2_ret2, thenK_app, retcv_ret, retcvK_app, optW_some, evs, Arg.ev, aP, aR, aA, aW, pMov, pBin, pUn, pConv, pPick, pFieldAddr, pNilCheck, pExtract, aBin, aUn, aInt, aNew, partL_f, upd, List.getElem?_cons_zero, List.getElem?_cons_succ, List.getD_cons_zero, List.getD_cons_succ, List.set_cons_zero, List.set_cons_succ, Nat.zero_add, Nat.add_zero, List.getElem?_toArray, List.take_zero, List.drop_zero, List.take_succ_cons, List.drop_succ_cons, if_true, if_false, decide_true, decide_false, Bool.false_eq_true, Bool.true_eq_false, Bool.not_true, Bool.not_false, not_true_eq_false, not_false_eq_true, ge_iff_le, gt_iff_lt, beq_self_eq_true, bne_self_eq_false, and_self, and_true, true_and, Option.isSome_some, Heap.get_alloc_same, Heap.alloc_getE, *] | with_reducible refine cndK_d (fun hc => ?_) (fun hc => ?_) | with_reducible refine grdK_d (fun hc => ?_) (fun hc => ?_) | with_reducible refine cndK_i (fun hc => ?_) (fun hc => ?_) | with_reducible refine grdK_i (fun hc => ?_) (fun hc => ?_))
      exact bad.h _ (hl1.trans hl2) (by simp [ValueS, hor])
    | true =>
      by_cases h0 : 0 ≤ i ∧ i < l.length
      · obtain ⟨h01, h02⟩ := h0
        obtain ⟨i, rfl⟩ := Int.eq_ofNat_of_zero_le h01
        have hi : i < l.length := by omega
        obtain ⟨a, ha⟩ : ∃ e, l[i]? = some e := ⟨_, List.getElem?_eq_getElem hi⟩
        obtain ⟨id, off, cells, own, e1, e2, e3, e4, e5, e6, e7⟩ := (hv.mono (hl1.trans hl2)).elem ha
        have c1 : ¬ (i : Int) < 0 := by omega
        have c2 : ¬ (l.length : Int) ≤ (i : Int) := by omega
        cases hk : (a.kind != 1) with
        | true =>
          repeat' (first | simp -implicitDefEqProofs only [W_skip, W_reg, W_seq, W_rcond, W_cond, W_block, W_loop, W_exit, W_ret, thenQ_normal, thenQ_exit, thenQ_ret, blockQ_normal, blockQ_ret, blockQ_here, regQ_app, rcQ_app, cndK_t, cndK_f, RegW_nil, RegW_none, RegW_some, contW_app, grdK_tt, grdK_ff, grdK_tf, grdK_ft, grdK_undef, actK_p, actK_r, actK_a, actK_w, actK_call, actK_callV, heapK_app, allocK_app, writeK_app, ret1_ret, ret1_normal, ret0_ret, ret0_normal, ret2_ret2, thenK_app, retcv_ret, retcvK_app, optW_some, evs, Arg.ev, aP, aR, aA, aW, pMov, pBin, pUn, pConv, pPick, pFieldAddr, pNilCheck, pExtract, aBin, aUn, aInt, aNew, partL_f, upd, List.getElem?_cons_zero, List.getElem?_cons_succ, List.getD_cons_zero, List.getD_cons_succ, List.set_cons_zero, List.set_cons_succ, Nat.zero_add, Nat.add_zero, List.getElem?_toArray, List.take_zero, List.drop_zero, List.take_succ_cons, List.drop_succ_cons, if_true, if_false, decide_true, decide_false, Bool.false_eq_true, Bool.true_eq_false, Bool.not_true, Bool.not_false, not_true_eq_false, not_false_eq_true, ge_iff_le, gt_iff_lt, beq_self_eq_true, bne_self_eq_false, and_self, and_true, true_and, Option.isSome_some, Heap.get_alloc_same, Heap.alloc_getE, hv.len, *] | with_reducible refine cndK_d (fun hc => ?_) (fun hc => ?_) | with_reducible refine grdK_d (fun hc => ?_) (fun hc => ?_) | with_reducible refine cndK_i (fun hc => ?_) (fun hc => ?_) | with_reducible refine grdK_i (fun hc => ?_) (fun hc => ?_))
          exact bad.h _ (hl1.trans hl2) (by simp only [ValueS, Int.toNat_natCast, ha, Option.any_some]; simp at hk; simp [hk])
        | false =>
          repeat' (first | simp -implicitDefEqProofs only [W_skip, W_reg, W_seq, W_rcond, W_cond, W_block, W_loop, W_exit, W_ret, thenQ_normal, thenQ_exit, thenQ_ret, blockQ_normal, blockQ_ret, blockQ_here, regQ_app, rcQ_app, cndK_t, cndK_f, RegW_nil, RegW_none, RegW_some, contW_app, grdK_tt, grdK_ff, grdK_tf, grdK_ft, grdK_undef, actK_p, actK_r, actK_a, actK_w, actK_call, actK_callV, heapK_app, allocK_app, writeK_app, ret1_ret, ret1_normal, ret0_ret, ret0_normal, ret2_ret2, thenK_app, retcv_ret, retcvK_app, optW_some, evs, Arg.ev, aP, aR, aA, aW, pMov, pBin, pUn, pConv, pPick, pFieldAddr, pNilCheck, pExtract, aBin, aUn, aInt, aNew, partL_f, upd, List.getElem?_cons_zero, List.getElem?_cons_succ, List.getD_cons_zero, List.getD_cons_succ, List.set_cons_zero, List.set_cons_succ, Nat.zero_add, Nat.add_zero, List.getElem?_toArray, List.take_zero, List.drop_zero, List.take_succ_cons, List.drop_succ_cons, if_true, if_false, decide_true, decide_false, Bool.false_eq_true, Bool.true_eq_false, Bool.not_true, Bool.not_false, not_true_eq_false, not_false_eq_true, ge_iff_le, gt_iff_lt, beq_self_eq_true, bne_self_eq_false, and_self, and_true, true_and, Option.isSome_some, Heap.get_alloc_same, Heap.alloc_getE, hv.len, *] | with_reducible refine cndK_d (fun hc => ?_) (fun hc => ?_) | with_reducible refine grdK_d (fun hc => ?_) (fun hc => ?_) | with_reducible refine cndK_i (fun hc => ?_) (fun hc => ?_) | with_reducible refine grdK_i (fun hc => ?_) (fun hc => ?_))
          refine value_c (hv.mono (hl1.trans hl2)) (hw.mono (hl1.trans hl2)) hl (by omega) (isOrder_mem hor) hi _ fun v3 h3 hv3 hl3 => ?_
          subst hv3
          repeat' (first | simp -implicitDefEqProofs only [W_skip, W_reg, W_seq, W_rcond, W_cond, W_block, W_loop, W_exit, W_ret, thenQ_normal, thenQ_exit, thenQ_ret, blockQ_normal, blockQ_ret, blockQ_here, regQ_app, rcQ_app, cndK_t, cndK_f, RegW_nil, RegW_none, RegW_some, contW_app, grdK_tt, grdK_ff, grdK_tf, grdK_ft, grdK_undef, actK_p, actK_r, actK_a, actK_w, actK_call, actK_callV, heapK_app, allocK_app, writeK_app, ret1_ret, ret1_normal, ret0_ret, ret0_normal, ret2_ret2, thenK_app, retcv_ret, retcvK_app, optW_some, evs, Arg.ev, aP, aR, aA, aW, pMov, pBin, pUn, pConv, pPick, pFieldAddr, pNilCheck, pExtract, aBin, aUn, aInt, aNew, partL_f, upd, List.getElem?_cons_zero, List.getElem?_cons_succ, List.getD_cons_zero, List.getD_cons_succ, List.set_cons_zero, List.set_cons_succ, Nat.zero_add, Nat.add_zero, List.getElem?_toArray, List.take_zero, List.drop_zero, List.take_succ_cons, List.drop_succ_cons, if_true, if_false, decide_true, decide_false, Bool.false_eq_true, Bool.true_eq_false, Bool.not_true, Bool.not_false, not_true_eq_false, not_false_eq_true, ge_iff_le, gt_iff_lt, beq_self_eq_true, bne_self_eq_false, and_self, and_true, true_and, Option.isSome_some, Heap.get_alloc_same, Heap.alloc_getE, *] | with_reducible refine cndK_d (fun hc => ?_) (fun hc => ?_) | with_reducible refine grdK_d (fun hc => ?_) (fun hc => ?_) | with_reducible refine cndK_i (fun hc => ?_) (fun hc => ?_) | with_reducible refine grdK_i (fun hc => ?_) (fun hc => ?_))
          have : ValueS l o i = (value l o i, true) := by
            have hk' : (a.kind == 1) = true := by simpa using hk
            simp only [ValueS, hr, hor, Int.toNat_natCast, ha, Option.any_some, hk', h01, h02, decide_true, Bool.true_and, if_true]
          have h4 := hq.h h3 ((hl1.trans hl2).trans hl3)
          rwa [this] at h4
      · have fin := bad.h h2 (hl1.trans hl2) (by
          have : (decide (0 ≤ i) && decide (i < (l.length : Int))) = false := by
            simp only [Bool.and_eq_false_iff, decide_eq_false_iff_not]; omega
          simp only [ValueS, Bool.and_assoc]
          rw [if_neg]
          intro hh
          simp only [Bool.and_eq_true, decide_eq_true_eq] at hh
          exact h0 ⟨hh.2.2.1, hh.2.2.2.1⟩)
        repeat' (first | simp -implicitDefEqProofs only [W_skip, W_reg, W_seq, W_rcond, W_cond, W_block, W_loop, W_exit, W_ret, thenQ_normal, thenQ_exit, thenQ_ret, blockQ_normal, blockQ_ret, blockQ_here, regQ_app, rcQ_app, cndK_t, cndK_f, RegW_nil, RegW_none, RegW_some, contW_app, grdK_tt, grdK_ff, grdK_tf, grdK_ft, grdK_undef, actK_p, actK_r, actK_a, actK_w, actK_call, actK_callV, heapK_app, allocK_app, writeK_app, ret1_ret, ret1_normal, ret0_ret, ret0_normal, ret2_ret2, thenK_app, retcv_ret, retcvK_app, optW_some, evs, Arg.ev, aP, aR, aA, aW, pMov, pBin, pUn, pConv, pPick, pFieldAddr, pNilCheck, pExtract, aBin, aUn, aInt, aNew, partL_f, upd, List.getElem?_cons_zero, List.getElem?_cons_succ, List.getD_cons_zero, List.getD_cons_succ, List.set_cons_zero, List.set_cons_succ, Nat.zero_add, Nat.add_zero, List.getElem?_toArray, List.take_zero, List.drop_zero, List.take_succ_cons, List.drop_succ_cons, if_true, if_false, decide_true, decide_false, Bool.false_eq_true, Bool.true_eq_false, Bool.not_true, Bool.not_false, not_true_eq_false, not_false_eq_true, ge_iff_le, gt_iff_lt, beq_self_eq_true, bne_self_eq_false, and_self, and_true, true_and, Option.isSome_some, Heap.get_alloc_same, Heap.alloc_getE, hv.len, *] | with_reducible refine cndK_d (fun hc => ?_) (fun hc => ?_) | with_reducible refine grdK_d (fun hc => ?_) (fun hc => ?_) | with_reducible refine cndK_i (fun hc => ?_) (fun hc => ?_) | with_reducible refine grdK_i (fun hc => ?_) (fun hc => ?_))
        all_goals first | exact fin | (exfalso; omega)

/-- Holds' closure -/
theorem holds1_c {v : Value} {l : List Ev} {h : Heap} (hv : Evs h v l) (hl63 : l.length ≤ 1000000) {i k : Nat} (hi : i < l.length) (hk : k < l.length) {a b : Nat} {ca cb : Bool} (ha : h.get a = some (.blk [v] ca)) (hb : h.get b = some (.blk [.int .i64 i] cb)) (Q : Value → Heap → Prop)
    (hq : ∀ v h', v = .bool (keeps l i k) → h.le h' → Q v h') : CallW Try.prog 35 [.int .i64 k, .pointer (some ⟨a, 0, none⟩), .pointer (some ⟨b, 0, none⟩)] h Q := by
  refine call_of1 (k := 3) ok35 rfl rfl rfl fun N => ?_
  rw [show env0 c35 [.int .i64 k, .pointer (some ⟨a, 0, none⟩), .pointer (some ⟨b, 0, none⟩)] = [.int .i64 k, .pointer (some ⟨a, 0, none⟩), .pointer (some ⟨b, 0, none⟩), undef] from rfl]
  delta c35 c35_r0 c35_r1
  replace hq := Hid.mk hq
  repeat' (first | simp -implicitDefEqProofs only [W_skip, W_reg, W_seq, W_rcond, W_cond, W_block, W_loop, W_exit, W_ret, thenQ_normal, thenQ_exit, thenQ_ret, blockQ_normal, blockQ_ret, blockQ_here, regQ_app, rcQ_app, cndK_t, cndK_f, RegW_nil, RegW_none, RegW_some, contW_app, grdK_tt, grdK_ff, grdK_tf, grdK_ft, grdK_undef, actK_p, actK_r, actK_a, actK_w, actK_call, actK_callV, heapK_app, allocK_app, writeK_app, ret1_ret, ret1_normal, ret0_ret, ret0_normal, ret2_ret2, thenK_app, retcv_ret, retcvK_app, optW_some, evs, Arg.ev, aP, aR, aA, aW, pMov, pBin, pUn, pConv, pPick, pFieldAddr, pNilCheck, pExtract, aBin, aUn, aInt, aNew, partL_f, upd, List.getElem?_cons_zero, List.getElem?_cons_succ, List.getD_cons_zero, List.getD_cons_succ, List.set_cons_zero, List.set_cons_succ, Nat.zero_add, Nat.add_zero, List.getElem?_toArray, List.take_zero, List.drop_zero, List.take_succ_cons, List.drop_succ_cons, if_true, if_false, decide_true, decide_false, Bool.false_eq_true, Bool.true_eq_false, Bool.not_true, Bool.not_false, not_true_eq_false, not_false_eq_true, ge_iff_le, gt_iff_lt, beq_self_eq_true, bne_self_eq_false, and_self, and_true, true_and, Option.isSome_some, Heap.get_alloc_same, Heap.alloc_getE, *] | with_reducible refine cndK_d (fun hc => ?_) (fun hc => ?_) | with_reducible refine grdK_d (fun hc => ?_) (fun hc => ?_) | with_reducible refine cndK_i (fun hc => ?_) (fun hc => ?_) | with_reducible refine grdK_i (fun hc => ?_) (fun hc => ?_))
  refine keeps_c hv (by omega) hi hk _ fun v1 h1 hv1 hl1 => ?_
  subst hv1
  repeat' (first | simp -implicitDefEqProofs only [W_skip, W_reg, W_seq, W_rcond, W_cond, W_block, W_loop, W_exit, W_ret, thenQ_normal, thenQ_exit, thenQ_ret, blockQ_normal, blockQ_ret, blockQ_here, regQ_app, rcQ_app, cndK_t, cndK_f, RegW_nil, RegW_none, RegW_some, contW_app, grdK_tt, grdK_ff, grdK_tf, grdK_ft, grdK_undef, actK_p, actK_r, actK_a, actK_w, actK_call, actK_callV, heapK_app, allocK_app, writeK_app, ret1_ret, ret1_normal, ret0_ret, ret0_normal, ret2_ret2, thenK_app, retcv_ret, retcvK_app, optW_some, evs, Arg.ev, aP, aR, aA, aW, pMov, pBin, pUn, pConv, pPick, pFieldAddr, pNilCheck, pExtract, aBin, aUn, aInt, aNew, partL_f, upd, List.getElem?_cons_zero, List.getElem?_cons_succ, List.getD_cons_zero, List.getD_cons_succ, List.set_cons_zero, List.set_cons_succ, Nat.zero_add, Nat.add_zero, List.getElem?_toArray, List.take_zero, List.drop_zero, List.take_succ_cons, List.drop_succ_cons, if_true, if_false, decide_true, decide_false, Bool.false_eq_true, Bool.true_eq_false, Bool.not_true, Bool.not_false, not_true_eq_false, not_false_eq_true, ge_iff_le, gt_iff_lt, beq_self_eq_true, bne_self_eq_false, and_self, and_true, true_and, Option.isSome_some, Heap.get_alloc_same, Heap.alloc_getE, *] | with_reducible refine cndK_d (fun hc => ?_) (fun hc => ?_) | with_reducible refine grdK_d (fun hc => ?_) (fun hc => ?_) | with_reducible refine cndK_i (fun hc => ?_) (fun hc => ?_) | with_reducible refine grdK_i (fun hc => ?_) (fun hc => ?_))
  exact hq.h _ _ rfl hl1

def holdsAt (l : List Ev) (o : List Int) (a : Nat) : Bool :=
  match o[a]? with
  | some i => !((o.take a).any fun k => keeps l i.toNat k.toNat) && !((l[i.toNat]?).any (fun e => e.kind == 1 && value l o i != e.n))
  | none => true
def holds (l : List Ev) (o : List Int) : Bool := right l && isOrder l o && (List.range o.length).all (holdsAt l o)

theorem Holds_c {v w : Value} {l : List Ev} {o : List Int} {h : Heap} (hv : Evs h v l) (hw : Ints h w o) (hl : l.length ≤ 1000000) (ho : o.length ≤ 12) (Q : Value → Heap → Prop)
    (hq : ∀ v h', v = .bool (holds l o) → h.le h' → Q v h') : CallW Try.prog 19 [v, w] h Q := by
  refine call_of1 (k := 3) ok19 rfl rfl rfl fun N => ?_
  rw [show env0 c19 [v, w] = [v, w, undef, undef, undef, undef, undef, undef, undef, undef] from rfl]
  delta c19 c19_r0 c19_r1 c19_r2 c19_r3 c19_r4 c19_r5 c19_r6 c19_r7 c19_r8 c19_r9 c19_r10 c19_r12
  replace hq := Hid.mk hq
  have bx := aBox_slice hv
  obtain ⟨h0, hh0⟩ : ∃ x, h.alloc (.blk [v] true) = x := ⟨_, rfl⟩
  have hl0 : h.le h0 := by rw [← hh0]; exact (Heap.le.refl h).alloc _
  have g0 : h0.get h.next = some (.blk [v] true) := by rw [← hh0]; exact Heap.get_alloc_same _ _
  repeat' (first | simp -implicitDefEqProofs only [W_skip, W_reg, W_seq, W_rcond, W_cond, W_block, W_loop, W_exit, W_ret, thenQ_normal, thenQ_exit, thenQ_ret, blockQ_normal, blockQ_ret, blockQ_here, regQ_app, rcQ_app, cndK_t, cndK_f, RegW_nil, RegW_none, RegW_some, contW_app, grdK_tt, grdK_ff, grdK_tf, grdK_ft, grdK_undef, actK_p, actK_r, actK_a, actK_w, actK_call, actK_callV, heapK_app, allocK_app, writeK_app, ret1_ret, ret1_normal, ret0_ret, ret0_normal, ret2_ret2, thenK_app, retcv_ret, retcvK_app, optW_some, evs, Arg.ev, aP, aR, aA, aW, pMov, pBin, pUn, pConv, pPick, pFieldAddr, pNilCheck, pExtract, aBin, aUn, aInt, aNew, partL_f, upd, List.getElem?_cons_zero, List.getElem?_cons_succ, List.getD_cons_zero, List.getD_cons_succ, List.set_cons_zero, List.set_cons_succ, Nat.zero_add, Nat.add_zero, List.getElem?_toArray, List.take_zero, List.drop_zero, List.take_succ_cons, List.drop_succ_cons, if_true, if_false, decide_true, decide_false, Bool.false_eq_true, Bool.true_eq_false, Bool.not_true, Bool.not_false, not_true_eq_false, not_false_eq_true, ge_iff_le, gt_iff_lt, beq_self_eq_true, bne_self_eq_false, and_self, and_true, true_and, Option.isSome_some, Heap.get_alloc_same, Heap.alloc_getE, *] | with_reducible refine cndK_d (fun hc => ?_) (fun hc => ?_) | with_reducible refine grdK_d (fun hc => ?_) (fun hc => ?_) | with_reducible refine cndK_i (fun hc => ?_) (fun hc => ?_) | with_reducible refine grdK_i (fun hc => ?_) (fun hc => ?_))
  refine right_c (hv.mono hl0) (by omega) _ fun v1 h1 hv1 hl1 => ?_
  subst hv1
  have bad : ∀ h', h.le h' → holds l o = false → Q (.bool false) h' := fun h' hl e => hq.h _ h' (by rw [e]) hl
  replace bad := Hid.mk bad
  have g1 := hl1.get g0
  cases hr : right l with
  | false =>
    repeat' (first | simp -implicitDefEqProofs only [W_skip, W_reg, W_seq, W_rcond, W_cond, W_block, W_loop, W_exit, W_ret, thenQ_normal, thenQ_exit, thenQ_ret, blockQ_normal, blockQ_ret, blockQ_here, regQ_app, rcQ_app, cndK_t, cndK_f, RegW_nil, RegW_none, RegW_some, contW_app, grdK_tt, grdK_ff, grdK_tf, grdK_ft, grdK_undef, actK_p, actK_r, actK_a, actK_w, actK_call, actK_callV, heapK_app, allocK_app, writeK_app, ret1_ret, ret1_normal, ret0_ret, ret0_normal, ret2_ret2, thenK_app, retcv_ret, retcvK_app, optW_some, evs, Arg.ev, aP, aR, aA, aW, pMov, pBin, pUn, pConv, pPick, pFieldAddr, pNilCheck, pExtract, aBin, aUn, aInt, aNew, partL_f, upd, List.getElem?_cons_zero, List.getElem?_cons_succ, List.getD_cons_zero, List.getD_cons_succ, List.set_cons_zero, List.set_cons_succ, Nat.zero_add, Nat.add_zero, List.getElem?_toArray, List.take_zero, List.drop_zero, List.take_succ_cons, List.drop_succ_cons, if_true, if_false, decide_true, decide_false, Bool.false_eq_true, Bool.true_eq_false, Bool.not_true, Bool.not_false, not_true_eq_false, not_false_eq_true, ge_iff_le, gt_iff_lt, beq_self_eq_true, bne_self_eq_false, and_self, and_true, true_and, Option.isSome_some, Heap.get_alloc_same, Heap.alloc_getE, *] | with_reducible refine cndK_d (fun hc => ?_) (fun hc => ?_) | with_reducible refine grdK_d (fun hc => ?_) (fun hc => ?_) | with_reducible refine cndK_i (fun hc => ?_) (fun hc => ?_) | with_reducible refine grdK_i (fun hc => ?_) (fun hc => ?_))
    exact bad.h _ (hl0.trans hl1) (by simp [holds, hr])
  | true =>
    repeat' (first | simp -implicitDefEqProofs only [W_skip, W_reg, W_seq, W_rcond, W_cond, W_block, W_loop, W_exit, W_ret, thenQ_normal, thenQ_exit, thenQ_ret, blockQ_normal, blockQ_ret, blockQ_here, regQ_app, rcQ_app, cndK_t, cndK_f, RegW_nil, RegW_none, RegW_some, contW_app, grdK_tt, grdK_ff, grdK_tf, grdK_ft, grdK_undef, actK_p, actK_r, actK_a, actK_w, actK_call, actK_callV, heapK_app, allocK_app, writeK_app, ret1_ret, ret1_normal, ret0_ret, ret0_normal, ret2_ret2, thenK_app, retcv_ret, retcvK_app, optW_some, evs, Arg.ev, aP, aR, aA, aW, pMov, pBin, pUn, pConv, pPick, pFieldAddr, pNilCheck, pExtract, aBin, aUn, aInt, aNew, partL_f, upd, List.getElem?_cons_zero, List.getElem?_cons_succ, List.getD_cons_zero, List.getD_cons_succ, List.set_cons_zero, List.set_cons_succ, Nat.zero_add, Nat.add_zero, List.getElem?_toArray, List.take_zero, List.drop_zero, List.take_succ_cons, List.drop_succ_cons, if_true, if_false, decide_true, decide_false, Bool.false_eq_true, Bool.true_eq_false, Bool.not_true, Bool.not_false, not_true_eq_false, not_false_eq_true, ge_iff_le, gt_iff_lt, beq_self_eq_true, bne_self_eq_false, and_self, and_true, true_and, Option.isSome_some, Heap.get_alloc_same, Heap.alloc_getE, *] | with_reducible refine cndK_d (fun hc => ?_) (fun hc => ?_) | with_reducible refine grdK_d (fun hc => ?_) (fun hc => ?_) | with_reducible refine cndK_i (fun hc => ?_) (fun hc => ?_) | with_reducible refine grdK_i (fun hc => ?_) (fun hc => ?_))
    refine isOrder_c (hv.mono (hl0.trans hl1)) (hw.mono (hl0.trans hl1)) hl ho _ fun v2 h2 hv2 hl2 => ?_
    subst hv2
    have g2 := hl2.get g1
    have hl02 := (hl0.trans hl1).trans hl2
    cases hor : isOrder l o with
    | false =>
      repeat' (first | simp -implicitDefEqProofs only [W_skip, W_reg, W_seq, W_rcond, W_cond, W_block, W_loop, W_exit, W_ret, thenQ_normal, thenQ_exit, thenQ_ret, blockQ_normal, blockQ_ret, blockQ_here, regQ_app, rcQ_app, cndK_t, cndK_f, RegW_nil, RegW_none, RegW_some, contW_app, grdK_tt, grdK_ff, grdK_tf, grdK_ft, grdK_undef, actK_p, actK_r, actK_a, actK_w, actK_call, actK_callV, heapK_app, allocK_app, writeK_app, ret1_ret, ret1_normal, ret0_ret, ret0_normal, ret2_ret2, thenK_app, retcv_ret, retcvK_app, optW_some, evs, Arg.ev, aP, aR, aA, aW, pMov, pBin, pUn, pConv, pPick, pFieldAddr, pNilCheck, pExtract, aBin, aUn, aInt, aNew, partL_f, upd, List.getElem?_cons_zero, List.getElem?_cons_succ, List.getD_cons_zero, List.getD_cons_succ, List.set_cons_zero, List.set_cons_succ, Nat.zero_add, Nat.add_zero, List.getElem?_toArray, List.take_zero, List.drop_zero, List.take_succ_cons, List.drop_succ_cons, if_true, if_false, decide_true, decide_false, Bool.false_eq_true, Bool.true_eq_false, Bool.not_true, Bool.not_false, not_true_eq_false, not_false_eq_true, ge_iff_le, gt_iff_lt, beq_self_eq_true, bne_self_eq_false, and_self, and_true, true_and, Option.isSome_some, Heap.get_alloc_same, Heap.alloc_getE, *] | with_reducible refine cndK_d (fun hc => ?_) (fun hc => ?_) | with_reducible refine grdK_d (fun hc => ?_) (fun hc => ?_) | with_reducible refine cndK_i (fun hc => ?_) (fun hc => ?_) | with_reducible refine grdK_i (fun hc => ?_) (fun hc => ?_))
      exact bad.h _ hl02 (by simp [holds, hor])
    | true =>
      have hin := isOrder_mem hor
      repeat' (first | simp -implicitDefEqProofs only [W_skip, W_reg, W_seq, W_rcond, W_cond, W_block, W_loop, W_exit, W_ret, thenQ_normal, thenQ_exit, thenQ_ret, blockQ_normal, blockQ_ret, blockQ_here, regQ_app, rcQ_app, cndK_t, cndK_f, RegW_nil, RegW_none, RegW_some, contW_app, grdK_tt, grdK_ff, grdK_tf, grdK_ft, grdK_undef, actK_p, actK_r, actK_a, actK_w, actK_call, actK_callV, heapK_app, allocK_app, writeK_app, ret1_ret, ret1_normal, ret0_ret, ret0_normal, ret2_ret2, thenK_app, retcv_ret, retcvK_app, optW_some, evs, Arg.ev, aP, aR, aA, aW, pMov, pBin, pUn, pConv, pPick, pFieldAddr, pNilCheck, pExtract, aBin, aUn, aInt, aNew, partL_f, upd, List.getElem?_cons_zero, List.getElem?_cons_succ, List.getD_cons_zero, List.getD_cons_succ, List.set_cons_zero, List.set_cons_succ, Nat.zero_add, Nat.add_zero, List.getElem?_toArray, List.take_zero, List.drop_zero, List.take_succ_cons, List.drop_succ_cons, if_true, if_false, decide_true, decide_false, Bool.false_eq_true, Bool.true_eq_false, Bool.not_true, Bool.not_false, not_true_eq_false, not_false_eq_true, ge_iff_le, gt_iff_lt, beq_self_eq_true, bne_self_eq_false, and_self, and_true, true_and, Option.isSome_some, Heap.get_alloc_same, Heap.alloc_getE, hw.len, *] | with_reducible refine cndK_d (fun hc => ?_) (fun hc => ?_) | with_reducible refine grdK_d (fun hc => ?_) (fun hc => ?_) | with_reducible refine cndK_i (fun hc => ?_) (fun hc => ?_) | with_reducible refine grdK_i (fun hc => ?_) (fun hc => ?_))
      refine LoopW.upto o.length (fun i e h1 => h2.le h1 ∧ (List.range i).all (holdsAt l o) = true ∧ ∃ x3 x4 x5 x9, e = [v, w, .pointer (some ⟨h.next, 0, none⟩), x3, x4, x5, w, .int .i64 o.length, .int .i64 i, x9]) ?_ (Nat.zero_le _) ⟨Heap.le.refl _, rfl, _, _, _, _, rfl⟩
      clear hh0 g0 hl0 hl1 hl2 g1
      rintro a _ h3 R hi ⟨hl3, hp, x3, x4, x5, x9, rfl⟩ hR
      have g3 := hl3.get g2
      have hl03 := hl02.trans hl3
      delta c19_l11 c19_r0 c19_r1 c19_r2 c19_r3 c19_r4 c19_r5 c19_r6 c19_r7 c19_r8 c19_r9 c19_r10 c19_r12
      by_cases hlt : a < o.length
      · have hlt' : (a : Int) < o.length := by omega
        obtain ⟨i, hi'⟩ : ∃ e, o[a]? = some e := ⟨_, List.getElem?_eq_getElem hlt⟩
        obtain ⟨hi1, hi2⟩ := hin i (List.mem_of_getElem? hi')
        obtain ⟨i, rfl⟩ := Int.eq_ofNat_of_zero_le hi1
        have hil : i < l.length := by omega
        obtain ⟨e, he⟩ : ∃ e, l[i]? = some e := ⟨_, List.getElem?_eq_getElem hil⟩
        obtain ⟨id, off, cells, own, e1, e2, e3, _⟩ := (hw.mono hl03).elem hi'
        have hwr : IntKind.i64.wrap ((a : Int) + 1) = ((a + 1 : Nat) : Int) := by rw [wrapI (by omega) (by omega)]; rfl
        obtain ⟨w', p1, p2⟩ := SlV.partHi (hw.mono hl03) (b := a) (by simp; omega)
        have p3 : Ints h3 w' (o.take a) := by simpa [Ints, List.map_take] using p2
        obtain ⟨ip, hip⟩ : ∃ x, h3.next = x := ⟨_, rfl⟩
        obtain ⟨h4, hh4⟩ : ∃ x, h3.alloc (.blk [.int .i64 (i : Int)] true) = x := ⟨_, rfl⟩
        have hl4 : h3.le h4 := by rw [← hh4]; exact (Heap.le.refl _).alloc _
        have g4 : h4.get ip = some (.blk [.int .i64 (i : Int)] true) := by rw [← hh4, ← hip]; exact Heap.get_alloc_same _ _
        have g5 := hl4.get g3
        have sn : wStore 1 (h3.alloc (.blk [.int .i64 0] true)) [.pointer (some ⟨ip, 0, none⟩), .int .i64 (i : Int)] = some (undef, h4) := by rw [← hip, ← hh4]; exact wStore_new rfl rfl rfl rfl
        repeat' (first | simp -implicitDefEqProofs only [W_skip, W_reg, W_seq, W_rcond, W_cond, W_block, W_loop, W_exit, W_ret, thenQ_normal, thenQ_exit, thenQ_ret, blockQ_normal, blockQ_ret, blockQ_here, regQ_app, rcQ_app, cndK_t, cndK_f, RegW_nil, RegW_none, RegW_some, contW_app, grdK_tt, grdK_ff, grdK_tf, grdK_ft, grdK_undef, actK_p, actK_r, actK_a, actK_w, actK_call, actK_callV, heapK_app, allocK_app, writeK_app, ret1_ret, ret1_normal, ret0_ret, ret0_normal, ret2_ret2, thenK_app, retcv_ret, retcvK_app, optW_some, evs, Arg.ev, aP, aR, aA, aW, pMov, pBin, pUn, pConv, pPick, pFieldAddr, pNilCheck, pExtract, aBin, aUn, aInt, aNew, partL_f, upd, List.getElem?_cons_zero, List.getElem?_cons_succ, List.getD_cons_zero, List.getD_cons_succ, List.set_cons_zero, List.set_cons_succ, Nat.zero_add, Nat.add_zero, List.getElem?_toArray, List.take_zero, List.drop_zero, List.take_succ_cons, List.drop_succ_cons, if_true, if_false, decide_true, decide_false, Bool.false_eq_true, Bool.true_eq_false, Bool.not_true, Bool.not_false, not_true_eq_false, not_false_eq_true, ge_iff_le, gt_iff_lt, beq_self_eq_true, bne_self_eq_false, and_self, and_true, true_and, Option.isSome_some, Heap.get_alloc_same, Heap.alloc_getE, *] | with_reducible refine cndK_d (fun hc => ?_) (fun hc => ?_) | with_reducible refine grdK_d (fun hc => ?_) (fun hc => ?_) | with_reducible refine cndK_i (fun hc => ?_) (fun hc => ?_) | with_reducible refine grdK_i (fun hc => ?_) (fun hc => ?_))
        refine containsInt_c (p := fun k => keeps l i k.toNat) (p3.mono hl4) (Heap.le.refl _) (by simp; omega) (fun k hk h5 Q1 hl5 hq1 => by
          obtain ⟨hk1, hk2⟩ := hin k (List.mem_of_mem_take hk)
          obtain ⟨k, rfl⟩ := Int.eq_ofNat_of_zero_le hk1
          exact CallW.val (first := #[]) (captured := #[_, _]) (holds1_c (hv.mono ((hl03.trans hl4).trans hl5)) hl hil (by omega) (hl5.get g5) (hl5.get g4) Q1 (by simpa using hq1))) _ fun v5 h5 hv5 hl5 => ?_
        subst hv5
        cases hany : (o.take a).any fun k => keeps l i k.toNat with
        | true =>
          repeat' (first | simp -implicitDefEqProofs only [W_skip, W_reg, W_seq, W_rcond, W_cond, W_block, W_loop, W_exit, W_ret, thenQ_normal, thenQ_exit, thenQ_ret, blockQ_normal, blockQ_ret, blockQ_here, regQ_app, rcQ_app, cndK_t, cndK_f, RegW_nil, RegW_none, RegW_some, contW_app, grdK_tt, grdK_ff, grdK_tf, grdK_ft, grdK_undef, actK_p, actK_r, actK_a, actK_w, actK_call, actK_callV, heapK_app, allocK_app, writeK_app, ret1_ret, ret1_normal, ret0_ret, ret0_normal, ret2_ret2, thenK_app, retcv_ret, retcvK_app, optW_some, evs, Arg.ev, aP, aR, aA, aW, pMov, pBin, pUn, pConv, pPick, pFieldAddr, pNilCheck, pExtract, aBin, aUn, aInt, aNew, partL_f, upd, List.getElem?_cons_zero, List.getElem?_cons_succ, List.getD_cons_zero, List.getD_cons_succ, List.set_cons_zero, List.set_cons_succ, Nat.zero_add, Nat.add_zero, List.getElem?_toArray, List.take_zero, List.drop_zero, List.take_succ_cons, List.drop_succ_cons, if_true, if_false, decide_true, decide_false, Bool.false_eq_true, Bool.true_eq_false, Bool.not_true, Bool.not_false, not_true_eq_false, not_false_eq_true, ge_iff_le, gt_iff_lt, beq_self_eq_true, bne_self_eq_false, and_self, and_true, true_and, Option.isSome_some, Heap.get_alloc_same, Heap.alloc_getE, *] | with_reducible refine cndK_d (fun hc => ?_) (fun hc => ?_) | with_reducible refine grdK_d (fun hc => ?_) (fun hc => ?_) | with_reducible refine cndK_i (fun hc => ?_) (fun hc => ?_) | with_reducible refine grdK_i (fun hc => ?_) (fun hc => ?_))
          refine bad.h _ ((hl03.trans hl4).trans hl5) ?_
          have : holdsAt l o a = false := by simp only [holdsAt, hi', Int.toNat_natCast, hany]; rfl
          have hn : ((List.range o.length).all (holdsAt l o)) = false := by
            rw [List.all_eq_false]; exact ⟨a, by simpa using hlt, by simp [this]⟩
          simp only [holds, hn, Bool.and_false]
        | false =>
          have g6 := hl5.get g5
          have g7 := hl5.get g4
          obtain ⟨id, off, cells, own, f1, f2, f3, f4, f5, f6, f7⟩ := (hv.mono ((hl03.trans hl4).trans hl5)).elem he
          have hp' := hp
          clear e1 e2 e3 g4 g5 hh4 hip sn hp hor
          have hat : holdsAt l o a = !(e.kind == 1 && value l o i != e.n) := by simp only [holdsAt, hi', Int.toNat_natCast, hany, he, Option.any_some]; simp
          have go : (e.kind == 1 && value l o i != e.n) = false → ∀ h', h2.le h' → ∀ x3 x4 x5 x9, R [v, w, .pointer (some ⟨h.next, 0, none⟩), x3, x4, x5, w, .int .i64 o.length, .int .i64 ((a + 1 : Nat) : Int), x9] h' := by
            intro hh h' hl' x3 x4 x5 x9
            refine hR.h _ _ hlt ⟨hl', ?_, _, _, _, _, rfl⟩
            rw [List.range_succ, List.all_append, hp']
            simp only [List.all_cons, List.all_nil, hat, hh]; rfl
          have no : (e.kind == 1 && value l o i != e.n) = true → holds l o = false := by
            intro hh
            have hn : ((List.range o.length).all (holdsAt l o)) = false := by
              rw [List.all_eq_false]; exact ⟨a, by simpa using hlt, by simp [hat, hh]⟩
            simp only [holds, hn, Bool.and_false]
          clear hat hany
          replace go := Hid.mk go
          replace no := Hid.mk no
          cases hk : (e.kind == 1) with
          | false =>
            repeat' (first | simp -implicitDefEqProofs only [W_skip, W_reg, W_seq, W_rcond, W_cond, W_block, W_loop, W_exit, W_ret, thenQ_normal, thenQ_exit, thenQ_ret, blockQ_normal, blockQ_ret, blockQ_here, regQ_app, rcQ_app, cndK_t, cndK_f, RegW_nil, RegW_none, RegW_some, contW_app, grdK_tt, grdK_ff, grdK_tf, grdK_ft, grdK_undef, actK_p, actK_r, actK_a, actK_w, actK_call, actK_callV, heapK_app, allocK_app, writeK_app, ret1_ret, ret1_normal, ret0_ret, ret0_normal, ret2_ret2, thenK_app, retcv_ret, retcvK_app, optW_some, evs, Arg.ev, aP, aR, aA, aW, pMov, pBin, pUn, pConv, pPick, pFieldAddr, pNilCheck, pExtract, aBin, aUn, aInt, aNew, partL_f, upd, List.getElem?_cons_zero, List.getElem?_cons_succ, List.getD_cons_zero, List.getD_cons_succ, List.set_cons_zero, List.set_cons_succ, Nat.zero_add, Nat.add_zero, List.getElem?_toArray, List.take_zero, List.drop_zero, List.take_succ_cons, List.drop_succ_cons, if_true, if_false, decide_true, decide_false, Bool.false_eq_true, Bool.true_eq_false, Bool.not_true, Bool.not_false, not_true_eq_false, not_false_eq_true, ge_iff_le, gt_iff_lt, beq_self_eq_true, bne_self_eq_false, and_self, and_true, true_and, Option.isSome_some, Heap.get_alloc_same, Heap.alloc_getE, *] | with_reducible refine cndK_d (fun hc => ?_) (fun hc => ?_) | with_reducible refine grdK_d (fun hc => ?_) (fun hc => ?_) | with_reducible refine cndK_i (fun hc => ?_) (fun hc => ?_) | with_reducible refine grdK_i (fun hc => ?_) (fun hc => ?_))
            exact go.h (by rw [hk]; rfl) _ ((hl3.trans hl4).trans hl5) _ _ _ _
          | true =>
            repeat' (first | simp -implicitDefEqProofs only [W_skip, W_reg, W_seq, W_rcond, W_cond, W_block, W_loop, W_exit, W_ret, thenQ_normal, thenQ_exit, thenQ_ret, blockQ_normal, blockQ_ret, blockQ_here, regQ_app, rcQ_app, cndK_t, cndK_f, RegW_nil, RegW_none, RegW_some, contW_app, grdK_tt, grdK_ff, grdK_tf, grdK_ft, grdK_undef, actK_p, actK_r, actK_a, actK_w, actK_call, actK_callV, heapK_app, allocK_app, writeK_app, ret1_ret, ret1_normal, ret0_ret, ret0_normal, ret2_ret2, thenK_app, retcv_ret, retcvK_app, optW_some, evs, Arg.ev, aP, aR, aA, aW, pMov, pBin, pUn, pConv, pPick, pFieldAddr, pNilCheck, pExtract, aBin, aUn, aInt, aNew, partL_f, upd, List.getElem?_cons_zero, List.getElem?_cons_succ, List.getD_cons_zero, List.getD_cons_succ, List.set_cons_zero, List.set_cons_succ, Nat.zero_add, Nat.add_zero, List.getElem?_toArray, List.take_zero, List.drop_zero, List.take_succ_cons, List.drop_succ_cons, if_true, if_false, decide_true, decide_false, Bool.false_eq_true, Bool.true_eq_false, Bool.not_true, Bool.not_false, not_true_eq_false, not_false_eq_true, ge_iff_le, gt_iff_lt, beq_self_eq_true, bne_self_eq_false, and_self, and_true, true_and, Option.isSome_some, Heap.get_alloc_same, Heap.alloc_getE, *] | with_reducible refine cndK_d (fun hc => ?_) (fun hc => ?_) | with_reducible refine grdK_d (fun hc => ?_) (fun hc => ?_) | with_reducible refine cndK_i (fun hc => ?_) (fun hc => ?_) | with_reducible refine grdK_i (fun hc => ?_) (fun hc => ?_))
            refine value_c (hv.mono ((hl03.trans hl4).trans hl5)) (hw.mono ((hl03.trans hl4).trans hl5)) hl (by omega) hin hil _ fun v6 h6 hv6 hl6 => ?_
            subst hv6
            refine ⟨fun _ => hl6.ext, ?_⟩
            have g8 := hl6.get g6
            have g9 := hl6.get g7
            obtain ⟨id', off', cells', own', f1', f2', f3', f4', f5', f6', f7'⟩ := (hv.mono (((hl03.trans hl4).trans hl5).trans hl6)).elem he
            clear f1 f2 f3 f4 f5 f6 f7 g6 g7
            cases hne : (value l o i != e.n) with
            | true =>
              repeat' (first | simp -implicitDefEqProofs only [W_skip, W_reg, W_seq, W_rcond, W_cond, W_block, W_loop, W_exit, W_ret, thenQ_normal, thenQ_exit, thenQ_ret, blockQ_normal, blockQ_ret, blockQ_here, regQ_app, rcQ_app, cndK_t, cndK_f, RegW_nil, RegW_none, RegW_some, contW_app, grdK_tt, grdK_ff, grdK_tf, grdK_ft, grdK_undef, actK_p, actK_r, actK_a, actK_w, actK_call, actK_callV, heapK_app, allocK_app, writeK_app, ret1_ret, ret1_normal, ret0_ret, ret0_normal, ret2_ret2, thenK_app, retcv_ret, retcvK_app, optW_some, evs, Arg.ev, aP, aR, aA, aW, pMov, pBin, pUn, pConv, pPick, pFieldAddr, pNilCheck, pExtract, aBin, aUn, aInt, aNew, partL_f, upd, List.getElem?_cons_zero, List.getElem?_cons_succ, List.getD_cons_zero, List.getD_cons_succ, List.set_cons_zero, List.set_cons_succ, Nat.zero_add, Nat.add_zero, List.getElem?_toArray, List.take_zero, List.drop_zero, List.take_succ_cons, List.drop_succ_cons, if_true, if_false, decide_true, decide_false, Bool.false_eq_true, Bool.true_eq_false, Bool.not_true, Bool.not_false, not_true_eq_false, not_false_eq_true, ge_iff_le, gt_iff_lt, beq_self_eq_true, bne_self_eq_false, and_self, and_true, true_and, Option.isSome_some, Heap.get_alloc_same, Heap.alloc_getE, *] | with_reducible refine cndK_d (fun hc => ?_) (fun hc => ?_) | with_reducible refine grdK_d (fun hc => ?_) (fun hc => ?_) | with_reducible refine cndK_i (fun hc => ?_) (fun hc => ?_) | with_reducible refine grdK_i (fun hc => ?_) (fun hc => ?_))
              exact bad.h _ (((hl03.trans hl4).trans hl5).trans hl6) (no.h (by rw [hk, hne]; rfl))
            | false =>
              repeat' (first | simp -implicitDefEqProofs only [W_skip, W_reg, W_seq, W_rcond, W_cond, W_block, W_loop, W_exit, W_ret, thenQ_normal, thenQ_exit, thenQ_ret, blockQ_normal, blockQ_ret, blockQ_here, regQ_app, rcQ_app, cndK_t, cndK_f, RegW_nil, RegW_none, RegW_some, contW_app, grdK_tt, grdK_ff, grdK_tf, grdK_ft, grdK_undef, actK_p, actK_r, actK_a, actK_w, actK_call, actK_callV, heapK_app, allocK_app, writeK_app, ret1_ret, ret1_normal, ret0_ret, ret0_normal, ret2_ret2, thenK_app, retcv_ret, retcvK_app, optW_some, evs, Arg.ev, aP, aR, aA, aW, pMov, pBin, pUn, pConv, pPick, pFieldAddr, pNilCheck, pExtract, aBin, aUn, aInt, aNew, partL_f, upd, List.getElem?_cons_zero, List.getElem?_cons_succ, List.getD_cons_zero, List.getD_cons_succ, List.set_cons_zero, List.set_cons_succ, Nat.zero_add, Nat.add_zero, List.getElem?_toArray, List.take_zero, List.drop_zero, List.take_succ_cons, List.drop_succ_cons, if_true, if_false, decide_true, decide_false, Bool.false_eq_true, Bool.true_eq_false, Bool.not_true, Bool.not_false, not_true_eq_false, not_false_eq_true, ge_iff_le, gt_iff_lt, beq_self_eq_true, bne_self_eq_false, and_self, and_true, true_and, Option.isSome_some, Heap.get_alloc_same, Heap.alloc_getE, *] | with_reducible refine cndK_d (fun hc => ?_) (fun hc => ?_) | with_reducible refine grdK_d (fun hc => ?_) (fun hc => ?_) | with_reducible refine cndK_i (fun hc => ?_) (fun hc => ?_) | with_reducible refine grdK_i (fun hc => ?_) (fun hc => ?_))
              exact go.h (by rw [hk, hne]; rfl) _ (((hl3.trans hl4).trans hl5).trans hl6) _ _ _ _
      · have hlt' : ¬ (a : Int) < o.length := by omega
        have : a = o.length := by omega
        subst this
        replace hp := Hid.mk hp
        repeat' (first | simp -implicitDefEqProofs only [W_skip, W_reg, W_seq, W_rcond, W_cond, W_block, W_loop, W_exit, W_ret, thenQ_normal, thenQ_exit, thenQ_ret, blockQ_normal, blockQ_ret, blockQ_here, regQ_app, rcQ_app, cndK_t, cndK_f, RegW_nil, RegW_none, RegW_some, contW_app, grdK_tt, grdK_ff, grdK_tf, grdK_ft, grdK_undef, actK_p, actK_r, actK_a, actK_w, actK_call, actK_callV, heapK_app, allocK_app, writeK_app, ret1_ret, ret1_normal, ret0_ret, ret0_normal, ret2_ret2, thenK_app, retcv_ret, retcvK_app, optW_some, evs, Arg.ev, aP, aR, aA, aW, pMov, pBin, pUn, pConv, pPick, pFieldAddr, pNilCheck, pExtract, aBin, aUn, aInt, aNew, partL_f, upd, List.getElem?_cons_zero, List.getElem?_cons_succ, List.getD_cons_zero, List.getD_cons_succ, List.set_cons_zero, List.set_cons_succ, Nat.zero_add, Nat.add_zero, List.getElem?_toArray, List.take_zero, List.drop_zero, List.take_succ_cons, List.drop_succ_cons, if_true, if_false, decide_true, decide_false, Bool.false_eq_true, Bool.true_eq_false, Bool.not_true, Bool.not_false, not_true_eq_false, not_false_eq_true, ge_iff_le, gt_iff_lt, beq_self_eq_true, bne_self_eq_false, and_self, and_true, true_and, Option.isSome_some, Heap.get_alloc_same, Heap.alloc_getE, *] | with_reducible refine cndK_d (fun hc => ?_) (fun hc => ?_) | with_reducible refine grdK_d (fun hc => ?_) (fun hc => ?_) | with_reducible refine cndK_i (fun hc => ?_) (fun hc => ?_) | with_reducible refine grdK_i (fun hc => ?_) (fun hc => ?_))
        exact hq.h _ _ (by simp only [holds, hr, hor, hp.h]; rfl) hl03
end Go.Eng.Ax

set_option linter.unusedSimpArgs false
set_option linter.unusedVariables false
namespace Go.Eng.Ax
open Go Go.Eng Go.Proofs

structure St where
  p : Nat
  w0 : Int
  w1 : Int
  w2 : Int
  w3 : Int
  deriving DecidableEq
def St.cells (s : St) : List Value := [.int .u64 s.p, .int .i64 s.w0, .int .i64 s.w1, .int .i64 s.w2, .int .i64 s.w3]
def St.val (s : St) : Value := .agg #[.int .u64 s.p, .int .i64 s.w0, .int .i64 s.w1, .int .i64 s.w2, .int .i64 s.w3]
def St.get (s : St) : Nat → Int
  | 0 => s.w0
  | 1 => s.w1
  | 2 => s.w2
  | _ => s.w3
def St.put (s : St) (k : Nat) (z : Int) : St := match k with
  | 0 => { s with w0 := z }
  | 1 => { s with w1 := z }
  | 2 => { s with w2 := z }
  | _ => { s with w3 := z }
def St.mark (s : St) (i : Nat) : St := { s with p := s.p ||| 2 ^ i }
theorem St.box (e : St) : aBox [e.val] = some (e.cells, fun id => .pointer (some ⟨id, 0, none⟩)) := by simp [aBox, St.val, St.cells, Value.cells, Value.oneCell']
theorem St.part (e : St) : partL true 0 5 e.cells = some e.val := by simp [partL, St.val, St.cells]
theorem St.cells0 (e : St) : e.cells[0]? = some (.int .u64 e.p) := rfl
theorem Ev.new' (e : Ev) (h : Heap) : wStore 4 (h.alloc (.blk [.int .i64 0, .int .i64 0, .int .i64 0, .int .i64 0] true)) [.pointer (some ⟨h.next, 0, none⟩), e.val] = some (undef, h.alloc (.blk e.cells true)) :=
  wStore_new (by simp [Ev.val, Value.cells, Ev.cells]) rfl rfl rfl
theorem Ev.part' (e : Ev) : partL true 0 4 e.cells = some e.val := by simp [partL, Ev.val, Ev.cells]
theorem Ev.cells0 (e : Ev) : e.cells[0]? = some (.int .i64 e.hart) := rfl
theorem Ev.cells1 (e : Ev) : e.cells[1]? = some (.int .i64 e.kind) := rfl
theorem Ev.cells2 (e : Ev) : e.cells[2]? = some (.int .i64 e.at') := rfl
theorem Ev.cells3 (e : Ev) : e.cells[3]? = some (.int .i64 e.n) := rfl

theorem and1 {x : Nat} (hx : x < 2 ^ 64) : (BitVec.ofInt 64 (x : Int) &&& BitVec.ofInt 64 1).toNat = x % 2 := by
  have h1 : (BitVec.ofInt 64 1).toNat = 1 := by decide
  rw [BitVec.toNat_and, h1, BitVec.ofInt_natCast, BitVec.toNat_ofNat, Nat.mod_eq_of_lt hx, Nat.and_one_is_mod]
theorem bit_eq {p k : Nat} (hp : p < 2 ^ 64) (hk : k < 64) : IntKind.u64.wrap ((BitVec.ofInt IntKind.u64.bits ((p : Int).fdiv (2 ^ (min (k : Int).toNat IntKind.u64.bits))) &&& BitVec.ofInt IntKind.u64.bits 1).toNat : Int) = if p.testBit k then 1 else 0 := by
  have h1 : min (k : Int).toNat IntKind.u64.bits = k := by simp [IntKind.bits]; omega
  have h2 : (p : Int).fdiv (2 ^ k) = ((p >>> k : Nat) : Int) := by
    rw [Nat.shiftRight_eq_div_pow, Int.fdiv_eq_ediv_of_nonneg _ (Int.pow_nonneg (by omega))]
    simp
  rw [h1, h2]
  have hlt : p >>> k < 2 ^ 64 := by rw [Nat.shiftRight_eq_div_pow]; exact Nat.lt_of_le_of_lt (Nat.div_le_self _ _) hp
  show IntKind.u64.wrap ((BitVec.ofInt 64 ((p >>> k : Nat) : Int) &&& BitVec.ofInt 64 1).toNat : Int) = _
  rw [and1 hlt]
  have h4 : p.testBit k = decide ((p >>> k) % 2 = 1) := by
    rw [Nat.testBit, Nat.and_comm, Nat.and_one_is_mod]
    rcases Nat.mod_two_eq_zero_or_one (p >>> k) with e | e <;> simp [e]
  rw [h4]
  rcases Nat.mod_two_eq_zero_or_one (p >>> k) with e | e <;> rw [e] <;> decide
theorem bit0 {p k : Nat} (hp : p < 2 ^ 64) (hk : k < 64) (h : p.testBit k = false) : IntKind.u64.wrap ((BitVec.ofInt IntKind.u64.bits ((p : Int).fdiv (2 ^ (min (k : Int).toNat IntKind.u64.bits))) &&& BitVec.ofInt IntKind.u64.bits 1).toNat : Int) = 0 := by rw [bit_eq hp hk, h]; rfl
theorem bit1 {p k : Nat} (hp : p < 2 ^ 64) (hk : k < 64) (h : p.testBit k = true) : IntKind.u64.wrap ((BitVec.ofInt IntKind.u64.bits ((p : Int).fdiv (2 ^ (min (k : Int).toNat IntKind.u64.bits))) &&& BitVec.ofInt IntKind.u64.bits 1).toNat : Int) = 1 := by rw [bit_eq hp hk, h]; rfl

/-- of one's hart's stores ahead, the last one that is not placed yet -/
def pendTo (l : List Ev) (p i : Nat) : Nat → Option Int
  | 0 => none
  | k + 1 => match l[k]?, l[i]? with
    | some e, some ei => if e.hart == ei.hart && e.kind == 2 && e.at' == ei.at' && !p.testBit k then some e.n else pendTo l p i k
    | _, _ => none

theorem pending_c {v xm : Value} {l : List Ev} {h : Heap} (hv : Evs h v l) (hl : l.length ≤ 60) {xp : Nat} {xo : Bool} (hx : h.get xp = some (.blk [v, xm] xo)) (s : St) (hp : s.p < 2 ^ 64) {i : Nat} (hi : i < l.length) (Q : Value → Heap → Prop)
    (hq : ∀ h', h.le h' → Q (.tuple #[.int .i64 ((pendTo l s.p i i).getD 0), .bool (pendTo l s.p i i).isSome]) h') : CallW Try.prog 56 [.pointer (some ⟨xp, 0, none⟩), s.val, .int .i64 i] h Q := by
  obtain ⟨ei, hei⟩ : ∃ e, l[i]? = some e := ⟨_, List.getElem?_eq_getElem hi⟩
  refine call_of2 (k := 4) (j := 5) ok56 rfl rfl rfl fun N => ?_
  rw [show env0 c56 [.pointer (some ⟨xp, 0, none⟩), s.val, .int .i64 i] = [.pointer (some ⟨xp, 0, none⟩), s.val, .int .i64 i, undef, undef, undef, undef, undef] from rfl]
  delta c56 c56_r0 c56_r1 c56_r2 c56_r3 c56_r4 c56_r5 c56_r6 c56_r8
  replace hq := Hid.mk hq
  obtain ⟨h0, hh0⟩ : ∃ x, h.alloc (.blk s.cells true) = x := ⟨_, rfl⟩
  have hl0 : h.le h0 := by rw [← hh0]; exact (Heap.le.refl h).alloc _
  obtain ⟨sp, hsp⟩ : ∃ x, h.next = x := ⟨_, rfl⟩
  have g0 : h0.get sp = some (.blk s.cells true) := by rw [← hh0, ← hsp]; exact Heap.get_alloc_same _ _
  have hw0 : IntKind.i64.wrap ((i : Int) - 1) = (i : Int) - 1 := wrapI (by omega) (by omega)
  repeat' (first | simp -implicitDefEqProofs only [W_skip, W_reg, W_seq, W_rcond, W_cond, W_block, W_loop, W_exit, W_ret, thenQ_normal, thenQ_exit, thenQ_ret, blockQ_normal, blockQ_ret, blockQ_here, regQ_app, rcQ_app, cndK_t, cndK_f, RegW_nil, RegW_none, RegW_some, contW_app, grdK_tt, grdK_ff, grdK_tf, grdK_ft, grdK_undef, actK_p, actK_r, actK_a, actK_w, actK_call, actK_callV, heapK_app, allocK_app, writeK_app, ret1_ret, ret1_normal, ret0_ret, ret0_normal, ret2_ret2, thenK_app, retcv_ret, retcvK_app, optW_some, evs, Arg.ev, aP, aR, aA, aW, pMov, pBin, pUn, pConv, pPick, pFieldAddr, pNilCheck, pExtract, aBin, aUn, aInt, aNew, partL_f, upd, List.getElem?_cons_zero, List.getElem?_cons_succ, List.getD_cons_zero, List.getD_cons_succ, List.set_cons_zero, List.set_cons_succ, Nat.zero_add, Nat.add_zero, List.getElem?_toArray, List.take_zero, List.drop_zero, List.take_succ_cons, List.drop_succ_cons, if_true, if_false, decide_true, decide_false, Bool.false_eq_true, Bool.true_eq_false, Bool.not_true, Bool.not_false, not_true_eq_false, not_false_eq_true, ge_iff_le, gt_iff_lt, beq_self_eq_true, bne_self_eq_false, and_self, and_true, true_and, Option.isSome_some, Heap.get_alloc_same, Heap.alloc_getE, St.box, *] | with_reducible refine cndK_d (fun hc => ?_) (fun hc => ?_) | with_reducible refine grdK_d (fun hc => ?_) (fun hc => ?_) | with_reducible refine cndK_i (fun hc => ?_) (fun hc => ?_) | with_reducible refine grdK_i (fun hc => ?_) (fun hc => ?_))
  refine LoopW.down (fun k e h1 => k ≤ i ∧ h0.le h1 ∧ pendTo l s.p i i = pendTo l s.p i k ∧ ∃ x7, e = [.pointer (some ⟨xp, 0, none⟩), s.val, .int .i64 i, .pointer (some ⟨sp, 0, none⟩), .int .i64 0, .bool false, .int .i64 ((k : Int) - 1), x7]) ?_ ⟨Nat.le_refl _, Heap.le.refl _, rfl, _, rfl⟩
  rintro k _ h1 R ⟨hk, hl1, hpe, x7, rfl⟩ hR
  have hl01 := hl0.trans hl1
  have g1 := hl1.get g0
  have gx := hl01.get hx
  delta c56_l7 c56_r0 c56_r1 c56_r2 c56_r3 c56_r4 c56_r5 c56_r6 c56_r8
  clear hh0 hsp g0 hx
  cases k with
  | zero =>
    have hi3 : ¬ (0 : Int) ≤ ((0 : Nat) : Int) - 1 := by omega
    repeat' (first | simp -implicitDefEqProofs only [W_skip, W_reg, W_seq, W_rcond, W_cond, W_block, W_loop, W_exit, W_ret, thenQ_normal, thenQ_exit, thenQ_ret, blockQ_normal, blockQ_ret, blockQ_here, regQ_app, rcQ_app, cndK_t, cndK_f, RegW_nil, RegW_none, RegW_some, contW_app, grdK_tt, grdK_ff, grdK_tf, grdK_ft, grdK_undef, actK_p, actK_r, actK_a, actK_w, actK_call, actK_callV, heapK_app, allocK_app, writeK_app, ret1_ret, ret1_normal, ret0_ret, ret0_normal, ret2_ret2, thenK_app, retcv_ret, retcvK_app, optW_some, evs, Arg.ev, aP, aR, aA, aW, pMov, pBin, pUn, pConv, pPick, pFieldAddr, pNilCheck, pExtract, aBin, aUn, aInt, aNew, partL_f, upd, List.getElem?_cons_zero, List.getElem?_cons_succ, List.getD_cons_zero, List.getD_cons_succ, List.set_cons_zero, List.set_cons_succ, Nat.zero_add, Nat.add_zero, List.getElem?_toArray, List.take_zero, List.drop_zero, List.take_succ_cons, List.drop_succ_cons, if_true, if_false, decide_true, decide_false, Bool.false_eq_true, Bool.true_eq_false, Bool.not_true, Bool.not_false, not_true_eq_false, not_false_eq_true, ge_iff_le, gt_iff_lt, beq_self_eq_true, bne_self_eq_false, and_self, and_true, true_and, Option.isSome_some, Heap.get_alloc_same, Heap.alloc_getE, *] | with_reducible refine cndK_d (fun hc => ?_) (fun hc => ?_) | with_reducible refine grdK_d (fun hc => ?_) (fun hc => ?_) | with_reducible refine cndK_i (fun hc => ?_) (fun hc => ?_) | with_reducible refine grdK_i (fun hc => ?_) (fun hc => ?_))
    have := hq.h h1 hl01
    rw [hpe] at this
    exact this
  | succ k =>
    have hi2 : ((k + 1 : Nat) : Int) - 1 = (k : Int) := by omega
    have hi3 : (0 : Int) ≤ (k : Int) := by omega
    rw [hi2]
    obtain ⟨ek, hek⟩ : ∃ e, l[k]? = some e := ⟨_, List.getElem?_eq_getElem (by omega)⟩
    obtain ⟨id, off, cells, own, e1, e2, e3, _⟩ := (hv.mono hl01).elem hek
    obtain ⟨id', off', cells', own', f1, f2, f3, f4, f5, f6, f7⟩ := (hv.mono hl01).elem hei
    have hwr : IntKind.i64.wrap ((k : Int) - 1) = (k : Int) - 1 := wrapI (by omega) (by omega)
    have nk : ¬ (k : Int) < 0 := by omega
    obtain ⟨h2, hh2⟩ : ∃ x, h1.alloc (.blk ek.cells true) = x := ⟨_, rfl⟩
    have hl2 : h1.le h2 := by rw [← hh2]; exact (Heap.le.refl _).alloc _
    obtain ⟨ep, hep⟩ : ∃ x, h1.next = x := ⟨_, rfl⟩
    have g2 : h2.get ep = some (.blk ek.cells true) := by rw [← hh2, ← hep]; exact Heap.get_alloc_same _ _
    have en := Ev.new' ek h1
    rw [hh2, hep] at en
    have m1 := hl2.get g1
    have m2 := hl2.get gx
    have m3 := hl2.get f2
    replace hpe := Hid.mk hpe
    replace hi2 := Hid.mk hi2
    have go : (ek.hart == ei.hart && ek.kind == 2 && ek.at' == ei.at' && !s.p.testBit k) = false → ∀ x7, R [.pointer (some ⟨xp, 0, none⟩), s.val, .int .i64 i, .pointer (some ⟨sp, 0, none⟩), .int .i64 0, .bool false, .int .i64 ((k : Int) - 1), x7] h2 := fun hh x7 =>
      hR.h k _ _ (Nat.lt_succ_self k) ⟨by omega, hl1.trans hl2, by rw [hpe.h, pendTo, hek, hei]; simp only [hh]; rfl, _, rfl⟩
    have yes : (ek.hart == ei.hart && ek.kind == 2 && ek.at' == ei.at' && !s.p.testBit k) = true → pendTo l s.p i i = some ek.n := fun hh => by rw [hpe.h, pendTo, hek, hei]; simp only [hh]; rfl
    replace go := Hid.mk go
    replace yes := Hid.mk yes
    cases hbt : s.p.testBit k with
    | false =>
      have hb := bit0 hp (k := k) (by omega) hbt
      repeat' (first | simp -implicitDefEqProofs only [W_skip, W_reg, W_seq, W_rcond, W_cond, W_block, W_loop, W_exit, W_ret, thenQ_normal, thenQ_exit, thenQ_ret, blockQ_normal, blockQ_ret, blockQ_here, regQ_app, rcQ_app, cndK_t, cndK_f, RegW_nil, RegW_none, RegW_some, contW_app, grdK_tt, grdK_ff, grdK_tf, grdK_ft, grdK_undef, actK_p, actK_r, actK_a, actK_w, actK_call, actK_callV, heapK_app, allocK_app, writeK_app, ret1_ret, ret1_normal, ret0_ret, ret0_normal, ret2_ret2, thenK_app, retcv_ret, retcvK_app, optW_some, evs, Arg.ev, aP, aR, aA, aW, pMov, pBin, pUn, pConv, pPick, pFieldAddr, pNilCheck, pExtract, aBin, aUn, aInt, aNew, partL_f, upd, List.getElem?_cons_zero, List.getElem?_cons_succ, List.getD_cons_zero, List.getD_cons_succ, List.set_cons_zero, List.set_cons_succ, Nat.zero_add, Nat.add_zero, List.getElem?_toArray, List.take_zero, List.drop_zero, List.take_succ_cons, List.drop_succ_cons, if_true, if_false, decide_true, decide_false, Bool.false_eq_true, Bool.true_eq_false, Bool.not_true, Bool.not_false, not_true_eq_false, not_false_eq_true, ge_iff_le, gt_iff_lt, beq_self_eq_true, bne_self_eq_false, and_self, and_true, true_and, Option.isSome_some, Heap.get_alloc_same, Heap.alloc_getE, Ev.cells0, Ev.cells1, Ev.cells2, Ev.cells3, St.cells0, aShift, *] | with_reducible refine cndK_d (fun hc => ?_) (fun hc => ?_) | with_reducible refine grdK_d (fun hc => ?_) (fun hc => ?_) | with_reducible refine cndK_i (fun hc => ?_) (fun hc => ?_) | with_reducible refine grdK_i (fun hc => ?_) (fun hc => ?_))
      all_goals first
        | exact go.h (by simp [*]) _
        | (have h5 := hq.h h2 (hl01.trans hl2); rw [yes.h (by simp [*])] at h5; exact h5)
    | true =>
      have hb := bit1 hp (k := k) (by omega) hbt
      have h10 : ((1 : Int) == 0) = false := rfl
      repeat' (first | simp -implicitDefEqProofs only [W_skip, W_reg, W_seq, W_rcond, W_cond, W_block, W_loop, W_exit, W_ret, thenQ_normal, thenQ_exit, thenQ_ret, blockQ_normal, blockQ_ret, blockQ_here, regQ_app, rcQ_app, cndK_t, cndK_f, RegW_nil, RegW_none, RegW_some, contW_app, grdK_tt, grdK_ff, grdK_tf, grdK_ft, grdK_undef, actK_p, actK_r, actK_a, actK_w, actK_call, actK_callV, heapK_app, allocK_app, writeK_app, ret1_ret, ret1_normal, ret0_ret, ret0_normal, ret2_ret2, thenK_app, retcv_ret, retcvK_app, optW_some, evs, Arg.ev, aP, aR, aA, aW, pMov, pBin, pUn, pConv, pPick, pFieldAddr, pNilCheck, pExtract, aBin, aUn, aInt, aNew, partL_f, upd, List.getElem?_cons_zero, List.getElem?_cons_succ, List.getD_cons_zero, List.getD_cons_succ, List.set_cons_zero, List.set_cons_succ, Nat.zero_add, Nat.add_zero, List.getElem?_toArray, List.take_zero, List.drop_zero, List.take_succ_cons, List.drop_succ_cons, if_true, if_false, decide_true, decide_false, Bool.false_eq_true, Bool.true_eq_false, Bool.not_true, Bool.not_false, not_true_eq_false, not_false_eq_true, ge_iff_le, gt_iff_lt, beq_self_eq_true, bne_self_eq_false, and_self, and_true, true_and, Option.isSome_some, Heap.get_alloc_same, Heap.alloc_getE, Ev.cells0, Ev.cells1, Ev.cells2, Ev.cells3, St.cells0, aShift, *] | with_reducible refine cndK_d (fun hc => ?_) (fun hc => ?_) | with_reducible refine grdK_d (fun hc => ?_) (fun hc => ?_) | with_reducible refine cndK_i (fun hc => ?_) (fun hc => ?_) | with_reducible refine grdK_i (fun hc => ?_) (fun hc => ?_))
      all_goals exact go.h (by simp [*]) _
end Go.Eng.Ax

set_option linter.unusedSimpArgs false
set_option linter.unusedVariables false
namespace Go.Eng.Ax
open Go Go.Eng Go.Proofs

def blockedTo (l : List Ev) (p i m : Nat) : Bool := (List.range m).any fun k => (l[k]?).any Ev.acc && !p.testBit k && keeps l k i
def freeF (l : List Ev) (s : St) (i : Nat) : Option St :=
  if blockedTo l s.p i i then none else
  match l[i]? with
  | some e => if e.kind == 1 then (if (pendTo l s.p i i).getD (s.get e.at'.toNat) != e.n then none else some (s.mark i)) else some ((s.put e.at'.toNat e.n).mark i)
  | none => none

theorem St.getw {s : St} {a : Nat} (ha : a < 4) : s.cells[1 + a]? = some (.int .i64 (s.get a)) := by
  rcases a with _ | _ | _ | _ | a <;> first | rfl | omega
theorem St.setw {s : St} {a : Nat} (ha : a < 4) (z : Int) : s.cells.set (1 + a) (.int .i64 z) = (s.put a z).cells := by
  rcases a with _ | _ | _ | _ | a <;> first | rfl | omega
theorem St.setp (s : St) (i : Nat) : s.cells.set 0 (.int .u64 ((s.p ||| 2 ^ i : Nat) : Int)) = (s.mark i).cells := rfl
theorem wrapU {z : Int} (h1 : 0 ≤ z) (h2 : z < 18446744073709551616) : IntKind.u64.wrap z = z := by
  simp [IntKind.wrap, IntKind.signed, IntKind.bits]; omega
theorem shl_eq {i : Nat} (hi : i < 64) : IntKind.u64.wrap (1 * 2 ^ (min (i : Int).toNat IntKind.u64.bits)) = ((2 ^ i : Nat) : Int) := by
  have h1 : min (i : Int).toNat IntKind.u64.bits = i := by simp [IntKind.bits]; omega
  rw [h1, Int.one_mul]
  have h3 : 2 ^ i < 2 ^ 64 := Nat.pow_lt_pow_right (by omega) hi
  have h4 : 2 ^ i < 18446744073709551616 := h3
  have h2 : ((2 : Int) ^ i) = ((2 ^ i : Nat) : Int) := by simp
  rw [h2]
  generalize 2 ^ i = x at *
  exact wrapU (by omega) (by omega)
theorem or_eq {p i : Nat} (hp : p < 2 ^ 64) (hi : i < 64) : IntKind.u64.wrap ((BitVec.ofInt IntKind.u64.bits (p : Int) ||| BitVec.ofInt IntKind.u64.bits ((2 ^ i : Nat) : Int)).toNat : Int) = ((p ||| 2 ^ i : Nat) : Int) := by
  have h1 : 2 ^ i < 2 ^ 64 := Nat.pow_lt_pow_right (by omega) hi
  have h2 : p ||| 2 ^ i < 2 ^ 64 := Nat.or_lt_two_pow hp h1
  show IntKind.u64.wrap ((BitVec.ofInt 64 (p : Int) ||| BitVec.ofInt 64 ((2 ^ i : Nat) : Int)).toNat : Int) = _
  have h3 : p ||| 2 ^ i < 18446744073709551616 := h2
  rw [BitVec.toNat_or, BitVec.ofInt_natCast, BitVec.ofInt_natCast, BitVec.toNat_ofNat, BitVec.toNat_ofNat, Nat.mod_eq_of_lt hp, Nat.mod_eq_of_lt h1]
  generalize p ||| 2 ^ i = x at *
  exact wrapU (by omega) (by omega)
theorem blockedTo_succ (l : List Ev) (p i m : Nat) : blockedTo l p i (m + 1) = (blockedTo l p i m || ((l[m]?).any Ev.acc && !p.testBit m && keeps l m i)) := by
  simp [blockedTo, List.range_succ, List.any_append]
theorem blocked_mono {l : List Ev} {p i m n : Nat} (hmn : m ≤ n) (h : blockedTo l p i m = true) : blockedTo l p i n = true := by
  simp only [blockedTo, List.any_eq_true, List.mem_range] at *
  obtain ⟨k, h1, h2⟩ := h
  exact ⟨k, by omega, h2⟩
theorem put_p (s : St) (k : Nat) (z : Int) : (s.put k z).p = s.p := by
  rcases k with _ | _ | _ | k <;> rfl

theorem free_c {v xm : Value} {l : List Ev} {h : Heap} (hv : Evs h v l) (hl : l.length ≤ 60) {xp : Nat} {xo : Bool} (hx : h.get xp = some (.blk [v, xm] xo)) (s : St) (hp : s.p < 2 ^ 64) {i : Nat} (hi : i < l.length) {ei : Ev} (hei : l[i]? = some ei) {a : Nat} (hat : ei.at' = (a : Int)) (ha4 : a < 4) (Q : Value → Heap → Prop)
    (hq : ∀ h', h.le h' → Q (.tuple #[((freeF l s i).getD s).val, .bool (freeF l s i).isSome]) h') : CallW Try.prog 51 [.pointer (some ⟨xp, 0, none⟩), s.val, .int .i64 i] h Q := by
  refine call_ofcv (k := 4) (agg := true) (size := 5) (j := 5) ok51 rfl rfl rfl fun N => ?_
  rw [show env0 c51 [.pointer (some ⟨xp, 0, none⟩), s.val, .int .i64 i] = [.pointer (some ⟨xp, 0, none⟩), s.val, .int .i64 i, undef, undef, undef, undef, undef, undef, undef, undef, undef, undef] from rfl]
  delta c51 c51_r0 c51_r1 c51_r2 c51_r3 c51_r4 c51_r5 c51_r6 c51_r8 c51_r9 c51_r10 c51_r11 c51_r12 c51_r13 c51_r14 c51_r15 c51_r16 c51_r17
  replace hq := Hid.mk hq
  obtain ⟨sp, hsp⟩ : ∃ x, h.next = x := ⟨_, rfl⟩
  obtain ⟨rp, hrp⟩ : ∃ x, (h.alloc (.blk s.cells true)).next = x := ⟨_, rfl⟩
  have hrn : sp + 1 = rp := by rw [← hrp, ← hsp]; simp
  obtain ⟨h0, hh0⟩ : ∃ x, (h.alloc (.blk s.cells true)).alloc (.blk [.int .u64 0, .int .i64 0, .int .i64 0, .int .i64 0, .int .i64 0] true) = x := ⟨_, rfl⟩
  have hl0 : h.le h0 := by rw [← hh0]; exact ((Heap.le.refl h).alloc _).alloc _
  have g0 : h0.get sp = some (.blk s.cells true) := by rw [← hh0, ← hsp]; exact ((Heap.le.refl _).alloc _ : (h.alloc (.blk s.cells true)).le _).get (Heap.get_alloc_same _ _)
  have gr : h0.get rp = some (.blk [.int .u64 0, .int .i64 0, .int .i64 0, .int .i64 0, .int .i64 0] true) := by rw [← hh0, ← hrp]; exact Heap.get_alloc_same _ _
  have fin : ∀ h' (s' : St) b, h.le h' → freeF l s i = b → s' = b.getD s → Q (.tuple #[s'.val, .bool b.isSome]) (h'.set rp (.blk s'.cells true)) := fun h' s' b hl hf hs => by
    subst hf hs
    exact hq.h _ (hl.set (by omega) _)
  have stA : ∀ (h' : Heap) (s' : St), h'.get rp = some (.blk [.int .u64 0, .int .i64 0, .int .i64 0, .int .i64 0, .int .i64 0] true) → wStore 5 h' [.pointer (some ⟨rp, 0, none⟩), s'.val] = some (undef, h'.set rp (.blk s'.cells true)) := fun h' s' hg => wStore_all hg (by simp [St.val, Value.cells, St.cells]) rfl rfl rfl
  have gA : ∀ (h' : Heap) (s' : St), h'.get rp = some (.blk [.int .u64 0, .int .i64 0, .int .i64 0, .int .i64 0, .int .i64 0] true) → (h'.set rp (.blk s'.cells true)).get rp = some (.blk s'.cells true) := fun h' s' hg => Heap.set_getS _ _ _ (by rw [hg]; rfl)
  clear hq
  replace fin := Hid.mk fin
  replace stA := Hid.mk stA
  replace gA := Hid.mk gA
  repeat' (first | simp -implicitDefEqProofs only [W_skip, W_reg, W_seq, W_rcond, W_cond, W_block, W_loop, W_exit, W_ret, thenQ_normal, thenQ_exit, thenQ_ret, blockQ_normal, blockQ_ret, blockQ_here, regQ_app, rcQ_app, cndK_t, cndK_f, RegW_nil, RegW_none, RegW_some, contW_app, grdK_tt, grdK_ff, grdK_tf, grdK_ft, grdK_undef, actK_p, actK_r, actK_a, actK_w, actK_call, actK_callV, heapK_app, allocK_app, writeK_app, ret1_ret, ret1_normal, ret0_ret, ret0_normal, ret2_ret2, thenK_app, retcv_ret, retcvK_app, optW_some, evs, Arg.ev, aP, aR, aA, aW, pMov, pBin, pUn, pConv, pPick, pFieldAddr, pNilCheck, pExtract, aBin, aUn, aInt, aNew, partL_f, upd, List.getElem?_cons_zero, List.getElem?_cons_succ, List.getD_cons_zero, List.getD_cons_succ, List.set_cons_zero, List.set_cons_succ, Nat.zero_add, Nat.add_zero, List.getElem?_toArray, List.take_zero, List.drop_zero, List.take_succ_cons, List.drop_succ_cons, if_true, if_false, decide_true, decide_false, Bool.false_eq_true, Bool.true_eq_false, Bool.not_true, Bool.not_false, not_true_eq_false, not_false_eq_true, ge_iff_le, gt_iff_lt, beq_self_eq_true, bne_self_eq_false, and_self, and_true, true_and, Option.isSome_some, Heap.get_alloc_same, Heap.alloc_getE, St.box, *] | with_reducible refine cndK_d (fun hc => ?_) (fun hc => ?_) | with_reducible refine grdK_d (fun hc => ?_) (fun hc => ?_) | with_reducible refine cndK_i (fun hc => ?_) (fun hc => ?_) | with_reducible refine grdK_i (fun hc => ?_) (fun hc => ?_))
  refine LoopW.upto i (fun k e h1 => h0.le h1 ∧ blockedTo l s.p i k = false ∧ ∃ x6 x12, e = [.pointer (some ⟨xp, 0, none⟩), s.val, .int .i64 i, .pointer (some ⟨sp, 0, none⟩), .pointer (some ⟨rp, 0, none⟩), .bool false, x6, undef, undef, undef, .int .i64 i, .int .i64 k, x12]) ?_ (Nat.zero_le _) ⟨Heap.le.refl _, rfl, _, _, rfl⟩
  rintro k _ h1 R hk ⟨hl1, hbl, x6, x12, rfl⟩ hR
  have hl01 := hl0.trans hl1
  have g1 := hl1.get g0
  have gr1 := hl1.get gr
  have gx := hl01.get hx
  delta c51_l7 c51_r0 c51_r1 c51_r2 c51_r3 c51_r4 c51_r5 c51_r6 c51_r8 c51_r9 c51_r10 c51_r11 c51_r12 c51_r13 c51_r14 c51_r15 c51_r16 c51_r17
  clear hh0 hx hrp
  have hl63 : (l.length : Int) ≤ 9223372036854775807 := by omega
  by_cases hlt : k < i
  · have hlt' : (k : Int) < i := by omega
    have nk : ¬ (k : Int) < 0 := by omega
    obtain ⟨ek, hek⟩ : ∃ e, l[k]? = some e := ⟨_, List.getElem?_eq_getElem (by omega)⟩
    obtain ⟨id, off, cells, own, e1, e2, e3, _⟩ := (hv.mono hl01).elem hek
    have hwr : IntKind.i64.wrap ((k : Int) + 1) = ((k + 1 : Nat) : Int) := by rw [wrapI (by omega) (by omega)]; rfl
    have go : ((l[k]?).any Ev.acc && !s.p.testBit k && keeps l k i) = false → ∀ h' x6 x12, h0.le h' → R [.pointer (some ⟨xp, 0, none⟩), s.val, .int .i64 i, .pointer (some ⟨sp, 0, none⟩), .pointer (some ⟨rp, 0, none⟩), .bool false, x6, undef, undef, undef, .int .i64 i, .int .i64 ((k + 1 : Nat) : Int), x12] h' := fun hh h' x6 x12 hl' =>
      hR.h _ _ hlt ⟨hl', by rw [blockedTo_succ, hbl, hh]; rfl, _, _, rfl⟩
    have no : ((l[k]?).any Ev.acc && !s.p.testBit k && keeps l k i) = true → freeF l s i = none := fun hh => by
      have : blockedTo l s.p i i = true := blocked_mono (m := k + 1) (by omega) (by rw [blockedTo_succ, hh]; simp)
      simp only [freeF, this]; rfl
    replace go := Hid.mk go
    replace no := Hid.mk no
    repeat' (first | simp -implicitDefEqProofs only [W_skip, W_reg, W_seq, W_rcond, W_cond, W_block, W_loop, W_exit, W_ret, thenQ_normal, thenQ_exit, thenQ_ret, blockQ_normal, blockQ_ret, blockQ_here, regQ_app, rcQ_app, cndK_t, cndK_f, RegW_nil, RegW_none, RegW_some, contW_app, grdK_tt, grdK_ff, grdK_tf, grdK_ft, grdK_undef, actK_p, actK_r, actK_a, actK_w, actK_call, actK_callV, heapK_app, allocK_app, writeK_app, ret1_ret, ret1_normal, ret0_ret, ret0_normal, ret2_ret2, thenK_app, retcv_ret, retcvK_app, optW_some, evs, Arg.ev, aP, aR, aA, aW, pMov, pBin, pUn, pConv, pPick, pFieldAddr, pNilCheck, pExtract, aBin, aUn, aInt, aNew, partL_f, upd, List.getElem?_cons_zero, List.getElem?_cons_succ, List.getD_cons_zero, List.getD_cons_succ, List.set_cons_zero, List.set_cons_succ, Nat.zero_add, Nat.add_zero, List.getElem?_toArray, List.take_zero, List.drop_zero, List.take_succ_cons, List.drop_succ_cons, if_true, if_false, decide_true, decide_false, Bool.false_eq_true, Bool.true_eq_false, Bool.not_true, Bool.not_false, not_true_eq_false, not_false_eq_true, ge_iff_le, gt_iff_lt, beq_self_eq_true, bne_self_eq_false, and_self, and_true, true_and, Option.isSome_some, Heap.get_alloc_same, Heap.alloc_getE, *] | with_reducible refine cndK_d (fun hc => ?_) (fun hc => ?_) | with_reducible refine grdK_d (fun hc => ?_) (fun hc => ?_) | with_reducible refine cndK_i (fun hc => ?_) (fun hc => ?_) | with_reducible refine grdK_i (fun hc => ?_) (fun hc => ?_))
    refine isAccess_c ek _ _ fun v2 h2 hv2 hl2 => ?_
    subst hv2
    have g2 := hl2.get g1
    have gr2 := hl2.get gr1
    have gx2 := hl2.get gx
    clear g1 gr1 gx e1 e2 e3
    cases hea : ek.acc with
    | false =>
      repeat' (first | simp -implicitDefEqProofs only [W_skip, W_reg, W_seq, W_rcond, W_cond, W_block, W_loop, W_exit, W_ret, thenQ_normal, thenQ_exit, thenQ_ret, blockQ_normal, blockQ_ret, blockQ_here, regQ_app, rcQ_app, cndK_t, cndK_f, RegW_nil, RegW_none, RegW_some, contW_app, grdK_tt, grdK_ff, grdK_tf, grdK_ft, grdK_undef, actK_p, actK_r, actK_a, actK_w, actK_call, actK_callV, heapK_app, allocK_app, writeK_app, ret1_ret, ret1_normal, ret0_ret, ret0_normal, ret2_ret2, thenK_app, retcv_ret, retcvK_app, optW_some, evs, Arg.ev, aP, aR, aA, aW, pMov, pBin, pUn, pConv, pPick, pFieldAddr, pNilCheck, pExtract, aBin, aUn, aInt, aNew, partL_f, upd, List.getElem?_cons_zero, List.getElem?_cons_succ, List.getD_cons_zero, List.getD_cons_succ, List.set_cons_zero, List.set_cons_succ, Nat.zero_add, Nat.add_zero, List.getElem?_toArray, List.take_zero, List.drop_zero, List.take_succ_cons, List.drop_succ_cons, if_true, if_false, decide_true, decide_false, Bool.false_eq_true, Bool.true_eq_false, Bool.not_true, Bool.not_false, not_true_eq_false, not_false_eq_true, ge_iff_le, gt_iff_lt, beq_self_eq_true, bne_self_eq_false, and_self, and_true, true_and, Option.isSome_some, Heap.get_alloc_same, Heap.alloc_getE, *] | with_reducible refine cndK_d (fun hc => ?_) (fun hc => ?_) | with_reducible refine grdK_d (fun hc => ?_) (fun hc => ?_) | with_reducible refine cndK_i (fun hc => ?_) (fun hc => ?_) | with_reducible refine grdK_i (fun hc => ?_) (fun hc => ?_))
      exact go.h (by simp [hek, hea]) _ _ _ (hl1.trans hl2)
    | true =>
      cases hbt : s.p.testBit k with
      | true =>
        have hb := bit1 hp (k := k) (by omega) hbt
        have h10 : ((1 : Int) == 0) = false := rfl
        repeat' (first | simp -implicitDefEqProofs only [W_skip, W_reg, W_seq, W_rcond, W_cond, W_block, W_loop, W_exit, W_ret, thenQ_normal, thenQ_exit, thenQ_ret, blockQ_normal, blockQ_ret, blockQ_here, regQ_app, rcQ_app, cndK_t, cndK_f, RegW_nil, RegW_none, RegW_some, contW_app, grdK_tt, grdK_ff, grdK_tf, grdK_ft, grdK_undef, actK_p, actK_r, actK_a, actK_w, actK_call, actK_callV, heapK_app, allocK_app, writeK_app, ret1_ret, ret1_normal, ret0_ret, ret0_normal, ret2_ret2, thenK_app, retcv_ret, retcvK_app, optW_some, evs, Arg.ev, aP, aR, aA, aW, pMov, pBin, pUn, pConv, pPick, pFieldAddr, pNilCheck, pExtract, aBin, aUn, aInt, aNew, partL_f, upd, List.getElem?_cons_zero, List.getElem?_cons_succ, List.getD_cons_zero, List.getD_cons_succ, List.set_cons_zero, List.set_cons_succ, Nat.zero_add, Nat.add_zero, List.getElem?_toArray, List.take_zero, List.drop_zero, List.take_succ_cons, List.drop_succ_cons, if_true, if_false, decide_true, decide_false, Bool.false_eq_true, Bool.true_eq_false, Bool.not_true, Bool.not_false, not_true_eq_false, not_false_eq_true, ge_iff_le, gt_iff_lt, beq_self_eq_true, bne_self_eq_false, and_self, and_true, true_and, Option.isSome_some, Heap.get_alloc_same, Heap.alloc_getE, St.cells0, aShift, *] | with_reducible refine cndK_d (fun hc => ?_) (fun hc => ?_) | with_reducible refine grdK_d (fun hc => ?_) (fun hc => ?_) | with_reducible refine cndK_i (fun hc => ?_) (fun hc => ?_) | with_reducible refine grdK_i (fun hc => ?_) (fun hc => ?_))
        exact go.h (by simp [hbt]) _ _ _ (hl1.trans hl2)
      | false =>
        have hb := bit0 hp (k := k) (by omega) hbt
        repeat' (first | simp -implicitDefEqProofs only [W_skip, W_reg, W_seq, W_rcond, W_cond, W_block, W_loop, W_exit, W_ret, thenQ_normal, thenQ_exit, thenQ_ret, blockQ_normal, blockQ_ret, blockQ_here, regQ_app, rcQ_app, cndK_t, cndK_f, RegW_nil, RegW_none, RegW_some, contW_app, grdK_tt, grdK_ff, grdK_tf, grdK_ft, grdK_undef, actK_p, actK_r, actK_a, actK_w, actK_call, actK_callV, heapK_app, allocK_app, writeK_app, ret1_ret, ret1_normal, ret0_ret, ret0_normal, ret2_ret2, thenK_app, retcv_ret, retcvK_app, optW_some, evs, Arg.ev, aP, aR, aA, aW, pMov, pBin, pUn, pConv, pPick, pFieldAddr, pNilCheck, pExtract, aBin, aUn, aInt, aNew, partL_f, upd, List.getElem?_cons_zero, List.getElem?_cons_succ, List.getD_cons_zero, List.getD_cons_succ, List.set_cons_zero, List.set_cons_succ, Nat.zero_add, Nat.add_zero, List.getElem?_toArray, List.take_zero, List.drop_zero, List.take_succ_cons, List.drop_succ_cons, if_true, if_false, decide_true, decide_false, Bool.false_eq_true, Bool.true_eq_false, Bool.not_true, Bool.not_false, not_true_eq_false, not_false_eq_true, ge_iff_le, gt_iff_lt, beq_self_eq_true, bne_self_eq_false, and_self, and_true, true_and, Option.isSome_some, Heap.get_alloc_same, Heap.alloc_getE, St.cells0, aShift, *] | with_reducible refine cndK_d (fun hc => ?_) (fun hc => ?_) | with_reducible refine grdK_d (fun hc => ?_) (fun hc => ?_) | with_reducible refine cndK_i (fun hc => ?_) (fun hc => ?_) | with_reducible refine grdK_i (fun hc => ?_) (fun hc => ?_))
        refine keeps_c (hv.mono (hl01.trans hl2)) hl63 (by omega) hi _ fun v3 h3 hv3 hl3 => ?_
        subst hv3
        have g3 := hl3.get g2
        have gr3 := hl3.get gr2
        clear g2 gr2 gx2
        cases hke : keeps l k i with
        | false =>
          repeat' (first | simp -implicitDefEqProofs only [W_skip, W_reg, W_seq, W_rcond, W_cond, W_block, W_loop, W_exit, W_ret, thenQ_normal, thenQ_exit, thenQ_ret, blockQ_normal, blockQ_ret, blockQ_here, regQ_app, rcQ_app, cndK_t, cndK_f, RegW_nil, RegW_none, RegW_some, contW_app, grdK_tt, grdK_ff, grdK_tf, grdK_ft, grdK_undef, actK_p, actK_r, actK_a, actK_w, actK_call, actK_callV, heapK_app, allocK_app, writeK_app, ret1_ret, ret1_normal, ret0_ret, ret0_normal, ret2_ret2, thenK_app, retcv_ret, retcvK_app, optW_some, evs, Arg.ev, aP, aR, aA, aW, pMov, pBin, pUn, pConv, pPick, pFieldAddr, pNilCheck, pExtract, aBin, aUn, aInt, aNew, partL_f, upd, List.getElem?_cons_zero, List.getElem?_cons_succ, List.getD_cons_zero, List.getD_cons_succ, List.set_cons_zero, List.set_cons_succ, Nat.zero_add, Nat.add_zero, List.getElem?_toArray, List.take_zero, List.drop_zero, List.take_succ_cons, List.drop_succ_cons, if_true, if_false, decide_true, decide_false, Bool.false_eq_true, Bool.true_eq_false, Bool.not_true, Bool.not_false, not_true_eq_false, not_false_eq_true, ge_iff_le, gt_iff_lt, beq_self_eq_true, bne_self_eq_false, and_self, and_true, true_and, Option.isSome_some, Heap.get_alloc_same, Heap.alloc_getE, *] | with_reducible refine cndK_d (fun hc => ?_) (fun hc => ?_) | with_reducible refine grdK_d (fun hc => ?_) (fun hc => ?_) | with_reducible refine cndK_i (fun hc => ?_) (fun hc => ?_) | with_reducible refine grdK_i (fun hc => ?_) (fun hc => ?_))
          exact go.h (by simp [hke]) _ _ _ ((hl1.trans hl2).trans hl3)
        | true =>
          have st := stA.h h3 s gr3
          have gg := gA.h h3 s gr3
          repeat' (first | simp -implicitDefEqProofs only [W_skip, W_reg, W_seq, W_rcond, W_cond, W_block, W_loop, W_exit, W_ret, thenQ_normal, thenQ_exit, thenQ_ret, blockQ_normal, blockQ_ret, blockQ_here, regQ_app, rcQ_app, cndK_t, cndK_f, RegW_nil, RegW_none, RegW_some, contW_app, grdK_tt, grdK_ff, grdK_tf, grdK_ft, grdK_undef, actK_p, actK_r, actK_a, actK_w, actK_call, actK_callV, heapK_app, allocK_app, writeK_app, ret1_ret, ret1_normal, ret0_ret, ret0_normal, ret2_ret2, thenK_app, retcv_ret, retcvK_app, optW_some, evs, Arg.ev, aP, aR, aA, aW, pMov, pBin, pUn, pConv, pPick, pFieldAddr, pNilCheck, pExtract, aBin, aUn, aInt, aNew, partL_f, upd, List.getElem?_cons_zero, List.getElem?_cons_succ, List.getD_cons_zero, List.getD_cons_succ, List.set_cons_zero, List.set_cons_succ, Nat.zero_add, Nat.add_zero, List.getElem?_toArray, List.take_zero, List.drop_zero, List.take_succ_cons, List.drop_succ_cons, if_true, if_false, decide_true, decide_false, Bool.false_eq_true, Bool.true_eq_false, Bool.not_true, Bool.not_false, not_true_eq_false, not_false_eq_true, ge_iff_le, gt_iff_lt, beq_self_eq_true, bne_self_eq_false, and_self, and_true, true_and, Option.isSome_some, Heap.get_alloc_same, Heap.alloc_getE, St.part, *] | with_reducible refine cndK_d (fun hc => ?_) (fun hc => ?_) | with_reducible refine grdK_d (fun hc => ?_) (fun hc => ?_) | with_reducible refine cndK_i (fun hc => ?_) (fun hc => ?_) | with_reducible refine grdK_i (fun hc => ?_) (fun hc => ?_))
          exact fin.h h3 s none ((hl01.trans hl2).trans hl3) (no.h (by simp [hek, hea, hbt, hke])) rfl
  · have hlt' : ¬ (k : Int) < i := by omega
    have : k = i := by omega
    subst this
    obtain ⟨id, off, cells, own, e1, e2, e3, _⟩ := (hv.mono hl01).elem hei
    obtain ⟨ep, hep⟩ : ∃ x, h1.next = x := ⟨_, rfl⟩
    obtain ⟨h2, hh2⟩ : ∃ x, h1.alloc (.blk ei.cells true) = x := ⟨_, rfl⟩
    have hl2 : h1.le h2 := by rw [← hh2]; exact (Heap.le.refl _).alloc _
    have g2 : h2.get ep = some (.blk ei.cells true) := by rw [← hh2, ← hep]; exact Heap.get_alloc_same _ _
    have en := Ev.new' ei h1
    rw [hh2, hep] at en
    have m1 := hl2.get g1
    have m2 := hl2.get gx
    have m3 := hl2.get gr1
    have nk : ¬ (k : Int) < 0 := by omega
    have sh := shl_eq (i := k) (by omega)
    have oo := or_eq (i := k) hp (by omega)
    have c0 := Ev.cells0 ei
    have c1 := Ev.cells1 ei
    have c2 : ei.cells[2]? = some (.int .i64 (a : Int)) := by rw [Ev.cells2, hat]
    have c3 := Ev.cells3 ei
    have ia := idxA (n := 4) (id := sp) (o := 1) ha4
    have hspr : (sp == rp) = false := by simp; omega
    have hrps : (rp == sp) = false := by simp; omega
    replace hbl := Hid.mk hbl
    replace hat := Hid.mk hat
    -- the end: marked
    have tail : ∀ (h' : Heap) (s' : St), s'.p = s.p → h.le h' → h'.get sp = some (.blk s'.cells true) → h'.get rp = some (.blk [.int .u64 0, .int .i64 0, .int .i64 0, .int .i64 0, .int .i64 0] true) → freeF l s k = some (s'.mark k) →
        wStore 1 h' [.pointer (some ⟨sp, 0, none⟩), .int .u64 ((s.p ||| 2 ^ k : Nat) : Int)] = some (undef, h'.set sp (.blk (s'.mark k).cells true)) ∧
        (h'.set sp (.blk (s'.mark k).cells true)).get sp = some (.blk (s'.mark k).cells true) ∧
        wStore 5 (h'.set sp (.blk (s'.mark k).cells true)) [.pointer (some ⟨rp, 0, none⟩), (s'.mark k).val] = some (undef, (h'.set sp (.blk (s'.mark k).cells true)).set rp (.blk (s'.mark k).cells true)) ∧
        ((h'.set sp (.blk (s'.mark k).cells true)).set rp (.blk (s'.mark k).cells true)).get rp = some (.blk (s'.mark k).cells true) ∧
        Q (.tuple #[(s'.mark k).val, .bool true]) ((h'.set sp (.blk (s'.mark k).cells true)).set rp (.blk (s'.mark k).cells true)) := by
      intro h' s' hs' hl' hg hgr hf
      have hgr' : (h'.set sp (.blk (s'.mark k).cells true)).get rp = some (.blk [.int .u64 0, .int .i64 0, .int .i64 0, .int .i64 0, .int .i64 0] true) := by rw [Heap.set_getE _ _ _ _ hrps]; exact hgr
      refine ⟨?_, Heap.set_getS _ _ _ (by rw [hg]; rfl), stA.h _ _ hgr', gA.h _ _ hgr', fin.h _ _ (some (s'.mark k)) (hl'.set (by omega) _) hf rfl⟩
      rw [wStore_int hg (by simp [St.cells]), ← hs', St.setp]
    replace tail := Hid.mk tail
    cases hk1 : (ei.kind == 1) with
    | true =>
      repeat' (first | simp -implicitDefEqProofs only [W_skip, W_reg, W_seq, W_rcond, W_cond, W_block, W_loop, W_exit, W_ret, thenQ_normal, thenQ_exit, thenQ_ret, blockQ_normal, blockQ_ret, blockQ_here, regQ_app, rcQ_app, cndK_t, cndK_f, RegW_nil, RegW_none, RegW_some, contW_app, grdK_tt, grdK_ff, grdK_tf, grdK_ft, grdK_undef, actK_p, actK_r, actK_a, actK_w, actK_call, actK_callV, heapK_app, allocK_app, writeK_app, ret1_ret, ret1_normal, ret0_ret, ret0_normal, ret2_ret2, thenK_app, retcv_ret, retcvK_app, optW_some, evs, Arg.ev, aP, aR, aA, aW, pMov, pBin, pUn, pConv, pPick, pFieldAddr, pNilCheck, pExtract, aBin, aUn, aInt, aNew, partL_f, upd, List.getElem?_cons_zero, List.getElem?_cons_succ, List.getD_cons_zero, List.getD_cons_succ, List.set_cons_zero, List.set_cons_succ, Nat.zero_add, Nat.add_zero, List.getElem?_toArray, List.take_zero, List.drop_zero, List.take_succ_cons, List.drop_succ_cons, if_true, if_false, decide_true, decide_false, Bool.false_eq_true, Bool.true_eq_false, Bool.not_true, Bool.not_false, not_true_eq_false, not_false_eq_true, ge_iff_le, gt_iff_lt, beq_self_eq_true, bne_self_eq_false, and_self, and_true, true_and, Option.isSome_some, Heap.get_alloc_same, Heap.alloc_getE, St.part, *] | with_reducible refine cndK_d (fun hc => ?_) (fun hc => ?_) | with_reducible refine grdK_d (fun hc => ?_) (fun hc => ?_) | with_reducible refine cndK_i (fun hc => ?_) (fun hc => ?_) | with_reducible refine grdK_i (fun hc => ?_) (fun hc => ?_))
      refine pending_c (hv.mono (hl01.trans hl2)) hl m2 s hp hi _ fun h3 hl3 => ?_
      have g3 := hl3.get m1
      have gr3 := hl3.get m3
      have ge3 := hl3.get g2
      clear g2 m1 m2 m3 e1 e2 e3 en hh2 hep
      have hl03 := (hl01.trans hl2).trans hl3
      have st := stA.h h3 s gr3
      have gg := gA.h h3 s gr3
      have gw := St.getw (s := s) ha4
      have hfree : freeF l s k = if (pendTo l s.p k k).getD (s.get a) != ei.n then none else some (s.mark k) := by
        simp only [freeF, hbl.h, hei, hk1, hat.h, Int.toNat_natCast]; rfl
      replace hfree := Hid.mk hfree
      cases hpe : pendTo l s.p k k with
      | none =>
        cases hne : (s.get a != ei.n) with
        | true =>
          repeat' (first | simp -implicitDefEqProofs only [W_skip, W_reg, W_seq, W_rcond, W_cond, W_block, W_loop, W_exit, W_ret, thenQ_normal, thenQ_exit, thenQ_ret, blockQ_normal, blockQ_ret, blockQ_here, regQ_app, rcQ_app, cndK_t, cndK_f, RegW_nil, RegW_none, RegW_some, contW_app, grdK_tt, grdK_ff, grdK_tf, grdK_ft, grdK_undef, actK_p, actK_r, actK_a, actK_w, actK_call, actK_callV, heapK_app, allocK_app, writeK_app, ret1_ret, ret1_normal, ret0_ret, ret0_normal, ret2_ret2, thenK_app, retcv_ret, retcvK_app, optW_some, evs, Arg.ev, aP, aR, aA, aW, pMov, pBin, pUn, pConv, pPick, pFieldAddr, pNilCheck, pExtract, aBin, aUn, aInt, aNew, partL_f, upd, List.getElem?_cons_zero, List.getElem?_cons_succ, List.getD_cons_zero, List.getD_cons_succ, List.set_cons_zero, List.set_cons_succ, Nat.zero_add, Nat.add_zero, List.getElem?_toArray, List.take_zero, List.drop_zero, List.take_succ_cons, List.drop_succ_cons, if_true, if_false, decide_true, decide_false, Bool.false_eq_true, Bool.true_eq_false, Bool.not_true, Bool.not_false, not_true_eq_false, not_false_eq_true, ge_iff_le, gt_iff_lt, beq_self_eq_true, bne_self_eq_false, and_self, and_true, true_and, Option.isSome_some, Heap.get_alloc_same, Heap.alloc_getE, St.part, Option.getD_none, Option.isSome_none, *] | with_reducible refine cndK_d (fun hc => ?_) (fun hc => ?_) | with_reducible refine grdK_d (fun hc => ?_) (fun hc => ?_) | with_reducible refine cndK_i (fun hc => ?_) (fun hc => ?_) | with_reducible refine grdK_i (fun hc => ?_) (fun hc => ?_))
          exact fin.h h3 s none hl03 (by rw [hfree.h, hpe, Option.getD_none, hne]; rfl) rfl
        | false =>
          obtain ⟨t1, t2, t3, t4, t5⟩ := tail.h h3 s rfl hl03 g3 gr3 (by rw [hfree.h, hpe, Option.getD_none, hne]; rfl)
          replace t5 := Hid.mk t5
          repeat' (first | simp -implicitDefEqProofs only [W_skip, W_reg, W_seq, W_rcond, W_cond, W_block, W_loop, W_exit, W_ret, thenQ_normal, thenQ_exit, thenQ_ret, blockQ_normal, blockQ_ret, blockQ_here, regQ_app, rcQ_app, cndK_t, cndK_f, RegW_nil, RegW_none, RegW_some, contW_app, grdK_tt, grdK_ff, grdK_tf, grdK_ft, grdK_undef, actK_p, actK_r, actK_a, actK_w, actK_call, actK_callV, heapK_app, allocK_app, writeK_app, ret1_ret, ret1_normal, ret0_ret, ret0_normal, ret2_ret2, thenK_app, retcv_ret, retcvK_app, optW_some, evs, Arg.ev, aP, aR, aA, aW, pMov, pBin, pUn, pConv, pPick, pFieldAddr, pNilCheck, pExtract, aBin, aUn, aInt, aNew, partL_f, upd, List.getElem?_cons_zero, List.getElem?_cons_succ, List.getD_cons_zero, List.getD_cons_succ, List.set_cons_zero, List.set_cons_succ, Nat.zero_add, Nat.add_zero, List.getElem?_toArray, List.take_zero, List.drop_zero, List.take_succ_cons, List.drop_succ_cons, if_true, if_false, decide_true, decide_false, Bool.false_eq_true, Bool.true_eq_false, Bool.not_true, Bool.not_false, not_true_eq_false, not_false_eq_true, ge_iff_le, gt_iff_lt, beq_self_eq_true, bne_self_eq_false, and_self, and_true, true_and, Option.isSome_some, Heap.get_alloc_same, Heap.alloc_getE, St.part, Option.getD_none, Option.isSome_none, St.cells0, aShift, *] | with_reducible refine cndK_d (fun hc => ?_) (fun hc => ?_) | with_reducible refine grdK_d (fun hc => ?_) (fun hc => ?_) | with_reducible refine cndK_i (fun hc => ?_) (fun hc => ?_) | with_reducible refine grdK_i (fun hc => ?_) (fun hc => ?_))
          exact t5.h
      | some z =>
        cases hne : (z != ei.n) with
        | true =>
          repeat' (first | simp -implicitDefEqProofs only [W_skip, W_reg, W_seq, W_rcond, W_cond, W_block, W_loop, W_exit, W_ret, thenQ_normal, thenQ_exit, thenQ_ret, blockQ_normal, blockQ_ret, blockQ_here, regQ_app, rcQ_app, cndK_t, cndK_f, RegW_nil, RegW_none, RegW_some, contW_app, grdK_tt, grdK_ff, grdK_tf, grdK_ft, grdK_undef, actK_p, actK_r, actK_a, actK_w, actK_call, actK_callV, heapK_app, allocK_app, writeK_app, ret1_ret, ret1_normal, ret0_ret, ret0_normal, ret2_ret2, thenK_app, retcv_ret, retcvK_app, optW_some, evs, Arg.ev, aP, aR, aA, aW, pMov, pBin, pUn, pConv, pPick, pFieldAddr, pNilCheck, pExtract, aBin, aUn, aInt, aNew, partL_f, upd, List.getElem?_cons_zero, List.getElem?_cons_succ, List.getD_cons_zero, List.getD_cons_succ, List.set_cons_zero, List.set_cons_succ, Nat.zero_add, Nat.add_zero, List.getElem?_toArray, List.take_zero, List.drop_zero, List.take_succ_cons, List.drop_succ_cons, if_true, if_false, decide_true, decide_false, Bool.false_eq_true, Bool.true_eq_false, Bool.not_true, Bool.not_false, not_true_eq_false, not_false_eq_true, ge_iff_le, gt_iff_lt, beq_self_eq_true, bne_self_eq_false, and_self, and_true, true_and, Option.isSome_some, Heap.get_alloc_same, Heap.alloc_getE, St.part, Option.getD_some, *] | with_reducible refine cndK_d (fun hc => ?_) (fun hc => ?_) | with_reducible refine grdK_d (fun hc => ?_) (fun hc => ?_) | with_reducible refine cndK_i (fun hc => ?_) (fun hc => ?_) | with_reducible refine grdK_i (fun hc => ?_) (fun hc => ?_))
          exact fin.h h3 s none hl03 (by rw [hfree.h, hpe, Option.getD_some, hne]; rfl) rfl
        | false =>
          obtain ⟨t1, t2, t3, t4, t5⟩ := tail.h h3 s rfl hl03 g3 gr3 (by rw [hfree.h, hpe, Option.getD_some, hne]; rfl)
          replace t5 := Hid.mk t5
          repeat' (first | simp -implicitDefEqProofs only [W_skip, W_reg, W_seq, W_rcond, W_cond, W_block, W_loop, W_exit, W_ret, thenQ_normal, thenQ_exit, thenQ_ret, blockQ_normal, blockQ_ret, blockQ_here, regQ_app, rcQ_app, cndK_t, cndK_f, RegW_nil, RegW_none, RegW_some, contW_app, grdK_tt, grdK_ff, grdK_tf, grdK_ft, grdK_undef, actK_p, actK_r, actK_a, actK_w, actK_call, actK_callV, heapK_app, allocK_app, writeK_app, ret1_ret, ret1_normal, ret0_ret, ret0_normal, ret2_ret2, thenK_app, retcv_ret, retcvK_app, optW_some, evs, Arg.ev, aP, aR, aA, aW, pMov, pBin, pUn, pConv, pPick, pFieldAddr, pNilCheck, pExtract, aBin, aUn, aInt, aNew, partL_f, upd, List.getElem?_cons_zero, List.getElem?_cons_succ, List.getD_cons_zero, List.getD_cons_succ, List.set_cons_zero, List.set_cons_succ, Nat.zero_add, Nat.add_zero, List.getElem?_toArray, List.take_zero, List.drop_zero, List.take_succ_cons, List.drop_succ_cons, if_true, if_false, decide_true, decide_false, Bool.false_eq_true, Bool.true_eq_false, Bool.not_true, Bool.not_false, not_true_eq_false, not_false_eq_true, ge_iff_le, gt_iff_lt, beq_self_eq_true, bne_self_eq_false, and_self, and_true, true_and, Option.isSome_some, Heap.get_alloc_same, Heap.alloc_getE, St.part, Option.getD_some, St.cells0, aShift, *] | with_reducible refine cndK_d (fun hc => ?_) (fun hc => ?_) | with_reducible refine grdK_d (fun hc => ?_) (fun hc => ?_) | with_reducible refine cndK_i (fun hc => ?_) (fun hc => ?_) | with_reducible refine grdK_i (fun hc => ?_) (fun hc => ?_))
          exact t5.h
    | false =>
      have w1 : wStore 1 h2 [.pointer (some ⟨sp, 1 + a, none⟩), .int .i64 ei.n] = some (undef, h2.set sp (.blk (s.put a ei.n).cells true)) := by
        rw [wStore_int m1 (by simp [St.cells]; omega), St.setw ha4]
      have w2 : (h2.set sp (.blk (s.put a ei.n).cells true)).get sp = some (.blk (s.put a ei.n).cells true) := Heap.set_getS _ _ _ (by rw [m1]; rfl)
      have w3 : (h2.set sp (.blk (s.put a ei.n).cells true)).get rp = some (.blk [.int .u64 0, .int .i64 0, .int .i64 0, .int .i64 0, .int .i64 0] true) := by rw [Heap.set_getE _ _ _ _ hrps]; exact m3
      obtain ⟨t1, t2, t3, t4, t5⟩ := tail.h _ (s.put a ei.n) (put_p _ _ _) ((hl01.trans hl2).set (by omega) _) w2 w3 (by simp only [freeF, hbl.h, hei, hk1, hat.h, Int.toNat_natCast]; rfl)
      have pc : (s.put a ei.n).cells[0]? = some (.int .u64 (s.p : Int)) := by rw [St.cells0, put_p]
      replace t5 := Hid.mk t5
      repeat' (first | simp -implicitDefEqProofs only [W_skip, W_reg, W_seq, W_rcond, W_cond, W_block, W_loop, W_exit, W_ret, thenQ_normal, thenQ_exit, thenQ_ret, blockQ_normal, blockQ_ret, blockQ_here, regQ_app, rcQ_app, cndK_t, cndK_f, RegW_nil, RegW_none, RegW_some, contW_app, grdK_tt, grdK_ff, grdK_tf, grdK_ft, grdK_undef, actK_p, actK_r, actK_a, actK_w, actK_call, actK_callV, heapK_app, allocK_app, writeK_app, ret1_ret, ret1_normal, ret0_ret, ret0_normal, ret2_ret2, thenK_app, retcv_ret, retcvK_app, optW_some, evs, Arg.ev, aP, aR, aA, aW, pMov, pBin, pUn, pConv, pPick, pFieldAddr, pNilCheck, pExtract, aBin, aUn, aInt, aNew, partL_f, upd, List.getElem?_cons_zero, List.getElem?_cons_succ, List.getD_cons_zero, List.getD_cons_succ, List.set_cons_zero, List.set_cons_succ, Nat.zero_add, Nat.add_zero, List.getElem?_toArray, List.take_zero, List.drop_zero, List.take_succ_cons, List.drop_succ_cons, if_true, if_false, decide_true, decide_false, Bool.false_eq_true, Bool.true_eq_false, Bool.not_true, Bool.not_false, not_true_eq_false, not_false_eq_true, ge_iff_le, gt_iff_lt, beq_self_eq_true, bne_self_eq_false, and_self, and_true, true_and, Option.isSome_some, Heap.get_alloc_same, Heap.alloc_getE, St.part, aShift, *] | with_reducible refine cndK_d (fun hc => ?_) (fun hc => ?_) | with_reducible refine grdK_d (fun hc => ?_) (fun hc => ?_) | with_reducible refine cndK_i (fun hc => ?_) (fun hc => ?_) | with_reducible refine grdK_i (fun hc => ?_) (fun hc => ?_))
      exact t5.h
end Go.Eng.Ax

set_option linter.unusedSimpArgs false
set_option linter.unusedVariables false
namespace Go.Eng.Ax
open Go Go.Eng Go.Proofs

/-! keys of the searcher's map -/
noncomputable def fs60 : Array Field := match Try.prog.underlying 60 with | some (.struct fs) => fs | _ => #[]
theorem u60 : Try.prog.underlying 60 = some (.struct fs60) := by kernel_rfl
theorem a60 : (fs60.all (·.name != "_")) = true := by kernel_rfl
theorem l60 : (fs60.toList.map fun f => (f.type, f.offset)) = [(58, 0), (42, 1)] := by kernel_rfl
theorem u58 : Try.prog.underlying 58 = some (.int .u64) := by kernel_rfl
theorem u42 : Try.prog.underlying 42 = some (.array 4 3) := by kernel_rfl
theorem u3 : Try.prog.underlying 3 = some (.int .i64) := by kernel_rfl
theorem k60 : Try.prog.keyType 60 = true := by kernel_rfl
theorem n60 : Try.prog.cellsOf 60 = 5 := by kernel_rfl
theorem n58 : Try.prog.cellsOf 58 = 1 := by kernel_rfl
theorem n42 : Try.prog.cellsOf 42 = 4 := by kernel_rfl
theorem n3 : Try.prog.cellsOf 3 = 1 := by kernel_rfl

structure St.ok (s : St) : Prop where
  p : s.p < 2 ^ 64
  w : ∀ k, k < 4 → -2147483648 ≤ s.get k ∧ s.get k < 2147483648

theorem wfI {z : Int} (h : -2147483648 ≤ z ∧ z < 2147483648) : (Lit.int .i64 z).wf = true := by
  simp [Lit.wf, IntKind.min, IntKind.max, IntKind.signed, IntKind.bits]; omega
theorem wfU {p : Nat} (h : p < 2 ^ 64) : (Lit.int .u64 (p : Int)).wf = true := by
  simp [Lit.wf, IntKind.min, IntKind.max, IntKind.signed, IntKind.bits]; omega
theorem good60 {s : St} (h : s.ok) : keyGood Try.prog 60 s.val = true := by
  have w0 := wfI (h.w 0 (by omega))
  have w1 := wfI (h.w 1 (by omega))
  have w2 := wfI (h.w 2 (by omega))
  have w3 := wfI (h.w 3 (by omega))
  have wp := wfU h.p
  simp only [St.get] at w0 w1 w2 w3
  have hs : ∃ n, Try.prog.types.size = n + 2 := by
    have : 2 ≤ Try.prog.types.size := by decide +kernel
    exact ⟨Try.prog.types.size - 2, by omega⟩
  obtain ⟨n, hn⟩ := hs
  obtain ⟨f1, f2, hf, e1, e2, e3, e4⟩ : ∃ f1 f2 : Field, fs60.toList = [f1, f2] ∧ f1.type = 58 ∧ f1.offset = 0 ∧ f2.type = 42 ∧ f2.offset = 1 := by
    have := l60
    generalize fs60.toList = L at this ⊢
    rcases L with _ | ⟨a, _ | ⟨b, _ | ⟨c, r⟩⟩⟩ <;> simp at this
    exact ⟨a, b, rfl, this.1.1, this.1.2, this.2.1, this.2.2⟩
  have flat : flatKey s.val = true := rfl
  simp only [keyGood, flat, Bool.true_and, keyOf, u60, k60]
  have hform : Value.formed Try.prog 60 s.val = true := by simp only [Value.formed, St.val, u60, n60]; rfl
  simp only [hform, Bool.and_true, if_true, hn]
  have hkl : Try.prog.keyLits (n + 2 + 1) 60 s.val.cells.toList = some [.int .u64 s.p, .int .i64 s.w0, .int .i64 s.w1, .int .i64 s.w2, .int .i64 s.w3] := by
    simp only [Program.keyLits, u60, n60, a60, hf, St.val, Value.cells, List.mapM_cons, List.mapM_nil, e1, e2, e3, e4, u58, u42, n58, n42, n3, u3, wp]
    simp [List.range, List.range.loop, Program.keyLits, u3, w0, w1, w2, w3, wp]
  simp [hkl]

theorem St.inj {s d : St} (h : s.val = d.val) : s = d := by
  cases s; cases d
  simp [St.val] at h
  simp [h]
  omega
theorem flat60 (s d : St) : flatEq d.val s.val = decide (d = s) := by
  simp only [flatEq, St.val, cellsEq, cellEq]
  rw [Bool.eq_iff_iff]
  simp only [Bool.and_eq_true, decide_eq_true_eq, Bool.and_true]
  constructor
  · intro h
    cases s; cases d
    simp at h
    simp
    omega
  · rintro rfl; simp

/-! what the search looks for -/
inductive Fin (l : List Ev) : St → Prop
  | done (s : St) (h : ∀ (i : Nat) e, l[i]? = some e → e.acc = true → s.p.testBit i = true) : Fin l s
  | step (s s' : St) (i : Nat) (e : Ev) (h : l[i]? = some e) (ha : e.acc = true) (hb : s.p.testBit i = false) (hf : freeF l s i = some s') (hr : Fin l s') : Fin l s

def leftN (l : List Ev) (p : Nat) : Nat := ((List.range l.length).filter fun i => (l[i]?).any Ev.acc && !p.testBit i).length

theorem filter_lt {α : Type} {p q : α → Bool} : ∀ {l : List α}, (∀ x ∈ l, p x = true → q x = true) → (∃ x ∈ l, q x = true ∧ p x = false) → (l.filter p).length < (l.filter q).length
  | [], _, ⟨x, hx, _⟩ => by simp at hx
  | a :: l, h, ⟨x, hx, hq, hp⟩ => by
    have hle : ∀ {l : List α}, (∀ x ∈ l, p x = true → q x = true) → (l.filter p).length ≤ (l.filter q).length := by
      intro l
      induction l with
      | nil => intro _; simp
      | cons b r ih =>
        intro h
        have := ih fun x hx => h x (by simp [hx])
        have hb := h b (by simp)
        cases h1 : p b <;> cases h2 : q b <;> simp_all <;> omega
    rcases List.mem_cons.1 hx with rfl | hx
    · have := hle (l := l) fun x hx => h x (by simp [hx])
      simp [hq, hp]; omega
    · have ih := filter_lt (l := l) (fun x hx => h x (by simp [hx])) ⟨x, hx, hq, hp⟩
      have ha := h a (by simp)
      cases h1 : p a <;> cases h2 : q a <;> simp_all <;> omega
theorem testBit_mark (p i j : Nat) : (p ||| 2 ^ i).testBit j = (p.testBit j || decide (i = j)) := by
  rw [Nat.testBit_or, Nat.testBit_two_pow]
theorem leftN_mark {l : List Ev} {p i : Nat} {e : Ev} (h : l[i]? = some e) (ha : e.acc = true) (hb : p.testBit i = false) : leftN l (p ||| 2 ^ i) < leftN l p := by
  refine filter_lt (fun x _ hx => ?_) ⟨i, ?_, ?_, ?_⟩
  · rw [testBit_mark] at hx
    simp only [Bool.and_eq_true, Bool.not_eq_true', Bool.or_eq_false_iff] at hx ⊢
    exact ⟨hx.1, hx.2.1⟩
  · simpa using (List.getElem?_eq_some_iff.1 h).1
  · simp [h, ha, hb]
  · simp [testBit_mark]
theorem free_p {l : List Ev} {s s' : St} {i : Nat} (h : freeF l s i = some s') : s'.p = s.p ||| 2 ^ i := by
  unfold freeF at h
  split at h
  · cases h
  · split at h
    · split at h
      · split at h
        · cases h
        · cases h; rfl
      · cases h
        simp [St.mark, put_p]
    · cases h
theorem put_get (s : St) (a : Nat) (z : Int) (k : Nat) (ha : a < 4) (hk : k < 4) : (s.put a z).get k = if a = k then z else s.get k := by
  rcases a with _ | _ | _ | _ | a <;> rcases k with _ | _ | _ | _ | k <;> first | rfl | omega
structure EvOk (e : Ev) : Prop where
  a : ∃ a : Nat, e.at' = (a : Int) ∧ a < 4
  n : -2147483648 ≤ e.n ∧ e.n < 2147483648
theorem may_ok {e : Ev} (h : e.may = true) : EvOk e := by
  simp only [Ev.may, Bool.and_eq_true, decide_eq_true_eq, beq_iff_eq] at h
  obtain ⟨_, ⟨⟨⟨⟨⟨h1, h2⟩, h3⟩, h4⟩, h5⟩, h6⟩, h7⟩ := h
  obtain ⟨a, ha⟩ := Int.eq_ofNat_of_zero_le h5
  refine ⟨⟨a, ha, by omega⟩, ?_⟩
  rw [h7]
  simp only [IntKind.wrap, IntKind.signed, IntKind.bits]
  simp
  omega
theorem free_ok {l : List Ev} (hl : ∀ e ∈ l, EvOk e) (hn : l.length ≤ 60) {s s' : St} (hs : s.ok) {i : Nat} (hi : i < l.length) (h : freeF l s i = some s') : s'.ok := by
  have hp : s.p ||| 2 ^ i < 2 ^ 64 := Nat.or_lt_two_pow hs.p (Nat.pow_lt_pow_right (by omega) (by omega))
  unfold freeF at h
  split at h
  · cases h
  · split at h
    · rename_i e he
      split at h
      · split at h
        · cases h
        · cases h; exact ⟨hp, hs.w⟩
      · cases h
        obtain ⟨a, ha, ha4⟩ := (hl e (List.mem_of_getElem? he)).a
        refine ⟨by simp only [St.mark, put_p]; exact hp, fun k hk => ?_⟩
        have : ((s.put e.at'.toNat e.n).mark i).get k = (s.put a e.n).get k := by rw [ha]; rcases k with _ | _ | _ | k <;> rfl
        rw [this, put_get _ _ _ _ ha4 hk]
        split
        · exact (hl e (List.mem_of_getElem? he)).n
        · exact hs.w k hk
    · cases h
end Go.Eng.Ax

set_option linter.unusedSimpArgs false
set_option linter.unusedVariables false
namespace Go.Eng
open Go
theorem Heap.leBut.blk {m id : Nat} {h h' : Heap} (hb : h.leBut m h') {es : List (Value × Value)} {w : Bool} (hm : h.get m = some (.map es w)) {c : List Value} {o : Bool} (hg : h.get id = some (.blk c o)) : h'.get id = some (.blk c o) := by
  rw [hb.get id (fun e => by subst e; rw [hm] at hg; cases hg) (by rw [hg]; rfl)]; exact hg
theorem SlV.but {m : Nat} {h h' : Heap} (hb : h.leBut m h') {es : List (Value × Value)} {w : Bool} (hm : h.get m = some (.map es w)) {s : Nat} {v : Value} {xs : List (List Value)} (ha : SlV h s v xs) : SlV h' s v xs := by
  rcases ha with ha | ⟨id, off, hv, ha⟩
  · exact .inl ha
  · refine .inr ⟨id, off, hv, ha.imp (fun e => e) fun ⟨c, o, hg, hx⟩ => ⟨c, o, hb.blk hm hg, hx⟩⟩
end Go.Eng
namespace Go.Eng.Ax
open Go Go.Eng Go.Proofs

def DeadM (l : List Ev) (es : List (Value × Value)) : Prop := ∀ e ∈ es, ∃ d : St, e.1 = d.val ∧ d.ok ∧ ¬ Fin l d
theorem DeadM.good {l : List Ev} {es : List (Value × Value)} (h : DeadM l es) : (es.all fun e => keyGood Try.prog 60 e.1) = true := by
  rw [List.all_eq_true]
  intro e he
  obtain ⟨d, h1, h2, _⟩ := h e he
  rw [h1]; exact good60 h2
theorem lookup_dead {l : List Ev} {es : List (Value × Value)} (hd : DeadM l es) {s : St} (hs : s.ok) {h : Heap} {m : Nat} (hm : h.get m = some (.map es true)) :
    ∃ z f, aLookup (keyGood Try.prog 60) (.int .i64 0) true [.map (some m), s.val] h.get = some (.tuple #[z, .bool f]) ∧ (f = true → ¬ Fin l s) := by
  simp only [aLookup, hm, good60 hs, hd.good, Bool.and_self, if_true]
  refine ⟨_, _, rfl, fun hf => ?_⟩
  cases hx : es.findIdx? fun e => flatEq e.1 s.val with
  | none => rw [hx] at hf; simp at hf
  | some i =>
    obtain ⟨hi, h1, _⟩ := List.findIdx?_eq_some_iff_getElem.1 hx
    obtain ⟨d, h2, h3, h4⟩ := hd es[i] (List.getElem_mem hi)
    rw [h2, flat60] at h1
    rw [← of_decide_eq_true h1]; exact h4
theorem mapSet_dead {l : List Ev} {es : List (Value × Value)} (hd : DeadM l es) {s : St} (hs : s.ok) (hn : ¬ Fin l s) {h : Heap} {m : Nat} (hm : h.get m = some (.map es true)) :
    wMapSet (keyGood Try.prog 60) h [.map (some m), s.val, .int .i64 1] = some (undef, h.set m (.map (mapPut es s.val (.int .i64 1)) true)) ∧ DeadM l (mapPut es s.val (.int .i64 1)) := by
  refine ⟨by simp only [wMapSet, hm, good60 hs, hd.good, Bool.and_self, if_true], ?_⟩
  intro e he
  unfold mapPut at he
  split at he
  · rcases List.mem_or_eq_of_mem_set he with he | rfl
    · exact hd e he
    · exact ⟨s, rfl, hs, hn⟩
  · rcases List.mem_append.1 he with he | he
    · exact hd e he
    · simp only [List.mem_singleton] at he; subst he; exact ⟨s, rfl, hs, hn⟩

theorem search_c {v : Value} {l : List Ev} (hl : l.length ≤ 60) (hev : ∀ e ∈ l, EvOk e) : ∀ (n : Nat) (s : St), leftN l s.p < n → s.ok → ∀ {h : Heap} (hv : Evs h v l) {xp m : Nat} {xo : Bool} (hx : h.get xp = some (.blk [v, .map (some m)] xo)) {es : List (Value × Value)} (hm : h.get m = some (.map es true)) (hd : DeadM l es) (Q : Value → Heap → Prop)
    (hq : ∀ b h' es', (b = true ↔ Fin l s) → h.leBut m h' → h'.get m = some (.map es' true) → DeadM l es' → Q (.bool b) h'), CallW Try.prog 39 [.pointer (some ⟨xp, 0, none⟩), s.val] h Q := by
  intro n
  induction n with
  | zero => intro s hs; omega
  | succ n ih =>
  intro s hleft hs h hv xp m xo hx es hm hd Q hq
  refine call_of1 (k := 3) ok39 rfl rfl rfl fun N => ?_
  rw [show env0 c39 [.pointer (some ⟨xp, 0, none⟩), s.val] = [.pointer (some ⟨xp, 0, none⟩), s.val, undef, undef, undef, undef, undef, undef, undef, undef, undef, undef, undef, undef] from rfl]
  delta c39 c39_r0 c39_r1 c39_r2 c39_r3 c39_r4 c39_r5 c39_r6 c39_r7 c39_r8 c39_r9 c39_r10 c39_r11 c39_r12 c39_r13 c39_r15 c39_r16 c39_r17
  replace hq := Hid.mk hq
  replace ih := Hid.mk ih
  obtain ⟨sp, hsp⟩ : ∃ x, h.next = x := ⟨_, rfl⟩
  obtain ⟨h0, hh0⟩ : ∃ x, h.alloc (.blk s.cells true) = x := ⟨_, rfl⟩
  have hl0 : h.le h0 := by rw [← hh0]; exact (Heap.le.refl h).alloc _
  have g0 : h0.get sp = some (.blk s.cells true) := by rw [← hh0, ← hsp]; exact Heap.get_alloc_same _ _
  have gx0 := hl0.get hx
  have gm0 := hl0.get hm
  have hv0 := hv.mono hl0
  obtain ⟨z, f, hlook, hf⟩ := lookup_dead hd hs gm0
  replace hf := Hid.mk hf
  cases f with
  | true =>
    repeat' (first | simp -implicitDefEqProofs only [W_skip, W_reg, W_seq, W_rcond, W_cond, W_block, W_loop, W_exit, W_ret, thenQ_normal, thenQ_exit, thenQ_ret, blockQ_normal, blockQ_ret, blockQ_here, regQ_app, rcQ_app, cndK_t, cndK_f, RegW_nil, RegW_none, RegW_some, contW_app, grdK_tt, grdK_ff, grdK_tf, grdK_ft, grdK_undef, actK_p, actK_r, actK_a, actK_w, actK_call, actK_callV, heapK_app, allocK_app, writeK_app, ret1_ret, ret1_normal, ret0_ret, ret0_normal, ret2_ret2, thenK_app, retcv_ret, retcvK_app, optW_some, evs, Arg.ev, aP, aR, aA, aW, pMov, pBin, pUn, pConv, pPick, pFieldAddr, pNilCheck, pExtract, aBin, aUn, aInt, aNew, partL_f, upd, List.getElem?_cons_zero, List.getElem?_cons_succ, List.getD_cons_zero, List.getD_cons_succ, List.set_cons_zero, List.set_cons_succ, Nat.zero_add, Nat.add_zero, List.getElem?_toArray, List.take_zero, List.drop_zero, List.take_succ_cons, List.drop_succ_cons, if_true, if_false, decide_true, decide_false, Bool.false_eq_true, Bool.true_eq_false, Bool.not_true, Bool.not_false, not_true_eq_false, not_false_eq_true, ge_iff_le, gt_iff_lt, beq_self_eq_true, bne_self_eq_false, and_self, and_true, true_and, Option.isSome_some, Heap.get_alloc_same, Heap.alloc_getE, St.box, St.part, *] | with_reducible refine cndK_d (fun hc => ?_) (fun hc => ?_) | with_reducible refine grdK_d (fun hc => ?_) (fun hc => ?_) | with_reducible refine cndK_i (fun hc => ?_) (fun hc => ?_) | with_reducible refine grdK_i (fun hc => ?_) (fun hc => ?_))
    exact hq.h false h0 es (by simpa using hf.h rfl) (hl0.but m) gm0 hd
  | false =>
    repeat' (first | simp -implicitDefEqProofs only [W_skip, W_reg, W_seq, W_rcond, W_cond, W_block, W_loop, W_exit, W_ret, thenQ_normal, thenQ_exit, thenQ_ret, blockQ_normal, blockQ_ret, blockQ_here, regQ_app, rcQ_app, cndK_t, cndK_f, RegW_nil, RegW_none, RegW_some, contW_app, grdK_tt, grdK_ff, grdK_tf, grdK_ft, grdK_undef, actK_p, actK_r, actK_a, actK_w, actK_call, actK_callV, heapK_app, allocK_app, writeK_app, ret1_ret, ret1_normal, ret0_ret, ret0_normal, ret2_ret2, thenK_app, retcv_ret, retcvK_app, optW_some, evs, Arg.ev, aP, aR, aA, aW, pMov, pBin, pUn, pConv, pPick, pFieldAddr, pNilCheck, pExtract, aBin, aUn, aInt, aNew, partL_f, upd, List.getElem?_cons_zero, List.getElem?_cons_succ, List.getD_cons_zero, List.getD_cons_succ, List.set_cons_zero, List.set_cons_succ, Nat.zero_add, Nat.add_zero, List.getElem?_toArray, List.take_zero, List.drop_zero, List.take_succ_cons, List.drop_succ_cons, if_true, if_false, decide_true, decide_false, Bool.false_eq_true, Bool.true_eq_false, Bool.not_true, Bool.not_false, not_true_eq_false, not_false_eq_true, ge_iff_le, gt_iff_lt, beq_self_eq_true, bne_self_eq_false, and_self, and_true, true_and, Option.isSome_some, Heap.get_alloc_same, Heap.alloc_getE, St.box, St.part, hv0.len, *] | with_reducible refine cndK_d (fun hc => ?_) (fun hc => ?_) | with_reducible refine grdK_d (fun hc => ?_) (fun hc => ?_) | with_reducible refine cndK_i (fun hc => ?_) (fun hc => ?_) | with_reducible refine grdK_i (fun hc => ?_) (fun hc => ?_))
    clear hlook hh0 hf
    refine LoopW.upto l.length (fun i e h1 => h0.leBut m h1 ∧ (∃ es, h1.get m = some (.map es true) ∧ DeadM l es) ∧ (∀ (j : Nat) ej, j < i → l[j]? = some ej → ej.acc = true → s.p.testBit j = false → ∀ s', freeF l s j = some s' → ¬ Fin l s') ∧
      ∃ x6 x7 x8 x9 x13, e = [.pointer (some ⟨xp, 0, none⟩), s.val, .pointer (some ⟨sp, 0, none⟩), .bool false, .bool false, .bool ((List.range i).any fun j => (l[j]?).any Ev.acc && !s.p.testBit j), x6, x7, x8, x9, v, .int .i64 l.length, .int .i64 i, x13]) ?_ (Nat.zero_le _) ⟨Heap.leBut.refl _ _, ⟨es, gm0, hd⟩, fun j ej hj => by omega, _, _, _, _, _, rfl⟩
    rintro i _ h1 R hi ⟨hb1, ⟨es1, hm1, hd1⟩, hno, x6, x7, x8, x9, x13, rfl⟩ hR
    replace hno := Hid.mk hno
    have gs1 := hb1.blk gm0 g0
    have gx1 := hb1.blk gm0 gx0
    have hv1 : Evs h1 v l := SlV.but hb1 gm0 hv0
    have hbh := (hl0.but m).trans hb1
    have hl0' := hl0
    clear hd hv hx hm g0 hl0
    delta c39_l14 c39_r0 c39_r1 c39_r2 c39_r3 c39_r4 c39_r5 c39_r6 c39_r7 c39_r8 c39_r9 c39_r10 c39_r11 c39_r12 c39_r13 c39_r15 c39_r16 c39_r17
    by_cases hlt : i < l.length
    · have hlt' : (i : Int) < l.length := by omega
      have ni : ¬ (i : Int) < 0 := by omega
      obtain ⟨e, he⟩ : ∃ e, l[i]? = some e := ⟨_, List.getElem?_eq_getElem hlt⟩
      obtain ⟨id, off, cells, own, e1, e2, e3, _⟩ := hv1.elem he
      have hwr : IntKind.i64.wrap ((i : Int) + 1) = ((i + 1 : Nat) : Int) := by rw [wrapI (by omega) (by omega)]; rfl
      obtain ⟨ep, hep⟩ : ∃ x, h1.next = x := ⟨_, rfl⟩
      obtain ⟨h2, hh2⟩ : ∃ x, h1.alloc (.blk e.cells true) = x := ⟨_, rfl⟩
      have hl2 : h1.le h2 := by rw [← hh2]; exact (Heap.le.refl _).alloc _
      have g2 : h2.get ep = some (.blk e.cells true) := by rw [← hh2, ← hep]; exact Heap.get_alloc_same _ _
      have en := Ev.new' e h1
      rw [hh2, hep] at en
      have skip : (e.acc && !s.p.testBit i) = false → ∀ h' es', h0.leBut m h' → h'.get m = some (.map es' true) → DeadM l es' → ∀ x6 x7 x8 x9 x13, R [.pointer (some ⟨xp, 0, none⟩), s.val, .pointer (some ⟨sp, 0, none⟩), .bool false, .bool false, .bool ((List.range i).any fun j => (l[j]?).any Ev.acc && !s.p.testBit j), x6, x7, x8, x9, v, .int .i64 l.length, .int .i64 ((i + 1 : Nat) : Int), x13] h' := by
        intro hh h' es' k1 k2 k3 x6 x7 x8 x9 x13
        refine hR.h _ _ hlt ⟨k1, ⟨es', k2, k3⟩, ?_, x6, x7, x8, x9, x13, ?_⟩
        · intro j ej hj hej haj hbj s' hfj
          by_cases hji : j = i
          · subst hji
            rw [he] at hej; cases hej
            rw [haj, hbj] at hh; simp at hh
          · exact hno.h j ej (by omega) hej haj hbj s' hfj
        · rw [List.range_succ, List.any_append]
          simp only [List.any_cons, List.any_nil, he, Option.any_some, hh, Bool.or_false]
      have goOn : e.acc = true → s.p.testBit i = false → (∀ s', freeF l s i = some s' → ¬ Fin l s') → ∀ h' es', h0.leBut m h' → h'.get m = some (.map es' true) → DeadM l es' → ∀ x6 x7 x8 x9 x13, R [.pointer (some ⟨xp, 0, none⟩), s.val, .pointer (some ⟨sp, 0, none⟩), .bool false, .bool false, .bool true, x6, x7, x8, x9, v, .int .i64 l.length, .int .i64 ((i + 1 : Nat) : Int), x13] h' := by
        intro ha hb hn h' es' k1 k2 k3 x6 x7 x8 x9 x13
        refine hR.h _ _ hlt ⟨k1, ⟨es', k2, k3⟩, ?_, x6, x7, x8, x9, x13, ?_⟩
        · intro j ej hj hej haj hbj s' hfj
          by_cases hji : j = i
          · subst hji; exact hn s' hfj
          · exact hno.h j ej (by omega) hej haj hbj s' hfj
        · rw [List.range_succ, List.any_append]
          simp only [List.any_cons, List.any_nil, he, Option.any_some, ha, hb, Bool.not_false, Bool.and_self, Bool.or_true, Bool.or_false]
      replace skip := Hid.mk skip
      replace goOn := Hid.mk goOn
      repeat' (first | simp -implicitDefEqProofs only [W_skip, W_reg, W_seq, W_rcond, W_cond, W_block, W_loop, W_exit, W_ret, thenQ_normal, thenQ_exit, thenQ_ret, blockQ_normal, blockQ_ret, blockQ_here, regQ_app, rcQ_app, cndK_t, cndK_f, RegW_nil, RegW_none, RegW_some, contW_app, grdK_tt, grdK_ff, grdK_tf, grdK_ft, grdK_undef, actK_p, actK_r, actK_a, actK_w, actK_call, actK_callV, heapK_app, allocK_app, writeK_app, ret1_ret, ret1_normal, ret0_ret, ret0_normal, ret2_ret2, thenK_app, retcv_ret, retcvK_app, optW_some, evs, Arg.ev, aP, aR, aA, aW, pMov, pBin, pUn, pConv, pPick, pFieldAddr, pNilCheck, pExtract, aBin, aUn, aInt, aNew, partL_f, upd, List.getElem?_cons_zero, List.getElem?_cons_succ, List.getD_cons_zero, List.getD_cons_succ, List.set_cons_zero, List.set_cons_succ, Nat.zero_add, Nat.add_zero, List.getElem?_toArray, List.take_zero, List.drop_zero, List.take_succ_cons, List.drop_succ_cons, if_true, if_false, decide_true, decide_false, Bool.false_eq_true, Bool.true_eq_false, Bool.not_true, Bool.not_false, not_true_eq_false, not_false_eq_true, ge_iff_le, gt_iff_lt, beq_self_eq_true, bne_self_eq_false, and_self, and_true, true_and, Option.isSome_some, Heap.get_alloc_same, Heap.alloc_getE, Ev.part', *] | with_reducible refine cndK_d (fun hc => ?_) (fun hc => ?_) | with_reducible refine grdK_d (fun hc => ?_) (fun hc => ?_) | with_reducible refine cndK_i (fun hc => ?_) (fun hc => ?_) | with_reducible refine grdK_i (fun hc => ?_) (fun hc => ?_))
      refine isAccess_c e _ _ fun v3 h3 hv3 hl3 => ?_
      subst hv3
      have hl13 := hl2.trans hl3
      have gs3 := hl13.get gs1
      have gx3 := hl13.get gx1
      have gm3 := hl13.get hm1
      have hv3 := hv1.mono hl13
      have hb3 := hb1.trans (hl13.but m)
      clear e1 e2 e3 gs1 gx1 hm1 hv1 hh2 en hep
      cases hea : e.acc with
      | false =>
        repeat' (first | simp -implicitDefEqProofs only [W_skip, W_reg, W_seq, W_rcond, W_cond, W_block, W_loop, W_exit, W_ret, thenQ_normal, thenQ_exit, thenQ_ret, blockQ_normal, blockQ_ret, blockQ_here, regQ_app, rcQ_app, cndK_t, cndK_f, RegW_nil, RegW_none, RegW_some, contW_app, grdK_tt, grdK_ff, grdK_tf, grdK_ft, grdK_undef, actK_p, actK_r, actK_a, actK_w, actK_call, actK_callV, heapK_app, allocK_app, writeK_app, ret1_ret, ret1_normal, ret0_ret, ret0_normal, ret2_ret2, thenK_app, retcv_ret, retcvK_app, optW_some, evs, Arg.ev, aP, aR, aA, aW, pMov, pBin, pUn, pConv, pPick, pFieldAddr, pNilCheck, pExtract, aBin, aUn, aInt, aNew, partL_f, upd, List.getElem?_cons_zero, List.getElem?_cons_succ, List.getD_cons_zero, List.getD_cons_succ, List.set_cons_zero, List.set_cons_succ, Nat.zero_add, Nat.add_zero, List.getElem?_toArray, List.take_zero, List.drop_zero, List.take_succ_cons, List.drop_succ_cons, if_true, if_false, decide_true, decide_false, Bool.false_eq_true, Bool.true_eq_false, Bool.not_true, Bool.not_false, not_true_eq_false, not_false_eq_true, ge_iff_le, gt_iff_lt, beq_self_eq_true, bne_self_eq_false, and_self, and_true, true_and, Option.isSome_some, Heap.get_alloc_same, Heap.alloc_getE, *] | with_reducible refine cndK_d (fun hc => ?_) (fun hc => ?_) | with_reducible refine grdK_d (fun hc => ?_) (fun hc => ?_) | with_reducible refine cndK_i (fun hc => ?_) (fun hc => ?_) | with_reducible refine grdK_i (fun hc => ?_) (fun hc => ?_))
        exact skip.h (by simp [hea]) _ _ hb3 gm3 hd1 _ _ _ _ _
      | true =>
        cases hbt : s.p.testBit i with
        | true =>
          have hbb := bit1 hs.p (k := i) (by omega) hbt
          repeat' (first | simp -implicitDefEqProofs only [W_skip, W_reg, W_seq, W_rcond, W_cond, W_block, W_loop, W_exit, W_ret, thenQ_normal, thenQ_exit, thenQ_ret, blockQ_normal, blockQ_ret, blockQ_here, regQ_app, rcQ_app, cndK_t, cndK_f, RegW_nil, RegW_none, RegW_some, contW_app, grdK_tt, grdK_ff, grdK_tf, grdK_ft, grdK_undef, actK_p, actK_r, actK_a, actK_w, actK_call, actK_callV, heapK_app, allocK_app, writeK_app, ret1_ret, ret1_normal, ret0_ret, ret0_normal, ret2_ret2, thenK_app, retcv_ret, retcvK_app, optW_some, evs, Arg.ev, aP, aR, aA, aW, pMov, pBin, pUn, pConv, pPick, pFieldAddr, pNilCheck, pExtract, aBin, aUn, aInt, aNew, partL_f, upd, List.getElem?_cons_zero, List.getElem?_cons_succ, List.getD_cons_zero, List.getD_cons_succ, List.set_cons_zero, List.set_cons_succ, Nat.zero_add, Nat.add_zero, List.getElem?_toArray, List.take_zero, List.drop_zero, List.take_succ_cons, List.drop_succ_cons, if_true, if_false, decide_true, decide_false, Bool.false_eq_true, Bool.true_eq_false, Bool.not_true, Bool.not_false, not_true_eq_false, not_false_eq_true, ge_iff_le, gt_iff_lt, beq_self_eq_true, bne_self_eq_false, and_self, and_true, true_and, Option.isSome_some, Heap.get_alloc_same, Heap.alloc_getE, St.cells0, aShift, *] | with_reducible refine cndK_d (fun hc => ?_) (fun hc => ?_) | with_reducible refine grdK_d (fun hc => ?_) (fun hc => ?_) | with_reducible refine cndK_i (fun hc => ?_) (fun hc => ?_) | with_reducible refine grdK_i (fun hc => ?_) (fun hc => ?_))
          exact skip.h (by simp [hbt]) _ _ hb3 gm3 hd1 _ _ _ _ _
        | false =>
          have hbb := bit0 hs.p (k := i) (by omega) hbt
          have h01 : ((0 : Int) == 1) = false := rfl
          obtain ⟨a, hat, ha4⟩ := (hev e (List.mem_of_getElem? he)).a
          repeat' (first | simp -implicitDefEqProofs only [W_skip, W_reg, W_seq, W_rcond, W_cond, W_block, W_loop, W_exit, W_ret, thenQ_normal, thenQ_exit, thenQ_ret, blockQ_normal, blockQ_ret, blockQ_here, regQ_app, rcQ_app, cndK_t, cndK_f, RegW_nil, RegW_none, RegW_some, contW_app, grdK_tt, grdK_ff, grdK_tf, grdK_ft, grdK_undef, actK_p, actK_r, actK_a, actK_w, actK_call, actK_callV, heapK_app, allocK_app, writeK_app, ret1_ret, ret1_normal, ret0_ret, ret0_normal, ret2_ret2, thenK_app, retcv_ret, retcvK_app, optW_some, evs, Arg.ev, aP, aR, aA, aW, pMov, pBin, pUn, pConv, pPick, pFieldAddr, pNilCheck, pExtract, aBin, aUn, aInt, aNew, partL_f, upd, List.getElem?_cons_zero, List.getElem?_cons_succ, List.getD_cons_zero, List.getD_cons_succ, List.set_cons_zero, List.set_cons_succ, Nat.zero_add, Nat.add_zero, List.getElem?_toArray, List.take_zero, List.drop_zero, List.take_succ_cons, List.drop_succ_cons, if_true, if_false, decide_true, decide_false, Bool.false_eq_true, Bool.true_eq_false, Bool.not_true, Bool.not_false, not_true_eq_false, not_false_eq_true, ge_iff_le, gt_iff_lt, beq_self_eq_true, bne_self_eq_false, and_self, and_true, true_and, Option.isSome_some, Heap.get_alloc_same, Heap.alloc_getE, St.cells0, aShift, St.part, *] | with_reducible refine cndK_d (fun hc => ?_) (fun hc => ?_) | with_reducible refine grdK_d (fun hc => ?_) (fun hc => ?_) | with_reducible refine cndK_i (fun hc => ?_) (fun hc => ?_) | with_reducible refine grdK_i (fun hc => ?_) (fun hc => ?_))
          refine free_c hv3 hl gx3 s hs.p hlt he hat ha4 _ fun h4 hl4 => ?_
          have gs4 := hl4.get gs3
          have gx4 := hl4.get gx3
          have gm4 := hl4.get gm3
          have hv4 := hv3.mono hl4
          have hb4 := hb3.trans (hl4.but m)
          clear gs3 gx3 gm3 hv3 g2
          cases hfr : freeF l s i with
          | none =>
            have sn := wStore_new (h := h4) (zs := [.int .u64 0, .int .i64 0, .int .i64 0, .int .i64 0, .int .i64 0]) (v := s.val) (size := 5) (cs := s.cells) (by simp [St.val, Value.cells, St.cells]) rfl rfl rfl
            repeat' (first | simp -implicitDefEqProofs only [W_skip, W_reg, W_seq, W_rcond, W_cond, W_block, W_loop, W_exit, W_ret, thenQ_normal, thenQ_exit, thenQ_ret, blockQ_normal, blockQ_ret, blockQ_here, regQ_app, rcQ_app, cndK_t, cndK_f, RegW_nil, RegW_none, RegW_some, contW_app, grdK_tt, grdK_ff, grdK_tf, grdK_ft, grdK_undef, actK_p, actK_r, actK_a, actK_w, actK_call, actK_callV, heapK_app, allocK_app, writeK_app, ret1_ret, ret1_normal, ret0_ret, ret0_normal, ret2_ret2, thenK_app, retcv_ret, retcvK_app, optW_some, evs, Arg.ev, aP, aR, aA, aW, pMov, pBin, pUn, pConv, pPick, pFieldAddr, pNilCheck, pExtract, aBin, aUn, aInt, aNew, partL_f, upd, List.getElem?_cons_zero, List.getElem?_cons_succ, List.getD_cons_zero, List.getD_cons_succ, List.set_cons_zero, List.set_cons_succ, Nat.zero_add, Nat.add_zero, List.getElem?_toArray, List.take_zero, List.drop_zero, List.take_succ_cons, List.drop_succ_cons, if_true, if_false, decide_true, decide_false, Bool.false_eq_true, Bool.true_eq_false, Bool.not_true, Bool.not_false, not_true_eq_false, not_false_eq_true, ge_iff_le, gt_iff_lt, beq_self_eq_true, bne_self_eq_false, and_self, and_true, true_and, Option.isSome_some, Heap.get_alloc_same, Heap.alloc_getE, Option.isSome_none, Option.getD_none, *] | with_reducible refine cndK_d (fun hc => ?_) (fun hc => ?_) | with_reducible refine grdK_d (fun hc => ?_) (fun hc => ?_) | with_reducible refine cndK_i (fun hc => ?_) (fun hc => ?_) | with_reducible refine grdK_i (fun hc => ?_) (fun hc => ?_))
            have hl5 := (Heap.le.refl h4).alloc (.blk s.cells true)
            exact goOn.h hea hbt (fun s' hs' => by rw [hfr] at hs'; cases hs') _ _ (hb4.trans (hl5.but m)) (hl5.get gm4) hd1 _ _ _ _ _
          | some s' =>
            have sn := wStore_new (h := h4) (zs := [.int .u64 0, .int .i64 0, .int .i64 0, .int .i64 0, .int .i64 0]) (v := s'.val) (size := 5) (cs := s'.cells) (by simp [St.val, Value.cells, St.cells]) rfl rfl rfl
            have hl5 := (Heap.le.refl h4).alloc (.blk s'.cells true)
            obtain ⟨h5, hh5⟩ : ∃ x, h4.alloc (.blk s'.cells true) = x := ⟨_, rfl⟩
            obtain ⟨np, hnp⟩ : ∃ x, h4.next = x := ⟨_, rfl⟩
            have g5 : h5.get np = some (.blk s'.cells true) := by rw [← hh5, ← hnp]; exact Heap.get_alloc_same _ _
            rw [hnp, hh5] at sn
            rw [hh5] at hl5
            have gs5 := hl5.get gs4
            have gx5 := hl5.get gx4
            have gm5 := hl5.get gm4
            have hv5 := hv4.mono hl5
            have hb5 := hb4.trans (hl5.but m)
            repeat' (first | simp -implicitDefEqProofs only [W_skip, W_reg, W_seq, W_rcond, W_cond, W_block, W_loop, W_exit, W_ret, thenQ_normal, thenQ_exit, thenQ_ret, blockQ_normal, blockQ_ret, blockQ_here, regQ_app, rcQ_app, cndK_t, cndK_f, RegW_nil, RegW_none, RegW_some, contW_app, grdK_tt, grdK_ff, grdK_tf, grdK_ft, grdK_undef, actK_p, actK_r, actK_a, actK_w, actK_call, actK_callV, heapK_app, allocK_app, writeK_app, ret1_ret, ret1_normal, ret0_ret, ret0_normal, ret2_ret2, thenK_app, retcv_ret, retcvK_app, optW_some, evs, Arg.ev, aP, aR, aA, aW, pMov, pBin, pUn, pConv, pPick, pFieldAddr, pNilCheck, pExtract, aBin, aUn, aInt, aNew, partL_f, upd, List.getElem?_cons_zero, List.getElem?_cons_succ, List.getD_cons_zero, List.getD_cons_succ, List.set_cons_zero, List.set_cons_succ, Nat.zero_add, Nat.add_zero, List.getElem?_toArray, List.take_zero, List.drop_zero, List.take_succ_cons, List.drop_succ_cons, if_true, if_false, decide_true, decide_false, Bool.false_eq_true, Bool.true_eq_false, Bool.not_true, Bool.not_false, not_true_eq_false, not_false_eq_true, ge_iff_le, gt_iff_lt, beq_self_eq_true, bne_self_eq_false, and_self, and_true, true_and, Option.isSome_some, Heap.get_alloc_same, Heap.alloc_getE, Option.getD_some, St.part, *] | with_reducible refine cndK_d (fun hc => ?_) (fun hc => ?_) | with_reducible refine grdK_d (fun hc => ?_) (fun hc => ?_) | with_reducible refine cndK_i (fun hc => ?_) (fun hc => ?_) | with_reducible refine grdK_i (fun hc => ?_) (fun hc => ?_))
            have hlt2 : leftN l s'.p < n := by
              have := leftN_mark he hea hbt
              rw [free_p hfr]
              omega
            refine ih.h s' hlt2 (free_ok hev hl hs hlt hfr) hv5 gx5 gm5 hd1 _ fun b h6 es6 hbf hb6 hm6 hd6 => ?_
            have hb06 := hb5.trans hb6
            cases b with
            | true =>
              repeat' (first | simp -implicitDefEqProofs only [W_skip, W_reg, W_seq, W_rcond, W_cond, W_block, W_loop, W_exit, W_ret, thenQ_normal, thenQ_exit, thenQ_ret, blockQ_normal, blockQ_ret, blockQ_here, regQ_app, rcQ_app, cndK_t, cndK_f, RegW_nil, RegW_none, RegW_some, contW_app, grdK_tt, grdK_ff, grdK_tf, grdK_ft, grdK_undef, actK_p, actK_r, actK_a, actK_w, actK_call, actK_callV, heapK_app, allocK_app, writeK_app, ret1_ret, ret1_normal, ret0_ret, ret0_normal, ret2_ret2, thenK_app, retcv_ret, retcvK_app, optW_some, evs, Arg.ev, aP, aR, aA, aW, pMov, pBin, pUn, pConv, pPick, pFieldAddr, pNilCheck, pExtract, aBin, aUn, aInt, aNew, partL_f, upd, List.getElem?_cons_zero, List.getElem?_cons_succ, List.getD_cons_zero, List.getD_cons_succ, List.set_cons_zero, List.set_cons_succ, Nat.zero_add, Nat.add_zero, List.getElem?_toArray, List.take_zero, List.drop_zero, List.take_succ_cons, List.drop_succ_cons, if_true, if_false, decide_true, decide_false, Bool.false_eq_true, Bool.true_eq_false, Bool.not_true, Bool.not_false, not_true_eq_false, not_false_eq_true, ge_iff_le, gt_iff_lt, beq_self_eq_true, bne_self_eq_false, and_self, and_true, true_and, Option.isSome_some, Heap.get_alloc_same, Heap.alloc_getE, *] | with_reducible refine cndK_d (fun hc => ?_) (fun hc => ?_) | with_reducible refine grdK_d (fun hc => ?_) (fun hc => ?_) | with_reducible refine cndK_i (fun hc => ?_) (fun hc => ?_) | with_reducible refine grdK_i (fun hc => ?_) (fun hc => ?_))
              exact hq.h true h6 es6 (by simp only [true_iff]; exact Fin.step s s' i e he hea hbt hfr (hbf.1 rfl)) ((hl0'.but m).trans hb06) hm6 hd6
            | false =>
              repeat' (first | simp -implicitDefEqProofs only [W_skip, W_reg, W_seq, W_rcond, W_cond, W_block, W_loop, W_exit, W_ret, thenQ_normal, thenQ_exit, thenQ_ret, blockQ_normal, blockQ_ret, blockQ_here, regQ_app, rcQ_app, cndK_t, cndK_f, RegW_nil, RegW_none, RegW_some, contW_app, grdK_tt, grdK_ff, grdK_tf, grdK_ft, grdK_undef, actK_p, actK_r, actK_a, actK_w, actK_call, actK_callV, heapK_app, allocK_app, writeK_app, ret1_ret, ret1_normal, ret0_ret, ret0_normal, ret2_ret2, thenK_app, retcv_ret, retcvK_app, optW_some, evs, Arg.ev, aP, aR, aA, aW, pMov, pBin, pUn, pConv, pPick, pFieldAddr, pNilCheck, pExtract, aBin, aUn, aInt, aNew, partL_f, upd, List.getElem?_cons_zero, List.getElem?_cons_succ, List.getD_cons_zero, List.getD_cons_succ, List.set_cons_zero, List.set_cons_succ, Nat.zero_add, Nat.add_zero, List.getElem?_toArray, List.take_zero, List.drop_zero, List.take_succ_cons, List.drop_succ_cons, if_true, if_false, decide_true, decide_false, Bool.false_eq_true, Bool.true_eq_false, Bool.not_true, Bool.not_false, not_true_eq_false, not_false_eq_true, ge_iff_le, gt_iff_lt, beq_self_eq_true, bne_self_eq_false, and_self, and_true, true_and, Option.isSome_some, Heap.get_alloc_same, Heap.alloc_getE, *] | with_reducible refine cndK_d (fun hc => ?_) (fun hc => ?_) | with_reducible refine grdK_d (fun hc => ?_) (fun hc => ?_) | with_reducible refine cndK_i (fun hc => ?_) (fun hc => ?_) | with_reducible refine grdK_i (fun hc => ?_) (fun hc => ?_))
              exact goOn.h hea hbt (fun s2 hs2 => by rw [hfr] at hs2; cases hs2; exact fun hF => by simpa using hbf.2 hF) _ _ hb06 hm6 hd6 _ _ _ _ _
    · have hlt' : ¬ (i : Int) < l.length := by omega
      have : i = l.length := by omega
      subst this
      cases hany : (List.range l.length).any fun j => (l[j]?).any Ev.acc && !s.p.testBit j with
      | true =>
        have nofin : ¬ Fin l s := by
          intro hF
          rcases hF with ⟨_, h⟩ | ⟨_, s', j, ej, h, ha, hb, hf, hr⟩
          · obtain ⟨j, hj, hj2⟩ := List.any_eq_true.1 hany
            simp only [Bool.and_eq_true, Bool.not_eq_true'] at hj2
            obtain ⟨ej, hej⟩ : ∃ e, l[j]? = some e := ⟨_, List.getElem?_eq_getElem (by simpa using hj)⟩
            have := h j ej hej (by simpa [hej] using hj2.1)
            rw [this] at hj2; simp at hj2
          · exact hno.h j ej (List.getElem?_eq_some_iff.1 h).1 h ha hb s' hf hr
        obtain ⟨w1, w2⟩ := mapSet_dead hd1 hs nofin hm1
        repeat' (first | simp -implicitDefEqProofs only [W_skip, W_reg, W_seq, W_rcond, W_cond, W_block, W_loop, W_exit, W_ret, thenQ_normal, thenQ_exit, thenQ_ret, blockQ_normal, blockQ_ret, blockQ_here, regQ_app, rcQ_app, cndK_t, cndK_f, RegW_nil, RegW_none, RegW_some, contW_app, grdK_tt, grdK_ff, grdK_tf, grdK_ft, grdK_undef, actK_p, actK_r, actK_a, actK_w, actK_call, actK_callV, heapK_app, allocK_app, writeK_app, ret1_ret, ret1_normal, ret0_ret, ret0_normal, ret2_ret2, thenK_app, retcv_ret, retcvK_app, optW_some, evs, Arg.ev, aP, aR, aA, aW, pMov, pBin, pUn, pConv, pPick, pFieldAddr, pNilCheck, pExtract, aBin, aUn, aInt, aNew, partL_f, upd, List.getElem?_cons_zero, List.getElem?_cons_succ, List.getD_cons_zero, List.getD_cons_succ, List.set_cons_zero, List.set_cons_succ, Nat.zero_add, Nat.add_zero, List.getElem?_toArray, List.take_zero, List.drop_zero, List.take_succ_cons, List.drop_succ_cons, if_true, if_false, decide_true, decide_false, Bool.false_eq_true, Bool.true_eq_false, Bool.not_true, Bool.not_false, not_true_eq_false, not_false_eq_true, ge_iff_le, gt_iff_lt, beq_self_eq_true, bne_self_eq_false, and_self, and_true, true_and, Option.isSome_some, Heap.get_alloc_same, Heap.alloc_getE, St.part, *] | with_reducible refine cndK_d (fun hc => ?_) (fun hc => ?_) | with_reducible refine grdK_d (fun hc => ?_) (fun hc => ?_) | with_reducible refine cndK_i (fun hc => ?_) (fun hc => ?_) | with_reducible refine grdK_i (fun hc => ?_) (fun hc => ?_))
        exact hq.h false _ _ (by simpa using nofin) (hbh.trans (Heap.leBut.set _ _ _)) (Heap.set_getS _ _ _ (by rw [hm1]; rfl)) w2
      | false =>
        have isfin : Fin l s := Fin.done s fun j ej hej haj => by
          have := List.any_eq_false.1 hany j (by simpa using (List.getElem?_eq_some_iff.1 hej).1)
          simp only [hej, Option.any_some, haj, Bool.true_and, Bool.not_eq_true', Bool.not_eq_false'] at this
          simpa using this
        repeat' (first | simp -implicitDefEqProofs only [W_skip, W_reg, W_seq, W_rcond, W_cond, W_block, W_loop, W_exit, W_ret, thenQ_normal, thenQ_exit, thenQ_ret, blockQ_normal, blockQ_ret, blockQ_here, regQ_app, rcQ_app, cndK_t, cndK_f, RegW_nil, RegW_none, RegW_some, contW_app, grdK_tt, grdK_ff, grdK_tf, grdK_ft, grdK_undef, actK_p, actK_r, actK_a, actK_w, actK_call, actK_callV, heapK_app, allocK_app, writeK_app, ret1_ret, ret1_normal, ret0_ret, ret0_normal, ret2_ret2, thenK_app, retcv_ret, retcvK_app, optW_some, evs, Arg.ev, aP, aR, aA, aW, pMov, pBin, pUn, pConv, pPick, pFieldAddr, pNilCheck, pExtract, aBin, aUn, aInt, aNew, partL_f, upd, List.getElem?_cons_zero, List.getElem?_cons_succ, List.getD_cons_zero, List.getD_cons_succ, List.set_cons_zero, List.set_cons_succ, Nat.zero_add, Nat.add_zero, List.getElem?_toArray, List.take_zero, List.drop_zero, List.take_succ_cons, List.drop_succ_cons, if_true, if_false, decide_true, decide_false, Bool.false_eq_true, Bool.true_eq_false, Bool.not_true, Bool.not_false, not_true_eq_false, not_false_eq_true, ge_iff_le, gt_iff_lt, beq_self_eq_true, bne_self_eq_false, and_self, and_true, true_and, Option.isSome_some, Heap.get_alloc_same, Heap.alloc_getE, *] | with_reducible refine cndK_d (fun hc => ?_) (fun hc => ?_) | with_reducible refine grdK_d (fun hc => ?_) (fun hc => ?_) | with_reducible refine cndK_i (fun hc => ?_) (fun hc => ?_) | with_reducible refine grdK_i (fun hc => ?_) (fun hc => ?_))
        exact hq.h true _ _ (by simpa using isfin) hbh hm1 hd1
end Go.Eng.Ax

set_option linter.unusedSimpArgs false
set_option linter.unusedVariables false
namespace Go.Eng.Ax
open Go Go.Eng Go.Proofs

theorem sl_cell {h : Heap} {s : Nat} {v : Value} {xs : List (List Value)} (hv : SlV h s v xs) : v.cells.toList = [v] ∧ v.oneCell' = true := by
  rcases hv with ⟨rfl, _⟩ | ⟨id, off, rfl, _⟩ <;> exact ⟨rfl, rfl⟩
def st0 : St := ⟨0, 0, 0, 0, 0⟩
theorem right_ok {l : List Ev} (h : right l = true) : l.length ≤ 8 ∧ ∀ e ∈ l, EvOk e := by
  simp only [right, Bool.and_eq_true, decide_eq_true_eq, List.all_eq_true] at h
  exact ⟨h.1, fun e he => may_ok (h.2 e he)⟩
theorem Allowed_c {v : Value} {l : List Ev} {h : Heap} (hv : Evs h v l) (hl63 : (l.length : Int) ≤ 9223372036854775807) (Q : Value → Heap → Prop)
    (hq : ∀ b h', (b = true ↔ right l = true ∧ Fin l st0) → h.le h' → Q (.bool b) h') : CallW Try.prog 23 [v] h Q := by
  refine call_of1 (k := 1) ok23 rfl rfl rfl fun N => ?_
  rw [show env0 c23 [v] = [v, undef, undef] from rfl]
  delta c23 c23_r0 c23_r1 c23_r2
  replace hq := Hid.mk hq
  obtain ⟨c1, c2⟩ := sl_cell hv
  obtain ⟨m, hm⟩ : ∃ x, h.next = x := ⟨_, rfl⟩
  obtain ⟨xp, hxp⟩ : ∃ x, (h.alloc (.map [] true)).next = x := ⟨_, rfl⟩
  obtain ⟨h0, hh0⟩ : ∃ x, (h.alloc (.map [] true)).alloc (.blk [v, .map (some m)] true) = x := ⟨_, rfl⟩
  have hl0 : h.le h0 := by rw [← hh0]; exact ((Heap.le.refl h).alloc _).alloc _
  have gm : h0.get m = some (.map [] true) := by rw [← hh0, ← hm]; exact ((Heap.le.refl _).alloc _ : (h.alloc (.map [] true)).le _).get (Heap.get_alloc_same _ _)
  have gx : h0.get xp = some (.blk [v, .map (some m)] true) := by rw [← hh0, ← hxp]; exact Heap.get_alloc_same _ _
  have b1 : pBuild [.slice none 0 0, .map none] [(0, 1), (1, 1)] [v, .map (some m)] = some (.agg #[v, .map (some m)]) := by
    rcases hv with ⟨rfl, _⟩ | ⟨id, off, rfl, _⟩ <;> rfl
  have b2 : aBox [.agg #[v, .map (some m)]] = some ([v, .map (some m)], fun id => .pointer (some ⟨id, 0, none⟩)) := by
    rcases hv with ⟨rfl, _⟩ | ⟨id, off, rfl, _⟩ <;> rfl
  have b3 : pBuild [.int .u64 0, .int .i64 0, .int .i64 0, .int .i64 0, .int .i64 0] [] [] = some st0.val := rfl
  repeat' (first | simp -implicitDefEqProofs only [W_skip, W_reg, W_seq, W_rcond, W_cond, W_block, W_loop, W_exit, W_ret, thenQ_normal, thenQ_exit, thenQ_ret, blockQ_normal, blockQ_ret, blockQ_here, regQ_app, rcQ_app, cndK_t, cndK_f, RegW_nil, RegW_none, RegW_some, contW_app, grdK_tt, grdK_ff, grdK_tf, grdK_ft, grdK_undef, actK_p, actK_r, actK_a, actK_w, actK_call, actK_callV, heapK_app, allocK_app, writeK_app, ret1_ret, ret1_normal, ret0_ret, ret0_normal, ret2_ret2, thenK_app, retcv_ret, retcvK_app, optW_some, evs, Arg.ev, aP, aR, aA, aW, pMov, pBin, pUn, pConv, pPick, pFieldAddr, pNilCheck, pExtract, aBin, aUn, aInt, aNew, partL_f, upd, List.getElem?_cons_zero, List.getElem?_cons_succ, List.getD_cons_zero, List.getD_cons_succ, List.set_cons_zero, List.set_cons_succ, Nat.zero_add, Nat.add_zero, List.getElem?_toArray, List.take_zero, List.drop_zero, List.take_succ_cons, List.drop_succ_cons, if_true, if_false, decide_true, decide_false, Bool.false_eq_true, Bool.true_eq_false, Bool.not_true, Bool.not_false, not_true_eq_false, not_false_eq_true, ge_iff_le, gt_iff_lt, beq_self_eq_true, bne_self_eq_false, and_self, and_true, true_and, Option.isSome_some, Heap.get_alloc_same, Heap.alloc_getE, *] | with_reducible refine cndK_d (fun hc => ?_) (fun hc => ?_) | with_reducible refine grdK_d (fun hc => ?_) (fun hc => ?_) | with_reducible refine cndK_i (fun hc => ?_) (fun hc => ?_) | with_reducible refine grdK_i (fun hc => ?_) (fun hc => ?_))
  refine right_c (hv.mono hl0) hl63 _ fun v1 h1 hv1 hl1 => ?_
  subst hv1
  cases hr : right l with
  | false =>
    repeat' (first | simp -implicitDefEqProofs only [W_skip, W_reg, W_seq, W_rcond, W_cond, W_block, W_loop, W_exit, W_ret, thenQ_normal, thenQ_exit, thenQ_ret, blockQ_normal, blockQ_ret, blockQ_here, regQ_app, rcQ_app, cndK_t, cndK_f, RegW_nil, RegW_none, RegW_some, contW_app, grdK_tt, grdK_ff, grdK_tf, grdK_ft, grdK_undef, actK_p, actK_r, actK_a, actK_w, actK_call, actK_callV, heapK_app, allocK_app, writeK_app, ret1_ret, ret1_normal, ret0_ret, ret0_normal, ret2_ret2, thenK_app, retcv_ret, retcvK_app, optW_some, evs, Arg.ev, aP, aR, aA, aW, pMov, pBin, pUn, pConv, pPick, pFieldAddr, pNilCheck, pExtract, aBin, aUn, aInt, aNew, partL_f, upd, List.getElem?_cons_zero, List.getElem?_cons_succ, List.getD_cons_zero, List.getD_cons_succ, List.set_cons_zero, List.set_cons_succ, Nat.zero_add, Nat.add_zero, List.getElem?_toArray, List.take_zero, List.drop_zero, List.take_succ_cons, List.drop_succ_cons, if_true, if_false, decide_true, decide_false, Bool.false_eq_true, Bool.true_eq_false, Bool.not_true, Bool.not_false, not_true_eq_false, not_false_eq_true, ge_iff_le, gt_iff_lt, beq_self_eq_true, bne_self_eq_false, and_self, and_true, true_and, Option.isSome_some, Heap.get_alloc_same, Heap.alloc_getE, *] | with_reducible refine cndK_d (fun hc => ?_) (fun hc => ?_) | with_reducible refine grdK_d (fun hc => ?_) (fun hc => ?_) | with_reducible refine cndK_i (fun hc => ?_) (fun hc => ?_) | with_reducible refine grdK_i (fun hc => ?_) (fun hc => ?_))
    exact hq.h false h1 (by simp [hr]) (hl0.trans hl1)
  | true =>
    obtain ⟨hl8, hev⟩ := right_ok hr
    repeat' (first | simp -implicitDefEqProofs only [W_skip, W_reg, W_seq, W_rcond, W_cond, W_block, W_loop, W_exit, W_ret, thenQ_normal, thenQ_exit, thenQ_ret, blockQ_normal, blockQ_ret, blockQ_here, regQ_app, rcQ_app, cndK_t, cndK_f, RegW_nil, RegW_none, RegW_some, contW_app, grdK_tt, grdK_ff, grdK_tf, grdK_ft, grdK_undef, actK_p, actK_r, actK_a, actK_w, actK_call, actK_callV, heapK_app, allocK_app, writeK_app, ret1_ret, ret1_normal, ret0_ret, ret0_normal, ret2_ret2, thenK_app, retcv_ret, retcvK_app, optW_some, evs, Arg.ev, aP, aR, aA, aW, pMov, pBin, pUn, pConv, pPick, pFieldAddr, pNilCheck, pExtract, aBin, aUn, aInt, aNew, partL_f, upd, List.getElem?_cons_zero, List.getElem?_cons_succ, List.getD_cons_zero, List.getD_cons_succ, List.set_cons_zero, List.set_cons_succ, Nat.zero_add, Nat.add_zero, List.getElem?_toArray, List.take_zero, List.drop_zero, List.take_succ_cons, List.drop_succ_cons, if_true, if_false, decide_true, decide_false, Bool.false_eq_true, Bool.true_eq_false, Bool.not_true, Bool.not_false, not_true_eq_false, not_false_eq_true, ge_iff_le, gt_iff_lt, beq_self_eq_true, bne_self_eq_false, and_self, and_true, true_and, Option.isSome_some, Heap.get_alloc_same, Heap.alloc_getE, *] | with_reducible refine cndK_d (fun hc => ?_) (fun hc => ?_) | with_reducible refine grdK_d (fun hc => ?_) (fun hc => ?_) | with_reducible refine cndK_i (fun hc => ?_) (fun hc => ?_) | with_reducible refine grdK_i (fun hc => ?_) (fun hc => ?_))
    refine search_c (by omega) hev _ st0 (Nat.lt_succ_self _) ⟨by decide, fun k hk => by rcases k with _ | _ | _ | _ | k <;> first | (exact ⟨by decide, by decide⟩) | omega⟩ ((hv.mono hl0).mono hl1) (hl1.get gx) (hl1.get gm) (fun e he => by simp at he) _ fun b h2 es' hb hb2 _ _ => ?_
    repeat' (first | simp -implicitDefEqProofs only [W_skip, W_reg, W_seq, W_rcond, W_cond, W_block, W_loop, W_exit, W_ret, thenQ_normal, thenQ_exit, thenQ_ret, blockQ_normal, blockQ_ret, blockQ_here, regQ_app, rcQ_app, cndK_t, cndK_f, RegW_nil, RegW_none, RegW_some, contW_app, grdK_tt, grdK_ff, grdK_tf, grdK_ft, grdK_undef, actK_p, actK_r, actK_a, actK_w, actK_call, actK_callV, heapK_app, allocK_app, writeK_app, ret1_ret, ret1_normal, ret0_ret, ret0_normal, ret2_ret2, thenK_app, retcv_ret, retcvK_app, optW_some, evs, Arg.ev, aP, aR, aA, aW, pMov, pBin, pUn, pConv, pPick, pFieldAddr, pNilCheck, pExtract, aBin, aUn, aInt, aNew, partL_f, upd, List.getElem?_cons_zero, List.getElem?_cons_succ, List.getD_cons_zero, List.getD_cons_succ, List.set_cons_zero, List.set_cons_succ, Nat.zero_add, Nat.add_zero, List.getElem?_toArray, List.take_zero, List.drop_zero, List.take_succ_cons, List.drop_succ_cons, if_true, if_false, decide_true, decide_false, Bool.false_eq_true, Bool.true_eq_false, Bool.not_true, Bool.not_false, not_true_eq_false, not_false_eq_true, ge_iff_le, gt_iff_lt, beq_self_eq_true, bne_self_eq_false, and_self, and_true, true_and, Option.isSome_some, Heap.get_alloc_same, Heap.alloc_getE, *] | with_reducible refine cndK_d (fun hc => ?_) (fun hc => ?_) | with_reducible refine grdK_d (fun hc => ?_) (fun hc => ?_) | with_reducible refine cndK_i (fun hc => ?_) (fun hc => ?_) | with_reducible refine grdK_i (fun hc => ?_) (fun hc => ?_))
    refine hq.h b h2 (by rw [hb]; simp [hr]) (Heap.leBut.le (hl0.trans hl1) ?_ hb2)
    omega
end Go.Eng.Ax

set_option linter.unusedSimpArgs false
set_option linter.unusedVariables false
namespace Go.Eng.Ax
open Go Go.Eng Go.Proofs

def finB (l : List Ev) : Nat → St → Bool
  | 0, _ => false
  | n + 1, s => ((List.range l.length).all fun i => !((l[i]?).any Ev.acc && !s.p.testBit i)) ||
      (List.range l.length).any fun i => (l[i]?).any Ev.acc && !s.p.testBit i && (match freeF l s i with | some s' => finB l n s' | none => false)
theorem finB_iff (l : List Ev) : ∀ (n : Nat) (s : St), leftN l s.p < n → (finB l n s = true ↔ Fin l s)
  | 0, s, h => by omega
  | n + 1, s, h => by
    rw [finB, Bool.or_eq_true, List.all_eq_true, List.any_eq_true]
    constructor
    · rintro (h1 | ⟨i, hi, h1⟩)
      · refine Fin.done s fun i e he ha => ?_
        have := h1 i (by simpa using (List.getElem?_eq_some_iff.1 he).1)
        simpa [he, ha] using this
      · simp only [Bool.and_eq_true, Bool.not_eq_true'] at h1
        obtain ⟨e, he⟩ : ∃ e, l[i]? = some e := ⟨_, List.getElem?_eq_getElem (by simpa using hi)⟩
        have ha : e.acc = true := by simpa [he] using h1.1.1
        cases hf : freeF l s i with
        | none => rw [hf] at h1; simp at h1
        | some s' =>
          rw [hf] at h1
          refine Fin.step s s' i e he ha h1.1.2 hf ((finB_iff l n s' ?_).1 h1.2)
          have := leftN_mark he ha h1.1.2
          rw [free_p hf]; omega
    · rintro (⟨_, h1⟩ | ⟨_, s', i, e, he, ha, hb, hf, hr⟩)
      · left
        intro i hi
        obtain ⟨e, he⟩ : ∃ e, l[i]? = some e := ⟨_, List.getElem?_eq_getElem (by simpa using hi)⟩
        cases ha : e.acc
        · simp [he, ha]
        · simp [he, ha, h1 i e he ha]
      · right
        refine ⟨i, by simpa using (List.getElem?_eq_some_iff.1 he).1, ?_⟩
        have := leftN_mark he ha hb
        rw [hf]
        simp only [he, Option.any_some, ha, hb, Bool.not_false, Bool.and_self, Bool.true_and]
        exact (finB_iff l n s' (by rw [free_p hf]; omega)).2 hr

theorem evs_new (h : Heap) (l : List Ev) : Evs (h.alloc (.blk (l.map Ev.cells).flatten true)) (.slice (some ⟨h.next, 0, none⟩) l.length 4) l := by
  refine OwnS.sl (h0 := ⟨0, fun _ => none, fun _ _ => rfl⟩) (.inr ⟨h.next, by simp, Nat.zero_le _, Heap.get_alloc_same _ _, ?_⟩)
  intro x hx
  obtain ⟨z, _, rfl⟩ := List.mem_map.1 hx
  rfl
theorem ints_new (h : Heap) (l : List Int) : Ints (h.alloc (.blk (l.map (Value.int .i64)) true)) (.slice (some ⟨h.next, 0, none⟩) l.length 1) l := by
  refine OwnS.sl (h0 := ⟨0, fun _ => none, fun _ _ => rfl⟩) (.inr ⟨h.next, by simp, Nat.zero_le _, by rw [Heap.get_alloc_same]; exact congrArg (fun z => some (AObj.blk z true)) (flat_icells l).symm, ?_⟩)
  intro x hx
  obtain ⟨z, _, rfl⟩ := List.mem_map.1 hx
  rfl

def aw4 : List Ev := [⟨0, 2, 0, 1⟩, ⟨0, 1, 1, 0⟩, ⟨1, 2, 1, 1⟩, ⟨1, 1, 0, 0⟩]
def aw6 : List Ev := [⟨0, 2, 0, 1⟩, ⟨0, 3, 0, 0⟩, ⟨0, 1, 1, 0⟩, ⟨1, 2, 1, 1⟩, ⟨1, 3, 0, 0⟩, ⟨1, 1, 0, 0⟩]
theorem aw4_fin : right aw4 = true ∧ Fin aw4 st0 := ⟨by decide, (finB_iff aw4 5 st0 (by decide)).1 (by decide +kernel)⟩
theorem aw6_fin : ¬ (right aw6 = true ∧ Fin aw6 st0) := fun h => by
  have := (finB_iff aw6 5 st0 (by decide)).2 h.2
  revert this; decide +kernel

theorem awake_c (h : Heap) (Q : Value → Heap → Prop) (hq : ∀ h', h.le h' → Q (.bool true) h') : CallW Try.prog 11 [] h Q := by
  refine call_of1 (k := 0) ok11 rfl rfl rfl fun N => ?_
  rw [show env0 c11 [] = [undef, undef, undef, undef, undef] from rfl]
  delta c11 c11_r0 c11_r1 c11_r2 c11_r3 c11_r4
  replace hq := Hid.mk hq
  simp -implicitDefEqProofs only [W_skip, W_reg, W_seq, W_rcond, W_cond, W_block, W_loop, W_exit, W_ret, thenQ_normal, thenQ_exit, thenQ_ret, blockQ_normal, blockQ_ret, blockQ_here, regQ_app, rcQ_app, cndK_t, cndK_f, RegW_nil, RegW_none, RegW_some, contW_app, grdK_tt, grdK_ff, grdK_tf, grdK_ft, grdK_undef, actK_p, actK_r, actK_a, actK_w, actK_call, actK_callV, heapK_app, allocK_app, writeK_app, ret1_ret, ret1_normal, ret0_ret, ret0_normal, ret2_ret2, thenK_app, retcv_ret, retcvK_app, optW_some, evs, Arg.ev, aP, aR, aA, aW, pMov, pBin, pUn, pConv, pPick, pFieldAddr, pNilCheck, pExtract, aBin, aUn, aInt, aNew, partL_f, upd, List.getElem?_cons_zero, List.getElem?_cons_succ, List.getD_cons_zero, List.getD_cons_succ, List.set_cons_zero, List.set_cons_succ, Nat.zero_add, Nat.add_zero, List.getElem?_toArray, List.take_zero, List.drop_zero, List.take_succ_cons, List.drop_succ_cons, if_true, if_false, decide_true, decide_false, Bool.false_eq_true, Bool.true_eq_false, Bool.not_true, Bool.not_false, not_true_eq_false, not_false_eq_true, ge_iff_le, gt_iff_lt, beq_self_eq_true, bne_self_eq_false, and_self, and_true, true_and, Option.isSome_some, Heap.get_alloc_same, Heap.alloc_getE]
  iterate 4 (refine optW_of rfl ?_; simp -implicitDefEqProofs only [W_skip, W_reg, W_seq, W_rcond, W_cond, W_block, W_loop, W_exit, W_ret, thenQ_normal, thenQ_exit, thenQ_ret, blockQ_normal, blockQ_ret, blockQ_here, regQ_app, rcQ_app, cndK_t, cndK_f, RegW_nil, RegW_none, RegW_some, contW_app, grdK_tt, grdK_ff, grdK_tf, grdK_ft, grdK_undef, actK_p, actK_r, actK_a, actK_w, actK_call, actK_callV, heapK_app, allocK_app, writeK_app, ret1_ret, ret1_normal, ret0_ret, ret0_normal, ret2_ret2, thenK_app, retcv_ret, retcvK_app, optW_some, evs, Arg.ev, aP, aR, aA, aW, pMov, pBin, pUn, pConv, pPick, pFieldAddr, pNilCheck, pExtract, aBin, aUn, aInt, aNew, partL_f, upd, List.getElem?_cons_zero, List.getElem?_cons_succ, List.getD_cons_zero, List.getD_cons_succ, List.set_cons_zero, List.set_cons_succ, Nat.zero_add, Nat.add_zero, List.getElem?_toArray, List.take_zero, List.drop_zero, List.take_succ_cons, List.drop_succ_cons, if_true, if_false, decide_true, decide_false, Bool.false_eq_true, Bool.true_eq_false, Bool.not_true, Bool.not_false, not_true_eq_false, not_false_eq_true, ge_iff_le, gt_iff_lt, beq_self_eq_true, bne_self_eq_false, and_self, and_true, true_and, Option.isSome_some, Heap.get_alloc_same, Heap.alloc_getE])
  refine optW_of (x := ((aw4.map Ev.cells).flatten, fun id => .slice (some ⟨id, 0, none⟩) 4 4)) rfl ?_
  obtain ⟨h1, hh1⟩ : ∃ x, h.alloc (.blk (aw4.map Ev.cells).flatten true) = x := ⟨_, rfl⟩
  obtain ⟨v1, hv1⟩ : ∃ x, Value.slice (some ⟨h.next, 0, none⟩) 4 4 = x := ⟨_, rfl⟩
  have e1 : Evs h1 v1 aw4 := by rw [← hh1, ← hv1]; exact evs_new h aw4
  have hl1 : h.le h1 := by rw [← hh1]; exact (Heap.le.refl h).alloc _
  simp -implicitDefEqProofs only [W_skip, W_reg, W_seq, W_rcond, W_cond, W_block, W_loop, W_exit, W_ret, thenQ_normal, thenQ_exit, thenQ_ret, blockQ_normal, blockQ_ret, blockQ_here, regQ_app, rcQ_app, cndK_t, cndK_f, RegW_nil, RegW_none, RegW_some, contW_app, grdK_tt, grdK_ff, grdK_tf, grdK_ft, grdK_undef, actK_p, actK_r, actK_a, actK_w, actK_call, actK_callV, heapK_app, allocK_app, writeK_app, ret1_ret, ret1_normal, ret0_ret, ret0_normal, ret2_ret2, thenK_app, retcv_ret, retcvK_app, optW_some, evs, Arg.ev, aP, aR, aA, aW, pMov, pBin, pUn, pConv, pPick, pFieldAddr, pNilCheck, pExtract, aBin, aUn, aInt, aNew, partL_f, upd, List.getElem?_cons_zero, List.getElem?_cons_succ, List.getD_cons_zero, List.getD_cons_succ, List.set_cons_zero, List.set_cons_succ, Nat.zero_add, Nat.add_zero, List.getElem?_toArray, List.take_zero, List.drop_zero, List.take_succ_cons, List.drop_succ_cons, if_true, if_false, decide_true, decide_false, Bool.false_eq_true, Bool.true_eq_false, Bool.not_true, Bool.not_false, not_true_eq_false, not_false_eq_true, ge_iff_le, gt_iff_lt, beq_self_eq_true, bne_self_eq_false, and_self, and_true, true_and, Option.isSome_some, Heap.get_alloc_same, Heap.alloc_getE, hh1, hv1]
  obtain ⟨i0, o0, q0, w0, a0, b0, d0, _⟩ := e1.elem (i := 0) rfl
  obtain ⟨i1, o1, q1, w1, a1, b1, d1, _⟩ := e1.elem (i := 1) rfl
  obtain ⟨i2, o2, q2, w2, a2, b2, d2, _⟩ := e1.elem (i := 2) rfl
  obtain ⟨i3, o3, q3, w3, a3, b3, d3, _⟩ := e1.elem (i := 3) rfl
  change pIdxAddrS 4 [v1, .int .i64 0] = _ at a0
  change pIdxAddrS 4 [v1, .int .i64 1] = _ at a1
  change pIdxAddrS 4 [v1, .int .i64 2] = _ at a2
  change pIdxAddrS 4 [v1, .int .i64 3] = _ at a3
  simp -implicitDefEqProofs only [W_skip, W_reg, W_seq, W_rcond, W_cond, W_block, W_loop, W_exit, W_ret, thenQ_normal, thenQ_exit, thenQ_ret, blockQ_normal, blockQ_ret, blockQ_here, regQ_app, rcQ_app, cndK_t, cndK_f, RegW_nil, RegW_none, RegW_some, contW_app, grdK_tt, grdK_ff, grdK_tf, grdK_ft, grdK_undef, actK_p, actK_r, actK_a, actK_w, actK_call, actK_callV, heapK_app, allocK_app, writeK_app, ret1_ret, ret1_normal, ret0_ret, ret0_normal, ret2_ret2, thenK_app, retcv_ret, retcvK_app, optW_some, evs, Arg.ev, aP, aR, aA, aW, pMov, pBin, pUn, pConv, pPick, pFieldAddr, pNilCheck, pExtract, aBin, aUn, aInt, aNew, partL_f, upd, List.getElem?_cons_zero, List.getElem?_cons_succ, List.getD_cons_zero, List.getD_cons_succ, List.set_cons_zero, List.set_cons_succ, Nat.zero_add, Nat.add_zero, List.getElem?_toArray, List.take_zero, List.drop_zero, List.take_succ_cons, List.drop_succ_cons, if_true, if_false, decide_true, decide_false, Bool.false_eq_true, Bool.true_eq_false, Bool.not_true, Bool.not_false, not_true_eq_false, not_false_eq_true, ge_iff_le, gt_iff_lt, beq_self_eq_true, bne_self_eq_false, and_self, and_true, true_and, Option.isSome_some, Heap.get_alloc_same, Heap.alloc_getE, a0, a1, a2, a3, b0, b1, b2, b3, d0, d1, d2, d3]
  refine optW_of rfl ?_
  simp -implicitDefEqProofs only [W_skip, W_reg, W_seq, W_rcond, W_cond, W_block, W_loop, W_exit, W_ret, thenQ_normal, thenQ_exit, thenQ_ret, blockQ_normal, blockQ_ret, blockQ_here, regQ_app, rcQ_app, cndK_t, cndK_f, RegW_nil, RegW_none, RegW_some, contW_app, grdK_tt, grdK_ff, grdK_tf, grdK_ft, grdK_undef, actK_p, actK_r, actK_a, actK_w, actK_call, actK_callV, heapK_app, allocK_app, writeK_app, ret1_ret, ret1_normal, ret0_ret, ret0_normal, ret2_ret2, thenK_app, retcv_ret, retcvK_app, optW_some, evs, Arg.ev, aP, aR, aA, aW, pMov, pBin, pUn, pConv, pPick, pFieldAddr, pNilCheck, pExtract, aBin, aUn, aInt, aNew, partL_f, upd, List.getElem?_cons_zero, List.getElem?_cons_succ, List.getD_cons_zero, List.getD_cons_succ, List.set_cons_zero, List.set_cons_succ, Nat.zero_add, Nat.add_zero, List.getElem?_toArray, List.take_zero, List.drop_zero, List.take_succ_cons, List.drop_succ_cons, if_true, if_false, decide_true, decide_false, Bool.false_eq_true, Bool.true_eq_false, Bool.not_true, Bool.not_false, not_true_eq_false, not_false_eq_true, ge_iff_le, gt_iff_lt, beq_self_eq_true, bne_self_eq_false, and_self, and_true, true_and, Option.isSome_some, Heap.get_alloc_same, Heap.alloc_getE, a0, a1, a2, a3, b0, b1, b2, b3, d0, d1, d2, d3]
  refine optW_of rfl ?_
  simp -implicitDefEqProofs only [W_skip, W_reg, W_seq, W_rcond, W_cond, W_block, W_loop, W_exit, W_ret, thenQ_normal, thenQ_exit, thenQ_ret, blockQ_normal, blockQ_ret, blockQ_here, regQ_app, rcQ_app, cndK_t, cndK_f, RegW_nil, RegW_none, RegW_some, contW_app, grdK_tt, grdK_ff, grdK_tf, grdK_ft, grdK_undef, actK_p, actK_r, actK_a, actK_w, actK_call, actK_callV, heapK_app, allocK_app, writeK_app, ret1_ret, ret1_normal, ret0_ret, ret0_normal, ret2_ret2, thenK_app, retcv_ret, retcvK_app, optW_some, evs, Arg.ev, aP, aR, aA, aW, pMov, pBin, pUn, pConv, pPick, pFieldAddr, pNilCheck, pExtract, aBin, aUn, aInt, aNew, partL_f, upd, List.getElem?_cons_zero, List.getElem?_cons_succ, List.getD_cons_zero, List.getD_cons_succ, List.set_cons_zero, List.set_cons_succ, Nat.zero_add, Nat.add_zero, List.getElem?_toArray, List.take_zero, List.drop_zero, List.take_succ_cons, List.drop_succ_cons, if_true, if_false, decide_true, decide_false, Bool.false_eq_true, Bool.true_eq_false, Bool.not_true, Bool.not_false, not_true_eq_false, not_false_eq_true, ge_iff_le, gt_iff_lt, beq_self_eq_true, bne_self_eq_false, and_self, and_true, true_and, Option.isSome_some, Heap.get_alloc_same, Heap.alloc_getE, a0, a1, a2, a3, b0, b1, b2, b3, d0, d1, d2, d3]
  refine optW_of (x := ((aw6.map Ev.cells).flatten, fun id => .slice (some ⟨id, 0, none⟩) 6 4)) rfl ?_
  obtain ⟨h2, hh2⟩ : ∃ x, h1.alloc (.blk (aw6.map Ev.cells).flatten true) = x := ⟨_, rfl⟩
  obtain ⟨v2, hv2⟩ : ∃ x, Value.slice (some ⟨h1.next, 0, none⟩) 6 4 = x := ⟨_, rfl⟩
  have e2 : Evs h2 v2 aw6 := by rw [← hh2, ← hv2]; exact evs_new h1 aw6
  have hl2 : h1.le h2 := by rw [← hh2]; exact (Heap.le.refl h1).alloc _
  simp -implicitDefEqProofs only [W_skip, W_reg, W_seq, W_rcond, W_cond, W_block, W_loop, W_exit, W_ret, thenQ_normal, thenQ_exit, thenQ_ret, blockQ_normal, blockQ_ret, blockQ_here, regQ_app, rcQ_app, cndK_t, cndK_f, RegW_nil, RegW_none, RegW_some, contW_app, grdK_tt, grdK_ff, grdK_tf, grdK_ft, grdK_undef, actK_p, actK_r, actK_a, actK_w, actK_call, actK_callV, heapK_app, allocK_app, writeK_app, ret1_ret, ret1_normal, ret0_ret, ret0_normal, ret2_ret2, thenK_app, retcv_ret, retcvK_app, optW_some, evs, Arg.ev, aP, aR, aA, aW, pMov, pBin, pUn, pConv, pPick, pFieldAddr, pNilCheck, pExtract, aBin, aUn, aInt, aNew, partL_f, upd, List.getElem?_cons_zero, List.getElem?_cons_succ, List.getD_cons_zero, List.getD_cons_succ, List.set_cons_zero, List.set_cons_succ, Nat.zero_add, Nat.add_zero, List.getElem?_toArray, List.take_zero, List.drop_zero, List.take_succ_cons, List.drop_succ_cons, if_true, if_false, decide_true, decide_false, Bool.false_eq_true, Bool.true_eq_false, Bool.not_true, Bool.not_false, not_true_eq_false, not_false_eq_true, ge_iff_le, gt_iff_lt, beq_self_eq_true, bne_self_eq_false, and_self, and_true, true_and, Option.isSome_some, Heap.get_alloc_same, Heap.alloc_getE, hh2, hv2]
  refine optW_of (x := (([0, 1, 2, 3] : List Int).map (Value.int .i64), fun id => .slice (some ⟨id, 0, none⟩) 4 1)) rfl ?_
  have e3 := ints_new h2 [0, 1, 2, 3]
  have hl3 := (Heap.le.refl h2).alloc (.blk (([0, 1, 2, 3] : List Int).map (Value.int .i64)) true)
  simp -implicitDefEqProofs only [W_skip, W_reg, W_seq, W_rcond, W_cond, W_block, W_loop, W_exit, W_ret, thenQ_normal, thenQ_exit, thenQ_ret, blockQ_normal, blockQ_ret, blockQ_here, regQ_app, rcQ_app, cndK_t, cndK_f, RegW_nil, RegW_none, RegW_some, contW_app, grdK_tt, grdK_ff, grdK_tf, grdK_ft, grdK_undef, actK_p, actK_r, actK_a, actK_w, actK_call, actK_callV, heapK_app, allocK_app, writeK_app, ret1_ret, ret1_normal, ret0_ret, ret0_normal, ret2_ret2, thenK_app, retcv_ret, retcvK_app, optW_some, evs, Arg.ev, aP, aR, aA, aW, pMov, pBin, pUn, pConv, pPick, pFieldAddr, pNilCheck, pExtract, aBin, aUn, aInt, aNew, partL_f, upd, List.getElem?_cons_zero, List.getElem?_cons_succ, List.getD_cons_zero, List.getD_cons_succ, List.set_cons_zero, List.set_cons_succ, Nat.zero_add, Nat.add_zero, List.getElem?_toArray, List.take_zero, List.drop_zero, List.take_succ_cons, List.drop_succ_cons, if_true, if_false, decide_true, decide_false, Bool.false_eq_true, Bool.true_eq_false, Bool.not_true, Bool.not_false, not_true_eq_false, not_false_eq_true, ge_iff_le, gt_iff_lt, beq_self_eq_true, bne_self_eq_false, and_self, and_true, true_and, Option.isSome_some, Heap.get_alloc_same, Heap.alloc_getE]
  refine Value_c ((e1.mono hl2).mono hl3) e3 (by decide) (by decide) 3 _ fun h3 hl4 => ?_
  have hv : ValueS aw4 [0, 1, 2, 3] 3 = (1, true) := by decide +kernel
  rw [hv]
  simp -implicitDefEqProofs only [W_skip, W_reg, W_seq, W_rcond, W_cond, W_block, W_loop, W_exit, W_ret, thenQ_normal, thenQ_exit, thenQ_ret, blockQ_normal, blockQ_ret, blockQ_here, regQ_app, rcQ_app, cndK_t, cndK_f, RegW_nil, RegW_none, RegW_some, contW_app, grdK_tt, grdK_ff, grdK_tf, grdK_ft, grdK_undef, actK_p, actK_r, actK_a, actK_w, actK_call, actK_callV, heapK_app, allocK_app, writeK_app, ret1_ret, ret1_normal, ret0_ret, ret0_normal, ret2_ret2, thenK_app, retcv_ret, retcvK_app, optW_some, evs, Arg.ev, aP, aR, aA, aW, pMov, pBin, pUn, pConv, pPick, pFieldAddr, pNilCheck, pExtract, aBin, aUn, aInt, aNew, partL_f, upd, List.getElem?_cons_zero, List.getElem?_cons_succ, List.getD_cons_zero, List.getD_cons_succ, List.set_cons_zero, List.set_cons_succ, Nat.zero_add, Nat.add_zero, List.getElem?_toArray, List.take_zero, List.drop_zero, List.take_succ_cons, List.drop_succ_cons, if_true, if_false, decide_true, decide_false, Bool.false_eq_true, Bool.true_eq_false, Bool.not_true, Bool.not_false, not_true_eq_false, not_false_eq_true, ge_iff_le, gt_iff_lt, beq_self_eq_true, bne_self_eq_false, and_self, and_true, true_and, Option.isSome_some, Heap.get_alloc_same, Heap.alloc_getE]
  have k3 := (hl2.trans hl3).trans hl4
  have k32 := hl3.trans hl4
  refine right_c (e1.mono k3) (by decide) _ fun v4 h4 hv4 hl5 => ?_
  rw [aw4_fin.1] at hv4
  subst hv4
  simp -implicitDefEqProofs only [W_skip, W_reg, W_seq, W_rcond, W_cond, W_block, W_loop, W_exit, W_ret, thenQ_normal, thenQ_exit, thenQ_ret, blockQ_normal, blockQ_ret, blockQ_here, regQ_app, rcQ_app, cndK_t, cndK_f, RegW_nil, RegW_none, RegW_some, contW_app, grdK_tt, grdK_ff, grdK_tf, grdK_ft, grdK_undef, actK_p, actK_r, actK_a, actK_w, actK_call, actK_callV, heapK_app, allocK_app, writeK_app, ret1_ret, ret1_normal, ret0_ret, ret0_normal, ret2_ret2, thenK_app, retcv_ret, retcvK_app, optW_some, evs, Arg.ev, aP, aR, aA, aW, pMov, pBin, pUn, pConv, pPick, pFieldAddr, pNilCheck, pExtract, aBin, aUn, aInt, aNew, partL_f, upd, List.getElem?_cons_zero, List.getElem?_cons_succ, List.getD_cons_zero, List.getD_cons_succ, List.set_cons_zero, List.set_cons_succ, Nat.zero_add, Nat.add_zero, List.getElem?_toArray, List.take_zero, List.drop_zero, List.take_succ_cons, List.drop_succ_cons, if_true, if_false, decide_true, decide_false, Bool.false_eq_true, Bool.true_eq_false, Bool.not_true, Bool.not_false, not_true_eq_false, not_false_eq_true, ge_iff_le, gt_iff_lt, beq_self_eq_true, bne_self_eq_false, and_self, and_true, true_and, Option.isSome_some, Heap.get_alloc_same, Heap.alloc_getE]
  refine Allowed_c (e1.mono (k3.trans hl5)) (by decide) _ fun b h5 hb hl6 => ?_
  have hb' : b = true := hb.2 aw4_fin
  subst hb'
  simp -implicitDefEqProofs only [W_skip, W_reg, W_seq, W_rcond, W_cond, W_block, W_loop, W_exit, W_ret, thenQ_normal, thenQ_exit, thenQ_ret, blockQ_normal, blockQ_ret, blockQ_here, regQ_app, rcQ_app, cndK_t, cndK_f, RegW_nil, RegW_none, RegW_some, contW_app, grdK_tt, grdK_ff, grdK_tf, grdK_ft, grdK_undef, actK_p, actK_r, actK_a, actK_w, actK_call, actK_callV, heapK_app, allocK_app, writeK_app, ret1_ret, ret1_normal, ret0_ret, ret0_normal, ret2_ret2, thenK_app, retcv_ret, retcvK_app, optW_some, evs, Arg.ev, aP, aR, aA, aW, pMov, pBin, pUn, pConv, pPick, pFieldAddr, pNilCheck, pExtract, aBin, aUn, aInt, aNew, partL_f, upd, List.getElem?_cons_zero, List.getElem?_cons_succ, List.getD_cons_zero, List.getD_cons_succ, List.set_cons_zero, List.set_cons_succ, Nat.zero_add, Nat.add_zero, List.getElem?_toArray, List.take_zero, List.drop_zero, List.take_succ_cons, List.drop_succ_cons, if_true, if_false, decide_true, decide_false, Bool.false_eq_true, Bool.true_eq_false, Bool.not_true, Bool.not_false, not_true_eq_false, not_false_eq_true, ge_iff_le, gt_iff_lt, beq_self_eq_true, bne_self_eq_false, and_self, and_true, true_and, Option.isSome_some, Heap.get_alloc_same, Heap.alloc_getE]
  refine Allowed_c (e2.mono ((k32.trans hl5).trans hl6)) (by decide) _ fun b h6 hb2 hl7 => ?_
  have hb' : b = false := by
    cases b with
    | false => rfl
    | true => exact absurd (hb2.1 rfl) aw6_fin
  subst hb'
  simp -implicitDefEqProofs only [W_skip, W_reg, W_seq, W_rcond, W_cond, W_block, W_loop, W_exit, W_ret, thenQ_normal, thenQ_exit, thenQ_ret, blockQ_normal, blockQ_ret, blockQ_here, regQ_app, rcQ_app, cndK_t, cndK_f, RegW_nil, RegW_none, RegW_some, contW_app, grdK_tt, grdK_ff, grdK_tf, grdK_ft, grdK_undef, actK_p, actK_r, actK_a, actK_w, actK_call, actK_callV, heapK_app, allocK_app, writeK_app, ret1_ret, ret1_normal, ret0_ret, ret0_normal, ret2_ret2, thenK_app, retcv_ret, retcvK_app, optW_some, evs, Arg.ev, aP, aR, aA, aW, pMov, pBin, pUn, pConv, pPick, pFieldAddr, pNilCheck, pExtract, aBin, aUn, aInt, aNew, partL_f, upd, List.getElem?_cons_zero, List.getElem?_cons_succ, List.getD_cons_zero, List.getD_cons_succ, List.set_cons_zero, List.set_cons_succ, Nat.zero_add, Nat.add_zero, List.getElem?_toArray, List.take_zero, List.drop_zero, List.take_succ_cons, List.drop_succ_cons, if_true, if_false, decide_true, decide_false, Bool.false_eq_true, Bool.true_eq_false, Bool.not_true, Bool.not_false, not_true_eq_false, not_false_eq_true, ge_iff_le, gt_iff_lt, beq_self_eq_true, bne_self_eq_false, and_self, and_true, true_and, Option.isSome_some, Heap.get_alloc_same, Heap.alloc_getE]
  refine optW_of (x := (([1, 3, 0, 2] : List Int).map (Value.int .i64), fun id => .slice (some ⟨id, 0, none⟩) 4 1)) rfl ?_
  have e5 := ints_new h6 [1, 3, 0, 2]
  have hl8 := (Heap.le.refl h6).alloc (.blk (([1, 3, 0, 2] : List Int).map (Value.int .i64)) true)
  simp -implicitDefEqProofs only [W_skip, W_reg, W_seq, W_rcond, W_cond, W_block, W_loop, W_exit, W_ret, thenQ_normal, thenQ_exit, thenQ_ret, blockQ_normal, blockQ_ret, blockQ_here, regQ_app, rcQ_app, cndK_t, cndK_f, RegW_nil, RegW_none, RegW_some, contW_app, grdK_tt, grdK_ff, grdK_tf, grdK_ft, grdK_undef, actK_p, actK_r, actK_a, actK_w, actK_call, actK_callV, heapK_app, allocK_app, writeK_app, ret1_ret, ret1_normal, ret0_ret, ret0_normal, ret2_ret2, thenK_app, retcv_ret, retcvK_app, optW_some, evs, Arg.ev, aP, aR, aA, aW, pMov, pBin, pUn, pConv, pPick, pFieldAddr, pNilCheck, pExtract, aBin, aUn, aInt, aNew, partL_f, upd, List.getElem?_cons_zero, List.getElem?_cons_succ, List.getD_cons_zero, List.getD_cons_succ, List.set_cons_zero, List.set_cons_succ, Nat.zero_add, Nat.add_zero, List.getElem?_toArray, List.take_zero, List.drop_zero, List.take_succ_cons, List.drop_succ_cons, if_true, if_false, decide_true, decide_false, Bool.false_eq_true, Bool.true_eq_false, Bool.not_true, Bool.not_false, not_true_eq_false, not_false_eq_true, ge_iff_le, gt_iff_lt, beq_self_eq_true, bne_self_eq_false, and_self, and_true, true_and, Option.isSome_some, Heap.get_alloc_same, Heap.alloc_getE]
  have k6 := ((k3.trans hl5).trans hl6).trans hl7
  have k62 := ((k32.trans hl5).trans hl6).trans hl7
  refine Holds_c (e1.mono (k6.trans hl8)) e5 (by decide) (by decide) _ fun v7 h7 hv7 hl9 => ?_
  rw [show holds aw4 [1, 3, 0, 2] = true by decide +kernel] at hv7
  subst hv7
  simp -implicitDefEqProofs only [W_skip, W_reg, W_seq, W_rcond, W_cond, W_block, W_loop, W_exit, W_ret, thenQ_normal, thenQ_exit, thenQ_ret, blockQ_normal, blockQ_ret, blockQ_here, regQ_app, rcQ_app, cndK_t, cndK_f, RegW_nil, RegW_none, RegW_some, contW_app, grdK_tt, grdK_ff, grdK_tf, grdK_ft, grdK_undef, actK_p, actK_r, actK_a, actK_w, actK_call, actK_callV, heapK_app, allocK_app, writeK_app, ret1_ret, ret1_normal, ret0_ret, ret0_normal, ret2_ret2, thenK_app, retcv_ret, retcvK_app, optW_some, evs, Arg.ev, aP, aR, aA, aW, pMov, pBin, pUn, pConv, pPick, pFieldAddr, pNilCheck, pExtract, aBin, aUn, aInt, aNew, partL_f, upd, List.getElem?_cons_zero, List.getElem?_cons_succ, List.getD_cons_zero, List.getD_cons_succ, List.set_cons_zero, List.set_cons_succ, Nat.zero_add, Nat.add_zero, List.getElem?_toArray, List.take_zero, List.drop_zero, List.take_succ_cons, List.drop_succ_cons, if_true, if_false, decide_true, decide_false, Bool.false_eq_true, Bool.true_eq_false, Bool.not_true, Bool.not_false, not_true_eq_false, not_false_eq_true, ge_iff_le, gt_iff_lt, beq_self_eq_true, bne_self_eq_false, and_self, and_true, true_and, Option.isSome_some, Heap.get_alloc_same, Heap.alloc_getE]
  refine optW_of (x := (([0, 1, 2, 3] : List Int).map (Value.int .i64), fun id => .slice (some ⟨id, 0, none⟩) 4 1)) rfl ?_
  have e6 := ints_new h7 [0, 1, 2, 3]
  have hl10 := (Heap.le.refl h7).alloc (.blk (([0, 1, 2, 3] : List Int).map (Value.int .i64)) true)
  simp -implicitDefEqProofs only [W_skip, W_reg, W_seq, W_rcond, W_cond, W_block, W_loop, W_exit, W_ret, thenQ_normal, thenQ_exit, thenQ_ret, blockQ_normal, blockQ_ret, blockQ_here, regQ_app, rcQ_app, cndK_t, cndK_f, RegW_nil, RegW_none, RegW_some, contW_app, grdK_tt, grdK_ff, grdK_tf, grdK_ft, grdK_undef, actK_p, actK_r, actK_a, actK_w, actK_call, actK_callV, heapK_app, allocK_app, writeK_app, ret1_ret, ret1_normal, ret0_ret, ret0_normal, ret2_ret2, thenK_app, retcv_ret, retcvK_app, optW_some, evs, Arg.ev, aP, aR, aA, aW, pMov, pBin, pUn, pConv, pPick, pFieldAddr, pNilCheck, pExtract, aBin, aUn, aInt, aNew, partL_f, upd, List.getElem?_cons_zero, List.getElem?_cons_succ, List.getD_cons_zero, List.getD_cons_succ, List.set_cons_zero, List.set_cons_succ, Nat.zero_add, Nat.add_zero, List.getElem?_toArray, List.take_zero, List.drop_zero, List.take_succ_cons, List.drop_succ_cons, if_true, if_false, decide_true, decide_false, Bool.false_eq_true, Bool.true_eq_false, Bool.not_true, Bool.not_false, not_true_eq_false, not_false_eq_true, ge_iff_le, gt_iff_lt, beq_self_eq_true, bne_self_eq_false, and_self, and_true, true_and, Option.isSome_some, Heap.get_alloc_same, Heap.alloc_getE]
  have k7 := (k6.trans hl8).trans hl9
  have k72 := (k62.trans hl8).trans hl9
  refine Holds_c (e1.mono (k7.trans hl10)) e6 (by decide) (by decide) _ fun v8 h8 hv8 hl11 => ?_
  rw [show holds aw4 [0, 1, 2, 3] = false by decide +kernel] at hv8
  subst hv8
  simp -implicitDefEqProofs only [W_skip, W_reg, W_seq, W_rcond, W_cond, W_block, W_loop, W_exit, W_ret, thenQ_normal, thenQ_exit, thenQ_ret, blockQ_normal, blockQ_ret, blockQ_here, regQ_app, rcQ_app, cndK_t, cndK_f, RegW_nil, RegW_none, RegW_some, contW_app, grdK_tt, grdK_ff, grdK_tf, grdK_ft, grdK_undef, actK_p, actK_r, actK_a, actK_w, actK_call, actK_callV, heapK_app, allocK_app, writeK_app, ret1_ret, ret1_normal, ret0_ret, ret0_normal, ret2_ret2, thenK_app, retcv_ret, retcvK_app, optW_some, evs, Arg.ev, aP, aR, aA, aW, pMov, pBin, pUn, pConv, pPick, pFieldAddr, pNilCheck, pExtract, aBin, aUn, aInt, aNew, partL_f, upd, List.getElem?_cons_zero, List.getElem?_cons_succ, List.getD_cons_zero, List.getD_cons_succ, List.set_cons_zero, List.set_cons_succ, Nat.zero_add, Nat.add_zero, List.getElem?_toArray, List.take_zero, List.drop_zero, List.take_succ_cons, List.drop_succ_cons, if_true, if_false, decide_true, decide_false, Bool.false_eq_true, Bool.true_eq_false, Bool.not_true, Bool.not_false, not_true_eq_false, not_false_eq_true, ge_iff_le, gt_iff_lt, beq_self_eq_true, bne_self_eq_false, and_self, and_true, true_and, Option.isSome_some, Heap.get_alloc_same, Heap.alloc_getE]
  have k8 := (k7.trans hl10).trans hl11
  have k82 := (k72.trans hl10).trans hl11
  refine Keeps_c (e1.mono k8) (by decide) 0 1 _ fun v9 h9 hv9 hl12 => ?_
  rw [show Keeps aw4 0 1 = false by decide +kernel] at hv9
  subst hv9
  simp -implicitDefEqProofs only [W_skip, W_reg, W_seq, W_rcond, W_cond, W_block, W_loop, W_exit, W_ret, thenQ_normal, thenQ_exit, thenQ_ret, blockQ_normal, blockQ_ret, blockQ_here, regQ_app, rcQ_app, cndK_t, cndK_f, RegW_nil, RegW_none, RegW_some, contW_app, grdK_tt, grdK_ff, grdK_tf, grdK_ft, grdK_undef, actK_p, actK_r, actK_a, actK_w, actK_call, actK_callV, heapK_app, allocK_app, writeK_app, ret1_ret, ret1_normal, ret0_ret, ret0_normal, ret2_ret2, thenK_app, retcv_ret, retcvK_app, optW_some, evs, Arg.ev, aP, aR, aA, aW, pMov, pBin, pUn, pConv, pPick, pFieldAddr, pNilCheck, pExtract, aBin, aUn, aInt, aNew, partL_f, upd, List.getElem?_cons_zero, List.getElem?_cons_succ, List.getD_cons_zero, List.getD_cons_succ, List.set_cons_zero, List.set_cons_succ, Nat.zero_add, Nat.add_zero, List.getElem?_toArray, List.take_zero, List.drop_zero, List.take_succ_cons, List.drop_succ_cons, if_true, if_false, decide_true, decide_false, Bool.false_eq_true, Bool.true_eq_false, Bool.not_true, Bool.not_false, not_true_eq_false, not_false_eq_true, ge_iff_le, gt_iff_lt, beq_self_eq_true, bne_self_eq_false, and_self, and_true, true_and, Option.isSome_some, Heap.get_alloc_same, Heap.alloc_getE]
  refine Keeps_c (e2.mono (k82.trans hl12)) (by decide) 0 2 _ fun v10 h10 hv10 hl13 => ?_
  rw [show Keeps aw6 0 2 = true by decide +kernel] at hv10
  subst hv10
  simp -implicitDefEqProofs only [W_skip, W_reg, W_seq, W_rcond, W_cond, W_block, W_loop, W_exit, W_ret, thenQ_normal, thenQ_exit, thenQ_ret, blockQ_normal, blockQ_ret, blockQ_here, regQ_app, rcQ_app, cndK_t, cndK_f, RegW_nil, RegW_none, RegW_some, contW_app, grdK_tt, grdK_ff, grdK_tf, grdK_ft, grdK_undef, actK_p, actK_r, actK_a, actK_w, actK_call, actK_callV, heapK_app, allocK_app, writeK_app, ret1_ret, ret1_normal, ret0_ret, ret0_normal, ret2_ret2, thenK_app, retcv_ret, retcvK_app, optW_some, evs, Arg.ev, aP, aR, aA, aW, pMov, pBin, pUn, pConv, pPick, pFieldAddr, pNilCheck, pExtract, aBin, aUn, aInt, aNew, partL_f, upd, List.getElem?_cons_zero, List.getElem?_cons_succ, List.getD_cons_zero, List.getD_cons_succ, List.set_cons_zero, List.set_cons_succ, Nat.zero_add, Nat.add_zero, List.getElem?_toArray, List.take_zero, List.drop_zero, List.take_succ_cons, List.drop_succ_cons, if_true, if_false, decide_true, decide_false, Bool.false_eq_true, Bool.true_eq_false, Bool.not_true, Bool.not_false, not_true_eq_false, not_false_eq_true, ge_iff_le, gt_iff_lt, beq_self_eq_true, bne_self_eq_false, and_self, and_true, true_and, Option.isSome_some, Heap.get_alloc_same, Heap.alloc_getE]
  exact hq.h _ (((hl1.trans k8).trans hl12).trans hl13)
end Go.Eng.Ax

set_option linter.unusedSimpArgs false
set_option linter.unusedVariables false
namespace Go.Eng.Ax
open Go Go.Eng Go.Proofs

def inI (z : Int) : Prop := -9223372036854775808 ≤ z ∧ z ≤ 9223372036854775807
theorem pick_range {c n : Int} (hc : inI c) (hn : 0 < n) : 0 ≤ pick c n ∧ pick c n < n := by
  unfold pick inI at *
  split
  · rw [wrapI (z := c + 1) (by omega) (by omega), wrapI (by omega) (by omega)]
    exact ⟨Int.tmod_nonneg _ (by omega), Int.tmod_lt_of_pos _ hn⟩
  · exact ⟨Int.tmod_nonneg _ (by omega), Int.tmod_lt_of_pos _ hn⟩
theorem pick_c' (c n : Int) (hn : n ≠ 0) (h : Heap) (Q : Value → Heap → Prop) (hq : Q (.int .i64 (pick c n)) h) : CallW Try.prog 14 [.int .i64 c, .int .i64 n] h Q := by
  refine call_of1 (k := 2) ok14 rfl rfl rfl fun N => ?_
  rw [show env0 c14 [.int .i64 c, .int .i64 n] = [.int .i64 c, .int .i64 n, undef] from rfl]
  delta c14 c14_r0 c14_r1 c14_r2 c14_r3
  replace hq := Hid.mk hq
  have hq1 : c < 0 → Q (.int .i64 ((IntKind.i64.wrap (0 - IntKind.i64.wrap (c + 1))).tmod n)) h := fun hc => by have := hq.h; rwa [pick, if_pos hc] at this
  have hq2 : ¬ c < 0 → Q (.int .i64 (c.tmod n)) h := fun hc => by have := hq.h; rwa [pick, if_neg hc] at this
  replace hq1 := Hid.mk hq1
  replace hq2 := Hid.mk hq2
  repeat' (first | simp -implicitDefEqProofs only [W_skip, W_reg, W_seq, W_rcond, W_cond, W_block, W_loop, W_exit, W_ret, thenQ_normal, thenQ_exit, thenQ_ret, blockQ_normal, blockQ_ret, blockQ_here, regQ_app, rcQ_app, cndK_t, cndK_f, RegW_nil, RegW_none, RegW_some, contW_app, grdK_tt, grdK_ff, grdK_tf, grdK_ft, grdK_undef, actK_p, actK_r, actK_a, actK_w, actK_call, actK_callV, heapK_app, allocK_app, writeK_app, ret1_ret, ret1_normal, ret0_ret, ret0_normal, ret2_ret2, thenK_app, retcv_ret, retcvK_app, optW_some, evs, Arg.ev, aP, aR, aA, aW, pMov, pBin, pUn, pConv, pPick, pFieldAddr, pNilCheck, pExtract, aBin, aUn, aInt, aNew, partL_f, upd, List.getElem?_cons_zero, List.getElem?_cons_succ, List.getD_cons_zero, List.getD_cons_succ, List.set_cons_zero, List.set_cons_succ, Nat.zero_add, Nat.add_zero, List.getElem?_toArray, List.take_zero, List.drop_zero, List.take_succ_cons, List.drop_succ_cons, if_true, if_false, decide_true, decide_false, Bool.false_eq_true, Bool.true_eq_false, Bool.not_true, Bool.not_false, not_true_eq_false, not_false_eq_true, ge_iff_le, gt_iff_lt, beq_self_eq_true, bne_self_eq_false, and_self, and_true, true_and, Option.isSome_some, Heap.get_alloc_same, Heap.alloc_getE, *] | with_reducible refine cndK_d (fun hc => ?_) (fun hc => ?_) | with_reducible refine grdK_d (fun hc => ?_) (fun hc => ?_) | with_reducible refine cndK_i (fun hc => ?_) (fun hc => ?_) | with_reducible refine grdK_i (fun hc => ?_) (fun hc => ?_))
  · exact hq1.h (by assumption)
  · exact hq2.h (by assumption)

structure R4 where
  a : Int
  b : Int
  c : Int
  d : Int
def R4.cells (r : R4) : List Value := [.int .i64 r.a, .int .i64 r.b, .int .i64 r.c, .int .i64 r.d]
structure R4.ok (r : R4) : Prop where
  a : inI r.a
  b : inI r.b
  c : inI r.c
  d : inI r.d
def Raws (h : Heap) (v : Value) (l : List R4) : Prop := SlV h 4 v (l.map R4.cells)
theorem Raws.mono {h h' : Heap} (hl : h.le h') {v : Value} {l : List R4} (ha : Raws h v l) : Raws h' v l := SlV.mono hl ha
theorem Raws.len {h : Heap} {v : Value} {l : List R4} (ha : Raws h v l) : pLenS [v] = some (.int .i64 l.length) := by simpa using SlV.len ha
theorem Raws.elem {h : Heap} {v : Value} {l : List R4} (ha : Raws h v l) {i : Nat} {e : R4} (hi : l[i]? = some e) :
    ∃ id off cells own, pIdxAddrS 4 [v, .int .i64 i] = some (.pointer (some ⟨id, off, none⟩)) ∧ h.get id = some (.blk cells own) ∧
      cells[off]? = some (.int .i64 e.a) ∧ cells[off + 1]? = some (.int .i64 e.b) ∧ cells[off + 2]? = some (.int .i64 e.c) ∧ cells[off + 3]? = some (.int .i64 e.d) := by
  obtain ⟨id, off, cells, own, h1, h2, h3, h4⟩ := SlV.elem ha (i := i) (x := e.cells) (by simp [hi])
  exact ⟨id, off, cells, own, h1, h2, h4 0 (by omega), h4 1 (by omega), h4 2 (by omega), h4 3 (by omega)⟩

def fitE (r : R4) : Ev := ⟨pick r.b 3, 1 + pick r.a 2, pick r.c 3, pick r.d 3⟩
def fitEv (r : R4) : Ev := if pick r.a 7 == 6 then ⟨pick r.b 3, 3, 0, 0⟩ else fitE r
def fit (raw : List R4) : List Ev := (raw.take 6).map fitEv
theorem fit_len (raw : List R4) : (fit raw).length ≤ 6 := by simp [fit]; omega

theorem OwnS.evs {h0 h : Heap} {v : Value} {l : List Ev} (ho : OwnS h0 h 4 v (l.map Ev.cells)) : Evs h v l := ho.sl

theorem Fit_c {v : Value} {raw : List R4} {h : Heap} (hv : Raws h v raw) (hl63 : (raw.length : Int) ≤ 9223372036854775807) (hok : ∀ r ∈ raw, r.ok) (Q : Value → Heap → Prop)
    (hq : ∀ v' h', OwnS h h' 4 v' ((fit raw).map Ev.cells) → h.le h' → Q v' h') : CallW Try.prog 12 [v] h Q := by
  refine call_of1 (k := 1) ok12 rfl rfl rfl fun N => ?_
  rw [show env0 c12 [v] = [v, undef, undef, undef, undef] from rfl]
  delta c12 c12_r0 c12_r1 c12_r2 c12_r3 c12_r4 c12_r5 c12_r6 c12_r7 c12_r8 c12_r10
  replace hq := Hid.mk hq
  repeat' (first | simp -implicitDefEqProofs only [W_skip, W_reg, W_seq, W_rcond, W_cond, W_block, W_loop, W_exit, W_ret, thenQ_normal, thenQ_exit, thenQ_ret, blockQ_normal, blockQ_ret, blockQ_here, regQ_app, rcQ_app, cndK_t, cndK_f, RegW_nil, RegW_none, RegW_some, contW_app, grdK_tt, grdK_ff, grdK_tf, grdK_ft, grdK_undef, actK_p, actK_r, actK_a, actK_w, actK_call, actK_callV, heapK_app, allocK_app, writeK_app, ret1_ret, ret1_normal, ret0_ret, ret0_normal, ret2_ret2, thenK_app, retcv_ret, retcvK_app, optW_some, evs, Arg.ev, aP, aR, aA, aW, pMov, pBin, pUn, pConv, pPick, pFieldAddr, pNilCheck, pExtract, aBin, aUn, aInt, aNew, partL_f, upd, List.getElem?_cons_zero, List.getElem?_cons_succ, List.getD_cons_zero, List.getD_cons_succ, List.set_cons_zero, List.set_cons_succ, Nat.zero_add, Nat.add_zero, List.getElem?_toArray, List.take_zero, List.drop_zero, List.take_succ_cons, List.drop_succ_cons, if_true, if_false, decide_true, decide_false, Bool.false_eq_true, Bool.true_eq_false, Bool.not_true, Bool.not_false, not_true_eq_false, not_false_eq_true, ge_iff_le, gt_iff_lt, beq_self_eq_true, bne_self_eq_false, and_self, and_true, true_and, Option.isSome_some, Heap.get_alloc_same, Heap.alloc_getE, *] | with_reducible refine cndK_d (fun hc => ?_) (fun hc => ?_) | with_reducible refine grdK_d (fun hc => ?_) (fun hc => ?_) | with_reducible refine cndK_i (fun hc => ?_) (fun hc => ?_) | with_reducible refine grdK_i (fun hc => ?_) (fun hc => ?_))
  refine LoopW.upto (min raw.length 6) (fun i e h1 => h.le h1 ∧ ∃ vo x4, OwnS h h1 4 vo (((raw.take i).map fitEv).map Ev.cells) ∧ e = [v, .slice none 0 0, vo, .int .i64 i, x4]) ?_ (Nat.zero_le _) ⟨Heap.le.refl h, _, _, OwnS.nil h h 4, rfl⟩
  rintro i _ h1 R hi ⟨hl1, vo, x4, ho, rfl⟩ hR
  delta c12_l9 c12_r0 c12_r1 c12_r2 c12_r3 c12_r4 c12_r5 c12_r6 c12_r7 c12_r8 c12_r10
  by_cases hlt : i < raw.length ∧ i < 6
  · obtain ⟨hlt1, hlt2⟩ := hlt
    have hlt1' : (i : Int) < raw.length := by omega
    have hlt2' : (i : Int) < 6 := by omega
    obtain ⟨r, hr⟩ : ∃ e, raw[i]? = some e := ⟨_, List.getElem?_eq_getElem hlt1⟩
    have rok := hok r (List.mem_of_getElem? hr)
    obtain ⟨id, off, cells, own, e1, e2, e3, e4, e5, e6⟩ := (hv.mono hl1).elem hr
    have hw : IntKind.i64.wrap ((i : Int) + 1) = ((i + 1 : Nat) : Int) := by rw [wrapI (by omega) (by omega)]; rfl
    have a0 := idxA (n := 4) (id := id) (o := off) (a := 0) (by omega)
    have a1 := idxA (n := 4) (id := id) (o := off) (a := 1) (by omega)
    have a2 := idxA (n := 4) (id := id) (o := off) (a := 2) (by omega)
    have a3 := idxA (n := 4) (id := id) (o := off) (a := 3) (by omega)
    change pIdxAddrA 4 1 [_, .int .i64 0] = _ at a0
    change pIdxAddrA 4 1 [_, .int .i64 1] = _ at a1
    change pIdxAddrA 4 1 [_, .int .i64 2] = _ at a2
    change pIdxAddrA 4 1 [_, .int .i64 3] = _ at a3
    replace rok := Hid.mk rok
    have pa := pick_range rok.h.a (n := 2) (by omega)
    have hw2 : IntKind.i64.wrap (1 + pick r.a 2) = 1 + pick r.a 2 := wrapI (by omega) (by omega)
    repeat' (first | simp -implicitDefEqProofs only [W_skip, W_reg, W_seq, W_rcond, W_cond, W_block, W_loop, W_exit, W_ret, thenQ_normal, thenQ_exit, thenQ_ret, blockQ_normal, blockQ_ret, blockQ_here, regQ_app, rcQ_app, cndK_t, cndK_f, RegW_nil, RegW_none, RegW_some, contW_app, grdK_tt, grdK_ff, grdK_tf, grdK_ft, grdK_undef, actK_p, actK_r, actK_a, actK_w, actK_call, actK_callV, heapK_app, allocK_app, writeK_app, ret1_ret, ret1_normal, ret0_ret, ret0_normal, ret2_ret2, thenK_app, retcv_ret, retcvK_app, optW_some, evs, Arg.ev, aP, aR, aA, aW, pMov, pBin, pUn, pConv, pPick, pFieldAddr, pNilCheck, pExtract, aBin, aUn, aInt, aNew, partL_f, upd, List.getElem?_cons_zero, List.getElem?_cons_succ, List.getD_cons_zero, List.getD_cons_succ, List.set_cons_zero, List.set_cons_succ, Nat.zero_add, Nat.add_zero, List.getElem?_toArray, List.take_zero, List.drop_zero, List.take_succ_cons, List.drop_succ_cons, if_true, if_false, decide_true, decide_false, Bool.false_eq_true, Bool.true_eq_false, Bool.not_true, Bool.not_false, not_true_eq_false, not_false_eq_true, ge_iff_le, gt_iff_lt, beq_self_eq_true, bne_self_eq_false, and_self, and_true, true_and, Option.isSome_some, Heap.get_alloc_same, Heap.alloc_getE, hv.len, *] | with_reducible refine cndK_d (fun hc => ?_) (fun hc => ?_) | with_reducible refine grdK_d (fun hc => ?_) (fun hc => ?_) | with_reducible refine cndK_i (fun hc => ?_) (fun hc => ?_) | with_reducible refine grdK_i (fun hc => ?_) (fun hc => ?_))
    refine pick_c' _ 3 (by decide) _ _ ⟨fun _ => by rw [Heap.ext_self]; trivial, ?_⟩
    repeat' (first | simp -implicitDefEqProofs only [W_skip, W_reg, W_seq, W_rcond, W_cond, W_block, W_loop, W_exit, W_ret, thenQ_normal, thenQ_exit, thenQ_ret, blockQ_normal, blockQ_ret, blockQ_here, regQ_app, rcQ_app, cndK_t, cndK_f, RegW_nil, RegW_none, RegW_some, contW_app, grdK_tt, grdK_ff, grdK_tf, grdK_ft, grdK_undef, actK_p, actK_r, actK_a, actK_w, actK_call, actK_callV, heapK_app, allocK_app, writeK_app, ret1_ret, ret1_normal, ret0_ret, ret0_normal, ret2_ret2, thenK_app, retcv_ret, retcvK_app, optW_some, evs, Arg.ev, aP, aR, aA, aW, pMov, pBin, pUn, pConv, pPick, pFieldAddr, pNilCheck, pExtract, aBin, aUn, aInt, aNew, partL_f, upd, List.getElem?_cons_zero, List.getElem?_cons_succ, List.getD_cons_zero, List.getD_cons_succ, List.set_cons_zero, List.set_cons_succ, Nat.zero_add, Nat.add_zero, List.getElem?_toArray, List.take_zero, List.drop_zero, List.take_succ_cons, List.drop_succ_cons, if_true, if_false, decide_true, decide_false, Bool.false_eq_true, Bool.true_eq_false, Bool.not_true, Bool.not_false, not_true_eq_false, not_false_eq_true, ge_iff_le, gt_iff_lt, beq_self_eq_true, bne_self_eq_false, and_self, and_true, true_and, Option.isSome_some, Heap.get_alloc_same, Heap.alloc_getE, *] | with_reducible refine cndK_d (fun hc => ?_) (fun hc => ?_) | with_reducible refine grdK_d (fun hc => ?_) (fun hc => ?_) | with_reducible refine cndK_i (fun hc => ?_) (fun hc => ?_) | with_reducible refine grdK_i (fun hc => ?_) (fun hc => ?_))
    refine pick_c' _ 2 (by decide) _ _ ⟨fun _ => by rw [Heap.ext_self]; trivial, ?_⟩
    repeat' (first | simp -implicitDefEqProofs only [W_skip, W_reg, W_seq, W_rcond, W_cond, W_block, W_loop, W_exit, W_ret, thenQ_normal, thenQ_exit, thenQ_ret, blockQ_normal, blockQ_ret, blockQ_here, regQ_app, rcQ_app, cndK_t, cndK_f, RegW_nil, RegW_none, RegW_some, contW_app, grdK_tt, grdK_ff, grdK_tf, grdK_ft, grdK_undef, actK_p, actK_r, actK_a, actK_w, actK_call, actK_callV, heapK_app, allocK_app, writeK_app, ret1_ret, ret1_normal, ret0_ret, ret0_normal, ret2_ret2, thenK_app, retcv_ret, retcvK_app, optW_some, evs, Arg.ev, aP, aR, aA, aW, pMov, pBin, pUn, pConv, pPick, pFieldAddr, pNilCheck, pExtract, aBin, aUn, aInt, aNew, partL_f, upd, List.getElem?_cons_zero, List.getElem?_cons_succ, List.getD_cons_zero, List.getD_cons_succ, List.set_cons_zero, List.set_cons_succ, Nat.zero_add, Nat.add_zero, List.getElem?_toArray, List.take_zero, List.drop_zero, List.take_succ_cons, List.drop_succ_cons, if_true, if_false, decide_true, decide_false, Bool.false_eq_true, Bool.true_eq_false, Bool.not_true, Bool.not_false, not_true_eq_false, not_false_eq_true, ge_iff_le, gt_iff_lt, beq_self_eq_true, bne_self_eq_false, and_self, and_true, true_and, Option.isSome_some, Heap.get_alloc_same, Heap.alloc_getE, *] | with_reducible refine cndK_d (fun hc => ?_) (fun hc => ?_) | with_reducible refine grdK_d (fun hc => ?_) (fun hc => ?_) | with_reducible refine cndK_i (fun hc => ?_) (fun hc => ?_) | with_reducible refine grdK_i (fun hc => ?_) (fun hc => ?_))
    refine pick_c' _ 3 (by decide) _ _ ⟨fun _ => by rw [Heap.ext_self]; trivial, ?_⟩
    repeat' (first | simp -implicitDefEqProofs only [W_skip, W_reg, W_seq, W_rcond, W_cond, W_block, W_loop, W_exit, W_ret, thenQ_normal, thenQ_exit, thenQ_ret, blockQ_normal, blockQ_ret, blockQ_here, regQ_app, rcQ_app, cndK_t, cndK_f, RegW_nil, RegW_none, RegW_some, contW_app, grdK_tt, grdK_ff, grdK_tf, grdK_ft, grdK_undef, actK_p, actK_r, actK_a, actK_w, actK_call, actK_callV, heapK_app, allocK_app, writeK_app, ret1_ret, ret1_normal, ret0_ret, ret0_normal, ret2_ret2, thenK_app, retcv_ret, retcvK_app, optW_some, evs, Arg.ev, aP, aR, aA, aW, pMov, pBin, pUn, pConv, pPick, pFieldAddr, pNilCheck, pExtract, aBin, aUn, aInt, aNew, partL_f, upd, List.getElem?_cons_zero, List.getElem?_cons_succ, List.getD_cons_zero, List.getD_cons_succ, List.set_cons_zero, List.set_cons_succ, Nat.zero_add, Nat.add_zero, List.getElem?_toArray, List.take_zero, List.drop_zero, List.take_succ_cons, List.drop_succ_cons, if_true, if_false, decide_true, decide_false, Bool.false_eq_true, Bool.true_eq_false, Bool.not_true, Bool.not_false, not_true_eq_false, not_false_eq_true, ge_iff_le, gt_iff_lt, beq_self_eq_true, bne_self_eq_false, and_self, and_true, true_and, Option.isSome_some, Heap.get_alloc_same, Heap.alloc_getE, *] | with_reducible refine cndK_d (fun hc => ?_) (fun hc => ?_) | with_reducible refine grdK_d (fun hc => ?_) (fun hc => ?_) | with_reducible refine cndK_i (fun hc => ?_) (fun hc => ?_) | with_reducible refine grdK_i (fun hc => ?_) (fun hc => ?_))
    refine pick_c' _ 3 (by decide) _ _ ?_
    have pb : pBuild [.int .i64 0, .int .i64 0, .int .i64 0, .int .i64 0] [(0, 1), (1, 1), (2, 1), (3, 1)] [.int .i64 (pick r.b 3), .int .i64 (1 + pick r.a 2), .int .i64 (pick r.c 3), .int .i64 (pick r.d 3)] = some (fitE r).val := rfl
    have en := Ev.new' (fitE r) h1
    obtain ⟨ep, hep⟩ : ∃ x, h1.next = x := ⟨_, rfl⟩
    obtain ⟨h2, hh2⟩ : ∃ x, h1.alloc (.blk (fitE r).cells true) = x := ⟨_, rfl⟩
    have hl2 : h1.le h2 := by rw [← hh2]; exact (Heap.le.refl _).alloc _
    have g2 : h2.get ep = some (.blk (fitE r).cells true) := by rw [← hh2, ← hep]; exact Heap.get_alloc_same _ _
    have m2 := hl2.get e2
    rw [hep, hh2] at en
    replace pa := Hid.mk pa
    repeat' (first | simp -implicitDefEqProofs only [W_skip, W_reg, W_seq, W_rcond, W_cond, W_block, W_loop, W_exit, W_ret, thenQ_normal, thenQ_exit, thenQ_ret, blockQ_normal, blockQ_ret, blockQ_here, regQ_app, rcQ_app, cndK_t, cndK_f, RegW_nil, RegW_none, RegW_some, contW_app, grdK_tt, grdK_ff, grdK_tf, grdK_ft, grdK_undef, actK_p, actK_r, actK_a, actK_w, actK_call, actK_callV, heapK_app, allocK_app, writeK_app, ret1_ret, ret1_normal, ret0_ret, ret0_normal, ret2_ret2, thenK_app, retcv_ret, retcvK_app, optW_some, evs, Arg.ev, aP, aR, aA, aW, pMov, pBin, pUn, pConv, pPick, pFieldAddr, pNilCheck, pExtract, aBin, aUn, aInt, aNew, partL_f, upd, List.getElem?_cons_zero, List.getElem?_cons_succ, List.getD_cons_zero, List.getD_cons_succ, List.set_cons_zero, List.set_cons_succ, Nat.zero_add, Nat.add_zero, List.getElem?_toArray, List.take_zero, List.drop_zero, List.take_succ_cons, List.drop_succ_cons, if_true, if_false, decide_true, decide_false, Bool.false_eq_true, Bool.true_eq_false, Bool.not_true, Bool.not_false, not_true_eq_false, not_false_eq_true, ge_iff_le, gt_iff_lt, beq_self_eq_true, bne_self_eq_false, and_self, and_true, true_and, Option.isSome_some, Heap.get_alloc_same, Heap.alloc_getE, *] | with_reducible refine cndK_d (fun hc => ?_) (fun hc => ?_) | with_reducible refine grdK_d (fun hc => ?_) (fun hc => ?_) | with_reducible refine cndK_i (fun hc => ?_) (fun hc => ?_) | with_reducible refine grdK_i (fun hc => ?_) (fun hc => ?_))
    refine pick_c' _ 7 (by decide) _ _ ?_
    have hlen : (((raw.take i).map fitEv).map Ev.cells).length = i := by simp; omega
    have hepn : h.next ≤ ep := by rw [← hep]; exact hl1.next
    have hepn1 : h1.next ≤ ep := by rw [← hep]; exact Nat.le_refl _
    have fin : ∀ h3, h1.le h3 → h.le h3 → ∀ x4, ∃ v' h', wAppend 4 32 (h3.alloc (.blk (fitEv r).cells true)) [vo, .slice (some ⟨h3.next, 0, none⟩) 1 4] = some (v', h') ∧ R [v, .slice none 0 0, v', .int .i64 ((i + 1 : Nat) : Int), x4] h' := by
      intro h3 hl3 hl03 x4
      obtain ⟨v', h', ha, ho3, hl4, _⟩ := (ho.mono hl3).append1 hl03 (x := (fitEv r).cells) rfl (by omega) (b := 32) (by rw [hlen]; omega) (by rw [hlen]; omega)
      refine ⟨v', h', ha, hR.h _ _ (by omega) ⟨hl4, _, _, ?_, rfl⟩⟩
      rw [List.take_add_one, hr]
      simpa using ho3
    have bs : ∀ e : Ev, aBslice [.int .i64 0, .int .i64 0, .int .i64 0, .int .i64 0] [(0, 4)] 1 4 [e.val] = some (e.cells, fun id => .slice (some ⟨id, 0, none⟩) 1 4) := fun e => aBslice_one (by simp [Ev.val, Value.cells, Ev.cells]) rfl rfl rfl
    replace hR := Hid.mk True.intro
    clear hep hh2 en e2
    cases h6 : (pick r.a 7 == 6) with
    | false =>
      have hfe : fitEv r = fitE r := by simp [fitEv, h6]
      rw [hfe] at fin
      obtain ⟨v', h', ha, hr'⟩ := fin h2 hl2 (hl1.trans hl2) (.pointer (some ⟨ep, 0, none⟩))
      replace hr' := Hid.mk hr'
      clear fin
      repeat' (first | simp -implicitDefEqProofs only [W_skip, W_reg, W_seq, W_rcond, W_cond, W_block, W_loop, W_exit, W_ret, thenQ_normal, thenQ_exit, thenQ_ret, blockQ_normal, blockQ_ret, blockQ_here, regQ_app, rcQ_app, cndK_t, cndK_f, RegW_nil, RegW_none, RegW_some, contW_app, grdK_tt, grdK_ff, grdK_tf, grdK_ft, grdK_undef, actK_p, actK_r, actK_a, actK_w, actK_call, actK_callV, heapK_app, allocK_app, writeK_app, ret1_ret, ret1_normal, ret0_ret, ret0_normal, ret2_ret2, thenK_app, retcv_ret, retcvK_app, optW_some, evs, Arg.ev, aP, aR, aA, aW, pMov, pBin, pUn, pConv, pPick, pFieldAddr, pNilCheck, pExtract, aBin, aUn, aInt, aNew, partL_f, upd, List.getElem?_cons_zero, List.getElem?_cons_succ, List.getD_cons_zero, List.getD_cons_succ, List.set_cons_zero, List.set_cons_succ, Nat.zero_add, Nat.add_zero, List.getElem?_toArray, List.take_zero, List.drop_zero, List.take_succ_cons, List.drop_succ_cons, if_true, if_false, decide_true, decide_false, Bool.false_eq_true, Bool.true_eq_false, Bool.not_true, Bool.not_false, not_true_eq_false, not_false_eq_true, ge_iff_le, gt_iff_lt, beq_self_eq_true, bne_self_eq_false, and_self, and_true, true_and, Option.isSome_some, Heap.get_alloc_same, Heap.alloc_getE, Ev.part', *] | with_reducible refine cndK_d (fun hc => ?_) (fun hc => ?_) | with_reducible refine grdK_d (fun hc => ?_) (fun hc => ?_) | with_reducible refine cndK_i (fun hc => ?_) (fun hc => ?_) | with_reducible refine grdK_i (fun hc => ?_) (fun hc => ?_))
      exact hr'.h
    | true =>
      have hfe : fitEv r = ⟨pick r.b 3, 3, 0, 0⟩ := by simp [fitEv, h6]
      have c0 : (fitE r).cells[0]? = some (.int .i64 (pick r.b 3)) := rfl
      have pb2 : pBuild [.int .i64 0, .int .i64 0, .int .i64 0, .int .i64 0] [(0, 1), (1, 1)] [.int .i64 (pick r.b 3), .int .i64 3] = some (fitEv r).val := by rw [hfe]; rfl
      have ws : wStore 4 h2 [.pointer (some ⟨ep, 0, none⟩), (fitEv r).val] = some (undef, h2.set ep (.blk (fitEv r).cells true)) := wStore_all g2 (by simp [Ev.val, Value.cells, Ev.cells]) rfl rfl rfl
      have g3 : (h2.set ep (.blk (fitEv r).cells true)).get ep = some (.blk (fitEv r).cells true) := Heap.set_getS _ _ _ (by rw [g2]; rfl)
      have hle1 : h1.le (h2.set ep (.blk (fitEv r).cells true)) := hl2.set (by omega) _
      obtain ⟨v', h', ha, hr'⟩ := fin _ hle1 (hl1.trans hle1) (.pointer (some ⟨ep, 0, none⟩))
      replace hr' := Hid.mk hr'
      clear fin
      replace hfe := Hid.mk hfe
      repeat' (first | simp -implicitDefEqProofs only [W_skip, W_reg, W_seq, W_rcond, W_cond, W_block, W_loop, W_exit, W_ret, thenQ_normal, thenQ_exit, thenQ_ret, blockQ_normal, blockQ_ret, blockQ_here, regQ_app, rcQ_app, cndK_t, cndK_f, RegW_nil, RegW_none, RegW_some, contW_app, grdK_tt, grdK_ff, grdK_tf, grdK_ft, grdK_undef, actK_p, actK_r, actK_a, actK_w, actK_call, actK_callV, heapK_app, allocK_app, writeK_app, ret1_ret, ret1_normal, ret0_ret, ret0_normal, ret2_ret2, thenK_app, retcv_ret, retcvK_app, optW_some, evs, Arg.ev, aP, aR, aA, aW, pMov, pBin, pUn, pConv, pPick, pFieldAddr, pNilCheck, pExtract, aBin, aUn, aInt, aNew, partL_f, upd, List.getElem?_cons_zero, List.getElem?_cons_succ, List.getD_cons_zero, List.getD_cons_succ, List.set_cons_zero, List.set_cons_succ, Nat.zero_add, Nat.add_zero, List.getElem?_toArray, List.take_zero, List.drop_zero, List.take_succ_cons, List.drop_succ_cons, if_true, if_false, decide_true, decide_false, Bool.false_eq_true, Bool.true_eq_false, Bool.not_true, Bool.not_false, not_true_eq_false, not_false_eq_true, ge_iff_le, gt_iff_lt, beq_self_eq_true, bne_self_eq_false, and_self, and_true, true_and, Option.isSome_some, Heap.get_alloc_same, Heap.alloc_getE, Ev.part', *] | with_reducible refine cndK_d (fun hc => ?_) (fun hc => ?_) | with_reducible refine grdK_d (fun hc => ?_) (fun hc => ?_) | with_reducible refine cndK_i (fun hc => ?_) (fun hc => ?_) | with_reducible refine grdK_i (fun hc => ?_) (fun hc => ?_))
      exact hr'.h
  · have hx : i = min raw.length 6 := by omega
    have ho' : OwnS h h1 4 vo ((fit raw).map Ev.cells) := by
      have : raw.take i = raw.take 6 := by
        rw [hx]
        rcases Nat.le_total raw.length 6 with h6 | h6
        · rw [Nat.min_eq_left h6, List.take_of_length_le (Nat.le_refl _), List.take_of_length_le h6]
        · rw [Nat.min_eq_right h6]
      rw [this] at ho; exact ho
    clear ho hx
    by_cases h1' : i < raw.length
    · have hlt1' : (i : Int) < raw.length := by omega
      have hlt2' : ¬ (i : Int) < 6 := by omega
      repeat' (first | simp -implicitDefEqProofs only [W_skip, W_reg, W_seq, W_rcond, W_cond, W_block, W_loop, W_exit, W_ret, thenQ_normal, thenQ_exit, thenQ_ret, blockQ_normal, blockQ_ret, blockQ_here, regQ_app, rcQ_app, cndK_t, cndK_f, RegW_nil, RegW_none, RegW_some, contW_app, grdK_tt, grdK_ff, grdK_tf, grdK_ft, grdK_undef, actK_p, actK_r, actK_a, actK_w, actK_call, actK_callV, heapK_app, allocK_app, writeK_app, ret1_ret, ret1_normal, ret0_ret, ret0_normal, ret2_ret2, thenK_app, retcv_ret, retcvK_app, optW_some, evs, Arg.ev, aP, aR, aA, aW, pMov, pBin, pUn, pConv, pPick, pFieldAddr, pNilCheck, pExtract, aBin, aUn, aInt, aNew, partL_f, upd, List.getElem?_cons_zero, List.getElem?_cons_succ, List.getD_cons_zero, List.getD_cons_succ, List.set_cons_zero, List.set_cons_succ, Nat.zero_add, Nat.add_zero, List.getElem?_toArray, List.take_zero, List.drop_zero, List.take_succ_cons, List.drop_succ_cons, if_true, if_false, decide_true, decide_false, Bool.false_eq_true, Bool.true_eq_false, Bool.not_true, Bool.not_false, not_true_eq_false, not_false_eq_true, ge_iff_le, gt_iff_lt, beq_self_eq_true, bne_self_eq_false, and_self, and_true, true_and, Option.isSome_some, Heap.get_alloc_same, Heap.alloc_getE, hv.len, *] | with_reducible refine cndK_d (fun hc => ?_) (fun hc => ?_) | with_reducible refine grdK_d (fun hc => ?_) (fun hc => ?_) | with_reducible refine cndK_i (fun hc => ?_) (fun hc => ?_) | with_reducible refine grdK_i (fun hc => ?_) (fun hc => ?_))
      exact hq.h _ _ ho' hl1
    · have hlt1' : ¬ (i : Int) < raw.length := by omega
      repeat' (first | simp -implicitDefEqProofs only [W_skip, W_reg, W_seq, W_rcond, W_cond, W_block, W_loop, W_exit, W_ret, thenQ_normal, thenQ_exit, thenQ_ret, blockQ_normal, blockQ_ret, blockQ_here, regQ_app, rcQ_app, cndK_t, cndK_f, RegW_nil, RegW_none, RegW_some, contW_app, grdK_tt, grdK_ff, grdK_tf, grdK_ft, grdK_undef, actK_p, actK_r, actK_a, actK_w, actK_call, actK_callV, heapK_app, allocK_app, writeK_app, ret1_ret, ret1_normal, ret0_ret, ret0_normal, ret2_ret2, thenK_app, retcv_ret, retcvK_app, optW_some, evs, Arg.ev, aP, aR, aA, aW, pMov, pBin, pUn, pConv, pPick, pFieldAddr, pNilCheck, pExtract, aBin, aUn, aInt, aNew, partL_f, upd, List.getElem?_cons_zero, List.getElem?_cons_succ, List.getD_cons_zero, List.getD_cons_succ, List.set_cons_zero, List.set_cons_succ, Nat.zero_add, Nat.add_zero, List.getElem?_toArray, List.take_zero, List.drop_zero, List.take_succ_cons, List.drop_succ_cons, if_true, if_false, decide_true, decide_false, Bool.false_eq_true, Bool.true_eq_false, Bool.not_true, Bool.not_false, not_true_eq_false, not_false_eq_true, ge_iff_le, gt_iff_lt, beq_self_eq_true, bne_self_eq_false, and_self, and_true, true_and, Option.isSome_some, Heap.get_alloc_same, Heap.alloc_getE, hv.len, *] | with_reducible refine cndK_d (fun hc => ?_) (fun hc => ?_) | with_reducible refine grdK_d (fun hc => ?_) (fun hc => ?_) | with_reducible refine cndK_i (fun hc => ?_) (fun hc => ?_) | with_reducible refine grdK_i (fun hc => ?_) (fun hc => ?_))
      exact hq.h _ _ ho' hl1
end Go.Eng.Ax

