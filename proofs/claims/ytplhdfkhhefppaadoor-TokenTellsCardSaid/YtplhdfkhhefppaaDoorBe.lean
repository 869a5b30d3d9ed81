/-
  Part of a proof of the laws of layer 05 (token): what each function does.
  Conditions: none.
-/
import Derived.Test.YtplhdfkhhefppaaDoorBd
set_option linter.unusedSimpArgs false
set_option linter.unusedVariables false
namespace Go.Eng.Tk
open Go Go.Eng Go.Proofs

/-- the comment's end -/
theorem hash_loop {l : List UInt8} (hl : l.length ≤ 20000) {N i0 : Nat} (hi0 : i0 ≤ l.length) {h : Heap} {e1 e2 e3 e4 e5 e7 e8 e9 : Value} {Q' : AExit → List Value → Heap → Prop}
    (hQ : ∀ j, i0 ≤ j → j ≤ l.length → l.drop j = (l.drop i0).dropWhile (· != 10) → Q' (.exit 5) [str l, e1, e2, e3, e4, e5, .int .i64 (j : Nat), e7, e8, e9] h) :
    LoopW Tryd.prog N c19.vars c19_l16 [str l, e1, e2, e3, e4, e5, .int .i64 (i0 : Nat), e7, e8, e9] h Q' := by
  replace hQ := Hid.mk hQ
  refine LoopW.upto l.length (fun i e h' => h' = h ∧ i0 ≤ i ∧ (l.drop i0).dropWhile (· != 10) = (l.drop i).dropWhile (· != 10) ∧ e = [str l, e1, e2, e3, e4, e5, .int .i64 (i : Nat), e7, e8, e9]) ?_ hi0 ⟨rfl, Nat.le_refl _, rfl, rfl⟩
  rintro i _ h2 R hi ⟨rfl, h0, hd, rfl⟩ hR
  replace hd := Hid.mk hd
  delta c19_l16 c19_r14 c19_r15
  by_cases hlt : i < l.length
  case neg =>
    have hlt' : ¬ (i : Int) < (l.length : Int) := by omega
    have g := hQ.h i h0 hi (by rw [hd.h, List.drop_of_length_le (by omega)]; rfl)
    replace g := Hid.mk g
    repeat' (first | simp -implicitDefEqProofs only [W_skip, W_reg, W_seq, W_rcond, W_cond, W_block, W_loop, W_exit, W_ret, thenQ_normal, thenQ_exit, thenQ_ret, blockQ_normal, blockQ_ret, blockQ_here, regQ_app, rcQ_app, cndK_t, cndK_f, RegW_nil, RegW_none, RegW_some, contW_app, grdK_tt, grdK_ff, grdK_tf, grdK_ft, grdK_undef, actK_p, actK_r, actK_a, actK_w, actK_call, actK_callV, heapK_app, allocK_app, writeK_app, ret1_ret, ret1_normal, ret0_ret, ret0_normal, ret2_ret2, thenK_app, retcv_ret, retcvK_app, optW_some, evs, Arg.ev, aP, aR, aA, aW, pMov, pBin, pUn, pConv, pPick, pFieldAddr, pNilCheck, pExtract, aBin, aUn, aInt, aNew, partL_f, upd, List.getElem?_cons_zero, List.getElem?_cons_succ, List.getD_cons_zero, List.getD_cons_succ, List.set_cons_zero, List.set_cons_succ, Nat.zero_add, Nat.add_zero, List.getElem?_toArray, List.take_zero, List.drop_zero, List.take_succ_cons, List.drop_succ_cons, if_true, if_false, decide_true, decide_false, Bool.false_eq_true, Bool.true_eq_false, Bool.not_true, Bool.not_false, not_true_eq_false, not_false_eq_true, ge_iff_le, gt_iff_lt, beq_self_eq_true, bne_self_eq_false, and_self, and_true, true_and, Option.isSome_some, Heap.get_alloc_same, Heap.alloc_getE, len_S, *] | with_reducible refine cndK_d (fun hc => ?_) (fun hc => ?_) | with_reducible refine grdK_d (fun hc => ?_) (fun hc => ?_) | with_reducible refine cndK_i (fun hc => ?_) (fun hc => ?_) | with_reducible refine grdK_i (fun hc => ?_) (fun hc => ?_))
    exact g.h
  case pos =>
    have hlt' : (i : Int) < (l.length : Int) := by omega
    have hwj : IntKind.i64.wrap ((i : Int) + 1) = ((i + 1 : Nat) : Int) := by rw [wrapI (by omega) (by omega)]; rfl
    obtain ⟨b, hb⟩ : ∃ b, l[i]? = some b := ⟨_, List.getElem?_eq_getElem hlt⟩
    have hdr : l.drop i = b :: l.drop (i + 1) := by
      rw [List.drop_eq_getElem_cons hlt]
      congr 1
      exact (List.getElem?_eq_some_iff.1 hb).2
    have ix := idx_S hb .i64
    have hdw : (l.drop i).dropWhile (· != 10) = if b = 10 then l.drop i else (l.drop (i + 1)).dropWhile (· != 10) := by
      rw [hdr, List.dropWhile_cons]
      by_cases h10 : b = 10
      · rw [if_neg (by simp [h10]), if_pos h10]
      · rw [if_pos (by simpa using h10), if_neg h10]
    clear hdr hb
    cases h10 : ((b.toNat : Int) != 10) with
    | true =>
      have hne : ¬ b = 10 := by rintro rfl; cases h10
      rw [if_neg hne] at hdw
      replace hdw := Hid.mk hdw
      clear hne
      repeat' (first | simp -implicitDefEqProofs only [W_skip, W_reg, W_seq, W_rcond, W_cond, W_block, W_loop, W_exit, W_ret, thenQ_normal, thenQ_exit, thenQ_ret, blockQ_normal, blockQ_ret, blockQ_here, regQ_app, rcQ_app, cndK_t, cndK_f, RegW_nil, RegW_none, RegW_some, contW_app, grdK_tt, grdK_ff, grdK_tf, grdK_ft, grdK_undef, actK_p, actK_r, actK_a, actK_w, actK_call, actK_callV, heapK_app, allocK_app, writeK_app, ret1_ret, ret1_normal, ret0_ret, ret0_normal, ret2_ret2, thenK_app, retcv_ret, retcvK_app, optW_some, evs, Arg.ev, aP, aR, aA, aW, pMov, pBin, pUn, pConv, pPick, pFieldAddr, pNilCheck, pExtract, aBin, aUn, aInt, aNew, partL_f, upd, List.getElem?_cons_zero, List.getElem?_cons_succ, List.getD_cons_zero, List.getD_cons_succ, List.set_cons_zero, List.set_cons_succ, Nat.zero_add, Nat.add_zero, List.getElem?_toArray, List.take_zero, List.drop_zero, List.take_succ_cons, List.drop_succ_cons, if_true, if_false, decide_true, decide_false, Bool.false_eq_true, Bool.true_eq_false, Bool.not_true, Bool.not_false, not_true_eq_false, not_false_eq_true, ge_iff_le, gt_iff_lt, beq_self_eq_true, bne_self_eq_false, and_self, and_true, true_and, Option.isSome_some, Heap.get_alloc_same, Heap.alloc_getE, len_S, *] | with_reducible refine cndK_d (fun hc => ?_) (fun hc => ?_) | with_reducible refine grdK_d (fun hc => ?_) (fun hc => ?_) | with_reducible refine cndK_i (fun hc => ?_) (fun hc => ?_) | with_reducible refine grdK_i (fun hc => ?_) (fun hc => ?_))
      exact hR.h _ _ hlt ⟨rfl, by omega, by rw [hd.h, hdw.h], rfl⟩
    | false =>
      have he : b = 10 := by apply UInt8.toNat_inj.1; simp; simp at h10; omega
      rw [if_pos he] at hdw
      have g := hQ.h i h0 hi (by rw [hd.h, hdw])
      replace g := Hid.mk g
      clear he hdw
      repeat' (first | simp -implicitDefEqProofs only [W_skip, W_reg, W_seq, W_rcond, W_cond, W_block, W_loop, W_exit, W_ret, thenQ_normal, thenQ_exit, thenQ_ret, blockQ_normal, blockQ_ret, blockQ_here, regQ_app, rcQ_app, cndK_t, cndK_f, RegW_nil, RegW_none, RegW_some, contW_app, grdK_tt, grdK_ff, grdK_tf, grdK_ft, grdK_undef, actK_p, actK_r, actK_a, actK_w, actK_call, actK_callV, heapK_app, allocK_app, writeK_app, ret1_ret, ret1_normal, ret0_ret, ret0_normal, ret2_ret2, thenK_app, retcv_ret, retcvK_app, optW_some, evs, Arg.ev, aP, aR, aA, aW, pMov, pBin, pUn, pConv, pPick, pFieldAddr, pNilCheck, pExtract, aBin, aUn, aInt, aNew, partL_f, upd, List.getElem?_cons_zero, List.getElem?_cons_succ, List.getD_cons_zero, List.getD_cons_succ, List.set_cons_zero, List.set_cons_succ, Nat.zero_add, Nat.add_zero, List.getElem?_toArray, List.take_zero, List.drop_zero, List.take_succ_cons, List.drop_succ_cons, if_true, if_false, decide_true, decide_false, Bool.false_eq_true, Bool.true_eq_false, Bool.not_true, Bool.not_false, not_true_eq_false, not_false_eq_true, ge_iff_le, gt_iff_lt, beq_self_eq_true, bne_self_eq_false, and_self, and_true, true_and, Option.isSome_some, Heap.get_alloc_same, Heap.alloc_getE, len_S, *] | with_reducible refine cndK_d (fun hc => ?_) (fun hc => ?_) | with_reducible refine grdK_d (fun hc => ?_) (fun hc => ?_) | with_reducible refine cndK_i (fun hc => ?_) (fun hc => ?_) | with_reducible refine grdK_i (fun hc => ?_) (fun hc => ?_))
      exact g.h
theorem runN_drop {l : List UInt8} {i : Nat} {b : UInt8} (h : l[i]? = some b) : runN (l.drop i) = if nm b then runN (l.drop (i + 1)) + 1 else 0 := by
  have hlt := (List.getElem?_eq_some_iff.1 h).1
  have hdr : l.drop i = b :: l.drop (i + 1) := by
    rw [List.drop_eq_getElem_cons hlt]
    congr 1
    exact (List.getElem?_eq_some_iff.1 h).2
  rw [hdr, runN_cons]
/-- a run's end -/
theorem run_loop {l : List UInt8} (hl : l.length ≤ 20000) {N i0 : Nat} (hi0 : i0 ≤ l.length) {h : Heap} {e1 e2 e3 e4 e5 e6 e7 e9 : Value} {Q' : AExit → List Value → Heap → Prop}
    (hQ : Q' (.exit 3) [str l, e1, e2, e3, e4, e5, e6, e7, .int .i64 ((i0 + runN (l.drop i0) : Nat) : Int), e9] h) :
    LoopW Tryd.prog N c19.vars c19_l20 [str l, e1, e2, e3, e4, e5, e6, e7, .int .i64 (i0 : Nat), e9] h Q' := by
  replace hQ := Hid.mk hQ
  refine LoopW.upto l.length (fun i e h' => h' = h ∧ i0 ≤ i ∧ i0 + runN (l.drop i0) = i + runN (l.drop i) ∧ e = [str l, e1, e2, e3, e4, e5, e6, e7, .int .i64 (i : Nat), e9]) ?_ hi0 ⟨rfl, Nat.le_refl _, rfl, rfl⟩
  rintro i _ h2 R hi ⟨rfl, h0, hd, rfl⟩ hR
  replace hd := Hid.mk hd
  delta c19_l20 c19_r18 c19_r19
  by_cases hlt : i < l.length
  case neg =>
    have hlt' : ¬ (i : Int) < (l.length : Int) := by omega
    have g := hQ.h
    rw [hd.h, List.drop_of_length_le (by omega)] at g
    have g : Q' (.exit 3) [str l, e1, e2, e3, e4, e5, e6, e7, .int .i64 (i : Int), e9] _ := g
    replace g := Hid.mk g
    repeat' (first | simp -implicitDefEqProofs only [W_skip, W_reg, W_seq, W_rcond, W_cond, W_block, W_loop, W_exit, W_ret, thenQ_normal, thenQ_exit, thenQ_ret, blockQ_normal, blockQ_ret, blockQ_here, regQ_app, rcQ_app, cndK_t, cndK_f, RegW_nil, RegW_none, RegW_some, contW_app, grdK_tt, grdK_ff, grdK_tf, grdK_ft, grdK_undef, actK_p, actK_r, actK_a, actK_w, actK_call, actK_callV, heapK_app, allocK_app, writeK_app, ret1_ret, ret1_normal, ret0_ret, ret0_normal, ret2_ret2, thenK_app, retcv_ret, retcvK_app, optW_some, evs, Arg.ev, aP, aR, aA, aW, pMov, pBin, pUn, pConv, pPick, pFieldAddr, pNilCheck, pExtract, aBin, aUn, aInt, aNew, partL_f, upd, List.getElem?_cons_zero, List.getElem?_cons_succ, List.getD_cons_zero, List.getD_cons_succ, List.set_cons_zero, List.set_cons_succ, Nat.zero_add, Nat.add_zero, List.getElem?_toArray, List.take_zero, List.drop_zero, List.take_succ_cons, List.drop_succ_cons, if_true, if_false, decide_true, decide_false, Bool.false_eq_true, Bool.true_eq_false, Bool.not_true, Bool.not_false, not_true_eq_false, not_false_eq_true, ge_iff_le, gt_iff_lt, beq_self_eq_true, bne_self_eq_false, and_self, and_true, true_and, Option.isSome_some, Heap.get_alloc_same, Heap.alloc_getE, len_S, *] | with_reducible refine cndK_d (fun hc => ?_) (fun hc => ?_) | with_reducible refine grdK_d (fun hc => ?_) (fun hc => ?_) | with_reducible refine cndK_i (fun hc => ?_) (fun hc => ?_) | with_reducible refine grdK_i (fun hc => ?_) (fun hc => ?_))
    exact g.h
  case pos =>
    have hlt' : (i : Int) < (l.length : Int) := by omega
    have hwj : IntKind.i64.wrap ((i : Int) + 1) = ((i + 1 : Nat) : Int) := by rw [wrapI (by omega) (by omega)]; rfl
    obtain ⟨b, hb⟩ : ∃ b, l[i]? = some b := ⟨_, List.getElem?_eq_getElem hlt⟩
    have hrd := runN_drop hb
    rw [nm_split] at hrd
    have ix := idx_S hb .i64
    have more : (ltZ b.toNat || isDg b) = true → R [str l, e1, e2, e3, e4, e5, e6, e7, .int .i64 ((i + 1 : Nat) : Int), e9] h2 := fun hn => hR.h _ _ hlt ⟨rfl, by omega, by rw [hd.h, hrd, if_pos hn]; omega, rfl⟩
    have stop : (ltZ b.toNat || isDg b) = false → Q' (.exit 3) [str l, e1, e2, e3, e4, e5, e6, e7, .int .i64 (i : Int), e9] h2 := fun hn => by
      have g := hQ.h
      rw [hd.h, hrd, hn, if_neg (by simp)] at g
      exact g
    replace more := Hid.mk more
    replace stop := Hid.mk stop
    clear hrd hb
    repeat' (first | simp -implicitDefEqProofs only [W_skip, W_reg, W_seq, W_rcond, W_cond, W_block, W_loop, W_exit, W_ret, thenQ_normal, thenQ_exit, thenQ_ret, blockQ_normal, blockQ_ret, blockQ_here, regQ_app, rcQ_app, cndK_t, cndK_f, RegW_nil, RegW_none, RegW_some, contW_app, grdK_tt, grdK_ff, grdK_tf, grdK_ft, grdK_undef, actK_p, actK_r, actK_a, actK_w, actK_call, actK_callV, heapK_app, allocK_app, writeK_app, ret1_ret, ret1_normal, ret0_ret, ret0_normal, ret2_ret2, thenK_app, retcv_ret, retcvK_app, optW_some, evs, Arg.ev, aP, aR, aA, aW, pMov, pBin, pUn, pConv, pPick, pFieldAddr, pNilCheck, pExtract, aBin, aUn, aInt, aNew, partL_f, upd, List.getElem?_cons_zero, List.getElem?_cons_succ, List.getD_cons_zero, List.getD_cons_succ, List.set_cons_zero, List.set_cons_succ, Nat.zero_add, Nat.add_zero, List.getElem?_toArray, List.take_zero, List.drop_zero, List.take_succ_cons, List.drop_succ_cons, if_true, if_false, decide_true, decide_false, Bool.false_eq_true, Bool.true_eq_false, Bool.not_true, Bool.not_false, not_true_eq_false, not_false_eq_true, ge_iff_le, gt_iff_lt, beq_self_eq_true, bne_self_eq_false, and_self, and_true, true_and, Option.isSome_some, Heap.get_alloc_same, Heap.alloc_getE, len_S, *] | with_reducible refine cndK_d (fun hc => ?_) (fun hc => ?_) | with_reducible refine grdK_d (fun hc => ?_) (fun hc => ?_) | with_reducible refine cndK_i (fun hc => ?_) (fun hc => ?_) | with_reducible refine grdK_i (fun hc => ?_) (fun hc => ?_))
    refine letter_c b _ _ ?_
    cases h1 : ltZ b.toNat with
    | true =>
      have g := more.h (by rw [h1]; rfl)
      replace g := Hid.mk g
      repeat' (first | simp -implicitDefEqProofs only [W_skip, W_reg, W_seq, W_rcond, W_cond, W_block, W_loop, W_exit, W_ret, thenQ_normal, thenQ_exit, thenQ_ret, blockQ_normal, blockQ_ret, blockQ_here, regQ_app, rcQ_app, cndK_t, cndK_f, RegW_nil, RegW_none, RegW_some, contW_app, grdK_tt, grdK_ff, grdK_tf, grdK_ft, grdK_undef, actK_p, actK_r, actK_a, actK_w, actK_call, actK_callV, heapK_app, allocK_app, writeK_app, ret1_ret, ret1_normal, ret0_ret, ret0_normal, ret2_ret2, thenK_app, retcv_ret, retcvK_app, optW_some, evs, Arg.ev, aP, aR, aA, aW, pMov, pBin, pUn, pConv, pPick, pFieldAddr, pNilCheck, pExtract, aBin, aUn, aInt, aNew, partL_f, upd, List.getElem?_cons_zero, List.getElem?_cons_succ, List.getD_cons_zero, List.getD_cons_succ, List.set_cons_zero, List.set_cons_succ, Nat.zero_add, Nat.add_zero, List.getElem?_toArray, List.take_zero, List.drop_zero, List.take_succ_cons, List.drop_succ_cons, if_true, if_false, decide_true, decide_false, Bool.false_eq_true, Bool.true_eq_false, Bool.not_true, Bool.not_false, not_true_eq_false, not_false_eq_true, ge_iff_le, gt_iff_lt, beq_self_eq_true, bne_self_eq_false, and_self, and_true, true_and, Option.isSome_some, Heap.get_alloc_same, Heap.alloc_getE, len_S, *] | with_reducible refine cndK_d (fun hc => ?_) (fun hc => ?_) | with_reducible refine grdK_d (fun hc => ?_) (fun hc => ?_) | with_reducible refine cndK_i (fun hc => ?_) (fun hc => ?_) | with_reducible refine grdK_i (fun hc => ?_) (fun hc => ?_))
      exact g.h
    | false =>
      repeat' (first | simp -implicitDefEqProofs only [W_skip, W_reg, W_seq, W_rcond, W_cond, W_block, W_loop, W_exit, W_ret, thenQ_normal, thenQ_exit, thenQ_ret, blockQ_normal, blockQ_ret, blockQ_here, regQ_app, rcQ_app, cndK_t, cndK_f, RegW_nil, RegW_none, RegW_some, contW_app, grdK_tt, grdK_ff, grdK_tf, grdK_ft, grdK_undef, actK_p, actK_r, actK_a, actK_w, actK_call, actK_callV, heapK_app, allocK_app, writeK_app, ret1_ret, ret1_normal, ret0_ret, ret0_normal, ret2_ret2, thenK_app, retcv_ret, retcvK_app, optW_some, evs, Arg.ev, aP, aR, aA, aW, pMov, pBin, pUn, pConv, pPick, pFieldAddr, pNilCheck, pExtract, aBin, aUn, aInt, aNew, partL_f, upd, List.getElem?_cons_zero, List.getElem?_cons_succ, List.getD_cons_zero, List.getD_cons_succ, List.set_cons_zero, List.set_cons_succ, Nat.zero_add, Nat.add_zero, List.getElem?_toArray, List.take_zero, List.drop_zero, List.take_succ_cons, List.drop_succ_cons, if_true, if_false, decide_true, decide_false, Bool.false_eq_true, Bool.true_eq_false, Bool.not_true, Bool.not_false, not_true_eq_false, not_false_eq_true, ge_iff_le, gt_iff_lt, beq_self_eq_true, bne_self_eq_false, and_self, and_true, true_and, Option.isSome_some, Heap.get_alloc_same, Heap.alloc_getE, len_S, *] | with_reducible refine cndK_d (fun hc => ?_) (fun hc => ?_) | with_reducible refine grdK_d (fun hc => ?_) (fun hc => ?_) | with_reducible refine cndK_i (fun hc => ?_) (fun hc => ?_) | with_reducible refine grdK_i (fun hc => ?_) (fun hc => ?_))
      refine digit_c b _ _ ?_
      cases h2 : isDg b with
      | true =>
        have g := more.h (by rw [h1, h2]; rfl)
        replace g := Hid.mk g
        repeat' (first | simp -implicitDefEqProofs only [W_skip, W_reg, W_seq, W_rcond, W_cond, W_block, W_loop, W_exit, W_ret, thenQ_normal, thenQ_exit, thenQ_ret, blockQ_normal, blockQ_ret, blockQ_here, regQ_app, rcQ_app, cndK_t, cndK_f, RegW_nil, RegW_none, RegW_some, contW_app, grdK_tt, grdK_ff, grdK_tf, grdK_ft, grdK_undef, actK_p, actK_r, actK_a, actK_w, actK_call, actK_callV, heapK_app, allocK_app, writeK_app, ret1_ret, ret1_normal, ret0_ret, ret0_normal, ret2_ret2, thenK_app, retcv_ret, retcvK_app, optW_some, evs, Arg.ev, aP, aR, aA, aW, pMov, pBin, pUn, pConv, pPick, pFieldAddr, pNilCheck, pExtract, aBin, aUn, aInt, aNew, partL_f, upd, List.getElem?_cons_zero, List.getElem?_cons_succ, List.getD_cons_zero, List.getD_cons_succ, List.set_cons_zero, List.set_cons_succ, Nat.zero_add, Nat.add_zero, List.getElem?_toArray, List.take_zero, List.drop_zero, List.take_succ_cons, List.drop_succ_cons, if_true, if_false, decide_true, decide_false, Bool.false_eq_true, Bool.true_eq_false, Bool.not_true, Bool.not_false, not_true_eq_false, not_false_eq_true, ge_iff_le, gt_iff_lt, beq_self_eq_true, bne_self_eq_false, and_self, and_true, true_and, Option.isSome_some, Heap.get_alloc_same, Heap.alloc_getE, len_S, *] | with_reducible refine cndK_d (fun hc => ?_) (fun hc => ?_) | with_reducible refine grdK_d (fun hc => ?_) (fun hc => ?_) | with_reducible refine cndK_i (fun hc => ?_) (fun hc => ?_) | with_reducible refine grdK_i (fun hc => ?_) (fun hc => ?_))
        exact g.h
      | false =>
        have g := stop.h (by rw [h1, h2]; rfl)
        replace g := Hid.mk g
        repeat' (first | simp -implicitDefEqProofs only [W_skip, W_reg, W_seq, W_rcond, W_cond, W_block, W_loop, W_exit, W_ret, thenQ_normal, thenQ_exit, thenQ_ret, blockQ_normal, blockQ_ret, blockQ_here, regQ_app, rcQ_app, cndK_t, cndK_f, RegW_nil, RegW_none, RegW_some, contW_app, grdK_tt, grdK_ff, grdK_tf, grdK_ft, grdK_undef, actK_p, actK_r, actK_a, actK_w, actK_call, actK_callV, heapK_app, allocK_app, writeK_app, ret1_ret, ret1_normal, ret0_ret, ret0_normal, ret2_ret2, thenK_app, retcv_ret, retcvK_app, optW_some, evs, Arg.ev, aP, aR, aA, aW, pMov, pBin, pUn, pConv, pPick, pFieldAddr, pNilCheck, pExtract, aBin, aUn, aInt, aNew, partL_f, upd, List.getElem?_cons_zero, List.getElem?_cons_succ, List.getD_cons_zero, List.getD_cons_succ, List.set_cons_zero, List.set_cons_succ, Nat.zero_add, Nat.add_zero, List.getElem?_toArray, List.take_zero, List.drop_zero, List.take_succ_cons, List.drop_succ_cons, if_true, if_false, decide_true, decide_false, Bool.false_eq_true, Bool.true_eq_false, Bool.not_true, Bool.not_false, not_true_eq_false, not_false_eq_true, ge_iff_le, gt_iff_lt, beq_self_eq_true, bne_self_eq_false, and_self, and_true, true_and, Option.isSome_some, Heap.get_alloc_same, Heap.alloc_getE, len_S, *] | with_reducible refine cndK_d (fun hc => ?_) (fun hc => ?_) | with_reducible refine grdK_d (fun hc => ?_) (fun hc => ?_) | with_reducible refine cndK_i (fun hc => ?_) (fun hc => ?_) | with_reducible refine grdK_i (fun hc => ?_) (fun hc => ?_))
        exact g.h
end Go.Eng.Tk

set_option linter.unusedSimpArgs false
set_option linter.unusedVariables false
namespace Go.Eng.Tk
open Go Go.Eng Go.Proofs

theorem refScan_loop {l : List UInt8} (hl : l.length ≤ 20000) {N : Nat} {h0 : Heap} {e1 e2 e3 : Value} {Q' : AExit → List Value → Heap → Prop}
    (hQ1 : ∀ h' out e7 e8 e9, (scanW l 1).2.2 = true → h0.le h' → Toks h0 h' out (scanW l 1).1 → Q' (.exit 0) [str l, e1, e2, e3, out, .int .i64 (scanW l 1).2.1, .int .i64 l.length, e7, e8, e9] h')
    (hQ2 : ∀ e' h', (scanW l 1).2.2 = false → h0.le h' → e'[1]? = some (.slice none 0 0) → e'[2]? = some (.int .i64 50) → e'[3]? = some (.int .i64 (scanW l 1).2.1) → Q' .ret e' h') :
    ∀ (n : Nat) {i : Nat} {m : Int} {ts : List Tok} {h : Heap} {out e7 e8 e9 : Value}, l.length - i ≤ n → i ≤ l.length → h0.le h → Toks h0 h out ts → 1 ≤ m → m ≤ 1 + i → ts.length ≤ i →
      scanW l 1 = (ts ++ (scanW (l.drop i) m).1, (scanW (l.drop i) m).2) →
      LoopW Tryd.prog N c19.vars c19_l29 [str l, e1, e2, e3, out, .int .i64 m, .int .i64 (i : Nat), e7, e8, e9] h Q' := by
  replace hQ1 := Hid.mk hQ1
  replace hQ2 := Hid.mk hQ2
  intro n
  induction n with
  | zero =>
    intro i m ts h out e7 e8 e9 hn hi hle hto hm hmi hts hsc
    refine LoopW.round ?_
    have hii : i = l.length := by omega
    rw [List.drop_of_length_le (by omega), scanW_nil, List.append_nil] at hsc
    have g := hQ1.h h out e7 e8 e9 (by rw [hsc]) hle (by rw [hsc]; exact hto)
    rw [hsc] at g
    have hlt : ¬ (i : Int) < (l.length : Int) := by omega
    rw [← hii] at g
    replace g := Hid.mk g
    delta c19_l29 c19_r6
    clear hto hle hii
    repeat' (first | simp -implicitDefEqProofs only [W_skip, W_reg, W_seq, W_rcond, W_cond, W_block, W_loop, W_exit, W_ret, thenQ_normal, thenQ_exit, thenQ_ret, blockQ_normal, blockQ_ret, blockQ_here, regQ_app, rcQ_app, cndK_t, cndK_f, RegW_nil, RegW_none, RegW_some, contW_app, grdK_tt, grdK_ff, grdK_tf, grdK_ft, grdK_undef, actK_p, actK_r, actK_a, actK_w, actK_call, actK_callV, heapK_app, allocK_app, writeK_app, ret1_ret, ret1_normal, ret0_ret, ret0_normal, ret2_ret2, thenK_app, retcv_ret, retcvK_app, optW_some, evs, Arg.ev, aP, aR, aA, aW, pMov, pBin, pUn, pConv, pPick, pFieldAddr, pNilCheck, pExtract, aBin, aUn, aInt, aNew, partL_f, upd, List.getElem?_cons_zero, List.getElem?_cons_succ, List.getD_cons_zero, List.getD_cons_succ, List.set_cons_zero, List.set_cons_succ, Nat.zero_add, Nat.add_zero, List.getElem?_toArray, List.take_zero, List.drop_zero, List.take_succ_cons, List.drop_succ_cons, if_true, if_false, decide_true, decide_false, Bool.false_eq_true, Bool.true_eq_false, Bool.not_true, Bool.not_false, not_true_eq_false, not_false_eq_true, ge_iff_le, gt_iff_lt, beq_self_eq_true, bne_self_eq_false, and_self, and_true, true_and, Option.isSome_some, Heap.get_alloc_same, Heap.alloc_getE, len_S, *] | with_reducible refine cndK_d (fun hc => ?_) (fun hc => ?_) | with_reducible refine grdK_d (fun hc => ?_) (fun hc => ?_) | with_reducible refine cndK_i (fun hc => ?_) (fun hc => ?_) | with_reducible refine grdK_i (fun hc => ?_) (fun hc => ?_))
    exact g.h
  | succ n ih =>
    intro i m ts h out e7 e8 e9 hn hi hle hto hm hmi hts hsc
    by_cases hii : i = l.length
    · exact ih (by omega) hi hle hto hm hmi hts hsc
    refine LoopW.round ?_
    have hlt : i < l.length := by omega
    have hlt' : (i : Int) < (l.length : Int) := by omega
    obtain ⟨b, hb⟩ : ∃ b, l[i]? = some b := ⟨_, List.getElem?_eq_getElem hlt⟩
    have hdr : l.drop i = b :: l.drop (i + 1) := by
      rw [List.drop_eq_getElem_cons hlt]
      congr 1
      exact (List.getElem?_eq_some_iff.1 hb).2
    have ix := idx_S hb .i64
    have hwi : IntKind.i64.wrap ((i : Int) + 1) = ((i + 1 : Nat) : Int) := by rw [wrapI (by omega) (by omega)]; rfl
    have hwm : IntKind.i64.wrap (m + 1) = m + 1 := wrapI (by omega) (by omega)
    replace ih := Hid.mk @ih
    replace hto := Hid.mk hto
    replace hle := Hid.mk hle
    replace hsc := Hid.mk hsc
    replace hdr := Hid.mk hdr
    delta c19_l29 c19_r6 c19_r7 c19_r8 c19_r9 c19_r10 c19_r11 c19_r12 c19_r13 c19_r17 c19_r21 c19_r22 c19_r23 c19_r24 c19_r25 c19_r26 c19_r27 c19_r28
    clear hb hii
    by_cases h10 : b = 10
    · have k1 : ((b.toNat : Int) == 10) = true := by subst h10; rfl
      have g := ih.h (i := i + 1) (m := m + 1) (ts := ts) (h := h) (out := out) (e7 := .int .u8 b.toNat) (e8 := e8) (e9 := e9) (by omega) (by omega) hle.h hto.h (by omega) (by omega) (by omega) (by rw [hsc.h, hdr.h, h10, scanW_nl])
      replace g := Hid.mk g
      clear h10
      repeat' (first | simp -implicitDefEqProofs only [W_skip, W_reg, W_seq, W_rcond, W_cond, W_block, W_loop, W_exit, W_ret, thenQ_normal, thenQ_exit, thenQ_ret, blockQ_normal, blockQ_ret, blockQ_here, regQ_app, rcQ_app, cndK_t, cndK_f, RegW_nil, RegW_none, RegW_some, contW_app, grdK_tt, grdK_ff, grdK_tf, grdK_ft, grdK_undef, actK_p, actK_r, actK_a, actK_w, actK_call, actK_callV, heapK_app, allocK_app, writeK_app, ret1_ret, ret1_normal, ret0_ret, ret0_normal, ret2_ret2, thenK_app, retcv_ret, retcvK_app, optW_some, evs, Arg.ev, aP, aR, aA, aW, pMov, pBin, pUn, pConv, pPick, pFieldAddr, pNilCheck, pExtract, aBin, aUn, aInt, aNew, partL_f, upd, List.getElem?_cons_zero, List.getElem?_cons_succ, List.getD_cons_zero, List.getD_cons_succ, List.set_cons_zero, List.set_cons_succ, Nat.zero_add, Nat.add_zero, List.getElem?_toArray, List.take_zero, List.drop_zero, List.take_succ_cons, List.drop_succ_cons, if_true, if_false, decide_true, decide_false, Bool.false_eq_true, Bool.true_eq_false, Bool.not_true, Bool.not_false, not_true_eq_false, not_false_eq_true, ge_iff_le, gt_iff_lt, beq_self_eq_true, bne_self_eq_false, and_self, and_true, true_and, Option.isSome_some, Heap.get_alloc_same, Heap.alloc_getE, len_S, *] | with_reducible refine cndK_d (fun hc => ?_) (fun hc => ?_) | with_reducible refine grdK_d (fun hc => ?_) (fun hc => ?_) | with_reducible refine cndK_i (fun hc => ?_) (fun hc => ?_) | with_reducible refine grdK_i (fun hc => ?_) (fun hc => ?_))
      exact g.h
    have k1 : ((b.toNat : Int) == 10) = false := by
      cases h : ((b.toNat : Int) == 10) with
      | false => rfl
      | true => exact absurd (by apply UInt8.toNat_inj.1; simp; simp at h; omega) h10
    by_cases hbl : isBl b = true
    · have g := ih.h (i := i + 1) (m := m) (ts := ts) (h := h) (out := out) (e7 := .int .u8 b.toNat) (e8 := e8) (e9 := e9) (by omega) (by omega) hle.h hto.h (by omega) (by omega) (by omega) (by rw [hsc.h, hdr.h, scanW_bl hbl])
      replace g := Hid.mk g
      have hor : b = 32 ∨ b = 9 := by unfold isBl at hbl; simpa using hbl
      by_cases h32 : b = 32
      · have k2 : ((b.toNat : Int) == 32) = true := by subst h32; rfl
        clear h10 hbl hor h32
        repeat' (first | simp -implicitDefEqProofs only [W_skip, W_reg, W_seq, W_rcond, W_cond, W_block, W_loop, W_exit, W_ret, thenQ_normal, thenQ_exit, thenQ_ret, blockQ_normal, blockQ_ret, blockQ_here, regQ_app, rcQ_app, cndK_t, cndK_f, RegW_nil, RegW_none, RegW_some, contW_app, grdK_tt, grdK_ff, grdK_tf, grdK_ft, grdK_undef, actK_p, actK_r, actK_a, actK_w, actK_call, actK_callV, heapK_app, allocK_app, writeK_app, ret1_ret, ret1_normal, ret0_ret, ret0_normal, ret2_ret2, thenK_app, retcv_ret, retcvK_app, optW_some, evs, Arg.ev, aP, aR, aA, aW, pMov, pBin, pUn, pConv, pPick, pFieldAddr, pNilCheck, pExtract, aBin, aUn, aInt, aNew, partL_f, upd, List.getElem?_cons_zero, List.getElem?_cons_succ, List.getD_cons_zero, List.getD_cons_succ, List.set_cons_zero, List.set_cons_succ, Nat.zero_add, Nat.add_zero, List.getElem?_toArray, List.take_zero, List.drop_zero, List.take_succ_cons, List.drop_succ_cons, if_true, if_false, decide_true, decide_false, Bool.false_eq_true, Bool.true_eq_false, Bool.not_true, Bool.not_false, not_true_eq_false, not_false_eq_true, ge_iff_le, gt_iff_lt, beq_self_eq_true, bne_self_eq_false, and_self, and_true, true_and, Option.isSome_some, Heap.get_alloc_same, Heap.alloc_getE, len_S, *] | with_reducible refine cndK_d (fun hc => ?_) (fun hc => ?_) | with_reducible refine grdK_d (fun hc => ?_) (fun hc => ?_) | with_reducible refine cndK_i (fun hc => ?_) (fun hc => ?_) | with_reducible refine grdK_i (fun hc => ?_) (fun hc => ?_))
        exact g.h
      · have k2 : ((b.toNat : Int) == 32) = false := by
          cases h : ((b.toNat : Int) == 32) with
          | false => rfl
          | true => exact absurd (by apply UInt8.toNat_inj.1; simp; simp at h; omega) h32
        have k3 : ((b.toNat : Int) == 9) = true := by
          rcases hor with h | h
          · exact absurd h h32
          · subst h; rfl
        clear h10 hbl hor h32
        repeat' (first | simp -implicitDefEqProofs only [W_skip, W_reg, W_seq, W_rcond, W_cond, W_block, W_loop, W_exit, W_ret, thenQ_normal, thenQ_exit, thenQ_ret, blockQ_normal, blockQ_ret, blockQ_here, regQ_app, rcQ_app, cndK_t, cndK_f, RegW_nil, RegW_none, RegW_some, contW_app, grdK_tt, grdK_ff, grdK_tf, grdK_ft, grdK_undef, actK_p, actK_r, actK_a, actK_w, actK_call, actK_callV, heapK_app, allocK_app, writeK_app, ret1_ret, ret1_normal, ret0_ret, ret0_normal, ret2_ret2, thenK_app, retcv_ret, retcvK_app, optW_some, evs, Arg.ev, aP, aR, aA, aW, pMov, pBin, pUn, pConv, pPick, pFieldAddr, pNilCheck, pExtract, aBin, aUn, aInt, aNew, partL_f, upd, List.getElem?_cons_zero, List.getElem?_cons_succ, List.getD_cons_zero, List.getD_cons_succ, List.set_cons_zero, List.set_cons_succ, Nat.zero_add, Nat.add_zero, List.getElem?_toArray, List.take_zero, List.drop_zero, List.take_succ_cons, List.drop_succ_cons, if_true, if_false, decide_true, decide_false, Bool.false_eq_true, Bool.true_eq_false, Bool.not_true, Bool.not_false, not_true_eq_false, not_false_eq_true, ge_iff_le, gt_iff_lt, beq_self_eq_true, bne_self_eq_false, and_self, and_true, true_and, Option.isSome_some, Heap.get_alloc_same, Heap.alloc_getE, len_S, *] | with_reducible refine cndK_d (fun hc => ?_) (fun hc => ?_) | with_reducible refine grdK_d (fun hc => ?_) (fun hc => ?_) | with_reducible refine cndK_i (fun hc => ?_) (fun hc => ?_) | with_reducible refine grdK_i (fun hc => ?_) (fun hc => ?_))
        exact g.h
    have k2 : ((b.toNat : Int) == 32) = false := by
      cases h : ((b.toNat : Int) == 32) with
      | false => rfl
      | true => exact absurd (by rw [show b = 32 by apply UInt8.toNat_inj.1; simp; simp at h; omega]; rfl) hbl
    have k3 : ((b.toNat : Int) == 9) = false := by
      cases h : ((b.toNat : Int) == 9) with
      | false => rfl
      | true => exact absurd (by rw [show b = 9 by apply UInt8.toNat_inj.1; simp; simp at h; omega]; rfl) hbl
    by_cases h35 : b = 35
    · have k4 : ((b.toNat : Int) == 35) = true := by subst h35; rfl
      have g := fun j (hj1 : i ≤ j) (hj2 : j ≤ l.length) (hj : l.drop j = (l.drop i).dropWhile (· != 10)) => ih.h (i := j) (m := m) (ts := ts) (h := h) (out := out) (e7 := .int .u8 b.toNat) (e8 := e8) (e9 := e9)
      have gg : ∀ j, i ≤ j → j ≤ l.length → l.drop j = (l.drop i).dropWhile (· != 10) → LoopW Tryd.prog N c19.vars c19_l29 [str l, e1, e2, e3, out, .int .i64 m, .int .i64 (j : Nat), .int .u8 b.toNat, e8, e9] h Q' := by
        intro j hj1 hj2 hj
        have hji : i < j := by
          rcases Nat.lt_or_ge i j with h | h
          · exact h
          · exfalso
            have h2 : (l.drop j).length = l.length - j := by simp
            have h3 : ((l.drop i).dropWhile (· != 10)).length ≤ l.length - (i + 1) := by
              rw [hdr.h, h35, List.dropWhile_cons, if_pos (by decide)]
              have := dropW_len (· != (10 : UInt8)) (l.drop (i + 1))
              rw [List.length_drop] at this
              exact this
            rw [hj] at h2
            omega
        exact ih.h (by omega) hj2 hle.h hto.h hm (by omega) (by omega) (by rw [hsc.h, hj, hdr.h, h35, ← scanW_hash])
      replace gg := Hid.mk gg
      clear g h10 hbl h35
      repeat' (first | simp -implicitDefEqProofs only [W_skip, W_reg, W_seq, W_rcond, W_cond, W_block, W_loop, W_exit, W_ret, thenQ_normal, thenQ_exit, thenQ_ret, blockQ_normal, blockQ_ret, blockQ_here, regQ_app, rcQ_app, cndK_t, cndK_f, RegW_nil, RegW_none, RegW_some, contW_app, grdK_tt, grdK_ff, grdK_tf, grdK_ft, grdK_undef, actK_p, actK_r, actK_a, actK_w, actK_call, actK_callV, heapK_app, allocK_app, writeK_app, ret1_ret, ret1_normal, ret0_ret, ret0_normal, ret2_ret2, thenK_app, retcv_ret, retcvK_app, optW_some, evs, Arg.ev, aP, aR, aA, aW, pMov, pBin, pUn, pConv, pPick, pFieldAddr, pNilCheck, pExtract, aBin, aUn, aInt, aNew, partL_f, upd, List.getElem?_cons_zero, List.getElem?_cons_succ, List.getD_cons_zero, List.getD_cons_succ, List.set_cons_zero, List.set_cons_succ, Nat.zero_add, Nat.add_zero, List.getElem?_toArray, List.take_zero, List.drop_zero, List.take_succ_cons, List.drop_succ_cons, if_true, if_false, decide_true, decide_false, Bool.false_eq_true, Bool.true_eq_false, Bool.not_true, Bool.not_false, not_true_eq_false, not_false_eq_true, ge_iff_le, gt_iff_lt, beq_self_eq_true, bne_self_eq_false, and_self, and_true, true_and, Option.isSome_some, Heap.get_alloc_same, Heap.alloc_getE, len_S, *] | with_reducible refine cndK_d (fun hc => ?_) (fun hc => ?_) | with_reducible refine grdK_d (fun hc => ?_) (fun hc => ?_) | with_reducible refine cndK_i (fun hc => ?_) (fun hc => ?_) | with_reducible refine grdK_i (fun hc => ?_) (fun hc => ?_))
      refine hash_loop hl hi ?_
      intro j hj1 hj2 hj
      have g := gg.h j hj1 hj2 hj
      replace g := Hid.mk g
      clear hj
      repeat' (first | simp -implicitDefEqProofs only [W_skip, W_reg, W_seq, W_rcond, W_cond, W_block, W_loop, W_exit, W_ret, thenQ_normal, thenQ_exit, thenQ_ret, blockQ_normal, blockQ_ret, blockQ_here, regQ_app, rcQ_app, cndK_t, cndK_f, RegW_nil, RegW_none, RegW_some, contW_app, grdK_tt, grdK_ff, grdK_tf, grdK_ft, grdK_undef, actK_p, actK_r, actK_a, actK_w, actK_call, actK_callV, heapK_app, allocK_app, writeK_app, ret1_ret, ret1_normal, ret0_ret, ret0_normal, ret2_ret2, thenK_app, retcv_ret, retcvK_app, optW_some, evs, Arg.ev, aP, aR, aA, aW, pMov, pBin, pUn, pConv, pPick, pFieldAddr, pNilCheck, pExtract, aBin, aUn, aInt, aNew, partL_f, upd, List.getElem?_cons_zero, List.getElem?_cons_succ, List.getD_cons_zero, List.getD_cons_succ, List.set_cons_zero, List.set_cons_succ, Nat.zero_add, Nat.add_zero, List.getElem?_toArray, List.take_zero, List.drop_zero, List.take_succ_cons, List.drop_succ_cons, if_true, if_false, decide_true, decide_false, Bool.false_eq_true, Bool.true_eq_false, Bool.not_true, Bool.not_false, not_true_eq_false, not_false_eq_true, ge_iff_le, gt_iff_lt, beq_self_eq_true, bne_self_eq_false, and_self, and_true, true_and, Option.isSome_some, Heap.get_alloc_same, Heap.alloc_getE, len_S, *] | with_reducible refine cndK_d (fun hc => ?_) (fun hc => ?_) | with_reducible refine grdK_d (fun hc => ?_) (fun hc => ?_) | with_reducible refine cndK_i (fun hc => ?_) (fun hc => ?_) | with_reducible refine grdK_i (fun hc => ?_) (fun hc => ?_))
      exact g.h
    have k4 : ((b.toNat : Int) == 35) = false := by
      cases h : ((b.toNat : Int) == 35) with
      | false => rfl
      | true => exact absurd (by apply UInt8.toNat_inj.1; simp; simp at h; omega) h35
    have hhere : isBl b = false ∧ b ≠ 10 ∧ b ≠ 35 := ⟨by simpa using hbl, h10, h35⟩
    obtain ⟨w, hw⟩ : ∃ w, runN (l.drop i) = w := ⟨_, rfl⟩
    have hwl : w ≤ l.length - i := by have := runN_le (l.drop i); simp at this; omega
    have hww : ((i + w : Nat) : Int) = ((i + w : Nat) : Int) := rfl
    have ct : pSliceStr true true [.string ⟨l.toArray⟩, .int .i64 (i : Int), .int .i64 ((i + w : Nat) : Int)] = some (.string ⟨((l.drop i).take w).toArray⟩) := by
      have := cut_S (l := l) (m := i) (n := i + w) (by omega) (by omega)
      rw [List.drop_take, show i + w - i = w by omega] at this
      exact this
    -- a token is appended
    have tail : ∀ (t : Tok) (k : Nat) (h3 : Heap) (q : Nat) (e7 e8 : Value), 0 < k → i + k ≤ l.length → t.text.length = k → scanW (l.drop i) m = ({ t with line := m } :: (scanW (l.drop (i + k)) m).1, (scanW (l.drop (i + k)) m).2) →
        h.le h3 → h.next ≤ q → h3.get q = some (.blk t.cells true) →
        ∃ h4, wStore 1 h3 [.pointer (some ⟨q, 3, none⟩), .int .i64 m] = some (undef, h4) ∧ h4.get q = some (.blk [.int .i64 t.kind, str t.text, .int .i64 t.n, .int .i64 m] true) ∧
          ∃ v' h5, wAppend 4 40 (h4.alloc (.blk (Tok.cells { t with line := m }) true)) [out, .slice (some ⟨h4.next, 0, none⟩) 1 4] = some (v', h5) ∧ h5.get q = some (.blk [.int .i64 t.kind, str t.text, .int .i64 t.n, .int .i64 m] true) ∧
            LoopW Tryd.prog N c19.vars c19_l29 [str l, e1, e2, e3, v', .int .i64 m, .int .i64 ((i + k : Nat) : Int), e7, e8, .pointer (some ⟨q, 0, none⟩)] h5 Q' := by
      intro t k h3 q e7 e8 hk0 hkl htl hs l3 hq gq
      have st := wStore_int (k := .i64) (z := m) (off := 3) gq (by simp [Tok.cells])
      refine ⟨_, st, ?_, ?_⟩
      · exact Heap.set_getS _ _ _ (by rw [gq]; rfl)
      obtain ⟨h4, hh4⟩ : ∃ x, h3.set q (.blk (t.cells.set 3 (.int .i64 m)) true) = x := ⟨_, rfl⟩
      rw [hh4]
      have gq4 : h4.get q = some (.blk [.int .i64 t.kind, str t.text, .int .i64 t.n, .int .i64 m] true) := by rw [← hh4]; exact Heap.set_getS _ _ _ (by rw [gq]; rfl)
      have l4 : h.le h4 := by rw [← hh4]; exact l3.set hq _
      have hno : notOf out q := by
        intro n s e
        rcases hto.h with ⟨ho, _⟩ | ⟨id, ho, _, hg, _⟩
        · rw [ho] at e; cases e
        · rw [ho] at e; cases e
          have := Heap.lt_of_get hg
          omega
      obtain ⟨v', h5, b1, b2, b3, b4, _⟩ := toks_append (hto.h.mono l4) (hle.h.trans l4) (by omega) { t with line := m }
      refine ⟨v', h5, b1, ?_, ?_⟩
      · rw [b4 q (by rw [gq4]; rfl) hno]; exact gq4
      · exact ih.h (by omega) hkl b3 b2 hm (by omega) (by simp; omega) (by rw [hsc.h, hs]; simp)
    have bad : ∀ h3, h.le h3 → scanW (l.drop i) m = ([], m, false) → ∀ e', e'[1]? = some (.slice none 0 0) → e'[2]? = some (.int .i64 50) → e'[3]? = some (.int .i64 m) → Q' .ret e' h3 := by
      intro h3 l3 hs e' c1 c2 c3
      have hw := hsc.h
      rw [hs] at hw
      exact hQ2.h e' h3 (by rw [hw]) (hle.h.trans l3) c1 c2 (by rw [hw]; exact c3)
    replace tail := Hid.mk tail
    replace bad := Hid.mk bad
    have hdl := hdr.h
    replace hdl := Hid.mk hdl
    clear h10 h35 hbl
    replace hhere := Hid.mk hhere
    repeat' (first | simp -implicitDefEqProofs only [W_skip, W_reg, W_seq, W_rcond, W_cond, W_block, W_loop, W_exit, W_ret, thenQ_normal, thenQ_exit, thenQ_ret, blockQ_normal, blockQ_ret, blockQ_here, regQ_app, rcQ_app, cndK_t, cndK_f, RegW_nil, RegW_none, RegW_some, contW_app, grdK_tt, grdK_ff, grdK_tf, grdK_ft, grdK_undef, actK_p, actK_r, actK_a, actK_w, actK_call, actK_callV, heapK_app, allocK_app, writeK_app, ret1_ret, ret1_normal, ret0_ret, ret0_normal, ret2_ret2, thenK_app, retcv_ret, retcvK_app, optW_some, evs, Arg.ev, aP, aR, aA, aW, pMov, pBin, pUn, pConv, pPick, pFieldAddr, pNilCheck, pExtract, aBin, aUn, aInt, aNew, partL_f, upd, List.getElem?_cons_zero, List.getElem?_cons_succ, List.getD_cons_zero, List.getD_cons_succ, List.set_cons_zero, List.set_cons_succ, Nat.zero_add, Nat.add_zero, List.getElem?_toArray, List.take_zero, List.drop_zero, List.take_succ_cons, List.drop_succ_cons, if_true, if_false, decide_true, decide_false, Bool.false_eq_true, Bool.true_eq_false, Bool.not_true, Bool.not_false, not_true_eq_false, not_false_eq_true, ge_iff_le, gt_iff_lt, beq_self_eq_true, bne_self_eq_false, and_self, and_true, true_and, Option.isSome_some, Heap.get_alloc_same, Heap.alloc_getE, len_S, *] | with_reducible refine cndK_d (fun hc => ?_) (fun hc => ?_) | with_reducible refine grdK_d (fun hc => ?_) (fun hc => ?_) | with_reducible refine cndK_i (fun hc => ?_) (fun hc => ?_) | with_reducible refine grdK_i (fun hc => ?_) (fun hc => ?_))
    refine run_loop hl hi ?_
    rw [hw]
    repeat' (first | simp -implicitDefEqProofs only [W_skip, W_reg, W_seq, W_rcond, W_cond, W_block, W_loop, W_exit, W_ret, thenQ_normal, thenQ_exit, thenQ_ret, blockQ_normal, blockQ_ret, blockQ_here, regQ_app, rcQ_app, cndK_t, cndK_f, RegW_nil, RegW_none, RegW_some, contW_app, grdK_tt, grdK_ff, grdK_tf, grdK_ft, grdK_undef, actK_p, actK_r, actK_a, actK_w, actK_call, actK_callV, heapK_app, allocK_app, writeK_app, ret1_ret, ret1_normal, ret0_ret, ret0_normal, ret2_ret2, thenK_app, retcv_ret, retcvK_app, optW_some, evs, Arg.ev, aP, aR, aA, aW, pMov, pBin, pUn, pConv, pPick, pFieldAddr, pNilCheck, pExtract, aBin, aUn, aInt, aNew, partL_f, upd, List.getElem?_cons_zero, List.getElem?_cons_succ, List.getD_cons_zero, List.getD_cons_succ, List.set_cons_zero, List.set_cons_succ, Nat.zero_add, Nat.add_zero, List.getElem?_toArray, List.take_zero, List.drop_zero, List.take_succ_cons, List.drop_succ_cons, if_true, if_false, decide_true, decide_false, Bool.false_eq_true, Bool.true_eq_false, Bool.not_true, Bool.not_false, not_true_eq_false, not_false_eq_true, ge_iff_le, gt_iff_lt, beq_self_eq_true, bne_self_eq_false, and_self, and_true, true_and, Option.isSome_some, Heap.get_alloc_same, Heap.alloc_getE, len_S, *] | with_reducible refine cndK_d (fun hc => ?_) (fun hc => ?_) | with_reducible refine grdK_d (fun hc => ?_) (fun hc => ?_) | with_reducible refine cndK_i (fun hc => ?_) (fun hc => ?_) | with_reducible refine grdK_i (fun hc => ?_) (fun hc => ?_))
    refine refOne_c h _ fun h1 l1 => ?_
    obtain ⟨q, hqq⟩ : ∃ x, h1.next = x := ⟨_, rfl⟩
    obtain ⟨t, ht⟩ : ∃ t, refOneS ((l.drop i).take w) = t := ⟨_, rfl⟩
    rw [ht]
    have st := wStore_new (h := h1) (size := 4) (zs := [.int .i64 0, .string ⟨#[]⟩, .int .i64 0, .int .i64 0]) (v := t.val) rfl rfl rfl rfl
    obtain ⟨h2, hh2⟩ : ∃ x, h1.alloc (.blk t.cells true) = x := ⟨_, rfl⟩
    have l2 : h1.le h2 := by rw [← hh2]; exact (Heap.le.refl _).alloc _
    have gq2 : h2.get q = some (.blk [.int .i64 t.kind, str t.text, .int .i64 t.n, .int .i64 t.line] true) := by rw [← hh2, ← hqq]; exact Heap.get_alloc_same _ _
    replace st : wStore 4 (h1.alloc (.blk [.int .i64 0, .string ⟨#[]⟩, .int .i64 0, .int .i64 0] true)) [.pointer (some ⟨q, 0, none⟩), t.val] = some (undef, h2) := by rw [← hh2, ← hqq]; exact st
    have hq0 : h.next ≤ q := by rw [← hqq]; exact l1.next
    have l12 := l1.trans l2
    replace hh2 := Hid.mk hh2
    replace hw := Hid.mk hw
    by_cases hw0 : w = 0
    · have kz : (((i + w : Nat) : Int) == (i : Int)) = true := by simp; omega
      have ct2 := cutLo_S (l := l) (n := i) hi
      have hr0 : runN (b :: l.drop (i + 1)) = 0 := by rw [← hdl.h, hw.h, hw0]
      replace hr0 := Hid.mk hr0
      clear ht hw0 l1 l2
      replace l12 := Hid.mk l12
      repeat' (first | simp -implicitDefEqProofs only [W_skip, W_reg, W_seq, W_rcond, W_cond, W_block, W_loop, W_exit, W_ret, thenQ_normal, thenQ_exit, thenQ_ret, blockQ_normal, blockQ_ret, blockQ_here, regQ_app, rcQ_app, cndK_t, cndK_f, RegW_nil, RegW_none, RegW_some, contW_app, grdK_tt, grdK_ff, grdK_tf, grdK_ft, grdK_undef, actK_p, actK_r, actK_a, actK_w, actK_call, actK_callV, heapK_app, allocK_app, writeK_app, ret1_ret, ret1_normal, ret0_ret, ret0_normal, ret2_ret2, thenK_app, retcv_ret, retcvK_app, optW_some, evs, Arg.ev, aP, aR, aA, aW, pMov, pBin, pUn, pConv, pPick, pFieldAddr, pNilCheck, pExtract, aBin, aUn, aInt, aNew, partL_f, upd, List.getElem?_cons_zero, List.getElem?_cons_succ, List.getD_cons_zero, List.getD_cons_succ, List.set_cons_zero, List.set_cons_succ, Nat.zero_add, Nat.add_zero, List.getElem?_toArray, List.take_zero, List.drop_zero, List.take_succ_cons, List.drop_succ_cons, if_true, if_false, decide_true, decide_false, Bool.false_eq_true, Bool.true_eq_false, Bool.not_true, Bool.not_false, not_true_eq_false, not_false_eq_true, ge_iff_le, gt_iff_lt, beq_self_eq_true, bne_self_eq_false, and_self, and_true, true_and, Option.isSome_some, Heap.get_alloc_same, Heap.alloc_getE, len_S, *] | with_reducible refine cndK_d (fun hc => ?_) (fun hc => ?_) | with_reducible refine grdK_d (fun hc => ?_) (fun hc => ?_) | with_reducible refine cndK_i (fun hc => ?_) (fun hc => ?_) | with_reducible refine grdK_i (fun hc => ?_) (fun hc => ?_))
      refine refSign_c h2 _ fun h3 l3 => ?_
      have gq3 := l3.get gq2
      have l13 := l12.h.trans l3
      cases hf : signsL.find? (·.isPrefixOf (l.drop i)) with
      | none =>
        have hsg : refSignS (l.drop i) = [] := by unfold refSignS; rw [hf]; rfl
        rw [hsg]
        have st3 : wStore 4 h3 [.pointer (some ⟨q, 0, none⟩), Tok.val ⟨4, [], 0, 0⟩] = some (undef, h3.set q (.blk (Tok.cells ⟨4, [], 0, 0⟩) true)) := wStore_all gq3 rfl rfl rfl rfl
        obtain ⟨h4, hh4⟩ : ∃ x, h3.set q (.blk (Tok.cells ⟨4, [], 0, 0⟩) true) = x := ⟨_, rfl⟩
        rw [hh4] at st3
        have gq4 : h4.get q = some (.blk [.int .i64 4, str [], .int .i64 0, .int .i64 0] true) := by rw [← hh4]; exact Heap.set_getS _ _ _ (by rw [gq3]; rfl)
        have l14 : h.le h4 := by rw [← hh4]; exact l13.set hq0 _
        have g := bad.h h4 l14 (by rw [hdl.h] at hf ⊢; exact scanW_signbad m hhere.h hr0.h hf)
        replace g := Hid.mk g
        have b2 := build2 4 []
        have e0 : (([] : List UInt8) == []) = true := rfl
        replace hh4 := Hid.mk hh4
        clear hf hsg l13 l14 l3
        repeat' (first | simp -implicitDefEqProofs only [W_skip, W_reg, W_seq, W_rcond, W_cond, W_block, W_loop, W_exit, W_ret, thenQ_normal, thenQ_exit, thenQ_ret, blockQ_normal, blockQ_ret, blockQ_here, regQ_app, rcQ_app, cndK_t, cndK_f, RegW_nil, RegW_none, RegW_some, contW_app, grdK_tt, grdK_ff, grdK_tf, grdK_ft, grdK_undef, actK_p, actK_r, actK_a, actK_w, actK_call, actK_callV, heapK_app, allocK_app, writeK_app, ret1_ret, ret1_normal, ret0_ret, ret0_normal, ret2_ret2, thenK_app, retcv_ret, retcvK_app, optW_some, evs, Arg.ev, aP, aR, aA, aW, pMov, pBin, pUn, pConv, pPick, pFieldAddr, pNilCheck, pExtract, aBin, aUn, aInt, aNew, partL_f, upd, List.getElem?_cons_zero, List.getElem?_cons_succ, List.getD_cons_zero, List.getD_cons_succ, List.set_cons_zero, List.set_cons_succ, Nat.zero_add, Nat.add_zero, List.getElem?_toArray, List.take_zero, List.drop_zero, List.take_succ_cons, List.drop_succ_cons, if_true, if_false, decide_true, decide_false, Bool.false_eq_true, Bool.true_eq_false, Bool.not_true, Bool.not_false, not_true_eq_false, not_false_eq_true, ge_iff_le, gt_iff_lt, beq_self_eq_true, bne_self_eq_false, and_self, and_true, true_and, Option.isSome_some, Heap.get_alloc_same, Heap.alloc_getE, len_S, eq_S, *] | with_reducible refine cndK_d (fun hc => ?_) (fun hc => ?_) | with_reducible refine grdK_d (fun hc => ?_) (fun hc => ?_) | with_reducible refine cndK_i (fun hc => ?_) (fun hc => ?_) | with_reducible refine grdK_i (fun hc => ?_) (fun hc => ?_))
        exact g.h _ rfl rfl rfl
      | some s =>
        obtain ⟨s0, s1⟩ := signs_pos hf
        have hsl : (l.drop i).length = l.length - i := by simp
        have hsg : refSignS (l.drop i) = s := by unfold refSignS; rw [hf]; rfl
        rw [hsg]
        have st3 : wStore 4 h3 [.pointer (some ⟨q, 0, none⟩), Tok.val ⟨4, s, 0, 0⟩] = some (undef, h3.set q (.blk (Tok.cells ⟨4, s, 0, 0⟩) true)) := wStore_all gq3 rfl rfl rfl rfl
        obtain ⟨h4, hh4⟩ : ∃ x, h3.set q (.blk (Tok.cells ⟨4, s, 0, 0⟩) true) = x := ⟨_, rfl⟩
        rw [hh4] at st3
        have gq4 : h4.get q = some (.blk (Tok.cells ⟨4, s, 0, 0⟩) true) := by rw [← hh4]; exact Heap.set_getS _ _ _ (by rw [gq3]; rfl)
        have gq4' : h4.get q = some (.blk [.int .i64 4, str s, .int .i64 0, .int .i64 0] true) := gq4
        have l14 : h.le h4 := by rw [← hh4]; exact l13.set hq0 _
        obtain ⟨h5, a1, a2, v', h6, a3, a4, a5⟩ := tail.h ⟨4, s, 0, 0⟩ s.length h4 q (.int .u8 b.toNat) (.int .i64 ((i + w : Nat) : Int)) s0 (by omega) rfl (by
          have := scanW_sign m hhere.h hr0.h (g := s) (by rw [← hdl.h]; exact hf)
          rw [← hdl.h] at this
          rw [this, List.drop_drop]) l14 hq0 gq4
        have b2 := build2 4 s
        have pt := part_tok 4 0 m s
        have bt := bslice_tok ⟨4, s, 0, m⟩
        have hne : (s == []) = false := by cases s with | nil => simp at s0 | cons => rfl
        have hwk : IntKind.i64.wrap ((i : Int) + (s.length : Int)) = ((i + s.length : Nat) : Int) := by rw [← Int.natCast_add]; exact wrapI (by omega) (by omega)
        replace hh4 := Hid.mk hh4
        replace a5 := Hid.mk a5
        clear hf hsg l13 l14 l3 gq4
        repeat' (first | simp -implicitDefEqProofs only [W_skip, W_reg, W_seq, W_rcond, W_cond, W_block, W_loop, W_exit, W_ret, thenQ_normal, thenQ_exit, thenQ_ret, blockQ_normal, blockQ_ret, blockQ_here, regQ_app, rcQ_app, cndK_t, cndK_f, RegW_nil, RegW_none, RegW_some, contW_app, grdK_tt, grdK_ff, grdK_tf, grdK_ft, grdK_undef, actK_p, actK_r, actK_a, actK_w, actK_call, actK_callV, heapK_app, allocK_app, writeK_app, ret1_ret, ret1_normal, ret0_ret, ret0_normal, ret2_ret2, thenK_app, retcv_ret, retcvK_app, optW_some, evs, Arg.ev, aP, aR, aA, aW, pMov, pBin, pUn, pConv, pPick, pFieldAddr, pNilCheck, pExtract, aBin, aUn, aInt, aNew, partL_f, upd, List.getElem?_cons_zero, List.getElem?_cons_succ, List.getD_cons_zero, List.getD_cons_succ, List.set_cons_zero, List.set_cons_succ, Nat.zero_add, Nat.add_zero, List.getElem?_toArray, List.take_zero, List.drop_zero, List.take_succ_cons, List.drop_succ_cons, if_true, if_false, decide_true, decide_false, Bool.false_eq_true, Bool.true_eq_false, Bool.not_true, Bool.not_false, not_true_eq_false, not_false_eq_true, ge_iff_le, gt_iff_lt, beq_self_eq_true, bne_self_eq_false, and_self, and_true, true_and, Option.isSome_some, Heap.get_alloc_same, Heap.alloc_getE, len_S, eq_S, *] | with_reducible refine cndK_d (fun hc => ?_) (fun hc => ?_) | with_reducible refine grdK_d (fun hc => ?_) (fun hc => ?_) | with_reducible refine cndK_i (fun hc => ?_) (fun hc => ?_) | with_reducible refine grdK_i (fun hc => ?_) (fun hc => ?_))
        exact a5.h
    · have kz : (((i + w : Nat) : Int) == (i : Int)) = false := by simp; omega
      have hrw : runN (b :: l.drop (i + 1)) = w := by rw [← hdl.h, hw.h]
      cases hone : (oneS ((l.drop i).take w)).2 with
      | false =>
        have htz : t = ⟨0, [], 0, 0⟩ := by rw [← ht]; unfold refOneS; rw [hone]; rfl
        subst htz
        have g := bad.h h2 l12 (by rw [hdl.h] at hone ⊢; exact scanW_tokbad m hhere.h (by omega) (by rw [hrw]; exact hone))
        replace g := Hid.mk g
        have e0 : (([] : List UInt8) == []) = true := rfl
        clear ht hone hrw hw0 l1 l2 l12
        repeat' (first | simp -implicitDefEqProofs only [W_skip, W_reg, W_seq, W_rcond, W_cond, W_block, W_loop, W_exit, W_ret, thenQ_normal, thenQ_exit, thenQ_ret, blockQ_normal, blockQ_ret, blockQ_here, regQ_app, rcQ_app, cndK_t, cndK_f, RegW_nil, RegW_none, RegW_some, contW_app, grdK_tt, grdK_ff, grdK_tf, grdK_ft, grdK_undef, actK_p, actK_r, actK_a, actK_w, actK_call, actK_callV, heapK_app, allocK_app, writeK_app, ret1_ret, ret1_normal, ret0_ret, ret0_normal, ret2_ret2, thenK_app, retcv_ret, retcvK_app, optW_some, evs, Arg.ev, aP, aR, aA, aW, pMov, pBin, pUn, pConv, pPick, pFieldAddr, pNilCheck, pExtract, aBin, aUn, aInt, aNew, partL_f, upd, List.getElem?_cons_zero, List.getElem?_cons_succ, List.getD_cons_zero, List.getD_cons_succ, List.set_cons_zero, List.set_cons_succ, Nat.zero_add, Nat.add_zero, List.getElem?_toArray, List.take_zero, List.drop_zero, List.take_succ_cons, List.drop_succ_cons, if_true, if_false, decide_true, decide_false, Bool.false_eq_true, Bool.true_eq_false, Bool.not_true, Bool.not_false, not_true_eq_false, not_false_eq_true, ge_iff_le, gt_iff_lt, beq_self_eq_true, bne_self_eq_false, and_self, and_true, true_and, Option.isSome_some, Heap.get_alloc_same, Heap.alloc_getE, len_S, eq_S, *] | with_reducible refine cndK_d (fun hc => ?_) (fun hc => ?_) | with_reducible refine grdK_d (fun hc => ?_) (fun hc => ?_) | with_reducible refine cndK_i (fun hc => ?_) (fun hc => ?_) | with_reducible refine grdK_i (fun hc => ?_) (fun hc => ?_))
        exact g.h _ rfl rfl rfl
      | true =>
        have hto1 : t = (oneS ((l.drop i).take w)).1 := by rw [← ht]; unfold refOneS; rw [hone]; rfl
        have htl : t.text.length = w := by rw [hto1, oneS_text]; simp; omega
        obtain ⟨h5, a1, a2, v', h6, a3, a4, a5⟩ := tail.h t w h2 q (.int .u8 b.toNat) (.int .i64 ((i + w : Nat) : Int)) (by omega) (by omega) htl (by
          have := scanW_tok (r := l.drop (i + 1)) m hhere.h (by rw [hrw]; omega) (by rw [hrw, ← hdl.h]; exact hone)
          rw [hrw, ← hdl.h] at this
          rw [this, List.drop_drop, hto1]) l12 hq0 gq2
        have pt := part_tok t.kind t.n m t.text
        have bt := bslice_tok ⟨t.kind, t.text, t.n, m⟩
        have hne : (t.text == []) = false := by
          cases htx : t.text with
          | nil => rw [htx] at htl; simp at htl; omega
          | cons => rfl
        have hwk : IntKind.i64.wrap ((i : Int) + (t.text.length : Int)) = ((i + w : Nat) : Int) := by rw [htl, ← Int.natCast_add]; exact wrapI (by omega) (by omega)
        replace a5 := Hid.mk a5
        clear ht hone hrw hw0 l1 l2 l12 hto1 htl
        repeat' (first | simp -implicitDefEqProofs only [W_skip, W_reg, W_seq, W_rcond, W_cond, W_block, W_loop, W_exit, W_ret, thenQ_normal, thenQ_exit, thenQ_ret, blockQ_normal, blockQ_ret, blockQ_here, regQ_app, rcQ_app, cndK_t, cndK_f, RegW_nil, RegW_none, RegW_some, contW_app, grdK_tt, grdK_ff, grdK_tf, grdK_ft, grdK_undef, actK_p, actK_r, actK_a, actK_w, actK_call, actK_callV, heapK_app, allocK_app, writeK_app, ret1_ret, ret1_normal, ret0_ret, ret0_normal, ret2_ret2, thenK_app, retcv_ret, retcvK_app, optW_some, evs, Arg.ev, aP, aR, aA, aW, pMov, pBin, pUn, pConv, pPick, pFieldAddr, pNilCheck, pExtract, aBin, aUn, aInt, aNew, partL_f, upd, List.getElem?_cons_zero, List.getElem?_cons_succ, List.getD_cons_zero, List.getD_cons_succ, List.set_cons_zero, List.set_cons_succ, Nat.zero_add, Nat.add_zero, List.getElem?_toArray, List.take_zero, List.drop_zero, List.take_succ_cons, List.drop_succ_cons, if_true, if_false, decide_true, decide_false, Bool.false_eq_true, Bool.true_eq_false, Bool.not_true, Bool.not_false, not_true_eq_false, not_false_eq_true, ge_iff_le, gt_iff_lt, beq_self_eq_true, bne_self_eq_false, and_self, and_true, true_and, Option.isSome_some, Heap.get_alloc_same, Heap.alloc_getE, len_S, eq_S, *] | with_reducible refine cndK_d (fun hc => ?_) (fun hc => ?_) | with_reducible refine grdK_d (fun hc => ?_) (fun hc => ?_) | with_reducible refine cndK_i (fun hc => ?_) (fun hc => ?_) | with_reducible refine grdK_i (fun hc => ?_) (fun hc => ?_))
        exact a5.h
theorem refScan_c {l : List UInt8} {h0 : Heap} (h : Heap) (hle : h0.le h) (Q : Value → Heap → Prop)
    (hq : ∀ v h', Toks h0 h' v (scanR l).1 → h0.le h' → Q (.tuple #[v, .int .i64 (scanR l).2.1, .int .i64 (scanR l).2.2]) h') : CallW Tryd.prog 19 [str l] h Q := by
  refine call_of3 (k := 1) (j := 2) (i := 3) ok19 rfl rfl rfl fun N => ?_
  rw [show env0 c19 [str l] = [str l, undef, undef, undef, undef, undef, undef, undef, undef, undef] from rfl]
  delta c19 c19_r0 c19_r1 c19_r2 c19_r3 c19_r4 c19_r5 c19_r30
  replace hq := Hid.mk hq
  by_cases hbig : 20000 < l.length
  · have hbig' : (20000 : Int) < (l.length : Int) := by omega
    have g := hq.h (.slice none 0 0) h (by unfold scanR; rw [if_pos hbig]; exact .nil _ _ _) hle
    have hr : scanR l = ([], 2, 0) := by unfold scanR; rw [if_pos hbig]
    rw [hr] at g
    replace g := Hid.mk g
    clear hbig
    repeat' (first | simp -implicitDefEqProofs only [W_skip, W_reg, W_seq, W_rcond, W_cond, W_block, W_loop, W_exit, W_ret, thenQ_normal, thenQ_exit, thenQ_ret, blockQ_normal, blockQ_ret, blockQ_here, regQ_app, rcQ_app, cndK_t, cndK_f, RegW_nil, RegW_none, RegW_some, contW_app, grdK_tt, grdK_ff, grdK_tf, grdK_ft, grdK_undef, actK_p, actK_r, actK_a, actK_w, actK_call, actK_callV, heapK_app, allocK_app, writeK_app, ret1_ret, ret1_normal, ret0_ret, ret0_normal, ret2_ret2, thenK_app, retcv_ret, retcvK_app, optW_some, evs, Arg.ev, aP, aR, aA, aW, pMov, pBin, pUn, pConv, pPick, pFieldAddr, pNilCheck, pExtract, aBin, aUn, aInt, aNew, partL_f, upd, List.getElem?_cons_zero, List.getElem?_cons_succ, List.getD_cons_zero, List.getD_cons_succ, List.set_cons_zero, List.set_cons_succ, Nat.zero_add, Nat.add_zero, List.getElem?_toArray, List.take_zero, List.drop_zero, List.take_succ_cons, List.drop_succ_cons, if_true, if_false, decide_true, decide_false, Bool.false_eq_true, Bool.true_eq_false, Bool.not_true, Bool.not_false, not_true_eq_false, not_false_eq_true, ge_iff_le, gt_iff_lt, beq_self_eq_true, bne_self_eq_false, and_self, and_true, true_and, Option.isSome_some, Heap.get_alloc_same, Heap.alloc_getE, len_S, ret3_ret, then3a_app, *] | with_reducible refine cndK_d (fun hc => ?_) (fun hc => ?_) | with_reducible refine grdK_d (fun hc => ?_) (fun hc => ?_) | with_reducible refine cndK_i (fun hc => ?_) (fun hc => ?_) | with_reducible refine grdK_i (fun hc => ?_) (fun hc => ?_))
    exact g.h
  · have hbig' : ¬ (20000 : Int) < (l.length : Int) := by omega
    have hr : scanR l = if (scanW l 1).2.2 then ((scanW l 1).1 ++ [endT (scanW l 1).2.1], 0, 0) else ([], 50, (scanW l 1).2.1) := by unfold scanR; rw [if_neg hbig]; rfl
    replace hr := Hid.mk hr
    have le0 := Hid.mk hle
    repeat' (first | simp -implicitDefEqProofs only [W_skip, W_reg, W_seq, W_rcond, W_cond, W_block, W_loop, W_exit, W_ret, thenQ_normal, thenQ_exit, thenQ_ret, blockQ_normal, blockQ_ret, blockQ_here, regQ_app, rcQ_app, cndK_t, cndK_f, RegW_nil, RegW_none, RegW_some, contW_app, grdK_tt, grdK_ff, grdK_tf, grdK_ft, grdK_undef, actK_p, actK_r, actK_a, actK_w, actK_call, actK_callV, heapK_app, allocK_app, writeK_app, ret1_ret, ret1_normal, ret0_ret, ret0_normal, ret2_ret2, thenK_app, retcv_ret, retcvK_app, optW_some, evs, Arg.ev, aP, aR, aA, aW, pMov, pBin, pUn, pConv, pPick, pFieldAddr, pNilCheck, pExtract, aBin, aUn, aInt, aNew, partL_f, upd, List.getElem?_cons_zero, List.getElem?_cons_succ, List.getD_cons_zero, List.getD_cons_succ, List.set_cons_zero, List.set_cons_succ, Nat.zero_add, Nat.add_zero, List.getElem?_toArray, List.take_zero, List.drop_zero, List.take_succ_cons, List.drop_succ_cons, if_true, if_false, decide_true, decide_false, Bool.false_eq_true, Bool.true_eq_false, Bool.not_true, Bool.not_false, not_true_eq_false, not_false_eq_true, ge_iff_le, gt_iff_lt, beq_self_eq_true, bne_self_eq_false, and_self, and_true, true_and, Option.isSome_some, Heap.get_alloc_same, Heap.alloc_getE, len_S, *] | with_reducible refine cndK_d (fun hc => ?_) (fun hc => ?_) | with_reducible refine grdK_d (fun hc => ?_) (fun hc => ?_) | with_reducible refine cndK_i (fun hc => ?_) (fun hc => ?_) | with_reducible refine grdK_i (fun hc => ?_) (fun hc => ?_))
    refine refScan_loop (l := l) (by omega) ?_ ?_ l.length (i := 0) (m := 1) (ts := []) (by omega) (by omega) le0.h (.nil _ _ _) (by omega) (by omega) (by simp) (by simp)
    · intro h' out e7 e8 e9 c1 c2 c3
      have hlen := scanP_len (l.length + 1) (skip false l 1).1 (skip false l 1).2
      have hsk := skip_len false l 1
      have hts : (scanW l 1).1.length ≤ 20000 := by unfold scanW; omega
      obtain ⟨v', h5, a1, a2, a3, a4, a5, a6⟩ := toks_append c3 c2 (by omega) (endT (scanW l 1).2.1)
      have hr2 := hr.h
      rw [c1, if_pos rfl] at hr2
      have g := hq.h v' h5 (by rw [hr2]; exact a2) a3
      rw [hr2] at g
      replace g := Hid.mk g
      have bt := bslice_tok (endT (scanW l 1).2.1)
      obtain ⟨m3, hm3⟩ : ∃ x, (scanW l 1).2.1 = x := ⟨_, rfl⟩
      rw [hm3] at a1 bt ⊢
      have b5 := build5 0 m3
      have hen : endT m3 = ⟨5, [], 0, m3⟩ := rfl
      rw [hen] at a1 bt
      clear a2 a3 a4 a5 a6 c1 c2 c3 hr2 hen hm3 hlen hsk hts
      repeat' (first | simp -implicitDefEqProofs only [W_skip, W_reg, W_seq, W_rcond, W_cond, W_block, W_loop, W_exit, W_ret, thenQ_normal, thenQ_exit, thenQ_ret, blockQ_normal, blockQ_ret, blockQ_here, regQ_app, rcQ_app, cndK_t, cndK_f, RegW_nil, RegW_none, RegW_some, contW_app, grdK_tt, grdK_ff, grdK_tf, grdK_ft, grdK_undef, actK_p, actK_r, actK_a, actK_w, actK_call, actK_callV, heapK_app, allocK_app, writeK_app, ret1_ret, ret1_normal, ret0_ret, ret0_normal, ret2_ret2, thenK_app, retcv_ret, retcvK_app, optW_some, evs, Arg.ev, aP, aR, aA, aW, pMov, pBin, pUn, pConv, pPick, pFieldAddr, pNilCheck, pExtract, aBin, aUn, aInt, aNew, partL_f, upd, List.getElem?_cons_zero, List.getElem?_cons_succ, List.getD_cons_zero, List.getD_cons_succ, List.set_cons_zero, List.set_cons_succ, Nat.zero_add, Nat.add_zero, List.getElem?_toArray, List.take_zero, List.drop_zero, List.take_succ_cons, List.drop_succ_cons, if_true, if_false, decide_true, decide_false, Bool.false_eq_true, Bool.true_eq_false, Bool.not_true, Bool.not_false, not_true_eq_false, not_false_eq_true, ge_iff_le, gt_iff_lt, beq_self_eq_true, bne_self_eq_false, and_self, and_true, true_and, Option.isSome_some, Heap.get_alloc_same, Heap.alloc_getE, ret3_ret, then3a_app, *] | with_reducible refine cndK_d (fun hc => ?_) (fun hc => ?_) | with_reducible refine grdK_d (fun hc => ?_) (fun hc => ?_) | with_reducible refine cndK_i (fun hc => ?_) (fun hc => ?_) | with_reducible refine grdK_i (fun hc => ?_) (fun hc => ?_))
      exact g.h
    · intro e' h' c1 c2 c3 c4 c5
      have hr2 := hr.h
      rw [c1, if_neg (by simp)] at hr2
      have g := hq.h (.slice none 0 0) h' (by rw [hr2]; exact .nil _ _ _) c2
      rw [hr2] at g
      replace g := Hid.mk g
      clear c1 hr2 c2
      repeat' (first | simp -implicitDefEqProofs only [W_skip, W_reg, W_seq, W_rcond, W_cond, W_block, W_loop, W_exit, W_ret, thenQ_normal, thenQ_exit, thenQ_ret, blockQ_normal, blockQ_ret, blockQ_here, regQ_app, rcQ_app, cndK_t, cndK_f, RegW_nil, RegW_none, RegW_some, contW_app, grdK_tt, grdK_ff, grdK_tf, grdK_ft, grdK_undef, actK_p, actK_r, actK_a, actK_w, actK_call, actK_callV, heapK_app, allocK_app, writeK_app, ret1_ret, ret1_normal, ret0_ret, ret0_normal, ret2_ret2, thenK_app, retcv_ret, retcvK_app, optW_some, evs, Arg.ev, aP, aR, aA, aW, pMov, pBin, pUn, pConv, pPick, pFieldAddr, pNilCheck, pExtract, aBin, aUn, aInt, aNew, partL_f, upd, List.getElem?_cons_zero, List.getElem?_cons_succ, List.getD_cons_zero, List.getD_cons_succ, List.set_cons_zero, List.set_cons_succ, Nat.zero_add, Nat.add_zero, List.getElem?_toArray, List.take_zero, List.drop_zero, List.take_succ_cons, List.drop_succ_cons, if_true, if_false, decide_true, decide_false, Bool.false_eq_true, Bool.true_eq_false, Bool.not_true, Bool.not_false, not_true_eq_false, not_false_eq_true, ge_iff_le, gt_iff_lt, beq_self_eq_true, bne_self_eq_false, and_self, and_true, true_and, Option.isSome_some, Heap.get_alloc_same, Heap.alloc_getE, ret3_ret, then3a_app, *] | with_reducible refine cndK_d (fun hc => ?_) (fun hc => ?_) | with_reducible refine grdK_d (fun hc => ?_) (fun hc => ?_) | with_reducible refine cndK_i (fun hc => ?_) (fun hc => ?_) | with_reducible refine grdK_i (fun hc => ?_) (fun hc => ?_))
      exact g.h
end Go.Eng.Tk

set_option linter.unusedSimpArgs false
set_option linter.unusedVariables false
namespace Go.Eng.Tk
open Go Go.Eng Go.Proofs

theorem bslice_five (a b c d e : List UInt8) : aBslice [.string ⟨#[]⟩, .string ⟨#[]⟩, .string ⟨#[]⟩, .string ⟨#[]⟩, .string ⟨#[]⟩] [(0, 1), (1, 1), (2, 1), (3, 1), (4, 1)] 5 1 [str a, str b, str c, str d, str e] = some ([str a, str b, str c, str d, str e], fun id => .slice (some ⟨id, 0, none⟩) 5 1) := bslice_ones rfl rfl rfl (by simp [Value.cells, Value.oneCell'])
/-- texts scanned both ways -/
theorem scans_loop {xs : List (List UInt8)} (hxs : xs.length = 5) {N : Nat} {vs : Value} {h : Heap} (hs : Strs h vs xs)
    {e0 e1 e2 e3 e4 e5 e6 e7 e8 e9 e10 e11 e12 e13 e14 e15 e16 e17 e18 e19 e20 e21 e22 e26 e27 e28 e29 e30 : Value} {Q' : AExit → List Value → Heap → Prop}
    (hQ : ∀ h' e11 e12 e13 e14 e15 e16 e17 i e26, Q' (.exit 2) [e0, e1, e2, e3, e4, e5, e6, e7, e8, e9, e10, e11, e12, e13, e14, e15, e16, e17, e18, e19, e20, e21, e22, vs, .int .i64 5, i, e26, e27, e28, e29, e30] h') :
    LoopW Tryd.prog N c3.vars c3_l20 [e0, e1, e2, e3, e4, e5, e6, e7, e8, e9, e10, e11, e12, e13, e14, e15, e16, e17, e18, e19, e20, e21, e22, vs, .int .i64 5, .int .i64 0, e26, e27, e28, e29, e30] h Q' := by
  replace hQ := Hid.mk hQ
  replace hs := Hid.mk hs
  refine LoopW.upto 5 (fun i e h' => h.le h' ∧ ∃ e11 e12 e13 e14 e15 e16 e17 e26, e = [e0, e1, e2, e3, e4, e5, e6, e7, e8, e9, e10, e11, e12, e13, e14, e15, e16, e17, e18, e19, e20, e21, e22, vs, .int .i64 5, .int .i64 i, e26, e27, e28, e29, e30]) ?_ (Nat.zero_le _) ⟨Heap.le.refl _, _, _, _, _, _, _, _, _, rfl⟩
  rintro i _ h1 R hi ⟨lh, e11, e12, e13, e14, e15, e16, e17, e26, rfl⟩ hR
  delta c3_l20 c3_r13 c3_r14 c3_r15 c3_r16 c3_r17 c3_r18 c3_r19
  by_cases hlt : i < 5
  case neg =>
    have hlt' : ¬ (i : Int) < 5 := by omega
    repeat' (first | simp -implicitDefEqProofs only [W_skip, W_reg, W_seq, W_rcond, W_cond, W_block, W_loop, W_exit, W_ret, thenQ_normal, thenQ_exit, thenQ_ret, blockQ_normal, blockQ_ret, blockQ_here, regQ_app, rcQ_app, cndK_t, cndK_f, RegW_nil, RegW_none, RegW_some, contW_app, grdK_tt, grdK_ff, grdK_tf, grdK_ft, grdK_undef, actK_p, actK_r, actK_a, actK_w, actK_call, actK_callV, heapK_app, allocK_app, writeK_app, ret1_ret, ret1_normal, ret0_ret, ret0_normal, ret2_ret2, thenK_app, retcv_ret, retcvK_app, optW_some, evs, Arg.ev, aP, aR, aA, aW, pMov, pBin, pUn, pConv, pPick, pFieldAddr, pNilCheck, pExtract, aBin, aUn, aInt, aNew, partL_f, upd, List.getElem?_cons_zero, List.getElem?_cons_succ, List.getD_cons_zero, List.getD_cons_succ, List.set_cons_zero, List.set_cons_succ, Nat.zero_add, Nat.add_zero, List.getElem?_toArray, List.take_zero, List.drop_zero, List.take_succ_cons, List.drop_succ_cons, if_true, if_false, decide_true, decide_false, Bool.false_eq_true, Bool.true_eq_false, Bool.not_true, Bool.not_false, not_true_eq_false, not_false_eq_true, ge_iff_le, gt_iff_lt, beq_self_eq_true, bne_self_eq_false, and_self, and_true, true_and, Option.isSome_some, Heap.get_alloc_same, Heap.alloc_getE, *] | with_reducible refine cndK_d (fun hc => ?_) (fun hc => ?_) | with_reducible refine grdK_d (fun hc => ?_) (fun hc => ?_) | with_reducible refine cndK_i (fun hc => ?_) (fun hc => ?_) | with_reducible refine grdK_i (fun hc => ?_) (fun hc => ?_))
    exact hQ.h _ _ _ _ _ _ _ _ _ _
  case pos =>
    have hlt' : (i : Int) < 5 := by omega
    have hwj : IntKind.i64.wrap ((i : Int) + 1) = ((i + 1 : Nat) : Int) := by rw [wrapI (by omega) (by omega)]; rfl
    obtain ⟨x, hx⟩ : ∃ x, xs[i]? = some x := ⟨_, List.getElem?_eq_getElem (by omega)⟩
    obtain ⟨id, off, cells, own, a1, a2, a3, _⟩ := (hs.h.mono lh).elem hx
    have nx := fun h2 (l2 : h.le h2) e11 e12 e13 e14 e15 e16 e17 e26 => hR.h [e0, e1, e2, e3, e4, e5, e6, e7, e8, e9, e10, e11, e12, e13, e14, e15, e16, e17, e18, e19, e20, e21, e22, vs, .int .i64 5, .int .i64 ((i + 1 : Nat) : Int), e26, e27, e28, e29, e30] h2 hlt ⟨l2, _, _, _, _, _, _, _, _, rfl⟩
    replace nx := Hid.mk nx
    replace lh := Hid.mk lh
    have ok := scanR_ok x
    obtain ⟨r, hr⟩ : ∃ r, scanR x = r := ⟨_, rfl⟩
    rw [hr] at ok
    obtain ⟨ts, er, ln⟩ := r
    simp only at ok
    replace ok := Hid.mk ok
    have k1 : (er != er) = false := by simp
    have k2 : (ln != ln) = false := by simp
    clear hx hlt hi hR
    repeat' (first | simp -implicitDefEqProofs only [W_skip, W_reg, W_seq, W_rcond, W_cond, W_block, W_loop, W_exit, W_ret, thenQ_normal, thenQ_exit, thenQ_ret, blockQ_normal, blockQ_ret, blockQ_here, regQ_app, rcQ_app, cndK_t, cndK_f, RegW_nil, RegW_none, RegW_some, contW_app, grdK_tt, grdK_ff, grdK_tf, grdK_ft, grdK_undef, actK_p, actK_r, actK_a, actK_w, actK_call, actK_callV, heapK_app, allocK_app, writeK_app, ret1_ret, ret1_normal, ret0_ret, ret0_normal, ret2_ret2, thenK_app, retcv_ret, retcvK_app, optW_some, evs, Arg.ev, aP, aR, aA, aW, pMov, pBin, pUn, pConv, pPick, pFieldAddr, pNilCheck, pExtract, aBin, aUn, aInt, aNew, partL_f, upd, List.getElem?_cons_zero, List.getElem?_cons_succ, List.getD_cons_zero, List.getD_cons_succ, List.set_cons_zero, List.set_cons_succ, Nat.zero_add, Nat.add_zero, List.getElem?_toArray, List.take_zero, List.drop_zero, List.take_succ_cons, List.drop_succ_cons, if_true, if_false, decide_true, decide_false, Bool.false_eq_true, Bool.true_eq_false, Bool.not_true, Bool.not_false, not_true_eq_false, not_false_eq_true, ge_iff_le, gt_iff_lt, beq_self_eq_true, bne_self_eq_false, and_self, and_true, true_and, Option.isSome_some, Heap.get_alloc_same, Heap.alloc_getE, *] | with_reducible refine cndK_d (fun hc => ?_) (fun hc => ?_) | with_reducible refine grdK_d (fun hc => ?_) (fun hc => ?_) | with_reducible refine cndK_i (fun hc => ?_) (fun hc => ?_) | with_reducible refine grdK_i (fun hc => ?_) (fun hc => ?_))
    refine Scan_c (l := x) h1 (Heap.le.refl h1) _ fun v1 h2 t1 l1 => ?_
    rw [hr] at t1 ⊢
    simp only at t1 ⊢
    replace t1 := Hid.mk t1
    repeat' (first | simp -implicitDefEqProofs only [W_skip, W_reg, W_seq, W_rcond, W_cond, W_block, W_loop, W_exit, W_ret, thenQ_normal, thenQ_exit, thenQ_ret, blockQ_normal, blockQ_ret, blockQ_here, regQ_app, rcQ_app, cndK_t, cndK_f, RegW_nil, RegW_none, RegW_some, contW_app, grdK_tt, grdK_ff, grdK_tf, grdK_ft, grdK_undef, actK_p, actK_r, actK_a, actK_w, actK_call, actK_callV, heapK_app, allocK_app, writeK_app, ret1_ret, ret1_normal, ret0_ret, ret0_normal, ret2_ret2, thenK_app, retcv_ret, retcvK_app, optW_some, evs, Arg.ev, aP, aR, aA, aW, pMov, pBin, pUn, pConv, pPick, pFieldAddr, pNilCheck, pExtract, aBin, aUn, aInt, aNew, partL_f, upd, List.getElem?_cons_zero, List.getElem?_cons_succ, List.getD_cons_zero, List.getD_cons_succ, List.set_cons_zero, List.set_cons_succ, Nat.zero_add, Nat.add_zero, List.getElem?_toArray, List.take_zero, List.drop_zero, List.take_succ_cons, List.drop_succ_cons, if_true, if_false, decide_true, decide_false, Bool.false_eq_true, Bool.true_eq_false, Bool.not_true, Bool.not_false, not_true_eq_false, not_false_eq_true, ge_iff_le, gt_iff_lt, beq_self_eq_true, bne_self_eq_false, and_self, and_true, true_and, Option.isSome_some, Heap.get_alloc_same, Heap.alloc_getE, extract3_0, extract3_1, extract3_2, *] | with_reducible refine cndK_d (fun hc => ?_) (fun hc => ?_) | with_reducible refine grdK_d (fun hc => ?_) (fun hc => ?_) | with_reducible refine cndK_i (fun hc => ?_) (fun hc => ?_) | with_reducible refine grdK_i (fun hc => ?_) (fun hc => ?_))
    refine refScan_c (l := x) h2 (Heap.le.refl h2) _ fun v2 h3 t2 l2 => ?_
    rw [hr] at t2 ⊢
    simp only at t2 ⊢
    have cs : CallW Tryd.prog 20 [v1, v2] h3 fun b h4 => b = .bool true ∧ h4 = h3 := by
      refine same_c (t1.h.mono l2).sl t2.sl ok.h.1 ok.h.1 (by have := ok.h.2.1; omega) (by have := ok.h.2.1; omega) _ fun b hb => ?_
      exact ⟨by rw [hb.2 rfl], rfl⟩
    have l3 := Hid.mk ((lh.h.trans l1).trans l2)
    replace cs := Hid.mk cs
    clear t2 l2 l1
    repeat' (first | simp -implicitDefEqProofs only [W_skip, W_reg, W_seq, W_rcond, W_cond, W_block, W_loop, W_exit, W_ret, thenQ_normal, thenQ_exit, thenQ_ret, blockQ_normal, blockQ_ret, blockQ_here, regQ_app, rcQ_app, cndK_t, cndK_f, RegW_nil, RegW_none, RegW_some, contW_app, grdK_tt, grdK_ff, grdK_tf, grdK_ft, grdK_undef, actK_p, actK_r, actK_a, actK_w, actK_call, actK_callV, heapK_app, allocK_app, writeK_app, ret1_ret, ret1_normal, ret0_ret, ret0_normal, ret2_ret2, thenK_app, retcv_ret, retcvK_app, optW_some, evs, Arg.ev, aP, aR, aA, aW, pMov, pBin, pUn, pConv, pPick, pFieldAddr, pNilCheck, pExtract, aBin, aUn, aInt, aNew, partL_f, upd, List.getElem?_cons_zero, List.getElem?_cons_succ, List.getD_cons_zero, List.getD_cons_succ, List.set_cons_zero, List.set_cons_succ, Nat.zero_add, Nat.add_zero, List.getElem?_toArray, List.take_zero, List.drop_zero, List.take_succ_cons, List.drop_succ_cons, if_true, if_false, decide_true, decide_false, Bool.false_eq_true, Bool.true_eq_false, Bool.not_true, Bool.not_false, not_true_eq_false, not_false_eq_true, ge_iff_le, gt_iff_lt, beq_self_eq_true, bne_self_eq_false, and_self, and_true, true_and, Option.isSome_some, Heap.get_alloc_same, Heap.alloc_getE, extract3_0, extract3_1, extract3_2, *] | with_reducible refine cndK_d (fun hc => ?_) (fun hc => ?_) | with_reducible refine grdK_d (fun hc => ?_) (fun hc => ?_) | with_reducible refine cndK_i (fun hc => ?_) (fun hc => ?_) | with_reducible refine grdK_i (fun hc => ?_) (fun hc => ?_))
    refine cs.h.mono fun b h4 _ hb => ?_
    obtain ⟨rfl, rfl⟩ := hb
    repeat' (first | simp -implicitDefEqProofs only [W_skip, W_reg, W_seq, W_rcond, W_cond, W_block, W_loop, W_exit, W_ret, thenQ_normal, thenQ_exit, thenQ_ret, blockQ_normal, blockQ_ret, blockQ_here, regQ_app, rcQ_app, cndK_t, cndK_f, RegW_nil, RegW_none, RegW_some, contW_app, grdK_tt, grdK_ff, grdK_tf, grdK_ft, grdK_undef, actK_p, actK_r, actK_a, actK_w, actK_call, actK_callV, heapK_app, allocK_app, writeK_app, ret1_ret, ret1_normal, ret0_ret, ret0_normal, ret2_ret2, thenK_app, retcv_ret, retcvK_app, optW_some, evs, Arg.ev, aP, aR, aA, aW, pMov, pBin, pUn, pConv, pPick, pFieldAddr, pNilCheck, pExtract, aBin, aUn, aInt, aNew, partL_f, upd, List.getElem?_cons_zero, List.getElem?_cons_succ, List.getD_cons_zero, List.getD_cons_succ, List.set_cons_zero, List.set_cons_succ, Nat.zero_add, Nat.add_zero, List.getElem?_toArray, List.take_zero, List.drop_zero, List.take_succ_cons, List.drop_succ_cons, if_true, if_false, decide_true, decide_false, Bool.false_eq_true, Bool.true_eq_false, Bool.not_true, Bool.not_false, not_true_eq_false, not_false_eq_true, ge_iff_le, gt_iff_lt, beq_self_eq_true, bne_self_eq_false, and_self, and_true, true_and, Option.isSome_some, Heap.get_alloc_same, Heap.alloc_getE, *] | with_reducible refine cndK_d (fun hc => ?_) (fun hc => ?_) | with_reducible refine grdK_d (fun hc => ?_) (fun hc => ?_) | with_reducible refine cndK_i (fun hc => ?_) (fun hc => ?_) | with_reducible refine grdK_i (fun hc => ?_) (fun hc => ?_))
    exact nx.h _ l3.h _ _ _ _ _ _ _ _
/-- texts told both ways -/
theorem tells_loop {xs : List (List UInt8)} (hxs : xs.length = 5) (hlen : ∀ x ∈ xs, x.length ≤ 140737488355328) {N : Nat} {vs : Value} {h : Heap} (hs : Strs h vs xs)
    {e0 e1 e2 e3 e4 e5 e6 e7 e8 e9 e10 e11 e12 e13 e14 e15 e16 e17 e18 e19 e20 e21 e22 e23 e24 e25 e26 e30 : Value} {Q' : AExit → List Value → Heap → Prop}
    (hQ : ∀ h' e18 e19 e20 e21 e22 i e30, Q' (.exit 4) [e0, e1, e2, e3, e4, e5, e6, e7, e8, e9, e10, e11, e12, e13, e14, e15, e16, e17, e18, e19, e20, e21, e22, e23, e24, e25, e26, vs, .int .i64 5, i, e30] h') :
    LoopW Tryd.prog N c3.vars c3_l29 [e0, e1, e2, e3, e4, e5, e6, e7, e8, e9, e10, e11, e12, e13, e14, e15, e16, e17, e18, e19, e20, e21, e22, e23, e24, e25, e26, vs, .int .i64 5, .int .i64 0, e30] h Q' := by
  replace hQ := Hid.mk hQ
  replace hs := Hid.mk hs
  replace hlen := Hid.mk hlen
  refine LoopW.upto 5 (fun i e h' => h.le h' ∧ ∃ e18 e19 e20 e21 e22 e30, e = [e0, e1, e2, e3, e4, e5, e6, e7, e8, e9, e10, e11, e12, e13, e14, e15, e16, e17, e18, e19, e20, e21, e22, e23, e24, e25, e26, vs, .int .i64 5, .int .i64 i, e30]) ?_ (Nat.zero_le _) ⟨Heap.le.refl _, _, _, _, _, _, _, rfl⟩
  rintro i _ h1 R hi ⟨lh, e18, e19, e20, e21, e22, e30, rfl⟩ hR
  delta c3_l29 c3_r22 c3_r23 c3_r24 c3_r25 c3_r26 c3_r27 c3_r28
  by_cases hlt : i < 5
  case neg =>
    have hlt' : ¬ (i : Int) < 5 := by omega
    repeat' (first | simp -implicitDefEqProofs only [W_skip, W_reg, W_seq, W_rcond, W_cond, W_block, W_loop, W_exit, W_ret, thenQ_normal, thenQ_exit, thenQ_ret, blockQ_normal, blockQ_ret, blockQ_here, regQ_app, rcQ_app, cndK_t, cndK_f, RegW_nil, RegW_none, RegW_some, contW_app, grdK_tt, grdK_ff, grdK_tf, grdK_ft, grdK_undef, actK_p, actK_r, actK_a, actK_w, actK_call, actK_callV, heapK_app, allocK_app, writeK_app, ret1_ret, ret1_normal, ret0_ret, ret0_normal, ret2_ret2, thenK_app, retcv_ret, retcvK_app, optW_some, evs, Arg.ev, aP, aR, aA, aW, pMov, pBin, pUn, pConv, pPick, pFieldAddr, pNilCheck, pExtract, aBin, aUn, aInt, aNew, partL_f, upd, List.getElem?_cons_zero, List.getElem?_cons_succ, List.getD_cons_zero, List.getD_cons_succ, List.set_cons_zero, List.set_cons_succ, Nat.zero_add, Nat.add_zero, List.getElem?_toArray, List.take_zero, List.drop_zero, List.take_succ_cons, List.drop_succ_cons, if_true, if_false, decide_true, decide_false, Bool.false_eq_true, Bool.true_eq_false, Bool.not_true, Bool.not_false, not_true_eq_false, not_false_eq_true, ge_iff_le, gt_iff_lt, beq_self_eq_true, bne_self_eq_false, and_self, and_true, true_and, Option.isSome_some, Heap.get_alloc_same, Heap.alloc_getE, *] | with_reducible refine cndK_d (fun hc => ?_) (fun hc => ?_) | with_reducible refine grdK_d (fun hc => ?_) (fun hc => ?_) | with_reducible refine cndK_i (fun hc => ?_) (fun hc => ?_) | with_reducible refine grdK_i (fun hc => ?_) (fun hc => ?_))
    exact hQ.h _ _ _ _ _ _ _ _
  case pos =>
    have hlt' : (i : Int) < 5 := by omega
    have hwj : IntKind.i64.wrap ((i : Int) + 1) = ((i + 1 : Nat) : Int) := by rw [wrapI (by omega) (by omega)]; rfl
    obtain ⟨x, hx⟩ : ∃ x, xs[i]? = some x := ⟨_, List.getElem?_eq_getElem (by omega)⟩
    obtain ⟨id, off, cells, own, a1, a2, a3, _⟩ := (hs.h.mono lh).elem hx
    have nx := fun h2 (l2 : h1.le h2) e18 e19 e20 e21 e22 e30 => hR.h [e0, e1, e2, e3, e4, e5, e6, e7, e8, e9, e10, e11, e12, e13, e14, e15, e16, e17, e18, e19, e20, e21, e22, e23, e24, e25, e26, vs, .int .i64 5, .int .i64 ((i + 1 : Nat) : Int), e30] h2 hlt ⟨lh.trans l2, _, _, _, _, _, _, rfl⟩
    replace nx := Hid.mk nx
    have hxl := hlen.h x (List.mem_of_getElem? hx)
    obtain ⟨z, hz⟩ : ∃ z : Int, (((number x).getD 0 : Nat) : Int) = z := ⟨_, rfl⟩
    obtain ⟨bb, hbb⟩ : ∃ b, (number x).isSome = b := ⟨_, rfl⟩
    obtain ⟨nb, hnb⟩ : ∃ b, isName x = b := ⟨_, rfl⟩
    obtain ⟨wb, hwb⟩ : ∃ b, isWord x = b := ⟨_, rfl⟩
    have k1 : (z != z) = false := by simp
    have k2 : (bb == bb) = true := by simp
    have k3 : (nb == nb) = true := by simp
    have k4 : (wb == wb) = true := by simp
    have m1 : pEqB true [.bool bb, .bool bb] = some (.bool false) := by simp [pEqB]
    have m2 : pEqB true [.bool nb, .bool nb] = some (.bool false) := by simp [pEqB]
    have m3 : pEqB true [.bool wb, .bool wb] = some (.bool false) := by simp [pEqB]
    replace hz := Hid.mk hz
    replace hbb := Hid.mk hbb
    replace hnb := Hid.mk hnb
    replace hwb := Hid.mk hwb
    clear hx hlt hi hR lh
    repeat' (first | simp -implicitDefEqProofs only [W_skip, W_reg, W_seq, W_rcond, W_cond, W_block, W_loop, W_exit, W_ret, thenQ_normal, thenQ_exit, thenQ_ret, blockQ_normal, blockQ_ret, blockQ_here, regQ_app, rcQ_app, cndK_t, cndK_f, RegW_nil, RegW_none, RegW_some, contW_app, grdK_tt, grdK_ff, grdK_tf, grdK_ft, grdK_undef, actK_p, actK_r, actK_a, actK_w, actK_call, actK_callV, heapK_app, allocK_app, writeK_app, ret1_ret, ret1_normal, ret0_ret, ret0_normal, ret2_ret2, thenK_app, retcv_ret, retcvK_app, optW_some, evs, Arg.ev, aP, aR, aA, aW, pMov, pBin, pUn, pConv, pPick, pFieldAddr, pNilCheck, pExtract, aBin, aUn, aInt, aNew, partL_f, upd, List.getElem?_cons_zero, List.getElem?_cons_succ, List.getD_cons_zero, List.getD_cons_succ, List.set_cons_zero, List.set_cons_succ, Nat.zero_add, Nat.add_zero, List.getElem?_toArray, List.take_zero, List.drop_zero, List.take_succ_cons, List.drop_succ_cons, if_true, if_false, decide_true, decide_false, Bool.false_eq_true, Bool.true_eq_false, Bool.not_true, Bool.not_false, not_true_eq_false, not_false_eq_true, ge_iff_le, gt_iff_lt, beq_self_eq_true, bne_self_eq_false, and_self, and_true, true_and, Option.isSome_some, Heap.get_alloc_same, Heap.alloc_getE, *] | with_reducible refine cndK_d (fun hc => ?_) (fun hc => ?_) | with_reducible refine grdK_d (fun hc => ?_) (fun hc => ?_) | with_reducible refine cndK_i (fun hc => ?_) (fun hc => ?_) | with_reducible refine grdK_i (fun hc => ?_) (fun hc => ?_))
    refine number_c hxl h1 _ fun h2 l2 => ?_
    rw [hz.h, hbb.h]
    replace l2 := Hid.mk l2
    repeat' (first | simp -implicitDefEqProofs only [W_skip, W_reg, W_seq, W_rcond, W_cond, W_block, W_loop, W_exit, W_ret, thenQ_normal, thenQ_exit, thenQ_ret, blockQ_normal, blockQ_ret, blockQ_here, regQ_app, rcQ_app, cndK_t, cndK_f, RegW_nil, RegW_none, RegW_some, contW_app, grdK_tt, grdK_ff, grdK_tf, grdK_ft, grdK_undef, actK_p, actK_r, actK_a, actK_w, actK_call, actK_callV, heapK_app, allocK_app, writeK_app, ret1_ret, ret1_normal, ret0_ret, ret0_normal, ret2_ret2, thenK_app, retcv_ret, retcvK_app, optW_some, evs, Arg.ev, aP, aR, aA, aW, pMov, pBin, pUn, pConv, pPick, pFieldAddr, pNilCheck, pExtract, aBin, aUn, aInt, aNew, partL_f, upd, List.getElem?_cons_zero, List.getElem?_cons_succ, List.getD_cons_zero, List.getD_cons_succ, List.set_cons_zero, List.set_cons_succ, Nat.zero_add, Nat.add_zero, List.getElem?_toArray, List.take_zero, List.drop_zero, List.take_succ_cons, List.drop_succ_cons, if_true, if_false, decide_true, decide_false, Bool.false_eq_true, Bool.true_eq_false, Bool.not_true, Bool.not_false, not_true_eq_false, not_false_eq_true, ge_iff_le, gt_iff_lt, beq_self_eq_true, bne_self_eq_false, and_self, and_true, true_and, Option.isSome_some, Heap.get_alloc_same, Heap.alloc_getE, extract0, extract1, *] | with_reducible refine cndK_d (fun hc => ?_) (fun hc => ?_) | with_reducible refine grdK_d (fun hc => ?_) (fun hc => ?_) | with_reducible refine cndK_i (fun hc => ?_) (fun hc => ?_) | with_reducible refine grdK_i (fun hc => ?_) (fun hc => ?_))
    refine refNumber_c h2 _ ?_
    rw [hz.h, hbb.h]
    repeat' (first | simp -implicitDefEqProofs only [W_skip, W_reg, W_seq, W_rcond, W_cond, W_block, W_loop, W_exit, W_ret, thenQ_normal, thenQ_exit, thenQ_ret, blockQ_normal, blockQ_ret, blockQ_here, regQ_app, rcQ_app, cndK_t, cndK_f, RegW_nil, RegW_none, RegW_some, contW_app, grdK_tt, grdK_ff, grdK_tf, grdK_ft, grdK_undef, actK_p, actK_r, actK_a, actK_w, actK_call, actK_callV, heapK_app, allocK_app, writeK_app, ret1_ret, ret1_normal, ret0_ret, ret0_normal, ret2_ret2, thenK_app, retcv_ret, retcvK_app, optW_some, evs, Arg.ev, aP, aR, aA, aW, pMov, pBin, pUn, pConv, pPick, pFieldAddr, pNilCheck, pExtract, aBin, aUn, aInt, aNew, partL_f, upd, List.getElem?_cons_zero, List.getElem?_cons_succ, List.getD_cons_zero, List.getD_cons_succ, List.set_cons_zero, List.set_cons_succ, Nat.zero_add, Nat.add_zero, List.getElem?_toArray, List.take_zero, List.drop_zero, List.take_succ_cons, List.drop_succ_cons, if_true, if_false, decide_true, decide_false, Bool.false_eq_true, Bool.true_eq_false, Bool.not_true, Bool.not_false, not_true_eq_false, not_false_eq_true, ge_iff_le, gt_iff_lt, beq_self_eq_true, bne_self_eq_false, and_self, and_true, true_and, Option.isSome_some, Heap.get_alloc_same, Heap.alloc_getE, extract0, extract1, *] | with_reducible refine cndK_d (fun hc => ?_) (fun hc => ?_) | with_reducible refine grdK_d (fun hc => ?_) (fun hc => ?_) | with_reducible refine cndK_i (fun hc => ?_) (fun hc => ?_) | with_reducible refine grdK_i (fun hc => ?_) (fun hc => ?_))
    refine name_c h2 _ fun h3 l3 => ?_
    rw [hnb.h]
    replace l3 := Hid.mk l3
    repeat' (first | simp -implicitDefEqProofs only [W_skip, W_reg, W_seq, W_rcond, W_cond, W_block, W_loop, W_exit, W_ret, thenQ_normal, thenQ_exit, thenQ_ret, blockQ_normal, blockQ_ret, blockQ_here, regQ_app, rcQ_app, cndK_t, cndK_f, RegW_nil, RegW_none, RegW_some, contW_app, grdK_tt, grdK_ff, grdK_tf, grdK_ft, grdK_undef, actK_p, actK_r, actK_a, actK_w, actK_call, actK_callV, heapK_app, allocK_app, writeK_app, ret1_ret, ret1_normal, ret0_ret, ret0_normal, ret2_ret2, thenK_app, retcv_ret, retcvK_app, optW_some, evs, Arg.ev, aP, aR, aA, aW, pMov, pBin, pUn, pConv, pPick, pFieldAddr, pNilCheck, pExtract, aBin, aUn, aInt, aNew, partL_f, upd, List.getElem?_cons_zero, List.getElem?_cons_succ, List.getD_cons_zero, List.getD_cons_succ, List.set_cons_zero, List.set_cons_succ, Nat.zero_add, Nat.add_zero, List.getElem?_toArray, List.take_zero, List.drop_zero, List.take_succ_cons, List.drop_succ_cons, if_true, if_false, decide_true, decide_false, Bool.false_eq_true, Bool.true_eq_false, Bool.not_true, Bool.not_false, not_true_eq_false, not_false_eq_true, ge_iff_le, gt_iff_lt, beq_self_eq_true, bne_self_eq_false, and_self, and_true, true_and, Option.isSome_some, Heap.get_alloc_same, Heap.alloc_getE, *] | with_reducible refine cndK_d (fun hc => ?_) (fun hc => ?_) | with_reducible refine grdK_d (fun hc => ?_) (fun hc => ?_) | with_reducible refine cndK_i (fun hc => ?_) (fun hc => ?_) | with_reducible refine grdK_i (fun hc => ?_) (fun hc => ?_))
    refine refName_c h3 _ fun h4 l4 => ?_
    rw [hnb.h]
    replace l4 := Hid.mk l4
    repeat' (first | simp -implicitDefEqProofs only [W_skip, W_reg, W_seq, W_rcond, W_cond, W_block, W_loop, W_exit, W_ret, thenQ_normal, thenQ_exit, thenQ_ret, blockQ_normal, blockQ_ret, blockQ_here, regQ_app, rcQ_app, cndK_t, cndK_f, RegW_nil, RegW_none, RegW_some, contW_app, grdK_tt, grdK_ff, grdK_tf, grdK_ft, grdK_undef, actK_p, actK_r, actK_a, actK_w, actK_call, actK_callV, heapK_app, allocK_app, writeK_app, ret1_ret, ret1_normal, ret0_ret, ret0_normal, ret2_ret2, thenK_app, retcv_ret, retcvK_app, optW_some, evs, Arg.ev, aP, aR, aA, aW, pMov, pBin, pUn, pConv, pPick, pFieldAddr, pNilCheck, pExtract, aBin, aUn, aInt, aNew, partL_f, upd, List.getElem?_cons_zero, List.getElem?_cons_succ, List.getD_cons_zero, List.getD_cons_succ, List.set_cons_zero, List.set_cons_succ, Nat.zero_add, Nat.add_zero, List.getElem?_toArray, List.take_zero, List.drop_zero, List.take_succ_cons, List.drop_succ_cons, if_true, if_false, decide_true, decide_false, Bool.false_eq_true, Bool.true_eq_false, Bool.not_true, Bool.not_false, not_true_eq_false, not_false_eq_true, ge_iff_le, gt_iff_lt, beq_self_eq_true, bne_self_eq_false, and_self, and_true, true_and, Option.isSome_some, Heap.get_alloc_same, Heap.alloc_getE, *] | with_reducible refine cndK_d (fun hc => ?_) (fun hc => ?_) | with_reducible refine grdK_d (fun hc => ?_) (fun hc => ?_) | with_reducible refine cndK_i (fun hc => ?_) (fun hc => ?_) | with_reducible refine grdK_i (fun hc => ?_) (fun hc => ?_))
    refine word_c h4 _ fun h5 l5 => ?_
    rw [hwb.h]
    replace l5 := Hid.mk l5
    repeat' (first | simp -implicitDefEqProofs only [W_skip, W_reg, W_seq, W_rcond, W_cond, W_block, W_loop, W_exit, W_ret, thenQ_normal, thenQ_exit, thenQ_ret, blockQ_normal, blockQ_ret, blockQ_here, regQ_app, rcQ_app, cndK_t, cndK_f, RegW_nil, RegW_none, RegW_some, contW_app, grdK_tt, grdK_ff, grdK_tf, grdK_ft, grdK_undef, actK_p, actK_r, actK_a, actK_w, actK_call, actK_callV, heapK_app, allocK_app, writeK_app, ret1_ret, ret1_normal, ret0_ret, ret0_normal, ret2_ret2, thenK_app, retcv_ret, retcvK_app, optW_some, evs, Arg.ev, aP, aR, aA, aW, pMov, pBin, pUn, pConv, pPick, pFieldAddr, pNilCheck, pExtract, aBin, aUn, aInt, aNew, partL_f, upd, List.getElem?_cons_zero, List.getElem?_cons_succ, List.getD_cons_zero, List.getD_cons_succ, List.set_cons_zero, List.set_cons_succ, Nat.zero_add, Nat.add_zero, List.getElem?_toArray, List.take_zero, List.drop_zero, List.take_succ_cons, List.drop_succ_cons, if_true, if_false, decide_true, decide_false, Bool.false_eq_true, Bool.true_eq_false, Bool.not_true, Bool.not_false, not_true_eq_false, not_false_eq_true, ge_iff_le, gt_iff_lt, beq_self_eq_true, bne_self_eq_false, and_self, and_true, true_and, Option.isSome_some, Heap.get_alloc_same, Heap.alloc_getE, *] | with_reducible refine cndK_d (fun hc => ?_) (fun hc => ?_) | with_reducible refine grdK_d (fun hc => ?_) (fun hc => ?_) | with_reducible refine cndK_i (fun hc => ?_) (fun hc => ?_) | with_reducible refine grdK_i (fun hc => ?_) (fun hc => ?_))
    refine refWord_c h5 _ fun h6 l6 => ?_
    rw [hwb.h]
    replace l6 := Hid.mk l6
    repeat' (first | simp -implicitDefEqProofs only [W_skip, W_reg, W_seq, W_rcond, W_cond, W_block, W_loop, W_exit, W_ret, thenQ_normal, thenQ_exit, thenQ_ret, blockQ_normal, blockQ_ret, blockQ_here, regQ_app, rcQ_app, cndK_t, cndK_f, RegW_nil, RegW_none, RegW_some, contW_app, grdK_tt, grdK_ff, grdK_tf, grdK_ft, grdK_undef, actK_p, actK_r, actK_a, actK_w, actK_call, actK_callV, heapK_app, allocK_app, writeK_app, ret1_ret, ret1_normal, ret0_ret, ret0_normal, ret2_ret2, thenK_app, retcv_ret, retcvK_app, optW_some, evs, Arg.ev, aP, aR, aA, aW, pMov, pBin, pUn, pConv, pPick, pFieldAddr, pNilCheck, pExtract, aBin, aUn, aInt, aNew, partL_f, upd, List.getElem?_cons_zero, List.getElem?_cons_succ, List.getD_cons_zero, List.getD_cons_succ, List.set_cons_zero, List.set_cons_succ, Nat.zero_add, Nat.add_zero, List.getElem?_toArray, List.take_zero, List.drop_zero, List.take_succ_cons, List.drop_succ_cons, if_true, if_false, decide_true, decide_false, Bool.false_eq_true, Bool.true_eq_false, Bool.not_true, Bool.not_false, not_true_eq_false, not_false_eq_true, ge_iff_le, gt_iff_lt, beq_self_eq_true, bne_self_eq_false, and_self, and_true, true_and, Option.isSome_some, Heap.get_alloc_same, Heap.alloc_getE, *] | with_reducible refine cndK_d (fun hc => ?_) (fun hc => ?_) | with_reducible refine grdK_d (fun hc => ?_) (fun hc => ?_) | with_reducible refine cndK_i (fun hc => ?_) (fun hc => ?_) | with_reducible refine grdK_i (fun hc => ?_) (fun hc => ?_))
    exact nx.h _ ((((l2.h.trans l3.h).trans l4.h).trans l5.h).trans l6.h) _ _ _ _ _ _
end Go.Eng.Tk

set_option linter.unusedSimpArgs false
set_option linter.unusedVariables false
namespace Go.Eng.Tk
open Go Go.Eng Go.Proofs

/-! ### TokenTells -/
set_option maxHeartbeats 2000000 in
theorem TokenTells_c {s more : List UInt8} {v vb : Value} {raw : List (Int × Int)} {bl : List Int} {at' : Int} {h : Heap} (hsl : s.length ≤ 140737488351232) (hml : more.length ≤ 140737488351232) (hv : Raws h v raw) (hok : ∀ r ∈ raw, inI r.1 ∧ inI r.2) (hlen : (raw.length : Int) ≤ 9223372036854775807)
    (hvb : Ints h vb bl) (hob : ∀ z ∈ bl, inI z) (hlb : (bl.length : Int) ≤ 9223372036854775807) (ha : inI at') :
    CallW Tryd.prog 3 [str s, v, vb, .int .i64 at', str more] h fun v _ => v = .bool true := by
  obtain ⟨Q, hQ⟩ : ∃ Q : Value → Heap → Prop, Q = fun v _ => v = .bool true := ⟨_, rfl⟩
  rw [← hQ]
  have hq : ∀ h', Q (.bool true) h' := fun h' => by rw [hQ]
  clear hQ
  have lr := Raws.len hv
  obtain ⟨B, hB⟩ : ∃ B : Nat → List UInt8, (fun i => blankL bl i) = B := ⟨_, rfl⟩
  have hBs : ∀ i, B i ∈ spaces := fun i => by rw [← hB]; exact blankL_space bl hob i
  have hBi : ∀ i, blankL bl i = B i := fun i => by rw [← hB]
  clear hB
  refine call_of1 (k := 5) ok3 rfl rfl rfl fun N => ?_
  rw [show env0 c3 [str s, v, vb, .int .i64 at', str more] = [str s, v, vb, .int .i64 at', str more, undef, undef, undef, undef, undef, undef, undef, undef, undef, undef, undef, undef, undef, undef, undef, undef, undef, undef, undef, undef, undef, undef, undef, undef, undef, undef] from rfl]
  delta c3 c3_r0 c3_r1 c3_r2 c3_r3 c3_r4 c3_r5 c3_r6 c3_r7 c3_r8 c3_r9 c3_r11 c3_r12 c3_r13 c3_r14 c3_r15 c3_r16 c3_r17 c3_r18 c3_r19 c3_r21 c3_r22 c3_r23 c3_r24 c3_r25 c3_r26 c3_r27 c3_r28 c3_r30
  replace hq := Hid.mk hq
  repeat' (first | simp -implicitDefEqProofs only [W_skip, W_reg, W_seq, W_rcond, W_cond, W_block, W_loop, W_exit, W_ret, thenQ_normal, thenQ_exit, thenQ_ret, blockQ_normal, blockQ_ret, blockQ_here, regQ_app, rcQ_app, cndK_t, cndK_f, RegW_nil, RegW_none, RegW_some, contW_app, grdK_tt, grdK_ff, grdK_tf, grdK_ft, grdK_undef, actK_p, actK_r, actK_a, actK_w, actK_call, actK_callV, heapK_app, allocK_app, writeK_app, ret1_ret, ret1_normal, ret0_ret, ret0_normal, ret2_ret2, thenK_app, retcv_ret, retcvK_app, optW_some, evs, Arg.ev, aP, aR, aA, aW, pMov, pBin, pUn, pConv, pPick, pFieldAddr, pNilCheck, pExtract, aBin, aUn, aInt, aNew, partL_f, upd, List.getElem?_cons_zero, List.getElem?_cons_succ, List.getD_cons_zero, List.getD_cons_succ, List.set_cons_zero, List.set_cons_succ, Nat.zero_add, Nat.add_zero, List.getElem?_toArray, List.take_zero, List.drop_zero, List.take_succ_cons, List.drop_succ_cons, if_true, if_false, decide_true, decide_false, Bool.false_eq_true, Bool.true_eq_false, Bool.not_true, Bool.not_false, not_true_eq_false, not_false_eq_true, ge_iff_le, gt_iff_lt, beq_self_eq_true, bne_self_eq_false, and_self, and_true, true_and, Option.isSome_some, Heap.get_alloc_same, Heap.alloc_getE, *] | with_reducible refine cndK_d (fun hc => ?_) (fun hc => ?_) | with_reducible refine grdK_d (fun hc => ?_) (fun hc => ?_) | with_reducible refine cndK_i (fun hc => ?_) (fun hc => ?_) | with_reducible refine grdK_i (fun hc => ?_) (fun hc => ?_))
  refine awake_c h _ fun h1 l1 => ?_
  have hv1 := Hid.mk (hv.mono l1)
  have hvb1 := Hid.mk (SlV.mono l1 hvb)
  clear hv hvb
  replace hok := Hid.mk hok
  replace hob := Hid.mk hob
  replace hBs := Hid.mk hBs
  replace hBi := Hid.mk hBi
  obtain ⟨n, hn⟩ : ∃ n, min raw.length 30 = n := ⟨_, rfl⟩
  repeat' (first | simp -implicitDefEqProofs only [W_skip, W_reg, W_seq, W_rcond, W_cond, W_block, W_loop, W_exit, W_ret, thenQ_normal, thenQ_exit, thenQ_ret, blockQ_normal, blockQ_ret, blockQ_here, regQ_app, rcQ_app, cndK_t, cndK_f, RegW_nil, RegW_none, RegW_some, contW_app, grdK_tt, grdK_ff, grdK_tf, grdK_ft, grdK_undef, actK_p, actK_r, actK_a, actK_w, actK_call, actK_callV, heapK_app, allocK_app, writeK_app, ret1_ret, ret1_normal, ret0_ret, ret0_normal, ret2_ret2, thenK_app, retcv_ret, retcvK_app, optW_some, evs, Arg.ev, aP, aR, aA, aW, pMov, pBin, pUn, pConv, pPick, pFieldAddr, pNilCheck, pExtract, aBin, aUn, aInt, aNew, partL_f, upd, List.getElem?_cons_zero, List.getElem?_cons_succ, List.getD_cons_zero, List.getD_cons_succ, List.set_cons_zero, List.set_cons_succ, Nat.zero_add, Nat.add_zero, List.getElem?_toArray, List.take_zero, List.drop_zero, List.take_succ_cons, List.drop_succ_cons, if_true, if_false, decide_true, decide_false, Bool.false_eq_true, Bool.true_eq_false, Bool.not_true, Bool.not_false, not_true_eq_false, not_false_eq_true, ge_iff_le, gt_iff_lt, beq_self_eq_true, bne_self_eq_false, and_self, and_true, true_and, Option.isSome_some, Heap.get_alloc_same, Heap.alloc_getE, *] | with_reducible refine cndK_d (fun hc => ?_) (fun hc => ?_) | with_reducible refine grdK_d (fun hc => ?_) (fun hc => ?_) | with_reducible refine cndK_i (fun hc => ?_) (fun hc => ?_) | with_reducible refine grdK_i (fun hc => ?_) (fun hc => ?_))
  refine LoopW.upto n (fun i e h' => h1.le h' ∧ ∃ x9, e = [str s, v, vb, .int .i64 at', str more, .bool false, .bool true, str (seqT (pairs raw B i)), .int .i64 i, x9, undef, undef, undef, undef, undef, undef, undef, undef, undef, undef, undef, undef, undef, undef, undef, undef, undef, undef, undef, undef, undef]) ?_ (Nat.zero_le _)
    ⟨Heap.le.refl _, undef, rfl⟩
  rintro i _ h' R hi ⟨lh, x9, rfl⟩ hR
  delta c3_l10 c3_r0 c3_r1 c3_r2 c3_r3 c3_r4 c3_r5 c3_r6 c3_r7 c3_r8 c3_r9 c3_r11 c3_r12 c3_r13 c3_r14 c3_r15 c3_r16 c3_r17 c3_r18 c3_r19 c3_r21 c3_r22 c3_r23 c3_r24 c3_r25 c3_r26 c3_r27 c3_r28 c3_r30
  have hpl := pairs_len hok.h hBs.h i
  by_cases hlt' : i < n
  case pos =>
    have hlr : (i : Int) < (raw.length : Int) := by omega
    have h20 : (i : Int) < 30 := by omega
    have hwj : IntKind.i64.wrap ((i : Int) + 1) = ((i + 1 : Nat) : Int) := by rw [wrapI (by omega) (by omega)]; rfl
    obtain ⟨r1, r2⟩ := raw_ok hok.h i
    have hwl := piece_len (kind := (raw.getD i (0, 0)).1) r2
    have hps : pairs raw B (i + 1) = pairs raw B i ++ [pairAt raw B i] := pairs_succ _ _ _
    have hsq : seqT (pairs raw B (i + 1)) = seqT (pairs raw B i) ++ (pieceL (raw.getD i (0, 0)).1 (raw.getD i (0, 0)).2).1 ++ B i := by rw [hps, seqT_snoc]; rfl
    obtain ⟨t, ht⟩ : ∃ s, seqT (pairs raw B i) = s := ⟨_, rfl⟩
    rw [ht] at hsq hpl ⊢
    obtain ⟨ra, hra⟩ : ∃ x, (raw.getD i (0, 0)).1 = x := ⟨_, rfl⟩
    obtain ⟨rb, hrb⟩ : ∃ x, (raw.getD i (0, 0)).2 = x := ⟨_, rfl⟩
    rw [hra] at r1
    rw [hrb] at r2
    rw [hra, hrb] at hwl hsq
    obtain ⟨w, hw⟩ : ∃ w, (pieceL ra rb).1 = w := ⟨_, rfl⟩
    rw [hw] at hwl hsq
    have hbl := space_len (hBs.h i)
    have ct1 := cat_S (a := t) (b := w) (by omega)
    have ct2 := cat_S (a := t ++ w) (b := B i) (by simp; omega)
    obtain ⟨id, off, cells, own, a1, a2, a3, a4, a5, a6⟩ := Raws.at' (hv1.h.mono lh) (i := i) (by omega)
    rw [hra] at a3
    rw [hrb] at a4
    have g := fun x9 h3 (l3 : h'.le h3) => hR.h [str s, v, vb, .int .i64 at', str more, .bool false, .bool true, str (t ++ w ++ B i), .int .i64 ((i + 1 : Nat) : Int), x9, undef, undef, undef, undef, undef, undef, undef, undef, undef, undef, undef, undef, undef, undef, undef, undef, undef, undef, undef, undef, undef] h3 hlt' ⟨lh.trans l3, x9, by rw [hsq]⟩
    replace g := Hid.mk g
    replace lh := Hid.mk lh
    obtain ⟨nb, hnb⟩ : ∃ b, isName w = b := ⟨_, rfl⟩
    obtain ⟨wb, hwb⟩ : ∃ b, isWord w = b := ⟨_, rfl⟩
    have m2 : pEqB true [.bool nb, .bool nb] = some (.bool false) := by simp [pEqB]
    have m3 : pEqB true [.bool wb, .bool wb] = some (.bool false) := by simp [pEqB]
    replace hnb := Hid.mk hnb
    replace hwb := Hid.mk hwb
    clear hps hsq ht hlt' hi hn
    repeat' (first | simp -implicitDefEqProofs only [W_skip, W_reg, W_seq, W_rcond, W_cond, W_block, W_loop, W_exit, W_ret, thenQ_normal, thenQ_exit, thenQ_ret, blockQ_normal, blockQ_ret, blockQ_here, regQ_app, rcQ_app, cndK_t, cndK_f, RegW_nil, RegW_none, RegW_some, contW_app, grdK_tt, grdK_ff, grdK_tf, grdK_ft, grdK_undef, actK_p, actK_r, actK_a, actK_w, actK_call, actK_callV, heapK_app, allocK_app, writeK_app, ret1_ret, ret1_normal, ret0_ret, ret0_normal, ret2_ret2, thenK_app, retcv_ret, retcvK_app, optW_some, evs, Arg.ev, aP, aA, aW, pMov, pBin, pUn, pConv, pPick, pFieldAddr, pNilCheck, pExtract, aBin, aUn, aInt, aNew, partL_f, upd, List.getElem?_cons_zero, List.getElem?_cons_succ, List.getD_cons_zero, List.getD_cons_succ, List.set_cons_zero, List.set_cons_succ, Nat.zero_add, Nat.add_zero, List.getElem?_toArray, List.take_zero, List.drop_zero, List.take_succ_cons, List.drop_succ_cons, if_true, if_false, decide_true, decide_false, Bool.false_eq_true, Bool.true_eq_false, Bool.not_true, Bool.not_false, not_true_eq_false, not_false_eq_true, ge_iff_le, gt_iff_lt, beq_self_eq_true, bne_self_eq_false, and_self, and_true, true_and, Option.isSome_some, Heap.get_alloc_same, Heap.alloc_getE, aR_ld, ldK_blk, *] | with_reducible refine cndK_d (fun hc => ?_) (fun hc => ?_) | with_reducible refine grdK_d (fun hc => ?_) (fun hc => ?_) | with_reducible refine cndK_i (fun hc => ?_) (fun hc => ?_) | with_reducible refine grdK_i (fun hc => ?_) (fun hc => ?_))
    refine piece_c r1 r2 h' _ fun h3 l3 => ?_
    rw [hw]
    replace l3 := Hid.mk l3
    repeat' (first | simp -implicitDefEqProofs only [W_skip, W_reg, W_seq, W_rcond, W_cond, W_block, W_loop, W_exit, W_ret, thenQ_normal, thenQ_exit, thenQ_ret, blockQ_normal, blockQ_ret, blockQ_here, regQ_app, rcQ_app, cndK_t, cndK_f, RegW_nil, RegW_none, RegW_some, contW_app, grdK_tt, grdK_ff, grdK_tf, grdK_ft, grdK_undef, actK_p, actK_r, actK_a, actK_w, actK_call, actK_callV, heapK_app, allocK_app, writeK_app, ret1_ret, ret1_normal, ret0_ret, ret0_normal, ret2_ret2, thenK_app, retcv_ret, retcvK_app, optW_some, evs, Arg.ev, aP, aR, aA, aW, pMov, pBin, pUn, pConv, pPick, pFieldAddr, pNilCheck, pExtract, aBin, aUn, aInt, aNew, partL_f, upd, List.getElem?_cons_zero, List.getElem?_cons_succ, List.getD_cons_zero, List.getD_cons_succ, List.set_cons_zero, List.set_cons_succ, Nat.zero_add, Nat.add_zero, List.getElem?_toArray, List.take_zero, List.drop_zero, List.take_succ_cons, List.drop_succ_cons, if_true, if_false, decide_true, decide_false, Bool.false_eq_true, Bool.true_eq_false, Bool.not_true, Bool.not_false, not_true_eq_false, not_false_eq_true, ge_iff_le, gt_iff_lt, beq_self_eq_true, bne_self_eq_false, and_self, and_true, true_and, Option.isSome_some, Heap.get_alloc_same, Heap.alloc_getE, extract0, extract1, *] | with_reducible refine cndK_d (fun hc => ?_) (fun hc => ?_) | with_reducible refine grdK_d (fun hc => ?_) (fun hc => ?_) | with_reducible refine cndK_i (fun hc => ?_) (fun hc => ?_) | with_reducible refine grdK_i (fun hc => ?_) (fun hc => ?_))
    refine blank_c (SlV.mono (lh.h.trans l3.h) hvb1.h) hob.h hlb i _ fun h4 l4 => ?_
    rw [hBi.h i]
    replace l4 := Hid.mk l4
    repeat' (first | simp -implicitDefEqProofs only [W_skip, W_reg, W_seq, W_rcond, W_cond, W_block, W_loop, W_exit, W_ret, thenQ_normal, thenQ_exit, thenQ_ret, blockQ_normal, blockQ_ret, blockQ_here, regQ_app, rcQ_app, cndK_t, cndK_f, RegW_nil, RegW_none, RegW_some, contW_app, grdK_tt, grdK_ff, grdK_tf, grdK_ft, grdK_undef, actK_p, actK_r, actK_a, actK_w, actK_call, actK_callV, heapK_app, allocK_app, writeK_app, ret1_ret, ret1_normal, ret0_ret, ret0_normal, ret2_ret2, thenK_app, retcv_ret, retcvK_app, optW_some, evs, Arg.ev, aP, aR, aA, aW, pMov, pBin, pUn, pConv, pPick, pFieldAddr, pNilCheck, pExtract, aBin, aUn, aInt, aNew, partL_f, upd, List.getElem?_cons_zero, List.getElem?_cons_succ, List.getD_cons_zero, List.getD_cons_succ, List.set_cons_zero, List.set_cons_succ, Nat.zero_add, Nat.add_zero, List.getElem?_toArray, List.take_zero, List.drop_zero, List.take_succ_cons, List.drop_succ_cons, if_true, if_false, decide_true, decide_false, Bool.false_eq_true, Bool.true_eq_false, Bool.not_true, Bool.not_false, not_true_eq_false, not_false_eq_true, ge_iff_le, gt_iff_lt, beq_self_eq_true, bne_self_eq_false, and_self, and_true, true_and, Option.isSome_some, Heap.get_alloc_same, Heap.alloc_getE, *] | with_reducible refine cndK_d (fun hc => ?_) (fun hc => ?_) | with_reducible refine grdK_d (fun hc => ?_) (fun hc => ?_) | with_reducible refine cndK_i (fun hc => ?_) (fun hc => ?_) | with_reducible refine grdK_i (fun hc => ?_) (fun hc => ?_))
    refine name_c h4 _ fun h5 l5 => ?_
    rw [hnb.h]
    replace l5 := Hid.mk l5
    repeat' (first | simp -implicitDefEqProofs only [W_skip, W_reg, W_seq, W_rcond, W_cond, W_block, W_loop, W_exit, W_ret, thenQ_normal, thenQ_exit, thenQ_ret, blockQ_normal, blockQ_ret, blockQ_here, regQ_app, rcQ_app, cndK_t, cndK_f, RegW_nil, RegW_none, RegW_some, contW_app, grdK_tt, grdK_ff, grdK_tf, grdK_ft, grdK_undef, actK_p, actK_r, actK_a, actK_w, actK_call, actK_callV, heapK_app, allocK_app, writeK_app, ret1_ret, ret1_normal, ret0_ret, ret0_normal, ret2_ret2, thenK_app, retcv_ret, retcvK_app, optW_some, evs, Arg.ev, aP, aR, aA, aW, pMov, pBin, pUn, pConv, pPick, pFieldAddr, pNilCheck, pExtract, aBin, aUn, aInt, aNew, partL_f, upd, List.getElem?_cons_zero, List.getElem?_cons_succ, List.getD_cons_zero, List.getD_cons_succ, List.set_cons_zero, List.set_cons_succ, Nat.zero_add, Nat.add_zero, List.getElem?_toArray, List.take_zero, List.drop_zero, List.take_succ_cons, List.drop_succ_cons, if_true, if_false, decide_true, decide_false, Bool.false_eq_true, Bool.true_eq_false, Bool.not_true, Bool.not_false, not_true_eq_false, not_false_eq_true, ge_iff_le, gt_iff_lt, beq_self_eq_true, bne_self_eq_false, and_self, and_true, true_and, Option.isSome_some, Heap.get_alloc_same, Heap.alloc_getE, *] | with_reducible refine cndK_d (fun hc => ?_) (fun hc => ?_) | with_reducible refine grdK_d (fun hc => ?_) (fun hc => ?_) | with_reducible refine cndK_i (fun hc => ?_) (fun hc => ?_) | with_reducible refine grdK_i (fun hc => ?_) (fun hc => ?_))
    refine refName_c h5 _ fun h6 l6 => ?_
    rw [hnb.h]
    replace l6 := Hid.mk l6
    repeat' (first | simp -implicitDefEqProofs only [W_skip, W_reg, W_seq, W_rcond, W_cond, W_block, W_loop, W_exit, W_ret, thenQ_normal, thenQ_exit, thenQ_ret, blockQ_normal, blockQ_ret, blockQ_here, regQ_app, rcQ_app, cndK_t, cndK_f, RegW_nil, RegW_none, RegW_some, contW_app, grdK_tt, grdK_ff, grdK_tf, grdK_ft, grdK_undef, actK_p, actK_r, actK_a, actK_w, actK_call, actK_callV, heapK_app, allocK_app, writeK_app, ret1_ret, ret1_normal, ret0_ret, ret0_normal, ret2_ret2, thenK_app, retcv_ret, retcvK_app, optW_some, evs, Arg.ev, aP, aR, aA, aW, pMov, pBin, pUn, pConv, pPick, pFieldAddr, pNilCheck, pExtract, aBin, aUn, aInt, aNew, partL_f, upd, List.getElem?_cons_zero, List.getElem?_cons_succ, List.getD_cons_zero, List.getD_cons_succ, List.set_cons_zero, List.set_cons_succ, Nat.zero_add, Nat.add_zero, List.getElem?_toArray, List.take_zero, List.drop_zero, List.take_succ_cons, List.drop_succ_cons, if_true, if_false, decide_true, decide_false, Bool.false_eq_true, Bool.true_eq_false, Bool.not_true, Bool.not_false, not_true_eq_false, not_false_eq_true, ge_iff_le, gt_iff_lt, beq_self_eq_true, bne_self_eq_false, and_self, and_true, true_and, Option.isSome_some, Heap.get_alloc_same, Heap.alloc_getE, *] | with_reducible refine cndK_d (fun hc => ?_) (fun hc => ?_) | with_reducible refine grdK_d (fun hc => ?_) (fun hc => ?_) | with_reducible refine cndK_i (fun hc => ?_) (fun hc => ?_) | with_reducible refine grdK_i (fun hc => ?_) (fun hc => ?_))
    refine word_c h6 _ fun h7 l7 => ?_
    rw [hwb.h]
    replace l7 := Hid.mk l7
    repeat' (first | simp -implicitDefEqProofs only [W_skip, W_reg, W_seq, W_rcond, W_cond, W_block, W_loop, W_exit, W_ret, thenQ_normal, thenQ_exit, thenQ_ret, blockQ_normal, blockQ_ret, blockQ_here, regQ_app, rcQ_app, cndK_t, cndK_f, RegW_nil, RegW_none, RegW_some, contW_app, grdK_tt, grdK_ff, grdK_tf, grdK_ft, grdK_undef, actK_p, actK_r, actK_a, actK_w, actK_call, actK_callV, heapK_app, allocK_app, writeK_app, ret1_ret, ret1_normal, ret0_ret, ret0_normal, ret2_ret2, thenK_app, retcv_ret, retcvK_app, optW_some, evs, Arg.ev, aP, aR, aA, aW, pMov, pBin, pUn, pConv, pPick, pFieldAddr, pNilCheck, pExtract, aBin, aUn, aInt, aNew, partL_f, upd, List.getElem?_cons_zero, List.getElem?_cons_succ, List.getD_cons_zero, List.getD_cons_succ, List.set_cons_zero, List.set_cons_succ, Nat.zero_add, Nat.add_zero, List.getElem?_toArray, List.take_zero, List.drop_zero, List.take_succ_cons, List.drop_succ_cons, if_true, if_false, decide_true, decide_false, Bool.false_eq_true, Bool.true_eq_false, Bool.not_true, Bool.not_false, not_true_eq_false, not_false_eq_true, ge_iff_le, gt_iff_lt, beq_self_eq_true, bne_self_eq_false, and_self, and_true, true_and, Option.isSome_some, Heap.get_alloc_same, Heap.alloc_getE, *] | with_reducible refine cndK_d (fun hc => ?_) (fun hc => ?_) | with_reducible refine grdK_d (fun hc => ?_) (fun hc => ?_) | with_reducible refine cndK_i (fun hc => ?_) (fun hc => ?_) | with_reducible refine grdK_i (fun hc => ?_) (fun hc => ?_))
    refine refWord_c h7 _ fun h8 l8 => ?_
    rw [hwb.h]
    replace l8 := Hid.mk l8
    repeat' (first | simp -implicitDefEqProofs only [W_skip, W_reg, W_seq, W_rcond, W_cond, W_block, W_loop, W_exit, W_ret, thenQ_normal, thenQ_exit, thenQ_ret, blockQ_normal, blockQ_ret, blockQ_here, regQ_app, rcQ_app, cndK_t, cndK_f, RegW_nil, RegW_none, RegW_some, contW_app, grdK_tt, grdK_ff, grdK_tf, grdK_ft, grdK_undef, actK_p, actK_r, actK_a, actK_w, actK_call, actK_callV, heapK_app, allocK_app, writeK_app, ret1_ret, ret1_normal, ret0_ret, ret0_normal, ret2_ret2, thenK_app, retcv_ret, retcvK_app, optW_some, evs, Arg.ev, aP, aR, aA, aW, pMov, pBin, pUn, pConv, pPick, pFieldAddr, pNilCheck, pExtract, aBin, aUn, aInt, aNew, partL_f, upd, List.getElem?_cons_zero, List.getElem?_cons_succ, List.getD_cons_zero, List.getD_cons_succ, List.set_cons_zero, List.set_cons_succ, Nat.zero_add, Nat.add_zero, List.getElem?_toArray, List.take_zero, List.drop_zero, List.take_succ_cons, List.drop_succ_cons, if_true, if_false, decide_true, decide_false, Bool.false_eq_true, Bool.true_eq_false, Bool.not_true, Bool.not_false, not_true_eq_false, not_false_eq_true, ge_iff_le, gt_iff_lt, beq_self_eq_true, bne_self_eq_false, and_self, and_true, true_and, Option.isSome_some, Heap.get_alloc_same, Heap.alloc_getE, *] | with_reducible refine cndK_d (fun hc => ?_) (fun hc => ?_) | with_reducible refine grdK_d (fun hc => ?_) (fun hc => ?_) | with_reducible refine cndK_i (fun hc => ?_) (fun hc => ?_) | with_reducible refine grdK_i (fun hc => ?_) (fun hc => ?_))
    exact g.h _ _ (((((l3.h.trans l4.h).trans l5.h).trans l6.h).trans l7.h).trans l8.h)
  case neg =>
    obtain ⟨t, ht⟩ : ∃ s, seqT (pairs raw B i) = s := ⟨_, rfl⟩
    rw [ht] at hpl ⊢
    have htl : t.length ≤ 900 := by omega
    obtain ⟨hlt2, hpk⟩ := pickN_lt ha (n := t.length + 1) (by omega)
    obtain ⟨k, hk⟩ : ∃ k, pickN at' (t.length + 1) = k := ⟨_, rfl⟩
    rw [hk] at hlt2 hpk
    have hw1 : IntKind.i64.wrap ((t.length : Int) + 1) = ((t.length + 1 : Nat) : Int) := by rw [wrapI (by omega) (by omega)]; rfl
    have hw2 : IntKind.i64.wrap ((k : Int) + (more.length : Int)) = ((k + more.length : Nat) : Int) := by rw [wrapI (by omega) (by omega)]; omega
    obtain ⟨mn, hmn⟩ : ∃ n, min (k + more.length) t.length = n := ⟨_, rfl⟩
    have hmin : pMinI false [.int .i64 ((k + more.length : Nat) : Int), .int .i64 (t.length : Int)] = some (.int .i64 (mn : Int)) := by
      simp only [pMinI, Bool.false_eq_true, if_false, if_true]
      congr 2
      split <;> omega
    have cu1 := cutHi_S (l := t) (n := k) (by omega)
    have cu2 := cutLo_S (l := t) (n := mn) (by omega)
    have cu3 := cutLo_S (l := t) (n := k) (by omega)
    have d1 := cat_S (a := t.take k) (b := more) (by simp; omega)
    have d2 := cat_S (a := t.take k ++ more) (b := t.drop mn) (by simp; omega)
    have d3 := cat_S (a := t.take k ++ more) (b := t.drop k) (by simp; omega)
    obtain ⟨x3, hx3⟩ : ∃ x, t.take k ++ more ++ t.drop mn = x := ⟨_, rfl⟩
    obtain ⟨x4, hx4⟩ : ∃ x, t.take k ++ more ++ t.drop k = x := ⟨_, rfl⟩
    obtain ⟨x5, hx5⟩ : ∃ x, t.take k = x := ⟨_, rfl⟩
    rw [hx3] at d2
    rw [hx4] at d3
    rw [hx5] at cu1 d1 d2 d3
    have b1 := bslice_five s t x3 x4 x5
    have e1 : aStr .add ⟨#[48, 120]⟩ ⟨more.toArray⟩ = some (.string ⟨([48, 120] ++ more).toArray⟩) := cat_S (a := [48, 120]) (b := more) (by simp; omega)
    have e2 : aStr .add ⟨#[48]⟩ ⟨more.toArray⟩ = some (.string ⟨([48] ++ more).toArray⟩) := cat_S (a := [48]) (b := more) (by simp; omega)
    have e3 : aStr .add ⟨s.toArray⟩ ⟨#[49]⟩ = some (.string ⟨(s ++ [49]).toArray⟩) := cat_S (a := s) (b := [49]) (by simp; omega)
    have b2 := bslice_five s more ([48, 120] ++ more) ([48] ++ more) (s ++ [49])
    have f1 : ∀ h3 : Heap, ∃ q h4, h3.next = q ∧ h3.alloc (.blk [str s, str t, str x3, str x4, str x5] true) = h4 ∧ Strs h4 (.slice (some ⟨q, 0, none⟩) 5 1) [s, t, x3, x4, x5] := fun h3 => ⟨_, _, rfl, rfl, strs_new h3 [s, t, x3, x4, x5] rfl rfl⟩
    have f2 : ∀ h3 : Heap, ∃ q h4, h3.next = q ∧ h3.alloc (.blk [str s, str more, str ([48, 120] ++ more), str ([48] ++ more), str (s ++ [49])] true) = h4 ∧ Strs h4 (.slice (some ⟨q, 0, none⟩) 5 1) [s, more, [48, 120] ++ more, [48] ++ more, s ++ [49]] := fun h3 => ⟨_, _, rfl, rfl, strs_new h3 [s, more, [48, 120] ++ more, [48] ++ more, s ++ [49]] rfl rfl⟩
    have hlens : ∀ x ∈ [s, more, [48, 120] ++ more, [48] ++ more, s ++ [49]], x.length ≤ 140737488355328 := by
      intro x hx
      simp only [List.mem_cons, List.not_mem_nil, or_false] at hx
      rcases hx with rfl | rfl | rfl | rfl | rfl
      · omega
      · omega
      · simp; omega
      · simp; omega
      · simp; omega
    obtain ⟨q, h4, g1, g2, g3⟩ := f1 h'
    replace f1 := Hid.mk f1
    replace f2 := Hid.mk f2
    replace g3 := Hid.mk g3
    replace hlens := Hid.mk hlens
    have ls : ∀ q, pLenS [.slice (some ⟨q, 0, none⟩) 5 1] = some (.int .i64 5) := fun q => rfl
    have hpk' := Hid.mk hpk
    have fin : ∀ (h5 : Heap) e8 e9 e10 e11 e12 e13 e14 e15 e16 e17 e18 e19 e20 e21 e22 e23 e24 e25 e26, W Tryd.prog N c3.vars (.seq (.seq (.reg c3_r21 [(27, 2), (28, 1), (29, 0)]) (.block 4 (.loop c3_l29))) (.seq (.reg c3_r30 [(5, 0)]) .ret)) (ret1 5 Q) [str s, v, vb, .int .i64 at', str more, .bool false, .bool true, str t, e8, e9, e10, e11, e12, e13, e14, e15, e16, e17, e18, e19, e20, e21, e22, e23, e24, e25, e26, undef, undef, undef, undef] h5 := by
      intro h5 e8 e9 e10 e11 e12 e13 e14 e15 e16 e17 e18 e19 e20 e21 e22 e23 e24 e25 e26
      obtain ⟨q, h6, g1, g2, g3⟩ := f2.h h5
      replace g3 := Hid.mk g3
      delta c3_r21 c3_r30
      clear hR lh hpk hmn hx3 hx4 hx5 ht hk hlt' hi hn b1 cu1 cu2 cu3 d1 d2 d3 hmin
      repeat' (first | simp -implicitDefEqProofs only [W_skip, W_reg, W_seq, W_rcond, W_cond, W_block, W_loop, W_exit, W_ret, thenQ_normal, thenQ_exit, thenQ_ret, blockQ_normal, blockQ_ret, blockQ_here, regQ_app, rcQ_app, cndK_t, cndK_f, RegW_nil, RegW_none, RegW_some, contW_app, grdK_tt, grdK_ff, grdK_tf, grdK_ft, grdK_undef, actK_p, actK_r, actK_a, actK_w, actK_call, actK_callV, heapK_app, allocK_app, writeK_app, ret1_ret, ret1_normal, ret0_ret, ret0_normal, ret2_ret2, thenK_app, retcv_ret, retcvK_app, optW_some, evs, Arg.ev, aP, aR, aA, aW, pMov, pBin, pUn, pConv, pPick, pFieldAddr, pNilCheck, pExtract, aBin, aUn, aInt, aNew, partL_f, upd, List.getElem?_cons_zero, List.getElem?_cons_succ, List.getD_cons_zero, List.getD_cons_succ, List.set_cons_zero, List.set_cons_succ, Nat.zero_add, Nat.add_zero, List.getElem?_toArray, List.take_zero, List.drop_zero, List.take_succ_cons, List.drop_succ_cons, if_true, if_false, decide_true, decide_false, Bool.false_eq_true, Bool.true_eq_false, Bool.not_true, Bool.not_false, not_true_eq_false, not_false_eq_true, ge_iff_le, gt_iff_lt, beq_self_eq_true, bne_self_eq_false, and_self, and_true, true_and, Option.isSome_some, Heap.get_alloc_same, Heap.alloc_getE, ls, *] | with_reducible refine cndK_d (fun hc => ?_) (fun hc => ?_) | with_reducible refine grdK_d (fun hc => ?_) (fun hc => ?_) | with_reducible refine cndK_i (fun hc => ?_) (fun hc => ?_) | with_reducible refine grdK_i (fun hc => ?_) (fun hc => ?_))
      refine tells_loop rfl hlens.h g3.h ?_
      intro h7 e18 e19 e20 e21 e22 i e30
      repeat' (first | simp -implicitDefEqProofs only [W_skip, W_reg, W_seq, W_rcond, W_cond, W_block, W_loop, W_exit, W_ret, thenQ_normal, thenQ_exit, thenQ_ret, blockQ_normal, blockQ_ret, blockQ_here, regQ_app, rcQ_app, cndK_t, cndK_f, RegW_nil, RegW_none, RegW_some, contW_app, grdK_tt, grdK_ff, grdK_tf, grdK_ft, grdK_undef, actK_p, actK_r, actK_a, actK_w, actK_call, actK_callV, heapK_app, allocK_app, writeK_app, ret1_ret, ret1_normal, ret0_ret, ret0_normal, ret2_ret2, thenK_app, retcv_ret, retcvK_app, optW_some, evs, Arg.ev, aP, aR, aA, aW, pMov, pBin, pUn, pConv, pPick, pFieldAddr, pNilCheck, pExtract, aBin, aUn, aInt, aNew, partL_f, upd, List.getElem?_cons_zero, List.getElem?_cons_succ, List.getD_cons_zero, List.getD_cons_succ, List.set_cons_zero, List.set_cons_succ, Nat.zero_add, Nat.add_zero, List.getElem?_toArray, List.take_zero, List.drop_zero, List.take_succ_cons, List.drop_succ_cons, if_true, if_false, decide_true, decide_false, Bool.false_eq_true, Bool.true_eq_false, Bool.not_true, Bool.not_false, not_true_eq_false, not_false_eq_true, ge_iff_le, gt_iff_lt, beq_self_eq_true, bne_self_eq_false, and_self, and_true, true_and, Option.isSome_some, Heap.get_alloc_same, Heap.alloc_getE, *] | with_reducible refine cndK_d (fun hc => ?_) (fun hc => ?_) | with_reducible refine grdK_d (fun hc => ?_) (fun hc => ?_) | with_reducible refine cndK_i (fun hc => ?_) (fun hc => ?_) | with_reducible refine grdK_i (fun hc => ?_) (fun hc => ?_))
      exact hq.h _
    replace fin := Hid.mk fin
    clear hpk hmn hx3 hx4 hx5 ht hk e1 e2 e3 b2 hR lh
    by_cases hlr : i < raw.length
    · have hlr' : (i : Int) < (raw.length : Int) := by omega
      have h20 : ¬ (i : Int) < 30 := by omega
      clear hlt' hi hn hlr
      repeat' (first | simp -implicitDefEqProofs only [W_skip, W_reg, W_seq, W_rcond, W_cond, W_block, W_loop, W_exit, W_ret, thenQ_normal, thenQ_exit, thenQ_ret, blockQ_normal, blockQ_ret, blockQ_here, regQ_app, rcQ_app, cndK_t, cndK_f, RegW_nil, RegW_none, RegW_some, contW_app, grdK_tt, grdK_ff, grdK_tf, grdK_ft, grdK_undef, actK_p, actK_r, actK_a, actK_w, actK_call, actK_callV, heapK_app, allocK_app, writeK_app, ret1_ret, ret1_normal, ret0_ret, ret0_normal, ret2_ret2, thenK_app, retcv_ret, retcvK_app, optW_some, evs, Arg.ev, aP, aR, aA, aW, pMov, pBin, pUn, pConv, pPick, pFieldAddr, pNilCheck, pExtract, aBin, aUn, aInt, aNew, partL_f, upd, List.getElem?_cons_zero, List.getElem?_cons_succ, List.getD_cons_zero, List.getD_cons_succ, List.set_cons_zero, List.set_cons_succ, Nat.zero_add, Nat.add_zero, List.getElem?_toArray, List.take_zero, List.drop_zero, List.take_succ_cons, List.drop_succ_cons, if_true, if_false, decide_true, decide_false, Bool.false_eq_true, Bool.true_eq_false, Bool.not_true, Bool.not_false, not_true_eq_false, not_false_eq_true, ge_iff_le, gt_iff_lt, beq_self_eq_true, bne_self_eq_false, and_self, and_true, true_and, Option.isSome_some, Heap.get_alloc_same, Heap.alloc_getE, len_S, *] | with_reducible refine cndK_d (fun hc => ?_) (fun hc => ?_) | with_reducible refine grdK_d (fun hc => ?_) (fun hc => ?_) | with_reducible refine cndK_i (fun hc => ?_) (fun hc => ?_) | with_reducible refine grdK_i (fun hc => ?_) (fun hc => ?_))
      refine pick_c _ ((t.length + 1 : Nat) : Int) (by omega) h' _ ?_
      rw [← hpk'.h]
      repeat' (first | simp -implicitDefEqProofs only [W_skip, W_reg, W_seq, W_rcond, W_cond, W_block, W_loop, W_exit, W_ret, thenQ_normal, thenQ_exit, thenQ_ret, blockQ_normal, blockQ_ret, blockQ_here, regQ_app, rcQ_app, cndK_t, cndK_f, RegW_nil, RegW_none, RegW_some, contW_app, grdK_tt, grdK_ff, grdK_tf, grdK_ft, grdK_undef, actK_p, actK_r, actK_a, actK_w, actK_call, actK_callV, heapK_app, allocK_app, writeK_app, ret1_ret, ret1_normal, ret0_ret, ret0_normal, ret2_ret2, thenK_app, retcv_ret, retcvK_app, optW_some, evs, Arg.ev, aP, aR, aA, aW, pMov, pBin, pUn, pConv, pPick, pFieldAddr, pNilCheck, pExtract, aBin, aUn, aInt, aNew, partL_f, upd, List.getElem?_cons_zero, List.getElem?_cons_succ, List.getD_cons_zero, List.getD_cons_succ, List.set_cons_zero, List.set_cons_succ, Nat.zero_add, Nat.add_zero, List.getElem?_toArray, List.take_zero, List.drop_zero, List.take_succ_cons, List.drop_succ_cons, if_true, if_false, decide_true, decide_false, Bool.false_eq_true, Bool.true_eq_false, Bool.not_true, Bool.not_false, not_true_eq_false, not_false_eq_true, ge_iff_le, gt_iff_lt, beq_self_eq_true, bne_self_eq_false, and_self, and_true, true_and, Option.isSome_some, Heap.get_alloc_same, Heap.alloc_getE, len_S, ls, *] | with_reducible refine cndK_d (fun hc => ?_) (fun hc => ?_) | with_reducible refine grdK_d (fun hc => ?_) (fun hc => ?_) | with_reducible refine cndK_i (fun hc => ?_) (fun hc => ?_) | with_reducible refine grdK_i (fun hc => ?_) (fun hc => ?_))
      refine scans_loop rfl g3.h ?_
      intro h7 e11 e12 e13 e14 e15 e16 e17 i e26
      repeat' (first | simp -implicitDefEqProofs only [W_skip, W_reg, W_rcond, W_cond, W_block, W_loop, W_exit, W_ret, thenQ_normal, thenQ_exit, thenQ_ret, blockQ_normal, blockQ_ret, blockQ_here, regQ_app, rcQ_app, cndK_t, cndK_f, RegW_nil, RegW_none, RegW_some, contW_app, grdK_tt, grdK_ff, grdK_tf, grdK_ft, grdK_undef, actK_p, actK_r, actK_a, actK_w, actK_call, actK_callV, heapK_app, allocK_app, writeK_app, ret1_ret, ret1_normal, ret0_ret, ret0_normal, ret2_ret2, thenK_app, retcv_ret, retcvK_app, optW_some, evs, Arg.ev, aP, aR, aA, aW, pMov, pBin, pUn, pConv, pPick, pFieldAddr, pNilCheck, pExtract, aBin, aUn, aInt, aNew, partL_f, upd, List.getElem?_cons_zero, List.getElem?_cons_succ, List.getD_cons_zero, List.getD_cons_succ, List.set_cons_zero, List.set_cons_succ, Nat.zero_add, Nat.add_zero, List.getElem?_toArray, List.take_zero, List.drop_zero, List.take_succ_cons, List.drop_succ_cons, if_true, if_false, decide_true, decide_false, Bool.false_eq_true, Bool.true_eq_false, Bool.not_true, Bool.not_false, not_true_eq_false, not_false_eq_true, ge_iff_le, gt_iff_lt, beq_self_eq_true, bne_self_eq_false, and_self, and_true, true_and, Option.isSome_some, Heap.get_alloc_same, Heap.alloc_getE, *] | with_reducible refine cndK_d (fun hc => ?_) (fun hc => ?_) | with_reducible refine grdK_d (fun hc => ?_) (fun hc => ?_) | with_reducible refine cndK_i (fun hc => ?_) (fun hc => ?_) | with_reducible refine grdK_i (fun hc => ?_) (fun hc => ?_))
      exact fin.h _ _ _ _ _ _ _ _ _ _ _ _ _ _ _ _ _ _ _ _
    · have hlr' : ¬ (i : Int) < (raw.length : Int) := by omega
      clear hlt' hi hn hlr
      repeat' (first | simp -implicitDefEqProofs only [W_skip, W_reg, W_seq, W_rcond, W_cond, W_block, W_loop, W_exit, W_ret, thenQ_normal, thenQ_exit, thenQ_ret, blockQ_normal, blockQ_ret, blockQ_here, regQ_app, rcQ_app, cndK_t, cndK_f, RegW_nil, RegW_none, RegW_some, contW_app, grdK_tt, grdK_ff, grdK_tf, grdK_ft, grdK_undef, actK_p, actK_r, actK_a, actK_w, actK_call, actK_callV, heapK_app, allocK_app, writeK_app, ret1_ret, ret1_normal, ret0_ret, ret0_normal, ret2_ret2, thenK_app, retcv_ret, retcvK_app, optW_some, evs, Arg.ev, aP, aR, aA, aW, pMov, pBin, pUn, pConv, pPick, pFieldAddr, pNilCheck, pExtract, aBin, aUn, aInt, aNew, partL_f, upd, List.getElem?_cons_zero, List.getElem?_cons_succ, List.getD_cons_zero, List.getD_cons_succ, List.set_cons_zero, List.set_cons_succ, Nat.zero_add, Nat.add_zero, List.getElem?_toArray, List.take_zero, List.drop_zero, List.take_succ_cons, List.drop_succ_cons, if_true, if_false, decide_true, decide_false, Bool.false_eq_true, Bool.true_eq_false, Bool.not_true, Bool.not_false, not_true_eq_false, not_false_eq_true, ge_iff_le, gt_iff_lt, beq_self_eq_true, bne_self_eq_false, and_self, and_true, true_and, Option.isSome_some, Heap.get_alloc_same, Heap.alloc_getE, len_S, *] | with_reducible refine cndK_d (fun hc => ?_) (fun hc => ?_) | with_reducible refine grdK_d (fun hc => ?_) (fun hc => ?_) | with_reducible refine cndK_i (fun hc => ?_) (fun hc => ?_) | with_reducible refine grdK_i (fun hc => ?_) (fun hc => ?_))
      refine pick_c _ ((t.length + 1 : Nat) : Int) (by omega) h' _ ?_
      rw [← hpk'.h]
      repeat' (first | simp -implicitDefEqProofs only [W_skip, W_reg, W_seq, W_rcond, W_cond, W_block, W_loop, W_exit, W_ret, thenQ_normal, thenQ_exit, thenQ_ret, blockQ_normal, blockQ_ret, blockQ_here, regQ_app, rcQ_app, cndK_t, cndK_f, RegW_nil, RegW_none, RegW_some, contW_app, grdK_tt, grdK_ff, grdK_tf, grdK_ft, grdK_undef, actK_p, actK_r, actK_a, actK_w, actK_call, actK_callV, heapK_app, allocK_app, writeK_app, ret1_ret, ret1_normal, ret0_ret, ret0_normal, ret2_ret2, thenK_app, retcv_ret, retcvK_app, optW_some, evs, Arg.ev, aP, aR, aA, aW, pMov, pBin, pUn, pConv, pPick, pFieldAddr, pNilCheck, pExtract, aBin, aUn, aInt, aNew, partL_f, upd, List.getElem?_cons_zero, List.getElem?_cons_succ, List.getD_cons_zero, List.getD_cons_succ, List.set_cons_zero, List.set_cons_succ, Nat.zero_add, Nat.add_zero, List.getElem?_toArray, List.take_zero, List.drop_zero, List.take_succ_cons, List.drop_succ_cons, if_true, if_false, decide_true, decide_false, Bool.false_eq_true, Bool.true_eq_false, Bool.not_true, Bool.not_false, not_true_eq_false, not_false_eq_true, ge_iff_le, gt_iff_lt, beq_self_eq_true, bne_self_eq_false, and_self, and_true, true_and, Option.isSome_some, Heap.get_alloc_same, Heap.alloc_getE, len_S, ls, *] | with_reducible refine cndK_d (fun hc => ?_) (fun hc => ?_) | with_reducible refine grdK_d (fun hc => ?_) (fun hc => ?_) | with_reducible refine cndK_i (fun hc => ?_) (fun hc => ?_) | with_reducible refine grdK_i (fun hc => ?_) (fun hc => ?_))
      refine scans_loop rfl g3.h ?_
      intro h7 e11 e12 e13 e14 e15 e16 e17 i e26
      repeat' (first | simp -implicitDefEqProofs only [W_skip, W_reg, W_rcond, W_cond, W_block, W_loop, W_exit, W_ret, thenQ_normal, thenQ_exit, thenQ_ret, blockQ_normal, blockQ_ret, blockQ_here, regQ_app, rcQ_app, cndK_t, cndK_f, RegW_nil, RegW_none, RegW_some, contW_app, grdK_tt, grdK_ff, grdK_tf, grdK_ft, grdK_undef, actK_p, actK_r, actK_a, actK_w, actK_call, actK_callV, heapK_app, allocK_app, writeK_app, ret1_ret, ret1_normal, ret0_ret, ret0_normal, ret2_ret2, thenK_app, retcv_ret, retcvK_app, optW_some, evs, Arg.ev, aP, aR, aA, aW, pMov, pBin, pUn, pConv, pPick, pFieldAddr, pNilCheck, pExtract, aBin, aUn, aInt, aNew, partL_f, upd, List.getElem?_cons_zero, List.getElem?_cons_succ, List.getD_cons_zero, List.getD_cons_succ, List.set_cons_zero, List.set_cons_succ, Nat.zero_add, Nat.add_zero, List.getElem?_toArray, List.take_zero, List.drop_zero, List.take_succ_cons, List.drop_succ_cons, if_true, if_false, decide_true, decide_false, Bool.false_eq_true, Bool.true_eq_false, Bool.not_true, Bool.not_false, not_true_eq_false, not_false_eq_true, ge_iff_le, gt_iff_lt, beq_self_eq_true, bne_self_eq_false, and_self, and_true, true_and, Option.isSome_some, Heap.get_alloc_same, Heap.alloc_getE, *] | with_reducible refine cndK_d (fun hc => ?_) (fun hc => ?_) | with_reducible refine grdK_d (fun hc => ?_) (fun hc => ?_) | with_reducible refine cndK_i (fun hc => ?_) (fun hc => ?_) | with_reducible refine grdK_i (fun hc => ?_) (fun hc => ?_))
      exact fin.h _ _ _ _ _ _ _ _ _ _ _ _ _ _ _ _ _ _ _ _
end Go.Eng.Tk

