/-
  Part of a proof of the laws of layer 12 (axiom): the laws.
  Conditions: none.
-/
import Derived.Test.YtbncpnbbhjmeoaaRa
import Derived.Test.YtbncpnbbhjmeoaaBc
set_option linter.unusedSimpArgs false
set_option linter.unusedVariables false
namespace Go.Eng.Ax
open Go Go.Eng Go.Proofs

theorem bslice_s3 {a b c : Value} (ha : a.cells.toList = [a] ∧ a.oneCell' = true) (hb : b.cells.toList = [b] ∧ b.oneCell' = true) (hc : c.cells.toList = [c] ∧ c.oneCell' = true) :
    aBslice [.slice none 0 0, .slice none 0 0, .slice none 0 0] [(0, 1), (1, 1), (2, 1)] 3 1 [a, b, c] = some ([a, b, c], fun id => .slice (some ⟨id, 0, none⟩) 3 1) := by
  simp [aBslice, fillL, ha.1, hb.1, hc.1, ha.2, hb.2, hc.2]
theorem bslice_s2 {a b : Value} (ha : a.cells.toList = [a] ∧ a.oneCell' = true) (hb : b.cells.toList = [b] ∧ b.oneCell' = true) :
    aBslice [.slice none 0 0, .slice none 0 0] [(0, 1), (1, 1)] 2 1 [a, b] = some ([a, b], fun id => .slice (some ⟨id, 0, none⟩) 2 1) := by
  simp [aBslice, fillL, ha.1, hb.1, ha.2, hb.2]
theorem build_p (a b : Int) : pBuild [.int .i64 0, .int .i64 0] [(0, 1), (1, 1)] [.int .i64 a, .int .i64 b] = some (.agg #[.int .i64 a, .int .i64 b]) := rfl
theorem bslice_p (a b c d : Int) : aBslice [.int .i64 0, .int .i64 0, .int .i64 0, .int .i64 0] [(0, 2), (2, 2)] 2 2 [.agg #[.int .i64 a, .int .i64 b], .agg #[.int .i64 c, .int .i64 d]] = some ([.int .i64 a, .int .i64 b, .int .i64 c, .int .i64 d], fun id => .slice (some ⟨id, 0, none⟩) 2 2) := rfl
theorem lenS_lit (p : Option Addr) (n s : Nat) : pLenS [.slice p n s] = some (.int .i64 n) := rfl

theorem orderF_len (picks : List Int) : ∀ (fuel n : Nat) (left : List Int), (orderF picks fuel n left).length ≤ left.length
  | 0, _, _ => by simp [orderF]
  | fuel + 1, n, left => by
    unfold orderF
    split
    · simp
    · have key : ∀ (k : Nat) (x : Int), left[k]? = some x → (x :: orderF picks fuel (n + 1) (left.take k ++ left.drop (k + 1))).length ≤ left.length := fun k x hx => by
        have := orderF_len picks fuel (n + 1) (left.take k ++ left.drop (k + 1))
        have hlt := (List.getElem?_eq_some_iff.1 hx).1
        simp only [List.length_cons, List.length_append, List.length_take, List.length_drop] at this ⊢
        omega
      simp only []
      split
      · rename_i x hx
        exact key _ _ hx
      · simp
theorem orderK_len (l : List Ev) (picks : List Int) : (orderK l picks).length ≤ l.length := Nat.le_trans (orderF_len _ _ _ _) (leftTo_len _ _)
theorem pair_store {h : Heap} {p : Nat} (hp : h.next = p) (a b : Int) : wStore 2 (h.alloc (.blk [.int .i64 0, .int .i64 0] true)) [.pointer (some ⟨p, 0, none⟩), .agg #[.int .i64 a, .int .i64 b]] = some (undef, h.alloc (.blk [.int .i64 a, .int .i64 b] true)) := by
  subst hp
  exact wStore_new (by simp [Value.cells]) rfl rfl rfl

set_option maxHeartbeats 4000000 in
theorem tells_in {N : Nat} {a0 a1 a2 a3 a4 a5 a6 a7 a8 a9 a10 a11 a19 a20 a21 a22 a23 a24 a25 a26 x14 x15 x16 x17 x18 x30 : Value} {vy vo : Value} {y : List Ev} {o : List Int} {h : Heap} {vp : Value} {i k i' k' : Int}
    (hy : Evs h vy y) (ho : Ints h vo o) (hyl : y.length ≤ 12) (hol : o.length ≤ 12) (hp : SlV h 2 vp [[.int .i64 i, .int .i64 k], [.int .i64 i', .int .i64 k']]) (Q : AExit → List Value → Heap → Prop)
    (hq : ∀ h' x14 x15 x16 x17 x18 x29 x30, h.le h' → Q (.exit 4) [a0, a1, a2, a3, a4, a5, a6, a7, a8, a9, a10, a11, vy, vo, x14, x15, x16, x17, x18, a19, a20, a21, a22, a23, a24, a25, a26, vp, .int .i64 2, x29, x30] h') :
    LoopW Try.prog N c3.vars c3_l22 [a0, a1, a2, a3, a4, a5, a6, a7, a8, a9, a10, a11, vy, vo, x14, x15, x16, x17, x18, a19, a20, a21, a22, a23, a24, a25, a26, vp, .int .i64 2, .int .i64 0, x30] h Q := by
  replace hq := Hid.mk hq
  refine LoopW.upto 2 (fun j e h1 => h.le h1 ∧ ∃ x14 x15 x16 x17 x18 x30, e = [a0, a1, a2, a3, a4, a5, a6, a7, a8, a9, a10, a11, vy, vo, x14, x15, x16, x17, x18, a19, a20, a21, a22, a23, a24, a25, a26, vp, .int .i64 2, .int .i64 j, x30]) ?_ (Nat.zero_le _) ⟨Heap.le.refl _, _, _, _, _, _, _, rfl⟩
  clear x14 x15 x16 x17 x18 x30
  rintro j _ h1 R hj ⟨hl1, x14, x15, x16, x17, x18, x30, rfl⟩ hR
  delta c3_l22 c3_r0 c3_r1 c3_r2 c3_r3 c3_r4 c3_r5 c3_r6 c3_r7 c3_r8 c3_r9 c3_r10 c3_r11 c3_r12 c3_r13 c3_r14 c3_r15 c3_r16 c3_r17 c3_r18 c3_r19 c3_r20 c3_r21 c3_r23 c3_r24 c3_r25 c3_r27 c3_r28 c3_r29 c3_r31
  by_cases hlt : j < 2
  case neg =>
    have hlt' : ¬ (j : Int) < 2 := by omega
    repeat' (first | simp -implicitDefEqProofs only [W_skip, W_reg, W_seq, W_rcond, W_cond, W_block, W_loop, W_exit, W_ret, thenQ_normal, thenQ_exit, thenQ_ret, blockQ_normal, blockQ_ret, blockQ_here, regQ_app, rcQ_app, cndK_t, cndK_f, RegW_nil, RegW_none, RegW_some, contW_app, grdK_tt, grdK_ff, grdK_tf, grdK_ft, grdK_undef, actK_p, actK_r, actK_a, actK_w, actK_call, actK_callV, heapK_app, allocK_app, writeK_app, ret1_ret, ret1_normal, ret0_ret, ret0_normal, ret2_ret2, thenK_app, retcv_ret, retcvK_app, optW_some, evs, Arg.ev, aP, aR, aA, aW, pMov, pBin, pUn, pConv, pPick, pFieldAddr, pNilCheck, pExtract, aBin, aUn, aInt, aNew, partL_f, upd, List.getElem?_cons_zero, List.getElem?_cons_succ, List.getD_cons_zero, List.getD_cons_succ, List.set_cons_zero, List.set_cons_succ, Nat.zero_add, Nat.add_zero, List.getElem?_toArray, List.take_zero, List.drop_zero, List.take_succ_cons, List.drop_succ_cons, if_true, if_false, decide_true, decide_false, Bool.false_eq_true, Bool.true_eq_false, Bool.not_true, Bool.not_false, not_true_eq_false, not_false_eq_true, ge_iff_le, gt_iff_lt, beq_self_eq_true, bne_self_eq_false, and_self, and_true, true_and, Option.isSome_some, Heap.get_alloc_same, Heap.alloc_getE, *] | with_reducible refine cndK_d (fun hc => ?_) (fun hc => ?_) | with_reducible refine grdK_d (fun hc => ?_) (fun hc => ?_) | with_reducible refine cndK_i (fun hc => ?_) (fun hc => ?_) | with_reducible refine grdK_i (fun hc => ?_) (fun hc => ?_))
    exact hq.h _ _ _ _ _ _ _ _ hl1
  case pos =>
    have hlt' : (j : Int) < 2 := by omega
    have hwj : IntKind.i64.wrap ((j : Int) + 1) = ((j + 1 : Nat) : Int) := by rw [wrapI (by omega) (by omega)]; rfl
    have hpj : ∃ a b : Int, [[Value.int .i64 i, .int .i64 k], [Value.int .i64 i', .int .i64 k']][j]? = some [.int .i64 a, .int .i64 b] := by
      match j, hlt with
      | 0, _ => exact ⟨i, k, rfl⟩
      | 1, _ => exact ⟨i', k', rfl⟩
    obtain ⟨a, b, hab⟩ := hpj
    obtain ⟨id, off, cells, own, e1, e2, e3, _⟩ := (hp.mono hl1).elem hab
    have go : ∀ h2, h1.le h2 → ∀ x14 x15 x16 x17 x18 x30, R [a0, a1, a2, a3, a4, a5, a6, a7, a8, a9, a10, a11, vy, vo, x14, x15, x16, x17, x18, a19, a20, a21, a22, a23, a24, a25, a26, vp, .int .i64 2, .int .i64 ((j + 1 : Nat) : Int), x30] h2 := fun h2 hl2 x14 x15 x16 x17 x18 x30 =>
      hR.h _ _ hlt ⟨hl1.trans hl2, _, _, _, _, _, _, rfl⟩
    replace go := Hid.mk go
    replace hab := Hid.mk hab
    replace hp := Hid.mk hp
    obtain ⟨q, hqq⟩ : ∃ x, h1.next = x := ⟨_, rfl⟩
    have st := pair_store hqq a b
    obtain ⟨h2, hh2⟩ : ∃ x, h1.alloc (.blk [.int .i64 a, .int .i64 b] true) = x := ⟨_, rfl⟩
    rw [hh2] at st
    have hl2 : h1.le h2 := by rw [← hh2]; exact (Heap.le.refl _).alloc _
    have gq : h2.get q = some (.blk [.int .i64 a, .int .i64 b] true) := by rw [← hh2, ← hqq]; exact Heap.get_alloc_same _ _
    have i0 : pIdxAddrA 2 1 [.pointer (some ⟨q, 0, none⟩), .int .i64 0] = some (.pointer (some ⟨q, 0, none⟩)) := idxA (n := 2) (a := 0) (by omega)
    have i1 : pIdxAddrA 2 1 [.pointer (some ⟨q, 0, none⟩), .int .i64 1] = some (.pointer (some ⟨q, 1, none⟩)) := idxA (n := 2) (a := 1) (by omega)
    have ev2 := (hy.mono hl1).mono hl2
    have iw2 := (ho.mono hl1).mono hl2
    replace hh2 := Hid.mk hh2
    repeat' (first | simp -implicitDefEqProofs only [W_skip, W_reg, W_seq, W_rcond, W_cond, W_block, W_loop, W_exit, W_ret, thenQ_normal, thenQ_exit, thenQ_ret, blockQ_normal, blockQ_ret, blockQ_here, regQ_app, rcQ_app, cndK_t, cndK_f, RegW_nil, RegW_none, RegW_some, contW_app, grdK_tt, grdK_ff, grdK_tf, grdK_ft, grdK_undef, actK_p, actK_r, actK_a, actK_w, actK_call, actK_callV, heapK_app, allocK_app, writeK_app, ret1_ret, ret1_normal, ret0_ret, ret0_normal, ret2_ret2, thenK_app, retcv_ret, retcvK_app, optW_some, evs, Arg.ev, aP, aR, aA, aW, pMov, pBin, pUn, pConv, pPick, pFieldAddr, pNilCheck, pExtract, aBin, aUn, aInt, aNew, partL_f, upd, List.getElem?_cons_zero, List.getElem?_cons_succ, List.getD_cons_zero, List.getD_cons_succ, List.set_cons_zero, List.set_cons_succ, Nat.zero_add, Nat.add_zero, List.getElem?_toArray, List.take_zero, List.drop_zero, List.take_succ_cons, List.drop_succ_cons, if_true, if_false, decide_true, decide_false, Bool.false_eq_true, Bool.true_eq_false, Bool.not_true, Bool.not_false, not_true_eq_false, not_false_eq_true, ge_iff_le, gt_iff_lt, beq_self_eq_true, bne_self_eq_false, and_self, and_true, true_and, Option.isSome_some, Heap.get_alloc_same, Heap.alloc_getE, *] | with_reducible refine cndK_d (fun hc => ?_) (fun hc => ?_) | with_reducible refine grdK_d (fun hc => ?_) (fun hc => ?_) | with_reducible refine cndK_i (fun hc => ?_) (fun hc => ?_) | with_reducible refine grdK_i (fun hc => ?_) (fun hc => ?_))
    refine Value_c ev2 iw2 (by omega) hol a _ fun h3 hl3 => ?_
    have g3 := hl3.get gq
    clear e1 e2 e3 hqq st gq hh2 hab
    repeat' (first | simp -implicitDefEqProofs only [W_skip, W_reg, W_seq, W_rcond, W_cond, W_block, W_loop, W_exit, W_ret, thenQ_normal, thenQ_exit, thenQ_ret, blockQ_normal, blockQ_ret, blockQ_here, regQ_app, rcQ_app, cndK_t, cndK_f, RegW_nil, RegW_none, RegW_some, contW_app, grdK_tt, grdK_ff, grdK_tf, grdK_ft, grdK_undef, actK_p, actK_r, actK_a, actK_w, actK_call, actK_callV, heapK_app, allocK_app, writeK_app, ret1_ret, ret1_normal, ret0_ret, ret0_normal, ret2_ret2, thenK_app, retcv_ret, retcvK_app, optW_some, evs, Arg.ev, aP, aR, aA, aW, pMov, pBin, pUn, pConv, pPick, pFieldAddr, pNilCheck, pExtract, aBin, aUn, aInt, aNew, partL_f, upd, List.getElem?_cons_zero, List.getElem?_cons_succ, List.getD_cons_zero, List.getD_cons_succ, List.set_cons_zero, List.set_cons_succ, Nat.zero_add, Nat.add_zero, List.getElem?_toArray, List.take_zero, List.drop_zero, List.take_succ_cons, List.drop_succ_cons, if_true, if_false, decide_true, decide_false, Bool.false_eq_true, Bool.true_eq_false, Bool.not_true, Bool.not_false, not_true_eq_false, not_false_eq_true, ge_iff_le, gt_iff_lt, beq_self_eq_true, bne_self_eq_false, and_self, and_true, true_and, Option.isSome_some, Heap.get_alloc_same, Heap.alloc_getE, pExtract, *] | with_reducible refine cndK_d (fun hc => ?_) (fun hc => ?_) | with_reducible refine grdK_d (fun hc => ?_) (fun hc => ?_) | with_reducible refine cndK_i (fun hc => ?_) (fun hc => ?_) | with_reducible refine grdK_i (fun hc => ?_) (fun hc => ?_))
    refine refValueS_c (ev2.mono hl3) (iw2.mono hl3) (by omega) (by omega) a _ fun h4 hl4 => ?_
    have g4 := hl4.get g3
    clear g3
    repeat' (first | simp -implicitDefEqProofs only [W_skip, W_reg, W_seq, W_rcond, W_cond, W_block, W_loop, W_exit, W_ret, thenQ_normal, thenQ_exit, thenQ_ret, blockQ_normal, blockQ_ret, blockQ_here, regQ_app, rcQ_app, cndK_t, cndK_f, RegW_nil, RegW_none, RegW_some, contW_app, grdK_tt, grdK_ff, grdK_tf, grdK_ft, grdK_undef, actK_p, actK_r, actK_a, actK_w, actK_call, actK_callV, heapK_app, allocK_app, writeK_app, ret1_ret, ret1_normal, ret0_ret, ret0_normal, ret2_ret2, thenK_app, retcv_ret, retcvK_app, optW_some, evs, Arg.ev, aP, aR, aA, aW, pMov, pBin, pUn, pConv, pPick, pFieldAddr, pNilCheck, pExtract, aBin, aUn, aInt, aNew, partL_f, upd, List.getElem?_cons_zero, List.getElem?_cons_succ, List.getD_cons_zero, List.getD_cons_succ, List.set_cons_zero, List.set_cons_succ, Nat.zero_add, Nat.add_zero, List.getElem?_toArray, List.take_zero, List.drop_zero, List.take_succ_cons, List.drop_succ_cons, if_true, if_false, decide_true, decide_false, Bool.false_eq_true, Bool.true_eq_false, Bool.not_true, Bool.not_false, not_true_eq_false, not_false_eq_true, ge_iff_le, gt_iff_lt, beq_self_eq_true, bne_self_eq_false, and_self, and_true, true_and, Option.isSome_some, Heap.get_alloc_same, Heap.alloc_getE, pExtract, pEqBt, *] | with_reducible refine cndK_d (fun hc => ?_) (fun hc => ?_) | with_reducible refine grdK_d (fun hc => ?_) (fun hc => ?_) | with_reducible refine cndK_i (fun hc => ?_) (fun hc => ?_) | with_reducible refine grdK_i (fun hc => ?_) (fun hc => ?_))
    refine Keeps_c ((ev2.mono hl3).mono hl4) (by omega) a b _ fun v5 h5 hv5 hl5 => ?_
    subst hv5
    have g5 := hl5.get g4
    clear g4
    refine ⟨fun _ => hl5.ext, ?_⟩
    repeat' (first | simp -implicitDefEqProofs only [W_skip, W_reg, W_seq, W_rcond, W_cond, W_block, W_loop, W_exit, W_ret, thenQ_normal, thenQ_exit, thenQ_ret, blockQ_normal, blockQ_ret, blockQ_here, regQ_app, rcQ_app, cndK_t, cndK_f, RegW_nil, RegW_none, RegW_some, contW_app, grdK_tt, grdK_ff, grdK_tf, grdK_ft, grdK_undef, actK_p, actK_r, actK_a, actK_w, actK_call, actK_callV, heapK_app, allocK_app, writeK_app, ret1_ret, ret1_normal, ret0_ret, ret0_normal, ret2_ret2, thenK_app, retcv_ret, retcvK_app, optW_some, evs, Arg.ev, aP, aR, aA, aW, pMov, pBin, pUn, pConv, pPick, pFieldAddr, pNilCheck, pExtract, aBin, aUn, aInt, aNew, partL_f, upd, List.getElem?_cons_zero, List.getElem?_cons_succ, List.getD_cons_zero, List.getD_cons_succ, List.set_cons_zero, List.set_cons_succ, Nat.zero_add, Nat.add_zero, List.getElem?_toArray, List.take_zero, List.drop_zero, List.take_succ_cons, List.drop_succ_cons, if_true, if_false, decide_true, decide_false, Bool.false_eq_true, Bool.true_eq_false, Bool.not_true, Bool.not_false, not_true_eq_false, not_false_eq_true, ge_iff_le, gt_iff_lt, beq_self_eq_true, bne_self_eq_false, and_self, and_true, true_and, Option.isSome_some, Heap.get_alloc_same, Heap.alloc_getE, pExtract, pEqBt, *] | with_reducible refine cndK_d (fun hc => ?_) (fun hc => ?_) | with_reducible refine grdK_d (fun hc => ?_) (fun hc => ?_) | with_reducible refine cndK_i (fun hc => ?_) (fun hc => ?_) | with_reducible refine grdK_i (fun hc => ?_) (fun hc => ?_))
    refine refKeeps_c (((ev2.mono hl3).mono hl4).mono hl5) (by omega) a b _ fun v6 h6 hv6 hl6 => ?_
    subst hv6
    repeat' (first | simp -implicitDefEqProofs only [W_skip, W_reg, W_seq, W_rcond, W_cond, W_block, W_loop, W_exit, W_ret, thenQ_normal, thenQ_exit, thenQ_ret, blockQ_normal, blockQ_ret, blockQ_here, regQ_app, rcQ_app, cndK_t, cndK_f, RegW_nil, RegW_none, RegW_some, contW_app, grdK_tt, grdK_ff, grdK_tf, grdK_ft, grdK_undef, actK_p, actK_r, actK_a, actK_w, actK_call, actK_callV, heapK_app, allocK_app, writeK_app, ret1_ret, ret1_normal, ret0_ret, ret0_normal, ret2_ret2, thenK_app, retcv_ret, retcvK_app, optW_some, evs, Arg.ev, aP, aR, aA, aW, pMov, pBin, pUn, pConv, pPick, pFieldAddr, pNilCheck, pExtract, aBin, aUn, aInt, aNew, partL_f, upd, List.getElem?_cons_zero, List.getElem?_cons_succ, List.getD_cons_zero, List.getD_cons_succ, List.set_cons_zero, List.set_cons_succ, Nat.zero_add, Nat.add_zero, List.getElem?_toArray, List.take_zero, List.drop_zero, List.take_succ_cons, List.drop_succ_cons, if_true, if_false, decide_true, decide_false, Bool.false_eq_true, Bool.true_eq_false, Bool.not_true, Bool.not_false, not_true_eq_false, not_false_eq_true, ge_iff_le, gt_iff_lt, beq_self_eq_true, bne_self_eq_false, and_self, and_true, true_and, Option.isSome_some, Heap.get_alloc_same, Heap.alloc_getE, pExtract, pEqBt, *] | with_reducible refine cndK_d (fun hc => ?_) (fun hc => ?_) | with_reducible refine grdK_d (fun hc => ?_) (fun hc => ?_) | with_reducible refine cndK_i (fun hc => ?_) (fun hc => ?_) | with_reducible refine grdK_i (fun hc => ?_) (fun hc => ?_))
    exact go.h _ ((((hl2.trans hl3).trans hl4).trans hl5).trans hl6) _ _ _ _ _ _
end Go.Eng.Ax

set_option linter.unusedSimpArgs false
set_option linter.unusedVariables false
namespace Go.Eng.Ax
open Go Go.Eng Go.Proofs

theorem sl_new (h : Heap) {s n : Nat} {cells : List Value} {xs : List (List Value)} (hx : ∀ x ∈ xs, x.length = s) (hn : n = xs.length) (hc : cells = xs.flatten) : SlV (h.alloc (.blk cells true)) s (.slice (some ⟨h.next, 0, none⟩) n s) xs := by
  subst hn; subst hc
  exact OwnS.sl (h0 := h) (.inr ⟨h.next, rfl, Nat.le_refl _, Heap.get_alloc_same _ _, hx⟩)
theorem sl_one {h : Heap} {s : Nat} {v : Value} {xs : List (List Value)} (hv : SlV h s v xs) : v.cells.toList = [v] ∧ v.oneCell' = true := by
  rcases hv with ⟨rfl, _⟩ | ⟨id, off, rfl, _⟩ <;> exact ⟨rfl, rfl⟩

set_option maxHeartbeats 4000000 in
theorem tells_mid {N : Nat} {a0 a1 a2 a3 a6 a7 a8 a9 a10 a11 a19 a20 a21 a22 x13 x14 x15 x16 x17 x18 x26 x27 x28 x29 x30 : Value} {vy vo vo2 vs : Value} {y : List Ev} {o o2 : List Int} {h : Heap} {i k : Int}
    (hy : Evs h vy y) (ho : Ints h vo o) (ho2 : Ints h vo2 o2) (hyl : y.length ≤ 12) (hol : o.length ≤ 12) (hol2 : o2.length ≤ 12) (hp : SlV h 1 vs [[vo], [vo2]]) (Q : AExit → List Value → Heap → Prop)
    (hq : ∀ h' x13 x14 x15 x16 x17 x18 x25 x26 x27 x28 x29 x30, h.le h' → Q (.exit 2) [a0, a1, a2, a3, .int .i64 i, .int .i64 k, a6, a7, a8, a9, a10, a11, vy, x13, x14, x15, x16, x17, x18, a19, a20, a21, a22, vs, .int .i64 2, x25, x26, x27, x28, x29, x30] h') :
    LoopW Try.prog N c3.vars c3_l26 [a0, a1, a2, a3, .int .i64 i, .int .i64 k, a6, a7, a8, a9, a10, a11, vy, x13, x14, x15, x16, x17, x18, a19, a20, a21, a22, vs, .int .i64 2, .int .i64 0, x26, x27, x28, x29, x30] h Q := by
  replace hq := Hid.mk hq
  refine LoopW.upto 2 (fun j e h1 => h.le h1 ∧ ∃ x13 x14 x15 x16 x17 x18 x26 x27 x28 x29 x30, e = [a0, a1, a2, a3, .int .i64 i, .int .i64 k, a6, a7, a8, a9, a10, a11, vy, x13, x14, x15, x16, x17, x18, a19, a20, a21, a22, vs, .int .i64 2, .int .i64 j, x26, x27, x28, x29, x30]) ?_ (Nat.zero_le _) ⟨Heap.le.refl _, _, _, _, _, _, _, _, _, _, _, _, rfl⟩
  clear x13 x14 x15 x16 x17 x18 x26 x27 x28 x29 x30
  rintro j _ h1 R hj ⟨hl1, x13, x14, x15, x16, x17, x18, x26, x27, x28, x29, x30, rfl⟩ hR
  delta c3_l26 c3_r12 c3_r13 c3_r14 c3_r23 c3_r24 c3_r25
  by_cases hlt : j < 2
  case neg =>
    have hlt' : ¬ (j : Int) < 2 := by omega
    repeat' (first | simp -implicitDefEqProofs only [W_skip, W_reg, W_seq, W_rcond, W_cond, W_block, W_loop, W_exit, W_ret, thenQ_normal, thenQ_exit, thenQ_ret, blockQ_normal, blockQ_ret, blockQ_here, regQ_app, rcQ_app, cndK_t, cndK_f, RegW_nil, RegW_none, RegW_some, contW_app, grdK_tt, grdK_ff, grdK_tf, grdK_ft, grdK_undef, actK_p, actK_r, actK_a, actK_w, actK_call, actK_callV, heapK_app, allocK_app, writeK_app, ret1_ret, ret1_normal, ret0_ret, ret0_normal, ret2_ret2, thenK_app, retcv_ret, retcvK_app, optW_some, evs, Arg.ev, aP, aR, aA, aW, pMov, pBin, pUn, pConv, pPick, pFieldAddr, pNilCheck, pExtract, aBin, aUn, aInt, aNew, partL_f, upd, List.getElem?_cons_zero, List.getElem?_cons_succ, List.getD_cons_zero, List.getD_cons_succ, List.set_cons_zero, List.set_cons_succ, Nat.zero_add, Nat.add_zero, List.getElem?_toArray, List.take_zero, List.drop_zero, List.take_succ_cons, List.drop_succ_cons, if_true, if_false, decide_true, decide_false, Bool.false_eq_true, Bool.true_eq_false, Bool.not_true, Bool.not_false, not_true_eq_false, not_false_eq_true, ge_iff_le, gt_iff_lt, beq_self_eq_true, bne_self_eq_false, and_self, and_true, true_and, Option.isSome_some, Heap.get_alloc_same, Heap.alloc_getE, *] | with_reducible refine cndK_d (fun hc => ?_) (fun hc => ?_) | with_reducible refine grdK_d (fun hc => ?_) (fun hc => ?_) | with_reducible refine cndK_i (fun hc => ?_) (fun hc => ?_) | with_reducible refine grdK_i (fun hc => ?_) (fun hc => ?_))
    exact hq.h _ _ _ _ _ _ _ _ _ _ _ _ _ hl1
  case pos =>
    have hlt' : (j : Int) < 2 := by omega
    have hwj : IntKind.i64.wrap ((j : Int) + 1) = ((j + 1 : Nat) : Int) := by rw [wrapI (by omega) (by omega)]; rfl
    have hpj : ∃ va a, [[vo], [vo2]][j]? = some [va] ∧ Ints h va a ∧ a.length ≤ 12 := by
      match j, hlt with
      | 0, _ => exact ⟨vo, o, rfl, ho, hol⟩
      | 1, _ => exact ⟨vo2, o2, rfl, ho2, hol2⟩
    obtain ⟨va, a, hab, hia, hal⟩ := hpj
    obtain ⟨id, off, cells, own, e1, e2, _, e4⟩ := (hp.mono hl1).elem hab
    replace e4 := e4 0 (by omega)
    have e5 : cells[off]? = some va := by simpa using e4
    clear e4
    have go : ∀ h2, h1.le h2 → ∀ x13 x14 x15 x16 x17 x18 x26 x27 x28 x29 x30, R [a0, a1, a2, a3, .int .i64 i, .int .i64 k, a6, a7, a8, a9, a10, a11, vy, x13, x14, x15, x16, x17, x18, a19, a20, a21, a22, vs, .int .i64 2, .int .i64 ((j + 1 : Nat) : Int), x26, x27, x28, x29, x30] h2 := fun h2 hl2 x13 x14 x15 x16 x17 x18 x26 x27 x28 x29 x30 =>
      hR.h _ _ hlt ⟨hl1.trans hl2, _, _, _, _, _, _, _, _, _, _, _, rfl⟩
    replace go := Hid.mk go
    replace hab := Hid.mk hab
    replace hp := Hid.mk hp
    replace ho := Hid.mk ho
    replace ho2 := Hid.mk ho2
    have ev1 := hy.mono hl1
    have iw1 := hia.mono hl1
    have sn := fun c d : Int => sl_new h1 (s := 2) (n := 2) (cells := [.int .i64 i, .int .i64 k, .int .i64 c, .int .i64 d]) (xs := [[.int .i64 i, .int .i64 k], [.int .i64 c, .int .i64 d]]) (by simp) rfl rfl
    obtain ⟨q, hqq⟩ : ∃ x, h1.next = x := ⟨_, rfl⟩
    rw [hqq] at sn
    replace sn := Hid.mk sn
    repeat' (first | simp -implicitDefEqProofs only [W_skip, W_reg, W_seq, W_rcond, W_cond, W_block, W_loop, W_exit, W_ret, thenQ_normal, thenQ_exit, thenQ_ret, blockQ_normal, blockQ_ret, blockQ_here, regQ_app, rcQ_app, cndK_t, cndK_f, RegW_nil, RegW_none, RegW_some, contW_app, grdK_tt, grdK_ff, grdK_tf, grdK_ft, grdK_undef, actK_p, actK_r, actK_a, actK_w, actK_call, actK_callV, heapK_app, allocK_app, writeK_app, ret1_ret, ret1_normal, ret0_ret, ret0_normal, ret2_ret2, thenK_app, retcv_ret, retcvK_app, optW_some, evs, Arg.ev, aP, aR, aA, aW, pMov, pBin, pUn, pConv, pPick, pFieldAddr, pNilCheck, pExtract, aBin, aUn, aInt, aNew, partL_f, upd, List.getElem?_cons_zero, List.getElem?_cons_succ, List.getD_cons_zero, List.getD_cons_succ, List.set_cons_zero, List.set_cons_succ, Nat.zero_add, Nat.add_zero, List.getElem?_toArray, List.take_zero, List.drop_zero, List.take_succ_cons, List.drop_succ_cons, if_true, if_false, decide_true, decide_false, Bool.false_eq_true, Bool.true_eq_false, Bool.not_true, Bool.not_false, not_true_eq_false, not_false_eq_true, ge_iff_le, gt_iff_lt, beq_self_eq_true, bne_self_eq_false, and_self, and_true, true_and, Option.isSome_some, Heap.get_alloc_same, Heap.alloc_getE, bslice_p, build_p, lenS_lit, *] | with_reducible refine cndK_d (fun hc => ?_) (fun hc => ?_) | with_reducible refine grdK_d (fun hc => ?_) (fun hc => ?_) | with_reducible refine cndK_i (fun hc => ?_) (fun hc => ?_) | with_reducible refine grdK_i (fun hc => ?_) (fun hc => ?_))
    refine pick_c' i 7 (by decide) _ _ ?_
    repeat' (first | simp -implicitDefEqProofs only [W_skip, W_reg, W_seq, W_rcond, W_cond, W_block, W_loop, W_exit, W_ret, thenQ_normal, thenQ_exit, thenQ_ret, blockQ_normal, blockQ_ret, blockQ_here, regQ_app, rcQ_app, cndK_t, cndK_f, RegW_nil, RegW_none, RegW_some, contW_app, grdK_tt, grdK_ff, grdK_tf, grdK_ft, grdK_undef, actK_p, actK_r, actK_a, actK_w, actK_call, actK_callV, heapK_app, allocK_app, writeK_app, ret1_ret, ret1_normal, ret0_ret, ret0_normal, ret2_ret2, thenK_app, retcv_ret, retcvK_app, optW_some, evs, Arg.ev, aP, aR, aA, aW, pMov, pBin, pUn, pConv, pPick, pFieldAddr, pNilCheck, pExtract, aBin, aUn, aInt, aNew, partL_f, upd, List.getElem?_cons_zero, List.getElem?_cons_succ, List.getD_cons_zero, List.getD_cons_succ, List.set_cons_zero, List.set_cons_succ, Nat.zero_add, Nat.add_zero, List.getElem?_toArray, List.take_zero, List.drop_zero, List.take_succ_cons, List.drop_succ_cons, if_true, if_false, decide_true, decide_false, Bool.false_eq_true, Bool.true_eq_false, Bool.not_true, Bool.not_false, not_true_eq_false, not_false_eq_true, ge_iff_le, gt_iff_lt, beq_self_eq_true, bne_self_eq_false, and_self, and_true, true_and, Option.isSome_some, Heap.get_alloc_same, Heap.alloc_getE, bslice_p, build_p, lenS_lit, *] | with_reducible refine cndK_d (fun hc => ?_) (fun hc => ?_) | with_reducible refine grdK_d (fun hc => ?_) (fun hc => ?_) | with_reducible refine cndK_i (fun hc => ?_) (fun hc => ?_) | with_reducible refine grdK_i (fun hc => ?_) (fun hc => ?_))
    refine pick_c' k 7 (by decide) _ _ ?_
    obtain ⟨h2, hh2⟩ : ∃ x, h1.alloc (.blk [.int .i64 i, .int .i64 k, .int .i64 (pick i 7), .int .i64 (pick k 7)] true) = x := ⟨_, rfl⟩
    have hl2 : h1.le h2 := by rw [← hh2]; exact (Heap.le.refl _).alloc _
    repeat' (first | simp -implicitDefEqProofs only [W_skip, W_reg, W_seq, W_rcond, W_cond, W_block, W_loop, W_exit, W_ret, thenQ_normal, thenQ_exit, thenQ_ret, blockQ_normal, blockQ_ret, blockQ_here, regQ_app, rcQ_app, cndK_t, cndK_f, RegW_nil, RegW_none, RegW_some, contW_app, grdK_tt, grdK_ff, grdK_tf, grdK_ft, grdK_undef, actK_p, actK_r, actK_a, actK_w, actK_call, actK_callV, heapK_app, allocK_app, writeK_app, ret1_ret, ret1_normal, ret0_ret, ret0_normal, ret2_ret2, thenK_app, retcv_ret, retcvK_app, optW_some, evs, Arg.ev, aP, aR, aA, aW, pMov, pBin, pUn, pConv, pPick, pFieldAddr, pNilCheck, pExtract, aBin, aUn, aInt, aNew, partL_f, upd, List.getElem?_cons_zero, List.getElem?_cons_succ, List.getD_cons_zero, List.getD_cons_succ, List.set_cons_zero, List.set_cons_succ, Nat.zero_add, Nat.add_zero, List.getElem?_toArray, List.take_zero, List.drop_zero, List.take_succ_cons, List.drop_succ_cons, if_true, if_false, decide_true, decide_false, Bool.false_eq_true, Bool.true_eq_false, Bool.not_true, Bool.not_false, not_true_eq_false, not_false_eq_true, ge_iff_le, gt_iff_lt, beq_self_eq_true, bne_self_eq_false, and_self, and_true, true_and, Option.isSome_some, Heap.get_alloc_same, Heap.alloc_getE, bslice_p, build_p, lenS_lit, *] | with_reducible refine cndK_d (fun hc => ?_) (fun hc => ?_) | with_reducible refine grdK_d (fun hc => ?_) (fun hc => ?_) | with_reducible refine cndK_i (fun hc => ?_) (fun hc => ?_) | with_reducible refine grdK_i (fun hc => ?_) (fun hc => ?_))
    have sp := sn.h (pick i 7) (pick k 7)
    rw [hh2] at sp
    replace hh2 := Hid.mk hh2
    refine tells_in (ev1.mono hl2) (iw1.mono hl2) hyl hal sp _ fun h3 x14 x15 x16 x17 x18 x29 x30 hl3 => ?_
    clear e1 e2 e5 hqq sp
    repeat' (first | simp -implicitDefEqProofs only [W_skip, W_reg, W_seq, W_rcond, W_cond, W_block, W_loop, W_exit, W_ret, thenQ_normal, thenQ_exit, thenQ_ret, blockQ_normal, blockQ_ret, blockQ_here, regQ_app, rcQ_app, cndK_t, cndK_f, RegW_nil, RegW_none, RegW_some, contW_app, grdK_tt, grdK_ff, grdK_tf, grdK_ft, grdK_undef, actK_p, actK_r, actK_a, actK_w, actK_call, actK_callV, heapK_app, allocK_app, writeK_app, ret1_ret, ret1_normal, ret0_ret, ret0_normal, ret2_ret2, thenK_app, retcv_ret, retcvK_app, optW_some, evs, Arg.ev, aP, aR, aA, aW, pMov, pBin, pUn, pConv, pPick, pFieldAddr, pNilCheck, pExtract, aBin, aUn, aInt, aNew, partL_f, upd, List.getElem?_cons_zero, List.getElem?_cons_succ, List.getD_cons_zero, List.getD_cons_succ, List.set_cons_zero, List.set_cons_succ, Nat.zero_add, Nat.add_zero, List.getElem?_toArray, List.take_zero, List.drop_zero, List.take_succ_cons, List.drop_succ_cons, if_true, if_false, decide_true, decide_false, Bool.false_eq_true, Bool.true_eq_false, Bool.not_true, Bool.not_false, not_true_eq_false, not_false_eq_true, ge_iff_le, gt_iff_lt, beq_self_eq_true, bne_self_eq_false, and_self, and_true, true_and, Option.isSome_some, Heap.get_alloc_same, Heap.alloc_getE, *] | with_reducible refine cndK_d (fun hc => ?_) (fun hc => ?_) | with_reducible refine grdK_d (fun hc => ?_) (fun hc => ?_) | with_reducible refine cndK_i (fun hc => ?_) (fun hc => ?_) | with_reducible refine grdK_i (fun hc => ?_) (fun hc => ?_))
    refine Holds_c ((ev1.mono hl2).mono hl3) ((iw1.mono hl2).mono hl3) (by omega) hal _ fun v4 h4 hv4 hl4 => ?_
    subst hv4
    repeat' (first | simp -implicitDefEqProofs only [W_skip, W_reg, W_seq, W_rcond, W_cond, W_block, W_loop, W_exit, W_ret, thenQ_normal, thenQ_exit, thenQ_ret, blockQ_normal, blockQ_ret, blockQ_here, regQ_app, rcQ_app, cndK_t, cndK_f, RegW_nil, RegW_none, RegW_some, contW_app, grdK_tt, grdK_ff, grdK_tf, grdK_ft, grdK_undef, actK_p, actK_r, actK_a, actK_w, actK_call, actK_callV, heapK_app, allocK_app, writeK_app, ret1_ret, ret1_normal, ret0_ret, ret0_normal, ret2_ret2, thenK_app, retcv_ret, retcvK_app, optW_some, evs, Arg.ev, aP, aR, aA, aW, pMov, pBin, pUn, pConv, pPick, pFieldAddr, pNilCheck, pExtract, aBin, aUn, aInt, aNew, partL_f, upd, List.getElem?_cons_zero, List.getElem?_cons_succ, List.getD_cons_zero, List.getD_cons_succ, List.set_cons_zero, List.set_cons_succ, Nat.zero_add, Nat.add_zero, List.getElem?_toArray, List.take_zero, List.drop_zero, List.take_succ_cons, List.drop_succ_cons, if_true, if_false, decide_true, decide_false, Bool.false_eq_true, Bool.true_eq_false, Bool.not_true, Bool.not_false, not_true_eq_false, not_false_eq_true, ge_iff_le, gt_iff_lt, beq_self_eq_true, bne_self_eq_false, and_self, and_true, true_and, Option.isSome_some, Heap.get_alloc_same, Heap.alloc_getE, *] | with_reducible refine cndK_d (fun hc => ?_) (fun hc => ?_) | with_reducible refine grdK_d (fun hc => ?_) (fun hc => ?_) | with_reducible refine cndK_i (fun hc => ?_) (fun hc => ?_) | with_reducible refine grdK_i (fun hc => ?_) (fun hc => ?_))
    refine refHolds_c (((ev1.mono hl2).mono hl3).mono hl4) (((iw1.mono hl2).mono hl3).mono hl4) (by omega) (by omega) _ fun v5 h5 hv5 hl5 => ?_
    subst hv5
    repeat' (first | simp -implicitDefEqProofs only [W_skip, W_reg, W_seq, W_rcond, W_cond, W_block, W_loop, W_exit, W_ret, thenQ_normal, thenQ_exit, thenQ_ret, blockQ_normal, blockQ_ret, blockQ_here, regQ_app, rcQ_app, cndK_t, cndK_f, RegW_nil, RegW_none, RegW_some, contW_app, grdK_tt, grdK_ff, grdK_tf, grdK_ft, grdK_undef, actK_p, actK_r, actK_a, actK_w, actK_call, actK_callV, heapK_app, allocK_app, writeK_app, ret1_ret, ret1_normal, ret0_ret, ret0_normal, ret2_ret2, thenK_app, retcv_ret, retcvK_app, optW_some, evs, Arg.ev, aP, aR, aA, aW, pMov, pBin, pUn, pConv, pPick, pFieldAddr, pNilCheck, pExtract, aBin, aUn, aInt, aNew, partL_f, upd, List.getElem?_cons_zero, List.getElem?_cons_succ, List.getD_cons_zero, List.getD_cons_succ, List.set_cons_zero, List.set_cons_succ, Nat.zero_add, Nat.add_zero, List.getElem?_toArray, List.take_zero, List.drop_zero, List.take_succ_cons, List.drop_succ_cons, if_true, if_false, decide_true, decide_false, Bool.false_eq_true, Bool.true_eq_false, Bool.not_true, Bool.not_false, not_true_eq_false, not_false_eq_true, ge_iff_le, gt_iff_lt, beq_self_eq_true, bne_self_eq_false, and_self, and_true, true_and, Option.isSome_some, Heap.get_alloc_same, Heap.alloc_getE, pEqBt, *] | with_reducible refine cndK_d (fun hc => ?_) (fun hc => ?_) | with_reducible refine grdK_d (fun hc => ?_) (fun hc => ?_) | with_reducible refine cndK_i (fun hc => ?_) (fun hc => ?_) | with_reducible refine grdK_i (fun hc => ?_) (fun hc => ?_))
    exact go.h _ (((hl2.trans hl3).trans hl4).trans hl5) _ _ _ _ _ _ _ _ _ _ _
end Go.Eng.Ax

set_option linter.unusedSimpArgs false
set_option linter.unusedVariables false
namespace Go.Eng.Ax
open Go Go.Eng Go.Proofs

set_option maxHeartbeats 4000000 in
theorem tells_out {N : Nat} {a0 a2 a6 a7 a8 a9 a10 a11 x12 x13 x14 x15 x16 x17 x18 x22 x23 x24 x25 x26 x27 x28 x29 x30 : Value} {vo vp v0 v1 v2 vs : Value} {o picks : List Int} {y0 y1 y2 : List Ev} {h : Heap} {i k : Int}
    (ho : Ints h vo o) (hol : o.length ≤ 12) (hpi : Ints h vp picks) (hp63 : (picks.length : Int) ≤ 9223372036854775807) (hpk : ∀ z ∈ picks, inI z)
    (h0 : Evs h v0 y0) (h1 : Evs h v1 y1) (h2 : Evs h v2 y2) (hy0 : y0.length ≤ 12) (hy1 : y1.length ≤ 12) (hy2 : y2.length ≤ 12) (hp : SlV h 1 vs [[v0], [v1], [v2]]) (Q : AExit → List Value → Heap → Prop)
    (hq : ∀ h' x12 x13 x14 x15 x16 x17 x18 x21 x22 x23 x24 x25 x26 x27 x28 x29 x30, h.le h' → Q (.exit 0) [a0, vo, a2, vp, .int .i64 i, .int .i64 k, a6, a7, a8, a9, a10, a11, x12, x13, x14, x15, x16, x17, x18, vs, .int .i64 3, x21, x22, x23, x24, x25, x26, x27, x28, x29, x30] h') :
    LoopW Try.prog N c3.vars c3_l30 [a0, vo, a2, vp, .int .i64 i, .int .i64 k, a6, a7, a8, a9, a10, a11, x12, x13, x14, x15, x16, x17, x18, vs, .int .i64 3, .int .i64 0, x22, x23, x24, x25, x26, x27, x28, x29, x30] h Q := by
  replace hq := Hid.mk hq
  refine LoopW.upto 3 (fun j e hh => h.le hh ∧ ∃ x12 x13 x14 x15 x16 x17 x18 x22 x23 x24 x25 x26 x27 x28 x29 x30, e = [a0, vo, a2, vp, .int .i64 i, .int .i64 k, a6, a7, a8, a9, a10, a11, x12, x13, x14, x15, x16, x17, x18, vs, .int .i64 3, .int .i64 j, x22, x23, x24, x25, x26, x27, x28, x29, x30]) ?_ (Nat.zero_le _) ⟨Heap.le.refl _, _, _, _, _, _, _, _, _, _, _, _, _, _, _, _, _, rfl⟩
  clear x12 x13 x14 x15 x16 x17 x18 x22 x23 x24 x25 x26 x27 x28 x29 x30
  rintro j _ g1 R hj ⟨hl1, x12, x13, x14, x15, x16, x17, x18, x22, x23, x24, x25, x26, x27, x28, x29, x30, rfl⟩ hR
  delta c3_l30 c3_r9 c3_r10 c3_r11 c3_r27 c3_r28 c3_r29
  by_cases hlt : j < 3
  case neg =>
    have hlt' : ¬ (j : Int) < 3 := by omega
    repeat' (first | simp -implicitDefEqProofs only [W_skip, W_reg, W_seq, W_rcond, W_cond, W_block, W_loop, W_exit, W_ret, thenQ_normal, thenQ_exit, thenQ_ret, blockQ_normal, blockQ_ret, blockQ_here, regQ_app, rcQ_app, cndK_t, cndK_f, RegW_nil, RegW_none, RegW_some, contW_app, grdK_tt, grdK_ff, grdK_tf, grdK_ft, grdK_undef, actK_p, actK_r, actK_a, actK_w, actK_call, actK_callV, heapK_app, allocK_app, writeK_app, ret1_ret, ret1_normal, ret0_ret, ret0_normal, ret2_ret2, thenK_app, retcv_ret, retcvK_app, optW_some, evs, Arg.ev, aP, aR, aA, aW, pMov, pBin, pUn, pConv, pPick, pFieldAddr, pNilCheck, pExtract, aBin, aUn, aInt, aNew, partL_f, upd, List.getElem?_cons_zero, List.getElem?_cons_succ, List.getD_cons_zero, List.getD_cons_succ, List.set_cons_zero, List.set_cons_succ, Nat.zero_add, Nat.add_zero, List.getElem?_toArray, List.take_zero, List.drop_zero, List.take_succ_cons, List.drop_succ_cons, if_true, if_false, decide_true, decide_false, Bool.false_eq_true, Bool.true_eq_false, Bool.not_true, Bool.not_false, not_true_eq_false, not_false_eq_true, ge_iff_le, gt_iff_lt, beq_self_eq_true, bne_self_eq_false, and_self, and_true, true_and, Option.isSome_some, Heap.get_alloc_same, Heap.alloc_getE, *] | with_reducible refine cndK_d (fun hc => ?_) (fun hc => ?_) | with_reducible refine grdK_d (fun hc => ?_) (fun hc => ?_) | with_reducible refine cndK_i (fun hc => ?_) (fun hc => ?_) | with_reducible refine grdK_i (fun hc => ?_) (fun hc => ?_))
    exact hq.h _ _ _ _ _ _ _ _ _ _ _ _ _ _ _ _ _ _ hl1
  case pos =>
    have hlt' : (j : Int) < 3 := by omega
    have hwj : IntKind.i64.wrap ((j : Int) + 1) = ((j + 1 : Nat) : Int) := by rw [wrapI (by omega) (by omega)]; rfl
    have hpj : ∃ va y, [[v0], [v1], [v2]][j]? = some [va] ∧ Evs h va y ∧ y.length ≤ 12 := by
      match j, hlt with
      | 0, _ => exact ⟨v0, y0, rfl, h0, hy0⟩
      | 1, _ => exact ⟨v1, y1, rfl, h1, hy1⟩
      | 2, _ => exact ⟨v2, y2, rfl, h2, hy2⟩
    obtain ⟨va, y, hab, hia, hyl⟩ := hpj
    obtain ⟨id, off, cells, own, e1, e2, _, e4⟩ := (hp.mono hl1).elem hab
    replace e4 := e4 0 (by omega)
    have e5 : cells[off]? = some va := by simpa using e4
    clear e4
    have go : ∀ h2, g1.le h2 → ∀ x12 x13 x14 x15 x16 x17 x18 x22 x23 x24 x25 x26 x27 x28 x29 x30, R [a0, vo, a2, vp, .int .i64 i, .int .i64 k, a6, a7, a8, a9, a10, a11, x12, x13, x14, x15, x16, x17, x18, vs, .int .i64 3, .int .i64 ((j + 1 : Nat) : Int), x22, x23, x24, x25, x26, x27, x28, x29, x30] h2 := fun h2 hl2 x12 x13 x14 x15 x16 x17 x18 x22 x23 x24 x25 x26 x27 x28 x29 x30 =>
      hR.h _ _ hlt ⟨hl1.trans hl2, _, _, _, _, _, _, _, _, _, _, _, _, _, _, _, _, rfl⟩
    replace go := Hid.mk go
    replace hab := Hid.mk hab
    replace hp := Hid.mk hp
    replace h0 := Hid.mk h0
    replace h1 := Hid.mk h1
    replace h2 := Hid.mk h2
    have hpk' := Hid.mk hpk
    clear hpk
    have ev1 := Evs.mono hl1 hia
    repeat' (first | simp -implicitDefEqProofs only [W_skip, W_reg, W_seq, W_rcond, W_cond, W_block, W_loop, W_exit, W_ret, thenQ_normal, thenQ_exit, thenQ_ret, blockQ_normal, blockQ_ret, blockQ_here, regQ_app, rcQ_app, cndK_t, cndK_f, RegW_nil, RegW_none, RegW_some, contW_app, grdK_tt, grdK_ff, grdK_tf, grdK_ft, grdK_undef, actK_p, actK_r, actK_a, actK_w, actK_call, actK_callV, heapK_app, allocK_app, writeK_app, ret1_ret, ret1_normal, ret0_ret, ret0_normal, ret2_ret2, thenK_app, retcv_ret, retcvK_app, optW_some, evs, Arg.ev, aP, aR, aA, aW, pMov, pBin, pUn, pConv, pPick, pFieldAddr, pNilCheck, pExtract, aBin, aUn, aInt, aNew, partL_f, upd, List.getElem?_cons_zero, List.getElem?_cons_succ, List.getD_cons_zero, List.getD_cons_succ, List.set_cons_zero, List.set_cons_succ, Nat.zero_add, Nat.add_zero, List.getElem?_toArray, List.take_zero, List.drop_zero, List.take_succ_cons, List.drop_succ_cons, if_true, if_false, decide_true, decide_false, Bool.false_eq_true, Bool.true_eq_false, Bool.not_true, Bool.not_false, not_true_eq_false, not_false_eq_true, ge_iff_le, gt_iff_lt, beq_self_eq_true, bne_self_eq_false, and_self, and_true, true_and, Option.isSome_some, Heap.get_alloc_same, Heap.alloc_getE, *] | with_reducible refine cndK_d (fun hc => ?_) (fun hc => ?_) | with_reducible refine grdK_d (fun hc => ?_) (fun hc => ?_) | with_reducible refine cndK_i (fun hc => ?_) (fun hc => ?_) | with_reducible refine grdK_i (fun hc => ?_) (fun hc => ?_))
    refine Order_c ev1 (hpi.mono hl1) hyl hp63 hpk'.h _ fun w g2 ow hl2 => ?_
    have hol2 := orderK_len y picks
    have ow2 : Ints g2 w (orderK y picks) := OwnS.ints ow
    have iw2 := (ho.mono hl1).mono hl2
    have ev2 := ev1.mono hl2
    have bs := bslice_s2 (sl_one iw2) (sl_one ow2)
    have sn := sl_new g2 (s := 1) (n := 2) (cells := [vo, w]) (xs := [[vo], [w]]) (by simp) rfl rfl
    obtain ⟨q, hqq⟩ : ∃ x, g2.next = x := ⟨_, rfl⟩
    obtain ⟨g3, hg3⟩ : ∃ x, g2.alloc (.blk [vo, w] true) = x := ⟨_, rfl⟩
    rw [hqq, hg3] at sn
    have hl3 : g2.le g3 := by rw [← hg3]; exact (Heap.le.refl _).alloc _
    clear e1 e2 e5
    replace ow := Hid.mk ow
    repeat' (first | simp -implicitDefEqProofs only [W_skip, W_reg, W_seq, W_rcond, W_cond, W_block, W_loop, W_exit, W_ret, thenQ_normal, thenQ_exit, thenQ_ret, blockQ_normal, blockQ_ret, blockQ_here, regQ_app, rcQ_app, cndK_t, cndK_f, RegW_nil, RegW_none, RegW_some, contW_app, grdK_tt, grdK_ff, grdK_tf, grdK_ft, grdK_undef, actK_p, actK_r, actK_a, actK_w, actK_call, actK_callV, heapK_app, allocK_app, writeK_app, ret1_ret, ret1_normal, ret0_ret, ret0_normal, ret2_ret2, thenK_app, retcv_ret, retcvK_app, optW_some, evs, Arg.ev, aP, aR, aA, aW, pMov, pBin, pUn, pConv, pPick, pFieldAddr, pNilCheck, pExtract, aBin, aUn, aInt, aNew, partL_f, upd, List.getElem?_cons_zero, List.getElem?_cons_succ, List.getD_cons_zero, List.getD_cons_succ, List.set_cons_zero, List.set_cons_succ, Nat.zero_add, Nat.add_zero, List.getElem?_toArray, List.take_zero, List.drop_zero, List.take_succ_cons, List.drop_succ_cons, if_true, if_false, decide_true, decide_false, Bool.false_eq_true, Bool.true_eq_false, Bool.not_true, Bool.not_false, not_true_eq_false, not_false_eq_true, ge_iff_le, gt_iff_lt, beq_self_eq_true, bne_self_eq_false, and_self, and_true, true_and, Option.isSome_some, Heap.get_alloc_same, Heap.alloc_getE, lenS_lit, *] | with_reducible refine cndK_d (fun hc => ?_) (fun hc => ?_) | with_reducible refine grdK_d (fun hc => ?_) (fun hc => ?_) | with_reducible refine cndK_i (fun hc => ?_) (fun hc => ?_) | with_reducible refine grdK_i (fun hc => ?_) (fun hc => ?_))
    refine tells_mid (ev2.mono hl3) (iw2.mono hl3) (ow2.mono hl3) hyl hol (by omega) sn _ fun g4 x13 x14 x15 x16 x17 x18 x25 x26 x27 x28 x29 x30 hl4 => ?_
    have ev4 := (ev2.mono hl3).mono hl4
    clear hqq hg3 sn bs
    repeat' (first | simp -implicitDefEqProofs only [W_skip, W_reg, W_seq, W_rcond, W_cond, W_block, W_loop, W_exit, W_ret, thenQ_normal, thenQ_exit, thenQ_ret, blockQ_normal, blockQ_ret, blockQ_here, regQ_app, rcQ_app, cndK_t, cndK_f, RegW_nil, RegW_none, RegW_some, contW_app, grdK_tt, grdK_ff, grdK_tf, grdK_ft, grdK_undef, actK_p, actK_r, actK_a, actK_w, actK_call, actK_callV, heapK_app, allocK_app, writeK_app, ret1_ret, ret1_normal, ret0_ret, ret0_normal, ret2_ret2, thenK_app, retcv_ret, retcvK_app, optW_some, evs, Arg.ev, aP, aR, aA, aW, pMov, pBin, pUn, pConv, pPick, pFieldAddr, pNilCheck, pExtract, aBin, aUn, aInt, aNew, partL_f, upd, List.getElem?_cons_zero, List.getElem?_cons_succ, List.getD_cons_zero, List.getD_cons_succ, List.set_cons_zero, List.set_cons_succ, Nat.zero_add, Nat.add_zero, List.getElem?_toArray, List.take_zero, List.drop_zero, List.take_succ_cons, List.drop_succ_cons, if_true, if_false, decide_true, decide_false, Bool.false_eq_true, Bool.true_eq_false, Bool.not_true, Bool.not_false, not_true_eq_false, not_false_eq_true, ge_iff_le, gt_iff_lt, beq_self_eq_true, bne_self_eq_false, and_self, and_true, true_and, Option.isSome_some, Heap.get_alloc_same, Heap.alloc_getE, *] | with_reducible refine cndK_d (fun hc => ?_) (fun hc => ?_) | with_reducible refine grdK_d (fun hc => ?_) (fun hc => ?_) | with_reducible refine cndK_i (fun hc => ?_) (fun hc => ?_) | with_reducible refine grdK_i (fun hc => ?_) (fun hc => ?_))
    refine right_c ev4 (by omega) _ fun v5 g5 hv5 hl5 => ?_
    subst hv5
    repeat' (first | simp -implicitDefEqProofs only [W_skip, W_reg, W_seq, W_rcond, W_cond, W_block, W_loop, W_exit, W_ret, thenQ_normal, thenQ_exit, thenQ_ret, blockQ_normal, blockQ_ret, blockQ_here, regQ_app, rcQ_app, cndK_t, cndK_f, RegW_nil, RegW_none, RegW_some, contW_app, grdK_tt, grdK_ff, grdK_tf, grdK_ft, grdK_undef, actK_p, actK_r, actK_a, actK_w, actK_call, actK_callV, heapK_app, allocK_app, writeK_app, ret1_ret, ret1_normal, ret0_ret, ret0_normal, ret2_ret2, thenK_app, retcv_ret, retcvK_app, optW_some, evs, Arg.ev, aP, aR, aA, aW, pMov, pBin, pUn, pConv, pPick, pFieldAddr, pNilCheck, pExtract, aBin, aUn, aInt, aNew, partL_f, upd, List.getElem?_cons_zero, List.getElem?_cons_succ, List.getD_cons_zero, List.getD_cons_succ, List.set_cons_zero, List.set_cons_succ, Nat.zero_add, Nat.add_zero, List.getElem?_toArray, List.take_zero, List.drop_zero, List.take_succ_cons, List.drop_succ_cons, if_true, if_false, decide_true, decide_false, Bool.false_eq_true, Bool.true_eq_false, Bool.not_true, Bool.not_false, not_true_eq_false, not_false_eq_true, ge_iff_le, gt_iff_lt, beq_self_eq_true, bne_self_eq_false, and_self, and_true, true_and, Option.isSome_some, Heap.get_alloc_same, Heap.alloc_getE, *] | with_reducible refine cndK_d (fun hc => ?_) (fun hc => ?_) | with_reducible refine grdK_d (fun hc => ?_) (fun hc => ?_) | with_reducible refine cndK_i (fun hc => ?_) (fun hc => ?_) | with_reducible refine grdK_i (fun hc => ?_) (fun hc => ?_))
    refine refRight_c (ev4.mono hl5) _ fun v6 g6 hv6 hl6 => ?_
    subst hv6
    have ev6 := (ev4.mono hl5).mono hl6
    by_cases h7 : y.length < 7
    · have h7' : (y.length : Int) < 7 := by omega
      repeat' (first | simp -implicitDefEqProofs only [W_skip, W_reg, W_seq, W_rcond, W_cond, W_block, W_loop, W_exit, W_ret, thenQ_normal, thenQ_exit, thenQ_ret, blockQ_normal, blockQ_ret, blockQ_here, regQ_app, rcQ_app, cndK_t, cndK_f, RegW_nil, RegW_none, RegW_some, contW_app, grdK_tt, grdK_ff, grdK_tf, grdK_ft, grdK_undef, actK_p, actK_r, actK_a, actK_w, actK_call, actK_callV, heapK_app, allocK_app, writeK_app, ret1_ret, ret1_normal, ret0_ret, ret0_normal, ret2_ret2, thenK_app, retcv_ret, retcvK_app, optW_some, evs, Arg.ev, aP, aR, aA, aW, pMov, pBin, pUn, pConv, pPick, pFieldAddr, pNilCheck, pExtract, aBin, aUn, aInt, aNew, partL_f, upd, List.getElem?_cons_zero, List.getElem?_cons_succ, List.getD_cons_zero, List.getD_cons_succ, List.set_cons_zero, List.set_cons_succ, Nat.zero_add, Nat.add_zero, List.getElem?_toArray, List.take_zero, List.drop_zero, List.take_succ_cons, List.drop_succ_cons, if_true, if_false, decide_true, decide_false, Bool.false_eq_true, Bool.true_eq_false, Bool.not_true, Bool.not_false, not_true_eq_false, not_false_eq_true, ge_iff_le, gt_iff_lt, beq_self_eq_true, bne_self_eq_false, and_self, and_true, true_and, Option.isSome_some, Heap.get_alloc_same, Heap.alloc_getE, pEqBt, ev6.len, *] | with_reducible refine cndK_d (fun hc => ?_) (fun hc => ?_) | with_reducible refine grdK_d (fun hc => ?_) (fun hc => ?_) | with_reducible refine cndK_i (fun hc => ?_) (fun hc => ?_) | with_reducible refine grdK_i (fun hc => ?_) (fun hc => ?_))
      refine Allowed_c ev6 (by omega) _ fun b7 g7 hb7 hl7 => ?_
      repeat' (first | simp -implicitDefEqProofs only [W_skip, W_reg, W_seq, W_rcond, W_cond, W_block, W_loop, W_exit, W_ret, thenQ_normal, thenQ_exit, thenQ_ret, blockQ_normal, blockQ_ret, blockQ_here, regQ_app, rcQ_app, cndK_t, cndK_f, RegW_nil, RegW_none, RegW_some, contW_app, grdK_tt, grdK_ff, grdK_tf, grdK_ft, grdK_undef, actK_p, actK_r, actK_a, actK_w, actK_call, actK_callV, heapK_app, allocK_app, writeK_app, ret1_ret, ret1_normal, ret0_ret, ret0_normal, ret2_ret2, thenK_app, retcv_ret, retcvK_app, optW_some, evs, Arg.ev, aP, aR, aA, aW, pMov, pBin, pUn, pConv, pPick, pFieldAddr, pNilCheck, pExtract, aBin, aUn, aInt, aNew, partL_f, upd, List.getElem?_cons_zero, List.getElem?_cons_succ, List.getD_cons_zero, List.getD_cons_succ, List.set_cons_zero, List.set_cons_succ, Nat.zero_add, Nat.add_zero, List.getElem?_toArray, List.take_zero, List.drop_zero, List.take_succ_cons, List.drop_succ_cons, if_true, if_false, decide_true, decide_false, Bool.false_eq_true, Bool.true_eq_false, Bool.not_true, Bool.not_false, not_true_eq_false, not_false_eq_true, ge_iff_le, gt_iff_lt, beq_self_eq_true, bne_self_eq_false, and_self, and_true, true_and, Option.isSome_some, Heap.get_alloc_same, Heap.alloc_getE, pEqBt, ev6.len, *] | with_reducible refine cndK_d (fun hc => ?_) (fun hc => ?_) | with_reducible refine grdK_d (fun hc => ?_) (fun hc => ?_) | with_reducible refine cndK_i (fun hc => ?_) (fun hc => ?_) | with_reducible refine grdK_i (fun hc => ?_) (fun hc => ?_))
      refine refAllowed_c (ev6.mono hl7) _ fun b8 g8 hb8 hl8 => ?_
      have hbb : b7 = b8 := by rw [Bool.eq_iff_iff, hb7, hb8]
      subst hbb
      clear hb7 hb8
      repeat' (first | simp -implicitDefEqProofs only [W_skip, W_reg, W_seq, W_rcond, W_cond, W_block, W_loop, W_exit, W_ret, thenQ_normal, thenQ_exit, thenQ_ret, blockQ_normal, blockQ_ret, blockQ_here, regQ_app, rcQ_app, cndK_t, cndK_f, RegW_nil, RegW_none, RegW_some, contW_app, grdK_tt, grdK_ff, grdK_tf, grdK_ft, grdK_undef, actK_p, actK_r, actK_a, actK_w, actK_call, actK_callV, heapK_app, allocK_app, writeK_app, ret1_ret, ret1_normal, ret0_ret, ret0_normal, ret2_ret2, thenK_app, retcv_ret, retcvK_app, optW_some, evs, Arg.ev, aP, aR, aA, aW, pMov, pBin, pUn, pConv, pPick, pFieldAddr, pNilCheck, pExtract, aBin, aUn, aInt, aNew, partL_f, upd, List.getElem?_cons_zero, List.getElem?_cons_succ, List.getD_cons_zero, List.getD_cons_succ, List.set_cons_zero, List.set_cons_succ, Nat.zero_add, Nat.add_zero, List.getElem?_toArray, List.take_zero, List.drop_zero, List.take_succ_cons, List.drop_succ_cons, if_true, if_false, decide_true, decide_false, Bool.false_eq_true, Bool.true_eq_false, Bool.not_true, Bool.not_false, not_true_eq_false, not_false_eq_true, ge_iff_le, gt_iff_lt, beq_self_eq_true, bne_self_eq_false, and_self, and_true, true_and, Option.isSome_some, Heap.get_alloc_same, Heap.alloc_getE, pEqBt, *] | with_reducible refine cndK_d (fun hc => ?_) (fun hc => ?_) | with_reducible refine grdK_d (fun hc => ?_) (fun hc => ?_) | with_reducible refine cndK_i (fun hc => ?_) (fun hc => ?_) | with_reducible refine grdK_i (fun hc => ?_) (fun hc => ?_))
      exact go.h _ (((((((hl2.trans hl3).trans hl4).trans hl5).trans hl6).trans hl7).trans hl8)) _ _ _ _ _ _ _ _ _ _ _ _ _ _ _ _
    · have h7' : ¬ (y.length : Int) < 7 := by omega
      repeat' (first | simp -implicitDefEqProofs only [W_skip, W_reg, W_seq, W_rcond, W_cond, W_block, W_loop, W_exit, W_ret, thenQ_normal, thenQ_exit, thenQ_ret, blockQ_normal, blockQ_ret, blockQ_here, regQ_app, rcQ_app, cndK_t, cndK_f, RegW_nil, RegW_none, RegW_some, contW_app, grdK_tt, grdK_ff, grdK_tf, grdK_ft, grdK_undef, actK_p, actK_r, actK_a, actK_w, actK_call, actK_callV, heapK_app, allocK_app, writeK_app, ret1_ret, ret1_normal, ret0_ret, ret0_normal, ret2_ret2, thenK_app, retcv_ret, retcvK_app, optW_some, evs, Arg.ev, aP, aR, aA, aW, pMov, pBin, pUn, pConv, pPick, pFieldAddr, pNilCheck, pExtract, aBin, aUn, aInt, aNew, partL_f, upd, List.getElem?_cons_zero, List.getElem?_cons_succ, List.getD_cons_zero, List.getD_cons_succ, List.set_cons_zero, List.set_cons_succ, Nat.zero_add, Nat.add_zero, List.getElem?_toArray, List.take_zero, List.drop_zero, List.take_succ_cons, List.drop_succ_cons, if_true, if_false, decide_true, decide_false, Bool.false_eq_true, Bool.true_eq_false, Bool.not_true, Bool.not_false, not_true_eq_false, not_false_eq_true, ge_iff_le, gt_iff_lt, beq_self_eq_true, bne_self_eq_false, and_self, and_true, true_and, Option.isSome_some, Heap.get_alloc_same, Heap.alloc_getE, pEqBt, ev6.len, *] | with_reducible refine cndK_d (fun hc => ?_) (fun hc => ?_) | with_reducible refine grdK_d (fun hc => ?_) (fun hc => ?_) | with_reducible refine cndK_i (fun hc => ?_) (fun hc => ?_) | with_reducible refine grdK_i (fun hc => ?_) (fun hc => ?_))
      exact go.h _ (((((hl2.trans hl3).trans hl4).trans hl5).trans hl6)) _ _ _ _ _ _ _ _ _ _ _ _ _ _ _ _
end Go.Eng.Ax

set_option linter.unusedSimpArgs false
set_option linter.unusedVariables false
namespace Go.Eng.Ax
open Go Go.Eng Go.Proofs

noncomputable def c3_rest : CCode := .seq (.reg c3_r6 [(10, 0)]) (.seq (.reg c3_r7 [(11, 0)]) (.seq (.seq (.reg c3_r8 [(19, 2), (20, 1), (21, 0)]) (.block 0 (.loop c3_l30))) (.seq (.reg c3_r31 [(8, 0)]) .ret)))
theorem c3_body : c3.body = .seq (.reg c3_r0 [(7, 1), (8, 0)]) (.seq (.reg c3_r1 [(9, 0)]) (.seq (.rcond c3_r2 [] 0
    (.reg c3_r3 [(0, 0)])
    .skip) (.seq (.rcond c3_r4 [] 0
    (.reg c3_r5 [(1, 0)])
    .skip) c3_rest))) := rfl

set_option maxHeartbeats 4000000 in
theorem tells_rest {N : Nat} {vl vo vr vp : Value} {l : List Ev} {o : List Int} {raw : List R4} {picks : List Int} {i k : Int} {x : Ev} {h : Heap} {xp : Nat} {a11 a12 a13 a14 a15 a16 a17 a18 a19 a20 a21 a22 a23 a24 a25 a26 a27 a28 a29 a30 a8 a10 : Value} (hvl : Evs h vl l) (hvo : Ints h vo o) (hvr : Raws h vr raw) (hvp : Ints h vp picks)
    (hl : l.length ≤ 9) (ho : o.length ≤ 9) (hr63 : (raw.length : Int) ≤ 9223372036854775807) (hp63 : (picks.length : Int) ≤ 9223372036854775807)
    (hok : ∀ r ∈ raw, r.ok) (hpk : ∀ z ∈ picks, inI z) (gx : h.get xp = some (.blk x.cells true)) (Q : AExit → List Value → Heap → Prop)
    (hq : ∀ h' a10 a11 a12 a13 a14 a15 a16 a17 a18 a19 a20 a21 a22 a23 a24 a25 a26 a27 a28 a29 a30, Q .ret [vl, vo, vr, vp, .int .i64 i, .int .i64 k, x.val, .pointer (some ⟨xp, 0, none⟩), .bool true, .bool true, a10, a11, a12, a13, a14, a15, a16, a17, a18, a19, a20, a21, a22, a23, a24, a25, a26, a27, a28, a29, a30] h') :
    W Try.prog N c3.vars c3_rest Q [vl, vo, vr, vp, .int .i64 i, .int .i64 k, x.val, .pointer (some ⟨xp, 0, none⟩), a8, .bool true, a10, a11, a12, a13, a14, a15, a16, a17, a18, a19, a20, a21, a22, a23, a24, a25, a26, a27, a28, a29, a30] h := by
  replace hq := Hid.mk hq
  delta c3_rest c3_r6 c3_r7 c3_r8 c3_r31
  have xpart : partL true 0 4 x.cells = some x.val := x.part
  replace hpk := Hid.mk hpk
  repeat' (first | simp -implicitDefEqProofs only [W_skip, W_reg, W_seq, W_rcond, W_cond, W_block, W_loop, W_exit, W_ret, thenQ_normal, thenQ_exit, thenQ_ret, blockQ_normal, blockQ_ret, blockQ_here, regQ_app, rcQ_app, cndK_t, cndK_f, RegW_nil, RegW_none, RegW_some, contW_app, grdK_tt, grdK_ff, grdK_tf, grdK_ft, grdK_undef, actK_p, actK_r, actK_a, actK_w, actK_call, actK_callV, heapK_app, allocK_app, writeK_app, ret1_ret, ret1_normal, ret0_ret, ret0_normal, ret2_ret2, thenK_app, retcv_ret, retcvK_app, optW_some, evs, Arg.ev, aP, aR, aA, aW, pMov, pBin, pUn, pConv, pPick, pFieldAddr, pNilCheck, pExtract, aBin, aUn, aInt, aNew, partL_f, upd, List.getElem?_cons_zero, List.getElem?_cons_succ, List.getD_cons_zero, List.getD_cons_succ, List.set_cons_zero, List.set_cons_succ, Nat.zero_add, Nat.add_zero, List.getElem?_toArray, List.take_zero, List.drop_zero, List.take_succ_cons, List.drop_succ_cons, if_true, if_false, decide_true, decide_false, Bool.false_eq_true, Bool.true_eq_false, Bool.not_true, Bool.not_false, not_true_eq_false, not_false_eq_true, ge_iff_le, gt_iff_lt, beq_self_eq_true, bne_self_eq_false, and_self, and_true, true_and, Option.isSome_some, Heap.get_alloc_same, Heap.alloc_getE, *] | with_reducible refine cndK_d (fun hc => ?_) (fun hc => ?_) | with_reducible refine grdK_d (fun hc => ?_) (fun hc => ?_) | with_reducible refine cndK_i (fun hc => ?_) (fun hc => ?_) | with_reducible refine grdK_i (fun hc => ?_) (fun hc => ?_))
  refine Fit_c hvr hr63 hok _ fun vg h1 og hl1 => ?_
  have hfl := fit_len raw
  obtain ⟨g, hg⟩ : ∃ g, fit raw = g := ⟨_, rfl⟩
  rw [hg] at og hfl
  clear hg
  have eg : Evs h1 vg g := OwnS.evs og
  obtain ⟨v2, h2, a2, o2, l2, _⟩ := (OwnS.nil h1 h1 4).append (Heap.le.refl h1) eg (by omega) (b := 32) (by simp; omega) (by simp; omega)
  obtain ⟨v3, h3, a3, o3, l3, _⟩ := o2.append1 l2 (x := x.cells) rfl (by omega) (b := 32) (by simp; omega) (by simp; omega)
  have ex : h1.ext h2 := l2.ext
  have bx := bslice_ev x
  have gx1 := l2.get (hl1.get gx)
  have eb : Evs h3 v3 (g ++ [x]) := by
    have : OwnS h1 h3 4 v3 ((g ++ [x]).map Ev.cells) := by simpa using o3
    exact OwnS.evs this
  have bs := bslice_s3 (sl_one hvl) (sl_one eg) (sl_one eb)
  replace og := Hid.mk og
  replace o2 := Hid.mk o2
  replace o3 := Hid.mk o3
  have sn := sl_new h3 (s := 1) (n := 3) (cells := [vl, vg, v3]) (xs := [[vl], [vg], [v3]]) (by simp) rfl rfl
  obtain ⟨q, hqq⟩ : ∃ x, h3.next = x := ⟨_, rfl⟩
  obtain ⟨h4, hh4⟩ : ∃ x, h3.alloc (.blk [vl, vg, v3] true) = x := ⟨_, rfl⟩
  rw [hqq, hh4] at sn
  have hl4 : h3.le h4 := by rw [← hh4]; exact (Heap.le.refl _).alloc _
  repeat' (first | simp -implicitDefEqProofs only [W_skip, W_reg, W_seq, W_rcond, W_cond, W_block, W_loop, W_exit, W_ret, thenQ_normal, thenQ_exit, thenQ_ret, blockQ_normal, blockQ_ret, blockQ_here, regQ_app, rcQ_app, cndK_t, cndK_f, RegW_nil, RegW_none, RegW_some, contW_app, grdK_tt, grdK_ff, grdK_tf, grdK_ft, grdK_undef, actK_p, actK_r, actK_a, actK_w, actK_call, actK_callV, heapK_app, allocK_app, writeK_app, ret1_ret, ret1_normal, ret0_ret, ret0_normal, ret2_ret2, thenK_app, retcv_ret, retcvK_app, optW_some, evs, Arg.ev, aP, aR, aA, aW, pMov, pBin, pUn, pConv, pPick, pFieldAddr, pNilCheck, pExtract, aBin, aUn, aInt, aNew, partL_f, upd, List.getElem?_cons_zero, List.getElem?_cons_succ, List.getD_cons_zero, List.getD_cons_succ, List.set_cons_zero, List.set_cons_succ, Nat.zero_add, Nat.add_zero, List.getElem?_toArray, List.take_zero, List.drop_zero, List.take_succ_cons, List.drop_succ_cons, if_true, if_false, decide_true, decide_false, Bool.false_eq_true, Bool.true_eq_false, Bool.not_true, Bool.not_false, not_true_eq_false, not_false_eq_true, ge_iff_le, gt_iff_lt, beq_self_eq_true, bne_self_eq_false, and_self, and_true, true_and, Option.isSome_some, Heap.get_alloc_same, Heap.alloc_getE, lenS_lit, actK_wT, writeKT_app, *] | with_reducible refine cndK_d (fun hc => ?_) (fun hc => ?_) | with_reducible refine grdK_d (fun hc => ?_) (fun hc => ?_) | with_reducible refine cndK_i (fun hc => ?_) (fun hc => ?_) | with_reducible refine grdK_i (fun hc => ?_) (fun hc => ?_))
  have hl14 := l3.trans hl4
  refine tells_out (((hvo.mono hl1).mono hl14)) (by omega) ((hvp.mono hl1).mono hl14) hp63 hpk.h ((hvl.mono hl1).mono hl14) (eg.mono hl14) (eb.mono hl4) (by omega) (by omega) (by simp; omega) sn _ fun h5 x12 x13 x14 x15 x16 x17 x18 x21 x22 x23 x24 x25 x26 x27 x28 x29 x30 hl5 => ?_
  repeat' (first | simp -implicitDefEqProofs only [W_skip, W_reg, W_seq, W_rcond, W_cond, W_block, W_loop, W_exit, W_ret, thenQ_normal, thenQ_exit, thenQ_ret, blockQ_normal, blockQ_ret, blockQ_here, regQ_app, rcQ_app, cndK_t, cndK_f, RegW_nil, RegW_none, RegW_some, contW_app, grdK_tt, grdK_ff, grdK_tf, grdK_ft, grdK_undef, actK_p, actK_r, actK_a, actK_w, actK_call, actK_callV, heapK_app, allocK_app, writeK_app, ret1_ret, ret1_normal, ret0_ret, ret0_normal, ret2_ret2, thenK_app, retcv_ret, retcvK_app, optW_some, evs, Arg.ev, aP, aR, aA, aW, pMov, pBin, pUn, pConv, pPick, pFieldAddr, pNilCheck, pExtract, aBin, aUn, aInt, aNew, partL_f, upd, List.getElem?_cons_zero, List.getElem?_cons_succ, List.getD_cons_zero, List.getD_cons_succ, List.set_cons_zero, List.set_cons_succ, Nat.zero_add, Nat.add_zero, List.getElem?_toArray, List.take_zero, List.drop_zero, List.take_succ_cons, List.drop_succ_cons, if_true, if_false, decide_true, decide_false, Bool.false_eq_true, Bool.true_eq_false, Bool.not_true, Bool.not_false, not_true_eq_false, not_false_eq_true, ge_iff_le, gt_iff_lt, beq_self_eq_true, bne_self_eq_false, and_self, and_true, true_and, Option.isSome_some, Heap.get_alloc_same, Heap.alloc_getE, *] | with_reducible refine cndK_d (fun hc => ?_) (fun hc => ?_) | with_reducible refine grdK_d (fun hc => ?_) (fun hc => ?_) | with_reducible refine cndK_i (fun hc => ?_) (fun hc => ?_) | with_reducible refine grdK_i (fun hc => ?_) (fun hc => ?_))
  exact hq.h _ _ _ _ _ _ _ _ _ _ _ _ _ _ _ _ _ _ _ _ _ _
end Go.Eng.Ax

set_option linter.unusedSimpArgs false
set_option linter.unusedVariables false
namespace Go.Eng.Ax
open Go Go.Eng Go.Proofs

set_option maxHeartbeats 4000000 in
theorem AxiomTells_c {vl vo vr vp : Value} {l0 : List Ev} {o0 : List Int} {raw : List R4} {picks : List Int} {i k : Int} {x : Ev} {h : Heap} (hvl : Evs h vl l0) (hvo : Ints h vo o0) (hvr : Raws h vr raw) (hvp : Ints h vp picks)
    (hr63 : (raw.length : Int) ≤ 9223372036854775807) (hp63 : (picks.length : Int) ≤ 9223372036854775807)
    (hok : ∀ r ∈ raw, r.ok) (hpk : ∀ z ∈ picks, inI z) :
    CallW Try.prog 3 [vl, vo, vr, vp, .int .i64 i, .int .i64 k, x.val] h fun r _ => r = .bool true := by
  obtain ⟨Q, hQ⟩ : ∃ Q : Value → Heap → Prop, Q = fun r _ => r = .bool true := ⟨_, rfl⟩
  rw [← hQ]
  have hq : ∀ h', Q (.bool true) h' := fun h' => by rw [hQ]
  clear hQ
  replace hq := Hid.mk hq
  refine call_of1 (k := 8) ok3 rfl rfl rfl fun N => ?_
  rw [show env0 c3 [vl, vo, vr, vp, .int .i64 i, .int .i64 k, x.val] = [vl, vo, vr, vp, .int .i64 i, .int .i64 k, x.val, undef, undef, undef, undef, undef, undef, undef, undef, undef, undef, undef, undef, undef, undef, undef, undef, undef, undef, undef, undef, undef, undef, undef, undef] from rfl, c3_body]
  delta c3_r0 c3_r1 c3_r2 c3_r3 c3_r4 c3_r5
  obtain ⟨xp, hxp⟩ : ∃ x, h.next = x := ⟨_, rfl⟩
  obtain ⟨h0, hh0⟩ : ∃ y, h.alloc (.blk x.cells true) = y := ⟨_, rfl⟩
  have hl0 : h.le h0 := by rw [← hh0]; exact (Heap.le.refl h).alloc _
  have gx : h0.get xp = some (.blk x.cells true) := by rw [← hh0, ← hxp]; exact Heap.get_alloc_same _ _
  have bx : aBox [x.val] = some (x.cells, fun id => .pointer (some ⟨id, 0, none⟩)) := x.box
  repeat' (first | simp -implicitDefEqProofs only [W_skip, W_reg, W_seq, W_rcond, W_cond, W_block, W_loop, W_exit, W_ret, thenQ_normal, thenQ_exit, thenQ_ret, blockQ_normal, blockQ_ret, blockQ_here, regQ_app, rcQ_app, cndK_t, cndK_f, RegW_nil, RegW_none, RegW_some, contW_app, grdK_tt, grdK_ff, grdK_tf, grdK_ft, grdK_undef, actK_p, actK_r, actK_a, actK_w, actK_call, actK_callV, heapK_app, allocK_app, writeK_app, ret1_ret, ret1_normal, ret0_ret, ret0_normal, ret2_ret2, thenK_app, retcv_ret, retcvK_app, optW_some, evs, Arg.ev, aP, aR, aA, aW, pMov, pBin, pUn, pConv, pPick, pFieldAddr, pNilCheck, pExtract, aBin, aUn, aInt, aNew, partL_f, upd, List.getElem?_cons_zero, List.getElem?_cons_succ, List.getD_cons_zero, List.getD_cons_succ, List.set_cons_zero, List.set_cons_succ, Nat.zero_add, Nat.add_zero, List.getElem?_toArray, List.take_zero, List.drop_zero, List.take_succ_cons, List.drop_succ_cons, if_true, if_false, decide_true, decide_false, Bool.false_eq_true, Bool.true_eq_false, Bool.not_true, Bool.not_false, not_true_eq_false, not_false_eq_true, ge_iff_le, gt_iff_lt, beq_self_eq_true, bne_self_eq_false, and_self, and_true, true_and, Option.isSome_some, Heap.get_alloc_same, Heap.alloc_getE, *] | with_reducible refine cndK_d (fun hc => ?_) (fun hc => ?_) | with_reducible refine grdK_d (fun hc => ?_) (fun hc => ?_) | with_reducible refine cndK_i (fun hc => ?_) (fun hc => ?_) | with_reducible refine grdK_i (fun hc => ?_) (fun hc => ?_))
  refine awake_c h0 _ fun h1 hl1 => ?_
  have gx1 := hl1.get gx
  have hl01 := hl0.trans hl1
  clear hh0 hxp bx gx hl0 hl1
  obtain ⟨vl', hcl, evl⟩ : ∃ vl' : Value, (9 < l0.length → pSliceS 4 false true [vl, .int .i64 9] = some vl') ∧ Evs h1 (if 9 < l0.length then vl' else vl) (l0.take 9) := by
    by_cases h9 : 9 < l0.length
    · obtain ⟨w, e, hw⟩ := SlV.partHi (hvl.mono hl01) (b := 9) (by simp; omega)
      refine ⟨w, fun _ => e, ?_⟩
      rw [if_pos h9]
      have : (l0.map Ev.cells).take 9 = (l0.take 9).map Ev.cells := by rw [List.map_take]
      rw [this] at hw
      exact hw
    · refine ⟨undef, fun h => absurd h h9, ?_⟩
      rw [if_neg h9, List.take_of_length_le (by omega)]
      exact hvl.mono hl01
  obtain ⟨vo', hco, evo⟩ : ∃ vo' : Value, (9 < o0.length → pSliceS 1 false true [vo, .int .i64 9] = some vo') ∧ Ints h1 (if 9 < o0.length then vo' else vo) (o0.take 9) := by
    by_cases h9 : 9 < o0.length
    · obtain ⟨w, e, hw⟩ := SlV.partHi (hvo.mono hl01) (b := 9) (by simp; omega)
      refine ⟨w, fun _ => e, ?_⟩
      rw [if_pos h9]
      have : (o0.map fun z => [Value.int .i64 z]).take 9 = (o0.take 9).map fun z => [Value.int .i64 z] := by rw [List.map_take]
      rw [this] at hw
      exact hw
    · refine ⟨undef, fun h => absurd h h9, ?_⟩
      rw [if_neg h9, List.take_of_length_le (by omega)]
      exact hvo.mono hl01
  have len1 := Evs.len hvl
  have len2 := Ints.len hvo
  have hl9 : (l0.take 9).length ≤ 9 := by simp; omega
  have ho9 : (o0.take 9).length ≤ 9 := by simp; omega
  by_cases h9 : 9 < l0.length <;> by_cases h9' : 9 < o0.length
  all_goals
    simp only [h9, h9', if_true, if_false, true_imp_iff, false_imp_iff] at evl evo hcl hco
    have evl' := Hid.mk evl
    have evo' := Hid.mk evo
    clear evl evo
  · have c1 : (9 : Int) < l0.length := by omega
    have c2 : (9 : Int) < o0.length := by omega
    repeat' (first | simp -implicitDefEqProofs only [W_skip, W_reg, W_seq, W_rcond, W_cond, W_block, W_loop, W_exit, W_ret, thenQ_normal, thenQ_exit, thenQ_ret, blockQ_normal, blockQ_ret, blockQ_here, regQ_app, rcQ_app, cndK_t, cndK_f, RegW_nil, RegW_none, RegW_some, contW_app, grdK_tt, grdK_ff, grdK_tf, grdK_ft, grdK_undef, actK_p, actK_r, actK_a, actK_w, actK_call, actK_callV, heapK_app, allocK_app, writeK_app, ret1_ret, ret1_normal, ret0_ret, ret0_normal, ret2_ret2, thenK_app, retcv_ret, retcvK_app, optW_some, evs, Arg.ev, aP, aR, aA, aW, pMov, pBin, pUn, pConv, pPick, pFieldAddr, pNilCheck, pExtract, aBin, aUn, aInt, aNew, partL_f, upd, List.getElem?_cons_zero, List.getElem?_cons_succ, List.getD_cons_zero, List.getD_cons_succ, List.set_cons_zero, List.set_cons_succ, Nat.zero_add, Nat.add_zero, List.getElem?_toArray, List.take_zero, List.drop_zero, List.take_succ_cons, List.drop_succ_cons, if_true, if_false, decide_true, decide_false, Bool.false_eq_true, Bool.true_eq_false, Bool.not_true, Bool.not_false, not_true_eq_false, not_false_eq_true, ge_iff_le, gt_iff_lt, beq_self_eq_true, bne_self_eq_false, and_self, and_true, true_and, Option.isSome_some, Heap.get_alloc_same, Heap.alloc_getE, *] | with_reducible refine cndK_d (fun hc => ?_) (fun hc => ?_) | with_reducible refine grdK_d (fun hc => ?_) (fun hc => ?_) | with_reducible refine cndK_i (fun hc => ?_) (fun hc => ?_) | with_reducible refine grdK_i (fun hc => ?_) (fun hc => ?_))
    refine tells_rest evl'.h evo'.h (hvr.mono hl01) (hvp.mono hl01) hl9 ho9 hr63 hp63 hok hpk gx1 _ fun h2 _ _ _ _ _ _ _ _ _ _ _ _ _ _ _ _ _ _ _ _ _ => ?_
    repeat' (first | simp -implicitDefEqProofs only [W_skip, W_reg, W_seq, W_rcond, W_cond, W_block, W_loop, W_exit, W_ret, thenQ_normal, thenQ_exit, thenQ_ret, blockQ_normal, blockQ_ret, blockQ_here, regQ_app, rcQ_app, cndK_t, cndK_f, RegW_nil, RegW_none, RegW_some, contW_app, grdK_tt, grdK_ff, grdK_tf, grdK_ft, grdK_undef, actK_p, actK_r, actK_a, actK_w, actK_call, actK_callV, heapK_app, allocK_app, writeK_app, ret1_ret, ret1_normal, ret0_ret, ret0_normal, ret2_ret2, thenK_app, retcv_ret, retcvK_app, optW_some, evs, Arg.ev, aP, aR, aA, aW, pMov, pBin, pUn, pConv, pPick, pFieldAddr, pNilCheck, pExtract, aBin, aUn, aInt, aNew, partL_f, upd, List.getElem?_cons_zero, List.getElem?_cons_succ, List.getD_cons_zero, List.getD_cons_succ, List.set_cons_zero, List.set_cons_succ, Nat.zero_add, Nat.add_zero, List.getElem?_toArray, List.take_zero, List.drop_zero, List.take_succ_cons, List.drop_succ_cons, if_true, if_false, decide_true, decide_false, Bool.false_eq_true, Bool.true_eq_false, Bool.not_true, Bool.not_false, not_true_eq_false, not_false_eq_true, ge_iff_le, gt_iff_lt, beq_self_eq_true, bne_self_eq_false, and_self, and_true, true_and, Option.isSome_some, Heap.get_alloc_same, Heap.alloc_getE, *] | with_reducible refine cndK_d (fun hc => ?_) (fun hc => ?_) | with_reducible refine grdK_d (fun hc => ?_) (fun hc => ?_) | with_reducible refine cndK_i (fun hc => ?_) (fun hc => ?_) | with_reducible refine grdK_i (fun hc => ?_) (fun hc => ?_))
    exact hq.h _
  · have c1 : (9 : Int) < l0.length := by omega
    have c2 : ¬ (9 : Int) < o0.length := by omega
    repeat' (first | simp -implicitDefEqProofs only [W_skip, W_reg, W_seq, W_rcond, W_cond, W_block, W_loop, W_exit, W_ret, thenQ_normal, thenQ_exit, thenQ_ret, blockQ_normal, blockQ_ret, blockQ_here, regQ_app, rcQ_app, cndK_t, cndK_f, RegW_nil, RegW_none, RegW_some, contW_app, grdK_tt, grdK_ff, grdK_tf, grdK_ft, grdK_undef, actK_p, actK_r, actK_a, actK_w, actK_call, actK_callV, heapK_app, allocK_app, writeK_app, ret1_ret, ret1_normal, ret0_ret, ret0_normal, ret2_ret2, thenK_app, retcv_ret, retcvK_app, optW_some, evs, Arg.ev, aP, aR, aA, aW, pMov, pBin, pUn, pConv, pPick, pFieldAddr, pNilCheck, pExtract, aBin, aUn, aInt, aNew, partL_f, upd, List.getElem?_cons_zero, List.getElem?_cons_succ, List.getD_cons_zero, List.getD_cons_succ, List.set_cons_zero, List.set_cons_succ, Nat.zero_add, Nat.add_zero, List.getElem?_toArray, List.take_zero, List.drop_zero, List.take_succ_cons, List.drop_succ_cons, if_true, if_false, decide_true, decide_false, Bool.false_eq_true, Bool.true_eq_false, Bool.not_true, Bool.not_false, not_true_eq_false, not_false_eq_true, ge_iff_le, gt_iff_lt, beq_self_eq_true, bne_self_eq_false, and_self, and_true, true_and, Option.isSome_some, Heap.get_alloc_same, Heap.alloc_getE, *] | with_reducible refine cndK_d (fun hc => ?_) (fun hc => ?_) | with_reducible refine grdK_d (fun hc => ?_) (fun hc => ?_) | with_reducible refine cndK_i (fun hc => ?_) (fun hc => ?_) | with_reducible refine grdK_i (fun hc => ?_) (fun hc => ?_))
    refine tells_rest evl'.h evo'.h (hvr.mono hl01) (hvp.mono hl01) hl9 ho9 hr63 hp63 hok hpk gx1 _ fun h2 _ _ _ _ _ _ _ _ _ _ _ _ _ _ _ _ _ _ _ _ _ => ?_
    repeat' (first | simp -implicitDefEqProofs only [W_skip, W_reg, W_seq, W_rcond, W_cond, W_block, W_loop, W_exit, W_ret, thenQ_normal, thenQ_exit, thenQ_ret, blockQ_normal, blockQ_ret, blockQ_here, regQ_app, rcQ_app, cndK_t, cndK_f, RegW_nil, RegW_none, RegW_some, contW_app, grdK_tt, grdK_ff, grdK_tf, grdK_ft, grdK_undef, actK_p, actK_r, actK_a, actK_w, actK_call, actK_callV, heapK_app, allocK_app, writeK_app, ret1_ret, ret1_normal, ret0_ret, ret0_normal, ret2_ret2, thenK_app, retcv_ret, retcvK_app, optW_some, evs, Arg.ev, aP, aR, aA, aW, pMov, pBin, pUn, pConv, pPick, pFieldAddr, pNilCheck, pExtract, aBin, aUn, aInt, aNew, partL_f, upd, List.getElem?_cons_zero, List.getElem?_cons_succ, List.getD_cons_zero, List.getD_cons_succ, List.set_cons_zero, List.set_cons_succ, Nat.zero_add, Nat.add_zero, List.getElem?_toArray, List.take_zero, List.drop_zero, List.take_succ_cons, List.drop_succ_cons, if_true, if_false, decide_true, decide_false, Bool.false_eq_true, Bool.true_eq_false, Bool.not_true, Bool.not_false, not_true_eq_false, not_false_eq_true, ge_iff_le, gt_iff_lt, beq_self_eq_true, bne_self_eq_false, and_self, and_true, true_and, Option.isSome_some, Heap.get_alloc_same, Heap.alloc_getE, *] | with_reducible refine cndK_d (fun hc => ?_) (fun hc => ?_) | with_reducible refine grdK_d (fun hc => ?_) (fun hc => ?_) | with_reducible refine cndK_i (fun hc => ?_) (fun hc => ?_) | with_reducible refine grdK_i (fun hc => ?_) (fun hc => ?_))
    exact hq.h _
  · have c1 : ¬ (9 : Int) < l0.length := by omega
    have c2 : (9 : Int) < o0.length := by omega
    repeat' (first | simp -implicitDefEqProofs only [W_skip, W_reg, W_seq, W_rcond, W_cond, W_block, W_loop, W_exit, W_ret, thenQ_normal, thenQ_exit, thenQ_ret, blockQ_normal, blockQ_ret, blockQ_here, regQ_app, rcQ_app, cndK_t, cndK_f, RegW_nil, RegW_none, RegW_some, contW_app, grdK_tt, grdK_ff, grdK_tf, grdK_ft, grdK_undef, actK_p, actK_r, actK_a, actK_w, actK_call, actK_callV, heapK_app, allocK_app, writeK_app, ret1_ret, ret1_normal, ret0_ret, ret0_normal, ret2_ret2, thenK_app, retcv_ret, retcvK_app, optW_some, evs, Arg.ev, aP, aR, aA, aW, pMov, pBin, pUn, pConv, pPick, pFieldAddr, pNilCheck, pExtract, aBin, aUn, aInt, aNew, partL_f, upd, List.getElem?_cons_zero, List.getElem?_cons_succ, List.getD_cons_zero, List.getD_cons_succ, List.set_cons_zero, List.set_cons_succ, Nat.zero_add, Nat.add_zero, List.getElem?_toArray, List.take_zero, List.drop_zero, List.take_succ_cons, List.drop_succ_cons, if_true, if_false, decide_true, decide_false, Bool.false_eq_true, Bool.true_eq_false, Bool.not_true, Bool.not_false, not_true_eq_false, not_false_eq_true, ge_iff_le, gt_iff_lt, beq_self_eq_true, bne_self_eq_false, and_self, and_true, true_and, Option.isSome_some, Heap.get_alloc_same, Heap.alloc_getE, *] | with_reducible refine cndK_d (fun hc => ?_) (fun hc => ?_) | with_reducible refine grdK_d (fun hc => ?_) (fun hc => ?_) | with_reducible refine cndK_i (fun hc => ?_) (fun hc => ?_) | with_reducible refine grdK_i (fun hc => ?_) (fun hc => ?_))
    refine tells_rest evl'.h evo'.h (hvr.mono hl01) (hvp.mono hl01) hl9 ho9 hr63 hp63 hok hpk gx1 _ fun h2 _ _ _ _ _ _ _ _ _ _ _ _ _ _ _ _ _ _ _ _ _ => ?_
    repeat' (first | simp -implicitDefEqProofs only [W_skip, W_reg, W_seq, W_rcond, W_cond, W_block, W_loop, W_exit, W_ret, thenQ_normal, thenQ_exit, thenQ_ret, blockQ_normal, blockQ_ret, blockQ_here, regQ_app, rcQ_app, cndK_t, cndK_f, RegW_nil, RegW_none, RegW_some, contW_app, grdK_tt, grdK_ff, grdK_tf, grdK_ft, grdK_undef, actK_p, actK_r, actK_a, actK_w, actK_call, actK_callV, heapK_app, allocK_app, writeK_app, ret1_ret, ret1_normal, ret0_ret, ret0_normal, ret2_ret2, thenK_app, retcv_ret, retcvK_app, optW_some, evs, Arg.ev, aP, aR, aA, aW, pMov, pBin, pUn, pConv, pPick, pFieldAddr, pNilCheck, pExtract, aBin, aUn, aInt, aNew, partL_f, upd, List.getElem?_cons_zero, List.getElem?_cons_succ, List.getD_cons_zero, List.getD_cons_succ, List.set_cons_zero, List.set_cons_succ, Nat.zero_add, Nat.add_zero, List.getElem?_toArray, List.take_zero, List.drop_zero, List.take_succ_cons, List.drop_succ_cons, if_true, if_false, decide_true, decide_false, Bool.false_eq_true, Bool.true_eq_false, Bool.not_true, Bool.not_false, not_true_eq_false, not_false_eq_true, ge_iff_le, gt_iff_lt, beq_self_eq_true, bne_self_eq_false, and_self, and_true, true_and, Option.isSome_some, Heap.get_alloc_same, Heap.alloc_getE, *] | with_reducible refine cndK_d (fun hc => ?_) (fun hc => ?_) | with_reducible refine grdK_d (fun hc => ?_) (fun hc => ?_) | with_reducible refine cndK_i (fun hc => ?_) (fun hc => ?_) | with_reducible refine grdK_i (fun hc => ?_) (fun hc => ?_))
    exact hq.h _
  · have c1 : ¬ (9 : Int) < l0.length := by omega
    have c2 : ¬ (9 : Int) < o0.length := by omega
    repeat' (first | simp -implicitDefEqProofs only [W_skip, W_reg, W_seq, W_rcond, W_cond, W_block, W_loop, W_exit, W_ret, thenQ_normal, thenQ_exit, thenQ_ret, blockQ_normal, blockQ_ret, blockQ_here, regQ_app, rcQ_app, cndK_t, cndK_f, RegW_nil, RegW_none, RegW_some, contW_app, grdK_tt, grdK_ff, grdK_tf, grdK_ft, grdK_undef, actK_p, actK_r, actK_a, actK_w, actK_call, actK_callV, heapK_app, allocK_app, writeK_app, ret1_ret, ret1_normal, ret0_ret, ret0_normal, ret2_ret2, thenK_app, retcv_ret, retcvK_app, optW_some, evs, Arg.ev, aP, aR, aA, aW, pMov, pBin, pUn, pConv, pPick, pFieldAddr, pNilCheck, pExtract, aBin, aUn, aInt, aNew, partL_f, upd, List.getElem?_cons_zero, List.getElem?_cons_succ, List.getD_cons_zero, List.getD_cons_succ, List.set_cons_zero, List.set_cons_succ, Nat.zero_add, Nat.add_zero, List.getElem?_toArray, List.take_zero, List.drop_zero, List.take_succ_cons, List.drop_succ_cons, if_true, if_false, decide_true, decide_false, Bool.false_eq_true, Bool.true_eq_false, Bool.not_true, Bool.not_false, not_true_eq_false, not_false_eq_true, ge_iff_le, gt_iff_lt, beq_self_eq_true, bne_self_eq_false, and_self, and_true, true_and, Option.isSome_some, Heap.get_alloc_same, Heap.alloc_getE, *] | with_reducible refine cndK_d (fun hc => ?_) (fun hc => ?_) | with_reducible refine grdK_d (fun hc => ?_) (fun hc => ?_) | with_reducible refine cndK_i (fun hc => ?_) (fun hc => ?_) | with_reducible refine grdK_i (fun hc => ?_) (fun hc => ?_))
    refine tells_rest evl'.h evo'.h (hvr.mono hl01) (hvp.mono hl01) hl9 ho9 hr63 hp63 hok hpk gx1 _ fun h2 _ _ _ _ _ _ _ _ _ _ _ _ _ _ _ _ _ _ _ _ _ => ?_
    repeat' (first | simp -implicitDefEqProofs only [W_skip, W_reg, W_seq, W_rcond, W_cond, W_block, W_loop, W_exit, W_ret, thenQ_normal, thenQ_exit, thenQ_ret, blockQ_normal, blockQ_ret, blockQ_here, regQ_app, rcQ_app, cndK_t, cndK_f, RegW_nil, RegW_none, RegW_some, contW_app, grdK_tt, grdK_ff, grdK_tf, grdK_ft, grdK_undef, actK_p, actK_r, actK_a, actK_w, actK_call, actK_callV, heapK_app, allocK_app, writeK_app, ret1_ret, ret1_normal, ret0_ret, ret0_normal, ret2_ret2, thenK_app, retcv_ret, retcvK_app, optW_some, evs, Arg.ev, aP, aR, aA, aW, pMov, pBin, pUn, pConv, pPick, pFieldAddr, pNilCheck, pExtract, aBin, aUn, aInt, aNew, partL_f, upd, List.getElem?_cons_zero, List.getElem?_cons_succ, List.getD_cons_zero, List.getD_cons_succ, List.set_cons_zero, List.set_cons_succ, Nat.zero_add, Nat.add_zero, List.getElem?_toArray, List.take_zero, List.drop_zero, List.take_succ_cons, List.drop_succ_cons, if_true, if_false, decide_true, decide_false, Bool.false_eq_true, Bool.true_eq_false, Bool.not_true, Bool.not_false, not_true_eq_false, not_false_eq_true, ge_iff_le, gt_iff_lt, beq_self_eq_true, bne_self_eq_false, and_self, and_true, true_and, Option.isSome_some, Heap.get_alloc_same, Heap.alloc_getE, *] | with_reducible refine cndK_d (fun hc => ?_) (fun hc => ?_) | with_reducible refine grdK_d (fun hc => ?_) (fun hc => ?_) | with_reducible refine cndK_i (fun hc => ?_) (fun hc => ?_) | with_reducible refine grdK_i (fun hc => ?_) (fun hc => ?_))
    exact hq.h _
end Go.Eng.Ax

set_option linter.unusedSimpArgs false
set_option linter.unusedVariables false
namespace Go.Eng.Ax
open Go Go.Eng Go.Proofs

theorem evs_of {slots : List Slot} {i n : Nat} {isNil : Bool} {s : Slot} (hs : slots[i]? = some s) {l : List Int} (hl : l.length = n * 4) (hwf : ∀ z ∈ l, (Lit.int .i64 z).wf = true) (hnil : isNil = true → n = 0)
    (hblk : isNil = false → ∃ loc, s = some (.blk (l.map (.int .i64)) false, loc)) : ∃ evs : List Ev, evs.length = n ∧ Evs (heapOf slots) (absSlice i n 4 isNil) evs := by
  obtain ⟨raw, h1, h2, h3⟩ := chunk4 n l hl hwf
  have e : (raw.map fun r => Ev.cells ⟨r.1, r.2, r.3, r.4⟩) = raw.map R4.cells := List.map_congr_left fun r _ => rfl
  refine ⟨raw.map fun r => ⟨r.1, r.2, r.3, r.4⟩, by simp [h1], heapOf_sl hs (by simp [h1]) ?_ hnil ?_⟩
  · intro x hx
    obtain ⟨z, _, rfl⟩ := List.mem_map.1 hx
    rfl
  · rw [List.map_map]
    have e2 : (raw.map (Ev.cells ∘ fun r => ⟨r.1, r.2, r.3, r.4⟩)) = raw.map R4.cells := e
    rw [e2, ← h3]; exact hblk
theorem ev_of {l : List Int} (hl : l.length = 4) : ∃ x : Ev, Value.agg (l.map (Value.int .i64)).toArray = x.val := by
  match l, hl with
  | [a, b, c, d], _ => exact ⟨⟨a, b, c, d⟩, rfl⟩
end Go.Eng.Ax

