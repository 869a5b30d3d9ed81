/-
  Part of a proof of the laws of layer 05 (token): what each function does.
  Conditions: none.
-/
import Derived.Test.YtplhdfkhhefppaaDoorBc
set_option linter.unusedSimpArgs false
set_option linter.unusedVariables false
namespace Go.Eng.Tk
open Go Go.Eng Go.Proofs

theorem Raws.at' {h : Heap} {v : Value} {l : List (Int × Int)} (hv : Raws h v l) {i : Nat} (hi : i < l.length) :
    ∃ id off cells own, pIdxAddrS 2 [v, .int .i64 i] = some (.pointer (some ⟨id, off, none⟩)) ∧ h.get id = some (.blk cells own) ∧ cells[off]? = some (.int .i64 (l.getD i (0, 0)).1) ∧ cells[off + 1]? = some (.int .i64 (l.getD i (0, 0)).2) ∧
      pIdxAddrA 2 1 [.pointer (some ⟨id, off, none⟩), .int .i64 0] = some (.pointer (some ⟨id, off, none⟩)) ∧ pIdxAddrA 2 1 [.pointer (some ⟨id, off, none⟩), .int .i64 1] = some (.pointer (some ⟨id, off + 1, none⟩)) := by
  obtain ⟨id, off, cells, own, h1, h2, h3, h4⟩ := Raws.elem hv (getD_some hi (0, 0))
  refine ⟨id, off, cells, own, h1, h2, h3, h4, ?_, ?_⟩
  · simp [pIdxAddrA]
  · simp [pIdxAddrA]
theorem lf_space (i : Nat) : (fun _ : Nat => ([10] : List UInt8)) i ∈ spaces := by
  show ([10] : List UInt8) ∈ spaces
  decide
theorem scanR_bad {ps : List (Tok × List UInt8)} (h : goodS ps) {b : UInt8} (hb : b ∈ badL) (x : List UInt8) (hl : (seqT ps ++ b :: x).length ≤ 20000) : scanR (seqT ps ++ b :: x) = ([], 50, 1 + (feedsN (seqT ps) : Int)) := by
  unfold scanR
  rw [if_neg (by omega), scanS_W, scanW_seq h, scanW_badb hb, linesM_line h]
  rfl

/-! ### TokenWrong -/
theorem TokenWrong_c {v : Value} {raw : List (Int × Int)} {at' c : Int} {h : Heap} (hv : Raws h v raw) (hok : ∀ r ∈ raw, inI r.1 ∧ inI r.2) (hlen : (raw.length : Int) ≤ 9223372036854775807) (ha : inI at') (hc : inI c) :
    CallW Tryd.prog 6 [v, .int .i64 at', .int .i64 c] h fun v _ => v = .bool true := by
  obtain ⟨Q, hQ⟩ : ∃ Q : Value → Heap → Prop, Q = fun v _ => v = .bool true := ⟨_, rfl⟩
  rw [← hQ]
  have hq : ∀ h', Q (.bool true) h' := fun h' => by rw [hQ]
  clear hQ
  obtain ⟨hlt, hpj⟩ := pickN_lt hc (n := 9) (by omega)
  obtain ⟨j, hj⟩ : ∃ j, pickN c 9 = j := ⟨_, rfl⟩
  rw [hj] at hlt hpj
  have hpj' : pick c 9 = (j : Int) := hpj.symm
  obtain ⟨b, hb⟩ : ∃ b, badL[j]? = some b := ⟨_, List.getElem?_eq_getElem (show j < badL.length from hlt)⟩
  have hbm : b ∈ badL := List.mem_of_getElem? hb
  have ix : pIdxStr [.string ⟨#[64, 36, 63, 58, 44, 34, 39, 96, 92]⟩, .int .i64 (j : Int)] = some (.int .u8 b.toNat) := idx_S (l := badL) hb .i64
  obtain ⟨n, hn⟩ : ∃ n, min raw.length 30 = n := ⟨_, rfl⟩
  have hmin : pMinI false [.int .i64 (raw.length : Int), .int .i64 30] = some (.int .i64 (n : Int)) := by
    simp only [pMinI, Bool.false_eq_true, if_false, if_true]
    congr 2
    split <;> omega
  obtain ⟨hlt2, hpk⟩ := pickN_lt ha (n := n + 1) (by omega)
  obtain ⟨k, hk⟩ : ∃ k, pickN at' (n + 1) = k := ⟨_, rfl⟩
  rw [hk] at hlt2 hpk
  have hw1 : IntKind.i64.wrap ((n : Int) + 1) = ((n + 1 : Nat) : Int) := by rw [wrapI (by omega) (by omega)]; rfl
  clear hj hpj hk hb
  have lr := Raws.len hv
  refine call_of1 (k := 3) ok6 rfl rfl rfl fun N => ?_
  rw [show env0 c6 [v, .int .i64 at', .int .i64 c] = [v, .int .i64 at', .int .i64 c, undef, undef, undef, undef, undef, undef, undef, undef, undef, undef, undef] from rfl]
  delta c6 c6_r0 c6_r1 c6_r2 c6_r3 c6_r4 c6_r5 c6_r6 c6_r7 c6_r8 c6_r9 c6_r10 c6_r11 c6_r12 c6_r14 c6_r15 c6_r16 c6_r17
  replace hq := Hid.mk hq
  repeat' (first | simp -implicitDefEqProofs only [W_skip, W_reg, W_seq, W_rcond, W_cond, W_block, W_loop, W_exit, W_ret, thenQ_normal, thenQ_exit, thenQ_ret, blockQ_normal, blockQ_ret, blockQ_here, regQ_app, rcQ_app, cndK_t, cndK_f, RegW_nil, RegW_none, RegW_some, contW_app, grdK_tt, grdK_ff, grdK_tf, grdK_ft, grdK_undef, actK_p, actK_r, actK_a, actK_w, actK_call, actK_callV, heapK_app, allocK_app, writeK_app, ret1_ret, ret1_normal, ret0_ret, ret0_normal, ret2_ret2, thenK_app, retcv_ret, retcvK_app, optW_some, evs, Arg.ev, aP, aR, aA, aW, pMov, pBin, pUn, pConv, pPick, pFieldAddr, pNilCheck, pExtract, aBin, aUn, aInt, aNew, partL_f, upd, List.getElem?_cons_zero, List.getElem?_cons_succ, List.getD_cons_zero, List.getD_cons_succ, List.set_cons_zero, List.set_cons_succ, Nat.zero_add, Nat.add_zero, List.getElem?_toArray, List.take_zero, List.drop_zero, List.take_succ_cons, List.drop_succ_cons, if_true, if_false, decide_true, decide_false, Bool.false_eq_true, Bool.true_eq_false, Bool.not_true, Bool.not_false, not_true_eq_false, not_false_eq_true, ge_iff_le, gt_iff_lt, beq_self_eq_true, bne_self_eq_false, and_self, and_true, true_and, Option.isSome_some, Heap.get_alloc_same, Heap.alloc_getE, *] | with_reducible refine cndK_d (fun hc => ?_) (fun hc => ?_) | with_reducible refine grdK_d (fun hc => ?_) (fun hc => ?_) | with_reducible refine cndK_i (fun hc => ?_) (fun hc => ?_) | with_reducible refine grdK_i (fun hc => ?_) (fun hc => ?_))
  refine awake_c h _ fun h1 l1 => ?_
  repeat' (first | simp -implicitDefEqProofs only [W_skip, W_reg, W_seq, W_rcond, W_cond, W_block, W_loop, W_exit, W_ret, thenQ_normal, thenQ_exit, thenQ_ret, blockQ_normal, blockQ_ret, blockQ_here, regQ_app, rcQ_app, cndK_t, cndK_f, RegW_nil, RegW_none, RegW_some, contW_app, grdK_tt, grdK_ff, grdK_tf, grdK_ft, grdK_undef, actK_p, actK_r, actK_a, actK_w, actK_call, actK_callV, heapK_app, allocK_app, writeK_app, ret1_ret, ret1_normal, ret0_ret, ret0_normal, ret2_ret2, thenK_app, retcv_ret, retcvK_app, optW_some, evs, Arg.ev, aP, aR, aA, aW, pMov, pBin, pUn, pConv, pPick, pFieldAddr, pNilCheck, pExtract, aBin, aUn, aInt, aNew, partL_f, upd, List.getElem?_cons_zero, List.getElem?_cons_succ, List.getD_cons_zero, List.getD_cons_succ, List.set_cons_zero, List.set_cons_succ, Nat.zero_add, Nat.add_zero, List.getElem?_toArray, List.take_zero, List.drop_zero, List.take_succ_cons, List.drop_succ_cons, if_true, if_false, decide_true, decide_false, Bool.false_eq_true, Bool.true_eq_false, Bool.not_true, Bool.not_false, not_true_eq_false, not_false_eq_true, ge_iff_le, gt_iff_lt, beq_self_eq_true, bne_self_eq_false, and_self, and_true, true_and, Option.isSome_some, Heap.get_alloc_same, Heap.alloc_getE, *] | with_reducible refine cndK_d (fun hc => ?_) (fun hc => ?_) | with_reducible refine grdK_d (fun hc => ?_) (fun hc => ?_) | with_reducible refine cndK_i (fun hc => ?_) (fun hc => ?_) | with_reducible refine grdK_i (fun hc => ?_) (fun hc => ?_))
  refine pick_c _ 9 (by decide) h1 _ ?_
  rw [hpj']
  repeat' (first | simp -implicitDefEqProofs only [W_skip, W_reg, W_seq, W_rcond, W_cond, W_block, W_loop, W_exit, W_ret, thenQ_normal, thenQ_exit, thenQ_ret, blockQ_normal, blockQ_ret, blockQ_here, regQ_app, rcQ_app, cndK_t, cndK_f, RegW_nil, RegW_none, RegW_some, contW_app, grdK_tt, grdK_ff, grdK_tf, grdK_ft, grdK_undef, actK_p, actK_r, actK_a, actK_w, actK_call, actK_callV, heapK_app, allocK_app, writeK_app, ret1_ret, ret1_normal, ret0_ret, ret0_normal, ret2_ret2, thenK_app, retcv_ret, retcvK_app, optW_some, evs, Arg.ev, aP, aR, aA, aW, pMov, pBin, pUn, pConv, pPick, pFieldAddr, pNilCheck, pExtract, aBin, aUn, aInt, aNew, partL_f, upd, List.getElem?_cons_zero, List.getElem?_cons_succ, List.getD_cons_zero, List.getD_cons_succ, List.set_cons_zero, List.set_cons_succ, Nat.zero_add, Nat.add_zero, List.getElem?_toArray, List.take_zero, List.drop_zero, List.take_succ_cons, List.drop_succ_cons, if_true, if_false, decide_true, decide_false, Bool.false_eq_true, Bool.true_eq_false, Bool.not_true, Bool.not_false, not_true_eq_false, not_false_eq_true, ge_iff_le, gt_iff_lt, beq_self_eq_true, bne_self_eq_false, and_self, and_true, true_and, Option.isSome_some, Heap.get_alloc_same, Heap.alloc_getE, *] | with_reducible refine cndK_d (fun hc => ?_) (fun hc => ?_) | with_reducible refine grdK_d (fun hc => ?_) (fun hc => ?_) | with_reducible refine cndK_i (fun hc => ?_) (fun hc => ?_) | with_reducible refine grdK_i (fun hc => ?_) (fun hc => ?_))
  refine pick_c _ ((n + 1 : Nat) : Int) (by omega) h1 _ ?_
  rw [← hpk]
  replace hpk := Hid.mk hpk
  have hv1 := Hid.mk (hv.mono l1)
  replace hv := Hid.mk hv
  replace hok := Hid.mk hok
  replace hbm := Hid.mk hbm
  repeat' (first | simp -implicitDefEqProofs only [W_skip, W_reg, W_seq, W_rcond, W_cond, W_block, W_loop, W_exit, W_ret, thenQ_normal, thenQ_exit, thenQ_ret, blockQ_normal, blockQ_ret, blockQ_here, regQ_app, rcQ_app, cndK_t, cndK_f, RegW_nil, RegW_none, RegW_some, contW_app, grdK_tt, grdK_ff, grdK_tf, grdK_ft, grdK_undef, actK_p, actK_r, actK_a, actK_w, actK_call, actK_callV, heapK_app, allocK_app, writeK_app, ret1_ret, ret1_normal, ret0_ret, ret0_normal, ret2_ret2, thenK_app, retcv_ret, retcvK_app, optW_some, evs, Arg.ev, aP, aR, aA, aW, pMov, pBin, pUn, pConv, pPick, pFieldAddr, pNilCheck, pExtract, aBin, aUn, aInt, aNew, partL_f, upd, List.getElem?_cons_zero, List.getElem?_cons_succ, List.getD_cons_zero, List.getD_cons_succ, List.set_cons_zero, List.set_cons_succ, Nat.zero_add, Nat.add_zero, List.getElem?_toArray, List.take_zero, List.drop_zero, List.take_succ_cons, List.drop_succ_cons, if_true, if_false, decide_true, decide_false, Bool.false_eq_true, Bool.true_eq_false, Bool.not_true, Bool.not_false, not_true_eq_false, not_false_eq_true, ge_iff_le, gt_iff_lt, beq_self_eq_true, bne_self_eq_false, and_self, and_true, true_and, Option.isSome_some, Heap.get_alloc_same, Heap.alloc_getE, *] | with_reducible refine cndK_d (fun hc => ?_) (fun hc => ?_) | with_reducible refine grdK_d (fun hc => ?_) (fun hc => ?_) | with_reducible refine cndK_i (fun hc => ?_) (fun hc => ?_) | with_reducible refine grdK_i (fun hc => ?_) (fun hc => ?_))
  refine LoopW.upto n (fun i e h' => h1.le h' ∧ ∃ s x10, e = [v, .int .i64 at', .int .i64 c, .bool false, .bool true, .int .u8 b.toNat, str s, .int .i64 n, .int .i64 k, .int .i64 i, x10, undef, undef, undef] ∧
    s.length ≤ 40 * i ∧ (i ≤ k → s = seqT (pairs raw (fun _ => [10]) i)) ∧ (k < i → ∃ x, s = seqT (pairs raw (fun _ => [10]) k) ++ b :: x)) ?_ (Nat.zero_le _) ⟨Heap.le.refl _, [], undef, rfl, by simp, fun _ => rfl, fun e => by omega⟩
  rintro i _ h' R hi ⟨lh, s, x10, rfl, hsl, hs1, hs2⟩ hR
  have hs1 := Hid.mk hs1
  have hs2 := Hid.mk hs2
  delta c6_l13 c6_r0 c6_r1 c6_r2 c6_r3 c6_r4 c6_r5 c6_r6 c6_r7 c6_r8 c6_r9 c6_r10 c6_r11 c6_r12 c6_r14 c6_r15 c6_r16 c6_r17
  by_cases hlt' : i < n
  case neg =>
    have hlt'' : ¬ (i : Int) < (n : Int) := by omega
    have hin : i = n := by omega
    -- what is scanned
    have fin : ∀ (s' : List UInt8) (h2 : Heap), (∃ x, s' = seqT (pairs raw (fun _ => [10]) k) ++ b :: x) → s'.length ≤ 20000 → ∃ v3 h3, True := fun _ _ _ _ => ⟨undef, h1, trivial⟩
    clear fin
    have hfin : ∀ (s' : List UInt8), (∃ x, s' = seqT (pairs raw (fun _ => [10]) k) ++ b :: x) → s'.length ≤ 20000 → scanR s' = ([], 50, ((1 + k : Nat) : Int)) := by
      rintro s' ⟨x, rfl⟩ hl
      rw [scanR_bad (pairs_good hok.h lf_space k) hbm.h x hl, feeds_pairs hok.h k]
      rfl
    have hwk : IntKind.i64.wrap ((k : Int) + 1) = ((1 + k : Nat) : Int) := by rw [wrapI (by omega) (by omega)]; omega
    have e1 : (((1 + k : Nat) : Int) == ((1 + k : Nat) : Int)) = true := by simp
    have e2 : ((0 : Int) == 0) = true := rfl
    have e3 : ((50 : Int) == 50) = true := rfl
    replace hfin := Hid.mk hfin
    by_cases hkn : k = n
    · have hkn' : ((k : Int) == (n : Int)) = true := by simp; omega
      obtain ⟨q, hqq⟩ : ∃ x, h'.next = x := ⟨_, rfl⟩
      have bs : aBslice [.int .u8 0] [(0, 1)] 1 1 [.int .u8 (b.toNat : Int)] = some ([.int .u8 (b.toNat : Int)], fun id => .slice (some ⟨id, 0, none⟩) 1 1) := aBslice_one rfl rfl rfl rfl
      obtain ⟨h2, hh1⟩ : ∃ x, h'.alloc (.blk [.int .u8 (b.toNat : Int)] true) = x := ⟨_, rfl⟩
      have g1 : h2.get q = some (.blk [.int .u8 (b.toNat : Int)] true) := by rw [← hh1, ← hqq]; exact Heap.get_alloc_same _ _
      have b1 := bytesStr1 g1
      have ct := cat_S (a := s) (b := [b]) (by simp; omega)
      have hsc := hfin.h (s ++ [b]) ⟨[], by rw [hs1.h (by omega), hin, hkn]⟩ (by simp; omega)
      clear hkn hin
      repeat' (first | simp -implicitDefEqProofs only [W_skip, W_reg, W_seq, W_rcond, W_cond, W_block, W_loop, W_exit, W_ret, thenQ_normal, thenQ_exit, thenQ_ret, blockQ_normal, blockQ_ret, blockQ_here, regQ_app, rcQ_app, cndK_t, cndK_f, RegW_nil, RegW_none, RegW_some, contW_app, grdK_tt, grdK_ff, grdK_tf, grdK_ft, grdK_undef, actK_p, actK_r, actK_a, actK_w, actK_call, actK_callV, heapK_app, allocK_app, writeK_app, ret1_ret, ret1_normal, ret0_ret, ret0_normal, ret2_ret2, thenK_app, retcv_ret, retcvK_app, optW_some, evs, Arg.ev, aP, aA, aW, pMov, pBin, pUn, pConv, pPick, pFieldAddr, pNilCheck, pExtract, aBin, aUn, aInt, aNew, partL_f, upd, List.getElem?_cons_zero, List.getElem?_cons_succ, List.getD_cons_zero, List.getD_cons_succ, List.set_cons_zero, List.set_cons_succ, Nat.zero_add, Nat.add_zero, List.getElem?_toArray, List.take_zero, List.drop_zero, List.take_succ_cons, List.drop_succ_cons, if_true, if_false, decide_true, decide_false, Bool.false_eq_true, Bool.true_eq_false, Bool.not_true, Bool.not_false, not_true_eq_false, not_false_eq_true, ge_iff_le, gt_iff_lt, beq_self_eq_true, bne_self_eq_false, and_self, and_true, true_and, Option.isSome_some, Heap.get_alloc_same, Heap.alloc_getE, *] | with_reducible refine cndK_d (fun hc => ?_) (fun hc => ?_) | with_reducible refine grdK_d (fun hc => ?_) (fun hc => ?_) | with_reducible refine cndK_i (fun hc => ?_) (fun hc => ?_) | with_reducible refine grdK_i (fun hc => ?_) (fun hc => ?_))
      refine Scan_c (l := s ++ [b]) h2 (Heap.le.refl h2) _ fun v3 h3 hv3 _ => ?_
      rw [hsc] at hv3 ⊢
      have hvl : pLenS [v3] = some (.int .i64 0) := tokS_len (ts := []) hv3.sl
      clear hv3 b1 g1
      repeat' (first | simp -implicitDefEqProofs only [W_skip, W_reg, W_seq, W_rcond, W_cond, W_block, W_loop, W_exit, W_ret, thenQ_normal, thenQ_exit, thenQ_ret, blockQ_normal, blockQ_ret, blockQ_here, regQ_app, rcQ_app, cndK_t, cndK_f, RegW_nil, RegW_none, RegW_some, contW_app, grdK_tt, grdK_ff, grdK_tf, grdK_ft, grdK_undef, actK_p, actK_r, actK_a, actK_w, actK_call, actK_callV, heapK_app, allocK_app, writeK_app, ret1_ret, ret1_normal, ret0_ret, ret0_normal, ret2_ret2, thenK_app, retcv_ret, retcvK_app, optW_some, evs, Arg.ev, aP, aR, aA, aW, pMov, pBin, pUn, pConv, pPick, pFieldAddr, pNilCheck, pExtract, aBin, aUn, aInt, aNew, partL_f, upd, List.getElem?_cons_zero, List.getElem?_cons_succ, List.getD_cons_zero, List.getD_cons_succ, List.set_cons_zero, List.set_cons_succ, Nat.zero_add, Nat.add_zero, List.getElem?_toArray, List.take_zero, List.drop_zero, List.take_succ_cons, List.drop_succ_cons, if_true, if_false, decide_true, decide_false, Bool.false_eq_true, Bool.true_eq_false, Bool.not_true, Bool.not_false, not_true_eq_false, not_false_eq_true, ge_iff_le, gt_iff_lt, beq_self_eq_true, bne_self_eq_false, and_self, and_true, true_and, Option.isSome_some, Heap.get_alloc_same, Heap.alloc_getE, extract3_0, extract3_1, extract3_2, *] | with_reducible refine cndK_d (fun hc => ?_) (fun hc => ?_) | with_reducible refine grdK_d (fun hc => ?_) (fun hc => ?_) | with_reducible refine cndK_i (fun hc => ?_) (fun hc => ?_) | with_reducible refine grdK_i (fun hc => ?_) (fun hc => ?_))
      exact hq.h _
    · have hkn' : ((k : Int) == (n : Int)) = false := by simp; omega
      have hsc := hfin.h s (hs2.h (by omega)) (by omega)
      clear hkn hin
      repeat' (first | simp -implicitDefEqProofs only [W_skip, W_reg, W_seq, W_rcond, W_cond, W_block, W_loop, W_exit, W_ret, thenQ_normal, thenQ_exit, thenQ_ret, blockQ_normal, blockQ_ret, blockQ_here, regQ_app, rcQ_app, cndK_t, cndK_f, RegW_nil, RegW_none, RegW_some, contW_app, grdK_tt, grdK_ff, grdK_tf, grdK_ft, grdK_undef, actK_p, actK_r, actK_a, actK_w, actK_call, actK_callV, heapK_app, allocK_app, writeK_app, ret1_ret, ret1_normal, ret0_ret, ret0_normal, ret2_ret2, thenK_app, retcv_ret, retcvK_app, optW_some, evs, Arg.ev, aP, aR, aA, aW, pMov, pBin, pUn, pConv, pPick, pFieldAddr, pNilCheck, pExtract, aBin, aUn, aInt, aNew, partL_f, upd, List.getElem?_cons_zero, List.getElem?_cons_succ, List.getD_cons_zero, List.getD_cons_succ, List.set_cons_zero, List.set_cons_succ, Nat.zero_add, Nat.add_zero, List.getElem?_toArray, List.take_zero, List.drop_zero, List.take_succ_cons, List.drop_succ_cons, if_true, if_false, decide_true, decide_false, Bool.false_eq_true, Bool.true_eq_false, Bool.not_true, Bool.not_false, not_true_eq_false, not_false_eq_true, ge_iff_le, gt_iff_lt, beq_self_eq_true, bne_self_eq_false, and_self, and_true, true_and, Option.isSome_some, Heap.get_alloc_same, Heap.alloc_getE, *] | with_reducible refine cndK_d (fun hc => ?_) (fun hc => ?_) | with_reducible refine grdK_d (fun hc => ?_) (fun hc => ?_) | with_reducible refine cndK_i (fun hc => ?_) (fun hc => ?_) | with_reducible refine grdK_i (fun hc => ?_) (fun hc => ?_))
      refine Scan_c (l := s) h' (Heap.le.refl h') _ fun v3 h3 hv3 _ => ?_
      rw [hsc] at hv3 ⊢
      have hvl : pLenS [v3] = some (.int .i64 0) := tokS_len (ts := []) hv3.sl
      clear hv3
      repeat' (first | simp -implicitDefEqProofs only [W_skip, W_reg, W_seq, W_rcond, W_cond, W_block, W_loop, W_exit, W_ret, thenQ_normal, thenQ_exit, thenQ_ret, blockQ_normal, blockQ_ret, blockQ_here, regQ_app, rcQ_app, cndK_t, cndK_f, RegW_nil, RegW_none, RegW_some, contW_app, grdK_tt, grdK_ff, grdK_tf, grdK_ft, grdK_undef, actK_p, actK_r, actK_a, actK_w, actK_call, actK_callV, heapK_app, allocK_app, writeK_app, ret1_ret, ret1_normal, ret0_ret, ret0_normal, ret2_ret2, thenK_app, retcv_ret, retcvK_app, optW_some, evs, Arg.ev, aP, aR, aA, aW, pMov, pBin, pUn, pConv, pPick, pFieldAddr, pNilCheck, pExtract, aBin, aUn, aInt, aNew, partL_f, upd, List.getElem?_cons_zero, List.getElem?_cons_succ, List.getD_cons_zero, List.getD_cons_succ, List.set_cons_zero, List.set_cons_succ, Nat.zero_add, Nat.add_zero, List.getElem?_toArray, List.take_zero, List.drop_zero, List.take_succ_cons, List.drop_succ_cons, if_true, if_false, decide_true, decide_false, Bool.false_eq_true, Bool.true_eq_false, Bool.not_true, Bool.not_false, not_true_eq_false, not_false_eq_true, ge_iff_le, gt_iff_lt, beq_self_eq_true, bne_self_eq_false, and_self, and_true, true_and, Option.isSome_some, Heap.get_alloc_same, Heap.alloc_getE, extract3_0, extract3_1, extract3_2, *] | with_reducible refine cndK_d (fun hc => ?_) (fun hc => ?_) | with_reducible refine grdK_d (fun hc => ?_) (fun hc => ?_) | with_reducible refine cndK_i (fun hc => ?_) (fun hc => ?_) | with_reducible refine grdK_i (fun hc => ?_) (fun hc => ?_))
      exact hq.h _
  case pos =>
    have hlt'' : (i : Int) < (n : Int) := by omega
    have hwj : IntKind.i64.wrap ((i : Int) + 1) = ((i + 1 : Nat) : Int) := by rw [wrapI (by omega) (by omega)]; rfl
    obtain ⟨r1, r2⟩ := raw_ok hok.h i
    have hpl := piece_len (kind := (raw.getD i (0, 0)).1) r2
    have hps : pairs raw (fun _ => [10]) (i + 1) = pairs raw (fun _ => [10]) i ++ [pairAt raw (fun _ => [10]) i] := pairs_succ _ _ _
    have hpt : (pairAt raw (fun _ => [10]) i).1.text = (pieceL (raw.getD i (0, 0)).1 (raw.getD i (0, 0)).2).1 := rfl
    have hp2 : (pairAt raw (fun _ => [10]) i).2 = [10] := rfl
    have hsq : seqT (pairs raw (fun _ => [10]) (i + 1)) = seqT (pairs raw (fun _ => [10]) i) ++ (pieceL (raw.getD i (0, 0)).1 (raw.getD i (0, 0)).2).1 ++ [10] := by rw [hps, seqT_snoc, hpt, hp2]
    clear hps hpt hp2
    obtain ⟨ra, hra⟩ : ∃ x, (raw.getD i (0, 0)).1 = x := ⟨_, rfl⟩
    obtain ⟨rb, hrb⟩ : ∃ x, (raw.getD i (0, 0)).2 = x := ⟨_, rfl⟩
    obtain ⟨w, hw⟩ : ∃ w, (pieceL ra rb).1 = w := ⟨_, rfl⟩
    rw [hra] at r1
    rw [hrb] at r2
    rw [hra, hrb, hw] at hpl hsq
    replace hsq := Hid.mk hsq
    by_cases hik : i = k
    · have hik' : ((i : Int) == (k : Int)) = true := by simp; omega
      have hs := hs1.h (by omega)
      obtain ⟨q, hqq⟩ : ∃ x, h'.next = x := ⟨_, rfl⟩
      have bs : aBslice [.int .u8 0] [(0, 1)] 1 1 [.int .u8 (b.toNat : Int)] = some ([.int .u8 (b.toNat : Int)], fun id => .slice (some ⟨id, 0, none⟩) 1 1) := aBslice_one rfl rfl rfl rfl
      obtain ⟨h2, hh1⟩ : ∃ x, h'.alloc (.blk [.int .u8 (b.toNat : Int)] true) = x := ⟨_, rfl⟩
      have l2 : h'.le h2 := by rw [← hh1]; exact (Heap.le.refl _).alloc _
      have g1 : h2.get q = some (.blk [.int .u8 (b.toNat : Int)] true) := by rw [← hh1, ← hqq]; exact Heap.get_alloc_same _ _
      have b1 := bytesStr1 g1
      have ct1 := cat_S (a := s) (b := [b]) (by simp; omega)
      have ct2 : aStr .add ⟨(s ++ [b]).toArray⟩ ⟨#[32]⟩ = some (str (s ++ [b] ++ [32])) := cat_S (a := s ++ [b]) (b := [32]) (by simp; omega)
      have ct3 := cat_S (a := s ++ [b] ++ [32]) (b := w) (by simp; omega)
      have ct4 : aStr .add ⟨(s ++ [b] ++ [32] ++ w).toArray⟩ ⟨#[10]⟩ = some (str (s ++ [b] ++ [32] ++ w ++ [10])) := cat_S (a := s ++ [b] ++ [32] ++ w) (b := [10]) (by simp; omega)
      obtain ⟨id, off, cells, own, a1, a2, a3, a4, a5, a6⟩ := Raws.at' ((hv1.h.mono lh).mono l2) (i := i) (by omega)
      rw [hra] at a3
      rw [hrb] at a4
      have g := fun x10 h3 (l3 : h2.le h3) => hR.h [v, .int .i64 at', .int .i64 c, .bool false, .bool true, .int .u8 b.toNat, str (s ++ [b] ++ [32] ++ w ++ [10]), .int .i64 n, .int .i64 k, .int .i64 ((i + 1 : Nat) : Int), x10, undef, undef, undef] h3 hlt' ⟨(lh.trans l2).trans l3, _, x10, rfl, by simp; omega, fun e => by omega, fun _ => ⟨32 :: (w ++ [10]), by rw [hs, hik]; simp⟩⟩
      replace g := Hid.mk g
      clear hik hs b1 lh
      have b1 := bytesStr1 g1
      repeat' (first | simp -implicitDefEqProofs only [W_skip, W_reg, W_seq, W_rcond, W_cond, W_block, W_loop, W_exit, W_ret, thenQ_normal, thenQ_exit, thenQ_ret, blockQ_normal, blockQ_ret, blockQ_here, regQ_app, rcQ_app, cndK_t, cndK_f, RegW_nil, RegW_none, RegW_some, contW_app, grdK_tt, grdK_ff, grdK_tf, grdK_ft, grdK_undef, actK_p, actK_r, actK_a, actK_w, actK_call, actK_callV, heapK_app, allocK_app, writeK_app, ret1_ret, ret1_normal, ret0_ret, ret0_normal, ret2_ret2, thenK_app, retcv_ret, retcvK_app, optW_some, evs, Arg.ev, aP, aA, aW, pMov, pBin, pUn, pConv, pPick, pFieldAddr, pNilCheck, pExtract, aBin, aUn, aInt, aNew, partL_f, upd, List.getElem?_cons_zero, List.getElem?_cons_succ, List.getD_cons_zero, List.getD_cons_succ, List.set_cons_zero, List.set_cons_succ, Nat.zero_add, Nat.add_zero, List.getElem?_toArray, List.take_zero, List.drop_zero, List.take_succ_cons, List.drop_succ_cons, if_true, if_false, decide_true, decide_false, Bool.false_eq_true, Bool.true_eq_false, Bool.not_true, Bool.not_false, not_true_eq_false, not_false_eq_true, ge_iff_le, gt_iff_lt, beq_self_eq_true, bne_self_eq_false, and_self, and_true, true_and, Option.isSome_some, Heap.get_alloc_same, Heap.alloc_getE, aR_ld, ldK_blk, *] | with_reducible refine cndK_d (fun hc => ?_) (fun hc => ?_) | with_reducible refine grdK_d (fun hc => ?_) (fun hc => ?_) | with_reducible refine cndK_i (fun hc => ?_) (fun hc => ?_) | with_reducible refine grdK_i (fun hc => ?_) (fun hc => ?_))
      refine piece_c r1 r2 h2 _ fun h3 l3 => ?_
      replace l3 := Hid.mk l3
      rw [hw]
      repeat' (first | simp -implicitDefEqProofs only [W_skip, W_reg, W_seq, W_rcond, W_cond, W_block, W_loop, W_exit, W_ret, thenQ_normal, thenQ_exit, thenQ_ret, blockQ_normal, blockQ_ret, blockQ_here, regQ_app, rcQ_app, cndK_t, cndK_f, RegW_nil, RegW_none, RegW_some, contW_app, grdK_tt, grdK_ff, grdK_tf, grdK_ft, grdK_undef, actK_p, actK_r, actK_a, actK_w, actK_call, actK_callV, heapK_app, allocK_app, writeK_app, ret1_ret, ret1_normal, ret0_ret, ret0_normal, ret2_ret2, thenK_app, retcv_ret, retcvK_app, optW_some, evs, Arg.ev, aP, aR, aA, aW, pMov, pBin, pUn, pConv, pPick, pFieldAddr, pNilCheck, pExtract, aBin, aUn, aInt, aNew, partL_f, upd, List.getElem?_cons_zero, List.getElem?_cons_succ, List.getD_cons_zero, List.getD_cons_succ, List.set_cons_zero, List.set_cons_succ, Nat.zero_add, Nat.add_zero, List.getElem?_toArray, List.take_zero, List.drop_zero, List.take_succ_cons, List.drop_succ_cons, if_true, if_false, decide_true, decide_false, Bool.false_eq_true, Bool.true_eq_false, Bool.not_true, Bool.not_false, not_true_eq_false, not_false_eq_true, ge_iff_le, gt_iff_lt, beq_self_eq_true, bne_self_eq_false, and_self, and_true, true_and, Option.isSome_some, Heap.get_alloc_same, Heap.alloc_getE, extract0, extract1, *] | with_reducible refine cndK_d (fun hc => ?_) (fun hc => ?_) | with_reducible refine grdK_d (fun hc => ?_) (fun hc => ?_) | with_reducible refine cndK_i (fun hc => ?_) (fun hc => ?_) | with_reducible refine grdK_i (fun hc => ?_) (fun hc => ?_))
      exact g.h _ _ l3.h
    · have hik' : ((i : Int) == (k : Int)) = false := by simp; omega
      have ct3 := cat_S (a := s) (b := w) (by omega)
      have ct4 : aStr .add ⟨(s ++ w).toArray⟩ ⟨#[10]⟩ = some (str (s ++ w ++ [10])) := cat_S (a := s ++ w) (b := [10]) (by simp; omega)
      obtain ⟨id, off, cells, own, a1, a2, a3, a4, a5, a6⟩ := Raws.at' (hv1.h.mono lh) (i := i) (by omega)
      rw [hra] at a3
      rw [hrb] at a4
      have g := fun x10 h3 (l3 : h'.le h3) => hR.h [v, .int .i64 at', .int .i64 c, .bool false, .bool true, .int .u8 b.toNat, str (s ++ w ++ [10]), .int .i64 n, .int .i64 k, .int .i64 ((i + 1 : Nat) : Int), x10, undef, undef, undef] h3 hlt' ⟨lh.trans l3, _, x10, rfl, by simp; omega, fun e => by rw [hsq.h, hs1.h (by omega)], fun e => by
        obtain ⟨x, hx⟩ := hs2.h (by omega)
        exact ⟨x ++ w ++ [10], by rw [hx]; simp⟩⟩
      replace g := Hid.mk g
      clear hik lh
      repeat' (first | simp -implicitDefEqProofs only [W_skip, W_reg, W_seq, W_rcond, W_cond, W_block, W_loop, W_exit, W_ret, thenQ_normal, thenQ_exit, thenQ_ret, blockQ_normal, blockQ_ret, blockQ_here, regQ_app, rcQ_app, cndK_t, cndK_f, RegW_nil, RegW_none, RegW_some, contW_app, grdK_tt, grdK_ff, grdK_tf, grdK_ft, grdK_undef, actK_p, actK_r, actK_a, actK_w, actK_call, actK_callV, heapK_app, allocK_app, writeK_app, ret1_ret, ret1_normal, ret0_ret, ret0_normal, ret2_ret2, thenK_app, retcv_ret, retcvK_app, optW_some, evs, Arg.ev, aP, aA, aW, pMov, pBin, pUn, pConv, pPick, pFieldAddr, pNilCheck, pExtract, aBin, aUn, aInt, aNew, partL_f, upd, List.getElem?_cons_zero, List.getElem?_cons_succ, List.getD_cons_zero, List.getD_cons_succ, List.set_cons_zero, List.set_cons_succ, Nat.zero_add, Nat.add_zero, List.getElem?_toArray, List.take_zero, List.drop_zero, List.take_succ_cons, List.drop_succ_cons, if_true, if_false, decide_true, decide_false, Bool.false_eq_true, Bool.true_eq_false, Bool.not_true, Bool.not_false, not_true_eq_false, not_false_eq_true, ge_iff_le, gt_iff_lt, beq_self_eq_true, bne_self_eq_false, and_self, and_true, true_and, Option.isSome_some, Heap.get_alloc_same, Heap.alloc_getE, aR_ld, ldK_blk, *] | with_reducible refine cndK_d (fun hc => ?_) (fun hc => ?_) | with_reducible refine grdK_d (fun hc => ?_) (fun hc => ?_) | with_reducible refine cndK_i (fun hc => ?_) (fun hc => ?_) | with_reducible refine grdK_i (fun hc => ?_) (fun hc => ?_))
      refine piece_c r1 r2 h' _ fun h3 l3 => ?_
      replace l3 := Hid.mk l3
      rw [hw]
      repeat' (first | simp -implicitDefEqProofs only [W_skip, W_reg, W_seq, W_rcond, W_cond, W_block, W_loop, W_exit, W_ret, thenQ_normal, thenQ_exit, thenQ_ret, blockQ_normal, blockQ_ret, blockQ_here, regQ_app, rcQ_app, cndK_t, cndK_f, RegW_nil, RegW_none, RegW_some, contW_app, grdK_tt, grdK_ff, grdK_tf, grdK_ft, grdK_undef, actK_p, actK_r, actK_a, actK_w, actK_call, actK_callV, heapK_app, allocK_app, writeK_app, ret1_ret, ret1_normal, ret0_ret, ret0_normal, ret2_ret2, thenK_app, retcv_ret, retcvK_app, optW_some, evs, Arg.ev, aP, aR, aA, aW, pMov, pBin, pUn, pConv, pPick, pFieldAddr, pNilCheck, pExtract, aBin, aUn, aInt, aNew, partL_f, upd, List.getElem?_cons_zero, List.getElem?_cons_succ, List.getD_cons_zero, List.getD_cons_succ, List.set_cons_zero, List.set_cons_succ, Nat.zero_add, Nat.add_zero, List.getElem?_toArray, List.take_zero, List.drop_zero, List.take_succ_cons, List.drop_succ_cons, if_true, if_false, decide_true, decide_false, Bool.false_eq_true, Bool.true_eq_false, Bool.not_true, Bool.not_false, not_true_eq_false, not_false_eq_true, ge_iff_le, gt_iff_lt, beq_self_eq_true, bne_self_eq_false, and_self, and_true, true_and, Option.isSome_some, Heap.get_alloc_same, Heap.alloc_getE, extract0, extract1, *] | with_reducible refine cndK_d (fun hc => ?_) (fun hc => ?_) | with_reducible refine grdK_d (fun hc => ?_) (fun hc => ?_) | with_reducible refine cndK_i (fun hc => ?_) (fun hc => ?_) | with_reducible refine grdK_i (fun hc => ?_) (fun hc => ?_))
      exact g.h _ _ l3.h
end Go.Eng.Tk

set_option linter.unusedSimpArgs false
set_option linter.unusedVariables false
namespace Go.Eng.Tk
open Go Go.Eng Go.Proofs

/-! ### what the scanner tells may be compared -/
theorem number_le {l : List UInt8} {n : Nat} (h : number l = some n) : n ≤ 4294967295 := by
  unfold number at h
  split at h
  · cases h
  · rename_i m hm
    split at h
    · cases h
    · cases h
      exact parseU_le hm
theorem inI1 : inI 1 := ⟨by decide, by decide⟩
theorem inI2 : inI 2 := ⟨by decide, by decide⟩
theorem inI3 : inI 3 := ⟨by decide, by decide⟩
theorem inI4 : inI 4 := ⟨by decide, by decide⟩
theorem inI5 : inI 5 := ⟨by decide, by decide⟩
theorem oneS_n (l : List UInt8) : inI (oneS l).1.n ∧ inI (oneS l).1.kind := by
  unfold oneS
  split
  · exact ⟨inI0, inI2⟩
  · split
    · exact ⟨inI0, inI1⟩
    · refine ⟨?_, inI3⟩
      cases h : number l with
      | none => exact inI0
      | some n =>
        have := number_le h
        simp only [Option.getD_some]
        unfold inI; omega
theorem scanP_ok : ∀ (k : Nat) (l : List UInt8) (m : Int), l.length ≤ 1000000 → 0 ≤ m → m + l.length ≤ 1000000000 → (∀ t ∈ (scanP k l m).1, t.ok) ∧ m ≤ (scanP k l m).2.1 ∧ (scanP k l m).2.1 ≤ m + l.length
  | 0, l, m, h1, h2, h3 => by simp [scanP]; omega
  | k + 1, [], m, h1, h2, h3 => by simp [scanP]
  | k + 1, b :: r, m, h1, h2, h3 => by
    have key : ∀ (w : Nat) (t : Tok), w ≤ (b :: r).length → inI t.n → inI t.kind → t.text.length ≤ (b :: r).length → (∀ u ∈ ({ t with line := m } :: (scanP k (skip false ((b :: r).drop w) m).1 (skip false ((b :: r).drop w) m).2).1), u.ok) ∧
        m ≤ (scanP k (skip false ((b :: r).drop w) m).1 (skip false ((b :: r).drop w) m).2).2.1 ∧ (scanP k (skip false ((b :: r).drop w) m).1 (skip false ((b :: r).drop w) m).2).2.1 ≤ m + (b :: r).length := by
      intro w t hw hn hk ht
      have s1 := skip_len false ((b :: r).drop w) m
      have s2 := skip_sum false ((b :: r).drop w) m
      have s3 : ((b :: r).drop w).length = (b :: r).length - w := by simp
      obtain ⟨i1, i2, i3⟩ := scanP_ok k (skip false ((b :: r).drop w) m).1 (skip false ((b :: r).drop w) m).2 (by omega) (by omega) (by omega)
      refine ⟨fun u hu => ?_, by omega, by omega⟩
      rcases List.mem_cons.1 hu with rfl | hu
      · exact ⟨hk, hn, by unfold inI; simp only; omega, by simp only; omega⟩
      · exact i1 u hu
    unfold scanP
    split
    · split
      · obtain ⟨o1, o2⟩ := oneS_n ((b :: r).take (runN (b :: r)))
        exact key _ _ (runN_le _) o1 o2 (by rw [oneS_text, List.length_take]; omega)
      · simp; omega
    · split
      · rename_i g hg
        obtain ⟨g1, g2⟩ := signs_pos hg
        exact key g.length ⟨4, g, 0, m⟩ g2 inI0 inI4 g2
      · simp; omega
theorem scanR_ok (l : List UInt8) : (∀ t ∈ (scanR l).1, t.ok) ∧ (scanR l).1.length ≤ 20001 ∧ 0 ≤ (scanR l).2.2 ∧ (scanR l).2.2 ≤ 20001 := by
  unfold scanR
  split
  · simp
  · rename_i hl
    have s1 := skip_len false l 1
    have s2 := skip_sum false l 1
    obtain ⟨i1, i2, i3⟩ := scanP_ok (l.length + 1) (skip false l 1).1 (skip false l 1).2 (by omega) (by omega) (by omega)
    have i4 := scanP_len (l.length + 1) (skip false l 1).1 (skip false l 1).2
    have e : scanS l = scanP (l.length + 1) (skip false l 1).1 (skip false l 1).2 := rfl
    rw [← e] at i1 i2 i3 i4
    split
    · refine ⟨fun t ht => ?_, by simp; omega, by simp, by simp⟩
      rcases List.mem_append.1 ht with ht | ht
      · exact i1 t ht
      · rw [List.mem_singleton.1 ht]
        exact ⟨inI5, inI0, by unfold inI endT; simp only; omega, by simp [endT]⟩
    · exact ⟨by simp, by simp, by simp only; omega, by simp only; omega⟩
theorem scanR_seq {ps : List (Tok × List UInt8)} (h : goodS ps) (hl : (seqT ps).length ≤ 20000) : scanR (seqT ps) = ((linesM ps 1).1 ++ [endT (linesM ps 1).2], 0, 0) := by
  have := scanW_seq h [] 1
  rw [List.append_nil, scanW_nil] at this
  unfold scanR
  rw [if_neg (by omega), scanS_W, this]
  simp
end Go.Eng.Tk

set_option linter.unusedSimpArgs false
set_option linter.unusedVariables false
namespace Go.Eng.Tk
open Go Go.Eng Go.Proofs

theorem build4 (k n m : Int) (l : List UInt8) : pBuild [.int .i64 0, .string ⟨#[]⟩, .int .i64 0, .int .i64 0] [(0, 1), (1, 1), (2, 1), (3, 1)] [.int .i64 k, str l, .int .i64 n, .int .i64 m] = some (Tok.val ⟨k, l, n, m⟩) := by rfl
theorem lines_bound {raw : List (Int × Int)} (h : ∀ r ∈ raw, inI r.1 ∧ inI r.2) {bl : Nat → List UInt8} (hb : ∀ i, bl i ∈ spaces) (n : Nat) : 1 ≤ (linesM (pairs raw bl n) 1).2 ∧ (linesM (pairs raw bl n) 1).2 ≤ 1 + 30 * (n : Int) := by
  rw [linesM_line (pairs_good h hb n)]
  have h1 := feedsN_le (seqT (pairs raw bl n))
  have h2 := pairs_len h hb n
  omega
/-! ### TokenWords -/
theorem TokenWords_c {v vb : Value} {raw : List (Int × Int)} {bl : List Int} {h : Heap} (hv : Raws h v raw) (hok : ∀ r ∈ raw, inI r.1 ∧ inI r.2) (hlen : (raw.length : Int) ≤ 9223372036854775807) (hvb : Ints h vb bl) (hob : ∀ z ∈ bl, inI z) (hlb : (bl.length : Int) ≤ 9223372036854775807) :
    CallW Tryd.prog 4 [v, vb] h fun v _ => v = .bool true := by
  obtain ⟨Q, hQ⟩ : ∃ Q : Value → Heap → Prop, Q = fun v _ => v = .bool true := ⟨_, rfl⟩
  rw [← hQ]
  have hq : ∀ h', Q (.bool true) h' := fun h' => by rw [hQ]
  clear hQ
  have lr := Raws.len hv
  obtain ⟨B, hB⟩ : ∃ B : Nat → List UInt8, (fun i => blankL bl i) = B := ⟨_, rfl⟩
  have hBs : ∀ i, B i ∈ spaces := fun i => by rw [← hB]; exact blankL_space bl hob i
  have hBi : ∀ i, blankL bl i = B i := fun i => by rw [← hB]
  clear hB
  refine call_of1 (k := 2) ok4 rfl rfl rfl fun N => ?_
  rw [show env0 c4 [v, vb] = [v, vb, undef, undef, undef, undef, undef, undef, undef, undef, undef, undef, undef, undef, undef] from rfl]
  delta c4 c4_r0 c4_r1 c4_r2 c4_r3 c4_r4 c4_r5 c4_r6 c4_r7 c4_r8 c4_r9 c4_r10 c4_r11 c4_r12 c4_r13 c4_r14 c4_r15 c4_r17 c4_r18 c4_r19
  replace hq := Hid.mk hq
  repeat' (first | simp -implicitDefEqProofs only [W_skip, W_reg, W_seq, W_rcond, W_cond, W_block, W_loop, W_exit, W_ret, thenQ_normal, thenQ_exit, thenQ_ret, blockQ_normal, blockQ_ret, blockQ_here, regQ_app, rcQ_app, cndK_t, cndK_f, RegW_nil, RegW_none, RegW_some, contW_app, grdK_tt, grdK_ff, grdK_tf, grdK_ft, grdK_undef, actK_p, actK_r, actK_a, actK_w, actK_call, actK_callV, heapK_app, allocK_app, writeK_app, ret1_ret, ret1_normal, ret0_ret, ret0_normal, ret2_ret2, thenK_app, retcv_ret, retcvK_app, optW_some, evs, Arg.ev, aP, aR, aA, aW, pMov, pBin, pUn, pConv, pPick, pFieldAddr, pNilCheck, pExtract, aBin, aUn, aInt, aNew, partL_f, upd, List.getElem?_cons_zero, List.getElem?_cons_succ, List.getD_cons_zero, List.getD_cons_succ, List.set_cons_zero, List.set_cons_succ, Nat.zero_add, Nat.add_zero, List.getElem?_toArray, List.take_zero, List.drop_zero, List.take_succ_cons, List.drop_succ_cons, if_true, if_false, decide_true, decide_false, Bool.false_eq_true, Bool.true_eq_false, Bool.not_true, Bool.not_false, not_true_eq_false, not_false_eq_true, ge_iff_le, gt_iff_lt, beq_self_eq_true, bne_self_eq_false, and_self, and_true, true_and, Option.isSome_some, Heap.get_alloc_same, Heap.alloc_getE, *] | with_reducible refine cndK_d (fun hc => ?_) (fun hc => ?_) | with_reducible refine grdK_d (fun hc => ?_) (fun hc => ?_) | with_reducible refine cndK_i (fun hc => ?_) (fun hc => ?_) | with_reducible refine grdK_i (fun hc => ?_) (fun hc => ?_))
  refine awake_c h _ fun h1 l1 => ?_
  have hv1 := Hid.mk (hv.mono l1)
  have hvb1 := Hid.mk (SlV.mono l1 hvb)
  clear hv hvb
  replace hok := Hid.mk hok
  replace hob := Hid.mk hob
  replace hBs := Hid.mk hBs
  replace hBi := Hid.mk hBi
  obtain ⟨n, hn⟩ : ∃ n, min raw.length 40 = n := ⟨_, rfl⟩
  repeat' (first | simp -implicitDefEqProofs only [W_skip, W_reg, W_seq, W_rcond, W_cond, W_block, W_loop, W_exit, W_ret, thenQ_normal, thenQ_exit, thenQ_ret, blockQ_normal, blockQ_ret, blockQ_here, regQ_app, rcQ_app, cndK_t, cndK_f, RegW_nil, RegW_none, RegW_some, contW_app, grdK_tt, grdK_ff, grdK_tf, grdK_ft, grdK_undef, actK_p, actK_r, actK_a, actK_w, actK_call, actK_callV, heapK_app, allocK_app, writeK_app, ret1_ret, ret1_normal, ret0_ret, ret0_normal, ret2_ret2, thenK_app, retcv_ret, retcvK_app, optW_some, evs, Arg.ev, aP, aR, aA, aW, pMov, pBin, pUn, pConv, pPick, pFieldAddr, pNilCheck, pExtract, aBin, aUn, aInt, aNew, partL_f, upd, List.getElem?_cons_zero, List.getElem?_cons_succ, List.getD_cons_zero, List.getD_cons_succ, List.set_cons_zero, List.set_cons_succ, Nat.zero_add, Nat.add_zero, List.getElem?_toArray, List.take_zero, List.drop_zero, List.take_succ_cons, List.drop_succ_cons, if_true, if_false, decide_true, decide_false, Bool.false_eq_true, Bool.true_eq_false, Bool.not_true, Bool.not_false, not_true_eq_false, not_false_eq_true, ge_iff_le, gt_iff_lt, beq_self_eq_true, bne_self_eq_false, and_self, and_true, true_and, Option.isSome_some, Heap.get_alloc_same, Heap.alloc_getE, *] | with_reducible refine cndK_d (fun hc => ?_) (fun hc => ?_) | with_reducible refine grdK_d (fun hc => ?_) (fun hc => ?_) | with_reducible refine cndK_i (fun hc => ?_) (fun hc => ?_) | with_reducible refine grdK_i (fun hc => ?_) (fun hc => ?_))
  refine LoopW.upto n (fun i e h' => h1.le h' ∧ ∃ out x8 x9 x10 x11, e = [v, vb, .bool false, .bool true, str (seqT (pairs raw B i)), .int .i64 (linesM (pairs raw B i) 1).2, out, .int .i64 i, x8, x9, x10, x11, undef, undef, undef] ∧ Toks h1 h' out (linesM (pairs raw B i) 1).1) ?_ (Nat.zero_le _)
    ⟨Heap.le.refl _, .slice none 0 0, undef, undef, undef, undef, rfl, .nil _ _ _⟩
  rintro i _ h' R hi ⟨lh, out, x8, x9, x10, x11, rfl, hto⟩ hR
  delta c4_l16 c4_r0 c4_r1 c4_r2 c4_r3 c4_r4 c4_r5 c4_r6 c4_r7 c4_r8 c4_r9 c4_r10 c4_r11 c4_r12 c4_r13 c4_r14 c4_r15 c4_r17 c4_r18 c4_r19
  have hpl := pairs_len hok.h hBs.h i
  have hlb1 := lines_bound hok.h hBs.h i
  by_cases hlt' : i < n
  case neg =>
    have hin : i = n := by omega
    have hsc := scanR_seq (pairs_good hok.h hBs.h i) (by omega)
    have hrok := scanR_ok (seqT (pairs raw B i))
    obtain ⟨s, hs⟩ : ∃ s, seqT (pairs raw B i) = s := ⟨_, rfl⟩
    obtain ⟨ln, hln⟩ : ∃ s, linesM (pairs raw B i) 1 = s := ⟨_, rfl⟩
    have hll : ln.1.length = i := by rw [← hln, linesM_len, pairs_length]
    rw [hs] at hsc hrok hpl ⊢
    rw [hln] at hsc hto hlb1 ⊢
    rw [hsc] at hrok
    obtain ⟨ts, m⟩ := ln
    simp only at hsc hto hrok hll ⊢
    have b5 := build5 0 m
    have bt := bslice_tok (endT m)
    have hen : endT m = ⟨5, [], 0, m⟩ := rfl
    obtain ⟨v', h5, a1, a2, a3, a4, a5, a6⟩ := toks_append hto lh (by omega) (endT m)
    have le5 : h1.le h5 := a3
    have fin : ∀ (v3 : Value) (h3 : Heap), Toks h5 h3 v3 (ts ++ [endT m]) → h5.le h3 → CallW Tryd.prog 20 [v3, v'] h3 (fun v _ => v = .bool true) := by
      intro v3 h3 t3 l3
      refine same_c t3.sl (a2.mono l3).sl hrok.1 hrok.1 (by omega) (by omega) _ fun b hb => ?_
      rw [hb.2 rfl]
    replace fin := Hid.mk fin
    rw [hen] at a1 bt
    have e2 : ((0 : Int) == 0) = true := rfl
    clear a2 a3 a4 a5 a6 hto lh hrok
    have way : (i : Int) < 40 ∨ ¬ (i : Int) < 40 := by omega
    by_cases hlr : i < raw.length
    · have hlr' : (i : Int) < (raw.length : Int) := by omega
      have h40 : ¬ (i : Int) < 40 := by omega
      clear hin hlr
      repeat' (first | simp -implicitDefEqProofs only [W_skip, W_reg, W_seq, W_rcond, W_cond, W_block, W_loop, W_exit, W_ret, thenQ_normal, thenQ_exit, thenQ_ret, blockQ_normal, blockQ_ret, blockQ_here, regQ_app, rcQ_app, cndK_t, cndK_f, RegW_nil, RegW_none, RegW_some, contW_app, grdK_tt, grdK_ff, grdK_tf, grdK_ft, grdK_undef, actK_p, actK_r, actK_a, actK_w, actK_call, actK_callV, heapK_app, allocK_app, writeK_app, ret1_ret, ret1_normal, ret0_ret, ret0_normal, ret2_ret2, thenK_app, retcv_ret, retcvK_app, optW_some, evs, Arg.ev, aP, aR, aA, aW, pMov, pBin, pUn, pConv, pPick, pFieldAddr, pNilCheck, pExtract, aBin, aUn, aInt, aNew, partL_f, upd, List.getElem?_cons_zero, List.getElem?_cons_succ, List.getD_cons_zero, List.getD_cons_succ, List.set_cons_zero, List.set_cons_succ, Nat.zero_add, Nat.add_zero, List.getElem?_toArray, List.take_zero, List.drop_zero, List.take_succ_cons, List.drop_succ_cons, if_true, if_false, decide_true, decide_false, Bool.false_eq_true, Bool.true_eq_false, Bool.not_true, Bool.not_false, not_true_eq_false, not_false_eq_true, ge_iff_le, gt_iff_lt, beq_self_eq_true, bne_self_eq_false, and_self, and_true, true_and, Option.isSome_some, Heap.get_alloc_same, Heap.alloc_getE, *] | with_reducible refine cndK_d (fun hc => ?_) (fun hc => ?_) | with_reducible refine grdK_d (fun hc => ?_) (fun hc => ?_) | with_reducible refine cndK_i (fun hc => ?_) (fun hc => ?_) | with_reducible refine grdK_i (fun hc => ?_) (fun hc => ?_))
      refine Scan_c (l := s) h5 (Heap.le.refl h5) _ fun v3 h3 hv3 l3 => ?_
      rw [hsc] at hv3 ⊢
      simp only at hv3 ⊢
      have cs := fin.h v3 h3 hv3 l3
      replace cs := Hid.mk cs
      replace hv3 := Hid.mk hv3
      repeat' (first | simp -implicitDefEqProofs only [W_skip, W_reg, W_seq, W_rcond, W_cond, W_block, W_loop, W_exit, W_ret, thenQ_normal, thenQ_exit, thenQ_ret, blockQ_normal, blockQ_ret, blockQ_here, regQ_app, rcQ_app, cndK_t, cndK_f, RegW_nil, RegW_none, RegW_some, contW_app, grdK_tt, grdK_ff, grdK_tf, grdK_ft, grdK_undef, actK_p, actK_r, actK_a, actK_w, actK_call, actK_callV, heapK_app, allocK_app, writeK_app, ret1_ret, ret1_normal, ret0_ret, ret0_normal, ret2_ret2, thenK_app, retcv_ret, retcvK_app, optW_some, evs, Arg.ev, aP, aR, aA, aW, pMov, pBin, pUn, pConv, pPick, pFieldAddr, pNilCheck, pExtract, aBin, aUn, aInt, aNew, partL_f, upd, List.getElem?_cons_zero, List.getElem?_cons_succ, List.getD_cons_zero, List.getD_cons_succ, List.set_cons_zero, List.set_cons_succ, Nat.zero_add, Nat.add_zero, List.getElem?_toArray, List.take_zero, List.drop_zero, List.take_succ_cons, List.drop_succ_cons, if_true, if_false, decide_true, decide_false, Bool.false_eq_true, Bool.true_eq_false, Bool.not_true, Bool.not_false, not_true_eq_false, not_false_eq_true, ge_iff_le, gt_iff_lt, beq_self_eq_true, bne_self_eq_false, and_self, and_true, true_and, Option.isSome_some, Heap.get_alloc_same, Heap.alloc_getE, extract3_0, extract3_1, extract3_2, *] | with_reducible refine cndK_d (fun hc => ?_) (fun hc => ?_) | with_reducible refine grdK_d (fun hc => ?_) (fun hc => ?_) | with_reducible refine cndK_i (fun hc => ?_) (fun hc => ?_) | with_reducible refine grdK_i (fun hc => ?_) (fun hc => ?_))
      refine cs.h.mono fun vr h6 _ hvr => ?_
      subst hvr
      repeat' (first | simp -implicitDefEqProofs only [W_skip, W_reg, W_seq, W_rcond, W_cond, W_block, W_loop, W_exit, W_ret, thenQ_normal, thenQ_exit, thenQ_ret, blockQ_normal, blockQ_ret, blockQ_here, regQ_app, rcQ_app, cndK_t, cndK_f, RegW_nil, RegW_none, RegW_some, contW_app, grdK_tt, grdK_ff, grdK_tf, grdK_ft, grdK_undef, actK_p, actK_r, actK_a, actK_w, actK_call, actK_callV, heapK_app, allocK_app, writeK_app, ret1_ret, ret1_normal, ret0_ret, ret0_normal, ret2_ret2, thenK_app, retcv_ret, retcvK_app, optW_some, evs, Arg.ev, aP, aR, aA, aW, pMov, pBin, pUn, pConv, pPick, pFieldAddr, pNilCheck, pExtract, aBin, aUn, aInt, aNew, partL_f, upd, List.getElem?_cons_zero, List.getElem?_cons_succ, List.getD_cons_zero, List.getD_cons_succ, List.set_cons_zero, List.set_cons_succ, Nat.zero_add, Nat.add_zero, List.getElem?_toArray, List.take_zero, List.drop_zero, List.take_succ_cons, List.drop_succ_cons, if_true, if_false, decide_true, decide_false, Bool.false_eq_true, Bool.true_eq_false, Bool.not_true, Bool.not_false, not_true_eq_false, not_false_eq_true, ge_iff_le, gt_iff_lt, beq_self_eq_true, bne_self_eq_false, and_self, and_true, true_and, Option.isSome_some, Heap.get_alloc_same, Heap.alloc_getE, *] | with_reducible refine cndK_d (fun hc => ?_) (fun hc => ?_) | with_reducible refine grdK_d (fun hc => ?_) (fun hc => ?_) | with_reducible refine cndK_i (fun hc => ?_) (fun hc => ?_) | with_reducible refine grdK_i (fun hc => ?_) (fun hc => ?_))
      exact hq.h _
    · have hlr' : ¬ (i : Int) < (raw.length : Int) := by omega
      clear hin hlr
      repeat' (first | simp -implicitDefEqProofs only [W_skip, W_reg, W_seq, W_rcond, W_cond, W_block, W_loop, W_exit, W_ret, thenQ_normal, thenQ_exit, thenQ_ret, blockQ_normal, blockQ_ret, blockQ_here, regQ_app, rcQ_app, cndK_t, cndK_f, RegW_nil, RegW_none, RegW_some, contW_app, grdK_tt, grdK_ff, grdK_tf, grdK_ft, grdK_undef, actK_p, actK_r, actK_a, actK_w, actK_call, actK_callV, heapK_app, allocK_app, writeK_app, ret1_ret, ret1_normal, ret0_ret, ret0_normal, ret2_ret2, thenK_app, retcv_ret, retcvK_app, optW_some, evs, Arg.ev, aP, aR, aA, aW, pMov, pBin, pUn, pConv, pPick, pFieldAddr, pNilCheck, pExtract, aBin, aUn, aInt, aNew, partL_f, upd, List.getElem?_cons_zero, List.getElem?_cons_succ, List.getD_cons_zero, List.getD_cons_succ, List.set_cons_zero, List.set_cons_succ, Nat.zero_add, Nat.add_zero, List.getElem?_toArray, List.take_zero, List.drop_zero, List.take_succ_cons, List.drop_succ_cons, if_true, if_false, decide_true, decide_false, Bool.false_eq_true, Bool.true_eq_false, Bool.not_true, Bool.not_false, not_true_eq_false, not_false_eq_true, ge_iff_le, gt_iff_lt, beq_self_eq_true, bne_self_eq_false, and_self, and_true, true_and, Option.isSome_some, Heap.get_alloc_same, Heap.alloc_getE, *] | with_reducible refine cndK_d (fun hc => ?_) (fun hc => ?_) | with_reducible refine grdK_d (fun hc => ?_) (fun hc => ?_) | with_reducible refine cndK_i (fun hc => ?_) (fun hc => ?_) | with_reducible refine grdK_i (fun hc => ?_) (fun hc => ?_))
      refine Scan_c (l := s) h5 (Heap.le.refl h5) _ fun v3 h3 hv3 l3 => ?_
      rw [hsc] at hv3 ⊢
      simp only at hv3 ⊢
      have cs := fin.h v3 h3 hv3 l3
      replace cs := Hid.mk cs
      replace hv3 := Hid.mk hv3
      repeat' (first | simp -implicitDefEqProofs only [W_skip, W_reg, W_seq, W_rcond, W_cond, W_block, W_loop, W_exit, W_ret, thenQ_normal, thenQ_exit, thenQ_ret, blockQ_normal, blockQ_ret, blockQ_here, regQ_app, rcQ_app, cndK_t, cndK_f, RegW_nil, RegW_none, RegW_some, contW_app, grdK_tt, grdK_ff, grdK_tf, grdK_ft, grdK_undef, actK_p, actK_r, actK_a, actK_w, actK_call, actK_callV, heapK_app, allocK_app, writeK_app, ret1_ret, ret1_normal, ret0_ret, ret0_normal, ret2_ret2, thenK_app, retcv_ret, retcvK_app, optW_some, evs, Arg.ev, aP, aR, aA, aW, pMov, pBin, pUn, pConv, pPick, pFieldAddr, pNilCheck, pExtract, aBin, aUn, aInt, aNew, partL_f, upd, List.getElem?_cons_zero, List.getElem?_cons_succ, List.getD_cons_zero, List.getD_cons_succ, List.set_cons_zero, List.set_cons_succ, Nat.zero_add, Nat.add_zero, List.getElem?_toArray, List.take_zero, List.drop_zero, List.take_succ_cons, List.drop_succ_cons, if_true, if_false, decide_true, decide_false, Bool.false_eq_true, Bool.true_eq_false, Bool.not_true, Bool.not_false, not_true_eq_false, not_false_eq_true, ge_iff_le, gt_iff_lt, beq_self_eq_true, bne_self_eq_false, and_self, and_true, true_and, Option.isSome_some, Heap.get_alloc_same, Heap.alloc_getE, extract3_0, extract3_1, extract3_2, *] | with_reducible refine cndK_d (fun hc => ?_) (fun hc => ?_) | with_reducible refine grdK_d (fun hc => ?_) (fun hc => ?_) | with_reducible refine cndK_i (fun hc => ?_) (fun hc => ?_) | with_reducible refine grdK_i (fun hc => ?_) (fun hc => ?_))
      refine cs.h.mono fun vr h6 _ hvr => ?_
      subst hvr
      repeat' (first | simp -implicitDefEqProofs only [W_skip, W_reg, W_seq, W_rcond, W_cond, W_block, W_loop, W_exit, W_ret, thenQ_normal, thenQ_exit, thenQ_ret, blockQ_normal, blockQ_ret, blockQ_here, regQ_app, rcQ_app, cndK_t, cndK_f, RegW_nil, RegW_none, RegW_some, contW_app, grdK_tt, grdK_ff, grdK_tf, grdK_ft, grdK_undef, actK_p, actK_r, actK_a, actK_w, actK_call, actK_callV, heapK_app, allocK_app, writeK_app, ret1_ret, ret1_normal, ret0_ret, ret0_normal, ret2_ret2, thenK_app, retcv_ret, retcvK_app, optW_some, evs, Arg.ev, aP, aR, aA, aW, pMov, pBin, pUn, pConv, pPick, pFieldAddr, pNilCheck, pExtract, aBin, aUn, aInt, aNew, partL_f, upd, List.getElem?_cons_zero, List.getElem?_cons_succ, List.getD_cons_zero, List.getD_cons_succ, List.set_cons_zero, List.set_cons_succ, Nat.zero_add, Nat.add_zero, List.getElem?_toArray, List.take_zero, List.drop_zero, List.take_succ_cons, List.drop_succ_cons, if_true, if_false, decide_true, decide_false, Bool.false_eq_true, Bool.true_eq_false, Bool.not_true, Bool.not_false, not_true_eq_false, not_false_eq_true, ge_iff_le, gt_iff_lt, beq_self_eq_true, bne_self_eq_false, and_self, and_true, true_and, Option.isSome_some, Heap.get_alloc_same, Heap.alloc_getE, *] | with_reducible refine cndK_d (fun hc => ?_) (fun hc => ?_) | with_reducible refine grdK_d (fun hc => ?_) (fun hc => ?_) | with_reducible refine cndK_i (fun hc => ?_) (fun hc => ?_) | with_reducible refine grdK_i (fun hc => ?_) (fun hc => ?_))
      exact hq.h _
  case pos =>
    have hlr : (i : Int) < (raw.length : Int) := by omega
    have h40 : (i : Int) < 40 := by omega
    have hwj : IntKind.i64.wrap ((i : Int) + 1) = ((i + 1 : Nat) : Int) := by rw [wrapI (by omega) (by omega)]; rfl
    obtain ⟨r1, r2⟩ := raw_ok hok.h i
    have hwl := piece_len (kind := (raw.getD i (0, 0)).1) r2
    have hps : pairs raw B (i + 1) = pairs raw B i ++ [pairAt raw B i] := pairs_succ _ _ _
    have hsq : seqT (pairs raw B (i + 1)) = seqT (pairs raw B i) ++ (pieceL (raw.getD i (0, 0)).1 (raw.getD i (0, 0)).2).1 ++ B i := by rw [hps, seqT_snoc]; rfl
    have hls : linesM (pairs raw B (i + 1)) 1 = ((linesM (pairs raw B i) 1).1 ++ [⟨(pieceL (raw.getD i (0, 0)).1 (raw.getD i (0, 0)).2).2, (pieceL (raw.getD i (0, 0)).1 (raw.getD i (0, 0)).2).1, if (pieceL (raw.getD i (0, 0)).1 (raw.getD i (0, 0)).2).2 = 3 then pick (raw.getD i (0, 0)).2 4294967296 else 0, (linesM (pairs raw B i) 1).2⟩], (linesM (pairs raw B i) 1).2 + (feedsN (B i) : Int)) := by rw [hps, linesM_snoc]; rfl
    have hll : (linesM (pairs raw B i) 1).1.length = i := by rw [linesM_len, pairs_length]
    have hbl := space_len (hBs.h i)
    have hfe := feedsN_le (B i)
    obtain ⟨s, hs⟩ : ∃ s, seqT (pairs raw B i) = s := ⟨_, rfl⟩
    obtain ⟨ln, hln⟩ : ∃ s, linesM (pairs raw B i) 1 = s := ⟨_, rfl⟩
    rw [hs] at hsq hpl ⊢
    rw [hln] at hls hto hlb1 hll ⊢
    obtain ⟨ts, m⟩ := ln
    simp only at hls hto hlb1 hll ⊢
    obtain ⟨ra, hra⟩ : ∃ x, (raw.getD i (0, 0)).1 = x := ⟨_, rfl⟩
    obtain ⟨rb, hrb⟩ : ∃ x, (raw.getD i (0, 0)).2 = x := ⟨_, rfl⟩
    rw [hra] at r1
    rw [hrb] at r2
    rw [hra, hrb] at hwl hsq hls
    obtain ⟨w, hw⟩ : ∃ w, pieceL ra rb = w := ⟨_, rfl⟩
    rw [hw] at hwl hsq hls
    obtain ⟨w, kd⟩ := w
    simp only at hwl hsq hls
    have ct1 := cat_S (a := s) (b := w) (by omega)
    have ct2 := cat_S (a := s ++ w) (b := B i) (by simp; omega)
    have hwm : IntKind.i64.wrap (m + (feedsN (B i) : Int)) = m + (feedsN (B i) : Int) := wrapI (by omega) (by omega)
    obtain ⟨id, off, cells, own, a1, a2, a3, a4, a5, a6⟩ := Raws.at' (hv1.h.mono lh) (i := i) (by omega)
    rw [hra] at a3
    rw [hrb] at a4
    have g := fun z out' x8 x9 x10 x11 h3 (l3 : h1.le h3) (hz : z = if kd = 3 then pick rb 4294967296 else 0) (t3 : Toks h1 h3 out' (ts ++ [⟨kd, w, z, m⟩])) => hR.h [v, vb, .bool false, .bool true, str (s ++ w ++ B i), .int .i64 (m + (feedsN (B i) : Int)), out', .int .i64 ((i + 1 : Nat) : Int), x8, x9, x10, x11, undef, undef, undef] h3 hlt'
      ⟨l3, out', x8, x9, x10, x11, by rw [hsq, hls], by rw [hls]; subst hz; exact t3⟩
    replace g := Hid.mk g
    replace hls := Hid.mk hls
    replace hsq := Hid.mk hsq
    replace hto := Hid.mk hto
    replace hs := Hid.mk hs
    replace hln := Hid.mk hln
    clear hps hlt' hi hn
    -- the rest of a round, behind the token's number
    have rest : ∀ (z : Int) (h3 : Heap), h'.le h3 → z = (if kd = 3 then pick rb 4294967296 else 0) → ∃ v' h5, wAppend 4 40 (h3.alloc (.blk (Tok.cells ⟨kd, w, z, m⟩) true)) [out, .slice (some ⟨h3.next, 0, none⟩) 1 4] = some (v', h5) ∧ h1.le h5 ∧ Toks h1 h5 v' (ts ++ [⟨kd, w, z, m⟩]) := by
      intro z h3 l3 hz
      obtain ⟨v', h5, b1, b2, b3, _⟩ := toks_append (hto.h.mono l3) (lh.trans l3) (by omega) ⟨kd, w, z, m⟩
      exact ⟨v', h5, b1, b3, b2⟩
    replace rest := Hid.mk rest
    have lh' := Hid.mk lh
    clear lh
    repeat' (first | simp -implicitDefEqProofs only [W_skip, W_reg, W_seq, W_rcond, W_cond, W_block, W_loop, W_exit, W_ret, thenQ_normal, thenQ_exit, thenQ_ret, blockQ_normal, blockQ_ret, blockQ_here, regQ_app, rcQ_app, cndK_t, cndK_f, RegW_nil, RegW_none, RegW_some, contW_app, grdK_tt, grdK_ff, grdK_tf, grdK_ft, grdK_undef, actK_p, actK_r, actK_a, actK_w, actK_call, actK_callV, heapK_app, allocK_app, writeK_app, ret1_ret, ret1_normal, ret0_ret, ret0_normal, ret2_ret2, thenK_app, retcv_ret, retcvK_app, optW_some, evs, Arg.ev, aP, aA, aW, pMov, pBin, pUn, pConv, pPick, pFieldAddr, pNilCheck, pExtract, aBin, aUn, aInt, aNew, partL_f, upd, List.getElem?_cons_zero, List.getElem?_cons_succ, List.getD_cons_zero, List.getD_cons_succ, List.set_cons_zero, List.set_cons_succ, Nat.zero_add, Nat.add_zero, List.getElem?_toArray, List.take_zero, List.drop_zero, List.take_succ_cons, List.drop_succ_cons, if_true, if_false, decide_true, decide_false, Bool.false_eq_true, Bool.true_eq_false, Bool.not_true, Bool.not_false, not_true_eq_false, not_false_eq_true, ge_iff_le, gt_iff_lt, beq_self_eq_true, bne_self_eq_false, and_self, and_true, true_and, Option.isSome_some, Heap.get_alloc_same, Heap.alloc_getE, aR_ld, ldK_blk, *] | with_reducible refine cndK_d (fun hc => ?_) (fun hc => ?_) | with_reducible refine grdK_d (fun hc => ?_) (fun hc => ?_) | with_reducible refine cndK_i (fun hc => ?_) (fun hc => ?_) | with_reducible refine grdK_i (fun hc => ?_) (fun hc => ?_))
    refine piece_c r1 r2 h' _ fun h3 l3 => ?_
    rw [hw]
    simp only
    by_cases hk3 : kd = 3
    · have hk3' : (kd == 3) = true := by simp [hk3]
      have c1 := l3.get a2
      obtain ⟨v', h5, b1, b2, b3⟩ := rest.h (pick rb 4294967296) h3 l3 (by rw [if_pos hk3])
      have bt := bslice_tok ⟨kd, w, pick rb 4294967296, m⟩
      have b4 := build4 kd (pick rb 4294967296) m w
      have g' := fun x8 x9 x10 x11 h6 (l6 : h5.le h6) => g.h (pick rb 4294967296) v' x8 x9 x10 x11 h6 (b2.trans l6) (by rw [if_pos hk3]) (b3.mono l6)
      replace g' := Hid.mk g'
      have b2' := Hid.mk b2
      clear hk3 b2 b3 l3 g
      repeat' (first | simp -implicitDefEqProofs only [W_skip, W_reg, W_seq, W_rcond, W_cond, W_block, W_loop, W_exit, W_ret, thenQ_normal, thenQ_exit, thenQ_ret, blockQ_normal, blockQ_ret, blockQ_here, regQ_app, rcQ_app, cndK_t, cndK_f, RegW_nil, RegW_none, RegW_some, contW_app, grdK_tt, grdK_ff, grdK_tf, grdK_ft, grdK_undef, actK_p, actK_r, actK_a, actK_w, actK_call, actK_callV, heapK_app, allocK_app, writeK_app, ret1_ret, ret1_normal, ret0_ret, ret0_normal, ret2_ret2, thenK_app, retcv_ret, retcvK_app, optW_some, evs, Arg.ev, aP, aA, aW, pMov, pBin, pUn, pConv, pPick, pFieldAddr, pNilCheck, pExtract, aBin, aUn, aInt, aNew, partL_f, upd, List.getElem?_cons_zero, List.getElem?_cons_succ, List.getD_cons_zero, List.getD_cons_succ, List.set_cons_zero, List.set_cons_succ, Nat.zero_add, Nat.add_zero, List.getElem?_toArray, List.take_zero, List.drop_zero, List.take_succ_cons, List.drop_succ_cons, if_true, if_false, decide_true, decide_false, Bool.false_eq_true, Bool.true_eq_false, Bool.not_true, Bool.not_false, not_true_eq_false, not_false_eq_true, ge_iff_le, gt_iff_lt, beq_self_eq_true, bne_self_eq_false, and_self, and_true, true_and, Option.isSome_some, Heap.get_alloc_same, Heap.alloc_getE, aR_ld, ldK_blk, extract0, extract1, *] | with_reducible refine cndK_d (fun hc => ?_) (fun hc => ?_) | with_reducible refine grdK_d (fun hc => ?_) (fun hc => ?_) | with_reducible refine cndK_i (fun hc => ?_) (fun hc => ?_) | with_reducible refine grdK_i (fun hc => ?_) (fun hc => ?_))
      refine pick_c _ 4294967296 (by decide) h3 _ ?_
      repeat' (first | simp -implicitDefEqProofs only [W_skip, W_reg, W_seq, W_rcond, W_cond, W_block, W_loop, W_exit, W_ret, thenQ_normal, thenQ_exit, thenQ_ret, blockQ_normal, blockQ_ret, blockQ_here, regQ_app, rcQ_app, cndK_t, cndK_f, RegW_nil, RegW_none, RegW_some, contW_app, grdK_tt, grdK_ff, grdK_tf, grdK_ft, grdK_undef, actK_p, actK_r, actK_a, actK_w, actK_call, actK_callV, heapK_app, allocK_app, writeK_app, ret1_ret, ret1_normal, ret0_ret, ret0_normal, ret2_ret2, thenK_app, retcv_ret, retcvK_app, optW_some, evs, Arg.ev, aP, aA, aW, pMov, pBin, pUn, pConv, pPick, pFieldAddr, pNilCheck, pExtract, aBin, aUn, aInt, aNew, partL_f, upd, List.getElem?_cons_zero, List.getElem?_cons_succ, List.getD_cons_zero, List.getD_cons_succ, List.set_cons_zero, List.set_cons_succ, Nat.zero_add, Nat.add_zero, List.getElem?_toArray, List.take_zero, List.drop_zero, List.take_succ_cons, List.drop_succ_cons, if_true, if_false, decide_true, decide_false, Bool.false_eq_true, Bool.true_eq_false, Bool.not_true, Bool.not_false, not_true_eq_false, not_false_eq_true, ge_iff_le, gt_iff_lt, beq_self_eq_true, bne_self_eq_false, and_self, and_true, true_and, Option.isSome_some, Heap.get_alloc_same, Heap.alloc_getE, aR_ld, ldK_blk, *] | with_reducible refine cndK_d (fun hc => ?_) (fun hc => ?_) | with_reducible refine grdK_d (fun hc => ?_) (fun hc => ?_) | with_reducible refine cndK_i (fun hc => ?_) (fun hc => ?_) | with_reducible refine grdK_i (fun hc => ?_) (fun hc => ?_))
      refine blank_c (SlV.mono b2'.h hvb1.h) hob.h hlb i _ fun h6 l6 => ?_
      rw [hBi.h i]
      replace l6 := Hid.mk l6
      repeat' (first | simp -implicitDefEqProofs only [W_skip, W_reg, W_seq, W_rcond, W_cond, W_block, W_loop, W_exit, W_ret, thenQ_normal, thenQ_exit, thenQ_ret, blockQ_normal, blockQ_ret, blockQ_here, regQ_app, rcQ_app, cndK_t, cndK_f, RegW_nil, RegW_none, RegW_some, contW_app, grdK_tt, grdK_ff, grdK_tf, grdK_ft, grdK_undef, actK_p, actK_r, actK_a, actK_w, actK_call, actK_callV, heapK_app, allocK_app, writeK_app, ret1_ret, ret1_normal, ret0_ret, ret0_normal, ret2_ret2, thenK_app, retcv_ret, retcvK_app, optW_some, evs, Arg.ev, aP, aR, aA, aW, pMov, pBin, pUn, pConv, pPick, pFieldAddr, pNilCheck, pExtract, aBin, aUn, aInt, aNew, partL_f, upd, List.getElem?_cons_zero, List.getElem?_cons_succ, List.getD_cons_zero, List.getD_cons_succ, List.set_cons_zero, List.set_cons_succ, Nat.zero_add, Nat.add_zero, List.getElem?_toArray, List.take_zero, List.drop_zero, List.take_succ_cons, List.drop_succ_cons, if_true, if_false, decide_true, decide_false, Bool.false_eq_true, Bool.true_eq_false, Bool.not_true, Bool.not_false, not_true_eq_false, not_false_eq_true, ge_iff_le, gt_iff_lt, beq_self_eq_true, bne_self_eq_false, and_self, and_true, true_and, Option.isSome_some, Heap.get_alloc_same, Heap.alloc_getE, *] | with_reducible refine cndK_d (fun hc => ?_) (fun hc => ?_) | with_reducible refine grdK_d (fun hc => ?_) (fun hc => ?_) | with_reducible refine cndK_i (fun hc => ?_) (fun hc => ?_) | with_reducible refine grdK_i (fun hc => ?_) (fun hc => ?_))
      refine feeds_c (by omega) h6 _ ?_
      repeat' (first | simp -implicitDefEqProofs only [W_skip, W_reg, W_seq, W_rcond, W_cond, W_block, W_loop, W_exit, W_ret, thenQ_normal, thenQ_exit, thenQ_ret, blockQ_normal, blockQ_ret, blockQ_here, regQ_app, rcQ_app, cndK_t, cndK_f, RegW_nil, RegW_none, RegW_some, contW_app, grdK_tt, grdK_ff, grdK_tf, grdK_ft, grdK_undef, actK_p, actK_r, actK_a, actK_w, actK_call, actK_callV, heapK_app, allocK_app, writeK_app, ret1_ret, ret1_normal, ret0_ret, ret0_normal, ret2_ret2, thenK_app, retcv_ret, retcvK_app, optW_some, evs, Arg.ev, aP, aR, aA, aW, pMov, pBin, pUn, pConv, pPick, pFieldAddr, pNilCheck, pExtract, aBin, aUn, aInt, aNew, partL_f, upd, List.getElem?_cons_zero, List.getElem?_cons_succ, List.getD_cons_zero, List.getD_cons_succ, List.set_cons_zero, List.set_cons_succ, Nat.zero_add, Nat.add_zero, List.getElem?_toArray, List.take_zero, List.drop_zero, List.take_succ_cons, List.drop_succ_cons, if_true, if_false, decide_true, decide_false, Bool.false_eq_true, Bool.true_eq_false, Bool.not_true, Bool.not_false, not_true_eq_false, not_false_eq_true, ge_iff_le, gt_iff_lt, beq_self_eq_true, bne_self_eq_false, and_self, and_true, true_and, Option.isSome_some, Heap.get_alloc_same, Heap.alloc_getE, *] | with_reducible refine cndK_d (fun hc => ?_) (fun hc => ?_) | with_reducible refine grdK_d (fun hc => ?_) (fun hc => ?_) | with_reducible refine cndK_i (fun hc => ?_) (fun hc => ?_) | with_reducible refine grdK_i (fun hc => ?_) (fun hc => ?_))
      exact g'.h _ _ _ _ _ l6.h
    · have hk3' : (kd == 3) = false := by simp [hk3]
      obtain ⟨v', h5, b1, b2, b3⟩ := rest.h 0 h3 l3 (by rw [if_neg hk3])
      have bt := bslice_tok ⟨kd, w, 0, m⟩
      have b4 := build4 kd 0 m w
      have g' := fun x8 x9 x10 x11 h6 (l6 : h5.le h6) => g.h 0 v' x8 x9 x10 x11 h6 (b2.trans l6) (by rw [if_neg hk3]) (b3.mono l6)
      replace g' := Hid.mk g'
      have b2' := Hid.mk b2
      clear hk3 b2 b3 l3 g
      repeat' (first | simp -implicitDefEqProofs only [W_skip, W_reg, W_seq, W_rcond, W_cond, W_block, W_loop, W_exit, W_ret, thenQ_normal, thenQ_exit, thenQ_ret, blockQ_normal, blockQ_ret, blockQ_here, regQ_app, rcQ_app, cndK_t, cndK_f, RegW_nil, RegW_none, RegW_some, contW_app, grdK_tt, grdK_ff, grdK_tf, grdK_ft, grdK_undef, actK_p, actK_r, actK_a, actK_w, actK_call, actK_callV, heapK_app, allocK_app, writeK_app, ret1_ret, ret1_normal, ret0_ret, ret0_normal, ret2_ret2, thenK_app, retcv_ret, retcvK_app, optW_some, evs, Arg.ev, aP, aA, aW, pMov, pBin, pUn, pConv, pPick, pFieldAddr, pNilCheck, pExtract, aBin, aUn, aInt, aNew, partL_f, upd, List.getElem?_cons_zero, List.getElem?_cons_succ, List.getD_cons_zero, List.getD_cons_succ, List.set_cons_zero, List.set_cons_succ, Nat.zero_add, Nat.add_zero, List.getElem?_toArray, List.take_zero, List.drop_zero, List.take_succ_cons, List.drop_succ_cons, if_true, if_false, decide_true, decide_false, Bool.false_eq_true, Bool.true_eq_false, Bool.not_true, Bool.not_false, not_true_eq_false, not_false_eq_true, ge_iff_le, gt_iff_lt, beq_self_eq_true, bne_self_eq_false, and_self, and_true, true_and, Option.isSome_some, Heap.get_alloc_same, Heap.alloc_getE, aR_ld, ldK_blk, extract0, extract1, *] | with_reducible refine cndK_d (fun hc => ?_) (fun hc => ?_) | with_reducible refine grdK_d (fun hc => ?_) (fun hc => ?_) | with_reducible refine cndK_i (fun hc => ?_) (fun hc => ?_) | with_reducible refine grdK_i (fun hc => ?_) (fun hc => ?_))
      refine blank_c (SlV.mono b2'.h hvb1.h) hob.h hlb i _ fun h6 l6 => ?_
      rw [hBi.h i]
      replace l6 := Hid.mk l6
      repeat' (first | simp -implicitDefEqProofs only [W_skip, W_reg, W_seq, W_rcond, W_cond, W_block, W_loop, W_exit, W_ret, thenQ_normal, thenQ_exit, thenQ_ret, blockQ_normal, blockQ_ret, blockQ_here, regQ_app, rcQ_app, cndK_t, cndK_f, RegW_nil, RegW_none, RegW_some, contW_app, grdK_tt, grdK_ff, grdK_tf, grdK_ft, grdK_undef, actK_p, actK_r, actK_a, actK_w, actK_call, actK_callV, heapK_app, allocK_app, writeK_app, ret1_ret, ret1_normal, ret0_ret, ret0_normal, ret2_ret2, thenK_app, retcv_ret, retcvK_app, optW_some, evs, Arg.ev, aP, aR, aA, aW, pMov, pBin, pUn, pConv, pPick, pFieldAddr, pNilCheck, pExtract, aBin, aUn, aInt, aNew, partL_f, upd, List.getElem?_cons_zero, List.getElem?_cons_succ, List.getD_cons_zero, List.getD_cons_succ, List.set_cons_zero, List.set_cons_succ, Nat.zero_add, Nat.add_zero, List.getElem?_toArray, List.take_zero, List.drop_zero, List.take_succ_cons, List.drop_succ_cons, if_true, if_false, decide_true, decide_false, Bool.false_eq_true, Bool.true_eq_false, Bool.not_true, Bool.not_false, not_true_eq_false, not_false_eq_true, ge_iff_le, gt_iff_lt, beq_self_eq_true, bne_self_eq_false, and_self, and_true, true_and, Option.isSome_some, Heap.get_alloc_same, Heap.alloc_getE, *] | with_reducible refine cndK_d (fun hc => ?_) (fun hc => ?_) | with_reducible refine grdK_d (fun hc => ?_) (fun hc => ?_) | with_reducible refine cndK_i (fun hc => ?_) (fun hc => ?_) | with_reducible refine grdK_i (fun hc => ?_) (fun hc => ?_))
      refine feeds_c (by omega) h6 _ ?_
      repeat' (first | simp -implicitDefEqProofs only [W_skip, W_reg, W_seq, W_rcond, W_cond, W_block, W_loop, W_exit, W_ret, thenQ_normal, thenQ_exit, thenQ_ret, blockQ_normal, blockQ_ret, blockQ_here, regQ_app, rcQ_app, cndK_t, cndK_f, RegW_nil, RegW_none, RegW_some, contW_app, grdK_tt, grdK_ff, grdK_tf, grdK_ft, grdK_undef, actK_p, actK_r, actK_a, actK_w, actK_call, actK_callV, heapK_app, allocK_app, writeK_app, ret1_ret, ret1_normal, ret0_ret, ret0_normal, ret2_ret2, thenK_app, retcv_ret, retcvK_app, optW_some, evs, Arg.ev, aP, aR, aA, aW, pMov, pBin, pUn, pConv, pPick, pFieldAddr, pNilCheck, pExtract, aBin, aUn, aInt, aNew, partL_f, upd, List.getElem?_cons_zero, List.getElem?_cons_succ, List.getD_cons_zero, List.getD_cons_succ, List.set_cons_zero, List.set_cons_succ, Nat.zero_add, Nat.add_zero, List.getElem?_toArray, List.take_zero, List.drop_zero, List.take_succ_cons, List.drop_succ_cons, if_true, if_false, decide_true, decide_false, Bool.false_eq_true, Bool.true_eq_false, Bool.not_true, Bool.not_false, not_true_eq_false, not_false_eq_true, ge_iff_le, gt_iff_lt, beq_self_eq_true, bne_self_eq_false, and_self, and_true, true_and, Option.isSome_some, Heap.get_alloc_same, Heap.alloc_getE, *] | with_reducible refine cndK_d (fun hc => ?_) (fun hc => ?_) | with_reducible refine grdK_d (fun hc => ?_) (fun hc => ?_) | with_reducible refine cndK_i (fun hc => ?_) (fun hc => ?_) | with_reducible refine grdK_i (fun hc => ?_) (fun hc => ?_))
      exact g'.h _ _ _ _ _ l6.h
end Go.Eng.Tk

set_option linter.unusedSimpArgs false
set_option linter.unusedVariables false
namespace Go.Eng.Tk
open Go Go.Eng Go.Proofs

/-! ### blanks ahead -/
def aheadL (bl : Nat → List UInt8) (n : Nat) : List UInt8 := (List.range n).flatMap bl
theorem aheadL_succ (bl : Nat → List UInt8) (n : Nat) : aheadL bl (n + 1) = aheadL bl n ++ bl n := by simp [aheadL, List.range_succ]
theorem aheadL_len {bl : Nat → List UInt8} (hb : ∀ i, bl i ∈ spaces) : ∀ n, (aheadL bl n).length ≤ 10 * n
  | 0 => by simp [aheadL]
  | n + 1 => by
    rw [aheadL_succ]
    have h1 := aheadL_len hb n
    have h2 := space_len (hb n)
    simp only [List.length_append]; omega
theorem scanW_ahead {bl : Nat → List UInt8} (hb : ∀ i, bl i ∈ spaces) : ∀ (n : Nat) (x : List UInt8) (m : Int), scanW (aheadL bl n ++ x) m = scanW x (m + (feedsN (aheadL bl n) : Int))
  | 0, x, m => by simp [aheadL, feedsN]
  | n + 1, x, m => by
    rw [aheadL_succ, List.append_assoc, scanW_ahead hb n, scanW_blank (hb n), feedsN_app]
    congr 1; omega
theorem scanR_ahead {bl : Nat → List UInt8} (hb : ∀ i, bl i ∈ spaces) {n : Nat} (hn : n ≤ 20) {x : List UInt8} (hx : x.length ≤ 10000) :
    (scanR (aheadL bl n ++ x)).1 = (scanR x).1.map (shT (feedsN (aheadL bl n) : Int)) ∧ (scanR (aheadL bl n ++ x)).2.1 = (scanR x).2.1 ∧ ((scanR x).2.1 = 0 ∨ ((scanR x).2.1 = 50 ∧ (scanR (aheadL bl n ++ x)).2.2 = (scanR x).2.2 + (feedsN (aheadL bl n) : Int))) := by
  have hl := aheadL_len hb n
  unfold scanR
  have e1 : ¬ 20000 < (aheadL bl n ++ x).length := by simp only [List.length_append]; omega
  have e2 : ¬ 20000 < x.length := by omega
  rw [if_neg e1, if_neg e2, scanS_W, scanS_W, scanW_ahead hb, scanW_shift]
  simp only
  cases (scanW x 1).2.2 with
  | true => simp [endT, shT]
  | false => simp
theorem linesM_shift : ∀ (ps : List (Tok × List UInt8)) (m d : Int), linesM ps (m + d) = ((linesM ps m).1.map (shT d), (linesM ps m).2 + d)
  | [], m, d => rfl
  | p :: ps, m, d => by
    simp only [linesM]
    rw [show m + d + (feedsN p.2 : Int) = m + (feedsN p.2 : Int) + d by omega, linesM_shift ps]
    simp [shT]
theorem scanR_join {pa pb : List (Tok × List UInt8)} (ha : goodS pa) (hb : goodS pb) (hl : (seqT pa).length + (seqT pb).length ≤ 19000) :
    scanR (seqT pa ++ [10] ++ seqT pb) = ((linesM pa 1).1 ++ (scanR (seqT pb)).1.map (shT ((feedsN (seqT pa) : Int) + 1)), 0, 0) := by
  have h1 : scanW (seqT pa ++ [10] ++ seqT pb) 1 = ((linesM pa 1).1 ++ (scanW ([10] ++ seqT pb) (linesM pa 1).2).1, (scanW ([10] ++ seqT pb) (linesM pa 1).2).2) := by
    rw [List.append_assoc]; exact scanW_seq ha _ 1
  have h2 : scanW ([10] ++ seqT pb) (linesM pa 1).2 = scanW (seqT pb) (1 + ((feedsN (seqT pa) : Int) + 1)) := by
    rw [scanW_blank (x := [10]) (by decide), linesM_line ha]
    congr 1
  have h3 := scanW_seq hb [] 1
  rw [List.append_nil, scanW_nil] at h3
  rw [h2, scanW_shift, h3] at h1
  rw [scanR_seq hb (by omega)]
  unfold scanR
  rw [if_neg (by simp; omega), scanS_W, h1]
  simp [shT, endT]
theorem shift_set {ts : List Tok} {i : Nat} {t : Tok} (hi : ts[i]? = some t) (d : Int) : ((ts.take i).map (shT d) ++ ts.drop i).set i (shT d t) = (ts.take (i + 1)).map (shT d) ++ ts.drop (i + 1) := by
  have hlt := (List.getElem?_eq_some_iff.1 hi).1
  have hd : ts.drop i = t :: ts.drop (i + 1) := by
    rw [List.drop_eq_getElem_cons hlt]
    congr 1
    exact (List.getElem?_eq_some_iff.1 hi).2
  have hl : ((ts.take i).map (shT d)).length = i := by simp; omega
  rw [hd, List.set_append_right (h := by omega), hl, Nat.sub_self, List.set_cons_zero, List.take_add_one, hi]
  simp
theorem shift_get {ts : List Tok} {i : Nat} {t : Tok} (hi : ts[i]? = some t) (d : Int) : ((ts.take i).map (shT d) ++ ts.drop i)[i]? = some t := by
  have hlt := (List.getElem?_eq_some_iff.1 hi).1
  have hl : ((ts.take i).map (shT d)).length = i := by simp; omega
  rw [List.getElem?_append_right (by omega), hl, Nat.sub_self, List.getElem?_drop, Nat.add_zero]
  exact hi
end Go.Eng.Tk

set_option linter.unusedSimpArgs false
set_option linter.unusedVariables false
namespace Go.Eng.Tk
open Go Go.Eng Go.Proofs

theorem flat_set : ∀ (ts : List Tok) (i : Nat) (t : Tok), ts[i]? = some t → ∀ z : Int, (ts.map Tok.cells).flatten.set (i * 4 + 3) (.int .i64 z) = ((ts.set i { t with line := z }).map Tok.cells).flatten
  | [], i, t, h, z => by simp at h
  | u :: ts, 0, t, h, z => by
    simp only [List.getElem?_cons_zero, Option.some.injEq] at h
    subst h
    rfl
  | u :: ts, i + 1, t, h, z => by
    have ih := flat_set ts i t (by simpa using h) z
    have hl : u.cells.length = 4 := rfl
    rw [List.map_cons, List.flatten_cons, List.set_append_right (h := by omega), hl, show (i + 1) * 4 + 3 - 4 = i * 4 + 3 by omega, ih]
    simp
theorem flat_len (ts : List Tok) : (ts.map Tok.cells).flatten.length = ts.length * 4 := by
  induction ts with
  | nil => rfl
  | cons t ts ih =>
    rw [List.map_cons, List.flatten_cons, List.length_append, ih]
    have : t.cells.length = 4 := rfl
    simp only [List.length_cons]; omega
theorem flat_get : ∀ (ts : List Tok) (i : Nat) (t : Tok), ts[i]? = some t → (ts.map Tok.cells).flatten[i * 4 + 3]? = some (.int .i64 t.line)
  | [], i, t, h => by simp at h
  | u :: ts, 0, t, h => by
    simp only [List.getElem?_cons_zero, Option.some.injEq] at h
    subst h
    rfl
  | u :: ts, i + 1, t, h => by
    have ih := flat_get ts i t (by simpa using h)
    have hl : u.cells.length = 4 := rfl
    rw [List.map_cons, List.flatten_cons, List.getElem?_append_right (by omega), hl, show (i + 1) * 4 + 3 - 4 = i * 4 + 3 by omega, ih]
/-- a token's line is written -/
theorem toks_line {h0 h : Heap} {v : Value} {ts : List Tok} {i : Nat} {t : Tok} (ha : Toks h0 h v ts) (hi : ts[i]? = some t) (z : Int) :
    ∃ id cells, v = .slice (some ⟨id, 0, none⟩) ts.length 4 ∧ h0.next ≤ id ∧ pIdxAddrS 4 [v, .int .i64 i] = some (.pointer (some ⟨id, i * 4, none⟩)) ∧ h.get id = some (.blk cells true) ∧ cells[i * 4 + 3]? = some (.int .i64 t.line) ∧ i * 4 + 3 < cells.length ∧
      Toks h0 (h.set id (.blk (cells.set (i * 4 + 3) (.int .i64 z)) true)) v (ts.set i { t with line := z }) := by
  have hlt := (List.getElem?_eq_some_iff.1 hi).1
  rcases ha with ⟨rfl, he⟩ | ⟨id, rfl, hid, hg, hx⟩
  · rw [List.map_eq_nil_iff] at he
    subst he; simp at hi
  · refine ⟨id, _, by simp, hid, ?_, hg, flat_get ts i t hi, by rw [flat_len]; omega, .inr ⟨id, by simp, hid, ?_, ?_⟩⟩
    · simp [pIdxAddrS, hlt]
    · rw [flat_set ts i t hi z]
      exact Heap.set_getS _ _ _ (by rw [hg]; rfl)
    · intro x hx'
      obtain ⟨u, _, rfl⟩ := List.mem_map.1 hx'
      rfl

theorem shifts_D {ahead : List UInt8} (hal : ahead.length ≤ 1000) {N : Nat} {hb hm : Heap} {vl vm : Value} {tl tm : List Tok} {h : Heap} (htl : Toks hb h vl tl) (htm : Toks hm h vm tm) (hlt : ∀ id n c, vl = .slice (some ⟨id, 0, none⟩) n c → id < hm.next) (hok : ∀ t ∈ tl, 0 ≤ t.line ∧ t.line ≤ 100000) (hll : tl.length ≤ 100000) (hle : hb.le h)
    {e0 e1 e2 e3 e4 e5 e6 e7 e9 e10 e12 e13 e15 e16 e18 e19 e20 e21 : Value} {Q' : AExit → List Value → Heap → Prop}
    (hQ : ∀ h' z, hb.le h' → Toks hb h' vl (tl.map (shT (feedsN ahead : Int))) → Toks hm h' vm tm → Q' (.exit 6) [e0, e1, e2, e3, e4, e5, e6, e7, str ahead, e9, e10, vl, e12, e13, vm, e15, e16, z, e18, e19, e20, e21] h') :
    LoopW Tryd.prog N c8.vars c8_l27 [e0, e1, e2, e3, e4, e5, e6, e7, str ahead, e9, e10, vl, e12, e13, vm, e15, e16, .int .i64 0, e18, e19, e20, e21] h Q' := by
  replace hQ := Hid.mk hQ
  replace hok := Hid.mk hok
  replace hlt := Hid.mk hlt
  obtain ⟨d, hd⟩ : ∃ d : Int, (feedsN ahead : Int) = d := ⟨_, rfl⟩
  have hd1 : 0 ≤ d ∧ d ≤ 1000 := by have := feedsN_le ahead; omega
  refine LoopW.upto tl.length (fun i e h' => e = [e0, e1, e2, e3, e4, e5, e6, e7, str ahead, e9, e10, vl, e12, e13, vm, e15, e16, .int .i64 i, e18, e19, e20, e21] ∧ Toks hb h' vl ((tl.take i).map (shT d) ++ tl.drop i) ∧ Toks hm h' vm tm ∧ hb.le h') ?_ (Nat.zero_le _) ⟨rfl, by simpa using htl, htm, hle⟩
  clear htl htm hle
  rintro i _ h' R hi ⟨rfl, htl, htm, hle⟩ hR
  delta c8_l27 c8_r24 c8_r25 c8_r26
  have hlen : ((tl.take i).map (shT d) ++ tl.drop i).length = tl.length := by simp; omega
  have ll := tokS_len htl.sl
  rw [hlen] at ll
  by_cases hlt' : i < tl.length
  case neg =>
    have hlt'' : ¬ (i : Int) < (tl.length : Int) := by omega
    have g := hQ.h h' (.int .i64 i) hle (by rw [hd]; rwa [List.take_of_length_le (by omega), List.drop_of_length_le (by omega), List.append_nil] at htl) htm
    replace g := Hid.mk g
    clear htl htm hle
    repeat' (first | simp -implicitDefEqProofs only [W_skip, W_reg, W_seq, W_rcond, W_cond, W_block, W_loop, W_exit, W_ret, thenQ_normal, thenQ_exit, thenQ_ret, blockQ_normal, blockQ_ret, blockQ_here, regQ_app, rcQ_app, cndK_t, cndK_f, RegW_nil, RegW_none, RegW_some, contW_app, grdK_tt, grdK_ff, grdK_tf, grdK_ft, grdK_undef, actK_p, actK_r, actK_a, actK_w, actK_call, actK_callV, heapK_app, allocK_app, writeK_app, ret1_ret, ret1_normal, ret0_ret, ret0_normal, ret2_ret2, thenK_app, retcv_ret, retcvK_app, optW_some, evs, Arg.ev, aP, aR, aA, aW, pMov, pBin, pUn, pConv, pPick, pFieldAddr, pNilCheck, pExtract, aBin, aUn, aInt, aNew, partL_f, upd, List.getElem?_cons_zero, List.getElem?_cons_succ, List.getD_cons_zero, List.getD_cons_succ, List.set_cons_zero, List.set_cons_succ, Nat.zero_add, Nat.add_zero, List.getElem?_toArray, List.take_zero, List.drop_zero, List.take_succ_cons, List.drop_succ_cons, if_true, if_false, decide_true, decide_false, Bool.false_eq_true, Bool.true_eq_false, Bool.not_true, Bool.not_false, not_true_eq_false, not_false_eq_true, ge_iff_le, gt_iff_lt, beq_self_eq_true, bne_self_eq_false, and_self, and_true, true_and, Option.isSome_some, Heap.get_alloc_same, Heap.alloc_getE, *] | with_reducible refine cndK_d (fun hc => ?_) (fun hc => ?_) | with_reducible refine grdK_d (fun hc => ?_) (fun hc => ?_) | with_reducible refine cndK_i (fun hc => ?_) (fun hc => ?_) | with_reducible refine grdK_i (fun hc => ?_) (fun hc => ?_))
    exact g.h
  case pos =>
    have hlt'' : (i : Int) < (tl.length : Int) := by omega
    have hwj : IntKind.i64.wrap ((i : Int) + 1) = ((i + 1 : Nat) : Int) := by rw [wrapI (by omega) (by omega)]; rfl
    obtain ⟨t, ht⟩ : ∃ t, tl[i]? = some t := ⟨_, List.getElem?_eq_getElem hlt'⟩
    obtain ⟨o1, o2⟩ := hok.h t (List.mem_of_getElem? ht)
    obtain ⟨id, cells, hv, hid, a1, a2, a3, a4, a5⟩ := toks_line htl (shift_get ht d) (t.line + d)
    have hw2 : IntKind.i64.wrap (t.line + d) = t.line + d := wrapI (by omega) (by omega)
    have st := wStore_int (k := .i64) (z := t.line + d) (off := i * 4 + 3) a2 a4
    have hne : id < hm.next := hlt.h id _ _ hv
    have e : ((tl.take i).map (shT d) ++ tl.drop i).set i { t with line := t.line + d } = (tl.take (i + 1)).map (shT d) ++ tl.drop (i + 1) := shift_set ht d
    rw [e] at a5
    have htm2 : Toks hm (h'.set id (.blk (cells.set (i * 4 + 3) (.int .i64 (t.line + d))) true)) vm tm := by
      refine htm.get fun id' hv' _ => ?_
      rcases htm with ⟨hn, _⟩ | ⟨id2, hv2, hi2, _⟩
      · rw [hn] at hv'; cases hv'
      · rw [hv2] at hv'
        cases hv'
        exact Heap.set_getE _ _ _ _ (by simp; omega)
    have hle2 := hle.set hid (.blk (cells.set (i * 4 + 3) (.int .i64 (t.line + d))) true)
    obtain ⟨h2, hh2⟩ : ∃ x, h'.set id (.blk (cells.set (i * 4 + 3) (.int .i64 (t.line + d))) true) = x := ⟨_, rfl⟩
    rw [hh2] at a5 htm2 st hle2
    have g := hR.h [e0, e1, e2, e3, e4, e5, e6, e7, str ahead, e9, e10, vl, e12, e13, vm, e15, e16, .int .i64 ((i + 1 : Nat) : Int), e18, e19, e20, e21] h2 hlt' ⟨rfl, a5, htm2, hle2⟩
    replace g := Hid.mk g
    clear htl htm a5 htm2 hle hle2 hv e hh2 ht hlen
    repeat' (first | simp -implicitDefEqProofs only [W_skip, W_reg, W_seq, W_rcond, W_cond, W_block, W_loop, W_exit, W_ret, thenQ_normal, thenQ_exit, thenQ_ret, blockQ_normal, blockQ_ret, blockQ_here, regQ_app, rcQ_app, cndK_t, cndK_f, RegW_nil, RegW_none, RegW_some, contW_app, grdK_tt, grdK_ff, grdK_tf, grdK_ft, grdK_undef, actK_p, actK_r, actK_a, actK_w, actK_call, actK_callV, heapK_app, allocK_app, writeK_app, ret1_ret, ret1_normal, ret0_ret, ret0_normal, ret2_ret2, thenK_app, retcv_ret, retcvK_app, optW_some, evs, Arg.ev, aP, aA, aW, pMov, pBin, pUn, pConv, pPick, pFieldAddr, pNilCheck, pExtract, aBin, aUn, aInt, aNew, partL_f, upd, List.getElem?_cons_zero, List.getElem?_cons_succ, List.getD_cons_zero, List.getD_cons_succ, List.set_cons_zero, List.set_cons_succ, Nat.zero_add, Nat.add_zero, List.getElem?_toArray, List.take_zero, List.drop_zero, List.take_succ_cons, List.drop_succ_cons, if_true, if_false, decide_true, decide_false, Bool.false_eq_true, Bool.true_eq_false, Bool.not_true, Bool.not_false, not_true_eq_false, not_false_eq_true, ge_iff_le, gt_iff_lt, beq_self_eq_true, bne_self_eq_false, and_self, and_true, true_and, Option.isSome_some, Heap.get_alloc_same, Heap.alloc_getE, aR_ld, ldK_blk, actK_callT, *] | with_reducible refine cndK_d (fun hc => ?_) (fun hc => ?_) | with_reducible refine grdK_d (fun hc => ?_) (fun hc => ?_) | with_reducible refine cndK_i (fun hc => ?_) (fun hc => ?_) | with_reducible refine grdK_i (fun hc => ?_) (fun hc => ?_))
    refine feeds_c (by omega) h' _ ⟨Heap.le.ext (Heap.le.refl _), ?_⟩
    rw [hd]
    repeat' (first | simp -implicitDefEqProofs only [W_skip, W_reg, W_seq, W_rcond, W_cond, W_block, W_loop, W_exit, W_ret, thenQ_normal, thenQ_exit, thenQ_ret, blockQ_normal, blockQ_ret, blockQ_here, regQ_app, rcQ_app, cndK_t, cndK_f, RegW_nil, RegW_none, RegW_some, contW_app, grdK_tt, grdK_ff, grdK_tf, grdK_ft, grdK_undef, actK_p, actK_r, actK_a, actK_w, actK_call, actK_callV, heapK_app, allocK_app, writeK_app, ret1_ret, ret1_normal, ret0_ret, ret0_normal, ret2_ret2, thenK_app, retcv_ret, retcvK_app, optW_some, evs, Arg.ev, aP, aA, aW, pMov, pBin, pUn, pConv, pPick, pFieldAddr, pNilCheck, pExtract, aBin, aUn, aInt, aNew, partL_f, upd, List.getElem?_cons_zero, List.getElem?_cons_succ, List.getD_cons_zero, List.getD_cons_succ, List.set_cons_zero, List.set_cons_succ, Nat.zero_add, Nat.add_zero, List.getElem?_toArray, List.take_zero, List.drop_zero, List.take_succ_cons, List.drop_succ_cons, if_true, if_false, decide_true, decide_false, Bool.false_eq_true, Bool.true_eq_false, Bool.not_true, Bool.not_false, not_true_eq_false, not_false_eq_true, ge_iff_le, gt_iff_lt, beq_self_eq_true, bne_self_eq_false, and_self, and_true, true_and, Option.isSome_some, Heap.get_alloc_same, Heap.alloc_getE, aR_ld, ldK_blk, *] | with_reducible refine cndK_d (fun hc => ?_) (fun hc => ?_) | with_reducible refine grdK_d (fun hc => ?_) (fun hc => ?_) | with_reducible refine cndK_i (fun hc => ?_) (fun hc => ?_) | with_reducible refine grdK_i (fun hc => ?_) (fun hc => ?_))
    exact g.h
end Go.Eng.Tk

set_option linter.unusedSimpArgs false
set_option linter.unusedVariables false
namespace Go.Eng.Tk
open Go Go.Eng Go.Proofs

theorem scanR_lines (l : List UInt8) : ∀ t ∈ (scanR l).1, 0 ≤ t.line ∧ t.line ≤ 100000 := by
  have key : ∀ (k : Nat) (l : List UInt8) (m : Int), 0 ≤ m → (∀ t ∈ (scanP k l m).1, 0 ≤ t.line ∧ t.line ≤ m + l.length) ∧ m ≤ (scanP k l m).2.1 ∧ (scanP k l m).2.1 ≤ m + l.length := by
    intro k
    induction k with
    | zero => intro l m h; simp [scanP]; omega
    | succ k ih =>
      intro l m h
      cases l with
      | nil => simp [scanP]
      | cons b r =>
        have go : ∀ (w : Nat) (t : Tok), w ≤ (b :: r).length → (∀ u ∈ ({ t with line := m } :: (scanP k (skip false ((b :: r).drop w) m).1 (skip false ((b :: r).drop w) m).2).1), 0 ≤ u.line ∧ u.line ≤ m + (b :: r).length) ∧
            m ≤ (scanP k (skip false ((b :: r).drop w) m).1 (skip false ((b :: r).drop w) m).2).2.1 ∧ (scanP k (skip false ((b :: r).drop w) m).1 (skip false ((b :: r).drop w) m).2).2.1 ≤ m + (b :: r).length := by
          intro w t hw
          have s1 := skip_len false ((b :: r).drop w) m
          have s2 := skip_sum false ((b :: r).drop w) m
          have s3 : ((b :: r).drop w).length = (b :: r).length - w := by simp
          obtain ⟨i1, i2, i3⟩ := ih (skip false ((b :: r).drop w) m).1 (skip false ((b :: r).drop w) m).2 (by omega)
          refine ⟨fun u hu => ?_, by omega, by omega⟩
          rcases List.mem_cons.1 hu with rfl | hu
          · simp only; omega
          · have := i1 u hu; omega
        unfold scanP
        split
        · split
          · exact go _ _ (runN_le _)
          · simp; omega
        · split
          · rename_i g hg
            exact go g.length ⟨4, g, 0, m⟩ (signs_pos hg).2
          · simp; omega
  unfold scanR
  split
  · simp
  · rename_i hl
    have s1 := skip_len false l 1
    have s2 := skip_sum false l 1
    obtain ⟨i1, i2, i3⟩ := key (l.length + 1) (skip false l 1).1 (skip false l 1).2 (by omega)
    have e : scanS l = scanP (l.length + 1) (skip false l 1).1 (skip false l 1).2 := rfl
    rw [← e] at i1 i2 i3
    split
    · intro t ht
      rcases List.mem_append.1 ht with ht | ht
      · have := i1 t ht; omega
      · rw [List.mem_singleton.1 ht]
        simp only [endT]; omega
    · simp

/-- one text, and the same with blanks ahead -/
theorem shifts_C {B : Nat → List UInt8} (hB : ∀ i, B i ∈ spaces) {na : Nat} (hna : na ≤ 20) {xs : List (List UInt8)} (hxs : xs.length = 2) {N : Nat} {vs : Value} {h : Heap} (hs : Strs h vs xs)
    {e0 e1 e2 e3 e5 e6 e7 e9 e10 e11 e12 e13 e14 e15 e16 e17 e21 : Value} {Q' : AExit → List Value → Heap → Prop}
    (hQ : ∀ e10 e11 e12 e13 e14 e15 e16 e17 e20 e21 h', Q' (.exit 4) [e0, e1, e2, e3, .bool true, e5, e6, e7, str (aheadL B na), e9, e10, e11, e12, e13, e14, e15, e16, e17, vs, .int .i64 2, e20, e21] h') :
    LoopW Tryd.prog N c8.vars c8_l31 [e0, e1, e2, e3, .bool true, e5, e6, e7, str (aheadL B na), e9, e10, e11, e12, e13, e14, e15, e16, e17, vs, .int .i64 2, .int .i64 0, e21] h Q' := by
  replace hQ := Hid.mk hQ
  replace hB := Hid.mk hB
  refine LoopW.upto 2 (fun i e h' => h.le h' ∧ ∃ e10 e11 e12 e13 e14 e15 e16 e17 e21, e = [e0, e1, e2, e3, .bool true, e5, e6, e7, str (aheadL B na), e9, e10, e11, e12, e13, e14, e15, e16, e17, vs, .int .i64 2, .int .i64 i, e21]) ?_ (Nat.zero_le _) ⟨Heap.le.refl _, _, _, _, _, _, _, _, _, _, rfl⟩
  rintro i _ h' R hi ⟨lh, e10, e11, e12, e13, e14, e15, e16, e17, e21, rfl⟩ hR
  delta c8_l31 c8_r16 c8_r17 c8_r18 c8_r19 c8_r20 c8_r21 c8_r22 c8_r23 c8_r28 c8_r29 c8_r30
  by_cases hlt : i < 2
  case neg =>
    have hlt' : ¬ (i : Int) < 2 := by omega
    repeat' (first | simp -implicitDefEqProofs only [W_skip, W_reg, W_seq, W_rcond, W_cond, W_block, W_loop, W_exit, W_ret, thenQ_normal, thenQ_exit, thenQ_ret, blockQ_normal, blockQ_ret, blockQ_here, regQ_app, rcQ_app, cndK_t, cndK_f, RegW_nil, RegW_none, RegW_some, contW_app, grdK_tt, grdK_ff, grdK_tf, grdK_ft, grdK_undef, actK_p, actK_r, actK_a, actK_w, actK_call, actK_callV, heapK_app, allocK_app, writeK_app, ret1_ret, ret1_normal, ret0_ret, ret0_normal, ret2_ret2, thenK_app, retcv_ret, retcvK_app, optW_some, evs, Arg.ev, aP, aR, aA, aW, pMov, pBin, pUn, pConv, pPick, pFieldAddr, pNilCheck, pExtract, aBin, aUn, aInt, aNew, partL_f, upd, List.getElem?_cons_zero, List.getElem?_cons_succ, List.getD_cons_zero, List.getD_cons_succ, List.set_cons_zero, List.set_cons_succ, Nat.zero_add, Nat.add_zero, List.getElem?_toArray, List.take_zero, List.drop_zero, List.take_succ_cons, List.drop_succ_cons, if_true, if_false, decide_true, decide_false, Bool.false_eq_true, Bool.true_eq_false, Bool.not_true, Bool.not_false, not_true_eq_false, not_false_eq_true, ge_iff_le, gt_iff_lt, beq_self_eq_true, bne_self_eq_false, and_self, and_true, true_and, Option.isSome_some, Heap.get_alloc_same, Heap.alloc_getE, *] | with_reducible refine cndK_d (fun hc => ?_) (fun hc => ?_) | with_reducible refine grdK_d (fun hc => ?_) (fun hc => ?_) | with_reducible refine cndK_i (fun hc => ?_) (fun hc => ?_) | with_reducible refine grdK_i (fun hc => ?_) (fun hc => ?_))
    exact hQ.h _ _ _ _ _ _ _ _ _ _ _
  case pos =>
    have hlt' : (i : Int) < 2 := by omega
    have hwj : IntKind.i64.wrap ((i : Int) + 1) = ((i + 1 : Nat) : Int) := by rw [wrapI (by omega) (by omega)]; rfl
    obtain ⟨x, hx⟩ : ∃ x, xs[i]? = some x := ⟨_, List.getElem?_eq_getElem (by omega)⟩
    obtain ⟨id, off, cells, own, a1, a2, a3, _⟩ := (hs.mono lh).elem hx
    have nx := fun h2 (l2 : h.le h2) e10 e11 e12 e13 e14 e15 e16 e17 e21 => hR.h [e0, e1, e2, e3, .bool true, e5, e6, e7, str (aheadL B na), e9, e10, e11, e12, e13, e14, e15, e16, e17, vs, .int .i64 2, .int .i64 ((i + 1 : Nat) : Int), e21] h2 hlt ⟨l2, _, _, _, _, _, _, _, _, _, rfl⟩
    replace nx := Hid.mk nx
    replace hs := Hid.mk hs
    replace lh := Hid.mk lh
    clear hx hlt hi hQ hR
    by_cases hbig : (10000 : Int) < (x.length : Int)
    · repeat' (first | simp -implicitDefEqProofs only [W_skip, W_reg, W_seq, W_rcond, W_cond, W_block, W_loop, W_exit, W_ret, thenQ_normal, thenQ_exit, thenQ_ret, blockQ_normal, blockQ_ret, blockQ_here, regQ_app, rcQ_app, cndK_t, cndK_f, RegW_nil, RegW_none, RegW_some, contW_app, grdK_tt, grdK_ff, grdK_tf, grdK_ft, grdK_undef, actK_p, actK_r, actK_a, actK_w, actK_call, actK_callV, heapK_app, allocK_app, writeK_app, ret1_ret, ret1_normal, ret0_ret, ret0_normal, ret2_ret2, thenK_app, retcv_ret, retcvK_app, optW_some, evs, Arg.ev, aP, aR, aA, aW, pMov, pBin, pUn, pConv, pPick, pFieldAddr, pNilCheck, pExtract, aBin, aUn, aInt, aNew, partL_f, upd, List.getElem?_cons_zero, List.getElem?_cons_succ, List.getD_cons_zero, List.getD_cons_succ, List.set_cons_zero, List.set_cons_succ, Nat.zero_add, Nat.add_zero, List.getElem?_toArray, List.take_zero, List.drop_zero, List.take_succ_cons, List.drop_succ_cons, if_true, if_false, decide_true, decide_false, Bool.false_eq_true, Bool.true_eq_false, Bool.not_true, Bool.not_false, not_true_eq_false, not_false_eq_true, ge_iff_le, gt_iff_lt, beq_self_eq_true, bne_self_eq_false, and_self, and_true, true_and, Option.isSome_some, Heap.get_alloc_same, Heap.alloc_getE, len_S, *] | with_reducible refine cndK_d (fun hc => ?_) (fun hc => ?_) | with_reducible refine grdK_d (fun hc => ?_) (fun hc => ?_) | with_reducible refine cndK_i (fun hc => ?_) (fun hc => ?_) | with_reducible refine grdK_i (fun hc => ?_) (fun hc => ?_))
      exact nx.h _ lh.h _ _ _ _ _ _ _ _ _
    · have hx4 : x.length ≤ 10000 := by omega
      have hal := aheadL_len hB.h na
      obtain ⟨j1, j2, j3⟩ := scanR_ahead hB.h hna hx4
      have hfl := feedsN_le (aheadL B na)
      have hln := scanR_lines x
      have hok1 := scanR_ok x
      have hok2 := scanR_ok (aheadL B na ++ x)
      have ct := cat_S (a := aheadL B na) (b := x) (by omega)
      obtain ⟨ah, hah⟩ : ∃ a, aheadL B na = a := ⟨_, rfl⟩
      rw [hah] at j1 j2 j3 hal hok2 ct hfl nx ⊢
      obtain ⟨r1, hr1⟩ : ∃ r, scanR x = r := ⟨_, rfl⟩
      obtain ⟨r2, hr2⟩ : ∃ r, scanR (ah ++ x) = r := ⟨_, rfl⟩
      rw [hr1] at hln hok1
      rw [hr1, hr2] at j1 j2 j3
      rw [hr2] at hok2
      obtain ⟨ts, er, ln⟩ := r1
      obtain ⟨tm, er2, ln2⟩ := r2
      simp only at j1 j2 j3 hln hok1 hok2
      subst j1; subst j2
      replace hln := Hid.mk hln
      replace hok1 := Hid.mk hok1
      replace hok2 := Hid.mk hok2
      repeat' (first | simp -implicitDefEqProofs only [W_skip, W_reg, W_seq, W_rcond, W_cond, W_block, W_loop, W_exit, W_ret, thenQ_normal, thenQ_exit, thenQ_ret, blockQ_normal, blockQ_ret, blockQ_here, regQ_app, rcQ_app, cndK_t, cndK_f, RegW_nil, RegW_none, RegW_some, contW_app, grdK_tt, grdK_ff, grdK_tf, grdK_ft, grdK_undef, actK_p, actK_r, actK_a, actK_w, actK_call, actK_callV, heapK_app, allocK_app, writeK_app, ret1_ret, ret1_normal, ret0_ret, ret0_normal, ret2_ret2, thenK_app, retcv_ret, retcvK_app, optW_some, evs, Arg.ev, aP, aR, aA, aW, pMov, pBin, pUn, pConv, pPick, pFieldAddr, pNilCheck, pExtract, aBin, aUn, aInt, aNew, partL_f, upd, List.getElem?_cons_zero, List.getElem?_cons_succ, List.getD_cons_zero, List.getD_cons_succ, List.set_cons_zero, List.set_cons_succ, Nat.zero_add, Nat.add_zero, List.getElem?_toArray, List.take_zero, List.drop_zero, List.take_succ_cons, List.drop_succ_cons, if_true, if_false, decide_true, decide_false, Bool.false_eq_true, Bool.true_eq_false, Bool.not_true, Bool.not_false, not_true_eq_false, not_false_eq_true, ge_iff_le, gt_iff_lt, beq_self_eq_true, bne_self_eq_false, and_self, and_true, true_and, Option.isSome_some, Heap.get_alloc_same, Heap.alloc_getE, len_S, *] | with_reducible refine cndK_d (fun hc => ?_) (fun hc => ?_) | with_reducible refine grdK_d (fun hc => ?_) (fun hc => ?_) | with_reducible refine cndK_i (fun hc => ?_) (fun hc => ?_) | with_reducible refine grdK_i (fun hc => ?_) (fun hc => ?_))
      refine Scan_c (l := x) h' (Heap.le.refl h') _ fun v1 h1 t1 l1 => ?_
      rw [hr1] at t1 ⊢
      simp only at t1 ⊢
      replace t1 := Hid.mk t1
      repeat' (first | simp -implicitDefEqProofs only [W_skip, W_reg, W_seq, W_rcond, W_cond, W_block, W_loop, W_exit, W_ret, thenQ_normal, thenQ_exit, thenQ_ret, blockQ_normal, blockQ_ret, blockQ_here, regQ_app, rcQ_app, cndK_t, cndK_f, RegW_nil, RegW_none, RegW_some, contW_app, grdK_tt, grdK_ff, grdK_tf, grdK_ft, grdK_undef, actK_p, actK_r, actK_a, actK_w, actK_call, actK_callV, heapK_app, allocK_app, writeK_app, ret1_ret, ret1_normal, ret0_ret, ret0_normal, ret2_ret2, thenK_app, retcv_ret, retcvK_app, optW_some, evs, Arg.ev, aP, aR, aA, aW, pMov, pBin, pUn, pConv, pPick, pFieldAddr, pNilCheck, pExtract, aBin, aUn, aInt, aNew, partL_f, upd, List.getElem?_cons_zero, List.getElem?_cons_succ, List.getD_cons_zero, List.getD_cons_succ, List.set_cons_zero, List.set_cons_succ, Nat.zero_add, Nat.add_zero, List.getElem?_toArray, List.take_zero, List.drop_zero, List.take_succ_cons, List.drop_succ_cons, if_true, if_false, decide_true, decide_false, Bool.false_eq_true, Bool.true_eq_false, Bool.not_true, Bool.not_false, not_true_eq_false, not_false_eq_true, ge_iff_le, gt_iff_lt, beq_self_eq_true, bne_self_eq_false, and_self, and_true, true_and, Option.isSome_some, Heap.get_alloc_same, Heap.alloc_getE, extract3_0, extract3_1, extract3_2, *] | with_reducible refine cndK_d (fun hc => ?_) (fun hc => ?_) | with_reducible refine grdK_d (fun hc => ?_) (fun hc => ?_) | with_reducible refine cndK_i (fun hc => ?_) (fun hc => ?_) | with_reducible refine grdK_i (fun hc => ?_) (fun hc => ?_))
      refine Scan_c (l := ah ++ x) h1 (Heap.le.refl h1) _ fun v2 h2 t2 l2 => ?_
      rw [hr2] at t2 ⊢
      simp only at t2 ⊢
      have t1' := t1.h.mono l2
      have la := tokS_len t1'.sl
      have lb := tokS_len t2.sl
      rw [List.length_map] at lb
      have hne : ((ts.length : Int) != (ts.length : Int)) = false := by simp
      have hlt2 : ∀ id n c, v1 = .slice (some ⟨id, 0, none⟩) n c → id < h1.next := by
        intro id n c hv
        rcases t1.h with ⟨hn, _⟩ | ⟨id2, hv2, _, hg, _⟩
        · rw [hn] at hv; cases hv
        · rw [hv2] at hv; cases hv
          exact Heap.lt_of_get hg
      have le2 := (lh.h.trans l1).trans l2
      have hl1 : (ts.map (shT (feedsN ah : Int))).length ≤ 1000000 := by have := hok1.h.2.1; simp only [List.length_map]; omega
      have fin : ∀ (h3 : Heap), Toks h' h3 v1 (ts.map (shT (feedsN ah : Int))) → Toks h1 h3 v2 (ts.map (shT (feedsN ah : Int))) → CallW Tryd.prog 20 [v1, v2] h3 fun b h4 => b = .bool true ∧ h4 = h3 := by
        intro h3 u1 u2
        refine same_c u1.sl u2.sl hok2.h.1 hok2.h.1 hl1 hl1 _ fun b hb => ?_
        exact ⟨by rw [hb.2 rfl], rfl⟩
      replace fin := Hid.mk fin
      have enter : ∀ (Q' : AExit → List Value → Heap → Prop), (∀ h3 z, h'.le h3 → (CallW Tryd.prog 20 [v1, v2] h3 fun b h4 => b = .bool true ∧ h4 = h3) → Q' (.exit 6) [e0, e1, e2, e3, .bool true, e5, e6, e7, str ah, e9, str x, v1, .int .i64 er2, .int .i64 ln, v2, .int .i64 er2, .int .i64 ln2, z, vs, .int .i64 2, .int .i64 i, .bool true] h3) →
          LoopW Tryd.prog N c8.vars c8_l27 [e0, e1, e2, e3, .bool true, e5, e6, e7, str ah, e9, str x, v1, .int .i64 er2, .int .i64 ln, v2, .int .i64 er2, .int .i64 ln2, .int .i64 0, vs, .int .i64 2, .int .i64 i, .bool true] h2 Q' := by
        intro Q' hq'
        refine shifts_D (by omega) t1' t2 hlt2 hln.h (by have := hok1.h.2.1; omega) (l1.trans l2) ?_
        intro h3 z l3 u1 u2
        exact hq' h3 z l3 (fin.h h3 u1 u2)
      replace enter := Hid.mk enter
      have lh2 := Hid.mk (l1.trans l2)
      clear t2 t1' t1 l1 l2 le2 hl1
      have fe := feeds_c (l := ah) (by omega)
      replace fe := Hid.mk fe
      rcases j3 with rfl | ⟨rfl, rfl⟩
      · have k0 : ((0 : Int) != 0) = false := rfl
        have k1 : ((0 : Int) == 0) = true := rfl
        repeat' (first | simp -implicitDefEqProofs only [W_skip, W_reg, W_seq, W_rcond, W_cond, W_block, W_loop, W_exit, W_ret, thenQ_normal, thenQ_exit, thenQ_ret, blockQ_normal, blockQ_ret, blockQ_here, regQ_app, rcQ_app, cndK_t, cndK_f, RegW_nil, RegW_none, RegW_some, contW_app, grdK_tt, grdK_ff, grdK_tf, grdK_ft, grdK_undef, actK_p, actK_r, actK_a, actK_w, actK_call, actK_callV, heapK_app, allocK_app, writeK_app, ret1_ret, ret1_normal, ret0_ret, ret0_normal, ret2_ret2, thenK_app, retcv_ret, retcvK_app, optW_some, evs, Arg.ev, aP, aR, aA, aW, pMov, pBin, pUn, pConv, pPick, pFieldAddr, pNilCheck, pExtract, aBin, aUn, aInt, aNew, partL_f, upd, List.getElem?_cons_zero, List.getElem?_cons_succ, List.getD_cons_zero, List.getD_cons_succ, List.set_cons_zero, List.set_cons_succ, Nat.zero_add, Nat.add_zero, List.getElem?_toArray, List.take_zero, List.drop_zero, List.take_succ_cons, List.drop_succ_cons, if_true, if_false, decide_true, decide_false, Bool.false_eq_true, Bool.true_eq_false, Bool.not_true, Bool.not_false, not_true_eq_false, not_false_eq_true, ge_iff_le, gt_iff_lt, beq_self_eq_true, bne_self_eq_false, and_self, and_true, true_and, Option.isSome_some, Heap.get_alloc_same, Heap.alloc_getE, extract3_0, extract3_1, extract3_2, *] | with_reducible refine cndK_d (fun hc => ?_) (fun hc => ?_) | with_reducible refine grdK_d (fun hc => ?_) (fun hc => ?_) | with_reducible refine cndK_i (fun hc => ?_) (fun hc => ?_) | with_reducible refine grdK_i (fun hc => ?_) (fun hc => ?_))
        refine enter.h _ fun h3 z l3 hc => ?_
        replace hc := Hid.mk hc
        replace l3 := Hid.mk l3
        repeat' (first | simp -implicitDefEqProofs only [W_skip, W_reg, W_seq, W_rcond, W_cond, W_block, W_loop, W_exit, W_ret, thenQ_normal, thenQ_exit, thenQ_ret, blockQ_normal, blockQ_ret, blockQ_here, regQ_app, rcQ_app, cndK_t, cndK_f, RegW_nil, RegW_none, RegW_some, contW_app, grdK_tt, grdK_ff, grdK_tf, grdK_ft, grdK_undef, actK_p, actK_r, actK_a, actK_w, actK_call, actK_callV, heapK_app, allocK_app, writeK_app, ret1_ret, ret1_normal, ret0_ret, ret0_normal, ret2_ret2, thenK_app, retcv_ret, retcvK_app, optW_some, evs, Arg.ev, aP, aR, aA, aW, pMov, pBin, pUn, pConv, pPick, pFieldAddr, pNilCheck, pExtract, aBin, aUn, aInt, aNew, partL_f, upd, List.getElem?_cons_zero, List.getElem?_cons_succ, List.getD_cons_zero, List.getD_cons_succ, List.set_cons_zero, List.set_cons_succ, Nat.zero_add, Nat.add_zero, List.getElem?_toArray, List.take_zero, List.drop_zero, List.take_succ_cons, List.drop_succ_cons, if_true, if_false, decide_true, decide_false, Bool.false_eq_true, Bool.true_eq_false, Bool.not_true, Bool.not_false, not_true_eq_false, not_false_eq_true, ge_iff_le, gt_iff_lt, beq_self_eq_true, bne_self_eq_false, and_self, and_true, true_and, Option.isSome_some, Heap.get_alloc_same, Heap.alloc_getE, *] | with_reducible refine cndK_d (fun hc => ?_) (fun hc => ?_) | with_reducible refine grdK_d (fun hc => ?_) (fun hc => ?_) | with_reducible refine cndK_i (fun hc => ?_) (fun hc => ?_) | with_reducible refine grdK_i (fun hc => ?_) (fun hc => ?_))
        refine hc.h.mono fun b h4 _ hb => ?_
        obtain ⟨rfl, rfl⟩ := hb
        repeat' (first | simp -implicitDefEqProofs only [W_skip, W_reg, W_seq, W_rcond, W_cond, W_block, W_loop, W_exit, W_ret, thenQ_normal, thenQ_exit, thenQ_ret, blockQ_normal, blockQ_ret, blockQ_here, regQ_app, rcQ_app, cndK_t, cndK_f, RegW_nil, RegW_none, RegW_some, contW_app, grdK_tt, grdK_ff, grdK_tf, grdK_ft, grdK_undef, actK_p, actK_r, actK_a, actK_w, actK_call, actK_callV, heapK_app, allocK_app, writeK_app, ret1_ret, ret1_normal, ret0_ret, ret0_normal, ret2_ret2, thenK_app, retcv_ret, retcvK_app, optW_some, evs, Arg.ev, aP, aR, aA, aW, pMov, pBin, pUn, pConv, pPick, pFieldAddr, pNilCheck, pExtract, aBin, aUn, aInt, aNew, partL_f, upd, List.getElem?_cons_zero, List.getElem?_cons_succ, List.getD_cons_zero, List.getD_cons_succ, List.set_cons_zero, List.set_cons_succ, Nat.zero_add, Nat.add_zero, List.getElem?_toArray, List.take_zero, List.drop_zero, List.take_succ_cons, List.drop_succ_cons, if_true, if_false, decide_true, decide_false, Bool.false_eq_true, Bool.true_eq_false, Bool.not_true, Bool.not_false, not_true_eq_false, not_false_eq_true, ge_iff_le, gt_iff_lt, beq_self_eq_true, bne_self_eq_false, and_self, and_true, true_and, Option.isSome_some, Heap.get_alloc_same, Heap.alloc_getE, *] | with_reducible refine cndK_d (fun hc => ?_) (fun hc => ?_) | with_reducible refine grdK_d (fun hc => ?_) (fun hc => ?_) | with_reducible refine cndK_i (fun hc => ?_) (fun hc => ?_) | with_reducible refine grdK_i (fun hc => ?_) (fun hc => ?_))
        exact nx.h _ (lh.h.trans l3.h) _ _ _ _ _ _ _ _ _
      · have k0 : ((50 : Int) != 50) = false := rfl
        have k1 : ((50 : Int) != 0) = true := rfl
        have hw : IntKind.i64.wrap (ln + (feedsN ah : Int)) = ln + (feedsN ah : Int) := wrapI (by have := hok1.h.2.2; omega) (by have := hok1.h.2.2; omega)
        have k2 : ((ln + (feedsN ah : Int)) != (ln + (feedsN ah : Int))) = false := by simp
        repeat' (first | simp -implicitDefEqProofs only [W_skip, W_reg, W_seq, W_rcond, W_cond, W_block, W_loop, W_exit, W_ret, thenQ_normal, thenQ_exit, thenQ_ret, blockQ_normal, blockQ_ret, blockQ_here, regQ_app, rcQ_app, cndK_t, cndK_f, RegW_nil, RegW_none, RegW_some, contW_app, grdK_tt, grdK_ff, grdK_tf, grdK_ft, grdK_undef, actK_p, actK_r, actK_a, actK_w, actK_call, actK_callV, heapK_app, allocK_app, writeK_app, ret1_ret, ret1_normal, ret0_ret, ret0_normal, ret2_ret2, thenK_app, retcv_ret, retcvK_app, optW_some, evs, Arg.ev, aP, aR, aA, aW, pMov, pBin, pUn, pConv, pPick, pFieldAddr, pNilCheck, pExtract, aBin, aUn, aInt, aNew, partL_f, upd, List.getElem?_cons_zero, List.getElem?_cons_succ, List.getD_cons_zero, List.getD_cons_succ, List.set_cons_zero, List.set_cons_succ, Nat.zero_add, Nat.add_zero, List.getElem?_toArray, List.take_zero, List.drop_zero, List.take_succ_cons, List.drop_succ_cons, if_true, if_false, decide_true, decide_false, Bool.false_eq_true, Bool.true_eq_false, Bool.not_true, Bool.not_false, not_true_eq_false, not_false_eq_true, ge_iff_le, gt_iff_lt, beq_self_eq_true, bne_self_eq_false, and_self, and_true, true_and, Option.isSome_some, Heap.get_alloc_same, Heap.alloc_getE, extract3_0, extract3_1, extract3_2, *] | with_reducible refine cndK_d (fun hc => ?_) (fun hc => ?_) | with_reducible refine grdK_d (fun hc => ?_) (fun hc => ?_) | with_reducible refine cndK_i (fun hc => ?_) (fun hc => ?_) | with_reducible refine grdK_i (fun hc => ?_) (fun hc => ?_))
        refine fe.h _ _ ?_
        repeat' (first | simp -implicitDefEqProofs only [W_skip, W_reg, W_seq, W_rcond, W_cond, W_block, W_loop, W_exit, W_ret, thenQ_normal, thenQ_exit, thenQ_ret, blockQ_normal, blockQ_ret, blockQ_here, regQ_app, rcQ_app, cndK_t, cndK_f, RegW_nil, RegW_none, RegW_some, contW_app, grdK_tt, grdK_ff, grdK_tf, grdK_ft, grdK_undef, actK_p, actK_r, actK_a, actK_w, actK_call, actK_callV, heapK_app, allocK_app, writeK_app, ret1_ret, ret1_normal, ret0_ret, ret0_normal, ret2_ret2, thenK_app, retcv_ret, retcvK_app, optW_some, evs, Arg.ev, aP, aR, aA, aW, pMov, pBin, pUn, pConv, pPick, pFieldAddr, pNilCheck, pExtract, aBin, aUn, aInt, aNew, partL_f, upd, List.getElem?_cons_zero, List.getElem?_cons_succ, List.getD_cons_zero, List.getD_cons_succ, List.set_cons_zero, List.set_cons_succ, Nat.zero_add, Nat.add_zero, List.getElem?_toArray, List.take_zero, List.drop_zero, List.take_succ_cons, List.drop_succ_cons, if_true, if_false, decide_true, decide_false, Bool.false_eq_true, Bool.true_eq_false, Bool.not_true, Bool.not_false, not_true_eq_false, not_false_eq_true, ge_iff_le, gt_iff_lt, beq_self_eq_true, bne_self_eq_false, and_self, and_true, true_and, Option.isSome_some, Heap.get_alloc_same, Heap.alloc_getE, extract3_0, extract3_1, extract3_2, *] | with_reducible refine cndK_d (fun hc => ?_) (fun hc => ?_) | with_reducible refine grdK_d (fun hc => ?_) (fun hc => ?_) | with_reducible refine cndK_i (fun hc => ?_) (fun hc => ?_) | with_reducible refine grdK_i (fun hc => ?_) (fun hc => ?_))
        refine enter.h _ fun h3 z l3 hc => ?_
        replace hc := Hid.mk hc
        replace l3 := Hid.mk l3
        repeat' (first | simp -implicitDefEqProofs only [W_skip, W_reg, W_seq, W_rcond, W_cond, W_block, W_loop, W_exit, W_ret, thenQ_normal, thenQ_exit, thenQ_ret, blockQ_normal, blockQ_ret, blockQ_here, regQ_app, rcQ_app, cndK_t, cndK_f, RegW_nil, RegW_none, RegW_some, contW_app, grdK_tt, grdK_ff, grdK_tf, grdK_ft, grdK_undef, actK_p, actK_r, actK_a, actK_w, actK_call, actK_callV, heapK_app, allocK_app, writeK_app, ret1_ret, ret1_normal, ret0_ret, ret0_normal, ret2_ret2, thenK_app, retcv_ret, retcvK_app, optW_some, evs, Arg.ev, aP, aR, aA, aW, pMov, pBin, pUn, pConv, pPick, pFieldAddr, pNilCheck, pExtract, aBin, aUn, aInt, aNew, partL_f, upd, List.getElem?_cons_zero, List.getElem?_cons_succ, List.getD_cons_zero, List.getD_cons_succ, List.set_cons_zero, List.set_cons_succ, Nat.zero_add, Nat.add_zero, List.getElem?_toArray, List.take_zero, List.drop_zero, List.take_succ_cons, List.drop_succ_cons, if_true, if_false, decide_true, decide_false, Bool.false_eq_true, Bool.true_eq_false, Bool.not_true, Bool.not_false, not_true_eq_false, not_false_eq_true, ge_iff_le, gt_iff_lt, beq_self_eq_true, bne_self_eq_false, and_self, and_true, true_and, Option.isSome_some, Heap.get_alloc_same, Heap.alloc_getE, *] | with_reducible refine cndK_d (fun hc => ?_) (fun hc => ?_) | with_reducible refine grdK_d (fun hc => ?_) (fun hc => ?_) | with_reducible refine cndK_i (fun hc => ?_) (fun hc => ?_) | with_reducible refine grdK_i (fun hc => ?_) (fun hc => ?_))
        refine hc.h.mono fun b h4 _ hb => ?_
        obtain ⟨rfl, rfl⟩ := hb
        repeat' (first | simp -implicitDefEqProofs only [W_skip, W_reg, W_seq, W_rcond, W_cond, W_block, W_loop, W_exit, W_ret, thenQ_normal, thenQ_exit, thenQ_ret, blockQ_normal, blockQ_ret, blockQ_here, regQ_app, rcQ_app, cndK_t, cndK_f, RegW_nil, RegW_none, RegW_some, contW_app, grdK_tt, grdK_ff, grdK_tf, grdK_ft, grdK_undef, actK_p, actK_r, actK_a, actK_w, actK_call, actK_callV, heapK_app, allocK_app, writeK_app, ret1_ret, ret1_normal, ret0_ret, ret0_normal, ret2_ret2, thenK_app, retcv_ret, retcvK_app, optW_some, evs, Arg.ev, aP, aR, aA, aW, pMov, pBin, pUn, pConv, pPick, pFieldAddr, pNilCheck, pExtract, aBin, aUn, aInt, aNew, partL_f, upd, List.getElem?_cons_zero, List.getElem?_cons_succ, List.getD_cons_zero, List.getD_cons_succ, List.set_cons_zero, List.set_cons_succ, Nat.zero_add, Nat.add_zero, List.getElem?_toArray, List.take_zero, List.drop_zero, List.take_succ_cons, List.drop_succ_cons, if_true, if_false, decide_true, decide_false, Bool.false_eq_true, Bool.true_eq_false, Bool.not_true, Bool.not_false, not_true_eq_false, not_false_eq_true, ge_iff_le, gt_iff_lt, beq_self_eq_true, bne_self_eq_false, and_self, and_true, true_and, Option.isSome_some, Heap.get_alloc_same, Heap.alloc_getE, *] | with_reducible refine cndK_d (fun hc => ?_) (fun hc => ?_) | with_reducible refine grdK_d (fun hc => ?_) (fun hc => ?_) | with_reducible refine cndK_i (fun hc => ?_) (fun hc => ?_) | with_reducible refine grdK_i (fun hc => ?_) (fun hc => ?_))
        exact nx.h _ (lh.h.trans l3.h) _ _ _ _ _ _ _ _ _
end Go.Eng.Tk

set_option linter.unusedSimpArgs false
set_option linter.unusedVariables false
namespace Go.Eng.Tk
open Go Go.Eng Go.Proofs

theorem bslice_two (a b : List UInt8) : aBslice [.string ⟨#[]⟩, .string ⟨#[]⟩] [(0, 1), (1, 1)] 2 1 [str a, str b] = some ([str a, str b], fun id => .slice (some ⟨id, 0, none⟩) 2 1) := bslice_ones rfl rfl rfl (by simp [Value.cells, Value.oneCell'])
theorem sp_space (i : Nat) : (fun _ : Nat => ([32] : List UInt8)) i ∈ spaces := by
  show ([32] : List UInt8) ∈ spaces
  decide
/-! ### TokenShifts -/
theorem TokenShifts_c {s : List UInt8} {v vb : Value} {raw : List (Int × Int)} {bl : List Int} {h : Heap} (hv : Raws h v raw) (hok : ∀ r ∈ raw, inI r.1 ∧ inI r.2) (hlen : (raw.length : Int) ≤ 9223372036854775807) (hvb : Ints h vb bl) (hob : ∀ z ∈ bl, inI z) (hlb : (bl.length : Int) ≤ 9223372036854775807) :
    CallW Tryd.prog 8 [str s, v, vb] h fun v _ => v = .bool true := by
  obtain ⟨Q, hQ⟩ : ∃ Q : Value → Heap → Prop, Q = fun v _ => v = .bool true := ⟨_, rfl⟩
  rw [← hQ]
  have hq : ∀ h', Q (.bool true) h' := fun h' => by rw [hQ]
  clear hQ
  have lr := Raws.len hv
  have lb := Ints.len hvb
  obtain ⟨B, hB⟩ : ∃ B : Nat → List UInt8, (fun i => blankL bl i) = B := ⟨_, rfl⟩
  have hBs : ∀ i, B i ∈ spaces := fun i => by rw [← hB]; exact blankL_space bl hob i
  have hBi : ∀ i, blankL bl i = B i := fun i => by rw [← hB]
  clear hB
  refine call_of1 (k := 3) ok8 rfl rfl rfl fun N => ?_
  rw [show env0 c8 [str s, v, vb] = [str s, v, vb, undef, undef, undef, undef, undef, undef, undef, undef, undef, undef, undef, undef, undef, undef, undef, undef, undef, undef, undef] from rfl]
  delta c8 c8_r0 c8_r1 c8_r2 c8_r3 c8_r4 c8_r5 c8_r6 c8_r7 c8_r9 c8_r10 c8_r11 c8_r12 c8_r13 c8_r15 c8_r16 c8_r17 c8_r18 c8_r19 c8_r20 c8_r21 c8_r22 c8_r23 c8_r24 c8_r25 c8_r26 c8_r28 c8_r29 c8_r30 c8_r32
  replace hq := Hid.mk hq
  repeat' (first | simp -implicitDefEqProofs only [W_skip, W_reg, W_seq, W_rcond, W_cond, W_block, W_loop, W_exit, W_ret, thenQ_normal, thenQ_exit, thenQ_ret, blockQ_normal, blockQ_ret, blockQ_here, regQ_app, rcQ_app, cndK_t, cndK_f, RegW_nil, RegW_none, RegW_some, contW_app, grdK_tt, grdK_ff, grdK_tf, grdK_ft, grdK_undef, actK_p, actK_r, actK_a, actK_w, actK_call, actK_callV, heapK_app, allocK_app, writeK_app, ret1_ret, ret1_normal, ret0_ret, ret0_normal, ret2_ret2, thenK_app, retcv_ret, retcvK_app, optW_some, evs, Arg.ev, aP, aR, aA, aW, pMov, pBin, pUn, pConv, pPick, pFieldAddr, pNilCheck, pExtract, aBin, aUn, aInt, aNew, partL_f, upd, List.getElem?_cons_zero, List.getElem?_cons_succ, List.getD_cons_zero, List.getD_cons_succ, List.set_cons_zero, List.set_cons_succ, Nat.zero_add, Nat.add_zero, List.getElem?_toArray, List.take_zero, List.drop_zero, List.take_succ_cons, List.drop_succ_cons, if_true, if_false, decide_true, decide_false, Bool.false_eq_true, Bool.true_eq_false, Bool.not_true, Bool.not_false, not_true_eq_false, not_false_eq_true, ge_iff_le, gt_iff_lt, beq_self_eq_true, bne_self_eq_false, and_self, and_true, true_and, Option.isSome_some, Heap.get_alloc_same, Heap.alloc_getE, *] | with_reducible refine cndK_d (fun hc => ?_) (fun hc => ?_) | with_reducible refine grdK_d (fun hc => ?_) (fun hc => ?_) | with_reducible refine cndK_i (fun hc => ?_) (fun hc => ?_) | with_reducible refine grdK_i (fun hc => ?_) (fun hc => ?_))
  refine awake_c h _ fun h1 l1 => ?_
  have hv1 := Hid.mk (hv.mono l1)
  have hvb1 := Hid.mk (SlV.mono l1 hvb)
  clear hv hvb
  replace hok := Hid.mk hok
  replace hob := Hid.mk hob
  replace hBs := Hid.mk hBs
  replace hBi := Hid.mk hBi
  obtain ⟨n, hn⟩ : ∃ n, min raw.length 20 = n := ⟨_, rfl⟩
  obtain ⟨na, hna⟩ : ∃ n, min bl.length 20 = n := ⟨_, rfl⟩
  repeat' (first | simp -implicitDefEqProofs only [W_skip, W_reg, W_seq, W_rcond, W_cond, W_block, W_loop, W_exit, W_ret, thenQ_normal, thenQ_exit, thenQ_ret, blockQ_normal, blockQ_ret, blockQ_here, regQ_app, rcQ_app, cndK_t, cndK_f, RegW_nil, RegW_none, RegW_some, contW_app, grdK_tt, grdK_ff, grdK_tf, grdK_ft, grdK_undef, actK_p, actK_r, actK_a, actK_w, actK_call, actK_callV, heapK_app, allocK_app, writeK_app, ret1_ret, ret1_normal, ret0_ret, ret0_normal, ret2_ret2, thenK_app, retcv_ret, retcvK_app, optW_some, evs, Arg.ev, aP, aR, aA, aW, pMov, pBin, pUn, pConv, pPick, pFieldAddr, pNilCheck, pExtract, aBin, aUn, aInt, aNew, partL_f, upd, List.getElem?_cons_zero, List.getElem?_cons_succ, List.getD_cons_zero, List.getD_cons_succ, List.set_cons_zero, List.set_cons_succ, Nat.zero_add, Nat.add_zero, List.getElem?_toArray, List.take_zero, List.drop_zero, List.take_succ_cons, List.drop_succ_cons, if_true, if_false, decide_true, decide_false, Bool.false_eq_true, Bool.true_eq_false, Bool.not_true, Bool.not_false, not_true_eq_false, not_false_eq_true, ge_iff_le, gt_iff_lt, beq_self_eq_true, bne_self_eq_false, and_self, and_true, true_and, Option.isSome_some, Heap.get_alloc_same, Heap.alloc_getE, *] | with_reducible refine cndK_d (fun hc => ?_) (fun hc => ?_) | with_reducible refine grdK_d (fun hc => ?_) (fun hc => ?_) | with_reducible refine cndK_i (fun hc => ?_) (fun hc => ?_) | with_reducible refine grdK_i (fun hc => ?_) (fun hc => ?_))
  refine LoopW.upto n (fun i e h' => h1.le h' ∧ ∃ x7, e = [str s, v, vb, .bool false, .bool true, str (seqT (pairs raw (fun _ => [32]) i)), .int .i64 i, x7, undef, undef, undef, undef, undef, undef, undef, undef, undef, undef, undef, undef, undef, undef]) ?_ (Nat.zero_le _)
    ⟨Heap.le.refl _, undef, rfl⟩
  rintro i _ h' R hi ⟨lh, x7, rfl⟩ hR
  delta c8_l8 c8_r0 c8_r1 c8_r2 c8_r3 c8_r4 c8_r5 c8_r6 c8_r7 c8_r9 c8_r10 c8_r11 c8_r12 c8_r13 c8_r15 c8_r16 c8_r17 c8_r18 c8_r19 c8_r20 c8_r21 c8_r22 c8_r23 c8_r24 c8_r25 c8_r26 c8_r28 c8_r29 c8_r30 c8_r32
  have hpl := pairs_len hok.h sp_space i
  by_cases hlt' : i < n
  case pos =>
    have hlr : (i : Int) < (raw.length : Int) := by omega
    have h20 : (i : Int) < 20 := by omega
    have hwj : IntKind.i64.wrap ((i : Int) + 1) = ((i + 1 : Nat) : Int) := by rw [wrapI (by omega) (by omega)]; rfl
    obtain ⟨r1, r2⟩ := raw_ok hok.h i
    have hwl := piece_len (kind := (raw.getD i (0, 0)).1) r2
    have hps : pairs raw (fun _ => [32]) (i + 1) = pairs raw (fun _ => [32]) i ++ [pairAt raw (fun _ => [32]) i] := pairs_succ _ _ _
    have hsq : seqT (pairs raw (fun _ => [32]) (i + 1)) = seqT (pairs raw (fun _ => [32]) i) ++ (pieceL (raw.getD i (0, 0)).1 (raw.getD i (0, 0)).2).1 ++ [32] := by rw [hps, seqT_snoc]; rfl
    obtain ⟨t, ht⟩ : ∃ s, seqT (pairs raw (fun _ => [32]) i) = s := ⟨_, rfl⟩
    rw [ht] at hsq hpl ⊢
    obtain ⟨ra, hra⟩ : ∃ x, (raw.getD i (0, 0)).1 = x := ⟨_, rfl⟩
    obtain ⟨rb, hrb⟩ : ∃ x, (raw.getD i (0, 0)).2 = x := ⟨_, rfl⟩
    rw [hra] at r1
    rw [hrb] at r2
    rw [hra, hrb] at hwl hsq
    obtain ⟨w, hw⟩ : ∃ w, (pieceL ra rb).1 = w := ⟨_, rfl⟩
    rw [hw] at hwl hsq
    have ct1 := cat_S (a := t) (b := w) (by omega)
    have ct2 : aStr .add ⟨(t ++ w).toArray⟩ ⟨#[32]⟩ = some (str (t ++ w ++ [32])) := cat_S (a := t ++ w) (b := [32]) (by simp; omega)
    obtain ⟨id, off, cells, own, a1, a2, a3, a4, a5, a6⟩ := Raws.at' (hv1.h.mono lh) (i := i) (by omega)
    rw [hra] at a3
    rw [hrb] at a4
    have g := fun x7 h3 (l3 : h'.le h3) => hR.h [str s, v, vb, .bool false, .bool true, str (t ++ w ++ [32]), .int .i64 ((i + 1 : Nat) : Int), x7, undef, undef, undef, undef, undef, undef, undef, undef, undef, undef, undef, undef, undef, undef] h3 hlt' ⟨lh.trans l3, x7, by rw [hsq]⟩
    replace g := Hid.mk g
    clear hps hsq lh ht hlt' hi hn
    repeat' (first | simp -implicitDefEqProofs only [W_skip, W_reg, W_seq, W_rcond, W_cond, W_block, W_loop, W_exit, W_ret, thenQ_normal, thenQ_exit, thenQ_ret, blockQ_normal, blockQ_ret, blockQ_here, regQ_app, rcQ_app, cndK_t, cndK_f, RegW_nil, RegW_none, RegW_some, contW_app, grdK_tt, grdK_ff, grdK_tf, grdK_ft, grdK_undef, actK_p, actK_r, actK_a, actK_w, actK_call, actK_callV, heapK_app, allocK_app, writeK_app, ret1_ret, ret1_normal, ret0_ret, ret0_normal, ret2_ret2, thenK_app, retcv_ret, retcvK_app, optW_some, evs, Arg.ev, aP, aA, aW, pMov, pBin, pUn, pConv, pPick, pFieldAddr, pNilCheck, pExtract, aBin, aUn, aInt, aNew, partL_f, upd, List.getElem?_cons_zero, List.getElem?_cons_succ, List.getD_cons_zero, List.getD_cons_succ, List.set_cons_zero, List.set_cons_succ, Nat.zero_add, Nat.add_zero, List.getElem?_toArray, List.take_zero, List.drop_zero, List.take_succ_cons, List.drop_succ_cons, if_true, if_false, decide_true, decide_false, Bool.false_eq_true, Bool.true_eq_false, Bool.not_true, Bool.not_false, not_true_eq_false, not_false_eq_true, ge_iff_le, gt_iff_lt, beq_self_eq_true, bne_self_eq_false, and_self, and_true, true_and, Option.isSome_some, Heap.get_alloc_same, Heap.alloc_getE, aR_ld, ldK_blk, *] | with_reducible refine cndK_d (fun hc => ?_) (fun hc => ?_) | with_reducible refine grdK_d (fun hc => ?_) (fun hc => ?_) | with_reducible refine cndK_i (fun hc => ?_) (fun hc => ?_) | with_reducible refine grdK_i (fun hc => ?_) (fun hc => ?_))
    refine piece_c r1 r2 h' _ fun h3 l3 => ?_
    rw [hw]
    replace l3 := Hid.mk l3
    repeat' (first | simp -implicitDefEqProofs only [W_skip, W_reg, W_seq, W_rcond, W_cond, W_block, W_loop, W_exit, W_ret, thenQ_normal, thenQ_exit, thenQ_ret, blockQ_normal, blockQ_ret, blockQ_here, regQ_app, rcQ_app, cndK_t, cndK_f, RegW_nil, RegW_none, RegW_some, contW_app, grdK_tt, grdK_ff, grdK_tf, grdK_ft, grdK_undef, actK_p, actK_r, actK_a, actK_w, actK_call, actK_callV, heapK_app, allocK_app, writeK_app, ret1_ret, ret1_normal, ret0_ret, ret0_normal, ret2_ret2, thenK_app, retcv_ret, retcvK_app, optW_some, evs, Arg.ev, aP, aR, aA, aW, pMov, pBin, pUn, pConv, pPick, pFieldAddr, pNilCheck, pExtract, aBin, aUn, aInt, aNew, partL_f, upd, List.getElem?_cons_zero, List.getElem?_cons_succ, List.getD_cons_zero, List.getD_cons_succ, List.set_cons_zero, List.set_cons_succ, Nat.zero_add, Nat.add_zero, List.getElem?_toArray, List.take_zero, List.drop_zero, List.take_succ_cons, List.drop_succ_cons, if_true, if_false, decide_true, decide_false, Bool.false_eq_true, Bool.true_eq_false, Bool.not_true, Bool.not_false, not_true_eq_false, not_false_eq_true, ge_iff_le, gt_iff_lt, beq_self_eq_true, bne_self_eq_false, and_self, and_true, true_and, Option.isSome_some, Heap.get_alloc_same, Heap.alloc_getE, extract0, extract1, *] | with_reducible refine cndK_d (fun hc => ?_) (fun hc => ?_) | with_reducible refine grdK_d (fun hc => ?_) (fun hc => ?_) | with_reducible refine cndK_i (fun hc => ?_) (fun hc => ?_) | with_reducible refine grdK_i (fun hc => ?_) (fun hc => ?_))
    exact g.h _ _ l3.h
  case neg =>
    obtain ⟨t, ht⟩ : ∃ s, seqT (pairs raw (fun _ => [32]) i) = s := ⟨_, rfl⟩
    rw [ht]
    have lh1 := Hid.mk lh
    have enter : ∀ (Q' : AExit → List Value → Heap → Prop), (∀ h3 x9, h1.le h3 → Q' (.exit 2) [str s, v, vb, .bool false, .bool true, str t, .int .i64 i, x7, str (aheadL B na), x9, undef, undef, undef, undef, undef, undef, undef, undef, undef, undef, undef, undef] h3) →
        LoopW Tryd.prog N c8.vars c8_l14 [str s, v, vb, .bool false, .bool true, str t, .int .i64 i, x7, str (aheadL B 0), .int .i64 0, undef, undef, undef, undef, undef, undef, undef, undef, undef, undef, undef, undef] h' Q' := by
      intro Q' hq'
      replace hq' := Hid.mk hq'
      clear hR hq
      refine LoopW.upto na (fun j e h3 => h1.le h3 ∧ e = [str s, v, vb, .bool false, .bool true, str t, .int .i64 i, x7, str (aheadL B j), .int .i64 j, undef, undef, undef, undef, undef, undef, undef, undef, undef, undef, undef, undef]) ?_ (Nat.zero_le _) ⟨lh1.h, rfl⟩
      rintro j _ h3 R2 hj ⟨l3, rfl⟩ hR2
      delta c8_l14 c8_r11 c8_r12 c8_r13
      have hal := aheadL_len hBs.h j
      by_cases hlt2 : j < na
      case pos =>
        have hlr : (j : Int) < (bl.length : Int) := by omega
        have h20 : (j : Int) < 20 := by omega
        have hwj : IntKind.i64.wrap ((j : Int) + 1) = ((j + 1 : Nat) : Int) := by rw [wrapI (by omega) (by omega)]; rfl
        have hbl := space_len (hBs.h j)
        have ct := cat_S (a := aheadL B j) (b := B j) (by omega)
        have g := fun h4 (l4 : h3.le h4) => hR2.h [str s, v, vb, .bool false, .bool true, str t, .int .i64 i, x7, str (aheadL B j ++ B j), .int .i64 ((j + 1 : Nat) : Int), undef, undef, undef, undef, undef, undef, undef, undef, undef, undef, undef, undef] h4 hlt2 ⟨l3.trans l4, by rw [aheadL_succ]⟩
        replace g := Hid.mk g
        have l3' := Hid.mk l3
        clear l3 hlt2 hj hna hlt' hi hn lh ht
        repeat' (first | simp -implicitDefEqProofs only [W_skip, W_reg, W_seq, W_rcond, W_cond, W_block, W_loop, W_exit, W_ret, thenQ_normal, thenQ_exit, thenQ_ret, blockQ_normal, blockQ_ret, blockQ_here, regQ_app, rcQ_app, cndK_t, cndK_f, RegW_nil, RegW_none, RegW_some, contW_app, grdK_tt, grdK_ff, grdK_tf, grdK_ft, grdK_undef, actK_p, actK_r, actK_a, actK_w, actK_call, actK_callV, heapK_app, allocK_app, writeK_app, ret1_ret, ret1_normal, ret0_ret, ret0_normal, ret2_ret2, thenK_app, retcv_ret, retcvK_app, optW_some, evs, Arg.ev, aP, aR, aA, aW, pMov, pBin, pUn, pConv, pPick, pFieldAddr, pNilCheck, pExtract, aBin, aUn, aInt, aNew, partL_f, upd, List.getElem?_cons_zero, List.getElem?_cons_succ, List.getD_cons_zero, List.getD_cons_succ, List.set_cons_zero, List.set_cons_succ, Nat.zero_add, Nat.add_zero, List.getElem?_toArray, List.take_zero, List.drop_zero, List.take_succ_cons, List.drop_succ_cons, if_true, if_false, decide_true, decide_false, Bool.false_eq_true, Bool.true_eq_false, Bool.not_true, Bool.not_false, not_true_eq_false, not_false_eq_true, ge_iff_le, gt_iff_lt, beq_self_eq_true, bne_self_eq_false, and_self, and_true, true_and, Option.isSome_some, Heap.get_alloc_same, Heap.alloc_getE, *] | with_reducible refine cndK_d (fun hc => ?_) (fun hc => ?_) | with_reducible refine grdK_d (fun hc => ?_) (fun hc => ?_) | with_reducible refine cndK_i (fun hc => ?_) (fun hc => ?_) | with_reducible refine grdK_i (fun hc => ?_) (fun hc => ?_))
        refine blank_c (SlV.mono l3'.h hvb1.h) hob.h hlb j _ fun h4 l4 => ?_
        rw [hBi.h j]
        replace l4 := Hid.mk l4
        repeat' (first | simp -implicitDefEqProofs only [W_skip, W_reg, W_seq, W_rcond, W_cond, W_block, W_loop, W_exit, W_ret, thenQ_normal, thenQ_exit, thenQ_ret, blockQ_normal, blockQ_ret, blockQ_here, regQ_app, rcQ_app, cndK_t, cndK_f, RegW_nil, RegW_none, RegW_some, contW_app, grdK_tt, grdK_ff, grdK_tf, grdK_ft, grdK_undef, actK_p, actK_r, actK_a, actK_w, actK_call, actK_callV, heapK_app, allocK_app, writeK_app, ret1_ret, ret1_normal, ret0_ret, ret0_normal, ret2_ret2, thenK_app, retcv_ret, retcvK_app, optW_some, evs, Arg.ev, aP, aR, aA, aW, pMov, pBin, pUn, pConv, pPick, pFieldAddr, pNilCheck, pExtract, aBin, aUn, aInt, aNew, partL_f, upd, List.getElem?_cons_zero, List.getElem?_cons_succ, List.getD_cons_zero, List.getD_cons_succ, List.set_cons_zero, List.set_cons_succ, Nat.zero_add, Nat.add_zero, List.getElem?_toArray, List.take_zero, List.drop_zero, List.take_succ_cons, List.drop_succ_cons, if_true, if_false, decide_true, decide_false, Bool.false_eq_true, Bool.true_eq_false, Bool.not_true, Bool.not_false, not_true_eq_false, not_false_eq_true, ge_iff_le, gt_iff_lt, beq_self_eq_true, bne_self_eq_false, and_self, and_true, true_and, Option.isSome_some, Heap.get_alloc_same, Heap.alloc_getE, *] | with_reducible refine cndK_d (fun hc => ?_) (fun hc => ?_) | with_reducible refine grdK_d (fun hc => ?_) (fun hc => ?_) | with_reducible refine cndK_i (fun hc => ?_) (fun hc => ?_) | with_reducible refine grdK_i (fun hc => ?_) (fun hc => ?_))
        exact g.h _ l4.h
      case neg =>
        have g := hq'.h h3 (.int .i64 j) l3
        have hjn : j = na := by omega
        rw [← hjn] at g
        replace g := Hid.mk g
        clear l3 hlt' hi hn lh ht
        by_cases hlr : j < bl.length
        · have hlr' : (j : Int) < (bl.length : Int) := by omega
          have h20 : ¬ (j : Int) < 20 := by omega
          clear hlt2 hj hna hjn hlr
          repeat' (first | simp -implicitDefEqProofs only [W_skip, W_reg, W_seq, W_rcond, W_cond, W_block, W_loop, W_exit, W_ret, thenQ_normal, thenQ_exit, thenQ_ret, blockQ_normal, blockQ_ret, blockQ_here, regQ_app, rcQ_app, cndK_t, cndK_f, RegW_nil, RegW_none, RegW_some, contW_app, grdK_tt, grdK_ff, grdK_tf, grdK_ft, grdK_undef, actK_p, actK_r, actK_a, actK_w, actK_call, actK_callV, heapK_app, allocK_app, writeK_app, ret1_ret, ret1_normal, ret0_ret, ret0_normal, ret2_ret2, thenK_app, retcv_ret, retcvK_app, optW_some, evs, Arg.ev, aP, aR, aA, aW, pMov, pBin, pUn, pConv, pPick, pFieldAddr, pNilCheck, pExtract, aBin, aUn, aInt, aNew, partL_f, upd, List.getElem?_cons_zero, List.getElem?_cons_succ, List.getD_cons_zero, List.getD_cons_succ, List.set_cons_zero, List.set_cons_succ, Nat.zero_add, Nat.add_zero, List.getElem?_toArray, List.take_zero, List.drop_zero, List.take_succ_cons, List.drop_succ_cons, if_true, if_false, decide_true, decide_false, Bool.false_eq_true, Bool.true_eq_false, Bool.not_true, Bool.not_false, not_true_eq_false, not_false_eq_true, ge_iff_le, gt_iff_lt, beq_self_eq_true, bne_self_eq_false, and_self, and_true, true_and, Option.isSome_some, Heap.get_alloc_same, Heap.alloc_getE, *] | with_reducible refine cndK_d (fun hc => ?_) (fun hc => ?_) | with_reducible refine grdK_d (fun hc => ?_) (fun hc => ?_) | with_reducible refine cndK_i (fun hc => ?_) (fun hc => ?_) | with_reducible refine grdK_i (fun hc => ?_) (fun hc => ?_))
          exact g.h
        · have hlr' : ¬ (j : Int) < (bl.length : Int) := by omega
          clear hlt2 hj hna hjn hlr
          repeat' (first | simp -implicitDefEqProofs only [W_skip, W_reg, W_seq, W_rcond, W_cond, W_block, W_loop, W_exit, W_ret, thenQ_normal, thenQ_exit, thenQ_ret, blockQ_normal, blockQ_ret, blockQ_here, regQ_app, rcQ_app, cndK_t, cndK_f, RegW_nil, RegW_none, RegW_some, contW_app, grdK_tt, grdK_ff, grdK_tf, grdK_ft, grdK_undef, actK_p, actK_r, actK_a, actK_w, actK_call, actK_callV, heapK_app, allocK_app, writeK_app, ret1_ret, ret1_normal, ret0_ret, ret0_normal, ret2_ret2, thenK_app, retcv_ret, retcvK_app, optW_some, evs, Arg.ev, aP, aR, aA, aW, pMov, pBin, pUn, pConv, pPick, pFieldAddr, pNilCheck, pExtract, aBin, aUn, aInt, aNew, partL_f, upd, List.getElem?_cons_zero, List.getElem?_cons_succ, List.getD_cons_zero, List.getD_cons_succ, List.set_cons_zero, List.set_cons_succ, Nat.zero_add, Nat.add_zero, List.getElem?_toArray, List.take_zero, List.drop_zero, List.take_succ_cons, List.drop_succ_cons, if_true, if_false, decide_true, decide_false, Bool.false_eq_true, Bool.true_eq_false, Bool.not_true, Bool.not_false, not_true_eq_false, not_false_eq_true, ge_iff_le, gt_iff_lt, beq_self_eq_true, bne_self_eq_false, and_self, and_true, true_and, Option.isSome_some, Heap.get_alloc_same, Heap.alloc_getE, *] | with_reducible refine cndK_d (fun hc => ?_) (fun hc => ?_) | with_reducible refine grdK_d (fun hc => ?_) (fun hc => ?_) | with_reducible refine cndK_i (fun hc => ?_) (fun hc => ?_) | with_reducible refine grdK_i (fun hc => ?_) (fun hc => ?_))
          exact g.h
    replace enter := Hid.mk enter
    have bt := bslice_two s t
    have na20 : na ≤ 20 := by omega
    have rest : ∀ (h3 : Heap) (x9 : Value), ∃ q h4, h3.next = q ∧ h3.alloc (.blk [str s, str t] true) = h4 ∧ Strs h4 (.slice (some ⟨q, 0, none⟩) 2 1) [s, t] := fun h3 x9 => ⟨_, _, rfl, rfl, strs_new h3 [s, t] rfl rfl⟩
    replace rest := Hid.mk rest
    have fin : ∀ h3 x9, h1.le h3 → W Tryd.prog N c8.vars (.seq (.seq (.reg c8_r15 [(18, 2), (19, 1), (20, 0)]) (.block 4 (.loop c8_l31))) (.seq (.reg c8_r32 [(3, 0)]) .ret)) (ret1 3 Q) [str s, v, vb, .bool false, .bool true, str t, .int .i64 i, x7, str (aheadL B na), x9, undef, undef, undef, undef, undef, undef, undef, undef, undef, undef, undef, undef] h3 := by
      intro h3 x9 l3
      obtain ⟨q, h4, e1, e2, hs⟩ := rest.h h3 x9
      delta c8_r15 c8_r32
      clear hR lh lh1 enter rest l3
      replace hs := Hid.mk hs
      repeat' (first | simp -implicitDefEqProofs only [W_skip, W_reg, W_seq, W_rcond, W_cond, W_block, W_loop, W_exit, W_ret, thenQ_normal, thenQ_exit, thenQ_ret, blockQ_normal, blockQ_ret, blockQ_here, regQ_app, rcQ_app, cndK_t, cndK_f, RegW_nil, RegW_none, RegW_some, contW_app, grdK_tt, grdK_ff, grdK_tf, grdK_ft, grdK_undef, actK_p, actK_r, actK_a, actK_w, actK_call, actK_callV, heapK_app, allocK_app, writeK_app, ret1_ret, ret1_normal, ret0_ret, ret0_normal, ret2_ret2, thenK_app, retcv_ret, retcvK_app, optW_some, evs, Arg.ev, aP, aR, aA, aW, pMov, pBin, pUn, pConv, pPick, pFieldAddr, pNilCheck, pExtract, aBin, aUn, aInt, aNew, partL_f, upd, List.getElem?_cons_zero, List.getElem?_cons_succ, List.getD_cons_zero, List.getD_cons_succ, List.set_cons_zero, List.set_cons_succ, Nat.zero_add, Nat.add_zero, List.getElem?_toArray, List.take_zero, List.drop_zero, List.take_succ_cons, List.drop_succ_cons, if_true, if_false, decide_true, decide_false, Bool.false_eq_true, Bool.true_eq_false, Bool.not_true, Bool.not_false, not_true_eq_false, not_false_eq_true, ge_iff_le, gt_iff_lt, beq_self_eq_true, bne_self_eq_false, and_self, and_true, true_and, Option.isSome_some, Heap.get_alloc_same, Heap.alloc_getE, pLenS, *] | with_reducible refine cndK_d (fun hc => ?_) (fun hc => ?_) | with_reducible refine grdK_d (fun hc => ?_) (fun hc => ?_) | with_reducible refine cndK_i (fun hc => ?_) (fun hc => ?_) | with_reducible refine grdK_i (fun hc => ?_) (fun hc => ?_))
      refine shifts_C hBs.h na20 rfl hs.h ?_
      intro e10 e11 e12 e13 e14 e15 e16 e17 e20 e21 h5
      repeat' (first | simp -implicitDefEqProofs only [W_skip, W_reg, W_seq, W_rcond, W_cond, W_block, W_loop, W_exit, W_ret, thenQ_normal, thenQ_exit, thenQ_ret, blockQ_normal, blockQ_ret, blockQ_here, regQ_app, rcQ_app, cndK_t, cndK_f, RegW_nil, RegW_none, RegW_some, contW_app, grdK_tt, grdK_ff, grdK_tf, grdK_ft, grdK_undef, actK_p, actK_r, actK_a, actK_w, actK_call, actK_callV, heapK_app, allocK_app, writeK_app, ret1_ret, ret1_normal, ret0_ret, ret0_normal, ret2_ret2, thenK_app, retcv_ret, retcvK_app, optW_some, evs, Arg.ev, aP, aR, aA, aW, pMov, pBin, pUn, pConv, pPick, pFieldAddr, pNilCheck, pExtract, aBin, aUn, aInt, aNew, partL_f, upd, List.getElem?_cons_zero, List.getElem?_cons_succ, List.getD_cons_zero, List.getD_cons_succ, List.set_cons_zero, List.set_cons_succ, Nat.zero_add, Nat.add_zero, List.getElem?_toArray, List.take_zero, List.drop_zero, List.take_succ_cons, List.drop_succ_cons, if_true, if_false, decide_true, decide_false, Bool.false_eq_true, Bool.true_eq_false, Bool.not_true, Bool.not_false, not_true_eq_false, not_false_eq_true, ge_iff_le, gt_iff_lt, beq_self_eq_true, bne_self_eq_false, and_self, and_true, true_and, Option.isSome_some, Heap.get_alloc_same, Heap.alloc_getE, *] | with_reducible refine cndK_d (fun hc => ?_) (fun hc => ?_) | with_reducible refine grdK_d (fun hc => ?_) (fun hc => ?_) | with_reducible refine cndK_i (fun hc => ?_) (fun hc => ?_) | with_reducible refine grdK_i (fun hc => ?_) (fun hc => ?_))
      exact hq.h _
    replace fin := Hid.mk fin
    clear hR
    by_cases hlr : i < raw.length
    · have hlr' : (i : Int) < (raw.length : Int) := by omega
      have h20 : ¬ (i : Int) < 20 := by omega
      clear hlt' hi hn hlr lh ht
      repeat' (first | simp -implicitDefEqProofs only [W_skip, W_reg, W_seq, W_rcond, W_cond, W_block, W_loop, W_exit, W_ret, thenQ_normal, thenQ_exit, thenQ_ret, blockQ_normal, blockQ_ret, blockQ_here, regQ_app, rcQ_app, cndK_t, cndK_f, RegW_nil, RegW_none, RegW_some, contW_app, grdK_tt, grdK_ff, grdK_tf, grdK_ft, grdK_undef, actK_p, actK_r, actK_a, actK_w, actK_call, actK_callV, heapK_app, allocK_app, writeK_app, ret1_ret, ret1_normal, ret0_ret, ret0_normal, ret2_ret2, thenK_app, retcv_ret, retcvK_app, optW_some, evs, Arg.ev, aP, aR, aA, aW, pMov, pBin, pUn, pConv, pPick, pFieldAddr, pNilCheck, pExtract, aBin, aUn, aInt, aNew, partL_f, upd, List.getElem?_cons_zero, List.getElem?_cons_succ, List.getD_cons_zero, List.getD_cons_succ, List.set_cons_zero, List.set_cons_succ, Nat.zero_add, Nat.add_zero, List.getElem?_toArray, List.take_zero, List.drop_zero, List.take_succ_cons, List.drop_succ_cons, if_true, if_false, decide_true, decide_false, Bool.false_eq_true, Bool.true_eq_false, Bool.not_true, Bool.not_false, not_true_eq_false, not_false_eq_true, ge_iff_le, gt_iff_lt, beq_self_eq_true, bne_self_eq_false, and_self, and_true, true_and, Option.isSome_some, Heap.get_alloc_same, Heap.alloc_getE, *] | with_reducible refine cndK_d (fun hc => ?_) (fun hc => ?_) | with_reducible refine grdK_d (fun hc => ?_) (fun hc => ?_) | with_reducible refine cndK_i (fun hc => ?_) (fun hc => ?_) | with_reducible refine grdK_i (fun hc => ?_) (fun hc => ?_))
      refine enter.h _ fun h3 x9 l3 => ?_
      exact fin.h h3 x9 l3
    · have hlr' : ¬ (i : Int) < (raw.length : Int) := by omega
      clear hlt' hi hn hlr lh ht
      repeat' (first | simp -implicitDefEqProofs only [W_skip, W_reg, W_seq, W_rcond, W_cond, W_block, W_loop, W_exit, W_ret, thenQ_normal, thenQ_exit, thenQ_ret, blockQ_normal, blockQ_ret, blockQ_here, regQ_app, rcQ_app, cndK_t, cndK_f, RegW_nil, RegW_none, RegW_some, contW_app, grdK_tt, grdK_ff, grdK_tf, grdK_ft, grdK_undef, actK_p, actK_r, actK_a, actK_w, actK_call, actK_callV, heapK_app, allocK_app, writeK_app, ret1_ret, ret1_normal, ret0_ret, ret0_normal, ret2_ret2, thenK_app, retcv_ret, retcvK_app, optW_some, evs, Arg.ev, aP, aR, aA, aW, pMov, pBin, pUn, pConv, pPick, pFieldAddr, pNilCheck, pExtract, aBin, aUn, aInt, aNew, partL_f, upd, List.getElem?_cons_zero, List.getElem?_cons_succ, List.getD_cons_zero, List.getD_cons_succ, List.set_cons_zero, List.set_cons_succ, Nat.zero_add, Nat.add_zero, List.getElem?_toArray, List.take_zero, List.drop_zero, List.take_succ_cons, List.drop_succ_cons, if_true, if_false, decide_true, decide_false, Bool.false_eq_true, Bool.true_eq_false, Bool.not_true, Bool.not_false, not_true_eq_false, not_false_eq_true, ge_iff_le, gt_iff_lt, beq_self_eq_true, bne_self_eq_false, and_self, and_true, true_and, Option.isSome_some, Heap.get_alloc_same, Heap.alloc_getE, *] | with_reducible refine cndK_d (fun hc => ?_) (fun hc => ?_) | with_reducible refine grdK_d (fun hc => ?_) (fun hc => ?_) | with_reducible refine cndK_i (fun hc => ?_) (fun hc => ?_) | with_reducible refine grdK_i (fun hc => ?_) (fun hc => ?_))
      refine enter.h _ fun h3 x9 l3 => ?_
      exact fin.h h3 x9 l3
end Go.Eng.Tk

set_option linter.unusedSimpArgs false
set_option linter.unusedVariables false
namespace Go.Eng.Tk
open Go Go.Eng Go.Proofs

/-- the second text's tokens, behind the first one's, their lines further on -/
theorem join_loop {a : List UInt8} (hal : a.length ≤ 10000) {N : Nat} {hb h : Heap} (hle : hb.le h) {vm out : Value} {tm ts : List Tok} (htm : TokS hb vm tm) (hto : Toks hb h out ts) (hok : ∀ t ∈ tm, 0 ≤ t.line ∧ t.line ≤ 100000) (hll : tm.length + ts.length ≤ 100000)
    {e0 e1 e2 e3 e4 e6 e7 e8 e9 e10 e11 e12 e14 e15 e16 e19 : Value} {Q' : AExit → List Value → Heap → Prop}
    (hQ : ∀ h' out' i e19, hb.le h' → Toks hb h' out' (ts ++ tm.map (shT ((feedsN a : Int) + 1))) → Q' (.exit 4) [e0, e1, e2, e3, e4, str a, e6, e7, e8, e9, e10, e11, e12, vm, e14, e15, e16, out', i, e19] h') :
    LoopW Tryd.prog N c5.vars c5_l28 [e0, e1, e2, e3, e4, str a, e6, e7, e8, e9, e10, e11, e12, vm, e14, e15, e16, out, .int .i64 0, e19] h Q' := by
  replace hQ := Hid.mk hQ
  replace hok := Hid.mk hok
  obtain ⟨d, hd⟩ : ∃ d : Int, (feedsN a : Int) = d := ⟨_, rfl⟩
  have hd1 : 0 ≤ d ∧ d ≤ 10000 := by have := feedsN_le a; omega
  have lm := tokS_len htm
  replace htm := Hid.mk htm
  refine LoopW.upto tm.length (fun i e h' => hb.le h' ∧ ∃ out' e19, e = [e0, e1, e2, e3, e4, str a, e6, e7, e8, e9, e10, e11, e12, vm, e14, e15, e16, out', .int .i64 i, e19] ∧ Toks hb h' out' (ts ++ (tm.take i).map (shT (d + 1)))) ?_ (Nat.zero_le _) ⟨hle, out, _, rfl, by simpa using hto⟩
  clear hle hto
  rintro i _ h' R hi ⟨lh, out, e19, rfl, hto⟩ hR
  delta c5_l28 c5_r23 c5_r24 c5_r25 c5_r26 c5_r27
  by_cases hlt' : i < tm.length
  case neg =>
    have hlt'' : ¬ (i : Int) < (tm.length : Int) := by omega
    have g := hQ.h h' out (.int .i64 i) e19 lh (by rw [hd]; rwa [List.take_of_length_le (by omega)] at hto)
    replace g := Hid.mk g
    clear hto lh
    repeat' (first | simp -implicitDefEqProofs only [W_skip, W_reg, W_seq, W_rcond, W_cond, W_block, W_loop, W_exit, W_ret, thenQ_normal, thenQ_exit, thenQ_ret, blockQ_normal, blockQ_ret, blockQ_here, regQ_app, rcQ_app, cndK_t, cndK_f, RegW_nil, RegW_none, RegW_some, contW_app, grdK_tt, grdK_ff, grdK_tf, grdK_ft, grdK_undef, actK_p, actK_r, actK_a, actK_w, actK_call, actK_callV, heapK_app, allocK_app, writeK_app, ret1_ret, ret1_normal, ret0_ret, ret0_normal, ret2_ret2, thenK_app, retcv_ret, retcvK_app, optW_some, evs, Arg.ev, aP, aR, aA, aW, pMov, pBin, pUn, pConv, pPick, pFieldAddr, pNilCheck, pExtract, aBin, aUn, aInt, aNew, partL_f, upd, List.getElem?_cons_zero, List.getElem?_cons_succ, List.getD_cons_zero, List.getD_cons_succ, List.set_cons_zero, List.set_cons_succ, Nat.zero_add, Nat.add_zero, List.getElem?_toArray, List.take_zero, List.drop_zero, List.take_succ_cons, List.drop_succ_cons, if_true, if_false, decide_true, decide_false, Bool.false_eq_true, Bool.true_eq_false, Bool.not_true, Bool.not_false, not_true_eq_false, not_false_eq_true, ge_iff_le, gt_iff_lt, beq_self_eq_true, bne_self_eq_false, and_self, and_true, true_and, Option.isSome_some, Heap.get_alloc_same, Heap.alloc_getE, *] | with_reducible refine cndK_d (fun hc => ?_) (fun hc => ?_) | with_reducible refine grdK_d (fun hc => ?_) (fun hc => ?_) | with_reducible refine cndK_i (fun hc => ?_) (fun hc => ?_) | with_reducible refine grdK_i (fun hc => ?_) (fun hc => ?_))
    exact g.h
  case pos =>
    have hlt'' : (i : Int) < (tm.length : Int) := by omega
    have hwj : IntKind.i64.wrap ((i : Int) + 1) = ((i + 1 : Nat) : Int) := by rw [wrapI (by omega) (by omega)]; rfl
    obtain ⟨t, ht⟩ : ∃ t, tm[i]? = some t := ⟨_, List.getElem?_eq_getElem hlt'⟩
    obtain ⟨o1, o2⟩ := hok.h t (List.mem_of_getElem? ht)
    obtain ⟨id, off, cells, own, a1, a2, a3, _⟩ := tokS_elem (SlV.mono lh htm.h) ht
    have hw1 : IntKind.i64.wrap (t.line + d) = t.line + d := wrapI (by omega) (by omega)
    have hw2 : IntKind.i64.wrap (t.line + d + 1) = t.line + (d + 1) := by rw [wrapI (by omega) (by omega)]; omega
    obtain ⟨q, hqq⟩ : ∃ x, h'.next = x := ⟨_, rfl⟩
    have st1 := wStore_new (h := h') (size := 4) (zs := [.int .i64 0, .string ⟨#[]⟩, .int .i64 0, .int .i64 0]) (v := t.val) rfl rfl rfl rfl
    obtain ⟨h2, hh2⟩ : ∃ x, h'.alloc (.blk t.cells true) = x := ⟨_, rfl⟩
    have l2 : h'.le h2 := by rw [← hh2]; exact (Heap.le.refl _).alloc _
    have gq2 : h2.get q = some (.blk t.cells true) := by rw [← hh2, ← hqq]; exact Heap.get_alloc_same _ _
    rw [hqq] at st1
    have st1' : wStore 4 (h'.alloc (.blk [.int .i64 0, .string ⟨#[]⟩, .int .i64 0, .int .i64 0] true)) [.pointer (some ⟨q, 0, none⟩), t.val] = some (undef, h2) := by rw [← hh2]; exact st1
    have st2 := wStore_int (k := .i64) (z := t.line + (d + 1)) (off := 3) gq2 (by simp [Tok.cells])
    obtain ⟨h3, hh3⟩ : ∃ x, h2.set q (.blk (t.cells.set 3 (.int .i64 (t.line + (d + 1)))) true) = x := ⟨_, rfl⟩
    rw [hh3] at st2
    have gq3 : h3.get q = some (.blk [.int .i64 t.kind, str t.text, .int .i64 t.n, .int .i64 (t.line + (d + 1))] true) := by rw [← hh3]; exact Heap.set_getS _ _ _ (by rw [gq2]; rfl)
    have l3 : h'.le h3 := by rw [← hh3]; exact l2.set (by omega) _
    have gq2' : h2.get q = some (.blk [.int .i64 t.kind, str t.text, .int .i64 t.n, .int .i64 t.line] true) := gq2
    have pt := part_tok t.kind t.n (t.line + (d + 1)) t.text
    obtain ⟨v', h5, b1, b2, b3, _⟩ := toks_append (hto.mono l3) (lh.trans l3) (by simp; omega) ⟨t.kind, t.text, t.n, t.line + (d + 1)⟩
    have bt := bslice_tok ⟨t.kind, t.text, t.n, t.line + (d + 1)⟩
    have hts : ts ++ (tm.take (i + 1)).map (shT (d + 1)) = ts ++ (tm.take i).map (shT (d + 1)) ++ [⟨t.kind, t.text, t.n, t.line + (d + 1)⟩] := by
      rw [List.take_add_one, ht]; simp [shT]
    have g := fun e19 => hR.h [e0, e1, e2, e3, e4, str a, e6, e7, e8, e9, e10, e11, e12, vm, e14, e15, e16, v', .int .i64 ((i + 1 : Nat) : Int), e19] h5 hlt' ⟨b3, v', e19, rfl, by rw [hts]; exact b2⟩
    replace g := Hid.mk g
    replace hh2 := Hid.mk hh2
    replace hh3 := Hid.mk hh3
    clear st1 b2 b3 hts hto lh l2 l3 ht gq2
    repeat' (first | simp -implicitDefEqProofs only [W_skip, W_reg, W_seq, W_rcond, W_cond, W_block, W_loop, W_exit, W_ret, thenQ_normal, thenQ_exit, thenQ_ret, blockQ_normal, blockQ_ret, blockQ_here, regQ_app, rcQ_app, cndK_t, cndK_f, RegW_nil, RegW_none, RegW_some, contW_app, grdK_tt, grdK_ff, grdK_tf, grdK_ft, grdK_undef, actK_p, actK_r, actK_a, actK_w, actK_call, actK_callV, heapK_app, allocK_app, writeK_app, ret1_ret, ret1_normal, ret0_ret, ret0_normal, ret2_ret2, thenK_app, retcv_ret, retcvK_app, optW_some, evs, Arg.ev, aP, aA, aW, pMov, pBin, pUn, pConv, pPick, pFieldAddr, pNilCheck, pExtract, aBin, aUn, aInt, aNew, partL_f, upd, List.getElem?_cons_zero, List.getElem?_cons_succ, List.getD_cons_zero, List.getD_cons_succ, List.set_cons_zero, List.set_cons_succ, Nat.zero_add, Nat.add_zero, List.getElem?_toArray, List.take_zero, List.drop_zero, List.take_succ_cons, List.drop_succ_cons, if_true, if_false, decide_true, decide_false, Bool.false_eq_true, Bool.true_eq_false, Bool.not_true, Bool.not_false, not_true_eq_false, not_false_eq_true, ge_iff_le, gt_iff_lt, beq_self_eq_true, bne_self_eq_false, and_self, and_true, true_and, Option.isSome_some, Heap.get_alloc_same, Heap.alloc_getE, aR_ld, ldK_blk, *] | with_reducible refine cndK_d (fun hc => ?_) (fun hc => ?_) | with_reducible refine grdK_d (fun hc => ?_) (fun hc => ?_) | with_reducible refine cndK_i (fun hc => ?_) (fun hc => ?_) | with_reducible refine grdK_i (fun hc => ?_) (fun hc => ?_))
    refine feeds_c (by omega) h2 _ ⟨fun _ => Heap.le.ext (Heap.le.refl _), ?_⟩
    rw [hd]
    repeat' (first | simp -implicitDefEqProofs only [W_skip, W_reg, W_seq, W_rcond, W_cond, W_block, W_loop, W_exit, W_ret, thenQ_normal, thenQ_exit, thenQ_ret, blockQ_normal, blockQ_ret, blockQ_here, regQ_app, rcQ_app, cndK_t, cndK_f, RegW_nil, RegW_none, RegW_some, contW_app, grdK_tt, grdK_ff, grdK_tf, grdK_ft, grdK_undef, actK_p, actK_r, actK_a, actK_w, actK_call, actK_callV, heapK_app, allocK_app, writeK_app, ret1_ret, ret1_normal, ret0_ret, ret0_normal, ret2_ret2, thenK_app, retcv_ret, retcvK_app, optW_some, evs, Arg.ev, aP, aA, aW, pMov, pBin, pUn, pConv, pPick, pFieldAddr, pNilCheck, pExtract, aBin, aUn, aInt, aNew, partL_f, upd, List.getElem?_cons_zero, List.getElem?_cons_succ, List.getD_cons_zero, List.getD_cons_succ, List.set_cons_zero, List.set_cons_succ, Nat.zero_add, Nat.add_zero, List.getElem?_toArray, List.take_zero, List.drop_zero, List.take_succ_cons, List.drop_succ_cons, if_true, if_false, decide_true, decide_false, Bool.false_eq_true, Bool.true_eq_false, Bool.not_true, Bool.not_false, not_true_eq_false, not_false_eq_true, ge_iff_le, gt_iff_lt, beq_self_eq_true, bne_self_eq_false, and_self, and_true, true_and, Option.isSome_some, Heap.get_alloc_same, Heap.alloc_getE, aR_ld, ldK_blk, *] | with_reducible refine cndK_d (fun hc => ?_) (fun hc => ?_) | with_reducible refine grdK_d (fun hc => ?_) (fun hc => ?_) | with_reducible refine cndK_i (fun hc => ?_) (fun hc => ?_) | with_reducible refine grdK_i (fun hc => ?_) (fun hc => ?_))
    exact g.h _
end Go.Eng.Tk

set_option linter.unusedSimpArgs false
set_option linter.unusedVariables false
namespace Go.Eng.Tk
open Go Go.Eng Go.Proofs

theorem toks_part {h : Heap} {v : Value} {ts : List Tok} (ha : TokS h v ts) {n : Nat} (hn : n ≤ ts.length) : ∃ w, pSliceS 4 false true [v, .int .i64 n] = some w ∧ TokS h w (ts.take n) := by
  obtain ⟨w, h1, h2⟩ := SlV.partHi ha (b := n) (by simpa using hn)
  exact ⟨w, h1, by unfold TokS; rw [List.map_take]; exact h2⟩
theorem toks_copy {h : Heap} {w : Value} {ts : List Tok} (hw : TokS h w ts) (hl : ts.length ≤ 1000000) :
    ∃ v' h', wAppend 4 40 h [.slice none 0 0, w] = some (v', h') ∧ Toks h h' v' ts ∧ h.le h' := by
  obtain ⟨v', h', h1, h2, h3, _⟩ := OwnS.append (.nil h h 4) (Heap.le.refl h) hw (by omega) (b := 40) (by simp; omega) (by simp; omega)
  exact ⟨v', h', h1, by simpa using h2, h3⟩
/-! ### TokenJoin -/
theorem TokenJoin_c {v v2 vb : Value} {raw raw2 : List (Int × Int)} {bl : List Int} {h : Heap} (hv : Raws h v raw) (hok : ∀ r ∈ raw, inI r.1 ∧ inI r.2) (hlen : (raw.length : Int) ≤ 9223372036854775807) (hv2 : Raws h v2 raw2) (hok2 : ∀ r ∈ raw2, inI r.1 ∧ inI r.2) (hlen2 : (raw2.length : Int) ≤ 9223372036854775807)
    (hvb : Ints h vb bl) (hob : ∀ z ∈ bl, inI z) (hlb : (bl.length : Int) ≤ 9223372036854775807) :
    CallW Tryd.prog 5 [v, v2, vb] h fun v _ => v = .bool true := by
  obtain ⟨Q, hQ⟩ : ∃ Q : Value → Heap → Prop, Q = fun v _ => v = .bool true := ⟨_, rfl⟩
  rw [← hQ]
  have hq : ∀ h', Q (.bool true) h' := fun h' => by rw [hQ]
  clear hQ
  have lr := Raws.len hv
  have lr2 := Raws.len hv2
  obtain ⟨B, hB⟩ : ∃ B : Nat → List UInt8, (fun i => blankL bl i) = B := ⟨_, rfl⟩
  have hBs : ∀ i, B i ∈ spaces := fun i => by rw [← hB]; exact blankL_space bl hob i
  have hBi : ∀ i, blankL bl i = B i := fun i => by rw [← hB]
  clear hB
  obtain ⟨B2, hB2⟩ : ∃ B2 : Nat → List UInt8, (fun i => B (i + 1)) = B2 := ⟨_, rfl⟩
  have hBs2 : ∀ i, B2 i ∈ spaces := fun i => by rw [← hB2]; exact hBs _
  have hBi2 : ∀ i, blankL bl (i + 1) = B2 i := fun i => by rw [← hB2]; exact hBi _
  clear hB2
  refine call_of1 (k := 3) ok5 rfl rfl rfl fun N => ?_
  rw [show env0 c5 [v, v2, vb] = [v, v2, vb, undef, undef, undef, undef, undef, undef, undef, undef, undef, undef, undef, undef, undef, undef, undef, undef, undef] from rfl]
  delta c5 c5_r0 c5_r1 c5_r2 c5_r3 c5_r4 c5_r5 c5_r6 c5_r7 c5_r9 c5_r10 c5_r11 c5_r12 c5_r13 c5_r14 c5_r16 c5_r17 c5_r18 c5_r19 c5_r20 c5_r21 c5_r22 c5_r23 c5_r24 c5_r25 c5_r26 c5_r27 c5_r29
  replace hq := Hid.mk hq
  repeat' (first | simp -implicitDefEqProofs only [W_skip, W_reg, W_seq, W_rcond, W_cond, W_block, W_loop, W_exit, W_ret, thenQ_normal, thenQ_exit, thenQ_ret, blockQ_normal, blockQ_ret, blockQ_here, regQ_app, rcQ_app, cndK_t, cndK_f, RegW_nil, RegW_none, RegW_some, contW_app, grdK_tt, grdK_ff, grdK_tf, grdK_ft, grdK_undef, actK_p, actK_r, actK_a, actK_w, actK_call, actK_callV, heapK_app, allocK_app, writeK_app, ret1_ret, ret1_normal, ret0_ret, ret0_normal, ret2_ret2, thenK_app, retcv_ret, retcvK_app, optW_some, evs, Arg.ev, aP, aR, aA, aW, pMov, pBin, pUn, pConv, pPick, pFieldAddr, pNilCheck, pExtract, aBin, aUn, aInt, aNew, partL_f, upd, List.getElem?_cons_zero, List.getElem?_cons_succ, List.getD_cons_zero, List.getD_cons_succ, List.set_cons_zero, List.set_cons_succ, Nat.zero_add, Nat.add_zero, List.getElem?_toArray, List.take_zero, List.drop_zero, List.take_succ_cons, List.drop_succ_cons, if_true, if_false, decide_true, decide_false, Bool.false_eq_true, Bool.true_eq_false, Bool.not_true, Bool.not_false, not_true_eq_false, not_false_eq_true, ge_iff_le, gt_iff_lt, beq_self_eq_true, bne_self_eq_false, and_self, and_true, true_and, Option.isSome_some, Heap.get_alloc_same, Heap.alloc_getE, *] | with_reducible refine cndK_d (fun hc => ?_) (fun hc => ?_) | with_reducible refine grdK_d (fun hc => ?_) (fun hc => ?_) | with_reducible refine cndK_i (fun hc => ?_) (fun hc => ?_) | with_reducible refine grdK_i (fun hc => ?_) (fun hc => ?_))
  refine awake_c h _ fun h1 l1 => ?_
  have hv1 := Hid.mk (hv.mono l1)
  have hv21 := Hid.mk (hv2.mono l1)
  have hvb1 := Hid.mk (SlV.mono l1 hvb)
  clear hv hvb hv2
  replace hok := Hid.mk hok
  replace hok2 := Hid.mk hok2
  replace hob := Hid.mk hob
  replace hBs := Hid.mk hBs
  replace hBi := Hid.mk hBi
  replace hBs2 := Hid.mk hBs2
  replace hBi2 := Hid.mk hBi2
  obtain ⟨n, hn⟩ : ∃ n, min raw.length 20 = n := ⟨_, rfl⟩
  obtain ⟨n2, hn2⟩ : ∃ n, min raw2.length 20 = n := ⟨_, rfl⟩
  repeat' (first | simp -implicitDefEqProofs only [W_skip, W_reg, W_seq, W_rcond, W_cond, W_block, W_loop, W_exit, W_ret, thenQ_normal, thenQ_exit, thenQ_ret, blockQ_normal, blockQ_ret, blockQ_here, regQ_app, rcQ_app, cndK_t, cndK_f, RegW_nil, RegW_none, RegW_some, contW_app, grdK_tt, grdK_ff, grdK_tf, grdK_ft, grdK_undef, actK_p, actK_r, actK_a, actK_w, actK_call, actK_callV, heapK_app, allocK_app, writeK_app, ret1_ret, ret1_normal, ret0_ret, ret0_normal, ret2_ret2, thenK_app, retcv_ret, retcvK_app, optW_some, evs, Arg.ev, aP, aR, aA, aW, pMov, pBin, pUn, pConv, pPick, pFieldAddr, pNilCheck, pExtract, aBin, aUn, aInt, aNew, partL_f, upd, List.getElem?_cons_zero, List.getElem?_cons_succ, List.getD_cons_zero, List.getD_cons_succ, List.set_cons_zero, List.set_cons_succ, Nat.zero_add, Nat.add_zero, List.getElem?_toArray, List.take_zero, List.drop_zero, List.take_succ_cons, List.drop_succ_cons, if_true, if_false, decide_true, decide_false, Bool.false_eq_true, Bool.true_eq_false, Bool.not_true, Bool.not_false, not_true_eq_false, not_false_eq_true, ge_iff_le, gt_iff_lt, beq_self_eq_true, bne_self_eq_false, and_self, and_true, true_and, Option.isSome_some, Heap.get_alloc_same, Heap.alloc_getE, *] | with_reducible refine cndK_d (fun hc => ?_) (fun hc => ?_) | with_reducible refine grdK_d (fun hc => ?_) (fun hc => ?_) | with_reducible refine cndK_i (fun hc => ?_) (fun hc => ?_) | with_reducible refine grdK_i (fun hc => ?_) (fun hc => ?_))
  refine LoopW.upto n (fun i e h' => h1.le h' ∧ ∃ x7, e = [v, v2, vb, .bool false, .bool true, str (seqT (pairs raw B i)), .int .i64 i, x7, undef, undef, undef, undef, undef, undef, undef, undef, undef, undef, undef, undef]) ?_ (Nat.zero_le _)
    ⟨Heap.le.refl _, undef, rfl⟩
  rintro i _ h' R hi ⟨lh, x7, rfl⟩ hR
  delta c5_l8 c5_r0 c5_r1 c5_r2 c5_r3 c5_r4 c5_r5 c5_r6 c5_r7 c5_r9 c5_r10 c5_r11 c5_r12 c5_r13 c5_r14 c5_r16 c5_r17 c5_r18 c5_r19 c5_r20 c5_r21 c5_r22 c5_r23 c5_r24 c5_r25 c5_r26 c5_r27 c5_r29
  have hpl := pairs_len hok.h hBs.h i
  by_cases hlt' : i < n
  case pos =>
    have hlr : (i : Int) < (raw.length : Int) := by omega
    have h20 : (i : Int) < 20 := by omega
    have hwj : IntKind.i64.wrap ((i : Int) + 1) = ((i + 1 : Nat) : Int) := by rw [wrapI (by omega) (by omega)]; rfl
    obtain ⟨r1, r2⟩ := raw_ok hok.h i
    have hwl := piece_len (kind := (raw.getD i (0, 0)).1) r2
    have hps : pairs raw B (i + 1) = pairs raw B i ++ [pairAt raw B i] := pairs_succ _ _ _
    have hsq : seqT (pairs raw B (i + 1)) = seqT (pairs raw B i) ++ (pieceL (raw.getD i (0, 0)).1 (raw.getD i (0, 0)).2).1 ++ B i := by rw [hps, seqT_snoc]; rfl
    obtain ⟨t, ht⟩ : ∃ s, seqT (pairs raw B i) = s := ⟨_, rfl⟩
    rw [ht] at hsq hpl ⊢
    obtain ⟨ra, hra⟩ : ∃ x, (raw.getD i (0, 0)).1 = x := ⟨_, rfl⟩
    obtain ⟨rb, hrb⟩ : ∃ x, (raw.getD i (0, 0)).2 = x := ⟨_, rfl⟩
    rw [hra] at r1
    rw [hrb] at r2
    rw [hra, hrb] at hwl hsq
    obtain ⟨w, hw⟩ : ∃ w, (pieceL ra rb).1 = w := ⟨_, rfl⟩
    rw [hw] at hwl hsq
    have hbl := space_len (hBs.h i)
    have ct1 := cat_S (a := t) (b := w) (by omega)
    have ct2 := cat_S (a := t ++ w) (b := B i) (by simp; omega)
    obtain ⟨id, off, cells, own, a1, a2, a3, a4, a5, a6⟩ := Raws.at' (hv1.h.mono lh) (i := i) (by omega)
    rw [hra] at a3
    rw [hrb] at a4
    have g := fun x7 h3 (l3 : h'.le h3) => hR.h [v, v2, vb, .bool false, .bool true, str (t ++ w ++ B i), .int .i64 ((i + 1 : Nat) : Int), x7, undef, undef, undef, undef, undef, undef, undef, undef, undef, undef, undef, undef] h3 hlt' ⟨lh.trans l3, x7, by rw [hsq]⟩
    replace g := Hid.mk g
    replace lh := Hid.mk lh
    clear hps hsq ht hlt' hi hn
    repeat' (first | simp -implicitDefEqProofs only [W_skip, W_reg, W_seq, W_rcond, W_cond, W_block, W_loop, W_exit, W_ret, thenQ_normal, thenQ_exit, thenQ_ret, blockQ_normal, blockQ_ret, blockQ_here, regQ_app, rcQ_app, cndK_t, cndK_f, RegW_nil, RegW_none, RegW_some, contW_app, grdK_tt, grdK_ff, grdK_tf, grdK_ft, grdK_undef, actK_p, actK_r, actK_a, actK_w, actK_call, actK_callV, heapK_app, allocK_app, writeK_app, ret1_ret, ret1_normal, ret0_ret, ret0_normal, ret2_ret2, thenK_app, retcv_ret, retcvK_app, optW_some, evs, Arg.ev, aP, aA, aW, pMov, pBin, pUn, pConv, pPick, pFieldAddr, pNilCheck, pExtract, aBin, aUn, aInt, aNew, partL_f, upd, List.getElem?_cons_zero, List.getElem?_cons_succ, List.getD_cons_zero, List.getD_cons_succ, List.set_cons_zero, List.set_cons_succ, Nat.zero_add, Nat.add_zero, List.getElem?_toArray, List.take_zero, List.drop_zero, List.take_succ_cons, List.drop_succ_cons, if_true, if_false, decide_true, decide_false, Bool.false_eq_true, Bool.true_eq_false, Bool.not_true, Bool.not_false, not_true_eq_false, not_false_eq_true, ge_iff_le, gt_iff_lt, beq_self_eq_true, bne_self_eq_false, and_self, and_true, true_and, Option.isSome_some, Heap.get_alloc_same, Heap.alloc_getE, aR_ld, ldK_blk, *] | with_reducible refine cndK_d (fun hc => ?_) (fun hc => ?_) | with_reducible refine grdK_d (fun hc => ?_) (fun hc => ?_) | with_reducible refine cndK_i (fun hc => ?_) (fun hc => ?_) | with_reducible refine grdK_i (fun hc => ?_) (fun hc => ?_))
    refine piece_c r1 r2 h' _ fun h3 l3 => ?_
    rw [hw]
    replace l3 := Hid.mk l3
    repeat' (first | simp -implicitDefEqProofs only [W_skip, W_reg, W_seq, W_rcond, W_cond, W_block, W_loop, W_exit, W_ret, thenQ_normal, thenQ_exit, thenQ_ret, blockQ_normal, blockQ_ret, blockQ_here, regQ_app, rcQ_app, cndK_t, cndK_f, RegW_nil, RegW_none, RegW_some, contW_app, grdK_tt, grdK_ff, grdK_tf, grdK_ft, grdK_undef, actK_p, actK_r, actK_a, actK_w, actK_call, actK_callV, heapK_app, allocK_app, writeK_app, ret1_ret, ret1_normal, ret0_ret, ret0_normal, ret2_ret2, thenK_app, retcv_ret, retcvK_app, optW_some, evs, Arg.ev, aP, aR, aA, aW, pMov, pBin, pUn, pConv, pPick, pFieldAddr, pNilCheck, pExtract, aBin, aUn, aInt, aNew, partL_f, upd, List.getElem?_cons_zero, List.getElem?_cons_succ, List.getD_cons_zero, List.getD_cons_succ, List.set_cons_zero, List.set_cons_succ, Nat.zero_add, Nat.add_zero, List.getElem?_toArray, List.take_zero, List.drop_zero, List.take_succ_cons, List.drop_succ_cons, if_true, if_false, decide_true, decide_false, Bool.false_eq_true, Bool.true_eq_false, Bool.not_true, Bool.not_false, not_true_eq_false, not_false_eq_true, ge_iff_le, gt_iff_lt, beq_self_eq_true, bne_self_eq_false, and_self, and_true, true_and, Option.isSome_some, Heap.get_alloc_same, Heap.alloc_getE, extract0, extract1, *] | with_reducible refine cndK_d (fun hc => ?_) (fun hc => ?_) | with_reducible refine grdK_d (fun hc => ?_) (fun hc => ?_) | with_reducible refine cndK_i (fun hc => ?_) (fun hc => ?_) | with_reducible refine grdK_i (fun hc => ?_) (fun hc => ?_))
    refine blank_c (SlV.mono (lh.h.trans l3.h) hvb1.h) hob.h hlb i _ fun h4 l4 => ?_
    rw [hBi.h i]
    replace l4 := Hid.mk l4
    repeat' (first | simp -implicitDefEqProofs only [W_skip, W_reg, W_seq, W_rcond, W_cond, W_block, W_loop, W_exit, W_ret, thenQ_normal, thenQ_exit, thenQ_ret, blockQ_normal, blockQ_ret, blockQ_here, regQ_app, rcQ_app, cndK_t, cndK_f, RegW_nil, RegW_none, RegW_some, contW_app, grdK_tt, grdK_ff, grdK_tf, grdK_ft, grdK_undef, actK_p, actK_r, actK_a, actK_w, actK_call, actK_callV, heapK_app, allocK_app, writeK_app, ret1_ret, ret1_normal, ret0_ret, ret0_normal, ret2_ret2, thenK_app, retcv_ret, retcvK_app, optW_some, evs, Arg.ev, aP, aR, aA, aW, pMov, pBin, pUn, pConv, pPick, pFieldAddr, pNilCheck, pExtract, aBin, aUn, aInt, aNew, partL_f, upd, List.getElem?_cons_zero, List.getElem?_cons_succ, List.getD_cons_zero, List.getD_cons_succ, List.set_cons_zero, List.set_cons_succ, Nat.zero_add, Nat.add_zero, List.getElem?_toArray, List.take_zero, List.drop_zero, List.take_succ_cons, List.drop_succ_cons, if_true, if_false, decide_true, decide_false, Bool.false_eq_true, Bool.true_eq_false, Bool.not_true, Bool.not_false, not_true_eq_false, not_false_eq_true, ge_iff_le, gt_iff_lt, beq_self_eq_true, bne_self_eq_false, and_self, and_true, true_and, Option.isSome_some, Heap.get_alloc_same, Heap.alloc_getE, *] | with_reducible refine cndK_d (fun hc => ?_) (fun hc => ?_) | with_reducible refine grdK_d (fun hc => ?_) (fun hc => ?_) | with_reducible refine cndK_i (fun hc => ?_) (fun hc => ?_) | with_reducible refine grdK_i (fun hc => ?_) (fun hc => ?_))
    exact g.h _ _ (l3.h.trans l4.h)
  case neg =>
    obtain ⟨a, ha⟩ : ∃ s, seqT (pairs raw B i) = s := ⟨_, rfl⟩
    have lh1 := Hid.mk lh
    -- the second text
    have enter : ∀ (Q' : AExit → List Value → Heap → Prop), (∀ h3 j x9 x10, h1.le h3 → j ≤ 20 → Q' (.exit 2) [v, v2, vb, .bool false, .bool true, str a, .int .i64 i, x7, str (seqT (pairs raw2 B2 j)), x9, x10, undef, undef, undef, undef, undef, undef, undef, undef, undef] h3) →
        LoopW Tryd.prog N c5.vars c5_l15 [v, v2, vb, .bool false, .bool true, str a, .int .i64 i, x7, str (seqT (pairs raw2 B2 0)), .int .i64 0, undef, undef, undef, undef, undef, undef, undef, undef, undef, undef] h' Q' := by
      intro Q' hq'
      replace hq' := Hid.mk hq'
      clear hR hq
      refine LoopW.upto n2 (fun j e h3 => h1.le h3 ∧ ∃ x10, e = [v, v2, vb, .bool false, .bool true, str a, .int .i64 i, x7, str (seqT (pairs raw2 B2 j)), .int .i64 j, x10, undef, undef, undef, undef, undef, undef, undef, undef, undef]) ?_ (Nat.zero_le _) ⟨lh1.h, _, rfl⟩
      rintro j _ h3 R2 hj ⟨l3, x10, rfl⟩ hR2
      delta c5_l15 c5_r11 c5_r12 c5_r13 c5_r14
      have hpl := pairs_len hok2.h hBs2.h j
      by_cases hlt2 : j < n2
      case pos =>
        have hlr : (j : Int) < (raw2.length : Int) := by omega
        have h20 : (j : Int) < 20 := by omega
        have hwj : IntKind.i64.wrap ((j : Int) + 1) = ((j + 1 : Nat) : Int) := by rw [wrapI (by omega) (by omega)]; rfl
        obtain ⟨r1, r2⟩ := raw_ok hok2.h j
        have hwl := piece_len (kind := (raw2.getD j (0, 0)).1) r2
        have hps : pairs raw2 B2 (j + 1) = pairs raw2 B2 j ++ [pairAt raw2 B2 j] := pairs_succ _ _ _
        have hsq : seqT (pairs raw2 B2 (j + 1)) = seqT (pairs raw2 B2 j) ++ (pieceL (raw2.getD j (0, 0)).1 (raw2.getD j (0, 0)).2).1 ++ B2 j := by rw [hps, seqT_snoc]; rfl
        obtain ⟨t, ht⟩ : ∃ s, seqT (pairs raw2 B2 j) = s := ⟨_, rfl⟩
        rw [ht] at hsq hpl ⊢
        obtain ⟨ra, hra⟩ : ∃ x, (raw2.getD j (0, 0)).1 = x := ⟨_, rfl⟩
        obtain ⟨rb, hrb⟩ : ∃ x, (raw2.getD j (0, 0)).2 = x := ⟨_, rfl⟩
        rw [hra] at r1
        rw [hrb] at r2
        rw [hra, hrb] at hwl hsq
        obtain ⟨w, hw⟩ : ∃ w, (pieceL ra rb).1 = w := ⟨_, rfl⟩
        rw [hw] at hwl hsq
        have hbl := space_len (hBs2.h j)
        have ct1 := cat_S (a := t) (b := w) (by omega)
        have ct2 := cat_S (a := t ++ w) (b := B2 j) (by simp; omega)
        obtain ⟨id, off, cells, own, a1, a2, a3, a4, a5, a6⟩ := Raws.at' (hv21.h.mono l3) (i := j) (by omega)
        rw [hra] at a3
        rw [hrb] at a4
        have g := fun x10 h4 (l4 : h3.le h4) => hR2.h [v, v2, vb, .bool false, .bool true, str a, .int .i64 i, x7, str (t ++ w ++ B2 j), .int .i64 ((j + 1 : Nat) : Int), x10, undef, undef, undef, undef, undef, undef, undef, undef, undef] h4 hlt2 ⟨l3.trans l4, x10, by rw [hsq]⟩
        replace g := Hid.mk g
        have l3' := Hid.mk l3
        clear l3 hlt2 hj hn2 hlt' hi hn lh ht ha hps hsq
        repeat' (first | simp -implicitDefEqProofs only [W_skip, W_reg, W_seq, W_rcond, W_cond, W_block, W_loop, W_exit, W_ret, thenQ_normal, thenQ_exit, thenQ_ret, blockQ_normal, blockQ_ret, blockQ_here, regQ_app, rcQ_app, cndK_t, cndK_f, RegW_nil, RegW_none, RegW_some, contW_app, grdK_tt, grdK_ff, grdK_tf, grdK_ft, grdK_undef, actK_p, actK_r, actK_a, actK_w, actK_call, actK_callV, heapK_app, allocK_app, writeK_app, ret1_ret, ret1_normal, ret0_ret, ret0_normal, ret2_ret2, thenK_app, retcv_ret, retcvK_app, optW_some, evs, Arg.ev, aP, aA, aW, pMov, pBin, pUn, pConv, pPick, pFieldAddr, pNilCheck, pExtract, aBin, aUn, aInt, aNew, partL_f, upd, List.getElem?_cons_zero, List.getElem?_cons_succ, List.getD_cons_zero, List.getD_cons_succ, List.set_cons_zero, List.set_cons_succ, Nat.zero_add, Nat.add_zero, List.getElem?_toArray, List.take_zero, List.drop_zero, List.take_succ_cons, List.drop_succ_cons, if_true, if_false, decide_true, decide_false, Bool.false_eq_true, Bool.true_eq_false, Bool.not_true, Bool.not_false, not_true_eq_false, not_false_eq_true, ge_iff_le, gt_iff_lt, beq_self_eq_true, bne_self_eq_false, and_self, and_true, true_and, Option.isSome_some, Heap.get_alloc_same, Heap.alloc_getE, aR_ld, ldK_blk, *] | with_reducible refine cndK_d (fun hc => ?_) (fun hc => ?_) | with_reducible refine grdK_d (fun hc => ?_) (fun hc => ?_) | with_reducible refine cndK_i (fun hc => ?_) (fun hc => ?_) | with_reducible refine grdK_i (fun hc => ?_) (fun hc => ?_))
        refine piece_c r1 r2 h3 _ fun h4 l4 => ?_
        rw [hw]
        replace l4 := Hid.mk l4
        repeat' (first | simp -implicitDefEqProofs only [W_skip, W_reg, W_seq, W_rcond, W_cond, W_block, W_loop, W_exit, W_ret, thenQ_normal, thenQ_exit, thenQ_ret, blockQ_normal, blockQ_ret, blockQ_here, regQ_app, rcQ_app, cndK_t, cndK_f, RegW_nil, RegW_none, RegW_some, contW_app, grdK_tt, grdK_ff, grdK_tf, grdK_ft, grdK_undef, actK_p, actK_r, actK_a, actK_w, actK_call, actK_callV, heapK_app, allocK_app, writeK_app, ret1_ret, ret1_normal, ret0_ret, ret0_normal, ret2_ret2, thenK_app, retcv_ret, retcvK_app, optW_some, evs, Arg.ev, aP, aR, aA, aW, pMov, pBin, pUn, pConv, pPick, pFieldAddr, pNilCheck, pExtract, aBin, aUn, aInt, aNew, partL_f, upd, List.getElem?_cons_zero, List.getElem?_cons_succ, List.getD_cons_zero, List.getD_cons_succ, List.set_cons_zero, List.set_cons_succ, Nat.zero_add, Nat.add_zero, List.getElem?_toArray, List.take_zero, List.drop_zero, List.take_succ_cons, List.drop_succ_cons, if_true, if_false, decide_true, decide_false, Bool.false_eq_true, Bool.true_eq_false, Bool.not_true, Bool.not_false, not_true_eq_false, not_false_eq_true, ge_iff_le, gt_iff_lt, beq_self_eq_true, bne_self_eq_false, and_self, and_true, true_and, Option.isSome_some, Heap.get_alloc_same, Heap.alloc_getE, extract0, extract1, *] | with_reducible refine cndK_d (fun hc => ?_) (fun hc => ?_) | with_reducible refine grdK_d (fun hc => ?_) (fun hc => ?_) | with_reducible refine cndK_i (fun hc => ?_) (fun hc => ?_) | with_reducible refine grdK_i (fun hc => ?_) (fun hc => ?_))
        refine blank_c (SlV.mono (l3'.h.trans l4.h) hvb1.h) hob.h hlb (j + 1) _ fun h5 l5 => ?_
        rw [hBi2.h j]
        replace l5 := Hid.mk l5
        repeat' (first | simp -implicitDefEqProofs only [W_skip, W_reg, W_seq, W_rcond, W_cond, W_block, W_loop, W_exit, W_ret, thenQ_normal, thenQ_exit, thenQ_ret, blockQ_normal, blockQ_ret, blockQ_here, regQ_app, rcQ_app, cndK_t, cndK_f, RegW_nil, RegW_none, RegW_some, contW_app, grdK_tt, grdK_ff, grdK_tf, grdK_ft, grdK_undef, actK_p, actK_r, actK_a, actK_w, actK_call, actK_callV, heapK_app, allocK_app, writeK_app, ret1_ret, ret1_normal, ret0_ret, ret0_normal, ret2_ret2, thenK_app, retcv_ret, retcvK_app, optW_some, evs, Arg.ev, aP, aR, aA, aW, pMov, pBin, pUn, pConv, pPick, pFieldAddr, pNilCheck, pExtract, aBin, aUn, aInt, aNew, partL_f, upd, List.getElem?_cons_zero, List.getElem?_cons_succ, List.getD_cons_zero, List.getD_cons_succ, List.set_cons_zero, List.set_cons_succ, Nat.zero_add, Nat.add_zero, List.getElem?_toArray, List.take_zero, List.drop_zero, List.take_succ_cons, List.drop_succ_cons, if_true, if_false, decide_true, decide_false, Bool.false_eq_true, Bool.true_eq_false, Bool.not_true, Bool.not_false, not_true_eq_false, not_false_eq_true, ge_iff_le, gt_iff_lt, beq_self_eq_true, bne_self_eq_false, and_self, and_true, true_and, Option.isSome_some, Heap.get_alloc_same, Heap.alloc_getE, *] | with_reducible refine cndK_d (fun hc => ?_) (fun hc => ?_) | with_reducible refine grdK_d (fun hc => ?_) (fun hc => ?_) | with_reducible refine cndK_i (fun hc => ?_) (fun hc => ?_) | with_reducible refine grdK_i (fun hc => ?_) (fun hc => ?_))
        exact g.h _ _ (l4.h.trans l5.h)
      case neg =>
        have g := hq'.h h3 j (.int .i64 j) x10 l3 (by omega)
        replace g := Hid.mk g
        obtain ⟨t, ht⟩ : ∃ s, seqT (pairs raw2 B2 j) = s := ⟨_, rfl⟩
        rw [ht] at g ⊢
        clear l3 hlt' hi hn lh ht ha
        by_cases hlr : j < raw2.length
        · have hlr' : (j : Int) < (raw2.length : Int) := by omega
          have h20 : ¬ (j : Int) < 20 := by omega
          clear hlt2 hj hn2 hlr
          repeat' (first | simp -implicitDefEqProofs only [W_skip, W_reg, W_seq, W_rcond, W_cond, W_block, W_loop, W_exit, W_ret, thenQ_normal, thenQ_exit, thenQ_ret, blockQ_normal, blockQ_ret, blockQ_here, regQ_app, rcQ_app, cndK_t, cndK_f, RegW_nil, RegW_none, RegW_some, contW_app, grdK_tt, grdK_ff, grdK_tf, grdK_ft, grdK_undef, actK_p, actK_r, actK_a, actK_w, actK_call, actK_callV, heapK_app, allocK_app, writeK_app, ret1_ret, ret1_normal, ret0_ret, ret0_normal, ret2_ret2, thenK_app, retcv_ret, retcvK_app, optW_some, evs, Arg.ev, aP, aR, aA, aW, pMov, pBin, pUn, pConv, pPick, pFieldAddr, pNilCheck, pExtract, aBin, aUn, aInt, aNew, partL_f, upd, List.getElem?_cons_zero, List.getElem?_cons_succ, List.getD_cons_zero, List.getD_cons_succ, List.set_cons_zero, List.set_cons_succ, Nat.zero_add, Nat.add_zero, List.getElem?_toArray, List.take_zero, List.drop_zero, List.take_succ_cons, List.drop_succ_cons, if_true, if_false, decide_true, decide_false, Bool.false_eq_true, Bool.true_eq_false, Bool.not_true, Bool.not_false, not_true_eq_false, not_false_eq_true, ge_iff_le, gt_iff_lt, beq_self_eq_true, bne_self_eq_false, and_self, and_true, true_and, Option.isSome_some, Heap.get_alloc_same, Heap.alloc_getE, *] | with_reducible refine cndK_d (fun hc => ?_) (fun hc => ?_) | with_reducible refine grdK_d (fun hc => ?_) (fun hc => ?_) | with_reducible refine cndK_i (fun hc => ?_) (fun hc => ?_) | with_reducible refine grdK_i (fun hc => ?_) (fun hc => ?_))
          exact g.h
        · have hlr' : ¬ (j : Int) < (raw2.length : Int) := by omega
          clear hlt2 hj hn2 hlr
          repeat' (first | simp -implicitDefEqProofs only [W_skip, W_reg, W_seq, W_rcond, W_cond, W_block, W_loop, W_exit, W_ret, thenQ_normal, thenQ_exit, thenQ_ret, blockQ_normal, blockQ_ret, blockQ_here, regQ_app, rcQ_app, cndK_t, cndK_f, RegW_nil, RegW_none, RegW_some, contW_app, grdK_tt, grdK_ff, grdK_tf, grdK_ft, grdK_undef, actK_p, actK_r, actK_a, actK_w, actK_call, actK_callV, heapK_app, allocK_app, writeK_app, ret1_ret, ret1_normal, ret0_ret, ret0_normal, ret2_ret2, thenK_app, retcv_ret, retcvK_app, optW_some, evs, Arg.ev, aP, aR, aA, aW, pMov, pBin, pUn, pConv, pPick, pFieldAddr, pNilCheck, pExtract, aBin, aUn, aInt, aNew, partL_f, upd, List.getElem?_cons_zero, List.getElem?_cons_succ, List.getD_cons_zero, List.getD_cons_succ, List.set_cons_zero, List.set_cons_succ, Nat.zero_add, Nat.add_zero, List.getElem?_toArray, List.take_zero, List.drop_zero, List.take_succ_cons, List.drop_succ_cons, if_true, if_false, decide_true, decide_false, Bool.false_eq_true, Bool.true_eq_false, Bool.not_true, Bool.not_false, not_true_eq_false, not_false_eq_true, ge_iff_le, gt_iff_lt, beq_self_eq_true, bne_self_eq_false, and_self, and_true, true_and, Option.isSome_some, Heap.get_alloc_same, Heap.alloc_getE, *] | with_reducible refine cndK_d (fun hc => ?_) (fun hc => ?_) | with_reducible refine grdK_d (fun hc => ?_) (fun hc => ?_) | with_reducible refine cndK_i (fun hc => ?_) (fun hc => ?_) | with_reducible refine grdK_i (fun hc => ?_) (fun hc => ?_))
          exact g.h
    replace enter := Hid.mk enter
    have hi20 : i ≤ 20 := by omega
    -- the scans
    have fin : ∀ h3 j x9 x10, h1.le h3 → j ≤ 20 → W Tryd.prog N c5.vars (.seq (.reg c5_r16 [(11, 2), (12, 1)]) (.seq (.reg c5_r17 [(13, 2), (14, 1)]) (.seq (.reg c5_r18 [(15, 2), (16, 1)]) (.seq (.rcond c5_r19 [] 0
        (.seq (.reg c5_r20 [(3, 0)]) .ret)
        .skip) (.seq (.reg c5_r21 [(17, 0)]) (.seq (.seq (.reg c5_r22 [(18, 0)]) (.block 4 (.loop c5_l28))) (.seq (.reg c5_r29 [(3, 0)]) .ret))))))) (ret1 3 Q) [v, v2, vb, .bool false, .bool true, str a, .int .i64 i, x7, str (seqT (pairs raw2 B2 j)), x9, x10, undef, undef, undef, undef, undef, undef, undef, undef, undef] h3 := by
      intro h3 j x9 x10 l3 hj
      have ga := pairs_good hok.h hBs.h i
      have gb := pairs_good hok2.h hBs2.h j
      have hpa := pairs_len hok.h hBs.h i
      have hpb := pairs_len hok2.h hBs2.h j
      have sa := scanR_seq ga (by omega)
      have sb := scanR_seq gb (by omega)
      have sj := scanR_join ga gb (by omega)
      have lna := scanR_lines (seqT (pairs raw2 B2 j))
      have oka := scanR_ok (seqT (pairs raw2 B2 j))
      have okj := scanR_ok (seqT (pairs raw B i) ++ [10] ++ seqT (pairs raw2 B2 j))
      have lla : (linesM (pairs raw B i) 1).1.length = i := by rw [linesM_len, pairs_length]
      rw [sb] at sj
      rw [sj] at okj
      rw [sb] at lna oka
      rw [ha] at sa sj hpa okj
      obtain ⟨b, hb⟩ : ∃ s, seqT (pairs raw2 B2 j) = s := ⟨_, rfl⟩
      rw [hb] at sb sj hpb ⊢
      obtain ⟨la, hla⟩ : ∃ s, linesM (pairs raw B i) 1 = s := ⟨_, rfl⟩
      rw [hla] at sa sj okj lla
      obtain ⟨tb, htb⟩ : ∃ s, (linesM (pairs raw2 B2 j) 1).1 ++ [endT (linesM (pairs raw2 B2 j) 1).2] = s := ⟨_, rfl⟩
      rw [htb] at sb sj lna oka okj
      obtain ⟨la, m⟩ := la
      simp only at sa sj okj lla lna oka
      have ct1 : aStr .add ⟨a.toArray⟩ ⟨#[10]⟩ = some (str (a ++ [10])) := cat_S (a := a) (b := [10]) (by simp; omega)
      have ct2 := cat_S (a := a ++ [10]) (b := b) (by simp; omega)
      have k0 : ((0 : Int) != 0) = false := rfl
      replace lna := Hid.mk lna
      replace oka := Hid.mk oka
      replace okj := Hid.mk okj
      clear hR lh lh1 enter l3 hlt' hi hn hpl ga gb hla htb hb
      delta c5_r16 c5_r17 c5_r18 c5_r19 c5_r20 c5_r21 c5_r22 c5_r29
      repeat' (first | simp -implicitDefEqProofs only [W_skip, W_reg, W_seq, W_rcond, W_cond, W_block, W_loop, W_exit, W_ret, thenQ_normal, thenQ_exit, thenQ_ret, blockQ_normal, blockQ_ret, blockQ_here, regQ_app, rcQ_app, cndK_t, cndK_f, RegW_nil, RegW_none, RegW_some, contW_app, grdK_tt, grdK_ff, grdK_tf, grdK_ft, grdK_undef, actK_p, actK_r, actK_a, actK_w, actK_call, actK_callV, heapK_app, allocK_app, writeK_app, ret1_ret, ret1_normal, ret0_ret, ret0_normal, ret2_ret2, thenK_app, retcv_ret, retcvK_app, optW_some, evs, Arg.ev, aP, aR, aA, aW, pMov, pBin, pUn, pConv, pPick, pFieldAddr, pNilCheck, pExtract, aBin, aUn, aInt, aNew, partL_f, upd, List.getElem?_cons_zero, List.getElem?_cons_succ, List.getD_cons_zero, List.getD_cons_succ, List.set_cons_zero, List.set_cons_succ, Nat.zero_add, Nat.add_zero, List.getElem?_toArray, List.take_zero, List.drop_zero, List.take_succ_cons, List.drop_succ_cons, if_true, if_false, decide_true, decide_false, Bool.false_eq_true, Bool.true_eq_false, Bool.not_true, Bool.not_false, not_true_eq_false, not_false_eq_true, ge_iff_le, gt_iff_lt, beq_self_eq_true, bne_self_eq_false, and_self, and_true, true_and, Option.isSome_some, Heap.get_alloc_same, Heap.alloc_getE, *] | with_reducible refine cndK_d (fun hc => ?_) (fun hc => ?_) | with_reducible refine grdK_d (fun hc => ?_) (fun hc => ?_) | with_reducible refine cndK_i (fun hc => ?_) (fun hc => ?_) | with_reducible refine grdK_i (fun hc => ?_) (fun hc => ?_))
      refine Scan_c (l := a) h3 (Heap.le.refl h3) _ fun w1 h4 t1 l4 => ?_
      rw [sa] at t1 ⊢
      simp only at t1 ⊢
      replace t1 := Hid.mk t1
      repeat' (first | simp -implicitDefEqProofs only [W_skip, W_reg, W_seq, W_rcond, W_cond, W_block, W_loop, W_exit, W_ret, thenQ_normal, thenQ_exit, thenQ_ret, blockQ_normal, blockQ_ret, blockQ_here, regQ_app, rcQ_app, cndK_t, cndK_f, RegW_nil, RegW_none, RegW_some, contW_app, grdK_tt, grdK_ff, grdK_tf, grdK_ft, grdK_undef, actK_p, actK_r, actK_a, actK_w, actK_call, actK_callV, heapK_app, allocK_app, writeK_app, ret1_ret, ret1_normal, ret0_ret, ret0_normal, ret2_ret2, thenK_app, retcv_ret, retcvK_app, optW_some, evs, Arg.ev, aP, aR, aA, aW, pMov, pBin, pUn, pConv, pPick, pFieldAddr, pNilCheck, pExtract, aBin, aUn, aInt, aNew, partL_f, upd, List.getElem?_cons_zero, List.getElem?_cons_succ, List.getD_cons_zero, List.getD_cons_succ, List.set_cons_zero, List.set_cons_succ, Nat.zero_add, Nat.add_zero, List.getElem?_toArray, List.take_zero, List.drop_zero, List.take_succ_cons, List.drop_succ_cons, if_true, if_false, decide_true, decide_false, Bool.false_eq_true, Bool.true_eq_false, Bool.not_true, Bool.not_false, not_true_eq_false, not_false_eq_true, ge_iff_le, gt_iff_lt, beq_self_eq_true, bne_self_eq_false, and_self, and_true, true_and, Option.isSome_some, Heap.get_alloc_same, Heap.alloc_getE, extract3_0, extract3_1, extract3_2, *] | with_reducible refine cndK_d (fun hc => ?_) (fun hc => ?_) | with_reducible refine grdK_d (fun hc => ?_) (fun hc => ?_) | with_reducible refine cndK_i (fun hc => ?_) (fun hc => ?_) | with_reducible refine grdK_i (fun hc => ?_) (fun hc => ?_))
      refine Scan_c (l := b) h4 (Heap.le.refl h4) _ fun w2 h5 t2 l5 => ?_
      rw [sb] at t2 ⊢
      simp only at t2 ⊢
      replace t2 := Hid.mk t2
      repeat' (first | simp -implicitDefEqProofs only [W_skip, W_reg, W_seq, W_rcond, W_cond, W_block, W_loop, W_exit, W_ret, thenQ_normal, thenQ_exit, thenQ_ret, blockQ_normal, blockQ_ret, blockQ_here, regQ_app, rcQ_app, cndK_t, cndK_f, RegW_nil, RegW_none, RegW_some, contW_app, grdK_tt, grdK_ff, grdK_tf, grdK_ft, grdK_undef, actK_p, actK_r, actK_a, actK_w, actK_call, actK_callV, heapK_app, allocK_app, writeK_app, ret1_ret, ret1_normal, ret0_ret, ret0_normal, ret2_ret2, thenK_app, retcv_ret, retcvK_app, optW_some, evs, Arg.ev, aP, aR, aA, aW, pMov, pBin, pUn, pConv, pPick, pFieldAddr, pNilCheck, pExtract, aBin, aUn, aInt, aNew, partL_f, upd, List.getElem?_cons_zero, List.getElem?_cons_succ, List.getD_cons_zero, List.getD_cons_succ, List.set_cons_zero, List.set_cons_succ, Nat.zero_add, Nat.add_zero, List.getElem?_toArray, List.take_zero, List.drop_zero, List.take_succ_cons, List.drop_succ_cons, if_true, if_false, decide_true, decide_false, Bool.false_eq_true, Bool.true_eq_false, Bool.not_true, Bool.not_false, not_true_eq_false, not_false_eq_true, ge_iff_le, gt_iff_lt, beq_self_eq_true, bne_self_eq_false, and_self, and_true, true_and, Option.isSome_some, Heap.get_alloc_same, Heap.alloc_getE, extract3_0, extract3_1, extract3_2, *] | with_reducible refine cndK_d (fun hc => ?_) (fun hc => ?_) | with_reducible refine grdK_d (fun hc => ?_) (fun hc => ?_) | with_reducible refine cndK_i (fun hc => ?_) (fun hc => ?_) | with_reducible refine grdK_i (fun hc => ?_) (fun hc => ?_))
      refine Scan_c (l := a ++ [10] ++ b) h5 (Heap.le.refl h5) _ fun w3 h6 t3 l6 => ?_
      rw [sj] at t3 ⊢
      simp only at t3 ⊢
      have u1 := ((t1.h.mono l5).mono l6).sl
      have u2 := (t2.h.mono l6).sl
      have u3 := t3.sl
      have n1 := tokS_len u1
      have hi1 : ((la ++ [endT m]).length : Int) = ((i + 1 : Nat) : Int) := by simp; omega
      rw [hi1] at n1
      have kn : (((i + 1 : Nat) : Int) == 0) = false := by simp; omega
      have hws : IntKind.i64.wrap (((i + 1 : Nat) : Int) - 1) = (i : Int) := by rw [wrapI (by omega) (by omega)]; omega
      obtain ⟨w4, p1, p2⟩ := toks_part u1 (n := i) (by simp; omega)
      have htk : (la ++ [endT m]).take i = la := by rw [← lla]; simp
      rw [htk] at p2
      obtain ⟨w5, h7, c1, c2, c3⟩ := toks_copy p2 (by omega)
      have tbl := oka.h.2.1
      have go : ∀ (Q' : AExit → List Value → Heap → Prop), (∀ h8 out' z e19, (CallW Tryd.prog 20 [w3, out'] h8 fun b h9 => b = .bool true) → Q' (.exit 4) [v, v2, vb, .bool false, .bool true, str a, .int .i64 i, x7, str b, x9, x10, w1, .int .i64 0, w2, .int .i64 0, w3, .int .i64 0, out', z, e19] h8) →
          LoopW Tryd.prog N c5.vars c5_l28 [v, v2, vb, .bool false, .bool true, str a, .int .i64 i, x7, str b, x9, x10, w1, .int .i64 0, w2, .int .i64 0, w3, .int .i64 0, w5, .int .i64 0, undef] h7 Q' := by
        intro Q' hq'
        refine join_loop (by omega) c3 u2 c2 lna.h (by omega) ?_
        intro h8 out' z e19 l8 t8
        refine hq' h8 out' z e19 ?_
        refine same_c (SlV.mono l8 u3) t8.sl okj.h.1 okj.h.1 (by have := okj.h.2.1; omega) (by have := okj.h.2.1; omega) _ fun b' hb' => ?_
        rw [hb'.2 rfl]
      replace go := Hid.mk go
      clear u1 u2 u3 t1 t2 t3 l4 l5 l6 p2 c2 c3 htk
      repeat' (first | simp -implicitDefEqProofs only [W_skip, W_reg, W_seq, W_rcond, W_cond, W_block, W_loop, W_exit, W_ret, thenQ_normal, thenQ_exit, thenQ_ret, blockQ_normal, blockQ_ret, blockQ_here, regQ_app, rcQ_app, cndK_t, cndK_f, RegW_nil, RegW_none, RegW_some, contW_app, grdK_tt, grdK_ff, grdK_tf, grdK_ft, grdK_undef, actK_p, actK_r, actK_a, actK_w, actK_call, actK_callV, heapK_app, allocK_app, writeK_app, ret1_ret, ret1_normal, ret0_ret, ret0_normal, ret2_ret2, thenK_app, retcv_ret, retcvK_app, optW_some, evs, Arg.ev, aP, aR, aA, aW, pMov, pBin, pUn, pConv, pPick, pFieldAddr, pNilCheck, pExtract, aBin, aUn, aInt, aNew, partL_f, upd, List.getElem?_cons_zero, List.getElem?_cons_succ, List.getD_cons_zero, List.getD_cons_succ, List.set_cons_zero, List.set_cons_succ, Nat.zero_add, Nat.add_zero, List.getElem?_toArray, List.take_zero, List.drop_zero, List.take_succ_cons, List.drop_succ_cons, if_true, if_false, decide_true, decide_false, Bool.false_eq_true, Bool.true_eq_false, Bool.not_true, Bool.not_false, not_true_eq_false, not_false_eq_true, ge_iff_le, gt_iff_lt, beq_self_eq_true, bne_self_eq_false, and_self, and_true, true_and, Option.isSome_some, Heap.get_alloc_same, Heap.alloc_getE, extract3_0, extract3_1, extract3_2, *] | with_reducible refine cndK_d (fun hc => ?_) (fun hc => ?_) | with_reducible refine grdK_d (fun hc => ?_) (fun hc => ?_) | with_reducible refine cndK_i (fun hc => ?_) (fun hc => ?_) | with_reducible refine grdK_i (fun hc => ?_) (fun hc => ?_))
      refine go.h _ fun h8 out' z e19 hc => ?_
      replace hc := Hid.mk hc
      repeat' (first | simp -implicitDefEqProofs only [W_skip, W_reg, W_seq, W_rcond, W_cond, W_block, W_loop, W_exit, W_ret, thenQ_normal, thenQ_exit, thenQ_ret, blockQ_normal, blockQ_ret, blockQ_here, regQ_app, rcQ_app, cndK_t, cndK_f, RegW_nil, RegW_none, RegW_some, contW_app, grdK_tt, grdK_ff, grdK_tf, grdK_ft, grdK_undef, actK_p, actK_r, actK_a, actK_w, actK_call, actK_callV, heapK_app, allocK_app, writeK_app, ret1_ret, ret1_normal, ret0_ret, ret0_normal, ret2_ret2, thenK_app, retcv_ret, retcvK_app, optW_some, evs, Arg.ev, aP, aR, aA, aW, pMov, pBin, pUn, pConv, pPick, pFieldAddr, pNilCheck, pExtract, aBin, aUn, aInt, aNew, partL_f, upd, List.getElem?_cons_zero, List.getElem?_cons_succ, List.getD_cons_zero, List.getD_cons_succ, List.set_cons_zero, List.set_cons_succ, Nat.zero_add, Nat.add_zero, List.getElem?_toArray, List.take_zero, List.drop_zero, List.take_succ_cons, List.drop_succ_cons, if_true, if_false, decide_true, decide_false, Bool.false_eq_true, Bool.true_eq_false, Bool.not_true, Bool.not_false, not_true_eq_false, not_false_eq_true, ge_iff_le, gt_iff_lt, beq_self_eq_true, bne_self_eq_false, and_self, and_true, true_and, Option.isSome_some, Heap.get_alloc_same, Heap.alloc_getE, *] | with_reducible refine cndK_d (fun hc => ?_) (fun hc => ?_) | with_reducible refine grdK_d (fun hc => ?_) (fun hc => ?_) | with_reducible refine cndK_i (fun hc => ?_) (fun hc => ?_) | with_reducible refine grdK_i (fun hc => ?_) (fun hc => ?_))
      refine hc.h.mono fun b' h9 _ hb' => ?_
      subst hb'
      repeat' (first | simp -implicitDefEqProofs only [W_skip, W_reg, W_seq, W_rcond, W_cond, W_block, W_loop, W_exit, W_ret, thenQ_normal, thenQ_exit, thenQ_ret, blockQ_normal, blockQ_ret, blockQ_here, regQ_app, rcQ_app, cndK_t, cndK_f, RegW_nil, RegW_none, RegW_some, contW_app, grdK_tt, grdK_ff, grdK_tf, grdK_ft, grdK_undef, actK_p, actK_r, actK_a, actK_w, actK_call, actK_callV, heapK_app, allocK_app, writeK_app, ret1_ret, ret1_normal, ret0_ret, ret0_normal, ret2_ret2, thenK_app, retcv_ret, retcvK_app, optW_some, evs, Arg.ev, aP, aR, aA, aW, pMov, pBin, pUn, pConv, pPick, pFieldAddr, pNilCheck, pExtract, aBin, aUn, aInt, aNew, partL_f, upd, List.getElem?_cons_zero, List.getElem?_cons_succ, List.getD_cons_zero, List.getD_cons_succ, List.set_cons_zero, List.set_cons_succ, Nat.zero_add, Nat.add_zero, List.getElem?_toArray, List.take_zero, List.drop_zero, List.take_succ_cons, List.drop_succ_cons, if_true, if_false, decide_true, decide_false, Bool.false_eq_true, Bool.true_eq_false, Bool.not_true, Bool.not_false, not_true_eq_false, not_false_eq_true, ge_iff_le, gt_iff_lt, beq_self_eq_true, bne_self_eq_false, and_self, and_true, true_and, Option.isSome_some, Heap.get_alloc_same, Heap.alloc_getE, *] | with_reducible refine cndK_d (fun hc => ?_) (fun hc => ?_) | with_reducible refine grdK_d (fun hc => ?_) (fun hc => ?_) | with_reducible refine cndK_i (fun hc => ?_) (fun hc => ?_) | with_reducible refine grdK_i (fun hc => ?_) (fun hc => ?_))
      exact hq.h _
    replace fin := Hid.mk fin
    clear hR
    rw [ha]
    by_cases hlr : i < raw.length
    · have hlr' : (i : Int) < (raw.length : Int) := by omega
      have h20 : ¬ (i : Int) < 20 := by omega
      clear hlt' hi hn hlr lh ha
      repeat' (first | simp -implicitDefEqProofs only [W_skip, W_reg, W_seq, W_rcond, W_cond, W_block, W_loop, W_exit, W_ret, thenQ_normal, thenQ_exit, thenQ_ret, blockQ_normal, blockQ_ret, blockQ_here, regQ_app, rcQ_app, cndK_t, cndK_f, RegW_nil, RegW_none, RegW_some, contW_app, grdK_tt, grdK_ff, grdK_tf, grdK_ft, grdK_undef, actK_p, actK_r, actK_a, actK_w, actK_call, actK_callV, heapK_app, allocK_app, writeK_app, ret1_ret, ret1_normal, ret0_ret, ret0_normal, ret2_ret2, thenK_app, retcv_ret, retcvK_app, optW_some, evs, Arg.ev, aP, aR, aA, aW, pMov, pBin, pUn, pConv, pPick, pFieldAddr, pNilCheck, pExtract, aBin, aUn, aInt, aNew, partL_f, upd, List.getElem?_cons_zero, List.getElem?_cons_succ, List.getD_cons_zero, List.getD_cons_succ, List.set_cons_zero, List.set_cons_succ, Nat.zero_add, Nat.add_zero, List.getElem?_toArray, List.take_zero, List.drop_zero, List.take_succ_cons, List.drop_succ_cons, if_true, if_false, decide_true, decide_false, Bool.false_eq_true, Bool.true_eq_false, Bool.not_true, Bool.not_false, not_true_eq_false, not_false_eq_true, ge_iff_le, gt_iff_lt, beq_self_eq_true, bne_self_eq_false, and_self, and_true, true_and, Option.isSome_some, Heap.get_alloc_same, Heap.alloc_getE, *] | with_reducible refine cndK_d (fun hc => ?_) (fun hc => ?_) | with_reducible refine grdK_d (fun hc => ?_) (fun hc => ?_) | with_reducible refine cndK_i (fun hc => ?_) (fun hc => ?_) | with_reducible refine grdK_i (fun hc => ?_) (fun hc => ?_))
      refine enter.h _ fun h3 j x9 x10 l3 hj => ?_
      exact fin.h h3 j x9 x10 l3 hj
    · have hlr' : ¬ (i : Int) < (raw.length : Int) := by omega
      clear hlt' hi hn hlr lh ha
      repeat' (first | simp -implicitDefEqProofs only [W_skip, W_reg, W_seq, W_rcond, W_cond, W_block, W_loop, W_exit, W_ret, thenQ_normal, thenQ_exit, thenQ_ret, blockQ_normal, blockQ_ret, blockQ_here, regQ_app, rcQ_app, cndK_t, cndK_f, RegW_nil, RegW_none, RegW_some, contW_app, grdK_tt, grdK_ff, grdK_tf, grdK_ft, grdK_undef, actK_p, actK_r, actK_a, actK_w, actK_call, actK_callV, heapK_app, allocK_app, writeK_app, ret1_ret, ret1_normal, ret0_ret, ret0_normal, ret2_ret2, thenK_app, retcv_ret, retcvK_app, optW_some, evs, Arg.ev, aP, aR, aA, aW, pMov, pBin, pUn, pConv, pPick, pFieldAddr, pNilCheck, pExtract, aBin, aUn, aInt, aNew, partL_f, upd, List.getElem?_cons_zero, List.getElem?_cons_succ, List.getD_cons_zero, List.getD_cons_succ, List.set_cons_zero, List.set_cons_succ, Nat.zero_add, Nat.add_zero, List.getElem?_toArray, List.take_zero, List.drop_zero, List.take_succ_cons, List.drop_succ_cons, if_true, if_false, decide_true, decide_false, Bool.false_eq_true, Bool.true_eq_false, Bool.not_true, Bool.not_false, not_true_eq_false, not_false_eq_true, ge_iff_le, gt_iff_lt, beq_self_eq_true, bne_self_eq_false, and_self, and_true, true_and, Option.isSome_some, Heap.get_alloc_same, Heap.alloc_getE, *] | with_reducible refine cndK_d (fun hc => ?_) (fun hc => ?_) | with_reducible refine grdK_d (fun hc => ?_) (fun hc => ?_) | with_reducible refine cndK_i (fun hc => ?_) (fun hc => ?_) | with_reducible refine grdK_i (fun hc => ?_) (fun hc => ?_))
      refine enter.h _ fun h3 j x9 x10 l3 hj => ?_
      exact fin.h h3 j x9 x10 l3 hj
end Go.Eng.Tk

