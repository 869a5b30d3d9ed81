/-
  Part of a proof of the laws of layer 05 (token): what each function does.
  Conditions: none.
-/
import Derived.Test.YtplhdfkhhefppaaDoorBc
set_option linter.unusedSimpArgs false
set_option linter.unusedVariables false
namespace Go.Eng.Tk
open Go Go.Eng Go.Proofs

theorem Raws.at' {h : Heap} {v : Value} {l : List (Int × Int)} (hv : Raws h v l) {i : Nat} (hi : i < l.length) :
    ∃ id off cells own, pIdxAddrS 2 [v, .int .i64 i] = some (.pointer (some ⟨id, off, none⟩)) ∧ h.get id = some (.blk cells own) ∧ cells[off]? = some (.int .i64 (l.getD i (0, 0)).1) ∧ cells[off + 1]? = some (.int .i64 (l.getD i (0, 0)).2) ∧
      pIdxAddrA 2 1 [.pointer (some ⟨id, off, none⟩), .int .i64 0] = some (.pointer (some ⟨id, off, none⟩)) ∧ pIdxAddrA 2 1 [.pointer (some ⟨id, off, none⟩), .int .i64 1] = some (.pointer (some ⟨id, off + 1, none⟩)) := by
  obtain ⟨id, off, cells, own, h1, h2, h3, h4⟩ := Raws.elem hv (getD_some hi (0, 0))
  refine ⟨id, off, cells, own, h1, h2, h3, h4, ?_, ?_⟩
  · simp [pIdxAddrA]
  · simp [pIdxAddrA]
theorem lf_space (i : Nat) : (fun _ : Nat => ([10] : List UInt8)) i ∈ spaces := by
  show ([10] : List UInt8) ∈ spaces
  decide
theorem scanR_bad {ps : List (Tok × List UInt8)} (h : goodS ps) {b : UInt8} (hb : b ∈ badL) (x : List UInt8) (hl : (seqT ps ++ b :: x).length ≤ 20000) : scanR (seqT ps ++ b :: x) = ([], 50, 1 + (feedsN (seqT ps) : Int)) := by
  unfold scanR
  rw [if_neg (by omega), scanS_W, scanW_seq h, scanW_badb hb, linesM_line h]
  rfl

/-! ### TokenWrong -/
theorem TokenWrong_c {v : Value} {raw : List (Int × Int)} {at' c : Int} {h : Heap} (hv : Raws h v raw) (hok : ∀ r ∈ raw, inI r.1 ∧ inI r.2) (hlen : (raw.length : Int) ≤ 9223372036854775807) (ha : inI at') (hc : inI c) :
    CallW Tryd.prog 6 [v, .int .i64 at', .int .i64 c] h fun v _ => v = .bool true := by
  obtain ⟨Q, hQ⟩ : ∃ Q : Value → Heap → Prop, Q = fun v _ => v = .bool true := ⟨_, rfl⟩
  rw [← hQ]
  have hq : ∀ h', Q (.bool true) h' := fun h' => by rw [hQ]
  clear hQ
  obtain ⟨hlt, hpj⟩ := pickN_lt hc (n := 9) (by omega)
  obtain ⟨j, hj⟩ : ∃ j, pickN c 9 = j := ⟨_, rfl⟩
  rw [hj] at hlt hpj
  have hpj' : pick c 9 = (j : Int) := hpj.symm
  obtain ⟨b, hb⟩ : ∃ b, badL[j]? = some b := ⟨_, List.getElem?_eq_getElem (show j < badL.length from hlt)⟩
  have hbm : b ∈ badL := List.mem_of_getElem? hb
  have ix : pIdxStr [.string ⟨#[64, 36, 63, 58, 44, 34, 39, 96, 92]⟩, .int .i64 (j : Int)] = some (.int .u8 b.toNat) := idx_S (l := badL) hb .i64
  obtain ⟨n, hn⟩ : ∃ n, min raw.length 30 = n := ⟨_, rfl⟩
  have hmin : pMinI false [.int .i64 (raw.length : Int), .int .i64 30] = some (.int .i64 (n : Int)) := by
    simp only [pMinI, Bool.false_eq_true, if_false, if_true]
    congr 2
    split <;> omega
  obtain ⟨hlt2, hpk⟩ := pickN_lt ha (n := n + 1) (by omega)
  obtain ⟨k, hk⟩ : ∃ k, pickN at' (n + 1) = k := ⟨_, rfl⟩
  rw [hk] at hlt2 hpk
  have hw1 : IntKind.i64.wrap ((n : Int) + 1) = ((n + 1 : Nat) : Int) := by rw [wrapI (by omega) (by omega)]; rfl
  clear hj hpj hk hb
  have lr := Raws.len hv
  refine call_of1 (k := 3) ok6 rfl rfl rfl fun N => ?_
  rw [show env0 c6 [v, .int .i64 at', .int .i64 c] = [v, .int .i64 at', .int .i64 c, undef, undef, undef, undef, undef, undef, undef, undef, undef, undef, undef] from rfl]
  delta c6 c6_r0 c6_r1 c6_r2 c6_r3 c6_r4 c6_r5 c6_r6 c6_r7 c6_r8 c6_r9 c6_r10 c6_r11 c6_r12 c6_r14 c6_r15 c6_r16 c6_r17
  replace hq := Hid.mk hq
  repeat' (first | simp -implicitDefEqProofs only [W_skip, W_reg, W_seq, W_rcond, W_cond, W_block, W_loop, W_exit, W_ret, thenQ_normal, thenQ_exit, thenQ_ret, blockQ_normal, blockQ_ret, blockQ_here, regQ_app, rcQ_app, cndK_t, cndK_f, RegW_nil, RegW_none, RegW_some, contW_app, grdK_tt, grdK_ff, grdK_tf, grdK_ft, grdK_undef, actK_p, actK_r, actK_a, actK_w, actK_call, actK_callV, heapK_app, allocK_app, writeK_app, ret1_ret, ret1_normal, ret0_ret, ret0_normal, ret2_ret2, thenK_app, retcv_ret, retcvK_app, optW_some, evs, Arg.ev, aP, aR, aA, aW, pMov, pBin, pUn, pConv, pPick, pFieldAddr, pNilCheck, pExtract, aBin, aUn, aInt, aNew, partL_f, upd, List.getElem?_cons_zero, List.getElem?_cons_succ, List.getD_cons_zero, List.getD_cons_succ, List.set_cons_zero, List.set_cons_succ, Nat.zero_add, Nat.add_zero, List.getElem?_toArray, List.take_zero, List.drop_zero, List.take_succ_cons, List.drop_succ_cons, if_true, if_false, decide_true, decide_false, Bool.false_eq_true, Bool.true_eq_false, Bool.not_true, Bool.not_false, not_true_eq_false, not_false_eq_true, ge_iff_le, gt_iff_lt, beq_self_eq_true, bne_self_eq_false, and_self, and_true, true_and, Option.isSome_some, Heap.get_alloc_same, Heap.alloc_getE, *] | with_reducible refine cndK_d (fun hc => ?_) (fun hc => ?_) | with_reducible refine grdK_d (fun hc => ?_) (fun hc => ?_) | with_reducible refine cndK_i (fun hc => ?_) (fun hc => ?_) | with_reducible refine grdK_i (fun hc => ?_) (fun hc => ?_))
  refine awake_c h _ fun h1 l1 => ?_
  repeat' (first | simp -implicitDefEqProofs only [W_skip, W_reg, W_seq, W_rcond, W_cond, W_block, W_loop, W_exit, W_ret, thenQ_normal, thenQ_exit, thenQ_ret, blockQ_normal, blockQ_ret, blockQ_here, regQ_app, rcQ_app, cndK_t, cndK_f, RegW_nil, RegW_none, RegW_some, contW_app, grdK_tt, grdK_ff, grdK_tf, grdK_ft, grdK_undef, actK_p, actK_r, actK_a, actK_w, actK_call, actK_callV, heapK_app, allocK_app, writeK_app, ret1_ret, ret1_normal, ret0_ret, ret0_normal, ret2_ret2, thenK_app, retcv_ret, retcvK_app, optW_some, evs, Arg.ev, aP, aR, aA, aW, pMov, pBin, pUn, pConv, pPick, pFieldAddr, pNilCheck, pExtract, aBin, aUn, aInt, aNew, partL_f, upd, List.getElem?_cons_zero, List.getElem?_cons_succ, List.getD_cons_zero, List.getD_cons_succ, List.set_cons_zero, List.set_cons_succ, Nat.zero_add, Nat.add_zero, List.getElem?_toArray, List.take_zero, List.drop_zero, List.take_succ_cons, List.drop_succ_cons, if_true, if_false, decide_true, decide_false, Bool.false_eq_true, Bool.true_eq_false, Bool.not_true, Bool.not_false, not_true_eq_false, not_false_eq_true, ge_iff_le, gt_iff_lt, beq_self_eq_true, bne_self_eq_false, and_self, and_true, true_and, Option.isSome_some, Heap.get_alloc_same, Heap.alloc_getE, *] | with_reducible refine cndK_d (fun hc => ?_) (fun hc => ?_) | with_reducible refine grdK_d (fun hc => ?_) (fun hc => ?_) | with_reducible refine cndK_i (fun hc => ?_) (fun hc => ?_) | with_reducible refine grdK_i (fun hc => ?_) (fun hc => ?_))
  refine pick_c _ 9 (by decide) h1 _ ?_
  rw [hpj']
  repeat' (first | simp -implicitDefEqProofs only [W_skip, W_reg, W_seq, W_rcond, W_cond, W_block, W_loop, W_exit, W_ret, thenQ_normal, thenQ_exit, thenQ_ret, blockQ_normal, blockQ_ret, blockQ_here, regQ_app, rcQ_app, cndK_t, cndK_f, RegW_nil, RegW_none, RegW_some, contW_app, grdK_tt, grdK_ff, grdK_tf, grdK_ft, grdK_undef, actK_p, actK_r, actK_a, actK_w, actK_call, actK_callV, heapK_app, allocK_app, writeK_app, ret1_ret, ret1_normal, ret0_ret, ret0_normal, ret2_ret2, thenK_app, retcv_ret, retcvK_app, optW_some, evs, Arg.ev, aP, aR, aA, aW, pMov, pBin, pUn, pConv, pPick, pFieldAddr, pNilCheck, pExtract, aBin, aUn, aInt, aNew, partL_f, upd, List.getElem?_cons_zero, List.getElem?_cons_succ, List.getD_cons_zero, List.getD_cons_succ, List.set_cons_zero, List.set_cons_succ, Nat.zero_add, Nat.add_zero, List.getElem?_toArray, List.take_zero, List.drop_zero, List.take_succ_cons, List.drop_succ_cons, if_true, if_false, decide_true, decide_false, Bool.false_eq_true, Bool.true_eq_false, Bool.not_true, Bool.not_false, not_true_eq_false, not_false_eq_true, ge_iff_le, gt_iff_lt, beq_self_eq_true, bne_self_eq_false, and_self, and_true, true_and, Option.isSome_some, Heap.get_alloc_same, Heap.alloc_getE, *] | with_reducible refine cndK_d (fun hc => ?_) (fun hc => ?_) | with_reducible refine grdK_d (fun hc => ?_) (fun hc => ?_) | with_reducible refine cndK_i (fun hc => ?_) (fun hc => ?_) | with_reducible refine grdK_i (fun hc => ?_) (fun hc => ?_))
  refine pick_c _ ((n + 1 : Nat) : Int) (by omega) h1 _ ?_
  rw [← hpk]
  replace hpk := Hid.mk hpk
  have hv1 := Hid.mk (hv.mono l1)
  replace hv := Hid.mk hv
  replace hok := Hid.mk hok
  replace hbm := Hid.mk hbm
  repeat' (first | simp -implicitDefEqProofs only [W_skip, W_reg, W_seq, W_rcond, W_cond, W_block, W_loop, W_exit, W_ret, thenQ_normal, thenQ_exit, thenQ_ret, blockQ_normal, blockQ_ret, blockQ_here, regQ_app, rcQ_app, cndK_t, cndK_f, RegW_nil, RegW_none, RegW_some, contW_app, grdK_tt, grdK_ff, grdK_tf, grdK_ft, grdK_undef, actK_p, actK_r, actK_a, actK_w, actK_call, actK_callV, heapK_app, allocK_app, writeK_app, ret1_ret, ret1_normal, ret0_ret, ret0_normal, ret2_ret2, thenK_app, retcv_ret, retcvK_app, optW_some, evs, Arg.ev, aP, aR, aA, aW, pMov, pBin, pUn, pConv, pPick, pFieldAddr, pNilCheck, pExtract, aBin, aUn, aInt, aNew, partL_f, upd, List.getElem?_cons_zero, List.getElem?_cons_succ, List.getD_cons_zero, List.getD_cons_succ, List.set_cons_zero, List.set_cons_succ, Nat.zero_add, Nat.add_zero, List.getElem?_toArray, List.take_zero, List.drop_zero, List.take_succ_cons, List.drop_succ_cons, if_true, if_false, decide_true, decide_false, Bool.false_eq_true, Bool.true_eq_false, Bool.not_true, Bool.not_false, not_true_eq_false, not_false_eq_true, ge_iff_le, gt_iff_lt, beq_self_eq_true, bne_self_eq_false, and_self, and_true, true_and, Option.isSome_some, Heap.get_alloc_same, Heap.alloc_getE, *] | with_reducible refine cndK_d (fun hc => ?_) (fun hc => ?_) | with_reducible refine grdK_d (fun hc => ?_) (fun hc => ?_) | with_reducible refine cndK_i (fun hc => ?_) (fun hc => ?_) | with_reducible refine grdK_i (fun hc => ?_) (fun hc => ?_))
  refine LoopW.upto n (fun i e h' => h1.le h' ∧ ∃ s x10, e = [v, .int .i64 at', .int .i64 c, .bool false, .bool true, .int .u8 b.toNat, str s, .int .i64 n, .int .i64 k, .int .i64 i, x10, undef, undef, undef] ∧
    s.length ≤ 40 * i ∧ (i ≤ k → s = seqT (pairs raw (fun _ => [10]) i)) ∧ (k < i → ∃ x, s = seqT (pairs raw (fun _ => [10]) k) ++ b :: x)) ?_ (Nat.zero_le _) ⟨Heap.le.refl _, [], undef, rfl, by simp, fun _ => rfl, fun e => by omega⟩
  rintro i _ h' R hi ⟨lh, s, x10, rfl, hsl, hs1, hs2⟩ hR
  have hs1 := Hid.mk hs1
  have hs2 := Hid.mk hs2
  delta c6_l13 c6_r0 c6_r1 c6_r2 c6_r3 c6_r4 c6_r5 c6_r6 c6_r7 c6_r8 c6_r9 c6_r10 c6_r11 c6_r12 c6_r14 c6_r15 c6_r16 c6_r17
  by_cases hlt' : i < n
  case neg =>
    have hlt'' : ¬ (i : Int) < (n : Int) := by omega
    have hin : i = n := by omega
    -- what is scanned
    have fin : ∀ (s' : List UInt8) (h2 : Heap), (∃ x, s' = seqT (pairs raw (fun _ => [10]) k) ++ b :: x) → s'.length ≤ 20000 → ∃ v3 h3, True := fun _ _ _ _ => ⟨undef, h1, trivial⟩
    clear fin
    have hfin : ∀ (s' : List UInt8), (∃ x, s' = seqT (pairs raw (fun _ => [10]) k) ++ b :: x) → s'.length ≤ 20000 → scanR s' = ([], 50, ((1 + k : Nat) : Int)) := by
      rintro s' ⟨x, rfl⟩ hl
      rw [scanR_bad (pairs_good hok.h lf_space k) hbm.h x hl, feeds_pairs hok.h k]
      rfl
    have hwk : IntKind.i64.wrap ((k : Int) + 1) = ((1 + k : Nat) : Int) := by rw [wrapI (by omega) (by omega)]; omega
    have e1 : (((1 + k : Nat) : Int) == ((1 + k : Nat) : Int)) = true := by simp
    have e2 : ((0 : Int) == 0) = true := rfl
    have e3 : ((50 : Int) == 50) = true := rfl
    replace hfin := Hid.mk hfin
    by_cases hkn : k = n
    · have hkn' : ((k : Int) == (n : Int)) = true := by simp; omega
      obtain ⟨q, hqq⟩ : ∃ x, h'.next = x := ⟨_, rfl⟩
      have bs : aBslice [.int .u8 0] [(0, 1)] 1 1 [.int .u8 (b.toNat : Int)] = some ([.int .u8 (b.toNat : Int)], fun id => .slice (some ⟨id, 0, none⟩) 1 1) := aBslice_one rfl rfl rfl rfl
      obtain ⟨h2, hh1⟩ : ∃ x, h'.alloc (.blk [.int .u8 (b.toNat : Int)] true) = x := ⟨_, rfl⟩
      have g1 : h2.get q = some (.blk [.int .u8 (b.toNat : Int)] true) := by rw [← hh1, ← hqq]; exact Heap.get_alloc_same _ _
      have b1 := bytesStr1 g1
      have ct := cat_S (a := s) (b := [b]) (by simp; omega)
      have hsc := hfin.h (s ++ [b]) ⟨[], by rw [hs1.h (by omega), hin, hkn]⟩ (by simp; omega)
      clear hkn hin
      repeat' (first | simp -implicitDefEqProofs only [W_skip, W_reg, W_seq, W_rcond, W_cond, W_block, W_loop, W_exit, W_ret, thenQ_normal, thenQ_exit, thenQ_ret, blockQ_normal, blockQ_ret, blockQ_here, regQ_app, rcQ_app, cndK_t, cndK_f, RegW_nil, RegW_none, RegW_some, contW_app, grdK_tt, grdK_ff, grdK_tf, grdK_ft, grdK_undef, actK_p, actK_r, actK_a, actK_w, actK_call, actK_callV, heapK_app, allocK_app, writeK_app, ret1_ret, ret1_normal, ret0_ret, ret0_normal, ret2_ret2, thenK_app, retcv_ret, retcvK_app, optW_some, evs, Arg.ev, aP, aA, aW, pMov, pBin, pUn, pConv, pPick, pFieldAddr, pNilCheck, pExtract, aBin, aUn, aInt, aNew, partL_f, upd, List.getElem?_cons_zero, List.getElem?_cons_succ, List.getD_cons_zero, List.getD_cons_succ, List.set_cons_zero, List.set_cons_succ, Nat.zero_add, Nat.add_zero, List.getElem?_toArray, List.take_zero, List.drop_zero, List.take_succ_cons, List.drop_succ_cons, if_true, if_false, decide_true, decide_false, Bool.false_eq_true, Bool.true_eq_false, Bool.not_true, Bool.not_false, not_true_eq_false, not_false_eq_true, ge_iff_le, gt_iff_lt, beq_self_eq_true, bne_self_eq_false, and_self, and_true, true_and, Option.isSome_some, Heap.get_alloc_same, Heap.alloc_getE, *] | with_reducible refine cndK_d (fun hc => ?_) (fun hc => ?_) | with_reducible refine grdK_d (fun hc => ?_) (fun hc => ?_) | with_reducible refine cndK_i (fun hc => ?_) (fun hc => ?_) | with_reducible refine grdK_i (fun hc => ?_) (fun hc => ?_))
      refine Scan_c (l := s ++ [b]) h2 (Heap.le.refl h2) _ fun v3 h3 hv3 _ => ?_
      rw [hsc] at hv3 ⊢
      have hvl : pLenS [v3] = some (.int .i64 0) := tokS_len (ts := []) hv3.sl
      clear hv3 b1 g1
      repeat' (first | simp -implicitDefEqProofs only [W_skip, W_reg, W_seq, W_rcond, W_cond, W_block, W_loop, W_exit, W_ret, thenQ_normal, thenQ_exit, thenQ_ret, blockQ_normal, blockQ_ret, blockQ_here, regQ_app, rcQ_app, cndK_t, cndK_f, RegW_nil, RegW_none, RegW_some, contW_app, grdK_tt, grdK_ff, grdK_tf, grdK_ft, grdK_undef, actK_p, actK_r, actK_a, actK_w, actK_call, actK_callV, heapK_app, allocK_app, writeK_app, ret1_ret, ret1_normal, ret0_ret, ret0_normal, ret2_ret2, thenK_app, retcv_ret, retcvK_app, optW_some, evs, Arg.ev, aP, aR, aA, aW, pMov, pBin, pUn, pConv, pPick, pFieldAddr, pNilCheck, pExtract, aBin, aUn, aInt, aNew, partL_f, upd, List.getElem?_cons_zero, List.getElem?_cons_succ, List.getD_cons_zero, List.getD_cons_succ, List.set_cons_zero, List.set_cons_succ, Nat.zero_add, Nat.add_zero, List.getElem?_toArray, List.take_zero, List.drop_zero, List.take_succ_cons, List.drop_succ_cons, if_true, if_false, decide_true, decide_false, Bool.false_eq_true, Bool.true_eq_false, Bool.not_true, Bool.not_false, not_true_eq_false, not_false_eq_true, ge_iff_le, gt_iff_lt, beq_self_eq_true, bne_self_eq_false, and_self, and_true, true_and, Option.isSome_some, Heap.get_alloc_same, Heap.alloc_getE, extract3_0, extract3_1, extract3_2, *] | with_reducible refine cndK_d (fun hc => ?_) (fun hc => ?_) | with_reducible refine grdK_d (fun hc => ?_) (fun hc => ?_) | with_reducible refine cndK_i (fun hc => ?_) (fun hc => ?_) | with_reducible refine grdK_i (fun hc => ?_) (fun hc => ?_))
      exact hq.h _
    · have hkn' : ((k : Int) == (n : Int)) = false := by simp; omega
      have hsc := hfin.h s (hs2.h (by omega)) (by omega)
      clear hkn hin
      repeat' (first | simp -implicitDefEqProofs only [W_skip, W_reg, W_seq, W_rcond, W_cond, W_block, W_loop, W_exit, W_ret, thenQ_normal, thenQ_exit, thenQ_ret, blockQ_normal, blockQ_ret, blockQ_here, regQ_app, rcQ_app, cndK_t, cndK_f, RegW_nil, RegW_none, RegW_some, contW_app, grdK_tt, grdK_ff, grdK_tf, grdK_ft, grdK_undef, actK_p, actK_r, actK_a, actK_w, actK_call, actK_callV, heapK_app, allocK_app, writeK_app, ret1_ret, ret1_normal, ret0_ret, ret0_normal, ret2_ret2, thenK_app, retcv_ret, retcvK_app, optW_some, evs, Arg.ev, aP, aR, aA, aW, pMov, pBin, pUn, pConv, pPick, pFieldAddr, pNilCheck, pExtract, aBin, aUn, aInt, aNew, partL_f, upd, List.getElem?_cons_zero, List.getElem?_cons_succ, List.getD_cons_zero, List.getD_cons_succ, List.set_cons_zero, List.set_cons_succ, Nat.zero_add, Nat.add_zero, List.getElem?_toArray, List.take_zero, List.drop_zero, List.take_succ_cons, List.drop_succ_cons, if_true, if_false, decide_true, decide_false, Bool.false_eq_true, Bool.true_eq_false, Bool.not_true, Bool.not_false, not_true_eq_false, not_false_eq_true, ge_iff_le, gt_iff_lt, beq_self_eq_true, bne_self_eq_false, and_self, and_true, true_and, Option.isSome_some, Heap.get_alloc_same, Heap.alloc_getE, *] | with_reducible refine cndK_d (fun hc => ?_) (fun hc => ?_) | with_reducible refine grdK_d (fun hc => ?_) (fun hc => ?_) | with_reducible refine cndK_i (fun hc => ?_) (fun hc => ?_) | with_reducible refine grdK_i (fun hc => ?_) (fun hc => ?_))
      refine Scan_c (l := s) h' (Heap.le.refl h') _ fun v3 h3 hv3 _ => ?_
      rw [hsc] at hv3 ⊢
      have hvl : pLenS [v3] = some (.int .i64 0) := tokS_len (ts := []) hv3.sl
      clear hv3
      repeat' (first | simp -implicitDefEqProofs only [W_skip, W_reg, W_seq, W_rcond, W_cond, W_block, W_loop, W_exit, W_ret, thenQ_normal, thenQ_exit, thenQ_ret, blockQ_normal, blockQ_ret, blockQ_here, regQ_app, rcQ_app, cndK_t, cndK_f, RegW_nil, RegW_none, RegW_some, contW_app, grdK_tt, grdK_ff, grdK_tf, grdK_ft, grdK_undef, actK_p, actK_r, actK_a, actK_w, actK_call, actK_callV, heapK_app, allocK_app, writeK_app, ret1_ret, ret1_normal, ret0_ret, ret0_normal, ret2_ret2, thenK_app, retcv_ret, retcvK_app, optW_some, evs, Arg.ev, aP, aR, aA, aW, pMov, pBin, pUn, pConv, pPick, pFieldAddr, pNilCheck, pExtract, aBin, aUn, aInt, aNew, partL_f, upd, List.getElem?_cons_zero, List.getElem?_cons_succ, List.getD_cons_zero, List.getD_cons_succ, List.set_cons_zero, List.set_cons_succ, Nat.zero_add, Nat.add_zero, List.getElem?_toArray, List.take_zero, List.drop_zero, List.take_succ_cons, List.drop_succ_cons, if_true, if_false, decide_true, decide_false, Bool.false_eq_true, Bool.true_eq_false, Bool.not_true, Bool.not_false, not_true_eq_false, not_false_eq_true, ge_iff_le, gt_iff_lt, beq_self_eq_true, bne_self_eq_false, and_self, and_true, true_and, Option.isSome_some, Heap.get_alloc_same, Heap.alloc_getE, extract3_0, extract3_1, extract3_2, *] | with_reducible refine cndK_d (fun hc => ?_) (fun hc => ?_) | with_reducible refine grdK_d (fun hc => ?_) (fun hc => ?_) | with_reducible refine cndK_i (fun hc => ?_) (fun hc => ?_) | with_reducible refine grdK_i (fun hc => ?_) (fun hc => ?_))
      exact hq.h _
  case pos =>
    have hlt'' : (i : Int) < (n : Int) := by omega
    have hwj : IntKind.i64.wrap ((i : Int) + 1) = ((i + 1 : Nat) : Int) := by rw [wrapI (by omega) (by omega)]; rfl
    obtain ⟨r1, r2⟩ := raw_ok hok.h i
    have hpl := piece_len (kind := (raw.getD i (0, 0)).1) r2
    have hps : pairs raw (fun _ => [10]) (i + 1) = pairs raw (fun _ => [10]) i ++ [pairAt raw (fun _ => [10]) i] := pairs_succ _ _ _
    have hpt : (pairAt raw (fun _ => [10]) i).1.text = (pieceL (raw.getD i (0, 0)).1 (raw.getD i (0, 0)).2).1 := rfl
    have hp2 : (pairAt raw (fun _ => [10]) i).2 = [10] := rfl
    have hsq : seqT (pairs raw (fun _ => [10]) (i + 1)) = seqT (pairs raw (fun _ => [10]) i) ++ (pieceL (raw.getD i (0, 0)).1 (raw.getD i (0, 0)).2).1 ++ [10] := by rw [hps, seqT_snoc, hpt, hp2]
    clear hps hpt hp2
    obtain ⟨ra, hra⟩ : ∃ x, (raw.getD i (0, 0)).1 = x := ⟨_, rfl⟩
    obtain ⟨rb, hrb⟩ : ∃ x, (raw.getD i (0, 0)).2 = x := ⟨_, rfl⟩
    obtain ⟨w, hw⟩ : ∃ w, (pieceL ra rb).1 = w := ⟨_, rfl⟩
    rw [hra] at r1
    rw [hrb] at r2
    rw [hra, hrb, hw] at hpl hsq
    replace hsq := Hid.mk hsq
    by_cases hik : i = k
    · have hik' : ((i : Int) == (k : Int)) = true := by simp; omega
      have hs := hs1.h (by omega)
      obtain ⟨q, hqq⟩ : ∃ x, h'.next = x := ⟨_, rfl⟩
      have bs : aBslice [.int .u8 0] [(0, 1)] 1 1 [.int .u8 (b.toNat : Int)] = some ([.int .u8 (b.toNat : Int)], fun id => .slice (some ⟨id, 0, none⟩) 1 1) := aBslice_one rfl rfl rfl rfl
      obtain ⟨h2, hh1⟩ : ∃ x, h'.alloc (.blk [.int .u8 (b.toNat : Int)] true) = x := ⟨_, rfl⟩
      have l2 : h'.le h2 := by rw [← hh1]; exact (Heap.le.refl _).alloc _
      have g1 : h2.get q = some (.blk [.int .u8 (b.toNat : Int)] true) := by rw [← hh1, ← hqq]; exact Heap.get_alloc_same _ _
      have b1 := bytesStr1 g1
      have ct1 := cat_S (a := s) (b := [b]) (by simp; omega)
      have ct2 : aStr .add ⟨(s ++ [b]).toArray⟩ ⟨#[32]⟩ = some (str (s ++ [b] ++ [32])) := cat_S (a := s ++ [b]) (b := [32]) (by simp; omega)
      have ct3 := cat_S (a := s ++ [b] ++ [32]) (b := w) (by simp; omega)
      have ct4 : aStr .add ⟨(s ++ [b] ++ [32] ++ w).toArray⟩ ⟨#[10]⟩ = some (str (s ++ [b] ++ [32] ++ w ++ [10])) := cat_S (a := s ++ [b] ++ [32] ++ w) (b := [10]) (by simp; omega)
      obtain ⟨id, off, cells, own, a1, a2, a3, a4, a5, a6⟩ := Raws.at' ((hv1.h.mono lh).mono l2) (i := i) (by omega)
      rw [hra] at a3
      rw [hrb] at a4
      have g := fun x10 h3 (l3 : h2.le h3) => hR.h [v, .int .i64 at', .int .i64 c, .bool false, .bool true, .int .u8 b.toNat, str (s ++ [b] ++ [32] ++ w ++ [10]), .int .i64 n, .int .i64 k, .int .i64 ((i + 1 : Nat) : Int), x10, undef, undef, undef] h3 hlt' ⟨(lh.trans l2).trans l3, _, x10, rfl, by simp; omega, fun e => by omega, fun _ => ⟨32 :: (w ++ [10]), by rw [hs, hik]; simp⟩⟩
      replace g := Hid.mk g
      clear hik hs b1 lh
      have b1 := bytesStr1 g1
      repeat' (first | simp -implicitDefEqProofs only [W_skip, W_reg, W_seq, W_rcond, W_cond, W_block, W_loop, W_exit, W_ret, thenQ_normal, thenQ_exit, thenQ_ret, blockQ_normal, blockQ_ret, blockQ_here, regQ_app, rcQ_app, cndK_t, cndK_f, RegW_nil, RegW_none, RegW_some, contW_app, grdK_tt, grdK_ff, grdK_tf, grdK_ft, grdK_undef, actK_p, actK_r, actK_a, actK_w, actK_call, actK_callV, heapK_app, allocK_app, writeK_app, ret1_ret, ret1_normal, ret0_ret, ret0_normal, ret2_ret2, thenK_app, retcv_ret, retcvK_app, optW_some, evs, Arg.ev, aP, aA, aW, pMov, pBin, pUn, pConv, pPick, pFieldAddr, pNilCheck, pExtract, aBin, aUn, aInt, aNew, partL_f, upd, List.getElem?_cons_zero, List.getElem?_cons_succ, List.getD_cons_zero, List.getD_cons_succ, List.set_cons_zero, List.set_cons_succ, Nat.zero_add, Nat.add_zero, List.getElem?_toArray, List.take_zero, List.drop_zero, List.take_succ_cons, List.drop_succ_cons, if_true, if_false, decide_true, decide_false, Bool.false_eq_true, Bool.true_eq_false, Bool.not_true, Bool.not_false, not_true_eq_false, not_false_eq_true, ge_iff_le, gt_iff_lt, beq_self_eq_true, bne_self_eq_false, and_self, and_true, true_and, Option.isSome_some, Heap.get_alloc_same, Heap.alloc_getE, aR_ld, ldK_blk, *] | with_reducible refine cndK_d (fun hc => ?_) (fun hc => ?_) | with_reducible refine grdK_d (fun hc => ?_) (fun hc => ?_) | with_reducible refine cndK_i (fun hc => ?_) (fun hc => ?_) | with_reducible refine grdK_i (fun hc => ?_) (fun hc => ?_))
      refine piece_c r1 r2 h2 _ fun h3 l3 => ?_
      replace l3 := Hid.mk l3
      rw [hw]
      repeat' (first | simp -implicitDefEqProofs only [W_skip, W_reg, W_seq, W_rcond, W_cond, W_block, W_loop, W_exit, W_ret, thenQ_normal, thenQ_exit, thenQ_ret, blockQ_normal, blockQ_ret, blockQ_here, regQ_app, rcQ_app, cndK_t, cndK_f, RegW_nil, RegW_none, RegW_some, contW_app, grdK_tt, grdK_ff, grdK_tf, grdK_ft, grdK_undef, actK_p, actK_r, actK_a, actK_w, actK_call, actK_callV, heapK_app, allocK_app, writeK_app, ret1_ret, ret1_normal, ret0_ret, ret0_normal, ret2_ret2, thenK_app, retcv_ret, retcvK_app, optW_some, evs, Arg.ev, aP, aR, aA, aW, pMov, pBin, pUn, pConv, pPick, pFieldAddr, pNilCheck, pExtract, aBin, aUn, aInt, aNew, partL_f, upd, List.getElem?_cons_zero, List.getElem?_cons_succ, List.getD_cons_zero, List.getD_cons_succ, List.set_cons_zero, List.set_cons_succ, Nat.zero_add, Nat.add_zero, List.getElem?_toArray, List.take_zero, List.drop_zero, List.take_succ_cons, List.drop_succ_cons, if_true, if_false, decide_true, decide_false, Bool.false_eq_true, Bool.true_eq_false, Bool.not_true, Bool.not_false, not_true_eq_false, not_false_eq_true, ge_iff_le, gt_iff_lt, beq_self_eq_true, bne_self_eq_false, and_self, and_true, true_and, Option.isSome_some, Heap.get_alloc_same, Heap.alloc_getE, extract0, extract1, *] | with_reducible refine cndK_d (fun hc => ?_) (fun hc => ?_) | with_reducible refine grdK_d (fun hc => ?_) (fun hc => ?_) | with_reducible refine cndK_i (fun hc => ?_) (fun hc => ?_) | with_reducible refine grdK_i (fun hc => ?_) (fun hc => ?_))
      exact g.h _ _ l3.h
    · have hik' : ((i : Int) == (k : Int)) = false := by simp; omega
      have ct3 := cat_S (a := s) (b := w) (by omega)
      have ct4 : aStr .add ⟨(s ++ w).toArray⟩ ⟨#[10]⟩ = some (str (s ++ w ++ [10])) := cat_S (a := s ++ w) (b := [10]) (by simp; omega)
      obtain ⟨id, off, cells, own, a1, a2, a3, a4, a5, a6⟩ := Raws.at' (hv1.h.mono lh) (i := i) (by omega)
      rw [hra] at a3
      rw [hrb] at a4
      have g := fun x10 h3 (l3 : h'.le h3) => hR.h [v, .int .i64 at', .int .i64 c, .bool false, .bool true, .int .u8 b.toNat, str (s ++ w ++ [10]), .int .i64 n, .int .i64 k, .int .i64 ((i + 1 : Nat) : Int), x10, undef, undef, undef] h3 hlt' ⟨lh.trans l3, _, x10, rfl, by simp; omega, fun e => by rw [hsq.h, hs1.h (by omega)], fun e => by
        obtain ⟨x, hx⟩ := hs2.h (by omega)
        exact ⟨x ++ w ++ [10], by rw [hx]; simp⟩⟩
      replace g := Hid.mk g
      clear hik lh
      repeat' (first | simp -implicitDefEqProofs only [W_skip, W_reg, W_seq, W_rcond, W_cond, W_block, W_loop, W_exit, W_ret, thenQ_normal, thenQ_exit, thenQ_ret, blockQ_normal, blockQ_ret, blockQ_here, regQ_app, rcQ_app, cndK_t, cndK_f, RegW_nil, RegW_none, RegW_some, contW_app, grdK_tt, grdK_ff, grdK_tf, grdK_ft, grdK_undef, actK_p, actK_r, actK_a, actK_w, actK_call, actK_callV, heapK_app, allocK_app, writeK_app, ret1_ret, ret1_normal, ret0_ret, ret0_normal, ret2_ret2, thenK_app, retcv_ret, retcvK_app, optW_some, evs, Arg.ev, aP, aA, aW, pMov, pBin, pUn, pConv, pPick, pFieldAddr, pNilCheck, pExtract, aBin, aUn, aInt, aNew, partL_f, upd, List.getElem?_cons_zero, List.getElem?_cons_succ, List.getD_cons_zero, List.getD_cons_succ, List.set_cons_zero, List.set_cons_succ, Nat.zero_add, Nat.add_zero, List.getElem?_toArray, List.take_zero, List.drop_zero, List.take_succ_cons, List.drop_succ_cons, if_true, if_false, decide_true, decide_false, Bool.false_eq_true, Bool.true_eq_false, Bool.not_true, Bool.not_false, not_true_eq_false, not_false_eq_true, ge_iff_le, gt_iff_lt, beq_self_eq_true, bne_self_eq_false, and_self, and_true, true_and, Option.isSome_some, Heap.get_alloc_same, Heap.alloc_getE, aR_ld, ldK_blk, *] | with_reducible refine cndK_d (fun hc => ?_) (fun hc => ?_) | with_reducible refine grdK_d (fun hc => ?_) (fun hc => ?_) | with_reducible refine cndK_i (fun hc => ?_) (fun hc => ?_) | with_reducible refine grdK_i (fun hc => ?_) (fun hc => ?_))
      refine piece_c r1 r2 h' _ fun h3 l3 => ?_
      replace l3 := Hid.mk l3
      rw [hw]
      repeat' (first | simp -implicitDefEqProofs only [W_skip, W_reg, W_seq, W_rcond, W_cond, W_block, W_loop, W_exit, W_ret, thenQ_normal, thenQ_exit, thenQ_ret, blockQ_normal, blockQ_ret, blockQ_here, regQ_app, rcQ_app, cndK_t, cndK_f, RegW_nil, RegW_none, RegW_some, contW_app, grdK_tt, grdK_ff, grdK_tf, grdK_ft, grdK_undef, actK_p, actK_r, actK_a, actK_w, actK_call, actK_callV, heapK_app, allocK_app, writeK_app, ret1_ret, ret1_normal, ret0_ret, ret0_normal, ret2_ret2, thenK_app, retcv_ret, retcvK_app, optW_some, evs, Arg.ev, aP, aR, aA, aW, pMov, pBin, pUn, pConv, pPick, pFieldAddr, pNilCheck, pExtract, aBin, aUn, aInt, aNew, partL_f, upd, List.getElem?_cons_zero, List.getElem?_cons_succ, List.getD_cons_zero, List.getD_cons_succ, List.set_cons_zero, List.set_cons_succ, Nat.zero_add, Nat.add_zero, List.getElem?_toArray, List.take_zero, List.drop_zero, List.take_succ_cons, List.drop_succ_cons, if_true, if_false, decide_true, decide_false, Bool.false_eq_true, Bool.true_eq_false, Bool.not_true, Bool.not_false, not_true_eq_false, not_false_eq_true, ge_iff_le, gt_iff_lt, beq_self_eq_true, bne_self_eq_false, and_self, and_true, true_and, Option.isSome_some, Heap.get_alloc_same, Heap.alloc_getE, extract0, extract1, *] | with_reducible refine cndK_d (fun hc => ?_) (fun hc => ?_) | with_reducible refine grdK_d (fun hc => ?_) (fun hc => ?_) | with_reducible refine cndK_i (fun hc => ?_) (fun hc => ?_) | with_reducible refine grdK_i (fun hc => ?_) (fun hc => ?_))
      exact g.h _ _ l3.h
end Go.Eng.Tk

set_option linter.unusedSimpArgs false
set_option linter.unusedVariables false
namespace Go.Eng.Tk
open Go Go.Eng Go.Proofs

/-! ### what the scanner tells may be compared -/
theorem number_le {l : List UInt8} {n : Nat} (h : number l = some n) : n ≤ 4294967295 := by
  unfold number at h
  split at h
  · cases h
  · rename_i m hm
    split at h
    · cases h
    · cases h
      exact parseU_le hm
theorem inI1 : inI 1 := ⟨by decide, by decide⟩
theorem inI2 : inI 2 := ⟨by decide, by decide⟩
theorem inI3 : inI 3 := ⟨by decide, by decide⟩
theorem inI4 : inI 4 := ⟨by decide, by decide⟩
theorem inI5 : inI 5 := ⟨by decide, by decide⟩
theorem oneS_n (l : List UInt8) : inI (oneS l).1.n ∧ inI (oneS l).1.kind := by
  unfold oneS
  split
  · exact ⟨inI0, inI2⟩
  · split
    · exact ⟨inI0, inI1⟩
    · refine ⟨?_, inI3⟩
      cases h : number l with
      | none => exact inI0
      | some n =>
        have := number_le h
        simp only [Option.getD_some]
        unfold inI; omega
theorem scanP_ok : ∀ (k : Nat) (l : List UInt8) (m : Int), l.length ≤ 1000000 → 0 ≤ m → m + l.length ≤ 1000000000 → (∀ t ∈ (scanP k l m).1, t.ok) ∧ m ≤ (scanP k l m).2.1 ∧ (scanP k l m).2.1 ≤ m + l.length
  | 0, l, m, h1, h2, h3 => by simp [scanP]; omega
  | k + 1, [], m, h1, h2, h3 => by simp [scanP]
  | k + 1, b :: r, m, h1, h2, h3 => by
    have key : ∀ (w : Nat) (t : Tok), w ≤ (b :: r).length → inI t.n → inI t.kind → t.text.length ≤ (b :: r).length → (∀ u ∈ ({ t with line := m } :: (scanP k (skip false ((b :: r).drop w) m).1 (skip false ((b :: r).drop w) m).2).1), u.ok) ∧
        m ≤ (scanP k (skip false ((b :: r).drop w) m).1 (skip false ((b :: r).drop w) m).2).2.1 ∧ (scanP k (skip false ((b :: r).drop w) m).1 (skip false ((b :: r).drop w) m).2).2.1 ≤ m + (b :: r).length := by
      intro w t hw hn hk ht
      have s1 := skip_len false ((b :: r).drop w) m
      have s2 := skip_sum false ((b :: r).drop w) m
      have s3 : ((b :: r).drop w).length = (b :: r).length - w := by simp
      obtain ⟨i1, i2, i3⟩ := scanP_ok k (skip false ((b :: r).drop w) m).1 (skip false ((b :: r).drop w) m).2 (by omega) (by omega) (by omega)
      refine ⟨fun u hu => ?_, by omega, by omega⟩
      rcases List.mem_cons.1 hu with rfl | hu
      · exact ⟨hk, hn, by unfold inI; simp only; omega, by simp only; omega⟩
      · exact i1 u hu
    unfold scanP
    split
    · split
      · obtain ⟨o1, o2⟩ := oneS_n ((b :: r).take (runN (b :: r)))
        exact key _ _ (runN_le _) o1 o2 (by rw [oneS_text, List.length_take]; omega)
      · simp; omega
    · split
      · rename_i g hg
        obtain ⟨g1, g2⟩ := signs_pos hg
        exact key g.length ⟨4, g, 0, m⟩ g2 inI0 inI4 g2
      · simp; omega
theorem scanR_ok (l : List UInt8) : (∀ t ∈ (scanR l).1, t.ok) ∧ (scanR l).1.length ≤ 20001 ∧ 0 ≤ (scanR l).2.2 ∧ (scanR l).2.2 ≤ 20001 := by
  unfold scanR
  split
  · simp
  · rename_i hl
    have s1 := skip_len false l 1
    have s2 := skip_sum false l 1
    obtain ⟨i1, i2, i3⟩ := scanP_ok (l.length + 1) (skip false l 1).1 (skip false l 1).2 (by omega) (by omega) (by omega)
    have i4 := scanP_len (l.length + 1) (skip false l 1).1 (skip false l 1).2
    have e : scanS l = scanP (l.length + 1) (skip false l 1).1 (skip false l 1).2 := rfl
    rw [← e] at i1 i2 i3 i4
    split
    · refine ⟨fun t ht => ?_, by simp; omega, by simp, by simp⟩
      rcases List.mem_append.1 ht with ht | ht
      · exact i1 t ht
      · rw [List.mem_singleton.1 ht]
        exact ⟨inI5, inI0, by unfold inI endT; simp only; omega, by simp [endT]⟩
    · exact ⟨by simp, by simp, by simp only; omega, by simp only; omega⟩
theorem scanR_seq {ps : List (Tok × List UInt8)} (h : goodS ps) (hl : (seqT ps).length ≤ 20000) : scanR (seqT ps) = ((linesM ps 1).1 ++ [endT (linesM ps 1).2], 0, 0) := by
  have := scanW_seq h [] 1
  rw [List.append_nil, scanW_nil] at this
  unfold scanR
  rw [if_neg (by omega), scanS_W, this]
  simp
end Go.Eng.Tk

set_option linter.unusedSimpArgs false
set_option linter.unusedVariables false
namespace Go.Eng.Tk
open Go Go.Eng Go.Proofs

/-! ### blanks ahead -/
def aheadL (bl : Nat → List UInt8) (n : Nat) : List UInt8 := (List.range n).flatMap bl
theorem aheadL_succ (bl : Nat → List UInt8) (n : Nat) : aheadL bl (n + 1) = aheadL bl n ++ bl n := by simp [aheadL, List.range_succ]
theorem aheadL_len {bl : Nat → List UInt8} (hb : ∀ i, bl i ∈ spaces) : ∀ n, (aheadL bl n).length ≤ 10 * n
  | 0 => by simp [aheadL]
  | n + 1 => by
    rw [aheadL_succ]
    have h1 := aheadL_len hb n
    have h2 := space_len (hb n)
    simp only [List.length_append]; omega
theorem scanW_ahead {bl : Nat → List UInt8} (hb : ∀ i, bl i ∈ spaces) : ∀ (n : Nat) (x : List UInt8) (m : Int), scanW (aheadL bl n ++ x) m = scanW x (m + (feedsN (aheadL bl n) : Int))
  | 0, x, m => by simp [aheadL, feedsN]
  | n + 1, x, m => by
    rw [aheadL_succ, List.append_assoc, scanW_ahead hb n, scanW_blank (hb n), feedsN_app]
    congr 1; omega
theorem scanR_ahead {bl : Nat → List UInt8} (hb : ∀ i, bl i ∈ spaces) {n : Nat} (hn : n ≤ 20) {x : List UInt8} (hx : x.length ≤ 10000) :
    (scanR (aheadL bl n ++ x)).1 = (scanR x).1.map (shT (feedsN (aheadL bl n) : Int)) ∧ (scanR (aheadL bl n ++ x)).2.1 = (scanR x).2.1 ∧ ((scanR x).2.1 = 0 ∨ ((scanR x).2.1 = 50 ∧ (scanR (aheadL bl n ++ x)).2.2 = (scanR x).2.2 + (feedsN (aheadL bl n) : Int))) := by
  have hl := aheadL_len hb n
  unfold scanR
  have e1 : ¬ 20000 < (aheadL bl n ++ x).length := by simp only [List.length_append]; omega
  have e2 : ¬ 20000 < x.length := by omega
  rw [if_neg e1, if_neg e2, scanS_W, scanS_W, scanW_ahead hb, scanW_shift]
  simp only
  cases (scanW x 1).2.2 with
  | true => simp [endT, shT]
  | false => simp
theorem linesM_shift : ∀ (ps : List (Tok × List UInt8)) (m d : Int), linesM ps (m + d) = ((linesM ps m).1.map (shT d), (linesM ps m).2 + d)
  | [], m, d => rfl
  | p :: ps, m, d => by
    simp only [linesM]
    rw [show m + d + (feedsN p.2 : Int) = m + (feedsN p.2 : Int) + d by omega, linesM_shift ps]
    simp [shT]
theorem scanR_join {pa pb : List (Tok × List UInt8)} (ha : goodS pa) (hb : goodS pb) (hl : (seqT pa).length + (seqT pb).length ≤ 19000) :
    scanR (seqT pa ++ [10] ++ seqT pb) = ((linesM pa 1).1 ++ (scanR (seqT pb)).1.map (shT ((feedsN (seqT pa) : Int) + 1)), 0, 0) := by
  have h1 : scanW (seqT pa ++ [10] ++ seqT pb) 1 = ((linesM pa 1).1 ++ (scanW ([10] ++ seqT pb) (linesM pa 1).2).1, (scanW ([10] ++ seqT pb) (linesM pa 1).2).2) := by
    rw [List.append_assoc]; exact scanW_seq ha _ 1
  have h2 : scanW ([10] ++ seqT pb) (linesM pa 1).2 = scanW (seqT pb) (1 + ((feedsN (seqT pa) : Int) + 1)) := by
    rw [scanW_blank (x := [10]) (by decide), linesM_line ha]
    congr 1
  have h3 := scanW_seq hb [] 1
  rw [List.append_nil, scanW_nil] at h3
  rw [h2, scanW_shift, h3] at h1
  rw [scanR_seq hb (by omega)]
  unfold scanR
  rw [if_neg (by simp; omega), scanS_W, h1]
  simp [shT, endT]
theorem shift_set {ts : List Tok} {i : Nat} {t : Tok} (hi : ts[i]? = some t) (d : Int) : ((ts.take i).map (shT d) ++ ts.drop i).set i (shT d t) = (ts.take (i + 1)).map (shT d) ++ ts.drop (i + 1) := by
  have hlt := (List.getElem?_eq_some_iff.1 hi).1
  have hd : ts.drop i = t :: ts.drop (i + 1) := by
    rw [List.drop_eq_getElem_cons hlt]
    congr 1
    exact (List.getElem?_eq_some_iff.1 hi).2
  have hl : ((ts.take i).map (shT d)).length = i := by simp; omega
  rw [hd, List.set_append_right (h := by omega), hl, Nat.sub_self, List.set_cons_zero, List.take_add_one, hi]
  simp
theorem shift_get {ts : List Tok} {i : Nat} {t : Tok} (hi : ts[i]? = some t) (d : Int) : ((ts.take i).map (shT d) ++ ts.drop i)[i]? = some t := by
  have hlt := (List.getElem?_eq_some_iff.1 hi).1
  have hl : ((ts.take i).map (shT d)).length = i := by simp; omega
  rw [List.getElem?_append_right (by omega), hl, Nat.sub_self, List.getElem?_drop, Nat.add_zero]
  exact hi
end Go.Eng.Tk

set_option linter.unusedSimpArgs false
set_option linter.unusedVariables false
namespace Go.Eng.Tk
open Go Go.Eng Go.Proofs

/-! ### the document's numbers -/
def dgv (base : Nat) (b : UInt8) : Option Nat := if isDg b then some (b.toNat - 48) else if base = 16 ∧ 97 ≤ b.toNat ∧ b.toNat ≤ 102 then some (b.toNat - 87) else none
def valN (base : Nat) : List UInt8 → Nat → Option Nat
  | [], n => some n
  | b :: r, n => match dgv base b with | none => none | some d => valN base r (base * n + d)
def refN (l : List UInt8) : Option Nat :=
  let v := if 2 < l.length ∧ l.length ≤ 10 ∧ l.take 2 = [48, 120] then valN 16 (l.drop 2) 0
    else if l.length = 1 ∨ (1 < l.length ∧ l.length ≤ 10 ∧ l.head? ≠ some 48) then valN 10 l 0 else none
  v.bind fun n => if n < 4294967296 then some n else none
theorem dgv_low (base : Nat) (hb : base = 10 ∨ base = 16) (b : UInt8) (h : Lib.lowerB b = b) : dgv base b = (dig b).bind fun d => if d < base then some d else none := by
  have : ∀ n : Fin 256, Lib.lowerB (UInt8.ofNat n.val) = UInt8.ofNat n.val → dgv 10 (UInt8.ofNat n.val) = ((dig (UInt8.ofNat n.val)).bind fun d => if d < 10 then some d else none) ∧ dgv 16 (UInt8.ofNat n.val) = ((dig (UInt8.ofNat n.val)).bind fun d => if d < 16 then some d else none) := by decide +kernel
  have := this ⟨b.toNat, u8_lt b⟩
  simp only [UInt8.ofNat_toNat] at this
  rcases hb with rfl | rfl
  · exact (this h).1
  · exact (this h).2
theorem dgv_up (base : Nat) (b : UInt8) (h : Lib.lowerB b ≠ b) : dgv base b = none := by
  have : ∀ n : Fin 256, Lib.lowerB (UInt8.ofNat n.val) ≠ UInt8.ofNat n.val → isDg (UInt8.ofNat n.val) = false ∧ ¬ (97 ≤ (UInt8.ofNat n.val).toNat) := by decide +kernel
  have := this ⟨b.toNat, u8_lt b⟩
  simp only [UInt8.ofNat_toNat] at this
  obtain ⟨h1, h2⟩ := this h
  unfold dgv
  rw [h1, if_neg (by simp), if_neg (by omega)]
theorem valN_mono {base : Nat} (hb : 1 ≤ base) : ∀ {l : List UInt8} {n m : Nat}, valN base l n = some m → n ≤ m
  | [], n, m, h => by simp only [valN, Option.some.injEq] at h; omega
  | b :: r, n, m, h => by
    unfold valN at h
    split at h
    · cases h
    · rename_i d hd
      have := valN_mono hb h
      have : n ≤ base * n := Nat.le_mul_of_pos_left n (by omega)
      omega
theorem parse_val {base : Nat} (hb : base = 10 ∨ base = 16) : ∀ {l : List UInt8} {n : Nat}, n ≤ 4294967295 → (∀ b ∈ l, Lib.lowerB b = b) → parse base l n = (valN base l n).bind fun m => if m < 4294967296 then some m else none
  | [], n, hn, _ => by
    simp only [parse, valN, Option.bind_some]
    rw [if_pos (by omega)]
  | b :: r, n, hn, h => by
    unfold parse valN
    rw [dgv_low base hb b (h b (by simp))]
    cases hd : dig b with
    | none => rfl
    | some d =>
      simp only [Option.bind_some]
      by_cases hlt : d < base
      · rw [if_neg (by omega), if_pos hlt]
        simp only
        rw [Nat.mul_comm n base]
        by_cases hbig : 4294967295 < base * n + d
        · rw [if_pos hbig]
          cases hv : valN base r (base * n + d) with
          | none => rfl
          | some m =>
            have := valN_mono (by omega) hv
            simp only [Option.bind_some]
            rw [if_neg (by omega)]
        · rw [if_neg hbig]
          exact parse_val hb (by omega) fun c hc => h c (by simp [hc])
      · rw [if_pos (by omega), if_neg hlt]
        rfl
theorem valN_up {base : Nat} : ∀ {l : List UInt8} {n : Nat}, (∃ b ∈ l, Lib.lowerB b ≠ b) → valN base l n = none
  | [], n, h => by obtain ⟨b, hb, _⟩ := h; cases hb
  | b :: r, n, h => by
    unfold valN
    obtain ⟨c, hc, hcl⟩ := h
    rcases List.mem_cons.1 hc with rfl | hc
    · rw [dgv_up base c hcl]
    · split
      · rfl
      · exact valN_up ⟨c, hc, hcl⟩
theorem low_ne {l : List UInt8} (h : (Lib.toLowerA l == l) = false) : ∃ b ∈ l, Lib.lowerB b ≠ b := by
  apply Classical.byContradiction
  intro hn
  have : ∀ b ∈ l, Lib.lowerB b = b := fun b hb => Classical.byContradiction fun hne => hn ⟨b, hb, hne⟩
  rw [low_map this] at h
  simp at h
theorem low_eqs {l : List UInt8} (h : (Lib.toLowerA l == l) = true) : ∀ b ∈ l, Lib.lowerB b = b := by
  have h : Lib.toLowerA l = l := by simpa using h
  intro b hb
  obtain ⟨i, hi⟩ := List.mem_iff_getElem?.1 hb
  have h1 : (Lib.toLowerA l)[i]? = some (Lib.lowerB b) := by unfold Lib.toLowerA; rw [List.getElem?_map, hi]; rfl
  rw [h, hi] at h1
  exact (Option.some.inj h1).symm
/-- both ways of reading digits are one -/
theorem parse_both {base : Nat} (hb : base = 10 ∨ base = 16) (l : List UInt8) : (match parse base l 0 with | none => none | some n => if (Lib.toLowerA l == l) = true then some n else none) = (valN base l 0).bind fun m => if m < 4294967296 then some m else none := by
  cases hl : (Lib.toLowerA l == l) with
  | true =>
    rw [← parse_val hb (by omega) (low_eqs hl)]
    cases parse base l 0 <;> rfl
  | false =>
    rw [valN_up (low_ne hl)]
    cases parse base l 0 <;> rfl
theorem pre_take {l : List UInt8} : ([48, 120].isPrefixOf l = true) ↔ (2 ≤ l.length ∧ l.take 2 = [48, 120]) := by
  rw [List.isPrefixOf_iff_prefix, List.prefix_iff_eq_take]
  constructor
  · intro h
    have h1 : l.take 2 = [48, 120] := h.symm
    refine ⟨?_, h1⟩
    have := congrArg List.length h1
    simp at this
    omega
  · rintro ⟨_, h⟩; exact h.symm
theorem number_ref (l : List UInt8) : number l = refN l := by
  by_cases hp : [48, 120].isPrefixOf l = true
  · obtain ⟨h2, ht⟩ := pre_take.1 hp
    have hd : digs l = (l.drop 2, 16) := by unfold digs; rw [if_pos hp]
    have hhead : l.head? = some 48 := by
      cases l with
      | nil => simp at h2
      | cons b r =>
        simp at ht
        simp [ht.1]
    unfold number nought refN
    rw [hd]
    simp only
    by_cases h3 : 2 < l.length ∧ l.length ≤ 10
    · rw [if_pos ⟨h3.1, h3.2, ht⟩, ← parse_both (.inr rfl)]
      have hne : l.drop 2 ≠ [] := by
        intro e
        have := congrArg List.length e
        simp at this; omega
      rw [parseU_ne hne]
      cases parse 16 (l.drop 2) 0 with
      | none => rfl
      | some n =>
        simp only
        have : ¬ 10 < l.length := by omega
        cases (Lib.toLowerA (l.drop 2) == l.drop 2) <;> simp [this]
    · rw [if_neg (fun h => h3 ⟨h.1, h.2.1⟩), if_neg]
      · simp only [Option.bind_none]
        by_cases h10 : 10 < l.length
        · split
          · rfl
          · simp [h10]
        · have : l.drop 2 = [] := List.drop_of_length_le (by omega)
          rw [this]; rfl
      · rw [hhead]
        simp; omega
  · have hd : digs l = (l, 10) := by unfold digs; rw [if_neg hp]
    have hnt : ¬ (2 < l.length ∧ l.length ≤ 10 ∧ l.take 2 = [48, 120]) := fun h => hp (pre_take.2 ⟨by omega, h.2.2⟩)
    unfold number nought refN
    rw [hd]
    simp only
    rw [if_neg hnt]
    cases l with
    | nil => rfl
    | cons b r =>
      rw [parseU_ne (by simp)]
      by_cases hc : (b :: r).length = 1 ∨ (1 < (b :: r).length ∧ (b :: r).length ≤ 10 ∧ (b :: r).head? ≠ some 48)
      · rw [if_pos hc, ← parse_both (.inl rfl)]
        cases parse 10 (b :: r) 0 with
        | none => rfl
        | some n =>
          simp only
          have h10 : ¬ 10 < (b :: r).length := by rcases hc with h | h <;> omega
          have hno : ((10 : Nat) == 10 && (decide (1 < (b :: r).length) && (b :: r).head? == some 48)) = false := by
            rcases hc with h | h
            · rw [h]; simp
            · have := h.2.2
              simp only [List.head?_cons] at this ⊢
              simp
              intro _ e
              exact this (by rw [e])
          rw [hno]
          cases (Lib.toLowerA (b :: r) == b :: r) <;> simp only [decide_eq_false h10] <;> rfl
      · rw [if_neg hc]
        simp only [Option.bind_none]
        cases parse 10 (b :: r) 0 with
        | none => rfl
        | some n =>
          simp only
          rw [if_pos]
          by_cases h10 : 10 < (b :: r).length
          · rw [decide_eq_true h10]; rfl
          · have h1 : 1 < (b :: r).length := by
              have : 0 < (b :: r).length := by simp
              omega
            have h48 : (b :: r).head? = some 48 := Classical.byContradiction fun h => hc (.inr ⟨h1, by omega, h⟩)
            rw [h48, decide_eq_true h1]
            simp
end Go.Eng.Tk

set_option linter.unusedSimpArgs false
set_option linter.unusedVariables false
namespace Go.Eng.Tk
open Go Go.Eng Go.Proofs

/-! ### the scanner, byte by byte -/
theorem scanW_nl (r : List UInt8) (m : Int) : scanW (10 :: r) m = scanW r (m + 1) := scanW_skip (by simp [skip, isBl]) (by simp)
theorem scanW_bl {b : UInt8} (hb : isBl b = true) (r : List UInt8) (m : Int) : scanW (b :: r) m = scanW r m := scanW_skip (by simp [skip, hb]) (by simp)
theorem skip_true : ∀ (l : List UInt8) (m : Int), skip true l m = skip false (l.dropWhile (· != 10)) m
  | [], m => rfl
  | b :: r, m => by
    by_cases hb : b = 10
    · subst hb
      rw [List.dropWhile_cons, if_neg (by decide)]
      simp [skip, isBl]
    · rw [List.dropWhile_cons, if_pos (by simpa using hb), ← skip_true r m]; simp [skip, hb]
theorem dropW_len (p : UInt8 → Bool) (l : List UInt8) : (l.dropWhile p).length ≤ l.length := by
  induction l with
  | nil => simp
  | cons b r ih => rw [List.dropWhile_cons]; split <;> simp <;> omega
theorem scanW_hash (r : List UInt8) (m : Int) : scanW (35 :: r) m = scanW ((35 :: r).dropWhile (· != 10)) m := by
  rw [List.dropWhile_cons, if_pos (by decide)]
  refine scanW_skip ?_ (Nat.le_trans (dropW_len _ _) (by simp))
  rw [← skip_true]
  simp [skip, isBl]
theorem scanW_here {b : UInt8} {r : List UInt8} (m : Int) (h : isBl b = false ∧ b ≠ 10 ∧ b ≠ 35) : scanW (b :: r) m = scanP ((b :: r).length + 1) (b :: r) m := by
  unfold scanW
  rw [skip_here m h]
theorem scanW_tok {b : UInt8} {r : List UInt8} (m : Int) (h : isBl b = false ∧ b ≠ 10 ∧ b ≠ 35) (hr : 0 < runN (b :: r)) (hk : (oneS ((b :: r).take (runN (b :: r)))).2 = true) :
    scanW (b :: r) m = ({ (oneS ((b :: r).take (runN (b :: r)))).1 with line := m } :: (scanW ((b :: r).drop (runN (b :: r))) m).1, (scanW ((b :: r).drop (runN (b :: r))) m).2) := by
  rw [scanW_here m h, scanP, if_pos hr, if_pos hk, scanW_fuel _ m (by simp only [List.length_drop]; have := runN_le (b :: r); simp only [List.length_cons] at *; omega)]
theorem scanW_tokbad {b : UInt8} {r : List UInt8} (m : Int) (h : isBl b = false ∧ b ≠ 10 ∧ b ≠ 35) (hr : 0 < runN (b :: r)) (hk : (oneS ((b :: r).take (runN (b :: r)))).2 = false) : scanW (b :: r) m = ([], m, false) := by
  rw [scanW_here m h, scanP, if_pos hr, if_neg (by rw [hk]; simp)]
theorem scanW_sign {b : UInt8} {r : List UInt8} (m : Int) (h : isBl b = false ∧ b ≠ 10 ∧ b ≠ 35) (hr : runN (b :: r) = 0) {g : List UInt8} (hg : signsL.find? (·.isPrefixOf (b :: r)) = some g) :
    scanW (b :: r) m = (⟨4, g, 0, m⟩ :: (scanW ((b :: r).drop g.length) m).1, (scanW ((b :: r).drop g.length) m).2) := by
  have h1 := signs_pos hg
  rw [scanW_here m h, scanP, if_neg (by omega), hg]
  simp only
  rw [scanW_fuel _ m (by simp only [List.length_drop, List.length_cons] at *; omega)]
theorem scanW_signbad {b : UInt8} {r : List UInt8} (m : Int) (h : isBl b = false ∧ b ≠ 10 ∧ b ≠ 35) (hr : runN (b :: r) = 0) (hg : signsL.find? (·.isPrefixOf (b :: r)) = none) : scanW (b :: r) m = ([], m, false) := by
  rw [scanW_here m h, scanP, if_neg (by omega), hg]
end Go.Eng.Tk

set_option linter.unusedSimpArgs false
set_option linter.unusedVariables false
namespace Go.Eng.Tk
open Go Go.Eng Go.Proofs

/-! ### the document's own answer -/
theorem digit_c (b : UInt8) (h : Heap) (Q : Value → Heap → Prop) (hq : Q (.bool (isDg b)) h) : CallW Tryd.prog 28 [.int .u8 b.toNat] h Q := by
  refine call_of1 (k := 1) ok28 rfl rfl rfl fun N => ?_
  rw [show env0 c28 [.int .u8 b.toNat] = [.int .u8 b.toNat, undef] from rfl]
  delta c28 c28_r0 c28_r1
  replace hq := Hid.mk hq
  have hd : isDg b = (decide (48 ≤ b.toNat) && decide (b.toNat ≤ 57)) := rfl
  have go : ∀ c, c = isDg b → Q (.bool c) h := fun c e => by rw [e]; exact hq.h
  rw [hd] at go
  replace go := Hid.mk go
  clear hq hd
  by_cases h1 : (48 : Int) ≤ (b.toNat : Int) <;> by_cases h2 : (b.toNat : Int) ≤ 57
  all_goals
    repeat' (first | simp -implicitDefEqProofs only [W_skip, W_reg, W_seq, W_rcond, W_cond, W_block, W_loop, W_exit, W_ret, thenQ_normal, thenQ_exit, thenQ_ret, blockQ_normal, blockQ_ret, blockQ_here, regQ_app, rcQ_app, cndK_t, cndK_f, RegW_nil, RegW_none, RegW_some, contW_app, grdK_tt, grdK_ff, grdK_tf, grdK_ft, grdK_undef, actK_p, actK_r, actK_a, actK_w, actK_call, actK_callV, heapK_app, allocK_app, writeK_app, ret1_ret, ret1_normal, ret0_ret, ret0_normal, ret2_ret2, thenK_app, retcv_ret, retcvK_app, optW_some, evs, Arg.ev, aP, aR, aA, aW, pMov, pBin, pUn, pConv, pPick, pFieldAddr, pNilCheck, pExtract, aBin, aUn, aInt, aNew, partL_f, upd, List.getElem?_cons_zero, List.getElem?_cons_succ, List.getD_cons_zero, List.getD_cons_succ, List.set_cons_zero, List.set_cons_succ, Nat.zero_add, Nat.add_zero, List.getElem?_toArray, List.take_zero, List.drop_zero, List.take_succ_cons, List.drop_succ_cons, if_true, if_false, decide_true, decide_false, Bool.false_eq_true, Bool.true_eq_false, Bool.not_true, Bool.not_false, not_true_eq_false, not_false_eq_true, ge_iff_le, gt_iff_lt, beq_self_eq_true, bne_self_eq_false, and_self, and_true, true_and, Option.isSome_some, Heap.get_alloc_same, Heap.alloc_getE, *] | with_reducible refine cndK_d (fun hc => ?_) (fun hc => ?_) | with_reducible refine grdK_d (fun hc => ?_) (fun hc => ?_) | with_reducible refine cndK_i (fun hc => ?_) (fun hc => ?_) | with_reducible refine grdK_i (fun hc => ?_) (fun hc => ?_))
    exact go.h _ (by simp; omega)
def ltZ (z : Int) : Bool := (decide (97 ≤ z) && decide (z ≤ 122)) || (decide (65 ≤ z) && decide (z ≤ 90)) || (z == 95)
theorem letter_c (b : UInt8) (h : Heap) (Q : Value → Heap → Prop) (hq : Q (.bool (ltZ b.toNat)) h) : CallW Tryd.prog 29 [.int .u8 b.toNat] h Q := by
  obtain ⟨z, hz⟩ : ∃ z : Int, (b.toNat : Int) = z := ⟨_, rfl⟩
  rw [hz] at hq ⊢
  refine call_of1 (k := 1) ok29 rfl rfl rfl fun N => ?_
  rw [show env0 c29 [.int .u8 z] = [.int .u8 z, undef] from rfl]
  delta c29 c29_r0 c29_r1
  replace hq := Hid.mk hq
  have go : ∀ c, ltZ z = c → Q (.bool c) h := fun c hb => by rw [← hb]; exact hq.h
  replace go := Hid.mk go
  clear hq hz
  by_cases h1 : 97 ≤ z <;> by_cases h2 : z ≤ 122 <;> by_cases h3 : 65 ≤ z <;> by_cases h4 : z ≤ 90
  all_goals cases h5 : (z == 95)
  all_goals first
    | (exfalso; omega)
    | (repeat' (first | simp -implicitDefEqProofs only [W_skip, W_reg, W_seq, W_rcond, W_cond, W_block, W_loop, W_exit, W_ret, thenQ_normal, thenQ_exit, thenQ_ret, blockQ_normal, blockQ_ret, blockQ_here, regQ_app, rcQ_app, cndK_t, cndK_f, RegW_nil, RegW_none, RegW_some, contW_app, grdK_tt, grdK_ff, grdK_tf, grdK_ft, grdK_undef, actK_p, actK_r, actK_a, actK_w, actK_call, actK_callV, heapK_app, allocK_app, writeK_app, ret1_ret, ret1_normal, ret0_ret, ret0_normal, ret2_ret2, thenK_app, retcv_ret, retcvK_app, optW_some, evs, Arg.ev, aP, aR, aA, aW, pMov, pBin, pUn, pConv, pPick, pFieldAddr, pNilCheck, pExtract, aBin, aUn, aInt, aNew, partL_f, upd, List.getElem?_cons_zero, List.getElem?_cons_succ, List.getD_cons_zero, List.getD_cons_succ, List.set_cons_zero, List.set_cons_succ, Nat.zero_add, Nat.add_zero, List.getElem?_toArray, List.take_zero, List.drop_zero, List.take_succ_cons, List.drop_succ_cons, if_true, if_false, decide_true, decide_false, Bool.false_eq_true, Bool.true_eq_false, Bool.not_true, Bool.not_false, not_true_eq_false, not_false_eq_true, ge_iff_le, gt_iff_lt, beq_self_eq_true, bne_self_eq_false, and_self, and_true, true_and, Option.isSome_some, Heap.get_alloc_same, Heap.alloc_getE, *] | with_reducible refine cndK_d (fun hc => ?_) (fun hc => ?_) | with_reducible refine grdK_d (fun hc => ?_) (fun hc => ?_) | with_reducible refine cndK_i (fun hc => ?_) (fun hc => ?_) | with_reducible refine grdK_i (fun hc => ?_) (fun hc => ?_))
       exact go.h _ (by simp only [ltZ, h1, h2, h3, h4, h5]; rfl))
theorem nm_split (b : UInt8) : nm b = (ltZ b.toNat || isDg b) := by
  unfold nm nmZ ltZ isDg
  congr 1
  rw [Bool.eq_iff_iff]
  simp
  omega
theorem refWord_c {l : List UInt8} (h : Heap) (Q : Value → Heap → Prop) (hq : ∀ h', h.le h' → Q (.bool (isWord l)) h') : CallW Tryd.prog 16 [str l] h Q := by
  refine call_of1 (k := 1) ok16 rfl rfl rfl fun N => ?_
  rw [show env0 c16 [str l] = [str l, undef, undef, undef] from rfl]
  delta c16 c16_r0 c16_r1 c16_r2 c16_r3 c16_r4 c16_r5 c16_r6 c16_r8
  replace hq := Hid.mk hq
  have sw := strs_new h wordsL (n := 13) (cells := [.string ⟨#[104, 97, 114, 116, 115]⟩, .string ⟨#[100, 101, 118, 105, 99, 101]⟩, .string ⟨#[117, 97, 114, 116]⟩, .string ⟨#[116, 105, 109, 101, 114]⟩, .string ⟨#[103, 112, 105, 111]⟩, .string ⟨#[114, 101, 115, 111, 117, 114, 99, 101]⟩, .string ⟨#[116, 97, 115, 107]⟩, .string ⟨#[104, 97, 110, 100, 108, 101, 114]⟩, .string ⟨#[108, 111, 99, 107]⟩, .string ⟨#[105, 102]⟩, .string ⟨#[101, 108, 115, 101]⟩, .string ⟨#[114, 101, 112, 101, 97, 116]⟩, .string ⟨#[104, 97, 108, 116]⟩]) rfl rfl
  obtain ⟨q, hqq⟩ : ∃ x, h.next = x := ⟨_, rfl⟩
  obtain ⟨h1, hh1⟩ : ∃ x, h.alloc (.blk [.string ⟨#[104, 97, 114, 116, 115]⟩, .string ⟨#[100, 101, 118, 105, 99, 101]⟩, .string ⟨#[117, 97, 114, 116]⟩, .string ⟨#[116, 105, 109, 101, 114]⟩, .string ⟨#[103, 112, 105, 111]⟩, .string ⟨#[114, 101, 115, 111, 117, 114, 99, 101]⟩, .string ⟨#[116, 97, 115, 107]⟩, .string ⟨#[104, 97, 110, 100, 108, 101, 114]⟩, .string ⟨#[108, 111, 99, 107]⟩, .string ⟨#[105, 102]⟩, .string ⟨#[101, 108, 115, 101]⟩, .string ⟨#[114, 101, 112, 101, 97, 116]⟩, .string ⟨#[104, 97, 108, 116]⟩] true) = x := ⟨_, rfl⟩
  have l1 : h.le h1 := by rw [← hh1]; exact (Heap.le.refl _).alloc _
  rw [hqq, hh1] at sw
  have g := hq.h h1 l1
  replace g := Hid.mk g
  clear hq l1
  replace sw := Hid.mk sw
  have ls : pLenS [.slice (some ⟨q, 0, none⟩) 13 1] = some (.int .i64 13) := rfl
  repeat' (first | simp -implicitDefEqProofs only [W_skip, W_reg, W_seq, W_rcond, W_cond, W_block, W_loop, W_exit, W_ret, thenQ_normal, thenQ_exit, thenQ_ret, blockQ_normal, blockQ_ret, blockQ_here, regQ_app, rcQ_app, cndK_t, cndK_f, RegW_nil, RegW_none, RegW_some, contW_app, grdK_tt, grdK_ff, grdK_tf, grdK_ft, grdK_undef, actK_p, actK_r, actK_a, actK_w, actK_call, actK_callV, heapK_app, allocK_app, writeK_app, ret1_ret, ret1_normal, ret0_ret, ret0_normal, ret2_ret2, thenK_app, retcv_ret, retcvK_app, optW_some, evs, Arg.ev, aP, aR, aA, aW, pMov, pBin, pUn, pConv, pPick, pFieldAddr, pNilCheck, pExtract, aBin, aUn, aInt, aNew, partL_f, upd, List.getElem?_cons_zero, List.getElem?_cons_succ, List.getD_cons_zero, List.getD_cons_succ, List.set_cons_zero, List.set_cons_succ, Nat.zero_add, Nat.add_zero, List.getElem?_toArray, List.take_zero, List.drop_zero, List.take_succ_cons, List.drop_succ_cons, if_true, if_false, decide_true, decide_false, Bool.false_eq_true, Bool.true_eq_false, Bool.not_true, Bool.not_false, not_true_eq_false, not_false_eq_true, ge_iff_le, gt_iff_lt, beq_self_eq_true, bne_self_eq_false, and_self, and_true, true_and, Option.isSome_some, Heap.get_alloc_same, Heap.alloc_getE, bslice_words', *] | with_reducible refine cndK_d (fun hc => ?_) (fun hc => ?_) | with_reducible refine grdK_d (fun hc => ?_) (fun hc => ?_) | with_reducible refine cndK_i (fun hc => ?_) (fun hc => ?_) | with_reducible refine grdK_i (fun hc => ?_) (fun hc => ?_))
  refine LoopW.upto 13 (fun i e h' => h' = h1 ∧ (wordsL.take i).contains l = false ∧ e = [str l, .bool false, .slice (some ⟨q, 0, none⟩) 13 1, .int .i64 i]) ?_ (Nat.zero_le _) ⟨rfl, rfl, rfl⟩
  rintro i _ _ R hi ⟨rfl, hpre, rfl⟩ hR
  replace hpre := Hid.mk hpre
  delta c16_l7 c16_r0 c16_r1 c16_r2 c16_r3 c16_r4 c16_r5 c16_r6 c16_r8
  by_cases hlt : i < 13
  case neg =>
    have hlt' : ¬ (i : Int) < 13 := by omega
    have hw : isWord l = false := by
      have := hpre.h
      rw [List.take_of_length_le (show wordsL.length ≤ i by show 13 ≤ i; omega)] at this
      exact this
    rw [hw] at g
    repeat' (first | simp -implicitDefEqProofs only [W_skip, W_reg, W_seq, W_rcond, W_cond, W_block, W_loop, W_exit, W_ret, thenQ_normal, thenQ_exit, thenQ_ret, blockQ_normal, blockQ_ret, blockQ_here, regQ_app, rcQ_app, cndK_t, cndK_f, RegW_nil, RegW_none, RegW_some, contW_app, grdK_tt, grdK_ff, grdK_tf, grdK_ft, grdK_undef, actK_p, actK_r, actK_a, actK_w, actK_call, actK_callV, heapK_app, allocK_app, writeK_app, ret1_ret, ret1_normal, ret0_ret, ret0_normal, ret2_ret2, thenK_app, retcv_ret, retcvK_app, optW_some, evs, Arg.ev, aP, aR, aA, aW, pMov, pBin, pUn, pConv, pPick, pFieldAddr, pNilCheck, pExtract, aBin, aUn, aInt, aNew, partL_f, upd, List.getElem?_cons_zero, List.getElem?_cons_succ, List.getD_cons_zero, List.getD_cons_succ, List.set_cons_zero, List.set_cons_succ, Nat.zero_add, Nat.add_zero, List.getElem?_toArray, List.take_zero, List.drop_zero, List.take_succ_cons, List.drop_succ_cons, if_true, if_false, decide_true, decide_false, Bool.false_eq_true, Bool.true_eq_false, Bool.not_true, Bool.not_false, not_true_eq_false, not_false_eq_true, ge_iff_le, gt_iff_lt, beq_self_eq_true, bne_self_eq_false, and_self, and_true, true_and, Option.isSome_some, Heap.get_alloc_same, Heap.alloc_getE, *] | with_reducible refine cndK_d (fun hc => ?_) (fun hc => ?_) | with_reducible refine grdK_d (fun hc => ?_) (fun hc => ?_) | with_reducible refine cndK_i (fun hc => ?_) (fun hc => ?_) | with_reducible refine grdK_i (fun hc => ?_) (fun hc => ?_))
    exact g.h
  case pos =>
    have hlt' : (i : Int) < 13 := by omega
    have hwj : IntKind.i64.wrap ((i : Int) + 1) = ((i + 1 : Nat) : Int) := by rw [wrapI (by omega) (by omega)]; rfl
    obtain ⟨w, hw⟩ : ∃ w, wordsL[i]? = some w := ⟨_, List.getElem?_eq_getElem (show i < wordsL.length from hlt)⟩
    obtain ⟨id, off, cells, own, e1, e2, e3, _⟩ := sw.h.elem hw
    cases hs : (w == l) with
    | true =>
      have hwl : w = l := by simpa using hs
      have hin : isWord l = true := by
        unfold isWord
        rw [← hwl]
        simpa using List.mem_of_getElem? hw
      rw [hin] at g
      replace hw := Hid.mk hw
      clear hwl hin
      repeat' (first | simp -implicitDefEqProofs only [W_skip, W_reg, W_seq, W_rcond, W_cond, W_block, W_loop, W_exit, W_ret, thenQ_normal, thenQ_exit, thenQ_ret, blockQ_normal, blockQ_ret, blockQ_here, regQ_app, rcQ_app, cndK_t, cndK_f, RegW_nil, RegW_none, RegW_some, contW_app, grdK_tt, grdK_ff, grdK_tf, grdK_ft, grdK_undef, actK_p, actK_r, actK_a, actK_w, actK_call, actK_callV, heapK_app, allocK_app, writeK_app, ret1_ret, ret1_normal, ret0_ret, ret0_normal, ret2_ret2, thenK_app, retcv_ret, retcvK_app, optW_some, evs, Arg.ev, aP, aR, aA, aW, pMov, pBin, pUn, pConv, pPick, pFieldAddr, pNilCheck, pExtract, aBin, aUn, aInt, aNew, partL_f, upd, List.getElem?_cons_zero, List.getElem?_cons_succ, List.getD_cons_zero, List.getD_cons_succ, List.set_cons_zero, List.set_cons_succ, Nat.zero_add, Nat.add_zero, List.getElem?_toArray, List.take_zero, List.drop_zero, List.take_succ_cons, List.drop_succ_cons, if_true, if_false, decide_true, decide_false, Bool.false_eq_true, Bool.true_eq_false, Bool.not_true, Bool.not_false, not_true_eq_false, not_false_eq_true, ge_iff_le, gt_iff_lt, beq_self_eq_true, bne_self_eq_false, and_self, and_true, true_and, Option.isSome_some, Heap.get_alloc_same, Heap.alloc_getE, eq_S, *] | with_reducible refine cndK_d (fun hc => ?_) (fun hc => ?_) | with_reducible refine grdK_d (fun hc => ?_) (fun hc => ?_) | with_reducible refine cndK_i (fun hc => ?_) (fun hc => ?_) | with_reducible refine grdK_i (fun hc => ?_) (fun hc => ?_))
      exact g.h
    | false =>
      have hnx : (wordsL.take (i + 1)).contains l = false := by
        have h1 := hpre.h
        rw [List.take_add_one, hw]
        have h2 : ¬ l = w := by rintro rfl; simp at hs
        simp at h1 ⊢
        exact ⟨h1, h2⟩
      replace hw := Hid.mk hw
      replace hnx := Hid.mk hnx
      repeat' (first | simp -implicitDefEqProofs only [W_skip, W_reg, W_seq, W_rcond, W_cond, W_block, W_loop, W_exit, W_ret, thenQ_normal, thenQ_exit, thenQ_ret, blockQ_normal, blockQ_ret, blockQ_here, regQ_app, rcQ_app, cndK_t, cndK_f, RegW_nil, RegW_none, RegW_some, contW_app, grdK_tt, grdK_ff, grdK_tf, grdK_ft, grdK_undef, actK_p, actK_r, actK_a, actK_w, actK_call, actK_callV, heapK_app, allocK_app, writeK_app, ret1_ret, ret1_normal, ret0_ret, ret0_normal, ret2_ret2, thenK_app, retcv_ret, retcvK_app, optW_some, evs, Arg.ev, aP, aR, aA, aW, pMov, pBin, pUn, pConv, pPick, pFieldAddr, pNilCheck, pExtract, aBin, aUn, aInt, aNew, partL_f, upd, List.getElem?_cons_zero, List.getElem?_cons_succ, List.getD_cons_zero, List.getD_cons_succ, List.set_cons_zero, List.set_cons_succ, Nat.zero_add, Nat.add_zero, List.getElem?_toArray, List.take_zero, List.drop_zero, List.take_succ_cons, List.drop_succ_cons, if_true, if_false, decide_true, decide_false, Bool.false_eq_true, Bool.true_eq_false, Bool.not_true, Bool.not_false, not_true_eq_false, not_false_eq_true, ge_iff_le, gt_iff_lt, beq_self_eq_true, bne_self_eq_false, and_self, and_true, true_and, Option.isSome_some, Heap.get_alloc_same, Heap.alloc_getE, eq_S, *] | with_reducible refine cndK_d (fun hc => ?_) (fun hc => ?_) | with_reducible refine grdK_d (fun hc => ?_) (fun hc => ?_) | with_reducible refine cndK_i (fun hc => ?_) (fun hc => ?_) | with_reducible refine grdK_i (fun hc => ?_) (fun hc => ?_))
      exact hR.h _ _ hlt ⟨rfl, hnx.h, rfl⟩
theorem runN_get : ∀ {l : List UInt8} {i : Nat}, runN (l.take i) = i → i ≤ l.length → ∀ {b}, l[i]? = some b → (nm b = true → runN (l.take (i + 1)) = i + 1) ∧ (nm b = false → runN l = i)
  | [], i, _, _, b, hb => by simp at hb
  | x :: l, 0, _, _, b, hb => by
    simp only [List.getElem?_cons_zero, Option.some.injEq] at hb
    subst hb
    constructor
    · intro hn; simp [runN_cons, hn]; rfl
    · intro hn; simp [runN_cons, hn]
  | x :: l, i + 1, hr, hi, b, hb => by
    rw [List.take_succ_cons, runN_cons] at hr
    cases hx : nm x with
    | false => rw [hx] at hr; simp at hr
    | true =>
      rw [hx, if_pos rfl] at hr
      obtain ⟨h1, h2⟩ := runN_get (l := l) (i := i) (by omega) (by simpa using hi) (by simpa using hb)
      constructor
      · intro hn; rw [List.take_succ_cons, runN_cons, hx, if_pos rfl, h1 hn]
      · intro hn; rw [runN_cons, hx, if_pos rfl, h2 hn]
theorem refName_c {l : List UInt8} (h : Heap) (Q : Value → Heap → Prop) (hq : ∀ h', h.le h' → Q (.bool (isName l)) h') : CallW Tryd.prog 14 [str l] h Q := by
  refine call_of1 (k := 1) ok14 rfl rfl rfl fun N => ?_
  rw [show env0 c14 [str l] = [str l, undef, undef, undef, undef] from rfl]
  delta c14 c14_r0 c14_r1 c14_r2 c14_r3 c14_r4 c14_r5 c14_r6 c14_r7 c14_r8 c14_r9 c14_r11
  replace hq := Hid.mk hq
  repeat' (first | simp -implicitDefEqProofs only [W_skip, W_reg, W_seq, W_rcond, W_cond, W_block, W_loop, W_exit, W_ret, thenQ_normal, thenQ_exit, thenQ_ret, blockQ_normal, blockQ_ret, blockQ_here, regQ_app, rcQ_app, cndK_t, cndK_f, RegW_nil, RegW_none, RegW_some, contW_app, grdK_tt, grdK_ff, grdK_tf, grdK_ft, grdK_undef, actK_p, actK_r, actK_a, actK_w, actK_call, actK_callV, heapK_app, allocK_app, writeK_app, ret1_ret, ret1_normal, ret0_ret, ret0_normal, ret2_ret2, thenK_app, retcv_ret, retcvK_app, optW_some, evs, Arg.ev, aP, aR, aA, aW, pMov, pBin, pUn, pConv, pPick, pFieldAddr, pNilCheck, pExtract, aBin, aUn, aInt, aNew, partL_f, upd, List.getElem?_cons_zero, List.getElem?_cons_succ, List.getD_cons_zero, List.getD_cons_succ, List.set_cons_zero, List.set_cons_succ, Nat.zero_add, Nat.add_zero, List.getElem?_toArray, List.take_zero, List.drop_zero, List.take_succ_cons, List.drop_succ_cons, if_true, if_false, decide_true, decide_false, Bool.false_eq_true, Bool.true_eq_false, Bool.not_true, Bool.not_false, not_true_eq_false, not_false_eq_true, ge_iff_le, gt_iff_lt, beq_self_eq_true, bne_self_eq_false, and_self, and_true, true_and, Option.isSome_some, Heap.get_alloc_same, Heap.alloc_getE, *] | with_reducible refine cndK_d (fun hc => ?_) (fun hc => ?_) | with_reducible refine grdK_d (fun hc => ?_) (fun hc => ?_) | with_reducible refine cndK_i (fun hc => ?_) (fun hc => ?_) | with_reducible refine grdK_i (fun hc => ?_) (fun hc => ?_))
  refine refWord_c h _ fun h1 l1 => ?_
  have g := hq.h h1 l1
  replace g := Hid.mk g
  clear hq l1
  cases l with
  | nil =>
    obtain ⟨w, hw⟩ : ∃ w, isWord [] = w := ⟨_, rfl⟩
    rw [hw]
    have : isName [] = false := rfl
    rw [this] at g
    repeat' (first | simp -implicitDefEqProofs only [W_skip, W_reg, W_seq, W_rcond, W_cond, W_block, W_loop, W_exit, W_ret, thenQ_normal, thenQ_exit, thenQ_ret, blockQ_normal, blockQ_ret, blockQ_here, regQ_app, rcQ_app, cndK_t, cndK_f, RegW_nil, RegW_none, RegW_some, contW_app, grdK_tt, grdK_ff, grdK_tf, grdK_ft, grdK_undef, actK_p, actK_r, actK_a, actK_w, actK_call, actK_callV, heapK_app, allocK_app, writeK_app, ret1_ret, ret1_normal, ret0_ret, ret0_normal, ret2_ret2, thenK_app, retcv_ret, retcvK_app, optW_some, evs, Arg.ev, aP, aR, aA, aW, pMov, pBin, pUn, pConv, pPick, pFieldAddr, pNilCheck, pExtract, aBin, aUn, aInt, aNew, partL_f, upd, List.getElem?_cons_zero, List.getElem?_cons_succ, List.getD_cons_zero, List.getD_cons_succ, List.set_cons_zero, List.set_cons_succ, Nat.zero_add, Nat.add_zero, List.getElem?_toArray, List.take_zero, List.drop_zero, List.take_succ_cons, List.drop_succ_cons, if_true, if_false, decide_true, decide_false, Bool.false_eq_true, Bool.true_eq_false, Bool.not_true, Bool.not_false, not_true_eq_false, not_false_eq_true, ge_iff_le, gt_iff_lt, beq_self_eq_true, bne_self_eq_false, and_self, and_true, true_and, Option.isSome_some, Heap.get_alloc_same, Heap.alloc_getE, eq_S, *] | with_reducible refine cndK_d (fun hc => ?_) (fun hc => ?_) | with_reducible refine grdK_d (fun hc => ?_) (fun hc => ?_) | with_reducible refine cndK_i (fun hc => ?_) (fun hc => ?_) | with_reducible refine grdK_i (fun hc => ?_) (fun hc => ?_))
    exact g.h
  | cons b r =>
    obtain ⟨l, hl⟩ : ∃ l, b :: r = l := ⟨_, rfl⟩
    have hb : l[0]? = some b := by rw [← hl]; rfl
    have hne : (l == []) = false := by rw [← hl]; rfl
    have hsp : isName l = (decide (l.length ≤ 20) && (runN l == l.length) && decide (57 < (b.toNat : Int)) && !isWord l) := by rw [← hl]; rfl
    have hrun0 : nm b = false → runN l = 0 := fun h => by rw [← hl, runN_cons, h]; rfl
    have hlen : 0 < l.length := by rw [← hl]; simp
    rw [hl] at g ⊢
    clear hl
    have ix := idx_S hb .i64
    rw [Int.ofNat_zero] at ix
    have go : ∀ c, c = isName l → Q (.bool c) h1 := fun c e => by rw [e]; exact g.h
    rw [hsp] at go
    replace go := Hid.mk go
    clear g hsp
    by_cases h20 : 20 < l.length
    · have h20' : (20 : Int) < (l.length : Int) := by omega
      have g := go.h false (by simp; omega)
      replace g := Hid.mk g
      clear h20
      repeat' (first | simp -implicitDefEqProofs only [W_skip, W_reg, W_seq, W_rcond, W_cond, W_block, W_loop, W_exit, W_ret, thenQ_normal, thenQ_exit, thenQ_ret, blockQ_normal, blockQ_ret, blockQ_here, regQ_app, rcQ_app, cndK_t, cndK_f, RegW_nil, RegW_none, RegW_some, contW_app, grdK_tt, grdK_ff, grdK_tf, grdK_ft, grdK_undef, actK_p, actK_r, actK_a, actK_w, actK_call, actK_callV, heapK_app, allocK_app, writeK_app, ret1_ret, ret1_normal, ret0_ret, ret0_normal, ret2_ret2, thenK_app, retcv_ret, retcvK_app, optW_some, evs, Arg.ev, aP, aR, aA, aW, pMov, pBin, pUn, pConv, pPick, pFieldAddr, pNilCheck, pExtract, aBin, aUn, aInt, aNew, partL_f, upd, List.getElem?_cons_zero, List.getElem?_cons_succ, List.getD_cons_zero, List.getD_cons_succ, List.set_cons_zero, List.set_cons_succ, Nat.zero_add, Nat.add_zero, List.getElem?_toArray, List.take_zero, List.drop_zero, List.take_succ_cons, List.drop_succ_cons, if_true, if_false, decide_true, decide_false, Bool.false_eq_true, Bool.true_eq_false, Bool.not_true, Bool.not_false, not_true_eq_false, not_false_eq_true, ge_iff_le, gt_iff_lt, beq_self_eq_true, bne_self_eq_false, and_self, and_true, true_and, Option.isSome_some, Heap.get_alloc_same, Heap.alloc_getE, eq_S, len_S, *] | with_reducible refine cndK_d (fun hc => ?_) (fun hc => ?_) | with_reducible refine grdK_d (fun hc => ?_) (fun hc => ?_) | with_reducible refine cndK_i (fun hc => ?_) (fun hc => ?_) | with_reducible refine grdK_i (fun hc => ?_) (fun hc => ?_))
      exact g.h
    · have h20' : ¬ (20 : Int) < (l.length : Int) := by omega
      repeat' (first | simp -implicitDefEqProofs only [W_skip, W_reg, W_seq, W_rcond, W_cond, W_block, W_loop, W_exit, W_ret, thenQ_normal, thenQ_exit, thenQ_ret, blockQ_normal, blockQ_ret, blockQ_here, regQ_app, rcQ_app, cndK_t, cndK_f, RegW_nil, RegW_none, RegW_some, contW_app, grdK_tt, grdK_ff, grdK_tf, grdK_ft, grdK_undef, actK_p, actK_r, actK_a, actK_w, actK_call, actK_callV, heapK_app, allocK_app, writeK_app, ret1_ret, ret1_normal, ret0_ret, ret0_normal, ret2_ret2, thenK_app, retcv_ret, retcvK_app, optW_some, evs, Arg.ev, aP, aR, aA, aW, pMov, pBin, pUn, pConv, pPick, pFieldAddr, pNilCheck, pExtract, aBin, aUn, aInt, aNew, partL_f, upd, List.getElem?_cons_zero, List.getElem?_cons_succ, List.getD_cons_zero, List.getD_cons_succ, List.set_cons_zero, List.set_cons_succ, Nat.zero_add, Nat.add_zero, List.getElem?_toArray, List.take_zero, List.drop_zero, List.take_succ_cons, List.drop_succ_cons, if_true, if_false, decide_true, decide_false, Bool.false_eq_true, Bool.true_eq_false, Bool.not_true, Bool.not_false, not_true_eq_false, not_false_eq_true, ge_iff_le, gt_iff_lt, beq_self_eq_true, bne_self_eq_false, and_self, and_true, true_and, Option.isSome_some, Heap.get_alloc_same, Heap.alloc_getE, eq_S, len_S, *] | with_reducible refine cndK_d (fun hc => ?_) (fun hc => ?_) | with_reducible refine grdK_d (fun hc => ?_) (fun hc => ?_) | with_reducible refine cndK_i (fun hc => ?_) (fun hc => ?_) | with_reducible refine grdK_i (fun hc => ?_) (fun hc => ?_))
      refine digit_c b h1 _ ?_
      cases hdg : isDg b with
      | true =>
        have g := go.h false (by have := (dg_facts hdg).2.2.2; simp; intro _ _ h; omega)
        replace g := Hid.mk g
        clear h20 hdg
        repeat' (first | simp -implicitDefEqProofs only [W_skip, W_reg, W_seq, W_rcond, W_cond, W_block, W_loop, W_exit, W_ret, thenQ_normal, thenQ_exit, thenQ_ret, blockQ_normal, blockQ_ret, blockQ_here, regQ_app, rcQ_app, cndK_t, cndK_f, RegW_nil, RegW_none, RegW_some, contW_app, grdK_tt, grdK_ff, grdK_tf, grdK_ft, grdK_undef, actK_p, actK_r, actK_a, actK_w, actK_call, actK_callV, heapK_app, allocK_app, writeK_app, ret1_ret, ret1_normal, ret0_ret, ret0_normal, ret2_ret2, thenK_app, retcv_ret, retcvK_app, optW_some, evs, Arg.ev, aP, aR, aA, aW, pMov, pBin, pUn, pConv, pPick, pFieldAddr, pNilCheck, pExtract, aBin, aUn, aInt, aNew, partL_f, upd, List.getElem?_cons_zero, List.getElem?_cons_succ, List.getD_cons_zero, List.getD_cons_succ, List.set_cons_zero, List.set_cons_succ, Nat.zero_add, Nat.add_zero, List.getElem?_toArray, List.take_zero, List.drop_zero, List.take_succ_cons, List.drop_succ_cons, if_true, if_false, decide_true, decide_false, Bool.false_eq_true, Bool.true_eq_false, Bool.not_true, Bool.not_false, not_true_eq_false, not_false_eq_true, ge_iff_le, gt_iff_lt, beq_self_eq_true, bne_self_eq_false, and_self, and_true, true_and, Option.isSome_some, Heap.get_alloc_same, Heap.alloc_getE, eq_S, len_S, *] | with_reducible refine cndK_d (fun hc => ?_) (fun hc => ?_) | with_reducible refine grdK_d (fun hc => ?_) (fun hc => ?_) | with_reducible refine cndK_i (fun hc => ?_) (fun hc => ?_) | with_reducible refine grdK_i (fun hc => ?_) (fun hc => ?_))
        exact g.h
      | false =>
        cases hw : isWord l with
        | true =>
          have g := go.h false (by rw [hw]; simp)
          replace g := Hid.mk g
          clear h20 hdg hw
          repeat' (first | simp -implicitDefEqProofs only [W_skip, W_reg, W_seq, W_rcond, W_cond, W_block, W_loop, W_exit, W_ret, thenQ_normal, thenQ_exit, thenQ_ret, blockQ_normal, blockQ_ret, blockQ_here, regQ_app, rcQ_app, cndK_t, cndK_f, RegW_nil, RegW_none, RegW_some, contW_app, grdK_tt, grdK_ff, grdK_tf, grdK_ft, grdK_undef, actK_p, actK_r, actK_a, actK_w, actK_call, actK_callV, heapK_app, allocK_app, writeK_app, ret1_ret, ret1_normal, ret0_ret, ret0_normal, ret2_ret2, thenK_app, retcv_ret, retcvK_app, optW_some, evs, Arg.ev, aP, aR, aA, aW, pMov, pBin, pUn, pConv, pPick, pFieldAddr, pNilCheck, pExtract, aBin, aUn, aInt, aNew, partL_f, upd, List.getElem?_cons_zero, List.getElem?_cons_succ, List.getD_cons_zero, List.getD_cons_succ, List.set_cons_zero, List.set_cons_succ, Nat.zero_add, Nat.add_zero, List.getElem?_toArray, List.take_zero, List.drop_zero, List.take_succ_cons, List.drop_succ_cons, if_true, if_false, decide_true, decide_false, Bool.false_eq_true, Bool.true_eq_false, Bool.not_true, Bool.not_false, not_true_eq_false, not_false_eq_true, ge_iff_le, gt_iff_lt, beq_self_eq_true, bne_self_eq_false, and_self, and_true, true_and, Option.isSome_some, Heap.get_alloc_same, Heap.alloc_getE, eq_S, len_S, *] | with_reducible refine cndK_d (fun hc => ?_) (fun hc => ?_) | with_reducible refine grdK_d (fun hc => ?_) (fun hc => ?_) | with_reducible refine cndK_i (fun hc => ?_) (fun hc => ?_) | with_reducible refine grdK_i (fun hc => ?_) (fun hc => ?_))
          exact g.h
        | false =>
          -- every byte is looked at
          have g1 := fun (h57 : 57 < (b.toNat : Int)) (hr : runN l = l.length) => go.h true (by rw [hw, hr]; simp; omega)
          have g0 := fun (hr : runN l ≠ l.length) => go.h false (by rw [hw]; simp; intro _ h; exact absurd h hr)
          have h57 : nm b = true → 57 < (b.toNat : Int) := by
            have : ∀ n : Fin 256, isDg (UInt8.ofNat n.val) = false → nm (UInt8.ofNat n.val) = true → 57 < ((UInt8.ofNat n.val).toNat : Int) := by decide +kernel
            have := this ⟨b.toNat, u8_lt b⟩
            simp only [UInt8.ofNat_toNat] at this
            exact this hdg
          replace g1 := Hid.mk g1
          replace g0 := Hid.mk g0
          replace h57 := Hid.mk h57
          replace hrun0 := Hid.mk hrun0
          clear hdg hw
          repeat' (first | simp -implicitDefEqProofs only [W_skip, W_reg, W_seq, W_rcond, W_cond, W_block, W_loop, W_exit, W_ret, thenQ_normal, thenQ_exit, thenQ_ret, blockQ_normal, blockQ_ret, blockQ_here, regQ_app, rcQ_app, cndK_t, cndK_f, RegW_nil, RegW_none, RegW_some, contW_app, grdK_tt, grdK_ff, grdK_tf, grdK_ft, grdK_undef, actK_p, actK_r, actK_a, actK_w, actK_call, actK_callV, heapK_app, allocK_app, writeK_app, ret1_ret, ret1_normal, ret0_ret, ret0_normal, ret2_ret2, thenK_app, retcv_ret, retcvK_app, optW_some, evs, Arg.ev, aP, aR, aA, aW, pMov, pBin, pUn, pConv, pPick, pFieldAddr, pNilCheck, pExtract, aBin, aUn, aInt, aNew, partL_f, upd, List.getElem?_cons_zero, List.getElem?_cons_succ, List.getD_cons_zero, List.getD_cons_succ, List.set_cons_zero, List.set_cons_succ, Nat.zero_add, Nat.add_zero, List.getElem?_toArray, List.take_zero, List.drop_zero, List.take_succ_cons, List.drop_succ_cons, if_true, if_false, decide_true, decide_false, Bool.false_eq_true, Bool.true_eq_false, Bool.not_true, Bool.not_false, not_true_eq_false, not_false_eq_true, ge_iff_le, gt_iff_lt, beq_self_eq_true, bne_self_eq_false, and_self, and_true, true_and, Option.isSome_some, Heap.get_alloc_same, Heap.alloc_getE, eq_S, len_S, *] | with_reducible refine cndK_d (fun hc => ?_) (fun hc => ?_) | with_reducible refine grdK_d (fun hc => ?_) (fun hc => ?_) | with_reducible refine cndK_i (fun hc => ?_) (fun hc => ?_) | with_reducible refine grdK_i (fun hc => ?_) (fun hc => ?_))
          refine LoopW.upto l.length (fun i e h' => h' = h1 ∧ runN (l.take i) = i ∧ ∃ x, e = [str l, .bool false, .bool false, .int .i64 i, x]) ?_ (Nat.zero_le _) ⟨rfl, by simp; rfl, _, rfl⟩
          rintro i _ _ R hi ⟨rfl, hpre, x, rfl⟩ hR
          replace hpre := Hid.mk hpre
          delta c14_l10 c14_r0 c14_r1 c14_r2 c14_r3 c14_r4 c14_r5 c14_r6 c14_r7 c14_r8 c14_r9 c14_r11
          by_cases hlt : i < l.length
          case neg =>
            have hlt' : ¬ (i : Int) < (l.length : Int) := by omega
            have hr : runN l = l.length := by
              have := hpre.h
              rw [List.take_of_length_le (by omega)] at this
              omega
            have hnb : nm b = true := by
              cases hn : nm b with
              | true => rfl
              | false => have := hrun0.h hn; omega
            have g := g1.h (h57.h hnb) hr
            replace g := Hid.mk g
            clear hr hnb
            repeat' (first | simp -implicitDefEqProofs only [W_skip, W_reg, W_seq, W_rcond, W_cond, W_block, W_loop, W_exit, W_ret, thenQ_normal, thenQ_exit, thenQ_ret, blockQ_normal, blockQ_ret, blockQ_here, regQ_app, rcQ_app, cndK_t, cndK_f, RegW_nil, RegW_none, RegW_some, contW_app, grdK_tt, grdK_ff, grdK_tf, grdK_ft, grdK_undef, actK_p, actK_r, actK_a, actK_w, actK_call, actK_callV, heapK_app, allocK_app, writeK_app, ret1_ret, ret1_normal, ret0_ret, ret0_normal, ret2_ret2, thenK_app, retcv_ret, retcvK_app, optW_some, evs, Arg.ev, aP, aR, aA, aW, pMov, pBin, pUn, pConv, pPick, pFieldAddr, pNilCheck, pExtract, aBin, aUn, aInt, aNew, partL_f, upd, List.getElem?_cons_zero, List.getElem?_cons_succ, List.getD_cons_zero, List.getD_cons_succ, List.set_cons_zero, List.set_cons_succ, Nat.zero_add, Nat.add_zero, List.getElem?_toArray, List.take_zero, List.drop_zero, List.take_succ_cons, List.drop_succ_cons, if_true, if_false, decide_true, decide_false, Bool.false_eq_true, Bool.true_eq_false, Bool.not_true, Bool.not_false, not_true_eq_false, not_false_eq_true, ge_iff_le, gt_iff_lt, beq_self_eq_true, bne_self_eq_false, and_self, and_true, true_and, Option.isSome_some, Heap.get_alloc_same, Heap.alloc_getE, len_S, *] | with_reducible refine cndK_d (fun hc => ?_) (fun hc => ?_) | with_reducible refine grdK_d (fun hc => ?_) (fun hc => ?_) | with_reducible refine cndK_i (fun hc => ?_) (fun hc => ?_) | with_reducible refine grdK_i (fun hc => ?_) (fun hc => ?_))
            exact g.h
          case pos =>
            have hlt' : (i : Int) < (l.length : Int) := by omega
            have hwj : IntKind.i64.wrap ((i : Int) + 1) = ((i + 1 : Nat) : Int) := by rw [wrapI (by omega) (by omega)]; rfl
            obtain ⟨c, hc⟩ : ∃ c, l[i]? = some c := ⟨_, List.getElem?_eq_getElem hlt⟩
            obtain ⟨s1, s2⟩ := runN_get hpre.h (by omega) hc
            have ixc := idx_S hc .i64
            have hsp := nm_split c
            rw [hsp] at s1 s2
            replace s1 := Hid.mk s1
            replace s2 := Hid.mk s2
            clear hc hsp
            repeat' (first | simp -implicitDefEqProofs only [W_skip, W_reg, W_seq, W_rcond, W_cond, W_block, W_loop, W_exit, W_ret, thenQ_normal, thenQ_exit, thenQ_ret, blockQ_normal, blockQ_ret, blockQ_here, regQ_app, rcQ_app, cndK_t, cndK_f, RegW_nil, RegW_none, RegW_some, contW_app, grdK_tt, grdK_ff, grdK_tf, grdK_ft, grdK_undef, actK_p, actK_r, actK_a, actK_w, actK_call, actK_callV, heapK_app, allocK_app, writeK_app, ret1_ret, ret1_normal, ret0_ret, ret0_normal, ret2_ret2, thenK_app, retcv_ret, retcvK_app, optW_some, evs, Arg.ev, aP, aR, aA, aW, pMov, pBin, pUn, pConv, pPick, pFieldAddr, pNilCheck, pExtract, aBin, aUn, aInt, aNew, partL_f, upd, List.getElem?_cons_zero, List.getElem?_cons_succ, List.getD_cons_zero, List.getD_cons_succ, List.set_cons_zero, List.set_cons_succ, Nat.zero_add, Nat.add_zero, List.getElem?_toArray, List.take_zero, List.drop_zero, List.take_succ_cons, List.drop_succ_cons, if_true, if_false, decide_true, decide_false, Bool.false_eq_true, Bool.true_eq_false, Bool.not_true, Bool.not_false, not_true_eq_false, not_false_eq_true, ge_iff_le, gt_iff_lt, beq_self_eq_true, bne_self_eq_false, and_self, and_true, true_and, Option.isSome_some, Heap.get_alloc_same, Heap.alloc_getE, len_S, *] | with_reducible refine cndK_d (fun hc => ?_) (fun hc => ?_) | with_reducible refine grdK_d (fun hc => ?_) (fun hc => ?_) | with_reducible refine cndK_i (fun hc => ?_) (fun hc => ?_) | with_reducible refine grdK_i (fun hc => ?_) (fun hc => ?_))
            refine letter_c c _ _ ?_
            cases hlt2 : ltZ c.toNat with
            | true =>
              repeat' (first | simp -implicitDefEqProofs only [W_skip, W_reg, W_seq, W_rcond, W_cond, W_block, W_loop, W_exit, W_ret, thenQ_normal, thenQ_exit, thenQ_ret, blockQ_normal, blockQ_ret, blockQ_here, regQ_app, rcQ_app, cndK_t, cndK_f, RegW_nil, RegW_none, RegW_some, contW_app, grdK_tt, grdK_ff, grdK_tf, grdK_ft, grdK_undef, actK_p, actK_r, actK_a, actK_w, actK_call, actK_callV, heapK_app, allocK_app, writeK_app, ret1_ret, ret1_normal, ret0_ret, ret0_normal, ret2_ret2, thenK_app, retcv_ret, retcvK_app, optW_some, evs, Arg.ev, aP, aR, aA, aW, pMov, pBin, pUn, pConv, pPick, pFieldAddr, pNilCheck, pExtract, aBin, aUn, aInt, aNew, partL_f, upd, List.getElem?_cons_zero, List.getElem?_cons_succ, List.getD_cons_zero, List.getD_cons_succ, List.set_cons_zero, List.set_cons_succ, Nat.zero_add, Nat.add_zero, List.getElem?_toArray, List.take_zero, List.drop_zero, List.take_succ_cons, List.drop_succ_cons, if_true, if_false, decide_true, decide_false, Bool.false_eq_true, Bool.true_eq_false, Bool.not_true, Bool.not_false, not_true_eq_false, not_false_eq_true, ge_iff_le, gt_iff_lt, beq_self_eq_true, bne_self_eq_false, and_self, and_true, true_and, Option.isSome_some, Heap.get_alloc_same, Heap.alloc_getE, len_S, *] | with_reducible refine cndK_d (fun hc => ?_) (fun hc => ?_) | with_reducible refine grdK_d (fun hc => ?_) (fun hc => ?_) | with_reducible refine cndK_i (fun hc => ?_) (fun hc => ?_) | with_reducible refine grdK_i (fun hc => ?_) (fun hc => ?_))
              exact hR.h _ _ hlt ⟨rfl, s1.h (by rw [hlt2]; rfl), _, rfl⟩
            | false =>
              repeat' (first | simp -implicitDefEqProofs only [W_skip, W_reg, W_seq, W_rcond, W_cond, W_block, W_loop, W_exit, W_ret, thenQ_normal, thenQ_exit, thenQ_ret, blockQ_normal, blockQ_ret, blockQ_here, regQ_app, rcQ_app, cndK_t, cndK_f, RegW_nil, RegW_none, RegW_some, contW_app, grdK_tt, grdK_ff, grdK_tf, grdK_ft, grdK_undef, actK_p, actK_r, actK_a, actK_w, actK_call, actK_callV, heapK_app, allocK_app, writeK_app, ret1_ret, ret1_normal, ret0_ret, ret0_normal, ret2_ret2, thenK_app, retcv_ret, retcvK_app, optW_some, evs, Arg.ev, aP, aR, aA, aW, pMov, pBin, pUn, pConv, pPick, pFieldAddr, pNilCheck, pExtract, aBin, aUn, aInt, aNew, partL_f, upd, List.getElem?_cons_zero, List.getElem?_cons_succ, List.getD_cons_zero, List.getD_cons_succ, List.set_cons_zero, List.set_cons_succ, Nat.zero_add, Nat.add_zero, List.getElem?_toArray, List.take_zero, List.drop_zero, List.take_succ_cons, List.drop_succ_cons, if_true, if_false, decide_true, decide_false, Bool.false_eq_true, Bool.true_eq_false, Bool.not_true, Bool.not_false, not_true_eq_false, not_false_eq_true, ge_iff_le, gt_iff_lt, beq_self_eq_true, bne_self_eq_false, and_self, and_true, true_and, Option.isSome_some, Heap.get_alloc_same, Heap.alloc_getE, len_S, *] | with_reducible refine cndK_d (fun hc => ?_) (fun hc => ?_) | with_reducible refine grdK_d (fun hc => ?_) (fun hc => ?_) | with_reducible refine cndK_i (fun hc => ?_) (fun hc => ?_) | with_reducible refine grdK_i (fun hc => ?_) (fun hc => ?_))
              refine digit_c c _ _ ?_
              cases hdg : isDg c with
              | true =>
                repeat' (first | simp -implicitDefEqProofs only [W_skip, W_reg, W_seq, W_rcond, W_cond, W_block, W_loop, W_exit, W_ret, thenQ_normal, thenQ_exit, thenQ_ret, blockQ_normal, blockQ_ret, blockQ_here, regQ_app, rcQ_app, cndK_t, cndK_f, RegW_nil, RegW_none, RegW_some, contW_app, grdK_tt, grdK_ff, grdK_tf, grdK_ft, grdK_undef, actK_p, actK_r, actK_a, actK_w, actK_call, actK_callV, heapK_app, allocK_app, writeK_app, ret1_ret, ret1_normal, ret0_ret, ret0_normal, ret2_ret2, thenK_app, retcv_ret, retcvK_app, optW_some, evs, Arg.ev, aP, aR, aA, aW, pMov, pBin, pUn, pConv, pPick, pFieldAddr, pNilCheck, pExtract, aBin, aUn, aInt, aNew, partL_f, upd, List.getElem?_cons_zero, List.getElem?_cons_succ, List.getD_cons_zero, List.getD_cons_succ, List.set_cons_zero, List.set_cons_succ, Nat.zero_add, Nat.add_zero, List.getElem?_toArray, List.take_zero, List.drop_zero, List.take_succ_cons, List.drop_succ_cons, if_true, if_false, decide_true, decide_false, Bool.false_eq_true, Bool.true_eq_false, Bool.not_true, Bool.not_false, not_true_eq_false, not_false_eq_true, ge_iff_le, gt_iff_lt, beq_self_eq_true, bne_self_eq_false, and_self, and_true, true_and, Option.isSome_some, Heap.get_alloc_same, Heap.alloc_getE, len_S, *] | with_reducible refine cndK_d (fun hc => ?_) (fun hc => ?_) | with_reducible refine grdK_d (fun hc => ?_) (fun hc => ?_) | with_reducible refine cndK_i (fun hc => ?_) (fun hc => ?_) | with_reducible refine grdK_i (fun hc => ?_) (fun hc => ?_))
                exact hR.h _ _ hlt ⟨rfl, s1.h (by rw [hlt2, hdg]; rfl), _, rfl⟩
              | false =>
                have g := g0.h (by rw [s2.h (by rw [hlt2, hdg]; rfl)]; omega)
                replace g := Hid.mk g
                repeat' (first | simp -implicitDefEqProofs only [W_skip, W_reg, W_seq, W_rcond, W_cond, W_block, W_loop, W_exit, W_ret, thenQ_normal, thenQ_exit, thenQ_ret, blockQ_normal, blockQ_ret, blockQ_here, regQ_app, rcQ_app, cndK_t, cndK_f, RegW_nil, RegW_none, RegW_some, contW_app, grdK_tt, grdK_ff, grdK_tf, grdK_ft, grdK_undef, actK_p, actK_r, actK_a, actK_w, actK_call, actK_callV, heapK_app, allocK_app, writeK_app, ret1_ret, ret1_normal, ret0_ret, ret0_normal, ret2_ret2, thenK_app, retcv_ret, retcvK_app, optW_some, evs, Arg.ev, aP, aR, aA, aW, pMov, pBin, pUn, pConv, pPick, pFieldAddr, pNilCheck, pExtract, aBin, aUn, aInt, aNew, partL_f, upd, List.getElem?_cons_zero, List.getElem?_cons_succ, List.getD_cons_zero, List.getD_cons_succ, List.set_cons_zero, List.set_cons_succ, Nat.zero_add, Nat.add_zero, List.getElem?_toArray, List.take_zero, List.drop_zero, List.take_succ_cons, List.drop_succ_cons, if_true, if_false, decide_true, decide_false, Bool.false_eq_true, Bool.true_eq_false, Bool.not_true, Bool.not_false, not_true_eq_false, not_false_eq_true, ge_iff_le, gt_iff_lt, beq_self_eq_true, bne_self_eq_false, and_self, and_true, true_and, Option.isSome_some, Heap.get_alloc_same, Heap.alloc_getE, len_S, *] | with_reducible refine cndK_d (fun hc => ?_) (fun hc => ?_) | with_reducible refine grdK_d (fun hc => ?_) (fun hc => ?_) | with_reducible refine cndK_i (fun hc => ?_) (fun hc => ?_) | with_reducible refine grdK_i (fun hc => ?_) (fun hc => ?_))
                exact g.h
end Go.Eng.Tk

set_option linter.unusedSimpArgs false
set_option linter.unusedVariables false
namespace Go.Eng.Tk
open Go Go.Eng Go.Proofs

theorem valN_app (base : Nat) : ∀ (a b : List UInt8) (n : Nat), valN base (a ++ b) n = (valN base a n).bind (valN base b)
  | [], b, n => rfl
  | x :: a, b, n => by
    rw [List.cons_append]
    unfold valN
    cases dgv base x with
    | none => rfl
    | some d => exact valN_app base a b _
def optZ : Option Nat → Int | some n => n | none => -1
theorem refValue_c {base : Nat} (hb : base = 10 ∨ base = 16) {l : List UInt8} (hl : l.length ≤ 10) (h : Heap) (Q : Value → Heap → Prop) (hq : Q (.int .i64 (optZ (valN base l 0))) h) : CallW Tryd.prog 42 [str l, .int .i64 base] h Q := by
  refine call_of1 (k := 2) ok42 rfl rfl rfl fun N => ?_
  rw [show env0 c42 [str l, .int .i64 base] = [str l, .int .i64 base, undef, undef, undef, undef] from rfl]
  delta c42 c42_r0 c42_r1 c42_r2 c42_r3 c42_r4 c42_r5 c42_r6 c42_r7 c42_r8 c42_r9 c42_r10 c42_r11 c42_r12 c42_r14
  replace hq := Hid.mk hq
  have hb16 : base ≤ 16 := by omega
  obtain ⟨c16, hc16⟩ : ∃ c, ((base : Int) == 16) = c := ⟨_, rfl⟩
  have hbc : (c16 = true ↔ base = 16) := by rw [← hc16]; simp; omega
  repeat' (first | simp -implicitDefEqProofs only [W_skip, W_reg, W_seq, W_rcond, W_cond, W_block, W_loop, W_exit, W_ret, thenQ_normal, thenQ_exit, thenQ_ret, blockQ_normal, blockQ_ret, blockQ_here, regQ_app, rcQ_app, cndK_t, cndK_f, RegW_nil, RegW_none, RegW_some, contW_app, grdK_tt, grdK_ff, grdK_tf, grdK_ft, grdK_undef, actK_p, actK_r, actK_a, actK_w, actK_call, actK_callV, heapK_app, allocK_app, writeK_app, ret1_ret, ret1_normal, ret0_ret, ret0_normal, ret2_ret2, thenK_app, retcv_ret, retcvK_app, optW_some, evs, Arg.ev, aP, aR, aA, aW, pMov, pBin, pUn, pConv, pPick, pFieldAddr, pNilCheck, pExtract, aBin, aUn, aInt, aNew, partL_f, upd, List.getElem?_cons_zero, List.getElem?_cons_succ, List.getD_cons_zero, List.getD_cons_succ, List.set_cons_zero, List.set_cons_succ, Nat.zero_add, Nat.add_zero, List.getElem?_toArray, List.take_zero, List.drop_zero, List.take_succ_cons, List.drop_succ_cons, if_true, if_false, decide_true, decide_false, Bool.false_eq_true, Bool.true_eq_false, Bool.not_true, Bool.not_false, not_true_eq_false, not_false_eq_true, ge_iff_le, gt_iff_lt, beq_self_eq_true, bne_self_eq_false, and_self, and_true, true_and, Option.isSome_some, Heap.get_alloc_same, Heap.alloc_getE, *] | with_reducible refine cndK_d (fun hc => ?_) (fun hc => ?_) | with_reducible refine grdK_d (fun hc => ?_) (fun hc => ?_) | with_reducible refine cndK_i (fun hc => ?_) (fun hc => ?_) | with_reducible refine grdK_i (fun hc => ?_) (fun hc => ?_))
  refine LoopW.upto l.length (fun i e h' => h' = h ∧ ∃ n x, valN base l 0 = valN base (l.drop i) n ∧ n < 16 ^ i ∧ e = [str l, .int .i64 base, .int .i64 0, .int .i64 (n : Nat), .int .i64 i, x]) ?_ (Nat.zero_le _) ⟨rfl, 0, _, rfl, by simp, rfl⟩
  rintro i _ h2 R hi ⟨rfl, n, x, hv, hn, rfl⟩ hR
  replace hv := Hid.mk hv
  delta c42_l13 c42_r0 c42_r1 c42_r2 c42_r3 c42_r4 c42_r5 c42_r6 c42_r7 c42_r8 c42_r9 c42_r10 c42_r11 c42_r12 c42_r14
  by_cases hlt : i < l.length
  case neg =>
    have hlt' : ¬ (i : Int) < (l.length : Int) := by omega
    have g := hq.h
    rw [hv.h, List.drop_of_length_le (by omega)] at g
    have g : Q (.int .i64 (n : Int)) _ := g
    replace g := Hid.mk g
    clear hn
    repeat' (first | simp -implicitDefEqProofs only [W_skip, W_reg, W_seq, W_rcond, W_cond, W_block, W_loop, W_exit, W_ret, thenQ_normal, thenQ_exit, thenQ_ret, blockQ_normal, blockQ_ret, blockQ_here, regQ_app, rcQ_app, cndK_t, cndK_f, RegW_nil, RegW_none, RegW_some, contW_app, grdK_tt, grdK_ff, grdK_tf, grdK_ft, grdK_undef, actK_p, actK_r, actK_a, actK_w, actK_call, actK_callV, heapK_app, allocK_app, writeK_app, ret1_ret, ret1_normal, ret0_ret, ret0_normal, ret2_ret2, thenK_app, retcv_ret, retcvK_app, optW_some, evs, Arg.ev, aP, aR, aA, aW, pMov, pBin, pUn, pConv, pPick, pFieldAddr, pNilCheck, pExtract, aBin, aUn, aInt, aNew, partL_f, upd, List.getElem?_cons_zero, List.getElem?_cons_succ, List.getD_cons_zero, List.getD_cons_succ, List.set_cons_zero, List.set_cons_succ, Nat.zero_add, Nat.add_zero, List.getElem?_toArray, List.take_zero, List.drop_zero, List.take_succ_cons, List.drop_succ_cons, if_true, if_false, decide_true, decide_false, Bool.false_eq_true, Bool.true_eq_false, Bool.not_true, Bool.not_false, not_true_eq_false, not_false_eq_true, ge_iff_le, gt_iff_lt, beq_self_eq_true, bne_self_eq_false, and_self, and_true, true_and, Option.isSome_some, Heap.get_alloc_same, Heap.alloc_getE, len_S, *] | with_reducible refine cndK_d (fun hc => ?_) (fun hc => ?_) | with_reducible refine grdK_d (fun hc => ?_) (fun hc => ?_) | with_reducible refine cndK_i (fun hc => ?_) (fun hc => ?_) | with_reducible refine grdK_i (fun hc => ?_) (fun hc => ?_))
    exact g.h
  case pos =>
    have hlt' : (i : Int) < (l.length : Int) := by omega
    have hwj : IntKind.i64.wrap ((i : Int) + 1) = ((i + 1 : Nat) : Int) := by rw [wrapI (by omega) (by omega)]; rfl
    obtain ⟨b, hbb⟩ : ∃ b, l[i]? = some b := ⟨_, List.getElem?_eq_getElem hlt⟩
    have hdr : l.drop i = b :: l.drop (i + 1) := by
      rw [List.drop_eq_getElem_cons hlt]
      congr 1
      exact (List.getElem?_eq_some_iff.1 hbb).2
    have ix := idx_S hbb .i64
    have hbl := u8_lt b
    have hp : 16 ^ i ≤ 16 ^ 9 := Nat.pow_le_pow_right (by omega) (by omega)
    have hp2 : 16 ^ (i + 1) = 16 ^ i * 16 := Nat.pow_succ ..
    have hnum : (16 : Nat) ^ 9 = 68719476736 := by decide
    -- the number's next
    have nx : ∀ d, dgv base b = some d → d < 16 → ∀ x, IntKind.i64.wrap ((base : Int) * (n : Int)) = ((base * n : Nat) : Int) ∧ IntKind.i64.wrap (((base * n : Nat) : Int) + (d : Int)) = ((base * n + d : Nat) : Int) ∧ R [str l, .int .i64 base, .int .i64 0, .int .i64 ((base * n + d : Nat) : Int), .int .i64 ((i + 1 : Nat) : Int), x] h2 := by
      intro d hd hd16 x
      have h1 : base * n ≤ 16 * n := Nat.mul_le_mul_right _ hb16
      refine ⟨by rw [← Int.natCast_mul]; exact wrapI (by omega) (by omega), by rw [← Int.natCast_add]; exact wrapI (by omega) (by omega), ?_⟩
      refine hR.h _ _ hlt ⟨rfl, base * n + d, x, ?_, by omega, rfl⟩
      rw [hv.h, hdr]
      simp only [valN, hd]
    have bad : dgv base b = none → Q (.int .i64 (-1)) h2 := by
      intro hd
      have g := hq.h
      rw [hv.h, hdr] at g
      simp only [valN, hd] at g
      exact g
    replace nx := Hid.mk nx
    replace bad := Hid.mk bad
    replace hdr := Hid.mk hdr
    clear hp hp2 hnum hn hbb
    have e1 : ((-1 : Int) < 0) = True := by simp
    repeat' (first | simp -implicitDefEqProofs only [W_skip, W_reg, W_seq, W_rcond, W_cond, W_block, W_loop, W_exit, W_ret, thenQ_normal, thenQ_exit, thenQ_ret, blockQ_normal, blockQ_ret, blockQ_here, regQ_app, rcQ_app, cndK_t, cndK_f, RegW_nil, RegW_none, RegW_some, contW_app, grdK_tt, grdK_ff, grdK_tf, grdK_ft, grdK_undef, actK_p, actK_r, actK_a, actK_w, actK_call, actK_callV, heapK_app, allocK_app, writeK_app, ret1_ret, ret1_normal, ret0_ret, ret0_normal, ret2_ret2, thenK_app, retcv_ret, retcvK_app, optW_some, evs, Arg.ev, aP, aR, aA, aW, pMov, pBin, pUn, pConv, pPick, pFieldAddr, pNilCheck, pExtract, aBin, aUn, aInt, aNew, partL_f, upd, List.getElem?_cons_zero, List.getElem?_cons_succ, List.getD_cons_zero, List.getD_cons_succ, List.set_cons_zero, List.set_cons_succ, Nat.zero_add, Nat.add_zero, List.getElem?_toArray, List.take_zero, List.drop_zero, List.take_succ_cons, List.drop_succ_cons, if_true, if_false, decide_true, decide_false, Bool.false_eq_true, Bool.true_eq_false, Bool.not_true, Bool.not_false, not_true_eq_false, not_false_eq_true, ge_iff_le, gt_iff_lt, beq_self_eq_true, bne_self_eq_false, and_self, and_true, true_and, Option.isSome_some, Heap.get_alloc_same, Heap.alloc_getE, len_S, *] | with_reducible refine cndK_d (fun hc => ?_) (fun hc => ?_) | with_reducible refine grdK_d (fun hc => ?_) (fun hc => ?_) | with_reducible refine cndK_i (fun hc => ?_) (fun hc => ?_) | with_reducible refine grdK_i (fun hc => ?_) (fun hc => ?_))
    refine digit_c b _ _ ?_
    cases hdg : isDg b with
    | true =>
      have hdz : 48 ≤ b.toNat ∧ b.toNat ≤ 57 := by unfold isDg at hdg; simpa using hdg
      have hdv : dgv base b = some (b.toNat - 48) := by unfold dgv; rw [hdg]; rfl
      obtain ⟨w1, w2, _⟩ := nx.h _ hdv (by omega) undef
      have r := fun x => (nx.h _ hdv (by omega) x).2.2
      obtain ⟨d, hd⟩ : ∃ d, b.toNat - 48 = d := ⟨_, rfl⟩
      rw [hd] at w2 r
      have s1 : IntKind.u8.wrap ((b.toNat : Int) - 48) = (d : Int) := by rw [wrap8 (by omega) (by omega)]; omega
      have s2 : IntKind.i64.wrap (d : Int) = (d : Int) := wrapI (by omega) (by omega)
      have s3 : ¬ (d : Int) < 0 := by omega
      have s4 : ¬ (97 : Int) ≤ (b.toNat : Int) := by omega
      replace r := Hid.mk r
      clear hdz hdv hdg hd hbc
      cases c16
      all_goals
        repeat' (first | simp -implicitDefEqProofs only [W_skip, W_reg, W_seq, W_rcond, W_cond, W_block, W_loop, W_exit, W_ret, thenQ_normal, thenQ_exit, thenQ_ret, blockQ_normal, blockQ_ret, blockQ_here, regQ_app, rcQ_app, cndK_t, cndK_f, RegW_nil, RegW_none, RegW_some, contW_app, grdK_tt, grdK_ff, grdK_tf, grdK_ft, grdK_undef, actK_p, actK_r, actK_a, actK_w, actK_call, actK_callV, heapK_app, allocK_app, writeK_app, ret1_ret, ret1_normal, ret0_ret, ret0_normal, ret2_ret2, thenK_app, retcv_ret, retcvK_app, optW_some, evs, Arg.ev, aP, aR, aA, aW, pMov, pBin, pUn, pConv, pPick, pFieldAddr, pNilCheck, pExtract, aBin, aUn, aInt, aNew, partL_f, upd, List.getElem?_cons_zero, List.getElem?_cons_succ, List.getD_cons_zero, List.getD_cons_succ, List.set_cons_zero, List.set_cons_succ, Nat.zero_add, Nat.add_zero, List.getElem?_toArray, List.take_zero, List.drop_zero, List.take_succ_cons, List.drop_succ_cons, if_true, if_false, decide_true, decide_false, Bool.false_eq_true, Bool.true_eq_false, Bool.not_true, Bool.not_false, not_true_eq_false, not_false_eq_true, ge_iff_le, gt_iff_lt, beq_self_eq_true, bne_self_eq_false, and_self, and_true, true_and, Option.isSome_some, Heap.get_alloc_same, Heap.alloc_getE, len_S, *] | with_reducible refine cndK_d (fun hc => ?_) (fun hc => ?_) | with_reducible refine grdK_d (fun hc => ?_) (fun hc => ?_) | with_reducible refine cndK_i (fun hc => ?_) (fun hc => ?_) | with_reducible refine grdK_i (fun hc => ?_) (fun hc => ?_))
        exact r.h _
    | false =>
      cases c16 with
      | false =>
        have hdv : dgv base b = none := by
          unfold dgv
          rw [hdg, if_neg (by simp), if_neg]
          rintro ⟨h1, _⟩
          exact absurd (hbc.2 h1) (by simp)
        have g := bad.h hdv
        replace g := Hid.mk g
        clear hdv hdg hbc
        repeat' (first | simp -implicitDefEqProofs only [W_skip, W_reg, W_seq, W_rcond, W_cond, W_block, W_loop, W_exit, W_ret, thenQ_normal, thenQ_exit, thenQ_ret, blockQ_normal, blockQ_ret, blockQ_here, regQ_app, rcQ_app, cndK_t, cndK_f, RegW_nil, RegW_none, RegW_some, contW_app, grdK_tt, grdK_ff, grdK_tf, grdK_ft, grdK_undef, actK_p, actK_r, actK_a, actK_w, actK_call, actK_callV, heapK_app, allocK_app, writeK_app, ret1_ret, ret1_normal, ret0_ret, ret0_normal, ret2_ret2, thenK_app, retcv_ret, retcvK_app, optW_some, evs, Arg.ev, aP, aR, aA, aW, pMov, pBin, pUn, pConv, pPick, pFieldAddr, pNilCheck, pExtract, aBin, aUn, aInt, aNew, partL_f, upd, List.getElem?_cons_zero, List.getElem?_cons_succ, List.getD_cons_zero, List.getD_cons_succ, List.set_cons_zero, List.set_cons_succ, Nat.zero_add, Nat.add_zero, List.getElem?_toArray, List.take_zero, List.drop_zero, List.take_succ_cons, List.drop_succ_cons, if_true, if_false, decide_true, decide_false, Bool.false_eq_true, Bool.true_eq_false, Bool.not_true, Bool.not_false, not_true_eq_false, not_false_eq_true, ge_iff_le, gt_iff_lt, beq_self_eq_true, bne_self_eq_false, and_self, and_true, true_and, Option.isSome_some, Heap.get_alloc_same, Heap.alloc_getE, len_S, *] | with_reducible refine cndK_d (fun hc => ?_) (fun hc => ?_) | with_reducible refine grdK_d (fun hc => ?_) (fun hc => ?_) | with_reducible refine cndK_i (fun hc => ?_) (fun hc => ?_) | with_reducible refine grdK_i (fun hc => ?_) (fun hc => ?_))
        exact g.h
      | true =>
        have hb16' := hbc.1 rfl
        by_cases h97 : 97 ≤ b.toNat
        · have h97' : (97 : Int) ≤ (b.toNat : Int) := by omega
          by_cases h102 : b.toNat ≤ 102
          · have h102' : (b.toNat : Int) ≤ 102 := by omega
            have hdv : dgv base b = some (b.toNat - 87) := by unfold dgv; rw [hdg, if_neg (by simp), if_pos ⟨hb16', h97, h102⟩]
            obtain ⟨w1, w2, _⟩ := nx.h _ hdv (by omega) undef
            have r := fun x => (nx.h _ hdv (by omega) x).2.2
            obtain ⟨d, hd⟩ : ∃ d, b.toNat - 87 = d := ⟨_, rfl⟩
            rw [hd] at w2 r
            have s1 : IntKind.u8.wrap ((b.toNat : Int) - 97) = (b.toNat : Int) - 97 := wrap8 (by omega) (by omega)
            have s2 : IntKind.i64.wrap ((b.toNat : Int) - 97) = (b.toNat : Int) - 97 := wrapI (by omega) (by omega)
            have s2' : IntKind.i64.wrap ((b.toNat : Int) - 97 + 10) = (d : Int) := by rw [wrapI (by omega) (by omega)]; omega
            have s3 : ¬ (d : Int) < 0 := by omega
            replace r := Hid.mk r
            clear hdv hdg hd hbc h97 h102 hb16' hb
            repeat' (first | simp -implicitDefEqProofs only [W_skip, W_reg, W_seq, W_rcond, W_cond, W_block, W_loop, W_exit, W_ret, thenQ_normal, thenQ_exit, thenQ_ret, blockQ_normal, blockQ_ret, blockQ_here, regQ_app, rcQ_app, cndK_t, cndK_f, RegW_nil, RegW_none, RegW_some, contW_app, grdK_tt, grdK_ff, grdK_tf, grdK_ft, grdK_undef, actK_p, actK_r, actK_a, actK_w, actK_call, actK_callV, heapK_app, allocK_app, writeK_app, ret1_ret, ret1_normal, ret0_ret, ret0_normal, ret2_ret2, thenK_app, retcv_ret, retcvK_app, optW_some, evs, Arg.ev, aP, aR, aA, aW, pMov, pBin, pUn, pConv, pPick, pFieldAddr, pNilCheck, pExtract, aBin, aUn, aInt, aNew, partL_f, upd, List.getElem?_cons_zero, List.getElem?_cons_succ, List.getD_cons_zero, List.getD_cons_succ, List.set_cons_zero, List.set_cons_succ, Nat.zero_add, Nat.add_zero, List.getElem?_toArray, List.take_zero, List.drop_zero, List.take_succ_cons, List.drop_succ_cons, if_true, if_false, decide_true, decide_false, Bool.false_eq_true, Bool.true_eq_false, Bool.not_true, Bool.not_false, not_true_eq_false, not_false_eq_true, ge_iff_le, gt_iff_lt, beq_self_eq_true, bne_self_eq_false, and_self, and_true, true_and, Option.isSome_some, Heap.get_alloc_same, Heap.alloc_getE, len_S, *] | with_reducible refine cndK_d (fun hc => ?_) (fun hc => ?_) | with_reducible refine grdK_d (fun hc => ?_) (fun hc => ?_) | with_reducible refine cndK_i (fun hc => ?_) (fun hc => ?_) | with_reducible refine grdK_i (fun hc => ?_) (fun hc => ?_))
            exact r.h _
          · have h102' : ¬ (b.toNat : Int) ≤ 102 := by omega
            have hdv : dgv base b = none := by unfold dgv; rw [hdg, if_neg (by simp), if_neg (by omega)]
            have g := bad.h hdv
            replace g := Hid.mk g
            clear hdv hdg hbc h97 h102 hb16' hb
            repeat' (first | simp -implicitDefEqProofs only [W_skip, W_reg, W_seq, W_rcond, W_cond, W_block, W_loop, W_exit, W_ret, thenQ_normal, thenQ_exit, thenQ_ret, blockQ_normal, blockQ_ret, blockQ_here, regQ_app, rcQ_app, cndK_t, cndK_f, RegW_nil, RegW_none, RegW_some, contW_app, grdK_tt, grdK_ff, grdK_tf, grdK_ft, grdK_undef, actK_p, actK_r, actK_a, actK_w, actK_call, actK_callV, heapK_app, allocK_app, writeK_app, ret1_ret, ret1_normal, ret0_ret, ret0_normal, ret2_ret2, thenK_app, retcv_ret, retcvK_app, optW_some, evs, Arg.ev, aP, aR, aA, aW, pMov, pBin, pUn, pConv, pPick, pFieldAddr, pNilCheck, pExtract, aBin, aUn, aInt, aNew, partL_f, upd, List.getElem?_cons_zero, List.getElem?_cons_succ, List.getD_cons_zero, List.getD_cons_succ, List.set_cons_zero, List.set_cons_succ, Nat.zero_add, Nat.add_zero, List.getElem?_toArray, List.take_zero, List.drop_zero, List.take_succ_cons, List.drop_succ_cons, if_true, if_false, decide_true, decide_false, Bool.false_eq_true, Bool.true_eq_false, Bool.not_true, Bool.not_false, not_true_eq_false, not_false_eq_true, ge_iff_le, gt_iff_lt, beq_self_eq_true, bne_self_eq_false, and_self, and_true, true_and, Option.isSome_some, Heap.get_alloc_same, Heap.alloc_getE, len_S, *] | with_reducible refine cndK_d (fun hc => ?_) (fun hc => ?_) | with_reducible refine grdK_d (fun hc => ?_) (fun hc => ?_) | with_reducible refine cndK_i (fun hc => ?_) (fun hc => ?_) | with_reducible refine grdK_i (fun hc => ?_) (fun hc => ?_))
            exact g.h
        · have h97' : ¬ (97 : Int) ≤ (b.toNat : Int) := by omega
          have hdv : dgv base b = none := by unfold dgv; rw [hdg, if_neg (by simp), if_neg (by omega)]
          have g := bad.h hdv
          replace g := Hid.mk g
          clear hdv hdg hbc h97 hb16' hb
          repeat' (first | simp -implicitDefEqProofs only [W_skip, W_reg, W_seq, W_rcond, W_cond, W_block, W_loop, W_exit, W_ret, thenQ_normal, thenQ_exit, thenQ_ret, blockQ_normal, blockQ_ret, blockQ_here, regQ_app, rcQ_app, cndK_t, cndK_f, RegW_nil, RegW_none, RegW_some, contW_app, grdK_tt, grdK_ff, grdK_tf, grdK_ft, grdK_undef, actK_p, actK_r, actK_a, actK_w, actK_call, actK_callV, heapK_app, allocK_app, writeK_app, ret1_ret, ret1_normal, ret0_ret, ret0_normal, ret2_ret2, thenK_app, retcv_ret, retcvK_app, optW_some, evs, Arg.ev, aP, aR, aA, aW, pMov, pBin, pUn, pConv, pPick, pFieldAddr, pNilCheck, pExtract, aBin, aUn, aInt, aNew, partL_f, upd, List.getElem?_cons_zero, List.getElem?_cons_succ, List.getD_cons_zero, List.getD_cons_succ, List.set_cons_zero, List.set_cons_succ, Nat.zero_add, Nat.add_zero, List.getElem?_toArray, List.take_zero, List.drop_zero, List.take_succ_cons, List.drop_succ_cons, if_true, if_false, decide_true, decide_false, Bool.false_eq_true, Bool.true_eq_false, Bool.not_true, Bool.not_false, not_true_eq_false, not_false_eq_true, ge_iff_le, gt_iff_lt, beq_self_eq_true, bne_self_eq_false, and_self, and_true, true_and, Option.isSome_some, Heap.get_alloc_same, Heap.alloc_getE, len_S, *] | with_reducible refine cndK_d (fun hc => ?_) (fun hc => ?_) | with_reducible refine grdK_d (fun hc => ?_) (fun hc => ?_) | with_reducible refine cndK_i (fun hc => ?_) (fun hc => ?_) | with_reducible refine grdK_i (fun hc => ?_) (fun hc => ?_))
          exact g.h
end Go.Eng.Tk

set_option linter.unusedSimpArgs false
set_option linter.unusedVariables false
namespace Go.Eng.Tk
open Go Go.Eng Go.Proofs

theorem refNumber_c {l : List UInt8} (h : Heap) (Q : Value → Heap → Prop) (hq : Q (.tuple #[.int .i64 ((number l).getD 0), .bool (number l).isSome]) h) : CallW Tryd.prog 22 [str l] h Q := by
  rw [number_ref] at hq
  have hdef : refN l = (if 2 < l.length ∧ l.length ≤ 10 ∧ l.take 2 = [48, 120] then valN 16 (l.drop 2) 0
    else if l.length = 1 ∨ (1 < l.length ∧ l.length ≤ 10 ∧ l.head? ≠ some 48) then valN 10 l 0 else none).bind fun n => if n < 4294967296 then some n else none := rfl
  refine call_of2 (k := 1) (j := 2) ok22 rfl rfl rfl fun N => ?_
  rw [show env0 c22 [str l] = [str l, undef, undef, undef] from rfl]
  delta c22 c22_r0 c22_r1 c22_r2 c22_r3 c22_r4 c22_r5 c22_r6 c22_r7 c22_r8
  replace hq := Hid.mk hq
  -- what is behind the two readings
  have tail : ∀ v : Option Nat, refN l = (v.bind fun n => if n < 4294967296 then some n else none) → (optZ v < 0 → Q (.tuple #[.int .i64 0, .bool false]) h) ∧ (¬ optZ v < 0 → 4294967296 ≤ optZ v → Q (.tuple #[.int .i64 0, .bool false]) h) ∧ (¬ optZ v < 0 → ¬ 4294967296 ≤ optZ v → Q (.tuple #[.int .i64 (optZ v), .bool true]) h) := by
    intro v hv
    have g := hq.h
    cases v with
    | none => rw [hv] at g; exact ⟨fun _ => g, fun h => absurd (by decide) h, fun h => absurd (by decide) h⟩
    | some n =>
      rw [hv] at g
      refine ⟨fun h => ?_, fun _ h => ?_, fun _ h => ?_⟩
      · simp only [optZ] at h; omega
      · simp only [optZ] at h
        simp only [Option.bind_some] at g
        rw [if_neg (by omega)] at g
        exact g
      · simp only [optZ] at h ⊢
        simp only [Option.bind_some] at g
        rw [if_pos (by omega)] at g
        exact g
  replace tail := Hid.mk tail
  replace hdef := Hid.mk hdef
  clear hq
  have nn : ((-1 : Int) < 0) = True := by simp
  -- the first way: 0x
  have first : (2 < l.length ∧ l.length ≤ 10 ∧ l.take 2 = [48, 120]) ∨ ¬ (2 < l.length ∧ l.length ≤ 10 ∧ l.take 2 = [48, 120]) := Classical.em _
  rcases first with hf | hf
  · obtain ⟨f1, f2, f3⟩ := hf
    have hd := hdef.h
    rw [if_pos ⟨f1, f2, f3⟩] at hd
    obtain ⟨t1, t2, t3⟩ := tail.h _ hd
    obtain ⟨z, hz⟩ : ∃ z, optZ (valN 16 (l.drop 2) 0) = z := ⟨_, rfl⟩
    rw [hz] at t1 t2 t3
    replace t1 := Hid.mk t1
    replace t2 := Hid.mk t2
    replace t3 := Hid.mk t3
    have g1 : (2 : Int) < (l.length : Int) := by omega
    have g2 : (l.length : Int) ≤ 10 := by omega
    have ct : pSliceStr false true [.string ⟨l.toArray⟩, .int .i64 2] = some (.string ⟨([48, 120] : List UInt8).toArray⟩) := by rw [← f3]; exact cutHi_S (l := l) (n := 2) (by omega)
    have ct2 : pSliceStr true false [.string ⟨l.toArray⟩, .int .i64 2] = some (.string ⟨(l.drop 2).toArray⟩) := cutLo_S (l := l) (n := 2) (by omega)
    have e1 : (([48, 120] : List UInt8) == [48, 120]) = true := rfl
    have e2 := eq_S [48, 120] [48, 120]
    rw [e1] at e2
    clear hd f1 f2 f3
    repeat' (first | simp -implicitDefEqProofs only [W_skip, W_reg, W_seq, W_rcond, W_cond, W_block, W_loop, W_exit, W_ret, thenQ_normal, thenQ_exit, thenQ_ret, blockQ_normal, blockQ_ret, blockQ_here, regQ_app, rcQ_app, cndK_t, cndK_f, RegW_nil, RegW_none, RegW_some, contW_app, grdK_tt, grdK_ff, grdK_tf, grdK_ft, grdK_undef, actK_p, actK_r, actK_a, actK_w, actK_call, actK_callV, heapK_app, allocK_app, writeK_app, ret1_ret, ret1_normal, ret0_ret, ret0_normal, ret2_ret2, thenK_app, retcv_ret, retcvK_app, optW_some, evs, Arg.ev, aP, aR, aA, aW, pMov, pBin, pUn, pConv, pPick, pFieldAddr, pNilCheck, pExtract, aBin, aUn, aInt, aNew, partL_f, upd, List.getElem?_cons_zero, List.getElem?_cons_succ, List.getD_cons_zero, List.getD_cons_succ, List.set_cons_zero, List.set_cons_succ, Nat.zero_add, Nat.add_zero, List.getElem?_toArray, List.take_zero, List.drop_zero, List.take_succ_cons, List.drop_succ_cons, if_true, if_false, decide_true, decide_false, Bool.false_eq_true, Bool.true_eq_false, Bool.not_true, Bool.not_false, not_true_eq_false, not_false_eq_true, ge_iff_le, gt_iff_lt, beq_self_eq_true, bne_self_eq_false, and_self, and_true, true_and, Option.isSome_some, Heap.get_alloc_same, Heap.alloc_getE, len_S, *] | with_reducible refine cndK_d (fun hc => ?_) (fun hc => ?_) | with_reducible refine grdK_d (fun hc => ?_) (fun hc => ?_) | with_reducible refine cndK_i (fun hc => ?_) (fun hc => ?_) | with_reducible refine grdK_i (fun hc => ?_) (fun hc => ?_))
    refine refValue_c (base := 16) (.inr rfl) (by simp; omega) h _ ?_
    rw [hz]
    by_cases z1 : z < 0
    · have g := t1.h z1
      replace g := Hid.mk g
      repeat' (first | simp -implicitDefEqProofs only [W_skip, W_reg, W_seq, W_rcond, W_cond, W_block, W_loop, W_exit, W_ret, thenQ_normal, thenQ_exit, thenQ_ret, blockQ_normal, blockQ_ret, blockQ_here, regQ_app, rcQ_app, cndK_t, cndK_f, RegW_nil, RegW_none, RegW_some, contW_app, grdK_tt, grdK_ff, grdK_tf, grdK_ft, grdK_undef, actK_p, actK_r, actK_a, actK_w, actK_call, actK_callV, heapK_app, allocK_app, writeK_app, ret1_ret, ret1_normal, ret0_ret, ret0_normal, ret2_ret2, thenK_app, retcv_ret, retcvK_app, optW_some, evs, Arg.ev, aP, aR, aA, aW, pMov, pBin, pUn, pConv, pPick, pFieldAddr, pNilCheck, pExtract, aBin, aUn, aInt, aNew, partL_f, upd, List.getElem?_cons_zero, List.getElem?_cons_succ, List.getD_cons_zero, List.getD_cons_succ, List.set_cons_zero, List.set_cons_succ, Nat.zero_add, Nat.add_zero, List.getElem?_toArray, List.take_zero, List.drop_zero, List.take_succ_cons, List.drop_succ_cons, if_true, if_false, decide_true, decide_false, Bool.false_eq_true, Bool.true_eq_false, Bool.not_true, Bool.not_false, not_true_eq_false, not_false_eq_true, ge_iff_le, gt_iff_lt, beq_self_eq_true, bne_self_eq_false, and_self, and_true, true_and, Option.isSome_some, Heap.get_alloc_same, Heap.alloc_getE, *] | with_reducible refine cndK_d (fun hc => ?_) (fun hc => ?_) | with_reducible refine grdK_d (fun hc => ?_) (fun hc => ?_) | with_reducible refine cndK_i (fun hc => ?_) (fun hc => ?_) | with_reducible refine grdK_i (fun hc => ?_) (fun hc => ?_))
      exact g.h
    · by_cases z2 : 4294967296 ≤ z
      · have g := t2.h z1 z2
        replace g := Hid.mk g
        repeat' (first | simp -implicitDefEqProofs only [W_skip, W_reg, W_seq, W_rcond, W_cond, W_block, W_loop, W_exit, W_ret, thenQ_normal, thenQ_exit, thenQ_ret, blockQ_normal, blockQ_ret, blockQ_here, regQ_app, rcQ_app, cndK_t, cndK_f, RegW_nil, RegW_none, RegW_some, contW_app, grdK_tt, grdK_ff, grdK_tf, grdK_ft, grdK_undef, actK_p, actK_r, actK_a, actK_w, actK_call, actK_callV, heapK_app, allocK_app, writeK_app, ret1_ret, ret1_normal, ret0_ret, ret0_normal, ret2_ret2, thenK_app, retcv_ret, retcvK_app, optW_some, evs, Arg.ev, aP, aR, aA, aW, pMov, pBin, pUn, pConv, pPick, pFieldAddr, pNilCheck, pExtract, aBin, aUn, aInt, aNew, partL_f, upd, List.getElem?_cons_zero, List.getElem?_cons_succ, List.getD_cons_zero, List.getD_cons_succ, List.set_cons_zero, List.set_cons_succ, Nat.zero_add, Nat.add_zero, List.getElem?_toArray, List.take_zero, List.drop_zero, List.take_succ_cons, List.drop_succ_cons, if_true, if_false, decide_true, decide_false, Bool.false_eq_true, Bool.true_eq_false, Bool.not_true, Bool.not_false, not_true_eq_false, not_false_eq_true, ge_iff_le, gt_iff_lt, beq_self_eq_true, bne_self_eq_false, and_self, and_true, true_and, Option.isSome_some, Heap.get_alloc_same, Heap.alloc_getE, *] | with_reducible refine cndK_d (fun hc => ?_) (fun hc => ?_) | with_reducible refine grdK_d (fun hc => ?_) (fun hc => ?_) | with_reducible refine cndK_i (fun hc => ?_) (fun hc => ?_) | with_reducible refine grdK_i (fun hc => ?_) (fun hc => ?_))
        exact g.h
      · have g := t3.h z1 z2
        replace g := Hid.mk g
        repeat' (first | simp -implicitDefEqProofs only [W_skip, W_reg, W_seq, W_rcond, W_cond, W_block, W_loop, W_exit, W_ret, thenQ_normal, thenQ_exit, thenQ_ret, blockQ_normal, blockQ_ret, blockQ_here, regQ_app, rcQ_app, cndK_t, cndK_f, RegW_nil, RegW_none, RegW_some, contW_app, grdK_tt, grdK_ff, grdK_tf, grdK_ft, grdK_undef, actK_p, actK_r, actK_a, actK_w, actK_call, actK_callV, heapK_app, allocK_app, writeK_app, ret1_ret, ret1_normal, ret0_ret, ret0_normal, ret2_ret2, thenK_app, retcv_ret, retcvK_app, optW_some, evs, Arg.ev, aP, aR, aA, aW, pMov, pBin, pUn, pConv, pPick, pFieldAddr, pNilCheck, pExtract, aBin, aUn, aInt, aNew, partL_f, upd, List.getElem?_cons_zero, List.getElem?_cons_succ, List.getD_cons_zero, List.getD_cons_succ, List.set_cons_zero, List.set_cons_succ, Nat.zero_add, Nat.add_zero, List.getElem?_toArray, List.take_zero, List.drop_zero, List.take_succ_cons, List.drop_succ_cons, if_true, if_false, decide_true, decide_false, Bool.false_eq_true, Bool.true_eq_false, Bool.not_true, Bool.not_false, not_true_eq_false, not_false_eq_true, ge_iff_le, gt_iff_lt, beq_self_eq_true, bne_self_eq_false, and_self, and_true, true_and, Option.isSome_some, Heap.get_alloc_same, Heap.alloc_getE, *] | with_reducible refine cndK_d (fun hc => ?_) (fun hc => ?_) | with_reducible refine grdK_d (fun hc => ?_) (fun hc => ?_) | with_reducible refine cndK_i (fun hc => ?_) (fun hc => ?_) | with_reducible refine grdK_i (fun hc => ?_) (fun hc => ?_))
        exact g.h
  · have hd := hdef.h
    rw [if_neg hf] at hd
    -- the second way
    have second : W Tryd.prog N c22.vars (.rcond c22_r4 [] 0 (.reg c22_r5 [(3, 0)]) .skip) (blockQ 0 (thenQ (W Tryd.prog N c22.vars (.seq (.rcond c22_r6 [] 0 (.seq (.reg c22_r7 [(1, 1), (2, 0)]) .ret) .skip) (.seq (.reg c22_r8 [(1, 1), (2, 0)]) .ret)) (ret2 1 2 Q)) (ret2 1 2 Q))) [str l, .int .i64 0, .bool false, .int .i64 (-1)] h := by
      delta c22_r4 c22_r5 c22_r6 c22_r7 c22_r8
      by_cases hs : l.length = 1 ∨ (1 < l.length ∧ l.length ≤ 10 ∧ l.head? ≠ some 48)
      · rw [if_pos hs] at hd
        obtain ⟨t1, t2, t3⟩ := tail.h _ hd
        obtain ⟨z, hz⟩ : ∃ z, optZ (valN 10 l 0) = z := ⟨_, rfl⟩
        rw [hz] at t1 t2 t3
        replace t1 := Hid.mk t1
        replace t2 := Hid.mk t2
        replace t3 := Hid.mk t3
        have hl10 : l.length ≤ 10 := by rcases hs with h | h <;> omega
        have after : ∀ (Q' : AExit → List Value → Heap → Prop), True := fun _ => trivial
        clear after
        rcases hs with h1 | ⟨h1, h2, h3⟩
        · have k1 : ((l.length : Int) == 1) = true := by simp; omega
          clear hd hf h1
          repeat' (first | simp -implicitDefEqProofs only [W_skip, W_reg, W_seq, W_rcond, W_cond, W_block, W_loop, W_exit, W_ret, thenQ_normal, thenQ_exit, thenQ_ret, blockQ_normal, blockQ_ret, blockQ_here, regQ_app, rcQ_app, cndK_t, cndK_f, RegW_nil, RegW_none, RegW_some, contW_app, grdK_tt, grdK_ff, grdK_tf, grdK_ft, grdK_undef, actK_p, actK_r, actK_a, actK_w, actK_call, actK_callV, heapK_app, allocK_app, writeK_app, ret1_ret, ret1_normal, ret0_ret, ret0_normal, ret2_ret2, thenK_app, retcv_ret, retcvK_app, optW_some, evs, Arg.ev, aP, aR, aA, aW, pMov, pBin, pUn, pConv, pPick, pFieldAddr, pNilCheck, pExtract, aBin, aUn, aInt, aNew, partL_f, upd, List.getElem?_cons_zero, List.getElem?_cons_succ, List.getD_cons_zero, List.getD_cons_succ, List.set_cons_zero, List.set_cons_succ, Nat.zero_add, Nat.add_zero, List.getElem?_toArray, List.take_zero, List.drop_zero, List.take_succ_cons, List.drop_succ_cons, if_true, if_false, decide_true, decide_false, Bool.false_eq_true, Bool.true_eq_false, Bool.not_true, Bool.not_false, not_true_eq_false, not_false_eq_true, ge_iff_le, gt_iff_lt, beq_self_eq_true, bne_self_eq_false, and_self, and_true, true_and, Option.isSome_some, Heap.get_alloc_same, Heap.alloc_getE, len_S, *] | with_reducible refine cndK_d (fun hc => ?_) (fun hc => ?_) | with_reducible refine grdK_d (fun hc => ?_) (fun hc => ?_) | with_reducible refine cndK_i (fun hc => ?_) (fun hc => ?_) | with_reducible refine grdK_i (fun hc => ?_) (fun hc => ?_))
          refine refValue_c (base := 10) (.inl rfl) hl10 h _ ?_
          rw [hz]
          by_cases z1 : z < 0
          · have g := t1.h z1
            replace g := Hid.mk g
            repeat' (first | simp -implicitDefEqProofs only [W_skip, W_reg, W_seq, W_rcond, W_cond, W_block, W_loop, W_exit, W_ret, thenQ_normal, thenQ_exit, thenQ_ret, blockQ_normal, blockQ_ret, blockQ_here, regQ_app, rcQ_app, cndK_t, cndK_f, RegW_nil, RegW_none, RegW_some, contW_app, grdK_tt, grdK_ff, grdK_tf, grdK_ft, grdK_undef, actK_p, actK_r, actK_a, actK_w, actK_call, actK_callV, heapK_app, allocK_app, writeK_app, ret1_ret, ret1_normal, ret0_ret, ret0_normal, ret2_ret2, thenK_app, retcv_ret, retcvK_app, optW_some, evs, Arg.ev, aP, aR, aA, aW, pMov, pBin, pUn, pConv, pPick, pFieldAddr, pNilCheck, pExtract, aBin, aUn, aInt, aNew, partL_f, upd, List.getElem?_cons_zero, List.getElem?_cons_succ, List.getD_cons_zero, List.getD_cons_succ, List.set_cons_zero, List.set_cons_succ, Nat.zero_add, Nat.add_zero, List.getElem?_toArray, List.take_zero, List.drop_zero, List.take_succ_cons, List.drop_succ_cons, if_true, if_false, decide_true, decide_false, Bool.false_eq_true, Bool.true_eq_false, Bool.not_true, Bool.not_false, not_true_eq_false, not_false_eq_true, ge_iff_le, gt_iff_lt, beq_self_eq_true, bne_self_eq_false, and_self, and_true, true_and, Option.isSome_some, Heap.get_alloc_same, Heap.alloc_getE, *] | with_reducible refine cndK_d (fun hc => ?_) (fun hc => ?_) | with_reducible refine grdK_d (fun hc => ?_) (fun hc => ?_) | with_reducible refine cndK_i (fun hc => ?_) (fun hc => ?_) | with_reducible refine grdK_i (fun hc => ?_) (fun hc => ?_))
            exact g.h
          · by_cases z2 : 4294967296 ≤ z
            · have g := t2.h z1 z2
              replace g := Hid.mk g
              repeat' (first | simp -implicitDefEqProofs only [W_skip, W_reg, W_seq, W_rcond, W_cond, W_block, W_loop, W_exit, W_ret, thenQ_normal, thenQ_exit, thenQ_ret, blockQ_normal, blockQ_ret, blockQ_here, regQ_app, rcQ_app, cndK_t, cndK_f, RegW_nil, RegW_none, RegW_some, contW_app, grdK_tt, grdK_ff, grdK_tf, grdK_ft, grdK_undef, actK_p, actK_r, actK_a, actK_w, actK_call, actK_callV, heapK_app, allocK_app, writeK_app, ret1_ret, ret1_normal, ret0_ret, ret0_normal, ret2_ret2, thenK_app, retcv_ret, retcvK_app, optW_some, evs, Arg.ev, aP, aR, aA, aW, pMov, pBin, pUn, pConv, pPick, pFieldAddr, pNilCheck, pExtract, aBin, aUn, aInt, aNew, partL_f, upd, List.getElem?_cons_zero, List.getElem?_cons_succ, List.getD_cons_zero, List.getD_cons_succ, List.set_cons_zero, List.set_cons_succ, Nat.zero_add, Nat.add_zero, List.getElem?_toArray, List.take_zero, List.drop_zero, List.take_succ_cons, List.drop_succ_cons, if_true, if_false, decide_true, decide_false, Bool.false_eq_true, Bool.true_eq_false, Bool.not_true, Bool.not_false, not_true_eq_false, not_false_eq_true, ge_iff_le, gt_iff_lt, beq_self_eq_true, bne_self_eq_false, and_self, and_true, true_and, Option.isSome_some, Heap.get_alloc_same, Heap.alloc_getE, *] | with_reducible refine cndK_d (fun hc => ?_) (fun hc => ?_) | with_reducible refine grdK_d (fun hc => ?_) (fun hc => ?_) | with_reducible refine cndK_i (fun hc => ?_) (fun hc => ?_) | with_reducible refine grdK_i (fun hc => ?_) (fun hc => ?_))
              exact g.h
            · have g := t3.h z1 z2
              replace g := Hid.mk g
              repeat' (first | simp -implicitDefEqProofs only [W_skip, W_reg, W_seq, W_rcond, W_cond, W_block, W_loop, W_exit, W_ret, thenQ_normal, thenQ_exit, thenQ_ret, blockQ_normal, blockQ_ret, blockQ_here, regQ_app, rcQ_app, cndK_t, cndK_f, RegW_nil, RegW_none, RegW_some, contW_app, grdK_tt, grdK_ff, grdK_tf, grdK_ft, grdK_undef, actK_p, actK_r, actK_a, actK_w, actK_call, actK_callV, heapK_app, allocK_app, writeK_app, ret1_ret, ret1_normal, ret0_ret, ret0_normal, ret2_ret2, thenK_app, retcv_ret, retcvK_app, optW_some, evs, Arg.ev, aP, aR, aA, aW, pMov, pBin, pUn, pConv, pPick, pFieldAddr, pNilCheck, pExtract, aBin, aUn, aInt, aNew, partL_f, upd, List.getElem?_cons_zero, List.getElem?_cons_succ, List.getD_cons_zero, List.getD_cons_succ, List.set_cons_zero, List.set_cons_succ, Nat.zero_add, Nat.add_zero, List.getElem?_toArray, List.take_zero, List.drop_zero, List.take_succ_cons, List.drop_succ_cons, if_true, if_false, decide_true, decide_false, Bool.false_eq_true, Bool.true_eq_false, Bool.not_true, Bool.not_false, not_true_eq_false, not_false_eq_true, ge_iff_le, gt_iff_lt, beq_self_eq_true, bne_self_eq_false, and_self, and_true, true_and, Option.isSome_some, Heap.get_alloc_same, Heap.alloc_getE, *] | with_reducible refine cndK_d (fun hc => ?_) (fun hc => ?_) | with_reducible refine grdK_d (fun hc => ?_) (fun hc => ?_) | with_reducible refine cndK_i (fun hc => ?_) (fun hc => ?_) | with_reducible refine grdK_i (fun hc => ?_) (fun hc => ?_))
              exact g.h
        · have k1 : ((l.length : Int) == 1) = false := by simp; omega
          have k2 : (1 : Int) < (l.length : Int) := by omega
          have k3 : (l.length : Int) ≤ 10 := by omega
          obtain ⟨b, hb⟩ : ∃ b, l[0]? = some b := ⟨_, List.getElem?_eq_getElem (by omega)⟩
          have ix := idx_S hb .i64
          rw [Int.ofNat_zero] at ix
          have k4 : ((b.toNat : Int) != 48) = true := by
            simp
            intro e
            apply h3
            rw [List.head?_eq_getElem?, hb]
            congr 1
            apply UInt8.toNat_inj.1
            simp; omega
          clear hd hf h1 h2 h3 hb
          repeat' (first | simp -implicitDefEqProofs only [W_skip, W_reg, W_seq, W_rcond, W_cond, W_block, W_loop, W_exit, W_ret, thenQ_normal, thenQ_exit, thenQ_ret, blockQ_normal, blockQ_ret, blockQ_here, regQ_app, rcQ_app, cndK_t, cndK_f, RegW_nil, RegW_none, RegW_some, contW_app, grdK_tt, grdK_ff, grdK_tf, grdK_ft, grdK_undef, actK_p, actK_r, actK_a, actK_w, actK_call, actK_callV, heapK_app, allocK_app, writeK_app, ret1_ret, ret1_normal, ret0_ret, ret0_normal, ret2_ret2, thenK_app, retcv_ret, retcvK_app, optW_some, evs, Arg.ev, aP, aR, aA, aW, pMov, pBin, pUn, pConv, pPick, pFieldAddr, pNilCheck, pExtract, aBin, aUn, aInt, aNew, partL_f, upd, List.getElem?_cons_zero, List.getElem?_cons_succ, List.getD_cons_zero, List.getD_cons_succ, List.set_cons_zero, List.set_cons_succ, Nat.zero_add, Nat.add_zero, List.getElem?_toArray, List.take_zero, List.drop_zero, List.take_succ_cons, List.drop_succ_cons, if_true, if_false, decide_true, decide_false, Bool.false_eq_true, Bool.true_eq_false, Bool.not_true, Bool.not_false, not_true_eq_false, not_false_eq_true, ge_iff_le, gt_iff_lt, beq_self_eq_true, bne_self_eq_false, and_self, and_true, true_and, Option.isSome_some, Heap.get_alloc_same, Heap.alloc_getE, len_S, *] | with_reducible refine cndK_d (fun hc => ?_) (fun hc => ?_) | with_reducible refine grdK_d (fun hc => ?_) (fun hc => ?_) | with_reducible refine cndK_i (fun hc => ?_) (fun hc => ?_) | with_reducible refine grdK_i (fun hc => ?_) (fun hc => ?_))
          refine refValue_c (base := 10) (.inl rfl) hl10 h _ ?_
          rw [hz]
          by_cases z1 : z < 0
          · have g := t1.h z1
            replace g := Hid.mk g
            repeat' (first | simp -implicitDefEqProofs only [W_skip, W_reg, W_seq, W_rcond, W_cond, W_block, W_loop, W_exit, W_ret, thenQ_normal, thenQ_exit, thenQ_ret, blockQ_normal, blockQ_ret, blockQ_here, regQ_app, rcQ_app, cndK_t, cndK_f, RegW_nil, RegW_none, RegW_some, contW_app, grdK_tt, grdK_ff, grdK_tf, grdK_ft, grdK_undef, actK_p, actK_r, actK_a, actK_w, actK_call, actK_callV, heapK_app, allocK_app, writeK_app, ret1_ret, ret1_normal, ret0_ret, ret0_normal, ret2_ret2, thenK_app, retcv_ret, retcvK_app, optW_some, evs, Arg.ev, aP, aR, aA, aW, pMov, pBin, pUn, pConv, pPick, pFieldAddr, pNilCheck, pExtract, aBin, aUn, aInt, aNew, partL_f, upd, List.getElem?_cons_zero, List.getElem?_cons_succ, List.getD_cons_zero, List.getD_cons_succ, List.set_cons_zero, List.set_cons_succ, Nat.zero_add, Nat.add_zero, List.getElem?_toArray, List.take_zero, List.drop_zero, List.take_succ_cons, List.drop_succ_cons, if_true, if_false, decide_true, decide_false, Bool.false_eq_true, Bool.true_eq_false, Bool.not_true, Bool.not_false, not_true_eq_false, not_false_eq_true, ge_iff_le, gt_iff_lt, beq_self_eq_true, bne_self_eq_false, and_self, and_true, true_and, Option.isSome_some, Heap.get_alloc_same, Heap.alloc_getE, *] | with_reducible refine cndK_d (fun hc => ?_) (fun hc => ?_) | with_reducible refine grdK_d (fun hc => ?_) (fun hc => ?_) | with_reducible refine cndK_i (fun hc => ?_) (fun hc => ?_) | with_reducible refine grdK_i (fun hc => ?_) (fun hc => ?_))
            exact g.h
          · by_cases z2 : 4294967296 ≤ z
            · have g := t2.h z1 z2
              replace g := Hid.mk g
              repeat' (first | simp -implicitDefEqProofs only [W_skip, W_reg, W_seq, W_rcond, W_cond, W_block, W_loop, W_exit, W_ret, thenQ_normal, thenQ_exit, thenQ_ret, blockQ_normal, blockQ_ret, blockQ_here, regQ_app, rcQ_app, cndK_t, cndK_f, RegW_nil, RegW_none, RegW_some, contW_app, grdK_tt, grdK_ff, grdK_tf, grdK_ft, grdK_undef, actK_p, actK_r, actK_a, actK_w, actK_call, actK_callV, heapK_app, allocK_app, writeK_app, ret1_ret, ret1_normal, ret0_ret, ret0_normal, ret2_ret2, thenK_app, retcv_ret, retcvK_app, optW_some, evs, Arg.ev, aP, aR, aA, aW, pMov, pBin, pUn, pConv, pPick, pFieldAddr, pNilCheck, pExtract, aBin, aUn, aInt, aNew, partL_f, upd, List.getElem?_cons_zero, List.getElem?_cons_succ, List.getD_cons_zero, List.getD_cons_succ, List.set_cons_zero, List.set_cons_succ, Nat.zero_add, Nat.add_zero, List.getElem?_toArray, List.take_zero, List.drop_zero, List.take_succ_cons, List.drop_succ_cons, if_true, if_false, decide_true, decide_false, Bool.false_eq_true, Bool.true_eq_false, Bool.not_true, Bool.not_false, not_true_eq_false, not_false_eq_true, ge_iff_le, gt_iff_lt, beq_self_eq_true, bne_self_eq_false, and_self, and_true, true_and, Option.isSome_some, Heap.get_alloc_same, Heap.alloc_getE, *] | with_reducible refine cndK_d (fun hc => ?_) (fun hc => ?_) | with_reducible refine grdK_d (fun hc => ?_) (fun hc => ?_) | with_reducible refine cndK_i (fun hc => ?_) (fun hc => ?_) | with_reducible refine grdK_i (fun hc => ?_) (fun hc => ?_))
              exact g.h
            · have g := t3.h z1 z2
              replace g := Hid.mk g
              repeat' (first | simp -implicitDefEqProofs only [W_skip, W_reg, W_seq, W_rcond, W_cond, W_block, W_loop, W_exit, W_ret, thenQ_normal, thenQ_exit, thenQ_ret, blockQ_normal, blockQ_ret, blockQ_here, regQ_app, rcQ_app, cndK_t, cndK_f, RegW_nil, RegW_none, RegW_some, contW_app, grdK_tt, grdK_ff, grdK_tf, grdK_ft, grdK_undef, actK_p, actK_r, actK_a, actK_w, actK_call, actK_callV, heapK_app, allocK_app, writeK_app, ret1_ret, ret1_normal, ret0_ret, ret0_normal, ret2_ret2, thenK_app, retcv_ret, retcvK_app, optW_some, evs, Arg.ev, aP, aR, aA, aW, pMov, pBin, pUn, pConv, pPick, pFieldAddr, pNilCheck, pExtract, aBin, aUn, aInt, aNew, partL_f, upd, List.getElem?_cons_zero, List.getElem?_cons_succ, List.getD_cons_zero, List.getD_cons_succ, List.set_cons_zero, List.set_cons_succ, Nat.zero_add, Nat.add_zero, List.getElem?_toArray, List.take_zero, List.drop_zero, List.take_succ_cons, List.drop_succ_cons, if_true, if_false, decide_true, decide_false, Bool.false_eq_true, Bool.true_eq_false, Bool.not_true, Bool.not_false, not_true_eq_false, not_false_eq_true, ge_iff_le, gt_iff_lt, beq_self_eq_true, bne_self_eq_false, and_self, and_true, true_and, Option.isSome_some, Heap.get_alloc_same, Heap.alloc_getE, *] | with_reducible refine cndK_d (fun hc => ?_) (fun hc => ?_) | with_reducible refine grdK_d (fun hc => ?_) (fun hc => ?_) | with_reducible refine cndK_i (fun hc => ?_) (fun hc => ?_) | with_reducible refine grdK_i (fun hc => ?_) (fun hc => ?_))
              exact g.h
      · rw [if_neg hs] at hd
        have g := (tail.h none hd).1 (by decide)
        replace g := Hid.mk g
        have k1 : ((l.length : Int) == 1) = false := by simp; omega
        by_cases h1 : 1 < l.length
        · have k2 : (1 : Int) < (l.length : Int) := by omega
          by_cases h2 : l.length ≤ 10
          · have k3 : (l.length : Int) ≤ 10 := by omega
            have h48 : l.head? = some 48 := Classical.byContradiction fun hh => hs (.inr ⟨h1, h2, hh⟩)
            have hb : l[0]? = some 48 := by rw [← List.head?_eq_getElem?]; exact h48
            have ix : pIdxStr [.string ⟨l.toArray⟩, .int .i64 0] = some (.int .u8 48) := idx_S hb .i64
            have k4 : ((48 : Int) != 48) = false := rfl
            clear hs hd hf h1 h2 h48 hb
            repeat' (first | simp -implicitDefEqProofs only [W_skip, W_reg, W_seq, W_rcond, W_cond, W_block, W_loop, W_exit, W_ret, thenQ_normal, thenQ_exit, thenQ_ret, blockQ_normal, blockQ_ret, blockQ_here, regQ_app, rcQ_app, cndK_t, cndK_f, RegW_nil, RegW_none, RegW_some, contW_app, grdK_tt, grdK_ff, grdK_tf, grdK_ft, grdK_undef, actK_p, actK_r, actK_a, actK_w, actK_call, actK_callV, heapK_app, allocK_app, writeK_app, ret1_ret, ret1_normal, ret0_ret, ret0_normal, ret2_ret2, thenK_app, retcv_ret, retcvK_app, optW_some, evs, Arg.ev, aP, aR, aA, aW, pMov, pBin, pUn, pConv, pPick, pFieldAddr, pNilCheck, pExtract, aBin, aUn, aInt, aNew, partL_f, upd, List.getElem?_cons_zero, List.getElem?_cons_succ, List.getD_cons_zero, List.getD_cons_succ, List.set_cons_zero, List.set_cons_succ, Nat.zero_add, Nat.add_zero, List.getElem?_toArray, List.take_zero, List.drop_zero, List.take_succ_cons, List.drop_succ_cons, if_true, if_false, decide_true, decide_false, Bool.false_eq_true, Bool.true_eq_false, Bool.not_true, Bool.not_false, not_true_eq_false, not_false_eq_true, ge_iff_le, gt_iff_lt, beq_self_eq_true, bne_self_eq_false, and_self, and_true, true_and, Option.isSome_some, Heap.get_alloc_same, Heap.alloc_getE, len_S, *] | with_reducible refine cndK_d (fun hc => ?_) (fun hc => ?_) | with_reducible refine grdK_d (fun hc => ?_) (fun hc => ?_) | with_reducible refine cndK_i (fun hc => ?_) (fun hc => ?_) | with_reducible refine grdK_i (fun hc => ?_) (fun hc => ?_))
            exact g.h
          · have k3 : ¬ (l.length : Int) ≤ 10 := by omega
            clear hs hd hf h1 h2
            repeat' (first | simp -implicitDefEqProofs only [W_skip, W_reg, W_seq, W_rcond, W_cond, W_block, W_loop, W_exit, W_ret, thenQ_normal, thenQ_exit, thenQ_ret, blockQ_normal, blockQ_ret, blockQ_here, regQ_app, rcQ_app, cndK_t, cndK_f, RegW_nil, RegW_none, RegW_some, contW_app, grdK_tt, grdK_ff, grdK_tf, grdK_ft, grdK_undef, actK_p, actK_r, actK_a, actK_w, actK_call, actK_callV, heapK_app, allocK_app, writeK_app, ret1_ret, ret1_normal, ret0_ret, ret0_normal, ret2_ret2, thenK_app, retcv_ret, retcvK_app, optW_some, evs, Arg.ev, aP, aR, aA, aW, pMov, pBin, pUn, pConv, pPick, pFieldAddr, pNilCheck, pExtract, aBin, aUn, aInt, aNew, partL_f, upd, List.getElem?_cons_zero, List.getElem?_cons_succ, List.getD_cons_zero, List.getD_cons_succ, List.set_cons_zero, List.set_cons_succ, Nat.zero_add, Nat.add_zero, List.getElem?_toArray, List.take_zero, List.drop_zero, List.take_succ_cons, List.drop_succ_cons, if_true, if_false, decide_true, decide_false, Bool.false_eq_true, Bool.true_eq_false, Bool.not_true, Bool.not_false, not_true_eq_false, not_false_eq_true, ge_iff_le, gt_iff_lt, beq_self_eq_true, bne_self_eq_false, and_self, and_true, true_and, Option.isSome_some, Heap.get_alloc_same, Heap.alloc_getE, len_S, *] | with_reducible refine cndK_d (fun hc => ?_) (fun hc => ?_) | with_reducible refine grdK_d (fun hc => ?_) (fun hc => ?_) | with_reducible refine cndK_i (fun hc => ?_) (fun hc => ?_) | with_reducible refine grdK_i (fun hc => ?_) (fun hc => ?_))
            exact g.h
        · have k2 : ¬ (1 : Int) < (l.length : Int) := by omega
          clear hs hd hf h1
          repeat' (first | simp -implicitDefEqProofs only [W_skip, W_reg, W_seq, W_rcond, W_cond, W_block, W_loop, W_exit, W_ret, thenQ_normal, thenQ_exit, thenQ_ret, blockQ_normal, blockQ_ret, blockQ_here, regQ_app, rcQ_app, cndK_t, cndK_f, RegW_nil, RegW_none, RegW_some, contW_app, grdK_tt, grdK_ff, grdK_tf, grdK_ft, grdK_undef, actK_p, actK_r, actK_a, actK_w, actK_call, actK_callV, heapK_app, allocK_app, writeK_app, ret1_ret, ret1_normal, ret0_ret, ret0_normal, ret2_ret2, thenK_app, retcv_ret, retcvK_app, optW_some, evs, Arg.ev, aP, aR, aA, aW, pMov, pBin, pUn, pConv, pPick, pFieldAddr, pNilCheck, pExtract, aBin, aUn, aInt, aNew, partL_f, upd, List.getElem?_cons_zero, List.getElem?_cons_succ, List.getD_cons_zero, List.getD_cons_succ, List.set_cons_zero, List.set_cons_succ, Nat.zero_add, Nat.add_zero, List.getElem?_toArray, List.take_zero, List.drop_zero, List.take_succ_cons, List.drop_succ_cons, if_true, if_false, decide_true, decide_false, Bool.false_eq_true, Bool.true_eq_false, Bool.not_true, Bool.not_false, not_true_eq_false, not_false_eq_true, ge_iff_le, gt_iff_lt, beq_self_eq_true, bne_self_eq_false, and_self, and_true, true_and, Option.isSome_some, Heap.get_alloc_same, Heap.alloc_getE, len_S, *] | with_reducible refine cndK_d (fun hc => ?_) (fun hc => ?_) | with_reducible refine grdK_d (fun hc => ?_) (fun hc => ?_) | with_reducible refine cndK_i (fun hc => ?_) (fun hc => ?_) | with_reducible refine grdK_i (fun hc => ?_) (fun hc => ?_))
          exact g.h
    replace second := Hid.mk second
    repeat' (first | simp -implicitDefEqProofs only [W_skip, W_reg, W_seq, W_cond, W_block, W_loop, W_exit, W_ret, thenQ_normal, thenQ_exit, thenQ_ret, blockQ_normal, blockQ_ret, blockQ_here, regQ_app, rcQ_app, cndK_t, cndK_f, RegW_nil, RegW_none, RegW_some, contW_app, grdK_tt, grdK_ff, grdK_tf, grdK_ft, grdK_undef, actK_p, actK_r, actK_a, actK_w, actK_call, actK_callV, heapK_app, allocK_app, writeK_app, ret1_ret, ret1_normal, ret0_ret, ret0_normal, ret2_ret2, thenK_app, retcv_ret, retcvK_app, optW_some, evs, Arg.ev, aP, aR, aA, aW, pMov, pBin, pUn, pConv, pPick, pFieldAddr, pNilCheck, pExtract, aBin, aUn, aInt, aNew, partL_f, upd, List.getElem?_cons_zero, List.getElem?_cons_succ, List.getD_cons_zero, List.getD_cons_succ, List.set_cons_zero, List.set_cons_succ, Nat.zero_add, Nat.add_zero, List.getElem?_toArray, List.take_zero, List.drop_zero, List.take_succ_cons, List.drop_succ_cons, if_true, if_false, decide_true, decide_false, Bool.false_eq_true, Bool.true_eq_false, Bool.not_true, Bool.not_false, not_true_eq_false, not_false_eq_true, ge_iff_le, gt_iff_lt, beq_self_eq_true, bne_self_eq_false, and_self, and_true, true_and, Option.isSome_some, Heap.get_alloc_same, Heap.alloc_getE, *] | with_reducible refine cndK_d (fun hc => ?_) (fun hc => ?_) | with_reducible refine grdK_d (fun hc => ?_) (fun hc => ?_) | with_reducible refine cndK_i (fun hc => ?_) (fun hc => ?_) | with_reducible refine grdK_i (fun hc => ?_) (fun hc => ?_))
    rw [W_rcond]
    by_cases h1 : 2 < l.length
    · have g1 : (2 : Int) < (l.length : Int) := by omega
      by_cases h2 : l.length ≤ 10
      · have g2 : (l.length : Int) ≤ 10 := by omega
        have h3 : ¬ l.take 2 = [48, 120] := fun e => hf ⟨h1, h2, e⟩
        have ct : pSliceStr false true [.string ⟨l.toArray⟩, .int .i64 2] = some (.string ⟨(l.take 2).toArray⟩) := cutHi_S (l := l) (n := 2) (by omega)
        have e2 : aStr .eql ⟨(l.take 2).toArray⟩ ⟨#[48, 120]⟩ = some (.bool false) := by
          have := eq_S (l.take 2) [48, 120]
          rw [show (l.take 2 == [48, 120]) = false by simpa using h3] at this
          exact this
        clear hd hf h1 h2 h3
        repeat' (first | simp -implicitDefEqProofs only [W_skip, W_reg, W_seq, W_cond, W_block, W_loop, W_exit, W_ret, thenQ_normal, thenQ_exit, thenQ_ret, blockQ_normal, blockQ_ret, blockQ_here, regQ_app, rcQ_app, cndK_t, cndK_f, RegW_nil, RegW_none, RegW_some, contW_app, grdK_tt, grdK_ff, grdK_tf, grdK_ft, grdK_undef, actK_p, actK_r, actK_a, actK_w, actK_call, actK_callV, heapK_app, allocK_app, writeK_app, ret1_ret, ret1_normal, ret0_ret, ret0_normal, ret2_ret2, thenK_app, retcv_ret, retcvK_app, optW_some, evs, Arg.ev, aP, aR, aA, aW, pMov, pBin, pUn, pConv, pPick, pFieldAddr, pNilCheck, pExtract, aBin, aUn, aInt, aNew, partL_f, upd, List.getElem?_cons_zero, List.getElem?_cons_succ, List.getD_cons_zero, List.getD_cons_succ, List.set_cons_zero, List.set_cons_succ, Nat.zero_add, Nat.add_zero, List.getElem?_toArray, List.take_zero, List.drop_zero, List.take_succ_cons, List.drop_succ_cons, if_true, if_false, decide_true, decide_false, Bool.false_eq_true, Bool.true_eq_false, Bool.not_true, Bool.not_false, not_true_eq_false, not_false_eq_true, ge_iff_le, gt_iff_lt, beq_self_eq_true, bne_self_eq_false, and_self, and_true, true_and, Option.isSome_some, Heap.get_alloc_same, Heap.alloc_getE, len_S, *] | with_reducible refine cndK_d (fun hc => ?_) (fun hc => ?_) | with_reducible refine grdK_d (fun hc => ?_) (fun hc => ?_) | with_reducible refine cndK_i (fun hc => ?_) (fun hc => ?_) | with_reducible refine grdK_i (fun hc => ?_) (fun hc => ?_))
        exact second.h
      · have g2 : ¬ (l.length : Int) ≤ 10 := by omega
        clear hd hf h1 h2
        repeat' (first | simp -implicitDefEqProofs only [W_skip, W_reg, W_seq, W_cond, W_block, W_loop, W_exit, W_ret, thenQ_normal, thenQ_exit, thenQ_ret, blockQ_normal, blockQ_ret, blockQ_here, regQ_app, rcQ_app, cndK_t, cndK_f, RegW_nil, RegW_none, RegW_some, contW_app, grdK_tt, grdK_ff, grdK_tf, grdK_ft, grdK_undef, actK_p, actK_r, actK_a, actK_w, actK_call, actK_callV, heapK_app, allocK_app, writeK_app, ret1_ret, ret1_normal, ret0_ret, ret0_normal, ret2_ret2, thenK_app, retcv_ret, retcvK_app, optW_some, evs, Arg.ev, aP, aR, aA, aW, pMov, pBin, pUn, pConv, pPick, pFieldAddr, pNilCheck, pExtract, aBin, aUn, aInt, aNew, partL_f, upd, List.getElem?_cons_zero, List.getElem?_cons_succ, List.getD_cons_zero, List.getD_cons_succ, List.set_cons_zero, List.set_cons_succ, Nat.zero_add, Nat.add_zero, List.getElem?_toArray, List.take_zero, List.drop_zero, List.take_succ_cons, List.drop_succ_cons, if_true, if_false, decide_true, decide_false, Bool.false_eq_true, Bool.true_eq_false, Bool.not_true, Bool.not_false, not_true_eq_false, not_false_eq_true, ge_iff_le, gt_iff_lt, beq_self_eq_true, bne_self_eq_false, and_self, and_true, true_and, Option.isSome_some, Heap.get_alloc_same, Heap.alloc_getE, len_S, *] | with_reducible refine cndK_d (fun hc => ?_) (fun hc => ?_) | with_reducible refine grdK_d (fun hc => ?_) (fun hc => ?_) | with_reducible refine cndK_i (fun hc => ?_) (fun hc => ?_) | with_reducible refine grdK_i (fun hc => ?_) (fun hc => ?_))
        exact second.h
    · have g1 : ¬ (2 : Int) < (l.length : Int) := by omega
      clear hd hf h1
      repeat' (first | simp -implicitDefEqProofs only [W_skip, W_reg, W_seq, W_cond, W_block, W_loop, W_exit, W_ret, thenQ_normal, thenQ_exit, thenQ_ret, blockQ_normal, blockQ_ret, blockQ_here, regQ_app, rcQ_app, cndK_t, cndK_f, RegW_nil, RegW_none, RegW_some, contW_app, grdK_tt, grdK_ff, grdK_tf, grdK_ft, grdK_undef, actK_p, actK_r, actK_a, actK_w, actK_call, actK_callV, heapK_app, allocK_app, writeK_app, ret1_ret, ret1_normal, ret0_ret, ret0_normal, ret2_ret2, thenK_app, retcv_ret, retcvK_app, optW_some, evs, Arg.ev, aP, aR, aA, aW, pMov, pBin, pUn, pConv, pPick, pFieldAddr, pNilCheck, pExtract, aBin, aUn, aInt, aNew, partL_f, upd, List.getElem?_cons_zero, List.getElem?_cons_succ, List.getD_cons_zero, List.getD_cons_succ, List.set_cons_zero, List.set_cons_succ, Nat.zero_add, Nat.add_zero, List.getElem?_toArray, List.take_zero, List.drop_zero, List.take_succ_cons, List.drop_succ_cons, if_true, if_false, decide_true, decide_false, Bool.false_eq_true, Bool.true_eq_false, Bool.not_true, Bool.not_false, not_true_eq_false, not_false_eq_true, ge_iff_le, gt_iff_lt, beq_self_eq_true, bne_self_eq_false, and_self, and_true, true_and, Option.isSome_some, Heap.get_alloc_same, Heap.alloc_getE, len_S, *] | with_reducible refine cndK_d (fun hc => ?_) (fun hc => ?_) | with_reducible refine grdK_d (fun hc => ?_) (fun hc => ?_) | with_reducible refine cndK_i (fun hc => ?_) (fun hc => ?_) | with_reducible refine grdK_i (fun hc => ?_) (fun hc => ?_))
      exact second.h

/-! the token of a run of letters and digits -/
def refOneS (l : List UInt8) : Tok := if (oneS l).2 then (oneS l).1 else ⟨0, [], 0, 0⟩
theorem build0 : pBuild [.int .i64 0, .string ⟨#[]⟩, .int .i64 0, .int .i64 0] [] [] = some (Tok.val ⟨0, [], 0, 0⟩) := by rfl
theorem refOne_c {l : List UInt8} (h : Heap) (Q : Value → Heap → Prop) (hq : ∀ h', h.le h' → Q (refOneS l).val h') : CallW Tryd.prog 37 [str l] h Q := by
  refine call_ofc (k := 1) (agg := true) (size := 4) ok37 rfl rfl rfl fun N => ?_
  rw [show env0 c37 [str l] = [str l, undef, undef, undef, undef, undef] from rfl]
  delta c37 c37_r0 c37_r1 c37_r2 c37_r3 c37_r4 c37_r5 c37_r6 c37_r7 c37_r8 c37_r9 c37_r10
  obtain ⟨p, hpp⟩ : ∃ x, h.next = x := ⟨_, rfl⟩
  obtain ⟨h1, hh1⟩ : ∃ x, h.alloc (.blk [.int .i64 0, .string ⟨#[]⟩, .int .i64 0, .int .i64 0] true) = x := ⟨_, rfl⟩
  have g1 : h1.get p = some (.blk [.int .i64 0, .string ⟨#[]⟩, .int .i64 0, .int .i64 0] true) := by rw [← hh1, ← hpp]; exact Heap.get_alloc_same _ _
  have l1 : h.le h1 := by rw [← hh1]; exact (Heap.le.refl _).alloc _
  have fin : ∀ (h2 : Heap) (t : Tok), h1.le h2 → refOneS l = t → (wStore 4 h2 [.pointer (some ⟨p, 0, none⟩), t.val] = some (undef, h2.set p (.blk t.cells true))) ∧ (h2.set p (.blk t.cells true)).get p = some (.blk [.int .i64 t.kind, str t.text, .int .i64 t.n, .int .i64 t.line] true) ∧ Q t.val (h2.set p (.blk t.cells true)) := by
    intro h2 t hl2 ht
    have g2 := hl2.get g1
    refine ⟨wStore_all g2 rfl rfl rfl rfl, Heap.set_getS _ _ _ (by rw [g2]; rfl), ?_⟩
    rw [← ht]
    exact hq _ ((l1.trans hl2).set (by omega) _)
  replace fin := Hid.mk fin
  clear hq
  repeat' (first | simp -implicitDefEqProofs only [W_skip, W_reg, W_seq, W_rcond, W_cond, W_block, W_loop, W_exit, W_ret, thenQ_normal, thenQ_exit, thenQ_ret, blockQ_normal, blockQ_ret, blockQ_here, regQ_app, rcQ_app, cndK_t, cndK_f, RegW_nil, RegW_none, RegW_some, contW_app, grdK_tt, grdK_ff, grdK_tf, grdK_ft, grdK_undef, actK_p, actK_r, actK_a, actK_w, actK_call, actK_callV, heapK_app, allocK_app, writeK_app, ret1_ret, ret1_normal, ret0_ret, ret0_normal, ret2_ret2, thenK_app, retcv_ret, retcvK_app, optW_some, evs, Arg.ev, aP, aR, aA, aW, pMov, pBin, pUn, pConv, pPick, pFieldAddr, pNilCheck, pExtract, aBin, aUn, aInt, aNew, partL_f, upd, List.getElem?_cons_zero, List.getElem?_cons_succ, List.getD_cons_zero, List.getD_cons_succ, List.set_cons_zero, List.set_cons_succ, Nat.zero_add, Nat.add_zero, List.getElem?_toArray, List.take_zero, List.drop_zero, List.take_succ_cons, List.drop_succ_cons, if_true, if_false, decide_true, decide_false, Bool.false_eq_true, Bool.true_eq_false, Bool.not_true, Bool.not_false, not_true_eq_false, not_false_eq_true, ge_iff_le, gt_iff_lt, beq_self_eq_true, bne_self_eq_false, and_self, and_true, true_and, Option.isSome_some, Heap.get_alloc_same, Heap.alloc_getE, *] | with_reducible refine cndK_d (fun hc => ?_) (fun hc => ?_) | with_reducible refine grdK_d (fun hc => ?_) (fun hc => ?_) | with_reducible refine cndK_i (fun hc => ?_) (fun hc => ?_) | with_reducible refine grdK_i (fun hc => ?_) (fun hc => ?_))
  refine refWord_c h1 _ fun h2 l2 => ?_
  cases hw : isWord l with
  | true =>
    obtain ⟨f1, f2, f3⟩ := fin.h h2 ⟨2, l, 0, 0⟩ l2 (by simp [refOneS, oneS, hw])
    replace f3 := Hid.mk f3
    obtain ⟨h3, hh3⟩ : ∃ x, h2.set p (.blk (Tok.cells ⟨2, l, 0, 0⟩) true) = x := ⟨_, rfl⟩
    rw [hh3] at f1 f2 f3
    replace hh3 := Hid.mk hh3
    have pt := part_tok 2 0 0 l
    clear l2 l1 g1
    repeat' (first | simp -implicitDefEqProofs only [W_skip, W_reg, W_seq, W_rcond, W_cond, W_block, W_loop, W_exit, W_ret, thenQ_normal, thenQ_exit, thenQ_ret, blockQ_normal, blockQ_ret, blockQ_here, regQ_app, rcQ_app, cndK_t, cndK_f, RegW_nil, RegW_none, RegW_some, contW_app, grdK_tt, grdK_ff, grdK_tf, grdK_ft, grdK_undef, actK_p, actK_r, actK_a, actK_w, actK_call, actK_callV, heapK_app, allocK_app, writeK_app, ret1_ret, ret1_normal, ret0_ret, ret0_normal, ret2_ret2, thenK_app, retcv_ret, retcvK_app, optW_some, evs, Arg.ev, aP, aR, aA, aW, pMov, pBin, pUn, pConv, pPick, pFieldAddr, pNilCheck, pExtract, aBin, aUn, aInt, aNew, partL_f, upd, List.getElem?_cons_zero, List.getElem?_cons_succ, List.getD_cons_zero, List.getD_cons_succ, List.set_cons_zero, List.set_cons_succ, Nat.zero_add, Nat.add_zero, List.getElem?_toArray, List.take_zero, List.drop_zero, List.take_succ_cons, List.drop_succ_cons, if_true, if_false, decide_true, decide_false, Bool.false_eq_true, Bool.true_eq_false, Bool.not_true, Bool.not_false, not_true_eq_false, not_false_eq_true, ge_iff_le, gt_iff_lt, beq_self_eq_true, bne_self_eq_false, and_self, and_true, true_and, Option.isSome_some, Heap.get_alloc_same, Heap.alloc_getE, build2, retc_ret, retcK_app, *] | with_reducible refine cndK_d (fun hc => ?_) (fun hc => ?_) | with_reducible refine grdK_d (fun hc => ?_) (fun hc => ?_) | with_reducible refine cndK_i (fun hc => ?_) (fun hc => ?_) | with_reducible refine grdK_i (fun hc => ?_) (fun hc => ?_))
    exact f3.h
  | false =>
  repeat' (first | simp -implicitDefEqProofs only [W_skip, W_reg, W_seq, W_rcond, W_cond, W_block, W_loop, W_exit, W_ret, thenQ_normal, thenQ_exit, thenQ_ret, blockQ_normal, blockQ_ret, blockQ_here, regQ_app, rcQ_app, cndK_t, cndK_f, RegW_nil, RegW_none, RegW_some, contW_app, grdK_tt, grdK_ff, grdK_tf, grdK_ft, grdK_undef, actK_p, actK_r, actK_a, actK_w, actK_call, actK_callV, heapK_app, allocK_app, writeK_app, ret1_ret, ret1_normal, ret0_ret, ret0_normal, ret2_ret2, thenK_app, retcv_ret, retcvK_app, optW_some, evs, Arg.ev, aP, aR, aA, aW, pMov, pBin, pUn, pConv, pPick, pFieldAddr, pNilCheck, pExtract, aBin, aUn, aInt, aNew, partL_f, upd, List.getElem?_cons_zero, List.getElem?_cons_succ, List.getD_cons_zero, List.getD_cons_succ, List.set_cons_zero, List.set_cons_succ, Nat.zero_add, Nat.add_zero, List.getElem?_toArray, List.take_zero, List.drop_zero, List.take_succ_cons, List.drop_succ_cons, if_true, if_false, decide_true, decide_false, Bool.false_eq_true, Bool.true_eq_false, Bool.not_true, Bool.not_false, not_true_eq_false, not_false_eq_true, ge_iff_le, gt_iff_lt, beq_self_eq_true, bne_self_eq_false, and_self, and_true, true_and, Option.isSome_some, Heap.get_alloc_same, Heap.alloc_getE, *] | with_reducible refine cndK_d (fun hc => ?_) (fun hc => ?_) | with_reducible refine grdK_d (fun hc => ?_) (fun hc => ?_) | with_reducible refine cndK_i (fun hc => ?_) (fun hc => ?_) | with_reducible refine grdK_i (fun hc => ?_) (fun hc => ?_))
  refine refName_c h2 _ fun h3 l3 => ?_
  replace l3 := l2.trans l3
  clear l2
  cases hn : isName l with
  | true =>
    obtain ⟨f1, f2, f3⟩ := fin.h h3 ⟨1, l, 0, 0⟩ l3 (by simp [refOneS, oneS, hw, hn])
    replace f3 := Hid.mk f3
    obtain ⟨h4, hh3⟩ : ∃ x, h3.set p (.blk (Tok.cells ⟨1, l, 0, 0⟩) true) = x := ⟨_, rfl⟩
    rw [hh3] at f1 f2 f3
    replace hh3 := Hid.mk hh3
    have pt := part_tok 1 0 0 l
    clear l3 l1 g1
    repeat' (first | simp -implicitDefEqProofs only [W_skip, W_reg, W_seq, W_rcond, W_cond, W_block, W_loop, W_exit, W_ret, thenQ_normal, thenQ_exit, thenQ_ret, blockQ_normal, blockQ_ret, blockQ_here, regQ_app, rcQ_app, cndK_t, cndK_f, RegW_nil, RegW_none, RegW_some, contW_app, grdK_tt, grdK_ff, grdK_tf, grdK_ft, grdK_undef, actK_p, actK_r, actK_a, actK_w, actK_call, actK_callV, heapK_app, allocK_app, writeK_app, ret1_ret, ret1_normal, ret0_ret, ret0_normal, ret2_ret2, thenK_app, retcv_ret, retcvK_app, optW_some, evs, Arg.ev, aP, aR, aA, aW, pMov, pBin, pUn, pConv, pPick, pFieldAddr, pNilCheck, pExtract, aBin, aUn, aInt, aNew, partL_f, upd, List.getElem?_cons_zero, List.getElem?_cons_succ, List.getD_cons_zero, List.getD_cons_succ, List.set_cons_zero, List.set_cons_succ, Nat.zero_add, Nat.add_zero, List.getElem?_toArray, List.take_zero, List.drop_zero, List.take_succ_cons, List.drop_succ_cons, if_true, if_false, decide_true, decide_false, Bool.false_eq_true, Bool.true_eq_false, Bool.not_true, Bool.not_false, not_true_eq_false, not_false_eq_true, ge_iff_le, gt_iff_lt, beq_self_eq_true, bne_self_eq_false, and_self, and_true, true_and, Option.isSome_some, Heap.get_alloc_same, Heap.alloc_getE, build2, retc_ret, retcK_app, *] | with_reducible refine cndK_d (fun hc => ?_) (fun hc => ?_) | with_reducible refine grdK_d (fun hc => ?_) (fun hc => ?_) | with_reducible refine cndK_i (fun hc => ?_) (fun hc => ?_) | with_reducible refine grdK_i (fun hc => ?_) (fun hc => ?_))
    exact f3.h
  | false =>
  repeat' (first | simp -implicitDefEqProofs only [W_skip, W_reg, W_seq, W_rcond, W_cond, W_block, W_loop, W_exit, W_ret, thenQ_normal, thenQ_exit, thenQ_ret, blockQ_normal, blockQ_ret, blockQ_here, regQ_app, rcQ_app, cndK_t, cndK_f, RegW_nil, RegW_none, RegW_some, contW_app, grdK_tt, grdK_ff, grdK_tf, grdK_ft, grdK_undef, actK_p, actK_r, actK_a, actK_w, actK_call, actK_callV, heapK_app, allocK_app, writeK_app, ret1_ret, ret1_normal, ret0_ret, ret0_normal, ret2_ret2, thenK_app, retcv_ret, retcvK_app, optW_some, evs, Arg.ev, aP, aR, aA, aW, pMov, pBin, pUn, pConv, pPick, pFieldAddr, pNilCheck, pExtract, aBin, aUn, aInt, aNew, partL_f, upd, List.getElem?_cons_zero, List.getElem?_cons_succ, List.getD_cons_zero, List.getD_cons_succ, List.set_cons_zero, List.set_cons_succ, Nat.zero_add, Nat.add_zero, List.getElem?_toArray, List.take_zero, List.drop_zero, List.take_succ_cons, List.drop_succ_cons, if_true, if_false, decide_true, decide_false, Bool.false_eq_true, Bool.true_eq_false, Bool.not_true, Bool.not_false, not_true_eq_false, not_false_eq_true, ge_iff_le, gt_iff_lt, beq_self_eq_true, bne_self_eq_false, and_self, and_true, true_and, Option.isSome_some, Heap.get_alloc_same, Heap.alloc_getE, *] | with_reducible refine cndK_d (fun hc => ?_) (fun hc => ?_) | with_reducible refine grdK_d (fun hc => ?_) (fun hc => ?_) | with_reducible refine cndK_i (fun hc => ?_) (fun hc => ?_) | with_reducible refine grdK_i (fun hc => ?_) (fun hc => ?_))
  refine refNumber_c h3 _ ?_
  cases hnu : number l with
  | some n =>
    obtain ⟨f1, f2, f3⟩ := fin.h h3 ⟨3, l, n, 0⟩ l3 (by simp [refOneS, oneS, hw, hn, hnu])
    replace f3 := Hid.mk f3
    obtain ⟨h4, hh3⟩ : ∃ x, h3.set p (.blk (Tok.cells ⟨3, l, n, 0⟩) true) = x := ⟨_, rfl⟩
    rw [hh3] at f1 f2 f3
    replace hh3 := Hid.mk hh3
    have pt := part_tok 3 n 0 l
    simp only [Option.getD_some, Option.isSome_some]
    clear l3 l1 g1
    repeat' (first | simp -implicitDefEqProofs only [W_skip, W_reg, W_seq, W_rcond, W_cond, W_block, W_loop, W_exit, W_ret, thenQ_normal, thenQ_exit, thenQ_ret, blockQ_normal, blockQ_ret, blockQ_here, regQ_app, rcQ_app, cndK_t, cndK_f, RegW_nil, RegW_none, RegW_some, contW_app, grdK_tt, grdK_ff, grdK_tf, grdK_ft, grdK_undef, actK_p, actK_r, actK_a, actK_w, actK_call, actK_callV, heapK_app, allocK_app, writeK_app, ret1_ret, ret1_normal, ret0_ret, ret0_normal, ret2_ret2, thenK_app, retcv_ret, retcvK_app, optW_some, evs, Arg.ev, aP, aR, aA, aW, pMov, pBin, pUn, pConv, pPick, pFieldAddr, pNilCheck, pExtract, aBin, aUn, aInt, aNew, partL_f, upd, List.getElem?_cons_zero, List.getElem?_cons_succ, List.getD_cons_zero, List.getD_cons_succ, List.set_cons_zero, List.set_cons_succ, Nat.zero_add, Nat.add_zero, List.getElem?_toArray, List.take_zero, List.drop_zero, List.take_succ_cons, List.drop_succ_cons, if_true, if_false, decide_true, decide_false, Bool.false_eq_true, Bool.true_eq_false, Bool.not_true, Bool.not_false, not_true_eq_false, not_false_eq_true, ge_iff_le, gt_iff_lt, beq_self_eq_true, bne_self_eq_false, and_self, and_true, true_and, Option.isSome_some, Heap.get_alloc_same, Heap.alloc_getE, build3, retc_ret, retcK_app, extract0, extract1, *] | with_reducible refine cndK_d (fun hc => ?_) (fun hc => ?_) | with_reducible refine grdK_d (fun hc => ?_) (fun hc => ?_) | with_reducible refine cndK_i (fun hc => ?_) (fun hc => ?_) | with_reducible refine grdK_i (fun hc => ?_) (fun hc => ?_))
    exact f3.h
  | none =>
    obtain ⟨f1, f2, f3⟩ := fin.h h3 ⟨0, [], 0, 0⟩ l3 (by simp [refOneS, oneS, hw, hn, hnu])
    replace f3 := Hid.mk f3
    obtain ⟨h4, hh3⟩ : ∃ x, h3.set p (.blk (Tok.cells ⟨0, [], 0, 0⟩) true) = x := ⟨_, rfl⟩
    rw [hh3] at f1 f2 f3
    replace hh3 := Hid.mk hh3
    have pt := part_tok 0 0 0 []
    simp only [Option.getD_none, Option.isSome_none]
    clear l3 l1 g1
    repeat' (first | simp -implicitDefEqProofs only [W_skip, W_reg, W_seq, W_rcond, W_cond, W_block, W_loop, W_exit, W_ret, thenQ_normal, thenQ_exit, thenQ_ret, blockQ_normal, blockQ_ret, blockQ_here, regQ_app, rcQ_app, cndK_t, cndK_f, RegW_nil, RegW_none, RegW_some, contW_app, grdK_tt, grdK_ff, grdK_tf, grdK_ft, grdK_undef, actK_p, actK_r, actK_a, actK_w, actK_call, actK_callV, heapK_app, allocK_app, writeK_app, ret1_ret, ret1_normal, ret0_ret, ret0_normal, ret2_ret2, thenK_app, retcv_ret, retcvK_app, optW_some, evs, Arg.ev, aP, aR, aA, aW, pMov, pBin, pUn, pConv, pPick, pFieldAddr, pNilCheck, pExtract, aBin, aUn, aInt, aNew, partL_f, upd, List.getElem?_cons_zero, List.getElem?_cons_succ, List.getD_cons_zero, List.getD_cons_succ, List.set_cons_zero, List.set_cons_succ, Nat.zero_add, Nat.add_zero, List.getElem?_toArray, List.take_zero, List.drop_zero, List.take_succ_cons, List.drop_succ_cons, if_true, if_false, decide_true, decide_false, Bool.false_eq_true, Bool.true_eq_false, Bool.not_true, Bool.not_false, not_true_eq_false, not_false_eq_true, ge_iff_le, gt_iff_lt, beq_self_eq_true, bne_self_eq_false, and_self, and_true, true_and, Option.isSome_some, Heap.get_alloc_same, Heap.alloc_getE, build0, retc_ret, retcK_app, extract0, extract1, *] | with_reducible refine cndK_d (fun hc => ?_) (fun hc => ?_) | with_reducible refine grdK_d (fun hc => ?_) (fun hc => ?_) | with_reducible refine cndK_i (fun hc => ?_) (fun hc => ?_) | with_reducible refine grdK_i (fun hc => ?_) (fun hc => ?_))
    exact f3.h

/-! the sign at the head of a text -/
def refSignS (l : List UInt8) : List UInt8 := (signsL.find? (·.isPrefixOf l)).getD []
theorem refSign_c {l : List UInt8} (h : Heap) (Q : Value → Heap → Prop) (hq : ∀ h', h.le h' → Q (str (refSignS l)) h') : CallW Tryd.prog 38 [str l] h Q := by
  refine call_of1 (k := 1) ok38 rfl rfl rfl fun N => ?_
  rw [show env0 c38 [str l] = [str l, undef, undef, undef] from rfl]
  delta c38 c38_r0 c38_r1 c38_r2 c38_r3 c38_r4 c38_r5 c38_r6 c38_r8
  replace hq := Hid.mk hq
  have ss := strs_new h signsL (n := 25) (cells := [.string ⟨#[61, 61]⟩, .string ⟨#[33, 61]⟩, .string ⟨#[60, 60]⟩, .string ⟨#[62, 62]⟩, .string ⟨#[60, 46]⟩, .string ⟨#[43]⟩, .string ⟨#[45]⟩, .string ⟨#[42]⟩, .string ⟨#[47]⟩, .string ⟨#[37]⟩, .string ⟨#[38]⟩, .string ⟨#[124]⟩, .string ⟨#[94]⟩, .string ⟨#[60]⟩, .string ⟨#[61]⟩, .string ⟨#[33]⟩, .string ⟨#[126]⟩, .string ⟨#[40]⟩, .string ⟨#[41]⟩, .string ⟨#[123]⟩, .string ⟨#[125]⟩, .string ⟨#[91]⟩, .string ⟨#[93]⟩, .string ⟨#[59]⟩, .string ⟨#[46]⟩]) rfl rfl
  obtain ⟨q, hqq⟩ : ∃ x, h.next = x := ⟨_, rfl⟩
  obtain ⟨h1, hh1⟩ : ∃ x, h.alloc (.blk [.string ⟨#[61, 61]⟩, .string ⟨#[33, 61]⟩, .string ⟨#[60, 60]⟩, .string ⟨#[62, 62]⟩, .string ⟨#[60, 46]⟩, .string ⟨#[43]⟩, .string ⟨#[45]⟩, .string ⟨#[42]⟩, .string ⟨#[47]⟩, .string ⟨#[37]⟩, .string ⟨#[38]⟩, .string ⟨#[124]⟩, .string ⟨#[94]⟩, .string ⟨#[60]⟩, .string ⟨#[61]⟩, .string ⟨#[33]⟩, .string ⟨#[126]⟩, .string ⟨#[40]⟩, .string ⟨#[41]⟩, .string ⟨#[123]⟩, .string ⟨#[125]⟩, .string ⟨#[91]⟩, .string ⟨#[93]⟩, .string ⟨#[59]⟩, .string ⟨#[46]⟩] true) = x := ⟨_, rfl⟩
  have l1 : h.le h1 := by rw [← hh1]; exact (Heap.le.refl _).alloc _
  rw [hqq, hh1] at ss
  have g := hq.h h1 l1
  replace g := Hid.mk g
  replace ss := Hid.mk ss
  have ls : pLenS [.slice (some ⟨q, 0, none⟩) 25 1] = some (.int .i64 25) := rfl
  clear hq l1
  repeat' (first | simp -implicitDefEqProofs only [W_skip, W_reg, W_seq, W_rcond, W_cond, W_block, W_loop, W_exit, W_ret, thenQ_normal, thenQ_exit, thenQ_ret, blockQ_normal, blockQ_ret, blockQ_here, regQ_app, rcQ_app, cndK_t, cndK_f, RegW_nil, RegW_none, RegW_some, contW_app, grdK_tt, grdK_ff, grdK_tf, grdK_ft, grdK_undef, actK_p, actK_r, actK_a, actK_w, actK_call, actK_callV, heapK_app, allocK_app, writeK_app, ret1_ret, ret1_normal, ret0_ret, ret0_normal, ret2_ret2, thenK_app, retcv_ret, retcvK_app, optW_some, evs, Arg.ev, aP, aR, aA, aW, pMov, pBin, pUn, pConv, pPick, pFieldAddr, pNilCheck, pExtract, aBin, aUn, aInt, aNew, partL_f, upd, List.getElem?_cons_zero, List.getElem?_cons_succ, List.getD_cons_zero, List.getD_cons_succ, List.set_cons_zero, List.set_cons_succ, Nat.zero_add, Nat.add_zero, List.getElem?_toArray, List.take_zero, List.drop_zero, List.take_succ_cons, List.drop_succ_cons, if_true, if_false, decide_true, decide_false, Bool.false_eq_true, Bool.true_eq_false, Bool.not_true, Bool.not_false, not_true_eq_false, not_false_eq_true, ge_iff_le, gt_iff_lt, beq_self_eq_true, bne_self_eq_false, and_self, and_true, true_and, Option.isSome_some, Heap.get_alloc_same, Heap.alloc_getE, bslice_signs', *] | with_reducible refine cndK_d (fun hc => ?_) (fun hc => ?_) | with_reducible refine grdK_d (fun hc => ?_) (fun hc => ?_) | with_reducible refine cndK_i (fun hc => ?_) (fun hc => ?_) | with_reducible refine grdK_i (fun hc => ?_) (fun hc => ?_))
  refine LoopW.upto 25 (fun i e h' => h' = h1 ∧ (signsL.take i).find? (·.isPrefixOf l) = none ∧ e = [str l, .string ⟨#[]⟩, .slice (some ⟨q, 0, none⟩) 25 1, .int .i64 i]) ?_ (Nat.zero_le _) ⟨rfl, rfl, rfl⟩
  rintro i _ h2 R hi ⟨rfl, hpre, rfl⟩ hR
  replace hpre := Hid.mk hpre
  delta c38_l7 c38_r0 c38_r1 c38_r2 c38_r3 c38_r4 c38_r5 c38_r6 c38_r8
  by_cases hlt : i < 25
  case neg =>
    have hlt' : ¬ (i : Int) < 25 := by omega
    have hw : refSignS l = [] := by
      have := hpre.h
      rw [List.take_of_length_le (show signsL.length ≤ i by show 25 ≤ i; omega)] at this
      unfold refSignS; rw [this]; rfl
    rw [hw] at g
    repeat' (first | simp -implicitDefEqProofs only [W_skip, W_reg, W_seq, W_rcond, W_cond, W_block, W_loop, W_exit, W_ret, thenQ_normal, thenQ_exit, thenQ_ret, blockQ_normal, blockQ_ret, blockQ_here, regQ_app, rcQ_app, cndK_t, cndK_f, RegW_nil, RegW_none, RegW_some, contW_app, grdK_tt, grdK_ff, grdK_tf, grdK_ft, grdK_undef, actK_p, actK_r, actK_a, actK_w, actK_call, actK_callV, heapK_app, allocK_app, writeK_app, ret1_ret, ret1_normal, ret0_ret, ret0_normal, ret2_ret2, thenK_app, retcv_ret, retcvK_app, optW_some, evs, Arg.ev, aP, aR, aA, aW, pMov, pBin, pUn, pConv, pPick, pFieldAddr, pNilCheck, pExtract, aBin, aUn, aInt, aNew, partL_f, upd, List.getElem?_cons_zero, List.getElem?_cons_succ, List.getD_cons_zero, List.getD_cons_succ, List.set_cons_zero, List.set_cons_succ, Nat.zero_add, Nat.add_zero, List.getElem?_toArray, List.take_zero, List.drop_zero, List.take_succ_cons, List.drop_succ_cons, if_true, if_false, decide_true, decide_false, Bool.false_eq_true, Bool.true_eq_false, Bool.not_true, Bool.not_false, not_true_eq_false, not_false_eq_true, ge_iff_le, gt_iff_lt, beq_self_eq_true, bne_self_eq_false, and_self, and_true, true_and, Option.isSome_some, Heap.get_alloc_same, Heap.alloc_getE, *] | with_reducible refine cndK_d (fun hc => ?_) (fun hc => ?_) | with_reducible refine grdK_d (fun hc => ?_) (fun hc => ?_) | with_reducible refine cndK_i (fun hc => ?_) (fun hc => ?_) | with_reducible refine grdK_i (fun hc => ?_) (fun hc => ?_))
    exact g.h
  case pos =>
    have hlt' : (i : Int) < 25 := by omega
    have hwj : IntKind.i64.wrap ((i : Int) + 1) = ((i + 1 : Nat) : Int) := by rw [wrapI (by omega) (by omega)]; rfl
    obtain ⟨w, hw⟩ : ∃ w, signsL[i]? = some w := ⟨_, List.getElem?_eq_getElem (show i < signsL.length from hlt)⟩
    obtain ⟨id, off, cells, own, e1, e2, e3, _⟩ := ss.h.elem hw
    cases hs : w.isPrefixOf l with
    | true =>
      have hin : refSignS l = w := by
        unfold refSignS
        have hfi : signsL.find? (·.isPrefixOf l) = some w := by
          rw [← List.take_append_drop i signsL, List.find?_append, hpre.h]
          have : signsL.drop i = w :: signsL.drop (i + 1) := by
            rw [List.drop_eq_getElem_cons (show i < signsL.length from hlt)]
            congr 1
            exact (List.getElem?_eq_some_iff.1 hw).2
          rw [this]
          simp [hs]
        rw [hfi]; rfl
      rw [hin] at g
      have hle := pre_len hs
      have hle' : (w.length : Int) ≤ (l.length : Int) := by omega
      have ct := cutHi_S hle
      have htk : (l.take w.length == w) = true := by
        have := List.prefix_iff_eq_take.1 (List.isPrefixOf_iff_prefix.1 hs)
        rw [← this]; simp
      replace hw := Hid.mk hw
      clear hin hs hle
      repeat' (first | simp -implicitDefEqProofs only [W_skip, W_reg, W_seq, W_rcond, W_cond, W_block, W_loop, W_exit, W_ret, thenQ_normal, thenQ_exit, thenQ_ret, blockQ_normal, blockQ_ret, blockQ_here, regQ_app, rcQ_app, cndK_t, cndK_f, RegW_nil, RegW_none, RegW_some, contW_app, grdK_tt, grdK_ff, grdK_tf, grdK_ft, grdK_undef, actK_p, actK_r, actK_a, actK_w, actK_call, actK_callV, heapK_app, allocK_app, writeK_app, ret1_ret, ret1_normal, ret0_ret, ret0_normal, ret2_ret2, thenK_app, retcv_ret, retcvK_app, optW_some, evs, Arg.ev, aP, aR, aA, aW, pMov, pBin, pUn, pConv, pPick, pFieldAddr, pNilCheck, pExtract, aBin, aUn, aInt, aNew, partL_f, upd, List.getElem?_cons_zero, List.getElem?_cons_succ, List.getD_cons_zero, List.getD_cons_succ, List.set_cons_zero, List.set_cons_succ, Nat.zero_add, Nat.add_zero, List.getElem?_toArray, List.take_zero, List.drop_zero, List.take_succ_cons, List.drop_succ_cons, if_true, if_false, decide_true, decide_false, Bool.false_eq_true, Bool.true_eq_false, Bool.not_true, Bool.not_false, not_true_eq_false, not_false_eq_true, ge_iff_le, gt_iff_lt, beq_self_eq_true, bne_self_eq_false, and_self, and_true, true_and, Option.isSome_some, Heap.get_alloc_same, Heap.alloc_getE, eq_S, len_S, *] | with_reducible refine cndK_d (fun hc => ?_) (fun hc => ?_) | with_reducible refine grdK_d (fun hc => ?_) (fun hc => ?_) | with_reducible refine cndK_i (fun hc => ?_) (fun hc => ?_) | with_reducible refine grdK_i (fun hc => ?_) (fun hc => ?_))
      exact g.h
    | false =>
      have hnx : (signsL.take (i + 1)).find? (·.isPrefixOf l) = none := by
        rw [List.take_add_one, hw, List.find?_append, hpre.h]
        simp [hs]
      replace hw := Hid.mk hw
      replace hnx := Hid.mk hnx
      by_cases hle : w.length ≤ l.length
      · have hle' : (w.length : Int) ≤ (l.length : Int) := by omega
        have ct := cutHi_S hle
        have htk : (l.take w.length == w) = false := by
          cases h : (l.take w.length == w) with
          | false => rfl
          | true =>
            have h : l.take w.length = w := by simpa using h
            have := List.isPrefixOf_iff_prefix.2 (List.prefix_iff_eq_take.2 h.symm)
            rw [hs] at this; cases this
        clear hs hle
        repeat' (first | simp -implicitDefEqProofs only [W_skip, W_reg, W_seq, W_rcond, W_cond, W_block, W_loop, W_exit, W_ret, thenQ_normal, thenQ_exit, thenQ_ret, blockQ_normal, blockQ_ret, blockQ_here, regQ_app, rcQ_app, cndK_t, cndK_f, RegW_nil, RegW_none, RegW_some, contW_app, grdK_tt, grdK_ff, grdK_tf, grdK_ft, grdK_undef, actK_p, actK_r, actK_a, actK_w, actK_call, actK_callV, heapK_app, allocK_app, writeK_app, ret1_ret, ret1_normal, ret0_ret, ret0_normal, ret2_ret2, thenK_app, retcv_ret, retcvK_app, optW_some, evs, Arg.ev, aP, aR, aA, aW, pMov, pBin, pUn, pConv, pPick, pFieldAddr, pNilCheck, pExtract, aBin, aUn, aInt, aNew, partL_f, upd, List.getElem?_cons_zero, List.getElem?_cons_succ, List.getD_cons_zero, List.getD_cons_succ, List.set_cons_zero, List.set_cons_succ, Nat.zero_add, Nat.add_zero, List.getElem?_toArray, List.take_zero, List.drop_zero, List.take_succ_cons, List.drop_succ_cons, if_true, if_false, decide_true, decide_false, Bool.false_eq_true, Bool.true_eq_false, Bool.not_true, Bool.not_false, not_true_eq_false, not_false_eq_true, ge_iff_le, gt_iff_lt, beq_self_eq_true, bne_self_eq_false, and_self, and_true, true_and, Option.isSome_some, Heap.get_alloc_same, Heap.alloc_getE, eq_S, len_S, *] | with_reducible refine cndK_d (fun hc => ?_) (fun hc => ?_) | with_reducible refine grdK_d (fun hc => ?_) (fun hc => ?_) | with_reducible refine cndK_i (fun hc => ?_) (fun hc => ?_) | with_reducible refine grdK_i (fun hc => ?_) (fun hc => ?_))
        exact hR.h _ _ hlt ⟨rfl, hnx.h, rfl⟩
      · have hle' : ¬ (w.length : Int) ≤ (l.length : Int) := by omega
        clear hs hle
        repeat' (first | simp -implicitDefEqProofs only [W_skip, W_reg, W_seq, W_rcond, W_cond, W_block, W_loop, W_exit, W_ret, thenQ_normal, thenQ_exit, thenQ_ret, blockQ_normal, blockQ_ret, blockQ_here, regQ_app, rcQ_app, cndK_t, cndK_f, RegW_nil, RegW_none, RegW_some, contW_app, grdK_tt, grdK_ff, grdK_tf, grdK_ft, grdK_undef, actK_p, actK_r, actK_a, actK_w, actK_call, actK_callV, heapK_app, allocK_app, writeK_app, ret1_ret, ret1_normal, ret0_ret, ret0_normal, ret2_ret2, thenK_app, retcv_ret, retcvK_app, optW_some, evs, Arg.ev, aP, aR, aA, aW, pMov, pBin, pUn, pConv, pPick, pFieldAddr, pNilCheck, pExtract, aBin, aUn, aInt, aNew, partL_f, upd, List.getElem?_cons_zero, List.getElem?_cons_succ, List.getD_cons_zero, List.getD_cons_succ, List.set_cons_zero, List.set_cons_succ, Nat.zero_add, Nat.add_zero, List.getElem?_toArray, List.take_zero, List.drop_zero, List.take_succ_cons, List.drop_succ_cons, if_true, if_false, decide_true, decide_false, Bool.false_eq_true, Bool.true_eq_false, Bool.not_true, Bool.not_false, not_true_eq_false, not_false_eq_true, ge_iff_le, gt_iff_lt, beq_self_eq_true, bne_self_eq_false, and_self, and_true, true_and, Option.isSome_some, Heap.get_alloc_same, Heap.alloc_getE, eq_S, len_S, *] | with_reducible refine cndK_d (fun hc => ?_) (fun hc => ?_) | with_reducible refine grdK_d (fun hc => ?_) (fun hc => ?_) | with_reducible refine cndK_i (fun hc => ?_) (fun hc => ?_) | with_reducible refine grdK_i (fun hc => ?_) (fun hc => ?_))
        exact hR.h _ _ hlt ⟨rfl, hnx.h, rfl⟩
end Go.Eng.Tk

