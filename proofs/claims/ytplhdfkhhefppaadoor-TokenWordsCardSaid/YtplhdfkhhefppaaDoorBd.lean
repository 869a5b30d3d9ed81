/-
  Part of a proof of the laws of layer 05 (token): what each function does.
  Conditions: none.
-/
import Derived.Test.YtplhdfkhhefppaaDoorBc
set_option linter.unusedSimpArgs false
set_option linter.unusedVariables false
namespace Go.Eng.Tk
open Go Go.Eng Go.Proofs

theorem Raws.at' {h : Heap} {v : Value} {l : List (Int × Int)} (hv : Raws h v l) {i : Nat} (hi : i < l.length) :
    ∃ id off cells own, pIdxAddrS 2 [v, .int .i64 i] = some (.pointer (some ⟨id, off, none⟩)) ∧ h.get id = some (.blk cells own) ∧ cells[off]? = some (.int .i64 (l.getD i (0, 0)).1) ∧ cells[off + 1]? = some (.int .i64 (l.getD i (0, 0)).2) ∧
      pIdxAddrA 2 1 [.pointer (some ⟨id, off, none⟩), .int .i64 0] = some (.pointer (some ⟨id, off, none⟩)) ∧ pIdxAddrA 2 1 [.pointer (some ⟨id, off, none⟩), .int .i64 1] = some (.pointer (some ⟨id, off + 1, none⟩)) := by
  obtain ⟨id, off, cells, own, h1, h2, h3, h4⟩ := Raws.elem hv (getD_some hi (0, 0))
  refine ⟨id, off, cells, own, h1, h2, h3, h4, ?_, ?_⟩
  · simp [pIdxAddrA]
  · simp [pIdxAddrA]
theorem lf_space (i : Nat) : (fun _ : Nat => ([10] : List UInt8)) i ∈ spaces := by
  show ([10] : List UInt8) ∈ spaces
  decide
theorem scanR_bad {ps : List (Tok × List UInt8)} (h : goodS ps) {b : UInt8} (hb : b ∈ badL) (x : List UInt8) (hl : (seqT ps ++ b :: x).length ≤ 20000) : scanR (seqT ps ++ b :: x) = ([], 50, 1 + (feedsN (seqT ps) : Int)) := by
  unfold scanR
  rw [if_neg (by omega), scanS_W, scanW_seq h, scanW_badb hb, linesM_line h]
  rfl

/-! ### TokenWrong -/
theorem TokenWrong_c {v : Value} {raw : List (Int × Int)} {at' c : Int} {h : Heap} (hv : Raws h v raw) (hok : ∀ r ∈ raw, inI r.1 ∧ inI r.2) (hlen : (raw.length : Int) ≤ 9223372036854775807) (ha : inI at') (hc : inI c) :
    CallW Tryd.prog 6 [v, .int .i64 at', .int .i64 c] h fun v _ => v = .bool true := by
  obtain ⟨Q, hQ⟩ : ∃ Q : Value → Heap → Prop, Q = fun v _ => v = .bool true := ⟨_, rfl⟩
  rw [← hQ]
  have hq : ∀ h', Q (.bool true) h' := fun h' => by rw [hQ]
  clear hQ
  obtain ⟨hlt, hpj⟩ := pickN_lt hc (n := 9) (by omega)
  obtain ⟨j, hj⟩ : ∃ j, pickN c 9 = j := ⟨_, rfl⟩
  rw [hj] at hlt hpj
  have hpj' : pick c 9 = (j : Int) := hpj.symm
  obtain ⟨b, hb⟩ : ∃ b, badL[j]? = some b := ⟨_, List.getElem?_eq_getElem (show j < badL.length from hlt)⟩
  have hbm : b ∈ badL := List.mem_of_getElem? hb
  have ix : pIdxStr [.string ⟨#[64, 36, 63, 58, 44, 34, 39, 96, 92]⟩, .int .i64 (j : Int)] = some (.int .u8 b.toNat) := idx_S (l := badL) hb .i64
  obtain ⟨n, hn⟩ : ∃ n, min raw.length 30 = n := ⟨_, rfl⟩
  have hmin : pMinI false [.int .i64 (raw.length : Int), .int .i64 30] = some (.int .i64 (n : Int)) := by
    simp only [pMinI, Bool.false_eq_true, if_false, if_true]
    congr 2
    split <;> omega
  obtain ⟨hlt2, hpk⟩ := pickN_lt ha (n := n + 1) (by omega)
  obtain ⟨k, hk⟩ : ∃ k, pickN at' (n + 1) = k := ⟨_, rfl⟩
  rw [hk] at hlt2 hpk
  have hw1 : IntKind.i64.wrap ((n : Int) + 1) = ((n + 1 : Nat) : Int) := by rw [wrapI (by omega) (by omega)]; rfl
  clear hj hpj hk hb
  have lr := Raws.len hv
  refine call_of1 (k := 3) ok6 rfl rfl rfl fun N => ?_
  rw [show env0 c6 [v, .int .i64 at', .int .i64 c] = [v, .int .i64 at', .int .i64 c, undef, undef, undef, undef, undef, undef, undef, undef, undef, undef, undef] from rfl]
  delta c6 c6_r0 c6_r1 c6_r2 c6_r3 c6_r4 c6_r5 c6_r6 c6_r7 c6_r8 c6_r9 c6_r10 c6_r11 c6_r12 c6_r14 c6_r15 c6_r16 c6_r17
  replace hq := Hid.mk hq
  repeat' (first | simp -implicitDefEqProofs only [W_skip, W_reg, W_seq, W_rcond, W_cond, W_block, W_loop, W_exit, W_ret, thenQ_normal, thenQ_exit, thenQ_ret, blockQ_normal, blockQ_ret, blockQ_here, regQ_app, rcQ_app, cndK_t, cndK_f, RegW_nil, RegW_none, RegW_some, contW_app, grdK_tt, grdK_ff, grdK_tf, grdK_ft, grdK_undef, actK_p, actK_r, actK_a, actK_w, actK_call, actK_callV, heapK_app, allocK_app, writeK_app, ret1_ret, ret1_normal, ret0_ret, ret0_normal, ret2_ret2, thenK_app, retcv_ret, retcvK_app, optW_some, evs, Arg.ev, aP, aR, aA, aW, pMov, pBin, pUn, pConv, pPick, pFieldAddr, pNilCheck, pExtract, aBin, aUn, aInt, aNew, partL_f, upd, List.getElem?_cons_zero, List.getElem?_cons_succ, List.getD_cons_zero, List.getD_cons_succ, List.set_cons_zero, List.set_cons_succ, Nat.zero_add, Nat.add_zero, List.getElem?_toArray, List.take_zero, List.drop_zero, List.take_succ_cons, List.drop_succ_cons, if_true, if_false, decide_true, decide_false, Bool.false_eq_true, Bool.true_eq_false, Bool.not_true, Bool.not_false, not_true_eq_false, not_false_eq_true, ge_iff_le, gt_iff_lt, beq_self_eq_true, bne_self_eq_false, and_self, and_true, true_and, Option.isSome_some, Heap.get_alloc_same, Heap.alloc_getE, *] | with_reducible refine cndK_d (fun hc => ?_) (fun hc => ?_) | with_reducible refine grdK_d (fun hc => ?_) (fun hc => ?_) | with_reducible refine cndK_i (fun hc => ?_) (fun hc => ?_) | with_reducible refine grdK_i (fun hc => ?_) (fun hc => ?_))
  refine awake_c h _ fun h1 l1 => ?_
  repeat' (first | simp -implicitDefEqProofs only [W_skip, W_reg, W_seq, W_rcond, W_cond, W_block, W_loop, W_exit, W_ret, thenQ_normal, thenQ_exit, thenQ_ret, blockQ_normal, blockQ_ret, blockQ_here, regQ_app, rcQ_app, cndK_t, cndK_f, RegW_nil, RegW_none, RegW_some, contW_app, grdK_tt, grdK_ff, grdK_tf, grdK_ft, grdK_undef, actK_p, actK_r, actK_a, actK_w, actK_call, actK_callV, heapK_app, allocK_app, writeK_app, ret1_ret, ret1_normal, ret0_ret, ret0_normal, ret2_ret2, thenK_app, retcv_ret, retcvK_app, optW_some, evs, Arg.ev, aP, aR, aA, aW, pMov, pBin, pUn, pConv, pPick, pFieldAddr, pNilCheck, pExtract, aBin, aUn, aInt, aNew, partL_f, upd, List.getElem?_cons_zero, List.getElem?_cons_succ, List.getD_cons_zero, List.getD_cons_succ, List.set_cons_zero, List.set_cons_succ, Nat.zero_add, Nat.add_zero, List.getElem?_toArray, List.take_zero, List.drop_zero, List.take_succ_cons, List.drop_succ_cons, if_true, if_false, decide_true, decide_false, Bool.false_eq_true, Bool.true_eq_false, Bool.not_true, Bool.not_false, not_true_eq_false, not_false_eq_true, ge_iff_le, gt_iff_lt, beq_self_eq_true, bne_self_eq_false, and_self, and_true, true_and, Option.isSome_some, Heap.get_alloc_same, Heap.alloc_getE, *] | with_reducible refine cndK_d (fun hc => ?_) (fun hc => ?_) | with_reducible refine grdK_d (fun hc => ?_) (fun hc => ?_) | with_reducible refine cndK_i (fun hc => ?_) (fun hc => ?_) | with_reducible refine grdK_i (fun hc => ?_) (fun hc => ?_))
  refine pick_c _ 9 (by decide) h1 _ ?_
  rw [hpj']
  repeat' (first | simp -implicitDefEqProofs only [W_skip, W_reg, W_seq, W_rcond, W_cond, W_block, W_loop, W_exit, W_ret, thenQ_normal, thenQ_exit, thenQ_ret, blockQ_normal, blockQ_ret, blockQ_here, regQ_app, rcQ_app, cndK_t, cndK_f, RegW_nil, RegW_none, RegW_some, contW_app, grdK_tt, grdK_ff, grdK_tf, grdK_ft, grdK_undef, actK_p, actK_r, actK_a, actK_w, actK_call, actK_callV, heapK_app, allocK_app, writeK_app, ret1_ret, ret1_normal, ret0_ret, ret0_normal, ret2_ret2, thenK_app, retcv_ret, retcvK_app, optW_some, evs, Arg.ev, aP, aR, aA, aW, pMov, pBin, pUn, pConv, pPick, pFieldAddr, pNilCheck, pExtract, aBin, aUn, aInt, aNew, partL_f, upd, List.getElem?_cons_zero, List.getElem?_cons_succ, List.getD_cons_zero, List.getD_cons_succ, List.set_cons_zero, List.set_cons_succ, Nat.zero_add, Nat.add_zero, List.getElem?_toArray, List.take_zero, List.drop_zero, List.take_succ_cons, List.drop_succ_cons, if_true, if_false, decide_true, decide_false, Bool.false_eq_true, Bool.true_eq_false, Bool.not_true, Bool.not_false, not_true_eq_false, not_false_eq_true, ge_iff_le, gt_iff_lt, beq_self_eq_true, bne_self_eq_false, and_self, and_true, true_and, Option.isSome_some, Heap.get_alloc_same, Heap.alloc_getE, *] | with_reducible refine cndK_d (fun hc => ?_) (fun hc => ?_) | with_reducible refine grdK_d (fun hc => ?_) (fun hc => ?_) | with_reducible refine cndK_i (fun hc => ?_) (fun hc => ?_) | with_reducible refine grdK_i (fun hc => ?_) (fun hc => ?_))
  refine pick_c _ ((n + 1 : Nat) : Int) (by omega) h1 _ ?_
  rw [← hpk]
  replace hpk := Hid.mk hpk
  have hv1 := Hid.mk (hv.mono l1)
  replace hv := Hid.mk hv
  replace hok := Hid.mk hok
  replace hbm := Hid.mk hbm
  repeat' (first | simp -implicitDefEqProofs only [W_skip, W_reg, W_seq, W_rcond, W_cond, W_block, W_loop, W_exit, W_ret, thenQ_normal, thenQ_exit, thenQ_ret, blockQ_normal, blockQ_ret, blockQ_here, regQ_app, rcQ_app, cndK_t, cndK_f, RegW_nil, RegW_none, RegW_some, contW_app, grdK_tt, grdK_ff, grdK_tf, grdK_ft, grdK_undef, actK_p, actK_r, actK_a, actK_w, actK_call, actK_callV, heapK_app, allocK_app, writeK_app, ret1_ret, ret1_normal, ret0_ret, ret0_normal, ret2_ret2, thenK_app, retcv_ret, retcvK_app, optW_some, evs, Arg.ev, aP, aR, aA, aW, pMov, pBin, pUn, pConv, pPick, pFieldAddr, pNilCheck, pExtract, aBin, aUn, aInt, aNew, partL_f, upd, List.getElem?_cons_zero, List.getElem?_cons_succ, List.getD_cons_zero, List.getD_cons_succ, List.set_cons_zero, List.set_cons_succ, Nat.zero_add, Nat.add_zero, List.getElem?_toArray, List.take_zero, List.drop_zero, List.take_succ_cons, List.drop_succ_cons, if_true, if_false, decide_true, decide_false, Bool.false_eq_true, Bool.true_eq_false, Bool.not_true, Bool.not_false, not_true_eq_false, not_false_eq_true, ge_iff_le, gt_iff_lt, beq_self_eq_true, bne_self_eq_false, and_self, and_true, true_and, Option.isSome_some, Heap.get_alloc_same, Heap.alloc_getE, *] | with_reducible refine cndK_d (fun hc => ?_) (fun hc => ?_) | with_reducible refine grdK_d (fun hc => ?_) (fun hc => ?_) | with_reducible refine cndK_i (fun hc => ?_) (fun hc => ?_) | with_reducible refine grdK_i (fun hc => ?_) (fun hc => ?_))
  refine LoopW.upto n (fun i e h' => h1.le h' ∧ ∃ s x10, e = [v, .int .i64 at', .int .i64 c, .bool false, .bool true, .int .u8 b.toNat, str s, .int .i64 n, .int .i64 k, .int .i64 i, x10, undef, undef, undef] ∧
    s.length ≤ 40 * i ∧ (i ≤ k → s = seqT (pairs raw (fun _ => [10]) i)) ∧ (k < i → ∃ x, s = seqT (pairs raw (fun _ => [10]) k) ++ b :: x)) ?_ (Nat.zero_le _) ⟨Heap.le.refl _, [], undef, rfl, by simp, fun _ => rfl, fun e => by omega⟩
  rintro i _ h' R hi ⟨lh, s, x10, rfl, hsl, hs1, hs2⟩ hR
  have hs1 := Hid.mk hs1
  have hs2 := Hid.mk hs2
  delta c6_l13 c6_r0 c6_r1 c6_r2 c6_r3 c6_r4 c6_r5 c6_r6 c6_r7 c6_r8 c6_r9 c6_r10 c6_r11 c6_r12 c6_r14 c6_r15 c6_r16 c6_r17
  by_cases hlt' : i < n
  case neg =>
    have hlt'' : ¬ (i : Int) < (n : Int) := by omega
    have hin : i = n := by omega
    -- what is scanned
    have fin : ∀ (s' : List UInt8) (h2 : Heap), (∃ x, s' = seqT (pairs raw (fun _ => [10]) k) ++ b :: x) → s'.length ≤ 20000 → ∃ v3 h3, True := fun _ _ _ _ => ⟨undef, h1, trivial⟩
    clear fin
    have hfin : ∀ (s' : List UInt8), (∃ x, s' = seqT (pairs raw (fun _ => [10]) k) ++ b :: x) → s'.length ≤ 20000 → scanR s' = ([], 50, ((1 + k : Nat) : Int)) := by
      rintro s' ⟨x, rfl⟩ hl
      rw [scanR_bad (pairs_good hok.h lf_space k) hbm.h x hl, feeds_pairs hok.h k]
      rfl
    have hwk : IntKind.i64.wrap ((k : Int) + 1) = ((1 + k : Nat) : Int) := by rw [wrapI (by omega) (by omega)]; omega
    have e1 : (((1 + k : Nat) : Int) == ((1 + k : Nat) : Int)) = true := by simp
    have e2 : ((0 : Int) == 0) = true := rfl
    have e3 : ((50 : Int) == 50) = true := rfl
    replace hfin := Hid.mk hfin
    by_cases hkn : k = n
    · have hkn' : ((k : Int) == (n : Int)) = true := by simp; omega
      obtain ⟨q, hqq⟩ : ∃ x, h'.next = x := ⟨_, rfl⟩
      have bs : aBslice [.int .u8 0] [(0, 1)] 1 1 [.int .u8 (b.toNat : Int)] = some ([.int .u8 (b.toNat : Int)], fun id => .slice (some ⟨id, 0, none⟩) 1 1) := aBslice_one rfl rfl rfl rfl
      obtain ⟨h2, hh1⟩ : ∃ x, h'.alloc (.blk [.int .u8 (b.toNat : Int)] true) = x := ⟨_, rfl⟩
      have g1 : h2.get q = some (.blk [.int .u8 (b.toNat : Int)] true) := by rw [← hh1, ← hqq]; exact Heap.get_alloc_same _ _
      have b1 := bytesStr1 g1
      have ct := cat_S (a := s) (b := [b]) (by simp; omega)
      have hsc := hfin.h (s ++ [b]) ⟨[], by rw [hs1.h (by omega), hin, hkn]⟩ (by simp; omega)
      clear hkn hin
      repeat' (first | simp -implicitDefEqProofs only [W_skip, W_reg, W_seq, W_rcond, W_cond, W_block, W_loop, W_exit, W_ret, thenQ_normal, thenQ_exit, thenQ_ret, blockQ_normal, blockQ_ret, blockQ_here, regQ_app, rcQ_app, cndK_t, cndK_f, RegW_nil, RegW_none, RegW_some, contW_app, grdK_tt, grdK_ff, grdK_tf, grdK_ft, grdK_undef, actK_p, actK_r, actK_a, actK_w, actK_call, actK_callV, heapK_app, allocK_app, writeK_app, ret1_ret, ret1_normal, ret0_ret, ret0_normal, ret2_ret2, thenK_app, retcv_ret, retcvK_app, optW_some, evs, Arg.ev, aP, aA, aW, pMov, pBin, pUn, pConv, pPick, pFieldAddr, pNilCheck, pExtract, aBin, aUn, aInt, aNew, partL_f, upd, List.getElem?_cons_zero, List.getElem?_cons_succ, List.getD_cons_zero, List.getD_cons_succ, List.set_cons_zero, List.set_cons_succ, Nat.zero_add, Nat.add_zero, List.getElem?_toArray, List.take_zero, List.drop_zero, List.take_succ_cons, List.drop_succ_cons, if_true, if_false, decide_true, decide_false, Bool.false_eq_true, Bool.true_eq_false, Bool.not_true, Bool.not_false, not_true_eq_false, not_false_eq_true, ge_iff_le, gt_iff_lt, beq_self_eq_true, bne_self_eq_false, and_self, and_true, true_and, Option.isSome_some, Heap.get_alloc_same, Heap.alloc_getE, *] | with_reducible refine cndK_d (fun hc => ?_) (fun hc => ?_) | with_reducible refine grdK_d (fun hc => ?_) (fun hc => ?_) | with_reducible refine cndK_i (fun hc => ?_) (fun hc => ?_) | with_reducible refine grdK_i (fun hc => ?_) (fun hc => ?_))
      refine Scan_c (l := s ++ [b]) h2 (Heap.le.refl h2) _ fun v3 h3 hv3 _ => ?_
      rw [hsc] at hv3 ⊢
      have hvl : pLenS [v3] = some (.int .i64 0) := tokS_len (ts := []) hv3.sl
      clear hv3 b1 g1
      repeat' (first | simp -implicitDefEqProofs only [W_skip, W_reg, W_seq, W_rcond, W_cond, W_block, W_loop, W_exit, W_ret, thenQ_normal, thenQ_exit, thenQ_ret, blockQ_normal, blockQ_ret, blockQ_here, regQ_app, rcQ_app, cndK_t, cndK_f, RegW_nil, RegW_none, RegW_some, contW_app, grdK_tt, grdK_ff, grdK_tf, grdK_ft, grdK_undef, actK_p, actK_r, actK_a, actK_w, actK_call, actK_callV, heapK_app, allocK_app, writeK_app, ret1_ret, ret1_normal, ret0_ret, ret0_normal, ret2_ret2, thenK_app, retcv_ret, retcvK_app, optW_some, evs, Arg.ev, aP, aR, aA, aW, pMov, pBin, pUn, pConv, pPick, pFieldAddr, pNilCheck, pExtract, aBin, aUn, aInt, aNew, partL_f, upd, List.getElem?_cons_zero, List.getElem?_cons_succ, List.getD_cons_zero, List.getD_cons_succ, List.set_cons_zero, List.set_cons_succ, Nat.zero_add, Nat.add_zero, List.getElem?_toArray, List.take_zero, List.drop_zero, List.take_succ_cons, List.drop_succ_cons, if_true, if_false, decide_true, decide_false, Bool.false_eq_true, Bool.true_eq_false, Bool.not_true, Bool.not_false, not_true_eq_false, not_false_eq_true, ge_iff_le, gt_iff_lt, beq_self_eq_true, bne_self_eq_false, and_self, and_true, true_and, Option.isSome_some, Heap.get_alloc_same, Heap.alloc_getE, extract3_0, extract3_1, extract3_2, *] | with_reducible refine cndK_d (fun hc => ?_) (fun hc => ?_) | with_reducible refine grdK_d (fun hc => ?_) (fun hc => ?_) | with_reducible refine cndK_i (fun hc => ?_) (fun hc => ?_) | with_reducible refine grdK_i (fun hc => ?_) (fun hc => ?_))
      exact hq.h _
    · have hkn' : ((k : Int) == (n : Int)) = false := by simp; omega
      have hsc := hfin.h s (hs2.h (by omega)) (by omega)
      clear hkn hin
      repeat' (first | simp -implicitDefEqProofs only [W_skip, W_reg, W_seq, W_rcond, W_cond, W_block, W_loop, W_exit, W_ret, thenQ_normal, thenQ_exit, thenQ_ret, blockQ_normal, blockQ_ret, blockQ_here, regQ_app, rcQ_app, cndK_t, cndK_f, RegW_nil, RegW_none, RegW_some, contW_app, grdK_tt, grdK_ff, grdK_tf, grdK_ft, grdK_undef, actK_p, actK_r, actK_a, actK_w, actK_call, actK_callV, heapK_app, allocK_app, writeK_app, ret1_ret, ret1_normal, ret0_ret, ret0_normal, ret2_ret2, thenK_app, retcv_ret, retcvK_app, optW_some, evs, Arg.ev, aP, aR, aA, aW, pMov, pBin, pUn, pConv, pPick, pFieldAddr, pNilCheck, pExtract, aBin, aUn, aInt, aNew, partL_f, upd, List.getElem?_cons_zero, List.getElem?_cons_succ, List.getD_cons_zero, List.getD_cons_succ, List.set_cons_zero, List.set_cons_succ, Nat.zero_add, Nat.add_zero, List.getElem?_toArray, List.take_zero, List.drop_zero, List.take_succ_cons, List.drop_succ_cons, if_true, if_false, decide_true, decide_false, Bool.false_eq_true, Bool.true_eq_false, Bool.not_true, Bool.not_false, not_true_eq_false, not_false_eq_true, ge_iff_le, gt_iff_lt, beq_self_eq_true, bne_self_eq_false, and_self, and_true, true_and, Option.isSome_some, Heap.get_alloc_same, Heap.alloc_getE, *] | with_reducible refine cndK_d (fun hc => ?_) (fun hc => ?_) | with_reducible refine grdK_d (fun hc => ?_) (fun hc => ?_) | with_reducible refine cndK_i (fun hc => ?_) (fun hc => ?_) | with_reducible refine grdK_i (fun hc => ?_) (fun hc => ?_))
      refine Scan_c (l := s) h' (Heap.le.refl h') _ fun v3 h3 hv3 _ => ?_
      rw [hsc] at hv3 ⊢
      have hvl : pLenS [v3] = some (.int .i64 0) := tokS_len (ts := []) hv3.sl
      clear hv3
      repeat' (first | simp -implicitDefEqProofs only [W_skip, W_reg, W_seq, W_rcond, W_cond, W_block, W_loop, W_exit, W_ret, thenQ_normal, thenQ_exit, thenQ_ret, blockQ_normal, blockQ_ret, blockQ_here, regQ_app, rcQ_app, cndK_t, cndK_f, RegW_nil, RegW_none, RegW_some, contW_app, grdK_tt, grdK_ff, grdK_tf, grdK_ft, grdK_undef, actK_p, actK_r, actK_a, actK_w, actK_call, actK_callV, heapK_app, allocK_app, writeK_app, ret1_ret, ret1_normal, ret0_ret, ret0_normal, ret2_ret2, thenK_app, retcv_ret, retcvK_app, optW_some, evs, Arg.ev, aP, aR, aA, aW, pMov, pBin, pUn, pConv, pPick, pFieldAddr, pNilCheck, pExtract, aBin, aUn, aInt, aNew, partL_f, upd, List.getElem?_cons_zero, List.getElem?_cons_succ, List.getD_cons_zero, List.getD_cons_succ, List.set_cons_zero, List.set_cons_succ, Nat.zero_add, Nat.add_zero, List.getElem?_toArray, List.take_zero, List.drop_zero, List.take_succ_cons, List.drop_succ_cons, if_true, if_false, decide_true, decide_false, Bool.false_eq_true, Bool.true_eq_false, Bool.not_true, Bool.not_false, not_true_eq_false, not_false_eq_true, ge_iff_le, gt_iff_lt, beq_self_eq_true, bne_self_eq_false, and_self, and_true, true_and, Option.isSome_some, Heap.get_alloc_same, Heap.alloc_getE, extract3_0, extract3_1, extract3_2, *] | with_reducible refine cndK_d (fun hc => ?_) (fun hc => ?_) | with_reducible refine grdK_d (fun hc => ?_) (fun hc => ?_) | with_reducible refine cndK_i (fun hc => ?_) (fun hc => ?_) | with_reducible refine grdK_i (fun hc => ?_) (fun hc => ?_))
      exact hq.h _
  case pos =>
    have hlt'' : (i : Int) < (n : Int) := by omega
    have hwj : IntKind.i64.wrap ((i : Int) + 1) = ((i + 1 : Nat) : Int) := by rw [wrapI (by omega) (by omega)]; rfl
    obtain ⟨r1, r2⟩ := raw_ok hok.h i
    have hpl := piece_len (kind := (raw.getD i (0, 0)).1) r2
    have hps : pairs raw (fun _ => [10]) (i + 1) = pairs raw (fun _ => [10]) i ++ [pairAt raw (fun _ => [10]) i] := pairs_succ _ _ _
    have hpt : (pairAt raw (fun _ => [10]) i).1.text = (pieceL (raw.getD i (0, 0)).1 (raw.getD i (0, 0)).2).1 := rfl
    have hp2 : (pairAt raw (fun _ => [10]) i).2 = [10] := rfl
    have hsq : seqT (pairs raw (fun _ => [10]) (i + 1)) = seqT (pairs raw (fun _ => [10]) i) ++ (pieceL (raw.getD i (0, 0)).1 (raw.getD i (0, 0)).2).1 ++ [10] := by rw [hps, seqT_snoc, hpt, hp2]
    clear hps hpt hp2
    obtain ⟨ra, hra⟩ : ∃ x, (raw.getD i (0, 0)).1 = x := ⟨_, rfl⟩
    obtain ⟨rb, hrb⟩ : ∃ x, (raw.getD i (0, 0)).2 = x := ⟨_, rfl⟩
    obtain ⟨w, hw⟩ : ∃ w, (pieceL ra rb).1 = w := ⟨_, rfl⟩
    rw [hra] at r1
    rw [hrb] at r2
    rw [hra, hrb, hw] at hpl hsq
    replace hsq := Hid.mk hsq
    by_cases hik : i = k
    · have hik' : ((i : Int) == (k : Int)) = true := by simp; omega
      have hs := hs1.h (by omega)
      obtain ⟨q, hqq⟩ : ∃ x, h'.next = x := ⟨_, rfl⟩
      have bs : aBslice [.int .u8 0] [(0, 1)] 1 1 [.int .u8 (b.toNat : Int)] = some ([.int .u8 (b.toNat : Int)], fun id => .slice (some ⟨id, 0, none⟩) 1 1) := aBslice_one rfl rfl rfl rfl
      obtain ⟨h2, hh1⟩ : ∃ x, h'.alloc (.blk [.int .u8 (b.toNat : Int)] true) = x := ⟨_, rfl⟩
      have l2 : h'.le h2 := by rw [← hh1]; exact (Heap.le.refl _).alloc _
      have g1 : h2.get q = some (.blk [.int .u8 (b.toNat : Int)] true) := by rw [← hh1, ← hqq]; exact Heap.get_alloc_same _ _
      have b1 := bytesStr1 g1
      have ct1 := cat_S (a := s) (b := [b]) (by simp; omega)
      have ct2 : aStr .add ⟨(s ++ [b]).toArray⟩ ⟨#[32]⟩ = some (str (s ++ [b] ++ [32])) := cat_S (a := s ++ [b]) (b := [32]) (by simp; omega)
      have ct3 := cat_S (a := s ++ [b] ++ [32]) (b := w) (by simp; omega)
      have ct4 : aStr .add ⟨(s ++ [b] ++ [32] ++ w).toArray⟩ ⟨#[10]⟩ = some (str (s ++ [b] ++ [32] ++ w ++ [10])) := cat_S (a := s ++ [b] ++ [32] ++ w) (b := [10]) (by simp; omega)
      obtain ⟨id, off, cells, own, a1, a2, a3, a4, a5, a6⟩ := Raws.at' ((hv1.h.mono lh).mono l2) (i := i) (by omega)
      rw [hra] at a3
      rw [hrb] at a4
      have g := fun x10 h3 (l3 : h2.le h3) => hR.h [v, .int .i64 at', .int .i64 c, .bool false, .bool true, .int .u8 b.toNat, str (s ++ [b] ++ [32] ++ w ++ [10]), .int .i64 n, .int .i64 k, .int .i64 ((i + 1 : Nat) : Int), x10, undef, undef, undef] h3 hlt' ⟨(lh.trans l2).trans l3, _, x10, rfl, by simp; omega, fun e => by omega, fun _ => ⟨32 :: (w ++ [10]), by rw [hs, hik]; simp⟩⟩
      replace g := Hid.mk g
      clear hik hs b1 lh
      have b1 := bytesStr1 g1
      repeat' (first | simp -implicitDefEqProofs only [W_skip, W_reg, W_seq, W_rcond, W_cond, W_block, W_loop, W_exit, W_ret, thenQ_normal, thenQ_exit, thenQ_ret, blockQ_normal, blockQ_ret, blockQ_here, regQ_app, rcQ_app, cndK_t, cndK_f, RegW_nil, RegW_none, RegW_some, contW_app, grdK_tt, grdK_ff, grdK_tf, grdK_ft, grdK_undef, actK_p, actK_r, actK_a, actK_w, actK_call, actK_callV, heapK_app, allocK_app, writeK_app, ret1_ret, ret1_normal, ret0_ret, ret0_normal, ret2_ret2, thenK_app, retcv_ret, retcvK_app, optW_some, evs, Arg.ev, aP, aA, aW, pMov, pBin, pUn, pConv, pPick, pFieldAddr, pNilCheck, pExtract, aBin, aUn, aInt, aNew, partL_f, upd, List.getElem?_cons_zero, List.getElem?_cons_succ, List.getD_cons_zero, List.getD_cons_succ, List.set_cons_zero, List.set_cons_succ, Nat.zero_add, Nat.add_zero, List.getElem?_toArray, List.take_zero, List.drop_zero, List.take_succ_cons, List.drop_succ_cons, if_true, if_false, decide_true, decide_false, Bool.false_eq_true, Bool.true_eq_false, Bool.not_true, Bool.not_false, not_true_eq_false, not_false_eq_true, ge_iff_le, gt_iff_lt, beq_self_eq_true, bne_self_eq_false, and_self, and_true, true_and, Option.isSome_some, Heap.get_alloc_same, Heap.alloc_getE, aR_ld, ldK_blk, *] | with_reducible refine cndK_d (fun hc => ?_) (fun hc => ?_) | with_reducible refine grdK_d (fun hc => ?_) (fun hc => ?_) | with_reducible refine cndK_i (fun hc => ?_) (fun hc => ?_) | with_reducible refine grdK_i (fun hc => ?_) (fun hc => ?_))
      refine piece_c r1 r2 h2 _ fun h3 l3 => ?_
      replace l3 := Hid.mk l3
      rw [hw]
      repeat' (first | simp -implicitDefEqProofs only [W_skip, W_reg, W_seq, W_rcond, W_cond, W_block, W_loop, W_exit, W_ret, thenQ_normal, thenQ_exit, thenQ_ret, blockQ_normal, blockQ_ret, blockQ_here, regQ_app, rcQ_app, cndK_t, cndK_f, RegW_nil, RegW_none, RegW_some, contW_app, grdK_tt, grdK_ff, grdK_tf, grdK_ft, grdK_undef, actK_p, actK_r, actK_a, actK_w, actK_call, actK_callV, heapK_app, allocK_app, writeK_app, ret1_ret, ret1_normal, ret0_ret, ret0_normal, ret2_ret2, thenK_app, retcv_ret, retcvK_app, optW_some, evs, Arg.ev, aP, aR, aA, aW, pMov, pBin, pUn, pConv, pPick, pFieldAddr, pNilCheck, pExtract, aBin, aUn, aInt, aNew, partL_f, upd, List.getElem?_cons_zero, List.getElem?_cons_succ, List.getD_cons_zero, List.getD_cons_succ, List.set_cons_zero, List.set_cons_succ, Nat.zero_add, Nat.add_zero, List.getElem?_toArray, List.take_zero, List.drop_zero, List.take_succ_cons, List.drop_succ_cons, if_true, if_false, decide_true, decide_false, Bool.false_eq_true, Bool.true_eq_false, Bool.not_true, Bool.not_false, not_true_eq_false, not_false_eq_true, ge_iff_le, gt_iff_lt, beq_self_eq_true, bne_self_eq_false, and_self, and_true, true_and, Option.isSome_some, Heap.get_alloc_same, Heap.alloc_getE, extract0, extract1, *] | with_reducible refine cndK_d (fun hc => ?_) (fun hc => ?_) | with_reducible refine grdK_d (fun hc => ?_) (fun hc => ?_) | with_reducible refine cndK_i (fun hc => ?_) (fun hc => ?_) | with_reducible refine grdK_i (fun hc => ?_) (fun hc => ?_))
      exact g.h _ _ l3.h
    · have hik' : ((i : Int) == (k : Int)) = false := by simp; omega
      have ct3 := cat_S (a := s) (b := w) (by omega)
      have ct4 : aStr .add ⟨(s ++ w).toArray⟩ ⟨#[10]⟩ = some (str (s ++ w ++ [10])) := cat_S (a := s ++ w) (b := [10]) (by simp; omega)
      obtain ⟨id, off, cells, own, a1, a2, a3, a4, a5, a6⟩ := Raws.at' (hv1.h.mono lh) (i := i) (by omega)
      rw [hra] at a3
      rw [hrb] at a4
      have g := fun x10 h3 (l3 : h'.le h3) => hR.h [v, .int .i64 at', .int .i64 c, .bool false, .bool true, .int .u8 b.toNat, str (s ++ w ++ [10]), .int .i64 n, .int .i64 k, .int .i64 ((i + 1 : Nat) : Int), x10, undef, undef, undef] h3 hlt' ⟨lh.trans l3, _, x10, rfl, by simp; omega, fun e => by rw [hsq.h, hs1.h (by omega)], fun e => by
        obtain ⟨x, hx⟩ := hs2.h (by omega)
        exact ⟨x ++ w ++ [10], by rw [hx]; simp⟩⟩
      replace g := Hid.mk g
      clear hik lh
      repeat' (first | simp -implicitDefEqProofs only [W_skip, W_reg, W_seq, W_rcond, W_cond, W_block, W_loop, W_exit, W_ret, thenQ_normal, thenQ_exit, thenQ_ret, blockQ_normal, blockQ_ret, blockQ_here, regQ_app, rcQ_app, cndK_t, cndK_f, RegW_nil, RegW_none, RegW_some, contW_app, grdK_tt, grdK_ff, grdK_tf, grdK_ft, grdK_undef, actK_p, actK_r, actK_a, actK_w, actK_call, actK_callV, heapK_app, allocK_app, writeK_app, ret1_ret, ret1_normal, ret0_ret, ret0_normal, ret2_ret2, thenK_app, retcv_ret, retcvK_app, optW_some, evs, Arg.ev, aP, aA, aW, pMov, pBin, pUn, pConv, pPick, pFieldAddr, pNilCheck, pExtract, aBin, aUn, aInt, aNew, partL_f, upd, List.getElem?_cons_zero, List.getElem?_cons_succ, List.getD_cons_zero, List.getD_cons_succ, List.set_cons_zero, List.set_cons_succ, Nat.zero_add, Nat.add_zero, List.getElem?_toArray, List.take_zero, List.drop_zero, List.take_succ_cons, List.drop_succ_cons, if_true, if_false, decide_true, decide_false, Bool.false_eq_true, Bool.true_eq_false, Bool.not_true, Bool.not_false, not_true_eq_false, not_false_eq_true, ge_iff_le, gt_iff_lt, beq_self_eq_true, bne_self_eq_false, and_self, and_true, true_and, Option.isSome_some, Heap.get_alloc_same, Heap.alloc_getE, aR_ld, ldK_blk, *] | with_reducible refine cndK_d (fun hc => ?_) (fun hc => ?_) | with_reducible refine grdK_d (fun hc => ?_) (fun hc => ?_) | with_reducible refine cndK_i (fun hc => ?_) (fun hc => ?_) | with_reducible refine grdK_i (fun hc => ?_) (fun hc => ?_))
      refine piece_c r1 r2 h' _ fun h3 l3 => ?_
      replace l3 := Hid.mk l3
      rw [hw]
      repeat' (first | simp -implicitDefEqProofs only [W_skip, W_reg, W_seq, W_rcond, W_cond, W_block, W_loop, W_exit, W_ret, thenQ_normal, thenQ_exit, thenQ_ret, blockQ_normal, blockQ_ret, blockQ_here, regQ_app, rcQ_app, cndK_t, cndK_f, RegW_nil, RegW_none, RegW_some, contW_app, grdK_tt, grdK_ff, grdK_tf, grdK_ft, grdK_undef, actK_p, actK_r, actK_a, actK_w, actK_call, actK_callV, heapK_app, allocK_app, writeK_app, ret1_ret, ret1_normal, ret0_ret, ret0_normal, ret2_ret2, thenK_app, retcv_ret, retcvK_app, optW_some, evs, Arg.ev, aP, aR, aA, aW, pMov, pBin, pUn, pConv, pPick, pFieldAddr, pNilCheck, pExtract, aBin, aUn, aInt, aNew, partL_f, upd, List.getElem?_cons_zero, List.getElem?_cons_succ, List.getD_cons_zero, List.getD_cons_succ, List.set_cons_zero, List.set_cons_succ, Nat.zero_add, Nat.add_zero, List.getElem?_toArray, List.take_zero, List.drop_zero, List.take_succ_cons, List.drop_succ_cons, if_true, if_false, decide_true, decide_false, Bool.false_eq_true, Bool.true_eq_false, Bool.not_true, Bool.not_false, not_true_eq_false, not_false_eq_true, ge_iff_le, gt_iff_lt, beq_self_eq_true, bne_self_eq_false, and_self, and_true, true_and, Option.isSome_some, Heap.get_alloc_same, Heap.alloc_getE, extract0, extract1, *] | with_reducible refine cndK_d (fun hc => ?_) (fun hc => ?_) | with_reducible refine grdK_d (fun hc => ?_) (fun hc => ?_) | with_reducible refine cndK_i (fun hc => ?_) (fun hc => ?_) | with_reducible refine grdK_i (fun hc => ?_) (fun hc => ?_))
      exact g.h _ _ l3.h
end Go.Eng.Tk

set_option linter.unusedSimpArgs false
set_option linter.unusedVariables false
namespace Go.Eng.Tk
open Go Go.Eng Go.Proofs

/-! ### what the scanner tells may be compared -/
theorem number_le {l : List UInt8} {n : Nat} (h : number l = some n) : n ≤ 4294967295 := by
  unfold number at h
  split at h
  · cases h
  · rename_i m hm
    split at h
    · cases h
    · cases h
      exact parseU_le hm
theorem inI1 : inI 1 := ⟨by decide, by decide⟩
theorem inI2 : inI 2 := ⟨by decide, by decide⟩
theorem inI3 : inI 3 := ⟨by decide, by decide⟩
theorem inI4 : inI 4 := ⟨by decide, by decide⟩
theorem inI5 : inI 5 := ⟨by decide, by decide⟩
theorem oneS_n (l : List UInt8) : inI (oneS l).1.n ∧ inI (oneS l).1.kind := by
  unfold oneS
  split
  · exact ⟨inI0, inI2⟩
  · split
    · exact ⟨inI0, inI1⟩
    · refine ⟨?_, inI3⟩
      cases h : number l with
      | none => exact inI0
      | some n =>
        have := number_le h
        simp only [Option.getD_some]
        unfold inI; omega
theorem scanP_ok : ∀ (k : Nat) (l : List UInt8) (m : Int), l.length ≤ 1000000 → 0 ≤ m → m + l.length ≤ 1000000000 → (∀ t ∈ (scanP k l m).1, t.ok) ∧ m ≤ (scanP k l m).2.1 ∧ (scanP k l m).2.1 ≤ m + l.length
  | 0, l, m, h1, h2, h3 => by simp [scanP]; omega
  | k + 1, [], m, h1, h2, h3 => by simp [scanP]
  | k + 1, b :: r, m, h1, h2, h3 => by
    have key : ∀ (w : Nat) (t : Tok), w ≤ (b :: r).length → inI t.n → inI t.kind → t.text.length ≤ (b :: r).length → (∀ u ∈ ({ t with line := m } :: (scanP k (skip false ((b :: r).drop w) m).1 (skip false ((b :: r).drop w) m).2).1), u.ok) ∧
        m ≤ (scanP k (skip false ((b :: r).drop w) m).1 (skip false ((b :: r).drop w) m).2).2.1 ∧ (scanP k (skip false ((b :: r).drop w) m).1 (skip false ((b :: r).drop w) m).2).2.1 ≤ m + (b :: r).length := by
      intro w t hw hn hk ht
      have s1 := skip_len false ((b :: r).drop w) m
      have s2 := skip_sum false ((b :: r).drop w) m
      have s3 : ((b :: r).drop w).length = (b :: r).length - w := by simp
      obtain ⟨i1, i2, i3⟩ := scanP_ok k (skip false ((b :: r).drop w) m).1 (skip false ((b :: r).drop w) m).2 (by omega) (by omega) (by omega)
      refine ⟨fun u hu => ?_, by omega, by omega⟩
      rcases List.mem_cons.1 hu with rfl | hu
      · exact ⟨hk, hn, by unfold inI; simp only; omega, by simp only; omega⟩
      · exact i1 u hu
    unfold scanP
    split
    · split
      · obtain ⟨o1, o2⟩ := oneS_n ((b :: r).take (runN (b :: r)))
        exact key _ _ (runN_le _) o1 o2 (by rw [oneS_text, List.length_take]; omega)
      · simp; omega
    · split
      · rename_i g hg
        obtain ⟨g1, g2⟩ := signs_pos hg
        exact key g.length ⟨4, g, 0, m⟩ g2 inI0 inI4 g2
      · simp; omega
theorem scanR_ok (l : List UInt8) : (∀ t ∈ (scanR l).1, t.ok) ∧ (scanR l).1.length ≤ 20001 ∧ 0 ≤ (scanR l).2.2 ∧ (scanR l).2.2 ≤ 20001 := by
  unfold scanR
  split
  · simp
  · rename_i hl
    have s1 := skip_len false l 1
    have s2 := skip_sum false l 1
    obtain ⟨i1, i2, i3⟩ := scanP_ok (l.length + 1) (skip false l 1).1 (skip false l 1).2 (by omega) (by omega) (by omega)
    have i4 := scanP_len (l.length + 1) (skip false l 1).1 (skip false l 1).2
    have e : scanS l = scanP (l.length + 1) (skip false l 1).1 (skip false l 1).2 := rfl
    rw [← e] at i1 i2 i3 i4
    split
    · refine ⟨fun t ht => ?_, by simp; omega, by simp, by simp⟩
      rcases List.mem_append.1 ht with ht | ht
      · exact i1 t ht
      · rw [List.mem_singleton.1 ht]
        exact ⟨inI5, inI0, by unfold inI endT; simp only; omega, by simp [endT]⟩
    · exact ⟨by simp, by simp, by simp only; omega, by simp only; omega⟩
theorem scanR_seq {ps : List (Tok × List UInt8)} (h : goodS ps) (hl : (seqT ps).length ≤ 20000) : scanR (seqT ps) = ((linesM ps 1).1 ++ [endT (linesM ps 1).2], 0, 0) := by
  have := scanW_seq h [] 1
  rw [List.append_nil, scanW_nil] at this
  unfold scanR
  rw [if_neg (by omega), scanS_W, this]
  simp
end Go.Eng.Tk

set_option linter.unusedSimpArgs false
set_option linter.unusedVariables false
namespace Go.Eng.Tk
open Go Go.Eng Go.Proofs

theorem build4 (k n m : Int) (l : List UInt8) : pBuild [.int .i64 0, .string ⟨#[]⟩, .int .i64 0, .int .i64 0] [(0, 1), (1, 1), (2, 1), (3, 1)] [.int .i64 k, str l, .int .i64 n, .int .i64 m] = some (Tok.val ⟨k, l, n, m⟩) := by rfl
theorem lines_bound {raw : List (Int × Int)} (h : ∀ r ∈ raw, inI r.1 ∧ inI r.2) {bl : Nat → List UInt8} (hb : ∀ i, bl i ∈ spaces) (n : Nat) : 1 ≤ (linesM (pairs raw bl n) 1).2 ∧ (linesM (pairs raw bl n) 1).2 ≤ 1 + 30 * (n : Int) := by
  rw [linesM_line (pairs_good h hb n)]
  have h1 := feedsN_le (seqT (pairs raw bl n))
  have h2 := pairs_len h hb n
  omega
/-! ### TokenWords -/
theorem TokenWords_c {v vb : Value} {raw : List (Int × Int)} {bl : List Int} {h : Heap} (hv : Raws h v raw) (hok : ∀ r ∈ raw, inI r.1 ∧ inI r.2) (hlen : (raw.length : Int) ≤ 9223372036854775807) (hvb : Ints h vb bl) (hob : ∀ z ∈ bl, inI z) (hlb : (bl.length : Int) ≤ 9223372036854775807) :
    CallW Tryd.prog 4 [v, vb] h fun v _ => v = .bool true := by
  obtain ⟨Q, hQ⟩ : ∃ Q : Value → Heap → Prop, Q = fun v _ => v = .bool true := ⟨_, rfl⟩
  rw [← hQ]
  have hq : ∀ h', Q (.bool true) h' := fun h' => by rw [hQ]
  clear hQ
  have lr := Raws.len hv
  obtain ⟨B, hB⟩ : ∃ B : Nat → List UInt8, (fun i => blankL bl i) = B := ⟨_, rfl⟩
  have hBs : ∀ i, B i ∈ spaces := fun i => by rw [← hB]; exact blankL_space bl hob i
  have hBi : ∀ i, blankL bl i = B i := fun i => by rw [← hB]
  clear hB
  refine call_of1 (k := 2) ok4 rfl rfl rfl fun N => ?_
  rw [show env0 c4 [v, vb] = [v, vb, undef, undef, undef, undef, undef, undef, undef, undef, undef, undef, undef, undef, undef] from rfl]
  delta c4 c4_r0 c4_r1 c4_r2 c4_r3 c4_r4 c4_r5 c4_r6 c4_r7 c4_r8 c4_r9 c4_r10 c4_r11 c4_r12 c4_r13 c4_r14 c4_r15 c4_r17 c4_r18 c4_r19
  replace hq := Hid.mk hq
  repeat' (first | simp -implicitDefEqProofs only [W_skip, W_reg, W_seq, W_rcond, W_cond, W_block, W_loop, W_exit, W_ret, thenQ_normal, thenQ_exit, thenQ_ret, blockQ_normal, blockQ_ret, blockQ_here, regQ_app, rcQ_app, cndK_t, cndK_f, RegW_nil, RegW_none, RegW_some, contW_app, grdK_tt, grdK_ff, grdK_tf, grdK_ft, grdK_undef, actK_p, actK_r, actK_a, actK_w, actK_call, actK_callV, heapK_app, allocK_app, writeK_app, ret1_ret, ret1_normal, ret0_ret, ret0_normal, ret2_ret2, thenK_app, retcv_ret, retcvK_app, optW_some, evs, Arg.ev, aP, aR, aA, aW, pMov, pBin, pUn, pConv, pPick, pFieldAddr, pNilCheck, pExtract, aBin, aUn, aInt, aNew, partL_f, upd, List.getElem?_cons_zero, List.getElem?_cons_succ, List.getD_cons_zero, List.getD_cons_succ, List.set_cons_zero, List.set_cons_succ, Nat.zero_add, Nat.add_zero, List.getElem?_toArray, List.take_zero, List.drop_zero, List.take_succ_cons, List.drop_succ_cons, if_true, if_false, decide_true, decide_false, Bool.false_eq_true, Bool.true_eq_false, Bool.not_true, Bool.not_false, not_true_eq_false, not_false_eq_true, ge_iff_le, gt_iff_lt, beq_self_eq_true, bne_self_eq_false, and_self, and_true, true_and, Option.isSome_some, Heap.get_alloc_same, Heap.alloc_getE, *] | with_reducible refine cndK_d (fun hc => ?_) (fun hc => ?_) | with_reducible refine grdK_d (fun hc => ?_) (fun hc => ?_) | with_reducible refine cndK_i (fun hc => ?_) (fun hc => ?_) | with_reducible refine grdK_i (fun hc => ?_) (fun hc => ?_))
  refine awake_c h _ fun h1 l1 => ?_
  have hv1 := Hid.mk (hv.mono l1)
  have hvb1 := Hid.mk (SlV.mono l1 hvb)
  clear hv hvb
  replace hok := Hid.mk hok
  replace hob := Hid.mk hob
  replace hBs := Hid.mk hBs
  replace hBi := Hid.mk hBi
  obtain ⟨n, hn⟩ : ∃ n, min raw.length 40 = n := ⟨_, rfl⟩
  repeat' (first | simp -implicitDefEqProofs only [W_skip, W_reg, W_seq, W_rcond, W_cond, W_block, W_loop, W_exit, W_ret, thenQ_normal, thenQ_exit, thenQ_ret, blockQ_normal, blockQ_ret, blockQ_here, regQ_app, rcQ_app, cndK_t, cndK_f, RegW_nil, RegW_none, RegW_some, contW_app, grdK_tt, grdK_ff, grdK_tf, grdK_ft, grdK_undef, actK_p, actK_r, actK_a, actK_w, actK_call, actK_callV, heapK_app, allocK_app, writeK_app, ret1_ret, ret1_normal, ret0_ret, ret0_normal, ret2_ret2, thenK_app, retcv_ret, retcvK_app, optW_some, evs, Arg.ev, aP, aR, aA, aW, pMov, pBin, pUn, pConv, pPick, pFieldAddr, pNilCheck, pExtract, aBin, aUn, aInt, aNew, partL_f, upd, List.getElem?_cons_zero, List.getElem?_cons_succ, List.getD_cons_zero, List.getD_cons_succ, List.set_cons_zero, List.set_cons_succ, Nat.zero_add, Nat.add_zero, List.getElem?_toArray, List.take_zero, List.drop_zero, List.take_succ_cons, List.drop_succ_cons, if_true, if_false, decide_true, decide_false, Bool.false_eq_true, Bool.true_eq_false, Bool.not_true, Bool.not_false, not_true_eq_false, not_false_eq_true, ge_iff_le, gt_iff_lt, beq_self_eq_true, bne_self_eq_false, and_self, and_true, true_and, Option.isSome_some, Heap.get_alloc_same, Heap.alloc_getE, *] | with_reducible refine cndK_d (fun hc => ?_) (fun hc => ?_) | with_reducible refine grdK_d (fun hc => ?_) (fun hc => ?_) | with_reducible refine cndK_i (fun hc => ?_) (fun hc => ?_) | with_reducible refine grdK_i (fun hc => ?_) (fun hc => ?_))
  refine LoopW.upto n (fun i e h' => h1.le h' ∧ ∃ out x8 x9 x10 x11, e = [v, vb, .bool false, .bool true, str (seqT (pairs raw B i)), .int .i64 (linesM (pairs raw B i) 1).2, out, .int .i64 i, x8, x9, x10, x11, undef, undef, undef] ∧ Toks h1 h' out (linesM (pairs raw B i) 1).1) ?_ (Nat.zero_le _)
    ⟨Heap.le.refl _, .slice none 0 0, undef, undef, undef, undef, rfl, .nil _ _ _⟩
  rintro i _ h' R hi ⟨lh, out, x8, x9, x10, x11, rfl, hto⟩ hR
  delta c4_l16 c4_r0 c4_r1 c4_r2 c4_r3 c4_r4 c4_r5 c4_r6 c4_r7 c4_r8 c4_r9 c4_r10 c4_r11 c4_r12 c4_r13 c4_r14 c4_r15 c4_r17 c4_r18 c4_r19
  have hpl := pairs_len hok.h hBs.h i
  have hlb1 := lines_bound hok.h hBs.h i
  by_cases hlt' : i < n
  case neg =>
    have hin : i = n := by omega
    have hsc := scanR_seq (pairs_good hok.h hBs.h i) (by omega)
    have hrok := scanR_ok (seqT (pairs raw B i))
    obtain ⟨s, hs⟩ : ∃ s, seqT (pairs raw B i) = s := ⟨_, rfl⟩
    obtain ⟨ln, hln⟩ : ∃ s, linesM (pairs raw B i) 1 = s := ⟨_, rfl⟩
    have hll : ln.1.length = i := by rw [← hln, linesM_len, pairs_length]
    rw [hs] at hsc hrok hpl ⊢
    rw [hln] at hsc hto hlb1 ⊢
    rw [hsc] at hrok
    obtain ⟨ts, m⟩ := ln
    simp only at hsc hto hrok hll ⊢
    have b5 := build5 0 m
    have bt := bslice_tok (endT m)
    have hen : endT m = ⟨5, [], 0, m⟩ := rfl
    obtain ⟨v', h5, a1, a2, a3, a4, a5, a6⟩ := toks_append hto lh (by omega) (endT m)
    have le5 : h1.le h5 := a3
    have fin : ∀ (v3 : Value) (h3 : Heap), Toks h5 h3 v3 (ts ++ [endT m]) → h5.le h3 → CallW Tryd.prog 20 [v3, v'] h3 (fun v _ => v = .bool true) := by
      intro v3 h3 t3 l3
      refine same_c t3.sl (a2.mono l3).sl hrok.1 hrok.1 (by omega) (by omega) _ fun b hb => ?_
      rw [hb.2 rfl]
    replace fin := Hid.mk fin
    rw [hen] at a1 bt
    have e2 : ((0 : Int) == 0) = true := rfl
    clear a2 a3 a4 a5 a6 hto lh hrok
    have way : (i : Int) < 40 ∨ ¬ (i : Int) < 40 := by omega
    by_cases hlr : i < raw.length
    · have hlr' : (i : Int) < (raw.length : Int) := by omega
      have h40 : ¬ (i : Int) < 40 := by omega
      clear hin hlr
      repeat' (first | simp -implicitDefEqProofs only [W_skip, W_reg, W_seq, W_rcond, W_cond, W_block, W_loop, W_exit, W_ret, thenQ_normal, thenQ_exit, thenQ_ret, blockQ_normal, blockQ_ret, blockQ_here, regQ_app, rcQ_app, cndK_t, cndK_f, RegW_nil, RegW_none, RegW_some, contW_app, grdK_tt, grdK_ff, grdK_tf, grdK_ft, grdK_undef, actK_p, actK_r, actK_a, actK_w, actK_call, actK_callV, heapK_app, allocK_app, writeK_app, ret1_ret, ret1_normal, ret0_ret, ret0_normal, ret2_ret2, thenK_app, retcv_ret, retcvK_app, optW_some, evs, Arg.ev, aP, aR, aA, aW, pMov, pBin, pUn, pConv, pPick, pFieldAddr, pNilCheck, pExtract, aBin, aUn, aInt, aNew, partL_f, upd, List.getElem?_cons_zero, List.getElem?_cons_succ, List.getD_cons_zero, List.getD_cons_succ, List.set_cons_zero, List.set_cons_succ, Nat.zero_add, Nat.add_zero, List.getElem?_toArray, List.take_zero, List.drop_zero, List.take_succ_cons, List.drop_succ_cons, if_true, if_false, decide_true, decide_false, Bool.false_eq_true, Bool.true_eq_false, Bool.not_true, Bool.not_false, not_true_eq_false, not_false_eq_true, ge_iff_le, gt_iff_lt, beq_self_eq_true, bne_self_eq_false, and_self, and_true, true_and, Option.isSome_some, Heap.get_alloc_same, Heap.alloc_getE, *] | with_reducible refine cndK_d (fun hc => ?_) (fun hc => ?_) | with_reducible refine grdK_d (fun hc => ?_) (fun hc => ?_) | with_reducible refine cndK_i (fun hc => ?_) (fun hc => ?_) | with_reducible refine grdK_i (fun hc => ?_) (fun hc => ?_))
      refine Scan_c (l := s) h5 (Heap.le.refl h5) _ fun v3 h3 hv3 l3 => ?_
      rw [hsc] at hv3 ⊢
      simp only at hv3 ⊢
      have cs := fin.h v3 h3 hv3 l3
      replace cs := Hid.mk cs
      replace hv3 := Hid.mk hv3
      repeat' (first | simp -implicitDefEqProofs only [W_skip, W_reg, W_seq, W_rcond, W_cond, W_block, W_loop, W_exit, W_ret, thenQ_normal, thenQ_exit, thenQ_ret, blockQ_normal, blockQ_ret, blockQ_here, regQ_app, rcQ_app, cndK_t, cndK_f, RegW_nil, RegW_none, RegW_some, contW_app, grdK_tt, grdK_ff, grdK_tf, grdK_ft, grdK_undef, actK_p, actK_r, actK_a, actK_w, actK_call, actK_callV, heapK_app, allocK_app, writeK_app, ret1_ret, ret1_normal, ret0_ret, ret0_normal, ret2_ret2, thenK_app, retcv_ret, retcvK_app, optW_some, evs, Arg.ev, aP, aR, aA, aW, pMov, pBin, pUn, pConv, pPick, pFieldAddr, pNilCheck, pExtract, aBin, aUn, aInt, aNew, partL_f, upd, List.getElem?_cons_zero, List.getElem?_cons_succ, List.getD_cons_zero, List.getD_cons_succ, List.set_cons_zero, List.set_cons_succ, Nat.zero_add, Nat.add_zero, List.getElem?_toArray, List.take_zero, List.drop_zero, List.take_succ_cons, List.drop_succ_cons, if_true, if_false, decide_true, decide_false, Bool.false_eq_true, Bool.true_eq_false, Bool.not_true, Bool.not_false, not_true_eq_false, not_false_eq_true, ge_iff_le, gt_iff_lt, beq_self_eq_true, bne_self_eq_false, and_self, and_true, true_and, Option.isSome_some, Heap.get_alloc_same, Heap.alloc_getE, extract3_0, extract3_1, extract3_2, *] | with_reducible refine cndK_d (fun hc => ?_) (fun hc => ?_) | with_reducible refine grdK_d (fun hc => ?_) (fun hc => ?_) | with_reducible refine cndK_i (fun hc => ?_) (fun hc => ?_) | with_reducible refine grdK_i (fun hc => ?_) (fun hc => ?_))
      refine cs.h.mono fun vr h6 _ hvr => ?_
      subst hvr
      repeat' (first | simp -implicitDefEqProofs only [W_skip, W_reg, W_seq, W_rcond, W_cond, W_block, W_loop, W_exit, W_ret, thenQ_normal, thenQ_exit, thenQ_ret, blockQ_normal, blockQ_ret, blockQ_here, regQ_app, rcQ_app, cndK_t, cndK_f, RegW_nil, RegW_none, RegW_some, contW_app, grdK_tt, grdK_ff, grdK_tf, grdK_ft, grdK_undef, actK_p, actK_r, actK_a, actK_w, actK_call, actK_callV, heapK_app, allocK_app, writeK_app, ret1_ret, ret1_normal, ret0_ret, ret0_normal, ret2_ret2, thenK_app, retcv_ret, retcvK_app, optW_some, evs, Arg.ev, aP, aR, aA, aW, pMov, pBin, pUn, pConv, pPick, pFieldAddr, pNilCheck, pExtract, aBin, aUn, aInt, aNew, partL_f, upd, List.getElem?_cons_zero, List.getElem?_cons_succ, List.getD_cons_zero, List.getD_cons_succ, List.set_cons_zero, List.set_cons_succ, Nat.zero_add, Nat.add_zero, List.getElem?_toArray, List.take_zero, List.drop_zero, List.take_succ_cons, List.drop_succ_cons, if_true, if_false, decide_true, decide_false, Bool.false_eq_true, Bool.true_eq_false, Bool.not_true, Bool.not_false, not_true_eq_false, not_false_eq_true, ge_iff_le, gt_iff_lt, beq_self_eq_true, bne_self_eq_false, and_self, and_true, true_and, Option.isSome_some, Heap.get_alloc_same, Heap.alloc_getE, *] | with_reducible refine cndK_d (fun hc => ?_) (fun hc => ?_) | with_reducible refine grdK_d (fun hc => ?_) (fun hc => ?_) | with_reducible refine cndK_i (fun hc => ?_) (fun hc => ?_) | with_reducible refine grdK_i (fun hc => ?_) (fun hc => ?_))
      exact hq.h _
    · have hlr' : ¬ (i : Int) < (raw.length : Int) := by omega
      clear hin hlr
      repeat' (first | simp -implicitDefEqProofs only [W_skip, W_reg, W_seq, W_rcond, W_cond, W_block, W_loop, W_exit, W_ret, thenQ_normal, thenQ_exit, thenQ_ret, blockQ_normal, blockQ_ret, blockQ_here, regQ_app, rcQ_app, cndK_t, cndK_f, RegW_nil, RegW_none, RegW_some, contW_app, grdK_tt, grdK_ff, grdK_tf, grdK_ft, grdK_undef, actK_p, actK_r, actK_a, actK_w, actK_call, actK_callV, heapK_app, allocK_app, writeK_app, ret1_ret, ret1_normal, ret0_ret, ret0_normal, ret2_ret2, thenK_app, retcv_ret, retcvK_app, optW_some, evs, Arg.ev, aP, aR, aA, aW, pMov, pBin, pUn, pConv, pPick, pFieldAddr, pNilCheck, pExtract, aBin, aUn, aInt, aNew, partL_f, upd, List.getElem?_cons_zero, List.getElem?_cons_succ, List.getD_cons_zero, List.getD_cons_succ, List.set_cons_zero, List.set_cons_succ, Nat.zero_add, Nat.add_zero, List.getElem?_toArray, List.take_zero, List.drop_zero, List.take_succ_cons, List.drop_succ_cons, if_true, if_false, decide_true, decide_false, Bool.false_eq_true, Bool.true_eq_false, Bool.not_true, Bool.not_false, not_true_eq_false, not_false_eq_true, ge_iff_le, gt_iff_lt, beq_self_eq_true, bne_self_eq_false, and_self, and_true, true_and, Option.isSome_some, Heap.get_alloc_same, Heap.alloc_getE, *] | with_reducible refine cndK_d (fun hc => ?_) (fun hc => ?_) | with_reducible refine grdK_d (fun hc => ?_) (fun hc => ?_) | with_reducible refine cndK_i (fun hc => ?_) (fun hc => ?_) | with_reducible refine grdK_i (fun hc => ?_) (fun hc => ?_))
      refine Scan_c (l := s) h5 (Heap.le.refl h5) _ fun v3 h3 hv3 l3 => ?_
      rw [hsc] at hv3 ⊢
      simp only at hv3 ⊢
      have cs := fin.h v3 h3 hv3 l3
      replace cs := Hid.mk cs
      replace hv3 := Hid.mk hv3
      repeat' (first | simp -implicitDefEqProofs only [W_skip, W_reg, W_seq, W_rcond, W_cond, W_block, W_loop, W_exit, W_ret, thenQ_normal, thenQ_exit, thenQ_ret, blockQ_normal, blockQ_ret, blockQ_here, regQ_app, rcQ_app, cndK_t, cndK_f, RegW_nil, RegW_none, RegW_some, contW_app, grdK_tt, grdK_ff, grdK_tf, grdK_ft, grdK_undef, actK_p, actK_r, actK_a, actK_w, actK_call, actK_callV, heapK_app, allocK_app, writeK_app, ret1_ret, ret1_normal, ret0_ret, ret0_normal, ret2_ret2, thenK_app, retcv_ret, retcvK_app, optW_some, evs, Arg.ev, aP, aR, aA, aW, pMov, pBin, pUn, pConv, pPick, pFieldAddr, pNilCheck, pExtract, aBin, aUn, aInt, aNew, partL_f, upd, List.getElem?_cons_zero, List.getElem?_cons_succ, List.getD_cons_zero, List.getD_cons_succ, List.set_cons_zero, List.set_cons_succ, Nat.zero_add, Nat.add_zero, List.getElem?_toArray, List.take_zero, List.drop_zero, List.take_succ_cons, List.drop_succ_cons, if_true, if_false, decide_true, decide_false, Bool.false_eq_true, Bool.true_eq_false, Bool.not_true, Bool.not_false, not_true_eq_false, not_false_eq_true, ge_iff_le, gt_iff_lt, beq_self_eq_true, bne_self_eq_false, and_self, and_true, true_and, Option.isSome_some, Heap.get_alloc_same, Heap.alloc_getE, extract3_0, extract3_1, extract3_2, *] | with_reducible refine cndK_d (fun hc => ?_) (fun hc => ?_) | with_reducible refine grdK_d (fun hc => ?_) (fun hc => ?_) | with_reducible refine cndK_i (fun hc => ?_) (fun hc => ?_) | with_reducible refine grdK_i (fun hc => ?_) (fun hc => ?_))
      refine cs.h.mono fun vr h6 _ hvr => ?_
      subst hvr
      repeat' (first | simp -implicitDefEqProofs only [W_skip, W_reg, W_seq, W_rcond, W_cond, W_block, W_loop, W_exit, W_ret, thenQ_normal, thenQ_exit, thenQ_ret, blockQ_normal, blockQ_ret, blockQ_here, regQ_app, rcQ_app, cndK_t, cndK_f, RegW_nil, RegW_none, RegW_some, contW_app, grdK_tt, grdK_ff, grdK_tf, grdK_ft, grdK_undef, actK_p, actK_r, actK_a, actK_w, actK_call, actK_callV, heapK_app, allocK_app, writeK_app, ret1_ret, ret1_normal, ret0_ret, ret0_normal, ret2_ret2, thenK_app, retcv_ret, retcvK_app, optW_some, evs, Arg.ev, aP, aR, aA, aW, pMov, pBin, pUn, pConv, pPick, pFieldAddr, pNilCheck, pExtract, aBin, aUn, aInt, aNew, partL_f, upd, List.getElem?_cons_zero, List.getElem?_cons_succ, List.getD_cons_zero, List.getD_cons_succ, List.set_cons_zero, List.set_cons_succ, Nat.zero_add, Nat.add_zero, List.getElem?_toArray, List.take_zero, List.drop_zero, List.take_succ_cons, List.drop_succ_cons, if_true, if_false, decide_true, decide_false, Bool.false_eq_true, Bool.true_eq_false, Bool.not_true, Bool.not_false, not_true_eq_false, not_false_eq_true, ge_iff_le, gt_iff_lt, beq_self_eq_true, bne_self_eq_false, and_self, and_true, true_and, Option.isSome_some, Heap.get_alloc_same, Heap.alloc_getE, *] | with_reducible refine cndK_d (fun hc => ?_) (fun hc => ?_) | with_reducible refine grdK_d (fun hc => ?_) (fun hc => ?_) | with_reducible refine cndK_i (fun hc => ?_) (fun hc => ?_) | with_reducible refine grdK_i (fun hc => ?_) (fun hc => ?_))
      exact hq.h _
  case pos =>
    have hlr : (i : Int) < (raw.length : Int) := by omega
    have h40 : (i : Int) < 40 := by omega
    have hwj : IntKind.i64.wrap ((i : Int) + 1) = ((i + 1 : Nat) : Int) := by rw [wrapI (by omega) (by omega)]; rfl
    obtain ⟨r1, r2⟩ := raw_ok hok.h i
    have hwl := piece_len (kind := (raw.getD i (0, 0)).1) r2
    have hps : pairs raw B (i + 1) = pairs raw B i ++ [pairAt raw B i] := pairs_succ _ _ _
    have hsq : seqT (pairs raw B (i + 1)) = seqT (pairs raw B i) ++ (pieceL (raw.getD i (0, 0)).1 (raw.getD i (0, 0)).2).1 ++ B i := by rw [hps, seqT_snoc]; rfl
    have hls : linesM (pairs raw B (i + 1)) 1 = ((linesM (pairs raw B i) 1).1 ++ [⟨(pieceL (raw.getD i (0, 0)).1 (raw.getD i (0, 0)).2).2, (pieceL (raw.getD i (0, 0)).1 (raw.getD i (0, 0)).2).1, if (pieceL (raw.getD i (0, 0)).1 (raw.getD i (0, 0)).2).2 = 3 then pick (raw.getD i (0, 0)).2 4294967296 else 0, (linesM (pairs raw B i) 1).2⟩], (linesM (pairs raw B i) 1).2 + (feedsN (B i) : Int)) := by rw [hps, linesM_snoc]; rfl
    have hll : (linesM (pairs raw B i) 1).1.length = i := by rw [linesM_len, pairs_length]
    have hbl := space_len (hBs.h i)
    have hfe := feedsN_le (B i)
    obtain ⟨s, hs⟩ : ∃ s, seqT (pairs raw B i) = s := ⟨_, rfl⟩
    obtain ⟨ln, hln⟩ : ∃ s, linesM (pairs raw B i) 1 = s := ⟨_, rfl⟩
    rw [hs] at hsq hpl ⊢
    rw [hln] at hls hto hlb1 hll ⊢
    obtain ⟨ts, m⟩ := ln
    simp only at hls hto hlb1 hll ⊢
    obtain ⟨ra, hra⟩ : ∃ x, (raw.getD i (0, 0)).1 = x := ⟨_, rfl⟩
    obtain ⟨rb, hrb⟩ : ∃ x, (raw.getD i (0, 0)).2 = x := ⟨_, rfl⟩
    rw [hra] at r1
    rw [hrb] at r2
    rw [hra, hrb] at hwl hsq hls
    obtain ⟨w, hw⟩ : ∃ w, pieceL ra rb = w := ⟨_, rfl⟩
    rw [hw] at hwl hsq hls
    obtain ⟨w, kd⟩ := w
    simp only at hwl hsq hls
    have ct1 := cat_S (a := s) (b := w) (by omega)
    have ct2 := cat_S (a := s ++ w) (b := B i) (by simp; omega)
    have hwm : IntKind.i64.wrap (m + (feedsN (B i) : Int)) = m + (feedsN (B i) : Int) := wrapI (by omega) (by omega)
    obtain ⟨id, off, cells, own, a1, a2, a3, a4, a5, a6⟩ := Raws.at' (hv1.h.mono lh) (i := i) (by omega)
    rw [hra] at a3
    rw [hrb] at a4
    have g := fun z out' x8 x9 x10 x11 h3 (l3 : h1.le h3) (hz : z = if kd = 3 then pick rb 4294967296 else 0) (t3 : Toks h1 h3 out' (ts ++ [⟨kd, w, z, m⟩])) => hR.h [v, vb, .bool false, .bool true, str (s ++ w ++ B i), .int .i64 (m + (feedsN (B i) : Int)), out', .int .i64 ((i + 1 : Nat) : Int), x8, x9, x10, x11, undef, undef, undef] h3 hlt'
      ⟨l3, out', x8, x9, x10, x11, by rw [hsq, hls], by rw [hls]; subst hz; exact t3⟩
    replace g := Hid.mk g
    replace hls := Hid.mk hls
    replace hsq := Hid.mk hsq
    replace hto := Hid.mk hto
    replace hs := Hid.mk hs
    replace hln := Hid.mk hln
    clear hps hlt' hi hn
    -- the rest of a round, behind the token's number
    have rest : ∀ (z : Int) (h3 : Heap), h'.le h3 → z = (if kd = 3 then pick rb 4294967296 else 0) → ∃ v' h5, wAppend 4 40 (h3.alloc (.blk (Tok.cells ⟨kd, w, z, m⟩) true)) [out, .slice (some ⟨h3.next, 0, none⟩) 1 4] = some (v', h5) ∧ h1.le h5 ∧ Toks h1 h5 v' (ts ++ [⟨kd, w, z, m⟩]) := by
      intro z h3 l3 hz
      obtain ⟨v', h5, b1, b2, b3, _⟩ := toks_append (hto.h.mono l3) (lh.trans l3) (by omega) ⟨kd, w, z, m⟩
      exact ⟨v', h5, b1, b3, b2⟩
    replace rest := Hid.mk rest
    have lh' := Hid.mk lh
    clear lh
    repeat' (first | simp -implicitDefEqProofs only [W_skip, W_reg, W_seq, W_rcond, W_cond, W_block, W_loop, W_exit, W_ret, thenQ_normal, thenQ_exit, thenQ_ret, blockQ_normal, blockQ_ret, blockQ_here, regQ_app, rcQ_app, cndK_t, cndK_f, RegW_nil, RegW_none, RegW_some, contW_app, grdK_tt, grdK_ff, grdK_tf, grdK_ft, grdK_undef, actK_p, actK_r, actK_a, actK_w, actK_call, actK_callV, heapK_app, allocK_app, writeK_app, ret1_ret, ret1_normal, ret0_ret, ret0_normal, ret2_ret2, thenK_app, retcv_ret, retcvK_app, optW_some, evs, Arg.ev, aP, aA, aW, pMov, pBin, pUn, pConv, pPick, pFieldAddr, pNilCheck, pExtract, aBin, aUn, aInt, aNew, partL_f, upd, List.getElem?_cons_zero, List.getElem?_cons_succ, List.getD_cons_zero, List.getD_cons_succ, List.set_cons_zero, List.set_cons_succ, Nat.zero_add, Nat.add_zero, List.getElem?_toArray, List.take_zero, List.drop_zero, List.take_succ_cons, List.drop_succ_cons, if_true, if_false, decide_true, decide_false, Bool.false_eq_true, Bool.true_eq_false, Bool.not_true, Bool.not_false, not_true_eq_false, not_false_eq_true, ge_iff_le, gt_iff_lt, beq_self_eq_true, bne_self_eq_false, and_self, and_true, true_and, Option.isSome_some, Heap.get_alloc_same, Heap.alloc_getE, aR_ld, ldK_blk, *] | with_reducible refine cndK_d (fun hc => ?_) (fun hc => ?_) | with_reducible refine grdK_d (fun hc => ?_) (fun hc => ?_) | with_reducible refine cndK_i (fun hc => ?_) (fun hc => ?_) | with_reducible refine grdK_i (fun hc => ?_) (fun hc => ?_))
    refine piece_c r1 r2 h' _ fun h3 l3 => ?_
    rw [hw]
    simp only
    by_cases hk3 : kd = 3
    · have hk3' : (kd == 3) = true := by simp [hk3]
      have c1 := l3.get a2
      obtain ⟨v', h5, b1, b2, b3⟩ := rest.h (pick rb 4294967296) h3 l3 (by rw [if_pos hk3])
      have bt := bslice_tok ⟨kd, w, pick rb 4294967296, m⟩
      have b4 := build4 kd (pick rb 4294967296) m w
      have g' := fun x8 x9 x10 x11 h6 (l6 : h5.le h6) => g.h (pick rb 4294967296) v' x8 x9 x10 x11 h6 (b2.trans l6) (by rw [if_pos hk3]) (b3.mono l6)
      replace g' := Hid.mk g'
      have b2' := Hid.mk b2
      clear hk3 b2 b3 l3 g
      repeat' (first | simp -implicitDefEqProofs only [W_skip, W_reg, W_seq, W_rcond, W_cond, W_block, W_loop, W_exit, W_ret, thenQ_normal, thenQ_exit, thenQ_ret, blockQ_normal, blockQ_ret, blockQ_here, regQ_app, rcQ_app, cndK_t, cndK_f, RegW_nil, RegW_none, RegW_some, contW_app, grdK_tt, grdK_ff, grdK_tf, grdK_ft, grdK_undef, actK_p, actK_r, actK_a, actK_w, actK_call, actK_callV, heapK_app, allocK_app, writeK_app, ret1_ret, ret1_normal, ret0_ret, ret0_normal, ret2_ret2, thenK_app, retcv_ret, retcvK_app, optW_some, evs, Arg.ev, aP, aA, aW, pMov, pBin, pUn, pConv, pPick, pFieldAddr, pNilCheck, pExtract, aBin, aUn, aInt, aNew, partL_f, upd, List.getElem?_cons_zero, List.getElem?_cons_succ, List.getD_cons_zero, List.getD_cons_succ, List.set_cons_zero, List.set_cons_succ, Nat.zero_add, Nat.add_zero, List.getElem?_toArray, List.take_zero, List.drop_zero, List.take_succ_cons, List.drop_succ_cons, if_true, if_false, decide_true, decide_false, Bool.false_eq_true, Bool.true_eq_false, Bool.not_true, Bool.not_false, not_true_eq_false, not_false_eq_true, ge_iff_le, gt_iff_lt, beq_self_eq_true, bne_self_eq_false, and_self, and_true, true_and, Option.isSome_some, Heap.get_alloc_same, Heap.alloc_getE, aR_ld, ldK_blk, extract0, extract1, *] | with_reducible refine cndK_d (fun hc => ?_) (fun hc => ?_) | with_reducible refine grdK_d (fun hc => ?_) (fun hc => ?_) | with_reducible refine cndK_i (fun hc => ?_) (fun hc => ?_) | with_reducible refine grdK_i (fun hc => ?_) (fun hc => ?_))
      refine pick_c _ 4294967296 (by decide) h3 _ ?_
      repeat' (first | simp -implicitDefEqProofs only [W_skip, W_reg, W_seq, W_rcond, W_cond, W_block, W_loop, W_exit, W_ret, thenQ_normal, thenQ_exit, thenQ_ret, blockQ_normal, blockQ_ret, blockQ_here, regQ_app, rcQ_app, cndK_t, cndK_f, RegW_nil, RegW_none, RegW_some, contW_app, grdK_tt, grdK_ff, grdK_tf, grdK_ft, grdK_undef, actK_p, actK_r, actK_a, actK_w, actK_call, actK_callV, heapK_app, allocK_app, writeK_app, ret1_ret, ret1_normal, ret0_ret, ret0_normal, ret2_ret2, thenK_app, retcv_ret, retcvK_app, optW_some, evs, Arg.ev, aP, aA, aW, pMov, pBin, pUn, pConv, pPick, pFieldAddr, pNilCheck, pExtract, aBin, aUn, aInt, aNew, partL_f, upd, List.getElem?_cons_zero, List.getElem?_cons_succ, List.getD_cons_zero, List.getD_cons_succ, List.set_cons_zero, List.set_cons_succ, Nat.zero_add, Nat.add_zero, List.getElem?_toArray, List.take_zero, List.drop_zero, List.take_succ_cons, List.drop_succ_cons, if_true, if_false, decide_true, decide_false, Bool.false_eq_true, Bool.true_eq_false, Bool.not_true, Bool.not_false, not_true_eq_false, not_false_eq_true, ge_iff_le, gt_iff_lt, beq_self_eq_true, bne_self_eq_false, and_self, and_true, true_and, Option.isSome_some, Heap.get_alloc_same, Heap.alloc_getE, aR_ld, ldK_blk, *] | with_reducible refine cndK_d (fun hc => ?_) (fun hc => ?_) | with_reducible refine grdK_d (fun hc => ?_) (fun hc => ?_) | with_reducible refine cndK_i (fun hc => ?_) (fun hc => ?_) | with_reducible refine grdK_i (fun hc => ?_) (fun hc => ?_))
      refine blank_c (SlV.mono b2'.h hvb1.h) hob.h hlb i _ fun h6 l6 => ?_
      rw [hBi.h i]
      replace l6 := Hid.mk l6
      repeat' (first | simp -implicitDefEqProofs only [W_skip, W_reg, W_seq, W_rcond, W_cond, W_block, W_loop, W_exit, W_ret, thenQ_normal, thenQ_exit, thenQ_ret, blockQ_normal, blockQ_ret, blockQ_here, regQ_app, rcQ_app, cndK_t, cndK_f, RegW_nil, RegW_none, RegW_some, contW_app, grdK_tt, grdK_ff, grdK_tf, grdK_ft, grdK_undef, actK_p, actK_r, actK_a, actK_w, actK_call, actK_callV, heapK_app, allocK_app, writeK_app, ret1_ret, ret1_normal, ret0_ret, ret0_normal, ret2_ret2, thenK_app, retcv_ret, retcvK_app, optW_some, evs, Arg.ev, aP, aR, aA, aW, pMov, pBin, pUn, pConv, pPick, pFieldAddr, pNilCheck, pExtract, aBin, aUn, aInt, aNew, partL_f, upd, List.getElem?_cons_zero, List.getElem?_cons_succ, List.getD_cons_zero, List.getD_cons_succ, List.set_cons_zero, List.set_cons_succ, Nat.zero_add, Nat.add_zero, List.getElem?_toArray, List.take_zero, List.drop_zero, List.take_succ_cons, List.drop_succ_cons, if_true, if_false, decide_true, decide_false, Bool.false_eq_true, Bool.true_eq_false, Bool.not_true, Bool.not_false, not_true_eq_false, not_false_eq_true, ge_iff_le, gt_iff_lt, beq_self_eq_true, bne_self_eq_false, and_self, and_true, true_and, Option.isSome_some, Heap.get_alloc_same, Heap.alloc_getE, *] | with_reducible refine cndK_d (fun hc => ?_) (fun hc => ?_) | with_reducible refine grdK_d (fun hc => ?_) (fun hc => ?_) | with_reducible refine cndK_i (fun hc => ?_) (fun hc => ?_) | with_reducible refine grdK_i (fun hc => ?_) (fun hc => ?_))
      refine feeds_c (by omega) h6 _ ?_
      repeat' (first | simp -implicitDefEqProofs only [W_skip, W_reg, W_seq, W_rcond, W_cond, W_block, W_loop, W_exit, W_ret, thenQ_normal, thenQ_exit, thenQ_ret, blockQ_normal, blockQ_ret, blockQ_here, regQ_app, rcQ_app, cndK_t, cndK_f, RegW_nil, RegW_none, RegW_some, contW_app, grdK_tt, grdK_ff, grdK_tf, grdK_ft, grdK_undef, actK_p, actK_r, actK_a, actK_w, actK_call, actK_callV, heapK_app, allocK_app, writeK_app, ret1_ret, ret1_normal, ret0_ret, ret0_normal, ret2_ret2, thenK_app, retcv_ret, retcvK_app, optW_some, evs, Arg.ev, aP, aR, aA, aW, pMov, pBin, pUn, pConv, pPick, pFieldAddr, pNilCheck, pExtract, aBin, aUn, aInt, aNew, partL_f, upd, List.getElem?_cons_zero, List.getElem?_cons_succ, List.getD_cons_zero, List.getD_cons_succ, List.set_cons_zero, List.set_cons_succ, Nat.zero_add, Nat.add_zero, List.getElem?_toArray, List.take_zero, List.drop_zero, List.take_succ_cons, List.drop_succ_cons, if_true, if_false, decide_true, decide_false, Bool.false_eq_true, Bool.true_eq_false, Bool.not_true, Bool.not_false, not_true_eq_false, not_false_eq_true, ge_iff_le, gt_iff_lt, beq_self_eq_true, bne_self_eq_false, and_self, and_true, true_and, Option.isSome_some, Heap.get_alloc_same, Heap.alloc_getE, *] | with_reducible refine cndK_d (fun hc => ?_) (fun hc => ?_) | with_reducible refine grdK_d (fun hc => ?_) (fun hc => ?_) | with_reducible refine cndK_i (fun hc => ?_) (fun hc => ?_) | with_reducible refine grdK_i (fun hc => ?_) (fun hc => ?_))
      exact g'.h _ _ _ _ _ l6.h
    · have hk3' : (kd == 3) = false := by simp [hk3]
      obtain ⟨v', h5, b1, b2, b3⟩ := rest.h 0 h3 l3 (by rw [if_neg hk3])
      have bt := bslice_tok ⟨kd, w, 0, m⟩
      have b4 := build4 kd 0 m w
      have g' := fun x8 x9 x10 x11 h6 (l6 : h5.le h6) => g.h 0 v' x8 x9 x10 x11 h6 (b2.trans l6) (by rw [if_neg hk3]) (b3.mono l6)
      replace g' := Hid.mk g'
      have b2' := Hid.mk b2
      clear hk3 b2 b3 l3 g
      repeat' (first | simp -implicitDefEqProofs only [W_skip, W_reg, W_seq, W_rcond, W_cond, W_block, W_loop, W_exit, W_ret, thenQ_normal, thenQ_exit, thenQ_ret, blockQ_normal, blockQ_ret, blockQ_here, regQ_app, rcQ_app, cndK_t, cndK_f, RegW_nil, RegW_none, RegW_some, contW_app, grdK_tt, grdK_ff, grdK_tf, grdK_ft, grdK_undef, actK_p, actK_r, actK_a, actK_w, actK_call, actK_callV, heapK_app, allocK_app, writeK_app, ret1_ret, ret1_normal, ret0_ret, ret0_normal, ret2_ret2, thenK_app, retcv_ret, retcvK_app, optW_some, evs, Arg.ev, aP, aA, aW, pMov, pBin, pUn, pConv, pPick, pFieldAddr, pNilCheck, pExtract, aBin, aUn, aInt, aNew, partL_f, upd, List.getElem?_cons_zero, List.getElem?_cons_succ, List.getD_cons_zero, List.getD_cons_succ, List.set_cons_zero, List.set_cons_succ, Nat.zero_add, Nat.add_zero, List.getElem?_toArray, List.take_zero, List.drop_zero, List.take_succ_cons, List.drop_succ_cons, if_true, if_false, decide_true, decide_false, Bool.false_eq_true, Bool.true_eq_false, Bool.not_true, Bool.not_false, not_true_eq_false, not_false_eq_true, ge_iff_le, gt_iff_lt, beq_self_eq_true, bne_self_eq_false, and_self, and_true, true_and, Option.isSome_some, Heap.get_alloc_same, Heap.alloc_getE, aR_ld, ldK_blk, extract0, extract1, *] | with_reducible refine cndK_d (fun hc => ?_) (fun hc => ?_) | with_reducible refine grdK_d (fun hc => ?_) (fun hc => ?_) | with_reducible refine cndK_i (fun hc => ?_) (fun hc => ?_) | with_reducible refine grdK_i (fun hc => ?_) (fun hc => ?_))
      refine blank_c (SlV.mono b2'.h hvb1.h) hob.h hlb i _ fun h6 l6 => ?_
      rw [hBi.h i]
      replace l6 := Hid.mk l6
      repeat' (first | simp -implicitDefEqProofs only [W_skip, W_reg, W_seq, W_rcond, W_cond, W_block, W_loop, W_exit, W_ret, thenQ_normal, thenQ_exit, thenQ_ret, blockQ_normal, blockQ_ret, blockQ_here, regQ_app, rcQ_app, cndK_t, cndK_f, RegW_nil, RegW_none, RegW_some, contW_app, grdK_tt, grdK_ff, grdK_tf, grdK_ft, grdK_undef, actK_p, actK_r, actK_a, actK_w, actK_call, actK_callV, heapK_app, allocK_app, writeK_app, ret1_ret, ret1_normal, ret0_ret, ret0_normal, ret2_ret2, thenK_app, retcv_ret, retcvK_app, optW_some, evs, Arg.ev, aP, aR, aA, aW, pMov, pBin, pUn, pConv, pPick, pFieldAddr, pNilCheck, pExtract, aBin, aUn, aInt, aNew, partL_f, upd, List.getElem?_cons_zero, List.getElem?_cons_succ, List.getD_cons_zero, List.getD_cons_succ, List.set_cons_zero, List.set_cons_succ, Nat.zero_add, Nat.add_zero, List.getElem?_toArray, List.take_zero, List.drop_zero, List.take_succ_cons, List.drop_succ_cons, if_true, if_false, decide_true, decide_false, Bool.false_eq_true, Bool.true_eq_false, Bool.not_true, Bool.not_false, not_true_eq_false, not_false_eq_true, ge_iff_le, gt_iff_lt, beq_self_eq_true, bne_self_eq_false, and_self, and_true, true_and, Option.isSome_some, Heap.get_alloc_same, Heap.alloc_getE, *] | with_reducible refine cndK_d (fun hc => ?_) (fun hc => ?_) | with_reducible refine grdK_d (fun hc => ?_) (fun hc => ?_) | with_reducible refine cndK_i (fun hc => ?_) (fun hc => ?_) | with_reducible refine grdK_i (fun hc => ?_) (fun hc => ?_))
      refine feeds_c (by omega) h6 _ ?_
      repeat' (first | simp -implicitDefEqProofs only [W_skip, W_reg, W_seq, W_rcond, W_cond, W_block, W_loop, W_exit, W_ret, thenQ_normal, thenQ_exit, thenQ_ret, blockQ_normal, blockQ_ret, blockQ_here, regQ_app, rcQ_app, cndK_t, cndK_f, RegW_nil, RegW_none, RegW_some, contW_app, grdK_tt, grdK_ff, grdK_tf, grdK_ft, grdK_undef, actK_p, actK_r, actK_a, actK_w, actK_call, actK_callV, heapK_app, allocK_app, writeK_app, ret1_ret, ret1_normal, ret0_ret, ret0_normal, ret2_ret2, thenK_app, retcv_ret, retcvK_app, optW_some, evs, Arg.ev, aP, aR, aA, aW, pMov, pBin, pUn, pConv, pPick, pFieldAddr, pNilCheck, pExtract, aBin, aUn, aInt, aNew, partL_f, upd, List.getElem?_cons_zero, List.getElem?_cons_succ, List.getD_cons_zero, List.getD_cons_succ, List.set_cons_zero, List.set_cons_succ, Nat.zero_add, Nat.add_zero, List.getElem?_toArray, List.take_zero, List.drop_zero, List.take_succ_cons, List.drop_succ_cons, if_true, if_false, decide_true, decide_false, Bool.false_eq_true, Bool.true_eq_false, Bool.not_true, Bool.not_false, not_true_eq_false, not_false_eq_true, ge_iff_le, gt_iff_lt, beq_self_eq_true, bne_self_eq_false, and_self, and_true, true_and, Option.isSome_some, Heap.get_alloc_same, Heap.alloc_getE, *] | with_reducible refine cndK_d (fun hc => ?_) (fun hc => ?_) | with_reducible refine grdK_d (fun hc => ?_) (fun hc => ?_) | with_reducible refine cndK_i (fun hc => ?_) (fun hc => ?_) | with_reducible refine grdK_i (fun hc => ?_) (fun hc => ?_))
      exact g'.h _ _ _ _ _ l6.h
end Go.Eng.Tk

