/-
  Part of a proof of the laws of layer 05 (token): what each function does.
  Conditions: none.
-/
import Derived.Test.YtplhdfkhhefppaaDoorBc
set_option linter.unusedSimpArgs false
set_option linter.unusedVariables false
namespace Go.Eng.Tk
open Go Go.Eng Go.Proofs

theorem Raws.at' {h : Heap} {v : Value} {l : List (Int × Int)} (hv : Raws h v l) {i : Nat} (hi : i < l.length) :
    ∃ id off cells own, pIdxAddrS 2 [v, .int .i64 i] = some (.pointer (some ⟨id, off, none⟩)) ∧ h.get id = some (.blk cells own) ∧ cells[off]? = some (.int .i64 (l.getD i (0, 0)).1) ∧ cells[off + 1]? = some (.int .i64 (l.getD i (0, 0)).2) ∧
      pIdxAddrA 2 1 [.pointer (some ⟨id, off, none⟩), .int .i64 0] = some (.pointer (some ⟨id, off, none⟩)) ∧ pIdxAddrA 2 1 [.pointer (some ⟨id, off, none⟩), .int .i64 1] = some (.pointer (some ⟨id, off + 1, none⟩)) := by
  obtain ⟨id, off, cells, own, h1, h2, h3, h4⟩ := Raws.elem hv (getD_some hi (0, 0))
  refine ⟨id, off, cells, own, h1, h2, h3, h4, ?_, ?_⟩
  · simp [pIdxAddrA]
  · simp [pIdxAddrA]
theorem lf_space (i : Nat) : (fun _ : Nat => ([10] : List UInt8)) i ∈ spaces := by
  show ([10] : List UInt8) ∈ spaces
  decide
theorem scanR_bad {ps : List (Tok × List UInt8)} (h : goodS ps) {b : UInt8} (hb : b ∈ badL) (x : List UInt8) (hl : (seqT ps ++ b :: x).length ≤ 20000) : scanR (seqT ps ++ b :: x) = ([], 50, 1 + (feedsN (seqT ps) : Int)) := by
  unfold scanR
  rw [if_neg (by omega), scanS_W, scanW_seq h, scanW_badb hb, linesM_line h]
  rfl

/-! ### TokenWrong -/
theorem TokenWrong_c {v : Value} {raw : List (Int × Int)} {at' c : Int} {h : Heap} (hv : Raws h v raw) (hok : ∀ r ∈ raw, inI r.1 ∧ inI r.2) (hlen : (raw.length : Int) ≤ 9223372036854775807) (ha : inI at') (hc : inI c) :
    CallW Tryd.prog 6 [v, .int .i64 at', .int .i64 c] h fun v _ => v = .bool true := by
  obtain ⟨Q, hQ⟩ : ∃ Q : Value → Heap → Prop, Q = fun v _ => v = .bool true := ⟨_, rfl⟩
  rw [← hQ]
  have hq : ∀ h', Q (.bool true) h' := fun h' => by rw [hQ]
  clear hQ
  obtain ⟨hlt, hpj⟩ := pickN_lt hc (n := 9) (by omega)
  obtain ⟨j, hj⟩ : ∃ j, pickN c 9 = j := ⟨_, rfl⟩
  rw [hj] at hlt hpj
  have hpj' : pick c 9 = (j : Int) := hpj.symm
  obtain ⟨b, hb⟩ : ∃ b, badL[j]? = some b := ⟨_, List.getElem?_eq_getElem (show j < badL.length from hlt)⟩
  have hbm : b ∈ badL := List.mem_of_getElem? hb
  have ix : pIdxStr [.string ⟨#[64, 36, 63, 58, 44, 34, 39, 96, 92]⟩, .int .i64 (j : Int)] = some (.int .u8 b.toNat) := idx_S (l := badL) hb .i64
  obtain ⟨n, hn⟩ : ∃ n, min raw.length 30 = n := ⟨_, rfl⟩
  have hmin : pMinI false [.int .i64 (raw.length : Int), .int .i64 30] = some (.int .i64 (n : Int)) := by
    simp only [pMinI, Bool.false_eq_true, if_false, if_true]
    congr 2
    split <;> omega
  obtain ⟨hlt2, hpk⟩ := pickN_lt ha (n := n + 1) (by omega)
  obtain ⟨k, hk⟩ : ∃ k, pickN at' (n + 1) = k := ⟨_, rfl⟩
  rw [hk] at hlt2 hpk
  have hw1 : IntKind.i64.wrap ((n : Int) + 1) = ((n + 1 : Nat) : Int) := by rw [wrapI (by omega) (by omega)]; rfl
  clear hj hpj hk hb
  have lr := Raws.len hv
  refine call_of1 (k := 3) ok6 rfl rfl rfl fun N => ?_
  rw [show env0 c6 [v, .int .i64 at', .int .i64 c] = [v, .int .i64 at', .int .i64 c, undef, undef, undef, undef, undef, undef, undef, undef, undef, undef, undef] from rfl]
  delta c6 c6_r0 c6_r1 c6_r2 c6_r3 c6_r4 c6_r5 c6_r6 c6_r7 c6_r8 c6_r9 c6_r10 c6_r11 c6_r12 c6_r14 c6_r15 c6_r16 c6_r17
  replace hq := Hid.mk hq
  repeat' (first | simp -implicitDefEqProofs only [W_skip, W_reg, W_seq, W_rcond, W_cond, W_block, W_loop, W_exit, W_ret, thenQ_normal, thenQ_exit, thenQ_ret, blockQ_normal, blockQ_ret, blockQ_here, regQ_app, rcQ_app, cndK_t, cndK_f, RegW_nil, RegW_none, RegW_some, contW_app, grdK_tt, grdK_ff, grdK_tf, grdK_ft, grdK_undef, actK_p, actK_r, actK_a, actK_w, actK_call, actK_callV, heapK_app, allocK_app, writeK_app, ret1_ret, ret1_normal, ret0_ret, ret0_normal, ret2_ret2, thenK_app, retcv_ret, retcvK_app, optW_some, evs, Arg.ev, aP, aR, aA, aW, pMov, pBin, pUn, pConv, pPick, pFieldAddr, pNilCheck, pExtract, aBin, aUn, aInt, aNew, partL_f, upd, List.getElem?_cons_zero, List.getElem?_cons_succ, List.getD_cons_zero, List.getD_cons_succ, List.set_cons_zero, List.set_cons_succ, Nat.zero_add, Nat.add_zero, List.getElem?_toArray, List.take_zero, List.drop_zero, List.take_succ_cons, List.drop_succ_cons, if_true, if_false, decide_true, decide_false, Bool.false_eq_true, Bool.true_eq_false, Bool.not_true, Bool.not_false, not_true_eq_false, not_false_eq_true, ge_iff_le, gt_iff_lt, beq_self_eq_true, bne_self_eq_false, and_self, and_true, true_and, Option.isSome_some, Heap.get_alloc_same, Heap.alloc_getE, *] | with_reducible refine cndK_d (fun hc => ?_) (fun hc => ?_) | with_reducible refine grdK_d (fun hc => ?_) (fun hc => ?_) | with_reducible refine cndK_i (fun hc => ?_) (fun hc => ?_) | with_reducible refine grdK_i (fun hc => ?_) (fun hc => ?_))
  refine awake_c h _ fun h1 l1 => ?_
  repeat' (first | simp -implicitDefEqProofs only [W_skip, W_reg, W_seq, W_rcond, W_cond, W_block, W_loop, W_exit, W_ret, thenQ_normal, thenQ_exit, thenQ_ret, blockQ_normal, blockQ_ret, blockQ_here, regQ_app, rcQ_app, cndK_t, cndK_f, RegW_nil, RegW_none, RegW_some, contW_app, grdK_tt, grdK_ff, grdK_tf, grdK_ft, grdK_undef, actK_p, actK_r, actK_a, actK_w, actK_call, actK_callV, heapK_app, allocK_app, writeK_app, ret1_ret, ret1_normal, ret0_ret, ret0_normal, ret2_ret2, thenK_app, retcv_ret, retcvK_app, optW_some, evs, Arg.ev, aP, aR, aA, aW, pMov, pBin, pUn, pConv, pPick, pFieldAddr, pNilCheck, pExtract, aBin, aUn, aInt, aNew, partL_f, upd, List.getElem?_cons_zero, List.getElem?_cons_succ, List.getD_cons_zero, List.getD_cons_succ, List.set_cons_zero, List.set_cons_succ, Nat.zero_add, Nat.add_zero, List.getElem?_toArray, List.take_zero, List.drop_zero, List.take_succ_cons, List.drop_succ_cons, if_true, if_false, decide_true, decide_false, Bool.false_eq_true, Bool.true_eq_false, Bool.not_true, Bool.not_false, not_true_eq_false, not_false_eq_true, ge_iff_le, gt_iff_lt, beq_self_eq_true, bne_self_eq_false, and_self, and_true, true_and, Option.isSome_some, Heap.get_alloc_same, Heap.alloc_getE, *] | with_reducible refine cndK_d (fun hc => ?_) (fun hc => ?_) | with_reducible refine grdK_d (fun hc => ?_) (fun hc => ?_) | with_reducible refine cndK_i (fun hc => ?_) (fun hc => ?_) | with_reducible refine grdK_i (fun hc => ?_) (fun hc => ?_))
  refine pick_c _ 9 (by decide) h1 _ ?_
  rw [hpj']
  repeat' (first | simp -implicitDefEqProofs only [W_skip, W_reg, W_seq, W_rcond, W_cond, W_block, W_loop, W_exit, W_ret, thenQ_normal, thenQ_exit, thenQ_ret, blockQ_normal, blockQ_ret, blockQ_here, regQ_app, rcQ_app, cndK_t, cndK_f, RegW_nil, RegW_none, RegW_some, contW_app, grdK_tt, grdK_ff, grdK_tf, grdK_ft, grdK_undef, actK_p, actK_r, actK_a, actK_w, actK_call, actK_callV, heapK_app, allocK_app, writeK_app, ret1_ret, ret1_normal, ret0_ret, ret0_normal, ret2_ret2, thenK_app, retcv_ret, retcvK_app, optW_some, evs, Arg.ev, aP, aR, aA, aW, pMov, pBin, pUn, pConv, pPick, pFieldAddr, pNilCheck, pExtract, aBin, aUn, aInt, aNew, partL_f, upd, List.getElem?_cons_zero, List.getElem?_cons_succ, List.getD_cons_zero, List.getD_cons_succ, List.set_cons_zero, List.set_cons_succ, Nat.zero_add, Nat.add_zero, List.getElem?_toArray, List.take_zero, List.drop_zero, List.take_succ_cons, List.drop_succ_cons, if_true, if_false, decide_true, decide_false, Bool.false_eq_true, Bool.true_eq_false, Bool.not_true, Bool.not_false, not_true_eq_false, not_false_eq_true, ge_iff_le, gt_iff_lt, beq_self_eq_true, bne_self_eq_false, and_self, and_true, true_and, Option.isSome_some, Heap.get_alloc_same, Heap.alloc_getE, *] | with_reducible refine cndK_d (fun hc => ?_) (fun hc => ?_) | with_reducible refine grdK_d (fun hc => ?_) (fun hc => ?_) | with_reducible refine cndK_i (fun hc => ?_) (fun hc => ?_) | with_reducible refine grdK_i (fun hc => ?_) (fun hc => ?_))
  refine pick_c _ ((n + 1 : Nat) : Int) (by omega) h1 _ ?_
  rw [← hpk]
  replace hpk := Hid.mk hpk
  have hv1 := Hid.mk (hv.mono l1)
  replace hv := Hid.mk hv
  replace hok := Hid.mk hok
  replace hbm := Hid.mk hbm
  repeat' (first | simp -implicitDefEqProofs only [W_skip, W_reg, W_seq, W_rcond, W_cond, W_block, W_loop, W_exit, W_ret, thenQ_normal, thenQ_exit, thenQ_ret, blockQ_normal, blockQ_ret, blockQ_here, regQ_app, rcQ_app, cndK_t, cndK_f, RegW_nil, RegW_none, RegW_some, contW_app, grdK_tt, grdK_ff, grdK_tf, grdK_ft, grdK_undef, actK_p, actK_r, actK_a, actK_w, actK_call, actK_callV, heapK_app, allocK_app, writeK_app, ret1_ret, ret1_normal, ret0_ret, ret0_normal, ret2_ret2, thenK_app, retcv_ret, retcvK_app, optW_some, evs, Arg.ev, aP, aR, aA, aW, pMov, pBin, pUn, pConv, pPick, pFieldAddr, pNilCheck, pExtract, aBin, aUn, aInt, aNew, partL_f, upd, List.getElem?_cons_zero, List.getElem?_cons_succ, List.getD_cons_zero, List.getD_cons_succ, List.set_cons_zero, List.set_cons_succ, Nat.zero_add, Nat.add_zero, List.getElem?_toArray, List.take_zero, List.drop_zero, List.take_succ_cons, List.drop_succ_cons, if_true, if_false, decide_true, decide_false, Bool.false_eq_true, Bool.true_eq_false, Bool.not_true, Bool.not_false, not_true_eq_false, not_false_eq_true, ge_iff_le, gt_iff_lt, beq_self_eq_true, bne_self_eq_false, and_self, and_true, true_and, Option.isSome_some, Heap.get_alloc_same, Heap.alloc_getE, *] | with_reducible refine cndK_d (fun hc => ?_) (fun hc => ?_) | with_reducible refine grdK_d (fun hc => ?_) (fun hc => ?_) | with_reducible refine cndK_i (fun hc => ?_) (fun hc => ?_) | with_reducible refine grdK_i (fun hc => ?_) (fun hc => ?_))
  refine LoopW.upto n (fun i e h' => h1.le h' ∧ ∃ s x10, e = [v, .int .i64 at', .int .i64 c, .bool false, .bool true, .int .u8 b.toNat, str s, .int .i64 n, .int .i64 k, .int .i64 i, x10, undef, undef, undef] ∧
    s.length ≤ 40 * i ∧ (i ≤ k → s = seqT (pairs raw (fun _ => [10]) i)) ∧ (k < i → ∃ x, s = seqT (pairs raw (fun _ => [10]) k) ++ b :: x)) ?_ (Nat.zero_le _) ⟨Heap.le.refl _, [], undef, rfl, by simp, fun _ => rfl, fun e => by omega⟩
  rintro i _ h' R hi ⟨lh, s, x10, rfl, hsl, hs1, hs2⟩ hR
  have hs1 := Hid.mk hs1
  have hs2 := Hid.mk hs2
  delta c6_l13 c6_r0 c6_r1 c6_r2 c6_r3 c6_r4 c6_r5 c6_r6 c6_r7 c6_r8 c6_r9 c6_r10 c6_r11 c6_r12 c6_r14 c6_r15 c6_r16 c6_r17
  by_cases hlt' : i < n
  case neg =>
    have hlt'' : ¬ (i : Int) < (n : Int) := by omega
    have hin : i = n := by omega
    -- what is scanned
    have fin : ∀ (s' : List UInt8) (h2 : Heap), (∃ x, s' = seqT (pairs raw (fun _ => [10]) k) ++ b :: x) → s'.length ≤ 20000 → ∃ v3 h3, True := fun _ _ _ _ => ⟨undef, h1, trivial⟩
    clear fin
    have hfin : ∀ (s' : List UInt8), (∃ x, s' = seqT (pairs raw (fun _ => [10]) k) ++ b :: x) → s'.length ≤ 20000 → scanR s' = ([], 50, ((1 + k : Nat) : Int)) := by
      rintro s' ⟨x, rfl⟩ hl
      rw [scanR_bad (pairs_good hok.h lf_space k) hbm.h x hl, feeds_pairs hok.h k]
      rfl
    have hwk : IntKind.i64.wrap ((k : Int) + 1) = ((1 + k : Nat) : Int) := by rw [wrapI (by omega) (by omega)]; omega
    have e1 : (((1 + k : Nat) : Int) == ((1 + k : Nat) : Int)) = true := by simp
    have e2 : ((0 : Int) == 0) = true := rfl
    have e3 : ((50 : Int) == 50) = true := rfl
    replace hfin := Hid.mk hfin
    by_cases hkn : k = n
    · have hkn' : ((k : Int) == (n : Int)) = true := by simp; omega
      obtain ⟨q, hqq⟩ : ∃ x, h'.next = x := ⟨_, rfl⟩
      have bs : aBslice [.int .u8 0] [(0, 1)] 1 1 [.int .u8 (b.toNat : Int)] = some ([.int .u8 (b.toNat : Int)], fun id => .slice (some ⟨id, 0, none⟩) 1 1) := aBslice_one rfl rfl rfl rfl
      obtain ⟨h2, hh1⟩ : ∃ x, h'.alloc (.blk [.int .u8 (b.toNat : Int)] true) = x := ⟨_, rfl⟩
      have g1 : h2.get q = some (.blk [.int .u8 (b.toNat : Int)] true) := by rw [← hh1, ← hqq]; exact Heap.get_alloc_same _ _
      have b1 := bytesStr1 g1
      have ct := cat_S (a := s) (b := [b]) (by simp; omega)
      have hsc := hfin.h (s ++ [b]) ⟨[], by rw [hs1.h (by omega), hin, hkn]⟩ (by simp; omega)
      clear hkn hin
      repeat' (first | simp -implicitDefEqProofs only [W_skip, W_reg, W_seq, W_rcond, W_cond, W_block, W_loop, W_exit, W_ret, thenQ_normal, thenQ_exit, thenQ_ret, blockQ_normal, blockQ_ret, blockQ_here, regQ_app, rcQ_app, cndK_t, cndK_f, RegW_nil, RegW_none, RegW_some, contW_app, grdK_tt, grdK_ff, grdK_tf, grdK_ft, grdK_undef, actK_p, actK_r, actK_a, actK_w, actK_call, actK_callV, heapK_app, allocK_app, writeK_app, ret1_ret, ret1_normal, ret0_ret, ret0_normal, ret2_ret2, thenK_app, retcv_ret, retcvK_app, optW_some, evs, Arg.ev, aP, aA, aW, pMov, pBin, pUn, pConv, pPick, pFieldAddr, pNilCheck, pExtract, aBin, aUn, aInt, aNew, partL_f, upd, List.getElem?_cons_zero, List.getElem?_cons_succ, List.getD_cons_zero, List.getD_cons_succ, List.set_cons_zero, List.set_cons_succ, Nat.zero_add, Nat.add_zero, List.getElem?_toArray, List.take_zero, List.drop_zero, List.take_succ_cons, List.drop_succ_cons, if_true, if_false, decide_true, decide_false, Bool.false_eq_true, Bool.true_eq_false, Bool.not_true, Bool.not_false, not_true_eq_false, not_false_eq_true, ge_iff_le, gt_iff_lt, beq_self_eq_true, bne_self_eq_false, and_self, and_true, true_and, Option.isSome_some, Heap.get_alloc_same, Heap.alloc_getE, *] | with_reducible refine cndK_d (fun hc => ?_) (fun hc => ?_) | with_reducible refine grdK_d (fun hc => ?_) (fun hc => ?_) | with_reducible refine cndK_i (fun hc => ?_) (fun hc => ?_) | with_reducible refine grdK_i (fun hc => ?_) (fun hc => ?_))
      refine Scan_c (l := s ++ [b]) h2 (Heap.le.refl h2) _ fun v3 h3 hv3 _ => ?_
      rw [hsc] at hv3 ⊢
      have hvl : pLenS [v3] = some (.int .i64 0) := tokS_len (ts := []) hv3.sl
      clear hv3 b1 g1
      repeat' (first | simp -implicitDefEqProofs only [W_skip, W_reg, W_seq, W_rcond, W_cond, W_block, W_loop, W_exit, W_ret, thenQ_normal, thenQ_exit, thenQ_ret, blockQ_normal, blockQ_ret, blockQ_here, regQ_app, rcQ_app, cndK_t, cndK_f, RegW_nil, RegW_none, RegW_some, contW_app, grdK_tt, grdK_ff, grdK_tf, grdK_ft, grdK_undef, actK_p, actK_r, actK_a, actK_w, actK_call, actK_callV, heapK_app, allocK_app, writeK_app, ret1_ret, ret1_normal, ret0_ret, ret0_normal, ret2_ret2, thenK_app, retcv_ret, retcvK_app, optW_some, evs, Arg.ev, aP, aR, aA, aW, pMov, pBin, pUn, pConv, pPick, pFieldAddr, pNilCheck, pExtract, aBin, aUn, aInt, aNew, partL_f, upd, List.getElem?_cons_zero, List.getElem?_cons_succ, List.getD_cons_zero, List.getD_cons_succ, List.set_cons_zero, List.set_cons_succ, Nat.zero_add, Nat.add_zero, List.getElem?_toArray, List.take_zero, List.drop_zero, List.take_succ_cons, List.drop_succ_cons, if_true, if_false, decide_true, decide_false, Bool.false_eq_true, Bool.true_eq_false, Bool.not_true, Bool.not_false, not_true_eq_false, not_false_eq_true, ge_iff_le, gt_iff_lt, beq_self_eq_true, bne_self_eq_false, and_self, and_true, true_and, Option.isSome_some, Heap.get_alloc_same, Heap.alloc_getE, extract3_0, extract3_1, extract3_2, *] | with_reducible refine cndK_d (fun hc => ?_) (fun hc => ?_) | with_reducible refine grdK_d (fun hc => ?_) (fun hc => ?_) | with_reducible refine cndK_i (fun hc => ?_) (fun hc => ?_) | with_reducible refine grdK_i (fun hc => ?_) (fun hc => ?_))
      exact hq.h _
    · have hkn' : ((k : Int) == (n : Int)) = false := by simp; omega
      have hsc := hfin.h s (hs2.h (by omega)) (by omega)
      clear hkn hin
      repeat' (first | simp -implicitDefEqProofs only [W_skip, W_reg, W_seq, W_rcond, W_cond, W_block, W_loop, W_exit, W_ret, thenQ_normal, thenQ_exit, thenQ_ret, blockQ_normal, blockQ_ret, blockQ_here, regQ_app, rcQ_app, cndK_t, cndK_f, RegW_nil, RegW_none, RegW_some, contW_app, grdK_tt, grdK_ff, grdK_tf, grdK_ft, grdK_undef, actK_p, actK_r, actK_a, actK_w, actK_call, actK_callV, heapK_app, allocK_app, writeK_app, ret1_ret, ret1_normal, ret0_ret, ret0_normal, ret2_ret2, thenK_app, retcv_ret, retcvK_app, optW_some, evs, Arg.ev, aP, aR, aA, aW, pMov, pBin, pUn, pConv, pPick, pFieldAddr, pNilCheck, pExtract, aBin, aUn, aInt, aNew, partL_f, upd, List.getElem?_cons_zero, List.getElem?_cons_succ, List.getD_cons_zero, List.getD_cons_succ, List.set_cons_zero, List.set_cons_succ, Nat.zero_add, Nat.add_zero, List.getElem?_toArray, List.take_zero, List.drop_zero, List.take_succ_cons, List.drop_succ_cons, if_true, if_false, decide_true, decide_false, Bool.false_eq_true, Bool.true_eq_false, Bool.not_true, Bool.not_false, not_true_eq_false, not_false_eq_true, ge_iff_le, gt_iff_lt, beq_self_eq_true, bne_self_eq_false, and_self, and_true, true_and, Option.isSome_some, Heap.get_alloc_same, Heap.alloc_getE, *] | with_reducible refine cndK_d (fun hc => ?_) (fun hc => ?_) | with_reducible refine grdK_d (fun hc => ?_) (fun hc => ?_) | with_reducible refine cndK_i (fun hc => ?_) (fun hc => ?_) | with_reducible refine grdK_i (fun hc => ?_) (fun hc => ?_))
      refine Scan_c (l := s) h' (Heap.le.refl h') _ fun v3 h3 hv3 _ => ?_
      rw [hsc] at hv3 ⊢
      have hvl : pLenS [v3] = some (.int .i64 0) := tokS_len (ts := []) hv3.sl
      clear hv3
      repeat' (first | simp -implicitDefEqProofs only [W_skip, W_reg, W_seq, W_rcond, W_cond, W_block, W_loop, W_exit, W_ret, thenQ_normal, thenQ_exit, thenQ_ret, blockQ_normal, blockQ_ret, blockQ_here, regQ_app, rcQ_app, cndK_t, cndK_f, RegW_nil, RegW_none, RegW_some, contW_app, grdK_tt, grdK_ff, grdK_tf, grdK_ft, grdK_undef, actK_p, actK_r, actK_a, actK_w, actK_call, actK_callV, heapK_app, allocK_app, writeK_app, ret1_ret, ret1_normal, ret0_ret, ret0_normal, ret2_ret2, thenK_app, retcv_ret, retcvK_app, optW_some, evs, Arg.ev, aP, aR, aA, aW, pMov, pBin, pUn, pConv, pPick, pFieldAddr, pNilCheck, pExtract, aBin, aUn, aInt, aNew, partL_f, upd, List.getElem?_cons_zero, List.getElem?_cons_succ, List.getD_cons_zero, List.getD_cons_succ, List.set_cons_zero, List.set_cons_succ, Nat.zero_add, Nat.add_zero, List.getElem?_toArray, List.take_zero, List.drop_zero, List.take_succ_cons, List.drop_succ_cons, if_true, if_false, decide_true, decide_false, Bool.false_eq_true, Bool.true_eq_false, Bool.not_true, Bool.not_false, not_true_eq_false, not_false_eq_true, ge_iff_le, gt_iff_lt, beq_self_eq_true, bne_self_eq_false, and_self, and_true, true_and, Option.isSome_some, Heap.get_alloc_same, Heap.alloc_getE, extract3_0, extract3_1, extract3_2, *] | with_reducible refine cndK_d (fun hc => ?_) (fun hc => ?_) | with_reducible refine grdK_d (fun hc => ?_) (fun hc => ?_) | with_reducible refine cndK_i (fun hc => ?_) (fun hc => ?_) | with_reducible refine grdK_i (fun hc => ?_) (fun hc => ?_))
      exact hq.h _
  case pos =>
    have hlt'' : (i : Int) < (n : Int) := by omega
    have hwj : IntKind.i64.wrap ((i : Int) + 1) = ((i + 1 : Nat) : Int) := by rw [wrapI (by omega) (by omega)]; rfl
    obtain ⟨r1, r2⟩ := raw_ok hok.h i
    have hpl := piece_len (kind := (raw.getD i (0, 0)).1) r2
    have hps : pairs raw (fun _ => [10]) (i + 1) = pairs raw (fun _ => [10]) i ++ [pairAt raw (fun _ => [10]) i] := pairs_succ _ _ _
    have hpt : (pairAt raw (fun _ => [10]) i).1.text = (pieceL (raw.getD i (0, 0)).1 (raw.getD i (0, 0)).2).1 := rfl
    have hp2 : (pairAt raw (fun _ => [10]) i).2 = [10] := rfl
    have hsq : seqT (pairs raw (fun _ => [10]) (i + 1)) = seqT (pairs raw (fun _ => [10]) i) ++ (pieceL (raw.getD i (0, 0)).1 (raw.getD i (0, 0)).2).1 ++ [10] := by rw [hps, seqT_snoc, hpt, hp2]
    clear hps hpt hp2
    obtain ⟨ra, hra⟩ : ∃ x, (raw.getD i (0, 0)).1 = x := ⟨_, rfl⟩
    obtain ⟨rb, hrb⟩ : ∃ x, (raw.getD i (0, 0)).2 = x := ⟨_, rfl⟩
    obtain ⟨w, hw⟩ : ∃ w, (pieceL ra rb).1 = w := ⟨_, rfl⟩
    rw [hra] at r1
    rw [hrb] at r2
    rw [hra, hrb, hw] at hpl hsq
    replace hsq := Hid.mk hsq
    by_cases hik : i = k
    · have hik' : ((i : Int) == (k : Int)) = true := by simp; omega
      have hs := hs1.h (by omega)
      obtain ⟨q, hqq⟩ : ∃ x, h'.next = x := ⟨_, rfl⟩
      have bs : aBslice [.int .u8 0] [(0, 1)] 1 1 [.int .u8 (b.toNat : Int)] = some ([.int .u8 (b.toNat : Int)], fun id => .slice (some ⟨id, 0, none⟩) 1 1) := aBslice_one rfl rfl rfl rfl
      obtain ⟨h2, hh1⟩ : ∃ x, h'.alloc (.blk [.int .u8 (b.toNat : Int)] true) = x := ⟨_, rfl⟩
      have l2 : h'.le h2 := by rw [← hh1]; exact (Heap.le.refl _).alloc _
      have g1 : h2.get q = some (.blk [.int .u8 (b.toNat : Int)] true) := by rw [← hh1, ← hqq]; exact Heap.get_alloc_same _ _
      have b1 := bytesStr1 g1
      have ct1 := cat_S (a := s) (b := [b]) (by simp; omega)
      have ct2 : aStr .add ⟨(s ++ [b]).toArray⟩ ⟨#[32]⟩ = some (str (s ++ [b] ++ [32])) := cat_S (a := s ++ [b]) (b := [32]) (by simp; omega)
      have ct3 := cat_S (a := s ++ [b] ++ [32]) (b := w) (by simp; omega)
      have ct4 : aStr .add ⟨(s ++ [b] ++ [32] ++ w).toArray⟩ ⟨#[10]⟩ = some (str (s ++ [b] ++ [32] ++ w ++ [10])) := cat_S (a := s ++ [b] ++ [32] ++ w) (b := [10]) (by simp; omega)
      obtain ⟨id, off, cells, own, a1, a2, a3, a4, a5, a6⟩ := Raws.at' ((hv1.h.mono lh).mono l2) (i := i) (by omega)
      rw [hra] at a3
      rw [hrb] at a4
      have g := fun x10 h3 (l3 : h2.le h3) => hR.h [v, .int .i64 at', .int .i64 c, .bool false, .bool true, .int .u8 b.toNat, str (s ++ [b] ++ [32] ++ w ++ [10]), .int .i64 n, .int .i64 k, .int .i64 ((i + 1 : Nat) : Int), x10, undef, undef, undef] h3 hlt' ⟨(lh.trans l2).trans l3, _, x10, rfl, by simp; omega, fun e => by omega, fun _ => ⟨32 :: (w ++ [10]), by rw [hs, hik]; simp⟩⟩
      replace g := Hid.mk g
      clear hik hs b1 lh
      have b1 := bytesStr1 g1
      repeat' (first | simp -implicitDefEqProofs only [W_skip, W_reg, W_seq, W_rcond, W_cond, W_block, W_loop, W_exit, W_ret, thenQ_normal, thenQ_exit, thenQ_ret, blockQ_normal, blockQ_ret, blockQ_here, regQ_app, rcQ_app, cndK_t, cndK_f, RegW_nil, RegW_none, RegW_some, contW_app, grdK_tt, grdK_ff, grdK_tf, grdK_ft, grdK_undef, actK_p, actK_r, actK_a, actK_w, actK_call, actK_callV, heapK_app, allocK_app, writeK_app, ret1_ret, ret1_normal, ret0_ret, ret0_normal, ret2_ret2, thenK_app, retcv_ret, retcvK_app, optW_some, evs, Arg.ev, aP, aA, aW, pMov, pBin, pUn, pConv, pPick, pFieldAddr, pNilCheck, pExtract, aBin, aUn, aInt, aNew, partL_f, upd, List.getElem?_cons_zero, List.getElem?_cons_succ, List.getD_cons_zero, List.getD_cons_succ, List.set_cons_zero, List.set_cons_succ, Nat.zero_add, Nat.add_zero, List.getElem?_toArray, List.take_zero, List.drop_zero, List.take_succ_cons, List.drop_succ_cons, if_true, if_false, decide_true, decide_false, Bool.false_eq_true, Bool.true_eq_false, Bool.not_true, Bool.not_false, not_true_eq_false, not_false_eq_true, ge_iff_le, gt_iff_lt, beq_self_eq_true, bne_self_eq_false, and_self, and_true, true_and, Option.isSome_some, Heap.get_alloc_same, Heap.alloc_getE, aR_ld, ldK_blk, *] | with_reducible refine cndK_d (fun hc => ?_) (fun hc => ?_) | with_reducible refine grdK_d (fun hc => ?_) (fun hc => ?_) | with_reducible refine cndK_i (fun hc => ?_) (fun hc => ?_) | with_reducible refine grdK_i (fun hc => ?_) (fun hc => ?_))
      refine piece_c r1 r2 h2 _ fun h3 l3 => ?_
      replace l3 := Hid.mk l3
      rw [hw]
      repeat' (first | simp -implicitDefEqProofs only [W_skip, W_reg, W_seq, W_rcond, W_cond, W_block, W_loop, W_exit, W_ret, thenQ_normal, thenQ_exit, thenQ_ret, blockQ_normal, blockQ_ret, blockQ_here, regQ_app, rcQ_app, cndK_t, cndK_f, RegW_nil, RegW_none, RegW_some, contW_app, grdK_tt, grdK_ff, grdK_tf, grdK_ft, grdK_undef, actK_p, actK_r, actK_a, actK_w, actK_call, actK_callV, heapK_app, allocK_app, writeK_app, ret1_ret, ret1_normal, ret0_ret, ret0_normal, ret2_ret2, thenK_app, retcv_ret, retcvK_app, optW_some, evs, Arg.ev, aP, aR, aA, aW, pMov, pBin, pUn, pConv, pPick, pFieldAddr, pNilCheck, pExtract, aBin, aUn, aInt, aNew, partL_f, upd, List.getElem?_cons_zero, List.getElem?_cons_succ, List.getD_cons_zero, List.getD_cons_succ, List.set_cons_zero, List.set_cons_succ, Nat.zero_add, Nat.add_zero, List.getElem?_toArray, List.take_zero, List.drop_zero, List.take_succ_cons, List.drop_succ_cons, if_true, if_false, decide_true, decide_false, Bool.false_eq_true, Bool.true_eq_false, Bool.not_true, Bool.not_false, not_true_eq_false, not_false_eq_true, ge_iff_le, gt_iff_lt, beq_self_eq_true, bne_self_eq_false, and_self, and_true, true_and, Option.isSome_some, Heap.get_alloc_same, Heap.alloc_getE, extract0, extract1, *] | with_reducible refine cndK_d (fun hc => ?_) (fun hc => ?_) | with_reducible refine grdK_d (fun hc => ?_) (fun hc => ?_) | with_reducible refine cndK_i (fun hc => ?_) (fun hc => ?_) | with_reducible refine grdK_i (fun hc => ?_) (fun hc => ?_))
      exact g.h _ _ l3.h
    · have hik' : ((i : Int) == (k : Int)) = false := by simp; omega
      have ct3 := cat_S (a := s) (b := w) (by omega)
      have ct4 : aStr .add ⟨(s ++ w).toArray⟩ ⟨#[10]⟩ = some (str (s ++ w ++ [10])) := cat_S (a := s ++ w) (b := [10]) (by simp; omega)
      obtain ⟨id, off, cells, own, a1, a2, a3, a4, a5, a6⟩ := Raws.at' (hv1.h.mono lh) (i := i) (by omega)
      rw [hra] at a3
      rw [hrb] at a4
      have g := fun x10 h3 (l3 : h'.le h3) => hR.h [v, .int .i64 at', .int .i64 c, .bool false, .bool true, .int .u8 b.toNat, str (s ++ w ++ [10]), .int .i64 n, .int .i64 k, .int .i64 ((i + 1 : Nat) : Int), x10, undef, undef, undef] h3 hlt' ⟨lh.trans l3, _, x10, rfl, by simp; omega, fun e => by rw [hsq.h, hs1.h (by omega)], fun e => by
        obtain ⟨x, hx⟩ := hs2.h (by omega)
        exact ⟨x ++ w ++ [10], by rw [hx]; simp⟩⟩
      replace g := Hid.mk g
      clear hik lh
      repeat' (first | simp -implicitDefEqProofs only [W_skip, W_reg, W_seq, W_rcond, W_cond, W_block, W_loop, W_exit, W_ret, thenQ_normal, thenQ_exit, thenQ_ret, blockQ_normal, blockQ_ret, blockQ_here, regQ_app, rcQ_app, cndK_t, cndK_f, RegW_nil, RegW_none, RegW_some, contW_app, grdK_tt, grdK_ff, grdK_tf, grdK_ft, grdK_undef, actK_p, actK_r, actK_a, actK_w, actK_call, actK_callV, heapK_app, allocK_app, writeK_app, ret1_ret, ret1_normal, ret0_ret, ret0_normal, ret2_ret2, thenK_app, retcv_ret, retcvK_app, optW_some, evs, Arg.ev, aP, aA, aW, pMov, pBin, pUn, pConv, pPick, pFieldAddr, pNilCheck, pExtract, aBin, aUn, aInt, aNew, partL_f, upd, List.getElem?_cons_zero, List.getElem?_cons_succ, List.getD_cons_zero, List.getD_cons_succ, List.set_cons_zero, List.set_cons_succ, Nat.zero_add, Nat.add_zero, List.getElem?_toArray, List.take_zero, List.drop_zero, List.take_succ_cons, List.drop_succ_cons, if_true, if_false, decide_true, decide_false, Bool.false_eq_true, Bool.true_eq_false, Bool.not_true, Bool.not_false, not_true_eq_false, not_false_eq_true, ge_iff_le, gt_iff_lt, beq_self_eq_true, bne_self_eq_false, and_self, and_true, true_and, Option.isSome_some, Heap.get_alloc_same, Heap.alloc_getE, aR_ld, ldK_blk, *] | with_reducible refine cndK_d (fun hc => ?_) (fun hc => ?_) | with_reducible refine grdK_d (fun hc => ?_) (fun hc => ?_) | with_reducible refine cndK_i (fun hc => ?_) (fun hc => ?_) | with_reducible refine grdK_i (fun hc => ?_) (fun hc => ?_))
      refine piece_c r1 r2 h' _ fun h3 l3 => ?_
      replace l3 := Hid.mk l3
      rw [hw]
      repeat' (first | simp -implicitDefEqProofs only [W_skip, W_reg, W_seq, W_rcond, W_cond, W_block, W_loop, W_exit, W_ret, thenQ_normal, thenQ_exit, thenQ_ret, blockQ_normal, blockQ_ret, blockQ_here, regQ_app, rcQ_app, cndK_t, cndK_f, RegW_nil, RegW_none, RegW_some, contW_app, grdK_tt, grdK_ff, grdK_tf, grdK_ft, grdK_undef, actK_p, actK_r, actK_a, actK_w, actK_call, actK_callV, heapK_app, allocK_app, writeK_app, ret1_ret, ret1_normal, ret0_ret, ret0_normal, ret2_ret2, thenK_app, retcv_ret, retcvK_app, optW_some, evs, Arg.ev, aP, aR, aA, aW, pMov, pBin, pUn, pConv, pPick, pFieldAddr, pNilCheck, pExtract, aBin, aUn, aInt, aNew, partL_f, upd, List.getElem?_cons_zero, List.getElem?_cons_succ, List.getD_cons_zero, List.getD_cons_succ, List.set_cons_zero, List.set_cons_succ, Nat.zero_add, Nat.add_zero, List.getElem?_toArray, List.take_zero, List.drop_zero, List.take_succ_cons, List.drop_succ_cons, if_true, if_false, decide_true, decide_false, Bool.false_eq_true, Bool.true_eq_false, Bool.not_true, Bool.not_false, not_true_eq_false, not_false_eq_true, ge_iff_le, gt_iff_lt, beq_self_eq_true, bne_self_eq_false, and_self, and_true, true_and, Option.isSome_some, Heap.get_alloc_same, Heap.alloc_getE, extract0, extract1, *] | with_reducible refine cndK_d (fun hc => ?_) (fun hc => ?_) | with_reducible refine grdK_d (fun hc => ?_) (fun hc => ?_) | with_reducible refine cndK_i (fun hc => ?_) (fun hc => ?_) | with_reducible refine grdK_i (fun hc => ?_) (fun hc => ?_))
      exact g.h _ _ l3.h
end Go.Eng.Tk

