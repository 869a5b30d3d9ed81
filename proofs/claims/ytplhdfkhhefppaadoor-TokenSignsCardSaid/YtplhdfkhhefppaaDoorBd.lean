/-
  Part of a proof of the laws of layer 05 (token): what each function does.
  Conditions: none.
-/
import Derived.Test.YtplhdfkhhefppaaDoorBc
set_option linter.unusedSimpArgs false
set_option linter.unusedVariables false
namespace Go.Eng.Tk
open Go Go.Eng Go.Proofs

/-! ### TokenSigns -/
def textsL (ts : List Tok) : List UInt8 := ts.flatMap (·.text)
def signsOk (a b : List UInt8) : Bool :=
  ((scanR (a ++ [32] ++ b)).2.1 == 0) && ((scanR (a ++ [32] ++ b)).1.map (·.text) == [a, b, []]) && ((scanR (a ++ b)).2.1 == 0) && decide (2 ≤ (scanR (a ++ b)).1.length) && decide ((scanR (a ++ b)).1.length ≤ 4) && (textsL (scanR (a ++ b)).1 == a ++ b) &&
    (match (scanR (a ++ b)).1 with | [] => false | t :: _ => decide (a.length ≤ t.text.length))
theorem signsOk_all : (signsL.all fun a => signsL.all fun b => signsOk a b) = true := by kernel_rfl
theorem signs_short : ∀ a ∈ signsL, a.length ≤ 2 := by decide +kernel
theorem piece_sign (n : Int) : pieceL 1 n = (signsL.getD (pickN n 25) [], 4) := by
  have : pickN 1 4 = 1 := by decide
  unfold pieceL; rw [this]; rfl
theorem TokenSigns_c {one two : Int} (h1 : inI one) (h2 : inI two) (h : Heap) : CallW Tryd.prog 9 [.int .i64 one, .int .i64 two] h fun v _ => v = .bool true := by
  obtain ⟨Q, hQ⟩ : ∃ Q : Value → Heap → Prop, Q = fun v _ => v = .bool true := ⟨_, rfl⟩
  rw [← hQ]
  have hq : ∀ h', Q (.bool true) h' := fun h' => by rw [hQ]
  clear hQ
  have pa := piece_sign one
  have pb := piece_sign two
  obtain ⟨a, ha⟩ : ∃ a, signsL.getD (pickN one 25) [] = a := ⟨_, rfl⟩
  obtain ⟨b, hb⟩ : ∃ a, signsL.getD (pickN two 25) [] = a := ⟨_, rfl⟩
  have ma : a ∈ signsL := ha ▸ List.mem_of_getElem? (getD_some (l := signsL) (pickN_lt h1 (n := 25) (by omega)).1 [])
  have mb : b ∈ signsL := hb ▸ List.mem_of_getElem? (getD_some (l := signsL) (pickN_lt h2 (n := 25) (by omega)).1 [])
  rw [ha] at pa
  rw [hb] at pb
  have sa := signs_short a ma
  have sb := signs_short b mb
  have ok := List.all_eq_true.1 (List.all_eq_true.1 signsOk_all a ma) b mb
  unfold signsOk at ok
  simp only [Bool.and_eq_true, beq_iff_eq, decide_eq_true_eq] at ok
  obtain ⟨⟨⟨⟨⟨⟨o1, o2⟩, o3⟩, o4⟩, o5⟩, o6⟩, o7⟩ := ok
  clear ha hb ma mb
  refine call_of1 (k := 2) ok9 rfl rfl rfl fun N => ?_
  rw [show env0 c9 [.int .i64 one, .int .i64 two] = [.int .i64 one, .int .i64 two, undef, undef, undef, undef, undef, undef, undef, undef, undef, undef] from rfl]
  delta c9 c9_r0 c9_r1 c9_r2 c9_r3 c9_r4 c9_r5 c9_r6 c9_r7 c9_r8 c9_r9 c9_r10 c9_r11 c9_r12 c9_r14
  replace hq := Hid.mk hq
  repeat' (first | simp -implicitDefEqProofs only [W_skip, W_reg, W_seq, W_rcond, W_cond, W_block, W_loop, W_exit, W_ret, thenQ_normal, thenQ_exit, thenQ_ret, blockQ_normal, blockQ_ret, blockQ_here, regQ_app, rcQ_app, cndK_t, cndK_f, RegW_nil, RegW_none, RegW_some, contW_app, grdK_tt, grdK_ff, grdK_tf, grdK_ft, grdK_undef, actK_p, actK_r, actK_a, actK_w, actK_call, actK_callV, heapK_app, allocK_app, writeK_app, ret1_ret, ret1_normal, ret0_ret, ret0_normal, ret2_ret2, thenK_app, retcv_ret, retcvK_app, optW_some, evs, Arg.ev, aP, aR, aA, aW, pMov, pBin, pUn, pConv, pPick, pFieldAddr, pNilCheck, pExtract, aBin, aUn, aInt, aNew, partL_f, upd, List.getElem?_cons_zero, List.getElem?_cons_succ, List.getD_cons_zero, List.getD_cons_succ, List.set_cons_zero, List.set_cons_succ, Nat.zero_add, Nat.add_zero, List.getElem?_toArray, List.take_zero, List.drop_zero, List.take_succ_cons, List.drop_succ_cons, if_true, if_false, decide_true, decide_false, Bool.false_eq_true, Bool.true_eq_false, Bool.not_true, Bool.not_false, not_true_eq_false, not_false_eq_true, ge_iff_le, gt_iff_lt, beq_self_eq_true, bne_self_eq_false, and_self, and_true, true_and, Option.isSome_some, Heap.get_alloc_same, Heap.alloc_getE, *] | with_reducible refine cndK_d (fun hc => ?_) (fun hc => ?_) | with_reducible refine grdK_d (fun hc => ?_) (fun hc => ?_) | with_reducible refine cndK_i (fun hc => ?_) (fun hc => ?_) | with_reducible refine grdK_i (fun hc => ?_) (fun hc => ?_))
  refine awake_c h _ fun h1' _ => ?_
  repeat' (first | simp -implicitDefEqProofs only [W_skip, W_reg, W_seq, W_rcond, W_cond, W_block, W_loop, W_exit, W_ret, thenQ_normal, thenQ_exit, thenQ_ret, blockQ_normal, blockQ_ret, blockQ_here, regQ_app, rcQ_app, cndK_t, cndK_f, RegW_nil, RegW_none, RegW_some, contW_app, grdK_tt, grdK_ff, grdK_tf, grdK_ft, grdK_undef, actK_p, actK_r, actK_a, actK_w, actK_call, actK_callV, heapK_app, allocK_app, writeK_app, ret1_ret, ret1_normal, ret0_ret, ret0_normal, ret2_ret2, thenK_app, retcv_ret, retcvK_app, optW_some, evs, Arg.ev, aP, aR, aA, aW, pMov, pBin, pUn, pConv, pPick, pFieldAddr, pNilCheck, pExtract, aBin, aUn, aInt, aNew, partL_f, upd, List.getElem?_cons_zero, List.getElem?_cons_succ, List.getD_cons_zero, List.getD_cons_succ, List.set_cons_zero, List.set_cons_succ, Nat.zero_add, Nat.add_zero, List.getElem?_toArray, List.take_zero, List.drop_zero, List.take_succ_cons, List.drop_succ_cons, if_true, if_false, decide_true, decide_false, Bool.false_eq_true, Bool.true_eq_false, Bool.not_true, Bool.not_false, not_true_eq_false, not_false_eq_true, ge_iff_le, gt_iff_lt, beq_self_eq_true, bne_self_eq_false, and_self, and_true, true_and, Option.isSome_some, Heap.get_alloc_same, Heap.alloc_getE, *] | with_reducible refine cndK_d (fun hc => ?_) (fun hc => ?_) | with_reducible refine grdK_d (fun hc => ?_) (fun hc => ?_) | with_reducible refine cndK_i (fun hc => ?_) (fun hc => ?_) | with_reducible refine grdK_i (fun hc => ?_) (fun hc => ?_))
  refine piece_c ⟨by decide, by decide⟩ h1 h1' _ fun h2' _ => ?_
  rw [pa]
  repeat' (first | simp -implicitDefEqProofs only [W_skip, W_reg, W_seq, W_rcond, W_cond, W_block, W_loop, W_exit, W_ret, thenQ_normal, thenQ_exit, thenQ_ret, blockQ_normal, blockQ_ret, blockQ_here, regQ_app, rcQ_app, cndK_t, cndK_f, RegW_nil, RegW_none, RegW_some, contW_app, grdK_tt, grdK_ff, grdK_tf, grdK_ft, grdK_undef, actK_p, actK_r, actK_a, actK_w, actK_call, actK_callV, heapK_app, allocK_app, writeK_app, ret1_ret, ret1_normal, ret0_ret, ret0_normal, ret2_ret2, thenK_app, retcv_ret, retcvK_app, optW_some, evs, Arg.ev, aP, aR, aA, aW, pMov, pBin, pUn, pConv, pPick, pFieldAddr, pNilCheck, pExtract, aBin, aUn, aInt, aNew, partL_f, upd, List.getElem?_cons_zero, List.getElem?_cons_succ, List.getD_cons_zero, List.getD_cons_succ, List.set_cons_zero, List.set_cons_succ, Nat.zero_add, Nat.add_zero, List.getElem?_toArray, List.take_zero, List.drop_zero, List.take_succ_cons, List.drop_succ_cons, if_true, if_false, decide_true, decide_false, Bool.false_eq_true, Bool.true_eq_false, Bool.not_true, Bool.not_false, not_true_eq_false, not_false_eq_true, ge_iff_le, gt_iff_lt, beq_self_eq_true, bne_self_eq_false, and_self, and_true, true_and, Option.isSome_some, Heap.get_alloc_same, Heap.alloc_getE, extract0, extract1, *] | with_reducible refine cndK_d (fun hc => ?_) (fun hc => ?_) | with_reducible refine grdK_d (fun hc => ?_) (fun hc => ?_) | with_reducible refine cndK_i (fun hc => ?_) (fun hc => ?_) | with_reducible refine grdK_i (fun hc => ?_) (fun hc => ?_))
  refine piece_c ⟨by decide, by decide⟩ h2 h2' _ fun h3 _ => ?_
  rw [pb]
  have ct1 : aStr .add ⟨a.toArray⟩ ⟨#[32]⟩ = some (str (a ++ [32])) := cat_S (a := a) (b := [32]) (by simp; omega)
  have ct2 := cat_S (a := a ++ [32]) (b := b) (by simp; omega)
  have ct3 := cat_S (a := a) (b := b) (by omega)
  obtain ⟨r1, hr1⟩ : ∃ r, scanR (a ++ [32] ++ b) = r := ⟨_, rfl⟩
  obtain ⟨r2, hr2⟩ : ∃ r, scanR (a ++ b) = r := ⟨_, rfl⟩
  rw [hr1] at o1 o2
  rw [hr2] at o3 o4 o5 o6 o7
  obtain ⟨l, e, n⟩ := r1
  obtain ⟨m, f, n'⟩ := r2
  simp only at o1 o2 o3 o4 o5 o6 o7
  subst o1; subst o3
  repeat' (first | simp -implicitDefEqProofs only [W_skip, W_reg, W_seq, W_rcond, W_cond, W_block, W_loop, W_exit, W_ret, thenQ_normal, thenQ_exit, thenQ_ret, blockQ_normal, blockQ_ret, blockQ_here, regQ_app, rcQ_app, cndK_t, cndK_f, RegW_nil, RegW_none, RegW_some, contW_app, grdK_tt, grdK_ff, grdK_tf, grdK_ft, grdK_undef, actK_p, actK_r, actK_a, actK_w, actK_call, actK_callV, heapK_app, allocK_app, writeK_app, ret1_ret, ret1_normal, ret0_ret, ret0_normal, ret2_ret2, thenK_app, retcv_ret, retcvK_app, optW_some, evs, Arg.ev, aP, aR, aA, aW, pMov, pBin, pUn, pConv, pPick, pFieldAddr, pNilCheck, pExtract, aBin, aUn, aInt, aNew, partL_f, upd, List.getElem?_cons_zero, List.getElem?_cons_succ, List.getD_cons_zero, List.getD_cons_succ, List.set_cons_zero, List.set_cons_succ, Nat.zero_add, Nat.add_zero, List.getElem?_toArray, List.take_zero, List.drop_zero, List.take_succ_cons, List.drop_succ_cons, if_true, if_false, decide_true, decide_false, Bool.false_eq_true, Bool.true_eq_false, Bool.not_true, Bool.not_false, not_true_eq_false, not_false_eq_true, ge_iff_le, gt_iff_lt, beq_self_eq_true, bne_self_eq_false, and_self, and_true, true_and, Option.isSome_some, Heap.get_alloc_same, Heap.alloc_getE, extract0, extract1, *] | with_reducible refine cndK_d (fun hc => ?_) (fun hc => ?_) | with_reducible refine grdK_d (fun hc => ?_) (fun hc => ?_) | with_reducible refine cndK_i (fun hc => ?_) (fun hc => ?_) | with_reducible refine grdK_i (fun hc => ?_) (fun hc => ?_))
  refine Scan_c (l := a ++ [32] ++ b) h3 (Heap.le.refl h3) _ fun vl h4 hvl l4 => ?_
  rw [hr1] at hvl ⊢
  simp only at hvl
  repeat' (first | simp -implicitDefEqProofs only [W_skip, W_reg, W_seq, W_rcond, W_cond, W_block, W_loop, W_exit, W_ret, thenQ_normal, thenQ_exit, thenQ_ret, blockQ_normal, blockQ_ret, blockQ_here, regQ_app, rcQ_app, cndK_t, cndK_f, RegW_nil, RegW_none, RegW_some, contW_app, grdK_tt, grdK_ff, grdK_tf, grdK_ft, grdK_undef, actK_p, actK_r, actK_a, actK_w, actK_call, actK_callV, heapK_app, allocK_app, writeK_app, ret1_ret, ret1_normal, ret0_ret, ret0_normal, ret2_ret2, thenK_app, retcv_ret, retcvK_app, optW_some, evs, Arg.ev, aP, aR, aA, aW, pMov, pBin, pUn, pConv, pPick, pFieldAddr, pNilCheck, pExtract, aBin, aUn, aInt, aNew, partL_f, upd, List.getElem?_cons_zero, List.getElem?_cons_succ, List.getD_cons_zero, List.getD_cons_succ, List.set_cons_zero, List.set_cons_succ, Nat.zero_add, Nat.add_zero, List.getElem?_toArray, List.take_zero, List.drop_zero, List.take_succ_cons, List.drop_succ_cons, if_true, if_false, decide_true, decide_false, Bool.false_eq_true, Bool.true_eq_false, Bool.not_true, Bool.not_false, not_true_eq_false, not_false_eq_true, ge_iff_le, gt_iff_lt, beq_self_eq_true, bne_self_eq_false, and_self, and_true, true_and, Option.isSome_some, Heap.get_alloc_same, Heap.alloc_getE, extract3_0, extract3_1, extract3_2, *] | with_reducible refine cndK_d (fun hc => ?_) (fun hc => ?_) | with_reducible refine grdK_d (fun hc => ?_) (fun hc => ?_) | with_reducible refine cndK_i (fun hc => ?_) (fun hc => ?_) | with_reducible refine grdK_i (fun hc => ?_) (fun hc => ?_))
  refine Scan_c (l := a ++ b) h4 (Heap.le.refl h4) _ fun vm h5 hvm l5 => ?_
  rw [hr2] at hvm ⊢
  simp only at hvm
  have tl : TokS h5 vl l := (hvl.mono l5).sl
  have tm : TokS h5 vm m := hvm.sl
  clear hvl hvm l4 l5 hr1 hr2
  obtain ⟨t0, t1, t2, rfl⟩ : ∃ t0 t1 t2, l = [t0, t1, t2] := by
    match l with
    | [t0, t1, t2] => exact ⟨_, _, _, rfl⟩
    | [] => simp at o2
    | [_] => simp at o2
    | [_, _] => simp at o2
    | _ :: _ :: _ :: _ :: _ => simp at o2
  simp only [List.map_cons, List.map_nil, List.cons.injEq, and_true] at o2
  obtain ⟨q0, q1, q2⟩ := o2
  have ll := tokS_len tl
  rw [show ((([t0, t1, t2] : List Tok).length : Nat) : Int) = 3 from rfl] at ll
  have lm := tokS_len tm
  obtain ⟨i0, p0, s0, w0, a0, b0, _, _, d0, _⟩ := tokS_elem tl (i := 0) (t := t0) rfl
  obtain ⟨i1, p1, s1, w1, a1, b1, _, _, d1, _⟩ := tokS_elem tl (i := 1) (t := t1) rfl
  rw [q0] at d0
  rw [q1] at d1
  simp only [Int.ofNat_zero, Int.cast_ofNat_Int] at a0 a1
  obtain ⟨t, m', hm⟩ : ∃ t m', m = t :: m' := by cases m with | nil => simp at o4 | cons t m' => exact ⟨t, m', rfl⟩
  obtain ⟨i2, p2, s2, w2, a2, b2, _, _, d2, _⟩ := tokS_elem tm (i := 0) (t := t) (by rw [hm]; rfl)
  simp only [Int.ofNat_zero, Int.cast_ofNat_Int] at a2
  rw [hm] at o7
  have o7' : (a.length : Int) ≤ (t.text.length : Int) := by simp only [decide_eq_true_eq] at o7; omega
  have k1 : ((0 : Int) != 0) = false := rfl
  have k2 : ((3 : Int) != 3) = false := rfl
  have k3 : ¬ (m.length : Int) < 2 := by omega
  have k4 : ¬ 4 < (m.length : Int) := by omega
  have hlen : (a ++ b).length ≤ 4 := by simp; omega
  rw [← o6] at hlen
  replace o6 := Hid.mk o6
  replace tl := Hid.mk tl
  replace tm := Hid.mk tm
  clear hm o7 q0 q1 q2 m'
  repeat' (first | simp -implicitDefEqProofs only [W_skip, W_reg, W_seq, W_rcond, W_cond, W_block, W_loop, W_exit, W_ret, thenQ_normal, thenQ_exit, thenQ_ret, blockQ_normal, blockQ_ret, blockQ_here, regQ_app, rcQ_app, cndK_t, cndK_f, RegW_nil, RegW_none, RegW_some, contW_app, grdK_tt, grdK_ff, grdK_tf, grdK_ft, grdK_undef, actK_p, actK_r, actK_a, actK_w, actK_call, actK_callV, heapK_app, allocK_app, writeK_app, ret1_ret, ret1_normal, ret0_ret, ret0_normal, ret2_ret2, thenK_app, retcv_ret, retcvK_app, optW_some, evs, Arg.ev, aP, aR, aA, aW, pMov, pBin, pUn, pConv, pPick, pFieldAddr, pNilCheck, pExtract, aBin, aUn, aInt, aNew, partL_f, upd, List.getElem?_cons_zero, List.getElem?_cons_succ, List.getD_cons_zero, List.getD_cons_succ, List.set_cons_zero, List.set_cons_succ, Nat.zero_add, Nat.add_zero, List.getElem?_toArray, List.take_zero, List.drop_zero, List.take_succ_cons, List.drop_succ_cons, if_true, if_false, decide_true, decide_false, Bool.false_eq_true, Bool.true_eq_false, Bool.not_true, Bool.not_false, not_true_eq_false, not_false_eq_true, ge_iff_le, gt_iff_lt, beq_self_eq_true, bne_self_eq_false, and_self, and_true, true_and, Option.isSome_some, Heap.get_alloc_same, Heap.alloc_getE, extract3_0, extract3_1, extract3_2, *] | with_reducible refine cndK_d (fun hc => ?_) (fun hc => ?_) | with_reducible refine grdK_d (fun hc => ?_) (fun hc => ?_) | with_reducible refine cndK_i (fun hc => ?_) (fun hc => ?_) | with_reducible refine grdK_i (fun hc => ?_) (fun hc => ?_))
  refine LoopW.upto m.length (fun i e h' => h' = h5 ∧ e = [.int .i64 one, .int .i64 two, .bool false, .bool true, str a, str b, vl, .int .i64 0, vm, .int .i64 0, str (textsL (m.take i)), .int .i64 i]) ?_ (Nat.zero_le _) ⟨rfl, rfl⟩
  rintro i _ _ R hi ⟨rfl, rfl⟩ hR
  delta c9_l13 c9_r0 c9_r1 c9_r2 c9_r3 c9_r4 c9_r5 c9_r6 c9_r7 c9_r8 c9_r9 c9_r10 c9_r11 c9_r12 c9_r14
  by_cases hlt : i < m.length
  case neg =>
    have hlt' : ¬ (i : Int) < m.length := by omega
    have hti : textsL (m.take i) = a ++ b := by rw [List.take_of_length_le (by omega)]; exact o6.h
    rw [hti]
    have e1 : (a == a) = true := by simp
    have e2 : (b == b) = true := by simp
    have e3 : ((a ++ b) == (a ++ b)) = true := by simp
    clear hti
    repeat' (first | simp -implicitDefEqProofs only [W_skip, W_reg, W_seq, W_rcond, W_cond, W_block, W_loop, W_exit, W_ret, thenQ_normal, thenQ_exit, thenQ_ret, blockQ_normal, blockQ_ret, blockQ_here, regQ_app, rcQ_app, cndK_t, cndK_f, RegW_nil, RegW_none, RegW_some, contW_app, grdK_tt, grdK_ff, grdK_tf, grdK_ft, grdK_undef, actK_p, actK_r, actK_a, actK_w, actK_call, actK_callV, heapK_app, allocK_app, writeK_app, ret1_ret, ret1_normal, ret0_ret, ret0_normal, ret2_ret2, thenK_app, retcv_ret, retcvK_app, optW_some, evs, Arg.ev, aP, aR, aA, aW, pMov, pBin, pUn, pConv, pPick, pFieldAddr, pNilCheck, pExtract, aBin, aUn, aInt, aNew, partL_f, upd, List.getElem?_cons_zero, List.getElem?_cons_succ, List.getD_cons_zero, List.getD_cons_succ, List.set_cons_zero, List.set_cons_succ, Nat.zero_add, Nat.add_zero, List.getElem?_toArray, List.take_zero, List.drop_zero, List.take_succ_cons, List.drop_succ_cons, if_true, if_false, decide_true, decide_false, Bool.false_eq_true, Bool.true_eq_false, Bool.not_true, Bool.not_false, not_true_eq_false, not_false_eq_true, ge_iff_le, gt_iff_lt, beq_self_eq_true, bne_self_eq_false, and_self, and_true, true_and, Option.isSome_some, Heap.get_alloc_same, Heap.alloc_getE, eq_S, len_S, *] | with_reducible refine cndK_d (fun hc => ?_) (fun hc => ?_) | with_reducible refine grdK_d (fun hc => ?_) (fun hc => ?_) | with_reducible refine cndK_i (fun hc => ?_) (fun hc => ?_) | with_reducible refine grdK_i (fun hc => ?_) (fun hc => ?_))
    exact hq.h _
  case pos =>
    have hlt' : (i : Int) < m.length := by omega
    have hwj : IntKind.i64.wrap ((i : Int) + 1) = ((i + 1 : Nat) : Int) := by rw [wrapI (by omega) (by omega)]; rfl
    obtain ⟨t', ht'⟩ : ∃ t, m[i]? = some t := ⟨_, List.getElem?_eq_getElem hlt⟩
    obtain ⟨i3, p3, s3, w3, a3, b3, _, _, d3, _⟩ := tokS_elem tm.h ht'
    have hnx : textsL (m.take (i + 1)) = textsL (m.take i) ++ t'.text := by
      unfold textsL; rw [List.take_add_one, ht', List.flatMap_append]; simp
    have hle : (textsL (m.take (i + 1))).length ≤ 4 := by
      refine Nat.le_trans ?_ hlen
      unfold textsL
      conv => rhs; rw [← List.take_append_drop (i + 1) m, List.flatMap_append]
      simp
    have ct := cat_S (a := textsL (m.take i)) (b := t'.text) (by rw [hnx] at hle; simp at hle; omega)
    have g := hR.h [.int .i64 one, .int .i64 two, .bool false, .bool true, str a, str b, vl, .int .i64 0, vm, .int .i64 0, str (textsL (m.take i) ++ t'.text), .int .i64 ((i + 1 : Nat) : Int)] _ hlt ⟨rfl, by rw [hnx]⟩
    replace g := Hid.mk g
    clear hnx hle ht'
    repeat' (first | simp -implicitDefEqProofs only [W_skip, W_reg, W_seq, W_rcond, W_cond, W_block, W_loop, W_exit, W_ret, thenQ_normal, thenQ_exit, thenQ_ret, blockQ_normal, blockQ_ret, blockQ_here, regQ_app, rcQ_app, cndK_t, cndK_f, RegW_nil, RegW_none, RegW_some, contW_app, grdK_tt, grdK_ff, grdK_tf, grdK_ft, grdK_undef, actK_p, actK_r, actK_a, actK_w, actK_call, actK_callV, heapK_app, allocK_app, writeK_app, ret1_ret, ret1_normal, ret0_ret, ret0_normal, ret2_ret2, thenK_app, retcv_ret, retcvK_app, optW_some, evs, Arg.ev, aP, aR, aA, aW, pMov, pBin, pUn, pConv, pPick, pFieldAddr, pNilCheck, pExtract, aBin, aUn, aInt, aNew, partL_f, upd, List.getElem?_cons_zero, List.getElem?_cons_succ, List.getD_cons_zero, List.getD_cons_succ, List.set_cons_zero, List.set_cons_succ, Nat.zero_add, Nat.add_zero, List.getElem?_toArray, List.take_zero, List.drop_zero, List.take_succ_cons, List.drop_succ_cons, if_true, if_false, decide_true, decide_false, Bool.false_eq_true, Bool.true_eq_false, Bool.not_true, Bool.not_false, not_true_eq_false, not_false_eq_true, ge_iff_le, gt_iff_lt, beq_self_eq_true, bne_self_eq_false, and_self, and_true, true_and, Option.isSome_some, Heap.get_alloc_same, Heap.alloc_getE, *] | with_reducible refine cndK_d (fun hc => ?_) (fun hc => ?_) | with_reducible refine grdK_d (fun hc => ?_) (fun hc => ?_) | with_reducible refine cndK_i (fun hc => ?_) (fun hc => ?_) | with_reducible refine grdK_i (fun hc => ?_) (fun hc => ?_))
    exact g.h
end Go.Eng.Tk

