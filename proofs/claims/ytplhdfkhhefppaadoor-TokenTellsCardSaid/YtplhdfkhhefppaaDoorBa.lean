/-
  Part of a proof of the laws of layer 05 (token): what each function does.
  Conditions: none.
-/
import Derived.Lib.SmallJoins
import Derived.Lib.Strings
import Derived.Test.YtplhdfkhhefppaaDoorEc
import Derived.Test.YtplhdfkhhefppaaDoorC
set_option linter.unusedSimpArgs false
set_option linter.unusedVariables false
namespace Go.Eng
open Go

/-! ### strings, as lists of bytes -/
theorem ba_toList (l : List UInt8) : (ByteArray.mk l.toArray).toList = l := by
  simp
theorem ba_eq {x : ByteArray} {l : List UInt8} (h : x.data.toList = l) : x = ⟨l.toArray⟩ := by
  subst h; cases x; rfl
theorem ba_extract (l : List UInt8) (a b : Nat) : (ByteArray.mk l.toArray).extract a b = ⟨((l.drop a).take (b - a)).toArray⟩ := by
  apply ba_eq
  simp
theorem len_S (l : List UInt8) : pLenStr [.string ⟨l.toArray⟩] = some (.int .i64 l.length) := by
  simp [pLenStr, ByteArray.size]
theorem idx_S {l : List UInt8} {i : Nat} {b : UInt8} (h : l[i]? = some b) (k : IntKind) : pIdxStr [.string ⟨l.toArray⟩, .int k (i : Int)] = some (.int .u8 b.toNat) := by
  have hi := (List.getElem?_eq_some_iff.1 h)
  have : (ByteArray.mk l.toArray)[i]? = some b := by
    obtain ⟨h1, h2⟩ := hi
    have h3 : i < (ByteArray.mk l.toArray).size := by simpa [ByteArray.size] using h1
    rw [getElem?_pos (ByteArray.mk l.toArray) i h3]
    simp [ByteArray.getElem_eq_getElem_data, h2]
  simp [pIdxStr, this]
theorem eq_S (a b : List UInt8) : aStr .eql ⟨a.toArray⟩ ⟨b.toArray⟩ = some (.bool (a == b)) := by
  simp [aStr, ba_toList]
theorem ne_S (a b : List UInt8) : aStr .neq ⟨a.toArray⟩ ⟨b.toArray⟩ = some (.bool !(a == b)) := by
  simp [aStr, ba_toList]
theorem cat_S {a b : List UInt8} (h : (a.length + b.length : Nat) ≤ 9223372036854775807) : aStr .add ⟨a.toArray⟩ ⟨b.toArray⟩ = some (.string ⟨(a ++ b).toArray⟩) := by
  have : (ByteArray.mk a.toArray).size + (ByteArray.mk b.toArray).size ≤ 9223372036854775807 := by simpa [ByteArray.size] using h
  simp only [aStr, this, if_true]
  rw [ba_eq (x := ByteArray.mk a.toArray ++ ByteArray.mk b.toArray) (l := a ++ b) (by simp)]
theorem cutHi_S {l : List UInt8} {n : Nat} (h : n ≤ l.length) : pSliceStr false true [.string ⟨l.toArray⟩, .int .i64 (n : Int)] = some (.string ⟨(l.take n).toArray⟩) := by
  have h2 : n ≤ (ByteArray.mk l.toArray).size := by simpa [ByteArray.size] using h
  simp [pSliceStr, bnds, h2, ba_extract]
theorem cutLo_S {l : List UInt8} {n : Nat} (h : n ≤ l.length) : pSliceStr true false [.string ⟨l.toArray⟩, .int .i64 (n : Int)] = some (.string ⟨(l.drop n).toArray⟩) := by
  have h2 : n ≤ (ByteArray.mk l.toArray).size := by simpa [ByteArray.size] using h
  have h3 : (ByteArray.mk l.toArray).size = l.length := by simp [ByteArray.size]
  have h4 : (l.drop n).take (l.length - n) = l.drop n := List.take_of_length_le (by simp)
  simp [pSliceStr, bnds, h2, ba_extract, h3, h4, h]
theorem cut_S {l : List UInt8} {m n : Nat} (hm : m ≤ n) (h : n ≤ l.length) : pSliceStr true true [.string ⟨l.toArray⟩, .int .i64 (m : Int), .int .i64 (n : Int)] = some (.string ⟨((l.take n).drop m).toArray⟩) := by
  have h2 : n ≤ (ByteArray.mk l.toArray).size := by simpa [ByteArray.size] using h
  have h4 : (l.drop m).take (n - m) = (l.take n).drop m := by rw [List.drop_take]
  simp [pSliceStr, bnds, h2, hm, ba_extract, h4]
end Go.Eng

set_option linter.unusedSimpArgs false
set_option linter.unusedVariables false
namespace Go.Eng.Tk
open Go Go.Eng Go.Proofs

/-- may a byte be in a name? -/
def nmZ (z : Int) : Bool := (decide (97 ≤ z) && decide (z ≤ 122)) || (decide (65 ≤ z) && decide (z ≤ 90)) || (z == 95) || (decide (48 ≤ z) && decide (z ≤ 57))
def nm (b : UInt8) : Bool := nmZ b.toNat
theorem part_c (z : Int) (h : Heap) (Q : Value → Heap → Prop) (hq : Q (.bool (nmZ z)) h) : CallW Tryd.prog 43 [.int .u8 z] h Q := by
  refine call_of1 (k := 1) ok43 rfl rfl rfl fun N => ?_
  rw [show env0 c43 [.int .u8 z] = [.int .u8 z, undef] from rfl]
  delta c43 c43_r0 c43_r1
  replace hq := Hid.mk hq
  have go : ∀ b, nmZ z = b → Q (.bool b) h := fun b hb => by rw [← hb]; exact hq.h
  replace go := Hid.mk go
  clear hq
  by_cases h1 : 97 ≤ z <;> by_cases h2 : z ≤ 122
  · repeat' (first | simp -implicitDefEqProofs only [W_skip, W_reg, W_seq, W_rcond, W_cond, W_block, W_loop, W_exit, W_ret, thenQ_normal, thenQ_exit, thenQ_ret, blockQ_normal, blockQ_ret, blockQ_here, regQ_app, rcQ_app, cndK_t, cndK_f, RegW_nil, RegW_none, RegW_some, contW_app, grdK_tt, grdK_ff, grdK_tf, grdK_ft, grdK_undef, actK_p, actK_r, actK_a, actK_w, actK_call, actK_callV, heapK_app, allocK_app, writeK_app, ret1_ret, ret1_normal, ret0_ret, ret0_normal, ret2_ret2, thenK_app, retcv_ret, retcvK_app, optW_some, evs, Arg.ev, aP, aR, aA, aW, pMov, pBin, pUn, pConv, pPick, pFieldAddr, pNilCheck, pExtract, aBin, aUn, aInt, aNew, partL_f, upd, List.getElem?_cons_zero, List.getElem?_cons_succ, List.getD_cons_zero, List.getD_cons_succ, List.set_cons_zero, List.set_cons_succ, Nat.zero_add, Nat.add_zero, List.getElem?_toArray, List.take_zero, List.drop_zero, List.take_succ_cons, List.drop_succ_cons, if_true, if_false, decide_true, decide_false, Bool.false_eq_true, Bool.true_eq_false, Bool.not_true, Bool.not_false, not_true_eq_false, not_false_eq_true, ge_iff_le, gt_iff_lt, beq_self_eq_true, bne_self_eq_false, and_self, and_true, true_and, Option.isSome_some, Heap.get_alloc_same, Heap.alloc_getE, *] | with_reducible refine cndK_d (fun hc => ?_) (fun hc => ?_) | with_reducible refine grdK_d (fun hc => ?_) (fun hc => ?_) | with_reducible refine cndK_i (fun hc => ?_) (fun hc => ?_) | with_reducible refine grdK_i (fun hc => ?_) (fun hc => ?_))
    exact go.h _ (by simp [nmZ, h1, h2])
  all_goals by_cases h3 : 65 ≤ z <;> by_cases h4 : z ≤ 90
  all_goals cases h5 : (z == 95)
  all_goals by_cases h6 : 48 ≤ z <;> by_cases h7 : z ≤ 57
  all_goals first
    | (exfalso; omega)
    | (repeat' (first | simp -implicitDefEqProofs only [W_skip, W_reg, W_seq, W_rcond, W_cond, W_block, W_loop, W_exit, W_ret, thenQ_normal, thenQ_exit, thenQ_ret, blockQ_normal, blockQ_ret, blockQ_here, regQ_app, rcQ_app, cndK_t, cndK_f, RegW_nil, RegW_none, RegW_some, contW_app, grdK_tt, grdK_ff, grdK_tf, grdK_ft, grdK_undef, actK_p, actK_r, actK_a, actK_w, actK_call, actK_callV, heapK_app, allocK_app, writeK_app, ret1_ret, ret1_normal, ret0_ret, ret0_normal, ret2_ret2, thenK_app, retcv_ret, retcvK_app, optW_some, evs, Arg.ev, aP, aR, aA, aW, pMov, pBin, pUn, pConv, pPick, pFieldAddr, pNilCheck, pExtract, aBin, aUn, aInt, aNew, partL_f, upd, List.getElem?_cons_zero, List.getElem?_cons_succ, List.getD_cons_zero, List.getD_cons_succ, List.set_cons_zero, List.set_cons_succ, Nat.zero_add, Nat.add_zero, List.getElem?_toArray, List.take_zero, List.drop_zero, List.take_succ_cons, List.drop_succ_cons, if_true, if_false, decide_true, decide_false, Bool.false_eq_true, Bool.true_eq_false, Bool.not_true, Bool.not_false, not_true_eq_false, not_false_eq_true, ge_iff_le, gt_iff_lt, beq_self_eq_true, bne_self_eq_false, and_self, and_true, true_and, Option.isSome_some, Heap.get_alloc_same, Heap.alloc_getE, *] | with_reducible refine cndK_d (fun hc => ?_) (fun hc => ?_) | with_reducible refine grdK_d (fun hc => ?_) (fun hc => ?_) | with_reducible refine cndK_i (fun hc => ?_) (fun hc => ?_) | with_reducible refine grdK_i (fun hc => ?_) (fun hc => ?_))
       exact go.h _ (by simp only [nmZ, h1, h2, h3, h4, h5, h6, h7]; rfl))
end Go.Eng.Tk

set_option linter.unusedSimpArgs false
set_option linter.unusedVariables false
namespace Go.Eng.Tk
open Go Go.Eng Go.Proofs

theorem wrapI {z : Int} (h1 : -9223372036854775808 ≤ z) (h2 : z ≤ 9223372036854775807) : IntKind.i64.wrap z = z := by
  rw [IntKind.wrap_i64]; omega

abbrev str (l : List UInt8) : Value := .string ⟨l.toArray⟩
theorem tw_step {p : UInt8 → Bool} : ∀ {l : List UInt8} {i : Nat} {b : UInt8}, i ≤ (l.takeWhile p).length → l[i]? = some b → (p b = true → i + 1 ≤ (l.takeWhile p).length) ∧ (p b = false → (l.takeWhile p).length = i)
  | [], i, b, h, hb => by simp at hb
  | x :: l, 0, b, h, hb => by
    simp at hb; subst hb
    constructor
    · intro hp; simp [List.takeWhile_cons, hp]
    · intro hp; simp [List.takeWhile_cons, hp]
  | x :: l, i + 1, b, h, hb => by
    cases hx : p x with
    | false => simp [List.takeWhile_cons, hx] at h
    | true =>
      have := tw_step (p := p) (l := l) (i := i) (b := b) (by simpa [List.takeWhile_cons, hx] using h) (by simpa using hb)
      constructor
      · intro hp; have := this.1 hp; simp [List.takeWhile_cons, hx]; omega
      · intro hp; have := this.2 hp; simp [List.takeWhile_cons, hx]; omega
def runN (l : List UInt8) : Nat := (l.takeWhile nm).length
theorem runN_le (l : List UInt8) : runN l ≤ l.length := by
  have := (List.takeWhile_prefix (p := nm) (l := l)).length_le
  exact this
theorem run_c {l : List UInt8} (hl : l.length ≤ 1000000000) (h : Heap) (Q : Value → Heap → Prop) (hq : ∀ h', h.le h' → Q (.int .i64 (runN l)) h') : CallW Tryd.prog 27 [str l] h Q := by
  refine call_of1 (k := 1) ok27 rfl rfl rfl fun N => ?_
  rw [show env0 c27 [str l] = [str l, undef, undef, undef, undef, undef] from rfl]
  delta c27 c27_r0 c27_r1 c27_r2 c27_r3 c27_r4 c27_r5 c27_r6 c27_r8
  replace hq := Hid.mk hq
  repeat' (first | simp -implicitDefEqProofs only [W_skip, W_reg, W_seq, W_rcond, W_cond, W_block, W_loop, W_exit, W_ret, thenQ_normal, thenQ_exit, thenQ_ret, blockQ_normal, blockQ_ret, blockQ_here, regQ_app, rcQ_app, cndK_t, cndK_f, RegW_nil, RegW_none, RegW_some, contW_app, grdK_tt, grdK_ff, grdK_tf, grdK_ft, grdK_undef, actK_p, actK_r, actK_a, actK_w, actK_call, actK_callV, heapK_app, allocK_app, writeK_app, ret1_ret, ret1_normal, ret0_ret, ret0_normal, ret2_ret2, thenK_app, retcv_ret, retcvK_app, optW_some, evs, Arg.ev, aP, aR, aA, aW, pMov, pBin, pUn, pConv, pPick, pFieldAddr, pNilCheck, pExtract, aBin, aUn, aInt, aNew, partL_f, upd, List.getElem?_cons_zero, List.getElem?_cons_succ, List.getD_cons_zero, List.getD_cons_succ, List.set_cons_zero, List.set_cons_succ, Nat.zero_add, Nat.add_zero, List.getElem?_toArray, List.take_zero, List.drop_zero, List.take_succ_cons, List.drop_succ_cons, if_true, if_false, decide_true, decide_false, Bool.false_eq_true, Bool.true_eq_false, Bool.not_true, Bool.not_false, not_true_eq_false, not_false_eq_true, ge_iff_le, gt_iff_lt, beq_self_eq_true, bne_self_eq_false, and_self, and_true, true_and, Option.isSome_some, Heap.get_alloc_same, Heap.alloc_getE, len_S, *] | with_reducible refine cndK_d (fun hc => ?_) (fun hc => ?_) | with_reducible refine grdK_d (fun hc => ?_) (fun hc => ?_) | with_reducible refine cndK_i (fun hc => ?_) (fun hc => ?_) | with_reducible refine grdK_i (fun hc => ?_) (fun hc => ?_))
  refine LoopW.upto l.length (fun i e h1 => h.le h1 ∧ i ≤ runN l ∧ ∃ x2 x5, e = [str l, .int .i64 0, x2, .int .i64 l.length, .int .i64 i, x5]) ?_ (Nat.zero_le _) ⟨Heap.le.refl _, Nat.zero_le _, _, _, rfl⟩
  rintro i _ h1 R hi ⟨hl1, hpre, x2, x5, rfl⟩ hR
  replace hpre := Hid.mk hpre
  delta c27_l7 c27_r0 c27_r1 c27_r2 c27_r3 c27_r4 c27_r5 c27_r6 c27_r8
  by_cases hlt : i < l.length
  case neg =>
    have hlt' : ¬ (i : Int) < l.length := by omega
    have hii : l.length = runN l := by
      have := runN_le l
      have := hpre.h
      omega
    replace hii := Hid.mk hii
    repeat' (first | simp -implicitDefEqProofs only [W_skip, W_reg, W_seq, W_rcond, W_cond, W_block, W_loop, W_exit, W_ret, thenQ_normal, thenQ_exit, thenQ_ret, blockQ_normal, blockQ_ret, blockQ_here, regQ_app, rcQ_app, cndK_t, cndK_f, RegW_nil, RegW_none, RegW_some, contW_app, grdK_tt, grdK_ff, grdK_tf, grdK_ft, grdK_undef, actK_p, actK_r, actK_a, actK_w, actK_call, actK_callV, heapK_app, allocK_app, writeK_app, ret1_ret, ret1_normal, ret0_ret, ret0_normal, ret2_ret2, thenK_app, retcv_ret, retcvK_app, optW_some, evs, Arg.ev, aP, aR, aA, aW, pMov, pBin, pUn, pConv, pPick, pFieldAddr, pNilCheck, pExtract, aBin, aUn, aInt, aNew, partL_f, upd, List.getElem?_cons_zero, List.getElem?_cons_succ, List.getD_cons_zero, List.getD_cons_succ, List.set_cons_zero, List.set_cons_succ, Nat.zero_add, Nat.add_zero, List.getElem?_toArray, List.take_zero, List.drop_zero, List.take_succ_cons, List.drop_succ_cons, if_true, if_false, decide_true, decide_false, Bool.false_eq_true, Bool.true_eq_false, Bool.not_true, Bool.not_false, not_true_eq_false, not_false_eq_true, ge_iff_le, gt_iff_lt, beq_self_eq_true, bne_self_eq_false, and_self, and_true, true_and, Option.isSome_some, Heap.get_alloc_same, Heap.alloc_getE, len_S, *] | with_reducible refine cndK_d (fun hc => ?_) (fun hc => ?_) | with_reducible refine grdK_d (fun hc => ?_) (fun hc => ?_) | with_reducible refine cndK_i (fun hc => ?_) (fun hc => ?_) | with_reducible refine grdK_i (fun hc => ?_) (fun hc => ?_))
    have := hq.h _ hl1
    rw [← hii.h] at this
    exact this
  case pos =>
    have hlt' : (i : Int) < l.length := by omega
    have hwj : IntKind.i64.wrap ((i : Int) + 1) = ((i + 1 : Nat) : Int) := by rw [wrapI (by omega) (by omega)]; rfl
    obtain ⟨b, hb⟩ : ∃ b, l[i]? = some b := ⟨_, List.getElem?_eq_getElem hlt⟩
    have st := tw_step (p := nm) hpre.h hb
    replace st := Hid.mk st
    have ix := idx_S hb .i64
    repeat' (first | simp -implicitDefEqProofs only [W_skip, W_reg, W_seq, W_rcond, W_cond, W_block, W_loop, W_exit, W_ret, thenQ_normal, thenQ_exit, thenQ_ret, blockQ_normal, blockQ_ret, blockQ_here, regQ_app, rcQ_app, cndK_t, cndK_f, RegW_nil, RegW_none, RegW_some, contW_app, grdK_tt, grdK_ff, grdK_tf, grdK_ft, grdK_undef, actK_p, actK_r, actK_a, actK_w, actK_call, actK_callV, heapK_app, allocK_app, writeK_app, ret1_ret, ret1_normal, ret0_ret, ret0_normal, ret2_ret2, thenK_app, retcv_ret, retcvK_app, optW_some, evs, Arg.ev, aP, aR, aA, aW, pMov, pBin, pUn, pConv, pPick, pFieldAddr, pNilCheck, pExtract, aBin, aUn, aInt, aNew, partL_f, upd, List.getElem?_cons_zero, List.getElem?_cons_succ, List.getD_cons_zero, List.getD_cons_succ, List.set_cons_zero, List.set_cons_succ, Nat.zero_add, Nat.add_zero, List.getElem?_toArray, List.take_zero, List.drop_zero, List.take_succ_cons, List.drop_succ_cons, if_true, if_false, decide_true, decide_false, Bool.false_eq_true, Bool.true_eq_false, Bool.not_true, Bool.not_false, not_true_eq_false, not_false_eq_true, ge_iff_le, gt_iff_lt, beq_self_eq_true, bne_self_eq_false, and_self, and_true, true_and, Option.isSome_some, Heap.get_alloc_same, Heap.alloc_getE, len_S, *] | with_reducible refine cndK_d (fun hc => ?_) (fun hc => ?_) | with_reducible refine grdK_d (fun hc => ?_) (fun hc => ?_) | with_reducible refine cndK_i (fun hc => ?_) (fun hc => ?_) | with_reducible refine grdK_i (fun hc => ?_) (fun hc => ?_))
    refine part_c _ _ _ ?_
    cases hp : nmZ b.toNat with
    | true =>
      repeat' (first | simp -implicitDefEqProofs only [W_skip, W_reg, W_seq, W_rcond, W_cond, W_block, W_loop, W_exit, W_ret, thenQ_normal, thenQ_exit, thenQ_ret, blockQ_normal, blockQ_ret, blockQ_here, regQ_app, rcQ_app, cndK_t, cndK_f, RegW_nil, RegW_none, RegW_some, contW_app, grdK_tt, grdK_ff, grdK_tf, grdK_ft, grdK_undef, actK_p, actK_r, actK_a, actK_w, actK_call, actK_callV, heapK_app, allocK_app, writeK_app, ret1_ret, ret1_normal, ret0_ret, ret0_normal, ret2_ret2, thenK_app, retcv_ret, retcvK_app, optW_some, evs, Arg.ev, aP, aR, aA, aW, pMov, pBin, pUn, pConv, pPick, pFieldAddr, pNilCheck, pExtract, aBin, aUn, aInt, aNew, partL_f, upd, List.getElem?_cons_zero, List.getElem?_cons_succ, List.getD_cons_zero, List.getD_cons_succ, List.set_cons_zero, List.set_cons_succ, Nat.zero_add, Nat.add_zero, List.getElem?_toArray, List.take_zero, List.drop_zero, List.take_succ_cons, List.drop_succ_cons, if_true, if_false, decide_true, decide_false, Bool.false_eq_true, Bool.true_eq_false, Bool.not_true, Bool.not_false, not_true_eq_false, not_false_eq_true, ge_iff_le, gt_iff_lt, beq_self_eq_true, bne_self_eq_false, and_self, and_true, true_and, Option.isSome_some, Heap.get_alloc_same, Heap.alloc_getE, *] | with_reducible refine cndK_d (fun hc => ?_) (fun hc => ?_) | with_reducible refine grdK_d (fun hc => ?_) (fun hc => ?_) | with_reducible refine cndK_i (fun hc => ?_) (fun hc => ?_) | with_reducible refine grdK_i (fun hc => ?_) (fun hc => ?_))
      exact hR.h _ _ hlt ⟨hl1, st.h.1 hp, _, _, rfl⟩
    | false =>
      have := st.h.2 hp
      repeat' (first | simp -implicitDefEqProofs only [W_skip, W_reg, W_seq, W_rcond, W_cond, W_block, W_loop, W_exit, W_ret, thenQ_normal, thenQ_exit, thenQ_ret, blockQ_normal, blockQ_ret, blockQ_here, regQ_app, rcQ_app, cndK_t, cndK_f, RegW_nil, RegW_none, RegW_some, contW_app, grdK_tt, grdK_ff, grdK_tf, grdK_ft, grdK_undef, actK_p, actK_r, actK_a, actK_w, actK_call, actK_callV, heapK_app, allocK_app, writeK_app, ret1_ret, ret1_normal, ret0_ret, ret0_normal, ret2_ret2, thenK_app, retcv_ret, retcvK_app, optW_some, evs, Arg.ev, aP, aR, aA, aW, pMov, pBin, pUn, pConv, pPick, pFieldAddr, pNilCheck, pExtract, aBin, aUn, aInt, aNew, partL_f, upd, List.getElem?_cons_zero, List.getElem?_cons_succ, List.getD_cons_zero, List.getD_cons_succ, List.set_cons_zero, List.set_cons_succ, Nat.zero_add, Nat.add_zero, List.getElem?_toArray, List.take_zero, List.drop_zero, List.take_succ_cons, List.drop_succ_cons, if_true, if_false, decide_true, decide_false, Bool.false_eq_true, Bool.true_eq_false, Bool.not_true, Bool.not_false, not_true_eq_false, not_false_eq_true, ge_iff_le, gt_iff_lt, beq_self_eq_true, bne_self_eq_false, and_self, and_true, true_and, Option.isSome_some, Heap.get_alloc_same, Heap.alloc_getE, *] | with_reducible refine cndK_d (fun hc => ?_) (fun hc => ?_) | with_reducible refine grdK_d (fun hc => ?_) (fun hc => ?_) | with_reducible refine cndK_i (fun hc => ?_) (fun hc => ?_) | with_reducible refine grdK_i (fun hc => ?_) (fun hc => ?_))
      have h2 := hq.h _ hl1
      rw [show runN l = i from this] at h2
      exact h2
end Go.Eng.Tk

set_option linter.unusedSimpArgs false
set_option linter.unusedVariables false
namespace Go.Eng.Tk
open Go Go.Eng Go.Proofs

/-- v is a slice of texts -/
def Strs (h : Heap) (v : Value) (l : List (List UInt8)) : Prop := SlV h 1 v (l.map fun s => [str s])
theorem Strs.mono {h h' : Heap} (hl : h.le h') {v : Value} {l : List (List UInt8)} (ha : Strs h v l) : Strs h' v l := SlV.mono hl ha
theorem Strs.len {h : Heap} {v : Value} {l : List (List UInt8)} (ha : Strs h v l) : pLenS [v] = some (.int .i64 l.length) := by simpa using SlV.len ha
theorem Strs.elem {h : Heap} {v : Value} {l : List (List UInt8)} (ha : Strs h v l) {i : Nat} {s : List UInt8} (hi : l[i]? = some s) :
    ∃ id off cells own, pIdxAddrS 1 [v, .int .i64 i] = some (.pointer (some ⟨id, off, none⟩)) ∧ h.get id = some (.blk cells own) ∧ cells[off]? = some (str s) ∧ True := by
  obtain ⟨id, off, cells, own, h1, h2, h3, h4⟩ := SlV.elem ha (i := i) (x := [str s]) (by simp [hi])
  exact ⟨id, off, cells, own, h1, h2, by simpa using h4 0 (by omega), trivial⟩

/-- the first place of a text -/
theorem index_c {v : Value} {l : List (List UInt8)} (hl : l.length ≤ 1000000) (s : List UInt8) {h : Heap} (hv : Strs h v l) (Q : Value → Heap → Prop)
    (hq : ∀ (z : Int) h', (decide (0 ≤ z) = l.contains s) → h.le h' → Q (.int .i64 z) h') : CallW Tryd.prog 44 [v, str s] h Q := by
  refine call_of1 (k := 2) ok44 rfl rfl rfl fun N => ?_
  rw [show env0 c44 [v, str s] = [v, str s, undef, undef, undef, undef, undef] from rfl]
  delta c44 c44_r0 c44_r1 c44_r2 c44_r3 c44_r4 c44_r5 c44_r6 c44_r8
  replace hq := Hid.mk hq
  repeat' (first | simp -implicitDefEqProofs only [W_skip, W_reg, W_seq, W_rcond, W_cond, W_block, W_loop, W_exit, W_ret, thenQ_normal, thenQ_exit, thenQ_ret, blockQ_normal, blockQ_ret, blockQ_here, regQ_app, rcQ_app, cndK_t, cndK_f, RegW_nil, RegW_none, RegW_some, contW_app, grdK_tt, grdK_ff, grdK_tf, grdK_ft, grdK_undef, actK_p, actK_r, actK_a, actK_w, actK_call, actK_callV, heapK_app, allocK_app, writeK_app, ret1_ret, ret1_normal, ret0_ret, ret0_normal, ret2_ret2, thenK_app, retcv_ret, retcvK_app, optW_some, evs, Arg.ev, aP, aR, aA, aW, pMov, pBin, pUn, pConv, pPick, pFieldAddr, pNilCheck, pExtract, aBin, aUn, aInt, aNew, partL_f, upd, List.getElem?_cons_zero, List.getElem?_cons_succ, List.getD_cons_zero, List.getD_cons_succ, List.set_cons_zero, List.set_cons_succ, Nat.zero_add, Nat.add_zero, List.getElem?_toArray, List.take_zero, List.drop_zero, List.take_succ_cons, List.drop_succ_cons, if_true, if_false, decide_true, decide_false, Bool.false_eq_true, Bool.true_eq_false, Bool.not_true, Bool.not_false, not_true_eq_false, not_false_eq_true, ge_iff_le, gt_iff_lt, beq_self_eq_true, bne_self_eq_false, and_self, and_true, true_and, Option.isSome_some, Heap.get_alloc_same, Heap.alloc_getE, hv.len, *] | with_reducible refine cndK_d (fun hc => ?_) (fun hc => ?_) | with_reducible refine grdK_d (fun hc => ?_) (fun hc => ?_) | with_reducible refine cndK_i (fun hc => ?_) (fun hc => ?_) | with_reducible refine grdK_i (fun hc => ?_) (fun hc => ?_))
  refine LoopW.upto l.length (fun i e h1 => h.le h1 ∧ (l.take i).contains s = false ∧ ∃ x2 x5, e = [v, str s, .int .i64 0, x2, .int .i64 l.length, .int .i64 i, x5]) ?_ (Nat.zero_le _) ⟨Heap.le.refl _, by simp, _, _, rfl⟩
  rintro i _ h1 R hi ⟨hl1, hpre, x2, x5, rfl⟩ hR
  replace hpre := Hid.mk hpre
  have sv1 := hv.mono hl1
  delta c44_l7 c44_r0 c44_r1 c44_r2 c44_r3 c44_r4 c44_r5 c44_r6 c44_r8
  by_cases hlt : i < l.length
  case neg =>
    have hlt' : ¬ (i : Int) < l.length := by omega
    have hii : i = l.length := by omega
    have hno : l.contains s = false := by
      have := hpre.h
      rwa [hii, List.take_length] at this
    replace hno := Hid.mk hno
    replace hii := Hid.mk hii
    repeat' (first | simp -implicitDefEqProofs only [W_skip, W_reg, W_seq, W_rcond, W_cond, W_block, W_loop, W_exit, W_ret, thenQ_normal, thenQ_exit, thenQ_ret, blockQ_normal, blockQ_ret, blockQ_here, regQ_app, rcQ_app, cndK_t, cndK_f, RegW_nil, RegW_none, RegW_some, contW_app, grdK_tt, grdK_ff, grdK_tf, grdK_ft, grdK_undef, actK_p, actK_r, actK_a, actK_w, actK_call, actK_callV, heapK_app, allocK_app, writeK_app, ret1_ret, ret1_normal, ret0_ret, ret0_normal, ret2_ret2, thenK_app, retcv_ret, retcvK_app, optW_some, evs, Arg.ev, aP, aR, aA, aW, pMov, pBin, pUn, pConv, pPick, pFieldAddr, pNilCheck, pExtract, aBin, aUn, aInt, aNew, partL_f, upd, List.getElem?_cons_zero, List.getElem?_cons_succ, List.getD_cons_zero, List.getD_cons_succ, List.set_cons_zero, List.set_cons_succ, Nat.zero_add, Nat.add_zero, List.getElem?_toArray, List.take_zero, List.drop_zero, List.take_succ_cons, List.drop_succ_cons, if_true, if_false, decide_true, decide_false, Bool.false_eq_true, Bool.true_eq_false, Bool.not_true, Bool.not_false, not_true_eq_false, not_false_eq_true, ge_iff_le, gt_iff_lt, beq_self_eq_true, bne_self_eq_false, and_self, and_true, true_and, Option.isSome_some, Heap.get_alloc_same, Heap.alloc_getE, len_S, *] | with_reducible refine cndK_d (fun hc => ?_) (fun hc => ?_) | with_reducible refine grdK_d (fun hc => ?_) (fun hc => ?_) | with_reducible refine cndK_i (fun hc => ?_) (fun hc => ?_) | with_reducible refine grdK_i (fun hc => ?_) (fun hc => ?_))
    exact hq.h _ _ (by rw [hno.h]; rfl) hl1
  case pos =>
    have hlt' : (i : Int) < l.length := by omega
    have hwj : IntKind.i64.wrap ((i : Int) + 1) = ((i + 1 : Nat) : Int) := by rw [wrapI (by omega) (by omega)]; rfl
    obtain ⟨b, hb⟩ : ∃ b, l[i]? = some b := ⟨_, List.getElem?_eq_getElem hlt⟩
    obtain ⟨id, off, cells, own, e1, e2, e3, _⟩ := sv1.elem hb
    replace hb := Hid.mk hb
    cases hs : (s == b) with
    | true =>
      have hsb : s = b := by simpa using hs
      have hin : l.contains s = true := by
        rw [hsb]
        simpa using List.mem_of_getElem? hb.h
      replace hsb := Hid.mk hsb
      replace hin := Hid.mk hin
      repeat' (first | simp -implicitDefEqProofs only [W_skip, W_reg, W_seq, W_rcond, W_cond, W_block, W_loop, W_exit, W_ret, thenQ_normal, thenQ_exit, thenQ_ret, blockQ_normal, blockQ_ret, blockQ_here, regQ_app, rcQ_app, cndK_t, cndK_f, RegW_nil, RegW_none, RegW_some, contW_app, grdK_tt, grdK_ff, grdK_tf, grdK_ft, grdK_undef, actK_p, actK_r, actK_a, actK_w, actK_call, actK_callV, heapK_app, allocK_app, writeK_app, ret1_ret, ret1_normal, ret0_ret, ret0_normal, ret2_ret2, thenK_app, retcv_ret, retcvK_app, optW_some, evs, Arg.ev, aP, aR, aA, aW, pMov, pBin, pUn, pConv, pPick, pFieldAddr, pNilCheck, pExtract, aBin, aUn, aInt, aNew, partL_f, upd, List.getElem?_cons_zero, List.getElem?_cons_succ, List.getD_cons_zero, List.getD_cons_succ, List.set_cons_zero, List.set_cons_succ, Nat.zero_add, Nat.add_zero, List.getElem?_toArray, List.take_zero, List.drop_zero, List.take_succ_cons, List.drop_succ_cons, if_true, if_false, decide_true, decide_false, Bool.false_eq_true, Bool.true_eq_false, Bool.not_true, Bool.not_false, not_true_eq_false, not_false_eq_true, ge_iff_le, gt_iff_lt, beq_self_eq_true, bne_self_eq_false, and_self, and_true, true_and, Option.isSome_some, Heap.get_alloc_same, Heap.alloc_getE, eq_S, *] | with_reducible refine cndK_d (fun hc => ?_) (fun hc => ?_) | with_reducible refine grdK_d (fun hc => ?_) (fun hc => ?_) | with_reducible refine cndK_i (fun hc => ?_) (fun hc => ?_) | with_reducible refine grdK_i (fun hc => ?_) (fun hc => ?_))
      exact hq.h _ _ (by rw [hin.h]; simp) hl1
    | false =>
      have hnx : (l.take (i + 1)).contains s = false := by
        have h1 := hpre.h
        rw [List.take_add_one, hb.h]
        have h2 : s ≠ b := by simpa using hs
        simp at h1 ⊢
        exact ⟨h1, h2⟩
      replace hnx := Hid.mk hnx
      repeat' (first | simp -implicitDefEqProofs only [W_skip, W_reg, W_seq, W_rcond, W_cond, W_block, W_loop, W_exit, W_ret, thenQ_normal, thenQ_exit, thenQ_ret, blockQ_normal, blockQ_ret, blockQ_here, regQ_app, rcQ_app, cndK_t, cndK_f, RegW_nil, RegW_none, RegW_some, contW_app, grdK_tt, grdK_ff, grdK_tf, grdK_ft, grdK_undef, actK_p, actK_r, actK_a, actK_w, actK_call, actK_callV, heapK_app, allocK_app, writeK_app, ret1_ret, ret1_normal, ret0_ret, ret0_normal, ret2_ret2, thenK_app, retcv_ret, retcvK_app, optW_some, evs, Arg.ev, aP, aR, aA, aW, pMov, pBin, pUn, pConv, pPick, pFieldAddr, pNilCheck, pExtract, aBin, aUn, aInt, aNew, partL_f, upd, List.getElem?_cons_zero, List.getElem?_cons_succ, List.getD_cons_zero, List.getD_cons_succ, List.set_cons_zero, List.set_cons_succ, Nat.zero_add, Nat.add_zero, List.getElem?_toArray, List.take_zero, List.drop_zero, List.take_succ_cons, List.drop_succ_cons, if_true, if_false, decide_true, decide_false, Bool.false_eq_true, Bool.true_eq_false, Bool.not_true, Bool.not_false, not_true_eq_false, not_false_eq_true, ge_iff_le, gt_iff_lt, beq_self_eq_true, bne_self_eq_false, and_self, and_true, true_and, Option.isSome_some, Heap.get_alloc_same, Heap.alloc_getE, eq_S, *] | with_reducible refine cndK_d (fun hc => ?_) (fun hc => ?_) | with_reducible refine grdK_d (fun hc => ?_) (fun hc => ?_) | with_reducible refine cndK_i (fun hc => ?_) (fun hc => ?_) | with_reducible refine grdK_i (fun hc => ?_) (fun hc => ?_))
      exact hR.h _ _ hlt ⟨hl1, hnx.h, _, _, rfl⟩
theorem contains_c {v : Value} {l : List (List UInt8)} (hl : l.length ≤ 1000000) (s : List UInt8) {h : Heap} (hv : Strs h v l) (Q : Value → Heap → Prop)
    (hq : ∀ h', h.le h' → Q (.bool (l.contains s)) h') : CallW Tryd.prog 30 [v, str s] h Q := by
  refine call_of1 (k := 2) ok30 rfl rfl rfl fun N => ?_
  rw [show env0 c30 [v, str s] = [v, str s, undef] from rfl]
  delta c30 c30_r0 c30_r1
  replace hq := Hid.mk hq
  repeat' (first | simp -implicitDefEqProofs only [W_skip, W_reg, W_seq, W_rcond, W_cond, W_block, W_loop, W_exit, W_ret, thenQ_normal, thenQ_exit, thenQ_ret, blockQ_normal, blockQ_ret, blockQ_here, regQ_app, rcQ_app, cndK_t, cndK_f, RegW_nil, RegW_none, RegW_some, contW_app, grdK_tt, grdK_ff, grdK_tf, grdK_ft, grdK_undef, actK_p, actK_r, actK_a, actK_w, actK_call, actK_callV, heapK_app, allocK_app, writeK_app, ret1_ret, ret1_normal, ret0_ret, ret0_normal, ret2_ret2, thenK_app, retcv_ret, retcvK_app, optW_some, evs, Arg.ev, aP, aR, aA, aW, pMov, pBin, pUn, pConv, pPick, pFieldAddr, pNilCheck, pExtract, aBin, aUn, aInt, aNew, partL_f, upd, List.getElem?_cons_zero, List.getElem?_cons_succ, List.getD_cons_zero, List.getD_cons_succ, List.set_cons_zero, List.set_cons_succ, Nat.zero_add, Nat.add_zero, List.getElem?_toArray, List.take_zero, List.drop_zero, List.take_succ_cons, List.drop_succ_cons, if_true, if_false, decide_true, decide_false, Bool.false_eq_true, Bool.true_eq_false, Bool.not_true, Bool.not_false, not_true_eq_false, not_false_eq_true, ge_iff_le, gt_iff_lt, beq_self_eq_true, bne_self_eq_false, and_self, and_true, true_and, Option.isSome_some, Heap.get_alloc_same, Heap.alloc_getE, *] | with_reducible refine cndK_d (fun hc => ?_) (fun hc => ?_) | with_reducible refine grdK_d (fun hc => ?_) (fun hc => ?_) | with_reducible refine cndK_i (fun hc => ?_) (fun hc => ?_) | with_reducible refine grdK_i (fun hc => ?_) (fun hc => ?_))
  refine index_c hl s hv _ fun z h1 hz hl1 => ?_
  have go : ∀ b, b = l.contains s → Q (.bool b) h1 := fun b hb => by rw [hb]; exact hq.h _ hl1
  replace go := Hid.mk go
  by_cases h0 : 0 ≤ z
  · rw [decide_eq_true h0] at hz
    replace hz := Hid.mk hz
    repeat' (first | simp -implicitDefEqProofs only [W_skip, W_reg, W_seq, W_rcond, W_cond, W_block, W_loop, W_exit, W_ret, thenQ_normal, thenQ_exit, thenQ_ret, blockQ_normal, blockQ_ret, blockQ_here, regQ_app, rcQ_app, cndK_t, cndK_f, RegW_nil, RegW_none, RegW_some, contW_app, grdK_tt, grdK_ff, grdK_tf, grdK_ft, grdK_undef, actK_p, actK_r, actK_a, actK_w, actK_call, actK_callV, heapK_app, allocK_app, writeK_app, ret1_ret, ret1_normal, ret0_ret, ret0_normal, ret2_ret2, thenK_app, retcv_ret, retcvK_app, optW_some, evs, Arg.ev, aP, aR, aA, aW, pMov, pBin, pUn, pConv, pPick, pFieldAddr, pNilCheck, pExtract, aBin, aUn, aInt, aNew, partL_f, upd, List.getElem?_cons_zero, List.getElem?_cons_succ, List.getD_cons_zero, List.getD_cons_succ, List.set_cons_zero, List.set_cons_succ, Nat.zero_add, Nat.add_zero, List.getElem?_toArray, List.take_zero, List.drop_zero, List.take_succ_cons, List.drop_succ_cons, if_true, if_false, decide_true, decide_false, Bool.false_eq_true, Bool.true_eq_false, Bool.not_true, Bool.not_false, not_true_eq_false, not_false_eq_true, ge_iff_le, gt_iff_lt, beq_self_eq_true, bne_self_eq_false, and_self, and_true, true_and, Option.isSome_some, Heap.get_alloc_same, Heap.alloc_getE, *] | with_reducible refine cndK_d (fun hc => ?_) (fun hc => ?_) | with_reducible refine grdK_d (fun hc => ?_) (fun hc => ?_) | with_reducible refine cndK_i (fun hc => ?_) (fun hc => ?_) | with_reducible refine grdK_i (fun hc => ?_) (fun hc => ?_))
    exact go.h _ hz.h
  · rw [decide_eq_false h0] at hz
    replace hz := Hid.mk hz
    repeat' (first | simp -implicitDefEqProofs only [W_skip, W_reg, W_seq, W_rcond, W_cond, W_block, W_loop, W_exit, W_ret, thenQ_normal, thenQ_exit, thenQ_ret, blockQ_normal, blockQ_ret, blockQ_here, regQ_app, rcQ_app, cndK_t, cndK_f, RegW_nil, RegW_none, RegW_some, contW_app, grdK_tt, grdK_ff, grdK_tf, grdK_ft, grdK_undef, actK_p, actK_r, actK_a, actK_w, actK_call, actK_callV, heapK_app, allocK_app, writeK_app, ret1_ret, ret1_normal, ret0_ret, ret0_normal, ret2_ret2, thenK_app, retcv_ret, retcvK_app, optW_some, evs, Arg.ev, aP, aR, aA, aW, pMov, pBin, pUn, pConv, pPick, pFieldAddr, pNilCheck, pExtract, aBin, aUn, aInt, aNew, partL_f, upd, List.getElem?_cons_zero, List.getElem?_cons_succ, List.getD_cons_zero, List.getD_cons_succ, List.set_cons_zero, List.set_cons_succ, Nat.zero_add, Nat.add_zero, List.getElem?_toArray, List.take_zero, List.drop_zero, List.take_succ_cons, List.drop_succ_cons, if_true, if_false, decide_true, decide_false, Bool.false_eq_true, Bool.true_eq_false, Bool.not_true, Bool.not_false, not_true_eq_false, not_false_eq_true, ge_iff_le, gt_iff_lt, beq_self_eq_true, bne_self_eq_false, and_self, and_true, true_and, Option.isSome_some, Heap.get_alloc_same, Heap.alloc_getE, *] | with_reducible refine cndK_d (fun hc => ?_) (fun hc => ?_) | with_reducible refine grdK_d (fun hc => ?_) (fun hc => ?_) | with_reducible refine cndK_i (fun hc => ?_) (fun hc => ?_) | with_reducible refine grdK_i (fun hc => ?_) (fun hc => ?_))
    exact go.h _ hz.h
end Go.Eng.Tk

set_option linter.unusedSimpArgs false
set_option linter.unusedVariables false
namespace Go.Eng.Tk
open Go Go.Eng Go.Proofs

theorem fillL_ones : ∀ (vs done rest : List Value) (k : Nat), done.length = k → rest.length = vs.length → (∀ v ∈ vs, v.cells.toList = [v] ∧ v.oneCell' = true) →
    fillL (done ++ rest) (((List.range' k vs.length).map fun i => (i, 1)).zip vs) = some (done ++ vs)
  | [], done, rest, k, _, hr, _ => by
    have : rest = [] := List.length_eq_zero_iff.1 (by simpa using hr)
    subst this; simp [fillL]
  | v :: vs, done, r :: rest, k, hd, hr, h1 => by
    obtain ⟨a, b⟩ := h1 v (by simp)
    have ih := fillL_ones vs (done ++ [v]) rest (k + 1) (by simp [hd]) (by simpa using hr) fun x hx => h1 x (by simp [hx])
    simp only [List.length_cons, List.range'_succ, List.map_cons, List.zip_cons_cons, fillL, a]
    rw [if_pos ⟨rfl, by simp; omega, by simp [b]⟩]
    have e1 : (done ++ r :: rest).take k = done := by rw [← hd]; simp
    have e2 : (done ++ r :: rest).drop (k + 1) = rest := by rw [← hd, ← List.drop_drop]; simp
    rw [e1, e2]
    simpa using ih
  | v :: vs, done, [], k, hd, hr, h1 => by simp at hr
theorem bslice_ones {zs vs : List Value} {parts : List (Nat × Nat)} {n : Nat} (hp : parts = (List.range' 0 vs.length).map fun i => (i, 1)) (hz : zs.length = vs.length) (hn : n = vs.length) (h1 : ∀ v ∈ vs, v.cells.toList = [v] ∧ v.oneCell' = true) :
    aBslice zs parts n 1 vs = some (vs, fun id => .slice (some ⟨id, 0, none⟩) n 1) := by
  have := fillL_ones vs [] zs 0 rfl hz h1
  subst hp
  simp only [aBslice, List.length_map, List.length_range', if_true]
  rw [show zs = [] ++ zs from rfl, this]
  rfl
theorem strs_new (h : Heap) (l : List (List UInt8)) {n : Nat} {cells : List Value} (hn : n = l.length) (hc : cells = l.map str) : Strs (h.alloc (.blk cells true)) (.slice (some ⟨h.next, 0, none⟩) n 1) l := by
  subst hn; subst hc
  refine .inr ⟨h.next, 0, by simp, .inr ⟨_, _, Heap.get_alloc_same _ _, fun j x hj => ?_⟩⟩
  have hx : ∀ x ∈ (l.map fun s => [str s]), x.length = 1 := by simp
  obtain ⟨h1, h2⟩ := flatten_chunk hx j x hj
  have hf : (l.map fun s => [str s]).flatten = l.map str := by
    clear h1 h2 hx hj
    induction l with
    | nil => rfl
    | cons a l ih => simp [ih]
  rw [hf] at h1 h2
  exact ⟨hx x (List.mem_of_getElem? hj), by simpa using h1, by simpa using h2⟩

/-- the language's own words -/
def wordsL : List (List UInt8) := [[104, 97, 114, 116, 115], [100, 101, 118, 105, 99, 101], [117, 97, 114, 116], [116, 105, 109, 101, 114], [103, 112, 105, 111], [114, 101, 115, 111, 117, 114, 99, 101], [116, 97, 115, 107], [104, 97, 110, 100, 108, 101, 114], [108, 111, 99, 107], [105, 102], [101, 108, 115, 101], [114, 101, 112, 101, 97, 116], [104, 97, 108, 116]]
theorem bslice_words : aBslice [.string ⟨#[]⟩, .string ⟨#[]⟩, .string ⟨#[]⟩, .string ⟨#[]⟩, .string ⟨#[]⟩, .string ⟨#[]⟩, .string ⟨#[]⟩, .string ⟨#[]⟩, .string ⟨#[]⟩, .string ⟨#[]⟩, .string ⟨#[]⟩, .string ⟨#[]⟩, .string ⟨#[]⟩] [(0, 1), (1, 1), (2, 1), (3, 1), (4, 1), (5, 1), (6, 1), (7, 1), (8, 1), (9, 1), (10, 1), (11, 1), (12, 1)] 13 1 [.string ⟨#[104, 97, 114, 116, 115]⟩, .string ⟨#[100, 101, 118, 105, 99, 101]⟩, .string ⟨#[117, 97, 114, 116]⟩, .string ⟨#[116, 105, 109, 101, 114]⟩, .string ⟨#[103, 112, 105, 111]⟩, .string ⟨#[114, 101, 115, 111, 117, 114, 99, 101]⟩, .string ⟨#[116, 97, 115, 107]⟩, .string ⟨#[104, 97, 110, 100, 108, 101, 114]⟩, .string ⟨#[108, 111, 99, 107]⟩, .string ⟨#[105, 102]⟩, .string ⟨#[101, 108, 115, 101]⟩, .string ⟨#[114, 101, 112, 101, 97, 116]⟩, .string ⟨#[104, 97, 108, 116]⟩] = some ([.string ⟨#[104, 97, 114, 116, 115]⟩, .string ⟨#[100, 101, 118, 105, 99, 101]⟩, .string ⟨#[117, 97, 114, 116]⟩, .string ⟨#[116, 105, 109, 101, 114]⟩, .string ⟨#[103, 112, 105, 111]⟩, .string ⟨#[114, 101, 115, 111, 117, 114, 99, 101]⟩, .string ⟨#[116, 97, 115, 107]⟩, .string ⟨#[104, 97, 110, 100, 108, 101, 114]⟩, .string ⟨#[108, 111, 99, 107]⟩, .string ⟨#[105, 102]⟩, .string ⟨#[101, 108, 115, 101]⟩, .string ⟨#[114, 101, 112, 101, 97, 116]⟩, .string ⟨#[104, 97, 108, 116]⟩], fun id => .slice (some ⟨id, 0, none⟩) 13 1) := bslice_ones rfl rfl rfl (by simp [Value.cells, Value.oneCell'])
theorem words_c (h : Heap) (Q : Value → Heap → Prop) (hq : ∀ v h', Strs h' v wordsL → h.le h' → Q v h') : CallW Tryd.prog 31 [] h Q := by
  refine call_of1 (k := 0) ok31 rfl rfl rfl fun N => ?_
  rw [show env0 c31 [] = [undef] from rfl]
  delta c31 c31_r0 c31_r1
  replace hq := Hid.mk hq
  repeat' (first | simp -implicitDefEqProofs only [W_skip, W_reg, W_seq, W_rcond, W_cond, W_block, W_loop, W_exit, W_ret, thenQ_normal, thenQ_exit, thenQ_ret, blockQ_normal, blockQ_ret, blockQ_here, regQ_app, rcQ_app, cndK_t, cndK_f, RegW_nil, RegW_none, RegW_some, contW_app, grdK_tt, grdK_ff, grdK_tf, grdK_ft, grdK_undef, actK_p, actK_r, actK_a, actK_w, actK_call, actK_callV, heapK_app, allocK_app, writeK_app, ret1_ret, ret1_normal, ret0_ret, ret0_normal, ret2_ret2, thenK_app, retcv_ret, retcvK_app, optW_some, evs, Arg.ev, aP, aR, aA, aW, pMov, pBin, pUn, pConv, pPick, pFieldAddr, pNilCheck, pExtract, aBin, aUn, aInt, aNew, partL_f, upd, List.getElem?_cons_zero, List.getElem?_cons_succ, List.getD_cons_zero, List.getD_cons_succ, List.set_cons_zero, List.set_cons_succ, Nat.zero_add, Nat.add_zero, List.getElem?_toArray, List.take_zero, List.drop_zero, List.take_succ_cons, List.drop_succ_cons, if_true, if_false, decide_true, decide_false, Bool.false_eq_true, Bool.true_eq_false, Bool.not_true, Bool.not_false, not_true_eq_false, not_false_eq_true, ge_iff_le, gt_iff_lt, beq_self_eq_true, bne_self_eq_false, and_self, and_true, true_and, Option.isSome_some, Heap.get_alloc_same, Heap.alloc_getE, bslice_words, *] | with_reducible refine cndK_d (fun hc => ?_) (fun hc => ?_) | with_reducible refine grdK_d (fun hc => ?_) (fun hc => ?_) | with_reducible refine cndK_i (fun hc => ?_) (fun hc => ?_) | with_reducible refine grdK_i (fun hc => ?_) (fun hc => ?_))
  exact hq.h _ _ (strs_new h wordsL rfl rfl) ((Heap.le.refl h).alloc _)
/-- the language's own signs -/
def signsL : List (List UInt8) := [[61, 61], [33, 61], [60, 60], [62, 62], [60, 46], [43], [45], [42], [47], [37], [38], [124], [94], [60], [61], [33], [126], [40], [41], [123], [125], [91], [93], [59], [46]]
theorem bslice_signs : aBslice [.string ⟨#[]⟩, .string ⟨#[]⟩, .string ⟨#[]⟩, .string ⟨#[]⟩, .string ⟨#[]⟩, .string ⟨#[]⟩, .string ⟨#[]⟩, .string ⟨#[]⟩, .string ⟨#[]⟩, .string ⟨#[]⟩, .string ⟨#[]⟩, .string ⟨#[]⟩, .string ⟨#[]⟩, .string ⟨#[]⟩, .string ⟨#[]⟩, .string ⟨#[]⟩, .string ⟨#[]⟩, .string ⟨#[]⟩, .string ⟨#[]⟩, .string ⟨#[]⟩, .string ⟨#[]⟩, .string ⟨#[]⟩, .string ⟨#[]⟩, .string ⟨#[]⟩, .string ⟨#[]⟩] [(0, 1), (1, 1), (2, 1), (3, 1), (4, 1), (5, 1), (6, 1), (7, 1), (8, 1), (9, 1), (10, 1), (11, 1), (12, 1), (13, 1), (14, 1), (15, 1), (16, 1), (17, 1), (18, 1), (19, 1), (20, 1), (21, 1), (22, 1), (23, 1), (24, 1)] 25 1 [.string ⟨#[61, 61]⟩, .string ⟨#[33, 61]⟩, .string ⟨#[60, 60]⟩, .string ⟨#[62, 62]⟩, .string ⟨#[60, 46]⟩, .string ⟨#[43]⟩, .string ⟨#[45]⟩, .string ⟨#[42]⟩, .string ⟨#[47]⟩, .string ⟨#[37]⟩, .string ⟨#[38]⟩, .string ⟨#[124]⟩, .string ⟨#[94]⟩, .string ⟨#[60]⟩, .string ⟨#[61]⟩, .string ⟨#[33]⟩, .string ⟨#[126]⟩, .string ⟨#[40]⟩, .string ⟨#[41]⟩, .string ⟨#[123]⟩, .string ⟨#[125]⟩, .string ⟨#[91]⟩, .string ⟨#[93]⟩, .string ⟨#[59]⟩, .string ⟨#[46]⟩] = some ([.string ⟨#[61, 61]⟩, .string ⟨#[33, 61]⟩, .string ⟨#[60, 60]⟩, .string ⟨#[62, 62]⟩, .string ⟨#[60, 46]⟩, .string ⟨#[43]⟩, .string ⟨#[45]⟩, .string ⟨#[42]⟩, .string ⟨#[47]⟩, .string ⟨#[37]⟩, .string ⟨#[38]⟩, .string ⟨#[124]⟩, .string ⟨#[94]⟩, .string ⟨#[60]⟩, .string ⟨#[61]⟩, .string ⟨#[33]⟩, .string ⟨#[126]⟩, .string ⟨#[40]⟩, .string ⟨#[41]⟩, .string ⟨#[123]⟩, .string ⟨#[125]⟩, .string ⟨#[91]⟩, .string ⟨#[93]⟩, .string ⟨#[59]⟩, .string ⟨#[46]⟩], fun id => .slice (some ⟨id, 0, none⟩) 25 1) := bslice_ones rfl rfl rfl (by simp [Value.cells, Value.oneCell'])
theorem signs_c (h : Heap) (Q : Value → Heap → Prop) (hq : ∀ v h', Strs h' v signsL → h.le h' → Q v h') : CallW Tryd.prog 35 [] h Q := by
  refine call_of1 (k := 0) ok35 rfl rfl rfl fun N => ?_
  rw [show env0 c35 [] = [undef] from rfl]
  delta c35 c35_r0 c35_r1
  replace hq := Hid.mk hq
  repeat' (first | simp -implicitDefEqProofs only [W_skip, W_reg, W_seq, W_rcond, W_cond, W_block, W_loop, W_exit, W_ret, thenQ_normal, thenQ_exit, thenQ_ret, blockQ_normal, blockQ_ret, blockQ_here, regQ_app, rcQ_app, cndK_t, cndK_f, RegW_nil, RegW_none, RegW_some, contW_app, grdK_tt, grdK_ff, grdK_tf, grdK_ft, grdK_undef, actK_p, actK_r, actK_a, actK_w, actK_call, actK_callV, heapK_app, allocK_app, writeK_app, ret1_ret, ret1_normal, ret0_ret, ret0_normal, ret2_ret2, thenK_app, retcv_ret, retcvK_app, optW_some, evs, Arg.ev, aP, aR, aA, aW, pMov, pBin, pUn, pConv, pPick, pFieldAddr, pNilCheck, pExtract, aBin, aUn, aInt, aNew, partL_f, upd, List.getElem?_cons_zero, List.getElem?_cons_succ, List.getD_cons_zero, List.getD_cons_succ, List.set_cons_zero, List.set_cons_succ, Nat.zero_add, Nat.add_zero, List.getElem?_toArray, List.take_zero, List.drop_zero, List.take_succ_cons, List.drop_succ_cons, if_true, if_false, decide_true, decide_false, Bool.false_eq_true, Bool.true_eq_false, Bool.not_true, Bool.not_false, not_true_eq_false, not_false_eq_true, ge_iff_le, gt_iff_lt, beq_self_eq_true, bne_self_eq_false, and_self, and_true, true_and, Option.isSome_some, Heap.get_alloc_same, Heap.alloc_getE, bslice_signs, *] | with_reducible refine cndK_d (fun hc => ?_) (fun hc => ?_) | with_reducible refine grdK_d (fun hc => ?_) (fun hc => ?_) | with_reducible refine cndK_i (fun hc => ?_) (fun hc => ?_) | with_reducible refine grdK_i (fun hc => ?_) (fun hc => ?_))
  exact hq.h _ _ (strs_new h signsL rfl rfl) ((Heap.le.refl h).alloc _)
/-- is it a word of the language's own? -/
def isWord (l : List UInt8) : Bool := wordsL.contains l
theorem word_c {l : List UInt8} (h : Heap) (Q : Value → Heap → Prop) (hq : ∀ h', h.le h' → Q (.bool (isWord l)) h') : CallW Tryd.prog 15 [str l] h Q := by
  refine call_of1 (k := 1) ok15 rfl rfl rfl fun N => ?_
  rw [show env0 c15 [str l] = [str l, undef] from rfl]
  delta c15 c15_r0 c15_r1
  replace hq := Hid.mk hq
  repeat' (first | simp -implicitDefEqProofs only [W_skip, W_reg, W_seq, W_rcond, W_cond, W_block, W_loop, W_exit, W_ret, thenQ_normal, thenQ_exit, thenQ_ret, blockQ_normal, blockQ_ret, blockQ_here, regQ_app, rcQ_app, cndK_t, cndK_f, RegW_nil, RegW_none, RegW_some, contW_app, grdK_tt, grdK_ff, grdK_tf, grdK_ft, grdK_undef, actK_p, actK_r, actK_a, actK_w, actK_call, actK_callV, heapK_app, allocK_app, writeK_app, ret1_ret, ret1_normal, ret0_ret, ret0_normal, ret2_ret2, thenK_app, retcv_ret, retcvK_app, optW_some, evs, Arg.ev, aP, aR, aA, aW, pMov, pBin, pUn, pConv, pPick, pFieldAddr, pNilCheck, pExtract, aBin, aUn, aInt, aNew, partL_f, upd, List.getElem?_cons_zero, List.getElem?_cons_succ, List.getD_cons_zero, List.getD_cons_succ, List.set_cons_zero, List.set_cons_succ, Nat.zero_add, Nat.add_zero, List.getElem?_toArray, List.take_zero, List.drop_zero, List.take_succ_cons, List.drop_succ_cons, if_true, if_false, decide_true, decide_false, Bool.false_eq_true, Bool.true_eq_false, Bool.not_true, Bool.not_false, not_true_eq_false, not_false_eq_true, ge_iff_le, gt_iff_lt, beq_self_eq_true, bne_self_eq_false, and_self, and_true, true_and, Option.isSome_some, Heap.get_alloc_same, Heap.alloc_getE, *] | with_reducible refine cndK_d (fun hc => ?_) (fun hc => ?_) | with_reducible refine grdK_d (fun hc => ?_) (fun hc => ?_) | with_reducible refine cndK_i (fun hc => ?_) (fun hc => ?_) | with_reducible refine grdK_i (fun hc => ?_) (fun hc => ?_))
  refine words_c h _ fun v h1 sv hl1 => ?_
  repeat' (first | simp -implicitDefEqProofs only [W_skip, W_reg, W_seq, W_rcond, W_cond, W_block, W_loop, W_exit, W_ret, thenQ_normal, thenQ_exit, thenQ_ret, blockQ_normal, blockQ_ret, blockQ_here, regQ_app, rcQ_app, cndK_t, cndK_f, RegW_nil, RegW_none, RegW_some, contW_app, grdK_tt, grdK_ff, grdK_tf, grdK_ft, grdK_undef, actK_p, actK_r, actK_a, actK_w, actK_call, actK_callV, heapK_app, allocK_app, writeK_app, ret1_ret, ret1_normal, ret0_ret, ret0_normal, ret2_ret2, thenK_app, retcv_ret, retcvK_app, optW_some, evs, Arg.ev, aP, aR, aA, aW, pMov, pBin, pUn, pConv, pPick, pFieldAddr, pNilCheck, pExtract, aBin, aUn, aInt, aNew, partL_f, upd, List.getElem?_cons_zero, List.getElem?_cons_succ, List.getD_cons_zero, List.getD_cons_succ, List.set_cons_zero, List.set_cons_succ, Nat.zero_add, Nat.add_zero, List.getElem?_toArray, List.take_zero, List.drop_zero, List.take_succ_cons, List.drop_succ_cons, if_true, if_false, decide_true, decide_false, Bool.false_eq_true, Bool.true_eq_false, Bool.not_true, Bool.not_false, not_true_eq_false, not_false_eq_true, ge_iff_le, gt_iff_lt, beq_self_eq_true, bne_self_eq_false, and_self, and_true, true_and, Option.isSome_some, Heap.get_alloc_same, Heap.alloc_getE, *] | with_reducible refine cndK_d (fun hc => ?_) (fun hc => ?_) | with_reducible refine grdK_d (fun hc => ?_) (fun hc => ?_) | with_reducible refine cndK_i (fun hc => ?_) (fun hc => ?_) | with_reducible refine grdK_i (fun hc => ?_) (fun hc => ?_))
  refine contains_c (by decide) l sv _ fun h2 hl2 => ?_
  have := hq.h _ (hl1.trans hl2)
  replace this := Hid.mk this
  repeat' (first | simp -implicitDefEqProofs only [W_skip, W_reg, W_seq, W_rcond, W_cond, W_block, W_loop, W_exit, W_ret, thenQ_normal, thenQ_exit, thenQ_ret, blockQ_normal, blockQ_ret, blockQ_here, regQ_app, rcQ_app, cndK_t, cndK_f, RegW_nil, RegW_none, RegW_some, contW_app, grdK_tt, grdK_ff, grdK_tf, grdK_ft, grdK_undef, actK_p, actK_r, actK_a, actK_w, actK_call, actK_callV, heapK_app, allocK_app, writeK_app, ret1_ret, ret1_normal, ret0_ret, ret0_normal, ret2_ret2, thenK_app, retcv_ret, retcvK_app, optW_some, evs, Arg.ev, aP, aR, aA, aW, pMov, pBin, pUn, pConv, pPick, pFieldAddr, pNilCheck, pExtract, aBin, aUn, aInt, aNew, partL_f, upd, List.getElem?_cons_zero, List.getElem?_cons_succ, List.getD_cons_zero, List.getD_cons_succ, List.set_cons_zero, List.set_cons_succ, Nat.zero_add, Nat.add_zero, List.getElem?_toArray, List.take_zero, List.drop_zero, List.take_succ_cons, List.drop_succ_cons, if_true, if_false, decide_true, decide_false, Bool.false_eq_true, Bool.true_eq_false, Bool.not_true, Bool.not_false, not_true_eq_false, not_false_eq_true, ge_iff_le, gt_iff_lt, beq_self_eq_true, bne_self_eq_false, and_self, and_true, true_and, Option.isSome_some, Heap.get_alloc_same, Heap.alloc_getE, *] | with_reducible refine cndK_d (fun hc => ?_) (fun hc => ?_) | with_reducible refine grdK_d (fun hc => ?_) (fun hc => ?_) | with_reducible refine cndK_i (fun hc => ?_) (fun hc => ?_) | with_reducible refine grdK_i (fun hc => ?_) (fun hc => ?_))
  exact this.h
end Go.Eng.Tk

set_option linter.unusedSimpArgs false
set_option linter.unusedVariables false
namespace Go.Eng.Tk
open Go Go.Eng Go.Proofs

/-- may a text be a name? -/
def isName (l : List UInt8) : Bool := match l with
  | [] => false
  | b :: r => decide ((b :: r).length ≤ 20) && (runN (b :: r) == (b :: r).length) && decide (57 < (b.toNat : Int)) && !isWord (b :: r)
theorem name_c {l : List UInt8} (h : Heap) (Q : Value → Heap → Prop) (hq : ∀ h', h.le h' → Q (.bool (isName l)) h') : CallW Tryd.prog 13 [str l] h Q := by
  refine call_of1 (k := 1) ok13 rfl rfl rfl fun N => ?_
  rw [show env0 c13 [str l] = [str l, undef] from rfl]
  delta c13 c13_r0 c13_r1
  replace hq := Hid.mk hq
  cases l with
  | nil =>
    have : isName [] = false := rfl
    repeat' (first | simp -implicitDefEqProofs only [W_skip, W_reg, W_seq, W_rcond, W_cond, W_block, W_loop, W_exit, W_ret, thenQ_normal, thenQ_exit, thenQ_ret, blockQ_normal, blockQ_ret, blockQ_here, regQ_app, rcQ_app, cndK_t, cndK_f, RegW_nil, RegW_none, RegW_some, contW_app, grdK_tt, grdK_ff, grdK_tf, grdK_ft, grdK_undef, actK_p, actK_r, actK_a, actK_w, actK_call, actK_callV, heapK_app, allocK_app, writeK_app, ret1_ret, ret1_normal, ret0_ret, ret0_normal, ret2_ret2, thenK_app, retcv_ret, retcvK_app, optW_some, evs, Arg.ev, aP, aR, aA, aW, pMov, pBin, pUn, pConv, pPick, pFieldAddr, pNilCheck, pExtract, aBin, aUn, aInt, aNew, partL_f, upd, List.getElem?_cons_zero, List.getElem?_cons_succ, List.getD_cons_zero, List.getD_cons_succ, List.set_cons_zero, List.set_cons_succ, Nat.zero_add, Nat.add_zero, List.getElem?_toArray, List.take_zero, List.drop_zero, List.take_succ_cons, List.drop_succ_cons, if_true, if_false, decide_true, decide_false, Bool.false_eq_true, Bool.true_eq_false, Bool.not_true, Bool.not_false, not_true_eq_false, not_false_eq_true, ge_iff_le, gt_iff_lt, beq_self_eq_true, bne_self_eq_false, and_self, and_true, true_and, Option.isSome_some, Heap.get_alloc_same, Heap.alloc_getE, ne_S, len_S, *] | with_reducible refine cndK_d (fun hc => ?_) (fun hc => ?_) | with_reducible refine grdK_d (fun hc => ?_) (fun hc => ?_) | with_reducible refine cndK_i (fun hc => ?_) (fun hc => ?_) | with_reducible refine grdK_i (fun hc => ?_) (fun hc => ?_))
    have := hq.h h (Heap.le.refl h)
    exact this
  | cons b r =>
    obtain ⟨l, hl⟩ : ∃ l, b :: r = l := ⟨_, rfl⟩
    have hb : l[0]? = some b := by rw [← hl]; rfl
    have ix := idx_S hb .i64
    rw [Int.ofNat_zero] at ix
    have hne : (l == []) = false := by rw [← hl]; rfl
    have hsp : isName l = (decide (l.length ≤ 20) && (runN l == l.length) && decide (57 < (b.toNat : Int)) && !isWord l) := by rw [← hl]; rfl
    rw [hl] at hq ⊢
    clear hl hb
    have go : ∀ h' c, h.le h' → c = isName l → Q (.bool c) h' := fun h' c hl e => by rw [e]; exact hq.h _ hl
    rw [hsp] at go
    replace go := Hid.mk go
    clear hsp hq
    by_cases h20 : (l.length : Int) ≤ 20
    · have h20' : l.length ≤ 20 := by omega
      repeat' (first | simp -implicitDefEqProofs only [W_skip, W_reg, W_seq, W_rcond, W_cond, W_block, W_loop, W_exit, W_ret, thenQ_normal, thenQ_exit, thenQ_ret, blockQ_normal, blockQ_ret, blockQ_here, regQ_app, rcQ_app, cndK_t, cndK_f, RegW_nil, RegW_none, RegW_some, contW_app, grdK_tt, grdK_ff, grdK_tf, grdK_ft, grdK_undef, actK_p, actK_r, actK_a, actK_w, actK_call, actK_callV, heapK_app, allocK_app, writeK_app, ret1_ret, ret1_normal, ret0_ret, ret0_normal, ret2_ret2, thenK_app, retcv_ret, retcvK_app, optW_some, evs, Arg.ev, aP, aR, aA, aW, pMov, pBin, pUn, pConv, pPick, pFieldAddr, pNilCheck, pExtract, aBin, aUn, aInt, aNew, partL_f, upd, List.getElem?_cons_zero, List.getElem?_cons_succ, List.getD_cons_zero, List.getD_cons_succ, List.set_cons_zero, List.set_cons_succ, Nat.zero_add, Nat.add_zero, List.getElem?_toArray, List.take_zero, List.drop_zero, List.take_succ_cons, List.drop_succ_cons, if_true, if_false, decide_true, decide_false, Bool.false_eq_true, Bool.true_eq_false, Bool.not_true, Bool.not_false, not_true_eq_false, not_false_eq_true, ge_iff_le, gt_iff_lt, beq_self_eq_true, bne_self_eq_false, and_self, and_true, true_and, Option.isSome_some, Heap.get_alloc_same, Heap.alloc_getE, ne_S, len_S, *] | with_reducible refine cndK_d (fun hc => ?_) (fun hc => ?_) | with_reducible refine grdK_d (fun hc => ?_) (fun hc => ?_) | with_reducible refine cndK_i (fun hc => ?_) (fun hc => ?_) | with_reducible refine grdK_i (fun hc => ?_) (fun hc => ?_))
      refine run_c (by omega) h _ fun h1 hl1 => ?_
      have hrr : (runN l == l.length) = ((runN l : Int) == (l.length : Int)) := by
        rw [Bool.eq_iff_iff]; simp only [beq_iff_eq]; omega
      cases hr : ((runN l : Int) == (l.length : Int)) with
      | false =>
        have g := go.h h1 false hl1 (by rw [hrr, hr]; simp)
        replace g := Hid.mk g
        clear hrr
        repeat' (first | simp -implicitDefEqProofs only [W_skip, W_reg, W_seq, W_rcond, W_cond, W_block, W_loop, W_exit, W_ret, thenQ_normal, thenQ_exit, thenQ_ret, blockQ_normal, blockQ_ret, blockQ_here, regQ_app, rcQ_app, cndK_t, cndK_f, RegW_nil, RegW_none, RegW_some, contW_app, grdK_tt, grdK_ff, grdK_tf, grdK_ft, grdK_undef, actK_p, actK_r, actK_a, actK_w, actK_call, actK_callV, heapK_app, allocK_app, writeK_app, ret1_ret, ret1_normal, ret0_ret, ret0_normal, ret2_ret2, thenK_app, retcv_ret, retcvK_app, optW_some, evs, Arg.ev, aP, aR, aA, aW, pMov, pBin, pUn, pConv, pPick, pFieldAddr, pNilCheck, pExtract, aBin, aUn, aInt, aNew, partL_f, upd, List.getElem?_cons_zero, List.getElem?_cons_succ, List.getD_cons_zero, List.getD_cons_succ, List.set_cons_zero, List.set_cons_succ, Nat.zero_add, Nat.add_zero, List.getElem?_toArray, List.take_zero, List.drop_zero, List.take_succ_cons, List.drop_succ_cons, if_true, if_false, decide_true, decide_false, Bool.false_eq_true, Bool.true_eq_false, Bool.not_true, Bool.not_false, not_true_eq_false, not_false_eq_true, ge_iff_le, gt_iff_lt, beq_self_eq_true, bne_self_eq_false, and_self, and_true, true_and, Option.isSome_some, Heap.get_alloc_same, Heap.alloc_getE, ne_S, len_S, *] | with_reducible refine cndK_d (fun hc => ?_) (fun hc => ?_) | with_reducible refine grdK_d (fun hc => ?_) (fun hc => ?_) | with_reducible refine cndK_i (fun hc => ?_) (fun hc => ?_) | with_reducible refine grdK_i (fun hc => ?_) (fun hc => ?_))
        exact g.h
      | true =>
        by_cases h57 : (57 : Int) < (b.toNat : Int)
        · replace hrr := Hid.mk hrr
          repeat' (first | simp -implicitDefEqProofs only [W_skip, W_reg, W_seq, W_rcond, W_cond, W_block, W_loop, W_exit, W_ret, thenQ_normal, thenQ_exit, thenQ_ret, blockQ_normal, blockQ_ret, blockQ_here, regQ_app, rcQ_app, cndK_t, cndK_f, RegW_nil, RegW_none, RegW_some, contW_app, grdK_tt, grdK_ff, grdK_tf, grdK_ft, grdK_undef, actK_p, actK_r, actK_a, actK_w, actK_call, actK_callV, heapK_app, allocK_app, writeK_app, ret1_ret, ret1_normal, ret0_ret, ret0_normal, ret2_ret2, thenK_app, retcv_ret, retcvK_app, optW_some, evs, Arg.ev, aP, aR, aA, aW, pMov, pBin, pUn, pConv, pPick, pFieldAddr, pNilCheck, pExtract, aBin, aUn, aInt, aNew, partL_f, upd, List.getElem?_cons_zero, List.getElem?_cons_succ, List.getD_cons_zero, List.getD_cons_succ, List.set_cons_zero, List.set_cons_succ, Nat.zero_add, Nat.add_zero, List.getElem?_toArray, List.take_zero, List.drop_zero, List.take_succ_cons, List.drop_succ_cons, if_true, if_false, decide_true, decide_false, Bool.false_eq_true, Bool.true_eq_false, Bool.not_true, Bool.not_false, not_true_eq_false, not_false_eq_true, ge_iff_le, gt_iff_lt, beq_self_eq_true, bne_self_eq_false, and_self, and_true, true_and, Option.isSome_some, Heap.get_alloc_same, Heap.alloc_getE, ne_S, len_S, *] | with_reducible refine cndK_d (fun hc => ?_) (fun hc => ?_) | with_reducible refine grdK_d (fun hc => ?_) (fun hc => ?_) | with_reducible refine cndK_i (fun hc => ?_) (fun hc => ?_) | with_reducible refine grdK_i (fun hc => ?_) (fun hc => ?_))
          refine word_c h1 _ fun h2 hl2 => ?_
          have g := go.h h2 (!isWord l) (hl1.trans hl2) (by rw [hrr.h, hr, decide_eq_true h57, decide_eq_true h20']; simp)
          replace g := Hid.mk g
          repeat' (first | simp -implicitDefEqProofs only [W_skip, W_reg, W_seq, W_rcond, W_cond, W_block, W_loop, W_exit, W_ret, thenQ_normal, thenQ_exit, thenQ_ret, blockQ_normal, blockQ_ret, blockQ_here, regQ_app, rcQ_app, cndK_t, cndK_f, RegW_nil, RegW_none, RegW_some, contW_app, grdK_tt, grdK_ff, grdK_tf, grdK_ft, grdK_undef, actK_p, actK_r, actK_a, actK_w, actK_call, actK_callV, heapK_app, allocK_app, writeK_app, ret1_ret, ret1_normal, ret0_ret, ret0_normal, ret2_ret2, thenK_app, retcv_ret, retcvK_app, optW_some, evs, Arg.ev, aP, aR, aA, aW, pMov, pBin, pUn, pConv, pPick, pFieldAddr, pNilCheck, pExtract, aBin, aUn, aInt, aNew, partL_f, upd, List.getElem?_cons_zero, List.getElem?_cons_succ, List.getD_cons_zero, List.getD_cons_succ, List.set_cons_zero, List.set_cons_succ, Nat.zero_add, Nat.add_zero, List.getElem?_toArray, List.take_zero, List.drop_zero, List.take_succ_cons, List.drop_succ_cons, if_true, if_false, decide_true, decide_false, Bool.false_eq_true, Bool.true_eq_false, Bool.not_true, Bool.not_false, not_true_eq_false, not_false_eq_true, ge_iff_le, gt_iff_lt, beq_self_eq_true, bne_self_eq_false, and_self, and_true, true_and, Option.isSome_some, Heap.get_alloc_same, Heap.alloc_getE, *] | with_reducible refine cndK_d (fun hc => ?_) (fun hc => ?_) | with_reducible refine grdK_d (fun hc => ?_) (fun hc => ?_) | with_reducible refine cndK_i (fun hc => ?_) (fun hc => ?_) | with_reducible refine grdK_i (fun hc => ?_) (fun hc => ?_))
          exact g.h
        · have g := go.h h1 false hl1 (by rw [decide_eq_false h57]; simp)
          replace g := Hid.mk g
          clear hrr
          repeat' (first | simp -implicitDefEqProofs only [W_skip, W_reg, W_seq, W_rcond, W_cond, W_block, W_loop, W_exit, W_ret, thenQ_normal, thenQ_exit, thenQ_ret, blockQ_normal, blockQ_ret, blockQ_here, regQ_app, rcQ_app, cndK_t, cndK_f, RegW_nil, RegW_none, RegW_some, contW_app, grdK_tt, grdK_ff, grdK_tf, grdK_ft, grdK_undef, actK_p, actK_r, actK_a, actK_w, actK_call, actK_callV, heapK_app, allocK_app, writeK_app, ret1_ret, ret1_normal, ret0_ret, ret0_normal, ret2_ret2, thenK_app, retcv_ret, retcvK_app, optW_some, evs, Arg.ev, aP, aR, aA, aW, pMov, pBin, pUn, pConv, pPick, pFieldAddr, pNilCheck, pExtract, aBin, aUn, aInt, aNew, partL_f, upd, List.getElem?_cons_zero, List.getElem?_cons_succ, List.getD_cons_zero, List.getD_cons_succ, List.set_cons_zero, List.set_cons_succ, Nat.zero_add, Nat.add_zero, List.getElem?_toArray, List.take_zero, List.drop_zero, List.take_succ_cons, List.drop_succ_cons, if_true, if_false, decide_true, decide_false, Bool.false_eq_true, Bool.true_eq_false, Bool.not_true, Bool.not_false, not_true_eq_false, not_false_eq_true, ge_iff_le, gt_iff_lt, beq_self_eq_true, bne_self_eq_false, and_self, and_true, true_and, Option.isSome_some, Heap.get_alloc_same, Heap.alloc_getE, ne_S, len_S, *] | with_reducible refine cndK_d (fun hc => ?_) (fun hc => ?_) | with_reducible refine grdK_d (fun hc => ?_) (fun hc => ?_) | with_reducible refine cndK_i (fun hc => ?_) (fun hc => ?_) | with_reducible refine grdK_i (fun hc => ?_) (fun hc => ?_))
          exact g.h
    · have g := go.h h false (Heap.le.refl h) (by rw [decide_eq_false (by omega : ¬ l.length ≤ 20)]; simp)
      replace g := Hid.mk g
      repeat' (first | simp -implicitDefEqProofs only [W_skip, W_reg, W_seq, W_rcond, W_cond, W_block, W_loop, W_exit, W_ret, thenQ_normal, thenQ_exit, thenQ_ret, blockQ_normal, blockQ_ret, blockQ_here, regQ_app, rcQ_app, cndK_t, cndK_f, RegW_nil, RegW_none, RegW_some, contW_app, grdK_tt, grdK_ff, grdK_tf, grdK_ft, grdK_undef, actK_p, actK_r, actK_a, actK_w, actK_call, actK_callV, heapK_app, allocK_app, writeK_app, ret1_ret, ret1_normal, ret0_ret, ret0_normal, ret2_ret2, thenK_app, retcv_ret, retcvK_app, optW_some, evs, Arg.ev, aP, aR, aA, aW, pMov, pBin, pUn, pConv, pPick, pFieldAddr, pNilCheck, pExtract, aBin, aUn, aInt, aNew, partL_f, upd, List.getElem?_cons_zero, List.getElem?_cons_succ, List.getD_cons_zero, List.getD_cons_succ, List.set_cons_zero, List.set_cons_succ, Nat.zero_add, Nat.add_zero, List.getElem?_toArray, List.take_zero, List.drop_zero, List.take_succ_cons, List.drop_succ_cons, if_true, if_false, decide_true, decide_false, Bool.false_eq_true, Bool.true_eq_false, Bool.not_true, Bool.not_false, not_true_eq_false, not_false_eq_true, ge_iff_le, gt_iff_lt, beq_self_eq_true, bne_self_eq_false, and_self, and_true, true_and, Option.isSome_some, Heap.get_alloc_same, Heap.alloc_getE, ne_S, len_S, *] | with_reducible refine cndK_d (fun hc => ?_) (fun hc => ?_) | with_reducible refine grdK_d (fun hc => ?_) (fun hc => ?_) | with_reducible refine cndK_i (fun hc => ?_) (fun hc => ?_) | with_reducible refine grdK_i (fun hc => ?_) (fun hc => ?_))
      exact g.h
end Go.Eng.Tk

set_option linter.unusedSimpArgs false
set_option linter.unusedVariables false
namespace Go.Eng.Tk
open Go Go.Eng Go.Proofs

theorem hasPrefix0_c {l p : List UInt8} (h : Heap) (Q : Value → Heap → Prop) (hq : Q (.bool (p.isPrefixOf l)) h) : CallW Tryd.prog 47 [str l, str p] h Q := by
  refine call_of1 (k := 2) ok47 rfl rfl rfl fun N => ?_
  rw [show env0 c47 [str l, str p] = [str l, str p, undef] from rfl]
  delta c47 c47_r0 c47_r1
  replace hq := Hid.mk hq
  have go : ∀ b, b = p.isPrefixOf l → Q (.bool b) h := fun b hb => by rw [hb]; exact hq.h
  replace go := Hid.mk go
  clear hq
  by_cases hl : (p.length : Int) ≤ l.length
  · have ct := cutHi_S (l := l) (n := p.length) (by omega)
    have g := go.h ((l.take p.length) == p) (by
      rw [Bool.eq_iff_iff, beq_iff_eq, List.isPrefixOf_iff_prefix, List.prefix_iff_eq_take]
      exact eq_comm)
    replace g := Hid.mk g
    repeat' (first | simp -implicitDefEqProofs only [W_skip, W_reg, W_seq, W_rcond, W_cond, W_block, W_loop, W_exit, W_ret, thenQ_normal, thenQ_exit, thenQ_ret, blockQ_normal, blockQ_ret, blockQ_here, regQ_app, rcQ_app, cndK_t, cndK_f, RegW_nil, RegW_none, RegW_some, contW_app, grdK_tt, grdK_ff, grdK_tf, grdK_ft, grdK_undef, actK_p, actK_r, actK_a, actK_w, actK_call, actK_callV, heapK_app, allocK_app, writeK_app, ret1_ret, ret1_normal, ret0_ret, ret0_normal, ret2_ret2, thenK_app, retcv_ret, retcvK_app, optW_some, evs, Arg.ev, aP, aR, aA, aW, pMov, pBin, pUn, pConv, pPick, pFieldAddr, pNilCheck, pExtract, aBin, aUn, aInt, aNew, partL_f, upd, List.getElem?_cons_zero, List.getElem?_cons_succ, List.getD_cons_zero, List.getD_cons_succ, List.set_cons_zero, List.set_cons_succ, Nat.zero_add, Nat.add_zero, List.getElem?_toArray, List.take_zero, List.drop_zero, List.take_succ_cons, List.drop_succ_cons, if_true, if_false, decide_true, decide_false, Bool.false_eq_true, Bool.true_eq_false, Bool.not_true, Bool.not_false, not_true_eq_false, not_false_eq_true, ge_iff_le, gt_iff_lt, beq_self_eq_true, bne_self_eq_false, and_self, and_true, true_and, Option.isSome_some, Heap.get_alloc_same, Heap.alloc_getE, len_S, eq_S, *] | with_reducible refine cndK_d (fun hc => ?_) (fun hc => ?_) | with_reducible refine grdK_d (fun hc => ?_) (fun hc => ?_) | with_reducible refine cndK_i (fun hc => ?_) (fun hc => ?_) | with_reducible refine grdK_i (fun hc => ?_) (fun hc => ?_))
    exact g.h
  · have g := go.h false (by
      cases hp : p.isPrefixOf l with
      | false => rfl
      | true =>
        have := (List.isPrefixOf_iff_prefix.1 hp).length_le
        omega)
    replace g := Hid.mk g
    repeat' (first | simp -implicitDefEqProofs only [W_skip, W_reg, W_seq, W_rcond, W_cond, W_block, W_loop, W_exit, W_ret, thenQ_normal, thenQ_exit, thenQ_ret, blockQ_normal, blockQ_ret, blockQ_here, regQ_app, rcQ_app, cndK_t, cndK_f, RegW_nil, RegW_none, RegW_some, contW_app, grdK_tt, grdK_ff, grdK_tf, grdK_ft, grdK_undef, actK_p, actK_r, actK_a, actK_w, actK_call, actK_callV, heapK_app, allocK_app, writeK_app, ret1_ret, ret1_normal, ret0_ret, ret0_normal, ret2_ret2, thenK_app, retcv_ret, retcvK_app, optW_some, evs, Arg.ev, aP, aR, aA, aW, pMov, pBin, pUn, pConv, pPick, pFieldAddr, pNilCheck, pExtract, aBin, aUn, aInt, aNew, partL_f, upd, List.getElem?_cons_zero, List.getElem?_cons_succ, List.getD_cons_zero, List.getD_cons_succ, List.set_cons_zero, List.set_cons_succ, Nat.zero_add, Nat.add_zero, List.getElem?_toArray, List.take_zero, List.drop_zero, List.take_succ_cons, List.drop_succ_cons, if_true, if_false, decide_true, decide_false, Bool.false_eq_true, Bool.true_eq_false, Bool.not_true, Bool.not_false, not_true_eq_false, not_false_eq_true, ge_iff_le, gt_iff_lt, beq_self_eq_true, bne_self_eq_false, and_self, and_true, true_and, Option.isSome_some, Heap.get_alloc_same, Heap.alloc_getE, len_S, eq_S, *] | with_reducible refine cndK_d (fun hc => ?_) (fun hc => ?_) | with_reducible refine grdK_d (fun hc => ?_) (fun hc => ?_) | with_reducible refine cndK_i (fun hc => ?_) (fun hc => ?_) | with_reducible refine grdK_i (fun hc => ?_) (fun hc => ?_))
    exact g.h
theorem hasPrefix_c {l p : List UInt8} (h : Heap) (Q : Value → Heap → Prop) (hq : Q (.bool (p.isPrefixOf l)) h) : CallW Tryd.prog 36 [str l, str p] h Q := by
  refine call_of1 (k := 2) ok36 rfl rfl rfl fun N => ?_
  rw [show env0 c36 [str l, str p] = [str l, str p, undef] from rfl]
  delta c36 c36_r0 c36_r1
  replace hq := Hid.mk hq
  repeat' (first | simp -implicitDefEqProofs only [W_skip, W_reg, W_seq, W_rcond, W_cond, W_block, W_loop, W_exit, W_ret, thenQ_normal, thenQ_exit, thenQ_ret, blockQ_normal, blockQ_ret, blockQ_here, regQ_app, rcQ_app, cndK_t, cndK_f, RegW_nil, RegW_none, RegW_some, contW_app, grdK_tt, grdK_ff, grdK_tf, grdK_ft, grdK_undef, actK_p, actK_r, actK_a, actK_w, actK_call, actK_callV, heapK_app, allocK_app, writeK_app, ret1_ret, ret1_normal, ret0_ret, ret0_normal, ret2_ret2, thenK_app, retcv_ret, retcvK_app, optW_some, evs, Arg.ev, aP, aR, aA, aW, pMov, pBin, pUn, pConv, pPick, pFieldAddr, pNilCheck, pExtract, aBin, aUn, aInt, aNew, partL_f, upd, List.getElem?_cons_zero, List.getElem?_cons_succ, List.getD_cons_zero, List.getD_cons_succ, List.set_cons_zero, List.set_cons_succ, Nat.zero_add, Nat.add_zero, List.getElem?_toArray, List.take_zero, List.drop_zero, List.take_succ_cons, List.drop_succ_cons, if_true, if_false, decide_true, decide_false, Bool.false_eq_true, Bool.true_eq_false, Bool.not_true, Bool.not_false, not_true_eq_false, not_false_eq_true, ge_iff_le, gt_iff_lt, beq_self_eq_true, bne_self_eq_false, and_self, and_true, true_and, Option.isSome_some, Heap.get_alloc_same, Heap.alloc_getE, *] | with_reducible refine cndK_d (fun hc => ?_) (fun hc => ?_) | with_reducible refine grdK_d (fun hc => ?_) (fun hc => ?_) | with_reducible refine cndK_i (fun hc => ?_) (fun hc => ?_) | with_reducible refine grdK_i (fun hc => ?_) (fun hc => ?_))
  refine hasPrefix0_c h _ ?_
  obtain ⟨b, hb⟩ : ∃ b, p.isPrefixOf l = b := ⟨_, rfl⟩
  rw [hb] at hq ⊢
  clear hb
  repeat' (first | simp -implicitDefEqProofs only [W_skip, W_reg, W_seq, W_rcond, W_cond, W_block, W_loop, W_exit, W_ret, thenQ_normal, thenQ_exit, thenQ_ret, blockQ_normal, blockQ_ret, blockQ_here, regQ_app, rcQ_app, cndK_t, cndK_f, RegW_nil, RegW_none, RegW_some, contW_app, grdK_tt, grdK_ff, grdK_tf, grdK_ft, grdK_undef, actK_p, actK_r, actK_a, actK_w, actK_call, actK_callV, heapK_app, allocK_app, writeK_app, ret1_ret, ret1_normal, ret0_ret, ret0_normal, ret2_ret2, thenK_app, retcv_ret, retcvK_app, optW_some, evs, Arg.ev, aP, aR, aA, aW, pMov, pBin, pUn, pConv, pPick, pFieldAddr, pNilCheck, pExtract, aBin, aUn, aInt, aNew, partL_f, upd, List.getElem?_cons_zero, List.getElem?_cons_succ, List.getD_cons_zero, List.getD_cons_succ, List.set_cons_zero, List.set_cons_succ, Nat.zero_add, Nat.add_zero, List.getElem?_toArray, List.take_zero, List.drop_zero, List.take_succ_cons, List.drop_succ_cons, if_true, if_false, decide_true, decide_false, Bool.false_eq_true, Bool.true_eq_false, Bool.not_true, Bool.not_false, not_true_eq_false, not_false_eq_true, ge_iff_le, gt_iff_lt, beq_self_eq_true, bne_self_eq_false, and_self, and_true, true_and, Option.isSome_some, Heap.get_alloc_same, Heap.alloc_getE, *] | with_reducible refine cndK_d (fun hc => ?_) (fun hc => ?_) | with_reducible refine grdK_d (fun hc => ?_) (fun hc => ?_) | with_reducible refine cndK_i (fun hc => ?_) (fun hc => ?_) | with_reducible refine grdK_i (fun hc => ?_) (fun hc => ?_))
  exact hq.h
theorem idxByte_S (l : List UInt8) (z : Int) : pIdxByte [.string ⟨l.toArray⟩, .int .u8 z] = some (.int .i64 (Lib.indexByte l z.toNat.toUInt8)) := by simp [pIdxByte]
theorem indexByte_c {l : List UInt8} (z : Int) (h : Heap) (Q : Value → Heap → Prop) (hq : Q (.int .i64 (Lib.indexByte l z.toNat.toUInt8)) h) : CallW Tryd.prog 46 [str l, .int .u8 z] h Q := by
  refine call_of1 (k := 2) ok46 rfl rfl rfl fun N => ?_
  rw [show env0 c46 [str l, .int .u8 z] = [str l, .int .u8 z, undef] from rfl]
  delta c46 c46_r0 c46_r1
  replace hq := Hid.mk hq
  obtain ⟨b, hb⟩ : ∃ b, Lib.indexByte l z.toNat.toUInt8 = b := ⟨_, rfl⟩
  rw [hb] at hq
  repeat' (first | simp -implicitDefEqProofs only [W_skip, W_reg, W_seq, W_rcond, W_cond, W_block, W_loop, W_exit, W_ret, thenQ_normal, thenQ_exit, thenQ_ret, blockQ_normal, blockQ_ret, blockQ_here, regQ_app, rcQ_app, cndK_t, cndK_f, RegW_nil, RegW_none, RegW_some, contW_app, grdK_tt, grdK_ff, grdK_tf, grdK_ft, grdK_undef, actK_p, actK_r, actK_a, actK_w, actK_call, actK_callV, heapK_app, allocK_app, writeK_app, ret1_ret, ret1_normal, ret0_ret, ret0_normal, ret2_ret2, thenK_app, retcv_ret, retcvK_app, optW_some, evs, Arg.ev, aP, aR, aA, aW, pMov, pBin, pUn, pConv, pPick, pFieldAddr, pNilCheck, pExtract, aBin, aUn, aInt, aNew, partL_f, upd, List.getElem?_cons_zero, List.getElem?_cons_succ, List.getD_cons_zero, List.getD_cons_succ, List.set_cons_zero, List.set_cons_succ, Nat.zero_add, Nat.add_zero, List.getElem?_toArray, List.take_zero, List.drop_zero, List.take_succ_cons, List.drop_succ_cons, if_true, if_false, decide_true, decide_false, Bool.false_eq_true, Bool.true_eq_false, Bool.not_true, Bool.not_false, not_true_eq_false, not_false_eq_true, ge_iff_le, gt_iff_lt, beq_self_eq_true, bne_self_eq_false, and_self, and_true, true_and, Option.isSome_some, Heap.get_alloc_same, Heap.alloc_getE, *] | with_reducible refine cndK_d (fun hc => ?_) (fun hc => ?_) | with_reducible refine grdK_d (fun hc => ?_) (fun hc => ?_) | with_reducible refine cndK_i (fun hc => ?_) (fun hc => ?_) | with_reducible refine grdK_i (fun hc => ?_) (fun hc => ?_))
  refine call_of1 (k := 2) ok61 rfl rfl rfl fun N => ?_
  rw [show env0 c61 [str l, .int .u8 z] = [str l, .int .u8 z, undef] from rfl]
  delta c61 c61_r0 c61_r1
  replace hq := Hid.mk hq
  replace hq := hq.h
  have ix := idxByte_S l z
  rw [hb] at ix
  repeat' (first | simp -implicitDefEqProofs only [W_skip, W_reg, W_seq, W_rcond, W_cond, W_block, W_loop, W_exit, W_ret, thenQ_normal, thenQ_exit, thenQ_ret, blockQ_normal, blockQ_ret, blockQ_here, regQ_app, rcQ_app, cndK_t, cndK_f, RegW_nil, RegW_none, RegW_some, contW_app, grdK_tt, grdK_ff, grdK_tf, grdK_ft, grdK_undef, actK_p, actK_r, actK_a, actK_w, actK_call, actK_callV, heapK_app, allocK_app, writeK_app, ret1_ret, ret1_normal, ret0_ret, ret0_normal, ret2_ret2, thenK_app, retcv_ret, retcvK_app, optW_some, evs, Arg.ev, aP, aR, aA, aW, pMov, pBin, pUn, pConv, pPick, pFieldAddr, pNilCheck, pExtract, aBin, aUn, aInt, aNew, partL_f, upd, List.getElem?_cons_zero, List.getElem?_cons_succ, List.getD_cons_zero, List.getD_cons_succ, List.set_cons_zero, List.set_cons_succ, Nat.zero_add, Nat.add_zero, List.getElem?_toArray, List.take_zero, List.drop_zero, List.take_succ_cons, List.drop_succ_cons, if_true, if_false, decide_true, decide_false, Bool.false_eq_true, Bool.true_eq_false, Bool.not_true, Bool.not_false, not_true_eq_false, not_false_eq_true, ge_iff_le, gt_iff_lt, beq_self_eq_true, bne_self_eq_false, and_self, and_true, true_and, Option.isSome_some, Heap.get_alloc_same, Heap.alloc_getE, *] | with_reducible refine cndK_d (fun hc => ?_) (fun hc => ?_) | with_reducible refine grdK_d (fun hc => ?_) (fun hc => ?_) | with_reducible refine cndK_i (fun hc => ?_) (fun hc => ?_) | with_reducible refine grdK_i (fun hc => ?_) (fun hc => ?_))
  exact hq.h
end Go.Eng.Tk

set_option linter.unusedSimpArgs false
set_option linter.unusedVariables false
namespace Go.Eng.Tk
open Go Go.Eng Go.Proofs

/-- the empty set of bytes -/
def zs256 : List Value := List.replicate 256 (.bool false)
set_option maxRecDepth 20000 in
theorem c58_r0' : c58_r0 = [⟨0, .a (.new zs256), [], none, false⟩,
      ⟨1, .p (.mov), [.c (.bool false)], none, false⟩] := rfl
set_option maxRecDepth 20000 in
theorem c45_r5' : c45_r5 = [⟨0, .p (.mov), [.v 1], none, false⟩,
      ⟨1, .call 58, [.t 0], none, false⟩,
      ⟨2, .p (.mov), [.t 0], none, false⟩,
      ⟨3, .p (.extract 0), [.t 0], none, false⟩,
      ⟨4, .p (.extract 1), [.t 1], none, false⟩,
      ⟨5, .a (.new zs256), [], none, false⟩,
      ⟨6, .w (.store 256), [.t 0, .t 2], none, false⟩,
      ⟨7, .p (.mov), [.t 2], none, false⟩] := rfl
theorem len256 : zs256.length = 256 := List.length_replicate
theorem get256 {i : Nat} (h : i < 256) : zs256[i]? = some (.bool false) := by
  unfold zs256; rw [List.getElem?_replicate, if_pos h]
theorem one256 : zs256.all (·.oneCell') = true := List.all_eq_true.2 fun v hv => by rw [List.eq_of_mem_replicate hv]; rfl
/-- blanks -/
def blanks256 : List Value := (zs256.set 32 (.bool true)).set 9 (.bool true)
def isBl (b : UInt8) : Bool := b == 32 || b == 9
theorem lenBl : blanks256.length = 256 := by simp [blanks256, len256]
theorem getBl (b : UInt8) : blanks256[b.toNat]? = some (.bool (isBl b)) := by
  have hb : b.toNat < 256 := b.toNat_lt
  unfold blanks256 isBl
  rw [List.getElem?_set]
  by_cases h9 : b.toNat = 9
  · have : b = 9 := by apply UInt8.toNat_inj.1; simpa using h9
    subst this
    simp [len256]
  · have h9' : ¬ b = 9 := fun e => h9 (by rw [e]; rfl)
    rw [if_neg (fun e => h9 e.symm), List.getElem?_set]
    by_cases h32 : b.toNat = 32
    · have : b = 32 := by apply UInt8.toNat_inj.1; simpa using h32
      subst this
      simp [len256]
    · have h32' : ¬ b = 32 := fun e => h32 (by rw [e]; rfl)
      rw [if_neg (fun e => h32 e.symm), get256 hb]
      simp [h9', h32']
theorem oneBl : blanks256.all (·.oneCell') = true := by
  rw [List.all_eq_true]
  intro v hv
  obtain ⟨i, hi⟩ := List.mem_iff_getElem?.1 hv
  have hl := (List.getElem?_eq_some_iff.1 hi).1
  rw [lenBl] at hl
  have := getBl (UInt8.ofNat i)
  rw [UInt8.toNat_ofNat', Nat.mod_eq_of_lt (by omega), hi] at this
  cases this; rfl
theorem part256 {cs : List Value} (h : cs.length = 256) : partL true 0 256 cs = some (.agg cs.toArray) := by
  have : cs.take 256 = cs := List.take_of_length_le (by omega)
  simp [partL, h, this]
theorem contains256_c {p : Nat} {b : UInt8} {own : Bool} {h : Heap} (hp : h.get p = some (.blk blanks256 own)) (Q : Value → Heap → Prop) (hq : Q (.bool (isBl b)) h) : CallW Tryd.prog 75 [.pointer (some ⟨p, 0, none⟩), .int .u8 b.toNat] h Q := by
  refine call_of1 (k := 2) ok75 rfl rfl rfl fun N => ?_
  rw [show env0 c75 [.pointer (some ⟨p, 0, none⟩), .int .u8 b.toNat] = [.pointer (some ⟨p, 0, none⟩), .int .u8 b.toNat, undef] from rfl]
  delta c75 c75_r0 c75_r1
  replace hq := Hid.mk hq
  have hb : b.toNat < 256 := b.toNat_lt
  have ia : pIdxAddrA 256 1 [.pointer (some ⟨p, 0, none⟩), .int .u8 (b.toNat : Int)] = some (.pointer (some ⟨p, b.toNat, none⟩)) := by
    simp [pIdxAddrA, hb]
    omega
  have g := getBl b
  repeat' (first | simp -implicitDefEqProofs only [W_skip, W_reg, W_seq, W_rcond, W_cond, W_block, W_loop, W_exit, W_ret, thenQ_normal, thenQ_exit, thenQ_ret, blockQ_normal, blockQ_ret, blockQ_here, regQ_app, rcQ_app, cndK_t, cndK_f, RegW_nil, RegW_none, RegW_some, contW_app, grdK_tt, grdK_ff, grdK_tf, grdK_ft, grdK_undef, actK_p, actK_r, actK_a, actK_w, actK_call, actK_callV, heapK_app, allocK_app, writeK_app, ret1_ret, ret1_normal, ret0_ret, ret0_normal, ret2_ret2, thenK_app, retcv_ret, retcvK_app, optW_some, evs, Arg.ev, aP, aR, aA, aW, pMov, pBin, pUn, pConv, pPick, pFieldAddr, pNilCheck, pExtract, aBin, aUn, aInt, aNew, partL_f, upd, List.getElem?_cons_zero, List.getElem?_cons_succ, List.getD_cons_zero, List.getD_cons_succ, List.set_cons_zero, List.set_cons_succ, Nat.zero_add, Nat.add_zero, List.getElem?_toArray, List.take_zero, List.drop_zero, List.take_succ_cons, List.drop_succ_cons, if_true, if_false, decide_true, decide_false, Bool.false_eq_true, Bool.true_eq_false, Bool.not_true, Bool.not_false, not_true_eq_false, not_false_eq_true, ge_iff_le, gt_iff_lt, beq_self_eq_true, bne_self_eq_false, and_self, and_true, true_and, Option.isSome_some, Heap.get_alloc_same, Heap.alloc_getE, *] | with_reducible refine cndK_d (fun hc => ?_) (fun hc => ?_) | with_reducible refine grdK_d (fun hc => ?_) (fun hc => ?_) | with_reducible refine cndK_i (fun hc => ?_) (fun hc => ?_) | with_reducible refine grdK_i (fun hc => ?_) (fun hc => ?_))
  exact hq.h
end Go.Eng.Tk

set_option linter.unusedSimpArgs false
set_option linter.unusedVariables false
namespace Go.Eng.Tk
open Go Go.Eng Go.Proofs

theorem makeASCIISet_c (h : Heap) (Q : Value → Heap → Prop) (hq : ∀ h', h.le h' → Q (.tuple #[.agg blanks256.toArray, .bool true]) h') : CallW Tryd.prog 58 [str [32, 9]] h Q := by
  refine call_ofcv (k := 1) (agg := true) (size := 256) (j := 2) ok58 rfl rfl rfl fun N => ?_
  rw [show env0 c58 [str [32, 9]] = [str [32, 9], undef, undef, undef, undef] from rfl]
  delta c58 c58_r1 c58_r9
  rw [c58_r0']
  replace hq := Hid.mk hq
  obtain ⟨p, hp⟩ : ∃ x, h.next = x := ⟨_, rfl⟩
  obtain ⟨h1, hh1⟩ : ∃ x, h.alloc (.blk zs256 true) = x := ⟨_, rfl⟩
  have hl1 : h.le h1 := by rw [← hh1]; exact (Heap.le.refl _).alloc _
  have g1 : h1.get p = some (.blk zs256 true) := by rw [← hh1, ← hp]; exact Heap.get_alloc_same _ _
  repeat' (first | simp -implicitDefEqProofs only [W_skip, W_reg, W_seq, W_rcond, W_cond, W_block, W_loop, W_exit, W_ret, thenQ_normal, thenQ_exit, thenQ_ret, blockQ_normal, blockQ_ret, blockQ_here, regQ_app, rcQ_app, cndK_t, cndK_f, RegW_nil, RegW_none, RegW_some, contW_app, grdK_tt, grdK_ff, grdK_tf, grdK_ft, grdK_undef, actK_p, actK_r, actK_a, actK_w, actK_call, actK_callV, heapK_app, allocK_app, writeK_app, ret1_ret, ret1_normal, ret0_ret, ret0_normal, ret2_ret2, thenK_app, retcv_ret, retcvK_app, optW_some, evs, Arg.ev, aP, aR, aA, aW, pMov, pBin, pUn, pConv, pPick, pFieldAddr, pNilCheck, pExtract, aBin, aUn, aInt, aNew, partL_f, upd, List.getElem?_cons_zero, List.getElem?_cons_succ, List.getD_cons_zero, List.getD_cons_succ, List.set_cons_zero, List.set_cons_succ, Nat.zero_add, Nat.add_zero, List.getElem?_toArray, List.take_zero, List.drop_zero, List.take_succ_cons, List.drop_succ_cons, if_true, if_false, decide_true, decide_false, Bool.false_eq_true, Bool.true_eq_false, Bool.not_true, Bool.not_false, not_true_eq_false, not_false_eq_true, ge_iff_le, gt_iff_lt, beq_self_eq_true, bne_self_eq_false, and_self, and_true, true_and, Option.isSome_some, Heap.get_alloc_same, Heap.alloc_getE, *] | with_reducible refine cndK_d (fun hc => ?_) (fun hc => ?_) | with_reducible refine grdK_d (fun hc => ?_) (fun hc => ?_) | with_reducible refine cndK_i (fun hc => ?_) (fun hc => ?_) | with_reducible refine grdK_i (fun hc => ?_) (fun hc => ?_))
  have hpn : h.next ≤ p := by omega
  have ln : pLenStr [str [32, 9]] = some (.int .i64 2) := len_S [32, 9]
  have i0 : pIdxStr [str [32, 9], .int .i64 0] = some (.int .u8 32) := idx_S (l := [32, 9]) (i := 0) rfl .i64
  have i1 : pIdxStr [str [32, 9], .int .i64 1] = some (.int .u8 9) := idx_S (l := [32, 9]) (i := 1) rfl .i64
  have a0 : pIdxAddrA 256 1 [.pointer (some ⟨p, 0, none⟩), .int .u8 32] = some (.pointer (some ⟨p, 32, none⟩)) := rfl
  have a1 : pIdxAddrA 256 1 [.pointer (some ⟨p, 0, none⟩), .int .u8 9] = some (.pointer (some ⟨p, 9, none⟩)) := rfl
  have s0 := wStore_bool (z := true) (off := 32) g1 (by rw [len256]; omega)
  obtain ⟨h2, hh2⟩ : ∃ x, h1.set p (.blk (zs256.set 32 (.bool true)) true) = x := ⟨_, rfl⟩
  have g2 : h2.get p = some (.blk (zs256.set 32 (.bool true)) true) := by rw [← hh2]; exact Heap.set_getS _ _ _ (by rw [g1]; rfl)
  have hl2 : h.le h2 := by rw [← hh2]; exact hl1.set hpn _
  rw [hh2] at s0
  have s1 := wStore_bool (z := true) (off := 9) g2 (by rw [List.length_set, len256]; omega)
  obtain ⟨h3, hh3⟩ : ∃ x, h2.set p (.blk blanks256 true) = x := ⟨_, rfl⟩
  rw [show ((zs256.set 32 (.bool true)).set 9 (.bool true)) = blanks256 from rfl, hh3] at s1
  have g3 : h3.get p = some (.blk blanks256 true) := by rw [← hh3]; exact Heap.set_getS _ _ _ (by rw [g2]; rfl)
  have hl3 : h.le h3 := by rw [← hh3]; exact hl2.set hpn _
  have pt := part256 lenBl
  have s3 : wStore 256 h3 [.pointer (some ⟨p, 0, none⟩), .agg blanks256.toArray] = some (undef, h3.set p (.blk blanks256 true)) := wStore_all g3 rfl lenBl lenBl oneBl
  obtain ⟨h4, hh4⟩ : ∃ x, h3.set p (.blk blanks256 true) = x := ⟨_, rfl⟩
  rw [hh4] at s3
  have g4 : h4.get p = some (.blk blanks256 true) := by rw [← hh4]; exact Heap.set_getS _ _ _ (by rw [g3]; rfl)
  have hl4 : h.le h4 := by rw [← hh4]; exact hl3.set hpn _
  clear hp hh1 hh2 hh3 hh4
  have c0 : ¬ (128 : Int) ≤ 32 := by decide
  have c1 : ¬ (128 : Int) ≤ 9 := by decide
  have c2 : (0 : Int) < 2 := by decide
  have c3 : (1 : Int) < 2 := by decide
  have c4 : ¬ (2 : Int) < 2 := by decide
  have w1 : IntKind.i64.wrap (0 + 1) = 1 := by decide
  have w2 : IntKind.i64.wrap (1 + 1) = 2 := by decide
  refine LoopW.round ?_
  delta c58_l8 c58_r0 c58_r1 c58_r2 c58_r3 c58_r4 c58_r5 c58_r6 c58_r7 c58_r9
  repeat' (first | simp -implicitDefEqProofs only [W_skip, W_reg, W_seq, W_rcond, W_cond, W_block, W_loop, W_exit, W_ret, thenQ_normal, thenQ_exit, thenQ_ret, blockQ_normal, blockQ_ret, blockQ_here, regQ_app, rcQ_app, cndK_t, cndK_f, RegW_nil, RegW_none, RegW_some, contW_app, grdK_tt, grdK_ff, grdK_tf, grdK_ft, grdK_undef, actK_p, actK_r, actK_a, actK_w, actK_call, actK_callV, heapK_app, allocK_app, writeK_app, ret1_ret, ret1_normal, ret0_ret, ret0_normal, ret2_ret2, thenK_app, retcv_ret, retcvK_app, optW_some, evs, Arg.ev, aP, aR, aA, aW, pMov, pBin, pUn, pConv, pPick, pFieldAddr, pNilCheck, pExtract, aBin, aUn, aInt, aNew, partL_f, upd, List.getElem?_cons_zero, List.getElem?_cons_succ, List.getD_cons_zero, List.getD_cons_succ, List.set_cons_zero, List.set_cons_succ, Nat.zero_add, Nat.add_zero, List.getElem?_toArray, List.take_zero, List.drop_zero, List.take_succ_cons, List.drop_succ_cons, if_true, if_false, decide_true, decide_false, Bool.false_eq_true, Bool.true_eq_false, Bool.not_true, Bool.not_false, not_true_eq_false, not_false_eq_true, ge_iff_le, gt_iff_lt, beq_self_eq_true, bne_self_eq_false, and_self, and_true, true_and, Option.isSome_some, Heap.get_alloc_same, Heap.alloc_getE, *] | with_reducible refine cndK_d (fun hc => ?_) (fun hc => ?_) | with_reducible refine grdK_d (fun hc => ?_) (fun hc => ?_) | with_reducible refine cndK_i (fun hc => ?_) (fun hc => ?_) | with_reducible refine grdK_i (fun hc => ?_) (fun hc => ?_))
  refine LoopW.round ?_
  repeat' (first | simp -implicitDefEqProofs only [W_skip, W_reg, W_seq, W_rcond, W_cond, W_block, W_loop, W_exit, W_ret, thenQ_normal, thenQ_exit, thenQ_ret, blockQ_normal, blockQ_ret, blockQ_here, regQ_app, rcQ_app, cndK_t, cndK_f, RegW_nil, RegW_none, RegW_some, contW_app, grdK_tt, grdK_ff, grdK_tf, grdK_ft, grdK_undef, actK_p, actK_r, actK_a, actK_w, actK_call, actK_callV, heapK_app, allocK_app, writeK_app, ret1_ret, ret1_normal, ret0_ret, ret0_normal, ret2_ret2, thenK_app, retcv_ret, retcvK_app, optW_some, evs, Arg.ev, aP, aR, aA, aW, pMov, pBin, pUn, pConv, pPick, pFieldAddr, pNilCheck, pExtract, aBin, aUn, aInt, aNew, partL_f, upd, List.getElem?_cons_zero, List.getElem?_cons_succ, List.getD_cons_zero, List.getD_cons_succ, List.set_cons_zero, List.set_cons_succ, Nat.zero_add, Nat.add_zero, List.getElem?_toArray, List.take_zero, List.drop_zero, List.take_succ_cons, List.drop_succ_cons, if_true, if_false, decide_true, decide_false, Bool.false_eq_true, Bool.true_eq_false, Bool.not_true, Bool.not_false, not_true_eq_false, not_false_eq_true, ge_iff_le, gt_iff_lt, beq_self_eq_true, bne_self_eq_false, and_self, and_true, true_and, Option.isSome_some, Heap.get_alloc_same, Heap.alloc_getE, *] | with_reducible refine cndK_d (fun hc => ?_) (fun hc => ?_) | with_reducible refine grdK_d (fun hc => ?_) (fun hc => ?_) | with_reducible refine cndK_i (fun hc => ?_) (fun hc => ?_) | with_reducible refine grdK_i (fun hc => ?_) (fun hc => ?_))
  refine LoopW.round ?_
  repeat' (first | simp -implicitDefEqProofs only [W_skip, W_reg, W_seq, W_rcond, W_cond, W_block, W_loop, W_exit, W_ret, thenQ_normal, thenQ_exit, thenQ_ret, blockQ_normal, blockQ_ret, blockQ_here, regQ_app, rcQ_app, cndK_t, cndK_f, RegW_nil, RegW_none, RegW_some, contW_app, grdK_tt, grdK_ff, grdK_tf, grdK_ft, grdK_undef, actK_p, actK_r, actK_a, actK_w, actK_call, actK_callV, heapK_app, allocK_app, writeK_app, ret1_ret, ret1_normal, ret0_ret, ret0_normal, ret2_ret2, thenK_app, retcv_ret, retcvK_app, optW_some, evs, Arg.ev, aP, aR, aA, aW, pMov, pBin, pUn, pConv, pPick, pFieldAddr, pNilCheck, pExtract, aBin, aUn, aInt, aNew, partL_f, upd, List.getElem?_cons_zero, List.getElem?_cons_succ, List.getD_cons_zero, List.getD_cons_succ, List.set_cons_zero, List.set_cons_succ, Nat.zero_add, Nat.add_zero, List.getElem?_toArray, List.take_zero, List.drop_zero, List.take_succ_cons, List.drop_succ_cons, if_true, if_false, decide_true, decide_false, Bool.false_eq_true, Bool.true_eq_false, Bool.not_true, Bool.not_false, not_true_eq_false, not_false_eq_true, ge_iff_le, gt_iff_lt, beq_self_eq_true, bne_self_eq_false, and_self, and_true, true_and, Option.isSome_some, Heap.get_alloc_same, Heap.alloc_getE, *] | with_reducible refine cndK_d (fun hc => ?_) (fun hc => ?_) | with_reducible refine grdK_d (fun hc => ?_) (fun hc => ?_) | with_reducible refine cndK_i (fun hc => ?_) (fun hc => ?_) | with_reducible refine grdK_i (fun hc => ?_) (fun hc => ?_))
  exact hq.h _ hl4
end Go.Eng.Tk

set_option linter.unusedSimpArgs false
set_option linter.unusedVariables false
namespace Go.Eng.Tk
open Go Go.Eng Go.Proofs

theorem dropWhile_step {p : UInt8 → Bool} {l : List UInt8} {i : Nat} (h : l.dropWhile p = (l.drop i).dropWhile p) {b : UInt8} (hb : l[i]? = some b) : (p b = true → l.dropWhile p = (l.drop (i + 1)).dropWhile p) ∧ (p b = false → l.dropWhile p = l.drop i) := by
  have hd : l.drop i = b :: l.drop (i + 1) := by
    have hi := (List.getElem?_eq_some_iff.1 hb)
    rw [← hi.2]; exact List.drop_eq_getElem_cons hi.1
  rw [h, hd]
  constructor
  · intro hp; rw [List.dropWhile_cons, if_pos hp]
  · intro hp; rw [List.dropWhile_cons, if_neg (by simp [hp])]
theorem trimLeftASCII_c {l : List UInt8} (hl : l.length ≤ 1000000000) {p : Nat} {own : Bool} {h : Heap} (hp : h.get p = some (.blk blanks256 own)) (Q : Value → Heap → Prop) (hq : Q (str (l.dropWhile isBl)) h) : CallW Tryd.prog 59 [str l, .pointer (some ⟨p, 0, none⟩)] h Q := by
  refine call_of1 (k := 2) ok59 rfl rfl rfl fun N => ?_
  rw [show env0 c59 [str l, .pointer (some ⟨p, 0, none⟩)] = [str l, .pointer (some ⟨p, 0, none⟩), undef] from rfl]
  delta c59 c59_r0 c59_r1 c59_r2 c59_r3 c59_r5
  replace hq := Hid.mk hq
  repeat' (first | simp -implicitDefEqProofs only [W_skip, W_reg, W_seq, W_rcond, W_cond, W_block, W_loop, W_exit, W_ret, thenQ_normal, thenQ_exit, thenQ_ret, blockQ_normal, blockQ_ret, blockQ_here, regQ_app, rcQ_app, cndK_t, cndK_f, RegW_nil, RegW_none, RegW_some, contW_app, grdK_tt, grdK_ff, grdK_tf, grdK_ft, grdK_undef, actK_p, actK_r, actK_a, actK_w, actK_call, actK_callV, heapK_app, allocK_app, writeK_app, ret1_ret, ret1_normal, ret0_ret, ret0_normal, ret2_ret2, thenK_app, retcv_ret, retcvK_app, optW_some, evs, Arg.ev, aP, aR, aA, aW, pMov, pBin, pUn, pConv, pPick, pFieldAddr, pNilCheck, pExtract, aBin, aUn, aInt, aNew, partL_f, upd, List.getElem?_cons_zero, List.getElem?_cons_succ, List.getD_cons_zero, List.getD_cons_succ, List.set_cons_zero, List.set_cons_succ, Nat.zero_add, Nat.add_zero, List.getElem?_toArray, List.take_zero, List.drop_zero, List.take_succ_cons, List.drop_succ_cons, if_true, if_false, decide_true, decide_false, Bool.false_eq_true, Bool.true_eq_false, Bool.not_true, Bool.not_false, not_true_eq_false, not_false_eq_true, ge_iff_le, gt_iff_lt, beq_self_eq_true, bne_self_eq_false, and_self, and_true, true_and, Option.isSome_some, Heap.get_alloc_same, Heap.alloc_getE, *] | with_reducible refine cndK_d (fun hc => ?_) (fun hc => ?_) | with_reducible refine grdK_d (fun hc => ?_) (fun hc => ?_) | with_reducible refine cndK_i (fun hc => ?_) (fun hc => ?_) | with_reducible refine grdK_i (fun hc => ?_) (fun hc => ?_))
  refine LoopW.upto l.length (fun i e h1 => h1 = h ∧ l.dropWhile isBl = (l.drop i).dropWhile isBl ∧ e = [str (l.drop i), .pointer (some ⟨p, 0, none⟩), .string ⟨#[]⟩]) ?_ (Nat.zero_le _) ⟨rfl, by simp, by simp⟩
  rintro i _ h1 R hi ⟨rfl, hpre, rfl⟩ hR
  replace hpre := Hid.mk hpre
  delta c59_l4 c59_r0 c59_r1 c59_r2 c59_r3 c59_r5
  obtain ⟨m, hm⟩ : ∃ m, l.drop i = m := ⟨_, rfl⟩
  have ln : pLenStr [str m] = some (.int .i64 m.length) := len_S m
  by_cases hlt : i < l.length
  case neg =>
    have hmn : m = [] := by rw [← hm]; exact List.drop_eq_nil_of_le (by omega)
    have hlt' : ¬ (0 : Int) < m.length := by rw [hmn]; simp
    have hd : l.dropWhile isBl = m := by rw [hpre.h, hm, hmn]; rfl
    rw [hm]
    rw [hd] at hq
    replace hd := Hid.mk hd
    replace hmn := Hid.mk hmn
    clear hm
    repeat' (first | simp -implicitDefEqProofs only [W_skip, W_reg, W_seq, W_rcond, W_cond, W_block, W_loop, W_exit, W_ret, thenQ_normal, thenQ_exit, thenQ_ret, blockQ_normal, blockQ_ret, blockQ_here, regQ_app, rcQ_app, cndK_t, cndK_f, RegW_nil, RegW_none, RegW_some, contW_app, grdK_tt, grdK_ff, grdK_tf, grdK_ft, grdK_undef, actK_p, actK_r, actK_a, actK_w, actK_call, actK_callV, heapK_app, allocK_app, writeK_app, ret1_ret, ret1_normal, ret0_ret, ret0_normal, ret2_ret2, thenK_app, retcv_ret, retcvK_app, optW_some, evs, Arg.ev, aP, aR, aA, aW, pMov, pBin, pUn, pConv, pPick, pFieldAddr, pNilCheck, pExtract, aBin, aUn, aInt, aNew, partL_f, upd, List.getElem?_cons_zero, List.getElem?_cons_succ, List.getD_cons_zero, List.getD_cons_succ, List.set_cons_zero, List.set_cons_succ, Nat.zero_add, Nat.add_zero, List.getElem?_toArray, List.take_zero, List.drop_zero, List.take_succ_cons, List.drop_succ_cons, if_true, if_false, decide_true, decide_false, Bool.false_eq_true, Bool.true_eq_false, Bool.not_true, Bool.not_false, not_true_eq_false, not_false_eq_true, ge_iff_le, gt_iff_lt, beq_self_eq_true, bne_self_eq_false, and_self, and_true, true_and, Option.isSome_some, Heap.get_alloc_same, Heap.alloc_getE, *] | with_reducible refine cndK_d (fun hc => ?_) (fun hc => ?_) | with_reducible refine grdK_d (fun hc => ?_) (fun hc => ?_) | with_reducible refine cndK_i (fun hc => ?_) (fun hc => ?_) | with_reducible refine grdK_i (fun hc => ?_) (fun hc => ?_))
    exact hq.h
  case pos =>
    have hml : m.length = l.length - i := by rw [← hm]; simp
    have hlt' : (0 : Int) < m.length := by omega
    obtain ⟨b, hb⟩ : ∃ b, l[i]? = some b := ⟨_, List.getElem?_eq_getElem hlt⟩
    have hb0 : m[0]? = some b := by rw [← hm, List.getElem?_drop]; simpa using hb
    have ix : pIdxStr [str m, .int .i64 0] = some (.int .u8 b.toNat) := idx_S hb0 .i64
    have st := dropWhile_step hpre.h hb
    have ct : pSliceStr true false [str m, .int .i64 1] = some (str (l.drop (i + 1))) := by
      have := cutLo_S (l := m) (n := 1) (by omega)
      rw [show m.drop 1 = l.drop (i + 1) by rw [← hm, List.drop_drop]] at this
      exact this
    rw [hm]
    replace st := Hid.mk st
    replace hb0 := Hid.mk hb0
    replace hb := Hid.mk hb
    have hm' := Hid.mk hm
    replace hml := Hid.mk hml
    clear hm
    repeat' (first | simp -implicitDefEqProofs only [W_skip, W_reg, W_seq, W_rcond, W_cond, W_block, W_loop, W_exit, W_ret, thenQ_normal, thenQ_exit, thenQ_ret, blockQ_normal, blockQ_ret, blockQ_here, regQ_app, rcQ_app, cndK_t, cndK_f, RegW_nil, RegW_none, RegW_some, contW_app, grdK_tt, grdK_ff, grdK_tf, grdK_ft, grdK_undef, actK_p, actK_r, actK_a, actK_w, actK_call, actK_callV, heapK_app, allocK_app, writeK_app, ret1_ret, ret1_normal, ret0_ret, ret0_normal, ret2_ret2, thenK_app, retcv_ret, retcvK_app, optW_some, evs, Arg.ev, aP, aR, aA, aW, pMov, pBin, pUn, pConv, pPick, pFieldAddr, pNilCheck, pExtract, aBin, aUn, aInt, aNew, partL_f, upd, List.getElem?_cons_zero, List.getElem?_cons_succ, List.getD_cons_zero, List.getD_cons_succ, List.set_cons_zero, List.set_cons_succ, Nat.zero_add, Nat.add_zero, List.getElem?_toArray, List.take_zero, List.drop_zero, List.take_succ_cons, List.drop_succ_cons, if_true, if_false, decide_true, decide_false, Bool.false_eq_true, Bool.true_eq_false, Bool.not_true, Bool.not_false, not_true_eq_false, not_false_eq_true, ge_iff_le, gt_iff_lt, beq_self_eq_true, bne_self_eq_false, and_self, and_true, true_and, Option.isSome_some, Heap.get_alloc_same, Heap.alloc_getE, *] | with_reducible refine cndK_d (fun hc => ?_) (fun hc => ?_) | with_reducible refine grdK_d (fun hc => ?_) (fun hc => ?_) | with_reducible refine cndK_i (fun hc => ?_) (fun hc => ?_) | with_reducible refine grdK_i (fun hc => ?_) (fun hc => ?_))
    refine contains256_c hp _ ?_
    cases hbl : isBl b with
    | true =>
      repeat' (first | simp -implicitDefEqProofs only [W_skip, W_reg, W_seq, W_rcond, W_cond, W_block, W_loop, W_exit, W_ret, thenQ_normal, thenQ_exit, thenQ_ret, blockQ_normal, blockQ_ret, blockQ_here, regQ_app, rcQ_app, cndK_t, cndK_f, RegW_nil, RegW_none, RegW_some, contW_app, grdK_tt, grdK_ff, grdK_tf, grdK_ft, grdK_undef, actK_p, actK_r, actK_a, actK_w, actK_call, actK_callV, heapK_app, allocK_app, writeK_app, ret1_ret, ret1_normal, ret0_ret, ret0_normal, ret2_ret2, thenK_app, retcv_ret, retcvK_app, optW_some, evs, Arg.ev, aP, aR, aA, aW, pMov, pBin, pUn, pConv, pPick, pFieldAddr, pNilCheck, pExtract, aBin, aUn, aInt, aNew, partL_f, upd, List.getElem?_cons_zero, List.getElem?_cons_succ, List.getD_cons_zero, List.getD_cons_succ, List.set_cons_zero, List.set_cons_succ, Nat.zero_add, Nat.add_zero, List.getElem?_toArray, List.take_zero, List.drop_zero, List.take_succ_cons, List.drop_succ_cons, if_true, if_false, decide_true, decide_false, Bool.false_eq_true, Bool.true_eq_false, Bool.not_true, Bool.not_false, not_true_eq_false, not_false_eq_true, ge_iff_le, gt_iff_lt, beq_self_eq_true, bne_self_eq_false, and_self, and_true, true_and, Option.isSome_some, Heap.get_alloc_same, Heap.alloc_getE, *] | with_reducible refine cndK_d (fun hc => ?_) (fun hc => ?_) | with_reducible refine grdK_d (fun hc => ?_) (fun hc => ?_) | with_reducible refine cndK_i (fun hc => ?_) (fun hc => ?_) | with_reducible refine grdK_i (fun hc => ?_) (fun hc => ?_))
      exact hR.h _ _ hlt ⟨rfl, st.h.1 hbl, rfl⟩
    | false =>
      have hd := st.h.2 hbl
      rw [hm'.h] at hd
      rw [hd] at hq
      replace hd := Hid.mk hd
      repeat' (first | simp -implicitDefEqProofs only [W_skip, W_reg, W_seq, W_rcond, W_cond, W_block, W_loop, W_exit, W_ret, thenQ_normal, thenQ_exit, thenQ_ret, blockQ_normal, blockQ_ret, blockQ_here, regQ_app, rcQ_app, cndK_t, cndK_f, RegW_nil, RegW_none, RegW_some, contW_app, grdK_tt, grdK_ff, grdK_tf, grdK_ft, grdK_undef, actK_p, actK_r, actK_a, actK_w, actK_call, actK_callV, heapK_app, allocK_app, writeK_app, ret1_ret, ret1_normal, ret0_ret, ret0_normal, ret2_ret2, thenK_app, retcv_ret, retcvK_app, optW_some, evs, Arg.ev, aP, aR, aA, aW, pMov, pBin, pUn, pConv, pPick, pFieldAddr, pNilCheck, pExtract, aBin, aUn, aInt, aNew, partL_f, upd, List.getElem?_cons_zero, List.getElem?_cons_succ, List.getD_cons_zero, List.getD_cons_succ, List.set_cons_zero, List.set_cons_succ, Nat.zero_add, Nat.add_zero, List.getElem?_toArray, List.take_zero, List.drop_zero, List.take_succ_cons, List.drop_succ_cons, if_true, if_false, decide_true, decide_false, Bool.false_eq_true, Bool.true_eq_false, Bool.not_true, Bool.not_false, not_true_eq_false, not_false_eq_true, ge_iff_le, gt_iff_lt, beq_self_eq_true, bne_self_eq_false, and_self, and_true, true_and, Option.isSome_some, Heap.get_alloc_same, Heap.alloc_getE, *] | with_reducible refine cndK_d (fun hc => ?_) (fun hc => ?_) | with_reducible refine grdK_d (fun hc => ?_) (fun hc => ?_) | with_reducible refine cndK_i (fun hc => ?_) (fun hc => ?_) | with_reducible refine grdK_i (fun hc => ?_) (fun hc => ?_))
      exact hq.h
theorem trimLeft_c {l : List UInt8} (hl : l.length ≤ 1000000000) {h : Heap} (Q : Value → Heap → Prop) (hq : ∀ h', h.le h' → Q (str (l.dropWhile isBl)) h') : CallW Tryd.prog 45 [str l, str [32, 9]] h Q := by
  refine call_of1 (k := 2) ok45 rfl rfl rfl fun N => ?_
  rw [show env0 c45 [str l, str [32, 9]] = [str l, str [32, 9], undef, undef, undef] from rfl]
  delta c45 c45_r0 c45_r1 c45_r2 c45_r3 c45_r4 c45_r6 c45_r7 c45_r8
  rw [c45_r5']
  replace hq := Hid.mk hq
  have e0 : (([32, 9] : List UInt8) == []) = false := rfl
  have ln : pLenStr [str [32, 9]] = some (.int .i64 2) := len_S [32, 9]
  have e1 : ((2 : Int) == 1) = false := rfl
  cases hl0 : (l == []) with
  | true =>
    have hll : l = [] := by simpa using hl0
    subst hll
    repeat' (first | simp -implicitDefEqProofs only [W_skip, W_reg, W_seq, W_rcond, W_cond, W_block, W_loop, W_exit, W_ret, thenQ_normal, thenQ_exit, thenQ_ret, blockQ_normal, blockQ_ret, blockQ_here, regQ_app, rcQ_app, cndK_t, cndK_f, RegW_nil, RegW_none, RegW_some, contW_app, grdK_tt, grdK_ff, grdK_tf, grdK_ft, grdK_undef, actK_p, actK_r, actK_a, actK_w, actK_call, actK_callV, heapK_app, allocK_app, writeK_app, ret1_ret, ret1_normal, ret0_ret, ret0_normal, ret2_ret2, thenK_app, retcv_ret, retcvK_app, optW_some, evs, Arg.ev, aP, aR, aA, aW, pMov, pBin, pUn, pConv, pPick, pFieldAddr, pNilCheck, pExtract, aBin, aUn, aInt, aNew, partL_f, upd, List.getElem?_cons_zero, List.getElem?_cons_succ, List.getD_cons_zero, List.getD_cons_succ, List.set_cons_zero, List.set_cons_succ, Nat.zero_add, Nat.add_zero, List.getElem?_toArray, List.take_zero, List.drop_zero, List.take_succ_cons, List.drop_succ_cons, if_true, if_false, decide_true, decide_false, Bool.false_eq_true, Bool.true_eq_false, Bool.not_true, Bool.not_false, not_true_eq_false, not_false_eq_true, ge_iff_le, gt_iff_lt, beq_self_eq_true, bne_self_eq_false, and_self, and_true, true_and, Option.isSome_some, Heap.get_alloc_same, Heap.alloc_getE, eq_S, *] | with_reducible refine cndK_d (fun hc => ?_) (fun hc => ?_) | with_reducible refine grdK_d (fun hc => ?_) (fun hc => ?_) | with_reducible refine cndK_i (fun hc => ?_) (fun hc => ?_) | with_reducible refine grdK_i (fun hc => ?_) (fun hc => ?_))
    exact hq.h _ (Heap.le.refl _)
  | false =>
    repeat' (first | simp -implicitDefEqProofs only [W_skip, W_reg, W_seq, W_rcond, W_cond, W_block, W_loop, W_exit, W_ret, thenQ_normal, thenQ_exit, thenQ_ret, blockQ_normal, blockQ_ret, blockQ_here, regQ_app, rcQ_app, cndK_t, cndK_f, RegW_nil, RegW_none, RegW_some, contW_app, grdK_tt, grdK_ff, grdK_tf, grdK_ft, grdK_undef, actK_p, actK_r, actK_a, actK_w, actK_call, actK_callV, heapK_app, allocK_app, writeK_app, ret1_ret, ret1_normal, ret0_ret, ret0_normal, ret2_ret2, thenK_app, retcv_ret, retcvK_app, optW_some, evs, Arg.ev, aP, aR, aA, aW, pMov, pBin, pUn, pConv, pPick, pFieldAddr, pNilCheck, pExtract, aBin, aUn, aInt, aNew, partL_f, upd, List.getElem?_cons_zero, List.getElem?_cons_succ, List.getD_cons_zero, List.getD_cons_succ, List.set_cons_zero, List.set_cons_succ, Nat.zero_add, Nat.add_zero, List.getElem?_toArray, List.take_zero, List.drop_zero, List.take_succ_cons, List.drop_succ_cons, if_true, if_false, decide_true, decide_false, Bool.false_eq_true, Bool.true_eq_false, Bool.not_true, Bool.not_false, not_true_eq_false, not_false_eq_true, ge_iff_le, gt_iff_lt, beq_self_eq_true, bne_self_eq_false, and_self, and_true, true_and, Option.isSome_some, Heap.get_alloc_same, Heap.alloc_getE, eq_S, *] | with_reducible refine cndK_d (fun hc => ?_) (fun hc => ?_) | with_reducible refine grdK_d (fun hc => ?_) (fun hc => ?_) | with_reducible refine cndK_i (fun hc => ?_) (fun hc => ?_) | with_reducible refine grdK_i (fun hc => ?_) (fun hc => ?_))
    refine makeASCIISet_c h _ fun h1 hl1 => ?_
    obtain ⟨p, hp⟩ : ∃ x, h1.next = x := ⟨_, rfl⟩
    have st : wStore 256 (h1.alloc (.blk zs256 true)) [.pointer (some ⟨p, 0, none⟩), .agg blanks256.toArray] = some (undef, h1.alloc (.blk blanks256 true)) := by
      rw [← hp]; exact wStore_new rfl lenBl len256 oneBl
    obtain ⟨h2, hh2⟩ : ∃ x, h1.alloc (.blk blanks256 true) = x := ⟨_, rfl⟩
    have hl2 : h1.le h2 := by rw [← hh2]; exact (Heap.le.refl _).alloc _
    have g2 : h2.get p = some (.blk blanks256 true) := by rw [← hh2, ← hp]; exact Heap.get_alloc_same _ _
    rw [hh2] at st
    repeat' (first | simp -implicitDefEqProofs only [W_skip, W_reg, W_seq, W_rcond, W_cond, W_block, W_loop, W_exit, W_ret, thenQ_normal, thenQ_exit, thenQ_ret, blockQ_normal, blockQ_ret, blockQ_here, regQ_app, rcQ_app, cndK_t, cndK_f, RegW_nil, RegW_none, RegW_some, contW_app, grdK_tt, grdK_ff, grdK_tf, grdK_ft, grdK_undef, actK_p, actK_r, actK_a, actK_w, actK_call, actK_callV, heapK_app, allocK_app, writeK_app, ret1_ret, ret1_normal, ret0_ret, ret0_normal, ret2_ret2, thenK_app, retcv_ret, retcvK_app, optW_some, evs, Arg.ev, aP, aR, aA, aW, pMov, pBin, pUn, pConv, pPick, pFieldAddr, pNilCheck, pExtract, aBin, aUn, aInt, aNew, partL_f, upd, List.getElem?_cons_zero, List.getElem?_cons_succ, List.getD_cons_zero, List.getD_cons_succ, List.set_cons_zero, List.set_cons_succ, Nat.zero_add, Nat.add_zero, List.getElem?_toArray, List.take_zero, List.drop_zero, List.take_succ_cons, List.drop_succ_cons, if_true, if_false, decide_true, decide_false, Bool.false_eq_true, Bool.true_eq_false, Bool.not_true, Bool.not_false, not_true_eq_false, not_false_eq_true, ge_iff_le, gt_iff_lt, beq_self_eq_true, bne_self_eq_false, and_self, and_true, true_and, Option.isSome_some, Heap.get_alloc_same, Heap.alloc_getE, pExtract, *] | with_reducible refine cndK_d (fun hc => ?_) (fun hc => ?_) | with_reducible refine grdK_d (fun hc => ?_) (fun hc => ?_) | with_reducible refine cndK_i (fun hc => ?_) (fun hc => ?_) | with_reducible refine grdK_i (fun hc => ?_) (fun hc => ?_))
    refine trimLeftASCII_c hl g2 _ ?_
    have g := hq.h h2 (hl1.trans hl2)
    obtain ⟨m, hm⟩ : ∃ m, l.dropWhile isBl = m := ⟨_, rfl⟩
    rw [hm] at g ⊢
    replace g := Hid.mk g
    clear hm
    repeat' (first | simp -implicitDefEqProofs only [W_skip, W_reg, W_seq, W_rcond, W_cond, W_block, W_loop, W_exit, W_ret, thenQ_normal, thenQ_exit, thenQ_ret, blockQ_normal, blockQ_ret, blockQ_here, regQ_app, rcQ_app, cndK_t, cndK_f, RegW_nil, RegW_none, RegW_some, contW_app, grdK_tt, grdK_ff, grdK_tf, grdK_ft, grdK_undef, actK_p, actK_r, actK_a, actK_w, actK_call, actK_callV, heapK_app, allocK_app, writeK_app, ret1_ret, ret1_normal, ret0_ret, ret0_normal, ret2_ret2, thenK_app, retcv_ret, retcvK_app, optW_some, evs, Arg.ev, aP, aR, aA, aW, pMov, pBin, pUn, pConv, pPick, pFieldAddr, pNilCheck, pExtract, aBin, aUn, aInt, aNew, partL_f, upd, List.getElem?_cons_zero, List.getElem?_cons_succ, List.getD_cons_zero, List.getD_cons_succ, List.set_cons_zero, List.set_cons_succ, Nat.zero_add, Nat.add_zero, List.getElem?_toArray, List.take_zero, List.drop_zero, List.take_succ_cons, List.drop_succ_cons, if_true, if_false, decide_true, decide_false, Bool.false_eq_true, Bool.true_eq_false, Bool.not_true, Bool.not_false, not_true_eq_false, not_false_eq_true, ge_iff_le, gt_iff_lt, beq_self_eq_true, bne_self_eq_false, and_self, and_true, true_and, Option.isSome_some, Heap.get_alloc_same, Heap.alloc_getE, *] | with_reducible refine cndK_d (fun hc => ?_) (fun hc => ?_) | with_reducible refine grdK_d (fun hc => ?_) (fun hc => ?_) | with_reducible refine cndK_i (fun hc => ?_) (fun hc => ?_) | with_reducible refine grdK_i (fun hc => ?_) (fun hc => ?_))
    exact g.h
end Go.Eng.Tk

set_option linter.unusedSimpArgs false
set_option linter.unusedVariables false
namespace Go.Eng.Tk
open Go Go.Eng Go.Proofs

/-- what is no token's, passed over; true: within a comment -/
def skip : Bool → List UInt8 → Int → List UInt8 × Int
  | _, [], n => ([], n)
  | true, b :: r, n => if b = 10 then skip false r (n + 1) else skip true r n
  | false, b :: r, n => if isBl b then skip false r n else if b = 10 then skip false r (n + 1) else if b = 35 then skip true r n else (b :: r, n)
theorem skip_bl : ∀ (l : List UInt8) (n : Int), skip false l n = skip false (l.dropWhile isBl) n
  | [], n => rfl
  | b :: r, n => by
    cases hb : isBl b with
    | true => rw [List.dropWhile_cons, if_pos hb, ← skip_bl r n]; simp [skip, hb]
    | false => rw [List.dropWhile_cons, if_neg (by simp [hb])]
theorem skip_com : ∀ (l : List UInt8) (n : Int), skip true l n = skip false (l.dropWhile (· != 10)) n
  | [], n => rfl
  | b :: r, n => by
    by_cases hb : b = 10
    · subst hb
      rw [List.dropWhile_cons, if_neg (by decide)]
      simp [skip, isBl]
    · rw [List.dropWhile_cons, if_pos (by simpa using hb), ← skip_com r n]; simp [skip, hb]
theorem idx_drop (c : UInt8) : ∀ l : List UInt8, (Lib.indexByte l c < 0 → l.dropWhile (· != c) = []) ∧ (¬ Lib.indexByte l c < 0 → ∃ k : Nat, Lib.indexByte l c = k ∧ k ≤ l.length ∧ l.drop k = l.dropWhile (· != c))
  | [] => ⟨fun _ => rfl, fun h => by simp [Lib.indexByte] at h⟩
  | b :: r => by
    obtain ⟨i1, i2⟩ := idx_drop c r
    unfold Lib.indexByte
    cases hb : (b == c) with
    | true =>
      have : b = c := by simpa using hb
      subst this
      simp only [if_true]
      refine ⟨fun h => by omega, fun _ => ⟨0, rfl, Nat.zero_le _, ?_⟩⟩
      rw [List.dropWhile_cons, if_neg (by simp)]; rfl
    | false =>
      have hne : (b != c) = true := by simp [bne, hb]
      rw [List.dropWhile_cons, if_pos hne]
      have hge := Lib.indexByte_ge r c
      by_cases hm : Lib.indexByte r c = -1
      · have : (Lib.indexByte r c == -1) = true := by simpa using hm
        simp only [this, if_true, Bool.false_eq_true, if_false]
        exact ⟨fun _ => i1 (by omega), fun h => by omega⟩
      · have : (Lib.indexByte r c == -1) = false := by simpa using hm
        simp only [this, Bool.false_eq_true, if_false]
        refine ⟨fun h => by omega, fun _ => ?_⟩
        obtain ⟨k, h1, h2, h3⟩ := i2 (by omega)
        exact ⟨k + 1, by rw [h1]; rfl, by simp; omega, by simpa using h3⟩
theorem skip_len : ∀ (c : Bool) (l : List UInt8) (n : Int), (skip c l n).1.length ≤ l.length ∧ n ≤ (skip c l n).2 ∧ (skip c l n).2 ≤ n + l.length
  | _, [], n => by simp [skip]
  | true, b :: r, n => by
    unfold skip
    split
    · have := skip_len false r (n + 1); simp only [List.length_cons]; omega
    · have := skip_len true r n; simp only [List.length_cons]; omega
  | false, b :: r, n => by
    unfold skip
    split
    · have := skip_len false r n; simp only [List.length_cons]; omega
    · split
      · have := skip_len false r (n + 1); simp only [List.length_cons]; omega
      · split
        · have := skip_len true r n; simp only [List.length_cons]; omega
        · simp only [List.length_cons]; omega
end Go.Eng.Tk

set_option linter.unusedSimpArgs false
set_option linter.unusedVariables false
namespace Go.Eng.Tk
open Go Go.Eng Go.Proofs

theorem skip_hash {r : List UInt8} (n : Int) : skip false (35 :: r) n = skip true r n := by simp [skip, isBl]
theorem skip_feed {r : List UInt8} (n : Int) : skip false (10 :: r) n = skip false r (n + 1) := by simp [skip, isBl]
theorem skip_stop {l : List UInt8} (n : Int) (h1 : ∀ b r, l = b :: r → isBl b = false ∧ b ≠ 35 ∧ b ≠ 10) : skip false l n = (l, n) := by
  cases l with
  | nil => rfl
  | cons b r =>
    obtain ⟨a, b', c⟩ := h1 b r rfl
    simp [skip, a, b', c]
theorem dw_head {p : UInt8 → Bool} : ∀ {l : List UInt8} {b : UInt8} {r : List UInt8}, l.dropWhile p = b :: r → p b = false
  | [], b, r, h => by simp at h
  | x :: l, b, r, h => by
    rw [List.dropWhile_cons] at h
    split at h
    · exact dw_head h
    · rename_i hx; cases h; simpa using hx
theorem dw_len {p : UInt8 → Bool} (l : List UInt8) : (l.dropWhile p).length ≤ l.length := by
  have := (List.dropWhile_suffix p (l := l)).length_le
  exact this

set_option maxHeartbeats 1000000 in
theorem pass_c {l : List UInt8} {n : Int} (hl : l.length ≤ 1000000) (hn : 0 ≤ n ∧ n ≤ 1000000) {p : Nat} {h : Heap} (hp : h.get p = some (.blk [str l, .int .i64 n] true)) (Q : Value → Heap → Prop)
    (hq : ∀ h', h.leBut p h' → h'.get p = some (.blk [str (skip false l n).1, .int .i64 (skip false l n).2] true) → Q (.tuple #[]) h') : CallW Tryd.prog 32 [.pointer (some ⟨p, 0, none⟩)] h Q := by
  refine call_of0 ok32 rfl rfl rfl fun N => ?_
  rw [show env0 c32 [.pointer (some ⟨p, 0, none⟩)] = [.pointer (some ⟨p, 0, none⟩), undef] from rfl]
  delta c32 c32_r0 c32_r1 c32_r2 c32_r3 c32_r4 c32_r5 c32_r6 c32_r7 c32_r8
  replace hq := Hid.mk hq
  repeat' (first | simp -implicitDefEqProofs only [W_skip, W_reg, W_seq, W_rcond, W_cond, W_block, W_loop, W_exit, W_ret, thenQ_normal, thenQ_exit, thenQ_ret, blockQ_normal, blockQ_ret, blockQ_here, regQ_app, rcQ_app, cndK_t, cndK_f, RegW_nil, RegW_none, RegW_some, contW_app, grdK_tt, grdK_ff, grdK_tf, grdK_ft, grdK_undef, actK_p, actK_r, actK_a, actK_w, actK_call, actK_callV, heapK_app, allocK_app, writeK_app, ret1_ret, ret1_normal, ret0_ret, ret0_normal, ret2_ret2, thenK_app, retcv_ret, retcvK_app, optW_some, evs, Arg.ev, aP, aR, aA, aW, pMov, pBin, pUn, pConv, pPick, pFieldAddr, pNilCheck, pExtract, aBin, aUn, aInt, aNew, partL_f, upd, List.getElem?_cons_zero, List.getElem?_cons_succ, List.getD_cons_zero, List.getD_cons_succ, List.set_cons_zero, List.set_cons_succ, Nat.zero_add, Nat.add_zero, List.getElem?_toArray, List.take_zero, List.drop_zero, List.take_succ_cons, List.drop_succ_cons, if_true, if_false, decide_true, decide_false, Bool.false_eq_true, Bool.true_eq_false, Bool.not_true, Bool.not_false, not_true_eq_false, not_false_eq_true, ge_iff_le, gt_iff_lt, beq_self_eq_true, bne_self_eq_false, and_self, and_true, true_and, Option.isSome_some, Heap.get_alloc_same, Heap.alloc_getE, *] | with_reducible refine cndK_d (fun hc => ?_) (fun hc => ?_) | with_reducible refine grdK_d (fun hc => ?_) (fun hc => ?_) | with_reducible refine cndK_i (fun hc => ?_) (fun hc => ?_) | with_reducible refine grdK_i (fun hc => ?_) (fun hc => ?_))
  have hsl := skip_len false l n
  replace hsl := Hid.mk hsl
  refine LoopW.down (fun k e h1 => ∃ (m : List UInt8) (z : Int) (x1 : Value), m.length = k ∧ h.leBut p h1 ∧ h1.get p = some (.blk [str m, .int .i64 z] true) ∧ skip false l n = skip false m z ∧ 0 ≤ z ∧ z + m.length ≤ n + l.length ∧ e = [.pointer (some ⟨p, 0, none⟩), x1]) ?_ (m := l.length) ⟨l, n, _, rfl, Heap.leBut.refl _ _, hp, rfl, hn.1, Int.le_refl _, rfl⟩
  rintro k _ h1 R ⟨m, z, x1, hmk, hb1, g1, hsk, hz0, hzn, rfl⟩ hR
  clear hp
  have hfin : ∀ h' m', h.leBut p h' → h'.get p = some (.blk [str m', .int .i64 z] true) → skip false l n = (m', z) → Q (.tuple #[]) h' := fun h' m' hb hg hs => by
    refine hq.h h' hb ?_
    rw [hs]; exact hg
  replace hfin := Hid.mk hfin
  clear hq
  have hml : m.length ≤ 2000000 := by omega
  replace hml := Hid.mk hml
  replace hsk := Hid.mk hsk
  replace hzn := Hid.mk hzn
  replace hmk := Hid.mk hmk
  replace hb1 := Hid.mk hb1
  delta c32_l9 c32_r0 c32_r1 c32_r2 c32_r3 c32_r4 c32_r5 c32_r6 c32_r7 c32_r8
  repeat' (first | simp -implicitDefEqProofs only [W_skip, W_reg, W_seq, W_rcond, W_cond, W_block, W_loop, W_exit, W_ret, thenQ_normal, thenQ_exit, thenQ_ret, blockQ_normal, blockQ_ret, blockQ_here, regQ_app, rcQ_app, cndK_t, cndK_f, RegW_nil, RegW_none, RegW_some, contW_app, grdK_tt, grdK_ff, grdK_tf, grdK_ft, grdK_undef, actK_p, actK_r, actK_a, actK_w, actK_call, actK_callV, heapK_app, allocK_app, writeK_app, ret1_ret, ret1_normal, ret0_ret, ret0_normal, ret2_ret2, thenK_app, retcv_ret, retcvK_app, optW_some, evs, Arg.ev, aP, aR, aA, aW, pMov, pBin, pUn, pConv, pPick, pFieldAddr, pNilCheck, pExtract, aBin, aUn, aInt, aNew, partL_f, upd, List.getElem?_cons_zero, List.getElem?_cons_succ, List.getD_cons_zero, List.getD_cons_succ, List.set_cons_zero, List.set_cons_succ, Nat.zero_add, Nat.add_zero, List.getElem?_toArray, List.take_zero, List.drop_zero, List.take_succ_cons, List.drop_succ_cons, if_true, if_false, decide_true, decide_false, Bool.false_eq_true, Bool.true_eq_false, Bool.not_true, Bool.not_false, not_true_eq_false, not_false_eq_true, ge_iff_le, gt_iff_lt, beq_self_eq_true, bne_self_eq_false, and_self, and_true, true_and, Option.isSome_some, Heap.get_alloc_same, Heap.alloc_getE, *] | with_reducible refine cndK_d (fun hc => ?_) (fun hc => ?_) | with_reducible refine grdK_d (fun hc => ?_) (fun hc => ?_) | with_reducible refine cndK_i (fun hc => ?_) (fun hc => ?_) | with_reducible refine grdK_i (fun hc => ?_) (fun hc => ?_))
  refine trimLeft_c (by have := hml.h; omega) _ fun h2 hl2 => ?_
  have g2 := hl2.get g1
  obtain ⟨m1, hm1⟩ : ∃ x, m.dropWhile isBl = x := ⟨_, rfl⟩
  rw [hm1]
  have s2 := wStore_one (v := str m1) (off := 0) g2 (by simp) rfl rfl
  obtain ⟨h3, hh3⟩ : ∃ x, h2.set p (.blk ([str m, .int .i64 z].set 0 (str m1)) true) = x := ⟨_, rfl⟩
  rw [hh3] at s2
  have g3 : h3.get p = some (.blk [str m1, .int .i64 z] true) := by rw [← hh3]; exact Heap.set_getS _ _ _ (by rw [g2]; rfl)
  have hb3 : h1.leBut p h3 := (hl2.but p).trans (by rw [← hh3]; exact Heap.leBut.set _ _ _)
  replace hh3 := Hid.mk hh3
  replace hb3 := Hid.mk hb3
  replace hm1 := Hid.mk hm1
  clear g1 g2
  repeat' (first | simp -implicitDefEqProofs only [W_skip, W_reg, W_seq, W_rcond, W_cond, W_block, W_loop, W_exit, W_ret, thenQ_normal, thenQ_exit, thenQ_ret, blockQ_normal, blockQ_ret, blockQ_here, regQ_app, rcQ_app, cndK_t, cndK_f, RegW_nil, RegW_none, RegW_some, contW_app, grdK_tt, grdK_ff, grdK_tf, grdK_ft, grdK_undef, actK_p, actK_r, actK_a, actK_w, actK_call, actK_callV, heapK_app, allocK_app, writeK_app, ret1_ret, ret1_normal, ret0_ret, ret0_normal, ret2_ret2, thenK_app, retcv_ret, retcvK_app, optW_some, evs, Arg.ev, aP, aR, aA, aW, pMov, pBin, pUn, pConv, pPick, pFieldAddr, pNilCheck, pExtract, aBin, aUn, aInt, aNew, partL_f, upd, List.getElem?_cons_zero, List.getElem?_cons_succ, List.getD_cons_zero, List.getD_cons_succ, List.set_cons_zero, List.set_cons_succ, Nat.zero_add, Nat.add_zero, List.getElem?_toArray, List.take_zero, List.drop_zero, List.take_succ_cons, List.drop_succ_cons, if_true, if_false, decide_true, decide_false, Bool.false_eq_true, Bool.true_eq_false, Bool.not_true, Bool.not_false, not_true_eq_false, not_false_eq_true, ge_iff_le, gt_iff_lt, beq_self_eq_true, bne_self_eq_false, and_self, and_true, true_and, Option.isSome_some, Heap.get_alloc_same, Heap.alloc_getE, *] | with_reducible refine cndK_d (fun hc => ?_) (fun hc => ?_) | with_reducible refine grdK_d (fun hc => ?_) (fun hc => ?_) | with_reducible refine cndK_i (fun hc => ?_) (fun hc => ?_) | with_reducible refine grdK_i (fun hc => ?_) (fun hc => ?_))
  have hsk1 : skip false l n = skip false m1 z := by rw [hsk.h, skip_bl, hm1.h]
  have hm1l : m1.length ≤ m.length := by rw [← hm1.h]; exact dw_len _
  have hm1b : ∀ b r, m1 = b :: r → isBl b = false := fun b r e => dw_head (hm1.h.trans e)
  replace hsk1 := Hid.mk hsk1
  replace hm1l := Hid.mk hm1l
  replace hm1b := Hid.mk hm1b
  refine hasPrefix_c _ _ ?_
  cases hph : ([35] : List UInt8).isPrefixOf m1 with
  | false =>
    have hhd : ∀ b r, m1 = b :: r → isBl b = false ∧ b ≠ 35 := fun b r e => ⟨hm1b.h b r e, fun e2 => by
      rw [e, e2] at hph
      simp [List.isPrefixOf] at hph⟩
    replace hhd := Hid.mk hhd
    have hsk1l := hm1l
    repeat' (first | simp -implicitDefEqProofs only [W_skip, W_reg, W_seq, W_rcond, W_cond, W_block, W_loop, W_exit, W_ret, thenQ_normal, thenQ_exit, thenQ_ret, blockQ_normal, blockQ_ret, blockQ_here, regQ_app, rcQ_app, cndK_t, cndK_f, RegW_nil, RegW_none, RegW_some, contW_app, grdK_tt, grdK_ff, grdK_tf, grdK_ft, grdK_undef, actK_p, actK_r, actK_a, actK_w, actK_call, actK_callV, heapK_app, allocK_app, writeK_app, ret1_ret, ret1_normal, ret0_ret, ret0_normal, ret2_ret2, thenK_app, retcv_ret, retcvK_app, optW_some, evs, Arg.ev, aP, aR, aA, aW, pMov, pBin, pUn, pConv, pPick, pFieldAddr, pNilCheck, pExtract, aBin, aUn, aInt, aNew, partL_f, upd, List.getElem?_cons_zero, List.getElem?_cons_succ, List.getD_cons_zero, List.getD_cons_succ, List.set_cons_zero, List.set_cons_succ, Nat.zero_add, Nat.add_zero, List.getElem?_toArray, List.take_zero, List.drop_zero, List.take_succ_cons, List.drop_succ_cons, if_true, if_false, decide_true, decide_false, Bool.false_eq_true, Bool.true_eq_false, Bool.not_true, Bool.not_false, not_true_eq_false, not_false_eq_true, ge_iff_le, gt_iff_lt, beq_self_eq_true, bne_self_eq_false, and_self, and_true, true_and, Option.isSome_some, Heap.get_alloc_same, Heap.alloc_getE, *] | with_reducible refine cndK_d (fun hc => ?_) (fun hc => ?_) | with_reducible refine grdK_d (fun hc => ?_) (fun hc => ?_) | with_reducible refine cndK_i (fun hc => ?_) (fun hc => ?_) | with_reducible refine grdK_i (fun hc => ?_) (fun hc => ?_))
    refine hasPrefix_c _ _ ?_
    cases hp10 : ([10] : List UInt8).isPrefixOf m1 with
    | false =>
      have hst : skip false l n = (m1, z) := by
        rw [hsk1.h]
        refine skip_stop z fun b r e => ⟨(hhd.h b r e).1, (hhd.h b r e).2, fun e2 => ?_⟩
        rw [e, e2] at hp10
        simp [List.isPrefixOf] at hp10
      replace hst := Hid.mk hst
      repeat' (first | simp -implicitDefEqProofs only [W_skip, W_reg, W_seq, W_rcond, W_cond, W_block, W_loop, W_exit, W_ret, thenQ_normal, thenQ_exit, thenQ_ret, blockQ_normal, blockQ_ret, blockQ_here, regQ_app, rcQ_app, cndK_t, cndK_f, RegW_nil, RegW_none, RegW_some, contW_app, grdK_tt, grdK_ff, grdK_tf, grdK_ft, grdK_undef, actK_p, actK_r, actK_a, actK_w, actK_call, actK_callV, heapK_app, allocK_app, writeK_app, ret1_ret, ret1_normal, ret0_ret, ret0_normal, ret2_ret2, thenK_app, retcv_ret, retcvK_app, optW_some, evs, Arg.ev, aP, aR, aA, aW, pMov, pBin, pUn, pConv, pPick, pFieldAddr, pNilCheck, pExtract, aBin, aUn, aInt, aNew, partL_f, upd, List.getElem?_cons_zero, List.getElem?_cons_succ, List.getD_cons_zero, List.getD_cons_succ, List.set_cons_zero, List.set_cons_succ, Nat.zero_add, Nat.add_zero, List.getElem?_toArray, List.take_zero, List.drop_zero, List.take_succ_cons, List.drop_succ_cons, if_true, if_false, decide_true, decide_false, Bool.false_eq_true, Bool.true_eq_false, Bool.not_true, Bool.not_false, not_true_eq_false, not_false_eq_true, ge_iff_le, gt_iff_lt, beq_self_eq_true, bne_self_eq_false, and_self, and_true, true_and, Option.isSome_some, Heap.get_alloc_same, Heap.alloc_getE, *] | with_reducible refine cndK_d (fun hc => ?_) (fun hc => ?_) | with_reducible refine grdK_d (fun hc => ?_) (fun hc => ?_) | with_reducible refine cndK_i (fun hc => ?_) (fun hc => ?_) | with_reducible refine grdK_i (fun hc => ?_) (fun hc => ?_))
      exact hfin.h _ m1 (hb1.h.trans hb3.h) g3 hst.h
    | true =>
      obtain ⟨r, hr⟩ : ∃ r, m1 = 10 :: r := by
        obtain ⟨t, ht⟩ := List.isPrefixOf_iff_prefix.1 hp10
        exact ⟨t, by rw [← ht]; rfl⟩
      have ct : pSliceStr true false [str m1, .int .i64 1] = some (str r) := by
        have := cutLo_S (l := m1) (n := 1) (by rw [hr]; simp)
        rw [show m1.drop 1 = r by rw [hr]; rfl] at this
        exact this
      have t5 := wStore_one (v := str r) (off := 0) g3 (by simp) rfl rfl
      obtain ⟨h5, hh5⟩ : ∃ x, h3.set p (.blk ([str m1, .int .i64 z].set 0 (str r)) true) = x := ⟨_, rfl⟩
      rw [hh5] at t5
      have g5 : h5.get p = some (.blk [str r, .int .i64 z] true) := by rw [← hh5]; exact Heap.set_getS _ _ _ (by rw [g3]; rfl)
      have hlr : r.length + 1 ≤ m.length := by
        have := hsk1l.h
        rw [hr] at this
        simpa using this
      have hwz : IntKind.i64.wrap (z + 1) = z + 1 := wrapI (by omega) (by have := hzn.h; omega)
      have t6 := wStore_one (v := .int .i64 (z + 1)) (off := 1) g5 (by simp) rfl rfl
      obtain ⟨h6, hh6⟩ : ∃ x, h5.set p (.blk ([str r, .int .i64 z].set 1 (.int .i64 (z + 1))) true) = x := ⟨_, rfl⟩
      rw [hh6] at t6
      have g6 : h6.get p = some (.blk [str r, .int .i64 (z + 1)] true) := by rw [← hh6]; exact Heap.set_getS _ _ _ (by rw [g5]; rfl)
      have hb5 : h3.leBut p h5 := by rw [← hh5]; exact Heap.leBut.set _ _ _
      have hb56 : h5.leBut p h6 := by rw [← hh6]; exact Heap.leBut.set _ _ _
      have hb6 : h.leBut p h6 := ((hb1.h.trans hb3.h).trans hb5).trans hb56
      clear hb5 hb56
      have hsk6 : skip false l n = skip false r (z + 1) := by rw [hsk1.h, hr, skip_feed]
      replace hh5 := Hid.mk hh5
      replace hh6 := Hid.mk hh6
      replace hb6 := Hid.mk hb6
      replace hsk6 := Hid.mk hsk6
      replace hr := Hid.mk hr
      replace hlr := Hid.mk hlr
      repeat' (first | simp -implicitDefEqProofs only [W_skip, W_reg, W_seq, W_rcond, W_cond, W_block, W_loop, W_exit, W_ret, thenQ_normal, thenQ_exit, thenQ_ret, blockQ_normal, blockQ_ret, blockQ_here, regQ_app, rcQ_app, cndK_t, cndK_f, RegW_nil, RegW_none, RegW_some, contW_app, grdK_tt, grdK_ff, grdK_tf, grdK_ft, grdK_undef, actK_p, actK_r, actK_a, actK_w, actK_call, actK_callV, heapK_app, allocK_app, writeK_app, ret1_ret, ret1_normal, ret0_ret, ret0_normal, ret2_ret2, thenK_app, retcv_ret, retcvK_app, optW_some, evs, Arg.ev, aP, aR, aA, aW, pMov, pBin, pUn, pConv, pPick, pFieldAddr, pNilCheck, pExtract, aBin, aUn, aInt, aNew, partL_f, upd, List.getElem?_cons_zero, List.getElem?_cons_succ, List.getD_cons_zero, List.getD_cons_succ, List.set_cons_zero, List.set_cons_succ, Nat.zero_add, Nat.add_zero, List.getElem?_toArray, List.take_zero, List.drop_zero, List.take_succ_cons, List.drop_succ_cons, if_true, if_false, decide_true, decide_false, Bool.false_eq_true, Bool.true_eq_false, Bool.not_true, Bool.not_false, not_true_eq_false, not_false_eq_true, ge_iff_le, gt_iff_lt, beq_self_eq_true, bne_self_eq_false, and_self, and_true, true_and, Option.isSome_some, Heap.get_alloc_same, Heap.alloc_getE, *] | with_reducible refine cndK_d (fun hc => ?_) (fun hc => ?_) | with_reducible refine grdK_d (fun hc => ?_) (fun hc => ?_) | with_reducible refine cndK_i (fun hc => ?_) (fun hc => ?_) | with_reducible refine grdK_i (fun hc => ?_) (fun hc => ?_))
      exact hR.h r.length _ _ (by have := hlr.h; have := hmk.h; omega) ⟨r, z + 1, _, rfl, hb6.h, g6, hsk6.h, by omega, by have := hlr.h; have := hzn.h; omega, rfl⟩
  | true =>
    obtain ⟨r0, hr0⟩ : ∃ r, m1 = 35 :: r := by
      obtain ⟨t, ht⟩ := List.isPrefixOf_iff_prefix.1 hph
      exact ⟨t, by rw [← ht]; rfl⟩
    obtain ⟨m2, hm2⟩ : ∃ x, m1.dropWhile (· != 10) = x := ⟨_, rfl⟩
    have hsk2 : skip false l n = skip false m2 z := by
      rw [hsk1.h, hr0, skip_hash, skip_com, ← hm2, hr0, List.dropWhile_cons, if_pos (by decide)]
    have hsk2l : m2.length ≤ m.length := by
      have := dw_len (p := (· != 10)) m1
      rw [hm2] at this
      exact Nat.le_trans this hm1l.h
    have hhd : ∀ b r, m2 = b :: r → isBl b = false ∧ b ≠ 35 := fun b r e => by
      have h0 := dw_head (hm2.trans e)
      have : b = 10 := by simpa using h0
      subst this; decide
    obtain ⟨ix1, ix2⟩ := idx_drop 10 m1
    rw [hm2] at ix1 ix2
    have ln1 : pLenStr [str m1] = some (.int .i64 m1.length) := len_S m1
    have t4 := wStore_one (v := str m2) (off := 0) g3 (by simp) rfl rfl
    obtain ⟨h4, hh4⟩ : ∃ x, h3.set p (.blk ([str m1, .int .i64 z].set 0 (str m2)) true) = x := ⟨_, rfl⟩
    rw [hh4] at t4
    have g4 : h4.get p = some (.blk [str m2, .int .i64 z] true) := by rw [← hh4]; exact Heap.set_getS _ _ _ (by rw [g3]; rfl)
    have hb4 : h1.leBut p h4 := hb3.h.trans (by rw [← hh4]; exact Heap.leBut.set _ _ _)
    replace hh4 := Hid.mk hh4
    replace hb4 := Hid.mk hb4
    replace hsk2 := Hid.mk hsk2
    replace hsk2l := Hid.mk hsk2l
    replace hhd := Hid.mk hhd
    replace hr0 := Hid.mk hr0
    replace hm2 := Hid.mk hm2
    replace ix1 := Hid.mk ix1
    replace ix2 := Hid.mk ix2
    repeat' (first | simp -implicitDefEqProofs only [W_skip, W_reg, W_seq, W_rcond, W_cond, W_block, W_loop, W_exit, W_ret, thenQ_normal, thenQ_exit, thenQ_ret, blockQ_normal, blockQ_ret, blockQ_here, regQ_app, rcQ_app, cndK_t, cndK_f, RegW_nil, RegW_none, RegW_some, contW_app, grdK_tt, grdK_ff, grdK_tf, grdK_ft, grdK_undef, actK_p, actK_r, actK_a, actK_w, actK_call, actK_callV, heapK_app, allocK_app, writeK_app, ret1_ret, ret1_normal, ret0_ret, ret0_normal, ret2_ret2, thenK_app, retcv_ret, retcvK_app, optW_some, evs, Arg.ev, aP, aR, aA, aW, pMov, pBin, pUn, pConv, pPick, pFieldAddr, pNilCheck, pExtract, aBin, aUn, aInt, aNew, partL_f, upd, List.getElem?_cons_zero, List.getElem?_cons_succ, List.getD_cons_zero, List.getD_cons_succ, List.set_cons_zero, List.set_cons_succ, Nat.zero_add, Nat.add_zero, List.getElem?_toArray, List.take_zero, List.drop_zero, List.take_succ_cons, List.drop_succ_cons, if_true, if_false, decide_true, decide_false, Bool.false_eq_true, Bool.true_eq_false, Bool.not_true, Bool.not_false, not_true_eq_false, not_false_eq_true, ge_iff_le, gt_iff_lt, beq_self_eq_true, bne_self_eq_false, and_self, and_true, true_and, Option.isSome_some, Heap.get_alloc_same, Heap.alloc_getE, *] | with_reducible refine cndK_d (fun hc => ?_) (fun hc => ?_) | with_reducible refine grdK_d (fun hc => ?_) (fun hc => ?_) | with_reducible refine cndK_i (fun hc => ?_) (fun hc => ?_) | with_reducible refine grdK_i (fun hc => ?_) (fun hc => ?_))
    refine indexByte_c _ _ _ ?_
    rw [show (10 : Int).toNat.toUInt8 = 10 from rfl]
    by_cases hneg : Lib.indexByte m1 10 < 0
    · have ct : pSliceStr true false [str m1, .int .i64 (m1.length : Int)] = some (str m2) := by
        have := cutLo_S (l := m1) (n := m1.length) (Nat.le_refl _)
        rw [List.drop_length] at this
        rw [ix1.h hneg]
        exact this
      repeat' (first | simp -implicitDefEqProofs only [W_skip, W_reg, W_seq, W_rcond, W_cond, W_block, W_loop, W_exit, W_ret, thenQ_normal, thenQ_exit, thenQ_ret, blockQ_normal, blockQ_ret, blockQ_here, regQ_app, rcQ_app, cndK_t, cndK_f, RegW_nil, RegW_none, RegW_some, contW_app, grdK_tt, grdK_ff, grdK_tf, grdK_ft, grdK_undef, actK_p, actK_r, actK_a, actK_w, actK_call, actK_callV, heapK_app, allocK_app, writeK_app, ret1_ret, ret1_normal, ret0_ret, ret0_normal, ret2_ret2, thenK_app, retcv_ret, retcvK_app, optW_some, evs, Arg.ev, aP, aR, aA, aW, pMov, pBin, pUn, pConv, pPick, pFieldAddr, pNilCheck, pExtract, aBin, aUn, aInt, aNew, partL_f, upd, List.getElem?_cons_zero, List.getElem?_cons_succ, List.getD_cons_zero, List.getD_cons_succ, List.set_cons_zero, List.set_cons_succ, Nat.zero_add, Nat.add_zero, List.getElem?_toArray, List.take_zero, List.drop_zero, List.take_succ_cons, List.drop_succ_cons, if_true, if_false, decide_true, decide_false, Bool.false_eq_true, Bool.true_eq_false, Bool.not_true, Bool.not_false, not_true_eq_false, not_false_eq_true, ge_iff_le, gt_iff_lt, beq_self_eq_true, bne_self_eq_false, and_self, and_true, true_and, Option.isSome_some, Heap.get_alloc_same, Heap.alloc_getE, *] | with_reducible refine cndK_d (fun hc => ?_) (fun hc => ?_) | with_reducible refine grdK_d (fun hc => ?_) (fun hc => ?_) | with_reducible refine cndK_i (fun hc => ?_) (fun hc => ?_) | with_reducible refine grdK_i (fun hc => ?_) (fun hc => ?_))
      refine hasPrefix_c _ _ ?_
      cases hp10 : ([10] : List UInt8).isPrefixOf m2 with
      | false =>
        have hst : skip false l n = (m2, z) := by
          rw [hsk2.h]
          refine skip_stop z fun b r e => ⟨(hhd.h b r e).1, (hhd.h b r e).2, fun e2 => ?_⟩
          rw [e, e2] at hp10
          simp [List.isPrefixOf] at hp10
        replace hst := Hid.mk hst
        repeat' (first | simp -implicitDefEqProofs only [W_skip, W_reg, W_seq, W_rcond, W_cond, W_block, W_loop, W_exit, W_ret, thenQ_normal, thenQ_exit, thenQ_ret, blockQ_normal, blockQ_ret, blockQ_here, regQ_app, rcQ_app, cndK_t, cndK_f, RegW_nil, RegW_none, RegW_some, contW_app, grdK_tt, grdK_ff, grdK_tf, grdK_ft, grdK_undef, actK_p, actK_r, actK_a, actK_w, actK_call, actK_callV, heapK_app, allocK_app, writeK_app, ret1_ret, ret1_normal, ret0_ret, ret0_normal, ret2_ret2, thenK_app, retcv_ret, retcvK_app, optW_some, evs, Arg.ev, aP, aR, aA, aW, pMov, pBin, pUn, pConv, pPick, pFieldAddr, pNilCheck, pExtract, aBin, aUn, aInt, aNew, partL_f, upd, List.getElem?_cons_zero, List.getElem?_cons_succ, List.getD_cons_zero, List.getD_cons_succ, List.set_cons_zero, List.set_cons_succ, Nat.zero_add, Nat.add_zero, List.getElem?_toArray, List.take_zero, List.drop_zero, List.take_succ_cons, List.drop_succ_cons, if_true, if_false, decide_true, decide_false, Bool.false_eq_true, Bool.true_eq_false, Bool.not_true, Bool.not_false, not_true_eq_false, not_false_eq_true, ge_iff_le, gt_iff_lt, beq_self_eq_true, bne_self_eq_false, and_self, and_true, true_and, Option.isSome_some, Heap.get_alloc_same, Heap.alloc_getE, *] | with_reducible refine cndK_d (fun hc => ?_) (fun hc => ?_) | with_reducible refine grdK_d (fun hc => ?_) (fun hc => ?_) | with_reducible refine cndK_i (fun hc => ?_) (fun hc => ?_) | with_reducible refine grdK_i (fun hc => ?_) (fun hc => ?_))
        exact hfin.h _ m2 (hb1.h.trans hb4.h) g4 hst.h
      | true =>
        obtain ⟨r, hr⟩ : ∃ r, m2 = 10 :: r := by
          obtain ⟨t, ht⟩ := List.isPrefixOf_iff_prefix.1 hp10
          exact ⟨t, by rw [← ht]; rfl⟩
        have ct : pSliceStr true false [str m2, .int .i64 1] = some (str r) := by
          have := cutLo_S (l := m2) (n := 1) (by rw [hr]; simp)
          rw [show m2.drop 1 = r by rw [hr]; rfl] at this
          exact this
        have t5 := wStore_one (v := str r) (off := 0) g4 (by simp) rfl rfl
        obtain ⟨h5, hh5⟩ : ∃ x, h4.set p (.blk ([str m2, .int .i64 z].set 0 (str r)) true) = x := ⟨_, rfl⟩
        rw [hh5] at t5
        have g5 : h5.get p = some (.blk [str r, .int .i64 z] true) := by rw [← hh5]; exact Heap.set_getS _ _ _ (by rw [g4]; rfl)
        have hlr : r.length + 1 ≤ m.length := by
          have := hsk2l.h
          rw [hr] at this
          simpa using this
        have hwz : IntKind.i64.wrap (z + 1) = z + 1 := wrapI (by omega) (by have := hzn.h; omega)
        have t6 := wStore_one (v := .int .i64 (z + 1)) (off := 1) g5 (by simp) rfl rfl
        obtain ⟨h6, hh6⟩ : ∃ x, h5.set p (.blk ([str r, .int .i64 z].set 1 (.int .i64 (z + 1))) true) = x := ⟨_, rfl⟩
        rw [hh6] at t6
        have g6 : h6.get p = some (.blk [str r, .int .i64 (z + 1)] true) := by rw [← hh6]; exact Heap.set_getS _ _ _ (by rw [g5]; rfl)
        have hb5 : h4.leBut p h5 := by rw [← hh5]; exact Heap.leBut.set _ _ _
        have hb56 : h5.leBut p h6 := by rw [← hh6]; exact Heap.leBut.set _ _ _
        have hb6 : h.leBut p h6 := ((hb1.h.trans hb4.h).trans hb5).trans hb56
        clear hb5 hb56
        have hsk6 : skip false l n = skip false r (z + 1) := by rw [hsk2.h, hr, skip_feed]
        replace hh5 := Hid.mk hh5
        replace hh6 := Hid.mk hh6
        replace hb6 := Hid.mk hb6
        replace hsk6 := Hid.mk hsk6
        replace hr := Hid.mk hr
        replace hlr := Hid.mk hlr
        repeat' (first | simp -implicitDefEqProofs only [W_skip, W_reg, W_seq, W_rcond, W_cond, W_block, W_loop, W_exit, W_ret, thenQ_normal, thenQ_exit, thenQ_ret, blockQ_normal, blockQ_ret, blockQ_here, regQ_app, rcQ_app, cndK_t, cndK_f, RegW_nil, RegW_none, RegW_some, contW_app, grdK_tt, grdK_ff, grdK_tf, grdK_ft, grdK_undef, actK_p, actK_r, actK_a, actK_w, actK_call, actK_callV, heapK_app, allocK_app, writeK_app, ret1_ret, ret1_normal, ret0_ret, ret0_normal, ret2_ret2, thenK_app, retcv_ret, retcvK_app, optW_some, evs, Arg.ev, aP, aR, aA, aW, pMov, pBin, pUn, pConv, pPick, pFieldAddr, pNilCheck, pExtract, aBin, aUn, aInt, aNew, partL_f, upd, List.getElem?_cons_zero, List.getElem?_cons_succ, List.getD_cons_zero, List.getD_cons_succ, List.set_cons_zero, List.set_cons_succ, Nat.zero_add, Nat.add_zero, List.getElem?_toArray, List.take_zero, List.drop_zero, List.take_succ_cons, List.drop_succ_cons, if_true, if_false, decide_true, decide_false, Bool.false_eq_true, Bool.true_eq_false, Bool.not_true, Bool.not_false, not_true_eq_false, not_false_eq_true, ge_iff_le, gt_iff_lt, beq_self_eq_true, bne_self_eq_false, and_self, and_true, true_and, Option.isSome_some, Heap.get_alloc_same, Heap.alloc_getE, *] | with_reducible refine cndK_d (fun hc => ?_) (fun hc => ?_) | with_reducible refine grdK_d (fun hc => ?_) (fun hc => ?_) | with_reducible refine cndK_i (fun hc => ?_) (fun hc => ?_) | with_reducible refine grdK_i (fun hc => ?_) (fun hc => ?_))
        exact hR.h r.length _ _ (by have := hlr.h; have := hmk.h; omega) ⟨r, z + 1, _, rfl, hb6.h, g6, hsk6.h, by omega, by have := hlr.h; have := hzn.h; omega, rfl⟩
    · obtain ⟨k, hk1, hk2, hk3⟩ := ix2.h hneg
      rw [hk1] at hneg ⊢
      have ct : pSliceStr true false [str m1, .int .i64 (k : Int)] = some (str m2) := by
        have := cutLo_S (l := m1) (n := k) hk2
        rw [hk3] at this
        exact this
      clear hk1 hk3
      repeat' (first | simp -implicitDefEqProofs only [W_skip, W_reg, W_seq, W_rcond, W_cond, W_block, W_loop, W_exit, W_ret, thenQ_normal, thenQ_exit, thenQ_ret, blockQ_normal, blockQ_ret, blockQ_here, regQ_app, rcQ_app, cndK_t, cndK_f, RegW_nil, RegW_none, RegW_some, contW_app, grdK_tt, grdK_ff, grdK_tf, grdK_ft, grdK_undef, actK_p, actK_r, actK_a, actK_w, actK_call, actK_callV, heapK_app, allocK_app, writeK_app, ret1_ret, ret1_normal, ret0_ret, ret0_normal, ret2_ret2, thenK_app, retcv_ret, retcvK_app, optW_some, evs, Arg.ev, aP, aR, aA, aW, pMov, pBin, pUn, pConv, pPick, pFieldAddr, pNilCheck, pExtract, aBin, aUn, aInt, aNew, partL_f, upd, List.getElem?_cons_zero, List.getElem?_cons_succ, List.getD_cons_zero, List.getD_cons_succ, List.set_cons_zero, List.set_cons_succ, Nat.zero_add, Nat.add_zero, List.getElem?_toArray, List.take_zero, List.drop_zero, List.take_succ_cons, List.drop_succ_cons, if_true, if_false, decide_true, decide_false, Bool.false_eq_true, Bool.true_eq_false, Bool.not_true, Bool.not_false, not_true_eq_false, not_false_eq_true, ge_iff_le, gt_iff_lt, beq_self_eq_true, bne_self_eq_false, and_self, and_true, true_and, Option.isSome_some, Heap.get_alloc_same, Heap.alloc_getE, *] | with_reducible refine cndK_d (fun hc => ?_) (fun hc => ?_) | with_reducible refine grdK_d (fun hc => ?_) (fun hc => ?_) | with_reducible refine cndK_i (fun hc => ?_) (fun hc => ?_) | with_reducible refine grdK_i (fun hc => ?_) (fun hc => ?_))
      refine hasPrefix_c _ _ ?_
      cases hp10 : ([10] : List UInt8).isPrefixOf m2 with
      | false =>
        have hst : skip false l n = (m2, z) := by
          rw [hsk2.h]
          refine skip_stop z fun b r e => ⟨(hhd.h b r e).1, (hhd.h b r e).2, fun e2 => ?_⟩
          rw [e, e2] at hp10
          simp [List.isPrefixOf] at hp10
        replace hst := Hid.mk hst
        repeat' (first | simp -implicitDefEqProofs only [W_skip, W_reg, W_seq, W_rcond, W_cond, W_block, W_loop, W_exit, W_ret, thenQ_normal, thenQ_exit, thenQ_ret, blockQ_normal, blockQ_ret, blockQ_here, regQ_app, rcQ_app, cndK_t, cndK_f, RegW_nil, RegW_none, RegW_some, contW_app, grdK_tt, grdK_ff, grdK_tf, grdK_ft, grdK_undef, actK_p, actK_r, actK_a, actK_w, actK_call, actK_callV, heapK_app, allocK_app, writeK_app, ret1_ret, ret1_normal, ret0_ret, ret0_normal, ret2_ret2, thenK_app, retcv_ret, retcvK_app, optW_some, evs, Arg.ev, aP, aR, aA, aW, pMov, pBin, pUn, pConv, pPick, pFieldAddr, pNilCheck, pExtract, aBin, aUn, aInt, aNew, partL_f, upd, List.getElem?_cons_zero, List.getElem?_cons_succ, List.getD_cons_zero, List.getD_cons_succ, List.set_cons_zero, List.set_cons_succ, Nat.zero_add, Nat.add_zero, List.getElem?_toArray, List.take_zero, List.drop_zero, List.take_succ_cons, List.drop_succ_cons, if_true, if_false, decide_true, decide_false, Bool.false_eq_true, Bool.true_eq_false, Bool.not_true, Bool.not_false, not_true_eq_false, not_false_eq_true, ge_iff_le, gt_iff_lt, beq_self_eq_true, bne_self_eq_false, and_self, and_true, true_and, Option.isSome_some, Heap.get_alloc_same, Heap.alloc_getE, *] | with_reducible refine cndK_d (fun hc => ?_) (fun hc => ?_) | with_reducible refine grdK_d (fun hc => ?_) (fun hc => ?_) | with_reducible refine cndK_i (fun hc => ?_) (fun hc => ?_) | with_reducible refine grdK_i (fun hc => ?_) (fun hc => ?_))
        exact hfin.h _ m2 (hb1.h.trans hb4.h) g4 hst.h
      | true =>
        obtain ⟨r, hr⟩ : ∃ r, m2 = 10 :: r := by
          obtain ⟨t, ht⟩ := List.isPrefixOf_iff_prefix.1 hp10
          exact ⟨t, by rw [← ht]; rfl⟩
        have ct : pSliceStr true false [str m2, .int .i64 1] = some (str r) := by
          have := cutLo_S (l := m2) (n := 1) (by rw [hr]; simp)
          rw [show m2.drop 1 = r by rw [hr]; rfl] at this
          exact this
        have t5 := wStore_one (v := str r) (off := 0) g4 (by simp) rfl rfl
        obtain ⟨h5, hh5⟩ : ∃ x, h4.set p (.blk ([str m2, .int .i64 z].set 0 (str r)) true) = x := ⟨_, rfl⟩
        rw [hh5] at t5
        have g5 : h5.get p = some (.blk [str r, .int .i64 z] true) := by rw [← hh5]; exact Heap.set_getS _ _ _ (by rw [g4]; rfl)
        have hlr : r.length + 1 ≤ m.length := by
          have := hsk2l.h
          rw [hr] at this
          simpa using this
        have hwz : IntKind.i64.wrap (z + 1) = z + 1 := wrapI (by omega) (by have := hzn.h; omega)
        have t6 := wStore_one (v := .int .i64 (z + 1)) (off := 1) g5 (by simp) rfl rfl
        obtain ⟨h6, hh6⟩ : ∃ x, h5.set p (.blk ([str r, .int .i64 z].set 1 (.int .i64 (z + 1))) true) = x := ⟨_, rfl⟩
        rw [hh6] at t6
        have g6 : h6.get p = some (.blk [str r, .int .i64 (z + 1)] true) := by rw [← hh6]; exact Heap.set_getS _ _ _ (by rw [g5]; rfl)
        have hb5 : h4.leBut p h5 := by rw [← hh5]; exact Heap.leBut.set _ _ _
        have hb56 : h5.leBut p h6 := by rw [← hh6]; exact Heap.leBut.set _ _ _
        have hb6 : h.leBut p h6 := ((hb1.h.trans hb4.h).trans hb5).trans hb56
        clear hb5 hb56
        have hsk6 : skip false l n = skip false r (z + 1) := by rw [hsk2.h, hr, skip_feed]
        replace hh5 := Hid.mk hh5
        replace hh6 := Hid.mk hh6
        replace hb6 := Hid.mk hb6
        replace hsk6 := Hid.mk hsk6
        replace hr := Hid.mk hr
        replace hlr := Hid.mk hlr
        repeat' (first | simp -implicitDefEqProofs only [W_skip, W_reg, W_seq, W_rcond, W_cond, W_block, W_loop, W_exit, W_ret, thenQ_normal, thenQ_exit, thenQ_ret, blockQ_normal, blockQ_ret, blockQ_here, regQ_app, rcQ_app, cndK_t, cndK_f, RegW_nil, RegW_none, RegW_some, contW_app, grdK_tt, grdK_ff, grdK_tf, grdK_ft, grdK_undef, actK_p, actK_r, actK_a, actK_w, actK_call, actK_callV, heapK_app, allocK_app, writeK_app, ret1_ret, ret1_normal, ret0_ret, ret0_normal, ret2_ret2, thenK_app, retcv_ret, retcvK_app, optW_some, evs, Arg.ev, aP, aR, aA, aW, pMov, pBin, pUn, pConv, pPick, pFieldAddr, pNilCheck, pExtract, aBin, aUn, aInt, aNew, partL_f, upd, List.getElem?_cons_zero, List.getElem?_cons_succ, List.getD_cons_zero, List.getD_cons_succ, List.set_cons_zero, List.set_cons_succ, Nat.zero_add, Nat.add_zero, List.getElem?_toArray, List.take_zero, List.drop_zero, List.take_succ_cons, List.drop_succ_cons, if_true, if_false, decide_true, decide_false, Bool.false_eq_true, Bool.true_eq_false, Bool.not_true, Bool.not_false, not_true_eq_false, not_false_eq_true, ge_iff_le, gt_iff_lt, beq_self_eq_true, bne_self_eq_false, and_self, and_true, true_and, Option.isSome_some, Heap.get_alloc_same, Heap.alloc_getE, *] | with_reducible refine cndK_d (fun hc => ?_) (fun hc => ?_) | with_reducible refine grdK_d (fun hc => ?_) (fun hc => ?_) | with_reducible refine cndK_i (fun hc => ?_) (fun hc => ?_) | with_reducible refine grdK_i (fun hc => ?_) (fun hc => ?_))
        exact hR.h r.length _ _ (by have := hlr.h; have := hmk.h; omega) ⟨r, z + 1, _, rfl, hb6.h, g6, hsk6.h, by omega, by have := hlr.h; have := hzn.h; omega, rfl⟩
end Go.Eng.Tk

set_option linter.unusedSimpArgs false
set_option linter.unusedVariables false
namespace Go.Eng.Tk
open Go Go.Eng Go.Proofs

def cutPre (p l : List UInt8) : List UInt8 × Bool := if p.isPrefixOf l then (l.drop p.length, true) else (l, false)
theorem cutPrefix_c {l p : List UInt8} (h : Heap) (Q : Value → Heap → Prop) (hq : Q (.tuple #[str (cutPre p l).1, .bool (cutPre p l).2]) h) : CallW Tryd.prog 39 [str l, str p] h Q := by
  refine call_of2 (k := 2) (j := 3) ok39 rfl rfl rfl fun N => ?_
  rw [show env0 c39 [str l, str p] = [str l, str p, undef, undef] from rfl]
  delta c39 c39_r0 c39_r1
  replace hq := Hid.mk hq
  repeat' (first | simp -implicitDefEqProofs only [W_skip, W_reg, W_seq, W_rcond, W_cond, W_block, W_loop, W_exit, W_ret, thenQ_normal, thenQ_exit, thenQ_ret, blockQ_normal, blockQ_ret, blockQ_here, regQ_app, rcQ_app, cndK_t, cndK_f, RegW_nil, RegW_none, RegW_some, contW_app, grdK_tt, grdK_ff, grdK_tf, grdK_ft, grdK_undef, actK_p, actK_r, actK_a, actK_w, actK_call, actK_callV, heapK_app, allocK_app, writeK_app, ret1_ret, ret1_normal, ret0_ret, ret0_normal, ret2_ret2, thenK_app, retcv_ret, retcvK_app, optW_some, evs, Arg.ev, aP, aR, aA, aW, pMov, pBin, pUn, pConv, pPick, pFieldAddr, pNilCheck, pExtract, aBin, aUn, aInt, aNew, partL_f, upd, List.getElem?_cons_zero, List.getElem?_cons_succ, List.getD_cons_zero, List.getD_cons_succ, List.set_cons_zero, List.set_cons_succ, Nat.zero_add, Nat.add_zero, List.getElem?_toArray, List.take_zero, List.drop_zero, List.take_succ_cons, List.drop_succ_cons, if_true, if_false, decide_true, decide_false, Bool.false_eq_true, Bool.true_eq_false, Bool.not_true, Bool.not_false, not_true_eq_false, not_false_eq_true, ge_iff_le, gt_iff_lt, beq_self_eq_true, bne_self_eq_false, and_self, and_true, true_and, Option.isSome_some, Heap.get_alloc_same, Heap.alloc_getE, *] | with_reducible refine cndK_d (fun hc => ?_) (fun hc => ?_) | with_reducible refine grdK_d (fun hc => ?_) (fun hc => ?_) | with_reducible refine cndK_i (fun hc => ?_) (fun hc => ?_) | with_reducible refine grdK_i (fun hc => ?_) (fun hc => ?_))
  refine call_of2 (k := 2) (j := 3) ok48 rfl rfl rfl fun N => ?_
  rw [show env0 c48 [str l, str p] = [str l, str p, undef, undef] from rfl]
  delta c48 c48_r0 c48_r1 c48_r2 c48_r3
  replace hq := Hid.mk hq
  repeat' (first | simp -implicitDefEqProofs only [W_skip, W_reg, W_seq, W_rcond, W_cond, W_block, W_loop, W_exit, W_ret, thenQ_normal, thenQ_exit, thenQ_ret, blockQ_normal, blockQ_ret, blockQ_here, regQ_app, rcQ_app, cndK_t, cndK_f, RegW_nil, RegW_none, RegW_some, contW_app, grdK_tt, grdK_ff, grdK_tf, grdK_ft, grdK_undef, actK_p, actK_r, actK_a, actK_w, actK_call, actK_callV, heapK_app, allocK_app, writeK_app, ret1_ret, ret1_normal, ret0_ret, ret0_normal, ret2_ret2, thenK_app, retcv_ret, retcvK_app, optW_some, evs, Arg.ev, aP, aR, aA, aW, pMov, pBin, pUn, pConv, pPick, pFieldAddr, pNilCheck, pExtract, aBin, aUn, aInt, aNew, partL_f, upd, List.getElem?_cons_zero, List.getElem?_cons_succ, List.getD_cons_zero, List.getD_cons_succ, List.set_cons_zero, List.set_cons_succ, Nat.zero_add, Nat.add_zero, List.getElem?_toArray, List.take_zero, List.drop_zero, List.take_succ_cons, List.drop_succ_cons, if_true, if_false, decide_true, decide_false, Bool.false_eq_true, Bool.true_eq_false, Bool.not_true, Bool.not_false, not_true_eq_false, not_false_eq_true, ge_iff_le, gt_iff_lt, beq_self_eq_true, bne_self_eq_false, and_self, and_true, true_and, Option.isSome_some, Heap.get_alloc_same, Heap.alloc_getE, *] | with_reducible refine cndK_d (fun hc => ?_) (fun hc => ?_) | with_reducible refine grdK_d (fun hc => ?_) (fun hc => ?_) | with_reducible refine cndK_i (fun hc => ?_) (fun hc => ?_) | with_reducible refine grdK_i (fun hc => ?_) (fun hc => ?_))
  refine hasPrefix0_c h _ ?_
  replace hq := hq.h
  cases hp : p.isPrefixOf l with
  | true =>
    have hc : cutPre p l = (l.drop p.length, true) := by simp [cutPre, hp]
    have hle := (List.isPrefixOf_iff_prefix.1 hp).length_le
    have ct := cutLo_S hle
    rw [hc] at hq
    replace hc := Hid.mk hc
    repeat' (first | simp -implicitDefEqProofs only [W_skip, W_reg, W_seq, W_rcond, W_cond, W_block, W_loop, W_exit, W_ret, thenQ_normal, thenQ_exit, thenQ_ret, blockQ_normal, blockQ_ret, blockQ_here, regQ_app, rcQ_app, cndK_t, cndK_f, RegW_nil, RegW_none, RegW_some, contW_app, grdK_tt, grdK_ff, grdK_tf, grdK_ft, grdK_undef, actK_p, actK_r, actK_a, actK_w, actK_call, actK_callV, heapK_app, allocK_app, writeK_app, ret1_ret, ret1_normal, ret0_ret, ret0_normal, ret2_ret2, thenK_app, retcv_ret, retcvK_app, optW_some, evs, Arg.ev, aP, aR, aA, aW, pMov, pBin, pUn, pConv, pPick, pFieldAddr, pNilCheck, pExtract, aBin, aUn, aInt, aNew, partL_f, upd, List.getElem?_cons_zero, List.getElem?_cons_succ, List.getD_cons_zero, List.getD_cons_succ, List.set_cons_zero, List.set_cons_succ, Nat.zero_add, Nat.add_zero, List.getElem?_toArray, List.take_zero, List.drop_zero, List.take_succ_cons, List.drop_succ_cons, if_true, if_false, decide_true, decide_false, Bool.false_eq_true, Bool.true_eq_false, Bool.not_true, Bool.not_false, not_true_eq_false, not_false_eq_true, ge_iff_le, gt_iff_lt, beq_self_eq_true, bne_self_eq_false, and_self, and_true, true_and, Option.isSome_some, Heap.get_alloc_same, Heap.alloc_getE, len_S, pExtract, *] | with_reducible refine cndK_d (fun hc => ?_) (fun hc => ?_) | with_reducible refine grdK_d (fun hc => ?_) (fun hc => ?_) | with_reducible refine cndK_i (fun hc => ?_) (fun hc => ?_) | with_reducible refine grdK_i (fun hc => ?_) (fun hc => ?_))
    exact hq.h
  | false =>
    have hc : cutPre p l = (l, false) := by simp [cutPre, hp]
    rw [hc] at hq
    replace hc := Hid.mk hc
    repeat' (first | simp -implicitDefEqProofs only [W_skip, W_reg, W_seq, W_rcond, W_cond, W_block, W_loop, W_exit, W_ret, thenQ_normal, thenQ_exit, thenQ_ret, blockQ_normal, blockQ_ret, blockQ_here, regQ_app, rcQ_app, cndK_t, cndK_f, RegW_nil, RegW_none, RegW_some, contW_app, grdK_tt, grdK_ff, grdK_tf, grdK_ft, grdK_undef, actK_p, actK_r, actK_a, actK_w, actK_call, actK_callV, heapK_app, allocK_app, writeK_app, ret1_ret, ret1_normal, ret0_ret, ret0_normal, ret2_ret2, thenK_app, retcv_ret, retcvK_app, optW_some, evs, Arg.ev, aP, aR, aA, aW, pMov, pBin, pUn, pConv, pPick, pFieldAddr, pNilCheck, pExtract, aBin, aUn, aInt, aNew, partL_f, upd, List.getElem?_cons_zero, List.getElem?_cons_succ, List.getD_cons_zero, List.getD_cons_succ, List.set_cons_zero, List.set_cons_succ, Nat.zero_add, Nat.add_zero, List.getElem?_toArray, List.take_zero, List.drop_zero, List.take_succ_cons, List.drop_succ_cons, if_true, if_false, decide_true, decide_false, Bool.false_eq_true, Bool.true_eq_false, Bool.not_true, Bool.not_false, not_true_eq_false, not_false_eq_true, ge_iff_le, gt_iff_lt, beq_self_eq_true, bne_self_eq_false, and_self, and_true, true_and, Option.isSome_some, Heap.get_alloc_same, Heap.alloc_getE, len_S, pExtract, *] | with_reducible refine cndK_d (fun hc => ?_) (fun hc => ?_) | with_reducible refine grdK_d (fun hc => ?_) (fun hc => ?_) | with_reducible refine cndK_i (fun hc => ?_) (fun hc => ?_) | with_reducible refine grdK_i (fun hc => ?_) (fun hc => ?_))
    exact hq.h

/-- a token -/
structure Tok where
  kind : Int
  text : List UInt8
  n : Int
  line : Int
def Tok.cells (t : Tok) : List Value := [.int .i64 t.kind, str t.text, .int .i64 t.n, .int .i64 t.line]
def Tok.val (t : Tok) : Value := .agg #[.int .i64 t.kind, str t.text, .int .i64 t.n, .int .i64 t.line]
end Go.Eng.Tk

set_option linter.unusedSimpArgs false
set_option linter.unusedVariables false
namespace Go.Eng.Tk
open Go Go.Eng Go.Proofs

theorem Tok.box (t : Tok) : aBox [t.val] = some (t.cells, fun id => .pointer (some ⟨id, 0, none⟩)) := by simp [aBox, Tok.val, Tok.cells, Value.cells, Value.oneCell']
theorem part_tok (a c d : Int) (b : List UInt8) : partL true 0 4 [.int .i64 a, str b, .int .i64 c, .int .i64 d] = some (Tok.val ⟨a, b, c, d⟩) := by simp [partL, Tok.val]

set_option maxHeartbeats 1000000 in
/-- a token is taken -/
theorem take_c {l : List UInt8} {n : Int} {t : Tok} (hpre : t.text.length ≤ l.length) {p : Nat} {h : Heap} (hp : h.get p = some (.blk [str l, .int .i64 n] true)) (Q : Value → Heap → Prop)
    (hq : ∀ h', h.leBut p h' → h'.get p = some (.blk [str (l.drop t.text.length), .int .i64 n] true) → Q (Tok.val { t with line := n }) h') : CallW Tryd.prog 34 [.pointer (some ⟨p, 0, none⟩), t.val] h Q := by
  obtain ⟨q, hqq⟩ : ∃ x, h.next = x := ⟨_, rfl⟩
  have hpq : p < q := by rw [← hqq]; exact Heap.lt_of_get hp
  have bx := t.box
  obtain ⟨h1, hh1⟩ : ∃ x, h.alloc (.blk t.cells true) = x := ⟨_, rfl⟩
  have hn1 : h1.next = q + 1 := by rw [← hh1, Heap.next_alloc, hqq]
  obtain ⟨h2, hh2⟩ : ∃ x, h1.alloc (.blk [.int .i64 0, .string ⟨#[]⟩, .int .i64 0, .int .i64 0] true) = x := ⟨_, rfl⟩
  have l1 : h.le h1 := by rw [← hh1]; exact (Heap.le.refl _).alloc _
  have l2 : h1.le h2 := by rw [← hh2]; exact (Heap.le.refl _).alloc _
  have gp2 := l2.get (l1.get hp)
  have gq2 : h2.get q = some (.blk t.cells true) := l2.get (by rw [← hh1, ← hqq]; exact Heap.get_alloc_same _ _)
  have gr2 : h2.get (q + 1) = some (.blk [.int .i64 0, .string ⟨#[]⟩, .int .i64 0, .int .i64 0] true) := by rw [← hh2, ← hn1]; exact Heap.get_alloc_same _ _
  refine call_ofc (k := 3) (agg := true) (size := 4) ok34 rfl rfl rfl fun N => ?_
  rw [show env0 c34 [.pointer (some ⟨p, 0, none⟩), t.val] = [.pointer (some ⟨p, 0, none⟩), t.val, undef, undef] from rfl]
  delta c34 c34_r0 c34_r1 c34_r2 c34_r3
  replace hq := Hid.mk hq
  have s2 := wStore_int (k := .i64) (z := n) (off := 3) gq2 (by simp [Tok.cells])
  obtain ⟨h3, hh3⟩ : ∃ x, h2.set q (.blk (t.cells.set 3 (.int .i64 n)) true) = x := ⟨_, rfl⟩
  rw [hh3] at s2
  have gq3 : h3.get q = some (.blk [.int .i64 t.kind, str t.text, .int .i64 t.n, .int .i64 n] true) := by rw [← hh3]; exact Heap.set_getS _ _ _ (by rw [gq2]; rfl)
  have gp3 : h3.get p = some (.blk [str l, .int .i64 n] true) := by rw [← hh3, Heap.set_getE _ _ _ _ (by simp; omega)]; exact gp2
  have gr3 : h3.get (q + 1) = some (.blk [.int .i64 0, .string ⟨#[]⟩, .int .i64 0, .int .i64 0] true) := by rw [← hh3, Heap.set_getE _ _ _ _ (by simp)]; exact gr2
  have ct := cutLo_S hpre
  have s4 := wStore_one (v := str (l.drop t.text.length)) (off := 0) gp3 (by simp) rfl rfl
  obtain ⟨h4, hh4⟩ : ∃ x, h3.set p (.blk ([str l, .int .i64 n].set 0 (str (l.drop t.text.length))) true) = x := ⟨_, rfl⟩
  rw [hh4] at s4
  have gp4 : h4.get p = some (.blk [str (l.drop t.text.length), .int .i64 n] true) := by rw [← hh4]; exact Heap.set_getS _ _ _ (by rw [gp3]; rfl)
  have gq4 : h4.get q = some (.blk [.int .i64 t.kind, str t.text, .int .i64 t.n, .int .i64 n] true) := by rw [← hh4, Heap.set_getE _ _ _ _ (by simp; omega)]; exact gq3
  have gr4 : h4.get (q + 1) = some (.blk [.int .i64 0, .string ⟨#[]⟩, .int .i64 0, .int .i64 0] true) := by rw [← hh4, Heap.set_getE _ _ _ _ (by simp; omega)]; exact gr3
  have s5 : wStore 4 h4 [.pointer (some ⟨q + 1, 0, none⟩), Tok.val { t with line := n }] = some (undef, h4.set (q + 1) (.blk (Tok.cells { t with line := n }) true)) := wStore_all gr4 rfl rfl rfl rfl
  obtain ⟨h5, hh5⟩ : ∃ x, h4.set (q + 1) (.blk (Tok.cells { t with line := n }) true) = x := ⟨_, rfl⟩
  rw [hh5] at s5
  have gr5 : h5.get (q + 1) = some (.blk [.int .i64 t.kind, str t.text, .int .i64 t.n, .int .i64 n] true) := by rw [← hh5]; exact Heap.set_getS _ _ _ (by rw [gr4]; rfl)
  have gp5 : h5.get p = some (.blk [str (l.drop t.text.length), .int .i64 n] true) := by rw [← hh5, Heap.set_getE _ _ _ _ (by simp; omega)]; exact gp4
  have pt := part_tok t.kind t.n n t.text
  have lb : h.leBut p h5 := by
    refine ⟨fun j hj hs => ?_, ?_⟩
    · obtain ⟨o, ho⟩ := Option.isSome_iff_exists.1 hs
      have hlt := Heap.lt_of_get ho
      rw [← hh5, Heap.set_getE _ _ _ _ (by simp; omega), ← hh4, Heap.set_getE _ _ _ _ (by simpa using hj), ← hh3, Heap.set_getE _ _ _ _ (by simp; omega)]
      exact (l1.trans l2).getE j hs
    · rw [← hh5, ← hh4, ← hh3]
      exact (l1.trans l2).next
  replace hh3 := Hid.mk hh3
  replace hh4 := Hid.mk hh4
  replace hh5 := Hid.mk hh5
  clear gr2
  have fin := hq.h h5 lb gp5
  replace fin := Hid.mk fin
  clear hq
  repeat' (first | simp -implicitDefEqProofs only [W_skip, W_reg, W_seq, W_rcond, W_cond, W_block, W_loop, W_exit, W_ret, thenQ_normal, thenQ_exit, thenQ_ret, blockQ_normal, blockQ_ret, blockQ_here, regQ_app, rcQ_app, cndK_t, cndK_f, RegW_nil, RegW_none, RegW_some, contW_app, grdK_tt, grdK_ff, grdK_tf, grdK_ft, grdK_undef, actK_p, actK_r, actK_a, actK_w, actK_call, actK_callV, heapK_app, allocK_app, writeK_app, ret1_ret, ret1_normal, ret0_ret, ret0_normal, ret2_ret2, thenK_app, retcv_ret, retcvK_app, optW_some, evs, Arg.ev, aP, aR, aA, aW, pMov, pBin, pUn, pConv, pPick, pFieldAddr, pNilCheck, pExtract, aBin, aUn, aInt, aNew, partL_f, upd, List.getElem?_cons_zero, List.getElem?_cons_succ, List.getD_cons_zero, List.getD_cons_succ, List.set_cons_zero, List.set_cons_succ, Nat.zero_add, Nat.add_zero, List.getElem?_toArray, List.take_zero, List.drop_zero, List.take_succ_cons, List.drop_succ_cons, if_true, if_false, decide_true, decide_false, Bool.false_eq_true, Bool.true_eq_false, Bool.not_true, Bool.not_false, not_true_eq_false, not_false_eq_true, ge_iff_le, gt_iff_lt, beq_self_eq_true, bne_self_eq_false, and_self, and_true, true_and, Option.isSome_some, Heap.get_alloc_same, Heap.alloc_getE, len_S, retc_ret, retcK_app, *] | with_reducible refine cndK_d (fun hc => ?_) (fun hc => ?_) | with_reducible refine grdK_d (fun hc => ?_) (fun hc => ?_) | with_reducible refine cndK_i (fun hc => ?_) (fun hc => ?_) | with_reducible refine grdK_i (fun hc => ?_) (fun hc => ?_))
  exact fin.h
end Go.Eng.Tk

