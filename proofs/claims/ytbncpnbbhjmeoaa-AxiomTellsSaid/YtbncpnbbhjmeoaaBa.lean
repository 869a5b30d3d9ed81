/-
  Part of a proof of the laws of layer 12 (axiom): what each function does.
  Conditions: none.
-/
import Derived.Test.YtbncpnbbhjmeoaaC
import Derived.Test.YtbncpnbbhjmeoaaEc
set_option linter.unusedSimpArgs false
set_option linter.unusedVariables false
namespace Go.Eng.Ax
open Go Go.Eng Go.Proofs

structure Ev where
  hart : Int
  kind : Int
  at' : Int
  n : Int
  deriving DecidableEq, Inhabited
def Ev.cells (e : Ev) : List Value := [.int .i64 e.hart, .int .i64 e.kind, .int .i64 e.at', .int .i64 e.n]
def Ev.val (e : Ev) : Value := .agg #[.int .i64 e.hart, .int .i64 e.kind, .int .i64 e.at', .int .i64 e.n]
def Ev.acc (e : Ev) : Bool := e.kind == 1 || e.kind == 2
def Evs (h : Heap) (v : Value) (l : List Ev) : Prop := SlV h 4 v (l.map Ev.cells)
def Ints (h : Heap) (v : Value) (l : List Int) : Prop := SlV h 1 v (l.map fun z => [.int .i64 z])

theorem Evs.mono {h h' : Heap} (hl : h.le h') {v : Value} {l : List Ev} (ha : Evs h v l) : Evs h' v l := SlV.mono hl ha
theorem Ints.mono {h h' : Heap} (hl : h.le h') {v : Value} {l : List Int} (ha : Ints h v l) : Ints h' v l := SlV.mono hl ha
theorem Evs.len {h : Heap} {v : Value} {l : List Ev} (ha : Evs h v l) : pLenS [v] = some (.int .i64 l.length) := by simpa using SlV.len ha
theorem Ints.len {h : Heap} {v : Value} {l : List Int} (ha : Ints h v l) : pLenS [v] = some (.int .i64 l.length) := by simpa using SlV.len ha
theorem Evs.elem {h : Heap} {v : Value} {l : List Ev} (ha : Evs h v l) {i : Nat} {e : Ev} (hi : l[i]? = some e) :
    ∃ id off cells own, pIdxAddrS 4 [v, .int .i64 i] = some (.pointer (some ⟨id, off, none⟩)) ∧ h.get id = some (.blk cells own) ∧ partL true off 4 cells = some e.val ∧
      cells[off]? = some (.int .i64 e.hart) ∧ cells[off + 1]? = some (.int .i64 e.kind) ∧ cells[off + 2]? = some (.int .i64 e.at') ∧ cells[off + 3]? = some (.int .i64 e.n) := by
  obtain ⟨id, off, cells, own, h1, h2, h3, h4⟩ := SlV.elem ha (i := i) (x := e.cells) (by simp [hi])
  exact ⟨id, off, cells, own, h1, h2, h3, h4 0 (by omega), h4 1 (by omega), h4 2 (by omega), h4 3 (by omega)⟩
theorem Ints.elem {h : Heap} {v : Value} {l : List Int} (ha : Ints h v l) {i : Nat} {z : Int} (hi : l[i]? = some z) :
    ∃ id off cells own, pIdxAddrS 1 [v, .int .i64 i] = some (.pointer (some ⟨id, off, none⟩)) ∧ h.get id = some (.blk cells own) ∧ cells[off]? = some (.int .i64 z) ∧ True := by
  obtain ⟨id, off, cells, own, h1, h2, h3, h4⟩ := SlV.elem ha (i := i) (x := [.int .i64 z]) (by simp [hi])
  exact ⟨id, off, cells, own, h1, h2, h4 0 (by omega), trivial⟩
theorem Ev.box (e : Ev) : aBox [e.val] = some ([.int .i64 e.hart, .int .i64 e.kind, .int .i64 e.at', .int .i64 e.n], fun id => .pointer (some ⟨id, 0, none⟩)) := by simp [aBox, Ev.val, Ev.cells, Value.cells, Value.oneCell']
theorem Ev.part (e : Ev) : partL true 0 4 [.int .i64 e.hart, .int .i64 e.kind, .int .i64 e.at', .int .i64 e.n] = some e.val := by simp [partL, Ev.val]
theorem wrapI {z : Int} (h1 : -9223372036854775808 ≤ z) (h2 : z ≤ 9223372036854775807) : IntKind.i64.wrap z = z := by
  simp [IntKind.wrap, IntKind.signed, IntKind.bits]; omega


theorem isAccess_c (e : Ev) (h : Heap) (Q : Value → Heap → Prop) (hq : ∀ v h', v = .bool e.acc → h.le h' → Q v h') : CallW Try.prog 31 [e.val] h Q := by
  refine call_of1 (k := 2) ok31 rfl rfl rfl fun N => ?_
  rw [show env0 c31 [e.val] = [e.val, undef, undef] from rfl]
  delta c31 c31_r0 c31_r1
  replace hq := Hid.mk hq
  repeat' (first | simp -implicitDefEqProofs only [W_skip, W_reg, W_seq, W_rcond, W_cond, W_block, W_loop, W_exit, W_ret, thenQ_normal, thenQ_exit, thenQ_ret, blockQ_normal, blockQ_ret, blockQ_here, regQ_app, rcQ_app, cndK_t, cndK_f, RegW_nil, RegW_none, RegW_some, contW_app, grdK_tt, grdK_ff, grdK_tf, grdK_ft, grdK_undef, actK_p, actK_r, actK_a, actK_w, actK_call, actK_callV, heapK_app, allocK_app, writeK_app, ret1_ret, ret1_normal, ret0_ret, ret0_normal, ret2_ret2, thenK_app, retcv_ret, retcvK_app, optW_some, evs, Arg.ev, aP, aR, aA, aW, pMov, pBin, pUn, pConv, pPick, pFieldAddr, pNilCheck, pExtract, aBin, aUn, aInt, aNew, partL_f, upd, List.getElem?_cons_zero, List.getElem?_cons_succ, List.getD_cons_zero, List.getD_cons_succ, List.set_cons_zero, List.set_cons_succ, Nat.zero_add, Nat.add_zero, List.getElem?_toArray, List.take_zero, List.drop_zero, List.take_succ_cons, List.drop_succ_cons, if_true, if_false, decide_true, decide_false, Bool.false_eq_true, Bool.true_eq_false, Bool.not_true, Bool.not_false, not_true_eq_false, not_false_eq_true, ge_iff_le, gt_iff_lt, beq_self_eq_true, bne_self_eq_false, and_self, and_true, true_and, Option.isSome_some, Heap.get_alloc_same, Heap.alloc_getE, Ev.box, *] | with_reducible refine cndK_d (fun hc => ?_) (fun hc => ?_) | with_reducible refine grdK_d (fun hc => ?_) (fun hc => ?_) | with_reducible refine cndK_i (fun hc => ?_) (fun hc => ?_) | with_reducible refine grdK_i (fun hc => ?_) (fun hc => ?_))
  all_goals refine hq.h _ _ (by clear hq; simp [Ev.acc, *]) ((Heap.le.refl h).alloc _)

/-- mayBe -/
def Ev.may (e : Ev) : Bool := !(e.kind == 3 && (e.at' != 0 || e.n != 0)) && (decide (0 ≤ e.hart) && decide (e.hart < 4) && decide (1 ≤ e.kind) && decide (e.kind ≤ 3) && decide (0 ≤ e.at') && decide (e.at' < 4) && (e.n == IntKind.i64.wrap (IntKind.i32.wrap e.n)))
theorem mayBe_c (e : Ev) (h : Heap) (Q : Value → Heap → Prop) (hq : ∀ v h', v = .bool e.may → h.le h' → Q v h') : CallW Try.prog 38 [e.val] h Q := by
  refine call_of1 (k := 2) ok38 rfl rfl rfl fun N => ?_
  rw [show env0 c38 [e.val] = [e.val, undef, undef] from rfl]
  delta c38 c38_r0 c38_r1 c38_r2 c38_r3
  replace hq := Hid.mk hq
  repeat' (first | simp -implicitDefEqProofs only [W_skip, W_reg, W_seq, W_rcond, W_cond, W_block, W_loop, W_exit, W_ret, thenQ_normal, thenQ_exit, thenQ_ret, blockQ_normal, blockQ_ret, blockQ_here, regQ_app, rcQ_app, cndK_t, cndK_f, RegW_nil, RegW_none, RegW_some, contW_app, grdK_tt, grdK_ff, grdK_tf, grdK_ft, grdK_undef, actK_p, actK_r, actK_a, actK_w, actK_call, actK_callV, heapK_app, allocK_app, writeK_app, ret1_ret, ret1_normal, ret0_ret, ret0_normal, ret2_ret2, thenK_app, retcv_ret, retcvK_app, optW_some, evs, Arg.ev, aP, aR, aA, aW, pMov, pBin, pUn, pConv, pPick, pFieldAddr, pNilCheck, pExtract, aBin, aUn, aInt, aNew, partL_f, upd, List.getElem?_cons_zero, List.getElem?_cons_succ, List.getD_cons_zero, List.getD_cons_succ, List.set_cons_zero, List.set_cons_succ, Nat.zero_add, Nat.add_zero, List.getElem?_toArray, List.take_zero, List.drop_zero, List.take_succ_cons, List.drop_succ_cons, if_true, if_false, decide_true, decide_false, Bool.false_eq_true, Bool.true_eq_false, Bool.not_true, Bool.not_false, not_true_eq_false, not_false_eq_true, ge_iff_le, gt_iff_lt, beq_self_eq_true, bne_self_eq_false, and_self, and_true, true_and, Option.isSome_some, Heap.get_alloc_same, Heap.alloc_getE, Ev.box, *] | with_reducible refine cndK_d (fun hc => ?_) (fun hc => ?_) | with_reducible refine grdK_d (fun hc => ?_) (fun hc => ?_) | with_reducible refine cndK_i (fun hc => ?_) (fun hc => ?_) | with_reducible refine grdK_i (fun hc => ?_) (fun hc => ?_))
  all_goals refine hq.h _ _ (by clear hq; simp only [Ev.may, *]; try simp) ((Heap.le.refl h).alloc _)

/-- Right's closure -/
theorem right1_c (e : Ev) (h : Heap) (Q : Value → Heap → Prop) (hq : ∀ v h', v = .bool (!e.may) → h.le h' → Q v h') : CallW Try.prog 37 [e.val] h Q := by
  refine call_of1 (k := 2) ok37 rfl rfl rfl fun N => ?_
  rw [show env0 c37 [e.val] = [e.val, undef, undef] from rfl]
  delta c37 c37_r0 c37_r1
  replace hq := Hid.mk hq
  repeat' (first | simp -implicitDefEqProofs only [W_skip, W_reg, W_seq, W_rcond, W_cond, W_block, W_loop, W_exit, W_ret, thenQ_normal, thenQ_exit, thenQ_ret, blockQ_normal, blockQ_ret, blockQ_here, regQ_app, rcQ_app, cndK_t, cndK_f, RegW_nil, RegW_none, RegW_some, contW_app, grdK_tt, grdK_ff, grdK_tf, grdK_ft, grdK_undef, actK_p, actK_r, actK_a, actK_w, actK_call, actK_callV, heapK_app, allocK_app, writeK_app, ret1_ret, ret1_normal, ret0_ret, ret0_normal, ret2_ret2, thenK_app, retcv_ret, retcvK_app, optW_some, evs, Arg.ev, aP, aR, aA, aW, pMov, pBin, pUn, pConv, pPick, pFieldAddr, pNilCheck, pExtract, aBin, aUn, aInt, aNew, partL_f, upd, List.getElem?_cons_zero, List.getElem?_cons_succ, List.getD_cons_zero, List.getD_cons_succ, List.set_cons_zero, List.set_cons_succ, Nat.zero_add, Nat.add_zero, List.getElem?_toArray, List.take_zero, List.drop_zero, List.take_succ_cons, List.drop_succ_cons, if_true, if_false, decide_true, decide_false, Bool.false_eq_true, Bool.true_eq_false, Bool.not_true, Bool.not_false, not_true_eq_false, not_false_eq_true, ge_iff_le, gt_iff_lt, beq_self_eq_true, bne_self_eq_false, and_self, and_true, true_and, Option.isSome_some, Heap.get_alloc_same, Heap.alloc_getE, Ev.box, Ev.part, *] | with_reducible refine cndK_d (fun hc => ?_) (fun hc => ?_) | with_reducible refine grdK_d (fun hc => ?_) (fun hc => ?_) | with_reducible refine cndK_i (fun hc => ?_) (fun hc => ?_) | with_reducible refine grdK_i (fun hc => ?_) (fun hc => ?_))
  refine mayBe_c e _ _ fun v h' hv hl' => ?_
  subst hv
  repeat' (first | simp -implicitDefEqProofs only [W_skip, W_reg, W_seq, W_rcond, W_cond, W_block, W_loop, W_exit, W_ret, thenQ_normal, thenQ_exit, thenQ_ret, blockQ_normal, blockQ_ret, blockQ_here, regQ_app, rcQ_app, cndK_t, cndK_f, RegW_nil, RegW_none, RegW_some, contW_app, grdK_tt, grdK_ff, grdK_tf, grdK_ft, grdK_undef, actK_p, actK_r, actK_a, actK_w, actK_call, actK_callV, heapK_app, allocK_app, writeK_app, ret1_ret, ret1_normal, ret0_ret, ret0_normal, ret2_ret2, thenK_app, retcv_ret, retcvK_app, optW_some, evs, Arg.ev, aP, aR, aA, aW, pMov, pBin, pUn, pConv, pPick, pFieldAddr, pNilCheck, pExtract, aBin, aUn, aInt, aNew, partL_f, upd, List.getElem?_cons_zero, List.getElem?_cons_succ, List.getD_cons_zero, List.getD_cons_succ, List.set_cons_zero, List.set_cons_succ, Nat.zero_add, Nat.add_zero, List.getElem?_toArray, List.take_zero, List.drop_zero, List.take_succ_cons, List.drop_succ_cons, if_true, if_false, decide_true, decide_false, Bool.false_eq_true, Bool.true_eq_false, Bool.not_true, Bool.not_false, not_true_eq_false, not_false_eq_true, ge_iff_le, gt_iff_lt, beq_self_eq_true, bne_self_eq_false, and_self, and_true, true_and, Option.isSome_some, Heap.get_alloc_same, Heap.alloc_getE, *] | with_reducible refine cndK_d (fun hc => ?_) (fun hc => ?_) | with_reducible refine grdK_d (fun hc => ?_) (fun hc => ?_) | with_reducible refine cndK_i (fun hc => ?_) (fun hc => ?_) | with_reducible refine grdK_i (fun hc => ?_) (fun hc => ?_))
  exact hq.h _ _ rfl (((Heap.le.refl h).alloc _).trans hl')


theorem indexFuncEv_c {v fv : Value} {l : List Ev} {p : Ev → Bool} {h0 h : Heap} (hv : Evs h0 v l) (hh : h0.le h) (hl63 : (l.length : Int) ≤ 9223372036854775807)
    (hf : ∀ e ∈ l, ∀ h1 Q, h.le h1 → (∀ v h', v = .bool (p e) → h1.le h' → Q v h') → ValW Try.prog fv [Ev.val e] h1 Q) (Q : Value → Heap → Prop)
    (hq : ∀ v h', v = .int .i64 (match l.findIdx? p with | some i => (i : Int) | none => -1) → h.le h' → Q v h') : CallW Try.prog 50 [v, fv] h Q := by
  refine call_of1 (k := 2) ok50 rfl rfl rfl fun N => ?_
  rw [show env0 c50 [v, fv] = [v, fv, undef, undef, undef, undef, undef] from rfl]
  delta c50 c50_r0 c50_r1 c50_r2 c50_r3 c50_r4 c50_r5 c50_r6 c50_r8
  replace hq := Hid.mk hq
  repeat' (first | simp -implicitDefEqProofs only [W_skip, W_reg, W_seq, W_rcond, W_cond, W_block, W_loop, W_exit, W_ret, thenQ_normal, thenQ_exit, thenQ_ret, blockQ_normal, blockQ_ret, blockQ_here, regQ_app, rcQ_app, cndK_t, cndK_f, RegW_nil, RegW_none, RegW_some, contW_app, grdK_tt, grdK_ff, grdK_tf, grdK_ft, grdK_undef, actK_p, actK_r, actK_a, actK_w, actK_call, actK_callV, heapK_app, allocK_app, writeK_app, ret1_ret, ret1_normal, ret0_ret, ret0_normal, ret2_ret2, thenK_app, retcv_ret, retcvK_app, optW_some, evs, Arg.ev, aP, aR, aA, aW, pMov, pBin, pUn, pConv, pPick, pFieldAddr, pNilCheck, pExtract, aBin, aUn, aInt, aNew, partL_f, upd, List.getElem?_cons_zero, List.getElem?_cons_succ, List.getD_cons_zero, List.getD_cons_succ, List.set_cons_zero, List.set_cons_succ, Nat.zero_add, Nat.add_zero, List.getElem?_toArray, List.take_zero, List.drop_zero, List.take_succ_cons, List.drop_succ_cons, if_true, if_false, decide_true, decide_false, Bool.false_eq_true, Bool.true_eq_false, Bool.not_true, Bool.not_false, not_true_eq_false, not_false_eq_true, ge_iff_le, gt_iff_lt, beq_self_eq_true, bne_self_eq_false, and_self, and_true, true_and, Option.isSome_some, Heap.get_alloc_same, Heap.alloc_getE, hv.len, *] | with_reducible refine cndK_d (fun hc => ?_) (fun hc => ?_) | with_reducible refine grdK_d (fun hc => ?_) (fun hc => ?_) | with_reducible refine cndK_i (fun hc => ?_) (fun hc => ?_) | with_reducible refine grdK_i (fun hc => ?_) (fun hc => ?_))
  refine LoopW.upto l.length (fun i e h1 => h.le h1 ∧ (∀ j e, j < i → l[j]? = some e → p e = false) ∧ ∃ x3 x6, e = [v, fv, .int .i64 0, x3, .int .i64 l.length, .int .i64 i, x6]) ?_ (Nat.zero_le _) ⟨Heap.le.refl h, by intro j e hj; omega, _, _, rfl⟩
  rintro i _ h1 R hi ⟨hl1, hp, x3, x6, rfl⟩ hR
  delta c50_l7 c50_r0 c50_r1 c50_r2 c50_r3 c50_r4 c50_r5 c50_r6 c50_r8
  by_cases hlt : i < l.length
  · have hlt' : (i : Int) < l.length := by omega
    obtain ⟨e, he⟩ : ∃ e, l[i]? = some e := ⟨_, List.getElem?_eq_getElem hlt⟩
    obtain ⟨id, off, cells, own, e1, e2, e3, _⟩ := (hv.mono (hh.trans hl1)).elem he
    have hw : IntKind.i64.wrap ((i : Int) + 1) = ((i + 1 : Nat) : Int) := by rw [wrapI (by omega) (by omega)]; rfl
    repeat' (first | simp -implicitDefEqProofs only [W_skip, W_reg, W_seq, W_rcond, W_cond, W_block, W_loop, W_exit, W_ret, thenQ_normal, thenQ_exit, thenQ_ret, blockQ_normal, blockQ_ret, blockQ_here, regQ_app, rcQ_app, cndK_t, cndK_f, RegW_nil, RegW_none, RegW_some, contW_app, grdK_tt, grdK_ff, grdK_tf, grdK_ft, grdK_undef, actK_p, actK_r, actK_a, actK_w, actK_call, actK_callV, heapK_app, allocK_app, writeK_app, ret1_ret, ret1_normal, ret0_ret, ret0_normal, ret2_ret2, thenK_app, retcv_ret, retcvK_app, optW_some, evs, Arg.ev, aP, aR, aA, aW, pMov, pBin, pUn, pConv, pPick, pFieldAddr, pNilCheck, pExtract, aBin, aUn, aInt, aNew, partL_f, upd, List.getElem?_cons_zero, List.getElem?_cons_succ, List.getD_cons_zero, List.getD_cons_succ, List.set_cons_zero, List.set_cons_succ, Nat.zero_add, Nat.add_zero, List.getElem?_toArray, List.take_zero, List.drop_zero, List.take_succ_cons, List.drop_succ_cons, if_true, if_false, decide_true, decide_false, Bool.false_eq_true, Bool.true_eq_false, Bool.not_true, Bool.not_false, not_true_eq_false, not_false_eq_true, ge_iff_le, gt_iff_lt, beq_self_eq_true, bne_self_eq_false, and_self, and_true, true_and, Option.isSome_some, Heap.get_alloc_same, Heap.alloc_getE, *] | with_reducible refine cndK_d (fun hc => ?_) (fun hc => ?_) | with_reducible refine grdK_d (fun hc => ?_) (fun hc => ?_) | with_reducible refine cndK_i (fun hc => ?_) (fun hc => ?_) | with_reducible refine grdK_i (fun hc => ?_) (fun hc => ?_))
    refine hf e (List.mem_of_getElem? he) h1 _ hl1 fun v2 h2 hv2 hl2 => ?_
    subst hv2
    cases hpe : p e with
    | true =>
      repeat' (first | simp -implicitDefEqProofs only [W_skip, W_reg, W_seq, W_rcond, W_cond, W_block, W_loop, W_exit, W_ret, thenQ_normal, thenQ_exit, thenQ_ret, blockQ_normal, blockQ_ret, blockQ_here, regQ_app, rcQ_app, cndK_t, cndK_f, RegW_nil, RegW_none, RegW_some, contW_app, grdK_tt, grdK_ff, grdK_tf, grdK_ft, grdK_undef, actK_p, actK_r, actK_a, actK_w, actK_call, actK_callV, heapK_app, allocK_app, writeK_app, ret1_ret, ret1_normal, ret0_ret, ret0_normal, ret2_ret2, thenK_app, retcv_ret, retcvK_app, optW_some, evs, Arg.ev, aP, aR, aA, aW, pMov, pBin, pUn, pConv, pPick, pFieldAddr, pNilCheck, pExtract, aBin, aUn, aInt, aNew, partL_f, upd, List.getElem?_cons_zero, List.getElem?_cons_succ, List.getD_cons_zero, List.getD_cons_succ, List.set_cons_zero, List.set_cons_succ, Nat.zero_add, Nat.add_zero, List.getElem?_toArray, List.take_zero, List.drop_zero, List.take_succ_cons, List.drop_succ_cons, if_true, if_false, decide_true, decide_false, Bool.false_eq_true, Bool.true_eq_false, Bool.not_true, Bool.not_false, not_true_eq_false, not_false_eq_true, ge_iff_le, gt_iff_lt, beq_self_eq_true, bne_self_eq_false, and_self, and_true, true_and, Option.isSome_some, Heap.get_alloc_same, Heap.alloc_getE, *] | with_reducible refine cndK_d (fun hc => ?_) (fun hc => ?_) | with_reducible refine grdK_d (fun hc => ?_) (fun hc => ?_) | with_reducible refine cndK_i (fun hc => ?_) (fun hc => ?_) | with_reducible refine grdK_i (fun hc => ?_) (fun hc => ?_))
      refine hq.h _ _ ?_ (hl1.trans hl2)
      have : l.findIdx? p = some i := by
        rw [List.findIdx?_eq_some_iff_getElem]
        refine ⟨hlt, by rw [List.getElem?_eq_getElem hlt] at he; cases he; exact hpe, fun j hj => ?_⟩
        have := hp j l[j] hj (List.getElem?_eq_getElem _)
        simp [this]
      rw [this]
    | false =>
      repeat' (first | simp -implicitDefEqProofs only [W_skip, W_reg, W_seq, W_rcond, W_cond, W_block, W_loop, W_exit, W_ret, thenQ_normal, thenQ_exit, thenQ_ret, blockQ_normal, blockQ_ret, blockQ_here, regQ_app, rcQ_app, cndK_t, cndK_f, RegW_nil, RegW_none, RegW_some, contW_app, grdK_tt, grdK_ff, grdK_tf, grdK_ft, grdK_undef, actK_p, actK_r, actK_a, actK_w, actK_call, actK_callV, heapK_app, allocK_app, writeK_app, ret1_ret, ret1_normal, ret0_ret, ret0_normal, ret2_ret2, thenK_app, retcv_ret, retcvK_app, optW_some, evs, Arg.ev, aP, aR, aA, aW, pMov, pBin, pUn, pConv, pPick, pFieldAddr, pNilCheck, pExtract, aBin, aUn, aInt, aNew, partL_f, upd, List.getElem?_cons_zero, List.getElem?_cons_succ, List.getD_cons_zero, List.getD_cons_succ, List.set_cons_zero, List.set_cons_succ, Nat.zero_add, Nat.add_zero, List.getElem?_toArray, List.take_zero, List.drop_zero, List.take_succ_cons, List.drop_succ_cons, if_true, if_false, decide_true, decide_false, Bool.false_eq_true, Bool.true_eq_false, Bool.not_true, Bool.not_false, not_true_eq_false, not_false_eq_true, ge_iff_le, gt_iff_lt, beq_self_eq_true, bne_self_eq_false, and_self, and_true, true_and, Option.isSome_some, Heap.get_alloc_same, Heap.alloc_getE, *] | with_reducible refine cndK_d (fun hc => ?_) (fun hc => ?_) | with_reducible refine grdK_d (fun hc => ?_) (fun hc => ?_) | with_reducible refine cndK_i (fun hc => ?_) (fun hc => ?_) | with_reducible refine grdK_i (fun hc => ?_) (fun hc => ?_))
      refine hR.h _ _ hlt ⟨hl1.trans hl2, fun j e' hj hje => ?_, _, _, rfl⟩
      by_cases hji : j = i
      · subst hji; rw [he] at hje; cases hje; exact hpe
      · exact hp j e' (by omega) hje
  · have hlt' : ¬ (i : Int) < l.length := by omega
    have hnone : l.findIdx? p = none := by
      rw [List.findIdx?_eq_none_iff]
      intro e he
      obtain ⟨j, hj⟩ := List.mem_iff_getElem?.1 he
      exact hp j e (by have := (List.getElem?_eq_some_iff.1 hj).1; omega) hj
    repeat' (first | simp -implicitDefEqProofs only [W_skip, W_reg, W_seq, W_rcond, W_cond, W_block, W_loop, W_exit, W_ret, thenQ_normal, thenQ_exit, thenQ_ret, blockQ_normal, blockQ_ret, blockQ_here, regQ_app, rcQ_app, cndK_t, cndK_f, RegW_nil, RegW_none, RegW_some, contW_app, grdK_tt, grdK_ff, grdK_tf, grdK_ft, grdK_undef, actK_p, actK_r, actK_a, actK_w, actK_call, actK_callV, heapK_app, allocK_app, writeK_app, ret1_ret, ret1_normal, ret0_ret, ret0_normal, ret2_ret2, thenK_app, retcv_ret, retcvK_app, optW_some, evs, Arg.ev, aP, aR, aA, aW, pMov, pBin, pUn, pConv, pPick, pFieldAddr, pNilCheck, pExtract, aBin, aUn, aInt, aNew, partL_f, upd, List.getElem?_cons_zero, List.getElem?_cons_succ, List.getD_cons_zero, List.getD_cons_succ, List.set_cons_zero, List.set_cons_succ, Nat.zero_add, Nat.add_zero, List.getElem?_toArray, List.take_zero, List.drop_zero, List.take_succ_cons, List.drop_succ_cons, if_true, if_false, decide_true, decide_false, Bool.false_eq_true, Bool.true_eq_false, Bool.not_true, Bool.not_false, not_true_eq_false, not_false_eq_true, ge_iff_le, gt_iff_lt, beq_self_eq_true, bne_self_eq_false, and_self, and_true, true_and, Option.isSome_some, Heap.get_alloc_same, Heap.alloc_getE, *] | with_reducible refine cndK_d (fun hc => ?_) (fun hc => ?_) | with_reducible refine grdK_d (fun hc => ?_) (fun hc => ?_) | with_reducible refine cndK_i (fun hc => ?_) (fun hc => ?_) | with_reducible refine grdK_i (fun hc => ?_) (fun hc => ?_))
    exact hq.h _ _ (by rw [hnone]) hl1

/-- slices.ContainsFunc -/
theorem containsEv_c {v fv : Value} {l : List Ev} {p : Ev → Bool} {h0 h : Heap} (hv : Evs h0 v l) (hh : h0.le h) (hl63 : (l.length : Int) ≤ 9223372036854775807)
    (hf : ∀ e ∈ l, ∀ h1 Q, h.le h1 → (∀ v h', v = .bool (p e) → h1.le h' → Q v h') → ValW Try.prog fv [Ev.val e] h1 Q) (Q : Value → Heap → Prop)
    (hq : ∀ v h', v = .bool (l.any p) → h.le h' → Q v h') : CallW Try.prog 36 [v, fv] h Q := by
  refine call_of1 (k := 2) ok36 rfl rfl rfl fun N => ?_
  rw [show env0 c36 [v, fv] = [v, fv, undef] from rfl]
  delta c36 c36_r0 c36_r1
  replace hq := Hid.mk hq
  repeat' (first | simp -implicitDefEqProofs only [W_skip, W_reg, W_seq, W_rcond, W_cond, W_block, W_loop, W_exit, W_ret, thenQ_normal, thenQ_exit, thenQ_ret, blockQ_normal, blockQ_ret, blockQ_here, regQ_app, rcQ_app, cndK_t, cndK_f, RegW_nil, RegW_none, RegW_some, contW_app, grdK_tt, grdK_ff, grdK_tf, grdK_ft, grdK_undef, actK_p, actK_r, actK_a, actK_w, actK_call, actK_callV, heapK_app, allocK_app, writeK_app, ret1_ret, ret1_normal, ret0_ret, ret0_normal, ret2_ret2, thenK_app, retcv_ret, retcvK_app, optW_some, evs, Arg.ev, aP, aR, aA, aW, pMov, pBin, pUn, pConv, pPick, pFieldAddr, pNilCheck, pExtract, aBin, aUn, aInt, aNew, partL_f, upd, List.getElem?_cons_zero, List.getElem?_cons_succ, List.getD_cons_zero, List.getD_cons_succ, List.set_cons_zero, List.set_cons_succ, Nat.zero_add, Nat.add_zero, List.getElem?_toArray, List.take_zero, List.drop_zero, List.take_succ_cons, List.drop_succ_cons, if_true, if_false, decide_true, decide_false, Bool.false_eq_true, Bool.true_eq_false, Bool.not_true, Bool.not_false, not_true_eq_false, not_false_eq_true, ge_iff_le, gt_iff_lt, beq_self_eq_true, bne_self_eq_false, and_self, and_true, true_and, Option.isSome_some, Heap.get_alloc_same, Heap.alloc_getE, *] | with_reducible refine cndK_d (fun hc => ?_) (fun hc => ?_) | with_reducible refine grdK_d (fun hc => ?_) (fun hc => ?_) | with_reducible refine cndK_i (fun hc => ?_) (fun hc => ?_) | with_reducible refine grdK_i (fun hc => ?_) (fun hc => ?_))
  refine indexFuncEv_c hv hh hl63 hf _ fun v h' hv' hl' => ?_
  subst hv'
  repeat' (first | simp -implicitDefEqProofs only [W_skip, W_reg, W_seq, W_rcond, W_cond, W_block, W_loop, W_exit, W_ret, thenQ_normal, thenQ_exit, thenQ_ret, blockQ_normal, blockQ_ret, blockQ_here, regQ_app, rcQ_app, cndK_t, cndK_f, RegW_nil, RegW_none, RegW_some, contW_app, grdK_tt, grdK_ff, grdK_tf, grdK_ft, grdK_undef, actK_p, actK_r, actK_a, actK_w, actK_call, actK_callV, heapK_app, allocK_app, writeK_app, ret1_ret, ret1_normal, ret0_ret, ret0_normal, ret2_ret2, thenK_app, retcv_ret, retcvK_app, optW_some, evs, Arg.ev, aP, aR, aA, aW, pMov, pBin, pUn, pConv, pPick, pFieldAddr, pNilCheck, pExtract, aBin, aUn, aInt, aNew, partL_f, upd, List.getElem?_cons_zero, List.getElem?_cons_succ, List.getD_cons_zero, List.getD_cons_succ, List.set_cons_zero, List.set_cons_succ, Nat.zero_add, Nat.add_zero, List.getElem?_toArray, List.take_zero, List.drop_zero, List.take_succ_cons, List.drop_succ_cons, if_true, if_false, decide_true, decide_false, Bool.false_eq_true, Bool.true_eq_false, Bool.not_true, Bool.not_false, not_true_eq_false, not_false_eq_true, ge_iff_le, gt_iff_lt, beq_self_eq_true, bne_self_eq_false, and_self, and_true, true_and, Option.isSome_some, Heap.get_alloc_same, Heap.alloc_getE, *] | with_reducible refine cndK_d (fun hc => ?_) (fun hc => ?_) | with_reducible refine grdK_d (fun hc => ?_) (fun hc => ?_) | with_reducible refine cndK_i (fun hc => ?_) (fun hc => ?_) | with_reducible refine grdK_i (fun hc => ?_) (fun hc => ?_))
  refine hq.h _ _ ?_ hl'
  cases hx : l.findIdx? p with
  | none =>
    have := List.findIdx?_eq_none_iff.1 hx
    have hn : l.any p = false := by simpa [List.any_eq_false] using this
    simp [hn]
  | some i =>
    have := List.findIdx?_eq_some_iff_getElem.1 hx
    have hn : l.any p = true := List.any_eq_true.2 ⟨_, List.getElem_mem this.1, this.2.1⟩
    simp [hn]


def iv (z : Int) : Value := .int .i64 z
theorem indexFuncInt_c {v fv : Value} {l : List Int} {p : Int → Bool} {h0 h : Heap} (hv : Ints h0 v l) (hh : h0.le h) (hl63 : (l.length : Int) ≤ 9223372036854775807)
    (hf : ∀ e ∈ l, ∀ h1 Q, h.le h1 → (∀ v h', v = .bool (p e) → h1.le h' → Q v h') → ValW Try.prog fv [iv e] h1 Q) (Q : Value → Heap → Prop)
    (hq : ∀ v h', v = .int .i64 (match l.findIdx? p with | some i => (i : Int) | none => -1) → h.le h' → Q v h') : CallW Try.prog 49 [v, fv] h Q := by
  refine call_of1 (k := 2) ok49 rfl rfl rfl fun N => ?_
  rw [show env0 c49 [v, fv] = [v, fv, undef, undef, undef, undef, undef] from rfl]
  delta c49 c49_r0 c49_r1 c49_r2 c49_r3 c49_r4 c49_r5 c49_r6 c49_r8
  replace hq := Hid.mk hq
  repeat' (first | simp -implicitDefEqProofs only [W_skip, W_reg, W_seq, W_rcond, W_cond, W_block, W_loop, W_exit, W_ret, thenQ_normal, thenQ_exit, thenQ_ret, blockQ_normal, blockQ_ret, blockQ_here, regQ_app, rcQ_app, cndK_t, cndK_f, RegW_nil, RegW_none, RegW_some, contW_app, grdK_tt, grdK_ff, grdK_tf, grdK_ft, grdK_undef, actK_p, actK_r, actK_a, actK_w, actK_call, actK_callV, heapK_app, allocK_app, writeK_app, ret1_ret, ret1_normal, ret0_ret, ret0_normal, ret2_ret2, thenK_app, retcv_ret, retcvK_app, optW_some, evs, Arg.ev, aP, aR, aA, aW, pMov, pBin, pUn, pConv, pPick, pFieldAddr, pNilCheck, pExtract, aBin, aUn, aInt, aNew, partL_f, upd, List.getElem?_cons_zero, List.getElem?_cons_succ, List.getD_cons_zero, List.getD_cons_succ, List.set_cons_zero, List.set_cons_succ, Nat.zero_add, Nat.add_zero, List.getElem?_toArray, List.take_zero, List.drop_zero, List.take_succ_cons, List.drop_succ_cons, if_true, if_false, decide_true, decide_false, Bool.false_eq_true, Bool.true_eq_false, Bool.not_true, Bool.not_false, not_true_eq_false, not_false_eq_true, ge_iff_le, gt_iff_lt, beq_self_eq_true, bne_self_eq_false, and_self, and_true, true_and, Option.isSome_some, Heap.get_alloc_same, Heap.alloc_getE, hv.len, *] | with_reducible refine cndK_d (fun hc => ?_) (fun hc => ?_) | with_reducible refine grdK_d (fun hc => ?_) (fun hc => ?_) | with_reducible refine cndK_i (fun hc => ?_) (fun hc => ?_) | with_reducible refine grdK_i (fun hc => ?_) (fun hc => ?_))
  refine LoopW.upto l.length (fun i e h1 => h.le h1 ∧ (∀ j e, j < i → l[j]? = some e → p e = false) ∧ ∃ x3 x6, e = [v, fv, .int .i64 0, x3, .int .i64 l.length, .int .i64 i, x6]) ?_ (Nat.zero_le _) ⟨Heap.le.refl h, by intro j e hj; omega, _, _, rfl⟩
  rintro i _ h1 R hi ⟨hl1, hp, x3, x6, rfl⟩ hR
  delta c49_l7 c49_r0 c49_r1 c49_r2 c49_r3 c49_r4 c49_r5 c49_r6 c49_r8
  by_cases hlt : i < l.length
  · have hlt' : (i : Int) < l.length := by omega
    obtain ⟨e, he⟩ : ∃ e, l[i]? = some e := ⟨_, List.getElem?_eq_getElem hlt⟩
    obtain ⟨id, off, cells, own, e1, e2, e3, _⟩ := (hv.mono (hh.trans hl1)).elem he
    have hw : IntKind.i64.wrap ((i : Int) + 1) = ((i + 1 : Nat) : Int) := by rw [wrapI (by omega) (by omega)]; rfl
    repeat' (first | simp -implicitDefEqProofs only [W_skip, W_reg, W_seq, W_rcond, W_cond, W_block, W_loop, W_exit, W_ret, thenQ_normal, thenQ_exit, thenQ_ret, blockQ_normal, blockQ_ret, blockQ_here, regQ_app, rcQ_app, cndK_t, cndK_f, RegW_nil, RegW_none, RegW_some, contW_app, grdK_tt, grdK_ff, grdK_tf, grdK_ft, grdK_undef, actK_p, actK_r, actK_a, actK_w, actK_call, actK_callV, heapK_app, allocK_app, writeK_app, ret1_ret, ret1_normal, ret0_ret, ret0_normal, ret2_ret2, thenK_app, retcv_ret, retcvK_app, optW_some, evs, Arg.ev, aP, aR, aA, aW, pMov, pBin, pUn, pConv, pPick, pFieldAddr, pNilCheck, pExtract, aBin, aUn, aInt, aNew, partL_f, upd, List.getElem?_cons_zero, List.getElem?_cons_succ, List.getD_cons_zero, List.getD_cons_succ, List.set_cons_zero, List.set_cons_succ, Nat.zero_add, Nat.add_zero, List.getElem?_toArray, List.take_zero, List.drop_zero, List.take_succ_cons, List.drop_succ_cons, if_true, if_false, decide_true, decide_false, Bool.false_eq_true, Bool.true_eq_false, Bool.not_true, Bool.not_false, not_true_eq_false, not_false_eq_true, ge_iff_le, gt_iff_lt, beq_self_eq_true, bne_self_eq_false, and_self, and_true, true_and, Option.isSome_some, Heap.get_alloc_same, Heap.alloc_getE, *] | with_reducible refine cndK_d (fun hc => ?_) (fun hc => ?_) | with_reducible refine grdK_d (fun hc => ?_) (fun hc => ?_) | with_reducible refine cndK_i (fun hc => ?_) (fun hc => ?_) | with_reducible refine grdK_i (fun hc => ?_) (fun hc => ?_))
    refine hf e (List.mem_of_getElem? he) h1 _ hl1 fun v2 h2 hv2 hl2 => ?_
    subst hv2
    cases hpe : p e with
    | true =>
      repeat' (first | simp -implicitDefEqProofs only [W_skip, W_reg, W_seq, W_rcond, W_cond, W_block, W_loop, W_exit, W_ret, thenQ_normal, thenQ_exit, thenQ_ret, blockQ_normal, blockQ_ret, blockQ_here, regQ_app, rcQ_app, cndK_t, cndK_f, RegW_nil, RegW_none, RegW_some, contW_app, grdK_tt, grdK_ff, grdK_tf, grdK_ft, grdK_undef, actK_p, actK_r, actK_a, actK_w, actK_call, actK_callV, heapK_app, allocK_app, writeK_app, ret1_ret, ret1_normal, ret0_ret, ret0_normal, ret2_ret2, thenK_app, retcv_ret, retcvK_app, optW_some, evs, Arg.ev, aP, aR, aA, aW, pMov, pBin, pUn, pConv, pPick, pFieldAddr, pNilCheck, pExtract, aBin, aUn, aInt, aNew, partL_f, upd, List.getElem?_cons_zero, List.getElem?_cons_succ, List.getD_cons_zero, List.getD_cons_succ, List.set_cons_zero, List.set_cons_succ, Nat.zero_add, Nat.add_zero, List.getElem?_toArray, List.take_zero, List.drop_zero, List.take_succ_cons, List.drop_succ_cons, if_true, if_false, decide_true, decide_false, Bool.false_eq_true, Bool.true_eq_false, Bool.not_true, Bool.not_false, not_true_eq_false, not_false_eq_true, ge_iff_le, gt_iff_lt, beq_self_eq_true, bne_self_eq_false, and_self, and_true, true_and, Option.isSome_some, Heap.get_alloc_same, Heap.alloc_getE, *] | with_reducible refine cndK_d (fun hc => ?_) (fun hc => ?_) | with_reducible refine grdK_d (fun hc => ?_) (fun hc => ?_) | with_reducible refine cndK_i (fun hc => ?_) (fun hc => ?_) | with_reducible refine grdK_i (fun hc => ?_) (fun hc => ?_))
      refine hq.h _ _ ?_ (hl1.trans hl2)
      have : l.findIdx? p = some i := by
        rw [List.findIdx?_eq_some_iff_getElem]
        refine ⟨hlt, by rw [List.getElem?_eq_getElem hlt] at he; cases he; exact hpe, fun j hj => ?_⟩
        have := hp j l[j] hj (List.getElem?_eq_getElem _)
        simp [this]
      rw [this]
    | false =>
      repeat' (first | simp -implicitDefEqProofs only [W_skip, W_reg, W_seq, W_rcond, W_cond, W_block, W_loop, W_exit, W_ret, thenQ_normal, thenQ_exit, thenQ_ret, blockQ_normal, blockQ_ret, blockQ_here, regQ_app, rcQ_app, cndK_t, cndK_f, RegW_nil, RegW_none, RegW_some, contW_app, grdK_tt, grdK_ff, grdK_tf, grdK_ft, grdK_undef, actK_p, actK_r, actK_a, actK_w, actK_call, actK_callV, heapK_app, allocK_app, writeK_app, ret1_ret, ret1_normal, ret0_ret, ret0_normal, ret2_ret2, thenK_app, retcv_ret, retcvK_app, optW_some, evs, Arg.ev, aP, aR, aA, aW, pMov, pBin, pUn, pConv, pPick, pFieldAddr, pNilCheck, pExtract, aBin, aUn, aInt, aNew, partL_f, upd, List.getElem?_cons_zero, List.getElem?_cons_succ, List.getD_cons_zero, List.getD_cons_succ, List.set_cons_zero, List.set_cons_succ, Nat.zero_add, Nat.add_zero, List.getElem?_toArray, List.take_zero, List.drop_zero, List.take_succ_cons, List.drop_succ_cons, if_true, if_false, decide_true, decide_false, Bool.false_eq_true, Bool.true_eq_false, Bool.not_true, Bool.not_false, not_true_eq_false, not_false_eq_true, ge_iff_le, gt_iff_lt, beq_self_eq_true, bne_self_eq_false, and_self, and_true, true_and, Option.isSome_some, Heap.get_alloc_same, Heap.alloc_getE, *] | with_reducible refine cndK_d (fun hc => ?_) (fun hc => ?_) | with_reducible refine grdK_d (fun hc => ?_) (fun hc => ?_) | with_reducible refine cndK_i (fun hc => ?_) (fun hc => ?_) | with_reducible refine grdK_i (fun hc => ?_) (fun hc => ?_))
      refine hR.h _ _ hlt ⟨hl1.trans hl2, fun j e' hj hje => ?_, _, _, rfl⟩
      by_cases hji : j = i
      · subst hji; rw [he] at hje; cases hje; exact hpe
      · exact hp j e' (by omega) hje
  · have hlt' : ¬ (i : Int) < l.length := by omega
    have hnone : l.findIdx? p = none := by
      rw [List.findIdx?_eq_none_iff]
      intro e he
      obtain ⟨j, hj⟩ := List.mem_iff_getElem?.1 he
      exact hp j e (by have := (List.getElem?_eq_some_iff.1 hj).1; omega) hj
    repeat' (first | simp -implicitDefEqProofs only [W_skip, W_reg, W_seq, W_rcond, W_cond, W_block, W_loop, W_exit, W_ret, thenQ_normal, thenQ_exit, thenQ_ret, blockQ_normal, blockQ_ret, blockQ_here, regQ_app, rcQ_app, cndK_t, cndK_f, RegW_nil, RegW_none, RegW_some, contW_app, grdK_tt, grdK_ff, grdK_tf, grdK_ft, grdK_undef, actK_p, actK_r, actK_a, actK_w, actK_call, actK_callV, heapK_app, allocK_app, writeK_app, ret1_ret, ret1_normal, ret0_ret, ret0_normal, ret2_ret2, thenK_app, retcv_ret, retcvK_app, optW_some, evs, Arg.ev, aP, aR, aA, aW, pMov, pBin, pUn, pConv, pPick, pFieldAddr, pNilCheck, pExtract, aBin, aUn, aInt, aNew, partL_f, upd, List.getElem?_cons_zero, List.getElem?_cons_succ, List.getD_cons_zero, List.getD_cons_succ, List.set_cons_zero, List.set_cons_succ, Nat.zero_add, Nat.add_zero, List.getElem?_toArray, List.take_zero, List.drop_zero, List.take_succ_cons, List.drop_succ_cons, if_true, if_false, decide_true, decide_false, Bool.false_eq_true, Bool.true_eq_false, Bool.not_true, Bool.not_false, not_true_eq_false, not_false_eq_true, ge_iff_le, gt_iff_lt, beq_self_eq_true, bne_self_eq_false, and_self, and_true, true_and, Option.isSome_some, Heap.get_alloc_same, Heap.alloc_getE, *] | with_reducible refine cndK_d (fun hc => ?_) (fun hc => ?_) | with_reducible refine grdK_d (fun hc => ?_) (fun hc => ?_) | with_reducible refine cndK_i (fun hc => ?_) (fun hc => ?_) | with_reducible refine grdK_i (fun hc => ?_) (fun hc => ?_))
    exact hq.h _ _ (by rw [hnone]) hl1

/-- slices.ContainsFunc -/
theorem containsInt_c {v fv : Value} {l : List Int} {p : Int → Bool} {h0 h : Heap} (hv : Ints h0 v l) (hh : h0.le h) (hl63 : (l.length : Int) ≤ 9223372036854775807)
    (hf : ∀ e ∈ l, ∀ h1 Q, h.le h1 → (∀ v h', v = .bool (p e) → h1.le h' → Q v h') → ValW Try.prog fv [iv e] h1 Q) (Q : Value → Heap → Prop)
    (hq : ∀ v h', v = .bool (l.any p) → h.le h' → Q v h') : CallW Try.prog 34 [v, fv] h Q := by
  refine call_of1 (k := 2) ok34 rfl rfl rfl fun N => ?_
  rw [show env0 c34 [v, fv] = [v, fv, undef] from rfl]
  delta c34 c34_r0 c34_r1
  replace hq := Hid.mk hq
  repeat' (first | simp -implicitDefEqProofs only [W_skip, W_reg, W_seq, W_rcond, W_cond, W_block, W_loop, W_exit, W_ret, thenQ_normal, thenQ_exit, thenQ_ret, blockQ_normal, blockQ_ret, blockQ_here, regQ_app, rcQ_app, cndK_t, cndK_f, RegW_nil, RegW_none, RegW_some, contW_app, grdK_tt, grdK_ff, grdK_tf, grdK_ft, grdK_undef, actK_p, actK_r, actK_a, actK_w, actK_call, actK_callV, heapK_app, allocK_app, writeK_app, ret1_ret, ret1_normal, ret0_ret, ret0_normal, ret2_ret2, thenK_app, retcv_ret, retcvK_app, optW_some, evs, Arg.ev, aP, aR, aA, aW, pMov, pBin, pUn, pConv, pPick, pFieldAddr, pNilCheck, pExtract, aBin, aUn, aInt, aNew, partL_f, upd, List.getElem?_cons_zero, List.getElem?_cons_succ, List.getD_cons_zero, List.getD_cons_succ, List.set_cons_zero, List.set_cons_succ, Nat.zero_add, Nat.add_zero, List.getElem?_toArray, List.take_zero, List.drop_zero, List.take_succ_cons, List.drop_succ_cons, if_true, if_false, decide_true, decide_false, Bool.false_eq_true, Bool.true_eq_false, Bool.not_true, Bool.not_false, not_true_eq_false, not_false_eq_true, ge_iff_le, gt_iff_lt, beq_self_eq_true, bne_self_eq_false, and_self, and_true, true_and, Option.isSome_some, Heap.get_alloc_same, Heap.alloc_getE, *] | with_reducible refine cndK_d (fun hc => ?_) (fun hc => ?_) | with_reducible refine grdK_d (fun hc => ?_) (fun hc => ?_) | with_reducible refine cndK_i (fun hc => ?_) (fun hc => ?_) | with_reducible refine grdK_i (fun hc => ?_) (fun hc => ?_))
  refine indexFuncInt_c hv hh hl63 hf _ fun v h' hv' hl' => ?_
  subst hv'
  repeat' (first | simp -implicitDefEqProofs only [W_skip, W_reg, W_seq, W_rcond, W_cond, W_block, W_loop, W_exit, W_ret, thenQ_normal, thenQ_exit, thenQ_ret, blockQ_normal, blockQ_ret, blockQ_here, regQ_app, rcQ_app, cndK_t, cndK_f, RegW_nil, RegW_none, RegW_some, contW_app, grdK_tt, grdK_ff, grdK_tf, grdK_ft, grdK_undef, actK_p, actK_r, actK_a, actK_w, actK_call, actK_callV, heapK_app, allocK_app, writeK_app, ret1_ret, ret1_normal, ret0_ret, ret0_normal, ret2_ret2, thenK_app, retcv_ret, retcvK_app, optW_some, evs, Arg.ev, aP, aR, aA, aW, pMov, pBin, pUn, pConv, pPick, pFieldAddr, pNilCheck, pExtract, aBin, aUn, aInt, aNew, partL_f, upd, List.getElem?_cons_zero, List.getElem?_cons_succ, List.getD_cons_zero, List.getD_cons_succ, List.set_cons_zero, List.set_cons_succ, Nat.zero_add, Nat.add_zero, List.getElem?_toArray, List.take_zero, List.drop_zero, List.take_succ_cons, List.drop_succ_cons, if_true, if_false, decide_true, decide_false, Bool.false_eq_true, Bool.true_eq_false, Bool.not_true, Bool.not_false, not_true_eq_false, not_false_eq_true, ge_iff_le, gt_iff_lt, beq_self_eq_true, bne_self_eq_false, and_self, and_true, true_and, Option.isSome_some, Heap.get_alloc_same, Heap.alloc_getE, *] | with_reducible refine cndK_d (fun hc => ?_) (fun hc => ?_) | with_reducible refine grdK_d (fun hc => ?_) (fun hc => ?_) | with_reducible refine cndK_i (fun hc => ?_) (fun hc => ?_) | with_reducible refine grdK_i (fun hc => ?_) (fun hc => ?_))
  refine hq.h _ _ ?_ hl'
  cases hx : l.findIdx? p with
  | none =>
    have := List.findIdx?_eq_none_iff.1 hx
    have hn : l.any p = false := by simpa [List.any_eq_false] using this
    simp [hn]
  | some i =>
    have := List.findIdx?_eq_some_iff_getElem.1 hx
    have hn : l.any p = true := List.any_eq_true.2 ⟨_, List.getElem_mem this.1, this.2.1⟩
    simp [hn]


def right (l : List Ev) : Bool := decide (l.length ≤ 8) && l.all Ev.may

/-- axiom.Right -/
theorem right_c {v : Value} {l : List Ev} {h : Heap} (hv : Evs h v l) (hl63 : (l.length : Int) ≤ 9223372036854775807) (Q : Value → Heap → Prop)
    (hq : ∀ v h', v = .bool (right l) → h.le h' → Q v h') : CallW Try.prog 21 [v] h Q := by
  refine call_of1 (k := 1) ok21 rfl rfl rfl fun N => ?_
  rw [show env0 c21 [v] = [v, undef] from rfl]
  delta c21 c21_r0 c21_r1
  replace hq := Hid.mk hq
  repeat' (first | simp -implicitDefEqProofs only [W_skip, W_reg, W_seq, W_rcond, W_cond, W_block, W_loop, W_exit, W_ret, thenQ_normal, thenQ_exit, thenQ_ret, blockQ_normal, blockQ_ret, blockQ_here, regQ_app, rcQ_app, cndK_t, cndK_f, RegW_nil, RegW_none, RegW_some, contW_app, grdK_tt, grdK_ff, grdK_tf, grdK_ft, grdK_undef, actK_p, actK_r, actK_a, actK_w, actK_call, actK_callV, heapK_app, allocK_app, writeK_app, ret1_ret, ret1_normal, ret0_ret, ret0_normal, ret2_ret2, thenK_app, retcv_ret, retcvK_app, optW_some, evs, Arg.ev, aP, aR, aA, aW, pMov, pBin, pUn, pConv, pPick, pFieldAddr, pNilCheck, pExtract, aBin, aUn, aInt, aNew, partL_f, upd, List.getElem?_cons_zero, List.getElem?_cons_succ, List.getD_cons_zero, List.getD_cons_succ, List.set_cons_zero, List.set_cons_succ, Nat.zero_add, Nat.add_zero, List.getElem?_toArray, List.take_zero, List.drop_zero, List.take_succ_cons, List.drop_succ_cons, if_true, if_false, decide_true, decide_false, Bool.false_eq_true, Bool.true_eq_false, Bool.not_true, Bool.not_false, not_true_eq_false, not_false_eq_true, ge_iff_le, gt_iff_lt, beq_self_eq_true, bne_self_eq_false, and_self, and_true, true_and, Option.isSome_some, Heap.get_alloc_same, Heap.alloc_getE, hv.len, *] | with_reducible refine cndK_d (fun hc => ?_) (fun hc => ?_) | with_reducible refine grdK_d (fun hc => ?_) (fun hc => ?_) | with_reducible refine cndK_i (fun hc => ?_) (fun hc => ?_) | with_reducible refine grdK_i (fun hc => ?_) (fun hc => ?_))
  · refine containsEv_c (p := fun e => !e.may) hv (Heap.le.refl h) hl63 (fun e _ h1 Q1 _ hq1 => CallW.val (first := #[]) (captured := #[]) (by simpa using right1_c e h1 Q1 hq1)) _ fun v h' hv' hl' => ?_
    subst hv'
    repeat' (first | simp -implicitDefEqProofs only [W_skip, W_reg, W_seq, W_rcond, W_cond, W_block, W_loop, W_exit, W_ret, thenQ_normal, thenQ_exit, thenQ_ret, blockQ_normal, blockQ_ret, blockQ_here, regQ_app, rcQ_app, cndK_t, cndK_f, RegW_nil, RegW_none, RegW_some, contW_app, grdK_tt, grdK_ff, grdK_tf, grdK_ft, grdK_undef, actK_p, actK_r, actK_a, actK_w, actK_call, actK_callV, heapK_app, allocK_app, writeK_app, ret1_ret, ret1_normal, ret0_ret, ret0_normal, ret2_ret2, thenK_app, retcv_ret, retcvK_app, optW_some, evs, Arg.ev, aP, aR, aA, aW, pMov, pBin, pUn, pConv, pPick, pFieldAddr, pNilCheck, pExtract, aBin, aUn, aInt, aNew, partL_f, upd, List.getElem?_cons_zero, List.getElem?_cons_succ, List.getD_cons_zero, List.getD_cons_succ, List.set_cons_zero, List.set_cons_succ, Nat.zero_add, Nat.add_zero, List.getElem?_toArray, List.take_zero, List.drop_zero, List.take_succ_cons, List.drop_succ_cons, if_true, if_false, decide_true, decide_false, Bool.false_eq_true, Bool.true_eq_false, Bool.not_true, Bool.not_false, not_true_eq_false, not_false_eq_true, ge_iff_le, gt_iff_lt, beq_self_eq_true, bne_self_eq_false, and_self, and_true, true_and, Option.isSome_some, Heap.get_alloc_same, Heap.alloc_getE, *] | with_reducible refine cndK_d (fun hc => ?_) (fun hc => ?_) | with_reducible refine grdK_d (fun hc => ?_) (fun hc => ?_) | with_reducible refine cndK_i (fun hc => ?_) (fun hc => ?_) | with_reducible refine grdK_i (fun hc => ?_) (fun hc => ?_))
    refine hq.h _ _ ?_ hl'
    simp [right, List.all_eq_not_any_not]; omega
  · exact hq.h _ _ (by simp [right]; omega) (Heap.le.refl h)

/-- pick: of c, one of n -/
def pick (c n : Int) : Int := (if c < 0 then IntKind.i64.wrap (0 - IntKind.i64.wrap (c + 1)) else c).tmod n
theorem pick_c (c n : Int) (hn : n ≠ 0) (h : Heap) (Q : Value → Heap → Prop) (hq : ∀ v h', v = .int .i64 (pick c n) → h.le h' → Q v h') : CallW Try.prog 14 [.int .i64 c, .int .i64 n] h Q := by
  refine call_of1 (k := 2) ok14 rfl rfl rfl fun N => ?_
  rw [show env0 c14 [.int .i64 c, .int .i64 n] = [.int .i64 c, .int .i64 n, undef] from rfl]
  delta c14 c14_r0 c14_r1 c14_r2 c14_r3
  replace hq := Hid.mk hq
  repeat' (first | simp -implicitDefEqProofs only [W_skip, W_reg, W_seq, W_rcond, W_cond, W_block, W_loop, W_exit, W_ret, thenQ_normal, thenQ_exit, thenQ_ret, blockQ_normal, blockQ_ret, blockQ_here, regQ_app, rcQ_app, cndK_t, cndK_f, RegW_nil, RegW_none, RegW_some, contW_app, grdK_tt, grdK_ff, grdK_tf, grdK_ft, grdK_undef, actK_p, actK_r, actK_a, actK_w, actK_call, actK_callV, heapK_app, allocK_app, writeK_app, ret1_ret, ret1_normal, ret0_ret, ret0_normal, ret2_ret2, thenK_app, retcv_ret, retcvK_app, optW_some, evs, Arg.ev, aP, aR, aA, aW, pMov, pBin, pUn, pConv, pPick, pFieldAddr, pNilCheck, pExtract, aBin, aUn, aInt, aNew, partL_f, upd, List.getElem?_cons_zero, List.getElem?_cons_succ, List.getD_cons_zero, List.getD_cons_succ, List.set_cons_zero, List.set_cons_succ, Nat.zero_add, Nat.add_zero, List.getElem?_toArray, List.take_zero, List.drop_zero, List.take_succ_cons, List.drop_succ_cons, if_true, if_false, decide_true, decide_false, Bool.false_eq_true, Bool.true_eq_false, Bool.not_true, Bool.not_false, not_true_eq_false, not_false_eq_true, ge_iff_le, gt_iff_lt, beq_self_eq_true, bne_self_eq_false, and_self, and_true, true_and, Option.isSome_some, Heap.get_alloc_same, Heap.alloc_getE, *] | with_reducible refine cndK_d (fun hc => ?_) (fun hc => ?_) | with_reducible refine grdK_d (fun hc => ?_) (fun hc => ?_) | with_reducible refine cndK_i (fun hc => ?_) (fun hc => ?_) | with_reducible refine grdK_i (fun hc => ?_) (fun hc => ?_))
  all_goals exact hq.h _ _ (by simp [pick, *]) (Heap.le.refl h)
end Go.Eng.Ax

set_option linter.unusedSimpArgs false
set_option linter.unusedVariables false
namespace Go.Eng.Ax
open Go Go.Eng Go.Proofs

theorem mapEv_get {l : List Ev} {i : Nat} {e : Ev} (h : l[i]? = some e) : i < l.length := (List.getElem?_eq_some_iff.1 h).1

/-- keeps' closure -/
theorem keeps1_c (e e2 : Ev) (i : Nat) {l : List Ev} (hi : l[i]? = some e2) {v : Value} {h : Heap} (hv : Evs h v l) {a b : Nat} {ca cb : Bool} (ha : h.get a = some (.blk [v] ca)) (hb : h.get b = some (.blk [.int .i64 i] cb)) (Q : Value → Heap → Prop)
    (hq : ∀ v h', v = .bool (e.kind == 3 && e.hart == e2.hart) → h.le h' → Q v h') : CallW Try.prog 48 [e.val, .pointer (some ⟨a, 0, none⟩), .pointer (some ⟨b, 0, none⟩)] h Q := by
  obtain ⟨id, off, cells, own, e1, e2, e3, e4, e5, e6, e7⟩ := hv.elem hi
  refine call_of1 (k := 4) ok48 rfl rfl rfl fun N => ?_
  rw [show env0 c48 [e.val, .pointer (some ⟨a, 0, none⟩), .pointer (some ⟨b, 0, none⟩)] = [e.val, .pointer (some ⟨a, 0, none⟩), .pointer (some ⟨b, 0, none⟩), undef, undef] from rfl]
  delta c48 c48_r0 c48_r1
  replace hq := Hid.mk hq
  repeat' (first | simp -implicitDefEqProofs only [W_skip, W_reg, W_seq, W_rcond, W_cond, W_block, W_loop, W_exit, W_ret, thenQ_normal, thenQ_exit, thenQ_ret, blockQ_normal, blockQ_ret, blockQ_here, regQ_app, rcQ_app, cndK_t, cndK_f, RegW_nil, RegW_none, RegW_some, contW_app, grdK_tt, grdK_ff, grdK_tf, grdK_ft, grdK_undef, actK_p, actK_r, actK_a, actK_w, actK_call, actK_callV, heapK_app, allocK_app, writeK_app, ret1_ret, ret1_normal, ret0_ret, ret0_normal, ret2_ret2, thenK_app, retcv_ret, retcvK_app, optW_some, evs, Arg.ev, aP, aR, aA, aW, pMov, pBin, pUn, pConv, pPick, pFieldAddr, pNilCheck, pExtract, aBin, aUn, aInt, aNew, partL_f, upd, List.getElem?_cons_zero, List.getElem?_cons_succ, List.getD_cons_zero, List.getD_cons_succ, List.set_cons_zero, List.set_cons_succ, Nat.zero_add, Nat.add_zero, List.getElem?_toArray, List.take_zero, List.drop_zero, List.take_succ_cons, List.drop_succ_cons, if_true, if_false, decide_true, decide_false, Bool.false_eq_true, Bool.true_eq_false, Bool.not_true, Bool.not_false, not_true_eq_false, not_false_eq_true, ge_iff_le, gt_iff_lt, beq_self_eq_true, bne_self_eq_false, and_self, and_true, true_and, Option.isSome_some, Heap.get_alloc_same, Heap.alloc_getE, Ev.box, *] | with_reducible refine cndK_d (fun hc => ?_) (fun hc => ?_) | with_reducible refine grdK_d (fun hc => ?_) (fun hc => ?_) | with_reducible refine cndK_i (fun hc => ?_) (fun hc => ?_) | with_reducible refine grdK_i (fun hc => ?_) (fun hc => ?_))
  all_goals exact hq.h _ _ (by clear hq; simp [*]) ((Heap.le.refl h).alloc _)

def keeps (l : List Ev) (i k : Nat) : Bool :=
  match l[i]?, l[k]? with
  | some a, some b => decide (i < k) && (a.hart == b.hart) && ((a.kind == 1) || (b.kind == 2 && a.at' == b.at') || ((l.take k).drop i).any fun e => e.kind == 3 && e.hart == a.hart)
  | _, _ => false

theorem keeps_c {v : Value} {l : List Ev} {h : Heap} (hv : Evs h v l) (hl63 : (l.length : Int) ≤ 9223372036854775807) {i k : Nat} (hi : i < l.length) (hk : k < l.length) (Q : Value → Heap → Prop)
    (hq : ∀ v h', v = .bool (keeps l i k) → h.le h' → Q v h') : CallW Try.prog 32 [v, .int .i64 i, .int .i64 k] h Q := by
  obtain ⟨a, ha⟩ : ∃ e, l[i]? = some e := ⟨_, List.getElem?_eq_getElem hi⟩
  obtain ⟨b, hb⟩ : ∃ e, l[k]? = some e := ⟨_, List.getElem?_eq_getElem hk⟩
  obtain ⟨id, off, cells, own, e1, e2, e3, e4, e5, e6, e7⟩ := hv.elem ha
  obtain ⟨id', off', cells', own', f1, f2, f3, f4, f5, f6, f7⟩ := hv.elem hb
  have bx1 : aBox [v] = some ([v], fun id => .pointer (some ⟨id, 0, none⟩)) := by
    rcases hv with ⟨rfl, _⟩ | ⟨id, off, rfl, _⟩ <;> rfl
  have bx2 : aBox [.int .i64 (i : Int)] = some ([.int .i64 (i : Int)], fun id => .pointer (some ⟨id, 0, none⟩)) := rfl
  refine call_of1 (k := 5) ok32 rfl rfl rfl fun N => ?_
  rw [show env0 c32 [v, .int .i64 i, .int .i64 k] = [v, .int .i64 i, .int .i64 k, undef, undef, undef] from rfl]
  delta c32 c32_r0 c32_r1 c32_r2 c32_r3 c32_r4 c32_r5
  replace hq := Hid.mk hq
  have hle := (((Heap.le.refl h).alloc (.blk [v] true)).alloc (.blk [.int .i64 (i : Int)] true))
  have g1 : ((h.alloc (.blk [v] true)).alloc (.blk [.int .i64 (i : Int)] true)).get h.next = some (.blk [v] true) := by rw [Heap.alloc_getE _ _ _ (by simp)]; simp
  have g2 : ((h.alloc (.blk [v] true)).alloc (.blk [.int .i64 (i : Int)] true)).get (h.alloc (.blk [v] true)).next = some (.blk [.int .i64 (i : Int)] true) := Heap.get_alloc_same _ _
  by_cases hik : i < k
  · have hik' : ¬ (k : Int) ≤ (i : Int) := by omega
    obtain ⟨w, p1, p2⟩ := SlV.part hv (a := i) (b := k) (by omega) (by simp; omega)
    have p3 : Evs h w ((l.take k).drop i) := by simpa [Evs, List.map_drop, List.map_take] using p2
    have fin : ∀ (Q' : Value → Heap → Prop), (∀ v h', v = .bool (((l.take k).drop i).any fun e => e.kind == 3 && e.hart == a.hart) → h.le h' → Q' v h') →
        CallW Try.prog 36 [w, .func (.func 48) #[] #[.pointer (some ⟨h.next, 0, none⟩), .pointer (some ⟨(h.alloc (.blk [v] true)).next, 0, none⟩)]] ((h.alloc (.blk [v] true)).alloc (.blk [.int .i64 (i : Int)] true)) Q' := fun Q' hq' =>
      containsEv_c (p := fun e => e.kind == 3 && e.hart == a.hart) p3 hle (by simp; omega) (fun e _ h1 Q1 hl1 hq1 => CallW.val (first := #[]) (captured := #[_, _]) (by
        simpa using keeps1_c e a i ha (hv.mono (hle.trans hl1)) (hl1.get g1) (hl1.get g2) Q1 hq1)) _ fun v h' e hl => hq' v h' e (hle.trans hl)
    repeat' (first | simp -implicitDefEqProofs only [W_skip, W_reg, W_seq, W_rcond, W_cond, W_block, W_loop, W_exit, W_ret, thenQ_normal, thenQ_exit, thenQ_ret, blockQ_normal, blockQ_ret, blockQ_here, regQ_app, rcQ_app, cndK_t, cndK_f, RegW_nil, RegW_none, RegW_some, contW_app, grdK_tt, grdK_ff, grdK_tf, grdK_ft, grdK_undef, actK_p, actK_r, actK_a, actK_w, actK_call, actK_callV, heapK_app, allocK_app, writeK_app, ret1_ret, ret1_normal, ret0_ret, ret0_normal, ret2_ret2, thenK_app, retcv_ret, retcvK_app, optW_some, evs, Arg.ev, aP, aR, aA, aW, pMov, pBin, pUn, pConv, pPick, pFieldAddr, pNilCheck, pExtract, aBin, aUn, aInt, aNew, partL_f, upd, List.getElem?_cons_zero, List.getElem?_cons_succ, List.getD_cons_zero, List.getD_cons_succ, List.set_cons_zero, List.set_cons_succ, Nat.zero_add, Nat.add_zero, List.getElem?_toArray, List.take_zero, List.drop_zero, List.take_succ_cons, List.drop_succ_cons, if_true, if_false, decide_true, decide_false, Bool.false_eq_true, Bool.true_eq_false, Bool.not_true, Bool.not_false, not_true_eq_false, not_false_eq_true, ge_iff_le, gt_iff_lt, beq_self_eq_true, bne_self_eq_false, and_self, and_true, true_and, Option.isSome_some, Heap.get_alloc_same, Heap.alloc_getE, *] | with_reducible refine cndK_d (fun hc => ?_) (fun hc => ?_) | with_reducible refine grdK_d (fun hc => ?_) (fun hc => ?_) | with_reducible refine cndK_i (fun hc => ?_) (fun hc => ?_) | with_reducible refine grdK_i (fun hc => ?_) (fun hc => ?_))
    · exact hq.h _ _ (by clear hq; simp_all [keeps]) hle
    · exact hq.h _ _ (by clear hq; simp_all [keeps]) hle
    · exact hq.h _ _ (by clear hq; simp_all [keeps]) hle
    all_goals
      refine fin _ fun v h' hv' hl' => ?_
      subst hv'
      repeat' (first | simp -implicitDefEqProofs only [W_skip, W_reg, W_seq, W_rcond, W_cond, W_block, W_loop, W_exit, W_ret, thenQ_normal, thenQ_exit, thenQ_ret, blockQ_normal, blockQ_ret, blockQ_here, regQ_app, rcQ_app, cndK_t, cndK_f, RegW_nil, RegW_none, RegW_some, contW_app, grdK_tt, grdK_ff, grdK_tf, grdK_ft, grdK_undef, actK_p, actK_r, actK_a, actK_w, actK_call, actK_callV, heapK_app, allocK_app, writeK_app, ret1_ret, ret1_normal, ret0_ret, ret0_normal, ret2_ret2, thenK_app, retcv_ret, retcvK_app, optW_some, evs, Arg.ev, aP, aR, aA, aW, pMov, pBin, pUn, pConv, pPick, pFieldAddr, pNilCheck, pExtract, aBin, aUn, aInt, aNew, partL_f, upd, List.getElem?_cons_zero, List.getElem?_cons_succ, List.getD_cons_zero, List.getD_cons_succ, List.set_cons_zero, List.set_cons_succ, Nat.zero_add, Nat.add_zero, List.getElem?_toArray, List.take_zero, List.drop_zero, List.take_succ_cons, List.drop_succ_cons, if_true, if_false, decide_true, decide_false, Bool.false_eq_true, Bool.true_eq_false, Bool.not_true, Bool.not_false, not_true_eq_false, not_false_eq_true, ge_iff_le, gt_iff_lt, beq_self_eq_true, bne_self_eq_false, and_self, and_true, true_and, Option.isSome_some, Heap.get_alloc_same, Heap.alloc_getE, *] | with_reducible refine cndK_d (fun hc => ?_) (fun hc => ?_) | with_reducible refine grdK_d (fun hc => ?_) (fun hc => ?_) | with_reducible refine cndK_i (fun hc => ?_) (fun hc => ?_) | with_reducible refine grdK_i (fun hc => ?_) (fun hc => ?_))
      exact hq.h _ _ (by clear hq; simp_all [keeps]) hl'
  · have hik' : (k : Int) ≤ (i : Int) := by omega
    repeat' (first | simp -implicitDefEqProofs only [W_skip, W_reg, W_seq, W_rcond, W_cond, W_block, W_loop, W_exit, W_ret, thenQ_normal, thenQ_exit, thenQ_ret, blockQ_normal, blockQ_ret, blockQ_here, regQ_app, rcQ_app, cndK_t, cndK_f, RegW_nil, RegW_none, RegW_some, contW_app, grdK_tt, grdK_ff, grdK_tf, grdK_ft, grdK_undef, actK_p, actK_r, actK_a, actK_w, actK_call, actK_callV, heapK_app, allocK_app, writeK_app, ret1_ret, ret1_normal, ret0_ret, ret0_normal, ret2_ret2, thenK_app, retcv_ret, retcvK_app, optW_some, evs, Arg.ev, aP, aR, aA, aW, pMov, pBin, pUn, pConv, pPick, pFieldAddr, pNilCheck, pExtract, aBin, aUn, aInt, aNew, partL_f, upd, List.getElem?_cons_zero, List.getElem?_cons_succ, List.getD_cons_zero, List.getD_cons_succ, List.set_cons_zero, List.set_cons_succ, Nat.zero_add, Nat.add_zero, List.getElem?_toArray, List.take_zero, List.drop_zero, List.take_succ_cons, List.drop_succ_cons, if_true, if_false, decide_true, decide_false, Bool.false_eq_true, Bool.true_eq_false, Bool.not_true, Bool.not_false, not_true_eq_false, not_false_eq_true, ge_iff_le, gt_iff_lt, beq_self_eq_true, bne_self_eq_false, and_self, and_true, true_and, Option.isSome_some, Heap.get_alloc_same, Heap.alloc_getE, *] | with_reducible refine cndK_d (fun hc => ?_) (fun hc => ?_) | with_reducible refine grdK_d (fun hc => ?_) (fun hc => ?_) | with_reducible refine cndK_i (fun hc => ?_) (fun hc => ?_) | with_reducible refine grdK_i (fun hc => ?_) (fun hc => ?_))
    exact hq.h _ _ (by simp [keeps, ha, hb, hik]) hle

def Keeps (l : List Ev) (i k : Int) : Bool := right l && (decide (0 ≤ i) && decide (i < l.length) && decide (0 ≤ k) && decide (k < l.length) && ((l[i.toNat]?).any Ev.acc) && ((l[k.toNat]?).any Ev.acc) && keeps l i.toNat k.toNat)
theorem Keeps_c {v : Value} {l : List Ev} {h : Heap} (hv : Evs h v l) (hl63 : (l.length : Int) ≤ 9223372036854775807) (i k : Int) (Q : Value → Heap → Prop)
    (hq : ∀ v h', v = .bool (Keeps l i k) → h.le h' → Q v h') : CallW Try.prog 17 [v, .int .i64 i, .int .i64 k] h Q := by
  refine call_of1 (k := 3) ok17 rfl rfl rfl fun N => ?_
  rw [show env0 c17 [v, .int .i64 i, .int .i64 k] = [v, .int .i64 i, .int .i64 k, undef, undef] from rfl]
  delta c17 c17_r0 c17_r1 c17_r2
  replace hq := Hid.mk hq
  repeat' (first | simp -implicitDefEqProofs only [W_skip, W_reg, W_seq, W_rcond, W_cond, W_block, W_loop, W_exit, W_ret, thenQ_normal, thenQ_exit, thenQ_ret, blockQ_normal, blockQ_ret, blockQ_here, regQ_app, rcQ_app, cndK_t, cndK_f, RegW_nil, RegW_none, RegW_some, contW_app, grdK_tt, grdK_ff, grdK_tf, grdK_ft, grdK_undef, actK_p, actK_r, actK_a, actK_w, actK_call, actK_callV, heapK_app, allocK_app, writeK_app, ret1_ret, ret1_normal, ret0_ret, ret0_normal, ret2_ret2, thenK_app, retcv_ret, retcvK_app, optW_some, evs, Arg.ev, aP, aR, aA, aW, pMov, pBin, pUn, pConv, pPick, pFieldAddr, pNilCheck, pExtract, aBin, aUn, aInt, aNew, partL_f, upd, List.getElem?_cons_zero, List.getElem?_cons_succ, List.getD_cons_zero, List.getD_cons_succ, List.set_cons_zero, List.set_cons_succ, Nat.zero_add, Nat.add_zero, List.getElem?_toArray, List.take_zero, List.drop_zero, List.take_succ_cons, List.drop_succ_cons, if_true, if_false, decide_true, decide_false, Bool.false_eq_true, Bool.true_eq_false, Bool.not_true, Bool.not_false, not_true_eq_false, not_false_eq_true, ge_iff_le, gt_iff_lt, beq_self_eq_true, bne_self_eq_false, and_self, and_true, true_and, Option.isSome_some, Heap.get_alloc_same, Heap.alloc_getE, hv.len, *] | with_reducible refine cndK_d (fun hc => ?_) (fun hc => ?_) | with_reducible refine grdK_d (fun hc => ?_) (fun hc => ?_) | with_reducible refine cndK_i (fun hc => ?_) (fun hc => ?_) | with_reducible refine grdK_i (fun hc => ?_) (fun hc => ?_))
  refine right_c hv hl63 _ fun v1 h1 hv1 hl1 => ?_
  subst hv1
  cases hr : right l with
  | false =>
    repeat' (first | simp -implicitDefEqProofs only [W_skip, W_reg, W_seq, W_rcond, W_cond, W_block, W_loop, W_exit, W_ret, thenQ_normal, thenQ_exit, thenQ_ret, blockQ_normal, blockQ_ret, blockQ_here, regQ_app, rcQ_app, cndK_t, cndK_f, RegW_nil, RegW_none, RegW_some, contW_app, grdK_tt, grdK_ff, grdK_tf, grdK_ft, grdK_undef, actK_p, actK_r, actK_a, actK_w, actK_call, actK_callV, heapK_app, allocK_app, writeK_app, ret1_ret, ret1_normal, ret0_ret, ret0_normal, ret2_ret2, thenK_app, retcv_ret, retcvK_app, optW_some, evs, Arg.ev, aP, aR, aA, aW, pMov, pBin, pUn, pConv, pPick, pFieldAddr, pNilCheck, pExtract, aBin, aUn, aInt, aNew, partL_f, upd, List.getElem?_cons_zero, List.getElem?_cons_succ, List.getD_cons_zero, List.getD_cons_succ, List.set_cons_zero, List.set_cons_succ, Nat.zero_add, Nat.add_zero, List.getElem?_toArray, List.take_zero, List.drop_zero, List.take_succ_cons, List.drop_succ_cons, if_true, if_false, decide_true, decide_false, Bool.false_eq_true, Bool.true_eq_false, Bool.not_true, Bool.not_false, not_true_eq_false, not_false_eq_true, ge_iff_le, gt_iff_lt, beq_self_eq_true, bne_self_eq_false, and_self, and_true, true_and, Option.isSome_some, Heap.get_alloc_same, Heap.alloc_getE, *] | with_reducible refine cndK_d (fun hc => ?_) (fun hc => ?_) | with_reducible refine grdK_d (fun hc => ?_) (fun hc => ?_) | with_reducible refine cndK_i (fun hc => ?_) (fun hc => ?_) | with_reducible refine grdK_i (fun hc => ?_) (fun hc => ?_))
    exact hq.h _ _ (by simp [Keeps, hr]) hl1
  | true =>
    have hv' := hv.mono hl1
    by_cases h0 : 0 ≤ i ∧ i < l.length ∧ 0 ≤ k ∧ k < l.length
    · obtain ⟨h01, h02, h03, h04⟩ := h0
      obtain ⟨i, rfl⟩ := Int.eq_ofNat_of_zero_le h01
      obtain ⟨k, rfl⟩ := Int.eq_ofNat_of_zero_le h03
      have hi : i < l.length := by omega
      have hk : k < l.length := by omega
      obtain ⟨a, ha⟩ : ∃ e, l[i]? = some e := ⟨_, List.getElem?_eq_getElem hi⟩
      obtain ⟨b, hb⟩ : ∃ e, l[k]? = some e := ⟨_, List.getElem?_eq_getElem hk⟩
      obtain ⟨id, off, cells, own, e1, e2, e3, e4, e5, e6, e7⟩ := hv'.elem ha
      repeat' (first | simp -implicitDefEqProofs only [W_skip, W_reg, W_seq, W_rcond, W_cond, W_block, W_loop, W_exit, W_ret, thenQ_normal, thenQ_exit, thenQ_ret, blockQ_normal, blockQ_ret, blockQ_here, regQ_app, rcQ_app, cndK_t, cndK_f, RegW_nil, RegW_none, RegW_some, contW_app, grdK_tt, grdK_ff, grdK_tf, grdK_ft, grdK_undef, actK_p, actK_r, actK_a, actK_w, actK_call, actK_callV, heapK_app, allocK_app, writeK_app, ret1_ret, ret1_normal, ret0_ret, ret0_normal, ret2_ret2, thenK_app, retcv_ret, retcvK_app, optW_some, evs, Arg.ev, aP, aR, aA, aW, pMov, pBin, pUn, pConv, pPick, pFieldAddr, pNilCheck, pExtract, aBin, aUn, aInt, aNew, partL_f, upd, List.getElem?_cons_zero, List.getElem?_cons_succ, List.getD_cons_zero, List.getD_cons_succ, List.set_cons_zero, List.set_cons_succ, Nat.zero_add, Nat.add_zero, List.getElem?_toArray, List.take_zero, List.drop_zero, List.take_succ_cons, List.drop_succ_cons, if_true, if_false, decide_true, decide_false, Bool.false_eq_true, Bool.true_eq_false, Bool.not_true, Bool.not_false, not_true_eq_false, not_false_eq_true, ge_iff_le, gt_iff_lt, beq_self_eq_true, bne_self_eq_false, and_self, and_true, true_and, Option.isSome_some, Heap.get_alloc_same, Heap.alloc_getE, *] | with_reducible refine cndK_d (fun hc => ?_) (fun hc => ?_) | with_reducible refine grdK_d (fun hc => ?_) (fun hc => ?_) | with_reducible refine cndK_i (fun hc => ?_) (fun hc => ?_) | with_reducible refine grdK_i (fun hc => ?_) (fun hc => ?_))
      refine isAccess_c a h1 _ fun v2 h2 hv2 hl2 => ?_
      subst hv2
      cases haa : a.acc with
      | false =>
        repeat' (first | simp -implicitDefEqProofs only [W_skip, W_reg, W_seq, W_rcond, W_cond, W_block, W_loop, W_exit, W_ret, thenQ_normal, thenQ_exit, thenQ_ret, blockQ_normal, blockQ_ret, blockQ_here, regQ_app, rcQ_app, cndK_t, cndK_f, RegW_nil, RegW_none, RegW_some, contW_app, grdK_tt, grdK_ff, grdK_tf, grdK_ft, grdK_undef, actK_p, actK_r, actK_a, actK_w, actK_call, actK_callV, heapK_app, allocK_app, writeK_app, ret1_ret, ret1_normal, ret0_ret, ret0_normal, ret2_ret2, thenK_app, retcv_ret, retcvK_app, optW_some, evs, Arg.ev, aP, aR, aA, aW, pMov, pBin, pUn, pConv, pPick, pFieldAddr, pNilCheck, pExtract, aBin, aUn, aInt, aNew, partL_f, upd, List.getElem?_cons_zero, List.getElem?_cons_succ, List.getD_cons_zero, List.getD_cons_succ, List.set_cons_zero, List.set_cons_succ, Nat.zero_add, Nat.add_zero, List.getElem?_toArray, List.take_zero, List.drop_zero, List.take_succ_cons, List.drop_succ_cons, if_true, if_false, decide_true, decide_false, Bool.false_eq_true, Bool.true_eq_false, Bool.not_true, Bool.not_false, not_true_eq_false, not_false_eq_true, ge_iff_le, gt_iff_lt, beq_self_eq_true, bne_self_eq_false, and_self, and_true, true_and, Option.isSome_some, Heap.get_alloc_same, Heap.alloc_getE, *] | with_reducible refine cndK_d (fun hc => ?_) (fun hc => ?_) | with_reducible refine grdK_d (fun hc => ?_) (fun hc => ?_) | with_reducible refine cndK_i (fun hc => ?_) (fun hc => ?_) | with_reducible refine grdK_i (fun hc => ?_) (fun hc => ?_))
        exact hq.h _ _ (by simp [Keeps, ha, haa]) (hl1.trans hl2)
      | true =>
        obtain ⟨id', off', cells', own', f1, f2, f3, f4, f5, f6, f7⟩ := (hv'.mono hl2).elem hb
        repeat' (first | simp -implicitDefEqProofs only [W_skip, W_reg, W_seq, W_rcond, W_cond, W_block, W_loop, W_exit, W_ret, thenQ_normal, thenQ_exit, thenQ_ret, blockQ_normal, blockQ_ret, blockQ_here, regQ_app, rcQ_app, cndK_t, cndK_f, RegW_nil, RegW_none, RegW_some, contW_app, grdK_tt, grdK_ff, grdK_tf, grdK_ft, grdK_undef, actK_p, actK_r, actK_a, actK_w, actK_call, actK_callV, heapK_app, allocK_app, writeK_app, ret1_ret, ret1_normal, ret0_ret, ret0_normal, ret2_ret2, thenK_app, retcv_ret, retcvK_app, optW_some, evs, Arg.ev, aP, aR, aA, aW, pMov, pBin, pUn, pConv, pPick, pFieldAddr, pNilCheck, pExtract, aBin, aUn, aInt, aNew, partL_f, upd, List.getElem?_cons_zero, List.getElem?_cons_succ, List.getD_cons_zero, List.getD_cons_succ, List.set_cons_zero, List.set_cons_succ, Nat.zero_add, Nat.add_zero, List.getElem?_toArray, List.take_zero, List.drop_zero, List.take_succ_cons, List.drop_succ_cons, if_true, if_false, decide_true, decide_false, Bool.false_eq_true, Bool.true_eq_false, Bool.not_true, Bool.not_false, not_true_eq_false, not_false_eq_true, ge_iff_le, gt_iff_lt, beq_self_eq_true, bne_self_eq_false, and_self, and_true, true_and, Option.isSome_some, Heap.get_alloc_same, Heap.alloc_getE, *] | with_reducible refine cndK_d (fun hc => ?_) (fun hc => ?_) | with_reducible refine grdK_d (fun hc => ?_) (fun hc => ?_) | with_reducible refine cndK_i (fun hc => ?_) (fun hc => ?_) | with_reducible refine grdK_i (fun hc => ?_) (fun hc => ?_))
        refine isAccess_c b h2 _ fun v3 h3 hv3 hl3 => ?_
        subst hv3
        cases hba : b.acc with
        | false =>
          repeat' (first | simp -implicitDefEqProofs only [W_skip, W_reg, W_seq, W_rcond, W_cond, W_block, W_loop, W_exit, W_ret, thenQ_normal, thenQ_exit, thenQ_ret, blockQ_normal, blockQ_ret, blockQ_here, regQ_app, rcQ_app, cndK_t, cndK_f, RegW_nil, RegW_none, RegW_some, contW_app, grdK_tt, grdK_ff, grdK_tf, grdK_ft, grdK_undef, actK_p, actK_r, actK_a, actK_w, actK_call, actK_callV, heapK_app, allocK_app, writeK_app, ret1_ret, ret1_normal, ret0_ret, ret0_normal, ret2_ret2, thenK_app, retcv_ret, retcvK_app, optW_some, evs, Arg.ev, aP, aR, aA, aW, pMov, pBin, pUn, pConv, pPick, pFieldAddr, pNilCheck, pExtract, aBin, aUn, aInt, aNew, partL_f, upd, List.getElem?_cons_zero, List.getElem?_cons_succ, List.getD_cons_zero, List.getD_cons_succ, List.set_cons_zero, List.set_cons_succ, Nat.zero_add, Nat.add_zero, List.getElem?_toArray, List.take_zero, List.drop_zero, List.take_succ_cons, List.drop_succ_cons, if_true, if_false, decide_true, decide_false, Bool.false_eq_true, Bool.true_eq_false, Bool.not_true, Bool.not_false, not_true_eq_false, not_false_eq_true, ge_iff_le, gt_iff_lt, beq_self_eq_true, bne_self_eq_false, and_self, and_true, true_and, Option.isSome_some, Heap.get_alloc_same, Heap.alloc_getE, *] | with_reducible refine cndK_d (fun hc => ?_) (fun hc => ?_) | with_reducible refine grdK_d (fun hc => ?_) (fun hc => ?_) | with_reducible refine cndK_i (fun hc => ?_) (fun hc => ?_) | with_reducible refine grdK_i (fun hc => ?_) (fun hc => ?_))
          exact hq.h _ _ (by simp [Keeps, hb, hba]) ((hl1.trans hl2).trans hl3)
        | true =>
          repeat' (first | simp -implicitDefEqProofs only [W_skip, W_reg, W_seq, W_rcond, W_cond, W_block, W_loop, W_exit, W_ret, thenQ_normal, thenQ_exit, thenQ_ret, blockQ_normal, blockQ_ret, blockQ_here, regQ_app, rcQ_app, cndK_t, cndK_f, RegW_nil, RegW_none, RegW_some, contW_app, grdK_tt, grdK_ff, grdK_tf, grdK_ft, grdK_undef, actK_p, actK_r, actK_a, actK_w, actK_call, actK_callV, heapK_app, allocK_app, writeK_app, ret1_ret, ret1_normal, ret0_ret, ret0_normal, ret2_ret2, thenK_app, retcv_ret, retcvK_app, optW_some, evs, Arg.ev, aP, aR, aA, aW, pMov, pBin, pUn, pConv, pPick, pFieldAddr, pNilCheck, pExtract, aBin, aUn, aInt, aNew, partL_f, upd, List.getElem?_cons_zero, List.getElem?_cons_succ, List.getD_cons_zero, List.getD_cons_succ, List.set_cons_zero, List.set_cons_succ, Nat.zero_add, Nat.add_zero, List.getElem?_toArray, List.take_zero, List.drop_zero, List.take_succ_cons, List.drop_succ_cons, if_true, if_false, decide_true, decide_false, Bool.false_eq_true, Bool.true_eq_false, Bool.not_true, Bool.not_false, not_true_eq_false, not_false_eq_true, ge_iff_le, gt_iff_lt, beq_self_eq_true, bne_self_eq_false, and_self, and_true, true_and, Option.isSome_some, Heap.get_alloc_same, Heap.alloc_getE, *] | with_reducible refine cndK_d (fun hc => ?_) (fun hc => ?_) | with_reducible refine grdK_d (fun hc => ?_) (fun hc => ?_) | with_reducible refine cndK_i (fun hc => ?_) (fun hc => ?_) | with_reducible refine grdK_i (fun hc => ?_) (fun hc => ?_))
          refine keeps_c ((hv'.mono hl2).mono hl3) hl63 hi hk _ fun v4 h4 hv4 hl4 => ?_
          subst hv4
          repeat' (first | simp -implicitDefEqProofs only [W_skip, W_reg, W_seq, W_rcond, W_cond, W_block, W_loop, W_exit, W_ret, thenQ_normal, thenQ_exit, thenQ_ret, blockQ_normal, blockQ_ret, blockQ_here, regQ_app, rcQ_app, cndK_t, cndK_f, RegW_nil, RegW_none, RegW_some, contW_app, grdK_tt, grdK_ff, grdK_tf, grdK_ft, grdK_undef, actK_p, actK_r, actK_a, actK_w, actK_call, actK_callV, heapK_app, allocK_app, writeK_app, ret1_ret, ret1_normal, ret0_ret, ret0_normal, ret2_ret2, thenK_app, retcv_ret, retcvK_app, optW_some, evs, Arg.ev, aP, aR, aA, aW, pMov, pBin, pUn, pConv, pPick, pFieldAddr, pNilCheck, pExtract, aBin, aUn, aInt, aNew, partL_f, upd, List.getElem?_cons_zero, List.getElem?_cons_succ, List.getD_cons_zero, List.getD_cons_succ, List.set_cons_zero, List.set_cons_succ, Nat.zero_add, Nat.add_zero, List.getElem?_toArray, List.take_zero, List.drop_zero, List.take_succ_cons, List.drop_succ_cons, if_true, if_false, decide_true, decide_false, Bool.false_eq_true, Bool.true_eq_false, Bool.not_true, Bool.not_false, not_true_eq_false, not_false_eq_true, ge_iff_le, gt_iff_lt, beq_self_eq_true, bne_self_eq_false, and_self, and_true, true_and, Option.isSome_some, Heap.get_alloc_same, Heap.alloc_getE, *] | with_reducible refine cndK_d (fun hc => ?_) (fun hc => ?_) | with_reducible refine grdK_d (fun hc => ?_) (fun hc => ?_) | with_reducible refine cndK_i (fun hc => ?_) (fun hc => ?_) | with_reducible refine grdK_i (fun hc => ?_) (fun hc => ?_))
          exact hq.h _ _ (by simp only [Keeps, hr, Int.toNat_natCast, ha, hb, Option.any_some, haa, hba, Bool.true_and, Bool.and_true]; simp; omega) (((hl1.trans hl2).trans hl3).trans hl4)
    · have fin : Q (.bool false) h1 := hq.h _ _ (by
        have : Keeps l i k = false := by
          simp only [Keeps, Bool.and_eq_false_iff, decide_eq_false_iff_not]
          omega
        rw [this]) hl1
      repeat' (first | simp -implicitDefEqProofs only [W_skip, W_reg, W_seq, W_rcond, W_cond, W_block, W_loop, W_exit, W_ret, thenQ_normal, thenQ_exit, thenQ_ret, blockQ_normal, blockQ_ret, blockQ_here, regQ_app, rcQ_app, cndK_t, cndK_f, RegW_nil, RegW_none, RegW_some, contW_app, grdK_tt, grdK_ff, grdK_tf, grdK_ft, grdK_undef, actK_p, actK_r, actK_a, actK_w, actK_call, actK_callV, heapK_app, allocK_app, writeK_app, ret1_ret, ret1_normal, ret0_ret, ret0_normal, ret2_ret2, thenK_app, retcv_ret, retcvK_app, optW_some, evs, Arg.ev, aP, aR, aA, aW, pMov, pBin, pUn, pConv, pPick, pFieldAddr, pNilCheck, pExtract, aBin, aUn, aInt, aNew, partL_f, upd, List.getElem?_cons_zero, List.getElem?_cons_succ, List.getD_cons_zero, List.getD_cons_succ, List.set_cons_zero, List.set_cons_succ, Nat.zero_add, Nat.add_zero, List.getElem?_toArray, List.take_zero, List.drop_zero, List.take_succ_cons, List.drop_succ_cons, if_true, if_false, decide_true, decide_false, Bool.false_eq_true, Bool.true_eq_false, Bool.not_true, Bool.not_false, not_true_eq_false, not_false_eq_true, ge_iff_le, gt_iff_lt, beq_self_eq_true, bne_self_eq_false, and_self, and_true, true_and, Option.isSome_some, Heap.get_alloc_same, Heap.alloc_getE, *] | with_reducible refine cndK_d (fun hc => ?_) (fun hc => ?_) | with_reducible refine grdK_d (fun hc => ?_) (fun hc => ?_) | with_reducible refine cndK_i (fun hc => ?_) (fun hc => ?_) | with_reducible refine grdK_i (fun hc => ?_) (fun hc => ?_))
      all_goals first | exact fin | (exfalso; omega)
end Go.Eng.Ax

set_option linter.unusedSimpArgs false
set_option linter.unusedVariables false
namespace Go.Eng.Ax
open Go Go.Eng Go.Proofs

def icells (l : List Int) : List (List Value) := l.map fun z => [.int .i64 z]
theorem icells_append (a b : List Int) : icells (a ++ b) = icells a ++ icells b := by simp [icells]
theorem icells_len (a : List Int) : (icells a).length = a.length := by simp [icells]
end Go.Eng.Ax
namespace Go.Eng
open Go Ax
theorem OwnS.ints {h0 h : Heap} {v : Value} {l : List Int} (ho : OwnS h0 h 1 v (icells l)) : Ints h v l := ho.sl
end Go.Eng
namespace Go.Eng.Ax
open Go Go.Eng Go.Proofs


def accsTo (l : List Ev) (i : Nat) : List Int := ((List.range i).filter fun j => (l[j]?).any Ev.acc).map fun (j : Nat) => (j : Int)
def accs (l : List Ev) : List Int := accsTo l l.length
theorem accsTo_succ {l : List Ev} {i : Nat} {e : Ev} (h : l[i]? = some e) : accsTo l (i + 1) = accsTo l i ++ if e.acc then [(i : Int)] else [] := by
  simp only [accsTo, List.range_succ, List.filter_append, List.map_append]
  congr 1
  cases he : e.acc <;> simp [h, he, List.filter_cons]
theorem Ev.new (e : Ev) (h : Heap) : wStore 4 (h.alloc (.blk [.int .i64 0, .int .i64 0, .int .i64 0, .int .i64 0] true)) [.pointer (some ⟨h.next, 0, none⟩), e.val] = some (undef, h.alloc (.blk [.int .i64 e.hart, .int .i64 e.kind, .int .i64 e.at', .int .i64 e.n] true)) :=
  wStore_new (by simp [Ev.val, Value.cells]) rfl rfl rfl
theorem bslice_int (z : Int) : aBslice [.int .i64 0] [(0, 1)] 1 1 [.int .i64 z] = some ([.int .i64 z], fun id => .slice (some ⟨id, 0, none⟩) 1 1) := aBslice_one rfl rfl rfl rfl
theorem accsTo_len (l : List Ev) (i : Nat) : (accsTo l i).length ≤ i := by
  simp only [accsTo, List.length_map]
  exact Nat.le_trans (List.length_filter_le _ _) (by simp)

theorem accesses_c {v : Value} {l : List Ev} {h : Heap} (hv : Evs h v l) (hl63 : l.length ≤ 1000000) (Q : Value → Heap → Prop)
    (hq : ∀ v h', OwnS h h' 1 v (icells (accs l)) → h.le h' → Q v h') : CallW Try.prog 44 [v] h Q := by
  refine call_of1 (k := 1) ok44 rfl rfl rfl fun N => ?_
  rw [show env0 c44 [v] = [v, undef, undef, undef, undef, undef, undef, undef] from rfl]
  delta c44 c44_r0 c44_r1 c44_r2 c44_r3 c44_r4 c44_r5 c44_r6
  replace hq := Hid.mk hq
  repeat' (first | simp -implicitDefEqProofs only [W_skip, W_reg, W_seq, W_rcond, W_cond, W_block, W_loop, W_exit, W_ret, thenQ_normal, thenQ_exit, thenQ_ret, blockQ_normal, blockQ_ret, blockQ_here, regQ_app, rcQ_app, cndK_t, cndK_f, RegW_nil, RegW_none, RegW_some, contW_app, grdK_tt, grdK_ff, grdK_tf, grdK_ft, grdK_undef, actK_p, actK_r, actK_a, actK_w, actK_call, actK_callV, heapK_app, allocK_app, writeK_app, ret1_ret, ret1_normal, ret0_ret, ret0_normal, ret2_ret2, thenK_app, retcv_ret, retcvK_app, optW_some, evs, Arg.ev, aP, aR, aA, aW, pMov, pBin, pUn, pConv, pPick, pFieldAddr, pNilCheck, pExtract, aBin, aUn, aInt, aNew, partL_f, upd, List.getElem?_cons_zero, List.getElem?_cons_succ, List.getD_cons_zero, List.getD_cons_succ, List.set_cons_zero, List.set_cons_succ, Nat.zero_add, Nat.add_zero, List.getElem?_toArray, List.take_zero, List.drop_zero, List.take_succ_cons, List.drop_succ_cons, if_true, if_false, decide_true, decide_false, Bool.false_eq_true, Bool.true_eq_false, Bool.not_true, Bool.not_false, not_true_eq_false, not_false_eq_true, ge_iff_le, gt_iff_lt, beq_self_eq_true, bne_self_eq_false, and_self, and_true, true_and, Option.isSome_some, Heap.get_alloc_same, Heap.alloc_getE, hv.len, *] | with_reducible refine cndK_d (fun hc => ?_) (fun hc => ?_) | with_reducible refine grdK_d (fun hc => ?_) (fun hc => ?_) | with_reducible refine cndK_i (fun hc => ?_) (fun hc => ?_) | with_reducible refine grdK_i (fun hc => ?_) (fun hc => ?_))
  refine LoopW.upto l.length (fun i e h1 => h.le h1 ∧ ∃ vo x2 x3 x7, OwnS h h1 1 vo (icells (accsTo l i)) ∧ e = [v, vo, x2, x3, v, .int .i64 l.length, .int .i64 i, x7]) ?_ (Nat.zero_le _) ⟨Heap.le.refl h, _, _, _, _, OwnS.nil h h 1, rfl⟩
  rintro i _ h1 R hi ⟨hl1, vo, x2, x3, x7, ho, rfl⟩ hR
  delta c44_l7 c44_r0 c44_r1 c44_r2 c44_r3 c44_r4 c44_r5 c44_r6
  by_cases hlt : i < l.length
  · have hlt' : (i : Int) < l.length := by omega
    obtain ⟨e, he⟩ : ∃ e, l[i]? = some e := ⟨_, List.getElem?_eq_getElem hlt⟩
    obtain ⟨id, off, cells, own, e1, e2, e3, _⟩ := (hv.mono hl1).elem he
    have hw : IntKind.i64.wrap ((i : Int) + 1) = ((i + 1 : Nat) : Int) := by rw [wrapI (by omega) (by omega)]; rfl
    repeat' (first | simp -implicitDefEqProofs only [W_skip, W_reg, W_seq, W_rcond, W_cond, W_block, W_loop, W_exit, W_ret, thenQ_normal, thenQ_exit, thenQ_ret, blockQ_normal, blockQ_ret, blockQ_here, regQ_app, rcQ_app, cndK_t, cndK_f, RegW_nil, RegW_none, RegW_some, contW_app, grdK_tt, grdK_ff, grdK_tf, grdK_ft, grdK_undef, actK_p, actK_r, actK_a, actK_w, actK_call, actK_callV, heapK_app, allocK_app, writeK_app, ret1_ret, ret1_normal, ret0_ret, ret0_normal, ret2_ret2, thenK_app, retcv_ret, retcvK_app, optW_some, evs, Arg.ev, aP, aR, aA, aW, pMov, pBin, pUn, pConv, pPick, pFieldAddr, pNilCheck, pExtract, aBin, aUn, aInt, aNew, partL_f, upd, List.getElem?_cons_zero, List.getElem?_cons_succ, List.getD_cons_zero, List.getD_cons_succ, List.set_cons_zero, List.set_cons_succ, Nat.zero_add, Nat.add_zero, List.getElem?_toArray, List.take_zero, List.drop_zero, List.take_succ_cons, List.drop_succ_cons, if_true, if_false, decide_true, decide_false, Bool.false_eq_true, Bool.true_eq_false, Bool.not_true, Bool.not_false, not_true_eq_false, not_false_eq_true, ge_iff_le, gt_iff_lt, beq_self_eq_true, bne_self_eq_false, and_self, and_true, true_and, Option.isSome_some, Heap.get_alloc_same, Heap.alloc_getE, Ev.new, *] | with_reducible refine cndK_d (fun hc => ?_) (fun hc => ?_) | with_reducible refine grdK_d (fun hc => ?_) (fun hc => ?_) | with_reducible refine cndK_i (fun hc => ?_) (fun hc => ?_) | with_reducible refine grdK_i (fun hc => ?_) (fun hc => ?_))
    have hl2 := hl1.alloc (.blk [.int .i64 e.hart, .int .i64 e.kind, .int .i64 e.at', .int .i64 e.n] true)
    have hg2 : (h1.alloc (.blk [.int .i64 e.hart, .int .i64 e.kind, .int .i64 e.at', .int .i64 e.n] true)).get h1.next = _ := Heap.get_alloc_same _ _
    simp -implicitDefEqProofs only [W_skip, W_reg, W_seq, W_rcond, W_cond, W_block, W_loop, W_exit, W_ret, thenQ_normal, thenQ_exit, thenQ_ret, blockQ_normal, blockQ_ret, blockQ_here, regQ_app, rcQ_app, cndK_t, cndK_f, RegW_nil, RegW_none, RegW_some, contW_app, grdK_tt, grdK_ff, grdK_tf, grdK_ft, grdK_undef, actK_p, actK_r, actK_a, actK_w, actK_call, actK_callV, heapK_app, allocK_app, writeK_app, ret1_ret, ret1_normal, ret0_ret, ret0_normal, ret2_ret2, thenK_app, retcv_ret, retcvK_app, optW_some, evs, Arg.ev, aP, aR, aA, aW, pMov, pBin, pUn, pConv, pPick, pFieldAddr, pNilCheck, pExtract, aBin, aUn, aInt, aNew, partL_f, upd, List.getElem?_cons_zero, List.getElem?_cons_succ, List.getD_cons_zero, List.getD_cons_succ, List.set_cons_zero, List.set_cons_succ, Nat.zero_add, Nat.add_zero, List.getElem?_toArray, List.take_zero, List.drop_zero, List.take_succ_cons, List.drop_succ_cons, if_true, if_false, decide_true, decide_false, Bool.false_eq_true, Bool.true_eq_false, Bool.not_true, Bool.not_false, not_true_eq_false, not_false_eq_true, ge_iff_le, gt_iff_lt, beq_self_eq_true, bne_self_eq_false, and_self, and_true, true_and, Option.isSome_some, Heap.get_alloc_same, Heap.alloc_getE, hg2, Ev.part]
    refine isAccess_c e _ _ fun v2 h2 hv2 hl3 => ?_
    subst hv2
    have ho2 := ho.mono (((Heap.le.refl h1).alloc _).trans hl3)
    cases hea : e.acc with
    | true =>
      obtain ⟨v', h', ha, ho3, hl4, _⟩ := ho2.append1 (hl2.trans hl3) (x := [.int .i64 i]) rfl (by omega) (b := 8) (by rw [icells_len]; have := accsTo_len l i; omega) (by rw [icells_len]; have := accsTo_len l i; omega)
      repeat' (first | simp -implicitDefEqProofs only [W_skip, W_reg, W_seq, W_rcond, W_cond, W_block, W_loop, W_exit, W_ret, thenQ_normal, thenQ_exit, thenQ_ret, blockQ_normal, blockQ_ret, blockQ_here, regQ_app, rcQ_app, cndK_t, cndK_f, RegW_nil, RegW_none, RegW_some, contW_app, grdK_tt, grdK_ff, grdK_tf, grdK_ft, grdK_undef, actK_p, actK_r, actK_a, actK_w, actK_call, actK_callV, heapK_app, allocK_app, writeK_app, ret1_ret, ret1_normal, ret0_ret, ret0_normal, ret2_ret2, thenK_app, retcv_ret, retcvK_app, optW_some, evs, Arg.ev, aP, aR, aA, aW, pMov, pBin, pUn, pConv, pPick, pFieldAddr, pNilCheck, pExtract, aBin, aUn, aInt, aNew, partL_f, upd, List.getElem?_cons_zero, List.getElem?_cons_succ, List.getD_cons_zero, List.getD_cons_succ, List.set_cons_zero, List.set_cons_succ, Nat.zero_add, Nat.add_zero, List.getElem?_toArray, List.take_zero, List.drop_zero, List.take_succ_cons, List.drop_succ_cons, if_true, if_false, decide_true, decide_false, Bool.false_eq_true, Bool.true_eq_false, Bool.not_true, Bool.not_false, not_true_eq_false, not_false_eq_true, ge_iff_le, gt_iff_lt, beq_self_eq_true, bne_self_eq_false, and_self, and_true, true_and, Option.isSome_some, Heap.get_alloc_same, Heap.alloc_getE, bslice_int, *] | with_reducible refine cndK_d (fun hc => ?_) (fun hc => ?_) | with_reducible refine grdK_d (fun hc => ?_) (fun hc => ?_) | with_reducible refine cndK_i (fun hc => ?_) (fun hc => ?_) | with_reducible refine grdK_i (fun hc => ?_) (fun hc => ?_))
      refine hR.h _ _ hlt ⟨hl4, _, _, _, _, ?_, rfl⟩
      rw [accsTo_succ he, hea, if_pos rfl, icells_append]; exact ho3
    | false =>
      repeat' (first | simp -implicitDefEqProofs only [W_skip, W_reg, W_seq, W_rcond, W_cond, W_block, W_loop, W_exit, W_ret, thenQ_normal, thenQ_exit, thenQ_ret, blockQ_normal, blockQ_ret, blockQ_here, regQ_app, rcQ_app, cndK_t, cndK_f, RegW_nil, RegW_none, RegW_some, contW_app, grdK_tt, grdK_ff, grdK_tf, grdK_ft, grdK_undef, actK_p, actK_r, actK_a, actK_w, actK_call, actK_callV, heapK_app, allocK_app, writeK_app, ret1_ret, ret1_normal, ret0_ret, ret0_normal, ret2_ret2, thenK_app, retcv_ret, retcvK_app, optW_some, evs, Arg.ev, aP, aR, aA, aW, pMov, pBin, pUn, pConv, pPick, pFieldAddr, pNilCheck, pExtract, aBin, aUn, aInt, aNew, partL_f, upd, List.getElem?_cons_zero, List.getElem?_cons_succ, List.getD_cons_zero, List.getD_cons_succ, List.set_cons_zero, List.set_cons_succ, Nat.zero_add, Nat.add_zero, List.getElem?_toArray, List.take_zero, List.drop_zero, List.take_succ_cons, List.drop_succ_cons, if_true, if_false, decide_true, decide_false, Bool.false_eq_true, Bool.true_eq_false, Bool.not_true, Bool.not_false, not_true_eq_false, not_false_eq_true, ge_iff_le, gt_iff_lt, beq_self_eq_true, bne_self_eq_false, and_self, and_true, true_and, Option.isSome_some, Heap.get_alloc_same, Heap.alloc_getE, *] | with_reducible refine cndK_d (fun hc => ?_) (fun hc => ?_) | with_reducible refine grdK_d (fun hc => ?_) (fun hc => ?_) | with_reducible refine cndK_i (fun hc => ?_) (fun hc => ?_) | with_reducible refine grdK_i (fun hc => ?_) (fun hc => ?_))
      refine hR.h _ _ hlt ⟨hl2.trans hl3, _, _, _, _, ?_, rfl⟩
      rw [accsTo_succ he, hea]; simpa using ho2
  · have hlt' : ¬ (i : Int) < l.length := by omega
    have : i = l.length := by omega
    subst this
    repeat' (first | simp -implicitDefEqProofs only [W_skip, W_reg, W_seq, W_rcond, W_cond, W_block, W_loop, W_exit, W_ret, thenQ_normal, thenQ_exit, thenQ_ret, blockQ_normal, blockQ_ret, blockQ_here, regQ_app, rcQ_app, cndK_t, cndK_f, RegW_nil, RegW_none, RegW_some, contW_app, grdK_tt, grdK_ff, grdK_tf, grdK_ft, grdK_undef, actK_p, actK_r, actK_a, actK_w, actK_call, actK_callV, heapK_app, allocK_app, writeK_app, ret1_ret, ret1_normal, ret0_ret, ret0_normal, ret2_ret2, thenK_app, retcv_ret, retcvK_app, optW_some, evs, Arg.ev, aP, aR, aA, aW, pMov, pBin, pUn, pConv, pPick, pFieldAddr, pNilCheck, pExtract, aBin, aUn, aInt, aNew, partL_f, upd, List.getElem?_cons_zero, List.getElem?_cons_succ, List.getD_cons_zero, List.getD_cons_succ, List.set_cons_zero, List.set_cons_succ, Nat.zero_add, Nat.add_zero, List.getElem?_toArray, List.take_zero, List.drop_zero, List.take_succ_cons, List.drop_succ_cons, if_true, if_false, decide_true, decide_false, Bool.false_eq_true, Bool.true_eq_false, Bool.not_true, Bool.not_false, not_true_eq_false, not_false_eq_true, ge_iff_le, gt_iff_lt, beq_self_eq_true, bne_self_eq_false, and_self, and_true, true_and, Option.isSome_some, Heap.get_alloc_same, Heap.alloc_getE, *] | with_reducible refine cndK_d (fun hc => ?_) (fun hc => ?_) | with_reducible refine grdK_d (fun hc => ?_) (fun hc => ?_) | with_reducible refine cndK_i (fun hc => ?_) (fun hc => ?_) | with_reducible refine grdK_i (fun hc => ?_) (fun hc => ?_))
    exact hq.h _ _ ho hl1
end Go.Eng.Ax

set_option linter.unusedSimpArgs false
set_option linter.unusedVariables false
namespace Go.Eng.Ax
open Go Go.Eng Go.Proofs

/-- slices.Equal -/
theorem equal_c {v w : Value} {a b : List Int} {h : Heap} (hv : Ints h v a) (hw : Ints h w b) (ha63 : a.length ≤ 1000000) (Q : Value → Heap → Prop)
    (hq : ∀ v h', v = .bool (a == b) → h.le h' → Q v h') : CallW Try.prog 41 [v, w] h Q := by
  refine call_of1 (k := 2) ok41 rfl rfl rfl fun N => ?_
  rw [show env0 c41 [v, w] = [v, w, undef, undef, undef, undef, undef] from rfl]
  delta c41 c41_r0 c41_r1 c41_r2 c41_r3 c41_r4 c41_r5 c41_r6 c41_r7 c41_r8 c41_r10
  replace hq := Hid.mk hq
  by_cases hlen : a.length = b.length
  · have hlen' : ((a.length : Int) != (b.length : Int)) = false := by simp [hlen]
    repeat' (first | simp -implicitDefEqProofs only [W_skip, W_reg, W_seq, W_rcond, W_cond, W_block, W_loop, W_exit, W_ret, thenQ_normal, thenQ_exit, thenQ_ret, blockQ_normal, blockQ_ret, blockQ_here, regQ_app, rcQ_app, cndK_t, cndK_f, RegW_nil, RegW_none, RegW_some, contW_app, grdK_tt, grdK_ff, grdK_tf, grdK_ft, grdK_undef, actK_p, actK_r, actK_a, actK_w, actK_call, actK_callV, heapK_app, allocK_app, writeK_app, ret1_ret, ret1_normal, ret0_ret, ret0_normal, ret2_ret2, thenK_app, retcv_ret, retcvK_app, optW_some, evs, Arg.ev, aP, aR, aA, aW, pMov, pBin, pUn, pConv, pPick, pFieldAddr, pNilCheck, pExtract, aBin, aUn, aInt, aNew, partL_f, upd, List.getElem?_cons_zero, List.getElem?_cons_succ, List.getD_cons_zero, List.getD_cons_succ, List.set_cons_zero, List.set_cons_succ, Nat.zero_add, Nat.add_zero, List.getElem?_toArray, List.take_zero, List.drop_zero, List.take_succ_cons, List.drop_succ_cons, if_true, if_false, decide_true, decide_false, Bool.false_eq_true, Bool.true_eq_false, Bool.not_true, Bool.not_false, not_true_eq_false, not_false_eq_true, ge_iff_le, gt_iff_lt, beq_self_eq_true, bne_self_eq_false, and_self, and_true, true_and, Option.isSome_some, Heap.get_alloc_same, Heap.alloc_getE, hv.len, hw.len, *] | with_reducible refine cndK_d (fun hc => ?_) (fun hc => ?_) | with_reducible refine grdK_d (fun hc => ?_) (fun hc => ?_) | with_reducible refine cndK_i (fun hc => ?_) (fun hc => ?_) | with_reducible refine grdK_i (fun hc => ?_) (fun hc => ?_))
    refine LoopW.upto a.length (fun i e h1 => h1 = h ∧ a.take i = b.take i ∧ ∃ x3 x6, e = [v, w, .bool false, x3, .int .i64 b.length, .int .i64 i, x6]) ?_ (Nat.zero_le _) ⟨rfl, by simp, _, _, rfl⟩
    rintro i _ h1 R hi ⟨rfl, hp, x3, x6, rfl⟩ hR
    delta c41_l9 c41_r0 c41_r1 c41_r2 c41_r3 c41_r4 c41_r5 c41_r6 c41_r7 c41_r8 c41_r10
    by_cases hlt : i < a.length
    · have hlt' : (i : Int) < b.length := by omega
      obtain ⟨x, hx⟩ : ∃ e, a[i]? = some e := ⟨_, List.getElem?_eq_getElem hlt⟩
      obtain ⟨y, hy⟩ : ∃ e, b[i]? = some e := ⟨_, List.getElem?_eq_getElem (by omega)⟩
      obtain ⟨id, off, cells, own, e1, e2, e3, _⟩ := hv.elem hx
      obtain ⟨id', off', cells', own', f1, f2, f3, _⟩ := hw.elem hy
      have hwr : IntKind.i64.wrap ((i : Int) + 1) = ((i + 1 : Nat) : Int) := by rw [wrapI (by omega) (by omega)]; rfl
      repeat' (first | simp -implicitDefEqProofs only [W_skip, W_reg, W_seq, W_rcond, W_cond, W_block, W_loop, W_exit, W_ret, thenQ_normal, thenQ_exit, thenQ_ret, blockQ_normal, blockQ_ret, blockQ_here, regQ_app, rcQ_app, cndK_t, cndK_f, RegW_nil, RegW_none, RegW_some, contW_app, grdK_tt, grdK_ff, grdK_tf, grdK_ft, grdK_undef, actK_p, actK_r, actK_a, actK_w, actK_call, actK_callV, heapK_app, allocK_app, writeK_app, ret1_ret, ret1_normal, ret0_ret, ret0_normal, ret2_ret2, thenK_app, retcv_ret, retcvK_app, optW_some, evs, Arg.ev, aP, aR, aA, aW, pMov, pBin, pUn, pConv, pPick, pFieldAddr, pNilCheck, pExtract, aBin, aUn, aInt, aNew, partL_f, upd, List.getElem?_cons_zero, List.getElem?_cons_succ, List.getD_cons_zero, List.getD_cons_succ, List.set_cons_zero, List.set_cons_succ, Nat.zero_add, Nat.add_zero, List.getElem?_toArray, List.take_zero, List.drop_zero, List.take_succ_cons, List.drop_succ_cons, if_true, if_false, decide_true, decide_false, Bool.false_eq_true, Bool.true_eq_false, Bool.not_true, Bool.not_false, not_true_eq_false, not_false_eq_true, ge_iff_le, gt_iff_lt, beq_self_eq_true, bne_self_eq_false, and_self, and_true, true_and, Option.isSome_some, Heap.get_alloc_same, Heap.alloc_getE, *] | with_reducible refine cndK_d (fun hc => ?_) (fun hc => ?_) | with_reducible refine grdK_d (fun hc => ?_) (fun hc => ?_) | with_reducible refine cndK_i (fun hc => ?_) (fun hc => ?_) | with_reducible refine grdK_i (fun hc => ?_) (fun hc => ?_))
      · refine hq.h _ _ ?_ (Heap.le.refl _)
        have : a ≠ b := fun e => by subst e; rw [hx] at hy; cases hy; simp at hc
        simp [this]
      · refine hR.h _ _ hlt ⟨rfl, ?_, _, _, rfl⟩
        rw [List.take_add_one, List.take_add_one, hp, hx, hy]
        simp at hc; rw [hc]
    · have hlt' : ¬ (i : Int) < b.length := by omega
      repeat' (first | simp -implicitDefEqProofs only [W_skip, W_reg, W_seq, W_rcond, W_cond, W_block, W_loop, W_exit, W_ret, thenQ_normal, thenQ_exit, thenQ_ret, blockQ_normal, blockQ_ret, blockQ_here, regQ_app, rcQ_app, cndK_t, cndK_f, RegW_nil, RegW_none, RegW_some, contW_app, grdK_tt, grdK_ff, grdK_tf, grdK_ft, grdK_undef, actK_p, actK_r, actK_a, actK_w, actK_call, actK_callV, heapK_app, allocK_app, writeK_app, ret1_ret, ret1_normal, ret0_ret, ret0_normal, ret2_ret2, thenK_app, retcv_ret, retcvK_app, optW_some, evs, Arg.ev, aP, aR, aA, aW, pMov, pBin, pUn, pConv, pPick, pFieldAddr, pNilCheck, pExtract, aBin, aUn, aInt, aNew, partL_f, upd, List.getElem?_cons_zero, List.getElem?_cons_succ, List.getD_cons_zero, List.getD_cons_succ, List.set_cons_zero, List.set_cons_succ, Nat.zero_add, Nat.add_zero, List.getElem?_toArray, List.take_zero, List.drop_zero, List.take_succ_cons, List.drop_succ_cons, if_true, if_false, decide_true, decide_false, Bool.false_eq_true, Bool.true_eq_false, Bool.not_true, Bool.not_false, not_true_eq_false, not_false_eq_true, ge_iff_le, gt_iff_lt, beq_self_eq_true, bne_self_eq_false, and_self, and_true, true_and, Option.isSome_some, Heap.get_alloc_same, Heap.alloc_getE, *] | with_reducible refine cndK_d (fun hc => ?_) (fun hc => ?_) | with_reducible refine grdK_d (fun hc => ?_) (fun hc => ?_) | with_reducible refine cndK_i (fun hc => ?_) (fun hc => ?_) | with_reducible refine grdK_i (fun hc => ?_) (fun hc => ?_))
      refine hq.h _ _ ?_ (Heap.le.refl _)
      rw [List.take_of_length_le (by omega), List.take_of_length_le (by omega)] at hp
      simp [hp]
  · have hlen' : ((a.length : Int) != (b.length : Int)) = true := by simp; omega
    repeat' (first | simp -implicitDefEqProofs only [W_skip, W_reg, W_seq, W_rcond, W_cond, W_block, W_loop, W_exit, W_ret, thenQ_normal, thenQ_exit, thenQ_ret, blockQ_normal, blockQ_ret, blockQ_here, regQ_app, rcQ_app, cndK_t, cndK_f, RegW_nil, RegW_none, RegW_some, contW_app, grdK_tt, grdK_ff, grdK_tf, grdK_ft, grdK_undef, actK_p, actK_r, actK_a, actK_w, actK_call, actK_callV, heapK_app, allocK_app, writeK_app, ret1_ret, ret1_normal, ret0_ret, ret0_normal, ret2_ret2, thenK_app, retcv_ret, retcvK_app, optW_some, evs, Arg.ev, aP, aR, aA, aW, pMov, pBin, pUn, pConv, pPick, pFieldAddr, pNilCheck, pExtract, aBin, aUn, aInt, aNew, partL_f, upd, List.getElem?_cons_zero, List.getElem?_cons_succ, List.getD_cons_zero, List.getD_cons_succ, List.set_cons_zero, List.set_cons_succ, Nat.zero_add, Nat.add_zero, List.getElem?_toArray, List.take_zero, List.drop_zero, List.take_succ_cons, List.drop_succ_cons, if_true, if_false, decide_true, decide_false, Bool.false_eq_true, Bool.true_eq_false, Bool.not_true, Bool.not_false, not_true_eq_false, not_false_eq_true, ge_iff_le, gt_iff_lt, beq_self_eq_true, bne_self_eq_false, and_self, and_true, true_and, Option.isSome_some, Heap.get_alloc_same, Heap.alloc_getE, hv.len, hw.len, *] | with_reducible refine cndK_d (fun hc => ?_) (fun hc => ?_) | with_reducible refine grdK_d (fun hc => ?_) (fun hc => ?_) | with_reducible refine cndK_i (fun hc => ?_) (fun hc => ?_) | with_reducible refine grdK_i (fun hc => ?_) (fun hc => ?_))
    refine hq.h _ _ ?_ (Heap.le.refl _)
    have : a ≠ b := fun e => hlen (by rw [e])
    simp [this]

/-- slices.Index -/
theorem index_c {v : Value} {a : List Int} {h : Heap} (hv : Ints h v a) (x : Int) (ha63 : a.length ≤ 1000000) (Q : Value → Heap → Prop)
    (hq : ∀ v h', v = .int .i64 (match a.findIdx? (fun z => x == z) with | some i => (i : Int) | none => -1) → h.le h' → Q v h') : CallW Try.prog 45 [v, .int .i64 x] h Q := by
  refine call_of1 (k := 2) ok45 rfl rfl rfl fun N => ?_
  rw [show env0 c45 [v, .int .i64 x] = [v, .int .i64 x, undef, undef, undef, undef, undef] from rfl]
  delta c45 c45_r0 c45_r1 c45_r2 c45_r3 c45_r4 c45_r5 c45_r6 c45_r8
  replace hq := Hid.mk hq
  repeat' (first | simp -implicitDefEqProofs only [W_skip, W_reg, W_seq, W_rcond, W_cond, W_block, W_loop, W_exit, W_ret, thenQ_normal, thenQ_exit, thenQ_ret, blockQ_normal, blockQ_ret, blockQ_here, regQ_app, rcQ_app, cndK_t, cndK_f, RegW_nil, RegW_none, RegW_some, contW_app, grdK_tt, grdK_ff, grdK_tf, grdK_ft, grdK_undef, actK_p, actK_r, actK_a, actK_w, actK_call, actK_callV, heapK_app, allocK_app, writeK_app, ret1_ret, ret1_normal, ret0_ret, ret0_normal, ret2_ret2, thenK_app, retcv_ret, retcvK_app, optW_some, evs, Arg.ev, aP, aR, aA, aW, pMov, pBin, pUn, pConv, pPick, pFieldAddr, pNilCheck, pExtract, aBin, aUn, aInt, aNew, partL_f, upd, List.getElem?_cons_zero, List.getElem?_cons_succ, List.getD_cons_zero, List.getD_cons_succ, List.set_cons_zero, List.set_cons_succ, Nat.zero_add, Nat.add_zero, List.getElem?_toArray, List.take_zero, List.drop_zero, List.take_succ_cons, List.drop_succ_cons, if_true, if_false, decide_true, decide_false, Bool.false_eq_true, Bool.true_eq_false, Bool.not_true, Bool.not_false, not_true_eq_false, not_false_eq_true, ge_iff_le, gt_iff_lt, beq_self_eq_true, bne_self_eq_false, and_self, and_true, true_and, Option.isSome_some, Heap.get_alloc_same, Heap.alloc_getE, hv.len, *] | with_reducible refine cndK_d (fun hc => ?_) (fun hc => ?_) | with_reducible refine grdK_d (fun hc => ?_) (fun hc => ?_) | with_reducible refine cndK_i (fun hc => ?_) (fun hc => ?_) | with_reducible refine grdK_i (fun hc => ?_) (fun hc => ?_))
  refine LoopW.upto a.length (fun i e h1 => h1 = h ∧ (∀ j z, j < i → a[j]? = some z → (x == z) = false) ∧ ∃ x3 x6, e = [v, .int .i64 x, .int .i64 0, x3, .int .i64 a.length, .int .i64 i, x6]) ?_ (Nat.zero_le _) ⟨rfl, by intro j e hj; omega, _, _, rfl⟩
  rintro i _ h1 R hi ⟨rfl, hp, x3, x6, rfl⟩ hR
  delta c45_l7 c45_r0 c45_r1 c45_r2 c45_r3 c45_r4 c45_r5 c45_r6 c45_r8
  by_cases hlt : i < a.length
  · have hlt' : (i : Int) < a.length := by omega
    obtain ⟨y, hy⟩ : ∃ e, a[i]? = some e := ⟨_, List.getElem?_eq_getElem hlt⟩
    obtain ⟨id, off, cells, own, e1, e2, e3, _⟩ := hv.elem hy
    have hwr : IntKind.i64.wrap ((i : Int) + 1) = ((i + 1 : Nat) : Int) := by rw [wrapI (by omega) (by omega)]; rfl
    repeat' (first | simp -implicitDefEqProofs only [W_skip, W_reg, W_seq, W_rcond, W_cond, W_block, W_loop, W_exit, W_ret, thenQ_normal, thenQ_exit, thenQ_ret, blockQ_normal, blockQ_ret, blockQ_here, regQ_app, rcQ_app, cndK_t, cndK_f, RegW_nil, RegW_none, RegW_some, contW_app, grdK_tt, grdK_ff, grdK_tf, grdK_ft, grdK_undef, actK_p, actK_r, actK_a, actK_w, actK_call, actK_callV, heapK_app, allocK_app, writeK_app, ret1_ret, ret1_normal, ret0_ret, ret0_normal, ret2_ret2, thenK_app, retcv_ret, retcvK_app, optW_some, evs, Arg.ev, aP, aR, aA, aW, pMov, pBin, pUn, pConv, pPick, pFieldAddr, pNilCheck, pExtract, aBin, aUn, aInt, aNew, partL_f, upd, List.getElem?_cons_zero, List.getElem?_cons_succ, List.getD_cons_zero, List.getD_cons_succ, List.set_cons_zero, List.set_cons_succ, Nat.zero_add, Nat.add_zero, List.getElem?_toArray, List.take_zero, List.drop_zero, List.take_succ_cons, List.drop_succ_cons, if_true, if_false, decide_true, decide_false, Bool.false_eq_true, Bool.true_eq_false, Bool.not_true, Bool.not_false, not_true_eq_false, not_false_eq_true, ge_iff_le, gt_iff_lt, beq_self_eq_true, bne_self_eq_false, and_self, and_true, true_and, Option.isSome_some, Heap.get_alloc_same, Heap.alloc_getE, *] | with_reducible refine cndK_d (fun hc => ?_) (fun hc => ?_) | with_reducible refine grdK_d (fun hc => ?_) (fun hc => ?_) | with_reducible refine cndK_i (fun hc => ?_) (fun hc => ?_) | with_reducible refine grdK_i (fun hc => ?_) (fun hc => ?_))
    · refine hq.h _ _ ?_ (Heap.le.refl _)
      have : a.findIdx? (fun z => x == z) = some i := by
        rw [List.findIdx?_eq_some_iff_getElem]
        refine ⟨hlt, by rw [List.getElem?_eq_getElem hlt] at hy; cases hy; exact hc, fun j hj => ?_⟩
        have := hp j a[j] hj (List.getElem?_eq_getElem _)
        simp only [this]; decide
      rw [this]
    · refine hR.h _ _ hlt ⟨rfl, fun j z hj hz => ?_, _, _, rfl⟩
      by_cases hji : j = i
      · subst hji; rw [hy] at hz; cases hz; exact hc
      · exact hp j z (by omega) hz
  · have hlt' : ¬ (i : Int) < a.length := by omega
    have hnone : a.findIdx? (fun z => x == z) = none := by
      rw [List.findIdx?_eq_none_iff]
      intro e he
      obtain ⟨j, hj⟩ := List.mem_iff_getElem?.1 he
      exact hp j e (by have := (List.getElem?_eq_some_iff.1 hj).1; omega) hj
    repeat' (first | simp -implicitDefEqProofs only [W_skip, W_reg, W_seq, W_rcond, W_cond, W_block, W_loop, W_exit, W_ret, thenQ_normal, thenQ_exit, thenQ_ret, blockQ_normal, blockQ_ret, blockQ_here, regQ_app, rcQ_app, cndK_t, cndK_f, RegW_nil, RegW_none, RegW_some, contW_app, grdK_tt, grdK_ff, grdK_tf, grdK_ft, grdK_undef, actK_p, actK_r, actK_a, actK_w, actK_call, actK_callV, heapK_app, allocK_app, writeK_app, ret1_ret, ret1_normal, ret0_ret, ret0_normal, ret2_ret2, thenK_app, retcv_ret, retcvK_app, optW_some, evs, Arg.ev, aP, aR, aA, aW, pMov, pBin, pUn, pConv, pPick, pFieldAddr, pNilCheck, pExtract, aBin, aUn, aInt, aNew, partL_f, upd, List.getElem?_cons_zero, List.getElem?_cons_succ, List.getD_cons_zero, List.getD_cons_succ, List.set_cons_zero, List.set_cons_succ, Nat.zero_add, Nat.add_zero, List.getElem?_toArray, List.take_zero, List.drop_zero, List.take_succ_cons, List.drop_succ_cons, if_true, if_false, decide_true, decide_false, Bool.false_eq_true, Bool.true_eq_false, Bool.not_true, Bool.not_false, not_true_eq_false, not_false_eq_true, ge_iff_le, gt_iff_lt, beq_self_eq_true, bne_self_eq_false, and_self, and_true, true_and, Option.isSome_some, Heap.get_alloc_same, Heap.alloc_getE, *] | with_reducible refine cndK_d (fun hc => ?_) (fun hc => ?_) | with_reducible refine grdK_d (fun hc => ?_) (fun hc => ?_) | with_reducible refine cndK_i (fun hc => ?_) (fun hc => ?_) | with_reducible refine grdK_i (fun hc => ?_) (fun hc => ?_))
    exact hq.h _ _ (by rw [hnone]) (Heap.le.refl _)

theorem isNaN_c (x : Int) (h : Heap) (Q : Value → Heap → Prop) (hq : Q (.bool false) h) : CallW Try.prog 76 [.int .i64 x] h Q := by
  refine call_of1 (k := 1) ok76 rfl rfl rfl fun N => ?_
  rw [show env0 c76 [.int .i64 x] = [.int .i64 x, undef] from rfl]
  delta c76 c76_r0 c76_r1
  replace hq := Hid.mk hq
  repeat' (first | simp -implicitDefEqProofs only [W_skip, W_reg, W_seq, W_rcond, W_cond, W_block, W_loop, W_exit, W_ret, thenQ_normal, thenQ_exit, thenQ_ret, blockQ_normal, blockQ_ret, blockQ_here, regQ_app, rcQ_app, cndK_t, cndK_f, RegW_nil, RegW_none, RegW_some, contW_app, grdK_tt, grdK_ff, grdK_tf, grdK_ft, grdK_undef, actK_p, actK_r, actK_a, actK_w, actK_call, actK_callV, heapK_app, allocK_app, writeK_app, ret1_ret, ret1_normal, ret0_ret, ret0_normal, ret2_ret2, thenK_app, retcv_ret, retcvK_app, optW_some, evs, Arg.ev, aP, aR, aA, aW, pMov, pBin, pUn, pConv, pPick, pFieldAddr, pNilCheck, pExtract, aBin, aUn, aInt, aNew, partL_f, upd, List.getElem?_cons_zero, List.getElem?_cons_succ, List.getD_cons_zero, List.getD_cons_succ, List.set_cons_zero, List.set_cons_succ, Nat.zero_add, Nat.add_zero, List.getElem?_toArray, List.take_zero, List.drop_zero, List.take_succ_cons, List.drop_succ_cons, if_true, if_false, decide_true, decide_false, Bool.false_eq_true, Bool.true_eq_false, Bool.not_true, Bool.not_false, not_true_eq_false, not_false_eq_true, ge_iff_le, gt_iff_lt, beq_self_eq_true, bne_self_eq_false, and_self, and_true, true_and, Option.isSome_some, Heap.get_alloc_same, Heap.alloc_getE, *] | with_reducible refine cndK_d (fun hc => ?_) (fun hc => ?_) | with_reducible refine grdK_d (fun hc => ?_) (fun hc => ?_) | with_reducible refine cndK_i (fun hc => ?_) (fun hc => ?_) | with_reducible refine grdK_i (fun hc => ?_) (fun hc => ?_))
  exact hq.h
theorem less_c (x y : Int) (h : Heap) (Q : Value → Heap → Prop) (hq : Q (.bool (decide (x < y))) h) : CallW Try.prog 66 [.int .i64 x, .int .i64 y] h Q := by
  refine call_of1 (k := 2) ok66 rfl rfl rfl fun N => ?_
  rw [show env0 c66 [.int .i64 x, .int .i64 y] = [.int .i64 x, .int .i64 y, undef] from rfl]
  delta c66 c66_r0 c66_r1
  replace hq := Hid.mk hq
  repeat' (first | simp -implicitDefEqProofs only [W_skip, W_reg, W_seq, W_rcond, W_cond, W_block, W_loop, W_exit, W_ret, thenQ_normal, thenQ_exit, thenQ_ret, blockQ_normal, blockQ_ret, blockQ_here, regQ_app, rcQ_app, cndK_t, cndK_f, RegW_nil, RegW_none, RegW_some, contW_app, grdK_tt, grdK_ff, grdK_tf, grdK_ft, grdK_undef, actK_p, actK_r, actK_a, actK_w, actK_call, actK_callV, heapK_app, allocK_app, writeK_app, ret1_ret, ret1_normal, ret0_ret, ret0_normal, ret2_ret2, thenK_app, retcv_ret, retcvK_app, optW_some, evs, Arg.ev, aP, aR, aA, aW, pMov, pBin, pUn, pConv, pPick, pFieldAddr, pNilCheck, pExtract, aBin, aUn, aInt, aNew, partL_f, upd, List.getElem?_cons_zero, List.getElem?_cons_succ, List.getD_cons_zero, List.getD_cons_succ, List.set_cons_zero, List.set_cons_succ, Nat.zero_add, Nat.add_zero, List.getElem?_toArray, List.take_zero, List.drop_zero, List.take_succ_cons, List.drop_succ_cons, if_true, if_false, decide_true, decide_false, Bool.false_eq_true, Bool.true_eq_false, Bool.not_true, Bool.not_false, not_true_eq_false, not_false_eq_true, ge_iff_le, gt_iff_lt, beq_self_eq_true, bne_self_eq_false, and_self, and_true, true_and, Option.isSome_some, Heap.get_alloc_same, Heap.alloc_getE, *] | with_reducible refine cndK_d (fun hc => ?_) (fun hc => ?_) | with_reducible refine grdK_d (fun hc => ?_) (fun hc => ?_) | with_reducible refine cndK_i (fun hc => ?_) (fun hc => ?_) | with_reducible refine grdK_i (fun hc => ?_) (fun hc => ?_))
  refine isNaN_c x h _ ?_
  repeat' (first | simp -implicitDefEqProofs only [W_skip, W_reg, W_seq, W_rcond, W_cond, W_block, W_loop, W_exit, W_ret, thenQ_normal, thenQ_exit, thenQ_ret, blockQ_normal, blockQ_ret, blockQ_here, regQ_app, rcQ_app, cndK_t, cndK_f, RegW_nil, RegW_none, RegW_some, contW_app, grdK_tt, grdK_ff, grdK_tf, grdK_ft, grdK_undef, actK_p, actK_r, actK_a, actK_w, actK_call, actK_callV, heapK_app, allocK_app, writeK_app, ret1_ret, ret1_normal, ret0_ret, ret0_normal, ret2_ret2, thenK_app, retcv_ret, retcvK_app, optW_some, evs, Arg.ev, aP, aR, aA, aW, pMov, pBin, pUn, pConv, pPick, pFieldAddr, pNilCheck, pExtract, aBin, aUn, aInt, aNew, partL_f, upd, List.getElem?_cons_zero, List.getElem?_cons_succ, List.getD_cons_zero, List.getD_cons_succ, List.set_cons_zero, List.set_cons_succ, Nat.zero_add, Nat.add_zero, List.getElem?_toArray, List.take_zero, List.drop_zero, List.take_succ_cons, List.drop_succ_cons, if_true, if_false, decide_true, decide_false, Bool.false_eq_true, Bool.true_eq_false, Bool.not_true, Bool.not_false, not_true_eq_false, not_false_eq_true, ge_iff_le, gt_iff_lt, beq_self_eq_true, bne_self_eq_false, and_self, and_true, true_and, Option.isSome_some, Heap.get_alloc_same, Heap.alloc_getE, *] | with_reducible refine cndK_d (fun hc => ?_) (fun hc => ?_) | with_reducible refine grdK_d (fun hc => ?_) (fun hc => ?_) | with_reducible refine cndK_i (fun hc => ?_) (fun hc => ?_) | with_reducible refine grdK_i (fun hc => ?_) (fun hc => ?_))
  exact hq.h

def iblk (ys : List Int) : AObj := .blk (ys.map (.int .i64)) true
theorem iblk_get {ys : List Int} {j : Nat} (hj : j < ys.length) : (ys.map (Value.int .i64))[j]? = some (.int .i64 (ys[j]'hj)) := by simp [hj]
/-- slices' insertion sort, all of a slice -/
theorem insertion_c {id : Nat} {xs : List Int} {h : Heap} (hg : h.get id = some (iblk xs)) (hn : xs.length ≤ 1000000) (Q : Value → Heap → Prop)
    (hq : ∀ h' ys, ys.Perm xs → ys.Pairwise (· ≤ ·) → h'.get id = some (iblk ys) → h.leBut id h' → Q (.tuple #[]) h') : CallW Try.prog 60 [.slice (some ⟨id, 0, none⟩) xs.length 1, .int .i64 0, .int .i64 xs.length] h Q := by
  refine call_of0 ok60 rfl rfl rfl fun N => ?_
  rw [show env0 c60 [.slice (some ⟨id, 0, none⟩) xs.length 1, .int .i64 0, .int .i64 xs.length] = [.slice (some ⟨id, 0, none⟩) xs.length 1, .int .i64 0, .int .i64 xs.length, undef, undef] from rfl]
  delta c60 c60_r0 c60_r1 c60_r2 c60_r3 c60_r4 c60_r5 c60_r7
  replace hq := Hid.mk hq
  have hwr1 : IntKind.i64.wrap ((0 : Int) + 1) = ((1 : Nat) : Int) := by decide
  repeat' (first | simp -implicitDefEqProofs only [W_skip, W_reg, W_seq, W_rcond, W_cond, W_block, W_loop, W_exit, W_ret, thenQ_normal, thenQ_exit, thenQ_ret, blockQ_normal, blockQ_ret, blockQ_here, regQ_app, rcQ_app, cndK_t, cndK_f, RegW_nil, RegW_none, RegW_some, contW_app, grdK_tt, grdK_ff, grdK_tf, grdK_ft, grdK_undef, actK_p, actK_r, actK_a, actK_w, actK_call, actK_callV, heapK_app, allocK_app, writeK_app, ret1_ret, ret1_normal, ret0_ret, ret0_normal, ret2_ret2, thenK_app, retcv_ret, retcvK_app, optW_some, evs, Arg.ev, aP, aR, aA, aW, pMov, pBin, pUn, pConv, pPick, pFieldAddr, pNilCheck, pExtract, aBin, aUn, aInt, aNew, partL_f, upd, List.getElem?_cons_zero, List.getElem?_cons_succ, List.getD_cons_zero, List.getD_cons_succ, List.set_cons_zero, List.set_cons_succ, Nat.zero_add, Nat.add_zero, List.getElem?_toArray, List.take_zero, List.drop_zero, List.take_succ_cons, List.drop_succ_cons, if_true, if_false, decide_true, decide_false, Bool.false_eq_true, Bool.true_eq_false, Bool.not_true, Bool.not_false, not_true_eq_false, not_false_eq_true, ge_iff_le, gt_iff_lt, beq_self_eq_true, bne_self_eq_false, and_self, and_true, true_and, Option.isSome_some, Heap.get_alloc_same, Heap.alloc_getE, *] | with_reducible refine cndK_d (fun hc => ?_) (fun hc => ?_) | with_reducible refine grdK_d (fun hc => ?_) (fun hc => ?_) | with_reducible refine cndK_i (fun hc => ?_) (fun hc => ?_) | with_reducible refine grdK_i (fun hc => ?_) (fun hc => ?_))
  refine LoopW.down (fun m e h1 => ∃ i, m = xs.length + 1 - i ∧ 1 ≤ i ∧ i ≤ xs.length + 1 ∧ h.leBut id h1 ∧ (∃ ys : List Int, ys.Perm xs ∧ h1.get id = some (iblk ys) ∧ ∀ (p q : Nat) (hq : q < ys.length) (hpq : p < q), q < i → ys[p]'(Nat.lt_trans hpq hq) ≤ ys[q]) ∧ ∃ x4, e = [.slice (some ⟨id, 0, none⟩) xs.length 1, .int .i64 0, .int .i64 xs.length, .int .i64 i, x4]) ?_ ⟨1, rfl, by omega, by omega, Heap.leBut.refl _ _, ⟨xs, List.Perm.refl _, hg, fun p q hq h1 h2 => by omega⟩, _, rfl⟩
  rintro m _ h1 R ⟨i, rfl, hi1, hi2, hl1, ⟨ys, hp, hg1, hs⟩, x4, rfl⟩ hR
  have hlen := hp.length_eq
  delta c60_l8 c60_r0 c60_r1 c60_r2 c60_r3 c60_r4 c60_r5 c60_r7
  by_cases hlt : i < xs.length
  · have hlt' : (i : Int) < xs.length := by omega
    repeat' (first | simp -implicitDefEqProofs only [W_skip, W_reg, W_seq, W_rcond, W_cond, W_block, W_loop, W_exit, W_ret, thenQ_normal, thenQ_exit, thenQ_ret, blockQ_normal, blockQ_ret, blockQ_here, regQ_app, rcQ_app, cndK_t, cndK_f, RegW_nil, RegW_none, RegW_some, contW_app, grdK_tt, grdK_ff, grdK_tf, grdK_ft, grdK_undef, actK_p, actK_r, actK_a, actK_w, actK_call, actK_callV, heapK_app, allocK_app, writeK_app, ret1_ret, ret1_normal, ret0_ret, ret0_normal, ret2_ret2, thenK_app, retcv_ret, retcvK_app, optW_some, evs, Arg.ev, aP, aR, aA, aW, pMov, pBin, pUn, pConv, pPick, pFieldAddr, pNilCheck, pExtract, aBin, aUn, aInt, aNew, partL_f, upd, List.getElem?_cons_zero, List.getElem?_cons_succ, List.getD_cons_zero, List.getD_cons_succ, List.set_cons_zero, List.set_cons_succ, Nat.zero_add, Nat.add_zero, List.getElem?_toArray, List.take_zero, List.drop_zero, List.take_succ_cons, List.drop_succ_cons, if_true, if_false, decide_true, decide_false, Bool.false_eq_true, Bool.true_eq_false, Bool.not_true, Bool.not_false, not_true_eq_false, not_false_eq_true, ge_iff_le, gt_iff_lt, beq_self_eq_true, bne_self_eq_false, and_self, and_true, true_and, Option.isSome_some, Heap.get_alloc_same, Heap.alloc_getE, *] | with_reducible refine cndK_d (fun hc => ?_) (fun hc => ?_) | with_reducible refine grdK_d (fun hc => ?_) (fun hc => ?_) | with_reducible refine cndK_i (fun hc => ?_) (fun hc => ?_) | with_reducible refine grdK_i (fun hc => ?_) (fun hc => ?_))
    refine LoopW.down (fun j e h1 => j ≤ i ∧ h.leBut id h1 ∧ (∃ ys : List Int, ys.Perm xs ∧ h1.get id = some (iblk ys) ∧ ∀ (p q : Nat) (hq : q < ys.length) (hpq : p < q), q ≤ i → q ≠ j → ys[p]'(Nat.lt_trans hpq hq) ≤ ys[q]) ∧ e = [.slice (some ⟨id, 0, none⟩) xs.length 1, .int .i64 0, .int .i64 xs.length, .int .i64 i, .int .i64 j]) ?_ ⟨Nat.le_refl _, hl1, ⟨ys, hp, hg1, fun p q hq h1 h2 h3 => hs p q hq h1 (by omega)⟩, rfl⟩
    clear hs hg1 hp hlen hl1 ys
    rintro j _ h2 R2 ⟨hj, hl2, ⟨ys, hp, hg2, hs⟩, rfl⟩ hR2
    have hlen := hp.length_eq
    delta c60_l6 c60_r0 c60_r1 c60_r2 c60_r3 c60_r4 c60_r5 c60_r7
    have done : (∀ (p q : Nat) (hq : q < ys.length) (hpq : p < q), q < i + 1 → ys[p]'(Nat.lt_trans hpq hq) ≤ ys[q]) → R [.slice (some ⟨id, 0, none⟩) xs.length 1, .int .i64 0, .int .i64 xs.length, .int .i64 ((i + 1 : Nat) : Int), .int .i64 j] h2 := fun hs' =>
      hR.h _ _ _ (by omega) ⟨i + 1, rfl, by omega, by omega, hl2, ⟨ys, hp, hg2, hs'⟩, _, rfl⟩
    have hwr : IntKind.i64.wrap ((i : Int) + 1) = ((i + 1 : Nat) : Int) := by rw [wrapI (by omega) (by omega)]; rfl
    have hg2x := Hid.mk hg2
    by_cases hj0 : 0 < j
    · have hj0' : (0 : Int) < j := by omega
      have hwj : IntKind.i64.wrap ((j : Int) - 1) = ((j - 1 : Nat) : Int) := by rw [wrapI (by omega) (by omega)]; omega
      have a1 := idx1 (id := id) (n := xs.length) (j := j) (by omega)
      have a2 := idx1 (id := id) (n := xs.length) (j := j - 1) (by omega)
      have g1 := iblk_get (ys := ys) (j := j) (by omega)
      have g2 := iblk_get (ys := ys) (j := j - 1) (by omega)
      have hg2' : h2.get id = some (.blk (ys.map (.int .i64)) true) := hg2
      clear hg2
      repeat' (first | simp -implicitDefEqProofs only [W_skip, W_reg, W_seq, W_rcond, W_cond, W_block, W_loop, W_exit, W_ret, thenQ_normal, thenQ_exit, thenQ_ret, blockQ_normal, blockQ_ret, blockQ_here, regQ_app, rcQ_app, cndK_t, cndK_f, RegW_nil, RegW_none, RegW_some, contW_app, grdK_tt, grdK_ff, grdK_tf, grdK_ft, grdK_undef, actK_p, actK_r, actK_a, actK_w, actK_call, actK_callV, heapK_app, allocK_app, writeK_app, ret1_ret, ret1_normal, ret0_ret, ret0_normal, ret2_ret2, thenK_app, retcv_ret, retcvK_app, optW_some, evs, Arg.ev, aP, aR, aA, aW, pMov, pBin, pUn, pConv, pPick, pFieldAddr, pNilCheck, pExtract, aBin, aUn, aInt, aNew, partL_f, upd, List.getElem?_cons_zero, List.getElem?_cons_succ, List.getD_cons_zero, List.getD_cons_succ, List.set_cons_zero, List.set_cons_succ, Nat.zero_add, Nat.add_zero, List.getElem?_toArray, List.take_zero, List.drop_zero, List.take_succ_cons, List.drop_succ_cons, if_true, if_false, decide_true, decide_false, Bool.false_eq_true, Bool.true_eq_false, Bool.not_true, Bool.not_false, not_true_eq_false, not_false_eq_true, ge_iff_le, gt_iff_lt, beq_self_eq_true, bne_self_eq_false, and_self, and_true, true_and, Option.isSome_some, Heap.get_alloc_same, Heap.alloc_getE, *] | with_reducible refine cndK_d (fun hc => ?_) (fun hc => ?_) | with_reducible refine grdK_d (fun hc => ?_) (fun hc => ?_) | with_reducible refine cndK_i (fun hc => ?_) (fun hc => ?_) | with_reducible refine grdK_i (fun hc => ?_) (fun hc => ?_))
      refine less_c _ _ _ _ ?_
      by_cases hless : ys[j] < ys[j - 1]
      · have s1 := wStore_int (k := .i64) (z := ys[j - 1]) (off := j) hg2' (by simp; omega)
        have hg3 : (h2.set id (.blk ((ys.map (.int .i64)).set j (.int .i64 ys[j - 1])) true)).get id = some (.blk ((ys.map (.int .i64)).set j (.int .i64 ys[j - 1])) true) := Heap.set_getS _ _ _ (by rw [hg2']; rfl)
        have s2 := wStore_int (k := .i64) (z := ys[j]) (off := j - 1) hg3 (by simp; omega)
        repeat' (first | simp -implicitDefEqProofs only [W_skip, W_reg, W_seq, W_rcond, W_cond, W_block, W_loop, W_exit, W_ret, thenQ_normal, thenQ_exit, thenQ_ret, blockQ_normal, blockQ_ret, blockQ_here, regQ_app, rcQ_app, cndK_t, cndK_f, RegW_nil, RegW_none, RegW_some, contW_app, grdK_tt, grdK_ff, grdK_tf, grdK_ft, grdK_undef, actK_p, actK_r, actK_a, actK_w, actK_call, actK_callV, heapK_app, allocK_app, writeK_app, ret1_ret, ret1_normal, ret0_ret, ret0_normal, ret2_ret2, thenK_app, retcv_ret, retcvK_app, optW_some, evs, Arg.ev, aP, aR, aA, aW, pMov, pBin, pUn, pConv, pPick, pFieldAddr, pNilCheck, pExtract, aBin, aUn, aInt, aNew, partL_f, upd, List.getElem?_cons_zero, List.getElem?_cons_succ, List.getD_cons_zero, List.getD_cons_succ, List.set_cons_zero, List.set_cons_succ, Nat.zero_add, Nat.add_zero, List.getElem?_toArray, List.take_zero, List.drop_zero, List.take_succ_cons, List.drop_succ_cons, if_true, if_false, decide_true, decide_false, Bool.false_eq_true, Bool.true_eq_false, Bool.not_true, Bool.not_false, not_true_eq_false, not_false_eq_true, ge_iff_le, gt_iff_lt, beq_self_eq_true, bne_self_eq_false, and_self, and_true, true_and, Option.isSome_some, Heap.get_alloc_same, Heap.alloc_getE, *] | with_reducible refine cndK_d (fun hc => ?_) (fun hc => ?_) | with_reducible refine grdK_d (fun hc => ?_) (fun hc => ?_) | with_reducible refine cndK_i (fun hc => ?_) (fun hc => ?_) | with_reducible refine grdK_i (fun hc => ?_) (fun hc => ?_))
        refine hR2.h (j - 1) _ _ (by omega) ⟨by omega, (hl2.trans (Heap.leBut.set _ _ _)).trans (Heap.leBut.set _ _ _), ⟨(ys.set j ys[j - 1]).set (j - 1) ys[j], (List.set_set_perm _ _).trans hp, ?_, ?_⟩, rfl⟩
        · rw [Heap.set_getS _ _ _ (by rw [hg3]; rfl)]
          simp [iblk, List.map_set]
        · intro p q hq h1 h2 h3
          simp only [List.getElem_set]
          simp only [List.length_set] at hq
          have k1 := hs p q hq h1 h2
          have k2 : p < j - 1 → ys[p] ≤ ys[j - 1] := fun h => hs p (j - 1) (by omega) h (by omega) (by omega)
          have k3 : j < q → ys[j] ≤ ys[q] := fun h => hs j q hq h h2 (by omega)
          have k4 : j < q → ys[j - 1] ≤ ys[q] := fun h => hs (j - 1) q hq (by omega) h2 (by omega)
          by_cases c1 : j - 1 = p
          · rw [if_pos c1]
            by_cases c2 : j - 1 = q
            · omega
            · rw [if_neg c2]
              by_cases c3 : j = q
              · rw [if_pos c3]; omega
              · rw [if_neg c3]; exact k3 (by omega)
          · rw [if_neg c1]
            by_cases c2 : j - 1 = q
            · rw [if_neg (by omega), if_pos c2]
              have h5 := hs p j (by omega) (by omega)
              omega
            · rw [if_neg c2]
              by_cases c3 : j = q
              · rw [if_neg (by omega), if_pos c3]; exact k2 (by omega)
              · rw [if_neg c3]
                by_cases c4 : j = p
                · rw [if_pos c4]; exact k4 (by omega)
                · rw [if_neg c4]; exact k1 (by omega)
      · repeat' (first | simp -implicitDefEqProofs only [W_skip, W_reg, W_seq, W_rcond, W_cond, W_block, W_loop, W_exit, W_ret, thenQ_normal, thenQ_exit, thenQ_ret, blockQ_normal, blockQ_ret, blockQ_here, regQ_app, rcQ_app, cndK_t, cndK_f, RegW_nil, RegW_none, RegW_some, contW_app, grdK_tt, grdK_ff, grdK_tf, grdK_ft, grdK_undef, actK_p, actK_r, actK_a, actK_w, actK_call, actK_callV, heapK_app, allocK_app, writeK_app, ret1_ret, ret1_normal, ret0_ret, ret0_normal, ret2_ret2, thenK_app, retcv_ret, retcvK_app, optW_some, evs, Arg.ev, aP, aR, aA, aW, pMov, pBin, pUn, pConv, pPick, pFieldAddr, pNilCheck, pExtract, aBin, aUn, aInt, aNew, partL_f, upd, List.getElem?_cons_zero, List.getElem?_cons_succ, List.getD_cons_zero, List.getD_cons_succ, List.set_cons_zero, List.set_cons_succ, Nat.zero_add, Nat.add_zero, List.getElem?_toArray, List.take_zero, List.drop_zero, List.take_succ_cons, List.drop_succ_cons, if_true, if_false, decide_true, decide_false, Bool.false_eq_true, Bool.true_eq_false, Bool.not_true, Bool.not_false, not_true_eq_false, not_false_eq_true, ge_iff_le, gt_iff_lt, beq_self_eq_true, bne_self_eq_false, and_self, and_true, true_and, Option.isSome_some, Heap.get_alloc_same, Heap.alloc_getE, *] | with_reducible refine cndK_d (fun hc => ?_) (fun hc => ?_) | with_reducible refine grdK_d (fun hc => ?_) (fun hc => ?_) | with_reducible refine cndK_i (fun hc => ?_) (fun hc => ?_) | with_reducible refine grdK_i (fun hc => ?_) (fun hc => ?_))
        refine done fun p q hq h1 h2 => ?_
        by_cases hqj : q = j
        · subst hqj
          by_cases hpq : p = q - 1
          · subst hpq; omega
          · have := hs p (q - 1) (by omega) (by omega) (by omega) (by omega)
            omega
        · exact hs p q hq h1 (by omega) hqj
    · have hj0' : ¬ (0 : Int) < j := by omega
      repeat' (first | simp -implicitDefEqProofs only [W_skip, W_reg, W_seq, W_rcond, W_cond, W_block, W_loop, W_exit, W_ret, thenQ_normal, thenQ_exit, thenQ_ret, blockQ_normal, blockQ_ret, blockQ_here, regQ_app, rcQ_app, cndK_t, cndK_f, RegW_nil, RegW_none, RegW_some, contW_app, grdK_tt, grdK_ff, grdK_tf, grdK_ft, grdK_undef, actK_p, actK_r, actK_a, actK_w, actK_call, actK_callV, heapK_app, allocK_app, writeK_app, ret1_ret, ret1_normal, ret0_ret, ret0_normal, ret2_ret2, thenK_app, retcv_ret, retcvK_app, optW_some, evs, Arg.ev, aP, aR, aA, aW, pMov, pBin, pUn, pConv, pPick, pFieldAddr, pNilCheck, pExtract, aBin, aUn, aInt, aNew, partL_f, upd, List.getElem?_cons_zero, List.getElem?_cons_succ, List.getD_cons_zero, List.getD_cons_succ, List.set_cons_zero, List.set_cons_succ, Nat.zero_add, Nat.add_zero, List.getElem?_toArray, List.take_zero, List.drop_zero, List.take_succ_cons, List.drop_succ_cons, if_true, if_false, decide_true, decide_false, Bool.false_eq_true, Bool.true_eq_false, Bool.not_true, Bool.not_false, not_true_eq_false, not_false_eq_true, ge_iff_le, gt_iff_lt, beq_self_eq_true, bne_self_eq_false, and_self, and_true, true_and, Option.isSome_some, Heap.get_alloc_same, Heap.alloc_getE, *] | with_reducible refine cndK_d (fun hc => ?_) (fun hc => ?_) | with_reducible refine grdK_d (fun hc => ?_) (fun hc => ?_) | with_reducible refine cndK_i (fun hc => ?_) (fun hc => ?_) | with_reducible refine grdK_i (fun hc => ?_) (fun hc => ?_))
      refine done fun p q hq h1 h2 => ?_
      exact hs p q hq h1 (by omega) (by omega)
  · have hlt' : ¬ (i : Int) < xs.length := by omega
    repeat' (first | simp -implicitDefEqProofs only [W_skip, W_reg, W_seq, W_rcond, W_cond, W_block, W_loop, W_exit, W_ret, thenQ_normal, thenQ_exit, thenQ_ret, blockQ_normal, blockQ_ret, blockQ_here, regQ_app, rcQ_app, cndK_t, cndK_f, RegW_nil, RegW_none, RegW_some, contW_app, grdK_tt, grdK_ff, grdK_tf, grdK_ft, grdK_undef, actK_p, actK_r, actK_a, actK_w, actK_call, actK_callV, heapK_app, allocK_app, writeK_app, ret1_ret, ret1_normal, ret0_ret, ret0_normal, ret2_ret2, thenK_app, retcv_ret, retcvK_app, optW_some, evs, Arg.ev, aP, aR, aA, aW, pMov, pBin, pUn, pConv, pPick, pFieldAddr, pNilCheck, pExtract, aBin, aUn, aInt, aNew, partL_f, upd, List.getElem?_cons_zero, List.getElem?_cons_succ, List.getD_cons_zero, List.getD_cons_succ, List.set_cons_zero, List.set_cons_succ, Nat.zero_add, Nat.add_zero, List.getElem?_toArray, List.take_zero, List.drop_zero, List.take_succ_cons, List.drop_succ_cons, if_true, if_false, decide_true, decide_false, Bool.false_eq_true, Bool.true_eq_false, Bool.not_true, Bool.not_false, not_true_eq_false, not_false_eq_true, ge_iff_le, gt_iff_lt, beq_self_eq_true, bne_self_eq_false, and_self, and_true, true_and, Option.isSome_some, Heap.get_alloc_same, Heap.alloc_getE, *] | with_reducible refine cndK_d (fun hc => ?_) (fun hc => ?_) | with_reducible refine grdK_d (fun hc => ?_) (fun hc => ?_) | with_reducible refine cndK_i (fun hc => ?_) (fun hc => ?_) | with_reducible refine grdK_i (fun hc => ?_) (fun hc => ?_))
    refine hq.h _ ys hp ?_ hg1 hl1
    rw [List.pairwise_iff_getElem]
    intro p q hp' hq' hpq
    exact hs p q hq' hpq (by omega)
end Go.Eng.Ax

set_option linter.unusedSimpArgs false
set_option linter.unusedVariables false
namespace Go.Eng.Ax
open Go Go.Eng Go.Proofs

set_option maxRecDepth 20000 in
theorem len64_c (n : Nat) (hn : n ≤ 255) (h : Heap) (Q : Value → Heap → Prop) (hq : ∀ z, Q (.int .i64 z) h) : CallW Try.prog 70 [.int .u64 n] h Q := by
  have h1 : ¬ (4294967296 : Int) ≤ n := by omega
  have h2 : ¬ (65536 : Int) ≤ n := by omega
  have h3 : ¬ (256 : Int) ≤ n := by omega
  have hw : IntKind.u8.wrap (n : Int) = n := by simp [IntKind.wrap, IntKind.signed, IntKind.bits]; omega
  have hidx : ∀ (s : ByteArray), s.size = 256 → ∃ b, pIdxStr [.string s, .int .u8 (n : Int)] = some (.int .u8 b) := by
    intro s hs
    refine ⟨(s[n]'(by omega)).toNat, ?_⟩
    simp [pIdxStr, getElem?_pos s n (by omega)]
  refine call_of1 (k := 1) ok70 rfl rfl rfl fun N => ?_
  rw [show env0 c70 [.int .u64 n] = [.int .u64 n, undef] from rfl]
  delta c70 c70_r0 c70_r1 c70_r2 c70_r3 c70_r4 c70_r5 c70_r6 c70_r7 c70_r8 c70_r9 c70_r10
  replace hq := Hid.mk hq
  repeat' (first | simp -implicitDefEqProofs only [W_skip, W_reg, W_seq, W_rcond, W_cond, W_block, W_loop, W_exit, W_ret, thenQ_normal, thenQ_exit, thenQ_ret, blockQ_normal, blockQ_ret, blockQ_here, regQ_app, rcQ_app, cndK_t, cndK_f, RegW_nil, RegW_none, RegW_some, contW_app, grdK_tt, grdK_ff, grdK_tf, grdK_ft, grdK_undef, actK_p, actK_r, actK_a, actK_w, actK_call, actK_callV, heapK_app, allocK_app, writeK_app, ret1_ret, ret1_normal, ret0_ret, ret0_normal, ret2_ret2, thenK_app, retcv_ret, retcvK_app, optW_some, evs, Arg.ev, aP, aR, aA, aW, pMov, pBin, pUn, pConv, pPick, pFieldAddr, pNilCheck, pExtract, aBin, aUn, aInt, aNew, partL_f, upd, List.getElem?_cons_zero, List.getElem?_cons_succ, List.getD_cons_zero, List.getD_cons_succ, List.set_cons_zero, List.set_cons_succ, Nat.zero_add, Nat.add_zero, List.getElem?_toArray, List.take_zero, List.drop_zero, List.take_succ_cons, List.drop_succ_cons, if_true, if_false, decide_true, decide_false, Bool.false_eq_true, Bool.true_eq_false, Bool.not_true, Bool.not_false, not_true_eq_false, not_false_eq_true, ge_iff_le, gt_iff_lt, beq_self_eq_true, bne_self_eq_false, and_self, and_true, true_and, Option.isSome_some, Heap.get_alloc_same, Heap.alloc_getE, *] | with_reducible refine cndK_d (fun hc => ?_) (fun hc => ?_) | with_reducible refine grdK_d (fun hc => ?_) (fun hc => ?_) | with_reducible refine cndK_i (fun hc => ?_) (fun hc => ?_) | with_reducible refine grdK_i (fun hc => ?_) (fun hc => ?_))
  refine Exists.elim (hidx _ ?_) fun b hb => optW_of hb ?_
  · rfl
  simp -implicitDefEqProofs only [W_skip, W_reg, W_seq, W_rcond, W_cond, W_block, W_loop, W_exit, W_ret, thenQ_normal, thenQ_exit, thenQ_ret, blockQ_normal, blockQ_ret, blockQ_here, regQ_app, rcQ_app, cndK_t, cndK_f, RegW_nil, RegW_none, RegW_some, contW_app, grdK_tt, grdK_ff, grdK_tf, grdK_ft, grdK_undef, actK_p, actK_r, actK_a, actK_w, actK_call, actK_callV, heapK_app, allocK_app, writeK_app, ret1_ret, ret1_normal, ret0_ret, ret0_normal, ret2_ret2, thenK_app, retcv_ret, retcvK_app, optW_some, evs, Arg.ev, aP, aR, aA, aW, pMov, pBin, pUn, pConv, pPick, pFieldAddr, pNilCheck, pExtract, aBin, aUn, aInt, aNew, partL_f, upd, List.getElem?_cons_zero, List.getElem?_cons_succ, List.getD_cons_zero, List.getD_cons_succ, List.set_cons_zero, List.set_cons_succ, Nat.zero_add, Nat.add_zero, List.getElem?_toArray, List.take_zero, List.drop_zero, List.take_succ_cons, List.drop_succ_cons, if_true, if_false, decide_true, decide_false, Bool.false_eq_true, Bool.true_eq_false, Bool.not_true, Bool.not_false, not_true_eq_false, not_false_eq_true, ge_iff_le, gt_iff_lt, beq_self_eq_true, bne_self_eq_false, and_self, and_true, true_and, Option.isSome_some, Heap.get_alloc_same, Heap.alloc_getE]
  exact hq.h _
theorem len_c (n : Nat) (hn : n ≤ 255) (h : Heap) (Q : Value → Heap → Prop) (hq : ∀ z, Q (.int .i64 z) h) : CallW Try.prog 59 [.int .u64 n] h Q := by
  refine call_of1 (k := 1) ok59 rfl rfl rfl fun N => ?_
  rw [show env0 c59 [.int .u64 n] = [.int .u64 n, undef] from rfl]
  delta c59 c59_r0 c59_r1 c59_r2
  replace hq := Hid.mk hq
  repeat' (first | simp -implicitDefEqProofs only [W_skip, W_reg, W_seq, W_rcond, W_cond, W_block, W_loop, W_exit, W_ret, thenQ_normal, thenQ_exit, thenQ_ret, blockQ_normal, blockQ_ret, blockQ_here, regQ_app, rcQ_app, cndK_t, cndK_f, RegW_nil, RegW_none, RegW_some, contW_app, grdK_tt, grdK_ff, grdK_tf, grdK_ft, grdK_undef, actK_p, actK_r, actK_a, actK_w, actK_call, actK_callV, heapK_app, allocK_app, writeK_app, ret1_ret, ret1_normal, ret0_ret, ret0_normal, ret2_ret2, thenK_app, retcv_ret, retcvK_app, optW_some, evs, Arg.ev, aP, aR, aA, aW, pMov, pBin, pUn, pConv, pPick, pFieldAddr, pNilCheck, pExtract, aBin, aUn, aInt, aNew, partL_f, upd, List.getElem?_cons_zero, List.getElem?_cons_succ, List.getD_cons_zero, List.getD_cons_succ, List.set_cons_zero, List.set_cons_succ, Nat.zero_add, Nat.add_zero, List.getElem?_toArray, List.take_zero, List.drop_zero, List.take_succ_cons, List.drop_succ_cons, if_true, if_false, decide_true, decide_false, Bool.false_eq_true, Bool.true_eq_false, Bool.not_true, Bool.not_false, not_true_eq_false, not_false_eq_true, ge_iff_le, gt_iff_lt, beq_self_eq_true, bne_self_eq_false, and_self, and_true, true_and, Option.isSome_some, Heap.get_alloc_same, Heap.alloc_getE, *] | with_reducible refine cndK_d (fun hc => ?_) (fun hc => ?_) | with_reducible refine grdK_d (fun hc => ?_) (fun hc => ?_) | with_reducible refine cndK_i (fun hc => ?_) (fun hc => ?_) | with_reducible refine grdK_i (fun hc => ?_) (fun hc => ?_))
  refine len64_c n hn h _ fun z => ?_
  repeat' (first | simp -implicitDefEqProofs only [W_skip, W_reg, W_seq, W_rcond, W_cond, W_block, W_loop, W_exit, W_ret, thenQ_normal, thenQ_exit, thenQ_ret, blockQ_normal, blockQ_ret, blockQ_here, regQ_app, rcQ_app, cndK_t, cndK_f, RegW_nil, RegW_none, RegW_some, contW_app, grdK_tt, grdK_ff, grdK_tf, grdK_ft, grdK_undef, actK_p, actK_r, actK_a, actK_w, actK_call, actK_callV, heapK_app, allocK_app, writeK_app, ret1_ret, ret1_normal, ret0_ret, ret0_normal, ret2_ret2, thenK_app, retcv_ret, retcvK_app, optW_some, evs, Arg.ev, aP, aR, aA, aW, pMov, pBin, pUn, pConv, pPick, pFieldAddr, pNilCheck, pExtract, aBin, aUn, aInt, aNew, partL_f, upd, List.getElem?_cons_zero, List.getElem?_cons_succ, List.getD_cons_zero, List.getD_cons_succ, List.set_cons_zero, List.set_cons_succ, Nat.zero_add, Nat.add_zero, List.getElem?_toArray, List.take_zero, List.drop_zero, List.take_succ_cons, List.drop_succ_cons, if_true, if_false, decide_true, decide_false, Bool.false_eq_true, Bool.true_eq_false, Bool.not_true, Bool.not_false, not_true_eq_false, not_false_eq_true, ge_iff_le, gt_iff_lt, beq_self_eq_true, bne_self_eq_false, and_self, and_true, true_and, Option.isSome_some, Heap.get_alloc_same, Heap.alloc_getE, *] | with_reducible refine cndK_d (fun hc => ?_) (fun hc => ?_) | with_reducible refine grdK_d (fun hc => ?_) (fun hc => ?_) | with_reducible refine cndK_i (fun hc => ?_) (fun hc => ?_) | with_reducible refine grdK_i (fun hc => ?_) (fun hc => ?_))
  exact hq.h _

theorem pdq_c {id : Nat} {xs : List Int} {h : Heap} (hg : h.get id = some (iblk xs)) (hn : xs.length ≤ 12) (z : Int) (Q : Value → Heap → Prop)
    (hq : ∀ h' ys, ys.Perm xs → ys.Pairwise (· ≤ ·) → h'.get id = some (iblk ys) → h.leBut id h' → Q (.tuple #[]) h') : CallW Try.prog 58 [.slice (some ⟨id, 0, none⟩) xs.length 1, .int .i64 0, .int .i64 xs.length, .int .i64 z] h Q := by
  have h12 : (xs.length : Int) ≤ 12 := by omega
  have hw : IntKind.i64.wrap ((xs.length : Int) - 0) = xs.length := by rw [wrapI (by omega) (by omega)]; omega
  refine call_of0 ok58 rfl rfl rfl fun N => ?_
  rw [show env0 c58 [.slice (some ⟨id, 0, none⟩) xs.length 1, .int .i64 0, .int .i64 xs.length, .int .i64 z] = [.slice (some ⟨id, 0, none⟩) xs.length 1, .int .i64 0, .int .i64 xs.length, .int .i64 z, undef, undef, undef, undef, undef, undef, undef, undef, undef, undef, undef] from rfl]
  delta c58 c58_r0 c58_r1 c58_r2 c58_r3 c58_r4 c58_r5 c58_r6 c58_r7 c58_r8 c58_r9 c58_r10 c58_r11 c58_r12 c58_r13 c58_r14 c58_r15 c58_r16 c58_r17 c58_r18 c58_r19 c58_r20 c58_r21 c58_r22 c58_r23 c58_r24 c58_r25 c58_r26 c58_r27 c58_r28 c58_r29 c58_r30
  replace hq := Hid.mk hq
  repeat' (first | simp -implicitDefEqProofs only [W_skip, W_reg, W_seq, W_rcond, W_cond, W_block, W_loop, W_exit, W_ret, thenQ_normal, thenQ_exit, thenQ_ret, blockQ_normal, blockQ_ret, blockQ_here, regQ_app, rcQ_app, cndK_t, cndK_f, RegW_nil, RegW_none, RegW_some, contW_app, grdK_tt, grdK_ff, grdK_tf, grdK_ft, grdK_undef, actK_p, actK_r, actK_a, actK_w, actK_call, actK_callV, heapK_app, allocK_app, writeK_app, ret1_ret, ret1_normal, ret0_ret, ret0_normal, ret2_ret2, thenK_app, retcv_ret, retcvK_app, optW_some, evs, Arg.ev, aP, aR, aA, aW, pMov, pBin, pUn, pConv, pPick, pFieldAddr, pNilCheck, pExtract, aBin, aUn, aInt, aNew, partL_f, upd, List.getElem?_cons_zero, List.getElem?_cons_succ, List.getD_cons_zero, List.getD_cons_succ, List.set_cons_zero, List.set_cons_succ, Nat.zero_add, Nat.add_zero, List.getElem?_toArray, List.take_zero, List.drop_zero, List.take_succ_cons, List.drop_succ_cons, if_true, if_false, decide_true, decide_false, Bool.false_eq_true, Bool.true_eq_false, Bool.not_true, Bool.not_false, not_true_eq_false, not_false_eq_true, ge_iff_le, gt_iff_lt, beq_self_eq_true, bne_self_eq_false, and_self, and_true, true_and, Option.isSome_some, Heap.get_alloc_same, Heap.alloc_getE, *] | with_reducible refine cndK_d (fun hc => ?_) (fun hc => ?_) | with_reducible refine grdK_d (fun hc => ?_) (fun hc => ?_) | with_reducible refine cndK_i (fun hc => ?_) (fun hc => ?_) | with_reducible refine grdK_i (fun hc => ?_) (fun hc => ?_))
  refine LoopW.round ?_
  delta c58_l31 c58_r0 c58_r1 c58_r2 c58_r3 c58_r4 c58_r5 c58_r6 c58_r7 c58_r8 c58_r9 c58_r10 c58_r11 c58_r12 c58_r13 c58_r14 c58_r15 c58_r16 c58_r17 c58_r18 c58_r19 c58_r20 c58_r21 c58_r22 c58_r23 c58_r24 c58_r25 c58_r26 c58_r27 c58_r28 c58_r29 c58_r30
  repeat' (first | simp -implicitDefEqProofs only [W_skip, W_reg, W_seq, W_rcond, W_cond, W_block, W_loop, W_exit, W_ret, thenQ_normal, thenQ_exit, thenQ_ret, blockQ_normal, blockQ_ret, blockQ_here, regQ_app, rcQ_app, cndK_t, cndK_f, RegW_nil, RegW_none, RegW_some, contW_app, grdK_tt, grdK_ff, grdK_tf, grdK_ft, grdK_undef, actK_p, actK_r, actK_a, actK_w, actK_call, actK_callV, heapK_app, allocK_app, writeK_app, ret1_ret, ret1_normal, ret0_ret, ret0_normal, ret2_ret2, thenK_app, retcv_ret, retcvK_app, optW_some, evs, Arg.ev, aP, aR, aA, aW, pMov, pBin, pUn, pConv, pPick, pFieldAddr, pNilCheck, pExtract, aBin, aUn, aInt, aNew, partL_f, upd, List.getElem?_cons_zero, List.getElem?_cons_succ, List.getD_cons_zero, List.getD_cons_succ, List.set_cons_zero, List.set_cons_succ, Nat.zero_add, Nat.add_zero, List.getElem?_toArray, List.take_zero, List.drop_zero, List.take_succ_cons, List.drop_succ_cons, if_true, if_false, decide_true, decide_false, Bool.false_eq_true, Bool.true_eq_false, Bool.not_true, Bool.not_false, not_true_eq_false, not_false_eq_true, ge_iff_le, gt_iff_lt, beq_self_eq_true, bne_self_eq_false, and_self, and_true, true_and, Option.isSome_some, Heap.get_alloc_same, Heap.alloc_getE, *] | with_reducible refine cndK_d (fun hc => ?_) (fun hc => ?_) | with_reducible refine grdK_d (fun hc => ?_) (fun hc => ?_) | with_reducible refine cndK_i (fun hc => ?_) (fun hc => ?_) | with_reducible refine grdK_i (fun hc => ?_) (fun hc => ?_))
  refine insertion_c hg (by omega) _ fun h' ys h1 h2 h3 h4 => ?_
  repeat' (first | simp -implicitDefEqProofs only [W_skip, W_reg, W_seq, W_rcond, W_cond, W_block, W_loop, W_exit, W_ret, thenQ_normal, thenQ_exit, thenQ_ret, blockQ_normal, blockQ_ret, blockQ_here, regQ_app, rcQ_app, cndK_t, cndK_f, RegW_nil, RegW_none, RegW_some, contW_app, grdK_tt, grdK_ff, grdK_tf, grdK_ft, grdK_undef, actK_p, actK_r, actK_a, actK_w, actK_call, actK_callV, heapK_app, allocK_app, writeK_app, ret1_ret, ret1_normal, ret0_ret, ret0_normal, ret2_ret2, thenK_app, retcv_ret, retcvK_app, optW_some, evs, Arg.ev, aP, aR, aA, aW, pMov, pBin, pUn, pConv, pPick, pFieldAddr, pNilCheck, pExtract, aBin, aUn, aInt, aNew, partL_f, upd, List.getElem?_cons_zero, List.getElem?_cons_succ, List.getD_cons_zero, List.getD_cons_succ, List.set_cons_zero, List.set_cons_succ, Nat.zero_add, Nat.add_zero, List.getElem?_toArray, List.take_zero, List.drop_zero, List.take_succ_cons, List.drop_succ_cons, if_true, if_false, decide_true, decide_false, Bool.false_eq_true, Bool.true_eq_false, Bool.not_true, Bool.not_false, not_true_eq_false, not_false_eq_true, ge_iff_le, gt_iff_lt, beq_self_eq_true, bne_self_eq_false, and_self, and_true, true_and, Option.isSome_some, Heap.get_alloc_same, Heap.alloc_getE, *] | with_reducible refine cndK_d (fun hc => ?_) (fun hc => ?_) | with_reducible refine grdK_d (fun hc => ?_) (fun hc => ?_) | with_reducible refine cndK_i (fun hc => ?_) (fun hc => ?_) | with_reducible refine grdK_i (fun hc => ?_) (fun hc => ?_))
  exact hq.h _ _ h1 h2 h3 h4

theorem sort_c {id : Nat} {xs : List Int} {h : Heap} (hg : h.get id = some (iblk xs)) (hn : xs.length ≤ 12) (Q : Value → Heap → Prop)
    (hq : ∀ h' ys, ys.Perm xs → ys.Pairwise (· ≤ ·) → h'.get id = some (iblk ys) → h.leBut id h' → Q (.tuple #[]) h') : CallW Try.prog 53 [.slice (some ⟨id, 0, none⟩) xs.length 1] h Q := by
  have hw : IntKind.u64.wrap (xs.length : Int) = xs.length := by simp [IntKind.wrap, IntKind.signed, IntKind.bits]; omega
  refine call_of0 ok53 rfl rfl rfl fun N => ?_
  rw [show env0 c53 [.slice (some ⟨id, 0, none⟩) xs.length 1] = [.slice (some ⟨id, 0, none⟩) xs.length 1, undef] from rfl]
  delta c53 c53_r0 c53_r1
  replace hq := Hid.mk hq
  repeat' (first | simp -implicitDefEqProofs only [W_skip, W_reg, W_seq, W_rcond, W_cond, W_block, W_loop, W_exit, W_ret, thenQ_normal, thenQ_exit, thenQ_ret, blockQ_normal, blockQ_ret, blockQ_here, regQ_app, rcQ_app, cndK_t, cndK_f, RegW_nil, RegW_none, RegW_some, contW_app, grdK_tt, grdK_ff, grdK_tf, grdK_ft, grdK_undef, actK_p, actK_r, actK_a, actK_w, actK_call, actK_callV, heapK_app, allocK_app, writeK_app, ret1_ret, ret1_normal, ret0_ret, ret0_normal, ret2_ret2, thenK_app, retcv_ret, retcvK_app, optW_some, evs, Arg.ev, aP, aR, aA, aW, pMov, pBin, pUn, pConv, pPick, pFieldAddr, pNilCheck, pExtract, aBin, aUn, aInt, aNew, partL_f, upd, List.getElem?_cons_zero, List.getElem?_cons_succ, List.getD_cons_zero, List.getD_cons_succ, List.set_cons_zero, List.set_cons_succ, Nat.zero_add, Nat.add_zero, List.getElem?_toArray, List.take_zero, List.drop_zero, List.take_succ_cons, List.drop_succ_cons, if_true, if_false, decide_true, decide_false, Bool.false_eq_true, Bool.true_eq_false, Bool.not_true, Bool.not_false, not_true_eq_false, not_false_eq_true, ge_iff_le, gt_iff_lt, beq_self_eq_true, bne_self_eq_false, and_self, and_true, true_and, Option.isSome_some, Heap.get_alloc_same, Heap.alloc_getE, pLenS, *] | with_reducible refine cndK_d (fun hc => ?_) (fun hc => ?_) | with_reducible refine grdK_d (fun hc => ?_) (fun hc => ?_) | with_reducible refine cndK_i (fun hc => ?_) (fun hc => ?_) | with_reducible refine grdK_i (fun hc => ?_) (fun hc => ?_))
  refine len_c _ (by omega) h _ fun z => ?_
  repeat' (first | simp -implicitDefEqProofs only [W_skip, W_reg, W_seq, W_rcond, W_cond, W_block, W_loop, W_exit, W_ret, thenQ_normal, thenQ_exit, thenQ_ret, blockQ_normal, blockQ_ret, blockQ_here, regQ_app, rcQ_app, cndK_t, cndK_f, RegW_nil, RegW_none, RegW_some, contW_app, grdK_tt, grdK_ff, grdK_tf, grdK_ft, grdK_undef, actK_p, actK_r, actK_a, actK_w, actK_call, actK_callV, heapK_app, allocK_app, writeK_app, ret1_ret, ret1_normal, ret0_ret, ret0_normal, ret2_ret2, thenK_app, retcv_ret, retcvK_app, optW_some, evs, Arg.ev, aP, aR, aA, aW, pMov, pBin, pUn, pConv, pPick, pFieldAddr, pNilCheck, pExtract, aBin, aUn, aInt, aNew, partL_f, upd, List.getElem?_cons_zero, List.getElem?_cons_succ, List.getD_cons_zero, List.getD_cons_succ, List.set_cons_zero, List.set_cons_succ, Nat.zero_add, Nat.add_zero, List.getElem?_toArray, List.take_zero, List.drop_zero, List.take_succ_cons, List.drop_succ_cons, if_true, if_false, decide_true, decide_false, Bool.false_eq_true, Bool.true_eq_false, Bool.not_true, Bool.not_false, not_true_eq_false, not_false_eq_true, ge_iff_le, gt_iff_lt, beq_self_eq_true, bne_self_eq_false, and_self, and_true, true_and, Option.isSome_some, Heap.get_alloc_same, Heap.alloc_getE, *] | with_reducible refine cndK_d (fun hc => ?_) (fun hc => ?_) | with_reducible refine grdK_d (fun hc => ?_) (fun hc => ?_) | with_reducible refine cndK_i (fun hc => ?_) (fun hc => ?_) | with_reducible refine grdK_i (fun hc => ?_) (fun hc => ?_))
  refine pdq_c hg hn z _ fun h' ys h1 h2 h3 h4 => ?_
  repeat' (first | simp -implicitDefEqProofs only [W_skip, W_reg, W_seq, W_rcond, W_cond, W_block, W_loop, W_exit, W_ret, thenQ_normal, thenQ_exit, thenQ_ret, blockQ_normal, blockQ_ret, blockQ_here, regQ_app, rcQ_app, cndK_t, cndK_f, RegW_nil, RegW_none, RegW_some, contW_app, grdK_tt, grdK_ff, grdK_tf, grdK_ft, grdK_undef, actK_p, actK_r, actK_a, actK_w, actK_call, actK_callV, heapK_app, allocK_app, writeK_app, ret1_ret, ret1_normal, ret0_ret, ret0_normal, ret2_ret2, thenK_app, retcv_ret, retcvK_app, optW_some, evs, Arg.ev, aP, aR, aA, aW, pMov, pBin, pUn, pConv, pPick, pFieldAddr, pNilCheck, pExtract, aBin, aUn, aInt, aNew, partL_f, upd, List.getElem?_cons_zero, List.getElem?_cons_succ, List.getD_cons_zero, List.getD_cons_succ, List.set_cons_zero, List.set_cons_succ, Nat.zero_add, Nat.add_zero, List.getElem?_toArray, List.take_zero, List.drop_zero, List.take_succ_cons, List.drop_succ_cons, if_true, if_false, decide_true, decide_false, Bool.false_eq_true, Bool.true_eq_false, Bool.not_true, Bool.not_false, not_true_eq_false, not_false_eq_true, ge_iff_le, gt_iff_lt, beq_self_eq_true, bne_self_eq_false, and_self, and_true, true_and, Option.isSome_some, Heap.get_alloc_same, Heap.alloc_getE, *] | with_reducible refine cndK_d (fun hc => ?_) (fun hc => ?_) | with_reducible refine grdK_d (fun hc => ?_) (fun hc => ?_) | with_reducible refine cndK_i (fun hc => ?_) (fun hc => ?_) | with_reducible refine grdK_i (fun hc => ?_) (fun hc => ?_))
  exact hq.h _ _ h1 h2 h3 h4

theorem values_c {v : Value} {a : List Int} {h : Heap} (hv : Ints h v a) (Q : Value → Heap → Prop)
    (hq : ∀ b h', h'.get b = some (.blk [v] true) → h.le h' → Q (.func (.func 54) #[] #[.pointer (some ⟨b, 0, none⟩)]) h') : CallW Try.prog 43 [v] h Q := by
  refine call_of1 (k := 2) ok43 rfl rfl rfl fun N => ?_
  rw [show env0 c43 [v] = [v, undef, undef] from rfl]
  delta c43 c43_r0 c43_r1
  replace hq := Hid.mk hq
  have bx := aBox_slice hv
  repeat' (first | simp -implicitDefEqProofs only [W_skip, W_reg, W_seq, W_rcond, W_cond, W_block, W_loop, W_exit, W_ret, thenQ_normal, thenQ_exit, thenQ_ret, blockQ_normal, blockQ_ret, blockQ_here, regQ_app, rcQ_app, cndK_t, cndK_f, RegW_nil, RegW_none, RegW_some, contW_app, grdK_tt, grdK_ff, grdK_tf, grdK_ft, grdK_undef, actK_p, actK_r, actK_a, actK_w, actK_call, actK_callV, heapK_app, allocK_app, writeK_app, ret1_ret, ret1_normal, ret0_ret, ret0_normal, ret2_ret2, thenK_app, retcv_ret, retcvK_app, optW_some, evs, Arg.ev, aP, aR, aA, aW, pMov, pBin, pUn, pConv, pPick, pFieldAddr, pNilCheck, pExtract, aBin, aUn, aInt, aNew, partL_f, upd, List.getElem?_cons_zero, List.getElem?_cons_succ, List.getD_cons_zero, List.getD_cons_succ, List.set_cons_zero, List.set_cons_succ, Nat.zero_add, Nat.add_zero, List.getElem?_toArray, List.take_zero, List.drop_zero, List.take_succ_cons, List.drop_succ_cons, if_true, if_false, decide_true, decide_false, Bool.false_eq_true, Bool.true_eq_false, Bool.not_true, Bool.not_false, not_true_eq_false, not_false_eq_true, ge_iff_le, gt_iff_lt, beq_self_eq_true, bne_self_eq_false, and_self, and_true, true_and, Option.isSome_some, Heap.get_alloc_same, Heap.alloc_getE, *] | with_reducible refine cndK_d (fun hc => ?_) (fun hc => ?_) | with_reducible refine grdK_d (fun hc => ?_) (fun hc => ?_) | with_reducible refine cndK_i (fun hc => ?_) (fun hc => ?_) | with_reducible refine grdK_i (fun hc => ?_) (fun hc => ?_))
  exact hq.h _ _ (Heap.get_alloc_same _ _) ((Heap.le.refl h).alloc _)

theorem values1_c {fv v : Value} {a : List Int} {b : Nat} {h : Heap} (J : Nat → Heap → Prop) (S : Heap → Prop)
    (hJ : ∀ i h1, J i h1 → (∃ own, h1.get b = some (.blk [v] own)) ∧ Ints h1 v a) (h0 : J 0 h) (ha : a.length ≤ 1000000)
    (hy : ∀ i x h1, a[i]? = some x → J i h1 → ValW Try.prog fv [.int .i64 x] h1 fun r h2 => (r = .bool true ∧ J (i+1) h2) ∨ (r = .bool false ∧ S h2)) (Q : Value → Heap → Prop)
    (hq : ∀ h2, J a.length h2 ∨ S h2 → Q (.tuple #[]) h2) : CallW Try.prog 54 [fv, .pointer (some ⟨b, 0, none⟩)] h Q := by
  refine call_of0 ok54 rfl rfl rfl fun N => ?_
  rw [show env0 c54 [fv, .pointer (some ⟨b, 0, none⟩)] = [fv, .pointer (some ⟨b, 0, none⟩), undef, undef, undef, undef, undef] from rfl]
  delta c54 c54_r0 c54_r1 c54_r2 c54_r3 c54_r4
  replace hq := Hid.mk hq
  obtain ⟨⟨own, hb⟩, hv⟩ := hJ 0 h h0
  repeat' (first | simp -implicitDefEqProofs only [W_skip, W_reg, W_seq, W_rcond, W_cond, W_block, W_loop, W_exit, W_ret, thenQ_normal, thenQ_exit, thenQ_ret, blockQ_normal, blockQ_ret, blockQ_here, regQ_app, rcQ_app, cndK_t, cndK_f, RegW_nil, RegW_none, RegW_some, contW_app, grdK_tt, grdK_ff, grdK_tf, grdK_ft, grdK_undef, actK_p, actK_r, actK_a, actK_w, actK_call, actK_callV, heapK_app, allocK_app, writeK_app, ret1_ret, ret1_normal, ret0_ret, ret0_normal, ret2_ret2, thenK_app, retcv_ret, retcvK_app, optW_some, evs, Arg.ev, aP, aR, aA, aW, pMov, pBin, pUn, pConv, pPick, pFieldAddr, pNilCheck, pExtract, aBin, aUn, aInt, aNew, partL_f, upd, List.getElem?_cons_zero, List.getElem?_cons_succ, List.getD_cons_zero, List.getD_cons_succ, List.set_cons_zero, List.set_cons_succ, Nat.zero_add, Nat.add_zero, List.getElem?_toArray, List.take_zero, List.drop_zero, List.take_succ_cons, List.drop_succ_cons, if_true, if_false, decide_true, decide_false, Bool.false_eq_true, Bool.true_eq_false, Bool.not_true, Bool.not_false, not_true_eq_false, not_false_eq_true, ge_iff_le, gt_iff_lt, beq_self_eq_true, bne_self_eq_false, and_self, and_true, true_and, Option.isSome_some, Heap.get_alloc_same, Heap.alloc_getE, hv.len, *] | with_reducible refine cndK_d (fun hc => ?_) (fun hc => ?_) | with_reducible refine grdK_d (fun hc => ?_) (fun hc => ?_) | with_reducible refine cndK_i (fun hc => ?_) (fun hc => ?_) | with_reducible refine grdK_i (fun hc => ?_) (fun hc => ?_))
  refine LoopW.upto a.length (fun i e h1 => J i h1 ∧ ∃ x2 x6, e = [fv, .pointer (some ⟨b, 0, none⟩), x2, v, .int .i64 a.length, .int .i64 i, x6]) ?_ (Nat.zero_le _) ⟨h0, _, _, rfl⟩
  clear hb hv
  rintro i _ h1 R hi ⟨hji, x2, x6, rfl⟩ hR
  obtain ⟨⟨own, hb⟩, hv⟩ := hJ i h1 hji
  replace hji := Hid.mk hji
  delta c54_l5 c54_r0 c54_r1 c54_r2 c54_r3 c54_r4
  by_cases hlt : i < a.length
  · have hlt' : (i : Int) < a.length := by omega
    obtain ⟨y, hy'⟩ : ∃ e, a[i]? = some e := ⟨_, List.getElem?_eq_getElem hlt⟩
    obtain ⟨id, off, cells, own, e1, e2, e3, _⟩ := hv.elem hy'
    have hwr : IntKind.i64.wrap ((i : Int) + 1) = ((i + 1 : Nat) : Int) := by rw [wrapI (by omega) (by omega)]; rfl
    repeat' (first | simp -implicitDefEqProofs only [W_skip, W_reg, W_seq, W_rcond, W_cond, W_block, W_loop, W_exit, W_ret, thenQ_normal, thenQ_exit, thenQ_ret, blockQ_normal, blockQ_ret, blockQ_here, regQ_app, rcQ_app, cndK_t, cndK_f, RegW_nil, RegW_none, RegW_some, contW_app, grdK_tt, grdK_ff, grdK_tf, grdK_ft, grdK_undef, actK_p, actK_r, actK_a, actK_w, actK_call, actK_callV, heapK_app, allocK_app, writeK_app, ret1_ret, ret1_normal, ret0_ret, ret0_normal, ret2_ret2, thenK_app, retcv_ret, retcvK_app, optW_some, evs, Arg.ev, aP, aR, aA, aW, pMov, pBin, pUn, pConv, pPick, pFieldAddr, pNilCheck, pExtract, aBin, aUn, aInt, aNew, partL_f, upd, List.getElem?_cons_zero, List.getElem?_cons_succ, List.getD_cons_zero, List.getD_cons_succ, List.set_cons_zero, List.set_cons_succ, Nat.zero_add, Nat.add_zero, List.getElem?_toArray, List.take_zero, List.drop_zero, List.take_succ_cons, List.drop_succ_cons, if_true, if_false, decide_true, decide_false, Bool.false_eq_true, Bool.true_eq_false, Bool.not_true, Bool.not_false, not_true_eq_false, not_false_eq_true, ge_iff_le, gt_iff_lt, beq_self_eq_true, bne_self_eq_false, and_self, and_true, true_and, Option.isSome_some, Heap.get_alloc_same, Heap.alloc_getE, *] | with_reducible refine cndK_d (fun hc => ?_) (fun hc => ?_) | with_reducible refine grdK_d (fun hc => ?_) (fun hc => ?_) | with_reducible refine cndK_i (fun hc => ?_) (fun hc => ?_) | with_reducible refine grdK_i (fun hc => ?_) (fun hc => ?_))
    refine ValW.mono (hy i y h1 hy' hji.h) fun r h2 _ hr => ?_
    replace hr := Hid.mk hr
    obtain ⟨rfl, hj2⟩ | ⟨rfl, hs⟩ := hr.h
    · replace hj2 := Hid.mk hj2
      repeat' (first | simp -implicitDefEqProofs only [W_skip, W_reg, W_seq, W_rcond, W_cond, W_block, W_loop, W_exit, W_ret, thenQ_normal, thenQ_exit, thenQ_ret, blockQ_normal, blockQ_ret, blockQ_here, regQ_app, rcQ_app, cndK_t, cndK_f, RegW_nil, RegW_none, RegW_some, contW_app, grdK_tt, grdK_ff, grdK_tf, grdK_ft, grdK_undef, actK_p, actK_r, actK_a, actK_w, actK_call, actK_callV, heapK_app, allocK_app, writeK_app, ret1_ret, ret1_normal, ret0_ret, ret0_normal, ret2_ret2, thenK_app, retcv_ret, retcvK_app, optW_some, evs, Arg.ev, aP, aR, aA, aW, pMov, pBin, pUn, pConv, pPick, pFieldAddr, pNilCheck, pExtract, aBin, aUn, aInt, aNew, partL_f, upd, List.getElem?_cons_zero, List.getElem?_cons_succ, List.getD_cons_zero, List.getD_cons_succ, List.set_cons_zero, List.set_cons_succ, Nat.zero_add, Nat.add_zero, List.getElem?_toArray, List.take_zero, List.drop_zero, List.take_succ_cons, List.drop_succ_cons, if_true, if_false, decide_true, decide_false, Bool.false_eq_true, Bool.true_eq_false, Bool.not_true, Bool.not_false, not_true_eq_false, not_false_eq_true, ge_iff_le, gt_iff_lt, beq_self_eq_true, bne_self_eq_false, and_self, and_true, true_and, Option.isSome_some, Heap.get_alloc_same, Heap.alloc_getE, *] | with_reducible refine cndK_d (fun hc => ?_) (fun hc => ?_) | with_reducible refine grdK_d (fun hc => ?_) (fun hc => ?_) | with_reducible refine cndK_i (fun hc => ?_) (fun hc => ?_) | with_reducible refine grdK_i (fun hc => ?_) (fun hc => ?_))
      exact hR.h _ _ hlt ⟨hj2.h, _, _, rfl⟩
    · replace hs := Hid.mk hs
      repeat' (first | simp -implicitDefEqProofs only [W_skip, W_reg, W_seq, W_rcond, W_cond, W_block, W_loop, W_exit, W_ret, thenQ_normal, thenQ_exit, thenQ_ret, blockQ_normal, blockQ_ret, blockQ_here, regQ_app, rcQ_app, cndK_t, cndK_f, RegW_nil, RegW_none, RegW_some, contW_app, grdK_tt, grdK_ff, grdK_tf, grdK_ft, grdK_undef, actK_p, actK_r, actK_a, actK_w, actK_call, actK_callV, heapK_app, allocK_app, writeK_app, ret1_ret, ret1_normal, ret0_ret, ret0_normal, ret2_ret2, thenK_app, retcv_ret, retcvK_app, optW_some, evs, Arg.ev, aP, aR, aA, aW, pMov, pBin, pUn, pConv, pPick, pFieldAddr, pNilCheck, pExtract, aBin, aUn, aInt, aNew, partL_f, upd, List.getElem?_cons_zero, List.getElem?_cons_succ, List.getD_cons_zero, List.getD_cons_succ, List.set_cons_zero, List.set_cons_succ, Nat.zero_add, Nat.add_zero, List.getElem?_toArray, List.take_zero, List.drop_zero, List.take_succ_cons, List.drop_succ_cons, if_true, if_false, decide_true, decide_false, Bool.false_eq_true, Bool.true_eq_false, Bool.not_true, Bool.not_false, not_true_eq_false, not_false_eq_true, ge_iff_le, gt_iff_lt, beq_self_eq_true, bne_self_eq_false, and_self, and_true, true_and, Option.isSome_some, Heap.get_alloc_same, Heap.alloc_getE, *] | with_reducible refine cndK_d (fun hc => ?_) (fun hc => ?_) | with_reducible refine grdK_d (fun hc => ?_) (fun hc => ?_) | with_reducible refine cndK_i (fun hc => ?_) (fun hc => ?_) | with_reducible refine grdK_i (fun hc => ?_) (fun hc => ?_))
      exact hq.h _ (.inr hs.h)
  · have hlt' : ¬ (i : Int) < a.length := by omega
    have : i = a.length := by omega
    subst this
    repeat' (first | simp -implicitDefEqProofs only [W_skip, W_reg, W_seq, W_rcond, W_cond, W_block, W_loop, W_exit, W_ret, thenQ_normal, thenQ_exit, thenQ_ret, blockQ_normal, blockQ_ret, blockQ_here, regQ_app, rcQ_app, cndK_t, cndK_f, RegW_nil, RegW_none, RegW_some, contW_app, grdK_tt, grdK_ff, grdK_tf, grdK_ft, grdK_undef, actK_p, actK_r, actK_a, actK_w, actK_call, actK_callV, heapK_app, allocK_app, writeK_app, ret1_ret, ret1_normal, ret0_ret, ret0_normal, ret2_ret2, thenK_app, retcv_ret, retcvK_app, optW_some, evs, Arg.ev, aP, aR, aA, aW, pMov, pBin, pUn, pConv, pPick, pFieldAddr, pNilCheck, pExtract, aBin, aUn, aInt, aNew, partL_f, upd, List.getElem?_cons_zero, List.getElem?_cons_succ, List.getD_cons_zero, List.getD_cons_succ, List.set_cons_zero, List.set_cons_succ, Nat.zero_add, Nat.add_zero, List.getElem?_toArray, List.take_zero, List.drop_zero, List.take_succ_cons, List.drop_succ_cons, if_true, if_false, decide_true, decide_false, Bool.false_eq_true, Bool.true_eq_false, Bool.not_true, Bool.not_false, not_true_eq_false, not_false_eq_true, ge_iff_le, gt_iff_lt, beq_self_eq_true, bne_self_eq_false, and_self, and_true, true_and, Option.isSome_some, Heap.get_alloc_same, Heap.alloc_getE, *] | with_reducible refine cndK_d (fun hc => ?_) (fun hc => ?_) | with_reducible refine grdK_d (fun hc => ?_) (fun hc => ?_) | with_reducible refine cndK_i (fun hc => ?_) (fun hc => ?_) | with_reducible refine grdK_i (fun hc => ?_) (fun hc => ?_))
    exact hq.h _ (.inl hji.h)
end Go.Eng.Ax

set_option linter.unusedSimpArgs false
set_option linter.unusedVariables false
namespace Go.Eng.Ax
open Go Go.Eng Go.Proofs

theorem appendSeq_c {v : Value} {a : List Int} {b : Nat} {h : Heap} (hv : Ints h v a) (hb : h.get b = some (.blk [v] true)) (ha : a.length ≤ 1000000) (Q : Value → Heap → Prop)
    (hq : ∀ v' h', OwnS h h' 1 v' (icells a) → h.le h' → Q v' h') : CallW Try.prog 57 [.slice none 0 0, .func (.func 54) #[] #[.pointer (some ⟨b, 0, none⟩)]] h Q := by
  refine call_of1r (k := 3) ok57 rfl rfl rfl fun N => ?_
  rw [show env0 c57 [.slice none 0 0, .func (.func 54) #[] #[.pointer (some ⟨b, 0, none⟩)]] = [.slice none 0 0, .func (.func 54) #[] #[.pointer (some ⟨b, 0, none⟩)], undef, undef, undef, undef, undef] from rfl]
  delta c57 c57_r0 c57_r1 c57_r2 c57_r3 c57_r5
  replace hq := Hid.mk hq
  have bx : aBox [.slice none 0 0] = some ([.slice none 0 0], fun id => .pointer (some ⟨id, 0, none⟩)) := rfl
  delta c57_a4 c57_r0 c57_r1 c57_r2 c57_r3 c57_r5
  delta c57_b4 c57_r0 c57_r1 c57_r2 c57_r3 c57_r5
  repeat' (first | simp -implicitDefEqProofs only [W_skip, W_reg, W_seq, W_rcond, W_cond, W_block, W_loop, W_exit, W_ret, thenQ_normal, thenQ_exit, thenQ_ret, blockQ_normal, blockQ_ret, blockQ_here, regQ_app, rcQ_app, cndK_t, cndK_f, RegW_nil, RegW_none, RegW_some, contW_app, grdK_tt, grdK_ff, grdK_tf, grdK_ft, grdK_undef, actK_p, actK_r, actK_a, actK_w, actK_call, actK_callV, heapK_app, allocK_app, writeK_app, ret1_ret, ret1_normal, ret0_ret, ret0_normal, ret2_ret2, thenK_app, retcv_ret, retcvK_app, optW_some, evs, Arg.ev, aP, aR, aA, aW, pMov, pBin, pUn, pConv, pPick, pFieldAddr, pNilCheck, pExtract, aBin, aUn, aInt, aNew, partL_f, upd, List.getElem?_cons_zero, List.getElem?_cons_succ, List.getD_cons_zero, List.getD_cons_succ, List.set_cons_zero, List.set_cons_succ, Nat.zero_add, Nat.add_zero, List.getElem?_toArray, List.take_zero, List.drop_zero, List.take_succ_cons, List.drop_succ_cons, if_true, if_false, decide_true, decide_false, Bool.false_eq_true, Bool.true_eq_false, Bool.not_true, Bool.not_false, not_true_eq_false, not_false_eq_true, ge_iff_le, gt_iff_lt, beq_self_eq_true, bne_self_eq_false, and_self, and_true, true_and, Option.isSome_some, Heap.get_alloc_same, Heap.alloc_getE, *] | with_reducible refine cndK_d (fun hc => ?_) (fun hc => ?_) | with_reducible refine grdK_d (fun hc => ?_) (fun hc => ?_) | with_reducible refine cndK_i (fun hc => ?_) (fun hc => ?_) | with_reducible refine grdK_i (fun hc => ?_) (fun hc => ?_))
  refine range_w (f := 54) (first := #[]) (cap := #[.pointer (some ⟨b, 0, none⟩)]) rfl ?_
  obtain ⟨e, he⟩ : ∃ e, e = [Value.slice none 0 0, .func (.func 54) #[] #[.pointer (some ⟨b, 0, none⟩)], .pointer (some ⟨h.next, 0, none⟩), .slice none 0 0, undef, .func (.func 54) #[] #[.pointer (some ⟨b, 0, none⟩)], undef] := ⟨_, rfl⟩
  obtain ⟨L, hL⟩ : ∃ L, (h.alloc (.blk [.slice none 0 0] true)).next + 1 = L := ⟨_, rfl⟩
  have hLn : h.next + 2 = L := by rw [← hL]; simp
  have hbl : b < h.next := Heap.lt_of_get hb
  rw [hL]
  show CallW Try.prog 54 [.func (.yield L) #[] #[], .pointer (some ⟨b, 0, none⟩)] _ _
  rw [← he]
  obtain ⟨J, hJ⟩ : ∃ J : Nat → Heap → Prop, J = fun i h2 => h.le h2 ∧ h2.get L = some (.loop e [0, 1, 2, 4, 5, 6, 7] N (okOf Try.prog N [0, 1, 2, 4, 5, 6, 7] [6] (CCode.reg c57_r2 [(4, 0)]) (CCode.block 1 (CCode.reg c57_r3 []))) .ready none) ∧
    ∃ vo, h2.get h.next = some (.blk [vo] true) ∧ OwnS h h2 1 vo (icells (a.take i)) ∧ notOf vo h.next ∧ notOf vo L := ⟨_, rfl⟩
  replace hJ : ∀ i h2, J i h2 ↔ _ := fun i h2 => by rw [hJ]
  refine values1_c (v := v) (a := a) J (fun _ => False) ?_ ?_ ha ?_ _ ?_
  · intro i h1 hj
    obtain ⟨h2, _⟩ := (hJ _ _).1 hj
    exact ⟨⟨true, h2.get hb⟩, hv.mono h2⟩
  · refine (hJ _ _).2 ⟨((Heap.le.refl h).alloc _).trans (((Heap.le.refl _).alloc _).alloc _), ?_, .slice none 0 0, ?_, OwnS.nil _ _ _, fun _ _ => by simp, fun _ _ => by simp⟩
    · rw [← hL]; exact Heap.get_alloc_same ((h.alloc (.blk [.slice none 0 0] true)).alloc .defd) _
    · exact (((Heap.le.refl _).alloc _).alloc _ : (h.alloc (.blk [.slice none 0 0] true)).le _).get (Heap.get_alloc_same _ _)
  · intro i x h2 hx hj
    obtain ⟨hl2, hgL, vo, hbp, ho, hn1, hn2⟩ := (hJ _ _).1 hj
    replace hJ := Hid.mk hJ
    replace hj := Hid.mk hj
    have hi := (List.getElem?_eq_some_iff.1 hx).1
    refine yield_w hgL (by decide) rfl rfl rfl ?_
    subst he
    simp only [setPs, List.set_cons_succ, List.set_cons_zero]
    delta c57_r2 c57_r3
    simp -implicitDefEqProofs only [W_skip, W_reg, W_seq, W_rcond, W_cond, W_block, W_loop, W_exit, W_ret, thenQ_normal, thenQ_exit, thenQ_ret, blockQ_normal, blockQ_ret, blockQ_here, regQ_app, rcQ_app, cndK_t, cndK_f, RegW_nil, RegW_none, RegW_some, contW_app, grdK_tt, grdK_ff, grdK_tf, grdK_ft, grdK_undef, actK_p, actK_r, actK_a, actK_w, actK_call, actK_callV, heapK_app, allocK_app, writeK_app, ret1_ret, ret1_normal, ret0_ret, ret0_normal, ret2_ret2, thenK_app, retcv_ret, retcvK_app, optW_some, evs, Arg.ev, aP, aR, aA, aW, pMov, pBin, pUn, pConv, pPick, pFieldAddr, pNilCheck, pExtract, aBin, aUn, aInt, aNew, partL_f, upd, List.getElem?_cons_zero, List.getElem?_cons_succ, List.getD_cons_zero, List.getD_cons_succ, List.set_cons_zero, List.set_cons_succ, Nat.zero_add, Nat.add_zero, List.getElem?_toArray, List.take_zero, List.drop_zero, List.take_succ_cons, List.drop_succ_cons, if_true, if_false, decide_true, decide_false, Bool.false_eq_true, Bool.true_eq_false, Bool.not_true, Bool.not_false, not_true_eq_false, not_false_eq_true, ge_iff_le, gt_iff_lt, beq_self_eq_true, bne_self_eq_false, and_self, and_true, true_and, Option.isSome_some, Heap.get_alloc_same, Heap.alloc_getE]
    refine ⟨hgL, ?_⟩
    generalize hbusy : AObj.loop _ _ _ _ LoopState.busy none = busy
    have k1 : (h2.set L busy).get h.next = some (.blk [vo] true) := by rw [Heap.set_getE _ _ _ _ (by simp; omega)]; exact hbp
    have k2 : (h2.set L busy).get L = some busy := Heap.set_getS _ _ _ (by rw [hgL]; rfl)
    have hl3 : h.le (h2.set L busy) := hl2.set (by omega) _
    have ho3 : OwnS h (h2.set L busy) 1 vo (icells (a.take i)) := ho.get fun id hid _ => Heap.set_getE _ _ _ _ (by
      have : id ≠ L := fun e => hn2 _ _ (by rw [hid, e])
      simpa using this)
    obtain ⟨v', h4, ha4, ho4, hl4, hk4, hf4, hn4⟩ := ho3.append1 hl3 (x := [.int .i64 x]) rfl (by omega) (b := 8) (by rw [icells_len]; simp; omega) (by rw [icells_len]; simp; omega)
    have k3 : h4.get h.next = some (.blk [vo] true) := by rw [hk4 _ (by rw [k1]; rfl) hn1]; exact k1
    have k4 : h4.get L = some busy := by rw [hk4 _ (by rw [k2]; rfl) hn2]; exact k2
    have hs : ∃ id, v' = .slice (some ⟨id, 0, none⟩) (icells (a.take i) ++ [[Value.int .i64 x]]).length 1 ∧ id ≠ h.next ∧ id ≠ L := by
      rcases ho4 with ⟨_, e⟩ | ⟨id, e, _, _, _⟩
      · simp at e
      · exact ⟨id, e, fun e' => hf4 h.next (by rw [k1]; rfl) _ _ (by rw [e, e']), fun e' => hf4 L (by rw [k2]; rfl) _ _ (by rw [e, e'])⟩
    obtain ⟨id, hid, hid1, hid2⟩ := hs
    have s1 : wStore 1 h4 [.pointer (some ⟨h.next, 0, none⟩), v'] = some (undef, h4.set h.next (.blk [v'] true)) := by
      rw [hid]; exact wStore_one k3 (by simp) rfl rfl
    simp -implicitDefEqProofs only [W_skip, W_reg, W_seq, W_rcond, W_cond, W_block, W_loop, W_exit, W_ret, thenQ_normal, thenQ_exit, thenQ_ret, blockQ_normal, blockQ_ret, blockQ_here, regQ_app, rcQ_app, cndK_t, cndK_f, RegW_nil, RegW_none, RegW_some, contW_app, grdK_tt, grdK_ff, grdK_tf, grdK_ft, grdK_undef, actK_p, actK_r, actK_a, actK_w, actK_call, actK_callV, heapK_app, allocK_app, writeK_app, ret1_ret, ret1_normal, ret0_ret, ret0_normal, ret2_ret2, thenK_app, retcv_ret, retcvK_app, optW_some, evs, Arg.ev, aP, aR, aA, aW, pMov, pBin, pUn, pConv, pPick, pFieldAddr, pNilCheck, pExtract, aBin, aUn, aInt, aNew, partL_f, upd, List.getElem?_cons_zero, List.getElem?_cons_succ, List.getD_cons_zero, List.getD_cons_succ, List.set_cons_zero, List.set_cons_succ, Nat.zero_add, Nat.add_zero, List.getElem?_toArray, List.take_zero, List.drop_zero, List.take_succ_cons, List.drop_succ_cons, if_true, if_false, decide_true, decide_false, Bool.false_eq_true, Bool.true_eq_false, Bool.not_true, Bool.not_false, not_true_eq_false, not_false_eq_true, ge_iff_le, gt_iff_lt, beq_self_eq_true, bne_self_eq_false, and_self, and_true, true_and, Option.isSome_some, Heap.get_alloc_same, Heap.alloc_getE, k1, bslice_int, ha4, s1, jumpOf, Option.isNone_none]
    refine ⟨?_, .inl ((hJ.h _ _).2 ⟨?_, ?_, v', ?_, ?_, ?_, ?_⟩)⟩
    · rw [Heap.set_getE _ _ _ _ (by simp; omega)]; exact k4
    · exact (hl4.set (Nat.le_refl _) _).set (by omega) _
    · exact Heap.set_getS _ _ _ (by rw [Heap.set_getE _ _ _ _ (by simp; omega), k4]; rfl)
    · rw [Heap.set_getE _ _ _ _ (by simp; omega)]
      exact Heap.set_getS _ _ _ (by rw [k3]; rfl)
    · have : icells (a.take (i + 1)) = icells (a.take i) ++ [[Value.int .i64 x]] := by rw [List.take_add_one, hx]; simp [icells]
      rw [this]
      refine ho4.get fun id' hid' _ => ?_
      rw [hid] at hid'
      cases hid'
      rw [Heap.set_getE _ _ _ _ (by simpa using hid2), Heap.set_getE _ _ _ _ (by simpa using hid1)]
    · intro n s e; rw [hid] at e; cases e; exact hid1 rfl
    · intro n s e; rw [hid] at e; cases e; exact hid2 rfl
  · rintro h2 (hj | hF)
    · obtain ⟨hl2, hgL, vo, hbp, ho, hn1, hn2⟩ := (hJ _ _).1 hj
      refine ⟨_, .normal, hgL, by simp, ?_⟩
      have k1 : (h2.set L .dead).get h.next = some (.blk [vo] true) := by rw [Heap.set_getE _ _ _ _ (by simp; omega)]; exact hbp
      rw [he]
      repeat' (first | simp -implicitDefEqProofs only [W_skip, W_reg, W_seq, W_rcond, W_cond, W_block, W_loop, W_exit, W_ret, thenQ_normal, thenQ_exit, thenQ_ret, blockQ_normal, blockQ_ret, blockQ_here, regQ_app, rcQ_app, cndK_t, cndK_f, RegW_nil, RegW_none, RegW_some, contW_app, grdK_tt, grdK_ff, grdK_tf, grdK_ft, grdK_undef, actK_p, actK_r, actK_a, actK_w, actK_call, actK_callV, heapK_app, allocK_app, writeK_app, ret1_ret, ret1_normal, ret0_ret, ret0_normal, ret2_ret2, thenK_app, retcv_ret, retcvK_app, optW_some, evs, Arg.ev, aP, aR, aA, aW, pMov, pBin, pUn, pConv, pPick, pFieldAddr, pNilCheck, pExtract, aBin, aUn, aInt, aNew, partL_f, upd, List.getElem?_cons_zero, List.getElem?_cons_succ, List.getD_cons_zero, List.getD_cons_succ, List.set_cons_zero, List.set_cons_succ, Nat.zero_add, Nat.add_zero, List.getElem?_toArray, List.take_zero, List.drop_zero, List.take_succ_cons, List.drop_succ_cons, if_true, if_false, decide_true, decide_false, Bool.false_eq_true, Bool.true_eq_false, Bool.not_true, Bool.not_false, not_true_eq_false, not_false_eq_true, ge_iff_le, gt_iff_lt, beq_self_eq_true, bne_self_eq_false, and_self, and_true, true_and, Option.isSome_some, Heap.get_alloc_same, Heap.alloc_getE, *] | with_reducible refine cndK_d (fun hc => ?_) (fun hc => ?_) | with_reducible refine grdK_d (fun hc => ?_) (fun hc => ?_) | with_reducible refine cndK_i (fun hc => ?_) (fun hc => ?_) | with_reducible refine grdK_i (fun hc => ?_) (fun hc => ?_))
      rw [List.take_of_length_le (Nat.le_refl _)] at ho
      refine hq.h _ _ (OwnS.sweep (ho.get fun id hid _ => Heap.set_getE _ _ _ _ (by
        have : id ≠ L := fun e => hn2 _ _ (by rw [hid, e])
        simpa using this))) (Heap.le.sweep (hl2.set (by omega) _))
    · exact hF.elim
end Go.Eng.Ax

set_option linter.unusedSimpArgs false
set_option linter.unusedVariables false
namespace Go.Eng.Ax
open Go Go.Eng Go.Proofs

theorem collect_c {v : Value} {a : List Int} {b : Nat} {h : Heap} (hv : Ints h v a) (hb : h.get b = some (.blk [v] true)) (ha : a.length ≤ 1000000) (Q : Value → Heap → Prop)
    (hq : ∀ v' h', OwnS h h' 1 v' (icells a) → h.le h' → Q v' h') : CallW Try.prog 52 [.func (.func 54) #[] #[.pointer (some ⟨b, 0, none⟩)]] h Q := by
  refine call_of1 (k := 1) ok52 rfl rfl rfl fun N => ?_
  rw [show env0 c52 [.func (.func 54) #[] #[.pointer (some ⟨b, 0, none⟩)]] = [.func (.func 54) #[] #[.pointer (some ⟨b, 0, none⟩)], undef] from rfl]
  delta c52 c52_r0 c52_r1
  replace hq := Hid.mk hq
  repeat' (first | simp -implicitDefEqProofs only [W_skip, W_reg, W_seq, W_rcond, W_cond, W_block, W_loop, W_exit, W_ret, thenQ_normal, thenQ_exit, thenQ_ret, blockQ_normal, blockQ_ret, blockQ_here, regQ_app, rcQ_app, cndK_t, cndK_f, RegW_nil, RegW_none, RegW_some, contW_app, grdK_tt, grdK_ff, grdK_tf, grdK_ft, grdK_undef, actK_p, actK_r, actK_a, actK_w, actK_call, actK_callV, heapK_app, allocK_app, writeK_app, ret1_ret, ret1_normal, ret0_ret, ret0_normal, ret2_ret2, thenK_app, retcv_ret, retcvK_app, optW_some, evs, Arg.ev, aP, aR, aA, aW, pMov, pBin, pUn, pConv, pPick, pFieldAddr, pNilCheck, pExtract, aBin, aUn, aInt, aNew, partL_f, upd, List.getElem?_cons_zero, List.getElem?_cons_succ, List.getD_cons_zero, List.getD_cons_succ, List.set_cons_zero, List.set_cons_succ, Nat.zero_add, Nat.add_zero, List.getElem?_toArray, List.take_zero, List.drop_zero, List.take_succ_cons, List.drop_succ_cons, if_true, if_false, decide_true, decide_false, Bool.false_eq_true, Bool.true_eq_false, Bool.not_true, Bool.not_false, not_true_eq_false, not_false_eq_true, ge_iff_le, gt_iff_lt, beq_self_eq_true, bne_self_eq_false, and_self, and_true, true_and, Option.isSome_some, Heap.get_alloc_same, Heap.alloc_getE, *] | with_reducible refine cndK_d (fun hc => ?_) (fun hc => ?_) | with_reducible refine grdK_d (fun hc => ?_) (fun hc => ?_) | with_reducible refine cndK_i (fun hc => ?_) (fun hc => ?_) | with_reducible refine grdK_i (fun hc => ?_) (fun hc => ?_))
  refine appendSeq_c hv hb ha _ fun v' h' ho hl => ?_
  repeat' (first | simp -implicitDefEqProofs only [W_skip, W_reg, W_seq, W_rcond, W_cond, W_block, W_loop, W_exit, W_ret, thenQ_normal, thenQ_exit, thenQ_ret, blockQ_normal, blockQ_ret, blockQ_here, regQ_app, rcQ_app, cndK_t, cndK_f, RegW_nil, RegW_none, RegW_some, contW_app, grdK_tt, grdK_ff, grdK_tf, grdK_ft, grdK_undef, actK_p, actK_r, actK_a, actK_w, actK_call, actK_callV, heapK_app, allocK_app, writeK_app, ret1_ret, ret1_normal, ret0_ret, ret0_normal, ret2_ret2, thenK_app, retcv_ret, retcvK_app, optW_some, evs, Arg.ev, aP, aR, aA, aW, pMov, pBin, pUn, pConv, pPick, pFieldAddr, pNilCheck, pExtract, aBin, aUn, aInt, aNew, partL_f, upd, List.getElem?_cons_zero, List.getElem?_cons_succ, List.getD_cons_zero, List.getD_cons_succ, List.set_cons_zero, List.set_cons_succ, Nat.zero_add, Nat.add_zero, List.getElem?_toArray, List.take_zero, List.drop_zero, List.take_succ_cons, List.drop_succ_cons, if_true, if_false, decide_true, decide_false, Bool.false_eq_true, Bool.true_eq_false, Bool.not_true, Bool.not_false, not_true_eq_false, not_false_eq_true, ge_iff_le, gt_iff_lt, beq_self_eq_true, bne_self_eq_false, and_self, and_true, true_and, Option.isSome_some, Heap.get_alloc_same, Heap.alloc_getE, *] | with_reducible refine cndK_d (fun hc => ?_) (fun hc => ?_) | with_reducible refine grdK_d (fun hc => ?_) (fun hc => ?_) | with_reducible refine cndK_i (fun hc => ?_) (fun hc => ?_) | with_reducible refine grdK_i (fun hc => ?_) (fun hc => ?_))
  exact hq.h _ _ ho hl

theorem flat_icells : ∀ a : List Int, (icells a).flatten = a.map (Value.int .i64) := by
  intro a; induction a with
  | nil => rfl
  | cons z r ih => simp only [icells, List.map_cons, List.flatten_cons] at *; rw [ih]; rfl
theorem ints_of_blk {h : Heap} {id : Nat} {ys : List Int} (hg : h.get id = some (iblk ys)) {n : Nat} (hn : ys.length = n) : OwnS h h 1 (.slice (some ⟨id, 0, none⟩) n 1) (icells ys) ∨ Ints h (.slice (some ⟨id, 0, none⟩) n 1) ys := by
  right
  refine OwnS.sl (h0 := ⟨0, fun _ => none, fun _ _ => rfl⟩) (.inr ⟨id, by subst hn; simp, Nat.zero_le _, by rw [hg]; exact congrArg (fun z => some (AObj.blk z true)) (flat_icells ys).symm, ?_⟩)
  intro x hx
  obtain ⟨z, _, rfl⟩ := List.mem_map.1 hx
  rfl

theorem insertionNil_c (h : Heap) (Q : Value → Heap → Prop) (hq : Q (.tuple #[]) h) : CallW Try.prog 60 [.slice none 0 0, .int .i64 0, .int .i64 0] h Q := by
  refine call_of0 ok60 rfl rfl rfl fun N => ?_
  rw [show env0 c60 [.slice none 0 0, .int .i64 0, .int .i64 0] = [.slice none 0 0, .int .i64 0, .int .i64 0, undef, undef] from rfl]
  delta c60 c60_r0 c60_r1 c60_r2 c60_r3 c60_r4 c60_r5 c60_r7
  replace hq := Hid.mk hq
  have hwr1 : IntKind.i64.wrap ((0 : Int) + 1) = 1 := by decide
  have h10 : ¬ (1 : Int) < 0 := by decide
  repeat' (first | simp -implicitDefEqProofs only [W_skip, W_reg, W_seq, W_rcond, W_cond, W_block, W_loop, W_exit, W_ret, thenQ_normal, thenQ_exit, thenQ_ret, blockQ_normal, blockQ_ret, blockQ_here, regQ_app, rcQ_app, cndK_t, cndK_f, RegW_nil, RegW_none, RegW_some, contW_app, grdK_tt, grdK_ff, grdK_tf, grdK_ft, grdK_undef, actK_p, actK_r, actK_a, actK_w, actK_call, actK_callV, heapK_app, allocK_app, writeK_app, ret1_ret, ret1_normal, ret0_ret, ret0_normal, ret2_ret2, thenK_app, retcv_ret, retcvK_app, optW_some, evs, Arg.ev, aP, aR, aA, aW, pMov, pBin, pUn, pConv, pPick, pFieldAddr, pNilCheck, pExtract, aBin, aUn, aInt, aNew, partL_f, upd, List.getElem?_cons_zero, List.getElem?_cons_succ, List.getD_cons_zero, List.getD_cons_succ, List.set_cons_zero, List.set_cons_succ, Nat.zero_add, Nat.add_zero, List.getElem?_toArray, List.take_zero, List.drop_zero, List.take_succ_cons, List.drop_succ_cons, if_true, if_false, decide_true, decide_false, Bool.false_eq_true, Bool.true_eq_false, Bool.not_true, Bool.not_false, not_true_eq_false, not_false_eq_true, ge_iff_le, gt_iff_lt, beq_self_eq_true, bne_self_eq_false, and_self, and_true, true_and, Option.isSome_some, Heap.get_alloc_same, Heap.alloc_getE, *] | with_reducible refine cndK_d (fun hc => ?_) (fun hc => ?_) | with_reducible refine grdK_d (fun hc => ?_) (fun hc => ?_) | with_reducible refine cndK_i (fun hc => ?_) (fun hc => ?_) | with_reducible refine grdK_i (fun hc => ?_) (fun hc => ?_))
  refine LoopW.round ?_
  delta c60_l8 c60_r0 c60_r1 c60_r2 c60_r3 c60_r4 c60_r5 c60_r7
  repeat' (first | simp -implicitDefEqProofs only [W_skip, W_reg, W_seq, W_rcond, W_cond, W_block, W_loop, W_exit, W_ret, thenQ_normal, thenQ_exit, thenQ_ret, blockQ_normal, blockQ_ret, blockQ_here, regQ_app, rcQ_app, cndK_t, cndK_f, RegW_nil, RegW_none, RegW_some, contW_app, grdK_tt, grdK_ff, grdK_tf, grdK_ft, grdK_undef, actK_p, actK_r, actK_a, actK_w, actK_call, actK_callV, heapK_app, allocK_app, writeK_app, ret1_ret, ret1_normal, ret0_ret, ret0_normal, ret2_ret2, thenK_app, retcv_ret, retcvK_app, optW_some, evs, Arg.ev, aP, aR, aA, aW, pMov, pBin, pUn, pConv, pPick, pFieldAddr, pNilCheck, pExtract, aBin, aUn, aInt, aNew, partL_f, upd, List.getElem?_cons_zero, List.getElem?_cons_succ, List.getD_cons_zero, List.getD_cons_succ, List.set_cons_zero, List.set_cons_succ, Nat.zero_add, Nat.add_zero, List.getElem?_toArray, List.take_zero, List.drop_zero, List.take_succ_cons, List.drop_succ_cons, if_true, if_false, decide_true, decide_false, Bool.false_eq_true, Bool.true_eq_false, Bool.not_true, Bool.not_false, not_true_eq_false, not_false_eq_true, ge_iff_le, gt_iff_lt, beq_self_eq_true, bne_self_eq_false, and_self, and_true, true_and, Option.isSome_some, Heap.get_alloc_same, Heap.alloc_getE, *] | with_reducible refine cndK_d (fun hc => ?_) (fun hc => ?_) | with_reducible refine grdK_d (fun hc => ?_) (fun hc => ?_) | with_reducible refine cndK_i (fun hc => ?_) (fun hc => ?_) | with_reducible refine grdK_i (fun hc => ?_) (fun hc => ?_))
  exact hq.h
theorem pdqNil_c (h : Heap) (z : Int) (Q : Value → Heap → Prop) (hq : Q (.tuple #[]) h) : CallW Try.prog 58 [.slice none 0 0, .int .i64 0, .int .i64 0, .int .i64 z] h Q := by
  have h12 : (0 : Int) ≤ 12 := by omega
  have hw : IntKind.i64.wrap ((0 : Int) - 0) = 0 := by decide
  refine call_of0 ok58 rfl rfl rfl fun N => ?_
  rw [show env0 c58 [.slice none 0 0, .int .i64 0, .int .i64 0, .int .i64 z] = [.slice none 0 0, .int .i64 0, .int .i64 0, .int .i64 z, undef, undef, undef, undef, undef, undef, undef, undef, undef, undef, undef] from rfl]
  delta c58 c58_r0 c58_r1 c58_r2 c58_r3 c58_r4 c58_r5 c58_r6 c58_r7 c58_r8 c58_r9 c58_r10 c58_r11 c58_r12 c58_r13 c58_r14 c58_r15 c58_r16 c58_r17 c58_r18 c58_r19 c58_r20 c58_r21 c58_r22 c58_r23 c58_r24 c58_r25 c58_r26 c58_r27 c58_r28 c58_r29 c58_r30
  replace hq := Hid.mk hq
  repeat' (first | simp -implicitDefEqProofs only [W_skip, W_reg, W_seq, W_rcond, W_cond, W_block, W_loop, W_exit, W_ret, thenQ_normal, thenQ_exit, thenQ_ret, blockQ_normal, blockQ_ret, blockQ_here, regQ_app, rcQ_app, cndK_t, cndK_f, RegW_nil, RegW_none, RegW_some, contW_app, grdK_tt, grdK_ff, grdK_tf, grdK_ft, grdK_undef, actK_p, actK_r, actK_a, actK_w, actK_call, actK_callV, heapK_app, allocK_app, writeK_app, ret1_ret, ret1_normal, ret0_ret, ret0_normal, ret2_ret2, thenK_app, retcv_ret, retcvK_app, optW_some, evs, Arg.ev, aP, aR, aA, aW, pMov, pBin, pUn, pConv, pPick, pFieldAddr, pNilCheck, pExtract, aBin, aUn, aInt, aNew, partL_f, upd, List.getElem?_cons_zero, List.getElem?_cons_succ, List.getD_cons_zero, List.getD_cons_succ, List.set_cons_zero, List.set_cons_succ, Nat.zero_add, Nat.add_zero, List.getElem?_toArray, List.take_zero, List.drop_zero, List.take_succ_cons, List.drop_succ_cons, if_true, if_false, decide_true, decide_false, Bool.false_eq_true, Bool.true_eq_false, Bool.not_true, Bool.not_false, not_true_eq_false, not_false_eq_true, ge_iff_le, gt_iff_lt, beq_self_eq_true, bne_self_eq_false, and_self, and_true, true_and, Option.isSome_some, Heap.get_alloc_same, Heap.alloc_getE, *] | with_reducible refine cndK_d (fun hc => ?_) (fun hc => ?_) | with_reducible refine grdK_d (fun hc => ?_) (fun hc => ?_) | with_reducible refine cndK_i (fun hc => ?_) (fun hc => ?_) | with_reducible refine grdK_i (fun hc => ?_) (fun hc => ?_))
  refine LoopW.round ?_
  delta c58_l31 c58_r0 c58_r1 c58_r2 c58_r3 c58_r4 c58_r5 c58_r6 c58_r7 c58_r8 c58_r9 c58_r10 c58_r11 c58_r12 c58_r13 c58_r14 c58_r15 c58_r16 c58_r17 c58_r18 c58_r19 c58_r20 c58_r21 c58_r22 c58_r23 c58_r24 c58_r25 c58_r26 c58_r27 c58_r28 c58_r29 c58_r30
  repeat' (first | simp -implicitDefEqProofs only [W_skip, W_reg, W_seq, W_rcond, W_cond, W_block, W_loop, W_exit, W_ret, thenQ_normal, thenQ_exit, thenQ_ret, blockQ_normal, blockQ_ret, blockQ_here, regQ_app, rcQ_app, cndK_t, cndK_f, RegW_nil, RegW_none, RegW_some, contW_app, grdK_tt, grdK_ff, grdK_tf, grdK_ft, grdK_undef, actK_p, actK_r, actK_a, actK_w, actK_call, actK_callV, heapK_app, allocK_app, writeK_app, ret1_ret, ret1_normal, ret0_ret, ret0_normal, ret2_ret2, thenK_app, retcv_ret, retcvK_app, optW_some, evs, Arg.ev, aP, aR, aA, aW, pMov, pBin, pUn, pConv, pPick, pFieldAddr, pNilCheck, pExtract, aBin, aUn, aInt, aNew, partL_f, upd, List.getElem?_cons_zero, List.getElem?_cons_succ, List.getD_cons_zero, List.getD_cons_succ, List.set_cons_zero, List.set_cons_succ, Nat.zero_add, Nat.add_zero, List.getElem?_toArray, List.take_zero, List.drop_zero, List.take_succ_cons, List.drop_succ_cons, if_true, if_false, decide_true, decide_false, Bool.false_eq_true, Bool.true_eq_false, Bool.not_true, Bool.not_false, not_true_eq_false, not_false_eq_true, ge_iff_le, gt_iff_lt, beq_self_eq_true, bne_self_eq_false, and_self, and_true, true_and, Option.isSome_some, Heap.get_alloc_same, Heap.alloc_getE, *] | with_reducible refine cndK_d (fun hc => ?_) (fun hc => ?_) | with_reducible refine grdK_d (fun hc => ?_) (fun hc => ?_) | with_reducible refine cndK_i (fun hc => ?_) (fun hc => ?_) | with_reducible refine grdK_i (fun hc => ?_) (fun hc => ?_))
  refine insertionNil_c h _ ?_
  repeat' (first | simp -implicitDefEqProofs only [W_skip, W_reg, W_seq, W_rcond, W_cond, W_block, W_loop, W_exit, W_ret, thenQ_normal, thenQ_exit, thenQ_ret, blockQ_normal, blockQ_ret, blockQ_here, regQ_app, rcQ_app, cndK_t, cndK_f, RegW_nil, RegW_none, RegW_some, contW_app, grdK_tt, grdK_ff, grdK_tf, grdK_ft, grdK_undef, actK_p, actK_r, actK_a, actK_w, actK_call, actK_callV, heapK_app, allocK_app, writeK_app, ret1_ret, ret1_normal, ret0_ret, ret0_normal, ret2_ret2, thenK_app, retcv_ret, retcvK_app, optW_some, evs, Arg.ev, aP, aR, aA, aW, pMov, pBin, pUn, pConv, pPick, pFieldAddr, pNilCheck, pExtract, aBin, aUn, aInt, aNew, partL_f, upd, List.getElem?_cons_zero, List.getElem?_cons_succ, List.getD_cons_zero, List.getD_cons_succ, List.set_cons_zero, List.set_cons_succ, Nat.zero_add, Nat.add_zero, List.getElem?_toArray, List.take_zero, List.drop_zero, List.take_succ_cons, List.drop_succ_cons, if_true, if_false, decide_true, decide_false, Bool.false_eq_true, Bool.true_eq_false, Bool.not_true, Bool.not_false, not_true_eq_false, not_false_eq_true, ge_iff_le, gt_iff_lt, beq_self_eq_true, bne_self_eq_false, and_self, and_true, true_and, Option.isSome_some, Heap.get_alloc_same, Heap.alloc_getE, *] | with_reducible refine cndK_d (fun hc => ?_) (fun hc => ?_) | with_reducible refine grdK_d (fun hc => ?_) (fun hc => ?_) | with_reducible refine cndK_i (fun hc => ?_) (fun hc => ?_) | with_reducible refine grdK_i (fun hc => ?_) (fun hc => ?_))
  exact hq.h
theorem sortNil_c (h : Heap) (Q : Value → Heap → Prop) (hq : Q (.tuple #[]) h) : CallW Try.prog 53 [.slice none 0 0] h Q := by
  have hw : IntKind.u64.wrap 0 = ((0 : Nat) : Int) := by decide
  have hl : pLenS [.slice none 0 0] = some (.int .i64 0) := rfl
  refine call_of0 ok53 rfl rfl rfl fun N => ?_
  rw [show env0 c53 [.slice none 0 0] = [.slice none 0 0, undef] from rfl]
  delta c53 c53_r0 c53_r1
  replace hq := Hid.mk hq
  repeat' (first | simp -implicitDefEqProofs only [W_skip, W_reg, W_seq, W_rcond, W_cond, W_block, W_loop, W_exit, W_ret, thenQ_normal, thenQ_exit, thenQ_ret, blockQ_normal, blockQ_ret, blockQ_here, regQ_app, rcQ_app, cndK_t, cndK_f, RegW_nil, RegW_none, RegW_some, contW_app, grdK_tt, grdK_ff, grdK_tf, grdK_ft, grdK_undef, actK_p, actK_r, actK_a, actK_w, actK_call, actK_callV, heapK_app, allocK_app, writeK_app, ret1_ret, ret1_normal, ret0_ret, ret0_normal, ret2_ret2, thenK_app, retcv_ret, retcvK_app, optW_some, evs, Arg.ev, aP, aR, aA, aW, pMov, pBin, pUn, pConv, pPick, pFieldAddr, pNilCheck, pExtract, aBin, aUn, aInt, aNew, partL_f, upd, List.getElem?_cons_zero, List.getElem?_cons_succ, List.getD_cons_zero, List.getD_cons_succ, List.set_cons_zero, List.set_cons_succ, Nat.zero_add, Nat.add_zero, List.getElem?_toArray, List.take_zero, List.drop_zero, List.take_succ_cons, List.drop_succ_cons, if_true, if_false, decide_true, decide_false, Bool.false_eq_true, Bool.true_eq_false, Bool.not_true, Bool.not_false, not_true_eq_false, not_false_eq_true, ge_iff_le, gt_iff_lt, beq_self_eq_true, bne_self_eq_false, and_self, and_true, true_and, Option.isSome_some, Heap.get_alloc_same, Heap.alloc_getE, *] | with_reducible refine cndK_d (fun hc => ?_) (fun hc => ?_) | with_reducible refine grdK_d (fun hc => ?_) (fun hc => ?_) | with_reducible refine cndK_i (fun hc => ?_) (fun hc => ?_) | with_reducible refine grdK_i (fun hc => ?_) (fun hc => ?_))
  refine len_c 0 (by omega) h _ fun z => ?_
  repeat' (first | simp -implicitDefEqProofs only [W_skip, W_reg, W_seq, W_rcond, W_cond, W_block, W_loop, W_exit, W_ret, thenQ_normal, thenQ_exit, thenQ_ret, blockQ_normal, blockQ_ret, blockQ_here, regQ_app, rcQ_app, cndK_t, cndK_f, RegW_nil, RegW_none, RegW_some, contW_app, grdK_tt, grdK_ff, grdK_tf, grdK_ft, grdK_undef, actK_p, actK_r, actK_a, actK_w, actK_call, actK_callV, heapK_app, allocK_app, writeK_app, ret1_ret, ret1_normal, ret0_ret, ret0_normal, ret2_ret2, thenK_app, retcv_ret, retcvK_app, optW_some, evs, Arg.ev, aP, aR, aA, aW, pMov, pBin, pUn, pConv, pPick, pFieldAddr, pNilCheck, pExtract, aBin, aUn, aInt, aNew, partL_f, upd, List.getElem?_cons_zero, List.getElem?_cons_succ, List.getD_cons_zero, List.getD_cons_succ, List.set_cons_zero, List.set_cons_succ, Nat.zero_add, Nat.add_zero, List.getElem?_toArray, List.take_zero, List.drop_zero, List.take_succ_cons, List.drop_succ_cons, if_true, if_false, decide_true, decide_false, Bool.false_eq_true, Bool.true_eq_false, Bool.not_true, Bool.not_false, not_true_eq_false, not_false_eq_true, ge_iff_le, gt_iff_lt, beq_self_eq_true, bne_self_eq_false, and_self, and_true, true_and, Option.isSome_some, Heap.get_alloc_same, Heap.alloc_getE, *] | with_reducible refine cndK_d (fun hc => ?_) (fun hc => ?_) | with_reducible refine grdK_d (fun hc => ?_) (fun hc => ?_) | with_reducible refine cndK_i (fun hc => ?_) (fun hc => ?_) | with_reducible refine grdK_i (fun hc => ?_) (fun hc => ?_))
  refine pdqNil_c h z _ ?_
  repeat' (first | simp -implicitDefEqProofs only [W_skip, W_reg, W_seq, W_rcond, W_cond, W_block, W_loop, W_exit, W_ret, thenQ_normal, thenQ_exit, thenQ_ret, blockQ_normal, blockQ_ret, blockQ_here, regQ_app, rcQ_app, cndK_t, cndK_f, RegW_nil, RegW_none, RegW_some, contW_app, grdK_tt, grdK_ff, grdK_tf, grdK_ft, grdK_undef, actK_p, actK_r, actK_a, actK_w, actK_call, actK_callV, heapK_app, allocK_app, writeK_app, ret1_ret, ret1_normal, ret0_ret, ret0_normal, ret2_ret2, thenK_app, retcv_ret, retcvK_app, optW_some, evs, Arg.ev, aP, aR, aA, aW, pMov, pBin, pUn, pConv, pPick, pFieldAddr, pNilCheck, pExtract, aBin, aUn, aInt, aNew, partL_f, upd, List.getElem?_cons_zero, List.getElem?_cons_succ, List.getD_cons_zero, List.getD_cons_succ, List.set_cons_zero, List.set_cons_succ, Nat.zero_add, Nat.add_zero, List.getElem?_toArray, List.take_zero, List.drop_zero, List.take_succ_cons, List.drop_succ_cons, if_true, if_false, decide_true, decide_false, Bool.false_eq_true, Bool.true_eq_false, Bool.not_true, Bool.not_false, not_true_eq_false, not_false_eq_true, ge_iff_le, gt_iff_lt, beq_self_eq_true, bne_self_eq_false, and_self, and_true, true_and, Option.isSome_some, Heap.get_alloc_same, Heap.alloc_getE, *] | with_reducible refine cndK_d (fun hc => ?_) (fun hc => ?_) | with_reducible refine grdK_d (fun hc => ?_) (fun hc => ?_) | with_reducible refine cndK_i (fun hc => ?_) (fun hc => ?_) | with_reducible refine grdK_i (fun hc => ?_) (fun hc => ?_))
  exact hq.h

/-- slices.Sorted of slices.Values -/
theorem sorted_c {v : Value} {a : List Int} {b : Nat} {h : Heap} (hv : Ints h v a) (hb : h.get b = some (.blk [v] true)) (ha : a.length ≤ 12) (Q : Value → Heap → Prop)
    (hq : ∀ v' h' ys, ys.Perm a → ys.Pairwise (· ≤ ·) → Ints h' v' ys → h.le h' → Q v' h') : CallW Try.prog 42 [.func (.func 54) #[] #[.pointer (some ⟨b, 0, none⟩)]] h Q := by
  refine call_of1 (k := 1) ok42 rfl rfl rfl fun N => ?_
  rw [show env0 c42 [.func (.func 54) #[] #[.pointer (some ⟨b, 0, none⟩)]] = [.func (.func 54) #[] #[.pointer (some ⟨b, 0, none⟩)], undef, undef] from rfl]
  delta c42 c42_r0 c42_r1 c42_r2 c42_r3
  replace hq := Hid.mk hq
  repeat' (first | simp -implicitDefEqProofs only [W_skip, W_reg, W_seq, W_rcond, W_cond, W_block, W_loop, W_exit, W_ret, thenQ_normal, thenQ_exit, thenQ_ret, blockQ_normal, blockQ_ret, blockQ_here, regQ_app, rcQ_app, cndK_t, cndK_f, RegW_nil, RegW_none, RegW_some, contW_app, grdK_tt, grdK_ff, grdK_tf, grdK_ft, grdK_undef, actK_p, actK_r, actK_a, actK_w, actK_call, actK_callV, heapK_app, allocK_app, writeK_app, ret1_ret, ret1_normal, ret0_ret, ret0_normal, ret2_ret2, thenK_app, retcv_ret, retcvK_app, optW_some, evs, Arg.ev, aP, aR, aA, aW, pMov, pBin, pUn, pConv, pPick, pFieldAddr, pNilCheck, pExtract, aBin, aUn, aInt, aNew, partL_f, upd, List.getElem?_cons_zero, List.getElem?_cons_succ, List.getD_cons_zero, List.getD_cons_succ, List.set_cons_zero, List.set_cons_succ, Nat.zero_add, Nat.add_zero, List.getElem?_toArray, List.take_zero, List.drop_zero, List.take_succ_cons, List.drop_succ_cons, if_true, if_false, decide_true, decide_false, Bool.false_eq_true, Bool.true_eq_false, Bool.not_true, Bool.not_false, not_true_eq_false, not_false_eq_true, ge_iff_le, gt_iff_lt, beq_self_eq_true, bne_self_eq_false, and_self, and_true, true_and, Option.isSome_some, Heap.get_alloc_same, Heap.alloc_getE, *] | with_reducible refine cndK_d (fun hc => ?_) (fun hc => ?_) | with_reducible refine grdK_d (fun hc => ?_) (fun hc => ?_) | with_reducible refine cndK_i (fun hc => ?_) (fun hc => ?_) | with_reducible refine grdK_i (fun hc => ?_) (fun hc => ?_))
  refine collect_c hv hb (by omega) _ fun v' h' ho hl => ?_
  have ho' := Hid.mk ho
  rcases ho with ⟨rfl, hnil⟩ | ⟨id, rfl, hi, hg, hx⟩
  · have ha0 : a = [] := by cases a with | nil => rfl | cons => simp [icells] at hnil
    subst ha0
    clear hnil
    repeat' (first | simp -implicitDefEqProofs only [W_skip, W_reg, W_seq, W_rcond, W_cond, W_block, W_loop, W_exit, W_ret, thenQ_normal, thenQ_exit, thenQ_ret, blockQ_normal, blockQ_ret, blockQ_here, regQ_app, rcQ_app, cndK_t, cndK_f, RegW_nil, RegW_none, RegW_some, contW_app, grdK_tt, grdK_ff, grdK_tf, grdK_ft, grdK_undef, actK_p, actK_r, actK_a, actK_w, actK_call, actK_callV, heapK_app, allocK_app, writeK_app, ret1_ret, ret1_normal, ret0_ret, ret0_normal, ret2_ret2, thenK_app, retcv_ret, retcvK_app, optW_some, evs, Arg.ev, aP, aR, aA, aW, pMov, pBin, pUn, pConv, pPick, pFieldAddr, pNilCheck, pExtract, aBin, aUn, aInt, aNew, partL_f, upd, List.getElem?_cons_zero, List.getElem?_cons_succ, List.getD_cons_zero, List.getD_cons_succ, List.set_cons_zero, List.set_cons_succ, Nat.zero_add, Nat.add_zero, List.getElem?_toArray, List.take_zero, List.drop_zero, List.take_succ_cons, List.drop_succ_cons, if_true, if_false, decide_true, decide_false, Bool.false_eq_true, Bool.true_eq_false, Bool.not_true, Bool.not_false, not_true_eq_false, not_false_eq_true, ge_iff_le, gt_iff_lt, beq_self_eq_true, bne_self_eq_false, and_self, and_true, true_and, Option.isSome_some, Heap.get_alloc_same, Heap.alloc_getE, *] | with_reducible refine cndK_d (fun hc => ?_) (fun hc => ?_) | with_reducible refine grdK_d (fun hc => ?_) (fun hc => ?_) | with_reducible refine cndK_i (fun hc => ?_) (fun hc => ?_) | with_reducible refine grdK_i (fun hc => ?_) (fun hc => ?_))
    refine sortNil_c _ _ ?_
    repeat' (first | simp -implicitDefEqProofs only [W_skip, W_reg, W_seq, W_rcond, W_cond, W_block, W_loop, W_exit, W_ret, thenQ_normal, thenQ_exit, thenQ_ret, blockQ_normal, blockQ_ret, blockQ_here, regQ_app, rcQ_app, cndK_t, cndK_f, RegW_nil, RegW_none, RegW_some, contW_app, grdK_tt, grdK_ff, grdK_tf, grdK_ft, grdK_undef, actK_p, actK_r, actK_a, actK_w, actK_call, actK_callV, heapK_app, allocK_app, writeK_app, ret1_ret, ret1_normal, ret0_ret, ret0_normal, ret2_ret2, thenK_app, retcv_ret, retcvK_app, optW_some, evs, Arg.ev, aP, aR, aA, aW, pMov, pBin, pUn, pConv, pPick, pFieldAddr, pNilCheck, pExtract, aBin, aUn, aInt, aNew, partL_f, upd, List.getElem?_cons_zero, List.getElem?_cons_succ, List.getD_cons_zero, List.getD_cons_succ, List.set_cons_zero, List.set_cons_succ, Nat.zero_add, Nat.add_zero, List.getElem?_toArray, List.take_zero, List.drop_zero, List.take_succ_cons, List.drop_succ_cons, if_true, if_false, decide_true, decide_false, Bool.false_eq_true, Bool.true_eq_false, Bool.not_true, Bool.not_false, not_true_eq_false, not_false_eq_true, ge_iff_le, gt_iff_lt, beq_self_eq_true, bne_self_eq_false, and_self, and_true, true_and, Option.isSome_some, Heap.get_alloc_same, Heap.alloc_getE, *] | with_reducible refine cndK_d (fun hc => ?_) (fun hc => ?_) | with_reducible refine grdK_d (fun hc => ?_) (fun hc => ?_) | with_reducible refine cndK_i (fun hc => ?_) (fun hc => ?_) | with_reducible refine grdK_i (fun hc => ?_) (fun hc => ?_))
    exact hq.h _ _ [] (List.Perm.refl _) List.Pairwise.nil (.inl ⟨rfl, rfl⟩) hl
  · have hlen : (icells a).length = a.length := icells_len a
    rw [flat_icells] at hg
    rw [hlen]
    repeat' (first | simp -implicitDefEqProofs only [W_skip, W_reg, W_seq, W_rcond, W_cond, W_block, W_loop, W_exit, W_ret, thenQ_normal, thenQ_exit, thenQ_ret, blockQ_normal, blockQ_ret, blockQ_here, regQ_app, rcQ_app, cndK_t, cndK_f, RegW_nil, RegW_none, RegW_some, contW_app, grdK_tt, grdK_ff, grdK_tf, grdK_ft, grdK_undef, actK_p, actK_r, actK_a, actK_w, actK_call, actK_callV, heapK_app, allocK_app, writeK_app, ret1_ret, ret1_normal, ret0_ret, ret0_normal, ret2_ret2, thenK_app, retcv_ret, retcvK_app, optW_some, evs, Arg.ev, aP, aR, aA, aW, pMov, pBin, pUn, pConv, pPick, pFieldAddr, pNilCheck, pExtract, aBin, aUn, aInt, aNew, partL_f, upd, List.getElem?_cons_zero, List.getElem?_cons_succ, List.getD_cons_zero, List.getD_cons_succ, List.set_cons_zero, List.set_cons_succ, Nat.zero_add, Nat.add_zero, List.getElem?_toArray, List.take_zero, List.drop_zero, List.take_succ_cons, List.drop_succ_cons, if_true, if_false, decide_true, decide_false, Bool.false_eq_true, Bool.true_eq_false, Bool.not_true, Bool.not_false, not_true_eq_false, not_false_eq_true, ge_iff_le, gt_iff_lt, beq_self_eq_true, bne_self_eq_false, and_self, and_true, true_and, Option.isSome_some, Heap.get_alloc_same, Heap.alloc_getE, *] | with_reducible refine cndK_d (fun hc => ?_) (fun hc => ?_) | with_reducible refine grdK_d (fun hc => ?_) (fun hc => ?_) | with_reducible refine cndK_i (fun hc => ?_) (fun hc => ?_) | with_reducible refine grdK_i (fun hc => ?_) (fun hc => ?_))
    refine sort_c (xs := a) hg ha _ fun h2 ys hp hs hg2 hb2 => ?_
    repeat' (first | simp -implicitDefEqProofs only [W_skip, W_reg, W_seq, W_rcond, W_cond, W_block, W_loop, W_exit, W_ret, thenQ_normal, thenQ_exit, thenQ_ret, blockQ_normal, blockQ_ret, blockQ_here, regQ_app, rcQ_app, cndK_t, cndK_f, RegW_nil, RegW_none, RegW_some, contW_app, grdK_tt, grdK_ff, grdK_tf, grdK_ft, grdK_undef, actK_p, actK_r, actK_a, actK_w, actK_call, actK_callV, heapK_app, allocK_app, writeK_app, ret1_ret, ret1_normal, ret0_ret, ret0_normal, ret2_ret2, thenK_app, retcv_ret, retcvK_app, optW_some, evs, Arg.ev, aP, aR, aA, aW, pMov, pBin, pUn, pConv, pPick, pFieldAddr, pNilCheck, pExtract, aBin, aUn, aInt, aNew, partL_f, upd, List.getElem?_cons_zero, List.getElem?_cons_succ, List.getD_cons_zero, List.getD_cons_succ, List.set_cons_zero, List.set_cons_succ, Nat.zero_add, Nat.add_zero, List.getElem?_toArray, List.take_zero, List.drop_zero, List.take_succ_cons, List.drop_succ_cons, if_true, if_false, decide_true, decide_false, Bool.false_eq_true, Bool.true_eq_false, Bool.not_true, Bool.not_false, not_true_eq_false, not_false_eq_true, ge_iff_le, gt_iff_lt, beq_self_eq_true, bne_self_eq_false, and_self, and_true, true_and, Option.isSome_some, Heap.get_alloc_same, Heap.alloc_getE, *] | with_reducible refine cndK_d (fun hc => ?_) (fun hc => ?_) | with_reducible refine grdK_d (fun hc => ?_) (fun hc => ?_) | with_reducible refine cndK_i (fun hc => ?_) (fun hc => ?_) | with_reducible refine grdK_i (fun hc => ?_) (fun hc => ?_))
    exact hq.h _ _ ys hp hs ((ints_of_blk hg2 hp.length_eq).elim (fun o => o.ints) (fun x => x)) (Heap.leBut.le hl hi hb2)

def isOrder (l : List Ev) (o : List Int) : Bool := decide (o.Perm (accs l))
theorem accs_sorted (l : List Ev) : (accs l).Pairwise (· ≤ ·) := by
  simp only [accs, accsTo]
  rw [List.pairwise_map]
  refine List.Pairwise.imp ?_ ((List.pairwise_lt_range (n := l.length)).filter _)
  intro a b h; omega
/-- isOrder -/
theorem isOrder_c {v w : Value} {l : List Ev} {o : List Int} {h : Heap} (hv : Evs h v l) (hw : Ints h w o) (hl : l.length ≤ 1000000) (ho : o.length ≤ 12) (Q : Value → Heap → Prop)
    (hq : ∀ v' h', v' = .bool (isOrder l o) → h.le h' → Q v' h') : CallW Try.prog 26 [v, w] h Q := by
  refine call_of1 (k := 2) ok26 rfl rfl rfl fun N => ?_
  rw [show env0 c26 [v, w] = [v, w, undef] from rfl]
  delta c26 c26_r0 c26_r1
  replace hq := Hid.mk hq
  repeat' (first | simp -implicitDefEqProofs only [W_skip, W_reg, W_seq, W_rcond, W_cond, W_block, W_loop, W_exit, W_ret, thenQ_normal, thenQ_exit, thenQ_ret, blockQ_normal, blockQ_ret, blockQ_here, regQ_app, rcQ_app, cndK_t, cndK_f, RegW_nil, RegW_none, RegW_some, contW_app, grdK_tt, grdK_ff, grdK_tf, grdK_ft, grdK_undef, actK_p, actK_r, actK_a, actK_w, actK_call, actK_callV, heapK_app, allocK_app, writeK_app, ret1_ret, ret1_normal, ret0_ret, ret0_normal, ret2_ret2, thenK_app, retcv_ret, retcvK_app, optW_some, evs, Arg.ev, aP, aR, aA, aW, pMov, pBin, pUn, pConv, pPick, pFieldAddr, pNilCheck, pExtract, aBin, aUn, aInt, aNew, partL_f, upd, List.getElem?_cons_zero, List.getElem?_cons_succ, List.getD_cons_zero, List.getD_cons_succ, List.set_cons_zero, List.set_cons_succ, Nat.zero_add, Nat.add_zero, List.getElem?_toArray, List.take_zero, List.drop_zero, List.take_succ_cons, List.drop_succ_cons, if_true, if_false, decide_true, decide_false, Bool.false_eq_true, Bool.true_eq_false, Bool.not_true, Bool.not_false, not_true_eq_false, not_false_eq_true, ge_iff_le, gt_iff_lt, beq_self_eq_true, bne_self_eq_false, and_self, and_true, true_and, Option.isSome_some, Heap.get_alloc_same, Heap.alloc_getE, *] | with_reducible refine cndK_d (fun hc => ?_) (fun hc => ?_) | with_reducible refine grdK_d (fun hc => ?_) (fun hc => ?_) | with_reducible refine cndK_i (fun hc => ?_) (fun hc => ?_) | with_reducible refine grdK_i (fun hc => ?_) (fun hc => ?_))
  refine values_c hw _ fun b h1 hb hl1 => ?_
  repeat' (first | simp -implicitDefEqProofs only [W_skip, W_reg, W_seq, W_rcond, W_cond, W_block, W_loop, W_exit, W_ret, thenQ_normal, thenQ_exit, thenQ_ret, blockQ_normal, blockQ_ret, blockQ_here, regQ_app, rcQ_app, cndK_t, cndK_f, RegW_nil, RegW_none, RegW_some, contW_app, grdK_tt, grdK_ff, grdK_tf, grdK_ft, grdK_undef, actK_p, actK_r, actK_a, actK_w, actK_call, actK_callV, heapK_app, allocK_app, writeK_app, ret1_ret, ret1_normal, ret0_ret, ret0_normal, ret2_ret2, thenK_app, retcv_ret, retcvK_app, optW_some, evs, Arg.ev, aP, aR, aA, aW, pMov, pBin, pUn, pConv, pPick, pFieldAddr, pNilCheck, pExtract, aBin, aUn, aInt, aNew, partL_f, upd, List.getElem?_cons_zero, List.getElem?_cons_succ, List.getD_cons_zero, List.getD_cons_succ, List.set_cons_zero, List.set_cons_succ, Nat.zero_add, Nat.add_zero, List.getElem?_toArray, List.take_zero, List.drop_zero, List.take_succ_cons, List.drop_succ_cons, if_true, if_false, decide_true, decide_false, Bool.false_eq_true, Bool.true_eq_false, Bool.not_true, Bool.not_false, not_true_eq_false, not_false_eq_true, ge_iff_le, gt_iff_lt, beq_self_eq_true, bne_self_eq_false, and_self, and_true, true_and, Option.isSome_some, Heap.get_alloc_same, Heap.alloc_getE, *] | with_reducible refine cndK_d (fun hc => ?_) (fun hc => ?_) | with_reducible refine grdK_d (fun hc => ?_) (fun hc => ?_) | with_reducible refine cndK_i (fun hc => ?_) (fun hc => ?_) | with_reducible refine grdK_i (fun hc => ?_) (fun hc => ?_))
  refine sorted_c (hw.mono hl1) hb ho _ fun v2 h2 ys hp hs hi2 hl2 => ?_
  replace hp := Hid.mk hp
  repeat' (first | simp -implicitDefEqProofs only [W_skip, W_reg, W_seq, W_rcond, W_cond, W_block, W_loop, W_exit, W_ret, thenQ_normal, thenQ_exit, thenQ_ret, blockQ_normal, blockQ_ret, blockQ_here, regQ_app, rcQ_app, cndK_t, cndK_f, RegW_nil, RegW_none, RegW_some, contW_app, grdK_tt, grdK_ff, grdK_tf, grdK_ft, grdK_undef, actK_p, actK_r, actK_a, actK_w, actK_call, actK_callV, heapK_app, allocK_app, writeK_app, ret1_ret, ret1_normal, ret0_ret, ret0_normal, ret2_ret2, thenK_app, retcv_ret, retcvK_app, optW_some, evs, Arg.ev, aP, aR, aA, aW, pMov, pBin, pUn, pConv, pPick, pFieldAddr, pNilCheck, pExtract, aBin, aUn, aInt, aNew, partL_f, upd, List.getElem?_cons_zero, List.getElem?_cons_succ, List.getD_cons_zero, List.getD_cons_succ, List.set_cons_zero, List.set_cons_succ, Nat.zero_add, Nat.add_zero, List.getElem?_toArray, List.take_zero, List.drop_zero, List.take_succ_cons, List.drop_succ_cons, if_true, if_false, decide_true, decide_false, Bool.false_eq_true, Bool.true_eq_false, Bool.not_true, Bool.not_false, not_true_eq_false, not_false_eq_true, ge_iff_le, gt_iff_lt, beq_self_eq_true, bne_self_eq_false, and_self, and_true, true_and, Option.isSome_some, Heap.get_alloc_same, Heap.alloc_getE, *] | with_reducible refine cndK_d (fun hc => ?_) (fun hc => ?_) | with_reducible refine grdK_d (fun hc => ?_) (fun hc => ?_) | with_reducible refine cndK_i (fun hc => ?_) (fun hc => ?_) | with_reducible refine grdK_i (fun hc => ?_) (fun hc => ?_))
  refine accesses_c (hv.mono (hl1.trans hl2)) hl _ fun v3 h3 ho3 hl3 => ?_
  repeat' (first | simp -implicitDefEqProofs only [W_skip, W_reg, W_seq, W_rcond, W_cond, W_block, W_loop, W_exit, W_ret, thenQ_normal, thenQ_exit, thenQ_ret, blockQ_normal, blockQ_ret, blockQ_here, regQ_app, rcQ_app, cndK_t, cndK_f, RegW_nil, RegW_none, RegW_some, contW_app, grdK_tt, grdK_ff, grdK_tf, grdK_ft, grdK_undef, actK_p, actK_r, actK_a, actK_w, actK_call, actK_callV, heapK_app, allocK_app, writeK_app, ret1_ret, ret1_normal, ret0_ret, ret0_normal, ret2_ret2, thenK_app, retcv_ret, retcvK_app, optW_some, evs, Arg.ev, aP, aR, aA, aW, pMov, pBin, pUn, pConv, pPick, pFieldAddr, pNilCheck, pExtract, aBin, aUn, aInt, aNew, partL_f, upd, List.getElem?_cons_zero, List.getElem?_cons_succ, List.getD_cons_zero, List.getD_cons_succ, List.set_cons_zero, List.set_cons_succ, Nat.zero_add, Nat.add_zero, List.getElem?_toArray, List.take_zero, List.drop_zero, List.take_succ_cons, List.drop_succ_cons, if_true, if_false, decide_true, decide_false, Bool.false_eq_true, Bool.true_eq_false, Bool.not_true, Bool.not_false, not_true_eq_false, not_false_eq_true, ge_iff_le, gt_iff_lt, beq_self_eq_true, bne_self_eq_false, and_self, and_true, true_and, Option.isSome_some, Heap.get_alloc_same, Heap.alloc_getE, *] | with_reducible refine cndK_d (fun hc => ?_) (fun hc => ?_) | with_reducible refine grdK_d (fun hc => ?_) (fun hc => ?_) | with_reducible refine cndK_i (fun hc => ?_) (fun hc => ?_) | with_reducible refine grdK_i (fun hc => ?_) (fun hc => ?_))
  refine equal_c (hi2.mono hl3) ho3.ints (by have := hp.h.length_eq; omega) _ fun v4 h4 hv4 hl4 => ?_
  subst hv4
  repeat' (first | simp -implicitDefEqProofs only [W_skip, W_reg, W_seq, W_rcond, W_cond, W_block, W_loop, W_exit, W_ret, thenQ_normal, thenQ_exit, thenQ_ret, blockQ_normal, blockQ_ret, blockQ_here, regQ_app, rcQ_app, cndK_t, cndK_f, RegW_nil, RegW_none, RegW_some, contW_app, grdK_tt, grdK_ff, grdK_tf, grdK_ft, grdK_undef, actK_p, actK_r, actK_a, actK_w, actK_call, actK_callV, heapK_app, allocK_app, writeK_app, ret1_ret, ret1_normal, ret0_ret, ret0_normal, ret2_ret2, thenK_app, retcv_ret, retcvK_app, optW_some, evs, Arg.ev, aP, aR, aA, aW, pMov, pBin, pUn, pConv, pPick, pFieldAddr, pNilCheck, pExtract, aBin, aUn, aInt, aNew, partL_f, upd, List.getElem?_cons_zero, List.getElem?_cons_succ, List.getD_cons_zero, List.getD_cons_succ, List.set_cons_zero, List.set_cons_succ, Nat.zero_add, Nat.add_zero, List.getElem?_toArray, List.take_zero, List.drop_zero, List.take_succ_cons, List.drop_succ_cons, if_true, if_false, decide_true, decide_false, Bool.false_eq_true, Bool.true_eq_false, Bool.not_true, Bool.not_false, not_true_eq_false, not_false_eq_true, ge_iff_le, gt_iff_lt, beq_self_eq_true, bne_self_eq_false, and_self, and_true, true_and, Option.isSome_some, Heap.get_alloc_same, Heap.alloc_getE, *] | with_reducible refine cndK_d (fun hc => ?_) (fun hc => ?_) | with_reducible refine grdK_d (fun hc => ?_) (fun hc => ?_) | with_reducible refine cndK_i (fun hc => ?_) (fun hc => ?_) | with_reducible refine grdK_i (fun hc => ?_) (fun hc => ?_))
  refine hq.h _ _ ?_ (((hl1.trans hl2).trans hl3).trans hl4)
  congr 1
  rw [isOrder, Bool.eq_iff_iff, beq_iff_eq, decide_eq_true_iff]
  constructor
  · intro e; rw [← e]; exact hp.h.symm
  · intro e
    exact List.Perm.eq_of_pairwise (fun a b _ _ h1 h2 => by omega) hs (accs_sorted l) (hp.h.trans e)

theorem backward_c {v : Value} {a : List Int} {h : Heap} (hv : Ints h v a) (Q : Value → Heap → Prop)
    (hq : ∀ b h', h'.get b = some (.blk [v] true) → h.le h' → Q (.func (.func 55) #[] #[.pointer (some ⟨b, 0, none⟩)]) h') : CallW Try.prog 46 [v] h Q := by
  refine call_of1 (k := 2) ok46 rfl rfl rfl fun N => ?_
  rw [show env0 c46 [v] = [v, undef, undef] from rfl]
  delta c46 c46_r0 c46_r1
  replace hq := Hid.mk hq
  have bx := aBox_slice hv
  repeat' (first | simp -implicitDefEqProofs only [W_skip, W_reg, W_seq, W_rcond, W_cond, W_block, W_loop, W_exit, W_ret, thenQ_normal, thenQ_exit, thenQ_ret, blockQ_normal, blockQ_ret, blockQ_here, regQ_app, rcQ_app, cndK_t, cndK_f, RegW_nil, RegW_none, RegW_some, contW_app, grdK_tt, grdK_ff, grdK_tf, grdK_ft, grdK_undef, actK_p, actK_r, actK_a, actK_w, actK_call, actK_callV, heapK_app, allocK_app, writeK_app, ret1_ret, ret1_normal, ret0_ret, ret0_normal, ret2_ret2, thenK_app, retcv_ret, retcvK_app, optW_some, evs, Arg.ev, aP, aR, aA, aW, pMov, pBin, pUn, pConv, pPick, pFieldAddr, pNilCheck, pExtract, aBin, aUn, aInt, aNew, partL_f, upd, List.getElem?_cons_zero, List.getElem?_cons_succ, List.getD_cons_zero, List.getD_cons_succ, List.set_cons_zero, List.set_cons_succ, Nat.zero_add, Nat.add_zero, List.getElem?_toArray, List.take_zero, List.drop_zero, List.take_succ_cons, List.drop_succ_cons, if_true, if_false, decide_true, decide_false, Bool.false_eq_true, Bool.true_eq_false, Bool.not_true, Bool.not_false, not_true_eq_false, not_false_eq_true, ge_iff_le, gt_iff_lt, beq_self_eq_true, bne_self_eq_false, and_self, and_true, true_and, Option.isSome_some, Heap.get_alloc_same, Heap.alloc_getE, *] | with_reducible refine cndK_d (fun hc => ?_) (fun hc => ?_) | with_reducible refine grdK_d (fun hc => ?_) (fun hc => ?_) | with_reducible refine cndK_i (fun hc => ?_) (fun hc => ?_) | with_reducible refine grdK_i (fun hc => ?_) (fun hc => ?_))
  exact hq.h _ _ (Heap.get_alloc_same _ _) ((Heap.le.refl h).alloc _)

/-- what slices.Backward's function does: m things are left -/
theorem backward1_c {fv v : Value} {a : List Int} {b : Nat} {h : Heap} (J : Nat → Heap → Prop) (S : Heap → Prop)
    (hJ : ∀ i h1, J i h1 → (∃ own, h1.get b = some (.blk [v] own)) ∧ Ints h1 v a) (h0 : J a.length h) (ha : a.length ≤ 1000000)
    (hy : ∀ i x h1, a[i]? = some x → J (i + 1) h1 → ValW Try.prog fv [.int .i64 i, .int .i64 x] h1 fun r h2 => (r = .bool true ∧ J i h2) ∨ (r = .bool false ∧ S h2)) (Q : Value → Heap → Prop)
    (hq : ∀ h2, J 0 h2 ∨ S h2 → Q (.tuple #[]) h2) : CallW Try.prog 55 [fv, .pointer (some ⟨b, 0, none⟩)] h Q := by
  refine call_of0 ok55 rfl rfl rfl fun N => ?_
  rw [show env0 c55 [fv, .pointer (some ⟨b, 0, none⟩)] = [fv, .pointer (some ⟨b, 0, none⟩), undef] from rfl]
  delta c55 c55_r0 c55_r1 c55_r2 c55_r3
  replace hq := Hid.mk hq
  obtain ⟨⟨own, hb⟩, hv⟩ := hJ _ h h0
  have hw : IntKind.i64.wrap ((a.length : Int) - 1) = (a.length : Int) - 1 := wrapI (by omega) (by omega)
  repeat' (first | simp -implicitDefEqProofs only [W_skip, W_reg, W_seq, W_rcond, W_cond, W_block, W_loop, W_exit, W_ret, thenQ_normal, thenQ_exit, thenQ_ret, blockQ_normal, blockQ_ret, blockQ_here, regQ_app, rcQ_app, cndK_t, cndK_f, RegW_nil, RegW_none, RegW_some, contW_app, grdK_tt, grdK_ff, grdK_tf, grdK_ft, grdK_undef, actK_p, actK_r, actK_a, actK_w, actK_call, actK_callV, heapK_app, allocK_app, writeK_app, ret1_ret, ret1_normal, ret0_ret, ret0_normal, ret2_ret2, thenK_app, retcv_ret, retcvK_app, optW_some, evs, Arg.ev, aP, aR, aA, aW, pMov, pBin, pUn, pConv, pPick, pFieldAddr, pNilCheck, pExtract, aBin, aUn, aInt, aNew, partL_f, upd, List.getElem?_cons_zero, List.getElem?_cons_succ, List.getD_cons_zero, List.getD_cons_succ, List.set_cons_zero, List.set_cons_succ, Nat.zero_add, Nat.add_zero, List.getElem?_toArray, List.take_zero, List.drop_zero, List.take_succ_cons, List.drop_succ_cons, if_true, if_false, decide_true, decide_false, Bool.false_eq_true, Bool.true_eq_false, Bool.not_true, Bool.not_false, not_true_eq_false, not_false_eq_true, ge_iff_le, gt_iff_lt, beq_self_eq_true, bne_self_eq_false, and_self, and_true, true_and, Option.isSome_some, Heap.get_alloc_same, Heap.alloc_getE, hv.len, *] | with_reducible refine cndK_d (fun hc => ?_) (fun hc => ?_) | with_reducible refine grdK_d (fun hc => ?_) (fun hc => ?_) | with_reducible refine cndK_i (fun hc => ?_) (fun hc => ?_) | with_reducible refine grdK_i (fun hc => ?_) (fun hc => ?_))
  refine LoopW.down (fun i e h1 => i ≤ a.length ∧ J i h1 ∧ e = [fv, .pointer (some ⟨b, 0, none⟩), .int .i64 ((i : Int) - 1)]) ?_ ⟨Nat.le_refl _, h0, rfl⟩
  clear hb hv hw
  rintro i _ h1 R ⟨hi, hji, rfl⟩ hR
  obtain ⟨⟨own, hb⟩, hv⟩ := hJ i h1 hji
  replace hji := Hid.mk hji
  delta c55_l4 c55_r0 c55_r1 c55_r2 c55_r3
  cases i with
  | succ i =>
    have hi2 : ((i + 1 : Nat) : Int) - 1 = (i : Int) := by omega
    have hi3 : (0 : Int) ≤ (i : Int) := by omega
    rw [hi2]
    obtain ⟨y, hy'⟩ : ∃ e, a[i]? = some e := ⟨_, List.getElem?_eq_getElem (by omega)⟩
    obtain ⟨id, off, cells, own, e1, e2, e3, _⟩ := hv.elem hy'
    have hwr : IntKind.i64.wrap ((i : Int) - 1) = (i : Int) - 1 := wrapI (by omega) (by omega)
    clear hi2
    repeat' (first | simp -implicitDefEqProofs only [W_skip, W_reg, W_seq, W_rcond, W_cond, W_block, W_loop, W_exit, W_ret, thenQ_normal, thenQ_exit, thenQ_ret, blockQ_normal, blockQ_ret, blockQ_here, regQ_app, rcQ_app, cndK_t, cndK_f, RegW_nil, RegW_none, RegW_some, contW_app, grdK_tt, grdK_ff, grdK_tf, grdK_ft, grdK_undef, actK_p, actK_r, actK_a, actK_w, actK_call, actK_callV, heapK_app, allocK_app, writeK_app, ret1_ret, ret1_normal, ret0_ret, ret0_normal, ret2_ret2, thenK_app, retcv_ret, retcvK_app, optW_some, evs, Arg.ev, aP, aR, aA, aW, pMov, pBin, pUn, pConv, pPick, pFieldAddr, pNilCheck, pExtract, aBin, aUn, aInt, aNew, partL_f, upd, List.getElem?_cons_zero, List.getElem?_cons_succ, List.getD_cons_zero, List.getD_cons_succ, List.set_cons_zero, List.set_cons_succ, Nat.zero_add, Nat.add_zero, List.getElem?_toArray, List.take_zero, List.drop_zero, List.take_succ_cons, List.drop_succ_cons, if_true, if_false, decide_true, decide_false, Bool.false_eq_true, Bool.true_eq_false, Bool.not_true, Bool.not_false, not_true_eq_false, not_false_eq_true, ge_iff_le, gt_iff_lt, beq_self_eq_true, bne_self_eq_false, and_self, and_true, true_and, Option.isSome_some, Heap.get_alloc_same, Heap.alloc_getE, *] | with_reducible refine cndK_d (fun hc => ?_) (fun hc => ?_) | with_reducible refine grdK_d (fun hc => ?_) (fun hc => ?_) | with_reducible refine cndK_i (fun hc => ?_) (fun hc => ?_) | with_reducible refine grdK_i (fun hc => ?_) (fun hc => ?_))
    refine ValW.mono (hy i y h1 hy' hji.h) fun r h2 _ hr => ?_
    replace hr := Hid.mk hr
    obtain ⟨rfl, hj2⟩ | ⟨rfl, hs⟩ := hr.h
    · replace hj2 := Hid.mk hj2
      repeat' (first | simp -implicitDefEqProofs only [W_skip, W_reg, W_seq, W_rcond, W_cond, W_block, W_loop, W_exit, W_ret, thenQ_normal, thenQ_exit, thenQ_ret, blockQ_normal, blockQ_ret, blockQ_here, regQ_app, rcQ_app, cndK_t, cndK_f, RegW_nil, RegW_none, RegW_some, contW_app, grdK_tt, grdK_ff, grdK_tf, grdK_ft, grdK_undef, actK_p, actK_r, actK_a, actK_w, actK_call, actK_callV, heapK_app, allocK_app, writeK_app, ret1_ret, ret1_normal, ret0_ret, ret0_normal, ret2_ret2, thenK_app, retcv_ret, retcvK_app, optW_some, evs, Arg.ev, aP, aR, aA, aW, pMov, pBin, pUn, pConv, pPick, pFieldAddr, pNilCheck, pExtract, aBin, aUn, aInt, aNew, partL_f, upd, List.getElem?_cons_zero, List.getElem?_cons_succ, List.getD_cons_zero, List.getD_cons_succ, List.set_cons_zero, List.set_cons_succ, Nat.zero_add, Nat.add_zero, List.getElem?_toArray, List.take_zero, List.drop_zero, List.take_succ_cons, List.drop_succ_cons, if_true, if_false, decide_true, decide_false, Bool.false_eq_true, Bool.true_eq_false, Bool.not_true, Bool.not_false, not_true_eq_false, not_false_eq_true, ge_iff_le, gt_iff_lt, beq_self_eq_true, bne_self_eq_false, and_self, and_true, true_and, Option.isSome_some, Heap.get_alloc_same, Heap.alloc_getE, *] | with_reducible refine cndK_d (fun hc => ?_) (fun hc => ?_) | with_reducible refine grdK_d (fun hc => ?_) (fun hc => ?_) | with_reducible refine cndK_i (fun hc => ?_) (fun hc => ?_) | with_reducible refine grdK_i (fun hc => ?_) (fun hc => ?_))
      exact hR.h _ _ _ (Nat.lt_succ_self i) ⟨by omega, hj2.h, rfl⟩
    · replace hs := Hid.mk hs
      repeat' (first | simp -implicitDefEqProofs only [W_skip, W_reg, W_seq, W_rcond, W_cond, W_block, W_loop, W_exit, W_ret, thenQ_normal, thenQ_exit, thenQ_ret, blockQ_normal, blockQ_ret, blockQ_here, regQ_app, rcQ_app, cndK_t, cndK_f, RegW_nil, RegW_none, RegW_some, contW_app, grdK_tt, grdK_ff, grdK_tf, grdK_ft, grdK_undef, actK_p, actK_r, actK_a, actK_w, actK_call, actK_callV, heapK_app, allocK_app, writeK_app, ret1_ret, ret1_normal, ret0_ret, ret0_normal, ret2_ret2, thenK_app, retcv_ret, retcvK_app, optW_some, evs, Arg.ev, aP, aR, aA, aW, pMov, pBin, pUn, pConv, pPick, pFieldAddr, pNilCheck, pExtract, aBin, aUn, aInt, aNew, partL_f, upd, List.getElem?_cons_zero, List.getElem?_cons_succ, List.getD_cons_zero, List.getD_cons_succ, List.set_cons_zero, List.set_cons_succ, Nat.zero_add, Nat.add_zero, List.getElem?_toArray, List.take_zero, List.drop_zero, List.take_succ_cons, List.drop_succ_cons, if_true, if_false, decide_true, decide_false, Bool.false_eq_true, Bool.true_eq_false, Bool.not_true, Bool.not_false, not_true_eq_false, not_false_eq_true, ge_iff_le, gt_iff_lt, beq_self_eq_true, bne_self_eq_false, and_self, and_true, true_and, Option.isSome_some, Heap.get_alloc_same, Heap.alloc_getE, *] | with_reducible refine cndK_d (fun hc => ?_) (fun hc => ?_) | with_reducible refine grdK_d (fun hc => ?_) (fun hc => ?_) | with_reducible refine cndK_i (fun hc => ?_) (fun hc => ?_) | with_reducible refine grdK_i (fun hc => ?_) (fun hc => ?_))
      exact hq.h _ (.inr hs.h)
  | zero =>
    have hi3 : ¬ (0 : Int) ≤ ((0 : Nat) : Int) - 1 := by omega
    repeat' (first | simp -implicitDefEqProofs only [W_skip, W_reg, W_seq, W_rcond, W_cond, W_block, W_loop, W_exit, W_ret, thenQ_normal, thenQ_exit, thenQ_ret, blockQ_normal, blockQ_ret, blockQ_here, regQ_app, rcQ_app, cndK_t, cndK_f, RegW_nil, RegW_none, RegW_some, contW_app, grdK_tt, grdK_ff, grdK_tf, grdK_ft, grdK_undef, actK_p, actK_r, actK_a, actK_w, actK_call, actK_callV, heapK_app, allocK_app, writeK_app, ret1_ret, ret1_normal, ret0_ret, ret0_normal, ret2_ret2, thenK_app, retcv_ret, retcvK_app, optW_some, evs, Arg.ev, aP, aR, aA, aW, pMov, pBin, pUn, pConv, pPick, pFieldAddr, pNilCheck, pExtract, aBin, aUn, aInt, aNew, partL_f, upd, List.getElem?_cons_zero, List.getElem?_cons_succ, List.getD_cons_zero, List.getD_cons_succ, List.set_cons_zero, List.set_cons_succ, Nat.zero_add, Nat.add_zero, List.getElem?_toArray, List.take_zero, List.drop_zero, List.take_succ_cons, List.drop_succ_cons, if_true, if_false, decide_true, decide_false, Bool.false_eq_true, Bool.true_eq_false, Bool.not_true, Bool.not_false, not_true_eq_false, not_false_eq_true, ge_iff_le, gt_iff_lt, beq_self_eq_true, bne_self_eq_false, and_self, and_true, true_and, Option.isSome_some, Heap.get_alloc_same, Heap.alloc_getE, *] | with_reducible refine cndK_d (fun hc => ?_) (fun hc => ?_) | with_reducible refine grdK_d (fun hc => ?_) (fun hc => ?_) | with_reducible refine cndK_i (fun hc => ?_) (fun hc => ?_) | with_reducible refine grdK_i (fun hc => ?_) (fun hc => ?_))
    exact hq.h _ (.inl hji.h)
end Go.Eng.Ax

set_option linter.unusedSimpArgs false
set_option linter.unusedVariables false
namespace Go.Eng.Ax
open Go Go.Eng Go.Proofs

def atOf (order : List Int) (i : Int) : Int := match order.findIdx? (fun z => i == z) with | some i => (i : Int) | none => -1
/-- is it a store that the load may see? -/
def hit (l : List Ev) (order : List Int) (i : Int) (a : Nat) (j : Int) : Bool :=
  match l[j.toNat]?, l[i.toNat]? with
  | some ej, some ei => ej.kind == 2 && ej.at' == ei.at' && (decide ((a : Int) < atOf order i) || (decide (j < i) && ej.hart == ei.hart))
  | _, _ => false
/-- from behind, of the first m of an order -/
def valueTo (l : List Ev) (order : List Int) (i : Int) : Nat → Int
  | 0 => 0
  | m + 1 => match order[m]? with
    | some j => if hit l order i m j then ((l[j.toNat]?).map Ev.n).getD 0 else valueTo l order i m
    | none => 0
def value (l : List Ev) (order : List Int) (i : Int) : Int := valueTo l order i order.length

theorem value_c {v w : Value} {l : List Ev} {o : List Int} {h : Heap} (hv : Evs h v l) (hw : Ints h w o) (hl : l.length ≤ 1000000) (ho : o.length ≤ 1000000) (hin : ∀ j ∈ o, 0 ≤ j ∧ j < l.length) {i : Nat} (hi : i < l.length) (Q : Value → Heap → Prop)
    (hq : ∀ v' h', v' = .int .i64 (value l o i) → h.le h' → Q v' h') : CallW Try.prog 27 [v, w, .int .i64 i] h Q := by
  obtain ⟨ei, hei⟩ : ∃ e, l[i]? = some e := ⟨_, List.getElem?_eq_getElem hi⟩
  obtain ⟨id, off, cells, own, e1, e2, e3, e4, e5, e6, e7⟩ := hv.elem hei
  refine call_of1rc (k := 5) ok27 rfl rfl rfl fun N => ?_
  rw [show env0 c27 [v, w, .int .i64 i] = [v, w, .int .i64 i, undef, undef, undef, undef, undef, undef, undef, undef, undef, undef] from rfl]
  delta c27 c27_r0 c27_r1 c27_r2 c27_r3 c27_r4 c27_r5 c27_r6 c27_r7 c27_r9
  replace hq := Hid.mk hq
  have bx1 := aBox_slice hv
  have bx2 := aBox_int .i64 (i : Int)
  delta c27_a8 c27_r0 c27_r1 c27_r2 c27_r3 c27_r4 c27_r5 c27_r6 c27_r7 c27_r9
  delta c27_b8 c27_r0 c27_r1 c27_r2 c27_r3 c27_r4 c27_r5 c27_r6 c27_r7 c27_r9
  repeat' (first | simp -implicitDefEqProofs only [W_skip, W_reg, W_seq, W_rcond, W_cond, W_block, W_loop, W_exit, W_ret, thenQ_normal, thenQ_exit, thenQ_ret, blockQ_normal, blockQ_ret, blockQ_here, regQ_app, rcQ_app, cndK_t, cndK_f, RegW_nil, RegW_none, RegW_some, contW_app, grdK_tt, grdK_ff, grdK_tf, grdK_ft, grdK_undef, actK_p, actK_r, actK_a, actK_w, actK_call, actK_callV, heapK_app, allocK_app, writeK_app, ret1_ret, ret1_normal, ret0_ret, ret0_normal, ret2_ret2, thenK_app, retcv_ret, retcvK_app, optW_some, evs, Arg.ev, aP, aR, aA, aW, pMov, pBin, pUn, pConv, pPick, pFieldAddr, pNilCheck, pExtract, aBin, aUn, aInt, aNew, partL_f, upd, List.getElem?_cons_zero, List.getElem?_cons_succ, List.getD_cons_zero, List.getD_cons_succ, List.set_cons_zero, List.set_cons_succ, Nat.zero_add, Nat.add_zero, List.getElem?_toArray, List.take_zero, List.drop_zero, List.take_succ_cons, List.drop_succ_cons, if_true, if_false, decide_true, decide_false, Bool.false_eq_true, Bool.true_eq_false, Bool.not_true, Bool.not_false, not_true_eq_false, not_false_eq_true, ge_iff_le, gt_iff_lt, beq_self_eq_true, bne_self_eq_false, and_self, and_true, true_and, Option.isSome_some, Heap.get_alloc_same, Heap.alloc_getE, *] | with_reducible refine cndK_d (fun hc => ?_) (fun hc => ?_) | with_reducible refine grdK_d (fun hc => ?_) (fun hc => ?_) | with_reducible refine cndK_i (fun hc => ?_) (fun hc => ?_) | with_reducible refine grdK_i (fun hc => ?_) (fun hc => ?_))
  obtain ⟨ip, hip⟩ : ∃ x, (h.alloc (.blk [v] true)).next = x := ⟨_, rfl⟩
  obtain ⟨rp, hrp⟩ : ∃ x, ((h.alloc (.blk [v] true)).alloc (.blk [.int .i64 (i : Int)] true)).next = x := ⟨_, rfl⟩
  have hipn : h.next + 1 = ip := by rw [← hip]; simp
  have hrpn : h.next + 2 = rp := by rw [← hrp]; simp
  obtain ⟨h3, hh3⟩ : ∃ x, ((h.alloc (.blk [v] true)).alloc (.blk [.int .i64 (i : Int)] true)).alloc (.blk [.int .i64 0] true) = x := ⟨_, rfl⟩
  have hl3 : h.le h3 := by rw [← hh3]; exact (((Heap.le.refl h).alloc _).alloc _).alloc _
  have g1 : h3.get h.next = some (.blk [v] true) := by rw [← hh3]; exact (((Heap.le.refl _).alloc _).alloc _ : (h.alloc (.blk [v] true)).le _).get (Heap.get_alloc_same _ _)
  have g2 : h3.get ip = some (.blk [.int .i64 (i : Int)] true) := by rw [← hh3, ← hip]; exact ((Heap.le.refl _).alloc _ : ((h.alloc (.blk [v] true)).alloc (.blk [.int .i64 (i : Int)] true)).le _).get (Heap.get_alloc_same _ _)
  have g3 : h3.get rp = some (.blk [.int .i64 0] true) := by rw [← hh3, ← hrp]; exact Heap.get_alloc_same _ _
  rw [hip, hrp, hh3]
  clear hip hrp hh3
  have q3 := Heap.lt_of_get g3
  refine index_c (hw.mono hl3) i ho _ fun v4 h4 hv4 hl4 => ?_
  have hv4' : v4 = .int .i64 (atOf o i) := hv4
  subst hv4'
  clear hv4
  have sn := fun (h : Heap) => wStore_new (h := h) (zs := [.int .i64 0]) (v := .int .i64 (atOf o i)) (size := 1) rfl rfl rfl rfl
  repeat' (first | simp -implicitDefEqProofs only [W_skip, W_reg, W_seq, W_rcond, W_cond, W_block, W_loop, W_exit, W_ret, thenQ_normal, thenQ_exit, thenQ_ret, blockQ_normal, blockQ_ret, blockQ_here, regQ_app, rcQ_app, cndK_t, cndK_f, RegW_nil, RegW_none, RegW_some, contW_app, grdK_tt, grdK_ff, grdK_tf, grdK_ft, grdK_undef, actK_p, actK_r, actK_a, actK_w, actK_call, actK_callV, heapK_app, allocK_app, writeK_app, ret1_ret, ret1_normal, ret0_ret, ret0_normal, ret2_ret2, thenK_app, retcv_ret, retcvK_app, optW_some, evs, Arg.ev, aP, aR, aA, aW, pMov, pBin, pUn, pConv, pPick, pFieldAddr, pNilCheck, pExtract, aBin, aUn, aInt, aNew, partL_f, upd, List.getElem?_cons_zero, List.getElem?_cons_succ, List.getD_cons_zero, List.getD_cons_succ, List.set_cons_zero, List.set_cons_succ, Nat.zero_add, Nat.add_zero, List.getElem?_toArray, List.take_zero, List.drop_zero, List.take_succ_cons, List.drop_succ_cons, if_true, if_false, decide_true, decide_false, Bool.false_eq_true, Bool.true_eq_false, Bool.not_true, Bool.not_false, not_true_eq_false, not_false_eq_true, ge_iff_le, gt_iff_lt, beq_self_eq_true, bne_self_eq_false, and_self, and_true, true_and, Option.isSome_some, Heap.get_alloc_same, Heap.alloc_getE, Value.cells, *] | with_reducible refine cndK_d (fun hc => ?_) (fun hc => ?_) | with_reducible refine grdK_d (fun hc => ?_) (fun hc => ?_) | with_reducible refine cndK_i (fun hc => ?_) (fun hc => ?_) | with_reducible refine grdK_i (fun hc => ?_) (fun hc => ?_))
  obtain ⟨h5, hh5⟩ : ∃ x, h4.alloc (.blk [.int .i64 (atOf o i)] true) = x := ⟨_, rfl⟩
  have hl5 : h4.le h5 := by rw [← hh5]; exact (Heap.le.refl _).alloc _
  have g4 : h5.get h4.next = some (.blk [.int .i64 (atOf o i)] true) := by rw [← hh5]; exact Heap.get_alloc_same _ _
  rw [show h4.alloc (.blk (#[Value.int .i64 (atOf o i)].toList) true) = h5 from hh5]
  refine backward_c (hw.mono ((hl3.trans hl4).trans hl5)) _ fun b h6 hb hl6 => ?_
  have hlv : h.le h6 := ((hl3.trans hl4).trans hl5).trans hl6
  replace g1 := (hl4.trans (hl5.trans hl6)).get g1
  replace g2 := (hl4.trans (hl5.trans hl6)).get g2
  replace g3 := (hl4.trans (hl5.trans hl6)).get g3
  replace g4 := hl6.get g4
  obtain ⟨ap, hap⟩ : ∃ x, h4.next = x := ⟨_, rfl⟩
  have hapn : h.next + 2 < ap := by have := hl4.next; omega
  rw [hap] at g4 ⊢
  clear hh5 hap
  clear e1 e2 e3 e4 e5 e6 e7
  simp -implicitDefEqProofs only [W_skip, W_reg, W_seq, W_rcond, W_cond, W_block, W_loop, W_exit, W_ret, thenQ_normal, thenQ_exit, thenQ_ret, blockQ_normal, blockQ_ret, blockQ_here, regQ_app, rcQ_app, cndK_t, cndK_f, RegW_nil, RegW_none, RegW_some, contW_app, grdK_tt, grdK_ff, grdK_tf, grdK_ft, grdK_undef, actK_p, actK_r, actK_a, actK_w, actK_call, actK_callV, heapK_app, allocK_app, writeK_app, ret1_ret, ret1_normal, ret0_ret, ret0_normal, ret2_ret2, thenK_app, retcv_ret, retcvK_app, optW_some, evs, Arg.ev, aP, aR, aA, aW, pMov, pBin, pUn, pConv, pPick, pFieldAddr, pNilCheck, pExtract, aBin, aUn, aInt, aNew, partL_f, upd, List.getElem?_cons_zero, List.getElem?_cons_succ, List.getD_cons_zero, List.getD_cons_succ, List.set_cons_zero, List.set_cons_succ, Nat.zero_add, Nat.add_zero, List.getElem?_toArray, List.take_zero, List.drop_zero, List.take_succ_cons, List.drop_succ_cons, if_true, if_false, decide_true, decide_false, Bool.false_eq_true, Bool.true_eq_false, Bool.not_true, Bool.not_false, not_true_eq_false, not_false_eq_true, ge_iff_le, gt_iff_lt, beq_self_eq_true, bne_self_eq_false, and_self, and_true, true_and, Option.isSome_some, Heap.get_alloc_same, Heap.alloc_getE]
  refine range_rule (f := 55) (first := #[]) (cap := #[.pointer (some ⟨b, 0, none⟩)]) rfl (by decide) rfl rfl ?_
  intro lo L h7 hlo hL hl7 hgL _ hyield
  have q1 := Heap.lt_of_get g1
  have q4 := Heap.lt_of_get g4
  obtain ⟨J, hJ⟩ : ∃ J : Nat → Heap → Prop, J = fun m h2 => h.le h2 ∧ h2.get L = some (lo .ready none) ∧
    h2.get h.next = some (.blk [v] true) ∧ h2.get ip = some (.blk [.int .i64 (i : Int)] true) ∧ h2.get rp = some (.blk [.int .i64 0] true) ∧ h2.get ap = some (.blk [.int .i64 (atOf o i)] true) ∧ h2.get b = some (.blk [w] true) ∧ value l o i = valueTo l o i m := ⟨_, rfl⟩
  replace hJ : ∀ i h2, J i h2 ↔ _ := fun i h2 => by rw [hJ]
  refine backward1_c (v := w) (a := o) J (fun h2 => h.le h2 ∧ h2.get L = some (lo .done (jumpOf .ret)) ∧ h2.get rp = some (.blk [.int .i64 (value l o i)] true)) ?_ ?_ ho ?_ _ ?_
  · intro i h1 hj
    obtain ⟨h2, _, _, _, _, _, h3, _⟩ := (hJ _ _).1 hj
    exact ⟨⟨true, h3⟩, hw.mono h2⟩
  · exact (hJ _ _).2 ⟨hlv.trans hl7, hgL, hl7.get g1, hl7.get g2, hl7.get g3, hl7.get g4, hl7.get hb, rfl⟩
  · intro m j h2 hj hjm
    obtain ⟨k1, k2, k3, k4, k5, k6, k7, k8⟩ := (hJ _ _).1 hjm
    obtain ⟨hj1, hj2⟩ := hin j (List.mem_of_getElem? hj)
    obtain ⟨j, rfl⟩ := Int.eq_ofNat_of_zero_le hj1
    have hjl : j < l.length := by omega
    obtain ⟨ej, hej⟩ : ∃ e, l[j]? = some e := ⟨_, List.getElem?_eq_getElem hjl⟩
    obtain ⟨id, off, cells, own, e1, e2, e3, e4, e5, e6, e7⟩ := (hv.mono k1).elem hei
    obtain ⟨id', off', cells', own', f1, f2, f3, f4, f5, f6, f7⟩ := (hv.mono k1).elem hej
    have nb := hlo .ready none
    have nb2 := hlo .busy none
    have hhit : hit l o i m j = (ej.kind == 2 && ej.at' == ei.at' && (decide ((m : Int) < atOf o i) || (decide ((j : Int) < (i : Int)) && ej.hart == ei.hart))) := by
      simp only [hit, Int.toNat_natCast, hej, hei]
    have hrpL : rp ≠ L := by omega
    refine ValW.mono (hyield _ h2 (fun x hb => (x = .normal ∧ hit l o i m j = false ∧ hb = h2.set L (lo .busy none)) ∨ (x = .ret ∧ hit l o i m j = true ∧ hb = (h2.set L (lo .busy none)).set rp (.blk [.int .i64 ej.n] true)))
      [v, w, Value.int .i64 (i : Int), .pointer (some ⟨h.next, 0, none⟩), .pointer (some ⟨ip, 0, none⟩), .pointer (some ⟨rp, 0, none⟩), .pointer (some ⟨ap, 0, none⟩), .int .i64 m, .int .i64 j, undef, .func (.func 55) #[] #[.pointer (some ⟨b, 0, none⟩)], .int .i64 m, .int .i64 j] k2 rfl ?_ ?_) ?_
    · intro R hR
      simp only [setPs, List.set_cons_succ, List.set_cons_zero]
      simp -implicitDefEqProofs only [W_skip, W_reg, W_seq, W_rcond, W_cond, W_block, W_loop, W_exit, W_ret, thenQ_normal, thenQ_exit, thenQ_ret, blockQ_normal, blockQ_ret, blockQ_here, regQ_app, rcQ_app, cndK_t, cndK_f, RegW_nil, RegW_none, RegW_some, contW_app, grdK_tt, grdK_ff, grdK_tf, grdK_ft, grdK_undef, actK_p, actK_r, actK_a, actK_w, actK_call, actK_callV, heapK_app, allocK_app, writeK_app, ret1_ret, ret1_normal, ret0_ret, ret0_normal, ret2_ret2, thenK_app, retcv_ret, retcvK_app, optW_some, evs, Arg.ev, aP, aR, aA, aW, pMov, pBin, pUn, pConv, pPick, pFieldAddr, pNilCheck, pExtract, aBin, aUn, aInt, aNew, partL_f, upd, List.getElem?_cons_zero, List.getElem?_cons_succ, List.getD_cons_zero, List.getD_cons_succ, List.set_cons_zero, List.set_cons_succ, Nat.zero_add, Nat.add_zero, List.getElem?_toArray, List.take_zero, List.drop_zero, List.take_succ_cons, List.drop_succ_cons, if_true, if_false, decide_true, decide_false, Bool.false_eq_true, Bool.true_eq_false, Bool.not_true, Bool.not_false, not_true_eq_false, not_false_eq_true, ge_iff_le, gt_iff_lt, beq_self_eq_true, bne_self_eq_false, and_self, and_true, true_and, Option.isSome_some, Heap.get_alloc_same, Heap.alloc_getE]
      exact hR
    · intro R hR
      have z1 := Heap.set_getB k2 nb k3 (lo .busy none)
      have z2 := Heap.set_getB k2 nb k4 (lo .busy none)
      have z3 := Heap.set_getB k2 nb k5 (lo .busy none)
      have z4 := Heap.set_getB k2 nb k6 (lo .busy none)
      have y1 := Heap.set_getB k2 nb e2 (lo .busy none)
      have y2 := Heap.set_getB k2 nb f2 (lo .busy none)
      have zL : (h2.set L (lo .busy none)).get L = some (lo .busy none) := Heap.set_getS _ _ _ (by rw [k2]; rfl)
      have st := wStore_int (k := .i64) (z := ej.n) (off := 0) z3 (by simp)
      have hno : hit l o i m j = false → ∀ eb, R .normal eb (h2.set L (lo .busy none)) := fun hh eb => hR.h _ _ _ zL (.inl ⟨rfl, hh, rfl⟩)
      have hyes : hit l o i m j = true → ∀ eb, R .ret eb ((h2.set L (lo .busy none)).set rp (.blk [.int .i64 ej.n] true)) := fun hh eb => hR.h _ _ _ (by rw [Heap.set_getE _ _ _ _ (by simpa using hrpL.symm)]; exact zL) (.inr ⟨rfl, hh, rfl⟩)
      clear hq hyield hlo hJ hjm hin k8 nb nb2 hL
      replace hno := Hid.mk hno
      replace hyes := Hid.mk hyes
      replace hhit := Hid.mk hhit
      repeat' (first | simp -implicitDefEqProofs only [W_skip, W_reg, W_seq, W_rcond, W_cond, W_block, W_loop, W_exit, W_ret, thenQ_normal, thenQ_exit, thenQ_ret, blockQ_normal, blockQ_ret, blockQ_here, regQ_app, rcQ_app, cndK_t, cndK_f, RegW_nil, RegW_none, RegW_some, contW_app, grdK_tt, grdK_ff, grdK_tf, grdK_ft, grdK_undef, actK_p, actK_r, actK_a, actK_w, actK_call, actK_callV, heapK_app, allocK_app, writeK_app, ret1_ret, ret1_normal, ret0_ret, ret0_normal, ret2_ret2, thenK_app, retcv_ret, retcvK_app, optW_some, evs, Arg.ev, aP, aR, aA, aW, pMov, pBin, pUn, pConv, pPick, pFieldAddr, pNilCheck, pExtract, aBin, aUn, aInt, aNew, partL_f, upd, List.getElem?_cons_zero, List.getElem?_cons_succ, List.getD_cons_zero, List.getD_cons_succ, List.set_cons_zero, List.set_cons_succ, Nat.zero_add, Nat.add_zero, List.getElem?_toArray, List.take_zero, List.drop_zero, List.take_succ_cons, List.drop_succ_cons, if_true, if_false, decide_true, decide_false, Bool.false_eq_true, Bool.true_eq_false, Bool.not_true, Bool.not_false, not_true_eq_false, not_false_eq_true, ge_iff_le, gt_iff_lt, beq_self_eq_true, bne_self_eq_false, and_self, and_true, true_and, Option.isSome_some, Heap.get_alloc_same, Heap.alloc_getE, *] | with_reducible refine cndK_d (fun hc => ?_) (fun hc => ?_) | with_reducible refine grdK_d (fun hc => ?_) (fun hc => ?_) | with_reducible refine cndK_i (fun hc => ?_) (fun hc => ?_) | with_reducible refine grdK_i (fun hc => ?_) (fun hc => ?_))
      all_goals first
        | exact hno.h (by rw [hhit.h]; simp [*]) _
        | exact hyes.h (by rw [hhit.h]; simp [*]) _
    · rintro v' h' _ ⟨x, hb, (⟨rfl, hh, rfl⟩ | ⟨rfl, hh, rfl⟩), hbL, rfl, rfl⟩
      · have zL : (h2.set L (lo .busy none)).get L = some (lo .busy none) := Heap.set_getS _ _ _ (by rw [k2]; rfl)
        refine .inl ⟨rfl, (hJ _ _).2 ⟨(k1.set (by omega) _).set (by omega) _, Heap.set_getS _ _ _ (by rw [zL]; rfl), ?_, ?_, ?_, ?_, ?_, ?_⟩⟩
        iterate 5 (exact Heap.set_getB zL nb2 (Heap.set_getB k2 nb (by assumption) _) _)
        rw [k8, valueTo, hj]
        simp only [hh]; rfl
      · refine .inr ⟨rfl, ((k1.set (by omega) _).set (by omega) _).set (by omega) _, Heap.set_getS _ _ _ (by rw [hbL]; rfl), ?_⟩
        rw [Heap.set_getE _ _ _ _ (by simpa using hrpL), Heap.set_getS _ _ _ (by rw [Heap.set_getB k2 nb k5]; rfl)]
        rw [k8, valueTo, hj]
        simp only [hh, Int.toNat_natCast, hej]; rfl
  · rintro h2 (hj | ⟨k1, k2, k3⟩)
    · obtain ⟨k1, k2, k3, k4, k5, k6, k7, k8⟩ := (hJ _ _).1 hj
      refine ⟨.normal, .ready, by simp, k2, ?_⟩
      have z3 := Heap.set_getB k2 (hlo _ _) k5 .dead
      have st := wStore_int (k := .i64) (z := 0) (off := 0) z3 (by simp)
      have z4 : ((((h2.set L .dead).set rp (.blk [.int .i64 0] true))).sweep h.next).get rp = some (.blk [.int .i64 0] true) := Heap.sweep_getB (Heap.set_getS _ _ _ (by rw [z3]; rfl))
      clear hyield hlo hJ hj hin
      replace hL := Hid.mk hL
      replace k8 := Hid.mk k8
      repeat' (first | simp -implicitDefEqProofs only [W_skip, W_reg, W_seq, W_rcond, W_cond, W_block, W_loop, W_exit, W_ret, thenQ_normal, thenQ_exit, thenQ_ret, blockQ_normal, blockQ_ret, blockQ_here, regQ_app, rcQ_app, cndK_t, cndK_f, RegW_nil, RegW_none, RegW_some, contW_app, grdK_tt, grdK_ff, grdK_tf, grdK_ft, grdK_undef, actK_p, actK_r, actK_a, actK_w, actK_call, actK_callV, heapK_app, allocK_app, writeK_app, ret1_ret, ret1_normal, ret0_ret, ret0_normal, ret2_ret2, thenK_app, retcv_ret, retcvK_app, optW_some, evs, Arg.ev, aP, aR, aA, aW, pMov, pBin, pUn, pConv, pPick, pFieldAddr, pNilCheck, pExtract, aBin, aUn, aInt, aNew, partL_f, upd, List.getElem?_cons_zero, List.getElem?_cons_succ, List.getD_cons_zero, List.getD_cons_succ, List.set_cons_zero, List.set_cons_succ, Nat.zero_add, Nat.add_zero, List.getElem?_toArray, List.take_zero, List.drop_zero, List.take_succ_cons, List.drop_succ_cons, if_true, if_false, decide_true, decide_false, Bool.false_eq_true, Bool.true_eq_false, Bool.not_true, Bool.not_false, not_true_eq_false, not_false_eq_true, ge_iff_le, gt_iff_lt, beq_self_eq_true, bne_self_eq_false, and_self, and_true, true_and, Option.isSome_some, Heap.get_alloc_same, Heap.alloc_getE, *] | with_reducible refine cndK_d (fun hc => ?_) (fun hc => ?_) | with_reducible refine grdK_d (fun hc => ?_) (fun hc => ?_) | with_reducible refine cndK_i (fun hc => ?_) (fun hc => ?_) | with_reducible refine grdK_i (fun hc => ?_) (fun hc => ?_))
      refine hq.h _ _ (by rw [k8.h, valueTo]) (Heap.le.sweep ((k1.set ?_ _).set ?_ _)) <;> (have := hL.h; have := hlv.next; omega)
    · refine ⟨.ret, .done, by simp, k2, ?_⟩
      have z3 := Heap.set_getB k2 (hlo _ _) k3 .dead
      have z4 : ((h2.set L .dead).sweep h.next).get rp = _ := Heap.sweep_getB z3
      clear hyield hlo hJ hin
      replace hL := Hid.mk hL
      repeat' (first | simp -implicitDefEqProofs only [W_skip, W_reg, W_seq, W_rcond, W_cond, W_block, W_loop, W_exit, W_ret, thenQ_normal, thenQ_exit, thenQ_ret, blockQ_normal, blockQ_ret, blockQ_here, regQ_app, rcQ_app, cndK_t, cndK_f, RegW_nil, RegW_none, RegW_some, contW_app, grdK_tt, grdK_ff, grdK_tf, grdK_ft, grdK_undef, actK_p, actK_r, actK_a, actK_w, actK_call, actK_callV, heapK_app, allocK_app, writeK_app, ret1_ret, ret1_normal, ret0_ret, ret0_normal, ret2_ret2, thenK_app, retcv_ret, retcvK_app, optW_some, evs, Arg.ev, aP, aR, aA, aW, pMov, pBin, pUn, pConv, pPick, pFieldAddr, pNilCheck, pExtract, aBin, aUn, aInt, aNew, partL_f, upd, List.getElem?_cons_zero, List.getElem?_cons_succ, List.getD_cons_zero, List.getD_cons_succ, List.set_cons_zero, List.set_cons_succ, Nat.zero_add, Nat.add_zero, List.getElem?_toArray, List.take_zero, List.drop_zero, List.take_succ_cons, List.drop_succ_cons, if_true, if_false, decide_true, decide_false, Bool.false_eq_true, Bool.true_eq_false, Bool.not_true, Bool.not_false, not_true_eq_false, not_false_eq_true, ge_iff_le, gt_iff_lt, beq_self_eq_true, bne_self_eq_false, and_self, and_true, true_and, Option.isSome_some, Heap.get_alloc_same, Heap.alloc_getE, *] | with_reducible refine cndK_d (fun hc => ?_) (fun hc => ?_) | with_reducible refine grdK_d (fun hc => ?_) (fun hc => ?_) | with_reducible refine cndK_i (fun hc => ?_) (fun hc => ?_) | with_reducible refine grdK_i (fun hc => ?_) (fun hc => ?_))
      refine hq.h _ _ rfl (Heap.le.sweep (k1.set ?_ _))
      have := hL.h
      omega
end Go.Eng.Ax

