/-
  Part of a proof of the laws of layer 12 (axiom): what each function does.
  Conditions: none.
-/
import Derived.Test.YtbncpnbbhjmeoaaBc
set_option linter.unusedSimpArgs false
set_option linter.unusedVariables false
namespace Go.Eng.Ax
open Go Go.Eng Go.Proofs

def Sep2 (v w : Value) : Prop := ∀ i, notOf v i ∨ notOf w i
theorem own_keep {h0 h h' : Heap} {s : Nat} {v w : Value} {ys : List (List Value)} (ho : OwnS h0 h s w ys) (hk : ∀ i, (h.get i).isSome = true → notOf v i → h'.get i = h.get i) (hs : Sep2 v w) : OwnS h0 h' s w ys :=
  ho.get fun id hid hsome => hk id hsome ((hs id).resolve_right fun h => h _ _ hid)
theorem own_some {h0 h : Heap} {s : Nat} {w : Value} {ys : List (List Value)} (ho : OwnS h0 h s w ys) (i : Nat) : notOf w i ∨ (h.get i).isSome = true := by
  rcases ho with ⟨rfl, _⟩ | ⟨id, rfl, _, hg, _⟩
  · exact .inl fun n s e => by cases e
  · by_cases e : i = id
    · subst e; exact .inr (by rw [hg]; rfl)
    · exact .inl fun n s e' => by cases e'; exact e rfl
theorem nil_notOf (i : Nat) : notOf (.slice none 0 0) i := fun n s e => by cases e
theorem nil_sep (w : Value) : Sep2 (.slice none 0 0) w := fun i => .inl (nil_notOf i)

/-- the order that the numbers pick -/
def orderF (picks : List Int) : Nat → Nat → List Int → List Int
  | 0, _, _ => []
  | fuel + 1, n, left =>
    if left.length = 0 then [] else
    let k := match picks[n]? with | some c => (pick c left.length).toNat | none => 0
    match left[k]? with
    | some x => x :: orderF picks fuel (n + 1) (left.take k ++ left.drop (k + 1))
    | none => []
def orderL (l : List Ev) (picks : List Int) : List Int := orderF picks l.length 0 (accs l)

theorem acc3 {e : Ev} (h : e.may = true) : e.acc = (e.kind != 3) := by
  simp only [Ev.may, Bool.and_eq_true, decide_eq_true_eq] at h
  have h1 : 1 ≤ e.kind := by omega
  have h3 : e.kind ≤ 3 := by omega
  have : e.kind = 1 ∨ e.kind = 2 ∨ e.kind = 3 := by omega
  rcases this with h | h | h <;> simp [Ev.acc, h]

/-- Order, of events of whatever kinds: left are the places of those that are no fences -/
def leftTo (l : List Ev) (i : Nat) : List Int := ((List.range i).filter fun j => (l[j]?).any fun e => e.kind != 3).map fun (j : Nat) => (j : Int)
theorem leftTo_succ {l : List Ev} {i : Nat} {e : Ev} (h : l[i]? = some e) : leftTo l (i + 1) = leftTo l i ++ if e.kind != 3 then [(i : Int)] else [] := by
  simp only [leftTo, List.range_succ, List.filter_append, List.map_append]
  congr 1
  cases he : (e.kind != 3) <;> simp [h, he, List.filter_cons]
theorem leftTo_len (l : List Ev) (i : Nat) : (leftTo l i).length ≤ i := by
  simp only [leftTo, List.length_map]
  exact Nat.le_trans (List.length_filter_le _ _) (by simp)
def orderK (l : List Ev) (picks : List Int) : List Int := orderF picks l.length 0 (leftTo l l.length)

theorem orderF_nil (picks : List Int) (fuel n : Nat) : orderF picks fuel n [] = [] := by cases fuel <;> simp [orderF]

theorem Order_c {v w : Value} {l : List Ev} {picks : List Int} {h : Heap} (hv : Evs h v l) (hw : Ints h w picks) (hl : l.length ≤ 12) (hpl : (picks.length : Int) ≤ 9223372036854775807) (hpk : ∀ z ∈ picks, inI z) (Q : Value → Heap → Prop)
    (hq : ∀ v' h', OwnS h h' 1 v' (icells (orderK l picks)) → h.le h' → Q v' h') : CallW Try.prog 13 [v, w] h Q := by
  refine call_of1 (k := 2) ok13 rfl rfl rfl fun N => ?_
  rw [show env0 c13 [v, w] = [v, w, undef, undef, undef, undef, undef, undef] from rfl]
  delta c13 c13_r0 c13_r1 c13_r2 c13_r3 c13_r4 c13_r5 c13_r6 c13_r8 c13_r9 c13_r10 c13_r11 c13_r12 c13_r13 c13_r14 c13_r15 c13_r16 c13_r18
  replace hq := Hid.mk hq
  repeat' (first | simp -implicitDefEqProofs only [W_skip, W_reg, W_seq, W_rcond, W_cond, W_block, W_loop, W_exit, W_ret, thenQ_normal, thenQ_exit, thenQ_ret, blockQ_normal, blockQ_ret, blockQ_here, regQ_app, rcQ_app, cndK_t, cndK_f, RegW_nil, RegW_none, RegW_some, contW_app, grdK_tt, grdK_ff, grdK_tf, grdK_ft, grdK_undef, actK_p, actK_r, actK_a, actK_w, actK_call, actK_callV, heapK_app, allocK_app, writeK_app, ret1_ret, ret1_normal, ret0_ret, ret0_normal, ret2_ret2, thenK_app, retcv_ret, retcvK_app, optW_some, evs, Arg.ev, aP, aR, aA, aW, pMov, pBin, pUn, pConv, pPick, pFieldAddr, pNilCheck, pExtract, aBin, aUn, aInt, aNew, partL_f, upd, List.getElem?_cons_zero, List.getElem?_cons_succ, List.getD_cons_zero, List.getD_cons_succ, List.set_cons_zero, List.set_cons_succ, Nat.zero_add, Nat.add_zero, List.getElem?_toArray, List.take_zero, List.drop_zero, List.take_succ_cons, List.drop_succ_cons, if_true, if_false, decide_true, decide_false, Bool.false_eq_true, Bool.true_eq_false, Bool.not_true, Bool.not_false, not_true_eq_false, not_false_eq_true, ge_iff_le, gt_iff_lt, beq_self_eq_true, bne_self_eq_false, and_self, and_true, true_and, Option.isSome_some, Heap.get_alloc_same, Heap.alloc_getE, *] | with_reducible refine cndK_d (fun hc => ?_) (fun hc => ?_) | with_reducible refine grdK_d (fun hc => ?_) (fun hc => ?_) | with_reducible refine cndK_i (fun hc => ?_) (fun hc => ?_) | with_reducible refine grdK_i (fun hc => ?_) (fun hc => ?_))
  refine LoopW.upto l.length (fun i e h1 => h.le h1 ∧ ∃ vl, OwnS h h1 1 vl (icells (leftTo l i)) ∧ e = [v, w, .slice none 0 0, vl, .int .i64 i, undef, undef, undef]) ?_ (Nat.zero_le _) ⟨Heap.le.refl h, _, OwnS.nil h h 1, rfl⟩
  rintro i _ h1 R hi ⟨hl1, vl, ho, rfl⟩ hR
  have ev1 := hv.mono hl1
  delta c13_l7 c13_r0 c13_r1 c13_r2 c13_r3 c13_r4 c13_r5 c13_r6 c13_r8 c13_r9 c13_r10 c13_r11 c13_r12 c13_r13 c13_r14 c13_r15 c13_r16 c13_r18
  by_cases hlt : i < l.length
  · have hlt' : (i : Int) < l.length := by omega
    obtain ⟨e, he⟩ : ∃ e, l[i]? = some e := ⟨_, List.getElem?_eq_getElem hlt⟩
    obtain ⟨id, off, cells, own, e1, e2, e3, e4, e5, e6, e7⟩ := ev1.elem he
    have hw1 : IntKind.i64.wrap ((i : Int) + 1) = ((i + 1 : Nat) : Int) := by rw [wrapI (by omega) (by omega)]; rfl
    have hll := leftTo_len l i
    cases hk : (e.kind != 3) with
    | true =>
      obtain ⟨v', h', ha, ho3, hl4, _⟩ := ho.append1 hl1 (x := [.int .i64 i]) rfl (by omega) (b := 8) (by rw [icells_len]; omega) (by rw [icells_len]; omega)
      have go := hR.h [v, w, .slice none 0 0, v', .int .i64 ((i + 1 : Nat) : Int), undef, undef, undef] h' hlt ⟨hl4, _, by rw [leftTo_succ he, hk, if_pos rfl, icells_append]; exact ho3, rfl⟩
      replace go := Hid.mk go
      clear ho ho3
      repeat' (first | simp -implicitDefEqProofs only [W_skip, W_reg, W_seq, W_rcond, W_cond, W_block, W_loop, W_exit, W_ret, thenQ_normal, thenQ_exit, thenQ_ret, blockQ_normal, blockQ_ret, blockQ_here, regQ_app, rcQ_app, cndK_t, cndK_f, RegW_nil, RegW_none, RegW_some, contW_app, grdK_tt, grdK_ff, grdK_tf, grdK_ft, grdK_undef, actK_p, actK_r, actK_a, actK_w, actK_call, actK_callV, heapK_app, allocK_app, writeK_app, ret1_ret, ret1_normal, ret0_ret, ret0_normal, ret2_ret2, thenK_app, retcv_ret, retcvK_app, optW_some, evs, Arg.ev, aP, aR, aA, aW, pMov, pBin, pUn, pConv, pPick, pFieldAddr, pNilCheck, pExtract, aBin, aUn, aInt, aNew, partL_f, upd, List.getElem?_cons_zero, List.getElem?_cons_succ, List.getD_cons_zero, List.getD_cons_succ, List.set_cons_zero, List.set_cons_succ, Nat.zero_add, Nat.add_zero, List.getElem?_toArray, List.take_zero, List.drop_zero, List.take_succ_cons, List.drop_succ_cons, if_true, if_false, decide_true, decide_false, Bool.false_eq_true, Bool.true_eq_false, Bool.not_true, Bool.not_false, not_true_eq_false, not_false_eq_true, ge_iff_le, gt_iff_lt, beq_self_eq_true, bne_self_eq_false, and_self, and_true, true_and, Option.isSome_some, Heap.get_alloc_same, Heap.alloc_getE, ev1.len, bslice_int, *] | with_reducible refine cndK_d (fun hc => ?_) (fun hc => ?_) | with_reducible refine grdK_d (fun hc => ?_) (fun hc => ?_) | with_reducible refine cndK_i (fun hc => ?_) (fun hc => ?_) | with_reducible refine grdK_i (fun hc => ?_) (fun hc => ?_))
      exact go.h
    | false =>
      have go := hR.h [v, w, .slice none 0 0, vl, .int .i64 ((i + 1 : Nat) : Int), undef, undef, undef] h1 hlt ⟨hl1, _, by rw [leftTo_succ he, hk]; simpa using ho, rfl⟩
      replace go := Hid.mk go
      clear ho
      repeat' (first | simp -implicitDefEqProofs only [W_skip, W_reg, W_seq, W_rcond, W_cond, W_block, W_loop, W_exit, W_ret, thenQ_normal, thenQ_exit, thenQ_ret, blockQ_normal, blockQ_ret, blockQ_here, regQ_app, rcQ_app, cndK_t, cndK_f, RegW_nil, RegW_none, RegW_some, contW_app, grdK_tt, grdK_ff, grdK_tf, grdK_ft, grdK_undef, actK_p, actK_r, actK_a, actK_w, actK_call, actK_callV, heapK_app, allocK_app, writeK_app, ret1_ret, ret1_normal, ret0_ret, ret0_normal, ret2_ret2, thenK_app, retcv_ret, retcvK_app, optW_some, evs, Arg.ev, aP, aR, aA, aW, pMov, pBin, pUn, pConv, pPick, pFieldAddr, pNilCheck, pExtract, aBin, aUn, aInt, aNew, partL_f, upd, List.getElem?_cons_zero, List.getElem?_cons_succ, List.getD_cons_zero, List.getD_cons_succ, List.set_cons_zero, List.set_cons_succ, Nat.zero_add, Nat.add_zero, List.getElem?_toArray, List.take_zero, List.drop_zero, List.take_succ_cons, List.drop_succ_cons, if_true, if_false, decide_true, decide_false, Bool.false_eq_true, Bool.true_eq_false, Bool.not_true, Bool.not_false, not_true_eq_false, not_false_eq_true, ge_iff_le, gt_iff_lt, beq_self_eq_true, bne_self_eq_false, and_self, and_true, true_and, Option.isSome_some, Heap.get_alloc_same, Heap.alloc_getE, ev1.len, *] | with_reducible refine cndK_d (fun hc => ?_) (fun hc => ?_) | with_reducible refine grdK_d (fun hc => ?_) (fun hc => ?_) | with_reducible refine cndK_i (fun hc => ?_) (fun hc => ?_) | with_reducible refine grdK_i (fun hc => ?_) (fun hc => ?_))
      exact go.h
  · have hlt' : ¬ (i : Int) < l.length := by omega
    have hil : i = l.length := by omega
    subst hil
    have hll := leftTo_len l l.length
    have ho' := Hid.mk ho
    clear ho
    repeat' (first | simp -implicitDefEqProofs only [W_skip, W_reg, W_seq, W_rcond, W_cond, W_block, W_loop, W_exit, W_ret, thenQ_normal, thenQ_exit, thenQ_ret, blockQ_normal, blockQ_ret, blockQ_here, regQ_app, rcQ_app, cndK_t, cndK_f, RegW_nil, RegW_none, RegW_some, contW_app, grdK_tt, grdK_ff, grdK_tf, grdK_ft, grdK_undef, actK_p, actK_r, actK_a, actK_w, actK_call, actK_callV, heapK_app, allocK_app, writeK_app, ret1_ret, ret1_normal, ret0_ret, ret0_normal, ret2_ret2, thenK_app, retcv_ret, retcvK_app, optW_some, evs, Arg.ev, aP, aR, aA, aW, pMov, pBin, pUn, pConv, pPick, pFieldAddr, pNilCheck, pExtract, aBin, aUn, aInt, aNew, partL_f, upd, List.getElem?_cons_zero, List.getElem?_cons_succ, List.getD_cons_zero, List.getD_cons_succ, List.set_cons_zero, List.set_cons_succ, Nat.zero_add, Nat.add_zero, List.getElem?_toArray, List.take_zero, List.drop_zero, List.take_succ_cons, List.drop_succ_cons, if_true, if_false, decide_true, decide_false, Bool.false_eq_true, Bool.true_eq_false, Bool.not_true, Bool.not_false, not_true_eq_false, not_false_eq_true, ge_iff_le, gt_iff_lt, beq_self_eq_true, bne_self_eq_false, and_self, and_true, true_and, Option.isSome_some, Heap.get_alloc_same, Heap.alloc_getE, ev1.len, *] | with_reducible refine cndK_d (fun hc => ?_) (fun hc => ?_) | with_reducible refine grdK_d (fun hc => ?_) (fun hc => ?_) | with_reducible refine cndK_i (fun hc => ?_) (fun hc => ?_) | with_reducible refine grdK_i (fun hc => ?_) (fun hc => ?_))
    refine LoopW.down (fun m e h2 => h.le h2 ∧ ∃ vl vo left out n x7, m = left.length ∧ m ≤ 12 ∧ n + left.length ≤ l.length ∧ out.length ≤ n ∧ orderK l picks = out ++ orderF picks (l.length - n) n left ∧ OwnS h h2 1 vl (icells left) ∧ OwnS h h2 1 vo (icells out) ∧ Sep2 vo vl ∧
      e = [v, w, .slice none 0 0, vl, .int .i64 l.length, vo, .int .i64 (n : Nat), x7]) ?_ ⟨hl1, vl, .slice none 0 0, leftTo l l.length, [], 0, undef, rfl, by omega, by omega, Nat.zero_le _, rfl, ho'.h, OwnS.nil _ _ _, nil_sep _, rfl⟩
    clear ho' hl1 ev1 hR hi hlt hlt' hll
    rintro m _ h2 R ⟨hl2, vl, vo, left, out, n, x7, hm, hm12, hnl, hon, hord, hol, hoo, hsep, rfl⟩ hR
    have hleft : Ints h2 vl left := hol.ints
    delta c13_l17 c13_r0 c13_r1 c13_r2 c13_r3 c13_r4 c13_r5 c13_r6 c13_r8 c13_r9 c13_r10 c13_r11 c13_r12 c13_r13 c13_r14 c13_r15 c13_r16 c13_r18
    by_cases h0 : left.length = 0
    · have h0' : ¬ (0 : Int) < left.length := by omega
      have : left = [] := List.length_eq_zero_iff.1 h0
      have hfin : orderK l picks = out := by rw [hord, this, orderF_nil, List.append_nil]
      have ho2 : OwnS h h2 1 vo (icells (orderK l picks)) := by rw [hfin]; exact hoo
      replace hm := Hid.mk hm
      clear hol hoo hord hfin this h0
      repeat' (first | simp -implicitDefEqProofs only [W_skip, W_reg, W_seq, W_rcond, W_cond, W_block, W_loop, W_exit, W_ret, thenQ_normal, thenQ_exit, thenQ_ret, blockQ_normal, blockQ_ret, blockQ_here, regQ_app, rcQ_app, cndK_t, cndK_f, RegW_nil, RegW_none, RegW_some, contW_app, grdK_tt, grdK_ff, grdK_tf, grdK_ft, grdK_undef, actK_p, actK_r, actK_a, actK_w, actK_call, actK_callV, heapK_app, allocK_app, writeK_app, ret1_ret, ret1_normal, ret0_ret, ret0_normal, ret2_ret2, thenK_app, retcv_ret, retcvK_app, optW_some, evs, Arg.ev, aP, aR, aA, aW, pMov, pBin, pUn, pConv, pPick, pFieldAddr, pNilCheck, pExtract, aBin, aUn, aInt, aNew, partL_f, upd, List.getElem?_cons_zero, List.getElem?_cons_succ, List.getD_cons_zero, List.getD_cons_succ, List.set_cons_zero, List.set_cons_succ, Nat.zero_add, Nat.add_zero, List.getElem?_toArray, List.take_zero, List.drop_zero, List.take_succ_cons, List.drop_succ_cons, if_true, if_false, decide_true, decide_false, Bool.false_eq_true, Bool.true_eq_false, Bool.not_true, Bool.not_false, not_true_eq_false, not_false_eq_true, ge_iff_le, gt_iff_lt, beq_self_eq_true, bne_self_eq_false, and_self, and_true, true_and, Option.isSome_some, Heap.get_alloc_same, Heap.alloc_getE, hleft.len, *] | with_reducible refine cndK_d (fun hc => ?_) (fun hc => ?_) | with_reducible refine grdK_d (fun hc => ?_) (fun hc => ?_) | with_reducible refine cndK_i (fun hc => ?_) (fun hc => ?_) | with_reducible refine grdK_i (fun hc => ?_) (fun hc => ?_))
      exact hq.h _ _ ho2 hl2
    · have h0' : (0 : Int) < left.length := by omega
      have hwn : IntKind.i64.wrap ((n : Int) + 1) = ((n + 1 : Nat) : Int) := by rw [wrapI (by omega) (by omega)]; rfl
      -- whichever is taken
      have fin : ∀ k : Nat, k < left.length → k = (match picks[n]? with | some c => (pick c left.length).toNat | none => 0) →
          ∃ x id off cells own v1 h3 w1 w2 v2 h4 v3 h5, left[k]? = some x ∧ pIdxAddrS 1 [vl, .int .i64 k] = some (.pointer (some ⟨id, off, none⟩)) ∧ h2.get id = some (.blk cells own) ∧ cells[off]? = some (.int .i64 x) ∧
            wAppend 1 8 (h2.alloc (.blk [.int .i64 x] true)) [vo, .slice (some ⟨h2.next, 0, none⟩) 1 1] = some (v1, h3) ∧ pSliceS 1 false true [vl, .int .i64 k] = some w1 ∧ wAppend 1 8 h3 [.slice none 0 0, w1] = some (v2, h4) ∧
            pSliceS 1 true false [vl, .int .i64 ((k + 1 : Nat) : Int)] = some w2 ∧ wAppend 1 8 h4 [v2, w2] = some (v3, h5) ∧ R [v, w, .slice none 0 0, v3, .int .i64 l.length, v1, .int .i64 ((n + 1 : Nat) : Int), .int .i64 k] h5 := by
        intro k hk hkk
        obtain ⟨x, hx⟩ : ∃ e, left[k]? = some e := ⟨_, List.getElem?_eq_getElem hk⟩
        obtain ⟨id, off, cells, own, e1, e2, e3, _⟩ := hleft.elem hx
        obtain ⟨v1, h3, a1, o1, l1, k1, f1, n1⟩ := hoo.append1 hl2 (x := [.int .i64 x]) rfl (by omega) (b := 8) (by rw [icells_len]; omega) (by rw [icells_len]; omega)
        have hol3 : OwnS h h3 1 vl (icells left) := own_keep hol k1 hsep
        have hleft3 : Ints h3 vl left := hol3.ints
        obtain ⟨w1, p1, s1⟩ := SlV.partHi hleft3 (b := k) (by simp; omega)
        obtain ⟨w2, p2, s2⟩ := SlV.partLo hleft3 (a := k + 1) (by simp; omega)
        obtain ⟨v2, h4, a2, o2, l2, k2, f2, n2⟩ := (OwnS.nil h h3 1).append l1 s1 (by omega) (b := 8) (by simp; omega) (by simp; omega)
        have le34 : h3.le h4 := ⟨fun j o hj => by rw [k2 j (by rw [hj]; rfl) (nil_notOf j)]; exact hj, n2⟩
        obtain ⟨v3, h5, a3, o3, l3, k3, f3, n3⟩ := o2.append l2 (SlV.mono le34 s2) (by omega) (b := 8) (by simp; omega) (by simp; omega)
        refine ⟨x, id, off, cells, own, v1, h3, w1, w2, v2, h4, v3, h5, hx, e1, e2, e3, a1, p1, a2, p2, a3, ?_⟩
        have hl' : (left.take k ++ left.drop (k + 1)).length = left.length - 1 := by simp; omega
        refine hR.h (left.length - 1) _ _ (by omega) ⟨l3, v3, v1, left.take k ++ left.drop (k + 1), out ++ [x], n + 1, _, hl'.symm, by omega, by omega, by simp; omega, ?_, ?_, ?_, ?_, rfl⟩
        · rw [hord, List.append_assoc]
          congr 1
          obtain ⟨fu, hfu⟩ : ∃ fu, l.length - n = fu + 1 := ⟨l.length - n - 1, by omega⟩
          rw [hfu, show l.length - (n + 1) = fu by omega, orderF, if_neg h0]
          simp only [← hkk, hx]; rfl
        · simpa [icells_append, icells, List.map_take, List.map_drop] using o3
        · have o1' : OwnS h h4 1 v1 (icells out ++ [[.int .i64 x]]) := o1.mono le34
          have s12 : Sep2 v2 v1 := fun i => by
            rcases own_some o1 i with h | h
            · exact .inr h
            · exact .inl (f2 i h (nil_notOf i))
          have := own_keep o1' k3 s12
          simpa [icells_append, icells] using this
        · intro i
          rcases own_some o1 i with h | h
          · exact .inl h
          · exact .inr (f3 i (by rw [k2 i h (nil_notOf i)]; exact h) (f2 i h (nil_notOf i)))
      replace hR := Hid.mk True.intro
      replace hm := Hid.mk hm
      replace fin := Hid.mk fin
      clear hol hoo hord hsep
      have hwl := hw.mono hl2
      by_cases hnp : n < picks.length
      · have hnp' : (n : Int) < picks.length := by omega
        obtain ⟨c, hc⟩ : ∃ e, picks[n]? = some e := ⟨_, List.getElem?_eq_getElem hnp⟩
        have pk := pick_range (hpk c (List.mem_of_getElem? hc)) (n := (left.length : Int)) (by omega)
        obtain ⟨id0, off0, cells0, own0, d1, d2, d3, _⟩ := hwl.elem hc
        obtain ⟨k, hk⟩ := Int.eq_ofNat_of_zero_le pk.1
        obtain ⟨x, id, off, cells, own, v1, h3, w1, w2, v2, h4, v3, h5, b1, b2, b3, b4, b5, b6, b7, b8, b9, b10⟩ := fin.h k (by omega) (by rw [hc]; simp [hk])
        have hwk : IntKind.i64.wrap ((k : Int) + 1) = ((k + 1 : Nat) : Int) := by rw [wrapI (by omega) (by omega)]; rfl
        replace b10 := Hid.mk b10
        replace pk := Hid.mk pk
        replace hk := Hid.mk hk
        clear b1
        repeat' (first | simp -implicitDefEqProofs only [W_skip, W_reg, W_seq, W_rcond, W_cond, W_block, W_loop, W_exit, W_ret, thenQ_normal, thenQ_exit, thenQ_ret, blockQ_normal, blockQ_ret, blockQ_here, regQ_app, rcQ_app, cndK_t, cndK_f, RegW_nil, RegW_none, RegW_some, contW_app, grdK_tt, grdK_ff, grdK_tf, grdK_ft, grdK_undef, actK_p, actK_r, actK_a, actK_w, actK_call, actK_callV, heapK_app, allocK_app, writeK_app, ret1_ret, ret1_normal, ret0_ret, ret0_normal, ret2_ret2, thenK_app, retcv_ret, retcvK_app, optW_some, evs, Arg.ev, aP, aR, aA, aW, pMov, pBin, pUn, pConv, pPick, pFieldAddr, pNilCheck, pExtract, aBin, aUn, aInt, aNew, partL_f, upd, List.getElem?_cons_zero, List.getElem?_cons_succ, List.getD_cons_zero, List.getD_cons_succ, List.set_cons_zero, List.set_cons_succ, Nat.zero_add, Nat.add_zero, List.getElem?_toArray, List.take_zero, List.drop_zero, List.take_succ_cons, List.drop_succ_cons, if_true, if_false, decide_true, decide_false, Bool.false_eq_true, Bool.true_eq_false, Bool.not_true, Bool.not_false, not_true_eq_false, not_false_eq_true, ge_iff_le, gt_iff_lt, beq_self_eq_true, bne_self_eq_false, and_self, and_true, true_and, Option.isSome_some, Heap.get_alloc_same, Heap.alloc_getE, hleft.len, hwl.len, *] | with_reducible refine cndK_d (fun hc => ?_) (fun hc => ?_) | with_reducible refine grdK_d (fun hc => ?_) (fun hc => ?_) | with_reducible refine cndK_i (fun hc => ?_) (fun hc => ?_) | with_reducible refine grdK_i (fun hc => ?_) (fun hc => ?_))
        refine pick_c' c left.length (by omega) _ _ ?_
        rw [hk.h]
        clear d1 d2 d3
        repeat' (first | simp -implicitDefEqProofs only [W_skip, W_reg, W_seq, W_rcond, W_cond, W_block, W_loop, W_exit, W_ret, thenQ_normal, thenQ_exit, thenQ_ret, blockQ_normal, blockQ_ret, blockQ_here, regQ_app, rcQ_app, cndK_t, cndK_f, RegW_nil, RegW_none, RegW_some, contW_app, grdK_tt, grdK_ff, grdK_tf, grdK_ft, grdK_undef, actK_p, actK_r, actK_a, actK_w, actK_call, actK_callV, heapK_app, allocK_app, writeK_app, ret1_ret, ret1_normal, ret0_ret, ret0_normal, ret2_ret2, thenK_app, retcv_ret, retcvK_app, optW_some, evs, Arg.ev, aP, aR, aA, aW, pMov, pBin, pUn, pConv, pPick, pFieldAddr, pNilCheck, pExtract, aBin, aUn, aInt, aNew, partL_f, upd, List.getElem?_cons_zero, List.getElem?_cons_succ, List.getD_cons_zero, List.getD_cons_succ, List.set_cons_zero, List.set_cons_succ, Nat.zero_add, Nat.add_zero, List.getElem?_toArray, List.take_zero, List.drop_zero, List.take_succ_cons, List.drop_succ_cons, if_true, if_false, decide_true, decide_false, Bool.false_eq_true, Bool.true_eq_false, Bool.not_true, Bool.not_false, not_true_eq_false, not_false_eq_true, ge_iff_le, gt_iff_lt, beq_self_eq_true, bne_self_eq_false, and_self, and_true, true_and, Option.isSome_some, Heap.get_alloc_same, Heap.alloc_getE, bslice_int, *] | with_reducible refine cndK_d (fun hc => ?_) (fun hc => ?_) | with_reducible refine grdK_d (fun hc => ?_) (fun hc => ?_) | with_reducible refine cndK_i (fun hc => ?_) (fun hc => ?_) | with_reducible refine grdK_i (fun hc => ?_) (fun hc => ?_))
        exact b10.h
      · have hnp' : ¬ (n : Int) < picks.length := by omega
        obtain ⟨x, id, off, cells, own, v1, h3, w1, w2, v2, h4, v3, h5, b1, b2, b3, b4, b5, b6, b7, b8, b9, b10⟩ := fin.h 0 (by omega) (by rw [List.getElem?_eq_none (by omega)])
        change pIdxAddrS 1 [vl, .int .i64 0] = _ at b2
        change pSliceS 1 false true [vl, .int .i64 0] = _ at b6
        change pSliceS 1 true false [vl, .int .i64 1] = _ at b8
        have hwk : IntKind.i64.wrap ((0 : Int) + 1) = 1 := by decide
        replace b10 := Hid.mk b10
        clear b1
        repeat' (first | simp -implicitDefEqProofs only [W_skip, W_reg, W_seq, W_rcond, W_cond, W_block, W_loop, W_exit, W_ret, thenQ_normal, thenQ_exit, thenQ_ret, blockQ_normal, blockQ_ret, blockQ_here, regQ_app, rcQ_app, cndK_t, cndK_f, RegW_nil, RegW_none, RegW_some, contW_app, grdK_tt, grdK_ff, grdK_tf, grdK_ft, grdK_undef, actK_p, actK_r, actK_a, actK_w, actK_call, actK_callV, heapK_app, allocK_app, writeK_app, ret1_ret, ret1_normal, ret0_ret, ret0_normal, ret2_ret2, thenK_app, retcv_ret, retcvK_app, optW_some, evs, Arg.ev, aP, aR, aA, aW, pMov, pBin, pUn, pConv, pPick, pFieldAddr, pNilCheck, pExtract, aBin, aUn, aInt, aNew, partL_f, upd, List.getElem?_cons_zero, List.getElem?_cons_succ, List.getD_cons_zero, List.getD_cons_succ, List.set_cons_zero, List.set_cons_succ, Nat.zero_add, Nat.add_zero, List.getElem?_toArray, List.take_zero, List.drop_zero, List.take_succ_cons, List.drop_succ_cons, if_true, if_false, decide_true, decide_false, Bool.false_eq_true, Bool.true_eq_false, Bool.not_true, Bool.not_false, not_true_eq_false, not_false_eq_true, ge_iff_le, gt_iff_lt, beq_self_eq_true, bne_self_eq_false, and_self, and_true, true_and, Option.isSome_some, Heap.get_alloc_same, Heap.alloc_getE, hleft.len, hwl.len, bslice_int, *] | with_reducible refine cndK_d (fun hc => ?_) (fun hc => ?_) | with_reducible refine grdK_d (fun hc => ?_) (fun hc => ?_) | with_reducible refine cndK_i (fun hc => ?_) (fun hc => ?_) | with_reducible refine grdK_i (fun hc => ?_) (fun hc => ?_))
        exact b10.h
end Go.Eng.Ax

set_option linter.unusedSimpArgs false
set_option linter.unusedVariables false
namespace Go.Eng.Ax
open Go Go.Eng Go.Proofs

theorem set_same {α : Type} {l : List α} {i : Nat} {e : α} (h : l[i]? = some e) : l.set i e = l := by
  apply List.ext_getElem?
  intro j
  rw [List.getElem?_set]
  by_cases hij : i = j
  · subst hij
    rw [if_pos rfl, if_pos (List.getElem?_eq_some_iff.1 h).1, h]
  · rw [if_neg hij]
def mixI (f : Nat → Ev → Ev) (l : List Ev) (i : Nat) : List Ev := l.mapIdx fun j e => if j < i then f j e else e
theorem mixI_len (f : Nat → Ev → Ev) (l : List Ev) (i : Nat) : (mixI f l i).length = l.length := by simp [mixI]
theorem mixI_get {f : Nat → Ev → Ev} {l : List Ev} {i j : Nat} : (mixI f l i)[j]? = (l[j]?).map fun e => if j < i then f j e else e := by simp [mixI]
theorem mixI_zero (f : Nat → Ev → Ev) (l : List Ev) : mixI f l 0 = l := by
  apply List.ext_getElem?
  intro j
  rw [mixI_get]; cases l[j]? <;> simp
theorem mixI_at {f : Nat → Ev → Ev} {l : List Ev} {i : Nat} {e : Ev} (h : l[i]? = some e) : (mixI f l i)[i]? = some e := by
  rw [mixI_get, h]; simp
theorem mixI_set {f : Nat → Ev → Ev} {l : List Ev} {i : Nat} {e : Ev} (h : l[i]? = some e) : (mixI f l i).set i (f i e) = mixI f l (i + 1) := by
  apply List.ext_getElem?
  intro j
  rw [List.getElem?_set, mixI_get, mixI_get, mixI_len]
  by_cases hij : i = j
  · subst hij
    rw [if_pos rfl, if_pos (lt_of_get h), h]
    simp
  · rw [if_neg hij]
    cases l[j]? with
    | none => rfl
    | some e' =>
      simp only [Option.map_some]
      by_cases h1 : j < i
      · rw [if_pos h1, if_pos (by omega)]
      · rw [if_neg h1, if_neg (by omega)]

def atCells (l : List Ev) (i : Nat) : List Value := [.int .i64 (seen l 0 i), .int .i64 (seen l 1 i), .int .i64 (seen l 2 i), .int .i64 (seen l 3 i)]
theorem atCells_get {l : List Ev} {i a : Nat} (ha : a < 4) : (atCells l i)[a]? = some (.int .i64 (seen l a i)) := by
  rcases a with _ | _ | _ | _ | a <;> first | rfl | omega
theorem atCells_store {l : List Ev} {i a : Nat} {e : Ev} (he : l[i]? = some e) (hk : e.kind = 2) (hat : e.at' = (a : Int)) (ha : a < 4) : (atCells l i).set a (.int .i64 e.n) = atCells l (i + 1) := by
  have : e.at'.toNat = a := by rw [hat]; simp
  rcases a with _ | _ | _ | _ | a <;> first | (simp [atCells, seen, he, hk, this]) | omega
theorem atCells_keep {l : List Ev} {i : Nat} {e : Ev} (he : l[i]? = some e) (hk : e.kind ≠ 2) : atCells l (i + 1) = atCells l i := by
  simp [atCells, seen, he, hk]

theorem seen_range {l : List Ev} {P : Int → Prop} (h0 : P 0) (hl : ∀ e ∈ l, P e.n) (w : Nat) : ∀ i, P (seen l w i)
  | 0 => h0
  | i + 1 => by
    unfold seen
    cases he : l[i]? with
    | none => exact seen_range h0 hl w i
    | some e =>
      simp only []
      split
      · exact hl e (List.mem_of_getElem? he)
      · exact seen_range h0 hl w i

def playE (l : List Ev) (j : Nat) (e : Ev) : Ev := if e.kind == 1 then { e with n := seen l e.at'.toNat j } else e
def played (l : List Ev) : List Ev := mixI (playE l) l l.length
theorem played_get {l : List Ev} {j : Nat} {e : Ev} (h : l[j]? = some e) : (played l)[j]? = some (playE l j e) := by
  rw [played, mixI_get, h]; simp [lt_of_get h]
theorem played_mem {l : List Ev} {e : Ev} (h : e ∈ played l) : ∃ j e0, l[j]? = some e0 ∧ e = playE l j e0 := by
  obtain ⟨j, hj⟩ := List.mem_iff_getElem?.1 h
  have : j < l.length := by have := lt_of_get hj; rwa [played, mixI_len] at this
  obtain ⟨e0, h0⟩ : ∃ e, l[j]? = some e := ⟨_, List.getElem?_eq_getElem this⟩
  rw [played_get h0] at hj
  cases hj
  exact ⟨j, e0, h0, rfl⟩
theorem may_iff {e : Ev} (h : e.may = true) : 0 ≤ e.hart ∧ e.hart < 4 ∧ 1 ≤ e.kind ∧ e.kind ≤ 3 ∧ 0 ≤ e.at' ∧ e.at' < 4 ∧ -2147483648 ≤ e.n ∧ e.n < 2147483648 ∧ (e.kind = 3 → e.at' = 0 ∧ e.n = 0) := by
  have ok := (may_ok h).n
  simp only [Ev.may, Bool.and_eq_true, decide_eq_true_eq] at h
  obtain ⟨h0, ⟨⟨⟨⟨⟨h1, h2⟩, h3⟩, h4⟩, h5⟩, h6⟩, _⟩ := h
  refine ⟨h1, h2, h3, h4, h5, h6, ok.1, ok.2, fun hk => ?_⟩
  cases hx : (e.kind == 3 && (e.at' != 0 || e.n != 0)) with
  | true => rw [hx] at h0; cases h0
  | false =>
    simp only [hk, beq_self_eq_true, Bool.true_and, Bool.or_eq_false_iff] at hx
    simpa using hx
theorem playE_may {l : List Ev} (hl : ∀ e ∈ l, e.may = true) {j : Nat} {e : Ev} (he : e.may = true) : (playE l j e).may = true := by
  unfold playE
  split
  · rename_i hk
    have hk' : e.kind = 1 := by simpa using hk
    obtain ⟨h1, h2, h3, h4, h5, h6, _, _, _⟩ := may_iff he
    have hs := seen_range (P := fun z => -2147483648 ≤ z ∧ z < 2147483648) (by decide) (fun e he => ⟨(may_iff (hl e he)).2.2.2.2.2.2.1, (may_iff (hl e he)).2.2.2.2.2.2.2.1⟩) e.at'.toNat j
    exact may_of ⟨h1, h2, h3, h4, h5, h6, hs.1, hs.2, fun hk3 => by simp only [] at hk3; omega⟩
  · exact he
theorem playE_kind (l : List Ev) (j : Nat) (e : Ev) : (playE l j e).kind = e.kind ∧ (playE l j e).at' = e.at' ∧ (playE l j e).hart = e.hart ∧ (e.kind = 2 → (playE l j e).n = e.n) := by
  unfold playE
  split
  · rename_i hk
    have hk' : e.kind = 1 := by simpa using hk
    exact ⟨rfl, rfl, rfl, fun h => by omega⟩
  · exact ⟨rfl, rfl, rfl, fun _ => rfl⟩
theorem right_of {l : List Ev} (h8 : l.length ≤ 8) (hl : ∀ e ∈ l, e.may = true) : right l = true := by
  simp only [right, Bool.and_eq_true, decide_eq_true_eq, List.all_eq_true]
  exact ⟨h8, hl⟩
theorem played_right {l : List Ev} (h8 : l.length ≤ 8) (hl : ∀ e ∈ l, e.may = true) : right (played l) = true := by
  refine right_of (by rw [played, mixI_len]; exact h8) fun e he => ?_
  obtain ⟨j, e0, h0, rfl⟩ := played_mem he
  exact playE_may hl (hl e0 (List.mem_of_getElem? h0))
theorem played_seen (l : List Ev) (w i : Nat) : seen (played l) w i = seen l w i := by
  refine seen_congr i fun j _ => ?_
  cases hj : l[j]? with
  | none =>
    have : (played l)[j]? = none := by rw [played, mixI_get, hj]; rfl
    rw [this]; trivial
  | some e =>
    rw [played_get hj]
    have := playE_kind l j e
    exact ⟨this.1, this.2.1, fun h => this.2.2.2 (by rw [← this.1]; exact h)⟩
theorem played_holds {l : List Ev} (h8 : l.length ≤ 8) (hl : ∀ e ∈ l, e.may = true) : holds (played l) (accs (played l)) = true := by
  refine holds_seq (played_right h8 hl) fun i e he hk => ?_
  have hi : i < l.length := by have := lt_of_get he; rwa [played, mixI_len] at this
  obtain ⟨e0, h0⟩ : ∃ e, l[i]? = some e := ⟨_, List.getElem?_eq_getElem hi⟩
  rw [played_get h0] at he
  cases he
  have hk0 : e0.kind = 1 := by rw [← (playE_kind l i e0).1]; exact hk
  rw [played_seen]
  simp [playE, hk0]

theorem leftTo_accs {l : List Ev} (hl : ∀ e ∈ l, e.may = true) : leftTo l l.length = accs l := by
  unfold leftTo accs accsTo
  congr 1
  refine List.filter_congr fun j hj => ?_
  cases he : l[j]? with
  | none => rfl
  | some e => simp only [Option.any_some, acc3 (hl e (List.mem_of_getElem? he))]
theorem orderF_first : ∀ (fuel n : Nat) (left : List Int), left.length ≤ fuel → orderF [] fuel n left = left
  | 0, n, left, h => by have : left = [] := List.length_eq_zero_iff.1 (by omega); subst this; rfl
  | fuel + 1, n, left, h => by
    unfold orderF
    match left, h with
    | [], _ => simp
    | x :: r, h =>
      have := orderF_first fuel (n + 1) r (by simpa using h)
      simp [this]
theorem order_accs {l : List Ev} (hl : ∀ e ∈ l, e.may = true) : orderK l [] = accs l := by
  rw [orderK, orderF_first _ _ _ (leftTo_len _ _), leftTo_accs hl]

set_option maxHeartbeats 1000000 in
theorem AxiomPlays_c {v : Value} {raw : List R4} {h : Heap} (hv : Raws h v raw) (hl63 : (raw.length : Int) ≤ 9223372036854775807) (hok : ∀ r ∈ raw, r.ok) :
    CallW Try.prog 5 [v] h fun r _ => r = .bool true := by
  obtain ⟨Q, hQ⟩ : ∃ Q : Value → Heap → Prop, Q = fun r _ => r = .bool true := ⟨_, rfl⟩
  rw [← hQ]
  have hq : ∀ h', Q (.bool true) h' := fun h' => by rw [hQ]
  clear hQ
  refine call_of1 (k := 1) ok5 rfl rfl rfl fun N => ?_
  rw [show env0 c5 [v] = [v, undef, undef, undef, undef, undef] from rfl]
  delta c5 c5_r0 c5_r1 c5_r2 c5_r3 c5_r4 c5_r5 c5_r6 c5_r7 c5_r8 c5_r9 c5_r10 c5_r12
  replace hq := Hid.mk hq
  repeat' (first | simp -implicitDefEqProofs only [W_skip, W_reg, W_seq, W_rcond, W_cond, W_block, W_loop, W_exit, W_ret, thenQ_normal, thenQ_exit, thenQ_ret, blockQ_normal, blockQ_ret, blockQ_here, regQ_app, rcQ_app, cndK_t, cndK_f, RegW_nil, RegW_none, RegW_some, contW_app, grdK_tt, grdK_ff, grdK_tf, grdK_ft, grdK_undef, actK_p, actK_r, actK_a, actK_w, actK_call, actK_callV, heapK_app, allocK_app, writeK_app, ret1_ret, ret1_normal, ret0_ret, ret0_normal, ret2_ret2, thenK_app, retcv_ret, retcvK_app, optW_some, evs, Arg.ev, aP, aR, aA, aW, pMov, pBin, pUn, pConv, pPick, pFieldAddr, pNilCheck, pExtract, aBin, aUn, aInt, aNew, partL_f, upd, List.getElem?_cons_zero, List.getElem?_cons_succ, List.getD_cons_zero, List.getD_cons_succ, List.set_cons_zero, List.set_cons_succ, Nat.zero_add, Nat.add_zero, List.getElem?_toArray, List.take_zero, List.drop_zero, List.take_succ_cons, List.drop_succ_cons, if_true, if_false, decide_true, decide_false, Bool.false_eq_true, Bool.true_eq_false, Bool.not_true, Bool.not_false, not_true_eq_false, not_false_eq_true, ge_iff_le, gt_iff_lt, beq_self_eq_true, bne_self_eq_false, and_self, and_true, true_and, Option.isSome_some, Heap.get_alloc_same, Heap.alloc_getE, *] | with_reducible refine cndK_d (fun hc => ?_) (fun hc => ?_) | with_reducible refine grdK_d (fun hc => ?_) (fun hc => ?_) | with_reducible refine cndK_i (fun hc => ?_) (fun hc => ?_) | with_reducible refine grdK_i (fun hc => ?_) (fun hc => ?_))
  refine awake_c h _ fun h1 hl1 => ?_
  repeat' (first | simp -implicitDefEqProofs only [W_skip, W_reg, W_seq, W_rcond, W_cond, W_block, W_loop, W_exit, W_ret, thenQ_normal, thenQ_exit, thenQ_ret, blockQ_normal, blockQ_ret, blockQ_here, regQ_app, rcQ_app, cndK_t, cndK_f, RegW_nil, RegW_none, RegW_some, contW_app, grdK_tt, grdK_ff, grdK_tf, grdK_ft, grdK_undef, actK_p, actK_r, actK_a, actK_w, actK_call, actK_callV, heapK_app, allocK_app, writeK_app, ret1_ret, ret1_normal, ret0_ret, ret0_normal, ret2_ret2, thenK_app, retcv_ret, retcvK_app, optW_some, evs, Arg.ev, aP, aR, aA, aW, pMov, pBin, pUn, pConv, pPick, pFieldAddr, pNilCheck, pExtract, aBin, aUn, aInt, aNew, partL_f, upd, List.getElem?_cons_zero, List.getElem?_cons_succ, List.getD_cons_zero, List.getD_cons_succ, List.set_cons_zero, List.set_cons_succ, Nat.zero_add, Nat.add_zero, List.getElem?_toArray, List.take_zero, List.drop_zero, List.take_succ_cons, List.drop_succ_cons, if_true, if_false, decide_true, decide_false, Bool.false_eq_true, Bool.true_eq_false, Bool.not_true, Bool.not_false, not_true_eq_false, not_false_eq_true, ge_iff_le, gt_iff_lt, beq_self_eq_true, bne_self_eq_false, and_self, and_true, true_and, Option.isSome_some, Heap.get_alloc_same, Heap.alloc_getE, *] | with_reducible refine cndK_d (fun hc => ?_) (fun hc => ?_) | with_reducible refine grdK_d (fun hc => ?_) (fun hc => ?_) | with_reducible refine cndK_i (fun hc => ?_) (fun hc => ?_) | with_reducible refine grdK_i (fun hc => ?_) (fun hc => ?_))
  refine Fit_c (hv.mono hl1) hl63 hok _ fun v2 h2 ho2 hl2 => ?_
  have hlen := fit_len raw
  have hmay : ∀ e ∈ fit raw, e.may = true := fun e he => fit_may hok he
  obtain ⟨l, hl⟩ : ∃ l, fit raw = l := ⟨_, rfl⟩
  rw [hl] at ho2 hlen hmay
  clear hl
  obtain ⟨ap, hap⟩ : ∃ x, h2.next = x := ⟨_, rfl⟩
  obtain ⟨h3, hh3⟩ : ∃ x, h2.alloc (.blk [.int .i64 0, .int .i64 0, .int .i64 0, .int .i64 0] true) = x := ⟨_, rfl⟩
  have hl3 : h2.le h3 := by rw [← hh3]; exact (Heap.le.refl _).alloc _
  have ga : h3.get ap = some (.blk [.int .i64 0, .int .i64 0, .int .i64 0, .int .i64 0] true) := by rw [← hh3, ← hap]; exact Heap.get_alloc_same _ _
  have hna : notOf v2 ap := by
    rcases own_some ho2 ap with h | h
    · exact h
    · obtain ⟨o, ho⟩ := Option.isSome_iff_exists.1 h
      have := Heap.lt_of_get ho
      omega
  have hapn : h1.next ≤ ap := by rw [← hap]; exact hl2.next
  repeat' (first | simp -implicitDefEqProofs only [W_skip, W_reg, W_seq, W_rcond, W_cond, W_block, W_loop, W_exit, W_ret, thenQ_normal, thenQ_exit, thenQ_ret, blockQ_normal, blockQ_ret, blockQ_here, regQ_app, rcQ_app, cndK_t, cndK_f, RegW_nil, RegW_none, RegW_some, contW_app, grdK_tt, grdK_ff, grdK_tf, grdK_ft, grdK_undef, actK_p, actK_r, actK_a, actK_w, actK_call, actK_callV, heapK_app, allocK_app, writeK_app, ret1_ret, ret1_normal, ret0_ret, ret0_normal, ret2_ret2, thenK_app, retcv_ret, retcvK_app, optW_some, evs, Arg.ev, aP, aR, aA, aW, pMov, pBin, pUn, pConv, pPick, pFieldAddr, pNilCheck, pExtract, aBin, aUn, aInt, aNew, partL_f, upd, List.getElem?_cons_zero, List.getElem?_cons_succ, List.getD_cons_zero, List.getD_cons_succ, List.set_cons_zero, List.set_cons_succ, Nat.zero_add, Nat.add_zero, List.getElem?_toArray, List.take_zero, List.drop_zero, List.take_succ_cons, List.drop_succ_cons, if_true, if_false, decide_true, decide_false, Bool.false_eq_true, Bool.true_eq_false, Bool.not_true, Bool.not_false, not_true_eq_false, not_false_eq_true, ge_iff_le, gt_iff_lt, beq_self_eq_true, bne_self_eq_false, and_self, and_true, true_and, Option.isSome_some, Heap.get_alloc_same, Heap.alloc_getE, *] | with_reducible refine cndK_d (fun hc => ?_) (fun hc => ?_) | with_reducible refine grdK_d (fun hc => ?_) (fun hc => ?_) | with_reducible refine cndK_i (fun hc => ?_) (fun hc => ?_) | with_reducible refine grdK_i (fun hc => ?_) (fun hc => ?_))
  clear hap hh3
  refine LoopW.upto l.length (fun i e h4 => h1.le h4 ∧ OwnS h1 h4 4 v2 ((mixI (playE l) l i).map Ev.cells) ∧ h4.get ap = some (.blk (atCells l i) true) ∧ e = [v, .bool false, .bool true, v2, .pointer (some ⟨ap, 0, none⟩), .int .i64 i]) ?_ (Nat.zero_le _) ⟨hl2.trans hl3, by rw [mixI_zero]; exact ho2.mono hl3, ga, rfl⟩
  rintro i _ h4 R hi ⟨hl4, ho4, ga4, rfl⟩ hR
  have elen : pLenS [v2] = some (.int .i64 l.length) := by
    have := Evs.len (OwnS.evs ho4)
    rwa [mixI_len] at this
  clear ga ho2 hl3
  delta c5_l11 c5_r0 c5_r1 c5_r2 c5_r3 c5_r4 c5_r5 c5_r6 c5_r7 c5_r8 c5_r9 c5_r10 c5_r12
  by_cases hlt : i < l.length
  · have hlt' : (i : Int) < l.length := by omega
    obtain ⟨e, he⟩ : ∃ e, l[i]? = some e := ⟨_, List.getElem?_eq_getElem hlt⟩
    obtain ⟨a, hat, ha4⟩ := (may_ok (hmay e (List.mem_of_getElem? he))).a
    obtain ⟨id, cells, f1, f2, f3, f4, f5, f6, f7, f8, f9⟩ := ownEv ho4 (mixI_at he)
    rw [hat] at f5
    have hw : IntKind.i64.wrap ((i : Int) + 1) = ((i + 1 : Nat) : Int) := by rw [wrapI (by omega) (by omega)]; rfl
    have ia := idxA (n := 4) (id := ap) (o := 0) ha4
    rw [Nat.zero_add] at ia
    have ag := atCells_get (l := l) (i := i) ha4
    replace ho4 := Hid.mk ho4
    cases hk2 : (e.kind == 2) with
    | true =>
      have hk2' : e.kind = 2 := by simpa using hk2
      have hk1 : (e.kind == 1) = false := by simp [hk2']
      have sa := wStore_int (k := .i64) (z := e.n) (off := a) ga4 (by simp [atCells]; omega)
      rw [atCells_store he hk2' hat ha4] at sa
      have ge : (h4.set ap (.blk (atCells l (i + 1)) true)).get id = some (.blk cells true) := by rw [Heap.set_getE _ _ _ _ (by have := f9 ap hna; simp; omega)]; exact f2
      have go : R [v, .bool false, .bool true, v2, .pointer (some ⟨ap, 0, none⟩), .int .i64 ((i + 1 : Nat) : Int)] (h4.set ap (.blk (atCells l (i + 1)) true)) := by
        refine hR.h _ _ hlt ⟨hl4.set hapn _, ?_, Heap.set_getS _ _ _ (by rw [ga4]; rfl), rfl⟩
        rw [← mixI_set he]
        have : playE l i e = e := by simp [playE, hk1]
        rw [this]
        have h5 : (mixI (playE l) l i).set i e = mixI (playE l) l i := by
          rw [set_same (mixI_at he)]
        rw [h5]
        exact ho4.h.get fun j hj _ => Heap.set_getE _ _ _ _ (by
          have : j ≠ ap := fun e => hna _ _ (by rw [hj, e])
          simpa using this)
      replace go := Hid.mk go
      clear f8 hk2'
      repeat' (first | simp -implicitDefEqProofs only [W_skip, W_reg, W_seq, W_rcond, W_cond, W_block, W_loop, W_exit, W_ret, thenQ_normal, thenQ_exit, thenQ_ret, blockQ_normal, blockQ_ret, blockQ_here, regQ_app, rcQ_app, cndK_t, cndK_f, RegW_nil, RegW_none, RegW_some, contW_app, grdK_tt, grdK_ff, grdK_tf, grdK_ft, grdK_undef, actK_p, actK_r, actK_a, actK_w, actK_call, actK_callV, heapK_app, allocK_app, writeK_app, ret1_ret, ret1_normal, ret0_ret, ret0_normal, ret2_ret2, thenK_app, retcv_ret, retcvK_app, optW_some, evs, Arg.ev, aP, aR, aA, aW, pMov, pBin, pUn, pConv, pPick, pFieldAddr, pNilCheck, pExtract, aBin, aUn, aInt, aNew, partL_f, upd, List.getElem?_cons_zero, List.getElem?_cons_succ, List.getD_cons_zero, List.getD_cons_succ, List.set_cons_zero, List.set_cons_succ, Nat.zero_add, Nat.add_zero, List.getElem?_toArray, List.take_zero, List.drop_zero, List.take_succ_cons, List.drop_succ_cons, if_true, if_false, decide_true, decide_false, Bool.false_eq_true, Bool.true_eq_false, Bool.not_true, Bool.not_false, not_true_eq_false, not_false_eq_true, ge_iff_le, gt_iff_lt, beq_self_eq_true, bne_self_eq_false, and_self, and_true, true_and, Option.isSome_some, Heap.get_alloc_same, Heap.alloc_getE, *] | with_reducible refine cndK_d (fun hc => ?_) (fun hc => ?_) | with_reducible refine grdK_d (fun hc => ?_) (fun hc => ?_) | with_reducible refine cndK_i (fun hc => ?_) (fun hc => ?_) | with_reducible refine grdK_i (fun hc => ?_) (fun hc => ?_))
      exact go.h
    | false =>
      have hk2' : e.kind ≠ 2 := by simpa using hk2
      cases hk1 : (e.kind == 1) with
      | true =>
        obtain ⟨s1, o1⟩ := f8 3 (seen l a i) (playE l i e) (by omega) (by simp [playE, hk1, hat, Ev.cells])
        have go : R [v, .bool false, .bool true, v2, .pointer (some ⟨ap, 0, none⟩), .int .i64 ((i + 1 : Nat) : Int)] (h4.set id (.blk (cells.set (i * 4 + 3) (.int .i64 (seen l a i))) true)) := by
          refine hR.h _ _ hlt ⟨hl4.set f7 _, by rw [← mixI_set he]; exact o1, ?_, rfl⟩
          rw [Heap.set_getE _ _ _ _ (by have := f9 ap hna; simpa using this), atCells_keep he hk2']; exact ga4
        replace go := Hid.mk go
        clear f8 o1
        repeat' (first | simp -implicitDefEqProofs only [W_skip, W_reg, W_seq, W_rcond, W_cond, W_block, W_loop, W_exit, W_ret, thenQ_normal, thenQ_exit, thenQ_ret, blockQ_normal, blockQ_ret, blockQ_here, regQ_app, rcQ_app, cndK_t, cndK_f, RegW_nil, RegW_none, RegW_some, contW_app, grdK_tt, grdK_ff, grdK_tf, grdK_ft, grdK_undef, actK_p, actK_r, actK_a, actK_w, actK_call, actK_callV, heapK_app, allocK_app, writeK_app, ret1_ret, ret1_normal, ret0_ret, ret0_normal, ret2_ret2, thenK_app, retcv_ret, retcvK_app, optW_some, evs, Arg.ev, aP, aR, aA, aW, pMov, pBin, pUn, pConv, pPick, pFieldAddr, pNilCheck, pExtract, aBin, aUn, aInt, aNew, partL_f, upd, List.getElem?_cons_zero, List.getElem?_cons_succ, List.getD_cons_zero, List.getD_cons_succ, List.set_cons_zero, List.set_cons_succ, Nat.zero_add, Nat.add_zero, List.getElem?_toArray, List.take_zero, List.drop_zero, List.take_succ_cons, List.drop_succ_cons, if_true, if_false, decide_true, decide_false, Bool.false_eq_true, Bool.true_eq_false, Bool.not_true, Bool.not_false, not_true_eq_false, not_false_eq_true, ge_iff_le, gt_iff_lt, beq_self_eq_true, bne_self_eq_false, and_self, and_true, true_and, Option.isSome_some, Heap.get_alloc_same, Heap.alloc_getE, *] | with_reducible refine cndK_d (fun hc => ?_) (fun hc => ?_) | with_reducible refine grdK_d (fun hc => ?_) (fun hc => ?_) | with_reducible refine cndK_i (fun hc => ?_) (fun hc => ?_) | with_reducible refine grdK_i (fun hc => ?_) (fun hc => ?_))
        exact go.h
      | false =>
        have go : R [v, .bool false, .bool true, v2, .pointer (some ⟨ap, 0, none⟩), .int .i64 ((i + 1 : Nat) : Int)] h4 := by
          refine hR.h _ _ hlt ⟨hl4, ?_, by rw [atCells_keep he hk2']; exact ga4, rfl⟩
          rw [← mixI_set he]
          have : playE l i e = e := by simp [playE, hk1]
          rw [this, set_same (mixI_at he)]
          exact ho4.h
        replace go := Hid.mk go
        clear f8
        repeat' (first | simp -implicitDefEqProofs only [W_skip, W_reg, W_seq, W_rcond, W_cond, W_block, W_loop, W_exit, W_ret, thenQ_normal, thenQ_exit, thenQ_ret, blockQ_normal, blockQ_ret, blockQ_here, regQ_app, rcQ_app, cndK_t, cndK_f, RegW_nil, RegW_none, RegW_some, contW_app, grdK_tt, grdK_ff, grdK_tf, grdK_ft, grdK_undef, actK_p, actK_r, actK_a, actK_w, actK_call, actK_callV, heapK_app, allocK_app, writeK_app, ret1_ret, ret1_normal, ret0_ret, ret0_normal, ret2_ret2, thenK_app, retcv_ret, retcvK_app, optW_some, evs, Arg.ev, aP, aR, aA, aW, pMov, pBin, pUn, pConv, pPick, pFieldAddr, pNilCheck, pExtract, aBin, aUn, aInt, aNew, partL_f, upd, List.getElem?_cons_zero, List.getElem?_cons_succ, List.getD_cons_zero, List.getD_cons_succ, List.set_cons_zero, List.set_cons_succ, Nat.zero_add, Nat.add_zero, List.getElem?_toArray, List.take_zero, List.drop_zero, List.take_succ_cons, List.drop_succ_cons, if_true, if_false, decide_true, decide_false, Bool.false_eq_true, Bool.true_eq_false, Bool.not_true, Bool.not_false, not_true_eq_false, not_false_eq_true, ge_iff_le, gt_iff_lt, beq_self_eq_true, bne_self_eq_false, and_self, and_true, true_and, Option.isSome_some, Heap.get_alloc_same, Heap.alloc_getE, *] | with_reducible refine cndK_d (fun hc => ?_) (fun hc => ?_) | with_reducible refine grdK_d (fun hc => ?_) (fun hc => ?_) | with_reducible refine cndK_i (fun hc => ?_) (fun hc => ?_) | with_reducible refine grdK_i (fun hc => ?_) (fun hc => ?_))
        exact go.h
  · have hlt' : ¬ (i : Int) < l.length := by omega
    have hil : i = l.length := by omega
    subst hil
    have e4 : Evs h4 v2 (played l) := OwnS.evs ho4
    have hplen : (played l).length = l.length := by rw [played, mixI_len]
    have hpr := played_right (by omega) hmay
    have hph := played_holds (by omega) hmay
    have hpm : ∀ e ∈ played l, e.may = true := by
      simp only [right, Bool.and_eq_true, List.all_eq_true] at hpr; exact hpr.2
    clear ho4 ga4
    repeat' (first | simp -implicitDefEqProofs only [W_skip, W_reg, W_seq, W_rcond, W_cond, W_block, W_loop, W_exit, W_ret, thenQ_normal, thenQ_exit, thenQ_ret, blockQ_normal, blockQ_ret, blockQ_here, regQ_app, rcQ_app, cndK_t, cndK_f, RegW_nil, RegW_none, RegW_some, contW_app, grdK_tt, grdK_ff, grdK_tf, grdK_ft, grdK_undef, actK_p, actK_r, actK_a, actK_w, actK_call, actK_callV, heapK_app, allocK_app, writeK_app, ret1_ret, ret1_normal, ret0_ret, ret0_normal, ret2_ret2, thenK_app, retcv_ret, retcvK_app, optW_some, evs, Arg.ev, aP, aR, aA, aW, pMov, pBin, pUn, pConv, pPick, pFieldAddr, pNilCheck, pExtract, aBin, aUn, aInt, aNew, partL_f, upd, List.getElem?_cons_zero, List.getElem?_cons_succ, List.getD_cons_zero, List.getD_cons_succ, List.set_cons_zero, List.set_cons_succ, Nat.zero_add, Nat.add_zero, List.getElem?_toArray, List.take_zero, List.drop_zero, List.take_succ_cons, List.drop_succ_cons, if_true, if_false, decide_true, decide_false, Bool.false_eq_true, Bool.true_eq_false, Bool.not_true, Bool.not_false, not_true_eq_false, not_false_eq_true, ge_iff_le, gt_iff_lt, beq_self_eq_true, bne_self_eq_false, and_self, and_true, true_and, Option.isSome_some, Heap.get_alloc_same, Heap.alloc_getE, *] | with_reducible refine cndK_d (fun hc => ?_) (fun hc => ?_) | with_reducible refine grdK_d (fun hc => ?_) (fun hc => ?_) | with_reducible refine cndK_i (fun hc => ?_) (fun hc => ?_) | with_reducible refine grdK_i (fun hc => ?_) (fun hc => ?_))
    refine Allowed_c e4 (by omega) _ fun x h6 hx hl6 => ?_
    have : x = true := hx.2 ⟨hpr, (fin_iff hpr).2 ⟨_, hph⟩⟩
    subst this
    clear hx
    repeat' (first | simp -implicitDefEqProofs only [W_skip, W_reg, W_seq, W_rcond, W_cond, W_block, W_loop, W_exit, W_ret, thenQ_normal, thenQ_exit, thenQ_ret, blockQ_normal, blockQ_ret, blockQ_here, regQ_app, rcQ_app, cndK_t, cndK_f, RegW_nil, RegW_none, RegW_some, contW_app, grdK_tt, grdK_ff, grdK_tf, grdK_ft, grdK_undef, actK_p, actK_r, actK_a, actK_w, actK_call, actK_callV, heapK_app, allocK_app, writeK_app, ret1_ret, ret1_normal, ret0_ret, ret0_normal, ret2_ret2, thenK_app, retcv_ret, retcvK_app, optW_some, evs, Arg.ev, aP, aR, aA, aW, pMov, pBin, pUn, pConv, pPick, pFieldAddr, pNilCheck, pExtract, aBin, aUn, aInt, aNew, partL_f, upd, List.getElem?_cons_zero, List.getElem?_cons_succ, List.getD_cons_zero, List.getD_cons_succ, List.set_cons_zero, List.set_cons_succ, Nat.zero_add, Nat.add_zero, List.getElem?_toArray, List.take_zero, List.drop_zero, List.take_succ_cons, List.drop_succ_cons, if_true, if_false, decide_true, decide_false, Bool.false_eq_true, Bool.true_eq_false, Bool.not_true, Bool.not_false, not_true_eq_false, not_false_eq_true, ge_iff_le, gt_iff_lt, beq_self_eq_true, bne_self_eq_false, and_self, and_true, true_and, Option.isSome_some, Heap.get_alloc_same, Heap.alloc_getE, *] | with_reducible refine cndK_d (fun hc => ?_) (fun hc => ?_) | with_reducible refine grdK_d (fun hc => ?_) (fun hc => ?_) | with_reducible refine cndK_i (fun hc => ?_) (fun hc => ?_) | with_reducible refine grdK_i (fun hc => ?_) (fun hc => ?_))
    refine Order_c (picks := []) (e4.mono hl6) (.inl ⟨rfl, rfl⟩) (by omega) (by decide) (by simp) _ fun v7 h7 ho7 hl7 => ?_
    rw [order_accs hpm] at ho7
    repeat' (first | simp -implicitDefEqProofs only [W_skip, W_reg, W_seq, W_rcond, W_cond, W_block, W_loop, W_exit, W_ret, thenQ_normal, thenQ_exit, thenQ_ret, blockQ_normal, blockQ_ret, blockQ_here, regQ_app, rcQ_app, cndK_t, cndK_f, RegW_nil, RegW_none, RegW_some, contW_app, grdK_tt, grdK_ff, grdK_tf, grdK_ft, grdK_undef, actK_p, actK_r, actK_a, actK_w, actK_call, actK_callV, heapK_app, allocK_app, writeK_app, ret1_ret, ret1_normal, ret0_ret, ret0_normal, ret2_ret2, thenK_app, retcv_ret, retcvK_app, optW_some, evs, Arg.ev, aP, aR, aA, aW, pMov, pBin, pUn, pConv, pPick, pFieldAddr, pNilCheck, pExtract, aBin, aUn, aInt, aNew, partL_f, upd, List.getElem?_cons_zero, List.getElem?_cons_succ, List.getD_cons_zero, List.getD_cons_succ, List.set_cons_zero, List.set_cons_succ, Nat.zero_add, Nat.add_zero, List.getElem?_toArray, List.take_zero, List.drop_zero, List.take_succ_cons, List.drop_succ_cons, if_true, if_false, decide_true, decide_false, Bool.false_eq_true, Bool.true_eq_false, Bool.not_true, Bool.not_false, not_true_eq_false, not_false_eq_true, ge_iff_le, gt_iff_lt, beq_self_eq_true, bne_self_eq_false, and_self, and_true, true_and, Option.isSome_some, Heap.get_alloc_same, Heap.alloc_getE, *] | with_reducible refine cndK_d (fun hc => ?_) (fun hc => ?_) | with_reducible refine grdK_d (fun hc => ?_) (fun hc => ?_) | with_reducible refine cndK_i (fun hc => ?_) (fun hc => ?_) | with_reducible refine grdK_i (fun hc => ?_) (fun hc => ?_))
    refine Holds_c ((e4.mono hl6).mono hl7) ho7.ints (by omega) (by have := accsTo_len (played l) (played l).length; show (accsTo _ _).length ≤ 12; omega) _ fun v8 h8 hv8 hl8 => ?_
    rw [hph] at hv8
    subst hv8
    repeat' (first | simp -implicitDefEqProofs only [W_skip, W_reg, W_seq, W_rcond, W_cond, W_block, W_loop, W_exit, W_ret, thenQ_normal, thenQ_exit, thenQ_ret, blockQ_normal, blockQ_ret, blockQ_here, regQ_app, rcQ_app, cndK_t, cndK_f, RegW_nil, RegW_none, RegW_some, contW_app, grdK_tt, grdK_ff, grdK_tf, grdK_ft, grdK_undef, actK_p, actK_r, actK_a, actK_w, actK_call, actK_callV, heapK_app, allocK_app, writeK_app, ret1_ret, ret1_normal, ret0_ret, ret0_normal, ret2_ret2, thenK_app, retcv_ret, retcvK_app, optW_some, evs, Arg.ev, aP, aR, aA, aW, pMov, pBin, pUn, pConv, pPick, pFieldAddr, pNilCheck, pExtract, aBin, aUn, aInt, aNew, partL_f, upd, List.getElem?_cons_zero, List.getElem?_cons_succ, List.getD_cons_zero, List.getD_cons_succ, List.set_cons_zero, List.set_cons_succ, Nat.zero_add, Nat.add_zero, List.getElem?_toArray, List.take_zero, List.drop_zero, List.take_succ_cons, List.drop_succ_cons, if_true, if_false, decide_true, decide_false, Bool.false_eq_true, Bool.true_eq_false, Bool.not_true, Bool.not_false, not_true_eq_false, not_false_eq_true, ge_iff_le, gt_iff_lt, beq_self_eq_true, bne_self_eq_false, and_self, and_true, true_and, Option.isSome_some, Heap.get_alloc_same, Heap.alloc_getE, *] | with_reducible refine cndK_d (fun hc => ?_) (fun hc => ?_) | with_reducible refine grdK_d (fun hc => ?_) (fun hc => ?_) | with_reducible refine cndK_i (fun hc => ?_) (fun hc => ?_) | with_reducible refine grdK_i (fun hc => ?_) (fun hc => ?_))
    exact hq.h _
end Go.Eng.Ax

set_option linter.unusedSimpArgs false
set_option linter.unusedVariables false
namespace Go.Eng.Ax
open Go Go.Eng Go.Proofs

/-! ### an order that keeps what must be kept -/
def keptOk (l : List Ev) (o : List Nat) (k i : Nat) : Bool := o.contains k || !Keeps l k i
def freeB (l : List Ev) (o : List Nat) (i : Nat) : Bool := ((l[i]?).any fun e => e.kind != 3) && !o.contains i && (List.range i).all fun k => keptOk l o k i
def freeTo (l : List Ev) (o : List Nat) (m : Nat) : List Nat := (List.range m).filter (freeB l o)
theorem freeTo_succ (l : List Ev) (o : List Nat) (m : Nat) : freeTo l o (m + 1) = freeTo l o m ++ if freeB l o m then [m] else [] := by
  simp only [freeTo, List.range_succ, List.filter_append]
  congr 1
  cases h : freeB l o m <;> simp [h, List.filter_cons]
theorem freeTo_len (l : List Ev) (o : List Nat) (m : Nat) : (freeTo l o m).length ≤ m := Nat.le_trans (List.length_filter_le _ _) (by simp)
def restN (l : List Ev) (o : List Nat) : Nat := ((accN l).filter fun j => !o.contains j).length

structure Kp (l : List Ev) (o : List Nat) : Prop where
  nodup : o.Nodup
  acc : ∀ i ∈ o, ∃ e, l[i]? = some e ∧ e.acc = true
  ahead : ∀ (a i k : Nat), o[a]? = some i → k < i → Keeps l k i = true → k ∈ o.take a
  rest : restN l o + o.length ≤ (accN l).length

theorem Keeps_nat {l : List Ev} (hr : right l = true) {i k : Nat} : Keeps l i k = true ↔ (∃ a b, l[i]? = some a ∧ l[k]? = some b ∧ a.acc = true ∧ b.acc = true) ∧ keeps l i k = true := by
  simp only [Keeps, hr, Int.toNat_natCast, Bool.true_and, Bool.and_eq_true, decide_eq_true_eq]
  constructor
  · rintro ⟨⟨⟨⟨⟨⟨_, h1⟩, _⟩, h2⟩, h3⟩, h4⟩, h5⟩
    obtain ⟨a, ha⟩ : ∃ e, l[i]? = some e := ⟨_, List.getElem?_eq_getElem (by omega)⟩
    obtain ⟨b, hb⟩ : ∃ e, l[k]? = some e := ⟨_, List.getElem?_eq_getElem (by omega)⟩
    exact ⟨⟨a, b, ha, hb, by simpa [ha] using h3, by simpa [hb] using h4⟩, h5⟩
  · rintro ⟨⟨a, b, ha, hb, h1, h2⟩, h3⟩
    have := lt_of_get ha
    have := lt_of_get hb
    exact ⟨⟨⟨⟨⟨⟨by omega, by omega⟩, by omega⟩, by omega⟩, by simp [ha, h1]⟩, by simp [hb, h2]⟩, h3⟩

theorem Kp.nil (l : List Ev) : Kp l [] := ⟨List.nodup_nil, by simp, fun a i k h => by simp at h, by simp [restN]; exact List.length_filter_le _ _⟩
theorem Kp.snoc {l : List Ev} (hm : ∀ e ∈ l, e.may = true) {o : List Nat} (h : Kp l o) {i : Nat} (hi : i < l.length) (hf : freeB l o i = true) : Kp l (o ++ [i]) := by
  obtain ⟨e, he⟩ : ∃ e, l[i]? = some e := ⟨_, List.getElem?_eq_getElem hi⟩
  simp only [freeB, he, Option.any_some, Bool.and_eq_true, Bool.not_eq_true', List.all_eq_true, List.mem_range] at hf
  obtain ⟨⟨h1, h2⟩, h3⟩ := hf
  have hacc : e.acc = true := by rw [acc3 (hm e (List.mem_of_getElem? he))]; exact h1
  have hni : ¬ i ∈ o := by simpa using h2
  refine ⟨?_, ?_, ?_, ?_⟩
  · rw [List.nodup_append]
    refine ⟨h.nodup, by simp, ?_⟩
    intro x hx y hy hxy
    simp only [List.mem_singleton] at hy
    subst hy; subst hxy; exact hni hx
  · intro j hj
    rcases List.mem_append.1 hj with hj | hj
    · exact h.acc j hj
    · simp only [List.mem_singleton] at hj; subst hj; exact ⟨e, he, hacc⟩
  · intro a j k hj hkj hk
    rw [List.getElem?_append] at hj
    split at hj
    · rename_i hlt
      rw [List.take_append_of_le_length (by omega)]
      exact h.ahead a j k hj hkj hk
    · rw [List.getElem?_singleton] at hj
      split at hj
      · cases hj
        have : a = o.length := by omega
        subst this
        rw [List.take_left' rfl]
        have := h3 k hkj
        simp only [keptOk, hk, Bool.not_true, Bool.or_false] at this
        simpa using this
      · cases hj
  · have hlt : restN l (o ++ [i]) < restN l o := by
      refine filter_lt (fun x _ hx => ?_) ⟨i, mem_accN.2 ⟨e, he, hacc⟩, by simpa using h2, by simp⟩
      simp at hx ⊢
      exact fun hh => hx.1 hh
    have := h.rest
    simp only [List.length_append, List.length_cons, List.length_nil]
    omega
theorem Kp.all {l : List Ev} (hr : right l = true) {o : List Nat} (h : Kp l o) (hall : ∀ i ∈ accN l, i ∈ o) : Ord l o ∧ Keeping l o := by
  have ho : Ord l o := ⟨by
    rw [List.perm_ext_iff_of_nodup h.nodup (nodup_accN l)]
    intro i
    exact ⟨fun hi => mem_accN.2 (h.acc i hi), hall i⟩⟩
  refine ⟨ho, fun a b i j hba ha hb => ?_⟩
  cases hc : keeps l i j with
  | false => rfl
  | true =>
    exfalso
    obtain ⟨ei, hei, hai⟩ := h.acc i (List.mem_of_getElem? ha)
    obtain ⟨ej, hej, haj⟩ := h.acc j (List.mem_of_getElem? hb)
    have hm := h.ahead b j i hb (keeps_lt hc) ((Keeps_nat hr).2 ⟨⟨ei, ej, hei, hej, hai, haj⟩, hc⟩)
    rw [List.mem_take_iff_getElem] at hm
    obtain ⟨c, hc1, hc2⟩ := hm
    have := nodup_inj h.nodup ha (by rw [List.getElem?_eq_getElem (by omega), hc2] : o[c]? = some i)
    omega
theorem Kp.full {l : List Ev} {o : List Nat} (h : Kp l o) (hn : (accN l).length ≤ o.length) : ∀ i ∈ accN l, i ∈ o := by
  intro i hi
  have := h.rest
  have h0 : restN l o = 0 := by omega
  have : ((accN l).filter fun j => !o.contains j) = [] := List.length_eq_zero_iff.1 h0
  have h1 := List.filter_eq_nil_iff.1 this i hi
  simpa using h1
theorem Kp.stuck {l : List Ev} (hr : right l = true) {o : List Nat} (h : Kp l o) (hs : freeTo l o l.length = []) : ∀ i ∈ accN l, i ∈ o := by
  have hm : ∀ e ∈ l, e.may = true := by simp only [right, Bool.and_eq_true, List.all_eq_true] at hr; exact hr.2
  intro i
  induction i using Nat.strongRecOn with
  | ind i ih =>
    intro hi
    obtain ⟨e, he, hacc⟩ := mem_accN.1 hi
    cases hc : o.contains i with
    | true => simpa using hc
    | false =>
      exfalso
      have := List.filter_eq_nil_iff.1 hs i (by simpa using lt_of_get he)
      apply this
      have hk3 : (e.kind != 3) = true := by rw [← acc3 (hm e (List.mem_of_getElem? he))]; exact hacc
      simp only [freeB, he, Option.any_some, hk3, hc, Bool.not_false, Bool.and_self, Bool.true_and, List.all_eq_true, List.mem_range]
      intro k hk
      simp only [keptOk, Bool.or_eq_true, Bool.not_eq_true']
      cases hkk : Keeps l k i with
      | false => exact .inr rfl
      | true =>
        left
        obtain ⟨⟨a, b, ha, _, h1, _⟩, _⟩ := (Keeps_nat hr).1 hkk
        simpa using ih k hk (mem_accN.2 ⟨a, ha, h1⟩)

def doneCells (o : List Nat) (n : Nat) : List Value := (List.range n).map fun j => .bool (o.contains j)
theorem doneCells_get {o : List Nat} {n j : Nat} (h : j < n) : (doneCells o n)[j]? = some (.bool (o.contains j)) := by simp [doneCells, h]
theorem doneCells_set {o : List Nat} {n j : Nat} (h : j < n) : (doneCells o n).set j (.bool true) = doneCells (o ++ [j]) n := by
  apply List.ext_getElem?
  intro k
  rw [List.getElem?_set]
  by_cases hjk : j = k
  · subst hjk
    rw [if_pos rfl, if_pos (by simpa [doneCells] using h), doneCells_get h]
    simp
  · rw [if_neg hjk]
    by_cases hk : k < n
    · rw [doneCells_get hk, doneCells_get hk]
      congr 2
      rw [Bool.eq_iff_iff]; simp [show ¬ k = j from fun e => hjk e.symm]
    · rw [List.getElem?_eq_none (by simp [doneCells]; omega), List.getElem?_eq_none (by simp [doneCells]; omega)]
theorem doneCells_nil (n : Nat) : (List.replicate n [Value.bool false]).flatten = doneCells [] n := by
  apply List.ext_getElem?
  intro k
  have : (List.replicate n [Value.bool false]).flatten = List.replicate n (Value.bool false) := by
    induction n with
    | zero => rfl
    | succ n ih => rw [List.replicate_succ, List.flatten_cons, ih, List.replicate_succ]; rfl
  rw [this]
  simp [doneCells, List.getElem?_replicate]
  by_cases hk : k < n <;> simp [hk]

theorem aMake_bool (n : Nat) (hn : n ≤ 1000) : aMake [.bool false] 1 1 [.int .i64 n, .int .i64 n] = some (doneCells [] n, fun id => .slice (some ⟨id, 0, none⟩) n 1) := by
  simp only [aMake]
  rw [if_pos (by omega)]
  simp only [Int.toNat_natCast, doneCells_nil]
end Go.Eng.Ax

