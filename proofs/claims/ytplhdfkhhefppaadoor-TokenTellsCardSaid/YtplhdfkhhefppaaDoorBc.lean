/-
  Part of a proof of the laws of layer 05 (token): what each function does.
  Conditions: none.
-/
import Derived.Test.YtplhdfkhhefppaaDoorBb
import Derived.Test.YtplhdfkhhefppaaDoorEc
set_option linter.unusedSimpArgs false
set_option linter.unusedVariables false
namespace Go.Eng.Tk
open Go Go.Eng Go.Proofs

/-! ### tokens may be compared -/
structure Tok.ok (t : Tok) : Prop where
  kind : inI t.kind
  n : inI t.n
  line : inI t.line
  text : t.text.length ≤ 1000000000
theorem a41 : (#[{ name := "Kind", type := 3, offset := 0, embedded := false, tag := "", pkgPath := "", byteOffset := 0 },
        { name := "Text", type := 9, offset := 1, embedded := false, tag := "", pkgPath := "", byteOffset := 8 },
        { name := "N", type := 3, offset := 2, embedded := false, tag := "", pkgPath := "", byteOffset := 24 },
        { name := "Line", type := 3, offset := 3, embedded := false, tag := "", pkgPath := "", byteOffset := 32 }] : Array Field).all (·.name != "_") = true := by kernel_rfl
theorem k41 : Tryd.prog.keyType 41 = true := by kernel_rfl
theorem n41 : Tryd.prog.cellsOf 41 = 4 := by kernel_rfl
theorem n3 : Tryd.prog.cellsOf 3 = 1 := by kernel_rfl
theorem n9 : Tryd.prog.cellsOf 9 = 1 := by kernel_rfl
theorem u3 : Tryd.prog.underlying 3 = some (.int .i64) := by kernel_rfl
theorem u9 : Tryd.prog.underlying 9 = some .string := by kernel_rfl
theorem wf_of {z : Int} (h : inI z) : (Lit.int .i64 z).wf = true := by
  unfold inI at h
  simp [Lit.wf, IntKind.min, IntKind.max, IntKind.signed, IntKind.bits]; omega
theorem good41 {t : Tok} (h : t.ok) : keyGood Tryd.prog 41 t.val = true := by
  have w1 := wf_of h.kind
  have w2 := wf_of h.n
  have w3 := wf_of h.line
  have w4 : (ByteArray.mk t.text.toArray).size ≤ maxLen := by
    have := h.text
    have : (ByteArray.mk t.text.toArray).size = t.text.length := by simp [ByteArray.size]
    unfold maxLen; omega
  have hs : ∃ n, Tryd.prog.types.size = n + 2 := by
    have : 2 ≤ Tryd.prog.types.size := by decide +kernel
    exact ⟨Tryd.prog.types.size - 2, by omega⟩
  obtain ⟨n, hn⟩ := hs
  have flat : flatKey t.val = true := rfl
  simp only [keyGood, flat, Bool.true_and, keyOf, Tryd.underlying41, k41]
  have hform : Value.formed Tryd.prog 41 t.val = true := by simp only [Value.formed, Tok.val, Tryd.underlying41, n41]; rfl
  simp only [hform, Bool.and_true, if_true, hn]
  have hkl : Tryd.prog.keyLits (n + 2 + 1) 41 t.val.cells.toList = some [.int .i64 t.kind, .string t.text, .int .i64 t.n, .int .i64 t.line] := by
    simp only [Program.keyLits, Tryd.underlying41, n41, a41, Tok.val, Value.cells, List.mapM_cons, List.mapM_nil, u3, n3, u9, n9]
    simp [Program.keyLits, u3, u9, w1, w2, w3, w4]
  simp [hkl]
def Tok.beq (a b : Tok) : Bool := decide (a.kind = b.kind) && (a.text == b.text) && decide (a.n = b.n) && decide (a.line = b.line)
theorem Tok.beq_iff (a b : Tok) : a.beq b = true ↔ a = b := by
  cases a; cases b
  simp [Tok.beq]
  constructor
  · rintro ⟨⟨⟨h1, h2⟩, h3⟩, h4⟩; exact ⟨h1, h2, h3, h4⟩
  · rintro ⟨h1, h2, h3, h4⟩; exact ⟨⟨⟨h1, h2⟩, h3⟩, h4⟩
theorem flat41 (a b : Tok) : flatEq a.val b.val = a.beq b := by
  simp [flatEq, Tok.val, cellsEq, cellEq, Tok.beq, Bool.and_assoc]
theorem eqK41 {a b : Tok} (ha : a.ok) (hb : b.ok) (neg : Bool) : pEqK (keyGood Tryd.prog 41) neg [a.val, b.val] = some (.bool (if neg then !a.beq b else a.beq b)) := by
  simp only [pEqK, good41 ha, good41 hb, flat41]; rfl
/-- v is a slice of tokens -/
abbrev TokS (h : Heap) (v : Value) (ts : List Tok) : Prop := SlV h 4 v (ts.map Tok.cells)
theorem tokS_len {h : Heap} {v : Value} {ts : List Tok} (hv : TokS h v ts) : pLenS [v] = some (.int .i64 ts.length) := by
  have := SlV.len hv; simpa using this
theorem tokS_elem {h : Heap} {v : Value} {ts : List Tok} (hv : TokS h v ts) {i : Nat} {t : Tok} (hi : ts[i]? = some t) :
    ∃ id off cells own, pIdxAddrS 4 [v, .int .i64 i] = some (.pointer (some ⟨id, off, none⟩)) ∧ h.get id = some (.blk cells own) ∧ partL true off 4 cells = some t.val ∧ cells[off]? = some (.int .i64 t.kind) ∧ cells[off + 1]? = some (str t.text) ∧ cells[off + 2]? = some (.int .i64 t.n) ∧ cells[off + 3]? = some (.int .i64 t.line) := by
  obtain ⟨id, off, cells, own, h1, h2, h3, h4⟩ := SlV.elem hv (i := i) (x := t.cells) (by simp [hi])
  exact ⟨id, off, cells, own, h1, h2, h3, by have := h4 0 (by omega); rwa [Nat.add_zero] at this, h4 1 (by omega), h4 2 (by omega), h4 3 (by omega)⟩

theorem same_c {va vb : Value} {ta tb : List Tok} {h : Heap} (ha : TokS h va ta) (hb : TokS h vb tb) (oka : ∀ t ∈ ta, t.ok) (okb : ∀ t ∈ tb, t.ok) (hl : ta.length ≤ 1000000) (hl' : tb.length ≤ 1000000) (Q : Value → Heap → Prop) (hq : ∀ b : Bool, (b = true ↔ ta = tb) → Q (.bool b) h) : CallW Tryd.prog 20 [va, vb] h Q := by
  refine call_of1 (k := 2) ok20 rfl rfl rfl fun N => ?_
  rw [show env0 c20 [va, vb] = [va, vb, undef, undef] from rfl]
  delta c20 c20_r0 c20_r1 c20_r2 c20_r3 c20_r4 c20_r5 c20_r6 c20_r7 c20_r9
  replace hq := Hid.mk hq
  have la := tokS_len ha
  have lb := tokS_len hb
  by_cases hne : ta.length = tb.length
  case neg =>
    have g := hq.h false (by simp; intro e; exact hne (by rw [e]))
    have hne' : ((ta.length : Int) != (tb.length : Int)) = true := by simp; omega
    replace g := Hid.mk g
    replace ha := Hid.mk ha
    replace hb := Hid.mk hb
    repeat' (first | simp -implicitDefEqProofs only [W_skip, W_reg, W_seq, W_rcond, W_cond, W_block, W_loop, W_exit, W_ret, thenQ_normal, thenQ_exit, thenQ_ret, blockQ_normal, blockQ_ret, blockQ_here, regQ_app, rcQ_app, cndK_t, cndK_f, RegW_nil, RegW_none, RegW_some, contW_app, grdK_tt, grdK_ff, grdK_tf, grdK_ft, grdK_undef, actK_p, actK_r, actK_a, actK_w, actK_call, actK_callV, heapK_app, allocK_app, writeK_app, ret1_ret, ret1_normal, ret0_ret, ret0_normal, ret2_ret2, thenK_app, retcv_ret, retcvK_app, optW_some, evs, Arg.ev, aP, aR, aA, aW, pMov, pBin, pUn, pConv, pPick, pFieldAddr, pNilCheck, pExtract, aBin, aUn, aInt, aNew, partL_f, upd, List.getElem?_cons_zero, List.getElem?_cons_succ, List.getD_cons_zero, List.getD_cons_succ, List.set_cons_zero, List.set_cons_succ, Nat.zero_add, Nat.add_zero, List.getElem?_toArray, List.take_zero, List.drop_zero, List.take_succ_cons, List.drop_succ_cons, if_true, if_false, decide_true, decide_false, Bool.false_eq_true, Bool.true_eq_false, Bool.not_true, Bool.not_false, not_true_eq_false, not_false_eq_true, ge_iff_le, gt_iff_lt, beq_self_eq_true, bne_self_eq_false, and_self, and_true, true_and, Option.isSome_some, Heap.get_alloc_same, Heap.alloc_getE, *] | with_reducible refine cndK_d (fun hc => ?_) (fun hc => ?_) | with_reducible refine grdK_d (fun hc => ?_) (fun hc => ?_) | with_reducible refine cndK_i (fun hc => ?_) (fun hc => ?_) | with_reducible refine grdK_i (fun hc => ?_) (fun hc => ?_))
    exact g.h
  case pos =>
  have hne' : ((ta.length : Int) != (tb.length : Int)) = false := by simp; omega
  replace hne := Hid.mk hne
  replace ha := Hid.mk ha
  replace hb := Hid.mk hb
  replace oka := Hid.mk oka
  replace okb := Hid.mk okb
  repeat' (first | simp -implicitDefEqProofs only [W_skip, W_reg, W_seq, W_rcond, W_cond, W_block, W_loop, W_exit, W_ret, thenQ_normal, thenQ_exit, thenQ_ret, blockQ_normal, blockQ_ret, blockQ_here, regQ_app, rcQ_app, cndK_t, cndK_f, RegW_nil, RegW_none, RegW_some, contW_app, grdK_tt, grdK_ff, grdK_tf, grdK_ft, grdK_undef, actK_p, actK_r, actK_a, actK_w, actK_call, actK_callV, heapK_app, allocK_app, writeK_app, ret1_ret, ret1_normal, ret0_ret, ret0_normal, ret2_ret2, thenK_app, retcv_ret, retcvK_app, optW_some, evs, Arg.ev, aP, aR, aA, aW, pMov, pBin, pUn, pConv, pPick, pFieldAddr, pNilCheck, pExtract, aBin, aUn, aInt, aNew, partL_f, upd, List.getElem?_cons_zero, List.getElem?_cons_succ, List.getD_cons_zero, List.getD_cons_succ, List.set_cons_zero, List.set_cons_succ, Nat.zero_add, Nat.add_zero, List.getElem?_toArray, List.take_zero, List.drop_zero, List.take_succ_cons, List.drop_succ_cons, if_true, if_false, decide_true, decide_false, Bool.false_eq_true, Bool.true_eq_false, Bool.not_true, Bool.not_false, not_true_eq_false, not_false_eq_true, ge_iff_le, gt_iff_lt, beq_self_eq_true, bne_self_eq_false, and_self, and_true, true_and, Option.isSome_some, Heap.get_alloc_same, Heap.alloc_getE, *] | with_reducible refine cndK_d (fun hc => ?_) (fun hc => ?_) | with_reducible refine grdK_d (fun hc => ?_) (fun hc => ?_) | with_reducible refine cndK_i (fun hc => ?_) (fun hc => ?_) | with_reducible refine grdK_i (fun hc => ?_) (fun hc => ?_))
  refine LoopW.upto ta.length (fun i e h1 => h1 = h ∧ ta.take i = tb.take i ∧ e = [va, vb, .bool false, .int .i64 i]) ?_ (Nat.zero_le _) ⟨rfl, by simp, rfl⟩
  rintro i _ _ R hi ⟨rfl, hpre, rfl⟩ hR
  replace hpre := Hid.mk hpre
  delta c20_l8 c20_r0 c20_r1 c20_r2 c20_r3 c20_r4 c20_r5 c20_r6 c20_r7 c20_r9
  by_cases hlt : i < ta.length
  case neg =>
    have hlt' : ¬ (i : Int) < ta.length := by omega
    have g := hq.h true (by
      simp
      have h1 := hpre.h
      have h2 := hne.h
      rwa [List.take_of_length_le (by omega), List.take_of_length_le (by omega)] at h1)
    replace g := Hid.mk g
    repeat' (first | simp -implicitDefEqProofs only [W_skip, W_reg, W_seq, W_rcond, W_cond, W_block, W_loop, W_exit, W_ret, thenQ_normal, thenQ_exit, thenQ_ret, blockQ_normal, blockQ_ret, blockQ_here, regQ_app, rcQ_app, cndK_t, cndK_f, RegW_nil, RegW_none, RegW_some, contW_app, grdK_tt, grdK_ff, grdK_tf, grdK_ft, grdK_undef, actK_p, actK_r, actK_a, actK_w, actK_call, actK_callV, heapK_app, allocK_app, writeK_app, ret1_ret, ret1_normal, ret0_ret, ret0_normal, ret2_ret2, thenK_app, retcv_ret, retcvK_app, optW_some, evs, Arg.ev, aP, aR, aA, aW, pMov, pBin, pUn, pConv, pPick, pFieldAddr, pNilCheck, pExtract, aBin, aUn, aInt, aNew, partL_f, upd, List.getElem?_cons_zero, List.getElem?_cons_succ, List.getD_cons_zero, List.getD_cons_succ, List.set_cons_zero, List.set_cons_succ, Nat.zero_add, Nat.add_zero, List.getElem?_toArray, List.take_zero, List.drop_zero, List.take_succ_cons, List.drop_succ_cons, if_true, if_false, decide_true, decide_false, Bool.false_eq_true, Bool.true_eq_false, Bool.not_true, Bool.not_false, not_true_eq_false, not_false_eq_true, ge_iff_le, gt_iff_lt, beq_self_eq_true, bne_self_eq_false, and_self, and_true, true_and, Option.isSome_some, Heap.get_alloc_same, Heap.alloc_getE, *] | with_reducible refine cndK_d (fun hc => ?_) (fun hc => ?_) | with_reducible refine grdK_d (fun hc => ?_) (fun hc => ?_) | with_reducible refine cndK_i (fun hc => ?_) (fun hc => ?_) | with_reducible refine grdK_i (fun hc => ?_) (fun hc => ?_))
    exact g.h
  case pos =>
    have hlt' : (i : Int) < ta.length := by omega
    have hwj : IntKind.i64.wrap ((i : Int) + 1) = ((i + 1 : Nat) : Int) := by rw [wrapI (by omega) (by omega)]; rfl
    obtain ⟨a, ga⟩ : ∃ t, ta[i]? = some t := ⟨_, List.getElem?_eq_getElem hlt⟩
    obtain ⟨b, gb⟩ : ∃ t, tb[i]? = some t := ⟨_, List.getElem?_eq_getElem (by have := hne.h; omega)⟩
    obtain ⟨id, off, cells, own, a1, a2, a3, _⟩ := tokS_elem ha.h ga
    obtain ⟨id', off', cells', own', b1, b2, b3, _⟩ := tokS_elem hb.h gb
    have ek := eqK41 (oka.h a (List.mem_of_getElem? ga)) (okb.h b (List.mem_of_getElem? gb)) true
    cases hab : a.beq b with
    | true =>
      have hnx : ta.take (i + 1) = tb.take (i + 1) := by
        rw [List.take_add_one, List.take_add_one, ga, gb, hpre.h, (Tok.beq_iff a b).1 hab]
      rw [hab] at ek
      replace hnx := Hid.mk hnx
      clear ga gb hab
      repeat' (first | simp -implicitDefEqProofs only [W_skip, W_reg, W_seq, W_rcond, W_cond, W_block, W_loop, W_exit, W_ret, thenQ_normal, thenQ_exit, thenQ_ret, blockQ_normal, blockQ_ret, blockQ_here, regQ_app, rcQ_app, cndK_t, cndK_f, RegW_nil, RegW_none, RegW_some, contW_app, grdK_tt, grdK_ff, grdK_tf, grdK_ft, grdK_undef, actK_p, actK_r, actK_a, actK_w, actK_call, actK_callV, heapK_app, allocK_app, writeK_app, ret1_ret, ret1_normal, ret0_ret, ret0_normal, ret2_ret2, thenK_app, retcv_ret, retcvK_app, optW_some, evs, Arg.ev, aP, aR, aA, aW, pMov, pBin, pUn, pConv, pPick, pFieldAddr, pNilCheck, pExtract, aBin, aUn, aInt, aNew, partL_f, upd, List.getElem?_cons_zero, List.getElem?_cons_succ, List.getD_cons_zero, List.getD_cons_succ, List.set_cons_zero, List.set_cons_succ, Nat.zero_add, Nat.add_zero, List.getElem?_toArray, List.take_zero, List.drop_zero, List.take_succ_cons, List.drop_succ_cons, if_true, if_false, decide_true, decide_false, Bool.false_eq_true, Bool.true_eq_false, Bool.not_true, Bool.not_false, not_true_eq_false, not_false_eq_true, ge_iff_le, gt_iff_lt, beq_self_eq_true, bne_self_eq_false, and_self, and_true, true_and, Option.isSome_some, Heap.get_alloc_same, Heap.alloc_getE, *] | with_reducible refine cndK_d (fun hc => ?_) (fun hc => ?_) | with_reducible refine grdK_d (fun hc => ?_) (fun hc => ?_) | with_reducible refine cndK_i (fun hc => ?_) (fun hc => ?_) | with_reducible refine grdK_i (fun hc => ?_) (fun hc => ?_))
      exact hR.h _ _ hlt ⟨rfl, hnx.h, rfl⟩
    | false =>
      have g := hq.h false (by
        simp
        rintro rfl
        rw [ga] at gb
        cases gb
        have := (Tok.beq_iff a a).2 rfl
        rw [hab] at this; cases this)
      rw [hab] at ek
      replace g := Hid.mk g
      clear ga gb hab
      repeat' (first | simp -implicitDefEqProofs only [W_skip, W_reg, W_seq, W_rcond, W_cond, W_block, W_loop, W_exit, W_ret, thenQ_normal, thenQ_exit, thenQ_ret, blockQ_normal, blockQ_ret, blockQ_here, regQ_app, rcQ_app, cndK_t, cndK_f, RegW_nil, RegW_none, RegW_some, contW_app, grdK_tt, grdK_ff, grdK_tf, grdK_ft, grdK_undef, actK_p, actK_r, actK_a, actK_w, actK_call, actK_callV, heapK_app, allocK_app, writeK_app, ret1_ret, ret1_normal, ret0_ret, ret0_normal, ret2_ret2, thenK_app, retcv_ret, retcvK_app, optW_some, evs, Arg.ev, aP, aR, aA, aW, pMov, pBin, pUn, pConv, pPick, pFieldAddr, pNilCheck, pExtract, aBin, aUn, aInt, aNew, partL_f, upd, List.getElem?_cons_zero, List.getElem?_cons_succ, List.getD_cons_zero, List.getD_cons_succ, List.set_cons_zero, List.set_cons_succ, Nat.zero_add, Nat.add_zero, List.getElem?_toArray, List.take_zero, List.drop_zero, List.take_succ_cons, List.drop_succ_cons, if_true, if_false, decide_true, decide_false, Bool.false_eq_true, Bool.true_eq_false, Bool.not_true, Bool.not_false, not_true_eq_false, not_false_eq_true, ge_iff_le, gt_iff_lt, beq_self_eq_true, bne_self_eq_false, and_self, and_true, true_and, Option.isSome_some, Heap.get_alloc_same, Heap.alloc_getE, *] | with_reducible refine cndK_d (fun hc => ?_) (fun hc => ?_) | with_reducible refine grdK_d (fun hc => ?_) (fun hc => ?_) | with_reducible refine cndK_i (fun hc => ?_) (fun hc => ?_) | with_reducible refine grdK_i (fun hc => ?_) (fun hc => ?_))
      exact g.h
end Go.Eng.Tk

set_option linter.unusedSimpArgs false
set_option linter.unusedVariables false
namespace Go.Eng.Tk
open Go Go.Eng Go.Proofs

/-- v is a slice of ints -/
abbrev Ints (h : Heap) (v : Value) (l : List Int) : Prop := SlV h 1 v (l.map fun z => [.int .i64 z])
theorem Ints.len {h : Heap} {v : Value} {l : List Int} (hv : Ints h v l) : pLenS [v] = some (.int .i64 l.length) := by have := SlV.len hv; simpa using this
theorem Ints.elem {h : Heap} {v : Value} {l : List Int} (hv : Ints h v l) {i : Nat} {z : Int} (hi : l[i]? = some z) :
    ∃ id off cells own, pIdxAddrS 1 [v, .int .i64 i] = some (.pointer (some ⟨id, off, none⟩)) ∧ h.get id = some (.blk cells own) ∧ cells[off]? = some (.int .i64 z) := by
  obtain ⟨id, off, cells, own, h1, h2, h3, h4⟩ := SlV.elem hv (i := i) (x := [.int .i64 z]) (by simp [hi])
  exact ⟨id, off, cells, own, h1, h2, by have := h4 0 (by omega); rwa [Nat.add_zero] at this⟩

theorem hexc (l : List UInt8) : l = hexD → Value.string ⟨#[48, 49, 50, 51, 52, 53, 54, 55, 56, 57, 97, 98, 99, 100, 101, 102]⟩ = str l := by rintro rfl; rfl
theorem hex_c (n : Nat) : ∀ (hn : n ≤ 9223372036854775807) (h : Heap) (Q : Value → Heap → Prop), Q (str (hexL n)) h → CallW Tryd.prog 25 [.int .i64 n] h Q := by
  induction n using Nat.strongRecOn with
  | _ n ih =>
  intro hn h Q hq
  have h1 : (n : Int).tmod 16 = ((n % 16 : Nat) : Int) := by
    rw [Int.tmod_eq_emod_of_nonneg (by omega)]; omega
  have hw : IntKind.i64.wrap (((n % 16 : Nat) : Int) + 1) = ((n % 16 + 1 : Nat) : Int) := by rw [wrapI (by omega) (by omega)]; rfl
  have ct : pSliceStr true true [.string ⟨#[48, 49, 50, 51, 52, 53, 54, 55, 56, 57, 97, 98, 99, 100, 101, 102]⟩, .int .i64 ((n % 16 : Nat) : Int), .int .i64 ((n % 16 + 1 : Nat) : Int)] = some (str ((hexD.take (n % 16 + 1)).drop (n % 16))) := by
    rw [hexc hexD rfl]
    exact cut_S (l := hexD) (by omega) (by simp [hexD]; omega)
  have hun : hexL n = if 16 ≤ n then hexL (n / 16) ++ (hexD.take (n % 16 + 1)).drop (n % 16) else (hexD.take (n % 16 + 1)).drop (n % 16) := by rw [hexL]
  have hdl : ((hexD.take (n % 16 + 1)).drop (n % 16)).length ≤ 16 := by simp [hexD]; omega
  obtain ⟨d, hd⟩ : ∃ d, (hexD.take (n % 16 + 1)).drop (n % 16) = d := ⟨_, rfl⟩
  rw [hd] at ct hun hdl
  clear hd
  refine call_of1 (k := 1) ok25 rfl rfl rfl fun N => ?_
  rw [show env0 c25 [.int .i64 n] = [.int .i64 n, undef, undef] from rfl]
  delta c25 c25_r0 c25_r1 c25_r2 c25_r3 c25_r4
  replace hq := Hid.mk hq
  have h160 : ¬ (16 : Int) = 0 := by decide
  by_cases h10 : 16 ≤ n
  · have h10' : (16 : Int) ≤ (n : Int) := by omega
    rw [if_pos h10] at hun
    have hdv : IntKind.i64.wrap ((n : Int).tdiv 16) = ((n / 16 : Nat) : Int) := by
      rw [Int.tdiv_eq_ediv_of_nonneg (by omega), wrapI (by omega) (by omega)]; omega
    replace ih := Hid.mk ih
    replace hun := Hid.mk hun
    repeat' (first | simp -implicitDefEqProofs only [W_skip, W_reg, W_seq, W_rcond, W_cond, W_block, W_loop, W_exit, W_ret, thenQ_normal, thenQ_exit, thenQ_ret, blockQ_normal, blockQ_ret, blockQ_here, regQ_app, rcQ_app, cndK_t, cndK_f, RegW_nil, RegW_none, RegW_some, contW_app, grdK_tt, grdK_ff, grdK_tf, grdK_ft, grdK_undef, actK_p, actK_r, actK_a, actK_w, actK_call, actK_callV, heapK_app, allocK_app, writeK_app, ret1_ret, ret1_normal, ret0_ret, ret0_normal, ret2_ret2, thenK_app, retcv_ret, retcvK_app, optW_some, evs, Arg.ev, aP, aR, aA, aW, pMov, pBin, pUn, pConv, pPick, pFieldAddr, pNilCheck, pExtract, aBin, aUn, aInt, aNew, partL_f, upd, List.getElem?_cons_zero, List.getElem?_cons_succ, List.getD_cons_zero, List.getD_cons_succ, List.set_cons_zero, List.set_cons_succ, Nat.zero_add, Nat.add_zero, List.getElem?_toArray, List.take_zero, List.drop_zero, List.take_succ_cons, List.drop_succ_cons, if_true, if_false, decide_true, decide_false, Bool.false_eq_true, Bool.true_eq_false, Bool.not_true, Bool.not_false, not_true_eq_false, not_false_eq_true, ge_iff_le, gt_iff_lt, beq_self_eq_true, bne_self_eq_false, and_self, and_true, true_and, Option.isSome_some, Heap.get_alloc_same, Heap.alloc_getE, *] | with_reducible refine cndK_d (fun hc => ?_) (fun hc => ?_) | with_reducible refine grdK_d (fun hc => ?_) (fun hc => ?_) | with_reducible refine cndK_i (fun hc => ?_) (fun hc => ?_) | with_reducible refine grdK_i (fun hc => ?_) (fun hc => ?_))
    refine ih.h (n / 16) (by omega) (by omega) h _ ?_
    have hlen := hexL_len 15 (n / 16) (by omega)
    have ct := cat_S (a := hexL (n / 16)) (b := d) (by omega)
    have g := hq.h
    rw [hun.h] at g
    replace g := Hid.mk g
    repeat' (first | simp -implicitDefEqProofs only [W_skip, W_reg, W_seq, W_rcond, W_cond, W_block, W_loop, W_exit, W_ret, thenQ_normal, thenQ_exit, thenQ_ret, blockQ_normal, blockQ_ret, blockQ_here, regQ_app, rcQ_app, cndK_t, cndK_f, RegW_nil, RegW_none, RegW_some, contW_app, grdK_tt, grdK_ff, grdK_tf, grdK_ft, grdK_undef, actK_p, actK_r, actK_a, actK_w, actK_call, actK_callV, heapK_app, allocK_app, writeK_app, ret1_ret, ret1_normal, ret0_ret, ret0_normal, ret2_ret2, thenK_app, retcv_ret, retcvK_app, optW_some, evs, Arg.ev, aP, aR, aA, aW, pMov, pBin, pUn, pConv, pPick, pFieldAddr, pNilCheck, pExtract, aBin, aUn, aInt, aNew, partL_f, upd, List.getElem?_cons_zero, List.getElem?_cons_succ, List.getD_cons_zero, List.getD_cons_succ, List.set_cons_zero, List.set_cons_succ, Nat.zero_add, Nat.add_zero, List.getElem?_toArray, List.take_zero, List.drop_zero, List.take_succ_cons, List.drop_succ_cons, if_true, if_false, decide_true, decide_false, Bool.false_eq_true, Bool.true_eq_false, Bool.not_true, Bool.not_false, not_true_eq_false, not_false_eq_true, ge_iff_le, gt_iff_lt, beq_self_eq_true, bne_self_eq_false, and_self, and_true, true_and, Option.isSome_some, Heap.get_alloc_same, Heap.alloc_getE, *] | with_reducible refine cndK_d (fun hc => ?_) (fun hc => ?_) | with_reducible refine grdK_d (fun hc => ?_) (fun hc => ?_) | with_reducible refine cndK_i (fun hc => ?_) (fun hc => ?_) | with_reducible refine grdK_i (fun hc => ?_) (fun hc => ?_))
    exact g.h
  · have h10' : ¬ (16 : Int) ≤ (n : Int) := by omega
    rw [if_neg h10] at hun
    rw [hun] at hq
    clear hun ih
    repeat' (first | simp -implicitDefEqProofs only [W_skip, W_reg, W_seq, W_rcond, W_cond, W_block, W_loop, W_exit, W_ret, thenQ_normal, thenQ_exit, thenQ_ret, blockQ_normal, blockQ_ret, blockQ_here, regQ_app, rcQ_app, cndK_t, cndK_f, RegW_nil, RegW_none, RegW_some, contW_app, grdK_tt, grdK_ff, grdK_tf, grdK_ft, grdK_undef, actK_p, actK_r, actK_a, actK_w, actK_call, actK_callV, heapK_app, allocK_app, writeK_app, ret1_ret, ret1_normal, ret0_ret, ret0_normal, ret2_ret2, thenK_app, retcv_ret, retcvK_app, optW_some, evs, Arg.ev, aP, aR, aA, aW, pMov, pBin, pUn, pConv, pPick, pFieldAddr, pNilCheck, pExtract, aBin, aUn, aInt, aNew, partL_f, upd, List.getElem?_cons_zero, List.getElem?_cons_succ, List.getD_cons_zero, List.getD_cons_succ, List.set_cons_zero, List.set_cons_succ, Nat.zero_add, Nat.add_zero, List.getElem?_toArray, List.take_zero, List.drop_zero, List.take_succ_cons, List.drop_succ_cons, if_true, if_false, decide_true, decide_false, Bool.false_eq_true, Bool.true_eq_false, Bool.not_true, Bool.not_false, not_true_eq_false, not_false_eq_true, ge_iff_le, gt_iff_lt, beq_self_eq_true, bne_self_eq_false, and_self, and_true, true_and, Option.isSome_some, Heap.get_alloc_same, Heap.alloc_getE, *] | with_reducible refine cndK_d (fun hc => ?_) (fun hc => ?_) | with_reducible refine grdK_d (fun hc => ?_) (fun hc => ?_) | with_reducible refine cndK_i (fun hc => ?_) (fun hc => ?_) | with_reducible refine grdK_i (fun hc => ?_) (fun hc => ?_))
    exact hq.h
/-- .. of a raw number, a name -/
def varK (k : Nat) : List UInt8 := if 10 ≤ k then namesL.getD (k % 10) [] ++ decL k else namesL.getD (k % 10) []
def varL (n : Int) : List UInt8 := varK (pickN n 300)
theorem names_len : ∀ j : Fin 10, (namesL.getD j.val []).length ≤ 10 := by decide
theorem getD_some {α : Type} {l : List α} {i : Nat} (h : i < l.length) (d : α) : l[i]? = some (l.getD i d) := by
  simp [List.getElem?_eq_getElem h]
theorem var_c {n : Int} (hn : inI n) (h : Heap) (Q : Value → Heap → Prop) (hq : ∀ h', h.le h' → Q (str (varL n)) h') : CallW Tryd.prog 26 [.int .i64 n] h Q := by
  obtain ⟨hlt, hpk⟩ := pickN_lt hn (n := 300) (by omega)
  have hvl : varL n = varK (pickN n 300) := rfl
  rw [hvl] at hq
  clear hvl
  obtain ⟨k, hk⟩ : ∃ k, pickN n 300 = k := ⟨_, rfl⟩
  rw [hk] at hlt hpk hq
  have hk10 : (k : Int).tmod 10 = ((k % 10 : Nat) : Int) := by
    rw [Int.tmod_eq_emod_of_nonneg (by omega)]; omega
  refine call_of1 (k := 1) ok26 rfl rfl rfl fun N => ?_
  rw [show env0 c26 [.int .i64 n] = [.int .i64 n, undef, undef, undef] from rfl]
  delta c26 c26_r0 c26_r1 c26_r2 c26_r3 c26_r4 c26_r5
  replace hq := Hid.mk hq
  repeat' (first | simp -implicitDefEqProofs only [W_skip, W_reg, W_seq, W_rcond, W_cond, W_block, W_loop, W_exit, W_ret, thenQ_normal, thenQ_exit, thenQ_ret, blockQ_normal, blockQ_ret, blockQ_here, regQ_app, rcQ_app, cndK_t, cndK_f, RegW_nil, RegW_none, RegW_some, contW_app, grdK_tt, grdK_ff, grdK_tf, grdK_ft, grdK_undef, actK_p, actK_r, actK_a, actK_w, actK_call, actK_callV, heapK_app, allocK_app, writeK_app, ret1_ret, ret1_normal, ret0_ret, ret0_normal, ret2_ret2, thenK_app, retcv_ret, retcvK_app, optW_some, evs, Arg.ev, aP, aR, aA, aW, pMov, pBin, pUn, pConv, pPick, pFieldAddr, pNilCheck, pExtract, aBin, aUn, aInt, aNew, partL_f, upd, List.getElem?_cons_zero, List.getElem?_cons_succ, List.getD_cons_zero, List.getD_cons_succ, List.set_cons_zero, List.set_cons_succ, Nat.zero_add, Nat.add_zero, List.getElem?_toArray, List.take_zero, List.drop_zero, List.take_succ_cons, List.drop_succ_cons, if_true, if_false, decide_true, decide_false, Bool.false_eq_true, Bool.true_eq_false, Bool.not_true, Bool.not_false, not_true_eq_false, not_false_eq_true, ge_iff_le, gt_iff_lt, beq_self_eq_true, bne_self_eq_false, and_self, and_true, true_and, Option.isSome_some, Heap.get_alloc_same, Heap.alloc_getE, *] | with_reducible refine cndK_d (fun hc => ?_) (fun hc => ?_) | with_reducible refine grdK_d (fun hc => ?_) (fun hc => ?_) | with_reducible refine cndK_i (fun hc => ?_) (fun hc => ?_) | with_reducible refine grdK_i (fun hc => ?_) (fun hc => ?_))
  refine pick_c _ 300 (by decide) h _ ?_
  have hpk' : pick n 300 = (k : Int) := hpk.symm
  rw [hpk']
  clear hpk hpk' hk
  have sv := strs_new h namesL (n := 10) (cells := namesV) rfl rfl
  obtain ⟨q, hqq⟩ : ∃ x, h.next = x := ⟨_, rfl⟩
  obtain ⟨h1, hh1⟩ : ∃ x, h.alloc (.blk namesV true) = x := ⟨_, rfl⟩
  have l1 : h.le h1 := by rw [← hh1]; exact (Heap.le.refl _).alloc _
  rw [hqq, hh1] at sv
  have hj : k % 10 < 10 := Nat.mod_lt _ (by omega)
  have gx := getD_some (l := namesL) (i := k % 10) hj []
  have nl := names_len ⟨k % 10, hj⟩
  obtain ⟨id, off, cells, own, e1, e2, e3, _⟩ := sv.elem gx
  have hun : varK k = if 10 ≤ k then namesL.getD (k % 10) [] ++ decL k else namesL.getD (k % 10) [] := rfl
  simp only at nl
  obtain ⟨x, hx⟩ : ∃ x, namesL.getD (k % 10) [] = x := ⟨_, rfl⟩
  rw [hx] at hun nl e3
  clear gx sv hx
  replace hun := Hid.mk hun
  have h100 : ¬ (10 : Int) = 0 := by decide
  have hh1' : h.alloc (.blk [.string ⟨#[120]⟩, .string ⟨#[121]⟩, .string ⟨#[110]⟩, .string ⟨#[95, 97]⟩, .string ⟨#[66, 50]⟩, .string ⟨#[105, 102, 115]⟩, .string ⟨#[104, 97, 114, 116]⟩, .string ⟨#[108, 111, 99, 107, 49]⟩, .string ⟨#[88, 95, 121, 95, 90]⟩, .string ⟨#[72, 97, 108, 116]⟩] true) = h1 := hh1
  clear hh1
  by_cases h10 : 10 ≤ k
  · have h10' : (10 : Int) ≤ (k : Int) := by omega
    have hlen := decL_len 18 k (by omega)
    have ct := cat_S (a := x) (b := decL k) (by omega)
    repeat' (first | simp -implicitDefEqProofs only [W_skip, W_reg, W_seq, W_rcond, W_cond, W_block, W_loop, W_exit, W_ret, thenQ_normal, thenQ_exit, thenQ_ret, blockQ_normal, blockQ_ret, blockQ_here, regQ_app, rcQ_app, cndK_t, cndK_f, RegW_nil, RegW_none, RegW_some, contW_app, grdK_tt, grdK_ff, grdK_tf, grdK_ft, grdK_undef, actK_p, actK_r, actK_a, actK_w, actK_call, actK_callV, heapK_app, allocK_app, writeK_app, ret1_ret, ret1_normal, ret0_ret, ret0_normal, ret2_ret2, thenK_app, retcv_ret, retcvK_app, optW_some, evs, Arg.ev, aP, aR, aA, aW, pMov, pBin, pUn, pConv, pPick, pFieldAddr, pNilCheck, pExtract, aBin, aUn, aInt, aNew, partL_f, upd, List.getElem?_cons_zero, List.getElem?_cons_succ, List.getD_cons_zero, List.getD_cons_succ, List.set_cons_zero, List.set_cons_succ, Nat.zero_add, Nat.add_zero, List.getElem?_toArray, List.take_zero, List.drop_zero, List.take_succ_cons, List.drop_succ_cons, if_true, if_false, decide_true, decide_false, Bool.false_eq_true, Bool.true_eq_false, Bool.not_true, Bool.not_false, not_true_eq_false, not_false_eq_true, ge_iff_le, gt_iff_lt, beq_self_eq_true, bne_self_eq_false, and_self, and_true, true_and, Option.isSome_some, Heap.get_alloc_same, Heap.alloc_getE, bslice_names, *] | with_reducible refine cndK_d (fun hc => ?_) (fun hc => ?_) | with_reducible refine grdK_d (fun hc => ?_) (fun hc => ?_) | with_reducible refine cndK_i (fun hc => ?_) (fun hc => ?_) | with_reducible refine grdK_i (fun hc => ?_) (fun hc => ?_))
    refine decimal_c k (by omega) h1 _ fun h2 l2 => ?_
    have g := hq.h h2 (l1.trans l2)
    rw [hun.h, if_pos h10] at g
    replace g := Hid.mk g
    clear l2
    repeat' (first | simp -implicitDefEqProofs only [W_skip, W_reg, W_seq, W_rcond, W_cond, W_block, W_loop, W_exit, W_ret, thenQ_normal, thenQ_exit, thenQ_ret, blockQ_normal, blockQ_ret, blockQ_here, regQ_app, rcQ_app, cndK_t, cndK_f, RegW_nil, RegW_none, RegW_some, contW_app, grdK_tt, grdK_ff, grdK_tf, grdK_ft, grdK_undef, actK_p, actK_r, actK_a, actK_w, actK_call, actK_callV, heapK_app, allocK_app, writeK_app, ret1_ret, ret1_normal, ret0_ret, ret0_normal, ret2_ret2, thenK_app, retcv_ret, retcvK_app, optW_some, evs, Arg.ev, aP, aR, aA, aW, pMov, pBin, pUn, pConv, pPick, pFieldAddr, pNilCheck, pExtract, aBin, aUn, aInt, aNew, partL_f, upd, List.getElem?_cons_zero, List.getElem?_cons_succ, List.getD_cons_zero, List.getD_cons_succ, List.set_cons_zero, List.set_cons_succ, Nat.zero_add, Nat.add_zero, List.getElem?_toArray, List.take_zero, List.drop_zero, List.take_succ_cons, List.drop_succ_cons, if_true, if_false, decide_true, decide_false, Bool.false_eq_true, Bool.true_eq_false, Bool.not_true, Bool.not_false, not_true_eq_false, not_false_eq_true, ge_iff_le, gt_iff_lt, beq_self_eq_true, bne_self_eq_false, and_self, and_true, true_and, Option.isSome_some, Heap.get_alloc_same, Heap.alloc_getE, *] | with_reducible refine cndK_d (fun hc => ?_) (fun hc => ?_) | with_reducible refine grdK_d (fun hc => ?_) (fun hc => ?_) | with_reducible refine cndK_i (fun hc => ?_) (fun hc => ?_) | with_reducible refine grdK_i (fun hc => ?_) (fun hc => ?_))
    exact g.h
  · have h10' : ¬ (10 : Int) ≤ (k : Int) := by omega
    have g := hq.h h1 l1
    rw [hun.h, if_neg h10] at g
    replace g := Hid.mk g
    clear l1
    repeat' (first | simp -implicitDefEqProofs only [W_skip, W_reg, W_seq, W_rcond, W_cond, W_block, W_loop, W_exit, W_ret, thenQ_normal, thenQ_exit, thenQ_ret, blockQ_normal, blockQ_ret, blockQ_here, regQ_app, rcQ_app, cndK_t, cndK_f, RegW_nil, RegW_none, RegW_some, contW_app, grdK_tt, grdK_ff, grdK_tf, grdK_ft, grdK_undef, actK_p, actK_r, actK_a, actK_w, actK_call, actK_callV, heapK_app, allocK_app, writeK_app, ret1_ret, ret1_normal, ret0_ret, ret0_normal, ret2_ret2, thenK_app, retcv_ret, retcvK_app, optW_some, evs, Arg.ev, aP, aR, aA, aW, pMov, pBin, pUn, pConv, pPick, pFieldAddr, pNilCheck, pExtract, aBin, aUn, aInt, aNew, partL_f, upd, List.getElem?_cons_zero, List.getElem?_cons_succ, List.getD_cons_zero, List.getD_cons_succ, List.set_cons_zero, List.set_cons_succ, Nat.zero_add, Nat.add_zero, List.getElem?_toArray, List.take_zero, List.drop_zero, List.take_succ_cons, List.drop_succ_cons, if_true, if_false, decide_true, decide_false, Bool.false_eq_true, Bool.true_eq_false, Bool.not_true, Bool.not_false, not_true_eq_false, not_false_eq_true, ge_iff_le, gt_iff_lt, beq_self_eq_true, bne_self_eq_false, and_self, and_true, true_and, Option.isSome_some, Heap.get_alloc_same, Heap.alloc_getE, bslice_names, *] | with_reducible refine cndK_d (fun hc => ?_) (fun hc => ?_) | with_reducible refine grdK_d (fun hc => ?_) (fun hc => ?_) | with_reducible refine cndK_i (fun hc => ?_) (fun hc => ?_) | with_reducible refine grdK_i (fun hc => ?_) (fun hc => ?_))
    exact g.h

/-- what may stand between tokens -/
def blankL (l : List Int) (i : Nat) : List UInt8 := match l[i]? with
  | none => [32]
  | some z => blanksL.getD (pickN z 8) []
theorem blank_c {v : Value} {l : List Int} {h : Heap} (hv : Ints h v l) (hok : ∀ z ∈ l, inI z) (hl : (l.length : Int) ≤ 9223372036854775807) (i : Nat) (Q : Value → Heap → Prop) (hq : ∀ h', h.le h' → Q (str (blankL l i)) h') : CallW Tryd.prog 12 [v, .int .i64 i] h Q := by
  refine call_of1 (k := 2) ok12 rfl rfl rfl fun N => ?_
  rw [show env0 c12 [v, .int .i64 i] = [v, .int .i64 i, undef] from rfl]
  delta c12 c12_r0 c12_r1 c12_r2 c12_r3
  replace hq := Hid.mk hq
  have la := Ints.len hv
  by_cases hi : l.length ≤ i
  · have hi' : (l.length : Int) ≤ (i : Int) := by omega
    have g := hq.h h (Heap.le.refl h)
    rw [show blankL l i = [32] by unfold blankL; rw [List.getElem?_eq_none hi]] at g
    replace g := Hid.mk g
    repeat' (first | simp -implicitDefEqProofs only [W_skip, W_reg, W_seq, W_rcond, W_cond, W_block, W_loop, W_exit, W_ret, thenQ_normal, thenQ_exit, thenQ_ret, blockQ_normal, blockQ_ret, blockQ_here, regQ_app, rcQ_app, cndK_t, cndK_f, RegW_nil, RegW_none, RegW_some, contW_app, grdK_tt, grdK_ff, grdK_tf, grdK_ft, grdK_undef, actK_p, actK_r, actK_a, actK_w, actK_call, actK_callV, heapK_app, allocK_app, writeK_app, ret1_ret, ret1_normal, ret0_ret, ret0_normal, ret2_ret2, thenK_app, retcv_ret, retcvK_app, optW_some, evs, Arg.ev, aP, aR, aA, aW, pMov, pBin, pUn, pConv, pPick, pFieldAddr, pNilCheck, pExtract, aBin, aUn, aInt, aNew, partL_f, upd, List.getElem?_cons_zero, List.getElem?_cons_succ, List.getD_cons_zero, List.getD_cons_succ, List.set_cons_zero, List.set_cons_succ, Nat.zero_add, Nat.add_zero, List.getElem?_toArray, List.take_zero, List.drop_zero, List.take_succ_cons, List.drop_succ_cons, if_true, if_false, decide_true, decide_false, Bool.false_eq_true, Bool.true_eq_false, Bool.not_true, Bool.not_false, not_true_eq_false, not_false_eq_true, ge_iff_le, gt_iff_lt, beq_self_eq_true, bne_self_eq_false, and_self, and_true, true_and, Option.isSome_some, Heap.get_alloc_same, Heap.alloc_getE, *] | with_reducible refine cndK_d (fun hc => ?_) (fun hc => ?_) | with_reducible refine grdK_d (fun hc => ?_) (fun hc => ?_) | with_reducible refine cndK_i (fun hc => ?_) (fun hc => ?_) | with_reducible refine grdK_i (fun hc => ?_) (fun hc => ?_))
    exact g.h
  · have hi' : ¬ (l.length : Int) ≤ (i : Int) := by omega
    obtain ⟨z, hz⟩ : ∃ z, l[i]? = some z := ⟨_, List.getElem?_eq_getElem (by omega)⟩
    have hb : blankL l i = blanksL.getD (pickN z 8) [] := by unfold blankL; rw [hz]
    obtain ⟨hlt, hpk⟩ := pickN_lt (hok z (List.mem_of_getElem? hz)) (n := 8) (by omega)
    obtain ⟨k, hk⟩ : ∃ k, pickN z 8 = k := ⟨_, rfl⟩
    rw [hk] at hb hpk hlt
    have hpk' : pick z 8 = (k : Int) := hpk.symm
    have sv := strs_new h blanksL (n := 8) (cells := blanksV) rfl rfl
    obtain ⟨q, hqq⟩ : ∃ x, h.next = x := ⟨_, rfl⟩
    obtain ⟨h1, hh1⟩ : ∃ x, h.alloc (.blk blanksV true) = x := ⟨_, rfl⟩
    have l1 : h.le h1 := by rw [← hh1]; exact (Heap.le.refl _).alloc _
    rw [hqq, hh1] at sv
    obtain ⟨id, off, cells, own, a1, a2, a3⟩ := Ints.elem (hv.mono l1) hz
    obtain ⟨id', off', cells', own', b1, b2, b3, _⟩ := sv.elem (getD_some (l := blanksL) (i := k) hlt [])
    have g := hq.h h1 l1
    rw [hb] at g
    obtain ⟨x, hx⟩ : ∃ x, blanksL.getD k [] = x := ⟨_, rfl⟩
    rw [hx] at g b3
    replace g := Hid.mk g
    have hh1' : h.alloc (.blk [.string ⟨#[32]⟩, .string ⟨#[32, 32]⟩, .string ⟨#[9]⟩, .string ⟨#[32, 9, 32]⟩, .string ⟨#[10]⟩, .string ⟨#[32, 10, 10]⟩, .string ⟨#[32, 35, 32, 120, 32, 61, 32, 49, 59, 10]⟩, .string ⟨#[35, 10, 9]⟩] true) = h1 := hh1
    clear hh1 sv hx l1 hpk hk hb hz hq
    replace hv := Hid.mk hv
    replace hok := Hid.mk hok
    repeat' (first | simp -implicitDefEqProofs only [W_skip, W_reg, W_seq, W_rcond, W_cond, W_block, W_loop, W_exit, W_ret, thenQ_normal, thenQ_exit, thenQ_ret, blockQ_normal, blockQ_ret, blockQ_here, regQ_app, rcQ_app, cndK_t, cndK_f, RegW_nil, RegW_none, RegW_some, contW_app, grdK_tt, grdK_ff, grdK_tf, grdK_ft, grdK_undef, actK_p, actK_r, actK_a, actK_w, actK_call, actK_callV, heapK_app, allocK_app, writeK_app, ret1_ret, ret1_normal, ret0_ret, ret0_normal, ret2_ret2, thenK_app, retcv_ret, retcvK_app, optW_some, evs, Arg.ev, aP, aR, aA, aW, pMov, pBin, pUn, pConv, pPick, pFieldAddr, pNilCheck, pExtract, aBin, aUn, aInt, aNew, partL_f, upd, List.getElem?_cons_zero, List.getElem?_cons_succ, List.getD_cons_zero, List.getD_cons_succ, List.set_cons_zero, List.set_cons_succ, Nat.zero_add, Nat.add_zero, List.getElem?_toArray, List.take_zero, List.drop_zero, List.take_succ_cons, List.drop_succ_cons, if_true, if_false, decide_true, decide_false, Bool.false_eq_true, Bool.true_eq_false, Bool.not_true, Bool.not_false, not_true_eq_false, not_false_eq_true, ge_iff_le, gt_iff_lt, beq_self_eq_true, bne_self_eq_false, and_self, and_true, true_and, Option.isSome_some, Heap.get_alloc_same, Heap.alloc_getE, bslice_blanks, *] | with_reducible refine cndK_d (fun hc => ?_) (fun hc => ?_) | with_reducible refine grdK_d (fun hc => ?_) (fun hc => ?_) | with_reducible refine cndK_i (fun hc => ?_) (fun hc => ?_) | with_reducible refine grdK_i (fun hc => ?_) (fun hc => ?_))
    refine pick_c _ 8 (by decide) h1 _ ?_
    rw [hpk']
    repeat' (first | simp -implicitDefEqProofs only [W_skip, W_reg, W_seq, W_rcond, W_cond, W_block, W_loop, W_exit, W_ret, thenQ_normal, thenQ_exit, thenQ_ret, blockQ_normal, blockQ_ret, blockQ_here, regQ_app, rcQ_app, cndK_t, cndK_f, RegW_nil, RegW_none, RegW_some, contW_app, grdK_tt, grdK_ff, grdK_tf, grdK_ft, grdK_undef, actK_p, actK_r, actK_a, actK_w, actK_call, actK_callV, heapK_app, allocK_app, writeK_app, ret1_ret, ret1_normal, ret0_ret, ret0_normal, ret2_ret2, thenK_app, retcv_ret, retcvK_app, optW_some, evs, Arg.ev, aP, aR, aA, aW, pMov, pBin, pUn, pConv, pPick, pFieldAddr, pNilCheck, pExtract, aBin, aUn, aInt, aNew, partL_f, upd, List.getElem?_cons_zero, List.getElem?_cons_succ, List.getD_cons_zero, List.getD_cons_succ, List.set_cons_zero, List.set_cons_succ, Nat.zero_add, Nat.add_zero, List.getElem?_toArray, List.take_zero, List.drop_zero, List.take_succ_cons, List.drop_succ_cons, if_true, if_false, decide_true, decide_false, Bool.false_eq_true, Bool.true_eq_false, Bool.not_true, Bool.not_false, not_true_eq_false, not_false_eq_true, ge_iff_le, gt_iff_lt, beq_self_eq_true, bne_self_eq_false, and_self, and_true, true_and, Option.isSome_some, Heap.get_alloc_same, Heap.alloc_getE, *] | with_reducible refine cndK_d (fun hc => ?_) (fun hc => ?_) | with_reducible refine grdK_d (fun hc => ?_) (fun hc => ?_) | with_reducible refine cndK_i (fun hc => ?_) (fun hc => ?_) | with_reducible refine grdK_i (fun hc => ?_) (fun hc => ?_))
    exact g.h
/-- how many line feeds a text has -/
def feedsN (l : List UInt8) : Nat := l.count 10
theorem feeds_c {l : List UInt8} (hl : l.length ≤ 1000000000) (h : Heap) (Q : Value → Heap → Prop) (hq : Q (.int .i64 (feedsN l)) h) : CallW Tryd.prog 23 [str l] h Q := by
  refine call_of1 (k := 1) ok23 rfl rfl rfl fun N => ?_
  rw [show env0 c23 [str l] = [str l, undef, undef, undef] from rfl]
  delta c23 c23_r0 c23_r1 c23_r2 c23_r3 c23_r4 c23_r5 c23_r6 c23_r8
  replace hq := Hid.mk hq
  repeat' (first | simp -implicitDefEqProofs only [W_skip, W_reg, W_seq, W_rcond, W_cond, W_block, W_loop, W_exit, W_ret, thenQ_normal, thenQ_exit, thenQ_ret, blockQ_normal, blockQ_ret, blockQ_here, regQ_app, rcQ_app, cndK_t, cndK_f, RegW_nil, RegW_none, RegW_some, contW_app, grdK_tt, grdK_ff, grdK_tf, grdK_ft, grdK_undef, actK_p, actK_r, actK_a, actK_w, actK_call, actK_callV, heapK_app, allocK_app, writeK_app, ret1_ret, ret1_normal, ret0_ret, ret0_normal, ret2_ret2, thenK_app, retcv_ret, retcvK_app, optW_some, evs, Arg.ev, aP, aR, aA, aW, pMov, pBin, pUn, pConv, pPick, pFieldAddr, pNilCheck, pExtract, aBin, aUn, aInt, aNew, partL_f, upd, List.getElem?_cons_zero, List.getElem?_cons_succ, List.getD_cons_zero, List.getD_cons_succ, List.set_cons_zero, List.set_cons_succ, Nat.zero_add, Nat.add_zero, List.getElem?_toArray, List.take_zero, List.drop_zero, List.take_succ_cons, List.drop_succ_cons, if_true, if_false, decide_true, decide_false, Bool.false_eq_true, Bool.true_eq_false, Bool.not_true, Bool.not_false, not_true_eq_false, not_false_eq_true, ge_iff_le, gt_iff_lt, beq_self_eq_true, bne_self_eq_false, and_self, and_true, true_and, Option.isSome_some, Heap.get_alloc_same, Heap.alloc_getE, *] | with_reducible refine cndK_d (fun hc => ?_) (fun hc => ?_) | with_reducible refine grdK_d (fun hc => ?_) (fun hc => ?_) | with_reducible refine cndK_i (fun hc => ?_) (fun hc => ?_) | with_reducible refine grdK_i (fun hc => ?_) (fun hc => ?_))
  refine LoopW.upto l.length (fun i e h1 => h1 = h ∧ ∃ x1, e = [str l, x1, .int .i64 (feedsN (l.take i)), .int .i64 i]) ?_ (Nat.zero_le _) ⟨rfl, _, rfl⟩
  rintro i _ _ R hi ⟨rfl, x1, rfl⟩ hR
  delta c23_l7 c23_r0 c23_r1 c23_r2 c23_r3 c23_r4 c23_r5 c23_r6 c23_r8
  by_cases hlt : i < l.length
  case neg =>
    have hlt' : ¬ (i : Int) < l.length := by omega
    have g := hq.h
    rw [show feedsN l = feedsN (l.take i) by rw [List.take_of_length_le (by omega)]] at g
    replace g := Hid.mk g
    repeat' (first | simp -implicitDefEqProofs only [W_skip, W_reg, W_seq, W_rcond, W_cond, W_block, W_loop, W_exit, W_ret, thenQ_normal, thenQ_exit, thenQ_ret, blockQ_normal, blockQ_ret, blockQ_here, regQ_app, rcQ_app, cndK_t, cndK_f, RegW_nil, RegW_none, RegW_some, contW_app, grdK_tt, grdK_ff, grdK_tf, grdK_ft, grdK_undef, actK_p, actK_r, actK_a, actK_w, actK_call, actK_callV, heapK_app, allocK_app, writeK_app, ret1_ret, ret1_normal, ret0_ret, ret0_normal, ret2_ret2, thenK_app, retcv_ret, retcvK_app, optW_some, evs, Arg.ev, aP, aR, aA, aW, pMov, pBin, pUn, pConv, pPick, pFieldAddr, pNilCheck, pExtract, aBin, aUn, aInt, aNew, partL_f, upd, List.getElem?_cons_zero, List.getElem?_cons_succ, List.getD_cons_zero, List.getD_cons_succ, List.set_cons_zero, List.set_cons_succ, Nat.zero_add, Nat.add_zero, List.getElem?_toArray, List.take_zero, List.drop_zero, List.take_succ_cons, List.drop_succ_cons, if_true, if_false, decide_true, decide_false, Bool.false_eq_true, Bool.true_eq_false, Bool.not_true, Bool.not_false, not_true_eq_false, not_false_eq_true, ge_iff_le, gt_iff_lt, beq_self_eq_true, bne_self_eq_false, and_self, and_true, true_and, Option.isSome_some, Heap.get_alloc_same, Heap.alloc_getE, len_S, *] | with_reducible refine cndK_d (fun hc => ?_) (fun hc => ?_) | with_reducible refine grdK_d (fun hc => ?_) (fun hc => ?_) | with_reducible refine cndK_i (fun hc => ?_) (fun hc => ?_) | with_reducible refine grdK_i (fun hc => ?_) (fun hc => ?_))
    exact g.h
  case pos =>
    have hlt' : (i : Int) < l.length := by omega
    have hwj : IntKind.i64.wrap ((i : Int) + 1) = ((i + 1 : Nat) : Int) := by rw [wrapI (by omega) (by omega)]; rfl
    obtain ⟨b, hb⟩ : ∃ b, l[i]? = some b := ⟨_, List.getElem?_eq_getElem hlt⟩
    have hfe : feedsN (l.take (i + 1)) = feedsN (l.take i) + (if b = 10 then 1 else 0) := by
      unfold feedsN
      rw [List.take_add_one, hb, List.count_append]
      by_cases h10 : b = 10
      · subst h10; simp
      · simp [h10]
    have hle : feedsN (l.take i) ≤ i := by
      unfold feedsN
      have := List.count_le_length (a := (10 : UInt8)) (l := l.take i)
      simp at this; omega
    have hwf : IntKind.i64.wrap ((feedsN (l.take i) : Int) + 1) = ((feedsN (l.take i) + 1 : Nat) : Int) := by rw [wrapI (by omega) (by omega)]; rfl
    have ix := idx_S hb .i64
    clear hb hle
    cases h10 : ((b.toNat : Int) == 10) with
    | true =>
      have : b = 10 := by apply UInt8.toNat_inj.1; simp; have := of_decide_eq_true h10; omega
      rw [if_pos this] at hfe
      have g := fun x1 => hR.h [str l, x1, .int .i64 ((feedsN (l.take i) + 1 : Nat) : Int), .int .i64 ((i + 1 : Nat) : Int)] _ hlt ⟨rfl, x1, by rw [hfe]⟩
      replace g := Hid.mk g
      clear hfe this
      repeat' (first | simp -implicitDefEqProofs only [W_skip, W_reg, W_seq, W_rcond, W_cond, W_block, W_loop, W_exit, W_ret, thenQ_normal, thenQ_exit, thenQ_ret, blockQ_normal, blockQ_ret, blockQ_here, regQ_app, rcQ_app, cndK_t, cndK_f, RegW_nil, RegW_none, RegW_some, contW_app, grdK_tt, grdK_ff, grdK_tf, grdK_ft, grdK_undef, actK_p, actK_r, actK_a, actK_w, actK_call, actK_callV, heapK_app, allocK_app, writeK_app, ret1_ret, ret1_normal, ret0_ret, ret0_normal, ret2_ret2, thenK_app, retcv_ret, retcvK_app, optW_some, evs, Arg.ev, aP, aR, aA, aW, pMov, pBin, pUn, pConv, pPick, pFieldAddr, pNilCheck, pExtract, aBin, aUn, aInt, aNew, partL_f, upd, List.getElem?_cons_zero, List.getElem?_cons_succ, List.getD_cons_zero, List.getD_cons_succ, List.set_cons_zero, List.set_cons_succ, Nat.zero_add, Nat.add_zero, List.getElem?_toArray, List.take_zero, List.drop_zero, List.take_succ_cons, List.drop_succ_cons, if_true, if_false, decide_true, decide_false, Bool.false_eq_true, Bool.true_eq_false, Bool.not_true, Bool.not_false, not_true_eq_false, not_false_eq_true, ge_iff_le, gt_iff_lt, beq_self_eq_true, bne_self_eq_false, and_self, and_true, true_and, Option.isSome_some, Heap.get_alloc_same, Heap.alloc_getE, len_S, *] | with_reducible refine cndK_d (fun hc => ?_) (fun hc => ?_) | with_reducible refine grdK_d (fun hc => ?_) (fun hc => ?_) | with_reducible refine cndK_i (fun hc => ?_) (fun hc => ?_) | with_reducible refine grdK_i (fun hc => ?_) (fun hc => ?_))
      exact g.h _
    | false =>
      have : ¬ b = 10 := by rintro rfl; cases h10
      rw [if_neg this] at hfe
      have g := fun x1 => hR.h [str l, x1, .int .i64 (feedsN (l.take i)), .int .i64 ((i + 1 : Nat) : Int)] _ hlt ⟨rfl, x1, by rw [hfe]; rfl⟩
      replace g := Hid.mk g
      clear hfe this
      repeat' (first | simp -implicitDefEqProofs only [W_skip, W_reg, W_seq, W_rcond, W_cond, W_block, W_loop, W_exit, W_ret, thenQ_normal, thenQ_exit, thenQ_ret, blockQ_normal, blockQ_ret, blockQ_here, regQ_app, rcQ_app, cndK_t, cndK_f, RegW_nil, RegW_none, RegW_some, contW_app, grdK_tt, grdK_ff, grdK_tf, grdK_ft, grdK_undef, actK_p, actK_r, actK_a, actK_w, actK_call, actK_callV, heapK_app, allocK_app, writeK_app, ret1_ret, ret1_normal, ret0_ret, ret0_normal, ret2_ret2, thenK_app, retcv_ret, retcvK_app, optW_some, evs, Arg.ev, aP, aR, aA, aW, pMov, pBin, pUn, pConv, pPick, pFieldAddr, pNilCheck, pExtract, aBin, aUn, aInt, aNew, partL_f, upd, List.getElem?_cons_zero, List.getElem?_cons_succ, List.getD_cons_zero, List.getD_cons_succ, List.set_cons_zero, List.set_cons_succ, Nat.zero_add, Nat.add_zero, List.getElem?_toArray, List.take_zero, List.drop_zero, List.take_succ_cons, List.drop_succ_cons, if_true, if_false, decide_true, decide_false, Bool.false_eq_true, Bool.true_eq_false, Bool.not_true, Bool.not_false, not_true_eq_false, not_false_eq_true, ge_iff_le, gt_iff_lt, beq_self_eq_true, bne_self_eq_false, and_self, and_true, true_and, Option.isSome_some, Heap.get_alloc_same, Heap.alloc_getE, len_S, *] | with_reducible refine cndK_d (fun hc => ?_) (fun hc => ?_) | with_reducible refine grdK_d (fun hc => ?_) (fun hc => ?_) | with_reducible refine cndK_i (fun hc => ?_) (fun hc => ?_) | with_reducible refine grdK_i (fun hc => ?_) (fun hc => ?_))
      exact g.h _
end Go.Eng.Tk

set_option linter.unusedSimpArgs false
set_option linter.unusedVariables false
namespace Go.Eng.Tk
open Go Go.Eng Go.Proofs

/-- of raw numbers, a token's text, and its kind -/
def pieceL (kind n : Int) : List UInt8 × Int :=
  if pickN kind 4 = 0 then (wordsL.getD (pickN n 13) [], 2)
  else if pickN kind 4 = 1 then (signsL.getD (pickN n 25) [], 4)
  else if pickN kind 4 = 2 then (if n.tmod 2 = 0 then [48, 120] ++ hexL (pickN n 4294967296) else decL (pickN n 4294967296), 3)
  else (varL n, 1)
theorem piece_c {kind n : Int} (hk : inI kind) (hn : inI n) (h : Heap) (Q : Value → Heap → Prop) (hq : ∀ h', h.le h' → Q (.tuple #[str (pieceL kind n).1, .int .i64 (pieceL kind n).2]) h') : CallW Tryd.prog 11 [.int .i64 kind, .int .i64 n] h Q := by
  obtain ⟨hlt, hpk⟩ := pickN_lt hk (n := 4) (by omega)
  have hps : pieceL kind n = if pickN kind 4 = 0 then (wordsL.getD (pickN n 13) [], 2)
    else if pickN kind 4 = 1 then (signsL.getD (pickN n 25) [], 4)
    else if pickN kind 4 = 2 then (if n.tmod 2 = 0 then [48, 120] ++ hexL (pickN n 4294967296) else decL (pickN n 4294967296), 3)
    else (varL n, 1) := rfl
  obtain ⟨k, hkk⟩ : ∃ k, pickN kind 4 = k := ⟨_, rfl⟩
  rw [hkk] at hlt hpk hps
  have hpk' : pick kind ((4 : Nat) : Int) = (k : Int) := hpk.symm
  have hpk4 : pick kind 4 = (k : Int) := hpk'
  refine call_of2 (k := 2) (j := 3) ok11 rfl rfl rfl fun N => ?_
  rw [show env0 c11 [.int .i64 kind, .int .i64 n] = [.int .i64 kind, .int .i64 n, undef, undef, undef, undef, undef, undef] from rfl]
  delta c11 c11_r0 c11_r1 c11_r2 c11_r3 c11_r4 c11_r5 c11_r6 c11_r7 c11_r8 c11_r9 c11_r10 c11_r11 c11_r12 c11_r13
  replace hq := Hid.mk hq
  have sw := strs_new h wordsL (n := 13) (cells := [.string ⟨#[104, 97, 114, 116, 115]⟩, .string ⟨#[100, 101, 118, 105, 99, 101]⟩, .string ⟨#[117, 97, 114, 116]⟩, .string ⟨#[116, 105, 109, 101, 114]⟩, .string ⟨#[103, 112, 105, 111]⟩, .string ⟨#[114, 101, 115, 111, 117, 114, 99, 101]⟩, .string ⟨#[116, 97, 115, 107]⟩, .string ⟨#[104, 97, 110, 100, 108, 101, 114]⟩, .string ⟨#[108, 111, 99, 107]⟩, .string ⟨#[105, 102]⟩, .string ⟨#[101, 108, 115, 101]⟩, .string ⟨#[114, 101, 112, 101, 97, 116]⟩, .string ⟨#[104, 97, 108, 116]⟩]) rfl rfl
  obtain ⟨q, hqq⟩ : ∃ x, h.next = x := ⟨_, rfl⟩
  obtain ⟨h1, hh1⟩ : ∃ x, h.alloc (.blk [.string ⟨#[104, 97, 114, 116, 115]⟩, .string ⟨#[100, 101, 118, 105, 99, 101]⟩, .string ⟨#[117, 97, 114, 116]⟩, .string ⟨#[116, 105, 109, 101, 114]⟩, .string ⟨#[103, 112, 105, 111]⟩, .string ⟨#[114, 101, 115, 111, 117, 114, 99, 101]⟩, .string ⟨#[116, 97, 115, 107]⟩, .string ⟨#[104, 97, 110, 100, 108, 101, 114]⟩, .string ⟨#[108, 111, 99, 107]⟩, .string ⟨#[105, 102]⟩, .string ⟨#[101, 108, 115, 101]⟩, .string ⟨#[114, 101, 112, 101, 97, 116]⟩, .string ⟨#[104, 97, 108, 116]⟩] true) = x := ⟨_, rfl⟩
  have l1 : h.le h1 := by rw [← hh1]; exact (Heap.le.refl _).alloc _
  have n1 : h1.next = q + 1 := by rw [← hh1, Heap.next_alloc, hqq]
  rw [hqq, hh1] at sw
  have ss := strs_new h1 signsL (n := 25) (cells := [.string ⟨#[61, 61]⟩, .string ⟨#[33, 61]⟩, .string ⟨#[60, 60]⟩, .string ⟨#[62, 62]⟩, .string ⟨#[60, 46]⟩, .string ⟨#[43]⟩, .string ⟨#[45]⟩, .string ⟨#[42]⟩, .string ⟨#[47]⟩, .string ⟨#[37]⟩, .string ⟨#[38]⟩, .string ⟨#[124]⟩, .string ⟨#[94]⟩, .string ⟨#[60]⟩, .string ⟨#[61]⟩, .string ⟨#[33]⟩, .string ⟨#[126]⟩, .string ⟨#[40]⟩, .string ⟨#[41]⟩, .string ⟨#[123]⟩, .string ⟨#[125]⟩, .string ⟨#[91]⟩, .string ⟨#[93]⟩, .string ⟨#[59]⟩, .string ⟨#[46]⟩]) rfl rfl
  obtain ⟨h2, hh2⟩ : ∃ x, h1.alloc (.blk [.string ⟨#[61, 61]⟩, .string ⟨#[33, 61]⟩, .string ⟨#[60, 60]⟩, .string ⟨#[62, 62]⟩, .string ⟨#[60, 46]⟩, .string ⟨#[43]⟩, .string ⟨#[45]⟩, .string ⟨#[42]⟩, .string ⟨#[47]⟩, .string ⟨#[37]⟩, .string ⟨#[38]⟩, .string ⟨#[124]⟩, .string ⟨#[94]⟩, .string ⟨#[60]⟩, .string ⟨#[61]⟩, .string ⟨#[33]⟩, .string ⟨#[126]⟩, .string ⟨#[40]⟩, .string ⟨#[41]⟩, .string ⟨#[123]⟩, .string ⟨#[125]⟩, .string ⟨#[91]⟩, .string ⟨#[93]⟩, .string ⟨#[59]⟩, .string ⟨#[46]⟩] true) = x := ⟨_, rfl⟩
  have l2 : h1.le h2 := by rw [← hh2]; exact (Heap.le.refl _).alloc _
  rw [n1, hh2] at ss
  replace sw := sw.mono l2
  have lw : pLenS [.slice (some ⟨q, 0, none⟩) 13 1] = some (.int .i64 13) := rfl
  have ls : pLenS [.slice (some ⟨q + 1, 0, none⟩) 25 1] = some (.int .i64 25) := rfl
  have hle := l1.trans l2
  replace hps := Hid.mk hps
  replace sw := Hid.mk sw
  replace ss := Hid.mk ss
  replace hle := Hid.mk hle
  clear l1 l2 hkk hpk hpk'
  repeat' (first | simp -implicitDefEqProofs only [W_skip, W_reg, W_seq, W_rcond, W_cond, W_block, W_loop, W_exit, W_ret, thenQ_normal, thenQ_exit, thenQ_ret, blockQ_normal, blockQ_ret, blockQ_here, regQ_app, rcQ_app, cndK_t, cndK_f, RegW_nil, RegW_none, RegW_some, contW_app, grdK_tt, grdK_ff, grdK_tf, grdK_ft, grdK_undef, actK_p, actK_r, actK_a, actK_w, actK_call, actK_callV, heapK_app, allocK_app, writeK_app, ret1_ret, ret1_normal, ret0_ret, ret0_normal, ret2_ret2, thenK_app, retcv_ret, retcvK_app, optW_some, evs, Arg.ev, aP, aR, aA, aW, pMov, pBin, pUn, pConv, pPick, pFieldAddr, pNilCheck, pExtract, aBin, aUn, aInt, aNew, partL_f, upd, List.getElem?_cons_zero, List.getElem?_cons_succ, List.getD_cons_zero, List.getD_cons_succ, List.set_cons_zero, List.set_cons_succ, Nat.zero_add, Nat.add_zero, List.getElem?_toArray, List.take_zero, List.drop_zero, List.take_succ_cons, List.drop_succ_cons, if_true, if_false, decide_true, decide_false, Bool.false_eq_true, Bool.true_eq_false, Bool.not_true, Bool.not_false, not_true_eq_false, not_false_eq_true, ge_iff_le, gt_iff_lt, beq_self_eq_true, bne_self_eq_false, and_self, and_true, true_and, Option.isSome_some, Heap.get_alloc_same, Heap.alloc_getE, bslice_words', bslice_signs', pLenS, *] | with_reducible refine cndK_d (fun hc => ?_) (fun hc => ?_) | with_reducible refine grdK_d (fun hc => ?_) (fun hc => ?_) | with_reducible refine cndK_i (fun hc => ?_) (fun hc => ?_) | with_reducible refine grdK_i (fun hc => ?_) (fun hc => ?_))
  refine pick_c _ 4 (by decide) h2 _ ?_
  rw [hpk4]
  by_cases k0 : k = 0
  · subst k0
    have e0 : (((0 : Nat) : Int) == 0) = true := rfl
    have hp1 := hps.h
    rw [if_pos rfl] at hp1
    obtain ⟨hlt', hpj⟩ := pickN_lt hn (n := 13) (by omega)
    obtain ⟨j, hj⟩ : ∃ j, pickN n 13 = j := ⟨_, rfl⟩
    rw [hj] at hlt' hpj hp1
    have hpj' : pick n 13 = (j : Int) := hpj.symm
    obtain ⟨id, off, cells, own, a1, a2, a3, _⟩ := sw.h.elem (getD_some (l := wordsL) (i := j) hlt' [])
    have g := hq.h h2 hle.h
    rw [hp1] at g
    obtain ⟨x, hx⟩ : ∃ x, wordsL.getD j [] = x := ⟨_, rfl⟩
    rw [hx] at g a3
    replace g := Hid.mk g
    clear hp1 hx hpj hj
    repeat' (first | simp -implicitDefEqProofs only [W_skip, W_reg, W_seq, W_rcond, W_cond, W_block, W_loop, W_exit, W_ret, thenQ_normal, thenQ_exit, thenQ_ret, blockQ_normal, blockQ_ret, blockQ_here, regQ_app, rcQ_app, cndK_t, cndK_f, RegW_nil, RegW_none, RegW_some, contW_app, grdK_tt, grdK_ff, grdK_tf, grdK_ft, grdK_undef, actK_p, actK_r, actK_a, actK_w, actK_call, actK_callV, heapK_app, allocK_app, writeK_app, ret1_ret, ret1_normal, ret0_ret, ret0_normal, ret2_ret2, thenK_app, retcv_ret, retcvK_app, optW_some, evs, Arg.ev, aP, aR, aA, aW, pMov, pBin, pUn, pConv, pPick, pFieldAddr, pNilCheck, pExtract, aBin, aUn, aInt, aNew, partL_f, upd, List.getElem?_cons_zero, List.getElem?_cons_succ, List.getD_cons_zero, List.getD_cons_succ, List.set_cons_zero, List.set_cons_succ, Nat.zero_add, Nat.add_zero, List.getElem?_toArray, List.take_zero, List.drop_zero, List.take_succ_cons, List.drop_succ_cons, if_true, if_false, decide_true, decide_false, Bool.false_eq_true, Bool.true_eq_false, Bool.not_true, Bool.not_false, not_true_eq_false, not_false_eq_true, ge_iff_le, gt_iff_lt, beq_self_eq_true, bne_self_eq_false, and_self, and_true, true_and, Option.isSome_some, Heap.get_alloc_same, Heap.alloc_getE, *] | with_reducible refine cndK_d (fun hc => ?_) (fun hc => ?_) | with_reducible refine grdK_d (fun hc => ?_) (fun hc => ?_) | with_reducible refine cndK_i (fun hc => ?_) (fun hc => ?_) | with_reducible refine grdK_i (fun hc => ?_) (fun hc => ?_))
    refine pick_c _ 13 (by decide) h2 _ ?_
    rw [hpj']
    repeat' (first | simp -implicitDefEqProofs only [W_skip, W_reg, W_seq, W_rcond, W_cond, W_block, W_loop, W_exit, W_ret, thenQ_normal, thenQ_exit, thenQ_ret, blockQ_normal, blockQ_ret, blockQ_here, regQ_app, rcQ_app, cndK_t, cndK_f, RegW_nil, RegW_none, RegW_some, contW_app, grdK_tt, grdK_ff, grdK_tf, grdK_ft, grdK_undef, actK_p, actK_r, actK_a, actK_w, actK_call, actK_callV, heapK_app, allocK_app, writeK_app, ret1_ret, ret1_normal, ret0_ret, ret0_normal, ret2_ret2, thenK_app, retcv_ret, retcvK_app, optW_some, evs, Arg.ev, aP, aR, aA, aW, pMov, pBin, pUn, pConv, pPick, pFieldAddr, pNilCheck, pExtract, aBin, aUn, aInt, aNew, partL_f, upd, List.getElem?_cons_zero, List.getElem?_cons_succ, List.getD_cons_zero, List.getD_cons_succ, List.set_cons_zero, List.set_cons_succ, Nat.zero_add, Nat.add_zero, List.getElem?_toArray, List.take_zero, List.drop_zero, List.take_succ_cons, List.drop_succ_cons, if_true, if_false, decide_true, decide_false, Bool.false_eq_true, Bool.true_eq_false, Bool.not_true, Bool.not_false, not_true_eq_false, not_false_eq_true, ge_iff_le, gt_iff_lt, beq_self_eq_true, bne_self_eq_false, and_self, and_true, true_and, Option.isSome_some, Heap.get_alloc_same, Heap.alloc_getE, *] | with_reducible refine cndK_d (fun hc => ?_) (fun hc => ?_) | with_reducible refine grdK_d (fun hc => ?_) (fun hc => ?_) | with_reducible refine cndK_i (fun hc => ?_) (fun hc => ?_) | with_reducible refine grdK_i (fun hc => ?_) (fun hc => ?_))
    exact g.h
  by_cases k1 : k = 1
  · subst k1
    have e0 : (((1 : Nat) : Int) == 0) = false := rfl
    have e1 : (((1 : Nat) : Int) == 1) = true := rfl
    have hp1 := hps.h
    rw [if_neg k0, if_pos rfl] at hp1
    obtain ⟨hlt', hpj⟩ := pickN_lt hn (n := 25) (by omega)
    obtain ⟨j, hj⟩ : ∃ j, pickN n 25 = j := ⟨_, rfl⟩
    rw [hj] at hlt' hpj hp1
    have hpj' : pick n 25 = (j : Int) := hpj.symm
    obtain ⟨id, off, cells, own, a1, a2, a3, _⟩ := ss.h.elem (getD_some (l := signsL) (i := j) hlt' [])
    have g := hq.h h2 hle.h
    rw [hp1] at g
    obtain ⟨x, hx⟩ : ∃ x, signsL.getD j [] = x := ⟨_, rfl⟩
    rw [hx] at g a3
    replace g := Hid.mk g
    clear hp1 hx hpj hj k0
    repeat' (first | simp -implicitDefEqProofs only [W_skip, W_reg, W_seq, W_rcond, W_cond, W_block, W_loop, W_exit, W_ret, thenQ_normal, thenQ_exit, thenQ_ret, blockQ_normal, blockQ_ret, blockQ_here, regQ_app, rcQ_app, cndK_t, cndK_f, RegW_nil, RegW_none, RegW_some, contW_app, grdK_tt, grdK_ff, grdK_tf, grdK_ft, grdK_undef, actK_p, actK_r, actK_a, actK_w, actK_call, actK_callV, heapK_app, allocK_app, writeK_app, ret1_ret, ret1_normal, ret0_ret, ret0_normal, ret2_ret2, thenK_app, retcv_ret, retcvK_app, optW_some, evs, Arg.ev, aP, aR, aA, aW, pMov, pBin, pUn, pConv, pPick, pFieldAddr, pNilCheck, pExtract, aBin, aUn, aInt, aNew, partL_f, upd, List.getElem?_cons_zero, List.getElem?_cons_succ, List.getD_cons_zero, List.getD_cons_succ, List.set_cons_zero, List.set_cons_succ, Nat.zero_add, Nat.add_zero, List.getElem?_toArray, List.take_zero, List.drop_zero, List.take_succ_cons, List.drop_succ_cons, if_true, if_false, decide_true, decide_false, Bool.false_eq_true, Bool.true_eq_false, Bool.not_true, Bool.not_false, not_true_eq_false, not_false_eq_true, ge_iff_le, gt_iff_lt, beq_self_eq_true, bne_self_eq_false, and_self, and_true, true_and, Option.isSome_some, Heap.get_alloc_same, Heap.alloc_getE, *] | with_reducible refine cndK_d (fun hc => ?_) (fun hc => ?_) | with_reducible refine grdK_d (fun hc => ?_) (fun hc => ?_) | with_reducible refine cndK_i (fun hc => ?_) (fun hc => ?_) | with_reducible refine grdK_i (fun hc => ?_) (fun hc => ?_))
    refine pick_c _ 25 (by decide) h2 _ ?_
    rw [hpj']
    repeat' (first | simp -implicitDefEqProofs only [W_skip, W_reg, W_seq, W_rcond, W_cond, W_block, W_loop, W_exit, W_ret, thenQ_normal, thenQ_exit, thenQ_ret, blockQ_normal, blockQ_ret, blockQ_here, regQ_app, rcQ_app, cndK_t, cndK_f, RegW_nil, RegW_none, RegW_some, contW_app, grdK_tt, grdK_ff, grdK_tf, grdK_ft, grdK_undef, actK_p, actK_r, actK_a, actK_w, actK_call, actK_callV, heapK_app, allocK_app, writeK_app, ret1_ret, ret1_normal, ret0_ret, ret0_normal, ret2_ret2, thenK_app, retcv_ret, retcvK_app, optW_some, evs, Arg.ev, aP, aR, aA, aW, pMov, pBin, pUn, pConv, pPick, pFieldAddr, pNilCheck, pExtract, aBin, aUn, aInt, aNew, partL_f, upd, List.getElem?_cons_zero, List.getElem?_cons_succ, List.getD_cons_zero, List.getD_cons_succ, List.set_cons_zero, List.set_cons_succ, Nat.zero_add, Nat.add_zero, List.getElem?_toArray, List.take_zero, List.drop_zero, List.take_succ_cons, List.drop_succ_cons, if_true, if_false, decide_true, decide_false, Bool.false_eq_true, Bool.true_eq_false, Bool.not_true, Bool.not_false, not_true_eq_false, not_false_eq_true, ge_iff_le, gt_iff_lt, beq_self_eq_true, bne_self_eq_false, and_self, and_true, true_and, Option.isSome_some, Heap.get_alloc_same, Heap.alloc_getE, *] | with_reducible refine cndK_d (fun hc => ?_) (fun hc => ?_) | with_reducible refine grdK_d (fun hc => ?_) (fun hc => ?_) | with_reducible refine cndK_i (fun hc => ?_) (fun hc => ?_) | with_reducible refine grdK_i (fun hc => ?_) (fun hc => ?_))
    exact g.h
  have e0 : ((k : Int) == 0) = false := by simp; omega
  have e1 : ((k : Int) == 1) = false := by simp; omega
  by_cases k2 : k = 2
  · subst k2
    have e2 : (((2 : Nat) : Int) == 2) = true := rfl
    have hp1 := hps.h
    rw [if_neg k0, if_neg k1, if_pos rfl] at hp1
    obtain ⟨hlt', hpj⟩ := pickN_lt hn (n := 4294967296) (by omega)
    obtain ⟨j, hj⟩ : ∃ j, pickN n 4294967296 = j := ⟨_, rfl⟩
    rw [hj] at hlt' hpj hp1
    have hpj' : pick n 4294967296 = (j : Int) := hpj.symm
    have h20 : ¬ (2 : Int) = 0 := by decide
    replace hp1 := Hid.mk hp1
    clear k0 k1 hpj hj
    repeat' (first | simp -implicitDefEqProofs only [W_skip, W_reg, W_seq, W_rcond, W_cond, W_block, W_loop, W_exit, W_ret, thenQ_normal, thenQ_exit, thenQ_ret, blockQ_normal, blockQ_ret, blockQ_here, regQ_app, rcQ_app, cndK_t, cndK_f, RegW_nil, RegW_none, RegW_some, contW_app, grdK_tt, grdK_ff, grdK_tf, grdK_ft, grdK_undef, actK_p, actK_r, actK_a, actK_w, actK_call, actK_callV, heapK_app, allocK_app, writeK_app, ret1_ret, ret1_normal, ret0_ret, ret0_normal, ret2_ret2, thenK_app, retcv_ret, retcvK_app, optW_some, evs, Arg.ev, aP, aR, aA, aW, pMov, pBin, pUn, pConv, pPick, pFieldAddr, pNilCheck, pExtract, aBin, aUn, aInt, aNew, partL_f, upd, List.getElem?_cons_zero, List.getElem?_cons_succ, List.getD_cons_zero, List.getD_cons_succ, List.set_cons_zero, List.set_cons_succ, Nat.zero_add, Nat.add_zero, List.getElem?_toArray, List.take_zero, List.drop_zero, List.take_succ_cons, List.drop_succ_cons, if_true, if_false, decide_true, decide_false, Bool.false_eq_true, Bool.true_eq_false, Bool.not_true, Bool.not_false, not_true_eq_false, not_false_eq_true, ge_iff_le, gt_iff_lt, beq_self_eq_true, bne_self_eq_false, and_self, and_true, true_and, Option.isSome_some, Heap.get_alloc_same, Heap.alloc_getE, *] | with_reducible refine cndK_d (fun hc => ?_) (fun hc => ?_) | with_reducible refine grdK_d (fun hc => ?_) (fun hc => ?_) | with_reducible refine cndK_i (fun hc => ?_) (fun hc => ?_) | with_reducible refine grdK_i (fun hc => ?_) (fun hc => ?_))
    refine pick_c _ 4294967296 (by decide) h2 _ ?_
    rw [hpj']
    by_cases hm : n.tmod 2 = 0
    · have hm' : (n.tmod 2 == 0) = true := by rw [hm]; rfl
      have hp2 := hp1.h
      rw [if_pos hm] at hp2
      have hlen := hexL_len 15 j (by omega)
      have ct : aStr .add ⟨#[48, 120]⟩ ⟨(hexL j).toArray⟩ = some (.string ⟨([48, 120] ++ hexL j).toArray⟩) := cat_S (a := [48, 120]) (b := hexL j) (by simp; omega)
      have g := hq.h h2 hle.h
      rw [hp2] at g
      replace g := Hid.mk g
      clear hp2 hm
      repeat' (first | simp -implicitDefEqProofs only [W_skip, W_reg, W_seq, W_rcond, W_cond, W_block, W_loop, W_exit, W_ret, thenQ_normal, thenQ_exit, thenQ_ret, blockQ_normal, blockQ_ret, blockQ_here, regQ_app, rcQ_app, cndK_t, cndK_f, RegW_nil, RegW_none, RegW_some, contW_app, grdK_tt, grdK_ff, grdK_tf, grdK_ft, grdK_undef, actK_p, actK_r, actK_a, actK_w, actK_call, actK_callV, heapK_app, allocK_app, writeK_app, ret1_ret, ret1_normal, ret0_ret, ret0_normal, ret2_ret2, thenK_app, retcv_ret, retcvK_app, optW_some, evs, Arg.ev, aP, aR, aA, aW, pMov, pBin, pUn, pConv, pPick, pFieldAddr, pNilCheck, pExtract, aBin, aUn, aInt, aNew, partL_f, upd, List.getElem?_cons_zero, List.getElem?_cons_succ, List.getD_cons_zero, List.getD_cons_succ, List.set_cons_zero, List.set_cons_succ, Nat.zero_add, Nat.add_zero, List.getElem?_toArray, List.take_zero, List.drop_zero, List.take_succ_cons, List.drop_succ_cons, if_true, if_false, decide_true, decide_false, Bool.false_eq_true, Bool.true_eq_false, Bool.not_true, Bool.not_false, not_true_eq_false, not_false_eq_true, ge_iff_le, gt_iff_lt, beq_self_eq_true, bne_self_eq_false, and_self, and_true, true_and, Option.isSome_some, Heap.get_alloc_same, Heap.alloc_getE, *] | with_reducible refine cndK_d (fun hc => ?_) (fun hc => ?_) | with_reducible refine grdK_d (fun hc => ?_) (fun hc => ?_) | with_reducible refine cndK_i (fun hc => ?_) (fun hc => ?_) | with_reducible refine grdK_i (fun hc => ?_) (fun hc => ?_))
      refine hex_c j (by omega) h2 _ ?_
      repeat' (first | simp -implicitDefEqProofs only [W_skip, W_reg, W_seq, W_rcond, W_cond, W_block, W_loop, W_exit, W_ret, thenQ_normal, thenQ_exit, thenQ_ret, blockQ_normal, blockQ_ret, blockQ_here, regQ_app, rcQ_app, cndK_t, cndK_f, RegW_nil, RegW_none, RegW_some, contW_app, grdK_tt, grdK_ff, grdK_tf, grdK_ft, grdK_undef, actK_p, actK_r, actK_a, actK_w, actK_call, actK_callV, heapK_app, allocK_app, writeK_app, ret1_ret, ret1_normal, ret0_ret, ret0_normal, ret2_ret2, thenK_app, retcv_ret, retcvK_app, optW_some, evs, Arg.ev, aP, aR, aA, aW, pMov, pBin, pUn, pConv, pPick, pFieldAddr, pNilCheck, pExtract, aBin, aUn, aInt, aNew, partL_f, upd, List.getElem?_cons_zero, List.getElem?_cons_succ, List.getD_cons_zero, List.getD_cons_succ, List.set_cons_zero, List.set_cons_succ, Nat.zero_add, Nat.add_zero, List.getElem?_toArray, List.take_zero, List.drop_zero, List.take_succ_cons, List.drop_succ_cons, if_true, if_false, decide_true, decide_false, Bool.false_eq_true, Bool.true_eq_false, Bool.not_true, Bool.not_false, not_true_eq_false, not_false_eq_true, ge_iff_le, gt_iff_lt, beq_self_eq_true, bne_self_eq_false, and_self, and_true, true_and, Option.isSome_some, Heap.get_alloc_same, Heap.alloc_getE, *] | with_reducible refine cndK_d (fun hc => ?_) (fun hc => ?_) | with_reducible refine grdK_d (fun hc => ?_) (fun hc => ?_) | with_reducible refine cndK_i (fun hc => ?_) (fun hc => ?_) | with_reducible refine grdK_i (fun hc => ?_) (fun hc => ?_))
      exact g.h
    · have hm' : (n.tmod 2 == 0) = false := by simpa using hm
      have hp2 := hp1.h
      rw [if_neg hm] at hp2
      clear hm
      repeat' (first | simp -implicitDefEqProofs only [W_skip, W_reg, W_seq, W_rcond, W_cond, W_block, W_loop, W_exit, W_ret, thenQ_normal, thenQ_exit, thenQ_ret, blockQ_normal, blockQ_ret, blockQ_here, regQ_app, rcQ_app, cndK_t, cndK_f, RegW_nil, RegW_none, RegW_some, contW_app, grdK_tt, grdK_ff, grdK_tf, grdK_ft, grdK_undef, actK_p, actK_r, actK_a, actK_w, actK_call, actK_callV, heapK_app, allocK_app, writeK_app, ret1_ret, ret1_normal, ret0_ret, ret0_normal, ret2_ret2, thenK_app, retcv_ret, retcvK_app, optW_some, evs, Arg.ev, aP, aR, aA, aW, pMov, pBin, pUn, pConv, pPick, pFieldAddr, pNilCheck, pExtract, aBin, aUn, aInt, aNew, partL_f, upd, List.getElem?_cons_zero, List.getElem?_cons_succ, List.getD_cons_zero, List.getD_cons_succ, List.set_cons_zero, List.set_cons_succ, Nat.zero_add, Nat.add_zero, List.getElem?_toArray, List.take_zero, List.drop_zero, List.take_succ_cons, List.drop_succ_cons, if_true, if_false, decide_true, decide_false, Bool.false_eq_true, Bool.true_eq_false, Bool.not_true, Bool.not_false, not_true_eq_false, not_false_eq_true, ge_iff_le, gt_iff_lt, beq_self_eq_true, bne_self_eq_false, and_self, and_true, true_and, Option.isSome_some, Heap.get_alloc_same, Heap.alloc_getE, *] | with_reducible refine cndK_d (fun hc => ?_) (fun hc => ?_) | with_reducible refine grdK_d (fun hc => ?_) (fun hc => ?_) | with_reducible refine cndK_i (fun hc => ?_) (fun hc => ?_) | with_reducible refine grdK_i (fun hc => ?_) (fun hc => ?_))
      refine decimal_c j (by omega) h2 _ fun h3 l3 => ?_
      have g := hq.h h3 (hle.h.trans l3)
      rw [hp2] at g
      replace g := Hid.mk g
      clear hp2 l3
      repeat' (first | simp -implicitDefEqProofs only [W_skip, W_reg, W_seq, W_rcond, W_cond, W_block, W_loop, W_exit, W_ret, thenQ_normal, thenQ_exit, thenQ_ret, blockQ_normal, blockQ_ret, blockQ_here, regQ_app, rcQ_app, cndK_t, cndK_f, RegW_nil, RegW_none, RegW_some, contW_app, grdK_tt, grdK_ff, grdK_tf, grdK_ft, grdK_undef, actK_p, actK_r, actK_a, actK_w, actK_call, actK_callV, heapK_app, allocK_app, writeK_app, ret1_ret, ret1_normal, ret0_ret, ret0_normal, ret2_ret2, thenK_app, retcv_ret, retcvK_app, optW_some, evs, Arg.ev, aP, aR, aA, aW, pMov, pBin, pUn, pConv, pPick, pFieldAddr, pNilCheck, pExtract, aBin, aUn, aInt, aNew, partL_f, upd, List.getElem?_cons_zero, List.getElem?_cons_succ, List.getD_cons_zero, List.getD_cons_succ, List.set_cons_zero, List.set_cons_succ, Nat.zero_add, Nat.add_zero, List.getElem?_toArray, List.take_zero, List.drop_zero, List.take_succ_cons, List.drop_succ_cons, if_true, if_false, decide_true, decide_false, Bool.false_eq_true, Bool.true_eq_false, Bool.not_true, Bool.not_false, not_true_eq_false, not_false_eq_true, ge_iff_le, gt_iff_lt, beq_self_eq_true, bne_self_eq_false, and_self, and_true, true_and, Option.isSome_some, Heap.get_alloc_same, Heap.alloc_getE, *] | with_reducible refine cndK_d (fun hc => ?_) (fun hc => ?_) | with_reducible refine grdK_d (fun hc => ?_) (fun hc => ?_) | with_reducible refine cndK_i (fun hc => ?_) (fun hc => ?_) | with_reducible refine grdK_i (fun hc => ?_) (fun hc => ?_))
      exact g.h
  have e2 : ((k : Int) == 2) = false := by simp; omega
  have hp1 := hps.h
  rw [if_neg k0, if_neg k1, if_neg k2] at hp1
  clear k0 k1 k2
  repeat' (first | simp -implicitDefEqProofs only [W_skip, W_reg, W_seq, W_rcond, W_cond, W_block, W_loop, W_exit, W_ret, thenQ_normal, thenQ_exit, thenQ_ret, blockQ_normal, blockQ_ret, blockQ_here, regQ_app, rcQ_app, cndK_t, cndK_f, RegW_nil, RegW_none, RegW_some, contW_app, grdK_tt, grdK_ff, grdK_tf, grdK_ft, grdK_undef, actK_p, actK_r, actK_a, actK_w, actK_call, actK_callV, heapK_app, allocK_app, writeK_app, ret1_ret, ret1_normal, ret0_ret, ret0_normal, ret2_ret2, thenK_app, retcv_ret, retcvK_app, optW_some, evs, Arg.ev, aP, aR, aA, aW, pMov, pBin, pUn, pConv, pPick, pFieldAddr, pNilCheck, pExtract, aBin, aUn, aInt, aNew, partL_f, upd, List.getElem?_cons_zero, List.getElem?_cons_succ, List.getD_cons_zero, List.getD_cons_succ, List.set_cons_zero, List.set_cons_succ, Nat.zero_add, Nat.add_zero, List.getElem?_toArray, List.take_zero, List.drop_zero, List.take_succ_cons, List.drop_succ_cons, if_true, if_false, decide_true, decide_false, Bool.false_eq_true, Bool.true_eq_false, Bool.not_true, Bool.not_false, not_true_eq_false, not_false_eq_true, ge_iff_le, gt_iff_lt, beq_self_eq_true, bne_self_eq_false, and_self, and_true, true_and, Option.isSome_some, Heap.get_alloc_same, Heap.alloc_getE, *] | with_reducible refine cndK_d (fun hc => ?_) (fun hc => ?_) | with_reducible refine grdK_d (fun hc => ?_) (fun hc => ?_) | with_reducible refine cndK_i (fun hc => ?_) (fun hc => ?_) | with_reducible refine grdK_i (fun hc => ?_) (fun hc => ?_))
  refine var_c hn h2 _ fun h3 l3 => ?_
  have g := hq.h h3 (hle.h.trans l3)
  rw [hp1] at g
  replace g := Hid.mk g
  clear hp1 l3
  repeat' (first | simp -implicitDefEqProofs only [W_skip, W_reg, W_seq, W_rcond, W_cond, W_block, W_loop, W_exit, W_ret, thenQ_normal, thenQ_exit, thenQ_ret, blockQ_normal, blockQ_ret, blockQ_here, regQ_app, rcQ_app, cndK_t, cndK_f, RegW_nil, RegW_none, RegW_some, contW_app, grdK_tt, grdK_ff, grdK_tf, grdK_ft, grdK_undef, actK_p, actK_r, actK_a, actK_w, actK_call, actK_callV, heapK_app, allocK_app, writeK_app, ret1_ret, ret1_normal, ret0_ret, ret0_normal, ret2_ret2, thenK_app, retcv_ret, retcvK_app, optW_some, evs, Arg.ev, aP, aR, aA, aW, pMov, pBin, pUn, pConv, pPick, pFieldAddr, pNilCheck, pExtract, aBin, aUn, aInt, aNew, partL_f, upd, List.getElem?_cons_zero, List.getElem?_cons_succ, List.getD_cons_zero, List.getD_cons_succ, List.set_cons_zero, List.set_cons_succ, Nat.zero_add, Nat.add_zero, List.getElem?_toArray, List.take_zero, List.drop_zero, List.take_succ_cons, List.drop_succ_cons, if_true, if_false, decide_true, decide_false, Bool.false_eq_true, Bool.true_eq_false, Bool.not_true, Bool.not_false, not_true_eq_false, not_false_eq_true, ge_iff_le, gt_iff_lt, beq_self_eq_true, bne_self_eq_false, and_self, and_true, true_and, Option.isSome_some, Heap.get_alloc_same, Heap.alloc_getE, *] | with_reducible refine cndK_d (fun hc => ?_) (fun hc => ?_) | with_reducible refine grdK_d (fun hc => ?_) (fun hc => ?_) | with_reducible refine cndK_i (fun hc => ?_) (fun hc => ?_) | with_reducible refine grdK_i (fun hc => ?_) (fun hc => ?_))
  exact g.h
end Go.Eng.Tk

set_option linter.unusedSimpArgs false
set_option linter.unusedVariables false
namespace Go.Eng.Tk
open Go Go.Eng Go.Proofs

theorem extract3_0 (a b c : Value) : pExtract 0 [.tuple #[a, b, c]] = some a := rfl
theorem extract3_1 (a b c : Value) : pExtract 1 [.tuple #[a, b, c]] = some b := rfl
theorem extract3_2 (a b c : Value) : pExtract 2 [.tuple #[a, b, c]] = some c := rfl
def aw1 : List UInt8 := [108, 111, 99, 107, 32, 83, 32, 123, 32, 83, 91, 48, 93, 32, 61, 32, 48, 120, 49, 102, 59, 32, 125]
def awT : List Tok := [⟨2, [108, 111, 99, 107], 0, 1⟩, ⟨1, [83], 0, 1⟩, ⟨4, [123], 0, 1⟩, ⟨1, [83], 0, 1⟩, ⟨4, [91], 0, 1⟩, ⟨3, [48], 0, 1⟩, ⟨4, [93], 0, 1⟩, ⟨4, [61], 0, 1⟩, ⟨3, [48, 120, 49, 102], 31, 1⟩, ⟨4, [59], 0, 1⟩, ⟨4, [125], 0, 1⟩, ⟨5, [], 0, 1⟩]
theorem awR1 : scanR aw1 = (awT, 0, 0) := by kernel_rfl
theorem awR2 : scanR [97, 10, 32, 49, 98] = ([], 50, 2) := by kernel_rfl
theorem awN : number [52, 50, 57, 52, 57, 54, 55, 50, 57, 53] = some 4294967295 := by kernel_rfl
theorem awX : isName [120, 49] = true := by kernel_rfl
theorem awI : isName [105, 102] = false := by kernel_rfl
theorem awW : isWord [105, 102] = true := by kernel_rfl
theorem awake_c (h : Heap) (Q : Value → Heap → Prop) (hq : ∀ h', h.le h' → Q (.bool true) h') : CallW Tryd.prog 10 [] h Q := by
  refine call_of1 (k := 0) ok10 rfl rfl rfl fun N => ?_
  rw [show env0 c10 [] = [undef, undef, undef, undef, undef, undef, undef] from rfl]
  delta c10 c10_r0 c10_r1 c10_r2 c10_r3 c10_r4 c10_r5 c10_r6
  replace hq := Hid.mk hq
  repeat' (first | simp -implicitDefEqProofs only [W_skip, W_reg, W_seq, W_rcond, W_cond, W_block, W_loop, W_exit, W_ret, thenQ_normal, thenQ_exit, thenQ_ret, blockQ_normal, blockQ_ret, blockQ_here, regQ_app, rcQ_app, cndK_t, cndK_f, RegW_nil, RegW_none, RegW_some, contW_app, grdK_tt, grdK_ff, grdK_tf, grdK_ft, grdK_undef, actK_p, actK_r, actK_a, actK_w, actK_call, actK_callV, heapK_app, allocK_app, writeK_app, ret1_ret, ret1_normal, ret0_ret, ret0_normal, ret2_ret2, thenK_app, retcv_ret, retcvK_app, optW_some, evs, Arg.ev, aP, aR, aA, aW, pMov, pBin, pUn, pConv, pPick, pFieldAddr, pNilCheck, pExtract, aBin, aUn, aInt, aNew, partL_f, upd, List.getElem?_cons_zero, List.getElem?_cons_succ, List.getD_cons_zero, List.getD_cons_succ, List.set_cons_zero, List.set_cons_succ, Nat.zero_add, Nat.add_zero, List.getElem?_toArray, List.take_zero, List.drop_zero, List.take_succ_cons, List.drop_succ_cons, if_true, if_false, decide_true, decide_false, Bool.false_eq_true, Bool.true_eq_false, Bool.not_true, Bool.not_false, not_true_eq_false, not_false_eq_true, ge_iff_le, gt_iff_lt, beq_self_eq_true, bne_self_eq_false, and_self, and_true, true_and, Option.isSome_some, Heap.get_alloc_same, Heap.alloc_getE, *] | with_reducible refine cndK_d (fun hc => ?_) (fun hc => ?_) | with_reducible refine grdK_d (fun hc => ?_) (fun hc => ?_) | with_reducible refine cndK_i (fun hc => ?_) (fun hc => ?_) | with_reducible refine grdK_i (fun hc => ?_) (fun hc => ?_))
  refine Scan_c (l := aw1) h (Heap.le.refl h) _ fun v h1 hv l1 => ?_
  rw [awR1] at hv ⊢
  repeat' (first | simp -implicitDefEqProofs only [W_skip, W_reg, W_seq, W_rcond, W_cond, W_block, W_loop, W_exit, W_ret, thenQ_normal, thenQ_exit, thenQ_ret, blockQ_normal, blockQ_ret, blockQ_here, regQ_app, rcQ_app, cndK_t, cndK_f, RegW_nil, RegW_none, RegW_some, contW_app, grdK_tt, grdK_ff, grdK_tf, grdK_ft, grdK_undef, actK_p, actK_r, actK_a, actK_w, actK_call, actK_callV, heapK_app, allocK_app, writeK_app, ret1_ret, ret1_normal, ret0_ret, ret0_normal, ret2_ret2, thenK_app, retcv_ret, retcvK_app, optW_some, evs, Arg.ev, aP, aR, aA, aW, pMov, pBin, pUn, pConv, pPick, pFieldAddr, pNilCheck, pExtract, aBin, aUn, aInt, aNew, partL_f, upd, List.getElem?_cons_zero, List.getElem?_cons_succ, List.getD_cons_zero, List.getD_cons_succ, List.set_cons_zero, List.set_cons_succ, Nat.zero_add, Nat.add_zero, List.getElem?_toArray, List.take_zero, List.drop_zero, List.take_succ_cons, List.drop_succ_cons, if_true, if_false, decide_true, decide_false, Bool.false_eq_true, Bool.true_eq_false, Bool.not_true, Bool.not_false, not_true_eq_false, not_false_eq_true, ge_iff_le, gt_iff_lt, beq_self_eq_true, bne_self_eq_false, and_self, and_true, true_and, Option.isSome_some, Heap.get_alloc_same, Heap.alloc_getE, extract3_0, extract3_1, extract3_2, *] | with_reducible refine cndK_d (fun hc => ?_) (fun hc => ?_) | with_reducible refine grdK_d (fun hc => ?_) (fun hc => ?_) | with_reducible refine cndK_i (fun hc => ?_) (fun hc => ?_) | with_reducible refine grdK_i (fun hc => ?_) (fun hc => ?_))
  refine Scan_c (l := [97, 10, 32, 49, 98]) h1 (Heap.le.refl h1) _ fun v2 h2 hv2 l2 => ?_
  rw [awR2] at hv2 ⊢
  repeat' (first | simp -implicitDefEqProofs only [W_skip, W_reg, W_seq, W_rcond, W_cond, W_block, W_loop, W_exit, W_ret, thenQ_normal, thenQ_exit, thenQ_ret, blockQ_normal, blockQ_ret, blockQ_here, regQ_app, rcQ_app, cndK_t, cndK_f, RegW_nil, RegW_none, RegW_some, contW_app, grdK_tt, grdK_ff, grdK_tf, grdK_ft, grdK_undef, actK_p, actK_r, actK_a, actK_w, actK_call, actK_callV, heapK_app, allocK_app, writeK_app, ret1_ret, ret1_normal, ret0_ret, ret0_normal, ret2_ret2, thenK_app, retcv_ret, retcvK_app, optW_some, evs, Arg.ev, aP, aR, aA, aW, pMov, pBin, pUn, pConv, pPick, pFieldAddr, pNilCheck, pExtract, aBin, aUn, aInt, aNew, partL_f, upd, List.getElem?_cons_zero, List.getElem?_cons_succ, List.getD_cons_zero, List.getD_cons_succ, List.set_cons_zero, List.set_cons_succ, Nat.zero_add, Nat.add_zero, List.getElem?_toArray, List.take_zero, List.drop_zero, List.take_succ_cons, List.drop_succ_cons, if_true, if_false, decide_true, decide_false, Bool.false_eq_true, Bool.true_eq_false, Bool.not_true, Bool.not_false, not_true_eq_false, not_false_eq_true, ge_iff_le, gt_iff_lt, beq_self_eq_true, bne_self_eq_false, and_self, and_true, true_and, Option.isSome_some, Heap.get_alloc_same, Heap.alloc_getE, extract3_0, extract3_1, extract3_2, *] | with_reducible refine cndK_d (fun hc => ?_) (fun hc => ?_) | with_reducible refine grdK_d (fun hc => ?_) (fun hc => ?_) | with_reducible refine cndK_i (fun hc => ?_) (fun hc => ?_) | with_reducible refine grdK_i (fun hc => ?_) (fun hc => ?_))
  refine number_c (l := [52, 50, 57, 52, 57, 54, 55, 50, 57, 53]) (by decide) h2 _ fun h3 l3 => ?_
  rw [awN]
  have e3 : TokS h3 v awT := ((hv.mono l2).mono l3).sl
  have le3 := (l1.trans l2).trans l3
  replace le3 := Hid.mk le3
  have n12 := tokS_len e3
  rw [show ((awT.length : Nat) : Int) = 12 from rfl] at n12
  have c1 : ((12 : Int) != 12) = false := rfl
  have c2 : ((0 : Int) != 0) = false := rfl
  have c3 : ((50 : Int) != 50) = false := rfl
  have c4 : ((2 : Int) != 2) = false := rfl
  clear l1 l2 l3 hv hv2
  obtain ⟨i0, o0, s0, w0, a0, b0, _, d0, _⟩ := tokS_elem e3 (i := 0) (t := ⟨2, [108, 111, 99, 107], 0, 1⟩) rfl
  obtain ⟨i1, o1, s1, w1, a1, b1, _, d1, _⟩ := tokS_elem e3 (i := 1) (t := ⟨1, [83], 0, 1⟩) rfl
  obtain ⟨i8, o8, s8, w8, a8, b8, _, _, _, d8, _⟩ := tokS_elem e3 (i := 8) (t := ⟨3, [48, 120, 49, 102], 31, 1⟩) rfl
  obtain ⟨i11, o11, s11, w11, a11, b11, _, d11, _⟩ := tokS_elem e3 (i := 11) (t := ⟨5, [], 0, 1⟩) rfl
  simp only [Int.ofNat_zero, Int.cast_ofNat_Int] at a0 a1 a8 a11
  have k0 : ((2 : Int) == 2) = true := rfl
  have k1 : ((1 : Int) == 1) = true := rfl
  have k2 : ((31 : Int) == 31) = true := rfl
  have k3 : ((5 : Int) == 5) = true := rfl
  have k4 : (((4294967295 : Nat) : Int) == 4294967295) = true := rfl
  have nb : (some 4294967295 : Option Nat).getD 0 = 4294967295 := rfl
  rw [nb]
  replace e3 := Hid.mk e3
  repeat' (first | simp -implicitDefEqProofs only [W_skip, W_reg, W_seq, W_rcond, W_cond, W_block, W_loop, W_exit, W_ret, thenQ_normal, thenQ_exit, thenQ_ret, blockQ_normal, blockQ_ret, blockQ_here, regQ_app, rcQ_app, cndK_t, cndK_f, RegW_nil, RegW_none, RegW_some, contW_app, grdK_tt, grdK_ff, grdK_tf, grdK_ft, grdK_undef, actK_p, actK_r, actK_a, actK_w, actK_call, actK_callV, heapK_app, allocK_app, writeK_app, ret1_ret, ret1_normal, ret0_ret, ret0_normal, ret2_ret2, thenK_app, retcv_ret, retcvK_app, optW_some, evs, Arg.ev, aP, aR, aA, aW, pMov, pBin, pUn, pConv, pPick, pFieldAddr, pNilCheck, pExtract, aBin, aUn, aInt, aNew, partL_f, upd, List.getElem?_cons_zero, List.getElem?_cons_succ, List.getD_cons_zero, List.getD_cons_succ, List.set_cons_zero, List.set_cons_succ, Nat.zero_add, Nat.add_zero, List.getElem?_toArray, List.take_zero, List.drop_zero, List.take_succ_cons, List.drop_succ_cons, if_true, if_false, decide_true, decide_false, Bool.false_eq_true, Bool.true_eq_false, Bool.not_true, Bool.not_false, not_true_eq_false, not_false_eq_true, ge_iff_le, gt_iff_lt, beq_self_eq_true, bne_self_eq_false, and_self, and_true, true_and, Option.isSome_some, Heap.get_alloc_same, Heap.alloc_getE, extract0, extract1, Nat.add_zero, *] | with_reducible refine cndK_d (fun hc => ?_) (fun hc => ?_) | with_reducible refine grdK_d (fun hc => ?_) (fun hc => ?_) | with_reducible refine cndK_i (fun hc => ?_) (fun hc => ?_) | with_reducible refine grdK_i (fun hc => ?_) (fun hc => ?_))
  refine name_c (l := [120, 49]) h3 _ fun h4 l4 => ?_
  rw [awX]
  replace le3 := Hid.mk (le3.h.trans l4)
  clear l4
  repeat' (first | simp -implicitDefEqProofs only [W_skip, W_reg, W_seq, W_rcond, W_cond, W_block, W_loop, W_exit, W_ret, thenQ_normal, thenQ_exit, thenQ_ret, blockQ_normal, blockQ_ret, blockQ_here, regQ_app, rcQ_app, cndK_t, cndK_f, RegW_nil, RegW_none, RegW_some, contW_app, grdK_tt, grdK_ff, grdK_tf, grdK_ft, grdK_undef, actK_p, actK_r, actK_a, actK_w, actK_call, actK_callV, heapK_app, allocK_app, writeK_app, ret1_ret, ret1_normal, ret0_ret, ret0_normal, ret2_ret2, thenK_app, retcv_ret, retcvK_app, optW_some, evs, Arg.ev, aP, aR, aA, aW, pMov, pBin, pUn, pConv, pPick, pFieldAddr, pNilCheck, pExtract, aBin, aUn, aInt, aNew, partL_f, upd, List.getElem?_cons_zero, List.getElem?_cons_succ, List.getD_cons_zero, List.getD_cons_succ, List.set_cons_zero, List.set_cons_succ, Nat.zero_add, Nat.add_zero, List.getElem?_toArray, List.take_zero, List.drop_zero, List.take_succ_cons, List.drop_succ_cons, if_true, if_false, decide_true, decide_false, Bool.false_eq_true, Bool.true_eq_false, Bool.not_true, Bool.not_false, not_true_eq_false, not_false_eq_true, ge_iff_le, gt_iff_lt, beq_self_eq_true, bne_self_eq_false, and_self, and_true, true_and, Option.isSome_some, Heap.get_alloc_same, Heap.alloc_getE, *] | with_reducible refine cndK_d (fun hc => ?_) (fun hc => ?_) | with_reducible refine grdK_d (fun hc => ?_) (fun hc => ?_) | with_reducible refine cndK_i (fun hc => ?_) (fun hc => ?_) | with_reducible refine grdK_i (fun hc => ?_) (fun hc => ?_))
  refine name_c (l := [105, 102]) h4 _ fun h5 l5 => ?_
  rw [awI]
  replace le3 := Hid.mk (le3.h.trans l5)
  clear l5
  repeat' (first | simp -implicitDefEqProofs only [W_skip, W_reg, W_seq, W_rcond, W_cond, W_block, W_loop, W_exit, W_ret, thenQ_normal, thenQ_exit, thenQ_ret, blockQ_normal, blockQ_ret, blockQ_here, regQ_app, rcQ_app, cndK_t, cndK_f, RegW_nil, RegW_none, RegW_some, contW_app, grdK_tt, grdK_ff, grdK_tf, grdK_ft, grdK_undef, actK_p, actK_r, actK_a, actK_w, actK_call, actK_callV, heapK_app, allocK_app, writeK_app, ret1_ret, ret1_normal, ret0_ret, ret0_normal, ret2_ret2, thenK_app, retcv_ret, retcvK_app, optW_some, evs, Arg.ev, aP, aR, aA, aW, pMov, pBin, pUn, pConv, pPick, pFieldAddr, pNilCheck, pExtract, aBin, aUn, aInt, aNew, partL_f, upd, List.getElem?_cons_zero, List.getElem?_cons_succ, List.getD_cons_zero, List.getD_cons_succ, List.set_cons_zero, List.set_cons_succ, Nat.zero_add, Nat.add_zero, List.getElem?_toArray, List.take_zero, List.drop_zero, List.take_succ_cons, List.drop_succ_cons, if_true, if_false, decide_true, decide_false, Bool.false_eq_true, Bool.true_eq_false, Bool.not_true, Bool.not_false, not_true_eq_false, not_false_eq_true, ge_iff_le, gt_iff_lt, beq_self_eq_true, bne_self_eq_false, and_self, and_true, true_and, Option.isSome_some, Heap.get_alloc_same, Heap.alloc_getE, *] | with_reducible refine cndK_d (fun hc => ?_) (fun hc => ?_) | with_reducible refine grdK_d (fun hc => ?_) (fun hc => ?_) | with_reducible refine cndK_i (fun hc => ?_) (fun hc => ?_) | with_reducible refine grdK_i (fun hc => ?_) (fun hc => ?_))
  refine word_c (l := [105, 102]) h5 _ fun h6 l6 => ?_
  rw [awW]
  replace le3 := le3.h.trans l6
  clear l6
  have g := hq.h h6 le3
  replace g := Hid.mk g
  clear le3
  repeat' (first | simp -implicitDefEqProofs only [W_skip, W_reg, W_seq, W_rcond, W_cond, W_block, W_loop, W_exit, W_ret, thenQ_normal, thenQ_exit, thenQ_ret, blockQ_normal, blockQ_ret, blockQ_here, regQ_app, rcQ_app, cndK_t, cndK_f, RegW_nil, RegW_none, RegW_some, contW_app, grdK_tt, grdK_ff, grdK_tf, grdK_ft, grdK_undef, actK_p, actK_r, actK_a, actK_w, actK_call, actK_callV, heapK_app, allocK_app, writeK_app, ret1_ret, ret1_normal, ret0_ret, ret0_normal, ret2_ret2, thenK_app, retcv_ret, retcvK_app, optW_some, evs, Arg.ev, aP, aR, aA, aW, pMov, pBin, pUn, pConv, pPick, pFieldAddr, pNilCheck, pExtract, aBin, aUn, aInt, aNew, partL_f, upd, List.getElem?_cons_zero, List.getElem?_cons_succ, List.getD_cons_zero, List.getD_cons_succ, List.set_cons_zero, List.set_cons_succ, Nat.zero_add, Nat.add_zero, List.getElem?_toArray, List.take_zero, List.drop_zero, List.take_succ_cons, List.drop_succ_cons, if_true, if_false, decide_true, decide_false, Bool.false_eq_true, Bool.true_eq_false, Bool.not_true, Bool.not_false, not_true_eq_false, not_false_eq_true, ge_iff_le, gt_iff_lt, beq_self_eq_true, bne_self_eq_false, and_self, and_true, true_and, Option.isSome_some, Heap.get_alloc_same, Heap.alloc_getE, *] | with_reducible refine cndK_d (fun hc => ?_) (fun hc => ?_) | with_reducible refine grdK_d (fun hc => ?_) (fun hc => ?_) | with_reducible refine cndK_i (fun hc => ?_) (fun hc => ?_) | with_reducible refine grdK_i (fun hc => ?_) (fun hc => ?_))
  exact g.h
end Go.Eng.Tk

set_option linter.unusedSimpArgs false
set_option linter.unusedVariables false
namespace Go.Eng.Tk
open Go Go.Eng Go.Proofs

/-! ### plain laws of the scanner: no program in sight -/
def shT (d : Int) (t : Tok) : Tok := { t with line := t.line + d }
theorem skip_shift : ∀ (c : Bool) (l : List UInt8) (n d : Int), skip c l (n + d) = ((skip c l n).1, (skip c l n).2 + d)
  | _, [], n, d => by simp [skip]
  | true, b :: r, n, d => by
    unfold skip
    split
    · rw [show n + d + 1 = n + 1 + d by omega, skip_shift false r (n + 1) d]
    · exact skip_shift true r n d
  | false, b :: r, n, d => by
    unfold skip
    split
    · exact skip_shift false r n d
    · split
      · rw [show n + d + 1 = n + 1 + d by omega, skip_shift false r (n + 1) d]
      · split
        · exact skip_shift true r n d
        · rfl
theorem scanP_shift : ∀ (k : Nat) (l : List UInt8) (m d : Int), scanP k l (m + d) = ((scanP k l m).1.map (shT d), (scanP k l m).2.1 + d, (scanP k l m).2.2)
  | 0, l, m, d => by simp [scanP]
  | k + 1, [], m, d => by simp [scanP]
  | k + 1, b :: r, m, d => by
    unfold scanP
    split
    · split
      · rw [skip_shift, scanP_shift k]
        simp [shT]
      · simp
    · split
      · rw [skip_shift, scanP_shift k]
        simp [shT]
      · simp
/-- more steps than bytes: it does not matter how many -/
theorem scanP_fuel : ∀ (k : Nat) (l : List UInt8) (m : Int), l.length < k → scanP k l m = scanP (l.length + 1) l m
  | 0, l, m, h => by omega
  | k + 1, [], m, h => by simp [scanP]
  | k + 1, b :: r, m, h => by
    have key : ∀ (w : Nat), 0 < w → scanP k (skip false ((b :: r).drop w) m).1 (skip false ((b :: r).drop w) m).2 = scanP (b :: r).length (skip false ((b :: r).drop w) m).1 (skip false ((b :: r).drop w) m).2 := by
      intro w hw
      have h1 := skip_len false ((b :: r).drop w) m
      have h2 : ((b :: r).drop w).length = (b :: r).length - w := by simp
      have h3 : (b :: r).length = r.length + 1 := rfl
      rw [scanP_fuel k _ _ (by omega), scanP_fuel (b :: r).length _ _ (by omega)]
    show scanP (k + 1) (b :: r) m = scanP ((b :: r).length + 1) (b :: r) m
    unfold scanP
    split
    · rename_i hr
      rw [key _ hr]
    · split
      · rename_i g hg
        rw [key _ (signs_pos hg).1]
      · rfl
  termination_by k => k
  decreasing_by all_goals (simp only [List.length_cons] at *; omega)
/-- a text's tokens, from some line on -/
def scanW (l : List UInt8) (m : Int) : List Tok × Int × Bool := scanP (l.length + 1) (skip false l m).1 (skip false l m).2
theorem scanS_W (l : List UInt8) : scanS l = scanW l 1 := rfl
theorem scanW_fuel (l : List UInt8) (m : Int) {k : Nat} (h : l.length < k) : scanP k (skip false l m).1 (skip false l m).2 = scanW l m := by
  have h1 := skip_len false l m
  unfold scanW
  rw [scanP_fuel k _ _ (by omega), scanP_fuel (l.length + 1) _ _ (by omega)]
theorem scanW_shift (l : List UInt8) (m d : Int) : scanW l (m + d) = ((scanW l m).1.map (shT d), (scanW l m).2.1 + d, (scanW l m).2.2) := by
  unfold scanW
  rw [skip_shift, scanP_shift]
theorem scanW_skip {a b : List UInt8} {m n : Int} (h : skip false a m = skip false b n) (hl : b.length ≤ a.length) : scanW a m = scanW b n := by
  unfold scanW
  rw [h]
  exact scanW_fuel b n (by omega)

/-! #### blanks -/
def spaces : List (List UInt8) := blanksL ++ [[32], [10]]
theorem skip_blank {x : List UInt8} (hx : x ∈ spaces) (r : List UInt8) (m : Int) : skip false (x ++ r) m = skip false r (m + (feedsN x : Int)) := by
  simp only [spaces, blanksL, List.cons_append, List.nil_append, List.mem_cons, List.not_mem_nil, or_false] at hx
  rcases hx with rfl | rfl | rfl | rfl | rfl | rfl | rfl | rfl | rfl | rfl <;>
    (simp [skip, isBl, feedsN, List.count_cons]; try congr 1; try omega)
theorem scanW_blank {x : List UInt8} (hx : x ∈ spaces) (r : List UInt8) (m : Int) : scanW (x ++ r) m = scanW r (m + (feedsN x : Int)) :=
  scanW_skip (skip_blank hx r m) (by simp)
/-- no token goes on there -/
def sepr (r : List UInt8) : Prop := r = [] ∨ ∃ b r', r = b :: r' ∧ b ∈ ([32, 9, 10, 35] : List UInt8)
theorem sepr_blank {x : List UInt8} (hx : x ∈ spaces) (r : List UInt8) : sepr (x ++ r) := by
  simp only [spaces, blanksL, List.cons_append, List.nil_append, List.mem_cons, List.not_mem_nil, or_false] at hx
  rcases hx with rfl | rfl | rfl | rfl | rfl | rfl | rfl | rfl | rfl | rfl <;>
    exact .inr ⟨_, _, rfl, by decide⟩

/-! #### tokens -/
/-- what is scanned to this token -/
def good (t : Tok) : Prop :=
  (0 < t.text.length ∧ runN t.text = t.text.length ∧ oneS t.text = ({ t with line := 0 }, true)) ∨ (t.text ∈ signsL ∧ t.kind = 4 ∧ t.n = 0)
theorem nm_not {b : UInt8} (h : nm b = true) : isBl b = false ∧ b ≠ 10 ∧ b ≠ 35 := by
  have : ∀ n : Fin 256, nm (UInt8.ofNat n.val) = true → isBl (UInt8.ofNat n.val) = false ∧ UInt8.ofNat n.val ≠ 10 ∧ UInt8.ofNat n.val ≠ 35 := by decide +kernel
  have := this ⟨b.toNat, u8_lt b⟩
  simp only [UInt8.ofNat_toNat] at this
  exact this h
theorem runN_cons (b : UInt8) (l : List UInt8) : runN (b :: l) = if nm b then runN l + 1 else 0 := by
  unfold runN
  rw [List.takeWhile_cons]
  split <;> simp
theorem runN_app : ∀ {w : List UInt8} (r : List UInt8), runN w = w.length → runN (w ++ r) = w.length + runN r
  | [], r, _ => by simp
  | b :: w, r, h => by
    rw [runN_cons] at h
    rw [List.cons_append, runN_cons]
    split at h
    · rename_i hb
      rw [if_pos hb, runN_app r (by simpa using h)]
      simp; omega
    · simp at h
theorem runN_sepr {r : List UInt8} (h : sepr r) : runN r = 0 := by
  rcases h with rfl | ⟨b, r', rfl, hb⟩
  · rfl
  · rw [runN_cons, if_neg]
    revert b; decide
theorem signs_find : ∀ w ∈ signsL, ∀ r, sepr r → signsL.find? (·.isPrefixOf (w ++ r)) = some w := by
  intro w hw r hr
  rcases hr with rfl | ⟨b, r', rfl, hb⟩
  · rw [List.append_nil]
    revert w; decide +kernel
  · simp only [List.mem_cons, List.not_mem_nil, or_false] at hb
    simp only [signsL, List.mem_cons, List.not_mem_nil, or_false] at hw
    rcases hb with rfl | rfl | rfl | rfl <;> rcases hw with rfl | rfl | rfl | rfl | rfl | rfl | rfl | rfl | rfl | rfl | rfl | rfl | rfl | rfl | rfl | rfl | rfl | rfl | rfl | rfl | rfl | rfl | rfl | rfl | rfl <;> rfl
theorem signs_head : ∀ w ∈ signsL, ∃ b r, w = b :: r ∧ nm b = false ∧ isBl b = false ∧ b ≠ 10 ∧ b ≠ 35 := by
  intro w hw
  have : ∀ w ∈ signsL, w ≠ [] ∧ nm (w.headD 0) = false ∧ isBl (w.headD 0) = false ∧ w.headD 0 ≠ 10 ∧ w.headD 0 ≠ 35 := by decide +kernel
  obtain ⟨h1, h2⟩ := this w hw
  cases w with
  | nil => exact absurd rfl h1
  | cons b r => exact ⟨b, r, rfl, h2⟩
theorem skip_here {b : UInt8} {r : List UInt8} (m : Int) (h : isBl b = false ∧ b ≠ 10 ∧ b ≠ 35) : skip false (b :: r) m = (b :: r, m) := by
  simp [skip, h.1, h.2.1, h.2.2]
theorem scanW_good {t : Tok} (ht : good t) {r : List UInt8} (hr : sepr r) (m : Int) : scanW (t.text ++ r) m = ({ t with line := m } :: (scanW r m).1, (scanW r m).2) := by
  obtain ⟨kind, w, n, line⟩ := t
  rcases ht with ⟨h0, h1, h2⟩ | ⟨h1, h2, h3⟩
  · simp only at h0 h1 h2 ⊢
    have hrun : runN (w ++ r) = w.length := by rw [runN_app r h1, runN_sepr hr]; rfl
    obtain ⟨b, w', hw⟩ : ∃ b w', w = b :: w' := by cases w with | nil => simp at h0 | cons b w' => exact ⟨b, w', rfl⟩
    have hb : nm b = true := by
      rw [hw, runN_cons] at h1
      cases hb : nm b with
      | true => rfl
      | false => rw [hb] at h1; simp at h1
    have hs : skip false (w ++ r) m = (w ++ r, m) := by rw [hw]; exact skip_here m (nm_not hb)
    unfold scanW
    rw [hs]
    have hc : w ++ r = b :: (w' ++ r) := by rw [hw]; rfl
    have hun : scanP ((w ++ r).length + 1) (w ++ r) m = ({ (oneS ((w ++ r).take (runN (w ++ r)))).1 with line := m } :: (scanP (w ++ r).length (skip false ((w ++ r).drop (runN (w ++ r))) m).1 (skip false ((w ++ r).drop (runN (w ++ r))) m).2).1,
          (scanP (w ++ r).length (skip false ((w ++ r).drop (runN (w ++ r))) m).1 (skip false ((w ++ r).drop (runN (w ++ r))) m).2).2) := by
      have h3 : 0 < runN (w ++ r) := by omega
      have h4 : (oneS ((w ++ r).take (runN (w ++ r)))).2 = true := by rw [hrun, List.take_left, h2]
      rw [hc] at h3 h4 ⊢
      rw [scanP, if_pos h3, if_pos h4]
    simp only
    rw [hun, hrun, List.take_left, List.drop_left, h2]
    have := scanW_fuel r m (k := (w ++ r).length) (by simp; omega)
    rw [this]
    rfl
  · simp only at h1 h2 h3 ⊢
    subst h2; subst h3
    have hf := signs_find w h1 r hr
    obtain ⟨b, w', hw, hb, hb'⟩ := signs_head w h1
    have hrun : runN (w ++ r) = 0 := by rw [hw, List.cons_append, runN_cons, hb]; rfl
    have hs : skip false (w ++ r) m = (w ++ r, m) := by rw [hw]; exact skip_here m hb'
    have hun : scanP ((w ++ r).length + 1) (w ++ r) m = (⟨4, w, 0, m⟩ :: (scanP (w ++ r).length (skip false ((w ++ r).drop w.length) m).1 (skip false ((w ++ r).drop w.length) m).2).1,
          (scanP (w ++ r).length (skip false ((w ++ r).drop w.length) m).1 (skip false ((w ++ r).drop w.length) m).2).2) := by
      have hc : w ++ r = b :: (w' ++ r) := by rw [hw]; rfl
      rw [hc] at hrun hf ⊢
      rw [scanP, if_neg (by omega), hf]
    unfold scanW
    rw [hs]
    simp only
    rw [hun, List.drop_left]
    have := scanW_fuel r m (k := (w ++ r).length) (by rw [hw]; simp; omega)
    rw [this]
    rfl
theorem scanW_nil (m : Int) : scanW [] m = ([], m, true) := rfl
end Go.Eng.Tk

set_option linter.unusedSimpArgs false
set_option linter.unusedVariables false
namespace Go.Eng.Tk
open Go Go.Eng Go.Proofs

/-! ### plain laws of numbers -/
theorem parse_app {base : Nat} : ∀ (a b : List UInt8) (n : Nat), parse base (a ++ b) n = (parse base a n).bind (parse base b)
  | [], b, n => rfl
  | x :: a, b, n => by
    rw [List.cons_append]
    unfold parse
    cases dig x with
    | none => rfl
    | some d =>
      simp only
      split
      · rfl
      · split
        · rfl
        · exact parse_app a b _
theorem dig_dec : ∀ d : Fin 10, dig (UInt8.ofNat (48 + d.val)) = some d.val := by decide +kernel
theorem parse_decL : ∀ (n : Nat), parse 10 (decL n) 0 = if n ≤ 4294967295 then some n else none := by
  intro n
  induction n using Nat.strongRecOn with
  | _ n ih =>
  have hd := dig_dec ⟨n % 10, Nat.mod_lt _ (by omega)⟩
  simp only at hd
  rw [decL]
  split
  · rename_i h10
    rw [parse_app, ih (n / 10) (by omega)]
    by_cases hs : n / 10 ≤ 4294967295
    · rw [if_pos hs]
      simp only [Option.bind_some, parse, hd]
      rw [if_neg (by omega)]
      by_cases hn : n ≤ 4294967295
      · rw [if_pos hn, if_neg (by omega)]; congr 1; omega
      · rw [if_neg hn, if_pos (by omega)]
    · rw [if_neg hs, if_neg (by omega)]; rfl
  · rename_i h10
    simp only [parse, hd]
    rw [if_neg (by omega), if_neg (by omega), if_pos (by omega)]
    congr 1; omega
theorem hexD_dig : ∀ d : Fin 16, ∃ b, (hexD.take (d.val + 1)).drop d.val = [b] ∧ dig b = some d.val ∧ Lib.lowerB b = b ∧ nm b = true := by
  intro d
  have : ∀ d : Fin 16, (hexD.take (d.val + 1)).drop d.val = [hexD.getD d.val 0] ∧ dig (hexD.getD d.val 0) = some d.val ∧ Lib.lowerB (hexD.getD d.val 0) = hexD.getD d.val 0 ∧ nm (hexD.getD d.val 0) = true := by decide +kernel
  exact ⟨_, this d⟩
theorem parse_hexL : ∀ (n : Nat), parse 16 (hexL n) 0 = if n ≤ 4294967295 then some n else none := by
  intro n
  induction n using Nat.strongRecOn with
  | _ n ih =>
  obtain ⟨b, hb, hd, _⟩ := hexD_dig ⟨n % 16, Nat.mod_lt _ (by omega)⟩
  simp only at hb hd
  rw [hexL, hb]
  split
  · rename_i h10
    rw [parse_app, ih (n / 16) (by omega)]
    by_cases hs : n / 16 ≤ 4294967295
    · rw [if_pos hs]
      simp only [Option.bind_some, parse, hd]
      rw [if_neg (by omega)]
      by_cases hn : n ≤ 4294967295
      · rw [if_pos hn, if_neg (by omega)]; congr 1; omega
      · rw [if_neg hn, if_pos (by omega)]
    · rw [if_neg hs, if_neg (by omega)]; rfl
  · rename_i h10
    simp only [parse, hd]
    rw [if_neg (by omega), if_neg (by omega), if_pos (by omega)]
    congr 1; omega
/-- digits -/
def isDg (b : UInt8) : Bool := decide (48 ≤ b.toNat) && decide (b.toNat ≤ 57)
theorem decL_dig (n : Nat) : ∀ b ∈ decL n, isDg b = true := by
  induction n using Nat.strongRecOn with
  | _ n ih =>
  have h1 : isDg (UInt8.ofNat (48 + n % 10)) = true := by
    have : ∀ d : Fin 10, isDg (UInt8.ofNat (48 + d.val)) = true := by decide +kernel
    exact this ⟨n % 10, Nat.mod_lt _ (by omega)⟩
  rw [decL]
  split
  · intro b hb
    rcases List.mem_append.1 hb with hb | hb
    · exact ih (n / 10) (by omega) b hb
    · rw [List.mem_singleton.1 hb]; exact h1
  · intro b hb; rw [List.mem_singleton.1 hb]; exact h1
theorem hexL_dig (n : Nat) : ∀ b ∈ hexL n, Lib.lowerB b = b ∧ nm b = true := by
  induction n using Nat.strongRecOn with
  | _ n ih =>
  obtain ⟨c, hc, _, h1⟩ := hexD_dig ⟨n % 16, Nat.mod_lt _ (by omega)⟩
  simp only at hc
  rw [hexL, hc]
  split
  · intro b hb
    rcases List.mem_append.1 hb with hb | hb
    · exact ih (n / 16) (by omega) b hb
    · rw [List.mem_singleton.1 hb]; exact h1
  · intro b hb; rw [List.mem_singleton.1 hb]; exact h1
theorem dg_facts {b : UInt8} (h : isDg b = true) : Lib.lowerB b = b ∧ nm b = true ∧ b ≠ 120 ∧ b.toNat ≤ 57 := by
  have : ∀ n : Fin 256, isDg (UInt8.ofNat n.val) = true → Lib.lowerB (UInt8.ofNat n.val) = UInt8.ofNat n.val ∧ nm (UInt8.ofNat n.val) = true ∧ UInt8.ofNat n.val ≠ 120 ∧ (UInt8.ofNat n.val).toNat ≤ 57 := by decide +kernel
  have := this ⟨b.toNat, u8_lt b⟩
  simp only [UInt8.ofNat_toNat] at this
  exact this h
theorem decL_ne (n : Nat) : ∃ b r, decL n = b :: r ∧ isDg b = true := by
  have h := decL_dig n
  have hl : decL n ≠ [] := by rw [decL]; split <;> simp
  cases hd : decL n with
  | nil => exact absurd hd hl
  | cons b r => exact ⟨b, r, rfl, h b (by rw [hd]; simp)⟩
theorem decL_head (n : Nat) (hn : 0 < n) : (decL n).head? ≠ some 48 := by
  induction n using Nat.strongRecOn with
  | _ n ih =>
  rw [decL]
  split
  · rename_i h10
    obtain ⟨b, r, hb, _⟩ := decL_ne (n / 10)
    have := ih (n / 10) (by omega) (by omega)
    rw [hb] at this ⊢
    simpa using this
  · rename_i h10
    have : ∀ d : Fin 10, 0 < d.val → UInt8.ofNat (48 + d.val % 10) ≠ 48 := by decide +kernel
    have := this ⟨n, by omega⟩ hn
    simpa using this
theorem low_map {l : List UInt8} (h : ∀ b ∈ l, Lib.lowerB b = b) : Lib.toLowerA l = l := by
  unfold Lib.toLowerA
  conv => rhs; rw [← List.map_id l]
  exact List.map_congr_left fun b hb => by simpa using h b hb
theorem runN_all {l : List UInt8} (h : ∀ b ∈ l, nm b = true) : runN l = l.length := by
  induction l with
  | nil => rfl
  | cons b r ih => rw [runN_cons, if_pos (h b (by simp)), ih fun x hx => h x (by simp [hx])]; rfl
theorem pre_dec {l : List UInt8} (h : ∀ b ∈ l, b ≠ 120) : [48, 120].isPrefixOf l = false := by
  cases hp : [48, 120].isPrefixOf l with
  | false => rfl
  | true =>
    obtain ⟨r, hr⟩ := List.isPrefixOf_iff_prefix.1 hp
    exact absurd rfl (h 120 (by rw [← hr]; simp))
theorem digs_dec {l : List UInt8} (h : ∀ b ∈ l, b ≠ 120) : digs l = (l, 10) := by
  unfold digs; rw [pre_dec h]; rfl
theorem digs_hex (l : List UInt8) : digs ([48, 120] ++ l) = (l, 16) := rfl
theorem parseU_ne {base : Nat} {l : List UInt8} (h : l ≠ []) : parseU base l = parse base l 0 := by
  cases l with
  | nil => exact absurd rfl h
  | cons => rfl
theorem number_dec {k : Nat} (hk : k ≤ 4294967295) : number (decL k) = some k := by
  have hd : ∀ b ∈ decL k, b ≠ 120 := fun b hb => (dg_facts (decL_dig k b hb)).2.2.1
  obtain ⟨b, r, hb, _⟩ := decL_ne k
  have hne : decL k ≠ [] := by rw [hb]; simp
  have hl := decL_len 9 k (by omega)
  have hlow := low_map fun b hb => (dg_facts (decL_dig k b hb)).1
  unfold number nought
  rw [digs_dec hd]
  simp only
  rw [parseU_ne hne, parse_decL, if_pos hk]
  simp only
  rw [if_neg]
  simp only [hlow, Bool.or_eq_true, Bool.and_eq_true, decide_eq_true_eq, beq_iff_eq, Bool.not_eq_true', beq_self_eq_true, Bool.not_true, Bool.false_eq_true, or_false, true_and, not_or, not_and]
  refine ⟨by omega, fun h1 h2 => ?_⟩
  rcases Nat.eq_zero_or_pos k with rfl | hp
  · have : (decL 0).length = 1 := by rw [decL]; rfl
    omega
  · exact decL_head k hp h2
theorem number_hex {k : Nat} (hk : k ≤ 4294967295) : number ([48, 120] ++ hexL k) = some k := by
  have hne : hexL k ≠ [] := by
    obtain ⟨c, hc, _⟩ := hexD_dig ⟨k % 16, Nat.mod_lt _ (by omega)⟩
    simp only at hc
    rw [hexL, hc]; split <;> simp
  have hl := hexL_len 7 k (by omega)
  have hlow := low_map fun b hb => (hexL_dig k b hb).1
  unfold number nought
  rw [digs_hex]
  simp only
  rw [parseU_ne hne, parse_hexL, if_pos hk]
  simp only
  rw [if_neg]
  simp [hlow]
  omega
theorem number_decBig {k : Nat} (hk : 4294967295 < k) : number (decL k) = none := by
  have hd : ∀ b ∈ decL k, b ≠ 120 := fun b hb => (dg_facts (decL_dig k b hb)).2.2.1
  obtain ⟨b, r, hb, _⟩ := decL_ne k
  have hne : decL k ≠ [] := by rw [hb]; simp
  unfold number nought
  rw [digs_dec hd]
  simp only
  rw [parseU_ne hne, parse_decL, if_neg (by omega)]
theorem number_hexBig {k : Nat} (hk : 4294967295 < k) : number ([48, 120] ++ hexL k) = none := by
  have hne : hexL k ≠ [] := by
    obtain ⟨c, hc, _⟩ := hexD_dig ⟨k % 16, Nat.mod_lt _ (by omega)⟩
    simp only at hc
    rw [hexL, hc]; split <;> simp
  unfold number nought
  rw [digs_hex]
  simp only
  rw [parseU_ne hne, parse_hexL, if_neg (by omega)]
theorem number_nought (k : Nat) : number ([48] ++ decL k) = none := by
  have hd : ∀ b ∈ [48] ++ decL k, b ≠ 120 := by
    intro b hb
    rcases List.mem_append.1 hb with hb | hb
    · rw [List.mem_singleton.1 hb]; decide
    · exact (dg_facts (decL_dig k b hb)).2.2.1
  unfold number nought
  rw [digs_dec hd]
  simp only
  split
  · rfl
  · rw [if_pos]
    obtain ⟨b, r, hb, _⟩ := decL_ne k
    rw [hb]
    simp

/-! #### pieces -/
theorem word_head {l : List UInt8} (h : isWord l = true) : ∃ b r, l = b :: r ∧ 57 < b.toNat := by
  have : ∀ w ∈ wordsL, w ≠ [] ∧ 57 < (w.headD 0).toNat := by decide +kernel
  obtain ⟨h1, h2⟩ := this l (by simpa [isWord] using h)
  cases l with
  | nil => exact absurd rfl h1
  | cons b r => exact ⟨b, r, rfl, h2⟩
/-- what begins with a digit is no name and no word -/
theorem digit_head {b : UInt8} {r : List UInt8} (h : b.toNat ≤ 57) : isWord (b :: r) = false ∧ isName (b :: r) = false := by
  constructor
  · cases hw : isWord (b :: r) with
    | false => rfl
    | true =>
      obtain ⟨b', r', he, hb⟩ := word_head hw
      cases he; omega
  · unfold isName
    have : ¬ (57 : Int) < (b.toNat : Int) := by omega
    simp [this]
theorem good_num {l : List UInt8} {k : Nat} (h : number l = some k) (hn : ∀ b ∈ l, nm b = true) {b : UInt8} {r : List UInt8} (hl : l = b :: r) (hb : b.toNat ≤ 57) : good ⟨3, l, k, 0⟩ := by
  obtain ⟨h1, h2⟩ := digit_head (r := r) hb
  rw [← hl] at h1 h2
  refine .inl ⟨by rw [hl]; simp, runN_all hn, ?_⟩
  simp only [oneS, h1, h2, h]
  rfl
theorem good_dec {k : Nat} (hk : k ≤ 4294967295) : good ⟨3, decL k, k, 0⟩ := by
  obtain ⟨b, r, hb, hd⟩ := decL_ne k
  exact good_num (number_dec hk) (fun b hb => (dg_facts (decL_dig k b hb)).2.1) hb (dg_facts hd).2.2.2
theorem good_hex {k : Nat} (hk : k ≤ 4294967295) : good ⟨3, [48, 120] ++ hexL k, k, 0⟩ := by
  refine good_num (number_hex hk) ?_ (b := 48) (r := 120 :: hexL k) rfl (by decide)
  intro b hb
  rcases List.mem_append.1 hb with hb | hb
  · have : ∀ b ∈ ([48, 120] : List UInt8), nm b = true := by decide
    exact this b hb
  · exact (hexL_dig k b hb).2
theorem good_word : ∀ w ∈ wordsL, good ⟨2, w, 0, 0⟩ := by
  intro w hw
  have : ∀ w ∈ wordsL, 0 < w.length ∧ runN w = w.length ∧ isWord w = true := by decide +kernel
  obtain ⟨h1, h2, h3⟩ := this w hw
  refine .inl ⟨h1, h2, ?_⟩
  unfold oneS; rw [h3]; rfl
/-- digits, so many -/
def decF : Nat → Nat → List UInt8
  | 0, n => [UInt8.ofNat (48 + n % 10)]
  | f + 1, n => if 10 ≤ n then decF f (n / 10) ++ [UInt8.ofNat (48 + n % 10)] else [UInt8.ofNat (48 + n % 10)]
theorem decL_F : ∀ (f n : Nat), n < 10 ^ (f + 1) → decL n = decF f n
  | 0, n, h => by rw [decL, if_neg (by omega)]; rfl
  | f + 1, n, h => by
    rw [decL, decF]
    split
    · rw [decL_F f (n / 10) (by rw [Nat.pow_succ] at h; omega)]
    · rfl
def varF (k : Nat) : List UInt8 := if 10 ≤ k then namesL.getD (k % 10) [] ++ decF 2 k else namesL.getD (k % 10) []
theorem varF_all : (List.range 300).all (fun k => decide (0 < (varF k).length) && (runN (varF k) == (varF k).length) && !isWord (varF k) && isName (varF k)) = true := by kernel_rfl
theorem var_good {k : Nat} (hk : k < 300) : 0 < (varK k).length ∧ runN (varK k) = (varK k).length ∧ isWord (varK k) = false ∧ isName (varK k) = true := by
  have he : varK k = varF k := by unfold varK varF; rw [decL_F 2 k (by omega)]
  have := List.all_eq_true.1 varF_all k (List.mem_range.2 hk)
  simp only [Bool.and_eq_true, decide_eq_true_eq, beq_iff_eq, Bool.not_eq_true'] at this
  rw [he]
  exact ⟨this.1.1.1, this.1.1.2, this.1.2, this.2⟩
theorem good_var {k : Nat} (hk : k < 300) : good ⟨1, varK k, 0, 0⟩ := by
  obtain ⟨h1, h2, h3, h4⟩ := var_good hk
  refine .inl ⟨h1, h2, ?_⟩
  unfold oneS; rw [h3, h4]; rfl
/-- the token of a piece -/
def pieceT (kind n : Int) : Tok := ⟨(pieceL kind n).2, (pieceL kind n).1, if (pieceL kind n).2 = 3 then pick n 4294967296 else 0, 0⟩
theorem piece_good {kind n : Int} (hk : inI kind) (hn : inI n) : good (pieceT kind n) := by
  unfold pieceT pieceL
  split
  · have h13 := (pickN_lt hn (n := 13) (by omega)).1
    exact good_word _ (List.mem_of_getElem? (getD_some (l := wordsL) h13 []))
  · split
    · have h25 := (pickN_lt hn (n := 25) (by omega)).1
      exact .inr ⟨List.mem_of_getElem? (getD_some (l := signsL) h25 []), rfl, rfl⟩
    · split
      · obtain ⟨h1, h2⟩ := pickN_lt hn (n := 4294967296) (by omega)
        have h2' : pick n 4294967296 = ((pickN n 4294967296 : Nat) : Int) := h2.symm
        simp only [if_true, h2']
        split
        · exact good_hex (by omega)
        · exact good_dec (by omega)
      · have h := (pickN_lt hn (n := 300) (by omega)).1
        exact good_var h
end Go.Eng.Tk

set_option linter.unusedSimpArgs false
set_option linter.unusedVariables false
namespace Go.Eng.Tk
open Go Go.Eng Go.Proofs

theorem heapOf_sl {slots : List Slot} {i n c : Nat} {isNil : Bool} {s : Slot} (hs : slots[i]? = some s) {xs : List (List Value)} (hn : xs.length = n) (hx : ∀ x ∈ xs, x.length = c) (hnil : isNil = true → n = 0)
    (hblk : isNil = false → ∃ loc, s = some (.blk xs.flatten false, loc)) : SlV (heapOf slots) c (absSlice i n c isNil) xs := by
  subst hn
  cases isNil with
  | true => exact .inl ⟨rfl, List.length_eq_zero_iff.1 (hnil rfl)⟩
  | false =>
    obtain ⟨loc, rfl⟩ := hblk rfl
    refine .inr ⟨i, 0, rfl, .inr ⟨_, _, by simp only [heapOf, hs]; rfl, fun j x hj => ?_⟩⟩
    obtain ⟨h1, h2⟩ := flatten_chunk hx j x hj
    exact ⟨hx x (List.mem_of_getElem? hj), by omega, by simpa using h2⟩
theorem wf_in {z : Int} (h : (Lit.int .i64 z).wf = true) : inI z := by
  simp [Lit.wf, IntKind.min, IntKind.max, IntKind.signed, IntKind.bits] at h
  exact ⟨by omega, by omega⟩
/-- a slice of pairs of ints -/
abbrev Raws (h : Heap) (v : Value) (l : List (Int × Int)) : Prop := SlV h 2 v (l.map fun r => [.int .i64 r.1, .int .i64 r.2])
theorem chunk2 : ∀ (n : Nat) (l : List Int), l.length = n * 2 → (∀ z ∈ l, (Lit.int .i64 z).wf = true) → ∃ raw : List (Int × Int), raw.length = n ∧ (∀ r ∈ raw, inI r.1 ∧ inI r.2) ∧ l.map (Value.int .i64) = (raw.map fun r => [Value.int .i64 r.1, .int .i64 r.2]).flatten
  | 0, l, h, _ => ⟨[], rfl, by simp, by have : l = [] := List.length_eq_zero_iff.1 (by omega); subst this; rfl⟩
  | n + 1, l, h, hw => by
    match l, h with
    | a :: b :: r, h =>
      obtain ⟨raw, h1, h2, h3⟩ := chunk2 n r (by simp at h; omega) fun z hz => hw z (by simp [hz])
      refine ⟨(a, b) :: raw, by simp [h1], ?_, by simp [h3]⟩
      intro x hx
      rcases List.mem_cons.1 hx with rfl | hx
      · exact ⟨wf_in (hw _ (by simp)), wf_in (hw _ (by simp))⟩
      · exact h2 x hx
    | [], h => simp at h
    | [_], h => simp at h; omega
theorem raws_of {slots : List Slot} {i n : Nat} {isNil : Bool} {s : Slot} (hs : slots[i]? = some s) {l : List Int} (hl : l.length = n * 2) (hwf : ∀ z ∈ l, (Lit.int .i64 z).wf = true) (hnil : isNil = true → n = 0)
    (hblk : isNil = false → ∃ loc, s = some (.blk (l.map (.int .i64)) false, loc)) : ∃ raw : List (Int × Int), raw.length = n ∧ (∀ r ∈ raw, inI r.1 ∧ inI r.2) ∧ Raws (heapOf slots) (absSlice i n 2 isNil) raw := by
  obtain ⟨raw, h1, h2, h3⟩ := chunk2 n l hl hwf
  refine ⟨raw, h1, h2, heapOf_sl hs (by simp [h1]) ?_ hnil (by rw [← h3]; exact hblk)⟩
  intro x hx
  obtain ⟨z, _, rfl⟩ := List.mem_map.1 hx
  rfl
theorem flat_ints (l : List Int) : (l.map fun z => [Value.int .i64 z]).flatten = l.map (.int .i64) := by
  induction l with
  | nil => rfl
  | cons a l ih => simp [ih]
theorem ints_of {slots : List Slot} {i n : Nat} {isNil : Bool} {s : Slot} (hs : slots[i]? = some s) {l : List Int} (hl : l.length = n * 1) (hnil : isNil = true → n = 0)
    (hblk : isNil = false → ∃ loc, s = some (.blk (l.map (.int .i64)) false, loc)) : Ints (heapOf slots) (absSlice i n 1 isNil) l := by
  refine heapOf_sl hs (by simp; omega) ?_ hnil (by rw [flat_ints]; exact hblk)
  intro x hx
  obtain ⟨z, _, rfl⟩ := List.mem_map.1 hx
  rfl
theorem Raws.len {h : Heap} {v : Value} {l : List (Int × Int)} (hv : Raws h v l) : pLenS [v] = some (.int .i64 l.length) := by have := SlV.len hv; simpa using this
theorem Raws.elem {h : Heap} {v : Value} {l : List (Int × Int)} (hv : Raws h v l) {i : Nat} {r : Int × Int} (hi : l[i]? = some r) :
    ∃ id off cells own, pIdxAddrS 2 [v, .int .i64 i] = some (.pointer (some ⟨id, off, none⟩)) ∧ h.get id = some (.blk cells own) ∧ cells[off]? = some (.int .i64 r.1) ∧ cells[off + 1]? = some (.int .i64 r.2) := by
  obtain ⟨id, off, cells, own, h1, h2, h3, h4⟩ := SlV.elem hv (i := i) (x := [.int .i64 r.1, .int .i64 r.2]) (by simp [hi])
  exact ⟨id, off, cells, own, h1, h2, by have := h4 0 (by omega); rwa [Nat.add_zero] at this, h4 1 (by omega)⟩
end Go.Eng.Tk

set_option linter.unusedSimpArgs false
set_option linter.unusedVariables false
namespace Go.Eng.Tk
open Go Go.Eng Go.Proofs

/-- letters and digits that are no token -/
theorem scanW_bad {w : List UInt8} (h0 : 0 < w.length) (h1 : runN w = w.length) (h2 : (oneS w).2 = false) {r : List UInt8} (hr : sepr r) (m : Int) : scanW (w ++ r) m = ([], m, false) := by
  have hrun : runN (w ++ r) = w.length := by rw [runN_app r h1, runN_sepr hr]; rfl
  obtain ⟨b, w', hw⟩ : ∃ b w', w = b :: w' := by cases w with | nil => simp at h0 | cons b w' => exact ⟨b, w', rfl⟩
  have hb : nm b = true := by
    rw [hw, runN_cons] at h1
    cases hb : nm b with
    | true => rfl
    | false => rw [hb] at h1; simp at h1
  have hs : skip false (w ++ r) m = (w ++ r, m) := by rw [hw]; exact skip_here m (nm_not hb)
  have hc : w ++ r = b :: (w' ++ r) := by rw [hw]; rfl
  have h3 : 0 < runN (w ++ r) := by omega
  have h4 : ¬ (oneS ((w ++ r).take (runN (w ++ r)))).2 = true := by rw [hrun, List.take_left, h2]; simp
  unfold scanW
  rw [hs]
  simp only
  rw [hc] at h3 h4 ⊢
  rw [scanP, if_pos h3, if_neg h4]
/-- a byte that begins nothing -/
def badL : List UInt8 := [64, 36, 63, 58, 44, 34, 39, 96, 92]
theorem bad_facts : ∀ b ∈ badL, nm b = false ∧ isBl b = false ∧ b ≠ 10 ∧ b ≠ 35 := by decide +kernel
theorem bad_find : ∀ b ∈ badL, ∀ r : List UInt8, signsL.find? (·.isPrefixOf (b :: r)) = none := by
  intro b hb r
  simp only [badL, List.mem_cons, List.not_mem_nil, or_false] at hb
  rcases hb with rfl | rfl | rfl | rfl | rfl | rfl | rfl | rfl | rfl <;> rfl
theorem scanW_badb {b : UInt8} (hb : b ∈ badL) (r : List UInt8) (m : Int) : scanW (b :: r) m = ([], m, false) := by
  obtain ⟨h1, h2⟩ := bad_facts b hb
  have hs : skip false (b :: r) m = (b :: r, m) := skip_here m h2
  have hrun : runN (b :: r) = 0 := by rw [runN_cons, h1]; rfl
  unfold scanW
  rw [hs]
  simp only
  rw [scanP, if_neg (by omega), bad_find b hb r]
theorem letter_facts : ∀ j : Fin 20, ∃ d, dig (UInt8.ofNat (103 + j.val)) = some d ∧ 16 ≤ d ∧ nm (UInt8.ofNat (103 + j.val)) = true := by
  intro j
  have : ∀ j : Fin 20, dig (UInt8.ofNat (103 + j.val)) = some (16 + j.val) ∧ nm (UInt8.ofNat (103 + j.val)) = true := by decide +kernel
  exact ⟨_, (this j).1, by omega, (this j).2⟩
theorem number_letter {k : Nat} (hk : k ≤ 4294967295) (j : Fin 20) : number (decL k ++ [UInt8.ofNat (103 + j.val)]) = none := by
  obtain ⟨d, hd, hd16, _⟩ := letter_facts j
  obtain ⟨g, hg⟩ : ∃ g, UInt8.ofNat (103 + j.val) = g := ⟨_, rfl⟩
  rw [hg] at hd ⊢
  obtain ⟨b, r, hb, _⟩ := decL_ne k
  have hne : decL k ++ [g] ≠ [] := by simp
  have hp : parse 10 (decL k ++ [g]) 0 = none := by
    rw [parse_app, parse_decL, if_pos hk]
    simp only [Option.bind_some, parse, hd]
    rw [if_pos (by omega)]
  by_cases hpre : [48, 120].isPrefixOf (decL k ++ [g]) = true
  · -- 0x, and no digit behind
    have hr : r = [] := by
      cases r with
      | nil => rfl
      | cons c r' =>
        rw [hb] at hpre
        have hc : isDg c = true := decL_dig k c (by rw [hb]; simp)
        have h1 := (dg_facts hc).2.2.1
        simp [List.isPrefixOf] at hpre
        exact absurd hpre.2.symm h1
    have hdg : digs (decL k ++ [g]) = ([], 16) := by
      unfold digs
      rw [if_pos hpre, hb, hr]
      rfl
    unfold number
    rw [hdg]
    rfl
  · have hdg : digs (decL k ++ [g]) = (decL k ++ [g], 10) := by unfold digs; rw [if_neg hpre]
    unfold number
    rw [hdg]
    simp only
    rw [parseU_ne hne, hp]
theorem scanR_letter {k : Nat} (hk : k ≤ 4294967295) (j : Fin 20) : scanR (decL k ++ [UInt8.ofNat (103 + j.val)]) = ([], 50, 1) := by
  have hnu := number_letter hk j
  obtain ⟨d, hd, hd16, hnm⟩ := letter_facts j
  obtain ⟨g, hg⟩ : ∃ g, UInt8.ofNat (103 + j.val) = g := ⟨_, rfl⟩
  rw [hg] at hnu hnm ⊢
  obtain ⟨b, r, hb, hdb⟩ := decL_ne k
  have hlen := decL_len 9 k (by omega)
  have hall : ∀ c ∈ decL k ++ [g], nm c = true := by
    intro c hc
    rcases List.mem_append.1 hc with hc | hc
    · exact (dg_facts (decL_dig k c hc)).2.1
    · rw [List.mem_singleton.1 hc]; exact hnm
  obtain ⟨h1, h2⟩ := digit_head (r := r ++ [g]) (dg_facts hdb).2.2.2
  have hone : (oneS (decL k ++ [g])).2 = false := by
    have e : b :: (r ++ [g]) = decL k ++ [g] := by rw [hb]; rfl
    rw [e] at h1 h2
    simp only [oneS, h1, h2, hnu]
    rfl
  have hs := scanW_bad (w := decL k ++ [g]) (by simp) (runN_all hall) hone (r := []) (.inl rfl) 1
  rw [List.append_nil] at hs
  unfold scanR
  rw [if_neg (by simp; omega), scanS_W, hs]
  rfl
theorem name_dec (k : Nat) : isName (decL k) = false := by
  obtain ⟨b, r, hb, hd⟩ := decL_ne k
  rw [hb]
  exact (digit_head (dg_facts hd).2.2.2).2
end Go.Eng.Tk

set_option linter.unusedSimpArgs false
set_option linter.unusedVariables false
namespace Go.Eng.Tk
open Go Go.Eng Go.Proofs

/-! ### texts of many tokens -/
def seqT (ps : List (Tok × List UInt8)) : List UInt8 := ps.flatMap fun p => p.1.text ++ p.2
/-- the tokens with their lines, and the line behind them -/
def linesM : List (Tok × List UInt8) → Int → List Tok × Int
  | [], m => ([], m)
  | p :: r, m => ({ p.1 with line := m } :: (linesM r (m + (feedsN p.2 : Int))).1, (linesM r (m + (feedsN p.2 : Int))).2)
def goodS (ps : List (Tok × List UInt8)) : Prop := ∀ p ∈ ps, good p.1 ∧ p.2 ∈ spaces
theorem scanW_seq : ∀ {ps : List (Tok × List UInt8)}, goodS ps → ∀ (r : List UInt8) (m : Int), scanW (seqT ps ++ r) m = ((linesM ps m).1 ++ (scanW r (linesM ps m).2).1, (scanW r (linesM ps m).2).2)
  | [], _, r, m => by simp [seqT, linesM]
  | p :: ps, h, r, m => by
    have h1 := h p (by simp)
    have e : seqT (p :: ps) ++ r = p.1.text ++ (p.2 ++ (seqT ps ++ r)) := by simp [seqT, List.append_assoc]
    rw [e, scanW_good h1.1 (sepr_blank h1.2 _), scanW_blank h1.2, scanW_seq (fun q hq => h q (by simp [hq]))]
    simp [linesM]
theorem seqT_snoc (ps : List (Tok × List UInt8)) (p : Tok × List UInt8) : seqT (ps ++ [p]) = seqT ps ++ p.1.text ++ p.2 := by simp [seqT]
theorem linesM_snoc : ∀ (ps : List (Tok × List UInt8)) (p : Tok × List UInt8) (m : Int), linesM (ps ++ [p]) m = ((linesM ps m).1 ++ [{ p.1 with line := (linesM ps m).2 }], (linesM ps m).2 + (feedsN p.2 : Int))
  | [], p, m => by simp [linesM]
  | q :: ps, p, m => by simp [linesM, linesM_snoc ps p]
theorem feedsN_app (a b : List UInt8) : feedsN (a ++ b) = feedsN a + feedsN b := by simp [feedsN]
theorem good_feeds {t : Tok} (h : good t) : feedsN t.text = 0 := by
  unfold feedsN
  rw [List.count_eq_zero]
  rcases h with ⟨_, h1, _⟩ | ⟨h1, _⟩
  · have : ∀ l : List UInt8, runN l = l.length → ∀ b ∈ l, nm b = true := by
      intro l
      induction l with
      | nil => simp
      | cons a r ih =>
        intro h b hb
        rw [runN_cons] at h
        split at h
        · rename_i ha
          rcases List.mem_cons.1 hb with rfl | hb
          · exact ha
          · exact ih (by simpa using h) b hb
        · simp at h
    intro h10
    exact (nm_not (this _ h1 10 h10)).2.1 rfl
  · have : ∀ w ∈ signsL, (10 : UInt8) ∉ w := by decide +kernel
    exact this _ h1
theorem linesM_line : ∀ {ps : List (Tok × List UInt8)}, goodS ps → ∀ m : Int, (linesM ps m).2 = m + (feedsN (seqT ps) : Int)
  | [], _, m => by simp [linesM, seqT, feedsN]
  | p :: ps, h, m => by
    have h1 := h p (by simp)
    have e : seqT (p :: ps) = p.1.text ++ (p.2 ++ seqT ps) := by simp [seqT, List.append_assoc]
    rw [e, feedsN_app, feedsN_app, good_feeds h1.1]
    simp only [linesM]
    rw [linesM_line (fun q hq => h q (by simp [hq]))]
    omega
/-- .. and of raw numbers -/
def pairAt (raw : List (Int × Int)) (bl : Nat → List UInt8) (i : Nat) : Tok × List UInt8 := (pieceT (raw.getD i (0, 0)).1 (raw.getD i (0, 0)).2, bl i)
def pairs (raw : List (Int × Int)) (bl : Nat → List UInt8) (n : Nat) : List (Tok × List UInt8) := (List.range n).map (pairAt raw bl)
theorem pairs_succ (raw : List (Int × Int)) (bl : Nat → List UInt8) (n : Nat) : pairs raw bl (n + 1) = pairs raw bl n ++ [pairAt raw bl n] := by
  simp [pairs, List.range_succ]
theorem inI0 : inI 0 := ⟨by decide, by decide⟩
theorem raw_ok {raw : List (Int × Int)} (h : ∀ r ∈ raw, inI r.1 ∧ inI r.2) (i : Nat) : inI (raw.getD i (0, 0)).1 ∧ inI (raw.getD i (0, 0)).2 := by
  rw [List.getD_eq_getElem?_getD]
  cases hi : raw[i]? with
  | none => exact ⟨inI0, inI0⟩
  | some r => exact h r (List.mem_of_getElem? hi)
theorem pairs_good {raw : List (Int × Int)} (h : ∀ r ∈ raw, inI r.1 ∧ inI r.2) {bl : Nat → List UInt8} (hb : ∀ i, bl i ∈ spaces) (n : Nat) : goodS (pairs raw bl n) := by
  intro p hp
  simp only [pairs, List.mem_map] at hp
  obtain ⟨i, _, rfl⟩ := hp
  obtain ⟨h1, h2⟩ := raw_ok h i
  exact ⟨piece_good h1 h2, hb i⟩
theorem piece_len {kind n : Int} (hn : inI n) : (pieceL kind n).1.length ≤ 20 := by
  unfold pieceL
  split
  · have h13 := (pickN_lt hn (n := 13) (by omega)).1
    have : ∀ w ∈ wordsL, w.length ≤ 20 := by decide +kernel
    exact this _ (List.mem_of_getElem? (getD_some (l := wordsL) h13 []))
  · split
    · have h25 := (pickN_lt hn (n := 25) (by omega)).1
      have : ∀ w ∈ signsL, w.length ≤ 20 := by decide +kernel
      exact this _ (List.mem_of_getElem? (getD_some (l := signsL) h25 []))
    · split
      · obtain ⟨h1, h2⟩ := pickN_lt hn (n := 4294967296) (by omega)
        split
        · have := hexL_len 7 (pickN n 4294967296) (by omega)
          simp; omega
        · have := decL_len 9 (pickN n 4294967296) (by omega)
          simp; omega
      · have h := (pickN_lt hn (n := 300) (by omega)).1
        have hn := (var_good h).2.2.2
        unfold isName at hn
        simp only
        unfold varL
        split at hn
        · cases hn
        · simp only [Bool.and_eq_true, decide_eq_true_eq] at hn
          rename_i b r he
          rw [he]
          exact hn.1.1.1
theorem space_len {x : List UInt8} (h : x ∈ spaces) : x.length ≤ 10 := by
  have : ∀ x ∈ spaces, x.length ≤ 10 := by decide +kernel
  exact this x h
theorem pairs_len {raw : List (Int × Int)} (h : ∀ r ∈ raw, inI r.1 ∧ inI r.2) {bl : Nat → List UInt8} (hb : ∀ i, bl i ∈ spaces) : ∀ n, (seqT (pairs raw bl n)).length ≤ 30 * n
  | 0 => by simp [pairs, seqT]
  | n + 1 => by
    rw [pairs_succ, seqT_snoc]
    have h1 := pairs_len h hb n
    have h2 := piece_len (kind := (raw.getD n (0, 0)).1) (raw_ok h n).2
    have h3 := space_len (hb n)
    have h4 : (pairAt raw bl n).1.text = (pieceL (raw.getD n (0, 0)).1 (raw.getD n (0, 0)).2).1 := rfl
    have h5 : (pairAt raw bl n).2 = bl n := rfl
    rw [h4, h5]
    simp only [List.length_append]
    omega
theorem blankL_space (l : List Int) (hok : ∀ z ∈ l, inI z) (i : Nat) : blankL l i ∈ spaces := by
  unfold blankL
  cases hz : l[i]? with
  | none => decide
  | some z =>
    have h8 := (pickN_lt (hok z (List.mem_of_getElem? hz)) (n := 8) (by omega)).1
    exact List.mem_append_left _ (List.mem_of_getElem? (getD_some (l := blanksL) h8 []))
theorem linesM_len : ∀ (ps : List (Tok × List UInt8)) (m : Int), (linesM ps m).1.length = ps.length
  | [], m => rfl
  | p :: ps, m => by simp [linesM, linesM_len ps]
theorem pairs_length (raw : List (Int × Int)) (bl : Nat → List UInt8) (n : Nat) : (pairs raw bl n).length = n := by simp [pairs]
theorem feedsN_le (l : List UInt8) : feedsN l ≤ l.length := List.count_le_length
/-- so many line feeds -/
theorem feeds_pairs {raw : List (Int × Int)} (h : ∀ r ∈ raw, inI r.1 ∧ inI r.2) : ∀ n, feedsN (seqT (pairs raw (fun _ => [10]) n)) = n
  | 0 => rfl
  | n + 1 => by
    have h1 := piece_good (raw_ok h n).1 (raw_ok h n).2
    have h2 := good_feeds h1
    rw [pairs_succ, seqT_snoc, feedsN_app, feedsN_app, feeds_pairs h n]
    show n + feedsN (pairAt raw (fun _ => [10]) n).1.text + feedsN [10] = n + 1
    have : (pairAt raw (fun _ => [10]) n).1.text = (pieceT (raw.getD n (0, 0)).1 (raw.getD n (0, 0)).2).text := rfl
    rw [this, h2]
    rfl
end Go.Eng.Tk

