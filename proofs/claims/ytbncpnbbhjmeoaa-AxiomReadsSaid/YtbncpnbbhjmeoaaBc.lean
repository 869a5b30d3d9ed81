/-
  Part of a proof of the laws of layer 12 (axiom): what each function does.
  Conditions: none.
-/
import Derived.Test.YtbncpnbbhjmeoaaBb
import Derived.Test.YtbncpnbbhjmeoaaEc
set_option linter.unusedSimpArgs false
set_option linter.unusedVariables false
namespace Go.Eng.Ax
open Go Go.Eng Go.Proofs

/-! ### plain: what a search never comes to -/
theorem neverFin {l : List Ev} {idx : Nat} {e : Ev} (he : l[idx]? = some e) (hacc : e.acc = true) (Inv : St → Prop)
    (hpres : ∀ s s' i ei, Inv s → s.p.testBit idx = false → i ≠ idx → l[i]? = some ei → freeF l s i = some s' → Inv s') (hno : ∀ s, Inv s → freeF l s idx = none) : ∀ s, Fin l s → Inv s → s.p.testBit idx = false → False := by
  intro s hF
  induction hF with
  | done s h => intro hi hb; rw [h idx e he hacc] at hb; cases hb
  | step s s' i ei h ha hb hf hr ih =>
    intro hi hbi
    by_cases hix : i = idx
    · subst hix; rw [hno s hi] at hf; cases hf
    · refine ih (hpres s s' i ei hi hbi hix h hf) ?_
      rw [free_p hf, testBit_mark, hbi]
      simpa using hix

theorem pendTo_mem {l : List Ev} {p i : Nat} : ∀ {m : Nat} {z : Int}, pendTo l p i m = some z → ∃ (k : Nat) (e : Ev), k < m ∧ l[k]? = some e ∧ e.kind = 2 ∧ e.n = z
  | 0, z, h => by simp [pendTo] at h
  | m + 1, z, h => by
    unfold pendTo at h
    split at h
    · rename_i e ei h1 h2
      split at h
      · rename_i hc
        cases h
        simp only [Bool.and_eq_true, beq_iff_eq] at hc
        exact ⟨m, e, by omega, h1, hc.1.1.2, rfl⟩
      · obtain ⟨k, e, h3, h4⟩ := pendTo_mem h
        exact ⟨k, e, by omega, h4⟩
    · cases h
theorem free_words {l : List Ev} {s s' : St} {i : Nat} {ei : Ev} (hi : l[i]? = some ei) (hok : EvOk ei) (h : freeF l s i = some s') : ∀ k, k < 4 → s'.get k = s.get k ∨ (ei.kind ≠ 1 ∧ s'.get k = ei.n) := by
  intro k hk
  unfold freeF at h
  split at h
  · cases h
  · rw [hi] at h
    simp only at h
    split at h
    · split at h
      · cases h
      · cases h; left; rcases k with _ | _ | _ | k <;> rfl
    · rename_i hk1
      cases h
      obtain ⟨a, ha, ha4⟩ := hok.a
      have : ((s.put ei.at'.toNat ei.n).mark i).get k = (s.put a ei.n).get k := by rw [ha]; rcases k with _ | _ | _ | k <;> rfl
      rw [this, put_get _ _ _ _ ha4 hk]
      split
      · right; exact ⟨by simpa using hk1, rfl⟩
      · left; rfl
theorem free_load {l : List Ev} {s : St} {i : Nat} {ei : Ev} (hi : l[i]? = some ei) (hk : ei.kind = 1) (h : (pendTo l s.p i i).getD (s.get ei.at'.toNat) ≠ ei.n) : freeF l s i = none := by
  unfold freeF
  split
  · rfl
  · rw [hi]
    simp [hk, h]
theorem free_blocked {l : List Ev} {s : St} {i k : Nat} {ek : Ev} (hk : l[k]? = some ek) (ha : ek.acc = true) (hki : k < i) (hb : s.p.testBit k = false) (hkeep : keeps l k i = true) : freeF l s i = none := by
  have : blockedTo l s.p i i = true := by
    simp only [blockedTo, List.any_eq_true, List.mem_range]
    exact ⟨k, hki, by simp [hk, ha, hb, hkeep]⟩
  simp [freeF, this]

theorem fit_mem {raw : List R4} (hok : ∀ r ∈ raw, r.ok) {e : Ev} (he : e ∈ fit raw) : 0 ≤ e.hart ∧ e.hart < 3 ∧ 1 ≤ e.kind ∧ e.kind ≤ 3 ∧ 0 ≤ e.at' ∧ e.at' < 3 ∧ 0 ≤ e.n ∧ e.n < 3 ∧ (e.kind = 3 → e.at' = 0 ∧ e.n = 0) := by
  simp only [fit, List.mem_map] at he
  obtain ⟨r, hr, rfl⟩ := he
  have ok := hok r (List.mem_of_mem_take hr)
  have h1 := pick_range ok.b (n := 3) (by omega)
  have h2 := pick_range ok.a (n := 2) (by omega)
  have h3 := pick_range ok.c (n := 3) (by omega)
  have h4 := pick_range ok.d (n := 3) (by omega)
  unfold fitEv
  split
  · exact ⟨h1.1, h1.2, by simp, by simp, by simp, by simp, by simp, by simp, fun _ => ⟨rfl, rfl⟩⟩
  · simp only [fitE]; omega
theorem wrap32 {z : Int} (h : -2147483648 ≤ z ∧ z < 2147483648) : z = IntKind.i64.wrap (IntKind.i32.wrap z) := by
  have : IntKind.i32.wrap z = z := by simp [IntKind.wrap, IntKind.signed, IntKind.bits]; omega
  rw [this, wrapI (by omega) (by omega)]
theorem may_of {e : Ev} (h : 0 ≤ e.hart ∧ e.hart < 4 ∧ 1 ≤ e.kind ∧ e.kind ≤ 3 ∧ 0 ≤ e.at' ∧ e.at' < 4 ∧ -2147483648 ≤ e.n ∧ e.n < 2147483648 ∧ (e.kind = 3 → e.at' = 0 ∧ e.n = 0)) : e.may = true := by
  obtain ⟨h1, h2, h3, h4, h5, h6, h7, h8, h9⟩ := h
  have hf : (e.kind == 3 && (e.at' != 0 || e.n != 0)) = false := by
    by_cases hk : e.kind = 3
    · obtain ⟨a, b⟩ := h9 hk; simp [a, b]
    · simp [hk]
  have hw : (e.n == IntKind.i64.wrap (IntKind.i32.wrap e.n)) = true := by rw [beq_iff_eq]; exact wrap32 ⟨h7, h8⟩
  simp only [Ev.may, hf, hw, h1, h2, h3, h4, h5, h6, decide_true]; rfl
theorem fit_may {raw : List R4} (hok : ∀ r ∈ raw, r.ok) {e : Ev} (he : e ∈ fit raw) : e.may = true := by
  have := fit_mem hok he
  exact may_of ⟨by omega, by omega, by omega, by omega, by omega, by omega, by omega, by omega, this.2.2.2.2.2.2.2.2⟩
theorem fit_right {raw : List R4} (hok : ∀ r ∈ raw, r.ok) : right (fit raw) = true := by
  simp only [right, Bool.and_eq_true, decide_eq_true_eq, List.all_eq_true]
  exact ⟨by have := fit_len raw; omega, fun e he => fit_may hok he⟩

theorem strange_no {l : List Ev} (hl : ∀ e ∈ l, EvOk e ∧ e.n < 7) {h w : Int} {a : Nat} (hw : w = (a : Int)) (ha : a < 4) : ¬ Fin (l ++ [⟨h, 1, w, 7⟩]) st0 := by
  intro hF
  have hlast : (l ++ [(⟨h, 1, w, 7⟩ : Ev)])[l.length]? = some ⟨h, 1, w, 7⟩ := by simp
  have hmem : ∀ (i : Nat) ei, i ≠ l.length → (l ++ [(⟨h, 1, w, 7⟩ : Ev)])[i]? = some ei → ei ∈ l := by
    intro i ei hi hei
    rw [List.getElem?_append] at hei
    split at hei
    · exact List.mem_of_getElem? hei
    · rw [List.getElem?_singleton] at hei
      split at hei
      · omega
      · cases hei
  refine neverFin hlast rfl (fun s => ∀ k, k < 4 → s.get k ≠ 7) ?_ ?_ st0 hF (fun k hk => by rcases k with _ | _ | _ | _ | k <;> first | decide | omega) (by simp [st0])
  · intro s s' i ei hi _ hix hei hf k hk
    have hm := hl ei (hmem i ei hix hei)
    rcases free_words hei hm.1 hf k hk with e | ⟨_, e⟩
    · rw [e]; exact hi k hk
    · rw [e]; have := hm.2; omega
  · intro s hi
    refine free_load hlast rfl ?_
    cases hp : pendTo (l ++ [(⟨h, 1, w, 7⟩ : Ev)]) s.p l.length l.length with
    | none =>
      have : (⟨h, 1, w, 7⟩ : Ev).at'.toNat = a := by simp [hw]
      rw [this]
      exact hi a ha
    | some z =>
      obtain ⟨k, e, h1, h2, _, h3⟩ := pendTo_mem hp
      have := (hl e (hmem k e (by omega) h2)).2
      show z ≠ 7
      omega

theorem early_no {l : List Ev} (hl : ∀ e ∈ l, EvOk e ∧ e.n < 9) {h w : Int} {a : Nat} (hw : w = (a : Int)) (ha : a < 4) : ¬ Fin ([⟨h, 1, w, 9⟩, ⟨h, 2, w, 9⟩] ++ l) st0 := by
  intro hF
  have h0 : ([(⟨h, 1, w, 9⟩ : Ev), ⟨h, 2, w, 9⟩] ++ l)[0]? = some ⟨h, 1, w, 9⟩ := rfl
  have h1 : ([(⟨h, 1, w, 9⟩ : Ev), ⟨h, 2, w, 9⟩] ++ l)[1]? = some ⟨h, 2, w, 9⟩ := rfl
  refine neverFin h0 rfl (fun s => ∀ k, k < 4 → s.get k ≠ 9) ?_ ?_ st0 hF (fun k hk => by rcases k with _ | _ | _ | _ | k <;> first | decide | omega) (by simp [st0])
  · intro s s' i ei hi hb hix hei hf k hk
    by_cases hi1 : i = 1
    · subst hi1
      have : keeps ([(⟨h, 1, w, 9⟩ : Ev), ⟨h, 2, w, 9⟩] ++ l) 0 1 = true := by simp [keeps]
      rw [free_blocked h0 rfl (by omega) hb this] at hf
      cases hf
    · have hm : ei ∈ l := by
        obtain ⟨j, rfl⟩ : ∃ j, i = j + 2 := ⟨i - 2, by omega⟩
        exact List.mem_of_getElem? (by simpa using hei)
      have hm := hl ei hm
      rcases free_words hei hm.1 hf k hk with e | ⟨_, e⟩
      · rw [e]; exact hi k hk
      · rw [e]; have := hm.2; omega
  · intro s hi
    refine free_load h0 rfl ?_
    have : (⟨h, 1, w, 9⟩ : Ev).at'.toNat = a := by simp [hw]
    rw [this]
    exact hi a ha

theorem two_yes {h w z : Int} (hh : 0 ≤ h ∧ h < 4) (hw : 0 ≤ w ∧ w < 3) (hz : z = 0 ∨ z = 1) : right [⟨h, 2, w, 9⟩, ⟨h, 1, w, 9⟩, ⟨(h + 1).tmod 4, 1, w, 9 * z⟩] = true ∧ Fin [⟨h, 2, w, 9⟩, ⟨h, 1, w, 9⟩, ⟨(h + 1).tmod 4, 1, w, 9 * z⟩] st0 := by

  have e1 : h = 0 ∨ h = 1 ∨ h = 2 ∨ h = 3 := by omega
  have e2 : w = 0 ∨ w = 1 ∨ w = 2 := by omega
  have e3 : z = 0 ∨ z = 1 := hz
  clear hh hw hz
  rcases e1 with rfl | rfl | rfl | rfl <;> rcases e2 with rfl | rfl | rfl <;> rcases e3 with rfl | rfl <;>
    exact ⟨by decide, (finB_iff _ 4 st0 (by decide)).1 (by decide +kernel)⟩

theorem own_new (h0 h : Heap) (hle : h0.le h) (l : List Ev) (n : Nat) (hn : l.length = n) : OwnS h0 (h.alloc (.blk (l.map Ev.cells).flatten true)) 4 (.slice (some ⟨h.next, 0, none⟩) n 4) (l.map Ev.cells) := by
  subst hn
  refine .inr ⟨h.next, by simp, hle.next, Heap.get_alloc_same _ _, ?_⟩
  intro x hx
  obtain ⟨z, _, rfl⟩ := List.mem_map.1 hx
  rfl
theorem bslice_ev (e : Ev) : aBslice [.int .i64 0, .int .i64 0, .int .i64 0, .int .i64 0] [(0, 4)] 1 4 [e.val] = some (e.cells, fun id => .slice (some ⟨id, 0, none⟩) 1 4) := aBslice_one (by simp [Ev.val, Value.cells, Ev.cells]) rfl rfl rfl
theorem bslice_ev2 (e f : Ev) : aBslice [.int .i64 0, .int .i64 0, .int .i64 0, .int .i64 0, .int .i64 0, .int .i64 0, .int .i64 0, .int .i64 0] [(0, 4), (4, 4)] 2 4 [e.val, f.val] = some (([e, f].map Ev.cells).flatten, fun id => .slice (some ⟨id, 0, none⟩) 2 4) := by
  cases e; cases f; rfl
theorem build_ev (a b c d : Int) : pBuild [.int .i64 0, .int .i64 0, .int .i64 0, .int .i64 0] [(0, 1), (1, 1), (2, 1), (3, 1)] [.int .i64 a, .int .i64 b, .int .i64 c, .int .i64 d] = some (Ev.val ⟨a, b, c, d⟩) := rfl

theorem AxiomReads_c {v : Value} {raw : List R4} {h : Heap} (hv : Raws h v raw) (hl63 : (raw.length : Int) ≤ 9223372036854775807) (hok : ∀ r ∈ raw, r.ok) {a b c : Int} (ha : inI a) (hb : inI b) (hc : inI c) :
    CallW Try.prog 10 [v, .int .i64 a, .int .i64 b, .int .i64 c] h fun r _ => r = .bool true := by
  refine CallW.mono (Q := fun r _ => r = .bool true) ?_ fun _ _ _ h => h
  obtain ⟨Q, hQ⟩ : ∃ Q : Value → Heap → Prop, Q = fun r _ => r = .bool true := ⟨_, rfl⟩
  rw [← hQ]
  have hq : ∀ h', Q (.bool true) h' := fun h' => by rw [hQ]
  clear hQ
  refine call_of1 (k := 4) ok10 rfl rfl rfl fun N => ?_
  rw [show env0 c10 [v, .int .i64 a, .int .i64 b, .int .i64 c] = [v, .int .i64 a, .int .i64 b, .int .i64 c, undef, undef, undef, undef, undef, undef, undef, undef] from rfl]
  delta c10 c10_r0 c10_r1 c10_r2 c10_r3 c10_r4 c10_r5 c10_r6 c10_r7 c10_r8 c10_r9
  replace hq := Hid.mk hq
  repeat' (first | simp -implicitDefEqProofs only [W_skip, W_reg, W_seq, W_rcond, W_cond, W_block, W_loop, W_exit, W_ret, thenQ_normal, thenQ_exit, thenQ_ret, blockQ_normal, blockQ_ret, blockQ_here, regQ_app, rcQ_app, cndK_t, cndK_f, RegW_nil, RegW_none, RegW_some, contW_app, grdK_tt, grdK_ff, grdK_tf, grdK_ft, grdK_undef, actK_p, actK_r, actK_a, actK_w, actK_call, actK_callV, heapK_app, allocK_app, writeK_app, ret1_ret, ret1_normal, ret0_ret, ret0_normal, ret2_ret2, thenK_app, retcv_ret, retcvK_app, optW_some, evs, Arg.ev, aP, aR, aA, aW, pMov, pBin, pUn, pConv, pPick, pFieldAddr, pNilCheck, pExtract, aBin, aUn, aInt, aNew, partL_f, upd, List.getElem?_cons_zero, List.getElem?_cons_succ, List.getD_cons_zero, List.getD_cons_succ, List.set_cons_zero, List.set_cons_succ, Nat.zero_add, Nat.add_zero, List.getElem?_toArray, List.take_zero, List.drop_zero, List.take_succ_cons, List.drop_succ_cons, if_true, if_false, decide_true, decide_false, Bool.false_eq_true, Bool.true_eq_false, Bool.not_true, Bool.not_false, not_true_eq_false, not_false_eq_true, ge_iff_le, gt_iff_lt, beq_self_eq_true, bne_self_eq_false, and_self, and_true, true_and, Option.isSome_some, Heap.get_alloc_same, Heap.alloc_getE, *] | with_reducible refine cndK_d (fun hc => ?_) (fun hc => ?_) | with_reducible refine grdK_d (fun hc => ?_) (fun hc => ?_) | with_reducible refine cndK_i (fun hc => ?_) (fun hc => ?_) | with_reducible refine grdK_i (fun hc => ?_) (fun hc => ?_))
  refine awake_c h _ fun h1 hl1 => ?_
  repeat' (first | simp -implicitDefEqProofs only [W_skip, W_reg, W_seq, W_rcond, W_cond, W_block, W_loop, W_exit, W_ret, thenQ_normal, thenQ_exit, thenQ_ret, blockQ_normal, blockQ_ret, blockQ_here, regQ_app, rcQ_app, cndK_t, cndK_f, RegW_nil, RegW_none, RegW_some, contW_app, grdK_tt, grdK_ff, grdK_tf, grdK_ft, grdK_undef, actK_p, actK_r, actK_a, actK_w, actK_call, actK_callV, heapK_app, allocK_app, writeK_app, ret1_ret, ret1_normal, ret0_ret, ret0_normal, ret2_ret2, thenK_app, retcv_ret, retcvK_app, optW_some, evs, Arg.ev, aP, aR, aA, aW, pMov, pBin, pUn, pConv, pPick, pFieldAddr, pNilCheck, pExtract, aBin, aUn, aInt, aNew, partL_f, upd, List.getElem?_cons_zero, List.getElem?_cons_succ, List.getD_cons_zero, List.getD_cons_succ, List.set_cons_zero, List.set_cons_succ, Nat.zero_add, Nat.add_zero, List.getElem?_toArray, List.take_zero, List.drop_zero, List.take_succ_cons, List.drop_succ_cons, if_true, if_false, decide_true, decide_false, Bool.false_eq_true, Bool.true_eq_false, Bool.not_true, Bool.not_false, not_true_eq_false, not_false_eq_true, ge_iff_le, gt_iff_lt, beq_self_eq_true, bne_self_eq_false, and_self, and_true, true_and, Option.isSome_some, Heap.get_alloc_same, Heap.alloc_getE, *] | with_reducible refine cndK_d (fun hc => ?_) (fun hc => ?_) | with_reducible refine grdK_d (fun hc => ?_) (fun hc => ?_) | with_reducible refine cndK_i (fun hc => ?_) (fun hc => ?_) | with_reducible refine grdK_i (fun hc => ?_) (fun hc => ?_))
  refine Fit_c (hv.mono hl1) hl63 hok _ fun v2 h2 ho2 hl2 => ?_
  repeat' (first | simp -implicitDefEqProofs only [W_skip, W_reg, W_seq, W_rcond, W_cond, W_block, W_loop, W_exit, W_ret, thenQ_normal, thenQ_exit, thenQ_ret, blockQ_normal, blockQ_ret, blockQ_here, regQ_app, rcQ_app, cndK_t, cndK_f, RegW_nil, RegW_none, RegW_some, contW_app, grdK_tt, grdK_ff, grdK_tf, grdK_ft, grdK_undef, actK_p, actK_r, actK_a, actK_w, actK_call, actK_callV, heapK_app, allocK_app, writeK_app, ret1_ret, ret1_normal, ret0_ret, ret0_normal, ret2_ret2, thenK_app, retcv_ret, retcvK_app, optW_some, evs, Arg.ev, aP, aR, aA, aW, pMov, pBin, pUn, pConv, pPick, pFieldAddr, pNilCheck, pExtract, aBin, aUn, aInt, aNew, partL_f, upd, List.getElem?_cons_zero, List.getElem?_cons_succ, List.getD_cons_zero, List.getD_cons_succ, List.set_cons_zero, List.set_cons_succ, Nat.zero_add, Nat.add_zero, List.getElem?_toArray, List.take_zero, List.drop_zero, List.take_succ_cons, List.drop_succ_cons, if_true, if_false, decide_true, decide_false, Bool.false_eq_true, Bool.true_eq_false, Bool.not_true, Bool.not_false, not_true_eq_false, not_false_eq_true, ge_iff_le, gt_iff_lt, beq_self_eq_true, bne_self_eq_false, and_self, and_true, true_and, Option.isSome_some, Heap.get_alloc_same, Heap.alloc_getE, *] | with_reducible refine cndK_d (fun hc => ?_) (fun hc => ?_) | with_reducible refine grdK_d (fun hc => ?_) (fun hc => ?_) | with_reducible refine cndK_i (fun hc => ?_) (fun hc => ?_) | with_reducible refine grdK_i (fun hc => ?_) (fun hc => ?_))
  have pa := pick_range ha (n := 4) (by omega)
  have pb := pick_range hb (n := 3) (by omega)
  have pc := pick_range hc (n := 2) (by omega)
  refine pick_c' a 4 (by decide) _ _ ?_
  repeat' (first | simp -implicitDefEqProofs only [W_skip, W_reg, W_seq, W_rcond, W_cond, W_block, W_loop, W_exit, W_ret, thenQ_normal, thenQ_exit, thenQ_ret, blockQ_normal, blockQ_ret, blockQ_here, regQ_app, rcQ_app, cndK_t, cndK_f, RegW_nil, RegW_none, RegW_some, contW_app, grdK_tt, grdK_ff, grdK_tf, grdK_ft, grdK_undef, actK_p, actK_r, actK_a, actK_w, actK_call, actK_callV, heapK_app, allocK_app, writeK_app, ret1_ret, ret1_normal, ret0_ret, ret0_normal, ret2_ret2, thenK_app, retcv_ret, retcvK_app, optW_some, evs, Arg.ev, aP, aR, aA, aW, pMov, pBin, pUn, pConv, pPick, pFieldAddr, pNilCheck, pExtract, aBin, aUn, aInt, aNew, partL_f, upd, List.getElem?_cons_zero, List.getElem?_cons_succ, List.getD_cons_zero, List.getD_cons_succ, List.set_cons_zero, List.set_cons_succ, Nat.zero_add, Nat.add_zero, List.getElem?_toArray, List.take_zero, List.drop_zero, List.take_succ_cons, List.drop_succ_cons, if_true, if_false, decide_true, decide_false, Bool.false_eq_true, Bool.true_eq_false, Bool.not_true, Bool.not_false, not_true_eq_false, not_false_eq_true, ge_iff_le, gt_iff_lt, beq_self_eq_true, bne_self_eq_false, and_self, and_true, true_and, Option.isSome_some, Heap.get_alloc_same, Heap.alloc_getE, *] | with_reducible refine cndK_d (fun hc => ?_) (fun hc => ?_) | with_reducible refine grdK_d (fun hc => ?_) (fun hc => ?_) | with_reducible refine cndK_i (fun hc => ?_) (fun hc => ?_) | with_reducible refine grdK_i (fun hc => ?_) (fun hc => ?_))
  refine pick_c' b 3 (by decide) _ _ ?_
  obtain ⟨ph, hph⟩ : ∃ x, pick a 4 = x := ⟨_, rfl⟩
  obtain ⟨pw, hpw⟩ : ∃ x, pick b 3 = x := ⟨_, rfl⟩
  rw [hph] at pa
  rw [hpw] at pb
  rw [hph, hpw]
  clear hph hpw
  have hlen := fit_len raw
  -- strange
  obtain ⟨v3, h3, w3, ho3, hl3, _⟩ := (OwnS.nil h2 h2 4).append (Heap.le.refl h2) ho2.sl (by omega) (b := 32) (by simp; omega) (by simp; omega)
  obtain ⟨v4, h4, w4, ho4, hl4, _⟩ := ho3.append1 hl3 (x := Ev.cells ⟨ph, 1, pw, 7⟩) rfl (by omega) (b := 32) (by simp; omega) (by simp; omega)
  -- early
  have ho5 := own_new h4 h4 (Heap.le.refl _) [⟨ph, 1, pw, 9⟩, ⟨ph, 2, pw, 9⟩] 2 rfl
  have hl5 := (Heap.le.refl h4).alloc (.blk (([⟨ph, 1, pw, 9⟩, ⟨ph, 2, pw, 9⟩] : List Ev).map Ev.cells).flatten true)
  obtain ⟨v6, h6, w6, ho6, hl6, _⟩ := ho5.append hl5 ((ho2.sl.mono hl4).mono hl5) (by omega) (b := 32) (by simp; omega) (by simp; omega)
  -- two
  have hl7 := (Heap.le.refl h6).alloc (.blk (([⟨ph, 2, pw, 9⟩, ⟨ph, 1, pw, 9⟩] : List Ev).map Ev.cells).flatten true)
  have ho7 := own_new h6 h6 (Heap.le.refl _) [⟨ph, 2, pw, 9⟩, ⟨ph, 1, pw, 9⟩] 2 rfl
  have wa : IntKind.i64.wrap (ph + 1) = ph + 1 := wrapI (by omega) (by omega)
  have wm : IntKind.i64.wrap (9 * pick c 2) = 9 * pick c 2 := wrapI (by omega) (by omega)
  obtain ⟨v8, h8, w8, ho8, hl8, _⟩ := ho7.append1 hl7 (x := Ev.cells ⟨(ph + 1).tmod 4, 1, pw, 9 * pick c 2⟩) rfl (by omega) (b := 32) (by simp) (by simp)
  have e4 : Evs h4 v4 (fit raw ++ [⟨ph, 1, pw, 7⟩]) := OwnS.evs (by simpa using ho4)
  have e6 : Evs h6 v6 ([⟨ph, 1, pw, 9⟩, ⟨ph, 2, pw, 9⟩] ++ fit raw) := OwnS.evs (by simpa using ho6)
  have e8 : Evs h8 v8 [⟨ph, 2, pw, 9⟩, ⟨ph, 1, pw, 9⟩, ⟨(ph + 1).tmod 4, 1, pw, 9 * pick c 2⟩] := OwnS.evs (by simpa using ho8)
  have hmod : ∀ z : Int, aBin .rem (.int .i64 (ph + 1)) (.int .i64 4) = some (.int .i64 ((ph + 1).tmod 4)) := fun _ => rfl
  have h40 : ¬ (4 : Int) = 0 := by decide
  clear ho2 ho3 ho4 ho5 ho6 ho7 ho8
  replace pa := Hid.mk pa
  replace pb := Hid.mk pb
  replace pc := Hid.mk pc
  replace e4 := Hid.mk e4
  replace e6 := Hid.mk e6
  replace e8 := Hid.mk e8
  repeat' (first | simp -implicitDefEqProofs only [W_skip, W_reg, W_seq, W_rcond, W_cond, W_block, W_loop, W_exit, W_ret, thenQ_normal, thenQ_exit, thenQ_ret, blockQ_normal, blockQ_ret, blockQ_here, regQ_app, rcQ_app, cndK_t, cndK_f, RegW_nil, RegW_none, RegW_some, contW_app, grdK_tt, grdK_ff, grdK_tf, grdK_ft, grdK_undef, actK_p, actK_r, actK_a, actK_w, actK_call, actK_callV, heapK_app, allocK_app, writeK_app, ret1_ret, ret1_normal, ret0_ret, ret0_normal, ret2_ret2, thenK_app, retcv_ret, retcvK_app, optW_some, evs, Arg.ev, aP, aR, aA, aW, pMov, pBin, pUn, pConv, pPick, pFieldAddr, pNilCheck, pExtract, aBin, aUn, aInt, aNew, partL_f, upd, List.getElem?_cons_zero, List.getElem?_cons_succ, List.getD_cons_zero, List.getD_cons_succ, List.set_cons_zero, List.set_cons_succ, Nat.zero_add, Nat.add_zero, List.getElem?_toArray, List.take_zero, List.drop_zero, List.take_succ_cons, List.drop_succ_cons, if_true, if_false, decide_true, decide_false, Bool.false_eq_true, Bool.true_eq_false, Bool.not_true, Bool.not_false, not_true_eq_false, not_false_eq_true, ge_iff_le, gt_iff_lt, beq_self_eq_true, bne_self_eq_false, and_self, and_true, true_and, Option.isSome_some, Heap.get_alloc_same, Heap.alloc_getE, build_ev, bslice_ev, bslice_ev2, *] | with_reducible refine cndK_d (fun hc => ?_) (fun hc => ?_) | with_reducible refine grdK_d (fun hc => ?_) (fun hc => ?_) | with_reducible refine cndK_i (fun hc => ?_) (fun hc => ?_) | with_reducible refine grdK_i (fun hc => ?_) (fun hc => ?_))
  refine pick_c' c 2 (by decide) _ _ ?_
  repeat' (first | simp -implicitDefEqProofs only [W_skip, W_reg, W_seq, W_rcond, W_cond, W_block, W_loop, W_exit, W_ret, thenQ_normal, thenQ_exit, thenQ_ret, blockQ_normal, blockQ_ret, blockQ_here, regQ_app, rcQ_app, cndK_t, cndK_f, RegW_nil, RegW_none, RegW_some, contW_app, grdK_tt, grdK_ff, grdK_tf, grdK_ft, grdK_undef, actK_p, actK_r, actK_a, actK_w, actK_call, actK_callV, heapK_app, allocK_app, writeK_app, ret1_ret, ret1_normal, ret0_ret, ret0_normal, ret2_ret2, thenK_app, retcv_ret, retcvK_app, optW_some, evs, Arg.ev, aP, aR, aA, aW, pMov, pBin, pUn, pConv, pPick, pFieldAddr, pNilCheck, pExtract, aBin, aUn, aInt, aNew, partL_f, upd, List.getElem?_cons_zero, List.getElem?_cons_succ, List.getD_cons_zero, List.getD_cons_succ, List.set_cons_zero, List.set_cons_succ, Nat.zero_add, Nat.add_zero, List.getElem?_toArray, List.take_zero, List.drop_zero, List.take_succ_cons, List.drop_succ_cons, if_true, if_false, decide_true, decide_false, Bool.false_eq_true, Bool.true_eq_false, Bool.not_true, Bool.not_false, not_true_eq_false, not_false_eq_true, ge_iff_le, gt_iff_lt, beq_self_eq_true, bne_self_eq_false, and_self, and_true, true_and, Option.isSome_some, Heap.get_alloc_same, Heap.alloc_getE, build_ev, bslice_ev, bslice_ev2, *] | with_reducible refine cndK_d (fun hc => ?_) (fun hc => ?_) | with_reducible refine grdK_d (fun hc => ?_) (fun hc => ?_) | with_reducible refine cndK_i (fun hc => ?_) (fun hc => ?_) | with_reducible refine grdK_i (fun hc => ?_) (fun hc => ?_))
  have evok : ∀ e ∈ fit raw, EvOk e ∧ e.n < 7 := fun e he => ⟨may_ok (fit_may hok he), by have := fit_mem hok he; omega⟩
  obtain ⟨w, hw⟩ := Int.eq_ofNat_of_zero_le pb.h.1
  have hw4 : w < 4 := by have := pb.h.2; omega
  refine Allowed_c ((e4.h.mono hl6).mono hl8) (by simp; omega) _ fun b h9 hb hl9 => ?_
  have : b = false := by
    cases b with
    | false => rfl
    | true => exact absurd (hb.1 rfl).2 (strange_no evok hw hw4)
  subst this
  clear hb
  repeat' (first | simp -implicitDefEqProofs only [W_skip, W_reg, W_seq, W_rcond, W_cond, W_block, W_loop, W_exit, W_ret, thenQ_normal, thenQ_exit, thenQ_ret, blockQ_normal, blockQ_ret, blockQ_here, regQ_app, rcQ_app, cndK_t, cndK_f, RegW_nil, RegW_none, RegW_some, contW_app, grdK_tt, grdK_ff, grdK_tf, grdK_ft, grdK_undef, actK_p, actK_r, actK_a, actK_w, actK_call, actK_callV, heapK_app, allocK_app, writeK_app, ret1_ret, ret1_normal, ret0_ret, ret0_normal, ret2_ret2, thenK_app, retcv_ret, retcvK_app, optW_some, evs, Arg.ev, aP, aR, aA, aW, pMov, pBin, pUn, pConv, pPick, pFieldAddr, pNilCheck, pExtract, aBin, aUn, aInt, aNew, partL_f, upd, List.getElem?_cons_zero, List.getElem?_cons_succ, List.getD_cons_zero, List.getD_cons_succ, List.set_cons_zero, List.set_cons_succ, Nat.zero_add, Nat.add_zero, List.getElem?_toArray, List.take_zero, List.drop_zero, List.take_succ_cons, List.drop_succ_cons, if_true, if_false, decide_true, decide_false, Bool.false_eq_true, Bool.true_eq_false, Bool.not_true, Bool.not_false, not_true_eq_false, not_false_eq_true, ge_iff_le, gt_iff_lt, beq_self_eq_true, bne_self_eq_false, and_self, and_true, true_and, Option.isSome_some, Heap.get_alloc_same, Heap.alloc_getE, *] | with_reducible refine cndK_d (fun hc => ?_) (fun hc => ?_) | with_reducible refine grdK_d (fun hc => ?_) (fun hc => ?_) | with_reducible refine cndK_i (fun hc => ?_) (fun hc => ?_) | with_reducible refine grdK_i (fun hc => ?_) (fun hc => ?_))
  refine Allowed_c ((e6.h.mono hl8).mono hl9) (by simp; omega) _ fun b h10 hb hl10 => ?_
  have : b = false := by
    cases b with
    | false => rfl
    | true => exact absurd (hb.1 rfl).2 (early_no (fun e he => ⟨(evok e he).1, by have := (evok e he).2; omega⟩) hw hw4)
  subst this
  clear hb
  repeat' (first | simp -implicitDefEqProofs only [W_skip, W_reg, W_seq, W_rcond, W_cond, W_block, W_loop, W_exit, W_ret, thenQ_normal, thenQ_exit, thenQ_ret, blockQ_normal, blockQ_ret, blockQ_here, regQ_app, rcQ_app, cndK_t, cndK_f, RegW_nil, RegW_none, RegW_some, contW_app, grdK_tt, grdK_ff, grdK_tf, grdK_ft, grdK_undef, actK_p, actK_r, actK_a, actK_w, actK_call, actK_callV, heapK_app, allocK_app, writeK_app, ret1_ret, ret1_normal, ret0_ret, ret0_normal, ret2_ret2, thenK_app, retcv_ret, retcvK_app, optW_some, evs, Arg.ev, aP, aR, aA, aW, pMov, pBin, pUn, pConv, pPick, pFieldAddr, pNilCheck, pExtract, aBin, aUn, aInt, aNew, partL_f, upd, List.getElem?_cons_zero, List.getElem?_cons_succ, List.getD_cons_zero, List.getD_cons_succ, List.set_cons_zero, List.set_cons_succ, Nat.zero_add, Nat.add_zero, List.getElem?_toArray, List.take_zero, List.drop_zero, List.take_succ_cons, List.drop_succ_cons, if_true, if_false, decide_true, decide_false, Bool.false_eq_true, Bool.true_eq_false, Bool.not_true, Bool.not_false, not_true_eq_false, not_false_eq_true, ge_iff_le, gt_iff_lt, beq_self_eq_true, bne_self_eq_false, and_self, and_true, true_and, Option.isSome_some, Heap.get_alloc_same, Heap.alloc_getE, *] | with_reducible refine cndK_d (fun hc => ?_) (fun hc => ?_) | with_reducible refine grdK_d (fun hc => ?_) (fun hc => ?_) | with_reducible refine cndK_i (fun hc => ?_) (fun hc => ?_) | with_reducible refine grdK_i (fun hc => ?_) (fun hc => ?_))
  refine Allowed_c ((e8.h.mono hl9).mono hl10) (by simp) _ fun b h11 hb hl11 => ?_
  have : b = true := hb.2 (two_yes pa.h pb.h (by have := pc.h.1; have := pc.h.2; omega))
  subst this
  clear hb
  repeat' (first | simp -implicitDefEqProofs only [W_skip, W_reg, W_seq, W_rcond, W_cond, W_block, W_loop, W_exit, W_ret, thenQ_normal, thenQ_exit, thenQ_ret, blockQ_normal, blockQ_ret, blockQ_here, regQ_app, rcQ_app, cndK_t, cndK_f, RegW_nil, RegW_none, RegW_some, contW_app, grdK_tt, grdK_ff, grdK_tf, grdK_ft, grdK_undef, actK_p, actK_r, actK_a, actK_w, actK_call, actK_callV, heapK_app, allocK_app, writeK_app, ret1_ret, ret1_normal, ret0_ret, ret0_normal, ret2_ret2, thenK_app, retcv_ret, retcvK_app, optW_some, evs, Arg.ev, aP, aR, aA, aW, pMov, pBin, pUn, pConv, pPick, pFieldAddr, pNilCheck, pExtract, aBin, aUn, aInt, aNew, partL_f, upd, List.getElem?_cons_zero, List.getElem?_cons_succ, List.getD_cons_zero, List.getD_cons_succ, List.set_cons_zero, List.set_cons_succ, Nat.zero_add, Nat.add_zero, List.getElem?_toArray, List.take_zero, List.drop_zero, List.take_succ_cons, List.drop_succ_cons, if_true, if_false, decide_true, decide_false, Bool.false_eq_true, Bool.true_eq_false, Bool.not_true, Bool.not_false, not_true_eq_false, not_false_eq_true, ge_iff_le, gt_iff_lt, beq_self_eq_true, bne_self_eq_false, and_self, and_true, true_and, Option.isSome_some, Heap.get_alloc_same, Heap.alloc_getE, *] | with_reducible refine cndK_d (fun hc => ?_) (fun hc => ?_) | with_reducible refine grdK_d (fun hc => ?_) (fun hc => ?_) | with_reducible refine cndK_i (fun hc => ?_) (fun hc => ?_) | with_reducible refine grdK_i (fun hc => ?_) (fun hc => ?_))
  exact hq.h _
end Go.Eng.Ax

set_option linter.unusedSimpArgs false
set_option linter.unusedVariables false
namespace Go.Eng.Ax
open Go Go.Eng Go.Proofs

theorem heapOf_sl {slots : List Slot} {i n c : Nat} {isNil : Bool} {s : Slot} (hs : slots[i]? = some s) {xs : List (List Value)} (hn : xs.length = n) (hx : ∀ x ∈ xs, x.length = c) (hnil : isNil = true → n = 0)
    (hblk : isNil = false → ∃ loc, s = some (.blk xs.flatten false, loc)) : SlV (heapOf slots) c (absSlice i n c isNil) xs := by
  subst hn
  cases isNil with
  | true => exact .inl ⟨rfl, List.length_eq_zero_iff.1 (hnil rfl)⟩
  | false =>
    obtain ⟨loc, rfl⟩ := hblk rfl
    refine .inr ⟨i, 0, rfl, .inr ⟨_, _, by simp only [heapOf, hs]; rfl, fun j x hj => ?_⟩⟩
    obtain ⟨h1, h2⟩ := flatten_chunk hx j x hj
    exact ⟨hx x (List.mem_of_getElem? hj), by omega, by simpa using h2⟩
theorem wf_in {z : Int} (h : (Lit.int .i64 z).wf = true) : inI z := by
  simp [Lit.wf, IntKind.min, IntKind.max, IntKind.signed, IntKind.bits] at h
  exact ⟨by omega, by omega⟩
theorem chunk4 : ∀ (n : Nat) (l : List Int), l.length = n * 4 → (∀ z ∈ l, (Lit.int .i64 z).wf = true) → ∃ raw : List R4, raw.length = n ∧ (∀ r ∈ raw, r.ok) ∧ l.map (Value.int .i64) = (raw.map R4.cells).flatten
  | 0, l, h, _ => ⟨[], rfl, by simp, by have : l = [] := List.length_eq_zero_iff.1 (by omega); subst this; rfl⟩
  | n + 1, l, h, hw => by
    match l, h with
    | a :: b :: c :: d :: r, h =>
      obtain ⟨raw, h1, h2, h3⟩ := chunk4 n r (by simp at h; omega) fun z hz => hw z (by simp [hz])
      refine ⟨⟨a, b, c, d⟩ :: raw, by simp [h1], ?_, by simp [R4.cells, h3]⟩
      intro x hx
      rcases List.mem_cons.1 hx with rfl | hx
      · exact ⟨wf_in (hw a (by simp)), wf_in (hw b (by simp)), wf_in (hw c (by simp)), wf_in (hw d (by simp))⟩
      · exact h2 x hx
    | [], h => simp at h
    | [_], h => simp at h; omega
    | [_, _], h => simp at h; omega
    | [_, _, _], h => simp at h; omega
theorem raws_of {slots : List Slot} {i n : Nat} {isNil : Bool} {s : Slot} (hs : slots[i]? = some s) {l : List Int} (hl : l.length = n * 4) (hwf : ∀ z ∈ l, (Lit.int .i64 z).wf = true) (hnil : isNil = true → n = 0)
    (hblk : isNil = false → ∃ loc, s = some (.blk (l.map (.int .i64)) false, loc)) : ∃ raw : List R4, raw.length = n ∧ (∀ r ∈ raw, r.ok) ∧ Raws (heapOf slots) (absSlice i n 4 isNil) raw := by
  obtain ⟨raw, h1, h2, h3⟩ := chunk4 n l hl hwf
  refine ⟨raw, h1, h2, heapOf_sl hs (by simp [h1]) ?_ hnil (by rw [← h3]; exact hblk)⟩
  intro x hx
  obtain ⟨z, _, rfl⟩ := List.mem_map.1 hx
  rfl
theorem ints_of {slots : List Slot} {i n : Nat} {isNil : Bool} {s : Slot} (hs : slots[i]? = some s) {l : List Int} (hl : l.length = n * 1) (hnil : isNil = true → n = 0)
    (hblk : isNil = false → ∃ loc, s = some (.blk (l.map (.int .i64)) false, loc)) : Ints (heapOf slots) (absSlice i n 1 isNil) l := by
  refine heapOf_sl hs (by simp; omega) ?_ hnil (by rw [show (l.map fun z => [Value.int .i64 z]).flatten = l.map (.int .i64) from flat_icells l]; exact hblk)
  intro x hx
  obtain ⟨z, _, rfl⟩ := List.mem_map.1 hx
  rfl
end Go.Eng.Ax

