/-
  Part of a proof of the laws of layer 12 (axiom): what each function does.
  Conditions: none.
-/
import Derived.Test.YtbncpnbbhjmeoaaBb
import Derived.Test.YtbncpnbbhjmeoaaEc
set_option linter.unusedSimpArgs false
set_option linter.unusedVariables false
namespace Go.Eng.Ax
open Go Go.Eng Go.Proofs

/-! ### plain: what a search never comes to -/
theorem neverFin {l : List Ev} {idx : Nat} {e : Ev} (he : l[idx]? = some e) (hacc : e.acc = true) (Inv : St → Prop)
    (hpres : ∀ s s' i ei, Inv s → s.p.testBit idx = false → i ≠ idx → l[i]? = some ei → freeF l s i = some s' → Inv s') (hno : ∀ s, Inv s → freeF l s idx = none) : ∀ s, Fin l s → Inv s → s.p.testBit idx = false → False := by
  intro s hF
  induction hF with
  | done s h => intro hi hb; rw [h idx e he hacc] at hb; cases hb
  | step s s' i ei h ha hb hf hr ih =>
    intro hi hbi
    by_cases hix : i = idx
    · subst hix; rw [hno s hi] at hf; cases hf
    · refine ih (hpres s s' i ei hi hbi hix h hf) ?_
      rw [free_p hf, testBit_mark, hbi]
      simpa using hix

theorem pendTo_mem {l : List Ev} {p i : Nat} : ∀ {m : Nat} {z : Int}, pendTo l p i m = some z → ∃ (k : Nat) (e : Ev), k < m ∧ l[k]? = some e ∧ e.kind = 2 ∧ e.n = z
  | 0, z, h => by simp [pendTo] at h
  | m + 1, z, h => by
    unfold pendTo at h
    split at h
    · rename_i e ei h1 h2
      split at h
      · rename_i hc
        cases h
        simp only [Bool.and_eq_true, beq_iff_eq] at hc
        exact ⟨m, e, by omega, h1, hc.1.1.2, rfl⟩
      · obtain ⟨k, e, h3, h4⟩ := pendTo_mem h
        exact ⟨k, e, by omega, h4⟩
    · cases h
theorem free_words {l : List Ev} {s s' : St} {i : Nat} {ei : Ev} (hi : l[i]? = some ei) (hok : EvOk ei) (h : freeF l s i = some s') : ∀ k, k < 4 → s'.get k = s.get k ∨ (ei.kind ≠ 1 ∧ s'.get k = ei.n) := by
  intro k hk
  unfold freeF at h
  split at h
  · cases h
  · rw [hi] at h
    simp only at h
    split at h
    · split at h
      · cases h
      · cases h; left; rcases k with _ | _ | _ | k <;> rfl
    · rename_i hk1
      cases h
      obtain ⟨a, ha, ha4⟩ := hok.a
      have : ((s.put ei.at'.toNat ei.n).mark i).get k = (s.put a ei.n).get k := by rw [ha]; rcases k with _ | _ | _ | k <;> rfl
      rw [this, put_get _ _ _ _ ha4 hk]
      split
      · right; exact ⟨by simpa using hk1, rfl⟩
      · left; rfl
theorem free_load {l : List Ev} {s : St} {i : Nat} {ei : Ev} (hi : l[i]? = some ei) (hk : ei.kind = 1) (h : (pendTo l s.p i i).getD (s.get ei.at'.toNat) ≠ ei.n) : freeF l s i = none := by
  unfold freeF
  split
  · rfl
  · rw [hi]
    simp [hk, h]
theorem free_blocked {l : List Ev} {s : St} {i k : Nat} {ek : Ev} (hk : l[k]? = some ek) (ha : ek.acc = true) (hki : k < i) (hb : s.p.testBit k = false) (hkeep : keeps l k i = true) : freeF l s i = none := by
  have : blockedTo l s.p i i = true := by
    simp only [blockedTo, List.any_eq_true, List.mem_range]
    exact ⟨k, hki, by simp [hk, ha, hb, hkeep]⟩
  simp [freeF, this]

theorem fit_mem {raw : List R4} (hok : ∀ r ∈ raw, r.ok) {e : Ev} (he : e ∈ fit raw) : 0 ≤ e.hart ∧ e.hart < 3 ∧ 1 ≤ e.kind ∧ e.kind ≤ 3 ∧ 0 ≤ e.at' ∧ e.at' < 3 ∧ 0 ≤ e.n ∧ e.n < 3 ∧ (e.kind = 3 → e.at' = 0 ∧ e.n = 0) := by
  simp only [fit, List.mem_map] at he
  obtain ⟨r, hr, rfl⟩ := he
  have ok := hok r (List.mem_of_mem_take hr)
  have h1 := pick_range ok.b (n := 3) (by omega)
  have h2 := pick_range ok.a (n := 2) (by omega)
  have h3 := pick_range ok.c (n := 3) (by omega)
  have h4 := pick_range ok.d (n := 3) (by omega)
  unfold fitEv
  split
  · exact ⟨h1.1, h1.2, by simp, by simp, by simp, by simp, by simp, by simp, fun _ => ⟨rfl, rfl⟩⟩
  · simp only [fitE]; omega
theorem wrap32 {z : Int} (h : -2147483648 ≤ z ∧ z < 2147483648) : z = IntKind.i64.wrap (IntKind.i32.wrap z) := by
  have : IntKind.i32.wrap z = z := by simp [IntKind.wrap, IntKind.signed, IntKind.bits]; omega
  rw [this, wrapI (by omega) (by omega)]
theorem may_of {e : Ev} (h : 0 ≤ e.hart ∧ e.hart < 4 ∧ 1 ≤ e.kind ∧ e.kind ≤ 3 ∧ 0 ≤ e.at' ∧ e.at' < 4 ∧ -2147483648 ≤ e.n ∧ e.n < 2147483648 ∧ (e.kind = 3 → e.at' = 0 ∧ e.n = 0)) : e.may = true := by
  obtain ⟨h1, h2, h3, h4, h5, h6, h7, h8, h9⟩ := h
  have hf : (e.kind == 3 && (e.at' != 0 || e.n != 0)) = false := by
    by_cases hk : e.kind = 3
    · obtain ⟨a, b⟩ := h9 hk; simp [a, b]
    · simp [hk]
  have hw : (e.n == IntKind.i64.wrap (IntKind.i32.wrap e.n)) = true := by rw [beq_iff_eq]; exact wrap32 ⟨h7, h8⟩
  simp only [Ev.may, hf, hw, h1, h2, h3, h4, h5, h6, decide_true]; rfl
theorem fit_may {raw : List R4} (hok : ∀ r ∈ raw, r.ok) {e : Ev} (he : e ∈ fit raw) : e.may = true := by
  have := fit_mem hok he
  exact may_of ⟨by omega, by omega, by omega, by omega, by omega, by omega, by omega, by omega, this.2.2.2.2.2.2.2.2⟩
theorem fit_right {raw : List R4} (hok : ∀ r ∈ raw, r.ok) : right (fit raw) = true := by
  simp only [right, Bool.and_eq_true, decide_eq_true_eq, List.all_eq_true]
  exact ⟨by have := fit_len raw; omega, fun e he => fit_may hok he⟩

theorem strange_no {l : List Ev} (hl : ∀ e ∈ l, EvOk e ∧ e.n < 7) {h w : Int} {a : Nat} (hw : w = (a : Int)) (ha : a < 4) : ¬ Fin (l ++ [⟨h, 1, w, 7⟩]) st0 := by
  intro hF
  have hlast : (l ++ [(⟨h, 1, w, 7⟩ : Ev)])[l.length]? = some ⟨h, 1, w, 7⟩ := by simp
  have hmem : ∀ (i : Nat) ei, i ≠ l.length → (l ++ [(⟨h, 1, w, 7⟩ : Ev)])[i]? = some ei → ei ∈ l := by
    intro i ei hi hei
    rw [List.getElem?_append] at hei
    split at hei
    · exact List.mem_of_getElem? hei
    · rw [List.getElem?_singleton] at hei
      split at hei
      · omega
      · cases hei
  refine neverFin hlast rfl (fun s => ∀ k, k < 4 → s.get k ≠ 7) ?_ ?_ st0 hF (fun k hk => by rcases k with _ | _ | _ | _ | k <;> first | decide | omega) (by simp [st0])
  · intro s s' i ei hi _ hix hei hf k hk
    have hm := hl ei (hmem i ei hix hei)
    rcases free_words hei hm.1 hf k hk with e | ⟨_, e⟩
    · rw [e]; exact hi k hk
    · rw [e]; have := hm.2; omega
  · intro s hi
    refine free_load hlast rfl ?_
    cases hp : pendTo (l ++ [(⟨h, 1, w, 7⟩ : Ev)]) s.p l.length l.length with
    | none =>
      have : (⟨h, 1, w, 7⟩ : Ev).at'.toNat = a := by simp [hw]
      rw [this]
      exact hi a ha
    | some z =>
      obtain ⟨k, e, h1, h2, _, h3⟩ := pendTo_mem hp
      have := (hl e (hmem k e (by omega) h2)).2
      show z ≠ 7
      omega

theorem early_no {l : List Ev} (hl : ∀ e ∈ l, EvOk e ∧ e.n < 9) {h w : Int} {a : Nat} (hw : w = (a : Int)) (ha : a < 4) : ¬ Fin ([⟨h, 1, w, 9⟩, ⟨h, 2, w, 9⟩] ++ l) st0 := by
  intro hF
  have h0 : ([(⟨h, 1, w, 9⟩ : Ev), ⟨h, 2, w, 9⟩] ++ l)[0]? = some ⟨h, 1, w, 9⟩ := rfl
  have h1 : ([(⟨h, 1, w, 9⟩ : Ev), ⟨h, 2, w, 9⟩] ++ l)[1]? = some ⟨h, 2, w, 9⟩ := rfl
  refine neverFin h0 rfl (fun s => ∀ k, k < 4 → s.get k ≠ 9) ?_ ?_ st0 hF (fun k hk => by rcases k with _ | _ | _ | _ | k <;> first | decide | omega) (by simp [st0])
  · intro s s' i ei hi hb hix hei hf k hk
    by_cases hi1 : i = 1
    · subst hi1
      have : keeps ([(⟨h, 1, w, 9⟩ : Ev), ⟨h, 2, w, 9⟩] ++ l) 0 1 = true := by simp [keeps]
      rw [free_blocked h0 rfl (by omega) hb this] at hf
      cases hf
    · have hm : ei ∈ l := by
        obtain ⟨j, rfl⟩ : ∃ j, i = j + 2 := ⟨i - 2, by omega⟩
        exact List.mem_of_getElem? (by simpa using hei)
      have hm := hl ei hm
      rcases free_words hei hm.1 hf k hk with e | ⟨_, e⟩
      · rw [e]; exact hi k hk
      · rw [e]; have := hm.2; omega
  · intro s hi
    refine free_load h0 rfl ?_
    have : (⟨h, 1, w, 9⟩ : Ev).at'.toNat = a := by simp [hw]
    rw [this]
    exact hi a ha

theorem two_yes {h w z : Int} (hh : 0 ≤ h ∧ h < 4) (hw : 0 ≤ w ∧ w < 3) (hz : z = 0 ∨ z = 1) : right [⟨h, 2, w, 9⟩, ⟨h, 1, w, 9⟩, ⟨(h + 1).tmod 4, 1, w, 9 * z⟩] = true ∧ Fin [⟨h, 2, w, 9⟩, ⟨h, 1, w, 9⟩, ⟨(h + 1).tmod 4, 1, w, 9 * z⟩] st0 := by

  have e1 : h = 0 ∨ h = 1 ∨ h = 2 ∨ h = 3 := by omega
  have e2 : w = 0 ∨ w = 1 ∨ w = 2 := by omega
  have e3 : z = 0 ∨ z = 1 := hz
  clear hh hw hz
  rcases e1 with rfl | rfl | rfl | rfl <;> rcases e2 with rfl | rfl | rfl <;> rcases e3 with rfl | rfl <;>
    exact ⟨by decide, (finB_iff _ 4 st0 (by decide)).1 (by decide +kernel)⟩

theorem own_new (h0 h : Heap) (hle : h0.le h) (l : List Ev) (n : Nat) (hn : l.length = n) : OwnS h0 (h.alloc (.blk (l.map Ev.cells).flatten true)) 4 (.slice (some ⟨h.next, 0, none⟩) n 4) (l.map Ev.cells) := by
  subst hn
  refine .inr ⟨h.next, by simp, hle.next, Heap.get_alloc_same _ _, ?_⟩
  intro x hx
  obtain ⟨z, _, rfl⟩ := List.mem_map.1 hx
  rfl
theorem bslice_ev (e : Ev) : aBslice [.int .i64 0, .int .i64 0, .int .i64 0, .int .i64 0] [(0, 4)] 1 4 [e.val] = some (e.cells, fun id => .slice (some ⟨id, 0, none⟩) 1 4) := aBslice_one (by simp [Ev.val, Value.cells, Ev.cells]) rfl rfl rfl
theorem bslice_ev2 (e f : Ev) : aBslice [.int .i64 0, .int .i64 0, .int .i64 0, .int .i64 0, .int .i64 0, .int .i64 0, .int .i64 0, .int .i64 0] [(0, 4), (4, 4)] 2 4 [e.val, f.val] = some (([e, f].map Ev.cells).flatten, fun id => .slice (some ⟨id, 0, none⟩) 2 4) := by
  cases e; cases f; rfl
theorem build_ev (a b c d : Int) : pBuild [.int .i64 0, .int .i64 0, .int .i64 0, .int .i64 0] [(0, 1), (1, 1), (2, 1), (3, 1)] [.int .i64 a, .int .i64 b, .int .i64 c, .int .i64 d] = some (Ev.val ⟨a, b, c, d⟩) := rfl

theorem AxiomReads_c {v : Value} {raw : List R4} {h : Heap} (hv : Raws h v raw) (hl63 : (raw.length : Int) ≤ 9223372036854775807) (hok : ∀ r ∈ raw, r.ok) {a b c : Int} (ha : inI a) (hb : inI b) (hc : inI c) :
    CallW Try.prog 10 [v, .int .i64 a, .int .i64 b, .int .i64 c] h fun r _ => r = .bool true := by
  refine CallW.mono (Q := fun r _ => r = .bool true) ?_ fun _ _ _ h => h
  obtain ⟨Q, hQ⟩ : ∃ Q : Value → Heap → Prop, Q = fun r _ => r = .bool true := ⟨_, rfl⟩
  rw [← hQ]
  have hq : ∀ h', Q (.bool true) h' := fun h' => by rw [hQ]
  clear hQ
  refine call_of1 (k := 4) ok10 rfl rfl rfl fun N => ?_
  rw [show env0 c10 [v, .int .i64 a, .int .i64 b, .int .i64 c] = [v, .int .i64 a, .int .i64 b, .int .i64 c, undef, undef, undef, undef, undef, undef, undef, undef] from rfl]
  delta c10 c10_r0 c10_r1 c10_r2 c10_r3 c10_r4 c10_r5 c10_r6 c10_r7 c10_r8 c10_r9
  replace hq := Hid.mk hq
  repeat' (first | simp -implicitDefEqProofs only [W_skip, W_reg, W_seq, W_rcond, W_cond, W_block, W_loop, W_exit, W_ret, thenQ_normal, thenQ_exit, thenQ_ret, blockQ_normal, blockQ_ret, blockQ_here, regQ_app, rcQ_app, cndK_t, cndK_f, RegW_nil, RegW_none, RegW_some, contW_app, grdK_tt, grdK_ff, grdK_tf, grdK_ft, grdK_undef, actK_p, actK_r, actK_a, actK_w, actK_call, actK_callV, heapK_app, allocK_app, writeK_app, ret1_ret, ret1_normal, ret0_ret, ret0_normal, ret2_ret2, thenK_app, retcv_ret, retcvK_app, optW_some, evs, Arg.ev, aP, aR, aA, aW, pMov, pBin, pUn, pConv, pPick, pFieldAddr, pNilCheck, pExtract, aBin, aUn, aInt, aNew, partL_f, upd, List.getElem?_cons_zero, List.getElem?_cons_succ, List.getD_cons_zero, List.getD_cons_succ, List.set_cons_zero, List.set_cons_succ, Nat.zero_add, Nat.add_zero, List.getElem?_toArray, List.take_zero, List.drop_zero, List.take_succ_cons, List.drop_succ_cons, if_true, if_false, decide_true, decide_false, Bool.false_eq_true, Bool.true_eq_false, Bool.not_true, Bool.not_false, not_true_eq_false, not_false_eq_true, ge_iff_le, gt_iff_lt, beq_self_eq_true, bne_self_eq_false, and_self, and_true, true_and, Option.isSome_some, Heap.get_alloc_same, Heap.alloc_getE, *] | with_reducible refine cndK_d (fun hc => ?_) (fun hc => ?_) | with_reducible refine grdK_d (fun hc => ?_) (fun hc => ?_) | with_reducible refine cndK_i (fun hc => ?_) (fun hc => ?_) | with_reducible refine grdK_i (fun hc => ?_) (fun hc => ?_))
  refine awake_c h _ fun h1 hl1 => ?_
  repeat' (first | simp -implicitDefEqProofs only [W_skip, W_reg, W_seq, W_rcond, W_cond, W_block, W_loop, W_exit, W_ret, thenQ_normal, thenQ_exit, thenQ_ret, blockQ_normal, blockQ_ret, blockQ_here, regQ_app, rcQ_app, cndK_t, cndK_f, RegW_nil, RegW_none, RegW_some, contW_app, grdK_tt, grdK_ff, grdK_tf, grdK_ft, grdK_undef, actK_p, actK_r, actK_a, actK_w, actK_call, actK_callV, heapK_app, allocK_app, writeK_app, ret1_ret, ret1_normal, ret0_ret, ret0_normal, ret2_ret2, thenK_app, retcv_ret, retcvK_app, optW_some, evs, Arg.ev, aP, aR, aA, aW, pMov, pBin, pUn, pConv, pPick, pFieldAddr, pNilCheck, pExtract, aBin, aUn, aInt, aNew, partL_f, upd, List.getElem?_cons_zero, List.getElem?_cons_succ, List.getD_cons_zero, List.getD_cons_succ, List.set_cons_zero, List.set_cons_succ, Nat.zero_add, Nat.add_zero, List.getElem?_toArray, List.take_zero, List.drop_zero, List.take_succ_cons, List.drop_succ_cons, if_true, if_false, decide_true, decide_false, Bool.false_eq_true, Bool.true_eq_false, Bool.not_true, Bool.not_false, not_true_eq_false, not_false_eq_true, ge_iff_le, gt_iff_lt, beq_self_eq_true, bne_self_eq_false, and_self, and_true, true_and, Option.isSome_some, Heap.get_alloc_same, Heap.alloc_getE, *] | with_reducible refine cndK_d (fun hc => ?_) (fun hc => ?_) | with_reducible refine grdK_d (fun hc => ?_) (fun hc => ?_) | with_reducible refine cndK_i (fun hc => ?_) (fun hc => ?_) | with_reducible refine grdK_i (fun hc => ?_) (fun hc => ?_))
  refine Fit_c (hv.mono hl1) hl63 hok _ fun v2 h2 ho2 hl2 => ?_
  repeat' (first | simp -implicitDefEqProofs only [W_skip, W_reg, W_seq, W_rcond, W_cond, W_block, W_loop, W_exit, W_ret, thenQ_normal, thenQ_exit, thenQ_ret, blockQ_normal, blockQ_ret, blockQ_here, regQ_app, rcQ_app, cndK_t, cndK_f, RegW_nil, RegW_none, RegW_some, contW_app, grdK_tt, grdK_ff, grdK_tf, grdK_ft, grdK_undef, actK_p, actK_r, actK_a, actK_w, actK_call, actK_callV, heapK_app, allocK_app, writeK_app, ret1_ret, ret1_normal, ret0_ret, ret0_normal, ret2_ret2, thenK_app, retcv_ret, retcvK_app, optW_some, evs, Arg.ev, aP, aR, aA, aW, pMov, pBin, pUn, pConv, pPick, pFieldAddr, pNilCheck, pExtract, aBin, aUn, aInt, aNew, partL_f, upd, List.getElem?_cons_zero, List.getElem?_cons_succ, List.getD_cons_zero, List.getD_cons_succ, List.set_cons_zero, List.set_cons_succ, Nat.zero_add, Nat.add_zero, List.getElem?_toArray, List.take_zero, List.drop_zero, List.take_succ_cons, List.drop_succ_cons, if_true, if_false, decide_true, decide_false, Bool.false_eq_true, Bool.true_eq_false, Bool.not_true, Bool.not_false, not_true_eq_false, not_false_eq_true, ge_iff_le, gt_iff_lt, beq_self_eq_true, bne_self_eq_false, and_self, and_true, true_and, Option.isSome_some, Heap.get_alloc_same, Heap.alloc_getE, *] | with_reducible refine cndK_d (fun hc => ?_) (fun hc => ?_) | with_reducible refine grdK_d (fun hc => ?_) (fun hc => ?_) | with_reducible refine cndK_i (fun hc => ?_) (fun hc => ?_) | with_reducible refine grdK_i (fun hc => ?_) (fun hc => ?_))
  have pa := pick_range ha (n := 4) (by omega)
  have pb := pick_range hb (n := 3) (by omega)
  have pc := pick_range hc (n := 2) (by omega)
  refine pick_c' a 4 (by decide) _ _ ?_
  repeat' (first | simp -implicitDefEqProofs only [W_skip, W_reg, W_seq, W_rcond, W_cond, W_block, W_loop, W_exit, W_ret, thenQ_normal, thenQ_exit, thenQ_ret, blockQ_normal, blockQ_ret, blockQ_here, regQ_app, rcQ_app, cndK_t, cndK_f, RegW_nil, RegW_none, RegW_some, contW_app, grdK_tt, grdK_ff, grdK_tf, grdK_ft, grdK_undef, actK_p, actK_r, actK_a, actK_w, actK_call, actK_callV, heapK_app, allocK_app, writeK_app, ret1_ret, ret1_normal, ret0_ret, ret0_normal, ret2_ret2, thenK_app, retcv_ret, retcvK_app, optW_some, evs, Arg.ev, aP, aR, aA, aW, pMov, pBin, pUn, pConv, pPick, pFieldAddr, pNilCheck, pExtract, aBin, aUn, aInt, aNew, partL_f, upd, List.getElem?_cons_zero, List.getElem?_cons_succ, List.getD_cons_zero, List.getD_cons_succ, List.set_cons_zero, List.set_cons_succ, Nat.zero_add, Nat.add_zero, List.getElem?_toArray, List.take_zero, List.drop_zero, List.take_succ_cons, List.drop_succ_cons, if_true, if_false, decide_true, decide_false, Bool.false_eq_true, Bool.true_eq_false, Bool.not_true, Bool.not_false, not_true_eq_false, not_false_eq_true, ge_iff_le, gt_iff_lt, beq_self_eq_true, bne_self_eq_false, and_self, and_true, true_and, Option.isSome_some, Heap.get_alloc_same, Heap.alloc_getE, *] | with_reducible refine cndK_d (fun hc => ?_) (fun hc => ?_) | with_reducible refine grdK_d (fun hc => ?_) (fun hc => ?_) | with_reducible refine cndK_i (fun hc => ?_) (fun hc => ?_) | with_reducible refine grdK_i (fun hc => ?_) (fun hc => ?_))
  refine pick_c' b 3 (by decide) _ _ ?_
  obtain ⟨ph, hph⟩ : ∃ x, pick a 4 = x := ⟨_, rfl⟩
  obtain ⟨pw, hpw⟩ : ∃ x, pick b 3 = x := ⟨_, rfl⟩
  rw [hph] at pa
  rw [hpw] at pb
  rw [hph, hpw]
  clear hph hpw
  have hlen := fit_len raw
  -- strange
  obtain ⟨v3, h3, w3, ho3, hl3, _⟩ := (OwnS.nil h2 h2 4).append (Heap.le.refl h2) ho2.sl (by omega) (b := 32) (by simp; omega) (by simp; omega)
  obtain ⟨v4, h4, w4, ho4, hl4, _⟩ := ho3.append1 hl3 (x := Ev.cells ⟨ph, 1, pw, 7⟩) rfl (by omega) (b := 32) (by simp; omega) (by simp; omega)
  -- early
  have ho5 := own_new h4 h4 (Heap.le.refl _) [⟨ph, 1, pw, 9⟩, ⟨ph, 2, pw, 9⟩] 2 rfl
  have hl5 := (Heap.le.refl h4).alloc (.blk (([⟨ph, 1, pw, 9⟩, ⟨ph, 2, pw, 9⟩] : List Ev).map Ev.cells).flatten true)
  obtain ⟨v6, h6, w6, ho6, hl6, _⟩ := ho5.append hl5 ((ho2.sl.mono hl4).mono hl5) (by omega) (b := 32) (by simp; omega) (by simp; omega)
  -- two
  have hl7 := (Heap.le.refl h6).alloc (.blk (([⟨ph, 2, pw, 9⟩, ⟨ph, 1, pw, 9⟩] : List Ev).map Ev.cells).flatten true)
  have ho7 := own_new h6 h6 (Heap.le.refl _) [⟨ph, 2, pw, 9⟩, ⟨ph, 1, pw, 9⟩] 2 rfl
  have wa : IntKind.i64.wrap (ph + 1) = ph + 1 := wrapI (by omega) (by omega)
  have wm : IntKind.i64.wrap (9 * pick c 2) = 9 * pick c 2 := wrapI (by omega) (by omega)
  obtain ⟨v8, h8, w8, ho8, hl8, _⟩ := ho7.append1 hl7 (x := Ev.cells ⟨(ph + 1).tmod 4, 1, pw, 9 * pick c 2⟩) rfl (by omega) (b := 32) (by simp) (by simp)
  have e4 : Evs h4 v4 (fit raw ++ [⟨ph, 1, pw, 7⟩]) := OwnS.evs (by simpa using ho4)
  have e6 : Evs h6 v6 ([⟨ph, 1, pw, 9⟩, ⟨ph, 2, pw, 9⟩] ++ fit raw) := OwnS.evs (by simpa using ho6)
  have e8 : Evs h8 v8 [⟨ph, 2, pw, 9⟩, ⟨ph, 1, pw, 9⟩, ⟨(ph + 1).tmod 4, 1, pw, 9 * pick c 2⟩] := OwnS.evs (by simpa using ho8)
  have hmod : ∀ z : Int, aBin .rem (.int .i64 (ph + 1)) (.int .i64 4) = some (.int .i64 ((ph + 1).tmod 4)) := fun _ => rfl
  have h40 : ¬ (4 : Int) = 0 := by decide
  clear ho2 ho3 ho4 ho5 ho6 ho7 ho8
  replace pa := Hid.mk pa
  replace pb := Hid.mk pb
  replace pc := Hid.mk pc
  replace e4 := Hid.mk e4
  replace e6 := Hid.mk e6
  replace e8 := Hid.mk e8
  repeat' (first | simp -implicitDefEqProofs only [W_skip, W_reg, W_seq, W_rcond, W_cond, W_block, W_loop, W_exit, W_ret, thenQ_normal, thenQ_exit, thenQ_ret, blockQ_normal, blockQ_ret, blockQ_here, regQ_app, rcQ_app, cndK_t, cndK_f, RegW_nil, RegW_none, RegW_some, contW_app, grdK_tt, grdK_ff, grdK_tf, grdK_ft, grdK_undef, actK_p, actK_r, actK_a, actK_w, actK_call, actK_callV, heapK_app, allocK_app, writeK_app, ret1_ret, ret1_normal, ret0_ret, ret0_normal, ret2_ret2, thenK_app, retcv_ret, retcvK_app, optW_some, evs, Arg.ev, aP, aR, aA, aW, pMov, pBin, pUn, pConv, pPick, pFieldAddr, pNilCheck, pExtract, aBin, aUn, aInt, aNew, partL_f, upd, List.getElem?_cons_zero, List.getElem?_cons_succ, List.getD_cons_zero, List.getD_cons_succ, List.set_cons_zero, List.set_cons_succ, Nat.zero_add, Nat.add_zero, List.getElem?_toArray, List.take_zero, List.drop_zero, List.take_succ_cons, List.drop_succ_cons, if_true, if_false, decide_true, decide_false, Bool.false_eq_true, Bool.true_eq_false, Bool.not_true, Bool.not_false, not_true_eq_false, not_false_eq_true, ge_iff_le, gt_iff_lt, beq_self_eq_true, bne_self_eq_false, and_self, and_true, true_and, Option.isSome_some, Heap.get_alloc_same, Heap.alloc_getE, build_ev, bslice_ev, bslice_ev2, *] | with_reducible refine cndK_d (fun hc => ?_) (fun hc => ?_) | with_reducible refine grdK_d (fun hc => ?_) (fun hc => ?_) | with_reducible refine cndK_i (fun hc => ?_) (fun hc => ?_) | with_reducible refine grdK_i (fun hc => ?_) (fun hc => ?_))
  refine pick_c' c 2 (by decide) _ _ ?_
  repeat' (first | simp -implicitDefEqProofs only [W_skip, W_reg, W_seq, W_rcond, W_cond, W_block, W_loop, W_exit, W_ret, thenQ_normal, thenQ_exit, thenQ_ret, blockQ_normal, blockQ_ret, blockQ_here, regQ_app, rcQ_app, cndK_t, cndK_f, RegW_nil, RegW_none, RegW_some, contW_app, grdK_tt, grdK_ff, grdK_tf, grdK_ft, grdK_undef, actK_p, actK_r, actK_a, actK_w, actK_call, actK_callV, heapK_app, allocK_app, writeK_app, ret1_ret, ret1_normal, ret0_ret, ret0_normal, ret2_ret2, thenK_app, retcv_ret, retcvK_app, optW_some, evs, Arg.ev, aP, aR, aA, aW, pMov, pBin, pUn, pConv, pPick, pFieldAddr, pNilCheck, pExtract, aBin, aUn, aInt, aNew, partL_f, upd, List.getElem?_cons_zero, List.getElem?_cons_succ, List.getD_cons_zero, List.getD_cons_succ, List.set_cons_zero, List.set_cons_succ, Nat.zero_add, Nat.add_zero, List.getElem?_toArray, List.take_zero, List.drop_zero, List.take_succ_cons, List.drop_succ_cons, if_true, if_false, decide_true, decide_false, Bool.false_eq_true, Bool.true_eq_false, Bool.not_true, Bool.not_false, not_true_eq_false, not_false_eq_true, ge_iff_le, gt_iff_lt, beq_self_eq_true, bne_self_eq_false, and_self, and_true, true_and, Option.isSome_some, Heap.get_alloc_same, Heap.alloc_getE, build_ev, bslice_ev, bslice_ev2, *] | with_reducible refine cndK_d (fun hc => ?_) (fun hc => ?_) | with_reducible refine grdK_d (fun hc => ?_) (fun hc => ?_) | with_reducible refine cndK_i (fun hc => ?_) (fun hc => ?_) | with_reducible refine grdK_i (fun hc => ?_) (fun hc => ?_))
  have evok : ∀ e ∈ fit raw, EvOk e ∧ e.n < 7 := fun e he => ⟨may_ok (fit_may hok he), by have := fit_mem hok he; omega⟩
  obtain ⟨w, hw⟩ := Int.eq_ofNat_of_zero_le pb.h.1
  have hw4 : w < 4 := by have := pb.h.2; omega
  refine Allowed_c ((e4.h.mono hl6).mono hl8) (by simp; omega) _ fun b h9 hb hl9 => ?_
  have : b = false := by
    cases b with
    | false => rfl
    | true => exact absurd (hb.1 rfl).2 (strange_no evok hw hw4)
  subst this
  clear hb
  repeat' (first | simp -implicitDefEqProofs only [W_skip, W_reg, W_seq, W_rcond, W_cond, W_block, W_loop, W_exit, W_ret, thenQ_normal, thenQ_exit, thenQ_ret, blockQ_normal, blockQ_ret, blockQ_here, regQ_app, rcQ_app, cndK_t, cndK_f, RegW_nil, RegW_none, RegW_some, contW_app, grdK_tt, grdK_ff, grdK_tf, grdK_ft, grdK_undef, actK_p, actK_r, actK_a, actK_w, actK_call, actK_callV, heapK_app, allocK_app, writeK_app, ret1_ret, ret1_normal, ret0_ret, ret0_normal, ret2_ret2, thenK_app, retcv_ret, retcvK_app, optW_some, evs, Arg.ev, aP, aR, aA, aW, pMov, pBin, pUn, pConv, pPick, pFieldAddr, pNilCheck, pExtract, aBin, aUn, aInt, aNew, partL_f, upd, List.getElem?_cons_zero, List.getElem?_cons_succ, List.getD_cons_zero, List.getD_cons_succ, List.set_cons_zero, List.set_cons_succ, Nat.zero_add, Nat.add_zero, List.getElem?_toArray, List.take_zero, List.drop_zero, List.take_succ_cons, List.drop_succ_cons, if_true, if_false, decide_true, decide_false, Bool.false_eq_true, Bool.true_eq_false, Bool.not_true, Bool.not_false, not_true_eq_false, not_false_eq_true, ge_iff_le, gt_iff_lt, beq_self_eq_true, bne_self_eq_false, and_self, and_true, true_and, Option.isSome_some, Heap.get_alloc_same, Heap.alloc_getE, *] | with_reducible refine cndK_d (fun hc => ?_) (fun hc => ?_) | with_reducible refine grdK_d (fun hc => ?_) (fun hc => ?_) | with_reducible refine cndK_i (fun hc => ?_) (fun hc => ?_) | with_reducible refine grdK_i (fun hc => ?_) (fun hc => ?_))
  refine Allowed_c ((e6.h.mono hl8).mono hl9) (by simp; omega) _ fun b h10 hb hl10 => ?_
  have : b = false := by
    cases b with
    | false => rfl
    | true => exact absurd (hb.1 rfl).2 (early_no (fun e he => ⟨(evok e he).1, by have := (evok e he).2; omega⟩) hw hw4)
  subst this
  clear hb
  repeat' (first | simp -implicitDefEqProofs only [W_skip, W_reg, W_seq, W_rcond, W_cond, W_block, W_loop, W_exit, W_ret, thenQ_normal, thenQ_exit, thenQ_ret, blockQ_normal, blockQ_ret, blockQ_here, regQ_app, rcQ_app, cndK_t, cndK_f, RegW_nil, RegW_none, RegW_some, contW_app, grdK_tt, grdK_ff, grdK_tf, grdK_ft, grdK_undef, actK_p, actK_r, actK_a, actK_w, actK_call, actK_callV, heapK_app, allocK_app, writeK_app, ret1_ret, ret1_normal, ret0_ret, ret0_normal, ret2_ret2, thenK_app, retcv_ret, retcvK_app, optW_some, evs, Arg.ev, aP, aR, aA, aW, pMov, pBin, pUn, pConv, pPick, pFieldAddr, pNilCheck, pExtract, aBin, aUn, aInt, aNew, partL_f, upd, List.getElem?_cons_zero, List.getElem?_cons_succ, List.getD_cons_zero, List.getD_cons_succ, List.set_cons_zero, List.set_cons_succ, Nat.zero_add, Nat.add_zero, List.getElem?_toArray, List.take_zero, List.drop_zero, List.take_succ_cons, List.drop_succ_cons, if_true, if_false, decide_true, decide_false, Bool.false_eq_true, Bool.true_eq_false, Bool.not_true, Bool.not_false, not_true_eq_false, not_false_eq_true, ge_iff_le, gt_iff_lt, beq_self_eq_true, bne_self_eq_false, and_self, and_true, true_and, Option.isSome_some, Heap.get_alloc_same, Heap.alloc_getE, *] | with_reducible refine cndK_d (fun hc => ?_) (fun hc => ?_) | with_reducible refine grdK_d (fun hc => ?_) (fun hc => ?_) | with_reducible refine cndK_i (fun hc => ?_) (fun hc => ?_) | with_reducible refine grdK_i (fun hc => ?_) (fun hc => ?_))
  refine Allowed_c ((e8.h.mono hl9).mono hl10) (by simp) _ fun b h11 hb hl11 => ?_
  have : b = true := hb.2 (two_yes pa.h pb.h (by have := pc.h.1; have := pc.h.2; omega))
  subst this
  clear hb
  repeat' (first | simp -implicitDefEqProofs only [W_skip, W_reg, W_seq, W_rcond, W_cond, W_block, W_loop, W_exit, W_ret, thenQ_normal, thenQ_exit, thenQ_ret, blockQ_normal, blockQ_ret, blockQ_here, regQ_app, rcQ_app, cndK_t, cndK_f, RegW_nil, RegW_none, RegW_some, contW_app, grdK_tt, grdK_ff, grdK_tf, grdK_ft, grdK_undef, actK_p, actK_r, actK_a, actK_w, actK_call, actK_callV, heapK_app, allocK_app, writeK_app, ret1_ret, ret1_normal, ret0_ret, ret0_normal, ret2_ret2, thenK_app, retcv_ret, retcvK_app, optW_some, evs, Arg.ev, aP, aR, aA, aW, pMov, pBin, pUn, pConv, pPick, pFieldAddr, pNilCheck, pExtract, aBin, aUn, aInt, aNew, partL_f, upd, List.getElem?_cons_zero, List.getElem?_cons_succ, List.getD_cons_zero, List.getD_cons_succ, List.set_cons_zero, List.set_cons_succ, Nat.zero_add, Nat.add_zero, List.getElem?_toArray, List.take_zero, List.drop_zero, List.take_succ_cons, List.drop_succ_cons, if_true, if_false, decide_true, decide_false, Bool.false_eq_true, Bool.true_eq_false, Bool.not_true, Bool.not_false, not_true_eq_false, not_false_eq_true, ge_iff_le, gt_iff_lt, beq_self_eq_true, bne_self_eq_false, and_self, and_true, true_and, Option.isSome_some, Heap.get_alloc_same, Heap.alloc_getE, *] | with_reducible refine cndK_d (fun hc => ?_) (fun hc => ?_) | with_reducible refine grdK_d (fun hc => ?_) (fun hc => ?_) | with_reducible refine cndK_i (fun hc => ?_) (fun hc => ?_) | with_reducible refine grdK_i (fun hc => ?_) (fun hc => ?_))
  exact hq.h _
end Go.Eng.Ax

set_option linter.unusedSimpArgs false
set_option linter.unusedVariables false
namespace Go.Eng.Ax
open Go Go.Eng Go.Proofs

/-! ### what is pending, by its law -/
def pcond (l : List Ev) (p i k : Nat) : Bool :=
  match l[k]?, l[i]? with
  | some e, some ei => e.hart == ei.hart && e.kind == 2 && e.at' == ei.at' && !p.testBit k
  | _, _ => false
theorem pend_none {l : List Ev} {p i : Nat} : ∀ {m : Nat}, (∀ k, k < m → pcond l p i k = false) → i < l.length → m ≤ l.length → pendTo l p i m = none
  | 0, _, _, _ => rfl
  | m + 1, h, hi, hm => by
    have h1 := h m (by omega)
    obtain ⟨e, he⟩ : ∃ e, l[m]? = some e := ⟨_, List.getElem?_eq_getElem (by omega)⟩
    obtain ⟨ei, hei⟩ : ∃ e, l[i]? = some e := ⟨_, List.getElem?_eq_getElem hi⟩
    simp only [pcond, he, hei] at h1
    simp only [pendTo, he, hei, h1]
    exact pend_none (fun k hk => h k (by omega)) hi (by omega)
theorem pend_some {l : List Ev} {p i k : Nat} {e : Ev} (he : l[k]? = some e) (hc : pcond l p i k = true) : ∀ {m : Nat}, k < m → (∀ j, k < j → j < m → pcond l p i j = false) → i < l.length → m ≤ l.length → pendTo l p i m = some e.n
  | 0, hk, _, _, _ => by omega
  | m + 1, hk, h, hi, hm => by
    obtain ⟨em, hem⟩ : ∃ e, l[m]? = some e := ⟨_, List.getElem?_eq_getElem (by omega)⟩
    obtain ⟨ei, hei⟩ : ∃ e, l[i]? = some e := ⟨_, List.getElem?_eq_getElem hi⟩
    by_cases hkm : k = m
    · subst hkm
      rw [he] at hem; cases hem
      simp only [pcond, he, hei] at hc
      simp only [pendTo, he, hei, hc, if_true]
    · have h1 := h m (by omega) (by omega)
      simp only [pcond, hem, hei] at h1
      simp only [pendTo, hem, hei, h1]
      exact pend_some he hc (by omega) (fun j h1 h2 => h j h1 (by omega)) hi (by omega)
theorem last_or {q : Nat → Bool} : ∀ (m : Nat), (∀ k, k < m → q k = false) ∨ ∃ k, k < m ∧ q k = true ∧ ∀ j, k < j → j < m → q j = false
  | 0 => .inl fun k hk => by omega
  | m + 1 => by
    cases hq : q m with
    | true => exact .inr ⟨m, by omega, hq, fun j h1 h2 => by omega⟩
    | false =>
      rcases last_or (q := q) m with h | ⟨k, h1, h2, h3⟩
      · exact .inl fun k hk => by
          by_cases e : k = m
          · rw [e]; exact hq
          · exact h k (by omega)
      · exact .inr ⟨k, by omega, h2, fun j h4 h5 => by
          by_cases e : j = m
          · rw [e]; exact hq
          · exact h3 j h4 (by omega)⟩

/-! ### fewer events -/
structure Thin (big few : List Ev) (φ : Nat → Nat) : Prop where
  mono : ∀ i j, i < j → j < few.length → φ i < φ j
  get : ∀ i, i < few.length → big[φ i]? = few[i]?
  rest : ∀ j e, big[j]? = some e → e.kind = 2 → ∃ i, i < few.length ∧ φ i = j

theorem Thin.keeps {big few : List Ev} {φ : Nat → Nat} (h : Thin big few φ) {i k : Nat} (hk : k < few.length) (hki : keeps few i k = true) : keeps big (φ i) (φ k) = true := by
  have hik : i < k := by
    unfold Ax.keeps at hki
    split at hki
    · simp only [Bool.and_eq_true, decide_eq_true_eq] at hki; exact hki.1.1
    · cases hki
  have e1 := h.get i (by omega)
  have e2 := h.get k hk
  unfold Ax.keeps at hki ⊢
  rw [e1, e2]
  split at hki
  · rename_i a b ha hb
    simp only [Bool.and_eq_true, decide_eq_true_eq, Bool.or_eq_true] at hki ⊢
    refine ⟨⟨h.mono i k hik hk, hki.1.2⟩, ?_⟩
    rcases hki.2 with h1 | h1
    · exact .inl h1
    · right
      rw [List.any_eq_true] at h1 ⊢
      obtain ⟨e, he, hc⟩ := h1
      obtain ⟨j, hj⟩ := List.mem_iff_getElem?.1 he
      rw [List.getElem?_drop, List.getElem?_take] at hj
      split at hj
      · rename_i hlt
        refine ⟨e, ?_, hc⟩
        have hm : φ (i + j) < φ k := h.mono _ _ hlt hk
        have hm2 : φ i ≤ φ (i + j) := by
          by_cases hj0 : j = 0
          · subst hj0; exact Nat.le_refl _
          · exact Nat.le_of_lt (h.mono i (i + j) (by omega) (by omega))
        refine List.mem_iff_getElem?.2 ⟨φ (i + j) - φ i, ?_⟩
        rw [List.getElem?_drop, List.getElem?_take, show φ i + (φ (i + j) - φ i) = φ (i + j) by omega, if_pos hm, h.get _ (by omega)]
        exact hj
      · cases hj
  · cases hki

theorem Thin.pcond {big few : List Ev} {φ : Nat → Nat} (h : Thin big few φ) {p p' i k : Nat} (hb : ∀ i, i < few.length → p'.testBit i = p.testBit (φ i)) (hi : i < few.length) (hk : k < few.length) : pcond big p (φ i) (φ k) = pcond few p' i k := by
  simp only [Ax.pcond, h.get i hi, h.get k hk, hb k hk]
theorem Thin.inj {big few : List Ev} {φ : Nat → Nat} (h : Thin big few φ) {i k : Nat} (hi : i < few.length) (hk : k < few.length) (e : φ i < φ k) : i < k := by
  rcases Nat.lt_trichotomy i k with h1 | h1 | h1
  · exact h1
  · subst h1; omega
  · have := h.mono _ _ h1 hi; omega
theorem pcond_store {l : List Ev} {p i k : Nat} (h : pcond l p i k = true) : ∃ e, l[k]? = some e ∧ e.kind = 2 := by
  unfold pcond at h
  split at h
  · rename_i e ei h1 h2
    simp only [Bool.and_eq_true, beq_iff_eq] at h
    exact ⟨e, h1, h.1.1.2⟩
  · cases h
theorem lt_of_get {l : List Ev} {i : Nat} {e : Ev} (h : l[i]? = some e) : i < l.length := (List.getElem?_eq_some_iff.1 h).1

theorem Thin.pend {big few : List Ev} {φ : Nat → Nat} (h : Thin big few φ) {p p' i : Nat} (hb : ∀ i, i < few.length → p'.testBit i = p.testBit (φ i)) (hi : i < few.length) : pendTo big p (φ i) (φ i) = pendTo few p' i i := by
  have hbi : φ i < big.length := by
    have := h.get i hi
    rw [List.getElem?_eq_getElem hi] at this
    exact lt_of_get this
  rcases last_or (q := Ax.pcond few p' i) i with h1 | ⟨k, h1, h2, h3⟩
  · rw [pend_none h1 hi (by omega), pend_none ?_ hbi (by omega)]
    intro j hj
    cases hc : Ax.pcond big p (φ i) j with
    | false => rfl
    | true =>
      obtain ⟨e, he, hk⟩ := pcond_store hc
      obtain ⟨k, hk1, rfl⟩ := h.rest j e he hk
      rw [h.pcond hb hi hk1, h1 k (h.inj hk1 hi hj)] at hc
      cases hc
  · have hkl : k < few.length := by omega
    obtain ⟨e, he⟩ : ∃ e, few[k]? = some e := ⟨_, List.getElem?_eq_getElem hkl⟩
    rw [pend_some he h2 h1 h3 hi (by omega), pend_some (k := φ k) (e := e) (by rw [h.get k hkl]; exact he) (by rw [h.pcond hb hi hkl]; exact h2) (h.mono _ _ h1 hi) ?_ hbi (by omega)]
    intro j hj1 hj2
    cases hc : Ax.pcond big p (φ i) j with
    | false => rfl
    | true =>
      obtain ⟨e', he', hk'⟩ := pcond_store hc
      obtain ⟨k', hk1, rfl⟩ := h.rest j e' he' hk'
      rw [h.pcond hb hi hk1, h3 k' (h.inj hkl hk1 hj1) (h.inj hk1 hi hj2)] at hc
      cases hc

theorem St.ext' {s t : St} (hp : s.p = t.p) (hw : ∀ k, k < 4 → s.get k = t.get k) : s = t := by
  have h0 := hw 0 (by omega)
  have h1 := hw 1 (by omega)
  have h2 := hw 2 (by omega)
  have h3 := hw 3 (by omega)
  cases s; cases t
  simp only [St.get] at *
  simp [*]

theorem mark_get (s : St) (i k : Nat) : (s.mark i).get k = s.get k := by rcases k with _ | _ | _ | k <;> rfl

theorem fin_thin {big few : List Ev} {φ : Nat → Nat} (h : Thin big few φ) (hok : ∀ e ∈ big, EvOk e) : ∀ s, Fin big s → ∀ s' : St, (∀ k, k < 4 → s'.get k = s.get k) → (∀ i, i < few.length → s'.p.testBit i = s.p.testBit (φ i)) → Fin few s' := by
  intro s hF
  induction hF with
  | done s hd =>
    intro s' hw hb
    exact Fin.done s' fun i e he ha => by
      have hi := lt_of_get he
      rw [hb i hi]
      exact hd (φ i) e (by rw [h.get i hi]; exact he) ha
  | step s t j e hj ha hbj hf hr ih =>
    intro s' hw hb
    by_cases him : ∃ i, i < few.length ∧ φ i = j
    · obtain ⟨i, hi, rfl⟩ := him
      have hei : few[i]? = some e := by rw [← h.get i hi]; exact hj
      have hbl : blockedTo big s.p (φ i) (φ i) = false := by
        cases hc : blockedTo big s.p (φ i) (φ i) with
        | false => rfl
        | true => simp [freeF, hc] at hf
      have hbl' : blockedTo few s'.p i i = false := by
        cases hc : blockedTo few s'.p i i with
        | false => rfl
        | true =>
          simp only [blockedTo, List.any_eq_true, List.mem_range, Bool.and_eq_true, Bool.not_eq_true'] at hc
          obtain ⟨k, hk, ⟨h1, h2⟩, h3⟩ := hc
          have : blockedTo big s.p (φ i) (φ i) = true := by
            simp only [blockedTo, List.any_eq_true, List.mem_range, Bool.and_eq_true, Bool.not_eq_true']
            refine ⟨φ k, h.mono _ _ hk hi, ⟨?_, ?_⟩, h.keeps hi h3⟩
            · rw [h.get k (by omega)]; exact h1
            · rw [← hb k (by omega)]; exact h2
          rw [this] at hbl; cases hbl
      obtain ⟨a, hat, ha4⟩ := (hok e (List.mem_of_getElem? hj)).a
      have hpe := h.pend hb hi (p := s.p) (p' := s'.p)
      have hbits : ∀ k, k < few.length → (s'.p ||| 2 ^ i).testBit k = (s.p ||| 2 ^ φ i).testBit (φ k) := by
        intro k hk
        rw [testBit_mark, testBit_mark, hb k hk]
        congr 1
        by_cases e : i = k
        · subst e; simp
        · have : φ i ≠ φ k := fun e2 => by
            rcases Nat.lt_or_gt_of_ne e with h1 | h1
            · have := h.mono _ _ h1 hk; omega
            · have := h.mono _ _ h1 hi; omega
          simp [e, this]
      have key : ∃ t', freeF few s' i = some t' ∧ (∀ k, k < 4 → t'.get k = t.get k) ∧ t'.p = s'.p ||| 2 ^ i := by
        simp only [freeF, hbl, hj] at hf
        simp only [freeF, hbl', hei]
        simp only [Bool.false_eq_true, if_false] at hf ⊢
        split at hf
        · rename_i hk1
          simp only [hk1, if_true]
          have e1 : s'.get e.at'.toNat = s.get e.at'.toNat := by rw [hat]; exact hw a ha4
          rw [← hpe, e1]
          split at hf
          · cases hf
          · rename_i hne
            cases hf
            simp only [hne, if_false]
            exact ⟨_, rfl, fun k hk => by rw [mark_get, mark_get]; exact hw k hk, rfl⟩
        · rename_i hk1
          simp only [hk1, if_false]
          cases hf
          refine ⟨_, rfl, fun k hk => ?_, ?_⟩
          · rw [mark_get, mark_get, hat]
            simp only [Int.toNat_natCast]
            rw [put_get _ _ _ _ ha4 hk, put_get _ _ _ _ ha4 hk, hw k hk]
          · simp [St.mark, put_p]
      obtain ⟨t', ht, hw', hp'⟩ := key
      exact Fin.step s' t' i e hei ha (by rw [hb i hi]; exact hbj) ht (ih t' hw' fun k hk => by rw [hp', free_p hf]; exact hbits k hk)
    · have hk1 : e.kind = 1 := by
        simp only [Ev.acc, Bool.or_eq_true, beq_iff_eq] at ha
        rcases ha with h1 | h1
        · exact h1
        · exact absurd (h.rest j e hj h1) him
      refine ih s' (fun k hk => ?_) fun i hi => ?_
      · rw [hw k hk]
        rcases free_words hj (hok e (List.mem_of_getElem? hj)) hf k hk with h1 | ⟨h1, _⟩
        · exact h1.symm
        · exact absurd hk1 h1
      · rw [hb i hi, free_p hf, testBit_mark]
        have : j ≠ φ i := fun e => him ⟨i, hi, e.symm⟩
        simp [this]
end Go.Eng.Ax

set_option linter.unusedSimpArgs false
set_option linter.unusedVariables false
namespace Go.Eng.Ax
open Go Go.Eng Go.Proofs

/-! ### by other numbers of harts and words -/
structure Turn (l : List Ev) (f : Ev → Ev) (π : Nat → Nat) : Prop where
  kind : ∀ e, (f e).kind = e.kind
  n : ∀ e, (f e).n = e.n
  hart : ∀ e e', e ∈ l → e' ∈ l → ((f e).hart == (f e').hart) = (e.hart == e'.hart)
  at' : ∀ e e', e ∈ l → e' ∈ l → e.acc = true → e'.acc = true → ((f e).at' == (f e').at') = (e.at' == e'.at')
  word : ∀ e, e ∈ l → e.acc = true → (f e).at' = (π e.at'.toNat : Int)
  lt : ∀ k, k < 4 → π k < 4
  inj : ∀ k k', k < 4 → k' < 4 → π k = π k' → k = k'

theorem acc_kind {e e' : Ev} (h : e'.kind = e.kind) : e'.acc = e.acc := by simp [Ev.acc, h]
theorem Turn.acc {l : List Ev} {f : Ev → Ev} {π : Nat → Nat} (h : Turn l f π) (e : Ev) : (f e).acc = e.acc := acc_kind (h.kind e)
theorem any_congr {α : Type} {p q : α → Bool} {l : List α} (h : ∀ x ∈ l, p x = q x) : l.any p = l.any q := by
  induction l with
  | nil => rfl
  | cons a r ih => rw [List.any_cons, List.any_cons, h a (by simp), ih fun x hx => h x (by simp [hx])]
theorem any_map2 {α β : Type} (f : α → β) (p : β → Bool) (l : List α) : (l.map f).any p = l.any fun x => p (f x) := by
  induction l with
  | nil => rfl
  | cons a r ih => rw [List.map_cons, List.any_cons, List.any_cons, ih]

theorem Turn.keeps {l : List Ev} {f : Ev → Ev} {π : Nat → Nat} (h : Turn l f π) {i k : Nat} (hi : ∀ e, l[i]? = some e → e.acc = true) (hk : ∀ e, l[k]? = some e → e.acc = true) : keeps (l.map f) i k = keeps l i k := by
  unfold Ax.keeps
  rw [List.getElem?_map, List.getElem?_map]
  cases ha : l[i]? with
  | none => rfl
  | some a =>
    cases hb : l[k]? with
    | none => rfl
    | some b =>
      have ma := List.mem_of_getElem? ha
      have mb := List.mem_of_getElem? hb
      simp only [Option.map_some, h.kind, h.hart a b ma mb, h.at' a b ma mb (hi a ha) (hk b hb)]
      rw [← List.map_take, ← List.map_drop, any_map2]
      rw [any_congr (q := fun e => e.kind == 3 && e.hart == a.hart) fun e he => by rw [h.kind, h.hart e a (List.mem_of_mem_take (List.mem_of_mem_drop he)) ma]]

theorem acc_of {e : Ev} (h : e.kind = 2) : e.acc = true := by simp [Ev.acc, h]
theorem Turn.pend {l : List Ev} {f : Ev → Ev} {π : Nat → Nat} (h : Turn l f π) {p i : Nat} (hi : ∀ e, l[i]? = some e → e.acc = true) : ∀ m, pendTo (l.map f) p i m = pendTo l p i m
  | 0 => rfl
  | m + 1 => by
    unfold pendTo
    rw [List.getElem?_map, List.getElem?_map, h.pend hi m]
    cases ha : l[m]? with
    | none => rfl
    | some a =>
      cases hb : l[i]? with
      | none => rfl
      | some b =>
        have ma := List.mem_of_getElem? ha
        have mb := List.mem_of_getElem? hb
        simp only [Option.map_some, h.kind, h.n, h.hart a b ma mb]
        cases hk : (a.kind == 2) with
        | false => simp
        | true => rw [h.at' a b ma mb (acc_of (by simpa using hk)) (hi b hb)]

theorem fin_turn {l : List Ev} {f : Ev → Ev} {π : Nat → Nat} (h : Turn l f π) (hok : ∀ e ∈ l, EvOk e) : ∀ s, Fin l s → ∀ s' : St, s'.p = s.p → (∀ k, k < 4 → s'.get (π k) = s.get k) → Fin (l.map f) s' := by
  intro s hF
  induction hF with
  | done s hd =>
    intro s' hp hw
    refine Fin.done s' fun i e he ha => ?_
    rw [List.getElem?_map] at he
    obtain ⟨e0, h0, rfl⟩ := Option.map_eq_some_iff.1 he
    rw [h.acc] at ha
    rw [hp]; exact hd i e0 h0 ha
  | step s t i e hi ha hb hf hr ih =>
    intro s' hp hw
    have hei : (l.map f)[i]? = some (f e) := by rw [List.getElem?_map, hi]; rfl
    have hacc : ∀ e', l[i]? = some e' → e'.acc = true := fun e' h' => by rw [hi] at h'; cases h'; exact ha
    have hbl : blockedTo (l.map f) s'.p i i = blockedTo l s.p i i := by
      unfold blockedTo
      refine any_congr fun k _ => ?_
      rw [List.getElem?_map, hp]
      cases hk : l[k]? with
      | none => rfl
      | some ek =>
        simp only [Option.map_some, Option.any_some, h.acc]
        cases hka : ek.acc with
        | false => rfl
        | true => rw [h.keeps (fun e' h' => by rw [hk] at h'; cases h'; exact hka) hacc]
    obtain ⟨a, hat, ha4⟩ := (hok e (List.mem_of_getElem? hi)).a
    have hat' : (f e).at'.toNat = π a := by rw [h.word e (List.mem_of_getElem? hi) ha, hat]; simp
    have hpe := h.pend (p := s.p) hacc i
    have key : ∃ t', freeF (l.map f) s' i = some t' ∧ t'.p = s'.p ||| 2 ^ i ∧ ∀ k, k < 4 → t'.get (π k) = t.get k := by
      unfold freeF at hf ⊢
      rw [hbl, hei, hp]
      rw [hi] at hf
      split at hf
      · cases hf
      · rename_i hnb
        rw [if_neg hnb]
        simp only [h.kind, h.n, hat', hpe] at hf ⊢
        have hat2 : e.at'.toNat = a := by rw [hat]; simp
        rw [hat2] at hf
        have hg := hw a ha4
        rw [hg]
        split at hf
        · rename_i hk1
          rw [if_pos hk1]
          split at hf
          · cases hf
          · rename_i hne
            cases hf
            rw [if_neg hne]
            exact ⟨_, rfl, by simp [St.mark, hp], fun k hk => by rw [mark_get, mark_get]; exact hw k hk⟩
        · rename_i hk1
          rw [if_neg hk1]
          cases hf
          refine ⟨_, rfl, by simp [St.mark, put_p, hp], fun k hk => ?_⟩
          rw [mark_get, mark_get, put_get _ _ _ _ (h.lt a ha4) (h.lt k hk), put_get _ _ _ _ ha4 hk, hw k hk]
          by_cases hak : a = k
          · subst hak; simp
          · have : π a ≠ π k := fun e => hak (h.inj a k ha4 hk e)
            simp [hak, this]
    obtain ⟨t', ht, hp', hw'⟩ := key
    exact Fin.step s' t' i (f e) hei (by rw [h.acc]; exact ha) (by rw [hp]; exact hb) ht (ih t' (by rw [hp', free_p hf, hp]) hw')

def turn (a b : Int) (e : Ev) : Ev := ⟨(e.hart + a).tmod 4, e.kind, if e.kind = 3 then e.at' else (e.at' + b).tmod 4, e.n⟩
theorem tmod4 {z : Int} (h : 0 ≤ z) : z.tmod 4 = z % 4 := Int.tmod_eq_emod_of_nonneg h
theorem turn_turn {l : List Ev} (hl : ∀ e ∈ l, e.may = true) {a b : Int} (ha : 0 ≤ a ∧ a < 4) (hb : 0 ≤ b ∧ b < 4) : Turn l (turn a b) fun k => (k + b.toNat) % 4 := by
  have mm : ∀ e ∈ l, 0 ≤ e.hart ∧ e.hart < 4 ∧ 0 ≤ e.at' ∧ e.at' < 4 := fun e he => by
    have := hl e he
    simp only [Ev.may, Bool.and_eq_true, decide_eq_true_eq] at this
    omega
  have nf : ∀ e : Ev, e.acc = true → ¬ e.kind = 3 := fun e he => by
    simp only [Ev.acc, Bool.or_eq_true, beq_iff_eq] at he; omega
  refine ⟨fun _ => rfl, fun _ => rfl, fun e e' he he' => ?_, fun e e' he he' h1 h2 => ?_, fun e he h1 => ?_, fun k _ => Nat.mod_lt _ (by omega), fun k k' h1 h2 h3 => by omega⟩
  · have h1 := mm e he
    have h2 := mm e' he'
    simp only [turn]
    rw [tmod4 (by omega), tmod4 (by omega), Bool.eq_iff_iff, beq_iff_eq, beq_iff_eq]
    omega
  · have h3 := mm e he
    have h4 := mm e' he'
    simp only [turn, nf e h1, nf e' h2, if_false]
    rw [tmod4 (by omega), tmod4 (by omega), Bool.eq_iff_iff, beq_iff_eq, beq_iff_eq]
    omega
  · have h3 := mm e he
    simp only [turn, nf e h1, if_false]
    rw [tmod4 (by omega)]
    omega
theorem turn_may {e : Ev} (h : e.may = true) {a b : Int} (ha : 0 ≤ a ∧ a < 4) (hb : 0 ≤ b ∧ b < 4) : (turn a b e).may = true := by
  have ok := (may_ok h).n
  simp only [Ev.may, Bool.and_eq_true, decide_eq_true_eq] at h
  have h3 : (e.kind == 3 && (e.at' != 0 || e.n != 0)) = false := by
    have := h.1
    cases hx : (e.kind == 3 && (e.at' != 0 || e.n != 0)) with
    | false => rfl
    | true => rw [hx] at this; cases this
  refine may_of ⟨?_, ?_, by simp only [turn]; omega, by simp only [turn]; omega, ?_, ?_, ok.1, ok.2, ?_⟩
  · simp only [turn]; rw [tmod4 (by omega)]; omega
  · simp only [turn]; rw [tmod4 (by omega)]; omega
  · simp only [turn]; split
    · omega
    · rw [tmod4 (by omega)]; omega
  · simp only [turn]; split
    · omega
    · rw [tmod4 (by omega)]; omega
  · intro hk
    simp only [turn] at hk ⊢
    rw [if_pos hk]
    simp only [hk, beq_self_eq_true, Bool.true_and, Bool.or_eq_false_iff] at h3
    simpa using h3
theorem turn_back {e : Ev} (h : e.may = true) {a b : Int} (ha : 0 ≤ a ∧ a < 4) (hb : 0 ≤ b ∧ b < 4) : turn ((4 - a) % 4) ((4 - b) % 4) (turn a b e) = e := by
  simp only [Ev.may, Bool.and_eq_true, decide_eq_true_eq] at h
  cases e with
  | mk hart kind at' n =>
    simp only [turn] at *
    have e1 : ((hart + a).tmod 4 + (4 - a) % 4).tmod 4 = hart := by
      rw [tmod4 (z := hart + a) (by omega), tmod4 (by omega)]; omega
    rw [e1]
    congr 1
    split
    · rfl
    · rw [tmod4 (z := at' + b) (by omega), tmod4 (by omega)]; omega

theorem fin_turned {l : List Ev} (hr : right l = true) {a b : Int} (ha : 0 ≤ a ∧ a < 4) (hb : 0 ≤ b ∧ b < 4) : right (l.map (turn a b)) = true ∧ (Fin l st0 ↔ Fin (l.map (turn a b)) st0) := by
  simp only [right, Bool.and_eq_true, decide_eq_true_eq, List.all_eq_true] at hr
  have hm : ∀ e ∈ l.map (turn a b), e.may = true := fun e he => by
    obtain ⟨e0, h0, rfl⟩ := List.mem_map.1 he
    exact turn_may (hr.2 e0 h0) ha hb
  have z : ∀ k, st0.get k = 0 := fun k => by rcases k with _ | _ | _ | k <;> rfl
  refine ⟨by simp only [right, Bool.and_eq_true, decide_eq_true_eq, List.all_eq_true]; exact ⟨by simpa using hr.1, hm⟩, fun h => ?_, fun h => ?_⟩
  · exact fin_turn (turn_turn hr.2 ha hb) (fun e he => may_ok (hr.2 e he)) st0 h st0 rfl fun k _ => by rw [z, z]
  · have ha' : 0 ≤ (4 - a) % 4 ∧ (4 - a) % 4 < 4 := by omega
    have hb' : 0 ≤ (4 - b) % 4 ∧ (4 - b) % 4 < 4 := by omega
    have := fin_turn (turn_turn hm ha' hb') (fun e he => may_ok (hm e he)) st0 h st0 rfl fun k _ => by rw [z, z]
    rw [List.map_map] at this
    have e1 : l.map (turn ((4 - a) % 4) ((4 - b) % 4) ∘ turn a b) = l :=
      (List.map_congr_left (g := id) fun e he => turn_back (hr.2 e he) ha hb).trans (List.map_id l)
    rwa [e1] at this
end Go.Eng.Ax

set_option linter.unusedSimpArgs false
set_option linter.unusedVariables false
namespace Go.Eng.Ax
open Go Go.Eng Go.Proofs

/-! ### the search finds just the orders that hold -/
def stepSt (l : List Ev) (s : St) (i : Nat) : St :=
  match l[i]? with
  | some e => if e.kind == 1 then s.mark i else (s.put e.at'.toNat e.n).mark i
  | none => s
def stOf (l : List Ev) (o : List Nat) : St := o.foldl (stepSt l) st0
theorem stOf_snoc (l : List Ev) (o : List Nat) (i : Nat) : stOf l (o ++ [i]) = stepSt l (stOf l o) i := by simp [stOf]
theorem free_step {l : List Ev} {s s' : St} {i : Nat} (h : freeF l s i = some s') : s' = stepSt l s i := by
  unfold freeF at h
  unfold stepSt
  split at h
  · cases h
  · cases he : l[i]? with
    | none => rw [he] at h; cases h
    | some e =>
      rw [he] at h
      simp only [] at h ⊢
      split at h
      · rename_i hk
        split at h
        · cases h
        · cases h; rw [if_pos hk]
      · rename_i hk
        cases h; rw [if_neg hk]
theorem step_p {l : List Ev} {s : St} {i : Nat} (hi : i < l.length) : (stepSt l s i).p = s.p ||| 2 ^ i := by
  unfold stepSt
  rw [List.getElem?_eq_getElem hi]
  simp only []
  split
  · rfl
  · simp [St.mark, put_p]

def accN (l : List Ev) : List Nat := (List.range l.length).filter fun j => (l[j]?).any Ev.acc
theorem accs_accN (l : List Ev) : accs l = (accN l).map fun (j : Nat) => (j : Int) := rfl
theorem mem_accN {l : List Ev} {i : Nat} : i ∈ accN l ↔ ∃ e, l[i]? = some e ∧ e.acc = true := by
  simp only [accN, List.mem_filter, List.mem_range]
  constructor
  · rintro ⟨h1, h2⟩
    obtain ⟨e, he⟩ : ∃ e, l[i]? = some e := ⟨_, List.getElem?_eq_getElem h1⟩
    exact ⟨e, he, by simpa [he] using h2⟩
  · rintro ⟨e, he, ha⟩
    exact ⟨lt_of_get he, by simp [he, ha]⟩
theorem nodup_accN (l : List Ev) : (accN l).Nodup := List.nodup_range.filter _

/-- an order, of Nats -/
structure Ord (l : List Ev) (o : List Nat) : Prop where
  perm : o.Perm (accN l)
theorem Ord.nodup {l : List Ev} {o : List Nat} (h : Ord l o) : o.Nodup := h.perm.nodup_iff.2 (nodup_accN l)
theorem Ord.mem {l : List Ev} {o : List Nat} (h : Ord l o) {i : Nat} : i ∈ o ↔ ∃ e, l[i]? = some e ∧ e.acc = true := by rw [h.perm.mem_iff, mem_accN]
def io (o : List Nat) : List Int := o.map fun (j : Nat) => (j : Int)
theorem io_get (o : List Nat) (a : Nat) : (io o)[a]? = (o[a]?).map fun (j : Nat) => (j : Int) := by simp [io]
theorem perm_io {a b : List Nat} (h : (io a).Perm (io b)) : a.Perm b := by
  have := h.map Int.toNat
  have e : ∀ o : List Nat, (io o).map Int.toNat = o := fun o => by
    rw [io, List.map_map]
    exact (List.map_congr_left (g := id) fun x _ => by simp).trans (List.map_id o)
  rwa [e, e] at this
theorem ord_iff {l : List Ev} {o : List Nat} : isOrder l (io o) = true ↔ Ord l o := by
  rw [isOrder, decide_eq_true_iff, accs_accN]
  exact ⟨fun h => ⟨perm_io h⟩, fun h => h.perm.map _⟩
theorem of_isOrder {l : List Ev} {z : List Int} (h : isOrder l z = true) : ∃ o, z = io o ∧ Ord l o := by
  have hm := isOrder_mem h
  have : z = io (z.map Int.toNat) := by
    rw [io, List.map_map]
    refine ((List.map_congr_left (g := id) fun x hx => ?_).trans (List.map_id z)).symm
    have := (hm x hx).1
    simp; omega
  exact ⟨_, this, ord_iff.1 (this ▸ h)⟩

theorem bits_fold {l : List Ev} : ∀ {p : List Nat} (s : St), (∀ i ∈ p, i < l.length) → ∀ k, (p.foldl (stepSt l) s).p.testBit k = (s.p.testBit k || decide (k ∈ p))
  | [], s, _, k => by simp
  | i :: p, s, h, k => by
    rw [List.foldl_cons, bits_fold _ (fun j hj => h j (by simp [hj])), step_p (h i (by simp)), testBit_mark, Bool.or_assoc]
    congr 1
    rw [Bool.eq_iff_iff]
    simp only [Bool.or_eq_true, decide_eq_true_eq, List.mem_cons]
    constructor
    · rintro (h | h)
      · exact .inl h.symm
      · exact .inr h
    · rintro (h | h)
      · exact .inl h.symm
      · exact .inr h
theorem nodup_inj {o : List Nat} (h : o.Nodup) {a b i : Nat} (ha : o[a]? = some i) (hb : o[b]? = some i) : a = b := by
  obtain ⟨a1, a2⟩ := List.getElem?_eq_some_iff.1 ha
  obtain ⟨b1, b2⟩ := List.getElem?_eq_some_iff.1 hb
  have hp := List.pairwise_iff_getElem.1 h
  rcases Nat.lt_trichotomy a b with h1 | h1 | h1
  · exact absurd (a2.trans b2.symm) (hp a b a1 b1 h1)
  · exact h1
  · exact absurd (b2.trans a2.symm) (hp b a b1 a1 h1)
theorem bits_stOf {l : List Ev} {p : List Nat} (h : ∀ i ∈ p, i < l.length) (k : Nat) : (stOf l p).p.testBit k = decide (k ∈ p) := by
  rw [stOf, bits_fold _ h]; simp [st0]

/-- a store at a word -/
def stAt (l : List Ev) (o : List Nat) (w : Nat) (b : Nat) : Bool :=
  match o[b]? with
  | some j => (l[j]?).any fun e => e.kind == 2 && e.at'.toNat == w
  | none => false
theorem step_get {l : List Ev} (hl : ∀ e ∈ l, EvOk e) {s : St} {i : Nat} {e : Ev} (he : l[i]? = some e) (ha : e.acc = true) {w : Nat} (hw : w < 4) : (stepSt l s i).get w = if e.kind == 2 && e.at'.toNat == w then e.n else s.get w := by
  obtain ⟨a, hat, ha4⟩ := (hl e (List.mem_of_getElem? he)).a
  unfold stepSt
  rw [he]
  simp only [Ev.acc, Bool.or_eq_true, beq_iff_eq] at ha
  rcases ha with h1 | h2
  · simp [h1, mark_get]
  · simp only [h2, hat, Int.toNat_natCast]
    rw [if_neg (by decide), mark_get, put_get _ _ _ _ ha4 hw]
    simp
theorem words_none {l : List Ev} (hl : ∀ e ∈ l, EvOk e) {o : List Nat} (ho : ∀ j ∈ o, ∃ e, l[j]? = some e ∧ e.acc = true) {w : Nat} (hw : w < 4) : ∀ a, a ≤ o.length → (∀ b, b < a → stAt l o w b = false) → (stOf l (o.take a)).get w = 0
  | 0, _, _ => by rcases w with _ | _ | _ | w <;> rfl
  | a + 1, ha, h => by
    obtain ⟨i, hi⟩ : ∃ i, o[a]? = some i := ⟨_, List.getElem?_eq_getElem (by omega)⟩
    obtain ⟨e, he, hacc⟩ := ho i (List.mem_of_getElem? hi)
    have := h a (by omega)
    simp only [stAt, hi, he, Option.any_some] at this
    rw [List.take_add_one, hi, Option.toList_some, stOf_snoc, step_get hl he hacc hw, this, words_none hl ho hw a (by omega) fun b hb => h b (by omega)]
    rfl
theorem words_last {l : List Ev} (hl : ∀ e ∈ l, EvOk e) {o : List Nat} (ho : ∀ j ∈ o, ∃ e, l[j]? = some e ∧ e.acc = true) {w : Nat} (hw : w < 4) {b j : Nat} {e : Ev} (hb : o[b]? = some j) (he : l[j]? = some e) (hs : stAt l o w b = true) :
    ∀ a, a ≤ o.length → b < a → (∀ c, b < c → c < a → stAt l o w c = false) → (stOf l (o.take a)).get w = e.n
  | 0, _, hba, _ => by omega
  | a + 1, ha, hba, h => by
    obtain ⟨i, hi⟩ : ∃ i, o[a]? = some i := ⟨_, List.getElem?_eq_getElem (by omega)⟩
    obtain ⟨e', he', hacc⟩ := ho i (List.mem_of_getElem? hi)
    rw [List.take_add_one, hi, Option.toList_some, stOf_snoc, step_get hl he' hacc hw]
    by_cases hab : b = a
    · subst hab
      rw [hi] at hb; cases hb
      rw [he] at he'; cases he'
      simp only [stAt, hi, he, Option.any_some] at hs
      rw [hs]; rfl
    · have := h a (by omega) (by omega)
      simp only [stAt, hi, he', Option.any_some] at this
      rw [this, words_last hl ho hw hb he hs a (by omega) (by omega) fun c h1 h2 => h c h1 (by omega)]
      rfl

/-- what a load may see, at a place of the order -/
def hitAt (l : List Ev) (o : List Nat) (i b : Nat) : Bool :=
  match o[b]? with
  | some j => hit l (io o) i b j
  | none => false
theorem value_none {l : List Ev} {o : List Nat} {i : Nat} : ∀ m, (∀ b, b < m → hitAt l o i b = false) → valueTo l (io o) i m = 0
  | 0, _ => rfl
  | m + 1, h => by
    have h1 := h m (by omega)
    unfold valueTo
    rw [io_get]
    cases hm : o[m]? with
    | none => rfl
    | some j =>
      simp only [hitAt, hm] at h1
      simp only [Option.map_some, h1]
      exact value_none m fun b hb => h b (by omega)
theorem value_last {l : List Ev} {o : List Nat} {i b j : Nat} {e : Ev} (hb : o[b]? = some j) (he : l[j]? = some e) (hh : hitAt l o i b = true) : ∀ m, m ≤ o.length → b < m → (∀ c, b < c → c < m → hitAt l o i c = false) → valueTo l (io o) i m = e.n
  | 0, _, hbm, _ => by omega
  | m + 1, hm, hbm, h => by
    obtain ⟨k, hk⟩ : ∃ i, o[m]? = some i := ⟨_, List.getElem?_eq_getElem (by omega)⟩
    unfold valueTo
    rw [io_get, hk]
    by_cases hbm2 : b = m
    · subst hbm2
      rw [hk] at hb; cases hb
      simp only [hitAt, hk] at hh
      simp only [Option.map_some, hh, if_true, Int.toNat_natCast, he]; rfl
    · have h1 := h m (by omega) (by omega)
      simp only [hitAt, hk] at h1
      simp only [Option.map_some, h1]
      exact value_last hb he hh m (by omega) (by omega) fun c h1 h2 => h c h1 (by omega)

theorem atOf_io {l : List Ev} {o : List Nat} (ho : o.Nodup) {a i : Nat} (ha : o[a]? = some i) : atOf (io o) i = a := by
  have : (io o).findIdx? (fun z => (i : Int) == z) = some a := by
    rw [List.findIdx?_eq_some_iff_getElem]
    have hlt := (List.getElem?_eq_some_iff.1 ha).1
    have hai := (List.getElem?_eq_some_iff.1 ha).2
    refine ⟨by simpa [io] using hlt, by simp [io, hai], fun j hj => ?_⟩
    simp only [io, List.getElem_map]
    intro hh
    have hji : o[j]? = some i := by
      have := beq_iff_eq.1 hh
      rw [List.getElem?_eq_getElem (by omega)]
      congr 1
      omega
    have := nodup_inj ho hji ha
    omega
  simp [atOf, this]

/-- none behind one that it must be ahead of -/
def Keeping (l : List Ev) (o : List Nat) : Prop := ∀ (a b i j : Nat), b < a → o[a]? = some i → o[b]? = some j → keeps l i j = false

theorem pend_value {l : List Ev} (hl : ∀ e ∈ l, EvOk e) {o : List Nat} (ho : Ord l o) (hk : Keeping l o) {a i : Nat} {e : Ev} (ha : o[a]? = some i) (he : l[i]? = some e) :
    (pendTo l (stOf l (o.take a)).p i i).getD ((stOf l (o.take a)).get e.at'.toNat) = value l (io o) i := by
  have hil := lt_of_get he
  have hal := (List.getElem?_eq_some_iff.1 ha).1
  obtain ⟨w, hat, hw4⟩ := (hl e (List.mem_of_getElem? he)).a
  have hmem : ∀ j ∈ o, ∃ e, l[j]? = some e ∧ e.acc = true := fun j hj => ho.mem.1 hj
  have hrange : ∀ j ∈ o.take a, j < l.length := fun j hj => by
    obtain ⟨e, he, _⟩ := hmem j (List.mem_of_mem_take hj)
    exact lt_of_get he
  have hnd := ho.nodup
  have hpos : ∀ (b j : Nat), o[b]? = some j → (j ∈ o.take a ↔ b < a) := fun b j hb => by
    have hbl := (List.getElem?_eq_some_iff.1 hb).1
    have hbj := (List.getElem?_eq_some_iff.1 hb).2
    rw [List.mem_take_iff_getElem]
    constructor
    · rintro ⟨c, hc, hcj⟩
      have := nodup_inj hnd hb (by rw [List.getElem?_eq_getElem (by omega), hcj] : o[c]? = some j)
      omega
    · intro h
      exact ⟨b, by omega, hbj⟩
  have hatIo := atOf_io (l := l) hnd ha
  have hhit : ∀ (b j : Nat) (ej : Ev), o[b]? = some j → l[j]? = some ej → hitAt l o i b = (ej.kind == 2 && ej.at' == e.at' && (decide (b < a) || (decide (j < i) && ej.hart == e.hart))) := fun b j ej hb hj => by
    simp only [hitAt, hb, hit, Int.toNat_natCast, hj, he, hatIo]
    congr 2
    · rw [Bool.eq_iff_iff]; simp
    · congr 1; rw [Bool.eq_iff_iff]; simp
  have hst : ∀ (b j : Nat) (ej : Ev), o[b]? = some j → l[j]? = some ej → stAt l o w b = (ej.kind == 2 && ej.at' == e.at') := fun b j ej hb hj => by
    simp only [stAt, hb, hj, Option.any_some]
    obtain ⟨w', hat', _⟩ := (hl ej (List.mem_of_getElem? hj)).a
    congr 1
    rw [hat, hat', Bool.eq_iff_iff]
    simp
    omega
  have hnone : ∀ b, o.length ≤ b → hitAt l o i b = false := fun b hb => by simp only [hitAt, List.getElem?_eq_none hb]
  have hbit : ∀ k, (stOf l (o.take a)).p.testBit k = decide (k ∈ o.take a) := bits_stOf hrange
  have hg : ∀ b, b < o.length → ∃ j ej, o[b]? = some j ∧ l[j]? = some ej := fun b hb => by
    obtain ⟨j, hj⟩ : ∃ i, o[b]? = some i := ⟨_, List.getElem?_eq_getElem hb⟩
    obtain ⟨ej, hej, _⟩ := hmem j (List.mem_of_getElem? hj)
    exact ⟨j, ej, hj, hej⟩
  have hpc : ∀ k ek, l[k]? = some ek → pcond l (stOf l (o.take a)).p i k = (ek.hart == e.hart && ek.kind == 2 && ek.at' == e.at' && !decide (k ∈ o.take a)) := fun k ek hk => by
    simp only [pcond, hk, he, hbit]
  show _ = valueTo l (io o) i (io o).length
  have hio : (io o).length = o.length := by simp [io]
  rw [hio]
  rcases last_or (q := pcond l (stOf l (o.take a)).p i) i with h1 | ⟨k, h1, h2, h3⟩
  · rw [pend_none h1 hil (by omega), Option.getD_none, hat, Int.toNat_natCast]
    -- only what is placed is seen
    have hfar : ∀ b, a ≤ b → hitAt l o i b = false := fun b hab => by
      by_cases hbl : b < o.length
      · obtain ⟨j, ej, hj, hej⟩ := hg b hbl
        rw [hhit b j ej hj hej]
        cases hh : (ej.kind == 2 && ej.at' == e.at' && (decide (b < a) || (decide (j < i) && ej.hart == e.hart))) with
        | false => rfl
        | true =>
          simp only [Bool.and_eq_true, Bool.or_eq_true, decide_eq_true_eq] at hh
          have hji : j < i ∧ (ej.hart == e.hart) = true := by
            rcases hh.2 with h | h
            · omega
            · exact h
          have := h1 j hji.1
          rw [hpc j ej hej, hh.1.1, hh.1.2, hji.2] at this
          have hn : ¬ j ∈ o.take a := fun hm => by have := (hpos b j hj).1 hm; omega
          simp [hn] at this
      · exact hnone b (by omega)
    rcases last_or (q := stAt l o w) a with g1 | ⟨b, g1, g2, g3⟩
    · rw [words_none hl hmem hw4 a (by omega) g1]
      refine (value_none _ fun b hb => ?_).symm
      by_cases hba : b < a
      · obtain ⟨j, ej, hj, hej⟩ := hg b hb
        have := g1 b hba
        rw [hst b j ej hj hej] at this
        rw [hhit b j ej hj hej, this]; rfl
      · exact hfar b (by omega)
    · obtain ⟨j, ej, hj, hej⟩ := hg b (by omega)
      rw [words_last hl hmem hw4 hj hej g2 a (by omega) g1 g3]
      rw [hst b j ej hj hej] at g2
      refine (value_last hj hej ?_ _ (Nat.le_refl _) (by omega) fun c hc1 hc2 => ?_).symm
      · rw [hhit b j ej hj hej, g2]; simp [g1]
      · by_cases hca : c < a
        · obtain ⟨j', ej', hj', hej'⟩ := hg c hc2
          have := g3 c hc1 hca
          rw [hst c j' ej' hj' hej'] at this
          rw [hhit c j' ej' hj' hej', this]; rfl
        · exact hfar c (by omega)
  · obtain ⟨ek, hek, hk2⟩ := pcond_store h2
    rw [pend_some hek h2 h1 h3 hil (by omega), Option.getD_some]
    have h2' := h2
    rw [hpc k ek hek] at h2'
    simp only [Bool.and_eq_true, Bool.not_eq_true', decide_eq_false_iff_not] at h2'
    obtain ⟨⟨⟨hh, _⟩, hat2⟩, hnk⟩ := h2'
    have hko : k ∈ o := ho.mem.2 ⟨ek, hek, by simp [Ev.acc, hk2]⟩
    obtain ⟨b, hb⟩ := List.mem_iff_getElem?.1 hko
    have hbl := (List.getElem?_eq_some_iff.1 hb).1
    have hab : a ≤ b := by
      rcases Nat.lt_or_ge b a with h | h
      · exact absurd ((hpos b k hb).2 h) hnk
      · exact h
    refine (value_last hb hek ?_ _ (Nat.le_refl _) hbl fun c hc1 hc2 => ?_).symm
    · rw [hhit b k ek hb hek, hat2, hh]; simp [hk2, h1]
    · obtain ⟨j, ej, hj, hej⟩ := hg c hc2
      rw [hhit c j ej hj hej]
      cases hx : (ej.kind == 2 && ej.at' == e.at' && (decide (c < a) || (decide (j < i) && ej.hart == e.hart))) with
      | false => rfl
      | true =>
        simp only [Bool.and_eq_true, Bool.or_eq_true, decide_eq_true_eq] at hx
        have hji : j < i ∧ (ej.hart == e.hart) = true := by
          rcases hx.2 with h | h
          · omega
          · exact h
        have hjn : ¬ j ∈ o.take a := fun hm => by have := (hpos c j hj).1 hm; omega
        have hjk : j ≤ k := by
          rcases Nat.lt_or_ge k j with h | h
          · have := h3 j h hji.1
            rw [hpc j ej hej, hx.1.1, hx.1.2, hji.2] at this
            simp [hjn] at this
          · exact h
        have hjk2 : j ≠ k := fun e => by
          subst e
          have := nodup_inj hnd hj hb
          omega
        have hkeep : keeps l j k = true := by
          have e1 := beq_iff_eq.1 hji.2
          have e2 := beq_iff_eq.1 hh
          have e3 := beq_iff_eq.1 hx.1.2
          have e4 := beq_iff_eq.1 hat2
          simp only [keeps, hej, hek, Bool.and_eq_true, decide_eq_true_eq, beq_iff_eq, Bool.or_eq_true]
          exact ⟨⟨by omega, by omega⟩, .inl (.inr ⟨hk2, by omega⟩)⟩
        rw [hk c b j k hc1 hj hb] at hkeep
        cases hkeep

theorem holds_iff {l : List Ev} (hr : right l = true) {o : List Nat} (ho : Ord l o) : holds l (io o) = true ↔ Keeping l o ∧ ∀ (a i : Nat) (e : Ev), o[a]? = some i → l[i]? = some e → e.kind = 1 → value l (io o) i = e.n := by
  have hio : (io o).length = o.length := by simp [io]
  simp only [holds, hr, ord_iff.2 ho, Bool.true_and, List.all_eq_true, List.mem_range, hio]
  have hat : ∀ (a i : Nat) (e : Ev), o[a]? = some i → l[i]? = some e → (holdsAt l (io o) a = true ↔ (∀ (b j : Nat), b < a → o[b]? = some j → keeps l i j = false) ∧ (e.kind = 1 → value l (io o) i = e.n)) := by
    intro a i e ha he
    simp only [holdsAt, io_get, ha, Option.map_some, Int.toNat_natCast, he, Option.any_some, Bool.and_eq_true, Bool.not_eq_true']
    refine and_congr ?_ ?_
    · rw [List.any_eq_false]
      constructor
      · intro h b j hb hj
        have hm : ((j : Nat) : Int) ∈ (io o).take a := by
          rw [List.mem_take_iff_getElem]
          obtain ⟨h1, h2⟩ := List.getElem?_eq_some_iff.1 hj
          exact ⟨b, by rw [hio]; omega, by simp [io, h2]⟩
        simpa using h _ hm
      · intro h z hz
        rw [List.mem_take_iff_getElem] at hz
        obtain ⟨b, hb, hbz⟩ := hz
        have hbl : b < o.length := by rw [hio] at hb; omega
        have : z = ((o[b] : Nat) : Int) := by rw [← hbz]; simp [io]
        rw [this, Int.toNat_natCast, h b o[b] (by omega) (List.getElem?_eq_getElem hbl)]
        decide
    · constructor
      · intro h hk
        have := h
        simpa [hk] using this
      · intro h
        by_cases hk : e.kind = 1
        · simp [hk, h hk]
        · simp [hk]
  constructor
  · intro h
    refine ⟨fun a b i j hba ha hb => ?_, fun a i e ha he hk => ?_⟩
    · obtain ⟨e, he, _⟩ := ho.mem.1 (List.mem_of_getElem? ha)
      exact ((hat a i e ha he).1 (h a (List.getElem?_eq_some_iff.1 ha).1)).1 b j hba hb
    · exact ((hat a i e ha he).1 (h a (List.getElem?_eq_some_iff.1 ha).1)).2 hk
  · rintro ⟨h1, h2⟩ a ha
    obtain ⟨i, hi⟩ : ∃ i, o[a]? = some i := ⟨_, List.getElem?_eq_getElem ha⟩
    obtain ⟨e, he, _⟩ := ho.mem.1 (List.mem_of_getElem? hi)
    exact (hat a i e hi he).2 ⟨fun b j hb hj => h1 a b i j hb hi hj, h2 a i e hi he⟩

theorem fin_of_holds {l : List Ev} (hr : right l = true) {o : List Nat} (ho : Ord l o) (hh : holds l (io o) = true) : Fin l st0 := by
  obtain ⟨hk, hv⟩ := (holds_iff hr ho).1 hh
  obtain ⟨_, hl⟩ := right_ok hr
  have hmem : ∀ j ∈ o, ∃ e, l[j]? = some e ∧ e.acc = true := fun j hj => ho.mem.1 hj
  have hrange : ∀ a, ∀ j ∈ o.take a, j < l.length := fun a j hj => by
    obtain ⟨e, he, _⟩ := hmem j (List.mem_of_mem_take hj)
    exact lt_of_get he
  suffices ∀ (k a : Nat), o.length - a = k → a ≤ o.length → Fin l (stOf l (o.take a)) by
    have := this _ 0 rfl (Nat.zero_le _)
    rwa [List.take_zero] at this
  intro k
  induction k with
  | zero =>
    intro a hka ha
    have : a = o.length := by omega
    subst this
    rw [List.take_of_length_le (Nat.le_refl _)]
    refine Fin.done _ fun i e he hacc => ?_
    rw [bits_stOf fun j hj => by obtain ⟨e, he, _⟩ := hmem j hj; exact lt_of_get he]
    exact decide_eq_true (ho.mem.2 ⟨e, he, hacc⟩)
  | succ k ih =>
    intro a hka ha
    have hal : a < o.length := by omega
    obtain ⟨i, hi⟩ : ∃ i, o[a]? = some i := ⟨_, List.getElem?_eq_getElem hal⟩
    obtain ⟨e, he, hacc⟩ := hmem i (List.mem_of_getElem? hi)
    have hbit := bits_stOf (hrange a)
    have hni : ¬ i ∈ o.take a := fun hm => by
      rw [List.mem_take_iff_getElem] at hm
      obtain ⟨c, hc, hci⟩ := hm
      have := nodup_inj ho.nodup hi (by rw [List.getElem?_eq_getElem (by omega), hci] : o[c]? = some i)
      omega
    have hbl : blockedTo l (stOf l (o.take a)).p i i = false := by
      cases hc : blockedTo l (stOf l (o.take a)).p i i with
      | false => rfl
      | true =>
        simp only [blockedTo, List.any_eq_true, List.mem_range, Bool.and_eq_true, Bool.not_eq_true', hbit, decide_eq_false_iff_not] at hc
        obtain ⟨j, hj, ⟨h1, h2⟩, h3⟩ := hc
        obtain ⟨ej, hej⟩ : ∃ e, l[j]? = some e := ⟨_, List.getElem?_eq_getElem (by have := lt_of_get he; omega)⟩
        have hjo : j ∈ o := ho.mem.2 ⟨ej, hej, by simpa [hej] using h1⟩
        obtain ⟨c, hc⟩ := List.mem_iff_getElem?.1 hjo
        have hca : a < c := by
          rcases Nat.lt_trichotomy a c with h | h | h
          · exact h
          · subst h; rw [hi] at hc; cases hc; omega
          · exfalso
            refine h2 ?_
            rw [List.mem_take_iff_getElem]
            obtain ⟨q1, q2⟩ := List.getElem?_eq_some_iff.1 hc
            exact ⟨c, by omega, q2⟩
        rw [hk c a j i hca hc hi] at h3
        cases h3
    have hpv := pend_value hl ho hk hi he
    have hfree : ∃ s', freeF l (stOf l (o.take a)) i = some s' := by
      unfold freeF
      rw [hbl, he]
      simp only [Bool.false_eq_true, if_false]
      split
      · rename_i hk1
        rw [hpv, hv a i e hi he (by simpa using hk1)]
        exact ⟨_, if_neg (by simp)⟩
      · exact ⟨_, rfl⟩
    obtain ⟨s', hs'⟩ := hfree
    refine Fin.step _ s' i e he hacc (by rw [hbit]; exact decide_eq_false hni) hs' ?_
    have := ih (a + 1) (by omega) (by omega)
    rw [List.take_add_one, hi, Option.toList_some, stOf_snoc, ← free_step hs'] at this
    exact this

/-- a way of the search -/
def Way (l : List Ev) (o : List Nat) : Prop := ∀ (a i : Nat), o[a]? = some i → (stOf l (o.take a)).p.testBit i = false ∧ ∃ s', freeF l (stOf l (o.take a)) i = some s'

theorem fin_way {l : List Ev} : ∀ s, Fin l s → ∀ p : List Nat, s = stOf l p → (∀ j ∈ p, ∃ e, l[j]? = some e ∧ e.acc = true) → p.Nodup → Way l p → ∃ o, Ord l o ∧ Way l o := by
  intro s hF
  induction hF with
  | done s hd =>
    intro p hs hp hn hw
    refine ⟨p, ⟨?_⟩, hw⟩
    rw [List.perm_ext_iff_of_nodup hn (nodup_accN l)]
    intro i
    rw [mem_accN]
    refine ⟨hp i, fun ⟨e, he, ha⟩ => ?_⟩
    have := hd i e he ha
    rw [hs, bits_stOf fun j hj => by obtain ⟨e, he, _⟩ := hp j hj; exact lt_of_get he] at this
    exact of_decide_eq_true this
  | step s t i e hi ha hb hf hr ih =>
    intro p hs hp hn hw
    have hbits := bits_stOf (l := l) (p := p) fun j hj => by obtain ⟨e, he, _⟩ := hp j hj; exact lt_of_get he
    have hni : ¬ i ∈ p := by
      rw [hs, hbits] at hb
      exact of_decide_eq_false hb
    refine ih (p ++ [i]) (by rw [stOf_snoc, ← hs]; exact free_step hf) ?_ ?_ ?_
    · intro j hj
      rcases List.mem_append.1 hj with h | h
      · exact hp j h
      · simp only [List.mem_singleton] at h; subst h; exact ⟨e, hi, ha⟩
    · rw [List.nodup_append]
      refine ⟨hn, by simp, ?_⟩
      intro x hx y hy hxy
      simp only [List.mem_singleton] at hy
      subst hy; subst hxy; exact hni hx
    · intro a j hj
      rw [List.getElem?_append] at hj
      split at hj
      · rename_i hlt
        rw [List.take_append_of_le_length (by omega)]
        exact hw a j hj
      · rename_i hlt
        rw [List.getElem?_singleton] at hj
        split at hj
        · cases hj
          have : a = p.length := by omega
          subst this
          rw [List.take_left' rfl, ← hs]
          exact ⟨hb, t, hf⟩
        · cases hj

theorem holds_of_way {l : List Ev} (hr : right l = true) {o : List Nat} (ho : Ord l o) (hw : Way l o) : holds l (io o) = true := by
  obtain ⟨_, hl⟩ := right_ok hr
  have hmem : ∀ j ∈ o, ∃ e, l[j]? = some e ∧ e.acc = true := fun j hj => ho.mem.1 hj
  have hrange : ∀ a, ∀ j ∈ o.take a, j < l.length := fun a j hj => by
    obtain ⟨e, he, _⟩ := hmem j (List.mem_of_mem_take hj)
    exact lt_of_get he
  have hk : Keeping l o := by
    intro a b i j hba ha hb
    cases hc : keeps l i j with
    | false => rfl
    | true =>
      exfalso
      obtain ⟨ei, hei, hacc⟩ := hmem i (List.mem_of_getElem? ha)
      have hij : i < j := by
        unfold keeps at hc
        split at hc
        · simp only [Bool.and_eq_true, decide_eq_true_eq] at hc; exact hc.1.1
        · cases hc
      obtain ⟨_, s', hs'⟩ := hw b j hb
      have hni : ¬ i ∈ o.take b := fun hm => by
        rw [List.mem_take_iff_getElem] at hm
        obtain ⟨c, hc, hci⟩ := hm
        have := nodup_inj ho.nodup ha (by rw [List.getElem?_eq_getElem (by omega), hci] : o[c]? = some i)
        omega
      rw [free_blocked hei hacc hij (by rw [bits_stOf (hrange b)]; exact decide_eq_false hni) hc] at hs'
      cases hs'
  refine (holds_iff hr ho).2 ⟨hk, fun a i e ha he h1 => ?_⟩
  rw [← pend_value hl ho hk ha he]
  obtain ⟨_, s', hs'⟩ := hw a i ha
  unfold freeF at hs'
  split at hs'
  · cases hs'
  · rw [he] at hs'
    simp only [h1, beq_self_eq_true, if_true] at hs'
    split at hs'
    · cases hs'
    · rename_i hne
      simpa using hne

/-- THE SEARCH FINDS JUST THE ORDERS THAT HOLD -/
theorem fin_iff {l : List Ev} (hr : right l = true) : Fin l st0 ↔ ∃ z, holds l z = true := by
  constructor
  · intro h
    obtain ⟨o, ho, hw⟩ := fin_way st0 h [] rfl (by simp) (by simp) (fun a i h => by simp at h)
    exact ⟨_, holds_of_way hr ho hw⟩
  · rintro ⟨z, hz⟩
    have hor : isOrder l z = true := by
      simp only [holds, Bool.and_eq_true] at hz
      exact hz.1.2
    obtain ⟨o, rfl, ho⟩ := of_isOrder hor
    exact fin_of_holds hr ho hz
end Go.Eng.Ax

set_option linter.unusedSimpArgs false
set_option linter.unusedVariables false
namespace Go.Eng.Ax
open Go Go.Eng Go.Proofs

/-! ### what was stored last ahead in the list -/
def stHere (l : List Ev) (w j : Nat) : Bool := (l[j]?).any fun e => e.kind == 2 && e.at'.toNat == w
def seen (l : List Ev) (w : Nat) : Nat → Int
  | 0 => 0
  | i + 1 => match l[i]? with
    | some e => if e.kind == 2 && e.at'.toNat == w then e.n else seen l w i
    | none => seen l w i
theorem seen_none {l : List Ev} {w : Nat} : ∀ i, (∀ j, j < i → stHere l w j = false) → seen l w i = 0
  | 0, _ => rfl
  | i + 1, h => by
    have h1 := h i (by omega)
    unfold seen
    cases he : l[i]? with
    | none => exact seen_none i fun j hj => h j (by omega)
    | some e =>
      simp only [stHere, he, Option.any_some] at h1
      simp only [h1]
      exact seen_none i fun j hj => h j (by omega)
theorem seen_last {l : List Ev} {w k : Nat} {e : Ev} (he : l[k]? = some e) (hs : stHere l w k = true) : ∀ i, k < i → (∀ j, k < j → j < i → stHere l w j = false) → seen l w i = e.n
  | 0, hk, _ => by omega
  | i + 1, hk, h => by
    unfold seen
    by_cases hki : k = i
    · subst hki
      simp only [stHere, he, Option.any_some] at hs
      simp only [he, hs, if_true]
    · have h1 := h i (by omega) (by omega)
      cases hi : l[i]? with
      | none => exact seen_last he hs i (by omega) fun j h1 h2 => h j h1 (by omega)
      | some ei =>
        simp only [stHere, hi, Option.any_some] at h1
        simp only [h1]
        exact seen_last he hs i (by omega) fun j h1 h2 => h j h1 (by omega)
theorem seen_congr {l m : List Ev} {w : Nat} : ∀ i, (∀ j, j < i → match l[j]?, m[j]? with | some a, some b => a.kind = b.kind ∧ a.at' = b.at' ∧ (a.kind = 2 → a.n = b.n) | none, none => True | _, _ => False) → seen l w i = seen m w i
  | 0, _ => rfl
  | i + 1, h => by
    have h1 := h i (by omega)
    have ih := seen_congr (l := l) (m := m) (w := w) i fun j hj => h j (by omega)
    unfold seen
    rw [ih]
    cases ha : l[i]? with
    | none =>
      cases hb : m[i]? with
      | none => rfl
      | some b => rw [ha, hb] at h1; exact h1.elim
    | some a =>
      cases hb : m[i]? with
      | none => rw [ha, hb] at h1; exact h1.elim
      | some b =>
        rw [ha, hb] at h1
        obtain ⟨e1, e2, e3⟩ := h1
        simp only [← e1, ← e2]
        by_cases hk : a.kind = 2
        · simp [e3 hk]
        · simp [hk]

/-- of an order: each hit is a store ahead in the list, and later in the list is later in the order -/
theorem value_seen {l : List Ev} (hl : ∀ e ∈ l, EvOk e) {o : List Nat} (ho : Ord l o) {a i : Nat} {e : Ev} (ha : o[a]? = some i) (he : l[i]? = some e)
    (h1 : ∀ (b j : Nat) (ej : Ev), o[b]? = some j → l[j]? = some ej → ej.kind = 2 → ej.at' = e.at' → ((b < a ∨ (j < i ∧ ej.hart = e.hart)) ↔ j < i))
    (h2 : ∀ (b c j k : Nat) (ej ek : Ev), o[b]? = some j → o[c]? = some k → l[j]? = some ej → l[k]? = some ek → ej.kind = 2 → ek.kind = 2 → ej.at' = ek.at' → j < i → k < i → b < c → j < k) :
    value l (io o) i = seen l e.at'.toNat i := by
  have hatIo := atOf_io (l := l) ho.nodup ha
  obtain ⟨w, hat, hw4⟩ := (hl e (List.mem_of_getElem? he)).a
  have hhit : ∀ (b j : Nat) (ej : Ev), o[b]? = some j → l[j]? = some ej → hitAt l o i b = (ej.kind == 2 && ej.at' == e.at' && decide (j < i)) := fun b j ej hb hj => by
    simp only [hitAt, hb, hit, Int.toNat_natCast, hj, he, hatIo]
    rw [Bool.eq_iff_iff]
    simp only [Bool.and_eq_true, Bool.or_eq_true, decide_eq_true_eq, beq_iff_eq]
    constructor
    · rintro ⟨⟨k1, k2⟩, k3⟩
      refine ⟨⟨k1, k2⟩, (h1 b j ej hb hj k1 k2).1 ?_⟩
      rcases k3 with h | h
      · left; omega
      · right; exact ⟨by omega, h.2⟩
    · rintro ⟨⟨k1, k2⟩, k3⟩
      refine ⟨⟨k1, k2⟩, ?_⟩
      rcases (h1 b j ej hb hj k1 k2).2 k3 with h | h
      · left; omega
      · right; exact ⟨by omega, h.2⟩
  have hst : ∀ (j : Nat) (ej : Ev), l[j]? = some ej → stHere l e.at'.toNat j = (ej.kind == 2 && ej.at' == e.at') := fun j ej hj => by
    simp only [stHere, hj, Option.any_some]
    obtain ⟨w', hat', _⟩ := (hl ej (List.mem_of_getElem? hj)).a
    congr 1
    rw [hat, hat', Bool.eq_iff_iff]
    simp
    omega
  have hio : (io o).length = o.length := by simp [io]
  have hg : ∀ b, b < o.length → ∃ j ej, o[b]? = some j ∧ l[j]? = some ej := fun b hb => by
    obtain ⟨j, hj⟩ : ∃ i, o[b]? = some i := ⟨_, List.getElem?_eq_getElem hb⟩
    obtain ⟨ej, hej, _⟩ := ho.mem.1 (List.mem_of_getElem? hj)
    exact ⟨j, ej, hj, hej⟩
  show valueTo l (io o) i (io o).length = _
  rw [hio]
  have hil := lt_of_get he
  rcases last_or (q := stHere l e.at'.toNat) i with g1 | ⟨k, g1, g2, g3⟩
  · rw [seen_none i g1]
    refine value_none _ fun b hb => ?_
    obtain ⟨j, ej, hj, hej⟩ := hg b hb
    rw [hhit b j ej hj hej]
    by_cases hji : j < i
    · have := g1 j hji
      rw [hst j ej hej] at this
      rw [this]; rfl
    · simp [hji]
  · obtain ⟨ek, hek⟩ : ∃ e, l[k]? = some e := ⟨_, List.getElem?_eq_getElem (by omega)⟩
    rw [seen_last hek g2 i g1 g3]
    rw [hst k ek hek] at g2
    simp only [Bool.and_eq_true, beq_iff_eq] at g2
    have hko : k ∈ o := ho.mem.2 ⟨ek, hek, by simp [Ev.acc, g2.1]⟩
    obtain ⟨b, hb⟩ := List.mem_iff_getElem?.1 hko
    refine value_last hb hek ?_ _ (Nat.le_refl _) (List.getElem?_eq_some_iff.1 hb).1 fun c hc1 hc2 => ?_
    · rw [hhit b k ek hb hek]; simp [g2.1, g2.2, g1]
    · obtain ⟨j, ej, hj, hej⟩ := hg c hc2
      rw [hhit c j ej hj hej]
      cases hx : (ej.kind == 2 && ej.at' == e.at' && decide (j < i)) with
      | false => rfl
      | true =>
        simp only [Bool.and_eq_true, decide_eq_true_eq, beq_iff_eq] at hx
        have hkj := h2 b c k j ek ej hb hj hek hej g2.1 hx.1.1 (by rw [g2.2, hx.1.2]) g1 hx.2 hc1
        have := g3 j hkj hx.2
        rw [hst j ej hej] at this
        simp [hx.1.1, hx.1.2] at this

theorem accN_sorted (l : List Ev) : (accN l).Pairwise (· < ·) := List.Pairwise.filter _ List.pairwise_lt_range
theorem accN_lt {l : List Ev} {a b i j : Nat} (hi : (accN l)[a]? = some i) (hj : (accN l)[b]? = some j) : a < b ↔ i < j := by
  obtain ⟨a1, a2⟩ := List.getElem?_eq_some_iff.1 hi
  obtain ⟨b1, b2⟩ := List.getElem?_eq_some_iff.1 hj
  have hp := List.pairwise_iff_getElem.1 (accN_sorted l)
  constructor
  · intro h; have := hp a b a1 b1 h; omega
  · intro h
    rcases Nat.lt_trichotomy a b with h1 | h1 | h1
    · exact h1
    · subst h1; omega
    · have := hp b a b1 a1 h1; omega
theorem ord_accN (l : List Ev) : Ord l (accN l) := ⟨List.Perm.refl _⟩
theorem keeps_lt {l : List Ev} {i j : Nat} (h : keeps l i j = true) : i < j := by
  unfold keeps at h
  split at h
  · simp only [Bool.and_eq_true, decide_eq_true_eq] at h; exact h.1.1
  · cases h

/-- what holds one by one -/
theorem holds_seq {l : List Ev} (hr : right l = true) (h : ∀ (i : Nat) (e : Ev), l[i]? = some e → e.kind = 1 → e.n = seen l e.at'.toNat i) : holds l (accs l) = true := by
  obtain ⟨_, hl⟩ := right_ok hr
  rw [accs_accN]
  refine (holds_iff hr (ord_accN l)).2 ⟨fun a b i j hba ha hb => ?_, fun a i e ha he hk => ?_⟩
  · cases hc : keeps l i j with
    | false => rfl
    | true =>
      have h1 := keeps_lt hc
      have h2 := (accN_lt hb ha).1 hba
      omega
  · rw [value_seen hl (ord_accN l) ha he, h i e he hk]
    · intro b j ej hb hj _ _
      rw [accN_lt hb ha]
      constructor
      · rintro (h | h)
        · exact h
        · exact h.1
      · exact .inl
    · intro b c j k ej ek hb hc _ _ _ _ _ _ _ hbc
      exact (accN_lt hb hc).1 hbc

/-- of one hart alone -/
theorem alone {l : List Ev} (hr : right l = true) {x : Int} (hx : ∀ e ∈ l, e.hart = x) : Fin l st0 ↔ ∀ (i : Nat) (e : Ev), l[i]? = some e → e.kind = 1 → e.n = seen l e.at'.toNat i := by
  obtain ⟨_, hl⟩ := right_ok hr
  rw [fin_iff hr]
  constructor
  · rintro ⟨z, hz⟩ i e he hk1
    have hor : isOrder l z = true := by
      simp only [holds, Bool.and_eq_true] at hz
      exact hz.1.2
    obtain ⟨o, rfl, ho⟩ := of_isOrder hor
    obtain ⟨hk, hv⟩ := (holds_iff hr ho).1 hz
    obtain ⟨a, ha⟩ := List.mem_iff_getElem?.1 (ho.mem.2 ⟨e, he, by simp [Ev.acc, hk1]⟩)
    rw [← hv a i e ha he hk1]
    have hxe := hx e (List.mem_of_getElem? he)
    refine value_seen hl ho ha he ?_ ?_
    · intro b j ej hb hj hkj _
      have hxj := hx ej (List.mem_of_getElem? hj)
      constructor
      · rintro (h | h)
        · rcases Nat.lt_trichotomy j i with h1 | h1 | h1
          · exact h1
          · subst h1; rw [he] at hj; cases hj; omega
          · have := hk a b i j h ha hb
            have hkeep : keeps l i j = true := by
              simp only [keeps, he, hj, Bool.and_eq_true, decide_eq_true_eq, beq_iff_eq, Bool.or_eq_true]
              exact ⟨⟨h1, by omega⟩, .inl (.inl hk1)⟩
            rw [this] at hkeep; cases hkeep
        · exact h.1
      · intro h; exact .inr ⟨h, by omega⟩
    · intro b c j k ej ek hb hc hj hk' hkj hkk hat _ _ hbc
      have hxj := hx ej (List.mem_of_getElem? hj)
      have hxk := hx ek (List.mem_of_getElem? hk')
      rcases Nat.lt_trichotomy j k with h1 | h1 | h1
      · exact h1
      · subst h1; have := nodup_inj ho.nodup hb hc; omega
      · have := hk c b k j hbc hc hb
        have hkeep : keeps l k j = true := by
          simp only [keeps, hj, hk', Bool.and_eq_true, decide_eq_true_eq, beq_iff_eq, Bool.or_eq_true]
          exact ⟨⟨h1, by omega⟩, .inl (.inr ⟨hkj, by omega⟩)⟩
        rw [this] at hkeep; cases hkeep
  · intro h
    exact ⟨_, holds_seq hr h⟩
end Go.Eng.Ax

set_option linter.unusedSimpArgs false
set_option linter.unusedVariables false
namespace Go.Eng.Ax
open Go Go.Eng Go.Proofs

/-! ### events that are the same but for what loads tell -/
structure Like (l m : List Ev) : Prop where
  len : l.length = m.length
  same : ∀ (j : Nat) (a b : Ev), l[j]? = some a → m[j]? = some b → a.hart = b.hart ∧ a.kind = b.kind ∧ a.at' = b.at' ∧ (a.kind = 2 → a.n = b.n)
theorem Like.get {l m : List Ev} (h : Like l m) {j : Nat} {a : Ev} (ha : l[j]? = some a) : ∃ b, m[j]? = some b ∧ a.hart = b.hart ∧ a.kind = b.kind ∧ a.at' = b.at' ∧ (a.kind = 2 → a.n = b.n) := by
  obtain ⟨b, hb⟩ : ∃ e, m[j]? = some e := ⟨_, List.getElem?_eq_getElem (by have := lt_of_get ha; rw [← h.len]; exact this)⟩
  exact ⟨b, hb, h.same j a b ha hb⟩
theorem Like.none {l m : List Ev} (h : Like l m) {j : Nat} (ha : l[j]? = none) : m[j]? = none := by
  rw [List.getElem?_eq_none_iff] at *
  rw [← h.len]; exact ha
theorem Like.accN {l m : List Ev} (h : Like l m) : accN l = accN m := by
  unfold Ax.accN
  rw [h.len]
  refine List.filter_congr fun j _ => ?_
  cases ha : l[j]? with
  | none => rw [h.none ha]
  | some a =>
    obtain ⟨b, hb, _, hk, _⟩ := h.get ha
    rw [hb]
    simp [Ev.acc, hk]
theorem Like.hit {l m : List Ev} (h : Like l m) (z : List Int) (i : Int) (a : Nat) (j : Int) : hit l z i a j = hit m z i a j := by
  unfold Ax.hit
  cases hj : l[j.toNat]? with
  | none => rw [h.none hj]
  | some ej =>
    obtain ⟨ej', hj', e1, e2, e3, _⟩ := h.get hj
    rw [hj']
    cases hi : l[i.toNat]? with
    | none => rw [h.none hi]
    | some ei =>
      obtain ⟨ei', hi', g1, g2, g3, _⟩ := h.get hi
      rw [hi']
      simp only [e1, e2, e3, g1, g3]
theorem hit_kind {l : List Ev} {z : List Int} {i : Int} {a : Nat} {j : Int} (h : hit l z i a j = true) : ∃ e, l[j.toNat]? = some e ∧ e.kind = 2 := by
  unfold hit at h
  split at h
  · rename_i ej ei h1 h2
    simp only [Bool.and_eq_true, beq_iff_eq] at h
    exact ⟨ej, h1, h.1.1⟩
  · cases h
theorem Like.valueTo {l m : List Ev} (h : Like l m) (z : List Int) (i : Int) : ∀ k, valueTo l z i k = valueTo m z i k
  | 0 => rfl
  | k + 1 => by
    unfold Ax.valueTo
    cases hz : z[k]? with
    | none => rfl
    | some j =>
      simp only []
      rw [h.valueTo z i k, ← h.hit z i k j]
      cases hh : Ax.hit l z i k j with
      | false => rfl
      | true =>
        obtain ⟨e, he, hk⟩ := hit_kind hh
        obtain ⟨e', he', _, _, _, hn⟩ := h.get he
        simp only [he, he', if_true, Option.map_some, hn hk]
theorem Like.value {l m : List Ev} (h : Like l m) (z : List Int) (i : Int) : value l z i = value m z i := h.valueTo z i _
theorem Like.isOrder {l m : List Ev} (h : Like l m) (z : List Int) : isOrder l z = isOrder m z := by
  unfold Ax.isOrder
  rw [accs_accN, accs_accN, h.accN]
theorem Like.ord {l m : List Ev} (h : Like l m) {o : List Nat} (ho : Ord l o) : Ord m o := ⟨by rw [← h.accN]; exact ho.perm⟩
theorem any_getcongr {p q : Ev → Bool} {l m : List Ev} (hlen : l.length = m.length) (h : ∀ (j : Nat) (a b : Ev), l[j]? = some a → m[j]? = some b → p a = q b) : l.any p = m.any q := by
  induction l generalizing m with
  | nil => cases m with
    | nil => rfl
    | cons b r => simp at hlen
  | cons a l ih => cases m with
    | nil => simp at hlen
    | cons b r =>
      rw [List.any_cons, List.any_cons, h 0 a b rfl rfl, ih (by simpa using hlen) fun j x y hx hy => h (j + 1) x y (by simpa using hx) (by simpa using hy)]
theorem Like.keeps {l m : List Ev} (h : Like l m) (i k : Nat) : keeps l i k = keeps m i k := by
  unfold Ax.keeps
  cases hi : l[i]? with
  | none => rw [h.none hi]
  | some a =>
    obtain ⟨a', hi', e1, e2, e3, _⟩ := h.get hi
    rw [hi']
    cases hk : l[k]? with
    | none => rw [h.none hk]
    | some b =>
      obtain ⟨b', hk', g1, g2, g3, _⟩ := h.get hk
      rw [hk']
      simp only [e1, e2, e3, g1, g2, g3]
      rw [any_getcongr (p := fun e => e.kind == 3 && e.hart == a'.hart) (q := fun e => e.kind == 3 && e.hart == a'.hart) (l := (l.take k).drop i) (m := (m.take k).drop i) (by simp [h.len]) fun j x y hx hy => by
        rw [List.getElem?_drop, List.getElem?_take] at hx hy
        split at hx
        · rename_i hlt
          rw [if_pos hlt] at hy
          obtain ⟨q1, q2, _⟩ := h.same _ x y hx hy
          rw [q1, q2]
        · cases hx]
theorem Like.keeping {l m : List Ev} (h : Like l m) {o : List Nat} (hk : Keeping l o) : Keeping m o := fun a b i j h1 h2 h3 => by rw [← h.keeps]; exact hk a b i j h1 h2 h3

theorem valueTo_range {l : List Ev} {P : Int → Prop} (h0 : P 0) (hl : ∀ e ∈ l, P e.n) (z : List Int) (i : Int) : ∀ k, P (valueTo l z i k)
  | 0 => h0
  | k + 1 => by
    unfold valueTo
    cases hz : z[k]? with
    | none => exact h0
    | some j =>
      simp only []
      split
      · cases hj : l[j.toNat]? with
        | none => exact h0
        | some e => exact hl e (List.mem_of_getElem? hj)
      · exact valueTo_range h0 hl z i k
end Go.Eng.Ax

set_option linter.unusedSimpArgs false
set_option linter.unusedVariables false
namespace Go.Eng.Ax
open Go Go.Eng Go.Proofs

theorem heapOf_sl {slots : List Slot} {i n c : Nat} {isNil : Bool} {s : Slot} (hs : slots[i]? = some s) {xs : List (List Value)} (hn : xs.length = n) (hx : ∀ x ∈ xs, x.length = c) (hnil : isNil = true → n = 0)
    (hblk : isNil = false → ∃ loc, s = some (.blk xs.flatten false, loc)) : SlV (heapOf slots) c (absSlice i n c isNil) xs := by
  subst hn
  cases isNil with
  | true => exact .inl ⟨rfl, List.length_eq_zero_iff.1 (hnil rfl)⟩
  | false =>
    obtain ⟨loc, rfl⟩ := hblk rfl
    refine .inr ⟨i, 0, rfl, .inr ⟨_, _, by simp only [heapOf, hs]; rfl, fun j x hj => ?_⟩⟩
    obtain ⟨h1, h2⟩ := flatten_chunk hx j x hj
    exact ⟨hx x (List.mem_of_getElem? hj), by omega, by simpa using h2⟩
theorem wf_in {z : Int} (h : (Lit.int .i64 z).wf = true) : inI z := by
  simp [Lit.wf, IntKind.min, IntKind.max, IntKind.signed, IntKind.bits] at h
  exact ⟨by omega, by omega⟩
theorem chunk4 : ∀ (n : Nat) (l : List Int), l.length = n * 4 → (∀ z ∈ l, (Lit.int .i64 z).wf = true) → ∃ raw : List R4, raw.length = n ∧ (∀ r ∈ raw, r.ok) ∧ l.map (Value.int .i64) = (raw.map R4.cells).flatten
  | 0, l, h, _ => ⟨[], rfl, by simp, by have : l = [] := List.length_eq_zero_iff.1 (by omega); subst this; rfl⟩
  | n + 1, l, h, hw => by
    match l, h with
    | a :: b :: c :: d :: r, h =>
      obtain ⟨raw, h1, h2, h3⟩ := chunk4 n r (by simp at h; omega) fun z hz => hw z (by simp [hz])
      refine ⟨⟨a, b, c, d⟩ :: raw, by simp [h1], ?_, by simp [R4.cells, h3]⟩
      intro x hx
      rcases List.mem_cons.1 hx with rfl | hx
      · exact ⟨wf_in (hw a (by simp)), wf_in (hw b (by simp)), wf_in (hw c (by simp)), wf_in (hw d (by simp))⟩
      · exact h2 x hx
    | [], h => simp at h
    | [_], h => simp at h; omega
    | [_, _], h => simp at h; omega
    | [_, _, _], h => simp at h; omega
theorem raws_of {slots : List Slot} {i n : Nat} {isNil : Bool} {s : Slot} (hs : slots[i]? = some s) {l : List Int} (hl : l.length = n * 4) (hwf : ∀ z ∈ l, (Lit.int .i64 z).wf = true) (hnil : isNil = true → n = 0)
    (hblk : isNil = false → ∃ loc, s = some (.blk (l.map (.int .i64)) false, loc)) : ∃ raw : List R4, raw.length = n ∧ (∀ r ∈ raw, r.ok) ∧ Raws (heapOf slots) (absSlice i n 4 isNil) raw := by
  obtain ⟨raw, h1, h2, h3⟩ := chunk4 n l hl hwf
  refine ⟨raw, h1, h2, heapOf_sl hs (by simp [h1]) ?_ hnil (by rw [← h3]; exact hblk)⟩
  intro x hx
  obtain ⟨z, _, rfl⟩ := List.mem_map.1 hx
  rfl
theorem ints_of {slots : List Slot} {i n : Nat} {isNil : Bool} {s : Slot} (hs : slots[i]? = some s) {l : List Int} (hl : l.length = n * 1) (hnil : isNil = true → n = 0)
    (hblk : isNil = false → ∃ loc, s = some (.blk (l.map (.int .i64)) false, loc)) : Ints (heapOf slots) (absSlice i n 1 isNil) l := by
  refine heapOf_sl hs (by simp; omega) ?_ hnil (by rw [show (l.map fun z => [Value.int .i64 z]).flatten = l.map (.int .i64) from flat_icells l]; exact hblk)
  intro x hx
  obtain ⟨z, _, rfl⟩ := List.mem_map.1 hx
  rfl
end Go.Eng.Ax

set_option linter.unusedSimpArgs false
set_option linter.unusedVariables false
namespace Go.Eng.Ax
open Go Go.Eng Go.Proofs

theorem flatten_get {s : Nat} {xs : List (List Value)} (hx : ∀ x ∈ xs, x.length = s) {i : Nat} {x : List Value} (hi : xs[i]? = some x) {f : Nat} (hf : f < s) : xs.flatten[i * s + f]? = x[f]? ∧ i * s + f < xs.flatten.length := by
  obtain ⟨h1, h2⟩ := flatten_chunk hx i x hi
  refine ⟨?_, by omega⟩
  rw [← h2, List.getElem?_take_of_lt hf, List.getElem?_drop]
theorem flatten_set {s : Nat} : ∀ {xs : List (List Value)}, (∀ x ∈ xs, x.length = s) → ∀ {i : Nat} {x : List Value}, xs[i]? = some x → ∀ {f : Nat}, f < s → ∀ z, xs.flatten.set (i * s + f) z = (xs.set i (x.set f z)).flatten
  | [], _, i, x, h, _, _, _ => by simp at h
  | y :: ys, hx, 0, x, h, f, hf, z => by
    simp only [List.getElem?_cons_zero, Option.some.injEq] at h
    subst h
    have := hx y (by simp)
    rw [Nat.zero_mul, Nat.zero_add, List.flatten_cons, List.set_cons_zero, List.flatten_cons, List.set_append, if_pos (by omega)]
  | y :: ys, hx, i + 1, x, h, f, hf, z => by
    simp only [List.getElem?_cons_succ] at h
    have hy := hx y (by simp)
    have ih := flatten_set (fun x hx' => hx x (by simp [hx'])) h hf z
    rw [List.flatten_cons, List.set_cons_succ, List.flatten_cons, ← ih, List.set_append, if_neg (by rw [Nat.succ_mul]; omega)]
    congr 2
    rw [Nat.succ_mul]; omega

/-- an event of a list of one's own: to read, to write -/
theorem ownEv {h0 h : Heap} {v : Value} {l : List Ev} (ho : OwnS h0 h 4 v (l.map Ev.cells)) {i : Nat} {e : Ev} (hi : l[i]? = some e) :
    ∃ id cells, pIdxAddrS 4 [v, .int .i64 i] = some (.pointer (some ⟨id, i * 4, none⟩)) ∧ h.get id = some (.blk cells true) ∧
      cells[i * 4]? = some (.int .i64 e.hart) ∧ cells[i * 4 + 1]? = some (.int .i64 e.kind) ∧ cells[i * 4 + 2]? = some (.int .i64 e.at') ∧ cells[i * 4 + 3]? = some (.int .i64 e.n) ∧ h0.next ≤ id ∧
      (∀ (f : Nat) (z : Int) (e' : Ev), f < 4 → e'.cells = e.cells.set f (.int .i64 z) → wStore 1 h [.pointer (some ⟨id, i * 4 + f, none⟩), .int .i64 z] = some (undef, h.set id (.blk (cells.set (i * 4 + f) (.int .i64 z)) true)) ∧
        OwnS h0 (h.set id (.blk (cells.set (i * 4 + f) (.int .i64 z)) true)) 4 v ((l.set i e').map Ev.cells)) ∧ (∀ j, notOf v j → j ≠ id) := by
  have hlt := (List.getElem?_eq_some_iff.1 hi).1
  rcases ho with ⟨rfl, hn⟩ | ⟨id, rfl, hid, hg, hx⟩
  · have : l = [] := by simpa using hn
    subst this; simp at hi
  · have hic : (l.map Ev.cells)[i]? = some e.cells := by simp [hi]
    refine ⟨id, _, ?_, hg, (flatten_get hx hic (f := 0) (by omega)).1, (flatten_get hx hic (f := 1) (by omega)).1, (flatten_get hx hic (f := 2) (by omega)).1, (flatten_get hx hic (f := 3) (by omega)).1, hid, ?_, fun j hj e => ?_⟩
    · simp [pIdxAddrS, hlt]
    · intro f z e' hf he'
      refine ⟨wStore_int hg (flatten_get hx hic hf).2, .inr ⟨id, by simp, hid, ?_, ?_⟩⟩
      · rw [Heap.set_getS _ _ _ (by rw [hg]; rfl), flatten_set hx hic hf, List.map_set, he']
      · intro x hx'
        rw [List.map_set] at hx'
        rcases List.mem_or_eq_of_mem_set hx' with h | rfl
        · exact hx x h
        · rfl
    · subst e; exact hj _ _ rfl

def mixTo (f : Ev → Ev) (l : List Ev) (i : Nat) : List Ev := (l.take i).map f ++ l.drop i
theorem mixTo_len (f : Ev → Ev) (l : List Ev) (i : Nat) : (mixTo f l i).length = l.length := by simp [mixTo]; omega
theorem mixTo_get {f : Ev → Ev} {l : List Ev} {i : Nat} {e : Ev} (h : l[i]? = some e) : (mixTo f l i)[i]? = some e := by
  have hi := lt_of_get h
  have hl : ((l.take i).map f).length = i := by simp; omega
  rw [mixTo, List.getElem?_append_right (by omega), hl, List.getElem?_drop]
  simpa using h
theorem mixTo_set {f : Ev → Ev} {l : List Ev} {i : Nat} {e : Ev} (h : l[i]? = some e) : (mixTo f l i).set i (f e) = mixTo f l (i + 1) := by
  have hi := lt_of_get h
  have hl : ((l.take i).map f).length = i := by simp; omega
  have hd : l.drop i = e :: l.drop (i + 1) := by
    rw [List.drop_eq_getElem_cons hi]
    rw [List.getElem?_eq_getElem hi] at h
    cases h; rfl
  rw [mixTo, mixTo, List.set_append, if_neg (by omega), hl, Nat.sub_self, hd, List.set_cons_zero, List.take_add_one, h]
  simp

theorem pEqB (a b : Bool) : Go.Eng.pEqB false [.bool a, .bool b] = some (.bool (a == b)) := by simp [Go.Eng.pEqB]

theorem AxiomTurned_c {v : Value} {raw : List R4} {h : Heap} (hv : Raws h v raw) (hl63 : (raw.length : Int) ≤ 9223372036854775807) (hok : ∀ r ∈ raw, r.ok) {a b : Int} (ha : inI a) (hb : inI b) :
    CallW Try.prog 8 [v, .int .i64 a, .int .i64 b] h fun r _ => r = .bool true := by
  obtain ⟨Q, hQ⟩ : ∃ Q : Value → Heap → Prop, Q = fun r _ => r = .bool true := ⟨_, rfl⟩
  rw [← hQ]
  have hq : ∀ h', Q (.bool true) h' := fun h' => by rw [hQ]
  clear hQ
  refine call_of1 (k := 3) ok8 rfl rfl rfl fun N => ?_
  rw [show env0 c8 [v, .int .i64 a, .int .i64 b] = [v, .int .i64 a, .int .i64 b, undef, undef, undef, undef, undef] from rfl]
  delta c8 c8_r0 c8_r1 c8_r2 c8_r3 c8_r4 c8_r5 c8_r6 c8_r7 c8_r8 c8_r9 c8_r11
  replace hq := Hid.mk hq
  repeat' (first | simp -implicitDefEqProofs only [W_skip, W_reg, W_seq, W_rcond, W_cond, W_block, W_loop, W_exit, W_ret, thenQ_normal, thenQ_exit, thenQ_ret, blockQ_normal, blockQ_ret, blockQ_here, regQ_app, rcQ_app, cndK_t, cndK_f, RegW_nil, RegW_none, RegW_some, contW_app, grdK_tt, grdK_ff, grdK_tf, grdK_ft, grdK_undef, actK_p, actK_r, actK_a, actK_w, actK_call, actK_callV, heapK_app, allocK_app, writeK_app, ret1_ret, ret1_normal, ret0_ret, ret0_normal, ret2_ret2, thenK_app, retcv_ret, retcvK_app, optW_some, evs, Arg.ev, aP, aR, aA, aW, pMov, pBin, pUn, pConv, pPick, pFieldAddr, pNilCheck, pExtract, aBin, aUn, aInt, aNew, partL_f, upd, List.getElem?_cons_zero, List.getElem?_cons_succ, List.getD_cons_zero, List.getD_cons_succ, List.set_cons_zero, List.set_cons_succ, Nat.zero_add, Nat.add_zero, List.getElem?_toArray, List.take_zero, List.drop_zero, List.take_succ_cons, List.drop_succ_cons, if_true, if_false, decide_true, decide_false, Bool.false_eq_true, Bool.true_eq_false, Bool.not_true, Bool.not_false, not_true_eq_false, not_false_eq_true, ge_iff_le, gt_iff_lt, beq_self_eq_true, bne_self_eq_false, and_self, and_true, true_and, Option.isSome_some, Heap.get_alloc_same, Heap.alloc_getE, *] | with_reducible refine cndK_d (fun hc => ?_) (fun hc => ?_) | with_reducible refine grdK_d (fun hc => ?_) (fun hc => ?_) | with_reducible refine cndK_i (fun hc => ?_) (fun hc => ?_) | with_reducible refine grdK_i (fun hc => ?_) (fun hc => ?_))
  refine awake_c h _ fun h1 hl1 => ?_
  repeat' (first | simp -implicitDefEqProofs only [W_skip, W_reg, W_seq, W_rcond, W_cond, W_block, W_loop, W_exit, W_ret, thenQ_normal, thenQ_exit, thenQ_ret, blockQ_normal, blockQ_ret, blockQ_here, regQ_app, rcQ_app, cndK_t, cndK_f, RegW_nil, RegW_none, RegW_some, contW_app, grdK_tt, grdK_ff, grdK_tf, grdK_ft, grdK_undef, actK_p, actK_r, actK_a, actK_w, actK_call, actK_callV, heapK_app, allocK_app, writeK_app, ret1_ret, ret1_normal, ret0_ret, ret0_normal, ret2_ret2, thenK_app, retcv_ret, retcvK_app, optW_some, evs, Arg.ev, aP, aR, aA, aW, pMov, pBin, pUn, pConv, pPick, pFieldAddr, pNilCheck, pExtract, aBin, aUn, aInt, aNew, partL_f, upd, List.getElem?_cons_zero, List.getElem?_cons_succ, List.getD_cons_zero, List.getD_cons_succ, List.set_cons_zero, List.set_cons_succ, Nat.zero_add, Nat.add_zero, List.getElem?_toArray, List.take_zero, List.drop_zero, List.take_succ_cons, List.drop_succ_cons, if_true, if_false, decide_true, decide_false, Bool.false_eq_true, Bool.true_eq_false, Bool.not_true, Bool.not_false, not_true_eq_false, not_false_eq_true, ge_iff_le, gt_iff_lt, beq_self_eq_true, bne_self_eq_false, and_self, and_true, true_and, Option.isSome_some, Heap.get_alloc_same, Heap.alloc_getE, *] | with_reducible refine cndK_d (fun hc => ?_) (fun hc => ?_) | with_reducible refine grdK_d (fun hc => ?_) (fun hc => ?_) | with_reducible refine cndK_i (fun hc => ?_) (fun hc => ?_) | with_reducible refine grdK_i (fun hc => ?_) (fun hc => ?_))
  refine Fit_c (hv.mono hl1) hl63 hok _ fun v2 h2 ho2 hl2 => ?_
  have hlen := fit_len raw
  have hright := fit_right hok
  have hmay : ∀ e ∈ fit raw, e.may = true := fun e he => fit_may hok he
  have e2 : Evs h2 v2 (fit raw) := OwnS.evs ho2
  obtain ⟨l, hl⟩ : ∃ l, fit raw = l := ⟨_, rfl⟩
  rw [hl] at e2 hlen hright hmay
  clear ho2 hl
  obtain ⟨v3, h3, a3, ho3, hl3, _⟩ := (OwnS.nil h2 h2 4).append (Heap.le.refl h2) e2 (by omega) (b := 32) (by simp; omega) (by simp; omega)
  have pa := pick_range ha (n := 4) (by omega)
  have pb := pick_range hb (n := 4) (by omega)
  repeat' (first | simp -implicitDefEqProofs only [W_skip, W_reg, W_seq, W_rcond, W_cond, W_block, W_loop, W_exit, W_ret, thenQ_normal, thenQ_exit, thenQ_ret, blockQ_normal, blockQ_ret, blockQ_here, regQ_app, rcQ_app, cndK_t, cndK_f, RegW_nil, RegW_none, RegW_some, contW_app, grdK_tt, grdK_ff, grdK_tf, grdK_ft, grdK_undef, actK_p, actK_r, actK_a, actK_w, actK_call, actK_callV, heapK_app, allocK_app, writeK_app, ret1_ret, ret1_normal, ret0_ret, ret0_normal, ret2_ret2, thenK_app, retcv_ret, retcvK_app, optW_some, evs, Arg.ev, aP, aR, aA, aW, pMov, pBin, pUn, pConv, pPick, pFieldAddr, pNilCheck, pExtract, aBin, aUn, aInt, aNew, partL_f, upd, List.getElem?_cons_zero, List.getElem?_cons_succ, List.getD_cons_zero, List.getD_cons_succ, List.set_cons_zero, List.set_cons_succ, Nat.zero_add, Nat.add_zero, List.getElem?_toArray, List.take_zero, List.drop_zero, List.take_succ_cons, List.drop_succ_cons, if_true, if_false, decide_true, decide_false, Bool.false_eq_true, Bool.true_eq_false, Bool.not_true, Bool.not_false, not_true_eq_false, not_false_eq_true, ge_iff_le, gt_iff_lt, beq_self_eq_true, bne_self_eq_false, and_self, and_true, true_and, Option.isSome_some, Heap.get_alloc_same, Heap.alloc_getE, *] | with_reducible refine cndK_d (fun hc => ?_) (fun hc => ?_) | with_reducible refine grdK_d (fun hc => ?_) (fun hc => ?_) | with_reducible refine cndK_i (fun hc => ?_) (fun hc => ?_) | with_reducible refine grdK_i (fun hc => ?_) (fun hc => ?_))
  refine LoopW.upto l.length (fun i e h4 => h2.le h4 ∧ OwnS h2 h4 4 v3 ((mixTo (turn (pick a 4) (pick b 4)) l i).map Ev.cells) ∧ e = [v, .int .i64 a, .int .i64 b, .bool false, .bool true, v2, v3, .int .i64 i]) ?_ (Nat.zero_le _) ⟨hl3, by simpa [mixTo] using ho3, rfl⟩
  clear a3 ho3 hl3
  rintro i _ h4 R hi ⟨hl4, ho4, rfl⟩ hR
  have elen : pLenS [v3] = some (.int .i64 l.length) := by
    have := Evs.len (OwnS.evs ho4)
    rwa [mixTo_len] at this
  delta c8_l10 c8_r0 c8_r1 c8_r2 c8_r3 c8_r4 c8_r5 c8_r6 c8_r7 c8_r8 c8_r9 c8_r11
  by_cases hlt : i < l.length
  · have hlt' : (i : Int) < l.length := by omega
    have h40 : ¬ (4 : Int) = 0 := by decide
    obtain ⟨e, he⟩ : ∃ e, l[i]? = some e := ⟨_, List.getElem?_eq_getElem hlt⟩
    have em := hmay e (List.mem_of_getElem? he)
    simp only [Ev.may, Bool.and_eq_true, decide_eq_true_eq] at em
    obtain ⟨id, cells, f1, f2, f3, f4, f5, f6, f7, f8, _⟩ := ownEv ho4 (mixTo_get he)
    have w1 : IntKind.i64.wrap (e.hart + pick a 4) = e.hart + pick a 4 := wrapI (by omega) (by omega)
    have w2 : IntKind.i64.wrap (e.at' + pick b 4) = e.at' + pick b 4 := wrapI (by omega) (by omega)
    have hw : IntKind.i64.wrap ((i : Int) + 1) = ((i + 1 : Nat) : Int) := by rw [wrapI (by omega) (by omega)]; rfl
    obtain ⟨s1, o1⟩ := f8 0 ((e.hart + pick a 4).tmod 4) { e with hart := (e.hart + pick a 4).tmod 4 } (by omega) rfl
    rw [Nat.add_zero] at s1 o1
    have gm : ((mixTo (turn (pick a 4) (pick b 4)) l i).set i { e with hart := (e.hart + pick a 4).tmod 4 })[i]? = some { e with hart := (e.hart + pick a 4).tmod 4 } := by
      rw [List.getElem?_set_self (by rw [mixTo_len]; exact hlt)]
    have hl5 : h2.le (h4.set id (.blk (cells.set (i * 4) (.int .i64 ((e.hart + pick a 4).tmod 4))) true)) := hl4.set f7 _
    obtain ⟨h5, hh5⟩ : ∃ x, h4.set id (.blk (cells.set (i * 4) (.int .i64 ((e.hart + pick a 4).tmod 4))) true) = x := ⟨_, rfl⟩
    rw [hh5] at s1 o1 hl5
    clear f8 hh5
    obtain ⟨id2, cells2, g1, g2, g3, g4, g5, g6, g7, g8, _⟩ := ownEv o1 gm
    replace em := Hid.mk em
    replace pa := Hid.mk pa
    replace pb := Hid.mk pb
    have hid := f1.symm.trans g1
    cases hid
    clear g1
    repeat' (first | simp -implicitDefEqProofs only [W_skip, W_reg, W_seq, W_rcond, W_cond, W_block, W_loop, W_exit, W_ret, thenQ_normal, thenQ_exit, thenQ_ret, blockQ_normal, blockQ_ret, blockQ_here, regQ_app, rcQ_app, cndK_t, cndK_f, RegW_nil, RegW_none, RegW_some, contW_app, grdK_tt, grdK_ff, grdK_tf, grdK_ft, grdK_undef, actK_p, actK_r, actK_a, actK_w, actK_call, actK_callV, heapK_app, allocK_app, writeK_app, ret1_ret, ret1_normal, ret0_ret, ret0_normal, ret2_ret2, thenK_app, retcv_ret, retcvK_app, optW_some, evs, Arg.ev, aP, aR, aA, aW, pMov, pBin, pUn, pConv, pPick, pFieldAddr, pNilCheck, pExtract, aBin, aUn, aInt, aNew, partL_f, upd, List.getElem?_cons_zero, List.getElem?_cons_succ, List.getD_cons_zero, List.getD_cons_succ, List.set_cons_zero, List.set_cons_succ, Nat.zero_add, Nat.add_zero, List.getElem?_toArray, List.take_zero, List.drop_zero, List.take_succ_cons, List.drop_succ_cons, if_true, if_false, decide_true, decide_false, Bool.false_eq_true, Bool.true_eq_false, Bool.not_true, Bool.not_false, not_true_eq_false, not_false_eq_true, ge_iff_le, gt_iff_lt, beq_self_eq_true, bne_self_eq_false, and_self, and_true, true_and, Option.isSome_some, Heap.get_alloc_same, Heap.alloc_getE, *] | with_reducible refine cndK_d (fun hc => ?_) (fun hc => ?_) | with_reducible refine grdK_d (fun hc => ?_) (fun hc => ?_) | with_reducible refine cndK_i (fun hc => ?_) (fun hc => ?_) | with_reducible refine grdK_i (fun hc => ?_) (fun hc => ?_))
    refine pick_c' a 4 (by decide) _ _ ⟨fun _ => by rw [Heap.ext_self]; trivial, ?_⟩
    cases hk : (e.kind != 3) with
    | false =>
      have hk3 : e.kind = 3 := by simpa using hk
      have done : R [v, .int .i64 a, .int .i64 b, .bool false, .bool true, v2, v3, .int .i64 ((i + 1 : Nat) : Int)] h5 := by
        refine hR.h _ _ hlt ⟨hl5, ?_, rfl⟩
        rw [← mixTo_set he]
        have : turn (pick a 4) (pick b 4) e = { e with hart := (e.hart + pick a 4).tmod 4 } := by simp [turn, hk3]
        rw [this]; exact o1
      replace done := Hid.mk done
      clear g8 hk3
      repeat' (first | simp -implicitDefEqProofs only [W_skip, W_reg, W_seq, W_rcond, W_cond, W_block, W_loop, W_exit, W_ret, thenQ_normal, thenQ_exit, thenQ_ret, blockQ_normal, blockQ_ret, blockQ_here, regQ_app, rcQ_app, cndK_t, cndK_f, RegW_nil, RegW_none, RegW_some, contW_app, grdK_tt, grdK_ff, grdK_tf, grdK_ft, grdK_undef, actK_p, actK_r, actK_a, actK_w, actK_call, actK_callV, heapK_app, allocK_app, writeK_app, ret1_ret, ret1_normal, ret0_ret, ret0_normal, ret2_ret2, thenK_app, retcv_ret, retcvK_app, optW_some, evs, Arg.ev, aP, aR, aA, aW, pMov, pBin, pUn, pConv, pPick, pFieldAddr, pNilCheck, pExtract, aBin, aUn, aInt, aNew, partL_f, upd, List.getElem?_cons_zero, List.getElem?_cons_succ, List.getD_cons_zero, List.getD_cons_succ, List.set_cons_zero, List.set_cons_succ, Nat.zero_add, Nat.add_zero, List.getElem?_toArray, List.take_zero, List.drop_zero, List.take_succ_cons, List.drop_succ_cons, if_true, if_false, decide_true, decide_false, Bool.false_eq_true, Bool.true_eq_false, Bool.not_true, Bool.not_false, not_true_eq_false, not_false_eq_true, ge_iff_le, gt_iff_lt, beq_self_eq_true, bne_self_eq_false, and_self, and_true, true_and, Option.isSome_some, Heap.get_alloc_same, Heap.alloc_getE, *] | with_reducible refine cndK_d (fun hc => ?_) (fun hc => ?_) | with_reducible refine grdK_d (fun hc => ?_) (fun hc => ?_) | with_reducible refine cndK_i (fun hc => ?_) (fun hc => ?_) | with_reducible refine grdK_i (fun hc => ?_) (fun hc => ?_))
      exact done.h
    | true =>
      have hk3 : ¬ e.kind = 3 := by simpa using hk
      obtain ⟨s2, o2⟩ := g8 2 ((e.at' + pick b 4).tmod 4) (turn (pick a 4) (pick b 4) e) (by omega) (by simp [turn, hk3, Ev.cells])
      have done : R [v, .int .i64 a, .int .i64 b, .bool false, .bool true, v2, v3, .int .i64 ((i + 1 : Nat) : Int)] (h5.set id (.blk (cells2.set (i * 4 + 2) (.int .i64 ((e.at' + pick b 4).tmod 4))) true)) := by
        refine hR.h _ _ hlt ⟨hl5.set g7 _, ?_, rfl⟩
        have : ((mixTo (turn (pick a 4) (pick b 4)) l i).set i { e with hart := (e.hart + pick a 4).tmod 4 }).set i (turn (pick a 4) (pick b 4) e) = mixTo (turn (pick a 4) (pick b 4)) l (i + 1) := by
          rw [List.set_set, mixTo_set he]
        rw [this] at o2; exact o2
      replace done := Hid.mk done
      clear g8 hk3 o2
      repeat' (first | simp -implicitDefEqProofs only [W_skip, W_reg, W_seq, W_rcond, W_cond, W_block, W_loop, W_exit, W_ret, thenQ_normal, thenQ_exit, thenQ_ret, blockQ_normal, blockQ_ret, blockQ_here, regQ_app, rcQ_app, cndK_t, cndK_f, RegW_nil, RegW_none, RegW_some, contW_app, grdK_tt, grdK_ff, grdK_tf, grdK_ft, grdK_undef, actK_p, actK_r, actK_a, actK_w, actK_call, actK_callV, heapK_app, allocK_app, writeK_app, ret1_ret, ret1_normal, ret0_ret, ret0_normal, ret2_ret2, thenK_app, retcv_ret, retcvK_app, optW_some, evs, Arg.ev, aP, aR, aA, aW, pMov, pBin, pUn, pConv, pPick, pFieldAddr, pNilCheck, pExtract, aBin, aUn, aInt, aNew, partL_f, upd, List.getElem?_cons_zero, List.getElem?_cons_succ, List.getD_cons_zero, List.getD_cons_succ, List.set_cons_zero, List.set_cons_succ, Nat.zero_add, Nat.add_zero, List.getElem?_toArray, List.take_zero, List.drop_zero, List.take_succ_cons, List.drop_succ_cons, if_true, if_false, decide_true, decide_false, Bool.false_eq_true, Bool.true_eq_false, Bool.not_true, Bool.not_false, not_true_eq_false, not_false_eq_true, ge_iff_le, gt_iff_lt, beq_self_eq_true, bne_self_eq_false, and_self, and_true, true_and, Option.isSome_some, Heap.get_alloc_same, Heap.alloc_getE, *] | with_reducible refine cndK_d (fun hc => ?_) (fun hc => ?_) | with_reducible refine grdK_d (fun hc => ?_) (fun hc => ?_) | with_reducible refine cndK_i (fun hc => ?_) (fun hc => ?_) | with_reducible refine grdK_i (fun hc => ?_) (fun hc => ?_))
      refine pick_c' b 4 (by decide) _ _ ⟨fun _ => by rw [Heap.ext_self]; trivial, ?_⟩
      repeat' (first | simp -implicitDefEqProofs only [W_skip, W_reg, W_seq, W_rcond, W_cond, W_block, W_loop, W_exit, W_ret, thenQ_normal, thenQ_exit, thenQ_ret, blockQ_normal, blockQ_ret, blockQ_here, regQ_app, rcQ_app, cndK_t, cndK_f, RegW_nil, RegW_none, RegW_some, contW_app, grdK_tt, grdK_ff, grdK_tf, grdK_ft, grdK_undef, actK_p, actK_r, actK_a, actK_w, actK_call, actK_callV, heapK_app, allocK_app, writeK_app, ret1_ret, ret1_normal, ret0_ret, ret0_normal, ret2_ret2, thenK_app, retcv_ret, retcvK_app, optW_some, evs, Arg.ev, aP, aR, aA, aW, pMov, pBin, pUn, pConv, pPick, pFieldAddr, pNilCheck, pExtract, aBin, aUn, aInt, aNew, partL_f, upd, List.getElem?_cons_zero, List.getElem?_cons_succ, List.getD_cons_zero, List.getD_cons_succ, List.set_cons_zero, List.set_cons_succ, Nat.zero_add, Nat.add_zero, List.getElem?_toArray, List.take_zero, List.drop_zero, List.take_succ_cons, List.drop_succ_cons, if_true, if_false, decide_true, decide_false, Bool.false_eq_true, Bool.true_eq_false, Bool.not_true, Bool.not_false, not_true_eq_false, not_false_eq_true, ge_iff_le, gt_iff_lt, beq_self_eq_true, bne_self_eq_false, and_self, and_true, true_and, Option.isSome_some, Heap.get_alloc_same, Heap.alloc_getE, *] | with_reducible refine cndK_d (fun hc => ?_) (fun hc => ?_) | with_reducible refine grdK_d (fun hc => ?_) (fun hc => ?_) | with_reducible refine cndK_i (fun hc => ?_) (fun hc => ?_) | with_reducible refine grdK_i (fun hc => ?_) (fun hc => ?_))
      exact done.h
  · have hlt' : ¬ (i : Int) < l.length := by omega
    have hil : i = l.length := by omega
    subst hil
    have hm : mixTo (turn (pick a 4) (pick b 4)) l l.length = l.map (turn (pick a 4) (pick b 4)) := by simp [mixTo]
    rw [hm] at ho4
    have e4 : Evs h4 v3 (l.map (turn (pick a 4) (pick b 4))) := OwnS.evs ho4
    have e24 := e2.mono hl4
    clear ho4
    obtain ⟨hr2, hF⟩ := fin_turned hright pa pb
    repeat' (first | simp -implicitDefEqProofs only [W_skip, W_reg, W_seq, W_rcond, W_cond, W_block, W_loop, W_exit, W_ret, thenQ_normal, thenQ_exit, thenQ_ret, blockQ_normal, blockQ_ret, blockQ_here, regQ_app, rcQ_app, cndK_t, cndK_f, RegW_nil, RegW_none, RegW_some, contW_app, grdK_tt, grdK_ff, grdK_tf, grdK_ft, grdK_undef, actK_p, actK_r, actK_a, actK_w, actK_call, actK_callV, heapK_app, allocK_app, writeK_app, ret1_ret, ret1_normal, ret0_ret, ret0_normal, ret2_ret2, thenK_app, retcv_ret, retcvK_app, optW_some, evs, Arg.ev, aP, aR, aA, aW, pMov, pBin, pUn, pConv, pPick, pFieldAddr, pNilCheck, pExtract, aBin, aUn, aInt, aNew, partL_f, upd, List.getElem?_cons_zero, List.getElem?_cons_succ, List.getD_cons_zero, List.getD_cons_succ, List.set_cons_zero, List.set_cons_succ, Nat.zero_add, Nat.add_zero, List.getElem?_toArray, List.take_zero, List.drop_zero, List.take_succ_cons, List.drop_succ_cons, if_true, if_false, decide_true, decide_false, Bool.false_eq_true, Bool.true_eq_false, Bool.not_true, Bool.not_false, not_true_eq_false, not_false_eq_true, ge_iff_le, gt_iff_lt, beq_self_eq_true, bne_self_eq_false, and_self, and_true, true_and, Option.isSome_some, Heap.get_alloc_same, Heap.alloc_getE, *] | with_reducible refine cndK_d (fun hc => ?_) (fun hc => ?_) | with_reducible refine grdK_d (fun hc => ?_) (fun hc => ?_) | with_reducible refine cndK_i (fun hc => ?_) (fun hc => ?_) | with_reducible refine grdK_i (fun hc => ?_) (fun hc => ?_))
    refine right_c e4 (by simp; omega) _ fun x h6 hx hl6 => ?_
    rw [hr2] at hx
    subst hx
    repeat' (first | simp -implicitDefEqProofs only [W_skip, W_reg, W_seq, W_rcond, W_cond, W_block, W_loop, W_exit, W_ret, thenQ_normal, thenQ_exit, thenQ_ret, blockQ_normal, blockQ_ret, blockQ_here, regQ_app, rcQ_app, cndK_t, cndK_f, RegW_nil, RegW_none, RegW_some, contW_app, grdK_tt, grdK_ff, grdK_tf, grdK_ft, grdK_undef, actK_p, actK_r, actK_a, actK_w, actK_call, actK_callV, heapK_app, allocK_app, writeK_app, ret1_ret, ret1_normal, ret0_ret, ret0_normal, ret2_ret2, thenK_app, retcv_ret, retcvK_app, optW_some, evs, Arg.ev, aP, aR, aA, aW, pMov, pBin, pUn, pConv, pPick, pFieldAddr, pNilCheck, pExtract, aBin, aUn, aInt, aNew, partL_f, upd, List.getElem?_cons_zero, List.getElem?_cons_succ, List.getD_cons_zero, List.getD_cons_succ, List.set_cons_zero, List.set_cons_succ, Nat.zero_add, Nat.add_zero, List.getElem?_toArray, List.take_zero, List.drop_zero, List.take_succ_cons, List.drop_succ_cons, if_true, if_false, decide_true, decide_false, Bool.false_eq_true, Bool.true_eq_false, Bool.not_true, Bool.not_false, not_true_eq_false, not_false_eq_true, ge_iff_le, gt_iff_lt, beq_self_eq_true, bne_self_eq_false, and_self, and_true, true_and, Option.isSome_some, Heap.get_alloc_same, Heap.alloc_getE, *] | with_reducible refine cndK_d (fun hc => ?_) (fun hc => ?_) | with_reducible refine grdK_d (fun hc => ?_) (fun hc => ?_) | with_reducible refine cndK_i (fun hc => ?_) (fun hc => ?_) | with_reducible refine grdK_i (fun hc => ?_) (fun hc => ?_))
    refine Allowed_c (e24.mono hl6) (by omega) _ fun x h7 hx hl7 => ?_
    replace hx := Hid.mk hx
    repeat' (first | simp -implicitDefEqProofs only [W_skip, W_reg, W_seq, W_rcond, W_cond, W_block, W_loop, W_exit, W_ret, thenQ_normal, thenQ_exit, thenQ_ret, blockQ_normal, blockQ_ret, blockQ_here, regQ_app, rcQ_app, cndK_t, cndK_f, RegW_nil, RegW_none, RegW_some, contW_app, grdK_tt, grdK_ff, grdK_tf, grdK_ft, grdK_undef, actK_p, actK_r, actK_a, actK_w, actK_call, actK_callV, heapK_app, allocK_app, writeK_app, ret1_ret, ret1_normal, ret0_ret, ret0_normal, ret2_ret2, thenK_app, retcv_ret, retcvK_app, optW_some, evs, Arg.ev, aP, aR, aA, aW, pMov, pBin, pUn, pConv, pPick, pFieldAddr, pNilCheck, pExtract, aBin, aUn, aInt, aNew, partL_f, upd, List.getElem?_cons_zero, List.getElem?_cons_succ, List.getD_cons_zero, List.getD_cons_succ, List.set_cons_zero, List.set_cons_succ, Nat.zero_add, Nat.add_zero, List.getElem?_toArray, List.take_zero, List.drop_zero, List.take_succ_cons, List.drop_succ_cons, if_true, if_false, decide_true, decide_false, Bool.false_eq_true, Bool.true_eq_false, Bool.not_true, Bool.not_false, not_true_eq_false, not_false_eq_true, ge_iff_le, gt_iff_lt, beq_self_eq_true, bne_self_eq_false, and_self, and_true, true_and, Option.isSome_some, Heap.get_alloc_same, Heap.alloc_getE, *] | with_reducible refine cndK_d (fun hc => ?_) (fun hc => ?_) | with_reducible refine grdK_d (fun hc => ?_) (fun hc => ?_) | with_reducible refine cndK_i (fun hc => ?_) (fun hc => ?_) | with_reducible refine grdK_i (fun hc => ?_) (fun hc => ?_))
    refine Allowed_c ((e4.mono hl6).mono hl7) (by simp; omega) _ fun y h8 hy hl8 => ?_
    have hxy : x = y := by
      rw [Bool.eq_iff_iff, hx.h, hy, hright, hr2, hF]
    subst hxy
    clear hy
    have hb := pEqB x x
    rw [beq_self_eq_true] at hb
    repeat' (first | simp -implicitDefEqProofs only [W_skip, W_reg, W_seq, W_rcond, W_cond, W_block, W_loop, W_exit, W_ret, thenQ_normal, thenQ_exit, thenQ_ret, blockQ_normal, blockQ_ret, blockQ_here, regQ_app, rcQ_app, cndK_t, cndK_f, RegW_nil, RegW_none, RegW_some, contW_app, grdK_tt, grdK_ff, grdK_tf, grdK_ft, grdK_undef, actK_p, actK_r, actK_a, actK_w, actK_call, actK_callV, heapK_app, allocK_app, writeK_app, ret1_ret, ret1_normal, ret0_ret, ret0_normal, ret2_ret2, thenK_app, retcv_ret, retcvK_app, optW_some, evs, Arg.ev, aP, aR, aA, aW, pMov, pBin, pUn, pConv, pPick, pFieldAddr, pNilCheck, pExtract, aBin, aUn, aInt, aNew, partL_f, upd, List.getElem?_cons_zero, List.getElem?_cons_succ, List.getD_cons_zero, List.getD_cons_succ, List.set_cons_zero, List.set_cons_succ, Nat.zero_add, Nat.add_zero, List.getElem?_toArray, List.take_zero, List.drop_zero, List.take_succ_cons, List.drop_succ_cons, if_true, if_false, decide_true, decide_false, Bool.false_eq_true, Bool.true_eq_false, Bool.not_true, Bool.not_false, not_true_eq_false, not_false_eq_true, ge_iff_le, gt_iff_lt, beq_self_eq_true, bne_self_eq_false, and_self, and_true, true_and, Option.isSome_some, Heap.get_alloc_same, Heap.alloc_getE, *] | with_reducible refine cndK_d (fun hc => ?_) (fun hc => ?_) | with_reducible refine grdK_d (fun hc => ?_) (fun hc => ?_) | with_reducible refine cndK_i (fun hc => ?_) (fun hc => ?_) | with_reducible refine grdK_i (fun hc => ?_) (fun hc => ?_))
    exact hq.h _
end Go.Eng.Ax

