/-
  PROVED: whatever the input, TokenTells returns true, and its input reads as it did (the tied card).
  Conditions: none beyond the given row's own: the listed variables of Go's library read as listed when the call begins; the card ties that to the program's text.
-/
import Derived.Test.YtplhdfkhhefppaaDoorZb
import Derived.Test.YtplhdfkhhefppaaDoorBc
import Derived.Test.YtplhdfkhhefppaaDoorBe
set_option linter.unusedVariables false
set_option linter.unusedSimpArgs false
namespace Go.Proofs.YtplhdfkhhefppaaDoor.tokenTells
open Go Go.ChangeShapes Go.WideShapes Go.ChangeAt Go.RowKit Go.Eng Go.Eng.Tk

theorem one : AreInts Tryd.prog 3 1 := areInts_int (by kernel_rfl)
theorem arr : AreInts Tryd.prog 27 2 := areInts_array (n := 2) (e := 3) (by kernel_rfl) (by kernel_rfl) (by kernel_rfl) (by kernel_rfl)
set_option maxRecDepth 100000 in
theorem contract (H : Type) (enc : TypeId × Value → H) (W : World) (base : Nat) (args : Array Value) (ds gs : List (DataW H)) (before : List MemPlace)
    (hval : ∀ (j : Nat) t v, Tryd.f3.params[j]? = some t → args[j]? = some v → Value.okWide Tryd.prog W .any base t v)
    (hW : DataW.Whole enc Tryd.prog Tryd.f3.params.toList Rows.tokenTellsSpec.vars false W args.toList ds gs before) (hL : laidMetH Tryd.prog laidL W) (hsz : (DataW.weightsEach Tryd.prog (Tryd.f3.params.toList ++ Rows.tokenTellsSpec.plain.varTypes Tryd.prog) (ds ++ gs)).all (· ≤ reachBytes) = true) :
    Calls Tryd.prog 3 args W fun e W' => ∃ v, e = .returned v ∧ Rows.tokenTellsSpec.post enc Tryd.prog Tryd.f3 false true false false W args v W' := by
  have hW' := hW
  obtain ⟨p, q, hA0, hV, rfl, hfz, hnd⟩ := hW
  have hA : DataW.TrodAll enc Tryd.prog W 0 (fun _ => true) true Tryd.f3.params.toList args.toList ds p := hA0
  rw [Tryd.params3] at hA hval
  obtain ⟨v0, vs0, d0, ds0, p0, q0, hargs, rfl, rfl, h0, r0⟩ := trodAll_cons hA
  obtain ⟨v1, vs1, d1, ds1, p1, q1, rfl, rfl, rfl, h1, r1⟩ := trodAll_cons r0
  obtain ⟨v2, vs2, d2, ds2, p2, q2, rfl, rfl, rfl, h2, r2⟩ := trodAll_cons r1
  obtain ⟨v3, vs3, d3, ds3, p3, q3, rfl, rfl, rfl, h3, r3⟩ := trodAll_cons r2
  obtain ⟨v4, vs4, d4, ds4, p4, q4, rfl, rfl, rfl, h4, r4⟩ := trodAll_cons r3
  obtain ⟨rfl, rfl, rfl⟩ := trodAll_nil r4
  obtain rfl : args = #[v0, v1, v2, v3, v4] := by cases args; simp_all
  obtain ⟨rfl, rfl⟩ := trodVars_none hV
  obtain ⟨a0, rfl, rfl, rfl, w0⟩ := Go.ChangeMaps.open_string (by kernel_rfl : Tryd.prog.underlying 9 = some .string) (hval 0 9 v0 rfl rfl) h0
  obtain ⟨s0, hs0⟩ : ∃ l : List UInt8, a0 = ⟨l.toArray⟩ := ⟨a0.data.toList, by cases a0; rfl⟩
  subst hs0
  obtain ⟨n1, l1, nil1, s1, hl1, hw1, hn1, hnil1, hs1, hb1, hvr1⟩ := slice_arg (c := 2) (by kernel_rfl : Tryd.prog.underlying 22 = some (.slice 27)) (by kernel_rfl) (by decide) arr (hval 1 22 v1 rfl rfl) h1
  obtain ⟨n2, l2, nil2, s2, hl2, hw2, hn2, hnil2, hs2, hb2, hvr2⟩ := slice_arg (c := 1) (by kernel_rfl : Tryd.prog.underlying 23 = some (.slice 3)) (by kernel_rfl) (by decide) one (hval 2 23 v2 rfl rfl) h2
  obtain ⟨a3, rfl, rfl, rfl, w3⟩ := open_int (by kernel_rfl : Tryd.prog.underlying 3 = some (.int .i64)) (hval 3 3 v3 rfl rfl) h3
  obtain ⟨a4, rfl, rfl, rfl, w4⟩ := Go.ChangeMaps.open_string (by kernel_rfl : Tryd.prog.underlying 9 = some .string) (hval 4 9 v4 rfl rfl) h4
  obtain ⟨s4, hs4⟩ : ∃ l : List UInt8, a4 = ⟨l.toArray⟩ := ⟨a4.data.toList, by cases a4; rfl⟩
  subst hs4
  rw [Tryd.params3] at hsz
  have z0 := sized_string (j := 0) (t := 9) hsz rfl rfl
  have z0 : s0.length ≤ 140737488351232 := by simpa [reachBytes] using z0
  have z4 := sized_string (j := 4) (t := 9) hsz rfl rfl
  have z4 : s4.length ≤ 140737488351232 := by simpa [reachBytes] using z4
  obtain ⟨raw1, hr1, hok1, hR1⟩ := raws_of (slots := [s1, s2]) (i := 0) rfl hl1 hw1 hnil1 hb1
  have hR2 := ints_of (slots := [s1, s2]) (i := 1) rfl hl2 hnil2 hb2
  have hc := calls_of (P := Tryd.prog) (f := 3) (W := W) (args := [.string ⟨s0.toArray⟩, v1, v2, .int .i64 a3, .string ⟨s4.toArray⟩]) (slots := [s1, s2]) (absArgs := [.string ⟨s0.toArray⟩, absSlice 0 n1 2 nil1, absSlice 1 n2 1 nil2, .int .i64 a3, .string ⟨s4.toArray⟩]) (glob_of hL) ?_ (.cons _ _ _ _ (.same _ rfl) (.cons _ _ _ _ (hvr1 _ 0 rfl) (.cons _ _ _ _ (hvr2 _ 1 rfl) (.cons _ _ _ _ (.same _ rfl) (.cons _ _ _ _ (.same _ rfl) (.nil)))))) ?_
  · refine hc.mono fun e W2 ⟨he, hst⟩ => ⟨_, he, ?_⟩
    refine post_true lay (by kernel_rfl) (by kernel_rfl : Tryd.prog.underlying 4 = some .bool) ?_ rfl hW' rfl rfl rfl hst
    intro t ht
    rw [Tryd.params3] at ht
    have hr : [9, 22, 23, 3, 9].all (fun t => Tryd.prog.readableRec t && decide (t < Tryd.prog.types.size)) = true := by kernel_rfl
    have := List.all_eq_true.1 hr t (by simpa using ht)
    simpa using this
  · intro s hs
    simp only [List.mem_cons, List.not_mem_nil, or_false] at hs
    rcases hs with rfl | rfl
    · exact hs1
    · exact hs2
  · exact TokenTells_c z0 z4 hR1 hok1 (by rw [hr1]; exact hn1) hR2 (fun z hz => wf_in (hw2 z hz)) (by rw [hl2, Nat.mul_one]; exact hn2) (wf_in w3)

set_option maxRecDepth 100000 in
theorem lifted (os : Os) (started : os.Started) (H : Type) (enc : TypeId × Value → H) :
    ReturnsInHanded {} Tryd.checked os 3 .any (fun w args => (Rows.tokenTellsSpec.pre enc Tryd.prog Tryd.f3 Rows.tokenTellsRow.domain false w args ∧ laidMetH Tryd.prog laidL w) ∧ sizedMet enc Tryd.prog Tryd.f3 (OpenSpec.ofChange Rows.tokenTellsSpec) false w args)
      (Rows.tokenTellsSpec.post enc Tryd.prog Tryd.f3 false true false false) := by
  refine returnsInHanded_of_change_and (C := Tryd.checked) (X := fun w _ => laidMetH Tryd.prog laidL w) (fun _ _ _ hh h => h.of_heap hh) own started (by kernel_rfl) Tryd.func3
    (ChangeSpec.witness_shaped (enc := enc) (C := Tryd.checked) (os := os) (X := fun w _ => laidMetH Tryd.prog laidL w) false (World.laidAll Tryd.prog os laidL) #[.string ⟨#[]⟩, .slice none 0 0, .slice none 0 0, .int .i64 0, .string ⟨#[]⟩] 8 (World.laidAll_os _ _ _)
      (shaped os _) (by kernel_rfl) (by kernel_rfl) (by kernel_rfl) (met os _)) ?_
  intro W base args ds gs before hval hW _ hsz hL _
  exact contract H enc W base args ds gs before hval hW hL hsz

theorem holds : Rows.TokenTellsSaid :=
  OpenClaim.holds_of_wide 3 Tryd.f3 rfl rfl rfl rfl rfl rfl rfl ⟨rfl, rfl, rfl, rfl, rfl⟩ rfl rfl rfl rfl rfl (by kernel_rfl) Tryd.func3 (by kernel_rfl)
    (of_decide_eq_true (by kernel_rfl)) (by unfold Func.isWrapper; first | (rw [if_pos (by decide +kernel)]; kernel_rfl) | (rw [if_neg (by decide +kernel)]; exact ⟨rfl, rfl⟩))
    (fun os started H enc _ => lifted os started H enc)

theorem proved : Rows.TokenTellsCardSaid :=
  Claim7.holds_tied_plain_at .later [] [.data, .data, .data, .data, .sentinel, .sentinel, .pinned, .pinned] true (true, "91b6fdc8a81cddee961ee51af5afb596e9870eeaad95d18266db4ead105e2ba7") true
    holds (fun _ h => by cases h) (by kernel_rfl) (fun _ h => by cases h) tokenTells_row_tie rfl ⟨rfl, rfl⟩ (by kernel_rfl) rfl
    (fun f fn hf hfn => by
      obtain rfl : f = 3 := Option.some.inj ((show Tryd.prog.funcNamed "headstock/headstocklaw05.TokenTells" = some 3 by kernel_rfl).symm.trans hf) |>.symm
      obtain rfl : fn = Tryd.f3 := (Option.some.inj (Tryd.func3.symm.trans hfn)).symm
      exact ⟨by kernel_rfl, fun j t ht => by
        rw [Tryd.params3] at ht
        have hm : t ∈ [9, 22, 23, 3, 9] := by simpa using Array.mem_of_getElem? ht
        have hall : ([9, 22, 23, 3, 9].all fun u => !Tryd.prog.wantsStandIn u) = true := by kernel_rfl
        exact (show Tryd.prog.wantsStandIn t = false by simpa using List.all_eq_true.1 hall t hm)⟩)
    (by kernel_rfl)
end Go.Proofs.YtplhdfkhhefppaaDoor.tokenTells

