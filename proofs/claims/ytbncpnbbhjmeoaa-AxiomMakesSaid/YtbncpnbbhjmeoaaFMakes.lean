/-
  PROVED: whatever the input, AxiomMakes returns true, and its input reads as it did.
  Conditions: none beyond the given row's own.
-/
import Derived.Test.YtbncpnbbhjmeoaaRows
import Derived.Test.YtbncpnbbhjmeoaaBc
import Derived.Test.YtbncpnbbhjmeoaaBd
set_option linter.unusedVariables false
set_option linter.unusedSimpArgs false
namespace Go.Proofs.Ytbncpnbbhjmeoaa.axiomMakes
open Go Go.ChangeShapes Go.WideShapes Go.ChangeAt Go.RowKit Go.Eng Go.Eng.Ax

theorem own : ownKnob Try.prog.godebug = none := by kernel_rfl
theorem lay : laidOutB Try.prog = true := by kernel_rfl
theorem arr : AreInts Try.prog 42 4 := areInts_array (n := 4) (e := 3) (by kernel_rfl) (by kernel_rfl) (by kernel_rfl) (by kernel_rfl)
theorem one : AreInts Try.prog 3 1 := areInts_int (by kernel_rfl)

theorem contract (H : Type) (enc : TypeId × Value → H) (W : World) (base : Nat) (args : Array Value) (ds gs : List (DataW H)) (before : List MemPlace)
    (hval : ∀ (j : Nat) t v, Try.f4.params[j]? = some t → args[j]? = some v → Value.okWide Try.prog W .any base t v)
    (hW : DataW.Whole enc Try.prog Try.f4.params.toList Rows.axiomMakesSpec.vars false W args.toList ds gs before) :
    Calls Try.prog 4 args W fun e W' => ∃ v, e = .returned v ∧ Rows.axiomMakesSpec.post enc Try.prog Try.f4 false true false false W args v W' := by
  have hW' := hW
  obtain ⟨p, q, hA0, hV, rfl, hfz, hnd⟩ := hW
  have hA : DataW.TrodAll enc Try.prog W 0 (fun _ => true) true Try.f4.params.toList args.toList ds p := hA0
  rw [Try.params4] at hA hval
  obtain ⟨v0, vs0, d0, ds0, p0, q0, hargs, rfl, rfl, h0, r0⟩ := trodAll_cons hA
  obtain ⟨v1, vs1, d1, ds1, p1, q1, rfl, rfl, rfl, h1, r1⟩ := trodAll_cons r0
  obtain ⟨rfl, rfl, rfl⟩ := trodAll_nil r1
  obtain rfl : args = #[v0, v1] := by cases args; simp_all
  obtain ⟨rfl, rfl⟩ := trodVars_none hV
  obtain ⟨n0, l0, nil0, s0, hl0, hw0, hn0, hnil0, hs0, hb0, hvr0⟩ := slice_arg (c := 4) (by kernel_rfl : Try.prog.underlying 24 = some (.slice 42)) (by kernel_rfl) (by decide) arr (hval 0 24 v0 rfl rfl) h0
  obtain ⟨n1, l1, nil1, s1, hl1, hw1, hn1, hnil1, hs1, hb1, hvr1⟩ := slice_arg (c := 1) (by kernel_rfl : Try.prog.underlying 23 = some (.slice 3)) (by kernel_rfl) (by decide) one (hval 1 23 v1 rfl rfl) h1
  obtain ⟨raw0, hr0, hok0, hR0⟩ := raws_of (slots := [s0, s1]) (i := 0) rfl hl0 hw0 hnil0 hb0
  have hR1 := ints_of (slots := [s0, s1]) (i := 1) rfl hl1 hnil1 hb1
  have hc := calls_of (P := Try.prog) (f := 4) (W := W) (args := [v0, v1]) (slots := [s0, s1]) (absArgs := [absSlice 0 n0 4 nil0, absSlice 1 n1 1 nil1]) ?_ (.cons _ _ _ _ (hvr0 _ 0 rfl) (.cons _ _ _ _ (hvr1 _ 1 rfl) (.nil))) ?_
  · refine hc.mono fun e W2 ⟨he, hst⟩ => ⟨_, he, ?_⟩
    refine post_true lay (by kernel_rfl) (by kernel_rfl : Try.prog.underlying 4 = some .bool) ?_ rfl hW' rfl rfl rfl hst
    intro t ht
    rw [Try.params4] at ht
    have hr : [24, 23].all (fun t => Try.prog.readableRec t && decide (t < Try.prog.types.size)) = true := by kernel_rfl
    have := List.all_eq_true.1 hr t (by simpa using ht)
    simpa using this
  · intro s hs
    simp only [List.mem_cons, List.not_mem_nil, or_false] at hs
    rcases hs with rfl | rfl
    · exact hs0
    · exact hs1
  · exact AxiomMakes_c hR0 hR1 (by rw [hr0]; exact hn0) hok0 (by rw [hl1, Nat.mul_one]; exact hn1) (fun z hz => wf_in (hw1 z hz))

set_option maxRecDepth 100000 in
theorem lifted (os : Os) (started : os.Started) (H : Type) (enc : TypeId × Value → H) :
    ReturnsInHanded {} Try.checked os 4 .any (Rows.axiomMakesSpec.pre6 enc Try.prog Try.f4 Rows.axiomMakesRow.domain false) (Rows.axiomMakesSpec.post enc Try.prog Try.f4 false true false false) := by
  refine returnsInHanded_of_change (C := Try.checked) own started (by kernel_rfl) Try.func4
    (ChangeSpec.witness6 (enc := enc) (C := Try.checked) false ⟨#[], #[.slice none 0 0, .slice none 0 0], []⟩ 8 (by kernel_rfl) (by kernel_rfl) (by kernel_rfl) (by kernel_rfl)) ?_
  intro W base args ds gs before hval hW _ _
  exact contract H enc W base args ds gs before hval hW

theorem over : Rows.axiomMakesRow.holds Try.pinned (OpenSpec.ofChange Rows.axiomMakesSpec) :=
  OpenClaim.holds_of_wide 4 Try.f4 rfl rfl rfl rfl rfl rfl rfl ⟨rfl, rfl, rfl, rfl, rfl⟩ rfl rfl rfl rfl rfl (by kernel_rfl) Try.func4 (by kernel_rfl)
    (of_decide_eq_true (by kernel_rfl)) (by unfold Func.isWrapper; first | (rw [if_pos (by decide +kernel)]; kernel_rfl) | (rw [if_neg (by decide +kernel)]; exact ⟨rfl, rfl⟩))
    (fun os started H enc _ => lifted os started H enc)

theorem proved : Rows.AxiomMakesSaid :=
  over
end Go.Proofs.Ytbncpnbbhjmeoaa.axiomMakes

