/-
  PROVED: whatever the input, AxiomTells returns true, and its input reads as it did.
  Conditions: none beyond the given row's own.
-/
import Derived.Test.YtbncpnbbhjmeoaaRows
import Derived.Test.YtbncpnbbhjmeoaaBc
import Derived.Test.YtbncpnbbhjmeoaaRb
set_option linter.unusedVariables false
set_option linter.unusedSimpArgs false
namespace Go.Proofs.Ytbncpnbbhjmeoaa.axiomTells
open Go Go.ChangeShapes Go.WideShapes Go.ChangeAt Go.RowKit Go.Eng Go.Eng.Ax

theorem own : ownKnob Try.prog.godebug = none := by kernel_rfl
theorem lay : laidOutB Try.prog = true := by kernel_rfl
theorem arr : AreInts Try.prog 42 4 := areInts_array (n := 4) (e := 3) (by kernel_rfl) (by kernel_rfl) (by kernel_rfl) (by kernel_rfl)
theorem one : AreInts Try.prog 3 1 := areInts_int (by kernel_rfl)

theorem evt : ∃ fs, Try.prog.underlying 26 = some (.struct fs) ∧ AreInts Try.prog 26 4 := intStruct_ok (by kernel_rfl)

theorem contract (H : Type) (enc : TypeId × Value → H) (W : World) (base : Nat) (args : Array Value) (ds gs : List (DataW H)) (before : List MemPlace)
    (hval : ∀ (j : Nat) t v, Try.f3.params[j]? = some t → args[j]? = some v → Value.okWide Try.prog W .any base t v)
    (hW : DataW.Whole enc Try.prog Try.f3.params.toList Rows.axiomTellsSpec.vars false W args.toList ds gs before) :
    Calls Try.prog 3 args W fun e W' => ∃ v, e = .returned v ∧ Rows.axiomTellsSpec.post enc Try.prog Try.f3 false true false false W args v W' := by
  have hW' := hW
  obtain ⟨p, q, hA0, hV, rfl, hfz, hnd⟩ := hW
  have hA : DataW.TrodAll enc Try.prog W 0 (fun _ => true) true Try.f3.params.toList args.toList ds p := hA0
  rw [Try.params3] at hA hval
  obtain ⟨v0, vs0, d0, ds0, p0, q0, hargs, rfl, rfl, h0, r0⟩ := trodAll_cons hA
  obtain ⟨v1, vs1, d1, ds1, p1, q1, rfl, rfl, rfl, h1, r1⟩ := trodAll_cons r0
  obtain ⟨v2, vs2, d2, ds2, p2, q2, rfl, rfl, rfl, h2, r2⟩ := trodAll_cons r1
  obtain ⟨v3, vs3, d3, ds3, p3, q3, rfl, rfl, rfl, h3, r3⟩ := trodAll_cons r2
  obtain ⟨v4, vs4, d4, ds4, p4, q4, rfl, rfl, rfl, h4, r4⟩ := trodAll_cons r3
  obtain ⟨v5, vs5, d5, ds5, p5, q5, rfl, rfl, rfl, h5, r5⟩ := trodAll_cons r4
  obtain ⟨v6, vs6, d6, ds6, p6, q6, rfl, rfl, rfl, h6, r6⟩ := trodAll_cons r5
  obtain ⟨rfl, rfl, rfl⟩ := trodAll_nil r6
  obtain rfl : args = #[v0, v1, v2, v3, v4, v5, v6] := by cases args; simp_all
  obtain ⟨rfl, rfl⟩ := trodVars_none hV
  obtain ⟨n0, l0, nil0, s0, hl0, hw0, hn0, hnil0, hs0, hb0, hvr0⟩ := slice_arg (c := 4) (by kernel_rfl : Try.prog.underlying 22 = some (.slice 26)) (by kernel_rfl) (by decide) (let ⟨_, _, e⟩ := evt; e) (hval 0 22 v0 rfl rfl) h0
  obtain ⟨n1, l1, nil1, s1, hl1, hw1, hn1, hnil1, hs1, hb1, hvr1⟩ := slice_arg (c := 1) (by kernel_rfl : Try.prog.underlying 23 = some (.slice 3)) (by kernel_rfl) (by decide) one (hval 1 23 v1 rfl rfl) h1
  obtain ⟨n2, l2, nil2, s2, hl2, hw2, hn2, hnil2, hs2, hb2, hvr2⟩ := slice_arg (c := 4) (by kernel_rfl : Try.prog.underlying 24 = some (.slice 42)) (by kernel_rfl) (by decide) arr (hval 2 24 v2 rfl rfl) h2
  obtain ⟨n3, l3, nil3, s3, hl3, hw3, hn3, hnil3, hs3, hb3, hvr3⟩ := slice_arg (c := 1) (by kernel_rfl : Try.prog.underlying 23 = some (.slice 3)) (by kernel_rfl) (by decide) one (hval 3 23 v3 rfl rfl) h3
  obtain ⟨a4, rfl, rfl, rfl, w4⟩ := open_int (by kernel_rfl : Try.prog.underlying 3 = some (.int .i64)) (hval 4 3 v4 rfl rfl) h4
  obtain ⟨a5, rfl, rfl, rfl, w5⟩ := open_int (by kernel_rfl : Try.prog.underlying 3 = some (.int .i64)) (hval 5 3 v5 rfl rfl) h5
  obtain ⟨fe6, te6, ae6⟩ := evt
  obtain ⟨le6, ke6, ee6, we6, hvr6⟩ := agg_arg te6 ae6 (hval 6 26 v6 rfl rfl) h6
  obtain ⟨x6, hx6⟩ := ev_of ke6
  rw [hx6] at ee6
  subst ee6
  obtain ⟨evs0, hr0, hR0⟩ := evs_of (slots := [s0, s1, s2, s3]) (i := 0) rfl hl0 hw0 hnil0 hb0
  have hR1 := ints_of (slots := [s0, s1, s2, s3]) (i := 1) rfl hl1 hnil1 hb1
  obtain ⟨raw2, hr2, hok2, hR2⟩ := raws_of (slots := [s0, s1, s2, s3]) (i := 2) rfl hl2 hw2 hnil2 hb2
  have hR3 := ints_of (slots := [s0, s1, s2, s3]) (i := 3) rfl hl3 hnil3 hb3
  have hc := calls_of (P := Try.prog) (f := 3) (W := W) (args := [v0, v1, v2, v3, .int .i64 a4, .int .i64 a5, x6.val]) (slots := [s0, s1, s2, s3]) (absArgs := [absSlice 0 n0 4 nil0, absSlice 1 n1 1 nil1, absSlice 2 n2 4 nil2, absSlice 3 n3 1 nil3, .int .i64 a4, .int .i64 a5, x6.val]) ?_ (.cons _ _ _ _ (hvr0 _ 0 rfl) (.cons _ _ _ _ (hvr1 _ 1 rfl) (.cons _ _ _ _ (hvr2 _ 2 rfl) (.cons _ _ _ _ (hvr3 _ 3 rfl) (.cons _ _ _ _ (.same _ rfl) (.cons _ _ _ _ (.same _ rfl) (.cons _ _ _ _ (hvr6 _) (.nil)))))))) ?_
  · refine hc.mono fun e W2 ⟨he, hst⟩ => ⟨_, he, ?_⟩
    refine post_true lay (by kernel_rfl) (by kernel_rfl : Try.prog.underlying 4 = some .bool) ?_ rfl hW' rfl rfl rfl hst
    intro t ht
    rw [Try.params3] at ht
    have hr : [22, 23, 24, 23, 3, 3, 26].all (fun t => Try.prog.readableRec t && decide (t < Try.prog.types.size)) = true := by kernel_rfl
    have := List.all_eq_true.1 hr t (by simpa using ht)
    simpa using this
  · intro s hs
    simp only [List.mem_cons, List.not_mem_nil, or_false] at hs
    rcases hs with rfl | rfl | rfl | rfl
    · exact hs0
    · exact hs1
    · exact hs2
    · exact hs3
  · exact AxiomTells_c hR0 hR1 hR2 hR3 (by rw [hr2]; exact hn2) (by rw [hl3, Nat.mul_one]; exact hn3) hok2 (fun z hz => wf_in (hw3 z hz))

set_option maxRecDepth 100000 in
theorem lifted (os : Os) (started : os.Started) (H : Type) (enc : TypeId × Value → H) :
    ReturnsInHanded {} Try.checked os 3 .any (Rows.axiomTellsSpec.pre6 enc Try.prog Try.f3 Rows.axiomTellsRow.domain false) (Rows.axiomTellsSpec.post enc Try.prog Try.f3 false true false false) := by
  refine returnsInHanded_of_change (C := Try.checked) own started (by kernel_rfl) Try.func3
    (ChangeSpec.witness6 (enc := enc) (C := Try.checked) false ⟨#[], #[.slice none 0 0, .slice none 0 0, .slice none 0 0, .slice none 0 0, .int .i64 0, .int .i64 0, .agg #[.int .i64 0, .int .i64 0, .int .i64 0, .int .i64 0]], []⟩ 8 (by kernel_rfl) (by kernel_rfl) (by kernel_rfl) (by kernel_rfl)) ?_
  intro W base args ds gs before hval hW _ _
  exact contract H enc W base args ds gs before hval hW

theorem over : Rows.axiomTellsRow.holds Try.pinned (OpenSpec.ofChange Rows.axiomTellsSpec) :=
  OpenClaim.holds_of_wide 3 Try.f3 rfl rfl rfl rfl rfl rfl rfl ⟨rfl, rfl, rfl, rfl, rfl⟩ rfl rfl rfl rfl rfl (by kernel_rfl) Try.func3 (by kernel_rfl)
    (of_decide_eq_true (by kernel_rfl)) (by unfold Func.isWrapper; first | (rw [if_pos (by decide +kernel)]; kernel_rfl) | (rw [if_neg (by decide +kernel)]; exact ⟨rfl, rfl⟩))
    (fun os started H enc _ => lifted os started H enc)

theorem proved : Rows.AxiomTellsSaid :=
  over
end Go.Proofs.Ytbncpnbbhjmeoaa.axiomTells

