/-
  Part of a proof of the laws of layer 05 (token): the laws.
  Conditions: none.
-/
import Derived.Test.YtplhdfkhhefppaaDoorRows
import Derived.Test.YtplhdfkhhefppaaDoorTie
import Derived.Test.YtplhdfkhhefppaaDoorCards
import Derived.LaidLaws
import Derived.LaidSub
import Derived.LaidMore
import Derived.Lay
import Derived.SevenTiedAt
import Derived.Stop.Joined
import Derived.Test.YtplhdfkhhefppaaDoorEc
set_option linter.unusedVariables false
set_option linter.unusedSimpArgs false
namespace Go.Proofs.YtplhdfkhhefppaaDoor
open Go Go.ChangeShapes Go.WideShapes Go.ChangeAt Go.RowKit Go.Eng

theorem own : ownKnob Tryd.prog.godebug = none := by kernel_rfl
theorem lay : laidOutB Tryd.prog = true := by kernel_rfl
noncomputable def laidL : List (String × DataW Unit) := Rows.tokenSignsRow.laid
theorem iface_var {W : World} {n nm : String} {d : DataW Unit} {g : Nat} {ti : TypeId} {ms : Array (String × TypeId)} (hL : laidMetH Tryd.prog laidL W) (hf : laidL.filter (fun x => x.1 == n) = [(n, .iface nm d)]) (hh : [(n, DataW.iface nm d)].filter (fun x => x.2.handleName?.isNone) = [(n, .iface nm d)])
    (hg : Tryd.prog.globalNamed n = some g) (ht : (Tryd.prog.globals[g]?).map (·.type) = some ti) (hi : Tryd.prog.underlying ti = some (.interface ms)) : g < W.heap.size ∧ ∃ te pe, W.cell? ⟨g, 0, none⟩ = some (.iface te pe) := by
  have h1 := hL.filter (fun x => x.1 == n)
  rw [hf] at h1
  have h2 := (laidMetH_iff.1 h1).1
  rw [hh] at h2
  obtain ⟨ps, ⟨g0, t0, cs0, f0, p0, q0, hg0, ht0, hv0, hd0, _, e0⟩, _, hrows⟩ := h2
  obtain rfl := Option.some.inj (hg.symm.trans hg0)
  obtain rfl := Option.some.inj (ht.symm.trans ht0)
  obtain ⟨_, u, v, hcs, _⟩ := iface_of_trod hi hd0
  have hc : W.cell? ⟨g, 0, none⟩ = some (.iface u v) := by
    rw [World.var?_cell hg0 hv0 0]
    have : cs0[0]? = cs0.toList[0]? := by simp
    rw [this, hcs]; rfl
  exact ⟨Lib.lt_of_cell hc, u, v, hc⟩
theorem glob_of {W : World} (hL : laidMetH Tryd.prog laidL W) : globOk W.heap.size W := by
  intro b hb
  simp only [ifaceVars, List.mem_cons, List.not_mem_nil, or_false] at hb
  rcases hb with rfl | rfl
  · exact iface_var (n := "strconv.ErrSyntax") (nm := "*errors.errorString") (d := .ptr (.agg [.lit (.string [105, 110, 118, 97, 108, 105, 100, 32, 115, 121, 110, 116, 97, 120])])) hL (by kernel_rfl) (by kernel_rfl) (by kernel_rfl) (by kernel_rfl) Tryd.underlying66
  · exact iface_var (n := "strconv.ErrRange") (nm := "*errors.errorString") (d := .ptr (.agg [.lit (.string [118, 97, 108, 117, 101, 32, 111, 117, 116, 32, 111, 102, 32, 114, 97, 110, 103, 101])])) hL (by kernel_rfl) (by kernel_rfl) (by kernel_rfl) (by kernel_rfl) Tryd.underlying66
theorem shaped (os : Os) (args : Array Value) : ((World.laidAll Tryd.prog os laidL).forCall (fun _ _ => 0) ⟨#[], args, []⟩).Shaped Tryd.prog :=
  World.shaped_of_ZipB (by kernel_rfl) (by kernel_rfl)
theorem met (os : Os) (args : Array Value) : laidMetH Tryd.prog laidL ((World.laidAll Tryd.prog os laidL).forCall (fun _ _ => 0) ⟨#[], args, []⟩).memory := by
  rw [MakeChecks.laidMetH_plain _ _ _ (by kernel_rfl)]
  exact laidMet_laidAll _ (by kernel_rfl) (by kernel_rfl)
end Go.Proofs.YtplhdfkhhefppaaDoor

