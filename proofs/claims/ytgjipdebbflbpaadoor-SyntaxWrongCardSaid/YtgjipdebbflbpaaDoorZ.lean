/-
  Part of a proof of the laws of layer 06 (syntax): the laws.
  Conditions: none.
-/
import Derived.Test.YtgjipdebbflbpaaDoorRows
import Derived.Test.YtgjipdebbflbpaaDoorTie
import Derived.Test.YtgjipdebbflbpaaDoorCards
import Derived.LaidLaws
import Derived.LaidSub
import Derived.LaidMore
import Derived.Lay
import Derived.SevenTiedAt
import Derived.Stop.Joined
import Derived.Lib.LaidTab
import Derived.Deep.DeepHandedRow
import Derived.JoinedCond
import Derived.ChangeMaps5
import Derived.Test.YtgjipdebbflbpaaDoorEc
set_option linter.unusedVariables false
set_option linter.unusedSimpArgs false
namespace Go.Proofs.YtgjipdebbflbpaaDoor
open Go Go.ChangeShapes Go.WideShapes Go.ChangeAt Go.RowKit Go.Eng

theorem own : ownKnob Tryd.prog.godebug = none := by kernel_rfl
theorem lay : laidOutB Tryd.prog = true := by kernel_rfl
noncomputable def laidL : List (String × DataW Unit) := Rows.syntaxSameRow.laid
theorem glob_of {W : World} (hL : laidMetH Tryd.prog laidL W) : globOk W.heap.size W := by
  refine ⟨fun b hb => by simp [ifaceVars] at hb, fun t ht => ?_⟩
  simp only [tabVars, List.mem_singleton] at ht
  subst ht
  have h1 := hL.filter (fun x => x.1 == "internal/strconv.uint64pow10")
  have hf : laidL.filter (fun x => x.1 == "internal/strconv.uint64pow10") = [("internal/strconv.uint64pow10", Lib.tabData .u64 Lib.pow10Tab)] := by kernel_rfl
  rw [hf] at h1
  have h2 := (laidMetH_iff.1 h1).1
  have hh : [("internal/strconv.uint64pow10", (Lib.tabData .u64 Lib.pow10Tab : DataW Unit))].filter (fun x => x.2.handleName?.isNone) = [("internal/strconv.uint64pow10", Lib.tabData .u64 Lib.pow10Tab)] := by kernel_rfl
  rw [hh] at h2
  have hg : Tryd.prog.globalNamed "internal/strconv.uint64pow10" = some 0 := by kernel_rfl
  have h3 := Lib.tabIs_of_head (n := 20) hg (by kernel_rfl : (Tryd.prog.globals[0]?).map (·.type) = some 153) (by kernel_rfl : Tryd.prog.underlying 153 = some (.array 20 136)) (by kernel_rfl : Tryd.prog.underlying 136 = some (.int .u64)) (by kernel_rfl) (by kernel_rfl) h2
  unfold Lib.TabIs World.var? at h3
  rw [hg] at h3
  simp only [Option.bind_some] at h3
  cases hx : W.heap[0]? with
  | none => rw [hx] at h3; cases h3
  | some o =>
    rw [hx] at h3
    cases o with
    | cells cs el fz =>
      obtain rfl := Option.some.inj h3
      refine ⟨?_, el, fz, rfl⟩
      exact (Array.getElem?_eq_some_iff.1 hx).1
    | _ => cases h3
theorem shaped (os : Os) (args : Array Value) : ((World.laidAll Tryd.prog os laidL).forCall (fun _ _ => 0) ⟨#[], args, []⟩).Shaped Tryd.prog :=
  World.shaped_of_ZipB (by kernel_rfl) (by kernel_rfl)
theorem met (os : Os) (args : Array Value) : laidMetH Tryd.prog laidL ((World.laidAll Tryd.prog os laidL).forCall (fun _ _ => 0) ⟨#[], args, []⟩).memory := by
  rw [MakeChecks.laidMetH_plain _ _ _ (by kernel_rfl)]
  exact laidMet_laidAll _ (by kernel_rfl) (by kernel_rfl)
theorem row_witness {H : Type} {enc : TypeId × Value → H} {C : Checked} {os : Os} {f : FuncId} {fn : Func} {s : OpenSpec} {conds : List PathCond} {apart : Bool} {laid : List (String × DataW Unit)} (w0 : World) (args : Array Value) (hos : w0.os = os)
    (hsh : (w0.forCall (fun _ _ => 0) ⟨#[], args, []⟩).Shaped C.prog)
    (hok : Input.okWideB C.prog (w0.forCall (fun _ _ => 0) ⟨#[], args, []⟩) f ⟨#[], args, []⟩ = true)
    (hrow : s.preRow enc C.prog fn conds apart laid (w0.forCall (fun _ _ => 0) ⟨#[], args, []⟩).memory args) :
    ∃ (w : World) (tape : Tape) (i : Input), w.os = os ∧ (w.forCall tape i).Shaped C.prog ∧ i.vars = [] ∧ Input.okWide C.prog (w.forCall tape i) .any w.heap.size f i ∧
      s.preRow enc C.prog fn conds apart laid (w.forCall tape i).memory i.args ∧ ({} : Assume).holds C.prog (lone (Frame.enter C.prog f i.args .normal) [] (w.forCall tape i)) := by
  obtain ⟨h1, h2⟩ := Input.okWide_of_okWideB (base := w0.heap.size) hok
  refine ⟨w0, fun _ _ => 0, ⟨#[], args, []⟩, hos, hsh, h1, h2, hrow, ?_⟩
  simp [Assume.holds]
end Go.Proofs.YtgjipdebbflbpaaDoor

