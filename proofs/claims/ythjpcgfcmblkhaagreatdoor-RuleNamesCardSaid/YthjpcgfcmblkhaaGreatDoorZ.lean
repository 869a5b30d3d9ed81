/-
  Part of a proof of the laws of layer 08 (rule): the laws.
  Conditions: none.
-/
import Derived.Test.YthjpcgfcmblkhaaGreatDoorRows
import Derived.Test.YthjpcgfcmblkhaaGreatDoorTie
import Derived.Test.YthjpcgfcmblkhaaGreatDoorCards
import Derived.LaidLaws
import Derived.LaidSub
import Derived.LaidMore
import Derived.Lay
import Derived.SevenTiedAt
import Derived.Stop.Joined
import Derived.Lib.LaidTab
import Derived.Deep.DeepHandedRow
import Derived.JoinedCond
import Derived.ChangeMaps5
import Derived.Test.YthjpcgfcmblkhaaGreatDoorEc
set_option linter.unusedSimpArgs false
set_option linter.unusedVariables false
namespace Go.Proofs.YthjpcgfcmblkhaaGreatDoor
open Go Go.ChangeShapes Go.WideShapes Go.ChangeAt Go.RowKit Go.Eng
theorem own:ownKnob Tryz.prog.godebug=none:=by kernel_rfl
theorem lay:laidOutB Tryz.prog=true:=by kernel_rfl
noncomputable def laidL:List (String × DataW Unit):=Rows.ruleMadeRow.laid
theorem glob_of {W:World} (hL:laidMetH Tryz.prog laidL W):globOk W.heap.size W:=⟨fun b hb=>by simp [ifaceVars] at hb,fun t ht=>by simp [tabVars] at ht⟩
theorem shaped (os:Os) (args:Array Value):((World.laidAll Tryz.prog os laidL).forCall (fun _ _=>0) ⟨#[],args,[]⟩).Shaped Tryz.prog :=
 World.shaped_of_ZipB (by kernel_rfl) (by kernel_rfl)
theorem met (os:Os) (args:Array Value):laidMetH Tryz.prog laidL ((World.laidAll Tryz.prog os laidL).forCall (fun _ _=>0) ⟨#[],args,[]⟩).memory:=by
 rw [MakeChecks.laidMetH_plain _ _ _ (by kernel_rfl)]
 exact laidMet_laidAll _ (by kernel_rfl) (by kernel_rfl)
end Go.Proofs.YthjpcgfcmblkhaaGreatDoor
