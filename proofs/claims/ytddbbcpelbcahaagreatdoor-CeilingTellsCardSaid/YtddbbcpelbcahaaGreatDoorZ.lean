/-
  Part of a proof of the laws of layer 09 (ceiling): the laws.
  Conditions: none.
-/
import Derived.Test.YtddbbcpelbcahaaGreatDoorRows
import Derived.Test.YtddbbcpelbcahaaGreatDoorTie
import Derived.Test.YtddbbcpelbcahaaGreatDoorCards
import Derived.LaidLaws
import Derived.LaidSub
import Derived.LaidMore
import Derived.Lay
import Derived.SevenTiedAt
import Derived.Stop.Joined
import Derived.Lib.LaidTab
import Derived.Deep.DeepHandedRow
import Derived.JoinedCond
import Derived.ChangeMaps5
import Derived.Test.YtddbbcpelbcahaaGreatDoorEc
set_option linter.unusedSimpArgs false
set_option linter.unusedVariables false
namespace Go.Proofs.YtddbbcpelbcahaaGreatDoor
open Go Go.ChangeShapes Go.WideShapes Go.ChangeAt Go.RowKit Go.Eng
theorem own:ownKnob Tryz.prog.godebug=none:=by kernel_rfl
theorem lay:laidOutB Tryz.prog=true:=by kernel_rfl
noncomputable def zd8:List (String × DataW Unit):=Rows.ceilingTellsRow.laid
theorem glob_of {W:World}(hL:laidMetH Tryz.prog zd8 W):Yr W.heap.size W:=⟨fun b hb=>by simp [zn1] at hb,fun t ht=>by simp [yk8] at ht⟩
theorem shaped (os:Os) (args:Array Value):((World.laidAll Tryz.prog os zd8).forCall (fun _ _=>0) ⟨#[],args,[]⟩).Shaped Tryz.prog :=
 World.shaped_of_ZipB (by kernel_rfl) (by kernel_rfl)
theorem met (os:Os) (args:Array Value):laidMetH Tryz.prog zd8 ((World.laidAll Tryz.prog os zd8).forCall (fun _ _=>0) ⟨#[],args,[]⟩).memory:=by
 rw [MakeChecks.laidMetH_plain _ _ _ (by kernel_rfl)];exact laidMet_laidAll _ (by kernel_rfl) (by kernel_rfl)
end Go.Proofs.YtddbbcpelbcahaaGreatDoor
