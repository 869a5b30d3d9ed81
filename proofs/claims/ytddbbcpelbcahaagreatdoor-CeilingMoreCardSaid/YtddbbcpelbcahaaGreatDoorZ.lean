/-
  Part of a proof of the laws of layer 09 (ceiling): the laws.
  Conditions: none.
-/
import Derived.Test.YtddbbcpelbcahaaGreatDoorRows
import Derived.Test.YtddbbcpelbcahaaGreatDoorTie
import Derived.Test.YtddbbcpelbcahaaGreatDoorCards
import Derived.LaidLaws
import Derived.LaidSub
import Derived.LaidMore
import Derived.Lay
import Derived.SevenTiedAt
import Derived.Stop.Joined
import Derived.Lib.LaidTab
import Derived.Deep.DeepHandedRow
import Derived.JoinedCond
import Derived.ChangeMaps5
import Derived.Test.YtddbbcpelbcahaaGreatDoorEc
set_option linter.unusedSimpArgs false
set_option linter.unusedVariables false
namespace Go.Proofs.YtddbbcpelbcahaaGreatDoor
open Go Go.ChangeShapes Go.WideShapes Go.ChangeAt Go.RowKit Go.Eng
theorem own:ownKnob Tryz.prog.godebug=none:=by kernel_rfl
theorem lay:laidOutB Tryz.prog=true:=by kernel_rfl
noncomputable def jg:List (String × DataW Unit):=Rows.ceilingKeepsRow.laid
theorem Kl {W:World}(hL:laidMetH Tryz.prog jg W):us W.heap.size W:=⟨fun b hb=>by simp [ze6] at hb,fun t ht=>by simp [yq5] at ht⟩
theorem zc5 (os:Os) (args:Array Value):((World.laidAll Tryz.prog os jg).forCall (fun _ _=>0) ⟨#[],args,[]⟩).Shaped Tryz.prog :=
 World.shaped_of_ZipB (by kernel_rfl) (by kernel_rfl)
theorem met (os:Os) (args:Array Value):laidMetH Tryz.prog jg ((World.laidAll Tryz.prog os jg).forCall (fun _ _=>0) ⟨#[],args,[]⟩).memory:=by
 rw [MakeChecks.laidMetH_plain _ _ _ (by kernel_rfl)]
 exact laidMet_laidAll _ (by kernel_rfl) (by kernel_rfl)
end Go.Proofs.YtddbbcpelbcahaaGreatDoor
