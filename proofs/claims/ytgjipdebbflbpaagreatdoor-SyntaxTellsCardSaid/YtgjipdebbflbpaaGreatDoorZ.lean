/-
  Part of a proof of the laws of layer 06 (syntax): the laws.
  Conditions: none.
-/
import Derived.Test.YtgjipdebbflbpaaGreatDoorRows
import Derived.Test.YtgjipdebbflbpaaGreatDoorTie
import Derived.Test.YtgjipdebbflbpaaGreatDoorCards
import Derived.LaidLaws
import Derived.LaidSub
import Derived.LaidMore
import Derived.Lay
import Derived.SevenTiedAt
import Derived.Stop.Joined
import Derived.Lib.LaidTab
import Derived.Deep.DeepHandedRow
import Derived.JoinedCond
import Derived.ChangeMaps5
import Derived.Test.YtgjipdebbflbpaaGreatDoorEc
set_option linter.unusedSimpArgs false
set_option linter.unusedVariables false
namespace Go.Proofs.YtgjipdebbflbpaaGreatDoor
open Go Go.ChangeShapes Go.WideShapes Go.ChangeAt Go.RowKit Go.Eng
theorem own:ownKnob Tryz.prog.godebug=none:=by kernel_rfl
theorem lay:laidOutB Tryz.prog=true:=by kernel_rfl
noncomputable def laidL:List (String × DataW Unit):=Rows.syntaxTellsRow.laid
theorem glob_of {W:World}(hL:laidMetH Tryz.prog laidL W):J6 W.heap.size W:=by
 refine ⟨fun b hb=>by simp [Uy] at hb,fun t ht=>?_⟩
 simp only [zb5,List.mem_singleton] at ht
 subst ht
 have h1 := hL.filter (fun x => x.1 == "internal/strconv.uint64pow10")
 have hf : laidL.filter (fun x => x.1 == "internal/strconv.uint64pow10") = [("internal/strconv.uint64pow10", Lib.tabData .u64 Lib.pow10Tab)] := by kernel_rfl
 rw [hf] at h1
 have h2:=(laidMetH_iff.1 h1).1
 have hh : [("internal/strconv.uint64pow10", (Lib.tabData .u64 Lib.pow10Tab : DataW Unit))].filter (fun x => x.2.handleName?.isNone) = [("internal/strconv.uint64pow10", Lib.tabData .u64 Lib.pow10Tab)] := by kernel_rfl
 rw [hh] at h2
 have hg : Tryz.prog.globalNamed "internal/strconv.uint64pow10" = some 0 := by kernel_rfl
 have h3:=Lib.tabIs_of_head (n:=20) hg (by kernel_rfl:(Tryz.prog.globals[0]?).map (·.type)=some 193) (by kernel_rfl:Tryz.prog.underlying 193=some (.array 20 163)) (by kernel_rfl:Tryz.prog.underlying 163=some (.int .u64)) (by kernel_rfl) (by kernel_rfl) h2
 unfold Lib.TabIs World.var? at h3
 rw [hg] at h3
 simp only [Option.bind_some] at h3
 cases hx:W.heap[0]? with
 | none=>rw [hx] at h3;cases h3
 | some o =>
  rw [hx] at h3
  cases o with
  | cells cs el fz =>
   obtain rfl:=Option.some.inj h3
   refine ⟨?_,el,fz,rfl⟩
   exact (Array.getElem?_eq_some_iff.1 hx).1
  | _=>cases h3
theorem shaped (os:Os) (args:Array Value):((World.laidAll Tryz.prog os laidL).forCall (fun _ _=>0) ⟨#[],args,[]⟩).Shaped Tryz.prog :=
 World.shaped_of_ZipB (by kernel_rfl) (by kernel_rfl)
theorem met (os:Os) (args:Array Value):laidMetH Tryz.prog laidL ((World.laidAll Tryz.prog os laidL).forCall (fun _ _=>0) ⟨#[],args,[]⟩).memory:=by
 rw [MakeChecks.laidMetH_plain _ _ _ (by kernel_rfl)]
 exact laidMet_laidAll _ (by kernel_rfl) (by kernel_rfl)
end Go.Proofs.YtgjipdebbflbpaaGreatDoor
