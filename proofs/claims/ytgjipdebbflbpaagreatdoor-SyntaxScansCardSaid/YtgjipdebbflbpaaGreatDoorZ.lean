/-
  Part of a proof of the laws of layer 06 (syntax): the laws.
  Conditions: none.
-/
import Derived.Test.YtgjipdebbflbpaaGreatDoorRows
import Derived.Test.YtgjipdebbflbpaaGreatDoorTie
import Derived.Test.YtgjipdebbflbpaaGreatDoorCards
import Derived.LaidLaws
import Derived.LaidSub
import Derived.LaidMore
import Derived.Lay
import Derived.SevenTiedAt
import Derived.Stop.Joined
import Derived.Lib.LaidTab
import Derived.Deep.DeepHandedRow
import Derived.JoinedCond
import Derived.ChangeMaps5
import Derived.Test.YtgjipdebbflbpaaGreatDoorEc
set_option linter.unusedSimpArgs false
set_option linter.unusedVariables false
namespace Go.Proofs.YtgjipdebbflbpaaGreatDoor
open Go Go.ChangeShapes Go.WideShapes Go.ChangeAt Go.RowKit Go.Eng
theorem own:ownKnob Tryz.prog.godebug=none:=by kernel_rfl
theorem lay:laidOutB Tryz.prog=true:=by kernel_rfl
noncomputable def laidL:List (String × DataW Unit):=Rows.syntaxScansRow.laid
theorem Ua {W:World}{n nm:String}{d:DataW Unit}{g:Nat}{ti:TypeId}{ms:Array (String × TypeId)}(hL:laidMetH Tryz.prog laidL W) (hf:laidL.filter (fun x=>x.1 == n)=[(n,.iface nm d)]) (hh:[(n,DataW.iface nm d)].filter (fun x=>x.2.handleName?.isNone)=[(n,.iface nm d)])
  (hg:Tryz.prog.globalNamed n=some g) (ht:(Tryz.prog.globals[g]?).map (·.type)=some ti) (hi:Tryz.prog.underlying ti=some (.interface ms)):g < W.heap.size ∧ ∃ te pe,W.cell? ⟨g,0,none⟩=some (.iface te pe):=by
 have h1:=hL.filter (fun x=>x.1 == n)
 rw [hf] at h1
 have h2:=(laidMetH_iff.1 h1).1
 rw [hh] at h2
 obtain ⟨ps,⟨g0,t0,cs0,f0,p0,q0,hg0,ht0,hv0,hd0,_,e0⟩,_,hrows⟩:=h2
 obtain rfl:=Option.some.inj (hg.symm.trans hg0)
 obtain rfl:=Option.some.inj (ht.symm.trans ht0)
 obtain ⟨_,u,v,hcs,_⟩:=iface_of_trod hi hd0
 have hc:W.cell? ⟨g,0,none⟩=some (.iface u v):=by
  rw [World.var?_cell hg0 hv0 0]
  have:cs0[0]? = cs0.toList[0]?:=by simp
  rw [this,hcs];rfl
 exact ⟨Lib.lt_of_cell hc,u,v,hc⟩
theorem glob_of {W:World}(hL:laidMetH Tryz.prog laidL W):Jn W.heap.size W:=by
 refine ⟨fun b hb=>?_,fun t ht=>?_⟩
 ·simp only [Zt,List.mem_cons,List.not_mem_nil,or_false] at hb
  rcases hb with rfl | rfl
  · exact Ua (n := "strconv.ErrSyntax") (nm := "*errors.errorString") (d := .ptr (.agg [.lit (.string [105, 110, 118, 97, 108, 105, 100, 32, 115, 121, 110, 116, 97, 120])])) hL (by kernel_rfl) (by kernel_rfl) (by kernel_rfl) (by kernel_rfl) Tryz.underlying114
  · exact Ua (n := "strconv.ErrRange") (nm := "*errors.errorString") (d := .ptr (.agg [.lit (.string [118, 97, 108, 117, 101, 32, 111, 117, 116, 32, 111, 102, 32, 114, 97, 110, 103, 101])])) hL (by kernel_rfl) (by kernel_rfl) (by kernel_rfl) (by kernel_rfl) Tryz.underlying114
 simp only [za1,List.mem_singleton] at ht
 subst ht
 have h1 := hL.filter (fun x => x.1 == "internal/strconv.uint64pow10")
 have hf : laidL.filter (fun x => x.1 == "internal/strconv.uint64pow10") = [("internal/strconv.uint64pow10", Lib.tabData .u64 Lib.pow10Tab)] := by kernel_rfl
 rw [hf] at h1
 have h2:=(laidMetH_iff.1 h1).1
 have hh : [("internal/strconv.uint64pow10", (Lib.tabData .u64 Lib.pow10Tab : DataW Unit))].filter (fun x => x.2.handleName?.isNone) = [("internal/strconv.uint64pow10", Lib.tabData .u64 Lib.pow10Tab)] := by kernel_rfl
 rw [hh] at h2
 have hg : Tryz.prog.globalNamed "internal/strconv.uint64pow10" = some 0 := by kernel_rfl
 have h3:=Lib.tabIs_of_head (n:=20) hg (by kernel_rfl:(Tryz.prog.globals[0]?).map (·.type)=some 193) (by kernel_rfl:Tryz.prog.underlying 193=some (.array 20 163)) (by kernel_rfl:Tryz.prog.underlying 163=some (.int .u64)) (by kernel_rfl) (by kernel_rfl) h2
 unfold Lib.TabIs World.var? at h3
 rw [hg] at h3
 simp only [Option.bind_some] at h3
 cases hx:W.heap[0]? with
 | none=>rw [hx] at h3;cases h3
 | some o =>
  rw [hx] at h3
  cases o with
  | cells cs el fz =>
   obtain rfl:=Option.some.inj h3
   refine ⟨?_,el,fz,rfl⟩
   exact (Array.getElem?_eq_some_iff.1 hx).1
  | _=>cases h3
theorem shaped (os:Os) (args:Array Value):((World.laidAll Tryz.prog os laidL).forCall (fun _ _=>0) ⟨#[],args,[]⟩).Shaped Tryz.prog :=
 World.shaped_of_ZipB (by kernel_rfl) (by kernel_rfl)
theorem met (os:Os) (args:Array Value):laidMetH Tryz.prog laidL ((World.laidAll Tryz.prog os laidL).forCall (fun _ _=>0) ⟨#[],args,[]⟩).memory:=by
 rw [MakeChecks.laidMetH_plain _ _ _ (by kernel_rfl)]
 exact laidMet_laidAll _ (by kernel_rfl) (by kernel_rfl)
end Go.Proofs.YtgjipdebbflbpaaGreatDoor
