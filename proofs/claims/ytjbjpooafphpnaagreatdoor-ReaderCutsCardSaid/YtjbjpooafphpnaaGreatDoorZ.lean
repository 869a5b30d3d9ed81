/-
  Part of a proof of the laws of layer 07 (reader): the laws.
  Conditions: none.
-/
import Derived.Test.YtjbjpooafphpnaaGreatDoorRows
import Derived.Test.YtjbjpooafphpnaaGreatDoorTie
import Derived.Test.YtjbjpooafphpnaaGreatDoorCards
import Derived.LaidLaws
import Derived.LaidSub
import Derived.LaidMore
import Derived.Lay
import Derived.SevenTiedAt
import Derived.Stop.Joined
import Derived.Lib.LaidTab
import Derived.Deep.DeepHandedRow
import Derived.JoinedCond
import Derived.ChangeMaps5
import Derived.Test.YtjbjpooafphpnaaGreatDoorEc
set_option linter.unusedSimpArgs false
set_option linter.unusedVariables false
namespace Go.Proofs.YtjbjpooafphpnaaGreatDoor
open Go Go.ChangeShapes Go.WideShapes Go.ChangeAt Go.RowKit Go.Eng
theorem own:ownKnob Tryz.prog.godebug=none:=by kernel_rfl
theorem lay:laidOutB Tryz.prog=true:=by kernel_rfl
noncomputable def tl:List (String × DataW Unit):=Rows.readerBackRow.laid
theorem aa6{W:World}{n nm:String}{d:DataW Unit}{g:Nat}{ae3:TypeId}{lA:Array (String × TypeId)}(bg:laidMetH Tryz.prog tl W)(aZ:tl.filter (fun x=>x.1==n)=[(n,.iface nm d)])(cp:[(n,DataW.iface nm d)].filter (fun x=>x.2.handleName?.isNone)=[(n,.iface nm d)])
  (aA:Tryz.prog.globalNamed n=some g) (aC:(Tryz.prog.globals[g]?).map (·.type)=some ae3) (au:Tryz.prog.underlying ae3=some (.interface lA)):g<W.heap.size∧∃ xL xC,W.cell? ⟨g,0,none⟩=some (.iface xL xC):=by
 have A:=bg.filter (fun x=>x.1==n);rw[aZ]at A;have S:=(laidMetH_iff.1 A).1;rw[cp]at S;obtain⟨fH,⟨g0,t0,Kj,f0,eP,cR,K7,Lq,ak6,k6,_,eI⟩,_,asP⟩:=S;obtain rfl:=Option.some.inj (aA.symm.trans K7);obtain rfl:=Option.some.inj (aC.symm.trans Lq);obtain⟨_,u,v,hA,_⟩:=iface_of_trod au k6;have aj:W.cell? ⟨g,0,none⟩=some (.iface u v):=by
  rw[World.var?_cell K7 ak6 0];have:Kj[0]?=Kj.toList[0]?:=by simp
  rw[this,hA];rfl
 exact⟨Lib.lt_of_cell aj,u,v,aj⟩
theorem aib{W:World}(bg:laidMetH Tryz.prog tl W):tS W.heap.size W:=by
 refine⟨fun b T=>?_,fun t aC=>?_⟩
 ·simp only[LK,List.mem_cons,List.not_mem_nil,or_false]at T;rcases T with rfl|rfl
  · exact aa6 (n := "strconv.ErrSyntax") (nm := "*errors.errorString") (d := .ptr (.agg [.lit (.string [105, 110, 118, 97, 108, 105, 100, 32, 115, 121, 110, 116, 97, 120])])) bg (by kernel_rfl) (by kernel_rfl) (by kernel_rfl) (by kernel_rfl) Tryz.underlying136
  · exact aa6 (n := "strconv.ErrRange") (nm := "*errors.errorString") (d := .ptr (.agg [.lit (.string [118, 97, 108, 117, 101, 32, 111, 117, 116, 32, 111, 102, 32, 114, 97, 110, 103, 101])])) bg (by kernel_rfl) (by kernel_rfl) (by kernel_rfl) (by kernel_rfl) Tryz.underlying136
 simp only [Vj,List.mem_singleton] at aC;subst aC;have A := bg.filter (fun x => x.1 == "internal/strconv.uint64pow10");have aZ : tl.filter (fun x => x.1 == "internal/strconv.uint64pow10") = [("internal/strconv.uint64pow10", Lib.tabData .u64 Lib.pow10Tab)] := by kernel_rfl
 rw [aZ] at A;have S:=(laidMetH_iff.1 A).1;have cp : [("internal/strconv.uint64pow10", (Lib.tabData .u64 Lib.pow10Tab : DataW Unit))].filter (fun x => x.2.handleName?.isNone) = [("internal/strconv.uint64pow10", Lib.tabData .u64 Lib.pow10Tab)] := by kernel_rfl
 rw [cp] at S;have aA : Tryz.prog.globalNamed "internal/strconv.uint64pow10" = some 0 := by kernel_rfl
 have ae:=Lib.tabIs_of_head (n:=20) aA (by kernel_rfl:(Tryz.prog.globals[0]?).map (·.type)=some 209) (by kernel_rfl:Tryz.prog.underlying 209=some (.array 20 181)) (by kernel_rfl:Tryz.prog.underlying 181=some (.int .u64)) (by kernel_rfl) (by kernel_rfl) S;unfold Lib.TabIs World.var? at ae;rw[aA]at ae;simp only[Option.bind_some]at ae;cases af:W.heap[0]? with
 |none=>rw[af]at ae;cases ae
 |some o =>
  rw[af]at ae;cases o with
  |cells cs el fz =>
   obtain rfl:=Option.some.inj ae;refine⟨?_,el,fz,rfl⟩;exact(Array.getElem?_eq_some_iff.1 af).1
  |_=>cases ae
theorem shaped(os:Os)(args:Array Value):((World.laidAll Tryz.prog os tl).forCall (fun _ _=>0) ⟨#[],args,[]⟩).Shaped Tryz.prog :=
 World.shaped_of_ZipB (by kernel_rfl) (by kernel_rfl)
theorem met(os:Os)(args:Array Value):laidMetH Tryz.prog tl ((World.laidAll Tryz.prog os tl).forCall (fun _ _=>0) ⟨#[],args,[]⟩).memory:=by
 rw[MakeChecks.laidMetH_plain _ _ _ (by kernel_rfl)];exact laidMet_laidAll _ (by kernel_rfl) (by kernel_rfl)
end Go.Proofs.YtjbjpooafphpnaaGreatDoor
