/-
  PROVED: whatever the input, ReaderDeep returns true, and its input reads as it did (the tied card).
  Conditions: none beyond the given row's own: the listed variables of Go's library read as listed when the call begins; the card ties that to the program's text.
-/
import Derived.Test.YtjbjpooafphpnaaGreatDoorZ
import Derived.Test.YtjbjpooafphpnaaGreatDoorBa
import Derived.Test.YtjbjpooafphpnaaGreatDoorM4
set_option linter.unusedSimpArgs false
set_option linter.unusedVariables false
namespace Go.Proofs.YtjbjpooafphpnaaGreatDoor.readerDeep
open Go Go.ChangeShapes Go.WideShapes Go.ChangeAt Go.RowKit Go.Eng Go.Eng.Sy
set_option maxRecDepth 100000 in
theorem agV (bD:Type) (enc:TypeId × Value→bD) (W:World) (base:Nat) (args:Array Value) (bG vb:List (DataW bD)) (EU:List MemPlace)
  (oM:∀ (j:Nat) t v,Tryz.f4.params[j]? = some t→args[j]? = some v→Value.okWide Tryz.prog W .any base t v)
  (AZ:DataW.Whole enc Tryz.prog Tryz.f4.params.toList Rows.readerDeepSpec.vars false W args.toList bG vb EU) (bg:laidMetH Tryz.prog tl W) :
  Calls Tryz.prog 4 args W fun e r4=>∃ v,e = .returned v∧Rows.readerDeepSpec.post enc Tryz.prog Tryz.f4 false true false false W args v r4:=by
 have aiF:=AZ;obtain ⟨p,q,Rw,s7,rfl,Dg,fU⟩:=AZ;have dW:DataW.TrodAll enc Tryz.prog W 0 (fun _=>true) true Tryz.f4.params.toList args.toList bG p:=Rw;rw [Tryz.params4] at dW oM;obtain ⟨v0,atS,d0,arQ,eP,eM,ct,rfl,rfl,h0,Ee⟩:=trodAll_cons dW;obtain ⟨iT,atT,d1,arR,bA,cd,rfl,rfl,rfl,A,cn⟩:=trodAll_cons Ee;obtain ⟨rfl,rfl,rfl⟩:=trodAll_nil cn;obtain rfl:args = #[v0,iT]:=by cases args;simp_all
 obtain ⟨rfl,rfl⟩:=trodVars_none s7;obtain ⟨a0,rfl,rfl,rfl,eF⟩:=open_int (by kernel_rfl:Tryz.prog.underlying 3=some (.int .i64)) (oM 0 3 v0 rfl rfl) h0;obtain ⟨dP,rfl,rfl,rfl,er⟩:=open_int (by kernel_rfl:Tryz.prog.underlying 3=some (.int .i64)) (oM 1 3 iT rfl rfl) A;have aj:=agB (P:=Tryz.prog) (f:=4) (W:=W) (args:=[.int .i64 a0,.int .i64 dP]) (slots:=[]) (absArgs:=[.int .i64 a0,.int .i64 dP]) (aib bg) ?_ (.cons _ _ _ _ (.same _ rfl) (.cons _ _ _ _ (.same _ rfl) (.nil))) ?_
 ·refine aj.mono fun e arz ⟨aK,dS⟩=>⟨_,aK,?_⟩;refine aos lay (by kernel_rfl) (by kernel_rfl:Tryz.prog.underlying 4=some .bool) ?_ rfl aiF rfl rfl rfl dS;intro t H;rw [Tryz.params4] at H;have hr:[3,3].all (fun t=>Tryz.prog.readableRec t && decide (t < Tryz.prog.types.size))=true:=by kernel_rfl
  have:=List.all_eq_true.1 hr t (by simpa using H);simpa using this
 ·intro s ak;cases ak
 ·exact hW (ari eF) (ari er) _ (fun _=>rfl)
set_option maxRecDepth 100000 in
theorem lifted (os:Os) (Vb:os.Started) (bD:Type) (enc:TypeId × Value→bD) :
  ReturnsInHanded {} Tryz.checked os 4 .any (fun w args=>(Rows.readerDeepSpec.pre enc Tryz.prog Tryz.f4 Rows.readerDeepRow.domain false w args∧laidMetH Tryz.prog tl w)∧sizedMet enc Tryz.prog Tryz.f4 (OpenSpec.ofChange Rows.readerDeepSpec) false w args)
   (Rows.readerDeepSpec.post enc Tryz.prog Tryz.f4 false true false false):=by
 refine returnsInHanded_of_change_and (C:=Tryz.checked) (X:=fun w _=>laidMetH Tryz.prog tl w) (fun _ _ _ cp h=>h.of_heap cp) own Vb (by kernel_rfl) Tryz.func4
  (ChangeSpec.witness_shaped (enc:=enc) (C:=Tryz.checked) (os:=os) (X:=fun w _=>laidMetH Tryz.prog tl w) false (World.laidAll Tryz.prog os tl) #[.int .i64 0,.int .i64 0] 8 (World.laidAll_os _ _ _)
   (shaped os _) (by kernel_rfl) (by kernel_rfl) (by kernel_rfl) (met os _)) ?_
 intro W base args bG vb EU oM AZ _ iD bg _;exact agV bD enc W base args bG vb EU oM AZ bg
theorem holds:Rows.ReaderDeepSaid :=
 OpenClaim.holds_of_wide 4 Tryz.f4 rfl rfl rfl rfl rfl rfl rfl ⟨rfl,rfl,rfl,rfl,rfl⟩ rfl rfl rfl rfl rfl (by kernel_rfl) Tryz.func4 (by kernel_rfl)
  (of_decide_eq_true (by kernel_rfl)) (by unfold Func.isWrapper;first | (rw [if_pos (by decide +kernel)];kernel_rfl) | (rw [if_neg (by decide +kernel)];exact ⟨rfl,rfl⟩))
  (fun os Vb bD enc _=>lifted os Vb bD enc)
theorem proved:Rows.ReaderDeepCardSaid :=
 Claim7.holds_tied_plain_at .later [] [.data, .data, .data, .data, .sentinel, .sentinel, .pinned, .pinned] true (true, "fe2cb4dd79a6f0cad60a21e643f6e3f04cbead4094c8084f6241348c96747ef4") true
  holds (fun _ h=>by cases h) (by kernel_rfl) (fun _ h=>by cases h) readerDeep_row_tie rfl ⟨rfl,rfl⟩ (by kernel_rfl) rfl
  (fun f fn aZ mj=>by
   obtain rfl : f = 4 := Option.some.inj ((show Tryz.prog.funcNamed "headstock/headstocklaw07.ReaderDeep" = some 4 by kernel_rfl).symm.trans aZ) |>.symm;obtain rfl:fn=Tryz.f4:=(Option.some.inj (Tryz.func4.symm.trans mj)).symm;exact ⟨by kernel_rfl,fun j t H=>by
    rw [Tryz.params4] at H;have hm:t ∈ [3,3]:=by simpa using Array.mem_of_getElem? H
    have gs:([3,3].all fun u=>!Tryz.prog.wantsStandIn u)=true:=by kernel_rfl
    exact (show Tryz.prog.wantsStandIn t=false by simpa using List.all_eq_true.1 gs t hm)⟩)
  (by kernel_rfl)
end Go.Proofs.YtjbjpooafphpnaaGreatDoor.readerDeep
