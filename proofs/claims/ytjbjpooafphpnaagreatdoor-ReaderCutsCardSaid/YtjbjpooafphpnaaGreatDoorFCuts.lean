/-
  PROVED: whatever the input, ReaderCuts returns true, and its input reads as it did (the tied card).
  Conditions: none beyond the given row's own: the listed variables of Go's library read as listed when the call begins; the card ties that to the program's text.
-/
import Derived.Test.YtjbjpooafphpnaaGreatDoorZ
import Derived.Test.YtjbjpooafphpnaaGreatDoorBa
import Derived.Test.YtjbjpooafphpnaaGreatDoorM5
set_option linter.unusedSimpArgs false
set_option linter.unusedVariables false
namespace Go.Proofs.YtjbjpooafphpnaaGreatDoor.readerCuts
open Go Go.ChangeShapes Go.WideShapes Go.ChangeAt Go.RowKit Go.Eng Go.Eng.Sy
theorem one:M5 Tryz.prog 3 1:=afv (by kernel_rfl)
set_option maxRecDepth 100000 in
theorem agV(H:Type)(enc:TypeId × Value→H)(W:World)(base:Nat)(args:Array Value)(bG vb:List (DataW H))(EU:List MemPlace)
  (oM:∀(j:Nat) t v,Tryz.f5.params[j]?=some t→args[j]?=some v→Value.okWide Tryz.prog W .any base t v)
  (AZ:DataW.Whole enc Tryz.prog Tryz.f5.params.toList Rows.readerCutsSpec.vars false W args.toList bG vb EU) (bg:laidMetH Tryz.prog tl W) :
  Calls Tryz.prog 5 args W fun e r4=>∃ v,e=.returned v∧Rows.readerCutsSpec.post enc Tryz.prog Tryz.f5 false true false false W args v r4:=by
 have aiF:=AZ;obtain⟨p,q,Rw,s7,rfl,Dg,fU⟩:=AZ;have dW:DataW.TrodAll enc Tryz.prog W 0 (fun _=>true) true Tryz.f5.params.toList args.toList bG p:=Rw;rw[Tryz.params5]at dW oM;obtain⟨v0,atS,d0,arQ,eP,cR,ct,rfl,rfl,h0,Ee⟩:=trodAll_cons dW;obtain⟨iT,atT,d1,arR,bA,cd,rfl,rfl,rfl,A,cn⟩:=trodAll_cons Ee;obtain⟨rfl,rfl,rfl⟩:=trodAll_nil cn;obtain rfl:args=#[v0,iT]:=by cases args;simp_all
 obtain⟨rfl,rfl⟩:=trodVars_none s7;obtain⟨n0,dD,alq,sK,vl,Z0,j9,ajx,lu,mG,ak8⟩:=aqe (c:=1) (by kernel_rfl:Tryz.prog.underlying 22=some (.slice 3)) (by kernel_rfl) (by decide) one (oM 0 22 v0 rfl rfl) h0;obtain⟨dP,rfl,rfl,rfl,er⟩:=open_int (by kernel_rfl:Tryz.prog.underlying 3=some (.int .i64)) (oM 1 3 iT rfl rfl) A;have aiB:=akq (slots:=[sK]) (i:=0) rfl vl ajx mG;have aj:=agB (P:=Tryz.prog) (f:=5) (W:=W) (args:=[v0,.int .i64 dP]) (slots:=[sK]) (absArgs:=[IS 0 n0 1 alq,.int .i64 dP]) (aib bg) ?_ (.cons _ _ _ _ (ak8 _ 0 rfl) (.cons _ _ _ _ (.same _ rfl) (.nil))) ?_
 ·refine aj.mono fun e arz ⟨aK,dS⟩=>⟨_,aK,?_⟩;refine aos lay (by kernel_rfl) (by kernel_rfl:Tryz.prog.underlying 4=some .bool) ?_ rfl aiF rfl rfl rfl dS;intro t aC;rw[Tryz.params5]at aC;have hr:[22,3].all (fun t=>Tryz.prog.readableRec t && decide (t<Tryz.prog.types.size))=true:=by kernel_rfl
  have:=List.all_eq_true.1 hr t (by simpa using aC);simpa using this
 ·intro s ak;simp only[List.mem_cons,List.not_mem_nil,or_false]at ak;rcases ak with rfl
  exact lu
 ·exact alc aiB (fun z bp=>ari (Z0 z bp)) (ari er) _ (fun _=>rfl)
set_option maxRecDepth 100000 in
theorem lifted(os:Os)(Vb:os.Started)(H:Type)(enc:TypeId × Value→H) :
  ReturnsInHanded {} Tryz.checked os 5 .any (fun w args=>(Rows.readerCutsSpec.pre enc Tryz.prog Tryz.f5 Rows.readerCutsRow.domain false w args∧laidMetH Tryz.prog tl w)∧sizedMet enc Tryz.prog Tryz.f5 (OpenSpec.ofChange Rows.readerCutsSpec) false w args)
   (Rows.readerCutsSpec.post enc Tryz.prog Tryz.f5 false true false false):=by
 refine returnsInHanded_of_change_and (C:=Tryz.checked) (X:=fun w _=>laidMetH Tryz.prog tl w) (fun _ _ _ cp h=>h.of_heap cp) own Vb (by kernel_rfl) Tryz.func5
  (ChangeSpec.witness_shaped (enc:=enc) (C:=Tryz.checked) (os:=os) (X:=fun w _=>laidMetH Tryz.prog tl w) false (World.laidAll Tryz.prog os tl) #[.slice none 0 0,.int .i64 0] 8 (World.laidAll_os _ _ _)
   (shaped os _) (by kernel_rfl) (by kernel_rfl) (by kernel_rfl) (met os _)) ?_
 intro W base args bG vb EU oM AZ _ iD bg _;exact agV H enc W base args bG vb EU oM AZ bg
theorem holds:Rows.ReaderCutsSaid :=
 OpenClaim.holds_of_wide 5 Tryz.f5 rfl rfl rfl rfl rfl rfl rfl ⟨rfl,rfl,rfl,rfl,rfl⟩ rfl rfl rfl rfl rfl (by kernel_rfl) Tryz.func5 (by kernel_rfl)
  (of_decide_eq_true (by kernel_rfl)) (by unfold Func.isWrapper;first|(rw[if_pos (by decide +kernel)];kernel_rfl)|(rw[if_neg (by decide +kernel)];exact⟨rfl,rfl⟩))
  (fun os Vb H enc _=>lifted os Vb H enc)
theorem proved:Rows.ReaderCutsCardSaid :=
 Claim7.holds_tied_plain_at .later [] [.data, .data, .data, .data, .sentinel, .sentinel, .pinned, .pinned] true (true, "fe2cb4dd79a6f0cad60a21e643f6e3f04cbead4094c8084f6241348c96747ef4") true
  holds (fun _ h=>by cases h) (by kernel_rfl) (fun _ h=>by cases h) readerCuts_row_tie rfl ⟨rfl,rfl⟩ (by kernel_rfl) rfl
  (fun f fn aZ mj=>by
   obtain rfl : f = 5 := Option.some.inj ((show Tryz.prog.funcNamed "headstock/headstocklaw07.ReaderCuts" = some 5 by kernel_rfl).symm.trans aZ) |>.symm;obtain rfl:fn=Tryz.f5:=(Option.some.inj (Tryz.func5.symm.trans mj)).symm;exact ⟨by kernel_rfl,fun j t aC=>by
    rw[Tryz.params5]at aC;have hm:t∈[22,3]:=by simpa using Array.mem_of_getElem? aC
    have gs:([22,3].all fun u=>!Tryz.prog.wantsStandIn u)=true:=by kernel_rfl
    exact(show Tryz.prog.wantsStandIn t=false by simpa using List.all_eq_true.1 gs t hm)⟩)
  (by kernel_rfl)
end Go.Proofs.YtjbjpooafphpnaaGreatDoor.readerCuts
