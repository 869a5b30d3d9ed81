/-
  PROVED: whatever the input, ReaderForth returns true, and its input reads as it did (the tied card).
  Conditions: none beyond the given row's own: the listed variables of Go's library read as listed when the call begins; the card ties that to the program's text.
-/
import Derived.Test.YtjbjpooafphpnaaGreatDoorZ
import Derived.Test.YtjbjpooafphpnaaGreatDoorBa
import Derived.Test.YtjbjpooafphpnaaGreatDoorM8
set_option linter.unusedSimpArgs false
set_option linter.unusedVariables false
namespace Go.Proofs.YtjbjpooafphpnaaGreatDoor.readerForth
open Go Go.ChangeShapes Go.WideShapes Go.ChangeAt Go.RowKit Go.Eng Go.Eng.Sy
theorem one:M5 Tryz.prog 3 1:=afv (by kernel_rfl)
set_option maxRecDepth 100000 in
theorem agV(H:Type)(enc:TypeId × Value→H)(W:World)(base:Nat)(args:Array Value)(bG vb:List (DataW H))(EU:List MemPlace)
  (oM:∀(j:Nat) t v,Tryz.f8.params[j]?=some t→args[j]?=some v→Value.okWide Tryz.prog W .any base t v)
  (AZ:DataW.Whole enc Tryz.prog Tryz.f8.params.toList Rows.readerForthSpec.vars false W args.toList bG vb EU) (bg:laidMetH Tryz.prog tl W) (iD:(DataW.weightsEach Tryz.prog (Tryz.f8.params.toList++Rows.readerForthSpec.plain.varTypes Tryz.prog) (bG++vb)).all (· ≤ reachBytes)=true) :
  Calls Tryz.prog 8 args W fun e r4=>∃ v,e=.returned v∧Rows.readerForthSpec.post enc Tryz.prog Tryz.f8 false true false false W args v r4:=by
 have aiF:=AZ;obtain⟨p,q,Rw,s7,rfl,Dg,fU⟩:=AZ;have dW:DataW.TrodAll enc Tryz.prog W 0 (fun _=>true) true Tryz.f8.params.toList args.toList bG p:=Rw;rw[Tryz.params8]at dW oM;obtain⟨v0,atS,d0,arQ,eP,cR,ct,rfl,rfl,h0,Ee⟩:=trodAll_cons dW;obtain⟨iT,atT,d1,arR,bA,cd,rfl,rfl,rfl,A,cn⟩:=trodAll_cons Ee;obtain⟨v2,aaJ,d2,ZT,bO,cS,rfl,rfl,rfl,S,bM⟩:=trodAll_cons cn;obtain⟨v3,acA,d3,arS,b5,tu,rfl,rfl,rfl,ae,cE⟩:=trodAll_cons bM;obtain⟨rfl,rfl,rfl⟩:=trodAll_nil cE;obtain rfl:args=#[v0,iT,v2,v3]:=by cases args;simp_all
 obtain⟨rfl,rfl⟩:=trodVars_none s7;obtain⟨a0,rfl,rfl,rfl,eF⟩:=Go.ChangeMaps.open_string (by kernel_rfl:Tryz.prog.underlying 9=some .string) (oM 0 9 v0 rfl rfl) h0;obtain⟨sK,lu⟩:∃ l:aD,a0=⟨l.toArray⟩:=⟨a0.data.toList,by cases a0;rfl⟩;subst lu;obtain⟨hD,l1,SM,bT,bF,sw,h6,RW,jl,fg,RX⟩:=aqe (c:=1) (by kernel_rfl:Tryz.prog.underlying 22=some (.slice 3)) (by kernel_rfl) (by decide) one (oM 1 22 iT rfl rfl) A;obtain⟨a2,rfl,rfl,rfl,dd⟩:=open_int (by kernel_rfl:Tryz.prog.underlying 3=some (.int .i64)) (oM 2 3 v2 rfl rfl) S;obtain⟨a3,rfl,rfl,rfl,sR⟩:=Go.ChangeMaps.open_string (by kernel_rfl:Tryz.prog.underlying 9=some .string) (oM 3 9 v3 rfl rfl) ae;obtain⟨eg,fC⟩:∃ l:aD,a3=⟨l.toArray⟩:=⟨a3.data.toList,by cases a3;rfl⟩;subst fC;rw[Tryz.params8]at iD;have z0:=sized_string (j:=0) (t:=9) iD rfl rfl;have z0:sK.length≤140737488351232:=by simpa[reachBytes] using z0
 have z3:=sized_string (j:=3) (t:=9) iD rfl rfl;have z3:eg.length≤140737488351232:=by simpa[reachBytes] using z3
 have Pg:=akq (slots:=[bT]) (i:=0) rfl bF RW fg;have aj:=agB (P:=Tryz.prog) (f:=8) (W:=W) (args:=[.string ⟨sK.toArray⟩,iT,.int .i64 a2,.string ⟨eg.toArray⟩]) (slots:=[bT]) (absArgs:=[.string ⟨sK.toArray⟩,IS 0 hD 1 SM,.int .i64 a2,.string ⟨eg.toArray⟩]) (aib bg) ?_ (.cons _ _ _ _ (.same _ rfl) (.cons _ _ _ _ (RX _ 0 rfl) (.cons _ _ _ _ (.same _ rfl) (.cons _ _ _ _ (.same _ rfl) (.nil))))) ?_
 ·refine aj.mono fun e arz ⟨aK,dS⟩=>⟨_,aK,?_⟩;refine aos lay (by kernel_rfl) (by kernel_rfl:Tryz.prog.underlying 4=some .bool) ?_ rfl aiF rfl rfl rfl dS;intro t aC;rw[Tryz.params8]at aC;have hr:[9,22,3,9].all (fun t=>Tryz.prog.readableRec t && decide (t<Tryz.prog.types.size))=true:=by kernel_rfl
  have:=List.all_eq_true.1 hr t (by simpa using aC);simpa using this
 ·intro s ak;simp only[List.mem_cons,List.not_mem_nil,or_false]at ak;rcases ak with rfl
  exact jl
 ·exact Pe z0 z3 Pg (fun z bp=>ari (sw z bp)) (ari dd) _ (fun _=>rfl)
set_option maxRecDepth 100000 in
theorem lifted(os:Os)(Vb:os.Started)(H:Type)(enc:TypeId × Value→H) :
  ReturnsInHanded {} Tryz.checked os 8 .any (fun w args=>(Rows.readerForthSpec.pre enc Tryz.prog Tryz.f8 Rows.readerForthRow.domain false w args∧laidMetH Tryz.prog tl w)∧sizedMet enc Tryz.prog Tryz.f8 (OpenSpec.ofChange Rows.readerForthSpec) false w args)
   (Rows.readerForthSpec.post enc Tryz.prog Tryz.f8 false true false false):=by
 refine returnsInHanded_of_change_and (C:=Tryz.checked) (X:=fun w _=>laidMetH Tryz.prog tl w) (fun _ _ _ cp h=>h.of_heap cp) own Vb (by kernel_rfl) Tryz.func8
  (ChangeSpec.witness_shaped (enc:=enc) (C:=Tryz.checked) (os:=os) (X:=fun w _=>laidMetH Tryz.prog tl w) false (World.laidAll Tryz.prog os tl) #[.string ⟨#[]⟩,.slice none 0 0,.int .i64 0,.string ⟨#[]⟩] 8 (World.laidAll_os _ _ _)
   (shaped os _) (by kernel_rfl) (by kernel_rfl) (by kernel_rfl) (met os _)) ?_
 intro W base args bG vb EU oM AZ _ iD bg _;exact agV H enc W base args bG vb EU oM AZ bg iD
theorem holds:Rows.ReaderForthSaid :=
 OpenClaim.holds_of_wide 8 Tryz.f8 rfl rfl rfl rfl rfl rfl rfl ⟨rfl,rfl,rfl,rfl,rfl⟩ rfl rfl rfl rfl rfl (by kernel_rfl) Tryz.func8 (by kernel_rfl)
  (of_decide_eq_true (by kernel_rfl)) (by unfold Func.isWrapper;first|(rw[if_pos (by decide +kernel)];kernel_rfl)|(rw[if_neg (by decide +kernel)];exact⟨rfl,rfl⟩))
  (fun os Vb H enc _=>lifted os Vb H enc)
theorem proved:Rows.ReaderForthCardSaid :=
 Claim7.holds_tied_plain_at .later [] [.data, .data, .data, .data, .sentinel, .sentinel, .pinned, .pinned] true (true, "fe2cb4dd79a6f0cad60a21e643f6e3f04cbead4094c8084f6241348c96747ef4") true
  holds (fun _ h=>by cases h) (by kernel_rfl) (fun _ h=>by cases h) readerForth_row_tie rfl ⟨rfl,rfl⟩ (by kernel_rfl) rfl
  (fun f fn aZ mj=>by
   obtain rfl : f = 8 := Option.some.inj ((show Tryz.prog.funcNamed "headstock/headstocklaw07.ReaderForth" = some 8 by kernel_rfl).symm.trans aZ) |>.symm;obtain rfl:fn=Tryz.f8:=(Option.some.inj (Tryz.func8.symm.trans mj)).symm;exact ⟨by kernel_rfl,fun j t aC=>by
    rw[Tryz.params8]at aC;have hm:t∈[9,22,3,9]:=by simpa using Array.mem_of_getElem? aC
    have gs:([9,22,3,9].all fun u=>!Tryz.prog.wantsStandIn u)=true:=by kernel_rfl
    exact(show Tryz.prog.wantsStandIn t=false by simpa using List.all_eq_true.1 gs t hm)⟩)
  (by kernel_rfl)
end Go.Proofs.YtjbjpooafphpnaaGreatDoor.readerForth
