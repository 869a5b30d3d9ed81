/-
  PROVED: whatever the input, CeilingChain returns true, and its input reads as it did (the tied card).
  Conditions: none beyond the given row's own: the listed variables of Go's library read as listed when the call begins; the card ties that to the program's text.
-/
import Derived.Test.YtddbbcpelbcahaaGreatDoorZ
import Derived.Test.YtddbbcpelbcahaaGreatDoorBa
import Derived.Test.YtddbbcpelbcahaaGreatDoorM6
set_option linter.unusedSimpArgs false
set_option linter.unusedVariables false
namespace Go.Proofs.YtddbbcpelbcahaaGreatDoor.ceilingChain
open Go Go.ChangeShapes Go.WideShapes Go.ChangeAt Go.RowKit Go.Eng Go.Eng.Sy
theorem one:Y2 Tryz.prog 3 1:=wb (by kernel_rfl)
set_option maxRecDepth 100000 in
theorem contract (H:Type) (enc:TypeId × Value→H) (W:World) (base:Nat) (args:Array Value) (ds gs:List (DataW H)) (before:List MemPlace)
  (hval:∀ (j:Nat) t v,Tryz.f6.params[j]? = some t→args[j]? = some v→Value.okWide Tryz.prog W .any base t v)
  (hW:DataW.Whole enc Tryz.prog Tryz.f6.params.toList Rows.ceilingChainSpec.vars false W args.toList ds gs before) (hL:laidMetH Tryz.prog jz W) :
  Calls Tryz.prog 6 args W fun e W'=>∃ v,e = .returned v∧Rows.ceilingChainSpec.post enc Tryz.prog Tryz.f6 false true false false W args v W':=by
 have hW':=hW
 obtain ⟨p,q,hA0,hV,rfl,hfz,hnd⟩:=hW
 have hA:DataW.TrodAll enc Tryz.prog W 0 (fun _=>true) true Tryz.f6.params.toList args.toList ds p:=hA0
 rw [Tryz.params6] at hA hval
 obtain ⟨v0,vs0,d0,ds0,p0,q0,hargs,rfl,rfl,h0,r0⟩:=trodAll_cons hA
 obtain ⟨v1,vs1,d1,ds1,p1,q1,rfl,rfl,rfl,h1,r1⟩:=trodAll_cons r0
 obtain ⟨v2,vs2,d2,ds2,p2,q2,rfl,rfl,rfl,h2,r2⟩:=trodAll_cons r1
 obtain ⟨rfl,rfl,rfl⟩:=trodAll_nil r2
 obtain rfl:args = #[v0,v1,v2]:=by cases args;simp_all
 obtain ⟨rfl,rfl⟩:=trodVars_none hV
 obtain ⟨n0,l0,nil0,s0,hl0,hw0,hn0,hnil0,hs0,hb0,hvr0⟩:=wl (c:=1) (by kernel_rfl:Tryz.prog.underlying 22=some (.slice 3)) (by kernel_rfl) (by decide) one (hval 0 22 v0 rfl rfl) h0
 obtain ⟨a1,rfl,rfl,rfl,w1⟩:=open_int (by kernel_rfl:Tryz.prog.underlying 3=some (.int .i64)) (hval 1 3 v1 rfl rfl) h1
 obtain ⟨n2,l2,nil2,s2,hl2,hw2,hn2,hnil2,hs2,hb2,hvr2⟩:=wl (c:=1) (by kernel_rfl:Tryz.prog.underlying 22=some (.slice 3)) (by kernel_rfl) (by decide) one (hval 2 22 v2 rfl rfl) h2
 have hR0:=Jz (slots:=[s0,s2]) (i:=0) rfl hl0 hnil0 hb0
 have hR2:=Jz (slots:=[s0,s2]) (i:=1) rfl hl2 hnil2 hb2
 have hc:=Qx (P:=Tryz.prog) (f:=6) (W:=W) (args:=[v0,.int .i64 a1,v2]) (slots:=[s0,s2]) (absArgs:=[kp 0 n0 1 nil0,.int .i64 a1,kp 1 n2 1 nil2]) (V5 hL) ?_ (.cons _ _ _ _ (hvr0 _ 0 rfl) (.cons _ _ _ _ (.same _ rfl) (.cons _ _ _ _ (hvr2 _ 1 rfl) (.nil)))) ?_
 ·refine hc.mono fun e W2 ⟨he,hst⟩=>⟨_,he,?_⟩
  refine Zc lay (by kernel_rfl) (by kernel_rfl:Tryz.prog.underlying 4=some .bool) ?_ rfl hW' rfl rfl rfl hst
  intro t ht
  rw [Tryz.params6] at ht
  have hr:[22,3,22].all (fun t=>Tryz.prog.readableRec t && decide (t < Tryz.prog.types.size))=true:=by kernel_rfl
  have:=List.all_eq_true.1 hr t (by simpa using ht)
  simpa using this
 ·intro s hs
  simp only [List.mem_cons,List.not_mem_nil,or_false] at hs
  rcases hs with rfl | rfl
  ·exact hs0
  ·exact hs2
 ·exact yl9 hR0 (fun z hz=>uw (hw0 z hz)) hR2 (fun z hz=>uw (hw2 z hz)) (uw w1) _ (fun _=>rfl)
set_option maxRecDepth 100000 in
theorem lifted (os:Os) (started:os.Started) (H:Type) (enc:TypeId × Value→H) :
  ReturnsInHanded {} Tryz.checked os 6 .any (fun w args=>(Rows.ceilingChainSpec.pre enc Tryz.prog Tryz.f6 Rows.ceilingChainRow.domain false w args∧laidMetH Tryz.prog jz w)∧sizedMet enc Tryz.prog Tryz.f6 (OpenSpec.ofChange Rows.ceilingChainSpec) false w args)
   (Rows.ceilingChainSpec.post enc Tryz.prog Tryz.f6 false true false false):=by
 refine returnsInHanded_of_change_and (C:=Tryz.checked) (X:=fun w _=>laidMetH Tryz.prog jz w) (fun _ _ _ hh h=>h.of_heap hh) own started (by kernel_rfl) Tryz.func6
  (ChangeSpec.witness_shaped (enc:=enc) (C:=Tryz.checked) (os:=os) (X:=fun w _=>laidMetH Tryz.prog jz w) false (World.laidAll Tryz.prog os jz) #[.slice none 0 0,.int .i64 0,.slice none 0 0] 8 (World.laidAll_os _ _ _)
   (zt4 os _) (by kernel_rfl) (by kernel_rfl) (by kernel_rfl) (met os _)) ?_
 intro W base args ds gs before hval hW _ hsz hL _
 exact contract H enc W base args ds gs before hval hW hL
theorem holds:Rows.CeilingChainSaid :=
 OpenClaim.holds_of_wide 6 Tryz.f6 rfl rfl rfl rfl rfl rfl rfl ⟨rfl,rfl,rfl,rfl,rfl⟩ rfl rfl rfl rfl rfl (by kernel_rfl) Tryz.func6 (by kernel_rfl)
  (of_decide_eq_true (by kernel_rfl)) (by unfold Func.isWrapper;first | (rw [if_pos (by decide +kernel)];kernel_rfl) | (rw [if_neg (by decide +kernel)];exact ⟨rfl,rfl⟩))
  (fun os started H enc _=>lifted os started H enc)
theorem proved:Rows.CeilingChainCardSaid :=
 Claim7.holds_tied_plain_at .later [] [.data, .data, .data, .data, .sentinel, .sentinel, .pinned, .pinned] true (true, "bcb28657db6ff2ed4eddd00ab442af1015a415a8df2dc1ac6e2cc8b5353854e0") true
  holds (fun _ h=>by cases h) (by kernel_rfl) (fun _ h=>by cases h) ceilingChain_row_tie rfl ⟨rfl,rfl⟩ (by kernel_rfl) rfl
  (fun f fn hf hfn=>by
   obtain rfl : f = 6 := Option.some.inj ((show Tryz.prog.funcNamed "headstock/headstocklaw09.CeilingChain" = some 6 by kernel_rfl).symm.trans hf) |>.symm
   obtain rfl:fn=Tryz.f6:=(Option.some.inj (Tryz.func6.symm.trans hfn)).symm
   exact ⟨by kernel_rfl,fun j t ht=>by
    rw [Tryz.params6] at ht
    have hm:t ∈ [22,3,22]:=by simpa using Array.mem_of_getElem? ht
    have hall:([22,3,22].all fun u=>!Tryz.prog.wantsStandIn u)=true:=by kernel_rfl
    exact (show Tryz.prog.wantsStandIn t=false by simpa using List.all_eq_true.1 hall t hm)⟩)
  (by kernel_rfl)
end Go.Proofs.YtddbbcpelbcahaaGreatDoor.ceilingChain
