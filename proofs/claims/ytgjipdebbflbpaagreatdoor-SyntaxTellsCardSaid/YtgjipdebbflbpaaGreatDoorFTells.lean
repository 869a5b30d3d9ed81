/-
  PROVED: whatever the input, SyntaxTells returns true, and its input reads as it did (the tied card).
  Conditions: none beyond the given row's own: the listed variables of Go's library read as listed when the call begins; the card ties that to the program's text.
-/
import Derived.Test.YtgjipdebbflbpaaGreatDoorZ
import Derived.Test.YtgjipdebbflbpaaGreatDoorBa
import Derived.Test.YtgjipdebbflbpaaGreatDoorM
set_option linter.unusedSimpArgs false
set_option linter.unusedVariables false
namespace Go.Proofs.YtgjipdebbflbpaaGreatDoor.syntaxTells
open Go Go.ChangeShapes Go.WideShapes Go.ChangeAt Go.RowKit Go.Eng Go.Eng.Sy
theorem one:ze7 Tryz.prog 3 1:=ze3 (by kernel_rfl)
set_option maxRecDepth 100000 in
theorem contract (H:Type) (enc:TypeId × Value→H) (W:World) (base:Nat) (args:Array Value) (ds gs:List (DataW H)) (before:List MemPlace)
  (hval:∀ (j:Nat) t v,Tryz.f3.params[j]? = some t→args[j]? = some v→Value.okWide Tryz.prog W .any base t v)
  (hW:DataW.Whole enc Tryz.prog Tryz.f3.params.toList Rows.syntaxTellsSpec.vars false W args.toList ds gs before) (hL:laidMetH Tryz.prog laidL W) :
  Calls Tryz.prog 3 args W fun e W'=>∃ v,e = .returned v∧Rows.syntaxTellsSpec.post enc Tryz.prog Tryz.f3 false true false false W args v W':=by
 have hW':=hW
 obtain ⟨p,q,hA0,hV,rfl,hfz,hnd⟩:=hW
 have hA:DataW.TrodAll enc Tryz.prog W 0 (fun _=>true) true Tryz.f3.params.toList args.toList ds p:=hA0
 rw [Tryz.params3] at hA hval
 obtain ⟨v0,vs0,d0,ds0,p0,q0,hargs,rfl,rfl,h0,r0⟩:=trodAll_cons hA
 obtain ⟨v1,vs1,d1,ds1,p1,q1,rfl,rfl,rfl,h1,r1⟩:=trodAll_cons r0
 obtain ⟨v2,vs2,d2,ds2,p2,q2,rfl,rfl,rfl,h2,r2⟩:=trodAll_cons r1
 obtain ⟨v3,vs3,d3,ds3,p3,q3,rfl,rfl,rfl,h3,r3⟩:=trodAll_cons r2
 obtain ⟨rfl,rfl,rfl⟩:=trodAll_nil r3
 obtain rfl:args = #[v0,v1,v2,v3]:=by cases args;simp_all
 obtain ⟨rfl,rfl⟩:=trodVars_none hV
 obtain ⟨n0,l0,nil0,s0,hl0,hw0,hn0,hnil0,hs0,hb0,hvr0⟩:=Jm (c:=1) (by kernel_rfl:Tryz.prog.underlying 22=some (.slice 3)) (by kernel_rfl) (by decide) one (hval 0 22 v0 rfl rfl) h0
 obtain ⟨n1,l1,nil1,s1,hl1,hw1,hn1,hnil1,hs1,hb1,hvr1⟩:=Jm (c:=1) (by kernel_rfl:Tryz.prog.underlying 22=some (.slice 3)) (by kernel_rfl) (by decide) one (hval 1 22 v1 rfl rfl) h1
 obtain ⟨n2,l2,nil2,s2,hl2,hw2,hn2,hnil2,hs2,hb2,hvr2⟩:=Jm (c:=1) (by kernel_rfl:Tryz.prog.underlying 22=some (.slice 3)) (by kernel_rfl) (by decide) one (hval 2 22 v2 rfl rfl) h2
 obtain ⟨a3,rfl,rfl,rfl⟩:=open_bool (by kernel_rfl:Tryz.prog.underlying 4=some .bool) (hval 3 4 v3 rfl rfl) h3
 have hR0:=zc4 (slots:=[s0,s1,s2]) (i:=0) rfl hl0 hnil0 hb0
 have hR1:=zc4 (slots:=[s0,s1,s2]) (i:=1) rfl hl1 hnil1 hb1
 have hR2:=zc4 (slots:=[s0,s1,s2]) (i:=2) rfl hl2 hnil2 hb2
 have hc:=calls_of (P:=Tryz.prog) (f:=3) (W:=W) (args:=[v0,v1,v2,.bool a3]) (slots:=[s0,s1,s2]) (absArgs:=[Ya 0 n0 1 nil0,Ya 1 n1 1 nil1,Ya 2 n2 1 nil2,.bool a3]) (glob_of hL) ?_ (.cons _ _ _ _ (hvr0 _ 0 rfl) (.cons _ _ _ _ (hvr1 _ 1 rfl) (.cons _ _ _ _ (hvr2 _ 2 rfl) (.cons _ _ _ _ (.same _ rfl) (.nil))))) ?_
 ·refine hc.mono fun e W2 ⟨he,hst⟩=>⟨_,he,?_⟩
  refine zu4 lay (by kernel_rfl) (by kernel_rfl:Tryz.prog.underlying 4=some .bool) ?_ rfl hW' rfl rfl rfl hst
  intro t ht
  rw [Tryz.params3] at ht
  have hr:[22,22,22,4].all (fun t=>Tryz.prog.readableRec t && decide (t < Tryz.prog.types.size))=true:=by kernel_rfl
  have:=List.all_eq_true.1 hr t (by simpa using ht)
  simpa using this
 ·intro s hs
  simp only [List.mem_cons,List.not_mem_nil,or_false] at hs
  rcases hs with rfl | rfl | rfl
  ·exact hs0
  ·exact hs1
  ·exact hs2
 ·exact zm3 hR0 (fun z hz=>wf_in (hw0 z hz)) hR1 (fun z hz=>wf_in (hw1 z hz)) hR2 (fun z hz=>wf_in (hw2 z hz)) _ _ (fun _=>rfl)
set_option maxRecDepth 100000 in
theorem lifted (os:Os) (started:os.Started) (H:Type) (enc:TypeId × Value→H) :
  ReturnsInHanded {} Tryz.checked os 3 .any (fun w args=>(Rows.syntaxTellsSpec.pre enc Tryz.prog Tryz.f3 Rows.syntaxTellsRow.domain false w args∧laidMetH Tryz.prog laidL w)∧sizedMet enc Tryz.prog Tryz.f3 (OpenSpec.ofChange Rows.syntaxTellsSpec) false w args)
   (Rows.syntaxTellsSpec.post enc Tryz.prog Tryz.f3 false true false false):=by
 refine returnsInHanded_of_change_and (C:=Tryz.checked) (X:=fun w _=>laidMetH Tryz.prog laidL w) (fun _ _ _ hh h=>h.of_heap hh) own started (by kernel_rfl) Tryz.func3
  (ChangeSpec.witness_shaped (enc:=enc) (C:=Tryz.checked) (os:=os) (X:=fun w _=>laidMetH Tryz.prog laidL w) false (World.laidAll Tryz.prog os laidL) #[.slice none 0 0,.slice none 0 0,.slice none 0 0,.bool false] 8 (World.laidAll_os _ _ _)
   (shaped os _) (by kernel_rfl) (by kernel_rfl) (by kernel_rfl) (met os _)) ?_
 intro W base args ds gs before hval hW _ hsz hL _
 exact contract H enc W base args ds gs before hval hW hL
theorem holds:Rows.SyntaxTellsSaid :=
 OpenClaim.holds_of_wide 3 Tryz.f3 rfl rfl rfl rfl rfl rfl rfl ⟨rfl,rfl,rfl,rfl,rfl⟩ rfl rfl rfl rfl rfl (by kernel_rfl) Tryz.func3 (by kernel_rfl)
  (of_decide_eq_true (by kernel_rfl)) (by unfold Func.isWrapper;first | (rw [if_pos (by decide +kernel)];kernel_rfl) | (rw [if_neg (by decide +kernel)];exact ⟨rfl,rfl⟩))
  (fun os started H enc _=>lifted os started H enc)
theorem proved:Rows.SyntaxTellsCardSaid :=
 Claim7.holds_tied_plain_at .later [] [.data, .data, .data] true (true, "cec67e45850d76c6735e34b18c0bf48d398ecccd524f30a1c15a3a8f1f8ccef4") true
  holds (fun _ h=>by cases h) (by kernel_rfl) (fun _ h=>by cases h) syntaxTells_row_tie rfl ⟨rfl,rfl⟩ (by kernel_rfl) rfl
  (fun f fn hf hfn=>by
   obtain rfl : f = 3 := Option.some.inj ((show Tryz.prog.funcNamed "headstock/headstocklaw06.SyntaxTells" = some 3 by kernel_rfl).symm.trans hf) |>.symm
   obtain rfl:fn=Tryz.f3:=(Option.some.inj (Tryz.func3.symm.trans hfn)).symm
   exact ⟨by kernel_rfl,fun j t ht=>by
    rw [Tryz.params3] at ht
    have hm:t ∈ [22,22,22,4]:=by simpa using Array.mem_of_getElem? ht
    have hall:([22,22,22,4].all fun u=>!Tryz.prog.wantsStandIn u)=true:=by kernel_rfl
    exact (show Tryz.prog.wantsStandIn t=false by simpa using List.all_eq_true.1 hall t hm)⟩)
  (by kernel_rfl)
end Go.Proofs.YtgjipdebbflbpaaGreatDoor.syntaxTells
