/-
  PROVED: whatever the input, CeilingTells returns true, and its input reads as it did (the tied card).
  Conditions: none beyond the given row's own: the listed variables of Go's library read as listed when the call begins; the card ties that to the program's text.
-/
import Derived.Test.YtddbbcpelbcahaaGreatDoorZ
import Derived.Test.YtddbbcpelbcahaaGreatDoorBa
import Derived.Test.YtddbbcpelbcahaaGreatDoorM
set_option linter.unusedSimpArgs false
set_option linter.unusedVariables false
namespace Go.Proofs.YtddbbcpelbcahaaGreatDoor.ceilingTells
open Go Go.ChangeShapes Go.WideShapes Go.ChangeAt Go.RowKit Go.Eng Go.Eng.Sy
theorem one:zx3 Tryz.prog 3 1:=zx1 (by kernel_rfl)
set_option maxRecDepth 100000 in
theorem contract (H:Type) (enc:TypeId × Value→H) (W:World) (base:Nat) (args:Array Value) (ds gs:List (DataW H)) (before:List MemPlace)
  (hval:∀ (j:Nat) t v,Tryz.f3.params[j]? = some t→args[j]? = some v→Value.okWide Tryz.prog W .any base t v)
  (hW:DataW.Whole enc Tryz.prog Tryz.f3.params.toList Rows.ceilingTellsSpec.vars false W args.toList ds gs before) (hL:laidMetH Tryz.prog zd8 W) :
  Calls Tryz.prog 3 args W fun e W'=>∃ v,e = .returned v∧Rows.ceilingTellsSpec.post enc Tryz.prog Tryz.f3 false true false false W args v W':=by
 have hW':=hW;obtain ⟨p,q,hA0,hV,rfl,hfz,hnd⟩:=hW;have hA:DataW.TrodAll enc Tryz.prog W 0 (fun _=>true) true Tryz.f3.params.toList args.toList ds p:=hA0;rw [Tryz.params3] at hA hval;obtain ⟨v0,vs0,d0,ds0,p0,q0,hargs,rfl,rfl,h0,r0⟩:=trodAll_cons hA;obtain ⟨v1,vs1,d1,ds1,p1,q1,rfl,rfl,rfl,h1,r1⟩:=trodAll_cons r0;obtain ⟨v2,vs2,d2,ds2,p2,q2,rfl,rfl,rfl,h2,r2⟩:=trodAll_cons r1;obtain ⟨v3,vs3,d3,ds3,p3,q3,rfl,rfl,rfl,h3,r3⟩:=trodAll_cons r2;obtain ⟨v4,vs4,d4,ds4,p4,q4,rfl,rfl,rfl,h4,r4⟩:=trodAll_cons r3;obtain ⟨v5,vs5,d5,ds5,p5,q5,rfl,rfl,rfl,h5,r5⟩:=trodAll_cons r4;obtain ⟨rfl,rfl,rfl⟩:=trodAll_nil r5;obtain rfl:args = #[v0,v1,v2,v3,v4,v5]:=by cases args;simp_all
 obtain ⟨rfl,rfl⟩:=trodVars_none hV;obtain ⟨n0,l0,nil0,s0,hl0,hw0,hn0,hnil0,hs0,hb0,hvr0⟩:=Wh (c:=1) (by kernel_rfl:Tryz.prog.underlying 22=some (.slice 3)) (by kernel_rfl) (by decide) one (hval 0 22 v0 rfl rfl) h0;obtain ⟨n1,l1,nil1,s1,hl1,hw1,hn1,hnil1,hs1,hb1,hvr1⟩:=Wh (c:=1) (by kernel_rfl:Tryz.prog.underlying 22=some (.slice 3)) (by kernel_rfl) (by decide) one (hval 1 22 v1 rfl rfl) h1;obtain ⟨a2,rfl,rfl,rfl,w2⟩:=open_int (by kernel_rfl:Tryz.prog.underlying 3=some (.int .i64)) (hval 2 3 v2 rfl rfl) h2;obtain ⟨a3,rfl,rfl,rfl,w3⟩:=open_int (by kernel_rfl:Tryz.prog.underlying 3=some (.int .i64)) (hval 3 3 v3 rfl rfl) h3;obtain ⟨a4,rfl,rfl,rfl,w4⟩:=open_int (by kernel_rfl:Tryz.prog.underlying 3=some (.int .i64)) (hval 4 3 v4 rfl rfl) h4;obtain ⟨n5,l5,nil5,s5,hl5,hw5,hn5,hnil5,hs5,hb5,hvr5⟩:=Wh (c:=1) (by kernel_rfl:Tryz.prog.underlying 22=some (.slice 3)) (by kernel_rfl) (by decide) one (hval 5 22 v5 rfl rfl) h5;have hR0:=zt6 (slots:=[s0,s1,s5]) (i:=0) rfl hl0 hnil0 hb0;have hR1:=zt6 (slots:=[s0,s1,s5]) (i:=1) rfl hl1 hnil1 hb1;have hR5:=zt6 (slots:=[s0,s1,s5]) (i:=2) rfl hl5 hnil5 hb5;have hc:=calls_of (P:=Tryz.prog) (f:=3) (W:=W) (args:=[v0,v1,.int .i64 a2,.int .i64 a3,.int .i64 a4,v5]) (slots:=[s0,s1,s5]) (absArgs:=[Yn 0 n0 1 nil0,Yn 1 n1 1 nil1,.int .i64 a2,.int .i64 a3,.int .i64 a4,Yn 2 n5 1 nil5]) (glob_of hL) ?_ (.cons _ _ _ _ (hvr0 _ 0 rfl) (.cons _ _ _ _ (hvr1 _ 1 rfl) (.cons _ _ _ _ (.same _ rfl) (.cons _ _ _ _ (.same _ rfl) (.cons _ _ _ _ (.same _ rfl) (.cons _ _ _ _ (hvr5 _ 2 rfl) (.nil))))))) ?_
 ·refine hc.mono fun e W2 ⟨he,hst⟩=>⟨_,he,?_⟩;refine yn5 lay (by kernel_rfl) (by kernel_rfl:Tryz.prog.underlying 4=some .bool) ?_ rfl hW' rfl rfl rfl hst;intro t ht;rw [Tryz.params3] at ht;have hr:[22,22,3,3,3,22].all (fun t=>Tryz.prog.readableRec t && decide (t < Tryz.prog.types.size))=true:=by kernel_rfl
  have:=List.all_eq_true.1 hr t (by simpa using ht);simpa using this
 ·intro s hs;simp only [List.mem_cons,List.not_mem_nil,or_false] at hs;rcases hs with rfl | rfl | rfl
  ·exact hs0
  ·exact hs1
  ·exact hs5
 ·exact zv1 hR0 (fun z hz=>wf_in (hw0 z hz)) hR1 (fun z hz=>wf_in (hw1 z hz)) hR5 a2 a3 a4 _ (fun _=>rfl)
set_option maxRecDepth 100000 in
theorem lifted (os:Os) (started:os.Started) (H:Type) (enc:TypeId × Value→H) :
  ReturnsInHanded {} Tryz.checked os 3 .any (fun w args=>(Rows.ceilingTellsSpec.pre enc Tryz.prog Tryz.f3 Rows.ceilingTellsRow.domain false w args∧laidMetH Tryz.prog zd8 w)∧sizedMet enc Tryz.prog Tryz.f3 (OpenSpec.ofChange Rows.ceilingTellsSpec) false w args)
   (Rows.ceilingTellsSpec.post enc Tryz.prog Tryz.f3 false true false false):=by
 refine returnsInHanded_of_change_and (C:=Tryz.checked) (X:=fun w _=>laidMetH Tryz.prog zd8 w) (fun _ _ _ hh h=>h.of_heap hh) own started (by kernel_rfl) Tryz.func3
  (ChangeSpec.witness_shaped (enc:=enc) (C:=Tryz.checked) (os:=os) (X:=fun w _=>laidMetH Tryz.prog zd8 w) false (World.laidAll Tryz.prog os zd8) #[.slice none 0 0,.slice none 0 0,.int .i64 0,.int .i64 0,.int .i64 0,.slice none 0 0] 8 (World.laidAll_os _ _ _)
   (shaped os _) (by kernel_rfl) (by kernel_rfl) (by kernel_rfl) (met os _)) ?_
 intro W base args ds gs before hval hW _ hsz hL _;exact contract H enc W base args ds gs before hval hW hL
theorem holds:Rows.CeilingTellsSaid :=
 OpenClaim.holds_of_wide 3 Tryz.f3 rfl rfl rfl rfl rfl rfl rfl ⟨rfl,rfl,rfl,rfl,rfl⟩ rfl rfl rfl rfl rfl (by kernel_rfl) Tryz.func3 (by kernel_rfl)
  (of_decide_eq_true (by kernel_rfl)) (by unfold Func.isWrapper;first | (rw [if_pos (by decide +kernel)];kernel_rfl) | (rw [if_neg (by decide +kernel)];exact ⟨rfl,rfl⟩))
  (fun os started H enc _=>lifted os started H enc)
theorem proved:Rows.CeilingTellsCardSaid :=
 Claim7.holds_tied_plain_at .later [] [.data, .data, .data, .data, .sentinel, .sentinel, .pinned, .pinned] true (true, "bcb28657db6ff2ed4eddd00ab442af1015a415a8df2dc1ac6e2cc8b5353854e0") true
  holds (fun _ h=>by cases h) (by kernel_rfl) (fun _ h=>by cases h) ceilingTells_row_tie rfl ⟨rfl,rfl⟩ (by kernel_rfl) rfl
  (fun f fn hf hfn=>by
   obtain rfl : f = 3 := Option.some.inj ((show Tryz.prog.funcNamed "headstock/headstocklaw09.CeilingTells" = some 3 by kernel_rfl).symm.trans hf) |>.symm;obtain rfl:fn=Tryz.f3:=(Option.some.inj (Tryz.func3.symm.trans hfn)).symm;exact ⟨by kernel_rfl,fun j t ht=>by
    rw [Tryz.params3] at ht;have hm:t ∈ [22,22,3,3,3,22]:=by simpa using Array.mem_of_getElem? ht
    have hall:([22,22,3,3,3,22].all fun u=>!Tryz.prog.wantsStandIn u)=true:=by kernel_rfl
    exact (show Tryz.prog.wantsStandIn t=false by simpa using List.all_eq_true.1 hall t hm)⟩)
  (by kernel_rfl)
end Go.Proofs.YtddbbcpelbcahaaGreatDoor.ceilingTells
