/-
  Part of a proof of the laws of layer 08 (rule): the laws.
  Conditions: none.
-/
import Derived.Test.YtdkiehbkkjhfnaaGreatDoorEc
import Derived.Test.YtdkiehbkkjhfnaaGreatDoorProg
import Derived.KernelRfl
import Derived.Test.YtdkiehbkkjhfnaaGreatDoorBe
import Derived.Test.YtdkiehbkkjhfnaaGreatDoorBx
namespace Go.Eng.Sy
open Go Go.Eng Go.Proofs
noncomputable def c3_r0 : List SOp := [⟨0, .p .mov, [.c (.bool false)], none, false⟩]
noncomputable def c3_r1 : List SOp := [⟨0, .call 8, [], none, false⟩, ⟨1, .p .mov, [.t 0], none, false⟩]
noncomputable def c3_r2 : List SOp := [⟨0, .p .mov, [.v 0], none, false⟩, ⟨1, .call 9, [.t 0, .c (.bool false)], none, false⟩, ⟨2, .a (.new [.int .i64 0, .slice none 0 0, .slice none 0 0, .slice none 0 0]), [], none, false⟩, ⟨3, .w (.store 4), [.t 0, .t 1], none, false⟩]
noncomputable def c3_r3 : List SOp := [⟨0, .r (.load true 4), [.v 3], none, false⟩, ⟨1, .call 10, [.t 0], none, false⟩, ⟨2, .p .mov, [.t 0], none, false⟩, ⟨3, .p (.extract 0), [.t 0], none, false⟩, ⟨4, .p (.extract 1), [.t 1], none, false⟩, ⟨5, .a (.new [.int .i64 0, .int .i64 0]), [], none, false⟩, ⟨6, .p .mov, [.t 2], none, false⟩, ⟨7, .w (.store 2), [.t 1, .t 2], none, false⟩]
noncomputable def c3_r4 : List SOp := [⟨0, .p .mov, [.c (.int .i64 0)], none, false⟩]
noncomputable def c3_r5 : List SOp := [⟨0, .p .mov, [.v 6], none, false⟩, ⟨1, .p (.fieldAddr 1), [.v 3], none, false⟩, ⟨2, .r (.load false 1), [.t 0], none, false⟩, ⟨3, .p .lenS, [.t 0], none, false⟩, ⟨4, .p (.bin .lss), [.t 3, .t 0], none, false⟩]
noncomputable def c3_r6 : List SOp := [⟨0, .r (.load true 4), [.v 3], none, false⟩, ⟨1, .p (.fieldAddr 1), [.v 3], none, false⟩, ⟨2, .r (.load false 1), [.t 0], none, false⟩, ⟨3, .p .mov, [.v 6], none, false⟩, ⟨4, .p (.idxAddrS 2), [.t 1, .t 0], none, false⟩, ⟨5, .p (.fieldAddr 0), [.t 0], none, false⟩, ⟨6, .r (.load false 1), [.t 0], none, false⟩, ⟨7, .call 11, [.t 6, .t 0], none, false⟩, ⟨8, .p .mov, [.v 6], none, false⟩, ⟨9, .p (.bin .neq), [.t 1, .t 0], none, false⟩, ⟨10, .p .mov, [.t 0], none, false⟩, ⟨11, .r (.load true 4), [.v 3], some (0, false), false⟩, ⟨12, .p (.fieldAddr 1), [.v 3], some (1, false), false⟩, ⟨13, .r (.load false 1), [.t 0], some (2, false), false⟩, ⟨14, .p .mov, [.v 6], some (3, false), false⟩, ⟨15, .p (.idxAddrS 2), [.t 1, .t 0], some (4, false), false⟩, ⟨16, .p (.fieldAddr 0), [.t 0], some (5, false), false⟩, ⟨17, .r (.load false 1), [.t 0], some (6, false), false⟩, ⟨18, .call 12, [.t 6, .t 0], some (7, false), false⟩, ⟨19, .p (.bin .neq), [.t 0, .c (.int .i64 (-1))], some (8, false), false⟩, ⟨20, .p .pick, [.t 9, .c (.bool true), .t 0], none, false⟩]
noncomputable def c3_r7 : List SOp := [⟨0, .p .mov, [.c (.bool false)], none, false⟩]
noncomputable def c3_r8 : List SOp := [⟨0, .p .mov, [.v 6], none, false⟩, ⟨1, .p (.bin .add), [.t 0, .c (.int .i64 1)], none, false⟩, ⟨2, .p .mov, [.t 0], none, false⟩]
noncomputable def c3_l9 : CCode := (.seq (.rcond c3_r5 [] 0 .skip (.exit 0)) (.seq (.block 1 (.rcond c3_r6 [] 0 (.seq (.reg c3_r7 [(1, 0)]) .ret) .skip)) (.reg c3_r8 [(6, 0)])))
noncomputable def c3_r10 : List SOp := [⟨0, .p .mov, [.c (.int .i64 0)], none, false⟩]
noncomputable def c3_r11 : List SOp := [⟨0, .p .mov, [.v 7], none, false⟩, ⟨1, .p (.fieldAddr 2), [.v 3], none, false⟩, ⟨2, .r (.load false 1), [.t 0], none, false⟩, ⟨3, .p .lenS, [.t 0], none, false⟩, ⟨4, .p (.bin .lss), [.t 3, .t 0], none, false⟩]
noncomputable def c3_r12 : List SOp := [⟨0, .r (.load true 4), [.v 3], none, false⟩, ⟨1, .p (.fieldAddr 2), [.v 3], none, false⟩, ⟨2, .r (.load false 1), [.t 0], none, false⟩, ⟨3, .p .mov, [.v 7], none, false⟩, ⟨4, .p (.idxAddrS 2), [.t 1, .t 0], none, false⟩, ⟨5, .p (.fieldAddr 0), [.t 0], none, false⟩, ⟨6, .r (.load false 1), [.t 0], none, false⟩, ⟨7, .call 12, [.t 6, .t 0], none, false⟩, ⟨8, .p .mov, [.v 7], none, false⟩, ⟨9, .p (.bin .neq), [.t 1, .t 0], none, false⟩, ⟨10, .p .mov, [.t 0], none, false⟩, ⟨11, .r (.load true 4), [.v 3], some (0, false), false⟩, ⟨12, .p (.fieldAddr 2), [.v 3], some (1, false), false⟩, ⟨13, .r (.load false 1), [.t 0], some (2, false), false⟩, ⟨14, .p .mov, [.v 7], some (3, false), false⟩, ⟨15, .p (.idxAddrS 2), [.t 1, .t 0], some (4, false), false⟩, ⟨16, .p (.fieldAddr 0), [.t 0], some (5, false), false⟩, ⟨17, .r (.load false 1), [.t 0], some (6, false), false⟩, ⟨18, .call 11, [.t 6, .t 0], some (7, false), false⟩, ⟨19, .p (.bin .neq), [.t 0, .c (.int .i64 (-1))], some (8, false), false⟩, ⟨20, .p .pick, [.t 9, .c (.bool true), .t 0], none, false⟩]
noncomputable def c3_r13 : List SOp := [⟨0, .p .mov, [.c (.bool false)], none, false⟩]
noncomputable def c3_r14 : List SOp := [⟨0, .p .mov, [.v 7], none, false⟩, ⟨1, .p (.bin .add), [.t 0, .c (.int .i64 1)], none, false⟩, ⟨2, .p .mov, [.t 0], none, false⟩]
noncomputable def c3_l15 : CCode := (.seq (.rcond c3_r11 [] 0 .skip (.exit 2)) (.seq (.block 3 (.rcond c3_r12 [] 0 (.seq (.reg c3_r13 [(1, 0)]) .ret) .skip)) (.reg c3_r14 [(7, 0)])))
noncomputable def c3_r16 : List SOp := [⟨0, .p .mov, [.v 2], none, false⟩, ⟨1, .p .mov, [.t 0], none, false⟩, ⟨2, .p .mov, [.v 4], some (0, true), false⟩, ⟨3, .p (.bin .eql), [.t 0, .c (.int .i64 0)], some (1, true), false⟩, ⟨4, .p .pick, [.t 2, .t 0, .c (.bool false)], none, false⟩, ⟨5, .p .mov, [.t 0], none, false⟩, ⟨6, .r (.load true 2), [.v 5], some (0, true), false⟩, ⟨7, .p (.build [.int .i64 0, .int .i64 0] []), [], some (1, true), false⟩, ⟨8, .p (.eqK 31 (keyGood Tryz.prog 31) false), [.t 1, .t 0], some (2, true), false⟩, ⟨9, .p .pick, [.t 3, .t 0, .c (.bool false)], none, false⟩, ⟨10, .p .mov, [.t 0], none, false⟩, ⟨11, .r (.load true 4), [.v 3], some (0, true), false⟩, ⟨12, .call 11, [.t 0, .c (.string ⟨#[115, 116, 114, 97, 110, 103, 101]⟩)], some (1, true), false⟩, ⟨13, .p (.bin .eql), [.t 0, .c (.int .i64 (-1))], some (2, true), false⟩, ⟨14, .p .pick, [.t 3, .t 0, .c (.bool false)], none, false⟩, ⟨15, .p .mov, [.t 0], none, false⟩, ⟨16, .r (.load true 4), [.v 3], some (0, true), false⟩, ⟨17, .call 12, [.t 0, .c (.string ⟨#[]⟩)], some (1, true), false⟩, ⟨18, .p (.bin .eql), [.t 0, .c (.int .i64 (-1))], some (2, true), false⟩, ⟨19, .p .pick, [.t 3, .t 0, .c (.bool false)], none, false⟩, ⟨20, .p .mov, [.t 0], none, false⟩]
noncomputable def c3 : CFn := { nargs := 1, vars := [0, 2, 3, 4, 5, 6, 7, 8], results := [.var 1], body := (.seq (.reg c3_r0 [(1, 0)]) (.seq (.reg c3_r1 [(2, 0)]) (.seq (.reg c3_r2 [(3, 1)]) (.seq (.reg c3_r3 [(4, 1), (5, 2)]) (.seq (.seq (.reg c3_r4 [(6, 0)]) (.block 0 (.loop c3_l9))) (.seq (.seq (.reg c3_r10 [(7, 0)]) (.block 2 (.loop c3_l15))) (.seq (.reg c3_r16 [(1, 0)]) .ret))))))) }
set_option maxRecDepth 100000 in
theorem ok3 : FnOk Tryz.prog 3 c3 := compF_ok (na := c3.nargs) (vars := c3.vars) (by kernel_rfl)
end Go.Eng.Sy
set_option linter.unusedSimpArgs false
set_option linter.unusedVariables false
namespace Go.Eng.Sy
open Go Go.Eng Go.Proofs
theorem eq00 : pEqK (keyGood Tryz.prog 31) false [.agg #[.int .i64 0, .int .i64 0], .agg #[.int .i64 0, .int .i64 0]] = some (.bool true) := by kernel_rfl
theorem part22 (a b : Value) : partL true 0 2 [a, b] = some (.agg #[a, b]) := rfl
theorem box_pr4 {p : Prg} {h : Heap} {d r t : Value} (hm : PrC h p [.int .i64 p.harts, d, r, t]) : NmsV h d p.devs ∧ NmsV h r p.ress ∧ TssV h t p.tasks := by
  obtain ⟨d', r', t', e, h1, h2, h3⟩ := hm
  simp only [List.cons.injEq, and_true, true_and] at e
  obtain ⟨rfl, rfl, rfl⟩ := e
  exact ⟨h1, h2, h3⟩
theorem nm_part {a b : Value} {cells : List Value} {off : Nat} (h : partL true off 2 cells = some (.agg #[a, b])) : partL false off 1 cells = some a := by
  have h' : (if off + 2 ≤ cells.length then some (Value.agg ((cells.drop off).take 2).toArray) else none) = some (Value.agg #[a, b]) := h
  show cells[off]? = some a
  split at h'
  · have e1 := Value.agg.inj (Option.some.inj h')
    have e2 : (cells.drop off).take 2 = [a, b] := by have := congrArg Array.toList e1; simpa using this
    have e3 : ((cells.drop off).take 2)[0]? = some a := by rw [e2]; rfl
    rw [List.getElem?_take] at e3
    simpa using e3
  · cases h'
set_option maxHeartbeats 1000000 in
theorem made1_w {h : Heap} {q : Nat} {p : Prg} {d r t : Value} {nd nr H nh : Nat} (hf : Facts p nd nr H nh) (gq : h.get q = some (.blk [.int .i64 p.harts, d, r, t] true)) (hm : PrC h p [.int .i64 p.harts, d, r, t])
    {N : Nat} {vars : List Nat} {x0 x1 x2 x4 x5 x6 x7 : Value} (R : AExit → List Value → Heap → Prop)
    (hN : ∀ h' x, h.le h' → R (.exit 0) [x0, x1, x2, ptr q, x4, x5, x, x7] h') :
    LoopW Tryz.prog N vars c3_l9 [x0, x1, x2, ptr q, x4, x5, .int .i64 0, x7] h R := by
  replace hN := Hid.mk hN
  obtain ⟨hd, hr, ht⟩ := box_pr4 hm
  have hdl : p.devs.length ≤ 3 := by
    have := congrArg List.length hf.dn
    rw [List.length_map, List.length_take] at this
    have e : devNs.length ≤ 3 := by decide
    omega
  have lenD := hd.len
  refine LoopW.upto p.devs.length (fun i e h1 => h.le h1 ∧ e = [x0, x1, x2, ptr q, x4, x5, .int .i64 i, x7]) ?_ (Nat.zero_le _) ⟨Heap.le.refl _, rfl⟩
  rintro i _ h1 R1 hi ⟨hl, rfl⟩ hR
  delta c3_l9 c3_r0 c3_r1 c3_r2 c3_r3 c3_r4 c3_r5 c3_r6 c3_r7 c3_r8 c3_r10 c3_r11 c3_r12 c3_r13 c3_r14 c3_r16
  have gq1 := hl.get gq
  by_cases hlt : i < p.devs.length
  case neg =>
    have hlt' : ¬ (i : Int) < p.devs.length := by omega
    have g := fun a => hN.h h1 a hl
    replace g := Hid.mk g; replace hl := Hid.mk hl; replace hm := Hid.mk hm; replace hd := Hid.mk hd; replace hr := Hid.mk hr; replace ht := Hid.mk ht; replace hf := Hid.mk hf
    repeat' (first | simp -implicitDefEqProofs only [walkL, aR, aW, aBin, aInt, Int.reduceBEq, Int.reduceBNe, Nat.reduceBEq, Int.reduceLT, Int.reduceLE, *] | with_reducible (first | refine cndK_d ?_ ?_ | refine grdK_d ?_ ?_ | refine cndK_i ?_ ?_ | refine grdK_i ?_ ?_) <;> intro hc)
    exact g.h _
  case pos =>
    have hlt' : (i : Int) < p.devs.length := by omega
    have hw : IntKind.i64.wrap ((i : Int) + 1) = ((i + 1 : Nat) : Int) := by rw [wrapI (by omega) (by omega)]; rfl
    obtain ⟨e, he⟩ : ∃ e, p.devs[i]? = some e := ⟨_, List.getElem?_eq_getElem hlt⟩
    obtain ⟨f1, f2⟩ := hf.dev he
    have hd1 := hd.monoB hl.v.b
    have hr1 := hr.monoB hl.v.b
    obtain ⟨id, off, cells, own, e1, e2, e3⟩ := hd1.elem he
    have e4 := nm_part e3
    clear e3
    have od := hd.one
    have or := hr.one
    have ot := ht.one
    replace hl := Hid.mk hl; replace hm := Hid.mk hm; replace hd := Hid.mk hd; replace hr := Hid.mk hr; replace ht := Hid.mk ht; replace hf := Hid.mk hf; replace hd1 := Hid.mk hd1; replace hr1 := Hid.mk hr1; replace he := Hid.mk he
    repeat' (first | simp -implicitDefEqProofs only [walkL, aR, aW, aBin, aInt, Int.reduceBEq, Int.reduceBNe, Nat.reduceBEq, Int.reduceLT, Int.reduceLE, partL4, *] | with_reducible (first | refine cndK_d ?_ ?_ | refine grdK_d ?_ ?_ | refine cndK_i ?_ ?_ | refine grdK_i ?_ ?_) <;> intro hc)
    refine device_c hd1.h or ot e.name _ fun h2 l2 => ?_
    rw [f1]
    have hd2 := hd1.h.monoB l2.v.b
    have hr2 := hr1.h.monoB l2.v.b
    have e22 := l2.get e2
    have gq2 := l2.get gq1
    replace l2 := Hid.mk l2; replace hd2 := Hid.mk hd2; replace hr2 := Hid.mk hr2
    repeat' (first | simp -implicitDefEqProofs only [walkL, aR, aW, aBin, aInt, Int.reduceBEq, Int.reduceBNe, Nat.reduceBEq, Int.reduceLT, Int.reduceLE, partL4, *] | with_reducible (first | refine cndK_d ?_ ?_ | refine grdK_d ?_ ?_ | refine cndK_i ?_ ?_ | refine grdK_i ?_ ?_) <;> intro hc)
    refine resource_c od hr2.h ot e.name _ fun h3 l3 => ?_
    rw [f2]
    have g := hR.h [x0, x1, x2, ptr q, x4, x5, .int .i64 (i + 1 : Nat), x7] h3 hlt ⟨(hl.h.trans l2.h).trans l3, rfl⟩
    replace g := Hid.mk g; replace l3 := Hid.mk l3
    repeat' (first | simp -implicitDefEqProofs only [walkL, aR, aW, aBin, aInt, Int.reduceBEq, Int.reduceBNe, Nat.reduceBEq, Int.reduceLT, Int.reduceLE, *] | with_reducible (first | refine cndK_d ?_ ?_ | refine grdK_d ?_ ?_ | refine cndK_i ?_ ?_ | refine grdK_i ?_ ?_) <;> intro hc)
    exact g.h
set_option maxHeartbeats 1000000 in
theorem made2_w {h : Heap} {q : Nat} {p : Prg} {d r t : Value} {nd nr H nh : Nat} (hf : Facts p nd nr H nh) (gq : h.get q = some (.blk [.int .i64 p.harts, d, r, t] true)) (hm : PrC h p [.int .i64 p.harts, d, r, t])
    {N : Nat} {vars : List Nat} {x0 x1 x2 x4 x5 x6 x7 : Value} (R : AExit → List Value → Heap → Prop)
    (hN : ∀ h' x, h.le h' → R (.exit 2) [x0, x1, x2, ptr q, x4, x5, x6, x] h') :
    LoopW Tryz.prog N vars c3_l15 [x0, x1, x2, ptr q, x4, x5, x6, .int .i64 0] h R := by
  replace hN := Hid.mk hN
  obtain ⟨hd, hr, ht⟩ := box_pr4 hm
  have hdl : p.ress.length ≤ 3 := by
    have := congrArg List.length hf.rn
    rw [List.length_map, List.length_take] at this
    have e : resNs.length ≤ 3 := by decide
    omega
  have lenD := hr.len
  refine LoopW.upto p.ress.length (fun i e h1 => h.le h1 ∧ e = [x0, x1, x2, ptr q, x4, x5, x6, .int .i64 i]) ?_ (Nat.zero_le _) ⟨Heap.le.refl _, rfl⟩
  rintro i _ h1 R1 hi ⟨hl, rfl⟩ hR
  delta c3_l15 c3_r0 c3_r1 c3_r2 c3_r3 c3_r4 c3_r5 c3_r6 c3_r7 c3_r8 c3_r10 c3_r11 c3_r12 c3_r13 c3_r14 c3_r16
  have gq1 := hl.get gq
  by_cases hlt : i < p.ress.length
  case neg =>
    have hlt' : ¬ (i : Int) < p.ress.length := by omega
    have g := fun a => hN.h h1 a hl
    replace g := Hid.mk g; replace hl := Hid.mk hl; replace hm := Hid.mk hm; replace hd := Hid.mk hd; replace hr := Hid.mk hr; replace ht := Hid.mk ht; replace hf := Hid.mk hf
    repeat' (first | simp -implicitDefEqProofs only [walkL, aR, aW, aBin, aInt, Int.reduceBEq, Int.reduceBNe, Nat.reduceBEq, Int.reduceLT, Int.reduceLE, *] | with_reducible (first | refine cndK_d ?_ ?_ | refine grdK_d ?_ ?_ | refine cndK_i ?_ ?_ | refine grdK_i ?_ ?_) <;> intro hc)
    exact g.h _
  case pos =>
    have hlt' : (i : Int) < p.ress.length := by omega
    have hw : IntKind.i64.wrap ((i : Int) + 1) = ((i + 1 : Nat) : Int) := by rw [wrapI (by omega) (by omega)]; rfl
    obtain ⟨e, he⟩ : ∃ e, p.ress[i]? = some e := ⟨_, List.getElem?_eq_getElem hlt⟩
    obtain ⟨f1, f2⟩ := hf.res he
    have hd1 := hd.monoB hl.v.b
    have hr1 := hr.monoB hl.v.b
    obtain ⟨id, off, cells, own, e1, e2, e3⟩ := hr1.elem he
    have e4 := nm_part e3
    clear e3
    have od := hd.one
    have or := hr.one
    have ot := ht.one
    replace hl := Hid.mk hl; replace hm := Hid.mk hm; replace hd := Hid.mk hd; replace hr := Hid.mk hr; replace ht := Hid.mk ht; replace hf := Hid.mk hf; replace hd1 := Hid.mk hd1; replace hr1 := Hid.mk hr1; replace he := Hid.mk he
    repeat' (first | simp -implicitDefEqProofs only [walkL, aR, aW, aBin, aInt, Int.reduceBEq, Int.reduceBNe, Nat.reduceBEq, Int.reduceLT, Int.reduceLE, partL4, *] | with_reducible (first | refine cndK_d ?_ ?_ | refine grdK_d ?_ ?_ | refine cndK_i ?_ ?_ | refine grdK_i ?_ ?_) <;> intro hc)
    refine resource_c od hr1.h ot e.name _ fun h2 l2 => ?_
    rw [f1]
    have hd2 := hd1.h.monoB l2.v.b
    have hr2 := hr1.h.monoB l2.v.b
    have e22 := l2.get e2
    have gq2 := l2.get gq1
    replace l2 := Hid.mk l2; replace hd2 := Hid.mk hd2; replace hr2 := Hid.mk hr2
    repeat' (first | simp -implicitDefEqProofs only [walkL, aR, aW, aBin, aInt, Int.reduceBEq, Int.reduceBNe, Nat.reduceBEq, Int.reduceLT, Int.reduceLE, partL4, *] | with_reducible (first | refine cndK_d ?_ ?_ | refine grdK_d ?_ ?_ | refine cndK_i ?_ ?_ | refine grdK_i ?_ ?_) <;> intro hc)
    refine device_c hd2.h or ot e.name _ fun h3 l3 => ?_
    rw [f2]
    have g := hR.h [x0, x1, x2, ptr q, x4, x5, x6, .int .i64 (i + 1 : Nat)] h3 hlt ⟨(hl.h.trans l2.h).trans l3, rfl⟩
    replace g := Hid.mk g; replace l3 := Hid.mk l3
    repeat' (first | simp -implicitDefEqProofs only [walkL, aR, aW, aBin, aInt, Int.reduceBEq, Int.reduceBNe, Nat.reduceBEq, Int.reduceLT, Int.reduceLE, *] | with_reducible (first | refine cndK_d ?_ ?_ | refine grdK_d ?_ ?_ | refine cndK_i ?_ ?_ | refine grdK_i ?_ ?_) <;> intro hc)
    exact g.h
set_option maxHeartbeats 1000000 in
theorem RuleMade_c {h : Heap} {v : Value} {raw : List Int} (hv : Ints h v raw) (hin : ∀ z ∈ raw, inI z) (Q : Value → Heap → Prop) (hq : ∀ h', h.le h' → Q (.bool true) h') : CallW Tryz.prog 3 [v] h Q := by
  replace hv := Hid.mk hv
  refine call_of1 (k := 1) ok3 rfl rfl rfl fun N => ?_
  rw [show env0 c3 [v] = [v, undef, undef, undef, undef, undef, undef, undef] from rfl]
  delta c3 c3_r0 c3_r1 c3_r2 c3_r3 c3_r4 c3_r5 c3_r6 c3_r7 c3_r8 c3_r10 c3_r11 c3_r12 c3_r13 c3_r14 c3_r16
  replace hq := Hid.mk hq
  repeat' (first | simp -implicitDefEqProofs only [walkL, aR, aW, aBin, aInt, Int.reduceBEq, Int.reduceBNe, Nat.reduceBEq, Int.reduceLT, Int.reduceLE, *] | with_reducible (first | refine cndK_d ?_ ?_ | refine grdK_d ?_ ?_ | refine cndK_i ?_ ?_ | refine grdK_i ?_ ?_) <;> intro hc)
  refine awake_c _ _ ?_
  repeat' (first | simp -implicitDefEqProofs only [walkL, aR, aW, aBin, aInt, Int.reduceBEq, Int.reduceBNe, Nat.reduceBEq, Int.reduceLT, Int.reduceLE, *] | with_reducible (first | refine cndK_d ?_ ?_ | refine grdK_d ?_ ?_ | refine cndK_i ?_ ?_ | refine grdK_i ?_ ?_) <;> intro hc)
  refine Prog_c hv.h hin false _ fun h1 d r t xs l1 hm => ?_
  obtain ⟨iD, iR, iT⟩ := hm.isS
  obtain ⟨nd, nr, H, nh, hf⟩ := progL_facts raw
  have hg := progL_good raw false
  generalize progL raw false = p at *
  have bl : ∀ tk ∈ p.tasks, (flatSs [] tk.body).length < 4611686018427387904 := fun tk htk => by have := good_bd hg tk htk; omega
  have st := st_PA h1 p.harts iD iR iT
  have hp1 := hm.prc
  have gq := Heap.get_alloc_same h1 (.blk [.int .i64 p.harts, d, r, t] true)
  have lh2 := (Heap.le.refl h1).alloc (.blk [.int .i64 p.harts, d, r, t] true)
  obtain ⟨q, eq⟩ : ∃ x_, h1.next = x_ := ⟨_, rfl⟩
  obtain ⟨h2, eh2⟩ : ∃ x_, h1.alloc (.blk [.int .i64 p.harts, d, r, t] true) = x_ := ⟨_, rfl⟩
  rw [eh2] at gq lh2
  rw [eq] at gq
  rw [eh2, eq] at st
  have hp2 := hp1.mono lh2
  have hz : ∀ e i n, CheckIs p e i n → e = 0 ∧ i = 0 ∧ n = 0 := fun e i n hc => hc.zero hg.right hf.nodup hf.tasks hf.body
  clear hg iD iR iT hm
  replace l1 := Hid.mk l1; replace lh2 := Hid.mk lh2; replace hp1 := Hid.mk hp1; replace hp2 := Hid.mk hp2; replace hf := Hid.mk hf; replace bl := Hid.mk bl; replace hz := Hid.mk hz
  repeat' (first | simp -implicitDefEqProofs only [walkL, aR, aW, aBin, aInt, Int.reduceBEq, Int.reduceBNe, Nat.reduceBEq, Int.reduceLT, Int.reduceLE, partL4, *] | with_reducible (first | refine cndK_d ?_ ?_ | refine grdK_d ?_ ?_ | refine cndK_i ?_ ?_ | refine grdK_i ?_ ?_) <;> intro hc)
  refine Check_c hp2.h bl.h _ fun h3 e i n hc l3 => ?_
  obtain ⟨rfl, rfl, rfl⟩ := hz.h e i n hc
  clear hc
  have hp3 := hp2.h.mono l3
  have gq3 := l3.get gq
  have st2 : wStore 2 (h3.alloc (.blk [.int .i64 0, .int .i64 0] true)) [.pointer (some ⟨h3.next, 0, none⟩), .agg #[.int .i64 0, .int .i64 0]] = some (undef, h3.alloc (.blk [.int .i64 0, .int .i64 0] true)) := wStore_new rfl rfl rfl rfl
  have gp5 := Heap.get_alloc_same h3 (.blk [.int .i64 0, .int .i64 0] true)
  have lh4 := (Heap.le.refl h3).alloc (.blk [.int .i64 0, .int .i64 0] true)
  obtain ⟨p5, ep5⟩ : ∃ x_, h3.next = x_ := ⟨_, rfl⟩
  obtain ⟨h4, eh4⟩ : ∃ x_, h3.alloc (.blk [.int .i64 0, .int .i64 0] true) = x_ := ⟨_, rfl⟩
  rw [eh4] at gp5 lh4
  rw [ep5] at gp5
  rw [eh4, ep5] at st2
  have hp4 := hp3.mono lh4
  have gq4 := lh4.get gq3
  replace l3 := Hid.mk l3; replace hp3 := Hid.mk hp3; replace hp4 := Hid.mk hp4; replace lh4 := Hid.mk lh4
  repeat' (first | simp -implicitDefEqProofs only [walkL, aR, aW, aBin, aInt, Int.reduceBEq, Int.reduceBNe, Nat.reduceBEq, Int.reduceLT, Int.reduceLE, partL4, *] | with_reducible (first | refine cndK_d ?_ ?_ | refine grdK_d ?_ ?_ | refine cndK_i ?_ ?_ | refine grdK_i ?_ ?_) <;> intro hc)
  refine made1_w (x6 := undef) hf.h gq4 hp4.h _ fun h5 x l5 => ?_
  have gq5 := l5.get gq4
  have gp5 := l5.get gp5
  have hp5 := hp4.h.mono l5
  replace l5 := Hid.mk l5; replace hp5 := Hid.mk hp5
  repeat' (first | simp -implicitDefEqProofs only [walkL, aR, aW, aBin, aInt, Int.reduceBEq, Int.reduceBNe, Nat.reduceBEq, Int.reduceLT, Int.reduceLE, *] | with_reducible (first | refine cndK_d ?_ ?_ | refine grdK_d ?_ ?_ | refine cndK_i ?_ ?_ | refine grdK_i ?_ ?_) <;> intro hc)
  refine made2_w (x7 := undef) hf.h gq5 hp5.h _ fun h6 y l6 => ?_
  have gq6 := l6.get gq5
  have gp6 := l6.get gp5
  obtain ⟨hd6, hr6, ht6⟩ := box_pr4 (hp5.h.mono l6)
  have od := hd6.one
  have or := hr6.one
  have ot := ht6.one
  obtain ⟨f1, f2⟩ := hf.h.none
  replace l6 := Hid.mk l6; replace hd6 := Hid.mk hd6; replace hr6 := Hid.mk hr6; replace ht6 := Hid.mk ht6
  repeat' (first | simp -implicitDefEqProofs only [walkL, aR, aW, aBin, aInt, Int.reduceBEq, Int.reduceBNe, Nat.reduceBEq, Int.reduceLT, Int.reduceLE, partL4, pb0, eq00, part22, *] | with_reducible (first | refine cndK_d ?_ ?_ | refine grdK_d ?_ ?_ | refine cndK_i ?_ ?_ | refine grdK_i ?_ ?_) <;> intro hc)
  refine device_c hd6.h or ot [115, 116, 114, 97, 110, 103, 101] _ fun h7 l7 => ?_
  rw [f1]
  have hr7 := hr6.h.monoB l7.v.b
  have gq7 := l7.get gq6
  replace l7 := Hid.mk l7; replace hr7 := Hid.mk hr7
  repeat' (first | simp -implicitDefEqProofs only [walkL, aR, aW, aBin, aInt, Int.reduceBEq, Int.reduceBNe, Nat.reduceBEq, Int.reduceLT, Int.reduceLE, partL4, pb0, eq00, part22, *] | with_reducible (first | refine cndK_d ?_ ?_ | refine grdK_d ?_ ?_ | refine cndK_i ?_ ?_ | refine grdK_i ?_ ?_) <;> intro hc)
  refine resource_c od hr7.h ot [] _ fun h8 l8 => ?_
  rw [f2]
  have g := hq.h h8 ((((((l1.h.trans lh2.h).trans l3.h).trans lh4.h).trans l5.h).trans l6.h).trans (l7.h.trans l8))
  replace g := Hid.mk g; replace l8 := Hid.mk l8
  repeat' (first | simp -implicitDefEqProofs only [walkL, aR, aW, aBin, aInt, Int.reduceBEq, Int.reduceBNe, Nat.reduceBEq, Int.reduceLT, Int.reduceLE, partL4, pb0, eq00, part22, *] | with_reducible (first | refine cndK_d ?_ ?_ | refine grdK_d ?_ ?_ | refine cndK_i ?_ ?_ | refine grdK_i ?_ ?_) <;> intro hc)
  exact g.h
end Go.Eng.Sy
