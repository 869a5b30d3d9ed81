/-
  Part of a proof of the laws of layer 06 (syntax): the laws.
  Conditions: none.
-/
import Derived.Test.YtgjipdebbflbpaaDoorEc
import Derived.Test.YtgjipdebbflbpaaDoorProg
import Derived.KernelRfl
import Derived.Test.YtgjipdebbflbpaaDoorBd
namespace Go.Eng.Sy
open Go Go.Eng Go.Proofs

/-- headstock/headstocklaw06.SyntaxRows · variables 0:raw, 1:all, 4:, 5:ok, 6:p, 7:s, 8:e, 9:n, 10:i, 11:k, 12:i -/
noncomputable def c6_r0 : List SOp := [⟨0, .p .mov, [.c (.bool false)], none, false⟩]
noncomputable def c6_r1 : List SOp := [⟨0, .call 7, [], none, false⟩, ⟨1, .p .mov, [.t 0], none, false⟩]
noncomputable def c6_r2 : List SOp := [⟨0, .p .mov, [.v 0], none, false⟩, ⟨1, .p .mov, [.v 1], none, false⟩, ⟨2, .call 11, [.t 1, .t 0], none, false⟩, ⟨3, .a (.new [.int .i64 0, .slice none 0 0, .slice none 0 0, .slice none 0 0]), [], none, false⟩, ⟨4, .w (.store 4), [.t 0, .t 1], none, false⟩]
noncomputable def c6_r3 : List SOp := [⟨0, .r (.load true 4), [.v 4], none, false⟩, ⟨1, .call 12, [.t 0], none, false⟩, ⟨2, .p .mov, [.t 0], none, false⟩, ⟨3, .p (.extract 0), [.t 0], none, false⟩, ⟨4, .p (.extract 1), [.t 1], none, false⟩, ⟨5, .p .mov, [.t 1], none, false⟩, ⟨6, .p .mov, [.t 1], none, false⟩]
noncomputable def c6_r4 : List SOp := [⟨0, .p (.fieldAddr 1), [.v 4], none, false⟩, ⟨1, .r (.load false 1), [.t 0], none, false⟩, ⟨2, .p .lenS, [.t 0], none, false⟩, ⟨3, .p (.bin .add), [.c (.int .i64 1), .t 0], none, false⟩, ⟨4, .p (.fieldAddr 2), [.v 4], none, false⟩, ⟨5, .r (.load false 1), [.t 0], none, false⟩, ⟨6, .p .lenS, [.t 0], none, false⟩, ⟨7, .p (.bin .add), [.t 3, .t 0], none, false⟩, ⟨8, .p .mov, [.t 0], none, false⟩]
noncomputable def c6_r5 : List SOp := [⟨0, .p .mov, [.c (.int .i64 0)], none, false⟩]
noncomputable def c6_r6 : List SOp := [⟨0, .p .mov, [.v 8], none, false⟩, ⟨1, .p (.fieldAddr 3), [.v 4], none, false⟩, ⟨2, .r (.load false 1), [.t 0], none, false⟩, ⟨3, .p .lenS, [.t 0], none, false⟩, ⟨4, .p (.bin .lss), [.t 3, .t 0], none, false⟩]
noncomputable def c6_r7 : List SOp := [⟨0, .p .mov, [.v 7], none, false⟩, ⟨1, .p (.bin .add), [.t 0, .c (.int .i64 2)], none, false⟩, ⟨2, .p (.fieldAddr 3), [.v 4], none, false⟩, ⟨3, .r (.load false 1), [.t 0], none, false⟩, ⟨4, .p .mov, [.v 8], none, false⟩, ⟨5, .p (.idxAddrS 6), [.t 1, .t 0], none, false⟩, ⟨6, .p (.fieldAddr 5), [.t 0], none, false⟩, ⟨7, .r (.load false 1), [.t 0], none, false⟩, ⟨8, .call 16, [.t 0], none, false⟩, ⟨9, .p (.bin .add), [.t 7, .t 0], none, false⟩, ⟨10, .p .mov, [.t 0], none, false⟩]
noncomputable def c6_r8 : List SOp := [⟨0, .p .mov, [.v 8], none, false⟩, ⟨1, .p (.bin .add), [.t 0, .c (.int .i64 1)], none, false⟩, ⟨2, .p .mov, [.t 0], none, false⟩]
noncomputable def c6_l9 : CCode := (.seq (.rcond c6_r6 [] 0 .skip (.exit 0)) (.seq (.block 1 (.reg c6_r7 [(7, 0)])) (.reg c6_r8 [(8, 0)])))
noncomputable def c6_r10 : List SOp := [⟨0, .p .mov, [.c (.int .i64 0)], none, false⟩]
noncomputable def c6_r11 : List SOp := [⟨0, .p .mov, [.c (.int .i64 0)], none, false⟩]
noncomputable def c6_r12 : List SOp := [⟨0, .p .mov, [.v 10], none, false⟩, ⟨1, .p .mov, [.v 5], none, false⟩, ⟨2, .p .lenStr, [.t 0], none, false⟩, ⟨3, .p (.bin .lss), [.t 2, .t 0], none, false⟩]
noncomputable def c6_r13 : List SOp := [⟨0, .p .mov, [.v 5], none, false⟩, ⟨1, .p .mov, [.v 10], none, false⟩, ⟨2, .p .idxStr, [.t 1, .t 0], none, false⟩, ⟨3, .p (.bin .eql), [.t 0, .c (.int .u8 10)], none, false⟩]
noncomputable def c6_r14 : List SOp := [⟨0, .p .mov, [.v 9], none, false⟩, ⟨1, .p (.bin .add), [.t 0, .c (.int .i64 1)], none, false⟩, ⟨2, .p .mov, [.t 0], none, false⟩]
noncomputable def c6_r15 : List SOp := [⟨0, .p .mov, [.v 10], none, false⟩, ⟨1, .p (.bin .add), [.t 0, .c (.int .i64 1)], none, false⟩, ⟨2, .p .mov, [.t 0], none, false⟩]
noncomputable def c6_l16 : CCode := (.seq (.rcond c6_r12 [] 0 .skip (.exit 2)) (.seq (.block 3 (.rcond c6_r13 [] 0 (.reg c6_r14 [(9, 0)]) .skip)) (.reg c6_r15 [(10, 0)])))
noncomputable def c6_r17 : List SOp := [⟨0, .p .mov, [.v 3], none, false⟩, ⟨1, .p .mov, [.t 0], none, false⟩, ⟨2, .p .mov, [.v 6], some (0, true), false⟩, ⟨3, .p (.bin .eql), [.t 0, .c (.int .i64 0)], some (1, true), false⟩, ⟨4, .p .pick, [.t 2, .t 0, .c (.bool false)], none, false⟩, ⟨5, .p .mov, [.t 0], none, false⟩, ⟨6, .p .mov, [.v 9], some (0, true), false⟩, ⟨7, .p .mov, [.v 7], some (1, true), false⟩, ⟨8, .p (.bin .eql), [.t 1, .t 0], some (2, true), false⟩, ⟨9, .p .pick, [.t 3, .t 0, .c (.bool false)], none, false⟩, ⟨10, .p .mov, [.t 0], none, false⟩, ⟨11, .p .mov, [.v 5], some (0, true), false⟩, ⟨12, .p .lenStr, [.t 0], some (1, true), false⟩, ⟨13, .p (.bin .gtr), [.t 0, .c (.int .i64 0)], some (2, true), false⟩, ⟨14, .p .pick, [.t 3, .t 0, .c (.bool false)], none, false⟩, ⟨15, .p .mov, [.t 0], none, false⟩, ⟨16, .p .mov, [.v 5], some (0, true), false⟩, ⟨17, .p .mov, [.v 5], some (1, true), false⟩, ⟨18, .p .lenStr, [.t 0], some (2, true), false⟩, ⟨19, .p (.bin .sub), [.t 0, .c (.int .i64 1)], some (3, true), false⟩, ⟨20, .p .idxStr, [.t 3, .t 0], some (4, true), false⟩, ⟨21, .p (.bin .eql), [.t 0, .c (.int .u8 10)], some (5, true), false⟩, ⟨22, .p .pick, [.t 6, .t 0, .c (.bool false)], none, false⟩, ⟨23, .p .mov, [.t 0], none, false⟩]
noncomputable def c6 : CFn := { nargs := 2, vars := [0, 1, 4, 5, 6, 7, 8, 9, 10, 11, 12], results := [.var 2], body := (.seq (.reg c6_r0 [(2, 0)]) (.seq (.reg c6_r1 [(3, 0)]) (.seq (.reg c6_r2 [(4, 1)]) (.seq (.reg c6_r3 [(5, 1), (6, 0)]) (.seq (.reg c6_r4 [(7, 0)]) (.seq (.seq (.reg c6_r5 [(8, 0)]) (.block 0 (.loop c6_l9))) (.seq (.reg c6_r10 [(9, 0)]) (.seq (.seq (.reg c6_r11 [(10, 0)]) (.block 2 (.loop c6_l16))) (.seq (.reg c6_r17 [(2, 0)]) .ret))))))))) }

set_option maxRecDepth 100000 in
theorem ok6 : FnOk Tryd.prog 6 c6 := compF_ok (na := c6.nargs) (vars := c6.vars) (by kernel_rfl)
end Go.Eng.Sy

set_option linter.unusedSimpArgs false
set_option linter.unusedVariables false
namespace Go.Eng.Sy
open Go Go.Eng Go.Proofs

/-! ### how many lines -/
def kX (k : Int) : Nat := if (k == 5 || k == 7 || k == 6) then 1 else 0
mutual
def rowS : St → Nat
  | .mk k _ _ _ _ thn els => 1 + rowSs thn + rowSs els + kX k + (if 0 < els.length then 1 else 0)
def rowSs : List St → Nat
  | [] => 0
  | s :: r => rowS s + rowSs r
end
theorem rowS_eq (e : St) : rowS e = 1 + rowSs e.thn + rowSs e.els + kX e.kind + (if 0 < e.els.length then 1 else 0) := by cases e; rfl
theorem rowSs_take : ∀ (l : List St) (i : Nat) (e : St), l[i]? = some e → rowSs (l.take (i + 1)) = rowSs (l.take i) + rowS e
  | [], i, e, h => by simp at h
  | a :: r, 0, e, h => by simp at h; subst h; simp [rowSs]
  | a :: r, i + 1, e, h => by have := rowSs_take r i e (by simpa using h); simp only [List.take_succ_cons, rowSs, this]; omega
theorem rowSs_mem : ∀ {l : List St} {i : Nat} {e : St}, l[i]? = some e → rowS e ≤ rowSs l
  | [], i, e, h => by simp at h
  | a :: r, 0, e, h => by simp at h; subst h; simp [rowSs]
  | a :: r, i + 1, e, h => by have := rowSs_mem (l := r) (i := i) (by simpa using h); simp only [rowSs]; omega
theorem rowSs_take_le : ∀ (l : List St) (i : Nat), rowSs (l.take i) ≤ rowSs l
  | [], i => by simp
  | a :: r, 0 => by simp [rowSs]
  | a :: r, i + 1 => by have := rowSs_take_le r i; simp only [List.take_succ_cons, rowSs]; omega
theorem rows_c : ∀ (M : Nat) (l : List St), cntSs l ≤ M → rowSs l ≤ 1000000000 → ∀ (v : Value) (h : Heap) (Q : Value → Heap → Prop), StsV h v l → (∀ h', h.le h' → Q (.int .i64 (rowSs l : Nat)) h') → CallW Tryd.prog 16 [v] h Q := by
  intro M
  induction M using Nat.strongRecOn with
  | _ M ih =>
  intro l hM hB v h Q hv hq
  have hln := hv.len
  have hle := hv.le
  replace ih := Hid.mk ih; replace hv := Hid.mk hv
  refine call_of1 (k := 1) ok16 rfl rfl rfl fun N => ?_
  rw [show env0 c16 [v] = [v, undef, undef, undef, undef, undef] from rfl]
  delta c16 c16_r0 c16_r1 c16_r2 c16_r3 c16_r4 c16_r5 c16_r6 c16_r7 c16_r8 c16_r9 c16_r10 c16_r11 c16_r12 c16_r14
  replace hq := Hid.mk hq
  repeat' (first | simp -implicitDefEqProofs only [walkL, aR, aW, aBin, aInt, Int.reduceBEq, Int.reduceBNe, Nat.reduceBEq, Int.reduceLT, Int.reduceLE, *] | with_reducible (first | refine cndK_d ?_ ?_ | refine grdK_d ?_ ?_ | refine cndK_i ?_ ?_ | refine grdK_i ?_ ?_) <;> intro hc)
  refine LoopW.upto l.length (fun i e h1 => h.le h1 ∧ ∃ x4 x5, e = [v, .int .i64 0, .int .i64 (rowSs (l.take i) : Nat), .int .i64 i, x4, x5]) ?_ (Nat.zero_le _) ⟨Heap.le.refl h, _, _, rfl⟩
  rintro i _ h1 R hi ⟨hl1, x4, x5, rfl⟩ hR
  delta c16_l13 c16_r0 c16_r1 c16_r2 c16_r3 c16_r4 c16_r5 c16_r6 c16_r7 c16_r8 c16_r9 c16_r10 c16_r11 c16_r12 c16_r14
  by_cases hlt : i < l.length
  · have hlt' : (i : Int) < l.length := by omega
    obtain ⟨e, he⟩ : ∃ e, l[i]? = some e := ⟨_, List.getElem?_eq_getElem hlt⟩
    obtain ⟨id, off, cells, own, x, e1, e2, e3, hex, ex⟩ := (hv.h.mono hl1).elem he
    obtain ⟨v1, v2, v3, hval, hargs, hthn, hels⟩ := hex.cells
    rw [hval] at ex
    have y0 : cells[off]? = some (.int .i64 e.kind) := ex 0 (by omega)
    have y5 : cells[off + 5]? = some v2 := ex 5 (by omega)
    have y6 : cells[off + 6]? = some v3 := ex 6 (by omega)
    have hw : IntKind.i64.wrap ((i : Int) + 1) = ((i + 1 : Nat) : Int) := by rw [wrapI (by omega) (by omega)]; rfl
    have hmem := cntSs_mem he
    have hce := cntS_eq e
    have htk := rowSs_take l i e he
    have hrs := rowS_eq e
    have hbt := rowSs_take_le l (i + 1)
    obtain ⟨A, hA⟩ : ∃ A, rowSs (l.take i) = A := ⟨_, rfl⟩
    obtain ⟨B, hB'⟩ : ∃ A, rowSs e.thn = A := ⟨_, rfl⟩
    obtain ⟨C, hC⟩ : ∃ A, rowSs e.els = A := ⟨_, rfl⟩
    rw [hA]
    have w1 : IntKind.i64.wrap ((A : Int) + 1) = ((A + 1 : Nat) : Int) := by rw [wrapI (by omega) (by omega)]; rfl
    have w2 : IntKind.i64.wrap (((A + 1 : Nat) : Int) + (B : Int)) = ((A + 1 + B : Nat) : Int) := by rw [wrapI (by omega) (by omega)]; rfl
    have w3 : IntKind.i64.wrap (((A + 1 + B : Nat) : Int) + (C : Int)) = ((A + 1 + B + C : Nat) : Int) := by rw [wrapI (by omega) (by omega)]; rfl
    obtain ⟨X, hX⟩ : ∃ X, A + 1 + B + C = X := ⟨_, rfl⟩
    rw [hX] at w3
    have w4 : IntKind.i64.wrap ((X : Int) + 1) = ((X + 1 : Nat) : Int) := by rw [wrapI (by omega) (by omega)]; rfl
    have w5 : IntKind.i64.wrap (((X + 1 : Nat) : Int) + 1) = ((X + 2 : Nat) : Int) := by rw [wrapI (by omega) (by omega)]; rfl
    have hbe : e.els.length ≤ 140737488355328 := hels.le
    have le3 := hels.len
    replace hl1 := Hid.mk hl1
    replace hthn := Hid.mk hthn; replace hels := Hid.mk hels; replace htk := Hid.mk htk; replace hrs := Hid.mk hrs; replace hX := Hid.mk hX; replace hA := Hid.mk hA; replace hB' := Hid.mk hB'; replace hC := Hid.mk hC; replace hmem := Hid.mk hmem; replace hce := Hid.mk hce; replace hbt := Hid.mk hbt; replace hbe := Hid.mk hbe
    clear hargs hex hval ex e3
    repeat' (first | simp -implicitDefEqProofs only [walkL, aR, aW, aBin, aInt, Int.reduceBEq, Int.reduceBNe, Nat.reduceBEq, Int.reduceLT, Int.reduceLE, *] | with_reducible (first | refine cndK_d ?_ ?_ | refine grdK_d ?_ ?_ | refine cndK_i ?_ ?_ | refine grdK_i ?_ ?_) <;> intro hc)
    refine ih.h (cntSs e.thn) (by have := hmem.h; have := hce.h; omega) e.thn (Nat.le_refl _) (by have := htk.h; have := hrs.h; have := hbt.h; omega) v2 _ _ hthn.h fun h3 l3 => turn0 l3.ext ?_
    have e23 := l3.get e2
    have hs3 := hels.h.mono l3
    have l3 := hl1.h.trans l3
    rw [hB'.h]
    replace hs3 := Hid.mk hs3; replace l3 := Hid.mk l3
    repeat' (first | simp -implicitDefEqProofs only [walkL, aR, aW, aBin, aInt, Int.reduceBEq, Int.reduceBNe, Nat.reduceBEq, Int.reduceLT, Int.reduceLE, *] | with_reducible (first | refine cndK_d ?_ ?_ | refine grdK_d ?_ ?_ | refine cndK_i ?_ ?_ | refine grdK_i ?_ ?_) <;> intro hc)
    refine ih.h (cntSs e.els) (by have := hmem.h; have := hce.h; omega) e.els (Nat.le_refl _) (by have := htk.h; have := hrs.h; have := hbt.h; omega) v3 _ _ hs3.h fun h4 l4 => ?_
    have e24 := l4.get e23
    have l4 := l3.h.trans l4
    rw [hC.h]
    have g := hR.h
    clear hR
    replace l4 := Hid.mk l4; replace g := Hid.mk g
    have hk4 : (e.kind == 5) = true ∧ kX e.kind = 1 ∨ (e.kind == 5) = false ∧ (e.kind == 7) = true ∧ kX e.kind = 1 ∨ (e.kind == 5) = false ∧ (e.kind == 7) = false ∧ (e.kind == 6) = true ∧ kX e.kind = 1 ∨ (e.kind == 5) = false ∧ (e.kind == 7) = false ∧ (e.kind == 6) = false ∧ kX e.kind = 0 := by
      unfold kX
      cases (e.kind == 5) <;> cases (e.kind == 7) <;> cases (e.kind == 6) <;> simp
    have htk := htk.h
    have hrs := hrs.h
    have hX' := hX.h
    rw [hrs, hA.h, hB'.h, hC.h] at htk
    clear e2 e23 hX hA hB' hC hmem hce hbt hbe hrs hthn hels hs3 l3
    by_cases zE : (0 : Int) < (e.els.length : Int)
    · rw [if_pos (by omega)] at htk
      rcases hk4 with ⟨c5, ek⟩ | ⟨c5, c7, ek⟩ | ⟨c5, c7, c6, ek⟩ | ⟨c5, c7, c6, ek⟩ <;> rw [ek] at htk
      · have et : rowSs (l.take (i + 1)) = X + 2 := by omega
        rw [← et] at w5
        clear htk ek et hX'
        repeat' (first | simp -implicitDefEqProofs only [walkL, aR, aW, aBin, aInt, Int.reduceBEq, Int.reduceBNe, Nat.reduceBEq, Int.reduceLT, Int.reduceLE, *] | with_reducible (first | refine cndK_d ?_ ?_ | refine grdK_d ?_ ?_ | refine cndK_i ?_ ?_ | refine grdK_i ?_ ?_) <;> intro hc)
        exact g.h _ _ hlt ⟨l4.h, _, _, rfl⟩
      · have et : rowSs (l.take (i + 1)) = X + 2 := by omega
        rw [← et] at w5
        clear htk ek et hX'
        repeat' (first | simp -implicitDefEqProofs only [walkL, aR, aW, aBin, aInt, Int.reduceBEq, Int.reduceBNe, Nat.reduceBEq, Int.reduceLT, Int.reduceLE, *] | with_reducible (first | refine cndK_d ?_ ?_ | refine grdK_d ?_ ?_ | refine cndK_i ?_ ?_ | refine grdK_i ?_ ?_) <;> intro hc)
        exact g.h _ _ hlt ⟨l4.h, _, _, rfl⟩
      · have et : rowSs (l.take (i + 1)) = X + 2 := by omega
        rw [← et] at w5
        clear htk ek et hX'
        repeat' (first | simp -implicitDefEqProofs only [walkL, aR, aW, aBin, aInt, Int.reduceBEq, Int.reduceBNe, Nat.reduceBEq, Int.reduceLT, Int.reduceLE, *] | with_reducible (first | refine cndK_d ?_ ?_ | refine grdK_d ?_ ?_ | refine cndK_i ?_ ?_ | refine grdK_i ?_ ?_) <;> intro hc)
        exact g.h _ _ hlt ⟨l4.h, _, _, rfl⟩
      · have et : rowSs (l.take (i + 1)) = X + 1 := by omega
        rw [← et] at w4
        clear htk ek et hX'
        repeat' (first | simp -implicitDefEqProofs only [walkL, aR, aW, aBin, aInt, Int.reduceBEq, Int.reduceBNe, Nat.reduceBEq, Int.reduceLT, Int.reduceLE, *] | with_reducible (first | refine cndK_d ?_ ?_ | refine grdK_d ?_ ?_ | refine cndK_i ?_ ?_ | refine grdK_i ?_ ?_) <;> intro hc)
        exact g.h _ _ hlt ⟨l4.h, _, _, rfl⟩
    · rw [if_neg (by omega)] at htk
      rcases hk4 with ⟨c5, ek⟩ | ⟨c5, c7, ek⟩ | ⟨c5, c7, c6, ek⟩ | ⟨c5, c7, c6, ek⟩ <;> rw [ek] at htk
      · have et : rowSs (l.take (i + 1)) = X + 1 := by omega
        rw [← et] at w4
        clear htk ek et hX'
        repeat' (first | simp -implicitDefEqProofs only [walkL, aR, aW, aBin, aInt, Int.reduceBEq, Int.reduceBNe, Nat.reduceBEq, Int.reduceLT, Int.reduceLE, *] | with_reducible (first | refine cndK_d ?_ ?_ | refine grdK_d ?_ ?_ | refine cndK_i ?_ ?_ | refine grdK_i ?_ ?_) <;> intro hc)
        exact g.h _ _ hlt ⟨l4.h, _, _, rfl⟩
      · have et : rowSs (l.take (i + 1)) = X + 1 := by omega
        rw [← et] at w4
        clear htk ek et hX'
        repeat' (first | simp -implicitDefEqProofs only [walkL, aR, aW, aBin, aInt, Int.reduceBEq, Int.reduceBNe, Nat.reduceBEq, Int.reduceLT, Int.reduceLE, *] | with_reducible (first | refine cndK_d ?_ ?_ | refine grdK_d ?_ ?_ | refine cndK_i ?_ ?_ | refine grdK_i ?_ ?_) <;> intro hc)
        exact g.h _ _ hlt ⟨l4.h, _, _, rfl⟩
      · have et : rowSs (l.take (i + 1)) = X + 1 := by omega
        rw [← et] at w4
        clear htk ek et hX'
        repeat' (first | simp -implicitDefEqProofs only [walkL, aR, aW, aBin, aInt, Int.reduceBEq, Int.reduceBNe, Nat.reduceBEq, Int.reduceLT, Int.reduceLE, *] | with_reducible (first | refine cndK_d ?_ ?_ | refine grdK_d ?_ ?_ | refine cndK_i ?_ ?_ | refine grdK_i ?_ ?_) <;> intro hc)
        exact g.h _ _ hlt ⟨l4.h, _, _, rfl⟩
      · have et : rowSs (l.take (i + 1)) = X := by omega
        rw [← et] at w3
        clear htk ek et hX'
        repeat' (first | simp -implicitDefEqProofs only [walkL, aR, aW, aBin, aInt, Int.reduceBEq, Int.reduceBNe, Nat.reduceBEq, Int.reduceLT, Int.reduceLE, *] | with_reducible (first | refine cndK_d ?_ ?_ | refine grdK_d ?_ ?_ | refine cndK_i ?_ ?_ | refine grdK_i ?_ ?_) <;> intro hc)
        exact g.h _ _ hlt ⟨l4.h, _, _, rfl⟩
  · have hlt' : ¬ (i : Int) < l.length := by omega
    have hi2 : i = l.length := by omega
    subst hi2
    have g := hq.h h1 hl1
    rw [← List.take_length (l := l)] at g
    replace g := Hid.mk g
    repeat' (first | simp -implicitDefEqProofs only [walkL, aR, aW, aBin, aInt, Int.reduceBEq, Int.reduceBNe, Nat.reduceBEq, Int.reduceLT, Int.reduceLE, *] | with_reducible (first | refine cndK_d ?_ ?_ | refine grdK_d ?_ ?_ | refine cndK_i ?_ ?_ | refine grdK_i ?_ ?_) <;> intro hc)
    exact g.h
end Go.Eng.Sy

set_option linter.unusedSimpArgs false
set_option linter.unusedVariables false
namespace Go.Eng.Sy
open Go Go.Eng Go.Proofs

/-! ### a text's length -/
theorem printSs_len {t K : Nat} : ∀ {l : List St}, (∀ s ∈ l, (printS t s).length ≤ K) → (printSs t l).length ≤ l.length * K
  | [], _ => by simp [printSs]
  | a :: r, h => by
    have h1 := h a (by simp)
    have h2 := printSs_len (l := r) fun s hs => h s (by simp [hs])
    simp only [printSs, List.length_append, List.length_cons, Nat.succ_mul]; omega
theorem decL_le {n : Nat} (h : n < 4294967296) : (decL n).length ≤ 10 := decL_len 9 n (by omega)
theorem printS_len : ∀ (d : Nat) (s : St), StG s d → ∀ t, t + d ≤ 10 → (printS t s).length ≤ 3000 * 7 ^ d
  | 0, s, h, t, _ => by cases h
  | d + 1, s, h, t, ht => by
    have e5 : ∀ {a : Ex}, ExI a 5 → (textE a).length ≤ 930 := fun h => by have := textE_len h; omega
    have sub : ∀ {l : List St}, l.length ≤ 3 → (∀ s ∈ l, StG s d) → (printSs (t + 1) l).length ≤ 3 * (3000 * 7 ^ d) := fun {l} hl hs => by
      refine Nat.le_trans (printSs_len fun s h => printS_len d s (hs s h) (t + 1) (by omega)) ?_
      exact Nat.mul_le_mul_right _ hl
    have hp : 1 ≤ 7 ^ d := Nat.one_le_pow _ _ (by omega)
    rw [Nat.pow_succ]
    cases h with
    | set m a d h ha =>
      have := isName_len h; have := e5 ha
      simp [printS, mkStmt, lineL, tabsL, arg0]; omega
    | get m f n d h hf hn =>
      have := isName_len h; have := isName_len hf; have := decL_le (n := n) (by omega)
      simp [printS, mkStmt, lineL, tabsL]; omega
    | put m n a d h hn ha =>
      have := isName_len h; have := e5 ha; have := decL_le (n := n) (by omega)
      simp [printS, mkStmt, lineL, tabsL, arg0]; omega
    | store m a b d h ha hb =>
      have := isName_len h; have := e5 ha; have := e5 hb
      simp [printS, mkStmt, lineL, tabsL, arg0, arg1]; omega
    | lock m thn d h hl hs =>
      have := isName_len h; have := sub hl hs
      simp [printS, mkStmt, lineL, tabsL, bracedL, printSs]; omega
    | cond a thn els d ha hl hl' hs hs' =>
      have := e5 ha; have := sub hl hs; have := sub hl' hs'
      simp [printS, mkStmt, lineL, tabsL, bracedL, arg0]
      split <;> simp <;> omega
    | rep n thn d hn hl hs =>
      have := decL_le (n := n) (by omega); have := sub hl hs
      simp [printS, mkStmt, lineL, tabsL, bracedL, printSs]; omega
    | halt d => simp [printS, mkStmt, lineL, tabsL]; omega
theorem flat_len {α : Type} {K : Nat} {f : α → List UInt8} : ∀ {l : List α}, (∀ x ∈ l, (f x).length ≤ K) → ((l.map f).flatten).length ≤ l.length * K
  | [], _ => by simp
  | a :: r, h => by
    have h1 := h a (by simp)
    have h2 := flat_len (l := r) (f := f) fun s hs => h s (by simp [hs])
    simp only [List.map_cons, List.flatten_cons, List.length_append, List.length_cons, Nat.succ_mul]; omega
theorem printT_len {t : Tsk} (ht : t.good) : (printT t).length ≤ 30000000 := by
  have h1 := isName_len ht.name
  have h2 := ht.hart
  have h3 := ht.prio
  have h4 : t.line ≤ 7 := by have := ht.line.2; split at this <;> omega
  have h5 := printSs_len (t := 1) fun s hs => printS_len 4 s (ht.body s hs) 1 (by omega)
  have h6 := ht.len
  have d1 := decL_le (n := t.hart.toNat) (by omega)
  have d2 := decL_le (n := t.prio.toNat) (by omega)
  have d3 := decL_le (n := t.line.toNat) (by omega)
  have h7 : t.body.length * (3000 * 7 ^ 4) ≤ 3 * (3000 * 7 ^ 4) := Nat.mul_le_mul_right _ h6
  unfold printT
  split <;> simp [lineL, tabsL, headT] <;> omega
theorem kindsL_len : ∀ k : Fin 4, (kindsL.getD k.val []).length ≤ 10 := by decide
theorem printP_len {g : Prg} (hg : g.good) : (printP g).length ≤ maxL := by
  have h1 := hg.harts
  have h2 : ∀ d ∈ g.devs, (printD d).length ≤ 100 := fun d hd => by
    obtain ⟨a, b, c⟩ := hg.devs d hd
    have := isName_len a
    have := kindsL_len ⟨d.n.toNat, by omega⟩
    simp [printD, lineL, tabsL] at *; omega
  have h3 : ∀ d ∈ g.ress, (printR d).length ≤ 100 := fun d hd => by
    obtain ⟨a, b, c⟩ := hg.ress d hd
    have := isName_len a
    have := decL_le (n := d.n.toNat) (by omega)
    simp [printR, lineL, tabsL]; omega
  have f1 := flat_len h2
  have f2 := flat_len h3
  have f3 := flat_len (f := printT) fun t ht => printT_len (hg.tasks t ht)
  have l1 := hg.dl
  have l2 := hg.rl
  have l3 := hg.tl.2
  have d1 := decL_le (n := g.harts.toNat) (by omega)
  have m1 : g.devs.length * 100 ≤ 3 * 100 := Nat.mul_le_mul_right _ l1
  have m2 : g.ress.length * 100 ≤ 2 * 100 := Nat.mul_le_mul_right _ l2
  have m3 : g.tasks.length * 30000000 ≤ 6 * 30000000 := Nat.mul_le_mul_right _ l3
  unfold printP maxL
  simp only [List.length_append]
  have : (lineL 0 [[104, 97, 114, 116, 115, 32], decL g.harts.toNat]).length ≤ 30 := by simp [lineL, tabsL]; omega
  omega
/-! ### its line feeds -/
theorem lf_line {n : Nat} {ls : List (List UInt8)} (h : ∀ l ∈ ls, (10 : UInt8) ∉ l) : List.count 10 (lineL n ls) = 1 := by
  have h1 : (10 : UInt8) ∉ tabsL n ++ ls.flatten := by
    simp only [List.mem_append, List.mem_flatten, not_or, not_exists, not_and]
    exact ⟨fun hm => by have := List.eq_of_mem_replicate hm; exact absurd this (by decide), fun l hl => h l hl⟩
  unfold lineL
  rw [List.count_append, List.count_eq_zero.2 h1]
  rfl
theorem isName_lf {m : List UInt8} (h : isName m = true) : (10 : UInt8) ∉ m := by
  intro hm
  cases m with
  | nil => simp at hm
  | cons b r =>
    simp only [isName, Bool.and_eq_true, decide_eq_true_eq, beq_iff_eq] at h
    have h2 : ((b :: r).takeWhile nm).length = (b :: r).length := h.1.1.2
    have h3 : (b :: r).takeWhile nm = b :: r := (List.takeWhile_prefix nm).eq_of_length h2
    have h4 : (10 : UInt8) ∈ (b :: r).takeWhile nm := by rw [h3]; exact hm
    have h5 := List.all_takeWhile (p := nm) (l := b :: r)
    have := List.all_eq_true.1 h5 10 h4
    revert this; decide
theorem decL_lf (n : Nat) : (10 : UInt8) ∉ decL n := by
  induction n using Nat.strongRecOn with
  | _ n ih =>
  have hd : (10 : UInt8) ≠ UInt8.ofNat (48 + n % 10) := by
    have : n % 10 < 10 := Nat.mod_lt _ (by omega)
    generalize n % 10 = k at *
    intro e
    have := congrArg UInt8.toNat e
    simp at this
    omega
  unfold decL
  split
  · simp only [List.mem_append, List.mem_singleton, not_or]; exact ⟨ih _ (by omega), hd⟩
  · simpa using hd
theorem signL_lf {o : Int} (h : 1 ≤ o ∧ o ≤ 17) : (10 : UInt8) ∉ signL o := by
  have : o = 1 ∨ o = 2 ∨ o = 3 ∨ o = 4 ∨ o = 5 ∨ o = 6 ∨ o = 7 ∨ o = 8 ∨ o = 9 ∨ o = 10 ∨ o = 11 ∨ o = 12 ∨ o = 13 ∨ o = 14 ∨ o = 15 ∨ o = 16 ∨ o = 17 := by omega
  rcases this with rfl | rfl | rfl | rfl | rfl | rfl | rfl | rfl | rfl | rfl | rfl | rfl | rfl | rfl | rfl | rfl | rfl <;> decide
theorem wrapP_lf {e : Ex} {k : Nat} {s : List UInt8} (h : (10 : UInt8) ∉ s) : (10 : UInt8) ∉ wrapP e k s := by
  unfold wrapP; split
  · simp [h]
  · exact h
theorem textE_lf {e : Ex} {d : Nat} (h : ExI e d) : (10 : UInt8) ∉ textE e := by
  induction h with
  | num n d h => exact decL_lf _
  | var m d h => exact isName_lf h
  | one o a d h ha ih =>
    have := signL_lf (o := o) (by omega)
    have := wrapP_lf (e := a) (k := 9) ih
    simp_all [textE, textEs, mkText]
  | two o a b d h ha hb iha ihb =>
    have := signL_lf (o := o) (by omega)
    have := wrapP_lf (e := a) (k := levelN o) iha
    have := wrapP_lf (e := b) (k := levelN o + 1) ihb
    simp_all [textE, textEs, mkText]
  | idx m a d h ha ih =>
    have := isName_lf h
    simp_all [textE, textEs, mkText]
theorem printSs_lf {t : Nat} : ∀ {l : List St}, (∀ s ∈ l, List.count 10 (printS t s) = rowS s) → List.count 10 (printSs t l) = rowSs l
  | [], _ => rfl
  | a :: r, h => by
    have h1 := h a (by simp)
    have h2 := printSs_lf (l := r) fun s hs => h s (by simp [hs])
    simp only [printSs, rowSs, List.count_append] at *; omega
theorem printS_lf : ∀ (d : Nat) (s : St), StI s d → ∀ t, List.count 10 (printS t s) = rowS s
  | 0, s, h, t => by cases h
  | d + 1, s, h, t => by
    cases h with
    | set m a d h ha =>
      have h1 := isName_lf h; have h2 := textE_lf ha
      show List.count 10 (lineL _ _) = _
      rw [lf_line (by simp [arg0, h1, h2])]; rfl
    | get m f n d h hf hn =>
      have h1 := isName_lf h; have h2 := isName_lf hf; have h3 := decL_lf n
      show List.count 10 (lineL _ _) = _
      rw [lf_line (by simp [h1, h2, h3])]; rfl
    | put m n a d h hn ha =>
      have h1 := isName_lf h; have h2 := textE_lf ha; have h3 := decL_lf n
      show List.count 10 (lineL _ _) = _
      rw [lf_line (by simp [arg0, h1, h2, h3])]; rfl
    | store m a b d h ha hb =>
      have h1 := isName_lf h; have h2 := textE_lf ha; have h3 := textE_lf hb
      show List.count 10 (lineL _ _) = _
      rw [lf_line (by simp [arg0, arg1, h1, h2, h3])]; rfl
    | lock m thn d h hs =>
      have h1 := isName_lf h
      have h2 := printSs_lf (t := t + 1) fun s h => printS_lf d s (hs s h) (t + 1)
      show List.count 10 (lineL _ _ ++ _ ++ [] ++ lineL _ _) = _
      simp only [List.count_append, List.count_nil] at h2 ⊢
      rw [h2, lf_line (by simp [h1]), lf_line (by simp)]
      (simp [rowS, rowSs, kX]) <;> omega
    | cond a thn els d ha hs hs' =>
      have h1 := textE_lf ha
      have h2 := printSs_lf (t := t + 1) fun s h => printS_lf d s (hs s h) (t + 1)
      have h3 := printSs_lf (t := t + 1) fun s h => printS_lf d s (hs' s h) (t + 1)
      show List.count 10 (lineL _ _ ++ _ ++ (if (!els.isEmpty) = true then _ ++ _ else []) ++ lineL _ _) = _
      cases els with
      | nil =>
        simp only [List.count_append, List.isEmpty_nil, Bool.not_true, Bool.false_eq_true, if_false, List.count_nil] at h2 ⊢
        rw [h2, lf_line (by simp [arg0, h1]), lf_line (by simp)]
        (simp [rowS, rowSs, kX]) <;> omega
      | cons x r =>
        simp only [List.count_append, List.isEmpty_cons, Bool.not_false, if_true] at h2 h3 ⊢
        rw [h2, h3, lf_line (by simp [arg0, h1]), lf_line (by simp), lf_line (by simp)]
        simp [rowS, kX]; omega
    | rep n thn d hn hs =>
      have h1 := decL_lf n
      have h2 := printSs_lf (t := t + 1) fun s h => printS_lf d s (hs s h) (t + 1)
      show List.count 10 (lineL _ _ ++ _ ++ [] ++ lineL _ _) = _
      simp only [List.count_append, List.count_nil] at h2 ⊢
      rw [h2, lf_line (by simp [h1]), lf_line (by simp)]
      (simp [rowS, rowSs, kX]) <;> omega
    | halt d =>
      show List.count 10 (lineL _ _) = _
      rw [lf_line (by simp)]; rfl
def rowTs : List Tsk → Nat
  | [] => 0
  | t :: r => 2 + rowSs t.body + rowTs r
theorem printT_lf {t : Tsk} (ht : t.good) : List.count 10 (printT t) = 2 + rowSs t.body := by
  have h1 := isName_lf ht.name
  have d1 := decL_lf t.hart.toNat
  have d2 := decL_lf t.prio.toNat
  have d3 := decL_lf t.line.toNat
  have h2 := printSs_lf (t := 1) fun s hs => printS_lf 30 s ((ht.body s hs).right (by omega)) 1
  unfold printT
  split
  · simp only [List.count_append] at h2 ⊢
    rw [h2, lf_line (by simp [headT, h1, d1, d2, d3]), lf_line (by simp)]; omega
  · simp only [List.count_append] at h2 ⊢
    rw [h2, lf_line (by simp [headT, h1, d1, d2]), lf_line (by simp)]; omega
theorem printTs_lf : ∀ {l : List Tsk}, (∀ t ∈ l, t.good) → List.count 10 (l.map printT).flatten = rowTs l
  | [], _ => rfl
  | a :: r, h => by
    have h1 := printT_lf (h a (by simp))
    have h2 := printTs_lf (l := r) fun s hs => h s (by simp [hs])
    simp only [List.map_cons, List.flatten_cons, List.count_append, rowTs] at *; omega
theorem flat_lf {α : Type} {f : α → List UInt8} : ∀ {l : List α}, (∀ x ∈ l, List.count 10 (f x) = 1) → List.count 10 (l.map f).flatten = l.length
  | [], _ => rfl
  | a :: r, h => by
    have h1 := h a (by simp)
    have h2 := flat_lf (l := r) (f := f) fun s hs => h s (by simp [hs])
    simp only [List.map_cons, List.flatten_cons, List.count_append, List.length_cons] at *; omega
theorem kindsL_lf : ∀ k : Fin 4, (10 : UInt8) ∉ kindsL.getD k.val [] := by decide
theorem printP_lf {g : Prg} (hg : g.good) : List.count 10 (printP g) = 1 + g.devs.length + g.ress.length + rowTs g.tasks := by
  have f1 := flat_lf (f := printD) (l := g.devs) fun d hd => by
    obtain ⟨a, b, c⟩ := hg.devs d hd
    have h1 := isName_lf a
    have h2 := kindsL_lf ⟨d.n.toNat, by omega⟩
    unfold printD
    exact lf_line (by simp at h2; simp [h1, h2])
  have f2 := flat_lf (f := printR) (l := g.ress) fun d hd => by
    obtain ⟨a, b, c⟩ := hg.ress d hd
    have h1 := isName_lf a
    have h2 := decL_lf d.n.toNat
    unfold printR
    exact lf_line (by simp [h1, h2])
  have f3 := printTs_lf hg.tasks
  have h4 := decL_lf g.harts.toNat
  have f0 : List.count 10 (lineL 0 [[104, 97, 114, 116, 115, 32], decL g.harts.toNat]) = 1 := lf_line (by simp [h4])
  unfold printP
  simp only [List.count_append] at *
  omega
theorem printP_last {g : Prg} (hg : g.good) : 0 < (printP g).length ∧ (printP g)[(printP g).length - 1]? = some 10 := by
  have key : ∃ l, printP g = l ++ [10] := by
    have hl := hg.tl.1
    obtain ⟨ts, t, ht⟩ : ∃ ts t, g.tasks = ts ++ [t] := ⟨g.tasks.dropLast, g.tasks.getLast (by intro e; simp [e] at hl), (List.dropLast_concat_getLast _).symm⟩
    unfold printP
    rw [ht]
    simp only [List.map_append, List.map_cons, List.map_nil, List.flatten_append, List.flatten_cons, List.flatten_nil, List.append_nil, printT, lineL]
    exact ⟨_, by simp only [← List.append_assoc]; rfl⟩
  obtain ⟨l, e⟩ := key
  rw [e]
  simp
/-! ### how many -/
theorem rowSs_all {K : Nat} : ∀ {l : List St}, (∀ s ∈ l, rowS s ≤ K) → rowSs l ≤ l.length * K
  | [], _ => by simp [rowSs]
  | a :: r, h => by
    have h1 := h a (by simp)
    have h2 := rowSs_all (l := r) fun s hs => h s (by simp [hs])
    simp only [rowSs, List.length_cons, Nat.succ_mul]; omega
theorem rowS_le : ∀ (d : Nat) (s : St), StG s d → rowS s ≤ 3 * 7 ^ d
  | 0, s, h => by cases h
  | d + 1, s, h => by
    have sub : ∀ {l : List St}, l.length ≤ 3 → (∀ s ∈ l, StG s d) → rowSs l ≤ 3 * (3 * 7 ^ d) := fun {l} hl hs => by
      refine Nat.le_trans (rowSs_all fun s h => rowS_le d s (hs s h)) ?_
      exact Nat.mul_le_mul_right _ hl
    have hp : 1 ≤ 7 ^ d := Nat.one_le_pow _ _ (by omega)
    have hk : ∀ k, kX k ≤ 1 := fun k => by unfold kX; split <;> omega
    rw [Nat.pow_succ]
    cases h with
    | set m a d h ha => simp [rowS, rowSs, kX]; omega
    | get m f n d h hf hn => simp [rowS, rowSs, kX]; omega
    | put m n a d h hn ha => simp [rowS, rowSs, kX]; omega
    | store m a b d h ha hb => simp [rowS, rowSs, kX]; omega
    | lock m thn d h hl hs => have := sub hl hs; simp [rowS, rowSs, kX]; omega
    | cond a thn els d ha hl hl' hs hs' =>
      have := sub hl hs; have := sub hl' hs'
      simp only [rowS, kX]
      split <;> split <;> omega
    | rep n thn d hn hl hs => have := sub hl hs; simp [rowS, rowSs, kX]; omega
    | halt d => simp [rowS, rowSs, kX]; omega
theorem Tsk.good.rows {t : Tsk} (ht : t.good) : rowSs t.body ≤ 25000 := by
  have h1 := rowSs_all fun s hs => rowS_le 4 s (ht.body s hs)
  have h2 : t.body.length * (3 * 7 ^ 4) ≤ 3 * (3 * 7 ^ 4) := Nat.mul_le_mul_right _ ht.len
  omega
theorem rowTs_take : ∀ (l : List Tsk) (i : Nat) (e : Tsk), l[i]? = some e → rowTs (l.take (i + 1)) = rowTs (l.take i) + 2 + rowSs e.body
  | [], i, e, h => by simp at h
  | a :: r, 0, e, h => by simp at h; subst h; simp [rowTs]
  | a :: r, i + 1, e, h => by have := rowTs_take r i e (by simpa using h); simp only [List.take_succ_cons, rowTs, this]; omega
theorem rowTs_le : ∀ {l : List Tsk}, (∀ t ∈ l, t.good) → rowTs l ≤ l.length * 25002
  | [], _ => by simp [rowTs]
  | a :: r, h => by
    have h1 := (h a (by simp)).rows
    have h2 := rowTs_le (l := r) fun s hs => h s (by simp [hs])
    simp only [rowTs, List.length_cons, Nat.succ_mul]; omega
end Go.Eng.Sy

set_option linter.unusedSimpArgs false
set_option linter.unusedVariables false
namespace Go.Eng.Sy
open Go Go.Eng Go.Proofs

theorem TssV.elem5 {h : Heap} {v : Value} {l : List Tsk} (hv : TssV h v l) {i : Nat} {e : Tsk} (hi : l[i]? = some e) :
    ∃ id off cells own u, pIdxAddrS 6 [v, .int .i64 i] = some (.pointer (some ⟨id, off, none⟩)) ∧ h.get id = some (.blk cells own) ∧ cells[off + 5]? = some u ∧ StsV h u e.body := by
  obtain ⟨xs, a, c, b⟩ := hv
  obtain ⟨x, h1, u, rfl, h2⟩ := b.get i e hi
  obtain ⟨id, off, cells, own, g1, g2, g3, g4⟩ := a.elem h1
  exact ⟨id, off, cells, own, u, g1, g2, g4 5 (by omega), h2⟩
theorem count_take (l : List UInt8) (i : Nat) (b : UInt8) (hi : l[i]? = some b) : (l.take (i + 1)).count 10 = (l.take i).count 10 + (if b = 10 then 1 else 0) := by
  rw [List.take_add_one, hi, List.count_append]
  by_cases h : b = 10
  · subst h; simp
  · simp [h]
theorem rowTs_take_le : ∀ (l : List Tsk) (i : Nat), rowTs (l.take i) ≤ rowTs l
  | [], i => by simp
  | a :: r, 0 => by simp [rowTs]
  | a :: r, i + 1 => by have := rowTs_take_le r i; simp only [List.take_succ_cons, rowTs]; omega
set_option maxHeartbeats 1000000 in
theorem rowsLaw_c {h : Heap} {v1 : Value} {raw : List Int} (h1 : Ints h v1 raw) (i1 : ∀ z ∈ raw, inI z) (all : Bool) (Q : Value → Heap → Prop) (hq : ∀ h', Q (.bool true) h') : CallW Tryd.prog 6 [v1, .bool all] h Q := by
  have o1 := SlV.one h1
  replace h1 := Hid.mk h1; replace i1 := Hid.mk i1
  refine call_of1 (k := 2) ok6 rfl rfl rfl fun N => ?_
  rw [show env0 c6 [v1, .bool all] = [v1, .bool all, undef, undef, undef, undef, undef, undef, undef, undef, undef] from rfl]
  delta c6 c6_r0 c6_r1 c6_r2 c6_r3 c6_r4 c6_r5 c6_r6 c6_r7 c6_r8 c6_r10 c6_r11 c6_r12 c6_r13 c6_r14 c6_r15 c6_r17
  replace hq := Hid.mk hq
  repeat' (first | simp -implicitDefEqProofs only [walkL, aR, aW, aBin, aInt, Int.reduceBEq, Int.reduceBNe, Nat.reduceBEq, Int.reduceLT, Int.reduceLE, *] | with_reducible (first | refine cndK_d ?_ ?_ | refine grdK_d ?_ ?_ | refine cndK_i ?_ ?_ | refine grdK_i ?_ ?_) <;> intro hc)
  refine awake_c h _ fun h3 l3 => ?_
  have a1 := SlV.mono l3 h1.h
  clear h1 l3
  replace a1 := Hid.mk a1
  repeat' (first | simp -implicitDefEqProofs only [walkL, aR, aW, aBin, aInt, Int.reduceBEq, Int.reduceBNe, Nat.reduceBEq, Int.reduceLT, Int.reduceLE, *] | with_reducible (first | refine cndK_d ?_ ?_ | refine grdK_d ?_ ?_ | refine cndK_i ?_ ?_ | refine grdK_i ?_ ?_) <;> intro hc)
  refine Prog_c a1.h i1.h all _ fun h4 d r t xs l4 hm => ?_
  have ok1 := progL_good raw all
  obtain ⟨p, hp⟩ : ∃ p, progL raw all = p := ⟨_, rfl⟩
  rw [hp] at hm ok1
  rw [hp]
  obtain ⟨s1, s2, s3⟩ := hm.isS
  have sz := st_PA h4 p.harts s1 s2 s3
  have gq1 := Heap.get_alloc_same h4 (.blk [.int .i64 p.harts, d, r, t] true)
  have lh5 := (Heap.le.refl h4).alloc (.blk [.int .i64 p.harts, d, r, t] true)
  obtain ⟨q1, eq1⟩ : ∃ x_, h4.next = x_ := ⟨_, rfl⟩
  obtain ⟨h5, eh5⟩ : ∃ x_, h4.alloc (.blk [.int .i64 p.harts, d, r, t] true) = x_ := ⟨_, rfl⟩
  rw [eh5] at gq1 lh5
  rw [eq1] at gq1
  rw [eh5, eq1] at sz
  have xp := hm.prc.mono lh5
  have hlen := printP_len ok1
  clear a1 l4 lh5 hm hp
  replace xp := Hid.mk xp; replace ok1 := Hid.mk ok1; replace hlen := Hid.mk hlen
  repeat' (first | simp -implicitDefEqProofs only [walkL, aR, aW, aBin, aInt, Int.reduceBEq, Int.reduceBNe, Nat.reduceBEq, Int.reduceLT, Int.reduceLE, partL4, *] | with_reducible (first | refine cndK_d ?_ ?_ | refine grdK_d ?_ ?_ | refine cndK_i ?_ ?_ | refine grdK_i ?_ ?_) <;> intro hc)
  refine Print_c xp.h (fun _ => hlen.h) _ fun h6 l6 => ?_
  simp only [ok1.h.right, if_true]
  have gq6 := l6.get gq1
  have xp6 := xp.h.mono l6
  obtain ⟨d', r', t', ex, hd, hr, ht⟩ := id xp6
  obtain ⟨rfl, rfl, rfl⟩ : d = d' ∧ r = r' ∧ t = t' := by simp at ex; exact ex
  have ld : pLenS [d] = some (.int .i64 p.devs.length) := by simpa using SlV.len hd.1
  have lr : pLenS [r] = some (.int .i64 p.ress.length) := by simpa using SlV.len hr.1
  have lt : pLenS [t] = some (.int .i64 p.tasks.length) := ht.len
  have b1 := ok1.h.dl
  have b2 := ok1.h.rl
  have b3 := ok1.h.tl
  have w1 : IntKind.i64.wrap (1 + (p.devs.length : Int)) = ((1 + p.devs.length : Nat) : Int) := by rw [wrapI (by omega) (by omega)]; omega
  have w2 : IntKind.i64.wrap (((1 + p.devs.length : Nat) : Int) + (p.ress.length : Int)) = ((1 + p.devs.length + p.ress.length + rowTs (p.tasks.take 0) : Nat) : Int) := by
    have : rowTs (p.tasks.take 0) = 0 := by simp [rowTs]
    rw [wrapI (by omega) (by omega)]; omega
  obtain ⟨n0, hn0⟩ : ∃ n, 1 + p.devs.length + p.ress.length = n := ⟨_, rfl⟩
  have hlf := printP_lf ok1.h
  have hlast := printP_last ok1.h
  rw [hn0] at w2 hlf
  have hn0b : n0 ≤ 6 := by omega
  have hrt := rowTs_le ok1.h.tasks
  have hrt2 : p.tasks.length * 25002 ≤ 6 * 25002 := Nat.mul_le_mul_right _ b3.2
  have hlen2 := hlen.h
  unfold maxL at hlen2
  obtain ⟨s, hs⟩ : ∃ s, printP p = s := ⟨_, rfl⟩
  rw [hs] at hlf hlast hlen2
  rw [hs]
  clear xp l6 gq1 hlen hs ex hd hr xp6 sz s1 s2 s3 eq1 eh5
  replace ht := Hid.mk ht; replace b1 := Hid.mk b1; replace b2 := Hid.mk b2; replace b3 := Hid.mk b3; replace hlf := Hid.mk hlf; replace hlast := Hid.mk hlast; replace hrt := Hid.mk hrt; replace hrt2 := Hid.mk hrt2; replace hlen2 := Hid.mk hlen2; replace hn0 := Hid.mk hn0; replace hn0b := Hid.mk hn0b
  repeat' (first | simp -implicitDefEqProofs only [walkL, aR, aW, aBin, aInt, Int.reduceBEq, Int.reduceBNe, Nat.reduceBEq, Int.reduceLT, Int.reduceLE, *] | with_reducible (first | refine cndK_d ?_ ?_ | refine grdK_d ?_ ?_ | refine cndK_i ?_ ?_ | refine grdK_i ?_ ?_) <;> intro hc)
  refine LoopW.upto p.tasks.length (fun i e h1 => h6.le h1 ∧ e = [v1, .bool all, .bool false, .bool true, .pointer (some ⟨q1, 0, none⟩), str s, .int .i64 0, .int .i64 (n0 + rowTs (p.tasks.take i) : Nat), .int .i64 i, undef, undef]) ?_ (Nat.zero_le _) ⟨.refl _, rfl⟩
  rintro i _ h7 R hi ⟨l7, rfl⟩ hR
  have gq7 := l7.get gq6
  delta c6_l9 c6_r0 c6_r1 c6_r2 c6_r3 c6_r4 c6_r5 c6_r6 c6_r7 c6_r8 c6_r10 c6_r11 c6_r12 c6_r13 c6_r14 c6_r15 c6_r17
  by_cases hlt : i < p.tasks.length
  · have hlt' : (i : Int) < p.tasks.length := by omega
    obtain ⟨e, he⟩ : ∃ e, p.tasks[i]? = some e := ⟨_, List.getElem?_eq_getElem hlt⟩
    obtain ⟨id, off, cells, own, u, e1, e2, e3, hb⟩ := TssV.elem5 (ht.h.mono l7) he
    have hw : IntKind.i64.wrap ((i : Int) + 1) = ((i + 1 : Nat) : Int) := by have := b3.h; rw [wrapI (by omega) (by omega)]; rfl
    have htk := rowTs_take p.tasks i e he
    have hre := (ok1.h.tasks e (List.mem_of_getElem? he)).rows
    have hle := rowTs_take_le p.tasks (i + 1)
    have w3 : IntKind.i64.wrap (((n0 + rowTs (p.tasks.take i) : Nat) : Int) + 2) = ((n0 + rowTs (p.tasks.take i) + 2 : Nat) : Int) := by have := hrt.h; have := hrt2.h; have := hn0b.h; rw [wrapI (by omega) (by omega)]; rfl
    have w4 : IntKind.i64.wrap (((n0 + rowTs (p.tasks.take i) + 2 : Nat) : Int) + (rowSs e.body : Nat)) = ((n0 + rowTs (p.tasks.take (i + 1)) : Nat) : Int) := by have := hrt.h; have := hrt2.h; have := hn0b.h; rw [wrapI (by omega) (by omega)]; omega
    replace l7 := Hid.mk l7
    replace hb := Hid.mk hb; replace htk := Hid.mk htk; replace hre := Hid.mk hre; replace hle := Hid.mk hle
    repeat' (first | simp -implicitDefEqProofs only [walkL, aR, aW, aBin, aInt, Int.reduceBEq, Int.reduceBNe, Nat.reduceBEq, Int.reduceLT, Int.reduceLE, *] | with_reducible (first | refine cndK_d ?_ ?_ | refine grdK_d ?_ ?_ | refine cndK_i ?_ ?_ | refine grdK_i ?_ ?_) <;> intro hc)
    refine rows_c _ e.body (Nat.le_refl _) (by have := hre.h; omega) u _ _ hb.h fun h8 l8 => ?_
    have g := hR.h
    clear hR
    have l8 := l7.h.trans l8
    replace g := Hid.mk g; replace l8 := Hid.mk l8
    clear e1 e2 e3
    repeat' (first | simp -implicitDefEqProofs only [walkL, aR, aW, aBin, aInt, Int.reduceBEq, Int.reduceBNe, Nat.reduceBEq, Int.reduceLT, Int.reduceLE, *] | with_reducible (first | refine cndK_d ?_ ?_ | refine grdK_d ?_ ?_ | refine cndK_i ?_ ?_ | refine grdK_i ?_ ?_) <;> intro hc)
    exact g.h _ _ hlt ⟨l8.h, rfl⟩
  · have hlt' : ¬ (i : Int) < p.tasks.length := by omega
    have hi2 : i = p.tasks.length := by omega
    subst hi2
    rw [List.take_length]
    rw [← hlf.h]
    clear hR
    have lt0 : 0 < s.length := hlast.h.1
    have lt0' : (0 : Int) < s.length := by omega
    repeat' (first | simp -implicitDefEqProofs only [walkL, aR, aW, aBin, aInt, Int.reduceBEq, Int.reduceBNe, Nat.reduceBEq, Int.reduceLT, Int.reduceLE, *] | with_reducible (first | refine cndK_d ?_ ?_ | refine grdK_d ?_ ?_ | refine cndK_i ?_ ?_ | refine grdK_i ?_ ?_) <;> intro hc)
    refine LoopW.upto s.length (fun i e h1 => h7.le h1 ∧ e = [v1, .bool all, .bool false, .bool true, .pointer (some ⟨q1, 0, none⟩), str s, .int .i64 0, .int .i64 (s.count 10 : Nat), .int .i64 p.tasks.length, .int .i64 ((s.take i).count 10 : Nat), .int .i64 i]) ?_ (Nat.zero_le _) ⟨.refl _, by simp⟩
    rintro i _ h8 R hi ⟨l8, rfl⟩ hR
    delta c6_l16 c6_r0 c6_r1 c6_r2 c6_r3 c6_r4 c6_r5 c6_r6 c6_r7 c6_r8 c6_r10 c6_r11 c6_r12 c6_r13 c6_r14 c6_r15 c6_r17
    by_cases hlt : i < s.length
    · have hlt' : (i : Int) < s.length := by omega
      have hw : IntKind.i64.wrap ((i : Int) + 1) = ((i + 1 : Nat) : Int) := by have := hlen2.h; rw [wrapI (by omega) (by omega)]; rfl
      obtain ⟨b, hb⟩ : ∃ b, s[i]? = some b := ⟨_, List.getElem?_eq_getElem hlt⟩
      have ix := idx_S hb .i64
      have hct := count_take s i b hb
      have hcl : (s.take i).count 10 ≤ s.length := Nat.le_trans List.count_le_length (by simp; omega)
      have w9 : IntKind.i64.wrap (((s.take i).count 10 : Nat) + 1 : Int) = (((s.take i).count 10 + 1 : Nat) : Int) := by have := hlen2.h; rw [wrapI (by omega) (by omega)]; rfl
      replace hct := Hid.mk hct; replace hcl := Hid.mk hcl
      by_cases e10 : b = 10
      · have c10 : ((b.toNat : Int) == 10) = true := by subst e10; rfl
        have e := hct.h
        rw [if_pos e10] at e
        rw [← e] at w9
        clear e
        clear hct e10
        repeat' (first | simp -implicitDefEqProofs only [walkL, aR, aW, aBin, aInt, Int.reduceBEq, Int.reduceBNe, Nat.reduceBEq, Int.reduceLT, Int.reduceLE, len_S, *] | with_reducible (first | refine cndK_d ?_ ?_ | refine grdK_d ?_ ?_ | refine cndK_i ?_ ?_ | refine grdK_i ?_ ?_) <;> intro hc)
        exact hR.h _ _ hlt ⟨l8, rfl⟩
      · have c10 : ((b.toNat : Int) == 10) = false := by
          simp only [beq_eq_false_iff_ne]
          intro e
          have : b.toNat = 10 := by omega
          exact e10 (UInt8.toNat_inj.1 this)
        have e : (s.take (i + 1)).count 10 = (s.take i).count 10 := by have := hct.h; rw [if_neg e10] at this; exact this
        rw [← e]
        clear hct e10 e w9
        repeat' (first | simp -implicitDefEqProofs only [walkL, aR, aW, aBin, aInt, Int.reduceBEq, Int.reduceBNe, Nat.reduceBEq, Int.reduceLT, Int.reduceLE, len_S, *] | with_reducible (first | refine cndK_d ?_ ?_ | refine grdK_d ?_ ?_ | refine cndK_i ?_ ?_ | refine grdK_i ?_ ?_) <;> intro hc)
        exact hR.h _ _ hlt ⟨l8, rfl⟩
    · have hlt' : ¬ (i : Int) < s.length := by omega
      have hi2 : i = s.length := by omega
      subst hi2
      rw [List.take_length]
      have hw : IntKind.i64.wrap ((s.length : Int) - 1) = ((s.length - 1 : Nat) : Int) := by have := hlen2.h; rw [wrapI (by omega) (by omega)]; omega
      have ix := idx_S (i := s.length - 1) (b := 10) hlast.h.2 .i64
      have cc : (((s.count 10 : Nat) : Int) == ((s.count 10 : Nat) : Int)) = true := by simp
      have ct : (((10 : UInt8).toNat : Int) == 10) = true := rfl
      have g := hq.h h8
      replace g := Hid.mk g
      clear hq hR
      repeat' (first | simp -implicitDefEqProofs only [walkL, aR, aW, aBin, aInt, Int.reduceBEq, Int.reduceBNe, Nat.reduceBEq, Int.reduceLT, Int.reduceLE, len_S, *] | with_reducible (first | refine cndK_d ?_ ?_ | refine grdK_d ?_ ?_ | refine cndK_i ?_ ?_ | refine grdK_i ?_ ?_) <;> intro hc)
      exact g.h
end Go.Eng.Sy

