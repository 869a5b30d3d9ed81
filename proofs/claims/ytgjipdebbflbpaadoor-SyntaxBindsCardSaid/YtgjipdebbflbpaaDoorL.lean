/-
  Part of a proof of the laws of layer 06 (syntax): the laws.
  Conditions: none.
-/
import Derived.Test.YtgjipdebbflbpaaDoorEc
import Derived.Test.YtgjipdebbflbpaaDoorProg
import Derived.KernelRfl
import Derived.Test.YtgjipdebbflbpaaDoorBd
namespace Go.Eng.Sy
open Go Go.Eng Go.Proofs

/-- headstock/headstocklaw06.SyntaxBinds · variables 0:one, 1:two, 4:, 5:ok, 6:a, 7:b, 8:x, 9:in, 10:s, 11:e, 12:t, 13:f, 14:u, 15:g, 16:v, 17:h, 18:left, 19:right -/
noncomputable def c3_r0 : List SOp := [⟨0, .p .mov, [.c (.bool false)], none, false⟩]
noncomputable def c3_r1 : List SOp := [⟨0, .call 7, [], none, false⟩, ⟨1, .p .mov, [.t 0], none, false⟩]
noncomputable def c3_r2 : List SOp := [⟨0, .p .mov, [.v 0], none, false⟩, ⟨1, .call 8, [.t 0, .c (.int .i64 14)], none, false⟩, ⟨2, .p (.bin .add), [.c (.int .i64 1), .t 0], none, false⟩, ⟨3, .p .mov, [.t 0], none, false⟩]
noncomputable def c3_r3 : List SOp := [⟨0, .p .mov, [.v 1], none, false⟩, ⟨1, .call 8, [.t 0, .c (.int .i64 14)], none, false⟩, ⟨2, .p (.bin .add), [.c (.int .i64 1), .t 0], none, false⟩, ⟨3, .p .mov, [.t 0], none, false⟩]
noncomputable def c3_r4 : List SOp := [⟨0, .p (.build [.int .i64 0, .int .i64 0, .int .i64 0, .string ⟨#[]⟩, .slice none 0 0] [(0, 1), (3, 1)]), [.c (.int .i64 2), .c (.string ⟨#[120]⟩)], none, false⟩, ⟨1, .a (.new [.int .i64 0, .int .i64 0, .int .i64 0, .string ⟨#[]⟩, .slice none 0 0]), [], none, false⟩, ⟨2, .w (.store 5), [.t 0, .t 1], none, false⟩]
noncomputable def c3_r5 : List SOp := [⟨0, .p .mov, [.v 5], none, false⟩, ⟨1, .r (.load true 5), [.v 6], none, false⟩, ⟨2, .r (.load true 5), [.v 6], none, false⟩, ⟨3, .a (.bslice [.int .i64 0, .int .i64 0, .int .i64 0, .string ⟨#[]⟩, .slice none 0 0, .int .i64 0, .int .i64 0, .int .i64 0, .string ⟨#[]⟩, .slice none 0 0] [(0, 5), (5, 5)] 2 5), [.t 1, .t 0], none, false⟩, ⟨4, .p (.build [.int .i64 0, .int .i64 0, .int .i64 0, .string ⟨#[]⟩, .slice none 0 0] [(0, 1), (1, 1), (4, 1)]), [.c (.int .i64 4), .t 3, .t 0], none, false⟩, ⟨5, .a (.new [.int .i64 0, .int .i64 0, .int .i64 0, .string ⟨#[]⟩, .slice none 0 0]), [], none, false⟩, ⟨6, .w (.store 5), [.t 0, .t 1], none, false⟩]
noncomputable def c3_r6 : List SOp := [⟨0, .p .mov, [.v 4], none, false⟩, ⟨1, .r (.load true 5), [.v 7], none, false⟩, ⟨2, .r (.load true 5), [.v 6], none, false⟩, ⟨3, .a (.bslice [.int .i64 0, .int .i64 0, .int .i64 0, .string ⟨#[]⟩, .slice none 0 0, .int .i64 0, .int .i64 0, .int .i64 0, .string ⟨#[]⟩, .slice none 0 0] [(0, 5), (5, 5)] 2 5), [.t 1, .t 0], none, false⟩, ⟨4, .p (.build [.int .i64 0, .int .i64 0, .int .i64 0, .string ⟨#[]⟩, .slice none 0 0] [(0, 1), (1, 1), (4, 1)]), [.c (.int .i64 4), .t 3, .t 0], none, false⟩, ⟨5, .call 9, [.t 0], none, false⟩, ⟨6, .p .mov, [.t 0], none, false⟩, ⟨7, .p (.extract 0), [.t 0], none, false⟩, ⟨8, .p (.extract 1), [.t 1], none, false⟩, ⟨9, .p .mov, [.t 1], none, false⟩, ⟨10, .p .mov, [.t 1], none, false⟩]
noncomputable def c3_r7 : List SOp := [⟨0, .p .mov, [.v 4], none, false⟩, ⟨1, .r (.load true 5), [.v 6], none, false⟩, ⟨2, .r (.load true 5), [.v 7], none, false⟩, ⟨3, .a (.bslice [.int .i64 0, .int .i64 0, .int .i64 0, .string ⟨#[]⟩, .slice none 0 0, .int .i64 0, .int .i64 0, .int .i64 0, .string ⟨#[]⟩, .slice none 0 0] [(0, 5), (5, 5)] 2 5), [.t 1, .t 0], none, false⟩, ⟨4, .p (.build [.int .i64 0, .int .i64 0, .int .i64 0, .string ⟨#[]⟩, .slice none 0 0] [(0, 1), (1, 1), (4, 1)]), [.c (.int .i64 4), .t 3, .t 0], none, false⟩, ⟨5, .call 9, [.t 0], none, false⟩, ⟨6, .p .mov, [.t 0], none, false⟩, ⟨7, .p (.extract 0), [.t 0], none, false⟩, ⟨8, .p (.extract 1), [.t 1], none, false⟩, ⟨9, .p .mov, [.t 1], none, false⟩, ⟨10, .p .mov, [.t 1], none, false⟩]
noncomputable def c3_r8 : List SOp := [⟨0, .r (.load true 5), [.v 7], none, false⟩, ⟨1, .a (.bslice [.int .i64 0, .int .i64 0, .int .i64 0, .string ⟨#[]⟩, .slice none 0 0] [(0, 5)] 1 5), [.t 0], none, false⟩, ⟨2, .p (.build [.int .i64 0, .int .i64 0, .int .i64 0, .string ⟨#[]⟩, .slice none 0 0] [(0, 1), (1, 1), (4, 1)]), [.c (.int .i64 3), .c (.int .i64 15), .t 0], none, false⟩, ⟨3, .call 9, [.t 0], none, false⟩, ⟨4, .p .mov, [.t 0], none, false⟩, ⟨5, .p (.extract 0), [.t 0], none, false⟩, ⟨6, .p (.extract 1), [.t 1], none, false⟩, ⟨7, .p .mov, [.t 1], none, false⟩, ⟨8, .p .mov, [.t 1], none, false⟩]
noncomputable def c3_r9 : List SOp := [⟨0, .r (.load true 5), [.v 7], none, false⟩, ⟨1, .a (.bslice [.int .i64 0, .int .i64 0, .int .i64 0, .string ⟨#[]⟩, .slice none 0 0] [(0, 5)] 1 5), [.t 0], none, false⟩, ⟨2, .p (.build [.int .i64 0, .int .i64 0, .int .i64 0, .string ⟨#[]⟩, .slice none 0 0] [(0, 1), (3, 1), (4, 1)]), [.c (.int .i64 5), .c (.string ⟨#[114]⟩), .t 0], none, false⟩, ⟨3, .call 9, [.t 0], none, false⟩, ⟨4, .p .mov, [.t 0], none, false⟩, ⟨5, .p (.extract 0), [.t 0], none, false⟩, ⟨6, .p (.extract 1), [.t 1], none, false⟩, ⟨7, .p .mov, [.t 1], none, false⟩, ⟨8, .p .mov, [.t 1], none, false⟩]
noncomputable def c3_r10 : List SOp := [⟨0, .p .mov, [.v 8], none, false⟩, ⟨1, .p .lenStr, [.t 0], none, false⟩, ⟨2, .p (.bin .lss), [.t 0, .c (.int .i64 1)], none, false⟩, ⟨3, .p .mov, [.t 0], none, false⟩, ⟨4, .p .mov, [.v 10], some (0, false), false⟩, ⟨5, .p .lenStr, [.t 0], some (1, false), false⟩, ⟨6, .p (.bin .lss), [.t 0, .c (.int .i64 1)], some (2, false), false⟩, ⟨7, .p .pick, [.t 3, .c (.bool true), .t 0], none, false⟩, ⟨8, .p .mov, [.t 0], none, false⟩, ⟨9, .p .mov, [.v 12], some (0, false), false⟩, ⟨10, .p .lenStr, [.t 0], some (1, false), false⟩, ⟨11, .p (.bin .lss), [.t 0, .c (.int .i64 2)], some (2, false), false⟩, ⟨12, .p .pick, [.t 3, .c (.bool true), .t 0], none, false⟩, ⟨13, .p .mov, [.t 0], none, false⟩, ⟨14, .p .mov, [.v 14], some (0, false), false⟩, ⟨15, .p .lenStr, [.t 0], some (1, false), false⟩, ⟨16, .p (.bin .lss), [.t 0, .c (.int .i64 3)], some (2, false), false⟩, ⟨17, .p .pick, [.t 3, .c (.bool true), .t 0], none, false⟩]
noncomputable def c3_r11 : List SOp := [⟨0, .p .mov, [.c (.bool false)], none, false⟩]
noncomputable def c3_r12 : List SOp := [⟨0, .p .mov, [.v 8], none, false⟩, ⟨1, .p .idxStr, [.t 0, .c (.int .i64 0)], none, false⟩, ⟨2, .p (.bin .neq), [.t 0, .c (.int .u8 40)], none, false⟩, ⟨3, .p .mov, [.t 0], none, false⟩]
noncomputable def c3_r13 : List SOp := [⟨0, .p .mov, [.v 10], none, false⟩, ⟨1, .p .mov, [.v 10], none, false⟩, ⟨2, .p .lenStr, [.t 0], none, false⟩, ⟨3, .p (.bin .sub), [.t 0, .c (.int .i64 1)], none, false⟩, ⟨4, .p .idxStr, [.t 3, .t 0], none, false⟩, ⟨5, .p (.bin .neq), [.t 0, .c (.int .u8 41)], none, false⟩, ⟨6, .p .mov, [.t 0], none, false⟩]
noncomputable def c3_r14 : List SOp := [⟨0, .p .mov, [.v 3], none, false⟩, ⟨1, .p .mov, [.t 0], none, false⟩, ⟨2, .p .mov, [.v 9], some (0, true), false⟩, ⟨3, .p (.bin .eql), [.t 0, .c (.int .i64 0)], some (1, true), false⟩, ⟨4, .p .pick, [.t 2, .t 0, .c (.bool false)], none, false⟩, ⟨5, .p .mov, [.t 0], none, false⟩, ⟨6, .p .mov, [.v 11], some (0, true), false⟩, ⟨7, .p (.bin .eql), [.t 0, .c (.int .i64 0)], some (1, true), false⟩, ⟨8, .p .pick, [.t 2, .t 0, .c (.bool false)], none, false⟩, ⟨9, .p .mov, [.t 0], none, false⟩, ⟨10, .p .mov, [.v 13], some (0, true), false⟩, ⟨11, .p (.bin .eql), [.t 0, .c (.int .i64 0)], some (1, true), false⟩, ⟨12, .p .pick, [.t 2, .t 0, .c (.bool false)], none, false⟩, ⟨13, .p .mov, [.t 0], none, false⟩, ⟨14, .p .mov, [.v 15], some (0, true), false⟩, ⟨15, .p (.bin .eql), [.t 0, .c (.int .i64 0)], some (1, true), false⟩, ⟨16, .p .pick, [.t 2, .t 0, .c (.bool false)], none, false⟩, ⟨17, .p .mov, [.t 0], none, false⟩, ⟨18, .p .mov, [.v 16], some (0, true), false⟩, ⟨19, .p .mov, [.v 5], some (1, true), false⟩, ⟨20, .call 10, [.t 0], some (2, true), false⟩, ⟨21, .p .mov, [.v 4], some (3, true), false⟩, ⟨22, .call 10, [.t 0], some (4, true), false⟩, ⟨23, .p (.bin .geq), [.t 2, .t 0], some (5, true), false⟩, ⟨24, .p (.eqB false), [.t 5, .t 0], some (6, true), false⟩, ⟨25, .p .pick, [.t 7, .t 0, .c (.bool false)], none, false⟩, ⟨26, .p .mov, [.t 0], none, false⟩, ⟨27, .p .mov, [.v 17], some (0, true), false⟩, ⟨28, .p .mov, [.v 5], some (1, true), false⟩, ⟨29, .call 10, [.t 0], some (2, true), false⟩, ⟨30, .p .mov, [.v 4], some (3, true), false⟩, ⟨31, .call 10, [.t 0], some (4, true), false⟩, ⟨32, .p (.bin .gtr), [.t 2, .t 0], some (5, true), false⟩, ⟨33, .p (.eqB false), [.t 5, .t 0], some (6, true), false⟩, ⟨34, .p .pick, [.t 7, .t 0, .c (.bool false)], none, false⟩, ⟨35, .p .mov, [.t 0], none, false⟩, ⟨36, .p .mov, [.v 12], some (0, true), false⟩, ⟨37, .p (.sliceStr false true), [.t 0, .c (.int .i64 2)], some (1, true), false⟩, ⟨38, .p (.bin .eql), [.t 0, .c (.string ⟨#[45, 40]⟩)], some (2, true), false⟩, ⟨39, .p .pick, [.t 3, .t 0, .c (.bool false)], none, false⟩, ⟨40, .p .mov, [.t 0], none, false⟩, ⟨41, .p .mov, [.v 14], some (0, true), false⟩, ⟨42, .p (.sliceStr false true), [.t 0, .c (.int .i64 3)], some (1, true), false⟩, ⟨43, .p (.bin .eql), [.t 0, .c (.string ⟨#[114, 91, 120]⟩)], some (2, true), false⟩, ⟨44, .p .pick, [.t 3, .t 0, .c (.bool false)], none, false⟩, ⟨45, .p .mov, [.t 0], none, false⟩]
noncomputable def c3 : CFn := { nargs := 2, vars := [0, 1, 4, 5, 6, 7, 8, 9, 10, 11, 12, 13, 14, 15, 16, 17, 18, 19], results := [.var 2], body := (.seq (.reg c3_r0 [(2, 0)]) (.seq (.reg c3_r1 [(3, 0)]) (.seq (.reg c3_r2 [(4, 0)]) (.seq (.reg c3_r3 [(5, 0)]) (.seq (.reg c3_r4 [(6, 1)]) (.seq (.reg c3_r5 [(7, 1)]) (.seq (.reg c3_r6 [(8, 1), (9, 0)]) (.seq (.reg c3_r7 [(10, 1), (11, 0)]) (.seq (.reg c3_r8 [(12, 1), (13, 0)]) (.seq (.reg c3_r9 [(14, 1), (15, 0)]) (.seq (.rcond c3_r10 [] 0 (.seq (.reg c3_r11 [(2, 0)]) .ret) .skip) (.seq (.reg c3_r12 [(16, 0)]) (.seq (.reg c3_r13 [(17, 0)]) (.seq (.reg c3_r14 [(2, 0)]) .ret)))))))))))))) }

set_option maxRecDepth 100000 in
theorem ok3 : FnOk Tryd.prog 3 c3 := compF_ok (na := c3.nargs) (vars := c3.vars) (by kernel_rfl)
end Go.Eng.Sy

set_option linter.unusedSimpArgs false
set_option linter.unusedVariables false
namespace Go.Eng.Sy
open Go Go.Eng Go.Proofs

def varX : Ex := .mk 2 0 0 [120] []
def inX (b : Int) : Ex := .mk 4 b 0 [] [varX, varX]
theorem varX_I (d : Nat) : ExI varX (d + 1) := .var _ _ (by decide)
theorem inX_I {b : Int} (hb : 1 ≤ b ∧ b ≤ 14) (d : Nat) : ExI (inX b) (d + 2) := .two _ _ _ _ hb (varX_I _) (varX_I _)
theorem textV : textE varX = [120] := rfl
theorem textIn (b : Int) : textE (inX b) = 120 :: 32 :: (signL b ++ [32, 120]) := rfl
theorem wrapV (k : Nat) (s : List UInt8) : wrapP varX k s = s := by simp [wrapP, varX, Ex.kind]
theorem wrapIn (b : Int) (k : Nat) (s : List UInt8) : wrapP (inX b) k s = if levelN b < k then 40 :: (s ++ [41]) else s := by simp [wrapP, inX, Ex.kind, Ex.op]
theorem textL (a b : Int) : textE (.mk 4 a 0 [] [inX b, varX]) = wrapP (inX b) (levelN a) (textE (inX b)) ++ 32 :: (signL a ++ 32 :: [120]) := by
  show wrapP (inX b) (levelN a) (textE (inX b)) ++ 32 :: (signL a ++ 32 :: wrapP varX (levelN a + 1) (textE varX)) = _
  rw [wrapV, textV]
theorem textR (a b : Int) : textE (.mk 4 a 0 [] [varX, inX b]) = 120 :: 32 :: (signL a ++ 32 :: wrapP (inX b) (levelN a + 1) (textE (inX b))) := by
  show wrapP varX (levelN a) (textE varX) ++ 32 :: (signL a ++ 32 :: wrapP (inX b) (levelN a + 1) (textE (inX b))) = _
  rw [wrapV, textV]; rfl
theorem textU (b : Int) : ∃ r, textE (.mk 3 15 0 [] [inX b]) = 45 :: 40 :: r := by
  show ∃ r, signL 15 ++ wrapP (inX b) 9 (textE (inX b)) = _
  rw [wrapIn, if_pos (by have := levelN_le b; omega)]
  exact ⟨_, rfl⟩
theorem textAt (b : Int) : ∃ r, textE (.mk 5 0 0 [114] [inX b]) = 114 :: 91 :: 120 :: r := by
  show ∃ r, [114] ++ 91 :: (textE (inX b) ++ [93]) = _
  rw [textIn]
  exact ⟨_, rfl⟩
theorem first_byte (a b : Int) : ∃ c r, textE (.mk 4 a 0 [] [inX b, varX]) = c :: r ∧ c = if levelN b < levelN a then 40 else 120 := by
  rw [textL, wrapIn, textIn]
  split
  · exact ⟨_, _, rfl, rfl⟩
  · exact ⟨_, _, rfl, rfl⟩
theorem last_byte (a b : Int) : ∃ c r, textE (.mk 4 a 0 [] [varX, inX b]) = r ++ [c] ∧ c = if levelN b < levelN a + 1 then 41 else 120 := by
  rw [textR, wrapIn, textIn]
  split
  · exact ⟨41, 120 :: 32 :: (signL a ++ 32 :: 40 :: 120 :: 32 :: (signL b ++ [32, 120])), by simp, rfl⟩
  · exact ⟨120, 120 :: 32 :: (signL a ++ 32 :: 120 :: 32 :: (signL b ++ [32])), by simp, rfl⟩
set_option maxHeartbeats 1000000 in
theorem bindsLaw_c {h : Heap} {z1 z2 : Int} (i1 : inI z1) (i2 : inI z2) (Q : Value → Heap → Prop) (hq : ∀ h', Q (.bool true) h') : CallW Tryd.prog 3 [.int .i64 z1, .int .i64 z2] h Q := by
  refine call_of1 (k := 2) ok3 rfl rfl rfl fun N => ?_
  rw [show env0 c3 [.int .i64 z1, .int .i64 z2] = [.int .i64 z1, .int .i64 z2, undef, undef, undef, undef, undef, undef, undef, undef, undef, undef, undef, undef, undef, undef, undef, undef] from rfl]
  delta c3 c3_r0 c3_r1 c3_r2 c3_r3 c3_r4 c3_r5 c3_r6 c3_r7 c3_r8 c3_r9 c3_r10 c3_r11 c3_r12 c3_r13 c3_r14
  replace hq := Hid.mk hq
  repeat' (first | simp -implicitDefEqProofs only [walkL, aR, aW, aBin, aInt, Int.reduceBEq, Int.reduceBNe, Nat.reduceBEq, Int.reduceLT, Int.reduceLE, *] | with_reducible (first | refine cndK_d ?_ ?_ | refine grdK_d ?_ ?_ | refine cndK_i ?_ ?_ | refine grdK_i ?_ ?_) <;> intro hc)
  refine awake_c h _ fun h3 l3 => ?_
  clear l3
  repeat' (first | simp -implicitDefEqProofs only [walkL, aR, aW, aBin, aInt, Int.reduceBEq, Int.reduceBNe, Nat.reduceBEq, Int.reduceLT, Int.reduceLE, *] | with_reducible (first | refine cndK_d ?_ ?_ | refine grdK_d ?_ ?_ | refine cndK_i ?_ ?_ | refine grdK_i ?_ ?_) <;> intro hc)
  refine pick6_c _ _ (by decide) _ _ ?_
  have r1 := pick_range i1 (n := 14) (by omega)
  have r2 := pick_range i2 (n := 14) (by omega)
  obtain ⟨a, ha⟩ : ∃ a, 1 + pick z1 14 = a := ⟨_, rfl⟩
  obtain ⟨b, hb⟩ : ∃ a, 1 + pick z2 14 = a := ⟨_, rfl⟩
  have w1 : IntKind.i64.wrap (1 + pick z1 14) = a := by rw [wrapI (by omega) (by omega)]; exact ha
  have w2 : IntKind.i64.wrap (1 + pick z2 14) = b := by rw [wrapI (by omega) (by omega)]; exact hb
  have ra : 1 ≤ a ∧ a ≤ 14 := by omega
  have rb : 1 ≤ b ∧ b ≤ 14 := by omega
  clear r1 r2 ha hb
  replace ra := Hid.mk ra; replace rb := Hid.mk rb
  repeat' (first | simp -implicitDefEqProofs only [walkL, aR, aW, aBin, aInt, Int.reduceBEq, Int.reduceBNe, Nat.reduceBEq, Int.reduceLT, Int.reduceLE, *] | with_reducible (first | refine cndK_d ?_ ?_ | refine grdK_d ?_ ?_ | refine cndK_i ?_ ?_ | refine grdK_i ?_ ?_) <;> intro hc)
  refine pick6_c _ _ (by decide) _ _ ?_
  have b1 := build_var [120]
  have hn : IsS nilS := ⟨_, _, _, rfl⟩
  have s1 := store_exv h3 2 0 0 [120] hn
  have gq1 := Heap.get_alloc_same h3 (.blk [.int .i64 2, .int .i64 0, .int .i64 0, str [120], nilS] true)
  have lh4 := (Heap.le.refl h3).alloc (.blk [.int .i64 2, .int .i64 0, .int .i64 0, str [120], nilS] true)
  obtain ⟨q1, eq1⟩ : ∃ x_, h3.next = x_ := ⟨_, rfl⟩
  obtain ⟨h4, eh4⟩ : ∃ x_, h3.alloc (.blk [.int .i64 2, .int .i64 0, .int .i64 0, str [120], nilS] true) = x_ := ⟨_, rfl⟩
  rw [eh4] at gq1 lh4
  rw [eq1] at gq1
  rw [eh4, eq1] at s1
  have x1 : ExC h4 varX [.int .i64 2, .int .i64 0, .int .i64 0, str [120], nilS] := ExC.of (ExsV.nil h4)
  have u2 := bs_ex2 x1.ones x1.ones
  have v2 := ExsV.new2 x1 x1
  have gq2 := Heap.get_alloc_same h4 (.blk ([.int .i64 2, .int .i64 0, .int .i64 0, str [120], nilS] ++ [.int .i64 2, .int .i64 0, .int .i64 0, str [120], nilS]) true)
  have lh5 := (Heap.le.refl h4).alloc (.blk ([.int .i64 2, .int .i64 0, .int .i64 0, str [120], nilS] ++ [.int .i64 2, .int .i64 0, .int .i64 0, str [120], nilS]) true)
  obtain ⟨q2, eq2⟩ : ∃ x_, h4.next = x_ := ⟨_, rfl⟩
  obtain ⟨h5, eh5⟩ : ∃ x_, h4.alloc (.blk ([.int .i64 2, .int .i64 0, .int .i64 0, str [120], nilS] ++ [.int .i64 2, .int .i64 0, .int .i64 0, str [120], nilS]) true) = x_ := ⟨_, rfl⟩
  rw [eh5] at gq2 lh5
  rw [eq2] at gq2
  rw [eh5, eq2] at v2
  have b3 := build_op 4 b (i := q2) (n := 2)
  have s3 := store_exv h5 4 b 0 [] v2.isS
  have gq3 := Heap.get_alloc_same h5 (.blk [.int .i64 4, .int .i64 b, .int .i64 0, str [], .slice (some ⟨q2, 0, none⟩) 2 5] true)
  have lh6 := (Heap.le.refl h5).alloc (.blk [.int .i64 4, .int .i64 b, .int .i64 0, str [], .slice (some ⟨q2, 0, none⟩) 2 5] true)
  obtain ⟨q3, eq3⟩ : ∃ x_, h5.next = x_ := ⟨_, rfl⟩
  obtain ⟨h6, eh6⟩ : ∃ x_, h5.alloc (.blk [.int .i64 4, .int .i64 b, .int .i64 0, str [], .slice (some ⟨q2, 0, none⟩) 2 5] true) = x_ := ⟨_, rfl⟩
  rw [eh6] at gq3 lh6
  rw [eq3] at gq3
  rw [eh6, eq3] at s3
  have x3 : ExC h6 (inX b) [.int .i64 4, .int .i64 b, .int .i64 0, str [], .slice (some ⟨q2, 0, none⟩) 2 5] := ExC.of (v2.mono lh6)
  have x13 := (x1.mono lh5).mono lh6
  have g13 := lh6.get (lh5.get gq1)
  clear x1 v2 hn lh4 lh5 lh6 gq2
  have u4 := bs_ex2 x3.ones x13.ones
  have v4 := ExsV.new2 x3 x13
  have gq4 := Heap.get_alloc_same h6 (.blk ([.int .i64 4, .int .i64 b, .int .i64 0, str [], .slice (some ⟨q2, 0, none⟩) 2 5] ++ [.int .i64 2, .int .i64 0, .int .i64 0, str [120], nilS]) true)
  have lh7 := (Heap.le.refl h6).alloc (.blk ([.int .i64 4, .int .i64 b, .int .i64 0, str [], .slice (some ⟨q2, 0, none⟩) 2 5] ++ [.int .i64 2, .int .i64 0, .int .i64 0, str [120], nilS]) true)
  obtain ⟨q4, eq4⟩ : ∃ x_, h6.next = x_ := ⟨_, rfl⟩
  obtain ⟨h7, eh7⟩ : ∃ x_, h6.alloc (.blk ([.int .i64 4, .int .i64 b, .int .i64 0, str [], .slice (some ⟨q2, 0, none⟩) 2 5] ++ [.int .i64 2, .int .i64 0, .int .i64 0, str [120], nilS]) true) = x_ := ⟨_, rfl⟩
  rw [eh7] at gq4 lh7
  rw [eq4] at gq4
  rw [eh7, eq4] at v4
  have b5 := build_op 4 a (i := q4) (n := 2)
  have x5 : ExC h7 (.mk 4 a 0 [] [inX b, varX]) [.int .i64 4, .int .i64 a, .int .i64 0, str [], .slice (some ⟨q4, 0, none⟩) 2 5] := ExC.of v4
  have g37 := lh7.get gq3
  have g17 := lh7.get g13
  have x37 := x3.mono lh7
  have x17 := x13.mono lh7
  clear x3 x13 v4 lh7 gq4
  replace x37 := Hid.mk x37; replace x17 := Hid.mk x17; replace x5 := Hid.mk x5
  repeat' (first | simp -implicitDefEqProofs only [walkL, aR, aW, aBin, aInt, Int.reduceBEq, Int.reduceBNe, Nat.reduceBEq, Int.reduceLT, Int.reduceLE, partL5, *] | with_reducible (first | refine cndK_d ?_ ?_ | refine grdK_d ?_ ?_ | refine cndK_i ?_ ?_ | refine grdK_i ?_ ?_) <;> intro hc)
  have e1 : rightE (.mk 4 a 0 [] [inX b, varX]) 30 = true := (rightE_iff _ _).2 (.two _ _ _ _ ra.h (inX_I rb.h 27) (varX_I 28))
  refine Expr_c x5.h _ fun h8 l8 => ?_
  simp only [e1, if_true]
  obtain ⟨S, hS⟩ : ∃ S, textE (.mk 4 a 0 [] [inX b, varX]) = S := ⟨_, rfl⟩
  rw [hS]
  have g38 := l8.get g37
  have g18 := l8.get g17
  have x38 := x37.h.mono l8
  have x18 := x17.h.mono l8
  clear l8 x37 x17 x5 e1 u4 b5 gq3 g13 s1 s3 u2 b1 b3
  have u4 := bs_ex2 x18.ones x38.ones
  have v4 := ExsV.new2 x18 x38
  have gq5 := Heap.get_alloc_same h8 (.blk ([.int .i64 2, .int .i64 0, .int .i64 0, str [120], nilS] ++ [.int .i64 4, .int .i64 b, .int .i64 0, str [], .slice (some ⟨q2, 0, none⟩) 2 5]) true)
  have lh9 := (Heap.le.refl h8).alloc (.blk ([.int .i64 2, .int .i64 0, .int .i64 0, str [120], nilS] ++ [.int .i64 4, .int .i64 b, .int .i64 0, str [], .slice (some ⟨q2, 0, none⟩) 2 5]) true)
  obtain ⟨q5, eq5⟩ : ∃ x_, h8.next = x_ := ⟨_, rfl⟩
  obtain ⟨h9, eh9⟩ : ∃ x_, h8.alloc (.blk ([.int .i64 2, .int .i64 0, .int .i64 0, str [120], nilS] ++ [.int .i64 4, .int .i64 b, .int .i64 0, str [], .slice (some ⟨q2, 0, none⟩) 2 5]) true) = x_ := ⟨_, rfl⟩
  rw [eh9] at gq5 lh9
  rw [eq5] at gq5
  rw [eh9, eq5] at v4
  have b5 := build_op 4 a (i := q5) (n := 2)
  have x5 : ExC h9 (.mk 4 a 0 [] [varX, inX b]) [.int .i64 4, .int .i64 a, .int .i64 0, str [], .slice (some ⟨q5, 0, none⟩) 2 5] := ExC.of v4
  have g39 := lh9.get g38
  have x39 := x38.mono lh9
  clear x38 x18 v4 lh9 gq5
  replace x39 := Hid.mk x39; replace x5 := Hid.mk x5; replace hS := Hid.mk hS
  repeat' (first | simp -implicitDefEqProofs only [walkL, aR, aW, aBin, aInt, Int.reduceBEq, Int.reduceBNe, Nat.reduceBEq, Int.reduceLT, Int.reduceLE, partL5, *] | with_reducible (first | refine cndK_d ?_ ?_ | refine grdK_d ?_ ?_ | refine cndK_i ?_ ?_ | refine grdK_i ?_ ?_) <;> intro hc)
  have e1 : rightE (.mk 4 a 0 [] [varX, inX b]) 30 = true := (rightE_iff _ _).2 (.two _ _ _ _ ra.h (varX_I 28) (inX_I rb.h 27))
  refine Expr_c x5.h _ fun h10 l10 => ?_
  simp only [e1, if_true]
  obtain ⟨T, hT⟩ : ∃ S, textE (.mk 4 a 0 [] [varX, inX b]) = S := ⟨_, rfl⟩
  rw [hT]
  have gA := l10.get g39
  have xA := x39.h.mono l10
  clear l10 x39 x5 e1 u4 b5 g37 g17 g38 g18 g39
  have u6 := bs_ex1 xA.ones
  have v6 := ExsV.new1 xA
  have gq6 := Heap.get_alloc_same h10 (.blk [.int .i64 4, .int .i64 b, .int .i64 0, str [], .slice (some ⟨q2, 0, none⟩) 2 5] true)
  have lh11 := (Heap.le.refl h10).alloc (.blk [.int .i64 4, .int .i64 b, .int .i64 0, str [], .slice (some ⟨q2, 0, none⟩) 2 5] true)
  obtain ⟨q6, eq6⟩ : ∃ x_, h10.next = x_ := ⟨_, rfl⟩
  obtain ⟨h11, eh11⟩ : ∃ x_, h10.alloc (.blk [.int .i64 4, .int .i64 b, .int .i64 0, str [], .slice (some ⟨q2, 0, none⟩) 2 5] true) = x_ := ⟨_, rfl⟩
  rw [eh11] at gq6 lh11
  rw [eq6] at gq6
  rw [eh11, eq6] at v6
  have b6 : pBuild [.int .i64 0, .int .i64 0, .int .i64 0, .string ⟨#[]⟩, .slice none 0 0] [(0, 1), (1, 1), (4, 1)] [.int .i64 3, .int .i64 15, .slice (some ⟨q6, 0, none⟩) 1 5] = some (exV 3 15 0 [] (.slice (some ⟨q6, 0, none⟩) 1 5)) := build_op 3 15 (i := q6) (n := 1)
  have x6 : ExC h11 (.mk 3 15 0 [] [inX b]) [.int .i64 3, .int .i64 15, .int .i64 0, str [], .slice (some ⟨q6, 0, none⟩) 1 5] := ExC.of v6
  have gB := lh11.get gA
  have xB := xA.mono lh11
  clear v6 lh11 gq6 xA
  replace xB := Hid.mk xB; replace x6 := Hid.mk x6; replace hT := Hid.mk hT
  repeat' (first | simp -implicitDefEqProofs only [walkL, aR, aW, aBin, aInt, Int.reduceBEq, Int.reduceBNe, Nat.reduceBEq, Int.reduceLT, Int.reduceLE, partL5, *] | with_reducible (first | refine cndK_d ?_ ?_ | refine grdK_d ?_ ?_ | refine cndK_i ?_ ?_ | refine grdK_i ?_ ?_) <;> intro hc)
  have e1 : rightE (.mk 3 15 0 [] [inX b]) 30 = true := (rightE_iff _ _).2 (.one _ _ _ (by omega) (inX_I rb.h 27))
  refine Expr_c x6.h _ fun h12 l12 => ?_
  simp only [e1, if_true]
  obtain ⟨rU, hU⟩ := textU b
  rw [hU]
  have gC := l12.get gB
  have xC := xB.h.mono l12
  clear l12 xB x6 e1 u6 b6 gA gB hU
  have u7 := bs_ex1 xC.ones
  have v7 := ExsV.new1 xC
  have gq7 := Heap.get_alloc_same h12 (.blk [.int .i64 4, .int .i64 b, .int .i64 0, str [], .slice (some ⟨q2, 0, none⟩) 2 5] true)
  have lh13 := (Heap.le.refl h12).alloc (.blk [.int .i64 4, .int .i64 b, .int .i64 0, str [], .slice (some ⟨q2, 0, none⟩) 2 5] true)
  obtain ⟨q7, eq7⟩ : ∃ x_, h12.next = x_ := ⟨_, rfl⟩
  obtain ⟨h13, eh13⟩ : ∃ x_, h12.alloc (.blk [.int .i64 4, .int .i64 b, .int .i64 0, str [], .slice (some ⟨q2, 0, none⟩) 2 5] true) = x_ := ⟨_, rfl⟩
  rw [eh13] at gq7 lh13
  rw [eq7] at gq7
  rw [eh13, eq7] at v7
  have b7 : pBuild [.int .i64 0, .int .i64 0, .int .i64 0, .string ⟨#[]⟩, .slice none 0 0] [(0, 1), (3, 1), (4, 1)] [.int .i64 5, str [114], .slice (some ⟨q7, 0, none⟩) 1 5] = some (exV 5 0 0 [114] (.slice (some ⟨q7, 0, none⟩) 1 5)) := build_at _
  have x7 : ExC h13 (.mk 5 0 0 [114] [inX b]) [.int .i64 5, .int .i64 0, .int .i64 0, str [114], .slice (some ⟨q7, 0, none⟩) 1 5] := ExC.of v7
  clear v7 lh13 gq7 xC
  replace x7 := Hid.mk x7
  repeat' (first | simp -implicitDefEqProofs only [walkL, aR, aW, aBin, aInt, Int.reduceBEq, Int.reduceBNe, Nat.reduceBEq, Int.reduceLT, Int.reduceLE, partL5, *] | with_reducible (first | refine cndK_d ?_ ?_ | refine grdK_d ?_ ?_ | refine cndK_i ?_ ?_ | refine grdK_i ?_ ?_) <;> intro hc)
  have e1 : rightE (.mk 5 0 0 [114] [inX b]) 30 = true := (rightE_iff _ _).2 (.idx _ _ _ (by decide) (inX_I rb.h 27))
  refine Expr_c x7.h _ fun h14 l14 => ?_
  simp only [e1, if_true]
  obtain ⟨rV, hV⟩ := textAt b
  rw [hV]
  clear l14 x7 e1 u7 b7 gC hV
  obtain ⟨c, r, e, ec⟩ := first_byte a b
  obtain ⟨c', r', e', ec'⟩ := last_byte a b
  rw [hS.h] at e
  rw [hT.h] at e'
  subst e
  subst e'
  have n1 : ¬ ((c :: r).length : Int) < 1 := by simp; omega
  have n2 : ¬ ((r' ++ [c']).length : Int) < 1 := by simp; omega
  have n3 : ¬ ((45 :: 40 :: rU : List UInt8).length : Int) < 2 := by simp; omega
  have n4 : ¬ ((114 :: 91 :: 120 :: rV : List UInt8).length : Int) < 3 := by simp; omega
  have ix0 : pIdxStr [str (c :: r), .int .i64 0] = some (.int .u8 c.toNat) := idx_S (l := c :: r) (i := 0) rfl .i64
  have ixl : pIdxStr [str (r' ++ [c']), .int .i64 (r'.length : Int)] = some (.int .u8 c'.toNat) := idx_S (by simp) .i64
  have hb := textE_b (ExI.two a varX (inX b) 28 ra.h (varX_I 27) (inX_I rb.h 26)) (by omega)
  rw [hT.h] at hb
  have wl : IntKind.i64.wrap (((r' ++ [c']).length : Int) - 1) = (r'.length : Int) := by
    simp at hb ⊢
    rw [wrapI (by omega) (by omega)]
    first | done | omega
  have cU : pSliceStr false true [str (45 :: 40 :: rU), .int .i64 2] = some (str [45, 40]) := cutHi_S (l := 45 :: 40 :: rU) (n := 2) (by simp)
  have cV : pSliceStr false true [str (114 :: 91 :: 120 :: rV), .int .i64 3] = some (str [114, 91, 120]) := cutHi_S (l := 114 :: 91 :: 120 :: rV) (n := 3) (by simp)
  have q1' := eqs_S [45, 40]
  have q2' := eqs_S [114, 91, 120]
  have eT : pEqB false [.bool true, .bool true] = some (.bool true) := rfl
  have eF : pEqB false [.bool false, .bool false] = some (.bool true) := rfl
  have g := hq.h h14
  obtain ⟨la, hla⟩ : ∃ k, levelN a = k := ⟨_, rfl⟩
  obtain ⟨lb, hlb⟩ : ∃ k, levelN b = k := ⟨_, rfl⟩
  rw [hla, hlb] at ec ec'
  clear hq hb
  replace g := Hid.mk g; replace hS := Hid.mk hS; replace hT := Hid.mk hT; replace ec := Hid.mk ec; replace ec' := Hid.mk ec'; replace hla := Hid.mk hla; replace hlb := Hid.mk hlb
  obtain ⟨z, y, cl, cr, zl, zr⟩ : ∃ z y : Bool, ((c.toNat : Int) != 40) = z ∧ ((c'.toNat : Int) != 41) = y ∧ decide ((la : Int) ≤ (lb : Int)) = z ∧ decide ((la : Int) < (lb : Int)) = y := by
    refine ⟨_, _, rfl, rfl, ?_, ?_⟩
    · rw [ec.h]
      split
      · rw [decide_eq_false (by omega)]; rfl
      · rw [decide_eq_true (by omega)]; rfl
    · rw [ec'.h]
      split
      · rw [decide_eq_false (by omega)]; rfl
      · rw [decide_eq_true (by omega)]; rfl
  have ez : pEqB false [.bool z, .bool z] = some (.bool true) := by cases z <;> rfl
  have ey : pEqB false [.bool y, .bool y] = some (.bool true) := by cases y <;> rfl
  repeat' (first | simp -implicitDefEqProofs only [walkL, aR, aW, aBin, aInt, Int.reduceBEq, Int.reduceBNe, Nat.reduceBEq, Int.reduceLT, Int.reduceLE, len_S, *] | with_reducible (first | refine cndK_d ?_ ?_ | refine grdK_d ?_ ?_ | refine cndK_i ?_ ?_ | refine grdK_i ?_ ?_) <;> intro hc)
  refine level_c _ _ _ ?_
  rw [hlb.h]
  repeat' (first | simp -implicitDefEqProofs only [walkL, aR, aW, aBin, aInt, Int.reduceBEq, Int.reduceBNe, Nat.reduceBEq, Int.reduceLT, Int.reduceLE, *] | with_reducible (first | refine cndK_d ?_ ?_ | refine grdK_d ?_ ?_ | refine cndK_i ?_ ?_ | refine grdK_i ?_ ?_) <;> intro hc)
  refine level_c _ _ _ ?_
  rw [hla.h]
  repeat' (first | simp -implicitDefEqProofs only [walkL, aR, aW, aBin, aInt, Int.reduceBEq, Int.reduceBNe, Nat.reduceBEq, Int.reduceLT, Int.reduceLE, *] | with_reducible (first | refine cndK_d ?_ ?_ | refine grdK_d ?_ ?_ | refine cndK_i ?_ ?_ | refine grdK_i ?_ ?_) <;> intro hc)
  refine level_c _ _ _ ?_
  rw [hlb.h]
  repeat' (first | simp -implicitDefEqProofs only [walkL, aR, aW, aBin, aInt, Int.reduceBEq, Int.reduceBNe, Nat.reduceBEq, Int.reduceLT, Int.reduceLE, *] | with_reducible (first | refine cndK_d ?_ ?_ | refine grdK_d ?_ ?_ | refine cndK_i ?_ ?_ | refine grdK_i ?_ ?_) <;> intro hc)
  refine level_c _ _ _ ?_
  rw [hla.h]
  repeat' (first | simp -implicitDefEqProofs only [walkL, aR, aW, aBin, aInt, Int.reduceBEq, Int.reduceBNe, Nat.reduceBEq, Int.reduceLT, Int.reduceLE, *] | with_reducible (first | refine cndK_d ?_ ?_ | refine grdK_d ?_ ?_ | refine cndK_i ?_ ?_ | refine grdK_i ?_ ?_) <;> intro hc)
  exact g.h
end Go.Eng.Sy

