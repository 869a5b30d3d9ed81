/-
  Part of a proof of the laws of layer 06 (syntax): the laws.
  Conditions: none.
-/
import Derived.Test.YtgjipdebbflbpaaDoorEc
import Derived.Test.YtgjipdebbflbpaaDoorProg
import Derived.KernelRfl
import Derived.Test.YtgjipdebbflbpaaDoorBd
namespace Go.Eng.Sy
open Go Go.Eng Go.Proofs

/-- headstock/headstocklaw06.SyntaxWrong · variables 0:raw, 1:where, 2:what, 3:deep, 8:, 9:ok, 10:p, 11:one, 12:bad, 13:s, 14:i, 15:k, 16:t, 17:u, 18:e -/
noncomputable def c4_r0 : List SOp := [⟨0, .p .mov, [.c (.bool false)], none, false⟩]
noncomputable def c4_r1 : List SOp := [⟨0, .call 7, [], none, false⟩, ⟨1, .p .mov, [.t 0], none, false⟩]
noncomputable def c4_r2 : List SOp := [⟨0, .p .mov, [.v 0], none, false⟩, ⟨1, .call 11, [.t 0, .c (.bool false)], none, false⟩, ⟨2, .a (.new [.int .i64 0, .slice none 0 0, .slice none 0 0, .slice none 0 0]), [], none, false⟩, ⟨3, .w (.store 4), [.t 0, .t 1], none, false⟩]
noncomputable def c4_r3 : List SOp := [⟨0, .p (.build [.int .i64 0, .int .i64 0, .int .i64 0, .string ⟨#[]⟩, .slice none 0 0] [(0, 1), (2, 1)]), [.c (.int .i64 1), .c (.int .i64 1)], none, false⟩, ⟨1, .a (.new [.int .i64 0, .int .i64 0, .int .i64 0, .string ⟨#[]⟩, .slice none 0 0]), [], none, false⟩, ⟨2, .w (.store 5), [.t 0, .t 1], none, false⟩]
noncomputable def c4_r4 : List SOp := [⟨0, .p (.build [.int .i64 0, .string ⟨#[]⟩, .string ⟨#[]⟩, .int .i64 0, .slice none 0 0, .slice none 0 0, .slice none 0 0] []), [], none, false⟩, ⟨1, .p (.build [.int .i64 0, .string ⟨#[]⟩, .string ⟨#[]⟩, .int .i64 0, .slice none 0 0, .slice none 0 0, .slice none 0 0] [(0, 1)]), [.c (.int .i64 9)], none, false⟩, ⟨2, .p (.build [.int .i64 0, .string ⟨#[]⟩, .string ⟨#[]⟩, .int .i64 0, .slice none 0 0, .slice none 0 0, .slice none 0 0] [(0, 1), (3, 1)]), [.c (.int .i64 8), .c (.int .i64 1)], none, false⟩, ⟨3, .p (.build [.int .i64 0, .string ⟨#[]⟩, .string ⟨#[]⟩, .int .i64 0, .slice none 0 0, .slice none 0 0, .slice none 0 0] [(0, 1), (1, 1)]), [.c (.int .i64 1), .c (.string ⟨#[120]⟩)], none, false⟩, ⟨4, .r (.load true 5), [.v 7], none, false⟩, ⟨5, .a (.bslice [.int .i64 0, .int .i64 0, .int .i64 0, .string ⟨#[]⟩, .slice none 0 0] [(0, 5)] 1 5), [.t 0], none, false⟩, ⟨6, .p (.build [.int .i64 0, .string ⟨#[]⟩, .string ⟨#[]⟩, .int .i64 0, .slice none 0 0, .slice none 0 0, .slice none 0 0] [(0, 1), (1, 1), (4, 1)]), [.c (.int .i64 1), .c (.string ⟨#[105, 102]⟩), .t 0], none, false⟩, ⟨7, .p (.build [.int .i64 0, .string ⟨#[]⟩, .string ⟨#[]⟩, .int .i64 0, .slice none 0 0, .slice none 0 0, .slice none 0 0] [(0, 1), (1, 1), (2, 1), (3, 1)]), [.c (.int .i64 2), .c (.string ⟨#[120]⟩), .c (.string ⟨#[100]⟩), .c (.int .i64 4)], none, false⟩, ⟨8, .r (.load true 5), [.v 7], none, false⟩, ⟨9, .a (.bslice [.int .i64 0, .int .i64 0, .int .i64 0, .string ⟨#[]⟩, .slice none 0 0] [(0, 5)] 1 5), [.t 0], none, false⟩, ⟨10, .p (.build [.int .i64 0, .string ⟨#[]⟩, .string ⟨#[]⟩, .int .i64 0, .slice none 0 0, .slice none 0 0, .slice none 0 0] [(0, 1), (1, 1), (3, 1), (4, 1)]), [.c (.int .i64 3), .c (.string ⟨#[100]⟩), .c (.int .i64 (-1)), .t 0], none, false⟩, ⟨11, .r (.load true 5), [.v 7], none, false⟩, ⟨12, .a (.bslice [.int .i64 0, .int .i64 0, .int .i64 0, .string ⟨#[]⟩, .slice none 0 0] [(0, 5)] 1 5), [.t 0], none, false⟩, ⟨13, .p (.build [.int .i64 0, .string ⟨#[]⟩, .string ⟨#[]⟩, .int .i64 0, .slice none 0 0, .slice none 0 0, .slice none 0 0] [(0, 1), (1, 1), (4, 1)]), [.c (.int .i64 4), .c (.string ⟨#[114, 97]⟩), .t 0], none, false⟩, ⟨14, .p (.build [.int .i64 0, .string ⟨#[]⟩, .string ⟨#[]⟩, .int .i64 0, .slice none 0 0, .slice none 0 0, .slice none 0 0] [(0, 1)]), [.c (.int .i64 8)], none, false⟩, ⟨15, .a (.bslice [.int .i64 0, .string ⟨#[]⟩, .string ⟨#[]⟩, .int .i64 0, .slice none 0 0, .slice none 0 0, .slice none 0 0] [(0, 7)] 1 7), [.t 0], none, false⟩, ⟨16, .p (.build [.int .i64 0, .string ⟨#[]⟩, .string ⟨#[]⟩, .int .i64 0, .slice none 0 0, .slice none 0 0, .slice none 0 0] [(0, 1), (1, 1), (6, 1)]), [.c (.int .i64 5), .c (.string ⟨#[114, 97]⟩), .t 0], none, false⟩, ⟨17, .p (.build [.int .i64 0, .string ⟨#[]⟩, .string ⟨#[]⟩, .int .i64 0, .slice none 0 0, .slice none 0 0, .slice none 0 0] [(0, 1), (3, 1)]), [.c (.int .i64 7), .c (.int .i64 21)], none, false⟩, ⟨18, .p (.build [.int .i64 0, .int .i64 0, .int .i64 0, .string ⟨#[]⟩, .slice none 0 0] [(0, 1), (2, 1)]), [.c (.int .i64 1), .c (.int .i64 4294967296)], none, false⟩, ⟨19, .a (.bslice [.int .i64 0, .int .i64 0, .int .i64 0, .string ⟨#[]⟩, .slice none 0 0] [(0, 5)] 1 5), [.t 0], none, false⟩, ⟨20, .p (.build [.int .i64 0, .string ⟨#[]⟩, .string ⟨#[]⟩, .int .i64 0, .slice none 0 0, .slice none 0 0, .slice none 0 0] [(0, 1), (4, 1)]), [.c (.int .i64 6), .t 0], none, false⟩, ⟨21, .r (.load true 5), [.v 7], none, false⟩, ⟨22, .a (.bslice [.int .i64 0, .int .i64 0, .int .i64 0, .string ⟨#[]⟩, .slice none 0 0] [(0, 5)] 1 5), [.t 0], none, false⟩, ⟨23, .p (.build [.int .i64 0, .string ⟨#[]⟩, .string ⟨#[]⟩, .int .i64 0, .slice none 0 0, .slice none 0 0, .slice none 0 0] [(0, 1), (1, 1), (2, 1), (4, 1)]), [.c (.int .i64 1), .c (.string ⟨#[120]⟩), .c (.string ⟨#[100]⟩), .t 0], none, false⟩, ⟨24, .a (.bslice [.int .i64 0, .string ⟨#[]⟩, .string ⟨#[]⟩, .int .i64 0, .slice none 0 0, .slice none 0 0, .slice none 0 0, .int .i64 0, .string ⟨#[]⟩, .string ⟨#[]⟩, .int .i64 0, .slice none 0 0, .slice none 0 0, .slice none 0 0, .int .i64 0, .string ⟨#[]⟩, .string ⟨#[]⟩, .int .i64 0, .slice none 0 0, .slice none 0 0, .slice none 0 0, .int .i64 0, .string ⟨#[]⟩, .string ⟨#[]⟩, .int .i64 0, .slice none 0 0, .slice none 0 0, .slice none 0 0, .int .i64 0, .string ⟨#[]⟩, .string ⟨#[]⟩, .int .i64 0, .slice none 0 0, .slice none 0 0, .slice none 0 0, .int .i64 0, .string ⟨#[]⟩, .string ⟨#[]⟩, .int .i64 0, .slice none 0 0, .slice none 0 0, .slice none 0 0, .int .i64 0, .string ⟨#[]⟩, .string ⟨#[]⟩, .int .i64 0, .slice none 0 0, .slice none 0 0, .slice none 0 0, .int .i64 0, .string ⟨#[]⟩, .string ⟨#[]⟩, .int .i64 0, .slice none 0 0, .slice none 0 0, .slice none 0 0, .int .i64 0, .string ⟨#[]⟩, .string ⟨#[]⟩, .int .i64 0, .slice none 0 0, .slice none 0 0, .slice none 0 0, .int .i64 0, .string ⟨#[]⟩, .string ⟨#[]⟩, .int .i64 0, .slice none 0 0, .slice none 0 0, .slice none 0 0, .int .i64 0, .string ⟨#[]⟩, .string ⟨#[]⟩, .int .i64 0, .slice none 0 0, .slice none 0 0, .slice none 0 0, .int .i64 0, .string ⟨#[]⟩, .string ⟨#[]⟩, .int .i64 0, .slice none 0 0, .slice none 0 0, .slice none 0 0] [(0, 7), (7, 7), (14, 7), (21, 7), (28, 7), (35, 7), (42, 7), (49, 7), (56, 7), (63, 7), (70, 7), (77, 7)] 12 7), [.t 23, .t 22, .t 21, .t 20, .t 17, .t 16, .t 13, .t 10, .t 7, .t 6, .t 3, .t 0], none, false⟩, ⟨25, .p .mov, [.t 0], none, false⟩]
noncomputable def c4_r5 : List SOp := [⟨0, .p .mov, [.v 8], none, false⟩, ⟨1, .p .mov, [.v 2], none, false⟩, ⟨2, .p .mov, [.v 8], none, false⟩, ⟨3, .p .lenS, [.t 0], none, false⟩, ⟨4, .call 8, [.t 2, .t 0], none, false⟩, ⟨5, .p (.idxAddrS 7), [.t 4, .t 0], none, false⟩, ⟨6, .r (.load true 7), [.t 0], none, false⟩, ⟨7, .a (.new [.int .i64 0, .string ⟨#[]⟩, .string ⟨#[]⟩, .int .i64 0, .slice none 0 0, .slice none 0 0, .slice none 0 0]), [], none, false⟩, ⟨8, .w (.store 7), [.t 0, .t 1], none, false⟩]
noncomputable def c4_r6 : List SOp := [⟨0, .p .mov, [.v 3], none, false⟩, ⟨1, .call 8, [.t 0, .c (.int .i64 20)], none, false⟩, ⟨2, .p .mov, [.t 0], none, false⟩]
noncomputable def c4_r7 : List SOp := [⟨0, .p .mov, [.v 10], none, false⟩, ⟨1, .p (.bin .gtr), [.t 0, .c (.int .i64 0)], none, false⟩]
noncomputable def c4_r8 : List SOp := [⟨0, .r (.load true 7), [.v 9], none, false⟩, ⟨1, .a (.bslice [.int .i64 0, .string ⟨#[]⟩, .string ⟨#[]⟩, .int .i64 0, .slice none 0 0, .slice none 0 0, .slice none 0 0] [(0, 7)] 1 7), [.t 0], none, false⟩, ⟨2, .p (.build [.int .i64 0, .string ⟨#[]⟩, .string ⟨#[]⟩, .int .i64 0, .slice none 0 0, .slice none 0 0, .slice none 0 0] [(0, 1), (3, 1), (5, 1)]), [.c (.int .i64 7), .c (.int .i64 2), .t 0], none, false⟩, ⟨3, .w (.store 7), [.v 9, .t 0], none, false⟩]
noncomputable def c4_r9 : List SOp := [⟨0, .p .mov, [.v 10], none, false⟩, ⟨1, .p (.bin .sub), [.t 0, .c (.int .i64 1)], none, false⟩, ⟨2, .p .mov, [.t 0], none, false⟩]
noncomputable def c4_l10 : CCode := (.seq (.rcond c4_r7 [] 0 .skip (.exit 0)) (.seq (.block 1 (.reg c4_r8 [])) (.reg c4_r9 [(10, 0)])))
noncomputable def c4_r11 : List SOp := [⟨0, .p .mov, [.v 1], none, false⟩, ⟨1, .p (.fieldAddr 3), [.v 6], none, false⟩, ⟨2, .r (.load false 1), [.t 0], none, false⟩, ⟨3, .p .lenS, [.t 0], none, false⟩, ⟨4, .call 8, [.t 3, .t 0], none, false⟩, ⟨5, .p .mov, [.t 0], none, false⟩]
noncomputable def c4_r12 : List SOp := [⟨0, .p (.fieldAddr 3), [.v 6], none, false⟩, ⟨1, .r (.load false 1), [.t 0], none, false⟩, ⟨2, .p .mov, [.v 11], none, false⟩, ⟨3, .p (.idxAddrS 6), [.t 1, .t 0], none, false⟩, ⟨4, .r (.load true 6), [.t 0], none, false⟩, ⟨5, .a (.new [.string ⟨#[]⟩, .bool false, .int .i64 0, .int .i64 0, .int .i64 0, .slice none 0 0]), [], none, false⟩, ⟨6, .w (.store 6), [.t 0, .t 1], none, false⟩]
noncomputable def c4_r13 : List SOp := [⟨0, .p (.fieldAddr 5), [.v 12], none, false⟩, ⟨1, .r (.load false 1), [.t 0], none, false⟩, ⟨2, .w (.append 7 120), [.c (.slice none 0 0), .t 0], none, true⟩, ⟨3, .r (.load true 7), [.v 9], none, false⟩, ⟨4, .a (.bslice [.int .i64 0, .string ⟨#[]⟩, .string ⟨#[]⟩, .int .i64 0, .slice none 0 0, .slice none 0 0, .slice none 0 0] [(0, 7)] 1 7), [.t 0], none, false⟩, ⟨5, .w (.append 7 120), [.t 2, .t 0], none, false⟩, ⟨6, .p (.fieldAddr 5), [.v 12], none, false⟩, ⟨7, .w (.store 1), [.t 0, .t 1], none, false⟩]
noncomputable def c4_r14 : List SOp := [⟨0, .p (.fieldAddr 3), [.v 6], none, false⟩, ⟨1, .r (.load false 1), [.t 0], none, false⟩, ⟨2, .p .mov, [.v 11], none, false⟩, ⟨3, .r (.load true 6), [.v 12], none, false⟩, ⟨4, .p (.idxAddrS 6), [.t 2, .t 1], none, false⟩, ⟨5, .w (.store 6), [.t 0, .t 1], none, false⟩]
noncomputable def c4_r15 : List SOp := [⟨0, .r (.load true 4), [.v 6], none, false⟩, ⟨1, .call 12, [.t 0], none, false⟩, ⟨2, .p .mov, [.t 0], none, false⟩, ⟨3, .p (.extract 0), [.t 0], none, false⟩, ⟨4, .p (.extract 1), [.t 1], none, false⟩, ⟨5, .p .mov, [.t 1], none, false⟩, ⟨6, .p .mov, [.t 1], none, false⟩]
noncomputable def c4_r16 : List SOp := [⟨0, .p .mov, [.v 5], none, false⟩, ⟨1, .p .mov, [.t 0], none, false⟩, ⟨2, .r (.load true 4), [.v 6], some (0, true), false⟩, ⟨3, .call 13, [.t 0], some (1, true), false⟩, ⟨4, .p (.un .not), [.t 0], some (2, true), false⟩, ⟨5, .p .pick, [.t 3, .t 0, .c (.bool false)], none, false⟩, ⟨6, .p .mov, [.t 0], none, false⟩, ⟨7, .p .mov, [.v 13], some (0, true), false⟩, ⟨8, .p (.bin .eql), [.t 0, .c (.string ⟨#[]⟩)], some (1, true), false⟩, ⟨9, .p .pick, [.t 2, .t 0, .c (.bool false)], none, false⟩, ⟨10, .p .mov, [.t 0], none, false⟩, ⟨11, .p .mov, [.v 14], some (0, true), false⟩, ⟨12, .p (.bin .eql), [.t 0, .c (.int .i64 1)], some (1, true), false⟩, ⟨13, .p .pick, [.t 2, .t 0, .c (.bool false)], none, false⟩, ⟨14, .p .mov, [.t 0], none, false⟩]
noncomputable def c4 : CFn := { nargs := 4, vars := [0, 1, 2, 3, 8, 9, 10, 11, 12, 13, 14, 15, 16, 17, 18], results := [.var 4], body := (.seq (.reg c4_r0 [(4, 0)]) (.seq (.reg c4_r1 [(5, 0)]) (.seq (.reg c4_r2 [(6, 1)]) (.seq (.reg c4_r3 [(7, 1)]) (.seq (.reg c4_r4 [(8, 0)]) (.seq (.reg c4_r5 [(9, 1)]) (.seq (.seq (.reg c4_r6 [(10, 0)]) (.block 0 (.loop c4_l10))) (.seq (.reg c4_r11 [(11, 0)]) (.seq (.reg c4_r12 [(12, 1)]) (.seq (.reg c4_r13 []) (.seq (.reg c4_r14 []) (.seq (.reg c4_r15 [(13, 1), (14, 0)]) (.seq (.reg c4_r16 [(4, 0)]) .ret))))))))))))) }

set_option maxRecDepth 100000 in
theorem ok4 : FnOk Tryd.prog 4 c4 := compF_ok (na := c4.nargs) (vars := c4.vars) (by kernel_rfl)
end Go.Eng.Sy

set_option linter.unusedSimpArgs false
set_option linter.unusedVariables false
namespace Go.Eng
open Go
theorem fillL_rows {s : Nat} : ∀ (xs : List (List Value)) (done rest : List Value) (k : Nat), done.length = k * s → rest.length = xs.length * s → (∀ x ∈ xs, x.length = s ∧ x.all (·.oneCell') = true) →
    fillL (done ++ rest) (((List.range' k xs.length).map fun i => (i * s, s)).zip (xs.map fun x => Value.agg x.toArray)) = some (done ++ xs.flatten)
  | [], done, rest, k, _, hr, _ => by
    have : rest = [] := List.length_eq_zero_iff.1 (by simpa using hr)
    subst this; simp [fillL]
  | v :: vs, done, rest, k, hd, hr, h1 => by
    obtain ⟨a, b⟩ := h1 v (by simp)
    rw [List.length_cons, Nat.succ_mul] at hr
    have ih := fillL_rows vs (done ++ v) (rest.drop s) (k + 1) (by rw [List.length_append, hd, a, Nat.succ_mul]) (by rw [List.length_drop]; omega) fun x hx => h1 x (by simp [hx])
    simp only [List.length_cons, List.range'_succ, List.map_cons, List.zip_cons_cons, fillL]
    have ec : (Value.agg v.toArray).cells.toList = v := rfl
    rw [ec, if_pos ⟨a, by rw [List.length_append, hd]; omega, b⟩]
    have e1 : (done ++ rest).take (k * s) = done := by rw [← hd]; simp
    have e2 : (done ++ rest).drop (k * s + s) = rest.drop s := by rw [← hd, ← List.drop_drop]; simp
    rw [e1, e2]
    simpa using ih
theorem bslice_rows {s n : Nat} {zs : List Value} {xs : List (List Value)} {parts : List (Nat × Nat)} {vs : List Value} (hp : parts = (List.range' 0 xs.length).map fun i => (i * s, s)) (hvs : vs = xs.map fun x => Value.agg x.toArray) (hz : zs.length = xs.length * s) (h1 : ∀ x ∈ xs, x.length = s ∧ x.all (·.oneCell') = true) :
    aBslice zs parts n s vs = some (xs.flatten, fun id => .slice (some ⟨id, 0, none⟩) n s) := by
  have := fillL_rows xs [] zs 0 (by simp) hz h1
  subst hp; subst hvs
  simp only [aBslice, List.length_map, List.length_range', if_true]
  rw [show zs = [] ++ zs from rfl, this]
  rfl
end Go.Eng
namespace Go.Eng.Sy
open Go Go.Eng Go.Proofs
theorem StCsB.get {B : Nat → Prop} {h : Heap} : ∀ {l : List St} {xs : List (List Value)}, StCsB B h l xs → ∀ {i : Nat} {e : St}, l[i]? = some e → ∃ x, xs[i]? = some x ∧ StCB B h e x
  | [], _, _, i, e, hi => by simp at hi
  | _ :: _, _, ⟨x, xr, h1, h2, h3⟩, 0, e, hi => by simp at hi; subst hi; exact ⟨x, by rw [h1]; rfl, h2⟩
  | _ :: _, _, ⟨x, xr, h1, h2, h3⟩, i + 1, e, hi => by
    obtain ⟨y, hy, hz⟩ := StCsB.get h3 (i := i) (by simpa using hi)
    exact ⟨y, by rw [h1]; simpa using hy, hz⟩
theorem StsVB.new1 {B : Nat → Prop} {h : Heap} {e : St} {x : List Value} (hx : StCB B h e x) (hB : B h.next) : StsVB B (h.alloc (.blk x true)) (.slice (some ⟨h.next, 0, none⟩) 1 7) [e] := by
  refine ⟨[x], .inr ⟨h.next, 0, rfl, .inr ⟨hB, ?_⟩⟩, by simp, x, [], rfl, hx.to (((Heap.le.refl h).alloc _).toB fun _ h => h), rfl⟩
  rcases SlV.new h (s := 7) (xs := [x]) (by simpa using hx.ones.1) (cells := x) (by simp) rfl with ⟨e, _⟩ | ⟨id, off, e, ha⟩
  · cases e
  · cases e
    rcases ha with ha | ha
    · cases ha
    · exact ha
theorem ExsVB.new1 {B : Nat → Prop} {h : Heap} {e : Ex} {x : List Value} (hx : ExCB B h e x) (hB : B h.next) : ExsVB B (h.alloc (.blk x true)) (.slice (some ⟨h.next, 0, none⟩) 1 5) [e] := by
  refine ⟨[x], .inr ⟨h.next, 0, rfl, .inr ⟨hB, ?_⟩⟩, by simp, x, [], rfl, hx.to (((Heap.le.refl h).alloc _).toB fun _ h => h), rfl⟩
  rcases SlV.new h (s := 5) (xs := [x]) (by simpa using hx.ones.1) (cells := x) (by simp) rfl with ⟨e, _⟩ | ⟨id, off, e, ha⟩
  · cases e
  · cases e
    rcases ha with ha | ha
    · cases ha
    · exact ha
/-! ### what is not right -/
def bigE : Ex := .mk 1 0 4294967296 [] []
def badL : List St := [.mk 0 [] [] 0 [] [] [], .mk 9 [] [] 0 [] [] [], .mk 8 [] [] 1 [] [] [], .mk 1 [120] [] 0 [] [] [], .mk 1 [105, 102] [] 0 [oneE] [] [], .mk 2 [120] [100] 4 [] [] [], .mk 3 [100] [] (-1) [oneE] [] [],
  .mk 4 [114, 97] [] 0 [oneE] [] [], .mk 5 [114, 97] [] 0 [] [] [haltS], .mk 7 [] [] 21 [] [] [], .mk 6 [] [] 0 [bigE] [] [], .mk 1 [120] [100] 0 [oneE] [] []]
theorem badL_wrong : ∀ s ∈ badL, ∀ d, wellS s d = false := by
  intro s hs d
  cases d with
  | zero => cases s; rfl
  | succ d =>
    have h1 : rightEs [bigE] 30 = false := by decide
    have h2 : namedQ [105, 102] true = false := by decide
    simp only [badL, List.mem_cons, List.not_mem_nil, or_false] at hs
    rcases hs with rfl | rfl | rfl | rfl | rfl | rfl | rfl | rfl | rfl | rfl | rfl | rfl <;> simp [wellS, fKnown, fMost, fArgs, fElse, fName, fSrc, h1, h2]
    all_goals simp [namedQ]
def repS (s : St) : St := .mk 7 [] [] 2 [] [s] []
theorem repS_wrong {s : St} (h : ∀ d, wellS s d = false) : ∀ d, wellS (repS s) d = false
  | 0 => rfl
  | d + 1 => by simp [repS, wellS, wellSs, h d]
def repN : Nat → St → St
  | 0, s => s
  | n + 1, s => repS (repN n s)
theorem repN_wrong {s : St} (h : ∀ d, wellS s d = false) : ∀ n d, wellS (repN n s) d = false
  | 0 => h
  | n + 1 => repS_wrong (repN_wrong h n)
theorem addS_wrong {g : Prg} {k : Nat} {t : Tsk} (hk : g.tasks[k]? = some t) {s : St} (h : ∀ d, wellS s d = false) : rightP (addS g k s) = false := by
  rw [addS_of hk]
  have hm : ({ t with body := t.body ++ [s] } : Tsk) ∈ g.tasks.set k { t with body := t.body ++ [s] } := List.mem_iff_getElem?.2 ⟨k, by rw [List.getElem?_set]; simp [(List.getElem?_eq_some_iff.1 hk).1]⟩
  have hb : taskOk { t with body := t.body ++ [s] } = false := by
    have : wellSs (t.body ++ [s]) 30 = false := by
      rw [wellSs_all, List.all_append]; simp [h 30]
    simp [taskOk, this]
  cases hr : rightP { g with tasks := g.tasks.set k { t with body := t.body ++ [s] } } with
  | false => rfl
  | true =>
    simp only [rightP, Bool.and_eq_true, List.all_eq_true] at hr
    have := hr.2 _ hm
    rw [hb] at this; cases this
end Go.Eng.Sy

set_option linter.unusedSimpArgs false
set_option linter.unusedVariables false
namespace Go.Eng.Sy
open Go Go.Eng Go.Proofs

theorem bS0 : pBuild zS [] [] = some (stV 0 [] [] 0 nilS nilS nilS) := rfl
theorem bS1 (k : Int) : pBuild zS [(0, 1)] [.int .i64 k] = some (stV k [] [] 0 nilS nilS nilS) := rfl
theorem bS2 (k n : Int) : pBuild zS [(0, 1), (3, 1)] [.int .i64 k, .int .i64 n] = some (stV k [] [] n nilS nilS nilS) := rfl
theorem bS3 (k : Int) (m : List UInt8) : pBuild zS [(0, 1), (1, 1)] [.int .i64 k, str m] = some (stV k m [] 0 nilS nilS nilS) := rfl
theorem bS4 (k : Int) (m : List UInt8) {v : Value} (hv : IsS v) : pBuild zS [(0, 1), (1, 1), (4, 1)] [.int .i64 k, str m, v] = some (stV k m [] 0 v nilS nilS) := by obtain ⟨_, _, _, rfl⟩ := hv; rfl
theorem bS5 (k : Int) (m f : List UInt8) (n : Int) : pBuild zS [(0, 1), (1, 1), (2, 1), (3, 1)] [.int .i64 k, str m, str f, .int .i64 n] = some (stV k m f n nilS nilS nilS) := rfl
theorem bS6 (k : Int) (m : List UInt8) (n : Int) {v : Value} (hv : IsS v) : pBuild zS [(0, 1), (1, 1), (3, 1), (4, 1)] [.int .i64 k, str m, .int .i64 n, v] = some (stV k m [] n v nilS nilS) := by obtain ⟨_, _, _, rfl⟩ := hv; rfl
theorem bS7 (k : Int) (m : List UInt8) {v : Value} (hv : IsS v) : pBuild zS [(0, 1), (1, 1), (6, 1)] [.int .i64 k, str m, v] = some (stV k m [] 0 nilS nilS v) := by obtain ⟨_, _, _, rfl⟩ := hv; rfl
theorem bS8 (k : Int) {v : Value} (hv : IsS v) : pBuild zS [(0, 1), (4, 1)] [.int .i64 k, v] = some (stV k [] [] 0 v nilS nilS) := by obtain ⟨_, _, _, rfl⟩ := hv; rfl
theorem bS9 (k : Int) (m f : List UInt8) {v : Value} (hv : IsS v) : pBuild zS [(0, 1), (1, 1), (2, 1), (4, 1)] [.int .i64 k, str m, str f, v] = some (stV k m f 0 v nilS nilS) := by obtain ⟨_, _, _, rfl⟩ := hv; rfl
theorem bS10 (k n : Int) {v : Value} (hv : IsS v) : pBuild zS [(0, 1), (3, 1), (5, 1)] [.int .i64 k, .int .i64 n, v] = some (stV k [] [] n nilS v nilS) := by obtain ⟨_, _, _, rfl⟩ := hv; rfl
abbrev oneX : List Value := [.int .i64 1, .int .i64 0, .int .i64 1, str [], nilS]
theorem oneX_B (B : Nat → Prop) (h : Heap) : ExCB B h oneE oneX := ExCB.of ExsVB.nil
theorem bigX_B (B : Nat → Prop) (h : Heap) : ExCB B h bigE [.int .i64 1, .int .i64 0, .int .i64 4294967296, str [], nilS] := ExCB.of ExsVB.nil
theorem ExsVB.le {B : Nat → Prop} {h h' : Heap} (hl : h.le h') {v : Value} {l : List Ex} (hv : ExsVB B h v l) : ExsVB B h' v l := hv.to (hl.toB fun _ h => h)
theorem StsVB.le {B : Nat → Prop} {h h' : Heap} (hl : h.le h') {v : Value} {l : List St} (hv : StsVB B h v l) : StsVB B h' v l := hv.to (hl.toB fun _ h => h)
theorem leBut_setP {p : Nat} {a b : Heap} (h1 : a.leBut p b) (o : AObj) : a.leBut p (b.set p o) :=
  ⟨fun j hj hs => by rw [Heap.set_getE _ _ _ _ (by simpa using hj)]; exact h1.get j hj hs, h1.next⟩
theorem le_of_but {p : Nat} {a b c : Heap} (h1 : a.le b) (h2 : b.leBut p c) (hp : a.next ≤ p) : a.le c :=
  ⟨fun i o ho => by
    have := Heap.lt_of_get ho
    rw [h2.get i (by omega) (by rw [h1.get ho]; rfl)]; exact h1.get ho, Nat.le_trans h1.next h2.next⟩
set_option maxHeartbeats 2000000 in
theorem wrongLaw_c {h : Heap} {v1 : Value} {raw : List Int} (h1 : Ints h v1 raw) (i1 : ∀ z ∈ raw, inI z) {z1 z2 z3 : Int} (j1 : inI z1) (j2 : inI z2) (j3 : inI z3) (Q : Value → Heap → Prop) (hq : ∀ h', Q (.bool true) h') : CallW Tryd.prog 4 [v1, .int .i64 z1, .int .i64 z2, .int .i64 z3] h Q := by
  have o1 := SlV.one h1
  replace h1 := Hid.mk h1; replace i1 := Hid.mk i1
  refine call_of1 (k := 4) ok4 rfl rfl rfl fun N => ?_
  rw [show env0 c4 [v1, .int .i64 z1, .int .i64 z2, .int .i64 z3] = [v1, .int .i64 z1, .int .i64 z2, .int .i64 z3, undef, undef, undef, undef, undef, undef, undef, undef, undef, undef, undef] from rfl]
  delta c4 c4_r0 c4_r1 c4_r2 c4_r3 c4_r4 c4_r5 c4_r6 c4_r7 c4_r8 c4_r9 c4_r11 c4_r12 c4_r13 c4_r14 c4_r15 c4_r16
  replace hq := Hid.mk hq
  repeat' (first | simp -implicitDefEqProofs only [walkL, aR, aW, aBin, aInt, Int.reduceBEq, Int.reduceBNe, Nat.reduceBEq, Int.reduceLT, Int.reduceLE, *] | with_reducible (first | refine cndK_d ?_ ?_ | refine grdK_d ?_ ?_ | refine cndK_i ?_ ?_ | refine grdK_i ?_ ?_) <;> intro hc)
  refine awake_c h _ fun h3 l3 => ?_
  have a1 := SlV.mono l3 h1.h
  clear h1 l3
  replace a1 := Hid.mk a1
  repeat' (first | simp -implicitDefEqProofs only [walkL, aR, aW, aBin, aInt, Int.reduceBEq, Int.reduceBNe, Nat.reduceBEq, Int.reduceLT, Int.reduceLE, *] | with_reducible (first | refine cndK_d ?_ ?_ | refine grdK_d ?_ ?_ | refine cndK_i ?_ ?_ | refine grdK_i ?_ ?_) <;> intro hc)
  refine Prog_c a1.h i1.h false _ fun h4 d r t xs l4 hm => ?_
  have ok1 := progL_good raw false
  obtain ⟨p, hp⟩ : ∃ p, progL raw false = p := ⟨_, rfl⟩
  rw [hp] at hm ok1
  rw [hp]
  obtain ⟨s1, s2, s3⟩ := hm.isS
  have sz := st_PA h4 p.harts s1 s2 s3
  have gq1 := Heap.get_alloc_same h4 (.blk [.int .i64 p.harts, d, r, t] true)
  have lh5 := (Heap.le.refl h4).alloc (.blk [.int .i64 p.harts, d, r, t] true)
  obtain ⟨q1, eq1⟩ : ∃ x_, h4.next = x_ := ⟨_, rfl⟩
  obtain ⟨h5, eh5⟩ : ∃ x_, h4.alloc (.blk [.int .i64 p.harts, d, r, t] true) = x_ := ⟨_, rfl⟩
  rw [eh5] at gq1 lh5
  rw [eq1] at gq1
  rw [eh5, eq1] at sz
  obtain ⟨n, hn⟩ : ∃ n, h3.next = n := ⟨_, rfl⟩
  rw [hn] at hm
  have hm5 := hm.le lh5
  have hn5 : n ≤ h5.next := by have := l4.next; have := lh5.next; omega
  obtain ⟨m, hm0⟩ : ∃ m, h5.next = m := ⟨_, rfl⟩
  have hq1m : q1 < m := by have := Heap.lt_of_get gq1; omega
  have htq : ∀ i a b, t = .slice (some ⟨i, 0, none⟩) a b → i < q1 := fun i a b e => by
    obtain ⟨o, ho⟩ := Option.isSome_iff_exists.1 (hm.ht.blk_lt i a b e).2
    have := Heap.lt_of_get ho
    omega
  clear a1 l4 lh5 hm hp s1 s2 s3
  have hnS : IsS nilS := ⟨_, _, _, rfl⟩
  have b1 := build_num 1
  have sx := store_exv h5 1 0 1 [] hnS
  have gq2 := Heap.get_alloc_same h5 (.blk oneX true)
  have lh6 := (Heap.le.refl h5).alloc (.blk oneX true)
  obtain ⟨q2, eq2⟩ : ∃ x_, h5.next = x_ := ⟨_, rfl⟩
  obtain ⟨h6, eh6⟩ : ∃ x_, h5.alloc (.blk oneX true) = x_ := ⟨_, rfl⟩
  rw [eh6] at gq2 lh6
  rw [eq2] at gq2
  rw [eh6, eq2] at sx
  have hq2 : m ≤ q2 := by omega
  have u1 := bs_ex1 (oneX_B (fun _ => True) h5).ones
  have v3 := ExsVB.new1 (oneX_B (m ≤ ·) h6) (by have := lh6.next; show m ≤ h6.next; omega)
  have gq3 := Heap.get_alloc_same h6 (.blk oneX true)
  have lh7 := (Heap.le.refl h6).alloc (.blk oneX true)
  obtain ⟨q3, eq3⟩ : ∃ x_, h6.next = x_ := ⟨_, rfl⟩
  obtain ⟨h7, eh7⟩ : ∃ x_, h6.alloc (.blk oneX true) = x_ := ⟨_, rfl⟩
  rw [eh7] at gq3 lh7
  rw [eq3] at gq3
  rw [eh7, eq3] at v3
  have v4 := ExsVB.new1 (oneX_B (m ≤ ·) h7) (by have := lh6.next; have := lh7.next; show m ≤ h7.next; omega)
  have gq4 := Heap.get_alloc_same h7 (.blk oneX true)
  have lh8 := (Heap.le.refl h7).alloc (.blk oneX true)
  obtain ⟨q4, eq4⟩ : ∃ x_, h7.next = x_ := ⟨_, rfl⟩
  obtain ⟨h8, eh8⟩ : ∃ x_, h7.alloc (.blk oneX true) = x_ := ⟨_, rfl⟩
  rw [eh8] at gq4 lh8
  rw [eq4] at gq4
  rw [eh8, eq4] at v4
  have v5 := ExsVB.new1 (oneX_B (m ≤ ·) h8) (by have := lh6.next; have := lh7.next; have := lh8.next; show m ≤ h8.next; omega)
  have gq5 := Heap.get_alloc_same h8 (.blk oneX true)
  have lh9 := (Heap.le.refl h8).alloc (.blk oneX true)
  obtain ⟨q5, eq5⟩ : ∃ x_, h8.next = x_ := ⟨_, rfl⟩
  obtain ⟨h9, eh9⟩ : ∃ x_, h8.alloc (.blk oneX true) = x_ := ⟨_, rfl⟩
  rw [eh9] at gq5 lh9
  rw [eq5] at gq5
  rw [eh9, eq5] at v5
  have u6 := bs_st1 (haltS_B (fun _ => True) h9).ones
  have v6 := StsVB.new1 (haltS_B (m ≤ ·) h9) (by have := lh6.next; have := lh7.next; have := lh8.next; have := lh9.next; show m ≤ h9.next; omega)
  have gq6 := Heap.get_alloc_same h9 (.blk [.int .i64 8, str [], str [], .int .i64 0, nilS, nilS, nilS] true)
  have lh10 := (Heap.le.refl h9).alloc (.blk [.int .i64 8, str [], str [], .int .i64 0, nilS, nilS, nilS] true)
  obtain ⟨q6, eq6⟩ : ∃ x_, h9.next = x_ := ⟨_, rfl⟩
  obtain ⟨h10, eh10⟩ : ∃ x_, h9.alloc (.blk [.int .i64 8, str [], str [], .int .i64 0, nilS, nilS, nilS] true) = x_ := ⟨_, rfl⟩
  rw [eh10] at gq6 lh10
  rw [eq6] at gq6
  rw [eh10, eq6] at v6
  have u7 := bs_ex1 (bigX_B (fun _ => True) h10).ones
  have v7 := ExsVB.new1 (bigX_B (m ≤ ·) h10) (by have := lh6.next; have := lh7.next; have := lh8.next; have := lh9.next; have := lh10.next; show m ≤ h10.next; omega)
  have gq7 := Heap.get_alloc_same h10 (.blk [.int .i64 1, .int .i64 0, .int .i64 4294967296, str [], nilS] true)
  have lh11 := (Heap.le.refl h10).alloc (.blk [.int .i64 1, .int .i64 0, .int .i64 4294967296, str [], nilS] true)
  obtain ⟨q7, eq7⟩ : ∃ x_, h10.next = x_ := ⟨_, rfl⟩
  obtain ⟨h11, eh11⟩ : ∃ x_, h10.alloc (.blk [.int .i64 1, .int .i64 0, .int .i64 4294967296, str [], nilS] true) = x_ := ⟨_, rfl⟩
  rw [eh11] at gq7 lh11
  rw [eq7] at gq7
  rw [eh11, eq7] at v7
  have v8 := ExsVB.new1 (oneX_B (m ≤ ·) h11) (by have := lh6.next; have := lh7.next; have := lh8.next; have := lh9.next; have := lh10.next; have := lh11.next; show m ≤ h11.next; omega)
  have gq8 := Heap.get_alloc_same h11 (.blk oneX true)
  have lh12 := (Heap.le.refl h11).alloc (.blk oneX true)
  obtain ⟨q8, eq8⟩ : ∃ x_, h11.next = x_ := ⟨_, rfl⟩
  obtain ⟨h12, eh12⟩ : ∃ x_, h11.alloc (.blk oneX true) = x_ := ⟨_, rfl⟩
  rw [eh12] at gq8 lh12
  rw [eq8] at gq8
  rw [eh12, eq8] at v8
  have w3 := ExsVB.le ((((lh8.trans lh9).trans lh10).trans lh11).trans lh12) v3
  have w4 := ExsVB.le (((lh9.trans lh10).trans lh11).trans lh12) v4
  have w5 := ExsVB.le ((lh10.trans lh11).trans lh12) v5
  have w6 := StsVB.le (lh11.trans lh12) v6
  have w7 := ExsVB.le lh12 v7
  have en : ∀ {l : List Ex}, l = [] → ExsVB (m ≤ ·) h12 nilS l := fun e => by rw [e]; exact ExsVB.nil
  have sn : StsVB (m ≤ ·) h12 nilS [] := StsVB.nil
  have hall : ∃ rows : List (List Value), rows = [[.int .i64 0, str [], str [], .int .i64 0, nilS, nilS, nilS], [.int .i64 9, str [], str [], .int .i64 0, nilS, nilS, nilS], [.int .i64 8, str [], str [], .int .i64 1, nilS, nilS, nilS],
      [.int .i64 1, str [120], str [], .int .i64 0, nilS, nilS, nilS], [.int .i64 1, str [105, 102], str [], .int .i64 0, .slice (some ⟨q3, 0, none⟩) 1 5, nilS, nilS], [.int .i64 2, str [120], str [100], .int .i64 4, nilS, nilS, nilS],
      [.int .i64 3, str [100], str [], .int .i64 (-1), .slice (some ⟨q4, 0, none⟩) 1 5, nilS, nilS], [.int .i64 4, str [114, 97], str [], .int .i64 0, .slice (some ⟨q5, 0, none⟩) 1 5, nilS, nilS], [.int .i64 5, str [114, 97], str [], .int .i64 0, nilS, nilS, .slice (some ⟨q6, 0, none⟩) 1 7],
      [.int .i64 7, str [], str [], .int .i64 21, nilS, nilS, nilS], [.int .i64 6, str [], str [], .int .i64 0, .slice (some ⟨q7, 0, none⟩) 1 5, nilS, nilS], [.int .i64 1, str [120], str [100], .int .i64 0, .slice (some ⟨q8, 0, none⟩) 1 5, nilS, nilS]] := ⟨_, rfl⟩
  obtain ⟨rows, hrows⟩ := hall
  have hcs : StCsB (m ≤ ·) h12 badL rows := by
    rw [hrows]
    exact ⟨_, _, rfl, StCB.of (en rfl) sn sn, _, _, rfl, StCB.of (en rfl) sn sn, _, _, rfl, StCB.of (en rfl) sn sn, _, _, rfl, StCB.of (en rfl) sn sn, _, _, rfl, StCB.of w3 sn sn, _, _, rfl, StCB.of (en rfl) sn sn, _, _, rfl, StCB.of w4 sn sn,
      _, _, rfl, StCB.of w5 sn sn, _, _, rfl, StCB.of (en rfl) sn w6, _, _, rfl, StCB.of (en rfl) sn sn, _, _, rfl, StCB.of w7 sn sn, _, _, rfl, StCB.of v8 sn sn, rfl⟩
  have hrl : rows.length = 12 := by rw [hrows]; rfl
  have hr7 : ∀ x ∈ rows, x.length = 7 ∧ x.all (·.oneCell') = true := by
    rw [hrows]
    intro x hx
    simp only [List.mem_cons, List.not_mem_nil, or_false] at hx
    rcases hx with rfl | rfl | rfl | rfl | rfl | rfl | rfl | rfl | rfl | rfl | rfl | rfl <;> exact ⟨rfl, rfl⟩
  have hsl := SlV.new h12 (s := 7) (xs := rows) (fun x hx => (hr7 x hx).1) (cells := rows.flatten) rfl (n := 12) (by rw [hrows]; rfl)
  have gq9 := Heap.get_alloc_same h12 (.blk rows.flatten true)
  have lh13 := (Heap.le.refl h12).alloc (.blk rows.flatten true)
  obtain ⟨q9, eq9⟩ : ∃ x_, h12.next = x_ := ⟨_, rfl⟩
  obtain ⟨h13, eh13⟩ : ∃ x_, h12.alloc (.blk rows.flatten true) = x_ := ⟨_, rfl⟩
  rw [eh13] at gq9 lh13
  rw [eq9] at gq9
  rw [eh13, eq9] at hsl
  have l513 := ((((((lh6.trans lh7).trans lh8).trans lh9).trans lh10).trans lh11).trans lh12).trans lh13
  have g113 := l513.get gq1
  have g27 := lh7.get gq2
  have g28 := lh8.get g27
  have g29 := lh9.get g28
  have g210 := lh10.get g29
  have g211 := lh11.get g210
  have q3s : IsS (.slice (some ⟨q3, 0, none⟩) 1 5) := ⟨_, _, _, rfl⟩
  have q4s : IsS (.slice (some ⟨q4, 0, none⟩) 1 5) := ⟨_, _, _, rfl⟩
  have q5s : IsS (.slice (some ⟨q5, 0, none⟩) 1 5) := ⟨_, _, _, rfl⟩
  have q6s : IsS (.slice (some ⟨q6, 0, none⟩) 1 7) := ⟨_, _, _, rfl⟩
  have q7s : IsS (.slice (some ⟨q7, 0, none⟩) 1 5) := ⟨_, _, _, rfl⟩
  have q8s : IsS (.slice (some ⟨q8, 0, none⟩) 1 5) := ⟨_, _, _, rfl⟩
  have c1 := bS0
  have c2 := bS1 9
  have c3 := bS2 8 1
  have c4 := bS3 1 [120]
  have c5 := bS4 1 [105, 102] q3s
  have c6 := bS5 2 [120] [100] 4
  have c7 := bS6 3 [100] (-1) q4s
  have c8 := bS4 4 [114, 97] q5s
  have c9 := bS1 8
  have c10 := bS7 5 [114, 97] q6s
  have c11 := bS2 7 21
  have c12 := build_num 4294967296
  have c13 := bS8 6 q7s
  have c14 := bS9 1 [120] [100] q8s
  have hcs13 : StCsB (m ≤ ·) h13 badL rows := hcs.to (lh13.toB fun _ h => h)
  clear v3 v4 v5 v6 v7 v8 w3 w4 w5 w6 w7 en sn hcs lh6 lh7 lh8 lh9 lh10 lh11 lh12 lh13 gq3 gq4 gq5 gq6 gq7 gq8 gq9 hnS q3s q4s q5s q6s q7s q8s
  replace hq1m := Hid.mk hq1m; replace htq := Hid.mk htq; replace hrl := Hid.mk hrl; replace hm5 := Hid.mk hm5; replace hn5 := Hid.mk hn5; replace ok1 := Hid.mk ok1; replace hsl := Hid.mk hsl; replace hcs13 := Hid.mk hcs13; replace hr7 := Hid.mk hr7; replace hrows := Hid.mk hrows; replace l513 := Hid.mk l513; replace hq2 := Hid.mk hq2; replace j1 := Hid.mk j1; replace j2 := Hid.mk j2; replace j3 := Hid.mk j3; replace hn := Hid.mk hn; replace hm0 := Hid.mk hm0
  repeat' (first | simp -implicitDefEqProofs only [walkL, aR, aW, aBin, aInt, Int.reduceBEq, Int.reduceBNe, Nat.reduceBEq, Int.reduceLT, Int.reduceLE, partL5, *] | with_reducible (first | refine cndK_d ?_ ?_ | refine grdK_d ?_ ?_ | refine cndK_i ?_ ?_ | refine grdK_i ?_ ?_) <;> intro hc)
  rw [bslice_rows (xs := rows) ?e1 ?e2 ?e3 hr7.h]
  case e1 => rw [hrl.h]; decide
  case e2 => rw [hrows.h]; rfl
  case e3 => rw [hrl.h]; rfl
  clear hrows c1 c2 c3 c4 c5 c6 c7 c8 c9 c10 c11 c12 c13 c14 u1 u6 u7 eh6 eh7 eh8 eh9 eh10 eh11 eh12 sx b1 g27 g28 g29 g210 g211 gq1
  have ln : pLenS [.slice (some ⟨q9, 0, none⟩) 12 7] = some (.int .i64 12) := rfl
  repeat' (first | simp -implicitDefEqProofs only [walkL, aR, aW, aBin, aInt, Int.reduceBEq, Int.reduceBNe, Nat.reduceBEq, Int.reduceLT, Int.reduceLE, *] | with_reducible (first | refine cndK_d ?_ ?_ | refine grdK_d ?_ ?_ | refine cndK_i ?_ ?_ | refine grdK_i ?_ ?_) <;> intro hc)
  refine pick6_c _ _ (by decide) _ _ ?_
  have r1 := pick_range j2.h (n := 12) (by omega)
  obtain ⟨k, hk⟩ : ∃ k : Nat, pick z2 12 = (k : Int) := ⟨(pick z2 12).toNat, by omega⟩
  rw [hk]
  have hk12 : k < badL.length := by show k < 12; omega
  obtain ⟨s0, hs0⟩ : ∃ s, badL[k]? = some s := ⟨_, List.getElem?_eq_getElem hk12⟩
  obtain ⟨x0, hx0, hsx⟩ := hcs13.h.get hs0
  obtain ⟨id, off, cells, own, e1, e2, e3, _⟩ := SlV.elem hsl.h hx0
  obtain ⟨va, vu, vw, rfl, y1, y2, y3⟩ := hsx.cells
  have e3' : partL true off 7 cells = some (stV s0.kind s0.name s0.src s0.n va vu vw) := e3
  have sz7 := store_stz h13 s0.kind s0.n s0.name s0.src y1.one y2.one y3.one
  have gq10 := Heap.get_alloc_same h13 (.blk [.int .i64 s0.kind, str s0.name, str s0.src, .int .i64 s0.n, va, vu, vw] true)
  have lh14 := (Heap.le.refl h13).alloc (.blk [.int .i64 s0.kind, str s0.name, str s0.src, .int .i64 s0.n, va, vu, vw] true)
  obtain ⟨q10, eq10⟩ : ∃ x_, h13.next = x_ := ⟨_, rfl⟩
  obtain ⟨h14, eh14⟩ : ∃ x_, h13.alloc (.blk [.int .i64 s0.kind, str s0.name, str s0.src, .int .i64 s0.n, va, vu, vw] true) = x_ := ⟨_, rfl⟩
  rw [eh14] at gq10 lh14
  rw [eq10] at gq10
  rw [eh14, eq10] at sz7
  have hw0 := badL_wrong s0 (List.mem_of_getElem? hs0)
  have hq10 : m ≤ q10 := by have := l513.h.next; have := hm0.h; omega
  have hsx14 : StCB (fun i => m ≤ i ∧ i ≠ q10) h14 s0 [.int .i64 s0.kind, str s0.name, str s0.src, .int .i64 s0.n, va, vu, vw] := hsx.to fun i cs own hb hg => ⟨⟨hb, by have := Heap.lt_of_get hg; omega⟩, lh14.get hg⟩
  have g114 := lh14.get g113
  have l514 := l513.h.trans lh14
  have r3 := pick_range j3.h (n := 20) (by omega)
  obtain ⟨i0, hi0⟩ : ∃ k : Nat, pick z3 20 = (k : Int) := ⟨(pick z3 20).toNat, by omega⟩
  have hi20 : i0 < 20 := by omega
  have hgt := Heap.lt_of_get gq10
  clear e3 y1 y2 y3 hsx lh14 r3 r1
  replace hsx14 := Hid.mk hsx14; replace hw0 := Hid.mk hw0; replace hq10 := Hid.mk hq10; replace l514 := Hid.mk l514; replace hi20 := Hid.mk hi20; replace hgt := Hid.mk hgt; replace hs0 := Hid.mk hs0; replace hx0 := Hid.mk hx0
  repeat' (first | simp -implicitDefEqProofs only [walkL, aR, aW, aBin, aInt, Int.reduceBEq, Int.reduceBNe, Nat.reduceBEq, Int.reduceLT, Int.reduceLE, *] | with_reducible (first | refine cndK_d ?_ ?_ | refine grdK_d ?_ ?_ | refine cndK_i ?_ ?_ | refine grdK_i ?_ ?_) <;> intro hc)
  refine pick6_c _ _ (by decide) _ _ ?_
  rw [hi0]
  clear e1 e2 e3' g113 sz7 eh14
  repeat' (first | simp -implicitDefEqProofs only [walkL, aR, aW, aBin, aInt, Int.reduceBEq, Int.reduceBNe, Nat.reduceBEq, Int.reduceLT, Int.reduceLE, *] | with_reducible (first | refine cndK_d ?_ ?_ | refine grdK_d ?_ ?_ | refine cndK_i ?_ ?_ | refine grdK_i ?_ ?_) <;> intro hc)
  refine LoopW.down (fun j e hh => ∃ s' x', e = [v1, .int .i64 z1, .int .i64 z2, .int .i64 z3, .bool false, .bool true, .pointer (some ⟨q1, 0, none⟩), .pointer (some ⟨q2, 0, none⟩), .slice (some ⟨q9, 0, none⟩) 12 7, .pointer (some ⟨q10, 0, none⟩), .int .i64 (j : Int), undef, undef, undef, undef] ∧ (∀ d, wellS s' d = false) ∧ StCB (fun i => m ≤ i ∧ i ≠ q10) hh s' x' ∧ hh.get q10 = some (.blk x' true) ∧ h14.leBut q10 hh ∧ j ≤ 20) ?_ (m := i0) ⟨s0, _, rfl, hw0.h, hsx14.h, gq10, .refl _ _, by have := hi20.h; omega⟩
  rintro j _ hh R ⟨s', x', rfl, hw', hsx', gx, lx, hj20⟩ hR
  delta c4_l10 c4_r0 c4_r1 c4_r2 c4_r3 c4_r4 c4_r5 c4_r6 c4_r7 c4_r8 c4_r9 c4_r11 c4_r12 c4_r13 c4_r14 c4_r15 c4_r16
  cases j with
  | succ j =>
    have z : (0 : Int) < ((j + 1 : Nat) : Int) := by omega
    have hwj : IntKind.i64.wrap (((j + 1 : Nat) : Int) - 1) = (j : Int) := by rw [wrapI (by omega) (by omega)]; omega
    obtain ⟨wa, wu, ww, rfl, z1', z2', z3'⟩ := hsx'.cells
    have ub := bs_st1 hsx'.ones
    have hnh : h14.next ≤ hh.next := lx.next
    have nv := StsVB.new1 (B := fun i => m ≤ i ∧ i ≠ q10) hsx' (by have := hgt.h; have := hq10.h; constructor <;> omega)
    have rp := repS_wrong hw'
    have la := (Heap.le.refl hh).alloc (.blk [.int .i64 s'.kind, str s'.name, str s'.src, .int .i64 s'.n, wa, wu, ww] true)
    have gq11 := Heap.get_alloc_same hh (.blk [.int .i64 s'.kind, str s'.name, str s'.src, .int .i64 s'.n, wa, wu, ww] true)
    have lhi := (Heap.le.refl hh).alloc (.blk [.int .i64 s'.kind, str s'.name, str s'.src, .int .i64 s'.n, wa, wu, ww] true)
    obtain ⟨q11, eq11⟩ : ∃ x_, hh.next = x_ := ⟨_, rfl⟩
    obtain ⟨hi, ehi⟩ : ∃ x_, hh.alloc (.blk [.int .i64 s'.kind, str s'.name, str s'.src, .int .i64 s'.n, wa, wu, ww] true) = x_ := ⟨_, rfl⟩
    rw [ehi] at gq11 lhi
    rw [eq11] at gq11
    rw [ehi, eq11] at nv
    have bb := bS10 7 2 nv.isS
    have gxi := lhi.get gx
    have sti : wStore 7 hi [.pointer (some ⟨q10, 0, none⟩), stV 7 [] [] 2 nilS (.slice (some ⟨q11, 0, none⟩) 1 7) nilS] = some (undef, hi.set q10 (.blk [.int .i64 7, str [], str [], .int .i64 2, nilS, .slice (some ⟨q11, 0, none⟩) 1 7, nilS] true)) := wStore_all gxi rfl rfl rfl rfl
    have gxj : (hi.set q10 (.blk [.int .i64 7, str [], str [], .int .i64 2, nilS, .slice (some ⟨q11, 0, none⟩) 1 7, nilS] true)).get q10 = _ := Heap.set_getS _ _ _ (by rw [gxi]; rfl)
    have nx : StCB (fun i => m ≤ i ∧ i ≠ q10) (hi.set q10 (.blk [.int .i64 7, str [], str [], .int .i64 2, nilS, .slice (some ⟨q11, 0, none⟩) 1 7, nilS] true)) (repS s') [.int .i64 7, str [], str [], .int .i64 2, nilS, .slice (some ⟨q11, 0, none⟩) 1 7, nilS] :=
      StCB.of ExsVB.nil (nv.to (Heap.toB_set _ fun i hb => ⟨hb.2, hb⟩)) StsVB.nil
    have lj : h14.leBut q10 (hi.set q10 (.blk [.int .i64 7, str [], str [], .int .i64 2, nilS, .slice (some ⟨q11, 0, none⟩) 1 7, nilS] true)) := leBut_setP (lx.trans (lhi.but q10)) _
    obtain ⟨hj', ehj⟩ : ∃ x_, hi.set q10 (.blk [.int .i64 7, str [], str [], .int .i64 2, nilS, .slice (some ⟨q11, 0, none⟩) 1 7, nilS] true) = x_ := ⟨_, rfl⟩
    rw [ehj] at sti gxj nx lj
    have g := hR.h j _ hj' (by omega) ⟨repS s', _, rfl, rp, nx, gxj, lj, by omega⟩
    replace g := Hid.mk g
    clear hR nx lj nv lx hsx' z1' z2' z3' rp hw' la lhi
    repeat' (first | simp -implicitDefEqProofs only [walkL, aR, aW, aBin, aInt, Int.reduceBEq, Int.reduceBNe, Nat.reduceBEq, Int.reduceLT, Int.reduceLE, partL7, *] | with_reducible (first | refine cndK_d ?_ ?_ | refine grdK_d ?_ ?_ | refine cndK_i ?_ ?_ | refine grdK_i ?_ ?_) <;> intro hc)
    exact g.h
  | zero =>
    have z : ¬ (0 : Int) < ((0 : Nat) : Int) := by decide
    have l5L : h5.le hh := le_of_but l514.h lx (by have := hq10.h; have := hm0.h; omega)
    have hmL := hm5.h.le l5L
    have hne : q1 ≠ q10 := by have := hq1m.h; have := hq10.h; omega
    have g1L := lx.keep hne g114
    have lt : pLenS [t] = some (.int .i64 p.tasks.length) := by
      have := SlV.len hmL.ht.sl
      rw [hmL.hts.length] at this; exact this
    have b3 := ok1.h.tl
    have r5 := pick_range j1.h (n := (p.tasks.length : Int)) (by omega)
    obtain ⟨k2, hk2⟩ : ∃ k : Nat, pick z1 (p.tasks.length : Int) = (k : Int) := ⟨(pick z1 (p.tasks.length : Int)).toNat, by omega⟩
    have hk2l : k2 < p.tasks.length := by omega
    obtain ⟨tk, hkt⟩ : ∃ tk, p.tasks[k2]? = some tk := ⟨_, List.getElem?_eq_getElem hk2l⟩
    have hnz : (p.tasks.length : Int) ≠ 0 := by omega
    clear hR lx r5
    replace hw' := Hid.mk hw'; replace hsx' := Hid.mk hsx'; replace hmL := Hid.mk hmL; replace l5L := Hid.mk l5L; replace hk2 := Hid.mk hk2; replace hk2l := Hid.mk hk2l; replace hkt := Hid.mk hkt; replace b3 := Hid.mk b3; replace hnz := Hid.mk hnz
    repeat' (first | simp -implicitDefEqProofs only [walkL, aR, aW, aBin, aInt, Int.reduceBEq, Int.reduceBNe, Nat.reduceBEq, Int.reduceLT, Int.reduceLE, *] | with_reducible (first | refine cndK_d ?_ ?_ | refine grdK_d ?_ ?_ | refine cndK_i ?_ ?_ | refine grdK_i ?_ ?_) <;> intro hc)
    refine pick6_c _ _ hnz.h _ _ ?_
    rw [hk2.h]
    obtain ⟨id, v, hid, hidn, gid, e1, e2, hv⟩ := hmL.h.at hkt.h
    have sz6 := st_T hh tk.name tk.handler tk.hart tk.prio tk.line hv.isS
    have gq12 := Heap.get_alloc_same hh (.blk [str tk.name, .bool tk.handler, .int .i64 tk.hart, .int .i64 tk.prio, .int .i64 tk.line, v] true)
    have lhA := (Heap.le.refl hh).alloc (.blk [str tk.name, .bool tk.handler, .int .i64 tk.hart, .int .i64 tk.prio, .int .i64 tk.line, v] true)
    obtain ⟨q12, eq12⟩ : ∃ x_, hh.next = x_ := ⟨_, rfl⟩
    obtain ⟨hA, ehA⟩ : ∃ x_, hh.alloc (.blk [str tk.name, .bool tk.handler, .int .i64 tk.hart, .int .i64 tk.prio, .int .i64 tk.line, v] true) = x_ := ⟨_, rfl⟩
    rw [ehA] at gq12 lhA
    rw [eq12] at gq12
    rw [ehA, eq12] at sz6
    have hq12 : m ≤ q12 := by have := l5L.h.next; have := hm0.h; omega
    have hid12 : id < q12 := by have := Heap.lt_of_get gid; omega
    have hv10 : StsVB (fun i => PB n [t] i ∧ i ≠ q12) hA v tk.body := hv.to fun i cs own hb hg => ⟨⟨hb, by have := Heap.lt_of_get hg; omega⟩, lhA.get hg⟩
    have hsA : StCB (fun i => PB n [t] i ∧ i ≠ q12) hA s' x' := hsx'.h.to fun i cs own hb hg => ⟨⟨⟨by have := hb.1; have := hn5.h; have := hm0.h; omega, fun w hw => by
      rw [List.mem_singleton.1 hw]; exact hm5.h.ht.notOf_new (by have := hb.1; have := hm0.h; omega)⟩, by have := Heap.lt_of_get hg; omega⟩, lhA.get hg⟩
    have hq12n := Heap.lt_of_get gq12
    have hbl : tk.body.length ≤ 1000 := by have := (ok1.h.tasks tk (List.mem_of_getElem? hkt.h)).len; omega
    obtain ⟨va', ha, ap1, la, hmore⟩ := more_row hv10 hbl fun i hi => ⟨⟨by have := hn5.h; have := hm0.h; omega, fun w hw => by rw [List.mem_singleton.1 hw]; exact hmL.h.ht.notOf_new (by have := lhA.next; omega)⟩, by omega⟩
    obtain ⟨vb, hb, ap2, lb, hvb⟩ := hmore hsA
    obtain ⟨wa, wu, ww, rfl, t1, t2, t3⟩ := hsA.cells
    have bs := bs_st1 hsA.ones
    have gxA := lhA.get gx
    have gxa := la.get gxA
    have gq12b := lb.get gq12
    have gq12a := la.get gq12
    have ob := (StsVB.isS hvb)
    obtain ⟨ca1, ca2⟩ := IsS.cell ob
    have st5 := wStore_one (off := 5) gq12b (by simp) ca1 ca2
    obtain ⟨hc, ehc⟩ : ∃ x_, hb.set q12 (.blk ([str tk.name, .bool tk.handler, .int .i64 tk.hart, .int .i64 tk.prio, .int .i64 tk.line, v].set 5 vb) true) = x_ := ⟨_, rfl⟩
    rw [ehc] at st5
    have lhc : hh.le hc := by rw [← ehc]; exact (lhA.trans lb).set (by omega) _
    have gq12c : hc.get q12 = some (.blk [str tk.name, .bool tk.handler, .int .i64 tk.hart, .int .i64 tk.prio, .int .i64 tk.line, vb] true) := by rw [← ehc]; exact Heap.set_getS _ _ _ (by rw [gq12b]; rfl)
    have hvc : StsVB (PB n [t]) hc vb (tk.body ++ [s']) := hvb.to (by rw [← ehc]; exact Heap.toB_set _ fun i hb => ⟨hb.2, hb.1⟩)
    obtain ⟨cc, stc, hmd⟩ := (hmL.h.le lhc).put hid hkt.h { tk with body := tk.body ++ [s'] } hvc
    rw [← addS_of hkt.h] at hmd
    have stc' : wStore 6 hc [.pointer (some ⟨id, k2 * 6, none⟩), tsV tk.name tk.handler tk.hart tk.prio tk.line vb] = some (undef, hc.set id cc) := stc
    obtain ⟨hd, ehd⟩ : ∃ x_, hc.set id cc = x_ := ⟨_, rfl⟩
    rw [ehd] at stc' hmd
    have xmd := hmd.prc
    have g1A := lhA.get g1L
    have g1a := la.get g1A
    have g1b := lb.get g1A
    have g1c := lhc.get g1L
    have hid1 : id ≠ q1 := by have := htq.h id _ _ hid; omega
    have g1d : hd.get q1 = some (.blk [.int .i64 p.harts, d, r, t] true) := by rw [← ehd]; exact (Heap.set_getE _ _ _ _ (by simp; omega)).trans g1c
    have wr := addS_wrong hkt.h hw'.h
    have ph : (addS p k2 s').harts = p.harts := by rw [addS_of hkt.h]
    rw [ph] at xmd
    clear hmd stc hvc hmore hvb hv10 hsA hv hmL lhc lb t1 t2 t3
    replace xmd := Hid.mk xmd; replace wr := Hid.mk wr; replace hid := Hid.mk hid; replace la := Hid.mk la
    repeat' (first | simp -implicitDefEqProofs only [walkL, aR, aW, aBin, aInt, Int.reduceBEq, Int.reduceBNe, Nat.reduceBEq, Int.reduceLT, Int.reduceLE, *] | with_reducible (first | refine cndK_d ?_ ?_ | refine grdK_d ?_ ?_ | refine cndK_i ?_ ?_ | refine grdK_i ?_ ?_) <;> intro hc)
    refine turn0 la.h.ext ?_
    repeat' (first | simp -implicitDefEqProofs only [walkL, aR, aW, aBin, aInt, Int.reduceBEq, Int.reduceBNe, Nat.reduceBEq, Int.reduceLT, Int.reduceLE, partL7, partL6, partL4, *] | with_reducible (first | refine cndK_d ?_ ?_ | refine grdK_d ?_ ?_ | refine cndK_i ?_ ?_ | refine grdK_i ?_ ?_) <;> intro hc)
    refine Print_c (p := addS p k2 s') xmd.h (fun e => by rw [wr.h] at e; cases e) _ fun he le => ?_
    simp only [wr.h, Bool.false_eq_true, if_false]
    have g1e := le.get g1d
    have xme := xmd.h.mono le
    clear le xmd g1d
    replace xme := Hid.mk xme
    repeat' (first | simp -implicitDefEqProofs only [walkL, aR, aW, aBin, aInt, Int.reduceBEq, Int.reduceBNe, Nat.reduceBEq, Int.reduceLT, Int.reduceLE, partL4, *] | with_reducible (first | refine cndK_d ?_ ?_ | refine grdK_d ?_ ?_ | refine cndK_i ?_ ?_ | refine grdK_i ?_ ?_) <;> intro hc)
    refine Right_c xme.h _ fun hf lf => ?_
    rw [wr.h]
    have ee := eqs_S []
    have g := hq.h hf
    replace g := Hid.mk g
    clear hq lf
    repeat' (first | simp -implicitDefEqProofs only [walkL, aR, aW, aBin, aInt, Int.reduceBEq, Int.reduceBNe, Nat.reduceBEq, Int.reduceLT, Int.reduceLE, *] | with_reducible (first | refine cndK_d ?_ ?_ | refine grdK_d ?_ ?_ | refine cndK_i ?_ ?_ | refine grdK_i ?_ ?_) <;> intro hc)
    exact g.h
end Go.Eng.Sy

