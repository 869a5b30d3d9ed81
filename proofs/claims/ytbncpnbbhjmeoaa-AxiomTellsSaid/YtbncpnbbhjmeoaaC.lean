/-
  Part of a proof of the laws of layer 12 (axiom): the code of the functions.
  Conditions: none.
-/
import Derived.Test.YtbncpnbbhjmeoaaEc
import Derived.Test.YtbncpnbbhjmeoaaProg
import Derived.KernelRfl
namespace Go.Eng.Ax
open Go Go.Eng Go.Proofs

/-- headstock/headstocklaw12.AxiomTells · variables 0:l, 1:order, 2:raw, 3:picks, 4:i, 5:k, 6:x, 13:x, 14:, 15:ok, 16:good, 17:bad, 19:y, 21:o, 23:p, 24:n, 25:is, 26:m, 27:was, 49:, 50:, 51:, 52:, 59:, 60:, 61:, 62:, 73:, 74:, 75:, 76: -/
noncomputable def c3_r0 : List SOp := [⟨0, .a .box, [.v 6], none, false⟩,
      ⟨1, .p (.mov), [.c (.bool false)], none, false⟩]
noncomputable def c3_r1 : List SOp := [⟨0, .call 11, [], none, false⟩,
      ⟨1, .p (.mov), [.t 0], none, false⟩]
noncomputable def c3_r2 : List SOp := [⟨0, .p (.mov), [.v 0], none, false⟩,
      ⟨1, .p (.lenS), [.t 0], none, false⟩,
      ⟨2, .p (.bin .gtr), [.t 0, .c (.int .i64 9)], none, false⟩]
noncomputable def c3_r3 : List SOp := [⟨0, .p (.mov), [.v 0], none, false⟩,
      ⟨1, .p (.sliceS 4 false true), [.t 0, .c (.int .i64 9)], none, false⟩,
      ⟨2, .p (.mov), [.t 0], none, false⟩]
noncomputable def c3_r4 : List SOp := [⟨0, .p (.mov), [.v 1], none, false⟩,
      ⟨1, .p (.lenS), [.t 0], none, false⟩,
      ⟨2, .p (.bin .gtr), [.t 0, .c (.int .i64 9)], none, false⟩]
noncomputable def c3_r5 : List SOp := [⟨0, .p (.mov), [.v 1], none, false⟩,
      ⟨1, .p (.sliceS 1 false true), [.t 0, .c (.int .i64 9)], none, false⟩,
      ⟨2, .p (.mov), [.t 0], none, false⟩]
noncomputable def c3_r6 : List SOp := [⟨0, .p (.mov), [.v 2], none, false⟩,
      ⟨1, .call 12, [.t 0], none, false⟩,
      ⟨2, .p (.mov), [.t 0], none, false⟩]
noncomputable def c3_r7 : List SOp := [⟨0, .p (.mov), [.v 10], none, false⟩,
      ⟨1, .w (.append 4 32), [.c (.slice none 0 0), .t 0], none, true⟩,
      ⟨2, .r (.load true 4), [.v 7], none, false⟩,
      ⟨3, .a (.bslice [.int .i64 0, .int .i64 0, .int .i64 0, .int .i64 0] [(0, 4)] 1 4), [.t 0], none, false⟩,
      ⟨4, .w (.append 4 32), [.t 2, .t 0], none, false⟩,
      ⟨5, .p (.mov), [.t 0], none, false⟩]
noncomputable def c3_r8 : List SOp := [⟨0, .p (.mov), [.v 0], none, false⟩,
      ⟨1, .p (.mov), [.v 10], none, false⟩,
      ⟨2, .p (.mov), [.v 11], none, false⟩,
      ⟨3, .a (.bslice [.slice none 0 0, .slice none 0 0, .slice none 0 0] [(0, 1), (1, 1), (2, 1)] 3 1), [.t 2, .t 1, .t 0], none, false⟩,
      ⟨4, .p (.lenS), [.t 0], none, false⟩,
      ⟨5, .p (.mov), [.c (.int .i64 0)], none, false⟩]
noncomputable def c3_r9 : List SOp := [⟨0, .p (.bin .lss), [.v 21, .v 20], none, false⟩]
noncomputable def c3_r10 : List SOp := [⟨0, .p (.idxAddrS 1), [.v 19, .v 21], none, false⟩,
      ⟨1, .r (.load false 1), [.t 0], none, false⟩,
      ⟨2, .p (.mov), [.t 0], none, false⟩]
noncomputable def c3_r11 : List SOp := [⟨0, .p (.mov), [.v 1], none, false⟩,
      ⟨1, .p (.mov), [.v 12], none, false⟩,
      ⟨2, .p (.mov), [.v 3], none, false⟩,
      ⟨3, .call 13, [.t 1, .t 0], none, false⟩,
      ⟨4, .a (.bslice [.slice none 0 0, .slice none 0 0] [(0, 1), (1, 1)] 2 1), [.t 3, .t 0], none, false⟩,
      ⟨5, .p (.lenS), [.t 0], none, false⟩,
      ⟨6, .p (.mov), [.c (.int .i64 0)], none, false⟩]
noncomputable def c3_r12 : List SOp := [⟨0, .p (.bin .lss), [.v 25, .v 24], none, false⟩]
noncomputable def c3_r13 : List SOp := [⟨0, .p (.idxAddrS 1), [.v 23, .v 25], none, false⟩,
      ⟨1, .r (.load false 1), [.t 0], none, false⟩,
      ⟨2, .p (.mov), [.t 0], none, false⟩]
noncomputable def c3_r14 : List SOp := [⟨0, .p (.mov), [.v 4], none, false⟩,
      ⟨1, .p (.mov), [.v 5], none, false⟩,
      ⟨2, .p (.build [.int .i64 0, .int .i64 0] [(0, 1), (1, 1)]), [.t 1, .t 0], none, false⟩,
      ⟨3, .p (.mov), [.v 4], none, false⟩,
      ⟨4, .call 14, [.t 0, .c (.int .i64 7)], none, false⟩,
      ⟨5, .p (.mov), [.v 5], none, false⟩,
      ⟨6, .call 14, [.t 0, .c (.int .i64 7)], none, false⟩,
      ⟨7, .p (.build [.int .i64 0, .int .i64 0] [(0, 1), (1, 1)]), [.t 2, .t 0], none, false⟩,
      ⟨8, .a (.bslice [.int .i64 0, .int .i64 0, .int .i64 0, .int .i64 0] [(0, 2), (2, 2)] 2 2), [.t 5, .t 0], none, false⟩,
      ⟨9, .p (.lenS), [.t 0], none, false⟩,
      ⟨10, .p (.mov), [.c (.int .i64 0)], none, false⟩]
noncomputable def c3_r15 : List SOp := [⟨0, .p (.bin .lss), [.v 29, .v 28], none, false⟩]
noncomputable def c3_r16 : List SOp := [⟨0, .p (.idxAddrS 2), [.v 27, .v 29], none, false⟩,
      ⟨1, .r (.load true 2), [.t 0], none, false⟩,
      ⟨2, .a (.new [.int .i64 0, .int .i64 0]), [], none, false⟩,
      ⟨3, .w (.store 2), [.t 0, .t 1], none, false⟩]
noncomputable def c3_r17 : List SOp := [⟨0, .p (.mov), [.v 12], none, false⟩,
      ⟨1, .p (.mov), [.v 13], none, false⟩,
      ⟨2, .p (.idxAddrA 2 1), [.v 14, .c (.int .i64 0)], none, false⟩,
      ⟨3, .r (.load false 1), [.t 0], none, false⟩,
      ⟨4, .call 15, [.t 3, .t 2, .t 0], none, false⟩,
      ⟨5, .p (.mov), [.t 0], none, false⟩,
      ⟨6, .p (.extract 0), [.t 0], none, false⟩,
      ⟨7, .p (.extract 1), [.t 1], none, false⟩,
      ⟨8, .p (.mov), [.t 1], none, false⟩,
      ⟨9, .p (.mov), [.t 1], none, false⟩]
noncomputable def c3_r18 : List SOp := [⟨0, .p (.mov), [.v 12], none, false⟩,
      ⟨1, .p (.mov), [.v 13], none, false⟩,
      ⟨2, .p (.idxAddrA 2 1), [.v 14, .c (.int .i64 0)], none, false⟩,
      ⟨3, .r (.load false 1), [.t 0], none, false⟩,
      ⟨4, .call 16, [.t 3, .t 2, .t 0], none, false⟩,
      ⟨5, .p (.mov), [.t 0], none, false⟩,
      ⟨6, .p (.extract 0), [.t 0], none, false⟩,
      ⟨7, .p (.extract 1), [.t 1], none, false⟩,
      ⟨8, .p (.mov), [.t 1], none, false⟩,
      ⟨9, .p (.mov), [.t 1], none, false⟩]
noncomputable def c3_r19 : List SOp := [⟨0, .p (.mov), [.v 15], none, false⟩,
      ⟨1, .p (.mov), [.v 17], none, false⟩,
      ⟨2, .p (.bin .neq), [.t 1, .t 0], none, false⟩,
      ⟨3, .p (.mov), [.t 0], none, false⟩,
      ⟨4, .p (.mov), [.v 16], some (0, false), false⟩,
      ⟨5, .p (.mov), [.v 18], some (1, false), false⟩,
      ⟨6, .p (.eqB true), [.t 1, .t 0], some (2, false), false⟩,
      ⟨7, .p (.pick), [.t 3, .c (.bool true), .t 0], none, false⟩,
      ⟨8, .p (.mov), [.t 0], none, false⟩,
      ⟨9, .p (.mov), [.v 12], some (0, false), false⟩,
      ⟨10, .p (.idxAddrA 2 1), [.v 14, .c (.int .i64 0)], some (1, false), false⟩,
      ⟨11, .r (.load false 1), [.t 0], some (2, false), false⟩,
      ⟨12, .p (.idxAddrA 2 1), [.v 14, .c (.int .i64 1)], some (3, false), false⟩,
      ⟨13, .r (.load false 1), [.t 0], some (4, false), false⟩,
      ⟨14, .call 17, [.t 4, .t 2, .t 0], some (5, false), true⟩,
      ⟨15, .p (.mov), [.v 12], some (6, false), false⟩,
      ⟨16, .p (.idxAddrA 2 1), [.v 14, .c (.int .i64 0)], some (7, false), false⟩,
      ⟨17, .r (.load false 1), [.t 0], some (8, false), false⟩,
      ⟨18, .p (.idxAddrA 2 1), [.v 14, .c (.int .i64 1)], some (9, false), false⟩,
      ⟨19, .r (.load false 1), [.t 0], some (10, false), false⟩,
      ⟨20, .call 18, [.t 4, .t 2, .t 0], some (11, false), false⟩,
      ⟨21, .p (.eqB true), [.t 6, .t 0], some (12, false), false⟩,
      ⟨22, .p (.pick), [.t 13, .c (.bool true), .t 0], none, false⟩]
noncomputable def c3_r20 : List SOp := [⟨0, .p (.mov), [.c (.bool false)], none, false⟩]
noncomputable def c3_r21 : List SOp := [⟨0, .p (.bin .add), [.v 29, .c (.int .i64 1)], none, false⟩,
      ⟨1, .p (.mov), [.t 0], none, false⟩]
noncomputable def c3_l22 : CCode := (.seq (.reg c3_r15 [(30, 0)]) (.seq (.cond (.v 30) .skip (.exit 4)) (.seq (.block 5 (.seq (.reg c3_r16 [(14, 1)]) (.seq (.reg c3_r17 [(15, 1), (16, 0)]) (.seq (.reg c3_r18 [(17, 1), (18, 0)]) (.rcond c3_r19 [] 0
    (.seq (.reg c3_r20 [(8, 0)]) .ret)
    .skip))))) (.reg c3_r21 [(29, 0)]))))
noncomputable def c3_r23 : List SOp := [⟨0, .p (.mov), [.v 12], none, false⟩,
      ⟨1, .p (.mov), [.v 13], none, false⟩,
      ⟨2, .call 19, [.t 1, .t 0], none, false⟩,
      ⟨3, .p (.mov), [.v 12], none, false⟩,
      ⟨4, .p (.mov), [.v 13], none, false⟩,
      ⟨5, .call 20, [.t 1, .t 0], none, false⟩,
      ⟨6, .p (.eqB true), [.t 3, .t 0], none, false⟩]
noncomputable def c3_r24 : List SOp := [⟨0, .p (.mov), [.c (.bool false)], none, false⟩]
noncomputable def c3_r25 : List SOp := [⟨0, .p (.bin .add), [.v 25, .c (.int .i64 1)], none, false⟩,
      ⟨1, .p (.mov), [.t 0], none, false⟩]
noncomputable def c3_l26 : CCode := (.seq (.reg c3_r12 [(26, 0)]) (.seq (.cond (.v 26) .skip (.exit 2)) (.seq (.block 3 (.seq (.reg c3_r13 [(13, 0)]) (.seq (.seq (.reg c3_r14 [(27, 2), (28, 1), (29, 0)]) (.block 4 (.loop c3_l22))) (.rcond c3_r23 [] 0
    (.seq (.reg c3_r24 [(8, 0)]) .ret)
    .skip)))) (.reg c3_r25 [(25, 0)]))))
noncomputable def c3_r27 : List SOp := [⟨0, .p (.mov), [.v 12], none, false⟩,
      ⟨1, .call 21, [.t 0], none, false⟩,
      ⟨2, .p (.mov), [.v 12], none, false⟩,
      ⟨3, .call 22, [.t 0], none, false⟩,
      ⟨4, .p (.eqB true), [.t 2, .t 0], none, false⟩,
      ⟨5, .p (.mov), [.t 0], none, false⟩,
      ⟨6, .p (.mov), [.v 12], some (0, false), false⟩,
      ⟨7, .p (.lenS), [.t 0], some (1, false), false⟩,
      ⟨8, .p (.bin .lss), [.t 0, .c (.int .i64 7)], some (2, false), false⟩,
      ⟨9, .p (.mov), [.t 0], some (3, false), false⟩,
      ⟨10, .p (.mov), [.v 12], some (0, true), false⟩,
      ⟨11, .call 23, [.t 0], some (1, true), false⟩,
      ⟨12, .p (.mov), [.v 12], some (2, true), false⟩,
      ⟨13, .call 24, [.t 0], some (3, true), false⟩,
      ⟨14, .p (.eqB true), [.t 2, .t 0], some (4, true), false⟩,
      ⟨15, .p (.pick), [.t 5, .t 0, .c (.bool false)], some (9, false), false⟩,
      ⟨16, .p (.pick), [.t 10, .c (.bool true), .t 0], none, false⟩]
noncomputable def c3_r28 : List SOp := [⟨0, .p (.mov), [.c (.bool false)], none, false⟩]
noncomputable def c3_r29 : List SOp := [⟨0, .p (.bin .add), [.v 21, .c (.int .i64 1)], none, false⟩,
      ⟨1, .p (.mov), [.t 0], none, false⟩]
noncomputable def c3_l30 : CCode := (.seq (.reg c3_r9 [(22, 0)]) (.seq (.cond (.v 22) .skip (.exit 0)) (.seq (.block 1 (.seq (.reg c3_r10 [(12, 0)]) (.seq (.seq (.reg c3_r11 [(23, 2), (24, 1), (25, 0)]) (.block 2 (.loop c3_l26))) (.rcond c3_r27 [] 0
    (.seq (.reg c3_r28 [(8, 0)]) .ret)
    .skip)))) (.reg c3_r29 [(21, 0)]))))
noncomputable def c3_r31 : List SOp := [⟨0, .p (.mov), [.v 9], none, false⟩,
      ⟨1, .p (.mov), [.t 0], none, false⟩]
noncomputable def c3 : CFn := { nargs := 7, vars := [0, 1, 2, 3, 4, 5, 6, 13, 14, 15, 16, 17, 19, 21, 23, 24, 25, 26, 27, 49, 50, 51, 52, 59, 60, 61, 62, 73, 74, 75, 76], results := [.var 8], body := (.seq (.reg c3_r0 [(7, 1), (8, 0)]) (.seq (.reg c3_r1 [(9, 0)]) (.seq (.rcond c3_r2 [] 0
    (.reg c3_r3 [(0, 0)])
    .skip) (.seq (.rcond c3_r4 [] 0
    (.reg c3_r5 [(1, 0)])
    .skip) (.seq (.reg c3_r6 [(10, 0)]) (.seq (.reg c3_r7 [(11, 0)]) (.seq (.seq (.reg c3_r8 [(19, 2), (20, 1), (21, 0)]) (.block 0 (.loop c3_l30))) (.seq (.reg c3_r31 [(8, 0)]) .ret)))))))) }

/-- headstock/headstocklaw12.AxiomMakes · variables 0:raw, 1:picks, 4:, 5:ok, 6:l, 7:o, 8:i, 9:n, 10:is -/
noncomputable def c4_r0 : List SOp := [⟨0, .p (.mov), [.c (.bool false)], none, false⟩]
noncomputable def c4_r1 : List SOp := [⟨0, .call 11, [], none, false⟩,
      ⟨1, .p (.mov), [.t 0], none, false⟩]
noncomputable def c4_r2 : List SOp := [⟨0, .p (.mov), [.v 0], none, false⟩,
      ⟨1, .call 12, [.t 0], none, false⟩,
      ⟨2, .p (.mov), [.t 0], none, false⟩]
noncomputable def c4_r3 : List SOp := [⟨0, .p (.mov), [.v 4], none, false⟩,
      ⟨1, .p (.mov), [.v 1], none, false⟩,
      ⟨2, .call 25, [.t 1, .t 0], none, false⟩,
      ⟨3, .p (.mov), [.t 0], none, false⟩]
noncomputable def c4_r4 : List SOp := [⟨0, .p (.mov), [.c (.int .i64 0)], none, false⟩]
noncomputable def c4_r5 : List SOp := [⟨0, .p (.mov), [.v 6], none, false⟩,
      ⟨1, .p (.mov), [.v 4], none, false⟩,
      ⟨2, .p (.lenS), [.t 0], none, false⟩,
      ⟨3, .p (.bin .lss), [.t 2, .t 0], none, false⟩]
noncomputable def c4_r6 : List SOp := [⟨0, .p (.mov), [.v 4], none, false⟩,
      ⟨1, .p (.mov), [.v 6], none, false⟩,
      ⟨2, .p (.idxAddrS 4), [.t 1, .t 0], none, false⟩,
      ⟨3, .p (.fieldAddr 1), [.t 0], none, false⟩,
      ⟨4, .r (.load false 1), [.t 0], none, false⟩,
      ⟨5, .p (.bin .neq), [.t 0, .c (.int .i64 1)], none, false⟩]
noncomputable def c4_r7 : List SOp := [⟨0, .p (.mov), [.v 4], none, false⟩,
      ⟨1, .p (.mov), [.v 5], none, false⟩,
      ⟨2, .p (.mov), [.v 6], none, false⟩,
      ⟨3, .call 15, [.t 2, .t 1, .t 0], none, false⟩,
      ⟨4, .p (.mov), [.t 0], none, false⟩,
      ⟨5, .p (.extract 0), [.t 0], none, false⟩,
      ⟨6, .p (.extract 1), [.t 1], none, false⟩,
      ⟨7, .p (.mov), [.t 1], none, false⟩,
      ⟨8, .p (.mov), [.t 1], none, false⟩]
noncomputable def c4_r8 : List SOp := [⟨0, .p (.mov), [.v 8], none, false⟩,
      ⟨1, .p (.un .not), [.t 0], none, false⟩]
noncomputable def c4_r9 : List SOp := [⟨0, .p (.mov), [.c (.bool false)], none, false⟩]
noncomputable def c4_r10 : List SOp := [⟨0, .p (.mov), [.v 4], none, false⟩,
      ⟨1, .p (.mov), [.v 6], none, false⟩,
      ⟨2, .p (.mov), [.v 7], none, false⟩,
      ⟨3, .p (.idxAddrS 4), [.t 2, .t 1], none, false⟩,
      ⟨4, .p (.fieldAddr 3), [.t 0], none, false⟩,
      ⟨5, .w (.store 1), [.t 0, .t 2], none, false⟩]
noncomputable def c4_r11 : List SOp := [⟨0, .p (.mov), [.v 6], none, false⟩,
      ⟨1, .p (.bin .add), [.t 0, .c (.int .i64 1)], none, false⟩,
      ⟨2, .p (.mov), [.t 0], none, false⟩]
noncomputable def c4_l12 : CCode := (.seq (.rcond c4_r5 [] 0
    .skip
    (.exit 0)) (.seq (.block 1 (.seq (.rcond c4_r6 [] 0
    (.exit 1)
    .skip) (.seq (.reg c4_r7 [(7, 1), (8, 0)]) (.seq (.rcond c4_r8 [] 0
    (.seq (.reg c4_r9 [(2, 0)]) .ret)
    .skip) (.reg c4_r10 []))))) (.reg c4_r11 [(6, 0)])))
noncomputable def c4_r13 : List SOp := [⟨0, .p (.mov), [.v 3], none, false⟩,
      ⟨1, .p (.mov), [.t 0], none, false⟩,
      ⟨2, .p (.mov), [.v 4], some (0, true), false⟩,
      ⟨3, .p (.mov), [.v 5], some (1, true), false⟩,
      ⟨4, .call 19, [.t 1, .t 0], some (2, true), false⟩,
      ⟨5, .p (.pick), [.t 3, .t 0, .c (.bool false)], none, false⟩,
      ⟨6, .p (.mov), [.t 0], none, false⟩,
      ⟨7, .p (.mov), [.v 4], some (0, true), false⟩,
      ⟨8, .call 23, [.t 0], some (1, true), false⟩,
      ⟨9, .p (.pick), [.t 2, .t 0, .c (.bool false)], none, false⟩,
      ⟨10, .p (.mov), [.t 0], none, false⟩]
noncomputable def c4 : CFn := { nargs := 2, vars := [0, 1, 4, 5, 6, 7, 8, 9, 10], results := [.var 2], body := (.seq (.reg c4_r0 [(2, 0)]) (.seq (.reg c4_r1 [(3, 0)]) (.seq (.reg c4_r2 [(4, 0)]) (.seq (.reg c4_r3 [(5, 0)]) (.seq (.seq (.reg c4_r4 [(6, 0)]) (.block 0 (.loop c4_l12))) (.seq (.reg c4_r13 [(2, 0)]) .ret)))))) }

/-- headstock/headstocklaw12.AxiomPlays · variables 0:raw, 2:, 3:ok, 4:l, 5:at, 6:i -/
noncomputable def c5_r0 : List SOp := [⟨0, .p (.mov), [.c (.bool false)], none, false⟩]
noncomputable def c5_r1 : List SOp := [⟨0, .call 11, [], none, false⟩,
      ⟨1, .p (.mov), [.t 0], none, false⟩]
noncomputable def c5_r2 : List SOp := [⟨0, .p (.mov), [.v 0], none, false⟩,
      ⟨1, .call 12, [.t 0], none, false⟩,
      ⟨2, .p (.mov), [.t 0], none, false⟩]
noncomputable def c5_r3 : List SOp := [⟨0, .a (.new [.int .i64 0, .int .i64 0, .int .i64 0, .int .i64 0]), [], none, false⟩]
noncomputable def c5_r4 : List SOp := [⟨0, .p (.mov), [.c (.int .i64 0)], none, false⟩]
noncomputable def c5_r5 : List SOp := [⟨0, .p (.mov), [.v 5], none, false⟩,
      ⟨1, .p (.mov), [.v 3], none, false⟩,
      ⟨2, .p (.lenS), [.t 0], none, false⟩,
      ⟨3, .p (.bin .lss), [.t 2, .t 0], none, false⟩]
noncomputable def c5_r6 : List SOp := [⟨0, .p (.mov), [.v 3], none, false⟩,
      ⟨1, .p (.mov), [.v 5], none, false⟩,
      ⟨2, .p (.idxAddrS 4), [.t 1, .t 0], none, false⟩,
      ⟨3, .p (.fieldAddr 1), [.t 0], none, false⟩,
      ⟨4, .r (.load false 1), [.t 0], none, false⟩,
      ⟨5, .p (.bin .eql), [.t 0, .c (.int .i64 2)], none, false⟩]
noncomputable def c5_r7 : List SOp := [⟨0, .p (.mov), [.v 3], none, false⟩,
      ⟨1, .p (.mov), [.v 5], none, false⟩,
      ⟨2, .p (.idxAddrS 4), [.t 1, .t 0], none, false⟩,
      ⟨3, .p (.fieldAddr 2), [.t 0], none, false⟩,
      ⟨4, .r (.load false 1), [.t 0], none, false⟩,
      ⟨5, .p (.mov), [.v 3], none, false⟩,
      ⟨6, .p (.mov), [.v 5], none, false⟩,
      ⟨7, .p (.idxAddrS 4), [.t 1, .t 0], none, false⟩,
      ⟨8, .p (.fieldAddr 3), [.t 0], none, false⟩,
      ⟨9, .r (.load false 1), [.t 0], none, false⟩,
      ⟨10, .p (.idxAddrA 4 1), [.v 4, .t 5], none, false⟩,
      ⟨11, .w (.store 1), [.t 0, .t 1], none, false⟩]
noncomputable def c5_r8 : List SOp := [⟨0, .p (.mov), [.v 3], none, false⟩,
      ⟨1, .p (.mov), [.v 5], none, false⟩,
      ⟨2, .p (.idxAddrS 4), [.t 1, .t 0], none, false⟩,
      ⟨3, .p (.fieldAddr 1), [.t 0], none, false⟩,
      ⟨4, .r (.load false 1), [.t 0], none, false⟩,
      ⟨5, .p (.bin .eql), [.t 0, .c (.int .i64 1)], none, false⟩]
noncomputable def c5_r9 : List SOp := [⟨0, .p (.mov), [.v 3], none, false⟩,
      ⟨1, .p (.mov), [.v 5], none, false⟩,
      ⟨2, .p (.mov), [.v 3], none, false⟩,
      ⟨3, .p (.mov), [.v 5], none, false⟩,
      ⟨4, .p (.idxAddrS 4), [.t 1, .t 0], none, false⟩,
      ⟨5, .p (.fieldAddr 2), [.t 0], none, false⟩,
      ⟨6, .r (.load false 1), [.t 0], none, false⟩,
      ⟨7, .p (.idxAddrA 4 1), [.v 4, .t 0], none, false⟩,
      ⟨8, .r (.load false 1), [.t 0], none, false⟩,
      ⟨9, .p (.idxAddrS 4), [.t 8, .t 7], none, false⟩,
      ⟨10, .p (.fieldAddr 3), [.t 0], none, false⟩,
      ⟨11, .w (.store 1), [.t 0, .t 2], none, false⟩]
noncomputable def c5_r10 : List SOp := [⟨0, .p (.mov), [.v 5], none, false⟩,
      ⟨1, .p (.bin .add), [.t 0, .c (.int .i64 1)], none, false⟩,
      ⟨2, .p (.mov), [.t 0], none, false⟩]
noncomputable def c5_l11 : CCode := (.seq (.rcond c5_r5 [] 0
    .skip
    (.exit 0)) (.seq (.block 1 (.seq (.rcond c5_r6 [] 0
    (.reg c5_r7 [])
    .skip) (.rcond c5_r8 [] 0
    (.reg c5_r9 [])
    .skip))) (.reg c5_r10 [(5, 0)])))
noncomputable def c5_r12 : List SOp := [⟨0, .p (.mov), [.v 2], none, false⟩,
      ⟨1, .p (.mov), [.t 0], none, false⟩,
      ⟨2, .p (.mov), [.v 3], some (0, true), false⟩,
      ⟨3, .call 23, [.t 0], some (1, true), false⟩,
      ⟨4, .p (.pick), [.t 2, .t 0, .c (.bool false)], none, false⟩,
      ⟨5, .p (.mov), [.t 0], none, false⟩,
      ⟨6, .p (.mov), [.v 3], some (0, true), false⟩,
      ⟨7, .p (.mov), [.v 3], some (1, true), false⟩,
      ⟨8, .call 13, [.t 0, .c (.slice none 0 0)], some (2, true), false⟩,
      ⟨9, .call 19, [.t 2, .t 0], some (3, true), false⟩,
      ⟨10, .p (.pick), [.t 4, .t 0, .c (.bool false)], none, false⟩,
      ⟨11, .p (.mov), [.t 0], none, false⟩]
noncomputable def c5 : CFn := { nargs := 1, vars := [0, 2, 3, 4, 5, 6], results := [.var 1], body := (.seq (.reg c5_r0 [(1, 0)]) (.seq (.reg c5_r1 [(2, 0)]) (.seq (.reg c5_r2 [(3, 0)]) (.seq (.reg c5_r3 [(4, 0)]) (.seq (.seq (.reg c5_r4 [(5, 0)]) (.block 0 (.loop c5_l11))) (.seq (.reg c5_r12 [(1, 0)]) .ret)))))) }

/-- headstock/headstocklaw12.AxiomFences · variables 0:raw, 1:where, 2:hart, 6:, 7:ok, 8:l, 9:k, 10:m -/
noncomputable def c6_r0 : List SOp := [⟨0, .p (.mov), [.c (.bool false)], none, false⟩]
noncomputable def c6_r1 : List SOp := [⟨0, .call 11, [], none, false⟩,
      ⟨1, .p (.mov), [.t 0], none, false⟩]
noncomputable def c6_r2 : List SOp := [⟨0, .p (.mov), [.v 0], none, false⟩,
      ⟨1, .call 12, [.t 0], none, false⟩,
      ⟨2, .p (.mov), [.t 0], none, false⟩]
noncomputable def c6_r3 : List SOp := [⟨0, .p (.mov), [.v 1], none, false⟩,
      ⟨1, .p (.mov), [.v 5], none, false⟩,
      ⟨2, .p (.lenS), [.t 0], none, false⟩,
      ⟨3, .p (.bin .add), [.t 0, .c (.int .i64 1)], none, false⟩,
      ⟨4, .call 14, [.t 3, .t 0], none, false⟩,
      ⟨5, .p (.mov), [.t 0], none, false⟩]
noncomputable def c6_r4 : List SOp := [⟨0, .p (.mov), [.v 5], none, false⟩,
      ⟨1, .p (.mov), [.v 6], none, false⟩,
      ⟨2, .p (.sliceS 4 false true), [.t 1, .t 0], none, false⟩,
      ⟨3, .w (.append 4 32), [.c (.slice none 0 0), .t 0], none, false⟩,
      ⟨4, .p (.mov), [.v 2], none, false⟩,
      ⟨5, .call 14, [.t 0, .c (.int .i64 4)], none, false⟩,
      ⟨6, .p (.build [.int .i64 0, .int .i64 0, .int .i64 0, .int .i64 0] [(0, 1), (1, 1)]), [.t 0, .c (.int .i64 3)], none, false⟩,
      ⟨7, .a (.bslice [.int .i64 0, .int .i64 0, .int .i64 0, .int .i64 0] [(0, 4)] 1 4), [.t 0], none, false⟩,
      ⟨8, .w (.append 4 32), [.t 4, .t 0], none, false⟩,
      ⟨9, .p (.mov), [.v 5], none, false⟩,
      ⟨10, .p (.mov), [.v 6], none, false⟩,
      ⟨11, .p (.sliceS 4 true false), [.t 1, .t 0], none, false⟩,
      ⟨12, .w (.append 4 32), [.t 3, .t 0], none, false⟩,
      ⟨13, .p (.mov), [.t 0], none, false⟩]
noncomputable def c6_r5 : List SOp := [⟨0, .p (.mov), [.v 4], none, false⟩,
      ⟨1, .p (.mov), [.t 0], none, false⟩,
      ⟨2, .p (.mov), [.v 5], some (0, true), false⟩,
      ⟨3, .call 23, [.t 0], some (1, true), false⟩,
      ⟨4, .p (.mov), [.t 0], some (2, true), false⟩,
      ⟨5, .p (.mov), [.v 7], some (0, false), false⟩,
      ⟨6, .call 23, [.t 0], some (1, false), false⟩,
      ⟨7, .p (.un .not), [.t 0], some (2, false), false⟩,
      ⟨8, .p (.pick), [.t 3, .c (.bool true), .t 0], some (6, true), false⟩,
      ⟨9, .p (.pick), [.t 7, .t 0, .c (.bool false)], none, false⟩,
      ⟨10, .p (.mov), [.t 0], none, false⟩]
noncomputable def c6 : CFn := { nargs := 3, vars := [0, 1, 2, 6, 7, 8, 9, 10], results := [.var 3], body := (.seq (.reg c6_r0 [(3, 0)]) (.seq (.reg c6_r1 [(4, 0)]) (.seq (.reg c6_r2 [(5, 0)]) (.seq (.reg c6_r3 [(6, 0)]) (.seq (.reg c6_r4 [(7, 0)]) (.seq (.reg c6_r5 [(3, 0)]) .ret)))))) }

/-- headstock/headstocklaw12.AxiomAlone · variables 0:raw, 1:hart, 4:, 5:ok, 6:l, 7:at, 8:want, 9:i -/
noncomputable def c7_r0 : List SOp := [⟨0, .p (.mov), [.c (.bool false)], none, false⟩]
noncomputable def c7_r1 : List SOp := [⟨0, .call 11, [], none, false⟩,
      ⟨1, .p (.mov), [.t 0], none, false⟩]
noncomputable def c7_r2 : List SOp := [⟨0, .p (.mov), [.v 0], none, false⟩,
      ⟨1, .call 12, [.t 0], none, false⟩,
      ⟨2, .p (.mov), [.t 0], none, false⟩]
noncomputable def c7_r3 : List SOp := [⟨0, .a (.new [.int .i64 0, .int .i64 0, .int .i64 0, .int .i64 0]), [], none, false⟩]
noncomputable def c7_r4 : List SOp := [⟨0, .p (.mov), [.c (.bool true)], none, false⟩]
noncomputable def c7_r5 : List SOp := [⟨0, .p (.mov), [.c (.int .i64 0)], none, false⟩]
noncomputable def c7_r6 : List SOp := [⟨0, .p (.mov), [.v 7], none, false⟩,
      ⟨1, .p (.mov), [.v 4], none, false⟩,
      ⟨2, .p (.lenS), [.t 0], none, false⟩,
      ⟨3, .p (.bin .lss), [.t 2, .t 0], none, false⟩]
noncomputable def c7_r7 : List SOp := [⟨0, .p (.mov), [.v 4], none, false⟩,
      ⟨1, .p (.mov), [.v 7], none, false⟩,
      ⟨2, .p (.mov), [.v 1], none, false⟩,
      ⟨3, .call 14, [.t 0, .c (.int .i64 4)], none, false⟩,
      ⟨4, .p (.idxAddrS 4), [.t 3, .t 2], none, false⟩,
      ⟨5, .p (.fieldAddr 0), [.t 0], none, false⟩,
      ⟨6, .w (.store 1), [.t 0, .t 2], none, false⟩]
noncomputable def c7_r8 : List SOp := [⟨0, .p (.mov), [.v 4], none, false⟩,
      ⟨1, .p (.mov), [.v 7], none, false⟩,
      ⟨2, .p (.idxAddrS 4), [.t 1, .t 0], none, false⟩,
      ⟨3, .p (.fieldAddr 1), [.t 0], none, false⟩,
      ⟨4, .r (.load false 1), [.t 0], none, false⟩,
      ⟨5, .p (.bin .eql), [.t 0, .c (.int .i64 2)], none, false⟩]
noncomputable def c7_r9 : List SOp := [⟨0, .p (.mov), [.v 4], none, false⟩,
      ⟨1, .p (.mov), [.v 7], none, false⟩,
      ⟨2, .p (.idxAddrS 4), [.t 1, .t 0], none, false⟩,
      ⟨3, .p (.fieldAddr 2), [.t 0], none, false⟩,
      ⟨4, .r (.load false 1), [.t 0], none, false⟩,
      ⟨5, .p (.mov), [.v 4], none, false⟩,
      ⟨6, .p (.mov), [.v 7], none, false⟩,
      ⟨7, .p (.idxAddrS 4), [.t 1, .t 0], none, false⟩,
      ⟨8, .p (.fieldAddr 3), [.t 0], none, false⟩,
      ⟨9, .r (.load false 1), [.t 0], none, false⟩,
      ⟨10, .p (.idxAddrA 4 1), [.v 5, .t 5], none, false⟩,
      ⟨11, .w (.store 1), [.t 0, .t 1], none, false⟩]
noncomputable def c7_r10 : List SOp := [⟨0, .p (.mov), [.v 4], none, false⟩,
      ⟨1, .p (.mov), [.v 7], none, false⟩,
      ⟨2, .p (.idxAddrS 4), [.t 1, .t 0], none, false⟩,
      ⟨3, .p (.fieldAddr 1), [.t 0], none, false⟩,
      ⟨4, .r (.load false 1), [.t 0], none, false⟩,
      ⟨5, .p (.bin .eql), [.t 0, .c (.int .i64 1)], none, false⟩]
noncomputable def c7_r11 : List SOp := [⟨0, .p (.mov), [.v 6], none, false⟩,
      ⟨1, .p (.mov), [.t 0], none, false⟩,
      ⟨2, .p (.mov), [.v 4], some (0, true), false⟩,
      ⟨3, .p (.mov), [.v 7], some (1, true), false⟩,
      ⟨4, .p (.idxAddrS 4), [.t 1, .t 0], some (2, true), false⟩,
      ⟨5, .p (.fieldAddr 3), [.t 0], some (3, true), false⟩,
      ⟨6, .r (.load false 1), [.t 0], some (4, true), false⟩,
      ⟨7, .p (.mov), [.v 4], some (5, true), false⟩,
      ⟨8, .p (.mov), [.v 7], some (6, true), false⟩,
      ⟨9, .p (.idxAddrS 4), [.t 1, .t 0], some (7, true), false⟩,
      ⟨10, .p (.fieldAddr 2), [.t 0], some (8, true), false⟩,
      ⟨11, .r (.load false 1), [.t 0], some (9, true), false⟩,
      ⟨12, .p (.idxAddrA 4 1), [.v 5, .t 0], some (10, true), false⟩,
      ⟨13, .r (.load false 1), [.t 0], some (11, true), false⟩,
      ⟨14, .p (.bin .eql), [.t 7, .t 0], some (12, true), false⟩,
      ⟨15, .p (.pick), [.t 13, .t 0, .c (.bool false)], none, false⟩,
      ⟨16, .p (.mov), [.t 0], none, false⟩]
noncomputable def c7_r12 : List SOp := [⟨0, .p (.mov), [.v 7], none, false⟩,
      ⟨1, .p (.bin .add), [.t 0, .c (.int .i64 1)], none, false⟩,
      ⟨2, .p (.mov), [.t 0], none, false⟩]
noncomputable def c7_l13 : CCode := (.seq (.rcond c7_r6 [] 0
    .skip
    (.exit 0)) (.seq (.block 1 (.seq (.reg c7_r7 []) (.seq (.rcond c7_r8 [] 0
    (.reg c7_r9 [])
    .skip) (.rcond c7_r10 [] 0
    (.reg c7_r11 [(6, 0)])
    .skip)))) (.reg c7_r12 [(7, 0)])))
noncomputable def c7_r14 : List SOp := [⟨0, .p (.mov), [.v 3], none, false⟩,
      ⟨1, .p (.mov), [.t 0], none, false⟩,
      ⟨2, .p (.mov), [.v 4], some (0, true), false⟩,
      ⟨3, .call 23, [.t 0], some (1, true), false⟩,
      ⟨4, .p (.mov), [.v 6], some (2, true), false⟩,
      ⟨5, .p (.eqB false), [.t 1, .t 0], some (3, true), false⟩,
      ⟨6, .p (.pick), [.t 4, .t 0, .c (.bool false)], none, false⟩,
      ⟨7, .p (.mov), [.t 0], none, false⟩]
noncomputable def c7 : CFn := { nargs := 2, vars := [0, 1, 4, 5, 6, 7, 8, 9], results := [.var 2], body := (.seq (.reg c7_r0 [(2, 0)]) (.seq (.reg c7_r1 [(3, 0)]) (.seq (.reg c7_r2 [(4, 0)]) (.seq (.reg c7_r3 [(5, 0)]) (.seq (.reg c7_r4 [(6, 0)]) (.seq (.seq (.reg c7_r5 [(7, 0)]) (.block 0 (.loop c7_l13))) (.seq (.reg c7_r14 [(2, 0)]) .ret))))))) }

/-- headstock/headstocklaw12.AxiomTurned · variables 0:raw, 1:harts, 2:words, 6:, 7:ok, 8:l, 9:m, 10:i -/
noncomputable def c8_r0 : List SOp := [⟨0, .p (.mov), [.c (.bool false)], none, false⟩]
noncomputable def c8_r1 : List SOp := [⟨0, .call 11, [], none, false⟩,
      ⟨1, .p (.mov), [.t 0], none, false⟩]
noncomputable def c8_r2 : List SOp := [⟨0, .p (.mov), [.v 0], none, false⟩,
      ⟨1, .call 12, [.t 0], none, false⟩,
      ⟨2, .p (.mov), [.t 0], none, false⟩]
noncomputable def c8_r3 : List SOp := [⟨0, .p (.mov), [.v 5], none, false⟩,
      ⟨1, .w (.append 4 32), [.c (.slice none 0 0), .t 0], none, false⟩,
      ⟨2, .p (.mov), [.t 0], none, false⟩]
noncomputable def c8_r4 : List SOp := [⟨0, .p (.mov), [.c (.int .i64 0)], none, false⟩]
noncomputable def c8_r5 : List SOp := [⟨0, .p (.mov), [.v 7], none, false⟩,
      ⟨1, .p (.mov), [.v 6], none, false⟩,
      ⟨2, .p (.lenS), [.t 0], none, false⟩,
      ⟨3, .p (.bin .lss), [.t 2, .t 0], none, false⟩]
noncomputable def c8_r6 : List SOp := [⟨7, .p (.mov), [.v 1], none, false⟩,
      ⟨8, .call 14, [.t 0, .c (.int .i64 4)], none, true⟩,
      ⟨0, .p (.mov), [.v 6], none, false⟩,
      ⟨1, .p (.mov), [.v 7], none, false⟩,
      ⟨2, .p (.mov), [.v 6], none, false⟩,
      ⟨3, .p (.mov), [.v 7], none, false⟩,
      ⟨4, .p (.idxAddrS 4), [.t 1, .t 0], none, false⟩,
      ⟨5, .p (.fieldAddr 0), [.t 0], none, false⟩,
      ⟨6, .r (.load false 1), [.t 0], none, false⟩,
      ⟨9, .p (.bin .add), [.t 0, .t 7], none, false⟩,
      ⟨10, .p (.bin .rem), [.t 0, .c (.int .i64 4)], none, false⟩,
      ⟨11, .p (.idxAddrS 4), [.t 8, .t 7], none, false⟩,
      ⟨12, .p (.fieldAddr 0), [.t 0], none, false⟩,
      ⟨13, .w (.store 1), [.t 0, .t 2], none, false⟩]
noncomputable def c8_r7 : List SOp := [⟨0, .p (.mov), [.v 6], none, false⟩,
      ⟨1, .p (.mov), [.v 7], none, false⟩,
      ⟨2, .p (.idxAddrS 4), [.t 1, .t 0], none, false⟩,
      ⟨3, .p (.fieldAddr 1), [.t 0], none, false⟩,
      ⟨4, .r (.load false 1), [.t 0], none, false⟩,
      ⟨5, .p (.bin .neq), [.t 0, .c (.int .i64 3)], none, false⟩]
noncomputable def c8_r8 : List SOp := [⟨7, .p (.mov), [.v 2], none, false⟩,
      ⟨8, .call 14, [.t 0, .c (.int .i64 4)], none, true⟩,
      ⟨0, .p (.mov), [.v 6], none, false⟩,
      ⟨1, .p (.mov), [.v 7], none, false⟩,
      ⟨2, .p (.mov), [.v 6], none, false⟩,
      ⟨3, .p (.mov), [.v 7], none, false⟩,
      ⟨4, .p (.idxAddrS 4), [.t 1, .t 0], none, false⟩,
      ⟨5, .p (.fieldAddr 2), [.t 0], none, false⟩,
      ⟨6, .r (.load false 1), [.t 0], none, false⟩,
      ⟨9, .p (.bin .add), [.t 0, .t 7], none, false⟩,
      ⟨10, .p (.bin .rem), [.t 0, .c (.int .i64 4)], none, false⟩,
      ⟨11, .p (.idxAddrS 4), [.t 8, .t 7], none, false⟩,
      ⟨12, .p (.fieldAddr 2), [.t 0], none, false⟩,
      ⟨13, .w (.store 1), [.t 0, .t 2], none, false⟩]
noncomputable def c8_r9 : List SOp := [⟨0, .p (.mov), [.v 7], none, false⟩,
      ⟨1, .p (.bin .add), [.t 0, .c (.int .i64 1)], none, false⟩,
      ⟨2, .p (.mov), [.t 0], none, false⟩]
noncomputable def c8_l10 : CCode := (.seq (.rcond c8_r5 [] 0
    .skip
    (.exit 0)) (.seq (.block 1 (.seq (.reg c8_r6 []) (.rcond c8_r7 [] 0
    (.reg c8_r8 [])
    .skip))) (.reg c8_r9 [(7, 0)])))
noncomputable def c8_r11 : List SOp := [⟨0, .p (.mov), [.v 4], none, false⟩,
      ⟨1, .p (.mov), [.t 0], none, false⟩,
      ⟨2, .p (.mov), [.v 6], some (0, true), false⟩,
      ⟨3, .call 21, [.t 0], some (1, true), false⟩,
      ⟨4, .p (.pick), [.t 2, .t 0, .c (.bool false)], none, false⟩,
      ⟨5, .p (.mov), [.t 0], none, false⟩,
      ⟨6, .p (.mov), [.v 5], some (0, true), false⟩,
      ⟨7, .call 23, [.t 0], some (1, true), false⟩,
      ⟨8, .p (.mov), [.v 6], some (2, true), false⟩,
      ⟨9, .call 23, [.t 0], some (3, true), false⟩,
      ⟨10, .p (.eqB false), [.t 2, .t 0], some (4, true), false⟩,
      ⟨11, .p (.pick), [.t 5, .t 0, .c (.bool false)], none, false⟩,
      ⟨12, .p (.mov), [.t 0], none, false⟩]
noncomputable def c8 : CFn := { nargs := 3, vars := [0, 1, 2, 6, 7, 8, 9, 10], results := [.var 3], body := (.seq (.reg c8_r0 [(3, 0)]) (.seq (.reg c8_r1 [(4, 0)]) (.seq (.reg c8_r2 [(5, 0)]) (.seq (.reg c8_r3 [(6, 0)]) (.seq (.seq (.reg c8_r4 [(7, 0)]) (.block 0 (.loop c8_l10))) (.seq (.reg c8_r11 [(3, 0)]) .ret)))))) }

/-- headstock/headstocklaw12.AxiomLess · variables 0:raw, 1:which, 4:, 5:ok, 6:l, 7:k, 8:few, 9:i -/
noncomputable def c9_r0 : List SOp := [⟨0, .p (.mov), [.c (.bool false)], none, false⟩]
noncomputable def c9_r1 : List SOp := [⟨0, .call 11, [], none, false⟩,
      ⟨1, .p (.mov), [.t 0], none, false⟩]
noncomputable def c9_r2 : List SOp := [⟨0, .p (.mov), [.v 0], none, false⟩,
      ⟨1, .call 12, [.t 0], none, false⟩,
      ⟨2, .p (.mov), [.t 0], none, false⟩]
noncomputable def c9_r3 : List SOp := [⟨0, .p (.mov), [.v 4], none, false⟩,
      ⟨1, .p (.lenS), [.t 0], none, false⟩,
      ⟨2, .p (.bin .eql), [.t 0, .c (.int .i64 0)], none, false⟩]
noncomputable def c9_r4 : List SOp := [⟨0, .p (.mov), [.v 3], none, false⟩,
      ⟨1, .p (.mov), [.t 0], none, false⟩]
noncomputable def c9_r5 : List SOp := [⟨0, .p (.mov), [.v 1], none, false⟩,
      ⟨1, .p (.mov), [.v 4], none, false⟩,
      ⟨2, .p (.lenS), [.t 0], none, false⟩,
      ⟨3, .call 14, [.t 2, .t 0], none, false⟩,
      ⟨4, .p (.mov), [.t 0], none, false⟩]
noncomputable def c9_r6 : List SOp := [⟨0, .p (.mov), [.c (.slice none 0 0)], none, false⟩]
noncomputable def c9_r7 : List SOp := [⟨0, .p (.mov), [.c (.int .i64 0)], none, false⟩]
noncomputable def c9_r8 : List SOp := [⟨0, .p (.mov), [.v 7], none, false⟩,
      ⟨1, .p (.mov), [.v 4], none, false⟩,
      ⟨2, .p (.lenS), [.t 0], none, false⟩,
      ⟨3, .p (.bin .lss), [.t 2, .t 0], none, false⟩]
noncomputable def c9_r9 : List SOp := [⟨0, .p (.mov), [.v 7], none, false⟩,
      ⟨1, .p (.mov), [.v 5], none, false⟩,
      ⟨2, .p (.bin .neq), [.t 1, .t 0], none, false⟩,
      ⟨3, .p (.mov), [.t 0], none, false⟩,
      ⟨4, .p (.mov), [.v 4], some (0, false), false⟩,
      ⟨5, .p (.mov), [.v 7], some (1, false), false⟩,
      ⟨6, .p (.idxAddrS 4), [.t 1, .t 0], some (2, false), false⟩,
      ⟨7, .p (.fieldAddr 1), [.t 0], some (3, false), false⟩,
      ⟨8, .r (.load false 1), [.t 0], some (4, false), false⟩,
      ⟨9, .p (.bin .eql), [.t 0, .c (.int .i64 2)], some (5, false), false⟩,
      ⟨10, .p (.pick), [.t 6, .c (.bool true), .t 0], none, false⟩]
noncomputable def c9_r10 : List SOp := [⟨0, .p (.mov), [.v 6], none, false⟩,
      ⟨1, .p (.mov), [.v 4], none, false⟩,
      ⟨2, .p (.mov), [.v 7], none, false⟩,
      ⟨3, .p (.idxAddrS 4), [.t 1, .t 0], none, false⟩,
      ⟨4, .r (.load true 4), [.t 0], none, false⟩,
      ⟨5, .a (.bslice [.int .i64 0, .int .i64 0, .int .i64 0, .int .i64 0] [(0, 4)] 1 4), [.t 0], none, false⟩,
      ⟨6, .w (.append 4 32), [.t 5, .t 0], none, false⟩,
      ⟨7, .p (.mov), [.t 0], none, false⟩]
noncomputable def c9_r11 : List SOp := [⟨0, .p (.mov), [.v 7], none, false⟩,
      ⟨1, .p (.bin .add), [.t 0, .c (.int .i64 1)], none, false⟩,
      ⟨2, .p (.mov), [.t 0], none, false⟩]
noncomputable def c9_l12 : CCode := (.seq (.rcond c9_r8 [] 0
    .skip
    (.exit 0)) (.seq (.block 1 (.rcond c9_r9 [] 0
    (.reg c9_r10 [(6, 0)])
    .skip)) (.reg c9_r11 [(7, 0)])))
noncomputable def c9_r13 : List SOp := [⟨0, .p (.mov), [.v 3], none, false⟩,
      ⟨1, .p (.mov), [.t 0], none, false⟩,
      ⟨2, .p (.mov), [.v 4], some (0, true), false⟩,
      ⟨3, .call 23, [.t 0], some (1, true), false⟩,
      ⟨4, .p (.un .not), [.t 0], some (2, true), false⟩,
      ⟨5, .p (.mov), [.t 0], some (3, true), false⟩,
      ⟨6, .p (.mov), [.v 6], some (0, false), false⟩,
      ⟨7, .call 23, [.t 0], some (1, false), false⟩,
      ⟨8, .p (.pick), [.t 2, .c (.bool true), .t 0], some (6, true), false⟩,
      ⟨9, .p (.pick), [.t 7, .t 0, .c (.bool false)], none, false⟩,
      ⟨10, .p (.mov), [.t 0], none, false⟩]
noncomputable def c9 : CFn := { nargs := 2, vars := [0, 1, 4, 5, 6, 7, 8, 9], results := [.var 2], body := (.seq (.reg c9_r0 [(2, 0)]) (.seq (.reg c9_r1 [(3, 0)]) (.seq (.reg c9_r2 [(4, 0)]) (.seq (.rcond c9_r3 [] 0
    (.seq (.reg c9_r4 [(2, 0)]) .ret)
    .skip) (.seq (.reg c9_r5 [(5, 0)]) (.seq (.reg c9_r6 [(6, 0)]) (.seq (.seq (.reg c9_r7 [(7, 0)]) (.block 0 (.loop c9_l12))) (.seq (.reg c9_r13 [(2, 0)]) .ret)))))))) }

/-- headstock/headstocklaw12.AxiomReads · variables 0:raw, 1:hart, 2:word, 3:n, 8:, 9:ok, 10:l, 11:h, 12:w, 13:strange, 14:early, 15:two -/
noncomputable def c10_r0 : List SOp := [⟨0, .p (.mov), [.c (.bool false)], none, false⟩]
noncomputable def c10_r1 : List SOp := [⟨0, .call 11, [], none, false⟩,
      ⟨1, .p (.mov), [.t 0], none, false⟩]
noncomputable def c10_r2 : List SOp := [⟨0, .p (.mov), [.v 0], none, false⟩,
      ⟨1, .call 12, [.t 0], none, false⟩,
      ⟨2, .p (.mov), [.t 0], none, false⟩]
noncomputable def c10_r3 : List SOp := [⟨0, .p (.mov), [.v 1], none, false⟩,
      ⟨1, .call 14, [.t 0, .c (.int .i64 4)], none, false⟩,
      ⟨2, .p (.mov), [.t 0], none, false⟩]
noncomputable def c10_r4 : List SOp := [⟨0, .p (.mov), [.v 2], none, false⟩,
      ⟨1, .call 14, [.t 0, .c (.int .i64 3)], none, false⟩,
      ⟨2, .p (.mov), [.t 0], none, false⟩]
noncomputable def c10_r5 : List SOp := [⟨0, .p (.mov), [.v 6], none, false⟩,
      ⟨1, .w (.append 4 32), [.c (.slice none 0 0), .t 0], none, false⟩,
      ⟨2, .p (.mov), [.v 7], none, false⟩,
      ⟨3, .p (.mov), [.v 8], none, false⟩,
      ⟨4, .p (.build [.int .i64 0, .int .i64 0, .int .i64 0, .int .i64 0] [(0, 1), (1, 1), (2, 1), (3, 1)]), [.t 1, .c (.int .i64 1), .t 0, .c (.int .i64 7)], none, false⟩,
      ⟨5, .a (.bslice [.int .i64 0, .int .i64 0, .int .i64 0, .int .i64 0] [(0, 4)] 1 4), [.t 0], none, false⟩,
      ⟨6, .w (.append 4 32), [.t 4, .t 0], none, false⟩,
      ⟨7, .p (.mov), [.t 0], none, false⟩]
noncomputable def c10_r6 : List SOp := [⟨0, .p (.mov), [.v 7], none, false⟩,
      ⟨1, .p (.mov), [.v 8], none, false⟩,
      ⟨2, .p (.build [.int .i64 0, .int .i64 0, .int .i64 0, .int .i64 0] [(0, 1), (1, 1), (2, 1), (3, 1)]), [.t 1, .c (.int .i64 1), .t 0, .c (.int .i64 9)], none, false⟩,
      ⟨3, .p (.mov), [.v 7], none, false⟩,
      ⟨4, .p (.mov), [.v 8], none, false⟩,
      ⟨5, .p (.build [.int .i64 0, .int .i64 0, .int .i64 0, .int .i64 0] [(0, 1), (1, 1), (2, 1), (3, 1)]), [.t 1, .c (.int .i64 2), .t 0, .c (.int .i64 9)], none, false⟩,
      ⟨6, .a (.bslice [.int .i64 0, .int .i64 0, .int .i64 0, .int .i64 0, .int .i64 0, .int .i64 0, .int .i64 0, .int .i64 0] [(0, 4), (4, 4)] 2 4), [.t 3, .t 0], none, false⟩,
      ⟨7, .p (.mov), [.t 0], none, false⟩]
noncomputable def c10_r7 : List SOp := [⟨0, .p (.mov), [.v 10], none, false⟩,
      ⟨1, .p (.mov), [.v 6], none, false⟩,
      ⟨2, .w (.append 4 32), [.t 1, .t 0], none, false⟩,
      ⟨3, .p (.mov), [.t 0], none, false⟩]
noncomputable def c10_r8 : List SOp := [⟨0, .p (.mov), [.v 7], none, false⟩,
      ⟨1, .p (.mov), [.v 8], none, false⟩,
      ⟨2, .p (.build [.int .i64 0, .int .i64 0, .int .i64 0, .int .i64 0] [(0, 1), (1, 1), (2, 1), (3, 1)]), [.t 1, .c (.int .i64 2), .t 0, .c (.int .i64 9)], none, false⟩,
      ⟨3, .p (.mov), [.v 7], none, false⟩,
      ⟨4, .p (.mov), [.v 8], none, false⟩,
      ⟨5, .p (.build [.int .i64 0, .int .i64 0, .int .i64 0, .int .i64 0] [(0, 1), (1, 1), (2, 1), (3, 1)]), [.t 1, .c (.int .i64 1), .t 0, .c (.int .i64 9)], none, false⟩,
      ⟨6, .a (.bslice [.int .i64 0, .int .i64 0, .int .i64 0, .int .i64 0, .int .i64 0, .int .i64 0, .int .i64 0, .int .i64 0] [(0, 4), (4, 4)] 2 4), [.t 3, .t 0], none, false⟩,
      ⟨7, .p (.mov), [.v 7], none, false⟩,
      ⟨8, .p (.bin .add), [.t 0, .c (.int .i64 1)], none, false⟩,
      ⟨9, .p (.bin .rem), [.t 0, .c (.int .i64 4)], none, false⟩,
      ⟨10, .p (.mov), [.v 8], none, false⟩,
      ⟨11, .p (.mov), [.v 3], none, false⟩,
      ⟨12, .call 14, [.t 0, .c (.int .i64 2)], none, false⟩,
      ⟨13, .p (.bin .mul), [.c (.int .i64 9), .t 0], none, false⟩,
      ⟨14, .p (.build [.int .i64 0, .int .i64 0, .int .i64 0, .int .i64 0] [(0, 1), (1, 1), (2, 1), (3, 1)]), [.t 4, .c (.int .i64 1), .t 3, .t 0], none, false⟩,
      ⟨15, .a (.bslice [.int .i64 0, .int .i64 0, .int .i64 0, .int .i64 0] [(0, 4)] 1 4), [.t 0], none, false⟩,
      ⟨16, .w (.append 4 32), [.t 9, .t 0], none, false⟩,
      ⟨17, .p (.mov), [.t 0], none, false⟩]
noncomputable def c10_r9 : List SOp := [⟨0, .p (.mov), [.v 5], none, false⟩,
      ⟨1, .p (.mov), [.t 0], none, false⟩,
      ⟨2, .p (.mov), [.v 9], some (0, true), false⟩,
      ⟨3, .call 23, [.t 0], some (1, true), false⟩,
      ⟨4, .p (.un .not), [.t 0], some (2, true), false⟩,
      ⟨5, .p (.pick), [.t 3, .t 0, .c (.bool false)], none, false⟩,
      ⟨6, .p (.mov), [.t 0], none, false⟩,
      ⟨7, .p (.mov), [.v 10], some (0, true), false⟩,
      ⟨8, .call 23, [.t 0], some (1, true), false⟩,
      ⟨9, .p (.un .not), [.t 0], some (2, true), false⟩,
      ⟨10, .p (.pick), [.t 3, .t 0, .c (.bool false)], none, false⟩,
      ⟨11, .p (.mov), [.t 0], none, false⟩,
      ⟨12, .p (.mov), [.v 11], some (0, true), false⟩,
      ⟨13, .call 23, [.t 0], some (1, true), false⟩,
      ⟨14, .p (.pick), [.t 2, .t 0, .c (.bool false)], none, false⟩,
      ⟨15, .p (.mov), [.t 0], none, false⟩]
noncomputable def c10 : CFn := { nargs := 4, vars := [0, 1, 2, 3, 8, 9, 10, 11, 12, 13, 14, 15], results := [.var 4], body := (.seq (.reg c10_r0 [(4, 0)]) (.seq (.reg c10_r1 [(5, 0)]) (.seq (.reg c10_r2 [(6, 0)]) (.seq (.reg c10_r3 [(7, 0)]) (.seq (.reg c10_r4 [(8, 0)]) (.seq (.reg c10_r5 [(9, 0)]) (.seq (.reg c10_r6 [(10, 0)]) (.seq (.reg c10_r7 [(10, 0)]) (.seq (.reg c10_r8 [(11, 0)]) (.seq (.reg c10_r9 [(4, 0)]) .ret)))))))))) }

/-- headstock/headstocklaw12.awake · variables 0:, 1:l, 2:m, 3:n, 4:is -/
noncomputable def c11_r0 : List SOp := [⟨0, .p (.mov), [.c (.bool false)], none, false⟩]
noncomputable def c11_r1 : List SOp := [⟨0, .p (.build [.int .i64 0, .int .i64 0, .int .i64 0, .int .i64 0] [(1, 1), (3, 1)]), [.c (.int .i64 2), .c (.int .i64 1)], none, false⟩,
      ⟨1, .p (.build [.int .i64 0, .int .i64 0, .int .i64 0, .int .i64 0] [(1, 1), (2, 1)]), [.c (.int .i64 1), .c (.int .i64 1)], none, false⟩,
      ⟨2, .p (.build [.int .i64 0, .int .i64 0, .int .i64 0, .int .i64 0] [(0, 1), (1, 1), (2, 1), (3, 1)]), [.c (.int .i64 1), .c (.int .i64 2), .c (.int .i64 1), .c (.int .i64 1)], none, false⟩,
      ⟨3, .p (.build [.int .i64 0, .int .i64 0, .int .i64 0, .int .i64 0] [(0, 1), (1, 1)]), [.c (.int .i64 1), .c (.int .i64 1)], none, false⟩,
      ⟨4, .a (.bslice [.int .i64 0, .int .i64 0, .int .i64 0, .int .i64 0, .int .i64 0, .int .i64 0, .int .i64 0, .int .i64 0, .int .i64 0, .int .i64 0, .int .i64 0, .int .i64 0, .int .i64 0, .int .i64 0, .int .i64 0, .int .i64 0] [(0, 4), (4, 4), (8, 4), (12, 4)] 4 4), [.t 3, .t 2, .t 1, .t 0], none, false⟩,
      ⟨5, .p (.mov), [.t 0], none, false⟩]
noncomputable def c11_r2 : List SOp := [⟨0, .p (.mov), [.v 1], none, false⟩,
      ⟨1, .p (.idxAddrS 4), [.t 0, .c (.int .i64 0)], none, false⟩,
      ⟨2, .r (.load true 4), [.t 0], none, false⟩,
      ⟨3, .p (.build [.int .i64 0, .int .i64 0, .int .i64 0, .int .i64 0] [(1, 1)]), [.c (.int .i64 3)], none, false⟩,
      ⟨4, .p (.mov), [.v 1], none, false⟩,
      ⟨5, .p (.idxAddrS 4), [.t 0, .c (.int .i64 1)], none, false⟩,
      ⟨6, .r (.load true 4), [.t 0], none, false⟩,
      ⟨7, .p (.mov), [.v 1], none, false⟩,
      ⟨8, .p (.idxAddrS 4), [.t 0, .c (.int .i64 2)], none, false⟩,
      ⟨9, .r (.load true 4), [.t 0], none, false⟩,
      ⟨10, .p (.build [.int .i64 0, .int .i64 0, .int .i64 0, .int .i64 0] [(0, 1), (1, 1)]), [.c (.int .i64 1), .c (.int .i64 3)], none, false⟩,
      ⟨11, .p (.mov), [.v 1], none, false⟩,
      ⟨12, .p (.idxAddrS 4), [.t 0, .c (.int .i64 3)], none, false⟩,
      ⟨13, .r (.load true 4), [.t 0], none, false⟩,
      ⟨14, .a (.bslice [.int .i64 0, .int .i64 0, .int .i64 0, .int .i64 0, .int .i64 0, .int .i64 0, .int .i64 0, .int .i64 0, .int .i64 0, .int .i64 0, .int .i64 0, .int .i64 0, .int .i64 0, .int .i64 0, .int .i64 0, .int .i64 0, .int .i64 0, .int .i64 0, .int .i64 0, .int .i64 0, .int .i64 0, .int .i64 0, .int .i64 0, .int .i64 0] [(0, 4), (4, 4), (8, 4), (12, 4), (16, 4), (20, 4)] 6 4), [.t 11, .t 10, .t 7, .t 4, .t 3, .t 0], none, false⟩,
      ⟨15, .p (.mov), [.t 0], none, false⟩]
noncomputable def c11_r3 : List SOp := [⟨0, .p (.mov), [.v 1], none, false⟩,
      ⟨1, .a (.bslice [.int .i64 0, .int .i64 0, .int .i64 0, .int .i64 0] [(0, 1), (1, 1), (2, 1), (3, 1)] 4 1), [.c (.int .i64 0), .c (.int .i64 1), .c (.int .i64 2), .c (.int .i64 3)], none, false⟩,
      ⟨2, .call 15, [.t 1, .t 0, .c (.int .i64 3)], none, false⟩,
      ⟨3, .p (.mov), [.t 0], none, false⟩,
      ⟨4, .p (.extract 0), [.t 0], none, false⟩,
      ⟨5, .p (.extract 1), [.t 1], none, false⟩,
      ⟨6, .p (.mov), [.t 1], none, false⟩,
      ⟨7, .p (.mov), [.t 1], none, false⟩]
noncomputable def c11_r4 : List SOp := [⟨0, .p (.mov), [.v 1], none, false⟩,
      ⟨1, .call 21, [.t 0], none, false⟩,
      ⟨2, .p (.mov), [.t 0], none, false⟩,
      ⟨3, .p (.mov), [.v 1], some (0, true), false⟩,
      ⟨4, .call 23, [.t 0], some (1, true), false⟩,
      ⟨5, .p (.pick), [.t 2, .t 0, .c (.bool false)], none, false⟩,
      ⟨6, .p (.mov), [.t 0], none, false⟩,
      ⟨7, .p (.mov), [.v 2], some (0, true), false⟩,
      ⟨8, .call 23, [.t 0], some (1, true), false⟩,
      ⟨9, .p (.un .not), [.t 0], some (2, true), false⟩,
      ⟨10, .p (.pick), [.t 3, .t 0, .c (.bool false)], none, false⟩,
      ⟨11, .p (.mov), [.t 0], none, false⟩,
      ⟨12, .p (.mov), [.v 1], some (0, true), false⟩,
      ⟨13, .a (.bslice [.int .i64 0, .int .i64 0, .int .i64 0, .int .i64 0] [(0, 1), (1, 1), (2, 1), (3, 1)] 4 1), [.c (.int .i64 1), .c (.int .i64 3), .c (.int .i64 0), .c (.int .i64 2)], some (1, true), false⟩,
      ⟨14, .call 19, [.t 1, .t 0], some (2, true), false⟩,
      ⟨15, .p (.pick), [.t 3, .t 0, .c (.bool false)], none, false⟩,
      ⟨16, .p (.mov), [.t 0], none, false⟩,
      ⟨17, .p (.mov), [.v 1], some (0, true), false⟩,
      ⟨18, .a (.bslice [.int .i64 0, .int .i64 0, .int .i64 0, .int .i64 0] [(0, 1), (1, 1), (2, 1), (3, 1)] 4 1), [.c (.int .i64 0), .c (.int .i64 1), .c (.int .i64 2), .c (.int .i64 3)], some (1, true), false⟩,
      ⟨19, .call 19, [.t 1, .t 0], some (2, true), false⟩,
      ⟨20, .p (.un .not), [.t 0], some (3, true), false⟩,
      ⟨21, .p (.pick), [.t 4, .t 0, .c (.bool false)], none, false⟩,
      ⟨22, .p (.mov), [.t 0], none, false⟩,
      ⟨23, .p (.mov), [.v 3], some (0, true), false⟩,
      ⟨24, .p (.bin .eql), [.t 0, .c (.int .i64 1)], some (1, true), false⟩,
      ⟨25, .p (.pick), [.t 2, .t 0, .c (.bool false)], none, false⟩,
      ⟨26, .p (.mov), [.t 0], none, false⟩,
      ⟨27, .p (.mov), [.v 4], some (0, true), false⟩,
      ⟨28, .p (.pick), [.t 1, .t 0, .c (.bool false)], none, false⟩,
      ⟨29, .p (.mov), [.t 0], none, false⟩,
      ⟨30, .p (.mov), [.v 1], some (0, true), false⟩,
      ⟨31, .call 17, [.t 0, .c (.int .i64 0), .c (.int .i64 1)], some (1, true), false⟩,
      ⟨32, .p (.un .not), [.t 0], some (2, true), false⟩,
      ⟨33, .p (.pick), [.t 3, .t 0, .c (.bool false)], none, false⟩,
      ⟨34, .p (.mov), [.t 0], none, false⟩,
      ⟨35, .p (.mov), [.v 2], some (0, true), false⟩,
      ⟨36, .call 17, [.t 0, .c (.int .i64 0), .c (.int .i64 2)], some (1, true), false⟩,
      ⟨37, .p (.pick), [.t 2, .t 0, .c (.bool false)], none, false⟩,
      ⟨38, .p (.mov), [.t 0], none, false⟩]
noncomputable def c11 : CFn := { nargs := 0, vars := [0, 1, 2, 3, 4], results := [.var 0], body := (.seq (.reg c11_r0 [(0, 0)]) (.seq (.reg c11_r1 [(1, 0)]) (.seq (.reg c11_r2 [(2, 0)]) (.seq (.reg c11_r3 [(3, 1), (4, 0)]) (.seq (.reg c11_r4 [(0, 0)]) .ret))))) }

/-- headstock/headstocklaw12.Fit · variables 0:raw, 2:, 3:out, 4:i, 5:e -/
noncomputable def c12_r0 : List SOp := [⟨0, .p (.mov), [.c (.slice none 0 0)], none, false⟩]
noncomputable def c12_r1 : List SOp := [⟨0, .p (.mov), [.c (.slice none 0 0)], none, false⟩]
noncomputable def c12_r2 : List SOp := [⟨0, .p (.mov), [.c (.int .i64 0)], none, false⟩]
noncomputable def c12_r3 : List SOp := [⟨0, .p (.mov), [.v 3], none, false⟩,
      ⟨1, .p (.mov), [.v 0], none, false⟩,
      ⟨2, .p (.lenS), [.t 0], none, false⟩,
      ⟨3, .p (.bin .lss), [.t 2, .t 0], none, false⟩,
      ⟨4, .p (.mov), [.t 0], none, false⟩,
      ⟨5, .p (.mov), [.v 3], some (0, true), false⟩,
      ⟨6, .p (.bin .lss), [.t 0, .c (.int .i64 6)], some (1, true), false⟩,
      ⟨7, .p (.pick), [.t 2, .t 0, .c (.bool false)], none, false⟩]
noncomputable def c12_r4 : List SOp := [⟨0, .p (.mov), [.v 0], none, false⟩,
      ⟨1, .p (.mov), [.v 3], none, false⟩,
      ⟨2, .p (.idxAddrS 4), [.t 1, .t 0], none, false⟩,
      ⟨3, .p (.idxAddrA 4 1), [.t 0, .c (.int .i64 1)], none, false⟩,
      ⟨4, .r (.load false 1), [.t 0], none, false⟩,
      ⟨5, .call 14, [.t 0, .c (.int .i64 3)], none, true⟩,
      ⟨6, .p (.mov), [.v 0], none, false⟩,
      ⟨7, .p (.mov), [.v 3], none, false⟩,
      ⟨8, .p (.idxAddrS 4), [.t 1, .t 0], none, false⟩,
      ⟨9, .p (.idxAddrA 4 1), [.t 0, .c (.int .i64 0)], none, false⟩,
      ⟨10, .r (.load false 1), [.t 0], none, false⟩,
      ⟨11, .call 14, [.t 0, .c (.int .i64 2)], none, true⟩,
      ⟨13, .p (.mov), [.v 0], none, false⟩,
      ⟨14, .p (.mov), [.v 3], none, false⟩,
      ⟨15, .p (.idxAddrS 4), [.t 1, .t 0], none, false⟩,
      ⟨16, .p (.idxAddrA 4 1), [.t 0, .c (.int .i64 2)], none, false⟩,
      ⟨17, .r (.load false 1), [.t 0], none, false⟩,
      ⟨18, .call 14, [.t 0, .c (.int .i64 3)], none, true⟩,
      ⟨19, .p (.mov), [.v 0], none, false⟩,
      ⟨20, .p (.mov), [.v 3], none, false⟩,
      ⟨21, .p (.idxAddrS 4), [.t 1, .t 0], none, false⟩,
      ⟨22, .p (.idxAddrA 4 1), [.t 0, .c (.int .i64 3)], none, false⟩,
      ⟨23, .r (.load false 1), [.t 0], none, false⟩,
      ⟨24, .call 14, [.t 0, .c (.int .i64 3)], none, false⟩,
      ⟨12, .p (.bin .add), [.c (.int .i64 1), .t 12], none, false⟩,
      ⟨25, .p (.build [.int .i64 0, .int .i64 0, .int .i64 0, .int .i64 0] [(0, 1), (1, 1), (2, 1), (3, 1)]), [.t 19, .t 0, .t 7, .t 1], none, false⟩,
      ⟨26, .a (.new [.int .i64 0, .int .i64 0, .int .i64 0, .int .i64 0]), [], none, false⟩,
      ⟨27, .w (.store 4), [.t 0, .t 1], none, false⟩]
noncomputable def c12_r5 : List SOp := [⟨0, .p (.mov), [.v 0], none, false⟩,
      ⟨1, .p (.mov), [.v 3], none, false⟩,
      ⟨2, .p (.idxAddrS 4), [.t 1, .t 0], none, false⟩,
      ⟨3, .p (.idxAddrA 4 1), [.t 0, .c (.int .i64 0)], none, false⟩,
      ⟨4, .r (.load false 1), [.t 0], none, false⟩,
      ⟨5, .call 14, [.t 0, .c (.int .i64 7)], none, false⟩,
      ⟨6, .p (.bin .eql), [.t 0, .c (.int .i64 6)], none, false⟩]
noncomputable def c12_r6 : List SOp := [⟨0, .p (.fieldAddr 0), [.v 4], none, false⟩,
      ⟨1, .r (.load false 1), [.t 0], none, false⟩,
      ⟨2, .p (.build [.int .i64 0, .int .i64 0, .int .i64 0, .int .i64 0] [(0, 1), (1, 1)]), [.t 0, .c (.int .i64 3)], none, false⟩,
      ⟨3, .w (.store 4), [.v 4, .t 0], none, false⟩]
noncomputable def c12_r7 : List SOp := [⟨0, .p (.mov), [.v 2], none, false⟩,
      ⟨1, .r (.load true 4), [.v 4], none, false⟩,
      ⟨2, .a (.bslice [.int .i64 0, .int .i64 0, .int .i64 0, .int .i64 0] [(0, 4)] 1 4), [.t 0], none, false⟩,
      ⟨3, .w (.append 4 32), [.t 2, .t 0], none, false⟩,
      ⟨4, .p (.mov), [.t 0], none, false⟩]
noncomputable def c12_r8 : List SOp := [⟨0, .p (.mov), [.v 3], none, false⟩,
      ⟨1, .p (.bin .add), [.t 0, .c (.int .i64 1)], none, false⟩,
      ⟨2, .p (.mov), [.t 0], none, false⟩]
noncomputable def c12_l9 : CCode := (.seq (.rcond c12_r3 [] 0
    .skip
    (.exit 0)) (.seq (.block 1 (.seq (.reg c12_r4 [(4, 1)]) (.seq (.rcond c12_r5 [] 0
    (.reg c12_r6 [])
    .skip) (.reg c12_r7 [(2, 0)])))) (.reg c12_r8 [(3, 0)])))
noncomputable def c12_r10 : List SOp := [⟨0, .p (.mov), [.v 2], none, false⟩,
      ⟨1, .p (.mov), [.t 0], none, false⟩]
noncomputable def c12 : CFn := { nargs := 1, vars := [0, 2, 3, 4, 5], results := [.var 1], body := (.seq (.reg c12_r0 [(1, 0)]) (.seq (.reg c12_r1 [(2, 0)]) (.seq (.seq (.reg c12_r2 [(3, 0)]) (.block 0 (.loop c12_l9))) (.seq (.reg c12_r10 [(1, 0)]) .ret)))) }

/-- headstock/headstocklaw12.Order · variables 0:l, 1:picks, 4:, 5:left, 6:i, 7:out, 8:n, 9:k -/
noncomputable def c13_r0 : List SOp := [⟨0, .p (.mov), [.c (.slice none 0 0)], none, false⟩]
noncomputable def c13_r1 : List SOp := [⟨0, .p (.mov), [.c (.slice none 0 0)], none, false⟩]
noncomputable def c13_r2 : List SOp := [⟨0, .p (.mov), [.c (.int .i64 0)], none, false⟩]
noncomputable def c13_r3 : List SOp := [⟨0, .p (.mov), [.v 4], none, false⟩,
      ⟨1, .p (.mov), [.v 0], none, false⟩,
      ⟨2, .p (.lenS), [.t 0], none, false⟩,
      ⟨3, .p (.bin .lss), [.t 2, .t 0], none, false⟩]
noncomputable def c13_r4 : List SOp := [⟨0, .p (.mov), [.v 0], none, false⟩,
      ⟨1, .p (.mov), [.v 4], none, false⟩,
      ⟨2, .p (.idxAddrS 4), [.t 1, .t 0], none, false⟩,
      ⟨3, .p (.fieldAddr 1), [.t 0], none, false⟩,
      ⟨4, .r (.load false 1), [.t 0], none, false⟩,
      ⟨5, .p (.bin .neq), [.t 0, .c (.int .i64 3)], none, false⟩]
noncomputable def c13_r5 : List SOp := [⟨0, .p (.mov), [.v 3], none, false⟩,
      ⟨1, .p (.mov), [.v 4], none, false⟩,
      ⟨2, .a (.bslice [.int .i64 0] [(0, 1)] 1 1), [.t 0], none, false⟩,
      ⟨3, .w (.append 1 8), [.t 2, .t 0], none, false⟩,
      ⟨4, .p (.mov), [.t 0], none, false⟩]
noncomputable def c13_r6 : List SOp := [⟨0, .p (.mov), [.v 4], none, false⟩,
      ⟨1, .p (.bin .add), [.t 0, .c (.int .i64 1)], none, false⟩,
      ⟨2, .p (.mov), [.t 0], none, false⟩]
noncomputable def c13_l7 : CCode := (.seq (.rcond c13_r3 [] 0
    .skip
    (.exit 0)) (.seq (.block 1 (.rcond c13_r4 [] 0
    (.reg c13_r5 [(3, 0)])
    .skip)) (.reg c13_r6 [(4, 0)])))
noncomputable def c13_r8 : List SOp := [⟨0, .p (.mov), [.c (.slice none 0 0)], none, false⟩]
noncomputable def c13_r9 : List SOp := [⟨0, .p (.mov), [.c (.int .i64 0)], none, false⟩]
noncomputable def c13_r10 : List SOp := [⟨0, .p (.mov), [.v 3], none, false⟩,
      ⟨1, .p (.lenS), [.t 0], none, false⟩,
      ⟨2, .p (.bin .gtr), [.t 0, .c (.int .i64 0)], none, false⟩]
noncomputable def c13_r11 : List SOp := [⟨0, .p (.mov), [.c (.int .i64 0)], none, false⟩]
noncomputable def c13_r12 : List SOp := [⟨0, .p (.mov), [.v 6], none, false⟩,
      ⟨1, .p (.mov), [.v 1], none, false⟩,
      ⟨2, .p (.lenS), [.t 0], none, false⟩,
      ⟨3, .p (.bin .lss), [.t 2, .t 0], none, false⟩]
noncomputable def c13_r13 : List SOp := [⟨0, .p (.mov), [.v 1], none, false⟩,
      ⟨1, .p (.mov), [.v 6], none, false⟩,
      ⟨2, .p (.idxAddrS 1), [.t 1, .t 0], none, false⟩,
      ⟨3, .r (.load false 1), [.t 0], none, false⟩,
      ⟨4, .p (.mov), [.v 3], none, false⟩,
      ⟨5, .p (.lenS), [.t 0], none, false⟩,
      ⟨6, .call 14, [.t 2, .t 0], none, false⟩,
      ⟨7, .p (.mov), [.t 0], none, false⟩]
noncomputable def c13_r14 : List SOp := [⟨0, .p (.mov), [.v 5], none, false⟩,
      ⟨1, .p (.mov), [.v 3], none, false⟩,
      ⟨2, .p (.mov), [.v 7], none, false⟩,
      ⟨3, .p (.idxAddrS 1), [.t 1, .t 0], none, false⟩,
      ⟨4, .r (.load false 1), [.t 0], none, false⟩,
      ⟨5, .a (.bslice [.int .i64 0] [(0, 1)] 1 1), [.t 0], none, false⟩,
      ⟨6, .w (.append 1 8), [.t 5, .t 0], none, false⟩,
      ⟨7, .p (.mov), [.t 0], none, false⟩]
noncomputable def c13_r15 : List SOp := [⟨0, .p (.mov), [.v 3], none, false⟩,
      ⟨1, .p (.mov), [.v 7], none, false⟩,
      ⟨2, .p (.sliceS 1 false true), [.t 1, .t 0], none, false⟩,
      ⟨3, .w (.append 1 8), [.c (.slice none 0 0), .t 0], none, false⟩,
      ⟨4, .p (.mov), [.v 3], none, false⟩,
      ⟨5, .p (.mov), [.v 7], none, false⟩,
      ⟨6, .p (.bin .add), [.t 0, .c (.int .i64 1)], none, false⟩,
      ⟨7, .p (.sliceS 1 true false), [.t 2, .t 0], none, false⟩,
      ⟨8, .w (.append 1 8), [.t 4, .t 0], none, false⟩,
      ⟨9, .p (.mov), [.t 0], none, false⟩]
noncomputable def c13_r16 : List SOp := [⟨0, .p (.mov), [.v 6], none, false⟩,
      ⟨1, .p (.bin .add), [.t 0, .c (.int .i64 1)], none, false⟩,
      ⟨2, .p (.mov), [.t 0], none, false⟩]
noncomputable def c13_l17 : CCode := (.seq (.rcond c13_r10 [] 0
    .skip
    (.exit 2)) (.seq (.block 3 (.seq (.reg c13_r11 [(7, 0)]) (.seq (.rcond c13_r12 [] 0
    (.reg c13_r13 [(7, 0)])
    .skip) (.seq (.reg c13_r14 [(5, 0)]) (.reg c13_r15 [(3, 0)]))))) (.reg c13_r16 [(6, 0)])))
noncomputable def c13_r18 : List SOp := [⟨0, .p (.mov), [.v 5], none, false⟩,
      ⟨1, .p (.mov), [.t 0], none, false⟩]
noncomputable def c13 : CFn := { nargs := 2, vars := [0, 1, 4, 5, 6, 7, 8, 9], results := [.var 2], body := (.seq (.reg c13_r0 [(2, 0)]) (.seq (.reg c13_r1 [(3, 0)]) (.seq (.seq (.reg c13_r2 [(4, 0)]) (.block 0 (.loop c13_l7))) (.seq (.reg c13_r8 [(5, 0)]) (.seq (.seq (.reg c13_r9 [(6, 0)]) (.block 2 (.loop c13_l17))) (.seq (.reg c13_r18 [(2, 0)]) .ret)))))) }

/-- headstock/headstocklaw12.pick · variables 0:c, 1:n, 4: -/
noncomputable def c14_r0 : List SOp := [⟨0, .p (.mov), [.c (.int .i64 0)], none, false⟩]
noncomputable def c14_r1 : List SOp := [⟨0, .p (.mov), [.v 0], none, false⟩,
      ⟨1, .p (.bin .lss), [.t 0, .c (.int .i64 0)], none, false⟩]
noncomputable def c14_r2 : List SOp := [⟨0, .p (.mov), [.v 0], none, false⟩,
      ⟨1, .p (.bin .add), [.t 0, .c (.int .i64 1)], none, false⟩,
      ⟨2, .p (.un .neg), [.t 0], none, false⟩,
      ⟨3, .p (.mov), [.t 0], none, false⟩]
noncomputable def c14_r3 : List SOp := [⟨0, .p (.mov), [.v 0], none, false⟩,
      ⟨1, .p (.mov), [.v 1], none, false⟩,
      ⟨2, .p (.bin .rem), [.t 1, .t 0], none, false⟩,
      ⟨3, .p (.mov), [.t 0], none, false⟩]
noncomputable def c14 : CFn := { nargs := 2, vars := [0, 1, 4], results := [.var 2], body := (.seq (.reg c14_r0 [(2, 0)]) (.seq (.rcond c14_r1 [] 0
    (.reg c14_r2 [(0, 0)])
    .skip) (.seq (.reg c14_r3 [(2, 0)]) .ret))) }

/-- headstock/axiom.Value · variables 0:l, 1:order, 2:i, 6:, 7: -/
noncomputable def c15_r0 : List SOp := [⟨0, .p (.mov), [.c (.int .i64 0)], none, false⟩,
      ⟨1, .p (.mov), [.c (.bool false)], none, false⟩]
noncomputable def c15_r1 : List SOp := [⟨0, .p (.mov), [.v 0], none, false⟩,
      ⟨1, .call 21, [.t 0], none, false⟩,
      ⟨2, .p (.un .not), [.t 0], none, false⟩,
      ⟨3, .p (.mov), [.t 0], none, false⟩,
      ⟨4, .p (.mov), [.v 0], some (0, false), false⟩,
      ⟨5, .p (.mov), [.v 1], some (1, false), false⟩,
      ⟨6, .call 26, [.t 1, .t 0], some (2, false), false⟩,
      ⟨7, .p (.un .not), [.t 0], some (3, false), false⟩,
      ⟨8, .p (.pick), [.t 4, .c (.bool true), .t 0], none, false⟩,
      ⟨9, .p (.mov), [.t 0], none, false⟩,
      ⟨10, .p (.mov), [.v 2], some (0, false), false⟩,
      ⟨11, .p (.bin .lss), [.t 0, .c (.int .i64 0)], some (1, false), false⟩,
      ⟨12, .p (.pick), [.t 2, .c (.bool true), .t 0], none, false⟩,
      ⟨13, .p (.mov), [.t 0], none, false⟩,
      ⟨14, .p (.mov), [.v 2], some (0, false), false⟩,
      ⟨15, .p (.mov), [.v 0], some (1, false), false⟩,
      ⟨16, .p (.lenS), [.t 0], some (2, false), false⟩,
      ⟨17, .p (.bin .geq), [.t 2, .t 0], some (3, false), false⟩,
      ⟨18, .p (.pick), [.t 4, .c (.bool true), .t 0], none, false⟩,
      ⟨19, .p (.mov), [.t 0], none, false⟩,
      ⟨20, .p (.mov), [.v 0], some (0, false), false⟩,
      ⟨21, .p (.mov), [.v 2], some (1, false), false⟩,
      ⟨22, .p (.idxAddrS 4), [.t 1, .t 0], some (2, false), false⟩,
      ⟨23, .p (.fieldAddr 1), [.t 0], some (3, false), false⟩,
      ⟨24, .r (.load false 1), [.t 0], some (4, false), false⟩,
      ⟨25, .p (.bin .neq), [.t 0, .c (.int .i64 1)], some (5, false), false⟩,
      ⟨26, .p (.pick), [.t 6, .c (.bool true), .t 0], none, false⟩]
noncomputable def c15_r2 : List SOp := [⟨0, .p (.mov), [.c (.int .i64 0)], none, false⟩,
      ⟨1, .p (.mov), [.c (.bool false)], none, false⟩]
noncomputable def c15_r3 : List SOp := [⟨0, .p (.mov), [.v 0], none, false⟩,
      ⟨1, .p (.mov), [.v 1], none, false⟩,
      ⟨2, .p (.mov), [.v 2], none, false⟩,
      ⟨3, .call 27, [.t 2, .t 1, .t 0], none, false⟩,
      ⟨4, .p (.mov), [.t 0], none, false⟩,
      ⟨5, .p (.mov), [.c (.bool true)], none, false⟩]
noncomputable def c15 : CFn := { nargs := 3, vars := [0, 1, 2, 6, 7], results := [.var 3, .var 4], body := (.seq (.reg c15_r0 [(3, 1), (4, 0)]) (.seq (.rcond c15_r1 [] 0
    (.seq (.reg c15_r2 [(3, 1), (4, 0)]) .ret)
    .skip) (.seq (.reg c15_r3 [(3, 1), (4, 0)]) .ret))) }

/-- headstock/headstockref12.Value · variables 0:l, 1:order, 2:i, 6:, 7:, 8:ok, 9:one, 10:here -/
noncomputable def c16_r0 : List SOp := [⟨0, .p (.mov), [.c (.int .i64 0)], none, false⟩,
      ⟨1, .p (.mov), [.c (.bool false)], none, false⟩]
noncomputable def c16_r1 : List SOp := [⟨0, .p (.mov), [.v 0], none, false⟩,
      ⟨1, .call 22, [.t 0], none, false⟩,
      ⟨2, .p (.mov), [.t 0], none, false⟩]
noncomputable def c16_r2 : List SOp := [⟨0, .p (.mov), [.v 0], none, false⟩,
      ⟨1, .p (.mov), [.v 1], none, false⟩,
      ⟨2, .call 28, [.t 1, .t 0], none, false⟩,
      ⟨3, .p (.mov), [.t 0], none, false⟩]
noncomputable def c16_r3 : List SOp := [⟨0, .p (.mov), [.v 0], none, false⟩,
      ⟨1, .p (.mov), [.v 2], none, false⟩,
      ⟨2, .call 29, [.t 1, .t 0], none, false⟩,
      ⟨3, .p (.mov), [.t 0], none, false⟩]
noncomputable def c16_r4 : List SOp := [⟨0, .p (.mov), [.v 5], none, false⟩,
      ⟨1, .p (.un .not), [.t 0], none, false⟩,
      ⟨2, .p (.mov), [.t 0], none, false⟩,
      ⟨3, .p (.mov), [.v 6], some (0, false), false⟩,
      ⟨4, .p (.un .not), [.t 0], some (1, false), false⟩,
      ⟨5, .p (.pick), [.t 2, .c (.bool true), .t 0], none, false⟩,
      ⟨6, .p (.mov), [.t 0], none, false⟩,
      ⟨7, .p (.mov), [.v 7], some (0, false), false⟩,
      ⟨8, .p (.un .not), [.t 0], some (1, false), false⟩,
      ⟨9, .p (.pick), [.t 2, .c (.bool true), .t 0], none, false⟩,
      ⟨10, .p (.mov), [.t 0], none, false⟩,
      ⟨11, .p (.mov), [.v 0], some (0, false), false⟩,
      ⟨12, .p (.mov), [.v 2], some (1, false), false⟩,
      ⟨13, .p (.idxAddrS 4), [.t 1, .t 0], some (2, false), false⟩,
      ⟨14, .p (.fieldAddr 1), [.t 0], some (3, false), false⟩,
      ⟨15, .r (.load false 1), [.t 0], some (4, false), false⟩,
      ⟨16, .p (.bin .neq), [.t 0, .c (.int .i64 1)], some (5, false), false⟩,
      ⟨17, .p (.pick), [.t 6, .c (.bool true), .t 0], none, false⟩]
noncomputable def c16_r5 : List SOp := [⟨0, .p (.mov), [.c (.int .i64 0)], none, false⟩,
      ⟨1, .p (.mov), [.c (.bool false)], none, false⟩]
noncomputable def c16_r6 : List SOp := [⟨0, .p (.mov), [.v 0], none, false⟩,
      ⟨1, .p (.mov), [.v 1], none, false⟩,
      ⟨2, .p (.mov), [.v 2], none, false⟩,
      ⟨3, .call 30, [.t 2, .t 1, .t 0], none, false⟩,
      ⟨4, .p (.mov), [.t 0], none, false⟩,
      ⟨5, .p (.mov), [.c (.bool true)], none, false⟩]
noncomputable def c16 : CFn := { nargs := 3, vars := [0, 1, 2, 6, 7, 8, 9, 10], results := [.var 3, .var 4], body := (.seq (.reg c16_r0 [(3, 1), (4, 0)]) (.seq (.reg c16_r1 [(5, 0)]) (.seq (.reg c16_r2 [(6, 0)]) (.seq (.reg c16_r3 [(7, 0)]) (.seq (.rcond c16_r4 [] 0
    (.seq (.reg c16_r5 [(3, 1), (4, 0)]) .ret)
    .skip) (.seq (.reg c16_r6 [(3, 1), (4, 0)]) .ret)))))) }

/-- headstock/axiom.Keeps · variables 0:l, 1:i, 2:k, 6:, 7:n -/
noncomputable def c17_r0 : List SOp := [⟨0, .p (.mov), [.c (.bool false)], none, false⟩]
noncomputable def c17_r1 : List SOp := [⟨0, .p (.mov), [.v 0], none, false⟩,
      ⟨1, .p (.lenS), [.t 0], none, false⟩,
      ⟨2, .p (.mov), [.t 0], none, false⟩]
noncomputable def c17_r2 : List SOp := [⟨0, .p (.mov), [.v 0], none, false⟩,
      ⟨1, .call 21, [.t 0], none, false⟩,
      ⟨2, .p (.mov), [.t 0], none, false⟩,
      ⟨3, .p (.mov), [.v 1], some (0, true), false⟩,
      ⟨4, .p (.bin .geq), [.t 0, .c (.int .i64 0)], some (1, true), false⟩,
      ⟨5, .p (.pick), [.t 2, .t 0, .c (.bool false)], none, false⟩,
      ⟨6, .p (.mov), [.t 0], none, false⟩,
      ⟨7, .p (.mov), [.v 1], some (0, true), false⟩,
      ⟨8, .p (.mov), [.v 4], some (1, true), false⟩,
      ⟨9, .p (.bin .lss), [.t 1, .t 0], some (2, true), false⟩,
      ⟨10, .p (.pick), [.t 3, .t 0, .c (.bool false)], none, false⟩,
      ⟨11, .p (.mov), [.t 0], none, false⟩,
      ⟨12, .p (.mov), [.v 2], some (0, true), false⟩,
      ⟨13, .p (.bin .geq), [.t 0, .c (.int .i64 0)], some (1, true), false⟩,
      ⟨14, .p (.pick), [.t 2, .t 0, .c (.bool false)], none, false⟩,
      ⟨15, .p (.mov), [.t 0], none, false⟩,
      ⟨16, .p (.mov), [.v 2], some (0, true), false⟩,
      ⟨17, .p (.mov), [.v 4], some (1, true), false⟩,
      ⟨18, .p (.bin .lss), [.t 1, .t 0], some (2, true), false⟩,
      ⟨19, .p (.pick), [.t 3, .t 0, .c (.bool false)], none, false⟩,
      ⟨20, .p (.mov), [.t 0], none, false⟩,
      ⟨21, .p (.mov), [.v 0], some (0, true), false⟩,
      ⟨22, .p (.mov), [.v 1], some (1, true), false⟩,
      ⟨23, .p (.idxAddrS 4), [.t 1, .t 0], some (2, true), false⟩,
      ⟨24, .r (.load true 4), [.t 0], some (3, true), false⟩,
      ⟨25, .call 31, [.t 0], some (4, true), false⟩,
      ⟨26, .p (.pick), [.t 5, .t 0, .c (.bool false)], none, false⟩,
      ⟨27, .p (.mov), [.t 0], none, false⟩,
      ⟨28, .p (.mov), [.v 0], some (0, true), false⟩,
      ⟨29, .p (.mov), [.v 2], some (1, true), false⟩,
      ⟨30, .p (.idxAddrS 4), [.t 1, .t 0], some (2, true), false⟩,
      ⟨31, .r (.load true 4), [.t 0], some (3, true), false⟩,
      ⟨32, .call 31, [.t 0], some (4, true), false⟩,
      ⟨33, .p (.pick), [.t 5, .t 0, .c (.bool false)], none, false⟩,
      ⟨34, .p (.mov), [.t 0], none, false⟩,
      ⟨35, .p (.mov), [.v 0], some (0, true), false⟩,
      ⟨36, .p (.mov), [.v 1], some (1, true), false⟩,
      ⟨37, .p (.mov), [.v 2], some (2, true), false⟩,
      ⟨38, .call 32, [.t 2, .t 1, .t 0], some (3, true), false⟩,
      ⟨39, .p (.pick), [.t 4, .t 0, .c (.bool false)], none, false⟩,
      ⟨40, .p (.mov), [.t 0], none, false⟩]
noncomputable def c17 : CFn := { nargs := 3, vars := [0, 1, 2, 6, 7], results := [.var 3], body := (.seq (.reg c17_r0 [(3, 0)]) (.seq (.reg c17_r1 [(4, 0)]) (.seq (.reg c17_r2 [(3, 0)]) .ret))) }

/-- headstock/headstockref12.Keeps · variables 0:l, 1:i, 2:k, 6:, 7:ok, 8:one, 9:two, 10:j -/
noncomputable def c18_r0 : List SOp := [⟨0, .p (.mov), [.c (.bool false)], none, false⟩]
noncomputable def c18_r1 : List SOp := [⟨0, .p (.mov), [.v 0], none, false⟩,
      ⟨1, .call 22, [.t 0], none, false⟩,
      ⟨2, .p (.mov), [.t 0], none, false⟩]
noncomputable def c18_r2 : List SOp := [⟨0, .p (.mov), [.v 0], none, false⟩,
      ⟨1, .p (.mov), [.v 1], none, false⟩,
      ⟨2, .call 29, [.t 1, .t 0], none, false⟩,
      ⟨3, .p (.mov), [.t 0], none, false⟩]
noncomputable def c18_r3 : List SOp := [⟨0, .p (.mov), [.v 0], none, false⟩,
      ⟨1, .p (.mov), [.v 2], none, false⟩,
      ⟨2, .call 29, [.t 1, .t 0], none, false⟩,
      ⟨3, .p (.mov), [.t 0], none, false⟩]
noncomputable def c18_r4 : List SOp := [⟨0, .p (.mov), [.v 4], none, false⟩,
      ⟨1, .p (.un .not), [.t 0], none, false⟩,
      ⟨2, .p (.mov), [.t 0], none, false⟩,
      ⟨3, .p (.mov), [.v 5], some (0, false), false⟩,
      ⟨4, .p (.un .not), [.t 0], some (1, false), false⟩,
      ⟨5, .p (.pick), [.t 2, .c (.bool true), .t 0], none, false⟩,
      ⟨6, .p (.mov), [.t 0], none, false⟩,
      ⟨7, .p (.mov), [.v 6], some (0, false), false⟩,
      ⟨8, .p (.un .not), [.t 0], some (1, false), false⟩,
      ⟨9, .p (.pick), [.t 2, .c (.bool true), .t 0], none, false⟩,
      ⟨10, .p (.mov), [.t 0], none, false⟩,
      ⟨11, .p (.mov), [.v 0], some (0, false), false⟩,
      ⟨12, .p (.mov), [.v 1], some (1, false), false⟩,
      ⟨13, .p (.mov), [.v 2], some (2, false), false⟩,
      ⟨14, .call 33, [.t 2, .t 1, .t 0], some (3, false), false⟩,
      ⟨15, .p (.un .not), [.t 0], some (4, false), false⟩,
      ⟨16, .p (.pick), [.t 5, .c (.bool true), .t 0], none, false⟩]
noncomputable def c18_r5 : List SOp := [⟨0, .p (.mov), [.c (.bool false)], none, false⟩]
noncomputable def c18_r6 : List SOp := [⟨0, .p (.mov), [.v 0], none, false⟩,
      ⟨1, .p (.mov), [.v 1], none, false⟩,
      ⟨2, .p (.idxAddrS 4), [.t 1, .t 0], none, false⟩,
      ⟨3, .p (.fieldAddr 1), [.t 0], none, false⟩,
      ⟨4, .r (.load false 1), [.t 0], none, false⟩,
      ⟨5, .p (.bin .eql), [.t 0, .c (.int .i64 1)], none, false⟩,
      ⟨6, .p (.mov), [.t 0], none, false⟩,
      ⟨7, .p (.mov), [.v 0], some (0, false), false⟩,
      ⟨8, .p (.mov), [.v 2], some (1, false), false⟩,
      ⟨9, .p (.idxAddrS 4), [.t 1, .t 0], some (2, false), false⟩,
      ⟨10, .p (.fieldAddr 1), [.t 0], some (3, false), false⟩,
      ⟨11, .r (.load false 1), [.t 0], some (4, false), false⟩,
      ⟨12, .p (.bin .eql), [.t 0, .c (.int .i64 2)], some (5, false), false⟩,
      ⟨13, .p (.mov), [.t 0], some (6, false), false⟩,
      ⟨14, .p (.mov), [.v 0], some (0, true), false⟩,
      ⟨15, .p (.mov), [.v 1], some (1, true), false⟩,
      ⟨16, .p (.idxAddrS 4), [.t 1, .t 0], some (2, true), false⟩,
      ⟨17, .p (.fieldAddr 2), [.t 0], some (3, true), false⟩,
      ⟨18, .r (.load false 1), [.t 0], some (4, true), false⟩,
      ⟨19, .p (.mov), [.v 0], some (5, true), false⟩,
      ⟨20, .p (.mov), [.v 2], some (6, true), false⟩,
      ⟨21, .p (.idxAddrS 4), [.t 1, .t 0], some (7, true), false⟩,
      ⟨22, .p (.fieldAddr 2), [.t 0], some (8, true), false⟩,
      ⟨23, .r (.load false 1), [.t 0], some (9, true), false⟩,
      ⟨24, .p (.bin .eql), [.t 5, .t 0], some (10, true), false⟩,
      ⟨25, .p (.pick), [.t 11, .t 0, .c (.bool false)], some (18, false), false⟩,
      ⟨26, .p (.pick), [.t 19, .c (.bool true), .t 0], none, false⟩]
noncomputable def c18_r7 : List SOp := [⟨0, .p (.mov), [.c (.bool true)], none, false⟩]
noncomputable def c18_r8 : List SOp := [⟨0, .p (.mov), [.v 1], none, false⟩,
      ⟨1, .p (.bin .add), [.t 0, .c (.int .i64 1)], none, false⟩,
      ⟨2, .p (.mov), [.t 0], none, false⟩]
noncomputable def c18_r9 : List SOp := [⟨0, .p (.mov), [.v 7], none, false⟩,
      ⟨1, .p (.mov), [.v 2], none, false⟩,
      ⟨2, .p (.bin .lss), [.t 1, .t 0], none, false⟩]
noncomputable def c18_r10 : List SOp := [⟨0, .p (.mov), [.v 0], none, false⟩,
      ⟨1, .p (.mov), [.v 7], none, false⟩,
      ⟨2, .p (.idxAddrS 4), [.t 1, .t 0], none, false⟩,
      ⟨3, .p (.fieldAddr 1), [.t 0], none, false⟩,
      ⟨4, .r (.load false 1), [.t 0], none, false⟩,
      ⟨5, .p (.bin .eql), [.t 0, .c (.int .i64 3)], none, false⟩,
      ⟨6, .p (.mov), [.t 0], none, false⟩,
      ⟨7, .p (.mov), [.v 0], some (0, true), false⟩,
      ⟨8, .p (.mov), [.v 7], some (1, true), false⟩,
      ⟨9, .p (.idxAddrS 4), [.t 1, .t 0], some (2, true), false⟩,
      ⟨10, .p (.fieldAddr 0), [.t 0], some (3, true), false⟩,
      ⟨11, .r (.load false 1), [.t 0], some (4, true), false⟩,
      ⟨12, .p (.mov), [.v 0], some (5, true), false⟩,
      ⟨13, .p (.mov), [.v 1], some (6, true), false⟩,
      ⟨14, .p (.idxAddrS 4), [.t 1, .t 0], some (7, true), false⟩,
      ⟨15, .p (.fieldAddr 0), [.t 0], some (8, true), false⟩,
      ⟨16, .r (.load false 1), [.t 0], some (9, true), false⟩,
      ⟨17, .p (.bin .eql), [.t 5, .t 0], some (10, true), false⟩,
      ⟨18, .p (.pick), [.t 11, .t 0, .c (.bool false)], none, false⟩]
noncomputable def c18_r11 : List SOp := [⟨0, .p (.mov), [.c (.bool true)], none, false⟩]
noncomputable def c18_r12 : List SOp := [⟨0, .p (.mov), [.v 7], none, false⟩,
      ⟨1, .p (.bin .add), [.t 0, .c (.int .i64 1)], none, false⟩,
      ⟨2, .p (.mov), [.t 0], none, false⟩]
noncomputable def c18_l13 : CCode := (.seq (.rcond c18_r9 [] 0
    .skip
    (.exit 0)) (.seq (.block 1 (.rcond c18_r10 [] 0
    (.seq (.reg c18_r11 [(3, 0)]) .ret)
    .skip)) (.reg c18_r12 [(7, 0)])))
noncomputable def c18_r14 : List SOp := [⟨0, .p (.mov), [.c (.bool false)], none, false⟩]
noncomputable def c18 : CFn := { nargs := 3, vars := [0, 1, 2, 6, 7, 8, 9, 10], results := [.var 3], body := (.seq (.reg c18_r0 [(3, 0)]) (.seq (.reg c18_r1 [(4, 0)]) (.seq (.reg c18_r2 [(5, 0)]) (.seq (.reg c18_r3 [(6, 0)]) (.seq (.rcond c18_r4 [] 0
    (.seq (.reg c18_r5 [(3, 0)]) .ret)
    .skip) (.seq (.rcond c18_r6 [] 0
    (.seq (.reg c18_r7 [(3, 0)]) .ret)
    .skip) (.seq (.seq (.reg c18_r8 [(7, 0)]) (.block 0 (.loop c18_l13))) (.seq (.reg c18_r14 [(3, 0)]) .ret)))))))) }

/-- headstock/axiom.Holds · variables 0:l, 1:order, 2:l, 4:, 5:a, 6:i, 16:, 17:, 18:, 19: -/
noncomputable def c19_r0 : List SOp := [⟨0, .a .box, [.v 0], none, false⟩,
      ⟨1, .p (.mov), [.c (.bool false)], none, false⟩]
noncomputable def c19_r1 : List SOp := [⟨0, .r (.load false 1), [.v 2], none, false⟩,
      ⟨1, .call 21, [.t 0], none, false⟩,
      ⟨2, .p (.un .not), [.t 0], none, false⟩,
      ⟨3, .p (.mov), [.t 0], none, false⟩,
      ⟨4, .r (.load false 1), [.v 2], some (0, false), false⟩,
      ⟨5, .p (.mov), [.v 1], some (1, false), false⟩,
      ⟨6, .call 26, [.t 1, .t 0], some (2, false), false⟩,
      ⟨7, .p (.un .not), [.t 0], some (3, false), false⟩,
      ⟨8, .p (.pick), [.t 4, .c (.bool true), .t 0], none, false⟩]
noncomputable def c19_r2 : List SOp := [⟨0, .p (.mov), [.c (.bool false)], none, false⟩]
noncomputable def c19_r3 : List SOp := [⟨0, .p (.mov), [.v 1], none, false⟩,
      ⟨1, .p (.lenS), [.t 0], none, false⟩,
      ⟨2, .p (.mov), [.c (.int .i64 0)], none, false⟩]
noncomputable def c19_r4 : List SOp := [⟨0, .p (.bin .lss), [.v 8, .v 7], none, false⟩]
noncomputable def c19_r5 : List SOp := [⟨0, .p (.mov), [.v 8], none, false⟩,
      ⟨1, .p (.idxAddrS 1), [.v 6, .v 8], none, false⟩,
      ⟨2, .r (.load false 1), [.t 0], none, false⟩,
      ⟨3, .a (.new [.int .i64 0]), [], none, false⟩,
      ⟨4, .p (.mov), [.t 3], none, false⟩,
      ⟨5, .w (.store 1), [.t 1, .t 2], none, false⟩]
noncomputable def c19_r6 : List SOp := [⟨0, .p (.mov), [.v 1], none, false⟩,
      ⟨1, .p (.mov), [.v 4], none, false⟩,
      ⟨2, .p (.sliceS 1 false true), [.t 1, .t 0], none, false⟩,
      ⟨3, .p (.mkFunc 35 0), [.v 2, .v 5], none, false⟩,
      ⟨4, .call 34, [.t 1, .t 0], none, false⟩]
noncomputable def c19_r7 : List SOp := [⟨0, .p (.mov), [.c (.bool false)], none, false⟩]
noncomputable def c19_r8 : List SOp := [⟨0, .r (.load false 1), [.v 2], none, false⟩,
      ⟨1, .r (.load false 1), [.v 5], none, false⟩,
      ⟨2, .p (.idxAddrS 4), [.t 1, .t 0], none, false⟩,
      ⟨3, .p (.fieldAddr 1), [.t 0], none, false⟩,
      ⟨4, .r (.load false 1), [.t 0], none, false⟩,
      ⟨5, .p (.bin .eql), [.t 0, .c (.int .i64 1)], none, false⟩,
      ⟨6, .p (.mov), [.t 0], none, false⟩,
      ⟨7, .r (.load false 1), [.v 2], some (0, true), false⟩,
      ⟨8, .p (.mov), [.v 1], some (1, true), false⟩,
      ⟨9, .r (.load false 1), [.v 5], some (2, true), false⟩,
      ⟨10, .call 27, [.t 2, .t 1, .t 0], some (3, true), true⟩,
      ⟨11, .r (.load false 1), [.v 2], some (4, true), false⟩,
      ⟨12, .r (.load false 1), [.v 5], some (5, true), false⟩,
      ⟨13, .p (.idxAddrS 4), [.t 1, .t 0], some (6, true), false⟩,
      ⟨14, .p (.fieldAddr 3), [.t 0], some (7, true), false⟩,
      ⟨15, .r (.load false 1), [.t 0], some (8, true), false⟩,
      ⟨16, .p (.bin .neq), [.t 5, .t 0], some (9, true), false⟩,
      ⟨17, .p (.pick), [.t 10, .t 0, .c (.bool false)], none, false⟩]
noncomputable def c19_r9 : List SOp := [⟨0, .p (.mov), [.c (.bool false)], none, false⟩]
noncomputable def c19_r10 : List SOp := [⟨0, .p (.bin .add), [.v 8, .c (.int .i64 1)], none, false⟩,
      ⟨1, .p (.mov), [.t 0], none, false⟩]
noncomputable def c19_l11 : CCode := (.seq (.reg c19_r4 [(9, 0)]) (.seq (.cond (.v 9) .skip (.exit 0)) (.seq (.block 1 (.seq (.reg c19_r5 [(4, 1), (5, 2)]) (.seq (.rcond c19_r6 [] 0
    (.seq (.reg c19_r7 [(3, 0)]) .ret)
    .skip) (.rcond c19_r8 [] 0
    (.seq (.reg c19_r9 [(3, 0)]) .ret)
    .skip)))) (.reg c19_r10 [(8, 0)]))))
noncomputable def c19_r12 : List SOp := [⟨0, .p (.mov), [.c (.bool true)], none, false⟩]
noncomputable def c19 : CFn := { nargs := 2, vars := [0, 1, 2, 4, 5, 6, 16, 17, 18, 19], results := [.var 3], body := (.seq (.reg c19_r0 [(2, 1), (3, 0)]) (.seq (.rcond c19_r1 [] 0
    (.seq (.reg c19_r2 [(3, 0)]) .ret)
    .skip) (.seq (.seq (.reg c19_r3 [(6, 2), (7, 1), (8, 0)]) (.block 0 (.loop c19_l11))) (.seq (.reg c19_r12 [(3, 0)]) .ret)))) }

/-- headstock/headstockref12.Holds · variables 0:l, 1:order, 4:, 5:ok, 6:one, 7:a, 8:i, 9:b, 10:must -/
noncomputable def c20_r0 : List SOp := [⟨0, .p (.mov), [.c (.bool false)], none, false⟩]
noncomputable def c20_r1 : List SOp := [⟨0, .p (.mov), [.v 0], none, false⟩,
      ⟨1, .call 22, [.t 0], none, false⟩,
      ⟨2, .p (.mov), [.t 0], none, false⟩]
noncomputable def c20_r2 : List SOp := [⟨0, .p (.mov), [.v 0], none, false⟩,
      ⟨1, .p (.mov), [.v 1], none, false⟩,
      ⟨2, .call 28, [.t 1, .t 0], none, false⟩,
      ⟨3, .p (.mov), [.t 0], none, false⟩]
noncomputable def c20_r3 : List SOp := [⟨0, .p (.mov), [.v 3], none, false⟩,
      ⟨1, .p (.un .not), [.t 0], none, false⟩,
      ⟨2, .p (.mov), [.t 0], none, false⟩,
      ⟨3, .p (.mov), [.v 4], some (0, false), false⟩,
      ⟨4, .p (.un .not), [.t 0], some (1, false), false⟩,
      ⟨5, .p (.pick), [.t 2, .c (.bool true), .t 0], none, false⟩]
noncomputable def c20_r4 : List SOp := [⟨0, .p (.mov), [.c (.bool false)], none, false⟩]
noncomputable def c20_r5 : List SOp := [⟨0, .p (.mov), [.c (.int .i64 0)], none, false⟩]
noncomputable def c20_r6 : List SOp := [⟨0, .p (.mov), [.v 5], none, false⟩,
      ⟨1, .p (.mov), [.v 1], none, false⟩,
      ⟨2, .p (.lenS), [.t 0], none, false⟩,
      ⟨3, .p (.bin .lss), [.t 2, .t 0], none, false⟩]
noncomputable def c20_r7 : List SOp := [⟨0, .p (.mov), [.v 1], none, false⟩,
      ⟨1, .p (.mov), [.v 5], none, false⟩,
      ⟨2, .p (.idxAddrS 1), [.t 1, .t 0], none, false⟩,
      ⟨3, .r (.load false 1), [.t 0], none, false⟩,
      ⟨4, .p (.mov), [.t 0], none, false⟩]
noncomputable def c20_r8 : List SOp := [⟨0, .p (.mov), [.c (.int .i64 0)], none, false⟩]
noncomputable def c20_r9 : List SOp := [⟨0, .p (.mov), [.v 7], none, false⟩,
      ⟨1, .p (.mov), [.v 5], none, false⟩,
      ⟨2, .p (.bin .lss), [.t 1, .t 0], none, false⟩]
noncomputable def c20_r10 : List SOp := [⟨0, .p (.mov), [.v 0], none, false⟩,
      ⟨1, .p (.mov), [.v 6], none, false⟩,
      ⟨2, .p (.mov), [.v 1], none, false⟩,
      ⟨3, .p (.mov), [.v 7], none, false⟩,
      ⟨4, .p (.idxAddrS 1), [.t 1, .t 0], none, false⟩,
      ⟨5, .r (.load false 1), [.t 0], none, false⟩,
      ⟨6, .call 18, [.t 5, .t 4, .t 0], none, false⟩,
      ⟨7, .p (.mov), [.t 0], none, false⟩]
noncomputable def c20_r11 : List SOp := [⟨0, .p (.mov), [.v 8], none, false⟩]
noncomputable def c20_r12 : List SOp := [⟨0, .p (.mov), [.c (.bool false)], none, false⟩]
noncomputable def c20_r13 : List SOp := [⟨0, .p (.mov), [.v 7], none, false⟩,
      ⟨1, .p (.bin .add), [.t 0, .c (.int .i64 1)], none, false⟩,
      ⟨2, .p (.mov), [.t 0], none, false⟩]
noncomputable def c20_l14 : CCode := (.seq (.rcond c20_r9 [] 0
    .skip
    (.exit 2)) (.seq (.block 3 (.seq (.reg c20_r10 [(8, 0)]) (.rcond c20_r11 [] 0
    (.seq (.reg c20_r12 [(2, 0)]) .ret)
    .skip))) (.reg c20_r13 [(7, 0)])))
noncomputable def c20_r15 : List SOp := [⟨0, .p (.mov), [.v 0], none, false⟩,
      ⟨1, .p (.mov), [.v 6], none, false⟩,
      ⟨2, .p (.idxAddrS 4), [.t 1, .t 0], none, false⟩,
      ⟨3, .p (.fieldAddr 1), [.t 0], none, false⟩,
      ⟨4, .r (.load false 1), [.t 0], none, false⟩,
      ⟨5, .p (.bin .eql), [.t 0, .c (.int .i64 1)], none, false⟩,
      ⟨6, .p (.mov), [.t 0], none, false⟩,
      ⟨7, .p (.mov), [.v 0], some (0, true), false⟩,
      ⟨8, .p (.mov), [.v 1], some (1, true), false⟩,
      ⟨9, .p (.mov), [.v 6], some (2, true), false⟩,
      ⟨10, .call 30, [.t 2, .t 1, .t 0], some (3, true), true⟩,
      ⟨11, .p (.mov), [.v 0], some (4, true), false⟩,
      ⟨12, .p (.mov), [.v 6], some (5, true), false⟩,
      ⟨13, .p (.idxAddrS 4), [.t 1, .t 0], some (6, true), false⟩,
      ⟨14, .p (.fieldAddr 3), [.t 0], some (7, true), false⟩,
      ⟨15, .r (.load false 1), [.t 0], some (8, true), false⟩,
      ⟨16, .p (.bin .neq), [.t 5, .t 0], some (9, true), false⟩,
      ⟨17, .p (.pick), [.t 10, .t 0, .c (.bool false)], none, false⟩]
noncomputable def c20_r16 : List SOp := [⟨0, .p (.mov), [.c (.bool false)], none, false⟩]
noncomputable def c20_r17 : List SOp := [⟨0, .p (.mov), [.v 5], none, false⟩,
      ⟨1, .p (.bin .add), [.t 0, .c (.int .i64 1)], none, false⟩,
      ⟨2, .p (.mov), [.t 0], none, false⟩]
noncomputable def c20_l18 : CCode := (.seq (.rcond c20_r6 [] 0
    .skip
    (.exit 0)) (.seq (.block 1 (.seq (.reg c20_r7 [(6, 0)]) (.seq (.seq (.reg c20_r8 [(7, 0)]) (.block 2 (.loop c20_l14))) (.rcond c20_r15 [] 0
    (.seq (.reg c20_r16 [(2, 0)]) .ret)
    .skip)))) (.reg c20_r17 [(5, 0)])))
noncomputable def c20_r19 : List SOp := [⟨0, .p (.mov), [.c (.bool true)], none, false⟩]
noncomputable def c20 : CFn := { nargs := 2, vars := [0, 1, 4, 5, 6, 7, 8, 9, 10], results := [.var 2], body := (.seq (.reg c20_r0 [(2, 0)]) (.seq (.reg c20_r1 [(3, 0)]) (.seq (.reg c20_r2 [(4, 0)]) (.seq (.rcond c20_r3 [] 0
    (.seq (.reg c20_r4 [(2, 0)]) .ret)
    .skip) (.seq (.seq (.reg c20_r5 [(5, 0)]) (.block 0 (.loop c20_l18))) (.seq (.reg c20_r19 [(2, 0)]) .ret)))))) }

/-- headstock/axiom.Right · variables 0:l, 2: -/
noncomputable def c21_r0 : List SOp := [⟨0, .p (.mov), [.c (.bool false)], none, false⟩]
noncomputable def c21_r1 : List SOp := [⟨0, .p (.mov), [.v 0], none, false⟩,
      ⟨1, .p (.lenS), [.t 0], none, false⟩,
      ⟨2, .p (.bin .leq), [.t 0, .c (.int .i64 8)], none, false⟩,
      ⟨3, .p (.mov), [.t 0], none, false⟩,
      ⟨4, .p (.mov), [.v 0], some (0, true), false⟩,
      ⟨5, .call 36, [.t 0, .f 37], some (1, true), false⟩,
      ⟨6, .p (.un .not), [.t 0], some (2, true), false⟩,
      ⟨7, .p (.pick), [.t 3, .t 0, .c (.bool false)], none, false⟩,
      ⟨8, .p (.mov), [.t 0], none, false⟩]
noncomputable def c21 : CFn := { nargs := 1, vars := [0, 2], results := [.var 1], body := (.seq (.reg c21_r0 [(1, 0)]) (.seq (.reg c21_r1 [(1, 0)]) .ret)) }

/-- headstock/headstockref12.Right · variables 0:l, 2:, 3:i, 4:e -/
noncomputable def c22_r0 : List SOp := [⟨0, .p (.mov), [.c (.bool false)], none, false⟩]
noncomputable def c22_r1 : List SOp := [⟨0, .p (.mov), [.v 0], none, false⟩,
      ⟨1, .p (.lenS), [.t 0], none, false⟩,
      ⟨2, .p (.bin .gtr), [.t 0, .c (.int .i64 8)], none, false⟩]
noncomputable def c22_r2 : List SOp := [⟨0, .p (.mov), [.c (.bool false)], none, false⟩]
noncomputable def c22_r3 : List SOp := [⟨0, .p (.mov), [.c (.int .i64 0)], none, false⟩]
noncomputable def c22_r4 : List SOp := [⟨0, .p (.mov), [.v 2], none, false⟩,
      ⟨1, .p (.mov), [.v 0], none, false⟩,
      ⟨2, .p (.lenS), [.t 0], none, false⟩,
      ⟨3, .p (.bin .lss), [.t 2, .t 0], none, false⟩]
noncomputable def c22_r5 : List SOp := [⟨0, .p (.mov), [.v 0], none, false⟩,
      ⟨1, .p (.mov), [.v 2], none, false⟩,
      ⟨2, .p (.idxAddrS 4), [.t 1, .t 0], none, false⟩,
      ⟨3, .r (.load true 4), [.t 0], none, false⟩,
      ⟨4, .a (.new [.int .i64 0, .int .i64 0, .int .i64 0, .int .i64 0]), [], none, false⟩,
      ⟨5, .w (.store 4), [.t 0, .t 1], none, false⟩]
noncomputable def c22_r6 : List SOp := [⟨0, .p (.fieldAddr 0), [.v 3], none, false⟩,
      ⟨1, .r (.load false 1), [.t 0], none, false⟩,
      ⟨2, .p (.bin .lss), [.t 0, .c (.int .i64 0)], none, false⟩,
      ⟨3, .p (.mov), [.t 0], none, false⟩,
      ⟨4, .p (.fieldAddr 0), [.v 3], some (0, false), false⟩,
      ⟨5, .r (.load false 1), [.t 0], some (1, false), false⟩,
      ⟨6, .p (.bin .gtr), [.t 0, .c (.int .i64 3)], some (2, false), false⟩,
      ⟨7, .p (.pick), [.t 3, .c (.bool true), .t 0], none, false⟩,
      ⟨8, .p (.mov), [.t 0], none, false⟩,
      ⟨9, .p (.fieldAddr 1), [.v 3], some (0, false), false⟩,
      ⟨10, .r (.load false 1), [.t 0], some (1, false), false⟩,
      ⟨11, .p (.bin .lss), [.t 0, .c (.int .i64 1)], some (2, false), false⟩,
      ⟨12, .p (.pick), [.t 3, .c (.bool true), .t 0], none, false⟩,
      ⟨13, .p (.mov), [.t 0], none, false⟩,
      ⟨14, .p (.fieldAddr 1), [.v 3], some (0, false), false⟩,
      ⟨15, .r (.load false 1), [.t 0], some (1, false), false⟩,
      ⟨16, .p (.bin .gtr), [.t 0, .c (.int .i64 3)], some (2, false), false⟩,
      ⟨17, .p (.pick), [.t 3, .c (.bool true), .t 0], none, false⟩,
      ⟨18, .p (.mov), [.t 0], none, false⟩,
      ⟨19, .p (.fieldAddr 2), [.v 3], some (0, false), false⟩,
      ⟨20, .r (.load false 1), [.t 0], some (1, false), false⟩,
      ⟨21, .p (.bin .lss), [.t 0, .c (.int .i64 0)], some (2, false), false⟩,
      ⟨22, .p (.pick), [.t 3, .c (.bool true), .t 0], none, false⟩,
      ⟨23, .p (.mov), [.t 0], none, false⟩,
      ⟨24, .p (.fieldAddr 2), [.v 3], some (0, false), false⟩,
      ⟨25, .r (.load false 1), [.t 0], some (1, false), false⟩,
      ⟨26, .p (.bin .gtr), [.t 0, .c (.int .i64 3)], some (2, false), false⟩,
      ⟨27, .p (.pick), [.t 3, .c (.bool true), .t 0], none, false⟩,
      ⟨28, .p (.mov), [.t 0], none, false⟩,
      ⟨29, .p (.fieldAddr 3), [.v 3], some (0, false), false⟩,
      ⟨30, .r (.load false 1), [.t 0], some (1, false), false⟩,
      ⟨31, .p (.bin .lss), [.t 0, .c (.int .i64 (-2147483648))], some (2, false), false⟩,
      ⟨32, .p (.pick), [.t 3, .c (.bool true), .t 0], none, false⟩,
      ⟨33, .p (.mov), [.t 0], none, false⟩,
      ⟨34, .p (.fieldAddr 3), [.v 3], some (0, false), false⟩,
      ⟨35, .r (.load false 1), [.t 0], some (1, false), false⟩,
      ⟨36, .p (.bin .geq), [.t 0, .c (.int .i64 2147483648)], some (2, false), false⟩,
      ⟨37, .p (.pick), [.t 3, .c (.bool true), .t 0], none, false⟩,
      ⟨38, .p (.mov), [.t 0], none, false⟩,
      ⟨39, .p (.fieldAddr 1), [.v 3], some (0, false), false⟩,
      ⟨40, .r (.load false 1), [.t 0], some (1, false), false⟩,
      ⟨41, .p (.bin .eql), [.t 0, .c (.int .i64 3)], some (2, false), false⟩,
      ⟨42, .p (.mov), [.t 0], some (3, false), false⟩,
      ⟨43, .p (.fieldAddr 2), [.v 3], some (0, true), false⟩,
      ⟨44, .r (.load false 1), [.t 0], some (1, true), false⟩,
      ⟨45, .p (.bin .neq), [.t 0, .c (.int .i64 0)], some (2, true), false⟩,
      ⟨46, .p (.mov), [.t 0], some (3, true), false⟩,
      ⟨47, .p (.fieldAddr 3), [.v 3], some (0, false), false⟩,
      ⟨48, .r (.load false 1), [.t 0], some (1, false), false⟩,
      ⟨49, .p (.bin .neq), [.t 0, .c (.int .i64 0)], some (2, false), false⟩,
      ⟨50, .p (.pick), [.t 3, .c (.bool true), .t 0], some (7, true), false⟩,
      ⟨51, .p (.pick), [.t 8, .t 0, .c (.bool false)], some (12, false), false⟩,
      ⟨52, .p (.pick), [.t 13, .c (.bool true), .t 0], none, false⟩]
noncomputable def c22_r7 : List SOp := [⟨0, .p (.mov), [.c (.bool false)], none, false⟩]
noncomputable def c22_r8 : List SOp := [⟨0, .p (.mov), [.v 2], none, false⟩,
      ⟨1, .p (.bin .add), [.t 0, .c (.int .i64 1)], none, false⟩,
      ⟨2, .p (.mov), [.t 0], none, false⟩]
noncomputable def c22_l9 : CCode := (.seq (.rcond c22_r4 [] 0
    .skip
    (.exit 0)) (.seq (.block 1 (.seq (.reg c22_r5 [(3, 1)]) (.rcond c22_r6 [] 0
    (.seq (.reg c22_r7 [(1, 0)]) .ret)
    .skip))) (.reg c22_r8 [(2, 0)])))
noncomputable def c22_r10 : List SOp := [⟨0, .p (.mov), [.c (.bool true)], none, false⟩]
noncomputable def c22 : CFn := { nargs := 1, vars := [0, 2, 3, 4], results := [.var 1], body := (.seq (.reg c22_r0 [(1, 0)]) (.seq (.rcond c22_r1 [] 0
    (.seq (.reg c22_r2 [(1, 0)]) .ret)
    .skip) (.seq (.seq (.reg c22_r3 [(2, 0)]) (.block 0 (.loop c22_l9))) (.seq (.reg c22_r10 [(1, 0)]) .ret)))) }

/-- headstock/axiom.Allowed · variables 0:l, 2:, 3:x -/
noncomputable def c23_r0 : List SOp := [⟨0, .p (.mov), [.c (.bool false)], none, false⟩]
noncomputable def c23_r1 : List SOp := [⟨0, .p (.mov), [.v 0], none, false⟩,
      ⟨1, .w .mkMap, [], none, false⟩,
      ⟨2, .p (.build [.slice none 0 0, .map none] [(0, 1), (1, 1)]), [.t 1, .t 0], none, false⟩,
      ⟨3, .a .box, [.t 0], none, false⟩,
      ⟨4, .p (.mov), [.t 0], none, false⟩]
noncomputable def c23_r2 : List SOp := [⟨0, .p (.mov), [.v 0], none, false⟩,
      ⟨1, .call 21, [.t 0], none, false⟩,
      ⟨2, .p (.mov), [.t 0], none, false⟩,
      ⟨3, .p (.mov), [.v 2], some (0, true), false⟩,
      ⟨4, .p (.build [.int .u64 0, .int .i64 0, .int .i64 0, .int .i64 0, .int .i64 0] []), [], some (1, true), false⟩,
      ⟨5, .call 39, [.t 1, .t 0], some (2, true), false⟩,
      ⟨6, .p (.pick), [.t 3, .t 0, .c (.bool false)], none, false⟩,
      ⟨7, .p (.mov), [.t 0], none, false⟩]
noncomputable def c23 : CFn := { nargs := 1, vars := [0, 2, 3], results := [.var 1], body := (.seq (.reg c23_r0 [(1, 0)]) (.seq (.reg c23_r1 [(2, 0)]) (.seq (.reg c23_r2 [(1, 0)]) .ret))) }

/-- headstock/headstockref12.Allowed · variables 0:l, 2:, 3:ok -/
noncomputable def c24_r0 : List SOp := [⟨0, .p (.mov), [.c (.bool false)], none, false⟩]
noncomputable def c24_r1 : List SOp := [⟨0, .p (.mov), [.v 0], none, false⟩,
      ⟨1, .call 22, [.t 0], none, false⟩,
      ⟨2, .p (.mov), [.t 0], none, false⟩]
noncomputable def c24_r2 : List SOp := [⟨0, .p (.mov), [.v 2], none, false⟩,
      ⟨1, .p (.un .not), [.t 0], none, false⟩]
noncomputable def c24_r3 : List SOp := [⟨0, .p (.mov), [.c (.bool false)], none, false⟩]
noncomputable def c24_r4 : List SOp := [⟨0, .p (.mov), [.v 0], none, false⟩,
      ⟨1, .call 40, [.t 0, .c (.slice none 0 0)], none, false⟩,
      ⟨2, .p (.mov), [.t 0], none, false⟩]
noncomputable def c24 : CFn := { nargs := 1, vars := [0, 2, 3], results := [.var 1], body := (.seq (.reg c24_r0 [(1, 0)]) (.seq (.reg c24_r1 [(2, 0)]) (.seq (.rcond c24_r2 [] 0
    (.seq (.reg c24_r3 [(1, 0)]) .ret)
    .skip) (.seq (.reg c24_r4 [(1, 0)]) .ret)))) }

/-- headstock/headstocklaw12.kept · variables 0:l, 1:picks, 4:, 5:out, 6:done, 7:n, 8:free, 9:i, 10:is, 11:k, 12:k -/
noncomputable def c25_r0 : List SOp := [⟨0, .p (.mov), [.c (.slice none 0 0)], none, false⟩]
noncomputable def c25_r1 : List SOp := [⟨0, .p (.mov), [.c (.slice none 0 0)], none, false⟩]
noncomputable def c25_r2 : List SOp := [⟨0, .p (.mov), [.v 0], none, false⟩,
      ⟨1, .p (.lenS), [.t 0], none, false⟩,
      ⟨2, .a (.make [.bool false] 1 1), [.t 0, .t 0], none, false⟩,
      ⟨3, .p (.mov), [.t 0], none, false⟩]
noncomputable def c25_r3 : List SOp := [⟨0, .p (.mov), [.c (.int .i64 0)], none, false⟩]
noncomputable def c25_r4 : List SOp := [⟨0, .p (.mov), [.v 5], none, false⟩,
      ⟨1, .p (.mov), [.v 0], none, false⟩,
      ⟨2, .p (.lenS), [.t 0], none, false⟩,
      ⟨3, .p (.bin .lss), [.t 2, .t 0], none, false⟩]
noncomputable def c25_r5 : List SOp := [⟨0, .p (.mov), [.c (.slice none 0 0)], none, false⟩]
noncomputable def c25_r6 : List SOp := [⟨0, .p (.mov), [.c (.int .i64 0)], none, false⟩]
noncomputable def c25_r7 : List SOp := [⟨0, .p (.mov), [.v 7], none, false⟩,
      ⟨1, .p (.mov), [.v 0], none, false⟩,
      ⟨2, .p (.lenS), [.t 0], none, false⟩,
      ⟨3, .p (.bin .lss), [.t 2, .t 0], none, false⟩]
noncomputable def c25_r8 : List SOp := [⟨0, .p (.mov), [.v 0], none, false⟩,
      ⟨1, .p (.mov), [.v 7], none, false⟩,
      ⟨2, .p (.idxAddrS 4), [.t 1, .t 0], none, false⟩,
      ⟨3, .p (.fieldAddr 1), [.t 0], none, false⟩,
      ⟨4, .r (.load false 1), [.t 0], none, false⟩,
      ⟨5, .p (.bin .neq), [.t 0, .c (.int .i64 3)], none, false⟩,
      ⟨6, .p (.mov), [.t 0], none, false⟩,
      ⟨7, .p (.mov), [.v 4], some (0, true), false⟩,
      ⟨8, .p (.mov), [.v 7], some (1, true), false⟩,
      ⟨9, .p (.idxAddrS 1), [.t 1, .t 0], some (2, true), false⟩,
      ⟨10, .r (.load false 1), [.t 0], some (3, true), false⟩,
      ⟨11, .p (.un .not), [.t 0], some (4, true), false⟩,
      ⟨12, .p (.pick), [.t 5, .t 0, .c (.bool false)], none, false⟩,
      ⟨13, .p (.mov), [.t 0], none, false⟩]
noncomputable def c25_r9 : List SOp := [⟨0, .p (.mov), [.c (.int .i64 0)], none, false⟩]
noncomputable def c25_r10 : List SOp := [⟨0, .p (.mov), [.v 9], none, false⟩,
      ⟨1, .p (.mov), [.v 7], none, false⟩,
      ⟨2, .p (.bin .lss), [.t 1, .t 0], none, false⟩,
      ⟨3, .p (.mov), [.t 0], none, false⟩,
      ⟨4, .p (.mov), [.v 8], some (0, true), false⟩,
      ⟨5, .p (.pick), [.t 1, .t 0, .c (.bool false)], none, false⟩]
noncomputable def c25_r11 : List SOp := [⟨0, .p (.mov), [.v 4], none, false⟩,
      ⟨1, .p (.mov), [.v 9], none, false⟩,
      ⟨2, .p (.idxAddrS 1), [.t 1, .t 0], none, false⟩,
      ⟨3, .r (.load false 1), [.t 0], none, false⟩,
      ⟨4, .p (.mov), [.t 0], none, false⟩,
      ⟨5, .p (.mov), [.v 0], some (0, false), false⟩,
      ⟨6, .p (.mov), [.v 9], some (1, false), false⟩,
      ⟨7, .p (.mov), [.v 7], some (2, false), false⟩,
      ⟨8, .call 17, [.t 2, .t 1, .t 0], some (3, false), false⟩,
      ⟨9, .p (.un .not), [.t 0], some (4, false), false⟩,
      ⟨10, .p (.pick), [.t 5, .c (.bool true), .t 0], none, false⟩,
      ⟨11, .p (.mov), [.t 0], none, false⟩]
noncomputable def c25_r12 : List SOp := [⟨0, .p (.mov), [.v 9], none, false⟩,
      ⟨1, .p (.bin .add), [.t 0, .c (.int .i64 1)], none, false⟩,
      ⟨2, .p (.mov), [.t 0], none, false⟩]
noncomputable def c25_l13 : CCode := (.seq (.rcond c25_r10 [] 0
    .skip
    (.exit 4)) (.seq (.block 5 (.reg c25_r11 [(8, 0)])) (.reg c25_r12 [(9, 0)])))
noncomputable def c25_r14 : List SOp := [⟨0, .p (.mov), [.v 8], none, false⟩]
noncomputable def c25_r15 : List SOp := [⟨0, .p (.mov), [.v 6], none, false⟩,
      ⟨1, .p (.mov), [.v 7], none, false⟩,
      ⟨2, .a (.bslice [.int .i64 0] [(0, 1)] 1 1), [.t 0], none, false⟩,
      ⟨3, .w (.append 1 8), [.t 2, .t 0], none, false⟩,
      ⟨4, .p (.mov), [.t 0], none, false⟩]
noncomputable def c25_r16 : List SOp := [⟨0, .p (.mov), [.v 7], none, false⟩,
      ⟨1, .p (.bin .add), [.t 0, .c (.int .i64 1)], none, false⟩,
      ⟨2, .p (.mov), [.t 0], none, false⟩]
noncomputable def c25_l17 : CCode := (.seq (.rcond c25_r7 [] 0
    .skip
    (.exit 2)) (.seq (.block 3 (.seq (.reg c25_r8 [(8, 0)]) (.seq (.seq (.reg c25_r9 [(9, 0)]) (.block 4 (.loop c25_l13))) (.rcond c25_r14 [] 0
    (.reg c25_r15 [(6, 0)])
    .skip)))) (.reg c25_r16 [(7, 0)])))
noncomputable def c25_r18 : List SOp := [⟨0, .p (.mov), [.v 6], none, false⟩,
      ⟨1, .p (.lenS), [.t 0], none, false⟩,
      ⟨2, .p (.bin .eql), [.t 0, .c (.int .i64 0)], none, false⟩]
noncomputable def c25_r19 : List SOp := [⟨0, .p (.mov), [.c (.int .i64 0)], none, false⟩]
noncomputable def c25_r20 : List SOp := [⟨0, .p (.mov), [.v 5], none, false⟩,
      ⟨1, .p (.mov), [.v 1], none, false⟩,
      ⟨2, .p (.lenS), [.t 0], none, false⟩,
      ⟨3, .p (.bin .lss), [.t 2, .t 0], none, false⟩]
noncomputable def c25_r21 : List SOp := [⟨0, .p (.mov), [.v 1], none, false⟩,
      ⟨1, .p (.mov), [.v 5], none, false⟩,
      ⟨2, .p (.idxAddrS 1), [.t 1, .t 0], none, false⟩,
      ⟨3, .r (.load false 1), [.t 0], none, false⟩,
      ⟨4, .p (.mov), [.v 6], none, false⟩,
      ⟨5, .p (.lenS), [.t 0], none, false⟩,
      ⟨6, .call 14, [.t 2, .t 0], none, false⟩,
      ⟨7, .p (.mov), [.t 0], none, false⟩]
noncomputable def c25_r22 : List SOp := [⟨0, .p (.mov), [.v 4], none, false⟩,
      ⟨1, .p (.mov), [.v 6], none, false⟩,
      ⟨2, .p (.mov), [.v 10], none, false⟩,
      ⟨3, .p (.idxAddrS 1), [.t 1, .t 0], none, false⟩,
      ⟨4, .r (.load false 1), [.t 0], none, false⟩,
      ⟨5, .p (.idxAddrS 1), [.t 4, .t 0], none, false⟩,
      ⟨6, .w (.store 1), [.t 0, .c (.bool true)], none, false⟩]
noncomputable def c25_r23 : List SOp := [⟨0, .p (.mov), [.v 3], none, false⟩,
      ⟨1, .p (.mov), [.v 6], none, false⟩,
      ⟨2, .p (.mov), [.v 10], none, false⟩,
      ⟨3, .p (.idxAddrS 1), [.t 1, .t 0], none, false⟩,
      ⟨4, .r (.load false 1), [.t 0], none, false⟩,
      ⟨5, .a (.bslice [.int .i64 0] [(0, 1)] 1 1), [.t 0], none, false⟩,
      ⟨6, .w (.append 1 8), [.t 5, .t 0], none, false⟩,
      ⟨7, .p (.mov), [.t 0], none, false⟩]
noncomputable def c25_r24 : List SOp := [⟨0, .p (.mov), [.v 5], none, false⟩,
      ⟨1, .p (.bin .add), [.t 0, .c (.int .i64 1)], none, false⟩,
      ⟨2, .p (.mov), [.t 0], none, false⟩]
noncomputable def c25_l25 : CCode := (.seq (.rcond c25_r4 [] 0
    .skip
    (.exit 0)) (.seq (.block 1 (.seq (.reg c25_r5 [(6, 0)]) (.seq (.seq (.reg c25_r6 [(7, 0)]) (.block 2 (.loop c25_l17))) (.seq (.rcond c25_r18 [] 0
    (.exit 0)
    .skip) (.seq (.reg c25_r19 [(10, 0)]) (.seq (.rcond c25_r20 [] 0
    (.reg c25_r21 [(10, 0)])
    .skip) (.seq (.reg c25_r22 []) (.reg c25_r23 [(3, 0)])))))))) (.reg c25_r24 [(5, 0)])))
noncomputable def c25_r26 : List SOp := [⟨0, .p (.mov), [.v 3], none, false⟩,
      ⟨1, .p (.mov), [.t 0], none, false⟩]
noncomputable def c25 : CFn := { nargs := 2, vars := [0, 1, 4, 5, 6, 7, 8, 9, 10, 11, 12], results := [.var 2], body := (.seq (.reg c25_r0 [(2, 0)]) (.seq (.reg c25_r1 [(3, 0)]) (.seq (.reg c25_r2 [(4, 0)]) (.seq (.seq (.reg c25_r3 [(5, 0)]) (.block 0 (.loop c25_l25))) (.seq (.reg c25_r26 [(2, 0)]) .ret))))) }

/-- headstock/axiom.isOrder · variables 0:l, 1:order, 4: -/
noncomputable def c26_r0 : List SOp := [⟨0, .p (.mov), [.c (.bool false)], none, false⟩]
noncomputable def c26_r1 : List SOp := [⟨0, .p (.mov), [.v 1], none, false⟩,
      ⟨1, .call 43, [.t 0], none, false⟩,
      ⟨2, .call 42, [.t 0], none, false⟩,
      ⟨3, .p (.mov), [.v 0], none, false⟩,
      ⟨4, .call 44, [.t 0], none, false⟩,
      ⟨5, .call 41, [.t 2, .t 0], none, false⟩,
      ⟨6, .p (.mov), [.t 0], none, false⟩]
noncomputable def c26 : CFn := { nargs := 2, vars := [0, 1, 4], results := [.var 2], body := (.seq (.reg c26_r0 [(2, 0)]) (.seq (.reg c26_r1 [(2, 0)]) .ret)) }

/-- headstock/axiom.value · variables 0:l, 1:order, 2:i, 3:l, 5:i, 6:, 7:at, 8:a, 9:j, 10:mine, 15:, 16:, 17: -/
noncomputable def c27_r0 : List SOp := [⟨0, .a .box, [.v 0], none, false⟩,
      ⟨1, .a .box, [.v 2], none, false⟩,
      ⟨2, .a (.new [.int .i64 0]), [], none, false⟩]
noncomputable def c27_r1 : List SOp := [⟨0, .p (.mov), [.v 1], none, false⟩,
      ⟨1, .r (.load false 1), [.v 4], none, false⟩,
      ⟨2, .call 45, [.t 1, .t 0], none, false⟩,
      ⟨3, .a (.new [.int .i64 0]), [], none, false⟩,
      ⟨4, .w (.store 1), [.t 0, .t 1], none, false⟩]
noncomputable def c27_r2 : List SOp := [⟨0, .p (.mov), [.v 1], none, false⟩,
      ⟨1, .call 46, [.t 0], none, false⟩]
noncomputable def c27_r3 : List SOp := [⟨0, .p (.mov), [.v 11], none, false⟩]
noncomputable def c27_r4 : List SOp := [⟨0, .p (.mov), [.v 12], none, false⟩]
noncomputable def c27_r5 : List SOp := [⟨0, .p (.mov), [.v 8], none, false⟩,
      ⟨1, .r (.load false 1), [.v 4], none, false⟩,
      ⟨2, .p (.bin .lss), [.t 1, .t 0], none, false⟩,
      ⟨3, .p (.mov), [.t 0], none, false⟩,
      ⟨4, .r (.load false 1), [.v 3], some (0, true), false⟩,
      ⟨5, .p (.mov), [.v 8], some (1, true), false⟩,
      ⟨6, .p (.idxAddrS 4), [.t 1, .t 0], some (2, true), false⟩,
      ⟨7, .p (.fieldAddr 0), [.t 0], some (3, true), false⟩,
      ⟨8, .r (.load false 1), [.t 0], some (4, true), false⟩,
      ⟨9, .r (.load false 1), [.v 3], some (5, true), false⟩,
      ⟨10, .r (.load false 1), [.v 4], some (6, true), false⟩,
      ⟨11, .p (.idxAddrS 4), [.t 1, .t 0], some (7, true), false⟩,
      ⟨12, .p (.fieldAddr 0), [.t 0], some (8, true), false⟩,
      ⟨13, .r (.load false 1), [.t 0], some (9, true), false⟩,
      ⟨14, .p (.bin .eql), [.t 5, .t 0], some (10, true), false⟩,
      ⟨15, .p (.pick), [.t 11, .t 0, .c (.bool false)], none, false⟩,
      ⟨16, .p (.mov), [.t 0], none, false⟩]
noncomputable def c27_r6 : List SOp := [⟨0, .r (.load false 1), [.v 3], none, false⟩,
      ⟨1, .p (.mov), [.v 8], none, false⟩,
      ⟨2, .p (.idxAddrS 4), [.t 1, .t 0], none, false⟩,
      ⟨3, .p (.fieldAddr 1), [.t 0], none, false⟩,
      ⟨4, .r (.load false 1), [.t 0], none, false⟩,
      ⟨5, .p (.bin .eql), [.t 0, .c (.int .i64 2)], none, false⟩,
      ⟨6, .p (.mov), [.t 0], none, false⟩,
      ⟨7, .r (.load false 1), [.v 3], some (0, true), false⟩,
      ⟨8, .p (.mov), [.v 8], some (1, true), false⟩,
      ⟨9, .p (.idxAddrS 4), [.t 1, .t 0], some (2, true), false⟩,
      ⟨10, .p (.fieldAddr 2), [.t 0], some (3, true), false⟩,
      ⟨11, .r (.load false 1), [.t 0], some (4, true), false⟩,
      ⟨12, .r (.load false 1), [.v 3], some (5, true), false⟩,
      ⟨13, .r (.load false 1), [.v 4], some (6, true), false⟩,
      ⟨14, .p (.idxAddrS 4), [.t 1, .t 0], some (7, true), false⟩,
      ⟨15, .p (.fieldAddr 2), [.t 0], some (8, true), false⟩,
      ⟨16, .r (.load false 1), [.t 0], some (9, true), false⟩,
      ⟨17, .p (.bin .eql), [.t 5, .t 0], some (10, true), false⟩,
      ⟨18, .p (.pick), [.t 11, .t 0, .c (.bool false)], none, false⟩,
      ⟨19, .p (.mov), [.t 0], none, false⟩,
      ⟨20, .p (.mov), [.v 7], some (0, true), false⟩,
      ⟨21, .r (.load false 1), [.v 6], some (1, true), false⟩,
      ⟨22, .p (.bin .lss), [.t 1, .t 0], some (2, true), false⟩,
      ⟨23, .p (.mov), [.t 0], some (3, true), false⟩,
      ⟨24, .p (.mov), [.v 9], some (0, false), false⟩,
      ⟨25, .p (.pick), [.t 1, .c (.bool true), .t 0], some (5, true), false⟩,
      ⟨26, .p (.pick), [.t 6, .t 0, .c (.bool false)], none, false⟩]
noncomputable def c27_r7 : List SOp := [⟨0, .r (.load false 1), [.v 3], none, false⟩,
      ⟨1, .p (.mov), [.v 8], none, false⟩,
      ⟨2, .p (.idxAddrS 4), [.t 1, .t 0], none, false⟩,
      ⟨3, .p (.fieldAddr 3), [.t 0], none, false⟩,
      ⟨4, .r (.load false 1), [.t 0], none, false⟩,
      ⟨5, .w (.store 1), [.v 5, .t 0], none, false⟩]
noncomputable def c27_a8 : CCode := (.seq (.reg c27_r3 [(7, 0)]) (.reg c27_r4 [(8, 0)]))
noncomputable def c27_b8 : CCode := (.block 1 (.seq (.reg c27_r5 [(9, 0)]) (.rcond c27_r6 [] 0
    (.seq (.reg c27_r7 []) .ret)
    .skip)))
noncomputable def c27_r9 : List SOp := [⟨0, .w (.store 1), [.v 5, .c (.int .i64 0)], none, false⟩]
noncomputable def c27 : CFn := { nargs := 3, vars := [0, 1, 2, 3, 5, 6, 7, 8, 9, 10, 15, 16, 17], results := [.cell 5 false 1], body := (.seq (.reg c27_r0 [(3, 2), (4, 1), (5, 0)]) (.seq (.reg c27_r1 [(6, 1)]) (.seq (.seq (.reg c27_r2 [(10, 0)]) (.block 0 (.range (.v 10) [11, 12] c27_a8 c27_b8))) (.seq (.reg c27_r9 []) .ret)))) }

/-- headstock/headstockref12.ordered · variables 0:l, 1:order, 4:, 5:n, 6:i, 7:here -/
noncomputable def c28_r0 : List SOp := [⟨0, .p (.mov), [.c (.bool false)], none, false⟩]
noncomputable def c28_r1 : List SOp := [⟨0, .p (.mov), [.c (.int .i64 0)], none, false⟩]
noncomputable def c28_r2 : List SOp := [⟨0, .p (.mov), [.c (.int .i64 0)], none, false⟩]
noncomputable def c28_r3 : List SOp := [⟨0, .p (.mov), [.v 4], none, false⟩,
      ⟨1, .p (.mov), [.v 0], none, false⟩,
      ⟨2, .p (.lenS), [.t 0], none, false⟩,
      ⟨3, .p (.bin .lss), [.t 2, .t 0], none, false⟩]
noncomputable def c28_r4 : List SOp := [⟨0, .p (.mov), [.v 0], none, false⟩,
      ⟨1, .p (.mov), [.v 4], none, false⟩,
      ⟨2, .call 29, [.t 1, .t 0], none, false⟩,
      ⟨3, .p (.mov), [.t 0], none, false⟩]
noncomputable def c28_r5 : List SOp := [⟨0, .p (.mov), [.v 5], none, false⟩]
noncomputable def c28_r6 : List SOp := [⟨0, .p (.mov), [.v 3], none, false⟩,
      ⟨1, .p (.bin .add), [.t 0, .c (.int .i64 1)], none, false⟩,
      ⟨2, .p (.mov), [.t 0], none, false⟩]
noncomputable def c28_r7 : List SOp := [⟨0, .p (.mov), [.v 5], none, false⟩,
      ⟨1, .p (.mov), [.t 0], none, false⟩,
      ⟨2, .p (.mov), [.v 1], some (0, true), false⟩,
      ⟨3, .p (.mov), [.v 4], some (1, true), false⟩,
      ⟨4, .call 47, [.t 1, .t 0], some (2, true), false⟩,
      ⟨5, .p (.bin .lss), [.t 0, .c (.int .i64 0)], some (3, true), false⟩,
      ⟨6, .p (.pick), [.t 4, .t 0, .c (.bool false)], none, false⟩]
noncomputable def c28_r8 : List SOp := [⟨0, .p (.mov), [.c (.bool false)], none, false⟩]
noncomputable def c28_r9 : List SOp := [⟨0, .p (.mov), [.v 4], none, false⟩,
      ⟨1, .p (.bin .add), [.t 0, .c (.int .i64 1)], none, false⟩,
      ⟨2, .p (.mov), [.t 0], none, false⟩]
noncomputable def c28_l10 : CCode := (.seq (.rcond c28_r3 [] 0
    .skip
    (.exit 0)) (.seq (.block 1 (.seq (.reg c28_r4 [(5, 0)]) (.seq (.rcond c28_r5 [] 0
    (.reg c28_r6 [(3, 0)])
    .skip) (.rcond c28_r7 [] 0
    (.seq (.reg c28_r8 [(2, 0)]) .ret)
    .skip)))) (.reg c28_r9 [(4, 0)])))
noncomputable def c28_r11 : List SOp := [⟨0, .p (.mov), [.v 3], none, false⟩,
      ⟨1, .p (.mov), [.v 1], none, false⟩,
      ⟨2, .p (.lenS), [.t 0], none, false⟩,
      ⟨3, .p (.bin .eql), [.t 2, .t 0], none, false⟩,
      ⟨4, .p (.mov), [.t 0], none, false⟩]
noncomputable def c28 : CFn := { nargs := 2, vars := [0, 1, 4, 5, 6, 7], results := [.var 2], body := (.seq (.reg c28_r0 [(2, 0)]) (.seq (.reg c28_r1 [(3, 0)]) (.seq (.seq (.reg c28_r2 [(4, 0)]) (.block 0 (.loop c28_l10))) (.seq (.reg c28_r11 [(2, 0)]) .ret)))) }

/-- headstock/headstockref12.access · variables 0:l, 1:i, 4: -/
noncomputable def c29_r0 : List SOp := [⟨0, .p (.mov), [.c (.bool false)], none, false⟩]
noncomputable def c29_r1 : List SOp := [⟨0, .p (.mov), [.v 1], none, false⟩,
      ⟨1, .p (.bin .geq), [.t 0, .c (.int .i64 0)], none, false⟩,
      ⟨2, .p (.mov), [.t 0], none, false⟩,
      ⟨3, .p (.mov), [.v 1], some (0, true), false⟩,
      ⟨4, .p (.mov), [.v 0], some (1, true), false⟩,
      ⟨5, .p (.lenS), [.t 0], some (2, true), false⟩,
      ⟨6, .p (.bin .lss), [.t 2, .t 0], some (3, true), false⟩,
      ⟨7, .p (.pick), [.t 4, .t 0, .c (.bool false)], none, false⟩,
      ⟨8, .p (.mov), [.t 0], none, false⟩,
      ⟨9, .p (.mov), [.v 0], some (0, true), false⟩,
      ⟨10, .p (.mov), [.v 1], some (1, true), false⟩,
      ⟨11, .p (.idxAddrS 4), [.t 1, .t 0], some (2, true), false⟩,
      ⟨12, .p (.fieldAddr 1), [.t 0], some (3, true), false⟩,
      ⟨13, .r (.load false 1), [.t 0], some (4, true), false⟩,
      ⟨14, .p (.bin .eql), [.t 0, .c (.int .i64 1)], some (5, true), false⟩,
      ⟨15, .p (.mov), [.t 0], some (6, true), false⟩,
      ⟨16, .p (.mov), [.v 0], some (0, false), false⟩,
      ⟨17, .p (.mov), [.v 1], some (1, false), false⟩,
      ⟨18, .p (.idxAddrS 4), [.t 1, .t 0], some (2, false), false⟩,
      ⟨19, .p (.fieldAddr 1), [.t 0], some (3, false), false⟩,
      ⟨20, .r (.load false 1), [.t 0], some (4, false), false⟩,
      ⟨21, .p (.bin .eql), [.t 0, .c (.int .i64 2)], some (5, false), false⟩,
      ⟨22, .p (.pick), [.t 6, .c (.bool true), .t 0], some (13, true), false⟩,
      ⟨23, .p (.pick), [.t 14, .t 0, .c (.bool false)], none, false⟩,
      ⟨24, .p (.mov), [.t 0], none, false⟩]
noncomputable def c29 : CFn := { nargs := 2, vars := [0, 1, 4], results := [.var 2], body := (.seq (.reg c29_r0 [(2, 0)]) (.seq (.reg c29_r1 [(2, 0)]) .ret)) }

/-- headstock/headstockref12.value · variables 0:l, 1:order, 2:i, 6:, 7:n, 8:ahead, 9:k, 10:j -/
noncomputable def c30_r0 : List SOp := [⟨0, .p (.mov), [.c (.int .i64 0)], none, false⟩]
noncomputable def c30_r1 : List SOp := [⟨0, .p (.mov), [.c (.int .i64 0)], none, false⟩]
noncomputable def c30_r2 : List SOp := [⟨0, .p (.mov), [.c (.bool true)], none, false⟩]
noncomputable def c30_r3 : List SOp := [⟨0, .p (.mov), [.c (.int .i64 0)], none, false⟩]
noncomputable def c30_r4 : List SOp := [⟨0, .p (.mov), [.v 6], none, false⟩,
      ⟨1, .p (.mov), [.v 1], none, false⟩,
      ⟨2, .p (.lenS), [.t 0], none, false⟩,
      ⟨3, .p (.bin .lss), [.t 2, .t 0], none, false⟩]
noncomputable def c30_r5 : List SOp := [⟨0, .p (.mov), [.v 1], none, false⟩,
      ⟨1, .p (.mov), [.v 6], none, false⟩,
      ⟨2, .p (.idxAddrS 1), [.t 1, .t 0], none, false⟩,
      ⟨3, .r (.load false 1), [.t 0], none, false⟩,
      ⟨4, .p (.mov), [.t 0], none, false⟩]
noncomputable def c30_r6 : List SOp := [⟨0, .p (.mov), [.v 7], none, false⟩,
      ⟨1, .p (.mov), [.v 2], none, false⟩,
      ⟨2, .p (.bin .eql), [.t 1, .t 0], none, false⟩]
noncomputable def c30_r7 : List SOp := [⟨0, .p (.mov), [.c (.bool false)], none, false⟩]
noncomputable def c30_r8 : List SOp := [⟨0, .p (.mov), [.v 0], none, false⟩,
      ⟨1, .p (.mov), [.v 7], none, false⟩,
      ⟨2, .p (.idxAddrS 4), [.t 1, .t 0], none, false⟩,
      ⟨3, .p (.fieldAddr 1), [.t 0], none, false⟩,
      ⟨4, .r (.load false 1), [.t 0], none, false⟩,
      ⟨5, .p (.bin .eql), [.t 0, .c (.int .i64 2)], none, false⟩,
      ⟨6, .p (.mov), [.t 0], none, false⟩,
      ⟨7, .p (.mov), [.v 0], some (0, true), false⟩,
      ⟨8, .p (.mov), [.v 7], some (1, true), false⟩,
      ⟨9, .p (.idxAddrS 4), [.t 1, .t 0], some (2, true), false⟩,
      ⟨10, .p (.fieldAddr 2), [.t 0], some (3, true), false⟩,
      ⟨11, .r (.load false 1), [.t 0], some (4, true), false⟩,
      ⟨12, .p (.mov), [.v 0], some (5, true), false⟩,
      ⟨13, .p (.mov), [.v 2], some (6, true), false⟩,
      ⟨14, .p (.idxAddrS 4), [.t 1, .t 0], some (7, true), false⟩,
      ⟨15, .p (.fieldAddr 2), [.t 0], some (8, true), false⟩,
      ⟨16, .r (.load false 1), [.t 0], some (9, true), false⟩,
      ⟨17, .p (.bin .eql), [.t 5, .t 0], some (10, true), false⟩,
      ⟨18, .p (.pick), [.t 11, .t 0, .c (.bool false)], none, false⟩,
      ⟨19, .p (.mov), [.t 0], none, false⟩,
      ⟨20, .p (.mov), [.v 5], some (0, true), false⟩,
      ⟨21, .p (.mov), [.t 0], some (1, true), false⟩,
      ⟨22, .p (.mov), [.v 0], some (0, false), false⟩,
      ⟨23, .p (.mov), [.v 7], some (1, false), false⟩,
      ⟨24, .p (.mov), [.v 2], some (2, false), false⟩,
      ⟨25, .call 33, [.t 2, .t 1, .t 0], some (3, false), false⟩,
      ⟨26, .p (.pick), [.t 4, .c (.bool true), .t 0], some (6, true), false⟩,
      ⟨27, .p (.pick), [.t 7, .t 0, .c (.bool false)], none, false⟩]
noncomputable def c30_r9 : List SOp := [⟨0, .p (.mov), [.v 0], none, false⟩,
      ⟨1, .p (.mov), [.v 7], none, false⟩,
      ⟨2, .p (.idxAddrS 4), [.t 1, .t 0], none, false⟩,
      ⟨3, .p (.fieldAddr 3), [.t 0], none, false⟩,
      ⟨4, .r (.load false 1), [.t 0], none, false⟩,
      ⟨5, .p (.mov), [.t 0], none, false⟩]
noncomputable def c30_r10 : List SOp := [⟨0, .p (.mov), [.v 6], none, false⟩,
      ⟨1, .p (.bin .add), [.t 0, .c (.int .i64 1)], none, false⟩,
      ⟨2, .p (.mov), [.t 0], none, false⟩]
noncomputable def c30_l11 : CCode := (.seq (.rcond c30_r4 [] 0
    .skip
    (.exit 0)) (.seq (.block 1 (.seq (.reg c30_r5 [(7, 0)]) (.seq (.rcond c30_r6 [] 0
    (.reg c30_r7 [(5, 0)])
    .skip) (.rcond c30_r8 [] 0
    (.reg c30_r9 [(4, 0)])
    .skip)))) (.reg c30_r10 [(6, 0)])))
noncomputable def c30_r12 : List SOp := [⟨0, .p (.mov), [.v 4], none, false⟩,
      ⟨1, .p (.mov), [.t 0], none, false⟩]
noncomputable def c30 : CFn := { nargs := 3, vars := [0, 1, 2, 6, 7, 8, 9, 10], results := [.var 3], body := (.seq (.reg c30_r0 [(3, 0)]) (.seq (.reg c30_r1 [(4, 0)]) (.seq (.reg c30_r2 [(5, 0)]) (.seq (.seq (.reg c30_r3 [(6, 0)]) (.block 0 (.loop c30_l11))) (.seq (.reg c30_r12 [(3, 0)]) .ret))))) }

/-- headstock/axiom.isAccess · variables 0:e, 1:e, 2: -/
noncomputable def c31_r0 : List SOp := [⟨0, .a .box, [.v 0], none, false⟩,
      ⟨1, .p (.mov), [.c (.bool false)], none, false⟩]
noncomputable def c31_r1 : List SOp := [⟨0, .p (.fieldAddr 1), [.v 1], none, false⟩,
      ⟨1, .r (.load false 1), [.t 0], none, false⟩,
      ⟨2, .p (.bin .eql), [.t 0, .c (.int .i64 1)], none, false⟩,
      ⟨3, .p (.mov), [.t 0], none, false⟩,
      ⟨4, .p (.fieldAddr 1), [.v 1], some (0, false), false⟩,
      ⟨5, .r (.load false 1), [.t 0], some (1, false), false⟩,
      ⟨6, .p (.bin .eql), [.t 0, .c (.int .i64 2)], some (2, false), false⟩,
      ⟨7, .p (.pick), [.t 3, .c (.bool true), .t 0], none, false⟩,
      ⟨8, .p (.mov), [.t 0], none, false⟩]
noncomputable def c31 : CFn := { nargs := 1, vars := [0, 1, 2], results := [.var 2], body := (.seq (.reg c31_r0 [(1, 1), (2, 0)]) (.seq (.reg c31_r1 [(2, 0)]) .ret)) }

/-- headstock/axiom.keeps · variables 0:l, 1:i, 2:k, 3:l, 4:i, 6: -/
noncomputable def c32_r0 : List SOp := [⟨0, .a .box, [.v 0], none, false⟩,
      ⟨1, .a .box, [.v 1], none, false⟩,
      ⟨2, .p (.mov), [.c (.bool false)], none, false⟩]
noncomputable def c32_r1 : List SOp := [⟨0, .r (.load false 1), [.v 4], none, false⟩,
      ⟨1, .p (.mov), [.v 2], none, false⟩,
      ⟨2, .p (.bin .geq), [.t 1, .t 0], none, false⟩,
      ⟨3, .p (.mov), [.t 0], none, false⟩,
      ⟨4, .r (.load false 1), [.v 3], some (0, false), false⟩,
      ⟨5, .r (.load false 1), [.v 4], some (1, false), false⟩,
      ⟨6, .p (.idxAddrS 4), [.t 1, .t 0], some (2, false), false⟩,
      ⟨7, .p (.fieldAddr 0), [.t 0], some (3, false), false⟩,
      ⟨8, .r (.load false 1), [.t 0], some (4, false), false⟩,
      ⟨9, .r (.load false 1), [.v 3], some (5, false), false⟩,
      ⟨10, .p (.mov), [.v 2], some (6, false), false⟩,
      ⟨11, .p (.idxAddrS 4), [.t 1, .t 0], some (7, false), false⟩,
      ⟨12, .p (.fieldAddr 0), [.t 0], some (8, false), false⟩,
      ⟨13, .r (.load false 1), [.t 0], some (9, false), false⟩,
      ⟨14, .p (.bin .neq), [.t 5, .t 0], some (10, false), false⟩,
      ⟨15, .p (.pick), [.t 11, .c (.bool true), .t 0], none, false⟩]
noncomputable def c32_r2 : List SOp := [⟨0, .p (.mov), [.c (.bool false)], none, false⟩]
noncomputable def c32_r3 : List SOp := [⟨0, .r (.load false 1), [.v 3], none, false⟩,
      ⟨1, .r (.load false 1), [.v 4], none, false⟩,
      ⟨2, .p (.idxAddrS 4), [.t 1, .t 0], none, false⟩,
      ⟨3, .p (.fieldAddr 1), [.t 0], none, false⟩,
      ⟨4, .r (.load false 1), [.t 0], none, false⟩,
      ⟨5, .p (.bin .eql), [.t 0, .c (.int .i64 1)], none, false⟩,
      ⟨6, .p (.mov), [.t 0], none, false⟩,
      ⟨7, .r (.load false 1), [.v 3], some (0, false), false⟩,
      ⟨8, .p (.mov), [.v 2], some (1, false), false⟩,
      ⟨9, .p (.idxAddrS 4), [.t 1, .t 0], some (2, false), false⟩,
      ⟨10, .p (.fieldAddr 1), [.t 0], some (3, false), false⟩,
      ⟨11, .r (.load false 1), [.t 0], some (4, false), false⟩,
      ⟨12, .p (.bin .eql), [.t 0, .c (.int .i64 2)], some (5, false), false⟩,
      ⟨13, .p (.mov), [.t 0], some (6, false), false⟩,
      ⟨14, .r (.load false 1), [.v 3], some (0, true), false⟩,
      ⟨15, .r (.load false 1), [.v 4], some (1, true), false⟩,
      ⟨16, .p (.idxAddrS 4), [.t 1, .t 0], some (2, true), false⟩,
      ⟨17, .p (.fieldAddr 2), [.t 0], some (3, true), false⟩,
      ⟨18, .r (.load false 1), [.t 0], some (4, true), false⟩,
      ⟨19, .r (.load false 1), [.v 3], some (5, true), false⟩,
      ⟨20, .p (.mov), [.v 2], some (6, true), false⟩,
      ⟨21, .p (.idxAddrS 4), [.t 1, .t 0], some (7, true), false⟩,
      ⟨22, .p (.fieldAddr 2), [.t 0], some (8, true), false⟩,
      ⟨23, .r (.load false 1), [.t 0], some (9, true), false⟩,
      ⟨24, .p (.bin .eql), [.t 5, .t 0], some (10, true), false⟩,
      ⟨25, .p (.pick), [.t 11, .t 0, .c (.bool false)], some (18, false), false⟩,
      ⟨26, .p (.pick), [.t 19, .c (.bool true), .t 0], none, false⟩]
noncomputable def c32_r4 : List SOp := [⟨0, .p (.mov), [.c (.bool true)], none, false⟩]
noncomputable def c32_r5 : List SOp := [⟨0, .r (.load false 1), [.v 3], none, false⟩,
      ⟨1, .r (.load false 1), [.v 4], none, false⟩,
      ⟨2, .p (.mov), [.v 2], none, false⟩,
      ⟨3, .p (.sliceS 4 true true), [.t 2, .t 1, .t 0], none, false⟩,
      ⟨4, .p (.mkFunc 48 0), [.v 3, .v 4], none, false⟩,
      ⟨5, .call 36, [.t 1, .t 0], none, false⟩,
      ⟨6, .p (.mov), [.t 0], none, false⟩]
noncomputable def c32 : CFn := { nargs := 3, vars := [0, 1, 2, 3, 4, 6], results := [.var 5], body := (.seq (.reg c32_r0 [(3, 2), (4, 1), (5, 0)]) (.seq (.rcond c32_r1 [] 0
    (.seq (.reg c32_r2 [(5, 0)]) .ret)
    .skip) (.seq (.rcond c32_r3 [] 0
    (.seq (.reg c32_r4 [(5, 0)]) .ret)
    .skip) (.seq (.reg c32_r5 [(5, 0)]) .ret)))) }

/-- headstock/headstockref12.program · variables 0:l, 1:i, 2:k, 6: -/
noncomputable def c33_r0 : List SOp := [⟨0, .p (.mov), [.c (.bool false)], none, false⟩]
noncomputable def c33_r1 : List SOp := [⟨0, .p (.mov), [.v 1], none, false⟩,
      ⟨1, .p (.mov), [.v 2], none, false⟩,
      ⟨2, .p (.bin .lss), [.t 1, .t 0], none, false⟩,
      ⟨3, .p (.mov), [.t 0], none, false⟩,
      ⟨4, .p (.mov), [.v 0], some (0, true), false⟩,
      ⟨5, .p (.mov), [.v 1], some (1, true), false⟩,
      ⟨6, .p (.idxAddrS 4), [.t 1, .t 0], some (2, true), false⟩,
      ⟨7, .p (.fieldAddr 0), [.t 0], some (3, true), false⟩,
      ⟨8, .r (.load false 1), [.t 0], some (4, true), false⟩,
      ⟨9, .p (.mov), [.v 0], some (5, true), false⟩,
      ⟨10, .p (.mov), [.v 2], some (6, true), false⟩,
      ⟨11, .p (.idxAddrS 4), [.t 1, .t 0], some (7, true), false⟩,
      ⟨12, .p (.fieldAddr 0), [.t 0], some (8, true), false⟩,
      ⟨13, .r (.load false 1), [.t 0], some (9, true), false⟩,
      ⟨14, .p (.bin .eql), [.t 5, .t 0], some (10, true), false⟩,
      ⟨15, .p (.pick), [.t 11, .t 0, .c (.bool false)], none, false⟩,
      ⟨16, .p (.mov), [.t 0], none, false⟩]
noncomputable def c33 : CFn := { nargs := 3, vars := [0, 1, 2, 6], results := [.var 3], body := (.seq (.reg c33_r0 [(3, 0)]) (.seq (.reg c33_r1 [(3, 0)]) .ret)) }

/-- slices.ContainsFunc[[]int,int] · variables 0:s, 1:f, 4: -/
noncomputable def c34_r0 : List SOp := [⟨0, .p (.mov), [.c (.bool false)], none, false⟩]
noncomputable def c34_r1 : List SOp := [⟨0, .p (.mov), [.v 0], none, false⟩,
      ⟨1, .p (.mov), [.v 1], none, false⟩,
      ⟨2, .call 49, [.t 1, .t 0], none, false⟩,
      ⟨3, .p (.bin .geq), [.t 0, .c (.int .i64 0)], none, false⟩,
      ⟨4, .p (.mov), [.t 0], none, false⟩]
noncomputable def c34 : CFn := { nargs := 2, vars := [0, 1, 4], results := [.var 2], body := (.seq (.reg c34_r0 [(2, 0)]) (.seq (.reg c34_r1 [(2, 0)]) .ret)) }

/-- headstock/axiom.Holds$1 · variables 0:k, 1:, 2:, 4: -/
noncomputable def c35_r0 : List SOp := [⟨0, .p (.mov), [.c (.bool false)], none, false⟩]
noncomputable def c35_r1 : List SOp := [⟨0, .r (.load false 1), [.v 1], none, false⟩,
      ⟨1, .r (.load false 1), [.v 2], none, false⟩,
      ⟨2, .p (.mov), [.v 0], none, false⟩,
      ⟨3, .call 32, [.t 2, .t 1, .t 0], none, false⟩,
      ⟨4, .p (.mov), [.t 0], none, false⟩]
noncomputable def c35 : CFn := { nargs := 3, vars := [0, 1, 2, 4], results := [.var 3], body := (.seq (.reg c35_r0 [(3, 0)]) (.seq (.reg c35_r1 [(3, 0)]) .ret)) }

/-- slices.ContainsFunc[[]headstock/api.Event,headstock/api.Event] · variables 0:s, 1:f, 4: -/
noncomputable def c36_r0 : List SOp := [⟨0, .p (.mov), [.c (.bool false)], none, false⟩]
noncomputable def c36_r1 : List SOp := [⟨0, .p (.mov), [.v 0], none, false⟩,
      ⟨1, .p (.mov), [.v 1], none, false⟩,
      ⟨2, .call 50, [.t 1, .t 0], none, false⟩,
      ⟨3, .p (.bin .geq), [.t 0, .c (.int .i64 0)], none, false⟩,
      ⟨4, .p (.mov), [.t 0], none, false⟩]
noncomputable def c36 : CFn := { nargs := 2, vars := [0, 1, 4], results := [.var 2], body := (.seq (.reg c36_r0 [(2, 0)]) (.seq (.reg c36_r1 [(2, 0)]) .ret)) }

/-- headstock/axiom.Right$1 · variables 0:e, 1:e, 2: -/
noncomputable def c37_r0 : List SOp := [⟨0, .a .box, [.v 0], none, false⟩,
      ⟨1, .p (.mov), [.c (.bool false)], none, false⟩]
noncomputable def c37_r1 : List SOp := [⟨0, .r (.load true 4), [.v 1], none, false⟩,
      ⟨1, .call 38, [.t 0], none, false⟩,
      ⟨2, .p (.un .not), [.t 0], none, false⟩,
      ⟨3, .p (.mov), [.t 0], none, false⟩]
noncomputable def c37 : CFn := { nargs := 1, vars := [0, 1, 2], results := [.var 2], body := (.seq (.reg c37_r0 [(1, 1), (2, 0)]) (.seq (.reg c37_r1 [(2, 0)]) .ret)) }

/-- headstock/axiom.mayBe · variables 0:e, 1:e, 2: -/
noncomputable def c38_r0 : List SOp := [⟨0, .a .box, [.v 0], none, false⟩,
      ⟨1, .p (.mov), [.c (.bool false)], none, false⟩]
noncomputable def c38_r1 : List SOp := [⟨0, .p (.fieldAddr 1), [.v 1], none, false⟩,
      ⟨1, .r (.load false 1), [.t 0], none, false⟩,
      ⟨2, .p (.bin .eql), [.t 0, .c (.int .i64 3)], none, false⟩,
      ⟨3, .p (.mov), [.t 0], none, false⟩,
      ⟨4, .p (.fieldAddr 2), [.v 1], some (0, true), false⟩,
      ⟨5, .r (.load false 1), [.t 0], some (1, true), false⟩,
      ⟨6, .p (.bin .neq), [.t 0, .c (.int .i64 0)], some (2, true), false⟩,
      ⟨7, .p (.mov), [.t 0], some (3, true), false⟩,
      ⟨8, .p (.fieldAddr 3), [.v 1], some (0, false), false⟩,
      ⟨9, .r (.load false 1), [.t 0], some (1, false), false⟩,
      ⟨10, .p (.bin .neq), [.t 0, .c (.int .i64 0)], some (2, false), false⟩,
      ⟨11, .p (.pick), [.t 3, .c (.bool true), .t 0], some (7, true), false⟩,
      ⟨12, .p (.pick), [.t 8, .t 0, .c (.bool false)], none, false⟩]
noncomputable def c38_r2 : List SOp := [⟨0, .p (.mov), [.c (.bool false)], none, false⟩]
noncomputable def c38_r3 : List SOp := [⟨0, .p (.fieldAddr 0), [.v 1], none, false⟩,
      ⟨1, .r (.load false 1), [.t 0], none, false⟩,
      ⟨2, .p (.bin .geq), [.t 0, .c (.int .i64 0)], none, false⟩,
      ⟨3, .p (.mov), [.t 0], none, false⟩,
      ⟨4, .p (.fieldAddr 0), [.v 1], some (0, true), false⟩,
      ⟨5, .r (.load false 1), [.t 0], some (1, true), false⟩,
      ⟨6, .p (.bin .lss), [.t 0, .c (.int .i64 4)], some (2, true), false⟩,
      ⟨7, .p (.pick), [.t 3, .t 0, .c (.bool false)], none, false⟩,
      ⟨8, .p (.mov), [.t 0], none, false⟩,
      ⟨9, .p (.fieldAddr 1), [.v 1], some (0, true), false⟩,
      ⟨10, .r (.load false 1), [.t 0], some (1, true), false⟩,
      ⟨11, .p (.bin .geq), [.t 0, .c (.int .i64 1)], some (2, true), false⟩,
      ⟨12, .p (.pick), [.t 3, .t 0, .c (.bool false)], none, false⟩,
      ⟨13, .p (.mov), [.t 0], none, false⟩,
      ⟨14, .p (.fieldAddr 1), [.v 1], some (0, true), false⟩,
      ⟨15, .r (.load false 1), [.t 0], some (1, true), false⟩,
      ⟨16, .p (.bin .leq), [.t 0, .c (.int .i64 3)], some (2, true), false⟩,
      ⟨17, .p (.pick), [.t 3, .t 0, .c (.bool false)], none, false⟩,
      ⟨18, .p (.mov), [.t 0], none, false⟩,
      ⟨19, .p (.fieldAddr 2), [.v 1], some (0, true), false⟩,
      ⟨20, .r (.load false 1), [.t 0], some (1, true), false⟩,
      ⟨21, .p (.bin .geq), [.t 0, .c (.int .i64 0)], some (2, true), false⟩,
      ⟨22, .p (.pick), [.t 3, .t 0, .c (.bool false)], none, false⟩,
      ⟨23, .p (.mov), [.t 0], none, false⟩,
      ⟨24, .p (.fieldAddr 2), [.v 1], some (0, true), false⟩,
      ⟨25, .r (.load false 1), [.t 0], some (1, true), false⟩,
      ⟨26, .p (.bin .lss), [.t 0, .c (.int .i64 4)], some (2, true), false⟩,
      ⟨27, .p (.pick), [.t 3, .t 0, .c (.bool false)], none, false⟩,
      ⟨28, .p (.mov), [.t 0], none, false⟩,
      ⟨29, .p (.fieldAddr 3), [.v 1], some (0, true), false⟩,
      ⟨30, .r (.load false 1), [.t 0], some (1, true), false⟩,
      ⟨31, .p (.fieldAddr 3), [.v 1], some (2, true), false⟩,
      ⟨32, .r (.load false 1), [.t 0], some (3, true), false⟩,
      ⟨33, .p (.conv .i32), [.t 0], some (4, true), false⟩,
      ⟨34, .p (.conv .i64), [.t 0], some (5, true), false⟩,
      ⟨35, .p (.bin .eql), [.t 4, .t 0], some (6, true), false⟩,
      ⟨36, .p (.pick), [.t 7, .t 0, .c (.bool false)], none, false⟩,
      ⟨37, .p (.mov), [.t 0], none, false⟩]
noncomputable def c38 : CFn := { nargs := 1, vars := [0, 1, 2], results := [.var 2], body := (.seq (.reg c38_r0 [(1, 1), (2, 0)]) (.seq (.rcond c38_r1 [] 0
    (.seq (.reg c38_r2 [(2, 0)]) .ret)
    .skip) (.seq (.reg c38_r3 [(2, 0)]) .ret))) }

/-- (*headstock/axiom.searcher).search · variables 0:x, 1:s, 3:s, 4:, 6:is, 7:left, 8:i, 9:e, 10:next, 11:ok, 25:, 26:, 27:, 28: -/
noncomputable def c39_r0 : List SOp := [⟨0, .a .box, [.v 1], none, false⟩,
      ⟨1, .p (.mov), [.c (.bool false)], none, false⟩]
noncomputable def c39_r1 : List SOp := [⟨0, .p (.mov), [.v 0], none, false⟩,
      ⟨1, .p (.nilCheck), [.t 0], none, false⟩,
      ⟨2, .p (.fieldAddr 1), [.t 0], none, false⟩,
      ⟨3, .r (.load false 1), [.t 0], none, false⟩,
      ⟨4, .r (.load true 5), [.v 2], none, false⟩,
      ⟨5, .r (.lookup (keyGood Try.prog 60) (.int .i64 0) true), [.t 1, .t 0], none, false⟩,
      ⟨6, .p (.mov), [.t 0], none, false⟩,
      ⟨7, .p (.extract 0), [.t 0], none, false⟩,
      ⟨8, .p (.extract 1), [.t 1], none, false⟩,
      ⟨9, .p (.mov), [.t 1], none, false⟩,
      ⟨10, .p (.mov), [.t 1], none, false⟩]
noncomputable def c39_r2 : List SOp := [⟨0, .p (.mov), [.v 4], none, false⟩]
noncomputable def c39_r3 : List SOp := [⟨0, .p (.mov), [.c (.bool false)], none, false⟩]
noncomputable def c39_r4 : List SOp := [⟨0, .p (.mov), [.c (.bool false)], none, false⟩]
noncomputable def c39_r5 : List SOp := [⟨0, .p (.mov), [.v 0], none, false⟩,
      ⟨1, .p (.nilCheck), [.t 0], none, false⟩,
      ⟨2, .p (.fieldAddr 0), [.t 0], none, false⟩,
      ⟨3, .r (.load false 1), [.t 0], none, false⟩,
      ⟨4, .p (.lenS), [.t 0], none, false⟩,
      ⟨5, .p (.mov), [.c (.int .i64 0)], none, false⟩]
noncomputable def c39_r6 : List SOp := [⟨0, .p (.bin .lss), [.v 12, .v 11], none, false⟩]
noncomputable def c39_r7 : List SOp := [⟨0, .p (.mov), [.v 12], none, false⟩,
      ⟨1, .p (.idxAddrS 4), [.v 10, .v 12], none, false⟩,
      ⟨2, .r (.load true 4), [.t 0], none, false⟩,
      ⟨3, .a (.new [.int .i64 0, .int .i64 0, .int .i64 0, .int .i64 0]), [], none, false⟩,
      ⟨4, .p (.mov), [.t 3], none, false⟩,
      ⟨5, .w (.store 4), [.t 1, .t 2], none, false⟩]
noncomputable def c39_r8 : List SOp := [⟨0, .r (.load true 4), [.v 7], none, false⟩,
      ⟨1, .call 31, [.t 0], none, false⟩,
      ⟨2, .p (.un .not), [.t 0], none, false⟩,
      ⟨3, .p (.mov), [.t 0], none, false⟩,
      ⟨4, .p (.fieldAddr 0), [.v 2], some (0, false), false⟩,
      ⟨5, .r (.load false 1), [.t 0], some (1, false), false⟩,
      ⟨6, .p (.mov), [.v 6], some (2, false), false⟩,
      ⟨7, .p (.bin .shr), [.t 1, .t 0], some (3, false), false⟩,
      ⟨8, .p (.bin .and), [.t 0, .c (.int .u64 1)], some (4, false), false⟩,
      ⟨9, .p (.bin .eql), [.t 0, .c (.int .u64 1)], some (5, false), false⟩,
      ⟨10, .p (.pick), [.t 6, .c (.bool true), .t 0], none, false⟩]
noncomputable def c39_r9 : List SOp := [⟨0, .p (.mov), [.c (.bool true)], none, false⟩]
noncomputable def c39_r10 : List SOp := [⟨0, .p (.mov), [.v 0], none, false⟩,
      ⟨1, .r (.load true 5), [.v 2], none, false⟩,
      ⟨2, .p (.mov), [.v 6], none, false⟩,
      ⟨3, .call 51, [.t 2, .t 1, .t 0], none, false⟩,
      ⟨4, .p (.mov), [.t 0], none, false⟩,
      ⟨5, .p (.extract 0), [.t 0], none, false⟩,
      ⟨6, .p (.extract 1), [.t 1], none, false⟩,
      ⟨7, .a (.new [.int .u64 0, .int .i64 0, .int .i64 0, .int .i64 0, .int .i64 0]), [], none, false⟩,
      ⟨8, .w (.store 5), [.t 0, .t 2], none, false⟩,
      ⟨9, .p (.mov), [.t 2], none, false⟩]
noncomputable def c39_r11 : List SOp := [⟨0, .p (.mov), [.v 9], none, false⟩,
      ⟨1, .p (.mov), [.t 0], none, false⟩,
      ⟨2, .p (.mov), [.v 0], some (0, true), false⟩,
      ⟨3, .r (.load true 5), [.v 8], some (1, true), false⟩,
      ⟨4, .call 39, [.t 1, .t 0], some (2, true), false⟩,
      ⟨5, .p (.pick), [.t 3, .t 0, .c (.bool false)], none, false⟩]
noncomputable def c39_r12 : List SOp := [⟨0, .p (.mov), [.c (.bool true)], none, false⟩]
noncomputable def c39_r13 : List SOp := [⟨0, .p (.bin .add), [.v 12, .c (.int .i64 1)], none, false⟩,
      ⟨1, .p (.mov), [.t 0], none, false⟩]
noncomputable def c39_l14 : CCode := (.seq (.reg c39_r6 [(13, 0)]) (.seq (.cond (.v 13) .skip (.exit 0)) (.seq (.block 1 (.seq (.reg c39_r7 [(6, 1), (7, 2)]) (.seq (.rcond c39_r8 [] 0
    (.exit 1)
    .skip) (.seq (.reg c39_r9 [(5, 0)]) (.seq (.reg c39_r10 [(8, 2), (9, 0)]) (.rcond c39_r11 [] 0
    (.seq (.reg c39_r12 [(3, 0)]) .ret)
    .skip)))))) (.reg c39_r13 [(12, 0)]))))
noncomputable def c39_r15 : List SOp := [⟨0, .p (.mov), [.v 5], none, false⟩]
noncomputable def c39_r16 : List SOp := [⟨0, .p (.mov), [.v 0], none, false⟩,
      ⟨1, .p (.nilCheck), [.t 0], none, false⟩,
      ⟨2, .p (.fieldAddr 1), [.t 0], none, false⟩,
      ⟨3, .r (.load false 1), [.t 0], none, false⟩,
      ⟨4, .r (.load true 5), [.v 2], none, false⟩,
      ⟨5, .w (.mapSet (keyGood Try.prog 60)), [.t 1, .t 0, .c (.int .i64 1)], none, false⟩]
noncomputable def c39_r17 : List SOp := [⟨0, .p (.mov), [.v 5], none, false⟩,
      ⟨1, .p (.un .not), [.t 0], none, false⟩,
      ⟨2, .p (.mov), [.t 0], none, false⟩]
noncomputable def c39 : CFn := { nargs := 2, vars := [0, 1, 3, 4, 6, 7, 8, 9, 10, 11, 25, 26, 27, 28], results := [.var 3], body := (.seq (.reg c39_r0 [(2, 1), (3, 0)]) (.seq (.seq (.reg c39_r1 [(4, 0)]) (.rcond c39_r2 [] 0
    (.seq (.reg c39_r3 [(3, 0)]) .ret)
    .skip)) (.seq (.reg c39_r4 [(5, 0)]) (.seq (.seq (.reg c39_r5 [(10, 2), (11, 1), (12, 0)]) (.block 0 (.loop c39_l14))) (.seq (.rcond c39_r15 [] 0
    (.reg c39_r16 [])
    .skip) (.seq (.reg c39_r17 [(3, 0)]) .ret)))))) }

/-- headstock/headstockref12.search · variables 0:l, 1:order, 4:, 5:one, 6:i, 7:here, 8:free, 9:k, 10:must, 11:found -/
noncomputable def c40_r0 : List SOp := [⟨0, .p (.mov), [.c (.bool false)], none, false⟩]
noncomputable def c40_r1 : List SOp := [⟨0, .p (.mov), [.v 0], none, false⟩,
      ⟨1, .p (.mov), [.v 1], none, false⟩,
      ⟨2, .call 28, [.t 1, .t 0], none, false⟩,
      ⟨3, .p (.mov), [.t 0], none, false⟩]
noncomputable def c40_r2 : List SOp := [⟨0, .p (.mov), [.v 3], none, false⟩]
noncomputable def c40_r3 : List SOp := [⟨0, .p (.mov), [.v 0], none, false⟩,
      ⟨1, .p (.mov), [.v 1], none, false⟩,
      ⟨2, .call 20, [.t 1, .t 0], none, false⟩,
      ⟨3, .p (.mov), [.t 0], none, false⟩]
noncomputable def c40_r4 : List SOp := [⟨0, .p (.mov), [.c (.int .i64 0)], none, false⟩]
noncomputable def c40_r5 : List SOp := [⟨0, .p (.mov), [.v 4], none, false⟩,
      ⟨1, .p (.mov), [.v 0], none, false⟩,
      ⟨2, .p (.lenS), [.t 0], none, false⟩,
      ⟨3, .p (.bin .lss), [.t 2, .t 0], none, false⟩]
noncomputable def c40_r6 : List SOp := [⟨0, .p (.mov), [.v 0], none, false⟩,
      ⟨1, .p (.mov), [.v 4], none, false⟩,
      ⟨2, .call 29, [.t 1, .t 0], none, false⟩,
      ⟨3, .p (.mov), [.t 0], none, false⟩]
noncomputable def c40_r7 : List SOp := [⟨0, .p (.mov), [.v 5], none, false⟩,
      ⟨1, .p (.un .not), [.t 0], none, false⟩,
      ⟨2, .p (.mov), [.t 0], none, false⟩,
      ⟨3, .p (.mov), [.v 1], some (0, false), false⟩,
      ⟨4, .p (.mov), [.v 4], some (1, false), false⟩,
      ⟨5, .call 47, [.t 1, .t 0], some (2, false), false⟩,
      ⟨6, .p (.bin .geq), [.t 0, .c (.int .i64 0)], some (3, false), false⟩,
      ⟨7, .p (.pick), [.t 4, .c (.bool true), .t 0], none, false⟩]
noncomputable def c40_r8 : List SOp := [⟨0, .p (.mov), [.c (.bool true)], none, false⟩]
noncomputable def c40_r9 : List SOp := [⟨0, .p (.mov), [.c (.int .i64 0)], none, false⟩]
noncomputable def c40_r10 : List SOp := [⟨0, .p (.mov), [.v 7], none, false⟩,
      ⟨1, .p (.mov), [.v 4], none, false⟩,
      ⟨2, .p (.bin .lss), [.t 1, .t 0], none, false⟩]
noncomputable def c40_r11 : List SOp := [⟨0, .p (.mov), [.v 0], none, false⟩,
      ⟨1, .p (.mov), [.v 7], none, false⟩,
      ⟨2, .p (.mov), [.v 4], none, false⟩,
      ⟨3, .call 18, [.t 2, .t 1, .t 0], none, false⟩,
      ⟨4, .p (.mov), [.t 0], none, false⟩]
noncomputable def c40_r12 : List SOp := [⟨0, .p (.mov), [.v 6], none, false⟩,
      ⟨1, .p (.mov), [.t 0], none, false⟩,
      ⟨2, .p (.mov), [.v 8], some (0, true), false⟩,
      ⟨3, .p (.un .not), [.t 0], some (1, true), false⟩,
      ⟨4, .p (.mov), [.t 0], some (2, true), false⟩,
      ⟨5, .p (.mov), [.v 1], some (0, false), false⟩,
      ⟨6, .p (.mov), [.v 7], some (1, false), false⟩,
      ⟨7, .call 47, [.t 1, .t 0], some (2, false), false⟩,
      ⟨8, .p (.bin .geq), [.t 0, .c (.int .i64 0)], some (3, false), false⟩,
      ⟨9, .p (.pick), [.t 4, .c (.bool true), .t 0], some (7, true), false⟩,
      ⟨10, .p (.pick), [.t 8, .t 0, .c (.bool false)], none, false⟩,
      ⟨11, .p (.mov), [.t 0], none, false⟩]
noncomputable def c40_r13 : List SOp := [⟨0, .p (.mov), [.v 7], none, false⟩,
      ⟨1, .p (.bin .add), [.t 0, .c (.int .i64 1)], none, false⟩,
      ⟨2, .p (.mov), [.t 0], none, false⟩]
noncomputable def c40_l14 : CCode := (.seq (.rcond c40_r10 [] 0
    .skip
    (.exit 2)) (.seq (.block 3 (.seq (.reg c40_r11 [(8, 0)]) (.reg c40_r12 [(6, 0)]))) (.reg c40_r13 [(7, 0)])))
noncomputable def c40_r15 : List SOp := [⟨0, .p (.mov), [.v 6], none, false⟩]
noncomputable def c40_r16 : List SOp := [⟨0, .p (.mov), [.v 0], none, false⟩,
      ⟨1, .p (.mov), [.v 1], none, false⟩,
      ⟨2, .w (.append 1 8), [.c (.slice none 0 0), .t 0], none, false⟩,
      ⟨3, .p (.mov), [.v 4], none, false⟩,
      ⟨4, .a (.bslice [.int .i64 0] [(0, 1)] 1 1), [.t 0], none, false⟩,
      ⟨5, .w (.append 1 8), [.t 2, .t 0], none, false⟩,
      ⟨6, .call 40, [.t 5, .t 0], none, false⟩,
      ⟨7, .p (.mov), [.t 0], none, false⟩]
noncomputable def c40_r17 : List SOp := [⟨0, .p (.mov), [.v 9], none, false⟩]
noncomputable def c40_r18 : List SOp := [⟨0, .p (.mov), [.c (.bool true)], none, false⟩]
noncomputable def c40_r19 : List SOp := [⟨0, .p (.mov), [.v 4], none, false⟩,
      ⟨1, .p (.bin .add), [.t 0, .c (.int .i64 1)], none, false⟩,
      ⟨2, .p (.mov), [.t 0], none, false⟩]
noncomputable def c40_l20 : CCode := (.seq (.rcond c40_r5 [] 0
    .skip
    (.exit 0)) (.seq (.block 1 (.seq (.reg c40_r6 [(5, 0)]) (.seq (.rcond c40_r7 [] 0
    (.exit 1)
    .skip) (.seq (.reg c40_r8 [(6, 0)]) (.seq (.seq (.reg c40_r9 [(7, 0)]) (.block 2 (.loop c40_l14))) (.rcond c40_r15 [] 0
    (.seq (.reg c40_r16 [(9, 0)]) (.rcond c40_r17 [] 0
    (.seq (.reg c40_r18 [(2, 0)]) .ret)
    .skip))
    .skip)))))) (.reg c40_r19 [(4, 0)])))
noncomputable def c40_r21 : List SOp := [⟨0, .p (.mov), [.c (.bool false)], none, false⟩]
noncomputable def c40 : CFn := { nargs := 2, vars := [0, 1, 4, 5, 6, 7, 8, 9, 10, 11], results := [.var 2], body := (.seq (.reg c40_r0 [(2, 0)]) (.seq (.reg c40_r1 [(3, 0)]) (.seq (.rcond c40_r2 [] 0
    (.seq (.reg c40_r3 [(2, 0)]) .ret)
    .skip) (.seq (.seq (.reg c40_r4 [(4, 0)]) (.block 0 (.loop c40_l20))) (.seq (.reg c40_r21 [(2, 0)]) .ret))))) }

/-- slices.Equal[[]int,int] · variables 0:s1, 1:s2, 4:, 5:i, 12:, 13:, 14: -/
noncomputable def c41_r0 : List SOp := [⟨0, .p (.mov), [.c (.bool false)], none, false⟩]
noncomputable def c41_r1 : List SOp := [⟨0, .p (.mov), [.v 0], none, false⟩,
      ⟨1, .p (.lenS), [.t 0], none, false⟩,
      ⟨2, .p (.mov), [.v 1], none, false⟩,
      ⟨3, .p (.lenS), [.t 0], none, false⟩,
      ⟨4, .p (.bin .neq), [.t 2, .t 0], none, false⟩]
noncomputable def c41_r2 : List SOp := [⟨0, .p (.mov), [.c (.bool false)], none, false⟩]
noncomputable def c41_r3 : List SOp := [⟨0, .p (.mov), [.v 0], none, false⟩,
      ⟨1, .p (.lenS), [.t 0], none, false⟩,
      ⟨2, .p (.mov), [.c (.int .i64 0)], none, false⟩]
noncomputable def c41_r4 : List SOp := [⟨0, .p (.bin .lss), [.v 5, .v 4], none, false⟩]
noncomputable def c41_r5 : List SOp := [⟨0, .p (.mov), [.v 5], none, false⟩,
      ⟨1, .p (.mov), [.t 0], none, false⟩]
noncomputable def c41_r6 : List SOp := [⟨0, .p (.mov), [.v 0], none, false⟩,
      ⟨1, .p (.mov), [.v 3], none, false⟩,
      ⟨2, .p (.idxAddrS 1), [.t 1, .t 0], none, false⟩,
      ⟨3, .r (.load false 1), [.t 0], none, false⟩,
      ⟨4, .p (.mov), [.v 1], none, false⟩,
      ⟨5, .p (.mov), [.v 3], none, false⟩,
      ⟨6, .p (.idxAddrS 1), [.t 1, .t 0], none, false⟩,
      ⟨7, .r (.load false 1), [.t 0], none, false⟩,
      ⟨8, .p (.bin .neq), [.t 4, .t 0], none, false⟩]
noncomputable def c41_r7 : List SOp := [⟨0, .p (.mov), [.c (.bool false)], none, false⟩]
noncomputable def c41_r8 : List SOp := [⟨0, .p (.bin .add), [.v 5, .c (.int .i64 1)], none, false⟩,
      ⟨1, .p (.mov), [.t 0], none, false⟩]
noncomputable def c41_l9 : CCode := (.seq (.reg c41_r4 [(6, 0)]) (.seq (.cond (.v 6) .skip (.exit 0)) (.seq (.block 1 (.seq (.reg c41_r5 [(3, 0)]) (.rcond c41_r6 [] 0
    (.seq (.reg c41_r7 [(2, 0)]) .ret)
    .skip))) (.reg c41_r8 [(5, 0)]))))
noncomputable def c41_r10 : List SOp := [⟨0, .p (.mov), [.c (.bool true)], none, false⟩]
noncomputable def c41 : CFn := { nargs := 2, vars := [0, 1, 4, 5, 12, 13, 14], results := [.var 2], body := (.seq (.reg c41_r0 [(2, 0)]) (.seq (.rcond c41_r1 [] 0
    (.seq (.reg c41_r2 [(2, 0)]) .ret)
    .skip) (.seq (.seq (.reg c41_r3 [(4, 1), (5, 0)]) (.block 0 (.loop c41_l9))) (.seq (.reg c41_r10 [(2, 0)]) .ret)))) }

/-- slices.Sorted[int] · variables 0:seq, 2:, 3:s -/
noncomputable def c42_r0 : List SOp := [⟨0, .p (.mov), [.c (.slice none 0 0)], none, false⟩]
noncomputable def c42_r1 : List SOp := [⟨0, .p (.mov), [.v 0], none, false⟩,
      ⟨1, .call 52, [.t 0], none, false⟩,
      ⟨2, .p (.mov), [.t 0], none, false⟩]
noncomputable def c42_r2 : List SOp := [⟨0, .p (.mov), [.v 2], none, false⟩,
      ⟨1, .call 53, [.t 0], none, false⟩]
noncomputable def c42_r3 : List SOp := [⟨0, .p (.mov), [.v 2], none, false⟩,
      ⟨1, .p (.mov), [.t 0], none, false⟩]
noncomputable def c42 : CFn := { nargs := 1, vars := [0, 2, 3], results := [.var 1], body := (.seq (.reg c42_r0 [(1, 0)]) (.seq (.reg c42_r1 [(2, 0)]) (.seq (.reg c42_r2 []) (.seq (.reg c42_r3 [(1, 0)]) .ret)))) }

/-- slices.Values[[]int,int] · variables 0:s, 1:s, 2: -/
noncomputable def c43_r0 : List SOp := [⟨0, .a .box, [.v 0], none, false⟩,
      ⟨1, .p (.mov), [.c (.nilFunc)], none, false⟩]
noncomputable def c43_r1 : List SOp := [⟨0, .p (.mkFunc 54 0), [.v 1], none, false⟩,
      ⟨1, .p (.mov), [.t 0], none, false⟩]
noncomputable def c43 : CFn := { nargs := 1, vars := [0, 1, 2], results := [.var 2], body := (.seq (.reg c43_r0 [(1, 1), (2, 0)]) (.seq (.reg c43_r1 [(2, 0)]) .ret)) }

/-- headstock/axiom.accesses · variables 0:l, 2:out, 3:i, 4:e, 5:, 6:, 7:, 8: -/
noncomputable def c44_r0 : List SOp := [⟨0, .p (.mov), [.c (.slice none 0 0)], none, false⟩]
noncomputable def c44_r1 : List SOp := [⟨0, .p (.mov), [.v 0], none, false⟩,
      ⟨1, .p (.lenS), [.t 0], none, false⟩,
      ⟨2, .p (.mov), [.c (.int .i64 0)], none, false⟩]
noncomputable def c44_r2 : List SOp := [⟨0, .p (.bin .lss), [.v 6, .v 5], none, false⟩]
noncomputable def c44_r3 : List SOp := [⟨0, .p (.mov), [.v 6], none, false⟩,
      ⟨1, .p (.idxAddrS 4), [.v 4, .v 6], none, false⟩,
      ⟨2, .r (.load true 4), [.t 0], none, false⟩,
      ⟨3, .a (.new [.int .i64 0, .int .i64 0, .int .i64 0, .int .i64 0]), [], none, false⟩,
      ⟨4, .p (.mov), [.t 3], none, false⟩,
      ⟨5, .w (.store 4), [.t 1, .t 2], none, false⟩]
noncomputable def c44_r4 : List SOp := [⟨0, .r (.load true 4), [.v 3], none, false⟩,
      ⟨1, .call 31, [.t 0], none, false⟩]
noncomputable def c44_r5 : List SOp := [⟨0, .p (.mov), [.v 1], none, false⟩,
      ⟨1, .p (.mov), [.v 2], none, false⟩,
      ⟨2, .a (.bslice [.int .i64 0] [(0, 1)] 1 1), [.t 0], none, false⟩,
      ⟨3, .w (.append 1 8), [.t 2, .t 0], none, false⟩,
      ⟨4, .p (.mov), [.t 0], none, false⟩]
noncomputable def c44_r6 : List SOp := [⟨0, .p (.bin .add), [.v 6, .c (.int .i64 1)], none, false⟩,
      ⟨1, .p (.mov), [.t 0], none, false⟩]
noncomputable def c44_l7 : CCode := (.seq (.reg c44_r2 [(7, 0)]) (.seq (.cond (.v 7) .skip (.exit 0)) (.seq (.block 1 (.seq (.reg c44_r3 [(2, 1), (3, 2)]) (.rcond c44_r4 [] 0
    (.reg c44_r5 [(1, 0)])
    .skip))) (.reg c44_r6 [(6, 0)]))))
noncomputable def c44 : CFn := { nargs := 1, vars := [0, 2, 3, 4, 5, 6, 7, 8], results := [.var 1], body := (.seq (.reg c44_r0 [(1, 0)]) (.seq (.seq (.reg c44_r1 [(4, 2), (5, 1), (6, 0)]) (.block 0 (.loop c44_l7))) .ret)) }

/-- slices.Index[[]int,int] · variables 0:s, 1:v, 4:, 5:i, 7:, 8:, 9: -/
noncomputable def c45_r0 : List SOp := [⟨0, .p (.mov), [.c (.int .i64 0)], none, false⟩]
noncomputable def c45_r1 : List SOp := [⟨0, .p (.mov), [.v 0], none, false⟩,
      ⟨1, .p (.lenS), [.t 0], none, false⟩,
      ⟨2, .p (.mov), [.c (.int .i64 0)], none, false⟩]
noncomputable def c45_r2 : List SOp := [⟨0, .p (.bin .lss), [.v 5, .v 4], none, false⟩]
noncomputable def c45_r3 : List SOp := [⟨0, .p (.mov), [.v 5], none, false⟩,
      ⟨1, .p (.mov), [.t 0], none, false⟩]
noncomputable def c45_r4 : List SOp := [⟨0, .p (.mov), [.v 1], none, false⟩,
      ⟨1, .p (.mov), [.v 0], none, false⟩,
      ⟨2, .p (.mov), [.v 3], none, false⟩,
      ⟨3, .p (.idxAddrS 1), [.t 1, .t 0], none, false⟩,
      ⟨4, .r (.load false 1), [.t 0], none, false⟩,
      ⟨5, .p (.bin .eql), [.t 4, .t 0], none, false⟩]
noncomputable def c45_r5 : List SOp := [⟨0, .p (.mov), [.v 3], none, false⟩,
      ⟨1, .p (.mov), [.t 0], none, false⟩]
noncomputable def c45_r6 : List SOp := [⟨0, .p (.bin .add), [.v 5, .c (.int .i64 1)], none, false⟩,
      ⟨1, .p (.mov), [.t 0], none, false⟩]
noncomputable def c45_l7 : CCode := (.seq (.reg c45_r2 [(6, 0)]) (.seq (.cond (.v 6) .skip (.exit 0)) (.seq (.block 1 (.seq (.reg c45_r3 [(3, 0)]) (.rcond c45_r4 [] 0
    (.seq (.reg c45_r5 [(2, 0)]) .ret)
    .skip))) (.reg c45_r6 [(5, 0)]))))
noncomputable def c45_r8 : List SOp := [⟨0, .p (.mov), [.c (.int .i64 (-1))], none, false⟩]
noncomputable def c45 : CFn := { nargs := 2, vars := [0, 1, 4, 5, 7, 8, 9], results := [.var 2], body := (.seq (.reg c45_r0 [(2, 0)]) (.seq (.seq (.reg c45_r1 [(4, 1), (5, 0)]) (.block 0 (.loop c45_l7))) (.seq (.reg c45_r8 [(2, 0)]) .ret))) }

/-- slices.Backward[[]int,int] · variables 0:s, 1:s, 2: -/
noncomputable def c46_r0 : List SOp := [⟨0, .a .box, [.v 0], none, false⟩,
      ⟨1, .p (.mov), [.c (.nilFunc)], none, false⟩]
noncomputable def c46_r1 : List SOp := [⟨0, .p (.mkFunc 55 0), [.v 1], none, false⟩,
      ⟨1, .p (.mov), [.t 0], none, false⟩]
noncomputable def c46 : CFn := { nargs := 1, vars := [0, 1, 2], results := [.var 2], body := (.seq (.reg c46_r0 [(1, 1), (2, 0)]) (.seq (.reg c46_r1 [(2, 0)]) .ret)) }

/-- headstock/headstockref12.place · variables 0:order, 1:i, 4:, 5:k -/
noncomputable def c47_r0 : List SOp := [⟨0, .p (.mov), [.c (.int .i64 0)], none, false⟩]
noncomputable def c47_r1 : List SOp := [⟨0, .p (.mov), [.c (.int .i64 0)], none, false⟩]
noncomputable def c47_r2 : List SOp := [⟨0, .p (.mov), [.v 3], none, false⟩,
      ⟨1, .p (.mov), [.v 0], none, false⟩,
      ⟨2, .p (.lenS), [.t 0], none, false⟩,
      ⟨3, .p (.bin .lss), [.t 2, .t 0], none, false⟩]
noncomputable def c47_r3 : List SOp := [⟨0, .p (.mov), [.v 0], none, false⟩,
      ⟨1, .p (.mov), [.v 3], none, false⟩,
      ⟨2, .p (.idxAddrS 1), [.t 1, .t 0], none, false⟩,
      ⟨3, .r (.load false 1), [.t 0], none, false⟩,
      ⟨4, .p (.mov), [.v 1], none, false⟩,
      ⟨5, .p (.bin .eql), [.t 1, .t 0], none, false⟩]
noncomputable def c47_r4 : List SOp := [⟨0, .p (.mov), [.v 3], none, false⟩,
      ⟨1, .p (.mov), [.t 0], none, false⟩]
noncomputable def c47_r5 : List SOp := [⟨0, .p (.mov), [.v 3], none, false⟩,
      ⟨1, .p (.bin .add), [.t 0, .c (.int .i64 1)], none, false⟩,
      ⟨2, .p (.mov), [.t 0], none, false⟩]
noncomputable def c47_l6 : CCode := (.seq (.rcond c47_r2 [] 0
    .skip
    (.exit 0)) (.seq (.block 1 (.rcond c47_r3 [] 0
    (.seq (.reg c47_r4 [(2, 0)]) .ret)
    .skip)) (.reg c47_r5 [(3, 0)])))
noncomputable def c47_r7 : List SOp := [⟨0, .p (.mov), [.c (.int .i64 (-1))], none, false⟩]
noncomputable def c47 : CFn := { nargs := 2, vars := [0, 1, 4, 5], results := [.var 2], body := (.seq (.reg c47_r0 [(2, 0)]) (.seq (.seq (.reg c47_r1 [(3, 0)]) (.block 0 (.loop c47_l6))) (.seq (.reg c47_r7 [(2, 0)]) .ret))) }

/-- headstock/axiom.keeps$1 · variables 0:e, 1:, 2:, 3:e, 4: -/
noncomputable def c48_r0 : List SOp := [⟨0, .a .box, [.v 0], none, false⟩,
      ⟨1, .p (.mov), [.c (.bool false)], none, false⟩]
noncomputable def c48_r1 : List SOp := [⟨0, .p (.fieldAddr 1), [.v 3], none, false⟩,
      ⟨1, .r (.load false 1), [.t 0], none, false⟩,
      ⟨2, .p (.bin .eql), [.t 0, .c (.int .i64 3)], none, false⟩,
      ⟨3, .p (.mov), [.t 0], none, false⟩,
      ⟨4, .p (.fieldAddr 0), [.v 3], some (0, true), false⟩,
      ⟨5, .r (.load false 1), [.t 0], some (1, true), false⟩,
      ⟨6, .r (.load false 1), [.v 1], some (2, true), false⟩,
      ⟨7, .r (.load false 1), [.v 2], some (3, true), false⟩,
      ⟨8, .p (.idxAddrS 4), [.t 1, .t 0], some (4, true), false⟩,
      ⟨9, .p (.fieldAddr 0), [.t 0], some (5, true), false⟩,
      ⟨10, .r (.load false 1), [.t 0], some (6, true), false⟩,
      ⟨11, .p (.bin .eql), [.t 5, .t 0], some (7, true), false⟩,
      ⟨12, .p (.pick), [.t 8, .t 0, .c (.bool false)], none, false⟩,
      ⟨13, .p (.mov), [.t 0], none, false⟩]
noncomputable def c48 : CFn := { nargs := 3, vars := [0, 1, 2, 3, 4], results := [.var 4], body := (.seq (.reg c48_r0 [(3, 1), (4, 0)]) (.seq (.reg c48_r1 [(4, 0)]) .ret)) }

/-- slices.IndexFunc[[]int,int] · variables 0:s, 1:f, 4:, 5:i, 7:, 8:, 9: -/
noncomputable def c49_r0 : List SOp := [⟨0, .p (.mov), [.c (.int .i64 0)], none, false⟩]
noncomputable def c49_r1 : List SOp := [⟨0, .p (.mov), [.v 0], none, false⟩,
      ⟨1, .p (.lenS), [.t 0], none, false⟩,
      ⟨2, .p (.mov), [.c (.int .i64 0)], none, false⟩]
noncomputable def c49_r2 : List SOp := [⟨0, .p (.bin .lss), [.v 5, .v 4], none, false⟩]
noncomputable def c49_r3 : List SOp := [⟨0, .p (.mov), [.v 5], none, false⟩,
      ⟨1, .p (.mov), [.t 0], none, false⟩]
noncomputable def c49_r4 : List SOp := [⟨0, .p (.mov), [.v 1], none, false⟩,
      ⟨1, .p (.mov), [.v 0], none, false⟩,
      ⟨2, .p (.mov), [.v 3], none, false⟩,
      ⟨3, .p (.idxAddrS 1), [.t 1, .t 0], none, false⟩,
      ⟨4, .r (.load false 1), [.t 0], none, false⟩,
      ⟨5, .callV, [.t 4, .t 0], none, false⟩]
noncomputable def c49_r5 : List SOp := [⟨0, .p (.mov), [.v 3], none, false⟩,
      ⟨1, .p (.mov), [.t 0], none, false⟩]
noncomputable def c49_r6 : List SOp := [⟨0, .p (.bin .add), [.v 5, .c (.int .i64 1)], none, false⟩,
      ⟨1, .p (.mov), [.t 0], none, false⟩]
noncomputable def c49_l7 : CCode := (.seq (.reg c49_r2 [(6, 0)]) (.seq (.cond (.v 6) .skip (.exit 0)) (.seq (.block 1 (.seq (.reg c49_r3 [(3, 0)]) (.rcond c49_r4 [] 0
    (.seq (.reg c49_r5 [(2, 0)]) .ret)
    .skip))) (.reg c49_r6 [(5, 0)]))))
noncomputable def c49_r8 : List SOp := [⟨0, .p (.mov), [.c (.int .i64 (-1))], none, false⟩]
noncomputable def c49 : CFn := { nargs := 2, vars := [0, 1, 4, 5, 7, 8, 9], results := [.var 2], body := (.seq (.reg c49_r0 [(2, 0)]) (.seq (.seq (.reg c49_r1 [(4, 1), (5, 0)]) (.block 0 (.loop c49_l7))) (.seq (.reg c49_r8 [(2, 0)]) .ret))) }

/-- slices.IndexFunc[[]headstock/api.Event,headstock/api.Event] · variables 0:s, 1:f, 4:, 5:i, 7:, 8:, 9: -/
noncomputable def c50_r0 : List SOp := [⟨0, .p (.mov), [.c (.int .i64 0)], none, false⟩]
noncomputable def c50_r1 : List SOp := [⟨0, .p (.mov), [.v 0], none, false⟩,
      ⟨1, .p (.lenS), [.t 0], none, false⟩,
      ⟨2, .p (.mov), [.c (.int .i64 0)], none, false⟩]
noncomputable def c50_r2 : List SOp := [⟨0, .p (.bin .lss), [.v 5, .v 4], none, false⟩]
noncomputable def c50_r3 : List SOp := [⟨0, .p (.mov), [.v 5], none, false⟩,
      ⟨1, .p (.mov), [.t 0], none, false⟩]
noncomputable def c50_r4 : List SOp := [⟨0, .p (.mov), [.v 1], none, false⟩,
      ⟨1, .p (.mov), [.v 0], none, false⟩,
      ⟨2, .p (.mov), [.v 3], none, false⟩,
      ⟨3, .p (.idxAddrS 4), [.t 1, .t 0], none, false⟩,
      ⟨4, .r (.load true 4), [.t 0], none, false⟩,
      ⟨5, .callV, [.t 4, .t 0], none, false⟩]
noncomputable def c50_r5 : List SOp := [⟨0, .p (.mov), [.v 3], none, false⟩,
      ⟨1, .p (.mov), [.t 0], none, false⟩]
noncomputable def c50_r6 : List SOp := [⟨0, .p (.bin .add), [.v 5, .c (.int .i64 1)], none, false⟩,
      ⟨1, .p (.mov), [.t 0], none, false⟩]
noncomputable def c50_l7 : CCode := (.seq (.reg c50_r2 [(6, 0)]) (.seq (.cond (.v 6) .skip (.exit 0)) (.seq (.block 1 (.seq (.reg c50_r3 [(3, 0)]) (.rcond c50_r4 [] 0
    (.seq (.reg c50_r5 [(2, 0)]) .ret)
    .skip))) (.reg c50_r6 [(5, 0)]))))
noncomputable def c50_r8 : List SOp := [⟨0, .p (.mov), [.c (.int .i64 (-1))], none, false⟩]
noncomputable def c50 : CFn := { nargs := 2, vars := [0, 1, 4, 5, 7, 8, 9], results := [.var 2], body := (.seq (.reg c50_r0 [(2, 0)]) (.seq (.seq (.reg c50_r1 [(4, 1), (5, 0)]) (.block 0 (.loop c50_l7))) (.seq (.reg c50_r8 [(2, 0)]) .ret))) }

/-- (*headstock/axiom.searcher).free · variables 0:x, 1:s, 2:i, 4:s, 6:, 7:, 8:k, 9:e, 10:n, 11:is, 12:, 13:, 14: -/
noncomputable def c51_r0 : List SOp := [⟨0, .a .box, [.v 1], none, false⟩,
      ⟨1, .a (.new [.int .u64 0, .int .i64 0, .int .i64 0, .int .i64 0, .int .i64 0]), [], none, false⟩,
      ⟨2, .p (.mov), [.c (.bool false)], none, false⟩]
noncomputable def c51_r1 : List SOp := [⟨0, .p (.mov), [.v 2], none, false⟩,
      ⟨1, .p (.mov), [.c (.int .i64 0)], none, false⟩]
noncomputable def c51_r2 : List SOp := [⟨0, .p (.bin .lss), [.v 11, .v 10], none, false⟩]
noncomputable def c51_r3 : List SOp := [⟨0, .p (.mov), [.v 11], none, false⟩,
      ⟨1, .p (.mov), [.t 0], none, false⟩]
noncomputable def c51_r4 : List SOp := [⟨0, .p (.mov), [.v 0], none, false⟩,
      ⟨1, .p (.nilCheck), [.t 0], none, false⟩,
      ⟨2, .p (.fieldAddr 0), [.t 0], none, false⟩,
      ⟨3, .r (.load false 1), [.t 0], none, false⟩,
      ⟨4, .p (.mov), [.v 6], none, false⟩,
      ⟨5, .p (.idxAddrS 4), [.t 1, .t 0], none, false⟩,
      ⟨6, .r (.load true 4), [.t 0], none, false⟩,
      ⟨7, .call 31, [.t 0], none, false⟩,
      ⟨8, .p (.mov), [.t 0], none, false⟩,
      ⟨9, .p (.fieldAddr 0), [.v 3], some (0, true), false⟩,
      ⟨10, .r (.load false 1), [.t 0], some (1, true), false⟩,
      ⟨11, .p (.mov), [.v 6], some (2, true), false⟩,
      ⟨12, .p (.bin .shr), [.t 1, .t 0], some (3, true), false⟩,
      ⟨13, .p (.bin .and), [.t 0, .c (.int .u64 1)], some (4, true), false⟩,
      ⟨14, .p (.bin .eql), [.t 0, .c (.int .u64 0)], some (5, true), false⟩,
      ⟨15, .p (.pick), [.t 6, .t 0, .c (.bool false)], none, false⟩,
      ⟨16, .p (.mov), [.t 0], none, false⟩,
      ⟨17, .p (.mov), [.v 0], some (0, true), false⟩,
      ⟨18, .p (.nilCheck), [.t 0], some (1, true), false⟩,
      ⟨19, .p (.fieldAddr 0), [.t 0], some (2, true), false⟩,
      ⟨20, .r (.load false 1), [.t 0], some (3, true), false⟩,
      ⟨21, .p (.mov), [.v 6], some (4, true), false⟩,
      ⟨22, .p (.mov), [.v 2], some (5, true), false⟩,
      ⟨23, .call 32, [.t 2, .t 1, .t 0], some (6, true), false⟩,
      ⟨24, .p (.pick), [.t 7, .t 0, .c (.bool false)], none, false⟩]
noncomputable def c51_r5 : List SOp := [⟨0, .r (.load true 5), [.v 3], none, false⟩,
      ⟨1, .w (.store 5), [.v 4, .t 0], none, false⟩,
      ⟨2, .p (.mov), [.c (.bool false)], none, false⟩]
noncomputable def c51_r6 : List SOp := [⟨0, .p (.bin .add), [.v 11, .c (.int .i64 1)], none, false⟩,
      ⟨1, .p (.mov), [.t 0], none, false⟩]
noncomputable def c51_l7 : CCode := (.seq (.reg c51_r2 [(12, 0)]) (.seq (.cond (.v 12) .skip (.exit 0)) (.seq (.block 1 (.seq (.reg c51_r3 [(6, 0)]) (.rcond c51_r4 [] 0
    (.seq (.reg c51_r5 [(5, 0)]) .ret)
    .skip))) (.reg c51_r6 [(11, 0)]))))
noncomputable def c51_r8 : List SOp := [⟨0, .p (.mov), [.v 0], none, false⟩,
      ⟨1, .p (.nilCheck), [.t 0], none, false⟩,
      ⟨2, .p (.fieldAddr 0), [.t 0], none, false⟩,
      ⟨3, .r (.load false 1), [.t 0], none, false⟩,
      ⟨4, .p (.mov), [.v 2], none, false⟩,
      ⟨5, .p (.idxAddrS 4), [.t 1, .t 0], none, false⟩,
      ⟨6, .r (.load true 4), [.t 0], none, false⟩,
      ⟨7, .a (.new [.int .i64 0, .int .i64 0, .int .i64 0, .int .i64 0]), [], none, false⟩,
      ⟨8, .w (.store 4), [.t 0, .t 1], none, false⟩]
noncomputable def c51_r9 : List SOp := [⟨0, .p (.fieldAddr 1), [.v 7], none, false⟩,
      ⟨1, .r (.load false 1), [.t 0], none, false⟩,
      ⟨2, .p (.bin .eql), [.t 0, .c (.int .i64 1)], none, false⟩]
noncomputable def c51_r10 : List SOp := [⟨0, .p (.mov), [.v 0], none, false⟩,
      ⟨1, .r (.load true 5), [.v 3], none, false⟩,
      ⟨2, .p (.mov), [.v 2], none, false⟩,
      ⟨3, .call 56, [.t 2, .t 1, .t 0], none, false⟩,
      ⟨4, .p (.mov), [.t 0], none, false⟩,
      ⟨5, .p (.extract 0), [.t 0], none, false⟩,
      ⟨6, .p (.extract 1), [.t 1], none, false⟩,
      ⟨7, .p (.mov), [.t 1], none, false⟩,
      ⟨8, .p (.mov), [.t 1], none, false⟩]
noncomputable def c51_r11 : List SOp := [⟨0, .p (.mov), [.v 9], none, false⟩,
      ⟨1, .p (.un .not), [.t 0], none, false⟩]
noncomputable def c51_r12 : List SOp := [⟨0, .p (.fieldAddr 2), [.v 7], none, false⟩,
      ⟨1, .r (.load false 1), [.t 0], none, false⟩,
      ⟨2, .p (.fieldAddr 1), [.v 3], none, false⟩,
      ⟨3, .p (.idxAddrA 4 1), [.t 0, .t 1], none, false⟩,
      ⟨4, .r (.load false 1), [.t 0], none, false⟩,
      ⟨5, .p (.mov), [.t 0], none, false⟩]
noncomputable def c51_r13 : List SOp := [⟨0, .p (.mov), [.v 8], none, false⟩,
      ⟨1, .p (.fieldAddr 3), [.v 7], none, false⟩,
      ⟨2, .r (.load false 1), [.t 0], none, false⟩,
      ⟨3, .p (.bin .neq), [.t 2, .t 0], none, false⟩]
noncomputable def c51_r14 : List SOp := [⟨0, .r (.load true 5), [.v 3], none, false⟩,
      ⟨1, .w (.store 5), [.v 4, .t 0], none, false⟩,
      ⟨2, .p (.mov), [.c (.bool false)], none, false⟩]
noncomputable def c51_r15 : List SOp := [⟨0, .p (.fieldAddr 2), [.v 7], none, false⟩,
      ⟨1, .r (.load false 1), [.t 0], none, false⟩,
      ⟨2, .p (.fieldAddr 3), [.v 7], none, false⟩,
      ⟨3, .r (.load false 1), [.t 0], none, false⟩,
      ⟨4, .p (.fieldAddr 1), [.v 3], none, false⟩,
      ⟨5, .p (.idxAddrA 4 1), [.t 0, .t 3], none, false⟩,
      ⟨6, .w (.store 1), [.t 0, .t 2], none, false⟩]
noncomputable def c51_r16 : List SOp := [⟨0, .p (.fieldAddr 0), [.v 3], none, false⟩,
      ⟨1, .r (.load false 1), [.t 0], none, false⟩,
      ⟨2, .p (.mov), [.v 2], none, false⟩,
      ⟨3, .p (.bin .shl), [.c (.int .u64 1), .t 0], none, false⟩,
      ⟨4, .p (.bin .or), [.t 2, .t 0], none, false⟩,
      ⟨5, .p (.fieldAddr 0), [.v 3], none, false⟩,
      ⟨6, .w (.store 1), [.t 0, .t 1], none, false⟩]
noncomputable def c51_r17 : List SOp := [⟨0, .r (.load true 5), [.v 3], none, false⟩,
      ⟨1, .w (.store 5), [.v 4, .t 0], none, false⟩,
      ⟨2, .p (.mov), [.c (.bool true)], none, false⟩]
noncomputable def c51 : CFn := { nargs := 3, vars := [0, 1, 2, 4, 6, 7, 8, 9, 10, 11, 12, 13, 14], results := [.cell 4 true 5, .var 5], body := (.seq (.reg c51_r0 [(3, 2), (4, 1), (5, 0)]) (.seq (.seq (.reg c51_r1 [(10, 1), (11, 0)]) (.block 0 (.loop c51_l7))) (.seq (.reg c51_r8 [(7, 1)]) (.seq (.rcond c51_r9 [] 0
    (.seq (.reg c51_r10 [(8, 1), (9, 0)]) (.seq (.rcond c51_r11 [] 0
    (.reg c51_r12 [(8, 0)])
    .skip) (.rcond c51_r13 [] 0
    (.seq (.reg c51_r14 [(5, 0)]) .ret)
    .skip)))
    (.reg c51_r15 [])) (.seq (.reg c51_r16 []) (.seq (.reg c51_r17 [(5, 0)]) .ret)))))) }

/-- slices.Collect[int] · variables 0:seq, 2: -/
noncomputable def c52_r0 : List SOp := [⟨0, .p (.mov), [.c (.slice none 0 0)], none, false⟩]
noncomputable def c52_r1 : List SOp := [⟨0, .p (.mov), [.v 0], none, false⟩,
      ⟨1, .call 57, [.c (.slice none 0 0), .t 0], none, false⟩,
      ⟨2, .p (.mov), [.t 0], none, false⟩]
noncomputable def c52 : CFn := { nargs := 1, vars := [0, 2], results := [.var 1], body := (.seq (.reg c52_r0 [(1, 0)]) (.seq (.reg c52_r1 [(1, 0)]) .ret)) }

/-- slices.Sort[[]int,int] · variables 0:x, 2:n -/
noncomputable def c53_r0 : List SOp := [⟨0, .p (.mov), [.v 0], none, false⟩,
      ⟨1, .p (.lenS), [.t 0], none, false⟩,
      ⟨2, .p (.mov), [.t 0], none, false⟩]
noncomputable def c53_r1 : List SOp := [⟨0, .p (.mov), [.v 0], none, false⟩,
      ⟨1, .p (.mov), [.v 1], none, false⟩,
      ⟨2, .p (.mov), [.v 1], none, false⟩,
      ⟨3, .p (.conv .u64), [.t 0], none, false⟩,
      ⟨4, .call 59, [.t 0], none, false⟩,
      ⟨5, .call 58, [.t 4, .c (.int .i64 0), .t 3, .t 0], none, false⟩]
noncomputable def c53 : CFn := { nargs := 1, vars := [0, 2], results := [], body := (.seq (.reg c53_r0 [(1, 0)]) (.reg c53_r1 [])) }

/-- slices.Values[[]int,int]$1 · variables 0:yield, 1:, 4:v, 5:, 6:, 7:, 8: -/
noncomputable def c54_r0 : List SOp := [⟨0, .r (.load false 1), [.v 1], none, false⟩,
      ⟨1, .p (.lenS), [.t 0], none, false⟩,
      ⟨2, .p (.mov), [.c (.int .i64 0)], none, false⟩]
noncomputable def c54_r1 : List SOp := [⟨0, .p (.bin .lss), [.v 5, .v 4], none, false⟩]
noncomputable def c54_r2 : List SOp := [⟨0, .p (.idxAddrS 1), [.v 3, .v 5], none, false⟩,
      ⟨1, .r (.load false 1), [.t 0], none, false⟩,
      ⟨2, .p (.mov), [.t 0], none, false⟩]
noncomputable def c54_r3 : List SOp := [⟨0, .p (.mov), [.v 0], none, false⟩,
      ⟨1, .p (.mov), [.v 2], none, false⟩,
      ⟨2, .callV, [.t 1, .t 0], none, false⟩,
      ⟨3, .p (.un .not), [.t 0], none, false⟩]
noncomputable def c54_r4 : List SOp := [⟨0, .p (.bin .add), [.v 5, .c (.int .i64 1)], none, false⟩,
      ⟨1, .p (.mov), [.t 0], none, false⟩]
noncomputable def c54_l5 : CCode := (.seq (.reg c54_r1 [(6, 0)]) (.seq (.cond (.v 6) .skip (.exit 0)) (.seq (.block 1 (.seq (.reg c54_r2 [(2, 0)]) (.rcond c54_r3 [] 0
    .ret
    .skip))) (.reg c54_r4 [(5, 0)]))))
noncomputable def c54 : CFn := { nargs := 2, vars := [0, 1, 4, 5, 6, 7, 8], results := [], body := (.seq (.reg c54_r0 [(3, 2), (4, 1), (5, 0)]) (.block 0 (.loop c54_l5))) }

/-- slices.Backward[[]int,int]$1 · variables 0:yield, 1:, 3:i -/
noncomputable def c55_r0 : List SOp := [⟨0, .r (.load false 1), [.v 1], none, false⟩,
      ⟨1, .p (.lenS), [.t 0], none, false⟩,
      ⟨2, .p (.bin .sub), [.t 0, .c (.int .i64 1)], none, false⟩,
      ⟨3, .p (.mov), [.t 0], none, false⟩]
noncomputable def c55_r1 : List SOp := [⟨0, .p (.mov), [.v 2], none, false⟩,
      ⟨1, .p (.bin .geq), [.t 0, .c (.int .i64 0)], none, false⟩]
noncomputable def c55_r2 : List SOp := [⟨0, .p (.mov), [.v 0], none, false⟩,
      ⟨1, .p (.mov), [.v 2], none, false⟩,
      ⟨2, .r (.load false 1), [.v 1], none, false⟩,
      ⟨3, .p (.mov), [.v 2], none, false⟩,
      ⟨4, .p (.idxAddrS 1), [.t 1, .t 0], none, false⟩,
      ⟨5, .r (.load false 1), [.t 0], none, false⟩,
      ⟨6, .callV, [.t 5, .t 4, .t 0], none, false⟩,
      ⟨7, .p (.un .not), [.t 0], none, false⟩]
noncomputable def c55_r3 : List SOp := [⟨0, .p (.mov), [.v 2], none, false⟩,
      ⟨1, .p (.bin .sub), [.t 0, .c (.int .i64 1)], none, false⟩,
      ⟨2, .p (.mov), [.t 0], none, false⟩]
noncomputable def c55_l4 : CCode := (.seq (.rcond c55_r1 [] 0
    .skip
    (.exit 0)) (.seq (.block 1 (.rcond c55_r2 [] 0
    .ret
    .skip)) (.reg c55_r3 [(2, 0)])))
noncomputable def c55 : CFn := { nargs := 2, vars := [0, 1, 3], results := [], body := (.seq (.reg c55_r0 [(2, 0)]) (.block 0 (.loop c55_l4))) }

/-- (*headstock/axiom.searcher).pending · variables 0:x, 1:s, 2:i, 4:s, 6:, 7:, 8:k, 9:e -/
noncomputable def c56_r0 : List SOp := [⟨0, .a .box, [.v 1], none, false⟩,
      ⟨1, .p (.mov), [.c (.int .i64 0)], none, false⟩,
      ⟨2, .p (.mov), [.c (.bool false)], none, false⟩]
noncomputable def c56_r1 : List SOp := [⟨0, .p (.mov), [.v 2], none, false⟩,
      ⟨1, .p (.bin .sub), [.t 0, .c (.int .i64 1)], none, false⟩,
      ⟨2, .p (.mov), [.t 0], none, false⟩]
noncomputable def c56_r2 : List SOp := [⟨0, .p (.mov), [.v 6], none, false⟩,
      ⟨1, .p (.bin .geq), [.t 0, .c (.int .i64 0)], none, false⟩]
noncomputable def c56_r3 : List SOp := [⟨0, .p (.mov), [.v 0], none, false⟩,
      ⟨1, .p (.nilCheck), [.t 0], none, false⟩,
      ⟨2, .p (.fieldAddr 0), [.t 0], none, false⟩,
      ⟨3, .r (.load false 1), [.t 0], none, false⟩,
      ⟨4, .p (.mov), [.v 6], none, false⟩,
      ⟨5, .p (.idxAddrS 4), [.t 1, .t 0], none, false⟩,
      ⟨6, .r (.load true 4), [.t 0], none, false⟩,
      ⟨7, .a (.new [.int .i64 0, .int .i64 0, .int .i64 0, .int .i64 0]), [], none, false⟩,
      ⟨8, .w (.store 4), [.t 0, .t 1], none, false⟩]
noncomputable def c56_r4 : List SOp := [⟨0, .p (.fieldAddr 0), [.v 7], none, false⟩,
      ⟨1, .r (.load false 1), [.t 0], none, false⟩,
      ⟨2, .p (.mov), [.v 0], none, false⟩,
      ⟨3, .p (.nilCheck), [.t 0], none, false⟩,
      ⟨4, .p (.fieldAddr 0), [.t 0], none, false⟩,
      ⟨5, .r (.load false 1), [.t 0], none, false⟩,
      ⟨6, .p (.mov), [.v 2], none, false⟩,
      ⟨7, .p (.idxAddrS 4), [.t 1, .t 0], none, false⟩,
      ⟨8, .p (.fieldAddr 0), [.t 0], none, false⟩,
      ⟨9, .r (.load false 1), [.t 0], none, false⟩,
      ⟨10, .p (.bin .eql), [.t 8, .t 0], none, false⟩,
      ⟨11, .p (.mov), [.t 0], none, false⟩,
      ⟨12, .p (.fieldAddr 1), [.v 7], some (0, true), false⟩,
      ⟨13, .r (.load false 1), [.t 0], some (1, true), false⟩,
      ⟨14, .p (.bin .eql), [.t 0, .c (.int .i64 2)], some (2, true), false⟩,
      ⟨15, .p (.pick), [.t 3, .t 0, .c (.bool false)], none, false⟩,
      ⟨16, .p (.mov), [.t 0], none, false⟩,
      ⟨17, .p (.fieldAddr 2), [.v 7], some (0, true), false⟩,
      ⟨18, .r (.load false 1), [.t 0], some (1, true), false⟩,
      ⟨19, .p (.mov), [.v 0], some (2, true), false⟩,
      ⟨20, .p (.nilCheck), [.t 0], some (3, true), false⟩,
      ⟨21, .p (.fieldAddr 0), [.t 0], some (4, true), false⟩,
      ⟨22, .r (.load false 1), [.t 0], some (5, true), false⟩,
      ⟨23, .p (.mov), [.v 2], some (6, true), false⟩,
      ⟨24, .p (.idxAddrS 4), [.t 1, .t 0], some (7, true), false⟩,
      ⟨25, .p (.fieldAddr 2), [.t 0], some (8, true), false⟩,
      ⟨26, .r (.load false 1), [.t 0], some (9, true), false⟩,
      ⟨27, .p (.bin .eql), [.t 8, .t 0], some (10, true), false⟩,
      ⟨28, .p (.pick), [.t 11, .t 0, .c (.bool false)], none, false⟩,
      ⟨29, .p (.mov), [.t 0], none, false⟩,
      ⟨30, .p (.fieldAddr 0), [.v 3], some (0, true), false⟩,
      ⟨31, .r (.load false 1), [.t 0], some (1, true), false⟩,
      ⟨32, .p (.mov), [.v 6], some (2, true), false⟩,
      ⟨33, .p (.bin .shr), [.t 1, .t 0], some (3, true), false⟩,
      ⟨34, .p (.bin .and), [.t 0, .c (.int .u64 1)], some (4, true), false⟩,
      ⟨35, .p (.bin .eql), [.t 0, .c (.int .u64 0)], some (5, true), false⟩,
      ⟨36, .p (.pick), [.t 6, .t 0, .c (.bool false)], none, false⟩]
noncomputable def c56_r5 : List SOp := [⟨0, .p (.fieldAddr 3), [.v 7], none, false⟩,
      ⟨1, .r (.load false 1), [.t 0], none, false⟩,
      ⟨2, .p (.mov), [.t 0], none, false⟩,
      ⟨3, .p (.mov), [.c (.bool true)], none, false⟩]
noncomputable def c56_r6 : List SOp := [⟨0, .p (.mov), [.v 6], none, false⟩,
      ⟨1, .p (.bin .sub), [.t 0, .c (.int .i64 1)], none, false⟩,
      ⟨2, .p (.mov), [.t 0], none, false⟩]
noncomputable def c56_l7 : CCode := (.seq (.rcond c56_r2 [] 0
    .skip
    (.exit 0)) (.seq (.block 1 (.seq (.reg c56_r3 [(7, 1)]) (.rcond c56_r4 [] 0
    (.seq (.reg c56_r5 [(4, 1), (5, 0)]) .ret)
    .skip))) (.reg c56_r6 [(6, 0)])))
noncomputable def c56_r8 : List SOp := [⟨0, .p (.mov), [.c (.int .i64 0)], none, false⟩,
      ⟨1, .p (.mov), [.c (.bool false)], none, false⟩]
noncomputable def c56 : CFn := { nargs := 3, vars := [0, 1, 2, 4, 6, 7, 8, 9], results := [.var 4, .var 5], body := (.seq (.reg c56_r0 [(3, 2), (4, 1), (5, 0)]) (.seq (.seq (.reg c56_r1 [(6, 0)]) (.block 0 (.loop c56_l7))) (.seq (.reg c56_r8 [(4, 1), (5, 0)]) .ret))) }

/-- slices.AppendSeq[[]int,int] · variables 0:s, 1:seq, 2:s, 4:, 5:v, 6:, 7: -/
noncomputable def c57_r0 : List SOp := [⟨0, .a .box, [.v 0], none, false⟩,
      ⟨1, .p (.mov), [.c (.slice none 0 0)], none, false⟩]
noncomputable def c57_r1 : List SOp := [⟨0, .p (.mov), [.v 1], none, false⟩]
noncomputable def c57_r2 : List SOp := [⟨0, .p (.mov), [.v 6], none, false⟩]
noncomputable def c57_r3 : List SOp := [⟨0, .r (.load false 1), [.v 2], none, false⟩,
      ⟨1, .p (.mov), [.v 4], none, false⟩,
      ⟨2, .a (.bslice [.int .i64 0] [(0, 1)] 1 1), [.t 0], none, false⟩,
      ⟨3, .w (.append 1 8), [.t 2, .t 0], none, false⟩,
      ⟨4, .w (.store 1), [.v 2, .t 0], none, false⟩]
noncomputable def c57_a4 : CCode := (.reg c57_r2 [(4, 0)])
noncomputable def c57_b4 : CCode := (.block 1 (.reg c57_r3 []))
noncomputable def c57_r5 : List SOp := [⟨0, .r (.load false 1), [.v 2], none, false⟩,
      ⟨1, .p (.mov), [.t 0], none, false⟩]
noncomputable def c57 : CFn := { nargs := 2, vars := [0, 1, 2, 4, 5, 6, 7], results := [.var 3], body := (.seq (.reg c57_r0 [(2, 1), (3, 0)]) (.seq (.seq (.reg c57_r1 [(5, 0)]) (.block 0 (.range (.v 5) [6] c57_a4 c57_b4))) (.seq (.reg c57_r5 [(3, 0)]) .ret))) }

/-- slices.pdqsortOrdered[int] · variables 0:data, 1:a, 2:b, 3:limit, 8:wasBalanced, 9:wasPartitioned, 10:length, 11:pivot, 12:hint, 13:mid, 14:mid, 15:alreadyPartitioned, 16:leftLen, 17:rightLen, 18:balanceThreshold -/
noncomputable def c58_r0 : List SOp := [⟨0, .p (.mov), [.c (.bool true)], none, false⟩]
noncomputable def c58_r1 : List SOp := [⟨0, .p (.mov), [.c (.bool true)], none, false⟩]
noncomputable def c58_r2 : List SOp := [⟨0, .p (.mov), [.v 2], none, false⟩,
      ⟨1, .p (.mov), [.v 1], none, false⟩,
      ⟨2, .p (.bin .sub), [.t 1, .t 0], none, false⟩,
      ⟨3, .p (.mov), [.t 0], none, false⟩]
noncomputable def c58_r3 : List SOp := [⟨0, .p (.mov), [.v 6], none, false⟩,
      ⟨1, .p (.bin .leq), [.t 0, .c (.int .i64 12)], none, false⟩]
noncomputable def c58_r4 : List SOp := [⟨0, .p (.mov), [.v 0], none, false⟩,
      ⟨1, .p (.mov), [.v 1], none, false⟩,
      ⟨2, .p (.mov), [.v 2], none, false⟩,
      ⟨3, .call 60, [.t 2, .t 1, .t 0], none, false⟩]
noncomputable def c58_r5 : List SOp := [⟨0, .p (.mov), [.v 3], none, false⟩,
      ⟨1, .p (.bin .eql), [.t 0, .c (.int .i64 0)], none, false⟩]
noncomputable def c58_r6 : List SOp := [⟨0, .p (.mov), [.v 0], none, false⟩,
      ⟨1, .p (.mov), [.v 1], none, false⟩,
      ⟨2, .p (.mov), [.v 2], none, false⟩,
      ⟨3, .call 61, [.t 2, .t 1, .t 0], none, false⟩]
noncomputable def c58_r7 : List SOp := [⟨0, .p (.mov), [.v 4], none, false⟩,
      ⟨1, .p (.un .not), [.t 0], none, false⟩]
noncomputable def c58_r8 : List SOp := [⟨0, .p (.mov), [.v 0], none, false⟩,
      ⟨1, .p (.mov), [.v 1], none, false⟩,
      ⟨2, .p (.mov), [.v 2], none, false⟩,
      ⟨3, .call 62, [.t 2, .t 1, .t 0], none, false⟩]
noncomputable def c58_r9 : List SOp := [⟨0, .p (.mov), [.v 3], none, false⟩,
      ⟨1, .p (.bin .sub), [.t 0, .c (.int .i64 1)], none, false⟩,
      ⟨2, .p (.mov), [.t 0], none, false⟩]
noncomputable def c58_r10 : List SOp := [⟨0, .p (.mov), [.v 0], none, false⟩,
      ⟨1, .p (.mov), [.v 1], none, false⟩,
      ⟨2, .p (.mov), [.v 2], none, false⟩,
      ⟨3, .call 63, [.t 2, .t 1, .t 0], none, false⟩,
      ⟨4, .p (.mov), [.t 0], none, false⟩,
      ⟨5, .p (.extract 0), [.t 0], none, false⟩,
      ⟨6, .p (.extract 1), [.t 1], none, false⟩,
      ⟨7, .p (.mov), [.t 1], none, false⟩,
      ⟨8, .p (.mov), [.t 1], none, false⟩]
noncomputable def c58_r11 : List SOp := [⟨0, .p (.mov), [.v 8], none, false⟩,
      ⟨1, .p (.bin .eql), [.t 0, .c (.int .i64 2)], none, false⟩]
noncomputable def c58_r12 : List SOp := [⟨0, .p (.mov), [.v 0], none, false⟩,
      ⟨1, .p (.mov), [.v 1], none, false⟩,
      ⟨2, .p (.mov), [.v 2], none, false⟩,
      ⟨3, .call 64, [.t 2, .t 1, .t 0], none, false⟩]
noncomputable def c58_r13 : List SOp := [⟨0, .p (.mov), [.v 2], none, false⟩,
      ⟨1, .p (.bin .sub), [.t 0, .c (.int .i64 1)], none, false⟩,
      ⟨2, .p (.mov), [.v 7], none, false⟩,
      ⟨3, .p (.mov), [.v 1], none, false⟩,
      ⟨4, .p (.bin .sub), [.t 1, .t 0], none, false⟩,
      ⟨5, .p (.bin .sub), [.t 3, .t 0], none, false⟩,
      ⟨6, .p (.mov), [.t 0], none, false⟩]
noncomputable def c58_r14 : List SOp := [⟨0, .p (.mov), [.c (.int .i64 1)], none, false⟩]
noncomputable def c58_r15 : List SOp := [⟨0, .p (.mov), [.v 4], none, false⟩,
      ⟨1, .p (.mov), [.t 0], none, false⟩,
      ⟨2, .p (.mov), [.v 5], some (0, true), false⟩,
      ⟨3, .p (.pick), [.t 1, .t 0, .c (.bool false)], none, false⟩,
      ⟨4, .p (.mov), [.t 0], none, false⟩,
      ⟨5, .p (.mov), [.v 8], some (0, true), false⟩,
      ⟨6, .p (.bin .eql), [.t 0, .c (.int .i64 1)], some (1, true), false⟩,
      ⟨7, .p (.pick), [.t 2, .t 0, .c (.bool false)], none, false⟩]
noncomputable def c58_r16 : List SOp := [⟨0, .p (.mov), [.v 0], none, false⟩,
      ⟨1, .p (.mov), [.v 1], none, false⟩,
      ⟨2, .p (.mov), [.v 2], none, false⟩,
      ⟨3, .call 65, [.t 2, .t 1, .t 0], none, false⟩]
noncomputable def c58_r17 : List SOp := [⟨0, .p (.mov), [.v 1], none, false⟩,
      ⟨1, .p (.bin .gtr), [.t 0, .c (.int .i64 0)], none, false⟩,
      ⟨2, .p (.mov), [.t 0], none, false⟩,
      ⟨3, .p (.mov), [.v 0], some (0, true), false⟩,
      ⟨4, .p (.mov), [.v 1], some (1, true), false⟩,
      ⟨5, .p (.bin .sub), [.t 0, .c (.int .i64 1)], some (2, true), false⟩,
      ⟨6, .p (.idxAddrS 1), [.t 2, .t 0], some (3, true), false⟩,
      ⟨7, .r (.load false 1), [.t 0], some (4, true), false⟩,
      ⟨8, .p (.mov), [.v 0], some (5, true), false⟩,
      ⟨9, .p (.mov), [.v 7], some (6, true), false⟩,
      ⟨10, .p (.idxAddrS 1), [.t 1, .t 0], some (7, true), false⟩,
      ⟨11, .r (.load false 1), [.t 0], some (8, true), false⟩,
      ⟨12, .call 66, [.t 4, .t 0], some (9, true), false⟩,
      ⟨13, .p (.un .not), [.t 0], some (10, true), false⟩,
      ⟨14, .p (.pick), [.t 11, .t 0, .c (.bool false)], none, false⟩]
noncomputable def c58_r18 : List SOp := [⟨0, .p (.mov), [.v 0], none, false⟩,
      ⟨1, .p (.mov), [.v 1], none, false⟩,
      ⟨2, .p (.mov), [.v 2], none, false⟩,
      ⟨3, .p (.mov), [.v 7], none, false⟩,
      ⟨4, .call 67, [.t 3, .t 2, .t 1, .t 0], none, false⟩,
      ⟨5, .p (.mov), [.t 0], none, false⟩]
noncomputable def c58_r19 : List SOp := [⟨0, .p (.mov), [.v 9], none, false⟩,
      ⟨1, .p (.mov), [.t 0], none, false⟩]
noncomputable def c58_r20 : List SOp := [⟨0, .p (.mov), [.v 0], none, false⟩,
      ⟨1, .p (.mov), [.v 1], none, false⟩,
      ⟨2, .p (.mov), [.v 2], none, false⟩,
      ⟨3, .p (.mov), [.v 7], none, false⟩,
      ⟨4, .call 68, [.t 3, .t 2, .t 1, .t 0], none, false⟩,
      ⟨5, .p (.mov), [.t 0], none, false⟩,
      ⟨6, .p (.extract 0), [.t 0], none, false⟩,
      ⟨7, .p (.extract 1), [.t 1], none, false⟩,
      ⟨8, .p (.mov), [.t 1], none, false⟩,
      ⟨9, .p (.mov), [.t 1], none, false⟩]
noncomputable def c58_r21 : List SOp := [⟨0, .p (.mov), [.v 11], none, false⟩,
      ⟨1, .p (.mov), [.t 0], none, false⟩]
noncomputable def c58_r22 : List SOp := [⟨0, .p (.mov), [.v 10], none, false⟩,
      ⟨1, .p (.mov), [.v 1], none, false⟩,
      ⟨2, .p (.bin .sub), [.t 1, .t 0], none, false⟩,
      ⟨3, .p (.mov), [.v 2], none, false⟩,
      ⟨4, .p (.mov), [.v 10], none, false⟩,
      ⟨5, .p (.bin .sub), [.t 1, .t 0], none, false⟩,
      ⟨6, .p (.mov), [.t 3], none, false⟩,
      ⟨7, .p (.mov), [.t 1], none, false⟩]
noncomputable def c58_r23 : List SOp := [⟨0, .p (.mov), [.v 6], none, false⟩,
      ⟨1, .p (.bin .quo), [.t 0, .c (.int .i64 8)], none, false⟩,
      ⟨2, .p (.mov), [.t 0], none, false⟩]
noncomputable def c58_r24 : List SOp := [⟨0, .p (.mov), [.v 12], none, false⟩,
      ⟨1, .p (.mov), [.v 13], none, false⟩,
      ⟨2, .p (.bin .lss), [.t 1, .t 0], none, false⟩]
noncomputable def c58_r25 : List SOp := [⟨0, .p (.mov), [.v 12], none, false⟩,
      ⟨1, .p (.mov), [.v 14], none, false⟩,
      ⟨2, .p (.bin .geq), [.t 1, .t 0], none, false⟩,
      ⟨3, .p (.mov), [.t 0], none, false⟩]
noncomputable def c58_r26 : List SOp := [⟨0, .p (.mov), [.v 0], none, false⟩,
      ⟨1, .p (.mov), [.v 1], none, false⟩,
      ⟨2, .p (.mov), [.v 10], none, false⟩,
      ⟨3, .p (.mov), [.v 3], none, false⟩,
      ⟨4, .call 58, [.t 3, .t 2, .t 1, .t 0], none, false⟩]
noncomputable def c58_r27 : List SOp := [⟨0, .p (.mov), [.v 10], none, false⟩,
      ⟨1, .p (.bin .add), [.t 0, .c (.int .i64 1)], none, false⟩,
      ⟨2, .p (.mov), [.t 0], none, false⟩]
noncomputable def c58_r28 : List SOp := [⟨0, .p (.mov), [.v 13], none, false⟩,
      ⟨1, .p (.mov), [.v 14], none, false⟩,
      ⟨2, .p (.bin .geq), [.t 1, .t 0], none, false⟩,
      ⟨3, .p (.mov), [.t 0], none, false⟩]
noncomputable def c58_r29 : List SOp := [⟨0, .p (.mov), [.v 0], none, false⟩,
      ⟨1, .p (.mov), [.v 10], none, false⟩,
      ⟨2, .p (.bin .add), [.t 0, .c (.int .i64 1)], none, false⟩,
      ⟨3, .p (.mov), [.v 2], none, false⟩,
      ⟨4, .p (.mov), [.v 3], none, false⟩,
      ⟨5, .call 58, [.t 4, .t 2, .t 1, .t 0], none, false⟩]
noncomputable def c58_r30 : List SOp := [⟨0, .p (.mov), [.v 10], none, false⟩,
      ⟨1, .p (.mov), [.t 0], none, false⟩]
noncomputable def c58_l31 : CCode := (.block 1 (.seq (.reg c58_r2 [(6, 0)]) (.seq (.rcond c58_r3 [] 0
    (.seq (.reg c58_r4 []) .ret)
    .skip) (.seq (.rcond c58_r5 [] 0
    (.seq (.reg c58_r6 []) .ret)
    .skip) (.seq (.rcond c58_r7 [] 0
    (.seq (.reg c58_r8 []) (.reg c58_r9 [(3, 0)]))
    .skip) (.seq (.reg c58_r10 [(7, 1), (8, 0)]) (.seq (.rcond c58_r11 [] 0
    (.seq (.reg c58_r12 []) (.seq (.reg c58_r13 [(7, 0)]) (.reg c58_r14 [(8, 0)])))
    .skip) (.seq (.rcond c58_r15 [] 0
    (.rcond c58_r16 [] 0
    .ret
    .skip)
    .skip) (.seq (.rcond c58_r17 [] 0
    (.seq (.reg c58_r18 [(9, 0)]) (.seq (.reg c58_r19 [(1, 0)]) (.exit 1)))
    .skip) (.seq (.reg c58_r20 [(10, 1), (11, 0)]) (.seq (.reg c58_r21 [(5, 0)]) (.seq (.reg c58_r22 [(12, 1), (13, 0)]) (.seq (.reg c58_r23 [(14, 0)]) (.rcond c58_r24 [] 0
    (.seq (.reg c58_r25 [(4, 0)]) (.seq (.reg c58_r26 []) (.reg c58_r27 [(1, 0)])))
    (.seq (.reg c58_r28 [(4, 0)]) (.seq (.reg c58_r29 []) (.reg c58_r30 [(2, 0)])))))))))))))))))
noncomputable def c58 : CFn := { nargs := 4, vars := [0, 1, 2, 3, 8, 9, 10, 11, 12, 13, 14, 15, 16, 17, 18], results := [], body := (.seq (.reg c58_r0 [(4, 0)]) (.seq (.reg c58_r1 [(5, 0)]) (.block 0 (.loop c58_l31)))) }

/-- math/bits.Len · variables 0:x, 2: -/
noncomputable def c59_r0 : List SOp := [⟨0, .p (.mov), [.c (.int .i64 0)], none, false⟩]
noncomputable def c59_r1 : List SOp := [⟨0, .p (.mov), [.v 0], none, false⟩,
      ⟨1, .p (.conv .u32), [.t 0], none, false⟩,
      ⟨2, .call 69, [.t 0], none, false⟩,
      ⟨3, .p (.mov), [.t 0], none, false⟩]
noncomputable def c59_r2 : List SOp := [⟨0, .p (.mov), [.v 0], none, false⟩,
      ⟨1, .call 70, [.t 0], none, false⟩,
      ⟨2, .p (.mov), [.t 0], none, false⟩]
noncomputable def c59 : CFn := { nargs := 1, vars := [0, 2], results := [.var 1], body := (.seq (.reg c59_r0 [(1, 0)]) (.seq (.cond (.c (.bool false)) (.seq (.reg c59_r1 [(1, 0)]) .ret) .skip) (.seq (.reg c59_r2 [(1, 0)]) .ret))) }

/-- slices.insertionSortOrdered[int] · variables 0:data, 1:a, 2:b, 6:i, 7:j -/
noncomputable def c60_r0 : List SOp := [⟨0, .p (.mov), [.v 1], none, false⟩,
      ⟨1, .p (.bin .add), [.t 0, .c (.int .i64 1)], none, false⟩,
      ⟨2, .p (.mov), [.t 0], none, false⟩]
noncomputable def c60_r1 : List SOp := [⟨0, .p (.mov), [.v 3], none, false⟩,
      ⟨1, .p (.mov), [.v 2], none, false⟩,
      ⟨2, .p (.bin .lss), [.t 1, .t 0], none, false⟩]
noncomputable def c60_r2 : List SOp := [⟨0, .p (.mov), [.v 3], none, false⟩,
      ⟨1, .p (.mov), [.t 0], none, false⟩]
noncomputable def c60_r3 : List SOp := [⟨0, .p (.mov), [.v 4], none, false⟩,
      ⟨1, .p (.mov), [.v 1], none, false⟩,
      ⟨2, .p (.bin .gtr), [.t 1, .t 0], none, false⟩,
      ⟨3, .p (.mov), [.t 0], none, false⟩,
      ⟨4, .p (.mov), [.v 0], some (0, true), false⟩,
      ⟨5, .p (.mov), [.v 4], some (1, true), false⟩,
      ⟨6, .p (.idxAddrS 1), [.t 1, .t 0], some (2, true), false⟩,
      ⟨7, .r (.load false 1), [.t 0], some (3, true), false⟩,
      ⟨8, .p (.mov), [.v 0], some (4, true), false⟩,
      ⟨9, .p (.mov), [.v 4], some (5, true), false⟩,
      ⟨10, .p (.bin .sub), [.t 0, .c (.int .i64 1)], some (6, true), false⟩,
      ⟨11, .p (.idxAddrS 1), [.t 2, .t 0], some (7, true), false⟩,
      ⟨12, .r (.load false 1), [.t 0], some (8, true), false⟩,
      ⟨13, .call 66, [.t 5, .t 0], some (9, true), false⟩,
      ⟨14, .p (.pick), [.t 10, .t 0, .c (.bool false)], none, false⟩]
noncomputable def c60_r4 : List SOp := [⟨0, .p (.mov), [.v 0], none, false⟩,
      ⟨1, .p (.mov), [.v 4], none, false⟩,
      ⟨5, .p (.mov), [.v 0], none, false⟩,
      ⟨6, .p (.mov), [.v 4], none, false⟩,
      ⟨7, .p (.bin .sub), [.t 0, .c (.int .i64 1)], none, false⟩,
      ⟨8, .p (.idxAddrS 1), [.t 2, .t 0], none, false⟩,
      ⟨9, .r (.load false 1), [.t 0], none, false⟩,
      ⟨10, .p (.mov), [.v 0], none, false⟩,
      ⟨11, .p (.mov), [.v 4], none, false⟩,
      ⟨12, .p (.idxAddrS 1), [.t 1, .t 0], none, false⟩,
      ⟨13, .r (.load false 1), [.t 0], none, false⟩,
      ⟨14, .p (.idxAddrS 1), [.t 10, .t 9], none, false⟩,
      ⟨15, .w (.store 1), [.t 0, .t 5], none, false⟩,
      ⟨2, .p (.mov), [.v 0], none, false⟩,
      ⟨3, .p (.mov), [.v 4], none, false⟩,
      ⟨4, .p (.bin .sub), [.t 0, .c (.int .i64 1)], none, false⟩,
      ⟨16, .p (.idxAddrS 1), [.t 2, .t 0], none, false⟩,
      ⟨17, .w (.store 1), [.t 0, .t 6], none, false⟩]
noncomputable def c60_r5 : List SOp := [⟨0, .p (.mov), [.v 4], none, false⟩,
      ⟨1, .p (.bin .sub), [.t 0, .c (.int .i64 1)], none, false⟩,
      ⟨2, .p (.mov), [.t 0], none, false⟩]
noncomputable def c60_l6 : CCode := (.seq (.rcond c60_r3 [] 0
    .skip
    (.exit 2)) (.seq (.block 3 (.reg c60_r4 [])) (.reg c60_r5 [(4, 0)])))
noncomputable def c60_r7 : List SOp := [⟨0, .p (.mov), [.v 3], none, false⟩,
      ⟨1, .p (.bin .add), [.t 0, .c (.int .i64 1)], none, false⟩,
      ⟨2, .p (.mov), [.t 0], none, false⟩]
noncomputable def c60_l8 : CCode := (.seq (.rcond c60_r1 [] 0
    .skip
    (.exit 0)) (.seq (.block 1 (.seq (.reg c60_r2 [(4, 0)]) (.block 2 (.loop c60_l6)))) (.reg c60_r7 [(3, 0)])))
noncomputable def c60 : CFn := { nargs := 3, vars := [0, 1, 2, 6, 7], results := [], body := (.seq (.reg c60_r0 [(3, 0)]) (.block 0 (.loop c60_l8))) }

/-- math/bits.Len32 · variables 0:x, 2:n -/
noncomputable def c69_r0 : List SOp := [⟨0, .p (.mov), [.c (.int .i64 0)], none, false⟩]
noncomputable def c69_r1 : List SOp := [⟨0, .p (.mov), [.v 0], none, false⟩,
      ⟨1, .p (.bin .geq), [.t 0, .c (.int .u32 65536)], none, false⟩]
noncomputable def c69_r2 : List SOp := [⟨0, .p (.mov), [.v 0], none, false⟩,
      ⟨1, .p (.bin .shr), [.t 0, .c (.int .u64 16)], none, false⟩,
      ⟨2, .p (.mov), [.t 0], none, false⟩]
noncomputable def c69_r3 : List SOp := [⟨0, .p (.mov), [.c (.int .i64 16)], none, false⟩]
noncomputable def c69_r4 : List SOp := [⟨0, .p (.mov), [.v 0], none, false⟩,
      ⟨1, .p (.bin .geq), [.t 0, .c (.int .u32 256)], none, false⟩]
noncomputable def c69_r5 : List SOp := [⟨0, .p (.mov), [.v 0], none, false⟩,
      ⟨1, .p (.bin .shr), [.t 0, .c (.int .u64 8)], none, false⟩,
      ⟨2, .p (.mov), [.t 0], none, false⟩]
noncomputable def c69_r6 : List SOp := [⟨0, .p (.mov), [.v 1], none, false⟩,
      ⟨1, .p (.bin .add), [.t 0, .c (.int .i64 8)], none, false⟩,
      ⟨2, .p (.mov), [.t 0], none, false⟩]
noncomputable def c69_r7 : List SOp := [⟨0, .p (.mov), [.v 1], none, false⟩,
      ⟨1, .p (.mov), [.v 0], none, false⟩,
      ⟨2, .p (.conv .u8), [.t 0], none, false⟩,
      ⟨3, .p (.idxStr), [.c (.string ⟨#[0, 1, 2, 2, 3, 3, 3, 3, 4, 4, 4, 4, 4, 4, 4, 4, 5, 5, 5, 5, 5, 5, 5, 5, 5, 5, 5, 5, 5, 5, 5, 5, 6, 6, 6, 6, 6, 6, 6, 6, 6, 6, 6, 6, 6, 6, 6, 6, 6, 6, 6, 6, 6, 6, 6, 6, 6, 6, 6, 6, 6, 6, 6, 6, 7, 7, 7, 7, 7, 7, 7, 7, 7, 7, 7, 7, 7, 7, 7, 7, 7, 7, 7, 7, 7, 7, 7, 7, 7, 7, 7, 7, 7, 7, 7, 7, 7, 7, 7, 7, 7, 7, 7, 7, 7, 7, 7, 7, 7, 7, 7, 7, 7, 7, 7, 7, 7, 7, 7, 7, 7, 7, 7, 7, 7, 7, 7, 7, 8, 8, 8, 8, 8, 8, 8, 8, 8, 8, 8, 8, 8, 8, 8, 8, 8, 8, 8, 8, 8, 8, 8, 8, 8, 8, 8, 8, 8, 8, 8, 8, 8, 8, 8, 8, 8, 8, 8, 8, 8, 8, 8, 8, 8, 8, 8, 8, 8, 8, 8, 8, 8, 8, 8, 8, 8, 8, 8, 8, 8, 8, 8, 8, 8, 8, 8, 8, 8, 8, 8, 8, 8, 8, 8, 8, 8, 8, 8, 8, 8, 8, 8, 8, 8, 8, 8, 8, 8, 8, 8, 8, 8, 8, 8, 8, 8, 8, 8, 8, 8, 8, 8, 8, 8, 8, 8, 8, 8, 8, 8, 8, 8, 8, 8, 8, 8, 8, 8, 8, 8, 8, 8, 8, 8, 8, 8, 8]⟩), .t 0], none, false⟩,
      ⟨4, .p (.conv .i64), [.t 0], none, false⟩,
      ⟨5, .p (.bin .add), [.t 4, .t 0], none, false⟩,
      ⟨6, .p (.mov), [.t 0], none, false⟩]
noncomputable def c69 : CFn := { nargs := 1, vars := [0, 2], results := [.var 1], body := (.seq (.reg c69_r0 [(1, 0)]) (.seq (.rcond c69_r1 [] 0
    (.seq (.reg c69_r2 [(0, 0)]) (.reg c69_r3 [(1, 0)]))
    .skip) (.seq (.rcond c69_r4 [] 0
    (.seq (.reg c69_r5 [(0, 0)]) (.reg c69_r6 [(1, 0)]))
    .skip) (.seq (.reg c69_r7 [(1, 0)]) .ret)))) }

/-- math/bits.Len64 · variables 0:x, 2:n -/
noncomputable def c70_r0 : List SOp := [⟨0, .p (.mov), [.c (.int .i64 0)], none, false⟩]
noncomputable def c70_r1 : List SOp := [⟨0, .p (.mov), [.v 0], none, false⟩,
      ⟨1, .p (.bin .geq), [.t 0, .c (.int .u64 4294967296)], none, false⟩]
noncomputable def c70_r2 : List SOp := [⟨0, .p (.mov), [.v 0], none, false⟩,
      ⟨1, .p (.bin .shr), [.t 0, .c (.int .u64 32)], none, false⟩,
      ⟨2, .p (.mov), [.t 0], none, false⟩]
noncomputable def c70_r3 : List SOp := [⟨0, .p (.mov), [.c (.int .i64 32)], none, false⟩]
noncomputable def c70_r4 : List SOp := [⟨0, .p (.mov), [.v 0], none, false⟩,
      ⟨1, .p (.bin .geq), [.t 0, .c (.int .u64 65536)], none, false⟩]
noncomputable def c70_r5 : List SOp := [⟨0, .p (.mov), [.v 0], none, false⟩,
      ⟨1, .p (.bin .shr), [.t 0, .c (.int .u64 16)], none, false⟩,
      ⟨2, .p (.mov), [.t 0], none, false⟩]
noncomputable def c70_r6 : List SOp := [⟨0, .p (.mov), [.v 1], none, false⟩,
      ⟨1, .p (.bin .add), [.t 0, .c (.int .i64 16)], none, false⟩,
      ⟨2, .p (.mov), [.t 0], none, false⟩]
noncomputable def c70_r7 : List SOp := [⟨0, .p (.mov), [.v 0], none, false⟩,
      ⟨1, .p (.bin .geq), [.t 0, .c (.int .u64 256)], none, false⟩]
noncomputable def c70_r8 : List SOp := [⟨0, .p (.mov), [.v 0], none, false⟩,
      ⟨1, .p (.bin .shr), [.t 0, .c (.int .u64 8)], none, false⟩,
      ⟨2, .p (.mov), [.t 0], none, false⟩]
noncomputable def c70_r9 : List SOp := [⟨0, .p (.mov), [.v 1], none, false⟩,
      ⟨1, .p (.bin .add), [.t 0, .c (.int .i64 8)], none, false⟩,
      ⟨2, .p (.mov), [.t 0], none, false⟩]
noncomputable def c70_r10 : List SOp := [⟨0, .p (.mov), [.v 1], none, false⟩,
      ⟨1, .p (.mov), [.v 0], none, false⟩,
      ⟨2, .p (.conv .u8), [.t 0], none, false⟩,
      ⟨3, .p (.idxStr), [.c (.string ⟨#[0, 1, 2, 2, 3, 3, 3, 3, 4, 4, 4, 4, 4, 4, 4, 4, 5, 5, 5, 5, 5, 5, 5, 5, 5, 5, 5, 5, 5, 5, 5, 5, 6, 6, 6, 6, 6, 6, 6, 6, 6, 6, 6, 6, 6, 6, 6, 6, 6, 6, 6, 6, 6, 6, 6, 6, 6, 6, 6, 6, 6, 6, 6, 6, 7, 7, 7, 7, 7, 7, 7, 7, 7, 7, 7, 7, 7, 7, 7, 7, 7, 7, 7, 7, 7, 7, 7, 7, 7, 7, 7, 7, 7, 7, 7, 7, 7, 7, 7, 7, 7, 7, 7, 7, 7, 7, 7, 7, 7, 7, 7, 7, 7, 7, 7, 7, 7, 7, 7, 7, 7, 7, 7, 7, 7, 7, 7, 7, 8, 8, 8, 8, 8, 8, 8, 8, 8, 8, 8, 8, 8, 8, 8, 8, 8, 8, 8, 8, 8, 8, 8, 8, 8, 8, 8, 8, 8, 8, 8, 8, 8, 8, 8, 8, 8, 8, 8, 8, 8, 8, 8, 8, 8, 8, 8, 8, 8, 8, 8, 8, 8, 8, 8, 8, 8, 8, 8, 8, 8, 8, 8, 8, 8, 8, 8, 8, 8, 8, 8, 8, 8, 8, 8, 8, 8, 8, 8, 8, 8, 8, 8, 8, 8, 8, 8, 8, 8, 8, 8, 8, 8, 8, 8, 8, 8, 8, 8, 8, 8, 8, 8, 8, 8, 8, 8, 8, 8, 8, 8, 8, 8, 8, 8, 8, 8, 8, 8, 8, 8, 8, 8, 8, 8, 8, 8, 8]⟩), .t 0], none, false⟩,
      ⟨4, .p (.conv .i64), [.t 0], none, false⟩,
      ⟨5, .p (.bin .add), [.t 4, .t 0], none, false⟩,
      ⟨6, .p (.mov), [.t 0], none, false⟩]
noncomputable def c70 : CFn := { nargs := 1, vars := [0, 2], results := [.var 1], body := (.seq (.reg c70_r0 [(1, 0)]) (.seq (.rcond c70_r1 [] 0
    (.seq (.reg c70_r2 [(0, 0)]) (.reg c70_r3 [(1, 0)]))
    .skip) (.seq (.rcond c70_r4 [] 0
    (.seq (.reg c70_r5 [(0, 0)]) (.reg c70_r6 [(1, 0)]))
    .skip) (.seq (.rcond c70_r7 [] 0
    (.seq (.reg c70_r8 [(0, 0)]) (.reg c70_r9 [(1, 0)]))
    .skip) (.seq (.reg c70_r10 [(1, 0)]) .ret))))) }

theorem ok3 : FnOk Try.prog 3 c3 := compF_ok (na := c3.nargs) (vars := c3.vars) (by kernel_rfl)
theorem ok4 : FnOk Try.prog 4 c4 := compF_ok (na := c4.nargs) (vars := c4.vars) (by kernel_rfl)
theorem ok5 : FnOk Try.prog 5 c5 := compF_ok (na := c5.nargs) (vars := c5.vars) (by kernel_rfl)
theorem ok6 : FnOk Try.prog 6 c6 := compF_ok (na := c6.nargs) (vars := c6.vars) (by kernel_rfl)
theorem ok7 : FnOk Try.prog 7 c7 := compF_ok (na := c7.nargs) (vars := c7.vars) (by kernel_rfl)
theorem ok8 : FnOk Try.prog 8 c8 := compF_ok (na := c8.nargs) (vars := c8.vars) (by kernel_rfl)
theorem ok9 : FnOk Try.prog 9 c9 := compF_ok (na := c9.nargs) (vars := c9.vars) (by kernel_rfl)
theorem ok10 : FnOk Try.prog 10 c10 := compF_ok (na := c10.nargs) (vars := c10.vars) (by kernel_rfl)
theorem ok11 : FnOk Try.prog 11 c11 := compF_ok (na := c11.nargs) (vars := c11.vars) (by kernel_rfl)
theorem ok12 : FnOk Try.prog 12 c12 := compF_ok (na := c12.nargs) (vars := c12.vars) (by kernel_rfl)
theorem ok13 : FnOk Try.prog 13 c13 := compF_ok (na := c13.nargs) (vars := c13.vars) (by kernel_rfl)
theorem ok14 : FnOk Try.prog 14 c14 := compF_ok (na := c14.nargs) (vars := c14.vars) (by kernel_rfl)
theorem ok15 : FnOk Try.prog 15 c15 := compF_ok (na := c15.nargs) (vars := c15.vars) (by kernel_rfl)
theorem ok16 : FnOk Try.prog 16 c16 := compF_ok (na := c16.nargs) (vars := c16.vars) (by kernel_rfl)
theorem ok17 : FnOk Try.prog 17 c17 := compF_ok (na := c17.nargs) (vars := c17.vars) (by kernel_rfl)
theorem ok18 : FnOk Try.prog 18 c18 := compF_ok (na := c18.nargs) (vars := c18.vars) (by kernel_rfl)
theorem ok19 : FnOk Try.prog 19 c19 := compF_ok (na := c19.nargs) (vars := c19.vars) (by kernel_rfl)
theorem ok20 : FnOk Try.prog 20 c20 := compF_ok (na := c20.nargs) (vars := c20.vars) (by kernel_rfl)
theorem ok21 : FnOk Try.prog 21 c21 := compF_ok (na := c21.nargs) (vars := c21.vars) (by kernel_rfl)
theorem ok22 : FnOk Try.prog 22 c22 := compF_ok (na := c22.nargs) (vars := c22.vars) (by kernel_rfl)
theorem ok23 : FnOk Try.prog 23 c23 := compF_ok (na := c23.nargs) (vars := c23.vars) (by kernel_rfl)
theorem ok24 : FnOk Try.prog 24 c24 := compF_ok (na := c24.nargs) (vars := c24.vars) (by kernel_rfl)
theorem ok25 : FnOk Try.prog 25 c25 := compF_ok (na := c25.nargs) (vars := c25.vars) (by kernel_rfl)
theorem ok26 : FnOk Try.prog 26 c26 := compF_ok (na := c26.nargs) (vars := c26.vars) (by kernel_rfl)
theorem ok27 : FnOk Try.prog 27 c27 := compF_ok (na := c27.nargs) (vars := c27.vars) (by kernel_rfl)
theorem ok28 : FnOk Try.prog 28 c28 := compF_ok (na := c28.nargs) (vars := c28.vars) (by kernel_rfl)
theorem ok29 : FnOk Try.prog 29 c29 := compF_ok (na := c29.nargs) (vars := c29.vars) (by kernel_rfl)
theorem ok30 : FnOk Try.prog 30 c30 := compF_ok (na := c30.nargs) (vars := c30.vars) (by kernel_rfl)
theorem ok31 : FnOk Try.prog 31 c31 := compF_ok (na := c31.nargs) (vars := c31.vars) (by kernel_rfl)
theorem ok32 : FnOk Try.prog 32 c32 := compF_ok (na := c32.nargs) (vars := c32.vars) (by kernel_rfl)
theorem ok33 : FnOk Try.prog 33 c33 := compF_ok (na := c33.nargs) (vars := c33.vars) (by kernel_rfl)
theorem ok34 : FnOk Try.prog 34 c34 := compF_ok (na := c34.nargs) (vars := c34.vars) (by kernel_rfl)
theorem ok35 : FnOk Try.prog 35 c35 := compF_ok (na := c35.nargs) (vars := c35.vars) (by kernel_rfl)
theorem ok36 : FnOk Try.prog 36 c36 := compF_ok (na := c36.nargs) (vars := c36.vars) (by kernel_rfl)
theorem ok37 : FnOk Try.prog 37 c37 := compF_ok (na := c37.nargs) (vars := c37.vars) (by kernel_rfl)
theorem ok38 : FnOk Try.prog 38 c38 := compF_ok (na := c38.nargs) (vars := c38.vars) (by kernel_rfl)
theorem ok39 : FnOk Try.prog 39 c39 := compF_ok (na := c39.nargs) (vars := c39.vars) (by kernel_rfl)
theorem ok40 : FnOk Try.prog 40 c40 := compF_ok (na := c40.nargs) (vars := c40.vars) (by kernel_rfl)
theorem ok41 : FnOk Try.prog 41 c41 := compF_ok (na := c41.nargs) (vars := c41.vars) (by kernel_rfl)
theorem ok42 : FnOk Try.prog 42 c42 := compF_ok (na := c42.nargs) (vars := c42.vars) (by kernel_rfl)
theorem ok43 : FnOk Try.prog 43 c43 := compF_ok (na := c43.nargs) (vars := c43.vars) (by kernel_rfl)
theorem ok44 : FnOk Try.prog 44 c44 := compF_ok (na := c44.nargs) (vars := c44.vars) (by kernel_rfl)
theorem ok45 : FnOk Try.prog 45 c45 := compF_ok (na := c45.nargs) (vars := c45.vars) (by kernel_rfl)
theorem ok46 : FnOk Try.prog 46 c46 := compF_ok (na := c46.nargs) (vars := c46.vars) (by kernel_rfl)
theorem ok47 : FnOk Try.prog 47 c47 := compF_ok (na := c47.nargs) (vars := c47.vars) (by kernel_rfl)
theorem ok48 : FnOk Try.prog 48 c48 := compF_ok (na := c48.nargs) (vars := c48.vars) (by kernel_rfl)
theorem ok49 : FnOk Try.prog 49 c49 := compF_ok (na := c49.nargs) (vars := c49.vars) (by kernel_rfl)
theorem ok50 : FnOk Try.prog 50 c50 := compF_ok (na := c50.nargs) (vars := c50.vars) (by kernel_rfl)
theorem ok51 : FnOk Try.prog 51 c51 := compF_ok (na := c51.nargs) (vars := c51.vars) (by kernel_rfl)
theorem ok52 : FnOk Try.prog 52 c52 := compF_ok (na := c52.nargs) (vars := c52.vars) (by kernel_rfl)
theorem ok53 : FnOk Try.prog 53 c53 := compF_ok (na := c53.nargs) (vars := c53.vars) (by kernel_rfl)
theorem ok54 : FnOk Try.prog 54 c54 := compF_ok (na := c54.nargs) (vars := c54.vars) (by kernel_rfl)
theorem ok55 : FnOk Try.prog 55 c55 := compF_ok (na := c55.nargs) (vars := c55.vars) (by kernel_rfl)
theorem ok56 : FnOk Try.prog 56 c56 := compF_ok (na := c56.nargs) (vars := c56.vars) (by kernel_rfl)
theorem ok57 : FnOk Try.prog 57 c57 := compF_ok (na := c57.nargs) (vars := c57.vars) (by kernel_rfl)
theorem ok58 : FnOk Try.prog 58 c58 := compF_ok (na := c58.nargs) (vars := c58.vars) (by kernel_rfl)
theorem ok59 : FnOk Try.prog 59 c59 := compF_ok (na := c59.nargs) (vars := c59.vars) (by kernel_rfl)
theorem ok60 : FnOk Try.prog 60 c60 := compF_ok (na := c60.nargs) (vars := c60.vars) (by kernel_rfl)
theorem ok69 : FnOk Try.prog 69 c69 := compF_ok (na := c69.nargs) (vars := c69.vars) (by kernel_rfl)
theorem ok70 : FnOk Try.prog 70 c70 := compF_ok (na := c70.nargs) (vars := c70.vars) (by kernel_rfl)
theorem fol : Try.prog.follows .mixedOrders = true := by kernel_rfl
end Go.Eng.Ax

namespace Go.Eng.Ax
open Go Go.Eng Go.Proofs

/-- cmp.Less[int] · variables 0:x, 1:y, 4: -/
noncomputable def c66_r0 : List SOp := [⟨0, .p (.mov), [.c (.bool false)], none, false⟩]
noncomputable def c66_r1 : List SOp := [⟨0, .p (.mov), [.v 0], none, false⟩,
      ⟨1, .call 76, [.t 0], none, false⟩,
      ⟨2, .p (.mov), [.t 0], none, false⟩,
      ⟨3, .p (.mov), [.v 1], some (0, true), false⟩,
      ⟨4, .call 76, [.t 0], some (1, true), false⟩,
      ⟨5, .p (.un .not), [.t 0], some (2, true), false⟩,
      ⟨6, .p (.pick), [.t 3, .t 0, .c (.bool false)], none, false⟩,
      ⟨7, .p (.mov), [.t 0], none, false⟩,
      ⟨8, .p (.mov), [.v 0], some (0, false), false⟩,
      ⟨9, .p (.mov), [.v 1], some (1, false), false⟩,
      ⟨10, .p (.bin .lss), [.t 1, .t 0], some (2, false), false⟩,
      ⟨11, .p (.pick), [.t 3, .c (.bool true), .t 0], none, false⟩,
      ⟨12, .p (.mov), [.t 0], none, false⟩]
noncomputable def c66 : CFn := { nargs := 2, vars := [0, 1, 4], results := [.var 2], body := (.seq (.reg c66_r0 [(2, 0)]) (.seq (.reg c66_r1 [(2, 0)]) .ret)) }

/-- cmp.isNaN[int] · variables 0:x, 2: -/
noncomputable def c76_r0 : List SOp := [⟨0, .p (.mov), [.c (.bool false)], none, false⟩]
noncomputable def c76_r1 : List SOp := [⟨0, .p (.mov), [.v 0], none, false⟩,
      ⟨1, .p (.mov), [.v 0], none, false⟩,
      ⟨2, .p (.bin .neq), [.t 1, .t 0], none, false⟩,
      ⟨3, .p (.mov), [.t 0], none, false⟩]
noncomputable def c76 : CFn := { nargs := 1, vars := [0, 2], results := [.var 1], body := (.seq (.reg c76_r0 [(1, 0)]) (.seq (.reg c76_r1 [(1, 0)]) .ret)) }

theorem ok66 : FnOk Try.prog 66 c66 := compF_ok (na := c66.nargs) (vars := c66.vars) (by kernel_rfl)
theorem ok76 : FnOk Try.prog 76 c76 := compF_ok (na := c76.nargs) (vars := c76.vars) (by kernel_rfl)
end Go.Eng.Ax

