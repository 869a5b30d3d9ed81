/-
  Part of a proof of the laws of layer 05 (token): the code of the functions.
  Conditions: none.
-/
import Derived.Test.YtplhdfkhhefppaaDoorEc
import Derived.Test.YtplhdfkhhefppaaDoorProg
import Derived.KernelRfl
namespace Go.Eng.Tk
open Go Go.Eng Go.Proofs

/-- headstock/headstocklaw05.TokenTells · variables 0:s, 1:raw, 2:blanks, 3:at, 4:more, 10:, 11:ok, 12:t, 13:i, 14:w, 16:k, 18:x, 19:a, 20:e, 21:n, 22:b, 23:f, 24:m, 26:x, 27:a, 28:p, 29:b, 30:q, 109:, 110:, 111:, 112:, 150:, 151:, 152:, 153: -/
noncomputable def c3_r0 : List SOp := [⟨0, .p (.mov), [.c (.bool false)], none, false⟩]
noncomputable def c3_r1 : List SOp := [⟨0, .call 10, [], none, false⟩,
      ⟨1, .p (.mov), [.t 0], none, false⟩]
noncomputable def c3_r2 : List SOp := [⟨0, .p (.mov), [.c (.string ⟨#[]⟩)], none, false⟩]
noncomputable def c3_r3 : List SOp := [⟨0, .p (.mov), [.c (.int .i64 0)], none, false⟩]
noncomputable def c3_r4 : List SOp := [⟨0, .p (.mov), [.v 8], none, false⟩,
      ⟨1, .p (.mov), [.v 1], none, false⟩,
      ⟨2, .p (.lenS), [.t 0], none, false⟩,
      ⟨3, .p (.bin .lss), [.t 2, .t 0], none, false⟩,
      ⟨4, .p (.mov), [.t 0], none, false⟩,
      ⟨5, .p (.mov), [.v 8], some (0, true), false⟩,
      ⟨6, .p (.bin .lss), [.t 0, .c (.int .i64 30)], some (1, true), false⟩,
      ⟨7, .p (.pick), [.t 2, .t 0, .c (.bool false)], none, false⟩]
noncomputable def c3_r5 : List SOp := [⟨0, .p (.mov), [.v 1], none, false⟩,
      ⟨1, .p (.mov), [.v 8], none, false⟩,
      ⟨2, .p (.idxAddrS 2), [.t 1, .t 0], none, false⟩,
      ⟨3, .p (.idxAddrA 2 1), [.t 0, .c (.int .i64 0)], none, false⟩,
      ⟨4, .r (.load false 1), [.t 0], none, false⟩,
      ⟨5, .p (.mov), [.v 1], none, false⟩,
      ⟨6, .p (.mov), [.v 8], none, false⟩,
      ⟨7, .p (.idxAddrS 2), [.t 1, .t 0], none, false⟩,
      ⟨8, .p (.idxAddrA 2 1), [.t 0, .c (.int .i64 1)], none, false⟩,
      ⟨9, .r (.load false 1), [.t 0], none, false⟩,
      ⟨10, .call 11, [.t 5, .t 0], none, false⟩,
      ⟨11, .p (.mov), [.t 0], none, false⟩,
      ⟨12, .p (.extract 0), [.t 0], none, false⟩,
      ⟨13, .p (.extract 1), [.t 1], none, false⟩,
      ⟨14, .p (.mov), [.t 1], none, false⟩,
      ⟨15, .p (.mov), [.t 1], none, false⟩]
noncomputable def c3_r6 : List SOp := [⟨0, .p (.mov), [.v 7], none, false⟩,
      ⟨1, .p (.mov), [.v 9], none, false⟩,
      ⟨2, .p (.bin .add), [.t 1, .t 0], none, false⟩,
      ⟨3, .p (.mov), [.v 2], none, false⟩,
      ⟨4, .p (.mov), [.v 8], none, false⟩,
      ⟨5, .call 12, [.t 1, .t 0], none, false⟩,
      ⟨6, .p (.bin .add), [.t 3, .t 0], none, false⟩,
      ⟨7, .p (.mov), [.t 0], none, false⟩]
noncomputable def c3_r7 : List SOp := [⟨0, .p (.mov), [.v 9], none, false⟩,
      ⟨1, .call 13, [.t 0], none, false⟩,
      ⟨2, .p (.mov), [.v 9], none, false⟩,
      ⟨3, .call 14, [.t 0], none, false⟩,
      ⟨4, .p (.eqB true), [.t 2, .t 0], none, false⟩,
      ⟨5, .p (.mov), [.t 0], none, false⟩,
      ⟨6, .p (.mov), [.v 9], some (0, false), false⟩,
      ⟨7, .call 15, [.t 0], some (1, false), false⟩,
      ⟨8, .p (.mov), [.v 9], some (2, false), false⟩,
      ⟨9, .call 16, [.t 0], some (3, false), false⟩,
      ⟨10, .p (.eqB true), [.t 2, .t 0], some (4, false), false⟩,
      ⟨11, .p (.pick), [.t 5, .c (.bool true), .t 0], none, false⟩]
noncomputable def c3_r8 : List SOp := [⟨0, .p (.mov), [.c (.bool false)], none, false⟩]
noncomputable def c3_r9 : List SOp := [⟨0, .p (.mov), [.v 8], none, false⟩,
      ⟨1, .p (.bin .add), [.t 0, .c (.int .i64 1)], none, false⟩,
      ⟨2, .p (.mov), [.t 0], none, false⟩]
noncomputable def c3_l10 : CCode := (.seq (.rcond c3_r4 [] 0
    .skip
    (.exit 0)) (.seq (.block 1 (.seq (.reg c3_r5 [(9, 1)]) (.seq (.reg c3_r6 [(7, 0)]) (.rcond c3_r7 [] 0
    (.seq (.reg c3_r8 [(5, 0)]) .ret)
    .skip)))) (.reg c3_r9 [(8, 0)])))
noncomputable def c3_r11 : List SOp := [⟨0, .p (.mov), [.v 3], none, false⟩,
      ⟨1, .p (.mov), [.v 7], none, false⟩,
      ⟨2, .p (.lenStr), [.t 0], none, false⟩,
      ⟨3, .p (.bin .add), [.t 0, .c (.int .i64 1)], none, false⟩,
      ⟨4, .call 17, [.t 3, .t 0], none, false⟩,
      ⟨5, .p (.mov), [.t 0], none, false⟩]
noncomputable def c3_r12 : List SOp := [⟨0, .p (.mov), [.v 0], none, false⟩,
      ⟨1, .p (.mov), [.v 7], none, false⟩,
      ⟨2, .p (.mov), [.v 7], none, false⟩,
      ⟨3, .p (.mov), [.v 10], none, false⟩,
      ⟨4, .p (.sliceStr false true), [.t 1, .t 0], none, false⟩,
      ⟨5, .p (.mov), [.v 4], none, false⟩,
      ⟨6, .p (.bin .add), [.t 1, .t 0], none, false⟩,
      ⟨7, .p (.mov), [.v 7], none, false⟩,
      ⟨8, .p (.mov), [.v 10], none, false⟩,
      ⟨9, .p (.mov), [.v 4], none, false⟩,
      ⟨10, .p (.lenStr), [.t 0], none, false⟩,
      ⟨11, .p (.bin .add), [.t 2, .t 0], none, false⟩,
      ⟨12, .p (.mov), [.v 7], none, false⟩,
      ⟨13, .p (.lenStr), [.t 0], none, false⟩,
      ⟨14, .p (.minI false), [.t 2, .t 0], none, false⟩,
      ⟨15, .p (.sliceStr true false), [.t 7, .t 0], none, false⟩,
      ⟨16, .p (.bin .add), [.t 9, .t 0], none, false⟩,
      ⟨17, .p (.mov), [.v 7], none, false⟩,
      ⟨18, .p (.mov), [.v 10], none, false⟩,
      ⟨19, .p (.sliceStr false true), [.t 1, .t 0], none, false⟩,
      ⟨20, .p (.mov), [.v 4], none, false⟩,
      ⟨21, .p (.bin .add), [.t 1, .t 0], none, false⟩,
      ⟨22, .p (.mov), [.v 7], none, false⟩,
      ⟨23, .p (.mov), [.v 10], none, false⟩,
      ⟨24, .p (.sliceStr true false), [.t 1, .t 0], none, false⟩,
      ⟨25, .p (.bin .add), [.t 3, .t 0], none, false⟩,
      ⟨26, .p (.mov), [.v 7], none, false⟩,
      ⟨27, .p (.mov), [.v 10], none, false⟩,
      ⟨28, .p (.sliceStr false true), [.t 1, .t 0], none, false⟩,
      ⟨29, .a (.bslice [.string ⟨#[]⟩, .string ⟨#[]⟩, .string ⟨#[]⟩, .string ⟨#[]⟩, .string ⟨#[]⟩] [(0, 1), (1, 1), (2, 1), (3, 1), (4, 1)] 5 1), [.t 28, .t 27, .t 12, .t 3, .t 0], none, false⟩,
      ⟨30, .p (.lenS), [.t 0], none, false⟩,
      ⟨31, .p (.mov), [.c (.int .i64 0)], none, false⟩]
noncomputable def c3_r13 : List SOp := [⟨0, .p (.bin .lss), [.v 25, .v 24], none, false⟩]
noncomputable def c3_r14 : List SOp := [⟨0, .p (.idxAddrS 1), [.v 23, .v 25], none, false⟩,
      ⟨1, .r (.load false 1), [.t 0], none, false⟩,
      ⟨2, .p (.mov), [.t 0], none, false⟩]
noncomputable def c3_r15 : List SOp := [⟨0, .p (.mov), [.v 11], none, false⟩,
      ⟨1, .call 18, [.t 0], none, false⟩,
      ⟨2, .p (.mov), [.t 0], none, false⟩,
      ⟨3, .p (.extract 0), [.t 0], none, false⟩,
      ⟨4, .p (.extract 1), [.t 1], none, false⟩,
      ⟨5, .p (.extract 2), [.t 2], none, false⟩,
      ⟨6, .p (.mov), [.t 2], none, false⟩,
      ⟨7, .p (.mov), [.t 2], none, false⟩,
      ⟨8, .p (.mov), [.t 2], none, false⟩]
noncomputable def c3_r16 : List SOp := [⟨0, .p (.mov), [.v 11], none, false⟩,
      ⟨1, .call 19, [.t 0], none, false⟩,
      ⟨2, .p (.mov), [.t 0], none, false⟩,
      ⟨3, .p (.extract 0), [.t 0], none, false⟩,
      ⟨4, .p (.extract 1), [.t 1], none, false⟩,
      ⟨5, .p (.extract 2), [.t 2], none, false⟩,
      ⟨6, .p (.mov), [.t 2], none, false⟩,
      ⟨7, .p (.mov), [.t 2], none, false⟩,
      ⟨8, .p (.mov), [.t 2], none, false⟩]
noncomputable def c3_r17 : List SOp := [⟨0, .p (.mov), [.v 12], none, false⟩,
      ⟨1, .p (.mov), [.v 15], none, false⟩,
      ⟨2, .call 20, [.t 1, .t 0], none, false⟩,
      ⟨3, .p (.un .not), [.t 0], none, false⟩,
      ⟨4, .p (.mov), [.t 0], none, false⟩,
      ⟨5, .p (.mov), [.v 13], some (0, false), false⟩,
      ⟨6, .p (.mov), [.v 16], some (1, false), false⟩,
      ⟨7, .p (.bin .neq), [.t 1, .t 0], some (2, false), false⟩,
      ⟨8, .p (.pick), [.t 3, .c (.bool true), .t 0], none, false⟩,
      ⟨9, .p (.mov), [.t 0], none, false⟩,
      ⟨10, .p (.mov), [.v 14], some (0, false), false⟩,
      ⟨11, .p (.mov), [.v 17], some (1, false), false⟩,
      ⟨12, .p (.bin .neq), [.t 1, .t 0], some (2, false), false⟩,
      ⟨13, .p (.pick), [.t 3, .c (.bool true), .t 0], none, false⟩]
noncomputable def c3_r18 : List SOp := [⟨0, .p (.mov), [.c (.bool false)], none, false⟩]
noncomputable def c3_r19 : List SOp := [⟨0, .p (.bin .add), [.v 25, .c (.int .i64 1)], none, false⟩,
      ⟨1, .p (.mov), [.t 0], none, false⟩]
noncomputable def c3_l20 : CCode := (.seq (.reg c3_r13 [(26, 0)]) (.seq (.cond (.v 26) .skip (.exit 2)) (.seq (.block 3 (.seq (.reg c3_r14 [(11, 0)]) (.seq (.reg c3_r15 [(12, 2), (13, 1), (14, 0)]) (.seq (.reg c3_r16 [(15, 2), (16, 1), (17, 0)]) (.rcond c3_r17 [] 0
    (.seq (.reg c3_r18 [(5, 0)]) .ret)
    .skip))))) (.reg c3_r19 [(25, 0)]))))
noncomputable def c3_r21 : List SOp := [⟨0, .p (.mov), [.v 0], none, false⟩,
      ⟨1, .p (.mov), [.v 4], none, false⟩,
      ⟨2, .p (.mov), [.v 4], none, false⟩,
      ⟨3, .p (.bin .add), [.c (.string ⟨#[48, 120]⟩), .t 0], none, false⟩,
      ⟨4, .p (.mov), [.v 4], none, false⟩,
      ⟨5, .p (.bin .add), [.c (.string ⟨#[48]⟩), .t 0], none, false⟩,
      ⟨6, .p (.mov), [.v 0], none, false⟩,
      ⟨7, .p (.bin .add), [.t 0, .c (.string ⟨#[49]⟩)], none, false⟩,
      ⟨8, .a (.bslice [.string ⟨#[]⟩, .string ⟨#[]⟩, .string ⟨#[]⟩, .string ⟨#[]⟩, .string ⟨#[]⟩] [(0, 1), (1, 1), (2, 1), (3, 1), (4, 1)] 5 1), [.t 7, .t 6, .t 4, .t 2, .t 0], none, false⟩,
      ⟨9, .p (.lenS), [.t 0], none, false⟩,
      ⟨10, .p (.mov), [.c (.int .i64 0)], none, false⟩]
noncomputable def c3_r22 : List SOp := [⟨0, .p (.bin .lss), [.v 29, .v 28], none, false⟩]
noncomputable def c3_r23 : List SOp := [⟨0, .p (.idxAddrS 1), [.v 27, .v 29], none, false⟩,
      ⟨1, .r (.load false 1), [.t 0], none, false⟩,
      ⟨2, .p (.mov), [.t 0], none, false⟩]
noncomputable def c3_r24 : List SOp := [⟨0, .p (.mov), [.v 18], none, false⟩,
      ⟨1, .call 21, [.t 0], none, false⟩,
      ⟨2, .p (.mov), [.t 0], none, false⟩,
      ⟨3, .p (.extract 0), [.t 0], none, false⟩,
      ⟨4, .p (.extract 1), [.t 1], none, false⟩,
      ⟨5, .p (.mov), [.t 1], none, false⟩,
      ⟨6, .p (.mov), [.t 1], none, false⟩]
noncomputable def c3_r25 : List SOp := [⟨0, .p (.mov), [.v 18], none, false⟩,
      ⟨1, .call 22, [.t 0], none, false⟩,
      ⟨2, .p (.mov), [.t 0], none, false⟩,
      ⟨3, .p (.extract 0), [.t 0], none, false⟩,
      ⟨4, .p (.extract 1), [.t 1], none, false⟩,
      ⟨5, .p (.mov), [.t 1], none, false⟩,
      ⟨6, .p (.mov), [.t 1], none, false⟩]
noncomputable def c3_r26 : List SOp := [⟨0, .p (.mov), [.v 18], none, false⟩,
      ⟨1, .call 13, [.t 0], none, false⟩,
      ⟨2, .p (.mov), [.v 18], none, false⟩,
      ⟨3, .call 14, [.t 0], none, false⟩,
      ⟨4, .p (.eqB true), [.t 2, .t 0], none, false⟩,
      ⟨5, .p (.mov), [.t 0], none, false⟩,
      ⟨6, .p (.mov), [.v 18], some (0, false), false⟩,
      ⟨7, .call 15, [.t 0], some (1, false), false⟩,
      ⟨8, .p (.mov), [.v 18], some (2, false), false⟩,
      ⟨9, .call 16, [.t 0], some (3, false), false⟩,
      ⟨10, .p (.eqB true), [.t 2, .t 0], some (4, false), false⟩,
      ⟨11, .p (.pick), [.t 5, .c (.bool true), .t 0], none, false⟩,
      ⟨12, .p (.mov), [.t 0], none, false⟩,
      ⟨13, .p (.mov), [.v 19], some (0, false), false⟩,
      ⟨14, .p (.mov), [.v 21], some (1, false), false⟩,
      ⟨15, .p (.bin .neq), [.t 1, .t 0], some (2, false), false⟩,
      ⟨16, .p (.pick), [.t 3, .c (.bool true), .t 0], none, false⟩,
      ⟨17, .p (.mov), [.t 0], none, false⟩,
      ⟨18, .p (.mov), [.v 20], some (0, false), false⟩,
      ⟨19, .p (.mov), [.v 22], some (1, false), false⟩,
      ⟨20, .p (.eqB true), [.t 1, .t 0], some (2, false), false⟩,
      ⟨21, .p (.pick), [.t 3, .c (.bool true), .t 0], none, false⟩]
noncomputable def c3_r27 : List SOp := [⟨0, .p (.mov), [.c (.bool false)], none, false⟩]
noncomputable def c3_r28 : List SOp := [⟨0, .p (.bin .add), [.v 29, .c (.int .i64 1)], none, false⟩,
      ⟨1, .p (.mov), [.t 0], none, false⟩]
noncomputable def c3_l29 : CCode := (.seq (.reg c3_r22 [(30, 0)]) (.seq (.cond (.v 30) .skip (.exit 4)) (.seq (.block 5 (.seq (.reg c3_r23 [(18, 0)]) (.seq (.reg c3_r24 [(19, 1), (20, 0)]) (.seq (.reg c3_r25 [(21, 1), (22, 0)]) (.rcond c3_r26 [] 0
    (.seq (.reg c3_r27 [(5, 0)]) .ret)
    .skip))))) (.reg c3_r28 [(29, 0)]))))
noncomputable def c3_r30 : List SOp := [⟨0, .p (.mov), [.v 6], none, false⟩,
      ⟨1, .p (.mov), [.t 0], none, false⟩]
noncomputable def c3 : CFn := { nargs := 5, vars := [0, 1, 2, 3, 4, 10, 11, 12, 13, 14, 16, 18, 19, 20, 21, 22, 23, 24, 26, 27, 28, 29, 30, 109, 110, 111, 112, 150, 151, 152, 153], results := [.var 5], body := (.seq (.reg c3_r0 [(5, 0)]) (.seq (.reg c3_r1 [(6, 0)]) (.seq (.reg c3_r2 [(7, 0)]) (.seq (.seq (.reg c3_r3 [(8, 0)]) (.block 0 (.loop c3_l10))) (.seq (.reg c3_r11 [(10, 0)]) (.seq (.seq (.reg c3_r12 [(23, 2), (24, 1), (25, 0)]) (.block 2 (.loop c3_l20))) (.seq (.seq (.reg c3_r21 [(27, 2), (28, 1), (29, 0)]) (.block 4 (.loop c3_l29))) (.seq (.reg c3_r30 [(5, 0)]) .ret)))))))) }

/-- headstock/headstocklaw05.TokenWords · variables 0:raw, 1:blanks, 4:, 5:ok, 6:s, 7:line, 8:want, 9:i, 10:w, 11:k, 12:n, 13:b, 14:l, 15:e, 16:n -/
noncomputable def c4_r0 : List SOp := [⟨0, .p (.mov), [.c (.bool false)], none, false⟩]
noncomputable def c4_r1 : List SOp := [⟨0, .call 10, [], none, false⟩,
      ⟨1, .p (.mov), [.t 0], none, false⟩]
noncomputable def c4_r2 : List SOp := [⟨0, .p (.mov), [.c (.string ⟨#[]⟩)], none, false⟩]
noncomputable def c4_r3 : List SOp := [⟨0, .p (.mov), [.c (.int .i64 1)], none, false⟩]
noncomputable def c4_r4 : List SOp := [⟨0, .p (.mov), [.c (.slice none 0 0)], none, false⟩]
noncomputable def c4_r5 : List SOp := [⟨0, .p (.mov), [.c (.int .i64 0)], none, false⟩]
noncomputable def c4_r6 : List SOp := [⟨0, .p (.mov), [.v 7], none, false⟩,
      ⟨1, .p (.mov), [.v 0], none, false⟩,
      ⟨2, .p (.lenS), [.t 0], none, false⟩,
      ⟨3, .p (.bin .lss), [.t 2, .t 0], none, false⟩,
      ⟨4, .p (.mov), [.t 0], none, false⟩,
      ⟨5, .p (.mov), [.v 7], some (0, true), false⟩,
      ⟨6, .p (.bin .lss), [.t 0, .c (.int .i64 40)], some (1, true), false⟩,
      ⟨7, .p (.pick), [.t 2, .t 0, .c (.bool false)], none, false⟩]
noncomputable def c4_r7 : List SOp := [⟨0, .p (.mov), [.v 0], none, false⟩,
      ⟨1, .p (.mov), [.v 7], none, false⟩,
      ⟨2, .p (.idxAddrS 2), [.t 1, .t 0], none, false⟩,
      ⟨3, .p (.idxAddrA 2 1), [.t 0, .c (.int .i64 0)], none, false⟩,
      ⟨4, .r (.load false 1), [.t 0], none, false⟩,
      ⟨5, .p (.mov), [.v 0], none, false⟩,
      ⟨6, .p (.mov), [.v 7], none, false⟩,
      ⟨7, .p (.idxAddrS 2), [.t 1, .t 0], none, false⟩,
      ⟨8, .p (.idxAddrA 2 1), [.t 0, .c (.int .i64 1)], none, false⟩,
      ⟨9, .r (.load false 1), [.t 0], none, false⟩,
      ⟨10, .call 11, [.t 5, .t 0], none, false⟩,
      ⟨11, .p (.mov), [.t 0], none, false⟩,
      ⟨12, .p (.extract 0), [.t 0], none, false⟩,
      ⟨13, .p (.extract 1), [.t 1], none, false⟩,
      ⟨14, .p (.mov), [.t 1], none, false⟩,
      ⟨15, .p (.mov), [.t 1], none, false⟩]
noncomputable def c4_r8 : List SOp := [⟨0, .p (.mov), [.c (.int .i64 0)], none, false⟩]
noncomputable def c4_r9 : List SOp := [⟨0, .p (.mov), [.v 9], none, false⟩,
      ⟨1, .p (.bin .eql), [.t 0, .c (.int .i64 3)], none, false⟩]
noncomputable def c4_r10 : List SOp := [⟨0, .p (.mov), [.v 0], none, false⟩,
      ⟨1, .p (.mov), [.v 7], none, false⟩,
      ⟨2, .p (.idxAddrS 2), [.t 1, .t 0], none, false⟩,
      ⟨3, .p (.idxAddrA 2 1), [.t 0, .c (.int .i64 1)], none, false⟩,
      ⟨4, .r (.load false 1), [.t 0], none, false⟩,
      ⟨5, .call 17, [.t 0, .c (.int .i64 4294967296)], none, false⟩,
      ⟨6, .p (.mov), [.t 0], none, false⟩]
noncomputable def c4_r11 : List SOp := [⟨0, .p (.mov), [.v 6], none, false⟩,
      ⟨1, .p (.mov), [.v 9], none, false⟩,
      ⟨2, .p (.mov), [.v 8], none, false⟩,
      ⟨3, .p (.mov), [.v 10], none, false⟩,
      ⟨4, .p (.mov), [.v 5], none, false⟩,
      ⟨5, .p (.build [.int .i64 0, .string ⟨#[]⟩, .int .i64 0, .int .i64 0] [(0, 1), (1, 1), (2, 1), (3, 1)]), [.t 3, .t 2, .t 1, .t 0], none, false⟩,
      ⟨6, .a (.bslice [.int .i64 0, .string ⟨#[]⟩, .int .i64 0, .int .i64 0] [(0, 4)] 1 4), [.t 0], none, false⟩,
      ⟨7, .w (.append 4 40), [.t 6, .t 0], none, false⟩,
      ⟨8, .p (.mov), [.t 0], none, false⟩]
noncomputable def c4_r12 : List SOp := [⟨0, .p (.mov), [.v 1], none, false⟩,
      ⟨1, .p (.mov), [.v 7], none, false⟩,
      ⟨2, .call 12, [.t 1, .t 0], none, false⟩,
      ⟨3, .p (.mov), [.t 0], none, false⟩]
noncomputable def c4_r13 : List SOp := [⟨0, .p (.mov), [.v 4], none, false⟩,
      ⟨1, .p (.mov), [.v 8], none, false⟩,
      ⟨2, .p (.bin .add), [.t 1, .t 0], none, false⟩,
      ⟨3, .p (.mov), [.v 11], none, false⟩,
      ⟨4, .p (.bin .add), [.t 1, .t 0], none, false⟩,
      ⟨5, .p (.mov), [.t 0], none, false⟩]
noncomputable def c4_r14 : List SOp := [⟨0, .p (.mov), [.v 5], none, false⟩,
      ⟨1, .p (.mov), [.v 11], none, false⟩,
      ⟨2, .call 23, [.t 0], none, false⟩,
      ⟨3, .p (.bin .add), [.t 2, .t 0], none, false⟩,
      ⟨4, .p (.mov), [.t 0], none, false⟩]
noncomputable def c4_r15 : List SOp := [⟨0, .p (.mov), [.v 7], none, false⟩,
      ⟨1, .p (.bin .add), [.t 0, .c (.int .i64 1)], none, false⟩,
      ⟨2, .p (.mov), [.t 0], none, false⟩]
noncomputable def c4_l16 : CCode := (.seq (.rcond c4_r6 [] 0
    .skip
    (.exit 0)) (.seq (.block 1 (.seq (.reg c4_r7 [(8, 1), (9, 0)]) (.seq (.reg c4_r8 [(10, 0)]) (.seq (.rcond c4_r9 [] 0
    (.reg c4_r10 [(10, 0)])
    .skip) (.seq (.reg c4_r11 [(6, 0)]) (.seq (.reg c4_r12 [(11, 0)]) (.seq (.reg c4_r13 [(4, 0)]) (.reg c4_r14 [(5, 0)])))))))) (.reg c4_r15 [(7, 0)])))
noncomputable def c4_r17 : List SOp := [⟨0, .p (.mov), [.v 6], none, false⟩,
      ⟨1, .p (.mov), [.v 5], none, false⟩,
      ⟨2, .p (.build [.int .i64 0, .string ⟨#[]⟩, .int .i64 0, .int .i64 0] [(0, 1), (3, 1)]), [.c (.int .i64 5), .t 0], none, false⟩,
      ⟨3, .a (.bslice [.int .i64 0, .string ⟨#[]⟩, .int .i64 0, .int .i64 0] [(0, 4)] 1 4), [.t 0], none, false⟩,
      ⟨4, .w (.append 4 40), [.t 3, .t 0], none, false⟩,
      ⟨5, .p (.mov), [.t 0], none, false⟩]
noncomputable def c4_r18 : List SOp := [⟨0, .p (.mov), [.v 4], none, false⟩,
      ⟨1, .call 18, [.t 0], none, false⟩,
      ⟨2, .p (.mov), [.t 0], none, false⟩,
      ⟨3, .p (.extract 0), [.t 0], none, false⟩,
      ⟨4, .p (.extract 1), [.t 1], none, false⟩,
      ⟨5, .p (.extract 2), [.t 2], none, false⟩,
      ⟨6, .p (.mov), [.t 2], none, false⟩,
      ⟨7, .p (.mov), [.t 2], none, false⟩,
      ⟨8, .p (.mov), [.t 2], none, false⟩]
noncomputable def c4_r19 : List SOp := [⟨0, .p (.mov), [.v 3], none, false⟩,
      ⟨1, .p (.mov), [.t 0], none, false⟩,
      ⟨2, .p (.mov), [.v 13], some (0, true), false⟩,
      ⟨3, .p (.bin .eql), [.t 0, .c (.int .i64 0)], some (1, true), false⟩,
      ⟨4, .p (.pick), [.t 2, .t 0, .c (.bool false)], none, false⟩,
      ⟨5, .p (.mov), [.t 0], none, false⟩,
      ⟨6, .p (.mov), [.v 14], some (0, true), false⟩,
      ⟨7, .p (.bin .eql), [.t 0, .c (.int .i64 0)], some (1, true), false⟩,
      ⟨8, .p (.pick), [.t 2, .t 0, .c (.bool false)], none, false⟩,
      ⟨9, .p (.mov), [.t 0], none, false⟩,
      ⟨10, .p (.mov), [.v 12], some (0, true), false⟩,
      ⟨11, .p (.mov), [.v 6], some (1, true), false⟩,
      ⟨12, .call 20, [.t 1, .t 0], some (2, true), false⟩,
      ⟨13, .p (.pick), [.t 3, .t 0, .c (.bool false)], none, false⟩,
      ⟨14, .p (.mov), [.t 0], none, false⟩]
noncomputable def c4 : CFn := { nargs := 2, vars := [0, 1, 4, 5, 6, 7, 8, 9, 10, 11, 12, 13, 14, 15, 16], results := [.var 2], body := (.seq (.reg c4_r0 [(2, 0)]) (.seq (.reg c4_r1 [(3, 0)]) (.seq (.reg c4_r2 [(4, 0)]) (.seq (.reg c4_r3 [(5, 0)]) (.seq (.reg c4_r4 [(6, 0)]) (.seq (.seq (.reg c4_r5 [(7, 0)]) (.block 0 (.loop c4_l16))) (.seq (.reg c4_r17 [(6, 0)]) (.seq (.reg c4_r18 [(12, 2), (13, 1), (14, 0)]) (.seq (.reg c4_r19 [(2, 0)]) .ret))))))))) }

/-- headstock/headstocklaw05.TokenJoin · variables 0:one, 1:two, 2:blanks, 6:, 7:ok, 8:a, 9:i, 10:w, 12:b, 13:i, 14:w, 16:l, 17:e, 19:m, 20:f, 22:both, 23:g, 25:want, 26:i, 27:t -/
noncomputable def c5_r0 : List SOp := [⟨0, .p (.mov), [.c (.bool false)], none, false⟩]
noncomputable def c5_r1 : List SOp := [⟨0, .call 10, [], none, false⟩,
      ⟨1, .p (.mov), [.t 0], none, false⟩]
noncomputable def c5_r2 : List SOp := [⟨0, .p (.mov), [.c (.string ⟨#[]⟩)], none, false⟩]
noncomputable def c5_r3 : List SOp := [⟨0, .p (.mov), [.c (.int .i64 0)], none, false⟩]
noncomputable def c5_r4 : List SOp := [⟨0, .p (.mov), [.v 6], none, false⟩,
      ⟨1, .p (.mov), [.v 0], none, false⟩,
      ⟨2, .p (.lenS), [.t 0], none, false⟩,
      ⟨3, .p (.bin .lss), [.t 2, .t 0], none, false⟩,
      ⟨4, .p (.mov), [.t 0], none, false⟩,
      ⟨5, .p (.mov), [.v 6], some (0, true), false⟩,
      ⟨6, .p (.bin .lss), [.t 0, .c (.int .i64 20)], some (1, true), false⟩,
      ⟨7, .p (.pick), [.t 2, .t 0, .c (.bool false)], none, false⟩]
noncomputable def c5_r5 : List SOp := [⟨0, .p (.mov), [.v 0], none, false⟩,
      ⟨1, .p (.mov), [.v 6], none, false⟩,
      ⟨2, .p (.idxAddrS 2), [.t 1, .t 0], none, false⟩,
      ⟨3, .p (.idxAddrA 2 1), [.t 0, .c (.int .i64 0)], none, false⟩,
      ⟨4, .r (.load false 1), [.t 0], none, false⟩,
      ⟨5, .p (.mov), [.v 0], none, false⟩,
      ⟨6, .p (.mov), [.v 6], none, false⟩,
      ⟨7, .p (.idxAddrS 2), [.t 1, .t 0], none, false⟩,
      ⟨8, .p (.idxAddrA 2 1), [.t 0, .c (.int .i64 1)], none, false⟩,
      ⟨9, .r (.load false 1), [.t 0], none, false⟩,
      ⟨10, .call 11, [.t 5, .t 0], none, false⟩,
      ⟨11, .p (.mov), [.t 0], none, false⟩,
      ⟨12, .p (.extract 0), [.t 0], none, false⟩,
      ⟨13, .p (.extract 1), [.t 1], none, false⟩,
      ⟨14, .p (.mov), [.t 1], none, false⟩,
      ⟨15, .p (.mov), [.t 1], none, false⟩]
noncomputable def c5_r6 : List SOp := [⟨0, .p (.mov), [.v 5], none, false⟩,
      ⟨1, .p (.mov), [.v 7], none, false⟩,
      ⟨2, .p (.bin .add), [.t 1, .t 0], none, false⟩,
      ⟨3, .p (.mov), [.v 2], none, false⟩,
      ⟨4, .p (.mov), [.v 6], none, false⟩,
      ⟨5, .call 12, [.t 1, .t 0], none, false⟩,
      ⟨6, .p (.bin .add), [.t 3, .t 0], none, false⟩,
      ⟨7, .p (.mov), [.t 0], none, false⟩]
noncomputable def c5_r7 : List SOp := [⟨0, .p (.mov), [.v 6], none, false⟩,
      ⟨1, .p (.bin .add), [.t 0, .c (.int .i64 1)], none, false⟩,
      ⟨2, .p (.mov), [.t 0], none, false⟩]
noncomputable def c5_l8 : CCode := (.seq (.rcond c5_r4 [] 0
    .skip
    (.exit 0)) (.seq (.block 1 (.seq (.reg c5_r5 [(7, 1)]) (.reg c5_r6 [(5, 0)]))) (.reg c5_r7 [(6, 0)])))
noncomputable def c5_r9 : List SOp := [⟨0, .p (.mov), [.c (.string ⟨#[]⟩)], none, false⟩]
noncomputable def c5_r10 : List SOp := [⟨0, .p (.mov), [.c (.int .i64 0)], none, false⟩]
noncomputable def c5_r11 : List SOp := [⟨0, .p (.mov), [.v 9], none, false⟩,
      ⟨1, .p (.mov), [.v 1], none, false⟩,
      ⟨2, .p (.lenS), [.t 0], none, false⟩,
      ⟨3, .p (.bin .lss), [.t 2, .t 0], none, false⟩,
      ⟨4, .p (.mov), [.t 0], none, false⟩,
      ⟨5, .p (.mov), [.v 9], some (0, true), false⟩,
      ⟨6, .p (.bin .lss), [.t 0, .c (.int .i64 20)], some (1, true), false⟩,
      ⟨7, .p (.pick), [.t 2, .t 0, .c (.bool false)], none, false⟩]
noncomputable def c5_r12 : List SOp := [⟨0, .p (.mov), [.v 1], none, false⟩,
      ⟨1, .p (.mov), [.v 9], none, false⟩,
      ⟨2, .p (.idxAddrS 2), [.t 1, .t 0], none, false⟩,
      ⟨3, .p (.idxAddrA 2 1), [.t 0, .c (.int .i64 0)], none, false⟩,
      ⟨4, .r (.load false 1), [.t 0], none, false⟩,
      ⟨5, .p (.mov), [.v 1], none, false⟩,
      ⟨6, .p (.mov), [.v 9], none, false⟩,
      ⟨7, .p (.idxAddrS 2), [.t 1, .t 0], none, false⟩,
      ⟨8, .p (.idxAddrA 2 1), [.t 0, .c (.int .i64 1)], none, false⟩,
      ⟨9, .r (.load false 1), [.t 0], none, false⟩,
      ⟨10, .call 11, [.t 5, .t 0], none, false⟩,
      ⟨11, .p (.mov), [.t 0], none, false⟩,
      ⟨12, .p (.extract 0), [.t 0], none, false⟩,
      ⟨13, .p (.extract 1), [.t 1], none, false⟩,
      ⟨14, .p (.mov), [.t 1], none, false⟩,
      ⟨15, .p (.mov), [.t 1], none, false⟩]
noncomputable def c5_r13 : List SOp := [⟨0, .p (.mov), [.v 8], none, false⟩,
      ⟨1, .p (.mov), [.v 10], none, false⟩,
      ⟨2, .p (.bin .add), [.t 1, .t 0], none, false⟩,
      ⟨3, .p (.mov), [.v 2], none, false⟩,
      ⟨4, .p (.mov), [.v 9], none, false⟩,
      ⟨5, .p (.bin .add), [.t 0, .c (.int .i64 1)], none, false⟩,
      ⟨6, .call 12, [.t 2, .t 0], none, false⟩,
      ⟨7, .p (.bin .add), [.t 4, .t 0], none, false⟩,
      ⟨8, .p (.mov), [.t 0], none, false⟩]
noncomputable def c5_r14 : List SOp := [⟨0, .p (.mov), [.v 9], none, false⟩,
      ⟨1, .p (.bin .add), [.t 0, .c (.int .i64 1)], none, false⟩,
      ⟨2, .p (.mov), [.t 0], none, false⟩]
noncomputable def c5_l15 : CCode := (.seq (.rcond c5_r11 [] 0
    .skip
    (.exit 2)) (.seq (.block 3 (.seq (.reg c5_r12 [(10, 1)]) (.reg c5_r13 [(8, 0)]))) (.reg c5_r14 [(9, 0)])))
noncomputable def c5_r16 : List SOp := [⟨0, .p (.mov), [.v 5], none, false⟩,
      ⟨1, .call 18, [.t 0], none, false⟩,
      ⟨2, .p (.mov), [.t 0], none, false⟩,
      ⟨3, .p (.extract 0), [.t 0], none, false⟩,
      ⟨4, .p (.extract 1), [.t 1], none, false⟩,
      ⟨5, .p (.extract 2), [.t 2], none, false⟩,
      ⟨6, .p (.mov), [.t 2], none, false⟩,
      ⟨7, .p (.mov), [.t 2], none, false⟩,
      ⟨8, .p (.mov), [.t 2], none, false⟩]
noncomputable def c5_r17 : List SOp := [⟨0, .p (.mov), [.v 8], none, false⟩,
      ⟨1, .call 18, [.t 0], none, false⟩,
      ⟨2, .p (.mov), [.t 0], none, false⟩,
      ⟨3, .p (.extract 0), [.t 0], none, false⟩,
      ⟨4, .p (.extract 1), [.t 1], none, false⟩,
      ⟨5, .p (.extract 2), [.t 2], none, false⟩,
      ⟨6, .p (.mov), [.t 2], none, false⟩,
      ⟨7, .p (.mov), [.t 2], none, false⟩,
      ⟨8, .p (.mov), [.t 2], none, false⟩]
noncomputable def c5_r18 : List SOp := [⟨0, .p (.mov), [.v 5], none, false⟩,
      ⟨1, .p (.bin .add), [.t 0, .c (.string ⟨#[10]⟩)], none, false⟩,
      ⟨2, .p (.mov), [.v 8], none, false⟩,
      ⟨3, .p (.bin .add), [.t 1, .t 0], none, false⟩,
      ⟨4, .call 18, [.t 0], none, false⟩,
      ⟨5, .p (.mov), [.t 0], none, false⟩,
      ⟨6, .p (.extract 0), [.t 0], none, false⟩,
      ⟨7, .p (.extract 1), [.t 1], none, false⟩,
      ⟨8, .p (.extract 2), [.t 2], none, false⟩,
      ⟨9, .p (.mov), [.t 2], none, false⟩,
      ⟨10, .p (.mov), [.t 2], none, false⟩,
      ⟨11, .p (.mov), [.t 2], none, false⟩]
noncomputable def c5_r19 : List SOp := [⟨0, .p (.mov), [.v 4], none, false⟩,
      ⟨1, .p (.un .not), [.t 0], none, false⟩,
      ⟨2, .p (.mov), [.t 0], none, false⟩,
      ⟨3, .p (.mov), [.v 12], some (0, false), false⟩,
      ⟨4, .p (.bin .neq), [.t 0, .c (.int .i64 0)], some (1, false), false⟩,
      ⟨5, .p (.pick), [.t 2, .c (.bool true), .t 0], none, false⟩,
      ⟨6, .p (.mov), [.t 0], none, false⟩,
      ⟨7, .p (.mov), [.v 14], some (0, false), false⟩,
      ⟨8, .p (.bin .neq), [.t 0, .c (.int .i64 0)], some (1, false), false⟩,
      ⟨9, .p (.pick), [.t 2, .c (.bool true), .t 0], none, false⟩,
      ⟨10, .p (.mov), [.t 0], none, false⟩,
      ⟨11, .p (.mov), [.v 16], some (0, false), false⟩,
      ⟨12, .p (.bin .neq), [.t 0, .c (.int .i64 0)], some (1, false), false⟩,
      ⟨13, .p (.pick), [.t 2, .c (.bool true), .t 0], none, false⟩,
      ⟨14, .p (.mov), [.t 0], none, false⟩,
      ⟨15, .p (.mov), [.v 11], some (0, false), false⟩,
      ⟨16, .p (.lenS), [.t 0], some (1, false), false⟩,
      ⟨17, .p (.bin .eql), [.t 0, .c (.int .i64 0)], some (2, false), false⟩,
      ⟨18, .p (.pick), [.t 3, .c (.bool true), .t 0], none, false⟩]
noncomputable def c5_r20 : List SOp := [⟨0, .p (.mov), [.c (.bool false)], none, false⟩]
noncomputable def c5_r21 : List SOp := [⟨0, .p (.mov), [.v 11], none, false⟩,
      ⟨1, .p (.mov), [.v 11], none, false⟩,
      ⟨2, .p (.lenS), [.t 0], none, false⟩,
      ⟨3, .p (.bin .sub), [.t 0, .c (.int .i64 1)], none, false⟩,
      ⟨4, .p (.sliceS 4 false true), [.t 3, .t 0], none, false⟩,
      ⟨5, .w (.append 4 40), [.c (.slice none 0 0), .t 0], none, false⟩,
      ⟨6, .p (.mov), [.t 0], none, false⟩]
noncomputable def c5_r22 : List SOp := [⟨0, .p (.mov), [.c (.int .i64 0)], none, false⟩]
noncomputable def c5_r23 : List SOp := [⟨0, .p (.mov), [.v 18], none, false⟩,
      ⟨1, .p (.mov), [.v 13], none, false⟩,
      ⟨2, .p (.lenS), [.t 0], none, false⟩,
      ⟨3, .p (.bin .lss), [.t 2, .t 0], none, false⟩]
noncomputable def c5_r24 : List SOp := [⟨0, .p (.mov), [.v 13], none, false⟩,
      ⟨1, .p (.mov), [.v 18], none, false⟩,
      ⟨2, .p (.idxAddrS 4), [.t 1, .t 0], none, false⟩,
      ⟨3, .r (.load true 4), [.t 0], none, false⟩,
      ⟨4, .a (.new [.int .i64 0, .string ⟨#[]⟩, .int .i64 0, .int .i64 0]), [], none, false⟩,
      ⟨5, .w (.store 4), [.t 0, .t 1], none, false⟩]
noncomputable def c5_r25 : List SOp := [⟨2, .p (.mov), [.v 5], none, false⟩,
      ⟨3, .call 23, [.t 0], none, true⟩,
      ⟨0, .p (.fieldAddr 3), [.v 19], none, false⟩,
      ⟨1, .r (.load false 1), [.t 0], none, false⟩,
      ⟨4, .p (.bin .add), [.t 0, .t 2], none, false⟩,
      ⟨5, .p (.bin .add), [.t 0, .c (.int .i64 1)], none, false⟩,
      ⟨6, .p (.fieldAddr 3), [.v 19], none, false⟩,
      ⟨7, .w (.store 1), [.t 0, .t 1], none, false⟩]
noncomputable def c5_r26 : List SOp := [⟨0, .p (.mov), [.v 17], none, false⟩,
      ⟨1, .r (.load true 4), [.v 19], none, false⟩,
      ⟨2, .a (.bslice [.int .i64 0, .string ⟨#[]⟩, .int .i64 0, .int .i64 0] [(0, 4)] 1 4), [.t 0], none, false⟩,
      ⟨3, .w (.append 4 40), [.t 2, .t 0], none, false⟩,
      ⟨4, .p (.mov), [.t 0], none, false⟩]
noncomputable def c5_r27 : List SOp := [⟨0, .p (.mov), [.v 18], none, false⟩,
      ⟨1, .p (.bin .add), [.t 0, .c (.int .i64 1)], none, false⟩,
      ⟨2, .p (.mov), [.t 0], none, false⟩]
noncomputable def c5_l28 : CCode := (.seq (.rcond c5_r23 [] 0
    .skip
    (.exit 4)) (.seq (.block 5 (.seq (.reg c5_r24 [(19, 1)]) (.seq (.reg c5_r25 []) (.reg c5_r26 [(17, 0)])))) (.reg c5_r27 [(18, 0)])))
noncomputable def c5_r29 : List SOp := [⟨0, .p (.mov), [.v 15], none, false⟩,
      ⟨1, .p (.mov), [.v 17], none, false⟩,
      ⟨2, .call 20, [.t 1, .t 0], none, false⟩,
      ⟨3, .p (.mov), [.t 0], none, false⟩]
noncomputable def c5 : CFn := { nargs := 3, vars := [0, 1, 2, 6, 7, 8, 9, 10, 12, 13, 14, 16, 17, 19, 20, 22, 23, 25, 26, 27], results := [.var 3], body := (.seq (.reg c5_r0 [(3, 0)]) (.seq (.reg c5_r1 [(4, 0)]) (.seq (.reg c5_r2 [(5, 0)]) (.seq (.seq (.reg c5_r3 [(6, 0)]) (.block 0 (.loop c5_l8))) (.seq (.reg c5_r9 [(8, 0)]) (.seq (.seq (.reg c5_r10 [(9, 0)]) (.block 2 (.loop c5_l15))) (.seq (.reg c5_r16 [(11, 2), (12, 1)]) (.seq (.reg c5_r17 [(13, 2), (14, 1)]) (.seq (.reg c5_r18 [(15, 2), (16, 1)]) (.seq (.rcond c5_r19 [] 0
    (.seq (.reg c5_r20 [(3, 0)]) .ret)
    .skip) (.seq (.reg c5_r21 [(17, 0)]) (.seq (.seq (.reg c5_r22 [(18, 0)]) (.block 4 (.loop c5_l28))) (.seq (.reg c5_r29 [(3, 0)]) .ret))))))))))))) }

/-- headstock/headstocklaw05.TokenWrong · variables 0:raw, 1:at, 2:c, 6:, 7:ok, 8:bad, 9:s, 10:n, 11:k, 12:i, 13:w, 15:l, 16:e, 17:line -/
noncomputable def c6_r0 : List SOp := [⟨0, .p (.mov), [.c (.bool false)], none, false⟩]
noncomputable def c6_r1 : List SOp := [⟨0, .call 10, [], none, false⟩,
      ⟨1, .p (.mov), [.t 0], none, false⟩]
noncomputable def c6_r2 : List SOp := [⟨0, .p (.mov), [.v 2], none, false⟩,
      ⟨1, .call 17, [.t 0, .c (.int .i64 9)], none, false⟩,
      ⟨2, .p (.idxStr), [.c (.string ⟨#[64, 36, 63, 58, 44, 34, 39, 96, 92]⟩), .t 0], none, false⟩,
      ⟨3, .p (.mov), [.t 0], none, false⟩]
noncomputable def c6_r3 : List SOp := [⟨0, .p (.mov), [.c (.string ⟨#[]⟩)], none, false⟩]
noncomputable def c6_r4 : List SOp := [⟨0, .p (.mov), [.v 0], none, false⟩,
      ⟨1, .p (.lenS), [.t 0], none, false⟩,
      ⟨2, .p (.minI false), [.t 0, .c (.int .i64 30)], none, false⟩,
      ⟨3, .p (.mov), [.t 0], none, false⟩]
noncomputable def c6_r5 : List SOp := [⟨0, .p (.mov), [.v 1], none, false⟩,
      ⟨1, .p (.mov), [.v 7], none, false⟩,
      ⟨2, .p (.bin .add), [.t 0, .c (.int .i64 1)], none, false⟩,
      ⟨3, .call 17, [.t 2, .t 0], none, false⟩,
      ⟨4, .p (.mov), [.t 0], none, false⟩]
noncomputable def c6_r6 : List SOp := [⟨0, .p (.mov), [.c (.int .i64 0)], none, false⟩]
noncomputable def c6_r7 : List SOp := [⟨0, .p (.mov), [.v 9], none, false⟩,
      ⟨1, .p (.mov), [.v 7], none, false⟩,
      ⟨2, .p (.bin .lss), [.t 1, .t 0], none, false⟩]
noncomputable def c6_r8 : List SOp := [⟨0, .p (.mov), [.v 9], none, false⟩,
      ⟨1, .p (.mov), [.v 8], none, false⟩,
      ⟨2, .p (.bin .eql), [.t 1, .t 0], none, false⟩]
noncomputable def c6_r9 : List SOp := [⟨0, .p (.mov), [.v 6], none, false⟩,
      ⟨1, .p (.mov), [.v 5], none, false⟩,
      ⟨2, .a (.bslice [.int .u8 0] [(0, 1)] 1 1), [.t 0], none, false⟩,
      ⟨3, .r .bytesStr, [.t 0], none, false⟩,
      ⟨4, .p (.bin .add), [.t 3, .t 0], none, false⟩,
      ⟨5, .p (.bin .add), [.t 0, .c (.string ⟨#[32]⟩)], none, false⟩,
      ⟨6, .p (.mov), [.t 0], none, false⟩]
noncomputable def c6_r10 : List SOp := [⟨0, .p (.mov), [.v 0], none, false⟩,
      ⟨1, .p (.mov), [.v 9], none, false⟩,
      ⟨2, .p (.idxAddrS 2), [.t 1, .t 0], none, false⟩,
      ⟨3, .p (.idxAddrA 2 1), [.t 0, .c (.int .i64 0)], none, false⟩,
      ⟨4, .r (.load false 1), [.t 0], none, false⟩,
      ⟨5, .p (.mov), [.v 0], none, false⟩,
      ⟨6, .p (.mov), [.v 9], none, false⟩,
      ⟨7, .p (.idxAddrS 2), [.t 1, .t 0], none, false⟩,
      ⟨8, .p (.idxAddrA 2 1), [.t 0, .c (.int .i64 1)], none, false⟩,
      ⟨9, .r (.load false 1), [.t 0], none, false⟩,
      ⟨10, .call 11, [.t 5, .t 0], none, false⟩,
      ⟨11, .p (.mov), [.t 0], none, false⟩,
      ⟨12, .p (.extract 0), [.t 0], none, false⟩,
      ⟨13, .p (.extract 1), [.t 1], none, false⟩,
      ⟨14, .p (.mov), [.t 1], none, false⟩,
      ⟨15, .p (.mov), [.t 1], none, false⟩]
noncomputable def c6_r11 : List SOp := [⟨0, .p (.mov), [.v 6], none, false⟩,
      ⟨1, .p (.mov), [.v 10], none, false⟩,
      ⟨2, .p (.bin .add), [.t 1, .t 0], none, false⟩,
      ⟨3, .p (.bin .add), [.t 0, .c (.string ⟨#[10]⟩)], none, false⟩,
      ⟨4, .p (.mov), [.t 0], none, false⟩]
noncomputable def c6_r12 : List SOp := [⟨0, .p (.mov), [.v 9], none, false⟩,
      ⟨1, .p (.bin .add), [.t 0, .c (.int .i64 1)], none, false⟩,
      ⟨2, .p (.mov), [.t 0], none, false⟩]
noncomputable def c6_l13 : CCode := (.seq (.rcond c6_r7 [] 0
    .skip
    (.exit 0)) (.seq (.block 1 (.seq (.rcond c6_r8 [] 0
    (.reg c6_r9 [(6, 0)])
    .skip) (.seq (.reg c6_r10 [(10, 1)]) (.reg c6_r11 [(6, 0)])))) (.reg c6_r12 [(9, 0)])))
noncomputable def c6_r14 : List SOp := [⟨0, .p (.mov), [.v 8], none, false⟩,
      ⟨1, .p (.mov), [.v 7], none, false⟩,
      ⟨2, .p (.bin .eql), [.t 1, .t 0], none, false⟩]
noncomputable def c6_r15 : List SOp := [⟨0, .p (.mov), [.v 6], none, false⟩,
      ⟨1, .p (.mov), [.v 5], none, false⟩,
      ⟨2, .a (.bslice [.int .u8 0] [(0, 1)] 1 1), [.t 0], none, false⟩,
      ⟨3, .r .bytesStr, [.t 0], none, false⟩,
      ⟨4, .p (.bin .add), [.t 3, .t 0], none, false⟩,
      ⟨5, .p (.mov), [.t 0], none, false⟩]
noncomputable def c6_r16 : List SOp := [⟨0, .p (.mov), [.v 6], none, false⟩,
      ⟨1, .call 18, [.t 0], none, false⟩,
      ⟨2, .p (.mov), [.t 0], none, false⟩,
      ⟨3, .p (.extract 0), [.t 0], none, false⟩,
      ⟨4, .p (.extract 1), [.t 1], none, false⟩,
      ⟨5, .p (.extract 2), [.t 2], none, false⟩,
      ⟨6, .p (.mov), [.t 2], none, false⟩,
      ⟨7, .p (.mov), [.t 2], none, false⟩,
      ⟨8, .p (.mov), [.t 2], none, false⟩]
noncomputable def c6_r17 : List SOp := [⟨0, .p (.mov), [.v 4], none, false⟩,
      ⟨1, .p (.mov), [.t 0], none, false⟩,
      ⟨2, .p (.mov), [.v 11], some (0, true), false⟩,
      ⟨3, .p (.lenS), [.t 0], some (1, true), false⟩,
      ⟨4, .p (.bin .eql), [.t 0, .c (.int .i64 0)], some (2, true), false⟩,
      ⟨5, .p (.pick), [.t 3, .t 0, .c (.bool false)], none, false⟩,
      ⟨6, .p (.mov), [.t 0], none, false⟩,
      ⟨7, .p (.mov), [.v 12], some (0, true), false⟩,
      ⟨8, .p (.bin .eql), [.t 0, .c (.int .i64 50)], some (1, true), false⟩,
      ⟨9, .p (.pick), [.t 2, .t 0, .c (.bool false)], none, false⟩,
      ⟨10, .p (.mov), [.t 0], none, false⟩,
      ⟨11, .p (.mov), [.v 13], some (0, true), false⟩,
      ⟨12, .p (.mov), [.v 8], some (1, true), false⟩,
      ⟨13, .p (.bin .add), [.t 0, .c (.int .i64 1)], some (2, true), false⟩,
      ⟨14, .p (.bin .eql), [.t 2, .t 0], some (3, true), false⟩,
      ⟨15, .p (.pick), [.t 4, .t 0, .c (.bool false)], none, false⟩,
      ⟨16, .p (.mov), [.t 0], none, false⟩]
noncomputable def c6 : CFn := { nargs := 3, vars := [0, 1, 2, 6, 7, 8, 9, 10, 11, 12, 13, 15, 16, 17], results := [.var 3], body := (.seq (.reg c6_r0 [(3, 0)]) (.seq (.reg c6_r1 [(4, 0)]) (.seq (.reg c6_r2 [(5, 0)]) (.seq (.reg c6_r3 [(6, 0)]) (.seq (.reg c6_r4 [(7, 0)]) (.seq (.reg c6_r5 [(8, 0)]) (.seq (.seq (.reg c6_r6 [(9, 0)]) (.block 0 (.loop c6_l13))) (.seq (.rcond c6_r14 [] 0
    (.reg c6_r15 [(6, 0)])
    .skip) (.seq (.reg c6_r16 [(11, 2), (12, 1), (13, 0)]) (.seq (.reg c6_r17 [(3, 0)]) .ret)))))))))) }

/-- headstock/headstocklaw05.TokenNumbers · variables 0:n, 1:c, 4:, 5:ok, 6:k, 7:a, 8:p, 9:b, 10:q, 11:d, 12:r, 13:f, 14:t, 15:g, 16:u, 17:letter, 18:l, 19:e -/
noncomputable def c7_r0 : List SOp := [⟨0, .p (.mov), [.c (.bool false)], none, false⟩]
noncomputable def c7_r1 : List SOp := [⟨0, .call 10, [], none, false⟩,
      ⟨1, .p (.mov), [.t 0], none, false⟩]
noncomputable def c7_r2 : List SOp := [⟨0, .p (.mov), [.v 0], none, false⟩,
      ⟨1, .call 17, [.t 0, .c (.int .i64 4294967296)], none, false⟩,
      ⟨2, .p (.mov), [.t 0], none, false⟩]
noncomputable def c7_r3 : List SOp := [⟨0, .p (.mov), [.v 4], none, false⟩,
      ⟨1, .call 24, [.t 0], none, false⟩,
      ⟨2, .call 21, [.t 0], none, false⟩,
      ⟨3, .p (.mov), [.t 0], none, false⟩,
      ⟨4, .p (.extract 0), [.t 0], none, false⟩,
      ⟨5, .p (.extract 1), [.t 1], none, false⟩,
      ⟨6, .p (.mov), [.t 1], none, false⟩,
      ⟨7, .p (.mov), [.t 1], none, false⟩]
noncomputable def c7_r4 : List SOp := [⟨0, .p (.mov), [.v 4], none, false⟩,
      ⟨1, .call 25, [.t 0], none, false⟩,
      ⟨2, .p (.bin .add), [.c (.string ⟨#[48, 120]⟩), .t 0], none, false⟩,
      ⟨3, .call 21, [.t 0], none, false⟩,
      ⟨4, .p (.mov), [.t 0], none, false⟩,
      ⟨5, .p (.extract 0), [.t 0], none, false⟩,
      ⟨6, .p (.extract 1), [.t 1], none, false⟩,
      ⟨7, .p (.mov), [.t 1], none, false⟩,
      ⟨8, .p (.mov), [.t 1], none, false⟩]
noncomputable def c7_r5 : List SOp := [⟨0, .p (.mov), [.v 4], none, false⟩,
      ⟨1, .p (.bin .add), [.c (.int .i64 4294967296), .t 0], none, false⟩,
      ⟨2, .call 24, [.t 0], none, false⟩,
      ⟨3, .call 21, [.t 0], none, false⟩,
      ⟨4, .p (.mov), [.t 0], none, false⟩,
      ⟨5, .p (.extract 0), [.t 0], none, false⟩,
      ⟨6, .p (.extract 1), [.t 1], none, false⟩,
      ⟨7, .p (.mov), [.t 1], none, false⟩,
      ⟨8, .p (.mov), [.t 1], none, false⟩]
noncomputable def c7_r6 : List SOp := [⟨0, .p (.mov), [.v 4], none, false⟩,
      ⟨1, .call 24, [.t 0], none, false⟩,
      ⟨2, .p (.bin .add), [.c (.string ⟨#[48]⟩), .t 0], none, false⟩,
      ⟨3, .call 21, [.t 0], none, false⟩,
      ⟨4, .p (.mov), [.t 0], none, false⟩,
      ⟨5, .p (.extract 0), [.t 0], none, false⟩,
      ⟨6, .p (.extract 1), [.t 1], none, false⟩,
      ⟨7, .p (.mov), [.t 1], none, false⟩,
      ⟨8, .p (.mov), [.t 1], none, false⟩]
noncomputable def c7_r7 : List SOp := [⟨0, .p (.mov), [.v 4], none, false⟩,
      ⟨1, .p (.bin .add), [.c (.int .i64 4294967296), .t 0], none, false⟩,
      ⟨2, .call 25, [.t 0], none, false⟩,
      ⟨3, .p (.bin .add), [.c (.string ⟨#[48, 120]⟩), .t 0], none, false⟩,
      ⟨4, .call 21, [.t 0], none, false⟩,
      ⟨5, .p (.mov), [.t 0], none, false⟩,
      ⟨6, .p (.extract 0), [.t 0], none, false⟩,
      ⟨7, .p (.extract 1), [.t 1], none, false⟩,
      ⟨8, .p (.mov), [.t 1], none, false⟩,
      ⟨9, .p (.mov), [.t 1], none, false⟩]
noncomputable def c7_r8 : List SOp := [⟨0, .p (.mov), [.v 1], none, false⟩,
      ⟨1, .call 17, [.t 0, .c (.int .i64 20)], none, false⟩,
      ⟨2, .p (.bin .add), [.c (.int .i64 103), .t 0], none, false⟩,
      ⟨3, .p (.conv .u8), [.t 0], none, false⟩,
      ⟨4, .a (.bslice [.int .u8 0] [(0, 1)] 1 1), [.t 0], none, false⟩,
      ⟨5, .r .bytesStr, [.t 0], none, false⟩,
      ⟨6, .p (.mov), [.t 0], none, false⟩]
noncomputable def c7_r9 : List SOp := [⟨0, .p (.mov), [.v 4], none, false⟩,
      ⟨1, .call 24, [.t 0], none, false⟩,
      ⟨2, .p (.mov), [.v 15], none, false⟩,
      ⟨3, .p (.bin .add), [.t 1, .t 0], none, false⟩,
      ⟨4, .call 18, [.t 0], none, false⟩,
      ⟨5, .p (.mov), [.t 0], none, false⟩,
      ⟨6, .p (.extract 0), [.t 0], none, false⟩,
      ⟨7, .p (.extract 1), [.t 1], none, false⟩,
      ⟨8, .p (.extract 2), [.t 2], none, false⟩,
      ⟨9, .p (.mov), [.t 2], none, false⟩,
      ⟨10, .p (.mov), [.t 2], none, false⟩,
      ⟨11, .p (.mov), [.t 2], none, false⟩]
noncomputable def c7_r10 : List SOp := [⟨0, .p (.mov), [.v 3], none, false⟩,
      ⟨1, .p (.mov), [.t 0], none, false⟩,
      ⟨2, .p (.mov), [.v 6], some (0, true), false⟩,
      ⟨3, .p (.pick), [.t 1, .t 0, .c (.bool false)], none, false⟩,
      ⟨4, .p (.mov), [.t 0], none, false⟩,
      ⟨5, .p (.mov), [.v 8], some (0, true), false⟩,
      ⟨6, .p (.pick), [.t 1, .t 0, .c (.bool false)], none, false⟩,
      ⟨7, .p (.mov), [.t 0], none, false⟩,
      ⟨8, .p (.mov), [.v 10], some (0, true), false⟩,
      ⟨9, .p (.un .not), [.t 0], some (1, true), false⟩,
      ⟨10, .p (.pick), [.t 2, .t 0, .c (.bool false)], none, false⟩,
      ⟨11, .p (.mov), [.t 0], none, false⟩,
      ⟨12, .p (.mov), [.v 12], some (0, true), false⟩,
      ⟨13, .p (.un .not), [.t 0], some (1, true), false⟩,
      ⟨14, .p (.pick), [.t 2, .t 0, .c (.bool false)], none, false⟩,
      ⟨15, .p (.mov), [.t 0], none, false⟩,
      ⟨16, .p (.mov), [.v 14], some (0, true), false⟩,
      ⟨17, .p (.un .not), [.t 0], some (1, true), false⟩,
      ⟨18, .p (.pick), [.t 2, .t 0, .c (.bool false)], none, false⟩,
      ⟨19, .p (.mov), [.t 0], none, false⟩,
      ⟨20, .p (.mov), [.v 5], some (0, true), false⟩,
      ⟨21, .p (.mov), [.v 4], some (1, true), false⟩,
      ⟨22, .p (.bin .eql), [.t 1, .t 0], some (2, true), false⟩,
      ⟨23, .p (.pick), [.t 3, .t 0, .c (.bool false)], none, false⟩,
      ⟨24, .p (.mov), [.t 0], none, false⟩,
      ⟨25, .p (.mov), [.v 7], some (0, true), false⟩,
      ⟨26, .p (.mov), [.v 4], some (1, true), false⟩,
      ⟨27, .p (.bin .eql), [.t 1, .t 0], some (2, true), false⟩,
      ⟨28, .p (.pick), [.t 3, .t 0, .c (.bool false)], none, false⟩,
      ⟨29, .p (.mov), [.t 0], none, false⟩,
      ⟨30, .p (.mov), [.v 9], some (0, true), false⟩,
      ⟨31, .p (.bin .eql), [.t 0, .c (.int .i64 0)], some (1, true), false⟩,
      ⟨32, .p (.pick), [.t 2, .t 0, .c (.bool false)], none, false⟩,
      ⟨33, .p (.mov), [.t 0], none, false⟩,
      ⟨34, .p (.mov), [.v 11], some (0, true), false⟩,
      ⟨35, .p (.bin .eql), [.t 0, .c (.int .i64 0)], some (1, true), false⟩,
      ⟨36, .p (.pick), [.t 2, .t 0, .c (.bool false)], none, false⟩,
      ⟨37, .p (.mov), [.t 0], none, false⟩,
      ⟨38, .p (.mov), [.v 13], some (0, true), false⟩,
      ⟨39, .p (.bin .eql), [.t 0, .c (.int .i64 0)], some (1, true), false⟩,
      ⟨40, .p (.pick), [.t 2, .t 0, .c (.bool false)], none, false⟩,
      ⟨41, .p (.mov), [.t 0], none, false⟩,
      ⟨42, .p (.mov), [.v 16], some (0, true), false⟩,
      ⟨43, .p (.lenS), [.t 0], some (1, true), false⟩,
      ⟨44, .p (.bin .eql), [.t 0, .c (.int .i64 0)], some (2, true), false⟩,
      ⟨45, .p (.pick), [.t 3, .t 0, .c (.bool false)], none, false⟩,
      ⟨46, .p (.mov), [.t 0], none, false⟩,
      ⟨47, .p (.mov), [.v 17], some (0, true), false⟩,
      ⟨48, .p (.bin .eql), [.t 0, .c (.int .i64 50)], some (1, true), false⟩,
      ⟨49, .p (.pick), [.t 2, .t 0, .c (.bool false)], none, false⟩,
      ⟨50, .p (.mov), [.t 0], none, false⟩,
      ⟨51, .p (.mov), [.v 4], some (0, true), false⟩,
      ⟨52, .call 24, [.t 0], some (1, true), false⟩,
      ⟨53, .call 13, [.t 0], some (2, true), false⟩,
      ⟨54, .p (.un .not), [.t 0], some (3, true), false⟩,
      ⟨55, .p (.pick), [.t 4, .t 0, .c (.bool false)], none, false⟩,
      ⟨56, .p (.mov), [.t 0], none, false⟩]
noncomputable def c7 : CFn := { nargs := 2, vars := [0, 1, 4, 5, 6, 7, 8, 9, 10, 11, 12, 13, 14, 15, 16, 17, 18, 19], results := [.var 2], body := (.seq (.reg c7_r0 [(2, 0)]) (.seq (.reg c7_r1 [(3, 0)]) (.seq (.reg c7_r2 [(4, 0)]) (.seq (.reg c7_r3 [(5, 1), (6, 0)]) (.seq (.reg c7_r4 [(7, 1), (8, 0)]) (.seq (.reg c7_r5 [(9, 1), (10, 0)]) (.seq (.reg c7_r6 [(11, 1), (12, 0)]) (.seq (.reg c7_r7 [(13, 1), (14, 0)]) (.seq (.reg c7_r8 [(15, 0)]) (.seq (.reg c7_r9 [(16, 2), (17, 1)]) (.seq (.reg c7_r10 [(2, 0)]) .ret))))))))))) }

/-- headstock/headstocklaw05.TokenShifts · variables 0:s, 1:raw, 2:blanks, 6:, 7:ok, 8:t, 9:i, 10:w, 12:ahead, 13:i, 15:x, 16:l, 17:e, 18:n, 19:m, 20:f, 21:k, 22:i, 69:, 70:, 71:, 72: -/
noncomputable def c8_r0 : List SOp := [⟨0, .p (.mov), [.c (.bool false)], none, false⟩]
noncomputable def c8_r1 : List SOp := [⟨0, .call 10, [], none, false⟩,
      ⟨1, .p (.mov), [.t 0], none, false⟩]
noncomputable def c8_r2 : List SOp := [⟨0, .p (.mov), [.c (.string ⟨#[]⟩)], none, false⟩]
noncomputable def c8_r3 : List SOp := [⟨0, .p (.mov), [.c (.int .i64 0)], none, false⟩]
noncomputable def c8_r4 : List SOp := [⟨0, .p (.mov), [.v 6], none, false⟩,
      ⟨1, .p (.mov), [.v 1], none, false⟩,
      ⟨2, .p (.lenS), [.t 0], none, false⟩,
      ⟨3, .p (.bin .lss), [.t 2, .t 0], none, false⟩,
      ⟨4, .p (.mov), [.t 0], none, false⟩,
      ⟨5, .p (.mov), [.v 6], some (0, true), false⟩,
      ⟨6, .p (.bin .lss), [.t 0, .c (.int .i64 20)], some (1, true), false⟩,
      ⟨7, .p (.pick), [.t 2, .t 0, .c (.bool false)], none, false⟩]
noncomputable def c8_r5 : List SOp := [⟨0, .p (.mov), [.v 1], none, false⟩,
      ⟨1, .p (.mov), [.v 6], none, false⟩,
      ⟨2, .p (.idxAddrS 2), [.t 1, .t 0], none, false⟩,
      ⟨3, .p (.idxAddrA 2 1), [.t 0, .c (.int .i64 0)], none, false⟩,
      ⟨4, .r (.load false 1), [.t 0], none, false⟩,
      ⟨5, .p (.mov), [.v 1], none, false⟩,
      ⟨6, .p (.mov), [.v 6], none, false⟩,
      ⟨7, .p (.idxAddrS 2), [.t 1, .t 0], none, false⟩,
      ⟨8, .p (.idxAddrA 2 1), [.t 0, .c (.int .i64 1)], none, false⟩,
      ⟨9, .r (.load false 1), [.t 0], none, false⟩,
      ⟨10, .call 11, [.t 5, .t 0], none, false⟩,
      ⟨11, .p (.mov), [.t 0], none, false⟩,
      ⟨12, .p (.extract 0), [.t 0], none, false⟩,
      ⟨13, .p (.extract 1), [.t 1], none, false⟩,
      ⟨14, .p (.mov), [.t 1], none, false⟩,
      ⟨15, .p (.mov), [.t 1], none, false⟩]
noncomputable def c8_r6 : List SOp := [⟨0, .p (.mov), [.v 5], none, false⟩,
      ⟨1, .p (.mov), [.v 7], none, false⟩,
      ⟨2, .p (.bin .add), [.t 1, .t 0], none, false⟩,
      ⟨3, .p (.bin .add), [.t 0, .c (.string ⟨#[32]⟩)], none, false⟩,
      ⟨4, .p (.mov), [.t 0], none, false⟩]
noncomputable def c8_r7 : List SOp := [⟨0, .p (.mov), [.v 6], none, false⟩,
      ⟨1, .p (.bin .add), [.t 0, .c (.int .i64 1)], none, false⟩,
      ⟨2, .p (.mov), [.t 0], none, false⟩]
noncomputable def c8_l8 : CCode := (.seq (.rcond c8_r4 [] 0
    .skip
    (.exit 0)) (.seq (.block 1 (.seq (.reg c8_r5 [(7, 1)]) (.reg c8_r6 [(5, 0)]))) (.reg c8_r7 [(6, 0)])))
noncomputable def c8_r9 : List SOp := [⟨0, .p (.mov), [.c (.string ⟨#[]⟩)], none, false⟩]
noncomputable def c8_r10 : List SOp := [⟨0, .p (.mov), [.c (.int .i64 0)], none, false⟩]
noncomputable def c8_r11 : List SOp := [⟨0, .p (.mov), [.v 9], none, false⟩,
      ⟨1, .p (.mov), [.v 2], none, false⟩,
      ⟨2, .p (.lenS), [.t 0], none, false⟩,
      ⟨3, .p (.bin .lss), [.t 2, .t 0], none, false⟩,
      ⟨4, .p (.mov), [.t 0], none, false⟩,
      ⟨5, .p (.mov), [.v 9], some (0, true), false⟩,
      ⟨6, .p (.bin .lss), [.t 0, .c (.int .i64 20)], some (1, true), false⟩,
      ⟨7, .p (.pick), [.t 2, .t 0, .c (.bool false)], none, false⟩]
noncomputable def c8_r12 : List SOp := [⟨0, .p (.mov), [.v 8], none, false⟩,
      ⟨1, .p (.mov), [.v 2], none, false⟩,
      ⟨2, .p (.mov), [.v 9], none, false⟩,
      ⟨3, .call 12, [.t 1, .t 0], none, false⟩,
      ⟨4, .p (.bin .add), [.t 3, .t 0], none, false⟩,
      ⟨5, .p (.mov), [.t 0], none, false⟩]
noncomputable def c8_r13 : List SOp := [⟨0, .p (.mov), [.v 9], none, false⟩,
      ⟨1, .p (.bin .add), [.t 0, .c (.int .i64 1)], none, false⟩,
      ⟨2, .p (.mov), [.t 0], none, false⟩]
noncomputable def c8_l14 : CCode := (.seq (.rcond c8_r11 [] 0
    .skip
    (.exit 2)) (.seq (.block 3 (.reg c8_r12 [(8, 0)])) (.reg c8_r13 [(9, 0)])))
noncomputable def c8_r15 : List SOp := [⟨0, .p (.mov), [.v 0], none, false⟩,
      ⟨1, .p (.mov), [.v 5], none, false⟩,
      ⟨2, .a (.bslice [.string ⟨#[]⟩, .string ⟨#[]⟩] [(0, 1), (1, 1)] 2 1), [.t 1, .t 0], none, false⟩,
      ⟨3, .p (.lenS), [.t 0], none, false⟩,
      ⟨4, .p (.mov), [.c (.int .i64 0)], none, false⟩]
noncomputable def c8_r16 : List SOp := [⟨0, .p (.bin .lss), [.v 20, .v 19], none, false⟩]
noncomputable def c8_r17 : List SOp := [⟨0, .p (.idxAddrS 1), [.v 18, .v 20], none, false⟩,
      ⟨1, .r (.load false 1), [.t 0], none, false⟩,
      ⟨2, .p (.mov), [.t 0], none, false⟩]
noncomputable def c8_r18 : List SOp := [⟨0, .p (.mov), [.v 10], none, false⟩,
      ⟨1, .p (.lenStr), [.t 0], none, false⟩,
      ⟨2, .p (.bin .gtr), [.t 0, .c (.int .i64 10000)], none, false⟩]
noncomputable def c8_r19 : List SOp := [⟨0, .p (.mov), [.v 10], none, false⟩,
      ⟨1, .call 18, [.t 0], none, false⟩,
      ⟨2, .p (.mov), [.t 0], none, false⟩,
      ⟨3, .p (.extract 0), [.t 0], none, false⟩,
      ⟨4, .p (.extract 1), [.t 1], none, false⟩,
      ⟨5, .p (.extract 2), [.t 2], none, false⟩,
      ⟨6, .p (.mov), [.t 2], none, false⟩,
      ⟨7, .p (.mov), [.t 2], none, false⟩,
      ⟨8, .p (.mov), [.t 2], none, false⟩]
noncomputable def c8_r20 : List SOp := [⟨0, .p (.mov), [.v 8], none, false⟩,
      ⟨1, .p (.mov), [.v 10], none, false⟩,
      ⟨2, .p (.bin .add), [.t 1, .t 0], none, false⟩,
      ⟨3, .call 18, [.t 0], none, false⟩,
      ⟨4, .p (.mov), [.t 0], none, false⟩,
      ⟨5, .p (.extract 0), [.t 0], none, false⟩,
      ⟨6, .p (.extract 1), [.t 1], none, false⟩,
      ⟨7, .p (.extract 2), [.t 2], none, false⟩,
      ⟨8, .p (.mov), [.t 2], none, false⟩,
      ⟨9, .p (.mov), [.t 2], none, false⟩,
      ⟨10, .p (.mov), [.t 2], none, false⟩]
noncomputable def c8_r21 : List SOp := [⟨0, .p (.mov), [.v 12], none, false⟩,
      ⟨1, .p (.mov), [.v 15], none, false⟩,
      ⟨2, .p (.bin .neq), [.t 1, .t 0], none, false⟩,
      ⟨3, .p (.mov), [.t 0], none, false⟩,
      ⟨4, .p (.mov), [.v 11], some (0, false), false⟩,
      ⟨5, .p (.lenS), [.t 0], some (1, false), false⟩,
      ⟨6, .p (.mov), [.v 14], some (2, false), false⟩,
      ⟨7, .p (.lenS), [.t 0], some (3, false), false⟩,
      ⟨8, .p (.bin .neq), [.t 2, .t 0], some (4, false), false⟩,
      ⟨9, .p (.pick), [.t 5, .c (.bool true), .t 0], none, false⟩,
      ⟨10, .p (.mov), [.t 0], none, false⟩,
      ⟨11, .p (.mov), [.v 12], some (0, false), false⟩,
      ⟨12, .p (.bin .neq), [.t 0, .c (.int .i64 0)], some (1, false), false⟩,
      ⟨13, .p (.mov), [.t 0], some (2, false), false⟩,
      ⟨14, .p (.mov), [.v 16], some (0, true), false⟩,
      ⟨15, .p (.mov), [.v 13], some (1, true), false⟩,
      ⟨16, .p (.mov), [.v 8], some (2, true), false⟩,
      ⟨17, .call 23, [.t 0], some (3, true), false⟩,
      ⟨18, .p (.bin .add), [.t 2, .t 0], some (4, true), false⟩,
      ⟨19, .p (.bin .neq), [.t 4, .t 0], some (5, true), false⟩,
      ⟨20, .p (.pick), [.t 6, .t 0, .c (.bool false)], some (9, false), false⟩,
      ⟨21, .p (.pick), [.t 10, .c (.bool true), .t 0], none, false⟩]
noncomputable def c8_r22 : List SOp := [⟨0, .p (.mov), [.c (.bool false)], none, false⟩]
noncomputable def c8_r23 : List SOp := [⟨0, .p (.mov), [.c (.int .i64 0)], none, false⟩]
noncomputable def c8_r24 : List SOp := [⟨0, .p (.mov), [.v 17], none, false⟩,
      ⟨1, .p (.mov), [.v 11], none, false⟩,
      ⟨2, .p (.lenS), [.t 0], none, false⟩,
      ⟨3, .p (.bin .lss), [.t 2, .t 0], none, false⟩]
noncomputable def c8_r25 : List SOp := [⟨7, .p (.mov), [.v 8], none, false⟩,
      ⟨8, .call 23, [.t 0], none, true⟩,
      ⟨0, .p (.mov), [.v 11], none, false⟩,
      ⟨1, .p (.mov), [.v 17], none, false⟩,
      ⟨2, .p (.mov), [.v 11], none, false⟩,
      ⟨3, .p (.mov), [.v 17], none, false⟩,
      ⟨4, .p (.idxAddrS 4), [.t 1, .t 0], none, false⟩,
      ⟨5, .p (.fieldAddr 3), [.t 0], none, false⟩,
      ⟨6, .r (.load false 1), [.t 0], none, false⟩,
      ⟨9, .p (.bin .add), [.t 0, .t 7], none, false⟩,
      ⟨10, .p (.idxAddrS 4), [.t 7, .t 6], none, false⟩,
      ⟨11, .p (.fieldAddr 3), [.t 0], none, false⟩,
      ⟨12, .w (.store 1), [.t 0, .t 2], none, false⟩]
noncomputable def c8_r26 : List SOp := [⟨0, .p (.mov), [.v 17], none, false⟩,
      ⟨1, .p (.bin .add), [.t 0, .c (.int .i64 1)], none, false⟩,
      ⟨2, .p (.mov), [.t 0], none, false⟩]
noncomputable def c8_l27 : CCode := (.seq (.rcond c8_r24 [] 0
    .skip
    (.exit 6)) (.seq (.block 7 (.reg c8_r25 [])) (.reg c8_r26 [(17, 0)])))
noncomputable def c8_r28 : List SOp := [⟨0, .p (.mov), [.v 11], none, false⟩,
      ⟨1, .p (.mov), [.v 14], none, false⟩,
      ⟨2, .call 20, [.t 1, .t 0], none, false⟩,
      ⟨3, .p (.un .not), [.t 0], none, false⟩]
noncomputable def c8_r29 : List SOp := [⟨0, .p (.mov), [.c (.bool false)], none, false⟩]
noncomputable def c8_r30 : List SOp := [⟨0, .p (.bin .add), [.v 20, .c (.int .i64 1)], none, false⟩,
      ⟨1, .p (.mov), [.t 0], none, false⟩]
noncomputable def c8_l31 : CCode := (.seq (.reg c8_r16 [(21, 0)]) (.seq (.cond (.v 21) .skip (.exit 4)) (.seq (.block 5 (.seq (.reg c8_r17 [(10, 0)]) (.seq (.rcond c8_r18 [] 0
    (.exit 5)
    .skip) (.seq (.reg c8_r19 [(11, 2), (12, 1), (13, 0)]) (.seq (.reg c8_r20 [(14, 2), (15, 1), (16, 0)]) (.seq (.rcond c8_r21 [] 0
    (.seq (.reg c8_r22 [(3, 0)]) .ret)
    .skip) (.seq (.seq (.reg c8_r23 [(17, 0)]) (.block 6 (.loop c8_l27))) (.rcond c8_r28 [] 0
    (.seq (.reg c8_r29 [(3, 0)]) .ret)
    .skip)))))))) (.reg c8_r30 [(20, 0)]))))
noncomputable def c8_r32 : List SOp := [⟨0, .p (.mov), [.v 4], none, false⟩,
      ⟨1, .p (.mov), [.t 0], none, false⟩]
noncomputable def c8 : CFn := { nargs := 3, vars := [0, 1, 2, 6, 7, 8, 9, 10, 12, 13, 15, 16, 17, 18, 19, 20, 21, 22, 69, 70, 71, 72], results := [.var 3], body := (.seq (.reg c8_r0 [(3, 0)]) (.seq (.reg c8_r1 [(4, 0)]) (.seq (.reg c8_r2 [(5, 0)]) (.seq (.seq (.reg c8_r3 [(6, 0)]) (.block 0 (.loop c8_l8))) (.seq (.reg c8_r9 [(8, 0)]) (.seq (.seq (.reg c8_r10 [(9, 0)]) (.block 2 (.loop c8_l14))) (.seq (.seq (.reg c8_r15 [(18, 2), (19, 1), (20, 0)]) (.block 4 (.loop c8_l31))) (.seq (.reg c8_r32 [(3, 0)]) .ret)))))))) }

/-- headstock/headstocklaw05.TokenSigns · variables 0:one, 1:two, 4:, 5:ok, 6:a, 8:b, 10:l, 11:e, 13:m, 14:f, 16:s, 17:i -/
noncomputable def c9_r0 : List SOp := [⟨0, .p (.mov), [.c (.bool false)], none, false⟩]
noncomputable def c9_r1 : List SOp := [⟨0, .call 10, [], none, false⟩,
      ⟨1, .p (.mov), [.t 0], none, false⟩]
noncomputable def c9_r2 : List SOp := [⟨0, .p (.mov), [.v 0], none, false⟩,
      ⟨1, .call 11, [.c (.int .i64 1), .t 0], none, false⟩,
      ⟨2, .p (.mov), [.t 0], none, false⟩,
      ⟨3, .p (.extract 0), [.t 0], none, false⟩,
      ⟨4, .p (.extract 1), [.t 1], none, false⟩,
      ⟨5, .p (.mov), [.t 1], none, false⟩,
      ⟨6, .p (.mov), [.t 1], none, false⟩]
noncomputable def c9_r3 : List SOp := [⟨0, .p (.mov), [.v 1], none, false⟩,
      ⟨1, .call 11, [.c (.int .i64 1), .t 0], none, false⟩,
      ⟨2, .p (.mov), [.t 0], none, false⟩,
      ⟨3, .p (.extract 0), [.t 0], none, false⟩,
      ⟨4, .p (.extract 1), [.t 1], none, false⟩,
      ⟨5, .p (.mov), [.t 1], none, false⟩,
      ⟨6, .p (.mov), [.t 1], none, false⟩]
noncomputable def c9_r4 : List SOp := [⟨0, .p (.mov), [.v 4], none, false⟩,
      ⟨1, .p (.bin .add), [.t 0, .c (.string ⟨#[32]⟩)], none, false⟩,
      ⟨2, .p (.mov), [.v 5], none, false⟩,
      ⟨3, .p (.bin .add), [.t 1, .t 0], none, false⟩,
      ⟨4, .call 18, [.t 0], none, false⟩,
      ⟨5, .p (.mov), [.t 0], none, false⟩,
      ⟨6, .p (.extract 0), [.t 0], none, false⟩,
      ⟨7, .p (.extract 1), [.t 1], none, false⟩,
      ⟨8, .p (.extract 2), [.t 2], none, false⟩,
      ⟨9, .p (.mov), [.t 2], none, false⟩,
      ⟨10, .p (.mov), [.t 2], none, false⟩,
      ⟨11, .p (.mov), [.t 2], none, false⟩]
noncomputable def c9_r5 : List SOp := [⟨0, .p (.mov), [.v 4], none, false⟩,
      ⟨1, .p (.mov), [.v 5], none, false⟩,
      ⟨2, .p (.bin .add), [.t 1, .t 0], none, false⟩,
      ⟨3, .call 18, [.t 0], none, false⟩,
      ⟨4, .p (.mov), [.t 0], none, false⟩,
      ⟨5, .p (.extract 0), [.t 0], none, false⟩,
      ⟨6, .p (.extract 1), [.t 1], none, false⟩,
      ⟨7, .p (.extract 2), [.t 2], none, false⟩,
      ⟨8, .p (.mov), [.t 2], none, false⟩,
      ⟨9, .p (.mov), [.t 2], none, false⟩,
      ⟨10, .p (.mov), [.t 2], none, false⟩]
noncomputable def c9_r6 : List SOp := [⟨0, .p (.mov), [.v 3], none, false⟩,
      ⟨1, .p (.un .not), [.t 0], none, false⟩,
      ⟨2, .p (.mov), [.t 0], none, false⟩,
      ⟨3, .p (.mov), [.v 7], some (0, false), false⟩,
      ⟨4, .p (.bin .neq), [.t 0, .c (.int .i64 0)], some (1, false), false⟩,
      ⟨5, .p (.pick), [.t 2, .c (.bool true), .t 0], none, false⟩,
      ⟨6, .p (.mov), [.t 0], none, false⟩,
      ⟨7, .p (.mov), [.v 9], some (0, false), false⟩,
      ⟨8, .p (.bin .neq), [.t 0, .c (.int .i64 0)], some (1, false), false⟩,
      ⟨9, .p (.pick), [.t 2, .c (.bool true), .t 0], none, false⟩,
      ⟨10, .p (.mov), [.t 0], none, false⟩,
      ⟨11, .p (.mov), [.v 6], some (0, false), false⟩,
      ⟨12, .p (.lenS), [.t 0], some (1, false), false⟩,
      ⟨13, .p (.bin .neq), [.t 0, .c (.int .i64 3)], some (2, false), false⟩,
      ⟨14, .p (.pick), [.t 3, .c (.bool true), .t 0], none, false⟩,
      ⟨15, .p (.mov), [.t 0], none, false⟩,
      ⟨16, .p (.mov), [.v 8], some (0, false), false⟩,
      ⟨17, .p (.lenS), [.t 0], some (1, false), false⟩,
      ⟨18, .p (.bin .lss), [.t 0, .c (.int .i64 2)], some (2, false), false⟩,
      ⟨19, .p (.pick), [.t 3, .c (.bool true), .t 0], none, false⟩,
      ⟨20, .p (.mov), [.t 0], none, false⟩,
      ⟨21, .p (.mov), [.v 8], some (0, false), false⟩,
      ⟨22, .p (.lenS), [.t 0], some (1, false), false⟩,
      ⟨23, .p (.bin .gtr), [.t 0, .c (.int .i64 4)], some (2, false), false⟩,
      ⟨24, .p (.pick), [.t 3, .c (.bool true), .t 0], none, false⟩]
noncomputable def c9_r7 : List SOp := [⟨0, .p (.mov), [.c (.bool false)], none, false⟩]
noncomputable def c9_r8 : List SOp := [⟨0, .p (.mov), [.c (.string ⟨#[]⟩)], none, false⟩]
noncomputable def c9_r9 : List SOp := [⟨0, .p (.mov), [.c (.int .i64 0)], none, false⟩]
noncomputable def c9_r10 : List SOp := [⟨0, .p (.mov), [.v 11], none, false⟩,
      ⟨1, .p (.mov), [.v 8], none, false⟩,
      ⟨2, .p (.lenS), [.t 0], none, false⟩,
      ⟨3, .p (.bin .lss), [.t 2, .t 0], none, false⟩]
noncomputable def c9_r11 : List SOp := [⟨0, .p (.mov), [.v 10], none, false⟩,
      ⟨1, .p (.mov), [.v 8], none, false⟩,
      ⟨2, .p (.mov), [.v 11], none, false⟩,
      ⟨3, .p (.idxAddrS 4), [.t 1, .t 0], none, false⟩,
      ⟨4, .p (.fieldAddr 1), [.t 0], none, false⟩,
      ⟨5, .r (.load false 1), [.t 0], none, false⟩,
      ⟨6, .p (.bin .add), [.t 5, .t 0], none, false⟩,
      ⟨7, .p (.mov), [.t 0], none, false⟩]
noncomputable def c9_r12 : List SOp := [⟨0, .p (.mov), [.v 11], none, false⟩,
      ⟨1, .p (.bin .add), [.t 0, .c (.int .i64 1)], none, false⟩,
      ⟨2, .p (.mov), [.t 0], none, false⟩]
noncomputable def c9_l13 : CCode := (.seq (.rcond c9_r10 [] 0
    .skip
    (.exit 0)) (.seq (.block 1 (.reg c9_r11 [(10, 0)])) (.reg c9_r12 [(11, 0)])))
noncomputable def c9_r14 : List SOp := [⟨0, .p (.mov), [.v 6], none, false⟩,
      ⟨1, .p (.idxAddrS 4), [.t 0, .c (.int .i64 0)], none, false⟩,
      ⟨2, .p (.fieldAddr 1), [.t 0], none, false⟩,
      ⟨3, .r (.load false 1), [.t 0], none, false⟩,
      ⟨4, .p (.mov), [.v 4], none, false⟩,
      ⟨5, .p (.bin .eql), [.t 1, .t 0], none, false⟩,
      ⟨6, .p (.mov), [.t 0], none, false⟩,
      ⟨7, .p (.mov), [.v 6], some (0, true), false⟩,
      ⟨8, .p (.idxAddrS 4), [.t 0, .c (.int .i64 1)], some (1, true), false⟩,
      ⟨9, .p (.fieldAddr 1), [.t 0], some (2, true), false⟩,
      ⟨10, .r (.load false 1), [.t 0], some (3, true), false⟩,
      ⟨11, .p (.mov), [.v 5], some (4, true), false⟩,
      ⟨12, .p (.bin .eql), [.t 1, .t 0], some (5, true), false⟩,
      ⟨13, .p (.pick), [.t 6, .t 0, .c (.bool false)], none, false⟩,
      ⟨14, .p (.mov), [.t 0], none, false⟩,
      ⟨15, .p (.mov), [.v 10], some (0, true), false⟩,
      ⟨16, .p (.mov), [.v 4], some (1, true), false⟩,
      ⟨17, .p (.mov), [.v 5], some (2, true), false⟩,
      ⟨18, .p (.bin .add), [.t 1, .t 0], some (3, true), false⟩,
      ⟨19, .p (.bin .eql), [.t 3, .t 0], some (4, true), false⟩,
      ⟨20, .p (.pick), [.t 5, .t 0, .c (.bool false)], none, false⟩,
      ⟨21, .p (.mov), [.t 0], none, false⟩,
      ⟨22, .p (.mov), [.v 8], some (0, true), false⟩,
      ⟨23, .p (.idxAddrS 4), [.t 0, .c (.int .i64 0)], some (1, true), false⟩,
      ⟨24, .p (.fieldAddr 1), [.t 0], some (2, true), false⟩,
      ⟨25, .r (.load false 1), [.t 0], some (3, true), false⟩,
      ⟨26, .p (.lenStr), [.t 0], some (4, true), false⟩,
      ⟨27, .p (.mov), [.v 4], some (5, true), false⟩,
      ⟨28, .p (.lenStr), [.t 0], some (6, true), false⟩,
      ⟨29, .p (.bin .geq), [.t 2, .t 0], some (7, true), false⟩,
      ⟨30, .p (.pick), [.t 8, .t 0, .c (.bool false)], none, false⟩,
      ⟨31, .p (.mov), [.t 0], none, false⟩]
noncomputable def c9 : CFn := { nargs := 2, vars := [0, 1, 4, 5, 6, 8, 10, 11, 13, 14, 16, 17], results := [.var 2], body := (.seq (.reg c9_r0 [(2, 0)]) (.seq (.reg c9_r1 [(3, 0)]) (.seq (.reg c9_r2 [(4, 1)]) (.seq (.reg c9_r3 [(5, 1)]) (.seq (.reg c9_r4 [(6, 2), (7, 1)]) (.seq (.reg c9_r5 [(8, 2), (9, 1)]) (.seq (.rcond c9_r6 [] 0
    (.seq (.reg c9_r7 [(2, 0)]) .ret)
    .skip) (.seq (.reg c9_r8 [(10, 0)]) (.seq (.seq (.reg c9_r9 [(11, 0)]) (.block 0 (.loop c9_l13))) (.seq (.reg c9_r14 [(2, 0)]) .ret)))))))))) }

/-- headstock/headstocklaw05.awake · variables 0:, 1:l, 2:e, 5:f, 6:n, 7:k, 8:ok -/
noncomputable def c10_r0 : List SOp := [⟨0, .p (.mov), [.c (.bool false)], none, false⟩]
noncomputable def c10_r1 : List SOp := [⟨0, .call 18, [.c (.string ⟨#[108, 111, 99, 107, 32, 83, 32, 123, 32, 83, 91, 48, 93, 32, 61, 32, 48, 120, 49, 102, 59, 32, 125]⟩)], none, false⟩,
      ⟨1, .p (.mov), [.t 0], none, false⟩,
      ⟨2, .p (.extract 0), [.t 0], none, false⟩,
      ⟨3, .p (.extract 1), [.t 1], none, false⟩,
      ⟨4, .p (.extract 2), [.t 2], none, false⟩,
      ⟨5, .p (.mov), [.t 2], none, false⟩,
      ⟨6, .p (.mov), [.t 2], none, false⟩,
      ⟨7, .p (.mov), [.t 2], none, false⟩]
noncomputable def c10_r2 : List SOp := [⟨0, .call 18, [.c (.string ⟨#[97, 10, 32, 49, 98]⟩)], none, false⟩,
      ⟨1, .p (.mov), [.t 0], none, false⟩,
      ⟨2, .p (.extract 0), [.t 0], none, false⟩,
      ⟨3, .p (.extract 1), [.t 1], none, false⟩,
      ⟨4, .p (.extract 2), [.t 2], none, false⟩,
      ⟨5, .p (.mov), [.t 2], none, false⟩,
      ⟨6, .p (.mov), [.t 2], none, false⟩,
      ⟨7, .p (.mov), [.t 2], none, false⟩]
noncomputable def c10_r3 : List SOp := [⟨0, .call 21, [.c (.string ⟨#[52, 50, 57, 52, 57, 54, 55, 50, 57, 53]⟩)], none, false⟩,
      ⟨1, .p (.mov), [.t 0], none, false⟩,
      ⟨2, .p (.extract 0), [.t 0], none, false⟩,
      ⟨3, .p (.extract 1), [.t 1], none, false⟩,
      ⟨4, .p (.mov), [.t 1], none, false⟩,
      ⟨5, .p (.mov), [.t 1], none, false⟩]
noncomputable def c10_r4 : List SOp := [⟨0, .p (.mov), [.v 1], none, false⟩,
      ⟨1, .p (.lenS), [.t 0], none, false⟩,
      ⟨2, .p (.bin .neq), [.t 0, .c (.int .i64 12)], none, false⟩,
      ⟨3, .p (.mov), [.t 0], none, false⟩,
      ⟨4, .p (.mov), [.v 2], some (0, false), false⟩,
      ⟨5, .p (.bin .neq), [.t 0, .c (.int .i64 0)], some (1, false), false⟩,
      ⟨6, .p (.pick), [.t 2, .c (.bool true), .t 0], none, false⟩,
      ⟨7, .p (.mov), [.t 0], none, false⟩,
      ⟨8, .p (.mov), [.v 3], some (0, false), false⟩,
      ⟨9, .p (.bin .neq), [.t 0, .c (.int .i64 50)], some (1, false), false⟩,
      ⟨10, .p (.pick), [.t 2, .c (.bool true), .t 0], none, false⟩,
      ⟨11, .p (.mov), [.t 0], none, false⟩,
      ⟨12, .p (.mov), [.v 4], some (0, false), false⟩,
      ⟨13, .p (.bin .neq), [.t 0, .c (.int .i64 2)], some (1, false), false⟩,
      ⟨14, .p (.pick), [.t 2, .c (.bool true), .t 0], none, false⟩]
noncomputable def c10_r5 : List SOp := [⟨0, .p (.mov), [.c (.bool false)], none, false⟩]
noncomputable def c10_r6 : List SOp := [⟨0, .p (.mov), [.v 1], none, false⟩,
      ⟨1, .p (.idxAddrS 4), [.t 0, .c (.int .i64 0)], none, false⟩,
      ⟨2, .p (.fieldAddr 0), [.t 0], none, false⟩,
      ⟨3, .r (.load false 1), [.t 0], none, false⟩,
      ⟨4, .p (.bin .eql), [.t 0, .c (.int .i64 2)], none, false⟩,
      ⟨5, .p (.mov), [.t 0], none, false⟩,
      ⟨6, .p (.mov), [.v 1], some (0, true), false⟩,
      ⟨7, .p (.idxAddrS 4), [.t 0, .c (.int .i64 1)], some (1, true), false⟩,
      ⟨8, .p (.fieldAddr 0), [.t 0], some (2, true), false⟩,
      ⟨9, .r (.load false 1), [.t 0], some (3, true), false⟩,
      ⟨10, .p (.bin .eql), [.t 0, .c (.int .i64 1)], some (4, true), false⟩,
      ⟨11, .p (.pick), [.t 5, .t 0, .c (.bool false)], none, false⟩,
      ⟨12, .p (.mov), [.t 0], none, false⟩,
      ⟨13, .p (.mov), [.v 1], some (0, true), false⟩,
      ⟨14, .p (.idxAddrS 4), [.t 0, .c (.int .i64 8)], some (1, true), false⟩,
      ⟨15, .p (.fieldAddr 2), [.t 0], some (2, true), false⟩,
      ⟨16, .r (.load false 1), [.t 0], some (3, true), false⟩,
      ⟨17, .p (.bin .eql), [.t 0, .c (.int .i64 31)], some (4, true), false⟩,
      ⟨18, .p (.pick), [.t 5, .t 0, .c (.bool false)], none, false⟩,
      ⟨19, .p (.mov), [.t 0], none, false⟩,
      ⟨20, .p (.mov), [.v 1], some (0, true), false⟩,
      ⟨21, .p (.idxAddrS 4), [.t 0, .c (.int .i64 11)], some (1, true), false⟩,
      ⟨22, .p (.fieldAddr 0), [.t 0], some (2, true), false⟩,
      ⟨23, .r (.load false 1), [.t 0], some (3, true), false⟩,
      ⟨24, .p (.bin .eql), [.t 0, .c (.int .i64 5)], some (4, true), false⟩,
      ⟨25, .p (.pick), [.t 5, .t 0, .c (.bool false)], none, false⟩,
      ⟨26, .p (.mov), [.t 0], none, false⟩,
      ⟨27, .p (.mov), [.v 5], some (0, true), false⟩,
      ⟨28, .p (.bin .eql), [.t 0, .c (.int .i64 4294967295)], some (1, true), false⟩,
      ⟨29, .p (.pick), [.t 2, .t 0, .c (.bool false)], none, false⟩,
      ⟨30, .p (.mov), [.t 0], none, false⟩,
      ⟨31, .p (.mov), [.v 6], some (0, true), false⟩,
      ⟨32, .p (.pick), [.t 1, .t 0, .c (.bool false)], none, false⟩,
      ⟨33, .p (.mov), [.t 0], none, false⟩,
      ⟨34, .call 13, [.c (.string ⟨#[120, 49]⟩)], some (0, true), false⟩,
      ⟨35, .p (.pick), [.t 1, .t 0, .c (.bool false)], none, false⟩,
      ⟨36, .p (.mov), [.t 0], none, false⟩,
      ⟨37, .call 13, [.c (.string ⟨#[105, 102]⟩)], some (0, true), false⟩,
      ⟨38, .p (.un .not), [.t 0], some (1, true), false⟩,
      ⟨39, .p (.pick), [.t 2, .t 0, .c (.bool false)], none, false⟩,
      ⟨40, .p (.mov), [.t 0], none, false⟩,
      ⟨41, .call 15, [.c (.string ⟨#[105, 102]⟩)], some (0, true), false⟩,
      ⟨42, .p (.pick), [.t 1, .t 0, .c (.bool false)], none, false⟩,
      ⟨43, .p (.mov), [.t 0], none, false⟩]
noncomputable def c10 : CFn := { nargs := 0, vars := [0, 1, 2, 5, 6, 7, 8], results := [.var 0], body := (.seq (.reg c10_r0 [(0, 0)]) (.seq (.reg c10_r1 [(1, 2), (2, 1)]) (.seq (.reg c10_r2 [(3, 1), (4, 0)]) (.seq (.reg c10_r3 [(5, 1), (6, 0)]) (.seq (.rcond c10_r4 [] 0
    (.seq (.reg c10_r5 [(0, 0)]) .ret)
    .skip) (.seq (.reg c10_r6 [(0, 0)]) .ret)))))) }

/-- headstock/headstocklaw05.Piece · variables 0:kind, 1:n, 4:, 5:, 6:words, 7:signs, 8:k, 12: -/
noncomputable def c11_r0 : List SOp := [⟨0, .p (.mov), [.c (.string ⟨#[]⟩)], none, false⟩,
      ⟨1, .p (.mov), [.c (.int .i64 0)], none, false⟩]
noncomputable def c11_r1 : List SOp := [⟨0, .a (.bslice [.string ⟨#[]⟩, .string ⟨#[]⟩, .string ⟨#[]⟩, .string ⟨#[]⟩, .string ⟨#[]⟩, .string ⟨#[]⟩, .string ⟨#[]⟩, .string ⟨#[]⟩, .string ⟨#[]⟩, .string ⟨#[]⟩, .string ⟨#[]⟩, .string ⟨#[]⟩, .string ⟨#[]⟩] [(0, 1), (1, 1), (2, 1), (3, 1), (4, 1), (5, 1), (6, 1), (7, 1), (8, 1), (9, 1), (10, 1), (11, 1), (12, 1)] 13 1), [.c (.string ⟨#[104, 97, 114, 116, 115]⟩), .c (.string ⟨#[100, 101, 118, 105, 99, 101]⟩), .c (.string ⟨#[117, 97, 114, 116]⟩), .c (.string ⟨#[116, 105, 109, 101, 114]⟩), .c (.string ⟨#[103, 112, 105, 111]⟩), .c (.string ⟨#[114, 101, 115, 111, 117, 114, 99, 101]⟩), .c (.string ⟨#[116, 97, 115, 107]⟩), .c (.string ⟨#[104, 97, 110, 100, 108, 101, 114]⟩), .c (.string ⟨#[108, 111, 99, 107]⟩), .c (.string ⟨#[105, 102]⟩), .c (.string ⟨#[101, 108, 115, 101]⟩), .c (.string ⟨#[114, 101, 112, 101, 97, 116]⟩), .c (.string ⟨#[104, 97, 108, 116]⟩)], none, false⟩,
      ⟨1, .p (.mov), [.t 0], none, false⟩]
noncomputable def c11_r2 : List SOp := [⟨0, .a (.bslice [.string ⟨#[]⟩, .string ⟨#[]⟩, .string ⟨#[]⟩, .string ⟨#[]⟩, .string ⟨#[]⟩, .string ⟨#[]⟩, .string ⟨#[]⟩, .string ⟨#[]⟩, .string ⟨#[]⟩, .string ⟨#[]⟩, .string ⟨#[]⟩, .string ⟨#[]⟩, .string ⟨#[]⟩, .string ⟨#[]⟩, .string ⟨#[]⟩, .string ⟨#[]⟩, .string ⟨#[]⟩, .string ⟨#[]⟩, .string ⟨#[]⟩, .string ⟨#[]⟩, .string ⟨#[]⟩, .string ⟨#[]⟩, .string ⟨#[]⟩, .string ⟨#[]⟩, .string ⟨#[]⟩] [(0, 1), (1, 1), (2, 1), (3, 1), (4, 1), (5, 1), (6, 1), (7, 1), (8, 1), (9, 1), (10, 1), (11, 1), (12, 1), (13, 1), (14, 1), (15, 1), (16, 1), (17, 1), (18, 1), (19, 1), (20, 1), (21, 1), (22, 1), (23, 1), (24, 1)] 25 1), [.c (.string ⟨#[61, 61]⟩), .c (.string ⟨#[33, 61]⟩), .c (.string ⟨#[60, 60]⟩), .c (.string ⟨#[62, 62]⟩), .c (.string ⟨#[60, 46]⟩), .c (.string ⟨#[43]⟩), .c (.string ⟨#[45]⟩), .c (.string ⟨#[42]⟩), .c (.string ⟨#[47]⟩), .c (.string ⟨#[37]⟩), .c (.string ⟨#[38]⟩), .c (.string ⟨#[124]⟩), .c (.string ⟨#[94]⟩), .c (.string ⟨#[60]⟩), .c (.string ⟨#[61]⟩), .c (.string ⟨#[33]⟩), .c (.string ⟨#[126]⟩), .c (.string ⟨#[40]⟩), .c (.string ⟨#[41]⟩), .c (.string ⟨#[123]⟩), .c (.string ⟨#[125]⟩), .c (.string ⟨#[91]⟩), .c (.string ⟨#[93]⟩), .c (.string ⟨#[59]⟩), .c (.string ⟨#[46]⟩)], none, false⟩,
      ⟨1, .p (.mov), [.t 0], none, false⟩]
noncomputable def c11_r3 : List SOp := [⟨0, .p (.mov), [.v 0], none, false⟩,
      ⟨1, .call 17, [.t 0, .c (.int .i64 4)], none, false⟩]
noncomputable def c11_r4 : List SOp := [⟨0, .p (.bin .eql), [.v 7, .c (.int .i64 0)], none, false⟩,
      ⟨1, .p (.mov), [.t 0], none, false⟩]
noncomputable def c11_r5 : List SOp := [⟨0, .p (.mov), [.v 4], none, false⟩,
      ⟨1, .p (.mov), [.v 1], none, false⟩,
      ⟨2, .p (.mov), [.v 4], none, false⟩,
      ⟨3, .p (.lenS), [.t 0], none, false⟩,
      ⟨4, .call 17, [.t 2, .t 0], none, false⟩,
      ⟨5, .p (.idxAddrS 1), [.t 4, .t 0], none, false⟩,
      ⟨6, .r (.load false 1), [.t 0], none, false⟩,
      ⟨7, .p (.mov), [.t 0], none, false⟩,
      ⟨8, .p (.mov), [.c (.int .i64 2)], none, false⟩]
noncomputable def c11_r6 : List SOp := [⟨0, .p (.bin .eql), [.v 7, .c (.int .i64 1)], none, false⟩,
      ⟨1, .p (.mov), [.t 0], none, false⟩]
noncomputable def c11_r7 : List SOp := [⟨0, .p (.mov), [.v 5], none, false⟩,
      ⟨1, .p (.mov), [.v 1], none, false⟩,
      ⟨2, .p (.mov), [.v 5], none, false⟩,
      ⟨3, .p (.lenS), [.t 0], none, false⟩,
      ⟨4, .call 17, [.t 2, .t 0], none, false⟩,
      ⟨5, .p (.idxAddrS 1), [.t 4, .t 0], none, false⟩,
      ⟨6, .r (.load false 1), [.t 0], none, false⟩,
      ⟨7, .p (.mov), [.t 0], none, false⟩,
      ⟨8, .p (.mov), [.c (.int .i64 4)], none, false⟩]
noncomputable def c11_r8 : List SOp := [⟨0, .p (.bin .eql), [.v 7, .c (.int .i64 2)], none, false⟩,
      ⟨1, .p (.mov), [.t 0], none, false⟩]
noncomputable def c11_r9 : List SOp := [⟨0, .p (.mov), [.v 1], none, false⟩,
      ⟨1, .call 17, [.t 0, .c (.int .i64 4294967296)], none, false⟩,
      ⟨2, .p (.mov), [.t 0], none, false⟩]
noncomputable def c11_r10 : List SOp := [⟨0, .p (.mov), [.v 1], none, false⟩,
      ⟨1, .p (.bin .rem), [.t 0, .c (.int .i64 2)], none, false⟩,
      ⟨2, .p (.bin .eql), [.t 0, .c (.int .i64 0)], none, false⟩]
noncomputable def c11_r11 : List SOp := [⟨0, .p (.mov), [.v 6], none, false⟩,
      ⟨1, .call 25, [.t 0], none, false⟩,
      ⟨2, .p (.bin .add), [.c (.string ⟨#[48, 120]⟩), .t 0], none, false⟩,
      ⟨3, .p (.mov), [.t 0], none, false⟩,
      ⟨4, .p (.mov), [.c (.int .i64 3)], none, false⟩]
noncomputable def c11_r12 : List SOp := [⟨0, .p (.mov), [.v 6], none, false⟩,
      ⟨1, .call 24, [.t 0], none, false⟩,
      ⟨2, .p (.mov), [.t 0], none, false⟩,
      ⟨3, .p (.mov), [.c (.int .i64 3)], none, false⟩]
noncomputable def c11_r13 : List SOp := [⟨0, .p (.mov), [.v 1], none, false⟩,
      ⟨1, .call 26, [.t 0], none, false⟩,
      ⟨2, .p (.mov), [.t 0], none, false⟩,
      ⟨3, .p (.mov), [.c (.int .i64 1)], none, false⟩]
noncomputable def c11 : CFn := { nargs := 2, vars := [0, 1, 4, 5, 6, 7, 8, 12], results := [.var 2, .var 3], body := (.seq (.reg c11_r0 [(2, 1), (3, 0)]) (.seq (.reg c11_r1 [(4, 0)]) (.seq (.reg c11_r2 [(5, 0)]) (.seq (.seq (.reg c11_r3 [(7, 0)]) (.block 0 (.rcond c11_r4 [] 0
    (.seq (.reg c11_r5 [(2, 1), (3, 0)]) .ret)
    (.rcond c11_r6 [] 0
    (.seq (.reg c11_r7 [(2, 1), (3, 0)]) .ret)
    (.rcond c11_r8 [] 0
    (.seq (.reg c11_r9 [(6, 0)]) (.seq (.rcond c11_r10 [] 0
    (.seq (.reg c11_r11 [(2, 1), (3, 0)]) .ret)
    .skip) (.seq (.reg c11_r12 [(2, 1), (3, 0)]) .ret)))
    .skip))))) (.seq (.reg c11_r13 [(2, 1), (3, 0)]) .ret))))) }

/-- headstock/headstocklaw05.blank · variables 0:l, 1:i, 4: -/
noncomputable def c12_r0 : List SOp := [⟨0, .p (.mov), [.c (.string ⟨#[]⟩)], none, false⟩]
noncomputable def c12_r1 : List SOp := [⟨0, .p (.mov), [.v 1], none, false⟩,
      ⟨1, .p (.mov), [.v 0], none, false⟩,
      ⟨2, .p (.lenS), [.t 0], none, false⟩,
      ⟨3, .p (.bin .geq), [.t 2, .t 0], none, false⟩]
noncomputable def c12_r2 : List SOp := [⟨0, .p (.mov), [.c (.string ⟨#[32]⟩)], none, false⟩]
noncomputable def c12_r3 : List SOp := [⟨0, .a (.bslice [.string ⟨#[]⟩, .string ⟨#[]⟩, .string ⟨#[]⟩, .string ⟨#[]⟩, .string ⟨#[]⟩, .string ⟨#[]⟩, .string ⟨#[]⟩, .string ⟨#[]⟩] [(0, 1), (1, 1), (2, 1), (3, 1), (4, 1), (5, 1), (6, 1), (7, 1)] 8 1), [.c (.string ⟨#[32]⟩), .c (.string ⟨#[32, 32]⟩), .c (.string ⟨#[9]⟩), .c (.string ⟨#[32, 9, 32]⟩), .c (.string ⟨#[10]⟩), .c (.string ⟨#[32, 10, 10]⟩), .c (.string ⟨#[32, 35, 32, 120, 32, 61, 32, 49, 59, 10]⟩), .c (.string ⟨#[35, 10, 9]⟩)], none, false⟩,
      ⟨1, .p (.mov), [.v 0], none, false⟩,
      ⟨2, .p (.mov), [.v 1], none, false⟩,
      ⟨3, .p (.idxAddrS 1), [.t 1, .t 0], none, false⟩,
      ⟨4, .r (.load false 1), [.t 0], none, false⟩,
      ⟨5, .call 17, [.t 0, .c (.int .i64 8)], none, false⟩,
      ⟨6, .p (.idxAddrS 1), [.t 5, .t 0], none, false⟩,
      ⟨7, .r (.load false 1), [.t 0], none, false⟩,
      ⟨8, .p (.mov), [.t 0], none, false⟩]
noncomputable def c12 : CFn := { nargs := 2, vars := [0, 1, 4], results := [.var 2], body := (.seq (.reg c12_r0 [(2, 0)]) (.seq (.rcond c12_r1 [] 0
    (.seq (.reg c12_r2 [(2, 0)]) .ret)
    .skip) (.seq (.reg c12_r3 [(2, 0)]) .ret))) }

/-- headstock/token.Name · variables 0:s, 2: -/
noncomputable def c13_r0 : List SOp := [⟨0, .p (.mov), [.c (.bool false)], none, false⟩]
noncomputable def c13_r1 : List SOp := [⟨0, .p (.mov), [.v 0], none, false⟩,
      ⟨1, .p (.bin .neq), [.t 0, .c (.string ⟨#[]⟩)], none, false⟩,
      ⟨2, .p (.mov), [.t 0], none, false⟩,
      ⟨3, .p (.mov), [.v 0], some (0, true), false⟩,
      ⟨4, .p (.lenStr), [.t 0], some (1, true), false⟩,
      ⟨5, .p (.bin .leq), [.t 0, .c (.int .i64 20)], some (2, true), false⟩,
      ⟨6, .p (.pick), [.t 3, .t 0, .c (.bool false)], none, false⟩,
      ⟨7, .p (.mov), [.t 0], none, false⟩,
      ⟨8, .p (.mov), [.v 0], some (0, true), false⟩,
      ⟨9, .call 27, [.t 0], some (1, true), false⟩,
      ⟨10, .p (.mov), [.v 0], some (2, true), false⟩,
      ⟨11, .p (.lenStr), [.t 0], some (3, true), false⟩,
      ⟨12, .p (.bin .eql), [.t 2, .t 0], some (4, true), false⟩,
      ⟨13, .p (.pick), [.t 5, .t 0, .c (.bool false)], none, false⟩,
      ⟨14, .p (.mov), [.t 0], none, false⟩,
      ⟨15, .p (.mov), [.v 0], some (0, true), false⟩,
      ⟨16, .p (.idxStr), [.t 0, .c (.int .i64 0)], some (1, true), false⟩,
      ⟨17, .p (.bin .gtr), [.t 0, .c (.int .u8 57)], some (2, true), false⟩,
      ⟨18, .p (.pick), [.t 3, .t 0, .c (.bool false)], none, false⟩,
      ⟨19, .p (.mov), [.t 0], none, false⟩,
      ⟨20, .p (.mov), [.v 0], some (0, true), false⟩,
      ⟨21, .call 15, [.t 0], some (1, true), false⟩,
      ⟨22, .p (.un .not), [.t 0], some (2, true), false⟩,
      ⟨23, .p (.pick), [.t 3, .t 0, .c (.bool false)], none, false⟩,
      ⟨24, .p (.mov), [.t 0], none, false⟩]
noncomputable def c13 : CFn := { nargs := 1, vars := [0, 2], results := [.var 1], body := (.seq (.reg c13_r0 [(1, 0)]) (.seq (.reg c13_r1 [(1, 0)]) .ret)) }

/-- headstock/headstockref05.Name · variables 0:s, 2:, 3:is, 4:i, 5:ok -/
noncomputable def c14_r0 : List SOp := [⟨0, .p (.mov), [.c (.bool false)], none, false⟩]
noncomputable def c14_r1 : List SOp := [⟨0, .p (.mov), [.v 0], none, false⟩,
      ⟨1, .call 16, [.t 0], none, false⟩,
      ⟨2, .p (.mov), [.t 0], none, false⟩]
noncomputable def c14_r2 : List SOp := [⟨0, .p (.mov), [.v 0], none, false⟩,
      ⟨1, .p (.bin .eql), [.t 0, .c (.string ⟨#[]⟩)], none, false⟩,
      ⟨2, .p (.mov), [.t 0], none, false⟩,
      ⟨3, .p (.mov), [.v 0], some (0, false), false⟩,
      ⟨4, .p (.lenStr), [.t 0], some (1, false), false⟩,
      ⟨5, .p (.bin .gtr), [.t 0, .c (.int .i64 20)], some (2, false), false⟩,
      ⟨6, .p (.pick), [.t 3, .c (.bool true), .t 0], none, false⟩,
      ⟨7, .p (.mov), [.t 0], none, false⟩,
      ⟨8, .p (.mov), [.v 0], some (0, false), false⟩,
      ⟨9, .p (.idxStr), [.t 0, .c (.int .i64 0)], some (1, false), false⟩,
      ⟨10, .call 28, [.t 0], some (2, false), false⟩,
      ⟨11, .p (.pick), [.t 3, .c (.bool true), .t 0], none, false⟩,
      ⟨12, .p (.mov), [.t 0], none, false⟩,
      ⟨13, .p (.mov), [.v 2], some (0, false), false⟩,
      ⟨14, .p (.pick), [.t 1, .c (.bool true), .t 0], none, false⟩]
noncomputable def c14_r3 : List SOp := [⟨0, .p (.mov), [.c (.bool false)], none, false⟩]
noncomputable def c14_r4 : List SOp := [⟨0, .p (.mov), [.c (.int .i64 0)], none, false⟩]
noncomputable def c14_r5 : List SOp := [⟨0, .p (.mov), [.v 3], none, false⟩,
      ⟨1, .p (.mov), [.v 0], none, false⟩,
      ⟨2, .p (.lenStr), [.t 0], none, false⟩,
      ⟨3, .p (.bin .lss), [.t 2, .t 0], none, false⟩]
noncomputable def c14_r6 : List SOp := [⟨0, .p (.mov), [.v 0], none, false⟩,
      ⟨1, .p (.mov), [.v 3], none, false⟩,
      ⟨2, .p (.idxStr), [.t 1, .t 0], none, false⟩,
      ⟨3, .call 29, [.t 0], none, false⟩,
      ⟨4, .p (.mov), [.t 0], none, false⟩,
      ⟨5, .p (.mov), [.v 0], some (0, false), false⟩,
      ⟨6, .p (.mov), [.v 3], some (1, false), false⟩,
      ⟨7, .p (.idxStr), [.t 1, .t 0], some (2, false), false⟩,
      ⟨8, .call 28, [.t 0], some (3, false), false⟩,
      ⟨9, .p (.pick), [.t 4, .c (.bool true), .t 0], none, false⟩,
      ⟨10, .p (.mov), [.t 0], none, false⟩]
noncomputable def c14_r7 : List SOp := [⟨0, .p (.mov), [.v 4], none, false⟩,
      ⟨1, .p (.un .not), [.t 0], none, false⟩]
noncomputable def c14_r8 : List SOp := [⟨0, .p (.mov), [.c (.bool false)], none, false⟩]
noncomputable def c14_r9 : List SOp := [⟨0, .p (.mov), [.v 3], none, false⟩,
      ⟨1, .p (.bin .add), [.t 0, .c (.int .i64 1)], none, false⟩,
      ⟨2, .p (.mov), [.t 0], none, false⟩]
noncomputable def c14_l10 : CCode := (.seq (.rcond c14_r5 [] 0
    .skip
    (.exit 0)) (.seq (.block 1 (.seq (.reg c14_r6 [(4, 0)]) (.rcond c14_r7 [] 0
    (.seq (.reg c14_r8 [(1, 0)]) .ret)
    .skip))) (.reg c14_r9 [(3, 0)])))
noncomputable def c14_r11 : List SOp := [⟨0, .p (.mov), [.c (.bool true)], none, false⟩]
noncomputable def c14 : CFn := { nargs := 1, vars := [0, 2, 3, 4, 5], results := [.var 1], body := (.seq (.reg c14_r0 [(1, 0)]) (.seq (.reg c14_r1 [(2, 0)]) (.seq (.rcond c14_r2 [] 0
    (.seq (.reg c14_r3 [(1, 0)]) .ret)
    .skip) (.seq (.seq (.reg c14_r4 [(3, 0)]) (.block 0 (.loop c14_l10))) (.seq (.reg c14_r11 [(1, 0)]) .ret))))) }

/-- headstock/token.Word · variables 0:s, 2: -/
noncomputable def c15_r0 : List SOp := [⟨0, .p (.mov), [.c (.bool false)], none, false⟩]
noncomputable def c15_r1 : List SOp := [⟨0, .call 31, [], none, false⟩,
      ⟨1, .p (.mov), [.v 0], none, false⟩,
      ⟨2, .call 30, [.t 1, .t 0], none, false⟩,
      ⟨3, .p (.mov), [.t 0], none, false⟩]
noncomputable def c15 : CFn := { nargs := 1, vars := [0, 2], results := [.var 1], body := (.seq (.reg c15_r0 [(1, 0)]) (.seq (.reg c15_r1 [(1, 0)]) .ret)) }

/-- headstock/headstockref05.Word · variables 0:s, 2:, 3:l, 4:i -/
noncomputable def c16_r0 : List SOp := [⟨0, .p (.mov), [.c (.bool false)], none, false⟩]
noncomputable def c16_r1 : List SOp := [⟨0, .a (.bslice [.string ⟨#[]⟩, .string ⟨#[]⟩, .string ⟨#[]⟩, .string ⟨#[]⟩, .string ⟨#[]⟩, .string ⟨#[]⟩, .string ⟨#[]⟩, .string ⟨#[]⟩, .string ⟨#[]⟩, .string ⟨#[]⟩, .string ⟨#[]⟩, .string ⟨#[]⟩, .string ⟨#[]⟩] [(0, 1), (1, 1), (2, 1), (3, 1), (4, 1), (5, 1), (6, 1), (7, 1), (8, 1), (9, 1), (10, 1), (11, 1), (12, 1)] 13 1), [.c (.string ⟨#[104, 97, 114, 116, 115]⟩), .c (.string ⟨#[100, 101, 118, 105, 99, 101]⟩), .c (.string ⟨#[117, 97, 114, 116]⟩), .c (.string ⟨#[116, 105, 109, 101, 114]⟩), .c (.string ⟨#[103, 112, 105, 111]⟩), .c (.string ⟨#[114, 101, 115, 111, 117, 114, 99, 101]⟩), .c (.string ⟨#[116, 97, 115, 107]⟩), .c (.string ⟨#[104, 97, 110, 100, 108, 101, 114]⟩), .c (.string ⟨#[108, 111, 99, 107]⟩), .c (.string ⟨#[105, 102]⟩), .c (.string ⟨#[101, 108, 115, 101]⟩), .c (.string ⟨#[114, 101, 112, 101, 97, 116]⟩), .c (.string ⟨#[104, 97, 108, 116]⟩)], none, false⟩,
      ⟨1, .p (.mov), [.t 0], none, false⟩]
noncomputable def c16_r2 : List SOp := [⟨0, .p (.mov), [.c (.int .i64 0)], none, false⟩]
noncomputable def c16_r3 : List SOp := [⟨0, .p (.mov), [.v 3], none, false⟩,
      ⟨1, .p (.mov), [.v 2], none, false⟩,
      ⟨2, .p (.lenS), [.t 0], none, false⟩,
      ⟨3, .p (.bin .lss), [.t 2, .t 0], none, false⟩]
noncomputable def c16_r4 : List SOp := [⟨0, .p (.mov), [.v 2], none, false⟩,
      ⟨1, .p (.mov), [.v 3], none, false⟩,
      ⟨2, .p (.idxAddrS 1), [.t 1, .t 0], none, false⟩,
      ⟨3, .r (.load false 1), [.t 0], none, false⟩,
      ⟨4, .p (.mov), [.v 0], none, false⟩,
      ⟨5, .p (.bin .eql), [.t 1, .t 0], none, false⟩]
noncomputable def c16_r5 : List SOp := [⟨0, .p (.mov), [.c (.bool true)], none, false⟩]
noncomputable def c16_r6 : List SOp := [⟨0, .p (.mov), [.v 3], none, false⟩,
      ⟨1, .p (.bin .add), [.t 0, .c (.int .i64 1)], none, false⟩,
      ⟨2, .p (.mov), [.t 0], none, false⟩]
noncomputable def c16_l7 : CCode := (.seq (.rcond c16_r3 [] 0
    .skip
    (.exit 0)) (.seq (.block 1 (.rcond c16_r4 [] 0
    (.seq (.reg c16_r5 [(1, 0)]) .ret)
    .skip)) (.reg c16_r6 [(3, 0)])))
noncomputable def c16_r8 : List SOp := [⟨0, .p (.mov), [.c (.bool false)], none, false⟩]
noncomputable def c16 : CFn := { nargs := 1, vars := [0, 2, 3, 4], results := [.var 1], body := (.seq (.reg c16_r0 [(1, 0)]) (.seq (.reg c16_r1 [(2, 0)]) (.seq (.seq (.reg c16_r2 [(3, 0)]) (.block 0 (.loop c16_l7))) (.seq (.reg c16_r8 [(1, 0)]) .ret)))) }

/-- headstock/headstocklaw05.pick · variables 0:c, 1:n, 4: -/
noncomputable def c17_r0 : List SOp := [⟨0, .p (.mov), [.c (.int .i64 0)], none, false⟩]
noncomputable def c17_r1 : List SOp := [⟨0, .p (.mov), [.v 0], none, false⟩,
      ⟨1, .p (.bin .lss), [.t 0, .c (.int .i64 0)], none, false⟩]
noncomputable def c17_r2 : List SOp := [⟨0, .p (.mov), [.v 0], none, false⟩,
      ⟨1, .p (.bin .add), [.t 0, .c (.int .i64 1)], none, false⟩,
      ⟨2, .p (.un .neg), [.t 0], none, false⟩,
      ⟨3, .p (.mov), [.t 0], none, false⟩]
noncomputable def c17_r3 : List SOp := [⟨0, .p (.mov), [.v 0], none, false⟩,
      ⟨1, .p (.mov), [.v 1], none, false⟩,
      ⟨2, .p (.bin .rem), [.t 1, .t 0], none, false⟩,
      ⟨3, .p (.mov), [.t 0], none, false⟩]
noncomputable def c17 : CFn := { nargs := 2, vars := [0, 1, 4], results := [.var 2], body := (.seq (.reg c17_r0 [(2, 0)]) (.seq (.rcond c17_r1 [] 0
    (.reg c17_r2 [(0, 0)])
    .skip) (.seq (.reg c17_r3 [(2, 0)]) .ret))) }

/-- headstock/token.Scan · variables 0:s, 2:, 3:, 4:, 5:x, 6:out, 7:n, 8:t, 9:ok, 11:sign, 56:, 57:, 58:, 59: -/
noncomputable def c18_r0 : List SOp := [⟨0, .p (.mov), [.c (.slice none 0 0)], none, false⟩,
      ⟨1, .p (.mov), [.c (.int .i64 0)], none, false⟩,
      ⟨2, .p (.mov), [.c (.int .i64 0)], none, false⟩]
noncomputable def c18_r1 : List SOp := [⟨0, .p (.mov), [.v 0], none, false⟩,
      ⟨1, .p (.lenStr), [.t 0], none, false⟩,
      ⟨2, .p (.bin .gtr), [.t 0, .c (.int .i64 20000)], none, false⟩]
noncomputable def c18_r2 : List SOp := [⟨0, .p (.mov), [.c (.slice none 0 0)], none, false⟩,
      ⟨1, .p (.mov), [.c (.int .i64 2)], none, false⟩,
      ⟨2, .p (.mov), [.c (.int .i64 0)], none, false⟩]
noncomputable def c18_r3 : List SOp := [⟨0, .p (.mov), [.v 0], none, false⟩,
      ⟨1, .p (.build [.string ⟨#[]⟩, .int .i64 0] [(0, 1), (1, 1)]), [.t 0, .c (.int .i64 1)], none, false⟩,
      ⟨2, .a .box, [.t 0], none, false⟩,
      ⟨3, .p (.mov), [.t 0], none, false⟩]
noncomputable def c18_r4 : List SOp := [⟨0, .p (.mov), [.c (.slice none 0 0)], none, false⟩]
noncomputable def c18_r5 : List SOp := [⟨0, .p (.mov), [.v 4], none, false⟩,
      ⟨1, .call 32, [.t 0], none, false⟩]
noncomputable def c18_r6 : List SOp := [⟨0, .p (.mov), [.v 4], none, false⟩,
      ⟨1, .p (.nilCheck), [.t 0], none, false⟩,
      ⟨2, .p (.fieldAddr 0), [.t 0], none, false⟩,
      ⟨3, .r (.load false 1), [.t 0], none, false⟩,
      ⟨4, .p (.bin .neq), [.t 0, .c (.string ⟨#[]⟩)], none, false⟩]
noncomputable def c18_r7 : List SOp := [⟨0, .p (.mov), [.v 4], none, false⟩,
      ⟨1, .p (.nilCheck), [.t 0], none, false⟩,
      ⟨2, .p (.fieldAddr 0), [.t 0], none, false⟩,
      ⟨3, .r (.load false 1), [.t 0], none, false⟩,
      ⟨4, .call 27, [.t 0], none, false⟩,
      ⟨5, .p (.mov), [.t 0], none, false⟩]
noncomputable def c18_r8 : List SOp := [⟨0, .p (.mov), [.v 6], none, false⟩,
      ⟨1, .p (.bin .gtr), [.t 0, .c (.int .i64 0)], none, false⟩]
noncomputable def c18_r9 : List SOp := [⟨0, .p (.mov), [.v 4], none, false⟩,
      ⟨1, .p (.nilCheck), [.t 0], none, false⟩,
      ⟨2, .p (.fieldAddr 0), [.t 0], none, false⟩,
      ⟨3, .r (.load false 1), [.t 0], none, false⟩,
      ⟨4, .p (.mov), [.v 6], none, false⟩,
      ⟨5, .p (.sliceStr false true), [.t 1, .t 0], none, false⟩,
      ⟨6, .call 33, [.t 0], none, false⟩,
      ⟨7, .p (.mov), [.t 0], none, false⟩,
      ⟨8, .p (.extract 0), [.t 0], none, false⟩,
      ⟨9, .p (.extract 1), [.t 1], none, false⟩,
      ⟨10, .a (.new [.int .i64 0, .string ⟨#[]⟩, .int .i64 0, .int .i64 0]), [], none, false⟩,
      ⟨11, .w (.store 4), [.t 0, .t 2], none, false⟩,
      ⟨12, .p (.mov), [.t 2], none, false⟩]
noncomputable def c18_r10 : List SOp := [⟨0, .p (.mov), [.v 8], none, false⟩,
      ⟨1, .p (.un .not), [.t 0], none, false⟩]
noncomputable def c18_r11 : List SOp := [⟨0, .p (.mov), [.v 4], none, false⟩,
      ⟨1, .p (.nilCheck), [.t 0], none, false⟩,
      ⟨2, .p (.fieldAddr 1), [.t 0], none, false⟩,
      ⟨3, .r (.load false 1), [.t 0], none, false⟩,
      ⟨4, .p (.mov), [.c (.slice none 0 0)], none, false⟩,
      ⟨5, .p (.mov), [.c (.int .i64 50)], none, false⟩,
      ⟨6, .p (.mov), [.t 2], none, false⟩]
noncomputable def c18_r12 : List SOp := [⟨0, .p (.mov), [.v 5], none, false⟩,
      ⟨1, .p (.mov), [.v 4], none, false⟩,
      ⟨2, .r (.load true 4), [.v 7], none, false⟩,
      ⟨3, .call 34, [.t 1, .t 0], none, false⟩,
      ⟨4, .a (.bslice [.int .i64 0, .string ⟨#[]⟩, .int .i64 0, .int .i64 0] [(0, 4)] 1 4), [.t 0], none, false⟩,
      ⟨5, .w (.append 4 40), [.t 4, .t 0], none, false⟩,
      ⟨6, .p (.mov), [.t 0], none, false⟩]
noncomputable def c18_r13 : List SOp := [⟨0, .call 35, [], none, false⟩,
      ⟨1, .p (.lenS), [.t 0], none, false⟩,
      ⟨2, .p (.mov), [.c (.int .i64 0)], none, false⟩]
noncomputable def c18_r14 : List SOp := [⟨0, .p (.bin .lss), [.v 12, .v 11], none, false⟩]
noncomputable def c18_r15 : List SOp := [⟨0, .p (.idxAddrS 1), [.v 10, .v 12], none, false⟩,
      ⟨1, .r (.load false 1), [.t 0], none, false⟩,
      ⟨2, .p (.mov), [.t 0], none, false⟩]
noncomputable def c18_r16 : List SOp := [⟨0, .p (.mov), [.v 4], none, false⟩,
      ⟨1, .p (.nilCheck), [.t 0], none, false⟩,
      ⟨2, .p (.fieldAddr 0), [.t 0], none, false⟩,
      ⟨3, .r (.load false 1), [.t 0], none, false⟩,
      ⟨4, .p (.mov), [.v 9], none, false⟩,
      ⟨5, .call 36, [.t 1, .t 0], none, false⟩]
noncomputable def c18_r17 : List SOp := [⟨0, .p (.mov), [.v 5], none, false⟩,
      ⟨1, .p (.mov), [.v 4], none, false⟩,
      ⟨2, .p (.mov), [.v 9], none, false⟩,
      ⟨3, .p (.build [.int .i64 0, .string ⟨#[]⟩, .int .i64 0, .int .i64 0] [(0, 1), (1, 1)]), [.c (.int .i64 4), .t 0], none, false⟩,
      ⟨4, .call 34, [.t 2, .t 0], none, false⟩,
      ⟨5, .a (.bslice [.int .i64 0, .string ⟨#[]⟩, .int .i64 0, .int .i64 0] [(0, 4)] 1 4), [.t 0], none, false⟩,
      ⟨6, .w (.append 4 40), [.t 5, .t 0], none, false⟩,
      ⟨7, .p (.mov), [.t 0], none, false⟩]
noncomputable def c18_r18 : List SOp := [⟨0, .p (.bin .add), [.v 12, .c (.int .i64 1)], none, false⟩,
      ⟨1, .p (.mov), [.t 0], none, false⟩]
noncomputable def c18_l19 : CCode := (.seq (.reg c18_r14 [(13, 0)]) (.seq (.cond (.v 13) .skip (.exit 2)) (.seq (.block 3 (.seq (.reg c18_r15 [(9, 0)]) (.rcond c18_r16 [] 0
    (.seq (.reg c18_r17 [(5, 0)]) (.exit 1))
    .skip))) (.reg c18_r18 [(12, 0)]))))
noncomputable def c18_r20 : List SOp := [⟨0, .p (.mov), [.v 4], none, false⟩,
      ⟨1, .p (.nilCheck), [.t 0], none, false⟩,
      ⟨2, .p (.fieldAddr 1), [.t 0], none, false⟩,
      ⟨3, .r (.load false 1), [.t 0], none, false⟩,
      ⟨4, .p (.mov), [.c (.slice none 0 0)], none, false⟩,
      ⟨5, .p (.mov), [.c (.int .i64 50)], none, false⟩,
      ⟨6, .p (.mov), [.t 2], none, false⟩]
noncomputable def c18_r21 : List SOp := [⟨0, .p (.mov), [.v 4], none, false⟩,
      ⟨1, .call 32, [.t 0], none, false⟩]
noncomputable def c18_l22 : CCode := (.seq (.rcond c18_r6 [] 0
    .skip
    (.exit 0)) (.seq (.block 1 (.seq (.seq (.reg c18_r7 [(6, 0)]) (.rcond c18_r8 [] 0
    (.seq (.reg c18_r9 [(7, 2), (8, 0)]) (.seq (.rcond c18_r10 [] 0
    (.seq (.reg c18_r11 [(1, 2), (2, 1), (3, 0)]) .ret)
    .skip) (.seq (.reg c18_r12 [(5, 0)]) (.exit 1))))
    .skip)) (.seq (.seq (.reg c18_r13 [(10, 2), (11, 1), (12, 0)]) (.block 2 (.loop c18_l19))) (.seq (.reg c18_r20 [(1, 2), (2, 1), (3, 0)]) .ret)))) (.reg c18_r21 [])))
noncomputable def c18_r23 : List SOp := [⟨0, .p (.mov), [.v 5], none, false⟩,
      ⟨1, .p (.mov), [.v 4], none, false⟩,
      ⟨2, .p (.nilCheck), [.t 0], none, false⟩,
      ⟨3, .p (.fieldAddr 1), [.t 0], none, false⟩,
      ⟨4, .r (.load false 1), [.t 0], none, false⟩,
      ⟨5, .p (.build [.int .i64 0, .string ⟨#[]⟩, .int .i64 0, .int .i64 0] [(0, 1), (3, 1)]), [.c (.int .i64 5), .t 0], none, false⟩,
      ⟨6, .a (.bslice [.int .i64 0, .string ⟨#[]⟩, .int .i64 0, .int .i64 0] [(0, 4)] 1 4), [.t 0], none, false⟩,
      ⟨7, .w (.append 4 40), [.t 6, .t 0], none, false⟩,
      ⟨8, .p (.mov), [.t 0], none, false⟩,
      ⟨9, .p (.mov), [.c (.int .i64 0)], none, false⟩,
      ⟨10, .p (.mov), [.c (.int .i64 0)], none, false⟩]
noncomputable def c18 : CFn := { nargs := 1, vars := [0, 2, 3, 4, 5, 6, 7, 8, 9, 11, 56, 57, 58, 59], results := [.var 1, .var 2, .var 3], body := (.seq (.reg c18_r0 [(1, 2), (2, 1), (3, 0)]) (.scope (.seq (.rcond c18_r1 [] 0
    (.seq (.reg c18_r2 [(1, 2), (2, 1), (3, 0)]) .ret)
    .skip) (.seq (.reg c18_r3 [(4, 0)]) (.seq (.reg c18_r4 [(5, 0)]) (.seq .label (.seq (.seq (.reg c18_r5 []) (.block 0 (.loop c18_l22))) (.seq (.reg c18_r23 [(1, 2), (2, 1), (3, 0)]) .ret)))))))) }

/-- headstock/headstockref05.Scan · variables 0:s, 2:, 3:, 4:, 5:out, 6:line, 7:i, 8:c, 9:k, 10:t -/
noncomputable def c19_r0 : List SOp := [⟨0, .p (.mov), [.c (.slice none 0 0)], none, false⟩,
      ⟨1, .p (.mov), [.c (.int .i64 0)], none, false⟩,
      ⟨2, .p (.mov), [.c (.int .i64 0)], none, false⟩]
noncomputable def c19_r1 : List SOp := [⟨0, .p (.mov), [.v 0], none, false⟩,
      ⟨1, .p (.lenStr), [.t 0], none, false⟩,
      ⟨2, .p (.bin .gtr), [.t 0, .c (.int .i64 20000)], none, false⟩]
noncomputable def c19_r2 : List SOp := [⟨0, .p (.mov), [.c (.slice none 0 0)], none, false⟩,
      ⟨1, .p (.mov), [.c (.int .i64 2)], none, false⟩,
      ⟨2, .p (.mov), [.c (.int .i64 0)], none, false⟩]
noncomputable def c19_r3 : List SOp := [⟨0, .p (.mov), [.c (.slice none 0 0)], none, false⟩]
noncomputable def c19_r4 : List SOp := [⟨0, .p (.mov), [.c (.int .i64 1)], none, false⟩]
noncomputable def c19_r5 : List SOp := [⟨0, .p (.mov), [.c (.int .i64 0)], none, false⟩]
noncomputable def c19_r6 : List SOp := [⟨0, .p (.mov), [.v 6], none, false⟩,
      ⟨1, .p (.mov), [.v 0], none, false⟩,
      ⟨2, .p (.lenStr), [.t 0], none, false⟩,
      ⟨3, .p (.bin .lss), [.t 2, .t 0], none, false⟩]
noncomputable def c19_r7 : List SOp := [⟨0, .p (.mov), [.v 0], none, false⟩,
      ⟨1, .p (.mov), [.v 6], none, false⟩,
      ⟨2, .p (.idxStr), [.t 1, .t 0], none, false⟩,
      ⟨3, .p (.mov), [.t 0], none, false⟩]
noncomputable def c19_r8 : List SOp := [⟨0, .p (.mov), [.v 7], none, false⟩,
      ⟨1, .p (.bin .eql), [.t 0, .c (.int .u8 10)], none, false⟩,
      ⟨2, .p (.mov), [.t 0], none, false⟩]
noncomputable def c19_r9 : List SOp := [⟨0, .p (.mov), [.v 5], none, false⟩,
      ⟨1, .p (.bin .add), [.t 0, .c (.int .i64 1)], none, false⟩,
      ⟨2, .p (.mov), [.t 0], none, false⟩]
noncomputable def c19_r10 : List SOp := [⟨0, .p (.mov), [.v 6], none, false⟩,
      ⟨1, .p (.bin .add), [.t 0, .c (.int .i64 1)], none, false⟩,
      ⟨2, .p (.mov), [.t 0], none, false⟩]
noncomputable def c19_r11 : List SOp := [⟨0, .p (.mov), [.v 7], none, false⟩,
      ⟨1, .p (.bin .eql), [.t 0, .c (.int .u8 32)], none, false⟩,
      ⟨2, .p (.mov), [.t 0], none, false⟩,
      ⟨3, .p (.mov), [.v 7], some (0, false), false⟩,
      ⟨4, .p (.bin .eql), [.t 0, .c (.int .u8 9)], some (1, false), false⟩,
      ⟨5, .p (.pick), [.t 2, .c (.bool true), .t 0], none, false⟩,
      ⟨6, .p (.mov), [.t 0], none, false⟩]
noncomputable def c19_r12 : List SOp := [⟨0, .p (.mov), [.v 6], none, false⟩,
      ⟨1, .p (.bin .add), [.t 0, .c (.int .i64 1)], none, false⟩,
      ⟨2, .p (.mov), [.t 0], none, false⟩]
noncomputable def c19_r13 : List SOp := [⟨0, .p (.mov), [.v 7], none, false⟩,
      ⟨1, .p (.bin .eql), [.t 0, .c (.int .u8 35)], none, false⟩,
      ⟨2, .p (.mov), [.t 0], none, false⟩]
noncomputable def c19_r14 : List SOp := [⟨0, .p (.mov), [.v 6], none, false⟩,
      ⟨1, .p (.mov), [.v 0], none, false⟩,
      ⟨2, .p (.lenStr), [.t 0], none, false⟩,
      ⟨3, .p (.bin .lss), [.t 2, .t 0], none, false⟩,
      ⟨4, .p (.mov), [.t 0], none, false⟩,
      ⟨5, .p (.mov), [.v 0], some (0, true), false⟩,
      ⟨6, .p (.mov), [.v 6], some (1, true), false⟩,
      ⟨7, .p (.idxStr), [.t 1, .t 0], some (2, true), false⟩,
      ⟨8, .p (.bin .neq), [.t 0, .c (.int .u8 10)], some (3, true), false⟩,
      ⟨9, .p (.pick), [.t 4, .t 0, .c (.bool false)], none, false⟩]
noncomputable def c19_r15 : List SOp := [⟨0, .p (.mov), [.v 6], none, false⟩,
      ⟨1, .p (.bin .add), [.t 0, .c (.int .i64 1)], none, false⟩,
      ⟨2, .p (.mov), [.t 0], none, false⟩]
noncomputable def c19_l16 : CCode := (.seq (.rcond c19_r14 [] 0
    .skip
    (.exit 5)) (.block 6 (.reg c19_r15 [(6, 0)])))
noncomputable def c19_r17 : List SOp := [⟨0, .p (.mov), [.v 6], none, false⟩,
      ⟨1, .p (.mov), [.t 0], none, false⟩]
noncomputable def c19_r18 : List SOp := [⟨0, .p (.mov), [.v 8], none, false⟩,
      ⟨1, .p (.mov), [.v 0], none, false⟩,
      ⟨2, .p (.lenStr), [.t 0], none, false⟩,
      ⟨3, .p (.bin .lss), [.t 2, .t 0], none, false⟩,
      ⟨4, .p (.mov), [.t 0], none, false⟩,
      ⟨5, .p (.mov), [.v 0], some (0, true), false⟩,
      ⟨6, .p (.mov), [.v 8], some (1, true), false⟩,
      ⟨7, .p (.idxStr), [.t 1, .t 0], some (2, true), false⟩,
      ⟨8, .call 29, [.t 0], some (3, true), false⟩,
      ⟨9, .p (.mov), [.t 0], some (4, true), false⟩,
      ⟨10, .p (.mov), [.v 0], some (0, false), false⟩,
      ⟨11, .p (.mov), [.v 8], some (1, false), false⟩,
      ⟨12, .p (.idxStr), [.t 1, .t 0], some (2, false), false⟩,
      ⟨13, .call 28, [.t 0], some (3, false), false⟩,
      ⟨14, .p (.pick), [.t 4, .c (.bool true), .t 0], some (9, true), false⟩,
      ⟨15, .p (.pick), [.t 10, .t 0, .c (.bool false)], none, false⟩]
noncomputable def c19_r19 : List SOp := [⟨0, .p (.mov), [.v 8], none, false⟩,
      ⟨1, .p (.bin .add), [.t 0, .c (.int .i64 1)], none, false⟩,
      ⟨2, .p (.mov), [.t 0], none, false⟩]
noncomputable def c19_l20 : CCode := (.seq (.rcond c19_r18 [] 0
    .skip
    (.exit 3)) (.block 4 (.reg c19_r19 [(8, 0)])))
noncomputable def c19_r21 : List SOp := [⟨0, .p (.mov), [.v 0], none, false⟩,
      ⟨1, .p (.mov), [.v 6], none, false⟩,
      ⟨2, .p (.mov), [.v 8], none, false⟩,
      ⟨3, .p (.sliceStr true true), [.t 2, .t 1, .t 0], none, false⟩,
      ⟨4, .call 37, [.t 0], none, false⟩,
      ⟨5, .a (.new [.int .i64 0, .string ⟨#[]⟩, .int .i64 0, .int .i64 0]), [], none, false⟩,
      ⟨6, .w (.store 4), [.t 0, .t 1], none, false⟩]
noncomputable def c19_r22 : List SOp := [⟨0, .p (.mov), [.v 8], none, false⟩,
      ⟨1, .p (.mov), [.v 6], none, false⟩,
      ⟨2, .p (.bin .eql), [.t 1, .t 0], none, false⟩]
noncomputable def c19_r23 : List SOp := [⟨0, .p (.mov), [.v 0], none, false⟩,
      ⟨1, .p (.mov), [.v 6], none, false⟩,
      ⟨2, .p (.sliceStr true false), [.t 1, .t 0], none, false⟩,
      ⟨3, .call 38, [.t 0], none, false⟩,
      ⟨4, .p (.build [.int .i64 0, .string ⟨#[]⟩, .int .i64 0, .int .i64 0] [(0, 1), (1, 1)]), [.c (.int .i64 4), .t 0], none, false⟩,
      ⟨5, .w (.store 4), [.v 9, .t 0], none, false⟩]
noncomputable def c19_r24 : List SOp := [⟨0, .p (.fieldAddr 1), [.v 9], none, false⟩,
      ⟨1, .r (.load false 1), [.t 0], none, false⟩,
      ⟨2, .p (.bin .eql), [.t 0, .c (.string ⟨#[]⟩)], none, false⟩]
noncomputable def c19_r25 : List SOp := [⟨0, .p (.mov), [.v 5], none, false⟩,
      ⟨1, .p (.mov), [.c (.slice none 0 0)], none, false⟩,
      ⟨2, .p (.mov), [.c (.int .i64 50)], none, false⟩,
      ⟨3, .p (.mov), [.t 2], none, false⟩]
noncomputable def c19_r26 : List SOp := [⟨0, .p (.mov), [.v 5], none, false⟩,
      ⟨1, .p (.fieldAddr 3), [.v 9], none, false⟩,
      ⟨2, .w (.store 1), [.t 0, .t 1], none, false⟩]
noncomputable def c19_r27 : List SOp := [⟨0, .p (.mov), [.v 4], none, false⟩,
      ⟨1, .r (.load true 4), [.v 9], none, false⟩,
      ⟨2, .a (.bslice [.int .i64 0, .string ⟨#[]⟩, .int .i64 0, .int .i64 0] [(0, 4)] 1 4), [.t 0], none, false⟩,
      ⟨3, .w (.append 4 40), [.t 2, .t 0], none, false⟩,
      ⟨4, .p (.mov), [.t 0], none, false⟩]
noncomputable def c19_r28 : List SOp := [⟨0, .p (.mov), [.v 6], none, false⟩,
      ⟨1, .p (.fieldAddr 1), [.v 9], none, false⟩,
      ⟨2, .r (.load false 1), [.t 0], none, false⟩,
      ⟨3, .p (.lenStr), [.t 0], none, false⟩,
      ⟨4, .p (.bin .add), [.t 3, .t 0], none, false⟩,
      ⟨5, .p (.mov), [.t 0], none, false⟩]
noncomputable def c19_l29 : CCode := (.seq (.rcond c19_r6 [] 0
    .skip
    (.exit 0)) (.block 1 (.seq (.reg c19_r7 [(7, 0)]) (.block 2 (.rcond c19_r8 [] 0
    (.seq (.reg c19_r9 [(5, 0)]) (.reg c19_r10 [(6, 0)]))
    (.rcond c19_r11 [] 0
    (.reg c19_r12 [(6, 0)])
    (.rcond c19_r13 [] 0
    (.block 5 (.loop c19_l16))
    (.seq (.reg c19_r17 [(8, 0)]) (.seq (.block 3 (.loop c19_l20)) (.seq (.reg c19_r21 [(9, 1)]) (.seq (.rcond c19_r22 [] 0
    (.reg c19_r23 [])
    .skip) (.seq (.rcond c19_r24 [] 0
    (.seq (.reg c19_r25 [(1, 2), (2, 1), (3, 0)]) .ret)
    .skip) (.seq (.reg c19_r26 []) (.seq (.reg c19_r27 [(4, 0)]) (.reg c19_r28 [(6, 0)])))))))))))))))
noncomputable def c19_r30 : List SOp := [⟨0, .p (.mov), [.v 4], none, false⟩,
      ⟨1, .p (.mov), [.v 5], none, false⟩,
      ⟨2, .p (.build [.int .i64 0, .string ⟨#[]⟩, .int .i64 0, .int .i64 0] [(0, 1), (3, 1)]), [.c (.int .i64 5), .t 0], none, false⟩,
      ⟨3, .a (.bslice [.int .i64 0, .string ⟨#[]⟩, .int .i64 0, .int .i64 0] [(0, 4)] 1 4), [.t 0], none, false⟩,
      ⟨4, .w (.append 4 40), [.t 3, .t 0], none, false⟩,
      ⟨5, .p (.mov), [.t 0], none, false⟩,
      ⟨6, .p (.mov), [.c (.int .i64 0)], none, false⟩,
      ⟨7, .p (.mov), [.c (.int .i64 0)], none, false⟩]
noncomputable def c19 : CFn := { nargs := 1, vars := [0, 2, 3, 4, 5, 6, 7, 8, 9, 10], results := [.var 1, .var 2, .var 3], body := (.seq (.reg c19_r0 [(1, 2), (2, 1), (3, 0)]) (.seq (.rcond c19_r1 [] 0
    (.seq (.reg c19_r2 [(1, 2), (2, 1), (3, 0)]) .ret)
    .skip) (.seq (.reg c19_r3 [(4, 0)]) (.seq (.reg c19_r4 [(5, 0)]) (.seq (.reg c19_r5 [(6, 0)]) (.seq (.block 0 (.loop c19_l29)) (.seq (.reg c19_r30 [(1, 2), (2, 1), (3, 0)]) .ret))))))) }

/-- headstock/headstocklaw05.same · variables 0:a, 1:b, 4:, 5:i -/
noncomputable def c20_r0 : List SOp := [⟨0, .p (.mov), [.c (.bool false)], none, false⟩]
noncomputable def c20_r1 : List SOp := [⟨0, .p (.mov), [.v 0], none, false⟩,
      ⟨1, .p (.lenS), [.t 0], none, false⟩,
      ⟨2, .p (.mov), [.v 1], none, false⟩,
      ⟨3, .p (.lenS), [.t 0], none, false⟩,
      ⟨4, .p (.bin .neq), [.t 2, .t 0], none, false⟩]
noncomputable def c20_r2 : List SOp := [⟨0, .p (.mov), [.c (.bool false)], none, false⟩]
noncomputable def c20_r3 : List SOp := [⟨0, .p (.mov), [.c (.int .i64 0)], none, false⟩]
noncomputable def c20_r4 : List SOp := [⟨0, .p (.mov), [.v 3], none, false⟩,
      ⟨1, .p (.mov), [.v 0], none, false⟩,
      ⟨2, .p (.lenS), [.t 0], none, false⟩,
      ⟨3, .p (.bin .lss), [.t 2, .t 0], none, false⟩]
noncomputable def c20_r5 : List SOp := [⟨0, .p (.mov), [.v 0], none, false⟩,
      ⟨1, .p (.mov), [.v 3], none, false⟩,
      ⟨2, .p (.idxAddrS 4), [.t 1, .t 0], none, false⟩,
      ⟨3, .r (.load true 4), [.t 0], none, false⟩,
      ⟨4, .p (.mov), [.v 1], none, false⟩,
      ⟨5, .p (.mov), [.v 3], none, false⟩,
      ⟨6, .p (.idxAddrS 4), [.t 1, .t 0], none, false⟩,
      ⟨7, .r (.load true 4), [.t 0], none, false⟩,
      ⟨8, .p (.eqK 41 (keyGood Tryd.prog 41) true), [.t 4, .t 0], none, false⟩]
noncomputable def c20_r6 : List SOp := [⟨0, .p (.mov), [.c (.bool false)], none, false⟩]
noncomputable def c20_r7 : List SOp := [⟨0, .p (.mov), [.v 3], none, false⟩,
      ⟨1, .p (.bin .add), [.t 0, .c (.int .i64 1)], none, false⟩,
      ⟨2, .p (.mov), [.t 0], none, false⟩]
noncomputable def c20_l8 : CCode := (.seq (.rcond c20_r4 [] 0
    .skip
    (.exit 0)) (.seq (.block 1 (.rcond c20_r5 [] 0
    (.seq (.reg c20_r6 [(2, 0)]) .ret)
    .skip)) (.reg c20_r7 [(3, 0)])))
noncomputable def c20_r9 : List SOp := [⟨0, .p (.mov), [.c (.bool true)], none, false⟩]
noncomputable def c20 : CFn := { nargs := 2, vars := [0, 1, 4, 5], results := [.var 2], body := (.seq (.reg c20_r0 [(2, 0)]) (.seq (.rcond c20_r1 [] 0
    (.seq (.reg c20_r2 [(2, 0)]) .ret)
    .skip) (.seq (.seq (.reg c20_r3 [(3, 0)]) (.block 0 (.loop c20_l8))) (.seq (.reg c20_r9 [(2, 0)]) .ret)))) }

/-- headstock/token.Number · variables 0:s, 2:, 3:, 4:digits, 5:base, 6:rest, 7:ok, 8:n, 9:e, 10:nought -/
noncomputable def c21_r0 : List SOp := [⟨0, .p (.mov), [.c (.int .i64 0)], none, false⟩,
      ⟨1, .p (.mov), [.c (.bool false)], none, false⟩]
noncomputable def c21_r1 : List SOp := [⟨0, .p (.mov), [.v 0], none, false⟩,
      ⟨1, .p (.mov), [.t 0], none, false⟩,
      ⟨2, .p (.mov), [.c (.int .i64 10)], none, false⟩]
noncomputable def c21_r2 : List SOp := [⟨0, .p (.mov), [.v 0], none, false⟩,
      ⟨1, .call 39, [.t 0, .c (.string ⟨#[48, 120]⟩)], none, false⟩,
      ⟨2, .p (.mov), [.t 0], none, false⟩,
      ⟨3, .p (.extract 0), [.t 0], none, false⟩,
      ⟨4, .p (.extract 1), [.t 1], none, false⟩,
      ⟨5, .p (.mov), [.t 1], none, false⟩,
      ⟨6, .p (.mov), [.t 1], none, false⟩]
noncomputable def c21_r3 : List SOp := [⟨0, .p (.mov), [.v 6], none, false⟩]
noncomputable def c21_r4 : List SOp := [⟨0, .p (.mov), [.v 5], none, false⟩,
      ⟨1, .p (.mov), [.t 0], none, false⟩,
      ⟨2, .p (.mov), [.c (.int .i64 16)], none, false⟩]
noncomputable def c21_r5 : List SOp := [⟨0, .p (.mov), [.v 3], none, false⟩,
      ⟨1, .p (.mov), [.v 4], none, false⟩,
      ⟨2, .call 40, [.t 1, .t 0, .c (.int .i64 32)], none, false⟩,
      ⟨3, .p (.mov), [.t 0], none, false⟩,
      ⟨4, .p (.extract 0), [.t 0], none, false⟩,
      ⟨5, .p (.extract 1), [.t 1], none, false⟩,
      ⟨6, .p (.mov), [.t 1], none, false⟩,
      ⟨7, .p (.mov), [.t 1], none, false⟩]
noncomputable def c21_r6 : List SOp := [⟨0, .p (.mov), [.v 4], none, false⟩,
      ⟨1, .p (.bin .eql), [.t 0, .c (.int .i64 10)], none, false⟩,
      ⟨2, .p (.mov), [.t 0], none, false⟩,
      ⟨3, .p (.mov), [.v 0], some (0, true), false⟩,
      ⟨4, .p (.lenStr), [.t 0], some (1, true), false⟩,
      ⟨5, .p (.bin .gtr), [.t 0, .c (.int .i64 1)], some (2, true), false⟩,
      ⟨6, .p (.pick), [.t 3, .t 0, .c (.bool false)], none, false⟩,
      ⟨7, .p (.mov), [.t 0], none, false⟩,
      ⟨8, .p (.mov), [.v 0], some (0, true), false⟩,
      ⟨9, .p (.idxStr), [.t 0, .c (.int .i64 0)], some (1, true), false⟩,
      ⟨10, .p (.bin .eql), [.t 0, .c (.int .u8 48)], some (2, true), false⟩,
      ⟨11, .p (.pick), [.t 3, .t 0, .c (.bool false)], none, false⟩,
      ⟨12, .p (.mov), [.t 0], none, false⟩]
noncomputable def c21_r7 : List SOp := [⟨0, .p (.mov), [.v 8], none, false⟩,
      ⟨1, .p (.isNil 3 true), [.t 0], none, false⟩,
      ⟨2, .p (.mov), [.t 0], none, false⟩,
      ⟨3, .p (.mov), [.v 0], some (0, false), false⟩,
      ⟨4, .p (.lenStr), [.t 0], some (1, false), false⟩,
      ⟨5, .p (.bin .gtr), [.t 0, .c (.int .i64 10)], some (2, false), false⟩,
      ⟨6, .p (.pick), [.t 3, .c (.bool true), .t 0], none, false⟩,
      ⟨7, .p (.mov), [.t 0], none, false⟩,
      ⟨8, .p (.mov), [.v 9], some (0, false), false⟩,
      ⟨9, .p (.pick), [.t 1, .c (.bool true), .t 0], none, false⟩,
      ⟨10, .p (.mov), [.t 0], none, false⟩,
      ⟨11, .p (.mov), [.v 3], some (0, false), false⟩,
      ⟨12, .call 41, [.t 0], some (1, false), false⟩,
      ⟨13, .p (.mov), [.v 3], some (2, false), false⟩,
      ⟨14, .p (.bin .neq), [.t 1, .t 0], some (3, false), false⟩,
      ⟨15, .p (.pick), [.t 4, .c (.bool true), .t 0], none, false⟩]
noncomputable def c21_r8 : List SOp := [⟨0, .p (.mov), [.c (.int .i64 0)], none, false⟩,
      ⟨1, .p (.mov), [.c (.bool false)], none, false⟩]
noncomputable def c21_r9 : List SOp := [⟨0, .p (.mov), [.v 7], none, false⟩,
      ⟨1, .p (.conv .i64), [.t 0], none, false⟩,
      ⟨2, .p (.mov), [.t 0], none, false⟩,
      ⟨3, .p (.mov), [.c (.bool true)], none, false⟩]
noncomputable def c21 : CFn := { nargs := 1, vars := [0, 2, 3, 4, 5, 6, 7, 8, 9, 10], results := [.var 1, .var 2], body := (.seq (.reg c21_r0 [(1, 1), (2, 0)]) (.seq (.reg c21_r1 [(3, 1), (4, 0)]) (.seq (.seq (.reg c21_r2 [(5, 1), (6, 0)]) (.rcond c21_r3 [] 0
    (.reg c21_r4 [(3, 1), (4, 0)])
    .skip)) (.seq (.reg c21_r5 [(7, 1), (8, 0)]) (.seq (.reg c21_r6 [(9, 0)]) (.seq (.rcond c21_r7 [] 0
    (.seq (.reg c21_r8 [(1, 1), (2, 0)]) .ret)
    .skip) (.seq (.reg c21_r9 [(1, 1), (2, 0)]) .ret))))))) }

/-- headstock/headstockref05.Number · variables 0:s, 2:, 3:, 4:n -/
noncomputable def c22_r0 : List SOp := [⟨0, .p (.mov), [.c (.int .i64 0)], none, false⟩,
      ⟨1, .p (.mov), [.c (.bool false)], none, false⟩]
noncomputable def c22_r1 : List SOp := [⟨0, .p (.mov), [.c (.int .i64 (-1))], none, false⟩]
noncomputable def c22_r2 : List SOp := [⟨0, .p (.mov), [.v 0], none, false⟩,
      ⟨1, .p (.lenStr), [.t 0], none, false⟩,
      ⟨2, .p (.bin .gtr), [.t 0, .c (.int .i64 2)], none, false⟩,
      ⟨3, .p (.mov), [.t 0], none, false⟩,
      ⟨4, .p (.mov), [.v 0], some (0, true), false⟩,
      ⟨5, .p (.lenStr), [.t 0], some (1, true), false⟩,
      ⟨6, .p (.bin .leq), [.t 0, .c (.int .i64 10)], some (2, true), false⟩,
      ⟨7, .p (.pick), [.t 3, .t 0, .c (.bool false)], none, false⟩,
      ⟨8, .p (.mov), [.t 0], none, false⟩,
      ⟨9, .p (.mov), [.v 0], some (0, true), false⟩,
      ⟨10, .p (.sliceStr false true), [.t 0, .c (.int .i64 2)], some (1, true), false⟩,
      ⟨11, .p (.bin .eql), [.t 0, .c (.string ⟨#[48, 120]⟩)], some (2, true), false⟩,
      ⟨12, .p (.pick), [.t 3, .t 0, .c (.bool false)], none, false⟩,
      ⟨13, .p (.mov), [.t 0], none, false⟩]
noncomputable def c22_r3 : List SOp := [⟨0, .p (.mov), [.v 0], none, false⟩,
      ⟨1, .p (.sliceStr true false), [.t 0, .c (.int .i64 2)], none, false⟩,
      ⟨2, .call 42, [.t 0, .c (.int .i64 16)], none, false⟩,
      ⟨3, .p (.mov), [.t 0], none, false⟩]
noncomputable def c22_r4 : List SOp := [⟨0, .p (.mov), [.v 0], none, false⟩,
      ⟨1, .p (.lenStr), [.t 0], none, false⟩,
      ⟨2, .p (.bin .eql), [.t 0, .c (.int .i64 1)], none, false⟩,
      ⟨3, .p (.mov), [.t 0], none, false⟩,
      ⟨4, .p (.mov), [.v 0], some (0, false), false⟩,
      ⟨5, .p (.lenStr), [.t 0], some (1, false), false⟩,
      ⟨6, .p (.bin .gtr), [.t 0, .c (.int .i64 1)], some (2, false), false⟩,
      ⟨7, .p (.mov), [.t 0], some (3, false), false⟩,
      ⟨8, .p (.mov), [.v 0], some (0, true), false⟩,
      ⟨9, .p (.lenStr), [.t 0], some (1, true), false⟩,
      ⟨10, .p (.bin .leq), [.t 0, .c (.int .i64 10)], some (2, true), false⟩,
      ⟨11, .p (.pick), [.t 3, .t 0, .c (.bool false)], some (7, false), false⟩,
      ⟨12, .p (.mov), [.t 0], some (8, false), false⟩,
      ⟨13, .p (.mov), [.v 0], some (0, true), false⟩,
      ⟨14, .p (.idxStr), [.t 0, .c (.int .i64 0)], some (1, true), false⟩,
      ⟨15, .p (.bin .neq), [.t 0, .c (.int .u8 48)], some (2, true), false⟩,
      ⟨16, .p (.pick), [.t 3, .t 0, .c (.bool false)], some (12, false), false⟩,
      ⟨17, .p (.pick), [.t 13, .c (.bool true), .t 0], none, false⟩,
      ⟨18, .p (.mov), [.t 0], none, false⟩]
noncomputable def c22_r5 : List SOp := [⟨0, .p (.mov), [.v 0], none, false⟩,
      ⟨1, .call 42, [.t 0, .c (.int .i64 10)], none, false⟩,
      ⟨2, .p (.mov), [.t 0], none, false⟩]
noncomputable def c22_r6 : List SOp := [⟨0, .p (.mov), [.v 3], none, false⟩,
      ⟨1, .p (.bin .lss), [.t 0, .c (.int .i64 0)], none, false⟩,
      ⟨2, .p (.mov), [.t 0], none, false⟩,
      ⟨3, .p (.mov), [.v 3], some (0, false), false⟩,
      ⟨4, .p (.bin .geq), [.t 0, .c (.int .i64 4294967296)], some (1, false), false⟩,
      ⟨5, .p (.pick), [.t 2, .c (.bool true), .t 0], none, false⟩]
noncomputable def c22_r7 : List SOp := [⟨0, .p (.mov), [.c (.int .i64 0)], none, false⟩,
      ⟨1, .p (.mov), [.c (.bool false)], none, false⟩]
noncomputable def c22_r8 : List SOp := [⟨0, .p (.mov), [.v 3], none, false⟩,
      ⟨1, .p (.mov), [.t 0], none, false⟩,
      ⟨2, .p (.mov), [.c (.bool true)], none, false⟩]
noncomputable def c22 : CFn := { nargs := 1, vars := [0, 2, 3, 4], results := [.var 1, .var 2], body := (.seq (.reg c22_r0 [(1, 1), (2, 0)]) (.seq (.reg c22_r1 [(3, 0)]) (.seq (.block 0 (.rcond c22_r2 [] 0
    (.reg c22_r3 [(3, 0)])
    (.rcond c22_r4 [] 0
    (.reg c22_r5 [(3, 0)])
    .skip))) (.seq (.rcond c22_r6 [] 0
    (.seq (.reg c22_r7 [(1, 1), (2, 0)]) .ret)
    .skip) (.seq (.reg c22_r8 [(1, 1), (2, 0)]) .ret))))) }

/-- headstock/headstocklaw05.feeds · variables 0:s, 2:, 3:n, 4:i -/
noncomputable def c23_r0 : List SOp := [⟨0, .p (.mov), [.c (.int .i64 0)], none, false⟩]
noncomputable def c23_r1 : List SOp := [⟨0, .p (.mov), [.c (.int .i64 0)], none, false⟩]
noncomputable def c23_r2 : List SOp := [⟨0, .p (.mov), [.c (.int .i64 0)], none, false⟩]
noncomputable def c23_r3 : List SOp := [⟨0, .p (.mov), [.v 3], none, false⟩,
      ⟨1, .p (.mov), [.v 0], none, false⟩,
      ⟨2, .p (.lenStr), [.t 0], none, false⟩,
      ⟨3, .p (.bin .lss), [.t 2, .t 0], none, false⟩]
noncomputable def c23_r4 : List SOp := [⟨0, .p (.mov), [.v 0], none, false⟩,
      ⟨1, .p (.mov), [.v 3], none, false⟩,
      ⟨2, .p (.idxStr), [.t 1, .t 0], none, false⟩,
      ⟨3, .p (.bin .eql), [.t 0, .c (.int .u8 10)], none, false⟩]
noncomputable def c23_r5 : List SOp := [⟨0, .p (.mov), [.v 2], none, false⟩,
      ⟨1, .p (.bin .add), [.t 0, .c (.int .i64 1)], none, false⟩,
      ⟨2, .p (.mov), [.t 0], none, false⟩]
noncomputable def c23_r6 : List SOp := [⟨0, .p (.mov), [.v 3], none, false⟩,
      ⟨1, .p (.bin .add), [.t 0, .c (.int .i64 1)], none, false⟩,
      ⟨2, .p (.mov), [.t 0], none, false⟩]
noncomputable def c23_l7 : CCode := (.seq (.rcond c23_r3 [] 0
    .skip
    (.exit 0)) (.seq (.block 1 (.rcond c23_r4 [] 0
    (.reg c23_r5 [(2, 0)])
    .skip)) (.reg c23_r6 [(3, 0)])))
noncomputable def c23_r8 : List SOp := [⟨0, .p (.mov), [.v 2], none, false⟩,
      ⟨1, .p (.mov), [.t 0], none, false⟩]
noncomputable def c23 : CFn := { nargs := 1, vars := [0, 2, 3, 4], results := [.var 1], body := (.seq (.reg c23_r0 [(1, 0)]) (.seq (.reg c23_r1 [(2, 0)]) (.seq (.seq (.reg c23_r2 [(3, 0)]) (.block 0 (.loop c23_l7))) (.seq (.reg c23_r8 [(1, 0)]) .ret)))) }

/-- headstock/headstocklaw05.decimal · variables 0:n, 2:, 3:s -/
noncomputable def c24_r0 : List SOp := [⟨0, .p (.mov), [.c (.string ⟨#[]⟩)], none, false⟩]
noncomputable def c24_r1 : List SOp := [⟨0, .p (.mov), [.v 0], none, false⟩,
      ⟨1, .p (.bin .rem), [.t 0, .c (.int .i64 10)], none, false⟩,
      ⟨2, .p (.bin .add), [.c (.int .i64 48), .t 0], none, false⟩,
      ⟨3, .p (.conv .u8), [.t 0], none, false⟩,
      ⟨4, .a (.bslice [.int .u8 0] [(0, 1)] 1 1), [.t 0], none, false⟩,
      ⟨5, .r .bytesStr, [.t 0], none, false⟩,
      ⟨6, .p (.mov), [.t 0], none, false⟩]
noncomputable def c24_r2 : List SOp := [⟨0, .p (.mov), [.v 0], none, false⟩,
      ⟨1, .p (.bin .geq), [.t 0, .c (.int .i64 10)], none, false⟩]
noncomputable def c24_r3 : List SOp := [⟨0, .p (.mov), [.v 0], none, false⟩,
      ⟨1, .p (.bin .quo), [.t 0, .c (.int .i64 10)], none, false⟩,
      ⟨2, .call 24, [.t 0], none, false⟩,
      ⟨3, .p (.mov), [.v 2], none, false⟩,
      ⟨4, .p (.bin .add), [.t 1, .t 0], none, false⟩,
      ⟨5, .p (.mov), [.t 0], none, false⟩]
noncomputable def c24_r4 : List SOp := [⟨0, .p (.mov), [.v 2], none, false⟩,
      ⟨1, .p (.mov), [.t 0], none, false⟩]
noncomputable def c24 : CFn := { nargs := 1, vars := [0, 2, 3], results := [.var 1], body := (.seq (.reg c24_r0 [(1, 0)]) (.seq (.reg c24_r1 [(2, 0)]) (.seq (.rcond c24_r2 [] 0
    (.seq (.reg c24_r3 [(1, 0)]) .ret)
    .skip) (.seq (.reg c24_r4 [(1, 0)]) .ret)))) }

/-- headstock/headstocklaw05.hex · variables 0:n, 2:, 3:s -/
noncomputable def c25_r0 : List SOp := [⟨0, .p (.mov), [.c (.string ⟨#[]⟩)], none, false⟩]
noncomputable def c25_r1 : List SOp := [⟨0, .p (.mov), [.v 0], none, false⟩,
      ⟨1, .p (.bin .rem), [.t 0, .c (.int .i64 16)], none, false⟩,
      ⟨2, .p (.mov), [.v 0], none, false⟩,
      ⟨3, .p (.bin .rem), [.t 0, .c (.int .i64 16)], none, false⟩,
      ⟨4, .p (.bin .add), [.t 0, .c (.int .i64 1)], none, false⟩,
      ⟨5, .p (.sliceStr true true), [.c (.string ⟨#[48, 49, 50, 51, 52, 53, 54, 55, 56, 57, 97, 98, 99, 100, 101, 102]⟩), .t 3, .t 0], none, false⟩,
      ⟨6, .p (.mov), [.t 0], none, false⟩]
noncomputable def c25_r2 : List SOp := [⟨0, .p (.mov), [.v 0], none, false⟩,
      ⟨1, .p (.bin .geq), [.t 0, .c (.int .i64 16)], none, false⟩]
noncomputable def c25_r3 : List SOp := [⟨0, .p (.mov), [.v 0], none, false⟩,
      ⟨1, .p (.bin .quo), [.t 0, .c (.int .i64 16)], none, false⟩,
      ⟨2, .call 25, [.t 0], none, false⟩,
      ⟨3, .p (.mov), [.v 2], none, false⟩,
      ⟨4, .p (.bin .add), [.t 1, .t 0], none, false⟩,
      ⟨5, .p (.mov), [.t 0], none, false⟩]
noncomputable def c25_r4 : List SOp := [⟨0, .p (.mov), [.v 2], none, false⟩,
      ⟨1, .p (.mov), [.t 0], none, false⟩]
noncomputable def c25 : CFn := { nargs := 1, vars := [0, 2, 3], results := [.var 1], body := (.seq (.reg c25_r0 [(1, 0)]) (.seq (.reg c25_r1 [(2, 0)]) (.seq (.rcond c25_r2 [] 0
    (.seq (.reg c25_r3 [(1, 0)]) .ret)
    .skip) (.seq (.reg c25_r4 [(1, 0)]) .ret)))) }

/-- headstock/headstocklaw05.Var · variables 0:n, 2:, 3:k, 4:s -/
noncomputable def c26_r0 : List SOp := [⟨0, .p (.mov), [.c (.string ⟨#[]⟩)], none, false⟩]
noncomputable def c26_r1 : List SOp := [⟨0, .p (.mov), [.v 0], none, false⟩,
      ⟨1, .call 17, [.t 0, .c (.int .i64 300)], none, false⟩,
      ⟨2, .p (.mov), [.t 0], none, false⟩]
noncomputable def c26_r2 : List SOp := [⟨0, .a (.bslice [.string ⟨#[]⟩, .string ⟨#[]⟩, .string ⟨#[]⟩, .string ⟨#[]⟩, .string ⟨#[]⟩, .string ⟨#[]⟩, .string ⟨#[]⟩, .string ⟨#[]⟩, .string ⟨#[]⟩, .string ⟨#[]⟩] [(0, 1), (1, 1), (2, 1), (3, 1), (4, 1), (5, 1), (6, 1), (7, 1), (8, 1), (9, 1)] 10 1), [.c (.string ⟨#[120]⟩), .c (.string ⟨#[121]⟩), .c (.string ⟨#[110]⟩), .c (.string ⟨#[95, 97]⟩), .c (.string ⟨#[66, 50]⟩), .c (.string ⟨#[105, 102, 115]⟩), .c (.string ⟨#[104, 97, 114, 116]⟩), .c (.string ⟨#[108, 111, 99, 107, 49]⟩), .c (.string ⟨#[88, 95, 121, 95, 90]⟩), .c (.string ⟨#[72, 97, 108, 116]⟩)], none, false⟩,
      ⟨1, .p (.mov), [.v 2], none, false⟩,
      ⟨2, .p (.bin .rem), [.t 0, .c (.int .i64 10)], none, false⟩,
      ⟨3, .p (.idxAddrS 1), [.t 2, .t 0], none, false⟩,
      ⟨4, .r (.load false 1), [.t 0], none, false⟩,
      ⟨5, .p (.mov), [.t 0], none, false⟩]
noncomputable def c26_r3 : List SOp := [⟨0, .p (.mov), [.v 2], none, false⟩,
      ⟨1, .p (.bin .geq), [.t 0, .c (.int .i64 10)], none, false⟩]
noncomputable def c26_r4 : List SOp := [⟨0, .p (.mov), [.v 3], none, false⟩,
      ⟨1, .p (.mov), [.v 2], none, false⟩,
      ⟨2, .call 24, [.t 0], none, false⟩,
      ⟨3, .p (.bin .add), [.t 2, .t 0], none, false⟩,
      ⟨4, .p (.mov), [.t 0], none, false⟩]
noncomputable def c26_r5 : List SOp := [⟨0, .p (.mov), [.v 3], none, false⟩,
      ⟨1, .p (.mov), [.t 0], none, false⟩]
noncomputable def c26 : CFn := { nargs := 1, vars := [0, 2, 3, 4], results := [.var 1], body := (.seq (.reg c26_r0 [(1, 0)]) (.seq (.reg c26_r1 [(2, 0)]) (.seq (.reg c26_r2 [(3, 0)]) (.seq (.rcond c26_r3 [] 0
    (.reg c26_r4 [(3, 0)])
    .skip) (.seq (.reg c26_r5 [(1, 0)]) .ret))))) }

/-- headstock/token.run · variables 0:s, 2:, 3:i, 5:, 6:, 7: -/
noncomputable def c27_r0 : List SOp := [⟨0, .p (.mov), [.c (.int .i64 0)], none, false⟩]
noncomputable def c27_r1 : List SOp := [⟨0, .p (.mov), [.v 0], none, false⟩,
      ⟨1, .p (.lenStr), [.t 0], none, false⟩,
      ⟨2, .p (.mov), [.c (.int .i64 0)], none, false⟩]
noncomputable def c27_r2 : List SOp := [⟨0, .p (.bin .lss), [.v 4, .v 3], none, false⟩]
noncomputable def c27_r3 : List SOp := [⟨0, .p (.mov), [.v 4], none, false⟩,
      ⟨1, .p (.mov), [.t 0], none, false⟩]
noncomputable def c27_r4 : List SOp := [⟨0, .p (.mov), [.v 0], none, false⟩,
      ⟨1, .p (.mov), [.v 2], none, false⟩,
      ⟨2, .p (.idxStr), [.t 1, .t 0], none, false⟩,
      ⟨3, .call 43, [.t 0], none, false⟩,
      ⟨4, .p (.un .not), [.t 0], none, false⟩]
noncomputable def c27_r5 : List SOp := [⟨0, .p (.mov), [.v 2], none, false⟩,
      ⟨1, .p (.mov), [.t 0], none, false⟩]
noncomputable def c27_r6 : List SOp := [⟨0, .p (.bin .add), [.v 4, .c (.int .i64 1)], none, false⟩,
      ⟨1, .p (.mov), [.t 0], none, false⟩]
noncomputable def c27_l7 : CCode := (.seq (.reg c27_r2 [(5, 0)]) (.seq (.cond (.v 5) .skip (.exit 0)) (.seq (.block 1 (.seq (.reg c27_r3 [(2, 0)]) (.rcond c27_r4 [] 0
    (.seq (.reg c27_r5 [(1, 0)]) .ret)
    .skip))) (.reg c27_r6 [(4, 0)]))))
noncomputable def c27_r8 : List SOp := [⟨0, .p (.mov), [.v 0], none, false⟩,
      ⟨1, .p (.lenStr), [.t 0], none, false⟩,
      ⟨2, .p (.mov), [.t 0], none, false⟩]
noncomputable def c27 : CFn := { nargs := 1, vars := [0, 2, 3, 5, 6, 7], results := [.var 1], body := (.seq (.reg c27_r0 [(1, 0)]) (.seq (.seq (.reg c27_r1 [(3, 1), (4, 0)]) (.block 0 (.loop c27_l7))) (.seq (.reg c27_r8 [(1, 0)]) .ret))) }

/-- headstock/headstockref05.digit · variables 0:c, 2: -/
noncomputable def c28_r0 : List SOp := [⟨0, .p (.mov), [.c (.bool false)], none, false⟩]
noncomputable def c28_r1 : List SOp := [⟨0, .p (.mov), [.v 0], none, false⟩,
      ⟨1, .p (.bin .geq), [.t 0, .c (.int .u8 48)], none, false⟩,
      ⟨2, .p (.mov), [.t 0], none, false⟩,
      ⟨3, .p (.mov), [.v 0], some (0, true), false⟩,
      ⟨4, .p (.bin .leq), [.t 0, .c (.int .u8 57)], some (1, true), false⟩,
      ⟨5, .p (.pick), [.t 2, .t 0, .c (.bool false)], none, false⟩,
      ⟨6, .p (.mov), [.t 0], none, false⟩]
noncomputable def c28 : CFn := { nargs := 1, vars := [0, 2], results := [.var 1], body := (.seq (.reg c28_r0 [(1, 0)]) (.seq (.reg c28_r1 [(1, 0)]) .ret)) }

/-- headstock/headstockref05.letter · variables 0:c, 2: -/
noncomputable def c29_r0 : List SOp := [⟨0, .p (.mov), [.c (.bool false)], none, false⟩]
noncomputable def c29_r1 : List SOp := [⟨0, .p (.mov), [.v 0], none, false⟩,
      ⟨1, .p (.bin .geq), [.t 0, .c (.int .u8 97)], none, false⟩,
      ⟨2, .p (.mov), [.t 0], none, false⟩,
      ⟨3, .p (.mov), [.v 0], some (0, true), false⟩,
      ⟨4, .p (.bin .leq), [.t 0, .c (.int .u8 122)], some (1, true), false⟩,
      ⟨5, .p (.pick), [.t 2, .t 0, .c (.bool false)], none, false⟩,
      ⟨6, .p (.mov), [.t 0], none, false⟩,
      ⟨7, .p (.mov), [.v 0], some (0, false), false⟩,
      ⟨8, .p (.bin .geq), [.t 0, .c (.int .u8 65)], some (1, false), false⟩,
      ⟨9, .p (.mov), [.t 0], some (2, false), false⟩,
      ⟨10, .p (.mov), [.v 0], some (0, true), false⟩,
      ⟨11, .p (.bin .leq), [.t 0, .c (.int .u8 90)], some (1, true), false⟩,
      ⟨12, .p (.pick), [.t 2, .t 0, .c (.bool false)], some (5, false), false⟩,
      ⟨13, .p (.pick), [.t 6, .c (.bool true), .t 0], none, false⟩,
      ⟨14, .p (.mov), [.t 0], none, false⟩,
      ⟨15, .p (.mov), [.v 0], some (0, false), false⟩,
      ⟨16, .p (.bin .eql), [.t 0, .c (.int .u8 95)], some (1, false), false⟩,
      ⟨17, .p (.pick), [.t 2, .c (.bool true), .t 0], none, false⟩,
      ⟨18, .p (.mov), [.t 0], none, false⟩]
noncomputable def c29 : CFn := { nargs := 1, vars := [0, 2], results := [.var 1], body := (.seq (.reg c29_r0 [(1, 0)]) (.seq (.reg c29_r1 [(1, 0)]) .ret)) }

/-- slices.Contains[[]string,string] · variables 0:s, 1:v, 4: -/
noncomputable def c30_r0 : List SOp := [⟨0, .p (.mov), [.c (.bool false)], none, false⟩]
noncomputable def c30_r1 : List SOp := [⟨0, .p (.mov), [.v 0], none, false⟩,
      ⟨1, .p (.mov), [.v 1], none, false⟩,
      ⟨2, .call 44, [.t 1, .t 0], none, false⟩,
      ⟨3, .p (.bin .geq), [.t 0, .c (.int .i64 0)], none, false⟩,
      ⟨4, .p (.mov), [.t 0], none, false⟩]
noncomputable def c30 : CFn := { nargs := 2, vars := [0, 1, 4], results := [.var 2], body := (.seq (.reg c30_r0 [(2, 0)]) (.seq (.reg c30_r1 [(2, 0)]) .ret)) }

/-- headstock/token.words · variables 0: -/
noncomputable def c31_r0 : List SOp := [⟨0, .p (.mov), [.c (.slice none 0 0)], none, false⟩]
noncomputable def c31_r1 : List SOp := [⟨0, .a (.bslice [.string ⟨#[]⟩, .string ⟨#[]⟩, .string ⟨#[]⟩, .string ⟨#[]⟩, .string ⟨#[]⟩, .string ⟨#[]⟩, .string ⟨#[]⟩, .string ⟨#[]⟩, .string ⟨#[]⟩, .string ⟨#[]⟩, .string ⟨#[]⟩, .string ⟨#[]⟩, .string ⟨#[]⟩] [(0, 1), (1, 1), (2, 1), (3, 1), (4, 1), (5, 1), (6, 1), (7, 1), (8, 1), (9, 1), (10, 1), (11, 1), (12, 1)] 13 1), [.c (.string ⟨#[104, 97, 114, 116, 115]⟩), .c (.string ⟨#[100, 101, 118, 105, 99, 101]⟩), .c (.string ⟨#[117, 97, 114, 116]⟩), .c (.string ⟨#[116, 105, 109, 101, 114]⟩), .c (.string ⟨#[103, 112, 105, 111]⟩), .c (.string ⟨#[114, 101, 115, 111, 117, 114, 99, 101]⟩), .c (.string ⟨#[116, 97, 115, 107]⟩), .c (.string ⟨#[104, 97, 110, 100, 108, 101, 114]⟩), .c (.string ⟨#[108, 111, 99, 107]⟩), .c (.string ⟨#[105, 102]⟩), .c (.string ⟨#[101, 108, 115, 101]⟩), .c (.string ⟨#[114, 101, 112, 101, 97, 116]⟩), .c (.string ⟨#[104, 97, 108, 116]⟩)], none, false⟩,
      ⟨1, .p (.mov), [.t 0], none, false⟩]
noncomputable def c31 : CFn := { nargs := 0, vars := [0], results := [.var 0], body := (.seq (.reg c31_r0 [(0, 0)]) (.seq (.reg c31_r1 [(0, 0)]) .ret)) }

/-- (*headstock/token.scanner).pass · variables 0:x, 2:k -/
noncomputable def c32_r0 : List SOp := [⟨0, .p (.mov), [.v 0], none, false⟩,
      ⟨1, .p (.mov), [.v 0], none, false⟩,
      ⟨2, .p (.nilCheck), [.t 0], none, false⟩,
      ⟨3, .p (.fieldAddr 0), [.t 0], none, false⟩,
      ⟨4, .r (.load false 1), [.t 0], none, false⟩,
      ⟨5, .call 45, [.t 0, .c (.string ⟨#[32, 9]⟩)], none, false⟩,
      ⟨6, .p (.nilCheck), [.t 5], none, false⟩,
      ⟨7, .p (.fieldAddr 0), [.t 0], none, false⟩,
      ⟨8, .w (.store 1), [.t 0, .t 2], none, false⟩]
noncomputable def c32_r1 : List SOp := [⟨0, .p (.mov), [.v 0], none, false⟩,
      ⟨1, .p (.nilCheck), [.t 0], none, false⟩,
      ⟨2, .p (.fieldAddr 0), [.t 0], none, false⟩,
      ⟨3, .r (.load false 1), [.t 0], none, false⟩,
      ⟨4, .call 36, [.t 0, .c (.string ⟨#[35]⟩)], none, false⟩]
noncomputable def c32_r2 : List SOp := [⟨0, .p (.mov), [.v 0], none, false⟩,
      ⟨1, .p (.nilCheck), [.t 0], none, false⟩,
      ⟨2, .p (.fieldAddr 0), [.t 0], none, false⟩,
      ⟨3, .r (.load false 1), [.t 0], none, false⟩,
      ⟨4, .call 46, [.t 0, .c (.int .u8 10)], none, false⟩,
      ⟨5, .p (.mov), [.t 0], none, false⟩]
noncomputable def c32_r3 : List SOp := [⟨0, .p (.mov), [.v 1], none, false⟩,
      ⟨1, .p (.bin .lss), [.t 0, .c (.int .i64 0)], none, false⟩]
noncomputable def c32_r4 : List SOp := [⟨0, .p (.mov), [.v 0], none, false⟩,
      ⟨1, .p (.nilCheck), [.t 0], none, false⟩,
      ⟨2, .p (.fieldAddr 0), [.t 0], none, false⟩,
      ⟨3, .r (.load false 1), [.t 0], none, false⟩,
      ⟨4, .p (.lenStr), [.t 0], none, false⟩,
      ⟨5, .p (.mov), [.t 0], none, false⟩]
noncomputable def c32_r5 : List SOp := [⟨0, .p (.mov), [.v 0], none, false⟩,
      ⟨1, .p (.mov), [.v 0], none, false⟩,
      ⟨2, .p (.nilCheck), [.t 0], none, false⟩,
      ⟨3, .p (.fieldAddr 0), [.t 0], none, false⟩,
      ⟨4, .r (.load false 1), [.t 0], none, false⟩,
      ⟨5, .p (.mov), [.v 1], none, false⟩,
      ⟨6, .p (.sliceStr true false), [.t 1, .t 0], none, false⟩,
      ⟨7, .p (.nilCheck), [.t 6], none, false⟩,
      ⟨8, .p (.fieldAddr 0), [.t 0], none, false⟩,
      ⟨9, .w (.store 1), [.t 0, .t 2], none, false⟩]
noncomputable def c32_r6 : List SOp := [⟨0, .p (.mov), [.v 0], none, false⟩,
      ⟨1, .p (.nilCheck), [.t 0], none, false⟩,
      ⟨2, .p (.fieldAddr 0), [.t 0], none, false⟩,
      ⟨3, .r (.load false 1), [.t 0], none, false⟩,
      ⟨4, .call 36, [.t 0, .c (.string ⟨#[10]⟩)], none, false⟩,
      ⟨5, .p (.un .not), [.t 0], none, false⟩]
noncomputable def c32_r7 : List SOp := [⟨0, .p (.mov), [.v 0], none, false⟩,
      ⟨1, .p (.mov), [.v 0], none, false⟩,
      ⟨2, .p (.nilCheck), [.t 0], none, false⟩,
      ⟨3, .p (.fieldAddr 0), [.t 0], none, false⟩,
      ⟨4, .r (.load false 1), [.t 0], none, false⟩,
      ⟨5, .p (.sliceStr true false), [.t 0, .c (.int .i64 1)], none, false⟩,
      ⟨6, .p (.nilCheck), [.t 5], none, false⟩,
      ⟨7, .p (.fieldAddr 0), [.t 0], none, false⟩,
      ⟨8, .w (.store 1), [.t 0, .t 2], none, false⟩]
noncomputable def c32_r8 : List SOp := [⟨0, .p (.mov), [.v 0], none, false⟩,
      ⟨1, .p (.nilCheck), [.t 0], none, false⟩,
      ⟨2, .p (.fieldAddr 1), [.t 0], none, false⟩,
      ⟨3, .r (.load false 1), [.t 0], none, false⟩,
      ⟨4, .p (.bin .add), [.t 0, .c (.int .i64 1)], none, false⟩,
      ⟨5, .p (.nilCheck), [.t 4], none, false⟩,
      ⟨6, .p (.fieldAddr 1), [.t 0], none, false⟩,
      ⟨7, .w (.store 1), [.t 0, .t 2], none, false⟩]
noncomputable def c32_l9 : CCode := (.block 1 (.seq (.reg c32_r0 []) (.seq (.rcond c32_r1 [] 0
    (.seq (.reg c32_r2 [(1, 0)]) (.seq (.rcond c32_r3 [] 0
    (.reg c32_r4 [(1, 0)])
    .skip) (.reg c32_r5 [])))
    .skip) (.seq (.rcond c32_r6 [] 0
    .ret
    .skip) (.seq (.reg c32_r7 []) (.reg c32_r8 []))))))
noncomputable def c32 : CFn := { nargs := 1, vars := [0, 2], results := [], body := (.block 0 (.loop c32_l9)) }

/-- headstock/token.one · variables 0:s, 2:, 3:, 4:n, 5:ok -/
noncomputable def c33_r0 : List SOp := [⟨0, .a (.new [.int .i64 0, .string ⟨#[]⟩, .int .i64 0, .int .i64 0]), [], none, false⟩,
      ⟨1, .p (.mov), [.c (.bool false)], none, false⟩]
noncomputable def c33_r1 : List SOp := [⟨0, .p (.mov), [.v 0], none, false⟩,
      ⟨1, .call 15, [.t 0], none, false⟩]
noncomputable def c33_r2 : List SOp := [⟨0, .p (.mov), [.v 0], none, false⟩,
      ⟨1, .p (.build [.int .i64 0, .string ⟨#[]⟩, .int .i64 0, .int .i64 0] [(0, 1), (1, 1)]), [.c (.int .i64 2), .t 0], none, false⟩,
      ⟨2, .w (.store 4), [.v 1, .t 0], none, false⟩,
      ⟨3, .p (.mov), [.c (.bool true)], none, false⟩]
noncomputable def c33_r3 : List SOp := [⟨0, .p (.mov), [.v 0], none, false⟩,
      ⟨1, .call 13, [.t 0], none, false⟩]
noncomputable def c33_r4 : List SOp := [⟨0, .p (.mov), [.v 0], none, false⟩,
      ⟨1, .p (.build [.int .i64 0, .string ⟨#[]⟩, .int .i64 0, .int .i64 0] [(0, 1), (1, 1)]), [.c (.int .i64 1), .t 0], none, false⟩,
      ⟨2, .w (.store 4), [.v 1, .t 0], none, false⟩,
      ⟨3, .p (.mov), [.c (.bool true)], none, false⟩]
noncomputable def c33_r5 : List SOp := [⟨0, .p (.mov), [.v 0], none, false⟩,
      ⟨1, .call 21, [.t 0], none, false⟩,
      ⟨2, .p (.mov), [.t 0], none, false⟩,
      ⟨3, .p (.extract 0), [.t 0], none, false⟩,
      ⟨4, .p (.extract 1), [.t 1], none, false⟩,
      ⟨5, .p (.mov), [.t 1], none, false⟩,
      ⟨6, .p (.mov), [.t 1], none, false⟩]
noncomputable def c33_r6 : List SOp := [⟨0, .p (.mov), [.v 0], none, false⟩,
      ⟨1, .p (.mov), [.v 3], none, false⟩,
      ⟨2, .p (.build [.int .i64 0, .string ⟨#[]⟩, .int .i64 0, .int .i64 0] [(0, 1), (1, 1), (2, 1)]), [.c (.int .i64 3), .t 1, .t 0], none, false⟩,
      ⟨3, .p (.mov), [.v 4], none, false⟩,
      ⟨4, .w (.store 4), [.v 1, .t 1], none, false⟩,
      ⟨5, .p (.mov), [.t 1], none, false⟩]
noncomputable def c33 : CFn := { nargs := 1, vars := [0, 2, 3, 4, 5], results := [.cell 1 true 4, .var 2], body := (.seq (.reg c33_r0 [(1, 1), (2, 0)]) (.seq (.rcond c33_r1 [] 0
    (.seq (.reg c33_r2 [(2, 0)]) .ret)
    .skip) (.seq (.rcond c33_r3 [] 0
    (.seq (.reg c33_r4 [(2, 0)]) .ret)
    .skip) (.seq (.reg c33_r5 [(3, 1), (4, 0)]) (.seq (.reg c33_r6 [(2, 0)]) .ret))))) }

/-- (*headstock/token.scanner).take · variables 0:x, 1:t, 3:t, 4: -/
noncomputable def c34_r0 : List SOp := [⟨0, .a .box, [.v 1], none, false⟩,
      ⟨1, .a (.new [.int .i64 0, .string ⟨#[]⟩, .int .i64 0, .int .i64 0]), [], none, false⟩]
noncomputable def c34_r1 : List SOp := [⟨0, .p (.mov), [.v 0], none, false⟩,
      ⟨1, .p (.nilCheck), [.t 0], none, false⟩,
      ⟨2, .p (.fieldAddr 1), [.t 0], none, false⟩,
      ⟨3, .r (.load false 1), [.t 0], none, false⟩,
      ⟨4, .p (.fieldAddr 3), [.v 2], none, false⟩,
      ⟨5, .w (.store 1), [.t 0, .t 1], none, false⟩]
noncomputable def c34_r2 : List SOp := [⟨0, .p (.mov), [.v 0], none, false⟩,
      ⟨1, .p (.mov), [.v 0], none, false⟩,
      ⟨2, .p (.nilCheck), [.t 0], none, false⟩,
      ⟨3, .p (.fieldAddr 0), [.t 0], none, false⟩,
      ⟨4, .r (.load false 1), [.t 0], none, false⟩,
      ⟨5, .p (.fieldAddr 1), [.v 2], none, false⟩,
      ⟨6, .r (.load false 1), [.t 0], none, false⟩,
      ⟨7, .p (.lenStr), [.t 0], none, false⟩,
      ⟨8, .p (.sliceStr true false), [.t 3, .t 0], none, false⟩,
      ⟨9, .p (.nilCheck), [.t 8], none, false⟩,
      ⟨10, .p (.fieldAddr 0), [.t 0], none, false⟩,
      ⟨11, .w (.store 1), [.t 0, .t 2], none, false⟩]
noncomputable def c34_r3 : List SOp := [⟨0, .r (.load true 4), [.v 2], none, false⟩,
      ⟨1, .w (.store 4), [.v 3, .t 0], none, false⟩]
noncomputable def c34 : CFn := { nargs := 2, vars := [0, 1, 3, 4], results := [.cell 3 true 4], body := (.seq (.reg c34_r0 [(2, 1), (3, 0)]) (.seq (.reg c34_r1 []) (.seq (.reg c34_r2 []) (.seq (.reg c34_r3 []) .ret)))) }

/-- headstock/token.signs · variables 0: -/
noncomputable def c35_r0 : List SOp := [⟨0, .p (.mov), [.c (.slice none 0 0)], none, false⟩]
noncomputable def c35_r1 : List SOp := [⟨0, .a (.bslice [.string ⟨#[]⟩, .string ⟨#[]⟩, .string ⟨#[]⟩, .string ⟨#[]⟩, .string ⟨#[]⟩, .string ⟨#[]⟩, .string ⟨#[]⟩, .string ⟨#[]⟩, .string ⟨#[]⟩, .string ⟨#[]⟩, .string ⟨#[]⟩, .string ⟨#[]⟩, .string ⟨#[]⟩, .string ⟨#[]⟩, .string ⟨#[]⟩, .string ⟨#[]⟩, .string ⟨#[]⟩, .string ⟨#[]⟩, .string ⟨#[]⟩, .string ⟨#[]⟩, .string ⟨#[]⟩, .string ⟨#[]⟩, .string ⟨#[]⟩, .string ⟨#[]⟩, .string ⟨#[]⟩] [(0, 1), (1, 1), (2, 1), (3, 1), (4, 1), (5, 1), (6, 1), (7, 1), (8, 1), (9, 1), (10, 1), (11, 1), (12, 1), (13, 1), (14, 1), (15, 1), (16, 1), (17, 1), (18, 1), (19, 1), (20, 1), (21, 1), (22, 1), (23, 1), (24, 1)] 25 1), [.c (.string ⟨#[61, 61]⟩), .c (.string ⟨#[33, 61]⟩), .c (.string ⟨#[60, 60]⟩), .c (.string ⟨#[62, 62]⟩), .c (.string ⟨#[60, 46]⟩), .c (.string ⟨#[43]⟩), .c (.string ⟨#[45]⟩), .c (.string ⟨#[42]⟩), .c (.string ⟨#[47]⟩), .c (.string ⟨#[37]⟩), .c (.string ⟨#[38]⟩), .c (.string ⟨#[124]⟩), .c (.string ⟨#[94]⟩), .c (.string ⟨#[60]⟩), .c (.string ⟨#[61]⟩), .c (.string ⟨#[33]⟩), .c (.string ⟨#[126]⟩), .c (.string ⟨#[40]⟩), .c (.string ⟨#[41]⟩), .c (.string ⟨#[123]⟩), .c (.string ⟨#[125]⟩), .c (.string ⟨#[91]⟩), .c (.string ⟨#[93]⟩), .c (.string ⟨#[59]⟩), .c (.string ⟨#[46]⟩)], none, false⟩,
      ⟨1, .p (.mov), [.t 0], none, false⟩]
noncomputable def c35 : CFn := { nargs := 0, vars := [0], results := [.var 0], body := (.seq (.reg c35_r0 [(0, 0)]) (.seq (.reg c35_r1 [(0, 0)]) .ret)) }

/-- strings.HasPrefix · variables 0:s, 1:prefix, 4: -/
noncomputable def c36_r0 : List SOp := [⟨0, .p (.mov), [.c (.bool false)], none, false⟩]
noncomputable def c36_r1 : List SOp := [⟨0, .p (.mov), [.v 0], none, false⟩,
      ⟨1, .p (.mov), [.v 1], none, false⟩,
      ⟨2, .call 47, [.t 1, .t 0], none, false⟩,
      ⟨3, .p (.mov), [.t 0], none, false⟩]
noncomputable def c36 : CFn := { nargs := 2, vars := [0, 1, 4], results := [.var 2], body := (.seq (.reg c36_r0 [(2, 0)]) (.seq (.reg c36_r1 [(2, 0)]) .ret)) }

/-- headstock/headstockref05.one · variables 0:s, 2:, 3:is, 4:ok, 5:n, 6:number -/
noncomputable def c37_r0 : List SOp := [⟨0, .a (.new [.int .i64 0, .string ⟨#[]⟩, .int .i64 0, .int .i64 0]), [], none, false⟩]
noncomputable def c37_r1 : List SOp := [⟨0, .p (.mov), [.v 0], none, false⟩,
      ⟨1, .call 16, [.t 0], none, false⟩,
      ⟨2, .p (.mov), [.t 0], none, false⟩]
noncomputable def c37_r2 : List SOp := [⟨0, .p (.mov), [.v 2], none, false⟩]
noncomputable def c37_r3 : List SOp := [⟨0, .p (.mov), [.v 0], none, false⟩,
      ⟨1, .p (.build [.int .i64 0, .string ⟨#[]⟩, .int .i64 0, .int .i64 0] [(0, 1), (1, 1)]), [.c (.int .i64 2), .t 0], none, false⟩,
      ⟨2, .w (.store 4), [.v 1, .t 0], none, false⟩]
noncomputable def c37_r4 : List SOp := [⟨0, .p (.mov), [.v 0], none, false⟩,
      ⟨1, .call 14, [.t 0], none, false⟩,
      ⟨2, .p (.mov), [.t 0], none, false⟩]
noncomputable def c37_r5 : List SOp := [⟨0, .p (.mov), [.v 3], none, false⟩]
noncomputable def c37_r6 : List SOp := [⟨0, .p (.mov), [.v 0], none, false⟩,
      ⟨1, .p (.build [.int .i64 0, .string ⟨#[]⟩, .int .i64 0, .int .i64 0] [(0, 1), (1, 1)]), [.c (.int .i64 1), .t 0], none, false⟩,
      ⟨2, .w (.store 4), [.v 1, .t 0], none, false⟩]
noncomputable def c37_r7 : List SOp := [⟨0, .p (.mov), [.v 0], none, false⟩,
      ⟨1, .call 22, [.t 0], none, false⟩,
      ⟨2, .p (.mov), [.t 0], none, false⟩,
      ⟨3, .p (.extract 0), [.t 0], none, false⟩,
      ⟨4, .p (.extract 1), [.t 1], none, false⟩,
      ⟨5, .p (.mov), [.t 1], none, false⟩,
      ⟨6, .p (.mov), [.t 1], none, false⟩]
noncomputable def c37_r8 : List SOp := [⟨0, .p (.mov), [.v 5], none, false⟩]
noncomputable def c37_r9 : List SOp := [⟨0, .p (.mov), [.v 0], none, false⟩,
      ⟨1, .p (.mov), [.v 4], none, false⟩,
      ⟨2, .p (.build [.int .i64 0, .string ⟨#[]⟩, .int .i64 0, .int .i64 0] [(0, 1), (1, 1), (2, 1)]), [.c (.int .i64 3), .t 1, .t 0], none, false⟩,
      ⟨3, .w (.store 4), [.v 1, .t 0], none, false⟩]
noncomputable def c37_r10 : List SOp := [⟨0, .p (.build [.int .i64 0, .string ⟨#[]⟩, .int .i64 0, .int .i64 0] []), [], none, false⟩,
      ⟨1, .w (.store 4), [.v 1, .t 0], none, false⟩]
noncomputable def c37 : CFn := { nargs := 1, vars := [0, 2, 3, 4, 5, 6], results := [.cell 1 true 4], body := (.seq (.reg c37_r0 [(1, 0)]) (.seq (.reg c37_r1 [(2, 0)]) (.seq (.rcond c37_r2 [] 0
    (.seq (.reg c37_r3 []) .ret)
    .skip) (.seq (.reg c37_r4 [(3, 0)]) (.seq (.rcond c37_r5 [] 0
    (.seq (.reg c37_r6 []) .ret)
    .skip) (.seq (.reg c37_r7 [(4, 1), (5, 0)]) (.seq (.rcond c37_r8 [] 0
    (.seq (.reg c37_r9 []) .ret)
    .skip) (.seq (.reg c37_r10 []) .ret)))))))) }

/-- headstock/headstockref05.sign · variables 0:s, 2:, 3:l, 4:i -/
noncomputable def c38_r0 : List SOp := [⟨0, .p (.mov), [.c (.string ⟨#[]⟩)], none, false⟩]
noncomputable def c38_r1 : List SOp := [⟨0, .a (.bslice [.string ⟨#[]⟩, .string ⟨#[]⟩, .string ⟨#[]⟩, .string ⟨#[]⟩, .string ⟨#[]⟩, .string ⟨#[]⟩, .string ⟨#[]⟩, .string ⟨#[]⟩, .string ⟨#[]⟩, .string ⟨#[]⟩, .string ⟨#[]⟩, .string ⟨#[]⟩, .string ⟨#[]⟩, .string ⟨#[]⟩, .string ⟨#[]⟩, .string ⟨#[]⟩, .string ⟨#[]⟩, .string ⟨#[]⟩, .string ⟨#[]⟩, .string ⟨#[]⟩, .string ⟨#[]⟩, .string ⟨#[]⟩, .string ⟨#[]⟩, .string ⟨#[]⟩, .string ⟨#[]⟩] [(0, 1), (1, 1), (2, 1), (3, 1), (4, 1), (5, 1), (6, 1), (7, 1), (8, 1), (9, 1), (10, 1), (11, 1), (12, 1), (13, 1), (14, 1), (15, 1), (16, 1), (17, 1), (18, 1), (19, 1), (20, 1), (21, 1), (22, 1), (23, 1), (24, 1)] 25 1), [.c (.string ⟨#[61, 61]⟩), .c (.string ⟨#[33, 61]⟩), .c (.string ⟨#[60, 60]⟩), .c (.string ⟨#[62, 62]⟩), .c (.string ⟨#[60, 46]⟩), .c (.string ⟨#[43]⟩), .c (.string ⟨#[45]⟩), .c (.string ⟨#[42]⟩), .c (.string ⟨#[47]⟩), .c (.string ⟨#[37]⟩), .c (.string ⟨#[38]⟩), .c (.string ⟨#[124]⟩), .c (.string ⟨#[94]⟩), .c (.string ⟨#[60]⟩), .c (.string ⟨#[61]⟩), .c (.string ⟨#[33]⟩), .c (.string ⟨#[126]⟩), .c (.string ⟨#[40]⟩), .c (.string ⟨#[41]⟩), .c (.string ⟨#[123]⟩), .c (.string ⟨#[125]⟩), .c (.string ⟨#[91]⟩), .c (.string ⟨#[93]⟩), .c (.string ⟨#[59]⟩), .c (.string ⟨#[46]⟩)], none, false⟩,
      ⟨1, .p (.mov), [.t 0], none, false⟩]
noncomputable def c38_r2 : List SOp := [⟨0, .p (.mov), [.c (.int .i64 0)], none, false⟩]
noncomputable def c38_r3 : List SOp := [⟨0, .p (.mov), [.v 3], none, false⟩,
      ⟨1, .p (.mov), [.v 2], none, false⟩,
      ⟨2, .p (.lenS), [.t 0], none, false⟩,
      ⟨3, .p (.bin .lss), [.t 2, .t 0], none, false⟩]
noncomputable def c38_r4 : List SOp := [⟨0, .p (.mov), [.v 2], none, false⟩,
      ⟨1, .p (.mov), [.v 3], none, false⟩,
      ⟨2, .p (.idxAddrS 1), [.t 1, .t 0], none, false⟩,
      ⟨3, .r (.load false 1), [.t 0], none, false⟩,
      ⟨4, .p (.lenStr), [.t 0], none, false⟩,
      ⟨5, .p (.mov), [.v 0], none, false⟩,
      ⟨6, .p (.lenStr), [.t 0], none, false⟩,
      ⟨7, .p (.bin .leq), [.t 2, .t 0], none, false⟩,
      ⟨8, .p (.mov), [.t 0], none, false⟩,
      ⟨9, .p (.mov), [.v 0], some (0, true), false⟩,
      ⟨10, .p (.mov), [.v 2], some (1, true), false⟩,
      ⟨11, .p (.mov), [.v 3], some (2, true), false⟩,
      ⟨12, .p (.idxAddrS 1), [.t 1, .t 0], some (3, true), false⟩,
      ⟨13, .r (.load false 1), [.t 0], some (4, true), false⟩,
      ⟨14, .p (.lenStr), [.t 0], some (5, true), false⟩,
      ⟨15, .p (.sliceStr false true), [.t 5, .t 0], some (6, true), false⟩,
      ⟨16, .p (.mov), [.v 2], some (7, true), false⟩,
      ⟨17, .p (.mov), [.v 3], some (8, true), false⟩,
      ⟨18, .p (.idxAddrS 1), [.t 1, .t 0], some (9, true), false⟩,
      ⟨19, .r (.load false 1), [.t 0], some (10, true), false⟩,
      ⟨20, .p (.bin .eql), [.t 4, .t 0], some (11, true), false⟩,
      ⟨21, .p (.pick), [.t 12, .t 0, .c (.bool false)], none, false⟩]
noncomputable def c38_r5 : List SOp := [⟨0, .p (.mov), [.v 2], none, false⟩,
      ⟨1, .p (.mov), [.v 3], none, false⟩,
      ⟨2, .p (.idxAddrS 1), [.t 1, .t 0], none, false⟩,
      ⟨3, .r (.load false 1), [.t 0], none, false⟩,
      ⟨4, .p (.mov), [.t 0], none, false⟩]
noncomputable def c38_r6 : List SOp := [⟨0, .p (.mov), [.v 3], none, false⟩,
      ⟨1, .p (.bin .add), [.t 0, .c (.int .i64 1)], none, false⟩,
      ⟨2, .p (.mov), [.t 0], none, false⟩]
noncomputable def c38_l7 : CCode := (.seq (.rcond c38_r3 [] 0
    .skip
    (.exit 0)) (.seq (.block 1 (.rcond c38_r4 [] 0
    (.seq (.reg c38_r5 [(1, 0)]) .ret)
    .skip)) (.reg c38_r6 [(3, 0)])))
noncomputable def c38_r8 : List SOp := [⟨0, .p (.mov), [.c (.string ⟨#[]⟩)], none, false⟩]
noncomputable def c38 : CFn := { nargs := 1, vars := [0, 2, 3, 4], results := [.var 1], body := (.seq (.reg c38_r0 [(1, 0)]) (.seq (.reg c38_r1 [(2, 0)]) (.seq (.seq (.reg c38_r2 [(3, 0)]) (.block 0 (.loop c38_l7))) (.seq (.reg c38_r8 [(1, 0)]) .ret)))) }

/-- strings.CutPrefix · variables 0:s, 1:prefix, 4:after, 5:found -/
noncomputable def c39_r0 : List SOp := [⟨0, .p (.mov), [.c (.string ⟨#[]⟩)], none, false⟩,
      ⟨1, .p (.mov), [.c (.bool false)], none, false⟩]
noncomputable def c39_r1 : List SOp := [⟨0, .p (.mov), [.v 0], none, false⟩,
      ⟨1, .p (.mov), [.v 1], none, false⟩,
      ⟨2, .call 48, [.t 1, .t 0], none, false⟩,
      ⟨3, .p (.extract 0), [.t 0], none, false⟩,
      ⟨4, .p (.extract 1), [.t 1], none, false⟩,
      ⟨5, .p (.mov), [.t 1], none, false⟩,
      ⟨6, .p (.mov), [.t 1], none, false⟩]
noncomputable def c39 : CFn := { nargs := 2, vars := [0, 1, 4, 5], results := [.var 2, .var 3], body := (.seq (.reg c39_r0 [(2, 1), (3, 0)]) (.seq (.reg c39_r1 [(2, 1), (3, 0)]) .ret)) }

/-- strconv.ParseUint · variables 0:s, 1:base, 2:bitSize, 6:, 7:, 8:x, 9:err -/
noncomputable def c40_r0 : List SOp := [⟨0, .p (.mov), [.c (.int .u64 0)], none, false⟩,
      ⟨1, .p (.mov), [.c (.nilIface)], none, false⟩]
noncomputable def c40_r1 : List SOp := [⟨0, .p (.mov), [.v 0], none, false⟩,
      ⟨1, .p (.mov), [.v 1], none, false⟩,
      ⟨2, .p (.mov), [.v 2], none, false⟩,
      ⟨3, .call 49, [.t 2, .t 1, .t 0], none, false⟩,
      ⟨4, .p (.mov), [.t 0], none, false⟩,
      ⟨5, .p (.extract 0), [.t 0], none, false⟩,
      ⟨6, .p (.extract 1), [.t 1], none, false⟩,
      ⟨7, .p (.mov), [.t 1], none, false⟩,
      ⟨8, .p (.mov), [.t 1], none, false⟩]
noncomputable def c40_r2 : List SOp := [⟨0, .p (.mov), [.v 6], none, false⟩,
      ⟨1, .p (.isNil 3 true), [.t 0], none, false⟩]
noncomputable def c40_r3 : List SOp := [⟨0, .p (.mov), [.v 5], none, false⟩,
      ⟨1, .p (.mov), [.v 0], none, false⟩,
      ⟨2, .p (.mov), [.v 1], none, false⟩,
      ⟨3, .p (.mov), [.v 2], none, false⟩,
      ⟨4, .p (.mov), [.v 6], none, false⟩,
      ⟨5, .call 50, [.c (.string ⟨#[80, 97, 114, 115, 101, 85, 105, 110, 116]⟩), .t 3, .t 2, .t 1, .t 0], none, false⟩,
      ⟨6, .p (.mov), [.t 5], none, false⟩,
      ⟨7, .p (.mov), [.t 1], none, false⟩]
noncomputable def c40_r4 : List SOp := [⟨0, .p (.mov), [.v 5], none, false⟩,
      ⟨1, .p (.mov), [.t 0], none, false⟩,
      ⟨2, .p (.mov), [.c (.nilIface)], none, false⟩]
noncomputable def c40 : CFn := { nargs := 3, vars := [0, 1, 2, 6, 7, 8, 9], results := [.var 3, .var 4], body := (.seq (.reg c40_r0 [(3, 1), (4, 0)]) (.seq (.reg c40_r1 [(5, 1), (6, 0)]) (.seq (.rcond c40_r2 [] 0
    (.seq (.reg c40_r3 [(3, 1), (4, 0)]) .ret)
    .skip) (.seq (.reg c40_r4 [(3, 1), (4, 0)]) .ret)))) }

/-- headstock/headstockref05.value · variables 0:s, 1:base, 4:, 5:n, 6:i, 7:d -/
noncomputable def c42_r0 : List SOp := [⟨0, .p (.mov), [.c (.int .i64 0)], none, false⟩]
noncomputable def c42_r1 : List SOp := [⟨0, .p (.mov), [.c (.int .i64 0)], none, false⟩]
noncomputable def c42_r2 : List SOp := [⟨0, .p (.mov), [.c (.int .i64 0)], none, false⟩]
noncomputable def c42_r3 : List SOp := [⟨0, .p (.mov), [.v 4], none, false⟩,
      ⟨1, .p (.mov), [.v 0], none, false⟩,
      ⟨2, .p (.lenStr), [.t 0], none, false⟩,
      ⟨3, .p (.bin .lss), [.t 2, .t 0], none, false⟩]
noncomputable def c42_r4 : List SOp := [⟨0, .p (.mov), [.c (.int .i64 (-1))], none, false⟩]
noncomputable def c42_r5 : List SOp := [⟨0, .p (.mov), [.v 0], none, false⟩,
      ⟨1, .p (.mov), [.v 4], none, false⟩,
      ⟨2, .p (.idxStr), [.t 1, .t 0], none, false⟩,
      ⟨3, .call 28, [.t 0], none, false⟩]
noncomputable def c42_r6 : List SOp := [⟨0, .p (.mov), [.v 0], none, false⟩,
      ⟨1, .p (.mov), [.v 4], none, false⟩,
      ⟨2, .p (.idxStr), [.t 1, .t 0], none, false⟩,
      ⟨3, .p (.bin .sub), [.t 0, .c (.int .u8 48)], none, false⟩,
      ⟨4, .p (.conv .i64), [.t 0], none, false⟩,
      ⟨5, .p (.mov), [.t 0], none, false⟩]
noncomputable def c42_r7 : List SOp := [⟨0, .p (.mov), [.v 1], none, false⟩,
      ⟨1, .p (.bin .eql), [.t 0, .c (.int .i64 16)], none, false⟩,
      ⟨2, .p (.mov), [.t 0], none, false⟩,
      ⟨3, .p (.mov), [.v 0], some (0, true), false⟩,
      ⟨4, .p (.mov), [.v 4], some (1, true), false⟩,
      ⟨5, .p (.idxStr), [.t 1, .t 0], some (2, true), false⟩,
      ⟨6, .p (.bin .geq), [.t 0, .c (.int .u8 97)], some (3, true), false⟩,
      ⟨7, .p (.pick), [.t 4, .t 0, .c (.bool false)], none, false⟩,
      ⟨8, .p (.mov), [.t 0], none, false⟩,
      ⟨9, .p (.mov), [.v 0], some (0, true), false⟩,
      ⟨10, .p (.mov), [.v 4], some (1, true), false⟩,
      ⟨11, .p (.idxStr), [.t 1, .t 0], some (2, true), false⟩,
      ⟨12, .p (.bin .leq), [.t 0, .c (.int .u8 102)], some (3, true), false⟩,
      ⟨13, .p (.pick), [.t 4, .t 0, .c (.bool false)], none, false⟩]
noncomputable def c42_r8 : List SOp := [⟨0, .p (.mov), [.v 0], none, false⟩,
      ⟨1, .p (.mov), [.v 4], none, false⟩,
      ⟨2, .p (.idxStr), [.t 1, .t 0], none, false⟩,
      ⟨3, .p (.bin .sub), [.t 0, .c (.int .u8 97)], none, false⟩,
      ⟨4, .p (.conv .i64), [.t 0], none, false⟩,
      ⟨5, .p (.bin .add), [.t 0, .c (.int .i64 10)], none, false⟩,
      ⟨6, .p (.mov), [.t 0], none, false⟩]
noncomputable def c42_r9 : List SOp := [⟨0, .p (.mov), [.v 5], none, false⟩,
      ⟨1, .p (.bin .lss), [.t 0, .c (.int .i64 0)], none, false⟩]
noncomputable def c42_r10 : List SOp := [⟨0, .p (.mov), [.c (.int .i64 (-1))], none, false⟩]
noncomputable def c42_r11 : List SOp := [⟨0, .p (.mov), [.v 1], none, false⟩,
      ⟨1, .p (.mov), [.v 3], none, false⟩,
      ⟨2, .p (.bin .mul), [.t 1, .t 0], none, false⟩,
      ⟨3, .p (.mov), [.v 5], none, false⟩,
      ⟨4, .p (.bin .add), [.t 1, .t 0], none, false⟩,
      ⟨5, .p (.mov), [.t 0], none, false⟩]
noncomputable def c42_r12 : List SOp := [⟨0, .p (.mov), [.v 4], none, false⟩,
      ⟨1, .p (.bin .add), [.t 0, .c (.int .i64 1)], none, false⟩,
      ⟨2, .p (.mov), [.t 0], none, false⟩]
noncomputable def c42_l13 : CCode := (.seq (.rcond c42_r3 [] 0
    .skip
    (.exit 0)) (.seq (.block 1 (.seq (.reg c42_r4 [(5, 0)]) (.seq (.rcond c42_r5 [] 0
    (.reg c42_r6 [(5, 0)])
    .skip) (.seq (.rcond c42_r7 [] 0
    (.reg c42_r8 [(5, 0)])
    .skip) (.seq (.rcond c42_r9 [] 0
    (.seq (.reg c42_r10 [(2, 0)]) .ret)
    .skip) (.reg c42_r11 [(3, 0)])))))) (.reg c42_r12 [(4, 0)])))
noncomputable def c42_r14 : List SOp := [⟨0, .p (.mov), [.v 3], none, false⟩,
      ⟨1, .p (.mov), [.t 0], none, false⟩]
noncomputable def c42 : CFn := { nargs := 2, vars := [0, 1, 4, 5, 6, 7], results := [.var 2], body := (.seq (.reg c42_r0 [(2, 0)]) (.seq (.reg c42_r1 [(3, 0)]) (.seq (.seq (.reg c42_r2 [(4, 0)]) (.block 0 (.loop c42_l13))) (.seq (.reg c42_r14 [(2, 0)]) .ret)))) }

/-- headstock/token.part · variables 0:c, 2: -/
noncomputable def c43_r0 : List SOp := [⟨0, .p (.mov), [.c (.bool false)], none, false⟩]
noncomputable def c43_r1 : List SOp := [⟨0, .p (.mov), [.v 0], none, false⟩,
      ⟨1, .p (.bin .geq), [.t 0, .c (.int .u8 97)], none, false⟩,
      ⟨2, .p (.mov), [.t 0], none, false⟩,
      ⟨3, .p (.mov), [.v 0], some (0, true), false⟩,
      ⟨4, .p (.bin .leq), [.t 0, .c (.int .u8 122)], some (1, true), false⟩,
      ⟨5, .p (.pick), [.t 2, .t 0, .c (.bool false)], none, false⟩,
      ⟨6, .p (.mov), [.t 0], none, false⟩,
      ⟨7, .p (.mov), [.v 0], some (0, false), false⟩,
      ⟨8, .p (.bin .geq), [.t 0, .c (.int .u8 65)], some (1, false), false⟩,
      ⟨9, .p (.mov), [.t 0], some (2, false), false⟩,
      ⟨10, .p (.mov), [.v 0], some (0, true), false⟩,
      ⟨11, .p (.bin .leq), [.t 0, .c (.int .u8 90)], some (1, true), false⟩,
      ⟨12, .p (.pick), [.t 2, .t 0, .c (.bool false)], some (5, false), false⟩,
      ⟨13, .p (.pick), [.t 6, .c (.bool true), .t 0], none, false⟩,
      ⟨14, .p (.mov), [.t 0], none, false⟩,
      ⟨15, .p (.mov), [.v 0], some (0, false), false⟩,
      ⟨16, .p (.bin .eql), [.t 0, .c (.int .u8 95)], some (1, false), false⟩,
      ⟨17, .p (.pick), [.t 2, .c (.bool true), .t 0], none, false⟩,
      ⟨18, .p (.mov), [.t 0], none, false⟩,
      ⟨19, .p (.mov), [.v 0], some (0, false), false⟩,
      ⟨20, .p (.bin .geq), [.t 0, .c (.int .u8 48)], some (1, false), false⟩,
      ⟨21, .p (.mov), [.t 0], some (2, false), false⟩,
      ⟨22, .p (.mov), [.v 0], some (0, true), false⟩,
      ⟨23, .p (.bin .leq), [.t 0, .c (.int .u8 57)], some (1, true), false⟩,
      ⟨24, .p (.pick), [.t 2, .t 0, .c (.bool false)], some (5, false), false⟩,
      ⟨25, .p (.pick), [.t 6, .c (.bool true), .t 0], none, false⟩,
      ⟨26, .p (.mov), [.t 0], none, false⟩]
noncomputable def c43 : CFn := { nargs := 1, vars := [0, 2], results := [.var 1], body := (.seq (.reg c43_r0 [(1, 0)]) (.seq (.reg c43_r1 [(1, 0)]) .ret)) }

/-- slices.Index[[]string,string] · variables 0:s, 1:v, 4:, 5:i, 7:, 8:, 9: -/
noncomputable def c44_r0 : List SOp := [⟨0, .p (.mov), [.c (.int .i64 0)], none, false⟩]
noncomputable def c44_r1 : List SOp := [⟨0, .p (.mov), [.v 0], none, false⟩,
      ⟨1, .p (.lenS), [.t 0], none, false⟩,
      ⟨2, .p (.mov), [.c (.int .i64 0)], none, false⟩]
noncomputable def c44_r2 : List SOp := [⟨0, .p (.bin .lss), [.v 5, .v 4], none, false⟩]
noncomputable def c44_r3 : List SOp := [⟨0, .p (.mov), [.v 5], none, false⟩,
      ⟨1, .p (.mov), [.t 0], none, false⟩]
noncomputable def c44_r4 : List SOp := [⟨0, .p (.mov), [.v 1], none, false⟩,
      ⟨1, .p (.mov), [.v 0], none, false⟩,
      ⟨2, .p (.mov), [.v 3], none, false⟩,
      ⟨3, .p (.idxAddrS 1), [.t 1, .t 0], none, false⟩,
      ⟨4, .r (.load false 1), [.t 0], none, false⟩,
      ⟨5, .p (.bin .eql), [.t 4, .t 0], none, false⟩]
noncomputable def c44_r5 : List SOp := [⟨0, .p (.mov), [.v 3], none, false⟩,
      ⟨1, .p (.mov), [.t 0], none, false⟩]
noncomputable def c44_r6 : List SOp := [⟨0, .p (.bin .add), [.v 5, .c (.int .i64 1)], none, false⟩,
      ⟨1, .p (.mov), [.t 0], none, false⟩]
noncomputable def c44_l7 : CCode := (.seq (.reg c44_r2 [(6, 0)]) (.seq (.cond (.v 6) .skip (.exit 0)) (.seq (.block 1 (.seq (.reg c44_r3 [(3, 0)]) (.rcond c44_r4 [] 0
    (.seq (.reg c44_r5 [(2, 0)]) .ret)
    .skip))) (.reg c44_r6 [(5, 0)]))))
noncomputable def c44_r8 : List SOp := [⟨0, .p (.mov), [.c (.int .i64 (-1))], none, false⟩]
noncomputable def c44 : CFn := { nargs := 2, vars := [0, 1, 4, 5, 7, 8, 9], results := [.var 2], body := (.seq (.reg c44_r0 [(2, 0)]) (.seq (.seq (.reg c44_r1 [(4, 1), (5, 0)]) (.block 0 (.loop c44_l7))) (.seq (.reg c44_r8 [(2, 0)]) .ret))) }

/-- strings.TrimLeft · variables 0:s, 1:cutset, 4:, 5:as, 6:ok -/
noncomputable def c45_r0 : List SOp := [⟨0, .p (.mov), [.c (.string ⟨#[]⟩)], none, false⟩]
noncomputable def c45_r1 : List SOp := [⟨0, .p (.mov), [.v 0], none, false⟩,
      ⟨1, .p (.bin .eql), [.t 0, .c (.string ⟨#[]⟩)], none, false⟩,
      ⟨2, .p (.mov), [.t 0], none, false⟩,
      ⟨3, .p (.mov), [.v 1], some (0, false), false⟩,
      ⟨4, .p (.bin .eql), [.t 0, .c (.string ⟨#[]⟩)], some (1, false), false⟩,
      ⟨5, .p (.pick), [.t 2, .c (.bool true), .t 0], none, false⟩]
noncomputable def c45_r2 : List SOp := [⟨0, .p (.mov), [.v 0], none, false⟩,
      ⟨1, .p (.mov), [.t 0], none, false⟩]
noncomputable def c45_r3 : List SOp := [⟨0, .p (.mov), [.v 1], none, false⟩,
      ⟨1, .p (.lenStr), [.t 0], none, false⟩,
      ⟨2, .p (.bin .eql), [.t 0, .c (.int .i64 1)], none, false⟩,
      ⟨3, .p (.mov), [.t 0], none, false⟩,
      ⟨4, .p (.mov), [.v 1], some (0, true), false⟩,
      ⟨5, .p (.idxStr), [.t 0, .c (.int .i64 0)], some (1, true), false⟩,
      ⟨6, .p (.bin .lss), [.t 0, .c (.int .u8 128)], some (2, true), false⟩,
      ⟨7, .p (.pick), [.t 3, .t 0, .c (.bool false)], none, false⟩]
noncomputable def c45_r4 : List SOp := [⟨0, .p (.mov), [.v 0], none, false⟩,
      ⟨1, .p (.mov), [.v 1], none, false⟩,
      ⟨2, .p (.idxStr), [.t 0, .c (.int .i64 0)], none, false⟩,
      ⟨3, .call 57, [.t 2, .t 0], none, false⟩,
      ⟨4, .p (.mov), [.t 0], none, false⟩]
noncomputable def c45_r5 : List SOp := [⟨0, .p (.mov), [.v 1], none, false⟩,
      ⟨1, .call 58, [.t 0], none, false⟩,
      ⟨2, .p (.mov), [.t 0], none, false⟩,
      ⟨3, .p (.extract 0), [.t 0], none, false⟩,
      ⟨4, .p (.extract 1), [.t 1], none, false⟩,
      ⟨5, .a (.new [.bool false, .bool false, .bool false, .bool false, .bool false, .bool false, .bool false, .bool false, .bool false, .bool false, .bool false, .bool false, .bool false, .bool false, .bool false, .bool false, .bool false, .bool false, .bool false, .bool false, .bool false, .bool false, .bool false, .bool false, .bool false, .bool false, .bool false, .bool false, .bool false, .bool false, .bool false, .bool false, .bool false, .bool false, .bool false, .bool false, .bool false, .bool false, .bool false, .bool false, .bool false, .bool false, .bool false, .bool false, .bool false, .bool false, .bool false, .bool false, .bool false, .bool false, .bool false, .bool false, .bool false, .bool false, .bool false, .bool false, .bool false, .bool false, .bool false, .bool false, .bool false, .bool false, .bool false, .bool false, .bool false, .bool false, .bool false, .bool false, .bool false, .bool false, .bool false, .bool false, .bool false, .bool false, .bool false, .bool false, .bool false, .bool false, .bool false, .bool false, .bool false, .bool false, .bool false, .bool false, .bool false, .bool false, .bool false, .bool false, .bool false, .bool false, .bool false, .bool false, .bool false, .bool false, .bool false, .bool false, .bool false, .bool false, .bool false, .bool false, .bool false, .bool false, .bool false, .bool false, .bool false, .bool false, .bool false, .bool false, .bool false, .bool false, .bool false, .bool false, .bool false, .bool false, .bool false, .bool false, .bool false, .bool false, .bool false, .bool false, .bool false, .bool false, .bool false, .bool false, .bool false, .bool false, .bool false, .bool false, .bool false, .bool false, .bool false, .bool false, .bool false, .bool false, .bool false, .bool false, .bool false, .bool false, .bool false, .bool false, .bool false, .bool false, .bool false, .bool false, .bool false, .bool false, .bool false, .bool false, .bool false, .bool false, .bool false, .bool false, .bool false, .bool false, .bool false, .bool false, .bool false, .bool false, .bool false, .bool false, .bool false, .bool false, .bool false, .bool false, .bool false, .bool false, .bool false, .bool false, .bool false, .bool false, .bool false, .bool false, .bool false, .bool false, .bool false, .bool false, .bool false, .bool false, .bool false, .bool false, .bool false, .bool false, .bool false, .bool false, .bool false, .bool false, .bool false, .bool false, .bool false, .bool false, .bool false, .bool false, .bool false, .bool false, .bool false, .bool false, .bool false, .bool false, .bool false, .bool false, .bool false, .bool false, .bool false, .bool false, .bool false, .bool false, .bool false, .bool false, .bool false, .bool false, .bool false, .bool false, .bool false, .bool false, .bool false, .bool false, .bool false, .bool false, .bool false, .bool false, .bool false, .bool false, .bool false, .bool false, .bool false, .bool false, .bool false, .bool false, .bool false, .bool false, .bool false, .bool false, .bool false, .bool false, .bool false, .bool false, .bool false, .bool false, .bool false, .bool false, .bool false, .bool false, .bool false, .bool false, .bool false, .bool false, .bool false, .bool false, .bool false, .bool false, .bool false, .bool false, .bool false, .bool false, .bool false, .bool false]), [], none, false⟩,
      ⟨6, .w (.store 256), [.t 0, .t 2], none, false⟩,
      ⟨7, .p (.mov), [.t 2], none, false⟩]
noncomputable def c45_r6 : List SOp := [⟨0, .p (.mov), [.v 4], none, false⟩]
noncomputable def c45_r7 : List SOp := [⟨0, .p (.mov), [.v 0], none, false⟩,
      ⟨1, .call 59, [.t 0, .v 3], none, false⟩,
      ⟨2, .p (.mov), [.t 0], none, false⟩]
noncomputable def c45_r8 : List SOp := [⟨0, .p (.mov), [.v 0], none, false⟩,
      ⟨1, .p (.mov), [.v 1], none, false⟩,
      ⟨2, .call 60, [.t 1, .t 0], none, false⟩,
      ⟨3, .p (.mov), [.t 0], none, false⟩]
noncomputable def c45 : CFn := { nargs := 2, vars := [0, 1, 4, 5, 6], results := [.var 2], body := (.seq (.reg c45_r0 [(2, 0)]) (.seq (.rcond c45_r1 [] 0
    (.seq (.reg c45_r2 [(2, 0)]) .ret)
    .skip) (.seq (.rcond c45_r3 [] 0
    (.seq (.reg c45_r4 [(2, 0)]) .ret)
    .skip) (.seq (.seq (.reg c45_r5 [(3, 2), (4, 0)]) (.rcond c45_r6 [] 0
    (.seq (.reg c45_r7 [(2, 0)]) .ret)
    .skip)) (.seq (.reg c45_r8 [(2, 0)]) .ret))))) }

/-- strings.IndexByte · variables 0:s, 1:c, 4: -/
noncomputable def c46_r0 : List SOp := [⟨0, .p (.mov), [.c (.int .i64 0)], none, false⟩]
noncomputable def c46_r1 : List SOp := [⟨0, .p (.mov), [.v 0], none, false⟩,
      ⟨1, .p (.mov), [.v 1], none, false⟩,
      ⟨2, .call 61, [.t 1, .t 0], none, false⟩,
      ⟨3, .p (.mov), [.t 0], none, false⟩]
noncomputable def c46 : CFn := { nargs := 2, vars := [0, 1, 4], results := [.var 2], body := (.seq (.reg c46_r0 [(2, 0)]) (.seq (.reg c46_r1 [(2, 0)]) .ret)) }

/-- internal/stringslite.HasPrefix · variables 0:s, 1:prefix, 4: -/
noncomputable def c47_r0 : List SOp := [⟨0, .p (.mov), [.c (.bool false)], none, false⟩]
noncomputable def c47_r1 : List SOp := [⟨0, .p (.mov), [.v 0], none, false⟩,
      ⟨1, .p (.lenStr), [.t 0], none, false⟩,
      ⟨2, .p (.mov), [.v 1], none, false⟩,
      ⟨3, .p (.lenStr), [.t 0], none, false⟩,
      ⟨4, .p (.bin .geq), [.t 2, .t 0], none, false⟩,
      ⟨5, .p (.mov), [.t 0], none, false⟩,
      ⟨6, .p (.mov), [.v 0], some (0, true), false⟩,
      ⟨7, .p (.mov), [.v 1], some (1, true), false⟩,
      ⟨8, .p (.lenStr), [.t 0], some (2, true), false⟩,
      ⟨9, .p (.sliceStr false true), [.t 2, .t 0], some (3, true), false⟩,
      ⟨10, .p (.mov), [.v 1], some (4, true), false⟩,
      ⟨11, .p (.bin .eql), [.t 1, .t 0], some (5, true), false⟩,
      ⟨12, .p (.pick), [.t 6, .t 0, .c (.bool false)], none, false⟩,
      ⟨13, .p (.mov), [.t 0], none, false⟩]
noncomputable def c47 : CFn := { nargs := 2, vars := [0, 1, 4], results := [.var 2], body := (.seq (.reg c47_r0 [(2, 0)]) (.seq (.reg c47_r1 [(2, 0)]) .ret)) }

/-- internal/stringslite.CutPrefix · variables 0:s, 1:prefix, 4:after, 5:found -/
noncomputable def c48_r0 : List SOp := [⟨0, .p (.mov), [.c (.string ⟨#[]⟩)], none, false⟩,
      ⟨1, .p (.mov), [.c (.bool false)], none, false⟩]
noncomputable def c48_r1 : List SOp := [⟨0, .p (.mov), [.v 0], none, false⟩,
      ⟨1, .p (.mov), [.v 1], none, false⟩,
      ⟨2, .call 47, [.t 1, .t 0], none, false⟩,
      ⟨3, .p (.un .not), [.t 0], none, false⟩]
noncomputable def c48_r2 : List SOp := [⟨0, .p (.mov), [.v 0], none, false⟩,
      ⟨1, .p (.mov), [.t 0], none, false⟩,
      ⟨2, .p (.mov), [.c (.bool false)], none, false⟩]
noncomputable def c48_r3 : List SOp := [⟨0, .p (.mov), [.v 0], none, false⟩,
      ⟨1, .p (.mov), [.v 1], none, false⟩,
      ⟨2, .p (.lenStr), [.t 0], none, false⟩,
      ⟨3, .p (.sliceStr true false), [.t 2, .t 0], none, false⟩,
      ⟨4, .p (.mov), [.t 0], none, false⟩,
      ⟨5, .p (.mov), [.c (.bool true)], none, false⟩]
noncomputable def c48 : CFn := { nargs := 2, vars := [0, 1, 4, 5], results := [.var 2, .var 3], body := (.seq (.reg c48_r0 [(2, 1), (3, 0)]) (.seq (.rcond c48_r1 [] 0
    (.seq (.reg c48_r2 [(2, 1), (3, 0)]) .ret)
    .skip) (.seq (.reg c48_r3 [(2, 1), (3, 0)]) .ret))) }

/-- internal/strconv.ParseUint · variables 0:s, 1:base, 2:bitSize, 6:, 7:, 8:base0, 9:s0, 10:cutoff, 11:maxVal, 12:underscores, 13:n, 15:c, 16:d, 17:n1, 85:, 99:, 100:, 101:, 102: -/
noncomputable def c49_r0 : List SOp := [⟨0, .p (.mov), [.c (.int .u64 0)], none, false⟩,
      ⟨1, .p (.mov), [.c (.nilIface)], none, false⟩]
noncomputable def c49_r1 : List SOp := [⟨0, .p (.mov), [.v 0], none, false⟩,
      ⟨1, .p (.bin .eql), [.t 0, .c (.string ⟨#[]⟩)], none, false⟩]
noncomputable def c49_r2 : List SOp := [⟨0, .p (.iface 91), [.c (.int .i64 2)], none, false⟩,
      ⟨1, .p (.mov), [.c (.int .u64 0)], none, false⟩,
      ⟨2, .p (.mov), [.t 1], none, false⟩]
noncomputable def c49_r3 : List SOp := [⟨0, .p (.mov), [.v 1], none, false⟩,
      ⟨1, .p (.bin .eql), [.t 0, .c (.int .i64 0)], none, false⟩,
      ⟨2, .p (.mov), [.t 0], none, false⟩]
noncomputable def c49_r4 : List SOp := [⟨0, .p (.mov), [.v 0], none, false⟩,
      ⟨1, .p (.mov), [.t 0], none, false⟩]
noncomputable def c49_r5 : List SOp := [⟨0, .p (.mov), [.v 1], none, false⟩,
      ⟨1, .p (.bin .leq), [.c (.int .i64 2), .t 0], none, false⟩,
      ⟨2, .p (.mov), [.t 0], none, false⟩,
      ⟨3, .p (.mov), [.v 1], some (0, true), false⟩,
      ⟨4, .p (.bin .leq), [.t 0, .c (.int .i64 36)], some (1, true), false⟩,
      ⟨5, .p (.pick), [.t 2, .t 0, .c (.bool false)], none, false⟩,
      ⟨6, .p (.mov), [.t 0], none, false⟩]
noncomputable def c49_r6 : List SOp := [⟨0, .p (.mov), [.v 1], none, false⟩,
      ⟨1, .p (.bin .eql), [.t 0, .c (.int .i64 0)], none, false⟩,
      ⟨2, .p (.mov), [.t 0], none, false⟩]
noncomputable def c49_r7 : List SOp := [⟨0, .p (.mov), [.c (.int .i64 10)], none, false⟩]
noncomputable def c49_r8 : List SOp := [⟨0, .p (.mov), [.v 0], none, false⟩,
      ⟨1, .p (.idxStr), [.t 0, .c (.int .i64 0)], none, false⟩,
      ⟨2, .p (.bin .eql), [.t 0, .c (.int .u8 48)], none, false⟩]
noncomputable def c49_r9 : List SOp := [⟨0, .p (.mov), [.v 0], none, false⟩,
      ⟨1, .p (.lenStr), [.t 0], none, false⟩,
      ⟨2, .p (.bin .geq), [.t 0, .c (.int .i64 3)], none, false⟩,
      ⟨3, .p (.mov), [.t 0], none, false⟩,
      ⟨4, .p (.mov), [.v 0], some (0, true), false⟩,
      ⟨5, .p (.idxStr), [.t 0, .c (.int .i64 1)], some (1, true), false⟩,
      ⟨6, .call 62, [.t 0], some (2, true), false⟩,
      ⟨7, .p (.bin .eql), [.t 0, .c (.int .u8 98)], some (3, true), false⟩,
      ⟨8, .p (.pick), [.t 4, .t 0, .c (.bool false)], none, false⟩,
      ⟨9, .p (.mov), [.t 0], none, false⟩]
noncomputable def c49_r10 : List SOp := [⟨0, .p (.mov), [.c (.int .i64 2)], none, false⟩]
noncomputable def c49_r11 : List SOp := [⟨0, .p (.mov), [.v 0], none, false⟩,
      ⟨1, .p (.sliceStr true false), [.t 0, .c (.int .i64 2)], none, false⟩,
      ⟨2, .p (.mov), [.t 0], none, false⟩]
noncomputable def c49_r12 : List SOp := [⟨0, .p (.mov), [.v 0], none, false⟩,
      ⟨1, .p (.lenStr), [.t 0], none, false⟩,
      ⟨2, .p (.bin .geq), [.t 0, .c (.int .i64 3)], none, false⟩,
      ⟨3, .p (.mov), [.t 0], none, false⟩,
      ⟨4, .p (.mov), [.v 0], some (0, true), false⟩,
      ⟨5, .p (.idxStr), [.t 0, .c (.int .i64 1)], some (1, true), false⟩,
      ⟨6, .call 62, [.t 0], some (2, true), false⟩,
      ⟨7, .p (.bin .eql), [.t 0, .c (.int .u8 111)], some (3, true), false⟩,
      ⟨8, .p (.pick), [.t 4, .t 0, .c (.bool false)], none, false⟩,
      ⟨9, .p (.mov), [.t 0], none, false⟩]
noncomputable def c49_r13 : List SOp := [⟨0, .p (.mov), [.c (.int .i64 8)], none, false⟩]
noncomputable def c49_r14 : List SOp := [⟨0, .p (.mov), [.v 0], none, false⟩,
      ⟨1, .p (.sliceStr true false), [.t 0, .c (.int .i64 2)], none, false⟩,
      ⟨2, .p (.mov), [.t 0], none, false⟩]
noncomputable def c49_r15 : List SOp := [⟨0, .p (.mov), [.v 0], none, false⟩,
      ⟨1, .p (.lenStr), [.t 0], none, false⟩,
      ⟨2, .p (.bin .geq), [.t 0, .c (.int .i64 3)], none, false⟩,
      ⟨3, .p (.mov), [.t 0], none, false⟩,
      ⟨4, .p (.mov), [.v 0], some (0, true), false⟩,
      ⟨5, .p (.idxStr), [.t 0, .c (.int .i64 1)], some (1, true), false⟩,
      ⟨6, .call 62, [.t 0], some (2, true), false⟩,
      ⟨7, .p (.bin .eql), [.t 0, .c (.int .u8 120)], some (3, true), false⟩,
      ⟨8, .p (.pick), [.t 4, .t 0, .c (.bool false)], none, false⟩,
      ⟨9, .p (.mov), [.t 0], none, false⟩]
noncomputable def c49_r16 : List SOp := [⟨0, .p (.mov), [.c (.int .i64 16)], none, false⟩]
noncomputable def c49_r17 : List SOp := [⟨0, .p (.mov), [.v 0], none, false⟩,
      ⟨1, .p (.sliceStr true false), [.t 0, .c (.int .i64 2)], none, false⟩,
      ⟨2, .p (.mov), [.t 0], none, false⟩]
noncomputable def c49_r18 : List SOp := [⟨0, .p (.mov), [.c (.int .i64 8)], none, false⟩]
noncomputable def c49_r19 : List SOp := [⟨0, .p (.mov), [.v 0], none, false⟩,
      ⟨1, .p (.sliceStr true false), [.t 0, .c (.int .i64 1)], none, false⟩,
      ⟨2, .p (.mov), [.t 0], none, false⟩]
noncomputable def c49_r20 : List SOp := [⟨0, .p (.iface 91), [.c (.int .i64 3)], none, false⟩,
      ⟨1, .p (.mov), [.c (.int .u64 0)], none, false⟩,
      ⟨2, .p (.mov), [.t 1], none, false⟩]
noncomputable def c49_r21 : List SOp := [⟨0, .p (.mov), [.v 2], none, false⟩,
      ⟨1, .p (.bin .eql), [.t 0, .c (.int .i64 0)], none, false⟩]
noncomputable def c49_r22 : List SOp := [⟨0, .p (.mov), [.c (.int .i64 64)], none, false⟩]
noncomputable def c49_r23 : List SOp := [⟨0, .p (.mov), [.v 2], none, false⟩,
      ⟨1, .p (.bin .lss), [.t 0, .c (.int .i64 0)], none, false⟩,
      ⟨2, .p (.mov), [.t 0], none, false⟩,
      ⟨3, .p (.mov), [.v 2], some (0, false), false⟩,
      ⟨4, .p (.bin .gtr), [.t 0, .c (.int .i64 64)], some (1, false), false⟩,
      ⟨5, .p (.pick), [.t 2, .c (.bool true), .t 0], none, false⟩]
noncomputable def c49_r24 : List SOp := [⟨0, .p (.iface 91), [.c (.int .i64 4)], none, false⟩,
      ⟨1, .p (.mov), [.c (.int .u64 0)], none, false⟩,
      ⟨2, .p (.mov), [.t 1], none, false⟩]
noncomputable def c49_r25 : List SOp := [⟨0, .p (.mov), [.c (.int .u64 0)], none, false⟩]
noncomputable def c49_r26 : List SOp := [⟨0, .p (.mov), [.v 1], none, false⟩]
noncomputable def c49_r27 : List SOp := [⟨0, .p (.bin .eql), [.v 14, .c (.int .i64 10)], none, false⟩,
      ⟨1, .p (.mov), [.t 0], none, false⟩]
noncomputable def c49_r28 : List SOp := [⟨0, .p (.mov), [.c (.int .u64 1844674407370955162)], none, false⟩]
noncomputable def c49_r29 : List SOp := [⟨0, .p (.bin .eql), [.v 14, .c (.int .i64 16)], none, false⟩,
      ⟨1, .p (.mov), [.t 0], none, false⟩]
noncomputable def c49_r30 : List SOp := [⟨0, .p (.mov), [.c (.int .u64 1152921504606846976)], none, false⟩]
noncomputable def c49_r31 : List SOp := [⟨0, .p (.mov), [.v 1], none, false⟩,
      ⟨1, .p (.conv .u64), [.t 0], none, false⟩,
      ⟨2, .p (.bin .quo), [.c (.int .u64 18446744073709551615), .t 0], none, false⟩,
      ⟨3, .p (.bin .add), [.t 0, .c (.int .u64 1)], none, false⟩,
      ⟨4, .p (.mov), [.t 0], none, false⟩]
noncomputable def c49_r32 : List SOp := [⟨0, .p (.mov), [.v 2], none, false⟩,
      ⟨1, .p (.conv .u64), [.t 0], none, false⟩,
      ⟨2, .p (.bin .shl), [.c (.int .u64 1), .t 0], none, false⟩,
      ⟨3, .p (.bin .sub), [.t 0, .c (.int .u64 1)], none, false⟩,
      ⟨4, .p (.mov), [.t 0], none, false⟩]
noncomputable def c49_r33 : List SOp := [⟨0, .p (.mov), [.c (.bool false)], none, false⟩]
noncomputable def c49_r34 : List SOp := [⟨0, .p (.mov), [.c (.int .u64 0)], none, false⟩]
noncomputable def c49_r35 : List SOp := [⟨0, .p (.mov), [.v 0], none, false⟩,
      ⟨1, .w .strBytes, [.t 0], none, false⟩,
      ⟨2, .p (.lenS), [.t 0], none, false⟩,
      ⟨3, .p (.mov), [.c (.int .i64 0)], none, false⟩]
noncomputable def c49_r36 : List SOp := [⟨0, .p (.bin .lss), [.v 17, .v 16], none, false⟩]
noncomputable def c49_r37 : List SOp := [⟨0, .p (.idxAddrS 1), [.v 15, .v 17], none, false⟩,
      ⟨1, .r (.load false 1), [.t 0], none, false⟩,
      ⟨2, .p (.mov), [.t 0], none, false⟩]
noncomputable def c49_r38 : List SOp := [⟨0, .p (.mov), [.c (.int .u8 0)], none, false⟩]
noncomputable def c49_r39 : List SOp := [⟨0, .p (.mov), [.v 11], none, false⟩,
      ⟨1, .p (.bin .eql), [.t 0, .c (.int .u8 95)], none, false⟩,
      ⟨2, .p (.mov), [.t 0], none, false⟩,
      ⟨3, .p (.mov), [.v 5], some (0, true), false⟩,
      ⟨4, .p (.pick), [.t 1, .t 0, .c (.bool false)], none, false⟩,
      ⟨5, .p (.mov), [.t 0], none, false⟩]
noncomputable def c49_r40 : List SOp := [⟨0, .p (.mov), [.c (.bool true)], none, false⟩]
noncomputable def c49_r41 : List SOp := [⟨0, .p (.mov), [.v 11], none, false⟩,
      ⟨1, .p (.bin .leq), [.c (.int .u8 48), .t 0], none, false⟩,
      ⟨2, .p (.mov), [.t 0], none, false⟩,
      ⟨3, .p (.mov), [.v 11], some (0, true), false⟩,
      ⟨4, .p (.bin .leq), [.t 0, .c (.int .u8 57)], some (1, true), false⟩,
      ⟨5, .p (.pick), [.t 2, .t 0, .c (.bool false)], none, false⟩,
      ⟨6, .p (.mov), [.t 0], none, false⟩]
noncomputable def c49_r42 : List SOp := [⟨0, .p (.mov), [.v 11], none, false⟩,
      ⟨1, .p (.bin .sub), [.t 0, .c (.int .u8 48)], none, false⟩,
      ⟨2, .p (.mov), [.t 0], none, false⟩]
noncomputable def c49_r43 : List SOp := [⟨0, .p (.mov), [.v 11], none, false⟩,
      ⟨1, .call 62, [.t 0], none, false⟩,
      ⟨2, .p (.bin .leq), [.c (.int .u8 97), .t 0], none, false⟩,
      ⟨3, .p (.mov), [.t 0], none, false⟩,
      ⟨4, .p (.mov), [.v 11], some (0, true), false⟩,
      ⟨5, .call 62, [.t 0], some (1, true), false⟩,
      ⟨6, .p (.bin .leq), [.t 0, .c (.int .u8 122)], some (2, true), false⟩,
      ⟨7, .p (.pick), [.t 3, .t 0, .c (.bool false)], none, false⟩,
      ⟨8, .p (.mov), [.t 0], none, false⟩]
noncomputable def c49_r44 : List SOp := [⟨0, .p (.mov), [.v 11], none, false⟩,
      ⟨1, .call 62, [.t 0], none, false⟩,
      ⟨2, .p (.bin .sub), [.t 0, .c (.int .u8 97)], none, false⟩,
      ⟨3, .p (.bin .add), [.t 0, .c (.int .u8 10)], none, false⟩,
      ⟨4, .p (.mov), [.t 0], none, false⟩]
noncomputable def c49_r45 : List SOp := [⟨0, .p (.iface 91), [.c (.int .i64 2)], none, false⟩,
      ⟨1, .p (.mov), [.c (.int .u64 0)], none, false⟩,
      ⟨2, .p (.mov), [.t 1], none, false⟩]
noncomputable def c49_r46 : List SOp := [⟨0, .p (.mov), [.v 12], none, false⟩,
      ⟨1, .p (.mov), [.v 1], none, false⟩,
      ⟨2, .p (.conv .u8), [.t 0], none, false⟩,
      ⟨3, .p (.bin .geq), [.t 2, .t 0], none, false⟩]
noncomputable def c49_r47 : List SOp := [⟨0, .p (.iface 91), [.c (.int .i64 2)], none, false⟩,
      ⟨1, .p (.mov), [.c (.int .u64 0)], none, false⟩,
      ⟨2, .p (.mov), [.t 1], none, false⟩]
noncomputable def c49_r48 : List SOp := [⟨0, .p (.mov), [.v 10], none, false⟩,
      ⟨1, .p (.mov), [.v 7], none, false⟩,
      ⟨2, .p (.bin .geq), [.t 1, .t 0], none, false⟩]
noncomputable def c49_r49 : List SOp := [⟨0, .p (.mov), [.v 8], none, false⟩,
      ⟨1, .p (.iface 91), [.c (.int .i64 1)], none, false⟩,
      ⟨2, .p (.mov), [.t 1], none, false⟩,
      ⟨3, .p (.mov), [.t 1], none, false⟩]
noncomputable def c49_r50 : List SOp := [⟨0, .p (.mov), [.v 10], none, false⟩,
      ⟨1, .p (.mov), [.v 1], none, false⟩,
      ⟨2, .p (.conv .u64), [.t 0], none, false⟩,
      ⟨3, .p (.bin .mul), [.t 2, .t 0], none, false⟩,
      ⟨4, .p (.mov), [.t 0], none, false⟩]
noncomputable def c49_r51 : List SOp := [⟨0, .p (.mov), [.v 10], none, false⟩,
      ⟨1, .p (.mov), [.v 12], none, false⟩,
      ⟨2, .p (.conv .u64), [.t 0], none, false⟩,
      ⟨3, .p (.bin .add), [.t 2, .t 0], none, false⟩,
      ⟨4, .p (.mov), [.t 0], none, false⟩]
noncomputable def c49_r52 : List SOp := [⟨0, .p (.mov), [.v 13], none, false⟩,
      ⟨1, .p (.mov), [.v 10], none, false⟩,
      ⟨2, .p (.bin .lss), [.t 1, .t 0], none, false⟩,
      ⟨3, .p (.mov), [.t 0], none, false⟩,
      ⟨4, .p (.mov), [.v 13], some (0, false), false⟩,
      ⟨5, .p (.mov), [.v 8], some (1, false), false⟩,
      ⟨6, .p (.bin .gtr), [.t 1, .t 0], some (2, false), false⟩,
      ⟨7, .p (.pick), [.t 3, .c (.bool true), .t 0], none, false⟩]
noncomputable def c49_r53 : List SOp := [⟨0, .p (.mov), [.v 8], none, false⟩,
      ⟨1, .p (.iface 91), [.c (.int .i64 1)], none, false⟩,
      ⟨2, .p (.mov), [.t 1], none, false⟩,
      ⟨3, .p (.mov), [.t 1], none, false⟩]
noncomputable def c49_r54 : List SOp := [⟨0, .p (.mov), [.v 13], none, false⟩,
      ⟨1, .p (.mov), [.t 0], none, false⟩]
noncomputable def c49_r55 : List SOp := [⟨0, .p (.bin .add), [.v 17, .c (.int .i64 1)], none, false⟩,
      ⟨1, .p (.mov), [.t 0], none, false⟩]
noncomputable def c49_l56 : CCode := (.seq (.reg c49_r36 [(18, 0)]) (.seq (.cond (.v 18) .skip (.exit 3)) (.seq (.block 4 (.seq (.reg c49_r37 [(11, 0)]) (.seq (.reg c49_r38 [(12, 0)]) (.seq (.block 5 (.rcond c49_r39 [] 0
    (.seq (.reg c49_r40 [(9, 0)]) (.exit 4))
    (.rcond c49_r41 [] 0
    (.reg c49_r42 [(12, 0)])
    (.rcond c49_r43 [] 0
    (.reg c49_r44 [(12, 0)])
    (.seq (.reg c49_r45 [(3, 1), (4, 0)]) .ret))))) (.seq (.rcond c49_r46 [] 0
    (.seq (.reg c49_r47 [(3, 1), (4, 0)]) .ret)
    .skip) (.seq (.rcond c49_r48 [] 0
    (.seq (.reg c49_r49 [(3, 1), (4, 0)]) .ret)
    .skip) (.seq (.reg c49_r50 [(10, 0)]) (.seq (.reg c49_r51 [(13, 0)]) (.seq (.rcond c49_r52 [] 0
    (.seq (.reg c49_r53 [(3, 1), (4, 0)]) .ret)
    .skip) (.reg c49_r54 [(10, 0)])))))))))) (.reg c49_r55 [(17, 0)]))))
noncomputable def c49_r57 : List SOp := [⟨0, .p (.mov), [.v 9], none, false⟩,
      ⟨1, .p (.mov), [.t 0], none, false⟩,
      ⟨2, .p (.mov), [.v 6], some (0, true), false⟩,
      ⟨3, .call 63, [.t 0], some (1, true), false⟩,
      ⟨4, .p (.un .not), [.t 0], some (2, true), false⟩,
      ⟨5, .p (.pick), [.t 3, .t 0, .c (.bool false)], none, false⟩]
noncomputable def c49_r58 : List SOp := [⟨0, .p (.iface 91), [.c (.int .i64 2)], none, false⟩,
      ⟨1, .p (.mov), [.c (.int .u64 0)], none, false⟩,
      ⟨2, .p (.mov), [.t 1], none, false⟩]
noncomputable def c49_r59 : List SOp := [⟨0, .p (.mov), [.v 10], none, false⟩,
      ⟨1, .p (.mov), [.t 0], none, false⟩,
      ⟨2, .p (.mov), [.c (.nilIface)], none, false⟩]
noncomputable def c49 : CFn := { nargs := 3, vars := [0, 1, 2, 6, 7, 8, 9, 10, 11, 12, 13, 15, 16, 17, 85, 99, 100, 101, 102], results := [.var 3, .var 4], body := (.seq (.reg c49_r0 [(3, 1), (4, 0)]) (.seq (.rcond c49_r1 [] 0
    (.seq (.reg c49_r2 [(3, 1), (4, 0)]) .ret)
    .skip) (.seq (.reg c49_r3 [(5, 0)]) (.seq (.reg c49_r4 [(6, 0)]) (.seq (.block 0 (.rcond c49_r5 [] 0
    .skip
    (.rcond c49_r6 [] 0
    (.seq (.reg c49_r7 [(1, 0)]) (.rcond c49_r8 [] 0
    (.block 1 (.rcond c49_r9 [] 0
    (.seq (.reg c49_r10 [(1, 0)]) (.reg c49_r11 [(0, 0)]))
    (.rcond c49_r12 [] 0
    (.seq (.reg c49_r13 [(1, 0)]) (.reg c49_r14 [(0, 0)]))
    (.rcond c49_r15 [] 0
    (.seq (.reg c49_r16 [(1, 0)]) (.reg c49_r17 [(0, 0)]))
    (.seq (.reg c49_r18 [(1, 0)]) (.reg c49_r19 [(0, 0)]))))))
    .skip))
    (.seq (.reg c49_r20 [(3, 1), (4, 0)]) .ret)))) (.seq (.rcond c49_r21 [] 0
    (.reg c49_r22 [(2, 0)])
    (.rcond c49_r23 [] 0
    (.seq (.reg c49_r24 [(3, 1), (4, 0)]) .ret)
    .skip)) (.seq (.reg c49_r25 [(7, 0)]) (.seq (.seq (.reg c49_r26 [(14, 0)]) (.block 2 (.rcond c49_r27 [] 0
    (.reg c49_r28 [(7, 0)])
    (.rcond c49_r29 [] 0
    (.reg c49_r30 [(7, 0)])
    (.reg c49_r31 [(7, 0)]))))) (.seq (.reg c49_r32 [(8, 0)]) (.seq (.reg c49_r33 [(9, 0)]) (.seq (.reg c49_r34 [(10, 0)]) (.seq (.seq (.reg c49_r35 [(15, 2), (16, 1), (17, 0)]) (.block 3 (.loop c49_l56))) (.seq (.rcond c49_r57 [] 0
    (.seq (.reg c49_r58 [(3, 1), (4, 0)]) .ret)
    .skip) (.seq (.reg c49_r59 [(3, 1), (4, 0)]) .ret)))))))))))))) }

/-- strings.makeASCIISet · variables 0:chars, 2:as, 3:ok, 4:i, 5:c -/
noncomputable def c58_r0 : List SOp := [⟨0, .a (.new [.bool false, .bool false, .bool false, .bool false, .bool false, .bool false, .bool false, .bool false, .bool false, .bool false, .bool false, .bool false, .bool false, .bool false, .bool false, .bool false, .bool false, .bool false, .bool false, .bool false, .bool false, .bool false, .bool false, .bool false, .bool false, .bool false, .bool false, .bool false, .bool false, .bool false, .bool false, .bool false, .bool false, .bool false, .bool false, .bool false, .bool false, .bool false, .bool false, .bool false, .bool false, .bool false, .bool false, .bool false, .bool false, .bool false, .bool false, .bool false, .bool false, .bool false, .bool false, .bool false, .bool false, .bool false, .bool false, .bool false, .bool false, .bool false, .bool false, .bool false, .bool false, .bool false, .bool false, .bool false, .bool false, .bool false, .bool false, .bool false, .bool false, .bool false, .bool false, .bool false, .bool false, .bool false, .bool false, .bool false, .bool false, .bool false, .bool false, .bool false, .bool false, .bool false, .bool false, .bool false, .bool false, .bool false, .bool false, .bool false, .bool false, .bool false, .bool false, .bool false, .bool false, .bool false, .bool false, .bool false, .bool false, .bool false, .bool false, .bool false, .bool false, .bool false, .bool false, .bool false, .bool false, .bool false, .bool false, .bool false, .bool false, .bool false, .bool false, .bool false, .bool false, .bool false, .bool false, .bool false, .bool false, .bool false, .bool false, .bool false, .bool false, .bool false, .bool false, .bool false, .bool false, .bool false, .bool false, .bool false, .bool false, .bool false, .bool false, .bool false, .bool false, .bool false, .bool false, .bool false, .bool false, .bool false, .bool false, .bool false, .bool false, .bool false, .bool false, .bool false, .bool false, .bool false, .bool false, .bool false, .bool false, .bool false, .bool false, .bool false, .bool false, .bool false, .bool false, .bool false, .bool false, .bool false, .bool false, .bool false, .bool false, .bool false, .bool false, .bool false, .bool false, .bool false, .bool false, .bool false, .bool false, .bool false, .bool false, .bool false, .bool false, .bool false, .bool false, .bool false, .bool false, .bool false, .bool false, .bool false, .bool false, .bool false, .bool false, .bool false, .bool false, .bool false, .bool false, .bool false, .bool false, .bool false, .bool false, .bool false, .bool false, .bool false, .bool false, .bool false, .bool false, .bool false, .bool false, .bool false, .bool false, .bool false, .bool false, .bool false, .bool false, .bool false, .bool false, .bool false, .bool false, .bool false, .bool false, .bool false, .bool false, .bool false, .bool false, .bool false, .bool false, .bool false, .bool false, .bool false, .bool false, .bool false, .bool false, .bool false, .bool false, .bool false, .bool false, .bool false, .bool false, .bool false, .bool false, .bool false, .bool false, .bool false, .bool false, .bool false, .bool false, .bool false, .bool false, .bool false, .bool false, .bool false, .bool false, .bool false, .bool false, .bool false, .bool false, .bool false, .bool false, .bool false, .bool false, .bool false, .bool false, .bool false, .bool false, .bool false]), [], none, false⟩,
      ⟨1, .p (.mov), [.c (.bool false)], none, false⟩]
noncomputable def c58_r1 : List SOp := [⟨0, .p (.mov), [.c (.int .i64 0)], none, false⟩]
noncomputable def c58_r2 : List SOp := [⟨0, .p (.mov), [.v 3], none, false⟩,
      ⟨1, .p (.mov), [.v 0], none, false⟩,
      ⟨2, .p (.lenStr), [.t 0], none, false⟩,
      ⟨3, .p (.bin .lss), [.t 2, .t 0], none, false⟩]
noncomputable def c58_r3 : List SOp := [⟨0, .p (.mov), [.v 0], none, false⟩,
      ⟨1, .p (.mov), [.v 3], none, false⟩,
      ⟨2, .p (.idxStr), [.t 1, .t 0], none, false⟩,
      ⟨3, .p (.mov), [.t 0], none, false⟩]
noncomputable def c58_r4 : List SOp := [⟨0, .p (.mov), [.v 4], none, false⟩,
      ⟨1, .p (.bin .geq), [.t 0, .c (.int .u8 128)], none, false⟩]
noncomputable def c58_r5 : List SOp := [⟨0, .r (.load true 256), [.v 1], none, false⟩,
      ⟨1, .w (.store 256), [.v 1, .t 0], none, false⟩,
      ⟨2, .p (.mov), [.c (.bool false)], none, false⟩]
noncomputable def c58_r6 : List SOp := [⟨0, .p (.mov), [.v 4], none, false⟩,
      ⟨1, .p (.idxAddrA 256 1), [.v 1, .t 0], none, false⟩,
      ⟨2, .w (.store 1), [.t 0, .c (.bool true)], none, false⟩]
noncomputable def c58_r7 : List SOp := [⟨0, .p (.mov), [.v 3], none, false⟩,
      ⟨1, .p (.bin .add), [.t 0, .c (.int .i64 1)], none, false⟩,
      ⟨2, .p (.mov), [.t 0], none, false⟩]
noncomputable def c58_l8 : CCode := (.seq (.rcond c58_r2 [] 0
    .skip
    (.exit 0)) (.seq (.block 1 (.seq (.reg c58_r3 [(4, 0)]) (.seq (.rcond c58_r4 [] 0
    (.seq (.reg c58_r5 [(2, 0)]) .ret)
    .skip) (.reg c58_r6 [])))) (.reg c58_r7 [(3, 0)])))
noncomputable def c58_r9 : List SOp := [⟨0, .r (.load true 256), [.v 1], none, false⟩,
      ⟨1, .w (.store 256), [.v 1, .t 0], none, false⟩,
      ⟨2, .p (.mov), [.c (.bool true)], none, false⟩]
noncomputable def c58 : CFn := { nargs := 1, vars := [0, 2, 3, 4, 5], results := [.cell 1 true 256, .var 2], body := (.seq (.reg c58_r0 [(1, 1), (2, 0)]) (.seq (.seq (.reg c58_r1 [(3, 0)]) (.block 0 (.loop c58_l8))) (.seq (.reg c58_r9 [(2, 0)]) .ret))) }

/-- strings.trimLeftASCII · variables 0:s, 1:as, 4: -/
noncomputable def c59_r0 : List SOp := [⟨0, .p (.mov), [.c (.string ⟨#[]⟩)], none, false⟩]
noncomputable def c59_r1 : List SOp := [⟨0, .p (.mov), [.v 0], none, false⟩,
      ⟨1, .p (.lenStr), [.t 0], none, false⟩,
      ⟨2, .p (.bin .gtr), [.t 0, .c (.int .i64 0)], none, false⟩]
noncomputable def c59_r2 : List SOp := [⟨0, .p (.mov), [.v 1], none, false⟩,
      ⟨1, .p (.mov), [.v 0], none, false⟩,
      ⟨2, .p (.idxStr), [.t 0, .c (.int .i64 0)], none, false⟩,
      ⟨3, .call 75, [.t 2, .t 0], none, false⟩,
      ⟨4, .p (.un .not), [.t 0], none, false⟩]
noncomputable def c59_r3 : List SOp := [⟨0, .p (.mov), [.v 0], none, false⟩,
      ⟨1, .p (.sliceStr true false), [.t 0, .c (.int .i64 1)], none, false⟩,
      ⟨2, .p (.mov), [.t 0], none, false⟩]
noncomputable def c59_l4 : CCode := (.seq (.rcond c59_r1 [] 0
    .skip
    (.exit 0)) (.block 1 (.seq (.rcond c59_r2 [] 0
    (.exit 0)
    .skip) (.reg c59_r3 [(0, 0)]))))
noncomputable def c59_r5 : List SOp := [⟨0, .p (.mov), [.v 0], none, false⟩,
      ⟨1, .p (.mov), [.t 0], none, false⟩]
noncomputable def c59 : CFn := { nargs := 2, vars := [0, 1, 4], results := [.var 2], body := (.seq (.reg c59_r0 [(2, 0)]) (.seq (.block 0 (.loop c59_l4)) (.seq (.reg c59_r5 [(2, 0)]) .ret))) }

/-- internal/stringslite.IndexByte · variables 0:s, 1:c, 4: -/
noncomputable def c61_r0 : List SOp := [⟨0, .p (.mov), [.c (.int .i64 0)], none, false⟩]
noncomputable def c61_r1 : List SOp := [⟨0, .p (.mov), [.v 0], none, false⟩,
      ⟨1, .p (.mov), [.v 1], none, false⟩,
      ⟨2, .p (.idxByte), [.t 1, .t 0], none, false⟩,
      ⟨3, .p (.mov), [.t 0], none, false⟩]
noncomputable def c61 : CFn := { nargs := 2, vars := [0, 1, 4], results := [.var 2], body := (.seq (.reg c61_r0 [(2, 0)]) (.seq (.reg c61_r1 [(2, 0)]) .ret)) }

/-- internal/strconv.lower · variables 0:c, 2: -/
noncomputable def c62_r0 : List SOp := [⟨0, .p (.mov), [.c (.int .u8 0)], none, false⟩]
noncomputable def c62_r1 : List SOp := [⟨0, .p (.mov), [.v 0], none, false⟩,
      ⟨1, .p (.bin .or), [.t 0, .c (.int .u8 32)], none, false⟩,
      ⟨2, .p (.mov), [.t 0], none, false⟩]
noncomputable def c62 : CFn := { nargs := 1, vars := [0, 2], results := [.var 1], body := (.seq (.reg c62_r0 [(1, 0)]) (.seq (.reg c62_r1 [(1, 0)]) .ret)) }

/-- internal/strconv.underscoreOK · variables 0:s, 2:, 3:saw, 4:i, 5:hex -/
noncomputable def c63_r0 : List SOp := [⟨0, .p (.mov), [.c (.bool false)], none, false⟩]
noncomputable def c63_r1 : List SOp := [⟨0, .p (.mov), [.c (.int .i32 94)], none, false⟩]
noncomputable def c63_r2 : List SOp := [⟨0, .p (.mov), [.c (.int .i64 0)], none, false⟩]
noncomputable def c63_r3 : List SOp := [⟨0, .p (.mov), [.v 0], none, false⟩,
      ⟨1, .p (.lenStr), [.t 0], none, false⟩,
      ⟨2, .p (.bin .geq), [.t 0, .c (.int .i64 1)], none, false⟩,
      ⟨3, .p (.mov), [.t 0], none, false⟩,
      ⟨4, .p (.mov), [.v 0], some (0, true), false⟩,
      ⟨5, .p (.idxStr), [.t 0, .c (.int .i64 0)], some (1, true), false⟩,
      ⟨6, .p (.bin .eql), [.t 0, .c (.int .u8 45)], some (2, true), false⟩,
      ⟨7, .p (.mov), [.t 0], some (3, true), false⟩,
      ⟨8, .p (.mov), [.v 0], some (0, false), false⟩,
      ⟨9, .p (.idxStr), [.t 0, .c (.int .i64 0)], some (1, false), false⟩,
      ⟨10, .p (.bin .eql), [.t 0, .c (.int .u8 43)], some (2, false), false⟩,
      ⟨11, .p (.pick), [.t 3, .c (.bool true), .t 0], some (7, true), false⟩,
      ⟨12, .p (.pick), [.t 8, .t 0, .c (.bool false)], none, false⟩]
noncomputable def c63_r4 : List SOp := [⟨0, .p (.mov), [.v 0], none, false⟩,
      ⟨1, .p (.sliceStr true false), [.t 0, .c (.int .i64 1)], none, false⟩,
      ⟨2, .p (.mov), [.t 0], none, false⟩]
noncomputable def c63_r5 : List SOp := [⟨0, .p (.mov), [.c (.bool false)], none, false⟩]
noncomputable def c63_r6 : List SOp := [⟨0, .p (.mov), [.v 0], none, false⟩,
      ⟨1, .p (.lenStr), [.t 0], none, false⟩,
      ⟨2, .p (.bin .geq), [.t 0, .c (.int .i64 2)], none, false⟩,
      ⟨3, .p (.mov), [.t 0], none, false⟩,
      ⟨4, .p (.mov), [.v 0], some (0, true), false⟩,
      ⟨5, .p (.idxStr), [.t 0, .c (.int .i64 0)], some (1, true), false⟩,
      ⟨6, .p (.bin .eql), [.t 0, .c (.int .u8 48)], some (2, true), false⟩,
      ⟨7, .p (.pick), [.t 3, .t 0, .c (.bool false)], none, false⟩,
      ⟨8, .p (.mov), [.t 0], none, false⟩,
      ⟨9, .p (.mov), [.v 0], some (0, true), false⟩,
      ⟨10, .p (.idxStr), [.t 0, .c (.int .i64 1)], some (1, true), false⟩,
      ⟨11, .call 62, [.t 0], some (2, true), false⟩,
      ⟨12, .p (.bin .eql), [.t 0, .c (.int .u8 98)], some (3, true), false⟩,
      ⟨13, .p (.mov), [.t 0], some (4, true), false⟩,
      ⟨14, .p (.mov), [.v 0], some (0, false), false⟩,
      ⟨15, .p (.idxStr), [.t 0, .c (.int .i64 1)], some (1, false), false⟩,
      ⟨16, .call 62, [.t 0], some (2, false), false⟩,
      ⟨17, .p (.bin .eql), [.t 0, .c (.int .u8 111)], some (3, false), false⟩,
      ⟨18, .p (.pick), [.t 4, .c (.bool true), .t 0], some (9, true), false⟩,
      ⟨19, .p (.mov), [.t 0], some (10, true), false⟩,
      ⟨20, .p (.mov), [.v 0], some (0, false), false⟩,
      ⟨21, .p (.idxStr), [.t 0, .c (.int .i64 1)], some (1, false), false⟩,
      ⟨22, .call 62, [.t 0], some (2, false), false⟩,
      ⟨23, .p (.bin .eql), [.t 0, .c (.int .u8 120)], some (3, false), false⟩,
      ⟨24, .p (.pick), [.t 4, .c (.bool true), .t 0], some (15, true), false⟩,
      ⟨25, .p (.pick), [.t 16, .t 0, .c (.bool false)], none, false⟩]
noncomputable def c63_r7 : List SOp := [⟨0, .p (.mov), [.c (.int .i64 2)], none, false⟩]
noncomputable def c63_r8 : List SOp := [⟨0, .p (.mov), [.c (.int .i32 48)], none, false⟩]
noncomputable def c63_r9 : List SOp := [⟨0, .p (.mov), [.v 0], none, false⟩,
      ⟨1, .p (.idxStr), [.t 0, .c (.int .i64 1)], none, false⟩,
      ⟨2, .call 62, [.t 0], none, false⟩,
      ⟨3, .p (.bin .eql), [.t 0, .c (.int .u8 120)], none, false⟩,
      ⟨4, .p (.mov), [.t 0], none, false⟩]
noncomputable def c63_r10 : List SOp := [⟨0, .p (.mov), [.v 3], none, false⟩,
      ⟨1, .p (.mov), [.v 0], none, false⟩,
      ⟨2, .p (.lenStr), [.t 0], none, false⟩,
      ⟨3, .p (.bin .lss), [.t 2, .t 0], none, false⟩]
noncomputable def c63_r11 : List SOp := [⟨0, .p (.mov), [.v 0], none, false⟩,
      ⟨1, .p (.mov), [.v 3], none, false⟩,
      ⟨2, .p (.idxStr), [.t 1, .t 0], none, false⟩,
      ⟨3, .p (.bin .leq), [.c (.int .u8 48), .t 0], none, false⟩,
      ⟨4, .p (.mov), [.t 0], none, false⟩,
      ⟨5, .p (.mov), [.v 0], some (0, true), false⟩,
      ⟨6, .p (.mov), [.v 3], some (1, true), false⟩,
      ⟨7, .p (.idxStr), [.t 1, .t 0], some (2, true), false⟩,
      ⟨8, .p (.bin .leq), [.t 0, .c (.int .u8 57)], some (3, true), false⟩,
      ⟨9, .p (.pick), [.t 4, .t 0, .c (.bool false)], none, false⟩,
      ⟨10, .p (.mov), [.t 0], none, false⟩,
      ⟨11, .p (.mov), [.v 4], some (0, false), false⟩,
      ⟨12, .p (.mov), [.t 0], some (1, false), false⟩,
      ⟨13, .p (.mov), [.v 0], some (0, true), false⟩,
      ⟨14, .p (.mov), [.v 3], some (1, true), false⟩,
      ⟨15, .p (.idxStr), [.t 1, .t 0], some (2, true), false⟩,
      ⟨16, .call 62, [.t 0], some (3, true), false⟩,
      ⟨17, .p (.bin .leq), [.c (.int .u8 97), .t 0], some (4, true), false⟩,
      ⟨18, .p (.pick), [.t 5, .t 0, .c (.bool false)], some (7, false), false⟩,
      ⟨19, .p (.mov), [.t 0], some (8, false), false⟩,
      ⟨20, .p (.mov), [.v 0], some (0, true), false⟩,
      ⟨21, .p (.mov), [.v 3], some (1, true), false⟩,
      ⟨22, .p (.idxStr), [.t 1, .t 0], some (2, true), false⟩,
      ⟨23, .call 62, [.t 0], some (3, true), false⟩,
      ⟨24, .p (.bin .leq), [.t 0, .c (.int .u8 102)], some (4, true), false⟩,
      ⟨25, .p (.pick), [.t 5, .t 0, .c (.bool false)], some (14, false), false⟩,
      ⟨26, .p (.pick), [.t 15, .c (.bool true), .t 0], none, false⟩]
noncomputable def c63_r12 : List SOp := [⟨0, .p (.mov), [.c (.int .i32 48)], none, false⟩]
noncomputable def c63_r13 : List SOp := [⟨0, .p (.mov), [.v 0], none, false⟩,
      ⟨1, .p (.mov), [.v 3], none, false⟩,
      ⟨2, .p (.idxStr), [.t 1, .t 0], none, false⟩,
      ⟨3, .p (.bin .eql), [.t 0, .c (.int .u8 95)], none, false⟩]
noncomputable def c63_r14 : List SOp := [⟨0, .p (.mov), [.v 2], none, false⟩,
      ⟨1, .p (.bin .neq), [.t 0, .c (.int .i32 48)], none, false⟩]
noncomputable def c63_r15 : List SOp := [⟨0, .p (.mov), [.c (.bool false)], none, false⟩]
noncomputable def c63_r16 : List SOp := [⟨0, .p (.mov), [.c (.int .i32 95)], none, false⟩]
noncomputable def c63_r17 : List SOp := [⟨0, .p (.mov), [.v 2], none, false⟩,
      ⟨1, .p (.bin .eql), [.t 0, .c (.int .i32 95)], none, false⟩]
noncomputable def c63_r18 : List SOp := [⟨0, .p (.mov), [.c (.bool false)], none, false⟩]
noncomputable def c63_r19 : List SOp := [⟨0, .p (.mov), [.c (.int .i32 33)], none, false⟩]
noncomputable def c63_r20 : List SOp := [⟨0, .p (.mov), [.v 3], none, false⟩,
      ⟨1, .p (.bin .add), [.t 0, .c (.int .i64 1)], none, false⟩,
      ⟨2, .p (.mov), [.t 0], none, false⟩]
noncomputable def c63_l21 : CCode := (.seq (.rcond c63_r10 [] 0
    .skip
    (.exit 0)) (.seq (.block 1 (.seq (.rcond c63_r11 [] 0
    (.seq (.reg c63_r12 [(2, 0)]) (.exit 1))
    .skip) (.seq (.rcond c63_r13 [] 0
    (.seq (.rcond c63_r14 [] 0
    (.seq (.reg c63_r15 [(1, 0)]) .ret)
    .skip) (.seq (.reg c63_r16 [(2, 0)]) (.exit 1)))
    .skip) (.seq (.rcond c63_r17 [] 0
    (.seq (.reg c63_r18 [(1, 0)]) .ret)
    .skip) (.reg c63_r19 [(2, 0)]))))) (.reg c63_r20 [(3, 0)])))
noncomputable def c63_r22 : List SOp := [⟨0, .p (.mov), [.v 2], none, false⟩,
      ⟨1, .p (.bin .neq), [.t 0, .c (.int .i32 95)], none, false⟩,
      ⟨2, .p (.mov), [.t 0], none, false⟩]
noncomputable def c63 : CFn := { nargs := 1, vars := [0, 2, 3, 4, 5], results := [.var 1], body := (.seq (.reg c63_r0 [(1, 0)]) (.seq (.reg c63_r1 [(2, 0)]) (.seq (.reg c63_r2 [(3, 0)]) (.seq (.rcond c63_r3 [] 0
    (.reg c63_r4 [(0, 0)])
    .skip) (.seq (.reg c63_r5 [(4, 0)]) (.seq (.rcond c63_r6 [] 0
    (.seq (.reg c63_r7 [(3, 0)]) (.seq (.reg c63_r8 [(2, 0)]) (.reg c63_r9 [(4, 0)])))
    .skip) (.seq (.block 0 (.loop c63_l21)) (.seq (.reg c63_r22 [(1, 0)]) .ret)))))))) }

/-- (*strings.asciiSet).contains · variables 0:as, 1:c, 4: -/
noncomputable def c75_r0 : List SOp := [⟨0, .p (.mov), [.c (.bool false)], none, false⟩]
noncomputable def c75_r1 : List SOp := [⟨0, .p (.mov), [.v 0], none, false⟩,
      ⟨1, .p (.mov), [.v 1], none, false⟩,
      ⟨2, .p (.nilCheck), [.t 1], none, false⟩,
      ⟨3, .p (.idxAddrA 256 1), [.t 0, .t 1], none, false⟩,
      ⟨4, .r (.load false 1), [.t 0], none, false⟩,
      ⟨5, .p (.mov), [.t 0], none, false⟩]
noncomputable def c75 : CFn := { nargs := 2, vars := [0, 1, 4], results := [.var 2], body := (.seq (.reg c75_r0 [(2, 0)]) (.seq (.reg c75_r1 [(2, 0)]) .ret)) }

theorem ok3 : FnOk Tryd.prog 3 c3 := compF_ok (na := c3.nargs) (vars := c3.vars) (by kernel_rfl)
theorem ok4 : FnOk Tryd.prog 4 c4 := compF_ok (na := c4.nargs) (vars := c4.vars) (by kernel_rfl)
theorem ok5 : FnOk Tryd.prog 5 c5 := compF_ok (na := c5.nargs) (vars := c5.vars) (by kernel_rfl)
theorem ok6 : FnOk Tryd.prog 6 c6 := compF_ok (na := c6.nargs) (vars := c6.vars) (by kernel_rfl)
theorem ok7 : FnOk Tryd.prog 7 c7 := compF_ok (na := c7.nargs) (vars := c7.vars) (by kernel_rfl)
theorem ok8 : FnOk Tryd.prog 8 c8 := compF_ok (na := c8.nargs) (vars := c8.vars) (by kernel_rfl)
theorem ok9 : FnOk Tryd.prog 9 c9 := compF_ok (na := c9.nargs) (vars := c9.vars) (by kernel_rfl)
theorem ok10 : FnOk Tryd.prog 10 c10 := compF_ok (na := c10.nargs) (vars := c10.vars) (by kernel_rfl)
theorem ok11 : FnOk Tryd.prog 11 c11 := compF_ok (na := c11.nargs) (vars := c11.vars) (by kernel_rfl)
theorem ok12 : FnOk Tryd.prog 12 c12 := compF_ok (na := c12.nargs) (vars := c12.vars) (by kernel_rfl)
theorem ok13 : FnOk Tryd.prog 13 c13 := compF_ok (na := c13.nargs) (vars := c13.vars) (by kernel_rfl)
theorem ok14 : FnOk Tryd.prog 14 c14 := compF_ok (na := c14.nargs) (vars := c14.vars) (by kernel_rfl)
theorem ok15 : FnOk Tryd.prog 15 c15 := compF_ok (na := c15.nargs) (vars := c15.vars) (by kernel_rfl)
theorem ok16 : FnOk Tryd.prog 16 c16 := compF_ok (na := c16.nargs) (vars := c16.vars) (by kernel_rfl)
theorem ok17 : FnOk Tryd.prog 17 c17 := compF_ok (na := c17.nargs) (vars := c17.vars) (by kernel_rfl)
theorem ok18 : FnOk Tryd.prog 18 c18 := compF_ok (na := c18.nargs) (vars := c18.vars) (by kernel_rfl)
theorem ok19 : FnOk Tryd.prog 19 c19 := compF_ok (na := c19.nargs) (vars := c19.vars) (by kernel_rfl)
theorem ok20 : FnOk Tryd.prog 20 c20 := compF_ok (na := c20.nargs) (vars := c20.vars) (by kernel_rfl)
theorem ok21 : FnOk Tryd.prog 21 c21 := compF_ok (na := c21.nargs) (vars := c21.vars) (by kernel_rfl)
theorem ok22 : FnOk Tryd.prog 22 c22 := compF_ok (na := c22.nargs) (vars := c22.vars) (by kernel_rfl)
theorem ok23 : FnOk Tryd.prog 23 c23 := compF_ok (na := c23.nargs) (vars := c23.vars) (by kernel_rfl)
theorem ok24 : FnOk Tryd.prog 24 c24 := compF_ok (na := c24.nargs) (vars := c24.vars) (by kernel_rfl)
theorem ok25 : FnOk Tryd.prog 25 c25 := compF_ok (na := c25.nargs) (vars := c25.vars) (by kernel_rfl)
theorem ok26 : FnOk Tryd.prog 26 c26 := compF_ok (na := c26.nargs) (vars := c26.vars) (by kernel_rfl)
theorem ok27 : FnOk Tryd.prog 27 c27 := compF_ok (na := c27.nargs) (vars := c27.vars) (by kernel_rfl)
theorem ok28 : FnOk Tryd.prog 28 c28 := compF_ok (na := c28.nargs) (vars := c28.vars) (by kernel_rfl)
theorem ok29 : FnOk Tryd.prog 29 c29 := compF_ok (na := c29.nargs) (vars := c29.vars) (by kernel_rfl)
theorem ok30 : FnOk Tryd.prog 30 c30 := compF_ok (na := c30.nargs) (vars := c30.vars) (by kernel_rfl)
theorem ok31 : FnOk Tryd.prog 31 c31 := compF_ok (na := c31.nargs) (vars := c31.vars) (by kernel_rfl)
theorem ok32 : FnOk Tryd.prog 32 c32 := compF_ok (na := c32.nargs) (vars := c32.vars) (by kernel_rfl)
theorem ok33 : FnOk Tryd.prog 33 c33 := compF_ok (na := c33.nargs) (vars := c33.vars) (by kernel_rfl)
theorem ok34 : FnOk Tryd.prog 34 c34 := compF_ok (na := c34.nargs) (vars := c34.vars) (by kernel_rfl)
theorem ok35 : FnOk Tryd.prog 35 c35 := compF_ok (na := c35.nargs) (vars := c35.vars) (by kernel_rfl)
theorem ok36 : FnOk Tryd.prog 36 c36 := compF_ok (na := c36.nargs) (vars := c36.vars) (by kernel_rfl)
theorem ok37 : FnOk Tryd.prog 37 c37 := compF_ok (na := c37.nargs) (vars := c37.vars) (by kernel_rfl)
theorem ok38 : FnOk Tryd.prog 38 c38 := compF_ok (na := c38.nargs) (vars := c38.vars) (by kernel_rfl)
theorem ok39 : FnOk Tryd.prog 39 c39 := compF_ok (na := c39.nargs) (vars := c39.vars) (by kernel_rfl)
theorem ok40 : FnOk Tryd.prog 40 c40 := compF_ok (na := c40.nargs) (vars := c40.vars) (by kernel_rfl)
theorem ok42 : FnOk Tryd.prog 42 c42 := compF_ok (na := c42.nargs) (vars := c42.vars) (by kernel_rfl)
theorem ok43 : FnOk Tryd.prog 43 c43 := compF_ok (na := c43.nargs) (vars := c43.vars) (by kernel_rfl)
theorem ok44 : FnOk Tryd.prog 44 c44 := compF_ok (na := c44.nargs) (vars := c44.vars) (by kernel_rfl)
theorem ok45 : FnOk Tryd.prog 45 c45 := compF_ok (na := c45.nargs) (vars := c45.vars) (by kernel_rfl)
theorem ok46 : FnOk Tryd.prog 46 c46 := compF_ok (na := c46.nargs) (vars := c46.vars) (by kernel_rfl)
theorem ok47 : FnOk Tryd.prog 47 c47 := compF_ok (na := c47.nargs) (vars := c47.vars) (by kernel_rfl)
theorem ok48 : FnOk Tryd.prog 48 c48 := compF_ok (na := c48.nargs) (vars := c48.vars) (by kernel_rfl)
theorem ok49 : FnOk Tryd.prog 49 c49 := compF_ok (na := c49.nargs) (vars := c49.vars) (by kernel_rfl)
theorem ok58 : FnOk Tryd.prog 58 c58 := compF_ok (na := c58.nargs) (vars := c58.vars) (by kernel_rfl)
theorem ok59 : FnOk Tryd.prog 59 c59 := compF_ok (na := c59.nargs) (vars := c59.vars) (by kernel_rfl)
theorem ok61 : FnOk Tryd.prog 61 c61 := compF_ok (na := c61.nargs) (vars := c61.vars) (by kernel_rfl)
theorem ok62 : FnOk Tryd.prog 62 c62 := compF_ok (na := c62.nargs) (vars := c62.vars) (by kernel_rfl)
theorem ok63 : FnOk Tryd.prog 63 c63 := compF_ok (na := c63.nargs) (vars := c63.vars) (by kernel_rfl)
theorem ok75 : FnOk Tryd.prog 75 c75 := compF_ok (na := c75.nargs) (vars := c75.vars) (by kernel_rfl)
end Go.Eng.Tk

