/-
  Part of a proof of the laws of layer 08 (rule): the laws.
  Conditions: none.
-/
import Derived.Test.YthjpcgfcmblkhaaGreatDoorEc
import Derived.Test.YthjpcgfcmblkhaaGreatDoorProg
import Derived.KernelRfl
import Derived.Test.YthjpcgfcmblkhaaGreatDoorBe
import Derived.Test.YthjpcgfcmblkhaaGreatDoorBx
set_option linter.unusedSectionVars false
set_option linter.unusedSimpArgs false
set_option linter.unusedVariables false
namespace Go.Eng.Sy
open Go Go.Eng Go.Proofs
noncomputable def c6_r0:List SOp:=[⟨0,.p .mov,[.c (.bool false)],none,false⟩]
noncomputable def c6_r1:List SOp:=[⟨0,.call 8,[],none,false⟩,⟨1,.p .mov,[.t 0],none,false⟩]
noncomputable def c6_r2:List SOp:=[⟨0,.p .mov,[.v 0],none,false⟩,⟨1,.call 9,[.t 0,.c (.bool false)],none,false⟩,⟨2,.a (.new [.int .i64 0,.slice none 0 0,.slice none 0 0,.slice none 0 0]),[],none,false⟩,⟨3,.w (.store 4),[.t 0,.t 1],none,false⟩]
noncomputable def c6_r3:List SOp:=[⟨0,.p .mov,[.v 1],none,false⟩,⟨1,.p (.fieldAddr 3),[.v 5],none,false⟩,⟨2,.r (.load false 1),[.t 0],none,false⟩,⟨3,.p .lenS,[.t 0],none,false⟩,⟨4,.call 13,[.t 3,.t 0],none,false⟩,⟨5,.p .mov,[.t 0],none,false⟩]
noncomputable def c6_r4:List SOp:=[⟨0,.p (.build [.int .i64 0,.int .i64 0,.int .i64 0,.string ⟨#[]⟩,.slice none 0 0] [(0,1),(2,1)]),[.c (.int .i64 1),.c (.int .i64 1)],none,false⟩,⟨1,.a (.new [.int .i64 0,.int .i64 0,.int .i64 0,.string ⟨#[]⟩,.slice none 0 0]),[],none,false⟩,⟨2,.w (.store 5),[.t 0,.t 1],none,false⟩]
noncomputable def c6_r5:List SOp:=[⟨0,.r (.load true 5),[.v 7],none,false⟩,⟨1,.a (.bslice [.int .i64 0,.int .i64 0,.int .i64 0,.string ⟨#[]⟩,.slice none 0 0] [(0,5)] 1 5),[.t 0],none,false⟩,⟨2,.p (.build [.int .i64 0,.int .i64 0,.int .i64 0,.string ⟨#[]⟩,.slice none 0 0] [(0,1),(3,1),(4,1)]),[.c (.int .i64 5),.c (.string ⟨#[114,97]⟩),.t 0],none,false⟩,⟨3,.a (.new [.int .i64 0,.int .i64 0,.int .i64 0,.string ⟨#[]⟩,.slice none 0 0]),[],none,false⟩,⟨4,.w (.store 5),[.t 0,.t 1],none,false⟩]
noncomputable def c6_r6:List SOp:=[⟨0,.r (.load true 5),[.v 7],none,false⟩,⟨1,.a (.bslice [.int .i64 0,.int .i64 0,.int .i64 0,.string ⟨#[]⟩,.slice none 0 0] [(0,5)] 1 5),[.t 0],none,false⟩,⟨2,.p (.build [.int .i64 0,.string ⟨#[]⟩,.string ⟨#[]⟩,.int .i64 0,.slice none 0 0,.slice none 0 0,.slice none 0 0] [(0,1),(1,1),(4,1)]),[.c (.int .i64 1),.c (.string ⟨#[116,97]⟩),.t 0],none,false⟩,⟨3,.p (.build [.int .i64 0,.string ⟨#[]⟩,.string ⟨#[]⟩,.int .i64 0,.slice none 0 0,.slice none 0 0,.slice none 0 0] [(0,1),(1,1),(2,1)]),[.c (.int .i64 2),.c (.string ⟨#[100]⟩),.c (.string ⟨#[100]⟩)],none,false⟩,⟨4,.p (.build [.int .i64 0,.string ⟨#[]⟩,.string ⟨#[]⟩,.int .i64 0,.slice none 0 0,.slice none 0 0,.slice none 0 0] [(0,1),(1,1),(2,1)]),[.c (.int .i64 2),.c (.string ⟨#[120]⟩),.c (.string ⟨#[120]⟩)],none,false⟩,⟨5,.r (.load true 5),[.v 7],none,false⟩,⟨6,.a (.bslice [.int .i64 0,.int .i64 0,.int .i64 0,.string ⟨#[]⟩,.slice none 0 0] [(0,5)] 1 5),[.t 0],none,false⟩,⟨7,.p (.build [.int .i64 0,.string ⟨#[]⟩,.string ⟨#[]⟩,.int .i64 0,.slice none 0 0,.slice none 0 0,.slice none 0 0] [(0,1),(1,1),(4,1)]),[.c (.int .i64 3),.c (.string ⟨#[116,97]⟩),.t 0],none,false⟩,⟨8,.p (.build [.int .i64 0,.string ⟨#[]⟩,.string ⟨#[]⟩,.int .i64 0,.slice none 0 0,.slice none 0 0,.slice none 0 0] [(0,1),(1,1)]),[.c (.int .i64 5),.c (.string ⟨#[100]⟩)],none,false⟩,⟨9,.r (.load true 5),[.v 7],none,false⟩,⟨10,.r (.load true 5),[.v 7],none,false⟩,⟨11,.a (.bslice [.int .i64 0,.int .i64 0,.int .i64 0,.string ⟨#[]⟩,.slice none 0 0,.int .i64 0,.int .i64 0,.int .i64 0,.string ⟨#[]⟩,.slice none 0 0] [(0,5),(5,5)] 2 5),[.t 1,.t 0],none,false⟩,⟨12,.p (.build [.int .i64 0,.string ⟨#[]⟩,.string ⟨#[]⟩,.int .i64 0,.slice none 0 0,.slice none 0 0,.slice none 0 0] [(0,1),(1,1),(4,1)]),[.c (.int .i64 4),.c (.string ⟨#[115,116,114,97,110,103,101]⟩),.t 0],none,false⟩,⟨13,.p (.build [.int .i64 0,.int .i64 0,.int .i64 0,.string ⟨#[]⟩,.slice none 0 0] [(0,1),(3,1)]),[.c (.int .i64 2),.c (.string ⟨#[100]⟩)],none,false⟩,⟨14,.a (.bslice [.int .i64 0,.int .i64 0,.int .i64 0,.string ⟨#[]⟩,.slice none 0 0] [(0,5)] 1 5),[.t 0],none,false⟩,⟨15,.p (.build [.int .i64 0,.string ⟨#[]⟩,.string ⟨#[]⟩,.int .i64 0,.slice none 0 0,.slice none 0 0,.slice none 0 0] [(0,1),(1,1),(4,1)]),[.c (.int .i64 1),.c (.string ⟨#[120]⟩),.t 0],none,false⟩,⟨16,.r (.load true 5),[.v 8],none,false⟩,⟨17,.a (.bslice [.int .i64 0,.int .i64 0,.int .i64 0,.string ⟨#[]⟩,.slice none 0 0] [(0,5)] 1 5),[.t 0],none,false⟩,⟨18,.p (.build [.int .i64 0,.string ⟨#[]⟩,.string ⟨#[]⟩,.int .i64 0,.slice none 0 0,.slice none 0 0,.slice none 0 0] [(0,1),(1,1),(4,1)]),[.c (.int .i64 1),.c (.string ⟨#[120]⟩),.t 0],none,false⟩,⟨19,.p (.build [.int .i64 0,.int .i64 0,.int .i64 0,.string ⟨#[]⟩,.slice none 0 0] [(0,1),(3,1)]),[.c (.int .i64 2),.c (.string ⟨#[116,97]⟩)],none,false⟩,⟨20,.a (.bslice [.int .i64 0,.int .i64 0,.int .i64 0,.string ⟨#[]⟩,.slice none 0 0] [(0,5)] 1 5),[.t 0],none,false⟩,⟨21,.p (.build [.int .i64 0,.int .i64 0,.int .i64 0,.string ⟨#[]⟩,.slice none 0 0] [(0,1),(1,1),(4,1)]),[.c (.int .i64 3),.c (.int .i64 16),.t 0],none,false⟩,⟨22,.a (.bslice [.int .i64 0,.int .i64 0,.int .i64 0,.string ⟨#[]⟩,.slice none 0 0] [(0,5)] 1 5),[.t 0],none,false⟩,⟨23,.p (.build [.int .i64 0,.string ⟨#[]⟩,.string ⟨#[]⟩,.int .i64 0,.slice none 0 0,.slice none 0 0,.slice none 0 0] [(0,1),(4,1)]),[.c (.int .i64 6),.t 0],none,false⟩,⟨24,.a (.bslice [.int .i64 0,.string ⟨#[]⟩,.string ⟨#[]⟩,.int .i64 0,.slice none 0 0,.slice none 0 0,.slice none 0 0,.int .i64 0,.string ⟨#[]⟩,.string ⟨#[]⟩,.int .i64 0,.slice none 0 0,.slice none 0 0,.slice none 0 0,.int .i64 0,.string ⟨#[]⟩,.string ⟨#[]⟩,.int .i64 0,.slice none 0 0,.slice none 0 0,.slice none 0 0,.int .i64 0,.string ⟨#[]⟩,.string ⟨#[]⟩,.int .i64 0,.slice none 0 0,.slice none 0 0,.slice none 0 0,.int .i64 0,.string ⟨#[]⟩,.string ⟨#[]⟩,.int .i64 0,.slice none 0 0,.slice none 0 0,.slice none 0 0,.int .i64 0,.string ⟨#[]⟩,.string ⟨#[]⟩,.int .i64 0,.slice none 0 0,.slice none 0 0,.slice none 0 0,.int .i64 0,.string ⟨#[]⟩,.string ⟨#[]⟩,.int .i64 0,.slice none 0 0,.slice none 0 0,.slice none 0 0,.int .i64 0,.string ⟨#[]⟩,.string ⟨#[]⟩,.int .i64 0,.slice none 0 0,.slice none 0 0,.slice none 0 0,.int .i64 0,.string ⟨#[]⟩,.string ⟨#[]⟩,.int .i64 0,.slice none 0 0,.slice none 0 0,.slice none 0 0] [(0,7),(7,7),(14,7),(21,7),(28,7),(35,7),(42,7),(49,7),(56,7)] 9 7),[.t 21,.t 20,.t 19,.t 16,.t 15,.t 11,.t 8,.t 5,.t 0],none,false⟩,⟨25,.p .mov,[.t 0],none,false⟩]
noncomputable def c6_r7:List SOp:=[⟨0,.a (.bslice [.int .i64 0,.int .i64 0,.int .i64 0,.int .i64 0,.int .i64 0,.int .i64 0,.int .i64 0,.int .i64 0,.int .i64 0] [(0,1),(1,1),(2,1),(3,1),(4,1),(5,1),(6,1),(7,1),(8,1)] 9 1),[.c (.int .i64 80),.c (.int .i64 80),.c (.int .i64 84),.c (.int .i64 84),.c (.int .i64 84),.c (.int .i64 84),.c (.int .i64 80),.c (.int .i64 86),.c (.int .i64 80)],none,false⟩,⟨1,.p .mov,[.t 0],none,false⟩]
noncomputable def c6_r8:List SOp:=[⟨0,.p .mov,[.v 2],none,false⟩,⟨1,.p .mov,[.v 9],none,false⟩,⟨2,.p .lenS,[.t 0],none,false⟩,⟨3,.call 13,[.t 2,.t 0],none,false⟩,⟨4,.p .mov,[.t 0],none,false⟩]
noncomputable def c6_r9:List SOp:=[⟨0,.p .mov,[.v 11],none,false⟩,⟨1,.p (.bin .eql),[.t 0,.c (.int .i64 7)],none,false⟩,⟨2,.p .mov,[.t 0],none,false⟩,⟨3,.p (.fieldAddr 2),[.v 5],some (0,true),false⟩,⟨4,.r (.load false 1),[.t 0],some (1,true),false⟩,⟨5,.p .lenS,[.t 0],some (2,true),false⟩,⟨6,.p (.bin .eql),[.t 0,.c (.int .i64 0)],some (3,true),false⟩,⟨7,.p .pick,[.t 4,.t 0,.c (.bool false)],none,false⟩]
noncomputable def c6_r10:List SOp:=[⟨0,.p .mov,[.v 10],none,false⟩,⟨1,.p (.idxAddrS 1),[.t 0,.c (.int .i64 7)],none,false⟩,⟨2,.w (.store 1),[.t 0,.c (.int .i64 84)],none,false⟩]
noncomputable def c6_r11:List SOp:=[⟨0,.r (.load true 4),[.v 5],none,false⟩,⟨1,.a (.new [.int .i64 0,.slice none 0 0,.slice none 0 0,.slice none 0 0]),[],none,false⟩,⟨2,.w (.store 4),[.t 0,.t 1],none,false⟩]
noncomputable def c6_r12:List SOp:=[⟨0,.p (.fieldAddr 3),[.v 5],none,false⟩,⟨1,.r (.load false 1),[.t 0],none,false⟩,⟨2,.w (.append 6 72),[.c (.slice none 0 0),.t 0],none,false⟩,⟨3,.p (.fieldAddr 3),[.v 12],none,false⟩,⟨4,.w (.store 1),[.t 0,.t 1],none,false⟩]
noncomputable def c6_r13:List SOp:=[⟨0,.p (.fieldAddr 3),[.v 12],none,false⟩,⟨1,.r (.load false 1),[.t 0],none,false⟩,⟨2,.p .mov,[.v 6],none,false⟩,⟨3,.p (.idxAddrS 6),[.t 1,.t 0],none,false⟩,⟨4,.r (.load true 6),[.t 0],none,false⟩,⟨5,.a (.new [.string ⟨#[]⟩,.bool false,.int .i64 0,.int .i64 0,.int .i64 0,.slice none 0 0]),[],none,false⟩,⟨6,.w (.store 6),[.t 0,.t 1],none,false⟩]
noncomputable def c6_r14:List SOp:=[⟨0,.p .mov,[.v 9],none,false⟩,⟨1,.p .mov,[.v 11],none,false⟩,⟨2,.p (.idxAddrS 7),[.t 1,.t 0],none,false⟩,⟨3,.r (.load true 7),[.t 0],none,false⟩,⟨4,.a (.bslice [.int .i64 0,.string ⟨#[]⟩,.string ⟨#[]⟩,.int .i64 0,.slice none 0 0,.slice none 0 0,.slice none 0 0] [(0,7)] 1 7),[.t 0],none,false⟩,⟨5,.p (.fieldAddr 5),[.v 13],none,false⟩,⟨6,.r (.load false 1),[.t 0],none,false⟩,⟨7,.w (.append 7 120),[.t 2,.t 0],none,false⟩,⟨8,.p (.fieldAddr 5),[.v 13],none,false⟩,⟨9,.w (.store 1),[.t 0,.t 1],none,false⟩]
noncomputable def c6_r15:List SOp:=[⟨0,.p (.fieldAddr 3),[.v 12],none,false⟩,⟨1,.r (.load false 1),[.t 0],none,false⟩,⟨2,.p .mov,[.v 6],none,false⟩,⟨3,.r (.load true 6),[.v 13],none,false⟩,⟨4,.p (.idxAddrS 6),[.t 2,.t 1],none,false⟩,⟨5,.w (.store 6),[.t 0,.t 1],none,false⟩]
noncomputable def c6_r16:List SOp:=[⟨0,.r (.load true 4),[.v 12],none,false⟩,⟨1,.call 10,[.t 0],none,false⟩,⟨2,.p .mov,[.t 0],none,false⟩,⟨3,.p (.extract 0),[.t 0],none,false⟩,⟨4,.p (.extract 1),[.t 1],none,false⟩,⟨5,.a (.new [.int .i64 0,.int .i64 0]),[],none,false⟩,⟨6,.p .mov,[.t 2],none,false⟩,⟨7,.w (.store 2),[.t 1,.t 2],none,false⟩]
noncomputable def c6_r17:List SOp:=[⟨0,.p (.fieldAddr 3),[.v 12],none,false⟩,⟨1,.r (.load false 1),[.t 0],none,false⟩,⟨2,.p (.fieldAddr 3),[.v 12],none,false⟩,⟨3,.r (.load false 1),[.t 0],none,false⟩,⟨4,.p .lenS,[.t 0],none,false⟩,⟨5,.p (.bin .sub),[.t 0,.c (.int .i64 1)],none,false⟩,⟨6,.p (.idxAddrS 6),[.t 4,.t 0],none,false⟩,⟨7,.r (.load true 6),[.t 0],none,false⟩,⟨8,.a (.new [.string ⟨#[]⟩,.bool false,.int .i64 0,.int .i64 0,.int .i64 0,.slice none 0 0]),[],none,false⟩,⟨9,.w (.store 6),[.t 0,.t 1],none,false⟩]
noncomputable def c6_r18:List SOp:=[⟨0,.p (.fieldAddr 0),[.v 5],none,false⟩,⟨1,.r (.load false 1),[.t 0],none,false⟩,⟨2,.p (.fieldAddr 2),[.v 16],none,false⟩,⟨3,.w (.store 1),[.t 0,.t 1],none,false⟩]
noncomputable def c6_r19:List SOp:=[⟨0,.p (.fieldAddr 3),[.v 12],none,false⟩,⟨1,.r (.load false 1),[.t 0],none,false⟩,⟨2,.p (.fieldAddr 3),[.v 12],none,false⟩,⟨3,.r (.load false 1),[.t 0],none,false⟩,⟨4,.p .lenS,[.t 0],none,false⟩,⟨5,.p (.bin .sub),[.t 0,.c (.int .i64 1)],none,false⟩,⟨6,.r (.load true 6),[.v 16],none,false⟩,⟨7,.p (.idxAddrS 6),[.t 5,.t 1],none,false⟩,⟨8,.w (.store 6),[.t 0,.t 1],none,false⟩]
noncomputable def c6_r20:List SOp:=[⟨0,.r (.load true 4),[.v 12],none,false⟩,⟨1,.call 10,[.t 0],none,false⟩,⟨2,.p .mov,[.t 0],none,false⟩,⟨3,.p (.extract 0),[.t 0],none,false⟩,⟨4,.p (.extract 1),[.t 1],none,false⟩,⟨5,.a (.new [.int .i64 0,.int .i64 0]),[],none,false⟩,⟨6,.p .mov,[.t 2],none,false⟩,⟨7,.w (.store 2),[.t 1,.t 2],none,false⟩]
noncomputable def c6_r21:List SOp:=[⟨0,.p (.fieldAddr 0),[.v 5],none,false⟩,⟨1,.r (.load false 1),[.t 0],none,false⟩,⟨2,.p (.bin .gtr),[.t 0,.c (.int .i64 3)],none,false⟩]
noncomputable def c6_r22:List SOp:=[⟨0,.p .mov,[.c (.bool false)],none,false⟩]
noncomputable def c6_r23:List SOp:=[⟨0,.p .mov,[.v 4],none,false⟩,⟨1,.p .mov,[.t 0],none,false⟩,⟨2,.p .mov,[.v 14],some (0,true),false⟩,⟨3,.p .mov,[.v 10],some (1,true),false⟩,⟨4,.p .mov,[.v 11],some (2,true),false⟩,⟨5,.p (.idxAddrS 1),[.t 1,.t 0],some (3,true),false⟩,⟨6,.r (.load false 1),[.t 0],some (4,true),false⟩,⟨7,.p (.bin .eql),[.t 4,.t 0],some (5,true),false⟩,⟨8,.p .pick,[.t 6,.t 0,.c (.bool false)],none,false⟩,⟨9,.p .mov,[.t 0],none,false⟩,⟨10,.r (.load true 2),[.v 15],some (0,true),false⟩,⟨11,.p .mov,[.v 6],some (1,true),false⟩,⟨12,.p (.build [.int .i64 0,.int .i64 0] [(0,1),(1,1)]),[.t 0,.c (.int .i64 0)],some (2,true),false⟩,⟨13,.p (.eqK 31 (keyGood Tryz.prog 31) false),[.t 2,.t 0],some (3,true),false⟩,⟨14,.p .pick,[.t 4,.t 0,.c (.bool false)],none,false⟩,⟨15,.p .mov,[.t 0],none,false⟩,⟨16,.p .mov,[.v 17],some (0,true),false⟩,⟨17,.p (.bin .eql),[.t 0,.c (.int .i64 81)],some (1,true),false⟩,⟨18,.p .pick,[.t 2,.t 0,.c (.bool false)],none,false⟩,⟨19,.p .mov,[.t 0],none,false⟩,⟨20,.r (.load true 2),[.v 18],some (0,true),false⟩,⟨21,.p (.fieldAddr 3),[.v 12],some (1,true),false⟩,⟨22,.r (.load false 1),[.t 0],some (2,true),false⟩,⟨23,.p .lenS,[.t 0],some (3,true),false⟩,⟨24,.p (.bin .sub),[.t 0,.c (.int .i64 1)],some (4,true),false⟩,⟨25,.p (.build [.int .i64 0,.int .i64 0] [(0,1),(1,1)]),[.t 0,.c (.int .i64 0)],some (5,true),false⟩,⟨26,.p (.eqK 31 (keyGood Tryz.prog 31) false),[.t 5,.t 0],some (6,true),false⟩,⟨27,.p .pick,[.t 7,.t 0,.c (.bool false)],none,false⟩,⟨28,.p .mov,[.t 0],none,false⟩]
noncomputable def c6:CFn:={ nargs:=3,vars:=[0,1,2,6,7,8,9,10,11,12,13,14,15,16,17,18,19,20,21],results:=[.var 3],body:=(.seq (.reg c6_r0 [(3,0)]) (.seq (.reg c6_r1 [(4,0)]) (.seq (.reg c6_r2 [(5,1)]) (.seq (.reg c6_r3 [(6,0)]) (.seq (.reg c6_r4 [(7,1)]) (.seq (.reg c6_r5 [(8,1)]) (.seq (.reg c6_r6 [(9,0)]) (.seq (.reg c6_r7 [(10,0)]) (.seq (.reg c6_r8 [(11,0)]) (.seq (.rcond c6_r9 [] 0 (.reg c6_r10 []) .skip) (.seq (.reg c6_r11 [(12,1)]) (.seq (.reg c6_r12 []) (.seq (.reg c6_r13 [(13,1)]) (.seq (.reg c6_r14 []) (.seq (.reg c6_r15 []) (.seq (.reg c6_r16 [(14,1),(15,2)]) (.seq (.reg c6_r17 [(16,1)]) (.seq (.reg c6_r18 []) (.seq (.reg c6_r19 []) (.seq (.reg c6_r20 [(17,1),(18,2)]) (.seq (.rcond c6_r21 [] 0 (.seq (.reg c6_r22 [(3,0)]) .ret) .skip) (.seq (.reg c6_r23 [(3,0)]) .ret)))))))))))))))))))))) }
set_option maxRecDepth 100000 in
theorem ok6:FnOk Tryz.prog 6 c6:=compF_ok (na:=c6.nargs) (vars:=c6.vars) (by kernel_rfl)
end Go.Eng.Sy
namespace Go.Eng.Sy
open Go Go.Eng Go.Proofs
mutual
def cntS:St→Nat
 | .mk _ _ _ _ _ t e=>1 + cntSs t + cntSs e
def cntSs:List St→Nat
 | []=>0
 | s::r=>cntS s + cntSs r
end
mutual
theorem cntS_flat (hs:List (List UInt8)):∀ (s:St),(flatS hs s).length=cntS s
 | .mk k m f n a t e=>by
  simp only [flatS,List.length_cons,List.length_append,cntS]
  rw [cntSs_flat _ t,cntSs_flat _ e]; omega
theorem cntSs_flat (hs:List (List UInt8)):∀ (l:List St),(flatSs hs l).length=cntSs l
 | []=>rfl
 | s::r=>by simp only [flatSs,List.length_append,cntSs]; rw [cntS_flat hs s,cntSs_flat hs r]
end
section
variable {p:Prg} {nm:List (List UInt8)}
end
theorem set_names {p:Prg} {k:Nat} {t:Tsk} (hk:p.tasks[k]? = some t) (b:List St):namesP { p with tasks:=p.tasks.set k { t with body:=b } }=namesP p:=by
 unfold namesP
 dsimp only
 congr 1
 rw [List.map_set]
 have:(p.tasks.map (·.name))[k]? = some t.name:=by simp [hk]
 exact List.ext_getElem? fun i=>by
  rw [List.getElem?_set]
  split
  ·rename_i h; subst h
   rw [this]
   have hl:k < p.tasks.length:=(List.getElem?_eq_some_iff.1 hk).1
   simp [hl]
  ·rfl
end Go.Eng.Sy
namespace Go.Eng.Sy
open Go Go.Eng Go.Proofs
theorem StCsB.get' {B:Nat→Prop} {h:Heap}:∀ {l:List St} {xs:List (List Value)},StCsB B h l xs → ∀ {i:Nat} {e:St},l[i]? = some e → ∃ x,xs[i]? = some x∧StCB B h e x
 | [],_,_,i,e,hi=>by simp at hi
 | _::_,_,⟨x,xr,h1,h2,h3⟩,0,e,hi=>by simp at hi; subst hi; exact ⟨x,by rw [h1]; rfl,h2⟩
 | _::_,_,⟨x,xr,h1,h2,h3⟩,i + 1,e,hi=>by
  obtain ⟨y,hy,hz⟩:=StCsB.get' h3 (i:=i) (by simpa using hi)
  exact ⟨y,by rw [h1]; simpa using hy,hz⟩
theorem cntS_eq (s:St):cntS s=1 + cntSs s.thn + cntSs s.els:=by cases s; rfl
theorem cnt_len:∀ (l:List St),l.length≤cntSs l
 | []=>by simp
 | s::r=>by have:=cnt_len r; simp only [List.length_cons,cntSs,cntS_eq s]; omega
end Go.Eng.Sy
namespace Go.Eng.Sy
open Go Go.Eng Go.Proofs
theorem part22b (a b:Value):partL true 0 2 [a,b]=some (.agg #[a,b]):=rfl
section
variable {p p2:Prg} (hd:p2.devs=p.devs) (hr:p2.ress=p.ress) (nm hs:List (List UInt8))
include hd hr
theorem headE_p (k:Int) (m:List UInt8):headE p2 nm hs k m=headE p nm hs k m:=by unfold headE heldR; rw [hr]
mutual
theorem exprR_p:∀ (e:Ex),exprR p2 nm hs e=exprR p nm hs e
 | .mk k o n m args=>by simp only [exprR]; rw [headE_p hd hr,exprsR_p args]
theorem exprsR_p:∀ (l:List Ex),exprsR p2 nm hs l=exprsR p nm hs l
 | []=>rfl
 | e::r=>by simp only [exprsR]; rw [exprR_p e,exprsR_p r]
end
theorem stmtR_p (s:St):stmtR p2 nm hs s=stmtR p nm hs s:=by
 have h1:headS p2 nm hs s=headS p nm hs s:=by unfold headS deviceR lockR heldR; rw [hd,hr]
 unfold stmtR; rw [h1,exprsR_p hd hr]
theorem okSs_p (ss:List St):okSs p2 nm hs ss↔okSs p nm hs ss:=by
 unfold okSs
 constructor
 ·intro h x hx; rw [← stmtR_p hd hr]; exact h x hx
 ·intro h x hx; rw [stmtR_p hd hr]; exact h x hx
end
def keyT (t:Tsk):Bool × Int × Int × Int:=(t.handler,t.hart,t.prio,t.line)
theorem TasksOk.key {p p2:Prg} (h:TasksOk p) (hh:p2.harts=p.harts) (hk:p2.tasks.map keyT=p.tasks.map keyT):TasksOk p2:=by
 have mem:∀ t ∈ p2.tasks,∃ t' ∈ p.tasks,keyT t' = keyT t:=fun t ht=>by
  have:keyT t ∈ p2.tasks.map keyT:=List.mem_map.2 ⟨t,ht,rfl⟩
  rw [hk] at this
  obtain ⟨t',h1,h2⟩:=List.mem_map.1 this
  exact ⟨t',h1,h2⟩
 have f:∀ {a b:Tsk},keyT a=keyT b→a.handler=b.handler∧a.hart=b.hart∧a.prio=b.prio∧a.line=b.line:=fun e=>by
  simpa [keyT] using e
 refine ⟨fun t ht=>?_,?_,fun t ht htt x hx hxx hxh=>?_⟩
 ·obtain ⟨t',h1,h2⟩:=mem t ht
  rw [hh,← (f h2).2.1]; exact h.hart t' h1
 ·have e:∀ l:List Tsk,l.Pairwise twoOk↔(l.map keyT).Pairwise (fun a b=>(a.1=false→b.1=false→a.2.1≠b.2.1)∧(a.1=true→b.1=true→a.2.2.2≠b.2.2.2)):=fun l=>by
   rw [List.pairwise_map]; rfl
  rw [e,hk,← e]; exact h.two
 ·obtain ⟨t',h1,h2⟩:=mem t ht
  obtain ⟨x',h3,h4⟩:=mem x hx
  obtain ⟨a1,a2,a3,a4⟩:=f h2
  obtain ⟨c1,c2,c3,c4⟩:=f h4
  rw [← a3,← c3]
  exact h.below t' h1 (by rw [a1]; exact htt) x' h3 (by rw [c1]; exact hxx) (by rw [c2,a2]; exact hxh)
def putB (p:Prg) (k:Nat) (t:Tsk) (b:List St):Prg:={ p with tasks:=p.tasks.set k { t with body:=b } }
theorem pick8_c (c n:Int) (hn:n≠0) (h:Heap) (Q:Value→Heap→Prop) (hq:Q (.int .i64 (pick c n)) h):CallW Tryz.prog 13 [.int .i64 c,.int .i64 n] h Q:=by
 refine call_of1 (k:=2) ok13 rfl rfl rfl fun N=>?_
 rw [show env0 c13 [.int .i64 c,.int .i64 n]=[.int .i64 c,.int .i64 n,undef] from rfl]
 delta c13 c13_r0 c13_r1 c13_r2 c13_r3
 replace hq:=Hid.mk hq
 have hq1:c < 0→Q (.int .i64 ((IntKind.i64.wrap (0 - IntKind.i64.wrap (c + 1))).tmod n)) h:=fun hc=>by have:=hq.h; rwa [pick,if_pos hc] at this
 have hq2:¬ c < 0→Q (.int .i64 (c.tmod n)) h:=fun hc=>by have:=hq.h; rwa [pick,if_neg hc] at this
 replace hq1:=Hid.mk hq1
 replace hq2:=Hid.mk hq2
 repeat' (first | simp -implicitDefEqProofs only [walkL,aR,aW,aBin,aInt,Int.reduceBEq,Int.reduceBNe,Nat.reduceBEq,Int.reduceLT,Int.reduceLE, *] | with_reducible (first | refine kcd ?_ ?_ | refine kgd ?_ ?_ | refine kci ?_ ?_ | refine kgi ?_ ?_)<;>intro hc)
 ·exact hq1.h (by assumption)
 ·exact hq2.h (by assumption)
end Go.Eng.Sy
namespace Go.Eng.Sy
open Go Go.Eng Go.Proofs
theorem CheckIs.first {p:Prg} {e i n:Int} (h:CheckIs p e i n) (hr:rightP p=true) (hn:(namesP p).Nodup) (ht:TasksOk p) {k m:Nat} {t:Tsk} {x:St × List (List UInt8)} (hk:p.tasks[k]? = some t)
  (hb:∀ j,j < k → ∀ t',p.tasks[j]? = some t' → okSs p (namesP p) [] t'.body) (hx:(flatSs [] t.body)[m]? = some x) (hm:∀ j,j < m → ∀ y,(flatSs [] t.body)[j]? = some y→stE p y=0) (hne:stE p x≠0):e=stE p x∧i=k∧n=m:=by
 have hkl:=(List.getElem?_eq_some_iff.1 hk).1
 have ok:∀ j,j < k→OkAt p j:=fun j hj tk htk y hy=>hb j hj tk htk y hy
 have nok:¬ OkAt p k:=fun h=>hne (h t hk x (List.mem_of_getElem? hx))
 rcases h with ⟨h,_⟩ | ⟨_,h,_⟩ | ⟨_,_,k',_,h,_⟩ | ⟨_,_,_,k',m',hk',⟨tk,y,h1,h2,h3,h4,h5⟩,h6,h7,h8⟩ | ⟨_,_,_,h,_⟩
 ·rw [hr] at h; cases h
 ·exact absurd hn h
 ·exact absurd (ht.head k') h
 ·have e1:k' = k:=by
   rcases Nat.lt_trichotomy k' k with h | h | h
   ·exact absurd (h3.trans (ok k' h tk h1 y (List.mem_of_getElem? h2))) h4
   ·exact h
   ·exact absurd (h6 k h) nok
  subst e1
  rw [hk] at h1; cases h1
  have e2:m' = m:=by
   rcases Nat.lt_trichotomy m' m with h | h | h
   ·exact absurd (h3.trans (hm m' h y h2)) h4
   ·exact h
   ·exact absurd (h5 m h x hx) hne
  subst e2
  rw [hx] at h2; cases h2
  exact ⟨h3,h7,h8⟩
 ·exact absurd (h k hkl) nok
def rotT (k:Nat) (l:List Tsk):List Tsk:=l.drop k++l.take k
end Go.Eng.Sy
namespace Go.Eng.Sy
open Go Go.Eng Go.Proofs
section
variable {p:Prg} {nm nm' : List (List UInt8)} (hc:∀ s,nm.contains s=nm'.contains s) (hs:List (List UInt8))
include hc
end
end Go.Eng.Sy
namespace Go.Eng.Sy
open Go Go.Eng Go.Proofs
theorem TsCsB.app {B:Nat→Prop} {h:Heap} {l2:List Tsk} {ys:List (List Value)} (h2:TsCsB B h l2 ys):∀ {l1:List Tsk} {xs:List (List Value)},TsCsB B h l1 xs→TsCsB B h (l1++l2) (xs++ys)
 | [],_,hx=>by rw [show _=[] from hx]; exact h2
 | _::_,_,⟨x,xr,e,a,b⟩=>by rw [e]; exact ⟨x,_,rfl,a,TsCsB.app h2 b⟩
theorem TsCsB.drop {B:Nat→Prop} {h:Heap}:∀ (k:Nat) {l:List Tsk} {xs:List (List Value)},TsCsB B h l xs→TsCsB B h (l.drop k) (xs.drop k)
 | 0,_,_,hx=>by simpa using hx
 | k + 1,[],_,hx=>by rw [show _=[] from hx]; rfl
 | k + 1,_::_,_,⟨x,xr,e,a,b⟩=>by rw [e]; simpa using TsCsB.drop k b
theorem TsCsB.take {B:Nat→Prop} {h:Heap}:∀ (k:Nat) {l:List Tsk} {xs:List (List Value)},TsCsB B h l xs→TsCsB B h (l.take k) (xs.take k)
 | 0,_,_,hx=>by simp only [List.take_zero]; rfl
 | k + 1,[],_,hx=>by rw [show _=[] from hx]; rfl
 | k + 1,_::_,_,⟨x,xr,e,a,b⟩=>by rw [e]; exact ⟨x,_,rfl,a,TsCsB.take k b⟩
theorem notOf_nil (i:Nat):notOf nilS i:=fun a b e=>by cases e
theorem Made.turn {n:Nat} {h0 h:Heap} {p:Prg} {d r t:Value} {xs:List (List Value)} (hm:Made n h0 p d r t xs) (l0:h0.le h) (hn:n≤h0.next) {q2:Nat} (hq2:h0.next≤q2) (hqs:(h.get q2).isSome=true) (hl:xs.length≤1000) {k:Nat} (hk:k≤xs.length) :
  ∃ w1 w2 va ha vb hb,pSliceS 6 true false [t,.int .i64 k]=some w1∧pSliceS 6 false true [t,.int .i64 k]=some w2∧wAppend 6 72 h [nilS,w1]=some (va,ha)∧wAppend 6 72 ha [va,w2]=some (vb,hb)∧h.le ha∧h.le hb∧notOf vb q2 ∧
   ∀ h',(∀ i o,i≠q2→hb.get i=some o→h'.get i=some o)→Made n h' { p with tasks:=rotT k p.tasks } d r vb (xs.drop k++xs.take k):=by
 have hm1:=hm.le l0
 have hn1:=Nat.le_trans hn l0.next
 obtain ⟨w1,e1,s1⟩:=hm1.ht.sl.partLo hk
 obtain ⟨w2,e2,s2⟩:=hm1.ht.sl.partHi hk
 obtain ⟨va,ha,a1,o1,l1,k1,n1,x1⟩:=(OwnS.nil (emptyH n) h 6).append (emptyH_le hn1) s1 (by omega) (b:=72) (by simp; omega) (by simp; omega)
 have le1:h.le ha:=⟨fun i o hg=>by rw [k1 i (by rw [hg]; rfl) (notOf_nil i)]; exact hg,x1⟩
 obtain ⟨vb,hb,a2,o2,l2,k2,n2,x2⟩:=o1.append (emptyH_le (Nat.le_trans hn1 x1)) (s2.mono le1) (by omega) (b:=72) (by simp; omega) (by simp; omega)
 have nva:∀ i,(h.get i).isSome=true→notOf va i:=fun i hs=>n1 i hs (notOf_nil i)
 have up:∀ i o,h.get i=some o→ha.get i=some o:=fun i o hg=>le1.get hg
 have nvb:∀ i,(h.get i).isSome=true→notOf vb i:=fun i hs=>by
  obtain ⟨o,ho⟩:=Option.isSome_iff_exists.1 hs
  exact n2 i (by rw [up i o ho]; rfl) (nva i hs)
 have le2:h.le hb:=⟨fun i o hg=>by rw [k2 i (by rw [up i o hg]; rfl) (nva i (by rw [hg]; rfl))]; exact up i o hg,Nat.le_trans x1 x2⟩
 refine ⟨w1,w2,va,ha,vb,hb,e1,e2,a1,a2,le1,le2,nvb q2 hqs,fun h' hh=>?_⟩
 have hB:Heap.toB (PB n [t]) (PB n [vb]) h0 h':=fun i cs own hb' hg=>⟨⟨hb'.1,fun w hw=>by
  rw [List.mem_singleton.1 hw]
  exact nvb i (by rw [l0.get hg]; rfl)⟩,hh i _ (by have:=Heap.lt_of_get hg; omega) (le2.get (l0.get hg))⟩
 refine ⟨hm.hd.to hB,hm.hr.to hB,?_,TsCsB.app (TsCsB.take k (hm.hts.to hB)) (TsCsB.drop k (hm.hts.to hB)),hm.dl,hm.rl,by rw [List.length_append,List.length_drop,List.length_take]; omega⟩
 have o3:OwnS (emptyH n) hb 6 vb (xs.drop k++xs.take k):=by simpa using o2
 refine o3.get fun id hv hs=>?_
 obtain ⟨o,ho⟩:=Option.isSome_iff_exists.1 hs
 rw [hh id o (fun e=>nvb q2 hqs _ _ (by rw [hv,e])) ho,ho]
end Go.Eng.Sy
namespace Go.Eng.Sy
open Go Go.Eng Go.Proofs
end Go.Eng.Sy
namespace Go.Eng.Sy
open Go Go.Eng Go.Proofs
theorem dead_blk {h:Heap} {q i:Nat} {c:List Value} {o:Bool} (hg:(h.set q .dead).get i=some (.blk c o)):i≠q∧h.get i=some (.blk c o):=by
 rw [Heap.get_set] at hg
 split at hg
 ·cases hg
 rename_i n1
 refine ⟨?_,hg⟩
 rintro rfl; exact n1 ⟨rfl,by first | exact Heap.lt_of_get hg | (rw [hg]; rfl)⟩
theorem le_dead_new {h h' : Heap} (hl:h.le h') {q:Nat} (hq:h.next≤q):h.le (h'.set q .dead):=⟨fun i o hg=>by
 rw [Heap.get_set,if_neg (fun e=>by have:=Heap.lt_of_get hg; omega)]; exact hl.get hg,hl.next⟩
theorem Made.plainOf {n:Nat} {h:Heap} {q:Nat} {p:Prg} {d r t:Value} {xs:List (List Value)} (hm:Made n (h.set q .dead) p d r t xs) (hq:(h.get q).isSome=true):Made n h p d r t xs:=by
 have hB:Heap.toB (PB n [t]) (PB n [t]) (h.set q .dead) h:=fun i cs own hb hg=>⟨hb,(dead_blk hg).2⟩
 refine ⟨hm.hd.to hB,hm.hr.to hB,?_,hm.hts.to hB,hm.dl,hm.rl,hm.tl⟩
 rcases hm.ht with hx | ⟨id,hv,hi,hg,hx⟩
 ·exact .inl hx
 ·exact .inr ⟨id,hv,hi,(dead_blk hg).2,hx⟩
end Go.Eng.Sy
namespace Go.Eng.Sy
open Go Go.Eng Go.Proofs
theorem Made.same {n:Nat} {h h' : Heap} {g:Prg} {d r t:Value} {xs:List (List Value)} (hm:Made n h g d r t xs) (he:∀ i,h'.get i=h.get i):Made n h' g d r t xs:=hm.to fun i _ _=>he i
theorem putB_facts {p:Prg} (hr:rightP p=true) (ht0:TasksOk p) {k:Nat} {t:Tsk} (hk:p.tasks[k]? = some t) {b:List St} (hI:∀ s ∈ b,StI s 30):rightP (putB p k t b)=true∧TasksOk (putB p k t b):=by
 have hm:=List.mem_of_getElem? hk
 have hlt:=(List.getElem?_eq_some_iff.1 hk).1
 refine ⟨?_,ht0.key rfl ?_⟩
 ·have hr0:=hr
  simp only [rightP,Bool.and_eq_true,decide_eq_true_eq,List.all_eq_true] at hr0 ⊢
  obtain ⟨⟨h1,h2⟩,h3⟩:=hr0
  obtain ⟨⟨⟨⟨a1,a2⟩,a3⟩,a4⟩,a5⟩:=h1
  refine ⟨⟨⟨⟨⟨⟨a1,a2⟩,a3⟩,?_⟩,a5⟩,h2⟩,fun t' ht'=>?_⟩
  ·show (p.tasks.set k _).length≤16; rw [List.length_set]; exact a4
  ·have ht' : t' ∈ p.tasks.set k { t with body:=b }:=ht'
   rcases List.mem_or_eq_of_mem_set ht' with h | rfl
   ·exact h3 t' h
   ·have ht:=h3 t hm
    simp only [taskOk,Bool.and_eq_true,wellSs_all,List.all_eq_true] at ht ⊢
    exact ⟨ht.1,fun s hs=>(wellS_iff 30 s).2 (hI s hs)⟩
 ·show (p.tasks.set k _).map keyT=_
  rw [List.map_set]
  refine List.ext_getElem? fun j=>?_
  rw [List.getElem?_set]
  split
  ·rename_i h; subst h
   rw [List.getElem?_map,hk,if_pos (by simpa using hlt)]; rfl
  ·rfl
theorem kg22' {P:Program} {t e:TypeId} (hu:P.underlying t=some (.array 2 e)) (he:P.underlying e=some (.int .i64)) (hc:P.cellsOf t=2) (hce:P.cellsOf e=1) (hk:P.keyType t=true) (hs:P.types.size≠0) {a b:Int} (ha:inI a) (hb:inI b):keyGood P t (.agg #[.int .i64 a,.int .i64 b])=true:=by
 obtain ⟨m,hm⟩:∃ m,P.types.size=m + 1:=⟨P.types.size - 1,by omega⟩
 have wa:(Lit.int .i64 a).wf=true:=by simp only [Lit.wf,Bool.and_eq_true,decide_eq_true_eq]; exact ha
 have wb:(Lit.int .i64 b).wf=true:=by simp only [Lit.wf,Bool.and_eq_true,decide_eq_true_eq]; exact hb
 have r2:List.range 2=[0,1]:=rfl
 simp [keyGood,flatKey,isCell,keyOf,hu,hk,Value.formed,hc,hce,hm,Program.keyLits,he,Value.cells,wa,wb,r2]
theorem ts_ne:Tryz.prog.types.size≠0:=by
 have h:Tryz.prog.types.size.beq 0=false:=by kernel_rfl
 intro e
 rw [e] at h
 cases h
theorem kg22 {a b:Int} (ha:inI a) (hb:inI b):keyGood Tryz.prog 31 (.agg #[.int .i64 a,.int .i64 b])=true :=
 kg22' (e:=3) (by kernel_rfl) (by kernel_rfl) (by kernel_rfl) (by kernel_rfl) (by kernel_rfl) ts_ne ha hb
theorem eq22 {a b:Int} (ha:inI a) (hb:inI b):pEqK (keyGood Tryz.prog 31) false [.agg #[.int .i64 a,.int .i64 b],.agg #[.int .i64 a,.int .i64 b]]=some (.bool true):=by
 simp [pEqK,kg22 ha hb,flatEq,cellsEq,cellEq]
end Go.Eng.Sy
namespace Go.Eng.Sy
open Go Go.Eng Go.Proofs
def numE:Ex:=.mk 1 0 1 [] []
def varE (m:List UInt8):Ex:=.mk 2 0 0 m []
def badW:List St:=[.mk 1 [116,97] [] 0 [numE] [] [],.mk 2 [100] [100] 0 [] [] [],.mk 2 [120] [120] 0 [] [] [],.mk 3 [116,97] [] 0 [numE] [] [],.mk 5 [100] [] 0 [] [] [],.mk 4 [115,116,114,97,110,103,101] [] 0 [numE,numE] [] [],
 .mk 1 [120] [] 0 [varE [100]] [] [],.mk 1 [120] [] 0 [.mk 5 0 0 [114,97] [numE]] [] [],.mk 6 [] [] 0 [.mk 3 16 0 [] [varE [116,97]]] [] []]
def wantW (nr:Nat):List Int:=[80,80,84,84,84,84,80,if nr=0 then 84 else 86,80]
theorem badW_I:∀ s ∈ badW,StI s 30:=by
 intro s hs
 refine (wellS_iff 30 s).1 ?_
 have:badW.all (fun s=>wellS s 30)=true:=by decide +kernel
 exact List.all_eq_true.1 this s hs
theorem wr_nm:∀ (nd:Fin 4) (nr:Fin 3) (H:Fin 4) (nh:Fin 4),1≤nd.val→1≤H.val→(allNs nd.val nr.val H.val nh.val).contains [116,97]=true∧(allNs nd.val nr.val H.val nh.val).contains [100]=true∧(allNs nd.val nr.val H.val nh.val).contains [120]=false:=by decide +kernel
theorem wr_dv:∀ (nd:Fin 4),ixN (devNs.take nd.val) [120] = -1∧ixN (devNs.take nd.val) [116,97] = -1:=by decide +kernel
theorem wr_rs:∀ (nr:Fin 3),ixN (resNs.take nr.val) [100] = -1∧ixN (resNs.take nr.val) [115,116,114,97,110,103,101] = -1∧ixN (resNs.take nr.val) [114,97]=(if nr.val=0 then -1 else 0):=by decide +kernel
theorem badW_want {p:Prg} {nd nr H nh:Nat} (hf:Facts p nd nr H nh) (i:Nat) (hi:i < 9):∃ s w,badW[i]? = some s∧(wantW nr)[i]? = some w∧stmtR p (namesP p) [] s=w∧w≠0:=by
 obtain ⟨a1,a2⟩:=hf.b1
 obtain ⟨a3,a4⟩:=hf.b3
 obtain ⟨n1,n2,n3⟩:=wr_nm ⟨nd,by omega⟩ ⟨nr,by have:=hf.b2; omega⟩ ⟨H,by omega⟩ ⟨nh,by have:=hf.b4; omega⟩ a1 a3
 obtain ⟨d1,d2⟩:=wr_dv ⟨nd,by omega⟩
 obtain ⟨r1,r2,r3⟩:=wr_rs ⟨nr,by have:=hf.b2; omega⟩
 dsimp only at n1 n2 n3 d1 d2 r1 r2 r3
 rw [← hf.names] at n1 n2 n3
 rw [← hf.dn,← ixOf_N] at d1 d2
 rw [← hf.rn,← ixOf_N] at r1 r2 r3
 match i,hi with
 | 0,_=>exact ⟨_,_,rfl,rfl,by simp only [stmtR,headS,St.kind,St.name,localR,n1]; rfl,by decide⟩
 | 1,_=>exact ⟨_,_,rfl,rfl,by simp only [stmtR,headS,St.kind,St.name,localR,n2]; rfl,by decide⟩
 | 2,_=>exact ⟨_,_,rfl,rfl,by simp only [stmtR,headS,St.kind,St.name,St.src,localR,deviceR,n3,d1]; rfl,by decide⟩
 | 3,_=>exact ⟨_,_,rfl,rfl,by simp only [stmtR,headS,St.kind,St.name,St.src,localR,deviceR,n3,d2]; rfl,by decide⟩
 | 4,_=>exact ⟨_,_,rfl,rfl,by simp only [stmtR,headS,St.kind,St.name,lockR,r1]; rfl,by decide⟩
 | 5,_=>exact ⟨_,_,rfl,rfl,by simp only [stmtR,headS,St.kind,St.name,heldR,r2]; rfl,by decide⟩
 | 6,_=>exact ⟨_,_,rfl,rfl,by simp only [stmtR,headS,St.kind,St.name,St.args,localR,n3,exprsR,exprR,varE,headE,n2]; rfl,by decide⟩
 | 7,_ =>
  refine ⟨_,_,rfl,rfl,?_,by show (if nr=0 then (84:Int) else 86)≠0; split<;>decide⟩
  simp only [stmtR,headS,St.kind,St.name,St.args,localR,n3,exprsR,exprR,numE,headE,heldR,r3]
  by_cases h0:nr=0<;>simp [h0,wantW]
 | 8,_=>exact ⟨_,_,rfl,rfl,by simp only [stmtR,headS,St.kind,St.name,St.args,localR,exprsR,exprR,varE,headE,n1]; rfl,by decide⟩
theorem wrong_first {p:Prg} (hr:rightP p=true) (hn:(namesP p).Nodup) (ht:TasksOk p) (hb:∀ t ∈ p.tasks,okSs p (namesP p) [] t.body) {s:St} (hs:StI s 30) {w:Int} (hw:stmtR p (namesP p) [] s=w) (hw0:w≠0) {k:Nat} {t:Tsk} (hk:p.tasks[k]? = some t) :
  rightP (putB p k t (s::t.body))=true∧TasksOk (putB p k t (s::t.body))∧(namesP (putB p k t (s::t.body))).Nodup ∧ ∀ e i n:Int,CheckIs (putB p k t (s::t.body)) e i n→e=w∧i=k∧n=0:=by
 have hI:∀ x ∈ s::t.body,StI x 30:=fun x hx=>by
  rcases List.mem_cons.1 hx with rfl | hx
  ·exact hs
  ·exact rightP_st hr t (List.mem_of_getElem? hk) x hx
 obtain ⟨r2,t2⟩:=putB_facts hr ht hk hI
 have hn2:namesP (putB p k t (s::t.body))=namesP p:=set_names hk _
 have hlt:=(List.getElem?_eq_some_iff.1 hk).1
 refine ⟨r2,t2,by rw [hn2]; exact hn,fun e i n hc=>?_⟩
 have st:∀ x,stE (putB p k t (s::t.body)) x=stmtR p (namesP p) x.2 x.1:=fun x=>by unfold stE; rw [hn2]; exact stmtR_p (p:=p) (p2:=putB p k t (s::t.body)) rfl rfl _ _ _
 have ew:stE (putB p k t (s::t.body)) (s,[])=w:=by rw [st]; exact hw
 have:=hc.first r2 (by rw [hn2]; exact hn) t2 (k:=k) (t:={ t with body:=s::t.body }) (m:=0) (x:=(s,[])) (by show (p.tasks.set k _)[k]? = _; simp [hlt]) (fun j hj t' ht'=>by
  rw [hn2]
  refine (okSs_p (p:=p) (p2:=putB p k t (s::t.body)) rfl rfl _ _ _).2 (hb t' (List.mem_of_getElem? (i:=j) ?_))
  have h2:(p.tasks.set k { t with body:=s::t.body })[j]? = some t':=ht'
  rwa [List.getElem?_set_ne (by omega)] at h2) (by show (flatS [] s++flatSs [] t.body)[0]? = _; rw [flatS_head]; rfl) (fun j hj=>absurd hj (by omega)) (by rw [ew]; exact hw0)
 rw [ew] at this
 exact this
theorem hart_first {p p2:Prg} (hr2:rightP p2=true) (hn:(namesP p2).Nodup) (ht:TasksOk p) {m:Nat} {l:Tsk} (hm:p.tasks[m]? = some l) (hlast:m + 1=p.tasks.length) (e2:p2.tasks=p.tasks.set m { l with hart:=p.harts }) (eh:p2.harts=p.harts) {e i n:Int} (hc:CheckIs p2 e i n):e=81∧i=m∧n=0:=by
 have hlt:=(List.getElem?_eq_some_iff.1 hm).1
 have em:p2.tasks[m]? = some { l with hart:=p.harts }:=by rw [e2]; simp [hlt]
 have hbad:headT p2 m=81:=by
  unfold headT; rw [em,eh]; dsimp only; rw [if_pos (Int.le_refl _)]
 have l2:p2.tasks.length=p.tasks.length:=by rw [e2,List.length_set]
 have hok:∀ j,j < m→headT p2 j=0:=fun j hj=>by
  obtain ⟨t,htj⟩:∃ t,p.tasks[j]? = some t:=⟨_,List.getElem?_eq_getElem (by omega)⟩
  have e3:p2.tasks[j]? = some t:=by rw [e2,List.getElem?_set_ne (by omega),htj]
  have et:p2.tasks.take j=p.tasks.take j:=by
   rw [e2]
   refine List.ext_getElem? fun a=>?_
   by_cases ha:a < j
   ·rw [List.getElem?_take,List.getElem?_take,if_pos ha,if_pos ha,List.getElem?_set_ne (by omega)]
   ·rw [List.getElem?_take,List.getElem?_take,if_neg ha,if_neg ha]
  have hh:=ht.hart t (List.mem_of_getElem? htj)
  have e4:p2.tasks.any (hd3 t)=true→p.tasks.any (hd3 t)=true:=fun h=>by
   rw [List.any_eq_true] at h ⊢
   obtain ⟨x,hx,hx3⟩:=h
   rw [e2] at hx
   rcases List.mem_or_eq_of_mem_set hx with hx | rfl
   ·exact ⟨x,hx,hx3⟩
   ·simp only [hd3,Bool.and_eq_true,beq_iff_eq] at hx3
    have:=hx3.1.2; omega
  have h0:=ht.head j
  unfold headT at h0 ⊢
  rw [e3,eh,et]
  rw [htj] at h0
  dsimp only at h0 ⊢
  rw [if_neg (by omega)] at h0 ⊢
  split at h0
  ·cases h0
  rename_i h1
  rw [if_neg h1]
  split at h0
  ·rename_i h2; rw [if_pos h2]
  rename_i h2
  rw [if_neg h2]
  split at h0
  ·cases h0
  rename_i h3
  rw [if_neg h3]
  split at h0
  ·cases h0
  rename_i h4
  rw [if_neg fun h=>h4 (e4 h)]
 rcases hc with ⟨h,_⟩ | ⟨_,h,_⟩ | ⟨_,_,k',_,h1,h2,h3,h4,h5⟩ | ⟨_,_,h,_⟩ | ⟨_,_,h,_⟩
 ·rw [hr2] at h; cases h
 ·exact absurd hn h
 ·have e1:k' = m:=by
   rcases Nat.lt_trichotomy k' m with h | h | h
   ·exact absurd (hok k' h) h1
   ·exact h
   ·have:=h2 m h; rw [hbad] at this; cases this
  subst e1
  exact ⟨by rw [h3,hbad],h4,h5⟩
 ·have:=h m (by omega); rw [hbad] at this; cases this
 ·have:=h m (by omega); rw [hbad] at this; cases this
end Go.Eng.Sy
namespace Go.Eng
open Go
theorem fillL_rows {s:Nat}:∀ (xs:List (List Value)) (done rest:List Value) (k:Nat),done.length=k * s→rest.length=xs.length * s→(∀ x ∈ xs,x.length=s∧x.all (·.oneCell')=true) →
  fillL (done++rest) (((List.range' k xs.length).map fun i=>(i * s,s)).zip (xs.map fun x=>Value.agg x.toArray))=some (done++xs.flatten)
 | [],done,rest,k,_,hr,_=>by
  have:rest=[]:=List.length_eq_zero_iff.1 (by simpa using hr)
  subst this; simp [fillL]
 | v::vs,done,rest,k,hd,hr,h1=>by
  obtain ⟨a,b⟩:=h1 v (by simp)
  rw [List.length_cons,Nat.succ_mul] at hr
  have ih:=fillL_rows vs (done++v) (rest.drop s) (k + 1) (by rw [List.length_append,hd,a,Nat.succ_mul]) (by rw [List.length_drop]; omega) fun x hx=>h1 x (by simp [hx])
  simp only [List.length_cons,List.range'_succ,List.map_cons,List.zip_cons_cons,fillL]
  have ec:(Value.agg v.toArray).cells.toList=v:=rfl
  rw [ec,if_pos ⟨a,by rw [List.length_append,hd]; omega,b⟩]
  have e1:(done++rest).take (k * s)=done:=by rw [← hd]; simp
  have e2:(done++rest).drop (k * s + s)=rest.drop s:=by rw [← hd,← List.drop_drop]; simp
  rw [e1,e2]
  simpa using ih
theorem bslice_rows {s n:Nat} {zs:List Value} {xs:List (List Value)} {parts:List (Nat × Nat)} {vs:List Value} (hp:parts=(List.range' 0 xs.length).map fun i=>(i * s,s)) (hvs:vs=xs.map fun x=>Value.agg x.toArray) (hz:zs.length=xs.length * s) (h1:∀ x ∈ xs,x.length=s∧x.all (·.oneCell')=true) :
  aBslice zs parts n s vs=some (xs.flatten,fun id=>.slice (some ⟨id,0,none⟩) n s):=by
 have:=fillL_rows xs [] zs 0 (by simp) hz h1
 subst hp; subst hvs
 simp only [aBslice,List.length_map,List.length_range',if_true]
 rw [show zs=[]++zs from rfl,this]
 rfl
end Go.Eng
namespace Go.Eng.Sy
open Go Go.Eng Go.Proofs
theorem SlV.new (h:Heap) {s:Nat} {xs:List (List Value)} (h5:∀ x ∈ xs,x.length=s) {cells:List Value} (hc:cells=xs.flatten) {n:Nat} (hl:n=xs.length):SlV (h.alloc (.blk cells true)) s (.slice (some ⟨h.next,0,none⟩) n s) xs:=by
 subst hl; subst hc
 refine .inr ⟨h.next,0,rfl,.inr ⟨_,_,Heap.get_alloc_same _ _,fun i x hi=>?_⟩⟩
 obtain ⟨h1,h2⟩:=flatten_chunk h5 i x hi
 exact ⟨h5 x (List.mem_of_getElem? hi),by omega,by simpa using h2⟩
theorem store_exv (h:Heap) (k o n:Int) (m:List UInt8) {v:Value} (hv:IsS v):wStore 5 (h.alloc (.blk [.int .i64 0,.int .i64 0,.int .i64 0,.string ⟨#[]⟩,.slice none 0 0] true)) [.pointer (some ⟨h.next,0,none⟩),exV k o n m v] =
  some (undef,h.alloc (.blk [.int .i64 k,.int .i64 o,.int .i64 n,str m,v] true)):=by obtain ⟨_,_,_,rfl⟩:=hv; exact wStore_new rfl rfl rfl rfl
theorem ExsVB.new1 {B:Nat→Prop} {h:Heap} {e:Ex} {x:List Value} (hx:ExCB B h e x) (hB:B h.next):ExsVB B (h.alloc (.blk x true)) (.slice (some ⟨h.next,0,none⟩) 1 5) [e]:=by
 refine ⟨[x],.inr ⟨h.next,0,rfl,.inr ⟨hB,?_⟩⟩,by simp,x,[],rfl,hx.to (((Heap.le.refl h).alloc _).toB fun _ h=>h),rfl⟩
 rcases SlV.new h (s:=5) (xs:=[x]) (by simpa using hx.ones.1) (cells:=x) (by simp) rfl with ⟨e,_⟩ | ⟨id,off,e,ha⟩
 ·cases e
 ·cases e
  rcases ha with ha | ha
  ·cases ha
  ·exact ha
theorem ExsVB.new2 {B:Nat→Prop} {h:Heap} {e f:Ex} {x y:List Value} (hx:ExCB B h e x) (hy:ExCB B h f y) (hB:B h.next):ExsVB B (h.alloc (.blk (x++y) true)) (.slice (some ⟨h.next,0,none⟩) 2 5) [e,f]:=by
 refine ⟨[x,y],.inr ⟨h.next,0,rfl,.inr ⟨hB,?_⟩⟩,by simp,x,[y],rfl,hx.to (((Heap.le.refl h).alloc _).toB fun _ h=>h),y,[],rfl,hy.to (((Heap.le.refl h).alloc _).toB fun _ h=>h),rfl⟩
 rcases SlV.new h (s:=5) (xs:=[x,y]) (fun z hz=>by simp only [List.mem_cons,List.not_mem_nil,or_false] at hz; rcases hz with rfl | rfl; exact hx.ones.1; exact hy.ones.1) (cells:=x++y) (by simp) rfl with ⟨e,_⟩ | ⟨id,off,e,ha⟩
 ·cases e
 ·cases e
  rcases ha with ha | ha
  ·cases ha
  ·exact ha
theorem cutH {P:Heap→Prop} {G:Heap→Prop} {T:Prop} (h:(∀ x,P x→G x)→T) (g:∀ x,P x→G x):T:=h g
theorem bW3 (k:Int) (m:List UInt8):pBuild zS [(0,1),(1,1)] [.int .i64 k,str m]=some (stV k m [] 0 nilS nilS nilS):=rfl
theorem bW4 (k:Int) (m:List UInt8) {v:Value} (hv:IsS v):pBuild zS [(0,1),(1,1),(4,1)] [.int .i64 k,str m,v]=some (stV k m [] 0 v nilS nilS):=by obtain ⟨_,_,_,rfl⟩:=hv; rfl
theorem bW5 (k:Int) (m f:List UInt8):pBuild zS [(0,1),(1,1),(2,1)] [.int .i64 k,str m,str f]=some (stV k m f 0 nilS nilS nilS):=rfl
theorem bW8 (k:Int) {v:Value} (hv:IsS v):pBuild zS [(0,1),(4,1)] [.int .i64 k,v]=some (stV k [] [] 0 v nilS nilS):=by obtain ⟨_,_,_,rfl⟩:=hv; rfl
abbrev numX:List Value:=[.int .i64 1,.int .i64 0,.int .i64 1,str [],nilS]
theorem numX_B (B:Nat→Prop) (h:Heap):ExCB B h numE numX:=ExCB.of ExsVB.nil
abbrev varX (m:List UInt8):List Value:=[.int .i64 2,.int .i64 0,.int .i64 0,str m,nilS]
theorem varX_B (B:Nat→Prop) (h:Heap) (m:List UInt8):ExCB B h (varE m) (varX m):=ExCB.of ExsVB.nil
theorem ExsVB.le {B:Nat→Prop} {h h' : Heap} (hl:h.le h') {v:Value} {l:List Ex} (hv:ExsVB B h v l):ExsVB B h' v l:=hv.to (hl.toB fun _ h=>h)
theorem bsW2 {x y:List Value} (hx:x.length=5∧x.all (·.oneCell')=true) (hy:y.length=5∧y.all (·.oneCell')=true):aBslice [.int .i64 0,.int .i64 0,.int .i64 0,.string ⟨#[]⟩,.slice none 0 0,.int .i64 0,.int .i64 0,.int .i64 0,.string ⟨#[]⟩,.slice none 0 0] [(0,5),(5,5)] 2 5 [.agg x.toArray,.agg y.toArray]=some (x++y,fun id=>.slice (some ⟨id,0,none⟩) 2 5):=bs_ex2 hx hy
theorem Made.clone2 {n:Nat} {h:Heap} {p:Prg} {d r t:Value} {xs:List (List Value)} {q2:Nat} (hm:Made n (h.set q2 .dead) p d r t xs) (hn1:n≤h.next) (hqs:(h.get q2).isSome=true) (hl:xs.length≤1000) :
  ∃ va ha,wAppend 6 72 h [nilS,t]=some (va,ha)∧h.le ha∧notOf va q2∧(∀ i,(h.get i).isSome=true→notOf va i) ∧ ∀ h',(∀ i o,i≠q2→ha.get i=some o→h'.get i=some o)→Made n h' p d r va xs:=by
 have hm1:=hm.plainOf hqs
 obtain ⟨va,ha,a1,o1,l1,k1,n1,x1⟩:=(OwnS.nil (emptyH n) h 6).append (emptyH_le hn1) hm1.ht.sl (by omega) (b:=72) (by simp; omega) (by simp; omega)
 have le1:h.le ha:=⟨fun i o hg=>by rw [k1 i (by rw [hg]; rfl) (notOf_nil i)]; exact hg,x1⟩
 have nva:∀ i,(h.get i).isSome=true→notOf va i:=fun i hs=>n1 i hs (notOf_nil i)
 refine ⟨va,ha,a1,le1,nva q2 hqs,nva,fun h' hh=>?_⟩
 have hB:Heap.toB (PB n [t]) (PB n [va]) (h.set q2 .dead) h':=fun i cs own hb' hg=>⟨⟨hb'.1,fun w hw=>by
  rw [List.mem_singleton.1 hw]
  exact nva i (by rw [(dead_blk hg).2]; rfl)⟩,hh i _ (dead_blk hg).1 (le1.get (dead_blk hg).2)⟩
 refine ⟨hm.hd.to hB,hm.hr.to hB,?_,hm.hts.to hB,hm.dl,hm.rl,hm.tl⟩
 have o3:OwnS (emptyH n) ha 6 va xs:=by simpa using o1
 refine o3.get fun id hv hs=>?_
 obtain ⟨o,ho⟩:=Option.isSome_iff_exists.1 hs
 rw [hh id o (fun e=>nva q2 hqs _ _ (by rw [hv,e])) ho,ho]
theorem ahead_row {B:Nat→Prop} {h:Heap} {v:Value} {body:List St} (hv:StsVB B h v body) (hb:body.length≤1000) (hB:∀ id,h.next≤id→B id) {x:List Value} {s:St} (hx:StCB B h s x) :
  ∃ vb hb,wAppend 7 120 (h.alloc (.blk x true)) [.slice (some ⟨h.next,0,none⟩) 1 7,v]=some (vb,hb)∧h.le hb∧StsVB B hb vb (s::body):=by
 obtain ⟨ys,h1,h2,h3⟩:=hv
 have hl:=h3.length
 have l1:=(Heap.le.refl h).alloc (.blk x true)
 have ho:OwnS h (h.alloc (.blk x true)) 7 (.slice (some ⟨h.next,0,none⟩) 1 7) [x]:=.inr ⟨h.next,rfl,Nat.le_refl _,by simp [Heap.get_alloc_same],by simpa using hx.ones.1⟩
 obtain ⟨vb,hb',ap,ho2,le2,k2,n2,nx2⟩:=ho.append l1 (h1.plain.mono l1) (by omega) (b:=120) (by simp; omega) (by simp; omega)
 have ho3:OwnS (emptyH h.next) hb' 7 vb ([x]++ys):=ho2.weak (Nat.le_refl _)
 refine ⟨vb,hb',ap,le2,[x]++ys,(OwnS.slB ho3).to (Heap.toB_id fun id hb=>hB id hb),by simp; omega,?_⟩
 exact ⟨x,ys,rfl,hx.to fun id cs own hb hg=>⟨hb,le2.get hg⟩,h3.to fun id cs own hb hg=>⟨hb,le2.get hg⟩⟩
theorem bs_i9 (a b c d e f g i j:Int):aBslice [.int .i64 0,.int .i64 0,.int .i64 0,.int .i64 0,.int .i64 0,.int .i64 0,.int .i64 0,.int .i64 0,.int .i64 0] [(0,1),(1,1),(2,1),(3,1),(4,1),(5,1),(6,1),(7,1),(8,1)] 9 1 [.int .i64 a,.int .i64 b,.int .i64 c,.int .i64 d,.int .i64 e,.int .i64 f,.int .i64 g,.int .i64 i,.int .i64 j]=some ([.int .i64 a,.int .i64 b,.int .i64 c,.int .i64 d,.int .i64 e,.int .i64 f,.int .i64 g,.int .i64 i,.int .i64 j],fun id=>.slice (some ⟨id,0,none⟩) 9 1):=bslice_ones rfl rfl rfl (by simp [Value.cells,Value.oneCell'])
theorem rightP_hart {p:Prg} (hr:rightP p=true) {m:Nat} {l:Tsk} (hm:p.tasks[m]? = some l) {x:Int} (h0:0≤x) (h3:x≤3):rightP { p with tasks:=p.tasks.set m { l with hart:=x } }=true∧namesP { p with tasks:=p.tasks.set m { l with hart:=x } }=namesP p:=by
 constructor
 ·simp only [rightP,Bool.and_eq_true,decide_eq_true_eq,List.all_eq_true] at hr ⊢
  obtain ⟨⟨⟨⟨⟨⟨a1,a2⟩,a3⟩,a4⟩,a5⟩,a6⟩,a7⟩:=hr
  refine ⟨⟨⟨⟨⟨⟨a1,a2⟩,a3⟩,by rw [List.length_set]; exact a4⟩,a5⟩,a6⟩,fun t' ht'=>?_⟩
  rcases List.mem_or_eq_of_mem_set ht' with h | rfl
  ·exact a7 t' h
  ·have:=a7 l (List.mem_of_getElem? hm)
   simp only [taskOk,Bool.and_eq_true,decide_eq_true_eq] at this ⊢
   exact ⟨⟨⟨⟨this.1.1.1.1,h0,h3⟩,this.1.1.2⟩,this.1.2⟩,this.2⟩
 ·unfold namesP
  dsimp only
  congr 1
  rw [List.map_set]
  have:(p.tasks.map (·.name))[m]? = some l.name:=by simp [hm]
  exact List.ext_getElem? fun i=>by
   rw [List.getElem?_set]
   split
   ·rename_i h; subst h
    rw [this]
    have hl:m < p.tasks.length:=(List.getElem?_eq_some_iff.1 hm).1
    simp [hl]
   ·rfl
theorem badW_cnt:∀ s ∈ badW,cntS s=1:=by
 have h:badW.all (fun s=>cntS s == 1)=true:=by decide +kernel
 intro s hs
 have:=List.all_eq_true.1 h s hs
 simpa using this
def wantB:List Int:=[80,80,84,84,84,84,80,86,80]
theorem wantW_ne {nr i:Nat} (hi:i < 9) (h:i≠7∨nr≠0):(wantW nr)[i]? = wantB[i]?:=by
 unfold wantW wantB
 have:i=0∨i=1∨i=2∨i=3∨i=4∨i=5∨i=6∨i=7∨i=8:=by omega
 rcases this with rfl | rfl | rfl | rfl | rfl | rfl | rfl | rfl | rfl<;>simp
 rcases h with h | h
 ·exact absurd rfl h
 ·exact h
end Go.Eng.Sy
