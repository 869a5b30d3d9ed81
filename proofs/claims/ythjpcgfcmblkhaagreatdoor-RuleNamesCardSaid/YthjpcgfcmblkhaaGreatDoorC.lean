/-
  Part of a proof of the laws of layer 08 (rule): the code of the functions.
  Conditions: none.
-/
import Derived.Test.YthjpcgfcmblkhaaGreatDoorEc
import Derived.Test.YthjpcgfcmblkhaaGreatDoorProg
import Derived.KernelRfl
namespace Go.Eng.Sy
open Go Go.Eng Go.Proofs
noncomputable def c8_r0:List SOp:=[⟨0,.p .mov,[.c (.bool false)],none,false⟩]
noncomputable def c8_r1:List SOp:=[⟨0,.call 16,[.c (.string ⟨#[104,97,114,116,115,32,49,32,100,101,118,105,99,101,32,100,32,117,97,114,116,32,114,101,115,111,117,114,99,101,32,97,32,49,32,114,101,115,111,117,114,99,101,32,98,32,50,32,116,97,115,107,32,116,32,48,32,49,32,123,32,108,111,99,107,32,98,32,123,32,108,111,99,107,32,97,32,123,32,125,32,125,32,125]⟩)],none,false⟩,⟨1,.p .mov,[.t 0],none,false⟩,⟨2,.p (.extract 0),[.t 0],none,false⟩,⟨3,.p (.extract 1),[.t 1],none,false⟩,⟨4,.p (.extract 2),[.t 2],none,false⟩,⟨5,.a (.new [.int .i64 0,.slice none 0 0,.slice none 0 0,.slice none 0 0]),[],none,false⟩,⟨6,.w (.store 4),[.t 0,.t 3],none,false⟩,⟨7,.p .mov,[.t 3],none,false⟩,⟨8,.p .mov,[.t 3],none,false⟩]
noncomputable def c8_r2:List SOp:=[⟨0,.r (.load true 4),[.v 1],none,false⟩,⟨1,.call 10,[.t 0],none,false⟩,⟨2,.p .mov,[.t 0],none,false⟩,⟨3,.p (.extract 0),[.t 0],none,false⟩,⟨4,.p (.extract 1),[.t 1],none,false⟩,⟨5,.a (.new [.int .i64 0,.int .i64 0]),[],none,false⟩,⟨6,.p .mov,[.t 2],none,false⟩,⟨7,.w (.store 2),[.t 1,.t 2],none,false⟩]
noncomputable def c8_r3:List SOp:=[⟨0,.call 16,[.c (.string ⟨#[104,97,114,116,115,32,49,32,100,101,118,105,99,101,32,100,32,117,97,114,116,32,114,101,115,111,117,114,99,101,32,97,32,49,32,114,101,115,111,117,114,99,101,32,98,32,50,32,116,97,115,107,32,116,32,48,32,49,32,123,32,108,111,99,107,32,97,32,123,32,108,111,99,107,32,98,32,123,32,120,32,61,32,97,91,98,91,121,93,93,59,32,125,32,125,32,125]⟩)],none,false⟩,⟨1,.p .mov,[.t 0],none,false⟩,⟨2,.p (.extract 0),[.t 0],none,false⟩,⟨3,.p (.extract 1),[.t 1],none,false⟩,⟨4,.p (.extract 2),[.t 2],none,false⟩,⟨5,.a (.new [.int .i64 0,.slice none 0 0,.slice none 0 0,.slice none 0 0]),[],none,false⟩,⟨6,.w (.store 4),[.t 0,.t 3],none,false⟩,⟨7,.p .mov,[.t 3],none,false⟩,⟨8,.p .mov,[.t 3],none,false⟩]
noncomputable def c8_r4:List SOp:=[⟨0,.r (.load true 4),[.v 5],none,false⟩,⟨1,.call 10,[.t 0],none,false⟩,⟨2,.p .mov,[.t 0],none,false⟩,⟨3,.p (.extract 0),[.t 0],none,false⟩,⟨4,.p (.extract 1),[.t 1],none,false⟩,⟨5,.a (.new [.int .i64 0,.int .i64 0]),[],none,false⟩,⟨6,.p .mov,[.t 2],none,false⟩,⟨7,.w (.store 2),[.t 1,.t 2],none,false⟩]
noncomputable def c8_r5:List SOp:=[⟨0,.p (.fieldAddr 3),[.v 5],none,false⟩,⟨1,.r (.load false 1),[.t 0],none,false⟩,⟨2,.p .lenS,[.t 0],none,false⟩,⟨3,.p (.bin .neq),[.t 0,.c (.int .i64 1)],none,false⟩]
noncomputable def c8_r6:List SOp:=[⟨0,.p .mov,[.c (.bool false)],none,false⟩]
noncomputable def c8_r7:List SOp:=[⟨0,.p (.fieldAddr 3),[.v 5],none,false⟩,⟨1,.r (.load false 1),[.t 0],none,false⟩,⟨2,.p (.idxAddrS 6),[.t 0,.c (.int .i64 0)],none,false⟩,⟨3,.r (.load true 6),[.t 0],none,false⟩,⟨4,.call 17,[.t 0],none,false⟩,⟨5,.p .mov,[.t 0],none,false⟩]
noncomputable def c8_r8:List SOp:=[⟨0,.p .mov,[.v 2],none,false⟩,⟨1,.p (.bin .eql),[.t 0,.c (.int .i64 0)],none,false⟩,⟨2,.p .mov,[.t 0],none,false⟩,⟨3,.p .mov,[.v 3],some (0,true),false⟩,⟨4,.p (.bin .eql),[.t 0,.c (.int .i64 85)],some (1,true),false⟩,⟨5,.p .pick,[.t 2,.t 0,.c (.bool false)],none,false⟩,⟨6,.p .mov,[.t 0],none,false⟩,⟨7,.r (.load true 2),[.v 4],some (0,true),false⟩,⟨8,.p (.build [.int .i64 0,.int .i64 0] [(0,1),(1,1)]),[.c (.int .i64 0),.c (.int .i64 1)],some (1,true),false⟩,⟨9,.p (.eqK 31 (keyGood Tryz.prog 31) false),[.t 1,.t 0],some (2,true),false⟩,⟨10,.p .pick,[.t 3,.t 0,.c (.bool false)],none,false⟩,⟨11,.p .mov,[.t 0],none,false⟩,⟨12,.p .mov,[.v 6],some (0,true),false⟩,⟨13,.p (.bin .eql),[.t 0,.c (.int .i64 0)],some (1,true),false⟩,⟨14,.p .pick,[.t 2,.t 0,.c (.bool false)],none,false⟩,⟨15,.p .mov,[.t 0],none,false⟩,⟨16,.p .mov,[.v 7],some (0,true),false⟩,⟨17,.p (.bin .eql),[.t 0,.c (.int .i64 0)],some (1,true),false⟩,⟨18,.p .pick,[.t 2,.t 0,.c (.bool false)],none,false⟩,⟨19,.p .mov,[.t 0],none,false⟩,⟨20,.r (.load true 2),[.v 8],some (0,true),false⟩,⟨21,.p (.build [.int .i64 0,.int .i64 0] []),[],some (1,true),false⟩,⟨22,.p (.eqK 31 (keyGood Tryz.prog 31) false),[.t 1,.t 0],some (2,true),false⟩,⟨23,.p .pick,[.t 3,.t 0,.c (.bool false)],none,false⟩,⟨24,.p .mov,[.t 0],none,false⟩,⟨25,.p .mov,[.v 9],some (0,true),false⟩,⟨26,.p .lenS,[.t 0],some (1,true),false⟩,⟨27,.p (.bin .eql),[.t 0,.c (.int .i64 2)],some (2,true),false⟩,⟨28,.p .pick,[.t 3,.t 0,.c (.bool false)],none,false⟩,⟨29,.p .mov,[.t 0],none,false⟩,⟨30,.p .mov,[.v 9],some (0,true),false⟩,⟨31,.p (.idxAddrS 1),[.t 0,.c (.int .i64 0)],some (1,true),false⟩,⟨32,.r (.load false 1),[.t 0],some (2,true),false⟩,⟨33,.p (.bin .eql),[.t 0,.c (.string ⟨#[120]⟩)],some (3,true),false⟩,⟨34,.p .pick,[.t 4,.t 0,.c (.bool false)],none,false⟩,⟨35,.p .mov,[.t 0],none,false⟩,⟨36,.r (.load true 4),[.v 1],some (0,true),false⟩,⟨37,.call 11,[.t 0,.c (.string ⟨#[100]⟩)],some (1,true),false⟩,⟨38,.p (.bin .eql),[.t 0,.c (.int .i64 0)],some (2,true),false⟩,⟨39,.p .pick,[.t 3,.t 0,.c (.bool false)],none,false⟩,⟨40,.p .mov,[.t 0],none,false⟩,⟨41,.r (.load true 4),[.v 1],some (0,true),false⟩,⟨42,.call 12,[.t 0,.c (.string ⟨#[98]⟩)],some (1,true),false⟩,⟨43,.p (.bin .eql),[.t 0,.c (.int .i64 1)],some (2,true),false⟩,⟨44,.p .pick,[.t 3,.t 0,.c (.bool false)],none,false⟩,⟨45,.p .mov,[.t 0],none,false⟩,⟨46,.r (.load true 4),[.v 1],some (0,true),false⟩,⟨47,.call 12,[.t 0,.c (.string ⟨#[100]⟩)],some (1,true),false⟩,⟨48,.p (.bin .eql),[.t 0,.c (.int .i64 (-1))],some (2,true),false⟩,⟨49,.p .pick,[.t 3,.t 0,.c (.bool false)],none,false⟩,⟨50,.p .mov,[.t 0],none,false⟩]
noncomputable def c8:CFn:={ nargs:=0,vars:=[0,1,2,4,5,6,7,9,10,11],results:=[.var 0],body:=(.seq (.reg c8_r0 [(0,0)]) (.seq (.reg c8_r1 [(1,3),(2,1)]) (.seq (.reg c8_r2 [(3,1),(4,2)]) (.seq (.reg c8_r3 [(5,3),(6,1)]) (.seq (.reg c8_r4 [(7,1),(8,2)]) (.seq (.rcond c8_r5 [] 0 (.seq (.reg c8_r6 [(0,0)]) .ret) .skip) (.seq (.reg c8_r7 [(9,0)]) (.seq (.reg c8_r8 [(0,0)]) .ret)))))))) }
noncomputable def c9_r0:List SOp:=[⟨0,.a (.new [.int .i64 0,.slice none 0 0,.slice none 0 0,.slice none 0 0]),[],none,false⟩]
noncomputable def c9_r1:List SOp:=[⟨0,.p .mov,[.v 0],none,false⟩,⟨1,.p .lenS,[.t 0],none,false⟩,⟨2,.p (.bin .gtr),[.t 0,.c (.int .i64 400)],none,false⟩]
noncomputable def c9_r2:List SOp:=[⟨0,.p .mov,[.v 0],none,false⟩,⟨1,.p (.sliceS 1 false true),[.t 0,.c (.int .i64 400)],none,false⟩,⟨2,.p .mov,[.t 0],none,false⟩]
noncomputable def c9_r3:List SOp:=[⟨0,.p .mov,[.v 0],none,false⟩,⟨1,.p (.build [.slice none 0 0] [(0,1)]),[.t 0],none,false⟩,⟨2,.a .box,[.t 0],none,false⟩,⟨3,.p .mov,[.t 0],none,false⟩]
noncomputable def c9_r4:List SOp:=[⟨0,.p .mov,[.v 3],none,false⟩,⟨1,.call 18,[.t 0,.c (.int .i64 3)],none,false⟩,⟨2,.p (.bin .add),[.c (.int .i64 1),.t 0],none,false⟩,⟨3,.p (.build [.int .i64 0,.slice none 0 0,.slice none 0 0,.slice none 0 0] [(0,1)]),[.t 0],none,false⟩,⟨4,.a (.new [.int .i64 0,.slice none 0 0,.slice none 0 0,.slice none 0 0]),[],none,false⟩,⟨5,.w (.store 4),[.t 0,.t 1],none,false⟩]
noncomputable def c9_r5:List SOp:=[⟨0,.p .mov,[.v 1],none,false⟩,⟨1,.p (.build [.slice none 0 0,.slice none 0 0,.int .i64 0,.slice none 0 0,.bool false] [(4,1)]),[.t 0],none,false⟩,⟨2,.a (.new [.slice none 0 0,.slice none 0 0,.int .i64 0,.slice none 0 0,.bool false]),[],none,false⟩,⟨3,.w (.store 5),[.t 0,.t 1],none,false⟩]
noncomputable def c9_r6:List SOp:=[⟨0,.p .mov,[.v 3],none,false⟩,⟨1,.call 18,[.t 0,.c (.int .i64 3)],none,false⟩,⟨2,.p .mov,[.t 0],none,false⟩]
noncomputable def c9_r7:List SOp:=[⟨0,.p .mov,[.v 6],none,false⟩,⟨1,.p (.bin .geq),[.t 0,.c (.int .i64 0)],none,false⟩]
noncomputable def c9_r8:List SOp:=[⟨6,.p .mov,[.v 3],none,false⟩,⟨7,.call 18,[.t 0,.c (.int .i64 3)],none,true⟩,⟨0,.a (.bslice [.string ⟨#[]⟩,.string ⟨#[]⟩,.string ⟨#[]⟩] [(0,1),(1,1),(2,1)] 3 1),[.c (.string ⟨#[100]⟩),.c (.string ⟨#[101]⟩),.c (.string ⟨#[102]⟩)],none,false⟩,⟨1,.p (.fieldAddr 1),[.v 4],none,false⟩,⟨2,.r (.load false 1),[.t 0],none,false⟩,⟨3,.p .lenS,[.t 0],none,false⟩,⟨4,.p (.idxAddrS 1),[.t 3,.t 0],none,false⟩,⟨5,.r (.load false 1),[.t 0],none,false⟩,⟨8,.p (.bin .add),[.c (.int .i64 1),.t 6],none,false⟩,⟨9,.p (.build [.string ⟨#[]⟩,.int .i64 0] [(0,1),(1,1)]),[.t 1,.t 0],none,false⟩,⟨10,.a (.new [.string ⟨#[]⟩,.int .i64 0]),[],none,false⟩,⟨11,.w (.store 2),[.t 0,.t 1],none,false⟩]
noncomputable def c9_r9:List SOp:=[⟨0,.p (.fieldAddr 1),[.v 4],none,false⟩,⟨1,.r (.load false 1),[.t 0],none,false⟩,⟨2,.r (.load true 2),[.v 7],none,false⟩,⟨3,.a (.bslice [.string ⟨#[]⟩,.int .i64 0] [(0,2)] 1 2),[.t 0],none,false⟩,⟨4,.w (.append 2 24),[.t 2,.t 0],none,false⟩,⟨5,.p (.fieldAddr 1),[.v 4],none,false⟩,⟨6,.w (.store 1),[.t 0,.t 1],none,false⟩]
noncomputable def c9_r10:List SOp:=[⟨0,.p (.fieldAddr 0),[.v 5],none,false⟩,⟨1,.r (.load false 1),[.t 0],none,false⟩,⟨2,.p (.fieldAddr 0),[.v 7],none,false⟩,⟨3,.r (.load false 1),[.t 0],none,false⟩,⟨4,.a (.bslice [.string ⟨#[]⟩] [(0,1)] 1 1),[.t 0],none,false⟩,⟨5,.w (.append 1 16),[.t 3,.t 0],none,false⟩,⟨6,.p (.fieldAddr 0),[.v 5],none,false⟩,⟨7,.w (.store 1),[.t 0,.t 1],none,false⟩]
noncomputable def c9_r11:List SOp:=[⟨0,.p .mov,[.v 6],none,false⟩,⟨1,.p (.bin .sub),[.t 0,.c (.int .i64 1)],none,false⟩,⟨2,.p .mov,[.t 0],none,false⟩]
noncomputable def c9_l12:CCode:=(.seq (.rcond c9_r7 [] 0 .skip (.exit 0)) (.seq (.block 1 (.seq (.reg c9_r8 [(7,1)]) (.seq (.reg c9_r9 []) (.reg c9_r10 [])))) (.reg c9_r11 [(6,0)])))
noncomputable def c9_r13:List SOp:=[⟨0,.p .mov,[.v 3],none,false⟩,⟨1,.call 18,[.t 0,.c (.int .i64 3)],none,false⟩,⟨2,.p .mov,[.t 0],none,false⟩]
noncomputable def c9_r14:List SOp:=[⟨0,.p .mov,[.v 8],none,false⟩,⟨1,.p (.bin .gtr),[.t 0,.c (.int .i64 0)],none,false⟩]
noncomputable def c9_r15:List SOp:=[⟨6,.p .mov,[.v 3],none,false⟩,⟨7,.call 18,[.t 0,.c (.int .i64 8)],none,true⟩,⟨0,.a (.bslice [.string ⟨#[]⟩,.string ⟨#[]⟩] [(0,1),(1,1)] 2 1),[.c (.string ⟨#[114,97]⟩),.c (.string ⟨#[114,98]⟩)],none,false⟩,⟨1,.p (.fieldAddr 2),[.v 4],none,false⟩,⟨2,.r (.load false 1),[.t 0],none,false⟩,⟨3,.p .lenS,[.t 0],none,false⟩,⟨4,.p (.idxAddrS 1),[.t 3,.t 0],none,false⟩,⟨5,.r (.load false 1),[.t 0],none,false⟩,⟨8,.p (.bin .add),[.c (.int .i64 1),.t 6],none,false⟩,⟨9,.p (.build [.string ⟨#[]⟩,.int .i64 0] [(0,1),(1,1)]),[.t 1,.t 0],none,false⟩,⟨10,.a (.new [.string ⟨#[]⟩,.int .i64 0]),[],none,false⟩,⟨11,.w (.store 2),[.t 0,.t 1],none,false⟩]
noncomputable def c9_r16:List SOp:=[⟨0,.p (.fieldAddr 2),[.v 4],none,false⟩,⟨1,.r (.load false 1),[.t 0],none,false⟩,⟨2,.r (.load true 2),[.v 9],none,false⟩,⟨3,.a (.bslice [.string ⟨#[]⟩,.int .i64 0] [(0,2)] 1 2),[.t 0],none,false⟩,⟨4,.w (.append 2 24),[.t 2,.t 0],none,false⟩,⟨5,.p (.fieldAddr 2),[.v 4],none,false⟩,⟨6,.w (.store 1),[.t 0,.t 1],none,false⟩]
noncomputable def c9_r17:List SOp:=[⟨0,.p (.fieldAddr 1),[.v 5],none,false⟩,⟨1,.r (.load false 1),[.t 0],none,false⟩,⟨2,.p (.fieldAddr 0),[.v 9],none,false⟩,⟨3,.r (.load false 1),[.t 0],none,false⟩,⟨4,.a (.bslice [.string ⟨#[]⟩] [(0,1)] 1 1),[.t 0],none,false⟩,⟨5,.w (.append 1 16),[.t 3,.t 0],none,false⟩,⟨6,.p (.fieldAddr 1),[.v 5],none,false⟩,⟨7,.w (.store 1),[.t 0,.t 1],none,false⟩]
noncomputable def c9_r18:List SOp:=[⟨0,.p .mov,[.v 8],none,false⟩,⟨1,.p (.bin .sub),[.t 0,.c (.int .i64 1)],none,false⟩,⟨2,.p .mov,[.t 0],none,false⟩]
noncomputable def c9_l19:CCode:=(.seq (.rcond c9_r14 [] 0 .skip (.exit 2)) (.seq (.block 3 (.seq (.reg c9_r15 [(9,1)]) (.seq (.reg c9_r16 []) (.reg c9_r17 [])))) (.reg c9_r18 [(8,0)])))
noncomputable def c9_r20:List SOp:=[⟨0,.p .mov,[.c (.int .i64 0)],none,false⟩]
noncomputable def c9_r21:List SOp:=[⟨0,.p .mov,[.v 10],none,false⟩,⟨1,.p (.fieldAddr 0),[.v 4],none,false⟩,⟨2,.r (.load false 1),[.t 0],none,false⟩,⟨3,.p (.bin .lss),[.t 2,.t 0],none,false⟩]
noncomputable def c9_r22:List SOp:=[⟨7,.p .mov,[.v 3],none,false⟩,⟨8,.call 18,[.t 0,.c (.int .i64 3)],none,true⟩,⟨10,.r (.load true 5),[.v 5],none,false⟩,⟨11,.p .mov,[.v 3],none,false⟩,⟨12,.call 19,[.t 1,.t 0,.c (.int .i64 3)],none,true⟩,⟨0,.p (.fieldAddr 3),[.v 4],none,false⟩,⟨1,.r (.load false 1),[.t 0],none,false⟩,⟨2,.a (.bslice [.string ⟨#[]⟩,.string ⟨#[]⟩,.string ⟨#[]⟩] [(0,1),(1,1),(2,1)] 3 1),[.c (.string ⟨#[116,97]⟩),.c (.string ⟨#[116,98]⟩),.c (.string ⟨#[116,99]⟩)],none,false⟩,⟨3,.p .mov,[.v 10],none,false⟩,⟨4,.p (.idxAddrS 1),[.t 1,.t 0],none,false⟩,⟨5,.r (.load false 1),[.t 0],none,false⟩,⟨6,.p .mov,[.v 10],none,false⟩,⟨9,.p (.bin .add),[.c (.int .i64 1),.t 10],none,false⟩,⟨13,.p (.build [.string ⟨#[]⟩,.bool false,.int .i64 0,.int .i64 0,.int .i64 0,.slice none 0 0] [(0,1),(2,1),(3,1),(5,1)]),[.t 2,.t 1,.t 0,.t 8],none,false⟩,⟨14,.a (.bslice [.string ⟨#[]⟩,.bool false,.int .i64 0,.int .i64 0,.int .i64 0,.slice none 0 0] [(0,6)] 1 6),[.t 0],none,false⟩,⟨15,.w (.append 6 72),[.t 8,.t 0],none,false⟩,⟨16,.p (.fieldAddr 3),[.v 4],none,false⟩,⟨17,.w (.store 1),[.t 0,.t 1],none,false⟩]
noncomputable def c9_r23:List SOp:=[⟨0,.p .mov,[.v 10],none,false⟩,⟨1,.p (.bin .add),[.t 0,.c (.int .i64 1)],none,false⟩,⟨2,.p .mov,[.t 0],none,false⟩]
noncomputable def c9_l24:CCode:=(.seq (.rcond c9_r21 [] 0 .skip (.exit 4)) (.seq (.block 5 (.reg c9_r22 [])) (.reg c9_r23 [(10,0)])))
noncomputable def c9_r25:List SOp:=[⟨0,.p .mov,[.v 3],none,false⟩,⟨1,.call 18,[.t 0,.c (.int .i64 4)],none,false⟩,⟨2,.p .mov,[.t 0],none,false⟩]
noncomputable def c9_r26:List SOp:=[⟨0,.p .mov,[.v 11],none,false⟩,⟨1,.p (.bin .gtr),[.t 0,.c (.int .i64 0)],none,false⟩]
noncomputable def c9_r27:List SOp:=[⟨0,.p (.fieldAddr 3),[.v 4],none,false⟩,⟨1,.r (.load false 1),[.t 0],none,false⟩,⟨2,.p .lenS,[.t 0],none,false⟩,⟨3,.p (.fieldAddr 0),[.v 4],none,false⟩,⟨4,.r (.load false 1),[.t 0],none,false⟩,⟨5,.p (.bin .sub),[.t 2,.t 0],none,false⟩,⟨6,.p .mov,[.t 0],none,false⟩]
noncomputable def c9_r28:List SOp:=[⟨6,.p .mov,[.v 3],none,false⟩,⟨7,.p (.fieldAddr 0),[.v 4],none,false⟩,⟨8,.r (.load false 1),[.t 0],none,false⟩,⟨9,.call 18,[.t 2,.t 0],none,true⟩,⟨10,.p .mov,[.v 3],none,false⟩,⟨11,.call 18,[.t 0,.c (.int .i64 4)],none,true⟩,⟨14,.p .mov,[.v 3],none,false⟩,⟨15,.call 18,[.t 0,.c (.int .i64 2)],none,true⟩,⟨18,.r (.load true 5),[.v 5],none,false⟩,⟨19,.p .mov,[.v 3],none,false⟩,⟨20,.call 19,[.t 1,.t 0,.c (.int .i64 2)],none,true⟩,⟨0,.p (.fieldAddr 3),[.v 4],none,false⟩,⟨1,.r (.load false 1),[.t 0],none,false⟩,⟨2,.a (.bslice [.string ⟨#[]⟩,.string ⟨#[]⟩,.string ⟨#[]⟩] [(0,1),(1,1),(2,1)] 3 1),[.c (.string ⟨#[104,97]⟩),.c (.string ⟨#[104,98]⟩),.c (.string ⟨#[104,99]⟩)],none,false⟩,⟨3,.p .mov,[.v 12],none,false⟩,⟨4,.p (.idxAddrS 1),[.t 1,.t 0],none,false⟩,⟨5,.r (.load false 1),[.t 0],none,false⟩,⟨12,.p (.bin .add),[.c (.int .i64 4),.t 11],none,false⟩,⟨13,.p .mov,[.v 12],none,false⟩,⟨16,.p (.bin .mul),[.t 11,.c (.int .i64 4)],none,false⟩,⟨17,.p (.bin .add),[.t 1,.t 0],none,false⟩,⟨21,.p (.build [.string ⟨#[]⟩,.bool false,.int .i64 0,.int .i64 0,.int .i64 0,.slice none 0 0] [(0,1),(1,1),(2,1),(3,1),(4,1),(5,1)]),[.t 4,.c (.bool true),.t 17,.t 3,.t 0,.t 10],none,false⟩,⟨22,.a (.bslice [.string ⟨#[]⟩,.bool false,.int .i64 0,.int .i64 0,.int .i64 0,.slice none 0 0] [(0,6)] 1 6),[.t 0],none,false⟩,⟨23,.w (.append 6 72),[.t 10,.t 0],none,false⟩,⟨24,.p (.fieldAddr 3),[.v 4],none,false⟩,⟨25,.w (.store 1),[.t 0,.t 1],none,false⟩]
noncomputable def c9_r29:List SOp:=[⟨0,.p .mov,[.v 11],none,false⟩,⟨1,.p (.bin .sub),[.t 0,.c (.int .i64 1)],none,false⟩,⟨2,.p .mov,[.t 0],none,false⟩]
noncomputable def c9_l30:CCode:=(.seq (.rcond c9_r26 [] 0 .skip (.exit 6)) (.seq (.block 7 (.seq (.reg c9_r27 [(12,0)]) (.reg c9_r28 []))) (.reg c9_r29 [(11,0)])))
noncomputable def c9_r31:List SOp:=[⟨0,.r (.load true 4),[.v 4],none,false⟩,⟨1,.w (.store 4),[.v 2,.t 0],none,false⟩]
noncomputable def c9:CFn:={ nargs:=2,vars:=[0,1,4,5,6,7,8,9,10,11,12,13,14],results:=[.cell 2 true 4],body:=(.seq (.reg c9_r0 [(2,0)]) (.seq (.rcond c9_r1 [] 0 (.reg c9_r2 [(0,0)]) .skip) (.seq (.reg c9_r3 [(3,0)]) (.seq (.reg c9_r4 [(4,1)]) (.seq (.reg c9_r5 [(5,1)]) (.seq (.seq (.reg c9_r6 [(6,0)]) (.block 0 (.loop c9_l12))) (.seq (.seq (.reg c9_r13 [(8,0)]) (.block 2 (.loop c9_l19))) (.seq (.seq (.reg c9_r20 [(10,0)]) (.block 4 (.loop c9_l24))) (.seq (.seq (.reg c9_r25 [(11,0)]) (.block 6 (.loop c9_l30))) (.seq (.reg c9_r31 []) .ret)))))))))) }
noncomputable def c10_r0:List SOp:=[⟨0,.a .box,[.v 0],none,false⟩,⟨1,.a (.new [.int .i64 0]),[],none,false⟩,⟨2,.a (.new [.int .i64 0,.int .i64 0]),[],none,false⟩]
noncomputable def c10_r1:List SOp:=[⟨0,.r (.load true 4),[.v 1],none,false⟩,⟨1,.call 20,[.t 0],none,false⟩,⟨2,.p (.un .not),[.t 0],none,false⟩]
noncomputable def c10_r2:List SOp:=[⟨0,.p (.build [.int .i64 0,.int .i64 0] []),[],none,false⟩,⟨1,.w (.store 1),[.v 2,.c (.int .i64 1)],none,false⟩,⟨2,.w (.store 2),[.v 3,.t 1],none,false⟩]
noncomputable def c10_r3:List SOp:=[⟨0,.r (.load true 4),[.v 1],none,false⟩,⟨1,.w .mkMap,[],none,false⟩,⟨2,.p (.build [.int .i64 0,.slice none 0 0,.slice none 0 0,.slice none 0 0,.map none] [(0,4),(4,1)]),[.t 1,.t 0],none,false⟩,⟨3,.a .box,[.t 0],none,false⟩,⟨4,.a (.new [.pointer none]),[],none,false⟩,⟨5,.w (.store 1),[.t 0,.t 1],none,false⟩]
noncomputable def c10_r4:List SOp:=[⟨0,.r (.load false 1),[.v 4],none,false⟩,⟨1,.call 21,[.t 0],none,false⟩,⟨2,.p (.un .not),[.t 0],none,false⟩]
noncomputable def c10_r5:List SOp:=[⟨0,.p (.build [.int .i64 0,.int .i64 0] []),[],none,false⟩,⟨1,.w (.store 1),[.v 2,.c (.int .i64 80)],none,false⟩,⟨2,.w (.store 2),[.v 3,.t 1],none,false⟩]
noncomputable def c10_r6:List SOp:=[⟨0,.p (.fieldAddr 3),[.v 1],none,false⟩,⟨1,.r (.load false 1),[.t 0],none,false⟩,⟨2,.p .lenS,[.t 0],none,false⟩,⟨3,.p .mov,[.c (.int .i64 0)],none,false⟩]
noncomputable def c10_r7:List SOp:=[⟨0,.p (.bin .lss),[.v 14,.v 13],none,false⟩]
noncomputable def c10_r8:List SOp:=[⟨0,.p .mov,[.v 14],none,false⟩,⟨1,.p .mov,[.t 0],none,false⟩]
noncomputable def c10_r9:List SOp:=[⟨0,.r (.load false 1),[.v 4],none,false⟩,⟨1,.p .mov,[.v 5],none,false⟩,⟨2,.call 22,[.t 1,.t 0],none,false⟩,⟨3,.p .mov,[.t 0],none,false⟩]
noncomputable def c10_r10:List SOp:=[⟨0,.p .mov,[.v 6],none,false⟩,⟨1,.p (.bin .neq),[.t 0,.c (.int .i64 0)],none,false⟩]
noncomputable def c10_r11:List SOp:=[⟨0,.p .mov,[.v 6],none,false⟩,⟨1,.p .mov,[.v 5],none,false⟩,⟨2,.p (.build [.int .i64 0,.int .i64 0] [(0,1),(1,1)]),[.t 0,.c (.int .i64 0)],none,false⟩,⟨3,.w (.store 1),[.v 2,.t 2],none,false⟩,⟨4,.w (.store 2),[.v 3,.t 1],none,false⟩]
noncomputable def c10_r12:List SOp:=[⟨0,.p (.bin .add),[.v 14,.c (.int .i64 1)],none,false⟩,⟨1,.p .mov,[.t 0],none,false⟩]
noncomputable def c10_l13:CCode:=(.seq (.reg c10_r7 [(15,0)]) (.seq (.cond (.v 15) .skip (.exit 0)) (.seq (.block 1 (.seq (.reg c10_r8 [(5,0)]) (.seq (.reg c10_r9 [(6,0)]) (.rcond c10_r10 [] 0 (.seq (.reg c10_r11 []) .ret) .skip)))) (.reg c10_r12 [(14,0)]))))
noncomputable def c10_r14:List SOp:=[⟨0,.p (.fieldAddr 3),[.v 1],none,false⟩,⟨1,.r (.load false 1),[.t 0],none,false⟩,⟨2,.p .lenS,[.t 0],none,false⟩,⟨3,.p .mov,[.c (.int .i64 0)],none,false⟩]
noncomputable def c10_r15:List SOp:=[⟨0,.p (.bin .lss),[.v 18,.v 17],none,false⟩]
noncomputable def c10_r16:List SOp:=[⟨0,.p .mov,[.v 18],none,false⟩,⟨1,.p (.idxAddrS 6),[.v 16,.v 18],none,false⟩,⟨2,.r (.load true 6),[.t 0],none,false⟩,⟨3,.a (.new [.int .i64 0]),[],none,false⟩,⟨4,.a (.new [.string ⟨#[]⟩,.bool false,.int .i64 0,.int .i64 0,.int .i64 0,.slice none 0 0]),[],none,false⟩,⟨5,.w (.store 1),[.t 1,.t 4],none,false⟩,⟨6,.w (.store 6),[.t 1,.t 3],none,false⟩]
noncomputable def c10_r17:List SOp:=[⟨0,.a (.new [.int .i64 0]),[],none,false⟩,⟨1,.w (.store 1),[.t 0,.c (.int .i64 0)],none,false⟩]
noncomputable def c10_r18:List SOp:=[⟨0,.p (.fieldAddr 5),[.v 8],none,false⟩,⟨1,.r (.load false 1),[.t 0],none,false⟩,⟨2,.call 23,[.t 0,.c (.slice none 0 0)],none,false⟩]
noncomputable def c10_r19:List SOp:=[⟨0,.a (.new [.int .i64 0,.string ⟨#[]⟩,.string ⟨#[]⟩,.int .i64 0,.slice none 0 0,.slice none 0 0,.slice none 0 0]),[],none,false⟩,⟨1,.w (.store 7),[.t 0,.v 21],none,false⟩]
noncomputable def c10_r20:List SOp:=[⟨0,.p .mov,[.v 22],none,false⟩]
noncomputable def c10_r21:List SOp:=[⟨0,.r (.load false 1),[.v 4],none,false⟩,⟨1,.r (.load true 7),[.v 10],none,false⟩,⟨2,.p .mov,[.v 11],none,false⟩,⟨3,.call 24,[.t 2,.t 1,.t 0],none,false⟩,⟨4,.p .mov,[.t 0],none,false⟩]
noncomputable def c10_r22:List SOp:=[⟨0,.p .mov,[.v 12],none,false⟩,⟨1,.p (.bin .neq),[.t 0,.c (.int .i64 0)],none,false⟩]
noncomputable def c10_r23:List SOp:=[⟨0,.p .mov,[.v 12],none,false⟩,⟨4,.w (.store 1),[.v 2,.t 0],none,true⟩,⟨1,.r (.load false 1),[.v 7],none,false⟩,⟨2,.r (.load false 1),[.v 9],none,false⟩,⟨3,.p (.build [.int .i64 0,.int .i64 0] [(0,1),(1,1)]),[.t 1,.t 0],none,false⟩,⟨5,.w (.store 2),[.v 3,.t 0],none,false⟩]
noncomputable def c10_r24:List SOp:=[⟨0,.r (.load false 1),[.v 9],none,false⟩,⟨1,.p (.bin .add),[.t 0,.c (.int .i64 1)],none,false⟩,⟨2,.w (.store 1),[.v 9,.t 0],none,false⟩]
noncomputable def c10_a25:CCode:=(.seq (.reg c10_r19 [(10,1)]) (.reg c10_r20 [(11,0)]))
noncomputable def c10_b25:CCode:=(.block 5 (.seq (.seq (.reg c10_r21 [(12,0)]) (.rcond c10_r22 [] 0 (.seq (.reg c10_r23 []) .ret) .skip)) (.reg c10_r24 [])))
noncomputable def c10_r26:List SOp:=[⟨0,.p (.bin .add),[.v 18,.c (.int .i64 1)],none,false⟩,⟨1,.p .mov,[.t 0],none,false⟩]
noncomputable def c10_l27:CCode:=(.seq (.reg c10_r15 [(19,0)]) (.seq (.cond (.v 19) .skip (.exit 2)) (.seq (.block 3 (.seq (.reg c10_r16 [(7,3),(8,2)]) (.seq (.reg c10_r17 [(9,1)]) (.seq (.reg c10_r18 [(20,0)]) (.block 4 (.range (.v 20) [21,22] c10_a25 c10_b25)))))) (.reg c10_r26 [(18,0)]))))
noncomputable def c10_r28:List SOp:=[⟨0,.p (.build [.int .i64 0,.int .i64 0] []),[],none,false⟩,⟨1,.w (.store 1),[.v 2,.c (.int .i64 0)],none,false⟩,⟨2,.w (.store 2),[.v 3,.t 1],none,false⟩]
noncomputable def c10:CFn:={ nargs:=1,vars:=[0,1,2,3,4,5,6,7,8,9,10,11,12,27,28,29,41,42,43,44,50,51,52],results:=[.cell 2 false 1,.cell 3 true 2],body:=(.seq (.reg c10_r0 [(1,2),(2,1),(3,0)]) (.seq (.rcond c10_r1 [] 0 (.seq (.reg c10_r2 []) .ret) .skip) (.seq (.reg c10_r3 [(4,1)]) (.seq (.rcond c10_r4 [] 0 (.seq (.reg c10_r5 []) .ret) .skip) (.seq (.seq (.reg c10_r6 [(13,1),(14,0)]) (.block 0 (.loop c10_l13))) (.seq (.seq (.reg c10_r14 [(16,2),(17,1),(18,0)]) (.block 2 (.loop c10_l27))) (.seq (.reg c10_r28 []) .ret))))))) }
noncomputable def c11_r0:List SOp:=[⟨0,.a .box,[.v 0],none,false⟩,⟨1,.a .box,[.v 1],none,false⟩,⟨2,.p .mov,[.c (.int .i64 0)],none,false⟩]
noncomputable def c11_r1:List SOp:=[⟨0,.p (.fieldAddr 1),[.v 2],none,false⟩,⟨1,.r (.load false 1),[.t 0],none,false⟩,⟨2,.p (.mkFunc 26 0),[.v 3],none,false⟩,⟨3,.call 25,[.t 1,.t 0],none,false⟩,⟨4,.p .mov,[.t 0],none,false⟩]
noncomputable def c11:CFn:={ nargs:=2,vars:=[0,1,2,3,4],results:=[.var 4],body:=(.seq (.reg c11_r0 [(2,2),(3,1),(4,0)]) (.seq (.reg c11_r1 [(4,0)]) .ret)) }
noncomputable def c12_r0:List SOp:=[⟨0,.a .box,[.v 0],none,false⟩,⟨1,.a .box,[.v 1],none,false⟩,⟨2,.p .mov,[.c (.int .i64 0)],none,false⟩]
noncomputable def c12_r1:List SOp:=[⟨0,.p (.fieldAddr 2),[.v 2],none,false⟩,⟨1,.r (.load false 1),[.t 0],none,false⟩,⟨2,.p (.mkFunc 28 0),[.v 3],none,false⟩,⟨3,.call 27,[.t 1,.t 0],none,false⟩,⟨4,.p .mov,[.t 0],none,false⟩]
noncomputable def c12:CFn:={ nargs:=2,vars:=[0,1,2,3,4],results:=[.var 4],body:=(.seq (.reg c12_r0 [(2,2),(3,1),(4,0)]) (.seq (.reg c12_r1 [(4,0)]) .ret)) }
noncomputable def c13_r0:List SOp:=[⟨0,.p .mov,[.c (.int .i64 0)],none,false⟩]
noncomputable def c13_r1:List SOp:=[⟨0,.p .mov,[.v 0],none,false⟩,⟨1,.p (.bin .lss),[.t 0,.c (.int .i64 0)],none,false⟩]
noncomputable def c13_r2:List SOp:=[⟨0,.p .mov,[.v 0],none,false⟩,⟨1,.p (.bin .add),[.t 0,.c (.int .i64 1)],none,false⟩,⟨2,.p (.un .neg),[.t 0],none,false⟩,⟨3,.p .mov,[.t 0],none,false⟩]
noncomputable def c13_r3:List SOp:=[⟨0,.p .mov,[.v 0],none,false⟩,⟨1,.p .mov,[.v 1],none,false⟩,⟨2,.p (.bin .rem),[.t 1,.t 0],none,false⟩,⟨3,.p .mov,[.t 0],none,false⟩]
noncomputable def c13:CFn:={ nargs:=2,vars:=[0,1,4],results:=[.var 2],body:=(.seq (.reg c13_r0 [(2,0)]) (.seq (.rcond c13_r1 [] 0 (.reg c13_r2 [(0,0)]) .skip) (.seq (.reg c13_r3 [(2,0)]) .ret))) }
noncomputable def c15_r0:List SOp:=[⟨0,.p .mov,[.c (.slice none 0 0)],none,false⟩]
noncomputable def c15_r1:List SOp:=[⟨0,.p .mov,[.c (.slice none 0 0)],none,false⟩]
noncomputable def c15_r2:List SOp:=[⟨0,.p .mov,[.c (.int .i64 0)],none,false⟩]
noncomputable def c15_r3:List SOp:=[⟨0,.p .mov,[.v 5],none,false⟩,⟨1,.p .mov,[.v 0],none,false⟩,⟨2,.p .lenS,[.t 0],none,false⟩,⟨3,.p (.bin .lss),[.t 2,.t 0],none,false⟩]
noncomputable def c15_r4:List SOp:=[⟨0,.p .mov,[.v 0],none,false⟩,⟨1,.p .mov,[.v 5],none,false⟩,⟨2,.p (.idxAddrS 7),[.t 1,.t 0],none,false⟩,⟨3,.r (.load true 7),[.t 0],none,false⟩,⟨4,.a (.new [.int .i64 0,.string ⟨#[]⟩,.string ⟨#[]⟩,.int .i64 0,.slice none 0 0,.slice none 0 0,.slice none 0 0]),[],none,false⟩,⟨5,.w (.store 7),[.t 0,.t 1],none,false⟩]
noncomputable def c15_r5:List SOp:=[⟨0,.p (.fieldAddr 1),[.v 6],none,false⟩,⟨1,.r (.load false 1),[.t 0],none,false⟩,⟨2,.p .mov,[.v 1],none,false⟩,⟨3,.p (.bin .eql),[.t 1,.t 0],none,false⟩]
noncomputable def c15_r6:List SOp:=[⟨0,.p .mov,[.v 2],none,false⟩,⟨1,.p (.fieldAddr 1),[.v 6],none,false⟩,⟨2,.w (.store 1),[.t 0,.t 1],none,false⟩]
noncomputable def c15_r7:List SOp:=[⟨0,.p (.fieldAddr 2),[.v 6],none,false⟩,⟨1,.r (.load false 1),[.t 0],none,false⟩,⟨2,.p .mov,[.v 1],none,false⟩,⟨3,.p (.bin .eql),[.t 1,.t 0],none,false⟩]
noncomputable def c15_r8:List SOp:=[⟨0,.p .mov,[.v 2],none,false⟩,⟨1,.p (.fieldAddr 2),[.v 6],none,false⟩,⟨2,.w (.store 1),[.t 0,.t 1],none,false⟩]
noncomputable def c15_r9:List SOp:=[⟨0,.p .mov,[.c (.slice none 0 0)],none,false⟩]
noncomputable def c15_r10:List SOp:=[⟨0,.p .mov,[.c (.int .i64 0)],none,false⟩]
noncomputable def c15_r11:List SOp:=[⟨0,.p .mov,[.v 8],none,false⟩,⟨1,.p (.fieldAddr 4),[.v 6],none,false⟩,⟨2,.r (.load false 1),[.t 0],none,false⟩,⟨3,.p .lenS,[.t 0],none,false⟩,⟨4,.p (.bin .lss),[.t 3,.t 0],none,false⟩]
noncomputable def c15_r12:List SOp:=[⟨0,.p .mov,[.v 7],none,false⟩,⟨1,.p (.fieldAddr 4),[.v 6],none,false⟩,⟨2,.r (.load false 1),[.t 0],none,false⟩,⟨3,.p .mov,[.v 8],none,false⟩,⟨4,.p (.idxAddrS 5),[.t 1,.t 0],none,false⟩,⟨5,.r (.load true 5),[.t 0],none,false⟩,⟨6,.p .mov,[.v 1],none,false⟩,⟨7,.p .mov,[.v 2],none,false⟩,⟨8,.call 29,[.t 2,.t 1,.t 0],none,false⟩,⟨9,.a (.bslice [.int .i64 0,.int .i64 0,.int .i64 0,.string ⟨#[]⟩,.slice none 0 0] [(0,5)] 1 5),[.t 0],none,false⟩,⟨10,.w (.append 5 64),[.t 9,.t 0],none,false⟩,⟨11,.p .mov,[.t 0],none,false⟩]
noncomputable def c15_r13:List SOp:=[⟨0,.p .mov,[.v 8],none,false⟩,⟨1,.p (.bin .add),[.t 0,.c (.int .i64 1)],none,false⟩,⟨2,.p .mov,[.t 0],none,false⟩]
noncomputable def c15_l14:CCode:=(.seq (.rcond c15_r11 [] 0 .skip (.exit 2)) (.seq (.block 3 (.reg c15_r12 [(7,0)])) (.reg c15_r13 [(8,0)])))
noncomputable def c15_r15:List SOp:=[⟨0,.p .mov,[.v 7],none,false⟩,⟨1,.p (.fieldAddr 4),[.v 6],none,false⟩,⟨2,.w (.store 1),[.t 0,.t 1],none,false⟩]
noncomputable def c15_r16:List SOp:=[⟨0,.p (.fieldAddr 5),[.v 6],none,false⟩,⟨1,.r (.load false 1),[.t 0],none,false⟩,⟨2,.p .mov,[.v 1],none,false⟩,⟨3,.p .mov,[.v 2],none,false⟩,⟨4,.call 15,[.t 2,.t 1,.t 0],none,false⟩,⟨5,.p (.fieldAddr 5),[.v 6],none,false⟩,⟨6,.w (.store 1),[.t 0,.t 1],none,false⟩]
noncomputable def c15_r17:List SOp:=[⟨0,.p (.fieldAddr 6),[.v 6],none,false⟩,⟨1,.r (.load false 1),[.t 0],none,false⟩,⟨2,.p .mov,[.v 1],none,false⟩,⟨3,.p .mov,[.v 2],none,false⟩,⟨4,.call 15,[.t 2,.t 1,.t 0],none,false⟩,⟨5,.p (.fieldAddr 6),[.v 6],none,false⟩,⟨6,.w (.store 1),[.t 0,.t 1],none,false⟩]
noncomputable def c15_r18:List SOp:=[⟨0,.p .mov,[.v 4],none,false⟩,⟨1,.r (.load true 7),[.v 6],none,false⟩,⟨2,.a (.bslice [.int .i64 0,.string ⟨#[]⟩,.string ⟨#[]⟩,.int .i64 0,.slice none 0 0,.slice none 0 0,.slice none 0 0] [(0,7)] 1 7),[.t 0],none,false⟩,⟨3,.w (.append 7 120),[.t 2,.t 0],none,false⟩,⟨4,.p .mov,[.t 0],none,false⟩]
noncomputable def c15_r19:List SOp:=[⟨0,.p .mov,[.v 5],none,false⟩,⟨1,.p (.bin .add),[.t 0,.c (.int .i64 1)],none,false⟩,⟨2,.p .mov,[.t 0],none,false⟩]
noncomputable def c15_l20:CCode:=(.seq (.rcond c15_r3 [] 0 .skip (.exit 0)) (.seq (.block 1 (.seq (.reg c15_r4 [(6,1)]) (.seq (.rcond c15_r5 [] 0 (.reg c15_r6 []) .skip) (.seq (.rcond c15_r7 [] 0 (.reg c15_r8 []) .skip) (.seq (.reg c15_r9 [(7,0)]) (.seq (.seq (.reg c15_r10 [(8,0)]) (.block 2 (.loop c15_l14))) (.seq (.reg c15_r15 []) (.seq (.reg c15_r16 []) (.seq (.reg c15_r17 []) (.reg c15_r18 [(4,0)])))))))))) (.reg c15_r19 [(5,0)])))
noncomputable def c15_r21:List SOp:=[⟨0,.p .mov,[.v 4],none,false⟩,⟨1,.p .mov,[.t 0],none,false⟩]
noncomputable def c15:CFn:={ nargs:=3,vars:=[0,1,2,6,7,8,9,10,11],results:=[.var 3],body:=(.seq (.reg c15_r0 [(3,0)]) (.seq (.reg c15_r1 [(4,0)]) (.seq (.seq (.reg c15_r2 [(5,0)]) (.block 0 (.loop c15_l20))) (.seq (.reg c15_r21 [(3,0)]) .ret)))) }
noncomputable def c18_r0:List SOp:=[⟨0,.p .mov,[.c (.int .i64 0)],none,false⟩]
noncomputable def c18_r1:List SOp:=[⟨0,.p .mov,[.v 0],none,false⟩,⟨1,.p .nilCheck,[.t 0],none,false⟩,⟨2,.p (.fieldAddr 0),[.t 0],none,false⟩,⟨3,.r (.load false 1),[.t 0],none,false⟩,⟨4,.p .lenS,[.t 0],none,false⟩,⟨5,.p (.bin .eql),[.t 0,.c (.int .i64 0)],none,false⟩]
noncomputable def c18_r2:List SOp:=[⟨0,.p .mov,[.c (.int .i64 0)],none,false⟩]
noncomputable def c18_r3:List SOp:=[⟨0,.p .mov,[.v 0],none,false⟩,⟨1,.p .nilCheck,[.t 0],none,false⟩,⟨2,.p (.fieldAddr 0),[.t 0],none,false⟩,⟨3,.r (.load false 1),[.t 0],none,false⟩,⟨4,.p (.idxAddrS 1),[.t 0,.c (.int .i64 0)],none,false⟩,⟨5,.r (.load false 1),[.t 0],none,false⟩,⟨6,.p .mov,[.v 1],none,false⟩,⟨7,.call 35,[.t 1,.t 0],none,false⟩,⟨8,.p .mov,[.t 0],none,false⟩]
noncomputable def c18_r4:List SOp:=[⟨0,.p .mov,[.v 0],none,false⟩,⟨1,.p .mov,[.v 0],none,false⟩,⟨2,.p .nilCheck,[.t 0],none,false⟩,⟨3,.p (.fieldAddr 0),[.t 0],none,false⟩,⟨4,.r (.load false 1),[.t 0],none,false⟩,⟨5,.p (.sliceS 1 true false),[.t 0,.c (.int .i64 1)],none,false⟩,⟨6,.p .nilCheck,[.t 5],none,false⟩,⟨7,.p (.fieldAddr 0),[.t 0],none,false⟩,⟨8,.w (.store 1),[.t 0,.t 2],none,false⟩]
noncomputable def c18_r5:List SOp:=[⟨0,.p .mov,[.v 3],none,false⟩,⟨1,.p .mov,[.t 0],none,false⟩]
noncomputable def c18:CFn:={ nargs:=2,vars:=[0,1,4,5],results:=[.var 2],body:=(.seq (.reg c18_r0 [(2,0)]) (.seq (.rcond c18_r1 [] 0 (.seq (.reg c18_r2 [(2,0)]) .ret) .skip) (.seq (.reg c18_r3 [(3,0)]) (.seq (.reg c18_r4 []) (.seq (.reg c18_r5 [(2,0)]) .ret))))) }
noncomputable def c19_r0:List SOp:=[⟨0,.a .box,[.v 0],none,false⟩,⟨1,.p .mov,[.c (.slice none 0 0)],none,false⟩]
noncomputable def c19_r1:List SOp:=[⟨0,.p .mov,[.c (.slice none 0 0)],none,false⟩]
noncomputable def c19_r2:List SOp:=[⟨0,.p .mov,[.v 1],none,false⟩,⟨1,.call 18,[.t 0,.c (.int .i64 4)],none,false⟩,⟨2,.p .mov,[.t 0],none,false⟩]
noncomputable def c19_r3:List SOp:=[⟨0,.p .mov,[.v 6],none,false⟩,⟨1,.p (.bin .gtr),[.t 0,.c (.int .i64 0)],none,false⟩]
noncomputable def c19_r4:List SOp:=[⟨0,.p .mov,[.v 5],none,false⟩,⟨1,.r (.load true 5),[.v 3],none,false⟩,⟨2,.p .mov,[.v 1],none,false⟩,⟨3,.p .mov,[.v 2],none,false⟩,⟨4,.call 36,[.t 2,.t 1,.t 0],none,false⟩,⟨5,.a (.bslice [.int .i64 0,.string ⟨#[]⟩,.string ⟨#[]⟩,.int .i64 0,.slice none 0 0,.slice none 0 0,.slice none 0 0] [(0,7)] 1 7),[.t 0],none,false⟩,⟨6,.w (.append 7 120),[.t 5,.t 0],none,false⟩,⟨7,.p .mov,[.t 0],none,false⟩]
noncomputable def c19_r5:List SOp:=[⟨0,.p .mov,[.v 6],none,false⟩,⟨1,.p (.bin .sub),[.t 0,.c (.int .i64 1)],none,false⟩,⟨2,.p .mov,[.t 0],none,false⟩]
noncomputable def c19_l6:CCode:=(.seq (.rcond c19_r3 [] 0 .skip (.exit 0)) (.seq (.block 1 (.reg c19_r4 [(5,0)])) (.reg c19_r5 [(6,0)])))
noncomputable def c19_r7:List SOp:=[⟨0,.p .mov,[.v 5],none,false⟩,⟨1,.p .mov,[.t 0],none,false⟩]
noncomputable def c19:CFn:={ nargs:=3,vars:=[0,1,2,3,6,7,8],results:=[.var 4],body:=(.seq (.reg c19_r0 [(3,1),(4,0)]) (.seq (.reg c19_r1 [(5,0)]) (.seq (.seq (.reg c19_r2 [(6,0)]) (.block 0 (.loop c19_l6))) (.seq (.reg c19_r7 [(4,0)]) .ret)))) }
noncomputable def c20_r0:List SOp:=[⟨0,.a .box,[.v 0],none,false⟩,⟨1,.p .mov,[.c (.bool false)],none,false⟩]
noncomputable def c20_r1:List SOp:=[⟨0,.p .mov,[.f 37],none,false⟩]
noncomputable def c20_r2:List SOp:=[⟨0,.p .mov,[.f 40],none,false⟩]
noncomputable def c20_r3:List SOp:=[⟨0,.p .mov,[.f 41],none,false⟩]
noncomputable def c20_r4:List SOp:=[⟨0,.p (.fieldAddr 0),[.v 1],none,false⟩,⟨1,.r (.load false 1),[.t 0],none,false⟩,⟨2,.call 39,[.t 0,.c (.int .i64 1),.c (.int .i64 4)],none,false⟩,⟨3,.p .mov,[.t 0],none,false⟩,⟨4,.p (.fieldAddr 1),[.v 1],some (0,true),false⟩,⟨5,.r (.load false 1),[.t 0],some (1,true),false⟩,⟨6,.p .lenS,[.t 0],some (2,true),false⟩,⟨7,.p (.bin .leq),[.t 0,.c (.int .i64 8)],some (3,true),false⟩,⟨8,.p .pick,[.t 4,.t 0,.c (.bool false)],none,false⟩,⟨9,.p .mov,[.t 0],none,false⟩,⟨10,.p (.fieldAddr 2),[.v 1],some (0,true),false⟩,⟨11,.r (.load false 1),[.t 0],some (1,true),false⟩,⟨12,.p .lenS,[.t 0],some (2,true),false⟩,⟨13,.p (.bin .leq),[.t 0,.c (.int .i64 8)],some (3,true),false⟩,⟨14,.p .pick,[.t 4,.t 0,.c (.bool false)],none,false⟩,⟨15,.p .mov,[.t 0],none,false⟩,⟨16,.p (.fieldAddr 3),[.v 1],some (0,true),false⟩,⟨17,.r (.load false 1),[.t 0],some (1,true),false⟩,⟨18,.p .lenS,[.t 0],some (2,true),false⟩,⟨19,.p (.bin .leq),[.t 0,.c (.int .i64 16)],some (3,true),false⟩,⟨20,.p .pick,[.t 4,.t 0,.c (.bool false)],none,false⟩,⟨21,.p .mov,[.t 0],none,false⟩,⟨22,.p (.fieldAddr 1),[.v 1],some (0,true),false⟩,⟨23,.r (.load false 1),[.t 0],some (1,true),false⟩,⟨24,.p .mov,[.v 3],some (2,true),false⟩,⟨25,.call 43,[.t 1,.t 0],some (3,true),false⟩,⟨26,.p (.un .not),[.t 0],some (4,true),false⟩,⟨27,.p .pick,[.t 5,.t 0,.c (.bool false)],none,false⟩,⟨28,.p .mov,[.t 0],none,false⟩,⟨29,.p (.fieldAddr 2),[.v 1],some (0,true),false⟩,⟨30,.r (.load false 1),[.t 0],some (1,true),false⟩,⟨31,.p .mov,[.v 4],some (2,true),false⟩,⟨32,.call 44,[.t 1,.t 0],some (3,true),false⟩,⟨33,.p (.un .not),[.t 0],some (4,true),false⟩,⟨34,.p .pick,[.t 5,.t 0,.c (.bool false)],none,false⟩,⟨35,.p .mov,[.t 0],none,false⟩,⟨36,.p (.fieldAddr 3),[.v 1],some (0,true),false⟩,⟨37,.r (.load false 1),[.t 0],some (1,true),false⟩,⟨38,.p .mov,[.v 5],some (2,true),false⟩,⟨39,.call 45,[.t 1,.t 0],some (3,true),false⟩,⟨40,.p (.un .not),[.t 0],some (4,true),false⟩,⟨41,.p .pick,[.t 5,.t 0,.c (.bool false)],none,false⟩,⟨42,.p .mov,[.t 0],none,false⟩]
noncomputable def c20:CFn:={ nargs:=1,vars:=[0,1,2,3,4,5],results:=[.var 2],body:=(.seq (.reg c20_r0 [(1,1),(2,0)]) (.seq (.reg c20_r1 [(3,0)]) (.seq (.reg c20_r2 [(4,0)]) (.seq (.reg c20_r3 [(5,0)]) (.seq (.reg c20_r4 [(2,0)]) .ret))))) }
noncomputable def c21_r0:List SOp:=[⟨0,.p .mov,[.c (.bool false)],none,false⟩]
noncomputable def c21_r1:List SOp:=[⟨0,.p .mov,[.v 0],none,false⟩,⟨1,.p .nilCheck,[.t 0],none,false⟩,⟨2,.p (.fieldAddr 0),[.t 0],none,false⟩,⟨3,.p (.fieldAddr 1),[.t 0],none,false⟩,⟨4,.r (.load false 1),[.t 0],none,false⟩,⟨5,.p .lenS,[.t 0],none,false⟩,⟨6,.p .mov,[.c (.int .i64 0)],none,false⟩]
noncomputable def c21_r2:List SOp:=[⟨0,.p (.bin .lss),[.v 7,.v 6],none,false⟩]
noncomputable def c21_r3:List SOp:=[⟨0,.p (.idxAddrS 2),[.v 5,.v 7],none,false⟩,⟨1,.r (.load true 2),[.t 0],none,false⟩,⟨2,.a (.new [.string ⟨#[]⟩,.int .i64 0]),[],none,false⟩,⟨3,.w (.store 2),[.t 0,.t 1],none,false⟩]
noncomputable def c21_r4:List SOp:=[⟨0,.p .mov,[.v 0],none,false⟩,⟨1,.p .nilCheck,[.t 0],none,false⟩,⟨2,.p (.fieldAddr 4),[.t 0],none,false⟩,⟨3,.r (.load false 1),[.t 0],none,false⟩,⟨4,.p (.fieldAddr 0),[.v 2],none,false⟩,⟨5,.r (.load false 1),[.t 0],none,false⟩,⟨6,.r (.lookup (keyGood Tryz.prog 9) (.int .i64 0) false),[.t 2,.t 0],none,false⟩,⟨7,.p (.bin .add),[.t 0,.c (.int .i64 1)],none,false⟩,⟨8,.w (.mapSet (keyGood Tryz.prog 9)),[.t 4,.t 2,.t 0],none,false⟩]
noncomputable def c21_r5:List SOp:=[⟨0,.p (.bin .add),[.v 7,.c (.int .i64 1)],none,false⟩,⟨1,.p .mov,[.t 0],none,false⟩]
noncomputable def c21_l6:CCode:=(.seq (.reg c21_r2 [(8,0)]) (.seq (.cond (.v 8) .skip (.exit 0)) (.seq (.block 1 (.seq (.reg c21_r3 [(2,1)]) (.reg c21_r4 []))) (.reg c21_r5 [(7,0)]))))
noncomputable def c21_r7:List SOp:=[⟨0,.p .mov,[.v 0],none,false⟩,⟨1,.p .nilCheck,[.t 0],none,false⟩,⟨2,.p (.fieldAddr 0),[.t 0],none,false⟩,⟨3,.p (.fieldAddr 2),[.t 0],none,false⟩,⟨4,.r (.load false 1),[.t 0],none,false⟩,⟨5,.p .lenS,[.t 0],none,false⟩,⟨6,.p .mov,[.c (.int .i64 0)],none,false⟩]
noncomputable def c21_r8:List SOp:=[⟨0,.p (.bin .lss),[.v 11,.v 10],none,false⟩]
noncomputable def c21_r9:List SOp:=[⟨0,.p (.idxAddrS 2),[.v 9,.v 11],none,false⟩,⟨1,.r (.load true 2),[.t 0],none,false⟩,⟨2,.a (.new [.string ⟨#[]⟩,.int .i64 0]),[],none,false⟩,⟨3,.w (.store 2),[.t 0,.t 1],none,false⟩]
noncomputable def c21_r10:List SOp:=[⟨0,.p .mov,[.v 0],none,false⟩,⟨1,.p .nilCheck,[.t 0],none,false⟩,⟨2,.p (.fieldAddr 4),[.t 0],none,false⟩,⟨3,.r (.load false 1),[.t 0],none,false⟩,⟨4,.p (.fieldAddr 0),[.v 3],none,false⟩,⟨5,.r (.load false 1),[.t 0],none,false⟩,⟨6,.r (.lookup (keyGood Tryz.prog 9) (.int .i64 0) false),[.t 2,.t 0],none,false⟩,⟨7,.p (.bin .add),[.t 0,.c (.int .i64 1)],none,false⟩,⟨8,.w (.mapSet (keyGood Tryz.prog 9)),[.t 4,.t 2,.t 0],none,false⟩]
noncomputable def c21_r11:List SOp:=[⟨0,.p (.bin .add),[.v 11,.c (.int .i64 1)],none,false⟩,⟨1,.p .mov,[.t 0],none,false⟩]
noncomputable def c21_l12:CCode:=(.seq (.reg c21_r8 [(12,0)]) (.seq (.cond (.v 12) .skip (.exit 2)) (.seq (.block 3 (.seq (.reg c21_r9 [(3,1)]) (.reg c21_r10 []))) (.reg c21_r11 [(11,0)]))))
noncomputable def c21_r13:List SOp:=[⟨0,.p .mov,[.v 0],none,false⟩,⟨1,.p .nilCheck,[.t 0],none,false⟩,⟨2,.p (.fieldAddr 0),[.t 0],none,false⟩,⟨3,.p (.fieldAddr 3),[.t 0],none,false⟩,⟨4,.r (.load false 1),[.t 0],none,false⟩,⟨5,.p .lenS,[.t 0],none,false⟩,⟨6,.p .mov,[.c (.int .i64 0)],none,false⟩]
noncomputable def c21_r14:List SOp:=[⟨0,.p (.bin .lss),[.v 15,.v 14],none,false⟩]
noncomputable def c21_r15:List SOp:=[⟨0,.p (.idxAddrS 6),[.v 13,.v 15],none,false⟩,⟨1,.r (.load true 6),[.t 0],none,false⟩,⟨2,.a (.new [.string ⟨#[]⟩,.bool false,.int .i64 0,.int .i64 0,.int .i64 0,.slice none 0 0]),[],none,false⟩,⟨3,.w (.store 6),[.t 0,.t 1],none,false⟩]
noncomputable def c21_r16:List SOp:=[⟨0,.p .mov,[.v 0],none,false⟩,⟨1,.p .nilCheck,[.t 0],none,false⟩,⟨2,.p (.fieldAddr 4),[.t 0],none,false⟩,⟨3,.r (.load false 1),[.t 0],none,false⟩,⟨4,.p (.fieldAddr 0),[.v 4],none,false⟩,⟨5,.r (.load false 1),[.t 0],none,false⟩,⟨6,.r (.lookup (keyGood Tryz.prog 9) (.int .i64 0) false),[.t 2,.t 0],none,false⟩,⟨7,.p (.bin .add),[.t 0,.c (.int .i64 1)],none,false⟩,⟨8,.w (.mapSet (keyGood Tryz.prog 9)),[.t 4,.t 2,.t 0],none,false⟩]
noncomputable def c21_r17:List SOp:=[⟨0,.p (.bin .add),[.v 15,.c (.int .i64 1)],none,false⟩,⟨1,.p .mov,[.t 0],none,false⟩]
noncomputable def c21_l18:CCode:=(.seq (.reg c21_r14 [(16,0)]) (.seq (.cond (.v 16) .skip (.exit 4)) (.seq (.block 5 (.seq (.reg c21_r15 [(4,1)]) (.reg c21_r16 []))) (.reg c21_r17 [(15,0)]))))
noncomputable def c21_r19:List SOp:=[⟨0,.p .mov,[.v 0],none,false⟩,⟨1,.p .nilCheck,[.t 0],none,false⟩,⟨2,.p (.fieldAddr 4),[.t 0],none,false⟩,⟨3,.r (.load false 1),[.t 0],none,false⟩,⟨4,.r .lenMap,[.t 0],none,false⟩,⟨5,.p .mov,[.v 0],none,false⟩,⟨6,.p .nilCheck,[.t 0],none,false⟩,⟨7,.p (.fieldAddr 0),[.t 0],none,false⟩,⟨8,.p (.fieldAddr 1),[.t 0],none,false⟩,⟨9,.r (.load false 1),[.t 0],none,false⟩,⟨10,.p .lenS,[.t 0],none,false⟩,⟨11,.p .mov,[.v 0],none,false⟩,⟨12,.p .nilCheck,[.t 0],none,false⟩,⟨13,.p (.fieldAddr 0),[.t 0],none,false⟩,⟨14,.p (.fieldAddr 2),[.t 0],none,false⟩,⟨15,.r (.load false 1),[.t 0],none,false⟩,⟨16,.p .lenS,[.t 0],none,false⟩,⟨17,.p (.bin .add),[.t 6,.t 0],none,false⟩,⟨18,.p .mov,[.v 0],none,false⟩,⟨19,.p .nilCheck,[.t 0],none,false⟩,⟨20,.p (.fieldAddr 0),[.t 0],none,false⟩,⟨21,.p (.fieldAddr 3),[.t 0],none,false⟩,⟨22,.r (.load false 1),[.t 0],none,false⟩,⟨23,.p .lenS,[.t 0],none,false⟩,⟨24,.p (.bin .add),[.t 6,.t 0],none,false⟩,⟨25,.p (.bin .eql),[.t 20,.t 0],none,false⟩,⟨26,.p .mov,[.t 0],none,false⟩]
noncomputable def c21:CFn:={ nargs:=1,vars:=[0,2,4,6,8,13,14,15,16,32,33,34,35,51,52,53,54],results:=[.var 1],body:=(.seq (.reg c21_r0 [(1,0)]) (.seq (.seq (.reg c21_r1 [(5,2),(6,1),(7,0)]) (.block 0 (.loop c21_l6))) (.seq (.seq (.reg c21_r7 [(9,2),(10,1),(11,0)]) (.block 2 (.loop c21_l12))) (.seq (.seq (.reg c21_r13 [(13,2),(14,1),(15,0)]) (.block 4 (.loop c21_l18))) (.seq (.reg c21_r19 [(1,0)]) .ret))))) }
noncomputable def c22_r0:List SOp:=[⟨0,.p .mov,[.c (.int .i64 0)],none,false⟩]
noncomputable def c22_r1:List SOp:=[⟨0,.p .mov,[.v 0],none,false⟩,⟨1,.p .nilCheck,[.t 0],none,false⟩,⟨2,.p (.fieldAddr 0),[.t 0],none,false⟩,⟨3,.p (.fieldAddr 3),[.t 0],none,false⟩,⟨4,.r (.load false 1),[.t 0],none,false⟩,⟨5,.p .mov,[.v 1],none,false⟩,⟨6,.p (.idxAddrS 6),[.t 1,.t 0],none,false⟩,⟨7,.r (.load true 6),[.t 0],none,false⟩,⟨8,.a (.new [.string ⟨#[]⟩,.bool false,.int .i64 0,.int .i64 0,.int .i64 0,.slice none 0 0]),[],none,false⟩,⟨9,.w (.store 6),[.t 0,.t 1],none,false⟩]
noncomputable def c22_r2:List SOp:=[⟨0,.p .mov,[.v 0],none,false⟩,⟨1,.p .nilCheck,[.t 0],none,false⟩,⟨2,.p (.fieldAddr 0),[.t 0],none,false⟩,⟨3,.p (.fieldAddr 3),[.t 0],none,false⟩,⟨4,.r (.load false 1),[.t 0],none,false⟩,⟨5,.p .mov,[.v 1],none,false⟩,⟨6,.p (.sliceS 6 false true),[.t 1,.t 0],none,false⟩,⟨7,.p .mov,[.t 0],none,false⟩]
noncomputable def c22_r3:List SOp:=[⟨0,.p (.fieldAddr 2),[.v 3],none,false⟩,⟨1,.r (.load false 1),[.t 0],none,false⟩,⟨2,.p .mov,[.v 0],none,false⟩,⟨3,.p .nilCheck,[.t 0],none,false⟩,⟨4,.p (.fieldAddr 0),[.t 0],none,false⟩,⟨5,.p (.fieldAddr 0),[.t 0],none,false⟩,⟨6,.r (.load false 1),[.t 0],none,false⟩,⟨7,.p (.bin .geq),[.t 5,.t 0],none,false⟩,⟨8,.p .mov,[.t 0],none,false⟩]
noncomputable def c22_r4:List SOp:=[⟨0,.p (.fieldAddr 1),[.v 3],none,false⟩,⟨1,.r (.load false 1),[.t 0],none,false⟩,⟨2,.p (.un .not),[.t 0],none,false⟩,⟨3,.p .mov,[.t 0],none,false⟩,⟨4,.p .mov,[.v 4],some (0,true),false⟩,⟨5,.p (.mkFunc 46 0),[.v 3],some (1,true),false⟩,⟨6,.call 45,[.t 1,.t 0],some (2,true),false⟩,⟨7,.p .pick,[.t 3,.t 0,.c (.bool false)],none,false⟩,⟨8,.p .mov,[.t 0],none,false⟩]
noncomputable def c22_r5:List SOp:=[⟨0,.p .mov,[.c (.int .i64 81)],none,false⟩]
noncomputable def c22_r6:List SOp:=[⟨0,.p (.fieldAddr 1),[.v 3],none,false⟩,⟨1,.r (.load false 1),[.t 0],none,false⟩,⟨2,.p (.un .not),[.t 0],none,false⟩,⟨3,.p .mov,[.t 0],none,false⟩]
noncomputable def c22_r7:List SOp:=[⟨0,.p .mov,[.c (.int .i64 0)],none,false⟩]
noncomputable def c22_r8:List SOp:=[⟨0,.p .mov,[.v 4],none,false⟩,⟨1,.p (.mkFunc 47 0),[.v 3],none,false⟩,⟨2,.call 45,[.t 1,.t 0],none,false⟩,⟨3,.p .mov,[.t 0],none,false⟩]
noncomputable def c22_r9:List SOp:=[⟨0,.p .mov,[.c (.int .i64 82)],none,false⟩]
noncomputable def c22_r10:List SOp:=[⟨0,.p .mov,[.v 0],none,false⟩,⟨1,.p .nilCheck,[.t 0],none,false⟩,⟨2,.p (.fieldAddr 0),[.t 0],none,false⟩,⟨3,.p (.fieldAddr 3),[.t 0],none,false⟩,⟨4,.r (.load false 1),[.t 0],none,false⟩,⟨5,.p (.mkFunc 48 0),[.v 3],none,false⟩,⟨6,.call 45,[.t 1,.t 0],none,false⟩,⟨7,.p .mov,[.t 0],none,false⟩]
noncomputable def c22_r11:List SOp:=[⟨0,.p .mov,[.c (.int .i64 83)],none,false⟩]
noncomputable def c22_r12:List SOp:=[⟨0,.p .mov,[.c (.int .i64 0)],none,false⟩]
noncomputable def c22:CFn:={ nargs:=2,vars:=[0,1,4,5,6,22],results:=[.var 2],body:=(.seq (.reg c22_r0 [(2,0)]) (.seq (.reg c22_r1 [(3,1)]) (.seq (.reg c22_r2 [(4,0)]) (.seq (.block 0 (.seq (.rcond c22_r3 [(5,0)] 0 .skip (.reg c22_r4 [(5,0)])) (.cond (.v 5) (.seq (.reg c22_r5 [(2,0)]) .ret) (.rcond c22_r6 [] 0 (.seq (.reg c22_r7 [(2,0)]) .ret) (.rcond c22_r8 [] 0 (.seq (.reg c22_r9 [(2,0)]) .ret) (.rcond c22_r10 [] 0 (.seq (.reg c22_r11 [(2,0)]) .ret) .skip)))))) (.seq (.reg c22_r12 [(2,0)]) .ret))))) }
noncomputable def c23_r0:List SOp:=[⟨0,.a .box,[.v 0],none,false⟩,⟨1,.a .box,[.v 1],none,false⟩,⟨2,.p .mov,[.c (.nilFunc)],none,false⟩]
noncomputable def c23_r1:List SOp:=[⟨0,.p (.mkFunc 49 0),[.v 2,.v 3],none,false⟩,⟨1,.p .mov,[.t 0],none,false⟩]
noncomputable def c23:CFn:={ nargs:=2,vars:=[0,1,2,3,4],results:=[.var 4],body:=(.seq (.reg c23_r0 [(2,2),(3,1),(4,0)]) (.seq (.reg c23_r1 [(4,0)]) .ret)) }
noncomputable def c24_r0:List SOp:=[⟨0,.a .box,[.v 1],none,false⟩,⟨1,.p .mov,[.c (.int .i64 0)],none,false⟩]
noncomputable def c24_r1:List SOp:=[⟨0,.p (.fieldAddr 0),[.v 3],none,false⟩,⟨1,.r (.load false 1),[.t 0],none,false⟩]
noncomputable def c24_r2:List SOp:=[⟨0,.p (.bin .eql),[.v 5,.c (.int .i64 1)],none,false⟩,⟨1,.p .mov,[.t 0],none,false⟩]
noncomputable def c24_r3:List SOp:=[⟨0,.p .mov,[.v 0],none,false⟩,⟨1,.p (.fieldAddr 1),[.v 3],none,false⟩,⟨2,.r (.load false 1),[.t 0],none,false⟩,⟨3,.call 51,[.t 2,.t 0],none,false⟩,⟨4,.p .mov,[.t 0],none,false⟩]
noncomputable def c24_r4:List SOp:=[⟨0,.p (.bin .eql),[.v 5,.c (.int .i64 2)],none,false⟩,⟨1,.p .mov,[.t 0],none,false⟩]
noncomputable def c24_r5:List SOp:=[⟨0,.p .mov,[.v 0],none,false⟩,⟨1,.p (.fieldAddr 1),[.v 3],none,false⟩,⟨2,.r (.load false 1),[.t 0],none,false⟩,⟨3,.call 51,[.t 2,.t 0],none,false⟩,⟨4,.p .mov,[.t 0],none,false⟩]
noncomputable def c24_r6:List SOp:=[⟨0,.p .mov,[.v 4],none,false⟩,⟨1,.p (.bin .eql),[.t 0,.c (.int .i64 0)],none,false⟩]
noncomputable def c24_r7:List SOp:=[⟨0,.p .mov,[.v 0],none,false⟩,⟨1,.p (.fieldAddr 2),[.v 3],none,false⟩,⟨2,.r (.load false 1),[.t 0],none,false⟩,⟨3,.call 52,[.t 2,.t 0],none,false⟩,⟨4,.p .mov,[.t 0],none,false⟩]
noncomputable def c24_r8:List SOp:=[⟨0,.p (.bin .eql),[.v 5,.c (.int .i64 3)],none,false⟩,⟨1,.p .mov,[.t 0],none,false⟩]
noncomputable def c24_r9:List SOp:=[⟨0,.p .mov,[.v 0],none,false⟩,⟨1,.p (.fieldAddr 1),[.v 3],none,false⟩,⟨2,.r (.load false 1),[.t 0],none,false⟩,⟨3,.call 52,[.t 2,.t 0],none,false⟩,⟨4,.p .mov,[.t 0],none,false⟩]
noncomputable def c24_r10:List SOp:=[⟨0,.p (.bin .eql),[.v 5,.c (.int .i64 5)],none,false⟩,⟨1,.p .mov,[.t 0],none,false⟩]
noncomputable def c24_r11:List SOp:=[⟨0,.p .mov,[.v 0],none,false⟩,⟨1,.p (.fieldAddr 1),[.v 3],none,false⟩,⟨2,.r (.load false 1),[.t 0],none,false⟩,⟨3,.p .mov,[.v 2],none,false⟩,⟨4,.call 53,[.t 3,.t 1,.t 0],none,false⟩,⟨5,.p .mov,[.t 0],none,false⟩]
noncomputable def c24_r12:List SOp:=[⟨0,.p (.bin .eql),[.v 5,.c (.int .i64 4)],none,false⟩,⟨1,.p .mov,[.t 0],none,false⟩]
noncomputable def c24_r13:List SOp:=[⟨0,.p .mov,[.v 0],none,false⟩,⟨1,.p (.fieldAddr 1),[.v 3],none,false⟩,⟨2,.r (.load false 1),[.t 0],none,false⟩,⟨3,.p .mov,[.v 2],none,false⟩,⟨4,.call 54,[.t 3,.t 1,.t 0],none,false⟩,⟨5,.p .mov,[.t 0],none,false⟩]
noncomputable def c24_r14:List SOp:=[⟨0,.p .mov,[.v 4],none,false⟩,⟨1,.p (.bin .neq),[.t 0,.c (.int .i64 0)],none,false⟩]
noncomputable def c24_r15:List SOp:=[⟨0,.p .mov,[.v 0],none,false⟩,⟨1,.p (.fieldAddr 4),[.v 3],none,false⟩,⟨2,.r (.load false 1),[.t 0],none,false⟩,⟨3,.p .mov,[.v 2],none,false⟩,⟨4,.call 55,[.t 3,.t 1,.t 0],none,false⟩,⟨5,.p .mov,[.t 0],none,false⟩]
noncomputable def c24:CFn:={ nargs:=3,vars:=[0,1,2,4,6,8],results:=[.var 4],body:=(.seq (.reg c24_r0 [(3,1),(4,0)]) (.seq (.seq (.reg c24_r1 [(5,0)]) (.block 0 (.rcond c24_r2 [] 0 (.reg c24_r3 [(4,0)]) (.rcond c24_r4 [] 0 (.seq (.reg c24_r5 [(4,0)]) (.rcond c24_r6 [] 0 (.reg c24_r7 [(4,0)]) .skip)) (.rcond c24_r8 [] 0 (.reg c24_r9 [(4,0)]) (.rcond c24_r10 [] 0 (.reg c24_r11 [(4,0)]) (.rcond c24_r12 [] 0 (.reg c24_r13 [(4,0)]) .skip))))))) (.seq (.rcond c24_r14 [] 0 .ret .skip) (.seq (.reg c24_r15 [(4,0)]) .ret)))) }
noncomputable def c25_r0:List SOp:=[⟨0,.p .mov,[.c (.int .i64 0)],none,false⟩]
noncomputable def c25_r1:List SOp:=[⟨0,.p .mov,[.v 0],none,false⟩,⟨1,.p .lenS,[.t 0],none,false⟩,⟨2,.p .mov,[.c (.int .i64 0)],none,false⟩]
noncomputable def c25_r2:List SOp:=[⟨0,.p (.bin .lss),[.v 5,.v 4],none,false⟩]
noncomputable def c25_r3:List SOp:=[⟨0,.p .mov,[.v 5],none,false⟩,⟨1,.p .mov,[.t 0],none,false⟩]
noncomputable def c25_r4:List SOp:=[⟨0,.p .mov,[.v 1],none,false⟩,⟨1,.p .mov,[.v 0],none,false⟩,⟨2,.p .mov,[.v 3],none,false⟩,⟨3,.p (.idxAddrS 2),[.t 1,.t 0],none,false⟩,⟨4,.r (.load true 2),[.t 0],none,false⟩,⟨5,.callV,[.t 4,.t 0],none,false⟩]
noncomputable def c25_r5:List SOp:=[⟨0,.p .mov,[.v 3],none,false⟩,⟨1,.p .mov,[.t 0],none,false⟩]
noncomputable def c25_r6:List SOp:=[⟨0,.p (.bin .add),[.v 5,.c (.int .i64 1)],none,false⟩,⟨1,.p .mov,[.t 0],none,false⟩]
noncomputable def c25_l7:CCode:=(.seq (.reg c25_r2 [(6,0)]) (.seq (.cond (.v 6) .skip (.exit 0)) (.seq (.block 1 (.seq (.reg c25_r3 [(3,0)]) (.rcond c25_r4 [] 0 (.seq (.reg c25_r5 [(2,0)]) .ret) .skip))) (.reg c25_r6 [(5,0)]))))
noncomputable def c25_r8:List SOp:=[⟨0,.p .mov,[.c (.int .i64 (-1))],none,false⟩]
noncomputable def c25:CFn:={ nargs:=2,vars:=[0,1,4,5,7,8,9],results:=[.var 2],body:=(.seq (.reg c25_r0 [(2,0)]) (.seq (.seq (.reg c25_r1 [(4,1),(5,0)]) (.block 0 (.loop c25_l7))) (.seq (.reg c25_r8 [(2,0)]) .ret))) }
noncomputable def c26_r0:List SOp:=[⟨0,.a .box,[.v 0],none,false⟩,⟨1,.p .mov,[.c (.bool false)],none,false⟩]
noncomputable def c26_r1:List SOp:=[⟨0,.p (.fieldAddr 0),[.v 2],none,false⟩,⟨1,.r (.load false 1),[.t 0],none,false⟩,⟨2,.r (.load false 1),[.v 1],none,false⟩,⟨3,.p (.bin .eql),[.t 1,.t 0],none,false⟩,⟨4,.p .mov,[.t 0],none,false⟩]
noncomputable def c26:CFn:={ nargs:=2,vars:=[0,1,2,3],results:=[.var 3],body:=(.seq (.reg c26_r0 [(2,1),(3,0)]) (.seq (.reg c26_r1 [(3,0)]) .ret)) }
noncomputable def c27_r0:List SOp:=[⟨0,.p .mov,[.c (.int .i64 0)],none,false⟩]
noncomputable def c27_r1:List SOp:=[⟨0,.p .mov,[.v 0],none,false⟩,⟨1,.p .lenS,[.t 0],none,false⟩,⟨2,.p .mov,[.c (.int .i64 0)],none,false⟩]
noncomputable def c27_r2:List SOp:=[⟨0,.p (.bin .lss),[.v 5,.v 4],none,false⟩]
noncomputable def c27_r3:List SOp:=[⟨0,.p .mov,[.v 5],none,false⟩,⟨1,.p .mov,[.t 0],none,false⟩]
noncomputable def c27_r4:List SOp:=[⟨0,.p .mov,[.v 1],none,false⟩,⟨1,.p .mov,[.v 0],none,false⟩,⟨2,.p .mov,[.v 3],none,false⟩,⟨3,.p (.idxAddrS 2),[.t 1,.t 0],none,false⟩,⟨4,.r (.load true 2),[.t 0],none,false⟩,⟨5,.callV,[.t 4,.t 0],none,false⟩]
noncomputable def c27_r5:List SOp:=[⟨0,.p .mov,[.v 3],none,false⟩,⟨1,.p .mov,[.t 0],none,false⟩]
noncomputable def c27_r6:List SOp:=[⟨0,.p (.bin .add),[.v 5,.c (.int .i64 1)],none,false⟩,⟨1,.p .mov,[.t 0],none,false⟩]
noncomputable def c27_l7:CCode:=(.seq (.reg c27_r2 [(6,0)]) (.seq (.cond (.v 6) .skip (.exit 0)) (.seq (.block 1 (.seq (.reg c27_r3 [(3,0)]) (.rcond c27_r4 [] 0 (.seq (.reg c27_r5 [(2,0)]) .ret) .skip))) (.reg c27_r6 [(5,0)]))))
noncomputable def c27_r8:List SOp:=[⟨0,.p .mov,[.c (.int .i64 (-1))],none,false⟩]
noncomputable def c27:CFn:={ nargs:=2,vars:=[0,1,4,5,7,8,9],results:=[.var 2],body:=(.seq (.reg c27_r0 [(2,0)]) (.seq (.seq (.reg c27_r1 [(4,1),(5,0)]) (.block 0 (.loop c27_l7))) (.seq (.reg c27_r8 [(2,0)]) .ret))) }
noncomputable def c28_r0:List SOp:=[⟨0,.a .box,[.v 0],none,false⟩,⟨1,.p .mov,[.c (.bool false)],none,false⟩]
noncomputable def c28_r1:List SOp:=[⟨0,.p (.fieldAddr 0),[.v 2],none,false⟩,⟨1,.r (.load false 1),[.t 0],none,false⟩,⟨2,.r (.load false 1),[.v 1],none,false⟩,⟨3,.p (.bin .eql),[.t 1,.t 0],none,false⟩,⟨4,.p .mov,[.t 0],none,false⟩]
noncomputable def c28:CFn:={ nargs:=2,vars:=[0,1,2,3],results:=[.var 3],body:=(.seq (.reg c28_r0 [(2,1),(3,0)]) (.seq (.reg c28_r1 [(3,0)]) .ret)) }
noncomputable def c29_r0:List SOp:=[⟨0,.a .box,[.v 0],none,false⟩,⟨1,.a (.new [.int .i64 0,.int .i64 0,.int .i64 0,.string ⟨#[]⟩,.slice none 0 0]),[],none,false⟩]
noncomputable def c29_r1:List SOp:=[⟨0,.p (.fieldAddr 3),[.v 3],none,false⟩,⟨1,.r (.load false 1),[.t 0],none,false⟩,⟨2,.p .mov,[.v 1],none,false⟩,⟨3,.p (.bin .eql),[.t 1,.t 0],none,false⟩]
noncomputable def c29_r2:List SOp:=[⟨0,.p .mov,[.v 2],none,false⟩,⟨1,.p (.fieldAddr 3),[.v 3],none,false⟩,⟨2,.w (.store 1),[.t 0,.t 1],none,false⟩]
noncomputable def c29_r3:List SOp:=[⟨0,.p .mov,[.c (.slice none 0 0)],none,false⟩]
noncomputable def c29_r4:List SOp:=[⟨0,.p .mov,[.c (.int .i64 0)],none,false⟩]
noncomputable def c29_r5:List SOp:=[⟨0,.p .mov,[.v 6],none,false⟩,⟨1,.p (.fieldAddr 4),[.v 3],none,false⟩,⟨2,.r (.load false 1),[.t 0],none,false⟩,⟨3,.p .lenS,[.t 0],none,false⟩,⟨4,.p (.bin .lss),[.t 3,.t 0],none,false⟩]
noncomputable def c29_r6:List SOp:=[⟨0,.p .mov,[.v 5],none,false⟩,⟨1,.p (.fieldAddr 4),[.v 3],none,false⟩,⟨2,.r (.load false 1),[.t 0],none,false⟩,⟨3,.p .mov,[.v 6],none,false⟩,⟨4,.p (.idxAddrS 5),[.t 1,.t 0],none,false⟩,⟨5,.r (.load true 5),[.t 0],none,false⟩,⟨6,.p .mov,[.v 1],none,false⟩,⟨7,.p .mov,[.v 2],none,false⟩,⟨8,.call 29,[.t 2,.t 1,.t 0],none,false⟩,⟨9,.a (.bslice [.int .i64 0,.int .i64 0,.int .i64 0,.string ⟨#[]⟩,.slice none 0 0] [(0,5)] 1 5),[.t 0],none,false⟩,⟨10,.w (.append 5 64),[.t 9,.t 0],none,false⟩,⟨11,.p .mov,[.t 0],none,false⟩]
noncomputable def c29_r7:List SOp:=[⟨0,.p .mov,[.v 6],none,false⟩,⟨1,.p (.bin .add),[.t 0,.c (.int .i64 1)],none,false⟩,⟨2,.p .mov,[.t 0],none,false⟩]
noncomputable def c29_l8:CCode:=(.seq (.rcond c29_r5 [] 0 .skip (.exit 0)) (.seq (.block 1 (.reg c29_r6 [(5,0)])) (.reg c29_r7 [(6,0)])))
noncomputable def c29_r9:List SOp:=[⟨0,.p .mov,[.v 5],none,false⟩,⟨1,.p (.fieldAddr 4),[.v 3],none,false⟩,⟨2,.w (.store 1),[.t 0,.t 1],none,false⟩]
noncomputable def c29_r10:List SOp:=[⟨0,.r (.load true 5),[.v 3],none,false⟩,⟨1,.w (.store 5),[.v 4,.t 0],none,false⟩]
noncomputable def c29:CFn:={ nargs:=3,vars:=[0,1,2,3,6,7,8],results:=[.cell 4 true 5],body:=(.seq (.reg c29_r0 [(3,1),(4,0)]) (.seq (.rcond c29_r1 [] 0 (.reg c29_r2 []) .skip) (.seq (.reg c29_r3 [(5,0)]) (.seq (.seq (.reg c29_r4 [(6,0)]) (.block 0 (.loop c29_l8))) (.seq (.reg c29_r9 []) (.seq (.reg c29_r10 []) .ret)))))) }
noncomputable def c35_r0:List SOp:=[⟨0,.p .mov,[.c (.int .i64 0)],none,false⟩]
noncomputable def c35_r1:List SOp:=[⟨0,.p .mov,[.v 0],none,false⟩,⟨1,.p (.bin .lss),[.t 0,.c (.int .i64 0)],none,false⟩]
noncomputable def c35_r2:List SOp:=[⟨0,.p .mov,[.v 0],none,false⟩,⟨1,.p (.bin .add),[.t 0,.c (.int .i64 1)],none,false⟩,⟨2,.p (.un .neg),[.t 0],none,false⟩,⟨3,.p .mov,[.t 0],none,false⟩]
noncomputable def c35_r3:List SOp:=[⟨0,.p .mov,[.v 0],none,false⟩,⟨1,.p .mov,[.v 1],none,false⟩,⟨2,.p (.bin .rem),[.t 1,.t 0],none,false⟩,⟨3,.p .mov,[.t 0],none,false⟩]
noncomputable def c35:CFn:={ nargs:=2,vars:=[0,1,4],results:=[.var 2],body:=(.seq (.reg c35_r0 [(2,0)]) (.seq (.rcond c35_r1 [] 0 (.reg c35_r2 [(0,0)]) .skip) (.seq (.reg c35_r3 [(2,0)]) .ret))) }
noncomputable def c36_r0:List SOp:=[⟨0,.a .box,[.v 0],none,false⟩,⟨1,.a (.new [.int .i64 0,.string ⟨#[]⟩,.string ⟨#[]⟩,.int .i64 0,.slice none 0 0,.slice none 0 0,.slice none 0 0]),[],none,false⟩]
noncomputable def c36_r1:List SOp:=[⟨0,.r (.load true 5),[.v 3],none,false⟩,⟨1,.p .mov,[.v 1],none,false⟩,⟨2,.a (.bslice [.string ⟨#[]⟩,.string ⟨#[]⟩,.string ⟨#[]⟩] [(0,1),(1,1),(2,1)] 3 1),[.c (.string ⟨#[120]⟩),.c (.string ⟨#[121]⟩),.c (.string ⟨#[122]⟩)],none,false⟩,⟨3,.call 67,[.t 2,.t 1,.t 0],none,false⟩,⟨4,.p .mov,[.t 0],none,false⟩]
noncomputable def c36_r2:List SOp:=[⟨0,.p .mov,[.v 1],none,false⟩,⟨1,.call 18,[.t 0,.c (.int .i64 12)],none,false⟩,⟨2,.p .mov,[.t 0],none,false⟩]
noncomputable def c36_r3:List SOp:=[⟨0,.p .mov,[.v 6],none,false⟩,⟨1,.p (.bin .lss),[.t 0,.c (.int .i64 2)],none,false⟩,⟨2,.p .mov,[.t 0],none,false⟩]
noncomputable def c36_r4:List SOp:=[⟨0,.p .mov,[.v 5],none,false⟩,⟨1,.r (.load true 5),[.v 3],none,false⟩,⟨2,.p .mov,[.v 1],none,false⟩,⟨3,.p (.fieldAddr 0),[.v 3],none,false⟩,⟨4,.r (.load false 1),[.t 0],none,false⟩,⟨5,.call 67,[.t 3,.t 2,.t 0],none,false⟩,⟨6,.p .mov,[.v 1],none,false⟩,⟨7,.call 18,[.t 0,.c (.int .i64 4)],none,false⟩,⟨8,.p (.build [.int .i64 0,.string ⟨#[]⟩,.string ⟨#[]⟩,.int .i64 0,.slice none 0 0,.slice none 0 0,.slice none 0 0] [(0,1),(1,1),(2,1),(3,1)]),[.c (.int .i64 2),.t 7,.t 2,.t 0],none,false⟩,⟨9,.w (.store 7),[.v 4,.t 0],none,false⟩]
noncomputable def c36_r5:List SOp:=[⟨0,.p .mov,[.v 6],none,false⟩,⟨1,.p (.bin .lss),[.t 0,.c (.int .i64 5)],none,false⟩,⟨2,.p .mov,[.t 0],none,false⟩]
noncomputable def c36_r6:List SOp:=[⟨0,.r (.load true 5),[.v 3],none,false⟩,⟨1,.p .mov,[.v 1],none,false⟩,⟨2,.p (.fieldAddr 0),[.v 3],none,false⟩,⟨3,.r (.load false 1),[.t 0],none,false⟩,⟨4,.call 67,[.t 3,.t 2,.t 0],none,true⟩,⟨5,.p .mov,[.v 1],none,false⟩,⟨6,.call 18,[.t 0,.c (.int .i64 4)],none,true⟩,⟨7,.r (.load true 5),[.v 3],none,false⟩,⟨8,.p .mov,[.v 1],none,false⟩,⟨9,.call 68,[.t 1,.t 0,.c (.int .i64 3)],none,false⟩,⟨10,.a (.bslice [.int .i64 0,.int .i64 0,.int .i64 0,.string ⟨#[]⟩,.slice none 0 0] [(0,5)] 1 5),[.t 0],none,false⟩,⟨11,.p (.build [.int .i64 0,.string ⟨#[]⟩,.string ⟨#[]⟩,.int .i64 0,.slice none 0 0,.slice none 0 0,.slice none 0 0] [(0,1),(1,1),(3,1),(4,1)]),[.c (.int .i64 3),.t 6,.t 4,.t 0],none,false⟩,⟨12,.w (.store 7),[.v 4,.t 0],none,false⟩]
noncomputable def c36_r7:List SOp:=[⟨0,.p .mov,[.v 6],none,false⟩,⟨1,.p (.bin .lss),[.t 0,.c (.int .i64 7)],none,false⟩,⟨2,.p .mov,[.t 0],none,false⟩,⟨3,.p (.fieldAddr 4),[.v 3],some (0,true),false⟩,⟨4,.r (.load false 1),[.t 0],some (1,true),false⟩,⟨5,.p .mov,[.t 0],some (2,true),false⟩,⟨6,.p (.fieldAddr 3),[.v 3],some (0,false),false⟩,⟨7,.r (.load false 1),[.t 0],some (1,false),false⟩,⟨8,.p .lenS,[.t 0],some (2,false),false⟩,⟨9,.p (.bin .gtr),[.t 0,.c (.int .i64 0)],some (3,false),false⟩,⟨10,.p .pick,[.t 4,.c (.bool true),.t 0],some (7,true),false⟩,⟨11,.p .pick,[.t 8,.t 0,.c (.bool false)],none,false⟩,⟨12,.p .mov,[.t 0],none,false⟩]
noncomputable def c36_r8:List SOp:=[⟨0,.r (.load true 5),[.v 3],none,false⟩,⟨1,.p .mov,[.v 1],none,false⟩,⟨2,.p (.fieldAddr 3),[.v 3],none,false⟩,⟨3,.r (.load false 1),[.t 0],none,false⟩,⟨4,.call 67,[.t 3,.t 2,.t 0],none,true⟩,⟨5,.r (.load true 5),[.v 3],none,false⟩,⟨6,.p .mov,[.v 1],none,false⟩,⟨7,.call 68,[.t 1,.t 0,.c (.int .i64 2)],none,true⟩,⟨8,.r (.load true 5),[.v 3],none,false⟩,⟨9,.p .mov,[.v 1],none,false⟩,⟨10,.call 68,[.t 1,.t 0,.c (.int .i64 3)],none,false⟩,⟨11,.a (.bslice [.int .i64 0,.int .i64 0,.int .i64 0,.string ⟨#[]⟩,.slice none 0 0,.int .i64 0,.int .i64 0,.int .i64 0,.string ⟨#[]⟩,.slice none 0 0] [(0,5),(5,5)] 2 5),[.t 3,.t 0],none,false⟩,⟨12,.p (.build [.int .i64 0,.string ⟨#[]⟩,.string ⟨#[]⟩,.int .i64 0,.slice none 0 0,.slice none 0 0,.slice none 0 0] [(0,1),(1,1),(4,1)]),[.c (.int .i64 4),.t 7,.t 0],none,false⟩,⟨13,.w (.store 7),[.v 4,.t 0],none,false⟩]
noncomputable def c36_r9:List SOp:=[⟨0,.p .mov,[.v 6],none,false⟩,⟨1,.p (.bin .lss),[.t 0,.c (.int .i64 9)],none,false⟩,⟨2,.p .mov,[.t 0],none,false⟩,⟨3,.p .mov,[.v 2],some (0,true),false⟩,⟨4,.p (.bin .gtr),[.t 0,.c (.int .i64 0)],some (1,true),false⟩,⟨5,.p .pick,[.t 2,.t 0,.c (.bool false)],none,false⟩,⟨6,.p .mov,[.t 0],none,false⟩,⟨7,.p (.fieldAddr 4),[.v 3],some (0,true),false⟩,⟨8,.r (.load false 1),[.t 0],some (1,true),false⟩,⟨9,.p .mov,[.t 0],some (2,true),false⟩,⟨10,.p (.fieldAddr 2),[.v 3],some (0,false),false⟩,⟨11,.r (.load false 1),[.t 0],some (1,false),false⟩,⟨12,.p (.fieldAddr 1),[.v 3],some (2,false),false⟩,⟨13,.r (.load false 1),[.t 0],some (3,false),false⟩,⟨14,.p .lenS,[.t 0],some (4,false),false⟩,⟨15,.p (.bin .lss),[.t 3,.t 0],some (5,false),false⟩,⟨16,.p .pick,[.t 6,.c (.bool true),.t 0],some (9,true),false⟩,⟨17,.p .pick,[.t 10,.t 0,.c (.bool false)],none,false⟩,⟨18,.p .mov,[.t 0],none,false⟩]
noncomputable def c36_r10:List SOp:=[⟨0,.r (.load true 5),[.v 3],none,false⟩,⟨1,.a (.new [.slice none 0 0,.slice none 0 0,.int .i64 0,.slice none 0 0,.bool false]),[],none,false⟩,⟨2,.w (.store 5),[.t 0,.t 1],none,false⟩]
noncomputable def c36_r11:List SOp:=[⟨0,.r (.load true 5),[.v 3],none,false⟩,⟨1,.p .mov,[.v 1],none,false⟩,⟨2,.p (.fieldAddr 1),[.v 3],none,false⟩,⟨3,.r (.load false 1),[.t 0],none,false⟩,⟨4,.call 67,[.t 3,.t 2,.t 0],none,false⟩,⟨5,.p .mov,[.t 0],none,false⟩]
noncomputable def c36_r12:List SOp:=[⟨0,.p (.fieldAddr 4),[.v 3],none,false⟩,⟨1,.r (.load false 1),[.t 0],none,false⟩,⟨2,.p (.un .not),[.t 0],none,false⟩]
noncomputable def c36_r13:List SOp:=[⟨2,.p .mov,[.v 1],none,false⟩,⟨3,.p (.fieldAddr 1),[.v 3],none,false⟩,⟨4,.r (.load false 1),[.t 0],none,false⟩,⟨5,.p .lenS,[.t 0],none,false⟩,⟨6,.p (.fieldAddr 2),[.v 3],none,false⟩,⟨7,.r (.load false 1),[.t 0],none,false⟩,⟨8,.p (.bin .sub),[.t 2,.t 0],none,false⟩,⟨9,.call 18,[.t 6,.t 0],none,true⟩,⟨0,.p (.fieldAddr 2),[.v 3],none,false⟩,⟨1,.r (.load false 1),[.t 0],none,false⟩,⟨10,.p (.bin .add),[.t 0,.t 2],none,false⟩,⟨11,.p .mov,[.t 0],none,false⟩]
noncomputable def c36_r14:List SOp:=[⟨0,.p (.fieldAddr 1),[.v 3],none,false⟩,⟨1,.r (.load false 1),[.t 0],none,false⟩,⟨2,.p .mov,[.v 9],none,false⟩,⟨3,.p (.idxAddrS 1),[.t 1,.t 0],none,false⟩,⟨4,.r (.load false 1),[.t 0],none,false⟩,⟨5,.p .mov,[.t 0],none,false⟩]
noncomputable def c36_r15:List SOp:=[⟨0,.p .mov,[.v 9],none,false⟩,⟨1,.p (.bin .add),[.t 0,.c (.int .i64 1)],none,false⟩,⟨2,.p (.fieldAddr 2),[.v 7],none,false⟩,⟨3,.w (.store 1),[.t 0,.t 1],none,false⟩]
noncomputable def c36_r16:List SOp:=[⟨0,.p (.fieldAddr 3),[.v 3],none,false⟩,⟨1,.r (.load false 1),[.t 0],none,false⟩,⟨2,.w (.append 1 16),[.c (.slice none 0 0),.t 0],none,false⟩,⟨3,.p .mov,[.v 8],none,false⟩,⟨4,.a (.bslice [.string ⟨#[]⟩] [(0,1)] 1 1),[.t 0],none,false⟩,⟨5,.w (.append 1 16),[.t 2,.t 0],none,false⟩,⟨6,.p (.fieldAddr 3),[.v 7],none,false⟩,⟨7,.w (.store 1),[.t 0,.t 1],none,false⟩]
noncomputable def c36_r17:List SOp:=[⟨0,.p .mov,[.v 8],none,false⟩,⟨1,.r (.load true 5),[.v 7],none,false⟩,⟨2,.p .mov,[.v 1],none,false⟩,⟨3,.p .mov,[.v 2],none,false⟩,⟨4,.p (.bin .sub),[.t 0,.c (.int .i64 1)],none,false⟩,⟨5,.call 19,[.t 3,.t 2,.t 0],none,false⟩,⟨6,.p (.build [.int .i64 0,.string ⟨#[]⟩,.string ⟨#[]⟩,.int .i64 0,.slice none 0 0,.slice none 0 0,.slice none 0 0] [(0,1),(1,1),(5,1)]),[.c (.int .i64 5),.t 5,.t 0],none,false⟩,⟨7,.w (.store 7),[.v 4,.t 0],none,false⟩]
noncomputable def c36_r18:List SOp:=[⟨0,.p .mov,[.v 6],none,false⟩,⟨1,.p (.bin .eql),[.t 0,.c (.int .i64 9)],none,false⟩,⟨2,.p .mov,[.t 0],none,false⟩,⟨3,.p .mov,[.v 2],some (0,true),false⟩,⟨4,.p (.bin .gtr),[.t 0,.c (.int .i64 0)],some (1,true),false⟩,⟨5,.p .pick,[.t 2,.t 0,.c (.bool false)],none,false⟩,⟨6,.p .mov,[.t 0],none,false⟩]
noncomputable def c36_r19:List SOp:=[⟨0,.r (.load true 5),[.v 3],none,false⟩,⟨1,.p .mov,[.v 1],none,false⟩,⟨2,.call 68,[.t 1,.t 0,.c (.int .i64 3)],none,true⟩,⟨4,.r (.load true 5),[.v 3],none,false⟩,⟨5,.p .mov,[.v 1],none,false⟩,⟨6,.p .mov,[.v 2],none,false⟩,⟨7,.p (.bin .sub),[.t 0,.c (.int .i64 1)],none,false⟩,⟨8,.call 19,[.t 3,.t 2,.t 0],none,true⟩,⟨9,.r (.load true 5),[.v 3],none,false⟩,⟨10,.p .mov,[.v 1],none,false⟩,⟨11,.p .mov,[.v 2],none,false⟩,⟨12,.p (.bin .sub),[.t 0,.c (.int .i64 1)],none,false⟩,⟨13,.call 19,[.t 3,.t 2,.t 0],none,false⟩,⟨3,.a (.bslice [.int .i64 0,.int .i64 0,.int .i64 0,.string ⟨#[]⟩,.slice none 0 0] [(0,5)] 1 5),[.t 10],none,false⟩,⟨14,.p (.build [.int .i64 0,.string ⟨#[]⟩,.string ⟨#[]⟩,.int .i64 0,.slice none 0 0,.slice none 0 0,.slice none 0 0] [(0,1),(4,1),(5,1),(6,1)]),[.c (.int .i64 6),.t 0,.t 6,.t 1],none,false⟩,⟨15,.w (.store 7),[.v 4,.t 0],none,false⟩]
noncomputable def c36_r20:List SOp:=[⟨0,.p .mov,[.v 6],none,false⟩,⟨1,.p (.bin .eql),[.t 0,.c (.int .i64 10)],none,false⟩,⟨2,.p .mov,[.t 0],none,false⟩,⟨3,.p .mov,[.v 2],some (0,true),false⟩,⟨4,.p (.bin .gtr),[.t 0,.c (.int .i64 0)],some (1,true),false⟩,⟨5,.p .pick,[.t 2,.t 0,.c (.bool false)],none,false⟩,⟨6,.p .mov,[.t 0],none,false⟩]
noncomputable def c36_r21:List SOp:=[⟨0,.p .mov,[.v 1],none,false⟩,⟨1,.call 18,[.t 0,.c (.int .i64 5)],none,true⟩,⟨2,.r (.load true 5),[.v 3],none,false⟩,⟨3,.p .mov,[.v 1],none,false⟩,⟨4,.p .mov,[.v 2],none,false⟩,⟨5,.p (.bin .sub),[.t 0,.c (.int .i64 1)],none,false⟩,⟨6,.call 19,[.t 3,.t 2,.t 0],none,false⟩,⟨7,.p (.build [.int .i64 0,.string ⟨#[]⟩,.string ⟨#[]⟩,.int .i64 0,.slice none 0 0,.slice none 0 0,.slice none 0 0] [(0,1),(3,1),(5,1)]),[.c (.int .i64 7),.t 5,.t 0],none,false⟩,⟨8,.w (.store 7),[.v 4,.t 0],none,false⟩]
noncomputable def c36_r22:List SOp:=[⟨0,.p .mov,[.v 6],none,false⟩,⟨1,.p (.bin .eql),[.t 0,.c (.int .i64 11)],none,false⟩,⟨2,.p .mov,[.t 0],none,false⟩]
noncomputable def c36_r23:List SOp:=[⟨0,.p (.build [.int .i64 0,.string ⟨#[]⟩,.string ⟨#[]⟩,.int .i64 0,.slice none 0 0,.slice none 0 0,.slice none 0 0] [(0,1)]),[.c (.int .i64 8)],none,false⟩,⟨1,.w (.store 7),[.v 4,.t 0],none,false⟩]
noncomputable def c36_r24:List SOp:=[⟨0,.p .mov,[.v 5],none,false⟩,⟨1,.r (.load true 5),[.v 3],none,false⟩,⟨2,.p .mov,[.v 1],none,false⟩,⟨3,.call 68,[.t 1,.t 0,.c (.int .i64 4)],none,false⟩,⟨4,.a (.bslice [.int .i64 0,.int .i64 0,.int .i64 0,.string ⟨#[]⟩,.slice none 0 0] [(0,5)] 1 5),[.t 0],none,false⟩,⟨5,.p (.build [.int .i64 0,.string ⟨#[]⟩,.string ⟨#[]⟩,.int .i64 0,.slice none 0 0,.slice none 0 0,.slice none 0 0] [(0,1),(1,1),(4,1)]),[.c (.int .i64 1),.t 4,.t 0],none,false⟩,⟨6,.w (.store 7),[.v 4,.t 0],none,false⟩]
noncomputable def c36:CFn:={ nargs:=3,vars:=[0,1,2,3,6,7,8,9,10,11],results:=[.cell 4 true 7],body:=(.seq (.reg c36_r0 [(3,1),(4,0)]) (.seq (.reg c36_r1 [(5,0)]) (.seq (.seq (.reg c36_r2 [(6,0)]) (.block 0 (.rcond c36_r3 [] 0 (.seq (.reg c36_r4 []) .ret) (.rcond c36_r5 [] 0 (.seq (.reg c36_r6 []) .ret) (.rcond c36_r7 [] 0 (.seq (.reg c36_r8 []) .ret) (.rcond c36_r9 [] 0 (.seq (.reg c36_r10 [(7,1)]) (.seq (.reg c36_r11 [(8,0)]) (.seq (.rcond c36_r12 [] 0 (.seq (.reg c36_r13 [(9,0)]) (.seq (.reg c36_r14 [(8,0)]) (.reg c36_r15 []))) .skip) (.seq (.reg c36_r16 []) (.seq (.reg c36_r17 []) .ret))))) (.rcond c36_r18 [] 0 (.seq (.reg c36_r19 []) .ret) (.rcond c36_r20 [] 0 (.seq (.reg c36_r21 []) .ret) (.rcond c36_r22 [] 0 (.seq (.reg c36_r23 []) .ret) .skip))))))))) (.seq (.reg c36_r24 []) .ret)))) }
noncomputable def c37_r0:List SOp:=[⟨0,.a .box,[.v 0],none,false⟩,⟨1,.p .mov,[.c (.bool false)],none,false⟩]
noncomputable def c37_r1:List SOp:=[⟨0,.p (.fieldAddr 0),[.v 1],none,false⟩,⟨1,.r (.load false 1),[.t 0],none,false⟩,⟨2,.call 38,[.t 0],none,false⟩,⟨3,.p (.un .not),[.t 0],none,false⟩,⟨4,.p .mov,[.t 0],none,false⟩,⟨5,.p (.fieldAddr 1),[.v 1],some (0,false),false⟩,⟨6,.r (.load false 1),[.t 0],some (1,false),false⟩,⟨7,.call 39,[.t 0,.c (.int .i64 1),.c (.int .i64 3)],some (2,false),false⟩,⟨8,.p (.un .not),[.t 0],some (3,false),false⟩,⟨9,.p .pick,[.t 4,.c (.bool true),.t 0],none,false⟩,⟨10,.p .mov,[.t 0],none,false⟩]
noncomputable def c37:CFn:={ nargs:=1,vars:=[0,1,2],results:=[.var 2],body:=(.seq (.reg c37_r0 [(1,1),(2,0)]) (.seq (.reg c37_r1 [(2,0)]) .ret)) }
noncomputable def c38_r0:List SOp:=[⟨0,.p .mov,[.c (.bool false)],none,false⟩]
noncomputable def c38_r1:List SOp:=[⟨0,.p .mov,[.v 0],none,false⟩,⟨1,.p (.bin .neq),[.t 0,.c (.string ⟨#[]⟩)],none,false⟩,⟨2,.p .mov,[.t 0],none,false⟩,⟨3,.p .mov,[.v 0],some (0,true),false⟩,⟨4,.p .lenStr,[.t 0],some (1,true),false⟩,⟨5,.p (.bin .leq),[.t 0,.c (.int .i64 20)],some (2,true),false⟩,⟨6,.p .pick,[.t 3,.t 0,.c (.bool false)],none,false⟩,⟨7,.p .mov,[.t 0],none,false⟩,⟨8,.p .mov,[.v 0],some (0,true),false⟩,⟨9,.call 69,[.t 0],some (1,true),false⟩,⟨10,.p .mov,[.v 0],some (2,true),false⟩,⟨11,.p .lenStr,[.t 0],some (3,true),false⟩,⟨12,.p (.bin .eql),[.t 2,.t 0],some (4,true),false⟩,⟨13,.p .pick,[.t 5,.t 0,.c (.bool false)],none,false⟩,⟨14,.p .mov,[.t 0],none,false⟩,⟨15,.p .mov,[.v 0],some (0,true),false⟩,⟨16,.p .idxStr,[.t 0,.c (.int .i64 0)],some (1,true),false⟩,⟨17,.p (.bin .gtr),[.t 0,.c (.int .u8 57)],some (2,true),false⟩,⟨18,.p .pick,[.t 3,.t 0,.c (.bool false)],none,false⟩,⟨19,.p .mov,[.t 0],none,false⟩,⟨20,.p .mov,[.v 0],some (0,true),false⟩,⟨21,.call 70,[.t 0],some (1,true),false⟩,⟨22,.p (.un .not),[.t 0],some (2,true),false⟩,⟨23,.p .pick,[.t 3,.t 0,.c (.bool false)],none,false⟩,⟨24,.p .mov,[.t 0],none,false⟩]
noncomputable def c38:CFn:={ nargs:=1,vars:=[0,2],results:=[.var 1],body:=(.seq (.reg c38_r0 [(1,0)]) (.seq (.reg c38_r1 [(1,0)]) .ret)) }
noncomputable def c39_r0:List SOp:=[⟨0,.p .mov,[.c (.bool false)],none,false⟩]
noncomputable def c39_r1:List SOp:=[⟨0,.p .mov,[.v 0],none,false⟩,⟨1,.p .mov,[.v 1],none,false⟩,⟨2,.p (.bin .geq),[.t 1,.t 0],none,false⟩,⟨3,.p .mov,[.t 0],none,false⟩,⟨4,.p .mov,[.v 0],some (0,true),false⟩,⟨5,.p .mov,[.v 2],some (1,true),false⟩,⟨6,.p (.bin .leq),[.t 1,.t 0],some (2,true),false⟩,⟨7,.p .pick,[.t 3,.t 0,.c (.bool false)],none,false⟩,⟨8,.p .mov,[.t 0],none,false⟩]
noncomputable def c39:CFn:={ nargs:=3,vars:=[0,1,2,6],results:=[.var 3],body:=(.seq (.reg c39_r0 [(3,0)]) (.seq (.reg c39_r1 [(3,0)]) .ret)) }
noncomputable def c40_r0:List SOp:=[⟨0,.a .box,[.v 0],none,false⟩,⟨1,.p .mov,[.c (.bool false)],none,false⟩]
noncomputable def c40_r1:List SOp:=[⟨0,.p (.fieldAddr 0),[.v 1],none,false⟩,⟨1,.r (.load false 1),[.t 0],none,false⟩,⟨2,.call 38,[.t 0],none,false⟩,⟨3,.p (.un .not),[.t 0],none,false⟩,⟨4,.p .mov,[.t 0],none,false⟩,⟨5,.p (.fieldAddr 1),[.v 1],some (0,false),false⟩,⟨6,.r (.load false 1),[.t 0],some (1,false),false⟩,⟨7,.call 39,[.t 0,.c (.int .i64 1),.c (.int .i64 8)],some (2,false),false⟩,⟨8,.p (.un .not),[.t 0],some (3,false),false⟩,⟨9,.p .pick,[.t 4,.c (.bool true),.t 0],none,false⟩,⟨10,.p .mov,[.t 0],none,false⟩]
noncomputable def c40:CFn:={ nargs:=1,vars:=[0,1,2],results:=[.var 2],body:=(.seq (.reg c40_r0 [(1,1),(2,0)]) (.seq (.reg c40_r1 [(2,0)]) .ret)) }
noncomputable def c41_r0:List SOp:=[⟨0,.a .box,[.v 0],none,false⟩,⟨1,.p .mov,[.c (.bool false)],none,false⟩]
noncomputable def c41_r1:List SOp:=[⟨0,.r (.load true 6),[.v 1],none,false⟩,⟨1,.call 42,[.t 0],none,false⟩,⟨2,.p (.un .not),[.t 0],none,false⟩,⟨3,.p .mov,[.t 0],none,false⟩]
noncomputable def c41:CFn:={ nargs:=1,vars:=[0,1,2],results:=[.var 2],body:=(.seq (.reg c41_r0 [(1,1),(2,0)]) (.seq (.reg c41_r1 [(2,0)]) .ret)) }
noncomputable def c42_r0:List SOp:=[⟨0,.a .box,[.v 0],none,false⟩,⟨1,.p .mov,[.c (.bool false)],none,false⟩]
noncomputable def c42_r1:List SOp:=[⟨0,.p .mov,[.c (.int .i64 0)],none,false⟩]
noncomputable def c42_r2:List SOp:=[⟨0,.p (.fieldAddr 1),[.v 1],none,false⟩,⟨1,.r (.load false 1),[.t 0],none,false⟩]
noncomputable def c42_r3:List SOp:=[⟨0,.p .mov,[.c (.int .i64 7)],none,false⟩]
noncomputable def c42_r4:List SOp:=[⟨0,.p (.fieldAddr 0),[.v 1],none,false⟩,⟨1,.r (.load false 1),[.t 0],none,false⟩,⟨2,.call 38,[.t 0],none,false⟩,⟨3,.p .mov,[.t 0],none,false⟩,⟨4,.p (.fieldAddr 2),[.v 1],some (0,true),false⟩,⟨5,.r (.load false 1),[.t 0],some (1,true),false⟩,⟨6,.call 39,[.t 0,.c (.int .i64 0),.c (.int .i64 3)],some (2,true),false⟩,⟨7,.p .pick,[.t 3,.t 0,.c (.bool false)],none,false⟩,⟨8,.p .mov,[.t 0],none,false⟩,⟨9,.p (.fieldAddr 3),[.v 1],some (0,true),false⟩,⟨10,.r (.load false 1),[.t 0],some (1,true),false⟩,⟨11,.call 39,[.t 0,.c (.int .i64 1),.c (.int .i64 7)],some (2,true),false⟩,⟨12,.p .pick,[.t 3,.t 0,.c (.bool false)],none,false⟩,⟨13,.p .mov,[.t 0],none,false⟩,⟨14,.p (.fieldAddr 4),[.v 1],some (0,true),false⟩,⟨15,.r (.load false 1),[.t 0],some (1,true),false⟩,⟨16,.p .mov,[.v 3],some (2,true),false⟩,⟨17,.call 39,[.t 1,.c (.int .i64 0),.t 0],some (3,true),false⟩,⟨18,.p .pick,[.t 4,.t 0,.c (.bool false)],none,false⟩,⟨19,.p .mov,[.t 0],none,false⟩,⟨20,.p (.fieldAddr 5),[.v 1],some (0,true),false⟩,⟨21,.r (.load false 1),[.t 0],some (1,true),false⟩,⟨22,.call 71,[.t 0,.c (.int .i64 30)],some (2,true),false⟩,⟨23,.p .pick,[.t 3,.t 0,.c (.bool false)],none,false⟩,⟨24,.p .mov,[.t 0],none,false⟩]
noncomputable def c42:CFn:={ nargs:=1,vars:=[0,1,2,3],results:=[.var 2],body:=(.seq (.reg c42_r0 [(1,1),(2,0)]) (.seq (.reg c42_r1 [(3,0)]) (.seq (.rcond c42_r2 [] 0 (.reg c42_r3 [(3,0)]) .skip) (.seq (.reg c42_r4 [(2,0)]) .ret)))) }
noncomputable def c43_r0:List SOp:=[⟨0,.p .mov,[.c (.bool false)],none,false⟩]
noncomputable def c43_r1:List SOp:=[⟨0,.p .mov,[.v 0],none,false⟩,⟨1,.p .mov,[.v 1],none,false⟩,⟨2,.call 25,[.t 1,.t 0],none,false⟩,⟨3,.p (.bin .geq),[.t 0,.c (.int .i64 0)],none,false⟩,⟨4,.p .mov,[.t 0],none,false⟩]
noncomputable def c43:CFn:={ nargs:=2,vars:=[0,1,4],results:=[.var 2],body:=(.seq (.reg c43_r0 [(2,0)]) (.seq (.reg c43_r1 [(2,0)]) .ret)) }
noncomputable def c44_r0:List SOp:=[⟨0,.p .mov,[.c (.bool false)],none,false⟩]
noncomputable def c44_r1:List SOp:=[⟨0,.p .mov,[.v 0],none,false⟩,⟨1,.p .mov,[.v 1],none,false⟩,⟨2,.call 27,[.t 1,.t 0],none,false⟩,⟨3,.p (.bin .geq),[.t 0,.c (.int .i64 0)],none,false⟩,⟨4,.p .mov,[.t 0],none,false⟩]
noncomputable def c44:CFn:={ nargs:=2,vars:=[0,1,4],results:=[.var 2],body:=(.seq (.reg c44_r0 [(2,0)]) (.seq (.reg c44_r1 [(2,0)]) .ret)) }
noncomputable def c45_r0:List SOp:=[⟨0,.p .mov,[.c (.bool false)],none,false⟩]
noncomputable def c45_r1:List SOp:=[⟨0,.p .mov,[.v 0],none,false⟩,⟨1,.p .mov,[.v 1],none,false⟩,⟨2,.call 72,[.t 1,.t 0],none,false⟩,⟨3,.p (.bin .geq),[.t 0,.c (.int .i64 0)],none,false⟩,⟨4,.p .mov,[.t 0],none,false⟩]
noncomputable def c45:CFn:={ nargs:=2,vars:=[0,1,4],results:=[.var 2],body:=(.seq (.reg c45_r0 [(2,0)]) (.seq (.reg c45_r1 [(2,0)]) .ret)) }
noncomputable def c46_r0:List SOp:=[⟨0,.a .box,[.v 0],none,false⟩,⟨1,.p .mov,[.c (.bool false)],none,false⟩]
noncomputable def c46_r1:List SOp:=[⟨0,.p (.fieldAddr 1),[.v 2],none,false⟩,⟨1,.r (.load false 1),[.t 0],none,false⟩,⟨2,.p (.un .not),[.t 0],none,false⟩,⟨3,.p .mov,[.t 0],none,false⟩,⟨4,.p (.fieldAddr 2),[.v 2],some (0,true),false⟩,⟨5,.r (.load false 1),[.t 0],some (1,true),false⟩,⟨6,.p (.fieldAddr 2),[.v 1],some (2,true),false⟩,⟨7,.r (.load false 1),[.t 0],some (3,true),false⟩,⟨8,.p (.bin .eql),[.t 2,.t 0],some (4,true),false⟩,⟨9,.p .pick,[.t 5,.t 0,.c (.bool false)],none,false⟩,⟨10,.p .mov,[.t 0],none,false⟩]
noncomputable def c46:CFn:={ nargs:=2,vars:=[0,1,2,3],results:=[.var 3],body:=(.seq (.reg c46_r0 [(2,1),(3,0)]) (.seq (.reg c46_r1 [(3,0)]) .ret)) }
noncomputable def c47_r0:List SOp:=[⟨0,.a .box,[.v 0],none,false⟩,⟨1,.p .mov,[.c (.bool false)],none,false⟩]
noncomputable def c47_r1:List SOp:=[⟨0,.p (.fieldAddr 1),[.v 2],none,false⟩,⟨1,.r (.load false 1),[.t 0],none,false⟩,⟨2,.p .mov,[.t 0],none,false⟩,⟨3,.p (.fieldAddr 4),[.v 2],some (0,true),false⟩,⟨4,.r (.load false 1),[.t 0],some (1,true),false⟩,⟨5,.p (.fieldAddr 4),[.v 1],some (2,true),false⟩,⟨6,.r (.load false 1),[.t 0],some (3,true),false⟩,⟨7,.p (.bin .eql),[.t 2,.t 0],some (4,true),false⟩,⟨8,.p .pick,[.t 5,.t 0,.c (.bool false)],none,false⟩,⟨9,.p .mov,[.t 0],none,false⟩]
noncomputable def c47:CFn:={ nargs:=2,vars:=[0,1,2,3],results:=[.var 3],body:=(.seq (.reg c47_r0 [(2,1),(3,0)]) (.seq (.reg c47_r1 [(3,0)]) .ret)) }
noncomputable def c48_r0:List SOp:=[⟨0,.a .box,[.v 0],none,false⟩,⟨1,.p .mov,[.c (.bool false)],none,false⟩]
noncomputable def c48_r1:List SOp:=[⟨0,.p (.fieldAddr 1),[.v 2],none,false⟩,⟨1,.r (.load false 1),[.t 0],none,false⟩,⟨2,.p (.un .not),[.t 0],none,false⟩,⟨3,.p .mov,[.t 0],none,false⟩,⟨4,.p (.fieldAddr 2),[.v 2],some (0,true),false⟩,⟨5,.r (.load false 1),[.t 0],some (1,true),false⟩,⟨6,.p (.fieldAddr 2),[.v 1],some (2,true),false⟩,⟨7,.r (.load false 1),[.t 0],some (3,true),false⟩,⟨8,.p (.bin .eql),[.t 2,.t 0],some (4,true),false⟩,⟨9,.p .pick,[.t 5,.t 0,.c (.bool false)],none,false⟩,⟨10,.p .mov,[.t 0],none,false⟩,⟨11,.p (.fieldAddr 3),[.v 1],some (0,true),false⟩,⟨12,.r (.load false 1),[.t 0],some (1,true),false⟩,⟨13,.p (.fieldAddr 3),[.v 2],some (2,true),false⟩,⟨14,.r (.load false 1),[.t 0],some (3,true),false⟩,⟨15,.p (.bin .leq),[.t 2,.t 0],some (4,true),false⟩,⟨16,.p .pick,[.t 5,.t 0,.c (.bool false)],none,false⟩,⟨17,.p .mov,[.t 0],none,false⟩]
noncomputable def c48:CFn:={ nargs:=2,vars:=[0,1,2,3],results:=[.var 3],body:=(.seq (.reg c48_r0 [(2,1),(3,0)]) (.seq (.reg c48_r1 [(3,0)]) .ret)) }
noncomputable def c49_r0:List SOp:=[⟨0,.r (.load false 1),[.v 1],none,false⟩,⟨1,.r (.load false 1),[.v 2],none,false⟩,⟨2,.p .mov,[.v 0],none,false⟩,⟨3,.call 50,[.t 2,.t 1,.t 0],none,false⟩]
noncomputable def c49:CFn:={ nargs:=3,vars:=[0,1,2],results:=[],body:=(.reg c49_r0 []) }
noncomputable def c50_r0:List SOp:=[⟨0,.p .mov,[.c (.bool false)],none,false⟩]
noncomputable def c50_r1:List SOp:=[⟨0,.p .mov,[.v 0],none,false⟩,⟨1,.p .lenS,[.t 0],none,false⟩,⟨2,.p .mov,[.c (.int .i64 0)],none,false⟩]
noncomputable def c50_r2:List SOp:=[⟨0,.p (.bin .lss),[.v 8,.v 7],none,false⟩]
noncomputable def c50_r3:List SOp:=[⟨0,.p (.idxAddrS 7),[.v 6,.v 8],none,false⟩,⟨1,.r (.load true 7),[.t 0],none,false⟩,⟨2,.a (.new [.int .i64 0,.string ⟨#[]⟩,.string ⟨#[]⟩,.int .i64 0,.slice none 0 0,.slice none 0 0,.slice none 0 0]),[],none,false⟩,⟨3,.w (.store 7),[.t 0,.t 1],none,false⟩]
noncomputable def c50_r4:List SOp:=[⟨0,.p .mov,[.v 1],none,false⟩,⟨1,.p .mov,[.t 0],none,false⟩]
noncomputable def c50_r5:List SOp:=[⟨0,.p (.fieldAddr 0),[.v 4],none,false⟩,⟨1,.r (.load false 1),[.t 0],none,false⟩,⟨2,.p (.bin .eql),[.t 0,.c (.int .i64 5)],none,false⟩]
noncomputable def c50_r6:List SOp:=[⟨0,.p .mov,[.v 1],none,false⟩,⟨1,.call 73,[.t 0],none,true⟩,⟨2,.p (.fieldAddr 1),[.v 4],none,false⟩,⟨3,.r (.load false 1),[.t 0],none,false⟩,⟨4,.a (.bslice [.string ⟨#[]⟩] [(0,1)] 1 1),[.t 0],none,false⟩,⟨5,.w (.append 1 16),[.t 3,.t 0],none,false⟩,⟨6,.p .mov,[.t 0],none,false⟩]
noncomputable def c50_r7:List SOp:=[⟨0,.p .mov,[.v 2],none,false⟩,⟨1,.r (.load true 7),[.v 4],none,false⟩,⟨2,.p .mov,[.v 1],none,false⟩,⟨3,.callV,[.t 2,.t 1,.t 0],none,false⟩,⟨4,.p (.un .not),[.t 0],none,false⟩,⟨5,.p .mov,[.t 0],none,false⟩,⟨6,.p (.fieldAddr 5),[.v 4],some (0,false),false⟩,⟨7,.r (.load false 1),[.t 0],some (1,false),false⟩,⟨8,.p .mov,[.v 5],some (2,false),false⟩,⟨9,.p .mov,[.v 2],some (3,false),false⟩,⟨10,.call 50,[.t 2,.t 1,.t 0],some (4,false),false⟩,⟨11,.p (.un .not),[.t 0],some (5,false),false⟩,⟨12,.p .pick,[.t 6,.c (.bool true),.t 0],none,false⟩,⟨13,.p .mov,[.t 0],none,false⟩,⟨14,.p (.fieldAddr 6),[.v 4],some (0,false),false⟩,⟨15,.r (.load false 1),[.t 0],some (1,false),false⟩,⟨16,.p .mov,[.v 1],some (2,false),false⟩,⟨17,.p .mov,[.v 2],some (3,false),false⟩,⟨18,.call 50,[.t 2,.t 1,.t 0],some (4,false),false⟩,⟨19,.p (.un .not),[.t 0],some (5,false),false⟩,⟨20,.p .pick,[.t 6,.c (.bool true),.t 0],none,false⟩]
noncomputable def c50_r8:List SOp:=[⟨0,.p .mov,[.c (.bool false)],none,false⟩]
noncomputable def c50_r9:List SOp:=[⟨0,.p (.bin .add),[.v 8,.c (.int .i64 1)],none,false⟩,⟨1,.p .mov,[.t 0],none,false⟩]
noncomputable def c50_l10:CCode:=(.seq (.reg c50_r2 [(9,0)]) (.seq (.cond (.v 9) .skip (.exit 0)) (.seq (.block 1 (.seq (.reg c50_r3 [(4,1)]) (.seq (.reg c50_r4 [(5,0)]) (.seq (.rcond c50_r5 [] 0 (.reg c50_r6 [(5,0)]) .skip) (.rcond c50_r7 [] 0 (.seq (.reg c50_r8 [(3,0)]) .ret) .skip))))) (.reg c50_r9 [(8,0)]))))
noncomputable def c50_r11:List SOp:=[⟨0,.p .mov,[.c (.bool true)],none,false⟩]
noncomputable def c50:CFn:={ nargs:=3,vars:=[0,1,2,6,8,9,10,11,12,13],results:=[.var 3],body:=(.seq (.reg c50_r0 [(3,0)]) (.seq (.seq (.reg c50_r1 [(6,2),(7,1),(8,0)]) (.block 0 (.loop c50_l10))) (.seq (.reg c50_r11 [(3,0)]) .ret))) }
noncomputable def c51_r0:List SOp:=[⟨0,.p .mov,[.c (.int .i64 0)],none,false⟩]
noncomputable def c51_r1:List SOp:=[⟨0,.p .mov,[.v 0],none,false⟩,⟨1,.p .nilCheck,[.t 0],none,false⟩,⟨2,.p (.fieldAddr 4),[.t 0],none,false⟩,⟨3,.r (.load false 1),[.t 0],none,false⟩,⟨4,.p .mov,[.v 1],none,false⟩,⟨5,.r (.lookup (keyGood Tryz.prog 9) (.int .i64 0) false),[.t 1,.t 0],none,false⟩,⟨6,.p (.bin .gtr),[.t 0,.c (.int .i64 0)],none,false⟩]
noncomputable def c51_r2:List SOp:=[⟨0,.p .mov,[.c (.int .i64 80)],none,false⟩]
noncomputable def c51_r3:List SOp:=[⟨0,.p .mov,[.c (.int .i64 0)],none,false⟩]
noncomputable def c51:CFn:={ nargs:=2,vars:=[0,1,4],results:=[.var 2],body:=(.seq (.reg c51_r0 [(2,0)]) (.seq (.rcond c51_r1 [] 0 (.seq (.reg c51_r2 [(2,0)]) .ret) .skip) (.seq (.reg c51_r3 [(2,0)]) .ret))) }
noncomputable def c52_r0:List SOp:=[⟨0,.p .mov,[.c (.int .i64 0)],none,false⟩]
noncomputable def c52_r1:List SOp:=[⟨0,.p .mov,[.v 0],none,false⟩,⟨1,.p .nilCheck,[.t 0],none,false⟩,⟨2,.p (.fieldAddr 0),[.t 0],none,false⟩,⟨3,.r (.load true 4),[.t 0],none,false⟩,⟨4,.p .mov,[.v 1],none,false⟩,⟨5,.call 11,[.t 1,.t 0],none,false⟩,⟨6,.p (.bin .lss),[.t 0,.c (.int .i64 0)],none,false⟩]
noncomputable def c52_r2:List SOp:=[⟨0,.p .mov,[.c (.int .i64 84)],none,false⟩]
noncomputable def c52_r3:List SOp:=[⟨0,.p .mov,[.c (.int .i64 0)],none,false⟩]
noncomputable def c52:CFn:={ nargs:=2,vars:=[0,1,4],results:=[.var 2],body:=(.seq (.reg c52_r0 [(2,0)]) (.seq (.rcond c52_r1 [] 0 (.seq (.reg c52_r2 [(2,0)]) .ret) .skip) (.seq (.reg c52_r3 [(2,0)]) .ret))) }
noncomputable def c53_r0:List SOp:=[⟨0,.a .box,[.v 0],none,false⟩,⟨1,.p .mov,[.c (.int .i64 0)],none,false⟩]
noncomputable def c53_r1:List SOp:=[⟨0,.r (.load false 1),[.v 3],none,false⟩,⟨1,.p .nilCheck,[.t 0],none,false⟩,⟨2,.p (.fieldAddr 0),[.t 0],none,false⟩,⟨3,.r (.load true 4),[.t 0],none,false⟩,⟨4,.p .mov,[.v 1],none,false⟩,⟨5,.call 12,[.t 1,.t 0],none,false⟩,⟨6,.a (.new [.int .i64 0]),[],none,false⟩,⟨7,.w (.store 1),[.t 0,.t 1],none,false⟩]
noncomputable def c53_r2:List SOp:=[⟨0,.r (.load false 1),[.v 5],none,false⟩,⟨1,.p (.bin .lss),[.t 0,.c (.int .i64 0)],none,false⟩,⟨2,.p .mov,[.t 0],none,false⟩]
noncomputable def c53_r3:List SOp:=[⟨0,.p .mov,[.c (.int .i64 84)],none,false⟩]
noncomputable def c53_r4:List SOp:=[⟨0,.p .mov,[.v 2],none,false⟩,⟨1,.p (.mkFunc 75 0),[.v 3,.v 5],none,false⟩,⟨2,.call 74,[.t 1,.t 0],none,false⟩,⟨3,.p .mov,[.t 0],none,false⟩]
noncomputable def c53_r5:List SOp:=[⟨0,.p .mov,[.c (.int .i64 85)],none,false⟩]
noncomputable def c53_r6:List SOp:=[⟨0,.p .mov,[.c (.int .i64 0)],none,false⟩]
noncomputable def c53:CFn:={ nargs:=3,vars:=[0,1,2,3,6,7],results:=[.var 4],body:=(.seq (.reg c53_r0 [(3,1),(4,0)]) (.seq (.reg c53_r1 [(5,1)]) (.seq (.block 0 (.rcond c53_r2 [] 0 (.seq (.reg c53_r3 [(4,0)]) .ret) (.rcond c53_r4 [] 0 (.seq (.reg c53_r5 [(4,0)]) .ret) .skip))) (.seq (.reg c53_r6 [(4,0)]) .ret)))) }
noncomputable def c54_r0:List SOp:=[⟨0,.p .mov,[.c (.int .i64 0)],none,false⟩]
noncomputable def c54_r1:List SOp:=[⟨0,.p .mov,[.v 0],none,false⟩,⟨1,.p .nilCheck,[.t 0],none,false⟩,⟨2,.p (.fieldAddr 0),[.t 0],none,false⟩,⟨3,.r (.load true 4),[.t 0],none,false⟩,⟨4,.p .mov,[.v 1],none,false⟩,⟨5,.call 12,[.t 1,.t 0],none,false⟩,⟨6,.p (.bin .lss),[.t 0,.c (.int .i64 0)],none,false⟩,⟨7,.p .mov,[.t 0],none,false⟩]
noncomputable def c54_r2:List SOp:=[⟨0,.p .mov,[.c (.int .i64 84)],none,false⟩]
noncomputable def c54_r3:List SOp:=[⟨0,.p .mov,[.v 2],none,false⟩,⟨1,.p .mov,[.v 1],none,false⟩,⟨2,.call 66,[.t 1,.t 0],none,false⟩,⟨3,.p (.un .not),[.t 0],none,false⟩,⟨4,.p .mov,[.t 0],none,false⟩]
noncomputable def c54_r4:List SOp:=[⟨0,.p .mov,[.c (.int .i64 86)],none,false⟩]
noncomputable def c54_r5:List SOp:=[⟨0,.p .mov,[.c (.int .i64 0)],none,false⟩]
noncomputable def c54:CFn:={ nargs:=3,vars:=[0,1,2,6],results:=[.var 3],body:=(.seq (.reg c54_r0 [(3,0)]) (.seq (.block 0 (.rcond c54_r1 [] 0 (.seq (.reg c54_r2 [(3,0)]) .ret) (.rcond c54_r3 [] 0 (.seq (.reg c54_r4 [(3,0)]) .ret) .skip))) (.seq (.reg c54_r5 [(3,0)]) .ret))) }
noncomputable def c55_r0:List SOp:=[⟨0,.p .mov,[.c (.int .i64 0)],none,false⟩]
noncomputable def c55_r1:List SOp:=[⟨0,.p .mov,[.v 1],none,false⟩,⟨1,.p .lenS,[.t 0],none,false⟩,⟨2,.p .mov,[.c (.int .i64 0)],none,false⟩]
noncomputable def c55_r2:List SOp:=[⟨0,.p (.bin .lss),[.v 8,.v 7],none,false⟩]
noncomputable def c55_r3:List SOp:=[⟨0,.p (.idxAddrS 5),[.v 6,.v 8],none,false⟩,⟨1,.r (.load true 5),[.t 0],none,false⟩,⟨2,.a (.new [.int .i64 0,.int .i64 0,.int .i64 0,.string ⟨#[]⟩,.slice none 0 0]),[],none,false⟩,⟨3,.w (.store 5),[.t 0,.t 1],none,false⟩]
noncomputable def c55_r4:List SOp:=[⟨0,.p .mov,[.c (.int .i64 0)],none,false⟩]
noncomputable def c55_r5:List SOp:=[⟨0,.p (.fieldAddr 0),[.v 4],none,false⟩,⟨1,.r (.load false 1),[.t 0],none,false⟩]
noncomputable def c55_r6:List SOp:=[⟨0,.p (.bin .eql),[.v 10,.c (.int .i64 2)],none,false⟩,⟨1,.p .mov,[.t 0],none,false⟩]
noncomputable def c55_r7:List SOp:=[⟨0,.p .mov,[.v 0],none,false⟩,⟨1,.p (.fieldAddr 3),[.v 4],none,false⟩,⟨2,.r (.load false 1),[.t 0],none,false⟩,⟨3,.call 51,[.t 2,.t 0],none,false⟩,⟨4,.p .mov,[.t 0],none,false⟩]
noncomputable def c55_r8:List SOp:=[⟨0,.p (.bin .eql),[.v 10,.c (.int .i64 5)],none,false⟩,⟨1,.p .mov,[.t 0],none,false⟩]
noncomputable def c55_r9:List SOp:=[⟨0,.p .mov,[.v 0],none,false⟩,⟨1,.p (.fieldAddr 3),[.v 4],none,false⟩,⟨2,.r (.load false 1),[.t 0],none,false⟩,⟨3,.p .mov,[.v 2],none,false⟩,⟨4,.call 54,[.t 3,.t 1,.t 0],none,false⟩,⟨5,.p .mov,[.t 0],none,false⟩]
noncomputable def c55_r10:List SOp:=[⟨0,.p .mov,[.v 5],none,false⟩,⟨1,.p (.bin .eql),[.t 0,.c (.int .i64 0)],none,false⟩]
noncomputable def c55_r11:List SOp:=[⟨0,.p .mov,[.v 0],none,false⟩,⟨1,.p (.fieldAddr 4),[.v 4],none,false⟩,⟨2,.r (.load false 1),[.t 0],none,false⟩,⟨3,.p .mov,[.v 2],none,false⟩,⟨4,.call 55,[.t 3,.t 1,.t 0],none,false⟩,⟨5,.p .mov,[.t 0],none,false⟩]
noncomputable def c55_r12:List SOp:=[⟨0,.p .mov,[.v 5],none,false⟩,⟨1,.p (.bin .neq),[.t 0,.c (.int .i64 0)],none,false⟩]
noncomputable def c55_r13:List SOp:=[⟨0,.p .mov,[.v 5],none,false⟩,⟨1,.p .mov,[.t 0],none,false⟩]
noncomputable def c55_r14:List SOp:=[⟨0,.p (.bin .add),[.v 8,.c (.int .i64 1)],none,false⟩,⟨1,.p .mov,[.t 0],none,false⟩]
noncomputable def c55_l15:CCode:=(.seq (.reg c55_r2 [(9,0)]) (.seq (.cond (.v 9) .skip (.exit 0)) (.seq (.block 1 (.seq (.reg c55_r3 [(4,1)]) (.seq (.reg c55_r4 [(5,0)]) (.seq (.seq (.reg c55_r5 [(10,0)]) (.block 2 (.rcond c55_r6 [] 0 (.reg c55_r7 [(5,0)]) (.rcond c55_r8 [] 0 (.reg c55_r9 [(5,0)]) .skip)))) (.seq (.rcond c55_r10 [] 0 (.reg c55_r11 [(5,0)]) .skip) (.rcond c55_r12 [] 0 (.seq (.reg c55_r13 [(3,0)]) .ret) .skip)))))) (.reg c55_r14 [(8,0)]))))
noncomputable def c55_r16:List SOp:=[⟨0,.p .mov,[.c (.int .i64 0)],none,false⟩]
noncomputable def c55:CFn:={ nargs:=3,vars:=[0,1,2,6,8,9,10,11,12,13,17],results:=[.var 3],body:=(.seq (.reg c55_r0 [(3,0)]) (.seq (.seq (.reg c55_r1 [(6,2),(7,1),(8,0)]) (.block 0 (.loop c55_l15))) (.seq (.reg c55_r16 [(3,0)]) .ret))) }
noncomputable def c66_r0:List SOp:=[⟨0,.p .mov,[.c (.bool false)],none,false⟩]
noncomputable def c66_r1:List SOp:=[⟨0,.p .mov,[.v 0],none,false⟩,⟨1,.p .mov,[.v 1],none,false⟩,⟨2,.call 83,[.t 1,.t 0],none,false⟩,⟨3,.p (.bin .geq),[.t 0,.c (.int .i64 0)],none,false⟩,⟨4,.p .mov,[.t 0],none,false⟩]
noncomputable def c66:CFn:={ nargs:=2,vars:=[0,1,4],results:=[.var 2],body:=(.seq (.reg c66_r0 [(2,0)]) (.seq (.reg c66_r1 [(2,0)]) .ret)) }
noncomputable def c67_r0:List SOp:=[⟨0,.a .box,[.v 0],none,false⟩,⟨1,.p .mov,[.c (.string ⟨#[]⟩)],none,false⟩]
noncomputable def c67_r1:List SOp:=[⟨0,.p (.fieldAddr 4),[.v 3],none,false⟩,⟨1,.r (.load false 1),[.t 0],none,false⟩,⟨2,.p .mov,[.t 0],none,false⟩,⟨3,.p .mov,[.v 2],some (0,false),false⟩,⟨4,.p .lenS,[.t 0],some (1,false),false⟩,⟨5,.p (.bin .eql),[.t 0,.c (.int .i64 0)],some (2,false),false⟩,⟨6,.p .pick,[.t 3,.c (.bool true),.t 0],none,false⟩]
noncomputable def c67_r2:List SOp:=[⟨0,.p .mov,[.v 1],none,false⟩,⟨1,.call 18,[.t 0,.c (.int .i64 300)],none,false⟩,⟨2,.call 84,[.t 0],none,false⟩,⟨3,.p .mov,[.t 0],none,false⟩]
noncomputable def c67_r3:List SOp:=[⟨0,.p .mov,[.v 2],none,false⟩,⟨1,.p .mov,[.v 1],none,false⟩,⟨2,.p .mov,[.v 2],none,false⟩,⟨3,.p .lenS,[.t 0],none,false⟩,⟨4,.call 18,[.t 2,.t 0],none,false⟩,⟨5,.p (.idxAddrS 1),[.t 4,.t 0],none,false⟩,⟨6,.r (.load false 1),[.t 0],none,false⟩,⟨7,.p .mov,[.t 0],none,false⟩]
noncomputable def c67:CFn:={ nargs:=3,vars:=[0,1,2,3,6],results:=[.var 4],body:=(.seq (.reg c67_r0 [(3,1),(4,0)]) (.seq (.rcond c67_r1 [] 0 (.seq (.reg c67_r2 [(4,0)]) .ret) .skip) (.seq (.reg c67_r3 [(4,0)]) .ret))) }
noncomputable def c68_r0:List SOp:=[⟨0,.a .box,[.v 0],none,false⟩,⟨1,.a (.new [.int .i64 0,.int .i64 0,.int .i64 0,.string ⟨#[]⟩,.slice none 0 0]),[],none,false⟩]
noncomputable def c68_r1:List SOp:=[⟨0,.p .mov,[.v 1],none,false⟩,⟨1,.call 18,[.t 0,.c (.int .i64 8)],none,false⟩,⟨2,.p .mov,[.t 0],none,false⟩]
noncomputable def c68_r2:List SOp:=[⟨0,.p .mov,[.v 2],none,false⟩,⟨1,.p (.bin .lss),[.t 0,.c (.int .i64 1)],none,false⟩,⟨2,.p .mov,[.t 0],none,false⟩,⟨3,.p .mov,[.v 5],some (0,false),false⟩,⟨4,.p (.bin .lss),[.t 0,.c (.int .i64 2)],some (1,false),false⟩,⟨5,.p .pick,[.t 2,.c (.bool true),.t 0],none,false⟩]
noncomputable def c68_r3:List SOp:=[⟨0,.p .mov,[.v 1],none,false⟩,⟨1,.call 18,[.t 0,.c (.int .i64 10)],none,false⟩,⟨2,.p .mov,[.v 1],none,false⟩,⟨3,.call 18,[.t 0,.c (.int .i64 300)],none,false⟩,⟨4,.p .mov,[.v 1],none,false⟩,⟨5,.call 18,[.t 0,.c (.int .i64 4294967296)],none,false⟩,⟨6,.a (.bslice [.int .i64 0,.int .i64 0,.int .i64 0] [(0,1),(1,1),(2,1)] 3 1),[.t 4,.t 2,.t 0],none,false⟩,⟨7,.p .mov,[.v 1],none,false⟩,⟨8,.call 18,[.t 0,.c (.int .i64 3)],none,false⟩,⟨9,.p (.idxAddrS 1),[.t 2,.t 0],none,false⟩,⟨10,.r (.load false 1),[.t 0],none,false⟩,⟨11,.p (.build [.int .i64 0,.int .i64 0,.int .i64 0,.string ⟨#[]⟩,.slice none 0 0] [(0,1),(2,1)]),[.c (.int .i64 1),.t 0],none,false⟩,⟨12,.w (.store 5),[.v 4,.t 0],none,false⟩]
noncomputable def c68_r4:List SOp:=[⟨0,.p .mov,[.v 5],none,false⟩,⟨1,.p (.bin .lss),[.t 0,.c (.int .i64 4)],none,false⟩,⟨2,.p .mov,[.t 0],none,false⟩]
noncomputable def c68_r5:List SOp:=[⟨0,.r (.load true 5),[.v 3],none,false⟩,⟨1,.p .mov,[.v 1],none,false⟩,⟨2,.a (.bslice [.string ⟨#[]⟩,.string ⟨#[]⟩,.string ⟨#[]⟩] [(0,1),(1,1),(2,1)] 3 1),[.c (.string ⟨#[120]⟩),.c (.string ⟨#[121]⟩),.c (.string ⟨#[122]⟩)],none,false⟩,⟨3,.call 67,[.t 2,.t 1,.t 0],none,false⟩,⟨4,.p (.build [.int .i64 0,.int .i64 0,.int .i64 0,.string ⟨#[]⟩,.slice none 0 0] [(0,1),(3,1)]),[.c (.int .i64 2),.t 0],none,false⟩,⟨5,.w (.store 5),[.v 4,.t 0],none,false⟩]
noncomputable def c68_r6:List SOp:=[⟨0,.p .mov,[.v 5],none,false⟩,⟨1,.p (.bin .eql),[.t 0,.c (.int .i64 4)],none,false⟩,⟨2,.p .mov,[.t 0],none,false⟩]
noncomputable def c68_r7:List SOp:=[⟨0,.p .mov,[.v 1],none,false⟩,⟨1,.call 18,[.t 0,.c (.int .i64 3)],none,true⟩,⟨3,.r (.load true 5),[.v 3],none,false⟩,⟨4,.p .mov,[.v 1],none,false⟩,⟨5,.p .mov,[.v 2],none,false⟩,⟨6,.p (.bin .sub),[.t 0,.c (.int .i64 1)],none,false⟩,⟨7,.call 68,[.t 3,.t 2,.t 0],none,false⟩,⟨2,.p (.bin .add),[.c (.int .i64 15),.t 5],none,false⟩,⟨8,.a (.bslice [.int .i64 0,.int .i64 0,.int .i64 0,.string ⟨#[]⟩,.slice none 0 0] [(0,5)] 1 5),[.t 1],none,false⟩,⟨9,.p (.build [.int .i64 0,.int .i64 0,.int .i64 0,.string ⟨#[]⟩,.slice none 0 0] [(0,1),(1,1),(4,1)]),[.c (.int .i64 3),.t 1,.t 0],none,false⟩,⟨10,.w (.store 5),[.v 4,.t 0],none,false⟩]
noncomputable def c68_r8:List SOp:=[⟨0,.p .mov,[.v 5],none,false⟩,⟨1,.p (.bin .eql),[.t 0,.c (.int .i64 5)],none,false⟩,⟨2,.p .mov,[.t 0],none,false⟩,⟨3,.p (.fieldAddr 4),[.v 3],some (0,true),false⟩,⟨4,.r (.load false 1),[.t 0],some (1,true),false⟩,⟨5,.p .mov,[.t 0],some (2,true),false⟩,⟨6,.p (.fieldAddr 3),[.v 3],some (0,false),false⟩,⟨7,.r (.load false 1),[.t 0],some (1,false),false⟩,⟨8,.p .lenS,[.t 0],some (2,false),false⟩,⟨9,.p (.bin .gtr),[.t 0,.c (.int .i64 0)],some (3,false),false⟩,⟨10,.p .pick,[.t 4,.c (.bool true),.t 0],some (7,true),false⟩,⟨11,.p .pick,[.t 8,.t 0,.c (.bool false)],none,false⟩,⟨12,.p .mov,[.t 0],none,false⟩]
noncomputable def c68_r9:List SOp:=[⟨0,.r (.load true 5),[.v 3],none,false⟩,⟨1,.p .mov,[.v 1],none,false⟩,⟨2,.p (.fieldAddr 3),[.v 3],none,false⟩,⟨3,.r (.load false 1),[.t 0],none,false⟩,⟨4,.call 67,[.t 3,.t 2,.t 0],none,true⟩,⟨5,.r (.load true 5),[.v 3],none,false⟩,⟨6,.p .mov,[.v 1],none,false⟩,⟨7,.p .mov,[.v 2],none,false⟩,⟨8,.p (.bin .sub),[.t 0,.c (.int .i64 1)],none,false⟩,⟨9,.call 68,[.t 3,.t 2,.t 0],none,false⟩,⟨10,.a (.bslice [.int .i64 0,.int .i64 0,.int .i64 0,.string ⟨#[]⟩,.slice none 0 0] [(0,5)] 1 5),[.t 0],none,false⟩,⟨11,.p (.build [.int .i64 0,.int .i64 0,.int .i64 0,.string ⟨#[]⟩,.slice none 0 0] [(0,1),(3,1),(4,1)]),[.c (.int .i64 5),.t 6,.t 0],none,false⟩,⟨12,.w (.store 5),[.v 4,.t 0],none,false⟩]
noncomputable def c68_r10:List SOp:=[⟨0,.p .mov,[.v 1],none,false⟩,⟨1,.call 18,[.t 0,.c (.int .i64 14)],none,true⟩,⟨3,.r (.load true 5),[.v 3],none,false⟩,⟨4,.p .mov,[.v 1],none,false⟩,⟨5,.p .mov,[.v 2],none,false⟩,⟨6,.p (.bin .sub),[.t 0,.c (.int .i64 1)],none,false⟩,⟨7,.call 68,[.t 3,.t 2,.t 0],none,true⟩,⟨8,.r (.load true 5),[.v 3],none,false⟩,⟨9,.p .mov,[.v 1],none,false⟩,⟨10,.p .mov,[.v 2],none,false⟩,⟨11,.p (.bin .sub),[.t 0,.c (.int .i64 1)],none,false⟩,⟨12,.call 68,[.t 3,.t 2,.t 0],none,false⟩,⟨2,.p (.bin .add),[.c (.int .i64 1),.t 10],none,false⟩,⟨13,.a (.bslice [.int .i64 0,.int .i64 0,.int .i64 0,.string ⟨#[]⟩,.slice none 0 0,.int .i64 0,.int .i64 0,.int .i64 0,.string ⟨#[]⟩,.slice none 0 0] [(0,5),(5,5)] 2 5),[.t 6,.t 1],none,false⟩,⟨14,.p (.build [.int .i64 0,.int .i64 0,.int .i64 0,.string ⟨#[]⟩,.slice none 0 0] [(0,1),(1,1),(4,1)]),[.c (.int .i64 4),.t 1,.t 0],none,false⟩,⟨15,.w (.store 5),[.v 4,.t 0],none,false⟩]
noncomputable def c68:CFn:={ nargs:=3,vars:=[0,1,2,3,6,7],results:=[.cell 4 true 5],body:=(.seq (.reg c68_r0 [(3,1),(4,0)]) (.seq (.reg c68_r1 [(5,0)]) (.seq (.rcond c68_r2 [] 0 (.seq (.reg c68_r3 []) .ret) .skip) (.seq (.block 0 (.rcond c68_r4 [] 0 (.seq (.reg c68_r5 []) .ret) (.rcond c68_r6 [] 0 (.seq (.reg c68_r7 []) .ret) (.rcond c68_r8 [] 0 (.seq (.reg c68_r9 []) .ret) .skip)))) (.seq (.reg c68_r10 []) .ret))))) }
noncomputable def c69_r0:List SOp:=[⟨0,.p .mov,[.c (.int .i64 0)],none,false⟩]
noncomputable def c69_r1:List SOp:=[⟨0,.p .mov,[.v 0],none,false⟩,⟨1,.p .lenStr,[.t 0],none,false⟩,⟨2,.p .mov,[.c (.int .i64 0)],none,false⟩]
noncomputable def c69_r2:List SOp:=[⟨0,.p (.bin .lss),[.v 4,.v 3],none,false⟩]
noncomputable def c69_r3:List SOp:=[⟨0,.p .mov,[.v 4],none,false⟩,⟨1,.p .mov,[.t 0],none,false⟩]
noncomputable def c69_r4:List SOp:=[⟨0,.p .mov,[.v 0],none,false⟩,⟨1,.p .mov,[.v 2],none,false⟩,⟨2,.p .idxStr,[.t 1,.t 0],none,false⟩,⟨3,.call 85,[.t 0],none,false⟩,⟨4,.p (.un .not),[.t 0],none,false⟩]
noncomputable def c69_r5:List SOp:=[⟨0,.p .mov,[.v 2],none,false⟩,⟨1,.p .mov,[.t 0],none,false⟩]
noncomputable def c69_r6:List SOp:=[⟨0,.p (.bin .add),[.v 4,.c (.int .i64 1)],none,false⟩,⟨1,.p .mov,[.t 0],none,false⟩]
noncomputable def c69_l7:CCode:=(.seq (.reg c69_r2 [(5,0)]) (.seq (.cond (.v 5) .skip (.exit 0)) (.seq (.block 1 (.seq (.reg c69_r3 [(2,0)]) (.rcond c69_r4 [] 0 (.seq (.reg c69_r5 [(1,0)]) .ret) .skip))) (.reg c69_r6 [(4,0)]))))
noncomputable def c69_r8:List SOp:=[⟨0,.p .mov,[.v 0],none,false⟩,⟨1,.p .lenStr,[.t 0],none,false⟩,⟨2,.p .mov,[.t 0],none,false⟩]
noncomputable def c69:CFn:={ nargs:=1,vars:=[0,2,3,5,6,7],results:=[.var 1],body:=(.seq (.reg c69_r0 [(1,0)]) (.seq (.seq (.reg c69_r1 [(3,1),(4,0)]) (.block 0 (.loop c69_l7))) (.seq (.reg c69_r8 [(1,0)]) .ret))) }
noncomputable def c70_r0:List SOp:=[⟨0,.p .mov,[.c (.bool false)],none,false⟩]
noncomputable def c70_r1:List SOp:=[⟨0,.call 86,[],none,false⟩,⟨1,.p .mov,[.v 0],none,false⟩,⟨2,.call 66,[.t 1,.t 0],none,false⟩,⟨3,.p .mov,[.t 0],none,false⟩]
noncomputable def c70:CFn:={ nargs:=1,vars:=[0,2],results:=[.var 1],body:=(.seq (.reg c70_r0 [(1,0)]) (.seq (.reg c70_r1 [(1,0)]) .ret)) }
noncomputable def c71_r0:List SOp:=[⟨0,.a .box,[.v 1],none,false⟩,⟨1,.p .mov,[.c (.bool false)],none,false⟩]
noncomputable def c71_r1:List SOp:=[⟨0,.p .mov,[.v 0],none,false⟩,⟨1,.p (.mkFunc 88 0),[.v 2],none,false⟩,⟨2,.call 87,[.t 1,.t 0],none,false⟩,⟨3,.p (.un .not),[.t 0],none,false⟩,⟨4,.p .mov,[.t 0],none,false⟩]
noncomputable def c71:CFn:={ nargs:=2,vars:=[0,1,3,4],results:=[.var 3],body:=(.seq (.reg c71_r0 [(2,1),(3,0)]) (.seq (.reg c71_r1 [(3,0)]) .ret)) }
noncomputable def c72_r0:List SOp:=[⟨0,.p .mov,[.c (.int .i64 0)],none,false⟩]
noncomputable def c72_r1:List SOp:=[⟨0,.p .mov,[.v 0],none,false⟩,⟨1,.p .lenS,[.t 0],none,false⟩,⟨2,.p .mov,[.c (.int .i64 0)],none,false⟩]
noncomputable def c72_r2:List SOp:=[⟨0,.p (.bin .lss),[.v 5,.v 4],none,false⟩]
noncomputable def c72_r3:List SOp:=[⟨0,.p .mov,[.v 5],none,false⟩,⟨1,.p .mov,[.t 0],none,false⟩]
noncomputable def c72_r4:List SOp:=[⟨0,.p .mov,[.v 1],none,false⟩,⟨1,.p .mov,[.v 0],none,false⟩,⟨2,.p .mov,[.v 3],none,false⟩,⟨3,.p (.idxAddrS 6),[.t 1,.t 0],none,false⟩,⟨4,.r (.load true 6),[.t 0],none,false⟩,⟨5,.callV,[.t 4,.t 0],none,false⟩]
noncomputable def c72_r5:List SOp:=[⟨0,.p .mov,[.v 3],none,false⟩,⟨1,.p .mov,[.t 0],none,false⟩]
noncomputable def c72_r6:List SOp:=[⟨0,.p (.bin .add),[.v 5,.c (.int .i64 1)],none,false⟩,⟨1,.p .mov,[.t 0],none,false⟩]
noncomputable def c72_l7:CCode:=(.seq (.reg c72_r2 [(6,0)]) (.seq (.cond (.v 6) .skip (.exit 0)) (.seq (.block 1 (.seq (.reg c72_r3 [(3,0)]) (.rcond c72_r4 [] 0 (.seq (.reg c72_r5 [(2,0)]) .ret) .skip))) (.reg c72_r6 [(5,0)]))))
noncomputable def c72_r8:List SOp:=[⟨0,.p .mov,[.c (.int .i64 (-1))],none,false⟩]
noncomputable def c72:CFn:={ nargs:=2,vars:=[0,1,4,5,7,8,9],results:=[.var 2],body:=(.seq (.reg c72_r0 [(2,0)]) (.seq (.seq (.reg c72_r1 [(4,1),(5,0)]) (.block 0 (.loop c72_l7))) (.seq (.reg c72_r8 [(2,0)]) .ret))) }
noncomputable def c73_r0:List SOp:=[⟨0,.p .mov,[.c (.slice none 0 0)],none,false⟩]
noncomputable def c73_r1:List SOp:=[⟨0,.p .mov,[.v 0],none,false⟩,⟨1,.p .mov,[.v 0],none,false⟩,⟨2,.p .lenS,[.t 0],none,false⟩,⟨3,.p .mov,[.v 0],none,false⟩,⟨4,.p .lenS,[.t 0],none,false⟩,⟨5,.p (.clip 1),[.t 4,.t 2,.t 0],none,false⟩,⟨6,.p .mov,[.t 0],none,false⟩]
noncomputable def c73:CFn:={ nargs:=1,vars:=[0,2],results:=[.var 1],body:=(.seq (.reg c73_r0 [(1,0)]) (.seq (.reg c73_r1 [(1,0)]) .ret)) }
noncomputable def c74_r0:List SOp:=[⟨0,.p .mov,[.c (.bool false)],none,false⟩]
noncomputable def c74_r1:List SOp:=[⟨0,.p .mov,[.v 0],none,false⟩,⟨1,.p .mov,[.v 1],none,false⟩,⟨2,.call 90,[.t 1,.t 0],none,false⟩,⟨3,.p (.bin .geq),[.t 0,.c (.int .i64 0)],none,false⟩,⟨4,.p .mov,[.t 0],none,false⟩]
noncomputable def c74:CFn:={ nargs:=2,vars:=[0,1,4],results:=[.var 2],body:=(.seq (.reg c74_r0 [(2,0)]) (.seq (.reg c74_r1 [(2,0)]) .ret)) }
noncomputable def c75_r0:List SOp:=[⟨0,.p .mov,[.c (.bool false)],none,false⟩]
noncomputable def c75_r1:List SOp:=[⟨0,.r (.load false 1),[.v 1],none,false⟩,⟨1,.p .nilCheck,[.t 0],none,false⟩,⟨2,.p (.fieldAddr 0),[.t 0],none,false⟩,⟨3,.r (.load true 4),[.t 0],none,false⟩,⟨4,.p .mov,[.v 0],none,false⟩,⟨5,.call 12,[.t 1,.t 0],none,true⟩,⟨6,.r (.load false 1),[.v 2],none,false⟩,⟨7,.p (.bin .geq),[.t 1,.t 0],none,false⟩,⟨8,.p .mov,[.t 0],none,false⟩]
noncomputable def c75:CFn:={ nargs:=3,vars:=[0,1,2,4],results:=[.var 3],body:=(.seq (.reg c75_r0 [(3,0)]) (.seq (.reg c75_r1 [(3,0)]) .ret)) }
noncomputable def c80_r0:List SOp:=[⟨0,.p .mov,[.c (.bool false)],none,false⟩]
noncomputable def c80_r1:List SOp:=[⟨0,.p .mov,[.v 0],none,false⟩,⟨1,.p .mov,[.v 1],none,false⟩,⟨2,.call 94,[.t 1,.t 0],none,false⟩,⟨3,.p .mov,[.t 0],none,false⟩]
noncomputable def c80:CFn:={ nargs:=2,vars:=[0,1,4],results:=[.var 2],body:=(.seq (.reg c80_r0 [(2,0)]) (.seq (.reg c80_r1 [(2,0)]) .ret)) }
noncomputable def c83_r0:List SOp:=[⟨0,.p .mov,[.c (.int .i64 0)],none,false⟩]
noncomputable def c83_r1:List SOp:=[⟨0,.p .mov,[.v 0],none,false⟩,⟨1,.p .lenS,[.t 0],none,false⟩,⟨2,.p .mov,[.c (.int .i64 0)],none,false⟩]
noncomputable def c83_r2:List SOp:=[⟨0,.p (.bin .lss),[.v 5,.v 4],none,false⟩]
noncomputable def c83_r3:List SOp:=[⟨0,.p .mov,[.v 5],none,false⟩,⟨1,.p .mov,[.t 0],none,false⟩]
noncomputable def c83_r4:List SOp:=[⟨0,.p .mov,[.v 1],none,false⟩,⟨1,.p .mov,[.v 0],none,false⟩,⟨2,.p .mov,[.v 3],none,false⟩,⟨3,.p (.idxAddrS 1),[.t 1,.t 0],none,false⟩,⟨4,.r (.load false 1),[.t 0],none,false⟩,⟨5,.p (.bin .eql),[.t 4,.t 0],none,false⟩]
noncomputable def c83_r5:List SOp:=[⟨0,.p .mov,[.v 3],none,false⟩,⟨1,.p .mov,[.t 0],none,false⟩]
noncomputable def c83_r6:List SOp:=[⟨0,.p (.bin .add),[.v 5,.c (.int .i64 1)],none,false⟩,⟨1,.p .mov,[.t 0],none,false⟩]
noncomputable def c83_l7:CCode:=(.seq (.reg c83_r2 [(6,0)]) (.seq (.cond (.v 6) .skip (.exit 0)) (.seq (.block 1 (.seq (.reg c83_r3 [(3,0)]) (.rcond c83_r4 [] 0 (.seq (.reg c83_r5 [(2,0)]) .ret) .skip))) (.reg c83_r6 [(5,0)]))))
noncomputable def c83_r8:List SOp:=[⟨0,.p .mov,[.c (.int .i64 (-1))],none,false⟩]
noncomputable def c83:CFn:={ nargs:=2,vars:=[0,1,4,5,7,8,9],results:=[.var 2],body:=(.seq (.reg c83_r0 [(2,0)]) (.seq (.seq (.reg c83_r1 [(4,1),(5,0)]) (.block 0 (.loop c83_l7))) (.seq (.reg c83_r8 [(2,0)]) .ret))) }
noncomputable def c84_r0:List SOp:=[⟨0,.p .mov,[.c (.string ⟨#[]⟩)],none,false⟩]
noncomputable def c84_r1:List SOp:=[⟨0,.p .mov,[.v 0],none,false⟩,⟨1,.call 97,[.t 0,.c (.int .i64 300)],none,false⟩,⟨2,.p .mov,[.t 0],none,false⟩]
noncomputable def c84_r2:List SOp:=[⟨0,.a (.bslice [.string ⟨#[]⟩,.string ⟨#[]⟩,.string ⟨#[]⟩,.string ⟨#[]⟩,.string ⟨#[]⟩,.string ⟨#[]⟩,.string ⟨#[]⟩,.string ⟨#[]⟩,.string ⟨#[]⟩,.string ⟨#[]⟩] [(0,1),(1,1),(2,1),(3,1),(4,1),(5,1),(6,1),(7,1),(8,1),(9,1)] 10 1),[.c (.string ⟨#[120]⟩),.c (.string ⟨#[121]⟩),.c (.string ⟨#[110]⟩),.c (.string ⟨#[95,97]⟩),.c (.string ⟨#[66,50]⟩),.c (.string ⟨#[105,102,115]⟩),.c (.string ⟨#[104,97,114,116]⟩),.c (.string ⟨#[108,111,99,107,49]⟩),.c (.string ⟨#[88,95,121,95,90]⟩),.c (.string ⟨#[72,97,108,116]⟩)],none,false⟩,⟨1,.p .mov,[.v 2],none,false⟩,⟨2,.p (.bin .rem),[.t 0,.c (.int .i64 10)],none,false⟩,⟨3,.p (.idxAddrS 1),[.t 2,.t 0],none,false⟩,⟨4,.r (.load false 1),[.t 0],none,false⟩,⟨5,.p .mov,[.t 0],none,false⟩]
noncomputable def c84_r3:List SOp:=[⟨0,.p .mov,[.v 2],none,false⟩,⟨1,.p (.bin .geq),[.t 0,.c (.int .i64 10)],none,false⟩]
noncomputable def c84_r4:List SOp:=[⟨0,.p .mov,[.v 3],none,false⟩,⟨1,.p .mov,[.v 2],none,false⟩,⟨2,.call 98,[.t 0],none,false⟩,⟨3,.p (.bin .add),[.t 2,.t 0],none,false⟩,⟨4,.p .mov,[.t 0],none,false⟩]
noncomputable def c84_r5:List SOp:=[⟨0,.p .mov,[.v 3],none,false⟩,⟨1,.p .mov,[.t 0],none,false⟩]
noncomputable def c84:CFn:={ nargs:=1,vars:=[0,2,3,4],results:=[.var 1],body:=(.seq (.reg c84_r0 [(1,0)]) (.seq (.reg c84_r1 [(2,0)]) (.seq (.reg c84_r2 [(3,0)]) (.seq (.rcond c84_r3 [] 0 (.reg c84_r4 [(3,0)]) .skip) (.seq (.reg c84_r5 [(1,0)]) .ret))))) }
noncomputable def c85_r0:List SOp:=[⟨0,.p .mov,[.c (.bool false)],none,false⟩]
noncomputable def c85_r1:List SOp:=[⟨0,.p .mov,[.v 0],none,false⟩,⟨1,.p (.bin .geq),[.t 0,.c (.int .u8 97)],none,false⟩,⟨2,.p .mov,[.t 0],none,false⟩,⟨3,.p .mov,[.v 0],some (0,true),false⟩,⟨4,.p (.bin .leq),[.t 0,.c (.int .u8 122)],some (1,true),false⟩,⟨5,.p .pick,[.t 2,.t 0,.c (.bool false)],none,false⟩,⟨6,.p .mov,[.t 0],none,false⟩,⟨7,.p .mov,[.v 0],some (0,false),false⟩,⟨8,.p (.bin .geq),[.t 0,.c (.int .u8 65)],some (1,false),false⟩,⟨9,.p .mov,[.t 0],some (2,false),false⟩,⟨10,.p .mov,[.v 0],some (0,true),false⟩,⟨11,.p (.bin .leq),[.t 0,.c (.int .u8 90)],some (1,true),false⟩,⟨12,.p .pick,[.t 2,.t 0,.c (.bool false)],some (5,false),false⟩,⟨13,.p .pick,[.t 6,.c (.bool true),.t 0],none,false⟩,⟨14,.p .mov,[.t 0],none,false⟩,⟨15,.p .mov,[.v 0],some (0,false),false⟩,⟨16,.p (.bin .eql),[.t 0,.c (.int .u8 95)],some (1,false),false⟩,⟨17,.p .pick,[.t 2,.c (.bool true),.t 0],none,false⟩,⟨18,.p .mov,[.t 0],none,false⟩,⟨19,.p .mov,[.v 0],some (0,false),false⟩,⟨20,.p (.bin .geq),[.t 0,.c (.int .u8 48)],some (1,false),false⟩,⟨21,.p .mov,[.t 0],some (2,false),false⟩,⟨22,.p .mov,[.v 0],some (0,true),false⟩,⟨23,.p (.bin .leq),[.t 0,.c (.int .u8 57)],some (1,true),false⟩,⟨24,.p .pick,[.t 2,.t 0,.c (.bool false)],some (5,false),false⟩,⟨25,.p .pick,[.t 6,.c (.bool true),.t 0],none,false⟩,⟨26,.p .mov,[.t 0],none,false⟩]
noncomputable def c85:CFn:={ nargs:=1,vars:=[0,2],results:=[.var 1],body:=(.seq (.reg c85_r0 [(1,0)]) (.seq (.reg c85_r1 [(1,0)]) .ret)) }
noncomputable def c86_r0:List SOp:=[⟨0,.p .mov,[.c (.slice none 0 0)],none,false⟩]
noncomputable def c86_r1:List SOp:=[⟨0,.a (.bslice [.string ⟨#[]⟩,.string ⟨#[]⟩,.string ⟨#[]⟩,.string ⟨#[]⟩,.string ⟨#[]⟩,.string ⟨#[]⟩,.string ⟨#[]⟩,.string ⟨#[]⟩,.string ⟨#[]⟩,.string ⟨#[]⟩,.string ⟨#[]⟩,.string ⟨#[]⟩,.string ⟨#[]⟩] [(0,1),(1,1),(2,1),(3,1),(4,1),(5,1),(6,1),(7,1),(8,1),(9,1),(10,1),(11,1),(12,1)] 13 1),[.c (.string ⟨#[104,97,114,116,115]⟩),.c (.string ⟨#[100,101,118,105,99,101]⟩),.c (.string ⟨#[117,97,114,116]⟩),.c (.string ⟨#[116,105,109,101,114]⟩),.c (.string ⟨#[103,112,105,111]⟩),.c (.string ⟨#[114,101,115,111,117,114,99,101]⟩),.c (.string ⟨#[116,97,115,107]⟩),.c (.string ⟨#[104,97,110,100,108,101,114]⟩),.c (.string ⟨#[108,111,99,107]⟩),.c (.string ⟨#[105,102]⟩),.c (.string ⟨#[101,108,115,101]⟩),.c (.string ⟨#[114,101,112,101,97,116]⟩),.c (.string ⟨#[104,97,108,116]⟩)],none,false⟩,⟨1,.p .mov,[.t 0],none,false⟩]
noncomputable def c86:CFn:={ nargs:=0,vars:=[0],results:=[.var 0],body:=(.seq (.reg c86_r0 [(0,0)]) (.seq (.reg c86_r1 [(0,0)]) .ret)) }
noncomputable def c87_r0:List SOp:=[⟨0,.p .mov,[.c (.bool false)],none,false⟩]
noncomputable def c87_r1:List SOp:=[⟨0,.p .mov,[.v 0],none,false⟩,⟨1,.p .mov,[.v 1],none,false⟩,⟨2,.call 99,[.t 1,.t 0],none,false⟩,⟨3,.p (.bin .geq),[.t 0,.c (.int .i64 0)],none,false⟩,⟨4,.p .mov,[.t 0],none,false⟩]
noncomputable def c87:CFn:={ nargs:=2,vars:=[0,1,4],results:=[.var 2],body:=(.seq (.reg c87_r0 [(2,0)]) (.seq (.reg c87_r1 [(2,0)]) .ret)) }
noncomputable def c88_r0:List SOp:=[⟨0,.a .box,[.v 0],none,false⟩,⟨1,.p .mov,[.c (.bool false)],none,false⟩]
noncomputable def c88_r1:List SOp:=[⟨0,.r (.load true 7),[.v 2],none,false⟩,⟨1,.r (.load false 1),[.v 1],none,false⟩,⟨2,.call 89,[.t 1,.t 0],none,false⟩,⟨3,.p (.un .not),[.t 0],none,false⟩,⟨4,.p .mov,[.t 0],none,false⟩]
noncomputable def c88:CFn:={ nargs:=2,vars:=[0,1,2,3],results:=[.var 3],body:=(.seq (.reg c88_r0 [(2,1),(3,0)]) (.seq (.reg c88_r1 [(3,0)]) .ret)) }
noncomputable def c89_r0:List SOp:=[⟨0,.a .box,[.v 0],none,false⟩,⟨1,.p .mov,[.c (.bool false)],none,false⟩]
noncomputable def c89_r1:List SOp:=[⟨0,.p (.fieldAddr 0),[.v 2],none,false⟩,⟨1,.r (.load false 1),[.t 0],none,false⟩,⟨2,.call 100,[.t 0],none,false⟩,⟨3,.p .mov,[.t 0],none,false⟩,⟨4,.p (.extract 0),[.t 0],none,false⟩,⟨5,.p (.extract 1),[.t 1],none,false⟩,⟨6,.a (.new [.bool false,.bool false,.int .i64 0,.int .i64 0,.bool false,.bool false]),[],none,false⟩,⟨7,.w (.store 6),[.t 0,.t 2],none,false⟩,⟨8,.p .mov,[.t 2],none,false⟩]
noncomputable def c89_r2:List SOp:=[⟨0,.p .mov,[.v 5],none,false⟩,⟨1,.p .mov,[.t 0],none,false⟩,⟨2,.p .mov,[.v 1],some (0,true),false⟩,⟨3,.p (.bin .gtr),[.t 0,.c (.int .i64 0)],some (1,true),false⟩,⟨4,.p .pick,[.t 2,.t 0,.c (.bool false)],none,false⟩,⟨5,.p .mov,[.t 0],none,false⟩,⟨6,.p (.fieldAddr 1),[.v 2],some (0,true),false⟩,⟨7,.r (.load false 1),[.t 0],some (1,true),false⟩,⟨8,.p (.fieldAddr 0),[.v 4],some (2,true),false⟩,⟨9,.r (.load false 1),[.t 0],some (3,true),false⟩,⟨10,.call 101,[.t 2,.t 0],some (4,true),false⟩,⟨11,.p .pick,[.t 5,.t 0,.c (.bool false)],none,false⟩,⟨12,.p .mov,[.t 0],none,false⟩,⟨13,.p (.fieldAddr 2),[.v 2],some (0,true),false⟩,⟨14,.r (.load false 1),[.t 0],some (1,true),false⟩,⟨15,.p (.fieldAddr 1),[.v 4],some (2,true),false⟩,⟨16,.r (.load false 1),[.t 0],some (3,true),false⟩,⟨17,.call 101,[.t 2,.t 0],some (4,true),false⟩,⟨18,.p .pick,[.t 5,.t 0,.c (.bool false)],none,false⟩,⟨19,.p .mov,[.t 0],none,false⟩,⟨20,.p (.fieldAddr 3),[.v 2],some (0,true),false⟩,⟨21,.r (.load false 1),[.t 0],some (1,true),false⟩,⟨22,.p (.bin .geq),[.t 0,.c (.int .i64 0)],some (2,true),false⟩,⟨23,.p .pick,[.t 3,.t 0,.c (.bool false)],none,false⟩,⟨24,.p .mov,[.t 0],none,false⟩,⟨25,.p (.fieldAddr 3),[.v 2],some (0,true),false⟩,⟨26,.r (.load false 1),[.t 0],some (1,true),false⟩,⟨27,.p (.fieldAddr 2),[.v 4],some (2,true),false⟩,⟨28,.r (.load false 1),[.t 0],some (3,true),false⟩,⟨29,.p (.bin .leq),[.t 2,.t 0],some (4,true),false⟩,⟨30,.p .pick,[.t 5,.t 0,.c (.bool false)],none,false⟩,⟨31,.p .mov,[.t 0],none,false⟩,⟨32,.p (.fieldAddr 4),[.v 2],some (0,true),false⟩,⟨33,.r (.load false 1),[.t 0],some (1,true),false⟩,⟨34,.p .lenS,[.t 0],some (2,true),false⟩,⟨35,.p (.fieldAddr 3),[.v 4],some (3,true),false⟩,⟨36,.r (.load false 1),[.t 0],some (4,true),false⟩,⟨37,.p (.bin .eql),[.t 2,.t 0],some (5,true),false⟩,⟨38,.p .pick,[.t 6,.t 0,.c (.bool false)],none,false⟩,⟨39,.p .mov,[.t 0],none,false⟩,⟨40,.p (.fieldAddr 4),[.v 2],some (0,true),false⟩,⟨41,.r (.load false 1),[.t 0],some (1,true),false⟩,⟨42,.call 102,[.t 0,.c (.int .i64 30)],some (2,true),false⟩,⟨43,.p .pick,[.t 3,.t 0,.c (.bool false)],none,false⟩,⟨44,.p .mov,[.t 0],none,false⟩,⟨45,.p (.fieldAddr 4),[.v 4],some (0,true),false⟩,⟨46,.r (.load false 1),[.t 0],some (1,true),false⟩,⟨47,.p .mov,[.t 0],some (2,true),false⟩,⟨48,.p (.fieldAddr 5),[.v 2],some (0,false),false⟩,⟨49,.r (.load false 1),[.t 0],some (1,false),false⟩,⟨50,.p .lenS,[.t 0],some (2,false),false⟩,⟨51,.p (.bin .eql),[.t 0,.c (.int .i64 0)],some (3,false),false⟩,⟨52,.p .pick,[.t 4,.c (.bool true),.t 0],some (7,true),false⟩,⟨53,.p .pick,[.t 8,.t 0,.c (.bool false)],none,false⟩,⟨54,.p .mov,[.t 0],none,false⟩,⟨55,.p (.fieldAddr 5),[.v 4],some (0,true),false⟩,⟨56,.r (.load false 1),[.t 0],some (1,true),false⟩,⟨57,.p .mov,[.t 0],some (2,true),false⟩,⟨58,.p (.fieldAddr 6),[.v 2],some (0,false),false⟩,⟨59,.r (.load false 1),[.t 0],some (1,false),false⟩,⟨60,.p .lenS,[.t 0],some (2,false),false⟩,⟨61,.p (.bin .eql),[.t 0,.c (.int .i64 0)],some (3,false),false⟩,⟨62,.p .pick,[.t 4,.c (.bool true),.t 0],some (7,true),false⟩,⟨63,.p .pick,[.t 8,.t 0,.c (.bool false)],none,false⟩,⟨64,.p .mov,[.t 0],none,false⟩,⟨65,.p (.fieldAddr 5),[.v 2],some (0,true),false⟩,⟨66,.r (.load false 1),[.t 0],some (1,true),false⟩,⟨67,.p .mov,[.v 1],some (2,true),false⟩,⟨68,.p (.bin .sub),[.t 0,.c (.int .i64 1)],some (3,true),false⟩,⟨69,.call 71,[.t 2,.t 0],some (4,true),false⟩,⟨70,.p .pick,[.t 5,.t 0,.c (.bool false)],none,false⟩,⟨71,.p .mov,[.t 0],none,false⟩,⟨72,.p (.fieldAddr 6),[.v 2],some (0,true),false⟩,⟨73,.r (.load false 1),[.t 0],some (1,true),false⟩,⟨74,.p .mov,[.v 1],some (2,true),false⟩,⟨75,.p (.bin .sub),[.t 0,.c (.int .i64 1)],some (3,true),false⟩,⟨76,.call 71,[.t 2,.t 0],some (4,true),false⟩,⟨77,.p .pick,[.t 5,.t 0,.c (.bool false)],none,false⟩,⟨78,.p .mov,[.t 0],none,false⟩]
noncomputable def c89:CFn:={ nargs:=2,vars:=[0,1,2,4,5,6],results:=[.var 3],body:=(.seq (.reg c89_r0 [(2,1),(3,0)]) (.seq (.reg c89_r1 [(4,2),(5,0)]) (.seq (.reg c89_r2 [(3,0)]) .ret))) }
noncomputable def c90_r0:List SOp:=[⟨0,.p .mov,[.c (.int .i64 0)],none,false⟩]
noncomputable def c90_r1:List SOp:=[⟨0,.p .mov,[.v 0],none,false⟩,⟨1,.p .lenS,[.t 0],none,false⟩,⟨2,.p .mov,[.c (.int .i64 0)],none,false⟩]
noncomputable def c90_r2:List SOp:=[⟨0,.p (.bin .lss),[.v 5,.v 4],none,false⟩]
noncomputable def c90_r3:List SOp:=[⟨0,.p .mov,[.v 5],none,false⟩,⟨1,.p .mov,[.t 0],none,false⟩]
noncomputable def c90_r4:List SOp:=[⟨0,.p .mov,[.v 1],none,false⟩,⟨1,.p .mov,[.v 0],none,false⟩,⟨2,.p .mov,[.v 3],none,false⟩,⟨3,.p (.idxAddrS 1),[.t 1,.t 0],none,false⟩,⟨4,.r (.load false 1),[.t 0],none,false⟩,⟨5,.callV,[.t 4,.t 0],none,false⟩]
noncomputable def c90_r5:List SOp:=[⟨0,.p .mov,[.v 3],none,false⟩,⟨1,.p .mov,[.t 0],none,false⟩]
noncomputable def c90_r6:List SOp:=[⟨0,.p (.bin .add),[.v 5,.c (.int .i64 1)],none,false⟩,⟨1,.p .mov,[.t 0],none,false⟩]
noncomputable def c90_l7:CCode:=(.seq (.reg c90_r2 [(6,0)]) (.seq (.cond (.v 6) .skip (.exit 0)) (.seq (.block 1 (.seq (.reg c90_r3 [(3,0)]) (.rcond c90_r4 [] 0 (.seq (.reg c90_r5 [(2,0)]) .ret) .skip))) (.reg c90_r6 [(5,0)]))))
noncomputable def c90_r8:List SOp:=[⟨0,.p .mov,[.c (.int .i64 (-1))],none,false⟩]
noncomputable def c90:CFn:={ nargs:=2,vars:=[0,1,4,5,7,8,9],results:=[.var 2],body:=(.seq (.reg c90_r0 [(2,0)]) (.seq (.seq (.reg c90_r1 [(4,1),(5,0)]) (.block 0 (.loop c90_l7))) (.seq (.reg c90_r8 [(2,0)]) .ret))) }
noncomputable def c94_r0:List SOp:=[⟨0,.p .mov,[.c (.bool false)],none,false⟩]
noncomputable def c94_r1:List SOp:=[⟨0,.p .mov,[.v 0],none,false⟩,⟨1,.p .lenStr,[.t 0],none,false⟩,⟨2,.p .mov,[.v 1],none,false⟩,⟨3,.p .lenStr,[.t 0],none,false⟩,⟨4,.p (.bin .geq),[.t 2,.t 0],none,false⟩,⟨5,.p .mov,[.t 0],none,false⟩,⟨6,.p .mov,[.v 0],some (0,true),false⟩,⟨7,.p .mov,[.v 1],some (1,true),false⟩,⟨8,.p .lenStr,[.t 0],some (2,true),false⟩,⟨9,.p (.sliceStr false true),[.t 2,.t 0],some (3,true),false⟩,⟨10,.p .mov,[.v 1],some (4,true),false⟩,⟨11,.p (.bin .eql),[.t 1,.t 0],some (5,true),false⟩,⟨12,.p .pick,[.t 6,.t 0,.c (.bool false)],none,false⟩,⟨13,.p .mov,[.t 0],none,false⟩]
noncomputable def c94:CFn:={ nargs:=2,vars:=[0,1,4],results:=[.var 2],body:=(.seq (.reg c94_r0 [(2,0)]) (.seq (.reg c94_r1 [(2,0)]) .ret)) }
noncomputable def c97_r0:List SOp:=[⟨0,.p .mov,[.c (.int .i64 0)],none,false⟩]
noncomputable def c97_r1:List SOp:=[⟨0,.p .mov,[.v 0],none,false⟩,⟨1,.p (.bin .lss),[.t 0,.c (.int .i64 0)],none,false⟩]
noncomputable def c97_r2:List SOp:=[⟨0,.p .mov,[.v 0],none,false⟩,⟨1,.p (.bin .add),[.t 0,.c (.int .i64 1)],none,false⟩,⟨2,.p (.un .neg),[.t 0],none,false⟩,⟨3,.p .mov,[.t 0],none,false⟩]
noncomputable def c97_r3:List SOp:=[⟨0,.p .mov,[.v 0],none,false⟩,⟨1,.p .mov,[.v 1],none,false⟩,⟨2,.p (.bin .rem),[.t 1,.t 0],none,false⟩,⟨3,.p .mov,[.t 0],none,false⟩]
noncomputable def c97:CFn:={ nargs:=2,vars:=[0,1,4],results:=[.var 2],body:=(.seq (.reg c97_r0 [(2,0)]) (.seq (.rcond c97_r1 [] 0 (.reg c97_r2 [(0,0)]) .skip) (.seq (.reg c97_r3 [(2,0)]) .ret))) }
noncomputable def c98_r0:List SOp:=[⟨0,.p .mov,[.c (.string ⟨#[]⟩)],none,false⟩]
noncomputable def c98_r1:List SOp:=[⟨0,.p .mov,[.v 0],none,false⟩,⟨1,.p (.bin .rem),[.t 0,.c (.int .i64 10)],none,false⟩,⟨2,.p (.bin .add),[.c (.int .i64 48),.t 0],none,false⟩,⟨3,.p (.conv .u8),[.t 0],none,false⟩,⟨4,.a (.bslice [.int .u8 0] [(0,1)] 1 1),[.t 0],none,false⟩,⟨5,.r .bytesStr,[.t 0],none,false⟩,⟨6,.p .mov,[.t 0],none,false⟩]
noncomputable def c98_r2:List SOp:=[⟨0,.p .mov,[.v 0],none,false⟩,⟨1,.p (.bin .geq),[.t 0,.c (.int .i64 10)],none,false⟩]
noncomputable def c98_r3:List SOp:=[⟨0,.p .mov,[.v 0],none,false⟩,⟨1,.p (.bin .quo),[.t 0,.c (.int .i64 10)],none,false⟩,⟨2,.call 98,[.t 0],none,false⟩,⟨3,.p .mov,[.v 2],none,false⟩,⟨4,.p (.bin .add),[.t 1,.t 0],none,false⟩,⟨5,.p .mov,[.t 0],none,false⟩]
noncomputable def c98_r4:List SOp:=[⟨0,.p .mov,[.v 2],none,false⟩,⟨1,.p .mov,[.t 0],none,false⟩]
noncomputable def c98:CFn:={ nargs:=1,vars:=[0,2,3],results:=[.var 1],body:=(.seq (.reg c98_r0 [(1,0)]) (.seq (.reg c98_r1 [(2,0)]) (.seq (.rcond c98_r2 [] 0 (.seq (.reg c98_r3 [(1,0)]) .ret) .skip) (.seq (.reg c98_r4 [(1,0)]) .ret)))) }
noncomputable def c99_r0:List SOp:=[⟨0,.p .mov,[.c (.int .i64 0)],none,false⟩]
noncomputable def c99_r1:List SOp:=[⟨0,.p .mov,[.v 0],none,false⟩,⟨1,.p .lenS,[.t 0],none,false⟩,⟨2,.p .mov,[.c (.int .i64 0)],none,false⟩]
noncomputable def c99_r2:List SOp:=[⟨0,.p (.bin .lss),[.v 5,.v 4],none,false⟩]
noncomputable def c99_r3:List SOp:=[⟨0,.p .mov,[.v 5],none,false⟩,⟨1,.p .mov,[.t 0],none,false⟩]
noncomputable def c99_r4:List SOp:=[⟨0,.p .mov,[.v 1],none,false⟩,⟨1,.p .mov,[.v 0],none,false⟩,⟨2,.p .mov,[.v 3],none,false⟩,⟨3,.p (.idxAddrS 7),[.t 1,.t 0],none,false⟩,⟨4,.r (.load true 7),[.t 0],none,false⟩,⟨5,.callV,[.t 4,.t 0],none,false⟩]
noncomputable def c99_r5:List SOp:=[⟨0,.p .mov,[.v 3],none,false⟩,⟨1,.p .mov,[.t 0],none,false⟩]
noncomputable def c99_r6:List SOp:=[⟨0,.p (.bin .add),[.v 5,.c (.int .i64 1)],none,false⟩,⟨1,.p .mov,[.t 0],none,false⟩]
noncomputable def c99_l7:CCode:=(.seq (.reg c99_r2 [(6,0)]) (.seq (.cond (.v 6) .skip (.exit 0)) (.seq (.block 1 (.seq (.reg c99_r3 [(3,0)]) (.rcond c99_r4 [] 0 (.seq (.reg c99_r5 [(2,0)]) .ret) .skip))) (.reg c99_r6 [(5,0)]))))
noncomputable def c99_r8:List SOp:=[⟨0,.p .mov,[.c (.int .i64 (-1))],none,false⟩]
noncomputable def c99:CFn:={ nargs:=2,vars:=[0,1,4,5,7,8,9],results:=[.var 2],body:=(.seq (.reg c99_r0 [(2,0)]) (.seq (.seq (.reg c99_r1 [(4,1),(5,0)]) (.block 0 (.loop c99_l7))) (.seq (.reg c99_r8 [(2,0)]) .ret))) }
noncomputable def c100_r0:List SOp:=[⟨0,.a (.new [.bool false,.bool false,.int .i64 0,.int .i64 0,.bool false,.bool false]),[],none,false⟩,⟨1,.p .mov,[.c (.bool false)],none,false⟩]
noncomputable def c100_r1:List SOp:=[⟨0,.p .mov,[.v 0],none,false⟩]
noncomputable def c100_r2:List SOp:=[⟨0,.p (.bin .eql),[.v 3,.c (.int .i64 1)],none,false⟩,⟨1,.p .mov,[.t 0],none,false⟩]
noncomputable def c100_r3:List SOp:=[⟨0,.p (.build [.bool false,.bool false,.int .i64 0,.int .i64 0,.bool false,.bool false] [(0,1),(3,1)]),[.c (.bool true),.c (.int .i64 1)],none,false⟩,⟨1,.w (.store 6),[.v 1,.t 0],none,false⟩,⟨2,.p .mov,[.c (.bool true)],none,false⟩]
noncomputable def c100_r4:List SOp:=[⟨0,.p (.bin .eql),[.v 3,.c (.int .i64 2)],none,false⟩,⟨1,.p .mov,[.t 0],none,false⟩]
noncomputable def c100_r5:List SOp:=[⟨0,.p (.build [.bool false,.bool false,.int .i64 0,.int .i64 0,.bool false,.bool false] [(0,1),(1,1),(2,1)]),[.c (.bool true),.c (.bool true),.c (.int .i64 3)],none,false⟩,⟨1,.w (.store 6),[.v 1,.t 0],none,false⟩,⟨2,.p .mov,[.c (.bool true)],none,false⟩]
noncomputable def c100_r6:List SOp:=[⟨0,.p (.bin .eql),[.v 3,.c (.int .i64 3)],none,false⟩,⟨1,.p .mov,[.t 0],none,false⟩]
noncomputable def c100_r7:List SOp:=[⟨0,.p (.build [.bool false,.bool false,.int .i64 0,.int .i64 0,.bool false,.bool false] [(0,1),(2,1),(3,1)]),[.c (.bool true),.c (.int .i64 3),.c (.int .i64 1)],none,false⟩,⟨1,.w (.store 6),[.v 1,.t 0],none,false⟩,⟨2,.p .mov,[.c (.bool true)],none,false⟩]
noncomputable def c100_r8:List SOp:=[⟨0,.p (.bin .eql),[.v 3,.c (.int .i64 4)],none,false⟩,⟨1,.p .mov,[.t 0],none,false⟩]
noncomputable def c100_r9:List SOp:=[⟨0,.p (.build [.bool false,.bool false,.int .i64 0,.int .i64 0,.bool false,.bool false] [(0,1),(3,1)]),[.c (.bool true),.c (.int .i64 2)],none,false⟩,⟨1,.w (.store 6),[.v 1,.t 0],none,false⟩,⟨2,.p .mov,[.c (.bool true)],none,false⟩]
noncomputable def c100_r10:List SOp:=[⟨0,.p (.bin .eql),[.v 3,.c (.int .i64 5)],none,false⟩,⟨1,.p .mov,[.t 0],none,false⟩]
noncomputable def c100_r11:List SOp:=[⟨0,.p (.build [.bool false,.bool false,.int .i64 0,.int .i64 0,.bool false,.bool false] [(0,1),(4,1)]),[.c (.bool true),.c (.bool true)],none,false⟩,⟨1,.w (.store 6),[.v 1,.t 0],none,false⟩,⟨2,.p .mov,[.c (.bool true)],none,false⟩]
noncomputable def c100_r12:List SOp:=[⟨0,.p (.bin .eql),[.v 3,.c (.int .i64 6)],none,false⟩,⟨1,.p .mov,[.t 0],none,false⟩]
noncomputable def c100_r13:List SOp:=[⟨0,.p (.build [.bool false,.bool false,.int .i64 0,.int .i64 0,.bool false,.bool false] [(3,1),(4,1),(5,1)]),[.c (.int .i64 1),.c (.bool true),.c (.bool true)],none,false⟩,⟨1,.w (.store 6),[.v 1,.t 0],none,false⟩,⟨2,.p .mov,[.c (.bool true)],none,false⟩]
noncomputable def c100_r14:List SOp:=[⟨0,.p (.bin .eql),[.v 3,.c (.int .i64 7)],none,false⟩,⟨1,.p .mov,[.t 0],none,false⟩]
noncomputable def c100_r15:List SOp:=[⟨0,.p (.build [.bool false,.bool false,.int .i64 0,.int .i64 0,.bool false,.bool false] [(2,1),(4,1)]),[.c (.int .i64 20),.c (.bool true)],none,false⟩,⟨1,.w (.store 6),[.v 1,.t 0],none,false⟩,⟨2,.p .mov,[.c (.bool true)],none,false⟩]
noncomputable def c100_r16:List SOp:=[⟨0,.p (.bin .eql),[.v 3,.c (.int .i64 8)],none,false⟩,⟨1,.p .mov,[.t 0],none,false⟩]
noncomputable def c100_r17:List SOp:=[⟨0,.p (.build [.bool false,.bool false,.int .i64 0,.int .i64 0,.bool false,.bool false] []),[],none,false⟩,⟨1,.w (.store 6),[.v 1,.t 0],none,false⟩,⟨2,.p .mov,[.c (.bool true)],none,false⟩]
noncomputable def c100_r18:List SOp:=[⟨0,.p (.build [.bool false,.bool false,.int .i64 0,.int .i64 0,.bool false,.bool false] []),[],none,false⟩,⟨1,.w (.store 6),[.v 1,.t 0],none,false⟩,⟨2,.p .mov,[.c (.bool false)],none,false⟩]
noncomputable def c100:CFn:={ nargs:=1,vars:=[0,2,3,4],results:=[.cell 1 true 6,.var 2],body:=(.seq (.reg c100_r0 [(1,1),(2,0)]) (.seq (.seq (.reg c100_r1 [(3,0)]) (.block 0 (.rcond c100_r2 [] 0 (.seq (.reg c100_r3 [(2,0)]) .ret) (.rcond c100_r4 [] 0 (.seq (.reg c100_r5 [(2,0)]) .ret) (.rcond c100_r6 [] 0 (.seq (.reg c100_r7 [(2,0)]) .ret) (.rcond c100_r8 [] 0 (.seq (.reg c100_r9 [(2,0)]) .ret) (.rcond c100_r10 [] 0 (.seq (.reg c100_r11 [(2,0)]) .ret) (.rcond c100_r12 [] 0 (.seq (.reg c100_r13 [(2,0)]) .ret) (.rcond c100_r14 [] 0 (.seq (.reg c100_r15 [(2,0)]) .ret) (.rcond c100_r16 [] 0 (.seq (.reg c100_r17 [(2,0)]) .ret) .skip)))))))))) (.seq (.reg c100_r18 [(2,0)]) .ret))) }
noncomputable def c101_r0:List SOp:=[⟨0,.p .mov,[.c (.bool false)],none,false⟩]
noncomputable def c101_r1:List SOp:=[⟨0,.p .mov,[.v 1],none,false⟩,⟨1,.p (.un .not),[.t 0],none,false⟩]
noncomputable def c101_r2:List SOp:=[⟨0,.p .mov,[.v 0],none,false⟩,⟨1,.p (.bin .eql),[.t 0,.c (.string ⟨#[]⟩)],none,false⟩,⟨2,.p .mov,[.t 0],none,false⟩]
noncomputable def c101_r3:List SOp:=[⟨0,.p .mov,[.v 0],none,false⟩,⟨1,.call 38,[.t 0],none,false⟩,⟨2,.p .mov,[.t 0],none,false⟩]
noncomputable def c101:CFn:={ nargs:=2,vars:=[0,1,4],results:=[.var 2],body:=(.seq (.reg c101_r0 [(2,0)]) (.seq (.rcond c101_r1 [] 0 (.seq (.reg c101_r2 [(2,0)]) .ret) .skip) (.seq (.reg c101_r3 [(2,0)]) .ret))) }
noncomputable def c102_r0:List SOp:=[⟨0,.a .box,[.v 1],none,false⟩,⟨1,.p .mov,[.c (.bool false)],none,false⟩]
noncomputable def c102_r1:List SOp:=[⟨0,.p .mov,[.v 0],none,false⟩,⟨1,.p (.mkFunc 114 0),[.v 2],none,false⟩,⟨2,.call 113,[.t 1,.t 0],none,false⟩,⟨3,.p (.un .not),[.t 0],none,false⟩,⟨4,.p .mov,[.t 0],none,false⟩]
noncomputable def c102:CFn:={ nargs:=2,vars:=[0,1,3,4],results:=[.var 3],body:=(.seq (.reg c102_r0 [(2,1),(3,0)]) (.seq (.reg c102_r1 [(3,0)]) .ret)) }
noncomputable def c113_r0:List SOp:=[⟨0,.p .mov,[.c (.bool false)],none,false⟩]
noncomputable def c113_r1:List SOp:=[⟨0,.p .mov,[.v 0],none,false⟩,⟨1,.p .mov,[.v 1],none,false⟩,⟨2,.call 130,[.t 1,.t 0],none,false⟩,⟨3,.p (.bin .geq),[.t 0,.c (.int .i64 0)],none,false⟩,⟨4,.p .mov,[.t 0],none,false⟩]
noncomputable def c113:CFn:={ nargs:=2,vars:=[0,1,4],results:=[.var 2],body:=(.seq (.reg c113_r0 [(2,0)]) (.seq (.reg c113_r1 [(2,0)]) .ret)) }
noncomputable def c114_r0:List SOp:=[⟨0,.a .box,[.v 0],none,false⟩,⟨1,.p .mov,[.c (.bool false)],none,false⟩]
noncomputable def c114_r1:List SOp:=[⟨0,.r (.load true 5),[.v 2],none,false⟩,⟨1,.call 115,[.t 0],none,false⟩,⟨2,.p .mov,[.t 0],none,false⟩,⟨3,.p (.extract 0),[.t 0],none,false⟩,⟨4,.p (.extract 1),[.t 1],none,false⟩,⟨5,.p .mov,[.t 1],none,false⟩,⟨6,.p .mov,[.t 1],none,false⟩]
noncomputable def c114_r2:List SOp:=[⟨0,.r (.load false 1),[.v 1],none,false⟩,⟨1,.p (.bin .lss),[.t 0,.c (.int .i64 1)],none,false⟩,⟨2,.p .mov,[.t 0],none,false⟩,⟨3,.p .mov,[.v 5],some (0,false),false⟩,⟨4,.p (.un .not),[.t 0],some (1,false),false⟩,⟨5,.p .pick,[.t 2,.c (.bool true),.t 0],none,false⟩,⟨6,.p .mov,[.t 0],none,false⟩,⟨7,.p (.fieldAddr 4),[.v 2],some (0,false),false⟩,⟨8,.r (.load false 1),[.t 0],some (1,false),false⟩,⟨9,.p .lenS,[.t 0],some (2,false),false⟩,⟨10,.p .mov,[.v 4],some (3,false),false⟩,⟨11,.p (.bin .neq),[.t 1,.t 0],some (4,false),false⟩,⟨12,.p .pick,[.t 5,.c (.bool true),.t 0],none,false⟩,⟨13,.p .mov,[.t 0],none,false⟩,⟨14,.p (.fieldAddr 4),[.v 2],some (0,false),false⟩,⟨15,.r (.load false 1),[.t 0],some (1,false),false⟩,⟨16,.r (.load false 1),[.v 1],some (2,false),false⟩,⟨17,.p (.bin .sub),[.t 0,.c (.int .i64 1)],some (3,false),false⟩,⟨18,.call 102,[.t 2,.t 0],some (4,false),false⟩,⟨19,.p (.un .not),[.t 0],some (5,false),false⟩,⟨20,.p .pick,[.t 6,.c (.bool true),.t 0],none,false⟩,⟨21,.p .mov,[.t 0],none,false⟩]
noncomputable def c114:CFn:={ nargs:=2,vars:=[0,1,2,3,4,5],results:=[.var 3],body:=(.seq (.reg c114_r0 [(2,1),(3,0)]) (.seq (.reg c114_r1 [(4,1),(5,0)]) (.seq (.reg c114_r2 [(3,0)]) .ret))) }
noncomputable def c115_r0:List SOp:=[⟨0,.a .box,[.v 0],none,false⟩,⟨1,.p .mov,[.c (.int .i64 0)],none,false⟩,⟨2,.p .mov,[.c (.bool false)],none,false⟩]
noncomputable def c115_r1:List SOp:=[⟨0,.p (.fieldAddr 0),[.v 1],none,false⟩,⟨1,.r (.load false 1),[.t 0],none,false⟩,⟨2,.p (.build [.int .i64 0,.int .i64 0,.int .i64 0,.string ⟨#[]⟩,.slice none 0 0] [(0,1)]),[.t 0],none,false⟩,⟨3,.a (.new [.int .i64 0,.int .i64 0,.int .i64 0,.string ⟨#[]⟩,.slice none 0 0]),[],none,false⟩,⟨4,.w (.store 5),[.t 0,.t 1],none,false⟩]
noncomputable def c115_r2:List SOp:=[⟨0,.p (.fieldAddr 0),[.v 1],none,false⟩,⟨1,.r (.load false 1),[.t 0],none,false⟩]
noncomputable def c115_r3:List SOp:=[⟨0,.p (.bin .eql),[.v 5,.c (.int .i64 1)],none,false⟩,⟨1,.p .mov,[.t 0],none,false⟩]
noncomputable def c115_r4:List SOp:=[⟨0,.p (.fieldAddr 2),[.v 1],none,false⟩,⟨1,.r (.load false 1),[.t 0],none,false⟩,⟨2,.p (.fieldAddr 2),[.v 4],none,false⟩,⟨3,.w (.store 1),[.t 0,.t 1],none,false⟩]
noncomputable def c115_r5:List SOp:=[⟨0,.p (.fieldAddr 2),[.v 1],none,false⟩,⟨1,.r (.load false 1),[.t 0],none,false⟩,⟨2,.p (.fieldAddr 2),[.v 1],none,false⟩,⟨3,.r (.load false 1),[.t 0],none,false⟩,⟨4,.p (.conv .u32),[.t 0],none,false⟩,⟨5,.p (.conv .i64),[.t 0],none,false⟩,⟨6,.p (.bin .eql),[.t 4,.t 0],none,false⟩,⟨7,.p .mov,[.t 0],none,false⟩]
noncomputable def c115_r6:List SOp:=[⟨0,.p (.bin .eql),[.v 5,.c (.int .i64 2)],none,false⟩,⟨1,.p .mov,[.t 0],none,false⟩]
noncomputable def c115_r7:List SOp:=[⟨0,.p (.fieldAddr 3),[.v 1],none,false⟩,⟨1,.r (.load false 1),[.t 0],none,false⟩,⟨2,.p (.fieldAddr 3),[.v 4],none,false⟩,⟨3,.w (.store 1),[.t 0,.t 1],none,false⟩]
noncomputable def c115_r8:List SOp:=[⟨0,.p (.fieldAddr 3),[.v 1],none,false⟩,⟨1,.r (.load false 1),[.t 0],none,false⟩,⟨2,.call 38,[.t 0],none,false⟩,⟨3,.p .mov,[.t 0],none,false⟩]
noncomputable def c115_r9:List SOp:=[⟨0,.p (.bin .eql),[.v 5,.c (.int .i64 3)],none,false⟩,⟨1,.p .mov,[.t 0],none,false⟩]
noncomputable def c115_r10:List SOp:=[⟨0,.p (.fieldAddr 1),[.v 1],none,false⟩,⟨1,.r (.load false 1),[.t 0],none,false⟩,⟨2,.p (.fieldAddr 1),[.v 4],none,false⟩,⟨3,.w (.store 1),[.t 0,.t 1],none,false⟩]
noncomputable def c115_r11:List SOp:=[⟨0,.p (.fieldAddr 1),[.v 1],none,false⟩,⟨1,.r (.load false 1),[.t 0],none,false⟩,⟨2,.p (.bin .eql),[.t 0,.c (.int .i64 15)],none,false⟩,⟨3,.p .mov,[.t 0],none,false⟩,⟨4,.p (.fieldAddr 1),[.v 1],some (0,false),false⟩,⟨5,.r (.load false 1),[.t 0],some (1,false),false⟩,⟨6,.p (.bin .eql),[.t 0,.c (.int .i64 16)],some (2,false),false⟩,⟨7,.p .pick,[.t 3,.c (.bool true),.t 0],none,false⟩,⟨8,.p .mov,[.t 0],none,false⟩,⟨9,.p (.fieldAddr 1),[.v 1],some (0,false),false⟩,⟨10,.r (.load false 1),[.t 0],some (1,false),false⟩,⟨11,.p (.bin .eql),[.t 0,.c (.int .i64 17)],some (2,false),false⟩,⟨12,.p .pick,[.t 3,.c (.bool true),.t 0],none,false⟩,⟨13,.p .mov,[.c (.int .i64 1)],none,false⟩,⟨14,.p .mov,[.t 1],none,false⟩]
noncomputable def c115_r12:List SOp:=[⟨0,.p (.bin .eql),[.v 5,.c (.int .i64 4)],none,false⟩,⟨1,.p .mov,[.t 0],none,false⟩]
noncomputable def c115_r13:List SOp:=[⟨0,.p (.fieldAddr 1),[.v 1],none,false⟩,⟨1,.r (.load false 1),[.t 0],none,false⟩,⟨2,.p (.fieldAddr 1),[.v 4],none,false⟩,⟨3,.w (.store 1),[.t 0,.t 1],none,false⟩]
noncomputable def c115_r14:List SOp:=[⟨0,.p (.fieldAddr 1),[.v 1],none,false⟩,⟨1,.r (.load false 1),[.t 0],none,false⟩,⟨2,.call 131,[.t 0],none,false⟩,⟨3,.p (.bin .gtr),[.t 0,.c (.int .i64 0)],none,false⟩,⟨4,.p .mov,[.c (.int .i64 2)],none,false⟩,⟨5,.p .mov,[.t 1],none,false⟩]
noncomputable def c115_r15:List SOp:=[⟨0,.p (.bin .eql),[.v 5,.c (.int .i64 5)],none,false⟩,⟨1,.p .mov,[.t 0],none,false⟩]
noncomputable def c115_r16:List SOp:=[⟨0,.p (.fieldAddr 3),[.v 1],none,false⟩,⟨1,.r (.load false 1),[.t 0],none,false⟩,⟨2,.p (.fieldAddr 3),[.v 4],none,false⟩,⟨3,.w (.store 1),[.t 0,.t 1],none,false⟩]
noncomputable def c115_r17:List SOp:=[⟨0,.p (.fieldAddr 3),[.v 1],none,false⟩,⟨1,.r (.load false 1),[.t 0],none,false⟩,⟨2,.call 38,[.t 0],none,false⟩,⟨3,.p .mov,[.c (.int .i64 1)],none,false⟩,⟨4,.p .mov,[.t 1],none,false⟩]
noncomputable def c115_r18:List SOp:=[⟨0,.p .mov,[.v 2],none,false⟩,⟨1,.p .mov,[.v 3],none,false⟩,⟨2,.p .mov,[.t 0],none,false⟩,⟨3,.r (.load true 5),[.v 1],some (0,true),false⟩,⟨4,.r (.load true 5),[.v 4],some (1,true),false⟩,⟨5,.call 132,[.t 1,.t 0],some (2,true),false⟩,⟨6,.p .pick,[.t 3,.t 0,.c (.bool false)],none,false⟩,⟨7,.p .mov,[.t 6],none,false⟩,⟨8,.p .mov,[.t 1],none,false⟩]
noncomputable def c115:CFn:={ nargs:=1,vars:=[0,1,2,3,4,9],results:=[.var 2,.var 3],body:=(.seq (.reg c115_r0 [(1,2),(2,1),(3,0)]) (.seq (.reg c115_r1 [(4,1)]) (.seq (.seq (.reg c115_r2 [(5,0)]) (.block 0 (.rcond c115_r3 [] 0 (.seq (.reg c115_r4 []) (.reg c115_r5 [(3,0)])) (.rcond c115_r6 [] 0 (.seq (.reg c115_r7 []) (.reg c115_r8 [(3,0)])) (.rcond c115_r9 [] 0 (.seq (.reg c115_r10 []) (.reg c115_r11 [(2,1),(3,0)])) (.rcond c115_r12 [] 0 (.seq (.reg c115_r13 []) (.reg c115_r14 [(2,1),(3,0)])) (.rcond c115_r15 [] 0 (.seq (.reg c115_r16 []) (.reg c115_r17 [(2,1),(3,0)])) .skip))))))) (.seq (.reg c115_r18 [(2,1),(3,0)]) .ret)))) }
noncomputable def c130_r0:List SOp:=[⟨0,.p .mov,[.c (.int .i64 0)],none,false⟩]
noncomputable def c130_r1:List SOp:=[⟨0,.p .mov,[.v 0],none,false⟩,⟨1,.p .lenS,[.t 0],none,false⟩,⟨2,.p .mov,[.c (.int .i64 0)],none,false⟩]
noncomputable def c130_r2:List SOp:=[⟨0,.p (.bin .lss),[.v 5,.v 4],none,false⟩]
noncomputable def c130_r3:List SOp:=[⟨0,.p .mov,[.v 5],none,false⟩,⟨1,.p .mov,[.t 0],none,false⟩]
noncomputable def c130_r4:List SOp:=[⟨0,.p .mov,[.v 1],none,false⟩,⟨1,.p .mov,[.v 0],none,false⟩,⟨2,.p .mov,[.v 3],none,false⟩,⟨3,.p (.idxAddrS 5),[.t 1,.t 0],none,false⟩,⟨4,.r (.load true 5),[.t 0],none,false⟩,⟨5,.callV,[.t 4,.t 0],none,false⟩]
noncomputable def c130_r5:List SOp:=[⟨0,.p .mov,[.v 3],none,false⟩,⟨1,.p .mov,[.t 0],none,false⟩]
noncomputable def c130_r6:List SOp:=[⟨0,.p (.bin .add),[.v 5,.c (.int .i64 1)],none,false⟩,⟨1,.p .mov,[.t 0],none,false⟩]
noncomputable def c130_l7:CCode:=(.seq (.reg c130_r2 [(6,0)]) (.seq (.cond (.v 6) .skip (.exit 0)) (.seq (.block 1 (.seq (.reg c130_r3 [(3,0)]) (.rcond c130_r4 [] 0 (.seq (.reg c130_r5 [(2,0)]) .ret) .skip))) (.reg c130_r6 [(5,0)]))))
noncomputable def c130_r8:List SOp:=[⟨0,.p .mov,[.c (.int .i64 (-1))],none,false⟩]
noncomputable def c130:CFn:={ nargs:=2,vars:=[0,1,4,5,7,8,9],results:=[.var 2],body:=(.seq (.reg c130_r0 [(2,0)]) (.seq (.seq (.reg c130_r1 [(4,1),(5,0)]) (.block 0 (.loop c130_l7))) (.seq (.reg c130_r8 [(2,0)]) .ret))) }
noncomputable def c131_r0:List SOp:=[⟨0,.p .mov,[.c (.int .i64 0)],none,false⟩]
noncomputable def c131_r1:List SOp:=[⟨0,.p .mov,[.v 0],none,false⟩]
noncomputable def c131_r2:List SOp:=[⟨0,.p (.bin .eql),[.v 2,.c (.int .i64 3)],none,false⟩,⟨1,.p .mov,[.t 0],none,false⟩]
noncomputable def c131_r3:List SOp:=[⟨0,.p (.bin .eql),[.v 2,.c (.int .i64 4)],none,false⟩,⟨1,.p .mov,[.t 0],none,false⟩]
noncomputable def c131_r4:List SOp:=[⟨0,.p (.bin .eql),[.v 2,.c (.int .i64 5)],none,false⟩,⟨1,.p .mov,[.t 0],none,false⟩]
noncomputable def c131_r5:List SOp:=[⟨0,.p (.bin .eql),[.v 2,.c (.int .i64 1)],none,false⟩,⟨1,.p .mov,[.t 0],none,false⟩]
noncomputable def c131_r6:List SOp:=[⟨0,.p (.bin .eql),[.v 2,.c (.int .i64 2)],none,false⟩,⟨1,.p .mov,[.t 0],none,false⟩]
noncomputable def c131_r7:List SOp:=[⟨0,.p (.bin .eql),[.v 2,.c (.int .i64 9)],none,false⟩,⟨1,.p .mov,[.t 0],none,false⟩]
noncomputable def c131_r8:List SOp:=[⟨0,.p (.bin .eql),[.v 2,.c (.int .i64 10)],none,false⟩,⟨1,.p .mov,[.t 0],none,false⟩]
noncomputable def c131_r9:List SOp:=[⟨0,.p (.bin .eql),[.v 2,.c (.int .i64 11)],none,false⟩,⟨1,.p .mov,[.t 0],none,false⟩]
noncomputable def c131_r10:List SOp:=[⟨0,.p (.bin .eql),[.v 2,.c (.int .i64 12)],none,false⟩,⟨1,.p .mov,[.t 0],none,false⟩]
noncomputable def c131_r11:List SOp:=[⟨0,.p (.bin .eql),[.v 2,.c (.int .i64 13)],none,false⟩,⟨1,.p .mov,[.t 0],none,false⟩]
noncomputable def c131_r12:List SOp:=[⟨0,.p (.bin .eql),[.v 2,.c (.int .i64 14)],none,false⟩,⟨1,.p .mov,[.t 0],none,false⟩]
noncomputable def c131_r13:List SOp:=[⟨0,.p (.bin .eql),[.v 2,.c (.int .i64 6)],none,false⟩,⟨1,.p .mov,[.t 0],none,false⟩]
noncomputable def c131_r14:List SOp:=[⟨0,.p (.bin .eql),[.v 2,.c (.int .i64 8)],none,false⟩,⟨1,.p .mov,[.t 0],none,false⟩]
noncomputable def c131_r15:List SOp:=[⟨0,.p (.bin .eql),[.v 2,.c (.int .i64 7)],none,false⟩,⟨1,.p .mov,[.t 0],none,false⟩]
noncomputable def c131_r16:List SOp:=[⟨0,.p .mov,[.v 1],none,false⟩,⟨1,.p (.bin .add),[.t 0,.c (.int .i64 1)],none,false⟩,⟨2,.p .mov,[.t 0],none,false⟩]
noncomputable def c131_r17:List SOp:=[⟨0,.p .mov,[.v 1],none,false⟩,⟨1,.p (.bin .add),[.t 0,.c (.int .i64 1)],none,false⟩,⟨2,.p .mov,[.t 0],none,false⟩]
noncomputable def c131_r18:List SOp:=[⟨0,.p .mov,[.v 1],none,false⟩,⟨1,.p (.bin .add),[.t 0,.c (.int .i64 1)],none,false⟩,⟨2,.p .mov,[.t 0],none,false⟩]
noncomputable def c131_r19:List SOp:=[⟨0,.p .mov,[.v 1],none,false⟩,⟨1,.p (.bin .add),[.t 0,.c (.int .i64 1)],none,false⟩,⟨2,.p .mov,[.t 0],none,false⟩]
noncomputable def c131_r20:List SOp:=[⟨0,.p .mov,[.v 1],none,false⟩,⟨1,.p (.bin .add),[.t 0,.c (.int .i64 1)],none,false⟩,⟨2,.p .mov,[.t 0],none,false⟩]
noncomputable def c131_r21:List SOp:=[⟨0,.p .mov,[.v 1],none,false⟩,⟨1,.p (.bin .add),[.t 0,.c (.int .i64 1)],none,false⟩,⟨2,.p .mov,[.t 0],none,false⟩]
noncomputable def c131_r22:List SOp:=[⟨0,.p .mov,[.v 1],none,false⟩,⟨1,.p (.bin .add),[.t 0,.c (.int .i64 1)],none,false⟩,⟨2,.p .mov,[.t 0],none,false⟩]
noncomputable def c131_r23:List SOp:=[⟨0,.p .mov,[.v 1],none,false⟩,⟨1,.p (.bin .add),[.t 0,.c (.int .i64 1)],none,false⟩,⟨2,.p .mov,[.t 0],none,false⟩]
noncomputable def c131:CFn:={ nargs:=1,vars:=[0,2,3,4,8,11,14,17],results:=[.var 1],body:=(.seq (.reg c131_r0 [(1,0)]) (.seq (.seq (.reg c131_r1 [(2,0)]) (.block 0 (.seq (.block 8 (.seq (.block 7 (.seq (.block 6 (.seq (.block 5 (.seq (.block 4 (.seq (.block 3 (.seq (.block 2 (.seq (.block 1 (.seq (.seq (.seq (.rcond c131_r2 [(3,0)] 0 .skip (.rcond c131_r3 [(3,0)] 0 .skip (.reg c131_r4 [(3,0)]))) (.cond (.v 3) (.exit 1) .skip)) (.seq (.seq (.rcond c131_r5 [(4,0)] 0 .skip (.reg c131_r6 [(4,0)])) (.cond (.v 4) (.exit 2) .skip)) (.seq (.seq (.rcond c131_r7 [(5,0)] 0 .skip (.reg c131_r8 [(5,0)])) (.cond (.v 5) (.exit 3) .skip)) (.seq (.seq (.rcond c131_r9 [(6,0)] 0 .skip (.reg c131_r10 [(6,0)])) (.cond (.v 6) (.exit 4) .skip)) (.seq (.seq (.rcond c131_r11 [(7,0)] 0 .skip (.reg c131_r12 [(7,0)])) (.cond (.v 7) (.exit 5) .skip)) (.seq (.rcond c131_r13 [] 0 (.exit 6) .skip) (.seq (.rcond c131_r14 [] 0 (.exit 7) .skip) (.rcond c131_r15 [] 0 (.exit 8) .skip)))))))) (.exit 0))) (.reg c131_r16 [(1,0)]))) (.reg c131_r17 [(1,0)]))) (.reg c131_r18 [(1,0)]))) (.reg c131_r19 [(1,0)]))) (.reg c131_r20 [(1,0)]))) (.reg c131_r21 [(1,0)]))) (.reg c131_r22 [(1,0)]))) (.seq (.reg c131_r23 [(1,0)]) (.exit 0))))) .ret)) }
noncomputable def c132_r0:List SOp:=[⟨0,.a .box,[.v 0],none,false⟩,⟨1,.a .box,[.v 1],none,false⟩,⟨2,.p .mov,[.c (.bool false)],none,false⟩]
noncomputable def c132_r1:List SOp:=[⟨0,.p (.fieldAddr 0),[.v 2],none,false⟩,⟨1,.r (.load false 1),[.t 0],none,false⟩,⟨2,.p (.fieldAddr 0),[.v 3],none,false⟩,⟨3,.r (.load false 1),[.t 0],none,false⟩,⟨4,.p (.bin .eql),[.t 2,.t 0],none,false⟩,⟨5,.p .mov,[.t 0],none,false⟩,⟨6,.p (.fieldAddr 1),[.v 2],some (0,true),false⟩,⟨7,.r (.load false 1),[.t 0],some (1,true),false⟩,⟨8,.p (.fieldAddr 1),[.v 3],some (2,true),false⟩,⟨9,.r (.load false 1),[.t 0],some (3,true),false⟩,⟨10,.p (.bin .eql),[.t 2,.t 0],some (4,true),false⟩,⟨11,.p .pick,[.t 5,.t 0,.c (.bool false)],none,false⟩,⟨12,.p .mov,[.t 0],none,false⟩,⟨13,.p (.fieldAddr 2),[.v 2],some (0,true),false⟩,⟨14,.r (.load false 1),[.t 0],some (1,true),false⟩,⟨15,.p (.fieldAddr 2),[.v 3],some (2,true),false⟩,⟨16,.r (.load false 1),[.t 0],some (3,true),false⟩,⟨17,.p (.bin .eql),[.t 2,.t 0],some (4,true),false⟩,⟨18,.p .pick,[.t 5,.t 0,.c (.bool false)],none,false⟩,⟨19,.p .mov,[.t 0],none,false⟩,⟨20,.p (.fieldAddr 3),[.v 2],some (0,true),false⟩,⟨21,.r (.load false 1),[.t 0],some (1,true),false⟩,⟨22,.p (.fieldAddr 3),[.v 3],some (2,true),false⟩,⟨23,.r (.load false 1),[.t 0],some (3,true),false⟩,⟨24,.p (.bin .eql),[.t 2,.t 0],some (4,true),false⟩,⟨25,.p .pick,[.t 5,.t 0,.c (.bool false)],none,false⟩,⟨26,.p .mov,[.t 0],none,false⟩]
noncomputable def c132:CFn:={ nargs:=2,vars:=[0,1,2,3,4],results:=[.var 4],body:=(.seq (.reg c132_r0 [(2,2),(3,1),(4,0)]) (.seq (.reg c132_r1 [(4,0)]) .ret)) }
set_option maxRecDepth 100000 in
theorem ok9:FnOk Tryz.prog 9 c9:=compF_ok (na:=c9.nargs) (vars:=c9.vars) (by kernel_rfl)
set_option maxRecDepth 100000 in
theorem ok10:FnOk Tryz.prog 10 c10:=compF_ok (na:=c10.nargs) (vars:=c10.vars) (by kernel_rfl)
set_option maxRecDepth 100000 in
theorem ok11:FnOk Tryz.prog 11 c11:=compF_ok (na:=c11.nargs) (vars:=c11.vars) (by kernel_rfl)
set_option maxRecDepth 100000 in
theorem ok12:FnOk Tryz.prog 12 c12:=compF_ok (na:=c12.nargs) (vars:=c12.vars) (by kernel_rfl)
set_option maxRecDepth 100000 in
theorem ok13:FnOk Tryz.prog 13 c13:=compF_ok (na:=c13.nargs) (vars:=c13.vars) (by kernel_rfl)
set_option maxRecDepth 100000 in
theorem ok15:FnOk Tryz.prog 15 c15:=compF_ok (na:=c15.nargs) (vars:=c15.vars) (by kernel_rfl)
set_option maxRecDepth 100000 in
theorem ok18:FnOk Tryz.prog 18 c18:=compF_ok (na:=c18.nargs) (vars:=c18.vars) (by kernel_rfl)
set_option maxRecDepth 100000 in
theorem ok19:FnOk Tryz.prog 19 c19:=compF_ok (na:=c19.nargs) (vars:=c19.vars) (by kernel_rfl)
set_option maxRecDepth 100000 in
theorem ok20:FnOk Tryz.prog 20 c20:=compF_ok (na:=c20.nargs) (vars:=c20.vars) (by kernel_rfl)
set_option maxRecDepth 100000 in
theorem ok21:FnOk Tryz.prog 21 c21:=compF_ok (na:=c21.nargs) (vars:=c21.vars) (by kernel_rfl)
set_option maxRecDepth 100000 in
theorem ok22:FnOk Tryz.prog 22 c22:=compF_ok (na:=c22.nargs) (vars:=c22.vars) (by kernel_rfl)
set_option maxRecDepth 100000 in
theorem ok23:FnOk Tryz.prog 23 c23:=compF_ok (na:=c23.nargs) (vars:=c23.vars) (by kernel_rfl)
set_option maxRecDepth 100000 in
theorem ok24:FnOk Tryz.prog 24 c24:=compF_ok (na:=c24.nargs) (vars:=c24.vars) (by kernel_rfl)
set_option maxRecDepth 100000 in
theorem ok25:FnOk Tryz.prog 25 c25:=compF_ok (na:=c25.nargs) (vars:=c25.vars) (by kernel_rfl)
set_option maxRecDepth 100000 in
theorem ok26:FnOk Tryz.prog 26 c26:=compF_ok (na:=c26.nargs) (vars:=c26.vars) (by kernel_rfl)
set_option maxRecDepth 100000 in
theorem ok27:FnOk Tryz.prog 27 c27:=compF_ok (na:=c27.nargs) (vars:=c27.vars) (by kernel_rfl)
set_option maxRecDepth 100000 in
theorem ok28:FnOk Tryz.prog 28 c28:=compF_ok (na:=c28.nargs) (vars:=c28.vars) (by kernel_rfl)
set_option maxRecDepth 100000 in
theorem ok29:FnOk Tryz.prog 29 c29:=compF_ok (na:=c29.nargs) (vars:=c29.vars) (by kernel_rfl)
set_option maxRecDepth 100000 in
theorem ok35:FnOk Tryz.prog 35 c35:=compF_ok (na:=c35.nargs) (vars:=c35.vars) (by kernel_rfl)
set_option maxRecDepth 100000 in
theorem ok36:FnOk Tryz.prog 36 c36:=compF_ok (na:=c36.nargs) (vars:=c36.vars) (by kernel_rfl)
set_option maxRecDepth 100000 in
theorem ok37:FnOk Tryz.prog 37 c37:=compF_ok (na:=c37.nargs) (vars:=c37.vars) (by kernel_rfl)
set_option maxRecDepth 100000 in
theorem ok38:FnOk Tryz.prog 38 c38:=compF_ok (na:=c38.nargs) (vars:=c38.vars) (by kernel_rfl)
set_option maxRecDepth 100000 in
theorem ok39:FnOk Tryz.prog 39 c39:=compF_ok (na:=c39.nargs) (vars:=c39.vars) (by kernel_rfl)
set_option maxRecDepth 100000 in
theorem ok40:FnOk Tryz.prog 40 c40:=compF_ok (na:=c40.nargs) (vars:=c40.vars) (by kernel_rfl)
set_option maxRecDepth 100000 in
theorem ok41:FnOk Tryz.prog 41 c41:=compF_ok (na:=c41.nargs) (vars:=c41.vars) (by kernel_rfl)
set_option maxRecDepth 100000 in
theorem ok42:FnOk Tryz.prog 42 c42:=compF_ok (na:=c42.nargs) (vars:=c42.vars) (by kernel_rfl)
set_option maxRecDepth 100000 in
theorem ok43:FnOk Tryz.prog 43 c43:=compF_ok (na:=c43.nargs) (vars:=c43.vars) (by kernel_rfl)
set_option maxRecDepth 100000 in
theorem ok44:FnOk Tryz.prog 44 c44:=compF_ok (na:=c44.nargs) (vars:=c44.vars) (by kernel_rfl)
set_option maxRecDepth 100000 in
theorem ok45:FnOk Tryz.prog 45 c45:=compF_ok (na:=c45.nargs) (vars:=c45.vars) (by kernel_rfl)
set_option maxRecDepth 100000 in
theorem ok46:FnOk Tryz.prog 46 c46:=compF_ok (na:=c46.nargs) (vars:=c46.vars) (by kernel_rfl)
set_option maxRecDepth 100000 in
theorem ok47:FnOk Tryz.prog 47 c47:=compF_ok (na:=c47.nargs) (vars:=c47.vars) (by kernel_rfl)
set_option maxRecDepth 100000 in
theorem ok48:FnOk Tryz.prog 48 c48:=compF_ok (na:=c48.nargs) (vars:=c48.vars) (by kernel_rfl)
set_option maxRecDepth 100000 in
theorem ok49:FnOk Tryz.prog 49 c49:=compF_ok (na:=c49.nargs) (vars:=c49.vars) (by kernel_rfl)
set_option maxRecDepth 100000 in
theorem ok50:FnOk Tryz.prog 50 c50:=compF_ok (na:=c50.nargs) (vars:=c50.vars) (by kernel_rfl)
set_option maxRecDepth 100000 in
theorem ok51:FnOk Tryz.prog 51 c51:=compF_ok (na:=c51.nargs) (vars:=c51.vars) (by kernel_rfl)
set_option maxRecDepth 100000 in
theorem ok52:FnOk Tryz.prog 52 c52:=compF_ok (na:=c52.nargs) (vars:=c52.vars) (by kernel_rfl)
set_option maxRecDepth 100000 in
theorem ok53:FnOk Tryz.prog 53 c53:=compF_ok (na:=c53.nargs) (vars:=c53.vars) (by kernel_rfl)
set_option maxRecDepth 100000 in
theorem ok54:FnOk Tryz.prog 54 c54:=compF_ok (na:=c54.nargs) (vars:=c54.vars) (by kernel_rfl)
set_option maxRecDepth 100000 in
theorem ok55:FnOk Tryz.prog 55 c55:=compF_ok (na:=c55.nargs) (vars:=c55.vars) (by kernel_rfl)
set_option maxRecDepth 100000 in
theorem ok66:FnOk Tryz.prog 66 c66:=compF_ok (na:=c66.nargs) (vars:=c66.vars) (by kernel_rfl)
set_option maxRecDepth 100000 in
theorem ok67:FnOk Tryz.prog 67 c67:=compF_ok (na:=c67.nargs) (vars:=c67.vars) (by kernel_rfl)
set_option maxRecDepth 100000 in
theorem ok68:FnOk Tryz.prog 68 c68:=compF_ok (na:=c68.nargs) (vars:=c68.vars) (by kernel_rfl)
set_option maxRecDepth 100000 in
theorem ok69:FnOk Tryz.prog 69 c69:=compF_ok (na:=c69.nargs) (vars:=c69.vars) (by kernel_rfl)
set_option maxRecDepth 100000 in
theorem ok70:FnOk Tryz.prog 70 c70:=compF_ok (na:=c70.nargs) (vars:=c70.vars) (by kernel_rfl)
set_option maxRecDepth 100000 in
theorem ok71:FnOk Tryz.prog 71 c71:=compF_ok (na:=c71.nargs) (vars:=c71.vars) (by kernel_rfl)
set_option maxRecDepth 100000 in
theorem ok72:FnOk Tryz.prog 72 c72:=compF_ok (na:=c72.nargs) (vars:=c72.vars) (by kernel_rfl)
set_option maxRecDepth 100000 in
theorem ok73:FnOk Tryz.prog 73 c73:=compF_ok (na:=c73.nargs) (vars:=c73.vars) (by kernel_rfl)
set_option maxRecDepth 100000 in
theorem ok74:FnOk Tryz.prog 74 c74:=compF_ok (na:=c74.nargs) (vars:=c74.vars) (by kernel_rfl)
set_option maxRecDepth 100000 in
theorem ok75:FnOk Tryz.prog 75 c75:=compF_ok (na:=c75.nargs) (vars:=c75.vars) (by kernel_rfl)
set_option maxRecDepth 100000 in
theorem ok80:FnOk Tryz.prog 80 c80:=compF_ok (na:=c80.nargs) (vars:=c80.vars) (by kernel_rfl)
set_option maxRecDepth 100000 in
theorem ok83:FnOk Tryz.prog 83 c83:=compF_ok (na:=c83.nargs) (vars:=c83.vars) (by kernel_rfl)
set_option maxRecDepth 100000 in
theorem ok84:FnOk Tryz.prog 84 c84:=compF_ok (na:=c84.nargs) (vars:=c84.vars) (by kernel_rfl)
set_option maxRecDepth 100000 in
theorem ok85:FnOk Tryz.prog 85 c85:=compF_ok (na:=c85.nargs) (vars:=c85.vars) (by kernel_rfl)
set_option maxRecDepth 100000 in
theorem ok86:FnOk Tryz.prog 86 c86:=compF_ok (na:=c86.nargs) (vars:=c86.vars) (by kernel_rfl)
set_option maxRecDepth 100000 in
theorem ok87:FnOk Tryz.prog 87 c87:=compF_ok (na:=c87.nargs) (vars:=c87.vars) (by kernel_rfl)
set_option maxRecDepth 100000 in
theorem ok88:FnOk Tryz.prog 88 c88:=compF_ok (na:=c88.nargs) (vars:=c88.vars) (by kernel_rfl)
set_option maxRecDepth 100000 in
theorem ok89:FnOk Tryz.prog 89 c89:=compF_ok (na:=c89.nargs) (vars:=c89.vars) (by kernel_rfl)
set_option maxRecDepth 100000 in
theorem ok90:FnOk Tryz.prog 90 c90:=compF_ok (na:=c90.nargs) (vars:=c90.vars) (by kernel_rfl)
set_option maxRecDepth 100000 in
theorem ok94:FnOk Tryz.prog 94 c94:=compF_ok (na:=c94.nargs) (vars:=c94.vars) (by kernel_rfl)
set_option maxRecDepth 100000 in
theorem ok97:FnOk Tryz.prog 97 c97:=compF_ok (na:=c97.nargs) (vars:=c97.vars) (by kernel_rfl)
set_option maxRecDepth 100000 in
theorem ok98:FnOk Tryz.prog 98 c98:=compF_ok (na:=c98.nargs) (vars:=c98.vars) (by kernel_rfl)
set_option maxRecDepth 100000 in
theorem ok99:FnOk Tryz.prog 99 c99:=compF_ok (na:=c99.nargs) (vars:=c99.vars) (by kernel_rfl)
set_option maxRecDepth 100000 in
theorem ok100:FnOk Tryz.prog 100 c100:=compF_ok (na:=c100.nargs) (vars:=c100.vars) (by kernel_rfl)
set_option maxRecDepth 100000 in
theorem ok101:FnOk Tryz.prog 101 c101:=compF_ok (na:=c101.nargs) (vars:=c101.vars) (by kernel_rfl)
set_option maxRecDepth 100000 in
theorem ok102:FnOk Tryz.prog 102 c102:=compF_ok (na:=c102.nargs) (vars:=c102.vars) (by kernel_rfl)
set_option maxRecDepth 100000 in
theorem ok113:FnOk Tryz.prog 113 c113:=compF_ok (na:=c113.nargs) (vars:=c113.vars) (by kernel_rfl)
set_option maxRecDepth 100000 in
theorem ok114:FnOk Tryz.prog 114 c114:=compF_ok (na:=c114.nargs) (vars:=c114.vars) (by kernel_rfl)
set_option maxRecDepth 100000 in
theorem ok115:FnOk Tryz.prog 115 c115:=compF_ok (na:=c115.nargs) (vars:=c115.vars) (by kernel_rfl)
set_option maxRecDepth 100000 in
theorem ok130:FnOk Tryz.prog 130 c130:=compF_ok (na:=c130.nargs) (vars:=c130.vars) (by kernel_rfl)
set_option maxRecDepth 100000 in
theorem ok131:FnOk Tryz.prog 131 c131:=compF_ok (na:=c131.nargs) (vars:=c131.vars) (by kernel_rfl)
set_option maxRecDepth 100000 in
theorem ok132:FnOk Tryz.prog 132 c132:=compF_ok (na:=c132.nargs) (vars:=c132.vars) (by kernel_rfl)
end Go.Eng.Sy
