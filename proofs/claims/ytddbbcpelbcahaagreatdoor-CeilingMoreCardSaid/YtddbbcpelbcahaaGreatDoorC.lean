/-
  Part of a proof of the laws of layer 09 (ceiling): the code of the functions.
  Conditions: none.
-/
import Derived.Test.YtddbbcpelbcahaaGreatDoorEc
import Derived.Test.YtddbbcpelbcahaaGreatDoorProg
import Derived.KernelRfl
namespace Go.Eng.Sy
open Go Go.Eng Go.Proofs
noncomputable def c9_r0:List SOp:=[⟨0,.p .mov,[.c (.bool false)],none,false⟩]
noncomputable def c9_r1:List SOp:=[⟨0,.call 24,[.c (.string ⟨#[104,97,114,116,115,32,49,32,114,101,115,111,117,114,99,101,32,114,32,49,32,116,97,115,107,32,116,32,48,32,49,32,123,32,108,111,99,107,32,114,32,123,32,125,32,125,32,104,97,110,100,108,101,114,32,104,32,48,32,53,32,48,32,123,32,105,102,32,40,49,41,32,123,32,108,111,99,107,32,114,32,123,32,125,32,125,32,125,32,104,97,110,100,108,101,114,32,103,32,48,32,54,32,49,32,123,32,125]⟩)],none,false⟩,⟨1,.p .mov,[.t 0],none,false⟩,⟨2,.p (.extract 0),[.t 0],none,false⟩,⟨3,.p (.extract 1),[.t 1],none,false⟩,⟨4,.p (.extract 2),[.t 2],none,false⟩,⟨5,.a (.new [.int .i64 0,.slice none 0 0,.slice none 0 0,.slice none 0 0]),[],none,false⟩,⟨6,.w (.store 4),[.t 0,.t 3],none,false⟩,⟨7,.p .mov,[.t 3],none,false⟩,⟨8,.p .mov,[.t 3],none,false⟩]
noncomputable def c9_r2:List SOp:=[⟨0,.r (.load true 4),[.v 1],none,false⟩,⟨1,.call 12,[.t 0],none,false⟩,⟨2,.p .mov,[.t 0],none,false⟩]
noncomputable def c9_r3:List SOp:=[⟨0,.r (.load true 4),[.v 1],none,false⟩,⟨1,.call 22,[.t 0,.c (.int .i64 1)],none,false⟩,⟨2,.p .mov,[.t 0],none,false⟩]
noncomputable def c9_r4:List SOp:=[⟨0,.r (.load true 4),[.v 1],none,false⟩,⟨1,.call 18,[.t 0,.c (.int .i64 0),.c (.int .i64 0)],none,false⟩,⟨2,.p .mov,[.t 0],none,false⟩]
noncomputable def c9_r5:List SOp:=[⟨0,.p .mov,[.v 2],none,false⟩,⟨1,.p (.bin .eql),[.t 0,.c (.int .i64 0)],none,false⟩,⟨2,.p .mov,[.t 0],none,false⟩,⟨3,.p .mov,[.v 3],some (0,true),false⟩,⟨4,.p .lenS,[.t 0],some (1,true),false⟩,⟨5,.p (.bin .eql),[.t 0,.c (.int .i64 1)],some (2,true),false⟩,⟨6,.p .pick,[.t 3,.t 0,.c (.bool false)],none,false⟩,⟨7,.p .mov,[.t 0],none,false⟩,⟨8,.p .mov,[.v 3],some (0,true),false⟩,⟨9,.p (.idxAddrS 1),[.t 0,.c (.int .i64 0)],some (1,true),false⟩,⟨10,.r (.load false 1),[.t 0],some (2,true),false⟩,⟨11,.p .lenS,[.t 0],some (3,true),false⟩,⟨12,.p (.bin .eql),[.t 0,.c (.int .i64 1)],some (4,true),false⟩,⟨13,.p .pick,[.t 5,.t 0,.c (.bool false)],none,false⟩,⟨14,.p .mov,[.t 0],none,false⟩,⟨15,.p .mov,[.v 3],some (0,true),false⟩,⟨16,.p (.idxAddrS 1),[.t 0,.c (.int .i64 0)],some (1,true),false⟩,⟨17,.r (.load false 1),[.t 0],some (2,true),false⟩,⟨18,.p (.idxAddrS 1),[.t 0,.c (.int .i64 0)],some (3,true),false⟩,⟨19,.r (.load false 1),[.t 0],some (4,true),false⟩,⟨20,.p (.bin .eql),[.t 0,.c (.int .i64 5)],some (5,true),false⟩,⟨21,.p .pick,[.t 6,.t 0,.c (.bool false)],none,false⟩,⟨22,.p .mov,[.t 0],none,false⟩,⟨23,.p .mov,[.v 4],some (0,true),false⟩,⟨24,.p .lenS,[.t 0],some (1,true),false⟩,⟨25,.p (.bin .eql),[.t 0,.c (.int .i64 1)],some (2,true),false⟩,⟨26,.p .pick,[.t 3,.t 0,.c (.bool false)],none,false⟩,⟨27,.p .mov,[.t 0],none,false⟩,⟨28,.p .mov,[.v 4],some (0,true),false⟩,⟨29,.p (.idxAddrS 1),[.t 0,.c (.int .i64 0)],some (1,true),false⟩,⟨30,.r (.load false 1),[.t 0],some (2,true),false⟩,⟨31,.p (.bin .eql),[.t 0,.c (.int .i64 0)],some (3,true),false⟩,⟨32,.p .pick,[.t 4,.t 0,.c (.bool false)],none,false⟩,⟨33,.p .mov,[.t 0],none,false⟩,⟨34,.r (.load true 4),[.v 1],some (0,true),false⟩,⟨35,.a (.bslice [.int .i64 0] [(0,1)] 1 1),[.c (.int .i64 0)],some (1,true),false⟩,⟨36,.call 16,[.t 1,.c (.int .i64 0),.c (.int .i64 1),.t 0],some (2,true),false⟩,⟨37,.p (.bin .eql),[.t 0,.c (.int .i64 5)],some (3,true),false⟩,⟨38,.p .pick,[.t 4,.t 0,.c (.bool false)],none,false⟩,⟨39,.p .mov,[.t 0],none,false⟩,⟨40,.p .mov,[.v 5],some (0,true),false⟩,⟨41,.p .lenS,[.t 0],some (1,true),false⟩,⟨42,.p (.bin .eql),[.t 0,.c (.int .i64 2)],some (2,true),false⟩,⟨43,.p .pick,[.t 3,.t 0,.c (.bool false)],none,false⟩,⟨44,.p .mov,[.t 0],none,false⟩,⟨45,.p .mov,[.v 5],some (0,true),false⟩,⟨46,.p (.idxAddrS 1),[.t 0,.c (.int .i64 0)],some (1,true),false⟩,⟨47,.r (.load false 1),[.t 0],some (2,true),false⟩,⟨48,.p (.bin .eql),[.t 0,.c (.int .i64 2)],some (3,true),false⟩,⟨49,.p .pick,[.t 4,.t 0,.c (.bool false)],none,false⟩,⟨50,.p .mov,[.t 0],none,false⟩,⟨51,.r (.load true 4),[.v 1],some (0,true),false⟩,⟨52,.call 20,[.t 0,.c (.int .i64 0)],some (1,true),false⟩,⟨53,.p (.bin .eql),[.t 0,.c (.int .i64 3)],some (2,true),false⟩,⟨54,.p .pick,[.t 3,.t 0,.c (.bool false)],none,false⟩,⟨55,.p .mov,[.t 0],none,false⟩,⟨56,.r (.load true 4),[.v 1],some (0,true),false⟩,⟨57,.call 18,[.t 0,.c (.int .i64 0),.c (.int .i64 5)],some (1,true),false⟩,⟨58,.p .lenS,[.t 0],some (2,true),false⟩,⟨59,.p (.bin .eql),[.t 0,.c (.int .i64 1)],some (3,true),false⟩,⟨60,.p .pick,[.t 4,.t 0,.c (.bool false)],none,false⟩,⟨61,.p .mov,[.t 0],none,false⟩]
noncomputable def c9:CFn:={ nargs:=0,vars:=[0,1,2,4,5,6],results:=[.var 0],body:=(.seq (.reg c9_r0 [(0,0)]) (.seq (.reg c9_r1 [(1,3),(2,1)]) (.seq (.reg c9_r2 [(3,0)]) (.seq (.reg c9_r3 [(4,0)]) (.seq (.reg c9_r4 [(5,0)]) (.seq (.reg c9_r5 [(0,0)]) .ret)))))) }
noncomputable def c10_r0:List SOp:=[⟨0,.a (.new [.int .i64 0,.slice none 0 0,.slice none 0 0,.slice none 0 0]),[],none,false⟩]
noncomputable def c10_r1:List SOp:=[⟨0,.p .mov,[.v 0],none,false⟩,⟨1,.p .lenS,[.t 0],none,false⟩,⟨2,.p (.bin .gtr),[.t 0,.c (.int .i64 400)],none,false⟩]
noncomputable def c10_r2:List SOp:=[⟨0,.p .mov,[.v 0],none,false⟩,⟨1,.p (.sliceS 1 false true),[.t 0,.c (.int .i64 400)],none,false⟩,⟨2,.p .mov,[.t 0],none,false⟩]
noncomputable def c10_r3:List SOp:=[⟨0,.p .mov,[.v 0],none,false⟩,⟨1,.p (.build [.slice none 0 0] [(0,1)]),[.t 0],none,false⟩,⟨2,.a .box,[.t 0],none,false⟩,⟨3,.p .mov,[.t 0],none,false⟩]
noncomputable def c10_r4:List SOp:=[⟨0,.p .mov,[.v 2],none,false⟩,⟨1,.call 25,[.t 0,.c (.int .i64 10)],none,false⟩,⟨2,.p .mov,[.t 0],none,false⟩]
noncomputable def c10_r5:List SOp:=[⟨0,.p .mov,[.v 2],none,false⟩,⟨1,.call 25,[.t 0,.c (.int .i64 2)],none,false⟩,⟨2,.p (.bin .eql),[.t 0,.c (.int .i64 1)],none,false⟩,⟨3,.p .mov,[.t 0],none,false⟩]
noncomputable def c10_r6:List SOp:=[⟨0,.p (.build [.slice none 0 0,.slice none 0 0,.int .i64 0,.slice none 0 0,.bool false] [(4,1)]),[.c (.bool true)],none,false⟩,⟨1,.a (.new [.slice none 0 0,.slice none 0 0,.int .i64 0,.slice none 0 0,.bool false]),[],none,false⟩,⟨2,.w (.store 5),[.t 0,.t 1],none,false⟩]
noncomputable def c10_r7:List SOp:=[⟨0,.p .mov,[.v 0],none,false⟩,⟨1,.p .mov,[.v 4],none,false⟩,⟨2,.call 11,[.t 1,.t 0],none,false⟩,⟨3,.a (.new [.int .i64 0,.slice none 0 0,.slice none 0 0,.slice none 0 0]),[],none,false⟩,⟨4,.w (.store 4),[.t 0,.t 1],none,false⟩]
noncomputable def c10_r8:List SOp:=[⟨0,.p .mov,[.v 2],none,false⟩,⟨1,.p (.fieldAddr 3),[.v 6],none,false⟩,⟨2,.r (.load false 1),[.t 0],none,false⟩,⟨3,.p .lenS,[.t 0],none,false⟩,⟨4,.call 25,[.t 3,.t 0],none,false⟩,⟨5,.p .mov,[.t 0],none,false⟩]
noncomputable def c10_r9:List SOp:=[⟨0,.p (.fieldAddr 3),[.v 6],none,false⟩,⟨1,.r (.load false 1),[.t 0],none,false⟩,⟨2,.p .mov,[.v 7],none,false⟩,⟨3,.p (.idxAddrS 6),[.t 1,.t 0],none,false⟩,⟨4,.r (.load true 6),[.t 0],none,false⟩,⟨5,.a (.new [.string ⟨#[]⟩,.bool false,.int .i64 0,.int .i64 0,.int .i64 0,.slice none 0 0]),[],none,false⟩,⟨6,.w (.store 6),[.t 0,.t 1],none,false⟩]
noncomputable def c10_r10:List SOp:=[⟨0,.p .mov,[.v 2],none,false⟩,⟨1,.call 25,[.t 0,.c (.int .i64 11)],none,false⟩,⟨3,.p .mov,[.v 2],none,false⟩,⟨4,.call 26,[.t 0],none,false⟩,⟨5,.p .mov,[.v 2],none,false⟩,⟨6,.call 26,[.t 0],none,false⟩,⟨8,.p .mov,[.v 2],none,false⟩,⟨9,.call 25,[.t 0,.c (.int .i64 3)],none,false⟩,⟨13,.p .mov,[.v 2],none,false⟩,⟨14,.call 25,[.t 0,.c (.int .i64 7)],none,true⟩,⟨2,.p (.bin .sub),[.t 8,.c (.int .i64 1)],none,false⟩,⟨7,.a (.bslice [.string ⟨#[]⟩,.string ⟨#[]⟩,.string ⟨#[]⟩] [(0,1),(1,1),(2,1)] 3 1),[.c (.string ⟨#[]⟩),.c (.string ⟨#[]⟩),.t 5],none,false⟩,⟨10,.p (.idxAddrS 1),[.t 0,.t 4],none,false⟩,⟨11,.r (.load false 1),[.t 0],none,false⟩,⟨12,.a (.bslice [.int .i64 0,.int .i64 0,.int .i64 0,.int .i64 0,.int .i64 0,.int .i64 0,.int .i64 0] [(0,1),(1,1),(2,1),(3,1),(4,1),(5,1),(6,1)] 7 1),[.c (.int .i64 0),.c (.int .i64 0),.c (.int .i64 3),.c (.int .i64 4),.c (.int .i64 20),.c (.int .i64 21),.c (.int .i64 (-1))],none,false⟩,⟨15,.p (.idxAddrS 1),[.t 0,.t 5],none,false⟩,⟨16,.r (.load false 1),[.t 0],none,false⟩,⟨17,.p (.build [.int .i64 0,.string ⟨#[]⟩,.string ⟨#[]⟩,.int .i64 0,.slice none 0 0,.slice none 0 0,.slice none 0 0] [(0,1),(1,1),(2,1),(3,1)]),[.t 6,.t 13,.t 3,.t 0],none,false⟩,⟨18,.a (.new [.int .i64 0,.string ⟨#[]⟩,.string ⟨#[]⟩,.int .i64 0,.slice none 0 0,.slice none 0 0,.slice none 0 0]),[],none,false⟩,⟨19,.w (.store 7),[.t 0,.t 1],none,false⟩]
noncomputable def c10_r11:List SOp:=[⟨0,.p .mov,[.v 2],none,false⟩,⟨1,.call 25,[.t 0,.c (.int .i64 4)],none,false⟩,⟨2,.p .mov,[.t 0],none,false⟩]
noncomputable def c10_r12:List SOp:=[⟨0,.p .mov,[.v 10],none,false⟩,⟨1,.p (.bin .gtr),[.t 0,.c (.int .i64 0)],none,false⟩]
noncomputable def c10_r13:List SOp:=[⟨2,.r (.load true 5),[.v 5],none,false⟩,⟨3,.p .mov,[.v 2],none,false⟩,⟨4,.call 27,[.t 1,.t 0,.c (.int .i64 2)],none,true⟩,⟨0,.p (.fieldAddr 4),[.v 9],none,false⟩,⟨1,.r (.load false 1),[.t 0],none,false⟩,⟨5,.a (.bslice [.int .i64 0,.int .i64 0,.int .i64 0,.string ⟨#[]⟩,.slice none 0 0] [(0,5)] 1 5),[.t 2],none,false⟩,⟨6,.w (.append 5 64),[.t 1,.t 0],none,false⟩,⟨7,.p (.fieldAddr 4),[.v 9],none,false⟩,⟨8,.w (.store 1),[.t 0,.t 1],none,false⟩]
noncomputable def c10_r14:List SOp:=[⟨0,.p .mov,[.v 10],none,false⟩,⟨1,.p (.bin .sub),[.t 0,.c (.int .i64 1)],none,false⟩,⟨2,.p .mov,[.t 0],none,false⟩]
noncomputable def c10_l15:CCode:=(.seq (.rcond c10_r12 [] 0 .skip (.exit 0)) (.seq (.block 1 (.reg c10_r13 [])) (.reg c10_r14 [(10,0)])))
noncomputable def c10_r16:List SOp:=[⟨0,.p .mov,[.v 3],none,false⟩]
noncomputable def c10_r17:List SOp:=[⟨0,.p (.bin .eql),[.v 12,.c (.int .i64 0)],none,false⟩,⟨1,.p .mov,[.t 0],none,false⟩]
noncomputable def c10_r18:List SOp:=[⟨0,.p .mov,[.v 2],none,false⟩,⟨1,.call 25,[.t 0,.c (.int .i64 7)],none,false⟩,⟨2,.p (.bin .sub),[.t 0,.c (.int .i64 1)],none,false⟩,⟨3,.p (.fieldAddr 0),[.v 6],none,false⟩,⟨4,.w (.store 1),[.t 0,.t 1],none,false⟩]
noncomputable def c10_r19:List SOp:=[⟨0,.p (.bin .eql),[.v 12,.c (.int .i64 1)],none,false⟩,⟨1,.p .mov,[.t 0],none,false⟩]
noncomputable def c10_r20:List SOp:=[⟨0,.p .mov,[.v 2],none,false⟩,⟨1,.call 26,[.t 0],none,false⟩,⟨2,.p (.fieldAddr 0),[.v 8],none,false⟩,⟨3,.w (.store 1),[.t 0,.t 1],none,false⟩]
noncomputable def c10_r21:List SOp:=[⟨0,.p .mov,[.v 2],none,false⟩,⟨1,.call 25,[.t 0,.c (.int .i64 10)],none,false⟩,⟨2,.p (.bin .sub),[.t 0,.c (.int .i64 1)],none,false⟩,⟨3,.p (.fieldAddr 4),[.v 8],none,false⟩,⟨4,.w (.store 1),[.t 0,.t 1],none,false⟩]
noncomputable def c10_r22:List SOp:=[⟨0,.p (.bin .eql),[.v 12,.c (.int .i64 2)],none,false⟩,⟨1,.p .mov,[.t 0],none,false⟩]
noncomputable def c10_r23:List SOp:=[⟨0,.p .mov,[.v 2],none,false⟩,⟨1,.call 25,[.t 0,.c (.int .i64 6)],none,false⟩,⟨2,.p (.bin .sub),[.t 0,.c (.int .i64 1)],none,false⟩,⟨3,.p (.fieldAddr 2),[.v 8],none,false⟩,⟨4,.w (.store 1),[.t 0,.t 1],none,false⟩]
noncomputable def c10_r24:List SOp:=[⟨0,.p .mov,[.v 2],none,false⟩,⟨1,.call 25,[.t 0,.c (.int .i64 10)],none,false⟩,⟨2,.p (.bin .sub),[.t 0,.c (.int .i64 1)],none,false⟩,⟨3,.p (.fieldAddr 3),[.v 8],none,false⟩,⟨4,.w (.store 1),[.t 0,.t 1],none,false⟩]
noncomputable def c10_r25:List SOp:=[⟨0,.p (.bin .eql),[.v 12,.c (.int .i64 3)],none,false⟩,⟨1,.p .mov,[.t 0],none,false⟩]
noncomputable def c10_r26:List SOp:=[⟨2,.p .mov,[.v 2],none,false⟩,⟨3,.call 26,[.t 0],none,true⟩,⟨4,.p .mov,[.v 2],none,false⟩,⟨5,.call 25,[.t 0,.c (.int .i64 5)],none,true⟩,⟨0,.p (.fieldAddr 1),[.v 6],none,false⟩,⟨1,.r (.load false 1),[.t 0],none,false⟩,⟨6,.p (.build [.string ⟨#[]⟩,.int .i64 0] [(0,1),(1,1)]),[.t 4,.t 2],none,false⟩,⟨7,.a (.bslice [.string ⟨#[]⟩,.int .i64 0] [(0,2)] 1 2),[.t 0],none,false⟩,⟨8,.w (.append 2 24),[.t 2,.t 0],none,false⟩,⟨9,.p (.fieldAddr 1),[.v 6],none,false⟩,⟨10,.w (.store 1),[.t 0,.t 1],none,false⟩]
noncomputable def c10_r27:List SOp:=[⟨0,.p (.bin .eql),[.v 12,.c (.int .i64 4)],none,false⟩,⟨1,.p .mov,[.t 0],none,false⟩]
noncomputable def c10_r28:List SOp:=[⟨2,.p .mov,[.v 2],none,false⟩,⟨3,.call 26,[.t 0],none,true⟩,⟨4,.p .mov,[.v 2],none,false⟩,⟨5,.call 25,[.t 0,.c (.int .i64 10)],none,true⟩,⟨0,.p (.fieldAddr 2),[.v 6],none,false⟩,⟨1,.r (.load false 1),[.t 0],none,false⟩,⟨6,.p (.build [.string ⟨#[]⟩,.int .i64 0] [(0,1),(1,1)]),[.t 4,.t 2],none,false⟩,⟨7,.a (.bslice [.string ⟨#[]⟩,.int .i64 0] [(0,2)] 1 2),[.t 0],none,false⟩,⟨8,.w (.append 2 24),[.t 2,.t 0],none,false⟩,⟨9,.p (.fieldAddr 2),[.v 6],none,false⟩,⟨10,.w (.store 1),[.t 0,.t 1],none,false⟩]
noncomputable def c10_r29:List SOp:=[⟨0,.p (.bin .eql),[.v 12,.c (.int .i64 5)],none,false⟩,⟨1,.p .mov,[.t 0],none,false⟩]
noncomputable def c10_r30:List SOp:=[⟨0,.r (.load true 5),[.v 5],none,false⟩,⟨1,.p .mov,[.v 2],none,false⟩,⟨2,.call 27,[.t 1,.t 0,.c (.int .i64 2)],none,true⟩,⟨3,.a (.bslice [.int .i64 0,.int .i64 0,.int .i64 0,.string ⟨#[]⟩,.slice none 0 0] [(0,5)] 1 5),[.t 0],none,false⟩,⟨4,.r (.load true 7),[.v 9],none,false⟩,⟨5,.a (.bslice [.int .i64 0,.string ⟨#[]⟩,.string ⟨#[]⟩,.int .i64 0,.slice none 0 0,.slice none 0 0,.slice none 0 0] [(0,7)] 1 7),[.t 0],none,false⟩,⟨6,.p (.build [.int .i64 0,.string ⟨#[]⟩,.string ⟨#[]⟩,.int .i64 0,.slice none 0 0,.slice none 0 0,.slice none 0 0] [(0,1),(4,1),(6,1)]),[.c (.int .i64 6),.t 2,.t 0],none,false⟩,⟨7,.w (.store 7),[.v 9,.t 0],none,false⟩]
noncomputable def c10_r31:List SOp:=[⟨0,.p (.bin .eql),[.v 12,.c (.int .i64 6)],none,false⟩,⟨1,.p .mov,[.t 0],none,false⟩]
noncomputable def c10_r32:List SOp:=[⟨0,.p .mov,[.v 2],none,false⟩,⟨1,.call 25,[.t 0,.c (.int .i64 40)],none,false⟩,⟨2,.p .mov,[.t 0],none,false⟩]
noncomputable def c10_r33:List SOp:=[⟨0,.p .mov,[.v 11],none,false⟩,⟨1,.p (.bin .gtr),[.t 0,.c (.int .i64 0)],none,false⟩]
noncomputable def c10_r34:List SOp:=[⟨0,.r (.load true 7),[.v 9],none,false⟩,⟨1,.a (.bslice [.int .i64 0,.string ⟨#[]⟩,.string ⟨#[]⟩,.int .i64 0,.slice none 0 0,.slice none 0 0,.slice none 0 0] [(0,7)] 1 7),[.t 0],none,false⟩,⟨2,.p (.build [.int .i64 0,.string ⟨#[]⟩,.string ⟨#[]⟩,.int .i64 0,.slice none 0 0,.slice none 0 0,.slice none 0 0] [(0,1),(3,1),(5,1)]),[.c (.int .i64 7),.c (.int .i64 1),.t 0],none,false⟩,⟨3,.w (.store 7),[.v 9,.t 0],none,false⟩]
noncomputable def c10_r35:List SOp:=[⟨0,.p .mov,[.v 11],none,false⟩,⟨1,.p (.bin .sub),[.t 0,.c (.int .i64 1)],none,false⟩,⟨2,.p .mov,[.t 0],none,false⟩]
noncomputable def c10_l36:CCode:=(.seq (.rcond c10_r33 [] 0 .skip (.exit 3)) (.seq (.block 4 (.reg c10_r34 [])) (.reg c10_r35 [(11,0)])))
noncomputable def c10_r37:List SOp:=[⟨0,.p (.bin .eql),[.v 12,.c (.int .i64 7)],none,false⟩,⟨1,.p .mov,[.t 0],none,false⟩]
noncomputable def c10_r38:List SOp:=[⟨0,.r (.load true 7),[.v 9],none,false⟩,⟨1,.a (.bslice [.int .i64 0,.string ⟨#[]⟩,.string ⟨#[]⟩,.int .i64 0,.slice none 0 0,.slice none 0 0,.slice none 0 0] [(0,7)] 1 7),[.t 0],none,false⟩,⟨2,.p (.build [.int .i64 0,.string ⟨#[]⟩,.string ⟨#[]⟩,.int .i64 0,.slice none 0 0,.slice none 0 0,.slice none 0 0] [(0,1),(5,1)]),[.c (.int .i64 8),.t 0],none,false⟩,⟨3,.w (.store 7),[.v 9,.t 0],none,false⟩]
noncomputable def c10_r39:List SOp:=[⟨0,.p .mov,[.v 3],none,false⟩,⟨1,.p (.bin .gtr),[.t 0,.c (.int .i64 4)],none,false⟩,⟨2,.p .mov,[.t 0],none,false⟩,⟨3,.p .mov,[.v 3],some (0,true),false⟩,⟨4,.p (.bin .lss),[.t 0,.c (.int .i64 9)],some (1,true),false⟩,⟨5,.p .pick,[.t 2,.t 0,.c (.bool false)],none,false⟩]
noncomputable def c10_r40:List SOp:=[⟨0,.p (.fieldAddr 5),[.v 8],none,false⟩,⟨1,.r (.load false 1),[.t 0],none,false⟩,⟨2,.w (.append 7 120),[.c (.slice none 0 0),.t 0],none,true⟩,⟨3,.r (.load true 7),[.v 9],none,false⟩,⟨4,.a (.bslice [.int .i64 0,.string ⟨#[]⟩,.string ⟨#[]⟩,.int .i64 0,.slice none 0 0,.slice none 0 0,.slice none 0 0] [(0,7)] 1 7),[.t 0],none,false⟩,⟨5,.w (.append 7 120),[.t 2,.t 0],none,false⟩,⟨6,.p (.fieldAddr 5),[.v 8],none,false⟩,⟨7,.w (.store 1),[.t 0,.t 1],none,false⟩]
noncomputable def c10_r41:List SOp:=[⟨0,.p (.fieldAddr 3),[.v 6],none,false⟩,⟨1,.r (.load false 1),[.t 0],none,false⟩,⟨2,.p .mov,[.v 7],none,false⟩,⟨3,.r (.load true 6),[.v 8],none,false⟩,⟨4,.p (.idxAddrS 6),[.t 2,.t 1],none,false⟩,⟨5,.w (.store 6),[.t 0,.t 1],none,false⟩]
noncomputable def c10_r42:List SOp:=[⟨0,.r (.load true 4),[.v 6],none,false⟩,⟨1,.w (.store 4),[.v 1,.t 0],none,false⟩]
noncomputable def c10:CFn:={ nargs:=1,vars:=[0,2,3,4,5,6,7,8,9,10,11,12,72],results:=[.cell 1 true 4],body:=(.seq (.reg c10_r0 [(1,0)]) (.seq (.rcond c10_r1 [] 0 (.reg c10_r2 [(0,0)]) .skip) (.seq (.reg c10_r3 [(2,0)]) (.seq (.reg c10_r4 [(3,0)]) (.seq (.reg c10_r5 [(4,0)]) (.seq (.reg c10_r6 [(5,1)]) (.seq (.reg c10_r7 [(6,1)]) (.seq (.reg c10_r8 [(7,0)]) (.seq (.reg c10_r9 [(8,1)]) (.seq (.reg c10_r10 [(9,1)]) (.seq (.seq (.reg c10_r11 [(10,0)]) (.block 0 (.loop c10_l15))) (.seq (.seq (.reg c10_r16 [(12,0)]) (.block 2 (.rcond c10_r17 [] 0 (.reg c10_r18 []) (.rcond c10_r19 [] 0 (.seq (.reg c10_r20 []) (.reg c10_r21 [])) (.rcond c10_r22 [] 0 (.seq (.reg c10_r23 []) (.reg c10_r24 [])) (.rcond c10_r25 [] 0 (.reg c10_r26 []) (.rcond c10_r27 [] 0 (.reg c10_r28 []) (.rcond c10_r29 [] 0 (.reg c10_r30 []) (.rcond c10_r31 [] 0 (.seq (.reg c10_r32 [(11,0)]) (.block 3 (.loop c10_l36))) (.rcond c10_r37 [] 0 (.reg c10_r38 []) .skip)))))))))) (.seq (.rcond c10_r39 [] 0 (.reg c10_r40 []) .skip) (.seq (.reg c10_r41 []) (.seq (.reg c10_r42 []) .ret))))))))))))))) }
noncomputable def Vm:List SOp:=[⟨0,.a (.new [.int .i64 0,.slice none 0 0,.slice none 0 0,.slice none 0 0]),[],none,false⟩]
noncomputable def Vl:List SOp:=[⟨0,.p .mov,[.v 0],none,false⟩,⟨1,.p .lenS,[.t 0],none,false⟩,⟨2,.p (.bin .gtr),[.t 0,.c (.int .i64 400)],none,false⟩]
noncomputable def Vk:List SOp:=[⟨0,.p .mov,[.v 0],none,false⟩,⟨1,.p (.sliceS 1 false true),[.t 0,.c (.int .i64 400)],none,false⟩,⟨2,.p .mov,[.t 0],none,false⟩]
noncomputable def Vj:List SOp:=[⟨0,.p .mov,[.v 0],none,false⟩,⟨1,.p (.build [.slice none 0 0] [(0,1)]),[.t 0],none,false⟩,⟨2,.a .box,[.t 0],none,false⟩,⟨3,.p .mov,[.t 0],none,false⟩]
noncomputable def Vi:List SOp:=[⟨0,.p .mov,[.v 3],none,false⟩,⟨1,.call 25,[.t 0,.c (.int .i64 3)],none,false⟩,⟨2,.p (.bin .add),[.c (.int .i64 1),.t 0],none,false⟩,⟨3,.p (.build [.int .i64 0,.slice none 0 0,.slice none 0 0,.slice none 0 0] [(0,1)]),[.t 0],none,false⟩,⟨4,.a (.new [.int .i64 0,.slice none 0 0,.slice none 0 0,.slice none 0 0]),[],none,false⟩,⟨5,.w (.store 4),[.t 0,.t 1],none,false⟩]
noncomputable def Vh:List SOp:=[⟨0,.p .mov,[.v 1],none,false⟩,⟨1,.p (.build [.slice none 0 0,.slice none 0 0,.int .i64 0,.slice none 0 0,.bool false] [(4,1)]),[.t 0],none,false⟩,⟨2,.a (.new [.slice none 0 0,.slice none 0 0,.int .i64 0,.slice none 0 0,.bool false]),[],none,false⟩,⟨3,.w (.store 5),[.t 0,.t 1],none,false⟩]
noncomputable def Vg:List SOp:=[⟨0,.p .mov,[.v 3],none,false⟩,⟨1,.call 25,[.t 0,.c (.int .i64 3)],none,false⟩,⟨2,.p .mov,[.t 0],none,false⟩]
noncomputable def Vf:List SOp:=[⟨0,.p .mov,[.v 6],none,false⟩,⟨1,.p (.bin .geq),[.t 0,.c (.int .i64 0)],none,false⟩]
noncomputable def Ve:List SOp:=[⟨6,.p .mov,[.v 3],none,false⟩,⟨7,.call 25,[.t 0,.c (.int .i64 3)],none,true⟩,⟨0,.a (.bslice [.string ⟨#[]⟩,.string ⟨#[]⟩,.string ⟨#[]⟩] [(0,1),(1,1),(2,1)] 3 1),[.c (.string ⟨#[100]⟩),.c (.string ⟨#[101]⟩),.c (.string ⟨#[102]⟩)],none,false⟩,⟨1,.p (.fieldAddr 1),[.v 4],none,false⟩,⟨2,.r (.load false 1),[.t 0],none,false⟩,⟨3,.p .lenS,[.t 0],none,false⟩,⟨4,.p (.idxAddrS 1),[.t 3,.t 0],none,false⟩,⟨5,.r (.load false 1),[.t 0],none,false⟩,⟨8,.p (.bin .add),[.c (.int .i64 1),.t 6],none,false⟩,⟨9,.p (.build [.string ⟨#[]⟩,.int .i64 0] [(0,1),(1,1)]),[.t 1,.t 0],none,false⟩,⟨10,.a (.new [.string ⟨#[]⟩,.int .i64 0]),[],none,false⟩,⟨11,.w (.store 2),[.t 0,.t 1],none,false⟩]
noncomputable def Vd:List SOp:=[⟨0,.p (.fieldAddr 1),[.v 4],none,false⟩,⟨1,.r (.load false 1),[.t 0],none,false⟩,⟨2,.r (.load true 2),[.v 7],none,false⟩,⟨3,.a (.bslice [.string ⟨#[]⟩,.int .i64 0] [(0,2)] 1 2),[.t 0],none,false⟩,⟨4,.w (.append 2 24),[.t 2,.t 0],none,false⟩,⟨5,.p (.fieldAddr 1),[.v 4],none,false⟩,⟨6,.w (.store 1),[.t 0,.t 1],none,false⟩]
noncomputable def Qf:List SOp:=[⟨0,.p (.fieldAddr 0),[.v 5],none,false⟩,⟨1,.r (.load false 1),[.t 0],none,false⟩,⟨2,.p (.fieldAddr 0),[.v 7],none,false⟩,⟨3,.r (.load false 1),[.t 0],none,false⟩,⟨4,.a (.bslice [.string ⟨#[]⟩] [(0,1)] 1 1),[.t 0],none,false⟩,⟨5,.w (.append 1 16),[.t 3,.t 0],none,false⟩,⟨6,.p (.fieldAddr 0),[.v 5],none,false⟩,⟨7,.w (.store 1),[.t 0,.t 1],none,false⟩]
noncomputable def Qe:List SOp:=[⟨0,.p .mov,[.v 6],none,false⟩,⟨1,.p (.bin .sub),[.t 0,.c (.int .i64 1)],none,false⟩,⟨2,.p .mov,[.t 0],none,false⟩]
noncomputable def zr1:CCode:=(.seq (.rcond Vf [] 0 .skip (.exit 0)) (.seq (.block 1 (.seq (.reg Ve [(7,1)]) (.seq (.reg Vd []) (.reg Qf [])))) (.reg Qe [(6,0)])))
noncomputable def Qd:List SOp:=[⟨0,.p .mov,[.v 3],none,false⟩,⟨1,.call 25,[.t 0,.c (.int .i64 3)],none,false⟩,⟨2,.p .mov,[.t 0],none,false⟩]
noncomputable def Qc:List SOp:=[⟨0,.p .mov,[.v 8],none,false⟩,⟨1,.p (.bin .gtr),[.t 0,.c (.int .i64 0)],none,false⟩]
noncomputable def Qb:List SOp:=[⟨6,.p .mov,[.v 3],none,false⟩,⟨7,.call 25,[.t 0,.c (.int .i64 8)],none,true⟩,⟨0,.a (.bslice [.string ⟨#[]⟩,.string ⟨#[]⟩] [(0,1),(1,1)] 2 1),[.c (.string ⟨#[114,97]⟩),.c (.string ⟨#[114,98]⟩)],none,false⟩,⟨1,.p (.fieldAddr 2),[.v 4],none,false⟩,⟨2,.r (.load false 1),[.t 0],none,false⟩,⟨3,.p .lenS,[.t 0],none,false⟩,⟨4,.p (.idxAddrS 1),[.t 3,.t 0],none,false⟩,⟨5,.r (.load false 1),[.t 0],none,false⟩,⟨8,.p (.bin .add),[.c (.int .i64 1),.t 6],none,false⟩,⟨9,.p (.build [.string ⟨#[]⟩,.int .i64 0] [(0,1),(1,1)]),[.t 1,.t 0],none,false⟩,⟨10,.a (.new [.string ⟨#[]⟩,.int .i64 0]),[],none,false⟩,⟨11,.w (.store 2),[.t 0,.t 1],none,false⟩]
noncomputable def Qa:List SOp:=[⟨0,.p (.fieldAddr 2),[.v 4],none,false⟩,⟨1,.r (.load false 1),[.t 0],none,false⟩,⟨2,.r (.load true 2),[.v 9],none,false⟩,⟨3,.a (.bslice [.string ⟨#[]⟩,.int .i64 0] [(0,2)] 1 2),[.t 0],none,false⟩,⟨4,.w (.append 2 24),[.t 2,.t 0],none,false⟩,⟨5,.p (.fieldAddr 2),[.v 4],none,false⟩,⟨6,.w (.store 1),[.t 0,.t 1],none,false⟩]
noncomputable def Y9:List SOp:=[⟨0,.p (.fieldAddr 1),[.v 5],none,false⟩,⟨1,.r (.load false 1),[.t 0],none,false⟩,⟨2,.p (.fieldAddr 0),[.v 9],none,false⟩,⟨3,.r (.load false 1),[.t 0],none,false⟩,⟨4,.a (.bslice [.string ⟨#[]⟩] [(0,1)] 1 1),[.t 0],none,false⟩,⟨5,.w (.append 1 16),[.t 3,.t 0],none,false⟩,⟨6,.p (.fieldAddr 1),[.v 5],none,false⟩,⟨7,.w (.store 1),[.t 0,.t 1],none,false⟩]
noncomputable def Y8:List SOp:=[⟨0,.p .mov,[.v 8],none,false⟩,⟨1,.p (.bin .sub),[.t 0,.c (.int .i64 1)],none,false⟩,⟨2,.p .mov,[.t 0],none,false⟩]
noncomputable def zr0:CCode:=(.seq (.rcond Qc [] 0 .skip (.exit 2)) (.seq (.block 3 (.seq (.reg Qb [(9,1)]) (.seq (.reg Qa []) (.reg Y9 [])))) (.reg Y8 [(8,0)])))
noncomputable def Y7:List SOp:=[⟨0,.p .mov,[.c (.int .i64 0)],none,false⟩]
noncomputable def Y6:List SOp:=[⟨0,.p .mov,[.v 10],none,false⟩,⟨1,.p (.fieldAddr 0),[.v 4],none,false⟩,⟨2,.r (.load false 1),[.t 0],none,false⟩,⟨3,.p (.bin .lss),[.t 2,.t 0],none,false⟩]
noncomputable def Y5:List SOp:=[⟨7,.p .mov,[.v 3],none,false⟩,⟨8,.call 25,[.t 0,.c (.int .i64 3)],none,true⟩,⟨10,.r (.load true 5),[.v 5],none,false⟩,⟨11,.p .mov,[.v 3],none,false⟩,⟨12,.call 28,[.t 1,.t 0,.c (.int .i64 3)],none,true⟩,⟨0,.p (.fieldAddr 3),[.v 4],none,false⟩,⟨1,.r (.load false 1),[.t 0],none,false⟩,⟨2,.a (.bslice [.string ⟨#[]⟩,.string ⟨#[]⟩,.string ⟨#[]⟩] [(0,1),(1,1),(2,1)] 3 1),[.c (.string ⟨#[116,97]⟩),.c (.string ⟨#[116,98]⟩),.c (.string ⟨#[116,99]⟩)],none,false⟩,⟨3,.p .mov,[.v 10],none,false⟩,⟨4,.p (.idxAddrS 1),[.t 1,.t 0],none,false⟩,⟨5,.r (.load false 1),[.t 0],none,false⟩,⟨6,.p .mov,[.v 10],none,false⟩,⟨9,.p (.bin .add),[.c (.int .i64 1),.t 10],none,false⟩,⟨13,.p (.build [.string ⟨#[]⟩,.bool false,.int .i64 0,.int .i64 0,.int .i64 0,.slice none 0 0] [(0,1),(2,1),(3,1),(5,1)]),[.t 2,.t 1,.t 0,.t 8],none,false⟩,⟨14,.a (.bslice [.string ⟨#[]⟩,.bool false,.int .i64 0,.int .i64 0,.int .i64 0,.slice none 0 0] [(0,6)] 1 6),[.t 0],none,false⟩,⟨15,.w (.append 6 72),[.t 8,.t 0],none,false⟩,⟨16,.p (.fieldAddr 3),[.v 4],none,false⟩,⟨17,.w (.store 1),[.t 0,.t 1],none,false⟩]
noncomputable def Y4:List SOp:=[⟨0,.p .mov,[.v 10],none,false⟩,⟨1,.p (.bin .add),[.t 0,.c (.int .i64 1)],none,false⟩,⟨2,.p .mov,[.t 0],none,false⟩]
noncomputable def zq9:CCode:=(.seq (.rcond Y6 [] 0 .skip (.exit 4)) (.seq (.block 5 (.reg Y5 [])) (.reg Y4 [(10,0)])))
noncomputable def Y3:List SOp:=[⟨0,.p .mov,[.v 3],none,false⟩,⟨1,.call 25,[.t 0,.c (.int .i64 4)],none,false⟩,⟨2,.p .mov,[.t 0],none,false⟩]
noncomputable def Y2:List SOp:=[⟨0,.p .mov,[.v 11],none,false⟩,⟨1,.p (.bin .gtr),[.t 0,.c (.int .i64 0)],none,false⟩]
noncomputable def Y1:List SOp:=[⟨0,.p (.fieldAddr 3),[.v 4],none,false⟩,⟨1,.r (.load false 1),[.t 0],none,false⟩,⟨2,.p .lenS,[.t 0],none,false⟩,⟨3,.p (.fieldAddr 0),[.v 4],none,false⟩,⟨4,.r (.load false 1),[.t 0],none,false⟩,⟨5,.p (.bin .sub),[.t 2,.t 0],none,false⟩,⟨6,.p .mov,[.t 0],none,false⟩]
noncomputable def Y0:List SOp:=[⟨6,.p .mov,[.v 3],none,false⟩,⟨7,.p (.fieldAddr 0),[.v 4],none,false⟩,⟨8,.r (.load false 1),[.t 0],none,false⟩,⟨9,.call 25,[.t 2,.t 0],none,true⟩,⟨10,.p .mov,[.v 3],none,false⟩,⟨11,.call 25,[.t 0,.c (.int .i64 4)],none,true⟩,⟨14,.p .mov,[.v 3],none,false⟩,⟨15,.call 25,[.t 0,.c (.int .i64 2)],none,true⟩,⟨18,.r (.load true 5),[.v 5],none,false⟩,⟨19,.p .mov,[.v 3],none,false⟩,⟨20,.call 28,[.t 1,.t 0,.c (.int .i64 2)],none,true⟩,⟨0,.p (.fieldAddr 3),[.v 4],none,false⟩,⟨1,.r (.load false 1),[.t 0],none,false⟩,⟨2,.a (.bslice [.string ⟨#[]⟩,.string ⟨#[]⟩,.string ⟨#[]⟩] [(0,1),(1,1),(2,1)] 3 1),[.c (.string ⟨#[104,97]⟩),.c (.string ⟨#[104,98]⟩),.c (.string ⟨#[104,99]⟩)],none,false⟩,⟨3,.p .mov,[.v 12],none,false⟩,⟨4,.p (.idxAddrS 1),[.t 1,.t 0],none,false⟩,⟨5,.r (.load false 1),[.t 0],none,false⟩,⟨12,.p (.bin .add),[.c (.int .i64 4),.t 11],none,false⟩,⟨13,.p .mov,[.v 12],none,false⟩,⟨16,.p (.bin .mul),[.t 11,.c (.int .i64 4)],none,false⟩,⟨17,.p (.bin .add),[.t 1,.t 0],none,false⟩,⟨21,.p (.build [.string ⟨#[]⟩,.bool false,.int .i64 0,.int .i64 0,.int .i64 0,.slice none 0 0] [(0,1),(1,1),(2,1),(3,1),(4,1),(5,1)]),[.t 4,.c (.bool true),.t 17,.t 3,.t 0,.t 10],none,false⟩,⟨22,.a (.bslice [.string ⟨#[]⟩,.bool false,.int .i64 0,.int .i64 0,.int .i64 0,.slice none 0 0] [(0,6)] 1 6),[.t 0],none,false⟩,⟨23,.w (.append 6 72),[.t 10,.t 0],none,false⟩,⟨24,.p (.fieldAddr 3),[.v 4],none,false⟩,⟨25,.w (.store 1),[.t 0,.t 1],none,false⟩]
noncomputable def Yz:List SOp:=[⟨0,.p .mov,[.v 11],none,false⟩,⟨1,.p (.bin .sub),[.t 0,.c (.int .i64 1)],none,false⟩,⟨2,.p .mov,[.t 0],none,false⟩]
noncomputable def zq8:CCode:=(.seq (.rcond Y2 [] 0 .skip (.exit 6)) (.seq (.block 7 (.seq (.reg Y1 [(12,0)]) (.reg Y0 []))) (.reg Yz [(11,0)])))
noncomputable def Yy:List SOp:=[⟨0,.r (.load true 4),[.v 4],none,false⟩,⟨1,.w (.store 4),[.v 2,.t 0],none,false⟩]
noncomputable def c11:CFn:={ nargs:=2,vars:=[0,1,4,5,6,7,8,9,10,11,12,13,14],results:=[.cell 2 true 4],body:=(.seq (.reg Vm [(2,0)]) (.seq (.rcond Vl [] 0 (.reg Vk [(0,0)]) .skip) (.seq (.reg Vj [(3,0)]) (.seq (.reg Vi [(4,1)]) (.seq (.reg Vh [(5,1)]) (.seq (.seq (.reg Vg [(6,0)]) (.block 0 (.loop zr1))) (.seq (.seq (.reg Qd [(8,0)]) (.block 2 (.loop zr0))) (.seq (.seq (.reg Y7 [(10,0)]) (.block 4 (.loop zq9))) (.seq (.seq (.reg Y3 [(11,0)]) (.block 6 (.loop zq8))) (.seq (.reg Yy []) .ret)))))))))) }
noncomputable def Vc:List SOp:=[⟨0,.a .box,[.v 0],none,false⟩,⟨1,.p .mov,[.c (.slice none 0 0)],none,false⟩]
noncomputable def Vb:List SOp:=[⟨0,.r (.load true 4),[.v 1],none,false⟩,⟨1,.call 29,[.t 0],none,false⟩,⟨2,.p (.un .not),[.t 0],none,false⟩]
noncomputable def Va:List SOp:=[⟨0,.p .mov,[.c (.slice none 0 0)],none,false⟩]
noncomputable def W9:List SOp:=[⟨0,.p (.fieldAddr 0),[.v 1],none,false⟩,⟨1,.r (.load false 1),[.t 0],none,false⟩,⟨2,.a (.make [.slice none 0 0] 1 24),[.t 0,.t 0],none,false⟩,⟨3,.p .mov,[.t 0],none,false⟩]
noncomputable def W8:List SOp:=[⟨0,.p .mov,[.v 3],none,false⟩,⟨1,.p .lenS,[.t 0],none,false⟩,⟨2,.p .mov,[.c (.int .i64 0)],none,false⟩]
noncomputable def W7:List SOp:=[⟨0,.p (.bin .lss),[.v 9,.v 8],none,false⟩]
noncomputable def W6:List SOp:=[⟨0,.p .mov,[.v 9],none,false⟩,⟨1,.p .mov,[.t 0],none,false⟩]
noncomputable def W5:List SOp:=[⟨0,.p .mov,[.v 3],none,false⟩,⟨1,.p .mov,[.v 4],none,false⟩,⟨2,.p (.fieldAddr 2),[.v 1],none,false⟩,⟨3,.r (.load false 1),[.t 0],none,false⟩,⟨4,.p .lenS,[.t 0],none,false⟩,⟨5,.a (.make [.int .i64 0] 1 8),[.t 0,.t 0],none,false⟩,⟨6,.p (.idxAddrS 1),[.t 5,.t 4],none,false⟩,⟨7,.w (.store 1),[.t 0,.t 1],none,false⟩]
noncomputable def W4:List SOp:=[⟨0,.p (.bin .add),[.v 9,.c (.int .i64 1)],none,false⟩,⟨1,.p .mov,[.t 0],none,false⟩]
noncomputable def c12_l9:CCode:=(.seq (.reg W7 [(10,0)]) (.seq (.cond (.v 10) .skip (.exit 0)) (.seq (.block 1 (.seq (.reg W6 [(4,0)]) (.reg W5 []))) (.reg W4 [(9,0)]))))
noncomputable def Yx:List SOp:=[⟨0,.p (.fieldAddr 3),[.v 1],none,false⟩,⟨1,.r (.load false 1),[.t 0],none,false⟩,⟨2,.p .lenS,[.t 0],none,false⟩,⟨3,.p .mov,[.c (.int .i64 0)],none,false⟩]
noncomputable def Yw:List SOp:=[⟨0,.p (.bin .lss),[.v 13,.v 12],none,false⟩]
noncomputable def Yv:List SOp:=[⟨0,.p (.idxAddrS 6),[.v 11,.v 13],none,false⟩,⟨1,.r (.load true 6),[.t 0],none,false⟩,⟨2,.a (.new [.string ⟨#[]⟩,.bool false,.int .i64 0,.int .i64 0,.int .i64 0,.slice none 0 0]),[],none,false⟩,⟨3,.w (.store 6),[.t 0,.t 1],none,false⟩]
noncomputable def Yu:List SOp:=[⟨0,.r (.load true 4),[.v 1],none,false⟩,⟨1,.p (.fieldAddr 5),[.v 5],none,false⟩,⟨2,.r (.load false 1),[.t 0],none,false⟩,⟨3,.call 30,[.t 2,.t 0],none,false⟩,⟨4,.p .lenS,[.t 0],none,false⟩,⟨5,.p .mov,[.c (.int .i64 0)],none,false⟩]
noncomputable def Yt:List SOp:=[⟨0,.p (.bin .lss),[.v 17,.v 16],none,false⟩]
noncomputable def Ys:List SOp:=[⟨0,.p (.idxAddrS 1),[.v 15,.v 17],none,false⟩,⟨1,.r (.load false 1),[.t 0],none,false⟩,⟨2,.p .mov,[.t 0],none,false⟩]
noncomputable def Yr:List SOp:=[⟨0,.p .mov,[.v 6],none,false⟩,⟨1,.p .mov,[.t 0],none,false⟩]
noncomputable def Yq:List SOp:=[⟨0,.p .mov,[.v 7],none,false⟩,⟨1,.p (.fieldAddr 2),[.v 1],none,false⟩,⟨2,.r (.load false 1),[.t 0],none,false⟩,⟨3,.p .lenS,[.t 0],none,false⟩,⟨4,.p (.bin .lss),[.t 3,.t 0],none,false⟩]
noncomputable def Yp:List SOp:=[⟨0,.p .mov,[.v 3],none,false⟩,⟨1,.p (.fieldAddr 2),[.v 5],none,false⟩,⟨2,.r (.load false 1),[.t 0],none,false⟩,⟨3,.p (.idxAddrS 1),[.t 2,.t 0],none,false⟩,⟨4,.r (.load false 1),[.t 0],none,false⟩,⟨5,.p .mov,[.v 7],none,false⟩,⟨6,.p .mov,[.v 3],none,false⟩,⟨7,.p (.fieldAddr 2),[.v 5],none,false⟩,⟨8,.r (.load false 1),[.t 0],none,false⟩,⟨9,.p (.idxAddrS 1),[.t 2,.t 0],none,false⟩,⟨10,.r (.load false 1),[.t 0],none,false⟩,⟨11,.p .mov,[.v 7],none,false⟩,⟨12,.p (.idxAddrS 1),[.t 1,.t 0],none,false⟩,⟨13,.r (.load false 1),[.t 0],none,false⟩,⟨14,.p (.fieldAddr 3),[.v 5],none,false⟩,⟨15,.r (.load false 1),[.t 0],none,false⟩,⟨16,.p (.minI true),[.t 2,.t 0],none,false⟩,⟨17,.p (.idxAddrS 1),[.t 12,.t 11],none,false⟩,⟨18,.w (.store 1),[.t 0,.t 1],none,false⟩]
noncomputable def Yo:List SOp:=[⟨0,.p .mov,[.v 7],none,false⟩,⟨1,.p (.bin .add),[.t 0,.c (.int .i64 1)],none,false⟩,⟨2,.p .mov,[.t 0],none,false⟩]
noncomputable def qt3:CCode:=(.seq (.rcond Yq [] 0 .skip (.exit 6)) (.seq (.block 7 (.reg Yp [])) (.reg Yo [(7,0)])))
noncomputable def Yn:List SOp:=[⟨0,.p (.bin .add),[.v 17,.c (.int .i64 1)],none,false⟩,⟨1,.p .mov,[.t 0],none,false⟩]
noncomputable def qt2:CCode:=(.seq (.reg Yt [(18,0)]) (.seq (.cond (.v 18) .skip (.exit 4)) (.seq (.block 5 (.seq (.reg Ys [(6,0)]) (.seq (.reg Yr [(7,0)]) (.block 6 (.loop qt3))))) (.reg Yn [(17,0)]))))
noncomputable def Ym:List SOp:=[⟨0,.p (.bin .add),[.v 13,.c (.int .i64 1)],none,false⟩,⟨1,.p .mov,[.t 0],none,false⟩]
noncomputable def qt1:CCode:=(.seq (.reg Yw [(14,0)]) (.seq (.cond (.v 14) .skip (.exit 2)) (.seq (.block 3 (.seq (.reg Yv [(5,1)]) (.seq (.reg Yu [(15,2),(16,1),(17,0)]) (.block 4 (.loop qt2))))) (.reg Ym [(13,0)]))))
noncomputable def Yl:List SOp:=[⟨0,.p .mov,[.v 3],none,false⟩,⟨1,.p .mov,[.t 0],none,false⟩]
noncomputable def c12:CFn:={ nargs:=1,vars:=[0,1,2,3,4,6,8,9,17,18,19,30,31,32,33,39,40,41,42],results:=[.var 2],body:=(.seq (.reg Vc [(1,1),(2,0)]) (.seq (.rcond Vb [] 0 (.seq (.reg Va [(2,0)]) .ret) .skip) (.seq (.reg W9 [(3,0)]) (.seq (.seq (.reg W8 [(8,1),(9,0)]) (.block 0 (.loop c12_l9))) (.seq (.seq (.reg Yx [(11,2),(12,1),(13,0)]) (.block 2 (.loop qt1))) (.seq (.reg Yl [(2,0)]) .ret)))))) }
noncomputable def qq7:List SOp:=[⟨0,.p .mov,[.c (.bool false)],none,false⟩]
noncomputable def qq6:List SOp:=[⟨0,.p .mov,[.v 0],none,false⟩,⟨1,.p .lenS,[.t 0],none,false⟩,⟨2,.p .mov,[.v 1],none,false⟩,⟨3,.p .lenS,[.t 0],none,false⟩,⟨4,.p (.bin .neq),[.t 2,.t 0],none,false⟩]
noncomputable def qq5:List SOp:=[⟨0,.p .mov,[.c (.bool false)],none,false⟩]
noncomputable def qq4:List SOp:=[⟨0,.p .mov,[.c (.int .i64 0)],none,false⟩]
noncomputable def qq3:List SOp:=[⟨0,.p .mov,[.v 3],none,false⟩,⟨1,.p .mov,[.v 0],none,false⟩,⟨2,.p .lenS,[.t 0],none,false⟩,⟨3,.p (.bin .lss),[.t 2,.t 0],none,false⟩]
noncomputable def qq2:List SOp:=[⟨0,.p .mov,[.v 0],none,false⟩,⟨1,.p .mov,[.v 3],none,false⟩,⟨2,.p (.idxAddrS 1),[.t 1,.t 0],none,false⟩,⟨3,.r (.load false 1),[.t 0],none,false⟩,⟨4,.p .mov,[.v 1],none,false⟩,⟨5,.p .mov,[.v 3],none,false⟩,⟨6,.p (.idxAddrS 1),[.t 1,.t 0],none,false⟩,⟨7,.r (.load false 1),[.t 0],none,false⟩,⟨8,.p (.bin .neq),[.t 4,.t 0],none,false⟩]
noncomputable def qq1:List SOp:=[⟨0,.p .mov,[.c (.bool false)],none,false⟩]
noncomputable def qq0:List SOp:=[⟨0,.p .mov,[.v 3],none,false⟩,⟨1,.p (.bin .add),[.t 0,.c (.int .i64 1)],none,false⟩,⟨2,.p .mov,[.t 0],none,false⟩]
noncomputable def c14_l8:CCode:=(.seq (.rcond qq3 [] 0 .skip (.exit 0)) (.seq (.block 1 (.rcond qq2 [] 0 (.seq (.reg qq1 [(2,0)]) .ret) .skip)) (.reg qq0 [(3,0)])))
noncomputable def qp9:List SOp:=[⟨0,.p .mov,[.c (.bool true)],none,false⟩]
noncomputable def c14:CFn:={ nargs:=2,vars:=[0,1,4,5],results:=[.var 2],body:=(.seq (.reg qq7 [(2,0)]) (.seq (.rcond qq6 [] 0 (.seq (.reg qq5 [(2,0)]) .ret) .skip) (.seq (.seq (.reg qq4 [(3,0)]) (.block 0 (.loop c14_l8))) (.seq (.reg qp9 [(2,0)]) .ret)))) }
noncomputable def c15_r0:List SOp:=[⟨0,.p .mov,[.c (.int .i64 0)],none,false⟩]
noncomputable def c15_r1:List SOp:=[⟨0,.p .mov,[.v 0],none,false⟩,⟨1,.p (.bin .lss),[.t 0,.c (.int .i64 0)],none,false⟩]
noncomputable def c15_r2:List SOp:=[⟨0,.p .mov,[.v 0],none,false⟩,⟨1,.p (.bin .add),[.t 0,.c (.int .i64 1)],none,false⟩,⟨2,.p (.un .neg),[.t 0],none,false⟩,⟨3,.p .mov,[.t 0],none,false⟩]
noncomputable def c15_r3:List SOp:=[⟨0,.p .mov,[.v 0],none,false⟩,⟨1,.p .mov,[.v 1],none,false⟩,⟨2,.p (.bin .rem),[.t 1,.t 0],none,false⟩,⟨3,.p .mov,[.t 0],none,false⟩]
noncomputable def c15:CFn:={ nargs:=2,vars:=[0,1,4],results:=[.var 2],body:=(.seq (.reg c15_r0 [(2,0)]) (.seq (.rcond c15_r1 [] 0 (.reg c15_r2 [(0,0)]) .skip) (.seq (.reg c15_r3 [(2,0)]) .ret))) }
noncomputable def qp6:List SOp:=[⟨0,.a .box,[.v 0],none,false⟩,⟨1,.p .mov,[.c (.int .i64 0)],none,false⟩]
noncomputable def qp5:List SOp:=[⟨0,.r (.load true 4),[.v 4],none,false⟩,⟨1,.call 12,[.t 0],none,false⟩,⟨2,.p .mov,[.t 0],none,false⟩]
noncomputable def qp4:List SOp:=[⟨0,.p .mov,[.v 1],none,false⟩,⟨1,.p (.bin .lss),[.t 0,.c (.int .i64 0)],none,false⟩,⟨2,.p .mov,[.t 0],none,false⟩,⟨3,.p .mov,[.v 1],some (0,false),false⟩,⟨4,.p .mov,[.v 6],some (1,false),false⟩,⟨5,.p .lenS,[.t 0],some (2,false),false⟩,⟨6,.p (.bin .geq),[.t 2,.t 0],some (3,false),false⟩,⟨7,.p .pick,[.t 4,.c (.bool true),.t 0],none,false⟩]
noncomputable def qp3:List SOp:=[⟨0,.p .mov,[.c (.int .i64 0)],none,false⟩]
noncomputable def qp2:List SOp:=[⟨0,.p .mov,[.v 3],none,false⟩,⟨1,.p .lenS,[.t 0],none,false⟩,⟨2,.p .mov,[.c (.int .i64 0)],none,false⟩]
noncomputable def qp1:List SOp:=[⟨0,.p (.bin .lss),[.v 10,.v 9],none,false⟩]
noncomputable def qp0:List SOp:=[⟨0,.p (.idxAddrS 1),[.v 8,.v 10],none,false⟩,⟨1,.r (.load false 1),[.t 0],none,false⟩,⟨2,.p .mov,[.t 0],none,false⟩]
noncomputable def qo9:List SOp:=[⟨0,.p .mov,[.v 7],none,false⟩,⟨1,.p (.bin .geq),[.t 0,.c (.int .i64 0)],none,false⟩,⟨2,.p .mov,[.t 0],none,false⟩,⟨3,.p .mov,[.v 7],some (0,true),false⟩,⟨4,.p .mov,[.v 6],some (1,true),false⟩,⟨5,.p .mov,[.v 1],some (2,true),false⟩,⟨6,.p (.idxAddrS 1),[.t 1,.t 0],some (3,true),false⟩,⟨7,.r (.load false 1),[.t 0],some (4,true),false⟩,⟨8,.p .lenS,[.t 0],some (5,true),false⟩,⟨9,.p (.bin .lss),[.t 5,.t 0],some (6,true),false⟩,⟨10,.p .pick,[.t 7,.t 0,.c (.bool false)],none,false⟩]
noncomputable def qo8:List SOp:=[⟨0,.p .mov,[.v 2],none,false⟩,⟨1,.p .mov,[.v 6],none,false⟩,⟨2,.p .mov,[.v 1],none,false⟩,⟨3,.p (.idxAddrS 1),[.t 1,.t 0],none,false⟩,⟨4,.r (.load false 1),[.t 0],none,false⟩,⟨5,.p .mov,[.v 7],none,false⟩,⟨6,.p (.idxAddrS 1),[.t 1,.t 0],none,false⟩,⟨7,.r (.load false 1),[.t 0],none,false⟩,⟨8,.p (.minI true),[.t 7,.t 0],none,false⟩,⟨9,.p .mov,[.t 0],none,false⟩]
noncomputable def qo7:List SOp:=[⟨0,.p (.bin .add),[.v 10,.c (.int .i64 1)],none,false⟩,⟨1,.p .mov,[.t 0],none,false⟩]
noncomputable def qp7:CCode:=(.seq (.reg qp1 [(11,0)]) (.seq (.cond (.v 11) .skip (.exit 0)) (.seq (.block 1 (.seq (.reg qp0 [(7,0)]) (.rcond qo9 [] 0 (.reg qo8 [(2,0)]) .skip))) (.reg qo7 [(10,0)]))))
noncomputable def zo9:List SOp:=[⟨0,.p .mov,[.v 2],none,false⟩,⟨1,.p .mov,[.t 0],none,false⟩]
noncomputable def c16:CFn:={ nargs:=4,vars:=[0,1,2,3,4,8,9,11,22,23,24,25],results:=[.var 5],body:=(.seq (.reg qp6 [(4,1),(5,0)]) (.seq (.reg qp5 [(6,0)]) (.seq (.rcond qp4 [] 0 (.seq (.reg qp3 [(5,0)]) .ret) .skip) (.seq (.seq (.reg qp2 [(8,2),(9,1),(10,0)]) (.block 0 (.loop qp7))) (.seq (.reg zo9 [(5,0)]) .ret))))) }
noncomputable def c18_r0:List SOp:=[⟨0,.a .box,[.v 0],none,false⟩,⟨1,.a .box,[.v 2],none,false⟩,⟨2,.p .mov,[.c (.slice none 0 0)],none,false⟩]
noncomputable def c18_r1:List SOp:=[⟨0,.r (.load true 4),[.v 3],none,false⟩,⟨1,.call 29,[.t 0],none,false⟩,⟨2,.p (.un .not),[.t 0],none,false⟩]
noncomputable def c18_r2:List SOp:=[⟨0,.p .mov,[.c (.slice none 0 0)],none,false⟩]
noncomputable def c18_r3:List SOp:=[⟨0,.r (.load true 4),[.v 3],none,false⟩,⟨1,.p .mov,[.v 1],none,false⟩,⟨2,.call 34,[.t 1,.t 0],none,false⟩,⟨3,.p (.mkFunc 35 0),[.v 3,.v 4],none,false⟩,⟨4,.call 33,[.t 1,.t 0],none,false⟩,⟨5,.p .mov,[.t 0],none,false⟩]
noncomputable def c18_r4:List SOp:=[⟨0,.p .mov,[.v 6],none,false⟩,⟨1,.p (.mkFunc 37 0),[.v 3],none,false⟩,⟨2,.call 36,[.t 1,.t 0],none,false⟩]
noncomputable def c18_r5:List SOp:=[⟨0,.p .mov,[.v 6],none,false⟩,⟨1,.p .mov,[.t 0],none,false⟩]
noncomputable def c18:CFn:={ nargs:=3,vars:=[0,1,2,3,5,6,7],results:=[.var 5],body:=(.seq (.reg c18_r0 [(3,2),(4,1),(5,0)]) (.seq (.rcond c18_r1 [] 0 (.seq (.reg c18_r2 [(5,0)]) .ret) .skip) (.seq (.reg c18_r3 [(6,0)]) (.seq (.reg c18_r4 []) (.seq (.reg c18_r5 [(5,0)]) .ret))))) }
noncomputable def ql0:List SOp:=[⟨0,.a .box,[.v 0],none,false⟩,⟨1,.p .mov,[.c (.int .i64 0)],none,false⟩]
noncomputable def qk9:List SOp:=[⟨0,.r (.load true 4),[.v 2],none,false⟩,⟨1,.call 29,[.t 0],none,false⟩,⟨2,.p (.un .not),[.t 0],none,false⟩]
noncomputable def qk8:List SOp:=[⟨0,.p .mov,[.c (.int .i64 0)],none,false⟩]
noncomputable def qk7:List SOp:=[⟨0,.w .mkMap,[],none,false⟩,⟨1,.p .mov,[.t 0],none,false⟩]
noncomputable def qk6:List SOp:=[⟨0,.p (.fieldAddr 3),[.v 2],none,false⟩,⟨1,.r (.load false 1),[.t 0],none,false⟩,⟨2,.p .lenS,[.t 0],none,false⟩,⟨3,.p .mov,[.c (.int .i64 0)],none,false⟩]
noncomputable def qk5:List SOp:=[⟨0,.p (.bin .lss),[.v 8,.v 7],none,false⟩]
noncomputable def qk4:List SOp:=[⟨0,.p (.idxAddrS 6),[.v 6,.v 8],none,false⟩,⟨1,.r (.load true 6),[.t 0],none,false⟩,⟨2,.a (.new [.string ⟨#[]⟩,.bool false,.int .i64 0,.int .i64 0,.int .i64 0,.slice none 0 0]),[],none,false⟩,⟨3,.w (.store 6),[.t 0,.t 1],none,false⟩]
noncomputable def qk3:List SOp:=[⟨0,.p (.fieldAddr 2),[.v 5],none,false⟩,⟨1,.r (.load false 1),[.t 0],none,false⟩,⟨2,.p .mov,[.v 1],none,false⟩,⟨3,.p (.bin .neq),[.t 1,.t 0],none,false⟩,⟨4,.p .mov,[.t 0],none,false⟩]
noncomputable def qk2:List SOp:=[⟨0,.p (.fieldAddr 1),[.v 5],none,false⟩,⟨1,.r (.load false 1),[.t 0],none,false⟩,⟨2,.p .mov,[.t 0],none,false⟩]
noncomputable def qk1:List SOp:=[⟨0,.p .mov,[.v 4],none,false⟩,⟨1,.p (.fieldAddr 3),[.v 5],none,false⟩,⟨2,.r (.load false 1),[.t 0],none,false⟩,⟨3,.p (.build [] []),[],none,false⟩,⟨4,.w (.mapSet (z7 Tryz.prog 3)),[.t 3,.t 1,.t 0],none,false⟩]
noncomputable def zn2:List SOp:=[⟨0,.p .mov,[.v 3],none,false⟩,⟨1,.p (.bin .add),[.t 0,.c (.int .i64 1)],none,false⟩,⟨2,.p .mov,[.t 0],none,false⟩]
noncomputable def zn1:List SOp:=[⟨0,.p (.bin .add),[.v 8,.c (.int .i64 1)],none,false⟩,⟨1,.p .mov,[.t 0],none,false⟩]
noncomputable def ql1:CCode:=(.seq (.reg qk5 [(9,0)]) (.seq (.cond (.v 9) .skip (.exit 0)) (.seq (.block 1 (.seq (.reg qk4 [(5,1)]) (.block 2 (.rcond qk3 [] 0 .skip (.rcond qk2 [] 0 (.reg qk1 []) (.reg zn2 [(3,0)])))))) (.reg zn1 [(8,0)]))))
noncomputable def zn0:List SOp:=[⟨0,.p .mov,[.v 3],none,false⟩,⟨1,.p .mov,[.v 4],none,false⟩,⟨2,.r .lenMap,[.t 0],none,false⟩,⟨3,.p (.bin .add),[.t 2,.t 0],none,false⟩,⟨4,.p .mov,[.t 0],none,false⟩]
noncomputable def c20:CFn:={ nargs:=2,vars:=[0,1,2,4,5,7,13,14,15,16],results:=[.var 3],body:=(.seq (.reg ql0 [(2,1),(3,0)]) (.seq (.rcond qk9 [] 0 (.seq (.reg qk8 [(3,0)]) .ret) .skip) (.seq (.reg qk7 [(4,0)]) (.seq (.seq (.reg qk6 [(6,2),(7,1),(8,0)]) (.block 0 (.loop ql1))) (.seq (.reg zn0 [(3,0)]) .ret))))) }
noncomputable def c22_r0:List SOp:=[⟨0,.a .box,[.v 0],none,false⟩,⟨1,.p .mov,[.c (.slice none 0 0)],none,false⟩]
noncomputable def c22_r1:List SOp:=[⟨0,.r (.load true 4),[.v 2],none,false⟩,⟨1,.call 29,[.t 0],none,false⟩,⟨2,.p (.un .not),[.t 0],none,false⟩,⟨3,.p .mov,[.t 0],none,false⟩,⟨4,.p .mov,[.v 1],some (0,false),false⟩,⟨5,.p (.bin .lss),[.t 0,.c (.int .i64 0)],some (1,false),false⟩,⟨6,.p .pick,[.t 2,.c (.bool true),.t 0],none,false⟩,⟨7,.p .mov,[.t 0],none,false⟩,⟨8,.p .mov,[.v 1],some (0,false),false⟩,⟨9,.p (.fieldAddr 3),[.v 2],some (1,false),false⟩,⟨10,.r (.load false 1),[.t 0],some (2,false),false⟩,⟨11,.p .lenS,[.t 0],some (3,false),false⟩,⟨12,.p (.bin .geq),[.t 3,.t 0],some (4,false),false⟩,⟨13,.p .pick,[.t 5,.c (.bool true),.t 0],none,false⟩]
noncomputable def c22_r2:List SOp:=[⟨0,.p .mov,[.c (.slice none 0 0)],none,false⟩]
noncomputable def c22_r3:List SOp:=[⟨0,.r (.load true 4),[.v 2],none,false⟩,⟨1,.p (.fieldAddr 3),[.v 2],none,false⟩,⟨2,.r (.load false 1),[.t 0],none,false⟩,⟨3,.p .mov,[.v 1],none,false⟩,⟨4,.p (.idxAddrS 6),[.t 1,.t 0],none,false⟩,⟨5,.p (.fieldAddr 5),[.t 0],none,false⟩,⟨6,.r (.load false 1),[.t 0],none,false⟩,⟨7,.call 30,[.t 6,.t 0],none,false⟩,⟨8,.p .mov,[.t 0],none,false⟩]
noncomputable def c22_r4:List SOp:=[⟨0,.p .mov,[.v 4],none,false⟩,⟨1,.call 38,[.t 0],none,false⟩]
noncomputable def c22_r5:List SOp:=[⟨0,.p .mov,[.v 4],none,false⟩,⟨1,.call 39,[.t 0],none,false⟩,⟨2,.p .mov,[.t 0],none,false⟩]
noncomputable def c22:CFn:={ nargs:=2,vars:=[0,1,2,4,5],results:=[.var 3],body:=(.seq (.reg c22_r0 [(2,1),(3,0)]) (.seq (.rcond c22_r1 [] 0 (.seq (.reg c22_r2 [(3,0)]) .ret) .skip) (.seq (.reg c22_r3 [(4,0)]) (.seq (.reg c22_r4 []) (.seq (.reg c22_r5 [(3,0)]) .ret))))) }
noncomputable def c25_r0:List SOp:=[⟨0,.p .mov,[.c (.int .i64 0)],none,false⟩]
noncomputable def c25_r1:List SOp:=[⟨0,.p .mov,[.v 0],none,false⟩,⟨1,.p .nilCheck,[.t 0],none,false⟩,⟨2,.p (.fieldAddr 0),[.t 0],none,false⟩,⟨3,.r (.load false 1),[.t 0],none,false⟩,⟨4,.p .lenS,[.t 0],none,false⟩,⟨5,.p (.bin .eql),[.t 0,.c (.int .i64 0)],none,false⟩]
noncomputable def c25_r2:List SOp:=[⟨0,.p .mov,[.c (.int .i64 0)],none,false⟩]
noncomputable def c25_r3:List SOp:=[⟨0,.p .mov,[.v 0],none,false⟩,⟨1,.p .nilCheck,[.t 0],none,false⟩,⟨2,.p (.fieldAddr 0),[.t 0],none,false⟩,⟨3,.r (.load false 1),[.t 0],none,false⟩,⟨4,.p (.idxAddrS 1),[.t 0,.c (.int .i64 0)],none,false⟩,⟨5,.r (.load false 1),[.t 0],none,false⟩,⟨6,.p .mov,[.v 1],none,false⟩,⟨7,.call 45,[.t 1,.t 0],none,false⟩,⟨8,.p .mov,[.t 0],none,false⟩]
noncomputable def c25_r4:List SOp:=[⟨0,.p .mov,[.v 0],none,false⟩,⟨1,.p .mov,[.v 0],none,false⟩,⟨2,.p .nilCheck,[.t 0],none,false⟩,⟨3,.p (.fieldAddr 0),[.t 0],none,false⟩,⟨4,.r (.load false 1),[.t 0],none,false⟩,⟨5,.p (.sliceS 1 true false),[.t 0,.c (.int .i64 1)],none,false⟩,⟨6,.p .nilCheck,[.t 5],none,false⟩,⟨7,.p (.fieldAddr 0),[.t 0],none,false⟩,⟨8,.w (.store 1),[.t 0,.t 2],none,false⟩]
noncomputable def c25_r5:List SOp:=[⟨0,.p .mov,[.v 3],none,false⟩,⟨1,.p .mov,[.t 0],none,false⟩]
noncomputable def c25:CFn:={ nargs:=2,vars:=[0,1,4,5],results:=[.var 2],body:=(.seq (.reg c25_r0 [(2,0)]) (.seq (.rcond c25_r1 [] 0 (.seq (.reg c25_r2 [(2,0)]) .ret) .skip) (.seq (.reg c25_r3 [(3,0)]) (.seq (.reg c25_r4 []) (.seq (.reg c25_r5 [(2,0)]) .ret))))) }
noncomputable def c27_r0:List SOp:=[⟨0,.a .box,[.v 0],none,false⟩,⟨1,.a (.new [.int .i64 0,.int .i64 0,.int .i64 0,.string ⟨#[]⟩,.slice none 0 0]),[],none,false⟩]
noncomputable def c27_r1:List SOp:=[⟨0,.p .mov,[.v 1],none,false⟩,⟨1,.call 25,[.t 0,.c (.int .i64 8)],none,false⟩,⟨2,.p .mov,[.t 0],none,false⟩]
noncomputable def c27_r2:List SOp:=[⟨0,.p .mov,[.v 2],none,false⟩,⟨1,.p (.bin .lss),[.t 0,.c (.int .i64 1)],none,false⟩,⟨2,.p .mov,[.t 0],none,false⟩,⟨3,.p .mov,[.v 5],some (0,false),false⟩,⟨4,.p (.bin .lss),[.t 0,.c (.int .i64 2)],some (1,false),false⟩,⟨5,.p .pick,[.t 2,.c (.bool true),.t 0],none,false⟩]
noncomputable def c27_r3:List SOp:=[⟨0,.p .mov,[.v 1],none,false⟩,⟨1,.call 25,[.t 0,.c (.int .i64 10)],none,false⟩,⟨2,.p .mov,[.v 1],none,false⟩,⟨3,.call 25,[.t 0,.c (.int .i64 300)],none,false⟩,⟨4,.p .mov,[.v 1],none,false⟩,⟨5,.call 25,[.t 0,.c (.int .i64 4294967296)],none,false⟩,⟨6,.a (.bslice [.int .i64 0,.int .i64 0,.int .i64 0] [(0,1),(1,1),(2,1)] 3 1),[.t 4,.t 2,.t 0],none,false⟩,⟨7,.p .mov,[.v 1],none,false⟩,⟨8,.call 25,[.t 0,.c (.int .i64 3)],none,false⟩,⟨9,.p (.idxAddrS 1),[.t 2,.t 0],none,false⟩,⟨10,.r (.load false 1),[.t 0],none,false⟩,⟨11,.p (.build [.int .i64 0,.int .i64 0,.int .i64 0,.string ⟨#[]⟩,.slice none 0 0] [(0,1),(2,1)]),[.c (.int .i64 1),.t 0],none,false⟩,⟨12,.w (.store 5),[.v 4,.t 0],none,false⟩]
noncomputable def c27_r4:List SOp:=[⟨0,.p .mov,[.v 5],none,false⟩,⟨1,.p (.bin .lss),[.t 0,.c (.int .i64 4)],none,false⟩,⟨2,.p .mov,[.t 0],none,false⟩]
noncomputable def c27_r5:List SOp:=[⟨0,.r (.load true 5),[.v 3],none,false⟩,⟨1,.p .mov,[.v 1],none,false⟩,⟨2,.a (.bslice [.string ⟨#[]⟩,.string ⟨#[]⟩,.string ⟨#[]⟩] [(0,1),(1,1),(2,1)] 3 1),[.c (.string ⟨#[120]⟩),.c (.string ⟨#[121]⟩),.c (.string ⟨#[122]⟩)],none,false⟩,⟨3,.call 46,[.t 2,.t 1,.t 0],none,false⟩,⟨4,.p (.build [.int .i64 0,.int .i64 0,.int .i64 0,.string ⟨#[]⟩,.slice none 0 0] [(0,1),(3,1)]),[.c (.int .i64 2),.t 0],none,false⟩,⟨5,.w (.store 5),[.v 4,.t 0],none,false⟩]
noncomputable def c27_r6:List SOp:=[⟨0,.p .mov,[.v 5],none,false⟩,⟨1,.p (.bin .eql),[.t 0,.c (.int .i64 4)],none,false⟩,⟨2,.p .mov,[.t 0],none,false⟩]
noncomputable def c27_r7:List SOp:=[⟨0,.p .mov,[.v 1],none,false⟩,⟨1,.call 25,[.t 0,.c (.int .i64 3)],none,true⟩,⟨3,.r (.load true 5),[.v 3],none,false⟩,⟨4,.p .mov,[.v 1],none,false⟩,⟨5,.p .mov,[.v 2],none,false⟩,⟨6,.p (.bin .sub),[.t 0,.c (.int .i64 1)],none,false⟩,⟨7,.call 27,[.t 3,.t 2,.t 0],none,false⟩,⟨2,.p (.bin .add),[.c (.int .i64 15),.t 5],none,false⟩,⟨8,.a (.bslice [.int .i64 0,.int .i64 0,.int .i64 0,.string ⟨#[]⟩,.slice none 0 0] [(0,5)] 1 5),[.t 1],none,false⟩,⟨9,.p (.build [.int .i64 0,.int .i64 0,.int .i64 0,.string ⟨#[]⟩,.slice none 0 0] [(0,1),(1,1),(4,1)]),[.c (.int .i64 3),.t 1,.t 0],none,false⟩,⟨10,.w (.store 5),[.v 4,.t 0],none,false⟩]
noncomputable def c27_r8:List SOp:=[⟨0,.p .mov,[.v 5],none,false⟩,⟨1,.p (.bin .eql),[.t 0,.c (.int .i64 5)],none,false⟩,⟨2,.p .mov,[.t 0],none,false⟩,⟨3,.p (.fieldAddr 4),[.v 3],some (0,true),false⟩,⟨4,.r (.load false 1),[.t 0],some (1,true),false⟩,⟨5,.p .mov,[.t 0],some (2,true),false⟩,⟨6,.p (.fieldAddr 3),[.v 3],some (0,false),false⟩,⟨7,.r (.load false 1),[.t 0],some (1,false),false⟩,⟨8,.p .lenS,[.t 0],some (2,false),false⟩,⟨9,.p (.bin .gtr),[.t 0,.c (.int .i64 0)],some (3,false),false⟩,⟨10,.p .pick,[.t 4,.c (.bool true),.t 0],some (7,true),false⟩,⟨11,.p .pick,[.t 8,.t 0,.c (.bool false)],none,false⟩,⟨12,.p .mov,[.t 0],none,false⟩]
noncomputable def c27_r9:List SOp:=[⟨0,.r (.load true 5),[.v 3],none,false⟩,⟨1,.p .mov,[.v 1],none,false⟩,⟨2,.p (.fieldAddr 3),[.v 3],none,false⟩,⟨3,.r (.load false 1),[.t 0],none,false⟩,⟨4,.call 46,[.t 3,.t 2,.t 0],none,true⟩,⟨5,.r (.load true 5),[.v 3],none,false⟩,⟨6,.p .mov,[.v 1],none,false⟩,⟨7,.p .mov,[.v 2],none,false⟩,⟨8,.p (.bin .sub),[.t 0,.c (.int .i64 1)],none,false⟩,⟨9,.call 27,[.t 3,.t 2,.t 0],none,false⟩,⟨10,.a (.bslice [.int .i64 0,.int .i64 0,.int .i64 0,.string ⟨#[]⟩,.slice none 0 0] [(0,5)] 1 5),[.t 0],none,false⟩,⟨11,.p (.build [.int .i64 0,.int .i64 0,.int .i64 0,.string ⟨#[]⟩,.slice none 0 0] [(0,1),(3,1),(4,1)]),[.c (.int .i64 5),.t 6,.t 0],none,false⟩,⟨12,.w (.store 5),[.v 4,.t 0],none,false⟩]
noncomputable def qi7:List SOp:=[⟨0,.p .mov,[.v 1],none,false⟩,⟨1,.call 25,[.t 0,.c (.int .i64 14)],none,true⟩,⟨3,.r (.load true 5),[.v 3],none,false⟩,⟨4,.p .mov,[.v 1],none,false⟩,⟨5,.p .mov,[.v 2],none,false⟩,⟨6,.p (.bin .sub),[.t 0,.c (.int .i64 1)],none,false⟩,⟨7,.call 27,[.t 3,.t 2,.t 0],none,true⟩,⟨8,.r (.load true 5),[.v 3],none,false⟩,⟨9,.p .mov,[.v 1],none,false⟩,⟨10,.p .mov,[.v 2],none,false⟩,⟨11,.p (.bin .sub),[.t 0,.c (.int .i64 1)],none,false⟩,⟨12,.call 27,[.t 3,.t 2,.t 0],none,false⟩,⟨2,.p (.bin .add),[.c (.int .i64 1),.t 10],none,false⟩,⟨13,.a (.bslice [.int .i64 0,.int .i64 0,.int .i64 0,.string ⟨#[]⟩,.slice none 0 0,.int .i64 0,.int .i64 0,.int .i64 0,.string ⟨#[]⟩,.slice none 0 0] [(0,5),(5,5)] 2 5),[.t 6,.t 1],none,false⟩,⟨14,.p (.build [.int .i64 0,.int .i64 0,.int .i64 0,.string ⟨#[]⟩,.slice none 0 0] [(0,1),(1,1),(4,1)]),[.c (.int .i64 4),.t 1,.t 0],none,false⟩,⟨15,.w (.store 5),[.v 4,.t 0],none,false⟩]
noncomputable def c27:CFn:={ nargs:=3,vars:=[0,1,2,3,6,7],results:=[.cell 4 true 5],body:=(.seq (.reg c27_r0 [(3,1),(4,0)]) (.seq (.reg c27_r1 [(5,0)]) (.seq (.rcond c27_r2 [] 0 (.seq (.reg c27_r3 []) .ret) .skip) (.seq (.block 0 (.rcond c27_r4 [] 0 (.seq (.reg c27_r5 []) .ret) (.rcond c27_r6 [] 0 (.seq (.reg c27_r7 []) .ret) (.rcond c27_r8 [] 0 (.seq (.reg c27_r9 []) .ret) .skip)))) (.seq (.reg qi7 []) .ret))))) }
noncomputable def qi6:List SOp:=[⟨0,.a .box,[.v 0],none,false⟩,⟨1,.p .mov,[.c (.slice none 0 0)],none,false⟩]
noncomputable def qi5:List SOp:=[⟨0,.p .mov,[.c (.slice none 0 0)],none,false⟩]
noncomputable def qi4:List SOp:=[⟨0,.p .mov,[.v 1],none,false⟩,⟨1,.call 25,[.t 0,.c (.int .i64 4)],none,false⟩,⟨2,.p .mov,[.t 0],none,false⟩]
noncomputable def qi3:List SOp:=[⟨0,.p .mov,[.v 6],none,false⟩,⟨1,.p (.bin .gtr),[.t 0,.c (.int .i64 0)],none,false⟩]
noncomputable def qi2:List SOp:=[⟨0,.p .mov,[.v 5],none,false⟩,⟨1,.r (.load true 5),[.v 3],none,false⟩,⟨2,.p .mov,[.v 1],none,false⟩,⟨3,.p .mov,[.v 2],none,false⟩,⟨4,.call 47,[.t 2,.t 1,.t 0],none,false⟩,⟨5,.a (.bslice [.int .i64 0,.string ⟨#[]⟩,.string ⟨#[]⟩,.int .i64 0,.slice none 0 0,.slice none 0 0,.slice none 0 0] [(0,7)] 1 7),[.t 0],none,false⟩,⟨6,.w (.append 7 120),[.t 5,.t 0],none,false⟩,⟨7,.p .mov,[.t 0],none,false⟩]
noncomputable def qi1:List SOp:=[⟨0,.p .mov,[.v 6],none,false⟩,⟨1,.p (.bin .sub),[.t 0,.c (.int .i64 1)],none,false⟩,⟨2,.p .mov,[.t 0],none,false⟩]
noncomputable def c28_l6:CCode:=(.seq (.rcond qi3 [] 0 .skip (.exit 0)) (.seq (.block 1 (.reg qi2 [(5,0)])) (.reg qi1 [(6,0)])))
noncomputable def qi0:List SOp:=[⟨0,.p .mov,[.v 5],none,false⟩,⟨1,.p .mov,[.t 0],none,false⟩]
noncomputable def c28:CFn:={ nargs:=3,vars:=[0,1,2,3,6,7,8],results:=[.var 4],body:=(.seq (.reg qi6 [(3,1),(4,0)]) (.seq (.reg qi5 [(5,0)]) (.seq (.seq (.reg qi4 [(6,0)]) (.block 0 (.loop c28_l6))) (.seq (.reg qi0 [(4,0)]) .ret)))) }
noncomputable def c29_r0:List SOp:=[⟨0,.a .box,[.v 0],none,false⟩,⟨1,.p .mov,[.c (.bool false)],none,false⟩]
noncomputable def c29_r1:List SOp:=[⟨0,.r (.load true 4),[.v 1],none,false⟩,⟨1,.call 48,[.t 0],none,false⟩,⟨2,.p .mov,[.t 0],none,false⟩,⟨3,.p (.extract 0),[.t 0],none,false⟩,⟨4,.p (.extract 1),[.t 1],none,false⟩,⟨5,.a (.new [.int .i64 0,.int .i64 0]),[],none,false⟩,⟨6,.p .mov,[.t 2],none,false⟩,⟨7,.w (.store 2),[.t 1,.t 2],none,false⟩]
noncomputable def c29_r2:List SOp:=[⟨0,.p .mov,[.v 3],none,false⟩,⟨1,.p (.bin .eql),[.t 0,.c (.int .i64 0)],none,false⟩,⟨2,.p .mov,[.t 0],none,false⟩]
noncomputable def c29:CFn:={ nargs:=1,vars:=[0,1,2,3],results:=[.var 2],body:=(.seq (.reg c29_r0 [(1,1),(2,0)]) (.seq (.reg c29_r1 [(3,1)]) (.seq (.reg c29_r2 [(2,0)]) .ret))) }
noncomputable def qh9:List SOp:=[⟨0,.a .box,[.v 0],none,false⟩,⟨1,.p .mov,[.c (.slice none 0 0)],none,false⟩]
noncomputable def qh8:List SOp:=[⟨0,.p .mov,[.v 1],none,false⟩,⟨1,.p .lenS,[.t 0],none,false⟩,⟨2,.p .mov,[.c (.int .i64 0)],none,false⟩]
noncomputable def qh7:List SOp:=[⟨0,.p (.bin .lss),[.v 7,.v 6],none,false⟩]
noncomputable def qh6:List SOp:=[⟨0,.p (.idxAddrS 7),[.v 5,.v 7],none,false⟩,⟨1,.r (.load true 7),[.t 0],none,false⟩,⟨2,.a (.new [.int .i64 0,.string ⟨#[]⟩,.string ⟨#[]⟩,.int .i64 0,.slice none 0 0,.slice none 0 0,.slice none 0 0]),[],none,false⟩,⟨3,.w (.store 7),[.t 0,.t 1],none,false⟩]
noncomputable def qh5:List SOp:=[⟨0,.p (.fieldAddr 0),[.v 4],none,false⟩,⟨1,.r (.load false 1),[.t 0],none,false⟩,⟨2,.p (.bin .eql),[.t 0,.c (.int .i64 5)],none,false⟩]
noncomputable def qh4:List SOp:=[⟨0,.p .mov,[.v 3],none,false⟩,⟨1,.r (.load true 4),[.v 2],none,false⟩,⟨2,.p (.fieldAddr 1),[.v 4],none,false⟩,⟨3,.r (.load false 1),[.t 0],none,false⟩,⟨4,.call 49,[.t 2,.t 0],none,false⟩,⟨5,.a (.bslice [.int .i64 0] [(0,1)] 1 1),[.t 0],none,false⟩,⟨6,.w (.append 1 8),[.t 5,.t 0],none,false⟩,⟨7,.p .mov,[.t 0],none,false⟩]
noncomputable def qh3:List SOp:=[⟨1,.r (.load true 4),[.v 2],none,false⟩,⟨2,.p (.fieldAddr 5),[.v 4],none,false⟩,⟨3,.r (.load false 1),[.t 0],none,false⟩,⟨4,.call 30,[.t 2,.t 0],none,true⟩,⟨0,.p .mov,[.v 3],none,false⟩,⟨5,.w (.append 1 8),[.t 0,.t 1],none,true⟩,⟨6,.r (.load true 4),[.v 2],none,false⟩,⟨7,.p (.fieldAddr 6),[.v 4],none,false⟩,⟨8,.r (.load false 1),[.t 0],none,false⟩,⟨9,.call 30,[.t 2,.t 0],none,false⟩,⟨10,.w (.append 1 8),[.t 4,.t 0],none,false⟩,⟨11,.p .mov,[.t 0],none,false⟩]
noncomputable def qh2:List SOp:=[⟨0,.p (.bin .add),[.v 7,.c (.int .i64 1)],none,false⟩,⟨1,.p .mov,[.t 0],none,false⟩]
noncomputable def c30_l8:CCode:=(.seq (.reg qh7 [(8,0)]) (.seq (.cond (.v 8) .skip (.exit 0)) (.seq (.block 1 (.seq (.reg qh6 [(4,1)]) (.seq (.rcond qh5 [] 0 (.reg qh4 [(3,0)]) .skip) (.reg qh3 [(3,0)])))) (.reg qh2 [(7,0)]))))
noncomputable def c30:CFn:={ nargs:=2,vars:=[0,1,2,4,6,7,8,9,10],results:=[.var 3],body:=(.seq (.reg qh9 [(2,1),(3,0)]) (.seq (.seq (.reg qh8 [(5,2),(6,1),(7,0)]) (.block 0 (.loop c30_l8))) .ret)) }
noncomputable def qh0:List SOp:=[⟨0,.p .mov,[.c (.slice none 0 0)],none,false⟩]
noncomputable def qg9:List SOp:=[⟨0,.p .mov,[.v 0],none,false⟩,⟨1,.p .mov,[.v 1],none,false⟩,⟨2,.call 51,[.t 1,.t 0],none,false⟩,⟨3,.p .mov,[.t 0],none,false⟩]
noncomputable def qg8:List SOp:=[⟨0,.p .mov,[.v 3],none,false⟩,⟨1,.p (.bin .eql),[.t 0,.c (.int .i64 (-1))],none,false⟩]
noncomputable def qg7:List SOp:=[⟨0,.p .mov,[.v 0],none,false⟩,⟨1,.p .mov,[.t 0],none,false⟩]
noncomputable def qg6:List SOp:=[⟨0,.p .mov,[.v 3],none,false⟩,⟨1,.p (.bin .add),[.t 0,.c (.int .i64 1)],none,false⟩,⟨2,.p .mov,[.t 0],none,false⟩]
noncomputable def qg5:List SOp:=[⟨0,.p .mov,[.v 4],none,false⟩,⟨1,.p .mov,[.v 0],none,false⟩,⟨2,.p .lenS,[.t 0],none,false⟩,⟨3,.p (.bin .lss),[.t 2,.t 0],none,false⟩]
noncomputable def qg4:List SOp:=[⟨0,.p .mov,[.v 0],none,false⟩,⟨1,.p .mov,[.v 4],none,false⟩,⟨2,.p (.idxAddrS 1),[.t 1,.t 0],none,false⟩,⟨3,.r (.load false 1),[.t 0],none,false⟩,⟨4,.p .mov,[.t 0],none,false⟩]
noncomputable def qg3:List SOp:=[⟨0,.p .mov,[.v 1],none,false⟩,⟨1,.p .mov,[.v 5],none,false⟩,⟨2,.callV,[.t 1,.t 0],none,false⟩,⟨3,.p (.un .not),[.t 0],none,false⟩]
noncomputable def qg2:List SOp:=[⟨0,.p .mov,[.v 0],none,false⟩,⟨1,.p .mov,[.v 3],none,false⟩,⟨2,.p .mov,[.v 5],none,false⟩,⟨3,.p (.idxAddrS 1),[.t 2,.t 1],none,false⟩,⟨4,.w (.store 1),[.t 0,.t 1],none,false⟩]
noncomputable def qg1:List SOp:=[⟨0,.p .mov,[.v 3],none,false⟩,⟨1,.p (.bin .add),[.t 0,.c (.int .i64 1)],none,false⟩,⟨2,.p .mov,[.t 0],none,false⟩]
noncomputable def zm1:List SOp:=[⟨0,.p .mov,[.v 4],none,false⟩,⟨1,.p (.bin .add),[.t 0,.c (.int .i64 1)],none,false⟩,⟨2,.p .mov,[.t 0],none,false⟩]
noncomputable def qh1:CCode:=(.seq (.rcond qg5 [] 0 .skip (.exit 0)) (.seq (.block 1 (.seq (.reg qg4 [(5,0)]) (.rcond qg3 [] 0 (.seq (.reg qg2 []) (.reg qg1 [(3,0)])) .skip))) (.reg zm1 [(4,0)])))
noncomputable def zm0:List SOp:=[⟨0,.p .mov,[.v 0],none,false⟩,⟨1,.p .mov,[.v 3],none,false⟩,⟨2,.p (.sliceS 1 true false),[.t 1,.t 0],none,false⟩,⟨3,.w (.clearS 1 [.int .i64 0]),[.t 0],none,false⟩]
noncomputable def zl9:List SOp:=[⟨0,.p .mov,[.v 0],none,false⟩,⟨1,.p .mov,[.v 3],none,false⟩,⟨2,.p (.sliceS 1 false true),[.t 1,.t 0],none,false⟩,⟨3,.p .mov,[.t 0],none,false⟩]
noncomputable def c33:CFn:={ nargs:=2,vars:=[0,1,4,5,6,7],results:=[.var 2],body:=(.seq (.reg qh0 [(2,0)]) (.seq (.reg qg9 [(3,0)]) (.seq (.rcond qg8 [] 0 (.seq (.reg qg7 [(2,0)]) .ret) .skip) (.seq (.seq (.reg qg6 [(4,0)]) (.block 0 (.loop qh1))) (.seq (.reg zm0 []) (.seq (.reg zl9 [(2,0)]) .ret)))))) }
noncomputable def qg0:List SOp:=[⟨0,.a .box,[.v 0],none,false⟩,⟨1,.p .mov,[.c (.slice none 0 0)],none,false⟩]
noncomputable def qf9:List SOp:=[⟨0,.p (.fieldAddr 3),[.v 2],none,false⟩,⟨1,.r (.load false 1),[.t 0],none,false⟩,⟨2,.p .lenS,[.t 0],none,false⟩,⟨3,.p .mov,[.c (.int .i64 0)],none,false⟩]
noncomputable def qf8:List SOp:=[⟨0,.p (.bin .lss),[.v 8,.v 7],none,false⟩]
noncomputable def qf7:List SOp:=[⟨0,.p .mov,[.v 8],none,false⟩,⟨1,.p (.idxAddrS 6),[.v 6,.v 8],none,false⟩,⟨2,.r (.load true 6),[.t 0],none,false⟩,⟨3,.a (.new [.string ⟨#[]⟩,.bool false,.int .i64 0,.int .i64 0,.int .i64 0,.slice none 0 0]),[],none,false⟩,⟨4,.p .mov,[.t 3],none,false⟩,⟨5,.w (.store 6),[.t 1,.t 2],none,false⟩]
noncomputable def qf6:List SOp:=[⟨0,.p (.fieldAddr 1),[.v 5],none,false⟩,⟨1,.r (.load false 1),[.t 0],none,false⟩,⟨2,.p .mov,[.t 0],none,false⟩,⟨3,.p (.fieldAddr 2),[.v 5],some (0,true),false⟩,⟨4,.r (.load false 1),[.t 0],some (1,true),false⟩,⟨5,.p .mov,[.v 1],some (2,true),false⟩,⟨6,.p (.bin .eql),[.t 1,.t 0],some (3,true),false⟩,⟨7,.p .pick,[.t 4,.t 0,.c (.bool false)],none,false⟩]
noncomputable def qf5:List SOp:=[⟨0,.p .mov,[.v 3],none,false⟩,⟨1,.p .mov,[.v 4],none,false⟩,⟨2,.a (.bslice [.int .i64 0] [(0,1)] 1 1),[.t 0],none,false⟩,⟨3,.w (.append 1 8),[.t 2,.t 0],none,false⟩,⟨4,.p .mov,[.t 0],none,false⟩]
noncomputable def qf4:List SOp:=[⟨0,.p (.bin .add),[.v 8,.c (.int .i64 1)],none,false⟩,⟨1,.p .mov,[.t 0],none,false⟩]
noncomputable def c34_l7:CCode:=(.seq (.reg qf8 [(9,0)]) (.seq (.cond (.v 9) .skip (.exit 0)) (.seq (.block 1 (.seq (.reg qf7 [(4,1),(5,2)]) (.rcond qf6 [] 0 (.reg qf5 [(3,0)]) .skip))) (.reg qf4 [(8,0)]))))
noncomputable def c34:CFn:={ nargs:=2,vars:=[0,1,2,4,5,6,8,9,10,11],results:=[.var 3],body:=(.seq (.reg qg0 [(2,1),(3,0)]) (.seq (.seq (.reg qf9 [(6,2),(7,1),(8,0)]) (.block 0 (.loop c34_l7))) .ret)) }
noncomputable def c35_r0:List SOp:=[⟨0,.p .mov,[.c (.bool false)],none,false⟩]
noncomputable def c35_r1:List SOp:=[⟨0,.p (.fieldAddr 3),[.v 1],none,false⟩,⟨1,.r (.load false 1),[.t 0],none,false⟩,⟨2,.p .mov,[.v 0],none,false⟩,⟨3,.p (.idxAddrS 6),[.t 1,.t 0],none,false⟩,⟨4,.p (.fieldAddr 3),[.t 0],none,false⟩,⟨5,.r (.load false 1),[.t 0],none,false⟩,⟨6,.r (.load false 1),[.v 2],none,false⟩,⟨7,.p (.bin .leq),[.t 1,.t 0],none,false⟩,⟨8,.p .mov,[.t 0],none,false⟩]
noncomputable def c35:CFn:={ nargs:=3,vars:=[0,1,2,4],results:=[.var 3],body:=(.seq (.reg c35_r0 [(3,0)]) (.seq (.reg c35_r1 [(3,0)]) .ret)) }
noncomputable def c36_r0:List SOp:=[⟨0,.p .mov,[.v 0],none,false⟩,⟨1,.p .mov,[.v 0],none,false⟩,⟨2,.p .lenS,[.t 0],none,false⟩,⟨3,.p .mov,[.v 1],none,false⟩,⟨4,.call 52,[.t 3,.t 1,.t 0],none,false⟩]
noncomputable def c36:CFn:={ nargs:=2,vars:=[0,1],results:=[],body:=(.reg c36_r0 []) }
noncomputable def c37_r0:List SOp:=[⟨0,.p .mov,[.c (.int .i64 0)],none,false⟩]
noncomputable def c37_r1:List SOp:=[⟨0,.p (.fieldAddr 3),[.v 2],none,false⟩,⟨1,.r (.load false 1),[.t 0],none,false⟩,⟨2,.p .mov,[.v 1],none,false⟩,⟨3,.p (.idxAddrS 6),[.t 1,.t 0],none,false⟩,⟨4,.p (.fieldAddr 3),[.t 0],none,false⟩,⟨5,.r (.load false 1),[.t 0],none,false⟩,⟨6,.p (.fieldAddr 3),[.v 2],none,false⟩,⟨7,.r (.load false 1),[.t 0],none,false⟩,⟨8,.p .mov,[.v 0],none,false⟩,⟨9,.p (.idxAddrS 6),[.t 1,.t 0],none,false⟩,⟨10,.p (.fieldAddr 3),[.t 0],none,false⟩,⟨11,.r (.load false 1),[.t 0],none,false⟩,⟨12,.p (.bin .sub),[.t 6,.t 0],none,false⟩,⟨13,.p .mov,[.t 0],none,false⟩]
noncomputable def c37:CFn:={ nargs:=3,vars:=[0,1,2,5],results:=[.var 3],body:=(.seq (.reg c37_r0 [(3,0)]) (.seq (.reg c37_r1 [(3,0)]) .ret)) }
noncomputable def c44_r0:List SOp:=[⟨0,.a .box,[.v 0],none,false⟩,⟨1,.p .mov,[.c (.bool false)],none,false⟩]
noncomputable def c44_r1:List SOp:=[⟨0,.p .mov,[.f 65],none,false⟩]
noncomputable def c44_r2:List SOp:=[⟨0,.p .mov,[.f 68],none,false⟩]
noncomputable def c44_r3:List SOp:=[⟨0,.p .mov,[.f 69],none,false⟩]
noncomputable def c44_r4:List SOp:=[⟨0,.p (.fieldAddr 0),[.v 1],none,false⟩,⟨1,.r (.load false 1),[.t 0],none,false⟩,⟨2,.call 67,[.t 0,.c (.int .i64 1),.c (.int .i64 4)],none,false⟩,⟨3,.p .mov,[.t 0],none,false⟩,⟨4,.p (.fieldAddr 1),[.v 1],some (0,true),false⟩,⟨5,.r (.load false 1),[.t 0],some (1,true),false⟩,⟨6,.p .lenS,[.t 0],some (2,true),false⟩,⟨7,.p (.bin .leq),[.t 0,.c (.int .i64 8)],some (3,true),false⟩,⟨8,.p .pick,[.t 4,.t 0,.c (.bool false)],none,false⟩,⟨9,.p .mov,[.t 0],none,false⟩,⟨10,.p (.fieldAddr 2),[.v 1],some (0,true),false⟩,⟨11,.r (.load false 1),[.t 0],some (1,true),false⟩,⟨12,.p .lenS,[.t 0],some (2,true),false⟩,⟨13,.p (.bin .leq),[.t 0,.c (.int .i64 8)],some (3,true),false⟩,⟨14,.p .pick,[.t 4,.t 0,.c (.bool false)],none,false⟩,⟨15,.p .mov,[.t 0],none,false⟩,⟨16,.p (.fieldAddr 3),[.v 1],some (0,true),false⟩,⟨17,.r (.load false 1),[.t 0],some (1,true),false⟩,⟨18,.p .lenS,[.t 0],some (2,true),false⟩,⟨19,.p (.bin .leq),[.t 0,.c (.int .i64 16)],some (3,true),false⟩,⟨20,.p .pick,[.t 4,.t 0,.c (.bool false)],none,false⟩,⟨21,.p .mov,[.t 0],none,false⟩,⟨22,.p (.fieldAddr 1),[.v 1],some (0,true),false⟩,⟨23,.r (.load false 1),[.t 0],some (1,true),false⟩,⟨24,.p .mov,[.v 3],some (2,true),false⟩,⟨25,.call 71,[.t 1,.t 0],some (3,true),false⟩,⟨26,.p (.un .not),[.t 0],some (4,true),false⟩,⟨27,.p .pick,[.t 5,.t 0,.c (.bool false)],none,false⟩,⟨28,.p .mov,[.t 0],none,false⟩,⟨29,.p (.fieldAddr 2),[.v 1],some (0,true),false⟩,⟨30,.r (.load false 1),[.t 0],some (1,true),false⟩,⟨31,.p .mov,[.v 4],some (2,true),false⟩,⟨32,.call 72,[.t 1,.t 0],some (3,true),false⟩,⟨33,.p (.un .not),[.t 0],some (4,true),false⟩,⟨34,.p .pick,[.t 5,.t 0,.c (.bool false)],none,false⟩,⟨35,.p .mov,[.t 0],none,false⟩,⟨36,.p (.fieldAddr 3),[.v 1],some (0,true),false⟩,⟨37,.r (.load false 1),[.t 0],some (1,true),false⟩,⟨38,.p .mov,[.v 5],some (2,true),false⟩,⟨39,.call 73,[.t 1,.t 0],some (3,true),false⟩,⟨40,.p (.un .not),[.t 0],some (4,true),false⟩,⟨41,.p .pick,[.t 5,.t 0,.c (.bool false)],none,false⟩,⟨42,.p .mov,[.t 0],none,false⟩]
noncomputable def c44:CFn:={ nargs:=1,vars:=[0,1,2,3,4,5],results:=[.var 2],body:=(.seq (.reg c44_r0 [(1,1),(2,0)]) (.seq (.reg c44_r1 [(3,0)]) (.seq (.reg c44_r2 [(4,0)]) (.seq (.reg c44_r3 [(5,0)]) (.seq (.reg c44_r4 [(2,0)]) .ret))))) }
noncomputable def c45_r0:List SOp:=[⟨0,.p .mov,[.c (.int .i64 0)],none,false⟩]
noncomputable def c45_r1:List SOp:=[⟨0,.p .mov,[.v 0],none,false⟩,⟨1,.p (.bin .lss),[.t 0,.c (.int .i64 0)],none,false⟩]
noncomputable def c45_r2:List SOp:=[⟨0,.p .mov,[.v 0],none,false⟩,⟨1,.p (.bin .add),[.t 0,.c (.int .i64 1)],none,false⟩,⟨2,.p (.un .neg),[.t 0],none,false⟩,⟨3,.p .mov,[.t 0],none,false⟩]
noncomputable def c45_r3:List SOp:=[⟨0,.p .mov,[.v 0],none,false⟩,⟨1,.p .mov,[.v 1],none,false⟩,⟨2,.p (.bin .rem),[.t 1,.t 0],none,false⟩,⟨3,.p .mov,[.t 0],none,false⟩]
noncomputable def c45:CFn:={ nargs:=2,vars:=[0,1,4],results:=[.var 2],body:=(.seq (.reg c45_r0 [(2,0)]) (.seq (.rcond c45_r1 [] 0 (.reg c45_r2 [(0,0)]) .skip) (.seq (.reg c45_r3 [(2,0)]) .ret))) }
noncomputable def c46_r0:List SOp:=[⟨0,.a .box,[.v 0],none,false⟩,⟨1,.p .mov,[.c (.string ⟨#[]⟩)],none,false⟩]
noncomputable def c46_r1:List SOp:=[⟨0,.p (.fieldAddr 4),[.v 3],none,false⟩,⟨1,.r (.load false 1),[.t 0],none,false⟩,⟨2,.p .mov,[.t 0],none,false⟩,⟨3,.p .mov,[.v 2],some (0,false),false⟩,⟨4,.p .lenS,[.t 0],some (1,false),false⟩,⟨5,.p (.bin .eql),[.t 0,.c (.int .i64 0)],some (2,false),false⟩,⟨6,.p .pick,[.t 3,.c (.bool true),.t 0],none,false⟩]
noncomputable def c46_r2:List SOp:=[⟨0,.p .mov,[.v 1],none,false⟩,⟨1,.call 25,[.t 0,.c (.int .i64 300)],none,false⟩,⟨2,.call 74,[.t 0],none,false⟩,⟨3,.p .mov,[.t 0],none,false⟩]
noncomputable def c46_r3:List SOp:=[⟨0,.p .mov,[.v 2],none,false⟩,⟨1,.p .mov,[.v 1],none,false⟩,⟨2,.p .mov,[.v 2],none,false⟩,⟨3,.p .lenS,[.t 0],none,false⟩,⟨4,.call 25,[.t 2,.t 0],none,false⟩,⟨5,.p (.idxAddrS 1),[.t 4,.t 0],none,false⟩,⟨6,.r (.load false 1),[.t 0],none,false⟩,⟨7,.p .mov,[.t 0],none,false⟩]
noncomputable def c46:CFn:={ nargs:=3,vars:=[0,1,2,3,6],results:=[.var 4],body:=(.seq (.reg c46_r0 [(3,1),(4,0)]) (.seq (.rcond c46_r1 [] 0 (.seq (.reg c46_r2 [(4,0)]) .ret) .skip) (.seq (.reg c46_r3 [(4,0)]) .ret))) }
noncomputable def c47_r0:List SOp:=[⟨0,.a .box,[.v 0],none,false⟩,⟨1,.a (.new [.int .i64 0,.string ⟨#[]⟩,.string ⟨#[]⟩,.int .i64 0,.slice none 0 0,.slice none 0 0,.slice none 0 0]),[],none,false⟩]
noncomputable def c47_r1:List SOp:=[⟨0,.r (.load true 5),[.v 3],none,false⟩,⟨1,.p .mov,[.v 1],none,false⟩,⟨2,.a (.bslice [.string ⟨#[]⟩,.string ⟨#[]⟩,.string ⟨#[]⟩] [(0,1),(1,1),(2,1)] 3 1),[.c (.string ⟨#[120]⟩),.c (.string ⟨#[121]⟩),.c (.string ⟨#[122]⟩)],none,false⟩,⟨3,.call 46,[.t 2,.t 1,.t 0],none,false⟩,⟨4,.p .mov,[.t 0],none,false⟩]
noncomputable def c47_r2:List SOp:=[⟨0,.p .mov,[.v 1],none,false⟩,⟨1,.call 25,[.t 0,.c (.int .i64 12)],none,false⟩,⟨2,.p .mov,[.t 0],none,false⟩]
noncomputable def c47_r3:List SOp:=[⟨0,.p .mov,[.v 6],none,false⟩,⟨1,.p (.bin .lss),[.t 0,.c (.int .i64 2)],none,false⟩,⟨2,.p .mov,[.t 0],none,false⟩]
noncomputable def c47_r4:List SOp:=[⟨0,.p .mov,[.v 5],none,false⟩,⟨1,.r (.load true 5),[.v 3],none,false⟩,⟨2,.p .mov,[.v 1],none,false⟩,⟨3,.p (.fieldAddr 0),[.v 3],none,false⟩,⟨4,.r (.load false 1),[.t 0],none,false⟩,⟨5,.call 46,[.t 3,.t 2,.t 0],none,false⟩,⟨6,.p .mov,[.v 1],none,false⟩,⟨7,.call 25,[.t 0,.c (.int .i64 4)],none,false⟩,⟨8,.p (.build [.int .i64 0,.string ⟨#[]⟩,.string ⟨#[]⟩,.int .i64 0,.slice none 0 0,.slice none 0 0,.slice none 0 0] [(0,1),(1,1),(2,1),(3,1)]),[.c (.int .i64 2),.t 7,.t 2,.t 0],none,false⟩,⟨9,.w (.store 7),[.v 4,.t 0],none,false⟩]
noncomputable def c47_r5:List SOp:=[⟨0,.p .mov,[.v 6],none,false⟩,⟨1,.p (.bin .lss),[.t 0,.c (.int .i64 5)],none,false⟩,⟨2,.p .mov,[.t 0],none,false⟩]
noncomputable def c47_r6:List SOp:=[⟨0,.r (.load true 5),[.v 3],none,false⟩,⟨1,.p .mov,[.v 1],none,false⟩,⟨2,.p (.fieldAddr 0),[.v 3],none,false⟩,⟨3,.r (.load false 1),[.t 0],none,false⟩,⟨4,.call 46,[.t 3,.t 2,.t 0],none,true⟩,⟨5,.p .mov,[.v 1],none,false⟩,⟨6,.call 25,[.t 0,.c (.int .i64 4)],none,true⟩,⟨7,.r (.load true 5),[.v 3],none,false⟩,⟨8,.p .mov,[.v 1],none,false⟩,⟨9,.call 27,[.t 1,.t 0,.c (.int .i64 3)],none,false⟩,⟨10,.a (.bslice [.int .i64 0,.int .i64 0,.int .i64 0,.string ⟨#[]⟩,.slice none 0 0] [(0,5)] 1 5),[.t 0],none,false⟩,⟨11,.p (.build [.int .i64 0,.string ⟨#[]⟩,.string ⟨#[]⟩,.int .i64 0,.slice none 0 0,.slice none 0 0,.slice none 0 0] [(0,1),(1,1),(3,1),(4,1)]),[.c (.int .i64 3),.t 6,.t 4,.t 0],none,false⟩,⟨12,.w (.store 7),[.v 4,.t 0],none,false⟩]
noncomputable def c47_r7:List SOp:=[⟨0,.p .mov,[.v 6],none,false⟩,⟨1,.p (.bin .lss),[.t 0,.c (.int .i64 7)],none,false⟩,⟨2,.p .mov,[.t 0],none,false⟩,⟨3,.p (.fieldAddr 4),[.v 3],some (0,true),false⟩,⟨4,.r (.load false 1),[.t 0],some (1,true),false⟩,⟨5,.p .mov,[.t 0],some (2,true),false⟩,⟨6,.p (.fieldAddr 3),[.v 3],some (0,false),false⟩,⟨7,.r (.load false 1),[.t 0],some (1,false),false⟩,⟨8,.p .lenS,[.t 0],some (2,false),false⟩,⟨9,.p (.bin .gtr),[.t 0,.c (.int .i64 0)],some (3,false),false⟩,⟨10,.p .pick,[.t 4,.c (.bool true),.t 0],some (7,true),false⟩,⟨11,.p .pick,[.t 8,.t 0,.c (.bool false)],none,false⟩,⟨12,.p .mov,[.t 0],none,false⟩]
noncomputable def c47_r8:List SOp:=[⟨0,.r (.load true 5),[.v 3],none,false⟩,⟨1,.p .mov,[.v 1],none,false⟩,⟨2,.p (.fieldAddr 3),[.v 3],none,false⟩,⟨3,.r (.load false 1),[.t 0],none,false⟩,⟨4,.call 46,[.t 3,.t 2,.t 0],none,true⟩,⟨5,.r (.load true 5),[.v 3],none,false⟩,⟨6,.p .mov,[.v 1],none,false⟩,⟨7,.call 27,[.t 1,.t 0,.c (.int .i64 2)],none,true⟩,⟨8,.r (.load true 5),[.v 3],none,false⟩,⟨9,.p .mov,[.v 1],none,false⟩,⟨10,.call 27,[.t 1,.t 0,.c (.int .i64 3)],none,false⟩,⟨11,.a (.bslice [.int .i64 0,.int .i64 0,.int .i64 0,.string ⟨#[]⟩,.slice none 0 0,.int .i64 0,.int .i64 0,.int .i64 0,.string ⟨#[]⟩,.slice none 0 0] [(0,5),(5,5)] 2 5),[.t 3,.t 0],none,false⟩,⟨12,.p (.build [.int .i64 0,.string ⟨#[]⟩,.string ⟨#[]⟩,.int .i64 0,.slice none 0 0,.slice none 0 0,.slice none 0 0] [(0,1),(1,1),(4,1)]),[.c (.int .i64 4),.t 7,.t 0],none,false⟩,⟨13,.w (.store 7),[.v 4,.t 0],none,false⟩]
noncomputable def c47_r9:List SOp:=[⟨0,.p .mov,[.v 6],none,false⟩,⟨1,.p (.bin .lss),[.t 0,.c (.int .i64 9)],none,false⟩,⟨2,.p .mov,[.t 0],none,false⟩,⟨3,.p .mov,[.v 2],some (0,true),false⟩,⟨4,.p (.bin .gtr),[.t 0,.c (.int .i64 0)],some (1,true),false⟩,⟨5,.p .pick,[.t 2,.t 0,.c (.bool false)],none,false⟩,⟨6,.p .mov,[.t 0],none,false⟩,⟨7,.p (.fieldAddr 4),[.v 3],some (0,true),false⟩,⟨8,.r (.load false 1),[.t 0],some (1,true),false⟩,⟨9,.p .mov,[.t 0],some (2,true),false⟩,⟨10,.p (.fieldAddr 2),[.v 3],some (0,false),false⟩,⟨11,.r (.load false 1),[.t 0],some (1,false),false⟩,⟨12,.p (.fieldAddr 1),[.v 3],some (2,false),false⟩,⟨13,.r (.load false 1),[.t 0],some (3,false),false⟩,⟨14,.p .lenS,[.t 0],some (4,false),false⟩,⟨15,.p (.bin .lss),[.t 3,.t 0],some (5,false),false⟩,⟨16,.p .pick,[.t 6,.c (.bool true),.t 0],some (9,true),false⟩,⟨17,.p .pick,[.t 10,.t 0,.c (.bool false)],none,false⟩,⟨18,.p .mov,[.t 0],none,false⟩]
noncomputable def qf3:List SOp:=[⟨0,.r (.load true 5),[.v 3],none,false⟩,⟨1,.a (.new [.slice none 0 0,.slice none 0 0,.int .i64 0,.slice none 0 0,.bool false]),[],none,false⟩,⟨2,.w (.store 5),[.t 0,.t 1],none,false⟩]
noncomputable def qf2:List SOp:=[⟨0,.r (.load true 5),[.v 3],none,false⟩,⟨1,.p .mov,[.v 1],none,false⟩,⟨2,.p (.fieldAddr 1),[.v 3],none,false⟩,⟨3,.r (.load false 1),[.t 0],none,false⟩,⟨4,.call 46,[.t 3,.t 2,.t 0],none,false⟩,⟨5,.p .mov,[.t 0],none,false⟩]
noncomputable def qf1:List SOp:=[⟨0,.p (.fieldAddr 4),[.v 3],none,false⟩,⟨1,.r (.load false 1),[.t 0],none,false⟩,⟨2,.p (.un .not),[.t 0],none,false⟩]
noncomputable def qf0:List SOp:=[⟨2,.p .mov,[.v 1],none,false⟩,⟨3,.p (.fieldAddr 1),[.v 3],none,false⟩,⟨4,.r (.load false 1),[.t 0],none,false⟩,⟨5,.p .lenS,[.t 0],none,false⟩,⟨6,.p (.fieldAddr 2),[.v 3],none,false⟩,⟨7,.r (.load false 1),[.t 0],none,false⟩,⟨8,.p (.bin .sub),[.t 2,.t 0],none,false⟩,⟨9,.call 25,[.t 6,.t 0],none,true⟩,⟨0,.p (.fieldAddr 2),[.v 3],none,false⟩,⟨1,.r (.load false 1),[.t 0],none,false⟩,⟨10,.p (.bin .add),[.t 0,.t 2],none,false⟩,⟨11,.p .mov,[.t 0],none,false⟩]
noncomputable def qe9:List SOp:=[⟨0,.p (.fieldAddr 1),[.v 3],none,false⟩,⟨1,.r (.load false 1),[.t 0],none,false⟩,⟨2,.p .mov,[.v 9],none,false⟩,⟨3,.p (.idxAddrS 1),[.t 1,.t 0],none,false⟩,⟨4,.r (.load false 1),[.t 0],none,false⟩,⟨5,.p .mov,[.t 0],none,false⟩]
noncomputable def qe8:List SOp:=[⟨0,.p .mov,[.v 9],none,false⟩,⟨1,.p (.bin .add),[.t 0,.c (.int .i64 1)],none,false⟩,⟨2,.p (.fieldAddr 2),[.v 7],none,false⟩,⟨3,.w (.store 1),[.t 0,.t 1],none,false⟩]
noncomputable def qe7:List SOp:=[⟨0,.p (.fieldAddr 3),[.v 3],none,false⟩,⟨1,.r (.load false 1),[.t 0],none,false⟩,⟨2,.w (.append 1 16),[.c (.slice none 0 0),.t 0],none,false⟩,⟨3,.p .mov,[.v 8],none,false⟩,⟨4,.a (.bslice [.string ⟨#[]⟩] [(0,1)] 1 1),[.t 0],none,false⟩,⟨5,.w (.append 1 16),[.t 2,.t 0],none,false⟩,⟨6,.p (.fieldAddr 3),[.v 7],none,false⟩,⟨7,.w (.store 1),[.t 0,.t 1],none,false⟩]
noncomputable def qe6:List SOp:=[⟨0,.p .mov,[.v 8],none,false⟩,⟨1,.r (.load true 5),[.v 7],none,false⟩,⟨2,.p .mov,[.v 1],none,false⟩,⟨3,.p .mov,[.v 2],none,false⟩,⟨4,.p (.bin .sub),[.t 0,.c (.int .i64 1)],none,false⟩,⟨5,.call 28,[.t 3,.t 2,.t 0],none,false⟩,⟨6,.p (.build [.int .i64 0,.string ⟨#[]⟩,.string ⟨#[]⟩,.int .i64 0,.slice none 0 0,.slice none 0 0,.slice none 0 0] [(0,1),(1,1),(5,1)]),[.c (.int .i64 5),.t 5,.t 0],none,false⟩,⟨7,.w (.store 7),[.v 4,.t 0],none,false⟩]
noncomputable def qe5:List SOp:=[⟨0,.p .mov,[.v 6],none,false⟩,⟨1,.p (.bin .eql),[.t 0,.c (.int .i64 9)],none,false⟩,⟨2,.p .mov,[.t 0],none,false⟩,⟨3,.p .mov,[.v 2],some (0,true),false⟩,⟨4,.p (.bin .gtr),[.t 0,.c (.int .i64 0)],some (1,true),false⟩,⟨5,.p .pick,[.t 2,.t 0,.c (.bool false)],none,false⟩,⟨6,.p .mov,[.t 0],none,false⟩]
noncomputable def qe4:List SOp:=[⟨0,.r (.load true 5),[.v 3],none,false⟩,⟨1,.p .mov,[.v 1],none,false⟩,⟨2,.call 27,[.t 1,.t 0,.c (.int .i64 3)],none,true⟩,⟨4,.r (.load true 5),[.v 3],none,false⟩,⟨5,.p .mov,[.v 1],none,false⟩,⟨6,.p .mov,[.v 2],none,false⟩,⟨7,.p (.bin .sub),[.t 0,.c (.int .i64 1)],none,false⟩,⟨8,.call 28,[.t 3,.t 2,.t 0],none,true⟩,⟨9,.r (.load true 5),[.v 3],none,false⟩,⟨10,.p .mov,[.v 1],none,false⟩,⟨11,.p .mov,[.v 2],none,false⟩,⟨12,.p (.bin .sub),[.t 0,.c (.int .i64 1)],none,false⟩,⟨13,.call 28,[.t 3,.t 2,.t 0],none,false⟩,⟨3,.a (.bslice [.int .i64 0,.int .i64 0,.int .i64 0,.string ⟨#[]⟩,.slice none 0 0] [(0,5)] 1 5),[.t 10],none,false⟩,⟨14,.p (.build [.int .i64 0,.string ⟨#[]⟩,.string ⟨#[]⟩,.int .i64 0,.slice none 0 0,.slice none 0 0,.slice none 0 0] [(0,1),(4,1),(5,1),(6,1)]),[.c (.int .i64 6),.t 0,.t 6,.t 1],none,false⟩,⟨15,.w (.store 7),[.v 4,.t 0],none,false⟩]
noncomputable def qe3:List SOp:=[⟨0,.p .mov,[.v 6],none,false⟩,⟨1,.p (.bin .eql),[.t 0,.c (.int .i64 10)],none,false⟩,⟨2,.p .mov,[.t 0],none,false⟩,⟨3,.p .mov,[.v 2],some (0,true),false⟩,⟨4,.p (.bin .gtr),[.t 0,.c (.int .i64 0)],some (1,true),false⟩,⟨5,.p .pick,[.t 2,.t 0,.c (.bool false)],none,false⟩,⟨6,.p .mov,[.t 0],none,false⟩]
noncomputable def qe2:List SOp:=[⟨0,.p .mov,[.v 1],none,false⟩,⟨1,.call 25,[.t 0,.c (.int .i64 5)],none,true⟩,⟨2,.r (.load true 5),[.v 3],none,false⟩,⟨3,.p .mov,[.v 1],none,false⟩,⟨4,.p .mov,[.v 2],none,false⟩,⟨5,.p (.bin .sub),[.t 0,.c (.int .i64 1)],none,false⟩,⟨6,.call 28,[.t 3,.t 2,.t 0],none,false⟩,⟨7,.p (.build [.int .i64 0,.string ⟨#[]⟩,.string ⟨#[]⟩,.int .i64 0,.slice none 0 0,.slice none 0 0,.slice none 0 0] [(0,1),(3,1),(5,1)]),[.c (.int .i64 7),.t 5,.t 0],none,false⟩,⟨8,.w (.store 7),[.v 4,.t 0],none,false⟩]
noncomputable def qe1:List SOp:=[⟨0,.p .mov,[.v 6],none,false⟩,⟨1,.p (.bin .eql),[.t 0,.c (.int .i64 11)],none,false⟩,⟨2,.p .mov,[.t 0],none,false⟩]
noncomputable def qe0:List SOp:=[⟨0,.p (.build [.int .i64 0,.string ⟨#[]⟩,.string ⟨#[]⟩,.int .i64 0,.slice none 0 0,.slice none 0 0,.slice none 0 0] [(0,1)]),[.c (.int .i64 8)],none,false⟩,⟨1,.w (.store 7),[.v 4,.t 0],none,false⟩]
noncomputable def qd9:List SOp:=[⟨0,.p .mov,[.v 5],none,false⟩,⟨1,.r (.load true 5),[.v 3],none,false⟩,⟨2,.p .mov,[.v 1],none,false⟩,⟨3,.call 27,[.t 1,.t 0,.c (.int .i64 4)],none,false⟩,⟨4,.a (.bslice [.int .i64 0,.int .i64 0,.int .i64 0,.string ⟨#[]⟩,.slice none 0 0] [(0,5)] 1 5),[.t 0],none,false⟩,⟨5,.p (.build [.int .i64 0,.string ⟨#[]⟩,.string ⟨#[]⟩,.int .i64 0,.slice none 0 0,.slice none 0 0,.slice none 0 0] [(0,1),(1,1),(4,1)]),[.c (.int .i64 1),.t 4,.t 0],none,false⟩,⟨6,.w (.store 7),[.v 4,.t 0],none,false⟩]
noncomputable def c47:CFn:={ nargs:=3,vars:=[0,1,2,3,6,7,8,9,10,11],results:=[.cell 4 true 7],body:=(.seq (.reg c47_r0 [(3,1),(4,0)]) (.seq (.reg c47_r1 [(5,0)]) (.seq (.seq (.reg c47_r2 [(6,0)]) (.block 0 (.rcond c47_r3 [] 0 (.seq (.reg c47_r4 []) .ret) (.rcond c47_r5 [] 0 (.seq (.reg c47_r6 []) .ret) (.rcond c47_r7 [] 0 (.seq (.reg c47_r8 []) .ret) (.rcond c47_r9 [] 0 (.seq (.reg qf3 [(7,1)]) (.seq (.reg qf2 [(8,0)]) (.seq (.rcond qf1 [] 0 (.seq (.reg qf0 [(9,0)]) (.seq (.reg qe9 [(8,0)]) (.reg qe8 []))) .skip) (.seq (.reg qe7 []) (.seq (.reg qe6 []) .ret))))) (.rcond qe5 [] 0 (.seq (.reg qe4 []) .ret) (.rcond qe3 [] 0 (.seq (.reg qe2 []) .ret) (.rcond qe1 [] 0 (.seq (.reg qe0 []) .ret) .skip))))))))) (.seq (.reg qd9 []) .ret)))) }
noncomputable def ye6:List SOp:=[⟨0,.a .box,[.v 0],none,false⟩,⟨1,.a (.new [.int .i64 0]),[],none,false⟩,⟨2,.a (.new [.int .i64 0,.int .i64 0]),[],none,false⟩]
noncomputable def ye5:List SOp:=[⟨0,.r (.load true 4),[.v 1],none,false⟩,⟨1,.call 44,[.t 0],none,false⟩,⟨2,.p (.un .not),[.t 0],none,false⟩]
noncomputable def ye4:List SOp:=[⟨0,.p (.build [.int .i64 0,.int .i64 0] []),[],none,false⟩,⟨1,.w (.store 1),[.v 2,.c (.int .i64 1)],none,false⟩,⟨2,.w (.store 2),[.v 3,.t 1],none,false⟩]
noncomputable def ye3:List SOp:=[⟨0,.r (.load true 4),[.v 1],none,false⟩,⟨1,.w .mkMap,[],none,false⟩,⟨2,.p (.build [.int .i64 0,.slice none 0 0,.slice none 0 0,.slice none 0 0,.map none] [(0,4),(4,1)]),[.t 1,.t 0],none,false⟩,⟨3,.a .box,[.t 0],none,false⟩,⟨4,.a (.new [.pointer none]),[],none,false⟩,⟨5,.w (.store 1),[.t 0,.t 1],none,false⟩]
noncomputable def ye2:List SOp:=[⟨0,.r (.load false 1),[.v 4],none,false⟩,⟨1,.call 75,[.t 0],none,false⟩,⟨2,.p (.un .not),[.t 0],none,false⟩]
noncomputable def ye1:List SOp:=[⟨0,.p (.build [.int .i64 0,.int .i64 0] []),[],none,false⟩,⟨1,.w (.store 1),[.v 2,.c (.int .i64 80)],none,false⟩,⟨2,.w (.store 2),[.v 3,.t 1],none,false⟩]
noncomputable def ye0:List SOp:=[⟨0,.p (.fieldAddr 3),[.v 1],none,false⟩,⟨1,.r (.load false 1),[.t 0],none,false⟩,⟨2,.p .lenS,[.t 0],none,false⟩,⟨3,.p .mov,[.c (.int .i64 0)],none,false⟩]
noncomputable def yd9:List SOp:=[⟨0,.p (.bin .lss),[.v 14,.v 13],none,false⟩]
noncomputable def yd8:List SOp:=[⟨0,.p .mov,[.v 14],none,false⟩,⟨1,.p .mov,[.t 0],none,false⟩]
noncomputable def yd7:List SOp:=[⟨0,.r (.load false 1),[.v 4],none,false⟩,⟨1,.p .mov,[.v 5],none,false⟩,⟨2,.call 76,[.t 1,.t 0],none,false⟩,⟨3,.p .mov,[.t 0],none,false⟩]
noncomputable def za4:List SOp:=[⟨0,.p .mov,[.v 6],none,false⟩,⟨1,.p (.bin .neq),[.t 0,.c (.int .i64 0)],none,false⟩]
noncomputable def za3:List SOp:=[⟨0,.p .mov,[.v 6],none,false⟩,⟨1,.p .mov,[.v 5],none,false⟩,⟨2,.p (.build [.int .i64 0,.int .i64 0] [(0,1),(1,1)]),[.t 0,.c (.int .i64 0)],none,false⟩,⟨3,.w (.store 1),[.v 2,.t 2],none,false⟩,⟨4,.w (.store 2),[.v 3,.t 1],none,false⟩]
noncomputable def za2:List SOp:=[⟨0,.p (.bin .add),[.v 14,.c (.int .i64 1)],none,false⟩,⟨1,.p .mov,[.t 0],none,false⟩]
noncomputable def zl8:CCode:=(.seq (.reg yd9 [(15,0)]) (.seq (.cond (.v 15) .skip (.exit 0)) (.seq (.block 1 (.seq (.reg yd8 [(5,0)]) (.seq (.reg yd7 [(6,0)]) (.rcond za4 [] 0 (.seq (.reg za3 []) .ret) .skip)))) (.reg za2 [(14,0)]))))
noncomputable def za1:List SOp:=[⟨0,.p (.fieldAddr 3),[.v 1],none,false⟩,⟨1,.r (.load false 1),[.t 0],none,false⟩,⟨2,.p .lenS,[.t 0],none,false⟩,⟨3,.p .mov,[.c (.int .i64 0)],none,false⟩]
noncomputable def za0:List SOp:=[⟨0,.p (.bin .lss),[.v 18,.v 17],none,false⟩]
noncomputable def U9:List SOp:=[⟨0,.p .mov,[.v 18],none,false⟩,⟨1,.p (.idxAddrS 6),[.v 16,.v 18],none,false⟩,⟨2,.r (.load true 6),[.t 0],none,false⟩,⟨3,.a (.new [.int .i64 0]),[],none,false⟩,⟨4,.a (.new [.string ⟨#[]⟩,.bool false,.int .i64 0,.int .i64 0,.int .i64 0,.slice none 0 0]),[],none,false⟩,⟨5,.w (.store 1),[.t 1,.t 4],none,false⟩,⟨6,.w (.store 6),[.t 1,.t 3],none,false⟩]
noncomputable def U8:List SOp:=[⟨0,.a (.new [.int .i64 0]),[],none,false⟩,⟨1,.w (.store 1),[.t 0,.c (.int .i64 0)],none,false⟩]
noncomputable def U7:List SOp:=[⟨0,.p (.fieldAddr 5),[.v 8],none,false⟩,⟨1,.r (.load false 1),[.t 0],none,false⟩,⟨2,.call 77,[.t 0,.c (.slice none 0 0)],none,false⟩]
noncomputable def K8:List SOp:=[⟨0,.a (.new [.int .i64 0,.string ⟨#[]⟩,.string ⟨#[]⟩,.int .i64 0,.slice none 0 0,.slice none 0 0,.slice none 0 0]),[],none,false⟩,⟨1,.w (.store 7),[.t 0,.v 21],none,false⟩]
noncomputable def K7:List SOp:=[⟨0,.p .mov,[.v 22],none,false⟩]
noncomputable def K6:List SOp:=[⟨0,.r (.load false 1),[.v 4],none,false⟩,⟨1,.r (.load true 7),[.v 10],none,false⟩,⟨2,.p .mov,[.v 11],none,false⟩,⟨3,.call 78,[.t 2,.t 1,.t 0],none,false⟩,⟨4,.p .mov,[.t 0],none,false⟩]
noncomputable def K5:List SOp:=[⟨0,.p .mov,[.v 12],none,false⟩,⟨1,.p (.bin .neq),[.t 0,.c (.int .i64 0)],none,false⟩]
noncomputable def K4:List SOp:=[⟨0,.p .mov,[.v 12],none,false⟩,⟨4,.w (.store 1),[.v 2,.t 0],none,true⟩,⟨1,.r (.load false 1),[.v 7],none,false⟩,⟨2,.r (.load false 1),[.v 9],none,false⟩,⟨3,.p (.build [.int .i64 0,.int .i64 0] [(0,1),(1,1)]),[.t 1,.t 0],none,false⟩,⟨5,.w (.store 2),[.v 3,.t 0],none,false⟩]
noncomputable def K3:List SOp:=[⟨0,.r (.load false 1),[.v 9],none,false⟩,⟨1,.p (.bin .add),[.t 0,.c (.int .i64 1)],none,false⟩,⟨2,.w (.store 1),[.v 9,.t 0],none,false⟩]
noncomputable def qd8:CCode:=(.seq (.reg K8 [(10,1)]) (.reg K7 [(11,0)]))
noncomputable def qd7:CCode:=(.block 5 (.seq (.seq (.reg K6 [(12,0)]) (.rcond K5 [] 0 (.seq (.reg K4 []) .ret) .skip)) (.reg K3 [])))
noncomputable def U6:List SOp:=[⟨0,.p (.bin .add),[.v 18,.c (.int .i64 1)],none,false⟩,⟨1,.p .mov,[.t 0],none,false⟩]
noncomputable def zl7:CCode:=(.seq (.reg za0 [(19,0)]) (.seq (.cond (.v 19) .skip (.exit 2)) (.seq (.block 3 (.seq (.reg U9 [(7,3),(8,2)]) (.seq (.reg U8 [(9,1)]) (.seq (.reg U7 [(20,0)]) (.block 4 (.range (.v 20) [21,22] qd8 qd7)))))) (.reg U6 [(18,0)]))))
noncomputable def U5:List SOp:=[⟨0,.p (.build [.int .i64 0,.int .i64 0] []),[],none,false⟩,⟨1,.w (.store 1),[.v 2,.c (.int .i64 0)],none,false⟩,⟨2,.w (.store 2),[.v 3,.t 1],none,false⟩]
noncomputable def c48:CFn:={ nargs:=1,vars:=[0,1,2,3,4,5,6,7,8,9,10,11,12,27,28,29,41,42,43,44,50,51,52],results:=[.cell 2 false 1,.cell 3 true 2],body:=(.seq (.reg ye6 [(1,2),(2,1),(3,0)]) (.seq (.rcond ye5 [] 0 (.seq (.reg ye4 []) .ret) .skip) (.seq (.reg ye3 [(4,1)]) (.seq (.rcond ye2 [] 0 (.seq (.reg ye1 []) .ret) .skip) (.seq (.seq (.reg ye0 [(13,1),(14,0)]) (.block 0 (.loop zl8))) (.seq (.seq (.reg za1 [(16,2),(17,1),(18,0)]) (.block 2 (.loop zl7))) (.seq (.reg U5 []) .ret))))))) }
noncomputable def c49_r0:List SOp:=[⟨0,.a .box,[.v 0],none,false⟩,⟨1,.a .box,[.v 1],none,false⟩,⟨2,.p .mov,[.c (.int .i64 0)],none,false⟩]
noncomputable def c49_r1:List SOp:=[⟨0,.p (.fieldAddr 2),[.v 2],none,false⟩,⟨1,.r (.load false 1),[.t 0],none,false⟩,⟨2,.p (.mkFunc 80 0),[.v 3],none,false⟩,⟨3,.call 79,[.t 1,.t 0],none,false⟩,⟨4,.p .mov,[.t 0],none,false⟩]
noncomputable def c49:CFn:={ nargs:=2,vars:=[0,1,2,3,4],results:=[.var 4],body:=(.seq (.reg c49_r0 [(2,2),(3,1),(4,0)]) (.seq (.reg c49_r1 [(4,0)]) .ret)) }
noncomputable def qd6:List SOp:=[⟨0,.p .mov,[.c (.int .i64 0)],none,false⟩]
noncomputable def qd5:List SOp:=[⟨0,.p .mov,[.v 0],none,false⟩,⟨1,.p .lenS,[.t 0],none,false⟩,⟨2,.p .mov,[.c (.int .i64 0)],none,false⟩]
noncomputable def qd4:List SOp:=[⟨0,.p (.bin .lss),[.v 5,.v 4],none,false⟩]
noncomputable def qd3:List SOp:=[⟨0,.p .mov,[.v 5],none,false⟩,⟨1,.p .mov,[.t 0],none,false⟩]
noncomputable def qd2:List SOp:=[⟨0,.p .mov,[.v 1],none,false⟩,⟨1,.p .mov,[.v 0],none,false⟩,⟨2,.p .mov,[.v 3],none,false⟩,⟨3,.p (.idxAddrS 1),[.t 1,.t 0],none,false⟩,⟨4,.r (.load false 1),[.t 0],none,false⟩,⟨5,.callV,[.t 4,.t 0],none,false⟩]
noncomputable def qd1:List SOp:=[⟨0,.p .mov,[.v 3],none,false⟩,⟨1,.p .mov,[.t 0],none,false⟩]
noncomputable def qd0:List SOp:=[⟨0,.p (.bin .add),[.v 5,.c (.int .i64 1)],none,false⟩,⟨1,.p .mov,[.t 0],none,false⟩]
noncomputable def c51_l7:CCode:=(.seq (.reg qd4 [(6,0)]) (.seq (.cond (.v 6) .skip (.exit 0)) (.seq (.block 1 (.seq (.reg qd3 [(3,0)]) (.rcond qd2 [] 0 (.seq (.reg qd1 [(2,0)]) .ret) .skip))) (.reg qd0 [(5,0)]))))
noncomputable def qc9:List SOp:=[⟨0,.p .mov,[.c (.int .i64 (-1))],none,false⟩]
noncomputable def c51:CFn:={ nargs:=2,vars:=[0,1,4,5,7,8,9],results:=[.var 2],body:=(.seq (.reg qd6 [(2,0)]) (.seq (.seq (.reg qd5 [(4,1),(5,0)]) (.block 0 (.loop c51_l7))) (.seq (.reg qc9 [(2,0)]) .ret))) }
noncomputable def yd6:List SOp:=[⟨0,.p .mov,[.c (.int .i64 20)],none,false⟩]
noncomputable def yd5:List SOp:=[⟨0,.p .mov,[.v 3],none,false⟩,⟨1,.p .mov,[.c (.int .i64 0)],none,false⟩,⟨2,.p .mov,[.t 1],none,false⟩]
noncomputable def yd4:List SOp:=[⟨0,.p .mov,[.v 5],none,false⟩,⟨1,.p .mov,[.v 1],none,false⟩,⟨2,.p (.bin .leq),[.t 1,.t 0],none,false⟩]
noncomputable def yd3:List SOp:=[⟨0,.p .mov,[.v 0],none,false⟩,⟨1,.p .mov,[.v 4],none,false⟩,⟨2,.p .mov,[.v 5],none,false⟩,⟨3,.p .mov,[.v 2],none,false⟩,⟨4,.call 85,[.t 3,.t 2,.t 1,.t 0],none,false⟩]
noncomputable def yd2:List SOp:=[⟨0,.p .mov,[.v 5],none,false⟩,⟨1,.p .mov,[.t 0],none,false⟩]
noncomputable def yd1:List SOp:=[⟨0,.p .mov,[.v 5],none,false⟩,⟨1,.p .mov,[.v 3],none,false⟩,⟨2,.p (.bin .add),[.t 1,.t 0],none,false⟩,⟨3,.p .mov,[.t 0],none,false⟩]
noncomputable def c52_l6:CCode:=(.seq (.rcond yd4 [] 0 .skip (.exit 0)) (.block 1 (.seq (.reg yd3 []) (.seq (.reg yd2 [(4,0)]) (.reg yd1 [(5,0)])))))
noncomputable def yd0:List SOp:=[⟨0,.p .mov,[.v 0],none,false⟩,⟨1,.p .mov,[.v 4],none,false⟩,⟨2,.p .mov,[.v 1],none,false⟩,⟨3,.p .mov,[.v 2],none,false⟩,⟨4,.call 85,[.t 3,.t 2,.t 1,.t 0],none,false⟩]
noncomputable def yc9:List SOp:=[⟨0,.p .mov,[.v 3],none,false⟩,⟨1,.p .mov,[.v 1],none,false⟩,⟨2,.p (.bin .lss),[.t 1,.t 0],none,false⟩]
noncomputable def yc8:List SOp:=[⟨0,.p .mov,[.v 3],none,false⟩,⟨1,.p (.bin .mul),[.c (.int .i64 2),.t 0],none,false⟩,⟨2,.p .mov,[.c (.int .i64 0)],none,false⟩,⟨3,.p .mov,[.t 1],none,false⟩]
noncomputable def U4:List SOp:=[⟨0,.p .mov,[.v 5],none,false⟩,⟨1,.p .mov,[.v 1],none,false⟩,⟨2,.p (.bin .leq),[.t 1,.t 0],none,false⟩]
noncomputable def U3:List SOp:=[⟨0,.p .mov,[.v 0],none,false⟩,⟨1,.p .mov,[.v 4],none,false⟩,⟨2,.p .mov,[.v 4],none,false⟩,⟨3,.p .mov,[.v 3],none,false⟩,⟨4,.p (.bin .add),[.t 1,.t 0],none,false⟩,⟨5,.p .mov,[.v 5],none,false⟩,⟨6,.p .mov,[.v 2],none,false⟩,⟨7,.call 86,[.t 6,.t 5,.t 2,.t 1,.t 0],none,false⟩]
noncomputable def U2:List SOp:=[⟨0,.p .mov,[.v 5],none,false⟩,⟨1,.p .mov,[.t 0],none,false⟩]
noncomputable def U1:List SOp:=[⟨0,.p .mov,[.v 5],none,false⟩,⟨1,.p .mov,[.v 3],none,false⟩,⟨2,.p (.bin .mul),[.c (.int .i64 2),.t 0],none,false⟩,⟨3,.p (.bin .add),[.t 2,.t 0],none,false⟩,⟨4,.p .mov,[.t 0],none,false⟩]
noncomputable def c52_l14:CCode:=(.seq (.rcond U4 [] 0 .skip (.exit 4)) (.block 5 (.seq (.reg U3 []) (.seq (.reg U2 [(4,0)]) (.reg U1 [(5,0)])))))
noncomputable def U0:List SOp:=[⟨0,.p .mov,[.v 4],none,false⟩,⟨1,.p .mov,[.v 3],none,false⟩,⟨2,.p (.bin .add),[.t 1,.t 0],none,false⟩,⟨3,.p .mov,[.t 0],none,false⟩]
noncomputable def Uz:List SOp:=[⟨0,.p .mov,[.v 6],none,false⟩,⟨1,.p .mov,[.v 1],none,false⟩,⟨2,.p (.bin .lss),[.t 1,.t 0],none,false⟩]
noncomputable def Uy:List SOp:=[⟨0,.p .mov,[.v 0],none,false⟩,⟨1,.p .mov,[.v 4],none,false⟩,⟨2,.p .mov,[.v 6],none,false⟩,⟨3,.p .mov,[.v 1],none,false⟩,⟨4,.p .mov,[.v 2],none,false⟩,⟨5,.call 86,[.t 4,.t 3,.t 2,.t 1,.t 0],none,false⟩]
noncomputable def Ux:List SOp:=[⟨0,.p .mov,[.v 3],none,false⟩,⟨1,.p (.bin .mul),[.t 0,.c (.int .i64 2)],none,false⟩,⟨2,.p .mov,[.t 0],none,false⟩]
noncomputable def qc8:CCode:=(.seq (.rcond yc9 [] 0 .skip (.exit 2)) (.block 3 (.seq (.reg yc8 [(4,1),(5,0)]) (.seq (.block 4 (.loop c52_l14)) (.seq (.seq (.reg U0 [(6,0)]) (.rcond Uz [] 0 (.reg Uy []) .skip)) (.reg Ux [(3,0)]))))))
noncomputable def c52:CFn:={ nargs:=3,vars:=[0,1,2,6,7,8,9],results:=[],body:=(.seq (.reg yd6 [(3,0)]) (.seq (.reg yd5 [(4,1),(5,0)]) (.seq (.block 0 (.loop c52_l6)) (.seq (.reg yd0 []) (.block 2 (.loop qc8)))))) }
noncomputable def c65_r0:List SOp:=[⟨0,.a .box,[.v 0],none,false⟩,⟨1,.p .mov,[.c (.bool false)],none,false⟩]
noncomputable def c65_r1:List SOp:=[⟨0,.p (.fieldAddr 0),[.v 1],none,false⟩,⟨1,.r (.load false 1),[.t 0],none,false⟩,⟨2,.call 66,[.t 0],none,false⟩,⟨3,.p (.un .not),[.t 0],none,false⟩,⟨4,.p .mov,[.t 0],none,false⟩,⟨5,.p (.fieldAddr 1),[.v 1],some (0,false),false⟩,⟨6,.r (.load false 1),[.t 0],some (1,false),false⟩,⟨7,.call 67,[.t 0,.c (.int .i64 1),.c (.int .i64 3)],some (2,false),false⟩,⟨8,.p (.un .not),[.t 0],some (3,false),false⟩,⟨9,.p .pick,[.t 4,.c (.bool true),.t 0],none,false⟩,⟨10,.p .mov,[.t 0],none,false⟩]
noncomputable def c65:CFn:={ nargs:=1,vars:=[0,1,2],results:=[.var 2],body:=(.seq (.reg c65_r0 [(1,1),(2,0)]) (.seq (.reg c65_r1 [(2,0)]) .ret)) }
noncomputable def c66_r0:List SOp:=[⟨0,.p .mov,[.c (.bool false)],none,false⟩]
noncomputable def c66_r1:List SOp:=[⟨0,.p .mov,[.v 0],none,false⟩,⟨1,.p (.bin .neq),[.t 0,.c (.string ⟨#[]⟩)],none,false⟩,⟨2,.p .mov,[.t 0],none,false⟩,⟨3,.p .mov,[.v 0],some (0,true),false⟩,⟨4,.p .lenStr,[.t 0],some (1,true),false⟩,⟨5,.p (.bin .leq),[.t 0,.c (.int .i64 20)],some (2,true),false⟩,⟨6,.p .pick,[.t 3,.t 0,.c (.bool false)],none,false⟩,⟨7,.p .mov,[.t 0],none,false⟩,⟨8,.p .mov,[.v 0],some (0,true),false⟩,⟨9,.call 99,[.t 0],some (1,true),false⟩,⟨10,.p .mov,[.v 0],some (2,true),false⟩,⟨11,.p .lenStr,[.t 0],some (3,true),false⟩,⟨12,.p (.bin .eql),[.t 2,.t 0],some (4,true),false⟩,⟨13,.p .pick,[.t 5,.t 0,.c (.bool false)],none,false⟩,⟨14,.p .mov,[.t 0],none,false⟩,⟨15,.p .mov,[.v 0],some (0,true),false⟩,⟨16,.p .idxStr,[.t 0,.c (.int .i64 0)],some (1,true),false⟩,⟨17,.p (.bin .gtr),[.t 0,.c (.int .u8 57)],some (2,true),false⟩,⟨18,.p .pick,[.t 3,.t 0,.c (.bool false)],none,false⟩,⟨19,.p .mov,[.t 0],none,false⟩,⟨20,.p .mov,[.v 0],some (0,true),false⟩,⟨21,.call 106,[.t 0],some (1,true),false⟩,⟨22,.p (.un .not),[.t 0],some (2,true),false⟩,⟨23,.p .pick,[.t 3,.t 0,.c (.bool false)],none,false⟩,⟨24,.p .mov,[.t 0],none,false⟩]
noncomputable def c66:CFn:={ nargs:=1,vars:=[0,2],results:=[.var 1],body:=(.seq (.reg c66_r0 [(1,0)]) (.seq (.reg c66_r1 [(1,0)]) .ret)) }
noncomputable def c67_r0:List SOp:=[⟨0,.p .mov,[.c (.bool false)],none,false⟩]
noncomputable def c67_r1:List SOp:=[⟨0,.p .mov,[.v 0],none,false⟩,⟨1,.p .mov,[.v 1],none,false⟩,⟨2,.p (.bin .geq),[.t 1,.t 0],none,false⟩,⟨3,.p .mov,[.t 0],none,false⟩,⟨4,.p .mov,[.v 0],some (0,true),false⟩,⟨5,.p .mov,[.v 2],some (1,true),false⟩,⟨6,.p (.bin .leq),[.t 1,.t 0],some (2,true),false⟩,⟨7,.p .pick,[.t 3,.t 0,.c (.bool false)],none,false⟩,⟨8,.p .mov,[.t 0],none,false⟩]
noncomputable def c67:CFn:={ nargs:=3,vars:=[0,1,2,6],results:=[.var 3],body:=(.seq (.reg c67_r0 [(3,0)]) (.seq (.reg c67_r1 [(3,0)]) .ret)) }
noncomputable def c68_r0:List SOp:=[⟨0,.a .box,[.v 0],none,false⟩,⟨1,.p .mov,[.c (.bool false)],none,false⟩]
noncomputable def c68_r1:List SOp:=[⟨0,.p (.fieldAddr 0),[.v 1],none,false⟩,⟨1,.r (.load false 1),[.t 0],none,false⟩,⟨2,.call 66,[.t 0],none,false⟩,⟨3,.p (.un .not),[.t 0],none,false⟩,⟨4,.p .mov,[.t 0],none,false⟩,⟨5,.p (.fieldAddr 1),[.v 1],some (0,false),false⟩,⟨6,.r (.load false 1),[.t 0],some (1,false),false⟩,⟨7,.call 67,[.t 0,.c (.int .i64 1),.c (.int .i64 8)],some (2,false),false⟩,⟨8,.p (.un .not),[.t 0],some (3,false),false⟩,⟨9,.p .pick,[.t 4,.c (.bool true),.t 0],none,false⟩,⟨10,.p .mov,[.t 0],none,false⟩]
noncomputable def c68:CFn:={ nargs:=1,vars:=[0,1,2],results:=[.var 2],body:=(.seq (.reg c68_r0 [(1,1),(2,0)]) (.seq (.reg c68_r1 [(2,0)]) .ret)) }
noncomputable def c69_r0:List SOp:=[⟨0,.a .box,[.v 0],none,false⟩,⟨1,.p .mov,[.c (.bool false)],none,false⟩]
noncomputable def c69_r1:List SOp:=[⟨0,.r (.load true 6),[.v 1],none,false⟩,⟨1,.call 70,[.t 0],none,false⟩,⟨2,.p (.un .not),[.t 0],none,false⟩,⟨3,.p .mov,[.t 0],none,false⟩]
noncomputable def c69:CFn:={ nargs:=1,vars:=[0,1,2],results:=[.var 2],body:=(.seq (.reg c69_r0 [(1,1),(2,0)]) (.seq (.reg c69_r1 [(2,0)]) .ret)) }
noncomputable def c70_r0:List SOp:=[⟨0,.a .box,[.v 0],none,false⟩,⟨1,.p .mov,[.c (.bool false)],none,false⟩]
noncomputable def c70_r1:List SOp:=[⟨0,.p .mov,[.c (.int .i64 0)],none,false⟩]
noncomputable def c70_r2:List SOp:=[⟨0,.p (.fieldAddr 1),[.v 1],none,false⟩,⟨1,.r (.load false 1),[.t 0],none,false⟩]
noncomputable def c70_r3:List SOp:=[⟨0,.p .mov,[.c (.int .i64 7)],none,false⟩]
noncomputable def c70_r4:List SOp:=[⟨0,.p (.fieldAddr 0),[.v 1],none,false⟩,⟨1,.r (.load false 1),[.t 0],none,false⟩,⟨2,.call 66,[.t 0],none,false⟩,⟨3,.p .mov,[.t 0],none,false⟩,⟨4,.p (.fieldAddr 2),[.v 1],some (0,true),false⟩,⟨5,.r (.load false 1),[.t 0],some (1,true),false⟩,⟨6,.call 67,[.t 0,.c (.int .i64 0),.c (.int .i64 3)],some (2,true),false⟩,⟨7,.p .pick,[.t 3,.t 0,.c (.bool false)],none,false⟩,⟨8,.p .mov,[.t 0],none,false⟩,⟨9,.p (.fieldAddr 3),[.v 1],some (0,true),false⟩,⟨10,.r (.load false 1),[.t 0],some (1,true),false⟩,⟨11,.call 67,[.t 0,.c (.int .i64 1),.c (.int .i64 7)],some (2,true),false⟩,⟨12,.p .pick,[.t 3,.t 0,.c (.bool false)],none,false⟩,⟨13,.p .mov,[.t 0],none,false⟩,⟨14,.p (.fieldAddr 4),[.v 1],some (0,true),false⟩,⟨15,.r (.load false 1),[.t 0],some (1,true),false⟩,⟨16,.p .mov,[.v 3],some (2,true),false⟩,⟨17,.call 67,[.t 1,.c (.int .i64 0),.t 0],some (3,true),false⟩,⟨18,.p .pick,[.t 4,.t 0,.c (.bool false)],none,false⟩,⟨19,.p .mov,[.t 0],none,false⟩,⟨20,.p (.fieldAddr 5),[.v 1],some (0,true),false⟩,⟨21,.r (.load false 1),[.t 0],some (1,true),false⟩,⟨22,.call 107,[.t 0,.c (.int .i64 30)],some (2,true),false⟩,⟨23,.p .pick,[.t 3,.t 0,.c (.bool false)],none,false⟩,⟨24,.p .mov,[.t 0],none,false⟩]
noncomputable def c70:CFn:={ nargs:=1,vars:=[0,1,2,3],results:=[.var 2],body:=(.seq (.reg c70_r0 [(1,1),(2,0)]) (.seq (.reg c70_r1 [(3,0)]) (.seq (.rcond c70_r2 [] 0 (.reg c70_r3 [(3,0)]) .skip) (.seq (.reg c70_r4 [(2,0)]) .ret)))) }
noncomputable def c71_r0:List SOp:=[⟨0,.p .mov,[.c (.bool false)],none,false⟩]
noncomputable def c71_r1:List SOp:=[⟨0,.p .mov,[.v 0],none,false⟩,⟨1,.p .mov,[.v 1],none,false⟩,⟨2,.call 108,[.t 1,.t 0],none,false⟩,⟨3,.p (.bin .geq),[.t 0,.c (.int .i64 0)],none,false⟩,⟨4,.p .mov,[.t 0],none,false⟩]
noncomputable def c71:CFn:={ nargs:=2,vars:=[0,1,4],results:=[.var 2],body:=(.seq (.reg c71_r0 [(2,0)]) (.seq (.reg c71_r1 [(2,0)]) .ret)) }
noncomputable def c72_r0:List SOp:=[⟨0,.p .mov,[.c (.bool false)],none,false⟩]
noncomputable def c72_r1:List SOp:=[⟨0,.p .mov,[.v 0],none,false⟩,⟨1,.p .mov,[.v 1],none,false⟩,⟨2,.call 79,[.t 1,.t 0],none,false⟩,⟨3,.p (.bin .geq),[.t 0,.c (.int .i64 0)],none,false⟩,⟨4,.p .mov,[.t 0],none,false⟩]
noncomputable def c72:CFn:={ nargs:=2,vars:=[0,1,4],results:=[.var 2],body:=(.seq (.reg c72_r0 [(2,0)]) (.seq (.reg c72_r1 [(2,0)]) .ret)) }
noncomputable def c73_r0:List SOp:=[⟨0,.p .mov,[.c (.bool false)],none,false⟩]
noncomputable def c73_r1:List SOp:=[⟨0,.p .mov,[.v 0],none,false⟩,⟨1,.p .mov,[.v 1],none,false⟩,⟨2,.call 109,[.t 1,.t 0],none,false⟩,⟨3,.p (.bin .geq),[.t 0,.c (.int .i64 0)],none,false⟩,⟨4,.p .mov,[.t 0],none,false⟩]
noncomputable def c73:CFn:={ nargs:=2,vars:=[0,1,4],results:=[.var 2],body:=(.seq (.reg c73_r0 [(2,0)]) (.seq (.reg c73_r1 [(2,0)]) .ret)) }
noncomputable def c74_r0:List SOp:=[⟨0,.p .mov,[.c (.string ⟨#[]⟩)],none,false⟩]
noncomputable def c74_r1:List SOp:=[⟨0,.p .mov,[.v 0],none,false⟩,⟨1,.call 110,[.t 0,.c (.int .i64 300)],none,false⟩,⟨2,.p .mov,[.t 0],none,false⟩]
noncomputable def c74_r2:List SOp:=[⟨0,.a (.bslice [.string ⟨#[]⟩,.string ⟨#[]⟩,.string ⟨#[]⟩,.string ⟨#[]⟩,.string ⟨#[]⟩,.string ⟨#[]⟩,.string ⟨#[]⟩,.string ⟨#[]⟩,.string ⟨#[]⟩,.string ⟨#[]⟩] [(0,1),(1,1),(2,1),(3,1),(4,1),(5,1),(6,1),(7,1),(8,1),(9,1)] 10 1),[.c (.string ⟨#[120]⟩),.c (.string ⟨#[121]⟩),.c (.string ⟨#[110]⟩),.c (.string ⟨#[95,97]⟩),.c (.string ⟨#[66,50]⟩),.c (.string ⟨#[105,102,115]⟩),.c (.string ⟨#[104,97,114,116]⟩),.c (.string ⟨#[108,111,99,107,49]⟩),.c (.string ⟨#[88,95,121,95,90]⟩),.c (.string ⟨#[72,97,108,116]⟩)],none,false⟩,⟨1,.p .mov,[.v 2],none,false⟩,⟨2,.p (.bin .rem),[.t 0,.c (.int .i64 10)],none,false⟩,⟨3,.p (.idxAddrS 1),[.t 2,.t 0],none,false⟩,⟨4,.r (.load false 1),[.t 0],none,false⟩,⟨5,.p .mov,[.t 0],none,false⟩]
noncomputable def c74_r3:List SOp:=[⟨0,.p .mov,[.v 2],none,false⟩,⟨1,.p (.bin .geq),[.t 0,.c (.int .i64 10)],none,false⟩]
noncomputable def c74_r4:List SOp:=[⟨0,.p .mov,[.v 3],none,false⟩,⟨1,.p .mov,[.v 2],none,false⟩,⟨2,.call 111,[.t 0],none,false⟩,⟨3,.p (.bin .add),[.t 2,.t 0],none,false⟩,⟨4,.p .mov,[.t 0],none,false⟩]
noncomputable def c74_r5:List SOp:=[⟨0,.p .mov,[.v 3],none,false⟩,⟨1,.p .mov,[.t 0],none,false⟩]
noncomputable def c74:CFn:={ nargs:=1,vars:=[0,2,3,4],results:=[.var 1],body:=(.seq (.reg c74_r0 [(1,0)]) (.seq (.reg c74_r1 [(2,0)]) (.seq (.reg c74_r2 [(3,0)]) (.seq (.rcond c74_r3 [] 0 (.reg c74_r4 [(3,0)]) .skip) (.seq (.reg c74_r5 [(1,0)]) .ret))))) }
noncomputable def zh2:List SOp:=[⟨0,.p .mov,[.c (.bool false)],none,false⟩]
noncomputable def zh1:List SOp:=[⟨0,.p .mov,[.v 0],none,false⟩,⟨1,.p .nilCheck,[.t 0],none,false⟩,⟨2,.p (.fieldAddr 0),[.t 0],none,false⟩,⟨3,.p (.fieldAddr 1),[.t 0],none,false⟩,⟨4,.r (.load false 1),[.t 0],none,false⟩,⟨5,.p .lenS,[.t 0],none,false⟩,⟨6,.p .mov,[.c (.int .i64 0)],none,false⟩]
noncomputable def zh0:List SOp:=[⟨0,.p (.bin .lss),[.v 7,.v 6],none,false⟩]
noncomputable def zg9:List SOp:=[⟨0,.p (.idxAddrS 2),[.v 5,.v 7],none,false⟩,⟨1,.r (.load true 2),[.t 0],none,false⟩,⟨2,.a (.new [.string ⟨#[]⟩,.int .i64 0]),[],none,false⟩,⟨3,.w (.store 2),[.t 0,.t 1],none,false⟩]
noncomputable def zg8:List SOp:=[⟨0,.p .mov,[.v 0],none,false⟩,⟨1,.p .nilCheck,[.t 0],none,false⟩,⟨2,.p (.fieldAddr 4),[.t 0],none,false⟩,⟨3,.r (.load false 1),[.t 0],none,false⟩,⟨4,.p (.fieldAddr 0),[.v 2],none,false⟩,⟨5,.r (.load false 1),[.t 0],none,false⟩,⟨6,.r (.lookup (z7 Tryz.prog 9) (.int .i64 0) false),[.t 2,.t 0],none,false⟩,⟨7,.p (.bin .add),[.t 0,.c (.int .i64 1)],none,false⟩,⟨8,.w (.mapSet (z7 Tryz.prog 9)),[.t 4,.t 2,.t 0],none,false⟩]
noncomputable def zg7:List SOp:=[⟨0,.p (.bin .add),[.v 7,.c (.int .i64 1)],none,false⟩,⟨1,.p .mov,[.t 0],none,false⟩]
noncomputable def qc7:CCode:=(.seq (.reg zh0 [(8,0)]) (.seq (.cond (.v 8) .skip (.exit 0)) (.seq (.block 1 (.seq (.reg zg9 [(2,1)]) (.reg zg8 []))) (.reg zg7 [(7,0)]))))
noncomputable def zg6:List SOp:=[⟨0,.p .mov,[.v 0],none,false⟩,⟨1,.p .nilCheck,[.t 0],none,false⟩,⟨2,.p (.fieldAddr 0),[.t 0],none,false⟩,⟨3,.p (.fieldAddr 2),[.t 0],none,false⟩,⟨4,.r (.load false 1),[.t 0],none,false⟩,⟨5,.p .lenS,[.t 0],none,false⟩,⟨6,.p .mov,[.c (.int .i64 0)],none,false⟩]
noncomputable def zg5:List SOp:=[⟨0,.p (.bin .lss),[.v 11,.v 10],none,false⟩]
noncomputable def zg4:List SOp:=[⟨0,.p (.idxAddrS 2),[.v 9,.v 11],none,false⟩,⟨1,.r (.load true 2),[.t 0],none,false⟩,⟨2,.a (.new [.string ⟨#[]⟩,.int .i64 0]),[],none,false⟩,⟨3,.w (.store 2),[.t 0,.t 1],none,false⟩]
noncomputable def K2:List SOp:=[⟨0,.p .mov,[.v 0],none,false⟩,⟨1,.p .nilCheck,[.t 0],none,false⟩,⟨2,.p (.fieldAddr 4),[.t 0],none,false⟩,⟨3,.r (.load false 1),[.t 0],none,false⟩,⟨4,.p (.fieldAddr 0),[.v 3],none,false⟩,⟨5,.r (.load false 1),[.t 0],none,false⟩,⟨6,.r (.lookup (z7 Tryz.prog 9) (.int .i64 0) false),[.t 2,.t 0],none,false⟩,⟨7,.p (.bin .add),[.t 0,.c (.int .i64 1)],none,false⟩,⟨8,.w (.mapSet (z7 Tryz.prog 9)),[.t 4,.t 2,.t 0],none,false⟩]
noncomputable def K1:List SOp:=[⟨0,.p (.bin .add),[.v 11,.c (.int .i64 1)],none,false⟩,⟨1,.p .mov,[.t 0],none,false⟩]
noncomputable def zl6:CCode:=(.seq (.reg zg5 [(12,0)]) (.seq (.cond (.v 12) .skip (.exit 2)) (.seq (.block 3 (.seq (.reg zg4 [(3,1)]) (.reg K2 []))) (.reg K1 [(11,0)]))))
noncomputable def K0:List SOp:=[⟨0,.p .mov,[.v 0],none,false⟩,⟨1,.p .nilCheck,[.t 0],none,false⟩,⟨2,.p (.fieldAddr 0),[.t 0],none,false⟩,⟨3,.p (.fieldAddr 3),[.t 0],none,false⟩,⟨4,.r (.load false 1),[.t 0],none,false⟩,⟨5,.p .lenS,[.t 0],none,false⟩,⟨6,.p .mov,[.c (.int .i64 0)],none,false⟩]
noncomputable def Kz:List SOp:=[⟨0,.p (.bin .lss),[.v 15,.v 14],none,false⟩]
noncomputable def Ky:List SOp:=[⟨0,.p (.idxAddrS 6),[.v 13,.v 15],none,false⟩,⟨1,.r (.load true 6),[.t 0],none,false⟩,⟨2,.a (.new [.string ⟨#[]⟩,.bool false,.int .i64 0,.int .i64 0,.int .i64 0,.slice none 0 0]),[],none,false⟩,⟨3,.w (.store 6),[.t 0,.t 1],none,false⟩]
noncomputable def Kx:List SOp:=[⟨0,.p .mov,[.v 0],none,false⟩,⟨1,.p .nilCheck,[.t 0],none,false⟩,⟨2,.p (.fieldAddr 4),[.t 0],none,false⟩,⟨3,.r (.load false 1),[.t 0],none,false⟩,⟨4,.p (.fieldAddr 0),[.v 4],none,false⟩,⟨5,.r (.load false 1),[.t 0],none,false⟩,⟨6,.r (.lookup (z7 Tryz.prog 9) (.int .i64 0) false),[.t 2,.t 0],none,false⟩,⟨7,.p (.bin .add),[.t 0,.c (.int .i64 1)],none,false⟩,⟨8,.w (.mapSet (z7 Tryz.prog 9)),[.t 4,.t 2,.t 0],none,false⟩]
noncomputable def Kw:List SOp:=[⟨0,.p (.bin .add),[.v 15,.c (.int .i64 1)],none,false⟩,⟨1,.p .mov,[.t 0],none,false⟩]
noncomputable def zl5:CCode:=(.seq (.reg Kz [(16,0)]) (.seq (.cond (.v 16) .skip (.exit 4)) (.seq (.block 5 (.seq (.reg Ky [(4,1)]) (.reg Kx []))) (.reg Kw [(15,0)]))))
noncomputable def Kv:List SOp:=[⟨0,.p .mov,[.v 0],none,false⟩,⟨1,.p .nilCheck,[.t 0],none,false⟩,⟨2,.p (.fieldAddr 4),[.t 0],none,false⟩,⟨3,.r (.load false 1),[.t 0],none,false⟩,⟨4,.r .lenMap,[.t 0],none,false⟩,⟨5,.p .mov,[.v 0],none,false⟩,⟨6,.p .nilCheck,[.t 0],none,false⟩,⟨7,.p (.fieldAddr 0),[.t 0],none,false⟩,⟨8,.p (.fieldAddr 1),[.t 0],none,false⟩,⟨9,.r (.load false 1),[.t 0],none,false⟩,⟨10,.p .lenS,[.t 0],none,false⟩,⟨11,.p .mov,[.v 0],none,false⟩,⟨12,.p .nilCheck,[.t 0],none,false⟩,⟨13,.p (.fieldAddr 0),[.t 0],none,false⟩,⟨14,.p (.fieldAddr 2),[.t 0],none,false⟩,⟨15,.r (.load false 1),[.t 0],none,false⟩,⟨16,.p .lenS,[.t 0],none,false⟩,⟨17,.p (.bin .add),[.t 6,.t 0],none,false⟩,⟨18,.p .mov,[.v 0],none,false⟩,⟨19,.p .nilCheck,[.t 0],none,false⟩,⟨20,.p (.fieldAddr 0),[.t 0],none,false⟩,⟨21,.p (.fieldAddr 3),[.t 0],none,false⟩,⟨22,.r (.load false 1),[.t 0],none,false⟩,⟨23,.p .lenS,[.t 0],none,false⟩,⟨24,.p (.bin .add),[.t 6,.t 0],none,false⟩,⟨25,.p (.bin .eql),[.t 20,.t 0],none,false⟩,⟨26,.p .mov,[.t 0],none,false⟩]
noncomputable def c75:CFn:={ nargs:=1,vars:=[0,2,4,6,8,13,14,15,16,32,33,34,35,51,52,53,54],results:=[.var 1],body:=(.seq (.reg zh2 [(1,0)]) (.seq (.seq (.reg zh1 [(5,2),(6,1),(7,0)]) (.block 0 (.loop qc7))) (.seq (.seq (.reg zg6 [(9,2),(10,1),(11,0)]) (.block 2 (.loop zl6))) (.seq (.seq (.reg K0 [(13,2),(14,1),(15,0)]) (.block 4 (.loop zl5))) (.seq (.reg Kv [(1,0)]) .ret))))) }
noncomputable def c76_r0:List SOp:=[⟨0,.p .mov,[.c (.int .i64 0)],none,false⟩]
noncomputable def c76_r1:List SOp:=[⟨0,.p .mov,[.v 0],none,false⟩,⟨1,.p .nilCheck,[.t 0],none,false⟩,⟨2,.p (.fieldAddr 0),[.t 0],none,false⟩,⟨3,.p (.fieldAddr 3),[.t 0],none,false⟩,⟨4,.r (.load false 1),[.t 0],none,false⟩,⟨5,.p .mov,[.v 1],none,false⟩,⟨6,.p (.idxAddrS 6),[.t 1,.t 0],none,false⟩,⟨7,.r (.load true 6),[.t 0],none,false⟩,⟨8,.a (.new [.string ⟨#[]⟩,.bool false,.int .i64 0,.int .i64 0,.int .i64 0,.slice none 0 0]),[],none,false⟩,⟨9,.w (.store 6),[.t 0,.t 1],none,false⟩]
noncomputable def c76_r2:List SOp:=[⟨0,.p .mov,[.v 0],none,false⟩,⟨1,.p .nilCheck,[.t 0],none,false⟩,⟨2,.p (.fieldAddr 0),[.t 0],none,false⟩,⟨3,.p (.fieldAddr 3),[.t 0],none,false⟩,⟨4,.r (.load false 1),[.t 0],none,false⟩,⟨5,.p .mov,[.v 1],none,false⟩,⟨6,.p (.sliceS 6 false true),[.t 1,.t 0],none,false⟩,⟨7,.p .mov,[.t 0],none,false⟩]
noncomputable def c76_r3:List SOp:=[⟨0,.p (.fieldAddr 2),[.v 3],none,false⟩,⟨1,.r (.load false 1),[.t 0],none,false⟩,⟨2,.p .mov,[.v 0],none,false⟩,⟨3,.p .nilCheck,[.t 0],none,false⟩,⟨4,.p (.fieldAddr 0),[.t 0],none,false⟩,⟨5,.p (.fieldAddr 0),[.t 0],none,false⟩,⟨6,.r (.load false 1),[.t 0],none,false⟩,⟨7,.p (.bin .geq),[.t 5,.t 0],none,false⟩,⟨8,.p .mov,[.t 0],none,false⟩]
noncomputable def c76_r4:List SOp:=[⟨0,.p (.fieldAddr 1),[.v 3],none,false⟩,⟨1,.r (.load false 1),[.t 0],none,false⟩,⟨2,.p (.un .not),[.t 0],none,false⟩,⟨3,.p .mov,[.t 0],none,false⟩,⟨4,.p .mov,[.v 4],some (0,true),false⟩,⟨5,.p (.mkFunc 112 0),[.v 3],some (1,true),false⟩,⟨6,.call 73,[.t 1,.t 0],some (2,true),false⟩,⟨7,.p .pick,[.t 3,.t 0,.c (.bool false)],none,false⟩,⟨8,.p .mov,[.t 0],none,false⟩]
noncomputable def c76_r5:List SOp:=[⟨0,.p .mov,[.c (.int .i64 81)],none,false⟩]
noncomputable def c76_r6:List SOp:=[⟨0,.p (.fieldAddr 1),[.v 3],none,false⟩,⟨1,.r (.load false 1),[.t 0],none,false⟩,⟨2,.p (.un .not),[.t 0],none,false⟩,⟨3,.p .mov,[.t 0],none,false⟩]
noncomputable def c76_r7:List SOp:=[⟨0,.p .mov,[.c (.int .i64 0)],none,false⟩]
noncomputable def c76_r8:List SOp:=[⟨0,.p .mov,[.v 4],none,false⟩,⟨1,.p (.mkFunc 113 0),[.v 3],none,false⟩,⟨2,.call 73,[.t 1,.t 0],none,false⟩,⟨3,.p .mov,[.t 0],none,false⟩]
noncomputable def c76_r9:List SOp:=[⟨0,.p .mov,[.c (.int .i64 82)],none,false⟩]
noncomputable def qc6:List SOp:=[⟨0,.p .mov,[.v 0],none,false⟩,⟨1,.p .nilCheck,[.t 0],none,false⟩,⟨2,.p (.fieldAddr 0),[.t 0],none,false⟩,⟨3,.p (.fieldAddr 3),[.t 0],none,false⟩,⟨4,.r (.load false 1),[.t 0],none,false⟩,⟨5,.p (.mkFunc 114 0),[.v 3],none,false⟩,⟨6,.call 73,[.t 1,.t 0],none,false⟩,⟨7,.p .mov,[.t 0],none,false⟩]
noncomputable def qc5:List SOp:=[⟨0,.p .mov,[.c (.int .i64 83)],none,false⟩]
noncomputable def qc4:List SOp:=[⟨0,.p .mov,[.c (.int .i64 0)],none,false⟩]
noncomputable def c76:CFn:={ nargs:=2,vars:=[0,1,4,5,6,22],results:=[.var 2],body:=(.seq (.reg c76_r0 [(2,0)]) (.seq (.reg c76_r1 [(3,1)]) (.seq (.reg c76_r2 [(4,0)]) (.seq (.block 0 (.seq (.rcond c76_r3 [(5,0)] 0 .skip (.reg c76_r4 [(5,0)])) (.cond (.v 5) (.seq (.reg c76_r5 [(2,0)]) .ret) (.rcond c76_r6 [] 0 (.seq (.reg c76_r7 [(2,0)]) .ret) (.rcond c76_r8 [] 0 (.seq (.reg c76_r9 [(2,0)]) .ret) (.rcond qc6 [] 0 (.seq (.reg qc5 [(2,0)]) .ret) .skip)))))) (.seq (.reg qc4 [(2,0)]) .ret))))) }
noncomputable def c77_r0:List SOp:=[⟨0,.a .box,[.v 0],none,false⟩,⟨1,.a .box,[.v 1],none,false⟩,⟨2,.p .mov,[.c (.nilFunc)],none,false⟩]
noncomputable def c77_r1:List SOp:=[⟨0,.p (.mkFunc 115 0),[.v 2,.v 3],none,false⟩,⟨1,.p .mov,[.t 0],none,false⟩]
noncomputable def c77:CFn:={ nargs:=2,vars:=[0,1,2,3,4],results:=[.var 4],body:=(.seq (.reg c77_r0 [(2,2),(3,1),(4,0)]) (.seq (.reg c77_r1 [(4,0)]) .ret)) }
noncomputable def c78_r0:List SOp:=[⟨0,.a .box,[.v 1],none,false⟩,⟨1,.p .mov,[.c (.int .i64 0)],none,false⟩]
noncomputable def c78_r1:List SOp:=[⟨0,.p (.fieldAddr 0),[.v 3],none,false⟩,⟨1,.r (.load false 1),[.t 0],none,false⟩]
noncomputable def c78_r2:List SOp:=[⟨0,.p (.bin .eql),[.v 5,.c (.int .i64 1)],none,false⟩,⟨1,.p .mov,[.t 0],none,false⟩]
noncomputable def c78_r3:List SOp:=[⟨0,.p .mov,[.v 0],none,false⟩,⟨1,.p (.fieldAddr 1),[.v 3],none,false⟩,⟨2,.r (.load false 1),[.t 0],none,false⟩,⟨3,.call 117,[.t 2,.t 0],none,false⟩,⟨4,.p .mov,[.t 0],none,false⟩]
noncomputable def c78_r4:List SOp:=[⟨0,.p (.bin .eql),[.v 5,.c (.int .i64 2)],none,false⟩,⟨1,.p .mov,[.t 0],none,false⟩]
noncomputable def c78_r5:List SOp:=[⟨0,.p .mov,[.v 0],none,false⟩,⟨1,.p (.fieldAddr 1),[.v 3],none,false⟩,⟨2,.r (.load false 1),[.t 0],none,false⟩,⟨3,.call 117,[.t 2,.t 0],none,false⟩,⟨4,.p .mov,[.t 0],none,false⟩]
noncomputable def c78_r6:List SOp:=[⟨0,.p .mov,[.v 4],none,false⟩,⟨1,.p (.bin .eql),[.t 0,.c (.int .i64 0)],none,false⟩]
noncomputable def c78_r7:List SOp:=[⟨0,.p .mov,[.v 0],none,false⟩,⟨1,.p (.fieldAddr 2),[.v 3],none,false⟩,⟨2,.r (.load false 1),[.t 0],none,false⟩,⟨3,.call 118,[.t 2,.t 0],none,false⟩,⟨4,.p .mov,[.t 0],none,false⟩]
noncomputable def c78_r8:List SOp:=[⟨0,.p (.bin .eql),[.v 5,.c (.int .i64 3)],none,false⟩,⟨1,.p .mov,[.t 0],none,false⟩]
noncomputable def c78_r9:List SOp:=[⟨0,.p .mov,[.v 0],none,false⟩,⟨1,.p (.fieldAddr 1),[.v 3],none,false⟩,⟨2,.r (.load false 1),[.t 0],none,false⟩,⟨3,.call 118,[.t 2,.t 0],none,false⟩,⟨4,.p .mov,[.t 0],none,false⟩]
noncomputable def qc3:List SOp:=[⟨0,.p (.bin .eql),[.v 5,.c (.int .i64 5)],none,false⟩,⟨1,.p .mov,[.t 0],none,false⟩]
noncomputable def qc2:List SOp:=[⟨0,.p .mov,[.v 0],none,false⟩,⟨1,.p (.fieldAddr 1),[.v 3],none,false⟩,⟨2,.r (.load false 1),[.t 0],none,false⟩,⟨3,.p .mov,[.v 2],none,false⟩,⟨4,.call 119,[.t 3,.t 1,.t 0],none,false⟩,⟨5,.p .mov,[.t 0],none,false⟩]
noncomputable def qc1:List SOp:=[⟨0,.p (.bin .eql),[.v 5,.c (.int .i64 4)],none,false⟩,⟨1,.p .mov,[.t 0],none,false⟩]
noncomputable def qc0:List SOp:=[⟨0,.p .mov,[.v 0],none,false⟩,⟨1,.p (.fieldAddr 1),[.v 3],none,false⟩,⟨2,.r (.load false 1),[.t 0],none,false⟩,⟨3,.p .mov,[.v 2],none,false⟩,⟨4,.call 120,[.t 3,.t 1,.t 0],none,false⟩,⟨5,.p .mov,[.t 0],none,false⟩]
noncomputable def qb9:List SOp:=[⟨0,.p .mov,[.v 4],none,false⟩,⟨1,.p (.bin .neq),[.t 0,.c (.int .i64 0)],none,false⟩]
noncomputable def qb8:List SOp:=[⟨0,.p .mov,[.v 0],none,false⟩,⟨1,.p (.fieldAddr 4),[.v 3],none,false⟩,⟨2,.r (.load false 1),[.t 0],none,false⟩,⟨3,.p .mov,[.v 2],none,false⟩,⟨4,.call 121,[.t 3,.t 1,.t 0],none,false⟩,⟨5,.p .mov,[.t 0],none,false⟩]
noncomputable def c78:CFn:={ nargs:=3,vars:=[0,1,2,4,6,8],results:=[.var 4],body:=(.seq (.reg c78_r0 [(3,1),(4,0)]) (.seq (.seq (.reg c78_r1 [(5,0)]) (.block 0 (.rcond c78_r2 [] 0 (.reg c78_r3 [(4,0)]) (.rcond c78_r4 [] 0 (.seq (.reg c78_r5 [(4,0)]) (.rcond c78_r6 [] 0 (.reg c78_r7 [(4,0)]) .skip)) (.rcond c78_r8 [] 0 (.reg c78_r9 [(4,0)]) (.rcond qc3 [] 0 (.reg qc2 [(4,0)]) (.rcond qc1 [] 0 (.reg qc0 [(4,0)]) .skip))))))) (.seq (.rcond qb9 [] 0 .ret .skip) (.seq (.reg qb8 [(4,0)]) .ret)))) }
noncomputable def qb7:List SOp:=[⟨0,.p .mov,[.c (.int .i64 0)],none,false⟩]
noncomputable def qb6:List SOp:=[⟨0,.p .mov,[.v 0],none,false⟩,⟨1,.p .lenS,[.t 0],none,false⟩,⟨2,.p .mov,[.c (.int .i64 0)],none,false⟩]
noncomputable def qb5:List SOp:=[⟨0,.p (.bin .lss),[.v 5,.v 4],none,false⟩]
noncomputable def qb4:List SOp:=[⟨0,.p .mov,[.v 5],none,false⟩,⟨1,.p .mov,[.t 0],none,false⟩]
noncomputable def qb3:List SOp:=[⟨0,.p .mov,[.v 1],none,false⟩,⟨1,.p .mov,[.v 0],none,false⟩,⟨2,.p .mov,[.v 3],none,false⟩,⟨3,.p (.idxAddrS 2),[.t 1,.t 0],none,false⟩,⟨4,.r (.load true 2),[.t 0],none,false⟩,⟨5,.callV,[.t 4,.t 0],none,false⟩]
noncomputable def qb2:List SOp:=[⟨0,.p .mov,[.v 3],none,false⟩,⟨1,.p .mov,[.t 0],none,false⟩]
noncomputable def qb1:List SOp:=[⟨0,.p (.bin .add),[.v 5,.c (.int .i64 1)],none,false⟩,⟨1,.p .mov,[.t 0],none,false⟩]
noncomputable def c79_l7:CCode:=(.seq (.reg qb5 [(6,0)]) (.seq (.cond (.v 6) .skip (.exit 0)) (.seq (.block 1 (.seq (.reg qb4 [(3,0)]) (.rcond qb3 [] 0 (.seq (.reg qb2 [(2,0)]) .ret) .skip))) (.reg qb1 [(5,0)]))))
noncomputable def qb0:List SOp:=[⟨0,.p .mov,[.c (.int .i64 (-1))],none,false⟩]
noncomputable def c79:CFn:={ nargs:=2,vars:=[0,1,4,5,7,8,9],results:=[.var 2],body:=(.seq (.reg qb7 [(2,0)]) (.seq (.seq (.reg qb6 [(4,1),(5,0)]) (.block 0 (.loop c79_l7))) (.seq (.reg qb0 [(2,0)]) .ret))) }
noncomputable def c80_r0:List SOp:=[⟨0,.a .box,[.v 0],none,false⟩,⟨1,.p .mov,[.c (.bool false)],none,false⟩]
noncomputable def c80_r1:List SOp:=[⟨0,.p (.fieldAddr 0),[.v 2],none,false⟩,⟨1,.r (.load false 1),[.t 0],none,false⟩,⟨2,.r (.load false 1),[.v 1],none,false⟩,⟨3,.p (.bin .eql),[.t 1,.t 0],none,false⟩,⟨4,.p .mov,[.t 0],none,false⟩]
noncomputable def c80:CFn:={ nargs:=2,vars:=[0,1,2,3],results:=[.var 3],body:=(.seq (.reg c80_r0 [(2,1),(3,0)]) (.seq (.reg c80_r1 [(3,0)]) .ret)) }
noncomputable def zz5:List SOp:=[⟨0,.p .mov,[.v 1],none,false⟩,⟨1,.p (.bin .add),[.t 0,.c (.int .i64 1)],none,false⟩,⟨2,.p .mov,[.t 0],none,false⟩]
noncomputable def zz4:List SOp:=[⟨0,.p .mov,[.v 4],none,false⟩,⟨1,.p .mov,[.v 2],none,false⟩,⟨2,.p (.bin .lss),[.t 1,.t 0],none,false⟩]
noncomputable def zz3:List SOp:=[⟨0,.p .mov,[.v 4],none,false⟩,⟨1,.p .mov,[.t 0],none,false⟩]
noncomputable def zz2:List SOp:=[⟨0,.p .mov,[.v 5],none,false⟩,⟨1,.p .mov,[.v 1],none,false⟩,⟨2,.p (.bin .gtr),[.t 1,.t 0],none,false⟩,⟨3,.p .mov,[.t 0],none,false⟩,⟨4,.p .mov,[.v 3],some (0,true),false⟩,⟨5,.p .mov,[.v 0],some (1,true),false⟩,⟨6,.p .mov,[.v 5],some (2,true),false⟩,⟨7,.p (.idxAddrS 1),[.t 1,.t 0],some (3,true),false⟩,⟨8,.r (.load false 1),[.t 0],some (4,true),false⟩,⟨9,.p .mov,[.v 0],some (5,true),false⟩,⟨10,.p .mov,[.v 5],some (6,true),false⟩,⟨11,.p (.bin .sub),[.t 0,.c (.int .i64 1)],some (7,true),false⟩,⟨12,.p (.idxAddrS 1),[.t 2,.t 0],some (8,true),false⟩,⟨13,.r (.load false 1),[.t 0],some (9,true),false⟩,⟨14,.callV,[.t 9,.t 5,.t 0],some (10,true),false⟩,⟨15,.p (.bin .lss),[.t 0,.c (.int .i64 0)],some (11,true),false⟩,⟨16,.p .pick,[.t 12,.t 0,.c (.bool false)],none,false⟩]
noncomputable def zz1:List SOp:=[⟨0,.p .mov,[.v 0],none,false⟩,⟨1,.p .mov,[.v 5],none,false⟩,⟨5,.p .mov,[.v 0],none,false⟩,⟨6,.p .mov,[.v 5],none,false⟩,⟨7,.p (.bin .sub),[.t 0,.c (.int .i64 1)],none,false⟩,⟨8,.p (.idxAddrS 1),[.t 2,.t 0],none,false⟩,⟨9,.r (.load false 1),[.t 0],none,false⟩,⟨10,.p .mov,[.v 0],none,false⟩,⟨11,.p .mov,[.v 5],none,false⟩,⟨12,.p (.idxAddrS 1),[.t 1,.t 0],none,false⟩,⟨13,.r (.load false 1),[.t 0],none,false⟩,⟨14,.p (.idxAddrS 1),[.t 10,.t 9],none,false⟩,⟨15,.w (.store 1),[.t 0,.t 5],none,false⟩,⟨2,.p .mov,[.v 0],none,false⟩,⟨3,.p .mov,[.v 5],none,false⟩,⟨4,.p (.bin .sub),[.t 0,.c (.int .i64 1)],none,false⟩,⟨16,.p (.idxAddrS 1),[.t 2,.t 0],none,false⟩,⟨17,.w (.store 1),[.t 0,.t 6],none,false⟩]
noncomputable def zz0:List SOp:=[⟨0,.p .mov,[.v 5],none,false⟩,⟨1,.p (.bin .sub),[.t 0,.c (.int .i64 1)],none,false⟩,⟨2,.p .mov,[.t 0],none,false⟩]
noncomputable def c85_l6:CCode:=(.seq (.rcond zz2 [] 0 .skip (.exit 2)) (.seq (.block 3 (.reg zz1 [])) (.reg zz0 [(5,0)])))
noncomputable def zy9:List SOp:=[⟨0,.p .mov,[.v 4],none,false⟩,⟨1,.p (.bin .add),[.t 0,.c (.int .i64 1)],none,false⟩,⟨2,.p .mov,[.t 0],none,false⟩]
noncomputable def c85_l8:CCode:=(.seq (.rcond zz4 [] 0 .skip (.exit 0)) (.seq (.block 1 (.seq (.reg zz3 [(5,0)]) (.block 2 (.loop c85_l6)))) (.reg zy9 [(4,0)])))
noncomputable def c85:CFn:={ nargs:=4,vars:=[0,1,2,3,8,9],results:=[],body:=(.seq (.reg zz5 [(4,0)]) (.block 0 (.loop c85_l8))) }
noncomputable def qa9:List SOp:=[⟨0,.p .mov,[.c (.int .i64 0)],none,false⟩]
noncomputable def qa8:List SOp:=[⟨0,.p .mov,[.v 0],none,false⟩,⟨1,.p .lenStr,[.t 0],none,false⟩,⟨2,.p .mov,[.c (.int .i64 0)],none,false⟩]
noncomputable def qa7:List SOp:=[⟨0,.p (.bin .lss),[.v 4,.v 3],none,false⟩]
noncomputable def qa6:List SOp:=[⟨0,.p .mov,[.v 4],none,false⟩,⟨1,.p .mov,[.t 0],none,false⟩]
noncomputable def qa5:List SOp:=[⟨0,.p .mov,[.v 0],none,false⟩,⟨1,.p .mov,[.v 2],none,false⟩,⟨2,.p .idxStr,[.t 1,.t 0],none,false⟩,⟨3,.call 135,[.t 0],none,false⟩,⟨4,.p (.un .not),[.t 0],none,false⟩]
noncomputable def qa4:List SOp:=[⟨0,.p .mov,[.v 2],none,false⟩,⟨1,.p .mov,[.t 0],none,false⟩]
noncomputable def qa3:List SOp:=[⟨0,.p (.bin .add),[.v 4,.c (.int .i64 1)],none,false⟩,⟨1,.p .mov,[.t 0],none,false⟩]
noncomputable def c99_l7:CCode:=(.seq (.reg qa7 [(5,0)]) (.seq (.cond (.v 5) .skip (.exit 0)) (.seq (.block 1 (.seq (.reg qa6 [(2,0)]) (.rcond qa5 [] 0 (.seq (.reg qa4 [(1,0)]) .ret) .skip))) (.reg qa3 [(4,0)]))))
noncomputable def qa2:List SOp:=[⟨0,.p .mov,[.v 0],none,false⟩,⟨1,.p .lenStr,[.t 0],none,false⟩,⟨2,.p .mov,[.t 0],none,false⟩]
noncomputable def c99:CFn:={ nargs:=1,vars:=[0,2,3,5,6,7],results:=[.var 1],body:=(.seq (.reg qa9 [(1,0)]) (.seq (.seq (.reg qa8 [(3,1),(4,0)]) (.block 0 (.loop c99_l7))) (.seq (.reg qa2 [(1,0)]) .ret))) }
noncomputable def qx8:List SOp:=[⟨0,.p .mov,[.c (.bool false)],none,false⟩]
noncomputable def qx7:List SOp:=[⟨0,.p .mov,[.v 0],none,false⟩,⟨1,.p .mov,[.v 1],none,false⟩,⟨2,.call 137,[.t 1,.t 0],none,false⟩,⟨3,.p .mov,[.t 0],none,false⟩]
noncomputable def c103:CFn:={ nargs:=2,vars:=[0,1,4],results:=[.var 2],body:=(.seq (.reg qx8 [(2,0)]) (.seq (.reg qx7 [(2,0)]) .ret)) }
noncomputable def qx6:List SOp:=[⟨0,.p .mov,[.c (.bool false)],none,false⟩]
noncomputable def qx5:List SOp:=[⟨0,.call 141,[],none,false⟩,⟨1,.p .mov,[.v 0],none,false⟩,⟨2,.call 140,[.t 1,.t 0],none,false⟩,⟨3,.p .mov,[.t 0],none,false⟩]
noncomputable def c106:CFn:={ nargs:=1,vars:=[0,2],results:=[.var 1],body:=(.seq (.reg qx6 [(1,0)]) (.seq (.reg qx5 [(1,0)]) .ret)) }
noncomputable def qx4:List SOp:=[⟨0,.a .box,[.v 1],none,false⟩,⟨1,.p .mov,[.c (.bool false)],none,false⟩]
noncomputable def qx3:List SOp:=[⟨0,.p .mov,[.v 0],none,false⟩,⟨1,.p (.mkFunc 143 0),[.v 2],none,false⟩,⟨2,.call 142,[.t 1,.t 0],none,false⟩,⟨3,.p (.un .not),[.t 0],none,false⟩,⟨4,.p .mov,[.t 0],none,false⟩]
noncomputable def c107:CFn:={ nargs:=2,vars:=[0,1,3,4],results:=[.var 3],body:=(.seq (.reg qx4 [(2,1),(3,0)]) (.seq (.reg qx3 [(3,0)]) .ret)) }
noncomputable def zt7:List SOp:=[⟨0,.p .mov,[.c (.int .i64 0)],none,false⟩]
noncomputable def zt6:List SOp:=[⟨0,.p .mov,[.v 0],none,false⟩,⟨1,.p .lenS,[.t 0],none,false⟩,⟨2,.p .mov,[.c (.int .i64 0)],none,false⟩]
noncomputable def zt5:List SOp:=[⟨0,.p (.bin .lss),[.v 5,.v 4],none,false⟩]
noncomputable def zt4:List SOp:=[⟨0,.p .mov,[.v 5],none,false⟩,⟨1,.p .mov,[.t 0],none,false⟩]
noncomputable def zt3:List SOp:=[⟨0,.p .mov,[.v 1],none,false⟩,⟨1,.p .mov,[.v 0],none,false⟩,⟨2,.p .mov,[.v 3],none,false⟩,⟨3,.p (.idxAddrS 2),[.t 1,.t 0],none,false⟩,⟨4,.r (.load true 2),[.t 0],none,false⟩,⟨5,.callV,[.t 4,.t 0],none,false⟩]
noncomputable def zt2:List SOp:=[⟨0,.p .mov,[.v 3],none,false⟩,⟨1,.p .mov,[.t 0],none,false⟩]
noncomputable def zt1:List SOp:=[⟨0,.p (.bin .add),[.v 5,.c (.int .i64 1)],none,false⟩,⟨1,.p .mov,[.t 0],none,false⟩]
noncomputable def qx2:CCode:=(.seq (.reg zt5 [(6,0)]) (.seq (.cond (.v 6) .skip (.exit 0)) (.seq (.block 1 (.seq (.reg zt4 [(3,0)]) (.rcond zt3 [] 0 (.seq (.reg zt2 [(2,0)]) .ret) .skip))) (.reg zt1 [(5,0)]))))
noncomputable def zt0:List SOp:=[⟨0,.p .mov,[.c (.int .i64 (-1))],none,false⟩]
noncomputable def c108:CFn:={ nargs:=2,vars:=[0,1,4,5,7,8,9],results:=[.var 2],body:=(.seq (.reg zt7 [(2,0)]) (.seq (.seq (.reg zt6 [(4,1),(5,0)]) (.block 0 (.loop qx2))) (.seq (.reg zt0 [(2,0)]) .ret))) }
noncomputable def zs9:List SOp:=[⟨0,.p .mov,[.c (.int .i64 0)],none,false⟩]
noncomputable def zs8:List SOp:=[⟨0,.p .mov,[.v 0],none,false⟩,⟨1,.p .lenS,[.t 0],none,false⟩,⟨2,.p .mov,[.c (.int .i64 0)],none,false⟩]
noncomputable def zs7:List SOp:=[⟨0,.p (.bin .lss),[.v 5,.v 4],none,false⟩]
noncomputable def zs6:List SOp:=[⟨0,.p .mov,[.v 5],none,false⟩,⟨1,.p .mov,[.t 0],none,false⟩]
noncomputable def zs5:List SOp:=[⟨0,.p .mov,[.v 1],none,false⟩,⟨1,.p .mov,[.v 0],none,false⟩,⟨2,.p .mov,[.v 3],none,false⟩,⟨3,.p (.idxAddrS 6),[.t 1,.t 0],none,false⟩,⟨4,.r (.load true 6),[.t 0],none,false⟩,⟨5,.callV,[.t 4,.t 0],none,false⟩]
noncomputable def zs4:List SOp:=[⟨0,.p .mov,[.v 3],none,false⟩,⟨1,.p .mov,[.t 0],none,false⟩]
noncomputable def zs3:List SOp:=[⟨0,.p (.bin .add),[.v 5,.c (.int .i64 1)],none,false⟩,⟨1,.p .mov,[.t 0],none,false⟩]
noncomputable def qx1:CCode:=(.seq (.reg zs7 [(6,0)]) (.seq (.cond (.v 6) .skip (.exit 0)) (.seq (.block 1 (.seq (.reg zs6 [(3,0)]) (.rcond zs5 [] 0 (.seq (.reg zs4 [(2,0)]) .ret) .skip))) (.reg zs3 [(5,0)]))))
noncomputable def zs2:List SOp:=[⟨0,.p .mov,[.c (.int .i64 (-1))],none,false⟩]
noncomputable def c109:CFn:={ nargs:=2,vars:=[0,1,4,5,7,8,9],results:=[.var 2],body:=(.seq (.reg zs9 [(2,0)]) (.seq (.seq (.reg zs8 [(4,1),(5,0)]) (.block 0 (.loop qx1))) (.seq (.reg zs2 [(2,0)]) .ret))) }
noncomputable def qx0:List SOp:=[⟨0,.p .mov,[.c (.int .i64 0)],none,false⟩]
noncomputable def qw9:List SOp:=[⟨0,.p .mov,[.v 0],none,false⟩,⟨1,.p (.bin .lss),[.t 0,.c (.int .i64 0)],none,false⟩]
noncomputable def qw8:List SOp:=[⟨0,.p .mov,[.v 0],none,false⟩,⟨1,.p (.bin .add),[.t 0,.c (.int .i64 1)],none,false⟩,⟨2,.p (.un .neg),[.t 0],none,false⟩,⟨3,.p .mov,[.t 0],none,false⟩]
noncomputable def qw7:List SOp:=[⟨0,.p .mov,[.v 0],none,false⟩,⟨1,.p .mov,[.v 1],none,false⟩,⟨2,.p (.bin .rem),[.t 1,.t 0],none,false⟩,⟨3,.p .mov,[.t 0],none,false⟩]
noncomputable def c110:CFn:={ nargs:=2,vars:=[0,1,4],results:=[.var 2],body:=(.seq (.reg qx0 [(2,0)]) (.seq (.rcond qw9 [] 0 (.reg qw8 [(0,0)]) .skip) (.seq (.reg qw7 [(2,0)]) .ret))) }
noncomputable def qw6:List SOp:=[⟨0,.p .mov,[.c (.string ⟨#[]⟩)],none,false⟩]
noncomputable def qw5:List SOp:=[⟨0,.p .mov,[.v 0],none,false⟩,⟨1,.p (.bin .rem),[.t 0,.c (.int .i64 10)],none,false⟩,⟨2,.p (.bin .add),[.c (.int .i64 48),.t 0],none,false⟩,⟨3,.p (.conv .u8),[.t 0],none,false⟩,⟨4,.a (.bslice [.int .u8 0] [(0,1)] 1 1),[.t 0],none,false⟩,⟨5,.r .bytesStr,[.t 0],none,false⟩,⟨6,.p .mov,[.t 0],none,false⟩]
noncomputable def qw4:List SOp:=[⟨0,.p .mov,[.v 0],none,false⟩,⟨1,.p (.bin .geq),[.t 0,.c (.int .i64 10)],none,false⟩]
noncomputable def qw3:List SOp:=[⟨0,.p .mov,[.v 0],none,false⟩,⟨1,.p (.bin .quo),[.t 0,.c (.int .i64 10)],none,false⟩,⟨2,.call 111,[.t 0],none,false⟩,⟨3,.p .mov,[.v 2],none,false⟩,⟨4,.p (.bin .add),[.t 1,.t 0],none,false⟩,⟨5,.p .mov,[.t 0],none,false⟩]
noncomputable def qw2:List SOp:=[⟨0,.p .mov,[.v 2],none,false⟩,⟨1,.p .mov,[.t 0],none,false⟩]
noncomputable def c111:CFn:={ nargs:=1,vars:=[0,2,3],results:=[.var 1],body:=(.seq (.reg qw6 [(1,0)]) (.seq (.reg qw5 [(2,0)]) (.seq (.rcond qw4 [] 0 (.seq (.reg qw3 [(1,0)]) .ret) .skip) (.seq (.reg qw2 [(1,0)]) .ret)))) }
noncomputable def qw1:List SOp:=[⟨0,.a .box,[.v 0],none,false⟩,⟨1,.p .mov,[.c (.bool false)],none,false⟩]
noncomputable def qw0:List SOp:=[⟨0,.p (.fieldAddr 1),[.v 2],none,false⟩,⟨1,.r (.load false 1),[.t 0],none,false⟩,⟨2,.p (.un .not),[.t 0],none,false⟩,⟨3,.p .mov,[.t 0],none,false⟩,⟨4,.p (.fieldAddr 2),[.v 2],some (0,true),false⟩,⟨5,.r (.load false 1),[.t 0],some (1,true),false⟩,⟨6,.p (.fieldAddr 2),[.v 1],some (2,true),false⟩,⟨7,.r (.load false 1),[.t 0],some (3,true),false⟩,⟨8,.p (.bin .eql),[.t 2,.t 0],some (4,true),false⟩,⟨9,.p .pick,[.t 5,.t 0,.c (.bool false)],none,false⟩,⟨10,.p .mov,[.t 0],none,false⟩]
noncomputable def c112:CFn:={ nargs:=2,vars:=[0,1,2,3],results:=[.var 3],body:=(.seq (.reg qw1 [(2,1),(3,0)]) (.seq (.reg qw0 [(3,0)]) .ret)) }
noncomputable def qv9:List SOp:=[⟨0,.a .box,[.v 0],none,false⟩,⟨1,.p .mov,[.c (.bool false)],none,false⟩]
noncomputable def qv8:List SOp:=[⟨0,.p (.fieldAddr 1),[.v 2],none,false⟩,⟨1,.r (.load false 1),[.t 0],none,false⟩,⟨2,.p .mov,[.t 0],none,false⟩,⟨3,.p (.fieldAddr 4),[.v 2],some (0,true),false⟩,⟨4,.r (.load false 1),[.t 0],some (1,true),false⟩,⟨5,.p (.fieldAddr 4),[.v 1],some (2,true),false⟩,⟨6,.r (.load false 1),[.t 0],some (3,true),false⟩,⟨7,.p (.bin .eql),[.t 2,.t 0],some (4,true),false⟩,⟨8,.p .pick,[.t 5,.t 0,.c (.bool false)],none,false⟩,⟨9,.p .mov,[.t 0],none,false⟩]
noncomputable def c113:CFn:={ nargs:=2,vars:=[0,1,2,3],results:=[.var 3],body:=(.seq (.reg qv9 [(2,1),(3,0)]) (.seq (.reg qv8 [(3,0)]) .ret)) }
noncomputable def qv7:List SOp:=[⟨0,.a .box,[.v 0],none,false⟩,⟨1,.p .mov,[.c (.bool false)],none,false⟩]
noncomputable def qv6:List SOp:=[⟨0,.p (.fieldAddr 1),[.v 2],none,false⟩,⟨1,.r (.load false 1),[.t 0],none,false⟩,⟨2,.p (.un .not),[.t 0],none,false⟩,⟨3,.p .mov,[.t 0],none,false⟩,⟨4,.p (.fieldAddr 2),[.v 2],some (0,true),false⟩,⟨5,.r (.load false 1),[.t 0],some (1,true),false⟩,⟨6,.p (.fieldAddr 2),[.v 1],some (2,true),false⟩,⟨7,.r (.load false 1),[.t 0],some (3,true),false⟩,⟨8,.p (.bin .eql),[.t 2,.t 0],some (4,true),false⟩,⟨9,.p .pick,[.t 5,.t 0,.c (.bool false)],none,false⟩,⟨10,.p .mov,[.t 0],none,false⟩,⟨11,.p (.fieldAddr 3),[.v 1],some (0,true),false⟩,⟨12,.r (.load false 1),[.t 0],some (1,true),false⟩,⟨13,.p (.fieldAddr 3),[.v 2],some (2,true),false⟩,⟨14,.r (.load false 1),[.t 0],some (3,true),false⟩,⟨15,.p (.bin .leq),[.t 2,.t 0],some (4,true),false⟩,⟨16,.p .pick,[.t 5,.t 0,.c (.bool false)],none,false⟩,⟨17,.p .mov,[.t 0],none,false⟩]
noncomputable def c114:CFn:={ nargs:=2,vars:=[0,1,2,3],results:=[.var 3],body:=(.seq (.reg qv7 [(2,1),(3,0)]) (.seq (.reg qv6 [(3,0)]) .ret)) }
noncomputable def qv5:List SOp:=[⟨0,.r (.load false 1),[.v 1],none,false⟩,⟨1,.r (.load false 1),[.v 2],none,false⟩,⟨2,.p .mov,[.v 0],none,false⟩,⟨3,.call 116,[.t 2,.t 1,.t 0],none,false⟩]
noncomputable def c115:CFn:={ nargs:=3,vars:=[0,1,2],results:=[],body:=(.reg qv5 []) }
noncomputable def zs1:List SOp:=[⟨0,.p .mov,[.c (.bool false)],none,false⟩]
noncomputable def zs0:List SOp:=[⟨0,.p .mov,[.v 0],none,false⟩,⟨1,.p .lenS,[.t 0],none,false⟩,⟨2,.p .mov,[.c (.int .i64 0)],none,false⟩]
noncomputable def zr9:List SOp:=[⟨0,.p (.bin .lss),[.v 8,.v 7],none,false⟩]
noncomputable def zr8:List SOp:=[⟨0,.p (.idxAddrS 7),[.v 6,.v 8],none,false⟩,⟨1,.r (.load true 7),[.t 0],none,false⟩,⟨2,.a (.new [.int .i64 0,.string ⟨#[]⟩,.string ⟨#[]⟩,.int .i64 0,.slice none 0 0,.slice none 0 0,.slice none 0 0]),[],none,false⟩,⟨3,.w (.store 7),[.t 0,.t 1],none,false⟩]
noncomputable def zr7:List SOp:=[⟨0,.p .mov,[.v 1],none,false⟩,⟨1,.p .mov,[.t 0],none,false⟩]
noncomputable def zr6:List SOp:=[⟨0,.p (.fieldAddr 0),[.v 4],none,false⟩,⟨1,.r (.load false 1),[.t 0],none,false⟩,⟨2,.p (.bin .eql),[.t 0,.c (.int .i64 5)],none,false⟩]
noncomputable def zr5:List SOp:=[⟨0,.p .mov,[.v 1],none,false⟩,⟨1,.call 145,[.t 0],none,true⟩,⟨2,.p (.fieldAddr 1),[.v 4],none,false⟩,⟨3,.r (.load false 1),[.t 0],none,false⟩,⟨4,.a (.bslice [.string ⟨#[]⟩] [(0,1)] 1 1),[.t 0],none,false⟩,⟨5,.w (.append 1 16),[.t 3,.t 0],none,false⟩,⟨6,.p .mov,[.t 0],none,false⟩]
noncomputable def zr4:List SOp:=[⟨0,.p .mov,[.v 2],none,false⟩,⟨1,.r (.load true 7),[.v 4],none,false⟩,⟨2,.p .mov,[.v 1],none,false⟩,⟨3,.callV,[.t 2,.t 1,.t 0],none,false⟩,⟨4,.p (.un .not),[.t 0],none,false⟩,⟨5,.p .mov,[.t 0],none,false⟩,⟨6,.p (.fieldAddr 5),[.v 4],some (0,false),false⟩,⟨7,.r (.load false 1),[.t 0],some (1,false),false⟩,⟨8,.p .mov,[.v 5],some (2,false),false⟩,⟨9,.p .mov,[.v 2],some (3,false),false⟩,⟨10,.call 116,[.t 2,.t 1,.t 0],some (4,false),false⟩,⟨11,.p (.un .not),[.t 0],some (5,false),false⟩,⟨12,.p .pick,[.t 6,.c (.bool true),.t 0],none,false⟩,⟨13,.p .mov,[.t 0],none,false⟩,⟨14,.p (.fieldAddr 6),[.v 4],some (0,false),false⟩,⟨15,.r (.load false 1),[.t 0],some (1,false),false⟩,⟨16,.p .mov,[.v 1],some (2,false),false⟩,⟨17,.p .mov,[.v 2],some (3,false),false⟩,⟨18,.call 116,[.t 2,.t 1,.t 0],some (4,false),false⟩,⟨19,.p (.un .not),[.t 0],some (5,false),false⟩,⟨20,.p .pick,[.t 6,.c (.bool true),.t 0],none,false⟩]
noncomputable def zr3:List SOp:=[⟨0,.p .mov,[.c (.bool false)],none,false⟩]
noncomputable def zr2:List SOp:=[⟨0,.p (.bin .add),[.v 8,.c (.int .i64 1)],none,false⟩,⟨1,.p .mov,[.t 0],none,false⟩]
noncomputable def yi0:CCode:=(.seq (.reg zr9 [(9,0)]) (.seq (.cond (.v 9) .skip (.exit 0)) (.seq (.block 1 (.seq (.reg zr8 [(4,1)]) (.seq (.reg zr7 [(5,0)]) (.seq (.rcond zr6 [] 0 (.reg zr5 [(5,0)]) .skip) (.rcond zr4 [] 0 (.seq (.reg zr3 [(3,0)]) .ret) .skip))))) (.reg zr2 [(8,0)]))))
noncomputable def zb1:List SOp:=[⟨0,.p .mov,[.c (.bool true)],none,false⟩]
noncomputable def c116:CFn:={ nargs:=3,vars:=[0,1,2,6,8,9,10,11,12,13],results:=[.var 3],body:=(.seq (.reg zs1 [(3,0)]) (.seq (.seq (.reg zs0 [(6,2),(7,1),(8,0)]) (.block 0 (.loop yi0))) (.seq (.reg zb1 [(3,0)]) .ret))) }
noncomputable def qv4:List SOp:=[⟨0,.p .mov,[.c (.int .i64 0)],none,false⟩]
noncomputable def qv3:List SOp:=[⟨0,.p .mov,[.v 0],none,false⟩,⟨1,.p .nilCheck,[.t 0],none,false⟩,⟨2,.p (.fieldAddr 4),[.t 0],none,false⟩,⟨3,.r (.load false 1),[.t 0],none,false⟩,⟨4,.p .mov,[.v 1],none,false⟩,⟨5,.r (.lookup (z7 Tryz.prog 9) (.int .i64 0) false),[.t 1,.t 0],none,false⟩,⟨6,.p (.bin .gtr),[.t 0,.c (.int .i64 0)],none,false⟩]
noncomputable def qv2:List SOp:=[⟨0,.p .mov,[.c (.int .i64 80)],none,false⟩]
noncomputable def qv1:List SOp:=[⟨0,.p .mov,[.c (.int .i64 0)],none,false⟩]
noncomputable def c117:CFn:={ nargs:=2,vars:=[0,1,4],results:=[.var 2],body:=(.seq (.reg qv4 [(2,0)]) (.seq (.rcond qv3 [] 0 (.seq (.reg qv2 [(2,0)]) .ret) .skip) (.seq (.reg qv1 [(2,0)]) .ret))) }
noncomputable def qv0:List SOp:=[⟨0,.p .mov,[.c (.int .i64 0)],none,false⟩]
noncomputable def qu9:List SOp:=[⟨0,.p .mov,[.v 0],none,false⟩,⟨1,.p .nilCheck,[.t 0],none,false⟩,⟨2,.p (.fieldAddr 0),[.t 0],none,false⟩,⟨3,.r (.load true 4),[.t 0],none,false⟩,⟨4,.p .mov,[.v 1],none,false⟩,⟨5,.call 146,[.t 1,.t 0],none,false⟩,⟨6,.p (.bin .lss),[.t 0,.c (.int .i64 0)],none,false⟩]
noncomputable def qu8:List SOp:=[⟨0,.p .mov,[.c (.int .i64 84)],none,false⟩]
noncomputable def qu7:List SOp:=[⟨0,.p .mov,[.c (.int .i64 0)],none,false⟩]
noncomputable def c118:CFn:={ nargs:=2,vars:=[0,1,4],results:=[.var 2],body:=(.seq (.reg qv0 [(2,0)]) (.seq (.rcond qu9 [] 0 (.seq (.reg qu8 [(2,0)]) .ret) .skip) (.seq (.reg qu7 [(2,0)]) .ret))) }
noncomputable def qu6:List SOp:=[⟨0,.a .box,[.v 0],none,false⟩,⟨1,.p .mov,[.c (.int .i64 0)],none,false⟩]
noncomputable def qu5:List SOp:=[⟨0,.r (.load false 1),[.v 3],none,false⟩,⟨1,.p .nilCheck,[.t 0],none,false⟩,⟨2,.p (.fieldAddr 0),[.t 0],none,false⟩,⟨3,.r (.load true 4),[.t 0],none,false⟩,⟨4,.p .mov,[.v 1],none,false⟩,⟨5,.call 49,[.t 1,.t 0],none,false⟩,⟨6,.a (.new [.int .i64 0]),[],none,false⟩,⟨7,.w (.store 1),[.t 0,.t 1],none,false⟩]
noncomputable def qu4:List SOp:=[⟨0,.r (.load false 1),[.v 5],none,false⟩,⟨1,.p (.bin .lss),[.t 0,.c (.int .i64 0)],none,false⟩,⟨2,.p .mov,[.t 0],none,false⟩]
noncomputable def qu3:List SOp:=[⟨0,.p .mov,[.c (.int .i64 84)],none,false⟩]
noncomputable def qu2:List SOp:=[⟨0,.p .mov,[.v 2],none,false⟩,⟨1,.p (.mkFunc 148 0),[.v 3,.v 5],none,false⟩,⟨2,.call 147,[.t 1,.t 0],none,false⟩,⟨3,.p .mov,[.t 0],none,false⟩]
noncomputable def qu1:List SOp:=[⟨0,.p .mov,[.c (.int .i64 85)],none,false⟩]
noncomputable def qu0:List SOp:=[⟨0,.p .mov,[.c (.int .i64 0)],none,false⟩]
noncomputable def c119:CFn:={ nargs:=3,vars:=[0,1,2,3,6,7],results:=[.var 4],body:=(.seq (.reg qu6 [(3,1),(4,0)]) (.seq (.reg qu5 [(5,1)]) (.seq (.block 0 (.rcond qu4 [] 0 (.seq (.reg qu3 [(4,0)]) .ret) (.rcond qu2 [] 0 (.seq (.reg qu1 [(4,0)]) .ret) .skip))) (.seq (.reg qu0 [(4,0)]) .ret)))) }
noncomputable def qt9:List SOp:=[⟨0,.p .mov,[.c (.int .i64 0)],none,false⟩]
noncomputable def qt8:List SOp:=[⟨0,.p .mov,[.v 0],none,false⟩,⟨1,.p .nilCheck,[.t 0],none,false⟩,⟨2,.p (.fieldAddr 0),[.t 0],none,false⟩,⟨3,.r (.load true 4),[.t 0],none,false⟩,⟨4,.p .mov,[.v 1],none,false⟩,⟨5,.call 49,[.t 1,.t 0],none,false⟩,⟨6,.p (.bin .lss),[.t 0,.c (.int .i64 0)],none,false⟩,⟨7,.p .mov,[.t 0],none,false⟩]
noncomputable def qt7:List SOp:=[⟨0,.p .mov,[.c (.int .i64 84)],none,false⟩]
noncomputable def qt6:List SOp:=[⟨0,.p .mov,[.v 2],none,false⟩,⟨1,.p .mov,[.v 1],none,false⟩,⟨2,.call 140,[.t 1,.t 0],none,false⟩,⟨3,.p (.un .not),[.t 0],none,false⟩,⟨4,.p .mov,[.t 0],none,false⟩]
noncomputable def qt5:List SOp:=[⟨0,.p .mov,[.c (.int .i64 86)],none,false⟩]
noncomputable def qt4:List SOp:=[⟨0,.p .mov,[.c (.int .i64 0)],none,false⟩]
noncomputable def c120:CFn:={ nargs:=3,vars:=[0,1,2,6],results:=[.var 3],body:=(.seq (.reg qt9 [(3,0)]) (.seq (.block 0 (.rcond qt8 [] 0 (.seq (.reg qt7 [(3,0)]) .ret) (.rcond qt6 [] 0 (.seq (.reg qt5 [(3,0)]) .ret) .skip))) (.seq (.reg qt4 [(3,0)]) .ret))) }
noncomputable def zq7:List SOp:=[⟨0,.p .mov,[.c (.int .i64 0)],none,false⟩]
noncomputable def zq6:List SOp:=[⟨0,.p .mov,[.v 1],none,false⟩,⟨1,.p .lenS,[.t 0],none,false⟩,⟨2,.p .mov,[.c (.int .i64 0)],none,false⟩]
noncomputable def zq5:List SOp:=[⟨0,.p (.bin .lss),[.v 8,.v 7],none,false⟩]
noncomputable def zq4:List SOp:=[⟨0,.p (.idxAddrS 5),[.v 6,.v 8],none,false⟩,⟨1,.r (.load true 5),[.t 0],none,false⟩,⟨2,.a (.new [.int .i64 0,.int .i64 0,.int .i64 0,.string ⟨#[]⟩,.slice none 0 0]),[],none,false⟩,⟨3,.w (.store 5),[.t 0,.t 1],none,false⟩]
noncomputable def zq3:List SOp:=[⟨0,.p .mov,[.c (.int .i64 0)],none,false⟩]
noncomputable def zq2:List SOp:=[⟨0,.p (.fieldAddr 0),[.v 4],none,false⟩,⟨1,.r (.load false 1),[.t 0],none,false⟩]
noncomputable def zq1:List SOp:=[⟨0,.p (.bin .eql),[.v 10,.c (.int .i64 2)],none,false⟩,⟨1,.p .mov,[.t 0],none,false⟩]
noncomputable def zq0:List SOp:=[⟨0,.p .mov,[.v 0],none,false⟩,⟨1,.p (.fieldAddr 3),[.v 4],none,false⟩,⟨2,.r (.load false 1),[.t 0],none,false⟩,⟨3,.call 117,[.t 2,.t 0],none,false⟩,⟨4,.p .mov,[.t 0],none,false⟩]
noncomputable def zp9:List SOp:=[⟨0,.p (.bin .eql),[.v 10,.c (.int .i64 5)],none,false⟩,⟨1,.p .mov,[.t 0],none,false⟩]
noncomputable def zp8:List SOp:=[⟨0,.p .mov,[.v 0],none,false⟩,⟨1,.p (.fieldAddr 3),[.v 4],none,false⟩,⟨2,.r (.load false 1),[.t 0],none,false⟩,⟨3,.p .mov,[.v 2],none,false⟩,⟨4,.call 120,[.t 3,.t 1,.t 0],none,false⟩,⟨5,.p .mov,[.t 0],none,false⟩]
noncomputable def zb0:List SOp:=[⟨0,.p .mov,[.v 5],none,false⟩,⟨1,.p (.bin .eql),[.t 0,.c (.int .i64 0)],none,false⟩]
noncomputable def za9:List SOp:=[⟨0,.p .mov,[.v 0],none,false⟩,⟨1,.p (.fieldAddr 4),[.v 4],none,false⟩,⟨2,.r (.load false 1),[.t 0],none,false⟩,⟨3,.p .mov,[.v 2],none,false⟩,⟨4,.call 121,[.t 3,.t 1,.t 0],none,false⟩,⟨5,.p .mov,[.t 0],none,false⟩]
noncomputable def za8:List SOp:=[⟨0,.p .mov,[.v 5],none,false⟩,⟨1,.p (.bin .neq),[.t 0,.c (.int .i64 0)],none,false⟩]
noncomputable def za7:List SOp:=[⟨0,.p .mov,[.v 5],none,false⟩,⟨1,.p .mov,[.t 0],none,false⟩]
noncomputable def za6:List SOp:=[⟨0,.p (.bin .add),[.v 8,.c (.int .i64 1)],none,false⟩,⟨1,.p .mov,[.t 0],none,false⟩]
noncomputable def yh9:CCode:=(.seq (.reg zq5 [(9,0)]) (.seq (.cond (.v 9) .skip (.exit 0)) (.seq (.block 1 (.seq (.reg zq4 [(4,1)]) (.seq (.reg zq3 [(5,0)]) (.seq (.seq (.reg zq2 [(10,0)]) (.block 2 (.rcond zq1 [] 0 (.reg zq0 [(5,0)]) (.rcond zp9 [] 0 (.reg zp8 [(5,0)]) .skip)))) (.seq (.rcond zb0 [] 0 (.reg za9 [(5,0)]) .skip) (.rcond za8 [] 0 (.seq (.reg za7 [(3,0)]) .ret) .skip)))))) (.reg za6 [(8,0)]))))
noncomputable def za5:List SOp:=[⟨0,.p .mov,[.c (.int .i64 0)],none,false⟩]
noncomputable def c121:CFn:={ nargs:=3,vars:=[0,1,2,6,8,9,10,11,12,13,17],results:=[.var 3],body:=(.seq (.reg zq7 [(3,0)]) (.seq (.seq (.reg zq6 [(6,2),(7,1),(8,0)]) (.block 0 (.loop yh9))) (.seq (.reg za5 [(3,0)]) .ret))) }
noncomputable def qt0:List SOp:=[⟨0,.p .mov,[.c (.bool false)],none,false⟩]
noncomputable def qs9:List SOp:=[⟨0,.p .mov,[.v 0],none,false⟩,⟨1,.p (.bin .geq),[.t 0,.c (.int .u8 97)],none,false⟩,⟨2,.p .mov,[.t 0],none,false⟩,⟨3,.p .mov,[.v 0],some (0,true),false⟩,⟨4,.p (.bin .leq),[.t 0,.c (.int .u8 122)],some (1,true),false⟩,⟨5,.p .pick,[.t 2,.t 0,.c (.bool false)],none,false⟩,⟨6,.p .mov,[.t 0],none,false⟩,⟨7,.p .mov,[.v 0],some (0,false),false⟩,⟨8,.p (.bin .geq),[.t 0,.c (.int .u8 65)],some (1,false),false⟩,⟨9,.p .mov,[.t 0],some (2,false),false⟩,⟨10,.p .mov,[.v 0],some (0,true),false⟩,⟨11,.p (.bin .leq),[.t 0,.c (.int .u8 90)],some (1,true),false⟩,⟨12,.p .pick,[.t 2,.t 0,.c (.bool false)],some (5,false),false⟩,⟨13,.p .pick,[.t 6,.c (.bool true),.t 0],none,false⟩,⟨14,.p .mov,[.t 0],none,false⟩,⟨15,.p .mov,[.v 0],some (0,false),false⟩,⟨16,.p (.bin .eql),[.t 0,.c (.int .u8 95)],some (1,false),false⟩,⟨17,.p .pick,[.t 2,.c (.bool true),.t 0],none,false⟩,⟨18,.p .mov,[.t 0],none,false⟩,⟨19,.p .mov,[.v 0],some (0,false),false⟩,⟨20,.p (.bin .geq),[.t 0,.c (.int .u8 48)],some (1,false),false⟩,⟨21,.p .mov,[.t 0],some (2,false),false⟩,⟨22,.p .mov,[.v 0],some (0,true),false⟩,⟨23,.p (.bin .leq),[.t 0,.c (.int .u8 57)],some (1,true),false⟩,⟨24,.p .pick,[.t 2,.t 0,.c (.bool false)],some (5,false),false⟩,⟨25,.p .pick,[.t 6,.c (.bool true),.t 0],none,false⟩,⟨26,.p .mov,[.t 0],none,false⟩]
noncomputable def c135:CFn:={ nargs:=1,vars:=[0,2],results:=[.var 1],body:=(.seq (.reg qt0 [(1,0)]) (.seq (.reg qs9 [(1,0)]) .ret)) }
noncomputable def qs8:List SOp:=[⟨0,.p .mov,[.c (.bool false)],none,false⟩]
noncomputable def qs7:List SOp:=[⟨0,.p .mov,[.v 0],none,false⟩,⟨1,.p .lenStr,[.t 0],none,false⟩,⟨2,.p .mov,[.v 1],none,false⟩,⟨3,.p .lenStr,[.t 0],none,false⟩,⟨4,.p (.bin .geq),[.t 2,.t 0],none,false⟩,⟨5,.p .mov,[.t 0],none,false⟩,⟨6,.p .mov,[.v 0],some (0,true),false⟩,⟨7,.p .mov,[.v 1],some (1,true),false⟩,⟨8,.p .lenStr,[.t 0],some (2,true),false⟩,⟨9,.p (.sliceStr false true),[.t 2,.t 0],some (3,true),false⟩,⟨10,.p .mov,[.v 1],some (4,true),false⟩,⟨11,.p (.bin .eql),[.t 1,.t 0],some (5,true),false⟩,⟨12,.p .pick,[.t 6,.t 0,.c (.bool false)],none,false⟩,⟨13,.p .mov,[.t 0],none,false⟩]
noncomputable def c137:CFn:={ nargs:=2,vars:=[0,1,4],results:=[.var 2],body:=(.seq (.reg qs8 [(2,0)]) (.seq (.reg qs7 [(2,0)]) .ret)) }
noncomputable def qs6:List SOp:=[⟨0,.p .mov,[.c (.bool false)],none,false⟩]
noncomputable def qs5:List SOp:=[⟨0,.p .mov,[.v 0],none,false⟩,⟨1,.p .mov,[.v 1],none,false⟩,⟨2,.call 169,[.t 1,.t 0],none,false⟩,⟨3,.p (.bin .geq),[.t 0,.c (.int .i64 0)],none,false⟩,⟨4,.p .mov,[.t 0],none,false⟩]
noncomputable def c140:CFn:={ nargs:=2,vars:=[0,1,4],results:=[.var 2],body:=(.seq (.reg qs6 [(2,0)]) (.seq (.reg qs5 [(2,0)]) .ret)) }
noncomputable def qs4:List SOp:=[⟨0,.p .mov,[.c (.slice none 0 0)],none,false⟩]
noncomputable def qs3:List SOp:=[⟨0,.a (.bslice [.string ⟨#[]⟩,.string ⟨#[]⟩,.string ⟨#[]⟩,.string ⟨#[]⟩,.string ⟨#[]⟩,.string ⟨#[]⟩,.string ⟨#[]⟩,.string ⟨#[]⟩,.string ⟨#[]⟩,.string ⟨#[]⟩,.string ⟨#[]⟩,.string ⟨#[]⟩,.string ⟨#[]⟩] [(0,1),(1,1),(2,1),(3,1),(4,1),(5,1),(6,1),(7,1),(8,1),(9,1),(10,1),(11,1),(12,1)] 13 1),[.c (.string ⟨#[104,97,114,116,115]⟩),.c (.string ⟨#[100,101,118,105,99,101]⟩),.c (.string ⟨#[117,97,114,116]⟩),.c (.string ⟨#[116,105,109,101,114]⟩),.c (.string ⟨#[103,112,105,111]⟩),.c (.string ⟨#[114,101,115,111,117,114,99,101]⟩),.c (.string ⟨#[116,97,115,107]⟩),.c (.string ⟨#[104,97,110,100,108,101,114]⟩),.c (.string ⟨#[108,111,99,107]⟩),.c (.string ⟨#[105,102]⟩),.c (.string ⟨#[101,108,115,101]⟩),.c (.string ⟨#[114,101,112,101,97,116]⟩),.c (.string ⟨#[104,97,108,116]⟩)],none,false⟩,⟨1,.p .mov,[.t 0],none,false⟩]
noncomputable def c141:CFn:={ nargs:=0,vars:=[0],results:=[.var 0],body:=(.seq (.reg qs4 [(0,0)]) (.seq (.reg qs3 [(0,0)]) .ret)) }
noncomputable def qs2:List SOp:=[⟨0,.p .mov,[.c (.bool false)],none,false⟩]
noncomputable def qs1:List SOp:=[⟨0,.p .mov,[.v 0],none,false⟩,⟨1,.p .mov,[.v 1],none,false⟩,⟨2,.call 170,[.t 1,.t 0],none,false⟩,⟨3,.p (.bin .geq),[.t 0,.c (.int .i64 0)],none,false⟩,⟨4,.p .mov,[.t 0],none,false⟩]
noncomputable def c142:CFn:={ nargs:=2,vars:=[0,1,4],results:=[.var 2],body:=(.seq (.reg qs2 [(2,0)]) (.seq (.reg qs1 [(2,0)]) .ret)) }
noncomputable def qs0:List SOp:=[⟨0,.a .box,[.v 0],none,false⟩,⟨1,.p .mov,[.c (.bool false)],none,false⟩]
noncomputable def qr9:List SOp:=[⟨0,.r (.load true 7),[.v 2],none,false⟩,⟨1,.r (.load false 1),[.v 1],none,false⟩,⟨2,.call 144,[.t 1,.t 0],none,false⟩,⟨3,.p (.un .not),[.t 0],none,false⟩,⟨4,.p .mov,[.t 0],none,false⟩]
noncomputable def c143:CFn:={ nargs:=2,vars:=[0,1,2,3],results:=[.var 3],body:=(.seq (.reg qs0 [(2,1),(3,0)]) (.seq (.reg qr9 [(3,0)]) .ret)) }
noncomputable def qr8:List SOp:=[⟨0,.a .box,[.v 0],none,false⟩,⟨1,.p .mov,[.c (.bool false)],none,false⟩]
noncomputable def qr7:List SOp:=[⟨0,.p (.fieldAddr 0),[.v 2],none,false⟩,⟨1,.r (.load false 1),[.t 0],none,false⟩,⟨2,.call 171,[.t 0],none,false⟩,⟨3,.p .mov,[.t 0],none,false⟩,⟨4,.p (.extract 0),[.t 0],none,false⟩,⟨5,.p (.extract 1),[.t 1],none,false⟩,⟨6,.a (.new [.bool false,.bool false,.int .i64 0,.int .i64 0,.bool false,.bool false]),[],none,false⟩,⟨7,.w (.store 6),[.t 0,.t 2],none,false⟩,⟨8,.p .mov,[.t 2],none,false⟩]
noncomputable def qr6:List SOp:=[⟨0,.p .mov,[.v 5],none,false⟩,⟨1,.p .mov,[.t 0],none,false⟩,⟨2,.p .mov,[.v 1],some (0,true),false⟩,⟨3,.p (.bin .gtr),[.t 0,.c (.int .i64 0)],some (1,true),false⟩,⟨4,.p .pick,[.t 2,.t 0,.c (.bool false)],none,false⟩,⟨5,.p .mov,[.t 0],none,false⟩,⟨6,.p (.fieldAddr 1),[.v 2],some (0,true),false⟩,⟨7,.r (.load false 1),[.t 0],some (1,true),false⟩,⟨8,.p (.fieldAddr 0),[.v 4],some (2,true),false⟩,⟨9,.r (.load false 1),[.t 0],some (3,true),false⟩,⟨10,.call 172,[.t 2,.t 0],some (4,true),false⟩,⟨11,.p .pick,[.t 5,.t 0,.c (.bool false)],none,false⟩,⟨12,.p .mov,[.t 0],none,false⟩,⟨13,.p (.fieldAddr 2),[.v 2],some (0,true),false⟩,⟨14,.r (.load false 1),[.t 0],some (1,true),false⟩,⟨15,.p (.fieldAddr 1),[.v 4],some (2,true),false⟩,⟨16,.r (.load false 1),[.t 0],some (3,true),false⟩,⟨17,.call 172,[.t 2,.t 0],some (4,true),false⟩,⟨18,.p .pick,[.t 5,.t 0,.c (.bool false)],none,false⟩,⟨19,.p .mov,[.t 0],none,false⟩,⟨20,.p (.fieldAddr 3),[.v 2],some (0,true),false⟩,⟨21,.r (.load false 1),[.t 0],some (1,true),false⟩,⟨22,.p (.bin .geq),[.t 0,.c (.int .i64 0)],some (2,true),false⟩,⟨23,.p .pick,[.t 3,.t 0,.c (.bool false)],none,false⟩,⟨24,.p .mov,[.t 0],none,false⟩,⟨25,.p (.fieldAddr 3),[.v 2],some (0,true),false⟩,⟨26,.r (.load false 1),[.t 0],some (1,true),false⟩,⟨27,.p (.fieldAddr 2),[.v 4],some (2,true),false⟩,⟨28,.r (.load false 1),[.t 0],some (3,true),false⟩,⟨29,.p (.bin .leq),[.t 2,.t 0],some (4,true),false⟩,⟨30,.p .pick,[.t 5,.t 0,.c (.bool false)],none,false⟩,⟨31,.p .mov,[.t 0],none,false⟩,⟨32,.p (.fieldAddr 4),[.v 2],some (0,true),false⟩,⟨33,.r (.load false 1),[.t 0],some (1,true),false⟩,⟨34,.p .lenS,[.t 0],some (2,true),false⟩,⟨35,.p (.fieldAddr 3),[.v 4],some (3,true),false⟩,⟨36,.r (.load false 1),[.t 0],some (4,true),false⟩,⟨37,.p (.bin .eql),[.t 2,.t 0],some (5,true),false⟩,⟨38,.p .pick,[.t 6,.t 0,.c (.bool false)],none,false⟩,⟨39,.p .mov,[.t 0],none,false⟩,⟨40,.p (.fieldAddr 4),[.v 2],some (0,true),false⟩,⟨41,.r (.load false 1),[.t 0],some (1,true),false⟩,⟨42,.call 173,[.t 0,.c (.int .i64 30)],some (2,true),false⟩,⟨43,.p .pick,[.t 3,.t 0,.c (.bool false)],none,false⟩,⟨44,.p .mov,[.t 0],none,false⟩,⟨45,.p (.fieldAddr 4),[.v 4],some (0,true),false⟩,⟨46,.r (.load false 1),[.t 0],some (1,true),false⟩,⟨47,.p .mov,[.t 0],some (2,true),false⟩,⟨48,.p (.fieldAddr 5),[.v 2],some (0,false),false⟩,⟨49,.r (.load false 1),[.t 0],some (1,false),false⟩,⟨50,.p .lenS,[.t 0],some (2,false),false⟩,⟨51,.p (.bin .eql),[.t 0,.c (.int .i64 0)],some (3,false),false⟩,⟨52,.p .pick,[.t 4,.c (.bool true),.t 0],some (7,true),false⟩,⟨53,.p .pick,[.t 8,.t 0,.c (.bool false)],none,false⟩,⟨54,.p .mov,[.t 0],none,false⟩,⟨55,.p (.fieldAddr 5),[.v 4],some (0,true),false⟩,⟨56,.r (.load false 1),[.t 0],some (1,true),false⟩,⟨57,.p .mov,[.t 0],some (2,true),false⟩,⟨58,.p (.fieldAddr 6),[.v 2],some (0,false),false⟩,⟨59,.r (.load false 1),[.t 0],some (1,false),false⟩,⟨60,.p .lenS,[.t 0],some (2,false),false⟩,⟨61,.p (.bin .eql),[.t 0,.c (.int .i64 0)],some (3,false),false⟩,⟨62,.p .pick,[.t 4,.c (.bool true),.t 0],some (7,true),false⟩,⟨63,.p .pick,[.t 8,.t 0,.c (.bool false)],none,false⟩,⟨64,.p .mov,[.t 0],none,false⟩,⟨65,.p (.fieldAddr 5),[.v 2],some (0,true),false⟩,⟨66,.r (.load false 1),[.t 0],some (1,true),false⟩,⟨67,.p .mov,[.v 1],some (2,true),false⟩,⟨68,.p (.bin .sub),[.t 0,.c (.int .i64 1)],some (3,true),false⟩,⟨69,.call 107,[.t 2,.t 0],some (4,true),false⟩,⟨70,.p .pick,[.t 5,.t 0,.c (.bool false)],none,false⟩,⟨71,.p .mov,[.t 0],none,false⟩,⟨72,.p (.fieldAddr 6),[.v 2],some (0,true),false⟩,⟨73,.r (.load false 1),[.t 0],some (1,true),false⟩,⟨74,.p .mov,[.v 1],some (2,true),false⟩,⟨75,.p (.bin .sub),[.t 0,.c (.int .i64 1)],some (3,true),false⟩,⟨76,.call 107,[.t 2,.t 0],some (4,true),false⟩,⟨77,.p .pick,[.t 5,.t 0,.c (.bool false)],none,false⟩,⟨78,.p .mov,[.t 0],none,false⟩]
noncomputable def c144:CFn:={ nargs:=2,vars:=[0,1,2,4,5,6],results:=[.var 3],body:=(.seq (.reg qr8 [(2,1),(3,0)]) (.seq (.reg qr7 [(4,2),(5,0)]) (.seq (.reg qr6 [(3,0)]) .ret))) }
noncomputable def qr5:List SOp:=[⟨0,.p .mov,[.c (.slice none 0 0)],none,false⟩]
noncomputable def qr4:List SOp:=[⟨0,.p .mov,[.v 0],none,false⟩,⟨1,.p .mov,[.v 0],none,false⟩,⟨2,.p .lenS,[.t 0],none,false⟩,⟨3,.p .mov,[.v 0],none,false⟩,⟨4,.p .lenS,[.t 0],none,false⟩,⟨5,.p (.clip 1),[.t 4,.t 2,.t 0],none,false⟩,⟨6,.p .mov,[.t 0],none,false⟩]
noncomputable def c145:CFn:={ nargs:=1,vars:=[0,2],results:=[.var 1],body:=(.seq (.reg qr5 [(1,0)]) (.seq (.reg qr4 [(1,0)]) .ret)) }
noncomputable def qr3:List SOp:=[⟨0,.a .box,[.v 0],none,false⟩,⟨1,.a .box,[.v 1],none,false⟩,⟨2,.p .mov,[.c (.int .i64 0)],none,false⟩]
noncomputable def qr2:List SOp:=[⟨0,.p (.fieldAddr 1),[.v 2],none,false⟩,⟨1,.r (.load false 1),[.t 0],none,false⟩,⟨2,.p (.mkFunc 174 0),[.v 3],none,false⟩,⟨3,.call 108,[.t 1,.t 0],none,false⟩,⟨4,.p .mov,[.t 0],none,false⟩]
noncomputable def c146:CFn:={ nargs:=2,vars:=[0,1,2,3,4],results:=[.var 4],body:=(.seq (.reg qr3 [(2,2),(3,1),(4,0)]) (.seq (.reg qr2 [(4,0)]) .ret)) }
noncomputable def qr1:List SOp:=[⟨0,.p .mov,[.c (.bool false)],none,false⟩]
noncomputable def qr0:List SOp:=[⟨0,.p .mov,[.v 0],none,false⟩,⟨1,.p .mov,[.v 1],none,false⟩,⟨2,.call 175,[.t 1,.t 0],none,false⟩,⟨3,.p (.bin .geq),[.t 0,.c (.int .i64 0)],none,false⟩,⟨4,.p .mov,[.t 0],none,false⟩]
noncomputable def c147:CFn:={ nargs:=2,vars:=[0,1,4],results:=[.var 2],body:=(.seq (.reg qr1 [(2,0)]) (.seq (.reg qr0 [(2,0)]) .ret)) }
noncomputable def qq9:List SOp:=[⟨0,.p .mov,[.c (.bool false)],none,false⟩]
noncomputable def qq8:List SOp:=[⟨0,.r (.load false 1),[.v 1],none,false⟩,⟨1,.p .nilCheck,[.t 0],none,false⟩,⟨2,.p (.fieldAddr 0),[.t 0],none,false⟩,⟨3,.r (.load true 4),[.t 0],none,false⟩,⟨4,.p .mov,[.v 0],none,false⟩,⟨5,.call 49,[.t 1,.t 0],none,true⟩,⟨6,.r (.load false 1),[.v 2],none,false⟩,⟨7,.p (.bin .geq),[.t 1,.t 0],none,false⟩,⟨8,.p .mov,[.t 0],none,false⟩]
noncomputable def c148:CFn:={ nargs:=3,vars:=[0,1,2,4],results:=[.var 3],body:=(.seq (.reg qq9 [(3,0)]) (.seq (.reg qq8 [(3,0)]) .ret)) }
noncomputable def zp7:List SOp:=[⟨0,.p .mov,[.c (.int .i64 0)],none,false⟩]
noncomputable def zp6:List SOp:=[⟨0,.p .mov,[.v 0],none,false⟩,⟨1,.p .lenS,[.t 0],none,false⟩,⟨2,.p .mov,[.c (.int .i64 0)],none,false⟩]
noncomputable def zp5:List SOp:=[⟨0,.p (.bin .lss),[.v 5,.v 4],none,false⟩]
noncomputable def zp4:List SOp:=[⟨0,.p .mov,[.v 5],none,false⟩,⟨1,.p .mov,[.t 0],none,false⟩]
noncomputable def zp3:List SOp:=[⟨0,.p .mov,[.v 1],none,false⟩,⟨1,.p .mov,[.v 0],none,false⟩,⟨2,.p .mov,[.v 3],none,false⟩,⟨3,.p (.idxAddrS 1),[.t 1,.t 0],none,false⟩,⟨4,.r (.load false 1),[.t 0],none,false⟩,⟨5,.p (.bin .eql),[.t 4,.t 0],none,false⟩]
noncomputable def zp2:List SOp:=[⟨0,.p .mov,[.v 3],none,false⟩,⟨1,.p .mov,[.t 0],none,false⟩]
noncomputable def zp1:List SOp:=[⟨0,.p (.bin .add),[.v 5,.c (.int .i64 1)],none,false⟩,⟨1,.p .mov,[.t 0],none,false⟩]
noncomputable def qp8:CCode:=(.seq (.reg zp5 [(6,0)]) (.seq (.cond (.v 6) .skip (.exit 0)) (.seq (.block 1 (.seq (.reg zp4 [(3,0)]) (.rcond zp3 [] 0 (.seq (.reg zp2 [(2,0)]) .ret) .skip))) (.reg zp1 [(5,0)]))))
noncomputable def zp0:List SOp:=[⟨0,.p .mov,[.c (.int .i64 (-1))],none,false⟩]
noncomputable def c169:CFn:={ nargs:=2,vars:=[0,1,4,5,7,8,9],results:=[.var 2],body:=(.seq (.reg zp7 [(2,0)]) (.seq (.seq (.reg zp6 [(4,1),(5,0)]) (.block 0 (.loop qp8))) (.seq (.reg zp0 [(2,0)]) .ret))) }
noncomputable def zo8:List SOp:=[⟨0,.p .mov,[.c (.int .i64 0)],none,false⟩]
noncomputable def zo7:List SOp:=[⟨0,.p .mov,[.v 0],none,false⟩,⟨1,.p .lenS,[.t 0],none,false⟩,⟨2,.p .mov,[.c (.int .i64 0)],none,false⟩]
noncomputable def zo6:List SOp:=[⟨0,.p (.bin .lss),[.v 5,.v 4],none,false⟩]
noncomputable def zo5:List SOp:=[⟨0,.p .mov,[.v 5],none,false⟩,⟨1,.p .mov,[.t 0],none,false⟩]
noncomputable def zo4:List SOp:=[⟨0,.p .mov,[.v 1],none,false⟩,⟨1,.p .mov,[.v 0],none,false⟩,⟨2,.p .mov,[.v 3],none,false⟩,⟨3,.p (.idxAddrS 7),[.t 1,.t 0],none,false⟩,⟨4,.r (.load true 7),[.t 0],none,false⟩,⟨5,.callV,[.t 4,.t 0],none,false⟩]
noncomputable def zo3:List SOp:=[⟨0,.p .mov,[.v 3],none,false⟩,⟨1,.p .mov,[.t 0],none,false⟩]
noncomputable def zo2:List SOp:=[⟨0,.p (.bin .add),[.v 5,.c (.int .i64 1)],none,false⟩,⟨1,.p .mov,[.t 0],none,false⟩]
noncomputable def qo6:CCode:=(.seq (.reg zo6 [(6,0)]) (.seq (.cond (.v 6) .skip (.exit 0)) (.seq (.block 1 (.seq (.reg zo5 [(3,0)]) (.rcond zo4 [] 0 (.seq (.reg zo3 [(2,0)]) .ret) .skip))) (.reg zo2 [(5,0)]))))
noncomputable def zo1:List SOp:=[⟨0,.p .mov,[.c (.int .i64 (-1))],none,false⟩]
noncomputable def c170:CFn:={ nargs:=2,vars:=[0,1,4,5,7,8,9],results:=[.var 2],body:=(.seq (.reg zo8 [(2,0)]) (.seq (.seq (.reg zo7 [(4,1),(5,0)]) (.block 0 (.loop qo6))) (.seq (.reg zo1 [(2,0)]) .ret))) }
noncomputable def qo5:List SOp:=[⟨0,.a (.new [.bool false,.bool false,.int .i64 0,.int .i64 0,.bool false,.bool false]),[],none,false⟩,⟨1,.p .mov,[.c (.bool false)],none,false⟩]
noncomputable def qo4:List SOp:=[⟨0,.p .mov,[.v 0],none,false⟩]
noncomputable def qo3:List SOp:=[⟨0,.p (.bin .eql),[.v 3,.c (.int .i64 1)],none,false⟩,⟨1,.p .mov,[.t 0],none,false⟩]
noncomputable def qo2:List SOp:=[⟨0,.p (.build [.bool false,.bool false,.int .i64 0,.int .i64 0,.bool false,.bool false] [(0,1),(3,1)]),[.c (.bool true),.c (.int .i64 1)],none,false⟩,⟨1,.w (.store 6),[.v 1,.t 0],none,false⟩,⟨2,.p .mov,[.c (.bool true)],none,false⟩]
noncomputable def qo1:List SOp:=[⟨0,.p (.bin .eql),[.v 3,.c (.int .i64 2)],none,false⟩,⟨1,.p .mov,[.t 0],none,false⟩]
noncomputable def qo0:List SOp:=[⟨0,.p (.build [.bool false,.bool false,.int .i64 0,.int .i64 0,.bool false,.bool false] [(0,1),(1,1),(2,1)]),[.c (.bool true),.c (.bool true),.c (.int .i64 3)],none,false⟩,⟨1,.w (.store 6),[.v 1,.t 0],none,false⟩,⟨2,.p .mov,[.c (.bool true)],none,false⟩]
noncomputable def qn9:List SOp:=[⟨0,.p (.bin .eql),[.v 3,.c (.int .i64 3)],none,false⟩,⟨1,.p .mov,[.t 0],none,false⟩]
noncomputable def qn8:List SOp:=[⟨0,.p (.build [.bool false,.bool false,.int .i64 0,.int .i64 0,.bool false,.bool false] [(0,1),(2,1),(3,1)]),[.c (.bool true),.c (.int .i64 3),.c (.int .i64 1)],none,false⟩,⟨1,.w (.store 6),[.v 1,.t 0],none,false⟩,⟨2,.p .mov,[.c (.bool true)],none,false⟩]
noncomputable def qn7:List SOp:=[⟨0,.p (.bin .eql),[.v 3,.c (.int .i64 4)],none,false⟩,⟨1,.p .mov,[.t 0],none,false⟩]
noncomputable def qn6:List SOp:=[⟨0,.p (.build [.bool false,.bool false,.int .i64 0,.int .i64 0,.bool false,.bool false] [(0,1),(3,1)]),[.c (.bool true),.c (.int .i64 2)],none,false⟩,⟨1,.w (.store 6),[.v 1,.t 0],none,false⟩,⟨2,.p .mov,[.c (.bool true)],none,false⟩]
noncomputable def yh8:List SOp:=[⟨0,.p (.bin .eql),[.v 3,.c (.int .i64 5)],none,false⟩,⟨1,.p .mov,[.t 0],none,false⟩]
noncomputable def yh7:List SOp:=[⟨0,.p (.build [.bool false,.bool false,.int .i64 0,.int .i64 0,.bool false,.bool false] [(0,1),(4,1)]),[.c (.bool true),.c (.bool true)],none,false⟩,⟨1,.w (.store 6),[.v 1,.t 0],none,false⟩,⟨2,.p .mov,[.c (.bool true)],none,false⟩]
noncomputable def yh6:List SOp:=[⟨0,.p (.bin .eql),[.v 3,.c (.int .i64 6)],none,false⟩,⟨1,.p .mov,[.t 0],none,false⟩]
noncomputable def yh5:List SOp:=[⟨0,.p (.build [.bool false,.bool false,.int .i64 0,.int .i64 0,.bool false,.bool false] [(3,1),(4,1),(5,1)]),[.c (.int .i64 1),.c (.bool true),.c (.bool true)],none,false⟩,⟨1,.w (.store 6),[.v 1,.t 0],none,false⟩,⟨2,.p .mov,[.c (.bool true)],none,false⟩]
noncomputable def yh4:List SOp:=[⟨0,.p (.bin .eql),[.v 3,.c (.int .i64 7)],none,false⟩,⟨1,.p .mov,[.t 0],none,false⟩]
noncomputable def yh3:List SOp:=[⟨0,.p (.build [.bool false,.bool false,.int .i64 0,.int .i64 0,.bool false,.bool false] [(2,1),(4,1)]),[.c (.int .i64 20),.c (.bool true)],none,false⟩,⟨1,.w (.store 6),[.v 1,.t 0],none,false⟩,⟨2,.p .mov,[.c (.bool true)],none,false⟩]
noncomputable def yh2:List SOp:=[⟨0,.p (.bin .eql),[.v 3,.c (.int .i64 8)],none,false⟩,⟨1,.p .mov,[.t 0],none,false⟩]
noncomputable def yh1:List SOp:=[⟨0,.p (.build [.bool false,.bool false,.int .i64 0,.int .i64 0,.bool false,.bool false] []),[],none,false⟩,⟨1,.w (.store 6),[.v 1,.t 0],none,false⟩,⟨2,.p .mov,[.c (.bool true)],none,false⟩]
noncomputable def yh0:List SOp:=[⟨0,.p (.build [.bool false,.bool false,.int .i64 0,.int .i64 0,.bool false,.bool false] []),[],none,false⟩,⟨1,.w (.store 6),[.v 1,.t 0],none,false⟩,⟨2,.p .mov,[.c (.bool false)],none,false⟩]
noncomputable def c171:CFn:={ nargs:=1,vars:=[0,2,3,4],results:=[.cell 1 true 6,.var 2],body:=(.seq (.reg qo5 [(1,1),(2,0)]) (.seq (.seq (.reg qo4 [(3,0)]) (.block 0 (.rcond qo3 [] 0 (.seq (.reg qo2 [(2,0)]) .ret) (.rcond qo1 [] 0 (.seq (.reg qo0 [(2,0)]) .ret) (.rcond qn9 [] 0 (.seq (.reg qn8 [(2,0)]) .ret) (.rcond qn7 [] 0 (.seq (.reg qn6 [(2,0)]) .ret) (.rcond yh8 [] 0 (.seq (.reg yh7 [(2,0)]) .ret) (.rcond yh6 [] 0 (.seq (.reg yh5 [(2,0)]) .ret) (.rcond yh4 [] 0 (.seq (.reg yh3 [(2,0)]) .ret) (.rcond yh2 [] 0 (.seq (.reg yh1 [(2,0)]) .ret) .skip)))))))))) (.seq (.reg yh0 [(2,0)]) .ret))) }
noncomputable def qn5:List SOp:=[⟨0,.p .mov,[.c (.bool false)],none,false⟩]
noncomputable def qn4:List SOp:=[⟨0,.p .mov,[.v 1],none,false⟩,⟨1,.p (.un .not),[.t 0],none,false⟩]
noncomputable def qn3:List SOp:=[⟨0,.p .mov,[.v 0],none,false⟩,⟨1,.p (.bin .eql),[.t 0,.c (.string ⟨#[]⟩)],none,false⟩,⟨2,.p .mov,[.t 0],none,false⟩]
noncomputable def qn2:List SOp:=[⟨0,.p .mov,[.v 0],none,false⟩,⟨1,.call 66,[.t 0],none,false⟩,⟨2,.p .mov,[.t 0],none,false⟩]
noncomputable def c172:CFn:={ nargs:=2,vars:=[0,1,4],results:=[.var 2],body:=(.seq (.reg qn5 [(2,0)]) (.seq (.rcond qn4 [] 0 (.seq (.reg qn3 [(2,0)]) .ret) .skip) (.seq (.reg qn2 [(2,0)]) .ret))) }
noncomputable def qn1:List SOp:=[⟨0,.a .box,[.v 1],none,false⟩,⟨1,.p .mov,[.c (.bool false)],none,false⟩]
noncomputable def qn0:List SOp:=[⟨0,.p .mov,[.v 0],none,false⟩,⟨1,.p (.mkFunc 192 0),[.v 2],none,false⟩,⟨2,.call 191,[.t 1,.t 0],none,false⟩,⟨3,.p (.un .not),[.t 0],none,false⟩,⟨4,.p .mov,[.t 0],none,false⟩]
noncomputable def c173:CFn:={ nargs:=2,vars:=[0,1,3,4],results:=[.var 3],body:=(.seq (.reg qn1 [(2,1),(3,0)]) (.seq (.reg qn0 [(3,0)]) .ret)) }
noncomputable def qm9:List SOp:=[⟨0,.a .box,[.v 0],none,false⟩,⟨1,.p .mov,[.c (.bool false)],none,false⟩]
noncomputable def qm8:List SOp:=[⟨0,.p (.fieldAddr 0),[.v 2],none,false⟩,⟨1,.r (.load false 1),[.t 0],none,false⟩,⟨2,.r (.load false 1),[.v 1],none,false⟩,⟨3,.p (.bin .eql),[.t 1,.t 0],none,false⟩,⟨4,.p .mov,[.t 0],none,false⟩]
noncomputable def c174:CFn:={ nargs:=2,vars:=[0,1,2,3],results:=[.var 3],body:=(.seq (.reg qm9 [(2,1),(3,0)]) (.seq (.reg qm8 [(3,0)]) .ret)) }
noncomputable def zo0:List SOp:=[⟨0,.p .mov,[.c (.int .i64 0)],none,false⟩]
noncomputable def zn9:List SOp:=[⟨0,.p .mov,[.v 0],none,false⟩,⟨1,.p .lenS,[.t 0],none,false⟩,⟨2,.p .mov,[.c (.int .i64 0)],none,false⟩]
noncomputable def zn8:List SOp:=[⟨0,.p (.bin .lss),[.v 5,.v 4],none,false⟩]
noncomputable def zn7:List SOp:=[⟨0,.p .mov,[.v 5],none,false⟩,⟨1,.p .mov,[.t 0],none,false⟩]
noncomputable def zn6:List SOp:=[⟨0,.p .mov,[.v 1],none,false⟩,⟨1,.p .mov,[.v 0],none,false⟩,⟨2,.p .mov,[.v 3],none,false⟩,⟨3,.p (.idxAddrS 1),[.t 1,.t 0],none,false⟩,⟨4,.r (.load false 1),[.t 0],none,false⟩,⟨5,.callV,[.t 4,.t 0],none,false⟩]
noncomputable def zn5:List SOp:=[⟨0,.p .mov,[.v 3],none,false⟩,⟨1,.p .mov,[.t 0],none,false⟩]
noncomputable def zn4:List SOp:=[⟨0,.p (.bin .add),[.v 5,.c (.int .i64 1)],none,false⟩,⟨1,.p .mov,[.t 0],none,false⟩]
noncomputable def qm7:CCode:=(.seq (.reg zn8 [(6,0)]) (.seq (.cond (.v 6) .skip (.exit 0)) (.seq (.block 1 (.seq (.reg zn7 [(3,0)]) (.rcond zn6 [] 0 (.seq (.reg zn5 [(2,0)]) .ret) .skip))) (.reg zn4 [(5,0)]))))
noncomputable def zn3:List SOp:=[⟨0,.p .mov,[.c (.int .i64 (-1))],none,false⟩]
noncomputable def c175:CFn:={ nargs:=2,vars:=[0,1,4,5,7,8,9],results:=[.var 2],body:=(.seq (.reg zo0 [(2,0)]) (.seq (.seq (.reg zn9 [(4,1),(5,0)]) (.block 0 (.loop qm7))) (.seq (.reg zn3 [(2,0)]) .ret))) }
noncomputable def qm6:List SOp:=[⟨0,.p .mov,[.c (.bool false)],none,false⟩]
noncomputable def qm5:List SOp:=[⟨0,.p .mov,[.v 0],none,false⟩,⟨1,.p .mov,[.v 1],none,false⟩,⟨2,.call 212,[.t 1,.t 0],none,false⟩,⟨3,.p (.bin .geq),[.t 0,.c (.int .i64 0)],none,false⟩,⟨4,.p .mov,[.t 0],none,false⟩]
noncomputable def c191:CFn:={ nargs:=2,vars:=[0,1,4],results:=[.var 2],body:=(.seq (.reg qm6 [(2,0)]) (.seq (.reg qm5 [(2,0)]) .ret)) }
noncomputable def qm4:List SOp:=[⟨0,.a .box,[.v 0],none,false⟩,⟨1,.p .mov,[.c (.bool false)],none,false⟩]
noncomputable def qm3:List SOp:=[⟨0,.r (.load true 5),[.v 2],none,false⟩,⟨1,.call 193,[.t 0],none,false⟩,⟨2,.p .mov,[.t 0],none,false⟩,⟨3,.p (.extract 0),[.t 0],none,false⟩,⟨4,.p (.extract 1),[.t 1],none,false⟩,⟨5,.p .mov,[.t 1],none,false⟩,⟨6,.p .mov,[.t 1],none,false⟩]
noncomputable def qm2:List SOp:=[⟨0,.r (.load false 1),[.v 1],none,false⟩,⟨1,.p (.bin .lss),[.t 0,.c (.int .i64 1)],none,false⟩,⟨2,.p .mov,[.t 0],none,false⟩,⟨3,.p .mov,[.v 5],some (0,false),false⟩,⟨4,.p (.un .not),[.t 0],some (1,false),false⟩,⟨5,.p .pick,[.t 2,.c (.bool true),.t 0],none,false⟩,⟨6,.p .mov,[.t 0],none,false⟩,⟨7,.p (.fieldAddr 4),[.v 2],some (0,false),false⟩,⟨8,.r (.load false 1),[.t 0],some (1,false),false⟩,⟨9,.p .lenS,[.t 0],some (2,false),false⟩,⟨10,.p .mov,[.v 4],some (3,false),false⟩,⟨11,.p (.bin .neq),[.t 1,.t 0],some (4,false),false⟩,⟨12,.p .pick,[.t 5,.c (.bool true),.t 0],none,false⟩,⟨13,.p .mov,[.t 0],none,false⟩,⟨14,.p (.fieldAddr 4),[.v 2],some (0,false),false⟩,⟨15,.r (.load false 1),[.t 0],some (1,false),false⟩,⟨16,.r (.load false 1),[.v 1],some (2,false),false⟩,⟨17,.p (.bin .sub),[.t 0,.c (.int .i64 1)],some (3,false),false⟩,⟨18,.call 173,[.t 2,.t 0],some (4,false),false⟩,⟨19,.p (.un .not),[.t 0],some (5,false),false⟩,⟨20,.p .pick,[.t 6,.c (.bool true),.t 0],none,false⟩,⟨21,.p .mov,[.t 0],none,false⟩]
noncomputable def c192:CFn:={ nargs:=2,vars:=[0,1,2,3,4,5],results:=[.var 3],body:=(.seq (.reg qm4 [(2,1),(3,0)]) (.seq (.reg qm3 [(4,1),(5,0)]) (.seq (.reg qm2 [(3,0)]) .ret))) }
noncomputable def qm1:List SOp:=[⟨0,.a .box,[.v 0],none,false⟩,⟨1,.p .mov,[.c (.int .i64 0)],none,false⟩,⟨2,.p .mov,[.c (.bool false)],none,false⟩]
noncomputable def qm0:List SOp:=[⟨0,.p (.fieldAddr 0),[.v 1],none,false⟩,⟨1,.r (.load false 1),[.t 0],none,false⟩,⟨2,.p (.build [.int .i64 0,.int .i64 0,.int .i64 0,.string ⟨#[]⟩,.slice none 0 0] [(0,1)]),[.t 0],none,false⟩,⟨3,.a (.new [.int .i64 0,.int .i64 0,.int .i64 0,.string ⟨#[]⟩,.slice none 0 0]),[],none,false⟩,⟨4,.w (.store 5),[.t 0,.t 1],none,false⟩]
noncomputable def ql9:List SOp:=[⟨0,.p (.fieldAddr 0),[.v 1],none,false⟩,⟨1,.r (.load false 1),[.t 0],none,false⟩]
noncomputable def ql8:List SOp:=[⟨0,.p (.bin .eql),[.v 5,.c (.int .i64 1)],none,false⟩,⟨1,.p .mov,[.t 0],none,false⟩]
noncomputable def ql7:List SOp:=[⟨0,.p (.fieldAddr 2),[.v 1],none,false⟩,⟨1,.r (.load false 1),[.t 0],none,false⟩,⟨2,.p (.fieldAddr 2),[.v 4],none,false⟩,⟨3,.w (.store 1),[.t 0,.t 1],none,false⟩]
noncomputable def ql6:List SOp:=[⟨0,.p (.fieldAddr 2),[.v 1],none,false⟩,⟨1,.r (.load false 1),[.t 0],none,false⟩,⟨2,.p (.fieldAddr 2),[.v 1],none,false⟩,⟨3,.r (.load false 1),[.t 0],none,false⟩,⟨4,.p (.conv .u32),[.t 0],none,false⟩,⟨5,.p (.conv .i64),[.t 0],none,false⟩,⟨6,.p (.bin .eql),[.t 4,.t 0],none,false⟩,⟨7,.p .mov,[.t 0],none,false⟩]
noncomputable def ql5:List SOp:=[⟨0,.p (.bin .eql),[.v 5,.c (.int .i64 2)],none,false⟩,⟨1,.p .mov,[.t 0],none,false⟩]
noncomputable def ql4:List SOp:=[⟨0,.p (.fieldAddr 3),[.v 1],none,false⟩,⟨1,.r (.load false 1),[.t 0],none,false⟩,⟨2,.p (.fieldAddr 3),[.v 4],none,false⟩,⟨3,.w (.store 1),[.t 0,.t 1],none,false⟩]
noncomputable def ql3:List SOp:=[⟨0,.p (.fieldAddr 3),[.v 1],none,false⟩,⟨1,.r (.load false 1),[.t 0],none,false⟩,⟨2,.call 66,[.t 0],none,false⟩,⟨3,.p .mov,[.t 0],none,false⟩]
noncomputable def ql2:List SOp:=[⟨0,.p (.bin .eql),[.v 5,.c (.int .i64 3)],none,false⟩,⟨1,.p .mov,[.t 0],none,false⟩]
noncomputable def yg9:List SOp:=[⟨0,.p (.fieldAddr 1),[.v 1],none,false⟩,⟨1,.r (.load false 1),[.t 0],none,false⟩,⟨2,.p (.fieldAddr 1),[.v 4],none,false⟩,⟨3,.w (.store 1),[.t 0,.t 1],none,false⟩]
noncomputable def yg8:List SOp:=[⟨0,.p (.fieldAddr 1),[.v 1],none,false⟩,⟨1,.r (.load false 1),[.t 0],none,false⟩,⟨2,.p (.bin .eql),[.t 0,.c (.int .i64 15)],none,false⟩,⟨3,.p .mov,[.t 0],none,false⟩,⟨4,.p (.fieldAddr 1),[.v 1],some (0,false),false⟩,⟨5,.r (.load false 1),[.t 0],some (1,false),false⟩,⟨6,.p (.bin .eql),[.t 0,.c (.int .i64 16)],some (2,false),false⟩,⟨7,.p .pick,[.t 3,.c (.bool true),.t 0],none,false⟩,⟨8,.p .mov,[.t 0],none,false⟩,⟨9,.p (.fieldAddr 1),[.v 1],some (0,false),false⟩,⟨10,.r (.load false 1),[.t 0],some (1,false),false⟩,⟨11,.p (.bin .eql),[.t 0,.c (.int .i64 17)],some (2,false),false⟩,⟨12,.p .pick,[.t 3,.c (.bool true),.t 0],none,false⟩,⟨13,.p .mov,[.c (.int .i64 1)],none,false⟩,⟨14,.p .mov,[.t 1],none,false⟩]
noncomputable def yg7:List SOp:=[⟨0,.p (.bin .eql),[.v 5,.c (.int .i64 4)],none,false⟩,⟨1,.p .mov,[.t 0],none,false⟩]
noncomputable def yg6:List SOp:=[⟨0,.p (.fieldAddr 1),[.v 1],none,false⟩,⟨1,.r (.load false 1),[.t 0],none,false⟩,⟨2,.p (.fieldAddr 1),[.v 4],none,false⟩,⟨3,.w (.store 1),[.t 0,.t 1],none,false⟩]
noncomputable def yg5:List SOp:=[⟨0,.p (.fieldAddr 1),[.v 1],none,false⟩,⟨1,.r (.load false 1),[.t 0],none,false⟩,⟨2,.call 211,[.t 0],none,false⟩,⟨3,.p (.bin .gtr),[.t 0,.c (.int .i64 0)],none,false⟩,⟨4,.p .mov,[.c (.int .i64 2)],none,false⟩,⟨5,.p .mov,[.t 1],none,false⟩]
noncomputable def yg4:List SOp:=[⟨0,.p (.bin .eql),[.v 5,.c (.int .i64 5)],none,false⟩,⟨1,.p .mov,[.t 0],none,false⟩]
noncomputable def yg3:List SOp:=[⟨0,.p (.fieldAddr 3),[.v 1],none,false⟩,⟨1,.r (.load false 1),[.t 0],none,false⟩,⟨2,.p (.fieldAddr 3),[.v 4],none,false⟩,⟨3,.w (.store 1),[.t 0,.t 1],none,false⟩]
noncomputable def yg2:List SOp:=[⟨0,.p (.fieldAddr 3),[.v 1],none,false⟩,⟨1,.r (.load false 1),[.t 0],none,false⟩,⟨2,.call 66,[.t 0],none,false⟩,⟨3,.p .mov,[.c (.int .i64 1)],none,false⟩,⟨4,.p .mov,[.t 1],none,false⟩]
noncomputable def yg1:List SOp:=[⟨0,.p .mov,[.v 2],none,false⟩,⟨1,.p .mov,[.v 3],none,false⟩,⟨2,.p .mov,[.t 0],none,false⟩,⟨3,.r (.load true 5),[.v 1],some (0,true),false⟩,⟨4,.r (.load true 5),[.v 4],some (1,true),false⟩,⟨5,.call 213,[.t 1,.t 0],some (2,true),false⟩,⟨6,.p .pick,[.t 3,.t 0,.c (.bool false)],none,false⟩,⟨7,.p .mov,[.t 6],none,false⟩,⟨8,.p .mov,[.t 1],none,false⟩]
noncomputable def c193:CFn:={ nargs:=1,vars:=[0,1,2,3,4,9],results:=[.var 2,.var 3],body:=(.seq (.reg qm1 [(1,2),(2,1),(3,0)]) (.seq (.reg qm0 [(4,1)]) (.seq (.seq (.reg ql9 [(5,0)]) (.block 0 (.rcond ql8 [] 0 (.seq (.reg ql7 []) (.reg ql6 [(3,0)])) (.rcond ql5 [] 0 (.seq (.reg ql4 []) (.reg ql3 [(3,0)])) (.rcond ql2 [] 0 (.seq (.reg yg9 []) (.reg yg8 [(2,1),(3,0)])) (.rcond yg7 [] 0 (.seq (.reg yg6 []) (.reg yg5 [(2,1),(3,0)])) (.rcond yg4 [] 0 (.seq (.reg yg3 []) (.reg yg2 [(2,1),(3,0)])) .skip))))))) (.seq (.reg yg1 [(2,1),(3,0)]) .ret)))) }
noncomputable def qk0:List SOp:=[⟨0,.p .mov,[.c (.int .i64 0)],none,false⟩]
noncomputable def qj9:List SOp:=[⟨0,.p .mov,[.v 0],none,false⟩]
noncomputable def qj8:List SOp:=[⟨0,.p (.bin .eql),[.v 2,.c (.int .i64 3)],none,false⟩,⟨1,.p .mov,[.t 0],none,false⟩]
noncomputable def qj7:List SOp:=[⟨0,.p (.bin .eql),[.v 2,.c (.int .i64 4)],none,false⟩,⟨1,.p .mov,[.t 0],none,false⟩]
noncomputable def qj6:List SOp:=[⟨0,.p (.bin .eql),[.v 2,.c (.int .i64 5)],none,false⟩,⟨1,.p .mov,[.t 0],none,false⟩]
noncomputable def qj5:List SOp:=[⟨0,.p (.bin .eql),[.v 2,.c (.int .i64 1)],none,false⟩,⟨1,.p .mov,[.t 0],none,false⟩]
noncomputable def qj4:List SOp:=[⟨0,.p (.bin .eql),[.v 2,.c (.int .i64 2)],none,false⟩,⟨1,.p .mov,[.t 0],none,false⟩]
noncomputable def qj3:List SOp:=[⟨0,.p (.bin .eql),[.v 2,.c (.int .i64 9)],none,false⟩,⟨1,.p .mov,[.t 0],none,false⟩]
noncomputable def qj2:List SOp:=[⟨0,.p (.bin .eql),[.v 2,.c (.int .i64 10)],none,false⟩,⟨1,.p .mov,[.t 0],none,false⟩]
noncomputable def qj1:List SOp:=[⟨0,.p (.bin .eql),[.v 2,.c (.int .i64 11)],none,false⟩,⟨1,.p .mov,[.t 0],none,false⟩]
noncomputable def yg0:List SOp:=[⟨0,.p (.bin .eql),[.v 2,.c (.int .i64 12)],none,false⟩,⟨1,.p .mov,[.t 0],none,false⟩]
noncomputable def yf9:List SOp:=[⟨0,.p (.bin .eql),[.v 2,.c (.int .i64 13)],none,false⟩,⟨1,.p .mov,[.t 0],none,false⟩]
noncomputable def yf8:List SOp:=[⟨0,.p (.bin .eql),[.v 2,.c (.int .i64 14)],none,false⟩,⟨1,.p .mov,[.t 0],none,false⟩]
noncomputable def yf7:List SOp:=[⟨0,.p (.bin .eql),[.v 2,.c (.int .i64 6)],none,false⟩,⟨1,.p .mov,[.t 0],none,false⟩]
noncomputable def yf6:List SOp:=[⟨0,.p (.bin .eql),[.v 2,.c (.int .i64 8)],none,false⟩,⟨1,.p .mov,[.t 0],none,false⟩]
noncomputable def yf5:List SOp:=[⟨0,.p (.bin .eql),[.v 2,.c (.int .i64 7)],none,false⟩,⟨1,.p .mov,[.t 0],none,false⟩]
noncomputable def yf4:List SOp:=[⟨0,.p .mov,[.v 1],none,false⟩,⟨1,.p (.bin .add),[.t 0,.c (.int .i64 1)],none,false⟩,⟨2,.p .mov,[.t 0],none,false⟩]
noncomputable def yf3:List SOp:=[⟨0,.p .mov,[.v 1],none,false⟩,⟨1,.p (.bin .add),[.t 0,.c (.int .i64 1)],none,false⟩,⟨2,.p .mov,[.t 0],none,false⟩]
noncomputable def yf2:List SOp:=[⟨0,.p .mov,[.v 1],none,false⟩,⟨1,.p (.bin .add),[.t 0,.c (.int .i64 1)],none,false⟩,⟨2,.p .mov,[.t 0],none,false⟩]
noncomputable def yf1:List SOp:=[⟨0,.p .mov,[.v 1],none,false⟩,⟨1,.p (.bin .add),[.t 0,.c (.int .i64 1)],none,false⟩,⟨2,.p .mov,[.t 0],none,false⟩]
noncomputable def yf0:List SOp:=[⟨0,.p .mov,[.v 1],none,false⟩,⟨1,.p (.bin .add),[.t 0,.c (.int .i64 1)],none,false⟩,⟨2,.p .mov,[.t 0],none,false⟩]
noncomputable def ye9:List SOp:=[⟨0,.p .mov,[.v 1],none,false⟩,⟨1,.p (.bin .add),[.t 0,.c (.int .i64 1)],none,false⟩,⟨2,.p .mov,[.t 0],none,false⟩]
noncomputable def ye8:List SOp:=[⟨0,.p .mov,[.v 1],none,false⟩,⟨1,.p (.bin .add),[.t 0,.c (.int .i64 1)],none,false⟩,⟨2,.p .mov,[.t 0],none,false⟩]
noncomputable def ye7:List SOp:=[⟨0,.p .mov,[.v 1],none,false⟩,⟨1,.p (.bin .add),[.t 0,.c (.int .i64 1)],none,false⟩,⟨2,.p .mov,[.t 0],none,false⟩]
noncomputable def c211:CFn:={ nargs:=1,vars:=[0,2,3,4,8,11,14,17],results:=[.var 1],body:=(.seq (.reg qk0 [(1,0)]) (.seq (.seq (.reg qj9 [(2,0)]) (.block 0 (.seq (.block 8 (.seq (.block 7 (.seq (.block 6 (.seq (.block 5 (.seq (.block 4 (.seq (.block 3 (.seq (.block 2 (.seq (.block 1 (.seq (.seq (.seq (.rcond qj8 [(3,0)] 0 .skip (.rcond qj7 [(3,0)] 0 .skip (.reg qj6 [(3,0)]))) (.cond (.v 3) (.exit 1) .skip)) (.seq (.seq (.rcond qj5 [(4,0)] 0 .skip (.reg qj4 [(4,0)])) (.cond (.v 4) (.exit 2) .skip)) (.seq (.seq (.rcond qj3 [(5,0)] 0 .skip (.reg qj2 [(5,0)])) (.cond (.v 5) (.exit 3) .skip)) (.seq (.seq (.rcond qj1 [(6,0)] 0 .skip (.reg yg0 [(6,0)])) (.cond (.v 6) (.exit 4) .skip)) (.seq (.seq (.rcond yf9 [(7,0)] 0 .skip (.reg yf8 [(7,0)])) (.cond (.v 7) (.exit 5) .skip)) (.seq (.rcond yf7 [] 0 (.exit 6) .skip) (.seq (.rcond yf6 [] 0 (.exit 7) .skip) (.rcond yf5 [] 0 (.exit 8) .skip)))))))) (.exit 0))) (.reg yf4 [(1,0)]))) (.reg yf3 [(1,0)]))) (.reg yf2 [(1,0)]))) (.reg yf1 [(1,0)]))) (.reg yf0 [(1,0)]))) (.reg ye9 [(1,0)]))) (.reg ye8 [(1,0)]))) (.seq (.reg ye7 [(1,0)]) (.exit 0))))) .ret)) }
noncomputable def zm9:List SOp:=[⟨0,.p .mov,[.c (.int .i64 0)],none,false⟩]
noncomputable def zm8:List SOp:=[⟨0,.p .mov,[.v 0],none,false⟩,⟨1,.p .lenS,[.t 0],none,false⟩,⟨2,.p .mov,[.c (.int .i64 0)],none,false⟩]
noncomputable def zm7:List SOp:=[⟨0,.p (.bin .lss),[.v 5,.v 4],none,false⟩]
noncomputable def zm6:List SOp:=[⟨0,.p .mov,[.v 5],none,false⟩,⟨1,.p .mov,[.t 0],none,false⟩]
noncomputable def zm5:List SOp:=[⟨0,.p .mov,[.v 1],none,false⟩,⟨1,.p .mov,[.v 0],none,false⟩,⟨2,.p .mov,[.v 3],none,false⟩,⟨3,.p (.idxAddrS 5),[.t 1,.t 0],none,false⟩,⟨4,.r (.load true 5),[.t 0],none,false⟩,⟨5,.callV,[.t 4,.t 0],none,false⟩]
noncomputable def zm4:List SOp:=[⟨0,.p .mov,[.v 3],none,false⟩,⟨1,.p .mov,[.t 0],none,false⟩]
noncomputable def zm3:List SOp:=[⟨0,.p (.bin .add),[.v 5,.c (.int .i64 1)],none,false⟩,⟨1,.p .mov,[.t 0],none,false⟩]
noncomputable def qj0:CCode:=(.seq (.reg zm7 [(6,0)]) (.seq (.cond (.v 6) .skip (.exit 0)) (.seq (.block 1 (.seq (.reg zm6 [(3,0)]) (.rcond zm5 [] 0 (.seq (.reg zm4 [(2,0)]) .ret) .skip))) (.reg zm3 [(5,0)]))))
noncomputable def zm2:List SOp:=[⟨0,.p .mov,[.c (.int .i64 (-1))],none,false⟩]
noncomputable def c212:CFn:={ nargs:=2,vars:=[0,1,4,5,7,8,9],results:=[.var 2],body:=(.seq (.reg zm9 [(2,0)]) (.seq (.seq (.reg zm8 [(4,1),(5,0)]) (.block 0 (.loop qj0))) (.seq (.reg zm2 [(2,0)]) .ret))) }
noncomputable def qi9:List SOp:=[⟨0,.a .box,[.v 0],none,false⟩,⟨1,.a .box,[.v 1],none,false⟩,⟨2,.p .mov,[.c (.bool false)],none,false⟩]
noncomputable def qi8:List SOp:=[⟨0,.p (.fieldAddr 0),[.v 2],none,false⟩,⟨1,.r (.load false 1),[.t 0],none,false⟩,⟨2,.p (.fieldAddr 0),[.v 3],none,false⟩,⟨3,.r (.load false 1),[.t 0],none,false⟩,⟨4,.p (.bin .eql),[.t 2,.t 0],none,false⟩,⟨5,.p .mov,[.t 0],none,false⟩,⟨6,.p (.fieldAddr 1),[.v 2],some (0,true),false⟩,⟨7,.r (.load false 1),[.t 0],some (1,true),false⟩,⟨8,.p (.fieldAddr 1),[.v 3],some (2,true),false⟩,⟨9,.r (.load false 1),[.t 0],some (3,true),false⟩,⟨10,.p (.bin .eql),[.t 2,.t 0],some (4,true),false⟩,⟨11,.p .pick,[.t 5,.t 0,.c (.bool false)],none,false⟩,⟨12,.p .mov,[.t 0],none,false⟩,⟨13,.p (.fieldAddr 2),[.v 2],some (0,true),false⟩,⟨14,.r (.load false 1),[.t 0],some (1,true),false⟩,⟨15,.p (.fieldAddr 2),[.v 3],some (2,true),false⟩,⟨16,.r (.load false 1),[.t 0],some (3,true),false⟩,⟨17,.p (.bin .eql),[.t 2,.t 0],some (4,true),false⟩,⟨18,.p .pick,[.t 5,.t 0,.c (.bool false)],none,false⟩,⟨19,.p .mov,[.t 0],none,false⟩,⟨20,.p (.fieldAddr 3),[.v 2],some (0,true),false⟩,⟨21,.r (.load false 1),[.t 0],some (1,true),false⟩,⟨22,.p (.fieldAddr 3),[.v 3],some (2,true),false⟩,⟨23,.r (.load false 1),[.t 0],some (3,true),false⟩,⟨24,.p (.bin .eql),[.t 2,.t 0],some (4,true),false⟩,⟨25,.p .pick,[.t 5,.t 0,.c (.bool false)],none,false⟩,⟨26,.p .mov,[.t 0],none,false⟩]
noncomputable def c213:CFn:={ nargs:=2,vars:=[0,1,2,3,4],results:=[.var 4],body:=(.seq (.reg qi9 [(2,2),(3,1),(4,0)]) (.seq (.reg qi8 [(4,0)]) .ret)) }
set_option maxRecDepth 100000 in
theorem ok11:FnOk Tryz.prog 11 c11:=zj (na:=c11.nargs) (vars:=c11.vars) (by kernel_rfl)
set_option maxRecDepth 100000 in
theorem ok12:FnOk Tryz.prog 12 c12:=zj (na:=c12.nargs) (vars:=c12.vars) (by kernel_rfl)
set_option maxRecDepth 100000 in
theorem ok14:FnOk Tryz.prog 14 c14:=zj (na:=c14.nargs) (vars:=c14.vars) (by kernel_rfl)
set_option maxRecDepth 100000 in
theorem ok15:FnOk Tryz.prog 15 c15:=zj (na:=c15.nargs) (vars:=c15.vars) (by kernel_rfl)
set_option maxRecDepth 100000 in
theorem ok16:FnOk Tryz.prog 16 c16:=zj (na:=c16.nargs) (vars:=c16.vars) (by kernel_rfl)
set_option maxRecDepth 100000 in
theorem ok18:FnOk Tryz.prog 18 c18:=zj (na:=c18.nargs) (vars:=c18.vars) (by kernel_rfl)
set_option maxRecDepth 100000 in
theorem ok20:FnOk Tryz.prog 20 c20:=zj (na:=c20.nargs) (vars:=c20.vars) (by kernel_rfl)
set_option maxRecDepth 100000 in
theorem ok22:FnOk Tryz.prog 22 c22:=zj (na:=c22.nargs) (vars:=c22.vars) (by kernel_rfl)
set_option maxRecDepth 100000 in
theorem ok25:FnOk Tryz.prog 25 c25:=zj (na:=c25.nargs) (vars:=c25.vars) (by kernel_rfl)
set_option maxRecDepth 100000 in
theorem ok27:FnOk Tryz.prog 27 c27:=zj (na:=c27.nargs) (vars:=c27.vars) (by kernel_rfl)
set_option maxRecDepth 100000 in
theorem ok28:FnOk Tryz.prog 28 c28:=zj (na:=c28.nargs) (vars:=c28.vars) (by kernel_rfl)
set_option maxRecDepth 100000 in
theorem ok29:FnOk Tryz.prog 29 c29:=zj (na:=c29.nargs) (vars:=c29.vars) (by kernel_rfl)
set_option maxRecDepth 100000 in
theorem ok30:FnOk Tryz.prog 30 c30:=zj (na:=c30.nargs) (vars:=c30.vars) (by kernel_rfl)
set_option maxRecDepth 100000 in
theorem ok33:FnOk Tryz.prog 33 c33:=zj (na:=c33.nargs) (vars:=c33.vars) (by kernel_rfl)
set_option maxRecDepth 100000 in
theorem ok34:FnOk Tryz.prog 34 c34:=zj (na:=c34.nargs) (vars:=c34.vars) (by kernel_rfl)
set_option maxRecDepth 100000 in
theorem ok35:FnOk Tryz.prog 35 c35:=zj (na:=c35.nargs) (vars:=c35.vars) (by kernel_rfl)
set_option maxRecDepth 100000 in
theorem ok36:FnOk Tryz.prog 36 c36:=zj (na:=c36.nargs) (vars:=c36.vars) (by kernel_rfl)
set_option maxRecDepth 100000 in
theorem ok37:FnOk Tryz.prog 37 c37:=zj (na:=c37.nargs) (vars:=c37.vars) (by kernel_rfl)
set_option maxRecDepth 100000 in
theorem ok44:FnOk Tryz.prog 44 c44:=zj (na:=c44.nargs) (vars:=c44.vars) (by kernel_rfl)
set_option maxRecDepth 100000 in
theorem ok45:FnOk Tryz.prog 45 c45:=zj (na:=c45.nargs) (vars:=c45.vars) (by kernel_rfl)
set_option maxRecDepth 100000 in
theorem ok46:FnOk Tryz.prog 46 c46:=zj (na:=c46.nargs) (vars:=c46.vars) (by kernel_rfl)
set_option maxRecDepth 100000 in
theorem ok47:FnOk Tryz.prog 47 c47:=zj (na:=c47.nargs) (vars:=c47.vars) (by kernel_rfl)
set_option maxRecDepth 100000 in
theorem ok48:FnOk Tryz.prog 48 c48:=zj (na:=c48.nargs) (vars:=c48.vars) (by kernel_rfl)
set_option maxRecDepth 100000 in
theorem ok49:FnOk Tryz.prog 49 c49:=zj (na:=c49.nargs) (vars:=c49.vars) (by kernel_rfl)
set_option maxRecDepth 100000 in
theorem ok51:FnOk Tryz.prog 51 c51:=zj (na:=c51.nargs) (vars:=c51.vars) (by kernel_rfl)
set_option maxRecDepth 100000 in
theorem ok52:FnOk Tryz.prog 52 c52:=zj (na:=c52.nargs) (vars:=c52.vars) (by kernel_rfl)
set_option maxRecDepth 100000 in
theorem ok65:FnOk Tryz.prog 65 c65:=zj (na:=c65.nargs) (vars:=c65.vars) (by kernel_rfl)
set_option maxRecDepth 100000 in
theorem ok66:FnOk Tryz.prog 66 c66:=zj (na:=c66.nargs) (vars:=c66.vars) (by kernel_rfl)
set_option maxRecDepth 100000 in
theorem ok67:FnOk Tryz.prog 67 c67:=zj (na:=c67.nargs) (vars:=c67.vars) (by kernel_rfl)
set_option maxRecDepth 100000 in
theorem ok68:FnOk Tryz.prog 68 c68:=zj (na:=c68.nargs) (vars:=c68.vars) (by kernel_rfl)
set_option maxRecDepth 100000 in
theorem ok69:FnOk Tryz.prog 69 c69:=zj (na:=c69.nargs) (vars:=c69.vars) (by kernel_rfl)
set_option maxRecDepth 100000 in
theorem ok70:FnOk Tryz.prog 70 c70:=zj (na:=c70.nargs) (vars:=c70.vars) (by kernel_rfl)
set_option maxRecDepth 100000 in
theorem ok71:FnOk Tryz.prog 71 c71:=zj (na:=c71.nargs) (vars:=c71.vars) (by kernel_rfl)
set_option maxRecDepth 100000 in
theorem ok72:FnOk Tryz.prog 72 c72:=zj (na:=c72.nargs) (vars:=c72.vars) (by kernel_rfl)
set_option maxRecDepth 100000 in
theorem ok73:FnOk Tryz.prog 73 c73:=zj (na:=c73.nargs) (vars:=c73.vars) (by kernel_rfl)
set_option maxRecDepth 100000 in
theorem ok74:FnOk Tryz.prog 74 c74:=zj (na:=c74.nargs) (vars:=c74.vars) (by kernel_rfl)
set_option maxRecDepth 100000 in
theorem ok75:FnOk Tryz.prog 75 c75:=zj (na:=c75.nargs) (vars:=c75.vars) (by kernel_rfl)
set_option maxRecDepth 100000 in
theorem ok76:FnOk Tryz.prog 76 c76:=zj (na:=c76.nargs) (vars:=c76.vars) (by kernel_rfl)
set_option maxRecDepth 100000 in
theorem ok77:FnOk Tryz.prog 77 c77:=zj (na:=c77.nargs) (vars:=c77.vars) (by kernel_rfl)
set_option maxRecDepth 100000 in
theorem ok78:FnOk Tryz.prog 78 c78:=zj (na:=c78.nargs) (vars:=c78.vars) (by kernel_rfl)
set_option maxRecDepth 100000 in
theorem ok79:FnOk Tryz.prog 79 c79:=zj (na:=c79.nargs) (vars:=c79.vars) (by kernel_rfl)
set_option maxRecDepth 100000 in
theorem ok80:FnOk Tryz.prog 80 c80:=zj (na:=c80.nargs) (vars:=c80.vars) (by kernel_rfl)
set_option maxRecDepth 100000 in
theorem ok85:FnOk Tryz.prog 85 c85:=zj (na:=c85.nargs) (vars:=c85.vars) (by kernel_rfl)
set_option maxRecDepth 100000 in
theorem ok99:FnOk Tryz.prog 99 c99:=zj (na:=c99.nargs) (vars:=c99.vars) (by kernel_rfl)
set_option maxRecDepth 100000 in
theorem ok103:FnOk Tryz.prog 103 c103:=zj (na:=c103.nargs) (vars:=c103.vars) (by kernel_rfl)
set_option maxRecDepth 100000 in
theorem ok106:FnOk Tryz.prog 106 c106:=zj (na:=c106.nargs) (vars:=c106.vars) (by kernel_rfl)
set_option maxRecDepth 100000 in
theorem ok107:FnOk Tryz.prog 107 c107:=zj (na:=c107.nargs) (vars:=c107.vars) (by kernel_rfl)
set_option maxRecDepth 100000 in
theorem ok108:FnOk Tryz.prog 108 c108:=zj (na:=c108.nargs) (vars:=c108.vars) (by kernel_rfl)
set_option maxRecDepth 100000 in
theorem ok109:FnOk Tryz.prog 109 c109:=zj (na:=c109.nargs) (vars:=c109.vars) (by kernel_rfl)
set_option maxRecDepth 100000 in
theorem ok110:FnOk Tryz.prog 110 c110:=zj (na:=c110.nargs) (vars:=c110.vars) (by kernel_rfl)
set_option maxRecDepth 100000 in
theorem ok111:FnOk Tryz.prog 111 c111:=zj (na:=c111.nargs) (vars:=c111.vars) (by kernel_rfl)
set_option maxRecDepth 100000 in
theorem ok112:FnOk Tryz.prog 112 c112:=zj (na:=c112.nargs) (vars:=c112.vars) (by kernel_rfl)
set_option maxRecDepth 100000 in
theorem ok113:FnOk Tryz.prog 113 c113:=zj (na:=c113.nargs) (vars:=c113.vars) (by kernel_rfl)
set_option maxRecDepth 100000 in
theorem ok114:FnOk Tryz.prog 114 c114:=zj (na:=c114.nargs) (vars:=c114.vars) (by kernel_rfl)
set_option maxRecDepth 100000 in
theorem ok115:FnOk Tryz.prog 115 c115:=zj (na:=c115.nargs) (vars:=c115.vars) (by kernel_rfl)
set_option maxRecDepth 100000 in
theorem ok116:FnOk Tryz.prog 116 c116:=zj (na:=c116.nargs) (vars:=c116.vars) (by kernel_rfl)
set_option maxRecDepth 100000 in
theorem ok117:FnOk Tryz.prog 117 c117:=zj (na:=c117.nargs) (vars:=c117.vars) (by kernel_rfl)
set_option maxRecDepth 100000 in
theorem ok118:FnOk Tryz.prog 118 c118:=zj (na:=c118.nargs) (vars:=c118.vars) (by kernel_rfl)
set_option maxRecDepth 100000 in
theorem ok119:FnOk Tryz.prog 119 c119:=zj (na:=c119.nargs) (vars:=c119.vars) (by kernel_rfl)
set_option maxRecDepth 100000 in
theorem ok120:FnOk Tryz.prog 120 c120:=zj (na:=c120.nargs) (vars:=c120.vars) (by kernel_rfl)
set_option maxRecDepth 100000 in
theorem ok121:FnOk Tryz.prog 121 c121:=zj (na:=c121.nargs) (vars:=c121.vars) (by kernel_rfl)
set_option maxRecDepth 100000 in
theorem ok135:FnOk Tryz.prog 135 c135:=zj (na:=c135.nargs) (vars:=c135.vars) (by kernel_rfl)
set_option maxRecDepth 100000 in
theorem ok137:FnOk Tryz.prog 137 c137:=zj (na:=c137.nargs) (vars:=c137.vars) (by kernel_rfl)
set_option maxRecDepth 100000 in
theorem ok140:FnOk Tryz.prog 140 c140:=zj (na:=c140.nargs) (vars:=c140.vars) (by kernel_rfl)
set_option maxRecDepth 100000 in
theorem ok141:FnOk Tryz.prog 141 c141:=zj (na:=c141.nargs) (vars:=c141.vars) (by kernel_rfl)
set_option maxRecDepth 100000 in
theorem ok142:FnOk Tryz.prog 142 c142:=zj (na:=c142.nargs) (vars:=c142.vars) (by kernel_rfl)
set_option maxRecDepth 100000 in
theorem ok143:FnOk Tryz.prog 143 c143:=zj (na:=c143.nargs) (vars:=c143.vars) (by kernel_rfl)
set_option maxRecDepth 100000 in
theorem ok144:FnOk Tryz.prog 144 c144:=zj (na:=c144.nargs) (vars:=c144.vars) (by kernel_rfl)
set_option maxRecDepth 100000 in
theorem ok145:FnOk Tryz.prog 145 c145:=zj (na:=c145.nargs) (vars:=c145.vars) (by kernel_rfl)
set_option maxRecDepth 100000 in
theorem ok146:FnOk Tryz.prog 146 c146:=zj (na:=c146.nargs) (vars:=c146.vars) (by kernel_rfl)
set_option maxRecDepth 100000 in
theorem ok147:FnOk Tryz.prog 147 c147:=zj (na:=c147.nargs) (vars:=c147.vars) (by kernel_rfl)
set_option maxRecDepth 100000 in
theorem ok148:FnOk Tryz.prog 148 c148:=zj (na:=c148.nargs) (vars:=c148.vars) (by kernel_rfl)
set_option maxRecDepth 100000 in
theorem ok169:FnOk Tryz.prog 169 c169:=zj (na:=c169.nargs) (vars:=c169.vars) (by kernel_rfl)
set_option maxRecDepth 100000 in
theorem ok170:FnOk Tryz.prog 170 c170:=zj (na:=c170.nargs) (vars:=c170.vars) (by kernel_rfl)
set_option maxRecDepth 100000 in
theorem ok171:FnOk Tryz.prog 171 c171:=zj (na:=c171.nargs) (vars:=c171.vars) (by kernel_rfl)
set_option maxRecDepth 100000 in
theorem ok172:FnOk Tryz.prog 172 c172:=zj (na:=c172.nargs) (vars:=c172.vars) (by kernel_rfl)
set_option maxRecDepth 100000 in
theorem ok173:FnOk Tryz.prog 173 c173:=zj (na:=c173.nargs) (vars:=c173.vars) (by kernel_rfl)
set_option maxRecDepth 100000 in
theorem ok174:FnOk Tryz.prog 174 c174:=zj (na:=c174.nargs) (vars:=c174.vars) (by kernel_rfl)
set_option maxRecDepth 100000 in
theorem ok175:FnOk Tryz.prog 175 c175:=zj (na:=c175.nargs) (vars:=c175.vars) (by kernel_rfl)
set_option maxRecDepth 100000 in
theorem ok191:FnOk Tryz.prog 191 c191:=zj (na:=c191.nargs) (vars:=c191.vars) (by kernel_rfl)
set_option maxRecDepth 100000 in
theorem ok192:FnOk Tryz.prog 192 c192:=zj (na:=c192.nargs) (vars:=c192.vars) (by kernel_rfl)
set_option maxRecDepth 100000 in
theorem ok193:FnOk Tryz.prog 193 c193:=zj (na:=c193.nargs) (vars:=c193.vars) (by kernel_rfl)
set_option maxRecDepth 100000 in
theorem ok211:FnOk Tryz.prog 211 c211:=zj (na:=c211.nargs) (vars:=c211.vars) (by kernel_rfl)
set_option maxRecDepth 100000 in
theorem ok212:FnOk Tryz.prog 212 c212:=zj (na:=c212.nargs) (vars:=c212.vars) (by kernel_rfl)
set_option maxRecDepth 100000 in
theorem ok213:FnOk Tryz.prog 213 c213:=zj (na:=c213.nargs) (vars:=c213.vars) (by kernel_rfl)
end Go.Eng.Sy
