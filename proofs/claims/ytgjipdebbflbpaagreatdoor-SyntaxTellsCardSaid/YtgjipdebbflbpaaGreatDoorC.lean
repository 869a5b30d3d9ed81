/-
  Part of a proof of the laws of layer 06 (syntax): the code of the functions.
  Conditions: none.
-/
import Derived.Test.YtgjipdebbflbpaaGreatDoorEc
import Derived.Test.YtgjipdebbflbpaaGreatDoorProg
import Derived.KernelRfl
namespace Go.Eng.Sy
open Go Go.Eng Go.Proofs
abbrev A (a b:Nat):SOp:=⟨a,.p .mov,[.v b],none,false⟩
abbrev E (a b:Nat):SOp:=⟨a,.p .mov,[.t b],none,false⟩
abbrev J (a:Nat):SOp:=⟨a,.r (.load false 1),[.t 0],none,false⟩
abbrev O (a b c:Nat):SOp:=⟨a,.p (.fieldAddr b),[.v c],none,false⟩
abbrev U (a:Nat)(b:Int):SOp:=⟨a,.p .mov,[.c (.int .i64 b)],none,false⟩
abbrev Y (a:Nat):SOp:=⟨a,.p .mov,[.c (.bool false)],none,false⟩
abbrev Z (a b:Nat):SOp:=⟨a,.p .pick,[.t b,.t 0,.c (.bool false)],none,false⟩
abbrev a6 (a b c:Nat):SOp:=⟨a,.r (.load true b),[.v c],none,false⟩
abbrev a7 (a b:Nat)(c:Int):SOp:=⟨a,.p (.bin .eql),[.v b,.c (.int .i64 c)],none,false⟩
abbrev a8 (a b c d:Nat):SOp:=⟨a,.p (.fieldAddr b),[.v c],some (d,true),false⟩
abbrev aa (a b:Nat):SOp:=⟨a,.r (.load false 1),[.t 0],some (b,true),false⟩
abbrev ab (a b c d:Nat):SOp:=⟨a,.w (.store b),[.t c,.t d],none,false⟩
abbrev ac (a b:Nat):SOp:=⟨a,.r (.load false 1),[.t 0],some (b,false),false⟩
abbrev ae (a:Nat):SOp:=⟨a,.p .lenS,[.t 0],none,false⟩
abbrev af (a b:Nat):SOp:=⟨a,.p .pick,[.t b,.c (.bool true),.t 0],none,false⟩
abbrev ah (a b c:Nat):SOp:=⟨a,.p .mov,[.v b],some (c,false),false⟩
abbrev ai (a b:Nat):SOp:=⟨a,.call b,[.t 0],none,false⟩
abbrev aj (a b c d:Nat):SOp:=⟨a,.p (.idxAddrS b),[.t c,.t d],none,false⟩
abbrev ak (a b c:Nat):SOp:=⟨a,.p (.bin .add),[.t b,.t c],none,false⟩
abbrev am (a b:Nat):SOp:=⟨a,.r (.load true b),[.t 0],none,false⟩
abbrev ao (a b c d:Nat):SOp:=⟨a,.call b,[.t c,.t d],none,false⟩
abbrev aq (a b c d:Nat):SOp:=⟨a,.p (.fieldAddr b),[.v c],some (d,false),false⟩
abbrev au (a b:Nat):SOp:=⟨a,.a .box,[.v b],none,false⟩
abbrev av (a b c:Nat):SOp:=⟨a,.p .mov,[.v b],some (c,true),false⟩
abbrev aw (a b:Nat):SOp:=⟨a,.p (.fieldAddr b),[.t 0],none,false⟩
abbrev ax (a:Nat):SOp:=⟨a,.p (.bin .add),[.t 0,.c (.int .i64 1)],none,false⟩
abbrev ay (a b:Nat)(c:Int):SOp:=⟨a,.call b,[.t 0,.c (.int .i64 c)],none,false⟩
abbrev az (a b c:Nat):SOp:=⟨a,.w (.store b),[.v c,.t 0],none,false⟩
abbrev b4 (a b:Nat):SOp:=⟨a,.p (.bin .sub),[.t b,.c (.int .i64 1)],none,false⟩
abbrev b9 (a b:Nat):SOp:=⟨a,.call b,[.t 0],none,true⟩
abbrev ba (a:Nat):SOp:=⟨a,.p .mov,[.c (.string ⟨#[]⟩)],none,false⟩
abbrev bc (a:Nat):SOp:=⟨a,.p (.un .not),[.t 0],none,false⟩
abbrev be (a b c:Nat):SOp:=⟨a,.p (.extract b),[.t c],none,false⟩
abbrev bj (a:Nat):SOp:=⟨a,.p .mov,[.c (.bool true)],none,false⟩
abbrev bk (a b:Nat):SOp:=⟨a,.p (.bin .lss),[.t b,.t 0],none,false⟩
abbrev bl (a b c:Nat):SOp:=⟨a,.p (.bin .lss),[.v b,.v c],none,false⟩
abbrev bm (a b:Nat):SOp:=⟨a,.p (.bin .add),[.v b,.c (.int .i64 1)],none,false⟩
abbrev bo (a b:Nat):SOp:=⟨a,.p .nilCheck,[.t b],none,false⟩
abbrev bp (a b c:Nat):SOp:=⟨a,.p (.bin .neq),[.t b,.t 0],some (c,false),false⟩
abbrev bq (a b c:Nat):SOp:=⟨a,.p (.idxAddrS b),[.t 1,.t 0],some (c,false),false⟩
abbrev bt (a b c:Nat):SOp:=⟨a,.p (.fieldAddr b),[.t 0],some (c,false),false⟩
abbrev bu (a b:Nat):SOp:=⟨a,.p .lenS,[.t 0],some (b,false),false⟩
abbrev bw (a b:Nat)(c:Int):SOp:=⟨a,.p (.idxAddrS b),[.t 0,.c (.int .i64 c)],none,false⟩
abbrev bz (a:Nat)(b:Int):SOp:=⟨a,.p (.bin .lss),[.t 0,.c (.int .i64 b)],none,false⟩
abbrev cd (a:Nat)(b:Int):SOp:=⟨a,.p (.bin .gtr),[.t 0,.c (.int .i64 b)],none,false⟩
abbrev ce (a c:Nat)(b:Int):SOp:=⟨a,.p (.bin .gtr),[.t 0,.c (.int .i64 b)],some (c,false),false⟩
abbrev cg (a b c d:Nat):SOp:=⟨a,.call b,[.t c,.t d,.t 0],none,false⟩
abbrev ci (a b c d:Nat):SOp:=⟨a,.w (.append b c),[.t d,.t 0],none,false⟩
abbrev cj (a b c d:Nat):SOp:=⟨a,.p (.idxAddrS b),[.v c,.v d],none,false⟩
abbrev ck (a:Nat):SOp:=⟨a,.a (.new [.int .i64 0,.int .i64 0,.int .i64 0,.string ⟨#[]⟩,.slice none 0 0]),[],none,false⟩
abbrev cl (a b c d:Nat):SOp:=⟨a,.call b,[.t c,.t 0],some (d,true),false⟩
abbrev cn (a:Nat)(b:Int):SOp:=⟨a,.p (.bin .eql),[.t 0,.c (.int .i64 b)],none,false⟩
abbrev cp (a:Nat)(b:Int):SOp:=⟨a,.call 23,[.t 0,.c (.int .i64 b)],none,true⟩
abbrev cq (a b c:Nat):SOp:=⟨a,.p (.bin .eql),[.t b,.t 0],some (c,true),false⟩
abbrev cr (a b:Nat):SOp:=⟨a,.a (.bslice [.int .i64 0,.int .i64 0,.int .i64 0,.string ⟨#[]⟩,.slice none 0 0] [(0,5)] 1 5),[.t b],none,false⟩
abbrev cu (a b:Nat):SOp:=⟨a,.p (.bin .add),[.t b,.c (.string ⟨#[32]⟩)],none,false⟩
abbrev cv (a:Nat):SOp:=⟨a,.p .lenStr,[.t 0],none,false⟩
abbrev cw (a:Nat)(b:Int):SOp:=⟨a,.p (.bin .geq),[.t 0,.c (.int .i64 b)],none,false⟩
abbrev cy (a b:Nat):SOp:=⟨a,.p (.un .not),[.t 0],some (b,false),false⟩
abbrev cz (a b:Nat):SOp:=⟨a,.p (.bin .neq),[.t b,.t 0],none,false⟩
abbrev d8 (a:Nat):SOp:=⟨a,.a (.new [.string ⟨#[]⟩,.bool false,.int .i64 0,.int .i64 0,.int .i64 0,.slice none 0 0]),[],none,false⟩
abbrev d9 (a c:Nat)(b:Int):SOp:=⟨a,.p (.bin .add),[.c (.int .i64 b),.t c],none,false⟩
abbrev da (a b c:Nat):SOp:=⟨a,.call b,[.t 0],some (c,true),false⟩
abbrev db (a b:Nat):SOp:=⟨a,.p (.bin .gtr),[.t 0,.c (.int .i64 0)],some (b,true),false⟩
abbrev dc (a b c:Nat):SOp:=⟨a,.r (.load true 4),[.v b],some (c,false),false⟩
abbrev dd (a:Nat):SOp:=⟨a,.a (.new [.int .i64 0,.slice none 0 0,.slice none 0 0,.slice none 0 0]),[],none,false⟩
abbrev de (a b c d:Nat):SOp:=⟨a,.r (.load true b),[.v c],some (d,true),false⟩
abbrev df (a b:Nat)(c:Int):SOp:=⟨a,.call b,[.t 1,.t 0,.c (.int .i64 c)],none,true⟩
abbrev dg (a c:Nat)(b:Int):SOp:=⟨a,.p (.bin .lss),[.t 0,.c (.int .i64 b)],some (c,false),false⟩
abbrev dh (a b:Nat):SOp:=⟨a,.p (.bin .eql),[.t b,.t 0],none,false⟩
abbrev di (a b:Nat):SOp:=⟨a,.p .mov,[.t 0],some (b,true),false⟩
abbrev dj (a b c:Nat):SOp:=⟨a,.p .pick,[.t b,.c (.bool true),.t 0],some (c,true),false⟩
abbrev dk (a c:Nat)(b:Int):SOp:=⟨a,.p (.bin .eql),[.t 0,.c (.int .i64 b)],some (c,false),false⟩
abbrev dm (a:Nat):SOp:=⟨a,.a (.bslice [.int .i64 0,.string ⟨#[]⟩,.string ⟨#[]⟩,.int .i64 0,.slice none 0 0,.slice none 0 0,.slice none 0 0] [(0,7)] 1 7),[.t 0],none,false⟩
abbrev dq (a b:Nat):SOp:=⟨a,.p (.un .not),[.t 0],some (b,true),false⟩
abbrev dr (a:Nat):SOp:=⟨a,.a (.new [.int .i64 0,.string ⟨#[]⟩,.string ⟨#[]⟩,.int .i64 0,.slice none 0 0,.slice none 0 0,.slice none 0 0]),[],none,false⟩
abbrev dt (a b c:Nat):SOp:=⟨a,.call b,[.t c,.t 0],none,true⟩
abbrev du (a:Nat):SOp:=⟨a,.p .lenS,[.t 0],some (2,true),false⟩
abbrev dw (a b:Nat):SOp:=⟨a,.p .mov,[.t 0],some (b,false),false⟩
abbrev dx (a b c:Nat):SOp:=⟨a,.p .pick,[.t b,.t 0,.c (.bool false)],some (c,false),false⟩
abbrev dy (a b c:Nat):SOp:=⟨a,.call b,[.t 2,.t 0,.f c],some (4,true),false⟩
abbrev dz (a:Nat):SOp:=⟨a,.p (.bin .eql),[.t 0,.c (.string ⟨#[]⟩)],none,false⟩
abbrev ec (a:Nat)(b:Int):SOp:=⟨a,.p (.bin .leq),[.t 0,.c (.int .i64 b)],none,false⟩
abbrev ed (a b:Nat):SOp:=⟨a,.p (.bin .mul),[.t b,.t 0],none,false⟩
abbrev ej (a:Nat):SOp:=⟨a,.p .mov,[.c (.int .i64 (-1))],none,false⟩
abbrev eo (a:Nat)(b:Int):SOp:=⟨a,.p (.bin .leq),[.t 0,.c (.int .u8 b)],some (1,true),false⟩
abbrev eu (a b c:Nat):SOp:=⟨a,.a (.bslice [.int .i64 0,.int .i64 0,.int .i64 0,.string ⟨#[]⟩,.slice none 0 0,.int .i64 0,.int .i64 0,.int .i64 0,.string ⟨#[]⟩,.slice none 0 0] [(0,5),(5,5)] 2 5),[.t b,.t c],none,false⟩
abbrev ez (a b c e:Nat)(d:Int):SOp:=⟨a,.p (.build [.int .i64 0,.string ⟨#[]⟩,.string ⟨#[]⟩,.int .i64 0,.slice none 0 0,.slice none 0 0,.slice none 0 0] [(0,1),(b,1),(c,1)]),[.c (.int .i64 d),.t e,.t 0],none,false⟩
abbrev f8 (a c:Nat)(b:Int):SOp:=⟨a,.p (.bin .leq),[.t 0,.c (.int .i64 b)],some (c,true),false⟩
abbrev f9 (a:Nat)(b:Int):SOp:=⟨a,.call 25,[.t 1,.t 0,.c (.int .i64 b)],none,false⟩
abbrev fa (a b:Nat):SOp:=⟨a,.call b,[.t 3,.t 2,.t 0],none,true⟩
abbrev fb (a:Nat):SOp:=⟨a,.p .mov,[.c (.slice none 0 0)],none,false⟩
abbrev fc (a:Nat)(b:Int):SOp:=⟨a,.p (.bin .eql),[.v 10,.c (.int .u8 b)],none,false⟩
abbrev fe (a:Nat):SOp:=⟨a,.callV,[.t 4,.t 0],none,false⟩
abbrev ff (a:Nat):SOp:=⟨a,.p (.bin .shr),[.t 0,.c (.int .u64 32)],none,false⟩
abbrev fg (a:Nat)(b:Int):SOp:=⟨a,.p (.sliceS 1 false true),[.t 0,.c (.int .i64 b)],none,false⟩
abbrev fh (a:Nat):SOp:=⟨a,.p (.build [.slice none 0 0] [(0,1)]),[.t 0],none,false⟩
abbrev fi (a:Nat):SOp:=⟨a,.a .box,[.t 0],none,false⟩
abbrev fj (a:Nat):SOp:=⟨a,.a (.new [.slice none 0 0,.slice none 0 0,.int .i64 0,.slice none 0 0,.bool false]),[],none,false⟩
abbrev fk (a b c:Nat):SOp:=⟨a,.p (.build [.string ⟨#[]⟩,.int .i64 0] [(0,1),(1,1)]),[.t b,.t c],none,false⟩
abbrev fm (a:Nat):SOp:=⟨a,.a (.bslice [.string ⟨#[]⟩,.int .i64 0] [(0,2)] 1 2),[.t 0],none,false⟩
abbrev fo (a:Nat):SOp:=⟨a,.a (.new [.string ⟨#[]⟩,.int .i64 0]),[],none,false⟩
abbrev fp (a:Nat):SOp:=⟨a,.p (.bin .add),[.t 0,.c (.string ⟨#[125,10]⟩)],none,false⟩
noncomputable abbrev fq (a b c d:Nat):SOp:=⟨a,.p (.eqK b (qo Tryz.prog c) true),[.t d,.t 0],none,false⟩
abbrev ft (a b c:Nat):SOp:=⟨a,.call b,[.t 0],some (c,false),false⟩
abbrev fu (a:Nat):SOp:=⟨a,.p .mov,[.c (.nilIface)],none,false⟩
abbrev fw (a:Nat):SOp:=⟨a,.p (.conv .u64),[.t 0],none,false⟩
abbrev fx (a:Nat):SOp:=⟨a,.p (.bin .add),[.t 0,.c (.string ⟨#[59,10]⟩)],none,false⟩
abbrev fy (a:Nat):SOp:=⟨a,.p (.bin .add),[.t 0,.c (.string ⟨#[9]⟩)],none,false⟩
abbrev ge (a:Nat):SOp:=⟨a,.p .mov,[.c (.int .u64 0)],none,false⟩
abbrev gh (a:Nat)(b c:Int):SOp:=⟨a,.p (.build [.int .i64 0,.int .i64 0,.int .i64 0,.string ⟨#[]⟩,.slice none 0 0] [(0,1),(1,1),(4,1)]),[.c (.int .i64 b),.c (.int .i64 c),.t 0],none,false⟩
abbrev gk (a:Nat):SOp:=⟨a,.a (.bslice [.string ⟨#[]⟩,.bool false,.int .i64 0,.int .i64 0,.int .i64 0,.slice none 0 0] [(0,6)] 1 6),[.t 0],none,false⟩
abbrev gl (a c:Nat)(b:Int):SOp:=⟨a,.p (.bin .eql),[.t 0,.c (.int .i64 b)],some (c,true),false⟩
abbrev gm (a:Nat):SOp:=⟨a,.p (.build [.slice none 0 0,.slice none 0 0,.int .i64 0,.slice none 0 0,.bool false] [(4,1)]),[.c (.bool true)],none,false⟩
abbrev gn (a:Nat):SOp:=⟨a,.a (.bslice [.string ⟨#[]⟩] [(0,1)] 1 1),[.t 0],none,false⟩
abbrev gt (a:Nat):SOp:=⟨a,.p (.bin .add),[.t 0,.c (.string ⟨#[10]⟩)],none,false⟩
abbrev gu (a:Nat):SOp:=⟨a,.p (.bin .add),[.t 0,.c (.string ⟨#[32,123,10]⟩)],none,false⟩
abbrev gv (a b:Nat):SOp:=⟨a,.p .mov,[.f b],none,false⟩
abbrev gw (a b c:Nat):SOp:=⟨a,.p (.eqB true),[.t b,.t 0],some (c,false),false⟩
abbrev gy (a b d:Nat)(c:Int):SOp:=⟨a,.p (.build [.int .i64 0,.int .i64 0,.int .i64 0,.string ⟨#[]⟩,.slice none 0 0] [(0,1),(b,1),(4,1)]),[.c (.int .i64 c),.t d,.t 0],none,false⟩
abbrev gz (a:Nat):SOp:=⟨a,.p (.bin .rem),[.t 0,.c (.int .i64 10)],none,false⟩
abbrev i6 (a:Nat):SOp:=⟨a,.a (.bslice [.int .u8 0] [(0,1)] 1 1),[.t 0],none,false⟩
abbrev i7 (a b:Nat):SOp:=⟨a,.p .lenStr,[.t 0],some (b,true),false⟩
abbrev i8 (a:Nat):SOp:=⟨a,.callV,[.t 2,.t 1,.t 0],none,false⟩
abbrev ia (a:Nat):SOp:=⟨a,.p (.bin .add),[.t 0,.c (.string ⟨#[91]⟩)],none,false⟩
abbrev ib (a b c d f g h:Nat)(e:Int):SOp:=⟨a,.p (.build [.int .i64 0,.string ⟨#[]⟩,.string ⟨#[]⟩,.int .i64 0,.slice none 0 0,.slice none 0 0,.slice none 0 0] [(0,1),(b,1),(c,1),(d,1)]),[.c (.int .i64 e),.t f,.t g,.t h],none,false⟩
abbrev ic (a b:Nat):SOp:=⟨a,.call b,[.v 7],none,false⟩
abbrev ig (a b:Nat):SOp:=⟨a,.call b,[.v 7,.t 0],none,false⟩
abbrev ii (a:Nat):SOp:=⟨a,.p (.bin .add),[.t 0,.c (.string ⟨#[41]⟩)],none,false⟩
abbrev ij (a:Nat):SOp:=⟨a,.p (.bin .add),[.t 0,.c (.string ⟨#[32,61,32]⟩)],none,false⟩
abbrev il (a:Nat)(b:Int):SOp:=⟨a,.p (.bin .geq),[.t 0,.c (.int .u8 b)],none,false⟩
abbrev im (a:Nat)(b:Int):SOp:=⟨a,.p (.bin .geq),[.t 0,.c (.int .u8 b)],some (1,false),false⟩
abbrev io (a:Nat):SOp:=⟨a,.p (.conv .u32),[.t 0],none,false⟩
abbrev ip (a:Nat)(b:Int):SOp:=⟨a,.p (.bin .geq),[.t 0,.c (.int .i64 b)],some (2,true),false⟩
abbrev iq (a:Nat):SOp:=⟨a,.p (.bin .and),[.t 0,.c (.int .u64 4294967295)],none,false⟩
abbrev ir (a b:Nat):SOp:=⟨a,.p (.build [.int .i64 0,.slice none 0 0,.slice none 0 0,.slice none 0 0] []),[],some (b,true),false⟩
abbrev iu (a c:Nat)(b:Int):SOp:=⟨a,.p (.bin .lss),[.t 0,.c (.int .i64 b)],some (c,true),false⟩
abbrev iv (a:Nat):SOp:=⟨a,.p (.bin .sub),[.t 2,.t 0],none,false⟩
abbrev iw (a:Nat):SOp:=⟨a,.p (.bin .add),[.c (.string ⟨#[32]⟩),.t 0],none,false⟩
abbrev iy (a:Nat):SOp:=⟨a,.a (.bslice [.string ⟨#[]⟩] [(0,1)] 1 1),[.c (.string ⟨#[125]⟩)],none,false⟩
abbrev iz (a b:Nat)(c:Int):SOp:=⟨a,.p (.build [.int .i64 0,.int .i64 0,.int .i64 0,.string ⟨#[]⟩,.slice none 0 0] [(0,1),(b,1)]),[.c (.int .i64 c),.t 0],none,false⟩
abbrev j0 (a:Nat):SOp:=⟨a,.a (.bslice [.string ⟨#[]⟩,.string ⟨#[]⟩,.string ⟨#[]⟩] [(0,1),(1,1),(2,1)] 3 1),[.c (.string ⟨#[120]⟩),.c (.string ⟨#[121]⟩),.c (.string ⟨#[122]⟩)],none,false⟩
abbrev j1 (a:Nat):SOp:=⟨a,.p (.bin .quo),[.t 0,.c (.int .i64 10)],none,false⟩
abbrev j2 (a:Nat)(b:Int):SOp:=⟨a,.call 36,[.t 0,.c (.int .i64 1),.c (.int .i64 b)],some (2,false),false⟩
abbrev j3 (a:Nat)(b c:Int):SOp:=⟨a,.call 36,[.t 0,.c (.int .i64 b),.c (.int .i64 c)],some (2,true),false⟩
abbrev j4 (a b:Nat):SOp:=⟨a,.call b,[.t 0,.c (.int .i64 30)],some (2,true),false⟩
abbrev j5 (a:Nat):SOp:=⟨a,.p (.bin .add),[.t 0,.c (.string ⟨#[93]⟩)],none,false⟩
abbrev j6 (a:Nat):SOp:=⟨a,.p (.bin .rem),[.t 1,.t 0],none,false⟩
abbrev j7 (a:Nat):SOp:=⟨a,.p (.bin .add),[.t 0,.c (.string ⟨#[46]⟩)],none,false⟩
abbrev j8 (a:Nat):SOp:=⟨a,.a (.bslice [.string ⟨#[]⟩,.string ⟨#[]⟩,.string ⟨#[]⟩,.string ⟨#[]⟩,.string ⟨#[]⟩,.string ⟨#[]⟩,.string ⟨#[]⟩,.string ⟨#[]⟩,.string ⟨#[]⟩,.string ⟨#[]⟩,.string ⟨#[]⟩,.string ⟨#[]⟩,.string ⟨#[]⟩] [(0,1),(1,1),(2,1),(3,1),(4,1),(5,1),(6,1),(7,1),(8,1),(9,1),(10,1),(11,1),(12,1)] 13 1),[.c (.string ⟨#[104,97,114,116,115]⟩),.c (.string ⟨#[100,101,118,105,99,101]⟩),.c (.string ⟨#[117,97,114,116]⟩),.c (.string ⟨#[116,105,109,101,114]⟩),.c (.string ⟨#[103,112,105,111]⟩),.c (.string ⟨#[114,101,115,111,117,114,99,101]⟩),.c (.string ⟨#[116,97,115,107]⟩),.c (.string ⟨#[104,97,110,100,108,101,114]⟩),.c (.string ⟨#[108,111,99,107]⟩),.c (.string ⟨#[105,102]⟩),.c (.string ⟨#[101,108,115,101]⟩),.c (.string ⟨#[114,101,112,101,97,116]⟩),.c (.string ⟨#[104,97,108,116]⟩)],none,false⟩
abbrev j9 (a:Nat):SOp:=⟨a,.p (.bin .eql),[.t 0,.c (.int .u8 95)],some (1,false),false⟩
abbrev ja (a:Nat):SOp:=⟨a,.p (.bin .lss),[.t 1,.t 0],some (4,true),false⟩
abbrev jb (a:Nat):SOp:=⟨a,.p (.bin .add),[.c (.string ⟨#[40]⟩),.t 0],none,false⟩
abbrev jc (a:Nat):SOp:=⟨a,.call 116,[.t 0,.c (.bool false),.c (.bool false),.c (.bool true)],none,false⟩
abbrev jd (a:Nat):SOp:=⟨a,.call 116,[.t 0,.c (.bool true),.c (.bool false),.c (.bool false)],none,false⟩
abbrev je (a:Nat):SOp:=⟨a,.a (.new [.bool false,.bool false,.int .i64 0,.int .i64 0,.bool false,.bool false]),[],none,false⟩
abbrev jf (a:Nat):SOp:=⟨a,.p (.bin .sub),[.t 0,.c (.int .i64 1)],some (3,true),false⟩
abbrev jg (a:Nat)(b:Int):SOp:=⟨a,.p (.build [.bool false,.bool false,.int .i64 0,.int .i64 0,.bool false,.bool false] [(0,1),(3,1)]),[.c (.bool true),.c (.int .i64 b)],none,false⟩
abbrev jh (a:Nat):SOp:=⟨a,.p (.build [.bool false,.bool false,.int .i64 0,.int .i64 0,.bool false,.bool false] []),[],none,false⟩
noncomputable def c6:CFn:={ nargs:=0,vars:=[0,1,2,3,4,5,6,7,8],results:=[.var 0],body:=(.seq (.reg [Y 0] [(0,0)]) (.seq (.reg [⟨0,.p (.build [.int .i64 0,.int .i64 0,.int .i64 0,.string ⟨#[]⟩,.slice none 0 0] [(0,1),(2,1)]),[.c (.int .i64 1),.c (.int .i64 1)],none,false⟩,ck 1,ab 2 5 0 1] [(1,1)]) (.seq (.reg [a6 0 5 1,a6 1 5 1,eu 2 1 0,gh 3 4 1,ck 4,ab 5 5 0 1] [(2,1)]) (.seq (.reg [a6 0 5 2,a6 1 5 1,eu 2 1 0,gh 3 4 3,ck 4,ab 5 5 0 1] [(3,1)]) (.seq (.reg [a6 0 5 3,cr 1 0,⟨2,.p (.build [.int .i64 0,.string ⟨#[]⟩,.string ⟨#[]⟩,.int .i64 0,.slice none 0 0,.slice none 0 0,.slice none 0 0] [(0,1),(1,1),(4,1)]),[.c (.int .i64 1),.c (.string ⟨#[120]⟩),.t 0],none,false⟩,dm 3,⟨4,.p (.build [.string ⟨#[]⟩,.bool false,.int .i64 0,.int .i64 0,.int .i64 0,.slice none 0 0] [(0,1),(3,1),(5,1)]),[.c (.string ⟨#[116]⟩),.c (.int .i64 1),.t 0],none,false⟩,gk 5,⟨6,.p (.build [.int .i64 0,.slice none 0 0,.slice none 0 0,.slice none 0 0] [(0,1),(3,1)]),[.c (.int .i64 1),.t 0],none,false⟩,dd 7,ab 8 4 0 1] [(4,1)]) (.seq (.reg [a6 0 4 4,ai 1 9,E 2 0,be 3 0 0,be 4 1 1,E 5 1,E 6 1] [(5,1),(6,0)]) (.seq (.reg [a6 0 5 3,ai 1 19,E 2 0,be 3 0 0,be 4 1 1,E 5 1,E 6 1] [(7,1),(8,0)]) (.seq (.reg [A 0 5,⟨1,.p (.bin .eql),[.t 0,.c (.string ⟨#[104,97,114,116,115,32,49,10,116,97,115,107,32,116,32,48,32,49,32,123,10,9,120,32,61,32,40,49,32,43,32,49,41,32,42,32,49,59,10,125,10]⟩)],none,false⟩,E 2 0,av 3 6 0,gl 4 1 0,Z 5 2,E 6 0,av 7 7 0,⟨8,.p (.bin .eql),[.t 0,.c (.string ⟨#[40,49,32,43,32,49,41,32,42,32,49]⟩)],some (1,true),false⟩,Z 9 2,E 10 0,av 11 8 0,gl 12 1 0,Z 13 2,E 14 0,de 15 4 4 0,da 16 11 1,Z 17 2,E 18 0,ir 19 0,da 20 11 1,dq 21 2,Z 22 3,E 23 0,de 24 4 4 0,da 25 15 1,gl 26 2 6,Z 27 3,E 28 0,de 29 4 4 0,de 30 4 4 1,cl 31 13 1 2,Z 32 3,E 33 0,de 34 4 4 0,ir 35 1,cl 36 13 1 2,dq 37 3,Z 38 4,E 39 0] [(0,0)]) .ret)))))))) }
noncomputable def ya8:List SOp:=[dd 0]
noncomputable def ya7:List SOp:=[A 0 0,ae 1,cd 2 400]
noncomputable def ya6:List SOp:=[A 0 0,fg 1 400,E 2 0]
noncomputable def ya5:List SOp:=[A 0 0,fh 1,fi 2,E 3 0]
noncomputable def ya4:List SOp:=[A 0 2,ay 1 23 10,E 2 0]
noncomputable def ya3:List SOp:=[A 0 2,ay 1 23 2,cn 2 1,E 3 0]
noncomputable def ya2:List SOp:=[gm 0,fj 1,ab 2 5 0 1]
noncomputable def ya1:List SOp:=[A 0 0,A 1 4,ao 2 8 1 0,dd 3,ab 4 4 0 1]
noncomputable def ya0:List SOp:=[A 0 2,O 1 3 6,J 2,ae 3,ao 4 23 3 0,E 5 0]
noncomputable def zz9:List SOp:=[O 0 3 6,J 1,A 2 7,aj 3 6 1 0,am 4 6,d8 5,ab 6 6 0 1]
noncomputable def U9:List SOp:=[A 0 2,ay 1 23 11,A 3 2,ai 4 24,A 5 2,ai 6 24,A 8 2,ay 9 23 3,A 13 2,cp 14 7,b4 2 8,⟨7,.a (.bslice [.string ⟨#[]⟩,.string ⟨#[]⟩,.string ⟨#[]⟩] [(0,1),(1,1),(2,1)] 3 1),[.c (.string ⟨#[]⟩),.c (.string ⟨#[]⟩),.t 5],none,false⟩,aj 10 1 0 4,J 11,⟨12,.a (.bslice [.int .i64 0,.int .i64 0,.int .i64 0,.int .i64 0,.int .i64 0,.int .i64 0,.int .i64 0] [(0,1),(1,1),(2,1),(3,1),(4,1),(5,1),(6,1)] 7 1),[.c (.int .i64 0),.c (.int .i64 0),.c (.int .i64 3),.c (.int .i64 4),.c (.int .i64 20),.c (.int .i64 21),.c (.int .i64 (-1))],none,false⟩,aj 15 1 0 5,J 16,⟨17,.p (.build [.int .i64 0,.string ⟨#[]⟩,.string ⟨#[]⟩,.int .i64 0,.slice none 0 0,.slice none 0 0,.slice none 0 0] [(0,1),(1,1),(2,1),(3,1)]),[.t 6,.t 13,.t 3,.t 0],none,false⟩,dr 18,ab 19 7 0 1]
noncomputable def U8:List SOp:=[A 0 2,ay 1 23 4,E 2 0]
noncomputable def yb0:CCode:=(.seq (.rcond [A 0 10,cd 1 0] [] 0 .skip (.exit 0)) (.seq (.block 1 (.reg [a6 2 5 5,A 3 2,df 4 25 2,O 0 4 9,J 1,cr 5 2,ci 6 5 64 1,O 7 4 9,ab 8 1 0 1] [])) (.reg [A 0 10,b4 1 0,E 2 0] [(10,0)])))
noncomputable def uy:List SOp:=[A 0 3]
noncomputable def uw:List SOp:=[a7 0 12 0,E 1 0]
noncomputable def uv:List SOp:=[A 0 2,ay 1 23 7,b4 2 0,O 3 0 6,ab 4 1 0 1]
noncomputable def uu:List SOp:=[a7 0 12 1,E 1 0]
noncomputable def ut:List SOp:=[A 0 2,ai 1 24,O 2 0 8,ab 3 1 0 1]
noncomputable def us:List SOp:=[A 0 2,ay 1 23 10,b4 2 0,O 3 4 8,ab 4 1 0 1]
noncomputable def ur:List SOp:=[a7 0 12 2,E 1 0]
noncomputable def uq:List SOp:=[A 0 2,ay 1 23 6,b4 2 0,O 3 2 8,ab 4 1 0 1]
noncomputable def uo:List SOp:=[A 0 2,ay 1 23 10,b4 2 0,O 3 3 8,ab 4 1 0 1]
noncomputable def um:List SOp:=[a7 0 12 3,E 1 0]
noncomputable def ul:List SOp:=[A 2 2,b9 3 24,A 4 2,cp 5 5,O 0 1 6,J 1,fk 6 4 2,fm 7,ci 8 2 24 2,O 9 1 6,ab 10 1 0 1]
noncomputable def uk:List SOp:=[a7 0 12 4,E 1 0]
noncomputable def uj:List SOp:=[A 2 2,b9 3 24,A 4 2,cp 5 10,O 0 2 6,J 1,fk 6 4 2,fm 7,ci 8 2 24 2,O 9 2 6,ab 10 1 0 1]
noncomputable def ui:List SOp:=[a7 0 12 5,E 1 0]
noncomputable def uh:List SOp:=[a6 0 5 5,A 1 2,df 2 25 2,cr 3 0,a6 4 7 9,dm 5,ez 6 4 6 2 6,az 7 7 9]
noncomputable def ug:List SOp:=[a7 0 12 6,E 1 0]
noncomputable def uf:List SOp:=[A 0 2,ay 1 23 40,E 2 0]
noncomputable def ya9:CCode:=(.seq (.rcond [A 0 11,cd 1 0] [] 0 .skip (.exit 3)) (.seq (.block 4 (.reg [a6 0 7 9,dm 1,⟨2,.p (.build [.int .i64 0,.string ⟨#[]⟩,.string ⟨#[]⟩,.int .i64 0,.slice none 0 0,.slice none 0 0,.slice none 0 0] [(0,1),(3,1),(5,1)]),[.c (.int .i64 7),.c (.int .i64 1),.t 0],none,false⟩,az 3 7 9] [])) (.reg [A 0 11,b4 1 0,E 2 0] [(11,0)])))
noncomputable def ue:List SOp:=[a7 0 12 7,E 1 0]
noncomputable def ud:List SOp:=[a6 0 7 9,dm 1,⟨2,.p (.build [.int .i64 0,.string ⟨#[]⟩,.string ⟨#[]⟩,.int .i64 0,.slice none 0 0,.slice none 0 0,.slice none 0 0] [(0,1),(5,1)]),[.c (.int .i64 8),.t 0],none,false⟩,az 3 7 9]
noncomputable def Kc:List SOp:=[A 0 3,cd 1 4,E 2 0,av 3 3 0,iu 4 1 9,Z 5 2]
noncomputable def Kb:List SOp:=[O 0 5 8,J 1,⟨2,.w (.append 7 120),[.c (.slice none 0 0),.t 0],none,true⟩,a6 3 7 9,dm 4,ci 5 7 120 2,O 6 5 8,ab 7 1 0 1]
noncomputable def U7:List SOp:=[O 0 3 6,J 1,A 2 7,a6 3 6 8,aj 4 6 2 1,ab 5 6 0 1]
noncomputable def U6:List SOp:=[a6 0 4 6,az 1 4 1]
noncomputable def c7:CFn:={ nargs:=1,vars:=[0,2,3,4,5,6,7,8,9,10,11,12,72],results:=[.cell 1 true 4],body:=(.seq (.reg ya8 [(1,0)]) (.seq (.rcond ya7 [] 0 (.reg ya6 [(0,0)]) .skip) (.seq (.reg ya5 [(2,0)]) (.seq (.reg ya4 [(3,0)]) (.seq (.reg ya3 [(4,0)]) (.seq (.reg ya2 [(5,1)]) (.seq (.reg ya1 [(6,1)]) (.seq (.reg ya0 [(7,0)]) (.seq (.reg zz9 [(8,1)]) (.seq (.reg U9 [(9,1)]) (.seq (.seq (.reg U8 [(10,0)]) (.block 0 (.loop yb0))) (.seq (.seq (.reg uy [(12,0)]) (.block 2 (.rcond uw [] 0 (.reg uv []) (.rcond uu [] 0 (.seq (.reg ut []) (.reg us [])) (.rcond ur [] 0 (.seq (.reg uq []) (.reg uo [])) (.rcond um [] 0 (.reg ul []) (.rcond uk [] 0 (.reg uj []) (.rcond ui [] 0 (.reg uh []) (.rcond ug [] 0 (.seq (.reg uf [(11,0)]) (.block 3 (.loop ya9))) (.rcond ue [] 0 (.reg ud []) .skip)))))))))) (.seq (.rcond Kc [] 0 (.reg Kb []) .skip) (.seq (.reg U7 []) (.seq (.reg U6 []) .ret))))))))))))))) }
noncomputable def zz7:CCode:=(.seq (.rcond [A 0 6,cw 1 0] [] 0 .skip (.exit 0)) (.seq (.block 1 (.seq (.reg [A 6 3,cp 7 3,⟨0,.a (.bslice [.string ⟨#[]⟩,.string ⟨#[]⟩,.string ⟨#[]⟩] [(0,1),(1,1),(2,1)] 3 1),[.c (.string ⟨#[100]⟩),.c (.string ⟨#[101]⟩),.c (.string ⟨#[102]⟩)],none,false⟩,O 1 1 4,J 2,ae 3,aj 4 1 3 0,J 5,d9 8 6 1,fk 9 1 0,fo 10,ab 11 2 0 1] [(7,1)]) (.seq (.reg [O 0 1 4,J 1,a6 2 2 7,fm 3,ci 4 2 24 2,O 5 1 4,ab 6 1 0 1] []) (.reg [O 0 0 5,J 1,O 2 0 7,J 3,gn 4,ci 5 1 16 3,O 6 0 5,ab 7 1 0 1] [])))) (.reg [A 0 6,b4 1 0,E 2 0] [(6,0)])))
noncomputable def zz6:CCode:=(.seq (.rcond [A 0 8,cd 1 0] [] 0 .skip (.exit 2)) (.seq (.block 3 (.seq (.reg [A 6 3,cp 7 8,⟨0,.a (.bslice [.string ⟨#[]⟩,.string ⟨#[]⟩] [(0,1),(1,1)] 2 1),[.c (.string ⟨#[114,97]⟩),.c (.string ⟨#[114,98]⟩)],none,false⟩,O 1 2 4,J 2,ae 3,aj 4 1 3 0,J 5,d9 8 6 1,fk 9 1 0,fo 10,ab 11 2 0 1] [(9,1)]) (.seq (.reg [O 0 2 4,J 1,a6 2 2 9,fm 3,ci 4 2 24 2,O 5 2 4,ab 6 1 0 1] []) (.reg [O 0 1 5,J 1,O 2 0 9,J 3,gn 4,ci 5 1 16 3,O 6 1 5,ab 7 1 0 1] [])))) (.reg [A 0 8,b4 1 0,E 2 0] [(8,0)])))
noncomputable def zz5:CCode:=(.seq (.rcond [A 0 10,O 1 0 4,J 2,bk 3 2] [] 0 .skip (.exit 4)) (.seq (.block 5 (.reg [A 7 3,cp 8 3,a6 10 5 5,A 11 3,df 12 26 3,O 0 3 4,J 1,⟨2,.a (.bslice [.string ⟨#[]⟩,.string ⟨#[]⟩,.string ⟨#[]⟩] [(0,1),(1,1),(2,1)] 3 1),[.c (.string ⟨#[116,97]⟩),.c (.string ⟨#[116,98]⟩),.c (.string ⟨#[116,99]⟩)],none,false⟩,A 3 10,aj 4 1 1 0,J 5,A 6 10,d9 9 10 1,⟨13,.p (.build [.string ⟨#[]⟩,.bool false,.int .i64 0,.int .i64 0,.int .i64 0,.slice none 0 0] [(0,1),(2,1),(3,1),(5,1)]),[.t 2,.t 1,.t 0,.t 8],none,false⟩,gk 14,ci 15 6 72 8,O 16 3 4,ab 17 1 0 1] [])) (.reg [A 0 10,ax 1,E 2 0] [(10,0)])))
noncomputable def zz4:CCode:=(.seq (.rcond [A 0 11,cd 1 0] [] 0 .skip (.exit 6)) (.seq (.block 7 (.seq (.reg [O 0 3 4,J 1,ae 2,O 3 0 4,J 4,iv 5,E 6 0] [(12,0)]) (.reg [A 6 3,O 7 0 4,J 8,dt 9 23 2,A 10 3,cp 11 4,A 14 3,cp 15 2,a6 18 5 5,A 19 3,df 20 26 2,O 0 3 4,J 1,⟨2,.a (.bslice [.string ⟨#[]⟩,.string ⟨#[]⟩,.string ⟨#[]⟩] [(0,1),(1,1),(2,1)] 3 1),[.c (.string ⟨#[104,97]⟩),.c (.string ⟨#[104,98]⟩),.c (.string ⟨#[104,99]⟩)],none,false⟩,A 3 12,aj 4 1 1 0,J 5,d9 12 11 4,A 13 12,⟨16,.p (.bin .mul),[.t 11,.c (.int .i64 4)],none,false⟩,ak 17 1 0,⟨21,.p (.build [.string ⟨#[]⟩,.bool false,.int .i64 0,.int .i64 0,.int .i64 0,.slice none 0 0] [(0,1),(1,1),(2,1),(3,1),(4,1),(5,1)]),[.t 4,.c (.bool true),.t 17,.t 3,.t 0,.t 10],none,false⟩,gk 22,ci 23 6 72 10,O 24 3 4,ab 25 1 0 1] []))) (.reg [A 0 11,b4 1 0,E 2 0] [(11,0)])))
noncomputable def c8:CFn:={ nargs:=2,vars:=[0,1,4,5,6,7,8,9,10,11,12,13,14],results:=[.cell 2 true 4],body:=(.seq (.reg [dd 0] [(2,0)]) (.seq (.rcond [A 0 0,ae 1,cd 2 400] [] 0 (.reg [A 0 0,fg 1 400,E 2 0] [(0,0)]) .skip) (.seq (.reg [A 0 0,fh 1,fi 2,E 3 0] [(3,0)]) (.seq (.reg [A 0 3,ay 1 23 3,d9 2 0 1,⟨3,.p (.build [.int .i64 0,.slice none 0 0,.slice none 0 0,.slice none 0 0] [(0,1)]),[.t 0],none,false⟩,dd 4,ab 5 4 0 1] [(4,1)]) (.seq (.reg [A 0 1,⟨1,.p (.build [.slice none 0 0,.slice none 0 0,.int .i64 0,.slice none 0 0,.bool false] [(4,1)]),[.t 0],none,false⟩,fj 2,ab 3 5 0 1] [(5,1)]) (.seq (.seq (.reg [A 0 3,ay 1 23 3,E 2 0] [(6,0)]) (.block 0 (.loop zz7))) (.seq (.seq (.reg [A 0 3,ay 1 23 3,E 2 0] [(8,0)]) (.block 2 (.loop zz6))) (.seq (.seq (.reg [U 0 0] [(10,0)]) (.block 4 (.loop zz5))) (.seq (.seq (.reg [A 0 3,ay 1 23 4,E 2 0] [(11,0)]) (.block 6 (.loop zz4))) (.seq (.reg [a6 0 4 4,az 1 4 2] []) .ret)))))))))) }
noncomputable def zz3:CCode:=(.seq (.reg [bl 0 11 10] [(12,0)]) (.seq (.cond (.v 12) .skip (.exit 0)) (.seq (.block 1 (.seq (.reg [cj 0 2 9 11,am 1 2,fo 2,ab 3 2 0 1] [(5,1)]) (.reg [⟨3,.call 29,[],none,true⟩,A 0 4,O 1 0 5,J 2,O 4 1 5,J 5,aj 6 1 5 0,J 7,⟨8,.a (.bslice [.string ⟨#[]⟩,.string ⟨#[]⟩,.string ⟨#[]⟩,.string ⟨#[]⟩] [(0,1),(1,1),(2,1),(3,1)] 4 1),[.c (.string ⟨#[100,101,118,105,99,101,32]⟩),.t 4,.c (.string ⟨#[32]⟩),.t 0],none,false⟩,ao 9 27 7 0] []))) (.reg [bm 0 11,E 1 0] [(11,0)]))))
noncomputable def zz2:CCode:=(.seq (.reg [bl 0 15 14] [(16,0)]) (.seq (.cond (.v 16) .skip (.exit 2)) (.seq (.block 3 (.seq (.reg [cj 0 2 13 15,am 1 2,fo 2,ab 3 2 0 1] [(6,1)]) (.reg [O 3 1 6,J 4,b9 5 28,A 0 4,O 1 0 6,J 2,⟨6,.a (.bslice [.string ⟨#[]⟩,.string ⟨#[]⟩,.string ⟨#[]⟩,.string ⟨#[]⟩] [(0,1),(1,1),(2,1),(3,1)] 4 1),[.c (.string ⟨#[114,101,115,111,117,114,99,101,32]⟩),.t 0,.c (.string ⟨#[32]⟩),.t 3],none,false⟩,ao 7 27 3 0] []))) (.reg [bm 0 15,E 1 0] [(15,0)]))))
noncomputable def zz1:CCode:=(.seq (.reg [bl 0 19 18] [(20,0)]) (.seq (.cond (.v 20) .skip (.exit 4)) (.seq (.block 5 (.seq (.reg [cj 0 6 17 19,am 1 6,d8 2,ab 3 6 0 1] [(7,1)]) (.seq (.reg [O 4 2 7,J 5,b9 6 28,O 9 3 7,J 10,b9 11 28,O 0 0 7,J 1,iw 2,cu 3 0,ak 7 0 7,cu 8 0,ak 12 0 6,E 13 0] [(8,0)]) (.seq (.rcond [O 0 1 7,J 1] [] 0 (.reg [A 0 4,A 1 8,O 2 4 7,J 3,ai 4 28,⟨5,.a (.bslice [.string ⟨#[]⟩,.string ⟨#[]⟩,.string ⟨#[]⟩,.string ⟨#[]⟩,.string ⟨#[]⟩] [(0,1),(1,1),(2,1),(3,1),(4,1)] 5 1),[.c (.string ⟨#[104,97,110,100,108,101,114]⟩),.t 3,.c (.string ⟨#[32]⟩),.t 0,.c (.string ⟨#[32,123]⟩)],none,false⟩,ao 6 27 5 0] []) (.reg [A 0 4,A 1 8,⟨2,.a (.bslice [.string ⟨#[]⟩,.string ⟨#[]⟩,.string ⟨#[]⟩] [(0,1),(1,1),(2,1)] 3 1),[.c (.string ⟨#[116,97,115,107]⟩),.t 0,.c (.string ⟨#[32,123]⟩)],none,false⟩,ao 3 27 2 0] [])) (.seq (.reg [A 0 4,O 1 5 7,J 2,ao 3 30 2 0] []) (.reg [A 0 4,iy 1,ao 2 27 1 0] [])))))) (.reg [bm 0 19,E 1 0] [(19,0)]))))
noncomputable def c9:CFn:={ nargs:=1,vars:=[0,1,2,3,4,6,8,10,11,24,25,26,27,42,43,44,45,58,59,60,61],results:=[.var 2,.var 3],body:=(.seq (.reg [au 0 0,ba 1,U 2 0] [(1,2),(2,1),(3,0)]) (.seq (.rcond [a6 0 4 1,ai 1 11,bc 2] [] 0 (.seq (.reg [ba 0,U 1 1] [(2,1),(3,0)]) .ret) .skip) (.seq (.reg [⟨0,.p (.build [.pointer none,.slice none 0 0,.int .i64 0] []),[],none,false⟩,⟨1,.w (.boxT 77),[.t 0],none,false⟩,E 2 0] [(4,0)]) (.seq (.reg [A 0 4,O 1 0 1,J 2,ai 3 28,⟨4,.a (.bslice [.string ⟨#[]⟩,.string ⟨#[]⟩] [(0,1),(1,1)] 2 1),[.c (.string ⟨#[104,97,114,116,115,32]⟩),.t 0],none,false⟩,ao 5 27 4 0] []) (.seq (.seq (.reg [O 0 1 1,J 1,ae 2,U 3 0] [(9,2),(10,1),(11,0)]) (.block 0 (.loop zz3))) (.seq (.seq (.reg [O 0 2 1,J 1,ae 2,U 3 0] [(13,2),(14,1),(15,0)]) (.block 2 (.loop zz2))) (.seq (.seq (.reg [O 0 3 1,J 1,ae 2,U 3 0] [(17,2),(18,1),(19,0)]) (.block 4 (.loop zz1))) (.seq (.reg [A 0 4,bo 1 0,aw 2 0,ai 3 31,E 4 0,U 5 0] [(2,1),(3,0)]) .ret)))))))) }
noncomputable def yb9:CCode:=(.seq (.rcond [A 0 6,O 1 1 1,J 2,ae 3,bk 4 3] [] 0 .skip (.exit 0)) (.seq (.block 1 (.reg [A 0 5,⟨1,.p (.bin .add),[.t 0,.c (.string ⟨#[100,101,118,105,99,101,32]⟩)],none,false⟩,O 2 1 1,J 3,A 4 6,aj 5 2 1 0,aw 6 0,J 7,ak 8 6 0,cu 9 0,⟨10,.a (.bslice [.string ⟨#[]⟩,.string ⟨#[]⟩,.string ⟨#[]⟩] [(0,1),(1,1),(2,1)] 3 1),[.c (.string ⟨#[117,97,114,116]⟩),.c (.string ⟨#[116,105,109,101,114]⟩),.c (.string ⟨#[103,112,105,111]⟩)],none,false⟩,O 11 1 1,J 12,A 13 6,aj 14 2 1 0,aw 15 1,J 16,b4 17 0,aj 18 1 7 0,J 19,ak 20 10 0,gt 21,E 22 0] [(5,0)])) (.reg [A 0 6,ax 1,E 2 0] [(6,0)])))
noncomputable def ze0:CCode:=(.seq (.rcond [A 0 7,O 1 2 1,J 2,ae 3,bk 4 3] [] 0 .skip (.exit 2)) (.seq (.block 3 (.reg [O 10 2 1,J 11,A 12 7,aj 13 2 1 0,aw 14 1,J 15,b9 16 32,A 0 5,⟨1,.p (.bin .add),[.t 0,.c (.string ⟨#[114,101,115,111,117,114,99,101,32]⟩)],none,false⟩,O 2 2 1,J 3,A 4 7,aj 5 2 1 0,aw 6 0,J 7,ak 8 6 0,cu 9 0,ak 17 0 10,gt 18,E 19 0] [(5,0)])) (.reg [A 0 7,ax 1,E 2 0] [(7,0)])))
noncomputable def zd9:CCode:=(.seq (.rcond [A 0 8,O 1 3 1,J 2,ae 3,bk 4 3] [] 0 .skip (.exit 4)) (.seq (.block 5 (.seq (.reg [O 0 3 1,J 1,A 2 8,aj 3 6 1 0,am 4 6,d8 5,ab 6 6 0 1] [(9,1)]) (.seq (.reg [O 4 2 9,J 5,b9 6 32,O 9 3 9,J 10,b9 11 32,O 0 0 9,J 1,iw 2,cu 3 0,ak 7 0 7,cu 8 0,ak 12 0 6,E 13 0] [(10,0)]) (.seq (.rcond [O 0 1 9,J 1] [] 0 (.reg [A 0 10,⟨1,.p (.bin .add),[.c (.string ⟨#[104,97,110,100,108,101,114]⟩),.t 0],none,false⟩,cu 2 0,O 3 4 9,J 4,ai 5 32,ak 6 3 0,E 7 0] [(10,0)]) (.reg [A 0 10,⟨1,.p (.bin .add),[.c (.string ⟨#[116,97,115,107]⟩),.t 0],none,false⟩,E 2 0] [(10,0)])) (.reg [A 0 5,A 1 10,ak 2 1 0,gu 3,O 4 5 9,J 5,⟨6,.call 33,[.t 0,.c (.string ⟨#[9]⟩)],none,false⟩,ak 7 3 0,fp 8,E 9 0] [(5,0)]))))) (.reg [A 0 8,ax 1,E 2 0] [(8,0)])))
noncomputable def c10:CFn:={ nargs:=1,vars:=[0,1,2,3,4,5,6,7,8,9,10],results:=[.var 2,.var 3],body:=(.seq (.reg [au 0 0,ba 1,U 2 0] [(1,2),(2,1),(3,0)]) (.seq (.reg [a6 0 4 1,ai 1 12,E 2 0] [(4,0)]) (.seq (.rcond [A 0 4,bc 1] [] 0 (.seq (.reg [ba 0,U 1 1] [(2,1),(3,0)]) .ret) .skip) (.seq (.reg [O 0 0 1,J 1,ai 2 32,⟨3,.p (.bin .add),[.c (.string ⟨#[104,97,114,116,115,32]⟩),.t 0],none,false⟩,gt 4,E 5 0] [(5,0)]) (.seq (.seq (.reg [U 0 0] [(6,0)]) (.block 0 (.loop yb9))) (.seq (.seq (.reg [U 0 0] [(7,0)]) (.block 2 (.loop ze0))) (.seq (.seq (.reg [U 0 0] [(8,0)]) (.block 4 (.loop zd9))) (.seq (.reg [A 0 5,E 1 0,U 2 0] [(2,1),(3,0)]) .ret)))))))) }
noncomputable def c11:CFn:={ nargs:=1,vars:=[0,1,2,3,4,5],results:=[.var 2],body:=(.seq (.reg [au 0 0,Y 1] [(1,1),(2,0)]) (.seq (.reg [gv 0 34] [(3,0)]) (.seq (.reg [gv 0 37] [(4,0)]) (.seq (.reg [gv 0 38] [(5,0)]) (.seq (.reg [O 0 0 1,J 1,⟨2,.call 36,[.t 0,.c (.int .i64 1),.c (.int .i64 4)],none,false⟩,E 3 0,a8 4 1 1 0,aa 5 1,du 6,f8 7 3 8,Z 8 4,E 9 0,a8 10 2 1 0,aa 11 1,du 12,f8 13 3 8,Z 14 4,E 15 0,a8 16 3 1 0,aa 17 1,du 18,f8 19 3 16,Z 20 4,E 21 0,a8 22 1 1 0,aa 23 1,av 24 3 2,cl 25 40 1 3,dq 26 4,Z 27 5,E 28 0,a8 29 2 1 0,aa 30 1,av 31 4 2,cl 32 41 1 3,dq 33 4,Z 34 5,E 35 0,a8 36 3 1 0,aa 37 1,av 38 5 2,cl 39 42 1 3,dq 40 4,Z 41 5,E 42 0] [(2,0)]) .ret))))) }
noncomputable def yb7:CCode:=(.seq (.rcond [A 0 3,O 1 1 1,J 2,ae 3,bk 4 3] [] 0 .skip (.exit 0)) (.seq (.block 1 (.seq (.reg [O 0 1 1,J 1,A 2 3,aj 3 2 1 0,aw 4 0,J 5,ai 6 43,E 7 0] [(4,0)]) (.rcond [A 0 4,bc 1,E 2 0,aq 3 1 1 0,ac 4 1,ah 5 3 2,bq 6 2 3,bt 7 1 4,ac 8 5,dg 9 6 1,af 10 7,E 11 0,aq 12 1 1 0,ac 13 1,ah 14 3 2,bq 15 2 3,bt 16 1 4,ac 17 5,ce 18 6 3,af 19 7] [] 0 (.seq (.reg [Y 0] [(2,0)]) .ret) .skip))) (.reg [A 0 3,ax 1,E 2 0] [(3,0)])))
noncomputable def zd8:CCode:=(.seq (.rcond [A 0 5,O 1 2 1,J 2,ae 3,bk 4 3] [] 0 .skip (.exit 2)) (.seq (.block 3 (.seq (.reg [O 0 2 1,J 1,A 2 5,aj 3 2 1 0,aw 4 0,J 5,ai 6 43,E 7 0] [(6,0)]) (.rcond [A 0 6,bc 1,E 2 0,aq 3 2 1 0,ac 4 1,ah 5 5 2,bq 6 2 3,bt 7 1 4,ac 8 5,dg 9 6 1,af 10 7,E 11 0,aq 12 2 1 0,ac 13 1,ah 14 5 2,bq 15 2 3,bt 16 1 4,ac 17 5,ce 18 6 8,af 19 7] [] 0 (.seq (.reg [Y 0] [(2,0)]) .ret) .skip))) (.reg [A 0 5,ax 1,E 2 0] [(5,0)])))
noncomputable def zd7:CCode:=(.seq (.rcond [A 0 7,O 1 3 1,J 2,ae 3,bk 4 3] [] 0 .skip (.exit 4)) (.seq (.block 5 (.seq (.reg [O 0 3 1,J 1,A 2 7,aj 3 6 1 0,am 4 6,d8 5,ab 6 6 0 1] [(8,1)]) (.seq (.reg [O 0 0 8,J 1,ai 2 43,E 3 0] [(9,0)]) (.seq (.reg [O 0 5 8,J 1,ay 2 44 30,E 3 0] [(10,0)]) (.rcond [A 0 9,bc 1,E 2 0,ah 3 10 0,cy 4 1,af 5 2,E 6 0,aq 7 2 8 0,ac 8 1,dg 9 2 0,af 10 3,E 11 0,aq 12 2 8 0,ac 13 1,ce 14 2 3,af 15 3,E 16 0,aq 17 3 8 0,ac 18 1,dg 19 2 1,af 20 3,E 21 0,aq 22 3 8 0,ac 23 1,ce 24 2 7,af 25 3,E 26 0,aq 27 4 8 0,ac 28 1,dg 29 2 0,af 30 3,E 31 0,aq 32 4 8 0,ac 33 1,ce 34 2 7,af 35 3,E 36 0,aq 37 1 8 0,ac 38 1,cy 39 2,dw 40 3,a8 41 4 8 0,aa 42 1,db 43 2,dx 44 3 7,af 45 8] [] 0 (.seq (.reg [Y 0] [(2,0)]) .ret) .skip))))) (.reg [A 0 7,ax 1,E 2 0] [(7,0)])))
noncomputable def c12:CFn:={ nargs:=1,vars:=[0,1,2,3,4,5,6,7,8,9,10],results:=[.var 2],body:=(.seq (.reg [au 0 0,Y 1] [(1,1),(2,0)]) (.seq (.rcond [O 0 0 1,J 1,bz 2 1,E 3 0,aq 4 0 1 0,ac 5 1,ce 6 2 4,af 7 3,E 8 0,aq 9 1 1 0,ac 10 1,bu 11 2,ce 12 3 8,af 13 4,E 14 0,aq 15 2 1 0,ac 16 1,bu 17 2,ce 18 3 8,af 19 4,E 20 0,aq 21 3 1 0,ac 22 1,bu 23 2,ce 24 3 16,af 25 4] [] 0 (.seq (.reg [Y 0] [(2,0)]) .ret) .skip) (.seq (.seq (.reg [U 0 0] [(3,0)]) (.block 0 (.loop yb7))) (.seq (.seq (.reg [U 0 0] [(5,0)]) (.block 2 (.loop zd8))) (.seq (.seq (.reg [U 0 0] [(7,0)]) (.block 4 (.loop zd7))) (.seq (.reg [bj 0] [(2,0)]) .ret)))))) }
noncomputable def c13:CFn:={ nargs:=2,vars:=[0,1,2,3,4],results:=[.var 4],body:=(.seq (.reg [au 0 0,au 1 1,Y 2] [(2,2),(3,1),(4,0)]) (.seq (.reg [O 0 0 2,J 1,O 2 0 3,J 3,dh 4 2,E 5 0,a8 6 1 2 0,aa 7 1,a8 8 1 3 2,aa 9 3,cl 10 45 2 4,Z 11 5,E 12 0,a8 13 2 2 0,aa 14 1,a8 15 2 3 2,aa 16 3,cl 17 46 2 4,Z 18 5,E 19 0,a8 20 3 2 0,aa 21 1,a8 22 3 3 2,aa 23 3,dy 24 47 48,Z 25 5,E 26 0] [(4,0)]) .ret)) }
noncomputable def yb4:CCode:=(.seq (.rcond [A 0 5,O 1 1 2,J 2,ae 3,bk 4 3] [] 0 .skip (.exit 0)) (.seq (.block 1 (.rcond [O 0 1 2,J 1,A 2 5,aj 3 2 1 0,am 4 2,O 5 1 3,J 6,A 7 5,aj 8 2 1 0,am 9 2,fq 10 67 67 5] [] 0 (.seq (.reg [Y 0] [(4,0)]) .ret) .skip)) (.reg [A 0 5,ax 1,E 2 0] [(5,0)])))
noncomputable def zd6:CCode:=(.seq (.rcond [A 0 6,O 1 2 2,J 2,ae 3,bk 4 3] [] 0 .skip (.exit 2)) (.seq (.block 3 (.rcond [O 0 2 2,J 1,A 2 6,aj 3 2 1 0,am 4 2,O 5 2 3,J 6,A 7 6,aj 8 2 1 0,am 9 2,fq 10 69 69 5] [] 0 (.seq (.reg [Y 0] [(4,0)]) .ret) .skip)) (.reg [A 0 6,ax 1,E 2 0] [(6,0)])))
noncomputable def zd5:CCode:=(.seq (.rcond [A 0 7,O 1 3 2,J 2,ae 3,bk 4 3] [] 0 .skip (.exit 4)) (.seq (.block 5 (.seq (.reg [O 0 3 2,J 1,A 2 7,aj 3 6 1 0,am 4 6,d8 5,ab 6 6 0 1] [(8,1)]) (.seq (.reg [O 0 3 3,J 1,A 2 7,aj 3 6 1 0,am 4 6,d8 5,ab 6 6 0 1] [(9,1)]) (.seq (.reg [O 0 5 8,J 1,O 2 5 9,J 3,ao 4 49 2 0,E 5 0] [(10,0)]) (.rcond [A 0 10,bc 1,E 2 0,aq 3 0 8 0,ac 4 1,aq 5 0 9 2,ac 6 3,bp 7 2 4,af 8 5,E 9 0,aq 10 1 8 0,ac 11 1,aq 12 1 9 2,ac 13 3,gw 14 2 4,af 15 5,E 16 0,aq 17 2 8 0,ac 18 1,aq 19 2 9 2,ac 20 3,bp 21 2 4,af 22 5,E 23 0,aq 24 3 8 0,ac 25 1,aq 26 3 9 2,ac 27 3,bp 28 2 4,af 29 5,E 30 0,aq 31 4 8 0,ac 32 1,aq 33 4 9 2,ac 34 3,bp 35 2 4,af 36 5] [] 0 (.seq (.reg [Y 0] [(4,0)]) .ret) .skip))))) (.reg [A 0 7,ax 1,E 2 0] [(7,0)])))
noncomputable def c14:CFn:={ nargs:=2,vars:=[0,1,2,3,4,5,6,7,8,9,10],results:=[.var 4],body:=(.seq (.reg [au 0 0,au 1 1,Y 2] [(2,2),(3,1),(4,0)]) (.seq (.rcond [O 0 0 2,J 1,O 2 0 3,J 3,cz 4 2,E 5 0,aq 6 1 2 0,ac 7 1,bu 8 2,aq 9 1 3 3,ac 10 4,bu 11 5,bp 12 3 6,af 13 7,E 14 0,aq 15 2 2 0,ac 16 1,bu 17 2,aq 18 2 3 3,ac 19 4,bu 20 5,bp 21 3 6,af 22 7,E 23 0,aq 24 3 2 0,ac 25 1,bu 26 2,aq 27 3 3 3,ac 28 4,bu 29 5,bp 30 3 6,af 31 7] [] 0 (.seq (.reg [Y 0] [(4,0)]) .ret) .skip) (.seq (.seq (.reg [U 0 0] [(5,0)]) (.block 0 (.loop yb4))) (.seq (.seq (.reg [U 0 0] [(6,0)]) (.block 2 (.loop zd6))) (.seq (.seq (.reg [U 0 0] [(7,0)]) (.block 4 (.loop zd5))) (.seq (.reg [bj 0] [(4,0)]) .ret)))))) }
noncomputable def c15_l6:CCode:=(.seq (.reg [bl 0 6 5] [(7,0)]) (.seq (.cond (.v 7) .skip (.exit 0)) (.seq (.block 1 (.seq (.reg [cj 0 6 4 6,am 1 6,d8 2,ab 3 6 0 1] [(3,1)]) (.reg [A 0 2,O 1 5 3,J 2,ai 3 50,ak 4 3 0,E 5 0] [(2,0)]))) (.reg [bm 0 6,E 1 0] [(6,0)]))))
noncomputable def c15:CFn:={ nargs:=1,vars:=[0,1,2,4,6,7,8,9],results:=[.var 2],body:=(.seq (.reg [au 0 0,U 1 0] [(1,1),(2,0)]) (.seq (.seq (.reg [O 0 3 1,J 1,ae 2,U 3 0] [(4,2),(5,1),(6,0)]) (.block 0 (.loop c15_l6))) .ret)) }
noncomputable def c16_l6:CCode:=(.seq (.rcond [A 0 4,O 1 3 1,J 2,ae 3,bk 4 3] [] 0 .skip (.exit 0)) (.seq (.block 1 (.reg [A 0 3,O 1 3 1,J 2,A 3 4,aj 4 6 1 0,aw 5 5,J 6,ai 7 51,ak 8 7 0,E 9 0] [(3,0)])) (.reg [A 0 4,ax 1,E 2 0] [(4,0)])))
noncomputable def c16:CFn:={ nargs:=1,vars:=[0,1,2,3,4],results:=[.var 2],body:=(.seq (.reg [au 0 0,U 1 0] [(1,1),(2,0)]) (.seq (.reg [U 0 0] [(3,0)]) (.seq (.seq (.reg [U 0 0] [(4,0)]) (.block 0 (.loop c16_l6))) (.seq (.reg [A 0 3,E 1 0] [(2,0)]) .ret)))) }
noncomputable def zk4:List SOp:=[ck 0]
noncomputable def zk3:List SOp:=[A 0 0,ae 1,cd 2 100]
noncomputable def zk2:List SOp:=[A 0 0,fg 1 100,E 2 0]
noncomputable def zk1:List SOp:=[A 0 0,fh 1,fi 2,E 3 0]
noncomputable def zk0:List SOp:=[gm 0,fj 1,ab 2 5 0 1]
noncomputable def zj9:List SOp:=[a6 0 5 3,A 1 2,f9 2 3,ck 3,ab 4 5 0 1]
noncomputable def zj8:List SOp:=[A 0 2,ay 1 23 6]
noncomputable def zj7:List SOp:=[a7 0 6 0,E 1 0]
noncomputable def zj6:List SOp:=[A 0 2,ay 1 23 8,b4 2 0,O 3 0 4,ab 4 1 0 1]
noncomputable def zj5:List SOp:=[a7 0 6 1,E 1 0]
noncomputable def V8:List SOp:=[A 0 2,ay 1 23 20,b4 2 0,O 3 1 4,ab 4 1 0 1]
noncomputable def V7:List SOp:=[a7 0 6 2,E 1 0]
noncomputable def V6:List SOp:=[⟨0,.a (.bslice [.int .i64 0,.int .i64 0,.int .i64 0,.int .i64 0] [(0,1),(1,1),(2,1),(3,1)] 4 1),[.c (.int .i64 (-1)),.c (.int .i64 1),.c (.int .i64 4294967296),.c (.int .i64 4294967295)],none,false⟩,A 1 2,ay 2 23 4,aj 3 1 2 0,J 4,O 5 2 4,ab 6 1 0 1]
noncomputable def V5:List SOp:=[a7 0 6 3,E 1 0]
noncomputable def V4:List SOp:=[A 0 2,ai 1 24,O 2 3 4,ab 3 1 0 1]
noncomputable def V3:List SOp:=[a7 0 6 4,E 1 0]
noncomputable def V2:List SOp:=[a6 0 5 3,A 1 2,df 2 25 2,cr 3 0,O 4 4 4,J 5,ci 6 5 64 2,O 7 4 4,ab 8 1 0 1]
noncomputable def V1:List SOp:=[A 0 2,ay 1 23 60,E 2 0]
noncomputable def zd4:CCode:=(.seq (.rcond [A 0 5,cd 1 25] [] 0 .skip (.exit 1)) (.seq (.block 2 (.reg [a6 0 5 4,cr 1 0,gh 2 3 17,az 3 5 4] [])) (.reg [A 0 5,b4 1 0,E 2 0] [(5,0)])))
noncomputable def V0:List SOp:=[a6 0 5 4,az 1 5 1]
noncomputable def c17:CFn:={ nargs:=1,vars:=[0,2,3,4,5,6,20],results:=[.cell 1 true 5],body:=(.seq (.reg zk4 [(1,0)]) (.seq (.rcond zk3 [] 0 (.reg zk2 [(0,0)]) .skip) (.seq (.reg zk1 [(2,0)]) (.seq (.reg zk0 [(3,1)]) (.seq (.reg zj9 [(4,1)]) (.seq (.seq (.reg zj8 [(6,0)]) (.block 0 (.rcond zj7 [] 0 (.reg zj6 []) (.rcond zj5 [] 0 (.reg V8 []) (.rcond V7 [] 0 (.reg V6 []) (.rcond V5 [] 0 (.reg V4 []) (.rcond V3 [] 0 (.reg V2 []) .skip))))))) (.seq (.seq (.reg V1 [(5,0)]) (.block 1 (.loop zd4))) (.seq (.reg V0 []) .ret)))))))) }
noncomputable def c18:CFn:={ nargs:=1,vars:=[0,2,3],results:=[.cell 1 true 5],body:=(.seq (.reg [ck 0] [(1,0)]) (.seq (.rcond [A 0 0,ae 1,cd 2 100] [] 0 (.reg [A 0 0,fg 1 100,E 2 0] [(0,0)]) .skip) (.seq (.reg [A 0 0,fh 1,fi 2,E 3 0] [(2,0)]) (.seq (.reg [gm 0,A 1 2,f9 2 6,az 3 5 1] []) .ret)))) }
noncomputable def c19:CFn:={ nargs:=1,vars:=[0,1,2,3],results:=[.var 2,.var 3],body:=(.seq (.reg [au 0 0,ba 1,U 2 0] [(1,2),(2,1),(3,0)]) (.seq (.rcond [a6 0 5 1,cr 1 0,ay 2 52 30,bc 3] [] 0 (.seq (.reg [ba 0,U 1 1] [(2,1),(3,0)]) .ret) .skip) (.seq (.reg [a6 0 5 1,ai 1 53,E 2 0,U 3 0] [(2,1),(3,0)]) .ret))) }
noncomputable def c20:CFn:={ nargs:=1,vars:=[0,1,2,3,4],results:=[.var 2,.var 3],body:=(.seq (.reg [au 0 0,ba 1,U 2 0] [(1,2),(2,1),(3,0)]) (.seq (.reg [a6 0 5 1,ai 1 54,E 2 0] [(4,0)]) (.seq (.rcond [A 0 4,bc 1] [] 0 (.seq (.reg [ba 0,U 1 1] [(2,1),(3,0)]) .ret) .skip) (.seq (.reg [a6 0 5 1,ai 1 55,E 2 0,U 3 0] [(2,1),(3,0)]) .ret)))) }
noncomputable def c21_l9:CCode:=(.seq (.rcond [A 0 3,A 1 0,ae 2,bk 3 2] [] 0 .skip (.exit 0)) (.seq (.block 1 (.seq (.reg [A 0 0,A 1 3,aj 2 5 1 0,aw 3 4,J 4,A 5 1,A 6 3,aj 7 5 1 0,aw 8 4,J 9,ao 10 21 5 0,E 11 0] [(4,0)]) (.rcond [A 0 4,bc 1,E 2 0,ah 3 0 0,ah 4 3 1,bq 5 5 2,bt 6 0 3,ac 7 4,ah 8 1 5,ah 9 3 6,bq 10 5 7,bt 11 0 8,ac 12 9,bp 13 5 10,af 14 11,E 15 0,ah 16 0 0,ah 17 3 1,bq 18 5 2,bt 19 1 3,ac 20 4,ah 21 1 5,ah 22 3 6,bq 23 5 7,bt 24 1 8,ac 25 9,bp 26 5 10,af 27 11,E 28 0,ah 29 0 0,ah 30 3 1,bq 31 5 2,bt 32 2 3,ac 33 4,ah 34 1 5,ah 35 3 6,bq 36 5 7,bt 37 2 8,ac 38 9,bp 39 5 10,af 40 11,E 41 0,ah 42 0 0,ah 43 3 1,bq 44 5 2,bt 45 3 3,ac 46 4,ah 47 1 5,ah 48 3 6,bq 49 5 7,bt 50 3 8,ac 51 9,bp 52 5 10,af 53 11] [] 0 (.seq (.reg [Y 0] [(2,0)]) .ret) .skip))) (.reg [A 0 3,ax 1,E 2 0] [(3,0)])))
noncomputable def c21:CFn:={ nargs:=2,vars:=[0,1,4,5,6],results:=[.var 2],body:=(.seq (.reg [Y 0] [(2,0)]) (.seq (.rcond [A 0 0,ae 1,A 2 1,ae 3,cz 4 2] [] 0 (.seq (.reg [Y 0] [(2,0)]) .ret) .skip) (.seq (.seq (.reg [U 0 0] [(3,0)]) (.block 0 (.loop c21_l9))) (.seq (.reg [bj 0] [(2,0)]) .ret)))) }
noncomputable def c23:CFn:={ nargs:=2,vars:=[0,1,4,5],results:=[.var 2],body:=(.seq (.reg [U 0 0] [(2,0)]) (.seq (.rcond [A 0 0,bo 1 0,aw 2 0,J 3,ae 4,cn 5 0] [] 0 (.seq (.reg [U 0 0] [(2,0)]) .ret) .skip) (.seq (.reg [A 0 0,bo 1 0,aw 2 0,J 3,bw 4 1 0,J 5,A 6 1,ao 7 62 1 0,E 8 0] [(3,0)]) (.seq (.reg [A 0 0,A 1 0,bo 2 0,aw 3 0,J 4,⟨5,.p (.sliceS 1 true false),[.t 0,.c (.int .i64 1)],none,false⟩,bo 6 5,aw 7 0,ab 8 1 0 2] []) (.seq (.reg [A 0 3,E 1 0] [(2,0)]) .ret))))) }
noncomputable def c24:CFn:={ nargs:=1,vars:=[0,2],results:=[.var 1],body:=(.seq (.reg [ba 0] [(1,0)]) (.seq (.reg [⟨0,.a (.bslice [.string ⟨#[]⟩,.string ⟨#[]⟩,.string ⟨#[]⟩,.string ⟨#[]⟩,.string ⟨#[]⟩,.string ⟨#[]⟩,.string ⟨#[]⟩,.string ⟨#[]⟩,.string ⟨#[]⟩,.string ⟨#[]⟩] [(0,1),(1,1),(2,1),(3,1),(4,1),(5,1),(6,1),(7,1),(8,1),(9,1)] 10 1),[.c (.string ⟨#[]⟩),.c (.string ⟨#[120]⟩),.c (.string ⟨#[114,97]⟩),.c (.string ⟨#[100]⟩),.c (.string ⟨#[116,97]⟩),.c (.string ⟨#[105,102]⟩),.c (.string ⟨#[49,97]⟩),.c (.string ⟨#[121]⟩),.c (.string ⟨#[114,98]⟩),.c (.string ⟨#[104,97]⟩)],none,false⟩,A 1 0,ay 2 23 10,aj 3 1 2 0,J 4,E 5 0] [(1,0)]) .ret)) }
noncomputable def c25:CFn:={ nargs:=3,vars:=[0,1,2,3,6,7],results:=[.cell 4 true 5],body:=(.seq (.reg [au 0 0,ck 1] [(3,1),(4,0)]) (.seq (.reg [A 0 1,ay 1 23 8,E 2 0] [(5,0)]) (.seq (.rcond [A 0 2,bz 1 1,E 2 0,ah 3 5 0,dg 4 1 2,af 5 2] [] 0 (.seq (.reg [A 0 1,ay 1 23 10,A 2 1,ay 3 23 300,A 4 1,ay 5 23 4294967296,⟨6,.a (.bslice [.int .i64 0,.int .i64 0,.int .i64 0] [(0,1),(1,1),(2,1)] 3 1),[.t 4,.t 2,.t 0],none,false⟩,A 7 1,ay 8 23 3,aj 9 1 2 0,J 10,iz 11 2 1,az 12 5 4] []) .ret) .skip) (.seq (.block 0 (.rcond [A 0 5,bz 1 4,E 2 0] [] 0 (.seq (.reg [a6 0 5 3,A 1 1,j0 2,cg 3 63 2 1,iz 4 3 2,az 5 5 4] []) .ret) (.rcond [A 0 5,cn 1 4,E 2 0] [] 0 (.seq (.reg [A 0 1,cp 1 3,a6 3 5 3,A 4 1,A 5 2,b4 6 0,cg 7 25 3 2,d9 2 5 15,cr 8 1,gy 9 1 1 3,az 10 5 4] []) .ret) (.rcond [A 0 5,cn 1 5,E 2 0,a8 3 4 3 0,aa 4 1,di 5 2,aq 6 3 3 0,ac 7 1,bu 8 2,ce 9 3 0,dj 10 4 7,Z 11 8,E 12 0] [] 0 (.seq (.reg [a6 0 5 3,A 1 1,O 2 3 3,J 3,fa 4 63,a6 5 5 3,A 6 1,A 7 2,b4 8 0,cg 9 25 3 2,cr 10 0,gy 11 3 6 5,az 12 5 4] []) .ret) .skip)))) (.seq (.reg [A 0 1,cp 1 14,a6 3 5 3,A 4 1,A 5 2,b4 6 0,fa 7 25,a6 8 5 3,A 9 1,A 10 2,b4 11 0,cg 12 25 3 2,d9 2 10 1,eu 13 6 1,gy 14 1 1 4,az 15 5 4] []) .ret))))) }
noncomputable def c26_l6:CCode:=(.seq (.rcond [A 0 6,cd 1 0] [] 0 .skip (.exit 0)) (.seq (.block 1 (.reg [A 0 5,a6 1 5 3,A 2 1,A 3 2,cg 4 64 2 1,dm 5,ci 6 7 120 5,E 7 0] [(5,0)])) (.reg [A 0 6,b4 1 0,E 2 0] [(6,0)])))
noncomputable def c26:CFn:={ nargs:=3,vars:=[0,1,2,3,6,7,8],results:=[.var 4],body:=(.seq (.reg [au 0 0,fb 1] [(3,1),(4,0)]) (.seq (.reg [fb 0] [(5,0)]) (.seq (.seq (.reg [A 0 1,ay 1 23 4,E 2 0] [(6,0)]) (.block 0 (.loop c26_l6))) (.seq (.reg [A 0 5,E 1 0] [(4,0)]) .ret)))) }
noncomputable def c27_l6:CCode:=(.seq (.reg [bl 0 5 4] [(6,0)]) (.seq (.cond (.v 6) .skip (.exit 0)) (.seq (.block 1 (.seq (.reg [cj 0 1 3 5,J 1,E 2 0] [(2,0)]) (.reg [A 0 0,bo 1 0,aw 2 0,A 3 2,ao 4 65 1 0] []))) (.reg [bm 0 5,E 1 0] [(5,0)]))))
noncomputable def c27:CFn:={ nargs:=2,vars:=[0,1,5,15,16,17,18],results:=[],body:=(.seq (.reg [A 3 0,bo 4 0,aw 5 2,J 6,⟨7,.call 66,[.c (.string ⟨#[9]⟩),.t 0],none,false⟩,A 0 0,bo 1 0,aw 2 0,ao 8 65 0 3] []) (.seq (.seq (.reg [A 0 1,ae 1,U 2 0] [(3,2),(4,1),(5,0)]) (.block 0 (.loop c27_l6))) (.reg [A 0 0,bo 1 0,aw 2 0,⟨3,.call 67,[.t 0,.c (.int .u8 10)],none,false⟩] []))) }
noncomputable def c29:CFn:={ nargs:=0,vars:=[0],results:=[.var 0],body:=(.seq (.reg [fb 0] [(0,0)]) (.seq (.reg [⟨0,.a (.bslice [.string ⟨#[]⟩,.string ⟨#[]⟩,.string ⟨#[]⟩,.string ⟨#[]⟩] [(0,1),(1,1),(2,1),(3,1)] 4 1),[.c (.string ⟨#[]⟩),.c (.string ⟨#[117,97,114,116]⟩),.c (.string ⟨#[116,105,109,101,114]⟩),.c (.string ⟨#[103,112,105,111]⟩)],none,false⟩,E 1 0] [(0,0)]) .ret)) }
noncomputable def c30_l6:CCode:=(.seq (.reg [bl 0 5 4] [(6,0)]) (.seq (.cond (.v 6) .skip (.exit 0)) (.seq (.block 1 (.seq (.reg [cj 0 7 3 5,am 1 7,dr 2,ab 3 7 0 1] [(2,1)]) (.reg [A 0 0,a6 1 7 2,ao 2 69 1 0] []))) (.reg [bm 0 5,E 1 0] [(5,0)]))))
noncomputable def c30:CFn:={ nargs:=2,vars:=[0,1,5,13,14,15,16],results:=[],body:=(.seq (.reg [A 0 0,bo 1 0,aw 2 2,J 3,ax 4,bo 5 4,aw 6 2,ab 7 1 0 2] []) (.seq (.seq (.reg [A 0 1,ae 1,U 2 0] [(3,2),(4,1),(5,0)]) (.block 0 (.loop c30_l6))) (.reg [A 0 0,bo 1 0,aw 2 2,J 3,b4 4 0,bo 5 4,aw 6 2,ab 7 1 0 2] []))) }
noncomputable def c31:CFn:={ nargs:=1,vars:=[0,2],results:=[.var 1],body:=(.seq (.reg [ba 0] [(1,0)]) (.seq (.reg [A 0 0,bo 1 0,aw 2 1,J 3,⟨4,.p (.sliceData),[.t 0],none,false⟩,A 5 0,bo 6 0,aw 7 1,J 8,ae 9,⟨10,.w (.unsStr 5),[.t 5,.t 0],none,false⟩,E 11 0] [(1,0)]) .ret)) }
noncomputable def c32:CFn:={ nargs:=1,vars:=[0,2,3],results:=[.var 1],body:=(.seq (.reg [ba 0] [(1,0)]) (.seq (.reg [A 0 0,gz 1,d9 2 0 48,⟨3,.p (.conv .u8),[.t 0],none,false⟩,i6 4,⟨5,.r .bytesStr,[.t 0],none,false⟩,E 6 0] [(2,0)]) (.seq (.rcond [A 0 0,cw 1 10] [] 0 (.seq (.reg [A 0 0,j1 1,ai 2 32,A 3 2,ak 4 1 0,E 5 0] [(1,0)]) .ret) .skip) (.seq (.reg [A 0 2,E 1 0] [(1,0)]) .ret)))) }
noncomputable def c33_l6:CCode:=(.seq (.rcond [A 0 4,A 1 0,ae 2,bk 3 2] [] 0 .skip (.exit 0)) (.seq (.block 1 (.reg [A 0 3,A 1 0,A 2 4,aj 3 7 1 0,am 4 7,A 5 1,ao 6 70 1 0,ak 7 6 0,E 8 0] [(3,0)])) (.reg [A 0 4,ax 1,E 2 0] [(4,0)])))
noncomputable def c33:CFn:={ nargs:=2,vars:=[0,1,4,5,6],results:=[.var 2],body:=(.seq (.reg [ba 0] [(2,0)]) (.seq (.reg [ba 0] [(3,0)]) (.seq (.seq (.reg [U 0 0] [(4,0)]) (.block 0 (.loop c33_l6))) (.seq (.reg [A 0 3,E 1 0] [(2,0)]) .ret)))) }
noncomputable def c34:CFn:={ nargs:=1,vars:=[0,1,2],results:=[.var 2],body:=(.seq (.reg [au 0 0,Y 1] [(1,1),(2,0)]) (.seq (.reg [O 0 0 1,J 1,ai 2 35,bc 3,E 4 0,aq 5 1 1 0,ac 6 1,j2 7 3,cy 8 3,af 9 4,E 10 0] [(2,0)]) .ret)) }
noncomputable def c35:CFn:={ nargs:=1,vars:=[0,2],results:=[.var 1],body:=(.seq (.reg [Y 0] [(1,0)]) (.seq (.reg [A 0 0,⟨1,.p (.bin .neq),[.t 0,.c (.string ⟨#[]⟩)],none,false⟩,E 2 0,av 3 0 0,i7 4 1,f8 5 2 20,Z 6 3,E 7 0,av 8 0 0,da 9 57 1,av 10 0 2,i7 11 3,cq 12 2 4,Z 13 5,E 14 0,av 15 0 0,⟨16,.p .idxStr,[.t 0,.c (.int .i64 0)],some (1,true),false⟩,⟨17,.p (.bin .gtr),[.t 0,.c (.int .u8 57)],some (2,true),false⟩,Z 18 3,E 19 0,av 20 0 0,da 21 71 1,dq 22 2,Z 23 3,E 24 0] [(1,0)]) .ret)) }
noncomputable def c36:CFn:={ nargs:=3,vars:=[0,1,2,6],results:=[.var 3],body:=(.seq (.reg [Y 0] [(3,0)]) (.seq (.reg [A 0 0,A 1 1,⟨2,.p (.bin .geq),[.t 1,.t 0],none,false⟩,E 3 0,av 4 0 0,av 5 2 1,⟨6,.p (.bin .leq),[.t 1,.t 0],some (2,true),false⟩,Z 7 3,E 8 0] [(3,0)]) .ret)) }
noncomputable def c37:CFn:={ nargs:=1,vars:=[0,1,2],results:=[.var 2],body:=(.seq (.reg [au 0 0,Y 1] [(1,1),(2,0)]) (.seq (.reg [O 0 0 1,J 1,ai 2 35,bc 3,E 4 0,aq 5 1 1 0,ac 6 1,j2 7 8,cy 8 3,af 9 4,E 10 0] [(2,0)]) .ret)) }
noncomputable def c38:CFn:={ nargs:=1,vars:=[0,1,2],results:=[.var 2],body:=(.seq (.reg [au 0 0,Y 1] [(1,1),(2,0)]) (.seq (.reg [a6 0 6 1,ai 1 39,bc 2,E 3 0] [(2,0)]) .ret)) }
noncomputable def c39:CFn:={ nargs:=1,vars:=[0,1,2,3],results:=[.var 2],body:=(.seq (.reg [au 0 0,Y 1] [(1,1),(2,0)]) (.seq (.reg [U 0 0] [(3,0)]) (.seq (.rcond [O 0 1 1,J 1] [] 0 (.reg [U 0 7] [(3,0)]) .skip) (.seq (.reg [O 0 0 1,J 1,ai 2 35,E 3 0,a8 4 2 1 0,aa 5 1,j3 6 0 3,Z 7 3,E 8 0,a8 9 3 1 0,aa 10 1,j3 11 1 7,Z 12 3,E 13 0,a8 14 4 1 0,aa 15 1,av 16 3 2,⟨17,.call 36,[.t 1,.c (.int .i64 0),.t 0],some (3,true),false⟩,Z 18 4,E 19 0,a8 20 5 1 0,aa 21 1,j4 22 72,Z 23 3,E 24 0] [(2,0)]) .ret)))) }
noncomputable def c40:CFn:={ nargs:=2,vars:=[0,1,4],results:=[.var 2],body:=(.seq (.reg [Y 0] [(2,0)]) (.seq (.reg [A 0 0,A 1 1,ao 2 73 1 0,cw 3 0,E 4 0] [(2,0)]) .ret)) }
noncomputable def c41:CFn:={ nargs:=2,vars:=[0,1,4],results:=[.var 2],body:=(.seq (.reg [Y 0] [(2,0)]) (.seq (.reg [A 0 0,A 1 1,ao 2 74 1 0,cw 3 0,E 4 0] [(2,0)]) .ret)) }
noncomputable def c42:CFn:={ nargs:=2,vars:=[0,1,4],results:=[.var 2],body:=(.seq (.reg [Y 0] [(2,0)]) (.seq (.reg [A 0 0,A 1 1,ao 2 75 1 0,cw 3 0,E 4 0] [(2,0)]) .ret)) }
noncomputable def yb3:CCode:=(.seq (.rcond [A 0 3,A 1 0,cv 2,bk 3 2] [] 0 .skip (.exit 0)) (.seq (.block 1 (.seq (.reg [A 0 0,A 1 3,⟨2,.p .idxStr,[.t 1,.t 0],none,false⟩,ai 3 78,E 4 0,ah 5 0 0,ah 6 3 1,⟨7,.p .idxStr,[.t 1,.t 0],some (2,false),false⟩,ft 8 77 3,af 9 4,E 10 0] [(4,0)]) (.rcond [A 0 4,bc 1] [] 0 (.seq (.reg [Y 0] [(1,0)]) .ret) .skip))) (.reg [A 0 3,ax 1,E 2 0] [(3,0)])))
noncomputable def c43:CFn:={ nargs:=1,vars:=[0,2,3,4,5],results:=[.var 1],body:=(.seq (.reg [Y 0] [(1,0)]) (.seq (.reg [A 0 0,ai 1 76,E 2 0] [(2,0)]) (.seq (.rcond [A 0 0,dz 1,E 2 0,ah 3 0 0,⟨4,.p .lenStr,[.t 0],some (1,false),false⟩,ce 5 2 20,af 6 3,E 7 0,ah 8 0 0,⟨9,.p .idxStr,[.t 0,.c (.int .i64 0)],some (1,false),false⟩,ft 10 77 2,af 11 3,E 12 0,ah 13 2 0,af 14 1] [] 0 (.seq (.reg [Y 0] [(1,0)]) .ret) .skip) (.seq (.seq (.reg [U 0 0] [(3,0)]) (.block 0 (.loop yb3))) (.seq (.reg [bj 0] [(1,0)]) .ret))))) }
noncomputable def c44_l7:CCode:=(.seq (.rcond [A 0 3,A 1 0,ae 2,bk 3 2] [] 0 .skip (.exit 0)) (.seq (.block 1 (.seq (.reg [A 0 0,A 1 3,aj 2 7 1 0,am 3 7,A 4 1,ao 5 79 1 0,E 6 0] [(4,0)]) (.rcond [A 0 4,bc 1] [] 0 (.seq (.reg [Y 0] [(2,0)]) .ret) .skip))) (.reg [A 0 3,ax 1,E 2 0] [(3,0)])))
noncomputable def c44:CFn:={ nargs:=2,vars:=[0,1,4,5,6],results:=[.var 2],body:=(.seq (.reg [Y 0] [(2,0)]) (.seq (.seq (.reg [U 0 0] [(3,0)]) (.block 0 (.loop c44_l7))) (.seq (.reg [bj 0] [(2,0)]) .ret))) }
noncomputable def c45_l9:CCode:=(.seq (.reg [bl 0 5 4] [(6,0)]) (.seq (.cond (.v 6) .skip (.exit 0)) (.seq (.block 1 (.seq (.reg [A 0 5,E 1 0] [(3,0)]) (.rcond [A 0 0,A 1 3,aj 2 2 1 0,am 3 2,A 4 1,A 5 3,aj 6 2 1 0,am 7 2,fq 8 67 67 4] [] 0 (.seq (.reg [Y 0] [(2,0)]) .ret) .skip))) (.reg [bm 0 5,E 1 0] [(5,0)]))))
noncomputable def c45:CFn:={ nargs:=2,vars:=[0,1,4,5,12,13,14],results:=[.var 2],body:=(.seq (.reg [Y 0] [(2,0)]) (.seq (.rcond [A 0 0,ae 1,A 2 1,ae 3,cz 4 2] [] 0 (.seq (.reg [Y 0] [(2,0)]) .ret) .skip) (.seq (.seq (.reg [A 0 0,ae 1,U 2 0] [(4,1),(5,0)]) (.block 0 (.loop c45_l9))) (.seq (.reg [bj 0] [(2,0)]) .ret)))) }
noncomputable def c46_l9:CCode:=(.seq (.reg [bl 0 5 4] [(6,0)]) (.seq (.cond (.v 6) .skip (.exit 0)) (.seq (.block 1 (.seq (.reg [A 0 5,E 1 0] [(3,0)]) (.rcond [A 0 0,A 1 3,aj 2 2 1 0,am 3 2,A 4 1,A 5 3,aj 6 2 1 0,am 7 2,fq 8 69 69 4] [] 0 (.seq (.reg [Y 0] [(2,0)]) .ret) .skip))) (.reg [bm 0 5,E 1 0] [(5,0)]))))
noncomputable def c46:CFn:={ nargs:=2,vars:=[0,1,4,5,12,13,14],results:=[.var 2],body:=(.seq (.reg [Y 0] [(2,0)]) (.seq (.rcond [A 0 0,ae 1,A 2 1,ae 3,cz 4 2] [] 0 (.seq (.reg [Y 0] [(2,0)]) .ret) .skip) (.seq (.seq (.reg [A 0 0,ae 1,U 2 0] [(4,1),(5,0)]) (.block 0 (.loop c46_l9))) (.seq (.reg [bj 0] [(2,0)]) .ret)))) }
noncomputable def yb2:CCode:=(.seq (.reg [bl 0 9 8] [(10,0)]) (.seq (.cond (.v 10) .skip (.exit 0)) (.seq (.block 1 (.seq (.reg [A 0 9,cj 1 6 7 9,am 2 6,d8 3,E 4 3,ab 5 6 1 2] [(4,1),(5,2)]) (.seq (.reg [A 0 1,A 1 4,aj 2 6 1 0,am 3 6,d8 4,ab 5 6 0 1] [(6,1)]) (.rcond [A 0 2,a6 1 6 5,a6 2 6 6,i8 3,bc 4] [] 0 (.seq (.reg [Y 0] [(3,0)]) .ret) .skip)))) (.reg [bm 0 9,E 1 0] [(9,0)]))))
noncomputable def c47:CFn:={ nargs:=3,vars:=[0,1,2,6,7,8,9,15,16,17,18],results:=[.var 3],body:=(.seq (.reg [Y 0] [(3,0)]) (.seq (.rcond [A 0 0,ae 1,A 2 1,ae 3,cz 4 2] [] 0 (.seq (.reg [Y 0] [(3,0)]) .ret) .skip) (.seq (.seq (.reg [A 0 0,ae 1,U 2 0] [(7,2),(8,1),(9,0)]) (.block 0 (.loop yb2))) (.seq (.reg [bj 0] [(3,0)]) .ret)))) }
noncomputable def c48:CFn:={ nargs:=2,vars:=[0,1,2,3,4],results:=[.var 4],body:=(.seq (.reg [au 0 0,au 1 1,Y 2] [(2,2),(3,1),(4,0)]) (.seq (.reg [O 0 0 2,J 1,O 2 0 3,J 3,dh 4 2,E 5 0,a8 6 1 2 0,aa 7 1,a8 8 1 3 2,aa 9 3,⟨10,.p (.eqB false),[.t 2,.t 0],some (4,true),false⟩,Z 11 5,E 12 0,a8 13 2 2 0,aa 14 1,a8 15 2 3 2,aa 16 3,cq 17 2 4,Z 18 5,E 19 0,a8 20 3 2 0,aa 21 1,a8 22 3 3 2,aa 23 3,cq 24 2 4,Z 25 5,E 26 0,a8 27 4 2 0,aa 28 1,a8 29 4 3 2,aa 30 3,cq 31 2 4,Z 32 5,E 33 0,a8 34 5 2 0,aa 35 1,a8 36 5 3 2,aa 37 3,dy 38 80 81,Z 39 5,E 40 0] [(4,0)]) .ret)) }
noncomputable def yb1:CCode:=(.seq (.rcond [A 0 3,A 1 0,ae 2,bk 3 2] [] 0 .skip (.exit 0)) (.seq (.block 1 (.seq (.reg [A 0 0,A 1 3,aj 2 7 1 0,aw 3 4,J 4,A 5 1,A 6 3,aj 7 7 1 0,aw 8 4,J 9,ao 10 21 5 0,E 11 0] [(4,0)]) (.seq (.reg [A 0 0,A 1 3,aj 2 7 1 0,aw 3 5,J 4,A 5 1,A 6 3,aj 7 7 1 0,aw 8 5,J 9,ao 10 49 5 0,E 11 0] [(5,0)]) (.seq (.reg [A 0 0,A 1 3,aj 2 7 1 0,aw 3 6,J 4,A 5 1,A 6 3,aj 7 7 1 0,aw 8 6,J 9,ao 10 49 5 0,E 11 0] [(6,0)]) (.rcond [A 0 4,bc 1,E 2 0,ah 3 5 0,cy 4 1,af 5 2,E 6 0,ah 7 6 0,cy 8 1,af 9 2,E 10 0,ah 11 0 0,ah 12 3 1,bq 13 7 2,bt 14 0 3,ac 15 4,ah 16 1 5,ah 17 3 6,bq 18 7 7,bt 19 0 8,ac 20 9,bp 21 5 10,af 22 11,E 23 0,ah 24 0 0,ah 25 3 1,bq 26 7 2,bt 27 1 3,ac 28 4,ah 29 1 5,ah 30 3 6,bq 31 7 7,bt 32 1 8,ac 33 9,bp 34 5 10,af 35 11,E 36 0,ah 37 0 0,ah 38 3 1,bq 39 7 2,bt 40 2 3,ac 41 4,ah 42 1 5,ah 43 3 6,bq 44 7 7,bt 45 2 8,ac 46 9,bp 47 5 10,af 48 11,E 49 0,ah 50 0 0,ah 51 3 1,bq 52 7 2,bt 53 3 3,ac 54 4,ah 55 1 5,ah 56 3 6,bq 57 7 7,bt 58 3 8,ac 59 9,bp 60 5 10,af 61 11] [] 0 (.seq (.reg [Y 0] [(2,0)]) .ret) .skip))))) (.reg [A 0 3,ax 1,E 2 0] [(3,0)])))
noncomputable def c49:CFn:={ nargs:=2,vars:=[0,1,4,5,6,7,8],results:=[.var 2],body:=(.seq (.reg [Y 0] [(2,0)]) (.seq (.rcond [A 0 0,ae 1,A 2 1,ae 3,cz 4 2] [] 0 (.seq (.reg [Y 0] [(2,0)]) .ret) .skip) (.seq (.seq (.reg [U 0 0] [(3,0)]) (.block 0 (.loop yb1))) (.seq (.reg [bj 0] [(2,0)]) .ret)))) }
noncomputable def c50_l7:CCode:=(.seq (.reg [bl 0 6 5] [(7,0)]) (.seq (.cond (.v 7) .skip (.exit 0)) (.seq (.block 1 (.seq (.reg [cj 0 7 4 6,am 1 7,dr 2,ab 3 7 0 1] [(3,1)]) (.reg [O 1 4 3,J 2,b9 3 82,O 4 5 3,J 5,b9 6 50,O 8 6 3,J 9,ai 10 50,A 0 2,ak 7 7 4,ak 11 0 2,ak 12 2 0,E 13 0] [(2,0)]))) (.reg [bm 0 6,E 1 0] [(6,0)]))))
noncomputable def c50:CFn:={ nargs:=1,vars:=[0,2,3,5,8,9,10,11],results:=[.var 1],body:=(.seq (.reg [U 0 0] [(1,0)]) (.seq (.reg [A 0 0,ae 1,E 2 0] [(2,0)]) (.seq (.seq (.reg [A 0 0,ae 1,U 2 0] [(4,2),(5,1),(6,0)]) (.block 0 (.loop c50_l7))) (.seq (.reg [A 0 2,E 1 0] [(1,0)]) .ret)))) }
noncomputable def c51_l6:CCode:=(.seq (.rcond [A 0 3,A 1 0,ae 2,bk 3 2] [] 0 .skip (.exit 0)) (.seq (.block 1 (.reg [A 1 0,A 2 3,aj 3 7 1 0,aw 4 4,J 5,b9 6 83,A 8 0,A 9 3,aj 10 7 1 0,aw 11 5,J 12,b9 13 51,A 15 0,A 16 3,aj 17 7 1 0,aw 18 6,J 19,ai 20 51,A 0 2,ak 7 0 13,ak 14 0 8,ak 21 0 3,E 22 0] [(2,0)])) (.reg [A 0 3,ax 1,E 2 0] [(3,0)])))
noncomputable def c51:CFn:={ nargs:=1,vars:=[0,2,3,4],results:=[.var 1],body:=(.seq (.reg [U 0 0] [(1,0)]) (.seq (.reg [A 0 0,ae 1,E 2 0] [(2,0)]) (.seq (.seq (.reg [U 0 0] [(3,0)]) (.block 0 (.loop c51_l6))) (.seq (.reg [A 0 2,E 1 0] [(1,0)]) .ret)))) }
noncomputable def c52:CFn:={ nargs:=2,vars:=[0,1,3,4],results:=[.var 3],body:=(.seq (.reg [au 0 1,Y 1] [(2,1),(3,0)]) (.seq (.reg [A 0 0,⟨1,.p (.mkFunc 85 0),[.v 2],none,false⟩,ao 2 84 1 0,bc 3,E 4 0] [(3,0)]) .ret)) }
noncomputable def c53:CFn:={ nargs:=1,vars:=[0,1,2,3,5,13],results:=[.var 2],body:=(.seq (.reg [au 0 0,ba 1] [(1,1),(2,0)]) (.seq (.reg [O 0 1 1,J 1,ai 2 87,E 3 0,be 4 0 0,be 5 1 1,E 6 1,E 7 1] [(3,1)]) (.seq (.seq (.reg [O 0 0 1,J 1] [(5,0)]) (.block 0 (.rcond [a7 0 5 1,E 1 0] [] 0 (.seq (.reg [O 0 2 1,J 1,ai 2 28,E 3 0] [(2,0)]) .ret) (.rcond [a7 0 5 5,E 1 0] [] 0 (.seq (.reg [O 3 4 1,J 4,bw 5 5 0,am 6 5,b9 7 53,O 0 3 1,J 1,ia 2,ak 8 0 3,j5 9,E 10 0] [(2,0)]) .ret) (.rcond [a7 0 5 3,E 1 0] [] 0 (.seq (.reg [A 0 3,O 1 4 1,J 2,bw 3 5 0,am 4 5,ay 5 88 9,ak 6 5 0,E 7 0] [(2,0)]) .ret) (.rcond [a7 0 5 4,E 1 0] [] 0 (.seq (.reg [O 0 1 1,J 1,ai 2 89,E 3 0] [(4,0)]) (.seq (.reg [O 0 4 1,J 1,bw 2 5 0,am 3 5,A 4 4,dt 5 88 1,O 10 4 1,J 11,bw 12 5 1,am 13 5,A 14 4,ax 15,ao 16 88 2 0,cu 6 7,A 7 3,ak 8 1 0,cu 9 0,ak 17 0 4,E 18 0] [(2,0)]) .ret)) .skip)))))) (.seq (.reg [O 0 3 1,J 1,E 2 0] [(2,0)]) .ret)))) }
noncomputable def c54:CFn:={ nargs:=1,vars:=[0,1,2],results:=[.var 2],body:=(.seq (.reg [au 0 0,Y 1] [(1,1),(2,0)]) (.seq (.reg [a6 0 5 1,ay 1 90 30,ec 2 30,E 3 0] [(2,0)]) .ret)) }
noncomputable def c55:CFn:={ nargs:=1,vars:=[0,1,2,3,5,16],results:=[.var 2],body:=(.seq (.reg [au 0 0,ba 1] [(1,1),(2,0)]) (.seq (.reg [O 0 1 1,J 1,ai 2 91,E 3 0,be 4 0 0,be 5 1 1,E 6 1,E 7 1] [(3,1)]) (.seq (.reg [O 0 1 1,J 1,ai 2 92,E 3 0] [(4,0)]) (.seq (.seq (.reg [O 0 0 1,J 1] [(5,0)]) (.block 0 (.rcond [a7 0 5 1,E 1 0] [] 0 (.seq (.reg [O 0 2 1,J 1,ai 2 32,E 3 0] [(2,0)]) .ret) (.rcond [a7 0 5 2,E 1 0] [] 0 (.seq (.reg [O 0 3 1,J 1,E 2 0] [(2,0)]) .ret) (.rcond [a7 0 5 5,E 1 0] [] 0 (.seq (.reg [O 3 4 1,J 4,bw 5 5 0,am 6 5,b9 7 55,O 0 3 1,J 1,ia 2,ak 8 0 3,j5 9,E 10 0] [(2,0)]) .ret) (.rcond [a7 0 5 3,E 1 0] [] 0 (.seq (.reg [A 0 3,O 1 4 1,J 2,bw 3 5 0,am 4 5,ay 5 93 9,ak 6 5 0,E 7 0] [(2,0)]) .ret) .skip)))))) (.seq (.reg [O 0 4 1,J 1,bw 2 5 0,am 3 5,A 4 4,dt 5 93 1,O 10 4 1,J 11,bw 12 5 1,am 13 5,A 14 4,ax 15,ao 16 93 2 0,cu 6 7,A 7 3,ak 8 1 0,cu 9 0,ak 17 0 4,E 18 0] [(2,0)]) .ret))))) }
noncomputable def c57_l7:CCode:=(.seq (.reg [bl 0 4 3] [(5,0)]) (.seq (.cond (.v 5) .skip (.exit 0)) (.seq (.block 1 (.seq (.reg [A 0 4,E 1 0] [(2,0)]) (.rcond [A 0 0,A 1 2,⟨2,.p .idxStr,[.t 1,.t 0],none,false⟩,ai 3 96,bc 4] [] 0 (.seq (.reg [A 0 2,E 1 0] [(1,0)]) .ret) .skip))) (.reg [bm 0 4,E 1 0] [(4,0)]))))
noncomputable def c57:CFn:={ nargs:=1,vars:=[0,2,3,5,6,7],results:=[.var 1],body:=(.seq (.reg [U 0 0] [(1,0)]) (.seq (.seq (.reg [A 0 0,cv 1,U 2 0] [(3,1),(4,0)]) (.block 0 (.loop c57_l7))) (.seq (.reg [A 0 0,cv 1,E 2 0] [(1,0)]) .ret))) }
noncomputable def c61:CFn:={ nargs:=2,vars:=[0,1,4],results:=[.var 2],body:=(.seq (.reg [Y 0] [(2,0)]) (.seq (.reg [A 0 0,A 1 1,ao 2 98 1 0,E 3 0] [(2,0)]) .ret)) }
noncomputable def c62:CFn:={ nargs:=2,vars:=[0,1,4],results:=[.var 2],body:=(.seq (.reg [U 0 0] [(2,0)]) (.seq (.rcond [A 0 0,bz 1 0] [] 0 (.reg [A 0 0,ax 1,⟨2,.p (.un .neg),[.t 0],none,false⟩,E 3 0] [(0,0)]) .skip) (.seq (.reg [A 0 0,A 1 1,j6 2,E 3 0] [(2,0)]) .ret))) }
noncomputable def c63:CFn:={ nargs:=3,vars:=[0,1,2,3,6],results:=[.var 4],body:=(.seq (.reg [au 0 0,ba 1] [(3,1),(4,0)]) (.seq (.rcond [O 0 4 3,J 1,E 2 0,ah 3 2 0,bu 4 1,dk 5 2 0,af 6 3] [] 0 (.seq (.reg [A 0 1,ay 1 23 300,ai 2 99,E 3 0] [(4,0)]) .ret) .skip) (.seq (.reg [A 0 2,A 1 1,A 2 2,ae 3,ao 4 23 2 0,aj 5 1 4 0,J 6,E 7 0] [(4,0)]) .ret))) }
noncomputable def c64:CFn:={ nargs:=3,vars:=[0,1,2,3,6,7,8,9,10,11],results:=[.cell 4 true 7],body:=(.seq (.reg [au 0 0,dr 1] [(3,1),(4,0)]) (.seq (.reg [a6 0 5 3,A 1 1,j0 2,cg 3 63 2 1,E 4 0] [(5,0)]) (.seq (.seq (.reg [A 0 1,ay 1 23 12,E 2 0] [(6,0)]) (.block 0 (.rcond [A 0 6,bz 1 2,E 2 0] [] 0 (.seq (.reg [A 0 5,a6 1 5 3,A 2 1,O 3 0 3,J 4,cg 5 63 3 2,A 6 1,ay 7 23 4,ib 8 1 2 3 7 2 0 2,az 9 7 4] []) .ret) (.rcond [A 0 6,bz 1 5,E 2 0] [] 0 (.seq (.reg [a6 0 5 3,A 1 1,O 2 0 3,J 3,fa 4 63,A 5 1,cp 6 4,a6 7 5 3,A 8 1,f9 9 3,cr 10 0,ib 11 1 3 4 6 4 0 3,az 12 7 4] []) .ret) (.rcond [A 0 6,bz 1 7,E 2 0,a8 3 4 3 0,aa 4 1,di 5 2,aq 6 3 3 0,ac 7 1,bu 8 2,ce 9 3 0,dj 10 4 7,Z 11 8,E 12 0] [] 0 (.seq (.reg [a6 0 5 3,A 1 1,O 2 3 3,J 3,fa 4 63,a6 5 5 3,A 6 1,df 7 25 2,a6 8 5 3,A 9 1,f9 10 3,eu 11 3 0,ez 12 1 4 7 4,az 13 7 4] []) .ret) (.rcond [A 0 6,bz 1 9,E 2 0,av 3 2 0,db 4 1,Z 5 2,E 6 0,a8 7 4 3 0,aa 8 1,di 9 2,aq 10 2 3 0,ac 11 1,aq 12 1 3 2,ac 13 3,bu 14 4,⟨15,.p (.bin .lss),[.t 3,.t 0],some (5,false),false⟩,dj 16 6 9,Z 17 10,E 18 0] [] 0 (.seq (.reg [a6 0 5 3,fj 1,ab 2 5 0 1] [(7,1)]) (.seq (.reg [a6 0 5 3,A 1 1,O 2 1 3,J 3,cg 4 63 3 2,E 5 0] [(8,0)]) (.seq (.rcond [O 0 4 3,J 1,bc 2] [] 0 (.seq (.reg [A 2 1,O 3 1 3,J 4,ae 5,O 6 2 3,J 7,iv 8,dt 9 23 6,O 0 2 3,J 1,ak 10 0 2,E 11 0] [(9,0)]) (.seq (.reg [O 0 1 3,J 1,A 2 9,aj 3 1 1 0,J 4,E 5 0] [(8,0)]) (.reg [A 0 9,ax 1,O 2 2 7,ab 3 1 0 1] []))) .skip) (.seq (.reg [O 0 3 3,J 1,⟨2,.w (.append 1 16),[.c (.slice none 0 0),.t 0],none,false⟩,A 3 8,gn 4,ci 5 1 16 2,O 6 3 7,ab 7 1 0 1] []) (.seq (.reg [A 0 8,a6 1 5 7,A 2 1,A 3 2,b4 4 0,cg 5 26 3 2,ez 6 1 5 5 5,az 7 7 4] []) .ret))))) (.rcond [A 0 6,cn 1 9,E 2 0,av 3 2 0,db 4 1,Z 5 2,E 6 0] [] 0 (.seq (.reg [a6 0 5 3,A 1 1,df 2 25 3,a6 4 5 3,A 5 1,A 6 2,b4 7 0,fa 8 26,a6 9 5 3,A 10 1,A 11 2,b4 12 0,cg 13 26 3 2,cr 3 10,ib 14 4 5 6 0 6 1 6,az 15 7 4] []) .ret) (.rcond [A 0 6,cn 1 10,E 2 0,av 3 2 0,db 4 1,Z 5 2,E 6 0] [] 0 (.seq (.reg [A 0 1,cp 1 5,a6 2 5 3,A 3 1,A 4 2,b4 5 0,cg 6 26 3 2,ez 7 3 5 5 7,az 8 7 4] []) .ret) (.rcond [A 0 6,cn 1 11,E 2 0] [] 0 (.seq (.reg [⟨0,.p (.build [.int .i64 0,.string ⟨#[]⟩,.string ⟨#[]⟩,.int .i64 0,.slice none 0 0,.slice none 0 0,.slice none 0 0] [(0,1)]),[.c (.int .i64 8)],none,false⟩,az 1 7 4] []) .ret) .skip))))))))) (.seq (.reg [A 0 5,a6 1 5 3,A 2 1,f9 3 4,cr 4 0,ez 5 1 4 4 1,az 6 7 4] []) .ret)))) }
noncomputable def c65:CFn:={ nargs:=2,vars:=[0,1,4,5],results:=[.var 2,.var 3],body:=(.seq (.reg [U 0 0,fu 1] [(2,1),(3,0)]) (.seq (.reg [A 0 0,ai 1 100] []) (.seq (.reg [A 0 0,A 1 0,bo 2 0,aw 3 1,J 4,A 5 1,⟨6,.w (.appendT 5 1),[.t 1,.t 0],none,false⟩,bo 7 6,aw 8 1,ab 9 1 0 2] []) (.seq (.reg [A 0 1,cv 1,E 2 0,fu 3] [(2,1),(3,0)]) .ret)))) }
noncomputable def c66_l40:CCode:=(.seq (.rcond [ic 0 103,A 1 5,bk 2 1] [] 0 .skip (.exit 3)) (.block 4 (.seq .never (.reg [ic 0 31,A 1 8,⟨2,.p (.sliceStr false true),[.t 1,.t 0],none,false⟩,ig 3 65] []))))
noncomputable def c66:CFn:={ nargs:=2,vars:=[0,1,4,5,6,7,8,9,10,11,42,43],results:=[.var 2],body:=(.seq (.reg [ba 0] [(2,0)]) (.seq (.seq (.reg [A 0 1] [(9,0)]) (.block 0 (.rcond [a7 0 9 0,E 1 0] [] 0 (.seq (.reg [ba 0] [(2,0)]) .ret) (.rcond [a7 0 9 1,E 1 0] [] 0 (.seq (.reg [A 0 0,E 1 0] [(2,0)]) .ret) .skip)))) (.seq (.rcond [A 0 1,bz 1 0] [] 0 (.reg [⟨0,.p (.iface 9),[.c (.string ⟨#[115,116,114,105,110,103,115,58,32,110,101,103,97,116,105,118,101,32,82,101,112,101,97,116,32,99,111,117,110,116]⟩)],none,false⟩,⟨1,.pan,[.t 0],none,false⟩] []) .skip) (.seq (.reg [A 0 0,cv 1,fw 2,A 3 1,fw 4,ao 5 101 2 0,E 6 0,be 7 0 0,be 8 1 1,E 9 1,E 10 1] [(3,1),(4,0)]) (.seq (.rcond [A 0 3,⟨1,.p (.bin .gtr),[.t 0,.c (.int .u64 0)],none,false⟩,E 2 0,ah 3 4 0,⟨4,.p (.bin .gtr),[.t 0,.c (.int .u64 9223372036854775807)],some (1,false),false⟩,af 5 2] [] 0 (.reg [⟨0,.p (.iface 9),[.c (.string ⟨#[115,116,114,105,110,103,115,58,32,82,101,112,101,97,116,32,111,117,116,112,117,116,32,108,101,110,103,116,104,32,111,118,101,114,102,108,111,119]⟩)],none,false⟩,⟨1,.pan,[.t 0],none,false⟩] []) .skip) (.seq (.reg [A 0 4,⟨1,.p (.conv .i64),[.t 0],none,false⟩,E 2 0] [(5,0)]) (.seq (.rcond [A 0 0,cv 1,cn 2 0] [] 0 (.seq (.reg [ba 0] [(2,0)]) .ret) .skip) (.seq (.seq (.reg [A 0 0,⟨1,.p .idxStr,[.t 0,.c (.int .i64 0)],none,false⟩] [(10,0)]) (.block 1 (.seq (.rcond [fc 0 32,E 1 0] [(11,0)] 0 .skip (.rcond [fc 0 45,E 1 0] [(11,0)] 0 .skip (.rcond [fc 0 48,E 1 0] [(11,0)] 0 .skip (.rcond [fc 0 61,E 1 0] [(11,0)] 0 .skip (.reg [fc 0 9,E 1 0] [(11,0)]))))) (.cond (.v 11) (.block 2 (.rcond [A 0 5,ec 1 128,E 2 0,av 3 0 0,⟨4,.call 61,[.c (.string ⟨#[32,32,32,32,32,32,32,32,32,32,32,32,32,32,32,32,32,32,32,32,32,32,32,32,32,32,32,32,32,32,32,32,32,32,32,32,32,32,32,32,32,32,32,32,32,32,32,32,32,32,32,32,32,32,32,32,32,32,32,32,32,32,32,32,32,32,32,32,32,32,32,32,32,32,32,32,32,32,32,32,32,32,32,32,32,32,32,32,32,32,32,32,32,32,32,32,32,32,32,32,32,32,32,32,32,32,32,32,32,32,32,32,32,32,32,32,32,32,32,32,32,32,32,32,32,32,32,32]⟩),.t 0],some (1,true),false⟩,Z 5 2,E 6 0] [] 0 (.seq (.reg [A 0 5,⟨1,.p (.sliceStr false true),[.c (.string ⟨#[32,32,32,32,32,32,32,32,32,32,32,32,32,32,32,32,32,32,32,32,32,32,32,32,32,32,32,32,32,32,32,32,32,32,32,32,32,32,32,32,32,32,32,32,32,32,32,32,32,32,32,32,32,32,32,32,32,32,32,32,32,32,32,32,32,32,32,32,32,32,32,32,32,32,32,32,32,32,32,32,32,32,32,32,32,32,32,32,32,32,32,32,32,32,32,32,32,32,32,32,32,32,32,32,32,32,32,32,32,32,32,32,32,32,32,32,32,32,32,32,32,32,32,32,32,32,32,32]⟩),.t 0],none,false⟩,E 2 0] [(2,0)]) .ret) (.rcond [A 0 5,ec 1 128,E 2 0,av 3 0 0,⟨4,.call 61,[.c (.string ⟨#[45,45,45,45,45,45,45,45,45,45,45,45,45,45,45,45,45,45,45,45,45,45,45,45,45,45,45,45,45,45,45,45,45,45,45,45,45,45,45,45,45,45,45,45,45,45,45,45,45,45,45,45,45,45,45,45,45,45,45,45,45,45,45,45,45,45,45,45,45,45,45,45,45,45,45,45,45,45,45,45,45,45,45,45,45,45,45,45,45,45,45,45,45,45,45,45,45,45,45,45,45,45,45,45,45,45,45,45,45,45,45,45,45,45,45,45,45,45,45,45,45,45,45,45,45,45,45,45]⟩),.t 0],some (1,true),false⟩,Z 5 2,E 6 0] [] 0 (.seq (.reg [A 0 5,⟨1,.p (.sliceStr false true),[.c (.string ⟨#[45,45,45,45,45,45,45,45,45,45,45,45,45,45,45,45,45,45,45,45,45,45,45,45,45,45,45,45,45,45,45,45,45,45,45,45,45,45,45,45,45,45,45,45,45,45,45,45,45,45,45,45,45,45,45,45,45,45,45,45,45,45,45,45,45,45,45,45,45,45,45,45,45,45,45,45,45,45,45,45,45,45,45,45,45,45,45,45,45,45,45,45,45,45,45,45,45,45,45,45,45,45,45,45,45,45,45,45,45,45,45,45,45,45,45,45,45,45,45,45,45,45,45,45,45,45,45,45]⟩),.t 0],none,false⟩,E 2 0] [(2,0)]) .ret) (.rcond [A 0 5,ec 1 64,E 2 0,av 3 0 0,⟨4,.call 61,[.c (.string ⟨#[48,48,48,48,48,48,48,48,48,48,48,48,48,48,48,48,48,48,48,48,48,48,48,48,48,48,48,48,48,48,48,48,48,48,48,48,48,48,48,48,48,48,48,48,48,48,48,48,48,48,48,48,48,48,48,48,48,48,48,48,48,48,48,48]⟩),.t 0],some (1,true),false⟩,Z 5 2,E 6 0] [] 0 (.seq (.reg [A 0 5,⟨1,.p (.sliceStr false true),[.c (.string ⟨#[48,48,48,48,48,48,48,48,48,48,48,48,48,48,48,48,48,48,48,48,48,48,48,48,48,48,48,48,48,48,48,48,48,48,48,48,48,48,48,48,48,48,48,48,48,48,48,48,48,48,48,48,48,48,48,48,48,48,48,48,48,48,48,48]⟩),.t 0],none,false⟩,E 2 0] [(2,0)]) .ret) (.rcond [A 0 5,ec 1 128,E 2 0,av 3 0 0,⟨4,.call 61,[.c (.string ⟨#[61,61,61,61,61,61,61,61,61,61,61,61,61,61,61,61,61,61,61,61,61,61,61,61,61,61,61,61,61,61,61,61,61,61,61,61,61,61,61,61,61,61,61,61,61,61,61,61,61,61,61,61,61,61,61,61,61,61,61,61,61,61,61,61,61,61,61,61,61,61,61,61,61,61,61,61,61,61,61,61,61,61,61,61,61,61,61,61,61,61,61,61,61,61,61,61,61,61,61,61,61,61,61,61,61,61,61,61,61,61,61,61,61,61,61,61,61,61,61,61,61,61,61,61,61,61,61,61]⟩),.t 0],some (1,true),false⟩,Z 5 2,E 6 0] [] 0 (.seq (.reg [A 0 5,⟨1,.p (.sliceStr false true),[.c (.string ⟨#[61,61,61,61,61,61,61,61,61,61,61,61,61,61,61,61,61,61,61,61,61,61,61,61,61,61,61,61,61,61,61,61,61,61,61,61,61,61,61,61,61,61,61,61,61,61,61,61,61,61,61,61,61,61,61,61,61,61,61,61,61,61,61,61,61,61,61,61,61,61,61,61,61,61,61,61,61,61,61,61,61,61,61,61,61,61,61,61,61,61,61,61,61,61,61,61,61,61,61,61,61,61,61,61,61,61,61,61,61,61,61,61,61,61,61,61,61,61,61,61,61,61,61,61,61,61,61,61]⟩),.t 0],none,false⟩,E 2 0] [(2,0)]) .ret) (.rcond [A 0 5,ec 1 64,E 2 0,av 3 0 0,⟨4,.call 61,[.c (.string ⟨#[9,9,9,9,9,9,9,9,9,9,9,9,9,9,9,9,9,9,9,9,9,9,9,9,9,9,9,9,9,9,9,9,9,9,9,9,9,9,9,9,9,9,9,9,9,9,9,9,9,9,9,9,9,9,9,9,9,9,9,9,9,9,9,9]⟩),.t 0],some (1,true),false⟩,Z 5 2,E 6 0] [] 0 (.seq (.reg [A 0 5,⟨1,.p (.sliceStr false true),[.c (.string ⟨#[9,9,9,9,9,9,9,9,9,9,9,9,9,9,9,9,9,9,9,9,9,9,9,9,9,9,9,9,9,9,9,9,9,9,9,9,9,9,9,9,9,9,9,9,9,9,9,9,9,9,9,9,9,9,9,9,9,9,9,9,9,9,9,9]⟩),.t 0],none,false⟩,E 2 0] [(2,0)]) .ret) .skip)))))) .skip)))) (.seq (.reg [A 0 5,E 1 0] [(6,0)]) (.seq (.rcond [A 0 5,cd 1 8192] [] 0 (.seq (.reg [A 0 0,cv 1,⟨2,.p (.bin .quo),[.c (.int .i64 8192),.t 0],none,false⟩,A 3 0,cv 4,ed 5 2,E 6 0] [(6,0)]) (.rcond [A 0 6,cn 1 0] [] 0 (.reg [A 0 0,cv 1,E 2 0] [(6,0)]) .skip)) .skip) (.seq (.reg [⟨0,.a (.new [.pointer none,.slice none 0 0]),[],none,false⟩] [(7,0)]) (.seq (.reg [A 0 5,ig 1 102] []) (.seq (.reg [A 0 0,ig 1 65] []) (.seq (.block 3 (.loop c66_l40)) (.seq (.reg [ic 0 31,E 1 0] [(2,0)]) .ret))))))))))))))) }
noncomputable def c67:CFn:={ nargs:=2,vars:=[0,1,4],results:=[.var 2],body:=(.seq (.reg [fu 0] [(2,0)]) (.seq (.reg [A 0 0,ai 1 100] []) (.seq (.reg [A 0 0,A 1 0,bo 2 0,aw 3 1,J 4,A 5 1,i6 6,⟨7,.w (.appendT 5 1),[.t 2,.t 0],none,false⟩,bo 8 7,aw 9 1,ab 10 1 0 2] []) (.seq (.reg [fu 0] [(2,0)]) .ret)))) }
noncomputable def c69:CFn:={ nargs:=2,vars:=[0,1,3,4,9],results:=[],body:=(.seq (.reg [au 0 1] [(2,0)]) (.seq (.reg [O 0 3 2,J 1,ai 2 28,E 3 0] [(3,0)]) (.seq (.reg [O 0 0 2,J 1] [(4,0)]) (.block 0 (.rcond [a7 0 4 1,E 1 0] [] 0 (.reg [O 3 4 2,J 4,bw 5 5 0,am 6 5,b9 7 53,A 0 0,O 1 1 2,J 2,⟨8,.a (.bslice [.string ⟨#[]⟩,.string ⟨#[]⟩,.string ⟨#[]⟩,.string ⟨#[]⟩] [(0,1),(1,1),(2,1),(3,1)] 4 1),[.t 0,.c (.string ⟨#[32,61,32]⟩),.t 3,.c (.string ⟨#[59]⟩)],none,false⟩,ao 9 27 3 0] []) (.rcond [a7 0 4 2,E 1 0] [] 0 (.reg [A 0 0,O 1 1 2,J 2,O 3 2 2,J 4,A 5 3,⟨6,.a (.bslice [.string ⟨#[]⟩,.string ⟨#[]⟩,.string ⟨#[]⟩,.string ⟨#[]⟩,.string ⟨#[]⟩,.string ⟨#[]⟩] [(0,1),(1,1),(2,1),(3,1),(4,1),(5,1)] 6 1),[.t 3,.c (.string ⟨#[32,61,32]⟩),.t 1,.c (.string ⟨#[46]⟩),.t 0,.c (.string ⟨#[59]⟩)],none,false⟩,ao 7 27 6 0] []) (.rcond [a7 0 4 3,E 1 0] [] 0 (.reg [O 4 4 2,J 5,bw 6 5 0,am 7 5,b9 8 53,A 0 0,O 1 1 2,J 2,A 3 3,⟨9,.a (.bslice [.string ⟨#[]⟩,.string ⟨#[]⟩,.string ⟨#[]⟩,.string ⟨#[]⟩,.string ⟨#[]⟩,.string ⟨#[]⟩] [(0,1),(1,1),(2,1),(3,1),(4,1),(5,1)] 6 1),[.t 1,.c (.string ⟨#[46]⟩),.t 0,.c (.string ⟨#[32,61,32]⟩),.t 4,.c (.string ⟨#[59]⟩)],none,false⟩,ao 10 27 4 0] []) (.rcond [a7 0 4 4,E 1 0] [] 0 (.reg [O 3 4 2,J 4,bw 5 5 0,am 6 5,b9 7 53,O 8 4 2,J 9,bw 10 5 1,am 11 5,b9 12 53,A 0 0,O 1 1 2,J 2,⟨13,.a (.bslice [.string ⟨#[]⟩,.string ⟨#[]⟩,.string ⟨#[]⟩,.string ⟨#[]⟩,.string ⟨#[]⟩,.string ⟨#[]⟩] [(0,1),(1,1),(2,1),(3,1),(4,1),(5,1)] 6 1),[.t 0,.c (.string ⟨#[91]⟩),.t 8,.c (.string ⟨#[93,32,61,32]⟩),.t 3,.c (.string ⟨#[59]⟩)],none,false⟩,ao 14 27 3 0] []) (.rcond [a7 0 4 8,E 1 0] [] 0 (.reg [A 0 0,⟨1,.a (.bslice [.string ⟨#[]⟩] [(0,1)] 1 1),[.c (.string ⟨#[104,97,108,116,59]⟩)],none,false⟩,ao 2 27 1 0] []) (.rcond [a7 0 4 5,E 1 0] [] 0 (.reg [A 0 0,a6 1 7 2,O 2 1 2,J 3,⟨4,.p (.bin .add),[.c (.string ⟨#[108,111,99,107,32]⟩),.t 0],none,false⟩,cg 5 105 4 3] []) (.rcond [a7 0 4 7,E 1 0] [] 0 (.reg [A 0 0,a6 1 7 2,A 2 3,⟨3,.p (.bin .add),[.c (.string ⟨#[114,101,112,101,97,116,32]⟩),.t 0],none,false⟩,cg 4 105 3 2] []) (.rcond [a7 0 4 6,E 1 0] [] 0 (.reg [O 2 4 2,J 3,bw 4 5 0,am 5 5,b9 6 53,A 0 0,a6 1 7 2,⟨7,.p (.bin .add),[.c (.string ⟨#[105,102,32,40]⟩),.t 2],none,false⟩,ii 8,cg 9 105 3 2] []) .skip)))))))))))) }
noncomputable def c70:CFn:={ nargs:=2,vars:=[0,1,2,4,5,7],results:=[.var 3],body:=(.seq (.reg [au 0 0,ba 1] [(2,1),(3,0)]) (.seq (.seq (.reg [O 0 0 2,J 1] [(5,0)]) (.block 0 (.rcond [a7 0 5 1,E 1 0] [] 0 (.seq (.reg [O 5 4 2,J 6,bw 7 5 0,am 8 5,b9 9 55,A 0 1,O 1 1 2,J 2,ak 3 2 0,ij 4,ak 10 0 5,fx 11,E 12 0] [(3,0)]) .ret) (.rcond [a7 0 5 2,E 1 0] [] 0 (.seq (.reg [O 9 3 2,J 10,b9 11 32,A 0 1,O 1 1 2,J 2,ak 3 2 0,ij 4,O 5 2 2,J 6,ak 7 2 0,j7 8,ak 12 0 9,fx 13,E 14 0] [(3,0)]) .ret) (.rcond [a7 0 5 3,E 1 0] [] 0 (.seq (.reg [O 5 3 2,J 6,b9 7 32,O 10 4 2,J 11,bw 12 5 0,am 13 5,b9 14 55,A 0 1,O 1 1 2,J 2,ak 3 2 0,j7 4,ak 8 0 10,ij 9,ak 15 0 7,fx 16,E 17 0] [(3,0)]) .ret) (.rcond [a7 0 5 4,E 1 0] [] 0 (.seq (.reg [O 5 4 2,J 6,bw 7 5 0,am 8 5,b9 9 55,O 12 4 2,J 13,bw 14 5 1,am 15 5,b9 16 55,A 0 1,O 1 1 2,J 2,ak 3 2 0,ia 4,ak 10 0 10,⟨11,.p (.bin .add),[.t 0,.c (.string ⟨#[93,32,61,32]⟩)],none,false⟩,ak 17 0 7,fx 18,E 19 0] [(3,0)]) .ret) (.rcond [a7 0 5 5,E 1 0] [] 0 (.seq (.reg [O 6 5 2,J 7,A 8 1,fy 9,dt 10 33 2,A 0 1,⟨1,.p (.bin .add),[.t 0,.c (.string ⟨#[108,111,99,107,32]⟩)],none,false⟩,O 2 1 2,J 3,ak 4 2 0,gu 5,ak 11 0 6,A 12 1,ak 13 1 0,fp 14,E 15 0] [(3,0)]) .ret) (.rcond [a7 0 5 6,E 1 0] [] 0 (.seq (.reg [O 2 4 2,J 3,bw 4 5 0,am 5 5,b9 6 55,O 9 5 2,J 10,A 11 1,fy 12,ao 13 33 2 0,A 0 1,⟨1,.p (.bin .add),[.t 0,.c (.string ⟨#[105,102,32,40]⟩)],none,false⟩,ak 7 0 7,⟨8,.p (.bin .add),[.t 0,.c (.string ⟨#[41,32,123,10]⟩)],none,false⟩,ak 14 0 4,E 15 0] [(4,0)]) (.seq (.rcond [O 0 6 2,J 1,ae 2,cd 3 0] [] 0 (.reg [A 0 4,A 1 1,ak 2 1 0,⟨3,.p (.bin .add),[.t 0,.c (.string ⟨#[125,32,101,108,115,101,32,123,10]⟩)],none,false⟩,O 4 6 2,J 5,A 6 1,fy 7,ao 8 33 2 0,ak 9 5 0,E 10 0] [(4,0)]) .skip) (.seq (.reg [A 0 4,A 1 1,ak 2 1 0,fp 3,E 4 0] [(3,0)]) .ret))) (.rcond [a7 0 5 7,E 1 0] [] 0 (.seq (.reg [O 2 3 2,J 3,b9 4 32,O 7 5 2,J 8,A 9 1,fy 10,ao 11 33 2 0,A 0 1,⟨1,.p (.bin .add),[.t 0,.c (.string ⟨#[114,101,112,101,97,116,32]⟩)],none,false⟩,ak 5 0 7,gu 6,ak 12 0 4,A 13 1,ak 14 1 0,fp 15,E 16 0] [(3,0)]) .ret) .skip))))))))) (.seq (.reg [A 0 1,⟨1,.p (.bin .add),[.t 0,.c (.string ⟨#[104,97,108,116,59,10]⟩)],none,false⟩,E 2 0] [(3,0)]) .ret))) }
noncomputable def c71:CFn:={ nargs:=1,vars:=[0,2],results:=[.var 1],body:=(.seq (.reg [Y 0] [(1,0)]) (.seq (.reg [⟨0,.call 107,[],none,false⟩,A 1 0,ao 2 106 1 0,E 3 0] [(1,0)]) .ret)) }
noncomputable def c72:CFn:={ nargs:=2,vars:=[0,1,3,4],results:=[.var 3],body:=(.seq (.reg [au 0 1,Y 1] [(2,1),(3,0)]) (.seq (.reg [A 0 0,⟨1,.p (.mkFunc 109 0),[.v 2],none,false⟩,ao 2 108 1 0,bc 3,E 4 0] [(3,0)]) .ret)) }
noncomputable def c73_l7:CCode:=(.seq (.reg [bl 0 5 4] [(6,0)]) (.seq (.cond (.v 6) .skip (.exit 0)) (.seq (.block 1 (.seq (.reg [A 0 5,E 1 0] [(3,0)]) (.rcond [A 0 1,A 1 0,A 2 3,aj 3 2 1 0,am 4 2,fe 5] [] 0 (.seq (.reg [A 0 3,E 1 0] [(2,0)]) .ret) .skip))) (.reg [bm 0 5,E 1 0] [(5,0)]))))
noncomputable def c73:CFn:={ nargs:=2,vars:=[0,1,4,5,7,8,9],results:=[.var 2],body:=(.seq (.reg [U 0 0] [(2,0)]) (.seq (.seq (.reg [A 0 0,ae 1,U 2 0] [(4,1),(5,0)]) (.block 0 (.loop c73_l7))) (.seq (.reg [ej 0] [(2,0)]) .ret))) }
noncomputable def c74_l7:CCode:=(.seq (.reg [bl 0 5 4] [(6,0)]) (.seq (.cond (.v 6) .skip (.exit 0)) (.seq (.block 1 (.seq (.reg [A 0 5,E 1 0] [(3,0)]) (.rcond [A 0 1,A 1 0,A 2 3,aj 3 2 1 0,am 4 2,fe 5] [] 0 (.seq (.reg [A 0 3,E 1 0] [(2,0)]) .ret) .skip))) (.reg [bm 0 5,E 1 0] [(5,0)]))))
noncomputable def c74:CFn:={ nargs:=2,vars:=[0,1,4,5,7,8,9],results:=[.var 2],body:=(.seq (.reg [U 0 0] [(2,0)]) (.seq (.seq (.reg [A 0 0,ae 1,U 2 0] [(4,1),(5,0)]) (.block 0 (.loop c74_l7))) (.seq (.reg [ej 0] [(2,0)]) .ret))) }
noncomputable def c75_l7:CCode:=(.seq (.reg [bl 0 5 4] [(6,0)]) (.seq (.cond (.v 6) .skip (.exit 0)) (.seq (.block 1 (.seq (.reg [A 0 5,E 1 0] [(3,0)]) (.rcond [A 0 1,A 1 0,A 2 3,aj 3 6 1 0,am 4 6,fe 5] [] 0 (.seq (.reg [A 0 3,E 1 0] [(2,0)]) .ret) .skip))) (.reg [bm 0 5,E 1 0] [(5,0)]))))
noncomputable def c75:CFn:={ nargs:=2,vars:=[0,1,4,5,7,8,9],results:=[.var 2],body:=(.seq (.reg [U 0 0] [(2,0)]) (.seq (.seq (.reg [A 0 0,ae 1,U 2 0] [(4,1),(5,0)]) (.block 0 (.loop c75_l7))) (.seq (.reg [ej 0] [(2,0)]) .ret))) }
noncomputable def c76_l7:CCode:=(.seq (.rcond [A 0 3,A 1 2,ae 2,bk 3 2] [] 0 .skip (.exit 0)) (.seq (.block 1 (.rcond [A 0 2,A 1 3,aj 2 1 1 0,J 3,A 4 0,dh 5 1] [] 0 (.seq (.reg [bj 0] [(1,0)]) .ret) .skip)) (.reg [A 0 3,ax 1,E 2 0] [(3,0)])))
noncomputable def c76:CFn:={ nargs:=1,vars:=[0,2,3,4],results:=[.var 1],body:=(.seq (.reg [Y 0] [(1,0)]) (.seq (.reg [j8 0,E 1 0] [(2,0)]) (.seq (.seq (.reg [U 0 0] [(3,0)]) (.block 0 (.loop c76_l7))) (.seq (.reg [Y 0] [(1,0)]) .ret)))) }
noncomputable def c77:CFn:={ nargs:=1,vars:=[0,2],results:=[.var 1],body:=(.seq (.reg [Y 0] [(1,0)]) (.seq (.reg [A 0 0,il 1 48,E 2 0,av 3 0 0,eo 4 57,Z 5 2,E 6 0] [(1,0)]) .ret)) }
noncomputable def c78:CFn:={ nargs:=1,vars:=[0,2],results:=[.var 1],body:=(.seq (.reg [Y 0] [(1,0)]) (.seq (.reg [A 0 0,il 1 97,E 2 0,av 3 0 0,eo 4 122,Z 5 2,E 6 0,ah 7 0 0,im 8 65,dw 9 2,av 10 0 0,eo 11 90,dx 12 2 5,af 13 6,E 14 0,ah 15 0 0,j9 16,af 17 2,E 18 0] [(1,0)]) .ret)) }
noncomputable def zj4:List SOp:=[au 0 0,Y 1]
noncomputable def zj3:List SOp:=[A 0 1,bz 1 1]
noncomputable def zj2:List SOp:=[Y 0]
noncomputable def zj1:List SOp:=[U 0 0]
noncomputable def zj0:List SOp:=[Y 0]
noncomputable def zi9:List SOp:=[O 0 1 2,J 1,ai 2 43,E 3 0]
noncomputable def zi8:List SOp:=[O 0 2 2,J 1,dz 2,E 3 0]
noncomputable def zi7:List SOp:=[U 0 0]
noncomputable def zi6:List SOp:=[O 0 0 2,J 1]
noncomputable def zi5:List SOp:=[a7 0 13 1,E 1 0]
noncomputable def Vz:List SOp:=[U 0 1]
noncomputable def Vy:List SOp:=[a7 0 13 2,E 1 0]
noncomputable def Vx:List SOp:=[O 0 2 2,J 1,ai 2 43,E 3 0]
noncomputable def Vw:List SOp:=[U 0 3]
noncomputable def Vv:List SOp:=[a7 0 13 3,E 1 0]
noncomputable def Vu:List SOp:=[U 0 1]
noncomputable def Vt:List SOp:=[U 0 3]
noncomputable def Vs:List SOp:=[a7 0 13 4,E 1 0]
noncomputable def Vr:List SOp:=[U 0 2]
noncomputable def Vq:List SOp:=[a7 0 13 5,E 1 0]
noncomputable def Vp:List SOp:=[bj 0]
noncomputable def Vo:List SOp:=[a7 0 13 6,E 1 0]
noncomputable def Vn:List SOp:=[U 0 1]
noncomputable def Vm:List SOp:=[bj 0]
noncomputable def Vl:List SOp:=[O 0 1 2,J 1,dz 2,E 3 0]
noncomputable def Vk:List SOp:=[a7 0 13 7,E 1 0]
noncomputable def Vj:List SOp:=[bj 0]
noncomputable def Vi:List SOp:=[U 0 20]
noncomputable def Vh:List SOp:=[O 0 1 2,J 1,dz 2,E 3 0]
noncomputable def Vg:List SOp:=[a7 0 13 8,E 1 0]
noncomputable def Vf:List SOp:=[O 0 1 2,J 1,dz 2,E 3 0]
noncomputable def Ve:List SOp:=[Y 0]
noncomputable def Vd:List SOp:=[A 0 6,bc 1,E 2 0,ah 3 7 0,cy 4 1,af 5 2,E 6 0,aq 7 3 2 0,ac 8 1,dg 9 2 0,af 10 3,E 11 0,aq 12 3 2 0,ac 13 1,ah 14 8 2,⟨15,.p (.bin .gtr),[.t 1,.t 0],some (3,false),false⟩,af 16 4,E 17 0,aq 18 4 2 0,ac 19 1,bu 20 2,ah 21 4 3,bp 22 1 4,af 23 5,E 24 0,ah 25 5 0,cy 26 1,dw 27 2,a8 28 5 2 0,aa 29 1,du 30,db 31 3,dx 32 4 7,af 33 8,E 34 0,aq 35 0 2 0,ac 36 1,⟨37,.p (.bin .neq),[.t 0,.c (.int .i64 6)],some (2,false),false⟩,dw 38 3,a8 39 6 2 0,aa 40 1,du 41,db 42 3,dx 43 4 8,af 44 9]
noncomputable def Vc:List SOp:=[Y 0]
noncomputable def Vb:List SOp:=[U 0 0]
noncomputable def zd3:CCode:=(.seq (.rcond [A 0 9,A 1 4,bk 2 1] [] 0 .skip (.exit 1)) (.seq (.block 2 (.seq (.reg [O 0 4 2,J 1,A 2 9,aj 3 5 1 0,am 4 5,ai 5 54,E 6 0] [(10,0)]) (.rcond [A 0 10,bc 1] [] 0 (.seq (.reg [Y 0] [(3,0)]) .ret) .skip))) (.reg [A 0 9,ax 1,E 2 0] [(9,0)])))
noncomputable def Va:List SOp:=[O 0 5 2,J 1,A 2 1,b4 3 0,ao 4 44 2 0,E 5 0]
noncomputable def W9:List SOp:=[O 0 6 2,J 1,A 2 1,b4 3 0,ao 4 44 2 0,E 5 0]
noncomputable def W8:List SOp:=[A 0 11,E 1 0,av 2 12 0,Z 3 1,E 4 0]
noncomputable def c79:CFn:={ nargs:=2,vars:=[0,1,2,4,5,6,7,8,9,10,11,12,13,23],results:=[.var 3],body:=(.seq (.reg zj4 [(2,1),(3,0)]) (.seq (.rcond zj3 [] 0 (.seq (.reg zj2 [(3,0)]) .ret) .skip) (.seq (.reg zj1 [(4,0)]) (.seq (.reg zj0 [(5,0)]) (.seq (.reg zi9 [(6,0)]) (.seq (.reg zi8 [(7,0)]) (.seq (.reg zi7 [(8,0)]) (.seq (.seq (.reg zi6 [(13,0)]) (.block 0 (.rcond zi5 [] 0 (.reg Vz [(4,0)]) (.rcond Vy [] 0 (.seq (.reg Vx [(7,0)]) (.reg Vw [(8,0)])) (.rcond Vv [] 0 (.seq (.reg Vu [(4,0)]) (.reg Vt [(8,0)])) (.rcond Vs [] 0 (.reg Vr [(4,0)]) (.rcond Vq [] 0 (.reg Vp [(5,0)]) (.rcond Vo [] 0 (.seq (.reg Vn [(4,0)]) (.seq (.reg Vm [(5,0)]) (.reg Vl [(6,0)]))) (.rcond Vk [] 0 (.seq (.reg Vj [(5,0)]) (.seq (.reg Vi [(8,0)]) (.reg Vh [(6,0)]))) (.rcond Vg [] 0 (.reg Vf [(6,0)]) (.seq (.reg Ve [(3,0)]) .ret))))))))))) (.seq (.rcond Vd [] 0 (.seq (.reg Vc [(3,0)]) .ret) .skip) (.seq (.seq (.reg Vb [(9,0)]) (.block 1 (.loop zd3))) (.seq (.reg Va [(11,0)]) (.seq (.reg W9 [(12,0)]) (.seq (.reg W8 [(3,0)]) .ret))))))))))))) }
noncomputable def zz8:CCode:=(.seq (.reg [bl 0 9 8] [(10,0)]) (.seq (.cond (.v 10) .skip (.exit 0)) (.seq (.block 1 (.seq (.reg [A 0 9,cj 1 7 7 9,am 2 7,dr 3,E 4 3,ab 5 7 1 2] [(4,1),(5,2)]) (.seq (.reg [A 0 1,A 1 4,aj 2 7 1 0,am 3 7,dr 4,ab 5 7 0 1] [(6,1)]) (.rcond [A 0 2,a6 1 7 5,a6 2 7 6,i8 3,bc 4] [] 0 (.seq (.reg [Y 0] [(3,0)]) .ret) .skip)))) (.reg [bm 0 9,E 1 0] [(9,0)]))))
noncomputable def c80:CFn:={ nargs:=3,vars:=[0,1,2,6,7,8,9,15,16,17,18],results:=[.var 3],body:=(.seq (.reg [Y 0] [(3,0)]) (.seq (.rcond [A 0 0,ae 1,A 2 1,ae 3,cz 4 2] [] 0 (.seq (.reg [Y 0] [(3,0)]) .ret) .skip) (.seq (.seq (.reg [A 0 0,ae 1,U 2 0] [(7,2),(8,1),(9,0)]) (.block 0 (.loop zz8))) (.seq (.reg [bj 0] [(3,0)]) .ret)))) }
noncomputable def c81:CFn:={ nargs:=2,vars:=[0,1,2,3,4],results:=[.var 4],body:=(.seq (.reg [au 0 0,au 1 1,Y 2] [(2,2),(3,1),(4,0)]) (.seq (.reg [O 0 0 2,J 1,O 2 0 3,J 3,dh 4 2,E 5 0,a8 6 1 2 0,aa 7 1,a8 8 1 3 2,aa 9 3,cq 10 2 4,Z 11 5,E 12 0,a8 13 2 2 0,aa 14 1,a8 15 2 3 2,aa 16 3,cq 17 2 4,Z 18 5,E 19 0,a8 20 3 2 0,aa 21 1,a8 22 3 3 2,aa 23 3,cq 24 2 4,Z 25 5,E 26 0,a8 27 4 2 0,aa 28 1,a8 29 4 3 2,aa 30 3,dy 31 111 112,Z 32 5,E 33 0,a8 34 5 2 0,aa 35 1,a8 36 5 3 2,aa 37 3,dy 38 80 81,Z 39 5,E 40 0,a8 41 6 2 0,aa 42 1,a8 43 6 3 2,aa 44 3,dy 45 80 81,Z 46 5,E 47 0] [(4,0)]) .ret)) }
noncomputable def c82_l7:CCode:=(.seq (.reg [bl 0 6 5] [(7,0)]) (.seq (.cond (.v 7) .skip (.exit 0)) (.seq (.block 1 (.seq (.reg [cj 0 5 4 6,am 1 5,ck 2,ab 3 5 0 1] [(3,1)]) (.reg [A 0 2,O 1 4 3,J 2,ai 3 82,ak 4 3 0,E 5 0] [(2,0)]))) (.reg [bm 0 6,E 1 0] [(6,0)]))))
noncomputable def c82:CFn:={ nargs:=1,vars:=[0,2,3,5,8,9,10,11],results:=[.var 1],body:=(.seq (.reg [U 0 0] [(1,0)]) (.seq (.reg [A 0 0,ae 1,E 2 0] [(2,0)]) (.seq (.seq (.reg [A 0 0,ae 1,U 2 0] [(4,2),(5,1),(6,0)]) (.block 0 (.loop c82_l7))) (.seq (.reg [A 0 2,E 1 0] [(1,0)]) .ret)))) }
noncomputable def c83_l6:CCode:=(.seq (.rcond [A 0 3,A 1 0,ae 2,bk 3 2] [] 0 .skip (.exit 0)) (.seq (.block 1 (.reg [A 0 2,A 1 0,A 2 3,aj 3 5 1 0,aw 4 4,J 5,ai 6 83,ak 7 6 0,E 8 0] [(2,0)])) (.reg [A 0 3,ax 1,E 2 0] [(3,0)])))
noncomputable def c83:CFn:={ nargs:=1,vars:=[0,2,3,4],results:=[.var 1],body:=(.seq (.reg [U 0 0] [(1,0)]) (.seq (.reg [A 0 0,ae 1,E 2 0] [(2,0)]) (.seq (.seq (.reg [U 0 0] [(3,0)]) (.block 0 (.loop c83_l6))) (.seq (.reg [A 0 2,E 1 0] [(1,0)]) .ret)))) }
noncomputable def c84:CFn:={ nargs:=2,vars:=[0,1,4],results:=[.var 2],body:=(.seq (.reg [Y 0] [(2,0)]) (.seq (.reg [A 0 0,A 1 1,ao 2 113 1 0,cw 3 0,E 4 0] [(2,0)]) .ret)) }
noncomputable def c85:CFn:={ nargs:=2,vars:=[0,1,2,3,4,5],results:=[.var 3],body:=(.seq (.reg [au 0 0,Y 1] [(2,1),(3,0)]) (.seq (.reg [a6 0 5 2,ai 1 86,E 2 0,be 3 0 0,be 4 1 1,E 5 1,E 6 1] [(4,1),(5,0)]) (.seq (.reg [⟨0,.r (.load false 1),[.v 1],none,false⟩,bz 1 1,E 2 0,ah 3 5 0,cy 4 1,af 5 2,E 6 0,aq 7 4 2 0,ac 8 1,bu 9 2,ah 10 4 3,bp 11 1 4,af 12 5,E 13 0,aq 14 4 2 0,ac 15 1,⟨16,.r (.load false 1),[.v 1],some (2,false),false⟩,⟨17,.p (.bin .sub),[.t 0,.c (.int .i64 1)],some (3,false),false⟩,⟨18,.call 52,[.t 2,.t 0],some (4,false),false⟩,cy 19 5,af 20 6,E 21 0] [(3,0)]) .ret))) }
noncomputable def c86:CFn:={ nargs:=1,vars:=[0,1,2,3,4,9],results:=[.var 2,.var 3],body:=(.seq (.reg [au 0 0,U 1 0,Y 2] [(1,2),(2,1),(3,0)]) (.seq (.reg [O 0 0 1,J 1,⟨2,.p (.build [.int .i64 0,.int .i64 0,.int .i64 0,.string ⟨#[]⟩,.slice none 0 0] [(0,1)]),[.t 0],none,false⟩,ck 3,ab 4 5 0 1] [(4,1)]) (.seq (.seq (.reg [O 0 0 1,J 1] [(5,0)]) (.block 0 (.rcond [a7 0 5 1,E 1 0] [] 0 (.seq (.reg [O 0 2 1,J 1,O 2 2 4,ab 3 1 0 1] []) (.reg [O 0 2 1,J 1,O 2 2 1,J 3,io 4,⟨5,.p (.conv .i64),[.t 0],none,false⟩,dh 6 4,E 7 0] [(3,0)])) (.rcond [a7 0 5 2,E 1 0] [] 0 (.seq (.reg [O 0 3 1,J 1,O 2 3 4,ab 3 1 0 1] []) (.reg [O 0 3 1,J 1,ai 2 35,E 3 0] [(3,0)])) (.rcond [a7 0 5 3,E 1 0] [] 0 (.seq (.reg [O 0 1 1,J 1,O 2 1 4,ab 3 1 0 1] []) (.reg [O 0 1 1,J 1,cn 2 15,E 3 0,aq 4 1 1 0,ac 5 1,dk 6 2 16,af 7 3,E 8 0,aq 9 1 1 0,ac 10 1,dk 11 2 17,af 12 3,U 13 1,E 14 1] [(2,1),(3,0)])) (.rcond [a7 0 5 4,E 1 0] [] 0 (.seq (.reg [O 0 1 1,J 1,O 2 1 4,ab 3 1 0 1] []) (.reg [O 0 1 1,J 1,ai 2 89,cd 3 0,U 4 2,E 5 1] [(2,1),(3,0)])) (.rcond [a7 0 5 5,E 1 0] [] 0 (.seq (.reg [O 0 3 1,J 1,O 2 3 4,ab 3 1 0 1] []) (.reg [O 0 3 1,J 1,ai 2 35,U 3 1,E 4 1] [(2,1),(3,0)])) .skip))))))) (.seq (.reg [A 0 2,A 1 3,E 2 0,de 3 5 1 0,de 4 5 4 1,cl 5 114 1 2,Z 6 3,E 7 6,E 8 1] [(2,1),(3,0)]) .ret)))) }
noncomputable def c87:CFn:={ nargs:=1,vars:=[0,2,3,4],results:=[.var 1,.var 2],body:=(.seq (.reg [ba 0,Y 1] [(1,1),(2,0)]) (.seq (.reg [⟨0,.call 115,[],none,false⟩,E 1 0] [(3,0)]) (.seq (.rcond [A 0 0,bz 1 1,E 2 0,ah 3 0 0,ah 4 3 1,bu 5 2,⟨6,.p (.bin .geq),[.t 2,.t 0],some (3,false),false⟩,af 7 4] [] 0 (.seq (.reg [ba 0,Y 1] [(1,1),(2,0)]) .ret) .skip) (.seq (.reg [A 0 3,A 1 0,aj 2 1 1 0,J 3,E 4 0,bj 5] [(1,1),(2,0)]) .ret)))) }
noncomputable def c88:CFn:={ nargs:=2,vars:=[0,1,2,4,5],results:=[.var 3],body:=(.seq (.reg [au 0 0,ba 1] [(2,1),(3,0)]) (.seq (.reg [a6 0 5 2,ai 1 53,E 2 0] [(4,0)]) (.seq (.rcond [O 0 0 2,J 1,cn 2 4,E 3 0,a8 4 1 2 0,aa 5 1,da 6 89 2,av 7 1 3,ja 8,Z 9 5] [] 0 (.seq (.reg [A 0 4,jb 1,ii 2,E 3 0] [(3,0)]) .ret) .skip) (.seq (.reg [A 0 4,E 1 0] [(3,0)]) .ret)))) }
noncomputable def c89:CFn:={ nargs:=1,vars:=[0,2,3,4,8,11,14,17],results:=[.var 1],body:=(.seq (.reg [U 0 0] [(1,0)]) (.seq (.seq (.reg [A 0 0] [(2,0)]) (.block 0 (.seq (.block 8 (.seq (.block 7 (.seq (.block 6 (.seq (.block 5 (.seq (.block 4 (.seq (.block 3 (.seq (.block 2 (.seq (.block 1 (.seq (.seq (.seq (.rcond [a7 0 2 3,E 1 0] [(3,0)] 0 .skip (.rcond [a7 0 2 4,E 1 0] [(3,0)] 0 .skip (.reg [a7 0 2 5,E 1 0] [(3,0)]))) (.cond (.v 3) (.exit 1) .skip)) (.seq (.seq (.rcond [a7 0 2 1,E 1 0] [(4,0)] 0 .skip (.reg [a7 0 2 2,E 1 0] [(4,0)])) (.cond (.v 4) (.exit 2) .skip)) (.seq (.seq (.rcond [a7 0 2 9,E 1 0] [(5,0)] 0 .skip (.reg [a7 0 2 10,E 1 0] [(5,0)])) (.cond (.v 5) (.exit 3) .skip)) (.seq (.seq (.rcond [a7 0 2 11,E 1 0] [(6,0)] 0 .skip (.reg [a7 0 2 12,E 1 0] [(6,0)])) (.cond (.v 6) (.exit 4) .skip)) (.seq (.seq (.rcond [a7 0 2 13,E 1 0] [(7,0)] 0 .skip (.reg [a7 0 2 14,E 1 0] [(7,0)])) (.cond (.v 7) (.exit 5) .skip)) (.seq (.rcond [a7 0 2 6,E 1 0] [] 0 (.exit 6) .skip) (.seq (.rcond [a7 0 2 8,E 1 0] [] 0 (.exit 7) .skip) (.rcond [a7 0 2 7,E 1 0] [] 0 (.exit 8) .skip)))))))) (.exit 0))) (.reg [A 0 1,ax 1,E 2 0] [(1,0)]))) (.reg [A 0 1,ax 1,E 2 0] [(1,0)]))) (.reg [A 0 1,ax 1,E 2 0] [(1,0)]))) (.reg [A 0 1,ax 1,E 2 0] [(1,0)]))) (.reg [A 0 1,ax 1,E 2 0] [(1,0)]))) (.reg [A 0 1,ax 1,E 2 0] [(1,0)]))) (.reg [A 0 1,ax 1,E 2 0] [(1,0)]))) (.seq (.reg [A 0 1,ax 1,E 2 0] [(1,0)]) (.exit 0))))) .ret)) }
noncomputable def zi4:List SOp:=[au 0 0,U 1 0]
noncomputable def zi3:List SOp:=[A 0 1,bz 1 1]
noncomputable def zi2:List SOp:=[U 0 31]
noncomputable def zi1:List SOp:=[Y 0]
noncomputable def zi0:List SOp:=[U 0 0]
noncomputable def zh9:List SOp:=[O 0 3 2,J 1,ai 2 43,E 3 0]
noncomputable def zh8:List SOp:=[O 0 0 2,J 1]
noncomputable def zh7:List SOp:=[a7 0 9 1,E 1 0]
noncomputable def zh6:List SOp:=[a6 0 5 2,⟨1,.call 116,[.t 0,.c (.bool false),.c (.bool true),.c (.bool false)],none,false⟩,E 2 0,a8 3 2 2 0,aa 4 1,ip 5 0,Z 6 3,E 7 0,a8 8 2 2 0,aa 9 1,iu 10 2 4294967296,Z 11 3,E 12 0]
noncomputable def zh5:List SOp:=[a7 0 9 2,E 1 0]
noncomputable def W7:List SOp:=[a6 0 5 2,jc 1,E 2 0,av 3 6 0,Z 4 1,E 5 0]
noncomputable def W6:List SOp:=[a7 0 9 3,E 1 0]
noncomputable def W5:List SOp:=[a6 0 5 2,jd 1,E 2 0,a8 3 1 2 0,aa 4 1,ip 5 15,Z 6 3,E 7 0,a8 8 1 2 0,aa 9 1,f8 10 2 17,Z 11 3,E 12 0]
noncomputable def W4:List SOp:=[U 0 1]
noncomputable def W3:List SOp:=[a7 0 9 4,E 1 0]
noncomputable def W1:List SOp:=[a6 0 5 2,jd 1,E 2 0,a8 3 1 2 0,aa 4 1,da 5 92 2,db 6 3,Z 7 4,E 8 0]
noncomputable def W0:List SOp:=[U 0 2]
noncomputable def Wz:List SOp:=[a7 0 9 5,E 1 0]
noncomputable def Wy:List SOp:=[a6 0 5 2,jc 1,E 2 0,av 3 6 0,Z 4 1,E 5 0]
noncomputable def Wx:List SOp:=[U 0 1]
noncomputable def Ww:List SOp:=[A 0 4,bc 1,E 2 0,aq 3 4 2 0,ac 4 1,bu 5 2,ah 6 5 3,bp 7 1 4,af 8 5]
noncomputable def Wv:List SOp:=[U 0 31]
noncomputable def Wu:List SOp:=[U 0 0]
noncomputable def Wt:List SOp:=[U 0 0]
noncomputable def zd2:CCode:=(.seq (.rcond [A 0 8,A 1 5,bk 2 1] [] 0 .skip (.exit 1)) (.seq (.block 2 (.reg [A 0 7,O 1 4 2,J 2,A 3 8,aj 4 5 1 0,am 5 5,A 6 1,b4 7 0,ao 8 90 2 0,⟨9,.p (.minI true),[.t 8,.t 0],none,false⟩,E 10 0] [(7,0)])) (.reg [A 0 8,ax 1,E 2 0] [(8,0)])))
noncomputable def Ws:List SOp:=[A 0 7,ax 1,⟨2,.p (.minI false),[.c (.int .i64 31),.t 0],none,false⟩,E 3 0]
noncomputable def c90:CFn:={ nargs:=2,vars:=[0,1,2,4,5,6,7,8,9,16],results:=[.var 3],body:=(.seq (.reg zi4 [(2,1),(3,0)]) (.seq (.rcond zi3 [] 0 (.seq (.reg zi2 [(3,0)]) .ret) .skip) (.seq (.reg zi1 [(4,0)]) (.seq (.reg zi0 [(5,0)]) (.seq (.reg zh9 [(6,0)]) (.seq (.seq (.reg zh8 [(9,0)]) (.block 0 (.rcond zh7 [] 0 (.reg zh6 [(4,0)]) (.rcond zh5 [] 0 (.reg W7 [(4,0)]) (.rcond W6 [] 0 (.seq (.reg W5 [(4,0)]) (.reg W4 [(5,0)])) (.rcond W3 [] 0 (.seq (.reg W1 [(4,0)]) (.reg W0 [(5,0)])) (.rcond Wz [] 0 (.seq (.reg Wy [(4,0)]) (.reg Wx [(5,0)])) .skip))))))) (.seq (.rcond Ww [] 0 (.seq (.reg Wv [(3,0)]) .ret) .skip) (.seq (.reg Wu [(7,0)]) (.seq (.seq (.reg Wt [(8,0)]) (.block 1 (.loop zd2))) (.seq (.reg Ws [(3,0)]) .ret)))))))))) }
noncomputable def c91:CFn:={ nargs:=1,vars:=[0,2,3],results:=[.var 1,.var 2],body:=(.seq (.reg [ba 0,Y 1] [(1,1),(2,0)]) (.seq (.rcond [A 0 0,bz 1 1,E 2 0,ah 3 0 0,ce 4 1 17,af 5 2] [] 0 (.seq (.reg [ba 0,Y 1] [(1,1),(2,0)]) .ret) .skip) (.seq (.reg [⟨0,.a (.bslice [.string ⟨#[]⟩,.string ⟨#[]⟩,.string ⟨#[]⟩,.string ⟨#[]⟩,.string ⟨#[]⟩,.string ⟨#[]⟩,.string ⟨#[]⟩,.string ⟨#[]⟩,.string ⟨#[]⟩,.string ⟨#[]⟩,.string ⟨#[]⟩,.string ⟨#[]⟩,.string ⟨#[]⟩,.string ⟨#[]⟩,.string ⟨#[]⟩,.string ⟨#[]⟩,.string ⟨#[]⟩] [(0,1),(1,1),(2,1),(3,1),(4,1),(5,1),(6,1),(7,1),(8,1),(9,1),(10,1),(11,1),(12,1),(13,1),(14,1),(15,1),(16,1)] 17 1),[.c (.string ⟨#[43]⟩),.c (.string ⟨#[45]⟩),.c (.string ⟨#[42]⟩),.c (.string ⟨#[47]⟩),.c (.string ⟨#[37]⟩),.c (.string ⟨#[38]⟩),.c (.string ⟨#[124]⟩),.c (.string ⟨#[94]⟩),.c (.string ⟨#[60,60]⟩),.c (.string ⟨#[62,62]⟩),.c (.string ⟨#[60]⟩),.c (.string ⟨#[60,46]⟩),.c (.string ⟨#[61,61]⟩),.c (.string ⟨#[33,61]⟩),.c (.string ⟨#[45]⟩),.c (.string ⟨#[33]⟩),.c (.string ⟨#[126]⟩)],none,false⟩,A 1 0,b4 2 0,aj 3 1 2 0,J 4,E 5 0,bj 6] [(1,1),(2,0)]) .ret))) }
noncomputable def c92:CFn:={ nargs:=1,vars:=[0,2],results:=[.var 1],body:=(.seq (.reg [U 0 0] [(1,0)]) (.seq (.rcond [A 0 0,bz 1 1,E 2 0,ah 3 0 0,ce 4 1 14,af 5 2] [] 0 (.seq (.reg [U 0 0] [(1,0)]) .ret) .skip) (.seq (.reg [⟨0,.a (.bslice [.int .i64 0,.int .i64 0,.int .i64 0,.int .i64 0,.int .i64 0,.int .i64 0,.int .i64 0,.int .i64 0,.int .i64 0,.int .i64 0,.int .i64 0,.int .i64 0,.int .i64 0,.int .i64 0] [(0,1),(1,1),(2,1),(3,1),(4,1),(5,1),(6,1),(7,1),(8,1),(9,1),(10,1),(11,1),(12,1),(13,1)] 14 1),[.c (.int .i64 7),.c (.int .i64 7),.c (.int .i64 8),.c (.int .i64 8),.c (.int .i64 8),.c (.int .i64 3),.c (.int .i64 1),.c (.int .i64 2),.c (.int .i64 6),.c (.int .i64 6),.c (.int .i64 5),.c (.int .i64 5),.c (.int .i64 4),.c (.int .i64 4)],none,false⟩,A 1 0,b4 2 0,aj 3 1 2 0,J 4,E 5 0] [(1,0)]) .ret))) }
noncomputable def c93:CFn:={ nargs:=2,vars:=[0,1,2,4,5],results:=[.var 3],body:=(.seq (.reg [au 0 0,ba 1] [(2,1),(3,0)]) (.seq (.reg [a6 0 5 2,ai 1 55,E 2 0] [(4,0)]) (.seq (.rcond [O 0 0 2,J 1,cn 2 4,E 3 0,a8 4 1 2 0,aa 5 1,da 6 92 2,av 7 1 3,ja 8,Z 9 5] [] 0 (.seq (.reg [A 0 4,jb 1,ii 2,E 3 0] [(3,0)]) .ret) .skip) (.seq (.reg [A 0 4,E 1 0] [(3,0)]) .ret)))) }
noncomputable def c96:CFn:={ nargs:=1,vars:=[0,2],results:=[.var 1],body:=(.seq (.reg [Y 0] [(1,0)]) (.seq (.reg [A 0 0,il 1 97,E 2 0,av 3 0 0,eo 4 122,Z 5 2,E 6 0,ah 7 0 0,im 8 65,dw 9 2,av 10 0 0,eo 11 90,dx 12 2 5,af 13 6,E 14 0,ah 15 0 0,j9 16,af 17 2,E 18 0,ah 19 0 0,im 20 48,dw 21 2,av 22 0 0,eo 23 57,dx 24 2 5,af 25 6,E 26 0] [(1,0)]) .ret)) }
noncomputable def c98:CFn:={ nargs:=2,vars:=[0,1,4],results:=[.var 2],body:=(.seq (.reg [Y 0] [(2,0)]) (.seq (.reg [A 0 0,cv 1,A 2 1,cv 3,⟨4,.p (.bin .geq),[.t 2,.t 0],none,false⟩,E 5 0,av 6 0 0,av 7 1 1,i7 8 2,⟨9,.p (.sliceStr false true),[.t 2,.t 0],some (3,true),false⟩,av 10 1 4,cq 11 1 5,Z 12 6,E 13 0] [(2,0)]) .ret)) }
noncomputable def c99:CFn:={ nargs:=1,vars:=[0,2,3,4],results:=[.var 1],body:=(.seq (.reg [ba 0] [(1,0)]) (.seq (.reg [A 0 0,ay 1 125 300,E 2 0] [(2,0)]) (.seq (.reg [⟨0,.a (.bslice [.string ⟨#[]⟩,.string ⟨#[]⟩,.string ⟨#[]⟩,.string ⟨#[]⟩,.string ⟨#[]⟩,.string ⟨#[]⟩,.string ⟨#[]⟩,.string ⟨#[]⟩,.string ⟨#[]⟩,.string ⟨#[]⟩] [(0,1),(1,1),(2,1),(3,1),(4,1),(5,1),(6,1),(7,1),(8,1),(9,1)] 10 1),[.c (.string ⟨#[120]⟩),.c (.string ⟨#[121]⟩),.c (.string ⟨#[110]⟩),.c (.string ⟨#[95,97]⟩),.c (.string ⟨#[66,50]⟩),.c (.string ⟨#[105,102,115]⟩),.c (.string ⟨#[104,97,114,116]⟩),.c (.string ⟨#[108,111,99,107,49]⟩),.c (.string ⟨#[88,95,121,95,90]⟩),.c (.string ⟨#[72,97,108,116]⟩)],none,false⟩,A 1 2,gz 2,aj 3 1 2 0,J 4,E 5 0] [(3,0)]) (.seq (.rcond [A 0 2,cw 1 10] [] 0 (.reg [A 0 3,A 1 2,ai 2 126,ak 3 2 0,E 4 0] [(3,0)]) .skip) (.seq (.reg [A 0 3,E 1 0] [(1,0)]) .ret))))) }
noncomputable def c100:CFn:={ nargs:=1,vars:=[0],results:=[],body:=(.rcond [A 0 0,bo 1 0,aw 2 0,J 3,⟨4,.p (.isNil 1 false),[.t 0],none,false⟩] [] 0 (.reg [A 0 0,A 1 0,⟨2,.r .toUns,[.t 0],none,false⟩,⟨3,.p (.noEsc),[.t 0],none,false⟩,⟨4,.r (.ofUns (zo0 Tryz.prog 75)),[.t 0],none,false⟩,bo 5 4,aw 6 0,ab 7 1 0 2] []) (.rcond [A 0 0,bo 1 0,aw 2 0,J 3,A 4 0,⟨5,.p (.eqP true),[.t 1,.t 0],none,false⟩] [] 0 .never .skip)) }
noncomputable def c101:CFn:={ nargs:=2,vars:=[0,1,4,5,6,7,8,9],results:=[.var 2,.var 3],body:=(.seq (.reg [ge 0,ge 1] [(2,1),(3,0)]) (.seq (.cond (.c (.bool false)) (.seq (.reg [A 0 0,io 1,A 2 1,io 3,ao 4 128 2 0,E 5 0,be 6 0 0,be 7 1 1,E 8 1,E 9 1] [(4,1),(5,0)]) (.seq (.reg [A 0 4,fw 1,A 2 5,fw 3,E 4 2,E 5 1] [(2,1),(3,0)]) .ret)) .skip) (.seq (.reg [A 0 0,A 1 1,ao 2 129 1 0,E 3 0,be 4 0 0,be 5 1 1,E 6 1,E 7 1] [(6,1),(7,0)]) (.seq (.reg [A 0 6,A 1 7,E 2 1,E 3 1] [(2,1),(3,0)]) .ret)))) }
noncomputable def c105:CFn:={ nargs:=3,vars:=[0,1,2,4],results:=[],body:=(.seq (.reg [au 0 1] [(3,0)]) (.seq (.reg [A 0 0,A 1 2,⟨2,.a (.bslice [.string ⟨#[]⟩,.string ⟨#[]⟩] [(0,1),(1,1)] 2 1),[.t 0,.c (.string ⟨#[32,123]⟩)],none,false⟩,ao 3 27 2 0] []) (.seq (.reg [A 0 0,O 1 5 3,J 2,ao 3 30 2 0] []) (.seq (.rcond [O 0 6 3,J 1,ae 2,cd 3 0] [] 0 (.seq (.reg [A 0 0,⟨1,.a (.bslice [.string ⟨#[]⟩] [(0,1)] 1 1),[.c (.string ⟨#[125,32,101,108,115,101,32,123]⟩)],none,false⟩,ao 2 27 1 0] []) (.reg [A 0 0,O 1 6 3,J 2,ao 3 30 2 0] [])) .skip) (.reg [A 0 0,iy 1,ao 2 27 1 0] []))))) }
noncomputable def c106:CFn:={ nargs:=2,vars:=[0,1,4],results:=[.var 2],body:=(.seq (.reg [Y 0] [(2,0)]) (.seq (.reg [A 0 0,A 1 1,ao 2 135 1 0,cw 3 0,E 4 0] [(2,0)]) .ret)) }
noncomputable def c107:CFn:={ nargs:=0,vars:=[0],results:=[.var 0],body:=(.seq (.reg [fb 0] [(0,0)]) (.seq (.reg [j8 0,E 1 0] [(0,0)]) .ret)) }
noncomputable def c108:CFn:={ nargs:=2,vars:=[0,1,4],results:=[.var 2],body:=(.seq (.reg [Y 0] [(2,0)]) (.seq (.reg [A 0 0,A 1 1,ao 2 136 1 0,cw 3 0,E 4 0] [(2,0)]) .ret)) }
noncomputable def c109:CFn:={ nargs:=2,vars:=[0,1,2,3],results:=[.var 3],body:=(.seq (.reg [au 0 0,Y 1] [(2,1),(3,0)]) (.seq (.reg [a6 0 7 2,⟨1,.r (.load false 1),[.v 1],none,false⟩,ao 2 110 1 0,bc 3,E 4 0] [(3,0)]) .ret)) }
noncomputable def c110:CFn:={ nargs:=2,vars:=[0,1,2,4,5,6],results:=[.var 3],body:=(.seq (.reg [au 0 0,Y 1] [(2,1),(3,0)]) (.seq (.reg [O 0 0 2,J 1,ai 2 137,E 3 0,be 4 0 0,be 5 1 1,je 6,ab 7 6 0 2,E 8 2] [(4,2),(5,0)]) (.seq (.reg [A 0 5,E 1 0,av 2 1 0,db 3 1,Z 4 2,E 5 0,a8 6 1 2 0,aa 7 1,a8 8 0 4 2,aa 9 3,cl 10 138 2 4,Z 11 5,E 12 0,a8 13 2 2 0,aa 14 1,a8 15 1 4 2,aa 16 3,cl 17 138 2 4,Z 18 5,E 19 0,a8 20 3 2 0,aa 21 1,ip 22 0,Z 23 3,E 24 0,a8 25 3 2 0,aa 26 1,a8 27 2 4 2,aa 28 3,⟨29,.p (.bin .leq),[.t 2,.t 0],some (4,true),false⟩,Z 30 5,E 31 0,a8 32 4 2 0,aa 33 1,du 34,a8 35 3 4 3,aa 36 4,cq 37 2 5,Z 38 6,E 39 0,a8 40 4 2 0,aa 41 1,j4 42 52,Z 43 3,E 44 0,a8 45 4 4 0,aa 46 1,di 47 2,aq 48 5 2 0,ac 49 1,bu 50 2,dk 51 3 0,dj 52 4 7,Z 53 8,E 54 0,a8 55 5 4 0,aa 56 1,di 57 2,aq 58 6 2 0,ac 59 1,bu 60 2,dk 61 3 0,dj 62 4 7,Z 63 8,E 64 0,a8 65 5 2 0,aa 66 1,av 67 1 2,jf 68,cl 69 72 2 4,Z 70 5,E 71 0,a8 72 6 2 0,aa 73 1,av 74 1 2,jf 75,cl 76 72 2 4,Z 77 5,E 78 0] [(3,0)]) .ret))) }
noncomputable def zk5:CCode:=(.seq (.reg [bl 0 9 8] [(10,0)]) (.seq (.cond (.v 10) .skip (.exit 0)) (.seq (.block 1 (.seq (.reg [A 0 9,cj 1 5 7 9,am 2 5,ck 3,E 4 3,ab 5 5 1 2] [(4,1),(5,2)]) (.seq (.reg [A 0 1,A 1 4,aj 2 5 1 0,am 3 5,ck 4,ab 5 5 0 1] [(6,1)]) (.rcond [A 0 2,a6 1 5 5,a6 2 5 6,i8 3,bc 4] [] 0 (.seq (.reg [Y 0] [(3,0)]) .ret) .skip)))) (.reg [bm 0 9,E 1 0] [(9,0)]))))
noncomputable def c111:CFn:={ nargs:=3,vars:=[0,1,2,6,7,8,9,15,16,17,18],results:=[.var 3],body:=(.seq (.reg [Y 0] [(3,0)]) (.seq (.rcond [A 0 0,ae 1,A 2 1,ae 3,cz 4 2] [] 0 (.seq (.reg [Y 0] [(3,0)]) .ret) .skip) (.seq (.seq (.reg [A 0 0,ae 1,U 2 0] [(7,2),(8,1),(9,0)]) (.block 0 (.loop zk5))) (.seq (.reg [bj 0] [(3,0)]) .ret)))) }
noncomputable def c112:CFn:={ nargs:=2,vars:=[0,1,2,3,4],results:=[.var 4],body:=(.seq (.reg [au 0 0,au 1 1,Y 2] [(2,2),(3,1),(4,0)]) (.seq (.reg [a6 0 5 2,a6 1 5 3,ao 2 114 1 0,E 3 0,a8 4 4 2 0,aa 5 1,a8 6 4 3 2,aa 7 3,dy 8 111 112,Z 9 5,E 10 0] [(4,0)]) .ret)) }
noncomputable def yb8:CCode:=(.seq (.reg [bl 0 5 4] [(6,0)]) (.seq (.cond (.v 6) .skip (.exit 0)) (.seq (.block 1 (.seq (.reg [A 0 5,E 1 0] [(3,0)]) (.rcond [A 0 1,A 1 0,A 2 3,aj 3 5 1 0,am 4 5,fe 5] [] 0 (.seq (.reg [A 0 3,E 1 0] [(2,0)]) .ret) .skip))) (.reg [bm 0 5,E 1 0] [(5,0)]))))
noncomputable def c113:CFn:={ nargs:=2,vars:=[0,1,4,5,7,8,9],results:=[.var 2],body:=(.seq (.reg [U 0 0] [(2,0)]) (.seq (.seq (.reg [A 0 0,ae 1,U 2 0] [(4,1),(5,0)]) (.block 0 (.loop yb8))) (.seq (.reg [ej 0] [(2,0)]) .ret))) }
noncomputable def c114:CFn:={ nargs:=2,vars:=[0,1,2,3,4],results:=[.var 4],body:=(.seq (.reg [au 0 0,au 1 1,Y 2] [(2,2),(3,1),(4,0)]) (.seq (.reg [O 0 0 2,J 1,O 2 0 3,J 3,dh 4 2,E 5 0,a8 6 1 2 0,aa 7 1,a8 8 1 3 2,aa 9 3,cq 10 2 4,Z 11 5,E 12 0,a8 13 2 2 0,aa 14 1,a8 15 2 3 2,aa 16 3,cq 17 2 4,Z 18 5,E 19 0,a8 20 3 2 0,aa 21 1,a8 22 3 3 2,aa 23 3,cq 24 2 4,Z 25 5,E 26 0] [(4,0)]) .ret)) }
noncomputable def c115:CFn:={ nargs:=0,vars:=[0],results:=[.var 0],body:=(.seq (.reg [fb 0] [(0,0)]) (.seq (.reg [⟨0,.a (.bslice [.string ⟨#[]⟩,.string ⟨#[]⟩,.string ⟨#[]⟩,.string ⟨#[]⟩,.string ⟨#[]⟩,.string ⟨#[]⟩,.string ⟨#[]⟩,.string ⟨#[]⟩,.string ⟨#[]⟩,.string ⟨#[]⟩,.string ⟨#[]⟩,.string ⟨#[]⟩,.string ⟨#[]⟩,.string ⟨#[]⟩,.string ⟨#[]⟩,.string ⟨#[]⟩,.string ⟨#[]⟩,.string ⟨#[]⟩] [(1,1),(2,1),(3,1),(4,1),(5,1),(6,1),(7,1),(8,1),(9,1),(10,1),(11,1),(12,1),(13,1),(14,1),(15,1),(16,1),(17,1)] 18 1),[.c (.string ⟨#[43]⟩),.c (.string ⟨#[45]⟩),.c (.string ⟨#[42]⟩),.c (.string ⟨#[47]⟩),.c (.string ⟨#[37]⟩),.c (.string ⟨#[38]⟩),.c (.string ⟨#[124]⟩),.c (.string ⟨#[94]⟩),.c (.string ⟨#[60,60]⟩),.c (.string ⟨#[62,62]⟩),.c (.string ⟨#[60]⟩),.c (.string ⟨#[60,46]⟩),.c (.string ⟨#[61,61]⟩),.c (.string ⟨#[33,61]⟩),.c (.string ⟨#[45]⟩),.c (.string ⟨#[33]⟩),.c (.string ⟨#[126]⟩)],none,false⟩,E 1 0] [(0,0)]) .ret)) }
noncomputable def c116:CFn:={ nargs:=4,vars:=[0,1,2,3,4,8],results:=[.var 5],body:=(.seq (.reg [au 0 0,Y 1] [(4,1),(5,0)]) (.seq (.reg [A 0 1,E 1 0,aq 2 1 4 0,ac 3 1,dk 4 2 0,af 5 3,E 6 0,av 7 2 0,di 8 1,aq 9 2 4 0,ac 10 1,dk 11 2 0,dj 12 3 5,Z 13 6,E 14 0,av 15 3 0,di 16 1,aq 17 3 4 0,ac 18 1,⟨19,.p (.bin .eql),[.t 0,.c (.string ⟨#[]⟩)],some (2,false),false⟩,dj 20 3 5,Z 21 6,E 22 0] [(5,0)]) .ret)) }
noncomputable def c125:CFn:={ nargs:=2,vars:=[0,1,4],results:=[.var 2],body:=(.seq (.reg [U 0 0] [(2,0)]) (.seq (.rcond [A 0 0,bz 1 0] [] 0 (.reg [A 0 0,ax 1,⟨2,.p (.un .neg),[.t 0],none,false⟩,E 3 0] [(0,0)]) .skip) (.seq (.reg [A 0 0,A 1 1,j6 2,E 3 0] [(2,0)]) .ret))) }
noncomputable def c126:CFn:={ nargs:=1,vars:=[0,2,3],results:=[.var 1],body:=(.seq (.reg [ba 0] [(1,0)]) (.seq (.reg [A 0 0,gz 1,d9 2 0 48,⟨3,.p (.conv .u8),[.t 0],none,false⟩,i6 4,⟨5,.r .bytesStr,[.t 0],none,false⟩,E 6 0] [(2,0)]) (.seq (.rcond [A 0 0,cw 1 10] [] 0 (.seq (.reg [A 0 0,j1 1,ai 2 126,A 3 2,ak 4 1 0,E 5 0] [(1,0)]) .ret) .skip) (.seq (.reg [A 0 2,E 1 0] [(1,0)]) .ret)))) }
noncomputable def c129:CFn:={ nargs:=2,vars:=[0,1,4,5,6,7,8,9,10,11,12,13],results:=[.var 2,.var 3],body:=(.seq (.reg [ge 0,ge 1] [(2,1),(3,0)]) (.seq (.reg [A 0 0,iq 1,E 2 0] [(4,0)]) (.seq (.reg [A 0 0,ff 1,E 2 0] [(5,0)]) (.seq (.reg [A 0 1,iq 1,E 2 0] [(6,0)]) (.seq (.reg [A 0 1,ff 1,E 2 0] [(7,0)]) (.seq (.reg [A 0 4,A 1 6,ed 2 1,E 3 0] [(8,0)]) (.seq (.reg [A 0 5,A 1 6,ed 2 1,A 3 8,ff 4,ak 5 2 0,E 6 0] [(9,0)]) (.seq (.reg [A 0 9,iq 1,E 2 0] [(10,0)]) (.seq (.reg [A 0 9,ff 1,E 2 0] [(11,0)]) (.seq (.reg [A 0 10,A 1 4,A 2 7,ed 3 1,ak 4 3 0,E 5 0] [(10,0)]) (.seq (.reg [A 0 5,A 1 7,ed 2 1,A 3 11,ak 4 1 0,A 5 10,ff 6,ak 7 2 0,E 8 0] [(2,0)]) (.seq (.reg [A 0 0,A 1 1,ed 2 1,E 3 0] [(3,0)]) .ret)))))))))))) }
noncomputable def yb6:CCode:=(.seq (.reg [bl 0 5 4] [(6,0)]) (.seq (.cond (.v 6) .skip (.exit 0)) (.seq (.block 1 (.seq (.reg [A 0 5,E 1 0] [(3,0)]) (.rcond [A 0 1,A 1 0,A 2 3,aj 3 1 1 0,J 4,dh 5 4] [] 0 (.seq (.reg [A 0 3,E 1 0] [(2,0)]) .ret) .skip))) (.reg [bm 0 5,E 1 0] [(5,0)]))))
noncomputable def c135:CFn:={ nargs:=2,vars:=[0,1,4,5,7,8,9],results:=[.var 2],body:=(.seq (.reg [U 0 0] [(2,0)]) (.seq (.seq (.reg [A 0 0,ae 1,U 2 0] [(4,1),(5,0)]) (.block 0 (.loop yb6))) (.seq (.reg [ej 0] [(2,0)]) .ret))) }
noncomputable def yb5:CCode:=(.seq (.reg [bl 0 5 4] [(6,0)]) (.seq (.cond (.v 6) .skip (.exit 0)) (.seq (.block 1 (.seq (.reg [A 0 5,E 1 0] [(3,0)]) (.rcond [A 0 1,A 1 0,A 2 3,aj 3 7 1 0,am 4 7,fe 5] [] 0 (.seq (.reg [A 0 3,E 1 0] [(2,0)]) .ret) .skip))) (.reg [bm 0 5,E 1 0] [(5,0)]))))
noncomputable def c136:CFn:={ nargs:=2,vars:=[0,1,4,5,7,8,9],results:=[.var 2],body:=(.seq (.reg [U 0 0] [(2,0)]) (.seq (.seq (.reg [A 0 0,ae 1,U 2 0] [(4,1),(5,0)]) (.block 0 (.loop yb5))) (.seq (.reg [ej 0] [(2,0)]) .ret))) }
noncomputable def c137:CFn:={ nargs:=1,vars:=[0,2,3,4],results:=[.cell 1 true 6,.var 2],body:=(.seq (.reg [je 0,Y 1] [(1,1),(2,0)]) (.seq (.seq (.reg [A 0 0] [(3,0)]) (.block 0 (.rcond [a7 0 3 1,E 1 0] [] 0 (.seq (.reg [jg 0 1,az 1 6 1,bj 2] [(2,0)]) .ret) (.rcond [a7 0 3 2,E 1 0] [] 0 (.seq (.reg [⟨0,.p (.build [.bool false,.bool false,.int .i64 0,.int .i64 0,.bool false,.bool false] [(0,1),(1,1),(2,1)]),[.c (.bool true),.c (.bool true),.c (.int .i64 3)],none,false⟩,az 1 6 1,bj 2] [(2,0)]) .ret) (.rcond [a7 0 3 3,E 1 0] [] 0 (.seq (.reg [⟨0,.p (.build [.bool false,.bool false,.int .i64 0,.int .i64 0,.bool false,.bool false] [(0,1),(2,1),(3,1)]),[.c (.bool true),.c (.int .i64 3),.c (.int .i64 1)],none,false⟩,az 1 6 1,bj 2] [(2,0)]) .ret) (.rcond [a7 0 3 4,E 1 0] [] 0 (.seq (.reg [jg 0 2,az 1 6 1,bj 2] [(2,0)]) .ret) (.rcond [a7 0 3 5,E 1 0] [] 0 (.seq (.reg [⟨0,.p (.build [.bool false,.bool false,.int .i64 0,.int .i64 0,.bool false,.bool false] [(0,1),(4,1)]),[.c (.bool true),.c (.bool true)],none,false⟩,az 1 6 1,bj 2] [(2,0)]) .ret) (.rcond [a7 0 3 6,E 1 0] [] 0 (.seq (.reg [⟨0,.p (.build [.bool false,.bool false,.int .i64 0,.int .i64 0,.bool false,.bool false] [(3,1),(4,1),(5,1)]),[.c (.int .i64 1),.c (.bool true),.c (.bool true)],none,false⟩,az 1 6 1,bj 2] [(2,0)]) .ret) (.rcond [a7 0 3 7,E 1 0] [] 0 (.seq (.reg [⟨0,.p (.build [.bool false,.bool false,.int .i64 0,.int .i64 0,.bool false,.bool false] [(2,1),(4,1)]),[.c (.int .i64 20),.c (.bool true)],none,false⟩,az 1 6 1,bj 2] [(2,0)]) .ret) (.rcond [a7 0 3 8,E 1 0] [] 0 (.seq (.reg [jh 0,az 1 6 1,bj 2] [(2,0)]) .ret) .skip)))))))))) (.seq (.reg [jh 0,az 1 6 1,Y 2] [(2,0)]) .ret))) }
noncomputable def c138:CFn:={ nargs:=2,vars:=[0,1,4],results:=[.var 2],body:=(.seq (.reg [Y 0] [(2,0)]) (.seq (.rcond [A 0 1,bc 1] [] 0 (.seq (.reg [A 0 0,dz 1,E 2 0] [(2,0)]) .ret) .skip) (.seq (.reg [A 0 0,ai 1 35,E 2 0] [(2,0)]) .ret))) }
set_option maxRecDepth 100000 in
theorem ok6:FnOk Tryz.prog 6 c6:=zh (na:=c6.nargs) (vars:=c6.vars) (by kernel_rfl)
set_option maxRecDepth 100000 in
theorem ok7:FnOk Tryz.prog 7 c7:=zh (na:=c7.nargs) (vars:=c7.vars) (by kernel_rfl)
set_option maxRecDepth 100000 in
theorem ok8:FnOk Tryz.prog 8 c8:=zh (na:=c8.nargs) (vars:=c8.vars) (by kernel_rfl)
set_option maxRecDepth 100000 in
theorem ok9:FnOk Tryz.prog 9 c9:=zh (na:=c9.nargs) (vars:=c9.vars) (by kernel_rfl)
set_option maxRecDepth 100000 in
theorem ok10:FnOk Tryz.prog 10 c10:=zh (na:=c10.nargs) (vars:=c10.vars) (by kernel_rfl)
set_option maxRecDepth 100000 in
theorem ok11:FnOk Tryz.prog 11 c11:=zh (na:=c11.nargs) (vars:=c11.vars) (by kernel_rfl)
set_option maxRecDepth 100000 in
theorem ok12:FnOk Tryz.prog 12 c12:=zh (na:=c12.nargs) (vars:=c12.vars) (by kernel_rfl)
set_option maxRecDepth 100000 in
theorem ok13:FnOk Tryz.prog 13 c13:=zh (na:=c13.nargs) (vars:=c13.vars) (by kernel_rfl)
set_option maxRecDepth 100000 in
theorem ok14:FnOk Tryz.prog 14 c14:=zh (na:=c14.nargs) (vars:=c14.vars) (by kernel_rfl)
set_option maxRecDepth 100000 in
theorem ok15:FnOk Tryz.prog 15 c15:=zh (na:=c15.nargs) (vars:=c15.vars) (by kernel_rfl)
set_option maxRecDepth 100000 in
theorem ok16:FnOk Tryz.prog 16 c16:=zh (na:=c16.nargs) (vars:=c16.vars) (by kernel_rfl)
set_option maxRecDepth 100000 in
theorem ok17:FnOk Tryz.prog 17 c17:=zh (na:=c17.nargs) (vars:=c17.vars) (by kernel_rfl)
set_option maxRecDepth 100000 in
theorem ok18:FnOk Tryz.prog 18 c18:=zh (na:=c18.nargs) (vars:=c18.vars) (by kernel_rfl)
set_option maxRecDepth 100000 in
theorem ok19:FnOk Tryz.prog 19 c19:=zh (na:=c19.nargs) (vars:=c19.vars) (by kernel_rfl)
set_option maxRecDepth 100000 in
theorem ok20:FnOk Tryz.prog 20 c20:=zh (na:=c20.nargs) (vars:=c20.vars) (by kernel_rfl)
set_option maxRecDepth 100000 in
theorem ok21:FnOk Tryz.prog 21 c21:=zh (na:=c21.nargs) (vars:=c21.vars) (by kernel_rfl)
set_option maxRecDepth 100000 in
theorem ok23:FnOk Tryz.prog 23 c23:=zh (na:=c23.nargs) (vars:=c23.vars) (by kernel_rfl)
set_option maxRecDepth 100000 in
theorem ok24:FnOk Tryz.prog 24 c24:=zh (na:=c24.nargs) (vars:=c24.vars) (by kernel_rfl)
set_option maxRecDepth 100000 in
theorem ok25:FnOk Tryz.prog 25 c25:=zh (na:=c25.nargs) (vars:=c25.vars) (by kernel_rfl)
set_option maxRecDepth 100000 in
theorem ok26:FnOk Tryz.prog 26 c26:=zh (na:=c26.nargs) (vars:=c26.vars) (by kernel_rfl)
set_option maxRecDepth 100000 in
theorem ok27:FnOk Tryz.prog 27 c27:=zh (na:=c27.nargs) (vars:=c27.vars) (by kernel_rfl)
set_option maxRecDepth 100000 in
theorem ok29:FnOk Tryz.prog 29 c29:=zh (na:=c29.nargs) (vars:=c29.vars) (by kernel_rfl)
set_option maxRecDepth 100000 in
theorem ok30:FnOk Tryz.prog 30 c30:=zh (na:=c30.nargs) (vars:=c30.vars) (by kernel_rfl)
set_option maxRecDepth 100000 in
theorem ok31:FnOk Tryz.prog 31 c31:=zh (na:=c31.nargs) (vars:=c31.vars) (by kernel_rfl)
set_option maxRecDepth 100000 in
theorem ok32:FnOk Tryz.prog 32 c32:=zh (na:=c32.nargs) (vars:=c32.vars) (by kernel_rfl)
set_option maxRecDepth 100000 in
theorem ok33:FnOk Tryz.prog 33 c33:=zh (na:=c33.nargs) (vars:=c33.vars) (by kernel_rfl)
set_option maxRecDepth 100000 in
theorem ok34:FnOk Tryz.prog 34 c34:=zh (na:=c34.nargs) (vars:=c34.vars) (by kernel_rfl)
set_option maxRecDepth 100000 in
theorem ok35:FnOk Tryz.prog 35 c35:=zh (na:=c35.nargs) (vars:=c35.vars) (by kernel_rfl)
set_option maxRecDepth 100000 in
theorem ok36:FnOk Tryz.prog 36 c36:=zh (na:=c36.nargs) (vars:=c36.vars) (by kernel_rfl)
set_option maxRecDepth 100000 in
theorem ok37:FnOk Tryz.prog 37 c37:=zh (na:=c37.nargs) (vars:=c37.vars) (by kernel_rfl)
set_option maxRecDepth 100000 in
theorem ok38:FnOk Tryz.prog 38 c38:=zh (na:=c38.nargs) (vars:=c38.vars) (by kernel_rfl)
set_option maxRecDepth 100000 in
theorem ok39:FnOk Tryz.prog 39 c39:=zh (na:=c39.nargs) (vars:=c39.vars) (by kernel_rfl)
set_option maxRecDepth 100000 in
theorem ok40:FnOk Tryz.prog 40 c40:=zh (na:=c40.nargs) (vars:=c40.vars) (by kernel_rfl)
set_option maxRecDepth 100000 in
theorem ok41:FnOk Tryz.prog 41 c41:=zh (na:=c41.nargs) (vars:=c41.vars) (by kernel_rfl)
set_option maxRecDepth 100000 in
theorem ok42:FnOk Tryz.prog 42 c42:=zh (na:=c42.nargs) (vars:=c42.vars) (by kernel_rfl)
set_option maxRecDepth 100000 in
theorem ok43:FnOk Tryz.prog 43 c43:=zh (na:=c43.nargs) (vars:=c43.vars) (by kernel_rfl)
set_option maxRecDepth 100000 in
theorem ok44:FnOk Tryz.prog 44 c44:=zh (na:=c44.nargs) (vars:=c44.vars) (by kernel_rfl)
set_option maxRecDepth 100000 in
theorem ok45:FnOk Tryz.prog 45 c45:=zh (na:=c45.nargs) (vars:=c45.vars) (by kernel_rfl)
set_option maxRecDepth 100000 in
theorem ok46:FnOk Tryz.prog 46 c46:=zh (na:=c46.nargs) (vars:=c46.vars) (by kernel_rfl)
set_option maxRecDepth 100000 in
theorem ok47:FnOk Tryz.prog 47 c47:=zh (na:=c47.nargs) (vars:=c47.vars) (by kernel_rfl)
set_option maxRecDepth 100000 in
theorem ok48:FnOk Tryz.prog 48 c48:=zh (na:=c48.nargs) (vars:=c48.vars) (by kernel_rfl)
set_option maxRecDepth 100000 in
theorem ok49:FnOk Tryz.prog 49 c49:=zh (na:=c49.nargs) (vars:=c49.vars) (by kernel_rfl)
set_option maxRecDepth 100000 in
theorem ok50:FnOk Tryz.prog 50 c50:=zh (na:=c50.nargs) (vars:=c50.vars) (by kernel_rfl)
set_option maxRecDepth 100000 in
theorem ok51:FnOk Tryz.prog 51 c51:=zh (na:=c51.nargs) (vars:=c51.vars) (by kernel_rfl)
set_option maxRecDepth 100000 in
theorem ok52:FnOk Tryz.prog 52 c52:=zh (na:=c52.nargs) (vars:=c52.vars) (by kernel_rfl)
set_option maxRecDepth 100000 in
theorem ok53:FnOk Tryz.prog 53 c53:=zh (na:=c53.nargs) (vars:=c53.vars) (by kernel_rfl)
set_option maxRecDepth 100000 in
theorem ok54:FnOk Tryz.prog 54 c54:=zh (na:=c54.nargs) (vars:=c54.vars) (by kernel_rfl)
set_option maxRecDepth 100000 in
theorem ok55:FnOk Tryz.prog 55 c55:=zh (na:=c55.nargs) (vars:=c55.vars) (by kernel_rfl)
set_option maxRecDepth 100000 in
theorem ok57:FnOk Tryz.prog 57 c57:=zh (na:=c57.nargs) (vars:=c57.vars) (by kernel_rfl)
set_option maxRecDepth 100000 in
theorem ok61:FnOk Tryz.prog 61 c61:=zh (na:=c61.nargs) (vars:=c61.vars) (by kernel_rfl)
set_option maxRecDepth 100000 in
theorem ok62:FnOk Tryz.prog 62 c62:=zh (na:=c62.nargs) (vars:=c62.vars) (by kernel_rfl)
set_option maxRecDepth 100000 in
theorem ok63:FnOk Tryz.prog 63 c63:=zh (na:=c63.nargs) (vars:=c63.vars) (by kernel_rfl)
set_option maxRecDepth 100000 in
theorem ok64:FnOk Tryz.prog 64 c64:=zh (na:=c64.nargs) (vars:=c64.vars) (by kernel_rfl)
set_option maxRecDepth 100000 in
theorem ok65:FnOk Tryz.prog 65 c65:=zh (na:=c65.nargs) (vars:=c65.vars) (by kernel_rfl)
set_option maxRecDepth 100000 in
theorem ok66:FnOk Tryz.prog 66 c66:=zh (na:=c66.nargs) (vars:=c66.vars) (by kernel_rfl)
set_option maxRecDepth 100000 in
theorem ok67:FnOk Tryz.prog 67 c67:=zh (na:=c67.nargs) (vars:=c67.vars) (by kernel_rfl)
set_option maxRecDepth 100000 in
theorem ok69:FnOk Tryz.prog 69 c69:=zh (na:=c69.nargs) (vars:=c69.vars) (by kernel_rfl)
set_option maxRecDepth 100000 in
theorem ok70:FnOk Tryz.prog 70 c70:=zh (na:=c70.nargs) (vars:=c70.vars) (by kernel_rfl)
set_option maxRecDepth 100000 in
theorem ok71:FnOk Tryz.prog 71 c71:=zh (na:=c71.nargs) (vars:=c71.vars) (by kernel_rfl)
set_option maxRecDepth 100000 in
theorem ok72:FnOk Tryz.prog 72 c72:=zh (na:=c72.nargs) (vars:=c72.vars) (by kernel_rfl)
set_option maxRecDepth 100000 in
theorem ok73:FnOk Tryz.prog 73 c73:=zh (na:=c73.nargs) (vars:=c73.vars) (by kernel_rfl)
set_option maxRecDepth 100000 in
theorem ok74:FnOk Tryz.prog 74 c74:=zh (na:=c74.nargs) (vars:=c74.vars) (by kernel_rfl)
set_option maxRecDepth 100000 in
theorem ok75:FnOk Tryz.prog 75 c75:=zh (na:=c75.nargs) (vars:=c75.vars) (by kernel_rfl)
set_option maxRecDepth 100000 in
theorem ok76:FnOk Tryz.prog 76 c76:=zh (na:=c76.nargs) (vars:=c76.vars) (by kernel_rfl)
set_option maxRecDepth 100000 in
theorem ok77:FnOk Tryz.prog 77 c77:=zh (na:=c77.nargs) (vars:=c77.vars) (by kernel_rfl)
set_option maxRecDepth 100000 in
theorem ok78:FnOk Tryz.prog 78 c78:=zh (na:=c78.nargs) (vars:=c78.vars) (by kernel_rfl)
set_option maxRecDepth 100000 in
theorem ok79:FnOk Tryz.prog 79 c79:=zh (na:=c79.nargs) (vars:=c79.vars) (by kernel_rfl)
set_option maxRecDepth 100000 in
theorem ok80:FnOk Tryz.prog 80 c80:=zh (na:=c80.nargs) (vars:=c80.vars) (by kernel_rfl)
set_option maxRecDepth 100000 in
theorem ok81:FnOk Tryz.prog 81 c81:=zh (na:=c81.nargs) (vars:=c81.vars) (by kernel_rfl)
set_option maxRecDepth 100000 in
theorem ok82:FnOk Tryz.prog 82 c82:=zh (na:=c82.nargs) (vars:=c82.vars) (by kernel_rfl)
set_option maxRecDepth 100000 in
theorem ok83:FnOk Tryz.prog 83 c83:=zh (na:=c83.nargs) (vars:=c83.vars) (by kernel_rfl)
set_option maxRecDepth 100000 in
theorem ok84:FnOk Tryz.prog 84 c84:=zh (na:=c84.nargs) (vars:=c84.vars) (by kernel_rfl)
set_option maxRecDepth 100000 in
theorem ok85:FnOk Tryz.prog 85 c85:=zh (na:=c85.nargs) (vars:=c85.vars) (by kernel_rfl)
set_option maxRecDepth 100000 in
theorem ok86:FnOk Tryz.prog 86 c86:=zh (na:=c86.nargs) (vars:=c86.vars) (by kernel_rfl)
set_option maxRecDepth 100000 in
theorem ok87:FnOk Tryz.prog 87 c87:=zh (na:=c87.nargs) (vars:=c87.vars) (by kernel_rfl)
set_option maxRecDepth 100000 in
theorem ok88:FnOk Tryz.prog 88 c88:=zh (na:=c88.nargs) (vars:=c88.vars) (by kernel_rfl)
set_option maxRecDepth 100000 in
theorem ok89:FnOk Tryz.prog 89 c89:=zh (na:=c89.nargs) (vars:=c89.vars) (by kernel_rfl)
set_option maxRecDepth 100000 in
theorem ok90:FnOk Tryz.prog 90 c90:=zh (na:=c90.nargs) (vars:=c90.vars) (by kernel_rfl)
set_option maxRecDepth 100000 in
theorem ok91:FnOk Tryz.prog 91 c91:=zh (na:=c91.nargs) (vars:=c91.vars) (by kernel_rfl)
set_option maxRecDepth 100000 in
theorem ok92:FnOk Tryz.prog 92 c92:=zh (na:=c92.nargs) (vars:=c92.vars) (by kernel_rfl)
set_option maxRecDepth 100000 in
theorem ok93:FnOk Tryz.prog 93 c93:=zh (na:=c93.nargs) (vars:=c93.vars) (by kernel_rfl)
set_option maxRecDepth 100000 in
theorem ok96:FnOk Tryz.prog 96 c96:=zh (na:=c96.nargs) (vars:=c96.vars) (by kernel_rfl)
set_option maxRecDepth 100000 in
theorem ok98:FnOk Tryz.prog 98 c98:=zh (na:=c98.nargs) (vars:=c98.vars) (by kernel_rfl)
set_option maxRecDepth 100000 in
theorem ok99:FnOk Tryz.prog 99 c99:=zh (na:=c99.nargs) (vars:=c99.vars) (by kernel_rfl)
set_option maxRecDepth 100000 in
theorem ok100:FnOk Tryz.prog 100 c100:=zh (na:=c100.nargs) (vars:=c100.vars) (by kernel_rfl)
set_option maxRecDepth 100000 in
theorem ok101:FnOk Tryz.prog 101 c101:=zh (na:=c101.nargs) (vars:=c101.vars) (by kernel_rfl)
set_option maxRecDepth 100000 in
theorem ok105:FnOk Tryz.prog 105 c105:=zh (na:=c105.nargs) (vars:=c105.vars) (by kernel_rfl)
set_option maxRecDepth 100000 in
theorem ok106:FnOk Tryz.prog 106 c106:=zh (na:=c106.nargs) (vars:=c106.vars) (by kernel_rfl)
set_option maxRecDepth 100000 in
theorem ok107:FnOk Tryz.prog 107 c107:=zh (na:=c107.nargs) (vars:=c107.vars) (by kernel_rfl)
set_option maxRecDepth 100000 in
theorem ok108:FnOk Tryz.prog 108 c108:=zh (na:=c108.nargs) (vars:=c108.vars) (by kernel_rfl)
set_option maxRecDepth 100000 in
theorem ok109:FnOk Tryz.prog 109 c109:=zh (na:=c109.nargs) (vars:=c109.vars) (by kernel_rfl)
set_option maxRecDepth 100000 in
theorem ok110:FnOk Tryz.prog 110 c110:=zh (na:=c110.nargs) (vars:=c110.vars) (by kernel_rfl)
set_option maxRecDepth 100000 in
theorem ok111:FnOk Tryz.prog 111 c111:=zh (na:=c111.nargs) (vars:=c111.vars) (by kernel_rfl)
set_option maxRecDepth 100000 in
theorem ok112:FnOk Tryz.prog 112 c112:=zh (na:=c112.nargs) (vars:=c112.vars) (by kernel_rfl)
set_option maxRecDepth 100000 in
theorem ok113:FnOk Tryz.prog 113 c113:=zh (na:=c113.nargs) (vars:=c113.vars) (by kernel_rfl)
set_option maxRecDepth 100000 in
theorem ok114:FnOk Tryz.prog 114 c114:=zh (na:=c114.nargs) (vars:=c114.vars) (by kernel_rfl)
set_option maxRecDepth 100000 in
theorem ok115:FnOk Tryz.prog 115 c115:=zh (na:=c115.nargs) (vars:=c115.vars) (by kernel_rfl)
set_option maxRecDepth 100000 in
theorem ok116:FnOk Tryz.prog 116 c116:=zh (na:=c116.nargs) (vars:=c116.vars) (by kernel_rfl)
set_option maxRecDepth 100000 in
theorem ok125:FnOk Tryz.prog 125 c125:=zh (na:=c125.nargs) (vars:=c125.vars) (by kernel_rfl)
set_option maxRecDepth 100000 in
theorem ok126:FnOk Tryz.prog 126 c126:=zh (na:=c126.nargs) (vars:=c126.vars) (by kernel_rfl)
set_option maxRecDepth 100000 in
theorem ok129:FnOk Tryz.prog 129 c129:=zh (na:=c129.nargs) (vars:=c129.vars) (by kernel_rfl)
set_option maxRecDepth 100000 in
theorem ok135:FnOk Tryz.prog 135 c135:=zh (na:=c135.nargs) (vars:=c135.vars) (by kernel_rfl)
set_option maxRecDepth 100000 in
theorem ok136:FnOk Tryz.prog 136 c136:=zh (na:=c136.nargs) (vars:=c136.vars) (by kernel_rfl)
set_option maxRecDepth 100000 in
theorem ok137:FnOk Tryz.prog 137 c137:=zh (na:=c137.nargs) (vars:=c137.vars) (by kernel_rfl)
set_option maxRecDepth 100000 in
theorem ok138:FnOk Tryz.prog 138 c138:=zh (na:=c138.nargs) (vars:=c138.vars) (by kernel_rfl)
end Go.Eng.Sy
