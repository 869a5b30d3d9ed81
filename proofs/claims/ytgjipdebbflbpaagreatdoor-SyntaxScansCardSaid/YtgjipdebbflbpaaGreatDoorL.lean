/-
  Part of a proof of the laws of layer 06 (syntax): the laws.
  Conditions: none.
-/
import Derived.Test.YtgjipdebbflbpaaGreatDoorEc
import Derived.Test.YtgjipdebbflbpaaGreatDoorProg
import Derived.KernelRfl
import Derived.Test.YtgjipdebbflbpaaGreatDoorBp
set_option linter.unusedSimpArgs false
set_option linter.unusedVariables false
namespace Go.Eng.Sy
open Go Go.Eng Go.Proofs
noncomputable def c5_r0:List SOp:=[⟨0,.p .mov,[.c (.bool false)],none,false⟩]
noncomputable def c5_r1:List SOp:=[⟨0,.call 6,[],none,false⟩,⟨1,.p .mov,[.t 0],none,false⟩]
noncomputable def c5_r2:List SOp:=[⟨0,.p .mov,[.v 0],none,false⟩,⟨1,.p .mov,[.v 1],none,false⟩,⟨2,.call 8,[.t 1,.t 0],none,false⟩,⟨3,.call 9,[.t 0],none,false⟩,⟨4,.p .mov,[.t 0],none,false⟩,⟨5,.p (.extract 0),[.t 0],none,false⟩,⟨6,.p (.extract 1),[.t 1],none,false⟩,⟨7,.p .mov,[.t 1],none,false⟩,⟨8,.p .mov,[.t 1],none,false⟩]
noncomputable def c5_r3:List SOp:=[⟨0,.p .mov,[.v 4],none,false⟩,⟨1,.p .lenStr,[.t 0],none,false⟩,⟨2,.p (.bin .gtr),[.t 0,.c (.int .i64 20000)],none,false⟩]
noncomputable def c5_r4:List SOp:=[⟨0,.p .mov,[.v 3],none,false⟩,⟨1,.p .mov,[.t 0],none,false⟩]
noncomputable def c5_r5:List SOp:=[⟨0,.p .mov,[.v 4],none,false⟩,⟨1,.call 22,[.t 0],none,false⟩,⟨2,.p .mov,[.t 0],none,false⟩,⟨3,.p (.extract 0),[.t 0],none,false⟩,⟨4,.p (.extract 1),[.t 1],none,false⟩,⟨5,.p (.extract 2),[.t 2],none,false⟩,⟨6,.p .mov,[.t 2],none,false⟩,⟨7,.p .mov,[.t 2],none,false⟩,⟨8,.p .mov,[.t 2],none,false⟩]
noncomputable def c5_r6:List SOp:=[⟨0,.p .mov,[.c (.int .i64 0)],none,false⟩]
noncomputable def c5_r7:List SOp:=[⟨0,.p .mov,[.c (.int .i64 0)],none,false⟩]
noncomputable def c5_r8:List SOp:=[⟨0,.p .mov,[.v 9],none,false⟩,⟨1,.p .mov,[.v 6],none,false⟩,⟨2,.p .lenS,[.t 0],none,false⟩,⟨3,.p (.bin .lss),[.t 2,.t 0],none,false⟩]
noncomputable def c5_r9:List SOp:=[⟨0,.p .mov,[.v 6],none,false⟩,⟨1,.p .mov,[.v 9],none,false⟩,⟨2,.p (.idxAddrS 4),[.t 1,.t 0],none,false⟩,⟨3,.p (.fieldAddr 1),[.t 0],none,false⟩,⟨4,.r (.load false 1),[.t 0],none,false⟩]
noncomputable def yt6:List SOp:=[⟨0,.p (.bin .eql),[.v 10,.c (.string ⟨#[123]⟩)],none,false⟩,⟨1,.p .mov,[.t 0],none,false⟩]
noncomputable def yt5:List SOp:=[⟨0,.p (.bin .eql),[.v 10,.c (.string ⟨#[40]⟩)],none,false⟩,⟨1,.p .mov,[.t 0],none,false⟩]
noncomputable def yt4:List SOp:=[⟨0,.p (.bin .eql),[.v 10,.c (.string ⟨#[91]⟩)],none,false⟩,⟨1,.p .mov,[.t 0],none,false⟩]
noncomputable def yt3:List SOp:=[⟨0,.p .mov,[.v 8],none,false⟩,⟨1,.p (.bin .add),[.t 0,.c (.int .i64 1)],none,false⟩,⟨2,.p .mov,[.t 0],none,false⟩]
noncomputable def yt2:List SOp:=[⟨0,.p (.bin .eql),[.v 10,.c (.string ⟨#[125]⟩)],none,false⟩,⟨1,.p .mov,[.t 0],none,false⟩]
noncomputable def yt1:List SOp:=[⟨0,.p (.bin .eql),[.v 10,.c (.string ⟨#[41]⟩)],none,false⟩,⟨1,.p .mov,[.t 0],none,false⟩]
noncomputable def yt0:List SOp:=[⟨0,.p (.bin .eql),[.v 10,.c (.string ⟨#[93]⟩)],none,false⟩,⟨1,.p .mov,[.t 0],none,false⟩]
noncomputable def ys9:List SOp:=[⟨0,.p .mov,[.v 8],none,false⟩,⟨1,.p (.bin .sub),[.t 0,.c (.int .i64 1)],none,false⟩,⟨2,.p .mov,[.t 0],none,false⟩]
noncomputable def ys8:List SOp:=[⟨0,.p .mov,[.v 8],none,false⟩,⟨1,.p (.bin .lss),[.t 0,.c (.int .i64 0)],none,false⟩]
noncomputable def ys7:List SOp:=[⟨0,.p .mov,[.c (.bool false)],none,false⟩]
noncomputable def ys6:List SOp:=[⟨0,.p .mov,[.v 9],none,false⟩,⟨1,.p (.bin .add),[.t 0,.c (.int .i64 1)],none,false⟩,⟨2,.p .mov,[.t 0],none,false⟩]
noncomputable def c5_l21:CCode:=(.seq (.rcond c5_r8 [] 0 .skip (.exit 0)) (.seq (.block 1 (.seq (.seq (.reg c5_r9 [(10,0)]) (.block 2 (.seq (.rcond yt6 [(11,0)] 0 .skip (.rcond yt5 [(11,0)] 0 .skip (.reg yt4 [(11,0)]))) (.cond (.v 11) (.reg yt3 [(8,0)]) (.seq (.rcond yt2 [(12,0)] 0 .skip (.rcond yt1 [(12,0)] 0 .skip (.reg yt0 [(12,0)]))) (.cond (.v 12) (.reg ys9 [(8,0)]) .skip)))))) (.rcond ys8 [] 0 (.seq (.reg ys7 [(2,0)]) .ret) .skip))) (.reg ys6 [(9,0)])))
noncomputable def ys5:List SOp:=[⟨0,.p .mov,[.v 3],none,false⟩,⟨1,.p .mov,[.t 0],none,false⟩,⟨2,.p .mov,[.v 5],some (0,true),false⟩,⟨3,.p (.bin .eql),[.t 0,.c (.int .i64 0)],some (1,true),false⟩,⟨4,.p .pick,[.t 2,.t 0,.c (.bool false)],none,false⟩,⟨5,.p .mov,[.t 0],none,false⟩,⟨6,.p .mov,[.v 7],some (0,true),false⟩,⟨7,.p (.bin .eql),[.t 0,.c (.int .i64 0)],some (1,true),false⟩,⟨8,.p .pick,[.t 2,.t 0,.c (.bool false)],none,false⟩,⟨9,.p .mov,[.t 0],none,false⟩,⟨10,.p .mov,[.v 8],some (0,true),false⟩,⟨11,.p (.bin .eql),[.t 0,.c (.int .i64 0)],some (1,true),false⟩,⟨12,.p .pick,[.t 2,.t 0,.c (.bool false)],none,false⟩,⟨13,.p .mov,[.t 0],none,false⟩,⟨14,.p .mov,[.v 6],some (0,true),false⟩,⟨15,.p .lenS,[.t 0],some (1,true),false⟩,⟨16,.p (.bin .gtr),[.t 0,.c (.int .i64 0)],some (2,true),false⟩,⟨17,.p .pick,[.t 3,.t 0,.c (.bool false)],none,false⟩,⟨18,.p .mov,[.t 0],none,false⟩,⟨19,.p .mov,[.v 6],some (0,true),false⟩,⟨20,.p .mov,[.v 6],some (1,true),false⟩,⟨21,.p .lenS,[.t 0],some (2,true),false⟩,⟨22,.p (.bin .sub),[.t 0,.c (.int .i64 1)],some (3,true),false⟩,⟨23,.p (.idxAddrS 4),[.t 3,.t 0],some (4,true),false⟩,⟨24,.p (.fieldAddr 0),[.t 0],some (5,true),false⟩,⟨25,.r (.load false 1),[.t 0],some (6,true),false⟩,⟨26,.p (.bin .eql),[.t 0,.c (.int .i64 5)],some (7,true),false⟩,⟨27,.p .pick,[.t 8,.t 0,.c (.bool false)],none,false⟩,⟨28,.p .mov,[.t 0],none,false⟩]
noncomputable def c5:CFn:={ nargs:=2,vars:=[0,1,4,5,6,7,8,9,11,12,41,42,48],results:=[.var 2],body:=(.seq (.reg c5_r0 [(2,0)]) (.seq (.reg c5_r1 [(3,0)]) (.seq (.reg c5_r2 [(4,1),(5,0)]) (.seq (.rcond c5_r3 [] 0 (.seq (.reg c5_r4 [(2,0)]) .ret) .skip) (.seq (.reg c5_r5 [(6,2),(7,1)]) (.seq (.reg c5_r6 [(8,0)]) (.seq (.seq (.reg c5_r7 [(9,0)]) (.block 0 (.loop c5_l21))) (.seq (.reg ys5 [(2,0)]) .ret)))))))) }
set_option maxRecDepth 100000 in
theorem ok5:FnOk Tryz.prog 5 c5:=zf (na:=c5.nargs) (vars:=c5.vars) (by kernel_rfl)
end Go.Eng.Sy
namespace Go.Eng.Sy
open Go Go.Eng Go.Proofs
theorem zw7:∀ l:List Tok,Ya l≤l.length
 | []=>by simp [Ya]
 | t::r=>by
  have:=zw7 r
  have:brc t.text≤1:=by unfold brc;split<;>first | omega | (split<;>omega)
  simp only [Ya,List.length_cons];omega
theorem zw6 (l:List Tok){i:Nat}{t:Tok}(h:l[i]? = some t):Ya (l.take (i + 1))=Ya (l.take i) + brc t.text:=by
 rw [List.take_add_one,h,vr];simp [Ya]
theorem brc_1 {s:List UInt8}(h:s=[123]∨s=[40]∨s=[91]):brc s=1:=by unfold brc;rw [if_pos h]
theorem brc_2 {s:List UInt8}(h:¬ (s=[123]∨s=[40]∨s=[91])) (h2:s=[125]∨s=[41]∨s=[93]):brc s = -1:=by unfold brc;rw [if_neg h,if_pos h2]
theorem brc_3 {s:List UInt8}(h:¬ (s=[123]∨s=[40]∨s=[91])) (h2:¬ (s=[125]∨s=[41]∨s=[93])):brc s=0:=by unfold brc;rw [if_neg h,if_neg h2]
set_option maxHeartbeats 2000000 in
set_option maxRecDepth 10000 in
theorem zq7 {h:Heap}{v1:Value}{raw:List Int}(h1:Ints h v1 raw) (i1:∀ z ∈ raw,inI z) (all:Bool) (Q:Value→Heap→Prop) (hq:∀ h',Q (.bool true) h'):CallW Tryz.prog 5 [v1,.bool all] h Q:=by
 have ok1:=zr1 raw all
 replace h1:=Hid.mk h1;replace i1:=Hid.mk i1;replace ok1:=Hid.mk ok1
 refine zh (k:=2) ok5 rfl rfl rfl fun N=>?_
 rw [show yj c5 [v1,.bool all]=[v1,.bool all,undef,undef,undef,undef,undef,undef,undef,undef,undef,undef,undef] from rfl]
 delta c5 c5_r0 c5_r1 c5_r2 c5_r3 c5_r4 c5_r5 c5_r6 c5_r7 c5_r8 c5_r9 yt6 yt5 yt4 yt3 yt2 yt1 yt0 ys9 ys8 ys7 ys6 ys5
 replace hq:=Hid.mk hq
 repeat' (first|simp -implicitDefEqProofs only [za,aR,aW,zb,ze,Int.reduceBEq,Int.reduceBNe,Nat.reduceBEq,Int.reduceLT,Int.reduceLE, *]|with_reducible (first|apply kcd|apply kgd|apply kci|apply kgi)<;>intro hc)
 refine awake_c h _ fun h3 l3=>?_
 have a1:=SlV.mono l3 h1.h
 clear h1 l3
 replace a1:=Hid.mk a1
 repeat' (first|simp -implicitDefEqProofs only [za,aR,aW,zb,ze,Int.reduceBEq,Int.reduceBNe,Nat.reduceBEq,Int.reduceLT,Int.reduceLE, *]|with_reducible (first|apply kcd|apply kgd|apply kci|apply kgi)<;>intro hc)
 refine Prog_c a1.h i1.h all _ fun h4 d r t xs l4 hm=>?_
 obtain ⟨p,hp⟩:∃ p,zr2 raw all=p:=⟨_,rfl⟩
 rw [hp] at hm ok1
 rw [hp]
 have xp:=hm.prc
 have hlen:=zr5 ok1.h
 clear a1 l4 hm hp
 replace xp:=Hid.mk xp;replace hlen:=Hid.mk hlen
 repeat' (first|simp -implicitDefEqProofs only [za,aR,aW,zb,ze,Int.reduceBEq,Int.reduceBNe,Nat.reduceBEq,Int.reduceLT,Int.reduceLE, *]|with_reducible (first|apply kcd|apply kgd|apply kci|apply kgi)<;>intro hc)
 refine qp4 xp.h (fun _=>hlen.h) _ fun h5 l5=>?_
 have e1:=ok1.h.right
 rw [if_pos e1,if_pos e1]
 obtain ⟨e2,e3,e4,e5⟩:=Yk e1
 have hsc:=za3 (p:=p) ⟨by omega,by omega⟩ e3 e4 e5
 have hbal:=bal_prog e3 e4 e5 (lnP p)
 obtain ⟨s,hs⟩:∃ s,kz p=s:=⟨_,rfl⟩
 rw [hs] at hsc
 rw [hs]
 clear xp l5 e1 e2 e3 e4 e5 hlen
 replace hsc:=Hid.mk hsc;replace hbal:=Hid.mk hbal;replace hs:=Hid.mk hs
 by_cases hbig:20000 < s.length
 ·have hbig' : (20000:Int) < (s.length:Int):=by omega
  have g:=hq.h h5
  replace g:=Hid.mk g
  clear hq hbig
  repeat' (first|simp -implicitDefEqProofs only [za,aR,aW,zb,ze,Int.reduceBEq,Int.reduceBNe,Nat.reduceBEq,Int.reduceLT,Int.reduceLE,yu, *]|with_reducible (first|apply kcd|apply kgd|apply kci|apply kgi)<;>intro hc)
  exact g.h
 have hbig' : ¬ (20000:Int) < (s.length:Int):=by omega
 have hsc':=hsc.h (by omega)
 clear hsc
 replace hsc':=Hid.mk hsc'
 repeat' (first|simp -implicitDefEqProofs only [za,aR,aW,zb,ze,Int.reduceBEq,Int.reduceBNe,Nat.reduceBEq,Int.reduceLT,Int.reduceLE,yu, *]|with_reducible (first|apply kcd|apply kgd|apply kci|apply kgi)<;>intro hc)
 refine Scan_c (h0:=h5) h5 (.refl _) _ fun v h6 hT l6=>?_
 rw [hsc'.h] at hT
 rw [hsc'.h]
 obtain ⟨l,hl⟩:∃ l,tokP p++[yd9 (lnP p)]=l:=⟨_,rfl⟩
 have hlast:l[l.length - 1]? = some (yd9 (lnP p))∧0 < l.length:=by rw [← hl];simp
 rw [hl] at hT hbal
 have hlb:l.length≤20001:=by
  have h1:=(Zl (s.length + 1) (skip false s 1).1 (skip false s 1).2)
  have h2:(wy s).1=tokP p:=by
   have:=hsc'.h
   unfold Q1 at this
   rw [if_neg (by omega)] at this
   cases hx:(wy s).2.2 with
   | true =>
    rw [hx,if_pos rfl] at this
    have:=congrArg (fun x=>x.1) this
    simp only at this
    exact (List.append_inj' this rfl).1
   | false =>
    rw [hx,if_neg (by simp)] at this
    have:=congrArg (fun x=>x.2.1) this
    simp at this
  have h3:=qt false s 1
  have h4:(wy s).1.length≤s.length:=by unfold wy;omega
  rw [h2] at h4
  rw [← hl];simp;omega
 have hsl:=hT.sl
 have hln:ve [v]=some (.int .i64 l.length):=by simpa using hsl.len
 clear hT l6 hl hsc' hs
 replace hsl:=Hid.mk hsl;replace hlast:=Hid.mk hlast;replace hlb:=Hid.mk hlb
 repeat' (first|simp -implicitDefEqProofs only [za,aR,aW,zb,ze,Int.reduceBEq,Int.reduceBNe,Nat.reduceBEq,Int.reduceLT,Int.reduceLE, *]|with_reducible (first|apply kcd|apply kgd|apply kci|apply kgi)<;>intro hc)
 refine LoopW.upto l.length (fun i e h1=>h1=h6 ∧ ∃ x10 x11 x12,e=[v1,.bool all,.bool false,.bool true,str s,.int .i64 0,v,.int .i64 0,.int .i64 (Ya (l.take i)),.int .i64 i,x10,x11,x12]) ?_ (Nat.zero_le _) ⟨rfl,undef,undef,undef,by simp [Ya]⟩
 rintro i _ h1 R hi ⟨rfl,x10,x11,x12,rfl⟩ hR
 delta c5_l21 c5_r0 c5_r1 c5_r2 c5_r3 c5_r4 c5_r5 c5_r6 c5_r7 c5_r8 c5_r9 yt6 yt5 yt4 yt3 yt2 yt1 yt0 ys9 ys8 ys7 ys6 ys5
 by_cases hlt:i < l.length
 case neg =>
  have hlt' : ¬ (i:Int) < l.length:=by omega
  have hi2:i=l.length:=by omega
  obtain ⟨id,off,cells,own,g1,g2,g3,g4⟩:=hsl.h.elem (i:=l.length - 1) (x:=(yd9 (lnP p)).cells) (by rw [List.getElem?_map,hlast.h.1];rfl)
  have f0:=g4 0 (by omega)
  simp only [Nat.add_zero] at f0
  have f0' : cells[off]? = some (.int .i64 5):=f0
  have hpos:=hlast.h.2
  have hsub:IntKind.i64.wrap ((l.length:Int) - 1)=((l.length - 1:Nat):Int):=by have:=hlb.h;rw [zu (by omega) (by omega)];omega
  have hgt:(0:Int) < (l.length:Int):=by omega
  have hs0:Ya (l.take l.length)=0:=by rw [List.take_length];exact hbal.h.1
  subst hi2
  rw [hs0]
  have g:=hq.h h1
  replace g:=Hid.mk g
  clear hq hR g3 g4 f0 hpos hs0
  repeat' (first|simp -implicitDefEqProofs only [za,aR,aW,zb,ze,Int.reduceBEq,Int.reduceBNe,Nat.reduceBEq,Int.reduceLT,Int.reduceLE, *]|with_reducible (first|apply kcd|apply kgd|apply kci|apply kgi)<;>intro hc)
  exact g.h
 have hlt' : (i:Int) < l.length:=by omega
 obtain ⟨t,ht⟩:∃ e,l[i]? = some e:=⟨_,List.getElem?_eq_getElem hlt⟩
 obtain ⟨id,off,cells,own,g1,g2,g3,g4⟩:=hsl.h.elem (i:=i) (x:=t.cells) (by rw [List.getElem?_map,ht];rfl)
 have f1:cells[off + 1]? = some (str t.text):=g4 1 (by omega)
 have hst:=zw6 l ht
 have p0:=hbal.h.2 i
 have p1:=hbal.h.2 (i + 1)
 have p2:=zw7 (l.take i)
 have p3:(l.take i).length≤i:=by rw [List.length_take];omega
 obtain ⟨k,hk⟩:∃ k,Ya (l.take i)=k:=⟨_,rfl⟩
 obtain ⟨k',hk'⟩:∃ k,Ya (l.take (i + 1))=k:=⟨_,rfl⟩
 rw [hk] at hst p0 p2
 rw [hk'] at hst p1
 rw [hk]
 have hkb:k≤20001:=by have:=hlb.h;omega
 have hw1:IntKind.i64.wrap ((i:Int) + 1)=((i + 1:Nat):Int):=by have:=hlb.h;rw [zu (by omega) (by omega)];rfl
 have g:=fun x y z=>hR.h [v1,.bool all,.bool false,.bool true,str s,.int .i64 0,v,.int .i64 0,.int .i64 k',.int .i64 ((i + 1:Nat):Int),x,y,z] h1 hlt ⟨rfl,x,y,z,by rw [hk']⟩
 have up:brc t.text=1→IntKind.i64.wrap (k + 1)=k':=fun e=>by rw [zu (by omega) (by omega)];omega
 have dn:brc t.text = -1→IntKind.i64.wrap (k - 1)=k':=fun e=>by rw [zu (by omega) (by omega)];omega
 have eq:brc t.text=0→k=k':=fun e=>by omega
 have hk0:¬ k' < 0:=by omega
 replace g:=Hid.mk g;replace up:=Hid.mk up;replace dn:=Hid.mk dn;replace eq:=Hid.mk eq
 clear hR g3 g4 hst p0 p1 p2 p3 hk hk' hkb ht hi hlt hbal
 cases c1:(t.text == [123]) with
 | true =>
  have w:=up.h (brc_1 (.inl (by simpa using c1)))
  clear up dn eq
  repeat' (first|simp -implicitDefEqProofs only [za,aR,aW,zb,ze,Int.reduceBEq,Int.reduceBNe,Nat.reduceBEq,Int.reduceLT,Int.reduceLE,J7, *]|with_reducible (first|apply kcd|apply kgd|apply kci|apply kgi)<;>intro hc)
  exact g.h _ _ _
 | false =>
 cases c2:(t.text == [40]) with
 | true =>
  have w:=up.h (brc_1 (.inr (.inl (by simpa using c2))))
  clear up dn eq
  repeat' (first|simp -implicitDefEqProofs only [za,aR,aW,zb,ze,Int.reduceBEq,Int.reduceBNe,Nat.reduceBEq,Int.reduceLT,Int.reduceLE,J7, *]|with_reducible (first|apply kcd|apply kgd|apply kci|apply kgi)<;>intro hc)
  exact g.h _ _ _
 | false =>
 cases c3:(t.text == [91]) with
 | true =>
  have w:=up.h (brc_1 (.inr (.inr (by simpa using c3))))
  clear up dn eq
  repeat' (first|simp -implicitDefEqProofs only [za,aR,aW,zb,ze,Int.reduceBEq,Int.reduceBNe,Nat.reduceBEq,Int.reduceLT,Int.reduceLE,J7, *]|with_reducible (first|apply kcd|apply kgd|apply kci|apply kgi)<;>intro hc)
  exact g.h _ _ _
 | false =>
 have n1:¬ (t.text=[123]∨t.text=[40]∨t.text=[91]):=by simp only [beq_eq_false_iff_ne] at c1 c2 c3;simp [c1,c2,c3]
 replace n1:=Hid.mk n1
 cases c4:(t.text == [125]) with
 | true =>
  have w:=dn.h (brc_2 n1.h (.inl (by simpa using c4)))
  clear up dn eq n1
  repeat' (first|simp -implicitDefEqProofs only [za,aR,aW,zb,ze,Int.reduceBEq,Int.reduceBNe,Nat.reduceBEq,Int.reduceLT,Int.reduceLE,J7, *]|with_reducible (first|apply kcd|apply kgd|apply kci|apply kgi)<;>intro hc)
  exact g.h _ _ _
 | false =>
 cases c5:(t.text == [41]) with
 | true =>
  have w:=dn.h (brc_2 n1.h (.inr (.inl (by simpa using c5))))
  clear up dn eq n1
  repeat' (first|simp -implicitDefEqProofs only [za,aR,aW,zb,ze,Int.reduceBEq,Int.reduceBNe,Nat.reduceBEq,Int.reduceLT,Int.reduceLE,J7, *]|with_reducible (first|apply kcd|apply kgd|apply kci|apply kgi)<;>intro hc)
  exact g.h _ _ _
 | false =>
 cases c6:(t.text == [93]) with
 | true =>
  have w:=dn.h (brc_2 n1.h (.inr (.inr (by simpa using c6))))
  clear up dn eq n1
  repeat' (first|simp -implicitDefEqProofs only [za,aR,aW,zb,ze,Int.reduceBEq,Int.reduceBNe,Nat.reduceBEq,Int.reduceLT,Int.reduceLE,J7, *]|with_reducible (first|apply kcd|apply kgd|apply kci|apply kgi)<;>intro hc)
  exact g.h _ _ _
 | false =>
  have w:=eq.h (brc_3 n1.h (by simp only [beq_eq_false_iff_ne] at c4 c5 c6;simp [c4,c5,c6]))
  subst w
  clear up dn n1
  repeat' (first|simp -implicitDefEqProofs only [za,aR,aW,zb,ze,Int.reduceBEq,Int.reduceBNe,Nat.reduceBEq,Int.reduceLT,Int.reduceLE,J7, *]|with_reducible (first|apply kcd|apply kgd|apply kci|apply kgi)<;>intro hc)
  exact g.h _ _ _
end Go.Eng.Sy
