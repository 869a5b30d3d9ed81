/-
  Part of a proof of the laws of layer 09 (ceiling): the laws.
  Conditions: none.
-/
import Derived.Test.YtddbbcpelbcahaaGreatDoorEc
import Derived.Test.YtddbbcpelbcahaaGreatDoorProg
import Derived.KernelRfl
import Derived.Test.YtddbbcpelbcahaaGreatDoorBx
set_option linter.unusedSimpArgs false
set_option linter.unusedVariables false
namespace Go.Eng.Sy
open Go Go.Eng Go.Proofs
noncomputable def c5_r0:List SOp:=[⟨0,.p .mov,[.c (.bool false)],none,false⟩]
noncomputable def c5_r1:List SOp:=[⟨0,.call 9,[],none,false⟩,⟨1,.p .mov,[.t 0],none,false⟩]
noncomputable def c5_r2:List SOp:=[⟨0,.p .mov,[.v 0],none,false⟩,⟨1,.call 11,[.t 0,.c (.bool false)],none,false⟩,⟨2,.a (.new [.int .i64 0,.slice none 0 0,.slice none 0 0,.slice none 0 0]),[],none,false⟩,⟨3,.w (.store 4),[.t 0,.t 1],none,false⟩]
noncomputable def c5_r3:List SOp:=[⟨0,.p .mov,[.v 1],none,false⟩,⟨1,.p (.fieldAddr 0),[.v 7],none,false⟩,⟨2,.r (.load false 1),[.t 0],none,false⟩,⟨3,.call 15,[.t 2,.t 0],none,false⟩,⟨4,.p .mov,[.t 0],none,false⟩]
noncomputable def c5_r4:List SOp:=[⟨0,.p .mov,[.v 2],none,false⟩,⟨1,.call 15,[.t 0,.c (.int .i64 7)],none,false⟩,⟨2,.p (.bin .add),[.c (.int .i64 1),.t 0],none,false⟩,⟨3,.p .mov,[.t 0],none,false⟩]
noncomputable def c5_r5:List SOp:=[⟨0,.r (.load true 4),[.v 7],none,false⟩,⟨1,.p .mov,[.v 8],none,false⟩,⟨2,.p .mov,[.v 9],none,false⟩,⟨3,.call 16,[.t 2,.t 1,.t 0,.c (.slice none 0 0)],none,false⟩,⟨4,.p .mov,[.t 0],none,false⟩]
noncomputable def c5_r6:List SOp:=[⟨3,.p .mov,[.v 3],none,false⟩,⟨4,.call 15,[.t 0,.c (.int .i64 3)],none,true⟩,⟨0,.r (.load true 4),[.v 7],none,false⟩,⟨1,.p .mov,[.v 8],none,false⟩,⟨2,.p .mov,[.v 9],none,false⟩,⟨5,.a (.bslice [.int .i64 0] [(0,1)] 1 1),[.t 3],none,false⟩,⟨6,.call 16,[.t 3,.t 2,.t 1,.t 0],none,false⟩,⟨7,.p .mov,[.t 0],none,false⟩]
noncomputable def c5_r7:List SOp:=[⟨3,.p .mov,[.v 3],none,false⟩,⟨4,.call 15,[.t 0,.c (.int .i64 3)],none,true⟩,⟨5,.p .mov,[.v 4],none,false⟩,⟨6,.call 15,[.t 0,.c (.int .i64 3)],none,true⟩,⟨0,.r (.load true 4),[.v 7],none,false⟩,⟨1,.p .mov,[.v 8],none,false⟩,⟨2,.p .mov,[.v 9],none,false⟩,⟨7,.a (.bslice [.int .i64 0,.int .i64 0] [(0,1),(1,1)] 2 1),[.t 5,.t 3],none,false⟩,⟨8,.call 16,[.t 3,.t 2,.t 1,.t 0],none,false⟩,⟨9,.p .mov,[.t 0],none,false⟩]
noncomputable def c5_r8:List SOp:=[⟨0,.r (.load true 4),[.v 7],none,false⟩,⟨1,.p .mov,[.v 8],none,false⟩,⟨2,.p .mov,[.v 10],none,false⟩,⟨3,.call 18,[.t 2,.t 1,.t 0],none,false⟩,⟨4,.p .mov,[.t 0],none,false⟩]
noncomputable def c5_r9:List SOp:=[⟨0,.r (.load true 4),[.v 7],none,false⟩,⟨1,.p .mov,[.v 8],none,false⟩,⟨2,.p .mov,[.v 12],none,false⟩,⟨3,.call 18,[.t 2,.t 1,.t 0],none,false⟩,⟨4,.p .mov,[.t 0],none,false⟩]
noncomputable def c5_r10:List SOp:=[⟨0,.p .mov,[.v 6],none,false⟩,⟨1,.p (.un .not),[.t 0],none,false⟩,⟨2,.p .mov,[.t 0],none,false⟩,⟨3,.p .mov,[.v 10],some (0,false),false⟩,⟨4,.p .mov,[.v 9],some (1,false),false⟩,⟨5,.p (.bin .neq),[.t 1,.t 0],some (2,false),false⟩,⟨6,.p .pick,[.t 3,.c (.bool true),.t 0],none,false⟩,⟨7,.p .mov,[.t 0],none,false⟩,⟨8,.p .mov,[.v 11],some (0,false),false⟩,⟨9,.p .mov,[.v 10],some (1,false),false⟩,⟨10,.p (.bin .lss),[.t 1,.t 0],some (2,false),false⟩,⟨11,.p .pick,[.t 3,.c (.bool true),.t 0],none,false⟩,⟨12,.p .mov,[.t 0],none,false⟩,⟨13,.p .mov,[.v 12],some (0,false),false⟩,⟨14,.p .mov,[.v 11],some (1,false),false⟩,⟨15,.p (.bin .lss),[.t 1,.t 0],some (2,false),false⟩,⟨16,.p .pick,[.t 3,.c (.bool true),.t 0],none,false⟩,⟨17,.p .mov,[.t 0],none,false⟩,⟨18,.p .mov,[.v 12],some (0,false),false⟩,⟨19,.p (.bin .gtr),[.t 0,.c (.int .i64 7)],some (1,false),false⟩,⟨20,.p .pick,[.t 2,.c (.bool true),.t 0],none,false⟩,⟨21,.p .mov,[.t 0],none,false⟩,⟨22,.p .mov,[.v 14],some (0,false),false⟩,⟨23,.p .lenS,[.t 0],some (1,false),false⟩,⟨24,.p .mov,[.v 13],some (2,false),false⟩,⟨25,.p .lenS,[.t 0],some (3,false),false⟩,⟨26,.p (.bin .gtr),[.t 2,.t 0],some (4,false),false⟩,⟨27,.p .pick,[.t 5,.c (.bool true),.t 0],none,false⟩]
noncomputable def c5_r11:List SOp:=[⟨0,.p .mov,[.c (.bool false)],none,false⟩]
noncomputable def c5_r12:List SOp:=[⟨0,.p .mov,[.v 14],none,false⟩,⟨1,.p .mov,[.v 13],none,false⟩,⟨2,.p .mov,[.v 14],none,false⟩,⟨3,.p .lenS,[.t 0],none,false⟩,⟨4,.p (.sliceS 1 false true),[.t 2,.t 0],none,false⟩,⟨5,.call 14,[.t 4,.t 0],none,false⟩,⟨6,.p .mov,[.t 0],none,false⟩]
noncomputable def c5:CFn:={ nargs:=5,vars:=[0,1,2,3,4,10,11,12,13,14,15,16,17,18,19],results:=[.var 5],body:=(.seq (.reg c5_r0 [(5,0)]) (.seq (.reg c5_r1 [(6,0)]) (.seq (.reg c5_r2 [(7,1)]) (.seq (.reg c5_r3 [(8,0)]) (.seq (.reg c5_r4 [(9,0)]) (.seq (.reg c5_r5 [(10,0)]) (.seq (.reg c5_r6 [(11,0)]) (.seq (.reg c5_r7 [(12,0)]) (.seq (.reg c5_r8 [(13,0)]) (.seq (.reg c5_r9 [(14,0)]) (.seq (.rcond c5_r10 [] 0 (.seq (.reg c5_r11 [(5,0)]) .ret) .skip) (.seq (.reg c5_r12 [(5,0)]) .ret)))))))))))) }
set_option maxRecDepth 100000 in
theorem ok5:FnOk Tryz.prog 5 c5:=zj (na:=c5.nargs) (vars:=c5.vars) (by kernel_rfl)
end Go.Eng.Sy
namespace Go.Eng.Sy
open Go Go.Eng Go.Proofs
theorem ints9_c {h:Heap}{v1 v2:Value}{l:List Int}(h1:Ints h v1 l) (h2:Ints h v2 l) (hl:l.length≤1000000) (Q:Value→Heap→Prop) (hq:Q (.bool true) h):CallW Tryz.prog 14 [v1,v2] h Q:=by
 have n1:qf [v1]=some (.int .i64 l.length):=by have:=SlV.len h1;rwa [List.length_map] at this
 have n2:qf [v2]=some (.int .i64 l.length):=by have:=SlV.len h2;rwa [List.length_map] at this
 have en:((l.length:Int) != (l.length:Int))=false:=by simp
 replace h1:=Hid.mk h1;replace h2:=Hid.mk h2
 refine zk (k:=2) ok14 rfl rfl rfl fun N=>?_
 rw [show ym c14 [v1,v2]=[v1,v2,undef,undef] from rfl]
 delta c14 qm9 qm8 qm7 qm6 qm5 qm4 qm3 qm2 qm1
 replace hq:=Hid.mk hq
 repeat' (first|simp -implicitDefEqProofs only [ze,aR,aW,zf,zg,Int.reduceBEq,Int.reduceBNe,Nat.reduceBEq,Int.reduceLT,Int.reduceLE, *]|with_reducible (first|apply kcd|apply kgd|apply kci|apply kgi)<;>intro hc)
 refine LoopW.upto l.length (fun i en hh=>en=[v1,v2,.bool false,.int .i64 i]∧hh=h) ?_ (Nat.zero_le _) ⟨rfl,rfl⟩
 rintro i _ hE R hi ⟨rfl,hE2⟩ hR
 replace hE2:=hE2.symm
 subst hE2
 delta c14_l8 qm9 qm8 qm7 qm6 qm5 qm4 qm3 qm2 qm1
 by_cases hlt:i < l.length
 ·have hlt' : (i:Int) < l.length:=by omega
  have hw:IntKind.i64.wrap ((i:Int) + 1)=((i + 1:Nat):Int):=by rw [zt (by omega) (by omega)];rfl
  obtain ⟨z,hz⟩:∃ z,l[i]? = some z:=⟨_,List.getElem?_eq_getElem hlt⟩
  obtain ⟨id,off,c,o,y1,y2,y3⟩:=jc h1.h hz
  obtain ⟨id',off',c',o',x1,x2,x3⟩:=jc h2.h hz
  have ez:(z != z)=false:=by simp
  have g:=hR.h [v1,v2,.bool false,.int .i64 (i + 1:Nat)] h hlt ⟨rfl,rfl⟩
  clear hR
  replace g:=Hid.mk g;replace hz:=Hid.mk hz
  repeat' (first|simp -implicitDefEqProofs only [ze,aR,aW,zf,zg,Int.reduceBEq,Int.reduceBNe,Nat.reduceBEq,Int.reduceLT,Int.reduceLE, *]|with_reducible (first|apply kcd|apply kgd|apply kci|apply kgi)<;>intro hc)
  exact g.h
 ·have hlt' : ¬ (i:Int) < l.length:=by omega
  have g:=hq.h
  clear hR
  replace g:=Hid.mk g
  repeat' (first|simp -implicitDefEqProofs only [ze,aR,aW,zf,zg,Int.reduceBEq,Int.reduceBNe,Nat.reduceBEq,Int.reduceLT,Int.reduceLE, *]|with_reducible (first|apply kcd|apply kgd|apply kci|apply kgi)<;>intro hc)
  exact g.h
theorem bs_2i (y z:Int):yu [.int .i64 0,.int .i64 0] [(0,1),(1,1)] 2 1 [.int .i64 y,.int .i64 z]=some ([.int .i64 y,.int .i64 z],fun id=>.slice (some ⟨id,0,none⟩) 2 1):=qg rfl rfl rfl (by simp [Value.cells,Value.oneCell'])
theorem yt9 {p:Prg}{a v w:Int}(h:v≤w):xd p a w=(xd p a v).take (xd p a w).length:=by
 have e:xd p a w=(xd p a v).filter fun z=>decide (w < Zb p z):=by
  unfold xd
  rw [← yi4,List.filter_filter]
  congr 1
  refine List.filter_congr fun z _=>?_
  by_cases h1:w < Zb p z
  ·have h2:v < Zb p z:=by omega
   simp [h1,h2]
  ·simp [h1]
 have:=Zn (Zb p) w (l:=xd p a v) (wt _ _)
 rw [← e] at this
 exact this
set_option maxHeartbeats 1000000 in
theorem Fewer_c {h:Heap}{v:Value}{raw:List Int}(hv:Ints h v raw) (hin:∀ z ∈ raw,inI z){z1 z2 z3 z4:Int}(j1:inI z1) (j2:inI z2) (j3:inI z3) (j4:inI z4) (Q:Value→Heap→Prop) (hq:∀ h',Q (.bool true) h'):CallW Tryz.prog 5 [v,.int .i64 z1,.int .i64 z2,.int .i64 z3,.int .i64 z4] h Q:=by
 replace hv:=Hid.mk hv
 refine zk (k:=5) ok5 rfl rfl rfl fun N=>?_
 rw [show ym c5 [v,.int .i64 z1,.int .i64 z2,.int .i64 z3,.int .i64 z4]=[v,.int .i64 z1,.int .i64 z2,.int .i64 z3,.int .i64 z4,undef,undef,undef,undef,undef,undef,undef,undef,undef,undef] from rfl]
 delta c5 c5_r0 c5_r1 c5_r2 c5_r3 c5_r4 c5_r5 c5_r6 c5_r7 c5_r8 c5_r9 c5_r10 c5_r11 c5_r12
 replace hq:=Hid.mk hq
 repeat' (first|simp -implicitDefEqProofs only [ze,aR,aW,zf,zg,Int.reduceBEq,Int.reduceBNe,Nat.reduceBEq,Int.reduceLT,Int.reduceLE, *]|with_reducible (first|apply kcd|apply kgd|apply kci|apply kgi)<;>intro hc)
 refine U9 _ _ ?_
 repeat' (first|simp -implicitDefEqProofs only [ze,aR,aW,zf,zg,Int.reduceBEq,Int.reduceBNe,Nat.reduceBEq,Int.reduceLT,Int.reduceLE, *]|with_reducible (first|apply kcd|apply kgd|apply kci|apply kgi)<;>intro hc)
 refine yg2 hv.h hin false _ fun h1 d r t xs l1 hm=>?_
 obtain ⟨iD,iR,iT⟩:=hm.isS
 obtain ⟨ho,b3,b4,b5⟩:=Vu raw
 generalize vv raw false=p at *
 have st:=st_PA h1 p.harts iD iR iT
 have gq:=Heap.get_alloc_same h1 (.blk [.int .i64 p.harts,d,r,t] true)
 have lh2:=(Heap.le.refl h1).alloc (.blk [.int .i64 p.harts,d,r,t] true)
 obtain ⟨q,eq⟩:∃ x_,h1.next=x_:=⟨_,rfl⟩
 obtain ⟨h2,eh2⟩:∃ x_,h1.alloc (.blk [.int .i64 p.harts,d,r,t] true)=x_:=⟨_,rfl⟩
 rw [eh2] at gq lh2
 rw [eq] at gq
 rw [eh2,eq] at st
 have hp2:=(hm.le lh2).prc
 have r5:=qz j1 (n:=p.harts) (by omega)
 obtain ⟨a,ha⟩:∃ k:Nat,pick z1 p.harts=(k:Int):=⟨(pick z1 p.harts).toNat,by omega⟩
 have haH:(a:Int) < p.harts:=by omega
 have hnz:p.harts≠0:=by omega
 have r6:=qz j2 (n:=(7:Int)) (by omega)
 obtain ⟨pr,hpr⟩:∃ z,pick z2 7=z:=⟨_,rfl⟩
 rw [hpr] at r6
 have hw1:IntKind.i64.wrap (1 + pr)=1 + pr:=by rw [zt (by omega) (by omega)]
 obtain ⟨n,hn⟩:∃ z,1 + pr=z:=⟨_,rfl⟩
 rw [hn] at hw1
 have hn7:n≤7:=by omega
 clear hm
 replace l1:=Hid.mk l1;replace hp2:=Hid.mk hp2;replace ho:=Hid.mk ho;replace lh2:=Hid.mk lh2;replace ha:=Hid.mk ha;replace hnz:=Hid.mk hnz;replace r5:=Hid.mk r5;replace hpr:=Hid.mk hpr;replace hn:=Hid.mk hn
 repeat' (first|simp -implicitDefEqProofs only [ze,aR,aW,zf,zg,Int.reduceBEq,Int.reduceBNe,Nat.reduceBEq,Int.reduceLT,Int.reduceLE, *]|with_reducible (first|apply kcd|apply kgd|apply kci|apply kgi)<;>intro hc)
 refine kq _ _ hnz.h _ _ ?_
 rw [ha.h]
 repeat' (first|simp -implicitDefEqProofs only [ze,aR,aW,zf,zg,Int.reduceBEq,Int.reduceBNe,Nat.reduceBEq,Int.reduceLT,Int.reduceLE, *]|with_reducible (first|apply kcd|apply kgd|apply kci|apply kgi)<;>intro hc)
 refine kq _ _ (by decide) _ _ ?_
 rw [hpr.h]
 have hn':=hn.h
 repeat' (first|simp -implicitDefEqProofs only [ze,aR,aW,zf,zg,Int.reduceBEq,Int.reduceBNe,Nat.reduceBEq,Int.reduceLT,Int.reduceLE,zw, *]|with_reducible (first|apply kcd|apply kgd|apply kci|apply kgi)<;>intro hc)
 have nilI:Ints h2 z8 []:=.inl ⟨rfl,rfl⟩
 refine Ky hp2.h ho.h haH n nilI (by simp) _ fun h3 l3=>?_
 have el1:Vx p a n []=n:=rfl
 rw [el1]
 have gq3:=l3.get gq
 replace l3:=Hid.mk l3;replace nilI:=Hid.mk nilI
 repeat' (first|simp -implicitDefEqProofs only [ze,aR,aW,zf,zg,Int.reduceBEq,Int.reduceBNe,Nat.reduceBEq,Int.reduceLT,Int.reduceLE,zw, *]|with_reducible (first|apply kcd|apply kgd|apply kci|apply kgi)<;>intro hc)
 refine kq _ _ (by decide) _ _ (zg9 (Heap.le.refl _).ext ?_)
 obtain ⟨o1,ho1⟩:∃ z,pick z3 3=z:=⟨_,rfl⟩
 rw [ho1]
 have bs1:=qu3 o1
 have i4:=Zh h3 [o1] (n:=1) (cells:=[.int .i64 o1]) rfl rfl
 have gq4:=Heap.get_alloc_same h3 (.blk [.int .i64 o1] true)
 have lh4:=(Heap.le.refl h3).alloc (.blk [.int .i64 o1] true)
 obtain ⟨q4,eq4⟩:∃ x_,h3.next=x_:=⟨_,rfl⟩
 obtain ⟨h4,eh4⟩:∃ x_,h3.alloc (.blk [.int .i64 o1] true)=x_:=⟨_,rfl⟩
 rw [eh4] at gq4 lh4
 rw [eq4] at gq4
 rw [eh4,eq4] at i4
 have gq4':=lh4.get gq3
 have hp4:=hp2.h.mono (l3.h.trans lh4)
 replace i4:=Hid.mk i4;replace lh4:=Hid.mk lh4;replace hp4:=Hid.mk hp4;replace ho1:=Hid.mk ho1
 repeat' (first|simp -implicitDefEqProofs only [ze,aR,aW,zf,zg,Int.reduceBEq,Int.reduceBNe,Nat.reduceBEq,Int.reduceLT,Int.reduceLE,zw, *]|with_reducible (first|apply kcd|apply kgd|apply kci|apply kgi)<;>intro hc)
 refine Ky hp4.h ho.h haH n i4.h (by simp) _ fun h5 l5=>?_
 obtain ⟨b,hb⟩:∃ z,Vx p a n [o1]=z:=⟨_,rfl⟩
 have hb0:=Js p a [o1] n
 rw [hb] at hb0
 rw [hb]
 have gq5:=l5.get gq4'
 replace l5:=Hid.mk l5;replace hb:=Hid.mk hb
 repeat' (first|simp -implicitDefEqProofs only [ze,aR,aW,zf,zg,Int.reduceBEq,Int.reduceBNe,Nat.reduceBEq,Int.reduceLT,Int.reduceLE,zw, *]|with_reducible (first|apply kcd|apply kgd|apply kci|apply kgi)<;>intro hc)
 refine kq _ _ (by decide) _ _ (zg9 (Heap.le.refl _).ext ?_)
 rw [ho1.h]
 repeat' (first|simp -implicitDefEqProofs only [ze,aR,aW,zf,zg,Int.reduceBEq,Int.reduceBNe,Nat.reduceBEq,Int.reduceLT,Int.reduceLE,zw, *]|with_reducible (first|apply kcd|apply kgd|apply kci|apply kgi)<;>intro hc)
 refine kq _ _ (by decide) _ _ (zg9 (Heap.le.refl _).ext ?_)
 obtain ⟨o2,ho2⟩:∃ z,pick z4 3=z:=⟨_,rfl⟩
 rw [ho2]
 have bs2:=bs_2i o1 o2
 have i6:=Zh h5 [o1,o2] (n:=2) (cells:=[.int .i64 o1,.int .i64 o2]) rfl rfl
 have gq6:=Heap.get_alloc_same h5 (.blk [.int .i64 o1,.int .i64 o2] true)
 have lh6:=(Heap.le.refl h5).alloc (.blk [.int .i64 o1,.int .i64 o2] true)
 obtain ⟨q6,eq6⟩:∃ x_,h5.next=x_:=⟨_,rfl⟩
 obtain ⟨h6,eh6⟩:∃ x_,h5.alloc (.blk [.int .i64 o1,.int .i64 o2] true)=x_:=⟨_,rfl⟩
 rw [eh6] at gq6 lh6
 rw [eq6] at gq6
 rw [eh6,eq6] at i6
 have gq6':=lh6.get gq5
 have hp6:=hp4.h.mono (l5.h.trans lh6)
 replace i6:=Hid.mk i6;replace lh6:=Hid.mk lh6;replace hp6:=Hid.mk hp6;replace ho2:=Hid.mk ho2
 repeat' (first|simp -implicitDefEqProofs only [ze,aR,aW,zf,zg,Int.reduceBEq,Int.reduceBNe,Nat.reduceBEq,Int.reduceLT,Int.reduceLE,zw, *]|with_reducible (first|apply kcd|apply kgd|apply kci|apply kgi)<;>intro hc)
 refine Ky hp6.h ho.h haH n i6.h (by simp) _ fun h7 l7=>?_
 obtain ⟨c,hc⟩:∃ z,Vx p a n [o1,o2]=z:=⟨_,rfl⟩
 have hc0:b≤c:=by
  rw [← hb.h,← hc]
  exact Js p a [o2] (Vx p a n [o1])
 have hc7:c≤7:=by
  rw [← hc]
  exact zv0 (fun k=>ceil_le (by omega) (fun t ht=>(ho.h.prio t ht).2) a k) _ _ hn7
 rw [hc]
 have gq7:=l7.get gq6'
 have hp7:=hp6.h.mono l7
 replace l7:=Hid.mk l7;replace hc:=Hid.mk hc;replace hp7:=Hid.mk hp7
 repeat' (first|simp -implicitDefEqProofs only [ze,aR,aW,zf,zg,Int.reduceBEq,Int.reduceBNe,Nat.reduceBEq,Int.reduceLT,Int.reduceLE,zw, *]|with_reducible (first|apply kcd|apply kgd|apply kci|apply kgi)<;>intro hc)
 refine Zu hp7.h ho.h a n _ fun h8 sv l8 hsv=>?_
 have gq8:=l8.get gq7
 have hp8:=hp7.h.mono l8
 replace l8:=Hid.mk l8;replace hsv:=Hid.mk hsv;replace hp8:=Hid.mk hp8
 repeat' (first|simp -implicitDefEqProofs only [ze,aR,aW,zf,zg,Int.reduceBEq,Int.reduceBNe,Nat.reduceBEq,Int.reduceLT,Int.reduceLE,zw, *]|with_reducible (first|apply kcd|apply kgd|apply kci|apply kgi)<;>intro hc)
 refine Zu hp8.h ho.h a c _ fun h9 tv l9 htv=>?_
 have hsv9:Ints h9 sv (xd p a n):=SlV.mono l9 hsv.h
 have law:=yt9 (p:=p) (a:=a) (v:=n) (w:=c) (by omega)
 obtain ⟨sl,hsl⟩:∃ l,xd p a n=l:=⟨_,rfl⟩
 obtain ⟨tl,htl⟩:∃ l,xd p a c=l:=⟨_,rfl⟩
 rw [hsl,htl] at law
 rw [hsl] at hsv9
 rw [htl] at htv
 have hle:tl.length≤sl.length:=by
  have:=congrArg List.length law
  rw [List.length_take] at this;omega
 have hs6:sl.length≤6:=by rw [← hsl];have:=Za p a n;omega
 have lns:qf [sv]=some (.int .i64 sl.length):=by have:=SlV.len hsv9;rwa [List.length_map] at this
 have lnt:qf [tv]=some (.int .i64 tl.length):=by have:=SlV.len htv;rwa [List.length_map] at this
 obtain ⟨w2,e2,s2⟩:=hsv9.partHi (b:=tl.length) (by rw [List.length_map];exact hle)
 rw [← List.map_take,← law] at s2
 have en:(n != n)=false:=by simp
 have k1:¬ b < n:=by omega
 have k2:¬ c < b:=by omega
 have k3:¬ (7:Int) < c:=by omega
 have k4:¬ ((sl.length:Int) < tl.length):=by omega
 replace l9:=Hid.mk l9;replace htv:=Hid.mk htv;replace hsv9:=Hid.mk hsv9;replace law:=Hid.mk law;replace hsl:=Hid.mk hsl;replace htl:=Hid.mk htl;replace s2:=Hid.mk s2
 repeat' (first|simp -implicitDefEqProofs only [ze,aR,aW,zf,zg,Int.reduceBEq,Int.reduceBNe,Nat.reduceBEq,Int.reduceLT,Int.reduceLE, *]|with_reducible (first|apply kcd|apply kgd|apply kci|apply kgi)<;>intro hc)
 refine ints9_c htv.h s2.h (by omega) _ ?_
 have g:=hq.h h9
 replace g:=Hid.mk g
 repeat' (first|simp -implicitDefEqProofs only [ze,aR,aW,zf,zg,Int.reduceBEq,Int.reduceBNe,Nat.reduceBEq,Int.reduceLT,Int.reduceLE, *]|with_reducible (first|apply kcd|apply kgd|apply kci|apply kgi)<;>intro hc)
 exact g.h
end Go.Eng.Sy
