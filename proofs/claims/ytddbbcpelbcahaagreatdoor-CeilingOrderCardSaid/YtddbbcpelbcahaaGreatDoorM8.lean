/-
  Part of a proof of the laws of layer 09 (ceiling): the laws.
  Conditions: none.
-/
import Derived.Test.YtddbbcpelbcahaaGreatDoorEc
import Derived.Test.YtddbbcpelbcahaaGreatDoorProg
import Derived.KernelRfl
import Derived.Test.YtddbbcpelbcahaaGreatDoorBx
set_option linter.unusedSimpArgs false
set_option linter.unusedVariables false
namespace Go.Eng.Sy
open Go Go.Eng Go.Proofs
noncomputable def c8_r0:List SOp:=[⟨0,.p .mov,[.c (.bool false)],none,false⟩]
noncomputable def c8_r1:List SOp:=[⟨0,.call 9,[],none,false⟩,⟨1,.p .mov,[.t 0],none,false⟩]
noncomputable def c8_r2:List SOp:=[⟨0,.p .mov,[.v 0],none,false⟩,⟨1,.call 11,[.t 0,.c (.bool false)],none,false⟩,⟨2,.a (.new [.int .i64 0,.slice none 0 0,.slice none 0 0,.slice none 0 0]),[],none,false⟩,⟨3,.w (.store 4),[.t 0,.t 1],none,false⟩]
noncomputable def c8_r3:List SOp:=[⟨0,.p .mov,[.v 1],none,false⟩,⟨1,.p (.fieldAddr 0),[.v 5],none,false⟩,⟨2,.r (.load false 1),[.t 0],none,false⟩,⟨3,.call 15,[.t 2,.t 0],none,false⟩,⟨4,.p .mov,[.t 0],none,false⟩]
noncomputable def c8_r4:List SOp:=[⟨0,.r (.load true 4),[.v 5],none,false⟩,⟨1,.call 12,[.t 0],none,false⟩,⟨2,.p .mov,[.t 0],none,false⟩]
noncomputable def c8_r5:List SOp:=[⟨0,.p .mov,[.v 7],none,false⟩,⟨1,.p .lenS,[.t 0],none,false⟩,⟨2,.p (.fieldAddr 0),[.v 5],none,false⟩,⟨3,.r (.load false 1),[.t 0],none,false⟩,⟨4,.p (.bin .neq),[.t 2,.t 0],none,false⟩,⟨5,.p .mov,[.t 0],none,false⟩,⟨6,.p .mov,[.v 7],some (0,false),false⟩,⟨7,.p .mov,[.v 6],some (1,false),false⟩,⟨8,.p (.idxAddrS 1),[.t 1,.t 0],some (2,false),false⟩,⟨9,.r (.load false 1),[.t 0],some (3,false),false⟩,⟨10,.p .lenS,[.t 0],some (4,false),false⟩,⟨11,.p (.fieldAddr 2),[.v 5],some (5,false),false⟩,⟨12,.r (.load false 1),[.t 0],some (6,false),false⟩,⟨13,.p .lenS,[.t 0],some (7,false),false⟩,⟨14,.p (.bin .neq),[.t 3,.t 0],some (8,false),false⟩,⟨15,.p .pick,[.t 9,.c (.bool true),.t 0],none,false⟩]
noncomputable def c8_r6:List SOp:=[⟨0,.p .mov,[.c (.bool false)],none,false⟩]
noncomputable def c8_r7:List SOp:=[⟨0,.p .mov,[.c (.int .i64 1)],none,false⟩]
noncomputable def c8_r8:List SOp:=[⟨0,.p .mov,[.v 8],none,false⟩,⟨1,.p .mov,[.v 7],none,false⟩,⟨2,.p .mov,[.v 6],none,false⟩,⟨3,.p (.idxAddrS 1),[.t 1,.t 0],none,false⟩,⟨4,.r (.load false 1),[.t 0],none,false⟩,⟨5,.p .lenS,[.t 0],none,false⟩,⟨6,.p (.bin .lss),[.t 5,.t 0],none,false⟩]
noncomputable def c8_r9:List SOp:=[⟨0,.p .mov,[.v 7],none,false⟩,⟨1,.p .mov,[.v 6],none,false⟩,⟨2,.p (.idxAddrS 1),[.t 1,.t 0],none,false⟩,⟨3,.r (.load false 1),[.t 0],none,false⟩,⟨4,.p .mov,[.v 8],none,false⟩,⟨5,.p (.idxAddrS 1),[.t 1,.t 0],none,false⟩,⟨6,.r (.load false 1),[.t 0],none,false⟩,⟨7,.p .mov,[.v 7],none,false⟩,⟨8,.p .mov,[.v 6],none,false⟩,⟨9,.p (.idxAddrS 1),[.t 1,.t 0],none,false⟩,⟨10,.r (.load false 1),[.t 0],none,false⟩,⟨11,.p .mov,[.v 8],none,false⟩,⟨12,.p (.bin .sub),[.t 0,.c (.int .i64 1)],none,false⟩,⟨13,.p (.idxAddrS 1),[.t 2,.t 0],none,false⟩,⟨14,.r (.load false 1),[.t 0],none,false⟩,⟨15,.p (.bin .lss),[.t 8,.t 0],none,false⟩]
noncomputable def zx4:List SOp:=[⟨0,.p .mov,[.c (.bool false)],none,false⟩]
noncomputable def zx3:List SOp:=[⟨0,.p .mov,[.v 8],none,false⟩,⟨1,.p (.bin .add),[.t 0,.c (.int .i64 1)],none,false⟩,⟨2,.p .mov,[.t 0],none,false⟩]
noncomputable def c8_l12:CCode:=(.seq (.rcond c8_r8 [] 0 .skip (.exit 0)) (.seq (.block 1 (.rcond c8_r9 [] 0 (.seq (.reg zx4 [(3,0)]) .ret) .skip)) (.reg zx3 [(8,0)])))
noncomputable def zx2:List SOp:=[⟨0,.p (.fieldAddr 2),[.v 5],none,false⟩,⟨1,.r (.load false 1),[.t 0],none,false⟩,⟨2,.p .lenS,[.t 0],none,false⟩,⟨3,.p (.bin .eql),[.t 0,.c (.int .i64 0)],none,false⟩]
noncomputable def zx1:List SOp:=[⟨0,.p .mov,[.v 4],none,false⟩,⟨1,.p .mov,[.t 0],none,false⟩]
noncomputable def zx0:List SOp:=[⟨0,.p .mov,[.v 2],none,false⟩,⟨1,.p (.fieldAddr 2),[.v 5],none,false⟩,⟨2,.r (.load false 1),[.t 0],none,false⟩,⟨3,.p .lenS,[.t 0],none,false⟩,⟨4,.call 15,[.t 3,.t 0],none,false⟩,⟨5,.p .mov,[.t 0],none,false⟩]
noncomputable def zw9:List SOp:=[⟨2,.r (.load true 4),[.v 5],none,false⟩,⟨3,.p .mov,[.v 6],none,false⟩,⟨4,.p .mov,[.v 9],none,false⟩,⟨5,.a (.bslice [.int .i64 0] [(0,1)] 1 1),[.t 0],none,false⟩,⟨6,.call 16,[.t 3,.t 2,.c (.int .i64 0),.t 0],none,true⟩,⟨0,.r (.load true 4),[.v 5],none,false⟩,⟨1,.p .mov,[.v 6],none,false⟩,⟨7,.call 18,[.t 1,.t 0,.t 2],none,false⟩,⟨8,.p .mov,[.t 0],none,false⟩]
noncomputable def zw8:List SOp:=[⟨0,.p .mov,[.c (.int .i64 0)],none,false⟩]
noncomputable def zw7:List SOp:=[⟨0,.p .mov,[.v 11],none,false⟩,⟨1,.p .mov,[.v 10],none,false⟩,⟨2,.p .lenS,[.t 0],none,false⟩,⟨3,.p (.bin .lss),[.t 2,.t 0],none,false⟩]
noncomputable def zw6:List SOp:=[⟨0,.r (.load true 4),[.v 5],none,false⟩,⟨1,.p .mov,[.v 10],none,false⟩,⟨2,.p .mov,[.v 11],none,false⟩,⟨3,.p (.idxAddrS 1),[.t 1,.t 0],none,false⟩,⟨4,.r (.load false 1),[.t 0],none,false⟩,⟨5,.call 22,[.t 4,.t 0],none,false⟩,⟨6,.p .mov,[.t 0],none,false⟩]
noncomputable def zw5:List SOp:=[⟨0,.p .mov,[.v 12],none,false⟩,⟨1,.p .lenS,[.t 0],none,false⟩,⟨2,.p (.bin .gtr),[.t 0,.c (.int .i64 0)],none,false⟩,⟨3,.p .mov,[.t 0],none,false⟩,⟨4,.p .mov,[.v 12],some (0,true),false⟩,⟨5,.p (.idxAddrS 1),[.t 0,.c (.int .i64 0)],some (1,true),false⟩,⟨6,.r (.load false 1),[.t 0],some (2,true),false⟩,⟨7,.p .mov,[.v 9],some (3,true),false⟩,⟨8,.p (.bin .leq),[.t 1,.t 0],some (4,true),false⟩,⟨9,.p .pick,[.t 5,.t 0,.c (.bool false)],none,false⟩]
noncomputable def zw4:List SOp:=[⟨0,.p .mov,[.c (.bool false)],none,false⟩]
noncomputable def zw3:List SOp:=[⟨0,.p .mov,[.v 11],none,false⟩,⟨1,.p (.bin .add),[.t 0,.c (.int .i64 1)],none,false⟩,⟨2,.p .mov,[.t 0],none,false⟩]
noncomputable def c8_l23:CCode:=(.seq (.rcond zw7 [] 0 .skip (.exit 2)) (.seq (.block 3 (.seq (.reg zw6 [(12,0)]) (.rcond zw5 [] 0 (.seq (.reg zw4 [(3,0)]) .ret) .skip))) (.reg zw3 [(11,0)])))
noncomputable def zw2:List SOp:=[⟨0,.p .mov,[.v 4],none,false⟩,⟨1,.p .mov,[.t 0],none,false⟩]
noncomputable def c8:CFn:={ nargs:=3,vars:=[0,1,2,6,7,8,9,10,11,12,13,14,15],results:=[.var 3],body:=(.seq (.reg c8_r0 [(3,0)]) (.seq (.reg c8_r1 [(4,0)]) (.seq (.reg c8_r2 [(5,1)]) (.seq (.reg c8_r3 [(6,0)]) (.seq (.reg c8_r4 [(7,0)]) (.seq (.rcond c8_r5 [] 0 (.seq (.reg c8_r6 [(3,0)]) .ret) .skip) (.seq (.seq (.reg c8_r7 [(8,0)]) (.block 0 (.loop c8_l12))) (.seq (.rcond zx2 [] 0 (.seq (.reg zx1 [(3,0)]) .ret) .skip) (.seq (.reg zx0 [(9,0)]) (.seq (.reg zw9 [(10,0)]) (.seq (.seq (.reg zw8 [(11,0)]) (.block 2 (.loop c8_l23))) (.seq (.reg zw2 [(3,0)]) .ret)))))))))))) }
set_option maxRecDepth 100000 in
theorem ok8:FnOk Tryz.prog 8 c8:=zj (na:=c8.nargs) (vars:=c8.vars) (by kernel_rfl)
end Go.Eng.Sy
namespace Go.Eng.Sy
open Go Go.Eng Go.Proofs
theorem yp3 {p:Prg}(ho:OkQ p){a ix:Nat}{v:Int}{x:Tsk}{hl:List Int}(hx:p.tasks[ix]? = some x) (hax:x.hart=a) (hlt:Vx p a v hl < x.prio){l b:Int}(hl' : l ∈ ki p x.body) (hb:b ∈ hl) (hin:0≤b∧b < p.ress.length):¬ l≤b:=by
 intro hle
 have hxm:=List.mem_of_getElem? hx
 have h1:=Vw p a hl v b hb hin.1 hin.2
 have h2:=zw1 (a:=a) (k:=b.toNat) hxm hl' hax.symm (by omega) (by omega)
 omega
set_option maxHeartbeats 2000000 in
theorem Order_c {h:Heap}{v:Value}{raw:List Int}(hv:Ints h v raw) (hin:∀ z ∈ raw,inI z){z1 z2:Int}(j1:inI z1) (j2:inI z2) (Q:Value→Heap→Prop) (hq:∀ h',Q (.bool true) h'):CallW Tryz.prog 8 [v,.int .i64 z1,.int .i64 z2] h Q:=by
 replace hv:=Hid.mk hv
 refine zk (k:=3) ok8 rfl rfl rfl fun N=>?_
 rw [show ym c8 [v,.int .i64 z1,.int .i64 z2]=[v,.int .i64 z1,.int .i64 z2,undef,undef,undef,undef,undef,undef,undef,undef,undef,undef] from rfl]
 delta c8 c8_r0 c8_r1 c8_r2 c8_r3 c8_r4 c8_r5 c8_r6 c8_r7 c8_r8 c8_r9 zx4 zx3 zx2 zx1 zx0 zw9 zw8 zw7 zw6 zw5 zw4 zw3 zw2
 replace hq:=Hid.mk hq
 repeat' (first|simp -implicitDefEqProofs only [ze,aR,aW,zf,zg,Int.reduceBEq,Int.reduceBNe,Nat.reduceBEq,Int.reduceLT,Int.reduceLE, *]|with_reducible (first|apply kcd|apply kgd|apply kci|apply kgi)<;>intro hc)
 refine U9 _ _ ?_
 repeat' (first|simp -implicitDefEqProofs only [ze,aR,aW,zf,zg,Int.reduceBEq,Int.reduceBNe,Nat.reduceBEq,Int.reduceLT,Int.reduceLE, *]|with_reducible (first|apply kcd|apply kgd|apply kci|apply kgi)<;>intro hc)
 refine yg2 hv.h hin false _ fun h1 d r t xs l1 hm=>?_
 obtain ⟨iD,iR,iT⟩:=hm.isS
 obtain ⟨ho,b3,b4,b5⟩:=Vu raw
 generalize vv raw false=p at *
 have st:=st_PA h1 p.harts iD iR iT
 have gq:=Heap.get_alloc_same h1 (.blk [.int .i64 p.harts,d,r,t] true)
 have lh2:=(Heap.le.refl h1).alloc (.blk [.int .i64 p.harts,d,r,t] true)
 obtain ⟨q,eq⟩:∃ x_,h1.next=x_:=⟨_,rfl⟩
 obtain ⟨h2,eh2⟩:∃ x_,h1.alloc (.blk [.int .i64 p.harts,d,r,t] true)=x_:=⟨_,rfl⟩
 rw [eh2] at gq lh2
 rw [eq] at gq
 rw [eh2,eq] at st
 have hp2:=(hm.le lh2).prc
 have lr:qf [r]=some (.int .i64 p.ress.length):=by
  have:=SlV.len (hm.le lh2).hr.plain
  rw [List.length_map] at this;exact this
 have r5:=qz j1 (n:=p.harts) (by omega)
 obtain ⟨a,ha⟩:∃ k:Nat,pick z1 p.harts=(k:Int):=⟨(pick z1 p.harts).toNat,by omega⟩
 have haH:(a:Int) < p.harts:=by omega
 have hnz:p.harts≠0:=by omega
 obtain ⟨H,hH⟩:∃ H:Nat,p.harts=(H:Int):=⟨p.harts.toNat,by omega⟩
 have eH:p.harts.toNat=H:=by omega
 have aH:a < H:=by omega
 have n100:=ho.rl
 obtain ⟨n,hn⟩:∃ n,p.ress.length=n:=⟨_,rfl⟩
 rw [hn] at lr n100
 rw [hH] at gq eh2 st
 clear hm
 replace l1:=Hid.mk l1;replace hp2:=Hid.mk hp2;replace ho:=Hid.mk ho;replace lh2:=Hid.mk lh2;replace ha:=Hid.mk ha;replace hnz:=Hid.mk hnz;replace r5:=Hid.mk r5;replace hn:=Hid.mk hn;replace eH:=Hid.mk eH
 repeat' (first|simp -implicitDefEqProofs only [ze,aR,aW,zf,zg,Int.reduceBEq,Int.reduceBNe,Nat.reduceBEq,Int.reduceLT,Int.reduceLE, *]|with_reducible (first|apply kcd|apply kgd|apply kci|apply kgi)<;>intro hc)
 rw [← hH]
 refine kq _ _ hnz.h _ _ ?_
 rw [ha.h,hH]
 repeat' (first|simp -implicitDefEqProofs only [ze,aR,aW,zf,zg,Int.reduceBEq,Int.reduceBNe,Nat.reduceBEq,Int.reduceLT,Int.reduceLE,zw, *]|with_reducible (first|apply kcd|apply kgd|apply kci|apply kgi)<;>intro hc)
 rw [← hH]
 refine Vc hp2.h ho.h _ fun h3 cv n0 m0 id0 ids l3 hm=>?_
 rw [eH.h,hn.h] at hm
 have lnc:qf [cv]=some (.int .i64 H):=by rw [hm.val];rfl
 obtain ⟨c1,c2,c3,c4⟩:=hm.at aH
 have gq3:=l3.get gq
 have eHH:((H:Int) != (H:Int))=false:=by simp
 have enn:((n:Int) != (n:Int))=false:=by simp
 have hp3:=hp2.h.mono l3
 replace hH:=Hid.mk hH
 replace l3:=Hid.mk l3;replace hm:=Hid.mk hm;replace hp3:=Hid.mk hp3
 repeat' (first|simp -implicitDefEqProofs only [ze,aR,aW,zf,zg,Int.reduceBEq,Int.reduceBNe,Nat.reduceBEq,Int.reduceLT,Int.reduceLE, *]|with_reducible (first|apply kcd|apply kgd|apply kci|apply kgi)<;>intro hc)
 refine LoopW.upto n (fun i en hh=>en=[v,.int .i64 z1,.int .i64 z2,.bool false,.bool true,ptr q,.int .i64 a,cv,.int .i64 (i + 1:Nat),undef,undef,undef,undef]∧hh=h3) ?_ (Nat.zero_le _) ⟨rfl,rfl⟩
 rintro i _ hE R hi ⟨rfl,hE2⟩ hR
 replace hE2:=hE2.symm
 subst hE2
 delta c8_l12 c8_r0 c8_r1 c8_r2 c8_r3 c8_r4 c8_r5 c8_r6 c8_r7 c8_r8 c8_r9 zx4 zx3 zx2 zx1 zx0 zw9 zw8 zw7 zw6 zw5 zw4 zw3 zw2
 by_cases hlt:i + 1 < n
 case pos =>
  have hlt' : ((i + 1:Nat):Int) < n:=by omega
  have hw:IntKind.i64.wrap (((i + 1:Nat):Int) + 1)=((i + 1 + 1:Nat):Int):=by rw [zt (by omega) (by omega)];rfl
  have hw2:IntKind.i64.wrap (((i + 1:Nat):Int) - 1)=(i:Int):=by rw [zt (by omega) (by omega)];omega
  obtain ⟨x1,x2,x3⟩:=hm.h.cell aH hlt
  obtain ⟨y1,_,y3⟩:=hm.h.cell aH (k:=i) (by omega)
  have hmono:=yw1 p p.tasks a i (i + 1) (by omega) (by rw [hn.h];exact hlt)
  have nlt:¬ ju p p.tasks a (i + 1) < ju p p.tasks a i:=by omega
  have g:=hR.h [v,.int .i64 z1,.int .i64 z2,.bool false,.bool true,ptr q,.int .i64 a,cv,.int .i64 (i + 1 + 1:Nat),undef,undef,undef,undef] h3 (by omega) ⟨rfl,rfl⟩
  clear hR hq hmono
  replace g:=Hid.mk g
  repeat' (first|simp -implicitDefEqProofs only [ze,aR,aW,zf,zg,Int.reduceBEq,Int.reduceBNe,Nat.reduceBEq,Int.reduceLT,Int.reduceLE, *]|with_reducible (first|apply kcd|apply kgd|apply kci|apply kgi)<;>intro hc)
  exact g.h
 case neg =>
  have hlt' : ¬ ((i + 1:Nat):Int) < n:=by omega
  clear hR
  by_cases hn0:n=0
  ·have en0:((n:Int) == 0)=true:=by rw [hn0];rfl
   have g:=hq.h h3
   replace hn0:=Hid.mk hn0
   replace g:=Hid.mk g
   repeat' (first|simp -implicitDefEqProofs only [ze,aR,aW,zf,zg,Int.reduceBEq,Int.reduceBNe,Nat.reduceBEq,Int.reduceLT,Int.reduceLE, *]|with_reducible (first|apply kcd|apply kgd|apply kci|apply kgi)<;>intro hc)
   exact g.h
  ·have en0:((n:Int) == 0)=false:=by simp only [beq_eq_false_iff_ne];omega
   replace hn0:=Hid.mk hn0
   repeat' (first|simp -implicitDefEqProofs only [ze,aR,aW,zf,zg,Int.reduceBEq,Int.reduceBNe,Nat.reduceBEq,Int.reduceLT,Int.reduceLE, *]|with_reducible (first|apply kcd|apply kgd|apply kci|apply kgi)<;>intro hc)
   refine kq _ _ (by have:=hn0.h;omega) _ _ ?_
   have r6:=qz j2 (n:=(n:Int)) (by have:=hn0.h;omega)
   obtain ⟨k,hk⟩:∃ z,pick z2 n=z:=⟨_,rfl⟩
   rw [hk] at r6
   rw [hk]
   have bs1:=qu3 k
   have i4:=Zh h3 [k] (n:=1) (cells:=[.int .i64 k]) rfl rfl
   have gq4:=Heap.get_alloc_same h3 (.blk [.int .i64 k] true)
   have lh4:=(Heap.le.refl h3).alloc (.blk [.int .i64 k] true)
   obtain ⟨q4,eq4⟩:∃ x_,h3.next=x_:=⟨_,rfl⟩
   obtain ⟨h4,eh4⟩:∃ x_,h3.alloc (.blk [.int .i64 k] true)=x_:=⟨_,rfl⟩
   rw [eh4] at gq4 lh4
   rw [eq4] at gq4
   rw [eh4,eq4] at i4
   have gq4':=lh4.get gq3
   have hp4:=hp3.h.mono lh4
   rw [hH.h] at hp4
   replace i4:=Hid.mk i4;replace lh4:=Hid.mk lh4;replace hp4:=Hid.mk hp4;replace hk:=Hid.mk hk;replace r6:=Hid.mk r6
   repeat' (first|simp -implicitDefEqProofs only [ze,aR,aW,zf,zg,Int.reduceBEq,Int.reduceBNe,Nat.reduceBEq,Int.reduceLT,Int.reduceLE,zw, *]|with_reducible (first|apply kcd|apply kgd|apply kci|apply kgi)<;>intro hc)
   refine Ky (x:=[.int .i64 H,d,r,t]) hp4.h ho.h haH 0 i4.h (by simp) _ fun h5 l5=>zg9 l5.ext ?_
   obtain ⟨lev,hlev⟩:∃ z,Vx p a 0 [k]=z:=⟨_,rfl⟩
   rw [hlev]
   have gq5:=l5.get gq4'
   have hp5:=hp4.h.mono l5
   replace l5:=Hid.mk l5;replace hlev:=Hid.mk hlev;replace hp5:=Hid.mk hp5
   repeat' (first|simp -implicitDefEqProofs only [ze,aR,aW,zf,zg,Int.reduceBEq,Int.reduceBNe,Nat.reduceBEq,Int.reduceLT,Int.reduceLE,zw, *]|with_reducible (first|apply kcd|apply kgd|apply kci|apply kgi)<;>intro hc)
   refine Zu (x:=[.int .i64 H,d,r,t]) hp5.h ho.h a lev _ fun h6 sv l6 hsv=>?_
   obtain ⟨sl,hsl⟩:∃ l,xd p a lev=l:=⟨_,rfl⟩
   have hs6:sl.length≤6:=by rw [← hsl];have:=Za p a lev;omega
   rw [hsl] at hsv
   have lns:qf [sv]=some (.int .i64 sl.length):=by have:=SlV.len hsv;rwa [List.length_map] at this
   have gq6:=l6.get gq5
   have hp6:=hp5.h.mono l6
   replace l6:=Hid.mk l6;replace hsv:=Hid.mk hsv;replace hsl:=Hid.mk hsl;replace hp6:=Hid.mk hp6
   repeat' (first|simp -implicitDefEqProofs only [ze,aR,aW,zf,zg,Int.reduceBEq,Int.reduceBNe,Nat.reduceBEq,Int.reduceLT,Int.reduceLE, *]|with_reducible (first|apply kcd|apply kgd|apply kci|apply kgi)<;>intro hc)
   refine LoopW.upto sl.length (fun j en hh=>∃ x12,en=[v,.int .i64 z1,.int .i64 z2,.bool false,.bool true,ptr q,.int .i64 a,cv,.int .i64 (i + 1:Nat),.int .i64 k,sv,.int .i64 j,x12]∧h6.le hh) ?_ (Nat.zero_le _) ⟨_,rfl,Heap.le.refl _⟩
   rintro j _ h7 R hj ⟨x12,rfl,l7⟩ hR
   delta c8_l23 c8_r0 c8_r1 c8_r2 c8_r3 c8_r4 c8_r5 c8_r6 c8_r7 c8_r8 c8_r9 zx4 zx3 zx2 zx1 zx0 zw9 zw8 zw7 zw6 zw5 zw4 zw3 zw2
   have gq7:=l7.get gq6
   by_cases hlj:j < sl.length
   case neg =>
    have hlj' : ¬ (j:Int) < sl.length:=by omega
    have g:=hq.h h7
    clear hR
    replace g:=Hid.mk g;replace l7:=Hid.mk l7
    repeat' (first|simp -implicitDefEqProofs only [ze,aR,aW,zf,zg,Int.reduceBEq,Int.reduceBNe,Nat.reduceBEq,Int.reduceLT,Int.reduceLE, *]|with_reducible (first|apply kcd|apply kgd|apply kci|apply kgi)<;>intro hc)
    exact g.h
   case pos =>
    have hlj' : (j:Int) < sl.length:=by omega
    have hwj:IntKind.i64.wrap ((j:Int) + 1)=((j + 1:Nat):Int):=by rw [zt (by omega) (by omega)];rfl
    obtain ⟨z,hz⟩:∃ z,sl[j]? = some z:=⟨_,List.getElem?_eq_getElem hlj⟩
    obtain ⟨ix,x,hx,rfl,hxh,hxa,hxl⟩:=Ja (p:=p) (a:=a) (v:=lev) (z:=z) (by rw [hsl.h];exact List.mem_of_getElem? hz)
    obtain ⟨idz,offz,cz,oz,y1,y2,y3⟩:=jc (SlV.mono l7 hsv.h) hz
    have hp7:=hp6.h.mono l7
    replace l7:=Hid.mk l7;replace hz:=Hid.mk hz;replace hx:=Hid.mk hx;replace hxh:=Hid.mk hxh;replace hxa:=Hid.mk hxa;replace hxl:=Hid.mk hxl;replace hp7:=Hid.mk hp7
    repeat' (first|simp -implicitDefEqProofs only [ze,aR,aW,zf,zg,Int.reduceBEq,Int.reduceBNe,Nat.reduceBEq,Int.reduceLT,Int.reduceLE,zw, *]|with_reducible (first|apply kcd|apply kgd|apply kci|apply kgi)<;>intro hc)
    refine zs5 (x:=[.int .i64 H,d,r,t]) hp7.h ho.h hx.h _ fun h8 lv l8 hlv=>?_
    obtain ⟨ll,hll2⟩:∃ l,locL p x=l:=⟨_,rfl⟩
    have hlaw:∀ z ∈ ll,¬ z≤k:=fun z hz=>yp3 (v:=0) (hl:=[k]) ho.h hx.h hxa.h (by rw [hlev.h];exact hxl.h) (Vv (by rw [hll2];exact hz)) (by simp) (by rw [hn.h];exact r6.h)
    rw [hll2] at hlv
    have lnl:qf [lv]=some (.int .i64 ll.length):=by have:=SlV.len hlv;rwa [List.length_map] at this
    have g:=fun b=>hR.h [v,.int .i64 z1,.int .i64 z2,.bool false,.bool true,ptr q,.int .i64 a,cv,.int .i64 (i + 1:Nat),.int .i64 k,sv,.int .i64 (j + 1:Nat),b] h8 hlj ⟨b,rfl,l7.h.trans l8⟩
    clear hR hq
    cases ll with
    | nil =>
     have z0:¬ (0:Int) < (([]:List Int).length:Int):=by decide
     replace g:=Hid.mk g;replace l8:=Hid.mk l8;replace hlv:=Hid.mk hlv;replace hlaw:=Hid.mk hlaw;replace hll2:=Hid.mk hll2
     repeat' (first|simp -implicitDefEqProofs only [ze,aR,aW,zf,zg,Int.reduceBEq,Int.reduceBNe,Nat.reduceBEq,Int.reduceLT,Int.reduceLE, *]|with_reducible (first|apply kcd|apply kgd|apply kci|apply kgi)<;>intro hc)
     exact g.h _
    | cons y rest =>
     have z0:(0:Int) < ((y::rest).length:Int):=by simp only [List.length_cons];omega
     obtain ⟨idy,offy,cy,oy,w1,w2,w3⟩:=jc hlv (i:=0) (z:=y) rfl
     rw [show ((0:Nat):Int)=0 from rfl] at w1
     have nle:¬ y≤k:=hlaw y (by simp)
     replace g:=Hid.mk g;replace l8:=Hid.mk l8;replace hlv:=Hid.mk hlv;replace hlaw:=Hid.mk hlaw;replace hll2:=Hid.mk hll2
     repeat' (first|simp -implicitDefEqProofs only [ze,aR,aW,zf,zg,Int.reduceBEq,Int.reduceBNe,Nat.reduceBEq,Int.reduceLT,Int.reduceLE, *]|with_reducible (first|apply kcd|apply kgd|apply kci|apply kgi)<;>intro hc)
     exact g.h _
end Go.Eng.Sy
