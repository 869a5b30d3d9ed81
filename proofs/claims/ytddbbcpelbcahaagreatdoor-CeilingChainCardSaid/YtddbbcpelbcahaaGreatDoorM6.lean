/-
  Part of a proof of the laws of layer 09 (ceiling): the laws.
  Conditions: none.
-/
import Derived.Test.YtddbbcpelbcahaaGreatDoorEc
import Derived.Test.YtddbbcpelbcahaaGreatDoorProg
import Derived.KernelRfl
import Derived.Test.YtddbbcpelbcahaaGreatDoorBx
set_option linter.unusedSimpArgs false
set_option linter.unusedVariables false
namespace Go.Eng.Sy
open Go Go.Eng Go.Proofs
noncomputable def c6_r0:List SOp:=[⟨0,.p .mov,[.c (.bool false)],none,false⟩]
noncomputable def c6_r1:List SOp:=[⟨0,.call 9,[],none,false⟩,⟨1,.p .mov,[.t 0],none,false⟩]
noncomputable def c6_r2:List SOp:=[⟨0,.p .mov,[.v 0],none,false⟩,⟨1,.call 11,[.t 0,.c (.bool false)],none,false⟩,⟨2,.a (.new [.int .i64 0,.slice none 0 0,.slice none 0 0,.slice none 0 0]),[],none,false⟩,⟨3,.w (.store 4),[.t 0,.t 1],none,false⟩]
noncomputable def c6_r3:List SOp:=[⟨0,.p .mov,[.v 1],none,false⟩,⟨1,.p (.fieldAddr 0),[.v 5],none,false⟩,⟨2,.r (.load false 1),[.t 0],none,false⟩,⟨3,.call 15,[.t 2,.t 0],none,false⟩,⟨4,.p .mov,[.t 0],none,false⟩]
noncomputable def c6_r4:List SOp:=[⟨0,.p .mov,[.c (.int .i64 0)],none,false⟩]
noncomputable def c6_r5:List SOp:=[⟨0,.p .mov,[.c (.int .i64 0)],none,false⟩]
noncomputable def c6_r6:List SOp:=[⟨0,.p .mov,[.c (.int .i64 0)],none,false⟩]
noncomputable def c6_r7:List SOp:=[⟨0,.p .mov,[.v 9],none,false⟩,⟨1,.p (.fieldAddr 3),[.v 5],none,false⟩,⟨2,.r (.load false 1),[.t 0],none,false⟩,⟨3,.p .lenS,[.t 0],none,false⟩,⟨4,.p (.bin .lss),[.t 3,.t 0],none,false⟩]
noncomputable def c6_r8:List SOp:=[⟨0,.p (.fieldAddr 3),[.v 5],none,false⟩,⟨1,.r (.load false 1),[.t 0],none,false⟩,⟨2,.p .mov,[.v 9],none,false⟩,⟨3,.p (.idxAddrS 6),[.t 1,.t 0],none,false⟩,⟨4,.p (.fieldAddr 2),[.t 0],none,false⟩,⟨5,.r (.load false 1),[.t 0],none,false⟩,⟨6,.p .mov,[.v 6],none,false⟩,⟨7,.p (.bin .eql),[.t 1,.t 0],none,false⟩,⟨8,.p .mov,[.t 0],none,false⟩,⟨9,.p (.fieldAddr 3),[.v 5],some (0,true),false⟩,⟨10,.r (.load false 1),[.t 0],some (1,true),false⟩,⟨11,.p .mov,[.v 9],some (2,true),false⟩,⟨12,.p (.idxAddrS 6),[.t 1,.t 0],some (3,true),false⟩,⟨13,.p (.fieldAddr 1),[.t 0],some (4,true),false⟩,⟨14,.r (.load false 1),[.t 0],some (5,true),false⟩,⟨15,.p (.un .not),[.t 0],some (6,true),false⟩,⟨16,.p .pick,[.t 7,.t 0,.c (.bool false)],none,false⟩]
noncomputable def c6_r9:List SOp:=[⟨0,.p (.fieldAddr 3),[.v 5],none,false⟩,⟨1,.r (.load false 1),[.t 0],none,false⟩,⟨2,.p .mov,[.v 9],none,false⟩,⟨3,.p (.idxAddrS 6),[.t 1,.t 0],none,false⟩,⟨4,.p (.fieldAddr 3),[.t 0],none,false⟩,⟨5,.r (.load false 1),[.t 0],none,false⟩,⟨6,.p .mov,[.t 0],none,false⟩]
noncomputable def zz4:List SOp:=[⟨0,.p .mov,[.c (.int .i64 1)],none,false⟩]
noncomputable def zz3:List SOp:=[⟨0,.p .mov,[.v 9],none,false⟩,⟨1,.p (.bin .add),[.t 0,.c (.int .i64 1)],none,false⟩,⟨2,.p .mov,[.t 0],none,false⟩]
noncomputable def c6_l12:CCode:=(.seq (.rcond c6_r7 [] 0 .skip (.exit 0)) (.seq (.block 1 (.rcond c6_r8 [] 0 (.seq (.reg c6_r9 [(7,0)]) (.reg zz4 [(8,0)])) .skip)) (.reg zz3 [(9,0)])))
noncomputable def zz2:List SOp:=[⟨0,.p .mov,[.c (.int .i64 0)],none,false⟩]
noncomputable def zz1:List SOp:=[⟨0,.p .mov,[.v 10],none,false⟩,⟨1,.p (.bin .lss),[.t 0,.c (.int .i64 10)],none,false⟩]
noncomputable def zz0:List SOp:=[⟨0,.r (.load true 4),[.v 5],none,false⟩,⟨1,.p .mov,[.v 6],none,false⟩,⟨2,.p .mov,[.v 7],none,false⟩,⟨3,.call 18,[.t 2,.t 1,.t 0],none,false⟩,⟨4,.p .mov,[.t 0],none,false⟩]
noncomputable def zy9:List SOp:=[⟨0,.p .mov,[.v 11],none,false⟩,⟨1,.p .lenS,[.t 0],none,false⟩,⟨2,.p (.bin .eql),[.t 0,.c (.int .i64 0)],none,false⟩]
noncomputable def zy8:List SOp:=[⟨0,.p .mov,[.v 11],none,false⟩,⟨1,.p .lenS,[.t 0],none,false⟩,⟨2,.p (.bin .sub),[.t 0,.c (.int .i64 1)],none,false⟩,⟨3,.p .mov,[.t 0],none,false⟩]
noncomputable def zy7:List SOp:=[⟨0,.p .mov,[.v 10],none,false⟩,⟨1,.p .mov,[.v 2],none,false⟩,⟨2,.p .lenS,[.t 0],none,false⟩,⟨3,.p (.bin .lss),[.t 2,.t 0],none,false⟩]
noncomputable def zy6:List SOp:=[⟨0,.p .mov,[.v 2],none,false⟩,⟨1,.p .mov,[.v 10],none,false⟩,⟨2,.p (.idxAddrS 1),[.t 1,.t 0],none,false⟩,⟨3,.r (.load false 1),[.t 0],none,false⟩,⟨4,.p .mov,[.v 11],none,false⟩,⟨5,.p .lenS,[.t 0],none,false⟩,⟨6,.call 15,[.t 2,.t 0],none,false⟩,⟨7,.p .mov,[.t 0],none,false⟩]
noncomputable def zy5:List SOp:=[⟨0,.p (.fieldAddr 3),[.v 5],none,false⟩,⟨1,.r (.load false 1),[.t 0],none,false⟩,⟨2,.p .mov,[.v 11],none,false⟩,⟨3,.p .mov,[.v 12],none,false⟩,⟨4,.p (.idxAddrS 1),[.t 1,.t 0],none,false⟩,⟨5,.r (.load false 1),[.t 0],none,false⟩,⟨6,.p (.idxAddrS 6),[.t 4,.t 0],none,false⟩,⟨7,.p (.fieldAddr 3),[.t 0],none,false⟩,⟨8,.r (.load false 1),[.t 0],none,false⟩,⟨9,.p .mov,[.t 0],none,false⟩]
noncomputable def zy4:List SOp:=[⟨0,.p .mov,[.v 8],none,false⟩,⟨1,.p (.bin .add),[.t 0,.c (.int .i64 1)],none,false⟩,⟨2,.p .mov,[.t 0],none,false⟩]
noncomputable def zy3:List SOp:=[⟨0,.p .mov,[.v 10],none,false⟩,⟨1,.p (.bin .add),[.t 0,.c (.int .i64 1)],none,false⟩,⟨2,.p .mov,[.t 0],none,false⟩]
noncomputable def c6_l23:CCode:=(.seq (.rcond zz1 [] 0 .skip (.exit 2)) (.seq (.block 3 (.seq (.reg zz0 [(11,0)]) (.seq (.rcond zy9 [] 0 (.exit 2) .skip) (.seq (.reg zy8 [(12,0)]) (.seq (.rcond zy7 [] 0 (.reg zy6 [(12,0)]) .skip) (.seq (.reg zy5 [(7,0)]) (.reg zy4 [(8,0)]))))))) (.reg zy3 [(10,0)])))
noncomputable def zy2:List SOp:=[⟨0,.p .mov,[.v 4],none,false⟩,⟨1,.p .mov,[.t 0],none,false⟩,⟨2,.p .mov,[.v 8],some (0,true),false⟩,⟨3,.r (.load true 4),[.v 5],some (1,true),false⟩,⟨4,.p .mov,[.v 6],some (2,true),false⟩,⟨5,.call 20,[.t 1,.t 0],some (3,true),false⟩,⟨6,.p (.bin .leq),[.t 3,.t 0],some (4,true),false⟩,⟨7,.p .pick,[.t 5,.t 0,.c (.bool false)],none,false⟩,⟨8,.p .mov,[.t 0],none,false⟩,⟨9,.r (.load true 4),[.v 5],some (0,true),false⟩,⟨10,.p (.fieldAddr 0),[.v 5],some (1,true),false⟩,⟨11,.r (.load false 1),[.t 0],some (2,true),false⟩,⟨12,.call 20,[.t 2,.t 0],some (3,true),false⟩,⟨13,.p (.bin .eql),[.t 0,.c (.int .i64 0)],some (4,true),false⟩,⟨14,.p .pick,[.t 5,.t 0,.c (.bool false)],none,false⟩,⟨15,.p .mov,[.t 0],none,false⟩,⟨16,.r (.load true 4),[.v 5],some (0,true),false⟩,⟨17,.call 20,[.t 0,.c (.int .i64 (-1))],some (1,true),false⟩,⟨18,.p (.bin .eql),[.t 0,.c (.int .i64 0)],some (2,true),false⟩,⟨19,.p .pick,[.t 3,.t 0,.c (.bool false)],none,false⟩,⟨20,.p .mov,[.t 0],none,false⟩]
noncomputable def c6:CFn:={ nargs:=3,vars:=[0,1,2,6,7,8,9,10,11,12,13,14,15],results:=[.var 3],body:=(.seq (.reg c6_r0 [(3,0)]) (.seq (.reg c6_r1 [(4,0)]) (.seq (.reg c6_r2 [(5,1)]) (.seq (.reg c6_r3 [(6,0)]) (.seq (.reg c6_r4 [(7,0)]) (.seq (.reg c6_r5 [(8,0)]) (.seq (.seq (.reg c6_r6 [(9,0)]) (.block 0 (.loop c6_l12))) (.seq (.seq (.reg zz2 [(10,0)]) (.block 2 (.loop c6_l23))) (.seq (.reg zy2 [(3,0)]) .ret))))))))) }
set_option maxRecDepth 100000 in
theorem ok6:FnOk Tryz.prog 6 c6:=zj (na:=c6.nargs) (vars:=c6.vars) (by kernel_rfl)
end Go.Eng.Sy
namespace Go.Eng.Sy
open Go Go.Eng Go.Proofs
theorem Qq:∀ {S T:List Int},S.Nodup→(∀ z ∈ S,z ∈ T)→S.length≤T.length
 | [],T,_,_=>Nat.zero_le _
 | x::S,T,hn,hs=>by
  rw [List.nodup_cons] at hn
  have hx:=hs x (by simp)
  have:=Qq (S:=S) (T:=T.erase x) hn.2 fun z hz=>(List.mem_erase_of_ne (fun e=>hn.1 (by rw [← e];exact hz))).2 (hs z (by simp [hz]))
  rw [List.length_erase_of_mem hx] at this
  have h0:0 < T.length:=List.length_pos_of_mem hx
  simp only [List.length_cons];omega
theorem chS_keep {a:Int}{s:Nat × List Int}{t:Tsk}{z:Int}(h:z ∈ s.2):z ∈ (chS a s t).2:=by
 unfold chS
 split
 ·exact h
 ·split
  ·dsimp only;split
   ·exact h
   ·simp [h]
  ·exact h
theorem zw0 {a z:Int}:∀ (ts:List Tsk) (s:Nat × List Int),z ∈ s.2→z ∈ (ts.foldl (chS a) s).2
 | [],s,h=>h
 | t::r,s,h=>zw0 r _ (chS_keep h)
theorem yw0 {a:Int}:∀ (ts:List Tsk) (s:Nat × List Int) (t:Tsk),t ∈ ts→t.hart=a→t.handler=true→t.prio ∈ (ts.foldl (chS a) s).2
 | [],s,t,h,_,_=>by simp at h
 | x::r,s,t,h,ha,hh=>by
  rcases List.mem_cons.1 h with rfl | h
  ·refine zw0 r _ ?_
   unfold chS
   rw [if_neg (by simpa using ha),if_pos hh]
   dsimp only
   split
   ·rename_i hc;exact List.contains_iff_mem.1 hc
   ·simp
  ·exact yw0 r _ t h ha hh
theorem Zq {a:Int}:∀ (ts:List Tsk) (s:Nat × List Int),(∀ t ∈ ts,t.hart≠a)→ts.foldl (chS a) s=s
 | [],s,_=>rfl
 | x::r,s,h=>by
  rw [List.foldl_cons,show chS a s x=s by unfold chS;rw [if_pos (h x (by simp))]]
  exact Zq r s fun t ht=>h t (by simp [ht])
set_option maxHeartbeats 2000000 in
theorem yl9 {h:Heap}{v v2:Value}{raw pks:List Int}(hv:Ints h v raw) (hin:∀ z ∈ raw,inI z) (hv2:Ints h v2 pks) (hin2:∀ z ∈ pks,inI z){z1:Int}(j1:inI z1) (Q:Value→Heap→Prop) (hq:∀ h',Q (.bool true) h'):CallW Tryz.prog 6 [v,.int .i64 z1,v2] h Q:=by
 have lnp:qf [v2]=some (.int .i64 pks.length):=by have:=SlV.len hv2;rwa [List.length_map] at this
 replace hv:=Hid.mk hv;replace hv2:=Hid.mk hv2
 refine zk (k:=3) ok6 rfl rfl rfl fun N=>?_
 rw [show ym c6 [v,.int .i64 z1,v2]=[v,.int .i64 z1,v2,undef,undef,undef,undef,undef,undef,undef,undef,undef,undef] from rfl]
 delta c6 c6_r0 c6_r1 c6_r2 c6_r3 c6_r4 c6_r5 c6_r6 c6_r7 c6_r8 c6_r9 zz4 zz3 zz2 zz1 zz0 zy9 zy8 zy7 zy6 zy5 zy4 zy3 zy2
 replace hq:=Hid.mk hq
 repeat' (first|simp -implicitDefEqProofs only [ze,aR,aW,zf,zg,Int.reduceBEq,Int.reduceBNe,Nat.reduceBEq,Int.reduceLT,Int.reduceLE, *]|with_reducible (first|apply kcd|apply kgd|apply kci|apply kgi)<;>intro hc)
 refine U9 _ _ ?_
 repeat' (first|simp -implicitDefEqProofs only [ze,aR,aW,zf,zg,Int.reduceBEq,Int.reduceBNe,Nat.reduceBEq,Int.reduceLT,Int.reduceLE, *]|with_reducible (first|apply kcd|apply kgd|apply kci|apply kgi)<;>intro hc)
 refine yg2 hv.h hin false _ fun h1 d r t xs l1 hm=>?_
 obtain ⟨iD,iR,iT⟩:=hm.isS
 obtain ⟨ho,b3,b4,b5⟩:=Vu raw
 generalize vv raw false=p at *
 have st:=st_PA h1 p.harts iD iR iT
 have gq:=Heap.get_alloc_same h1 (.blk [.int .i64 p.harts,d,r,t] true)
 have lh2:=(Heap.le.refl h1).alloc (.blk [.int .i64 p.harts,d,r,t] true)
 obtain ⟨q,eq⟩:∃ x_,h1.next=x_:=⟨_,rfl⟩
 obtain ⟨h2,eh2⟩:∃ x_,h1.alloc (.blk [.int .i64 p.harts,d,r,t] true)=x_:=⟨_,rfl⟩
 rw [eh2] at gq lh2
 rw [eq] at gq
 rw [eh2,eq] at st
 have hm2:=hm.le lh2
 have hp2:=hm2.prc
 obtain ⟨_,_,_,hpe,_,_,ht2⟩:=hm2.prc
 have hte:TssV h2 t p.tasks:=by
  injection hpe with _ hpe;injection hpe with _ hpe;injection hpe with _ hpe;injection hpe with e _
  rw [e];exact ht2
 have lt:=hte.len
 have r5:=qz j1 (n:=p.harts) (by omega)
 obtain ⟨a,ha⟩:∃ k:Nat,pick z1 p.harts=(k:Int):=⟨(pick z1 p.harts).toNat,by omega⟩
 have haH:(a:Int) < p.harts:=by omega
 have hnz:p.harts≠0:=by omega
 have hpk2:Ints h2 v2 pks:=SlV.mono (l1.trans lh2) hv2.h
 clear hm ht2 hpe
 replace l1:=Hid.mk l1;replace hp2:=Hid.mk hp2;replace ho:=Hid.mk ho;replace lh2:=Hid.mk lh2;replace ha:=Hid.mk ha;replace hnz:=Hid.mk hnz;replace r5:=Hid.mk r5;replace hm2:=Hid.mk hm2;replace hte:=Hid.mk hte;replace hpk2:=Hid.mk hpk2
 repeat' (first|simp -implicitDefEqProofs only [ze,aR,aW,zf,zg,Int.reduceBEq,Int.reduceBNe,Nat.reduceBEq,Int.reduceLT,Int.reduceLE, *]|with_reducible (first|apply kcd|apply kgd|apply kci|apply kgi)<;>intro hc)
 refine kq _ _ hnz.h _ _ ?_
 rw [ha.h]
 repeat' (first|simp -implicitDefEqProofs only [ze,aR,aW,zf,zg,Int.reduceBEq,Int.reduceBNe,Nat.reduceBEq,Int.reduceLT,Int.reduceLE, *]|with_reducible (first|apply kcd|apply kgd|apply kci|apply kgi)<;>intro hc)
 refine LoopW.upto p.tasks.length (fun i en hh=>∃ lev nn:Int,en=[v,.int .i64 z1,v2,.bool false,.bool true,ptr q,.int .i64 a,.int .i64 lev,.int .i64 nn,.int .i64 i,undef,undef,undef]∧hh=h2∧0≤nn∧nn≤(chL a (p.tasks.take i)).1∧0≤lev∧lev≤7) ?_ (Nat.zero_le _) ⟨0,0,rfl,rfl,by omega,by simp [chL],by omega,by omega⟩
 rintro i _ hE R hi ⟨lev,nn,rfl,hE2,hn0,hn1,hl0,hl7⟩ hR
 replace hE2:=hE2.symm
 subst hE2
 delta c6_l12 c6_r0 c6_r1 c6_r2 c6_r3 c6_r4 c6_r5 c6_r6 c6_r7 c6_r8 c6_r9 zz4 zz3 zz2 zz1 zz0 zy9 zy8 zy7 zy6 zy5 zy4 zy3 zy2
 by_cases hlt:i < p.tasks.length
 case pos =>
  have hlt' : (i:Int) < p.tasks.length:=by omega
  have hw:IntKind.i64.wrap ((i:Int) + 1)=((i + 1:Nat):Int):=by rw [zt (by omega) (by omega)];rfl
  obtain ⟨tk,htk⟩:∃ t,p.tasks[i]? = some t:=⟨_,List.getElem?_eq_getElem hlt⟩
  have ct:=zv9 (a:=a) htk
  obtain ⟨id,off,cells,own,u,e1,e2,e3,hb,e4⟩:=hte.h.elem0 htk
  have c1:cells[off + 1]? = some (.bool tk.handler):=e4 1 (by omega)
  have c2:cells[off + 2]? = some (.int .i64 tk.hart):=e4 2 (by omega)
  have c3:cells[off + 3]? = some (.int .i64 tk.prio):=e4 3 (by omega)
  have hpr:=ho.h.prio tk (List.mem_of_getElem? htk)
  obtain ⟨cc,hcc⟩:∃ c,chL a (p.tasks.take i)=c:=⟨_,rfl⟩
  rw [hcc] at ct hn1
  have fin:∀ lv n' : Int,0≤n' → n' ≤ (chL a (p.tasks.take (i + 1))).1→0≤lv→lv≤7→R [v,.int .i64 z1,v2,.bool false,.bool true,ptr q,.int .i64 a,.int .i64 lv,.int .i64 n',.int .i64 (i + 1:Nat),undef,undef,undef] h2:=fun lv n' x1 x2 x3 x4=>hR.h _ h2 hlt ⟨lv,n',rfl,rfl,x1,x2,x3,x4⟩
  clear hR e4 hb
  have cge:cc.1≤(chS a cc tk).1:=by
   unfold chS;split
   ·exact Nat.le_refl _
   ·split
    ·exact Nat.le_refl _
    ·exact Nat.le_succ _
  by_cases hh:tk.hart=(a:Int)
  ·have eh:(tk.hart == (a:Int))=true:=by simpa using hh
   cases hb:tk.handler with
   | true =>
    rw [hb] at c1
    have g:=fin lev nn hn0 (by rw [ct];omega) hl0 hl7
    clear fin
    replace g:=Hid.mk g;replace ct:=Hid.mk ct;replace htk:=Hid.mk htk;replace hcc:=Hid.mk hcc;replace hh:=Hid.mk hh;replace hb:=Hid.mk hb;replace hn1:=Hid.mk hn1;replace cge:=Hid.mk cge
    repeat' (first|simp -implicitDefEqProofs only [ze,aR,aW,zf,zg,Int.reduceBEq,Int.reduceBNe,Nat.reduceBEq,Int.reduceLT,Int.reduceLE, *]|with_reducible (first|apply kcd|apply kgd|apply kci|apply kgi)<;>intro hc)
    exact g.h
   | false =>
    rw [hb] at c1
    have ec:chS a cc tk=(cc.1 + 1,cc.2):=by unfold chS;rw [if_neg (by simpa using hh),if_neg (by rw [hb];decide)]
    have g:=fin tk.prio 1 (by omega) (by rw [ct,ec];show (1:Int)≤(cc.1 + 1:Nat);omega) hpr.1 hpr.2
    clear fin
    replace g:=Hid.mk g;replace ct:=Hid.mk ct;replace htk:=Hid.mk htk;replace hcc:=Hid.mk hcc;replace hh:=Hid.mk hh;replace hb:=Hid.mk hb;replace hn1:=Hid.mk hn1;replace cge:=Hid.mk cge;replace ec:=Hid.mk ec
    repeat' (first|simp -implicitDefEqProofs only [ze,aR,aW,zf,zg,Int.reduceBEq,Int.reduceBNe,Nat.reduceBEq,Int.reduceLT,Int.reduceLE, *]|with_reducible (first|apply kcd|apply kgd|apply kci|apply kgi)<;>intro hc)
    exact g.h
  ·have eh:(tk.hart == (a:Int))=false:=by simpa using hh
   have g:=fin lev nn hn0 (by rw [ct];omega) hl0 hl7
   clear fin
   replace g:=Hid.mk g;replace ct:=Hid.mk ct;replace htk:=Hid.mk htk;replace hcc:=Hid.mk hcc;replace hh:=Hid.mk hh;replace hn1:=Hid.mk hn1;replace cge:=Hid.mk cge
   repeat' (first|simp -implicitDefEqProofs only [ze,aR,aW,zf,zg,Int.reduceBEq,Int.reduceBNe,Nat.reduceBEq,Int.reduceLT,Int.reduceLE, *]|with_reducible (first|apply kcd|apply kgd|apply kci|apply kgi)<;>intro hc)
   exact g.h
 case neg =>
  have hlt' : ¬ (i:Int) < p.tasks.length:=by omega
  rw [List.take_of_length_le (by omega)] at hn1
  clear hR
  obtain ⟨cc,hcc⟩:∃ c,chL a p.tasks=c:=⟨_,rfl⟩
  rw [hcc] at hn1
  have hcl:=zj9 a p.tasks (0,[])
  have hcl2:cc.1 + cc.2.length≤6:=by rw [← hcc];unfold chL;simp at hcl;omega
  replace hn1:=Hid.mk hn1;replace hcc:=Hid.mk hcc;replace hcl:=Hid.mk hcl;replace hn0:=Hid.mk hn0;replace hl0:=Hid.mk hl0;replace hl7:=Hid.mk hl7
  repeat' (first|simp -implicitDefEqProofs only [ze,aR,aW,zf,zg,Int.reduceBEq,Int.reduceBNe,Nat.reduceBEq,Int.reduceLT,Int.reduceLE, *]|with_reducible (first|apply kcd|apply kgd|apply kci|apply kgi)<;>intro hc)
  refine LoopW.upto 10 (fun j en hh=>∃ (lv:Int) (S:List Int) (x11 x12:Value),en=[v,.int .i64 z1,v2,.bool false,.bool true,ptr q,.int .i64 a,.int .i64 lv,.int .i64 (nn + S.length),.int .i64 i,.int .i64 j,x11,x12]∧h2.le hh∧S.Nodup∧(∀ z ∈ S,z ∈ cc.2∧z≤lv)∧0≤lv∧lv≤7) ?_ (Nat.zero_le _) ⟨lev,[],undef,undef,by simp,Heap.le.refl _,List.nodup_nil,by simp,hl0.h,hl7.h⟩
  rintro j _ h9 R hj ⟨lv,S,x11,x12,rfl,l9,hSn,hSz,hv0,hv7⟩ hR
  delta c6_l23 c6_r0 c6_r1 c6_r2 c6_r3 c6_r4 c6_r5 c6_r6 c6_r7 c6_r8 c6_r9 zz4 zz3 zz2 zz1 zz0 zy9 zy8 zy7 zy6 zy5 zy4 zy3 zy2
  have gq9:=l9.get gq
  have hsl6:S.length≤6:=by have:=Qq hSn (fun z hz=>(hSz z hz).1);omega
  by_cases hj10:j < 10
  case neg =>
   have hj10' : ¬ (j:Int) < 10:=by omega
   clear hR
   replace l9:=Hid.mk l9;replace hSn:=Hid.mk hSn;replace hSz:=Hid.mk hSz;replace hv0:=Hid.mk hv0;replace hv7:=Hid.mk hv7;replace hsl6:=Hid.mk hsl6
   have hle9:nn + (S.length:Int)≤((cc.1 + cc.2.length:Nat):Int):=by
    have h1:=Qq hSn.h (fun z hz=>(hSz.h z hz).1)
    have h2:=hn1.h
    omega
   have gqE:=l9.h.get gq
   have hpE:=hp2.h.mono l9.h
   replace hpE:=Hid.mk hpE
   repeat' (first|simp -implicitDefEqProofs only [ze,aR,aW,zf,zg,Int.reduceBEq,Int.reduceBNe,Nat.reduceBEq,Int.reduceLT,Int.reduceLE,zw, *]|with_reducible (first|apply kcd|apply kgd|apply kci|apply kgi)<;>intro hc)
   refine Y1 hpE.h ho.h a _ fun hA lA=>?_
   rw [hcc.h]
   have gqA:=lA.get gqE
   have hpA:=hpE.h.mono lA
   replace lA:=Hid.mk lA;replace hpA:=Hid.mk hpA
   repeat' (first|simp -implicitDefEqProofs only [ze,aR,aW,zf,zg,Int.reduceBEq,Int.reduceBNe,Nat.reduceBEq,Int.reduceLT,Int.reduceLE,zw, *]|with_reducible (first|apply kcd|apply kgd|apply kci|apply kgi)<;>intro hc)
   refine Y1 hpA.h ho.h p.harts _ fun hB lB=>?_
   rw [show (((chL p.harts p.tasks).1 + (chL p.harts p.tasks).2.length:Nat):Int)=0 by rw [show chL p.harts p.tasks=(0,[]) from Zq _ _ fun t ht=>by have:=(ho.h.hart t ht).2;omega];rfl]
   have gqB:=lB.get gqA
   have hpB:=hpA.h.mono lB
   replace lB:=Hid.mk lB;replace hpB:=Hid.mk hpB
   repeat' (first|simp -implicitDefEqProofs only [ze,aR,aW,zf,zg,Int.reduceBEq,Int.reduceBNe,Nat.reduceBEq,Int.reduceLT,Int.reduceLE,zw, *]|with_reducible (first|apply kcd|apply kgd|apply kci|apply kgi)<;>intro hc)
   refine Y1 hpB.h ho.h (-1) _ fun hC lC=>?_
   rw [show (((chL (-1) p.tasks).1 + (chL (-1) p.tasks).2.length:Nat):Int)=0 by rw [show chL (-1) p.tasks=(0,[]) from Zq _ _ fun t ht=>by have:=(ho.h.hart t ht).1;omega];rfl]
   have g:=hq.h hC
   replace lC:=Hid.mk lC;replace g:=Hid.mk g
   repeat' (first|simp -implicitDefEqProofs only [ze,aR,aW,zf,zg,Int.reduceBEq,Int.reduceBNe,Nat.reduceBEq,Int.reduceLT,Int.reduceLE, *]|with_reducible (first|apply kcd|apply kgd|apply kci|apply kgi)<;>intro hc)
   exact g.h
  case pos =>
   have hj10' : (j:Int) < 10:=by omega
   have hwj:IntKind.i64.wrap ((j:Int) + 1)=((j + 1:Nat):Int):=by rw [zt (by omega) (by omega)];rfl
   have hwn:IntKind.i64.wrap (nn + (S.length:Int) + 1)=nn + ((S.length + 1:Nat):Int):=by
    have h2:=hn1.h
    have h3:=hn0.h
    rw [zt (by omega) (by omega)];omega
   have hp9:=hp2.h.mono l9
   replace l9:=Hid.mk l9;replace hSn:=Hid.mk hSn;replace hSz:=Hid.mk hSz;replace hv0:=Hid.mk hv0;replace hv7:=Hid.mk hv7;replace hsl6:=Hid.mk hsl6;replace hp9:=Hid.mk hp9
   repeat' (first|simp -implicitDefEqProofs only [ze,aR,aW,zf,zg,Int.reduceBEq,Int.reduceBNe,Nat.reduceBEq,Int.reduceLT,Int.reduceLE,zw, *]|with_reducible (first|apply kcd|apply kgd|apply kci|apply kgi)<;>intro hc)
   refine Zu hp9.h ho.h a lv _ fun h10 sv l10 hsv=>?_
   obtain ⟨sl,hsl⟩:∃ l,xd p a lv=l:=⟨_,rfl⟩
   have hs6:sl.length≤6:=by rw [← hsl];have:=Za p a lv;omega
   rw [hsl] at hsv
   have lns:qf [sv]=some (.int .i64 sl.length):=by have:=SlV.len hsv;rwa [List.length_map] at this
   have l210:=l9.h.trans l10
   have gq10:=l210.get gq
   by_cases hs0:sl.length=0
   case pos =>
    have e0:((sl.length:Int) == 0)=true:=by rw [hs0];rfl
    clear hR
    replace l9:=Hid.mk l210
    replace hs0:=Hid.mk hs0
    replace l10:=Hid.mk l10;replace hsv:=Hid.mk hsv;replace hsl:=Hid.mk hsl;replace l210:=Hid.mk l210
    have hle9:nn + (S.length:Int)≤((cc.1 + cc.2.length:Nat):Int):=by
     have h1:=Qq hSn.h (fun z hz=>(hSz.h z hz).1)
     have h2:=hn1.h
     omega
    have gqE:=l9.h.get gq
    have hpE:=hp2.h.mono l9.h
    replace hpE:=Hid.mk hpE
    repeat' (first|simp -implicitDefEqProofs only [ze,aR,aW,zf,zg,Int.reduceBEq,Int.reduceBNe,Nat.reduceBEq,Int.reduceLT,Int.reduceLE,zw, *]|with_reducible (first|apply kcd|apply kgd|apply kci|apply kgi)<;>intro hc)
    refine Y1 hpE.h ho.h a _ fun hA lA=>?_
    rw [hcc.h]
    have gqA:=lA.get gqE
    have hpA:=hpE.h.mono lA
    replace lA:=Hid.mk lA;replace hpA:=Hid.mk hpA
    repeat' (first|simp -implicitDefEqProofs only [ze,aR,aW,zf,zg,Int.reduceBEq,Int.reduceBNe,Nat.reduceBEq,Int.reduceLT,Int.reduceLE,zw, *]|with_reducible (first|apply kcd|apply kgd|apply kci|apply kgi)<;>intro hc)
    refine Y1 hpA.h ho.h p.harts _ fun hB lB=>?_
    rw [show (((chL p.harts p.tasks).1 + (chL p.harts p.tasks).2.length:Nat):Int)=0 by rw [show chL p.harts p.tasks=(0,[]) from Zq _ _ fun t ht=>by have:=(ho.h.hart t ht).2;omega];rfl]
    have gqB:=lB.get gqA
    have hpB:=hpA.h.mono lB
    replace lB:=Hid.mk lB;replace hpB:=Hid.mk hpB
    repeat' (first|simp -implicitDefEqProofs only [ze,aR,aW,zf,zg,Int.reduceBEq,Int.reduceBNe,Nat.reduceBEq,Int.reduceLT,Int.reduceLE,zw, *]|with_reducible (first|apply kcd|apply kgd|apply kci|apply kgi)<;>intro hc)
    refine Y1 hpB.h ho.h (-1) _ fun hC lC=>?_
    rw [show (((chL (-1) p.tasks).1 + (chL (-1) p.tasks).2.length:Nat):Int)=0 by rw [show chL (-1) p.tasks=(0,[]) from Zq _ _ fun t ht=>by have:=(ho.h.hart t ht).1;omega];rfl]
    have g:=hq.h hC
    replace lC:=Hid.mk lC;replace g:=Hid.mk g
    repeat' (first|simp -implicitDefEqProofs only [ze,aR,aW,zf,zg,Int.reduceBEq,Int.reduceBNe,Nat.reduceBEq,Int.reduceLT,Int.reduceLE, *]|with_reducible (first|apply kcd|apply kgd|apply kci|apply kgi)<;>intro hc)
    exact g.h
   case neg =>
    have e0:((sl.length:Int) == 0)=false:=by simp only [beq_eq_false_iff_ne];omega
    have hwk:IntKind.i64.wrap ((sl.length:Int) - 1)=((sl.length - 1:Nat):Int):=by rw [zt (by omega) (by omega)];omega
    have fin:∀ (k:Nat) (x12:Value),k < sl.length→(∀ (hN:Heap) (z:Int),z ∈ sl→True)→True:=fun _ _ _ _=>trivial
    clear fin hq
    have pk10:Ints h10 v2 pks:=SlV.mono l210 hpk2.h
    have hte10:=hte.h.mono l210
    have nxt:∀ (k:Nat),k < sl.length → ∃ (ix:Nat) (x:Tsk) (idz offz:Nat) (cz:List Value) (oz:Bool) (idx offx:Nat) (cx:List Value) (ox:Bool),zp 1 [sv,.int .i64 (k:Int)]=some (.pointer (some ⟨idz,offz,none⟩))∧h10.get idz=some (.blk cz oz)∧cz[offz]? = some (.int .i64 (ix:Int)) ∧
      zp 6 [t,.int .i64 (ix:Int)]=some (.pointer (some ⟨idx,offx,none⟩))∧h10.get idx=some (.blk cx ox)∧cx[offx + 3]? = some (.int .i64 x.prio) ∧
      (S++[x.prio]).Nodup∧(∀ z ∈ S++[x.prio],z ∈ cc.2∧z≤x.prio)∧0≤x.prio∧x.prio≤7:=fun k hk=>by
     obtain ⟨z,hz⟩:∃ z,sl[k]? = some z:=⟨_,List.getElem?_eq_getElem hk⟩
     obtain ⟨ix,x,hx,rfl,hxh,hxa,hxl⟩:=Ja (p:=p) (a:=a) (v:=lv) (z:=z) (by rw [hsl];exact List.mem_of_getElem? hz)
     obtain ⟨idz,offz,cz,oz,y1,y2,y3⟩:=jc hsv hz
     obtain ⟨idx,offx,cx,ox,u,e1,e2,e3,_,e4⟩:=hte10.elem0 hx
     have hxm:=List.mem_of_getElem? hx
     refine ⟨ix,x,idz,offz,cz,oz,idx,offx,cx,ox,y1,y2,y3,e1,e2,e4 3 (by omega),?_,fun z hz=>?_,(ho.h.prio x hxm).1,(ho.h.prio x hxm).2⟩
     ·rw [List.nodup_append]
      refine ⟨hSn.h,by simp,fun y hy z hz e=>?_⟩
      rw [List.mem_singleton.1 hz] at e
      have:=(hSz.h y hy).2
      omega
     ·rcases List.mem_append.1 hz with hz | hz
      ·have:=hSz.h z hz
       exact ⟨this.1,by omega⟩
      ·rw [List.mem_singleton.1 hz]
       refine ⟨?_,Int.le_refl _⟩
       rw [← hcc.h]
       exact yw0 p.tasks (0,[]) x hxm hxa hxh
    have kend:=nxt (sl.length - 1) (by omega)
    by_cases hjp:j < pks.length
    case neg =>
     have hjp' : ¬ (j:Int) < pks.length:=by omega
     obtain ⟨ix,x,idz,offz,cz,oz,idx,offx,cx,ox,y1,y2,y3,e1,e2,e3,s1,s2,s3,s4⟩:=kend
     have g:=fun b=>hR.h [v,.int .i64 z1,v2,.bool false,.bool true,ptr q,.int .i64 a,.int .i64 x.prio,.int .i64 (nn + ((S.length + 1:Nat):Int)),.int .i64 i,.int .i64 (j + 1:Nat),sv,b] h10 hj10 ⟨x.prio,S++[x.prio],sv,b,by simp,l210,s1,s2,s3,s4⟩
     clear hR nxt
     replace g:=Hid.mk g;replace l10:=Hid.mk l10;replace hsv:=Hid.mk hsv;replace hsl:=Hid.mk hsl;replace l210:=Hid.mk l210;replace hs0:=Hid.mk hs0;replace pk10:=Hid.mk pk10;replace hte10:=Hid.mk hte10;replace s1:=Hid.mk s1;replace s2:=Hid.mk s2;replace s3:=Hid.mk s3;replace s4:=Hid.mk s4
     repeat' (first|simp -implicitDefEqProofs only [ze,aR,aW,zf,zg,Int.reduceBEq,Int.reduceBNe,Nat.reduceBEq,Int.reduceLT,Int.reduceLE, *]|with_reducible (first|apply kcd|apply kgd|apply kci|apply kgi)<;>intro hc)
     exact g.h _
    case pos =>
     have hjp' : (j:Int) < pks.length:=by omega
     obtain ⟨pz,hpz⟩:∃ z,pks[j]? = some z:=⟨_,List.getElem?_eq_getElem hjp⟩
     obtain ⟨idp,offp,cp,op,w1,w2,w3⟩:=jc pk10 hpz
     have r7:=qz (hin2 pz (List.mem_of_getElem? hpz)) (n:=(sl.length:Int)) (by omega)
     obtain ⟨k,hk⟩:∃ k:Nat,pick pz sl.length=(k:Int):=⟨(pick pz sl.length).toNat,by omega⟩
     obtain ⟨ix,x,idz,offz,cz,oz,idx,offx,cx,ox,y1,y2,y3,e1,e2,e3,s1,s2,s3,s4⟩:=nxt k (by omega)
     have g:=fun b=>hR.h [v,.int .i64 z1,v2,.bool false,.bool true,ptr q,.int .i64 a,.int .i64 x.prio,.int .i64 (nn + ((S.length + 1:Nat):Int)),.int .i64 i,.int .i64 (j + 1:Nat),sv,b] h10 hj10 ⟨x.prio,S++[x.prio],sv,b,by simp,l210,s1,s2,s3,s4⟩
     have hs0' : (sl.length:Int)≠0:=by omega
     clear hR nxt kend
     replace g:=Hid.mk g;replace l10:=Hid.mk l10;replace hsv:=Hid.mk hsv;replace hsl:=Hid.mk hsl;replace l210:=Hid.mk l210;replace hs0:=Hid.mk hs0;replace pk10:=Hid.mk pk10;replace hte10:=Hid.mk hte10;replace s1:=Hid.mk s1;replace s2:=Hid.mk s2;replace s3:=Hid.mk s3;replace s4:=Hid.mk s4;replace r7:=Hid.mk r7;replace hk:=Hid.mk hk;replace hpz:=Hid.mk hpz;replace hs0':=Hid.mk hs0'
     repeat' (first|simp -implicitDefEqProofs only [ze,aR,aW,zf,zg,Int.reduceBEq,Int.reduceBNe,Nat.reduceBEq,Int.reduceLT,Int.reduceLE, *]|with_reducible (first|apply kcd|apply kgd|apply kci|apply kgi)<;>intro hc)
     refine kq _ _ hs0'.h _ _ ?_
     rw [hk.h]
     repeat' (first|simp -implicitDefEqProofs only [ze,aR,aW,zf,zg,Int.reduceBEq,Int.reduceBNe,Nat.reduceBEq,Int.reduceLT,Int.reduceLE, *]|with_reducible (first|apply kcd|apply kgd|apply kci|apply kgi)<;>intro hc)
     exact g.h _
end Go.Eng.Sy
