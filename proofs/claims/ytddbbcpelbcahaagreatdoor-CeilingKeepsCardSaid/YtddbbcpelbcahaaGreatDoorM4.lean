/-
  Part of a proof of the laws of layer 09 (ceiling): the laws.
  Conditions: none.
-/
import Derived.Test.YtddbbcpelbcahaaGreatDoorEc
import Derived.Test.YtddbbcpelbcahaaGreatDoorProg
import Derived.KernelRfl
import Derived.Test.YtddbbcpelbcahaaGreatDoorBx
set_option linter.unusedSimpArgs false
set_option linter.unusedVariables false
namespace Go.Eng.Sy
open Go Go.Eng Go.Proofs
noncomputable def yk7:List SOp:=[⟨0,.p .mov,[.c (.bool false)],none,false⟩]
noncomputable def yk6:List SOp:=[⟨0,.call 9,[],none,false⟩,⟨1,.p .mov,[.t 0],none,false⟩]
noncomputable def yk5:List SOp:=[⟨0,.p .mov,[.v 0],none,false⟩,⟨1,.call 11,[.t 0,.c (.bool false)],none,false⟩,⟨2,.a (.new [.int .i64 0,.slice none 0 0,.slice none 0 0,.slice none 0 0]),[],none,false⟩,⟨3,.w (.store 4),[.t 0,.t 1],none,false⟩]
noncomputable def yk4:List SOp:=[⟨0,.p .mov,[.v 1],none,false⟩,⟨1,.p (.fieldAddr 3),[.v 5],none,false⟩,⟨2,.r (.load false 1),[.t 0],none,false⟩,⟨3,.p .lenS,[.t 0],none,false⟩,⟨4,.call 15,[.t 3,.t 0],none,false⟩,⟨5,.p .mov,[.t 0],none,false⟩]
noncomputable def yk3:List SOp:=[⟨0,.p (.fieldAddr 3),[.v 5],none,false⟩,⟨1,.r (.load false 1),[.t 0],none,false⟩,⟨2,.p .mov,[.v 6],none,false⟩,⟨3,.p (.idxAddrS 6),[.t 1,.t 0],none,false⟩,⟨4,.r (.load true 6),[.t 0],none,false⟩,⟨5,.a (.new [.string ⟨#[]⟩,.bool false,.int .i64 0,.int .i64 0,.int .i64 0,.slice none 0 0]),[],none,false⟩,⟨6,.w (.store 6),[.t 0,.t 1],none,false⟩]
noncomputable def yk2:List SOp:=[⟨0,.r (.load true 4),[.v 5],none,false⟩,⟨1,.p .mov,[.v 6],none,false⟩,⟨2,.call 22,[.t 1,.t 0],none,false⟩,⟨3,.p .mov,[.t 0],none,false⟩]
noncomputable def yk1:List SOp:=[⟨0,.p .mov,[.c (.slice none 0 0)],none,false⟩]
noncomputable def yk0:List SOp:=[⟨0,.p .mov,[.c (.int .i64 0)],none,false⟩]
noncomputable def yj9:List SOp:=[⟨0,.p .mov,[.v 10],none,false⟩,⟨1,.p .mov,[.v 8],none,false⟩,⟨2,.p .lenS,[.t 0],none,false⟩,⟨3,.p (.bin .lss),[.t 2,.t 0],none,false⟩]
noncomputable def yj8:List SOp:=[⟨0,.p .mov,[.v 2],none,false⟩,⟨1,.p .mov,[.v 10],none,false⟩,⟨2,.p (.bin .shr),[.t 1,.t 0],none,false⟩,⟨3,.p (.bin .and),[.t 0,.c (.int .i64 1)],none,false⟩,⟨4,.p (.bin .eql),[.t 0,.c (.int .i64 1)],none,false⟩]
noncomputable def Wj:List SOp:=[⟨0,.p .mov,[.v 9],none,false⟩,⟨1,.p .mov,[.v 8],none,false⟩,⟨2,.p .mov,[.v 10],none,false⟩,⟨3,.p (.idxAddrS 1),[.t 1,.t 0],none,false⟩,⟨4,.r (.load false 1),[.t 0],none,false⟩,⟨5,.a (.bslice [.int .i64 0] [(0,1)] 1 1),[.t 0],none,false⟩,⟨6,.w (.append 1 8),[.t 5,.t 0],none,false⟩,⟨7,.p .mov,[.t 0],none,false⟩]
noncomputable def Wi:List SOp:=[⟨0,.p .mov,[.v 10],none,false⟩,⟨1,.p (.bin .add),[.t 0,.c (.int .i64 1)],none,false⟩,⟨2,.p .mov,[.t 0],none,false⟩]
noncomputable def c4_l12:CCode:=(.seq (.rcond yj9 [] 0 .skip (.exit 0)) (.seq (.block 1 (.rcond yj8 [] 0 (.reg Wj [(9,0)]) .skip)) (.reg Wi [(10,0)])))
noncomputable def Wh:List SOp:=[⟨0,.r (.load true 4),[.v 5],none,false⟩,⟨1,.p (.fieldAddr 2),[.v 7],none,false⟩,⟨2,.r (.load false 1),[.t 0],none,false⟩,⟨3,.p (.fieldAddr 3),[.v 7],none,false⟩,⟨4,.r (.load false 1),[.t 0],none,false⟩,⟨5,.p .mov,[.v 9],none,false⟩,⟨6,.call 16,[.t 5,.t 3,.t 1,.t 0],none,false⟩,⟨7,.p .mov,[.t 0],none,false⟩]
noncomputable def Wg:List SOp:=[⟨0,.r (.load true 4),[.v 5],none,false⟩,⟨1,.p (.fieldAddr 2),[.v 7],none,false⟩,⟨2,.r (.load false 1),[.t 0],none,false⟩,⟨3,.p .mov,[.v 11],none,false⟩,⟨4,.call 18,[.t 3,.t 1,.t 0],none,false⟩,⟨5,.p .mov,[.t 0],none,false⟩]
noncomputable def Wf:List SOp:=[⟨0,.p .mov,[.c (.int .i64 0)],none,false⟩]
noncomputable def We:List SOp:=[⟨0,.p .mov,[.v 13],none,false⟩,⟨1,.p .mov,[.v 12],none,false⟩,⟨2,.p .lenS,[.t 0],none,false⟩,⟨3,.p (.bin .lss),[.t 2,.t 0],none,false⟩]
noncomputable def Wd:List SOp:=[⟨0,.p (.fieldAddr 3),[.v 5],none,false⟩,⟨1,.r (.load false 1),[.t 0],none,false⟩,⟨2,.p .mov,[.v 12],none,false⟩,⟨3,.p .mov,[.v 13],none,false⟩,⟨4,.p (.idxAddrS 1),[.t 1,.t 0],none,false⟩,⟨5,.r (.load false 1),[.t 0],none,false⟩,⟨6,.p (.idxAddrS 6),[.t 4,.t 0],none,false⟩,⟨7,.r (.load true 6),[.t 0],none,false⟩,⟨8,.a (.new [.string ⟨#[]⟩,.bool false,.int .i64 0,.int .i64 0,.int .i64 0,.slice none 0 0]),[],none,false⟩,⟨9,.w (.store 6),[.t 0,.t 1],none,false⟩]
noncomputable def Wc:List SOp:=[⟨0,.p (.fieldAddr 2),[.v 14],none,false⟩,⟨1,.r (.load false 1),[.t 0],none,false⟩,⟨2,.p (.fieldAddr 2),[.v 7],none,false⟩,⟨3,.r (.load false 1),[.t 0],none,false⟩,⟨4,.p (.bin .neq),[.t 2,.t 0],none,false⟩,⟨5,.p .mov,[.t 0],none,false⟩,⟨6,.p (.fieldAddr 1),[.v 14],some (0,false),false⟩,⟨7,.r (.load false 1),[.t 0],some (1,false),false⟩,⟨8,.p (.un .not),[.t 0],some (2,false),false⟩,⟨9,.p .pick,[.t 3,.c (.bool true),.t 0],none,false⟩,⟨10,.p .mov,[.t 0],none,false⟩,⟨11,.p (.fieldAddr 3),[.v 14],some (0,false),false⟩,⟨12,.r (.load false 1),[.t 0],some (1,false),false⟩,⟨13,.p (.fieldAddr 3),[.v 7],some (2,false),false⟩,⟨14,.r (.load false 1),[.t 0],some (3,false),false⟩,⟨15,.p (.bin .leq),[.t 2,.t 0],some (4,false),false⟩,⟨16,.p .pick,[.t 5,.c (.bool true),.t 0],none,false⟩,⟨17,.p .mov,[.t 0],none,false⟩,⟨18,.p .mov,[.v 12],some (0,false),false⟩,⟨19,.p .mov,[.v 13],some (1,false),false⟩,⟨20,.p (.idxAddrS 1),[.t 1,.t 0],some (2,false),false⟩,⟨21,.r (.load false 1),[.t 0],some (3,false),false⟩,⟨22,.p .mov,[.v 6],some (4,false),false⟩,⟨23,.p (.bin .eql),[.t 1,.t 0],some (5,false),false⟩,⟨24,.p .pick,[.t 6,.c (.bool true),.t 0],none,false⟩]
noncomputable def Wb:List SOp:=[⟨0,.p .mov,[.c (.bool false)],none,false⟩]
noncomputable def Wa:List SOp:=[⟨0,.r (.load true 4),[.v 5],none,false⟩,⟨1,.p .mov,[.v 12],none,false⟩,⟨2,.p .mov,[.v 13],none,false⟩,⟨3,.p (.idxAddrS 1),[.t 1,.t 0],none,false⟩,⟨4,.r (.load false 1),[.t 0],none,false⟩,⟨5,.call 22,[.t 4,.t 0],none,false⟩,⟨6,.p .mov,[.t 0],none,false⟩]
noncomputable def X9:List SOp:=[⟨0,.p .mov,[.c (.int .i64 0)],none,false⟩]
noncomputable def X8:List SOp:=[⟨0,.p .mov,[.v 16],none,false⟩,⟨1,.p .mov,[.v 15],none,false⟩,⟨2,.p .lenS,[.t 0],none,false⟩,⟨3,.p (.bin .lss),[.t 2,.t 0],none,false⟩]
noncomputable def X7:List SOp:=[⟨0,.p .mov,[.c (.int .i64 0)],none,false⟩]
noncomputable def X6:List SOp:=[⟨0,.p .mov,[.v 17],none,false⟩,⟨1,.p .mov,[.v 9],none,false⟩,⟨2,.p .lenS,[.t 0],none,false⟩,⟨3,.p (.bin .lss),[.t 2,.t 0],none,false⟩]
noncomputable def X5:List SOp:=[⟨0,.p .mov,[.v 15],none,false⟩,⟨1,.p .mov,[.v 16],none,false⟩,⟨2,.p (.idxAddrS 1),[.t 1,.t 0],none,false⟩,⟨3,.r (.load false 1),[.t 0],none,false⟩,⟨4,.p .mov,[.v 9],none,false⟩,⟨5,.p .mov,[.v 17],none,false⟩,⟨6,.p (.idxAddrS 1),[.t 1,.t 0],none,false⟩,⟨7,.r (.load false 1),[.t 0],none,false⟩,⟨8,.p (.bin .leq),[.t 4,.t 0],none,false⟩]
noncomputable def X4:List SOp:=[⟨0,.p .mov,[.c (.bool false)],none,false⟩]
noncomputable def X3:List SOp:=[⟨0,.p .mov,[.v 17],none,false⟩,⟨1,.p (.bin .add),[.t 0,.c (.int .i64 1)],none,false⟩,⟨2,.p .mov,[.t 0],none,false⟩]
noncomputable def c4_l28:CCode:=(.seq (.rcond X6 [] 0 .skip (.exit 6)) (.seq (.block 7 (.rcond X5 [] 0 (.seq (.reg X4 [(3,0)]) .ret) .skip)) (.reg X3 [(17,0)])))
noncomputable def X2:List SOp:=[⟨0,.p .mov,[.v 16],none,false⟩,⟨1,.p (.bin .add),[.t 0,.c (.int .i64 1)],none,false⟩,⟨2,.p .mov,[.t 0],none,false⟩]
noncomputable def c4_l30:CCode:=(.seq (.rcond X8 [] 0 .skip (.exit 4)) (.seq (.block 5 (.seq (.reg X7 [(17,0)]) (.block 6 (.loop c4_l28)))) (.reg X2 [(16,0)])))
noncomputable def X1:List SOp:=[⟨0,.p .mov,[.v 13],none,false⟩,⟨1,.p (.bin .add),[.t 0,.c (.int .i64 1)],none,false⟩,⟨2,.p .mov,[.t 0],none,false⟩]
noncomputable def c4_l32:CCode:=(.seq (.rcond We [] 0 .skip (.exit 2)) (.seq (.block 3 (.seq (.reg Wd [(14,1)]) (.seq (.rcond Wc [] 0 (.seq (.reg Wb [(3,0)]) .ret) .skip) (.seq (.reg Wa [(15,0)]) (.seq (.reg X9 [(16,0)]) (.block 4 (.loop c4_l30))))))) (.reg X1 [(13,0)])))
noncomputable def X0:List SOp:=[⟨0,.p .mov,[.v 4],none,false⟩,⟨1,.p .mov,[.t 0],none,false⟩,⟨2,.p .mov,[.v 11],some (0,true),false⟩,⟨3,.p (.fieldAddr 3),[.v 7],some (1,true),false⟩,⟨4,.r (.load false 1),[.t 0],some (2,true),false⟩,⟨5,.p (.bin .geq),[.t 2,.t 0],some (3,true),false⟩,⟨6,.p .pick,[.t 4,.t 0,.c (.bool false)],none,false⟩,⟨7,.p .mov,[.t 0],none,false⟩]
noncomputable def c4:CFn:={ nargs:=3,vars:=[0,1,2,6,7,8,9,10,11,12,13,14,15,16,17,18,19,20],results:=[.var 3],body:=(.seq (.reg yk7 [(3,0)]) (.seq (.reg yk6 [(4,0)]) (.seq (.reg yk5 [(5,1)]) (.seq (.reg yk4 [(6,0)]) (.seq (.reg yk3 [(7,1)]) (.seq (.reg yk2 [(8,0)]) (.seq (.reg yk1 [(9,0)]) (.seq (.seq (.reg yk0 [(10,0)]) (.block 0 (.loop c4_l12))) (.seq (.reg Wh [(11,0)]) (.seq (.reg Wg [(12,0)]) (.seq (.seq (.reg Wf [(13,0)]) (.block 2 (.loop c4_l32))) (.seq (.reg X0 [(3,0)]) .ret)))))))))))) }
set_option maxRecDepth 100000 in
theorem ok4:FnOk Tryz.prog 4 c4:=zj (na:=c4.nargs) (vars:=c4.vars) (by kernel_rfl)
end Go.Eng.Sy
namespace Go.Eng.Sy
open Go Go.Eng Go.Proofs
theorem ys2 {p:Prg}(ho:OkQ p){a ix:Nat}{t x:Tsk}{hl:List Int}(hx:p.tasks[ix]? = some x) (hax:x.hart=a) (hlt:Vx p a t.prio hl < x.prio){l b:Int}(hl' : l ∈ ki p x.body) (hb:b ∈ hl) (hin:0≤b∧b < p.ress.length):¬ l≤b:=by
 intro hle
 have hxm:=List.mem_of_getElem? hx
 have h1:=Vw p a hl t.prio b hb hin.1 hin.2
 have h2:=zw1 (a:=a) (k:=b.toNat) hxm hl' hax.symm (by omega) (by omega)
 omega
set_option maxHeartbeats 2000000 in
theorem Keeps_c {h:Heap}{v:Value}{raw:List Int}(hv:Ints h v raw) (hin:∀ z ∈ raw,inI z){z1 z2:Int}(j1:inI z1) (j2:inI z2) (Q:Value→Heap→Prop) (hq:∀ h',Q (.bool true) h'):CallW Tryz.prog 4 [v,.int .i64 z1,.int .i64 z2] h Q:=by
 replace hv:=Hid.mk hv
 refine zk (k:=3) ok4 rfl rfl rfl fun N=>?_
 rw [show ym c4 [v,.int .i64 z1,.int .i64 z2]=[v,.int .i64 z1,.int .i64 z2,undef,undef,undef,undef,undef,undef,undef,undef,undef,undef,undef,undef,undef,undef,undef] from rfl]
 delta c4 yk7 yk6 yk5 yk4 yk3 yk2 yk1 yk0 yj9 yj8 Wj Wi Wh Wg Wf We Wd Wc Wb Wa X9 X8 X7 X6 X5 X4 X3 X2 X1 X0
 replace hq:=Hid.mk hq
 repeat' (first|simp -implicitDefEqProofs only [ze,aR,aW,zf,zg,Int.reduceBEq,Int.reduceBNe,Nat.reduceBEq,Int.reduceLT,Int.reduceLE, *]|with_reducible (first|apply kcd|apply kgd|apply kci|apply kgi)<;>intro hc)
 refine U9 _ _ ?_
 repeat' (first|simp -implicitDefEqProofs only [ze,aR,aW,zf,zg,Int.reduceBEq,Int.reduceBNe,Nat.reduceBEq,Int.reduceLT,Int.reduceLE, *]|with_reducible (first|apply kcd|apply kgd|apply kci|apply kgi)<;>intro hc)
 refine yg2 hv.h hin false _ fun h1 d r t xs l1 hm=>?_
 obtain ⟨iD,iR,iT⟩:=hm.isS
 obtain ⟨ho,b3,b4,b5⟩:=Vu raw
 generalize vv raw false=p at *
 have st:=st_PA h1 p.harts iD iR iT
 obtain ⟨n,hn⟩:∃ n,h.next=n:=⟨_,rfl⟩
 rw [hn] at hm
 have gq:=Heap.get_alloc_same h1 (.blk [.int .i64 p.harts,d,r,t] true)
 have lh2:=(Heap.le.refl h1).alloc (.blk [.int .i64 p.harts,d,r,t] true)
 obtain ⟨q,eq⟩:∃ x_,h1.next=x_:=⟨_,rfl⟩
 obtain ⟨h2,eh2⟩:∃ x_,h1.alloc (.blk [.int .i64 p.harts,d,r,t] true)=x_:=⟨_,rfl⟩
 rw [eh2] at gq lh2
 rw [eq] at gq
 rw [eh2,eq] at st
 have hm2:=hm.le lh2
 have hp2:=hm2.prc
 have lt:qf [t]=some (.int .i64 p.tasks.length):=by
  have:=SlV.len hm2.ht.sl
  rw [hm2.hts.length] at this;exact this
 have r5:=qz j1 (n:=(p.tasks.length:Int)) (by omega)
 obtain ⟨k,hk⟩:∃ k:Nat,pick z1 (p.tasks.length:Int)=(k:Int):=⟨(pick z1 (p.tasks.length:Int)).toNat,by omega⟩
 have hkl:k < p.tasks.length:=by omega
 obtain ⟨tk,hkt⟩:∃ tk,p.tasks[k]? = some tk:=⟨_,List.getElem?_eq_getElem hkl⟩
 have hnz:(p.tasks.length:Int)≠0:=by omega
 obtain ⟨id,vb,hid,hidn,gid,e1,e2,hvb⟩:=hm2.at hkt
 have sz6:=st_T h2 tk.name tk.handler tk.hart tk.prio tk.line hvb.isS
 have htm:=List.mem_of_getElem? hkt
 obtain ⟨a,ha⟩:∃ a:Nat,tk.hart=(a:Int):=⟨tk.hart.toNat,by have:=ho.hart tk htm;omega⟩
 have haH:(a:Int) < p.harts:=by have:=ho.hart tk htm;omega
 rw [ha] at sz6 e2
 clear r5 hm
 replace l1:=Hid.mk l1;replace hm2:=Hid.mk hm2;replace hp2:=Hid.mk hp2;replace ho:=Hid.mk ho;replace lh2:=Hid.mk lh2;replace hk:=Hid.mk hk;replace hnz:=Hid.mk hnz;replace hid:=Hid.mk hid;replace hkt:=Hid.mk hkt;replace ha:=Hid.mk ha
 repeat' (first|simp -implicitDefEqProofs only [ze,aR,aW,zf,zg,Int.reduceBEq,Int.reduceBNe,Nat.reduceBEq,Int.reduceLT,Int.reduceLE, *]|with_reducible (first|apply kcd|apply kgd|apply kci|apply kgi)<;>intro hc)
 refine kq _ _ hnz.h _ _ ?_
 rw [hk.h]
 have gq2:=Heap.get_alloc_same h2 (.blk [str tk.name,.bool tk.handler,.int .i64 a,.int .i64 tk.prio,.int .i64 tk.line,vb] true)
 have lh3:=(Heap.le.refl h2).alloc (.blk [str tk.name,.bool tk.handler,.int .i64 a,.int .i64 tk.prio,.int .i64 tk.line,vb] true)
 obtain ⟨q2,eq2⟩:∃ x_,h2.next=x_:=⟨_,rfl⟩
 obtain ⟨h3,eh3⟩:∃ x_,h2.alloc (.blk [str tk.name,.bool tk.handler,.int .i64 a,.int .i64 tk.prio,.int .i64 tk.line,vb] true)=x_:=⟨_,rfl⟩
 rw [eh3] at gq2 lh3
 rw [eq2] at gq2
 rw [eh3,eq2] at sz6
 have gq3:=lh3.get gq
 have hp3:=hp2.h.mono lh3
 replace hvb:=Hid.mk hvb;replace lh3:=Hid.mk lh3;replace hp3:=Hid.mk hp3
 repeat' (first|simp -implicitDefEqProofs only [ze,aR,aW,zf,zg,Int.reduceBEq,Int.reduceBNe,Nat.reduceBEq,Int.reduceLT,Int.reduceLE,yj,zw, *]|with_reducible (first|apply kcd|apply kgd|apply kci|apply kgi)<;>intro hc)
 refine zs5 hp3.h ho.h hkt.h _ fun h4 vo l4 hvo=>?_
 obtain ⟨ol,hol⟩:∃ l,locL p tk=l:=⟨_,rfl⟩
 have hoin:∀ z ∈ ol,0≤z∧z < (p.ress.length:Int):=fun z hz=>by
  rw [← hol] at hz
  exact Jr tk.body [] (ho.h.ok tk htm) z (Vv hz)
 have hol2:ol.length≤10000:=by
  rw [← hol]
  have h1:=uu (srt (ki p tk.body))
  have h2:(srt (ki p tk.body)).length=(ki p tk.body).length:=List.length_mergeSort _
  have h3:=jq p tk.body
  have h4:=(ho.h.st tk htm).2
  unfold locL;omega
 rw [hol] at hvo
 have lno:qf [vo]=some (.int .i64 ol.length):=by have:=SlV.len hvo;rwa [List.length_map] at this
 have gq4:=l4.get gq3
 have gq24:=l4.get gq2
 have hp4:=hp3.h.mono l4
 replace l4:=Hid.mk l4;replace hvo:=Hid.mk hvo;replace hol:=Hid.mk hol;replace hoin:=Hid.mk hoin;replace hp4:=Hid.mk hp4
 repeat' (first|simp -implicitDefEqProofs only [ze,aR,aW,zf,zg,Int.reduceBEq,Int.reduceBNe,Nat.reduceBEq,Int.reduceLT,Int.reduceLE, *]|with_reducible (first|apply kcd|apply kgd|apply kci|apply kgi)<;>intro hc)
 refine LoopW.upto ol.length (fun i en hh=>∃ vh hl,en=[v,.int .i64 z1,.int .i64 z2,.bool false,.bool true,ptr q,.int .i64 k,ptr q2,vo,vh,.int .i64 i,undef,undef,undef,undef,undef,undef,undef]∧h4.le hh∧OwnS (yi h4.next) hh 1 vh (hl.map inR)∧(∀ z ∈ hl,z ∈ ol)∧hl.length≤i) ?_ (Nat.zero_le _) ⟨z8,[],rfl,Heap.le.refl _,OwnS.nil _ _ _,by simp,by simp⟩
 rintro i _ h5 R hi ⟨vh,hl,rfl,l5,hoh,hlo,hll⟩ hR
 delta c4_l12 yk7 yk6 yk5 yk4 yk3 yk2 yk1 yk0 yj9 yj8 Wj Wi Wh Wg Wf We Wd Wc Wb Wa X9 X8 X7 X6 X5 X4 X3 X2 X1 X0
 by_cases hlt:i < ol.length
 case pos =>
  have hlt' : (i:Int) < ol.length:=by omega
  have hw:IntKind.i64.wrap ((i:Int) + 1)=((i + 1:Nat):Int):=by rw [zt (by omega) (by omega)];rfl
  have i0:¬ (i:Int) < 0:=by omega
  obtain ⟨z,hz⟩:∃ z,ol[i]? = some z:=⟨_,List.getElem?_eq_getElem hlt⟩
  obtain ⟨idz,offz,cz,oz,y1,y2,y3⟩:=jc (SlV.mono l5 hvo.h) hz
  obtain ⟨v',h6,ap,ho6,le6,k6,n6,nx6⟩:=hoh.append1 (x:=[.int .i64 z]) (qt l5.next) rfl (by omega) (b:=8) (by rw [List.length_map];omega) (by rw [List.length_map];omega)
  have u:=qu3 z
  obtain ⟨sh,hsh⟩:∃ s,zg4 .shr .i64 z2 (i:Int)=some (.int .i64 s):=⟨_,by simp only [zg4];rw [if_neg i0]⟩
  have l6:h4.le h6:=⟨fun id o hg=>by
   have h1:=l5.get hg
   rw [k6 id (by rw [h1];rfl) (hoh.notOf (Heap.lt_of_get hg))];exact h1,Nat.le_trans l5.next nx6⟩
  have ga:=hR.h [v,.int .i64 z1,.int .i64 z2,.bool false,.bool true,ptr q,.int .i64 k,ptr q2,vo,v',.int .i64 (i + 1:Nat),undef,undef,undef,undef,undef,undef,undef] h6 hlt ⟨v',hl++[z],rfl,l6,by rw [List.map_append];exact ho6,fun y hy=>by
   rcases List.mem_append.1 hy with hy | hy
   ·exact hlo y hy
   ·rw [List.mem_singleton.1 hy];exact List.mem_of_getElem? hz,by simp;omega⟩
  have gb:=hR.h [v,.int .i64 z1,.int .i64 z2,.bool false,.bool true,ptr q,.int .i64 k,ptr q2,vo,vh,.int .i64 (i + 1:Nat),undef,undef,undef,undef,undef,undef,undef] h5 hlt ⟨vh,hl,rfl,l5,hoh,hlo,by omega⟩
  clear hR hq
  replace ga:=Hid.mk ga;replace gb:=Hid.mk gb;replace l5:=Hid.mk l5;replace hoh:=Hid.mk hoh;replace hlo:=Hid.mk hlo;replace hll:=Hid.mk hll;replace hz:=Hid.mk hz;replace ho6:=Hid.mk ho6;replace le6:=Hid.mk le6;replace k6:=Hid.mk k6;replace n6:=Hid.mk n6;replace l6:=Hid.mk l6
  repeat' (first|simp -implicitDefEqProofs only [ze,aR,aW,zf,zg,Int.reduceBEq,Int.reduceBNe,Nat.reduceBEq,Int.reduceLT,Int.reduceLE, *]|with_reducible (first|apply kcd|apply kgd|apply kci|apply kgi)<;>intro hc)
  ·exact ga.h
  ·exact gb.h
 case neg =>
  have hlt' : ¬ (i:Int) < ol.length:=by omega
  clear hR
  have gq5:=l5.get gq4
  have gq25:=l5.get gq24
  have hp5:=hp4.h.mono l5
  have hIh:=hoh.sl
  have lnh:qf [vh]=some (.int .i64 hl.length):=(OwnP.of hoh).len
  have hhl:hl.length≤10000:=by omega
  have hlin:∀ z ∈ hl,0≤z∧z < (p.ress.length:Int):=fun z hz=>hoin.h z (hlo z hz)
  replace l5:=Hid.mk l5;replace hoh:=Hid.mk hoh;replace hlo:=Hid.mk hlo;replace hll:=Hid.mk hll;replace hp5:=Hid.mk hp5;replace hIh:=Hid.mk hIh;replace hlin:=Hid.mk hlin
  repeat' (first|simp -implicitDefEqProofs only [ze,aR,aW,zf,zg,Int.reduceBEq,Int.reduceBNe,Nat.reduceBEq,Int.reduceLT,Int.reduceLE,yj,zw, *]|with_reducible (first|apply kcd|apply kgd|apply kci|apply kgi)<;>intro hc)
  refine Ky hp5.h ho.h haH tk.prio hIh.h (by omega) _ fun h6 l6=>?_
  obtain ⟨lev,hlev⟩:∃ z,Vx p a tk.prio hl=z:=⟨_,rfl⟩
  have hlv0:=Js p a hl tk.prio
  rw [hlev] at hlv0
  rw [hlev]
  have gq6:=l6.get gq5
  have gq26:=l6.get gq25
  have hp6:=hp5.h.mono l6
  replace l6:=Hid.mk l6;replace hp6:=Hid.mk hp6;replace hlev:=Hid.mk hlev
  repeat' (first|simp -implicitDefEqProofs only [ze,aR,aW,zf,zg,Int.reduceBEq,Int.reduceBNe,Nat.reduceBEq,Int.reduceLT,Int.reduceLE,yj,zw, *]|with_reducible (first|apply kcd|apply kgd|apply kci|apply kgi)<;>intro hc)
  refine Zu hp6.h ho.h a lev _ fun h7 sv l7 hsv=>?_
  obtain ⟨sl,hsl⟩:∃ l,xd p a lev=l:=⟨_,rfl⟩
  have hsll:sl.length≤6:=by rw [← hsl];have:=Za p a lev;omega
  rw [hsl] at hsv
  have lns:qf [sv]=some (.int .i64 sl.length):=by have:=SlV.len hsv;rwa [List.length_map] at this
  have gq7:=l7.get gq6
  have gq27:=l7.get gq26
  have hm7:Made n h7 p d r t xs:=hm2.h.le (lh3.h.trans (l4.h.trans (l5.h.trans (l6.h.trans l7))))
  have hIh7:Ints h7 vh hl:=SlV.mono (l6.h.trans l7) hIh.h
  replace l7:=Hid.mk l7;replace hsv:=Hid.mk hsv;replace hsl:=Hid.mk hsl;replace hm7:=Hid.mk hm7;replace hIh7:=Hid.mk hIh7
  repeat' (first|simp -implicitDefEqProofs only [ze,aR,aW,zf,zg,Int.reduceBEq,Int.reduceBNe,Nat.reduceBEq,Int.reduceLT,Int.reduceLE, *]|with_reducible (first|apply kcd|apply kgd|apply kci|apply kgi)<;>intro hc)
  refine LoopW.upto sl.length (fun i2 en hh=>∃ x14 x15 x16 x17,en=[v,.int .i64 z1,.int .i64 z2,.bool false,.bool true,ptr q,.int .i64 k,ptr q2,vo,vh,.int .i64 i,.int .i64 lev,sv,.int .i64 i2,x14,x15,x16,x17]∧h7.le hh) ?_ (Nat.zero_le _) ⟨_,_,_,_,rfl,Heap.le.refl _⟩
  rintro i2 _ h8 R2 hi2 ⟨x14,x15,x16,x17,rfl,l8⟩ hR2
  delta c4_l32 yk7 yk6 yk5 yk4 yk3 yk2 yk1 yk0 yj9 yj8 Wj Wi Wh Wg Wf We Wd Wc Wb Wa X9 X8 X7 X6 X5 X4 X3 X2 X1 X0
  have gq8:=l8.get gq7
  have gq28:=l8.get gq27
  by_cases hlt2:i2 < sl.length
  case neg =>
   have hlt2' : ¬ (i2:Int) < sl.length:=by omega
   have hge:tk.prio≤lev:=hlv0
   have g:=hq.h h8
   clear hR2
   replace g:=Hid.mk g;replace l8:=Hid.mk l8
   repeat' (first|simp -implicitDefEqProofs only [ze,aR,aW,zf,zg,Int.reduceBEq,Int.reduceBNe,Nat.reduceBEq,Int.reduceLT,Int.reduceLE, *]|with_reducible (first|apply kcd|apply kgd|apply kci|apply kgi)<;>intro hc)
   exact g.h
  case pos =>
   have hlt2' : (i2:Int) < sl.length:=by omega
   have hw2:IntKind.i64.wrap ((i2:Int) + 1)=((i2 + 1:Nat):Int):=by rw [zt (by omega) (by omega)];rfl
   obtain ⟨z,hz⟩:∃ z,sl[i2]? = some z:=⟨_,List.getElem?_eq_getElem hlt2⟩
   obtain ⟨ix,x,hx,rfl,hxh,hxa,hxl⟩:=Ja (p:=p) (a:=a) (v:=lev) (z:=z) (by rw [hsl.h];exact List.mem_of_getElem? hz)
   obtain ⟨idz,offz,cz,oz,y1,y2,y3⟩:=jc (SlV.mono l8 hsv.h) hz
   have hm8:=hm7.h.le l8
   obtain ⟨idx,vx,hidx,_,gidx,f1,f2,hvx⟩:=hm8.at hx
   rw [hxh,hxa] at f2
   have st8:=st_T h8 x.name true a x.prio x.line hvx.isS
   have gq9:=Heap.get_alloc_same h8 (.blk [str x.name,.bool true,.int .i64 a,.int .i64 x.prio,.int .i64 x.line,vx] true)
   have lh9:=(Heap.le.refl h8).alloc (.blk [str x.name,.bool true,.int .i64 a,.int .i64 x.prio,.int .i64 x.line,vx] true)
   obtain ⟨q9,eq9⟩:∃ x_,h8.next=x_:=⟨_,rfl⟩
   obtain ⟨h9,eh9⟩:∃ x_,h8.alloc (.blk [str x.name,.bool true,.int .i64 a,.int .i64 x.prio,.int .i64 x.line,vx] true)=x_:=⟨_,rfl⟩
   rw [eh9] at gq9 lh9
   rw [eq9] at gq9
   rw [eh9,eq9] at st8
   have gq9:=lh9.get gq8
   have gq29:=lh9.get gq28
   have y2':=lh9.get y2
   have nle:¬ x.prio≤tk.prio:=by omega
   have nek:((ix:Int) == (k:Int))=false:=by
    simp only [beq_eq_false_iff_ne]
    intro e
    have e' : ix=k:=by omega
    subst e'
    rw [hkt.h] at hx
    cases hx
    omega
   have nea:((a:Int) == (a:Int))=true:=by simp
   have nea' : ((a:Int) != (a:Int))=false:=by simp
   have hp9:=hm8.prc.mono lh9
   replace l8:=Hid.mk l8;replace hz:=Hid.mk hz;replace hx:=Hid.mk hx;replace hxh:=Hid.mk hxh;replace hxa:=Hid.mk hxa;replace hxl:=Hid.mk hxl;replace hm8:=Hid.mk hm8;replace hidx:=Hid.mk hidx;replace hvx:=Hid.mk hvx;replace lh9:=Hid.mk lh9;replace hp9:=Hid.mk hp9
   repeat' (first|simp -implicitDefEqProofs only [ze,aR,aW,zf,zg,Int.reduceBEq,Int.reduceBNe,Nat.reduceBEq,Int.reduceLT,Int.reduceLE,yj,zw, *]|with_reducible (first|apply kcd|apply kgd|apply kci|apply kgi)<;>intro hc)
   refine zs5 hp9.h ho.h hx.h _ fun h10 lv l10 hlv=>?_
   obtain ⟨ll,hll2⟩:∃ l,locL p x=l:=⟨_,rfl⟩
   have hlaw:∀ z ∈ ll,∀ b ∈ hl,¬ z≤b:=fun z hz b hb=>ys2 ho.h hx.h hxa.h (by rw [hlev.h];exact hxl.h) (Vv (by rw [hll2];exact hz)) hb (hlin.h b hb)
   rw [hll2] at hlv
   have lnl:qf [lv]=some (.int .i64 ll.length):=by have:=SlV.len hlv;rwa [List.length_map] at this
   have hl10:ll.length≤10000:=by
    rw [← hll2]
    have h1:=uu (srt (ki p x.body))
    have h2:(srt (ki p x.body)).length=(ki p x.body).length:=List.length_mergeSort _
    have h3:=jq p x.body
    have h4:=(ho.h.st x (List.mem_of_getElem? hx.h)).2
    unfold locL;omega
   have l710:h7.le h10:=l8.h.trans (lh9.h.trans l10)
   have hIh10:Ints h10 vh hl:=SlV.mono l710 hIh7.h
   have ga:=fun b c d=>hR2.h [v,.int .i64 z1,.int .i64 z2,.bool false,.bool true,ptr q,.int .i64 k,ptr q2,vo,vh,.int .i64 i,.int .i64 lev,sv,.int .i64 (i2 + 1:Nat),ptr q9,b,c,d] h10 hlt2 ⟨_,b,c,d,rfl,l710⟩
   clear hR2 hq
   replace ga:=Hid.mk ga;replace l10:=Hid.mk l10;replace hlv:=Hid.mk hlv;replace hll2:=Hid.mk hll2;replace hlaw:=Hid.mk hlaw;replace l710:=Hid.mk l710;replace hIh10:=Hid.mk hIh10
   repeat' (first|simp -implicitDefEqProofs only [ze,aR,aW,zf,zg,Int.reduceBEq,Int.reduceBNe,Nat.reduceBEq,Int.reduceLT,Int.reduceLE, *]|with_reducible (first|apply kcd|apply kgd|apply kci|apply kgi)<;>intro hc)
   refine LoopW.upto ll.length (fun ia en hh=>∃ x17,en=[v,.int .i64 z1,.int .i64 z2,.bool false,.bool true,ptr q,.int .i64 k,ptr q2,vo,vh,.int .i64 i,.int .i64 lev,sv,.int .i64 i2,ptr q9,lv,.int .i64 ia,x17]∧hh=h10) ?_ (Nat.zero_le _) ⟨_,rfl,rfl⟩
   rintro ia _ hE R3 hia ⟨x17',rfl,hE2⟩ hR3
   replace hE2:=hE2.symm
   subst hE2
   delta c4_l30 yk7 yk6 yk5 yk4 yk3 yk2 yk1 yk0 yj9 yj8 Wj Wi Wh Wg Wf We Wd Wc Wb Wa X9 X8 X7 X6 X5 X4 X3 X2 X1 X0
   by_cases hla:ia < ll.length
   case neg =>
    have hla' : ¬ (ia:Int) < ll.length:=by omega
    clear hR3
    repeat' (first|simp -implicitDefEqProofs only [ze,aR,aW,zf,zg,Int.reduceBEq,Int.reduceBNe,Nat.reduceBEq,Int.reduceLT,Int.reduceLE, *]|with_reducible (first|apply kcd|apply kgd|apply kci|apply kgi)<;>intro hc)
    exact ga.h _ _ _
   case pos =>
    have hla' : (ia:Int) < ll.length:=by omega
    have hwa:IntKind.i64.wrap ((ia:Int) + 1)=((ia + 1:Nat):Int):=by rw [zt (by omega) (by omega)];rfl
    obtain ⟨za,hza⟩:∃ z,ll[ia]? = some z:=⟨_,List.getElem?_eq_getElem hla⟩
    obtain ⟨ida,offa,ca,oa,u1,u2,u3⟩:=jc hlv.h hza
    have gb:=fun b=>hR3.h [v,.int .i64 z1,.int .i64 z2,.bool false,.bool true,ptr q,.int .i64 k,ptr q2,vo,vh,.int .i64 i,.int .i64 lev,sv,.int .i64 i2,ptr q9,lv,.int .i64 (ia + 1:Nat),b] h10 hla ⟨b,rfl,rfl⟩
    clear hR3
    replace gb:=Hid.mk gb;replace hza:=Hid.mk hza
    repeat' (first|simp -implicitDefEqProofs only [ze,aR,aW,zf,zg,Int.reduceBEq,Int.reduceBNe,Nat.reduceBEq,Int.reduceLT,Int.reduceLE, *]|with_reducible (first|apply kcd|apply kgd|apply kci|apply kgi)<;>intro hc)
    refine LoopW.upto hl.length (fun ib en hh=>en=[v,.int .i64 z1,.int .i64 z2,.bool false,.bool true,ptr q,.int .i64 k,ptr q2,vo,vh,.int .i64 i,.int .i64 lev,sv,.int .i64 i2,ptr q9,lv,.int .i64 ia,.int .i64 ib]∧hh=h10) ?_ (Nat.zero_le _) ⟨rfl,rfl⟩
    rintro ib _ hF R4 hib ⟨rfl,hF2⟩ hR4
    replace hF2:=hF2.symm
    subst hF2
    delta c4_l28 yk7 yk6 yk5 yk4 yk3 yk2 yk1 yk0 yj9 yj8 Wj Wi Wh Wg Wf We Wd Wc Wb Wa X9 X8 X7 X6 X5 X4 X3 X2 X1 X0
    by_cases hlb:ib < hl.length
    case neg =>
     have hlb' : ¬ (ib:Int) < hl.length:=by omega
     clear hR4
     repeat' (first|simp -implicitDefEqProofs only [ze,aR,aW,zf,zg,Int.reduceBEq,Int.reduceBNe,Nat.reduceBEq,Int.reduceLT,Int.reduceLE, *]|with_reducible (first|apply kcd|apply kgd|apply kci|apply kgi)<;>intro hc)
     exact gb.h _
    case pos =>
     have hlb' : (ib:Int) < hl.length:=by omega
     have hwb:IntKind.i64.wrap ((ib:Int) + 1)=((ib + 1:Nat):Int):=by rw [zt (by omega) (by omega)];rfl
     obtain ⟨zb,hzb⟩:∃ z,hl[ib]? = some z:=⟨_,List.getElem?_eq_getElem hlb⟩
     obtain ⟨idb,offb,cb,ob,w1,w2,w3⟩:=jc hIh10.h hzb
     have hno:¬ za≤zb:=hlaw.h za (List.mem_of_getElem? hza.h) zb (List.mem_of_getElem? hzb)
     have gc:=hR4.h [v,.int .i64 z1,.int .i64 z2,.bool false,.bool true,ptr q,.int .i64 k,ptr q2,vo,vh,.int .i64 i,.int .i64 lev,sv,.int .i64 i2,ptr q9,lv,.int .i64 ia,.int .i64 (ib + 1:Nat)] h10 hlb ⟨rfl,rfl⟩
     clear hR4
     replace gc:=Hid.mk gc;replace hzb:=Hid.mk hzb
     repeat' (first|simp -implicitDefEqProofs only [ze,aR,aW,zf,zg,Int.reduceBEq,Int.reduceBNe,Nat.reduceBEq,Int.reduceLT,Int.reduceLE, *]|with_reducible (first|apply kcd|apply kgd|apply kci|apply kgi)<;>intro hc)
     exact gc.h
end Go.Eng.Sy
