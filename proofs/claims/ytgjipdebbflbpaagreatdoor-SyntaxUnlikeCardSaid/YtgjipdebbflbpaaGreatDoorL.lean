/-
  Part of a proof of the laws of layer 06 (syntax): the laws.
  Conditions: none.
-/
import Derived.Test.YtgjipdebbflbpaaGreatDoorEc
import Derived.Test.YtgjipdebbflbpaaGreatDoorProg
import Derived.KernelRfl
import Derived.Test.YtgjipdebbflbpaaGreatDoorBp
set_option linter.unusedSimpArgs false
set_option linter.unusedVariables false
namespace Go.Eng.Sy
open Go Go.Eng Go.Proofs
noncomputable def c4_r0:List SOp:=[⟨0,.p .mov,[.c (.bool false)],none,false⟩]
noncomputable def c4_r1:List SOp:=[⟨0,.call 6,[],none,false⟩,⟨1,.p .mov,[.t 0],none,false⟩]
noncomputable def c4_r2:List SOp:=[⟨0,.p .mov,[.v 0],none,false⟩,⟨1,.p .mov,[.v 2],none,false⟩,⟨2,.call 8,[.t 1,.t 0],none,false⟩,⟨3,.a (.new [.int .i64 0,.slice none 0 0,.slice none 0 0,.slice none 0 0]),[],none,false⟩,⟨4,.w (.store 4),[.t 0,.t 1],none,false⟩]
noncomputable def c4_r3:List SOp:=[⟨0,.p .mov,[.v 1],none,false⟩,⟨1,.p .mov,[.v 2],none,false⟩,⟨2,.call 8,[.t 1,.t 0],none,false⟩,⟨3,.a (.new [.int .i64 0,.slice none 0 0,.slice none 0 0,.slice none 0 0]),[],none,false⟩,⟨4,.w (.store 4),[.t 0,.t 1],none,false⟩]
noncomputable def c4_r4:List SOp:=[⟨0,.r (.load true 4),[.v 5],none,false⟩,⟨1,.call 9,[.t 0],none,false⟩,⟨2,.p .mov,[.t 0],none,false⟩,⟨3,.p (.extract 0),[.t 0],none,false⟩,⟨4,.p (.extract 1),[.t 1],none,false⟩,⟨5,.p .mov,[.t 1],none,false⟩,⟨6,.p .mov,[.t 1],none,false⟩]
noncomputable def c4_r5:List SOp:=[⟨0,.r (.load true 4),[.v 6],none,false⟩,⟨1,.call 9,[.t 0],none,false⟩,⟨2,.p .mov,[.t 0],none,false⟩,⟨3,.p (.extract 0),[.t 0],none,false⟩,⟨4,.p (.extract 1),[.t 1],none,false⟩,⟨5,.p .mov,[.t 1],none,false⟩,⟨6,.p .mov,[.t 1],none,false⟩]
noncomputable def c4_r6:List SOp:=[⟨0,.p .mov,[.v 0],none,false⟩,⟨1,.call 18,[.t 0],none,false⟩,⟨2,.a (.new [.int .i64 0,.int .i64 0,.int .i64 0,.string ⟨#[]⟩,.slice none 0 0]),[],none,false⟩,⟨3,.w (.store 5),[.t 0,.t 1],none,false⟩]
noncomputable def c4_r7:List SOp:=[⟨0,.p .mov,[.v 1],none,false⟩,⟨1,.call 18,[.t 0],none,false⟩,⟨2,.a (.new [.int .i64 0,.int .i64 0,.int .i64 0,.string ⟨#[]⟩,.slice none 0 0]),[],none,false⟩,⟨3,.w (.store 5),[.t 0,.t 1],none,false⟩]
noncomputable def c4_r8:List SOp:=[⟨0,.r (.load true 5),[.v 11],none,false⟩,⟨1,.call 19,[.t 0],none,false⟩,⟨2,.p .mov,[.t 0],none,false⟩,⟨3,.p (.extract 0),[.t 0],none,false⟩,⟨4,.p (.extract 1),[.t 1],none,false⟩,⟨5,.p .mov,[.t 1],none,false⟩,⟨6,.p .mov,[.t 1],none,false⟩]
noncomputable def c4_r9:List SOp:=[⟨0,.r (.load true 5),[.v 12],none,false⟩,⟨1,.call 19,[.t 0],none,false⟩,⟨2,.p .mov,[.t 0],none,false⟩,⟨3,.p (.extract 0),[.t 0],none,false⟩,⟨4,.p (.extract 1),[.t 1],none,false⟩,⟨5,.p .mov,[.t 1],none,false⟩,⟨6,.p .mov,[.t 1],none,false⟩]
noncomputable def c4_r10:List SOp:=[⟨0,.p .mov,[.v 4],none,false⟩,⟨1,.p .mov,[.t 0],none,false⟩,⟨2,.p .mov,[.v 8],some (0,true),false⟩,⟨3,.p (.bin .eql),[.t 0,.c (.int .i64 0)],some (1,true),false⟩,⟨4,.p .pick,[.t 2,.t 0,.c (.bool false)],none,false⟩,⟨5,.p .mov,[.t 0],none,false⟩,⟨6,.p .mov,[.v 10],some (0,true),false⟩,⟨7,.p (.bin .eql),[.t 0,.c (.int .i64 0)],some (1,true),false⟩,⟨8,.p .pick,[.t 2,.t 0,.c (.bool false)],none,false⟩,⟨9,.p .mov,[.t 0],none,false⟩,⟨10,.p .mov,[.v 14],some (0,true),false⟩,⟨11,.p (.bin .eql),[.t 0,.c (.int .i64 0)],some (1,true),false⟩,⟨12,.p .pick,[.t 2,.t 0,.c (.bool false)],none,false⟩,⟨13,.p .mov,[.t 0],none,false⟩,⟨14,.p .mov,[.v 16],some (0,true),false⟩,⟨15,.p (.bin .eql),[.t 0,.c (.int .i64 0)],some (1,true),false⟩,⟨16,.p .pick,[.t 2,.t 0,.c (.bool false)],none,false⟩,⟨17,.p .mov,[.t 0],none,false⟩,⟨21,.r (.load true 4),[.v 5],some (0,true),false⟩,⟨22,.r (.load true 4),[.v 6],some (1,true),false⟩,⟨23,.call 14,[.t 1,.t 0],some (2,true),false⟩,⟨18,.p .mov,[.v 7],some (3,true),false⟩,⟨19,.p .mov,[.v 9],some (4,true),false⟩,⟨20,.p (.bin .eql),[.t 1,.t 0],some (5,true),false⟩,⟨24,.p (.eqB false),[.t 0,.t 3],some (6,true),false⟩,⟨25,.p .pick,[.t 7,.t 0,.c (.bool false)],none,false⟩,⟨26,.p .mov,[.t 0],none,false⟩,⟨27,.r (.load true 4),[.v 5],some (0,true),false⟩,⟨28,.r (.load true 4),[.v 6],some (1,true),false⟩,⟨29,.call 13,[.t 1,.t 0],some (2,true),true⟩,⟨30,.r (.load true 4),[.v 5],some (3,true),false⟩,⟨31,.r (.load true 4),[.v 6],some (4,true),false⟩,⟨32,.call 14,[.t 1,.t 0],some (5,true),false⟩,⟨33,.p (.eqB false),[.t 3,.t 0],some (6,true),false⟩,⟨34,.p .pick,[.t 7,.t 0,.c (.bool false)],none,false⟩,⟨35,.p .mov,[.t 0],none,false⟩,⟨39,.r (.load true 5),[.v 11],some (0,true),false⟩,⟨40,.a (.bslice [.int .i64 0,.int .i64 0,.int .i64 0,.string ⟨#[]⟩,.slice none 0 0] [(0,5)] 1 5),[.t 0],some (1,true),false⟩,⟨41,.r (.load true 5),[.v 12],some (2,true),false⟩,⟨42,.a (.bslice [.int .i64 0,.int .i64 0,.int .i64 0,.string ⟨#[]⟩,.slice none 0 0] [(0,5)] 1 5),[.t 0],some (3,true),false⟩,⟨43,.call 21,[.t 2,.t 0],some (4,true),false⟩,⟨36,.p .mov,[.v 13],some (5,true),false⟩,⟨37,.p .mov,[.v 15],some (6,true),false⟩,⟨38,.p (.bin .eql),[.t 1,.t 0],some (7,true),false⟩,⟨44,.p (.eqB false),[.t 0,.t 3],some (8,true),false⟩,⟨45,.p .pick,[.t 9,.t 0,.c (.bool false)],none,false⟩,⟨46,.p .mov,[.t 0],none,false⟩]
noncomputable def c4:CFn:={ nargs:=3,vars:=[0,1,2,6,7,8,9,10,11,12,13,14,15,16,17,18,19],results:=[.var 3],body:=(.seq (.reg c4_r0 [(3,0)]) (.seq (.reg c4_r1 [(4,0)]) (.seq (.reg c4_r2 [(5,1)]) (.seq (.reg c4_r3 [(6,1)]) (.seq (.reg c4_r4 [(7,1),(8,0)]) (.seq (.reg c4_r5 [(9,1),(10,0)]) (.seq (.reg c4_r6 [(11,1)]) (.seq (.reg c4_r7 [(12,1)]) (.seq (.reg c4_r8 [(13,1),(14,0)]) (.seq (.reg c4_r9 [(15,1),(16,0)]) (.seq (.reg c4_r10 [(3,0)]) .ret))))))))))) }
set_option maxRecDepth 100000 in
theorem ok4:FnOk Tryz.prog 4 c4:=zh (na:=c4.nargs) (vars:=c4.vars) (by kernel_rfl)
end Go.Eng.Sy
namespace Go.Eng.Sy
open Go Go.Eng Go.Proofs
theorem zx9 {h h1:Heap}{q:Nat}{e:Ex}{y:List Value}(hq:h1.get q=some (.blk y true)) (hl:h.le h1) (hy:ExC h e y):ExsV h1 (.slice (some ⟨q,0,none⟩) 1 5) [e]:=by
 have hy1:=hy.mono hl
 obtain ⟨v,rfl,hv⟩:=hy.cells
 refine ⟨[[.int .i64 e.kind,.int .i64 e.op,.int .i64 e.n,str e.name,v]],.inr ⟨q,0,rfl,.inr ⟨_,_,hq,fun i x hx=>?_⟩⟩,by simp,?_⟩
 ·have hi:i=0:=by
   have:=(List.getElem?_eq_some_iff.1 hx).1
   simp at this;exact this
  subst hi
  simp at hx
  subst hx
  simp
 ·exact ⟨_,_,rfl,hy1,rfl⟩
theorem zt3 (raw:List Int):qb (rawL raw) 30=true:=(yv 30 _).2 ((zt2 raw).mono (by omega))
theorem zl4 (a b:Ex):y3 [a] [b]=true↔a=b:=by rw [jc];simp
set_option maxHeartbeats 2000000 in
set_option maxRecDepth 10000 in
theorem Uv {h:Heap}{v1 v2:Value}{one two:List Int}(h1:Ints h v1 one) (h2:Ints h v2 two) (i1:∀ z ∈ one,inI z) (i2:∀ z ∈ two,inI z) (all:Bool) (Q:Value→Heap→Prop) (hq:∀ h',Q (.bool true) h') :
  CallW Tryz.prog 4 [v1,v2,.bool all] h Q:=by
 have ok1:=Ke one all
 have ok2:=Ke two all
 have inj:(jo (Qj one all)=jo (Qj two all))→Qj one all=Qj two all:=zt6 ok1.right ok2.right
 have tinj:zo (rawL one)=zo (rawL two)→rawL one=rawL two:=text_inj (zt2 one) (zt2 two) (by omega) (by omega)
 have r1:=zt3 one
 have r2:=zt3 two
 replace h1:=Hid.mk h1;replace h2:=Hid.mk h2;replace i1:=Hid.mk i1;replace i2:=Hid.mk i2;replace ok1:=Hid.mk ok1;replace ok2:=Hid.mk ok2;replace inj:=Hid.mk inj;replace tinj:=Hid.mk tinj;replace r1:=Hid.mk r1;replace r2:=Hid.mk r2
 refine zi (k:=3) ok4 rfl rfl rfl fun N=>?_
 rw [show yq c4 [v1,v2,.bool all]=[v1,v2,.bool all,undef,undef,undef,undef,undef,undef,undef,undef,undef,undef,undef,undef,undef,undef] from rfl]
 delta c4 c4_r0 c4_r1 c4_r2 c4_r3 c4_r4 c4_r5 c4_r6 c4_r7 c4_r8 c4_r9 c4_r10
 replace hq:=Hid.mk hq
 repeat' (first|simp -implicitDefEqProofs only [za,aR,aW,zb,zf,Int.reduceBEq,Int.reduceBNe,Nat.reduceBEq,Int.reduceLT,Int.reduceLE, *]|with_reducible (first|apply kcd|apply kgd|apply kci|apply kgi)<;>intro hc)
 refine awake_c h _ fun h3 l3=>?_
 have a1:=SlV.mono l3 h1.h
 have a2:=SlV.mono l3 h2.h
 clear h1 h2 l3
 replace a1:=Hid.mk a1;replace a2:=Hid.mk a2
 repeat' (first|simp -implicitDefEqProofs only [za,aR,aW,zb,zf,Int.reduceBEq,Int.reduceBNe,Nat.reduceBEq,Int.reduceLT,Int.reduceLE, *]|with_reducible (first|apply kcd|apply kgd|apply kci|apply kgi)<;>intro hc)
 refine Prog_c a1.h i1.h all _ fun h4 d r t xs l4 hm=>?_
 obtain ⟨p,hp⟩:∃ p,Qj one all=p:=⟨_,rfl⟩
 rw [hp] at hm ok1 inj
 rw [hp]
 obtain ⟨s1,s2,s3⟩:=hm.isS
 have sz:=st_PA h4 p.harts s1 s2 s3
 have gq1:=Heap.get_alloc_same h4 (.blk [.int .i64 p.harts,d,r,t] true)
 have lh5:=(Heap.le.refl h4).alloc (.blk [.int .i64 p.harts,d,r,t] true)
 obtain ⟨q1,eq1⟩:∃ x_,h4.next=x_:=⟨_,rfl⟩
 obtain ⟨h5,eh5⟩:∃ x_,h4.alloc (.blk [.int .i64 p.harts,d,r,t] true)=x_:=⟨_,rfl⟩
 rw [eh5] at gq1 lh5
 rw [eq1] at gq1
 rw [eh5,eq1] at sz
 have xp:=hm.prc.mono lh5
 have b1:=SlV.mono (l4.trans lh5) a1.h
 have b2:=SlV.mono (l4.trans lh5) a2.h
 clear a1 a2 l4 lh5 hm hp
 replace xp:=Hid.mk xp;replace b1:=Hid.mk b1;replace b2:=Hid.mk b2
 repeat' (first|simp -implicitDefEqProofs only [za,aR,aW,zb,zf,Int.reduceBEq,Int.reduceBNe,Nat.reduceBEq,Int.reduceLT,Int.reduceLE,qu, *]|with_reducible (first|apply kcd|apply kgd|apply kci|apply kgi)<;>intro hc)
 refine Prog_c b2.h i2.h all _ fun h6 d' r' t' xs' l6 hm=>?_
 obtain ⟨q,hqq⟩:∃ p,Qj two all=p:=⟨_,rfl⟩
 rw [hqq] at hm ok2 inj
 rw [hqq]
 obtain ⟨s4,s5,s6⟩:=hm.isS
 have sz2:=st_PA h6 q.harts s4 s5 s6
 have gq2:=Heap.get_alloc_same h6 (.blk [.int .i64 q.harts,d',r',t'] true)
 have lh7:=(Heap.le.refl h6).alloc (.blk [.int .i64 q.harts,d',r',t'] true)
 obtain ⟨q2,eq2⟩:∃ x_,h6.next=x_:=⟨_,rfl⟩
 obtain ⟨h7,eh7⟩:∃ x_,h6.alloc (.blk [.int .i64 q.harts,d',r',t'] true)=x_:=⟨_,rfl⟩
 rw [eh7] at gq2 lh7
 rw [eq2] at gq2
 rw [eh7,eq2] at sz2
 have l67:=l6.trans lh7
 have xp':=xp.h.mono l67
 have yp:=hm.prc.mono lh7
 have gq1':=l67.get gq1
 have c1:=SlV.mono l67 b1.h
 have c2:=SlV.mono l67 b2.h
 have hlen1:=Kg ok1.h
 have hlen2:=Kg ok2.h
 have e1:=ok1.h.right
 have e2:=ok2.h.right
 clear xp b1 b2 l6 lh7 hm hqq l67 gq1 sz s1 s2 s3 s4 s5 s6 eq1 eh5
 replace xp':=Hid.mk xp';replace yp:=Hid.mk yp;replace c1:=Hid.mk c1;replace c2:=Hid.mk c2;replace hlen1:=Hid.mk hlen1;replace hlen2:=Hid.mk hlen2;replace e1:=Hid.mk e1;replace e2:=Hid.mk e2
 repeat' (first|simp -implicitDefEqProofs only [za,aR,aW,zb,zf,Int.reduceBEq,Int.reduceBNe,Nat.reduceBEq,Int.reduceLT,Int.reduceLE,qu, *]|with_reducible (first|apply kcd|apply kgd|apply kci|apply kgi)<;>intro hc)
 refine zf5 xp'.h (fun _=>hlen1.h) _ fun h8 l8=>?_
 have xp:=xp'.h.mono l8
 have yp':=yp.h.mono l8
 have gq1:=l8.get gq1'
 have gq2':=l8.get gq2
 have a1:=SlV.mono l8 c1.h
 have a2:=SlV.mono l8 c2.h
 rw [if_pos e1.h,if_pos e1.h]
 clear xp' yp c1 c2 l8 gq1' gq2 sz2 eq2 eh7
 replace xp:=Hid.mk xp;replace yp':=Hid.mk yp';replace a1:=Hid.mk a1;replace a2:=Hid.mk a2
 repeat' (first|simp -implicitDefEqProofs only [za,aR,aW,zb,zf,Int.reduceBEq,Int.reduceBNe,Nat.reduceBEq,Int.reduceLT,Int.reduceLE,qu, *]|with_reducible (first|apply kcd|apply kgd|apply kci|apply kgi)<;>intro hc)
 refine zf5 yp'.h (fun _=>hlen2.h) _ fun h9 l9=>?_
 have xp':=xp.h.mono l9
 have yp:=yp'.h.mono l9
 have gq1':=l9.get gq1
 have gq2:=l9.get gq2'
 have b1:=SlV.mono l9 a1.h
 have b2:=SlV.mono l9 a2.h
 rw [if_pos e2.h,if_pos e2.h]
 obtain ⟨ps,hps⟩:∃ s,jo p=s:=⟨_,rfl⟩
 obtain ⟨qs,hqs⟩:∃ s,jo q=s:=⟨_,rfl⟩
 have hpq:ps=qs↔p=q:=by
  rw [← hps,← hqs]
  exact ⟨inj.h,fun e=>by rw [e]⟩
 rw [hps,hqs]
 clear xp yp' a1 a2 l9 gq1 gq2' hlen1 hlen2 e1 e2 hps hqs inj
 replace xp':=Hid.mk xp';replace yp:=Hid.mk yp;replace b1:=Hid.mk b1;replace b2:=Hid.mk b2;replace hpq:=Hid.mk hpq
 repeat' (first|simp -implicitDefEqProofs only [za,aR,aW,zb,zf,Int.reduceBEq,Int.reduceBNe,Nat.reduceBEq,Int.reduceLT,Int.reduceLE,qu, *]|with_reducible (first|apply kcd|apply kgd|apply kci|apply kgi)<;>intro hc)
 refine Raw_c b1.h i1.h _ fun h10 y l10 hy=>?_
 have hy0:=hy.plain
 obtain ⟨x,hx⟩:∃ x,rawL one=x:=⟨_,rfl⟩
 rw [hx] at hy hy0 tinj r1
 have sz:=st_Ex h10 hy0
 have gq3:=Heap.get_alloc_same h10 (.blk y true)
 have lh11:=(Heap.le.refl h10).alloc (.blk y true)
 obtain ⟨q3,eq3⟩:∃ x_,h10.next=x_:=⟨_,rfl⟩
 obtain ⟨h11,eh11⟩:∃ x_,h10.alloc (.blk y true)=x_:=⟨_,rfl⟩
 rw [eh11] at gq3 lh11
 rw [eq3] at gq3
 rw [eh11,eq3] at sz
 have l:=l10.trans lh11
 have xp:=xp'.h.mono l
 have yp':=yp.h.mono l
 have gq1:=l.get gq1'
 have gq2':=l.get gq2
 have a2:=SlV.mono l b2.h
 have ye:=hy0.mono lh11
 clear xp' yp b1 b2 l10 lh11 l gq1' gq2 hy hy0 hx i1
 replace xp:=Hid.mk xp;replace yp':=Hid.mk yp';replace a2:=Hid.mk a2;replace ye:=Hid.mk ye
 repeat' (first|simp -implicitDefEqProofs only [za,aR,aW,zb,zf,Int.reduceBEq,Int.reduceBNe,Nat.reduceBEq,Int.reduceLT,Int.reduceLE,qu, *]|with_reducible (first|apply kcd|apply kgd|apply kci|apply kgi)<;>intro hc)
 refine Raw_c a2.h i2.h _ fun h12 z l12 hz=>?_
 have hz0:=hz.plain
 obtain ⟨x',hx⟩:∃ x,rawL two=x:=⟨_,rfl⟩
 rw [hx] at hz hz0 tinj r2
 have sz3:=st_Ex h12 hz0
 have gq4:=Heap.get_alloc_same h12 (.blk z true)
 have lh13:=(Heap.le.refl h12).alloc (.blk z true)
 obtain ⟨q4,eq4⟩:∃ x_,h12.next=x_:=⟨_,rfl⟩
 obtain ⟨h13,eh13⟩:∃ x_,h12.alloc (.blk z true)=x_:=⟨_,rfl⟩
 rw [eh13] at gq4 lh13
 rw [eq4] at gq4
 rw [eh13,eq4] at sz3
 have l:=l12.trans lh13
 have xp':=xp.h.mono l
 have yp:=yp'.h.mono l
 have gq1':=l.get gq1
 have gq2:=l.get gq2'
 have gq3':=l.get gq3
 have ye':=ye.h.mono l
 have ze:=hz0.mono lh13
 clear xp yp' a2 ye l12 lh13 l gq1 gq2' gq3 hz hz0 hx i2 sz eq3 eh11
 obtain ⟨w1,rfl,hw1⟩:=ye'.cells
 obtain ⟨w2,rfl,hw2⟩:=ze.cells
 have o1:=hw1.one
 have o2:=hw2.one
 replace xp':=Hid.mk xp';replace yp:=Hid.mk yp;replace ye':=Hid.mk ye';replace ze:=Hid.mk ze;replace hw1:=Hid.mk hw1;replace hw2:=Hid.mk hw2
 repeat' (first|simp -implicitDefEqProofs only [za,aR,aW,zb,zf,Int.reduceBEq,Int.reduceBNe,Nat.reduceBEq,Int.reduceLT,Int.reduceLE,qu,zj, *]|with_reducible (first|apply kcd|apply kgd|apply kci|apply kgi)<;>intro hc)
 refine qf5 ye'.h _ fun h14 l14=>?_
 have xp:=xp'.h.mono l14
 have yp':=yp.h.mono l14
 have gq1:=l14.get gq1'
 have gq2':=l14.get gq2
 have gq3:=l14.get gq3'
 have gq4':=l14.get gq4
 have ye:=ye'.h.mono l14
 have ze':=ze.h.mono l14
 rw [if_pos r1.h,if_pos r1.h]
 clear xp' yp gq1' gq2 gq3' gq4 ye' ze l14 sz3 eq4 eh13
 replace xp:=Hid.mk xp;replace yp':=Hid.mk yp';replace ye:=Hid.mk ye;replace ze':=Hid.mk ze'
 repeat' (first|simp -implicitDefEqProofs only [za,aR,aW,zb,zf,Int.reduceBEq,Int.reduceBNe,Nat.reduceBEq,Int.reduceLT,Int.reduceLE,qu,zj, *]|with_reducible (first|apply kcd|apply kgd|apply kci|apply kgi)<;>intro hc)
 refine qf5 ze'.h _ fun h15 l15=>?_
 have xp':=xp.h.mono l15
 have yp:=yp'.h.mono l15
 have gq1':=l15.get gq1
 have gq2:=l15.get gq2'
 have gq3':=l15.get gq3
 have gq4:=l15.get gq4'
 have ye':=ye.h.mono l15
 have ze:=ze'.h.mono l15
 rw [if_pos r2.h,if_pos r2.h]
 obtain ⟨us,hus⟩:∃ s,zo x=s:=⟨_,rfl⟩
 obtain ⟨vs,hvs⟩:∃ s,zo x' = s:=⟨_,rfl⟩
 have huv:us=vs↔x=x':=by
  rw [← hus,← hvs]
  exact ⟨tinj.h,fun e=>by rw [e]⟩
 rw [hus,hvs]
 clear xp yp' gq1 gq2' gq3 gq4' ye ze' l15 r1 r2 hus hvs tinj
 have z0:((0:Int) == 0)=true:=rfl
 replace xp':=Hid.mk xp';replace yp:=Hid.mk yp;replace ye':=Hid.mk ye';replace ze:=Hid.mk ze;replace huv:=Hid.mk huv
 repeat' (first|simp -implicitDefEqProofs only [za,aR,aW,zb,zf,Int.reduceBEq,Int.reduceBNe,Nat.reduceBEq,Int.reduceLT,Int.reduceLE,qu,zj, *]|with_reducible (first|apply kcd|apply kgd|apply kci|apply kgi)<;>intro hc)
 refine Vc xp'.h yp.h ok1.h.ok ok2.h.ok _ fun k1 h16 hk1 l16=>?_
 have xp:=xp'.h.mono l16
 have yp':=yp.h.mono l16
 have gq1:=l16.get gq1'
 have gq2':=l16.get gq2
 have gq3:=l16.get gq3'
 have gq4':=l16.get gq4
 have ye:=ye'.h.mono l16
 have ze':=ze.h.mono l16
 have t1:(ps == qs)=k1:=by rw [Bool.eq_iff_iff,beq_iff_eq,hpq.h,hk1]
 have t1' : ((ps == qs) == k1)=true:=by rw [t1];simp
 have eb:=pEqBf (ps == qs) k1
 rw [t1'] at eb
 clear xp' yp gq1' gq2 gq3' gq4 ye' ze l16 t1 t1'
 replace xp:=Hid.mk xp;replace yp':=Hid.mk yp';replace ye:=Hid.mk ye;replace ze':=Hid.mk ze';replace hk1:=Hid.mk hk1
 repeat' (first|simp -implicitDefEqProofs only [za,aR,aW,zb,zf,Int.reduceBEq,Int.reduceBNe,Nat.reduceBEq,Int.reduceLT,Int.reduceLE,qu,zj,zh9, *]|with_reducible (first|apply kcd|apply kgd|apply kci|apply kgi)<;>intro hc)
 refine qe9 xp.h yp'.h ok1.h.ok ok2.h.ok _ fun k2 h17 hk2 l17=>ut l17.ext ?_
 have xp':=xp.h.mono l17
 have yp:=yp'.h.mono l17
 have gq1':=l17.get gq1
 have gq2:=l17.get gq2'
 have gq3':=l17.get gq3
 have gq4:=l17.get gq4'
 have ye':=ye.h.mono l17
 have ze:=ze'.h.mono l17
 clear xp yp' gq1 gq2' gq3 gq4' ye ze' l17 eb
 replace xp':=Hid.mk xp';replace yp:=Hid.mk yp;replace ye':=Hid.mk ye';replace ze:=Hid.mk ze;replace hk2:=Hid.mk hk2
 repeat' (first|simp -implicitDefEqProofs only [za,aR,aW,zb,zf,Int.reduceBEq,Int.reduceBNe,Nat.reduceBEq,Int.reduceLT,Int.reduceLE,qu,zj,zh9, *]|with_reducible (first|apply kcd|apply kgd|apply kci|apply kgi)<;>intro hc)
 refine Vc xp'.h yp.h ok1.h.ok ok2.h.ok _ fun k3 h18 hk3 l18=>?_
 have gq3:=l18.get gq3'
 have gq4':=l18.get gq4
 have ye:=ye'.h.mono l18
 have ze':=ze.h.mono l18
 have t2:k2=k3:=by rw [Bool.eq_iff_iff,hk2.h,hk3]
 have eb:=pEqBf k2 k3
 have t2' : (k2 == k3)=true:=by rw [t2];simp
 rw [t2'] at eb
 have bs1:=bs_ex x.kind x.op x.n x.name o1
 have bs2:=bs_ex x'.kind x'.op x'.n x'.name o2
 have gq5:=Heap.get_alloc_same h18 (.blk [.int .i64 x.kind,.int .i64 x.op,.int .i64 x.n,str x.name,w1] true)
 have lh19:=(Heap.le.refl h18).alloc (.blk [.int .i64 x.kind,.int .i64 x.op,.int .i64 x.n,str x.name,w1] true)
 obtain ⟨q5,eq5⟩:∃ x_,h18.next=x_:=⟨_,rfl⟩
 obtain ⟨h19,eh19⟩:∃ x_,h18.alloc (.blk [.int .i64 x.kind,.int .i64 x.op,.int .i64 x.n,str x.name,w1] true)=x_:=⟨_,rfl⟩
 rw [eh19] at gq5 lh19
 rw [eq5] at gq5
 have gq4:=lh19.get gq4'
 have ze:=ze'.mono lh19
 have es1:=zx9 gq5 lh19 ye
 have gq6:=Heap.get_alloc_same h19 (.blk [.int .i64 x'.kind,.int .i64 x'.op,.int .i64 x'.n,str x'.name,w2] true)
 have lh20:=(Heap.le.refl h19).alloc (.blk [.int .i64 x'.kind,.int .i64 x'.op,.int .i64 x'.n,str x'.name,w2] true)
 obtain ⟨q6,eq6⟩:∃ x_,h19.next=x_:=⟨_,rfl⟩
 obtain ⟨h20,eh20⟩:∃ x_,h19.alloc (.blk [.int .i64 x'.kind,.int .i64 x'.op,.int .i64 x'.n,str x'.name,w2] true)=x_:=⟨_,rfl⟩
 rw [eh20] at gq6 lh20
 rw [eq6] at gq6
 have es2:=zx9 gq6 lh20 ze
 have es1':=es1.mono lh20
 clear xp' yp gq1' gq2 gq3' gq4' ye' ze ze' ye l18 t2 t2' hk2 hk3 lh19 lh20 es1
 replace es1':=Hid.mk es1';replace es2:=Hid.mk es2
 repeat' (first|simp -implicitDefEqProofs only [za,aR,aW,zb,zf,Int.reduceBEq,Int.reduceBNe,Nat.reduceBEq,Int.reduceLT,Int.reduceLE,qu,zj,zh9, *]|with_reducible (first|apply kcd|apply kgd|apply kci|apply kgi)<;>intro hc)
 refine zs1 _ es1'.h es2.h ?_
 have t3:(us == vs)=y3 [x] [x']:=by rw [Bool.eq_iff_iff,beq_iff_eq,huv.h,zl4]
 obtain ⟨k4,hk4⟩:∃ k,y3 [x] [x']=k:=⟨_,rfl⟩
 rw [hk4] at t3
 rw [hk4]
 have t3' : ((us == vs) == k4)=true:=by rw [t3];simp
 have eb2:=pEqBf (us == vs) k4
 rw [t3'] at eb2
 have g:=hq.h h20
 replace g:=Hid.mk g
 clear hq es1' es2 t3 t3' hk4
 repeat' (first|simp -implicitDefEqProofs only [za,aR,aW,zb,zf,Int.reduceBEq,Int.reduceBNe,Nat.reduceBEq,Int.reduceLT,Int.reduceLE,qu,zj,zh9, *]|with_reducible (first|apply kcd|apply kgd|apply kci|apply kgi)<;>intro hc)
 exact g.h
end Go.Eng.Sy
