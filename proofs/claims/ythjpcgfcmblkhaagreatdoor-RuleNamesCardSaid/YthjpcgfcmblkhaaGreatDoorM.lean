/-
  Part of a proof of the laws of layer 08 (rule): the laws.
  Conditions: none.
-/
import Derived.Test.YthjpcgfcmblkhaaGreatDoorEc
import Derived.Test.YthjpcgfcmblkhaaGreatDoorProg
import Derived.KernelRfl
import Derived.Test.YthjpcgfcmblkhaaGreatDoorBe
import Derived.Test.YthjpcgfcmblkhaaGreatDoorBx
set_option linter.unusedSectionVars false
set_option linter.unusedSimpArgs false
set_option linter.unusedVariables false
namespace Go.Eng.Sy
open Go Go.Eng Go.Proofs
noncomputable def c7_r0:List SOp:=[⟨0,.p .mov,[.c (.bool false)],none,false⟩]
noncomputable def c7_r1:List SOp:=[⟨0,.call 8,[],none,false⟩,⟨1,.p .mov,[.t 0],none,false⟩]
noncomputable def c7_r2:List SOp:=[⟨0,.p .mov,[.v 0],none,false⟩,⟨1,.call 9,[.t 0,.c (.bool false)],none,false⟩,⟨2,.a (.new [.int .i64 0,.slice none 0 0,.slice none 0 0,.slice none 0 0]),[],none,false⟩,⟨3,.w (.store 4),[.t 0,.t 1],none,false⟩]
noncomputable def c7_r3:List SOp:=[⟨0,.a (.bslice [.string ⟨#[]⟩,.string ⟨#[]⟩,.string ⟨#[]⟩,.string ⟨#[]⟩,.string ⟨#[]⟩,.string ⟨#[]⟩] [(0,1),(1,1),(2,1),(3,1),(4,1),(5,1)] 6 1),[.c (.string ⟨#[100]⟩),.c (.string ⟨#[114,97]⟩),.c (.string ⟨#[120]⟩),.c (.string ⟨#[121]⟩),.c (.string ⟨#[116,97]⟩),.c (.string ⟨#[114,98]⟩)],none,false⟩,⟨1,.p .mov,[.v 1],none,false⟩,⟨2,.call 13,[.t 0,.c (.int .i64 6)],none,false⟩,⟨3,.p (.idxAddrS 1),[.t 2,.t 0],none,false⟩,⟨4,.r (.load false 1),[.t 0],none,false⟩,⟨5,.p .mov,[.t 0],none,false⟩]
noncomputable def c7_r4:List SOp:=[⟨0,.r (.load true 4),[.v 4],none,false⟩,⟨1,.a (.new [.int .i64 0,.slice none 0 0,.slice none 0 0,.slice none 0 0]),[],none,false⟩,⟨2,.w (.store 4),[.t 0,.t 1],none,false⟩]
noncomputable def c7_r5:List SOp:=[⟨0,.p (.fieldAddr 1),[.v 4],none,false⟩,⟨1,.r (.load false 1),[.t 0],none,false⟩,⟨2,.w (.append 2 24),[.c (.slice none 0 0),.t 0],none,false⟩,⟨3,.p (.fieldAddr 1),[.v 6],none,false⟩,⟨4,.w (.store 1),[.t 0,.t 1],none,false⟩]
noncomputable def c7_r6:List SOp:=[⟨0,.p (.fieldAddr 2),[.v 4],none,false⟩,⟨1,.r (.load false 1),[.t 0],none,false⟩,⟨2,.w (.append 2 24),[.c (.slice none 0 0),.t 0],none,false⟩,⟨3,.p (.fieldAddr 2),[.v 6],none,false⟩,⟨4,.w (.store 1),[.t 0,.t 1],none,false⟩]
noncomputable def c7_r7:List SOp:=[⟨0,.p (.fieldAddr 3),[.v 4],none,false⟩,⟨1,.r (.load false 1),[.t 0],none,false⟩,⟨2,.w (.append 6 72),[.c (.slice none 0 0),.t 0],none,false⟩,⟨3,.p (.fieldAddr 3),[.v 6],none,false⟩,⟨4,.w (.store 1),[.t 0,.t 1],none,false⟩]
noncomputable def c7_r8:List SOp:=[⟨0,.p .mov,[.c (.int .i64 0)],none,false⟩]
noncomputable def c7_r9:List SOp:=[⟨0,.p .mov,[.v 7],none,false⟩,⟨1,.p (.fieldAddr 1),[.v 6],none,false⟩,⟨2,.r (.load false 1),[.t 0],none,false⟩,⟨3,.p .lenS,[.t 0],none,false⟩,⟨4,.p (.bin .lss),[.t 3,.t 0],none,false⟩]
noncomputable def c7_r10:List SOp:=[⟨0,.p (.fieldAddr 1),[.v 6],none,false⟩,⟨1,.r (.load false 1),[.t 0],none,false⟩,⟨2,.p .mov,[.v 7],none,false⟩,⟨3,.p (.idxAddrS 2),[.t 1,.t 0],none,false⟩,⟨4,.p (.fieldAddr 0),[.t 0],none,false⟩,⟨5,.r (.load false 1),[.t 0],none,false⟩,⟨6,.p .mov,[.v 5],none,false⟩,⟨7,.p (.bin .eql),[.t 1,.t 0],none,false⟩]
noncomputable def c7_r11:List SOp:=[⟨0,.p (.fieldAddr 1),[.v 6],none,false⟩,⟨1,.r (.load false 1),[.t 0],none,false⟩,⟨2,.p .mov,[.v 7],none,false⟩,⟨3,.p (.idxAddrS 2),[.t 1,.t 0],none,false⟩,⟨4,.p (.fieldAddr 0),[.t 0],none,false⟩,⟨5,.w (.store 1),[.t 0,.c (.string ⟨#[111,116,104,101,114]⟩)],none,false⟩]
noncomputable def c7_r12:List SOp:=[⟨0,.p .mov,[.v 7],none,false⟩,⟨1,.p (.bin .add),[.t 0,.c (.int .i64 1)],none,false⟩,⟨2,.p .mov,[.t 0],none,false⟩]
noncomputable def c7_l13:CCode:=(.seq (.rcond c7_r9 [] 0 .skip (.exit 0)) (.seq (.block 1 (.rcond c7_r10 [] 0 (.reg c7_r11 []) .skip)) (.reg c7_r12 [(7,0)])))
noncomputable def c7_r14:List SOp:=[⟨0,.p .mov,[.c (.int .i64 0)],none,false⟩]
noncomputable def c7_r15:List SOp:=[⟨0,.p .mov,[.v 8],none,false⟩,⟨1,.p (.fieldAddr 2),[.v 6],none,false⟩,⟨2,.r (.load false 1),[.t 0],none,false⟩,⟨3,.p .lenS,[.t 0],none,false⟩,⟨4,.p (.bin .lss),[.t 3,.t 0],none,false⟩]
noncomputable def c7_r16:List SOp:=[⟨0,.p (.fieldAddr 2),[.v 6],none,false⟩,⟨1,.r (.load false 1),[.t 0],none,false⟩,⟨2,.p .mov,[.v 8],none,false⟩,⟨3,.p (.idxAddrS 2),[.t 1,.t 0],none,false⟩,⟨4,.p (.fieldAddr 0),[.t 0],none,false⟩,⟨5,.r (.load false 1),[.t 0],none,false⟩,⟨6,.p .mov,[.v 5],none,false⟩,⟨7,.p (.bin .eql),[.t 1,.t 0],none,false⟩]
noncomputable def c7_r17:List SOp:=[⟨0,.p (.fieldAddr 2),[.v 6],none,false⟩,⟨1,.r (.load false 1),[.t 0],none,false⟩,⟨2,.p .mov,[.v 8],none,false⟩,⟨3,.p (.idxAddrS 2),[.t 1,.t 0],none,false⟩,⟨4,.p (.fieldAddr 0),[.t 0],none,false⟩,⟨5,.w (.store 1),[.t 0,.c (.string ⟨#[111,116,104,101,114]⟩)],none,false⟩]
noncomputable def c7_r18:List SOp:=[⟨0,.p .mov,[.v 8],none,false⟩,⟨1,.p (.bin .add),[.t 0,.c (.int .i64 1)],none,false⟩,⟨2,.p .mov,[.t 0],none,false⟩]
noncomputable def c7_l19:CCode:=(.seq (.rcond c7_r15 [] 0 .skip (.exit 2)) (.seq (.block 3 (.rcond c7_r16 [] 0 (.reg c7_r17 []) .skip)) (.reg c7_r18 [(8,0)])))
noncomputable def c7_r20:List SOp:=[⟨0,.p .mov,[.c (.int .i64 0)],none,false⟩]
noncomputable def c7_r21:List SOp:=[⟨0,.p .mov,[.v 9],none,false⟩,⟨1,.p (.fieldAddr 3),[.v 6],none,false⟩,⟨2,.r (.load false 1),[.t 0],none,false⟩,⟨3,.p .lenS,[.t 0],none,false⟩,⟨4,.p (.bin .lss),[.t 3,.t 0],none,false⟩]
noncomputable def c7_r22:List SOp:=[⟨0,.p (.fieldAddr 3),[.v 6],none,false⟩,⟨1,.r (.load false 1),[.t 0],none,false⟩,⟨2,.p .mov,[.v 9],none,false⟩,⟨3,.p (.idxAddrS 6),[.t 1,.t 0],none,false⟩,⟨4,.p (.fieldAddr 0),[.t 0],none,false⟩,⟨5,.r (.load false 1),[.t 0],none,false⟩,⟨6,.p .mov,[.v 5],none,false⟩,⟨7,.p (.bin .eql),[.t 1,.t 0],none,false⟩]
noncomputable def c7_r23:List SOp:=[⟨0,.p (.fieldAddr 3),[.v 6],none,false⟩,⟨1,.r (.load false 1),[.t 0],none,false⟩,⟨2,.p .mov,[.v 9],none,false⟩,⟨3,.p (.idxAddrS 6),[.t 1,.t 0],none,false⟩,⟨4,.p (.fieldAddr 0),[.t 0],none,false⟩,⟨5,.w (.store 1),[.t 0,.c (.string ⟨#[111,116,104,101,114]⟩)],none,false⟩]
noncomputable def c7_r24:List SOp:=[⟨3,.p (.fieldAddr 3),[.v 6],none,false⟩,⟨4,.r (.load false 1),[.t 0],none,false⟩,⟨5,.p .mov,[.v 9],none,false⟩,⟨6,.p (.idxAddrS 6),[.t 1,.t 0],none,false⟩,⟨7,.p (.fieldAddr 5),[.t 0],none,false⟩,⟨8,.r (.load false 1),[.t 0],none,false⟩,⟨9,.p .mov,[.v 5],none,false⟩,⟨10,.call 15,[.t 1,.t 0,.c (.string ⟨#[111,116,104,101,114]⟩)],none,true⟩,⟨0,.p (.fieldAddr 3),[.v 6],none,false⟩,⟨1,.r (.load false 1),[.t 0],none,false⟩,⟨2,.p .mov,[.v 9],none,false⟩,⟨11,.p (.idxAddrS 6),[.t 1,.t 0],none,false⟩,⟨12,.p (.fieldAddr 5),[.t 0],none,false⟩,⟨13,.w (.store 1),[.t 0,.t 5],none,false⟩]
noncomputable def c7_r25:List SOp:=[⟨0,.p .mov,[.v 9],none,false⟩,⟨1,.p (.bin .add),[.t 0,.c (.int .i64 1)],none,false⟩,⟨2,.p .mov,[.t 0],none,false⟩]
noncomputable def c7_l26:CCode:=(.seq (.rcond c7_r21 [] 0 .skip (.exit 4)) (.seq (.block 5 (.seq (.rcond c7_r22 [] 0 (.reg c7_r23 []) .skip) (.reg c7_r24 []))) (.reg c7_r25 [(9,0)])))
noncomputable def c7_r27:List SOp:=[⟨0,.r (.load true 4),[.v 6],none,false⟩,⟨1,.call 10,[.t 0],none,false⟩,⟨2,.p .mov,[.t 0],none,false⟩,⟨3,.p (.extract 0),[.t 0],none,false⟩,⟨4,.p (.extract 1),[.t 1],none,false⟩,⟨5,.a (.new [.int .i64 0,.int .i64 0]),[],none,false⟩,⟨6,.p .mov,[.t 2],none,false⟩,⟨7,.w (.store 2),[.t 1,.t 2],none,false⟩]
noncomputable def c7_r28:List SOp:=[⟨0,.p .mov,[.v 3],none,false⟩,⟨1,.p .mov,[.t 0],none,false⟩,⟨2,.p .mov,[.v 10],some (0,true),false⟩,⟨3,.p (.bin .eql),[.t 0,.c (.int .i64 0)],some (1,true),false⟩,⟨4,.p .pick,[.t 2,.t 0,.c (.bool false)],none,false⟩,⟨5,.p .mov,[.t 0],none,false⟩,⟨6,.r (.load true 4),[.v 6],some (0,true),false⟩,⟨7,.call 11,[.t 0,.c (.string ⟨#[111,116,104,101,114]⟩)],some (1,true),true⟩,⟨8,.r (.load true 4),[.v 4],some (2,true),false⟩,⟨9,.p .mov,[.v 5],some (3,true),false⟩,⟨10,.call 11,[.t 1,.t 0],some (4,true),false⟩,⟨11,.p (.bin .eql),[.t 3,.t 0],some (5,true),false⟩,⟨12,.p .pick,[.t 6,.t 0,.c (.bool false)],none,false⟩,⟨13,.p .mov,[.t 0],none,false⟩,⟨14,.r (.load true 4),[.v 6],some (0,true),false⟩,⟨15,.call 12,[.t 0,.c (.string ⟨#[111,116,104,101,114]⟩)],some (1,true),true⟩,⟨16,.r (.load true 4),[.v 4],some (2,true),false⟩,⟨17,.p .mov,[.v 5],some (3,true),false⟩,⟨18,.call 12,[.t 1,.t 0],some (4,true),false⟩,⟨19,.p (.bin .eql),[.t 3,.t 0],some (5,true),false⟩,⟨20,.p .pick,[.t 6,.t 0,.c (.bool false)],none,false⟩,⟨21,.p .mov,[.t 0],none,false⟩]
noncomputable def c7:CFn:={ nargs:=2,vars:=[0,1,4,5,6,7,8,9,10,11,12],results:=[.var 2],body:=(.seq (.reg c7_r0 [(2,0)]) (.seq (.reg c7_r1 [(3,0)]) (.seq (.reg c7_r2 [(4,1)]) (.seq (.reg c7_r3 [(5,0)]) (.seq (.reg c7_r4 [(6,1)]) (.seq (.reg c7_r5 []) (.seq (.reg c7_r6 []) (.seq (.reg c7_r7 []) (.seq (.seq (.reg c7_r8 [(7,0)]) (.block 0 (.loop c7_l13))) (.seq (.seq (.reg c7_r14 [(8,0)]) (.block 2 (.loop c7_l19))) (.seq (.seq (.reg c7_r20 [(9,0)]) (.block 4 (.loop c7_l26))) (.seq (.reg c7_r27 [(10,1)]) (.seq (.reg c7_r28 [(2,0)]) .ret))))))))))))) }
set_option maxRecDepth 100000 in
theorem ok7:FnOk Tryz.prog 7 c7:=compF_ok (na:=c7.nargs) (vars:=c7.vars) (by kernel_rfl)
end Go.Eng.Sy
namespace Go.Eng.Sy
open Go Go.Eng Go.Proofs
mutual
def cntS:St→Nat
 | .mk _ _ _ _ _ t e=>1 + cntSs t + cntSs e
def cntSs:List St→Nat
 | []=>0
 | s::r=>cntS s + cntSs r
end
mutual
theorem cntS_flat (hs:List (List UInt8)):∀ (s:St),(flatS hs s).length=cntS s
 | .mk k m f n a t e=>by
  simp only [flatS,List.length_cons,List.length_append,cntS]
  rw [cntSs_flat _ t,cntSs_flat _ e]; omega
theorem cntSs_flat (hs:List (List UInt8)):∀ (l:List St),(flatSs hs l).length=cntSs l
 | []=>rfl
 | s::r=>by simp only [flatSs,List.length_append,cntSs]; rw [cntS_flat hs s,cntSs_flat hs r]
end
theorem cntSs_app:∀ (a b:List St),cntSs (a++b)=cntSs a + cntSs b
 | [],b=>by simp [cntSs]
 | s::a,b=>by simp only [List.cons_append,cntSs,cntSs_app a b]; omega
section
variable {p:Prg} {nm:List (List UInt8)}
theorem okSs_cons {hs:List (List UInt8)} {s:St} {r:List St}:okSs p nm hs (s::r)↔okS p nm hs s∧okSs p nm hs r:=by
 simp only [okSs_iff,List.mem_cons]
 exact ⟨fun h=>⟨h s (.inl rfl),fun x hx=>h x (.inr hx)⟩,fun h x hx=>by rcases hx with rfl | hx; exact h.1; exact h.2 x hx⟩
end
end Go.Eng.Sy
namespace Go.Eng.Sy
open Go Go.Eng Go.Proofs
theorem StCsB.get' {B:Nat→Prop} {h:Heap}:∀ {l:List St} {xs:List (List Value)},StCsB B h l xs → ∀ {i:Nat} {e:St},l[i]? = some e → ∃ x,xs[i]? = some x∧StCB B h e x
 | [],_,_,i,e,hi=>by simp at hi
 | _::_,_,⟨x,xr,h1,h2,h3⟩,0,e,hi=>by simp at hi; subst hi; exact ⟨x,by rw [h1]; rfl,h2⟩
 | _::_,_,⟨x,xr,h1,h2,h3⟩,i + 1,e,hi=>by
  obtain ⟨y,hy,hz⟩:=StCsB.get' h3 (i:=i) (by simpa using hi)
  exact ⟨y,by rw [h1]; simpa using hy,hz⟩
theorem cntS_eq (s:St):cntS s=1 + cntSs s.thn + cntSs s.els:=by cases s; rfl
theorem cnt_take {l:List St} {i:Nat} {s:St} (hi:l[i]? = some s):cntSs (l.take (i + 1))=cntSs (l.take i) + cntS s∧cntSs (l.take i) + cntS s≤cntSs l:=by
 have e:l.take (i + 1)=l.take i++[s]:=by rw [List.take_add_one,hi]; rfl
 have e2:cntSs (l.take (i + 1))=cntSs (l.take i) + cntS s:=by rw [e,cntSs_app]; simp [cntSs]
 refine ⟨e2,?_⟩
 have:=cntSs_app (l.take (i + 1)) (l.drop (i + 1))
 rw [List.take_append_drop] at this
 omega
theorem cnt_len:∀ (l:List St),l.length≤cntSs l
 | []=>by simp
 | s::r=>by have:=cnt_len r; simp only [List.length_cons,cntSs,cntS_eq s]; omega
end Go.Eng.Sy
namespace Go.Eng.Sy
open Go Go.Eng Go.Proofs
section
variable {p p2:Prg} (hd:p2.devs=p.devs) (hr:p2.ress=p.ress) (nm hs:List (List UInt8))
include hd hr
end
def keyT (t:Tsk):Bool × Int × Int × Int:=(t.handler,t.hart,t.prio,t.line)
theorem TasksOk.key {p p2:Prg} (h:TasksOk p) (hh:p2.harts=p.harts) (hk:p2.tasks.map keyT=p.tasks.map keyT):TasksOk p2:=by
 have mem:∀ t ∈ p2.tasks,∃ t' ∈ p.tasks,keyT t' = keyT t:=fun t ht=>by
  have:keyT t ∈ p2.tasks.map keyT:=List.mem_map.2 ⟨t,ht,rfl⟩
  rw [hk] at this
  obtain ⟨t',h1,h2⟩:=List.mem_map.1 this
  exact ⟨t',h1,h2⟩
 have f:∀ {a b:Tsk},keyT a=keyT b→a.handler=b.handler∧a.hart=b.hart∧a.prio=b.prio∧a.line=b.line:=fun e=>by
  simpa [keyT] using e
 refine ⟨fun t ht=>?_,?_,fun t ht htt x hx hxx hxh=>?_⟩
 ·obtain ⟨t',h1,h2⟩:=mem t ht
  rw [hh,← (f h2).2.1]; exact h.hart t' h1
 ·have e:∀ l:List Tsk,l.Pairwise twoOk↔(l.map keyT).Pairwise (fun a b=>(a.1=false→b.1=false→a.2.1≠b.2.1)∧(a.1=true→b.1=true→a.2.2.2≠b.2.2.2)):=fun l=>by
   rw [List.pairwise_map]; rfl
  rw [e,hk,← e]; exact h.two
 ·obtain ⟨t',h1,h2⟩:=mem t ht
  obtain ⟨x',h3,h4⟩:=mem x hx
  obtain ⟨a1,a2,a3,a4⟩:=f h2
  obtain ⟨c1,c2,c3,c4⟩:=f h4
  rw [← a3,← c3]
  exact h.below t' h1 (by rw [a1]; exact htt) x' h3 (by rw [c1]; exact hxx) (by rw [c2,a2]; exact hxh)
theorem pick8_c (c n:Int) (hn:n≠0) (h:Heap) (Q:Value→Heap→Prop) (hq:Q (.int .i64 (pick c n)) h):CallW Tryz.prog 13 [.int .i64 c,.int .i64 n] h Q:=by
 refine call_of1 (k:=2) ok13 rfl rfl rfl fun N=>?_
 rw [show env0 c13 [.int .i64 c,.int .i64 n]=[.int .i64 c,.int .i64 n,undef] from rfl]
 delta c13 c13_r0 c13_r1 c13_r2 c13_r3
 replace hq:=Hid.mk hq
 have hq1:c < 0→Q (.int .i64 ((IntKind.i64.wrap (0 - IntKind.i64.wrap (c + 1))).tmod n)) h:=fun hc=>by have:=hq.h; rwa [pick,if_pos hc] at this
 have hq2:¬ c < 0→Q (.int .i64 (c.tmod n)) h:=fun hc=>by have:=hq.h; rwa [pick,if_neg hc] at this
 replace hq1:=Hid.mk hq1
 replace hq2:=Hid.mk hq2
 repeat' (first | simp -implicitDefEqProofs only [walkL,aR,aW,aBin,aInt,Int.reduceBEq,Int.reduceBNe,Nat.reduceBEq,Int.reduceLT,Int.reduceLE, *] | with_reducible (first | refine kcd ?_ ?_ | refine kgd ?_ ?_ | refine kci ?_ ?_ | refine kgi ?_ ?_)<;>intro hc)
 ·exact hq1.h (by assumption)
 ·exact hq2.h (by assumption)
end Go.Eng.Sy
namespace Go.Eng.Sy
open Go Go.Eng Go.Proofs
theorem CheckIs.first {p:Prg} {e i n:Int} (h:CheckIs p e i n) (hr:rightP p=true) (hn:(namesP p).Nodup) (ht:TasksOk p) {k m:Nat} {t:Tsk} {x:St × List (List UInt8)} (hk:p.tasks[k]? = some t)
  (hb:∀ j,j < k → ∀ t',p.tasks[j]? = some t' → okSs p (namesP p) [] t'.body) (hx:(flatSs [] t.body)[m]? = some x) (hm:∀ j,j < m → ∀ y,(flatSs [] t.body)[j]? = some y→stE p y=0) (hne:stE p x≠0):e=stE p x∧i=k∧n=m:=by
 have hkl:=(List.getElem?_eq_some_iff.1 hk).1
 have ok:∀ j,j < k→OkAt p j:=fun j hj tk htk y hy=>hb j hj tk htk y hy
 have nok:¬ OkAt p k:=fun h=>hne (h t hk x (List.mem_of_getElem? hx))
 rcases h with ⟨h,_⟩ | ⟨_,h,_⟩ | ⟨_,_,k',_,h,_⟩ | ⟨_,_,_,k',m',hk',⟨tk,y,h1,h2,h3,h4,h5⟩,h6,h7,h8⟩ | ⟨_,_,_,h,_⟩
 ·rw [hr] at h; cases h
 ·exact absurd hn h
 ·exact absurd (ht.head k') h
 ·have e1:k' = k:=by
   rcases Nat.lt_trichotomy k' k with h | h | h
   ·exact absurd (h3.trans (ok k' h tk h1 y (List.mem_of_getElem? h2))) h4
   ·exact h
   ·exact absurd (h6 k h) nok
  subst e1
  rw [hk] at h1; cases h1
  have e2:m' = m:=by
   rcases Nat.lt_trichotomy m' m with h | h | h
   ·exact absurd (h3.trans (hm m' h y h2)) h4
   ·exact h
   ·exact absurd (h5 m h x hx) hne
  subst e2
  rw [hx] at h2; cases h2
  exact ⟨h3,h7,h8⟩
 ·exact absurd (h k hkl) nok
def rotT (k:Nat) (l:List Tsk):List Tsk:=l.drop k++l.take k
end Go.Eng.Sy
namespace Go.Eng.Sy
open Go Go.Eng Go.Proofs
section
variable {p:Prg} {nm nm' : List (List UInt8)} (hc:∀ s,nm.contains s=nm'.contains s) (hs:List (List UInt8))
include hc
end
end Go.Eng.Sy
namespace Go.Eng.Sy
open Go Go.Eng Go.Proofs
theorem TsCsB.app {B:Nat→Prop} {h:Heap} {l2:List Tsk} {ys:List (List Value)} (h2:TsCsB B h l2 ys):∀ {l1:List Tsk} {xs:List (List Value)},TsCsB B h l1 xs→TsCsB B h (l1++l2) (xs++ys)
 | [],_,hx=>by rw [show _=[] from hx]; exact h2
 | _::_,_,⟨x,xr,e,a,b⟩=>by rw [e]; exact ⟨x,_,rfl,a,TsCsB.app h2 b⟩
theorem TsCsB.drop {B:Nat→Prop} {h:Heap}:∀ (k:Nat) {l:List Tsk} {xs:List (List Value)},TsCsB B h l xs→TsCsB B h (l.drop k) (xs.drop k)
 | 0,_,_,hx=>by simpa using hx
 | k + 1,[],_,hx=>by rw [show _=[] from hx]; rfl
 | k + 1,_::_,_,⟨x,xr,e,a,b⟩=>by rw [e]; simpa using TsCsB.drop k b
theorem TsCsB.take {B:Nat→Prop} {h:Heap}:∀ (k:Nat) {l:List Tsk} {xs:List (List Value)},TsCsB B h l xs→TsCsB B h (l.take k) (xs.take k)
 | 0,_,_,hx=>by simp only [List.take_zero]; rfl
 | k + 1,[],_,hx=>by rw [show _=[] from hx]; rfl
 | k + 1,_::_,_,⟨x,xr,e,a,b⟩=>by rw [e]; exact ⟨x,_,rfl,a,TsCsB.take k b⟩
theorem notOf_nil (i:Nat):notOf nilS i:=fun a b e=>by cases e
theorem Made.turn {n:Nat} {h0 h:Heap} {p:Prg} {d r t:Value} {xs:List (List Value)} (hm:Made n h0 p d r t xs) (l0:h0.le h) (hn:n≤h0.next) {q2:Nat} (hq2:h0.next≤q2) (hqs:(h.get q2).isSome=true) (hl:xs.length≤1000) {k:Nat} (hk:k≤xs.length) :
  ∃ w1 w2 va ha vb hb,pSliceS 6 true false [t,.int .i64 k]=some w1∧pSliceS 6 false true [t,.int .i64 k]=some w2∧wAppend 6 72 h [nilS,w1]=some (va,ha)∧wAppend 6 72 ha [va,w2]=some (vb,hb)∧h.le ha∧h.le hb∧notOf vb q2 ∧
   ∀ h',(∀ i o,i≠q2→hb.get i=some o→h'.get i=some o)→Made n h' { p with tasks:=rotT k p.tasks } d r vb (xs.drop k++xs.take k):=by
 have hm1:=hm.le l0
 have hn1:=Nat.le_trans hn l0.next
 obtain ⟨w1,e1,s1⟩:=hm1.ht.sl.partLo hk
 obtain ⟨w2,e2,s2⟩:=hm1.ht.sl.partHi hk
 obtain ⟨va,ha,a1,o1,l1,k1,n1,x1⟩:=(OwnS.nil (emptyH n) h 6).append (emptyH_le hn1) s1 (by omega) (b:=72) (by simp; omega) (by simp; omega)
 have le1:h.le ha:=⟨fun i o hg=>by rw [k1 i (by rw [hg]; rfl) (notOf_nil i)]; exact hg,x1⟩
 obtain ⟨vb,hb,a2,o2,l2,k2,n2,x2⟩:=o1.append (emptyH_le (Nat.le_trans hn1 x1)) (s2.mono le1) (by omega) (b:=72) (by simp; omega) (by simp; omega)
 have nva:∀ i,(h.get i).isSome=true→notOf va i:=fun i hs=>n1 i hs (notOf_nil i)
 have up:∀ i o,h.get i=some o→ha.get i=some o:=fun i o hg=>le1.get hg
 have nvb:∀ i,(h.get i).isSome=true→notOf vb i:=fun i hs=>by
  obtain ⟨o,ho⟩:=Option.isSome_iff_exists.1 hs
  exact n2 i (by rw [up i o ho]; rfl) (nva i hs)
 have le2:h.le hb:=⟨fun i o hg=>by rw [k2 i (by rw [up i o hg]; rfl) (nva i (by rw [hg]; rfl))]; exact up i o hg,Nat.le_trans x1 x2⟩
 refine ⟨w1,w2,va,ha,vb,hb,e1,e2,a1,a2,le1,le2,nvb q2 hqs,fun h' hh=>?_⟩
 have hB:Heap.toB (PB n [t]) (PB n [vb]) h0 h':=fun i cs own hb' hg=>⟨⟨hb'.1,fun w hw=>by
  rw [List.mem_singleton.1 hw]
  exact nvb i (by rw [l0.get hg]; rfl)⟩,hh i _ (by have:=Heap.lt_of_get hg; omega) (le2.get (l0.get hg))⟩
 refine ⟨hm.hd.to hB,hm.hr.to hB,?_,TsCsB.app (TsCsB.take k (hm.hts.to hB)) (TsCsB.drop k (hm.hts.to hB)),hm.dl,hm.rl,by rw [List.length_append,List.length_drop,List.length_take]; omega⟩
 have o3:OwnS (emptyH n) hb 6 vb (xs.drop k++xs.take k):=by simpa using o2
 refine o3.get fun id hv hs=>?_
 obtain ⟨o,ho⟩:=Option.isSome_iff_exists.1 hs
 rw [hh id o (fun e=>nvb q2 hqs _ _ (by rw [hv,e])) ho,ho]
end Go.Eng.Sy
namespace Go.Eng.Sy
open Go Go.Eng Go.Proofs
end Go.Eng.Sy
namespace Go.Eng.Sy
open Go Go.Eng Go.Proofs
end Go.Eng.Sy
namespace Go.Eng.Sy
open Go Go.Eng Go.Proofs
theorem Made.same {n:Nat} {h h' : Heap} {g:Prg} {d r t:Value} {xs:List (List Value)} (hm:Made n h g d r t xs) (he:∀ i,h'.get i=h.get i):Made n h' g d r t xs:=hm.to fun i _ _=>he i
end Go.Eng.Sy
namespace Go.Eng.Sy
open Go Go.Eng Go.Proofs
end Go.Eng.Sy
namespace Go.Eng
open Go
end Go.Eng
namespace Go.Eng.Sy
open Go Go.Eng Go.Proofs
theorem SlV.new (h:Heap) {s:Nat} {xs:List (List Value)} (h5:∀ x ∈ xs,x.length=s) {cells:List Value} (hc:cells=xs.flatten) {n:Nat} (hl:n=xs.length):SlV (h.alloc (.blk cells true)) s (.slice (some ⟨h.next,0,none⟩) n s) xs:=by
 subst hl; subst hc
 refine .inr ⟨h.next,0,rfl,.inr ⟨_,_,Heap.get_alloc_same _ _,fun i x hi=>?_⟩⟩
 obtain ⟨h1,h2⟩:=flatten_chunk h5 i x hi
 exact ⟨h5 x (List.mem_of_getElem? hi),by omega,by simpa using h2⟩
theorem cutH {P:Heap→Prop} {G:Heap→Prop} {T:Prop} (h:(∀ x,P x→G x)→T) (g:∀ x,P x→G x):T:=h g
theorem ExsVB.le {B:Nat→Prop} {h h' : Heap} (hl:h.le h') {v:Value} {l:List Ex} (hv:ExsVB B h v l):ExsVB B h' v l:=hv.to (hl.toB fun _ h=>h)
end Go.Eng.Sy
namespace Go.Eng.Sy
open Go Go.Eng Go.Proofs
def renN (f g s:List UInt8):List UInt8:=if s=f then g else s
mutual
def renE (f g:List UInt8):Ex→Ex
 | .mk k o n m a=>.mk k o n (renN f g m) (renEs f g a)
def renEs (f g:List UInt8):List Ex→List Ex
 | []=>[]
 | e::r=>renE f g e::renEs f g r
end
mutual
def renS (f g:List UInt8):St→St
 | .mk k m s n a t e=>.mk k (renN f g m) (renN f g s) n (renEs f g a) (renSs f g t) (renSs f g e)
def renSs (f g:List UInt8):List St→List St
 | []=>[]
 | s::r=>renS f g s::renSs f g r
end
theorem renEs_map (f g:List UInt8):∀ l,renEs f g l=l.map (renE f g)
 | []=>rfl
 | e::r=>by simp [renEs,renEs_map f g r]
theorem renSs_map (f g:List UInt8):∀ l,renSs f g l=l.map (renS f g)
 | []=>rfl
 | e::r=>by simp [renSs,renSs_map f g r]
mutual
def freE (g:List UInt8):Ex→Prop
 | .mk _ _ _ m a=>m≠g∧freEs g a
def freEs (g:List UInt8):List Ex→Prop
 | []=>True
 | e::r=>freE g e∧freEs g r
end
mutual
def freS (g:List UInt8):St→Prop
 | .mk _ m s _ a t e=>m≠g∧s≠g∧freEs g a∧freSs g t∧freSs g e
def freSs (g:List UInt8):List St→Prop
 | []=>True
 | s::r=>freS g s∧freSs g r
end
theorem freSs_all {g:List UInt8}:∀ {l:List St},(∀ s ∈ l,freS g s)→freSs g l
 | [],_=>trivial
 | s::r,h=>⟨h s (by simp),freSs_all fun x hx=>h x (by simp [hx])⟩
section
variable {f g:List UInt8}
theorem renN_inj {a b:List UInt8} (ha:a≠g) (hb:b≠g):renN f g a=renN f g b↔a=b:=by
 unfold renN
 constructor
 ·intro h
  split at h<;>split at h
  ·rename_i h1 h2; rw [h1,h2]
  ·exact absurd h.symm hb
  ·exact absurd h ha
  ·exact h
 ·rintro rfl; rfl
theorem ren_contains {nm:List (List UInt8)} (hn:∀ x ∈ nm,x≠g) {m:List UInt8} (hm:m≠g):(nm.map (renN f g)).contains (renN f g m)=nm.contains m:=by
 rw [Bool.eq_iff_iff]
 simp only [List.contains_iff_mem,List.mem_map]
 constructor
 ·rintro ⟨x,hx,e⟩; rw [(renN_inj (hn x hx) hm).1 e] at hx; exact hx
 ·exact fun h=>⟨m,h,rfl⟩
theorem ren_ixN {s:List UInt8} (hs:s≠g):∀ {l:List (List UInt8)},(∀ x ∈ l,x≠g)→(l.map (renN f g)).findIdx? (fun d=>d == renN f g s)=l.findIdx? (fun d=>d == s)
 | [],_=>rfl
 | a::r,h=>by
  have e:(renN f g a == renN f g s)=(a == s):=by
   rw [Bool.eq_iff_iff]; simp only [beq_iff_eq]; exact renN_inj (h a (by simp)) hs
  rw [List.map_cons,List.findIdx?_cons,List.findIdx?_cons,e,ren_ixN hs (l:=r) fun x hx=>h x (by simp [hx])]
section
variable {p p2:Prg} {nm:List (List UInt8)} (hd:p2.devs.map (·.name)=(p.devs.map (·.name)).map (renN f g)) (hr:p2.ress.map (·.name)=(p.ress.map (·.name)).map (renN f g))
 (fd:∀ x ∈ p.devs.map (·.name),x≠g) (fr:∀ x ∈ p.ress.map (·.name),x≠g) (fn:∀ x ∈ nm,x≠g)
include hd fd in
theorem ren_dev {s:List UInt8} (hs:s≠g):ixOf p2.devs (renN f g s)=ixOf p.devs s:=by
 rw [ixOf_N,ixOf_N,hd]; unfold ixN; rw [ren_ixN hs fd]
include hr fr in
theorem ren_res {s:List UInt8} (hs:s≠g):ixOf p2.ress (renN f g s)=ixOf p.ress s:=by
 rw [ixOf_N,ixOf_N,hr]; unfold ixN; rw [ren_ixN hs fr]
include fn in
theorem ren_local {s:List UInt8} (hs:s≠g):localR (nm.map (renN f g)) (renN f g s)=localR nm s:=by
 unfold localR; rw [ren_contains fn hs]
include hr fr in
theorem ren_held {s:List UInt8} (hs:s≠g) {hl:List (List UInt8)} (fh:∀ x ∈ hl,x≠g):heldR p2 (renN f g s) (hl.map (renN f g))=heldR p s hl:=by
 unfold heldR; rw [ren_res hr fr hs,ren_contains fh hs]
include hr fr in
theorem ren_lock {s:List UInt8} (hs:s≠g) {hl:List (List UInt8)} (fh:∀ x ∈ hl,x≠g):lockR p2 (renN f g s) (hl.map (renN f g))=lockR p s hl:=by
 unfold lockR
 rw [ren_res hr fr hs]
 have e:(hl.map (renN f g)).any (fun x=>decide (ixOf p.ress s≤ixOf p2.ress x))=hl.any (fun x=>decide (ixOf p.ress s≤ixOf p.ress x)):=by
  rw [Bool.eq_iff_iff]
  simp only [List.any_eq_true,List.mem_map]
  constructor
  ·rintro ⟨_,⟨x,hx,rfl⟩,h⟩; rw [ren_res hr fr (fh x hx)] at h; exact ⟨x,hx,h⟩
  ·rintro ⟨x,hx,h⟩; exact ⟨_,⟨x,hx,rfl⟩,by rw [ren_res hr fr (fh x hx)]; exact h⟩
 rw [e]
include hr fr fn in
theorem ren_headE {hl:List (List UInt8)} (fh:∀ x ∈ hl,x≠g) (k:Int) {m:List UInt8} (hm:m≠g):headE p2 (nm.map (renN f g)) (hl.map (renN f g)) k (renN f g m)=headE p nm hl k m:=by
 unfold headE; rw [ren_local fn hm,ren_held hr fr hm fh]
mutual
theorem ren_exprR {p p2:Prg} {nm:List (List UInt8)} (hr:p2.ress.map (·.name)=(p.ress.map (·.name)).map (renN f g)) (fr:∀ x ∈ p.ress.map (·.name),x≠g) (fn:∀ x ∈ nm,x≠g) {hl:List (List UInt8)} (fh:∀ x ∈ hl,x≠g):∀ (e:Ex),freE g e→exprR p2 (nm.map (renN f g)) (hl.map (renN f g)) (renE f g e)=exprR p nm hl e
 | .mk k o n m a,h=>by
  simp only [freE] at h
  simp only [renE,exprR]
  rw [ren_headE hr fr fn fh k h.1,ren_exprsR hr fr fn fh a h.2]
theorem ren_exprsR {p p2:Prg} {nm:List (List UInt8)} (hr:p2.ress.map (·.name)=(p.ress.map (·.name)).map (renN f g)) (fr:∀ x ∈ p.ress.map (·.name),x≠g) (fn:∀ x ∈ nm,x≠g) {hl:List (List UInt8)} (fh:∀ x ∈ hl,x≠g):∀ (l:List Ex),freEs g l→exprsR p2 (nm.map (renN f g)) (hl.map (renN f g)) (renEs f g l)=exprsR p nm hl l
 | [],h=>rfl
 | e::r,h=>by
  simp only [freEs] at h
  simp only [renEs,exprsR]
  rw [ren_exprR hr fr fn fh e h.1,ren_exprsR hr fr fn fh r h.2]
end
include hd hr fd fr fn in
theorem ren_stmtR {hl:List (List UInt8)} (fh:∀ x ∈ hl,x≠g):∀ (s:St),freS g s→stmtR p2 (nm.map (renN f g)) (hl.map (renN f g)) (renS f g s)=stmtR p nm hl s
 | .mk k m s n a t e,h=>by
  simp only [freS] at h
  obtain ⟨h1,h2,h3,_⟩:=h
  simp only [renS,stmtR,headS,deviceR,St.kind,St.name,St.src,St.args]
  simp only [ren_exprsR hr fr fn fh a h3,ren_local fn h1,ren_dev hd fd h1,ren_dev hd fd h2,ren_held hr fr h1 fh,ren_lock hr fr h1 fh]
  rfl
mutual
theorem ren_okS {p p2:Prg} {nm:List (List UInt8)} (hd:p2.devs.map (·.name)=(p.devs.map (·.name)).map (renN f g)) (hr:p2.ress.map (·.name)=(p.ress.map (·.name)).map (renN f g))
  (fd:∀ x ∈ p.devs.map (·.name),x≠g) (fr:∀ x ∈ p.ress.map (·.name),x≠g) (fn:∀ x ∈ nm,x≠g):∀ (s:St) (hl:List (List UInt8)),(∀ x ∈ hl,x≠g)→freS g s→okS p nm hl s→okS p2 (nm.map (renN f g)) (hl.map (renN f g)) (renS f g s)
 | .mk k m s n a t e,hl,fh,h,ho=>by
  obtain ⟨o1,o2,o3⟩:=okS_iff.1 ho
  have e1:=ren_stmtR hd hr fd fr fn fh _ h
  simp only [freS] at h
  obtain ⟨h1,h2,h3,h4,h5⟩:=h
  refine okS_iff.2 ⟨e1.trans o1,?_,?_⟩
  ·show okSs p2 _ (if k=5 then hl.map (renN f g)++[renN f g m] else hl.map (renN f g)) (renSs f g t)
   have o2' : okSs p nm (if k=5 then hl++[m] else hl) t:=o2
   split
   ·rename_i hk
    rw [if_pos hk] at o2'
    have:=ren_okSs hd hr fd fr fn t (hl++[m]) (fun x hx=>by rcases List.mem_append.1 hx with hx | hx; exact fh x hx; rw [List.mem_singleton.1 hx]; exact h1) h4 o2'
    rwa [List.map_append] at this
   ·rename_i hk
    rw [if_neg hk] at o2'
    exact ren_okSs hd hr fd fr fn t hl fh h4 o2'
  ·exact ren_okSs hd hr fd fr fn e hl fh h5 o3
theorem ren_okSs {p p2:Prg} {nm:List (List UInt8)} (hd:p2.devs.map (·.name)=(p.devs.map (·.name)).map (renN f g)) (hr:p2.ress.map (·.name)=(p.ress.map (·.name)).map (renN f g))
  (fd:∀ x ∈ p.devs.map (·.name),x≠g) (fr:∀ x ∈ p.ress.map (·.name),x≠g) (fn:∀ x ∈ nm,x≠g):∀ (l:List St) (hl:List (List UInt8)),(∀ x ∈ hl,x≠g)→freSs g l→okSs p nm hl l→okSs p2 (nm.map (renN f g)) (hl.map (renN f g)) (renSs f g l)
 | [],hl,fh,h,ho=>okSs_nil
 | s::r,hl,fh,h,ho=>by
  simp only [freSs] at h
  obtain ⟨o1,o2⟩:=okSs_cons.1 ho
  exact okSs_cons.2 ⟨ren_okS hd hr fd fr fn s hl fh h.1 o1,ren_okSs hd hr fd fr fn r hl fh h.2 o2⟩
end
end
theorem ren_name (hg:isName g=true) {m:List UInt8} (hm:isName m=true):isName (renN f g m)=true:=by
 unfold renN; split<;>assumption
theorem ren_nil (hf:f≠[]):renN f g []=[]:=by unfold renN; rw [if_neg (fun e=>hf e.symm)]
theorem ren_ExI (hg:isName g=true) (hf:f≠[]):∀ {e:Ex} {d:Nat},ExI e d→ExI (renE f g e) d:=fun {e d} h=>by
 induction h with
 | num n d h=>simp only [renE,renEs,ren_nil hf]; exact .num _ _ h
 | var m d h=>simp only [renE,renEs]; exact .var _ _ (ren_name hg h)
 | one o a d h _ ih=>simp only [renE,renEs,ren_nil hf]; exact .one _ _ _ h ih
 | two o a b d h _ _ ih1 ih2=>simp only [renE,renEs,ren_nil hf]; exact .two _ _ _ _ h ih1 ih2
 | idx m a d h _ ih=>simp only [renE,renEs]; exact .idx _ _ _ (ren_name hg h) ih
mutual
theorem renS_I (hg:isName g=true) (hf:f≠[]):∀ (s:St) (d:Nat),StI s d→StI (renS f g s) d
 | .mk kd m s n a t e,d,h=>by
  have it:=fun d (h:∀ y ∈ t,StI y d)=>renSs_I hg hf t d h
  have ie:=fun d (h:∀ y ∈ e,StI y d)=>renSs_I hg hf e d h
  cases h with
  | set m a d h ha=>simp only [renS,renEs,renSs,ren_nil hf]; exact .set _ _ _ (ren_name hg h) (ren_ExI hg hf ha)
  | get m f n d h hf' hn=>simp only [renS,renEs,renSs]; exact .get _ _ _ _ (ren_name hg h) (ren_name hg hf') hn
  | put m n a d h hn ha=>simp only [renS,renEs,renSs,ren_nil hf]; exact .put _ _ _ _ (ren_name hg h) hn (ren_ExI hg hf ha)
  | store m a b d h ha hb=>simp only [renS,renEs,renSs,ren_nil hf]; exact .store _ _ _ _ (ren_name hg h) (ren_ExI hg hf ha) (ren_ExI hg hf hb)
  | lock m thn d h ht=>have:=it _ ht; simp only [renS,renEs,renSs,ren_nil hf]; exact .lock _ _ _ (ren_name hg h) this
  | cond a thn els d ha ht he=>have h1:=it _ ht; have h2:=ie _ he; simp only [renS,renEs,ren_nil hf]; exact .cond _ _ _ _ (ren_ExI hg hf ha) h1 h2
  | rep n thn d hn ht=>have:=it _ ht; simp only [renS,renEs,renSs,ren_nil hf]; exact .rep _ _ _ hn this
  | halt d=>simp only [renS,renEs,renSs,ren_nil hf]; exact .halt _
theorem renSs_I (hg:isName g=true) (hf:f≠[]):∀ (l:List St) (d:Nat),(∀ s ∈ l,StI s d) → ∀ x ∈ renSs f g l,StI x d
 | [],d,h,x,hx=>by simp [renSs] at hx
 | s::r,d,h,x,hx=>by
  simp only [renSs,List.mem_cons] at hx
  rcases hx with rfl | hx
  ·exact renS_I hg hf s d (h s (by simp))
  ·exact renSs_I hg hf r d (fun y hy=>h y (by simp [hy])) x hx
end
mutual
theorem renS_cnt:∀ (s:St),cntS (renS f g s)=cntS s
 | .mk k m s n a t e=>by simp only [renS,cntS,renSs_cnt t,renSs_cnt e]
theorem renSs_cnt:∀ (l:List St),cntSs (renSs f g l)=cntSs l
 | []=>rfl
 | s::r=>by simp only [renSs,cntSs,renS_cnt s,renSs_cnt r]
end
end
structure Sco.fre (g:List UInt8) (c:Sco):Prop where
 any:c.any=false
 dne:c.devs≠[]
 dev:∀ m ∈ c.devs,m≠g
 res:∀ m ∈ c.ress,m≠g
 held:∀ m ∈ c.held,m≠g
section
variable {g:List UInt8} (g0:([]:List UInt8)≠g) (gx:∀ m ∈ xyzL,m≠g)
include g0 in
theorem numL_fre (s:List Int):freE g (numL s).1:=⟨g0,trivial⟩
include g0 gx in
theorem exprL_fre {c:Sco} (hc:c.fre g):∀ (d:Nat) (s:List Int),freE g (exprL c d s).1
 | 0,s=>numL_fre g0 _
 | d + 1,s=>by
  unfold exprL
  dsimp only
  split
  ·exact numL_fre g0 _
  ·split
   ·have:=gx _ (nameF_mem (s:=(nextL s 8).2) (l:=xyzL) (by decide))
    rw [hc.any]
    exact ⟨this,trivial⟩
   ·split
    ·exact ⟨g0,exprL_fre hc d _,trivial⟩
    ·split
     ·rename_i h
      have hne:c.held≠[]:=by
       rcases h.2 with h | h
       ·rw [hc.any] at h; cases h
       ·exact h
      have hm:=hc.held _ (nameF_mem (s:=(nextL s 8).2) hne)
      rw [hc.any]
      exact ⟨hm,exprL_fre hc d _,trivial⟩
     ·exact ⟨g0,exprL_fre hc d _,exprL_fre hc d _,trivial⟩
include g0 gx in
theorem stmtB_fre {c:Sco} (hc:c.fre g) {rec:Option (Sco→List Int→List St × List Int)} (hr:∀ f,rec=some f → ∀ c:Sco,c.fre g → ∀ s,freSs g (f c s).1) {loc:List UInt8} (hl:loc≠g) (k:Nat) (s:List Int):freS g (stmtB rec c loc k s).1:=by
 have ex:=exprL_fre g0 gx hc
 have hset:∀ s,freS g (.mk 1 loc [] 0 [(exprL c 4 s).1] [] []):=fun s=>⟨hl,g0,⟨ex _ _,trivial⟩,trivial,trivial⟩
 unfold stmtB
 split
 ·have:=hc.dev _ (nameF_mem (s:=s) hc.dne)
  rw [hc.any]
  exact ⟨hl,this,trivial,trivial,trivial⟩
 ·split
  ·have:=hc.dev _ (nameF_mem (s:=s) hc.dne)
   rw [hc.any]
   exact ⟨this,g0,⟨ex _ _,trivial⟩,trivial,trivial⟩
  ·split
   ·rename_i h
    have hne:c.held≠[]:=by
     rcases h.2 with h | h
     ·rw [hc.any] at h; cases h
     ·exact h
    have hm:=hc.held _ (nameF_mem (s:=s) hne)
    rw [hc.any]
    exact ⟨hm,g0,⟨ex _ _,ex _ _,trivial⟩,trivial,trivial⟩
   ·split
    ·exact ⟨g0,g0,trivial,trivial,trivial⟩
    ·split
     ·exact hset s
     ·rename_i rec'
      split
      ·rename_i h5
       have hf:c.free < c.ress.length:=by
        rcases h5.2 with h | h
        ·rw [hc.any] at h; cases h
        ·exact h
       have hlt:=nextL_lt' (nameL false s c.ress).2 (n:=c.ress.length - c.free) (by omega)
       have hL:lockL c s=(c.ress.getD (c.free + (nextL (nameL false s c.ress).2 (c.ress.length - c.free)).1) [],c.free + (nextL (nameL false s c.ress).2 (c.ress.length - c.free)).1 + 1,(nextL (nameL false s c.ress).2 (c.ress.length - c.free)).2):=by
        unfold lockL; rw [hc.any]; rfl
       obtain ⟨i,hi⟩:∃ i,c.free + (nextL (nameL false s c.ress).2 (c.ress.length - c.free)).1=i:=⟨_,rfl⟩
       rw [hi] at hL
       have hir:i < c.ress.length:=by omega
       rw [hL]
       have hm:c.ress.getD i []≠g:=hc.res _ (by
        rw [List.getD_eq_getElem?_getD,List.getElem?_eq_getElem hir]; exact List.getElem_mem hir)
       have hc2:(inSco c (c.ress.getD i []) (i + 1)).fre g:=⟨hc.any,hc.dne,hc.dev,hc.res,fun m hm'=>by
        rcases List.mem_append.1 hm' with h | h
        ·exact hc.held m h
        ·rw [List.mem_singleton.1 h]; exact hm⟩
       exact ⟨hm,g0,trivial,hr _ rfl _ hc2 _,trivial⟩
      ·split
       ·exact ⟨g0,g0,⟨ex _ _,trivial⟩,hr _ rfl c hc _,hr _ rfl c hc _⟩
       ·split
        ·exact ⟨g0,g0,trivial,hr _ rfl c hc _,trivial⟩
        ·exact hset s
include g0 gx in
theorem stmtsL_fre:∀ (d:Nat) (c:Sco),c.fre g → ∀ s,freSs g (stmtsL d c s).1
 | 0,c,hc,s=>freSs_all (stmtsN_all (fun s=>stmtB_fre g0 gx hc (fun f h=>by cases h) (by rw [hc.any]; exact gx _ (nameF_mem (by decide))) _ _) _ _)
 | d + 1,c,hc,s=>freSs_all (stmtsN_all (fun s=>stmtB_fre g0 gx hc (fun f h c hc s=>by cases h; exact stmtsL_fre d c hc s) (by rw [hc.any]; exact gx _ (nameF_mem (by decide))) _ _) _ _)
end
theorem progL_body (raw:List Int):∀ t ∈ (progL raw false).tasks,∃ d s,t.body=(stmtsL d ⟨(progL raw false).devs.map (·.name),(progL raw false).ress.map (·.name),0,[],false⟩ s).1:=by
 generalize hp:progL raw false=p
 unfold progL at hp
 dsimp only at hp
 generalize nextL (raw.take 400) 3=a at *
 generalize nextL a.2 3=nd at *
 generalize nmsL devNs 3 (nd.1 + 1) 0 nd.2=ds at *
 generalize nextL ds.2 3=nr at *
 generalize nmsL resNs 8 nr.1 0 nr.2=rs at *
 obtain ⟨c,hc⟩:∃ c:Sco,(⟨ds.1.map (·.name),rs.1.map (·.name),0,[],false⟩:Sco)=c:=⟨_,rfl⟩
 rw [hc] at hp
 have h6f:=ts_facts c (1 + a.1) 0 rs.2
 generalize tsksL c (1 + a.1) 0 rs.2=ts at *
 generalize nextL ts.2 4=nh at *
 have h8f:=hs_facts c (H:=1 + a.1) (by omega) nh.1 0 nh.2
 generalize hndsL c (1 + a.1) nh.1 0 nh.2=hs at *
 have hdv:p.devs=ds.1:=by rw [← hp]
 have hrs:p.ress=rs.1:=by rw [← hp]
 have hht:p.tasks=ts.1++hs.1:=by rw [← hp]
 intro t ht
 rw [hdv,hrs,hc]
 rw [hht] at ht
 rcases List.mem_append.1 ht with ht | ht
 ·exact ⟨_,(h6f t ht).2.2.2⟩
 ·exact ⟨_,(h8f t ht).2.2.2.2⟩
theorem free_nm:∀ (nd:Fin 4) (nr:Fin 3) (H:Fin 4) (nh:Fin 4),(allNs nd.val nr.val H.val nh.val).all (fun m=>m != [111,116,104,101,114])=true:=by decide +kernel
theorem progL_fre (raw:List Int) {nd nr H nh:Nat} (hf:Facts (progL raw false) nd nr H nh):(∀ x ∈ namesP (progL raw false),x≠[111,116,104,101,114]) ∧ ∀ t ∈ (progL raw false).tasks,freSs [111,116,104,101,114] t.body:=by
 have h1:∀ x ∈ namesP (progL raw false),x≠[111,116,104,101,114]:=fun x hx=>by
  obtain ⟨a1,a2⟩:=hf.b1
  obtain ⟨a3,a4⟩:=hf.b3
  have:=free_nm ⟨nd,by omega⟩ ⟨nr,by have:=hf.b2; omega⟩ ⟨H,by omega⟩ ⟨nh,by have:=hf.b4; omega⟩
  dsimp only at this
  rw [← hf.names,List.all_eq_true] at this
  simpa using this x hx
 refine ⟨h1,fun t ht=>?_⟩
 obtain ⟨d,s,e⟩:=progL_body raw t ht
 rw [e]
 refine stmtsL_fre (by decide) (by decide) d _ ⟨rfl,?_,?_,?_,by simp⟩ s
 ·dsimp only; rw [hf.dn]; intro e
  have:=congrArg List.length e
  simp only [List.length_take,List.length_nil] at this
  have:devNs.length=3:=rfl
  have:=hf.b1
  omega
 ·intro m hm; exact h1 m (by unfold namesP; simp only [List.mem_append]; exact .inl (.inl hm))
 ·intro m hm; exact h1 m (by unfold namesP; simp only [List.mem_append]; exact .inl (.inr hm))
def renT (f g:List UInt8) (t:Tsk):Tsk:={ t with name:=renN f g t.name,body:=renSs f g t.body }
def renNm (f g:List UInt8) (d:Nm):Nm:={ d with name:=renN f g d.name }
def renP (f g:List UInt8) (p:Prg):Prg:={ p with devs:=p.devs.map (renNm f g),ress:=p.ress.map (renNm f g),tasks:=p.tasks.map (renT f g) }
theorem renP_names (f g:List UInt8) (p:Prg):namesP (renP f g p)=(namesP p).map (renN f g):=by
 unfold namesP renP; simp only [List.map_append,List.map_map]; rfl
theorem nodup_ren {f g:List UInt8}:∀ {l:List (List UInt8)},(∀ x ∈ l,x≠g)→l.Nodup→(l.map (renN f g)).Nodup
 | [],_,_=>List.nodup_nil
 | a::r,h,hn=>by
  rw [List.nodup_cons] at hn
  rw [List.map_cons,List.nodup_cons]
  refine ⟨fun hm=>hn.1 ?_,nodup_ren (fun x hx=>h x (by simp [hx])) hn.2⟩
  obtain ⟨x,hx,e⟩:=List.mem_map.1 hm
  rw [← (renN_inj (h x (by simp [hx])) (h a (by simp))).1 e]; exact hx
theorem renP_zero {p:Prg} {f g:List UInt8} (hg:isName g=true) (hf:f≠[]) (hr:rightP p=true) (hn:(namesP p).Nodup) (ht:TasksOk p) (hb:∀ t ∈ p.tasks,okSs p (namesP p) [] t.body) (fn:∀ x ∈ namesP p,x≠g) (fb:∀ t ∈ p.tasks,freSs g t.body) {e i n:Int} (hc:CheckIs (renP f g p) e i n):e=0∧i=0∧n=0:=by
 have hd:(renP f g p).devs.map (·.name)=(p.devs.map (·.name)).map (renN f g):=by simp only [renP,List.map_map]; rfl
 have hs:(renP f g p).ress.map (·.name)=(p.ress.map (·.name)).map (renN f g):=by simp only [renP,List.map_map]; rfl
 refine hc.zero ?_ (by rw [renP_names]; exact nodup_ren fn hn) (ht.key rfl ?_) fun t' ht'=>?_
 ·have h0:=rightP_st hr
  simp only [rightP,Bool.and_eq_true,decide_eq_true_eq,List.all_eq_true] at hr ⊢
  obtain ⟨⟨⟨⟨⟨⟨a1,a2⟩,a3⟩,a4⟩,a5⟩,a6⟩,a7⟩:=hr
  refine ⟨⟨⟨⟨⟨⟨a1,by simpa [renP] using a2⟩,by simpa [renP] using a3⟩,by simpa [renP] using a4⟩,fun d hd=>?_⟩,fun d hd=>?_⟩,fun t ht=>?_⟩
  ·obtain ⟨d0,h1,rfl⟩:=List.mem_map.1 hd
   have:=a5 d0 h1
   simp only [devOk,Bool.and_eq_true] at this ⊢
   exact ⟨ren_name hg this.1,this.2⟩
  ·obtain ⟨d0,h1,rfl⟩:=List.mem_map.1 hd
   have:=a6 d0 h1
   simp only [resOk,Bool.and_eq_true] at this ⊢
   exact ⟨ren_name hg this.1,this.2⟩
  ·obtain ⟨t0,h1,rfl⟩:=List.mem_map.1 ht
   have:=a7 t0 h1
   simp only [taskOk,Bool.and_eq_true,wellSs_all,List.all_eq_true] at this ⊢
   refine ⟨⟨⟨⟨ren_name hg this.1.1.1.1,this.1.1.1.2⟩,this.1.1.2⟩,this.1.2⟩,fun s hs=>(wellS_iff 30 s).2 (renSs_I hg hf t0.body 30 (h0 t0 h1) s hs)⟩
 ·simp only [renP,List.map_map]; rfl
 ·obtain ⟨t0,h1,rfl⟩:=List.mem_map.1 ht'
  rw [renP_names]
  exact ren_okSs hd hs (fun x hx=>fn x (by unfold namesP; simp only [List.mem_append]; exact .inl (.inl hx))) (fun x hx=>fn x (by unfold namesP; simp only [List.mem_append]; exact .inl (.inr hx))) fn t0.body [] (by simp) (fb t0 h1) (hb t0 h1)
end Go.Eng.Sy
