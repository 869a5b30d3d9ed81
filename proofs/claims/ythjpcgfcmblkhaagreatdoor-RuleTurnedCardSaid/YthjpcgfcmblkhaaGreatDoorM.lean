/-
  Part of a proof of the laws of layer 08 (rule): the laws.
  Conditions: none.
-/
import Derived.Test.YthjpcgfcmblkhaaGreatDoorEc
import Derived.Test.YthjpcgfcmblkhaaGreatDoorProg
import Derived.KernelRfl
import Derived.Test.YthjpcgfcmblkhaaGreatDoorBe
import Derived.Test.YthjpcgfcmblkhaaGreatDoorBx
set_option linter.unusedSectionVars false
set_option linter.unusedSimpArgs false
set_option linter.unusedVariables false
namespace Go.Eng.Sy
open Go Go.Eng Go.Proofs
noncomputable def c5_r0:List SOp:=[⟨0,.p .mov,[.c (.bool false)],none,false⟩]
noncomputable def c5_r1:List SOp:=[⟨0,.call 8,[],none,false⟩,⟨1,.p .mov,[.t 0],none,false⟩]
noncomputable def c5_r2:List SOp:=[⟨0,.p .mov,[.v 0],none,false⟩,⟨1,.call 9,[.t 0,.c (.bool false)],none,false⟩,⟨2,.a (.new [.int .i64 0,.slice none 0 0,.slice none 0 0,.slice none 0 0]),[],none,false⟩,⟨3,.w (.store 4),[.t 0,.t 1],none,false⟩]
noncomputable def c5_r3:List SOp:=[⟨0,.p (.fieldAddr 3),[.v 4],none,false⟩,⟨1,.r (.load false 1),[.t 0],none,false⟩,⟨2,.p .lenS,[.t 0],none,false⟩,⟨3,.p .mov,[.t 0],none,false⟩]
noncomputable def c5_r4:List SOp:=[⟨0,.p .mov,[.v 1],none,false⟩,⟨1,.p .mov,[.v 5],none,false⟩,⟨2,.call 13,[.t 1,.t 0],none,false⟩,⟨3,.p .mov,[.t 0],none,false⟩]
noncomputable def c5_r5:List SOp:=[⟨0,.r (.load true 4),[.v 4],none,false⟩,⟨1,.a (.new [.int .i64 0,.slice none 0 0,.slice none 0 0,.slice none 0 0]),[],none,false⟩,⟨2,.w (.store 4),[.t 0,.t 1],none,false⟩]
noncomputable def c5_r6:List SOp:=[⟨0,.p (.fieldAddr 3),[.v 4],none,false⟩,⟨1,.r (.load false 1),[.t 0],none,false⟩,⟨2,.p .mov,[.v 6],none,false⟩,⟨3,.p (.sliceS 6 true false),[.t 1,.t 0],none,false⟩,⟨4,.w (.append 6 72),[.c (.slice none 0 0),.t 0],none,true⟩,⟨5,.p (.fieldAddr 3),[.v 4],none,false⟩,⟨6,.r (.load false 1),[.t 0],none,false⟩,⟨7,.p .mov,[.v 6],none,false⟩,⟨8,.p (.sliceS 6 false true),[.t 1,.t 0],none,false⟩,⟨9,.w (.append 6 72),[.t 4,.t 0],none,false⟩,⟨10,.p (.fieldAddr 3),[.v 7],none,false⟩,⟨11,.w (.store 1),[.t 0,.t 1],none,false⟩]
noncomputable def c5_r7:List SOp:=[⟨0,.r (.load true 4),[.v 7],none,false⟩,⟨1,.call 10,[.t 0],none,false⟩,⟨2,.p .mov,[.t 0],none,false⟩,⟨3,.p (.extract 0),[.t 0],none,false⟩,⟨4,.p (.extract 1),[.t 1],none,false⟩,⟨5,.a (.new [.int .i64 0,.int .i64 0]),[],none,false⟩,⟨6,.p .mov,[.t 2],none,false⟩,⟨7,.w (.store 2),[.t 1,.t 2],none,false⟩]
noncomputable def c5_r8:List SOp:=[⟨0,.p (.fieldAddr 3),[.v 7],none,false⟩,⟨1,.r (.load false 1),[.t 0],none,false⟩,⟨2,.p (.idxAddrS 6),[.t 0,.c (.int .i64 0)],none,false⟩,⟨3,.r (.load true 6),[.t 0],none,false⟩,⟨4,.a (.new [.string ⟨#[]⟩,.bool false,.int .i64 0,.int .i64 0,.int .i64 0,.slice none 0 0]),[],none,false⟩,⟨5,.w (.store 6),[.t 0,.t 1],none,false⟩]
noncomputable def c5_r9:List SOp:=[⟨0,.p (.fieldAddr 5),[.v 9],none,false⟩,⟨1,.r (.load false 1),[.t 0],none,false⟩,⟨2,.w (.append 7 120),[.c (.slice none 0 0),.t 0],none,false⟩,⟨3,.p (.build [.int .i64 0,.string ⟨#[]⟩,.string ⟨#[]⟩,.int .i64 0,.slice none 0 0,.slice none 0 0,.slice none 0 0] [(0,1),(1,1)]),[.c (.int .i64 5),.c (.string ⟨#[115,116,114,97,110,103,101]⟩)],none,false⟩,⟨4,.a (.bslice [.int .i64 0,.string ⟨#[]⟩,.string ⟨#[]⟩,.int .i64 0,.slice none 0 0,.slice none 0 0,.slice none 0 0] [(0,7)] 1 7),[.t 0],none,false⟩,⟨5,.w (.append 7 120),[.t 2,.t 0],none,false⟩,⟨6,.p (.fieldAddr 5),[.v 9],none,false⟩,⟨7,.w (.store 1),[.t 0,.t 1],none,false⟩]
noncomputable def c5_r10:List SOp:=[⟨0,.p (.fieldAddr 5),[.v 9],none,false⟩,⟨1,.r (.load false 1),[.t 0],none,false⟩,⟨2,.call 14,[.t 0,.c (.int .i64 (-1))],none,false⟩,⟨3,.p .mov,[.t 0],none,false⟩,⟨4,.p (.extract 0),[.t 0],none,false⟩,⟨5,.p (.extract 1),[.t 1],none,false⟩,⟨6,.p .mov,[.t 1],none,false⟩,⟨7,.p .mov,[.t 1],none,false⟩]
noncomputable def c5_r11:List SOp:=[⟨0,.p (.fieldAddr 3),[.v 7],none,false⟩,⟨1,.r (.load false 1),[.t 0],none,false⟩,⟨2,.r (.load true 6),[.v 9],none,false⟩,⟨3,.p (.idxAddrS 6),[.t 1,.c (.int .i64 0)],none,false⟩,⟨4,.w (.store 6),[.t 0,.t 1],none,false⟩]
noncomputable def c5_r12:List SOp:=[⟨0,.r (.load true 4),[.v 7],none,false⟩,⟨1,.call 10,[.t 0],none,false⟩,⟨2,.p .mov,[.t 0],none,false⟩,⟨3,.p (.extract 0),[.t 0],none,false⟩,⟨4,.p (.extract 1),[.t 1],none,false⟩,⟨5,.a (.new [.int .i64 0,.int .i64 0]),[],none,false⟩,⟨6,.p .mov,[.t 2],none,false⟩,⟨7,.w (.store 2),[.t 1,.t 2],none,false⟩]
noncomputable def c5_r13:List SOp:=[⟨0,.p (.fieldAddr 3),[.v 7],none,false⟩,⟨1,.r (.load false 1),[.t 0],none,false⟩,⟨2,.p .mov,[.v 5],none,false⟩,⟨3,.p .mov,[.v 6],none,false⟩,⟨4,.p (.bin .sub),[.t 1,.t 0],none,false⟩,⟨5,.p (.sliceS 6 true false),[.t 3,.t 0],none,false⟩,⟨6,.w (.append 6 72),[.c (.slice none 0 0),.t 0],none,false⟩,⟨7,.p .mov,[.t 0],none,false⟩]
noncomputable def c5_r14:List SOp:=[⟨0,.p .mov,[.v 13],none,false⟩,⟨1,.p (.fieldAddr 3),[.v 7],none,false⟩,⟨2,.r (.load false 1),[.t 0],none,false⟩,⟨3,.p .mov,[.v 5],none,false⟩,⟨4,.p .mov,[.v 6],none,false⟩,⟨5,.p (.bin .sub),[.t 1,.t 0],none,false⟩,⟨6,.p (.sliceS 6 false true),[.t 3,.t 0],none,false⟩,⟨7,.w (.append 6 72),[.t 6,.t 0],none,false⟩,⟨8,.p (.fieldAddr 3),[.v 7],none,false⟩,⟨9,.w (.store 1),[.t 0,.t 1],none,false⟩]
noncomputable def c5_r15:List SOp:=[⟨0,.r (.load true 4),[.v 7],none,false⟩,⟨1,.call 10,[.t 0],none,false⟩,⟨2,.p .mov,[.t 0],none,false⟩,⟨3,.p (.extract 0),[.t 0],none,false⟩,⟨4,.p (.extract 1),[.t 1],none,false⟩,⟨5,.a (.new [.int .i64 0,.int .i64 0]),[],none,false⟩,⟨6,.p .mov,[.t 2],none,false⟩,⟨7,.w (.store 2),[.t 1,.t 2],none,false⟩]
noncomputable def c5_r16:List SOp:=[⟨0,.p .mov,[.v 3],none,false⟩,⟨1,.p .mov,[.t 0],none,false⟩,⟨2,.p .mov,[.v 8],some (0,true),false⟩,⟨3,.p (.bin .eql),[.t 0,.c (.int .i64 0)],some (1,true),false⟩,⟨4,.p .pick,[.t 2,.t 0,.c (.bool false)],none,false⟩,⟨5,.p .mov,[.t 0],none,false⟩,⟨6,.p .mov,[.v 11],some (0,true),false⟩,⟨7,.p (.bin .eql),[.t 0,.c (.int .i64 84)],some (1,true),false⟩,⟨8,.p .pick,[.t 2,.t 0,.c (.bool false)],none,false⟩,⟨9,.p .mov,[.t 0],none,false⟩,⟨10,.r (.load true 2),[.v 12],some (0,true),false⟩,⟨11,.p .mov,[.v 10],some (1,true),false⟩,⟨12,.p (.bin .sub),[.t 0,.c (.int .i64 1)],some (2,true),false⟩,⟨13,.p (.build [.int .i64 0,.int .i64 0] [(0,1),(1,1)]),[.c (.int .i64 0),.t 0],some (3,true),false⟩,⟨14,.p (.eqK 31 (keyGood Tryz.prog 31) false),[.t 3,.t 0],some (4,true),false⟩,⟨15,.p .pick,[.t 5,.t 0,.c (.bool false)],none,false⟩,⟨16,.p .mov,[.t 0],none,false⟩,⟨17,.p .mov,[.v 14],some (0,true),false⟩,⟨18,.p .mov,[.v 11],some (1,true),false⟩,⟨19,.p (.bin .eql),[.t 1,.t 0],some (2,true),false⟩,⟨20,.p .pick,[.t 3,.t 0,.c (.bool false)],none,false⟩,⟨21,.p .mov,[.t 0],none,false⟩,⟨22,.r (.load true 2),[.v 15],some (0,true),false⟩,⟨23,.p .mov,[.v 6],some (1,true),false⟩,⟨24,.p .mov,[.v 10],some (2,true),false⟩,⟨25,.p (.bin .sub),[.t 0,.c (.int .i64 1)],some (3,true),false⟩,⟨26,.p (.build [.int .i64 0,.int .i64 0] [(0,1),(1,1)]),[.t 2,.t 0],some (4,true),false⟩,⟨27,.p (.eqK 31 (keyGood Tryz.prog 31) false),[.t 4,.t 0],some (5,true),false⟩,⟨28,.p .pick,[.t 6,.t 0,.c (.bool false)],none,false⟩,⟨29,.p .mov,[.t 0],none,false⟩]
noncomputable def c5:CFn:={ nargs:=2,vars:=[0,1,4,5,6,7,8,9,10,12,14,15,16,17,18,19],results:=[.var 2],body:=(.seq (.reg c5_r0 [(2,0)]) (.seq (.reg c5_r1 [(3,0)]) (.seq (.reg c5_r2 [(4,1)]) (.seq (.reg c5_r3 [(5,0)]) (.seq (.reg c5_r4 [(6,0)]) (.seq (.reg c5_r5 [(7,1)]) (.seq (.reg c5_r6 []) (.seq (.reg c5_r7 [(8,1)]) (.seq (.reg c5_r8 [(9,1)]) (.seq (.reg c5_r9 []) (.seq (.reg c5_r10 [(10,0)]) (.seq (.reg c5_r11 []) (.seq (.reg c5_r12 [(11,1),(12,2)]) (.seq (.reg c5_r13 [(13,0)]) (.seq (.reg c5_r14 []) (.seq (.reg c5_r15 [(14,1),(15,2)]) (.seq (.reg c5_r16 [(2,0)]) .ret))))))))))))))))) }
set_option maxRecDepth 100000 in
theorem ok5:FnOk Tryz.prog 5 c5:=compF_ok (na:=c5.nargs) (vars:=c5.vars) (by kernel_rfl)
end Go.Eng.Sy
namespace Go.Eng.Sy
open Go Go.Eng Go.Proofs
mutual
def cntS:St→Nat
 | .mk _ _ _ _ _ t e=>1 + cntSs t + cntSs e
def cntSs:List St→Nat
 | []=>0
 | s::r=>cntS s + cntSs r
end
mutual
theorem cntS_flat (hs:List (List UInt8)):∀ (s:St),(flatS hs s).length=cntS s
 | .mk k m f n a t e=>by
  simp only [flatS,List.length_cons,List.length_append,cntS]
  rw [cntSs_flat _ t,cntSs_flat _ e]; omega
theorem cntSs_flat (hs:List (List UInt8)):∀ (l:List St),(flatSs hs l).length=cntSs l
 | []=>rfl
 | s::r=>by simp only [flatSs,List.length_append,cntSs]; rw [cntS_flat hs s,cntSs_flat hs r]
end
theorem cntSs_app:∀ (a b:List St),cntSs (a++b)=cntSs a + cntSs b
 | [],b=>by simp [cntSs]
 | s::a,b=>by simp only [List.cons_append,cntSs,cntSs_app a b]; omega
mutual
def lessS:St→Int→List St
 | .mk kd m f n a t e,k=>if k=0 then [] else [.mk kd m f n a (lessSs t (k - 1)) (lessSs e (k - 1 - cntSs t))]
def lessSs:List St→Int→List St
 | [],_=>[]
 | s::r,k=>lessS s k++lessSs r (k - cntS s)
end
theorem lessSs_app:∀ (a b:List St) (k:Int),lessSs (a++b) k=lessSs a k++lessSs b (k - cntSs a)
 | [],b,k=>by simp [lessSs,cntSs]
 | s::a,b,k=>by
  simp only [List.cons_append,lessSs,lessSs_app a b,cntSs,List.append_assoc]
  rw [show k - (cntS s:Int) - (cntSs a:Int)=k - ((cntS s + cntSs a:Nat):Int) by omega]
section
variable {p:Prg} {nm:List (List UInt8)}
end
mutual
theorem lessS_len:∀ (s:St) (k:Int),(lessS s k).length≤1
 | .mk kd m f n a t e,k=>by simp only [lessS]; split<;>simp
theorem lessSs_len:∀ (ss:List St) (k:Int),(lessSs ss k).length≤ss.length
 | [],k=>by simp [lessSs]
 | s::r,k=>by
  have h1:=lessS_len s k
  have h2:=lessSs_len r (k - cntS s)
  simp only [lessSs,List.length_append,List.length_cons]; omega
end
theorem set_names {p:Prg} {k:Nat} {t:Tsk} (hk:p.tasks[k]? = some t) (b:List St):namesP { p with tasks:=p.tasks.set k { t with body:=b } }=namesP p:=by
 unfold namesP
 dsimp only
 congr 1
 rw [List.map_set]
 have:(p.tasks.map (·.name))[k]? = some t.name:=by simp [hk]
 exact List.ext_getElem? fun i=>by
  rw [List.getElem?_set]
  split
  ·rename_i h; subst h
   rw [this]
   have hl:k < p.tasks.length:=(List.getElem?_eq_some_iff.1 hk).1
   simp [hl]
  ·rfl
end Go.Eng.Sy
namespace Go.Eng.Sy
open Go Go.Eng Go.Proofs
theorem StCsB.get' {B:Nat→Prop} {h:Heap}:∀ {l:List St} {xs:List (List Value)},StCsB B h l xs → ∀ {i:Nat} {e:St},l[i]? = some e → ∃ x,xs[i]? = some x∧StCB B h e x
 | [],_,_,i,e,hi=>by simp at hi
 | _::_,_,⟨x,xr,h1,h2,h3⟩,0,e,hi=>by simp at hi; subst hi; exact ⟨x,by rw [h1]; rfl,h2⟩
 | _::_,_,⟨x,xr,h1,h2,h3⟩,i + 1,e,hi=>by
  obtain ⟨y,hy,hz⟩:=StCsB.get' h3 (i:=i) (by simpa using hi)
  exact ⟨y,by rw [h1]; simpa using hy,hz⟩
theorem cntS_eq (s:St):cntS s=1 + cntSs s.thn + cntSs s.els:=by cases s; rfl
theorem lessS_eq (s:St) (k:Int):lessS s k=if k=0 then [] else [.mk s.kind s.name s.src s.n s.args (lessSs s.thn (k - 1)) (lessSs s.els (k - 1 - cntSs s.thn))]:=by cases s; simp only [lessS,St.kind,St.name,St.src,St.n,St.args,St.thn,St.els]
theorem cnt_take {l:List St} {i:Nat} {s:St} (hi:l[i]? = some s):cntSs (l.take (i + 1))=cntSs (l.take i) + cntS s∧cntSs (l.take i) + cntS s≤cntSs l:=by
 have e:l.take (i + 1)=l.take i++[s]:=by rw [List.take_add_one,hi]; rfl
 have e2:cntSs (l.take (i + 1))=cntSs (l.take i) + cntS s:=by rw [e,cntSs_app]; simp [cntSs]
 refine ⟨e2,?_⟩
 have:=cntSs_app (l.take (i + 1)) (l.drop (i + 1))
 rw [List.take_append_drop] at this
 omega
theorem less_take {l:List St} {i:Nat} {s:St} (hi:l[i]? = some s) (k:Int):lessSs (l.take (i + 1)) k=lessSs (l.take i) k++lessS s (k - cntSs (l.take i)):=by
 have e:l.take (i + 1)=l.take i++[s]:=by rw [List.take_add_one,hi]; rfl
 rw [e,lessSs_app]; simp [lessSs]
def LessC (m:Nat):Prop:=∀ (ss:List St) (B:Nat→Prop) (v:Value) (h:Heap) (k:Int) (Q:Value→Heap→Prop),cntSs ss < m→cntSs ss≤1000000 → -1000000000000≤k - cntSs ss→k≤1000000000000→StsVB B h v ss→(∀ id,h.next≤id→B id) →
 (∀ h' v',h.le h' → StsVB B h' v' (lessSs ss k)→Q (.tuple #[v',.int .i64 (cntSs ss)]) h')→CallW Tryz.prog 14 [v,.int .i64 k] h Q
theorem cnt_len:∀ (l:List St),l.length≤cntSs l
 | []=>by simp
 | s::r=>by have:=cnt_len r; simp only [List.length_cons,cntSs,cntS_eq s]; omega
set_option maxHeartbeats 2000000 in
theorem less_of {m:Nat} (ih:LessC m):LessC (m + 1):=by
 intro ss B v h k Q hm hbd hk1 hk2 hv hB hq
 have hln:=hv.plain.len
 have hsl:=cnt_len ss
 have hv0:StsVB (fun id=>B id∧id < h.next) h v ss:=hv.to fun id cs own hb hg=>⟨⟨hb,Heap.lt_of_get hg⟩,hg⟩
 replace ih:=Hid.mk ih; replace hv:=Hid.mk hv; replace hB:=Hid.mk hB; replace hv0:=Hid.mk hv0
 refine call_of2 (k:=2) (j:=3) ok14 rfl rfl rfl fun N=>?_
 rw [show env0 c14 [v,.int .i64 k]=[v,.int .i64 k,undef,undef,undef,undef,undef,undef,undef,undef,undef,undef,undef] from rfl]
 delta c14 c14_r0 c14_r1 c14_r2 c14_r3 c14_r4 c14_r5 c14_r6 c14_r7 c14_r8 c14_r9 c14_r10 c14_r11 c14_r12 c14_r13 c14_r14 c14_r15 c14_r16 c14_r18
 replace hq:=Hid.mk hq
 repeat' (first | simp -implicitDefEqProofs only [walkL,aR,aW,aBin,aInt,Int.reduceBEq,Int.reduceBNe,Nat.reduceBEq,Int.reduceLT,Int.reduceLE, *] | with_reducible (first | refine kcd ?_ ?_ | refine kgd ?_ ?_ | refine kci ?_ ?_ | refine kgi ?_ ?_)<;>intro hc)
 refine LoopW.upto ss.length (fun i e h3=>∃ vo xs x7 x8 x9 x10 x11 x12,e=[v,.int .i64 k,nilS,.int .i64 0,vo,.int .i64 (cntSs (ss.take i)),.int .i64 i,x7,x8,x9,x10,x11,x12]∧h.le h3∧OwnS (emptyH h.next) h3 7 vo xs∧StCsB (fun id=>B id∧notOf vo id) h3 (lessSs (ss.take i) k) xs) ?_ (Nat.zero_le _) ⟨nilS,[],_,_,_,_,_,_,rfl,Heap.le.refl _,OwnS.nil _ _ _,by simp only [List.take_zero,lessSs]; rfl⟩
 rintro i _ h3 R hi ⟨vo,xs,x7,x8,x9,x10,x11,x12,rfl,l3,ho3,hx3⟩ hR
 delta c14_l17 c14_r0 c14_r1 c14_r2 c14_r3 c14_r4 c14_r5 c14_r6 c14_r7 c14_r8 c14_r9 c14_r10 c14_r11 c14_r12 c14_r13 c14_r14 c14_r15 c14_r16 c14_r18
 by_cases hlt:i < ss.length
 case neg =>
  have hlt' : ¬ (i:Int) < ss.length:=by omega
  rw [List.take_of_length_le (by omega)] at hx3
  rw [List.take_of_length_le (by omega)]
  have hxl:=hx3.length
  have hll:=lessSs_len ss k
  have g:=hq.h h3 vo l3 ⟨xs,SlVB.to (Heap.toB_id fun id hb=>hB.h id hb) (OwnS.slB ho3),by omega,hx3.to (Heap.toB_id fun id hb=>hb.1)⟩
  replace g:=Hid.mk g; replace l3:=Hid.mk l3; replace ho3:=Hid.mk ho3; replace hx3:=Hid.mk hx3
  repeat' (first | simp -implicitDefEqProofs only [walkL,aR,aW,aBin,aInt,Int.reduceBEq,Int.reduceBNe,Nat.reduceBEq,Int.reduceLT,Int.reduceLE, *] | with_reducible (first | refine kcd ?_ ?_ | refine kgd ?_ ?_ | refine kci ?_ ?_ | refine kgi ?_ ?_)<;>intro hc)
  exact g.h
 case pos =>
  have hlt' : (i:Int) < ss.length:=by omega
  have hw:IntKind.i64.wrap ((i:Int) + 1)=((i + 1:Nat):Int):=by rw [wrapI (by omega) (by omega)]; rfl
  obtain ⟨s,he⟩:∃ e,ss[i]? = some e:=⟨_,List.getElem?_eq_getElem hlt⟩
  obtain ⟨ct1,ct2⟩:=cnt_take he
  have lt1:=less_take he k
  have ceq:=cntS_eq s
  obtain ⟨n,hn⟩:∃ n,cntSs (ss.take i)=n:=⟨_,rfl⟩
  rw [hn] at ct1 ct2 lt1
  rw [hn]
  obtain ⟨xs0,a1,a2,a3⟩:=hv0.h
  obtain ⟨x,hx,hxs⟩:=a3.get' he
  obtain ⟨id,off,cells,own,e1,e2,e3,_⟩:=(a1.plain.mono l3).elem hx
  obtain ⟨va,vu,vw,rfl,hva,hvu,hvw⟩:=hxs.cells
  have iA:IsS va:=hva.isS
  have iU:IsS vu:=hvu.isS
  have iW:IsS vw:=hvw.isS
  have st:wStore 7 (h3.alloc (.blk zS true)) [.pointer (some ⟨h3.next,0,none⟩),stV s.kind s.name s.src s.n va vu vw]=some (undef,h3.alloc (.blk [.int .i64 s.kind,str s.name,str s.src,.int .i64 s.n,va,vu,vw] true)):=by
   obtain ⟨_,_,_,rfl⟩:=iA; obtain ⟨_,_,_,rfl⟩:=iU; obtain ⟨_,_,_,rfl⟩:=iW; exact wStore_new rfl rfl rfl rfl
  have gq:=Heap.get_alloc_same h3 (.blk [.int .i64 s.kind,str s.name,str s.src,.int .i64 s.n,va,vu,vw] true)
  have lh4:=(Heap.le.refl h3).alloc (.blk [.int .i64 s.kind,str s.name,str s.src,.int .i64 s.n,va,vu,vw] true)
  obtain ⟨q,eq⟩:∃ x_,h3.next=x_:=⟨_,rfl⟩
  obtain ⟨h4,eh4⟩:∃ x_,h3.alloc (.blk [.int .i64 s.kind,str s.name,str s.src,.int .i64 s.n,va,vu,vw] true)=x_:=⟨_,rfl⟩
  rw [eh4] at gq lh4
  rw [eq] at gq
  rw [eh4,eq] at st
  have hqn:h.next≤q:=by have:=l3.next; omega
  have hq3:h3.next=q:=eq
  have l4:=l3.trans lh4
  have hvo:∀ id,h3.next≤id→notOf vo id:=fun id hid=>ho3.notOf_new hid
  have hB' : ∀ id,h4.next≤id→(B id∧notOf vo id)∧id≠q:=fun id hid=>⟨⟨hB.h id (by have:=l4.next; omega),hvo id (by have:=lh4.next; omega)⟩,by have:=Heap.lt_of_get gq; omega⟩
  have toN:∀ hN:Heap,h.le hN→Heap.toB (fun id=>B id∧id < h.next) (fun id=>(B id∧notOf vo id)∧id≠q) h hN:=fun hN hl id cs own hb hg=>⟨⟨⟨hb.1,ho3.notOf hb.2⟩,by have:=hb.2; omega⟩,hl.get hg⟩
  have w1:IntKind.i64.wrap ((n:Int) + 1)=((n + 1:Nat):Int):=by rw [wrapI (by omega) (by omega)]; rfl
  have w2:IntKind.i64.wrap (k - ((n + 1:Nat):Int))=k - ((n + 1:Nat):Int):=by rw [wrapI (by omega) (by omega)]
  have w3:IntKind.i64.wrap (((n + 1:Nat):Int) + (cntSs s.thn:Int))=((n + 1 + cntSs s.thn:Nat):Int):=by rw [wrapI (by omega) (by omega)]; rfl
  have w4:IntKind.i64.wrap (k - ((n + 1 + cntSs s.thn:Nat):Int))=k - ((n + 1 + cntSs s.thn:Nat):Int):=by rw [wrapI (by omega) (by omega)]
  have w5:IntKind.i64.wrap (((n + 1 + cntSs s.thn:Nat):Int) + (cntSs s.els:Int))=((n + 1 + cntSs s.thn + cntSs s.els:Nat):Int):=by rw [wrapI (by omega) (by omega)]; rfl
  obtain ⟨bh,hbh⟩:∃ b:Bool,decide ((n:Int)=k)=b:=⟨_,rfl⟩
  clear a1 a2 a3 hxs
  replace l3:=Hid.mk l3; replace ho3:=Hid.mk ho3; replace hx3:=Hid.mk hx3; replace lh4:=Hid.mk lh4; replace l4:=Hid.mk l4; replace hvo:=Hid.mk hvo; replace hB':=Hid.mk hB'; replace toN:=Hid.mk toN; replace hva:=Hid.mk hva; replace hvu:=Hid.mk hvu; replace hvw:=Hid.mk hvw; replace ct1:=Hid.mk ct1; replace ct2:=Hid.mk ct2; replace lt1:=Hid.mk lt1; replace ceq:=Hid.mk ceq; replace hqn:=Hid.mk hqn; replace hn:=Hid.mk hn; replace hq3:=Hid.mk hq3; replace iA:=Hid.mk iA; replace iU:=Hid.mk iU; replace iW:=Hid.mk iW; replace hx:=Hid.mk hx
  repeat' (first | simp -implicitDefEqProofs only [walkL,aR,aW,aBin,aInt,Int.reduceBEq,Int.reduceBNe,Nat.reduceBEq,Int.reduceLT,Int.reduceLE,partL7, *] | with_reducible (first | refine kcd ?_ ?_ | refine kgd ?_ ?_ | refine kci ?_ ?_ | refine kgi ?_ ?_)<;>intro hc)
  refine ih.h s.thn _ vu h4 _ _ (by have:=ct1.h; have:=ct2.h; have:=ceq.h; omega) (by have:=ct2.h; have:=ceq.h; omega) (by have:=ct2.h; have:=ceq.h; omega) (by omega) (hvu.h.to (toN.h h4 l4.h)) hB'.h fun h5 v9 l5 hv9=>?_
  have gq5:=l5.get gq
  have l05:=l4.h.trans l5
  replace l5:=Hid.mk l5; replace l05:=Hid.mk l05; replace hv9:=Hid.mk hv9
  repeat' (first | simp -implicitDefEqProofs only [walkL,aR,aW,aBin,aInt,Int.reduceBEq,Int.reduceBNe,Nat.reduceBEq,Int.reduceLT,Int.reduceLE,partL7, *] | with_reducible (first | refine kcd ?_ ?_ | refine kgd ?_ ?_ | refine kci ?_ ?_ | refine kgi ?_ ?_)<;>intro hc)
  refine ih.h s.els _ vw h5 _ _ (by have:=ct1.h; have:=ct2.h; have:=ceq.h; omega) (by have:=ct2.h; have:=ceq.h; omega) (by have:=ct2.h; have:=ceq.h; omega) (by omega) (hvw.h.to (toN.h h5 l05.h)) (fun id hid=>hB'.h id (by have:=l5.h.next; omega)) fun h6 v11 l6 hv11=>?_
  have gq6:=l6.get gq5
  have l06:=l05.h.trans l6
  have hv9':=hv9.h.to (l6.toB fun id h=>h)
  have hva6:=hva.h.to (toN.h h6 l06)
  have i9:IsS v9:=hv9'.isS
  have i11:IsS v11:=hv11.isS
  have s5:wStore 1 h6 [.pointer (some ⟨q,5,none⟩),v9]=some (undef,h6.set q (.blk [.int .i64 s.kind,str s.name,str s.src,.int .i64 s.n,va,v9,vw] true)):=by
   obtain ⟨_,_,_,rfl⟩:=i9; exact wStore_one gq6 (by simp) rfl rfl
  obtain ⟨h7,eh7⟩:∃ x,h6.set q (.blk [.int .i64 s.kind,str s.name,str s.src,.int .i64 s.n,va,v9,vw] true)=x:=⟨_,rfl⟩
  have gq7:h7.get q=some (.blk [.int .i64 s.kind,str s.name,str s.src,.int .i64 s.n,va,v9,vw] true):=by rw [← eh7]; exact Heap.set_getS _ _ _ (by rw [gq6]; rfl)
  rw [eh7] at s5
  have s6:wStore 1 h7 [.pointer (some ⟨q,6,none⟩),v11]=some (undef,h7.set q (.blk [.int .i64 s.kind,str s.name,str s.src,.int .i64 s.n,va,v9,v11] true)):=by
   obtain ⟨_,_,_,rfl⟩:=i11; exact wStore_one gq7 (by simp) rfl rfl
  obtain ⟨h8,eh8⟩:∃ x,h7.set q (.blk [.int .i64 s.kind,str s.name,str s.src,.int .i64 s.n,va,v9,v11] true)=x:=⟨_,rfl⟩
  have gq8:h8.get q=some (.blk [.int .i64 s.kind,str s.name,str s.src,.int .i64 s.n,va,v9,v11] true):=by rw [← eh8]; exact Heap.set_getS _ _ _ (by rw [gq7]; rfl)
  rw [eh8] at s6
  have old8:∀ id,id≠q→h8.get id=h6.get id:=fun id hne=>by rw [← eh8,← eh7,Heap.set_getE _ _ _ _ (by simpa using hne),Heap.set_getE _ _ _ _ (by simpa using hne)]
  have n68:h6.next≤h8.next:=by rw [← eh8,← eh7]; exact Nat.le_refl _
  have tb8:Heap.toB (fun id=>(B id∧notOf vo id)∧id≠q) (fun id=>B id∧notOf vo id) h6 h8:=fun id cs own hb hg=>⟨hb.1,by rw [old8 id hb.2]; exact hg⟩
  have hy8:StCB (fun id=>B id∧notOf vo id) h8 (.mk s.kind s.name s.src s.n s.args (lessSs s.thn (k - ((n + 1:Nat):Int))) (lessSs s.els (k - ((n + 1 + cntSs s.thn:Nat):Int)))) [.int .i64 s.kind,str s.name,str s.src,.int .i64 s.n,va,v9,v11]:=StCB.of (hva6.to tb8) (hv9'.to tb8) (hv11.to tb8)
  have l36:h3.le h6:=lh4.h.trans (l5.h.trans l6)
  have ho8:OwnS (emptyH h.next) h8 7 vo xs:=ho3.h.get fun id hv hs=>by
   obtain ⟨o,ho⟩:=Option.isSome_iff_exists.1 hs
   rw [old8 id (by have:=Heap.lt_of_get ho; have:=hq3.h; omega),l36.get ho,ho]
  have hx8:StCsB (fun id=>B id∧notOf vo id) h8 (lessSs (ss.take i) k) xs:=hx3.h.to fun id cs own hb hg=>⟨hb,by rw [old8 id (by have:=Heap.lt_of_get hg; have:=hq3.h; omega)]; exact l36.get hg⟩
  have l08:h.le h8:=⟨fun id o hg=>by rw [old8 id (by have:=Heap.lt_of_get hg; have:=hqn.h; omega)]; exact l06.get hg,Nat.le_trans l06.next n68⟩
  have elS:lessS s (k - (n:Int))=if k - (n:Int)=0 then [] else [.mk s.kind s.name s.src s.n s.args (lessSs s.thn (k - ((n + 1:Nat):Int))) (lessSs s.els (k - ((n + 1 + cntSs s.thn:Nat):Int)))]:=by
   rw [lessS_eq,show k - (n:Int) - 1=k - ((n + 1:Nat):Int) by omega,show k - ((n + 1:Nat):Int) - (cntSs s.thn:Int)=k - ((n + 1 + cntSs s.thn:Nat):Int) by omega]
  have ecn:n + 1 + cntSs s.thn + cntSs s.els=cntSs (ss.take (i + 1)):=by have:=ct1.h; have:=ceq.h; omega
  clear ih hq hv hv0 tb8 old8 hv9 hva6 eh7 eh8
  by_cases hnk:(n:Int)=k
  case pos =>
   have hnk' : ((n:Int) == k)=true:=by simpa using hnk
   rw [if_pos (by omega)] at elS
   have hx9:StCsB (fun id=>B id∧notOf vo id) h8 (lessSs (ss.take (i + 1)) k) xs:=by rw [lt1.h,elS,List.append_nil]; exact hx8
   rw [hnk'] at *
   have g:=fun a b c d e f=>hR.h [v,.int .i64 k,nilS,.int .i64 0,vo,.int .i64 (cntSs (ss.take (i + 1))),.int .i64 (i + 1:Nat),a,b,c,d,e,f] h8 hlt ⟨vo,xs,a,b,c,d,e,f,rfl,l08,ho8,hx9⟩
   rw [← ecn] at g
   replace g:=Hid.mk g; replace l6:=Hid.mk l6; replace l06:=Hid.mk l06; replace hv9':=Hid.mk hv9'; replace hv11:=Hid.mk hv11; replace hy8:=Hid.mk hy8; replace l36:=Hid.mk l36; replace ho8:=Hid.mk ho8; replace hx8:=Hid.mk hx8; replace l08:=Hid.mk l08; replace elS:=Hid.mk elS; replace ecn:=Hid.mk ecn; replace hx9:=Hid.mk hx9
   repeat' (first | simp -implicitDefEqProofs only [walkL,aR,aW,aBin,aInt,Int.reduceBEq,Int.reduceBNe,Nat.reduceBEq,Int.reduceLT,Int.reduceLE,partL7, *] | with_reducible (first | refine kcd ?_ ?_ | refine kgd ?_ ?_ | refine kci ?_ ?_ | refine kgi ?_ ?_)<;>intro hc)
   exact g.h _ _ _ _ _ _
  case neg =>
   have hnk' : ((n:Int) == k)=false:=by simpa using hnk
   rw [if_neg (by omega)] at elS
   have hxl:=hx8.length
   have hll:=lessSs_len (ss.take i) k
   have htl:(ss.take i).length≤i:=by rw [List.length_take]; omega
   obtain ⟨v',h9,ap,ho9,le9,k9,n9,nx9⟩:=ho8.append1 (x:=[.int .i64 s.kind,str s.name,str s.src,.int .i64 s.n,va,v9,v11]) (emptyH_le l08.next) rfl (by omega) (b:=120) (by omega) (by omega)
   have u:=bs_st1 hy8.ones
   have hk:Heap.toB (fun id=>B id∧notOf vo id) (fun id=>B id∧notOf v' id) h8 h9:=fun id cs own hb hg=>⟨⟨hb.1,n9 id (by rw [hg]; rfl)⟩,by rw [k9 id (by rw [hg]; rfl) hb.2]; exact hg⟩
   have hx9:StCsB (fun id=>B id∧notOf v' id) h9 (lessSs (ss.take (i + 1)) k) (xs++[[.int .i64 s.kind,str s.name,str s.src,.int .i64 s.n,va,v9,v11]]):=by rw [lt1.h,elS]; exact StCsB.snoc (hy8.to hk) (hx8.to hk)
   have l09:h.le h9:=⟨fun id o hg=>by
    have h1:=l08.get hg
    rw [k9 id (by rw [h1]; rfl) (ho8.notOf (Heap.lt_of_get hg))]; exact h1,Nat.le_trans l08.next nx9⟩
   rw [hnk']
   have g:=fun a b c d e f=>hR.h [v,.int .i64 k,nilS,.int .i64 0,v',.int .i64 (cntSs (ss.take (i + 1))),.int .i64 (i + 1:Nat),a,b,c,d,e,f] h9 hlt ⟨v',_,a,b,c,d,e,f,rfl,l09,ho9,hx9⟩
   rw [← ecn] at g
   replace g:=Hid.mk g; replace l6:=Hid.mk l6; replace l06:=Hid.mk l06; replace hv9':=Hid.mk hv9'; replace hv11:=Hid.mk hv11; replace hy8:=Hid.mk hy8; replace l36:=Hid.mk l36; replace ho8:=Hid.mk ho8; replace hx8:=Hid.mk hx8; replace l08:=Hid.mk l08; replace elS:=Hid.mk elS; replace ecn:=Hid.mk ecn; replace hx9:=Hid.mk hx9; replace k9:=Hid.mk k9; replace n9:=Hid.mk n9; replace hk:=Hid.mk hk; replace ho9:=Hid.mk ho9; replace le9:=Hid.mk le9; replace l09:=Hid.mk l09
   repeat' (first | simp -implicitDefEqProofs only [walkL,aR,aW,aBin,aInt,Int.reduceBEq,Int.reduceBNe,Nat.reduceBEq,Int.reduceLT,Int.reduceLE,partL7, *] | with_reducible (first | refine kcd ?_ ?_ | refine kgd ?_ ?_ | refine kci ?_ ?_ | refine kgi ?_ ?_)<;>intro hc)
   exact g.h _ _ _ _ _ _
theorem less_c:∀ m,LessC m
 | 0=>fun _ _ _ _ _ _ h=>by omega
 | m + 1=>less_of (less_c m)
end Go.Eng.Sy
namespace Go.Eng.Sy
open Go Go.Eng Go.Proofs
theorem part22b (a b:Value):partL true 0 2 [a,b]=some (.agg #[a,b]):=rfl
section
variable {p p2:Prg} (hd:p2.devs=p.devs) (hr:p2.ress=p.ress) (nm hs:List (List UInt8))
include hd hr
theorem headE_p (k:Int) (m:List UInt8):headE p2 nm hs k m=headE p nm hs k m:=by unfold headE heldR; rw [hr]
mutual
theorem exprR_p:∀ (e:Ex),exprR p2 nm hs e=exprR p nm hs e
 | .mk k o n m args=>by simp only [exprR]; rw [headE_p hd hr,exprsR_p args]
theorem exprsR_p:∀ (l:List Ex),exprsR p2 nm hs l=exprsR p nm hs l
 | []=>rfl
 | e::r=>by simp only [exprsR]; rw [exprR_p e,exprsR_p r]
end
theorem stmtR_p (s:St):stmtR p2 nm hs s=stmtR p nm hs s:=by
 have h1:headS p2 nm hs s=headS p nm hs s:=by unfold headS deviceR lockR heldR; rw [hd,hr]
 unfold stmtR; rw [h1,exprsR_p hd hr]
theorem okSs_p (ss:List St):okSs p2 nm hs ss↔okSs p nm hs ss:=by
 unfold okSs
 constructor
 ·intro h x hx; rw [← stmtR_p hd hr]; exact h x hx
 ·intro h x hx; rw [stmtR_p hd hr]; exact h x hx
end
def keyT (t:Tsk):Bool × Int × Int × Int:=(t.handler,t.hart,t.prio,t.line)
theorem TasksOk.key {p p2:Prg} (h:TasksOk p) (hh:p2.harts=p.harts) (hk:p2.tasks.map keyT=p.tasks.map keyT):TasksOk p2:=by
 have mem:∀ t ∈ p2.tasks,∃ t' ∈ p.tasks,keyT t' = keyT t:=fun t ht=>by
  have:keyT t ∈ p2.tasks.map keyT:=List.mem_map.2 ⟨t,ht,rfl⟩
  rw [hk] at this
  obtain ⟨t',h1,h2⟩:=List.mem_map.1 this
  exact ⟨t',h1,h2⟩
 have f:∀ {a b:Tsk},keyT a=keyT b→a.handler=b.handler∧a.hart=b.hart∧a.prio=b.prio∧a.line=b.line:=fun e=>by
  simpa [keyT] using e
 refine ⟨fun t ht=>?_,?_,fun t ht htt x hx hxx hxh=>?_⟩
 ·obtain ⟨t',h1,h2⟩:=mem t ht
  rw [hh,← (f h2).2.1]; exact h.hart t' h1
 ·have e:∀ l:List Tsk,l.Pairwise twoOk↔(l.map keyT).Pairwise (fun a b=>(a.1=false→b.1=false→a.2.1≠b.2.1)∧(a.1=true→b.1=true→a.2.2.2≠b.2.2.2)):=fun l=>by
   rw [List.pairwise_map]; rfl
  rw [e,hk,← e]; exact h.two
 ·obtain ⟨t',h1,h2⟩:=mem t ht
  obtain ⟨x',h3,h4⟩:=mem x hx
  obtain ⟨a1,a2,a3,a4⟩:=f h2
  obtain ⟨c1,c2,c3,c4⟩:=f h4
  rw [← a3,← c3]
  exact h.below t' h1 (by rw [a1]; exact htt) x' h3 (by rw [c1]; exact hxx) (by rw [c2,a2]; exact hxh)
def putB (p:Prg) (k:Nat) (t:Tsk) (b:List St):Prg:={ p with tasks:=p.tasks.set k { t with body:=b } }
theorem pick8_c (c n:Int) (hn:n≠0) (h:Heap) (Q:Value→Heap→Prop) (hq:Q (.int .i64 (pick c n)) h):CallW Tryz.prog 13 [.int .i64 c,.int .i64 n] h Q:=by
 refine call_of1 (k:=2) ok13 rfl rfl rfl fun N=>?_
 rw [show env0 c13 [.int .i64 c,.int .i64 n]=[.int .i64 c,.int .i64 n,undef] from rfl]
 delta c13 c13_r0 c13_r1 c13_r2 c13_r3
 replace hq:=Hid.mk hq
 have hq1:c < 0→Q (.int .i64 ((IntKind.i64.wrap (0 - IntKind.i64.wrap (c + 1))).tmod n)) h:=fun hc=>by have:=hq.h; rwa [pick,if_pos hc] at this
 have hq2:¬ c < 0→Q (.int .i64 (c.tmod n)) h:=fun hc=>by have:=hq.h; rwa [pick,if_neg hc] at this
 replace hq1:=Hid.mk hq1
 replace hq2:=Hid.mk hq2
 repeat' (first | simp -implicitDefEqProofs only [walkL,aR,aW,aBin,aInt,Int.reduceBEq,Int.reduceBNe,Nat.reduceBEq,Int.reduceLT,Int.reduceLE, *] | with_reducible (first | refine kcd ?_ ?_ | refine kgd ?_ ?_ | refine kci ?_ ?_ | refine kgi ?_ ?_)<;>intro hc)
 ·exact hq1.h (by assumption)
 ·exact hq2.h (by assumption)
end Go.Eng.Sy
namespace Go.Eng.Sy
open Go Go.Eng Go.Proofs
theorem CheckIs.first {p:Prg} {e i n:Int} (h:CheckIs p e i n) (hr:rightP p=true) (hn:(namesP p).Nodup) (ht:TasksOk p) {k m:Nat} {t:Tsk} {x:St × List (List UInt8)} (hk:p.tasks[k]? = some t)
  (hb:∀ j,j < k → ∀ t',p.tasks[j]? = some t' → okSs p (namesP p) [] t'.body) (hx:(flatSs [] t.body)[m]? = some x) (hm:∀ j,j < m → ∀ y,(flatSs [] t.body)[j]? = some y→stE p y=0) (hne:stE p x≠0):e=stE p x∧i=k∧n=m:=by
 have hkl:=(List.getElem?_eq_some_iff.1 hk).1
 have ok:∀ j,j < k→OkAt p j:=fun j hj tk htk y hy=>hb j hj tk htk y hy
 have nok:¬ OkAt p k:=fun h=>hne (h t hk x (List.mem_of_getElem? hx))
 rcases h with ⟨h,_⟩ | ⟨_,h,_⟩ | ⟨_,_,k',_,h,_⟩ | ⟨_,_,_,k',m',hk',⟨tk,y,h1,h2,h3,h4,h5⟩,h6,h7,h8⟩ | ⟨_,_,_,h,_⟩
 ·rw [hr] at h; cases h
 ·exact absurd hn h
 ·exact absurd (ht.head k') h
 ·have e1:k' = k:=by
   rcases Nat.lt_trichotomy k' k with h | h | h
   ·exact absurd (h3.trans (ok k' h tk h1 y (List.mem_of_getElem? h2))) h4
   ·exact h
   ·exact absurd (h6 k h) nok
  subst e1
  rw [hk] at h1; cases h1
  have e2:m' = m:=by
   rcases Nat.lt_trichotomy m' m with h | h | h
   ·exact absurd (h3.trans (hm m' h y h2)) h4
   ·exact h
   ·exact absurd (h5 m h x hx) hne
  subst e2
  rw [hx] at h2; cases h2
  exact ⟨h3,h7,h8⟩
 ·exact absurd (h k hkl) nok
theorem twoOk_perm {l l' : List Tsk} (h:l.Perm l') (hl:l.Pairwise twoOk):l'.Pairwise twoOk:=(h.pairwise_iff fun {a b} (hab:twoOk a b)=>hab.symm).1 hl
def rotT (k:Nat) (l:List Tsk):List Tsk:=l.drop k++l.take k
theorem rotT_perm (k:Nat) (l:List Tsk):(rotT k l).Perm l:=by
 unfold rotT
 have h:=List.perm_append_comm (l₁:=l.drop k) (l₂:=l.take k)
 rwa [List.take_append_drop] at h
theorem TasksOk.perm {p:Prg} (h:TasksOk p) {l:List Tsk} (hl:l.Perm p.tasks):TasksOk { p with tasks:=l } :=
 ⟨fun t ht=>h.hart t (hl.mem_iff.1 ht),twoOk_perm hl.symm h.two,fun t ht htt x hx=>h.below t (hl.mem_iff.1 ht) htt x (hl.mem_iff.1 hx)⟩
theorem rightP_perm {p:Prg} (h:rightP p=true) {l:List Tsk} (hl:l.Perm p.tasks):rightP { p with tasks:=l }=true:=by
 simp only [rightP,Bool.and_eq_true,decide_eq_true_eq,List.all_eq_true] at h ⊢
 obtain ⟨⟨⟨⟨⟨⟨a1,a2⟩,a3⟩,a4⟩,a5⟩,h2⟩,h3⟩:=h
 exact ⟨⟨⟨⟨⟨⟨a1,a2⟩,a3⟩,by rw [hl.length_eq]; exact a4⟩,a5⟩,h2⟩,fun t ht=>h3 t (hl.mem_iff.1 ht)⟩
theorem namesP_perm {p:Prg} (h:(namesP p).Nodup) {l:List Tsk} (hl:l.Perm p.tasks):(namesP { p with tasks:=l }).Nodup:=by
 unfold namesP at h ⊢
 exact ((List.Perm.append_left _ (hl.map _)).nodup_iff).2 h
end Go.Eng.Sy
namespace Go.Eng.Sy
open Go Go.Eng Go.Proofs
section
variable {p:Prg} {nm nm' : List (List UInt8)} (hc:∀ s,nm.contains s=nm'.contains s) (hs:List (List UInt8))
include hc
theorem localR_nm (s:List UInt8):localR nm s=localR nm' s:=by unfold localR; rw [hc]
mutual
theorem exprR_nm:∀ (e:Ex),exprR p nm hs e=exprR p nm' hs e
 | .mk k o n m args=>by
  have:headE p nm hs k m=headE p nm' hs k m:=by unfold headE; rw [localR_nm hc]
  simp only [exprR]; rw [this,exprsR_nm args]
theorem exprsR_nm:∀ (l:List Ex),exprsR p nm hs l=exprsR p nm' hs l
 | []=>rfl
 | e::r=>by simp only [exprsR]; rw [exprR_nm e,exprsR_nm r]
end
theorem stmtR_nm (s:St):stmtR p nm hs s=stmtR p nm' hs s:=by
 have h1:headS p nm hs s=headS p nm' hs s:=by unfold headS; simp only [localR_nm hc]
 unfold stmtR; rw [h1,exprsR_nm hc]
theorem okSs_nm (ss:List St):okSs p nm hs ss↔okSs p nm' hs ss:=by
 unfold okSs
 constructor
 ·intro h x hx; rw [← stmtR_nm hc]; exact h x hx
 ·intro h x hx; rw [stmtR_nm hc]; exact h x hx
end
theorem contains_perm {l l' : List (List UInt8)} (h:l.Perm l') (s:List UInt8):l.contains s=l'.contains s:=by
 rw [Bool.eq_iff_iff]; simp only [List.contains_iff_mem]; exact h.mem_iff
theorem turn_ok {p:Prg} {l:List Tsk} (hl:l.Perm p.tasks) (hb:∀ t ∈ p.tasks,okSs p (namesP p) [] t.body):∀ t ∈ l,okSs { p with tasks:=l } (namesP { p with tasks:=l }) [] t.body:=fun t ht=>by
 have hp:(namesP { p with tasks:=l }).Perm (namesP p):=by
  unfold namesP; exact List.Perm.append_left _ (hl.map _)
 rw [okSs_nm (contains_perm hp)]
 exact (okSs_p (p:=p) (p2:={ p with tasks:=l }) rfl rfl _ _ _).2 (hb t (hl.mem_iff.1 ht))
def strangeS:St:=.mk 5 [115,116,114,97,110,103,101] [] 0 [] [] []
theorem strange_bad {p:Prg} (h:ixOf p.ress [115,116,114,97,110,103,101] < 0) (nm hs:List (List UInt8)):stmtR p nm hs strangeS=84:=by
 simp [stmtR,strangeS,headS,St.kind,St.name,lockR,h]
theorem flat_more (ss:List St):(flatSs [] (ss++[strangeS]))[cntSs ss]? = some (strangeS,[]) ∧ ∀ j,j < cntSs ss→(flatSs [] (ss++[strangeS]))[j]? = (flatSs [] ss)[j]?:=by
 have hl:=cntSs_flat [] ss
 have e:flatSs [] (ss++[strangeS])=flatSs [] ss++[(strangeS,[])]:=by rw [flatSs_app]; rfl
 rw [e]
 refine ⟨by rw [List.getElem?_append_right (by omega),hl]; simp,fun j hj=>List.getElem?_append_left (by omega)⟩
end Go.Eng.Sy
namespace Go.Eng.Sy
open Go Go.Eng Go.Proofs
theorem TsCsB.app {B:Nat→Prop} {h:Heap} {l2:List Tsk} {ys:List (List Value)} (h2:TsCsB B h l2 ys):∀ {l1:List Tsk} {xs:List (List Value)},TsCsB B h l1 xs→TsCsB B h (l1++l2) (xs++ys)
 | [],_,hx=>by rw [show _=[] from hx]; exact h2
 | _::_,_,⟨x,xr,e,a,b⟩=>by rw [e]; exact ⟨x,_,rfl,a,TsCsB.app h2 b⟩
theorem TsCsB.drop {B:Nat→Prop} {h:Heap}:∀ (k:Nat) {l:List Tsk} {xs:List (List Value)},TsCsB B h l xs→TsCsB B h (l.drop k) (xs.drop k)
 | 0,_,_,hx=>by simpa using hx
 | k + 1,[],_,hx=>by rw [show _=[] from hx]; rfl
 | k + 1,_::_,_,⟨x,xr,e,a,b⟩=>by rw [e]; simpa using TsCsB.drop k b
theorem TsCsB.take {B:Nat→Prop} {h:Heap}:∀ (k:Nat) {l:List Tsk} {xs:List (List Value)},TsCsB B h l xs→TsCsB B h (l.take k) (xs.take k)
 | 0,_,_,hx=>by simp only [List.take_zero]; rfl
 | k + 1,[],_,hx=>by rw [show _=[] from hx]; rfl
 | k + 1,_::_,_,⟨x,xr,e,a,b⟩=>by rw [e]; exact ⟨x,_,rfl,a,TsCsB.take k b⟩
theorem notOf_nil (i:Nat):notOf nilS i:=fun a b e=>by cases e
theorem Made.turn {n:Nat} {h0 h:Heap} {p:Prg} {d r t:Value} {xs:List (List Value)} (hm:Made n h0 p d r t xs) (l0:h0.le h) (hn:n≤h0.next) {q2:Nat} (hq2:h0.next≤q2) (hqs:(h.get q2).isSome=true) (hl:xs.length≤1000) {k:Nat} (hk:k≤xs.length) :
  ∃ w1 w2 va ha vb hb,pSliceS 6 true false [t,.int .i64 k]=some w1∧pSliceS 6 false true [t,.int .i64 k]=some w2∧wAppend 6 72 h [nilS,w1]=some (va,ha)∧wAppend 6 72 ha [va,w2]=some (vb,hb)∧h.le ha∧h.le hb∧notOf vb q2 ∧
   ∀ h',(∀ i o,i≠q2→hb.get i=some o→h'.get i=some o)→Made n h' { p with tasks:=rotT k p.tasks } d r vb (xs.drop k++xs.take k):=by
 have hm1:=hm.le l0
 have hn1:=Nat.le_trans hn l0.next
 obtain ⟨w1,e1,s1⟩:=hm1.ht.sl.partLo hk
 obtain ⟨w2,e2,s2⟩:=hm1.ht.sl.partHi hk
 obtain ⟨va,ha,a1,o1,l1,k1,n1,x1⟩:=(OwnS.nil (emptyH n) h 6).append (emptyH_le hn1) s1 (by omega) (b:=72) (by simp; omega) (by simp; omega)
 have le1:h.le ha:=⟨fun i o hg=>by rw [k1 i (by rw [hg]; rfl) (notOf_nil i)]; exact hg,x1⟩
 obtain ⟨vb,hb,a2,o2,l2,k2,n2,x2⟩:=o1.append (emptyH_le (Nat.le_trans hn1 x1)) (s2.mono le1) (by omega) (b:=72) (by simp; omega) (by simp; omega)
 have nva:∀ i,(h.get i).isSome=true→notOf va i:=fun i hs=>n1 i hs (notOf_nil i)
 have up:∀ i o,h.get i=some o→ha.get i=some o:=fun i o hg=>le1.get hg
 have nvb:∀ i,(h.get i).isSome=true→notOf vb i:=fun i hs=>by
  obtain ⟨o,ho⟩:=Option.isSome_iff_exists.1 hs
  exact n2 i (by rw [up i o ho]; rfl) (nva i hs)
 have le2:h.le hb:=⟨fun i o hg=>by rw [k2 i (by rw [up i o hg]; rfl) (nva i (by rw [hg]; rfl))]; exact up i o hg,Nat.le_trans x1 x2⟩
 refine ⟨w1,w2,va,ha,vb,hb,e1,e2,a1,a2,le1,le2,nvb q2 hqs,fun h' hh=>?_⟩
 have hB:Heap.toB (PB n [t]) (PB n [vb]) h0 h':=fun i cs own hb' hg=>⟨⟨hb'.1,fun w hw=>by
  rw [List.mem_singleton.1 hw]
  exact nvb i (by rw [l0.get hg]; rfl)⟩,hh i _ (by have:=Heap.lt_of_get hg; omega) (le2.get (l0.get hg))⟩
 refine ⟨hm.hd.to hB,hm.hr.to hB,?_,TsCsB.app (TsCsB.take k (hm.hts.to hB)) (TsCsB.drop k (hm.hts.to hB)),hm.dl,hm.rl,by rw [List.length_append,List.length_drop,List.length_take]; omega⟩
 have o3:OwnS (emptyH n) hb 6 vb (xs.drop k++xs.take k):=by simpa using o2
 refine o3.get fun id hv hs=>?_
 obtain ⟨o,ho⟩:=Option.isSome_iff_exists.1 hs
 rw [hh id o (fun e=>nvb q2 hqs _ _ (by rw [hv,e])) ho,ho]
end Go.Eng.Sy
namespace Go.Eng.Sy
open Go Go.Eng Go.Proofs
theorem rot_back {l:List Tsk} {k:Nat} (hk:k < l.length) (x:Tsk):rotT (l.length - k) ((rotT k l).set 0 x)=l.set k x:=by
 unfold rotT
 have hd:(l.drop k).length=l.length - k:=List.length_drop
 have e1:(l.drop k++l.take k).set 0 x=(l.drop k).set 0 x++l.take k:=by
  rw [List.set_append_left _ _ (by omega)]
 have hl:((l.drop k).set 0 x).length=l.length - k:=by rw [List.length_set,hd]
 have ea:((l.drop k).set 0 x++l.take k).drop (l.length - k)=l.take k:=by
  rw [← hl]; simp
 have eb:((l.drop k).set 0 x++l.take k).take (l.length - k)=(l.drop k).set 0 x:=by
  rw [← hl]; simp
 rw [e1,ea,eb]
 refine List.ext_getElem? fun i=>?_
 by_cases hi:i < k
 ·rw [List.getElem?_append_left (by rw [List.length_take]; omega),List.getElem?_take,if_pos hi,List.getElem?_set_ne (by omega)]
 ·rw [List.getElem?_append_right (by rw [List.length_take]; omega),List.length_take,Nat.min_eq_left (by omega),List.getElem?_set,List.getElem?_set]
  by_cases h0:i=k
  ·subst h0; simp [hk]; omega
  ·rw [if_neg (by omega),if_neg (by omega),List.getElem?_drop]; congr 1; omega
end Go.Eng.Sy
namespace Go.Eng.Sy
open Go Go.Eng Go.Proofs
theorem dead_blk {h:Heap} {q i:Nat} {c:List Value} {o:Bool} (hg:(h.set q .dead).get i=some (.blk c o)):i≠q∧h.get i=some (.blk c o):=by
 rw [Heap.get_set] at hg
 split at hg
 ·cases hg
 rename_i n1
 refine ⟨?_,hg⟩
 rintro rfl; exact n1 ⟨rfl,by first | exact Heap.lt_of_get hg | (rw [hg]; rfl)⟩
theorem le_dead {h h' : Heap} (hl:h.le h') {q:Nat} (hq:(h.get q).isSome=true):(h.set q .dead).le (h'.set q .dead):=⟨fun i o hg=>by
 by_cases hi:i=q
 ·subst hi
  rw [Heap.set_getS _ _ _ hq] at hg
  obtain ⟨o',ho⟩:=Option.isSome_iff_exists.1 hq
  rw [Heap.set_getS _ _ _ (by rw [hl.get ho]; rfl)]; exact hg
 ·rw [Heap.get_set,if_neg (fun e=>hi e.1)] at hg ⊢
  exact hl.get hg,hl.next⟩
theorem le_dead_new {h h' : Heap} (hl:h.le h') {q:Nat} (hq:h.next≤q):h.le (h'.set q .dead):=⟨fun i o hg=>by
 rw [Heap.get_set,if_neg (fun e=>by have:=Heap.lt_of_get hg; omega)]; exact hl.get hg,hl.next⟩
theorem Made.plainOf {n:Nat} {h:Heap} {q:Nat} {p:Prg} {d r t:Value} {xs:List (List Value)} (hm:Made n (h.set q .dead) p d r t xs) (hq:(h.get q).isSome=true):Made n h p d r t xs:=by
 have hB:Heap.toB (PB n [t]) (PB n [t]) (h.set q .dead) h:=fun i cs own hb hg=>⟨hb,(dead_blk hg).2⟩
 refine ⟨hm.hd.to hB,hm.hr.to hB,?_,hm.hts.to hB,hm.dl,hm.rl,hm.tl⟩
 rcases hm.ht with hx | ⟨id,hv,hi,hg,hx⟩
 ·exact .inl hx
 ·exact .inr ⟨id,hv,hi,(dead_blk hg).2,hx⟩
theorem Made.turn2 {n:Nat} {h:Heap} {p:Prg} {d r t:Value} {xs:List (List Value)} {q2:Nat} (hm:Made n (h.set q2 .dead) p d r t xs) (hn1:n≤h.next) (hqs:(h.get q2).isSome=true) (hl:xs.length≤1000) {k:Nat} (hk:k≤xs.length) :
  ∃ w1 w2 va ha vb hb,pSliceS 6 true false [t,.int .i64 k]=some w1∧pSliceS 6 false true [t,.int .i64 k]=some w2∧wAppend 6 72 h [nilS,w1]=some (va,ha)∧wAppend 6 72 ha [va,w2]=some (vb,hb)∧h.le ha∧h.le hb∧notOf vb q2 ∧
   ∀ h',(∀ i o,i≠q2→hb.get i=some o→h'.get i=some o)→Made n h' { p with tasks:=rotT k p.tasks } d r vb (xs.drop k++xs.take k):=by
 have hm1:=hm.plainOf hqs
 obtain ⟨w1,e1,s1⟩:=hm1.ht.sl.partLo hk
 obtain ⟨w2,e2,s2⟩:=hm1.ht.sl.partHi hk
 obtain ⟨va,ha,a1,o1,l1,k1,n1,x1⟩:=(OwnS.nil (emptyH n) h 6).append (emptyH_le hn1) s1 (by omega) (b:=72) (by simp; omega) (by simp; omega)
 have le1:h.le ha:=⟨fun i o hg=>by rw [k1 i (by rw [hg]; rfl) (notOf_nil i)]; exact hg,x1⟩
 obtain ⟨vb,hb,a2,o2,l2,k2,n2,x2⟩:=o1.append (emptyH_le (Nat.le_trans hn1 x1)) (s2.mono le1) (by omega) (b:=72) (by simp; omega) (by simp; omega)
 have nva:∀ i,(h.get i).isSome=true→notOf va i:=fun i hs=>n1 i hs (notOf_nil i)
 have up:∀ i o,h.get i=some o→ha.get i=some o:=fun i o hg=>le1.get hg
 have nvb:∀ i,(h.get i).isSome=true→notOf vb i:=fun i hs=>by
  obtain ⟨o,ho⟩:=Option.isSome_iff_exists.1 hs
  exact n2 i (by rw [up i o ho]; rfl) (nva i hs)
 have le2:h.le hb:=⟨fun i o hg=>by rw [k2 i (by rw [up i o hg]; rfl) (nva i (by rw [hg]; rfl))]; exact up i o hg,Nat.le_trans x1 x2⟩
 refine ⟨w1,w2,va,ha,vb,hb,e1,e2,a1,a2,le1,le2,nvb q2 hqs,fun h' hh=>?_⟩
 have hB:Heap.toB (PB n [t]) (PB n [vb]) (h.set q2 .dead) h':=fun i cs own hb' hg=>⟨⟨hb'.1,fun w hw=>by
  rw [List.mem_singleton.1 hw]
  exact nvb i (by rw [(dead_blk hg).2]; rfl)⟩,hh i _ (dead_blk hg).1 (le2.get (dead_blk hg).2)⟩
 refine ⟨hm.hd.to hB,hm.hr.to hB,?_,TsCsB.app (TsCsB.take k (hm.hts.to hB)) (TsCsB.drop k (hm.hts.to hB)),hm.dl,hm.rl,by rw [List.length_append,List.length_drop,List.length_take]; omega⟩
 have o3:OwnS (emptyH n) hb 6 vb (xs.drop k++xs.take k):=by simpa using o2
 refine o3.get fun id hv hs=>?_
 obtain ⟨o,ho⟩:=Option.isSome_iff_exists.1 hs
 rw [hh id o (fun e=>nvb q2 hqs _ _ (by rw [hv,e])) ho,ho]
end Go.Eng.Sy
namespace Go.Eng.Sy
open Go Go.Eng Go.Proofs
theorem Made.put2 {n:Nat} {h:Heap} {g:Prg} {d r t:Value} {xs:List (List Value)} (hm:Made n h g d r t xs) {id:Nat} (hid:t = .slice (some ⟨id,0,none⟩) xs.length 6) {k:Nat} {tk:Tsk} (hk:g.tasks[k]? = some tk) (tk' : Tsk) {v:Value} (hv:StsVB (PB n [t]) h v tk'.body) :
  wStore 6 h [.pointer (some ⟨id,k * 6,none⟩),tsV tk'.name tk'.handler tk'.hart tk'.prio tk'.line v]=some (undef,h.set id (.blk (xs.set k (tsL tk' v)).flatten true))∧Made n (h.set id (.blk (xs.set k (tsL tk' v)).flatten true)) { g with tasks:=g.tasks.set k tk' } d r t (xs.set k (tsL tk' v)):=by
 obtain ⟨x,hx,_⟩:=hm.hts.get hk
 have hlt:k < xs.length:=(List.getElem?_eq_some_iff.1 hx).1
 obtain ⟨e1,e2⟩:=OwnS.put (u:=tsV tk'.name tk'.handler tk'.hart tk'.prio tk'.line v) hid hm.ht hlt (y:=tsL tk' v) rfl (by simpa [Value.oneCell'] using hv.one) rfl
 refine ⟨e1,?_⟩
 have hb:Heap.toB (PB n [t]) (PB n [t]) h (h.set id (.blk (xs.set k (tsL tk' v)).flatten true)):=Heap.toB_set _ fun i hb=>⟨fun e=>by subst e; exact hb.2 t (by simp) _ _ hid,hb⟩
 exact ⟨hm.hd.to hb,hm.hr.to hb,e2,TsCsB.set (hm.hts.to hb) ⟨v,rfl,hv.to hb⟩,hm.dl,hm.rl,by rw [List.length_set]; exact hm.tl⟩
theorem Made.same {n:Nat} {h h' : Heap} {g:Prg} {d r t:Value} {xs:List (List Value)} (hm:Made n h g d r t xs) (he:∀ i,h'.get i=h.get i):Made n h' g d r t xs:=hm.to fun i _ _=>he i
theorem set_dead {h:Heap} {id q:Nat} (hne:id≠q) (o:AObj) (i:Nat):((h.set id o).set q .dead).get i=((h.set q .dead).set id o).get i:=by
 simp only [Heap.get_set]
 by_cases h1:i=id
 ·subst h1; simp [hne]
 ·simp [h1]
theorem putB_facts {p:Prg} (hr:rightP p=true) (ht0:TasksOk p) {k:Nat} {t:Tsk} (hk:p.tasks[k]? = some t) {b:List St} (hI:∀ s ∈ b,StI s 30):rightP (putB p k t b)=true∧TasksOk (putB p k t b):=by
 have hm:=List.mem_of_getElem? hk
 have hlt:=(List.getElem?_eq_some_iff.1 hk).1
 refine ⟨?_,ht0.key rfl ?_⟩
 ·have hr0:=hr
  simp only [rightP,Bool.and_eq_true,decide_eq_true_eq,List.all_eq_true] at hr0 ⊢
  obtain ⟨⟨h1,h2⟩,h3⟩:=hr0
  obtain ⟨⟨⟨⟨a1,a2⟩,a3⟩,a4⟩,a5⟩:=h1
  refine ⟨⟨⟨⟨⟨⟨a1,a2⟩,a3⟩,?_⟩,a5⟩,h2⟩,fun t' ht'=>?_⟩
  ·show (p.tasks.set k _).length≤16; rw [List.length_set]; exact a4
  ·have ht' : t' ∈ p.tasks.set k { t with body:=b }:=ht'
   rcases List.mem_or_eq_of_mem_set ht' with h | rfl
   ·exact h3 t' h
   ·have ht:=h3 t hm
    simp only [taskOk,Bool.and_eq_true,wellSs_all,List.all_eq_true] at ht ⊢
    exact ⟨ht.1,fun s hs=>(wellS_iff 30 s).2 (hI s hs)⟩
 ·show (p.tasks.set k _).map keyT=_
  rw [List.map_set]
  refine List.ext_getElem? fun j=>?_
  rw [List.getElem?_set]
  split
  ·rename_i h; subst h
   rw [List.getElem?_map,hk,if_pos (by simpa using hlt)]; rfl
  ·rfl
theorem kg22' {P:Program} {t e:TypeId} (hu:P.underlying t=some (.array 2 e)) (he:P.underlying e=some (.int .i64)) (hc:P.cellsOf t=2) (hce:P.cellsOf e=1) (hk:P.keyType t=true) (hs:P.types.size≠0) {a b:Int} (ha:inI a) (hb:inI b):keyGood P t (.agg #[.int .i64 a,.int .i64 b])=true:=by
 obtain ⟨m,hm⟩:∃ m,P.types.size=m + 1:=⟨P.types.size - 1,by omega⟩
 have wa:(Lit.int .i64 a).wf=true:=by simp only [Lit.wf,Bool.and_eq_true,decide_eq_true_eq]; exact ha
 have wb:(Lit.int .i64 b).wf=true:=by simp only [Lit.wf,Bool.and_eq_true,decide_eq_true_eq]; exact hb
 have r2:List.range 2=[0,1]:=rfl
 simp [keyGood,flatKey,isCell,keyOf,hu,hk,Value.formed,hc,hce,hm,Program.keyLits,he,Value.cells,wa,wb,r2]
theorem ts_ne:Tryz.prog.types.size≠0:=by
 have h:Tryz.prog.types.size.beq 0=false:=by kernel_rfl
 intro e
 rw [e] at h
 cases h
theorem kg22 {a b:Int} (ha:inI a) (hb:inI b):keyGood Tryz.prog 31 (.agg #[.int .i64 a,.int .i64 b])=true :=
 kg22' (e:=3) (by kernel_rfl) (by kernel_rfl) (by kernel_rfl) (by kernel_rfl) (by kernel_rfl) ts_ne ha hb
theorem eq22 {a b:Int} (ha:inI a) (hb:inI b):pEqK (keyGood Tryz.prog 31) false [.agg #[.int .i64 a,.int .i64 b],.agg #[.int .i64 a,.int .i64 b]]=some (.bool true):=by
 simp [pEqK,kg22 ha hb,flatEq,cellsEq,cellEq]
end Go.Eng.Sy
