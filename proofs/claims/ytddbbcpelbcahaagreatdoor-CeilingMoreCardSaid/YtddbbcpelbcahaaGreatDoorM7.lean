/-
  Part of a proof of the laws of layer 09 (ceiling): the laws.
  Conditions: none.
-/
import Derived.Test.YtddbbcpelbcahaaGreatDoorEc
import Derived.Test.YtddbbcpelbcahaaGreatDoorProg
import Derived.KernelRfl
import Derived.Test.YtddbbcpelbcahaaGreatDoorBx
set_option linter.unusedSimpArgs false
set_option linter.unusedVariables false
namespace Go.Eng.Sy
open Go Go.Eng Go.Proofs
noncomputable def c7_r0:List SOp:=[⟨0,.p .mov,[.c (.bool false)],none,false⟩]
noncomputable def c7_r1:List SOp:=[⟨0,.call 9,[],none,false⟩,⟨1,.p .mov,[.t 0],none,false⟩]
noncomputable def c7_r2:List SOp:=[⟨0,.p .mov,[.v 0],none,false⟩,⟨1,.call 11,[.t 0,.c (.bool false)],none,false⟩,⟨2,.a (.new [.int .i64 0,.slice none 0 0,.slice none 0 0,.slice none 0 0]),[],none,false⟩,⟨3,.w (.store 4),[.t 0,.t 1],none,false⟩]
noncomputable def c7_r3:List SOp:=[⟨0,.p (.fieldAddr 2),[.v 6],none,false⟩,⟨1,.r (.load false 1),[.t 0],none,false⟩,⟨2,.p .lenS,[.t 0],none,false⟩,⟨3,.p (.bin .eql),[.t 0,.c (.int .i64 0)],none,false⟩]
noncomputable def c7_r4:List SOp:=[⟨0,.p .mov,[.v 5],none,false⟩,⟨1,.p .mov,[.t 0],none,false⟩]
noncomputable def c7_r5:List SOp:=[⟨0,.p .mov,[.v 1],none,false⟩,⟨1,.p (.fieldAddr 2),[.v 6],none,false⟩,⟨2,.r (.load false 1),[.t 0],none,false⟩,⟨3,.p .lenS,[.t 0],none,false⟩,⟨4,.call 15,[.t 3,.t 0],none,false⟩,⟨5,.p .mov,[.t 0],none,false⟩]
noncomputable def c7_r6:List SOp:=[⟨0,.p .mov,[.v 2],none,false⟩,⟨1,.p (.fieldAddr 0),[.v 6],none,false⟩,⟨2,.r (.load false 1),[.t 0],none,false⟩,⟨3,.call 15,[.t 2,.t 0],none,false⟩,⟨4,.p .mov,[.t 0],none,false⟩]
noncomputable def c7_r7:List SOp:=[⟨0,.p .mov,[.v 3],none,false⟩,⟨1,.call 15,[.t 0,.c (.int .i64 4)],none,false⟩,⟨2,.p (.bin .add),[.c (.int .i64 4),.t 0],none,false⟩,⟨3,.p .mov,[.t 0],none,false⟩]
noncomputable def c7_r8:List SOp:=[⟨0,.r (.load true 4),[.v 6],none,false⟩,⟨1,.a (.new [.int .i64 0,.slice none 0 0,.slice none 0 0,.slice none 0 0]),[],none,false⟩,⟨2,.w (.store 4),[.t 0,.t 1],none,false⟩]
noncomputable def c7_r9:List SOp:=[⟨0,.p (.fieldAddr 3),[.v 6],none,false⟩,⟨1,.r (.load false 1),[.t 0],none,false⟩,⟨2,.w (.append 6 72),[.c (.slice none 0 0),.t 0],none,true⟩,⟨3,.p .mov,[.v 8],none,false⟩,⟨4,.p .mov,[.v 9],none,false⟩,⟨5,.p (.fieldAddr 2),[.v 6],none,false⟩,⟨6,.r (.load false 1),[.t 0],none,false⟩,⟨7,.p .mov,[.v 7],none,false⟩,⟨8,.p (.idxAddrS 2),[.t 1,.t 0],none,false⟩,⟨9,.p (.fieldAddr 0),[.t 0],none,false⟩,⟨10,.r (.load false 1),[.t 0],none,false⟩,⟨11,.p (.build [.int .i64 0,.string ⟨#[]⟩,.string ⟨#[]⟩,.int .i64 0,.slice none 0 0,.slice none 0 0,.slice none 0 0] [(0,1),(1,1)]),[.c (.int .i64 5),.t 0],none,false⟩,⟨12,.a (.bslice [.int .i64 0,.string ⟨#[]⟩,.string ⟨#[]⟩,.int .i64 0,.slice none 0 0,.slice none 0 0,.slice none 0 0] [(0,7)] 1 7),[.t 0],none,false⟩,⟨13,.p (.build [.string ⟨#[]⟩,.bool false,.int .i64 0,.int .i64 0,.int .i64 0,.slice none 0 0] [(0,1),(1,1),(2,1),(3,1),(4,1),(5,1)]),[.c (.string ⟨#[109,111,114,101]⟩),.c (.bool true),.t 9,.t 8,.c (.int .i64 7),.t 0],none,false⟩,⟨14,.a (.bslice [.string ⟨#[]⟩,.bool false,.int .i64 0,.int .i64 0,.int .i64 0,.slice none 0 0] [(0,6)] 1 6),[.t 0],none,false⟩,⟨15,.w (.append 6 72),[.t 12,.t 0],none,false⟩,⟨16,.p (.fieldAddr 3),[.v 10],none,false⟩,⟨17,.w (.store 1),[.t 0,.t 1],none,false⟩]
noncomputable def yb4:List SOp:=[⟨0,.r (.load true 4),[.v 6],none,false⟩,⟨1,.call 12,[.t 0],none,false⟩,⟨2,.p .mov,[.t 0],none,false⟩]
noncomputable def yb3:List SOp:=[⟨0,.r (.load true 4),[.v 10],none,false⟩,⟨1,.call 12,[.t 0],none,false⟩,⟨2,.p .mov,[.t 0],none,false⟩]
noncomputable def yb2:List SOp:=[⟨0,.p .mov,[.v 11],none,false⟩,⟨1,.p .lenS,[.t 0],none,false⟩,⟨2,.p (.fieldAddr 0),[.v 6],none,false⟩,⟨3,.r (.load false 1),[.t 0],none,false⟩,⟨4,.p (.bin .neq),[.t 2,.t 0],none,false⟩,⟨5,.p .mov,[.t 0],none,false⟩,⟨6,.p .mov,[.v 12],some (0,false),false⟩,⟨7,.p .lenS,[.t 0],some (1,false),false⟩,⟨8,.p (.fieldAddr 0),[.v 6],some (2,false),false⟩,⟨9,.r (.load false 1),[.t 0],some (3,false),false⟩,⟨10,.p (.bin .neq),[.t 2,.t 0],some (4,false),false⟩,⟨11,.p .pick,[.t 5,.c (.bool true),.t 0],none,false⟩]
noncomputable def yb1:List SOp:=[⟨0,.p .mov,[.c (.bool false)],none,false⟩]
noncomputable def yb0:List SOp:=[⟨0,.p .mov,[.c (.int .i64 0)],none,false⟩]
noncomputable def ya9:List SOp:=[⟨0,.p .mov,[.v 13],none,false⟩,⟨1,.p (.fieldAddr 0),[.v 6],none,false⟩,⟨2,.r (.load false 1),[.t 0],none,false⟩,⟨3,.p (.bin .lss),[.t 2,.t 0],none,false⟩]
noncomputable def ya8:List SOp:=[⟨0,.p .mov,[.v 11],none,false⟩,⟨1,.p .mov,[.v 13],none,false⟩,⟨2,.p (.idxAddrS 1),[.t 1,.t 0],none,false⟩,⟨3,.r (.load false 1),[.t 0],none,false⟩,⟨4,.p .lenS,[.t 0],none,false⟩,⟨5,.p (.fieldAddr 2),[.v 6],none,false⟩,⟨6,.r (.load false 1),[.t 0],none,false⟩,⟨7,.p .lenS,[.t 0],none,false⟩,⟨8,.p (.bin .neq),[.t 3,.t 0],none,false⟩,⟨9,.p .mov,[.t 0],none,false⟩,⟨10,.p .mov,[.v 12],some (0,false),false⟩,⟨11,.p .mov,[.v 13],some (1,false),false⟩,⟨12,.p (.idxAddrS 1),[.t 1,.t 0],some (2,false),false⟩,⟨13,.r (.load false 1),[.t 0],some (3,false),false⟩,⟨14,.p .lenS,[.t 0],some (4,false),false⟩,⟨15,.p (.fieldAddr 2),[.v 6],some (5,false),false⟩,⟨16,.r (.load false 1),[.t 0],some (6,false),false⟩,⟨17,.p .lenS,[.t 0],some (7,false),false⟩,⟨18,.p (.bin .neq),[.t 3,.t 0],some (8,false),false⟩,⟨19,.p .pick,[.t 9,.c (.bool true),.t 0],none,false⟩]
noncomputable def ya7:List SOp:=[⟨0,.p .mov,[.c (.bool false)],none,false⟩]
noncomputable def ya6:List SOp:=[⟨0,.p .mov,[.c (.int .i64 0)],none,false⟩]
noncomputable def ya5:List SOp:=[⟨0,.p .mov,[.v 14],none,false⟩,⟨1,.p .mov,[.v 11],none,false⟩,⟨2,.p .mov,[.v 13],none,false⟩,⟨3,.p (.idxAddrS 1),[.t 1,.t 0],none,false⟩,⟨4,.r (.load false 1),[.t 0],none,false⟩,⟨5,.p .lenS,[.t 0],none,false⟩,⟨6,.p (.bin .lss),[.t 5,.t 0],none,false⟩]
noncomputable def ya4:List SOp:=[⟨0,.p .mov,[.v 11],none,false⟩,⟨1,.p .mov,[.v 13],none,false⟩,⟨2,.p (.idxAddrS 1),[.t 1,.t 0],none,false⟩,⟨3,.r (.load false 1),[.t 0],none,false⟩,⟨4,.p .mov,[.v 14],none,false⟩,⟨5,.p (.idxAddrS 1),[.t 1,.t 0],none,false⟩,⟨6,.r (.load false 1),[.t 0],none,false⟩,⟨7,.p .mov,[.t 0],none,false⟩]
noncomputable def ya3:List SOp:=[⟨0,.p .mov,[.v 13],none,false⟩,⟨1,.p .mov,[.v 8],none,false⟩,⟨2,.p (.bin .eql),[.t 1,.t 0],none,false⟩,⟨3,.p .mov,[.t 0],none,false⟩,⟨4,.p .mov,[.v 14],some (0,true),false⟩,⟨5,.p .mov,[.v 7],some (1,true),false⟩,⟨6,.p (.bin .geq),[.t 1,.t 0],some (2,true),false⟩,⟨7,.p .pick,[.t 3,.t 0,.c (.bool false)],none,false⟩]
noncomputable def ya2:List SOp:=[⟨0,.p .mov,[.v 15],none,false⟩,⟨1,.p .mov,[.v 9],none,false⟩,⟨2,.p (.minI true),[.t 1,.t 0],none,false⟩,⟨3,.p .mov,[.t 0],none,false⟩]
noncomputable def ya1:List SOp:=[⟨0,.p .mov,[.v 12],none,false⟩,⟨1,.p .mov,[.v 13],none,false⟩,⟨2,.p (.idxAddrS 1),[.t 1,.t 0],none,false⟩,⟨3,.r (.load false 1),[.t 0],none,false⟩,⟨4,.p .mov,[.v 14],none,false⟩,⟨5,.p (.idxAddrS 1),[.t 1,.t 0],none,false⟩,⟨6,.r (.load false 1),[.t 0],none,false⟩,⟨7,.p .mov,[.v 15],none,false⟩,⟨8,.p (.bin .neq),[.t 1,.t 0],none,false⟩]
noncomputable def ya0:List SOp:=[⟨0,.p .mov,[.c (.bool false)],none,false⟩]
noncomputable def zz9:List SOp:=[⟨0,.p .mov,[.v 14],none,false⟩,⟨1,.p (.bin .add),[.t 0,.c (.int .i64 1)],none,false⟩,⟨2,.p .mov,[.t 0],none,false⟩]
noncomputable def c7_l26:CCode:=(.seq (.rcond ya5 [] 0 .skip (.exit 2)) (.seq (.block 3 (.seq (.reg ya4 [(15,0)]) (.seq (.rcond ya3 [] 0 (.reg ya2 [(15,0)]) .skip) (.rcond ya1 [] 0 (.seq (.reg ya0 [(4,0)]) .ret) .skip)))) (.reg zz9 [(14,0)])))
noncomputable def zz8:List SOp:=[⟨0,.p .mov,[.v 13],none,false⟩,⟨1,.p (.bin .add),[.t 0,.c (.int .i64 1)],none,false⟩,⟨2,.p .mov,[.t 0],none,false⟩]
noncomputable def c7_l28:CCode:=(.seq (.rcond ya9 [] 0 .skip (.exit 0)) (.seq (.block 1 (.seq (.rcond ya8 [] 0 (.seq (.reg ya7 [(4,0)]) .ret) .skip) (.seq (.reg ya6 [(14,0)]) (.block 2 (.loop c7_l26))))) (.reg zz8 [(13,0)])))
noncomputable def zz7:List SOp:=[⟨0,.r (.load true 4),[.v 10],none,false⟩,⟨1,.p (.fieldAddr 3),[.v 6],none,false⟩,⟨2,.r (.load false 1),[.t 0],none,false⟩,⟨3,.p .lenS,[.t 0],none,false⟩,⟨4,.call 22,[.t 3,.t 0],none,false⟩,⟨5,.p .mov,[.t 0],none,false⟩]
noncomputable def zz6:List SOp:=[⟨0,.p .mov,[.v 5],none,false⟩,⟨1,.p .mov,[.t 0],none,false⟩,⟨2,.p .mov,[.v 16],some (0,true),false⟩,⟨3,.p .lenS,[.t 0],some (1,true),false⟩,⟨4,.p (.bin .eql),[.t 0,.c (.int .i64 1)],some (2,true),false⟩,⟨5,.p .pick,[.t 3,.t 0,.c (.bool false)],none,false⟩,⟨6,.p .mov,[.t 0],none,false⟩,⟨7,.p .mov,[.v 16],some (0,true),false⟩,⟨8,.p (.idxAddrS 1),[.t 0,.c (.int .i64 0)],some (1,true),false⟩,⟨9,.r (.load false 1),[.t 0],some (2,true),false⟩,⟨10,.p .mov,[.v 7],some (3,true),false⟩,⟨11,.p (.bin .eql),[.t 1,.t 0],some (4,true),false⟩,⟨12,.p .pick,[.t 5,.t 0,.c (.bool false)],none,false⟩,⟨13,.p .mov,[.t 0],none,false⟩]
noncomputable def c7:CFn:={ nargs:=4,vars:=[0,1,2,3,8,9,10,11,12,13,14,15,16,17,18,19,20],results:=[.var 4],body:=(.seq (.reg c7_r0 [(4,0)]) (.seq (.reg c7_r1 [(5,0)]) (.seq (.reg c7_r2 [(6,1)]) (.seq (.rcond c7_r3 [] 0 (.seq (.reg c7_r4 [(4,0)]) .ret) .skip) (.seq (.reg c7_r5 [(7,0)]) (.seq (.reg c7_r6 [(8,0)]) (.seq (.reg c7_r7 [(9,0)]) (.seq (.reg c7_r8 [(10,1)]) (.seq (.reg c7_r9 []) (.seq (.reg yb4 [(11,0)]) (.seq (.reg yb3 [(12,0)]) (.seq (.rcond yb2 [] 0 (.seq (.reg yb1 [(4,0)]) .ret) .skip) (.seq (.seq (.reg yb0 [(13,0)]) (.block 0 (.loop c7_l28))) (.seq (.reg zz7 [(16,0)]) (.seq (.reg zz6 [(4,0)]) .ret))))))))))))))) }
set_option maxRecDepth 100000 in
theorem ok7:FnOk Tryz.prog 7 c7:=zj (na:=c7.nargs) (vars:=c7.vars) (by kernel_rfl)
end Go.Eng.Sy
namespace Go.Eng.Sy
open Go Go.Eng Go.Proofs
def jl (nm:List UInt8) (a v:Int):Tsk:=⟨[109,111,114,101],true,a,v,7,[.mk 5 nm [] 0 [] [] []]⟩
def kv (p:Prg) (t:Tsk):Prg:={ p with tasks:=p.tasks++[t] }
mutual
theorem lkS_ress {p q:Prg}(h:p.ress=q.ress):∀ s,lkS p s=lkS q s
 | .mk k m f n a t e=>by simp only [lkS,h,vd h t,vd h e]
theorem vd {p q:Prg}(h:p.ress=q.ress):∀ l,j0 p l=j0 q l
 | []=>rfl
 | s::r=>by simp only [j0,lkS_ress h s,vd h r]
end
theorem yk9 (raw:List Int):∀ t ∈ (jf raw false).tasks,(t.handler=false→t.prio≤3)∧(t.handler=true→t.line≤6) ∧ ∃ d s,t.body=(y5 d ⟨(jf raw false).devs.map (·.name),(jf raw false).ress.map (·.name),0,[],false⟩ s).1:=by
 generalize hp:jf raw false=p
 unfold jf at hp
 dsimp only at hp
 generalize zh (raw.take 400) 3=a at *
 generalize zh a.2 3=nd at *
 generalize jn devNs 3 (nd.1 + 1) 0 nd.2=ds at *
 generalize zh ds.2 3=nr at *
 generalize jn resNs 8 nr.1 0 nr.2=rs at *
 obtain ⟨c,hc⟩:∃ c:Sco,(⟨ds.1.map (·.name),rs.1.map (·.name),0,[],false⟩:Sco)=c:=⟨_,rfl⟩
 rw [hc] at hp
 have h6f:=Q1 c (1 + a.1) 0 rs.2
 generalize qg c (1 + a.1) 0 rs.2=ts at *
 have h7:=zn ts.2 (n:=4) (by omega)
 generalize zh ts.2 4=nh at *
 have h8f:=Q7 c (H:=1 + a.1) (by omega) nh.1 0 nh.2
 generalize qk c (1 + a.1) nh.1 0 nh.2=hs at *
 have hdv:p.devs=ds.1:=by rw [← hp]
 have hrs:p.ress=rs.1:=by rw [← hp]
 have hht:p.tasks=ts.1++hs.1:=by rw [← hp]
 intro t ht
 rw [hdv,hrs,hc]
 rw [hht] at ht
 rcases List.mem_append.1 ht with ht | ht
 ·obtain ⟨e1,_,e3,e4⟩:=h6f t ht
  exact ⟨fun _=>e3,fun h=>(by rw [e1] at h;cases h),_,e4⟩
 ·obtain ⟨e1,_,_,⟨i,l,f1,f2,f3,f4⟩,e4⟩:=h8f t ht
  exact ⟨fun h=>(by rw [e1] at h;cases h),fun _=>by omega,_,e4⟩
theorem more_nm:∀ (nd:Fin 4) (nr:Fin 3) (H:Fin 4) (nh:Fin 4),(zu0 nd.val nr.val H.val nh.val).contains [109,111,114,101]=false:=by decide +kernel
theorem yu2 (p:Prg) (nm:List UInt8):j0 p [.mk 5 nm [] 0 [] [] []]=[xi p.ress nm]:=by simp [j0,lkS]
theorem yk1 {p q:Prg}(h:p.ress=q.ress) (n:Nat):Yc p n=Yc q n:=by
 funext V t;unfold Yc;rw [vd h]
theorem yz8 (p:Prg) (nm:List UInt8) (a v:Int):q8 (kv p (jl nm a v)) (kv p (jl nm a v)).tasks=xo p.ress.length a (xi p.ress nm) v (q8 p p.tasks):=by
 unfold q8
 show (p.tasks++[jl nm a v]).foldl (Yc (kv p (jl nm a v)) p.ress.length) _=_
 rw [List.foldl_append,yk1 (p:=kv p (jl nm a v)) (q:=p) rfl]
 show Yc p _ _ (jl nm a v)=_
 unfold Yc
 show (j0 p [.mk 5 nm [] 0 [] [] []]).foldl _ _=_
 rw [yu2];rfl
theorem more_loc (p:Prg) (nm:List UInt8) (a v:Int):locL (kv p (jl nm a v)) (jl nm a v)=[xi p.ress nm]:=by
 unfold locL
 rw [vd (p:=kv p (jl nm a v)) (q:=p) rfl]
 show Lib.compact (srt (j0 p [.mk 5 nm [] 0 [] [] []]))=_
 rw [yu2]
 simp [srt]
 rfl
theorem more_ok (raw:List Int){i:Nat}{d:Nm}(hi:(jf raw false).ress[i]? = some d){a v:Int}(ha:0≤a∧a < (jf raw false).harts) (hv:4≤v∧v≤7) :
  OkQ (kv (jf raw false) (jl d.name a v))∧xi (jf raw false).ress d.name=i:=by
 obtain ⟨nd,nr,H,nh,hf⟩:=Jx raw
 have hm:=yk9 raw
 have hg:=X1 raw false
 have hr:=hg.right
 obtain ⟨ho,b3,_,_⟩:=Yh raw
 have hbd:∀ t ∈ (jf raw false).tasks,(zq [] t.body).length < 4611686018427387904:=fun t ht=>by have:=zk5 hg t ht;omega
 generalize jf raw false=p at *
 have hil:=(List.getElem?_eq_some_iff.1 hi).1
 have hix:xi p.ress d.name=i:=by
  have:=hf.fits.res i (by show i < (p.ress.map _).length;rw [List.length_map];exact hil)
  rw [List.getD_eq_getElem?_getD,List.getElem?_map,hi] at this
  simpa using this
 refine ⟨?_,hix⟩
 have hd:=(kj hr).2.2.1 d (List.mem_of_getElem? hi)
 simp only [Jv,Bool.and_eq_true] at hd
 have hh:=(kj hr).1
 have nmx:zx (kv p (jl d.name a v))=zx p++[[109,111,114,101]]:=by unfold zx kv;simp [jl,List.append_assoc]
 have hfree:[109,111,114,101] ∉ zx p:=by
  have h1:=hf.b1;have h2:=hf.b2;have h3:=hf.b3;have h4:=hf.b4
  have:=more_nm ⟨nd,by omega⟩ ⟨nr,by omega⟩ ⟨H,by omega⟩ ⟨nh,by omega⟩
  rw [hf.names]
  intro hc
  rw [List.contains_iff_mem.2 hc] at this
  cases this
 have hnd:(zx (kv p (jl d.name a v))).Nodup:=by
  rw [nmx,List.nodup_append]
  refine ⟨hf.nodup,by simp,fun x hx y hy e=>hfree ?_⟩
  rw [List.mem_singleton] at hy
  rw [← hy,← e];exact hx
 have hr2:ja (kv p (jl d.name a v))=true:=by
  have h:=hr
  simp only [ja,Bool.and_eq_true,decide_eq_true_eq,List.all_eq_true] at h ⊢
  obtain ⟨⟨⟨⟨⟨⟨h1,h2⟩,h3⟩,h4⟩,h5⟩,h6⟩,h7⟩:=h
  refine ⟨⟨⟨⟨⟨⟨h1,h2⟩,h3⟩,by show (p.tasks++[_]).length≤16;simp;omega⟩,h5⟩,h6⟩,fun x hx=>?_⟩
  rcases List.mem_append.1 hx with hx | hx
  ·exact h7 x hx
  ·rw [List.mem_singleton.1 hx]
   simp only [ky,Bool.and_eq_true,decide_eq_true_eq]
   refine ⟨⟨⟨⟨by show zo [109,111,114,101]=true;decide,by show 0≤a∧a≤3;omega⟩,by show 1≤v∧v≤7;omega⟩,by show (0:Int)≤7∧(7:Int)≤7;omega⟩,?_⟩
   rw [ke,List.all_eq_true]
   intro s hs
   rw [List.mem_singleton.1 hs]
   exact (ws 30 _).2 (.lock d.name [] 29 hd.1 (by simp))
 have htk:TasksOk (kv p (jl d.name a v)):=by
  refine ⟨fun t ht=>?_,?_,fun t ht hb x hx hb2 e=>?_⟩
  ·rcases List.mem_append.1 ht with ht | ht
   ·exact hf.tasks.hart t ht
   ·rw [List.mem_singleton.1 ht];exact ha.2
  ·refine List.pairwise_append.2 ⟨hf.tasks.two,List.pairwise_singleton _ _,fun x hx y hy=>?_⟩
   rw [List.mem_singleton.1 hy]
   refine ⟨fun _ h=>(by cases h),fun h _ e=>?_⟩
   have h1:=(hm x hx).2.1 h
   have e' : x.line=7:=e
   omega
  ·rcases List.mem_append.1 hx with hx | hx
   ·rcases List.mem_append.1 ht with ht | ht
    ·exact hf.tasks.below t ht hb x hx hb2 e
    ·rw [List.mem_singleton.1 ht]
     have h1:=(hm x hx).1 hb2
     show x.prio < v
     omega
   ·rw [List.mem_singleton.1 hx] at hb2;cases hb2
 have fits:Sco.fits ⟨p.devs.map (·.name),p.ress.map (·.name),0,[],false⟩ (kv p (jl d.name a v)) (zx (kv p (jl d.name a v))):=by
  refine ⟨hf.fits.any,hf.fits.dne,hf.fits.dev,hf.fits.res,hf.fits.held,hf.fits.free,fun m hmx=>?_⟩
  have:=hf.fits.loc m hmx
  rw [nmx]
  unfold wa at this ⊢
  by_cases hc:m ∈ zx p
  ·rw [if_pos (List.contains_iff_mem.2 hc)] at this;omega
  ·rw [if_neg]
   rw [List.contains_iff_mem,List.mem_append,List.mem_singleton]
   rintro (h | h)
   ·exact hc h
   ·subst h;exact absurd hmx (by decide)
 have hbody:∀ t ∈ (kv p (jl d.name a v)).tasks,yl3 (kv p (jl d.name a v)) (zx (kv p (jl d.name a v))) [] t.body:=fun t ht=>by
  rcases List.mem_append.1 ht with ht | ht
  ·obtain ⟨_,_,k,s,e⟩:=hm t ht
   rw [e]
   exact Zm k _ fits s
  ·rw [List.mem_singleton.1 ht]
   refine Zp.2 fun s hs=>?_
   rw [List.mem_singleton.1 hs]
   refine xd.2 ⟨?_,qe,qe⟩
   have e1:Xk (kv p (jl d.name a v)) d.name []=0:=by
    unfold Xk
    rw [show xi (kv p (jl d.name a v)).ress d.name=i from hix,if_neg (by omega)]
    rfl
   simp [wt,jh,St.kind,St.name,St.args,e1,yu]
 refine ⟨⟨fun e i n hc=>hc.zero hr2 hnd htk hbody,fun tk htk=>?_⟩,?_,fun t ht=>?_,fun t ht=>⟨?_,htk.hart t ht⟩,ho.harts,ho.rl,fun t ht=>⟨Js hr2 t ht,?_⟩,hbody⟩
 ·rcases List.mem_append.1 htk with h | h
  ·exact hbd tk h
  ·rw [List.mem_singleton.1 h];simp [jl,zq,Zb]
 ·show (p.tasks++[_]).length≤19;simp;omega
 ·rcases List.mem_append.1 ht with h | h
  ·exact ho.prio t h
  ·rw [List.mem_singleton.1 h];show 0≤v∧v≤7;omega
 ·rcases List.mem_append.1 ht with h | h
  ·exact (ho.hart t h).1
  ·rw [List.mem_singleton.1 h];exact ha.1
 ·rcases List.mem_append.1 ht with h | h
  ·exact (ho.st t h).2
  ·rw [List.mem_singleton.1 h];simp [jl,jv,cntS]
theorem ze0 (i:Nat):notOf zu i:=fun n s e=>by cases e
theorem ys7 {m:Nat}{h:Heap}{s b:Nat}{v:Value}{xs:List (List Value)}(hv:SlV h s v xs) (hs:0 < s) (hl:xs.length≤1000) (hb:b≤1000) (hm:m≤h.next) :
  ∃ va ha,yw s b h [zu,v]=some (va,ha)∧OwnS (yd m) ha s va xs∧h.le ha ∧ ∀ i,(h.get i).isSome=true→notOf va i:=by
 have hb2:xs.length * b≤1000 * 1000:=Nat.mul_le_mul hl hb
 obtain ⟨va,ha,a1,o1,l1,k1,n1,x1⟩:=(OwnS.nil (yd m) h s).append (y9 hm) hv hs (b:=b) (by simp;omega) (by simp;omega)
 exact ⟨va,ha,a1,by simpa using o1,⟨fun i o hg=>by rw [k1 i (by rw [hg];rfl) (ze0 i)];exact hg,x1⟩,fun i hs=>n1 i hs (ze0 i)⟩
theorem TsCs.snoc {h:Heap}{e:Tsk}{x:List Value}(hx:TsC h e x):∀ {l:List Tsk}{xs:List (List Value)},TsCs h l xs→TsCs h (l++[e]) (xs++[x])
 | [],xs,hl=>by rw [show xs=[] from hl];exact ⟨x,[],rfl,hx,rfl⟩
 | _::_,_,⟨y,yr,h1,h2,h3⟩=>⟨y,yr++[x],by rw [h1];rfl,h2,TsCs.snoc hx h3⟩
theorem lock_V {h:Heap}{q:Nat}{nm:List UInt8}(hg:h.get q=some (.blk [.int .i64 5,str nm,str [],.int .i64 0,zu,zu,zu] true)):StsV h (.slice (some ⟨q,0,none⟩) 1 7) [.mk 5 nm [] 0 [] [] []]:=by
 refine ⟨[[.int .i64 5,str nm,str [],.int .i64 0,zu,zu,zu]],.inr ⟨q,0,rfl,.inr ⟨_,_,hg,fun i x hx=>?_⟩⟩,by simp,_,[],rfl,?_,rfl⟩
 ·cases i with
  | zero=>simp at hx;subst hx;exact ⟨rfl,by simp,rfl⟩
  | succ i=>simp at hx
 ·exact ⟨zu,[],zu,[],zu,[],rfl,⟨.inl ⟨rfl,rfl⟩,by simp,rfl⟩,⟨.inl ⟨rfl,rfl⟩,by simp,rfl⟩,.inl ⟨rfl,rfl⟩,by simp,rfl⟩
theorem yu1 {h h0:Heap}{t:Value}{ts:List Tsk}{nm:List UInt8}{a v:Int}{q2:Nat}{w0 w1 w2 w3:Value}(ht:TssV h0 t ts) (hl:ts.length≤100) (gq:h.get q2=some (.blk [w0,w1,w2,w3] true)) (l0:h0.le h) (hq2:h0.next≤q2) :
  ∃ va hA vt hD hE,yw 6 72 h [zu,t]=some (va,hA)∧h.le hA ∧
   yw 6 72 ((hA.alloc (.blk [.int .i64 5,str nm,str [],.int .i64 0,zu,zu,zu] true)).alloc (.blk [str [109,111,114,101],.bool true,.int .i64 a,.int .i64 v,.int .i64 7,.slice (some ⟨hA.next,0,none⟩) 1 7] true)) [va,.slice (some ⟨(hA.alloc (.blk [.int .i64 5,str nm,str [],.int .i64 0,zu,zu,zu] true)).next,0,none⟩) 1 6]=some (vt,hD) ∧
   zr 1 hD [.pointer (some ⟨q2,3,none⟩),vt]=some (undef,hE)∧h0.le hE∧hE.get q2=some (.blk [w0,w1,w2,vt] true)∧TssV hE vt (ts++[jl nm a v])∧IsS vt:=by
 obtain ⟨xs,sx,bx,cx⟩:=ht
 have xl:=cx.length
 obtain ⟨va,hA,a1,o1,lA,n1⟩:=ys7 (m:=h.next) (b:=72) (sx.mono l0) (by omega) (by omega) (by omega) (Nat.le_refl _)
 obtain ⟨hB,eB⟩:∃ x,hA.alloc (.blk [.int .i64 5,str nm,str [],.int .i64 0,zu,zu,zu] true)=x:=⟨_,rfl⟩
 have gs:hB.get hA.next=some (.blk [.int .i64 5,str nm,str [],.int .i64 0,zu,zu,zu] true):=by rw [← eB];exact Heap.get_alloc_same _ _
 have lB:hA.le hB:=by rw [← eB];exact (Heap.le.refl _).alloc _
 have o2:OwnS (yd h.next) hB 6 va xs:=o1.mono lB
 obtain ⟨vt,hD,a2,o3,le3,k3,n3,x3⟩:=o2.append1 (x:=[str [109,111,114,101],.bool true,.int .i64 a,.int .i64 v,.int .i64 7,.slice (some ⟨hA.next,0,none⟩) 1 7]) (y9 (Nat.le_trans lA.next lB.next)) rfl (by omega) (b:=72) (by omega) (by omega)
 have gqB:=lB.get (lA.get gq)
 have gqD:hD.get q2=some (.blk [w0,w1,w2,w3] true):=by rw [k3 q2 (by rw [gqB];rfl) (n1 q2 (by rw [gq];rfl))];exact gqB
 have gsD:hD.get hA.next=some (.blk [.int .i64 5,str nm,str [],.int .i64 0,zu,zu,zu] true):=by rw [k3 _ (by rw [gs];rfl) (o1.notOf_new (Nat.le_refl _))];exact gs
 have hvt:notOf vt q2:=n3 q2 (by rw [gqB];rfl)
 have iT:IsS vt:=SlV.isS o3.sl
 have l0D:h0.le hD:=⟨fun i o hg=>by
  have h1:=l0.get hg
  have h2:=lB.get (lA.get h1)
  rw [k3 i (by rw [h2];rfl) (n1 i (by rw [h1];rfl))];exact h2,Nat.le_trans (l0.trans (lA.trans lB)).next x3⟩
 refine ⟨va,hA,vt,hD,hD.set q2 (.blk [w0,w1,w2,vt] true),a1,lA,by rw [eB];exact a2,?_,l0D.set hq2 _,Heap.set_getS _ _ _ (by rw [gqD];rfl),?_,iT⟩
 ·obtain ⟨_,_,_,rfl⟩:=iT;exact yj gqD (by simp) rfl rfl
 ·have oE:OwnS (yd h.next) (hD.set q2 (.blk [w0,w1,w2,vt] true)) 6 vt (xs++[_]):=o3.get fun id hv _=>Heap.set_getE _ _ _ _ (by simpa using fun e:id=q2=>hvt _ _ (by rw [hv,e]))
  have gsE:(hD.set q2 (.blk [w0,w1,w2,vt] true)).get hA.next=some (.blk [.int .i64 5,str nm,str [],.int .i64 0,zu,zu,zu] true):=by
   rw [Heap.set_getE _ _ _ _ (by have:=Heap.lt_of_get gq;have:=lA.next;simp;omega)];exact gsD
  exact ⟨_,oE.sl,by simp;omega,TsCs.snoc ⟨_,rfl,lock_V gsE⟩ (cx.mono (l0D.set hq2 _))⟩
end Go.Eng.Sy
namespace Go.Eng.Sy
open Go Go.Eng Go.Proofs
theorem yo3 (m:List UInt8):yl [.int .i64 0,.string ⟨#[]⟩,.string ⟨#[]⟩,.int .i64 0,.slice none 0 0,.slice none 0 0,.slice none 0 0] [(0,1),(1,1)] [.int .i64 5,str m]=some (.agg [.int .i64 5,str m,str [],.int .i64 0,zu,zu,zu].toArray):=rfl
set_option maxHeartbeats 2000000 in
theorem More_c {h:Heap}{v:Value}{raw:List Int}(hv:Ints h v raw) (hin:∀ z ∈ raw,inI z){z1 z2 z3:Int}(j1:inI z1) (j2:inI z2) (j3:inI z3) (Q:Value→Heap→Prop) (hq:∀ h',Q (.bool true) h'):CallW Tryz.prog 7 [v,.int .i64 z1,.int .i64 z2,.int .i64 z3] h Q:=by
 replace hv:=Hid.mk hv
 refine zk (k:=4) ok7 rfl rfl rfl fun N=>?_
 rw [show ym c7 [v,.int .i64 z1,.int .i64 z2,.int .i64 z3]=[v,.int .i64 z1,.int .i64 z2,.int .i64 z3,undef,undef,undef,undef,undef,undef,undef,undef,undef,undef,undef,undef,undef] from rfl]
 delta c7 c7_r0 c7_r1 c7_r2 c7_r3 c7_r4 c7_r5 c7_r6 c7_r7 c7_r8 c7_r9 yb4 yb3 yb2 yb1 yb0 ya9 ya8 ya7 ya6 ya5 ya4 ya3 ya2 ya1 ya0 zz9 zz8 zz7 zz6
 replace hq:=Hid.mk hq
 repeat' (first|simp -implicitDefEqProofs only [ze,aR,aW,zf,zg,Int.reduceBEq,Int.reduceBNe,Nat.reduceBEq,Int.reduceLT,Int.reduceLE, *]|with_reducible (first|apply kcd|apply kgd|apply kci|apply kgi)<;>intro hc)
 refine Xe _ _ ?_
 repeat' (first|simp -implicitDefEqProofs only [ze,aR,aW,zf,zg,Int.reduceBEq,Int.reduceBNe,Nat.reduceBEq,Int.reduceLT,Int.reduceLE, *]|with_reducible (first|apply kcd|apply kgd|apply kci|apply kgi)<;>intro hc)
 refine zi3 hv.h hin false _ fun h1 d r t xs l1 hm=>?_
 obtain ⟨iD,iR,iT⟩:=hm.isS
 obtain ⟨ho,b3,b4,b5⟩:=Yh raw
 have hmo:∀ {i:Nat}{d:Nm}{a v:Int},(jf raw false).ress[i]? = some d→0≤a→a < (jf raw false).harts→4≤v→v≤7→_:=fun {i d a v} x1 x2 x3 x4 x5=>more_ok raw x1 ⟨x2,x3⟩ ⟨x4,x5⟩
 generalize jf raw false=p at *
 have st:=yk2 h1 p.harts iD iR iT
 have gq:=Heap.get_alloc_same h1 (.blk [.int .i64 p.harts,d,r,t] true)
 have lh2:=(Heap.le.refl h1).alloc (.blk [.int .i64 p.harts,d,r,t] true)
 obtain ⟨q,eq⟩:∃ x_,h1.next=x_:=⟨_,rfl⟩
 obtain ⟨h2,eh2⟩:∃ x_,h1.alloc (.blk [.int .i64 p.harts,d,r,t] true)=x_:=⟨_,rfl⟩
 rw [eh2] at gq lh2
 rw [eq] at gq
 rw [eh2,eq] at st
 have hp2:=(hm.le lh2).prc
 have hre:NmsV h2 r p.ress:=⟨(hm.le lh2).hr.plain,hm.rl⟩
 have lr:=hre.len
 have hte:TssV h2 t p.tasks:=by
  obtain ⟨_,_,_,hpe,_,_,ht2⟩:=(hm.le lh2).prc
  injection hpe with _ hpe;injection hpe with _ hpe;injection hpe with _ hpe;injection hpe with e _
  rw [e];exact ht2
 have hde:NmsV h2 d p.devs:=⟨(hm.le lh2).hd.plain,hm.dl⟩
 clear hm
 by_cases hn0:p.ress.length=0
 ·have en0:((p.ress.length:Int) == 0)=true:=by rw [hn0];rfl
  clear hmo
  replace l1:=Hid.mk l1;replace hp2:=Hid.mk hp2;replace ho:=Hid.mk ho;replace lh2:=Hid.mk lh2;replace hre:=Hid.mk hre;replace hte:=Hid.mk hte;replace hde:=Hid.mk hde;replace hn0:=Hid.mk hn0
  repeat' (first|simp -implicitDefEqProofs only [ze,aR,aW,zf,zg,Int.reduceBEq,Int.reduceBNe,Nat.reduceBEq,Int.reduceLT,Int.reduceLE, *]|with_reducible (first|apply kcd|apply kgd|apply kci|apply kgi)<;>intro hc)
  exact hq.h _
 have en0:((p.ress.length:Int) == 0)=false:=by simp only [beq_eq_false_iff_ne];omega
 have r1:=yz j1 (n:=(p.ress.length:Int)) (by omega)
 obtain ⟨kr,hkr⟩:∃ k:Nat,pick z1 p.ress.length=(k:Int):=⟨(pick z1 p.ress.length).toNat,by omega⟩
 have krl:kr < p.ress.length:=by omega
 obtain ⟨rd,hrd⟩:∃ d,p.ress[kr]? = some d:=⟨_,List.getElem?_eq_getElem krl⟩
 have r2:=yz j2 (n:=p.harts) (by omega)
 obtain ⟨a,ha⟩:∃ k:Nat,pick z2 p.harts=(k:Int):=⟨(pick z2 p.harts).toNat,by omega⟩
 have haH:(a:Int) < p.harts:=by omega
 have r3:=yz j3 (n:=(4:Int)) (by omega)
 obtain ⟨vp,hvp⟩:∃ k,pick z3 4=k:=⟨_,rfl⟩
 rw [hvp] at r3
 have hwv:IntKind.i64.wrap (4 + vp)=4 + vp:=by rw [zt (by omega) (by omega)]
 have hz1:(p.ress.length:Int)≠0:=by omega
 have hz2:p.harts≠0:=by omega
 obtain ⟨ho2,hix⟩:=hmo hrd (a:=a) (v:=4 + vp) (by omega) haH (by omega) (by omega)
 clear hmo
 have st3:=yk2 h2 p.harts iD iR iT
 have hn0' : 0 < p.ress.length:=by omega
 replace l1:=Hid.mk l1;replace hp2:=Hid.mk hp2;replace ho:=Hid.mk ho;replace lh2:=Hid.mk lh2;replace hre:=Hid.mk hre;replace hte:=Hid.mk hte;replace hde:=Hid.mk hde;replace hn0:=Hid.mk hn0;replace r1:=Hid.mk r1;replace r2:=Hid.mk r2;replace r3:=Hid.mk r3;replace hkr:=Hid.mk hkr;replace ha:=Hid.mk ha;replace hvp:=Hid.mk hvp;replace hz1:=Hid.mk hz1;replace hz2:=Hid.mk hz2;replace ho2:=Hid.mk ho2;replace hix:=Hid.mk hix;replace hrd:=Hid.mk hrd;replace hn0':=Hid.mk hn0'
 repeat' (first|simp -implicitDefEqProofs only [ze,aR,aW,zf,zg,Int.reduceBEq,Int.reduceBNe,Nat.reduceBEq,Int.reduceLT,Int.reduceLE, *]|with_reducible (first|apply kcd|apply kgd|apply kci|apply kgi)<;>intro hc)
 refine jr _ _ hz1.h _ _ ?_
 rw [hkr.h]
 repeat' (first|simp -implicitDefEqProofs only [ze,aR,aW,zf,zg,Int.reduceBEq,Int.reduceBNe,Nat.reduceBEq,Int.reduceLT,Int.reduceLE, *]|with_reducible (first|apply kcd|apply kgd|apply kci|apply kgi)<;>intro hc)
 refine jr _ _ hz2.h _ _ ?_
 rw [ha.h]
 repeat' (first|simp -implicitDefEqProofs only [ze,aR,aW,zf,zg,Int.reduceBEq,Int.reduceBNe,Nat.reduceBEq,Int.reduceLT,Int.reduceLE, *]|with_reducible (first|apply kcd|apply kgd|apply kci|apply kgi)<;>intro hc)
 refine jr _ _ (by decide) _ _ ?_
 rw [hvp.h]
 have gq2:=Heap.get_alloc_same h2 (.blk [.int .i64 p.harts,d,r,t] true)
 have lh3:=(Heap.le.refl h2).alloc (.blk [.int .i64 p.harts,d,r,t] true)
 obtain ⟨q2,eq2⟩:∃ x_,h2.next=x_:=⟨_,rfl⟩
 obtain ⟨h3,eh3⟩:∃ x_,h2.alloc (.blk [.int .i64 p.harts,d,r,t] true)=x_:=⟨_,rfl⟩
 rw [eh3] at gq2 lh3
 rw [eq2] at gq2
 rw [eh3,eq2] at st3
 have gq3:=lh3.get gq
 have q2n:h2.next≤q2:=by omega
 obtain ⟨va,hA,vt,hD,hE,a1,lA,a2,a3,l2E,gqE2,hteE,iVt⟩:=yu1 (nm:=rd.name) (a:=(a:Int)) (v:=4 + vp) hte.h (by have:=ho.h.tl;omega) gq2 lh3 q2n
 have gqA:=lA.get gq3
 obtain ⟨idr,offr,cr,own,u1,u2,u3⟩:=(hre.h.mono (lh3.trans lA)).elem hrd.h
 have u4:cr[offr]? = some (str rd.name):=by
  obtain ⟨_,_,_,_,e1,e2,_,e4⟩:=(hre.h.mono (lh3.trans lA)).1.elem (i:=kr) (x:=[str rd.name,.int .i64 rd.n]) (by simp [hrd.h])
  rw [u1] at e1;cases e1
  rw [u2] at e2;cases e2
  have:=e4 0 (by omega);simpa using this
 have bl:=yo3 rd.name
 have bls:=bs_st1 (x:=[.int .i64 5,str rd.name,str [],.int .i64 0,zu,zu,zu]) ⟨rfl,rfl⟩
 have isv:IsS (.slice (some ⟨hA.next,0,none⟩) 1 7):=⟨_,_,_,rfl⟩
 have bt:=yi1 [109,111,114,101] (a:Int) (4 + vp) 7 isv
 have bts:=bs_ts (m:=[109,111,114,101]) (b:=true) (a:=(a:Int)) (p:=4 + vp) (l:=7) isv
 have hpE:=hp2.h.mono l2E
 have hpE2:PrC hE (kv p (jl rd.name a (4 + vp))) [.int .i64 p.harts,d,r,vt]:=⟨d,r,vt,rfl,hde.h.mono l2E,hre.h.mono l2E,hteE⟩
 have gqE:=l2E.get gq
 replace l2E:=Hid.mk l2E;replace hteE:=Hid.mk hteE;replace iVt:=Hid.mk iVt;replace lh3:=Hid.mk lh3;replace hpE:=Hid.mk hpE;replace hpE2:=Hid.mk hpE2
 repeat' (first|simp -implicitDefEqProofs only [ze,aR,aW,zf,zg,Int.reduceBEq,Int.reduceBNe,Nat.reduceBEq,Int.reduceLT,Int.reduceLE,zw, *]|with_reducible (first|apply kcd|apply kgd|apply kci|apply kgi)<;>intro hc)
 refine zb5 lA.ext ?_
 replace lA:=Hid.mk lA
 repeat' (first|simp -implicitDefEqProofs only [ze,aR,aW,zf,zg,Int.reduceBEq,Int.reduceBNe,Nat.reduceBEq,Int.reduceLT,Int.reduceLE,zw, *]|with_reducible (first|apply kcd|apply kgd|apply kci|apply kgi)<;>intro hc)
 refine uk hpE.h ho.h _ fun h4 av n1 m1 id1 ids1 l4 hm1=>?_
 have gq4:=l4.get gqE
 have gq24:=l4.get gqE2
 have hpE4:=hpE2.h.mono l4
 replace l4:=Hid.mk l4;replace hm1:=Hid.mk hm1;replace hpE4:=Hid.mk hpE4
 repeat' (first|simp -implicitDefEqProofs only [ze,aR,aW,zf,zg,Int.reduceBEq,Int.reduceBNe,Nat.reduceBEq,Int.reduceLT,Int.reduceLE,zw, *]|with_reducible (first|apply kcd|apply kgd|apply kci|apply kgi)<;>intro hc)
 refine uk hpE4.h ho2.h _ fun h5 bv n2 m2 id2 ids2 l5 hm2=>?_
 replace hm2:MatV n2 m2 p.harts.toNat p.ress.length h5 bv id2 ids2 (xo p.ress.length a kr (4 + vp) (q8 p p.tasks)):=by
  have:=hm2
  rw [yz8,hix.h] at this;exact this
 have hm1:=hm1.h.le l5
 obtain ⟨H,hH⟩:∃ H:Nat,p.harts=(H:Int):=⟨p.harts.toNat,by omega⟩
 have eH:p.harts.toNat=H:=by omega
 obtain ⟨n,hn⟩:∃ n,p.ress.length=n:=⟨_,rfl⟩
 have n100:=ho.h.rl
 rw [eH,hn] at hm1 hm2
 obtain ⟨V,hV⟩:∃ V,q8 p p.tasks=V:=⟨_,rfl⟩
 rw [hV] at hm1 hm2
 have gq5:=l5.get gq4
 have gq25:=l5.get gq24
 rw [hH] at gq5 gq25
 rw [hn] at lr krl n100
 have H4:=ho.h.harts
 rw [hH] at haH H4
 have hpE5:=hpE4.h.mono l5
 rw [hH] at hpE5
 have lna:y0 [av]=some (.int .i64 H):=by rw [hm1.val];rfl
 have lnb:y0 [bv]=some (.int .i64 H):=by rw [hm2.val];rfl
 have lnt:y0 [t]=some (.int .i64 p.tasks.length):=by
  obtain ⟨xs',b1,_,b2⟩:=hte.h
  rw [b1.len,b2.length]
 have eHH:((H:Int) != (H:Int))=false:=by simp
 have enn:((n:Int) != (n:Int))=false:=by simp
 clear en0 lr
 have lr:y0 [r]=some (.int .i64 n):=by have:=hre.h.len;rwa [hn] at this
 replace l5:=Hid.mk l5;replace hm1:=Hid.mk hm1;replace hm2:=Hid.mk hm2;replace hH:=Hid.mk hH;replace hn:=Hid.mk hn;replace hV:=Hid.mk hV;replace hpE5:=Hid.mk hpE5;replace eH:=Hid.mk eH
 repeat' (first|simp -implicitDefEqProofs only [ze,aR,aW,zf,zg,Int.reduceBEq,Int.reduceBNe,Nat.reduceBEq,Int.reduceLT,Int.reduceLE, *]|with_reducible (first|apply kcd|apply kgd|apply kci|apply kgi)<;>intro hc)
 refine LoopW.upto H (fun i en hh=>∃ x14 x15,en=[v,.int .i64 z1,.int .i64 z2,.int .i64 z3,.bool false,.bool true,ptr q,.int .i64 kr,.int .i64 a,.int .i64 (4 + vp),ptr q2,av,bv,.int .i64 i,x14,x15,undef]∧hh=h5) ?_ (Nat.zero_le _) ⟨_,_,rfl,rfl⟩
 rintro i _ hE' R hi ⟨x14,x15,rfl,hE2⟩ hR
 replace hE2:=hE2.symm
 subst hE2
 delta c7_l28 c7_r0 c7_r1 c7_r2 c7_r3 c7_r4 c7_r5 c7_r6 c7_r7 c7_r8 c7_r9 yb4 yb3 yb2 yb1 yb0 ya9 ya8 ya7 ya6 ya5 ya4 ya3 ya2 ya1 ya0 zz9 zz8 zz7 zz6
 by_cases hlt:i < H
 case pos =>
  have hlt' : (i:Int) < H:=by omega
  have hw:IntKind.i64.wrap ((i:Int) + 1)=((i + 1:Nat):Int):=by rw [zt (by omega) (by omega)];rfl
  obtain ⟨c1,c2,c3,c4⟩:=hm1.h.at hlt
  obtain ⟨d1,d2,d3,d4⟩:=hm2.h.at hlt
  have g:=fun b c=>hR.h [v,.int .i64 z1,.int .i64 z2,.int .i64 z3,.bool false,.bool true,ptr q,.int .i64 kr,.int .i64 a,.int .i64 (4 + vp),ptr q2,av,bv,.int .i64 (i + 1:Nat),b,c,undef] h5 hlt ⟨b,c,rfl,rfl⟩
  clear hR hq
  replace g:=Hid.mk g
  repeat' (first|simp -implicitDefEqProofs only [ze,aR,aW,zf,zg,Int.reduceBEq,Int.reduceBNe,Nat.reduceBEq,Int.reduceLT,Int.reduceLE, *]|with_reducible (first|apply kcd|apply kgd|apply kci|apply kgi)<;>intro hc)
  refine LoopW.upto n (fun k en hh=>∃ x15,en=[v,.int .i64 z1,.int .i64 z2,.int .i64 z3,.bool false,.bool true,ptr q,.int .i64 kr,.int .i64 a,.int .i64 (4 + vp),ptr q2,av,bv,.int .i64 i,.int .i64 k,x15,undef]∧hh=h5) ?_ (Nat.zero_le _) ⟨_,rfl,rfl⟩
  rintro k _ hF R2 hk ⟨x15',rfl,hF2⟩ hR2
  replace hF2:=hF2.symm
  subst hF2
  delta c7_l26 c7_r0 c7_r1 c7_r2 c7_r3 c7_r4 c7_r5 c7_r6 c7_r7 c7_r8 c7_r9 yb4 yb3 yb2 yb1 yb0 ya9 ya8 ya7 ya6 ya5 ya4 ya3 ya2 ya1 ya0 zz9 zz8 zz7 zz6
  by_cases hlk:k < n
  case neg =>
   have hlk' : ¬ (k:Int) < n:=by omega
   clear hR2
   repeat' (first|simp -implicitDefEqProofs only [ze,aR,aW,zf,zg,Int.reduceBEq,Int.reduceBNe,Nat.reduceBEq,Int.reduceLT,Int.reduceLE, *]|with_reducible (first|apply kcd|apply kgd|apply kci|apply kgi)<;>intro hc)
   exact g.h _ _
  case pos =>
   have hlk' : (k:Int) < n:=by omega
   have hwk:IntKind.i64.wrap ((k:Int) + 1)=((k + 1:Nat):Int):=by rw [zt (by omega) (by omega)];rfl
   obtain ⟨x1,x2,x3⟩:=hm1.h.cell hlt hlk
   obtain ⟨y1,y2,y3⟩:=hm2.h.cell hlt hlk
   have g2:=fun b=>hR2.h [v,.int .i64 z1,.int .i64 z2,.int .i64 z3,.bool false,.bool true,ptr q,.int .i64 kr,.int .i64 a,.int .i64 (4 + vp),ptr q2,av,bv,.int .i64 i,.int .i64 (k + 1:Nat),b,undef] h5 hlk ⟨b,rfl,rfl⟩
   clear hR2
   obtain ⟨w0,hw0⟩:∃ w,V i k=w:=⟨_,rfl⟩
   have ey:xo n a kr (4 + vp) V i k=if (i:Int)=a∧(kr:Int)≤k∧k < n then max w0 (4 + vp) else w0:=by rw [← hw0];rfl
   rw [hw0] at x3
   rw [ey] at y3
   by_cases hc1:(i:Int)=a
   ·have e1:((i:Int) == (a:Int))=true:=by simpa using hc1
    by_cases hc2:(kr:Int)≤k
    ·rw [if_pos ⟨hc1,hc2,hlk⟩] at y3
     have hge:¬ (k:Int) < kr:=by omega
     have mm:zd6 true [.int .i64 w0,.int .i64 (4 + vp)]=some (.int .i64 (max w0 (4 + vp))):=by simp only [zd6,if_true];rw [yu7]
     replace g2:=Hid.mk g2;replace hw0:=Hid.mk hw0;replace ey:=Hid.mk ey;replace hc1:=Hid.mk hc1
     repeat' (first|simp -implicitDefEqProofs only [ze,aR,aW,zf,zg,Int.reduceBEq,Int.reduceBNe,Nat.reduceBEq,Int.reduceLT,Int.reduceLE, *]|with_reducible (first|apply kcd|apply kgd|apply kci|apply kgi)<;>intro hc)
     exact g2.h _
    ·rw [if_neg (by omega)] at y3
     have hge:(k:Int) < kr:=by omega
     replace g2:=Hid.mk g2;replace hw0:=Hid.mk hw0;replace ey:=Hid.mk ey;replace hc1:=Hid.mk hc1
     repeat' (first|simp -implicitDefEqProofs only [ze,aR,aW,zf,zg,Int.reduceBEq,Int.reduceBNe,Nat.reduceBEq,Int.reduceLT,Int.reduceLE, *]|with_reducible (first|apply kcd|apply kgd|apply kci|apply kgi)<;>intro hc)
     exact g2.h _
   ·have e1:((i:Int) == (a:Int))=false:=by simpa using hc1
    rw [if_neg (by omega)] at y3
    replace g2:=Hid.mk g2;replace hw0:=Hid.mk hw0;replace ey:=Hid.mk ey;replace hc1:=Hid.mk hc1
    repeat' (first|simp -implicitDefEqProofs only [ze,aR,aW,zf,zg,Int.reduceBEq,Int.reduceBNe,Nat.reduceBEq,Int.reduceLT,Int.reduceLE, *]|with_reducible (first|apply kcd|apply kgd|apply kci|apply kgi)<;>intro hc)
    exact g2.h _
 case neg =>
  have hlt' : ¬ (i:Int) < H:=by omega
  clear hR
  have hti:(kv p (jl rd.name a (4 + vp))).tasks[p.tasks.length]? = some (jl rd.name a (4 + vp)):=by simp [kv]
  repeat' (first|simp -implicitDefEqProofs only [ze,aR,aW,zf,zg,Int.reduceBEq,Int.reduceBNe,Nat.reduceBEq,Int.reduceLT,Int.reduceLE,zw, *]|with_reducible (first|apply kcd|apply kgd|apply kci|apply kgi)<;>intro hc)
  refine zb3 hpE5.h ho2.h hti _ fun h6 lv l6 hlv=>?_
  rw [more_loc,hix.h] at hlv
  have lnl:y0 [lv]=some (.int .i64 1):=SlV.len hlv
  obtain ⟨idy,offy,cy,oy,w1,w2,w3⟩:=qw hlv (i:=0) (z:=kr) rfl
  rw [show ((0:Nat):Int)=0 from rfl] at w1
  have ekk:((kr:Int) == (kr:Int))=true:=by simp
  have g:=hq.h h6
  replace l6:=Hid.mk l6;replace hlv:=Hid.mk hlv;replace g:=Hid.mk g
  repeat' (first|simp -implicitDefEqProofs only [ze,aR,aW,zf,zg,Int.reduceBEq,Int.reduceBNe,Nat.reduceBEq,Int.reduceLT,Int.reduceLE, *]|with_reducible (first|apply kcd|apply kgd|apply kci|apply kgi)<;>intro hc)
  exact g.h
end Go.Eng.Sy
