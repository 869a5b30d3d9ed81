/-
  Part of a proof of the laws of layer 06 (syntax): what each function does.
  Conditions: none.
-/
import Derived.Test.YtgjipdebbflbpaaGreatDoorBd
import Derived.Test.YtgjipdebbflbpaaGreatDoorEc
import Derived.Lib.Case
import Derived.Test.YtgjipdebbflbpaaGreatDoorC
set_option linter.unusedSimpArgs false
set_option linter.unusedVariables false
namespace Go.Eng.Sy
open Go Go.Eng Go.Proofs
theorem jz {α:Type}{l m:List α}{i:Nat}{a b:α}(h:l.take i=m.take i) (ha:l[i]? = some a) (hb:m[i]? = some b):(l.take (i + 1)=m.take (i + 1))↔a=b:=by
 rw [List.take_add_one,List.take_add_one,ha,hb,h]
 simp
theorem Zg {α:Type}{l m:List α}{i:Nat}{a b:α}(ha:l[i]? = some a) (hb:m[i]? = some b) (h:a≠b):l≠m:=by
 rintro rfl;rw [ha] at hb;cases hb;exact h rfl
def qf4 (M:Nat):Prop:=∀ (l m:List Ex),qo l≤M → ∀ (v w:Value) (h:Heap) (Q:Value→Heap→Prop),ExsV h v l→ExsV h w m→Q (.bool (y3 l m)) h→CallW Tryz.prog 21 [v,w] h Q
theorem Ex.eq_of {a b:Ex}(h1:a.kind=b.kind) (h2:a.op=b.op) (h3:a.n=b.n) (h4:a.name=b.name) (h5:a.args=b.args):a=b:=by
 cases a;cases b
 simp only [Ex.kind,Ex.op,Ex.n,Ex.name,Ex.args] at *
 subst h1 h2 h3 h4 h5;rfl
theorem refEs_of {M:Nat}(ih:∀ M',M' < M→qf4 M'):qf4 M:=by
 intro l m hM v w h Q hv hw hq
 have go:∀ b,(b=true↔l=m)→Q (.bool b) h:=fun b hb=>by
  have:b=y3 l m:=by rw [Bool.eq_iff_iff,hb,jc]
  rw [this];exact hq
 clear hq
 have hle:=hv.le
 have lv:=hv.len
 have lw:=hw.len
 replace ih:=Hid.mk ih;replace hv:=Hid.mk hv;replace hw:=Hid.mk hw;replace go:=Hid.mk go;replace hM:=Hid.mk hM
 have hq:=go
 refine zi (k:=2) ok21 rfl rfl rfl fun N=>?_
 rw [show yq c21 [v,w]=[v,w,undef,undef,undef] from rfl]
 delta c21 yv9 yv8 yv7 yv6 yv5 yv4 yv3 yv2 yv1 zb2
 replace hq:=Hid.mk hq
 clear hq
 by_cases hl:l.length=m.length
 case neg =>
  have g:=go.h false (by simp only [Bool.false_eq_true,false_iff];intro e;exact hl (by rw [e]))
  have c:((l.length:Int) != (m.length:Int))=true:=by simp only [bne_iff_ne,ne_eq];omega
  replace g:=Hid.mk g
  clear go
  repeat' (first|simp -implicitDefEqProofs only [za,aR,aW,zb,zf,Int.reduceBEq,Int.reduceBNe,Nat.reduceBEq,Int.reduceLT,Int.reduceLE, *]|with_reducible (first|apply kcd|apply kgd|apply kci|apply kgi)<;>intro hc)
  exact g.h
 have c:((l.length:Int) != (m.length:Int))=false:=by simp only [bne_eq_false_iff_eq];omega
 replace hl:=Hid.mk hl
 repeat' (first|simp -implicitDefEqProofs only [za,aR,aW,zb,zf,Int.reduceBEq,Int.reduceBNe,Nat.reduceBEq,Int.reduceLT,Int.reduceLE, *]|with_reducible (first|apply kcd|apply kgd|apply kci|apply kgi)<;>intro hc)
 refine LoopW.upto l.length (fun i e h1=>h1=h∧l.take i=m.take i ∧ ∃ x6,e=[v,w,.bool false,.int .i64 i,x6]) ?_ (Nat.zero_le _) ⟨rfl,by simp,_,rfl⟩
 rintro i _ h1 R hi ⟨rfl,hpre,x6,rfl⟩ hR
 replace hpre:=Hid.mk hpre
 delta c21_l9 yv9 yv8 yv7 yv6 yv5 yv4 yv3 yv2 yv1 zb2
 by_cases hlt:i < l.length
 case neg =>
  have hlt' : ¬ (i:Int) < l.length:=by omega
  have hi2:i=l.length:=by omega
  have g:=go.h true (by
   simp only [true_iff]
   have:=hpre.h
   rwa [hi2,List.take_length,hl.h,List.take_length] at this)
  subst hi2
  replace g:=Hid.mk g
  clear go hR
  repeat' (first|simp -implicitDefEqProofs only [za,aR,aW,zb,zf,Int.reduceBEq,Int.reduceBNe,Nat.reduceBEq,Int.reduceLT,Int.reduceLE, *]|with_reducible (first|apply kcd|apply kgd|apply kci|apply kgi)<;>intro hc)
  exact g.h
 have hlt' : (i:Int) < l.length:=by omega
 obtain ⟨a,ha⟩:∃ e,l[i]? = some e:=⟨_,List.getElem?_eq_getElem hlt⟩
 obtain ⟨b,hb⟩:∃ e,m[i]? = some e:=⟨_,List.getElem?_eq_getElem (by rw [← hl.h];exact hlt)⟩
 obtain ⟨id,off,cells,own,x,e1,e2,_,hx,e4⟩:=hv.h.elem ha
 obtain ⟨va,rfl,hva⟩:=hx.cells
 obtain ⟨id',off',cells',own',y,d1,d2,_,hy,d4⟩:=hw.h.elem hb
 obtain ⟨vb,rfl,hvb⟩:=hy.cells
 have f0:=e4 0 (by omega)
 have f1:=e4 1 (by omega)
 have f2:=e4 2 (by omega)
 have f3:=e4 3 (by omega)
 have f4:=e4 4 (by omega)
 have g0:=d4 0 (by omega)
 have g1:=d4 1 (by omega)
 have g2:=d4 2 (by omega)
 have g3:=d4 3 (by omega)
 have g4:=d4 4 (by omega)
 simp only [Nat.add_zero,List.getElem?_cons_zero,List.getElem?_cons_succ] at f0 f1 f2 f3 f4 g0 g1 g2 g3 g4
 have hw1:IntKind.i64.wrap ((i:Int) + 1)=((i + 1:Nat):Int):=by rw [z6 (by omega) (by omega)];rfl
 have step:=jz hpre.h ha hb
 have no:a≠b → ∀ c,c=false→Q (.bool c) h1:=fun hne c hc=>go.h c (by subst hc;simp only [Bool.false_eq_true,false_iff];exact Zg ha hb hne)
 have hsm:qo a.args < M:=by have:=Zt ha;have:=za5 a;have:=hM.h;omega
 replace step:=Hid.mk step;replace no:=Hid.mk no;replace hx:=Hid.mk hx;replace hy:=Hid.mk hy;replace hva:=Hid.mk hva;replace hvb:=Hid.mk hvb;replace hsm:=Hid.mk hsm
 clear e4 d4 go ha hb
 repeat' (first|simp -implicitDefEqProofs only [za,aR,aW,zb,zf,Int.reduceBEq,Int.reduceBNe,Nat.reduceBEq,Int.reduceLT,Int.reduceLE, *]|with_reducible (first|apply kcd|apply kgd|apply kci|apply kgi)<;>intro hc)
 refine ih.h _ hsm.h a.args b.args (Nat.le_refl _) va vb _ _ hva.h hvb.h ?_
 cases c0:y3 a.args b.args with
 | false =>
  have g:=no.h (fun e=>by rw [e,(jc b.args b.args).2 rfl] at c0;cases c0) false rfl
  replace g:=Hid.mk g
  clear no hR step
  repeat' (first|simp -implicitDefEqProofs only [za,aR,aW,zb,zf,Int.reduceBEq,Int.reduceBNe,Nat.reduceBEq,Int.reduceLT,Int.reduceLE, *]|with_reducible (first|apply kcd|apply kgd|apply kci|apply kgi)<;>intro hc)
  exact g.h
 | true =>
 cases c1:(a.kind != b.kind) with
 | true =>
  have g:=no.h (fun e=>by simp [e] at c1) false rfl
  replace g:=Hid.mk g
  clear no hR step
  repeat' (first|simp -implicitDefEqProofs only [za,aR,aW,zb,zf,Int.reduceBEq,Int.reduceBNe,Nat.reduceBEq,Int.reduceLT,Int.reduceLE, *]|with_reducible (first|apply kcd|apply kgd|apply kci|apply kgi)<;>intro hc)
  exact g.h
 | false =>
 cases c2:(a.op != b.op) with
 | true =>
  have g:=no.h (fun e=>by simp [e] at c2) false rfl
  replace g:=Hid.mk g
  clear no hR step
  repeat' (first|simp -implicitDefEqProofs only [za,aR,aW,zb,zf,Int.reduceBEq,Int.reduceBNe,Nat.reduceBEq,Int.reduceLT,Int.reduceLE, *]|with_reducible (first|apply kcd|apply kgd|apply kci|apply kgi)<;>intro hc)
  exact g.h
 | false =>
 cases c3:(a.n != b.n) with
 | true =>
  have g:=no.h (fun e=>by simp [e] at c3) false rfl
  replace g:=Hid.mk g
  clear no hR step
  repeat' (first|simp -implicitDefEqProofs only [za,aR,aW,zb,zf,Int.reduceBEq,Int.reduceBNe,Nat.reduceBEq,Int.reduceLT,Int.reduceLE, *]|with_reducible (first|apply kcd|apply kgd|apply kci|apply kgi)<;>intro hc)
  exact g.h
 | false =>
 cases c4:(a.name == b.name) with
 | false =>
  have g:=no.h (fun e=>by simp [e] at c4) false rfl
  replace g:=Hid.mk g
  clear no hR step
  repeat' (first|simp -implicitDefEqProofs only [za,aR,aW,zb,zf,Int.reduceBEq,Int.reduceBNe,Nat.reduceBEq,Int.reduceLT,Int.reduceLE,Wo, *]|with_reducible (first|apply kcd|apply kgd|apply kci|apply kgi)<;>intro hc)
  exact g.h
 | true =>
  have ht:=step.h.2 (Ex.eq_of (by simpa using c1) (by simpa using c2) (by simpa using c3) (by simpa using c4) ((jc _ _).1 c0))
  have g:=fun y=>hR.h [v,w,.bool false,.int .i64 ((i + 1:Nat):Int),y] h1 hlt ⟨rfl,ht,y,rfl⟩
  replace g:=Hid.mk g
  clear no hR step ht
  repeat' (first|simp -implicitDefEqProofs only [za,aR,aW,zb,zf,Int.reduceBEq,Int.reduceBNe,Nat.reduceBEq,Int.reduceLT,Int.reduceLE,Wo, *]|with_reducible (first|apply kcd|apply kgd|apply kci|apply kgi)<;>intro hc)
  exact g.h _
theorem zs1 {l m:List Ex}{v w:Value}{h:Heap}(Q:Value→Heap→Prop) (hv:ExsV h v l) (hw:ExsV h w m) (hq:Q (.bool (y3 l m)) h):CallW Tryz.prog 21 [v,w] h Q:=by
 have:∀ M,qf4 M:=fun M=>by
  induction M using Nat.strongRecOn with
  | _ M ih=>exact refEs_of ih
 exact this _ l m (Nat.le_refl _) v w h Q hv hw hq
end Go.Eng.Sy
namespace Go.Eng.Sy
open Go Go.Eng Go.Proofs
def qf3 (M:Nat):Prop:=∀ (l m:List St),y0 l≤M → ∀ (v w:Value) (h:Heap) (Q:Value→Heap→Prop),StsV h v l→StsV h w m→Q (.bool (yy l m)) h→CallW Tryz.prog 49 [v,w] h Q
theorem St.eq_of {a b:St}(h1:a.kind=b.kind) (h2:a.name=b.name) (h3:a.src=b.src) (h4:a.n=b.n) (h5:a.args=b.args) (h6:a.thn=b.thn) (h7:a.els=b.els):a=b:=by
 cases a;cases b
 simp only [St.kind,St.name,St.src,St.n,St.args,St.thn,St.els] at *
 subst h1 h2 h3 h4 h5 h6 h7;rfl
set_option maxHeartbeats 1000000 in
set_option maxRecDepth 100000 in
theorem refSs_of {M:Nat}(ih:∀ M',M' < M→qf3 M'):qf3 M:=by
 intro l m hM v w h Q hv hw hq
 have go:∀ b,(b=true↔l=m)→Q (.bool b) h:=fun b hb=>by
  have:b=yy l m:=by rw [Bool.eq_iff_iff,hb,jb]
  rw [this];exact hq
 clear hq
 have hle:=hv.le
 have lv:=hv.len
 have lw:=hw.len
 replace ih:=Hid.mk ih;replace hv:=Hid.mk hv;replace hw:=Hid.mk hw;replace go:=Hid.mk go;replace hM:=Hid.mk hM
 have hq:=go
 refine zi (k:=2) ok49 rfl rfl rfl fun N=>?_
 rw [show yq c49 [v,w]=[v,w,undef,undef,undef,undef,undef] from rfl]
 delta c49 yp8 yp7 yp6 yp5 yp4 yp3 yp2 yp1 yp0 yo9 za8 za7
 replace hq:=Hid.mk hq
 clear hq
 by_cases hl:l.length=m.length
 case neg =>
  have g:=go.h false (by simp only [Bool.false_eq_true,false_iff];intro e;exact hl (by rw [e]))
  have c:((l.length:Int) != (m.length:Int))=true:=by simp only [bne_iff_ne,ne_eq];omega
  replace g:=Hid.mk g
  clear go
  repeat' (first|simp -implicitDefEqProofs only [za,aR,aW,zb,zf,Int.reduceBEq,Int.reduceBNe,Nat.reduceBEq,Int.reduceLT,Int.reduceLE, *]|with_reducible (first|apply kcd|apply kgd|apply kci|apply kgi)<;>intro hc)
  exact g.h
 have c:((l.length:Int) != (m.length:Int))=false:=by simp only [bne_eq_false_iff_eq];omega
 replace hl:=Hid.mk hl
 repeat' (first|simp -implicitDefEqProofs only [za,aR,aW,zb,zf,Int.reduceBEq,Int.reduceBNe,Nat.reduceBEq,Int.reduceLT,Int.reduceLE, *]|with_reducible (first|apply kcd|apply kgd|apply kci|apply kgi)<;>intro hc)
 refine LoopW.upto l.length (fun i e h1=>h1=h∧l.take i=m.take i ∧ ∃ x6 x7 x8,e=[v,w,.bool false,.int .i64 i,x6,x7,x8]) ?_ (Nat.zero_le _) ⟨rfl,by simp,_,_,_,rfl⟩
 rintro i _ h1 R hi ⟨rfl,hpre,x6,x7,x8,rfl⟩ hR
 replace hpre:=Hid.mk hpre
 delta yp9 yp8 yp7 yp6 yp5 yp4 yp3 yp2 yp1 yp0 yo9 za8 za7
 by_cases hlt:i < l.length
 case neg =>
  have hlt' : ¬ (i:Int) < l.length:=by omega
  have hi2:i=l.length:=by omega
  have g:=go.h true (by
   simp only [true_iff]
   have:=hpre.h
   rwa [hi2,List.take_length,hl.h,List.take_length] at this)
  subst hi2
  replace g:=Hid.mk g
  clear go hR
  repeat' (first|simp -implicitDefEqProofs only [za,aR,aW,zb,zf,Int.reduceBEq,Int.reduceBNe,Nat.reduceBEq,Int.reduceLT,Int.reduceLE, *]|with_reducible (first|apply kcd|apply kgd|apply kci|apply kgi)<;>intro hc)
  exact g.h
 have hlt' : (i:Int) < l.length:=by omega
 obtain ⟨a,ha⟩:∃ e,l[i]? = some e:=⟨_,List.getElem?_eq_getElem hlt⟩
 obtain ⟨b,hb⟩:∃ e,m[i]? = some e:=⟨_,List.getElem?_eq_getElem (by rw [← hl.h];exact hlt)⟩
 obtain ⟨id,off,cells,own,x,e1,e2,_,hx,e4⟩:=hv.h.elem ha
 obtain ⟨va,ua,wa,rfl,hva,hua,hwa⟩:=hx.cells
 obtain ⟨id',off',cells',own',y,d1,d2,_,hy,d4⟩:=hw.h.elem hb
 obtain ⟨vb,ub,wb,rfl,hvb,hub,hwb⟩:=hy.cells
 have f0:=e4 0 (by omega)
 have f1:=e4 1 (by omega)
 have f2:=e4 2 (by omega)
 have f3:=e4 3 (by omega)
 have f4:=e4 4 (by omega)
 have f5:=e4 5 (by omega)
 have f6:=e4 6 (by omega)
 have g0:=d4 0 (by omega)
 have g1:=d4 1 (by omega)
 have g2:=d4 2 (by omega)
 have g3:=d4 3 (by omega)
 have g4:=d4 4 (by omega)
 have g5:=d4 5 (by omega)
 have g6:=d4 6 (by omega)
 simp only [Nat.add_zero,List.getElem?_cons_zero,List.getElem?_cons_succ] at f0 f1 f2 f3 f4 f5 f6 g0 g1 g2 g3 g4 g5 g6
 have hw1:IntKind.i64.wrap ((i:Int) + 1)=((i + 1:Nat):Int):=by rw [z6 (by omega) (by omega)];rfl
 have step:=jz hpre.h ha hb
 have no:a≠b → ∀ c,c=false→Q (.bool c) h1:=fun hne c hc=>go.h c (by subst hc;simp only [Bool.false_eq_true,false_iff];exact Zg ha hb hne)
 have hsm:y0 a.thn < M∧y0 a.els < M:=by have:=Zs ha;have:=za4 a;have:=hM.h;omega
 replace step:=Hid.mk step;replace no:=Hid.mk no;replace hx:=Hid.mk hx;replace hy:=Hid.mk hy;replace hva:=Hid.mk hva;replace hvb:=Hid.mk hvb;replace hua:=Hid.mk hua;replace hub:=Hid.mk hub;replace hwa:=Hid.mk hwa;replace hwb:=Hid.mk hwb;replace hsm:=Hid.mk hsm
 clear e4 d4 go ha hb
 repeat' (first|simp -implicitDefEqProofs only [za,aR,aW,zb,zf,Int.reduceBEq,Int.reduceBNe,Nat.reduceBEq,Int.reduceLT,Int.reduceLE, *]|with_reducible (first|apply kcd|apply kgd|apply kci|apply kgi)<;>intro hc)
 refine zs1 _ hva.h hvb.h ?_
 have p1:∀ s,s=y3 a.args b.args→(s=true↔a.args=b.args):=fun s e=>by rw [e,jc]
 obtain ⟨s1,hs1⟩:∃ s,s=y3 a.args b.args:=⟨_,rfl⟩
 rw [← hs1]
 replace p1:=Hid.mk (p1 s1 hs1)
 clear hs1
 repeat' (first|simp -implicitDefEqProofs only [za,aR,aW,zb,zf,Int.reduceBEq,Int.reduceBNe,Nat.reduceBEq,Int.reduceLT,Int.reduceLE, *]|with_reducible (first|apply kcd|apply kgd|apply kci|apply kgi)<;>intro hc)
 refine ih.h _ hsm.h.1 a.thn b.thn (Nat.le_refl _) ua ub _ _ hua.h hub.h ?_
 have p2:∀ s,s=yy a.thn b.thn→(s=true↔a.thn=b.thn):=fun s e=>by rw [e,jb]
 obtain ⟨s2,hs2⟩:∃ s,s=yy a.thn b.thn:=⟨_,rfl⟩
 rw [← hs2]
 replace p2:=Hid.mk (p2 s2 hs2)
 clear hs2
 repeat' (first|simp -implicitDefEqProofs only [za,aR,aW,zb,zf,Int.reduceBEq,Int.reduceBNe,Nat.reduceBEq,Int.reduceLT,Int.reduceLE, *]|with_reducible (first|apply kcd|apply kgd|apply kci|apply kgi)<;>intro hc)
 refine ih.h _ hsm.h.2 a.els b.els (Nat.le_refl _) wa wb _ _ hwa.h hwb.h ?_
 have p3:∀ s,s=yy a.els b.els→(s=true↔a.els=b.els):=fun s e=>by rw [e,jb]
 obtain ⟨s3,hs3⟩:∃ s,s=yy a.els b.els:=⟨_,rfl⟩
 rw [← hs3]
 replace p3:=Hid.mk (p3 s3 hs3)
 clear hs3
 cases s1 with
 | false =>
  have g:=no.h (fun e=>by have:=p1.h.2 (by rw [e]);cases this) false rfl
  replace g:=Hid.mk g
  clear no hR step
  repeat' (first|simp -implicitDefEqProofs only [za,aR,aW,zb,zf,Int.reduceBEq,Int.reduceBNe,Nat.reduceBEq,Int.reduceLT,Int.reduceLE, *]|with_reducible (first|apply kcd|apply kgd|apply kci|apply kgi)<;>intro hc)
  exact g.h
 | true =>
 cases s2 with
 | false =>
  have g:=no.h (fun e=>by have:=p2.h.2 (by rw [e]);cases this) false rfl
  replace g:=Hid.mk g
  clear no hR step
  repeat' (first|simp -implicitDefEqProofs only [za,aR,aW,zb,zf,Int.reduceBEq,Int.reduceBNe,Nat.reduceBEq,Int.reduceLT,Int.reduceLE, *]|with_reducible (first|apply kcd|apply kgd|apply kci|apply kgi)<;>intro hc)
  exact g.h
 | true =>
 cases s3 with
 | false =>
  have g:=no.h (fun e=>by have:=p3.h.2 (by rw [e]);cases this) false rfl
  replace g:=Hid.mk g
  clear no hR step
  repeat' (first|simp -implicitDefEqProofs only [za,aR,aW,zb,zf,Int.reduceBEq,Int.reduceBNe,Nat.reduceBEq,Int.reduceLT,Int.reduceLE, *]|with_reducible (first|apply kcd|apply kgd|apply kci|apply kgi)<;>intro hc)
  exact g.h
 | true =>
 cases c1:(a.kind != b.kind) with
 | true =>
  have g:=no.h (fun e=>by simp [e] at c1) false rfl
  replace g:=Hid.mk g
  clear no hR step
  repeat' (first|simp -implicitDefEqProofs only [za,aR,aW,zb,zf,Int.reduceBEq,Int.reduceBNe,Nat.reduceBEq,Int.reduceLT,Int.reduceLE, *]|with_reducible (first|apply kcd|apply kgd|apply kci|apply kgi)<;>intro hc)
  exact g.h
 | false =>
 cases c2:(a.name == b.name) with
 | false =>
  have g:=no.h (fun e=>by simp [e] at c2) false rfl
  replace g:=Hid.mk g
  clear no hR step
  repeat' (first|simp -implicitDefEqProofs only [za,aR,aW,zb,zf,Int.reduceBEq,Int.reduceBNe,Nat.reduceBEq,Int.reduceLT,Int.reduceLE,Wo, *]|with_reducible (first|apply kcd|apply kgd|apply kci|apply kgi)<;>intro hc)
  exact g.h
 | true =>
 cases c3:(a.src == b.src) with
 | false =>
  have g:=no.h (fun e=>by simp [e] at c3) false rfl
  replace g:=Hid.mk g
  clear no hR step
  repeat' (first|simp -implicitDefEqProofs only [za,aR,aW,zb,zf,Int.reduceBEq,Int.reduceBNe,Nat.reduceBEq,Int.reduceLT,Int.reduceLE,Wo, *]|with_reducible (first|apply kcd|apply kgd|apply kci|apply kgi)<;>intro hc)
  exact g.h
 | true =>
 cases c4:(a.n != b.n) with
 | true =>
  have g:=no.h (fun e=>by simp [e] at c4) false rfl
  replace g:=Hid.mk g
  clear no hR step
  repeat' (first|simp -implicitDefEqProofs only [za,aR,aW,zb,zf,Int.reduceBEq,Int.reduceBNe,Nat.reduceBEq,Int.reduceLT,Int.reduceLE,Wo, *]|with_reducible (first|apply kcd|apply kgd|apply kci|apply kgi)<;>intro hc)
  exact g.h
 | false =>
  have ht:=step.h.2 (St.eq_of (by simpa using c1) (by simpa using c2) (by simpa using c3) (by simpa using c4) (p1.h.1 rfl) (p2.h.1 rfl) (p3.h.1 rfl))
  have g:=fun y z u=>hR.h [v,w,.bool false,.int .i64 ((i + 1:Nat):Int),y,z,u] h1 hlt ⟨rfl,ht,y,z,u,rfl⟩
  replace g:=Hid.mk g
  clear no hR step ht
  repeat' (first|simp -implicitDefEqProofs only [za,aR,aW,zb,zf,Int.reduceBEq,Int.reduceBNe,Nat.reduceBEq,Int.reduceLT,Int.reduceLE,Wo, *]|with_reducible (first|apply kcd|apply kgd|apply kci|apply kgi)<;>intro hc)
  exact g.h _ _ _
theorem refSs_c {l m:List St}{v w:Value}{h:Heap}(Q:Value→Heap→Prop) (hv:StsV h v l) (hw:StsV h w m) (hq:Q (.bool (yy l m)) h):CallW Tryz.prog 49 [v,w] h Q:=by
 have:∀ M,qf3 M:=fun M=>by
  induction M using Nat.strongRecOn with
  | _ M ih=>exact refSs_of ih
 exact this _ l m (Nat.le_refl _) v w h Q hv hw hq
end Go.Eng.Sy
namespace Go.Eng.Sy
open Go Go.Eng Go.Proofs
abbrev Kd (id:Nat):Value:=.pointer (some ⟨id,0,none⟩)
theorem refDv_w {N:Nat}{vars:List Nat}{h:Heap}{q1 q2:Nat}{c1 c2:List Value}(g1:h.get q1=some (.blk c1 true)) (g2:h.get q2=some (.blk c2 true)){v w:Value}{l m:List Nm}(hc1:c1[1]? = some v) (hc2:c2[1]? = some w)
  (hv:NmsV h v l) (hw:NmsV h w m) (okl:∀ d ∈ l,d.ok) (okm:∀ d ∈ m,d.ok) (hlen:l.length=m.length){u0 u1 u5 u6 u7 u8 u9 u10:Value}(R:AExit→List Value→Heap→Prop)
  (hno:∀ e:List Value,l≠m→e[4]? = some (.bool false)→R .ret e h) (hyes:∀ z,l=m→R (.exit 0) [u0,u1,Kd q1,Kd q2,.bool false,z,u6,u7,u8,u9,u10] h) :
  LoopW Tryz.prog N vars yw6 [u0,u1,Kd q1,Kd q2,.bool false,.int .i64 0,u6,u7,u8,u9,u10] h R:=by
 have hln:=hv.len
 have hlm:=hw.len
 have hle:=hv.2
 replace hno:=Hid.mk hno;replace hyes:=Hid.mk hyes;replace hv:=Hid.mk hv;replace hw:=Hid.mk hw;replace hlen:=Hid.mk hlen
 refine LoopW.upto l.length (fun i e h1=>h1=h∧l.take i=m.take i∧e=[u0,u1,Kd q1,Kd q2,.bool false,.int .i64 i,u6,u7,u8,u9,u10]) ?_ (Nat.zero_le _) ⟨rfl,by simp,rfl⟩
 rintro i _ h1 R' hi ⟨rfl,hp,rfl⟩ hR
 delta yw6 Ui Uh Ug Uf Ue Ud Uc Ub Ua Ji Jh Jg Jf Je Jd Jc Jb Ja Q9 Q8 Q7 Q6
 replace hp:=Hid.mk hp
 by_cases hlt:i < l.length
 ·have hlt' : (i:Int) < l.length:=by omega
  obtain ⟨d,hd⟩:∃ e,l[i]? = some e:=⟨_,List.getElem?_eq_getElem hlt⟩
  obtain ⟨e,he⟩:∃ e,m[i]? = some e:=⟨_,List.getElem?_eq_getElem (by have:=hlen.h;omega)⟩
  obtain ⟨id,off,cells,own,e1,e2,e3⟩:=hv.h.elem hd
  obtain ⟨id2,off2,cells2,own2,f1,f2,f3⟩:=hw.h.elem he
  have ek:=eqK_Dv (okl d (List.mem_of_getElem? hd)) (okm e (List.mem_of_getElem? he)) true
  simp only [if_true] at ek
  have hw' : IntKind.i64.wrap ((i:Int) + 1)=((i + 1:Nat):Int):=by rw [z6 (by omega) (by omega)];rfl
  have st:=jz hp.h hd he
  replace hd:=Hid.mk hd;replace he:=Hid.mk he
  cases hb:d.beq e with
  | true =>
   rw [hb] at ek
   have ht:=st.2 ((Nm.beq_iff d e).1 hb)
   have g:=hR.h _ h1 hlt ⟨rfl,ht,rfl⟩
   replace g:=Hid.mk g
   clear hR hno hyes st ht
   repeat' (first|simp -implicitDefEqProofs only [za,aR,aW,zb,zf,Int.reduceBEq,Int.reduceBNe,Nat.reduceBEq,Int.reduceLT,Int.reduceLE, *]|with_reducible (first|apply kcd|apply kgd|apply kci|apply kgi)<;>intro hc)
   exact g.h
  | false =>
   rw [hb] at ek
   have hne:l≠m:=Zg hd.h he.h (fun e'=>by rw [(Nm.beq_iff d e).2 e'] at hb;cases hb)
   have g:=fun e=>hno.h e hne
   replace g:=Hid.mk g
   clear hR hno hyes st hne
   repeat' (first|simp -implicitDefEqProofs only [za,aR,aW,zb,zf,Int.reduceBEq,Int.reduceBNe,Nat.reduceBEq,Int.reduceLT,Int.reduceLE, *]|with_reducible (first|apply kcd|apply kgd|apply kci|apply kgi)<;>intro hc)
   exact g.h _ rfl
 ·have hlt' : ¬ (i:Int) < l.length:=by omega
  have hi2:i=l.length:=by omega
  have g:=hyes.h (.int .i64 i) (by
   have h1:=hp.h
   rwa [hi2,List.take_length,hlen.h,List.take_length] at h1)
  subst hi2
  replace g:=Hid.mk g
  clear hR hno hyes
  repeat' (first|simp -implicitDefEqProofs only [za,aR,aW,zb,zf,Int.reduceBEq,Int.reduceBNe,Nat.reduceBEq,Int.reduceLT,Int.reduceLE, *]|with_reducible (first|apply kcd|apply kgd|apply kci|apply kgi)<;>intro hc)
  exact g.h
theorem refRs_w {N:Nat}{vars:List Nat}{h:Heap}{q1 q2:Nat}{c1 c2:List Value}(g1:h.get q1=some (.blk c1 true)) (g2:h.get q2=some (.blk c2 true)){v w:Value}{l m:List Nm}(hc1:c1[2]? = some v) (hc2:c2[2]? = some w)
  (hv:NmsV h v l) (hw:NmsV h w m) (okl:∀ d ∈ l,d.ok) (okm:∀ d ∈ m,d.ok) (hlen:l.length=m.length){u0 u1 u5 u6 u7 u8 u9 u10:Value}(R:AExit→List Value→Heap→Prop)
  (hno:∀ e:List Value,l≠m→e[4]? = some (.bool false)→R .ret e h) (hyes:∀ z,l=m→R (.exit 2) [u0,u1,Kd q1,Kd q2,.bool false,u5,z,u7,u8,u9,u10] h) :
  LoopW Tryz.prog N vars zb4 [u0,u1,Kd q1,Kd q2,.bool false,u5,.int .i64 0,u7,u8,u9,u10] h R:=by
 have hln:=hv.len
 have hlm:=hw.len
 have hle:=hv.2
 replace hno:=Hid.mk hno;replace hyes:=Hid.mk hyes;replace hv:=Hid.mk hv;replace hw:=Hid.mk hw;replace hlen:=Hid.mk hlen
 refine LoopW.upto l.length (fun i e h1=>h1=h∧l.take i=m.take i∧e=[u0,u1,Kd q1,Kd q2,.bool false,u5,.int .i64 i,u7,u8,u9,u10]) ?_ (Nat.zero_le _) ⟨rfl,by simp,rfl⟩
 rintro i _ h1 R' hi ⟨rfl,hp,rfl⟩ hR
 delta zb4 Ui Uh Ug Uf Ue Ud Uc Ub Ua Ji Jh Jg Jf Je Jd Jc Jb Ja Q9 Q8 Q7 Q6
 replace hp:=Hid.mk hp
 by_cases hlt:i < l.length
 ·have hlt' : (i:Int) < l.length:=by omega
  obtain ⟨d,hd⟩:∃ e,l[i]? = some e:=⟨_,List.getElem?_eq_getElem hlt⟩
  obtain ⟨e,he⟩:∃ e,m[i]? = some e:=⟨_,List.getElem?_eq_getElem (by have:=hlen.h;omega)⟩
  obtain ⟨id,off,cells,own,e1,e2,e3⟩:=hv.h.elem hd
  obtain ⟨id2,off2,cells2,own2,f1,f2,f3⟩:=hw.h.elem he
  have ek:=eqK_Rs (okl d (List.mem_of_getElem? hd)) (okm e (List.mem_of_getElem? he)) true
  simp only [if_true] at ek
  have hw' : IntKind.i64.wrap ((i:Int) + 1)=((i + 1:Nat):Int):=by rw [z6 (by omega) (by omega)];rfl
  have st:=jz hp.h hd he
  replace hd:=Hid.mk hd;replace he:=Hid.mk he
  cases hb:d.beq e with
  | true =>
   rw [hb] at ek
   have ht:=st.2 ((Nm.beq_iff d e).1 hb)
   have g:=hR.h _ h1 hlt ⟨rfl,ht,rfl⟩
   replace g:=Hid.mk g
   clear hR hno hyes st ht
   repeat' (first|simp -implicitDefEqProofs only [za,aR,aW,zb,zf,Int.reduceBEq,Int.reduceBNe,Nat.reduceBEq,Int.reduceLT,Int.reduceLE, *]|with_reducible (first|apply kcd|apply kgd|apply kci|apply kgi)<;>intro hc)
   exact g.h
  | false =>
   rw [hb] at ek
   have hne:l≠m:=Zg hd.h he.h (fun e'=>by rw [(Nm.beq_iff d e).2 e'] at hb;cases hb)
   have g:=fun e=>hno.h e hne
   replace g:=Hid.mk g
   clear hR hno hyes st hne
   repeat' (first|simp -implicitDefEqProofs only [za,aR,aW,zb,zf,Int.reduceBEq,Int.reduceBNe,Nat.reduceBEq,Int.reduceLT,Int.reduceLE, *]|with_reducible (first|apply kcd|apply kgd|apply kci|apply kgi)<;>intro hc)
   exact g.h _ rfl
 ·have hlt' : ¬ (i:Int) < l.length:=by omega
  have hi2:i=l.length:=by omega
  have g:=hyes.h (.int .i64 i) (by
   have h1:=hp.h
   rwa [hi2,List.take_length,hlen.h,List.take_length] at h1)
  subst hi2
  replace g:=Hid.mk g
  clear hR hno hyes
  repeat' (first|simp -implicitDefEqProofs only [za,aR,aW,zb,zf,Int.reduceBEq,Int.reduceBNe,Nat.reduceBEq,Int.reduceLT,Int.reduceLE, *]|with_reducible (first|apply kcd|apply kgd|apply kci|apply kgi)<;>intro hc)
  exact g.h
theorem Tsk.eq_of {a b:Tsk}(h1:a.name=b.name) (h2:a.handler=b.handler) (h3:a.hart=b.hart) (h4:a.prio=b.prio) (h5:a.line=b.line) (h6:a.body=b.body):a=b:=by
 cases a;cases b
 simp only at *
 subst h1 h2 h3 h4 h5 h6;rfl
theorem refTk_w {N:Nat}{vars:List Nat}{h0 h:Heap}(hh:h0.le h){q1 q2:Nat}{c1 c2:List Value}(g1:h.get q1=some (.blk c1 true)) (g2:h.get q2=some (.blk c2 true)){v w:Value}{l m:List Tsk}(hc1:c1[3]? = some v) (hc2:c2[3]? = some w)
  (hv:TssV h v l) (hw:TssV h w m) (hlen:l.length=m.length){u0 u1 u5 u6 u7 u8 u9 u10:Value}(R:AExit→List Value→Heap→Prop)
  (hno:∀ (e:List Value) h',l≠m→h.le h' → e[4]? = some (.bool false)→R .ret e h') (hyes:∀ z x y k h',l=m→h.le h' → R (.exit 4) [u0,u1,Kd q1,Kd q2,.bool false,u5,u6,z,x,y,k] h') :
  LoopW Tryz.prog N vars zb3 [u0,u1,Kd q1,Kd q2,.bool false,u5,u6,.int .i64 0,u8,u9,u10] h R:=by
 have hln:=hv.len
 have hlm:=hw.len
 have hle:=hv.le
 replace hno:=Hid.mk hno;replace hyes:=Hid.mk hyes;replace hv:=Hid.mk hv;replace hw:=Hid.mk hw;replace hlen:=Hid.mk hlen;replace hh:=Hid.mk hh;replace g1:=Hid.mk g1;replace g2:=Hid.mk g2
 refine LoopW.upto l.length (fun i e h1=>h.le h1∧l.take i=m.take i ∧ ∃ x y k,e=[u0,u1,Kd q1,Kd q2,.bool false,u5,u6,.int .i64 i,x,y,k]) ?_ (Nat.zero_le _) ⟨.refl _,by simp,_,_,_,rfl⟩
 rintro i _ h1 R' hi ⟨hl1,hp,x8,x9,x10,rfl⟩ hR
 delta zb3 Ui Uh Ug Uf Ue Ud Uc Ub Ua Ji Jh Jg Jf Je Jd Jc Jb Ja Q9 Q8 Q7 Q6
 replace hp:=Hid.mk hp
 have g1':=hl1.get g1.h
 have g2':=hl1.get g2.h
 by_cases hlt:i < l.length
 case neg =>
  have hlt' : ¬ (i:Int) < l.length:=by omega
  have hi2:i=l.length:=by omega
  have g:=fun x y k=>hyes.h (.int .i64 i) x y k h1 (by
   have h1:=hp.h
   rwa [hi2,List.take_length,hlen.h,List.take_length] at h1) hl1
  subst hi2
  replace g:=Hid.mk g
  clear hR hno hyes hl1
  repeat' (first|simp -implicitDefEqProofs only [za,aR,aW,zb,zf,Int.reduceBEq,Int.reduceBNe,Nat.reduceBEq,Int.reduceLT,Int.reduceLE, *]|with_reducible (first|apply kcd|apply kgd|apply kci|apply kgi)<;>intro hc)
  exact g.h _ _ _
 have hlt' : (i:Int) < l.length:=by omega
 obtain ⟨a,ha⟩:∃ e,l[i]? = some e:=⟨_,List.getElem?_eq_getElem hlt⟩
 obtain ⟨b,hb⟩:∃ e,m[i]? = some e:=⟨_,List.getElem?_eq_getElem (by have:=hlen.h;omega)⟩
 obtain ⟨id,off,cells,own,u,e1,e2,e3,hbu⟩:=(hv.h.mono hl1).elem ha
 obtain ⟨id2,off2,cells2,own2,u2,f1,f2,f3,hbu2⟩:=(hw.h.mono hl1).elem hb
 have sz:=uz h1 a.name a.handler a.hart a.prio a.line hbu.one
 have gp:=Heap.get_alloc_same h1 (.blk [str a.name,.bool a.handler,.int .i64 a.hart,.int .i64 a.prio,.int .i64 a.line,u] true)
 have lh2:=(Heap.le.refl h1).alloc (.blk [str a.name,.bool a.handler,.int .i64 a.hart,.int .i64 a.prio,.int .i64 a.line,u] true)
 obtain ⟨p,ep⟩:∃ x_,h1.next=x_:=⟨_,rfl⟩
 obtain ⟨h2,eh2⟩:∃ x_,h1.alloc (.blk [str a.name,.bool a.handler,.int .i64 a.hart,.int .i64 a.prio,.int .i64 a.line,u] true)=x_:=⟨_,rfl⟩
 rw [eh2] at gp lh2
 rw [ep] at gp
 rw [eh2,ep] at sz
 have sz2:=uz h2 b.name b.handler b.hart b.prio b.line hbu2.one
 have gp2:=Heap.get_alloc_same h2 (.blk [str b.name,.bool b.handler,.int .i64 b.hart,.int .i64 b.prio,.int .i64 b.line,u2] true)
 have lh3:=(Heap.le.refl h2).alloc (.blk [str b.name,.bool b.handler,.int .i64 b.hart,.int .i64 b.prio,.int .i64 b.line,u2] true)
 obtain ⟨p2,ep2⟩:∃ x_,h2.next=x_:=⟨_,rfl⟩
 obtain ⟨h3,eh3⟩:∃ x_,h2.alloc (.blk [str b.name,.bool b.handler,.int .i64 b.hart,.int .i64 b.prio,.int .i64 b.line,u2] true)=x_:=⟨_,rfl⟩
 rw [eh3] at gp2 lh3
 rw [ep2] at gp2
 rw [eh3,ep2] at sz2
 have gp':=lh3.get gp
 have g1'':=(lh2.trans lh3).get g1'
 have g2'':=(lh2.trans lh3).get g2'
 have g2m:=lh2.get g2'
 have f2':=lh2.get f2
 have hb3:=hbu.mono (lh2.trans lh3)
 have hb4:=hbu2.mono (lh2.trans lh3)
 have l3:=hl1.trans (lh2.trans lh3)
 have hw' : IntKind.i64.wrap ((i:Int) + 1)=((i + 1:Nat):Int):=by rw [z6 (by omega) (by omega)];rfl
 have st:=jz hp.h ha hb
 have no:a≠b → ∀ e:List Value,e[4]? = some (.bool false)→R .ret e h3:=fun hne e he=>hno.h e h3 (Zg ha hb hne) l3 he
 replace st:=Hid.mk st;replace no:=Hid.mk no;replace hb3:=Hid.mk hb3;replace hb4:=Hid.mk hb4;replace l3:=Hid.mk l3
 clear ha hb hno hyes hl1 lh2 lh3 hbu hbu2
 repeat' (first|simp -implicitDefEqProofs only [za,aR,aW,zb,zf,Int.reduceBEq,Int.reduceBNe,Nat.reduceBEq,Int.reduceLT,Int.reduceLE, *]|with_reducible (first|apply kcd|apply kgd|apply kci|apply kgi)<;>intro hc)
 refine refSs_c _ hb3.h hb4.h ?_
 have p1:∀ s,s=yy a.body b.body→(s=true↔a.body=b.body):=fun s e=>by rw [e,jb]
 obtain ⟨s1,hs1⟩:∃ s,s=yy a.body b.body:=⟨_,rfl⟩
 rw [← hs1]
 replace p1:=Hid.mk (p1 s1 hs1)
 clear hs1
 have q2':=pEqBt a.handler b.handler
 cases s1 with
 | false =>
  have g:=no.h (fun e=>by have:=p1.h.2 (by rw [e]);cases this)
  replace g:=Hid.mk g
  clear no hR st
  repeat' (first|simp -implicitDefEqProofs only [za,aR,aW,zb,zf,Int.reduceBEq,Int.reduceBNe,Nat.reduceBEq,Int.reduceLT,Int.reduceLE, *]|with_reducible (first|apply kcd|apply kgd|apply kci|apply kgi)<;>intro hc)
  exact g.h _ rfl
 | true =>
 cases k1:(a.name == b.name) with
 | false =>
  have g:=no.h (fun e=>by simp [e] at k1)
  replace g:=Hid.mk g
  clear no hR st
  repeat' (first|simp -implicitDefEqProofs only [za,aR,aW,zb,zf,Int.reduceBEq,Int.reduceBNe,Nat.reduceBEq,Int.reduceLT,Int.reduceLE,Wo, *]|with_reducible (first|apply kcd|apply kgd|apply kci|apply kgi)<;>intro hc)
  exact g.h _ rfl
 | true =>
 cases k2:(a.handler == b.handler) with
 | false =>
  have g:=no.h (fun e=>by simp [e] at k2)
  replace g:=Hid.mk g
  clear no hR st
  repeat' (first|simp -implicitDefEqProofs only [za,aR,aW,zb,zf,Int.reduceBEq,Int.reduceBNe,Nat.reduceBEq,Int.reduceLT,Int.reduceLE,Wo, *]|with_reducible (first|apply kcd|apply kgd|apply kci|apply kgi)<;>intro hc)
  exact g.h _ rfl
 | true =>
 cases k3:(a.hart != b.hart) with
 | true =>
  have g:=no.h (fun e=>by simp [e] at k3)
  replace g:=Hid.mk g
  clear no hR st
  repeat' (first|simp -implicitDefEqProofs only [za,aR,aW,zb,zf,Int.reduceBEq,Int.reduceBNe,Nat.reduceBEq,Int.reduceLT,Int.reduceLE,Wo, *]|with_reducible (first|apply kcd|apply kgd|apply kci|apply kgi)<;>intro hc)
  exact g.h _ rfl
 | false =>
 cases k4:(a.prio != b.prio) with
 | true =>
  have g:=no.h (fun e=>by simp [e] at k4)
  replace g:=Hid.mk g
  clear no hR st
  repeat' (first|simp -implicitDefEqProofs only [za,aR,aW,zb,zf,Int.reduceBEq,Int.reduceBNe,Nat.reduceBEq,Int.reduceLT,Int.reduceLE,Wo, *]|with_reducible (first|apply kcd|apply kgd|apply kci|apply kgi)<;>intro hc)
  exact g.h _ rfl
 | false =>
 cases k5:(a.line != b.line) with
 | true =>
  have g:=no.h (fun e=>by simp [e] at k5)
  replace g:=Hid.mk g
  clear no hR st
  repeat' (first|simp -implicitDefEqProofs only [za,aR,aW,zb,zf,Int.reduceBEq,Int.reduceBNe,Nat.reduceBEq,Int.reduceLT,Int.reduceLE,Wo, *]|with_reducible (first|apply kcd|apply kgd|apply kci|apply kgi)<;>intro hc)
  exact g.h _ rfl
 | false =>
  have ht:=st.h.2 (Tsk.eq_of (by simpa using k1) (by simpa using k2) (by simpa using k3) (by simpa using k4) (by simpa using k5) (p1.h.1 rfl))
  have g:=fun x y k=>hR.h [u0,u1,Kd q1,Kd q2,.bool false,u5,u6,.int .i64 ((i + 1:Nat):Int),x,y,k] h3 hlt ⟨l3.h,ht,x,y,k,rfl⟩
  replace g:=Hid.mk g
  clear no hR st ht
  repeat' (first|simp -implicitDefEqProofs only [za,aR,aW,zb,zf,Int.reduceBEq,Int.reduceBNe,Nat.reduceBEq,Int.reduceLT,Int.reduceLE,Wo, *]|with_reducible (first|apply kcd|apply kgd|apply kci|apply kgi)<;>intro hc)
  exact g.h _ _ _
end Go.Eng.Sy
namespace Go.Eng.Sy
open Go Go.Eng Go.Proofs
set_option maxHeartbeats 1000000 in
theorem Vc {p q:Prg}{x y:List Value}{h:Heap}(hx:PrC h p x) (hy:PrC h q y) (okp:p.ok) (okq:q.ok) (Q:Value→Heap→Prop) (hq:∀ (b:Bool) h',(b=true↔p=q)→h.le h' → Q (.bool b) h') :
  CallW Tryz.prog 14 [.agg x.toArray,.agg y.toArray] h Q:=by
 obtain ⟨d,r,t,rfl,hd,hr,ht⟩:=hx
 obtain ⟨d',r',t',rfl,hd',hr',ht'⟩:=hy
 have b1:=Jo (n:=p.harts) hd.one hr.one ht.one
 have b2:=Jo (n:=q.harts) hd'.one hr'.one ht'.one
 have gp1:=Heap.get_alloc_same h (.blk [.int .i64 p.harts,d,r,t] true)
 have lh1:=(Heap.le.refl h).alloc (.blk [.int .i64 p.harts,d,r,t] true)
 obtain ⟨p1,ep1⟩:∃ x_,h.next=x_:=⟨_,rfl⟩
 obtain ⟨h1,eh1⟩:∃ x_,h.alloc (.blk [.int .i64 p.harts,d,r,t] true)=x_:=⟨_,rfl⟩
 rw [eh1] at gp1 lh1
 rw [ep1] at gp1
 have gp2:=Heap.get_alloc_same h1 (.blk [.int .i64 q.harts,d',r',t'] true)
 have lh2:=(Heap.le.refl h1).alloc (.blk [.int .i64 q.harts,d',r',t'] true)
 obtain ⟨p2,ep2⟩:∃ x_,h1.next=x_:=⟨_,rfl⟩
 obtain ⟨h2,eh2⟩:∃ x_,h1.alloc (.blk [.int .i64 q.harts,d',r',t'] true)=x_:=⟨_,rfl⟩
 rw [eh2] at gp2 lh2
 rw [ep2] at gp2
 have gp1':=lh2.get gp1
 have l2:=lh1.trans lh2
 replace hd:=hd.mono l2
 replace hr:=hr.mono l2
 replace ht:=ht.mono l2
 replace hd':=hd'.mono l2
 replace hr':=hr'.mono l2
 replace ht':=ht'.mono l2
 have go:∀ b h',h2.le h' → (b=true↔p=q)→Q (.bool b) h':=fun b h' hl hb=>hq b h' hb (l2.trans hl)
 have ng:∀ h',h2.le h' → p≠q→Q (.bool false) h':=fun h' hl hne=>go false h' hl (by simp [hne])
 have nd:=hd.len
 have nr:=hr.len
 have nt:=ht.len
 have nd':=hd'.len
 have nr':=hr'.len
 have nt':=ht'.len
 clear lh1 lh2 gp1 hq l2
 replace hd:=Hid.mk hd;replace hr:=Hid.mk hr;replace ht:=Hid.mk ht;replace hd':=Hid.mk hd';replace hr':=Hid.mk hr';replace ht':=Hid.mk ht';replace go:=Hid.mk go;replace ng:=Hid.mk ng
 have hq:=go
 refine zi (k:=4) ok14 rfl rfl rfl fun N=>?_
 rw [show yq c14 [prV p.harts d r t,prV q.harts d' r' t']=[prV p.harts d r t,prV q.harts d' r' t',undef,undef,undef,undef,undef,undef,undef,undef,undef] from rfl]
 delta c14 Ui Uh Ug Uf Ue Ud Uc Ub Ua Ji Jh Jg Jf Je Jd Jc Jb Ja Q9 Q8 Q7 Q6
 replace hq:=Hid.mk hq
 clear hq
 cases c1:(p.harts != q.harts) with
 | true =>
  have g:=ng.h h2 (.refl _) (fun e=>by simp [e] at c1)
  replace g:=Hid.mk g
  clear go ng
  repeat' (first|simp -implicitDefEqProofs only [za,aR,aW,zb,zf,Int.reduceBEq,Int.reduceBNe,Nat.reduceBEq,Int.reduceLT,Int.reduceLE, *]|with_reducible (first|apply kcd|apply kgd|apply kci|apply kgi)<;>intro hc)
  exact g.h
 | false =>
 cases c2:((p.devs.length:Int) != (q.devs.length:Int)) with
 | true =>
  have g:=ng.h h2 (.refl _) (fun e=>by simp [e] at c2)
  replace g:=Hid.mk g
  clear go ng
  repeat' (first|simp -implicitDefEqProofs only [za,aR,aW,zb,zf,Int.reduceBEq,Int.reduceBNe,Nat.reduceBEq,Int.reduceLT,Int.reduceLE, *]|with_reducible (first|apply kcd|apply kgd|apply kci|apply kgi)<;>intro hc)
  exact g.h
 | false =>
 cases c3:((p.ress.length:Int) != (q.ress.length:Int)) with
 | true =>
  have g:=ng.h h2 (.refl _) (fun e=>by simp [e] at c3)
  replace g:=Hid.mk g
  clear go ng
  repeat' (first|simp -implicitDefEqProofs only [za,aR,aW,zb,zf,Int.reduceBEq,Int.reduceBNe,Nat.reduceBEq,Int.reduceLT,Int.reduceLE, *]|with_reducible (first|apply kcd|apply kgd|apply kci|apply kgi)<;>intro hc)
  exact g.h
 | false =>
 cases c4:((p.tasks.length:Int) != (q.tasks.length:Int)) with
 | true =>
  have g:=ng.h h2 (.refl _) (fun e=>by simp [e] at c4)
  replace g:=Hid.mk g
  clear go ng
  repeat' (first|simp -implicitDefEqProofs only [za,aR,aW,zb,zf,Int.reduceBEq,Int.reduceBNe,Nat.reduceBEq,Int.reduceLT,Int.reduceLE, *]|with_reducible (first|apply kcd|apply kgd|apply kci|apply kgi)<;>intro hc)
  exact g.h
 | false =>
 have e1:p.harts=q.harts:=by simpa using c1
 have e2:p.devs.length=q.devs.length:=by simp only [bne_eq_false_iff_eq] at c2;omega
 have e3:p.ress.length=q.ress.length:=by simp only [bne_eq_false_iff_eq] at c3;omega
 have e4:p.tasks.length=q.tasks.length:=by simp only [bne_eq_false_iff_eq] at c4;omega
 replace e1:=Hid.mk e1;replace e2:=Hid.mk e2;replace e3:=Hid.mk e3;replace e4:=Hid.mk e4
 repeat' (first|simp -implicitDefEqProofs only [za,aR,aW,zb,zf,Int.reduceBEq,Int.reduceBNe,Nat.reduceBEq,Int.reduceLT,Int.reduceLE, *]|with_reducible (first|apply kcd|apply kgd|apply kci|apply kgi)<;>intro hc)
 refine refDv_w (u5:=undef) gp1' gp2 rfl rfl hd.h hd'.h okp.devs okq.devs e2.h _ (fun e hne he=>?_) fun z1 hde=>?_
 ·have g:=ng.h h2 (.refl _) (fun e=>hne (by rw [e]))
  replace g:=Hid.mk g
  clear go ng hne
  repeat' (first|simp -implicitDefEqProofs only [za,aR,aW,zb,zf,Int.reduceBEq,Int.reduceBNe,Nat.reduceBEq,Int.reduceLT,Int.reduceLE, *]|with_reducible (first|apply kcd|apply kgd|apply kci|apply kgi)<;>intro hc)
  exact g.h
 replace hde:=Hid.mk hde
 repeat' (first|simp -implicitDefEqProofs only [za,aR,aW,zb,zf,Int.reduceBEq,Int.reduceBNe,Nat.reduceBEq,Int.reduceLT,Int.reduceLE, *]|with_reducible (first|apply kcd|apply kgd|apply kci|apply kgi)<;>intro hc)
 refine refRs_w (u6:=undef) gp1' gp2 rfl rfl hr.h hr'.h okp.ress okq.ress e3.h _ (fun e hne he=>?_) fun z2 hre=>?_
 ·have g:=ng.h h2 (.refl _) (fun e=>hne (by rw [e]))
  replace g:=Hid.mk g
  clear go ng hne
  repeat' (first|simp -implicitDefEqProofs only [za,aR,aW,zb,zf,Int.reduceBEq,Int.reduceBNe,Nat.reduceBEq,Int.reduceLT,Int.reduceLE, *]|with_reducible (first|apply kcd|apply kgd|apply kci|apply kgi)<;>intro hc)
  exact g.h
 replace hre:=Hid.mk hre
 repeat' (first|simp -implicitDefEqProofs only [za,aR,aW,zb,zf,Int.reduceBEq,Int.reduceBNe,Nat.reduceBEq,Int.reduceLT,Int.reduceLE, *]|with_reducible (first|apply kcd|apply kgd|apply kci|apply kgi)<;>intro hc)
 refine refTk_w (u7:=undef) (.refl _) gp1' gp2 rfl rfl ht.h ht'.h e4.h _ (fun e h' hne hl he=>?_) fun z3 x y k h' hte hl=>?_
 ·have g:=ng.h h' hl (fun e=>hne (by rw [e]))
  replace g:=Hid.mk g
  clear go ng hne hl
  repeat' (first|simp -implicitDefEqProofs only [za,aR,aW,zb,zf,Int.reduceBEq,Int.reduceBNe,Nat.reduceBEq,Int.reduceLT,Int.reduceLE, *]|with_reducible (first|apply kcd|apply kgd|apply kci|apply kgi)<;>intro hc)
  exact g.h
 have g:=go.h true h' hl (by
  simp only [true_iff]
  have a1:=e1.h;have a2:=hde.h;have a3:=hre.h
  cases p;cases q
  simp only at *
  subst a1 a2 a3 hte;rfl)
 replace g:=Hid.mk g
 clear go ng hte hl
 repeat' (first|simp -implicitDefEqProofs only [za,aR,aW,zb,zf,Int.reduceBEq,Int.reduceBNe,Nat.reduceBEq,Int.reduceLT,Int.reduceLE, *]|with_reducible (first|apply kcd|apply kgd|apply kci|apply kgi)<;>intro hc)
 exact g.h
end Go.Eng.Sy
namespace Go.Eng.Sy
open Go Go.Eng Go.Proofs
def anySc:Sco:=⟨[],[],0,[],true⟩
def rawL (raw:List Int):Ex:=(zw anySc 6 (raw.take 100)).1
theorem zp2:anySc.good:=⟨by simp [anySc],by simp [anySc],by simp [anySc]⟩
theorem anySc_B (p:Nat) (h:Heap):ScB p h anySc [zq,zq,.int .i64 0,zq,.bool true] :=
 ⟨zq,zq,zq,rfl,SlVB.nil _ _ _,SlVB.nil _ _ _,SlVB.nil _ _ _,by simp [anySc],by simp [anySc],by simp [anySc],by simp [anySc]⟩
theorem zt2 (raw:List Int):ExI (rawL raw) 7:=Z7 zp2 6 _
abbrev zEx:List Value:=[.int .i64 0,.int .i64 0,.int .i64 0,.string ⟨#[]⟩,.slice none 0 0]
theorem st_Ex (h:Heap){e:Ex}{y:List Value}(hy:ExC h e y):zx 5 (h.alloc (.blk zEx true)) [.pointer (some ⟨h.next,0,none⟩),.agg y.toArray]=some (undef,h.alloc (.blk y true)):=by
 obtain ⟨v,rfl,hv⟩:=hy.cells
 exact zr rfl rfl rfl (by simpa [Value.oneCell'] using hv.one)
theorem zq0 {h:Heap}{q:Nat}{cells:List Value}(hg:h.get q=some (.blk cells true)){y:List Value}(hl:cells.length=y.length) (h1:y.all (·.oneCell')=true):zx y.length h [.pointer (some ⟨q,0,none⟩),.agg y.toArray]=some (undef,h.set q (.blk y true)):=by
 have hd:cells.drop y.length=[]:=List.drop_eq_nil_of_le (by omega)
 have hc:(Value.agg y.toArray).cells.toList=y:=rfl
 simp only [zx,hg,hc]
 rw [if_pos ⟨trivial,by omega,h1⟩]
 simp [hd]
theorem cut_raw {h h1:Heap}{v:Value}{raw:List Int}(hv:Ints h v raw) (lh1:h.le h1) (n:Nat):∃ v',Ints h1 v' (raw.take n)∧((n:Int) < (raw.length:Int)∧kr 1 false true [v,.int .i64 n]=some v' ∨ ¬ (n:Int) < (raw.length:Int)∧v' = v):=by
 by_cases hl:n < raw.length
 ·obtain ⟨w,e1,e2⟩:=SlV.partHi hv (b:=n) (by simp;omega)
  refine ⟨w,?_,.inl ⟨by omega,e1⟩⟩
  rw [← List.map_take] at e2
  exact SlV.mono lh1 e2
 ·refine ⟨v,?_,.inr ⟨by omega,rfl⟩⟩
  rw [List.take_of_length_le (by omega)]
  exact SlV.mono lh1 hv
theorem bC' : yj [.slice none 0 0,.slice none 0 0,.int .i64 0,.slice none 0 0,.bool false] [(4,1)] [.bool true]=some (.agg #[zq,zq,.int .i64 0,zq,.bool true]):=rfl
theorem Raw_c {h:Heap}{v:Value}{raw:List Int}(hv:Ints h v raw) (hin:∀ z ∈ raw,inI z) (Q:Value→Heap→Prop)
  (hq:∀ h' y,h.le h' → ExCB (fun id=>h.next≤id) h' (rawL raw) y→Q (.agg y.toArray) h'):CallW Tryz.prog 18 [v] h Q:=by
 have gq0:=Heap.get_alloc_same h (.blk zEx true)
 have lh1:=(Heap.le.refl h).alloc (.blk zEx true)
 obtain ⟨q0,eq0⟩:∃ x_,h.next=x_:=⟨_,rfl⟩
 obtain ⟨h1,eh1⟩:∃ x_,h.alloc (.blk zEx true)=x_:=⟨_,rfl⟩
 rw [eh1] at gq0 lh1
 rw [eq0] at gq0
 obtain ⟨v',hv',hcase⟩:=cut_raw hv lh1 100
 rw [show ((100:Nat):Int)=100 from rfl] at hcase
 have lv:=Ints.len hv
 have hvS:=SlV.isS hv'
 have ub:=bSrc hvS
 have bx:=qd7 hvS
 have hin' : ∀ z ∈ raw.take 100,inI z:=fun z hz=>hin z (List.mem_of_mem_take hz)
 have hlen' : (raw.take 100).length≤1000:=by rw [List.length_take];omega
 have gp:=Heap.get_alloc_same h1 (.blk [v'] true)
 have lh2:=(Heap.le.refl h1).alloc (.blk [v'] true)
 obtain ⟨p,ep⟩:∃ x_,h1.next=x_:=⟨_,rfl⟩
 obtain ⟨h2,eh2⟩:∃ x_,h1.alloc (.blk [v'] true)=x_:=⟨_,rfl⟩
 rw [eh2] at gp lh2
 rw [ep] at gp
 have hsrc:Src h2 p (raw.take 100):=⟨v',gp,by
  have h3:=SlV.below hv'
  exact h3.to (lh2.toB fun id hb=>by rw [← ep];exact hb),hin',hlen'⟩
 have gq2:=lh2.get gq0
 have hq0p:=Heap.lt_of_get gq0
 rw [ep] at hq0p
 have hsc:=anySc_B p h2
 have hnx:h.next≤h2.next:=(lh1.trans lh2).next
 have hq0h:h.next=q0:=eq0
 have lh12:=lh1.trans lh2
 clear hv hin hin' hlen' hv' gp
 replace hsrc:=Hid.mk hsrc;replace lh12:=Hid.mk lh12;replace gq2:=Hid.mk gq2;replace hq0p:=Hid.mk hq0p;replace hq0h:=Hid.mk hq0h;replace hcase:=Hid.mk hcase;replace hvS:=Hid.mk hvS;replace hsc:=Hid.mk hsc;replace hnx:=Hid.mk hnx
 refine Y0 (k:=1) (agg:=true) (size:=5) ok18 rfl rfl rfl fun N=>?_
 rw [show yq c18 [v]=[v,undef,undef] from rfl]
 delta c18 c18_r0 c18_r1 c18_r2 c18_r3 c18_r4
 replace hq:=Hid.mk hq
 refine cut2 (G:=?G) ?b ?main
 case b =>
  intro main
  rcases hcase.h with ⟨z,e⟩ | ⟨z,rfl⟩
  ·repeat' (first|simp -implicitDefEqProofs only [za,aR,aW,zb,zf,Int.reduceBEq,Int.reduceBNe,Nat.reduceBEq,Int.reduceLT,Int.reduceLE,bC', *]|with_reducible (first|apply kcd|apply kgd|apply kci|apply kgi)<;>intro hc)
   first | done | exact main
  ·repeat' (first|simp -implicitDefEqProofs only [za,aR,aW,zb,zf,Int.reduceBEq,Int.reduceBNe,Nat.reduceBEq,Int.reduceLT,Int.reduceLE,bC', *]|with_reducible (first|apply kcd|apply kgd|apply kci|apply kgi)<;>intro hc)
   first | done | exact main
 case main =>
  clear hcase lv ub bx gq0 eh1 eh2 eq0 ep
  refine xg anySc 6 (by omega) _ h2 p _ _ hsrc.h hsc.h fun h3 y hl3 _ hy=>?_
  have g3:=hl3.keep (i:=q0) (by have:=hq0p.h;omega) gq2.h
  obtain ⟨vy,hyv,hvy⟩:=hy.cells
  have hyl:zEx.length=y.length:=by rw [hyv];rfl
  have hy1:y.all (·.oneCell')=true:=by rw [hyv];simpa [Value.oneCell'] using (ExsVB.plain hvy).one
  have hy5:y.length=5:=by rw [hyv];rfl
  have st:=zq0 g3 hyl hy1
  rw [hy5] at st
  have hq0l:q0 < h3.next:=Heap.lt_of_get g3
  have e:(h3.set q0 (.blk y true)).get q0=some (.blk y true):=by rw [Heap.get_set,if_pos ⟨rfl,hq0l⟩]
  have pl:yz true 0 5 y=some (.agg y.toArray):=by
   simp only [yz,List.drop_zero,if_true]
   rw [if_pos (by omega),List.take_of_length_le (by omega)]
  have hle:h.le h3:=⟨fun id o ho=>by
   have h1:=Heap.lt_of_get ho
   have h2:=lh12.h.get ho
   rw [hl3.get id (by have:=hq0p.h;have:=hq0h.h;omega) (by rw [h2];rfl)];exact h2,Nat.le_trans lh12.h.next hl3.next⟩
  have g:=hq.h (h3.set q0 (.blk y true)) y (hle.set (by have:=hq0h.h;omega) _) (hy.to fun id cs own hb hg=>⟨by have:=hnx.h;omega,by rw [Heap.get_set,if_neg (by intro e;have:=hq0p.h;have:=lh12.h.next;have:=e.1;have:=Heap.lt_of_get gq2.h;omega)];exact hg⟩)
  replace g:=Hid.mk g
  clear hq hle hl3 hy hyv hvy hyl hy1 hy5 hq0l
  repeat' (first|simp -implicitDefEqProofs only [za,aR,aW,zb,zf,Int.reduceBEq,Int.reduceBNe,Nat.reduceBEq,Int.reduceLT,Int.reduceLE, *]|with_reducible (first|apply kcd|apply kgd|apply kci|apply kgi)<;>intro hc)
  exact g.h
end Go.Eng.Sy
namespace Go.Eng.Sy
open Go Go.Eng Go.Proofs
def zw6 (b:UInt8):Bool:=b == 32 || b == 9
end Go.Eng.Sy
namespace Go.Eng.Sy
open Go Go.Eng Go.Proofs
end Go.Eng.Sy
namespace Go.Eng.Sy
open Go Go.Eng Go.Proofs
end Go.Eng.Sy
namespace Go.Eng.Sy
open Go Go.Eng Go.Proofs
def skip:Bool→List UInt8→Int→List UInt8 × Int
 | _,[],n=>([],n)
 | true,b::r,n=>if b=10 then skip false r (n + 1) else skip true r n
 | false,b::r,n=>if zw6 b then skip false r n else if b=10 then skip false r (n + 1) else if b=35 then skip true r n else (b::r,n)
theorem wh:∀ (c:Bool) (l:List UInt8) (n:Int),(skip c l n).1.length≤l.length∧n≤(skip c l n).2∧(skip c l n).2≤n + l.length
 | _,[],n=>by simp [skip]
 | true,b::r,n=>by
  unfold skip
  split
  ·have:=wh false r (n + 1);simp only [List.length_cons];omega
  ·have:=wh true r n;simp only [List.length_cons];omega
 | false,b::r,n=>by
  unfold skip
  split
  ·have:=wh false r n;simp only [List.length_cons];omega
  ·split
   ·have:=wh false r (n + 1);simp only [List.length_cons];omega
   ·split
    ·have:=wh true r n;simp only [List.length_cons];omega
    ·simp only [List.length_cons];omega
end Go.Eng.Sy
namespace Go.Eng.Sy
open Go Go.Eng Go.Proofs
end Go.Eng.Sy
namespace Go.Eng.Sy
open Go Go.Eng Go.Proofs
structure Tok where
 kind:Int
 text:List UInt8
 n:Int
 line:Int
def Tok.cells (t:Tok):List Value:=[.int .i64 t.kind,str t.text,.int .i64 t.n,.int .i64 t.line]
def Tok.val (t:Tok):Value:=.agg #[.int .i64 t.kind,str t.text,.int .i64 t.n,.int .i64 t.line]
end Go.Eng.Sy
namespace Go.Eng.Sy
open Go Go.Eng Go.Proofs
theorem Tok.box (t:Tok):Uo [t.val]=some (t.cells,fun id=>.pointer (some ⟨id,0,none⟩)):=by simp [Uo,Tok.val,Tok.cells,Value.cells,Value.oneCell']
end Go.Eng.Sy
namespace Go.Proofs
open Go.Shelf
end Go.Proofs
namespace Go.Eng.Sy
open Go Go.Eng Go.Proofs
end Go.Eng.Sy
namespace Go.Eng.Sy
open Go Go.Eng Go.Proofs
def low (b:UInt8):UInt8:=b ||| 32
def dig (b:UInt8):Option Nat:=if 48≤b.toNat∧b.toNat≤57 then some (b.toNat - 48) else if 97≤(low b).toNat∧(low b).toNat≤122 then some ((low b).toNat - 87) else none
def Jw (base:Nat):List UInt8→Nat→Option Nat
 | [],n=>some n
 | b::r,n=>match dig b with
  | none=>none
  | some d=>if base≤d then none else if 4294967295 < n * base + d then none else Jw base r (n * base + d)
def parseU (base:Nat) (l:List UInt8):Option Nat:=match l with | []=>none | _=>Jw base l 0
theorem u8_lt (b:UInt8):b.toNat < 256:=b.toNat_lt
end Go.Eng.Sy
namespace Go.Eng.Sy
open Go Go.Eng Go.Proofs
end Go.Eng.Sy
namespace Go.Proofs
open Go.Shelf
end Go.Proofs
namespace Go.Eng.Sy
open Go Go.Eng Go.Proofs
end Go.Eng.Sy
namespace Go.Eng.Sy
open Go Go.Eng Go.Proofs
end Go.Eng.Sy
namespace Go.Eng.Sy
open Go Go.Eng Go.Proofs
def digs (l:List UInt8):List UInt8 × Nat:=if [48,120].isPrefixOf l then (l.drop 2,16) else (l,10)
def nought (l:List UInt8):Bool:=(digs l).2 == 10 && (decide (1 < l.length) && l.head? == some 48)
def zh4 (l:List UInt8):Option Nat:=match parseU (digs l).2 (digs l).1 with
 | none=>none
 | some n=>if 10 < l.length || nought l || !(Lib.toLowerA (digs l).1 == (digs l).1) then none else some n
end Go.Eng.Sy
namespace Go.Eng.Sy
open Go Go.Eng Go.Proofs
def oneS (l:List UInt8):Tok × Bool :=
 if vf l then (⟨2,l,0,0⟩,true) else if zm l then (⟨1,l,0,0⟩,true) else (⟨3,l,(zh4 l).getD 0,0⟩,(zh4 l).isSome)
end Go.Eng.Sy
namespace Go.Eng
open Go
theorem OwnS.but {h0 h h' : Heap}{s:Nat}{v:Value}{xs:List (List Value)}{p:Nat}(ha:OwnS h0 h s v xs) (hno:Go.Eng.notOf v p) (hb:h.leBut p h'):OwnS h0 h' s v xs :=
 ha.get fun id hv hs=>hb.get id (fun e=>hno _ _ (e ▸ hv)) hs
theorem SlV.but {h h' : Heap}{s:Nat}{v:Value}{xs:List (List Value)}{p:Nat}(ha:SlV h s v xs) (hno:∀ off n c,v ≠ .slice (some ⟨p,off,none⟩) n c) (hb:h.leBut p h'):SlV h' s v xs:=by
 rcases ha with ha | ⟨id,off,hv,ha⟩
 ·exact .inl ha
 ·refine .inr ⟨id,off,hv,ha.imp (fun e=>e) fun ⟨c,o,hg,hx⟩=>⟨c,o,?_,hx⟩⟩
  rw [hb.get id (fun e=>hno _ _ _ (e ▸ hv)) (by rw [hg];rfl)];exact hg
end Go.Eng
namespace Go.Eng.Sy
open Go Go.Eng Go.Proofs
theorem pre_len {g l:List UInt8}(h:g.isPrefixOf l=true):g.length≤l.length:=(List.isPrefixOf_iff_prefix.1 h).length_le
end Go.Eng.Sy
namespace Go.Eng.Sy
open Go Go.Eng Go.Proofs
def ww:Nat→List UInt8→Int→List Tok × Int × Bool
 | 0,_,m=>([],m,true)
 | _ + 1,[],m=>([],m,true)
 | k + 1,b::r,m =>
  if 0 < wx (b::r) then
   if (oneS ((b::r).take (wx (b::r)))).2 then
    ({ (oneS ((b::r).take (wx (b::r)))).1 with line:=m }::(ww k (skip false ((b::r).drop (wx (b::r))) m).1 (skip false ((b::r).drop (wx (b::r))) m).2).1,
     (ww k (skip false ((b::r).drop (wx (b::r))) m).1 (skip false ((b::r).drop (wx (b::r))) m).2).2)
   else ([],m,false)
  else match signsL.find? (·.isPrefixOf (b::r)) with
   | some g=>(⟨4,g,0,m⟩::(ww k (skip false ((b::r).drop g.length) m).1 (skip false ((b::r).drop g.length) m).2).1,
     (ww k (skip false ((b::r).drop g.length) m).1 (skip false ((b::r).drop g.length) m).2).2)
   | none=>([],m,false)
theorem Wy {g:List UInt8}{l:List UInt8}(h:signsL.find? (·.isPrefixOf l)=some g):0 < g.length∧g.length≤l.length:=by
 have h1:=List.mem_of_find?_eq_some h
 have h2:=List.find?_some h
 refine ⟨?_,pre_len h2⟩
 have:∀ g ∈ signsL,0 < g.length:=by decide
 exact this g h1
end Go.Eng.Sy
namespace Go.Eng.Sy
open Go Go.Eng Go.Proofs
def zy5 (m:Int):Tok:=⟨5,[],0,m⟩
end Go.Eng.Sy
