/-
  Part of a proof of the laws of layer 06 (syntax): what each function does.
  Conditions: none.
-/
import Derived.Test.YtgjipdebbflbpaaGreatDoorBd
set_option linter.unusedSimpArgs false
set_option linter.unusedVariables false
namespace Go.Eng.Sy
open Go Go.Eng Go.Proofs
theorem we {α:Type}{l m:List α}{i:Nat}{a b:α}(h:l.take i=m.take i) (ha:l[i]? = some a) (hb:m[i]? = some b):(l.take (i + 1)=m.take (i + 1))↔a=b:=by
 rw [List.take_add_one,List.take_add_one,ha,hb,h]
 simp
theorem Yy {α:Type}{l m:List α}{i:Nat}{a b:α}(ha:l[i]? = some a) (hb:m[i]? = some b) (h:a≠b):l≠m:=by
 rintro rfl;rw [ha] at hb;cases hb;exact h rfl
def yd7 (M:Nat):Prop:=∀ (l m:List Ex),yc l≤M → ∀ (v w:Value) (h:Heap) (Q:Value→Heap→Prop),ExsV h v l→ExsV h w m→Q (.bool (jt l m)) h→CallW Tryz.prog 21 [v,w] h Q
theorem Ex.eq_of {a b:Ex}(h1:a.kind=b.kind) (h2:a.op=b.op) (h3:a.n=b.n) (h4:a.name=b.name) (h5:a.args=b.args):a=b:=by
 cases a;cases b
 simp only [Ex.kind,Ex.op,Ex.n,Ex.name,Ex.args] at *
 subst h1 h2 h3 h4 h5;rfl
theorem refEs_of {M:Nat}(ih:∀ M',M' < M→yd7 M'):yd7 M:=by
 intro l m hM v w h Q hv hw hq
 have go:∀ b,(b=true↔l=m)→Q (.bool b) h:=fun b hb=>by
  have:b=jt l m:=by rw [Bool.eq_iff_iff,hb,xo]
  rw [this];exact hq
 clear hq
 have hle:=hv.le
 have lv:=hv.len
 have lw:=hw.len
 replace ih:=zb ih;replace hv:=zb hv;replace hw:=zb hw;replace go:=zb go;replace hM:=zb hM
 have hq:=go
 refine zi (k:=2) ok21 rfl rfl rfl fun N=>?_
 rw [show y0 c21 [v,w]=[v,w,undef,undef,undef] from rfl]
 delta c21
 replace hq:=zb hq
 clear hq
 by_cases hl:l.length=m.length
 case neg =>
  have g:=go.h false (by simp only [Bool.false_eq_true,false_iff];intro e;exact hl (by rw [e]))
  have c:((l.length:Int) != (m.length:Int))=true:=by simp only [bne_iff_ne,ne_eq];omega
  replace g:=Hid.mk g
  clear go
  simp only [za,zf,zg, *]
  exact g.h
 have c:((l.length:Int) != (m.length:Int))=false:=by simp only [bne_eq_false_iff_eq];omega
 replace hl:=Hid.mk hl
 simp only [za,zf,zg, *]
 refine LoopW.upto l.length (fun i e h1=>h1=h∧l.take i=m.take i ∧ ∃ x6,e=[v,w,.bool false,.int .i64 i,x6]) ?_ (Nat.zero_le _) ⟨rfl,by simp,_,rfl⟩
 rintro i _ h1 R hi ⟨rfl,hpre,x6,rfl⟩ hR
 replace hpre:=Hid.mk hpre
 delta c21_l9
 by_cases hlt:i < l.length
 case neg =>
  have hlt' : ¬ (i:Int) < l.length:=by omega
  have hi2:i=l.length:=by omega
  have g:=go.h true (by
   simp only [true_iff]
   have:=hpre.h
   rwa [hi2,List.take_length,hl.h,List.take_length] at this)
  subst hi2
  replace g:=Hid.mk g
  clear go hR
  simp only [za,zf,zg, *]
  exact g.h
 have hlt' : (i:Int) < l.length:=by omega
 obtain ⟨a,ha⟩:∃ e,l[i]? = some e:=⟨_,List.getElem?_eq_getElem hlt⟩
 obtain ⟨b,hb⟩:∃ e,m[i]? = some e:=⟨_,List.getElem?_eq_getElem (by rw [← hl.h];exact hlt)⟩
 obtain ⟨id,off,cells,own,x,e1,e2,_,hx,e4⟩:=hv.h.elem ha
 obtain ⟨va,rfl,hva⟩:=hx.cells
 obtain ⟨id',off',cells',own',y,d1,d2,_,hy,d4⟩:=hw.h.elem hb
 obtain ⟨vb,rfl,hvb⟩:=hy.cells
 have f0:=e4 0 (by omega)
 have f1:=e4 1 (by omega)
 have f2:=e4 2 (by omega)
 have f3:=e4 3 (by omega)
 have f4:=e4 4 (by omega)
 have g0:=d4 0 (by omega)
 have g1:=d4 1 (by omega)
 have g2:=d4 2 (by omega)
 have g3:=d4 3 (by omega)
 have g4:=d4 4 (by omega)
 simp only [Nat.add_zero,List.getElem?_cons_zero,List.getElem?_cons_succ] at f0 f1 f2 f3 f4 g0 g1 g2 g3 g4
 have hw1:IntKind.i64.wrap ((i:Int) + 1)=((i + 1:Nat):Int):=by rw [z6 (by omega) (by omega)];rfl
 have step:=we hpre.h ha hb
 have no:a≠b → ∀ c,c=false→Q (.bool c) h1:=fun hne c hc=>go.h c (by subst hc;simp only [Bool.false_eq_true,false_iff];exact Yy ha hb hne)
 have hsm:yc a.args < M:=by have:=Z1 ha;have:=Wq a;have:=hM.h;omega
 replace step:=zb step;replace no:=zb no;replace hx:=zb hx;replace hy:=zb hy;replace hva:=zb hva;replace hvb:=zb hvb;replace hsm:=zb hsm
 clear e4 d4 go ha hb
 simp only [za,aR,zf,zg, *]
 refine ih.h _ hsm.h a.args b.args (Nat.le_refl _) va vb _ _ hva.h hvb.h ?_
 cases c0:jt a.args b.args with
 | false =>
  have g:=no.h (fun e=>by rw [e,(xo b.args b.args).2 rfl] at c0;cases c0) false rfl
  replace g:=Hid.mk g
  clear no hR step
  simp only [za, *]
  exact g.h
 | true =>
 cases c1:(a.kind != b.kind) with
 | true =>
  have g:=no.h (fun e=>by simp [e] at c1) false rfl
  replace g:=Hid.mk g
  clear no hR step
  simp only [za,aR,zf,zg, *]
  exact g.h
 | false =>
 cases c2:(a.op != b.op) with
 | true =>
  have g:=no.h (fun e=>by simp [e] at c2) false rfl
  replace g:=Hid.mk g
  clear no hR step
  simp only [za,aR,zf,zg, *]
  exact g.h
 | false =>
 cases c3:(a.n != b.n) with
 | true =>
  have g:=no.h (fun e=>by simp [e] at c3) false rfl
  replace g:=Hid.mk g
  clear no hR step
  simp only [za,aR,zf,zg, *]
  exact g.h
 | false =>
 cases c4:(a.name == b.name) with
 | false =>
  have g:=no.h (fun e=>by simp [e] at c4) false rfl
  replace g:=Hid.mk g
  clear no hR step
  simp only [za,aR,zf,zg,zb0, *]
  exact g.h
 | true =>
  have ht:=step.h.2 (Ex.eq_of (by simpa using c1) (by simpa using c2) (by simpa using c3) (by simpa using c4) ((xo _ _).1 c0))
  have g:=fun y=>hR.h [v,w,.bool false,.int .i64 ((i + 1:Nat):Int),y] h1 hlt ⟨rfl,ht,y,rfl⟩
  replace g:=Hid.mk g
  clear no hR step ht
  simp only [za,aR,zf,zg,zb0, *]
  exact g.h _
theorem refEs_c {l m:List Ex}{v w:Value}{h:Heap}(Q:Value→Heap→Prop) (hv:ExsV h v l) (hw:ExsV h w m) (hq:Q (.bool (jt l m)) h):CallW Tryz.prog 21 [v,w] h Q:=by
 have:∀ M,yd7 M:=fun M=>by
  induction M using Nat.strongRecOn with
  | _ M ih=>exact refEs_of ih
 exact this _ l m (Nat.le_refl _) v w h Q hv hw hq
end Go.Eng.Sy
namespace Go.Eng.Sy
open Go Go.Eng Go.Proofs
def yd6 (M:Nat):Prop:=∀ (l m:List St),zr l≤M → ∀ (v w:Value) (h:Heap) (Q:Value→Heap→Prop),StsV h v l→StsV h w m→Q (.bool (qz l m)) h→CallW Tryz.prog 49 [v,w] h Q
theorem St.eq_of {a b:St}(h1:a.kind=b.kind) (h2:a.name=b.name) (h3:a.src=b.src) (h4:a.n=b.n) (h5:a.args=b.args) (h6:a.thn=b.thn) (h7:a.els=b.els):a=b:=by
 cases a;cases b
 simp only [St.kind,St.name,St.src,St.n,St.args,St.thn,St.els] at *
 subst h1 h2 h3 h4 h5 h6 h7;rfl
set_option maxHeartbeats 1000000 in
set_option maxRecDepth 100000 in
theorem refSs_of {M:Nat}(ih:∀ M',M' < M→yd6 M'):yd6 M:=by
 intro l m hM v w h Q hv hw hq
 have go:∀ b,(b=true↔l=m)→Q (.bool b) h:=fun b hb=>by
  have:b=qz l m:=by rw [Bool.eq_iff_iff,hb,km]
  rw [this];exact hq
 clear hq
 have hle:=hv.le
 have lv:=hv.len
 have lw:=hw.len
 replace ih:=zb ih;replace hv:=zb hv;replace hw:=zb hw;replace go:=zb go;replace hM:=zb hM
 have hq:=go
 refine zi (k:=2) ok49 rfl rfl rfl fun N=>?_
 rw [show y0 c49 [v,w]=[v,w,undef,undef,undef,undef,undef] from rfl]
 delta c49
 replace hq:=zb hq
 clear hq
 by_cases hl:l.length=m.length
 case neg =>
  have g:=go.h false (by simp only [Bool.false_eq_true,false_iff];intro e;exact hl (by rw [e]))
  have c:((l.length:Int) != (m.length:Int))=true:=by simp only [bne_iff_ne,ne_eq];omega
  replace g:=Hid.mk g
  clear go
  simp only [za,zf,zg, *]
  exact g.h
 have c:((l.length:Int) != (m.length:Int))=false:=by simp only [bne_eq_false_iff_eq];omega
 replace hl:=Hid.mk hl
 simp only [za,zf,zg, *]
 refine LoopW.upto l.length (fun i e h1=>h1=h∧l.take i=m.take i ∧ ∃ x6 x7 x8,e=[v,w,.bool false,.int .i64 i,x6,x7,x8]) ?_ (Nat.zero_le _) ⟨rfl,by simp,_,_,_,rfl⟩
 rintro i _ h1 R hi ⟨rfl,hpre,x6,x7,x8,rfl⟩ hR
 replace hpre:=Hid.mk hpre
 delta yb1
 by_cases hlt:i < l.length
 case neg =>
  have hlt' : ¬ (i:Int) < l.length:=by omega
  have hi2:i=l.length:=by omega
  have g:=go.h true (by
   simp only [true_iff]
   have:=hpre.h
   rwa [hi2,List.take_length,hl.h,List.take_length] at this)
  subst hi2
  replace g:=Hid.mk g
  clear go hR
  simp only [za,zf,zg, *]
  exact g.h
 have hlt' : (i:Int) < l.length:=by omega
 obtain ⟨a,ha⟩:∃ e,l[i]? = some e:=⟨_,List.getElem?_eq_getElem hlt⟩
 obtain ⟨b,hb⟩:∃ e,m[i]? = some e:=⟨_,List.getElem?_eq_getElem (by rw [← hl.h];exact hlt)⟩
 obtain ⟨id,off,cells,own,x,e1,e2,_,hx,e4⟩:=hv.h.elem ha
 obtain ⟨va,ua,wa,rfl,hva,hua,hwa⟩:=hx.cells
 obtain ⟨id',off',cells',own',y,d1,d2,_,hy,d4⟩:=hw.h.elem hb
 obtain ⟨vb,ub,wb,rfl,hvb,hub,hwb⟩:=hy.cells
 have f0:=e4 0 (by omega)
 have f1:=e4 1 (by omega)
 have f2:=e4 2 (by omega)
 have f3:=e4 3 (by omega)
 have f4:=e4 4 (by omega)
 have f5:=e4 5 (by omega)
 have f6:=e4 6 (by omega)
 have g0:=d4 0 (by omega)
 have g1:=d4 1 (by omega)
 have g2:=d4 2 (by omega)
 have g3:=d4 3 (by omega)
 have g4:=d4 4 (by omega)
 have g5:=d4 5 (by omega)
 have g6:=d4 6 (by omega)
 simp only [Nat.add_zero,List.getElem?_cons_zero,List.getElem?_cons_succ] at f0 f1 f2 f3 f4 f5 f6 g0 g1 g2 g3 g4 g5 g6
 have hw1:IntKind.i64.wrap ((i:Int) + 1)=((i + 1:Nat):Int):=by rw [z6 (by omega) (by omega)];rfl
 have step:=we hpre.h ha hb
 have no:a≠b → ∀ c,c=false→Q (.bool c) h1:=fun hne c hc=>go.h c (by subst hc;simp only [Bool.false_eq_true,false_iff];exact Yy ha hb hne)
 have hsm:zr a.thn < M∧zr a.els < M:=by have:=Z0 ha;have:=Wp a;have:=hM.h;omega
 replace step:=zb step;replace no:=zb no;replace hx:=zb hx;replace hy:=zb hy;replace hva:=zb hva;replace hvb:=zb hvb;replace hua:=zb hua;replace hub:=zb hub;replace hwa:=zb hwa;replace hwb:=zb hwb;replace hsm:=zb hsm
 clear e4 d4 go ha hb
 simp only [za,aR,zf,zg, *]
 refine refEs_c _ hva.h hvb.h ?_
 have p1:∀ s,s=jt a.args b.args→(s=true↔a.args=b.args):=fun s e=>by rw [e,xo]
 obtain ⟨s1,hs1⟩:∃ s,s=jt a.args b.args:=⟨_,rfl⟩
 rw [← hs1]
 replace p1:=Hid.mk (p1 s1 hs1)
 clear hs1
 simp only [za,aR, *]
 refine ih.h _ hsm.h.1 a.thn b.thn (Nat.le_refl _) ua ub _ _ hua.h hub.h ?_
 have p2:∀ s,s=qz a.thn b.thn→(s=true↔a.thn=b.thn):=fun s e=>by rw [e,km]
 obtain ⟨s2,hs2⟩:∃ s,s=qz a.thn b.thn:=⟨_,rfl⟩
 rw [← hs2]
 replace p2:=Hid.mk (p2 s2 hs2)
 clear hs2
 simp only [za,aR, *]
 refine ih.h _ hsm.h.2 a.els b.els (Nat.le_refl _) wa wb _ _ hwa.h hwb.h ?_
 have p3:∀ s,s=qz a.els b.els→(s=true↔a.els=b.els):=fun s e=>by rw [e,km]
 obtain ⟨s3,hs3⟩:∃ s,s=qz a.els b.els:=⟨_,rfl⟩
 rw [← hs3]
 replace p3:=Hid.mk (p3 s3 hs3)
 clear hs3
 cases s1 with
 | false =>
  have g:=no.h (fun e=>by have:=p1.h.2 (by rw [e]);cases this) false rfl
  replace g:=Hid.mk g
  clear no hR step
  simp only [za, *]
  exact g.h
 | true =>
 cases s2 with
 | false =>
  have g:=no.h (fun e=>by have:=p2.h.2 (by rw [e]);cases this) false rfl
  replace g:=Hid.mk g
  clear no hR step
  simp only [za, *]
  exact g.h
 | true =>
 cases s3 with
 | false =>
  have g:=no.h (fun e=>by have:=p3.h.2 (by rw [e]);cases this) false rfl
  replace g:=Hid.mk g
  clear no hR step
  simp only [za, *]
  exact g.h
 | true =>
 cases c1:(a.kind != b.kind) with
 | true =>
  have g:=no.h (fun e=>by simp [e] at c1) false rfl
  replace g:=Hid.mk g
  clear no hR step
  simp only [za,aR,zf,zg, *]
  exact g.h
 | false =>
 cases c2:(a.name == b.name) with
 | false =>
  have g:=no.h (fun e=>by simp [e] at c2) false rfl
  replace g:=Hid.mk g
  clear no hR step
  simp only [za,aR,zf,zg,zb0, *]
  exact g.h
 | true =>
 cases c3:(a.src == b.src) with
 | false =>
  have g:=no.h (fun e=>by simp [e] at c3) false rfl
  replace g:=Hid.mk g
  clear no hR step
  simp only [za,aR,zf,zg,zb0, *]
  exact g.h
 | true =>
 cases c4:(a.n != b.n) with
 | true =>
  have g:=no.h (fun e=>by simp [e] at c4) false rfl
  replace g:=Hid.mk g
  clear no hR step
  simp only [za,aR,zf,zg,zb0, *]
  exact g.h
 | false =>
  have ht:=step.h.2 (St.eq_of (by simpa using c1) (by simpa using c2) (by simpa using c3) (by simpa using c4) (p1.h.1 rfl) (p2.h.1 rfl) (p3.h.1 rfl))
  have g:=fun y z u=>hR.h [v,w,.bool false,.int .i64 ((i + 1:Nat):Int),y,z,u] h1 hlt ⟨rfl,ht,y,z,u,rfl⟩
  replace g:=Hid.mk g
  clear no hR step ht
  simp only [za,aR,zf,zg,zb0, *]
  exact g.h _ _ _
theorem refSs_c {l m:List St}{v w:Value}{h:Heap}(Q:Value→Heap→Prop) (hv:StsV h v l) (hw:StsV h w m) (hq:Q (.bool (qz l m)) h):CallW Tryz.prog 49 [v,w] h Q:=by
 have:∀ M,yd6 M:=fun M=>by
  induction M using Nat.strongRecOn with
  | _ M ih=>exact refSs_of ih
 exact this _ l m (Nat.le_refl _) v w h Q hv hw hq
end Go.Eng.Sy
namespace Go.Eng.Sy
open Go Go.Eng Go.Proofs
abbrev ptr0 (id:Nat):Value:=.pointer (some ⟨id,0,none⟩)
theorem refDv_w {N:Nat}{vars:List Nat}{h:Heap}{q1 q2:Nat}{c1 c2:List Value}(g1:h.get q1=some (.blk c1 true)) (g2:h.get q2=some (.blk c2 true)){v w:Value}{l m:List Nm}(hc1:c1[1]? = some v) (hc2:c2[1]? = some w)
  (hv:NmsV h v l) (hw:NmsV h w m) (okl:∀ d ∈ l,d.ok) (okm:∀ d ∈ m,d.ok) (hlen:l.length=m.length){u0 u1 u5 u6 u7 u8 u9 u10:Value}(R:AExit→List Value→Heap→Prop)
  (hno:∀ e:List Value,l≠m→e[4]? = some (.bool false)→R .ret e h) (hyes:∀ z,l=m→R (.exit 0) [u0,u1,ptr0 q1,ptr0 q2,.bool false,z,u6,u7,u8,u9,u10] h) :
  LoopW Tryz.prog N vars yb4 [u0,u1,ptr0 q1,ptr0 q2,.bool false,.int .i64 0,u6,u7,u8,u9,u10] h R:=by
 have hln:=hv.len
 have hlm:=hw.len
 have hle:=hv.2
 replace hno:=zb hno;replace hyes:=zb hyes;replace hv:=zb hv;replace hw:=zb hw;replace hlen:=zb hlen
 refine LoopW.upto l.length (fun i e h1=>h1=h∧l.take i=m.take i∧e=[u0,u1,ptr0 q1,ptr0 q2,.bool false,.int .i64 i,u6,u7,u8,u9,u10]) ?_ (Nat.zero_le _) ⟨rfl,by simp,rfl⟩
 rintro i _ h1 R' hi ⟨rfl,hp,rfl⟩ hR
 delta yb4
 replace hp:=Hid.mk hp
 by_cases hlt:i < l.length
 ·have hlt' : (i:Int) < l.length:=by omega
  obtain ⟨d,hd⟩:∃ e,l[i]? = some e:=⟨_,List.getElem?_eq_getElem hlt⟩
  obtain ⟨e,he⟩:∃ e,m[i]? = some e:=⟨_,List.getElem?_eq_getElem (by have:=hlen.h;omega)⟩
  obtain ⟨id,off,cells,own,e1,e2,e3⟩:=hv.h.elem hd
  obtain ⟨id2,off2,cells2,own2,f1,f2,f3⟩:=hw.h.elem he
  have ek:=eqK_Dv (okl d (List.mem_of_getElem? hd)) (okm e (List.mem_of_getElem? he)) true
  simp only [if_true] at ek
  have hw' : IntKind.i64.wrap ((i:Int) + 1)=((i + 1:Nat):Int):=by rw [z6 (by omega) (by omega)];rfl
  have st:=we hp.h hd he
  replace hd:=zb hd;replace he:=zb he
  cases hb:d.beq e with
  | true =>
   rw [hb] at ek
   have ht:=st.2 ((Nm.beq_iff d e).1 hb)
   have g:=hR.h _ h1 hlt ⟨rfl,ht,rfl⟩
   replace g:=Hid.mk g
   clear hR hno hyes st ht
   simp only [za,aR,zf,zg, *]
   exact g.h
  | false =>
   rw [hb] at ek
   have hne:l≠m:=Yy hd.h he.h (fun e'=>by rw [(Nm.beq_iff d e).2 e'] at hb;cases hb)
   have g:=fun e=>hno.h e hne
   replace g:=Hid.mk g
   clear hR hno hyes st hne
   simp only [za,aR,zf,zg, *]
   exact g.h _ rfl
 ·have hlt' : ¬ (i:Int) < l.length:=by omega
  have hi2:i=l.length:=by omega
  have g:=hyes.h (.int .i64 i) (by
   have h1:=hp.h
   rwa [hi2,List.take_length,hlen.h,List.take_length] at h1)
  subst hi2
  replace g:=Hid.mk g
  clear hR hno hyes
  simp only [za,aR,zf,zg, *]
  exact g.h
theorem refRs_w {N:Nat}{vars:List Nat}{h:Heap}{q1 q2:Nat}{c1 c2:List Value}(g1:h.get q1=some (.blk c1 true)) (g2:h.get q2=some (.blk c2 true)){v w:Value}{l m:List Nm}(hc1:c1[2]? = some v) (hc2:c2[2]? = some w)
  (hv:NmsV h v l) (hw:NmsV h w m) (okl:∀ d ∈ l,d.ok) (okm:∀ d ∈ m,d.ok) (hlen:l.length=m.length){u0 u1 u5 u6 u7 u8 u9 u10:Value}(R:AExit→List Value→Heap→Prop)
  (hno:∀ e:List Value,l≠m→e[4]? = some (.bool false)→R .ret e h) (hyes:∀ z,l=m→R (.exit 2) [u0,u1,ptr0 q1,ptr0 q2,.bool false,u5,z,u7,u8,u9,u10] h) :
  LoopW Tryz.prog N vars zd6 [u0,u1,ptr0 q1,ptr0 q2,.bool false,u5,.int .i64 0,u7,u8,u9,u10] h R:=by
 have hln:=hv.len
 have hlm:=hw.len
 have hle:=hv.2
 replace hno:=zb hno;replace hyes:=zb hyes;replace hv:=zb hv;replace hw:=zb hw;replace hlen:=zb hlen
 refine LoopW.upto l.length (fun i e h1=>h1=h∧l.take i=m.take i∧e=[u0,u1,ptr0 q1,ptr0 q2,.bool false,u5,.int .i64 i,u7,u8,u9,u10]) ?_ (Nat.zero_le _) ⟨rfl,by simp,rfl⟩
 rintro i _ h1 R' hi ⟨rfl,hp,rfl⟩ hR
 delta zd6
 replace hp:=Hid.mk hp
 by_cases hlt:i < l.length
 ·have hlt' : (i:Int) < l.length:=by omega
  obtain ⟨d,hd⟩:∃ e,l[i]? = some e:=⟨_,List.getElem?_eq_getElem hlt⟩
  obtain ⟨e,he⟩:∃ e,m[i]? = some e:=⟨_,List.getElem?_eq_getElem (by have:=hlen.h;omega)⟩
  obtain ⟨id,off,cells,own,e1,e2,e3⟩:=hv.h.elem hd
  obtain ⟨id2,off2,cells2,own2,f1,f2,f3⟩:=hw.h.elem he
  have ek:=eqK_Rs (okl d (List.mem_of_getElem? hd)) (okm e (List.mem_of_getElem? he)) true
  simp only [if_true] at ek
  have hw' : IntKind.i64.wrap ((i:Int) + 1)=((i + 1:Nat):Int):=by rw [z6 (by omega) (by omega)];rfl
  have st:=we hp.h hd he
  replace hd:=zb hd;replace he:=zb he
  cases hb:d.beq e with
  | true =>
   rw [hb] at ek
   have ht:=st.2 ((Nm.beq_iff d e).1 hb)
   have g:=hR.h _ h1 hlt ⟨rfl,ht,rfl⟩
   replace g:=Hid.mk g
   clear hR hno hyes st ht
   simp only [za,aR,zf,zg, *]
   exact g.h
  | false =>
   rw [hb] at ek
   have hne:l≠m:=Yy hd.h he.h (fun e'=>by rw [(Nm.beq_iff d e).2 e'] at hb;cases hb)
   have g:=fun e=>hno.h e hne
   replace g:=Hid.mk g
   clear hR hno hyes st hne
   simp only [za,aR,zf,zg, *]
   exact g.h _ rfl
 ·have hlt' : ¬ (i:Int) < l.length:=by omega
  have hi2:i=l.length:=by omega
  have g:=hyes.h (.int .i64 i) (by
   have h1:=hp.h
   rwa [hi2,List.take_length,hlen.h,List.take_length] at h1)
  subst hi2
  replace g:=Hid.mk g
  clear hR hno hyes
  simp only [za,aR,zf,zg, *]
  exact g.h
theorem Tsk.eq_of {a b:Tsk}(h1:a.name=b.name) (h2:a.handler=b.handler) (h3:a.hart=b.hart) (h4:a.prio=b.prio) (h5:a.line=b.line) (h6:a.body=b.body):a=b:=by
 cases a;cases b
 simp only at *
 subst h1 h2 h3 h4 h5 h6;rfl
theorem refTk_w {N:Nat}{vars:List Nat}{h0 h:Heap}(hh:h0.le h){q1 q2:Nat}{c1 c2:List Value}(g1:h.get q1=some (.blk c1 true)) (g2:h.get q2=some (.blk c2 true)){v w:Value}{l m:List Tsk}(hc1:c1[3]? = some v) (hc2:c2[3]? = some w)
  (hv:TssV h v l) (hw:TssV h w m) (hlen:l.length=m.length){u0 u1 u5 u6 u7 u8 u9 u10:Value}(R:AExit→List Value→Heap→Prop)
  (hno:∀ (e:List Value) h',l≠m→h.le h' → e[4]? = some (.bool false)→R .ret e h') (hyes:∀ z x y k h',l=m→h.le h' → R (.exit 4) [u0,u1,ptr0 q1,ptr0 q2,.bool false,u5,u6,z,x,y,k] h') :
  LoopW Tryz.prog N vars zd5 [u0,u1,ptr0 q1,ptr0 q2,.bool false,u5,u6,.int .i64 0,u8,u9,u10] h R:=by
 have hln:=hv.len
 have hlm:=hw.len
 have hle:=hv.le
 replace hno:=zb hno;replace hyes:=zb hyes;replace hv:=zb hv;replace hw:=zb hw;replace hlen:=zb hlen;replace hh:=zb hh;replace g1:=zb g1;replace g2:=zb g2
 refine LoopW.upto l.length (fun i e h1=>h.le h1∧l.take i=m.take i ∧ ∃ x y k,e=[u0,u1,ptr0 q1,ptr0 q2,.bool false,u5,u6,.int .i64 i,x,y,k]) ?_ (Nat.zero_le _) ⟨.refl _,by simp,_,_,_,rfl⟩
 rintro i _ h1 R' hi ⟨hl1,hp,x8,x9,x10,rfl⟩ hR
 delta zd5
 replace hp:=Hid.mk hp
 have g1':=hl1.get g1.h
 have g2':=hl1.get g2.h
 by_cases hlt:i < l.length
 case neg =>
  have hlt' : ¬ (i:Int) < l.length:=by omega
  have hi2:i=l.length:=by omega
  have g:=fun x y k=>hyes.h (.int .i64 i) x y k h1 (by
   have h1:=hp.h
   rwa [hi2,List.take_length,hlen.h,List.take_length] at h1) hl1
  subst hi2
  replace g:=Hid.mk g
  clear hR hno hyes hl1
  simp only [za,aR,zf,zg, *]
  exact g.h _ _ _
 have hlt' : (i:Int) < l.length:=by omega
 obtain ⟨a,ha⟩:∃ e,l[i]? = some e:=⟨_,List.getElem?_eq_getElem hlt⟩
 obtain ⟨b,hb⟩:∃ e,m[i]? = some e:=⟨_,List.getElem?_eq_getElem (by have:=hlen.h;omega)⟩
 obtain ⟨id,off,cells,own,u,e1,e2,e3,hbu⟩:=(hv.h.mono hl1).elem ha
 obtain ⟨id2,off2,cells2,own2,u2,f1,f2,f3,hbu2⟩:=(hw.h.mono hl1).elem hb
 have sz:=Yu h1 a.name a.handler a.hart a.prio a.line hbu.one
 obtain ⟨p,h2,ep,eh2,gp,lh2⟩:=zo h1 [str a.name,.bool a.handler,.int .i64 a.hart,.int .i64 a.prio,.int .i64 a.line,u]
 rw [eh2,ep] at sz
 have sz2:=Yu h2 b.name b.handler b.hart b.prio b.line hbu2.one
 obtain ⟨p2,h3,ep2,eh3,gp2,lh3⟩:=zo h2 [str b.name,.bool b.handler,.int .i64 b.hart,.int .i64 b.prio,.int .i64 b.line,u2]
 rw [eh3,ep2] at sz2
 have gp':=lh3.get gp
 have g1'':=(lh2.trans lh3).get g1'
 have g2'':=(lh2.trans lh3).get g2'
 have g2m:=lh2.get g2'
 have f2':=lh2.get f2
 have hb3:=hbu.mono (lh2.trans lh3)
 have hb4:=hbu2.mono (lh2.trans lh3)
 have l3:=hl1.trans (lh2.trans lh3)
 have hw' : IntKind.i64.wrap ((i:Int) + 1)=((i + 1:Nat):Int):=by rw [z6 (by omega) (by omega)];rfl
 have st:=we hp.h ha hb
 have no:a≠b → ∀ e:List Value,e[4]? = some (.bool false)→R .ret e h3:=fun hne e he=>hno.h e h3 (Yy ha hb hne) l3 he
 replace st:=zb st;replace no:=zb no;replace hb3:=zb hb3;replace hb4:=zb hb4;replace l3:=zb l3
 clear ha hb hno hyes hl1 lh2 lh3 hbu hbu2
 simp only [za,aR,aW,zf,zg, *]
 refine refSs_c _ hb3.h hb4.h ?_
 have p1:∀ s,s=qz a.body b.body→(s=true↔a.body=b.body):=fun s e=>by rw [e,km]
 obtain ⟨s1,hs1⟩:∃ s,s=qz a.body b.body:=⟨_,rfl⟩
 rw [← hs1]
 replace p1:=Hid.mk (p1 s1 hs1)
 clear hs1
 have q2':=pEqBt a.handler b.handler
 cases s1 with
 | false =>
  have g:=no.h (fun e=>by have:=p1.h.2 (by rw [e]);cases this)
  replace g:=Hid.mk g
  clear no hR st
  simp only [za, *]
  exact g.h _ rfl
 | true =>
 cases k1:(a.name == b.name) with
 | false =>
  have g:=no.h (fun e=>by simp [e] at k1)
  replace g:=Hid.mk g
  clear no hR st
  simp only [za,aR,zf,zb0, *]
  exact g.h _ rfl
 | true =>
 cases k2:(a.handler == b.handler) with
 | false =>
  have g:=no.h (fun e=>by simp [e] at k2)
  replace g:=Hid.mk g
  clear no hR st
  simp only [za,aR,zf,zb0, *]
  exact g.h _ rfl
 | true =>
 cases k3:(a.hart != b.hart) with
 | true =>
  have g:=no.h (fun e=>by simp [e] at k3)
  replace g:=Hid.mk g
  clear no hR st
  simp only [za,aR,zf,zg,zb0, *]
  exact g.h _ rfl
 | false =>
 cases k4:(a.prio != b.prio) with
 | true =>
  have g:=no.h (fun e=>by simp [e] at k4)
  replace g:=Hid.mk g
  clear no hR st
  simp only [za,aR,zf,zg,zb0, *]
  exact g.h _ rfl
 | false =>
 cases k5:(a.line != b.line) with
 | true =>
  have g:=no.h (fun e=>by simp [e] at k5)
  replace g:=Hid.mk g
  clear no hR st
  simp only [za,aR,zf,zg,zb0, *]
  exact g.h _ rfl
 | false =>
  have ht:=st.h.2 (Tsk.eq_of (by simpa using k1) (by simpa using k2) (by simpa using k3) (by simpa using k4) (by simpa using k5) (p1.h.1 rfl))
  have g:=fun x y k=>hR.h [u0,u1,ptr0 q1,ptr0 q2,.bool false,u5,u6,.int .i64 ((i + 1:Nat):Int),x,y,k] h3 hlt ⟨l3.h,ht,x,y,k,rfl⟩
  replace g:=Hid.mk g
  clear no hR st ht
  simp only [za,aR,zf,zg,zb0, *]
  exact g.h _ _ _
end Go.Eng.Sy
namespace Go.Eng.Sy
open Go Go.Eng Go.Proofs
set_option maxHeartbeats 1000000 in
theorem zt2 {p q:Prg}{x y:List Value}{h:Heap}(hx:PrC h p x) (hy:PrC h q y) (okp:p.ok) (okq:q.ok) (Q:Value→Heap→Prop) (hq:∀ (b:Bool) h',(b=true↔p=q)→h.le h' → Q (.bool b) h') :
  CallW Tryz.prog 14 [.agg x.toArray,.agg y.toArray] h Q:=by
 obtain ⟨d,r,t,rfl,hd,hr,ht⟩:=hx
 obtain ⟨d',r',t',rfl,hd',hr',ht'⟩:=hy
 have b1:=Yd (n:=p.harts) hd.one hr.one ht.one
 have b2:=Yd (n:=q.harts) hd'.one hr'.one ht'.one
 obtain ⟨p1,h1,ep1,eh1,gp1,lh1⟩:=zo h [.int .i64 p.harts,d,r,t]
 obtain ⟨p2,h2,ep2,eh2,gp2,lh2⟩:=zo h1 [.int .i64 q.harts,d',r',t']
 have gp1':=lh2.get gp1
 have l2:=lh1.trans lh2
 replace hd:=hd.mono l2
 replace hr:=hr.mono l2
 replace ht:=ht.mono l2
 replace hd':=hd'.mono l2
 replace hr':=hr'.mono l2
 replace ht':=ht'.mono l2
 have go:∀ b h',h2.le h' → (b=true↔p=q)→Q (.bool b) h':=fun b h' hl hb=>hq b h' hb (l2.trans hl)
 have ng:∀ h',h2.le h' → p≠q→Q (.bool false) h':=fun h' hl hne=>go false h' hl (by simp [hne])
 have nd:=hd.len
 have nr:=hr.len
 have nt:=ht.len
 have nd':=hd'.len
 have nr':=hr'.len
 have nt':=ht'.len
 clear lh1 lh2 gp1 hq l2
 replace hd:=zb hd;replace hr:=zb hr;replace ht:=zb ht;replace hd':=zb hd';replace hr':=zb hr';replace ht':=zb ht';replace go:=zb go;replace ng:=zb ng
 have hq:=go
 refine zi (k:=4) ok14 rfl rfl rfl fun N=>?_
 rw [show y0 c14 [prV p.harts d r t,prV q.harts d' r' t']=[prV p.harts d r t,prV q.harts d' r' t',undef,undef,undef,undef,undef,undef,undef,undef,undef] from rfl]
 delta c14
 replace hq:=zb hq
 clear hq
 cases c1:(p.harts != q.harts) with
 | true =>
  have g:=ng.h h2 (.refl _) (fun e=>by simp [e] at c1)
  replace g:=Hid.mk g
  clear go ng
  simp only [za,aR,zf,zg, *]
  exact g.h
 | false =>
 cases c2:((p.devs.length:Int) != (q.devs.length:Int)) with
 | true =>
  have g:=ng.h h2 (.refl _) (fun e=>by simp [e] at c2)
  replace g:=Hid.mk g
  clear go ng
  simp only [za,aR,zf,zg, *]
  exact g.h
 | false =>
 cases c3:((p.ress.length:Int) != (q.ress.length:Int)) with
 | true =>
  have g:=ng.h h2 (.refl _) (fun e=>by simp [e] at c3)
  replace g:=Hid.mk g
  clear go ng
  simp only [za,aR,zf,zg, *]
  exact g.h
 | false =>
 cases c4:((p.tasks.length:Int) != (q.tasks.length:Int)) with
 | true =>
  have g:=ng.h h2 (.refl _) (fun e=>by simp [e] at c4)
  replace g:=Hid.mk g
  clear go ng
  simp only [za,aR,zf,zg, *]
  exact g.h
 | false =>
 have e1:p.harts=q.harts:=by simpa using c1
 have e2:p.devs.length=q.devs.length:=by simp only [bne_eq_false_iff_eq] at c2;omega
 have e3:p.ress.length=q.ress.length:=by simp only [bne_eq_false_iff_eq] at c3;omega
 have e4:p.tasks.length=q.tasks.length:=by simp only [bne_eq_false_iff_eq] at c4;omega
 replace e1:=zb e1;replace e2:=zb e2;replace e3:=zb e3;replace e4:=zb e4
 simp only [za,aR,zf,zg, *]
 refine refDv_w (u5:=undef) gp1' gp2 rfl rfl hd.h hd'.h okp.devs okq.devs e2.h _ (fun e hne he=>?_) fun z1 hde=>?_
 ·have g:=ng.h h2 (.refl _) (fun e=>hne (by rw [e]))
  replace g:=Hid.mk g
  clear go ng hne
  simp only [za, *]
  exact g.h
 replace hde:=Hid.mk hde
 simp only [za, *]
 refine refRs_w (u6:=undef) gp1' gp2 rfl rfl hr.h hr'.h okp.ress okq.ress e3.h _ (fun e hne he=>?_) fun z2 hre=>?_
 ·have g:=ng.h h2 (.refl _) (fun e=>hne (by rw [e]))
  replace g:=Hid.mk g
  clear go ng hne
  simp only [za, *]
  exact g.h
 replace hre:=Hid.mk hre
 simp only [za, *]
 refine refTk_w (u7:=undef) (.refl _) gp1' gp2 rfl rfl ht.h ht'.h e4.h _ (fun e h' hne hl he=>?_) fun z3 x y k h' hte hl=>?_
 ·have g:=ng.h h' hl (fun e=>hne (by rw [e]))
  replace g:=Hid.mk g
  clear go ng hne hl
  simp only [za, *]
  exact g.h
 have g:=go.h true h' hl (by
  simp only [true_iff]
  have a1:=e1.h;have a2:=hde.h;have a3:=hre.h
  cases p;cases q
  simp only at *
  subst a1 a2 a3 hte;rfl)
 replace g:=Hid.mk g
 clear go ng hte hl
 simp only [za, *]
 exact g.h
end Go.Eng.Sy
namespace Go.Eng.Sy
open Go Go.Eng Go.Proofs
def Zg:Sco:=⟨[],[],0,[],true⟩
def rawL (raw:List Int):Ex:=(ye Zg 6 (raw.take 100)).1
theorem Kl (p:Nat) (h:Heap):ScB p h Zg [zw,zw,.int .i64 0,zw,.bool true] :=
 ⟨zw,zw,zw,rfl,SlVB.nil _ _ _,SlVB.nil _ _ _,SlVB.nil _ _ _,by simp [Zg],by simp [Zg],by simp [Zg],by simp [Zg]⟩
abbrev zEx:List Value:=[.int .i64 0,.int .i64 0,.int .i64 0,.string ⟨#[]⟩,.slice none 0 0]
theorem st_Ex (h:Heap){e:Ex}{y:List Value}(hy:ExC h e y):yh 5 (h.alloc (.blk zEx true)) [.pointer (some ⟨h.next,0,none⟩),.agg y.toArray]=some (undef,h.alloc (.blk y true)):=by
 obtain ⟨v,rfl,hv⟩:=hy.cells
 exact zy rfl rfl rfl (by simpa [Value.oneCell'] using hv.one)
theorem zq9 {h:Heap}{q:Nat}{cells:List Value}(hg:h.get q=some (.blk cells true)){y:List Value}(hl:cells.length=y.length) (h1:y.all (·.oneCell')=true):yh y.length h [.pointer (some ⟨q,0,none⟩),.agg y.toArray]=some (undef,h.set q (.blk y true)):=by
 have hd:cells.drop y.length=[]:=List.drop_eq_nil_of_le (by omega)
 have hc:(Value.agg y.toArray).cells.toList=y:=rfl
 simp only [yh,hg,hc]
 rw [if_pos ⟨trivial,by omega,h1⟩]
 simp [hd]
theorem zd0 {h h1:Heap}{v:Value}{raw:List Int}(hv:Ints h v raw) (lh1:h.le h1) (n:Nat):∃ v',Ints h1 v' (raw.take n)∧((n:Int) < (raw.length:Int)∧vf 1 false true [v,.int .i64 n]=some v' ∨ ¬ (n:Int) < (raw.length:Int)∧v' = v):=by
 by_cases hl:n < raw.length
 ·obtain ⟨w,e1,e2⟩:=SlV.partHi hv (b:=n) (by simp;omega)
  refine ⟨w,?_,.inl ⟨by omega,e1⟩⟩
  rw [← List.map_take] at e2
  exact SlV.mono lh1 e2
 ·refine ⟨v,?_,.inr ⟨by omega,rfl⟩⟩
  rw [List.take_of_length_le (by omega)]
  exact SlV.mono lh1 hv
theorem bC' : yy [.slice none 0 0,.slice none 0 0,.int .i64 0,.slice none 0 0,.bool false] [(4,1)] [.bool true]=some (.agg #[zw,zw,.int .i64 0,zw,.bool true]):=rfl
theorem Raw_c {h:Heap}{v:Value}{raw:List Int}(hv:Ints h v raw) (hin:∀ z ∈ raw,inI z) (Q:Value→Heap→Prop)
  (hq:∀ h' y,h.le h' → ExCB (fun id=>h.next≤id) h' (rawL raw) y→Q (.agg y.toArray) h'):CallW Tryz.prog 18 [v] h Q:=by
 obtain ⟨q0,h1,eq0,eh1,gq0,lh1⟩:=zo h zEx
 obtain ⟨v',hv',hcase⟩:=zd0 hv lh1 100
 rw [show ((100:Nat):Int)=100 from rfl] at hcase
 have lv:=Ints.len hv
 have hvS:=SlV.isS hv'
 have ub:=bSrc hvS
 have bx:=Ua hvS
 have hin' : ∀ z ∈ raw.take 100,inI z:=fun z hz=>hin z (List.mem_of_mem_take hz)
 have hlen' : (raw.take 100).length≤1000:=by rw [List.length_take];omega
 obtain ⟨p,h2,ep,eh2,gp,lh2⟩:=zo h1 [v']
 have hsrc:Src h2 p (raw.take 100):=⟨v',gp,by
  have h3:=SlV.below hv'
  exact h3.to (lh2.toB fun id hb=>by rw [← ep];exact hb),hin',hlen'⟩
 have gq2:=lh2.get gq0
 have hq0p:=Heap.lt_of_get gq0
 rw [ep] at hq0p
 have hsc:=Kl p h2
 have hnx:h.next≤h2.next:=(lh1.trans lh2).next
 have hq0h:h.next=q0:=eq0
 have lh12:=lh1.trans lh2
 clear hv hin hin' hlen' hv' gp
 replace hsrc:=zb hsrc;replace lh12:=zb lh12;replace gq2:=zb gq2;replace hq0p:=zb hq0p;replace hq0h:=zb hq0h;replace hcase:=zb hcase;replace hvS:=zb hvS;replace hsc:=zb hsc;replace hnx:=zb hnx
 refine Z9 (k:=1) (agg:=true) (size:=5) ok18 rfl rfl rfl fun N=>?_
 rw [show y0 c18 [v]=[v,undef,undef] from rfl]
 delta c18
 replace hq:=zb hq
 refine cut2 (G:=?G) ?b ?main
 case b =>
  intro main
  rcases hcase.h with ⟨z,e⟩ | ⟨z,rfl⟩
  ·simp only [za,zf,zg,bC', *]
   first | done | exact main
  ·simp only [za,zf,zg,bC', *]
   first | done | exact main
 case main =>
  clear hcase lv ub bx gq0 eh1 eh2 eq0 ep
  refine xj Zg 6 (by omega) _ h2 p _ _ hsrc.h hsc.h fun h3 y hl3 _ hy=>?_
  have g3:=hl3.keep (i:=q0) (by have:=hq0p.h;omega) gq2.h
  obtain ⟨vy,hyv,hvy⟩:=hy.cells
  have hyl:zEx.length=y.length:=by rw [hyv];rfl
  have hy1:y.all (·.oneCell')=true:=by rw [hyv];simpa [Value.oneCell'] using (ExsVB.plain hvy).one
  have hy5:y.length=5:=by rw [hyv];rfl
  have st:=zq9 g3 hyl hy1
  rw [hy5] at st
  have hq0l:q0 < h3.next:=Heap.lt_of_get g3
  have e:(h3.set q0 (.blk y true)).get q0=some (.blk y true):=by rw [Heap.get_set,if_pos ⟨rfl,hq0l⟩]
  have pl:qk true 0 5 y=some (.agg y.toArray):=by
   simp only [qk,List.drop_zero,if_true]
   rw [if_pos (by omega),List.take_of_length_le (by omega)]
  have hle:h.le h3:=⟨fun id o ho=>by
   have h1:=Heap.lt_of_get ho
   have h2:=lh12.h.get ho
   rw [hl3.get id (by have:=hq0p.h;have:=hq0h.h;omega) (by rw [h2];rfl)];exact h2,Nat.le_trans lh12.h.next hl3.next⟩
  have g:=hq.h (h3.set q0 (.blk y true)) y (hle.set (by have:=hq0h.h;omega) _) (hy.to fun id cs own hb hg=>⟨by have:=hnx.h;omega,by rw [Heap.get_set,if_neg (by intro e;have:=hq0p.h;have:=lh12.h.next;have:=e.1;have:=Heap.lt_of_get gq2.h;omega)];exact hg⟩)
  replace g:=Hid.mk g
  clear hq hle hl3 hy hyv hvy hyl hy1 hy5 hq0l
  simp only [za,aR,aW, *]
  exact g.h
end Go.Eng.Sy
