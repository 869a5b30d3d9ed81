/-
  Part of a proof of the laws of layer 09 (ceiling): what each function does.
  Conditions: none.
-/
import Derived.Test.YtddbbcpelbcahaaGreatDoorBc
set_option linter.unusedSimpArgs false
set_option linter.unusedVariables false
namespace Go.Eng
open Go
def AObj.isLoop:AObj→Bool | .loop ..=>true | _=>false
structure Heap.leV (h h' : Heap):Prop where
 get:∀ i o,h.get i=some o→o.isLoop=false→h'.get i=some o
 next:h.next≤h'.next
theorem Heap.leV.refl (h:Heap):h.leV h:=⟨fun _ _ h _=>h,Nat.le_refl _⟩
theorem Heap.leV.trans {a b c:Heap}(h:a.leV b) (h' : b.leV c):a.leV c:=⟨fun i o hi ho=>h'.get i o (h.get i o hi ho) ho,Nat.le_trans h.next h'.next⟩
theorem Heap.le.v {h h' : Heap}(hl:h.le h'):h.leV h':=⟨fun i o hi _=>hl.get hi,hl.next⟩
theorem Heap.leV.blk {h h' : Heap}(hl:h.leV h'){i:Nat}{c:List Value}{o:Bool}(hi:h.get i=some (.blk c o)):h'.get i=some (.blk c o):=hl.get i _ hi rfl
theorem Heap.leV.map {h h' : Heap}(hl:h.leV h'){i:Nat}{c:List (Value × Value)}{o:Bool}(hi:h.get i=some (.map c o)):h'.get i=some (.map c o):=hl.get i _ hi rfl
def Heap.leB (h h' : Heap):Prop:=∀ id cells own,h.get id=some (.blk cells own)→h'.get id=some (.blk cells own)
theorem Heap.leV.b {h h' : Heap}(hl:h.leV h'):h.leB h':=fun _ _ _ hg=>hl.blk hg
theorem SlV.monoB {h h' : Heap}(hl:h.leB h'){s:Nat}{v:Value}{xs:List (List Value)}(ha:SlV h s v xs):SlV h' s v xs:=by
 rcases ha with ha | ⟨id,off,hv,ha⟩
 ·exact .inl ha
 ·exact .inr ⟨id,off,hv,ha.imp (fun e=>e) fun ⟨c,o,hg,hx⟩=>⟨c,o,hl _ _ _ hg,hx⟩⟩
end Go.Eng
namespace Go.Eng.Sy
open Go Go.Eng Go.Proofs
mutual
theorem ExC.monoB {h h' : Heap}(hl:h.leB h'):∀ {e:Ex}{x:List Value},ExC h e x→ExC h' e x
 | .mk _ _ _ _ _,_,⟨v,xs,h1,h2,hb,h3⟩=>⟨v,xs,h1,h2.monoB hl,hb,ExCs.monoB hl h3⟩
theorem ExCs.monoB {h h' : Heap}(hl:h.leB h'):∀ {l:List Ex}{xs:List (List Value)},ExCs h l xs→ExCs h' l xs
 | [],_,hx=>hx
 | _::_,_,⟨x,xr,h1,h2,h3⟩=>⟨x,xr,h1,ExC.monoB hl h2,ExCs.monoB hl h3⟩
end
mutual
theorem StC.monoB {h h' : Heap}(hl:h.leB h'):∀ {e:St}{x:List Value},StC h e x→StC h' e x
 | .mk _ _ _ _ _ _ _,_,⟨v,xs,u,ys,w,zs,h1,h2,h3,h4,h5⟩=>⟨v,xs,u,ys,w,zs,h1,⟨h2.1.monoB hl,h2.2.1,ExCs.monoB hl h2.2.2⟩,⟨h3.1.monoB hl,h3.2.1,StCs.monoB hl h3.2.2⟩,h4.monoB hl,h5.1,StCs.monoB hl h5.2⟩
theorem StCs.monoB {h h' : Heap}(hl:h.leB h'):∀ {l:List St}{xs:List (List Value)},StCs h l xs→StCs h' l xs
 | [],_,hx=>hx
 | _::_,_,⟨x,xr,h1,h2,h3⟩=>⟨x,xr,h1,StC.monoB hl h2,StCs.monoB hl h3⟩
end
theorem ExsV.monoB {h h' : Heap}(hl:h.leB h'){v:Value}{l:List Ex}(hv:ExsV h v l):ExsV h' v l:=let ⟨xs,a,c,b⟩:=hv;⟨xs,a.monoB hl,c,b.monoB hl⟩
theorem StsV.monoB {h h' : Heap}(hl:h.leB h'){v:Value}{l:List St}(hv:StsV h v l):StsV h' v l:=let ⟨xs,a,c,b⟩:=hv;⟨xs,a.monoB hl,c,b.monoB hl⟩
theorem TsC.monoB {h h' : Heap}(hl:h.leB h'){t:Tsk}{x:List Value}(hx:TsC h t x):TsC h' t x:=let ⟨v,a,b⟩:=hx;⟨v,a,b.monoB hl⟩
theorem TsCs.monoB {h h' : Heap}(hl:h.leB h'):∀ {l:List Tsk}{xs:List (List Value)},TsCs h l xs→TsCs h' l xs
 | [],_,hx=>hx
 | _::_,_,⟨x,xr,h1,h2,h3⟩=>⟨x,xr,h1,h2.monoB hl,TsCs.monoB hl h3⟩
theorem TssV.monoB {h h' : Heap}(hl:h.leB h'){v:Value}{l:List Tsk}(hv:TssV h v l):TssV h' v l:=let ⟨xs,a,c,b⟩:=hv;⟨xs,a.monoB hl,c,b.monoB hl⟩
theorem NmsV.monoB {h h' : Heap}(hl:h.leB h'){v:Value}{l:List Nm}(hv:NmsV h v l):NmsV h' v l:=⟨hv.1.monoB hl,hv.2⟩
theorem PrC.monoB {h h' : Heap}(hl:h.leB h'){p:Prg}{x:List Value}(hx:PrC h p x):PrC h' p x:=let ⟨d,r,t,a,b,c,e⟩:=hx;⟨d,r,t,a,b.monoB hl,c.monoB hl,e.monoB hl⟩
theorem Strs.monoB {h h' : Heap}(hl:h.leB h'){v:Value}{l:List (List UInt8)}(ha:Strs h v l):Strs h' v l:=SlV.monoB hl ha
mutual
def Zb (hs:List (List UInt8)):St→List (St × List (List UInt8))
 | .mk k m f n a t e=>(.mk k m f n a t e,hs)::(zq (if k=5 then hs++[m] else hs) t++zq hs e)
def zq (hs:List (List UInt8)):List St→List (St × List (List UInt8))
 | []=>[]
 | s::r=>Zb hs s++zq hs r
end
theorem Yj (hs:List (List UInt8)):∀ (a b:List St),zq hs (a++b)=zq hs a++zq hs b
 | [],b=>rfl
 | s::a,b=>by simp only [List.cons_append,zq,Yj hs a b,List.append_assoc]
theorem zk7 (hs:List (List UInt8)){l:List St}{i:Nat}{s:St}(hi:l[i]? = some s):zq hs l=zq hs (l.take i)++(Zb hs s++zq hs (l.drop (i + 1))):=by
 obtain ⟨h1,h2⟩:=List.getElem?_eq_some_iff.1 hi
 have:l=l.take i++s::l.drop (i + 1):=by
  rw [← h2,List.getElem_cons_drop,List.take_append_drop]
 conv=>lhs;rw [this]
 rw [Yj];rfl
def xi (l:List Nm) (s:List UInt8):Int:=match l.findIdx? (fun d=>d.name == s) with | some i=>(i:Int) | none=>-1
theorem yy8 {d:Nm}{q:Nat}{s:List UInt8}{own:Bool}{h:Heap}(hq0:h.get q=some (.blk [str s] own)) (Q:Value→Heap→Prop) (hq:∀ v h',v = .bool (d.name == s)→h.le h' → Q v h'):CallW Tryz.prog 174 [nmV d.name d.n,.pointer (some ⟨q,0,none⟩)] h Q:=by
 have b1:=yi6 d.name d.n
 have gp:=Heap.get_alloc_same h (.blk [str d.name,.int .i64 d.n] true)
 have lh1:=(Heap.le.refl h).alloc (.blk [str d.name,.int .i64 d.n] true)
 obtain ⟨p,ep⟩:∃ x_,h.next=x_:=⟨_,rfl⟩
 obtain ⟨h1,eh1⟩:∃ x_,h.alloc (.blk [str d.name,.int .i64 d.n] true)=x_:=⟨_,rfl⟩
 rw [eh1] at gp lh1
 rw [ep] at gp
 have g1:=lh1.get hq0
 replace hq:=hq _ h1 rfl lh1
 clear hq0
 replace lh1:=Hid.mk lh1
 refine zk (k:=3) ok174 rfl rfl rfl fun N=>?_
 rw [show ym c174 [nmV d.name d.n,.pointer (some ⟨q,0,none⟩)]=[nmV d.name d.n,.pointer (some ⟨q,0,none⟩),undef,undef] from rfl]
 delta c174 qm9 qm8
 replace hq:=Hid.mk hq
 repeat' (first|simp -implicitDefEqProofs only [ze,aR,aW,zf,zg,Int.reduceBEq,Int.reduceBNe,Nat.reduceBEq,Int.reduceLT,Int.reduceLE,eq_S, *]|with_reducible (first|apply kcd|apply kgd|apply kci|apply kgi)<;>intro hc)
 exact hq.h
theorem zi9 {d:Nm}{q:Nat}{s:List UInt8}{own:Bool}{h:Heap}(hq0:h.get q=some (.blk [str s] own)) (Q:Value→Heap→Prop) (hq:∀ v h',v = .bool (d.name == s)→h.le h' → Q v h'):CallW Tryz.prog 80 [nmV d.name d.n,.pointer (some ⟨q,0,none⟩)] h Q:=by
 have b1:=yi6 d.name d.n
 have gp:=Heap.get_alloc_same h (.blk [str d.name,.int .i64 d.n] true)
 have lh1:=(Heap.le.refl h).alloc (.blk [str d.name,.int .i64 d.n] true)
 obtain ⟨p,ep⟩:∃ x_,h.next=x_:=⟨_,rfl⟩
 obtain ⟨h1,eh1⟩:∃ x_,h.alloc (.blk [str d.name,.int .i64 d.n] true)=x_:=⟨_,rfl⟩
 rw [eh1] at gp lh1
 rw [ep] at gp
 have g1:=lh1.get hq0
 replace hq:=hq _ h1 rfl lh1
 clear hq0
 replace lh1:=Hid.mk lh1
 refine zk (k:=3) ok80 rfl rfl rfl fun N=>?_
 rw [show ym c80 [nmV d.name d.n,.pointer (some ⟨q,0,none⟩)]=[nmV d.name d.n,.pointer (some ⟨q,0,none⟩),undef,undef] from rfl]
 delta c80 c80_r0 c80_r1
 replace hq:=Hid.mk hq
 repeat' (first|simp -implicitDefEqProofs only [ze,aR,aW,zf,zg,Int.reduceBEq,Int.reduceBNe,Nat.reduceBEq,Int.reduceLT,Int.reduceLE,eq_S, *]|with_reducible (first|apply kcd|apply kgd|apply kci|apply kgi)<;>intro hc)
 exact hq.h
end Go.Eng.Sy
namespace Go.Eng.Sy
open Go Go.Eng Go.Proofs
theorem device_c {h:Heap}{p:Prg}{n:Int}{d r t:Value}(hd:NmsV h d p.devs) (hr:r.oneCell' = true) (ht:t.oneCell' = true) (s:List UInt8) (Q:Value→Heap→Prop) (hq:∀ h',h.le h' → Q (.int .i64 (xi p.devs s)) h'):CallW Tryz.prog 146 [prV n d r t,str s] h Q:=by
 have b1:=wp (n:=n) hd.one hr ht
 have gp1:=Heap.get_alloc_same h (.blk [.int .i64 n,d,r,t] true)
 have lh1:=(Heap.le.refl h).alloc (.blk [.int .i64 n,d,r,t] true)
 obtain ⟨p1,ep1⟩:∃ x_,h.next=x_:=⟨_,rfl⟩
 obtain ⟨h1,eh1⟩:∃ x_,h.alloc (.blk [.int .i64 n,d,r,t] true)=x_:=⟨_,rfl⟩
 rw [eh1] at gp1 lh1
 rw [ep1] at gp1
 have b2:Ya [str s]=some ([str s],fun id=>.pointer (some ⟨id,0,none⟩)):=rfl
 have gp2:=Heap.get_alloc_same h1 (.blk [str s] true)
 have lh2:=(Heap.le.refl h1).alloc (.blk [str s] true)
 obtain ⟨p2,ep2⟩:∃ x_,h1.next=x_:=⟨_,rfl⟩
 obtain ⟨h2,eh2⟩:∃ x_,h1.alloc (.blk [str s] true)=x_:=⟨_,rfl⟩
 rw [eh2] at gp2 lh2
 rw [ep2] at gp2
 have g1:=lh2.get gp1
 have l2:=lh1.trans lh2
 have hd2:=hd.mono l2
 replace lh1:=Hid.mk lh1;replace lh2:=Hid.mk lh2;replace l2:=Hid.mk l2;replace hd2:=Hid.mk hd2
 refine zk (k:=4) ok146 rfl rfl rfl fun N=>?_
 rw [show ym c146 [prV n d r t,str s]=[prV n d r t,str s,undef,undef,undef] from rfl]
 delta c146 qr3 qr2
 replace hq:=Hid.mk hq
 repeat' (first|simp -implicitDefEqProofs only [ze,aR,aW,zf,zg,Int.reduceBEq,Int.reduceBNe,Nat.reduceBEq,Int.reduceLT,Int.reduceLE, *]|with_reducible (first|apply kcd|apply kgd|apply kci|apply kgi)<;>intro hc)
 refine Zw (l:=p.devs) (p:=fun d=>d.name == s) hd2.h.1 (by simp) hd2.h.2 (fun i e x he hx h3 Q hl hq=>?_) _ fun v h3 hv hl=>?_
 ·rw [V7 he hx]
  refine CallW.val ?_
  exact yy8 (hl.get gp2) Q hq
 ·subst hv
  have g:=hq.h h3 (l2.h.trans hl)
  replace g:=Hid.mk g
  repeat' (first|simp -implicitDefEqProofs only [ze,aR,aW,zf,zg,Int.reduceBEq,Int.reduceBNe,Nat.reduceBEq,Int.reduceLT,Int.reduceLE, *]|with_reducible (first|apply kcd|apply kgd|apply kci|apply kgi)<;>intro hc)
  exact g.h
theorem vz {h:Heap}{p:Prg}{n:Int}{d r t:Value}(hd:d.oneCell' = true) (hr:NmsV h r p.ress) (ht:t.oneCell' = true) (s:List UInt8) (Q:Value→Heap→Prop) (hq:∀ h',h.le h' → Q (.int .i64 (xi p.ress s)) h'):CallW Tryz.prog 49 [prV n d r t,str s] h Q:=by
 have b1:=wp (n:=n) hd hr.one ht
 have gp1:=Heap.get_alloc_same h (.blk [.int .i64 n,d,r,t] true)
 have lh1:=(Heap.le.refl h).alloc (.blk [.int .i64 n,d,r,t] true)
 obtain ⟨p1,ep1⟩:∃ x_,h.next=x_:=⟨_,rfl⟩
 obtain ⟨h1,eh1⟩:∃ x_,h.alloc (.blk [.int .i64 n,d,r,t] true)=x_:=⟨_,rfl⟩
 rw [eh1] at gp1 lh1
 rw [ep1] at gp1
 have b2:Ya [str s]=some ([str s],fun id=>.pointer (some ⟨id,0,none⟩)):=rfl
 have gp2:=Heap.get_alloc_same h1 (.blk [str s] true)
 have lh2:=(Heap.le.refl h1).alloc (.blk [str s] true)
 obtain ⟨p2,ep2⟩:∃ x_,h1.next=x_:=⟨_,rfl⟩
 obtain ⟨h2,eh2⟩:∃ x_,h1.alloc (.blk [str s] true)=x_:=⟨_,rfl⟩
 rw [eh2] at gp2 lh2
 rw [ep2] at gp2
 have g1:=lh2.get gp1
 have l2:=lh1.trans lh2
 have hd2:=hr.mono l2
 replace lh1:=Hid.mk lh1;replace lh2:=Hid.mk lh2;replace l2:=Hid.mk l2;replace hd2:=Hid.mk hd2
 refine zk (k:=4) ok49 rfl rfl rfl fun N=>?_
 rw [show ym c49 [prV n d r t,str s]=[prV n d r t,str s,undef,undef,undef] from rfl]
 delta c49 c49_r0 c49_r1
 replace hq:=Hid.mk hq
 repeat' (first|simp -implicitDefEqProofs only [ze,aR,aW,zf,zg,Int.reduceBEq,Int.reduceBNe,Nat.reduceBEq,Int.reduceLT,Int.reduceLE, *]|with_reducible (first|apply kcd|apply kgd|apply kci|apply kgi)<;>intro hc)
 refine Zv (l:=p.ress) (p:=fun d=>d.name == s) hd2.h.1 (by simp) hd2.h.2 (fun i e x he hx h3 Q hl hq=>?_) _ fun v h3 hv hl=>?_
 ·rw [V7 he hx]
  refine CallW.val ?_
  exact zi9 (hl.get gp2) Q hq
 ·subst hv
  have g:=hq.h h3 (l2.h.trans hl)
  replace g:=Hid.mk g
  repeat' (first|simp -implicitDefEqProofs only [ze,aR,aW,zf,zg,Int.reduceBEq,Int.reduceBNe,Nat.reduceBEq,Int.reduceLT,Int.reduceLE, *]|with_reducible (first|apply kcd|apply kgd|apply kci|apply kgi)<;>intro hc)
  exact g.h
theorem PrC.parts {h:Heap}{p:Prg}{x:List Value}(hx:PrC h p x):∃ d r t,x=[.int .i64 p.harts,d,r,t]∧NmsV h d p.devs∧NmsV h r p.ress∧TssV h t p.tasks:=hx
end Go.Eng.Sy
namespace Go.Eng.Sy
open Go Go.Eng Go.Proofs
theorem undS:(Tryz.prog).underlying 9=some .string:=by kernel_rfl
theorem Ka {s:List UInt8}(hs:s.length≤1000):z7 Tryz.prog 9 (str s)=true:=by
 have h1:(ByteArray.mk s.toArray).size≤maxLen:=by
  have:(ByteArray.mk s.toArray).size=s.length:=by simp [ByteArray.size]
  rw [this]
  exact Nat.le_trans hs (by decide)
 simp [z7,ju,ur,keyOf,mapKey,undS,h1]
theorem flatEq_S (a b:List UInt8):ji (str a) (str b)=(a == b):=by
 simp [ji,Z3]
abbrev tkE (e:List UInt8 × Int):Value × Value:=(str e.1,.int .i64 e.2)
def TkM (es:List (Value × Value)) (nm:List (List UInt8)):Prop:=∃ l:List (List UInt8 × Int),es=l.map tkE∧(∀ e ∈ l,1≤e.2∧e.2≤nm.length)∧(∀ s,s ∈ l.map (·.1)↔s ∈ nm)∧(l.map (·.1)).Nodup∧l.length≤nm.length∧(l.length=nm.length↔nm.Nodup) ∧ ∀ s ∈ nm,s.length≤1000
theorem TkM.nil:TkM [] []:=⟨[],rfl,by simp,by simp,by simp,by simp,by simp,by simp⟩
theorem zi6 (l:List (List UInt8 × Int)) (s:List UInt8):(l.map tkE).findIdx? (fun e=>ji e.1 (str s))=l.findIdx? (fun e=>e.1 == s):=by
 rw [List.findIdx?_map]
 congr 1
 funext e
 exact flatEq_S e.1 s
theorem yq4 {l:List (List UInt8 × Int)}(hl:∀ s ∈ l.map (·.1),s.length≤1000):((l.map tkE).all fun e=>z7 Tryz.prog 9 e.1)=true:=by
 rw [List.all_eq_true]
 intro e he
 obtain ⟨x,hx,rfl⟩:=List.mem_map.1 he
 exact Ka (hl _ (List.mem_map.2 ⟨x,hx,rfl⟩))
theorem TkM.look {es:List (Value × Value)}{nm:List (List UInt8)}(ht:TkM es nm){s:List UInt8}(hsl:s.length≤1000){mid:Nat}{own:Bool}{h:Heap}(hg:h.get mid=some (.map es own)) :
  ∃ z:Int,vr (z7 Tryz.prog 9) (.int .i64 0) false [.map (some mid),str s] h.get=some (.int .i64 z)∧decide (0 < z)=nm.contains s∧0≤z∧z≤nm.length:=by
 obtain ⟨l,rfl,h1,h2,h3,h4,h5,h6⟩:=ht
 have hgood:=yq4 fun s hs=>h6 s ((h2 s).1 hs)
 have hgs:=Ka hsl
 simp only [vr,hg,hgs,hgood,Bool.true_and,if_true,Bool.false_eq_true,if_false,zi6]
 cases hf:l.findIdx? (fun e=>e.1 == s) with
 | none =>
  refine ⟨0,by simp,?_,by omega,by omega⟩
  have hn:s ∉ nm:=fun hs=>by
   obtain ⟨e,he,rfl⟩:=List.mem_map.1 ((h2 s).2 hs)
   have:=List.findIdx?_eq_none_iff.1 hf e he
   simp at this
  simp [hn]
 | some i =>
  obtain ⟨hi,he,_⟩:=List.findIdx?_eq_some_iff_getElem.1 hf
  have hm:=List.getElem_mem hi
  refine ⟨(l[i]).2,by simp [hi],?_,?_,?_⟩
  ·have hs:s ∈ nm:=(h2 s).1 (List.mem_map.2 ⟨_,hm,by simpa using he⟩)
   have:=(h1 _ hm).1
   simp [hs];omega
  ·have:=(h1 _ hm).1;omega
  ·exact (h1 _ hm).2
theorem Yf {l:List (List UInt8)}{s:List UInt8}:(l++[s]).Nodup↔l.Nodup∧s ∉ l:=by
 rw [List.nodup_append]
 simp
 intro _
 constructor
 ·intro h hs;exact h s hs rfl
 ·rintro h a ha rfl;exact h ha
theorem TkM.put {es:List (Value × Value)}{nm:List (List UInt8)}(ht:TkM es nm){s:List UInt8}(hsl:s.length≤1000){mid:Nat}{h:Heap}(hg:h.get mid=some (.map es true)){z:Int}(hz:vr (z7 Tryz.prog 9) (.int .i64 0) false [.map (some mid),str s] h.get=some (.int .i64 z)) :
  ∃ es',wj (z7 Tryz.prog 9) h [.map (some mid),str s,.int .i64 (z + 1)]=some (undef,h.set mid (.map es' true))∧TkM es' (nm++[s]):=by
 obtain ⟨l,rfl,h1,h2,h3,h4,h5,h6⟩:=ht
 have hgood:=yq4 fun s hs=>h6 s ((h2 s).1 hs)
 have hgs:=Ka hsl
 simp only [vr,hg,hgs,hgood,Bool.true_and,if_true,Bool.false_eq_true,if_false,zi6] at hz
 simp only [wj,hg,hgs,hgood,Bool.true_and,if_true]
 refine ⟨_,rfl,?_⟩
 have hall:∀ t ∈ nm++[s],t.length≤1000:=fun t ht=>by
  rcases List.mem_append.1 ht with ht | ht
  ·exact h6 t ht
  ·rw [List.mem_singleton.1 ht];exact hsl
 unfold w9
 rw [zi6]
 cases hf:l.findIdx? (fun e=>e.1 == s) with
 | none =>
  rw [hf] at hz
  simp at hz
  subst hz
  have hns:s ∉ l.map (·.1):=fun hs=>by
   obtain ⟨e,he,rfl⟩:=List.mem_map.1 hs
   have:=List.findIdx?_eq_none_iff.1 hf e he
   simp at this
  refine ⟨l++[(s,1)],by simp,?_,?_,?_,?_,?_,hall⟩
  ·intro e he
   rw [List.length_append]
   rcases List.mem_append.1 he with he | he
   ·have:=h1 e he;simp;omega
   ·rw [List.mem_singleton.1 he];simp;omega
  ·intro t
   rw [List.map_append,List.mem_append,List.mem_append,h2 t]
   simp
  ·rw [List.map_append]
   exact Yf.2 ⟨h3,hns⟩
  ·simp;omega
  ·rw [Yf,List.length_append,List.length_append,← h5]
   have:s ∉ nm:=fun hs=>hns ((h2 s).2 hs)
   simp [this]
 | some i =>
  rw [hf] at hz
  obtain ⟨hi,he,_⟩:=List.findIdx?_eq_some_iff_getElem.1 hf
  have he' : (l[i]).1=s:=by simpa using he
  have hm:=List.getElem_mem hi
  simp [hi] at hz
  subst hz
  have hs:s ∈ nm:=(h2 s).1 (List.mem_map.2 ⟨_,hm,he'⟩)
  have hmap:(l.set i (s,(l[i]).2 + 1)).map (·.1)=l.map (·.1):=by
   rw [List.map_set]
   apply List.ext_getElem?
   intro k
   rw [List.getElem?_set]
   by_cases e:i=k
   ·subst e;simp [hi,he']
   ·rw [if_neg e]
  refine ⟨l.set i (s,(l[i]).2 + 1),by rw [List.map_set],?_,?_,?_,?_,?_,hall⟩
  ·intro e hx
   rw [List.length_append]
   rcases List.mem_or_eq_of_mem_set hx with hx | rfl
   ·have:=h1 e hx;simp;omega
   ·have:=h1 _ hm;simp;omega
  ·intro t
   rw [hmap,h2 t,List.mem_append,List.mem_singleton]
   constructor
   ·exact .inl
   ·rintro (h | rfl)
    ·exact h
    ·exact hs
  ·rw [hmap];exact h3
  ·rw [List.length_set,List.length_append];omega
  ·rw [List.length_set,Yf,List.length_append]
   constructor
   ·intro e;simp at e;omega
   ·rintro ⟨_,e⟩;exact absurd hs e
structure Ck (h:Heap) (q:Nat) (p:Prg) (nm:List (List UInt8)) (d r t:Value) (mid:Nat):Prop where
 get:∃ own,h.get q=some (.blk [.int .i64 p.harts,d,r,t,.map (some mid)] own)
 hd:NmsV h d p.devs
 hr:NmsV h r p.ress
 ht:TssV h t p.tasks
 map:∃ es own,h.get mid=some (.map es own)∧TkM es nm
theorem Ck.mono {h h' : Heap}(hl:h.leV h'){q:Nat}{p:Prg}{nm:List (List UInt8)}{d r t:Value}{mid:Nat}(hc:Ck h q p nm d r t mid):Ck h' q p nm d r t mid :=
 ⟨let ⟨o,e⟩:=hc.get;⟨o,hl.blk e⟩,hc.hd.monoB hl.b,hc.hr.monoB hl.b,hc.ht.monoB hl.b,let ⟨es,o,e,m⟩:=hc.map;⟨es,o,hl.map e,m⟩⟩
theorem V5 (a b c d e:Value):qz true 0 4 [a,b,c,d,e]=some (.agg #[a,b,c,d]):=rfl
abbrev ptr (q:Nat):Value:=.pointer (some ⟨q,0,none⟩)
def wa (nm:List (List UInt8)) (s:List UInt8):Int:=if nm.contains s then 80 else 0
end Go.Eng.Sy
namespace Go.Eng.Sy
open Go Go.Eng Go.Proofs
def vm (p:Prg) (s:List UInt8):Int:=if xi p.devs s < 0 then 84 else 0
def Kk (p:Prg) (s:List UInt8) (hs:List (List UInt8)):Int:=if xi p.ress s < 0 then 84 else if hs.contains s then 0 else 86
def Xk (p:Prg) (s:List UInt8) (hs:List (List UInt8)):Int:=if xi p.ress s < 0 then 84 else if hs.any (fun x=>decide (xi p.ress s≤xi p.ress x)) then 85 else 0
section
variable {h:Heap}{q:Nat}{p:Prg}{nm:List (List UInt8)}{d r t:Value}{mid:Nat}
theorem zj5 (hc:Ck h q p nm d r t mid){s:List UInt8}(hs:s.length≤1000) (Q:Value→Heap→Prop) (hq:Q (.int .i64 (wa nm s)) h):CallW Tryz.prog 117 [ptr q,str s] h Q:=by
 obtain ⟨own,gq⟩:=hc.get
 obtain ⟨es,own2,gm,hm⟩:=hc.map
 obtain ⟨z,hz,hzc,hz0,_⟩:=hm.look hs gm
 unfold wa at hq
 rw [← hzc] at hq
 clear hm
 replace hz0:=Hid.mk hz0;replace hzc:=Hid.mk hzc;replace hc:=Hid.mk hc
 refine zk (k:=2) ok117 rfl rfl rfl fun N=>?_
 rw [show ym c117 [ptr q,str s]=[ptr q,str s,undef] from rfl]
 delta c117 qv4 qv3 qv2 qv1
 replace hq:=Hid.mk hq
 by_cases h0:0 < z
 ·have hq':=hq.h
  rw [decide_eq_true h0,if_pos rfl] at hq'
  replace hq':=Hid.mk hq'
  clear hq
  repeat' (first|simp -implicitDefEqProofs only [ze,aR,aW,zf,zg,Int.reduceBEq,Int.reduceBNe,Nat.reduceBEq,Int.reduceLT,Int.reduceLE, *]|with_reducible (first|apply kcd|apply kgd|apply kci|apply kgi)<;>intro hc)
  exact hq'.h
 ·have hq':=hq.h
  rw [decide_eq_false h0] at hq'
  simp only [Bool.false_eq_true,if_false] at hq'
  replace hq':=Hid.mk hq'
  clear hq
  repeat' (first|simp -implicitDefEqProofs only [ze,aR,aW,zf,zg,Int.reduceBEq,Int.reduceBNe,Nat.reduceBEq,Int.reduceLT,Int.reduceLE, *]|with_reducible (first|apply kcd|apply kgd|apply kci|apply kgi)<;>intro hc)
  exact hq'.h
theorem zg2 (hc:Ck h q p nm d r t mid) (s:List UInt8) (Q:Value→Heap→Prop) (hq:∀ h',h.le h' → Q (.int .i64 (vm p s)) h'):CallW Tryz.prog 118 [ptr q,str s] h Q:=by
 obtain ⟨own,gq⟩:=hc.get
 replace hc:=Hid.mk hc
 refine zk (k:=2) ok118 rfl rfl rfl fun N=>?_
 rw [show ym c118 [ptr q,str s]=[ptr q,str s,undef] from rfl]
 delta c118 qv0 qu9 qu8 qu7
 replace hq:=Hid.mk hq
 repeat' (first|simp -implicitDefEqProofs only [ze,aR,aW,zf,zg,Int.reduceBEq,Int.reduceBNe,Nat.reduceBEq,Int.reduceLT,Int.reduceLE,V5, *]|with_reducible (first|apply kcd|apply kgd|apply kci|apply kgi)<;>intro hc)
 refine device_c (p:=p) hc.h.hd hc.h.hr.one hc.h.ht.one s _ fun h1 l1=>?_
 have g:=hq.h h1 l1
 unfold vm at g
 clear hq
 by_cases h0:xi p.devs s < 0
 ·rw [if_pos h0] at g
  replace g:=Hid.mk g
  repeat' (first|simp -implicitDefEqProofs only [ze,aR,aW,zf,zg,Int.reduceBEq,Int.reduceBNe,Nat.reduceBEq,Int.reduceLT,Int.reduceLE, *]|with_reducible (first|apply kcd|apply kgd|apply kci|apply kgi)<;>intro hc)
  exact g.h
 ·rw [if_neg h0] at g
  replace g:=Hid.mk g
  repeat' (first|simp -implicitDefEqProofs only [ze,aR,aW,zf,zg,Int.reduceBEq,Int.reduceBNe,Nat.reduceBEq,Int.reduceLT,Int.reduceLE, *]|with_reducible (first|apply kcd|apply kgd|apply kci|apply kgi)<;>intro hc)
  exact g.h
theorem held_c (hc:Ck h q p nm d r t mid){s:List UInt8}{vh:Value}{hs:List (List UInt8)}(hv:Strs h vh hs) (hl:hs.length≤1000) (Q:Value→Heap→Prop) (hq:∀ h',h.le h' → Q (.int .i64 (Kk p s hs)) h'):CallW Tryz.prog 120 [ptr q,str s,vh] h Q:=by
 obtain ⟨own,gq⟩:=hc.get
 replace hc:=Hid.mk hc;replace hl:=Hid.mk hl;replace hv:=Hid.mk hv
 refine zk (k:=3) ok120 rfl rfl rfl fun N=>?_
 rw [show ym c120 [ptr q,str s,vh]=[ptr q,str s,vh,undef] from rfl]
 delta c120 qt9 qt8 qt7 qt6 qt5 qt4
 replace hq:=Hid.mk hq
 repeat' (first|simp -implicitDefEqProofs only [ze,aR,aW,zf,zg,Int.reduceBEq,Int.reduceBNe,Nat.reduceBEq,Int.reduceLT,Int.reduceLE,V5, *]|with_reducible (first|apply kcd|apply kgd|apply kci|apply kgi)<;>intro hc)
 refine vz (p:=p) hc.h.hd.one hc.h.hr hc.h.ht.one s _ fun h1 l1=>?_
 by_cases h0:xi p.ress s < 0
 ·have g:=hq.h h1 l1
  unfold Kk at g
  rw [if_pos h0] at g
  clear hq
  replace g:=Hid.mk g
  repeat' (first|simp -implicitDefEqProofs only [ze,aR,aW,zf,zg,Int.reduceBEq,Int.reduceBNe,Nat.reduceBEq,Int.reduceLT,Int.reduceLE, *]|with_reducible (first|apply kcd|apply kgd|apply kci|apply kgi)<;>intro hc)
  exact g.h
 ·replace l1:=Hid.mk l1
  repeat' (first|simp -implicitDefEqProofs only [ze,aR,aW,zf,zg,Int.reduceBEq,Int.reduceBNe,Nat.reduceBEq,Int.reduceLT,Int.reduceLE, *]|with_reducible (first|apply kcd|apply kgd|apply kci|apply kgi)<;>intro hc)
  refine Wg (by have:=hl.h;omega) s (hv.h.mono l1.h) _ fun h2 l2=>?_
  have g:=hq.h h2 (l1.h.trans l2)
  unfold Kk at g
  rw [if_neg h0] at g
  clear hq
  cases hcn:hs.contains s with
  | true =>
   rw [hcn,if_pos rfl] at g
   replace g:=Hid.mk g
   repeat' (first|simp -implicitDefEqProofs only [ze,aR,aW,zf,zg,Int.reduceBEq,Int.reduceBNe,Nat.reduceBEq,Int.reduceLT,Int.reduceLE, *]|with_reducible (first|apply kcd|apply kgd|apply kci|apply kgi)<;>intro hc)
   exact g.h
  | false =>
   rw [hcn] at g
   simp only [Bool.false_eq_true,if_false] at g
   replace g:=Hid.mk g
   repeat' (first|simp -implicitDefEqProofs only [ze,aR,aW,zf,zg,Int.reduceBEq,Int.reduceBNe,Nat.reduceBEq,Int.reduceLT,Int.reduceLE, *]|with_reducible (first|apply kcd|apply kgd|apply kci|apply kgi)<;>intro hc)
   exact g.h
theorem lock1_c (hc:Ck h q p nm d r t mid){x:List UInt8}{a b:Nat}{k:Int}{o1 o2:Bool}(ga:h.get a=some (.blk [ptr q] o1)) (gb:h.get b=some (.blk [.int .i64 k] o2)) (Q:Value→Heap→Prop) (hq:∀ v h',v = .bool (decide (k≤xi p.ress x))→h.le h' → Q v h'):CallW Tryz.prog 148 [str x,ptr a,ptr b] h Q:=by
 obtain ⟨own,gq⟩:=hc.get
 replace hc:=Hid.mk hc
 refine zk (k:=3) ok148 rfl rfl rfl fun N=>?_
 rw [show ym c148 [str x,ptr a,ptr b]=[str x,ptr a,ptr b,undef] from rfl]
 delta c148 qq9 qq8
 replace hq:=Hid.mk hq
 repeat' (first|simp -implicitDefEqProofs only [ze,aR,aW,zf,zg,Int.reduceBEq,Int.reduceBNe,Nat.reduceBEq,Int.reduceLT,Int.reduceLE,V5, *]|with_reducible (first|apply kcd|apply kgd|apply kci|apply kgi)<;>intro hc)
 refine vz (p:=p) hc.h.hd.one hc.h.hr hc.h.ht.one x _ fun h1 l1=>?_
 first | refine zb5 l1.ext ?_ | skip
 have g:=hq.h _ h1 rfl l1
 have gb1:=l1.get gb
 clear hq
 by_cases h0:k≤xi p.ress x
 ·rw [decide_eq_true h0] at g
  replace g:=Hid.mk g
  repeat' (first|simp -implicitDefEqProofs only [ze,aR,aW,zf,zg,Int.reduceBEq,Int.reduceBNe,Nat.reduceBEq,Int.reduceLT,Int.reduceLE, *]|with_reducible (first|apply kcd|apply kgd|apply kci|apply kgi)<;>intro hc)
  exact g.h
 ·rw [decide_eq_false h0] at g
  replace g:=Hid.mk g
  repeat' (first|simp -implicitDefEqProofs only [ze,aR,aW,zf,zg,Int.reduceBEq,Int.reduceBNe,Nat.reduceBEq,Int.reduceLT,Int.reduceLE, *]|with_reducible (first|apply kcd|apply kgd|apply kci|apply kgi)<;>intro hc)
  exact g.h
end
end Go.Eng.Sy
namespace Go.Eng.Sy
open Go Go.Eng Go.Proofs
theorem Xl {v fv:Value}{l:List (List UInt8)}{p:(List UInt8)→Bool}{h0 h:Heap}(hv:Strs h0 v l) (hh:h0.le h) (hl63:(l.length:Int)≤9223372036854775807)
  (hf:∀ e ∈ l,∀ h1 Q,h.le h1→(∀ v h',v = .bool (p e)→h1.le h' → Q v h')→ValW Tryz.prog fv [str e] h1 Q) (Q:Value→Heap→Prop)
  (hq:∀ v h',v = .int .i64 (match l.findIdx? p with | some i=>(i:Int) | none=>-1)→h.le h' → Q v h'):CallW Tryz.prog 175 [v,fv] h Q:=by
 refine zk (k:=2) ok175 rfl rfl rfl fun N=>?_
 rw [show ym c175 [v,fv]=[v,fv,undef,undef,undef,undef,undef] from rfl]
 delta c175 zo0 zn9 zn8 zn7 zn6 zn5 zn4 zn3
 replace hq:=Hid.mk hq
 repeat' (first|simp -implicitDefEqProofs only [ze,aR,aW,zf,zg,Int.reduceBEq,Int.reduceBNe,Nat.reduceBEq,Int.reduceLT,Int.reduceLE,hv.len, *]|with_reducible (first|apply kcd|apply kgd|apply kci|apply kgi)<;>intro hc)
 refine LoopW.upto l.length (fun i e h1=>h.le h1∧(∀ j e,j < i→l[j]? = some e→p e=false) ∧ ∃ x3 x6,e=[v,fv,.int .i64 0,x3,.int .i64 l.length,.int .i64 i,x6]) ?_ (Nat.zero_le _) ⟨Heap.le.refl h,by intro j e hj;omega,_,_,rfl⟩
 rintro i _ h1 R hi ⟨hl1,hp,x3,x6,rfl⟩ hR
 delta qm7 zo0 zn9 zn8 zn7 zn6 zn5 zn4 zn3
 by_cases hlt:i < l.length
 ·have hlt' : (i:Int) < l.length:=by omega
  obtain ⟨e,he⟩:∃ e,l[i]? = some e:=⟨_,List.getElem?_eq_getElem hlt⟩
  obtain ⟨id,off,cells,own,e1,e2,e3,_⟩:=(hv.mono (hh.trans hl1)).elem he
  have hw:IntKind.i64.wrap ((i:Int) + 1)=((i + 1:Nat):Int):=by rw [zt (by omega) (by omega)];rfl
  repeat' (first|simp -implicitDefEqProofs only [ze,aR,aW,zf,zg,Int.reduceBEq,Int.reduceBNe,Nat.reduceBEq,Int.reduceLT,Int.reduceLE, *]|with_reducible (first|apply kcd|apply kgd|apply kci|apply kgi)<;>intro hc)
  refine hf e (List.mem_of_getElem? he) h1 _ hl1 fun v2 h2 hv2 hl2=>?_
  subst hv2
  cases hpe:p e with
  | true =>
   repeat' (first|simp -implicitDefEqProofs only [ze,aR,aW,zf,zg,Int.reduceBEq,Int.reduceBNe,Nat.reduceBEq,Int.reduceLT,Int.reduceLE, *]|with_reducible (first|apply kcd|apply kgd|apply kci|apply kgi)<;>intro hc)
   refine hq.h _ _ ?_ (hl1.trans hl2)
   have:l.findIdx? p=some i:=by
    rw [List.findIdx?_eq_some_iff_getElem]
    refine ⟨hlt,by rw [List.getElem?_eq_getElem hlt] at he;cases he;exact hpe,fun j hj=>?_⟩
    have:=hp j l[j] hj (List.getElem?_eq_getElem _)
    simp [this]
   rw [this]
  | false =>
   repeat' (first|simp -implicitDefEqProofs only [ze,aR,aW,zf,zg,Int.reduceBEq,Int.reduceBNe,Nat.reduceBEq,Int.reduceLT,Int.reduceLE, *]|with_reducible (first|apply kcd|apply kgd|apply kci|apply kgi)<;>intro hc)
   refine hR.h _ _ hlt ⟨hl1.trans hl2,fun j e' hj hje=>?_,_,_,rfl⟩
   by_cases hji:j=i
   ·subst hji;rw [he] at hje;cases hje;exact hpe
   ·exact hp j e' (by omega) hje
 ·have hlt' : ¬ (i:Int) < l.length:=by omega
  have hnone:l.findIdx? p=none:=by
   rw [List.findIdx?_eq_none_iff]
   intro e he
   obtain ⟨j,hj⟩:=List.mem_iff_getElem?.1 he
   exact hp j e (by have:=(List.getElem?_eq_some_iff.1 hj).1;omega) hj
  repeat' (first|simp -implicitDefEqProofs only [ze,aR,aW,zf,zg,Int.reduceBEq,Int.reduceBNe,Nat.reduceBEq,Int.reduceLT,Int.reduceLE, *]|with_reducible (first|apply kcd|apply kgd|apply kci|apply kgi)<;>intro hc)
  exact hq.h _ _ (by rw [hnone]) hl1
theorem Uu {v fv:Value}{l:List (List UInt8)}{p:(List UInt8)→Bool}{h0 h:Heap}(hv:Strs h0 v l) (hh:h0.le h) (hl63:(l.length:Int)≤9223372036854775807)
  (hf:∀ e ∈ l,∀ h1 Q,h.le h1→(∀ v h',v = .bool (p e)→h1.le h' → Q v h')→ValW Tryz.prog fv [str e] h1 Q) (Q:Value→Heap→Prop)
  (hq:∀ v h',v = .bool (l.any p)→h.le h' → Q v h'):CallW Tryz.prog 147 [v,fv] h Q:=by
 refine zk (k:=2) ok147 rfl rfl rfl fun N=>?_
 rw [show ym c147 [v,fv]=[v,fv,undef] from rfl]
 delta c147 qr1 qr0
 replace hq:=Hid.mk hq
 repeat' (first|simp -implicitDefEqProofs only [ze,aR,aW,zf,zg,Int.reduceBEq,Int.reduceBNe,Nat.reduceBEq,Int.reduceLT,Int.reduceLE, *]|with_reducible (first|apply kcd|apply kgd|apply kci|apply kgi)<;>intro hc)
 refine Xl hv hh hl63 hf _ fun v h' hv' hl'=>?_
 subst hv'
 repeat' (first|simp -implicitDefEqProofs only [ze,aR,aW,zf,zg,Int.reduceBEq,Int.reduceBNe,Nat.reduceBEq,Int.reduceLT,Int.reduceLE, *]|with_reducible (first|apply kcd|apply kgd|apply kci|apply kgi)<;>intro hc)
 refine hq.h _ _ ?_ hl'
 cases hx:l.findIdx? p with
 | none =>
  have:=List.findIdx?_eq_none_iff.1 hx
  have hn:l.any p=false:=by simpa [List.any_eq_false] using this
  simp [hn]
 | some i =>
  have:=List.findIdx?_eq_some_iff_getElem.1 hx
  have hn:l.any p=true:=List.any_eq_true.2 ⟨_,List.getElem_mem this.1,this.2.1⟩
  simp [hn]
section
variable {h:Heap}{q:Nat}{p:Prg}{nm:List (List UInt8)}{d r t:Value}{mid:Nat}
theorem lock_c (hc:Ck h q p nm d r t mid){s:List UInt8}{vh:Value}{hs:List (List UInt8)}(hv:Strs h vh hs) (hl:hs.length≤1000) (Q:Value→Heap→Prop) (hq:∀ h',h.le h' → Q (.int .i64 (Xk p s hs)) h'):CallW Tryz.prog 119 [ptr q,str s,vh] h Q:=by
 have b1:Ya [ptr q]=some ([ptr q],fun id=>ptr id):=rfl
 have gp1:=Heap.get_alloc_same h (.blk [ptr q] true)
 have lh1:=(Heap.le.refl h).alloc (.blk [ptr q] true)
 obtain ⟨p1,ep1⟩:∃ x_,h.next=x_:=⟨_,rfl⟩
 obtain ⟨h1,eh1⟩:∃ x_,h.alloc (.blk [ptr q] true)=x_:=⟨_,rfl⟩
 rw [eh1] at gp1 lh1
 rw [ep1] at gp1
 have hc1:=hc.mono lh1.v
 have hv1:=hv.mono lh1
 obtain ⟨own,gq⟩:=hc1.get
 clear hc hv
 replace hc1:=Hid.mk hc1;replace hl:=Hid.mk hl;replace hv1:=Hid.mk hv1;replace lh1:=Hid.mk lh1
 refine zk (k:=4) ok119 rfl rfl rfl fun N=>?_
 rw [show ym c119 [ptr q,str s,vh]=[ptr q,str s,vh,undef,undef,undef] from rfl]
 delta c119 qu6 qu5 qu4 qu3 qu2 qu1 qu0
 replace hq:=Hid.mk hq
 repeat' (first|simp -implicitDefEqProofs only [ze,aR,aW,zf,zg,Int.reduceBEq,Int.reduceBNe,Nat.reduceBEq,Int.reduceLT,Int.reduceLE,V5, *]|with_reducible (first|apply kcd|apply kgd|apply kci|apply kgi)<;>intro hc)
 refine vz (p:=p) hc1.h.hd.one hc1.h.hr hc1.h.ht.one s _ fun h2 l2=>?_
 obtain ⟨k,hk⟩:∃ k,xi p.ress s=k:=⟨_,rfl⟩
 rw [hk]
 have st:zr 1 (h2.alloc (.blk [.int .i64 0] true)) [.pointer (some ⟨h2.next,0,none⟩),.int .i64 k]=some (undef,h2.alloc (.blk [.int .i64 k] true)):=zy rfl rfl rfl rfl
 have gp3:=Heap.get_alloc_same h2 (.blk [.int .i64 k] true)
 have lh3:=(Heap.le.refl h2).alloc (.blk [.int .i64 k] true)
 obtain ⟨p3,ep3⟩:∃ x_,h2.next=x_:=⟨_,rfl⟩
 obtain ⟨h3,eh3⟩:∃ x_,h2.alloc (.blk [.int .i64 k] true)=x_:=⟨_,rfl⟩
 rw [eh3] at gp3 lh3
 rw [ep3] at gp3
 rw [eh3,ep3] at st
 have l3:=l2.trans lh3
 have hc3:=hc1.h.mono l3.v
 have hv3:=hv1.h.mono l3
 have gp13:=l3.get gp1
 have lAll:=lh1.h.trans l3
 clear hc1 hv1 gq gp1 l2 lh3 l3 b1
 replace hc3:=Hid.mk hc3;replace hv3:=Hid.mk hv3;replace hk:=Hid.mk hk;replace lAll:=Hid.mk lAll
 by_cases h0:k < 0
 ·have g:=hq.h h3 lAll.h
  unfold Xk at g
  rw [hk.h,if_pos h0] at g
  clear hq
  replace g:=Hid.mk g
  repeat' (first|simp -implicitDefEqProofs only [ze,aR,aW,zf,zg,Int.reduceBEq,Int.reduceBNe,Nat.reduceBEq,Int.reduceLT,Int.reduceLE, *]|with_reducible (first|apply kcd|apply kgd|apply kci|apply kgi)<;>intro hc)
  exact g.h
 ·repeat' (first|simp -implicitDefEqProofs only [ze,aR,aW,zf,zg,Int.reduceBEq,Int.reduceBNe,Nat.reduceBEq,Int.reduceLT,Int.reduceLE, *]|with_reducible (first|apply kcd|apply kgd|apply kci|apply kgi)<;>intro hc)
  refine Uu (p:=fun x=>decide (k≤xi p.ress x)) hv3.h (Heap.le.refl _) (by have:=hl.h;omega) (fun x _ h4 Q l4 hq=>?_) _ fun v h4 hv4 l4=>?_
  ·refine CallW.val ?_
   exact lock1_c (hc3.h.mono l4.v) (l4.get gp13) (l4.get gp3) Q hq
  ·subst hv4
   have g:=hq.h h4 (lAll.h.trans l4)
   unfold Xk at g
   rw [hk.h,if_neg h0] at g
   clear hq
   cases ha:hs.any (fun x=>decide (k≤xi p.ress x)) with
   | true =>
    rw [ha,if_pos rfl] at g
    replace g:=Hid.mk g
    repeat' (first|simp -implicitDefEqProofs only [ze,aR,aW,zf,zg,Int.reduceBEq,Int.reduceBNe,Nat.reduceBEq,Int.reduceLT,Int.reduceLE, *]|with_reducible (first|apply kcd|apply kgd|apply kci|apply kgi)<;>intro hc)
    exact g.h
   | false =>
    rw [ha] at g
    simp only [Bool.false_eq_true,if_false] at g
    replace g:=Hid.mk g
    repeat' (first|simp -implicitDefEqProofs only [ze,aR,aW,zf,zg,Int.reduceBEq,Int.reduceBNe,Nat.reduceBEq,Int.reduceLT,Int.reduceLE, *]|with_reducible (first|apply kcd|apply kgd|apply kci|apply kgi)<;>intro hc)
    exact g.h
end
def Hold (h:Heap) (v:Value) (l:List (List UInt8)):Prop:=Strs h v l∧(l=[]→v = .slice none 0 0)
theorem Hold.nil (h:Heap):Hold h (.slice none 0 0) []:=⟨.inl ⟨rfl,rfl⟩,fun _=>rfl⟩
theorem Hold.monoB {h h' : Heap}(hl:h.leB h'){v:Value}{l:List (List UInt8)}(hv:Hold h v l):Hold h' v l:=⟨hv.1.monoB hl,hv.2⟩
theorem clip_c {v:Value}{l:List (List UInt8)}{h:Heap}(hv:Hold h v l) (Q:Value→Heap→Prop)
  (hq:∀ u,(l=[]∧u = .slice none 0 0 ∨ ∃ id off,l≠[]∧v = .slice (some ⟨id,off,none⟩) l.length 1∧u = .slice (some ⟨id,off,some 0⟩) l.length 1)→Q u h):CallW Tryz.prog 145 [v] h Q:=by
 obtain ⟨n,u,e1,e2,hq⟩:∃ (n:Nat) (u:Value),y0 [v]=some (.int .i64 n)∧pClip 1 [v,.int .i64 n,.int .i64 n]=some u∧Q u h:=by
  rcases hv.1 with ⟨rfl,hl⟩ | ⟨id,off,rfl,ha⟩
  ·have hl' : l=[]:=by simpa using hl
   exact ⟨0,_,rfl,rfl,hq _ (.inl ⟨hl',rfl⟩)⟩
  ·rw [List.length_map] at hv hq ⊢
   cases l with
   | nil=>have:=hv.2 rfl;cases this
   | cons s r=>exact ⟨_,_,rfl,by simp [pClip],hq _ (.inr ⟨id,off,by simp,rfl,rfl⟩)⟩
 clear hv
 refine zk (k:=1) ok145 rfl rfl rfl fun N=>?_
 rw [show ym c145 [v]=[v,undef] from rfl]
 delta c145 qr5 qr4
 replace hq:=Hid.mk hq
 repeat' (first|simp -implicitDefEqProofs only [ze,aR,aW,zf,zg,Int.reduceBEq,Int.reduceBNe,Nat.reduceBEq,Int.reduceLT,Int.reduceLE,aP, *]|with_reducible (first|apply kcd|apply kgd|apply kci|apply kgi)<;>intro hc)
 exact hq.h
end Go.Eng.Sy
namespace Go.Eng.Sy
open Go Go.Eng Go.Proofs
section
variable (p:Prg) (nm hs:List (List UInt8))
def um (k:Int) (m:List UInt8):Int:=if k=2 then wa nm m else if k=5 then Kk p m hs else 0
mutual
def wi:Ex→Int
 | .mk k o n m args=>if um p nm hs k m=0 then yu args else um p nm hs k m
def yu:List Ex→Int
 | []=>0
 | e::r=>if wi e=0 then yu r else wi e
end
theorem Kr:∀ {l:List Ex}{i:Nat}{e:Ex},yu p nm hs (l.take i)=0→l[i]? = some e→(wi p nm hs e=0→yu p nm hs (l.take (i + 1))=0)∧(wi p nm hs e≠0→yu p nm hs l=wi p nm hs e)
 | [],i,e,_,h=>by simp at h
 | a::l,0,e,_,h=>by
  simp at h;subst h
  constructor
  ·intro h0;simp [yu,h0]
  ·intro h0;simp [yu,h0]
 | a::l,i + 1,e,h0,h=>by
  rw [List.take_succ_cons] at h0
  simp only [yu] at h0
  split at h0
  ·rename_i ha
   obtain ⟨h1,h2⟩:=Kr (l:=l) h0 (by simpa using h)
   constructor
   ·intro hh;rw [List.take_succ_cons];simp only [yu,ha,if_true];exact h1 hh
   ·intro hh;simp only [yu,ha,if_true];exact h2 hh
  ·rename_i ha;exact absurd h0 ha
end
theorem cutZ {P:Int→Heap→Prop}{G:Int→Heap→Prop}{T:Prop}(h:(∀ z x,P z x→G z x)→T) (g:∀ z x,P z x→G z x):T:=h g
theorem je {m:List UInt8}(h:zo m=true):m.length≤1000:=by have:=Ke h;omega
section
variable {q:Nat}{p:Prg}{nm:List (List UInt8)}{d r t:Value}{mid:Nat}
def qz3 (q:Nat) (p:Prg) (nm:List (List UInt8)) (d r t:Value) (mid:Nat) (n:Nat):Prop:=∀ (l:List Ex),(∀ e ∈ l,ExI e n) → ∀ (v:Value) (hs:List (List UInt8)) (vh:Value) (h:Heap) (Q:Value→Heap→Prop),Ck h q p nm d r t mid→ExsV h v l→Strs h vh hs→hs.length≤1000 →
 (∀ h',h.le h' → Q (.int .i64 (yu p nm hs l)) h')→CallW Tryz.prog 121 [ptr q,v,vh] h Q
theorem zw8 {n:Nat}(ih:∀ n',n=n' + 1→qz3 q p nm d r t mid n'):qz3 q p nm d r t mid n:=by
 intro l hl v hs vh h Q hc hv hh hhl hq
 have hln:=hv.len
 have hle:=hv.le
 replace hc:=Hid.mk hc;replace hv:=Hid.mk hv;replace hh:=Hid.mk hh;replace hhl:=Hid.mk hhl;replace ih:=Hid.mk ih;replace hl:=Hid.mk hl
 refine zk (k:=3) ok121 rfl rfl rfl fun N=>?_
 rw [show ym c121 [ptr q,v,vh]=[ptr q,v,vh,undef,undef,undef,undef,undef,undef,undef,undef] from rfl]
 delta c121 zq7 zq6 zq5 zq4 zq3 zq2 zq1 zq0 zp9 zp8 zb0 za9 za8 za7 za6 za5
 replace hq:=Hid.mk hq
 repeat' (first|simp -implicitDefEqProofs only [ze,aR,aW,zf,zg,Int.reduceBEq,Int.reduceBNe,Nat.reduceBEq,Int.reduceLT,Int.reduceLE, *]|with_reducible (first|apply kcd|apply kgd|apply kci|apply kgi)<;>intro hc)
 refine LoopW.upto l.length (fun i e h1=>h.le h1∧yu p nm hs (l.take i)=0 ∧ ∃ x4 x5 x9 x10,e=[ptr q,v,vh,.int .i64 0,x4,x5,v,.int .i64 l.length,.int .i64 i,x9,x10]) ?_ (Nat.zero_le _) ⟨Heap.le.refl _,rfl,_,_,_,_,rfl⟩
 rintro i _ h1 R hi ⟨hl1,hpre,x4,x5,x9,x10,rfl⟩ hR
 delta yh9 zq7 zq6 zq5 zq4 zq3 zq2 zq1 zq0 zp9 zp8 zb0 za9 za8 za7 za6 za5
 by_cases hlt:i < l.length
 case neg =>
  have hlt' : ¬ (i:Int) < l.length:=by omega
  have g:=hq.h h1 hl1
  rw [List.take_of_length_le (by omega)] at hpre
  rw [hpre] at g
  clear hq hpre
  replace g:=Hid.mk g
  repeat' (first|simp -implicitDefEqProofs only [ze,aR,aW,zf,zg,Int.reduceBEq,Int.reduceBNe,Nat.reduceBEq,Int.reduceLT,Int.reduceLE, *]|with_reducible (first|apply kcd|apply kgd|apply kci|apply kgi)<;>intro hc)
  exact g.h
 case pos =>
  have hlt' : (i:Int) < l.length:=by omega
  have hw:IntKind.i64.wrap ((i:Int) + 1)=((i + 1:Nat):Int):=by rw [zt (by omega) (by omega)];rfl
  obtain ⟨e,he⟩:∃ e,l[i]? = some e:=⟨_,List.getElem?_eq_getElem hlt⟩
  have heI:=hl.h e (List.mem_of_getElem? he)
  obtain ⟨s1,s2⟩:=Kr p nm hs hpre he
  obtain ⟨id,off,cells,own,x,e1,e2,e3,hx,_⟩:=(hv.h.mono hl1).elem he
  obtain ⟨u,hxe,hargs⟩:=hx.cells
  rw [hxe] at e3
  have o1:=hargs.one
  have hka:∀ n',n=n' + 1 → ∀ a ∈ e.args,ExI a n':=by
   intro n' hn a ha
   subst hn
   cases heI with
   | num=>cases ha
   | var=>cases ha
   | one o a' d h hA=>simp [Ex.args] at ha;subst ha;exact hA
   | two o a' b' d h hA hB=>simp [Ex.args] at ha;rcases ha with rfl | rfl;exact hA;exact hB
   | idx m a' d h hA=>simp [Ex.args] at ha;subst ha;exact hA
  have hpos:∃ n',n=n' + 1:=by cases heI<;>exact ⟨_,rfl⟩
  have hnm:e.kind=2→e.name.length≤1000:=by
   intro hk
   cases heI<;>simp [Ex.kind] at hk
   rename_i h
   exact je h
  have st:zr 5 (h1.alloc (.blk [.int .i64 0,.int .i64 0,.int .i64 0,.string ⟨#[]⟩,.slice none 0 0] true)) [.pointer (some ⟨h1.next,0,none⟩),exV e.kind e.op e.n e.name u]=some (undef,h1.alloc (.blk [.int .i64 e.kind,.int .i64 e.op,.int .i64 e.n,str e.name,u] true)):=by
   obtain ⟨_,hargs1,_⟩:=hargs
   obtain ⟨_,_,_,rfl⟩:=SlV.isS hargs1
   exact zy rfl rfl rfl rfl
  have gpx:=Heap.get_alloc_same h1 (.blk [.int .i64 e.kind,.int .i64 e.op,.int .i64 e.n,str e.name,u] true)
  have lh2:=(Heap.le.refl h1).alloc (.blk [.int .i64 e.kind,.int .i64 e.op,.int .i64 e.n,str e.name,u] true)
  obtain ⟨px,epx⟩:∃ x_,h1.next=x_:=⟨_,rfl⟩
  obtain ⟨h2,eh2⟩:∃ x_,h1.alloc (.blk [.int .i64 e.kind,.int .i64 e.op,.int .i64 e.n,str e.name,u] true)=x_:=⟨_,rfl⟩
  rw [eh2] at gpx lh2
  rw [epx] at gpx
  rw [eh2,epx] at st
  have hl2:=hl1.trans lh2
  have ha2:=hargs.mono lh2
  have er:wi p nm hs e=if um p nm hs e.kind e.name=0 then yu p nm hs e.args else um p nm hs e.kind e.name:=by cases e;rfl
  clear hx hargs hxe hpre
  obtain ⟨n',rfl⟩:=hpos
  have ih':=ih.h n' rfl
  have hka':=hka n' rfl
  clear hka ih
  replace s1:=Hid.mk s1;replace s2:=Hid.mk s2;replace hl2:=Hid.mk hl2;replace ha2:=Hid.mk ha2;replace er:=Hid.mk er;replace hl1:=Hid.mk hl1;replace lh2:=Hid.mk lh2;replace hnm:=Hid.mk hnm;replace he:=Hid.mk he;replace heI:=Hid.mk heI;replace ih':=Hid.mk ih';replace hka':=Hid.mk hka'
  refine cutZ (P:=fun z hX=>h2.le hX∧z=um p nm hs e.kind e.name) (G:=?G) ?b ?main
  case b =>
   intro main
   replace main:=Hid.mk main
   cases k2:(e.kind == 2) with
   | true =>
    have k2' : e.kind=2:=by simpa using k2
    obtain ⟨z,hz⟩:∃ z,wa nm e.name=z:=⟨_,rfl⟩
    have hz2:z=um p nm hs e.kind e.name:=by simp [um,k2',hz]
    replace hz:=Hid.mk hz;replace hz2:=Hid.mk hz2;replace k2':=Hid.mk k2'
    repeat' (first|simp -implicitDefEqProofs only [ze,aR,aW,zf,zg,Int.reduceBEq,Int.reduceBNe,Nat.reduceBEq,Int.reduceLT,Int.reduceLE,zm, *]|with_reducible (first|apply kcd|apply kgd|apply kci|apply kgi)<;>intro hc)
    refine zj5 (hc.h.mono hl2.h.v) (hnm.h k2'.h) _ ?_
    rw [hz.h]
    simp -implicitDefEqProofs only [ze,aR,aW,zf,zg,Int.reduceBEq,Int.reduceBNe,Nat.reduceBEq,Int.reduceLT,Int.reduceLE]
    obtain ⟨hX,hXe⟩:∃ x,x=h2:=⟨_,rfl⟩
    rw [← hXe]
    exact main.h z hX ⟨by rw [hXe];exact Heap.le.refl _,hz2.h⟩
   | false =>
    cases k5:(e.kind == 5) with
    | true =>
     have k5' : e.kind=5:=by simpa using k5
     have k2' : ¬ e.kind=2:=by simpa using k2
     replace k5':=Hid.mk k5';replace k2':=Hid.mk k2'
     repeat' (first|simp -implicitDefEqProofs only [ze,aR,aW,zf,zg,Int.reduceBEq,Int.reduceBNe,Nat.reduceBEq,Int.reduceLT,Int.reduceLE,zm, *]|with_reducible (first|apply kcd|apply kgd|apply kci|apply kgi)<;>intro hc)
     refine held_c (hc.h.mono hl2.h.v) (hh.h.mono hl2.h) hhl.h _ fun h3 l3=>?_
     obtain ⟨z,hz⟩:∃ z,Kk p e.name hs=z:=⟨_,rfl⟩
     have hz2:z=um p nm hs e.kind e.name:=by simp [um,k5'.h,hz]
     rw [hz]
     replace hz:=Hid.mk hz;replace hz2:=Hid.mk hz2;replace l3:=Hid.mk l3
     simp -implicitDefEqProofs only [ze,aR,aW,zf,zg,Int.reduceBEq,Int.reduceBNe,Nat.reduceBEq,Int.reduceLT,Int.reduceLE]
     exact main.h z h3 ⟨l3.h,hz2.h⟩
    | false =>
     have k5' : ¬ e.kind=5:=by simpa using k5
     have k2' : ¬ e.kind=2:=by simpa using k2
     have hz2:(0:Int)=um p nm hs e.kind e.name:=by simp [um,k5',k2']
     replace k5':=Hid.mk k5';replace k2':=Hid.mk k2';replace hz2:=Hid.mk hz2
     have m:=main.h 0 h2 ⟨Heap.le.refl _,hz2.h⟩
     simp -implicitDefEqProofs only [ze,aR,aW,zf,zg,Int.reduceBEq,Int.reduceBNe,Nat.reduceBEq,Int.reduceLT,Int.reduceLE,gpx] at m
     repeat' (first|simp -implicitDefEqProofs only [ze,aR,aW,zf,zg,Int.reduceBEq,Int.reduceBNe,Nat.reduceBEq,Int.reduceLT,Int.reduceLE,zm, *]|with_reducible (first|apply kcd|apply kgd|apply kci|apply kgi)<;>intro hc)
     try exact m
  case main =>
   rintro z h3 ⟨l3,hz⟩
   have gp3:=l3.get gpx
   have hl3:=hl2.h.trans l3
   have ha3:=ha2.h.mono l3
   replace l3:=Hid.mk l3;replace hz:=Hid.mk hz;replace hl3:=Hid.mk hl3;replace ha3:=Hid.mk ha3
   cases z0:(z == 0) with
   | true =>
    have z0' : z=0:=by simpa using z0
    have er' : wi p nm hs e=yu p nm hs e.args:=by rw [er.h,← hz.h,if_pos z0']
    replace z0':=Hid.mk z0';replace er':=Hid.mk er'
    repeat' (first|simp -implicitDefEqProofs only [ze,aR,aW,zf,zg,Int.reduceBEq,Int.reduceBNe,Nat.reduceBEq,Int.reduceLT,Int.reduceLE,zm, *]|with_reducible (first|apply kcd|apply kgd|apply kci|apply kgi)<;>intro hc)
    refine ih'.h e.args hka'.h u hs vh h3 _ (hc.h.mono hl3.h.v) ha3.h (hh.h.mono hl3.h) hhl.h fun h4 l4=>?_
    rw [← er'.h]
    have hl4:=hl3.h.trans l4
    cases w0:(wi p nm hs e == 0) with
    | true =>
     have w0' : wi p nm hs e=0:=by simpa using w0
     have w1:=s1.h w0'
     have w2:(wi p nm hs e != 0)=false:=by simp [w0']
     replace w0':=Hid.mk w0';replace w1:=Hid.mk w1;replace hl4:=Hid.mk hl4
     repeat' (first|simp -implicitDefEqProofs only [ze,aR,aW,zf,zg,Int.reduceBEq,Int.reduceBNe,Nat.reduceBEq,Int.reduceLT,Int.reduceLE, *]|with_reducible (first|apply kcd|apply kgd|apply kci|apply kgi)<;>intro hc)
     exact hR.h _ _ hlt ⟨hl4.h,w1.h,_,_,_,_,rfl⟩
    | false =>
     have w0' : wi p nm hs e≠0:=by simpa using w0
     have w2:(wi p nm hs e != 0)=true:=by simp [w0']
     have g:=hq.h h4 hl4
     rw [s2.h w0'] at g
     replace w0':=Hid.mk w0';replace hl4:=Hid.mk hl4;replace g:=Hid.mk g
     repeat' (first|simp -implicitDefEqProofs only [ze,aR,aW,zf,zg,Int.reduceBEq,Int.reduceBNe,Nat.reduceBEq,Int.reduceLT,Int.reduceLE, *]|with_reducible (first|apply kcd|apply kgd|apply kci|apply kgi)<;>intro hc)
     exact g.h
   | false =>
    have z0' : z≠0:=by simpa using z0
    have z2:(z != 0)=true:=by simp [z0']
    have er' : wi p nm hs e=z:=by rw [er.h,← hz.h,if_neg z0']
    have g:=hq.h h3 hl3.h
    rw [s2.h (by rw [er'];exact z0'),er'] at g
    replace z0':=Hid.mk z0';replace er':=Hid.mk er';replace g:=Hid.mk g
    repeat' (first|simp -implicitDefEqProofs only [ze,aR,aW,zf,zg,Int.reduceBEq,Int.reduceBNe,Nat.reduceBEq,Int.reduceLT,Int.reduceLE, *]|with_reducible (first|apply kcd|apply kgd|apply kci|apply kgi)<;>intro hc)
    exact g.h
theorem yx7:∀ (n:Nat),qz3 q p nm d r t mid n
 | 0=>zw8 fun n' h=>by omega
 | n + 1=>zw8 fun n' h=>by
  have:n' = n:=by omega
  subst this;exact yx7 n'
end
end Go.Eng.Sy
namespace Go.Eng.Sy
open Go Go.Eng Go.Proofs
def jh (p:Prg) (nm hs:List (List UInt8)) (s:St):Int :=
 if s.kind=1 then wa nm s.name else if s.kind=2 then (if wa nm s.name=0 then vm p s.src else wa nm s.name) else
 if s.kind=3 then vm p s.name else if s.kind=5 then Xk p s.name hs else if s.kind=4 then Kk p s.name hs else 0
def wt (p:Prg) (nm hs:List (List UInt8)) (s:St):Int:=if jh p nm hs s=0 then yu p nm hs s.args else jh p nm hs s
theorem StI.args {s:St}{n:Nat}(h:StI s n):∀ a ∈ s.args,ExI a 30:=by
 intro a ha
 cases h with
 | set m b d h hb=>simp [St.args] at ha;subst ha;exact hb
 | get=>simp [St.args] at ha
 | put m n b d h hn hb=>simp [St.args] at ha;subst ha;exact hb
 | store m b c d h hb hc=>simp [St.args] at ha;rcases ha with rfl | rfl;exact hb;exact hc
 | lock=>simp [St.args] at ha
 | cond b t e d hb=>simp [St.args] at ha;subst ha;exact hb
 | rep=>simp [St.args] at ha
 | halt=>simp [St.args] at ha
theorem StI.short {s:St}{n:Nat}(h:StI s n) (hk:s.kind=1∨s.kind=2):s.name.length≤1000:=by
 cases h<;>simp [St.kind] at hk<;>(rename_i h;first | exact je h | skip)
 all_goals (first | (exact je (by assumption)) | skip)
theorem cell7 {k n:Int}{a b:List UInt8}{v u w:Value}(hv:v.oneCell' = true) (hu:u.oneCell' = true) (hw:w.oneCell' = true):Ya [stV k a b n v u w]=some ([.int .i64 k,str a,str b,.int .i64 n,v,u,w],fun id=>.pointer (some ⟨id,0,none⟩)):=by
 simpa [Ya,Value.cells,Value.oneCell'] using ⟨hv,hu,hw⟩
section
variable {h:Heap}{q:Nat}{p:Prg}{nm:List (List UInt8)}{d r t:Value}{mid:Nat}
theorem stmt_c (hc:Ck h q p nm d r t mid){s:St}{n:Nat}(hI:StI s n){x:List Value}(hx:StC h s x){hs:List (List UInt8)}{vh:Value}(hh:Strs h vh hs) (hhl:hs.length≤1000) (Q:Value→Heap→Prop)
  (hq:∀ h',h.le h' → Q (.int .i64 (wt p nm hs s)) h'):CallW Tryz.prog 78 [ptr q,.agg x.toArray,vh] h Q:=by
 obtain ⟨v,u,w,rfl,hargs,hthn,hels⟩:=hx.cells
 have b1:=cell7 (k:=s.kind) (n:=s.n) (a:=s.name) (b:=s.src) hargs.one hthn.one hels.one
 have gpx:=Heap.get_alloc_same h (.blk [.int .i64 s.kind,str s.name,str s.src,.int .i64 s.n,v,u,w] true)
 have lh2:=(Heap.le.refl h).alloc (.blk [.int .i64 s.kind,str s.name,str s.src,.int .i64 s.n,v,u,w] true)
 obtain ⟨px,epx⟩:∃ x_,h.next=x_:=⟨_,rfl⟩
 obtain ⟨h2,eh2⟩:∃ x_,h.alloc (.blk [.int .i64 s.kind,str s.name,str s.src,.int .i64 s.n,v,u,w] true)=x_:=⟨_,rfl⟩
 rw [eh2] at gpx lh2
 rw [epx] at gpx
 have ha2:=hargs.mono lh2
 have hc2:=hc.mono lh2.v
 have hh2:=hh.mono lh2
 have hsh:=hI.short
 have haI:=hI.args
 clear hargs hthn hels hx hc hh
 replace ha2:=Hid.mk ha2;replace hc2:=Hid.mk hc2;replace hh2:=Hid.mk hh2;replace hsh:=Hid.mk hsh;replace haI:=Hid.mk haI;replace lh2:=Hid.mk lh2;replace hhl:=Hid.mk hhl;replace hI:=Hid.mk hI
 refine zk (k:=4) ok78 rfl rfl rfl fun N=>?_
 rw [show ym c78 [ptr q,stV s.kind s.name s.src s.n v u w,vh]=[ptr q,stV s.kind s.name s.src s.n v u w,vh,undef,undef,undef] from rfl]
 delta c78 c78_r0 c78_r1 c78_r2 c78_r3 c78_r4 c78_r5 c78_r6 c78_r7 c78_r8 c78_r9 qc3 qc2 qc1 qc0 qb9 qb8
 replace hq:=Hid.mk hq
 refine cutZ (P:=fun z hX=>h2.le hX∧z=jh p nm hs s) (G:=?G) ?b ?main
 case b =>
  intro main
  replace main:=Hid.mk main
  cases k1:(s.kind == 1) with
  | true =>
   have k1' : s.kind=1:=by simpa using k1
   obtain ⟨z,hz⟩:∃ z,wa nm s.name=z:=⟨_,rfl⟩
   have hz2:z=jh p nm hs s:=by simp [jh,k1',hz]
   replace hz:=Hid.mk hz;replace hz2:=Hid.mk hz2;replace k1':=Hid.mk k1'
   repeat' (first|simp -implicitDefEqProofs only [ze,aR,aW,zf,zg,Int.reduceBEq,Int.reduceBNe,Nat.reduceBEq,Int.reduceLT,Int.reduceLE,ya, *]|with_reducible (first|apply kcd|apply kgd|apply kci|apply kgi)<;>intro hc)
   refine zj5 hc2.h (hsh.h (.inl k1'.h)) _ ?_
   rw [hz.h]
   simp -implicitDefEqProofs only [ze,aR,aW,zf,zg,Int.reduceBEq,Int.reduceBNe,Nat.reduceBEq,Int.reduceLT,Int.reduceLE]
   obtain ⟨hX,hXe⟩:∃ x,x=h2:=⟨_,rfl⟩
   rw [← hXe]
   exact main.h z hX ⟨by rw [hXe];exact Heap.le.refl _,hz2.h⟩
  | false =>
  have n1:¬ s.kind=1:=by simpa using k1
  cases k2:(s.kind == 2) with
  | true =>
   have k2' : s.kind=2:=by simpa using k2
   obtain ⟨z1,hz1⟩:∃ z,wa nm s.name=z:=⟨_,rfl⟩
   replace n1:=Hid.mk n1;replace hz1:=Hid.mk hz1;replace k2':=Hid.mk k2'
   repeat' (first|simp -implicitDefEqProofs only [ze,aR,aW,zf,zg,Int.reduceBEq,Int.reduceBNe,Nat.reduceBEq,Int.reduceLT,Int.reduceLE,ya, *]|with_reducible (first|apply kcd|apply kgd|apply kci|apply kgi)<;>intro hc)
   refine zj5 hc2.h (hsh.h (.inr k2'.h)) _ ?_
   rw [hz1.h]
   cases z0:(z1 == 0) with
   | true =>
    have z0' : z1=0:=by simpa using z0
    replace z0':=Hid.mk z0'
    repeat' (first|simp -implicitDefEqProofs only [ze,aR,aW,zf,zg,Int.reduceBEq,Int.reduceBNe,Nat.reduceBEq,Int.reduceLT,Int.reduceLE,ya, *]|with_reducible (first|apply kcd|apply kgd|apply kci|apply kgi)<;>intro hc)
    refine zg2 hc2.h s.src _ fun h3 l3=>?_
    obtain ⟨z,hz⟩:∃ z,vm p s.src=z:=⟨_,rfl⟩
    have hz2:z=jh p nm hs s:=by simp [jh,k2'.h,hz1.h,z0'.h,hz]
    rw [hz]
    replace hz:=Hid.mk hz;replace hz2:=Hid.mk hz2;replace l3:=Hid.mk l3
    simp -implicitDefEqProofs only [ze,aR,aW,zf,zg,Int.reduceBEq,Int.reduceBNe,Nat.reduceBEq,Int.reduceLT,Int.reduceLE]
    exact main.h z h3 ⟨l3.h,hz2.h⟩
   | false =>
    have z0' : ¬ z1=0:=by simpa using z0
    have hz2:z1=jh p nm hs s:=by simp [jh,k2'.h,hz1.h,z0']
    have z2:(z1 != 0)=true:=by simp [z0']
    have m:=main.h z1 h2 ⟨Heap.le.refl _,hz2⟩
    simp -implicitDefEqProofs only [ze,aR,aW,zf,zg,Int.reduceBEq,Int.reduceBNe,Nat.reduceBEq,Int.reduceLT,Int.reduceLE,z2] at m
    replace z0':=Hid.mk z0';replace hz2:=Hid.mk hz2
    repeat' (first|simp -implicitDefEqProofs only [ze,aR,aW,zf,zg,Int.reduceBEq,Int.reduceBNe,Nat.reduceBEq,Int.reduceLT,Int.reduceLE,ya, *]|with_reducible (first|apply kcd|apply kgd|apply kci|apply kgi)<;>intro hc)
    try exact m
  | false =>
  have n2:¬ s.kind=2:=by simpa using k2
  cases k3:(s.kind == 3) with
  | true =>
   have k3' : s.kind=3:=by simpa using k3
   replace n1:=Hid.mk n1;replace n2:=Hid.mk n2;replace k3':=Hid.mk k3'
   repeat' (first|simp -implicitDefEqProofs only [ze,aR,aW,zf,zg,Int.reduceBEq,Int.reduceBNe,Nat.reduceBEq,Int.reduceLT,Int.reduceLE,ya, *]|with_reducible (first|apply kcd|apply kgd|apply kci|apply kgi)<;>intro hc)
   refine zg2 hc2.h s.name _ fun h3 l3=>?_
   obtain ⟨z,hz⟩:∃ z,vm p s.name=z:=⟨_,rfl⟩
   have hz2:z=jh p nm hs s:=by simp [jh,k3'.h,hz]
   rw [hz]
   replace hz:=Hid.mk hz;replace hz2:=Hid.mk hz2;replace l3:=Hid.mk l3
   simp -implicitDefEqProofs only [ze,aR,aW,zf,zg,Int.reduceBEq,Int.reduceBNe,Nat.reduceBEq,Int.reduceLT,Int.reduceLE]
   exact main.h z h3 ⟨l3.h,hz2.h⟩
  | false =>
  have n3:¬ s.kind=3:=by simpa using k3
  cases k5:(s.kind == 5) with
  | true =>
   have k5' : s.kind=5:=by simpa using k5
   replace n1:=Hid.mk n1;replace n2:=Hid.mk n2;replace n3:=Hid.mk n3;replace k5':=Hid.mk k5'
   repeat' (first|simp -implicitDefEqProofs only [ze,aR,aW,zf,zg,Int.reduceBEq,Int.reduceBNe,Nat.reduceBEq,Int.reduceLT,Int.reduceLE,ya, *]|with_reducible (first|apply kcd|apply kgd|apply kci|apply kgi)<;>intro hc)
   refine lock_c hc2.h hh2.h hhl.h _ fun h3 l3=>?_
   obtain ⟨z,hz⟩:∃ z,Xk p s.name hs=z:=⟨_,rfl⟩
   have hz2:z=jh p nm hs s:=by simp [jh,k5'.h,hz]
   rw [hz]
   replace hz:=Hid.mk hz;replace hz2:=Hid.mk hz2;replace l3:=Hid.mk l3
   simp -implicitDefEqProofs only [ze,aR,aW,zf,zg,Int.reduceBEq,Int.reduceBNe,Nat.reduceBEq,Int.reduceLT,Int.reduceLE]
   exact main.h z h3 ⟨l3.h,hz2.h⟩
  | false =>
  have n5:¬ s.kind=5:=by simpa using k5
  cases k4:(s.kind == 4) with
  | true =>
   have k4' : s.kind=4:=by simpa using k4
   replace n1:=Hid.mk n1;replace n2:=Hid.mk n2;replace n3:=Hid.mk n3;replace n5:=Hid.mk n5;replace k4':=Hid.mk k4'
   repeat' (first|simp -implicitDefEqProofs only [ze,aR,aW,zf,zg,Int.reduceBEq,Int.reduceBNe,Nat.reduceBEq,Int.reduceLT,Int.reduceLE,ya, *]|with_reducible (first|apply kcd|apply kgd|apply kci|apply kgi)<;>intro hc)
   refine held_c hc2.h hh2.h hhl.h _ fun h3 l3=>?_
   obtain ⟨z,hz⟩:∃ z,Kk p s.name hs=z:=⟨_,rfl⟩
   have hz2:z=jh p nm hs s:=by simp [jh,k4'.h,hz]
   rw [hz]
   replace hz:=Hid.mk hz;replace hz2:=Hid.mk hz2;replace l3:=Hid.mk l3
   simp -implicitDefEqProofs only [ze,aR,aW,zf,zg,Int.reduceBEq,Int.reduceBNe,Nat.reduceBEq,Int.reduceLT,Int.reduceLE]
   exact main.h z h3 ⟨l3.h,hz2.h⟩
  | false =>
   have n4:¬ s.kind=4:=by simpa using k4
   have hz2:(0:Int)=jh p nm hs s:=by simp [jh,n1,n2,n3,n4,n5]
   have m:=main.h 0 h2 ⟨Heap.le.refl _,hz2⟩
   simp -implicitDefEqProofs only [ze,aR,aW,zf,zg,Int.reduceBEq,Int.reduceBNe,Nat.reduceBEq,Int.reduceLT,Int.reduceLE,gpx] at m
   replace n1:=Hid.mk n1;replace n2:=Hid.mk n2;replace n3:=Hid.mk n3;replace n4:=Hid.mk n4;replace n5:=Hid.mk n5;replace hz2:=Hid.mk hz2
   repeat' (first|simp -implicitDefEqProofs only [ze,aR,aW,zf,zg,Int.reduceBEq,Int.reduceBNe,Nat.reduceBEq,Int.reduceLT,Int.reduceLE,ya, *]|with_reducible (first|apply kcd|apply kgd|apply kci|apply kgi)<;>intro hc)
   try exact m
 case main =>
  rintro z h3 ⟨l3,hz⟩
  have gp3:=l3.get gpx
  have hl3:=lh2.h.trans l3
  have ha3:=ha2.h.mono l3
  have hc3:=hc2.h.mono l3.v
  have hh3:=hh2.h.mono l3
  have es:wt p nm hs s=if jh p nm hs s=0 then yu p nm hs s.args else jh p nm hs s:=rfl
  rw [← hz] at es
  replace l3:=Hid.mk l3;replace hz:=Hid.mk hz;replace hl3:=Hid.mk hl3;replace ha3:=Hid.mk ha3;replace hc3:=Hid.mk hc3;replace hh3:=Hid.mk hh3
  cases z0:(z == 0) with
  | true =>
   have z0' : z=0:=by simpa using z0
   rw [if_pos z0'] at es
   have z2:(z != 0)=false:=by simp [z0']
   replace z0':=Hid.mk z0';replace es:=Hid.mk es
   repeat' (first|simp -implicitDefEqProofs only [ze,aR,aW,zf,zg,Int.reduceBEq,Int.reduceBNe,Nat.reduceBEq,Int.reduceLT,Int.reduceLE,ya, *]|with_reducible (first|apply kcd|apply kgd|apply kci|apply kgi)<;>intro hc)
   refine yx7 30 s.args haI.h v hs vh h3 _ hc3.h ha3.h hh3.h hhl.h fun h4 l4=>?_
   have g:=hq.h h4 (hl3.h.trans l4)
   rw [es.h] at g
   replace g:=Hid.mk g
   repeat' (first|simp -implicitDefEqProofs only [ze,aR,aW,zf,zg,Int.reduceBEq,Int.reduceBNe,Nat.reduceBEq,Int.reduceLT,Int.reduceLE, *]|with_reducible (first|apply kcd|apply kgd|apply kci|apply kgi)<;>intro hc)
   exact g.h
  | false =>
   have z0' : ¬ z=0:=by simpa using z0
   rw [if_neg z0'] at es
   have z2:(z != 0)=true:=by simp [z0']
   have g:=hq.h h3 hl3.h
   rw [es] at g
   replace z0':=Hid.mk z0';replace es:=Hid.mk es;replace g:=Hid.mk g
   repeat' (first|simp -implicitDefEqProofs only [ze,aR,aW,zf,zg,Int.reduceBEq,Int.reduceBNe,Nat.reduceBEq,Int.reduceLT,Int.reduceLE,ya, *]|with_reducible (first|apply kcd|apply kgd|apply kci|apply kgi)<;>intro hc)
   exact g.h
end
end Go.Eng.Sy
namespace Go.Eng
open Go
structure Heap.leZ (z L:Nat) (h h' : Heap):Prop where
 get:∀ i o,i≠z→i≠L→h.get i=some o→h'.get i=some o
 next:h.next≤h'.next
def Heap.off (z L:Nat) (h:Heap):Heap:=(h.set z .dead).set L .dead
section
variable {z L:Nat}{h h' ha hb hc:Heap}
theorem Heap.leZ.refl (h:Heap):h.leZ z L h:=⟨fun _ _ _ _ h=>h,Nat.le_refl _⟩
theorem Heap.leZ.trans (h:ha.leZ z L hb) (h' : hb.leZ z L hc):ha.leZ z L hc:=⟨fun i o h1 h2 hi=>h'.get i o h1 h2 (h.get i o h1 h2 hi),Nat.le_trans h.next h'.next⟩
theorem Heap.le.toZ (hl:h.le h'):h.leZ z L h':=⟨fun i o _ _ hi=>hl.get hi,hl.next⟩
theorem Heap.off_blk {i:Nat}{c:List Value}{o:Bool}(hg:(h.off z L).get i=some (.blk c o)):i≠z∧i≠L∧h.get i=some (.blk c o):=by
 unfold Heap.off at hg
 rw [Heap.get_set] at hg
 split at hg
 ·cases hg
 rename_i n1
 rw [Heap.get_set] at hg
 split at hg
 ·cases hg
 rename_i n2
 have hlt:=Heap.lt_of_get hg
 refine ⟨?_,?_,hg⟩
 ·rintro rfl;exact n2 ⟨rfl,by first | exact hlt | (rw [hg];rfl)⟩
 ·rintro rfl;exact n1 ⟨rfl,by first | exact hlt | (rw [Heap.get_set,if_neg n2,hg];rfl)⟩
theorem Heap.off_of {i:Nat}{o:AObj}(h1:i≠z) (h2:i≠L) (hg:h.get i=some o):(h.off z L).get i=some o:=by
 unfold Heap.off
 rw [Heap.get_set,if_neg (fun e=>h2 e.1),Heap.get_set,if_neg (fun e=>h1 e.1)];exact hg
theorem Heap.off_b:(h.off z L).leB h:=fun _ _ _ hg=>(Heap.off_blk hg).2.2
theorem Heap.leZ.b (hl:h.leZ z L h'):(h.off z L).leB h':=fun _ _ _ hg=>let ⟨a,b,c⟩:=Heap.off_blk hg;hl.get _ _ a b c
theorem Heap.leZ.bo (hl:h.leZ z L h'):(h.off z L).leB (h'.off z L):=fun _ _ _ hg=>let ⟨a,b,c⟩:=Heap.off_blk hg;Heap.off_of a b (hl.get _ _ a b c)
theorem Heap.leB.off (hl:h.leB h') (hz:h.next≤z) (hL:h.next≤L):h.leB (h'.off z L):=fun i _ _ hg=>Heap.off_of (by have:=Heap.lt_of_get hg;omega) (by have:=Heap.lt_of_get hg;omega) (hl _ _ _ hg)
end
end Go.Eng
namespace Go.Eng.Sy
open Go Go.Eng Go.Proofs
theorem zf3 (l:List (List UInt8)):(l.map fun s=>[str s]).flatten=l.map fun s=>str s:=by
 induction l with
 | nil=>rfl
 | cons a l ih=>simp [ih]
theorem yw4 {h:Heap}{vh u:Value}{hs:List (List UInt8)}(hh:Hold h vh hs) (hl:hs.length≤1000) (hu:hs=[]∧u = .slice none 0 0 ∨ ∃ id off,hs≠[]∧vh = .slice (some ⟨id,off,none⟩) hs.length 1∧u = .slice (some ⟨id,off,some 0⟩) hs.length 1) (m:List UInt8) :
  ∃ vi h',yw 1 16 (h.alloc (.blk [str m] true)) [u,.slice (some ⟨h.next,0,none⟩) 1 1]=some (vi,h')∧h.le h' ∧ Hold h' vi (hs++[m]) ∧ ∀ z L,z < h.next→L < h.next→Hold (h'.off z L) vi (hs++[m]):=by
 have hsrc:qr 1 (h.alloc (.blk [str m] true)) (.slice (some ⟨h.next,0,none⟩) 1 1)=some [str m]:=by simp [qr]
 have fin:∀ (cs:List Value),cs=(hs.map fun s=>str s) → ∀ (h' : Heap),h.le h' → Hold (h'.alloc (.blk (cs++[str m]) true)) (.slice (some ⟨h'.next,0,none⟩) (hs.length + 1) 1) (hs++[m]) ∧ ∀ z L,z < h.next→L < h.next→Hold ((h'.alloc (.blk (cs++[str m]) true)).off z L) (.slice (some ⟨h'.next,0,none⟩) (hs.length + 1) 1) (hs++[m]):=by
  rintro cs rfl h' hl'
  suffices key:∀ H:Heap,H.get h'.next=some (.blk ((hs.map fun s=>str s)++[str m]) true)→Hold H (.slice (some ⟨h'.next,0,none⟩) (hs.length + 1) 1) (hs++[m]) from
   ⟨key _ (Heap.get_alloc_same _ _),fun z L hz hL=>key _ (Heap.off_of (by have:=hl'.next;omega) (by have:=hl'.next;omega) (Heap.get_alloc_same _ _))⟩
  intro H hH
  refine ⟨.inr ⟨h'.next,0,by simp,.inr ⟨_,_,hH,fun i x hi=>?_⟩⟩,fun e=>by simp at e⟩
  have hc:(hs.map fun s=>str s)++[str m]=(((hs++[m]).map fun s=>[str s])).flatten:=by rw [zf3];simp
  obtain ⟨h1,h2⟩:=yo (s:=1) (xs:=(hs++[m]).map fun s=>[str s]) (by intro x hx;obtain ⟨_,_,rfl⟩:=List.mem_map.1 hx;rfl) i x hi
  refine ⟨?_,?_,?_⟩
  ·obtain ⟨_,_,rfl⟩:=List.mem_map.1 (List.mem_of_getElem? hi);rfl
  ·rw [hc];omega
  ·rw [hc];simpa using h2
 rcases hu with ⟨rfl,rfl⟩ | ⟨id,off,hne,rfl,rfl⟩
 ·refine ⟨_,_,by
   simp only [yw,hsrc]
   rw [if_neg (by simp),if_pos (by simp)],((Heap.le.refl h).alloc _).alloc _,?_⟩
  have:=fin [] rfl _ ((Heap.le.refl h).alloc (.blk [str m] true))
  simpa using this
 ·have hpos:0 < hs.length:=by cases hs;exact absurd rfl hne;simp
  obtain ⟨h1,h2⟩:=SlV.src hh.1
  simp only [qr,if_true] at h1
  rw [if_neg (by omega)] at h1
  split at h1<;>first | (cases h1;done) | skip
  rename_i cells own hg
  split at h1<;>first | (cases h1;done) | skip
  rename_i hle
  have hcs:(cells.drop off).take (hs.length * 1)=hs.map fun s=>str s:=by
   have:=Option.some.inj h1
   rw [this,zf3]
  have hg2:(h.alloc (.blk [str m] true)).get id=some (.blk cells own):=by rw [Heap.get_alloc_lt (Heap.lt_of_get hg)];exact hg
  refine ⟨_,_,?_,((Heap.le.refl h).alloc _).alloc _,fin _ hcs _ ((Heap.le.refl h).alloc (.blk [str m] true))⟩
  simp only [yw,hsrc,hg2]
  have e1:[str m].length=1:=rfl
  simp only [e1,Nat.reduceDiv,Nat.succ_ne_zero,if_false,Nat.add_eq_zero_iff,Nat.one_ne_zero,and_false]
  have e2:True∧off + hs.length * 1≤cells.length∧(hs.length + 1) * 16≤140737488355328∧hs.length + 1≤9223372036854775807:=⟨trivial,hle,by omega,by omega⟩
  rw [if_pos e2]
structure YieldS (P:Program) (z Lo:Nat) (fy:Value) (L:List (St × List (List UInt8))) (I J:Nat→Heap→Prop):Prop where
 run:∀ k h s hs x vh (Q:Value→Heap→Prop),L[k]? = some (s,hs)→I k h→StC h s x→Hold h vh hs→(∀ h',h.leZ z Lo h' → I (k + 1) h' → Q (.bool true) h')→(∀ h',J k h' → Q (.bool false) h')→ValW P fy [.agg x.toArray,vh] h Q
 le:∀ k h h',h.le h' → I k h→I k h'
 deep:∀ e ∈ L,e.2.length≤1000
 lt:∀ k h,I k h→z < h.next∧Lo < h.next
end Go.Eng.Sy
namespace Go.Eng.Sy
open Go Go.Eng Go.Proofs
theorem cutVH {P:Value→Heap→Prop}{G:Value→Heap→Prop}{T:Prop}(h:(∀ z x,P z x→G z x)→T) (g:∀ z x,P z x→G z x):T:=h g
theorem wg (hs:List (List UInt8)) (s:St):Zb hs s=(s,hs)::(zq (if s.kind=5 then hs++[s.name] else hs) s.thn++zq hs s.els):=by cases s;rfl
def Seg (L:List (St × List (List UInt8))) (k:Nat) (l:List (St × List (List UInt8))):Prop:=∀ i,i < l.length→L[k + i]? = l[i]?
theorem Seg.left {L l m:List (St × List (List UInt8))}{k:Nat}(h:Seg L k (l++m)):Seg L k l:=fun i hi=>by
 rw [h i (by rw [List.length_append];omega),List.getElem?_append_left hi]
theorem Seg.right {L l m:List (St × List (List UInt8))}{k:Nat}(h:Seg L k (l++m)):Seg L (k + l.length) m:=fun i hi=>by
 have:=h (l.length + i) (by rw [List.length_append];omega)
 rw [List.getElem?_append_right (by omega)] at this
 rw [Nat.add_assoc,this]
 congr 1;omega
def WalkC (z Lo:Nat) (fy:Value) (L:List (St × List (List UInt8))) (I J:Nat→Heap→Prop) (m:Nat):Prop :=
 ∀ (ss:List St) (hs:List (List UInt8)) (v vh:Value) (h:Heap) (k:Nat) (Q:Value→Heap→Prop),(zq hs ss).length < m→StsV (h.off z Lo) v ss→Hold (h.off z Lo) vh hs→Seg L k (zq hs ss)→I k h →
  (∀ h',h.leZ z Lo h' → I (k + (zq hs ss).length) h' → Q (.bool true) h')→(∀ h' j,J j h' → Q (.bool false) h')→CallW Tryz.prog 116 [v,vh,fy] h Q
set_option maxHeartbeats 1000000 in
theorem walk_of {z Lo:Nat}{fy:Value}{L:List (St × List (List UInt8))}{I J:Nat→Heap→Prop}(hy:YieldS Tryz.prog z Lo fy L I J){m:Nat}(ih:WalkC z Lo fy L I J m):WalkC z Lo fy L I J (m + 1):=by
 intro ss hs v vh h k Q hm hv hh hseg hI hT hF
 obtain ⟨q0,hq⟩:∃ x:Prop,x:=⟨True,trivial⟩
 have hln:=hv.len
 have hle:=hv.le
 replace hv:=Hid.mk hv;replace hh:=Hid.mk hh;replace hseg:=Hid.mk hseg;replace hT:=Hid.mk hT;replace hF:=Hid.mk hF;replace ih:=Hid.mk ih;replace hy:=Hid.mk hy;replace hm:=Hid.mk hm;replace hI:=Hid.mk hI
 refine zk (k:=3) ok116 rfl rfl rfl fun N=>?_
 rw [show ym c116 [v,vh,fy]=[v,vh,fy,undef,undef,undef,undef,undef,undef,undef] from rfl]
 delta c116 zs1 zs0 zr9 zr8 zr7 zr6 zr5 zr4 zr3 zr2 zb1
 replace hq:=Hid.mk hq
 clear hq
 repeat' (first|simp -implicitDefEqProofs only [ze,aR,aW,zf,zg,Int.reduceBEq,Int.reduceBNe,Nat.reduceBEq,Int.reduceLT,Int.reduceLE, *]|with_reducible (first|apply kcd|apply kgd|apply kci|apply kgi)<;>intro hc)
 refine LoopW.upto ss.length (fun i e h1=>h.leZ z Lo h1∧I (k + (zq hs (ss.take i)).length) h1 ∧ ∃ x4 x5 x9,e=[v,vh,fy,.bool false,x4,x5,v,.int .i64 ss.length,.int .i64 i,x9]) ?_ (Nat.zero_le _) ⟨Heap.leZ.refl _,by simpa [zq] using hI.h,_,_,_,rfl⟩
 rintro i _ h1 R hi ⟨hl1,hI1,x4,x5,x9,rfl⟩ hR
 delta yi0 zs1 zs0 zr9 zr8 zr7 zr6 zr5 zr4 zr3 zr2 zb1
 by_cases hlt:i < ss.length
 case neg =>
  have hlt' : ¬ (i:Int) < ss.length:=by omega
  rw [List.take_of_length_le (by omega)] at hI1
  have g:=hT.h h1 hl1 hI1
  replace g:=Hid.mk g;replace hI1:=Hid.mk hI1;replace hl1:=Hid.mk hl1
  clear hI
  repeat' (first|simp -implicitDefEqProofs only [ze,aR,aW,zf,zg,Int.reduceBEq,Int.reduceBNe,Nat.reduceBEq,Int.reduceLT,Int.reduceLE, *]|with_reducible (first|apply kcd|apply kgd|apply kci|apply kgi)<;>intro hc)
  exact g.h
 case pos =>
  have hlt' : (i:Int) < ss.length:=by omega
  have hw:IntKind.i64.wrap ((i:Int) + 1)=((i + 1:Nat):Int):=by rw [zt (by omega) (by omega)];rfl
  obtain ⟨s,he⟩:∃ e,ss[i]? = some e:=⟨_,List.getElem?_eq_getElem hlt⟩
  have hsplit:=zk7 hs he
  have hlen:(zq hs ss).length=(zq hs (ss.take i)).length + ((Zb hs s).length + (zq hs (ss.drop (i + 1))).length):=by rw [hsplit,List.length_append,List.length_append]
  have hseg1:Seg L (k + (zq hs (ss.take i)).length) (Zb hs s):=by
   have:=hseg.h
   rw [hsplit] at this
   exact this.right.left
  obtain ⟨k1,hk1⟩:∃ k1,k + (zq hs (ss.take i)).length=k1:=⟨_,rfl⟩
  rw [hk1] at hseg1 hI1
  rw [wg] at hseg1
  obtain ⟨hs2,hs2e⟩:∃ x,(if s.kind=5 then hs++[s.name] else hs)=x:=⟨_,rfl⟩
  rw [hs2e] at hseg1
  have hL:L[k1]? = some (s,hs):=by have:=hseg1 0 (by simp);simpa using this
  have hsegT:Seg L (k1 + 1) (zq hs2 s.thn++zq hs s.els):=Seg.right (l:=[(s,hs)]) hseg1
  have hslen:(Zb hs s).length=1 + (zq hs2 s.thn).length + (zq hs s.els).length:=by rw [wg,hs2e];simp;omega
  have hnext:k + (zq hs (ss.take (i + 1))).length=k1 + 1 + (zq hs2 s.thn).length + (zq hs s.els).length:=by
   rw [← hk1,List.take_add_one,he,Yj,List.length_append]
   simp only [Option.toList_some,zq,List.append_nil]
   omega
  have hsl:=hy.h.deep _ (List.mem_of_getElem? hL)
  have hzl:=hy.h.lt _ _ hI1
  obtain ⟨id,off,cells,own,x,e1,e2,e3,hx,_⟩:=(hv.h.monoB hl1.bo).elem he
  replace e2:=(Heap.off_blk e2).2.2
  have hx0:=hx
  obtain ⟨a,u,w,hxe,hargs,hthn,hels⟩:=hx.cells
  rw [hxe] at e3
  have st:zr 7 (h1.alloc (.blk [.int .i64 0,.string ⟨#[]⟩,.string ⟨#[]⟩,.int .i64 0,.slice none 0 0,.slice none 0 0,.slice none 0 0] true)) [.pointer (some ⟨h1.next,0,none⟩),stV s.kind s.name s.src s.n a u w]=some (undef,h1.alloc (.blk [.int .i64 s.kind,str s.name,str s.src,.int .i64 s.n,a,u,w] true)):=by
   obtain ⟨_,ha1,_⟩:=hargs
   obtain ⟨_,hu1,_⟩:=hthn
   obtain ⟨_,hw1,_⟩:=hels
   obtain ⟨_,_,_,rfl⟩:=SlV.isS ha1
   obtain ⟨_,_,_,rfl⟩:=SlV.isS hu1
   obtain ⟨_,_,_,rfl⟩:=SlV.isS hw1
   exact zy rfl rfl rfl rfl
  have gpx:=Heap.get_alloc_same h1 (.blk [.int .i64 s.kind,str s.name,str s.src,.int .i64 s.n,a,u,w] true)
  have lh2:=(Heap.le.refl h1).alloc (.blk [.int .i64 s.kind,str s.name,str s.src,.int .i64 s.n,a,u,w] true)
  obtain ⟨px,epx⟩:∃ x_,h1.next=x_:=⟨_,rfl⟩
  obtain ⟨h2,eh2⟩:∃ x_,h1.alloc (.blk [.int .i64 s.kind,str s.name,str s.src,.int .i64 s.n,a,u,w] true)=x_:=⟨_,rfl⟩
  rw [eh2] at gpx lh2
  rw [epx] at gpx
  rw [eh2,epx] at st
  have hl2:=hl1.trans (lh2.toZ (z:=z) (L:=Lo))
  have hpz:px≠z∧px≠Lo:=⟨by rw [← epx];omega,by rw [← epx];omega⟩
  have hz2:z < h2.next∧Lo < h2.next:=⟨Nat.lt_of_lt_of_le hzl.1 lh2.next,Nat.lt_of_lt_of_le hzl.2 lh2.next⟩
  have hI2:=hy.h.le _ _ _ lh2 hI1
  have hx2:=hx0.monoB (lh2.toZ (z:=z) (L:=Lo)).bo
  rw [hxe] at hx2
  clear hx hx0 hargs hthn hels hxe hseg1 hsplit hI1 hzl
  replace hpz:=Hid.mk hpz;replace hz2:=Hid.mk hz2;replace hl2:=Hid.mk hl2;replace hI2:=Hid.mk hI2;replace hx2:=Hid.mk hx2;replace hL:=Hid.mk hL;replace hsegT:=Hid.mk hsegT;replace hslen:=Hid.mk hslen;replace hlen:=Hid.mk hlen;replace hnext:=Hid.mk hnext;replace hsl:=Hid.mk hsl;replace hs2e:=Hid.mk hs2e;replace hl1:=Hid.mk hl1;replace lh2:=Hid.mk lh2;replace hI:=Hid.mk hI;replace hk1:=Hid.mk hk1;replace he:=Hid.mk he
  refine cutVH (P:=fun zV hX=>h2.le hX∧Hold (hX.off z Lo) zV hs2) (G:=?GG) ?brn ?mnn
  case brn =>
   intro main
   replace main:=Hid.mk main
   cases k5:(s.kind == 5) with
   | true =>
    have k5' : s.kind=5:=by simpa using k5
    replace k5':=Hid.mk k5'
    repeat' (first|simp -implicitDefEqProofs only [ze,aR,aW,zf,zg,Int.reduceBEq,Int.reduceBNe,Nat.reduceBEq,Int.reduceLT,Int.reduceLE,ya, *]|with_reducible (first|apply kcd|apply kgd|apply kci|apply kgi)<;>intro hc)
    refine clip_c (hh.h.monoB hl2.h.b) _ fun zz hz=>zb5 (Heap.le.refl _).ext ?_
    obtain ⟨vi,h3,ap,l3,_,hv3⟩:=yw4 (hh.h.monoB hl2.h.b) hsl.h hz s.name
    have b1:=bs_1 s.name
    have hq2:Hold (h3.off z Lo) vi hs2:=by rw [← hs2e.h,if_pos k5'.h];exact hv3 z Lo hz2.h.1 hz2.h.2
    replace hq2:=Hid.mk hq2;replace l3:=Hid.mk l3;replace hz:=Hid.mk hz;replace hv3:=Hid.mk hv3
    simp -implicitDefEqProofs only [ze,aR,aW,zf,zg,Int.reduceBEq,Int.reduceBNe,Nat.reduceBEq,Int.reduceLT,Int.reduceLE,ya,gpx,ap,b1,aR,aW]
    exact main.h vi h3 ⟨l3.h,hq2.h⟩
   | false =>
    have k5' : ¬ s.kind=5:=by simpa using k5
    have hq2:Hold (h2.off z Lo) vh hs2:=by rw [← hs2e.h,if_neg k5'];exact hh.h.monoB hl2.h.bo
    have m:=main.h vh h2 ⟨Heap.le.refl _,hq2⟩
    simp -implicitDefEqProofs only [ze,aR,aW,zf,zg,Int.reduceBEq,Int.reduceBNe,Nat.reduceBEq,Int.reduceLT,Int.reduceLE,gpx,ya,aR] at m
    replace hq2:=Hid.mk hq2;replace k5':=Hid.mk k5'
    repeat' (first|simp -implicitDefEqProofs only [ze,aR,aW,zf,zg,Int.reduceBEq,Int.reduceBNe,Nat.reduceBEq,Int.reduceLT,Int.reduceLE,ya, *]|with_reducible (first|apply kcd|apply kgd|apply kci|apply kgi)<;>intro hc)
    try exact m
  case mnn =>
   rintro vi h3 ⟨l3,hvi⟩
   have gp3:=l3.get gpx
   have hl3:=hl2.h.trans (l3.toZ (z:=z) (L:=Lo))
   have hI3:=hy.h.le _ _ _ l3 hI2.h
   have hx3:=hx2.h.monoB (l3.toZ (z:=z) (L:=Lo)).bo
   have hx30:=hx3
   obtain ⟨_,_,_,ee,hargs3,hthn3,hels3⟩:=hx30.cells
   simp only [List.cons.injEq,and_true,true_and] at ee
   obtain ⟨ea,eu,ew⟩:=ee
   rw [← eu] at hthn3
   rw [← ew] at hels3
   clear ea eu ew hargs3 gpx
   have hm1:(zq hs2 s.thn).length < m:=by have:=hm.h;have:=hlen.h;have:=hslen.h;omega
   have hm2:(zq hs s.els).length < m:=by have:=hm.h;have:=hlen.h;have:=hslen.h;omega
   replace l3:=Hid.mk l3;replace hvi:=Hid.mk hvi;replace hl3:=Hid.mk hl3;replace hI3:=Hid.mk hI3;replace hx3:=Hid.mk hx3;replace hthn3:=Hid.mk hthn3;replace hels3:=Hid.mk hels3;replace hm1:=Hid.mk hm1;replace hm2:=Hid.mk hm2
   repeat' (first|simp -implicitDefEqProofs only [ze,aR,aW,zf,zg,Int.reduceBEq,Int.reduceBNe,Nat.reduceBEq,Int.reduceLT,Int.reduceLE,ya, *]|with_reducible (first|apply kcd|apply kgd|apply kci|apply kgi)<;>intro hc)
   refine hy.h.run k1 h3 s hs _ vh _ hL.h hI3.h (hx3.h.monoB Heap.off_b) (hh.h.monoB hl3.h.b) (fun h4 l4 hI4=>?_) (fun h4 hJ4=>?_)
   ·have gp4:=l4.get _ _ hpz.h.1 hpz.h.2 gp3
    have hl4:=hl3.h.trans l4
    replace l4:=Hid.mk l4;replace hl4:=Hid.mk hl4;replace hI4:=Hid.mk hI4
    repeat' (first|simp -implicitDefEqProofs only [ze,aR,aW,zf,zg,Int.reduceBEq,Int.reduceBNe,Nat.reduceBEq,Int.reduceLT,Int.reduceLE,ya, *]|with_reducible (first|apply kcd|apply kgd|apply kci|apply kgi)<;>intro hc)
    refine ih.h s.thn hs2 u vi h4 (k1 + 1) _ hm1.h (hthn3.h.monoB l4.h.bo) (hvi.h.monoB l4.h.bo) hsegT.h.left hI4.h (fun h5 l5 hI5=>?_) (fun h5 j hJ5=>?_)
    ·have gp5:=l5.get _ _ hpz.h.1 hpz.h.2 gp4
     have hl5:=hl4.h.trans l5
     replace l5:=Hid.mk l5;replace hl5:=Hid.mk hl5;replace hI5:=Hid.mk hI5
     repeat' (first|simp -implicitDefEqProofs only [ze,aR,aW,zf,zg,Int.reduceBEq,Int.reduceBNe,Nat.reduceBEq,Int.reduceLT,Int.reduceLE,ya, *]|with_reducible (first|apply kcd|apply kgd|apply kci|apply kgi)<;>intro hc)
     refine ih.h s.els hs w vh h5 _ _ hm2.h (hels3.h.monoB (l4.h.trans l5.h).bo) (hh.h.monoB hl5.h.bo) hsegT.h.right hI5.h (fun h6 l6 hI6=>?_) (fun h6 j hJ6=>?_)
     ·rw [← hnext.h] at hI6
      have hl6:=hl5.h.trans l6
      replace l6:=Hid.mk l6;replace hI6:=Hid.mk hI6;replace hl6:=Hid.mk hl6
      repeat' (first|simp -implicitDefEqProofs only [ze,aR,aW,zf,zg,Int.reduceBEq,Int.reduceBNe,Nat.reduceBEq,Int.reduceLT,Int.reduceLE,ya, *]|with_reducible (first|apply kcd|apply kgd|apply kci|apply kgi)<;>intro hc)
      exact hR.h _ _ hlt ⟨hl6.h,hI6.h,_,_,_,rfl⟩
     ·have g:=hF.h h6 j hJ6
      replace g:=Hid.mk g;replace hJ6:=Hid.mk hJ6
      repeat' (first|simp -implicitDefEqProofs only [ze,aR,aW,zf,zg,Int.reduceBEq,Int.reduceBNe,Nat.reduceBEq,Int.reduceLT,Int.reduceLE,ya, *]|with_reducible (first|apply kcd|apply kgd|apply kci|apply kgi)<;>intro hc)
      exact g.h
    ·have g:=hF.h h5 j hJ5
     replace g:=Hid.mk g;replace hJ5:=Hid.mk hJ5
     repeat' (first|simp -implicitDefEqProofs only [ze,aR,aW,zf,zg,Int.reduceBEq,Int.reduceBNe,Nat.reduceBEq,Int.reduceLT,Int.reduceLE,ya, *]|with_reducible (first|apply kcd|apply kgd|apply kci|apply kgi)<;>intro hc)
     exact g.h
   ·have g:=hF.h h4 k1 hJ4
    replace g:=Hid.mk g;replace hJ4:=Hid.mk hJ4
    repeat' (first|simp -implicitDefEqProofs only [ze,aR,aW,zf,zg,Int.reduceBEq,Int.reduceBNe,Nat.reduceBEq,Int.reduceLT,Int.reduceLE,ya, *]|with_reducible (first|apply kcd|apply kgd|apply kci|apply kgi)<;>intro hc)
    exact g.h
theorem walk_c {z Lo:Nat}{fy:Value}{L:List (St × List (List UInt8))}{I J:Nat→Heap→Prop}(hy:YieldS Tryz.prog z Lo fy L I J):∀ m,WalkC z Lo fy L I J m
 | 0=>fun _ _ _ _ _ _ _ h=>by omega
 | m + 1=>walk_of hy (walk_c hy m)
theorem yk4 {z Lo:Nat}{fy:Value}{ss:List St}{hs:List (List UInt8)}{I J:Nat→Heap→Prop}(hy:YieldS Tryz.prog z Lo fy (zq hs ss) I J){v vh:Value}{h:Heap}{a b:Nat}{o1 o2:Bool}(ga:h.get a=some (.blk [v] o1)) (gb:h.get b=some (.blk [vh] o2)) (hv:StsV (h.off z Lo) v ss) (hh:Hold (h.off z Lo) vh hs) (hI:I 0 h) (Q:Value→Heap→Prop)
  (hT:∀ v h',h.leZ z Lo h' → I (zq hs ss).length h' → Q v h') (hF:∀ v h' j,J j h' → Q v h'):CallW Tryz.prog 115 [fy,ptr a,ptr b] h Q:=by
 obtain ⟨q0,hq⟩:∃ x:Prop,x:=⟨True,trivial⟩
 replace hy:=Hid.mk hy;replace hv:=Hid.mk hv;replace hh:=Hid.mk hh;replace hI:=Hid.mk hI;replace hT:=Hid.mk hT;replace hF:=Hid.mk hF
 refine Je ok115 rfl rfl rfl fun N=>?_
 rw [show ym c115 [fy,ptr a,ptr b]=[fy,ptr a,ptr b] from rfl]
 delta c115 qv5
 replace hq:=Hid.mk hq
 clear hq
 repeat' (first|simp -implicitDefEqProofs only [ze,aR,aW,zf,zg,Int.reduceBEq,Int.reduceBNe,Nat.reduceBEq,Int.reduceLT,Int.reduceLE, *]|with_reducible (first|apply kcd|apply kgd|apply kci|apply kgi)<;>intro hc)
 refine walk_c hy.h ((zq hs ss).length + 1) ss hs v vh h 0 _ (by omega) hv.h hh.h (fun i hi=>by rw [Nat.zero_add]) hI.h (fun h1 l1 h2=>?_) (fun h1 j h2=>?_)
 ·rw [Nat.zero_add] at h2
  have g:=hT.h (.tuple #[]) h1 l1 h2
  replace g:=Hid.mk g;replace h2:=Hid.mk h2;replace l1:=Hid.mk l1
  repeat' (first|simp -implicitDefEqProofs only [ze,aR,aW,zf,zg,Int.reduceBEq,Int.reduceBNe,Nat.reduceBEq,Int.reduceLT,Int.reduceLE, *]|with_reducible (first|apply kcd|apply kgd|apply kci|apply kgi)<;>intro hc)
  exact g.h
 ·have g:=hF.h (.tuple #[]) h1 j h2
  replace g:=Hid.mk g;replace h2:=Hid.mk h2
  repeat' (first|simp -implicitDefEqProofs only [ze,aR,aW,zf,zg,Int.reduceBEq,Int.reduceBNe,Nat.reduceBEq,Int.reduceLT,Int.reduceLE, *]|with_reducible (first|apply kcd|apply kgd|apply kci|apply kgi)<;>intro hc)
  exact g.h
end Go.Eng.Sy
namespace Go.Eng.Sy
open Go Go.Eng Go.Proofs
def hd1 (t x:Tsk):Bool:=!x.handler && x.hart == t.hart
def hd2 (t x:Tsk):Bool:=x.handler && x.line == t.line
def hd3 (t x:Tsk):Bool:=!x.handler && x.hart == t.hart && decide (t.prio≤x.prio)
def xe (p:Prg) (i:Nat):Int:=match p.tasks[i]? with
 | none=>0
 | some t=>if p.harts≤t.hart then 81 else if !t.handler && (p.tasks.take i).any (hd1 t) then 81 else if !t.handler then 0 else
  if (p.tasks.take i).any (hd2 t) then 82 else if p.tasks.any (hd3 t) then 83 else 0
abbrev tsL (t:Tsk) (v:Value):List Value:=[str t.name,.bool t.handler,.int .i64 t.hart,.int .i64 t.prio,.int .i64 t.line,v]
section
variable {h:Heap}{t x:Tsk}{q:Nat}{v:Value}{own:Bool}{xs:List Value}
theorem hd1_c (gq:h.get q=some (.blk (tsL t v) own)) (hx:TsC h x xs) (Q:Value→Heap→Prop) (hq:∀ v h',v = .bool (hd1 t x)→h.le h' → Q v h'):CallW Tryz.prog 112 [.agg xs.toArray,ptr q] h Q:=by
 obtain ⟨u,rfl,hu⟩:=hx
 have b1:=zh5 (m:=x.name) (b:=x.handler) (a:=x.hart) (p:=x.prio) (l:=x.line) hu.one
 have gp1:=Heap.get_alloc_same h (.blk [str x.name,.bool x.handler,.int .i64 x.hart,.int .i64 x.prio,.int .i64 x.line,u] true)
 have lh1:=(Heap.le.refl h).alloc (.blk [str x.name,.bool x.handler,.int .i64 x.hart,.int .i64 x.prio,.int .i64 x.line,u] true)
 obtain ⟨p1,ep1⟩:∃ x_,h.next=x_:=⟨_,rfl⟩
 obtain ⟨h1,eh1⟩:∃ x_,h.alloc (.blk [str x.name,.bool x.handler,.int .i64 x.hart,.int .i64 x.prio,.int .i64 x.line,u] true)=x_:=⟨_,rfl⟩
 rw [eh1] at gp1 lh1
 rw [ep1] at gp1
 have g1:=lh1.get gq
 replace hq:=fun b (e:b=hd1 t x)=>hq (.bool b) h1 (by rw [e]) lh1
 unfold hd1 at hq
 clear gq hu
 replace lh1:=Hid.mk lh1
 refine zk (k:=3) ok112 rfl rfl rfl fun N=>?_
 rw [show ym c112 [tsV x.name x.handler x.hart x.prio x.line u,ptr q]=[tsV x.name x.handler x.hart x.prio x.line u,ptr q,undef,undef] from rfl]
 delta c112 qw1 qw0
 replace hq:=Hid.mk hq
 obtain ⟨hb,hbe⟩:∃ b,x.handler=b:=⟨_,rfl⟩
 rw [hbe] at b1 gp1 hq eh1 ⊢
 cases hb with
 | true =>
  repeat' (first|simp -implicitDefEqProofs only [ze,aR,aW,zf,zg,Int.reduceBEq,Int.reduceBNe,Nat.reduceBEq,Int.reduceLT,Int.reduceLE,yk, *]|with_reducible (first|apply kcd|apply kgd|apply kci|apply kgi)<;>intro hc)
  exact hq.h _ rfl
 | false =>
  repeat' (first|simp -implicitDefEqProofs only [ze,aR,aW,zf,zg,Int.reduceBEq,Int.reduceBNe,Nat.reduceBEq,Int.reduceLT,Int.reduceLE,yk, *]|with_reducible (first|apply kcd|apply kgd|apply kci|apply kgi)<;>intro hc)
  exact hq.h _ rfl
theorem hd2_c (gq:h.get q=some (.blk (tsL t v) own)) (hx:TsC h x xs) (Q:Value→Heap→Prop) (hq:∀ v h',v = .bool (hd2 t x)→h.le h' → Q v h'):CallW Tryz.prog 113 [.agg xs.toArray,ptr q] h Q:=by
 obtain ⟨u,rfl,hu⟩:=hx
 have b1:=zh5 (m:=x.name) (b:=x.handler) (a:=x.hart) (p:=x.prio) (l:=x.line) hu.one
 have gp1:=Heap.get_alloc_same h (.blk [str x.name,.bool x.handler,.int .i64 x.hart,.int .i64 x.prio,.int .i64 x.line,u] true)
 have lh1:=(Heap.le.refl h).alloc (.blk [str x.name,.bool x.handler,.int .i64 x.hart,.int .i64 x.prio,.int .i64 x.line,u] true)
 obtain ⟨p1,ep1⟩:∃ x_,h.next=x_:=⟨_,rfl⟩
 obtain ⟨h1,eh1⟩:∃ x_,h.alloc (.blk [str x.name,.bool x.handler,.int .i64 x.hart,.int .i64 x.prio,.int .i64 x.line,u] true)=x_:=⟨_,rfl⟩
 rw [eh1] at gp1 lh1
 rw [ep1] at gp1
 have g1:=lh1.get gq
 replace hq:=fun b (e:b=hd2 t x)=>hq (.bool b) h1 (by rw [e]) lh1
 unfold hd2 at hq
 clear gq hu
 replace lh1:=Hid.mk lh1
 refine zk (k:=3) ok113 rfl rfl rfl fun N=>?_
 rw [show ym c113 [tsV x.name x.handler x.hart x.prio x.line u,ptr q]=[tsV x.name x.handler x.hart x.prio x.line u,ptr q,undef,undef] from rfl]
 delta c113 qv9 qv8
 replace hq:=Hid.mk hq
 obtain ⟨hb,hbe⟩:∃ b,x.handler=b:=⟨_,rfl⟩
 rw [hbe] at b1 gp1 hq eh1 ⊢
 cases hb with
 | true =>
  repeat' (first|simp -implicitDefEqProofs only [ze,aR,aW,zf,zg,Int.reduceBEq,Int.reduceBNe,Nat.reduceBEq,Int.reduceLT,Int.reduceLE,yk, *]|with_reducible (first|apply kcd|apply kgd|apply kci|apply kgi)<;>intro hc)
  exact hq.h _ rfl
 | false =>
  repeat' (first|simp -implicitDefEqProofs only [ze,aR,aW,zf,zg,Int.reduceBEq,Int.reduceBNe,Nat.reduceBEq,Int.reduceLT,Int.reduceLE,yk, *]|with_reducible (first|apply kcd|apply kgd|apply kci|apply kgi)<;>intro hc)
  exact hq.h _ rfl
theorem hd3_c (gq:h.get q=some (.blk (tsL t v) own)) (hx:TsC h x xs) (Q:Value→Heap→Prop) (hq:∀ v h',v = .bool (hd3 t x)→h.le h' → Q v h'):CallW Tryz.prog 114 [.agg xs.toArray,ptr q] h Q:=by
 obtain ⟨u,rfl,hu⟩:=hx
 have b1:=zh5 (m:=x.name) (b:=x.handler) (a:=x.hart) (p:=x.prio) (l:=x.line) hu.one
 have gp1:=Heap.get_alloc_same h (.blk [str x.name,.bool x.handler,.int .i64 x.hart,.int .i64 x.prio,.int .i64 x.line,u] true)
 have lh1:=(Heap.le.refl h).alloc (.blk [str x.name,.bool x.handler,.int .i64 x.hart,.int .i64 x.prio,.int .i64 x.line,u] true)
 obtain ⟨p1,ep1⟩:∃ x_,h.next=x_:=⟨_,rfl⟩
 obtain ⟨h1,eh1⟩:∃ x_,h.alloc (.blk [str x.name,.bool x.handler,.int .i64 x.hart,.int .i64 x.prio,.int .i64 x.line,u] true)=x_:=⟨_,rfl⟩
 rw [eh1] at gp1 lh1
 rw [ep1] at gp1
 have g1:=lh1.get gq
 replace hq:=fun b (e:b=hd3 t x)=>hq (.bool b) h1 (by rw [e]) lh1
 unfold hd3 at hq
 clear gq hu
 replace lh1:=Hid.mk lh1
 refine zk (k:=3) ok114 rfl rfl rfl fun N=>?_
 rw [show ym c114 [tsV x.name x.handler x.hart x.prio x.line u,ptr q]=[tsV x.name x.handler x.hart x.prio x.line u,ptr q,undef,undef] from rfl]
 delta c114 qv7 qv6
 replace hq:=Hid.mk hq
 obtain ⟨hb,hbe⟩:∃ b,x.handler=b:=⟨_,rfl⟩
 rw [hbe] at b1 gp1 hq eh1 ⊢
 cases hb with
 | true =>
  repeat' (first|simp -implicitDefEqProofs only [ze,aR,aW,zf,zg,Int.reduceBEq,Int.reduceBNe,Nat.reduceBEq,Int.reduceLT,Int.reduceLE,yk, *]|with_reducible (first|apply kcd|apply kgd|apply kci|apply kgi)<;>intro hc)
  exact hq.h false rfl
 | false =>
  cases c2:(x.hart == t.hart) with
  | true =>
   by_cases c3:t.prio≤x.prio
   ·repeat' (first|simp -implicitDefEqProofs only [ze,aR,aW,zf,zg,Int.reduceBEq,Int.reduceBNe,Nat.reduceBEq,Int.reduceLT,Int.reduceLE,yk, *]|with_reducible (first|apply kcd|apply kgd|apply kci|apply kgi)<;>intro hc)
    exact hq.h true (by simp [c2,c3])
   ·repeat' (first|simp -implicitDefEqProofs only [ze,aR,aW,zf,zg,Int.reduceBEq,Int.reduceBNe,Nat.reduceBEq,Int.reduceLT,Int.reduceLE,yk, *]|with_reducible (first|apply kcd|apply kgd|apply kci|apply kgi)<;>intro hc)
    exact hq.h false (by simp [c2,c3])
  | false =>
   repeat' (first|simp -implicitDefEqProofs only [ze,aR,aW,zf,zg,Int.reduceBEq,Int.reduceBNe,Nat.reduceBEq,Int.reduceLT,Int.reduceLE,yk, *]|with_reducible (first|apply kcd|apply kgd|apply kci|apply kgi)<;>intro hc)
   exact hq.h false (by simp [c2])
end
theorem TssV.take {h:Heap}{v:Value}{l:List Tsk}(hv:TssV h v l){i:Nat}(hi:i≤l.length):∃ w,qj 6 false true [v,.int .i64 (i:Int)]=some w∧TssV h w (l.take i):=by
 obtain ⟨xs,h1,h2,h3⟩:=hv
 have hl:=h3.length
 obtain ⟨w,h4,h5⟩:=h1.partHi (b:=i) (by omega)
 refine ⟨w,h4,xs.take i,h5,by rw [List.length_take];omega,?_⟩
 have:∀ {l:List Tsk}{xs:List (List Value)}(i:Nat),TsCs h l xs→TsCs h (l.take i) (xs.take i):=by
  intro l
  induction l with
  | nil=>intro xs i hx;rw [show xs=[] from hx];cases i<;>rfl
  | cons a l ih =>
   intro xs i hx
   obtain ⟨x,xr,rfl,a1,a2⟩:=hx
   cases i with
   | zero=>rfl
   | succ i=>exact ⟨x,xr.take i,rfl,a1,ih i a2⟩
 exact this i h3
theorem TssV.elem {h:Heap}{v:Value}{l:List Tsk}(hv:TssV h v l){i:Nat}{e:Tsk}(hi:l[i]? = some e) :
  ∃ id off cells own u,zp 6 [v,.int .i64 i]=some (.pointer (some ⟨id,off,none⟩))∧h.get id=some (.blk cells own)∧qz true off 6 cells=some (tsV e.name e.handler e.hart e.prio e.line u)∧StsV h u e.body:=by
 obtain ⟨xs,a,c,b⟩:=hv
 obtain ⟨x,h1,u,rfl,h2⟩:=b.get i e hi
 obtain ⟨id,off,cells,own,g1,g2,g3,g4⟩:=a.elem h1
 exact ⟨id,off,cells,own,u,g1,g2,g3,h2⟩
end Go.Eng.Sy
namespace Go.Eng.Sy
open Go Go.Eng Go.Proofs
theorem head_c {h:Heap}{q:Nat}{p:Prg}{nm:List (List UInt8)}{d r t:Value}{mid:Nat}(hc:Ck h q p nm d r t mid){i:Nat}{tk:Tsk}(hi:p.tasks[i]? = some tk) (Q:Value→Heap→Prop) (hq:∀ h',h.le h' → Q (.int .i64 (xe p i)) h'):CallW Tryz.prog 76 [ptr q,.int .i64 i] h Q:=by
 have hilt:=(List.getElem?_eq_some_iff.1 hi).1
 obtain ⟨own0,gq⟩:=hc.get
 obtain ⟨w,sl,hw⟩:=hc.ht.take (i:=i) (by omega)
 obtain ⟨id,off,cells,own,u,e1,e2,e3,hb⟩:=hc.ht.elem hi
 have st:zr 6 (h.alloc (.blk [.string ⟨#[]⟩,.bool false,.int .i64 0,.int .i64 0,.int .i64 0,.slice none 0 0] true)) [.pointer (some ⟨h.next,0,none⟩),tsV tk.name tk.handler tk.hart tk.prio tk.line u]=some (undef,h.alloc (.blk (tsL tk u) true)):=by
  obtain ⟨_,hu1,_⟩:=hb
  exact st_T h _ _ _ _ _ (SlV.isS hu1)
 have gpx:=Heap.get_alloc_same h (.blk (tsL tk u) true)
 have lh1:=(Heap.le.refl h).alloc (.blk (tsL tk u) true)
 obtain ⟨px,epx⟩:∃ x_,h.next=x_:=⟨_,rfl⟩
 obtain ⟨h1,eh1⟩:∃ x_,h.alloc (.blk (tsL tk u) true)=x_:=⟨_,rfl⟩
 rw [eh1] at gpx lh1
 rw [epx] at gpx
 rw [eh1,epx] at st
 have hc1:=hc.mono lh1.v
 have hw1:=hw.monoB lh1.v.b
 have gq1:=lh1.get gq
 have hp:xe p i=if p.harts≤tk.hart then 81 else if !tk.handler && (p.tasks.take i).any (hd1 tk) then 81 else if !tk.handler then 0 else if (p.tasks.take i).any (hd2 tk) then 82 else if p.tasks.any (hd3 tk) then 83 else 0:=by unfold xe;rw [hi]
 rw [hp] at hq
 clear hp hc hw hb
 obtain ⟨xs1,hw1a,hw1b,hw1c⟩:=hw1
 have hlenw:=hw1c.length
 obtain ⟨xs2,hw2a,hw2b,hw2c⟩:=hc1.ht
 have hlen2:=hw2c.length
 have hget:∀ (h2:Heap),h1.le h2→h2.get px=some (.blk (tsL tk u) true):=fun _ hl=>hl.get gpx
 have any1:∀ (g:Tsk→Bool) (fv:Value),(∀ (x:Tsk) xs h2 (Q:Value→Heap→Prop),h1.le h2→TsC h2 x xs→(∀ v h',v = .bool (g x)→h2.le h' → Q v h')→ValW Tryz.prog fv [.agg xs.toArray] h2 Q) → ∀ Q:Value→Heap→Prop,(∀ v h',v = .bool ((p.tasks.take i).any g)→h1.le h' → Q v h')→CallW Tryz.prog 73 [w,fv] h1 Q:=fun g fv hf Q hq =>
  qy hw1a (by rw [hlenw]) (by rw [← hlenw];exact hw1b) (fun j e x he hx h2 Q hl hq2=>by
   obtain ⟨x',hx',hT⟩:=hw1c.get j e he
   rw [hx] at hx';cases hx'
   exact hf e x h2 Q hl (hT.mono hl) hq2) Q hq
 have any2:∀ (g:Tsk→Bool) (fv:Value) (h2:Heap),h1.le h2→(∀ (x:Tsk) xs h3 (Q:Value→Heap→Prop),h2.le h3→TsC h3 x xs→(∀ v h',v = .bool (g x)→h3.le h' → Q v h')→ValW Tryz.prog fv [.agg xs.toArray] h3 Q) → ∀ Q:Value→Heap→Prop,(∀ v h',v = .bool (p.tasks.any g)→h2.le h' → Q v h')→CallW Tryz.prog 73 [t,fv] h2 Q:=fun g fv h2 hl2 hf Q hq =>
  qy (hw2a.mono hl2) (by rw [hlen2]) (by rw [← hlen2];exact hw2b) (fun j e x he hx h3 Q hl hq2=>by
   obtain ⟨x',hx',hT⟩:=hw2c.get j e he
   rw [hx] at hx';cases hx'
   exact hf e x h3 Q hl (hT.mono (hl2.trans hl)) hq2) Q hq
 have any1' : ∀ (g:Tsk→Bool) (fv:Value) (h2:Heap),h1.le h2→(∀ (x:Tsk) xs h3 (Q:Value→Heap→Prop),h2.le h3→TsC h3 x xs→(∀ v h',v = .bool (g x)→h3.le h' → Q v h')→ValW Tryz.prog fv [.agg xs.toArray] h3 Q) → ∀ Q:Value→Heap→Prop,(∀ v h',v = .bool ((p.tasks.take i).any g)→h2.le h' → Q v h')→CallW Tryz.prog 73 [w,fv] h2 Q:=fun g fv h2 hl2 hf Q hq =>
  qy (hw1a.mono hl2) (by rw [hlenw]) (by rw [← hlenw];exact hw1b) (fun j e x he hx h3 Q hl hq2=>by
   obtain ⟨x',hx',hT⟩:=hw1c.get j e he
   rw [hx] at hx';cases hx'
   exact hf e x h3 Q hl (hT.mono (hl2.trans hl)) hq2) Q hq
 clear any1 hw1a hw1b hw1c hw2a hw2b hw2c hlenw hlen2 hi hilt
 replace hc1:=Hid.mk hc1;replace lh1:=Hid.mk lh1;replace any2:=Hid.mk any2;replace any1':=Hid.mk any1';replace hget:=Hid.mk hget
 refine zk (k:=2) ok76 rfl rfl rfl fun N=>?_
 rw [show ym c76 [ptr q,.int .i64 i]=[ptr q,.int .i64 i,undef,undef,undef,undef] from rfl]
 delta c76 c76_r0 c76_r1 c76_r2 c76_r3 c76_r4 c76_r5 c76_r6 c76_r7 c76_r8 c76_r9 qc6 qc5 qc4
 replace hq:=Hid.mk hq
 by_cases ch:p.harts≤tk.hart
 case pos =>
  have g:=hq.h h1 lh1.h
  rw [if_pos ch] at g
  clear hq
  replace g:=Hid.mk g
  repeat' (first|simp -implicitDefEqProofs only [ze,aR,aW,zf,zg,Int.reduceBEq,Int.reduceBNe,Nat.reduceBEq,Int.reduceLT,Int.reduceLE,yk, *]|with_reducible (first|apply kcd|apply kgd|apply kci|apply kgi)<;>intro hc)
  exact g.h
 case neg =>
 obtain ⟨hb,hbe⟩:∃ b,tk.handler=b:=⟨_,rfl⟩
 unfold tsL at gpx eh1
 rw [hbe] at gpx eh1 st e3
 replace hbe:=Hid.mk hbe
 cases hb with
 | false =>
  repeat' (first|simp -implicitDefEqProofs only [ze,aR,aW,zf,zg,Int.reduceBEq,Int.reduceBNe,Nat.reduceBEq,Int.reduceLT,Int.reduceLE,yk, *]|with_reducible (first|apply kcd|apply kgd|apply kci|apply kgi)<;>intro hc)
  refine any1'.h (hd1 tk) _ h1 (Heap.le.refl _) (fun x xs h3 Q hl hT hq2=>?_) _ fun v h2 hv l2=>?_
  ·exact CallW.val (hd1_c (hget.h _ hl) hT Q hq2)
  ·subst hv
   have g:=hq.h h2 (lh1.h.trans l2)
   rw [if_neg ch,hbe.h] at g
   have gp2:=l2.get gpx
   clear hq
   cases ha:(p.tasks.take i).any (hd1 tk) with
   | true =>
    rw [ha] at g
    simp only [Bool.not_false,Bool.and_self,if_true] at g
    replace g:=Hid.mk g
    repeat' (first|simp -implicitDefEqProofs only [ze,aR,aW,zf,zg,Int.reduceBEq,Int.reduceBNe,Nat.reduceBEq,Int.reduceLT,Int.reduceLE,yk, *]|with_reducible (first|apply kcd|apply kgd|apply kci|apply kgi)<;>intro hc)
    exact g.h
   | false =>
    rw [ha] at g
    simp only [Bool.not_false,Bool.and_false,Bool.false_eq_true,if_false,if_true] at g
    replace g:=Hid.mk g
    repeat' (first|simp -implicitDefEqProofs only [ze,aR,aW,zf,zg,Int.reduceBEq,Int.reduceBNe,Nat.reduceBEq,Int.reduceLT,Int.reduceLE,yk, *]|with_reducible (first|apply kcd|apply kgd|apply kci|apply kgi)<;>intro hc)
    exact g.h
 | true =>
  repeat' (first|simp -implicitDefEqProofs only [ze,aR,aW,zf,zg,Int.reduceBEq,Int.reduceBNe,Nat.reduceBEq,Int.reduceLT,Int.reduceLE,yk, *]|with_reducible (first|apply kcd|apply kgd|apply kci|apply kgi)<;>intro hc)
  refine any1'.h (hd2 tk) _ h1 (Heap.le.refl _) (fun x xs h3 Q hl hT hq2=>?_) _ fun v h2 hv l2=>?_
  ·exact CallW.val (hd2_c (hget.h _ hl) hT Q hq2)
  ·subst hv
   have gp2:=l2.get gpx
   have gq2:=l2.get gq1
   cases ha:(p.tasks.take i).any (hd2 tk) with
   | true =>
    have g:=hq.h h2 (lh1.h.trans l2)
    rw [if_neg ch,hbe.h,ha] at g
    simp only [Bool.not_true,Bool.false_and,Bool.false_eq_true,if_false,if_true] at g
    clear hq
    replace g:=Hid.mk g
    repeat' (first|simp -implicitDefEqProofs only [ze,aR,aW,zf,zg,Int.reduceBEq,Int.reduceBNe,Nat.reduceBEq,Int.reduceLT,Int.reduceLE,yk, *]|with_reducible (first|apply kcd|apply kgd|apply kci|apply kgi)<;>intro hc)
    exact g.h
   | false =>
    replace l2:=Hid.mk l2
    repeat' (first|simp -implicitDefEqProofs only [ze,aR,aW,zf,zg,Int.reduceBEq,Int.reduceBNe,Nat.reduceBEq,Int.reduceLT,Int.reduceLE,yk, *]|with_reducible (first|apply kcd|apply kgd|apply kci|apply kgi)<;>intro hc)
    refine any2.h (hd3 tk) _ h2 l2.h (fun x xs h3 Q hl hT hq2=>?_) _ fun v h3 hv l3=>?_
    ·exact CallW.val (hd3_c (hget.h _ (l2.h.trans hl)) hT Q hq2)
    ·subst hv
     have g:=hq.h h3 (lh1.h.trans (l2.h.trans l3))
     rw [if_neg ch,hbe.h,ha] at g
     clear hq
     cases hc3:p.tasks.any (hd3 tk) with
     | true =>
      rw [hc3] at g
      simp only [Bool.not_true,Bool.false_and,Bool.false_eq_true,if_false,if_true] at g
      replace g:=Hid.mk g
      repeat' (first|simp -implicitDefEqProofs only [ze,aR,aW,zf,zg,Int.reduceBEq,Int.reduceBNe,Nat.reduceBEq,Int.reduceLT,Int.reduceLE,yk, *]|with_reducible (first|apply kcd|apply kgd|apply kci|apply kgi)<;>intro hc)
      exact g.h
     | false =>
      rw [hc3] at g
      simp only [Bool.not_true,Bool.false_and,Bool.false_eq_true,if_false,if_true] at g
      replace g:=Hid.mk g
      repeat' (first|simp -implicitDefEqProofs only [ze,aR,aW,zf,zg,Int.reduceBEq,Int.reduceBNe,Nat.reduceBEq,Int.reduceLT,Int.reduceLE,yk, *]|with_reducible (first|apply kcd|apply kgd|apply kci|apply kgi)<;>intro hc)
      exact g.h
end Go.Eng.Sy
namespace Go.Eng.Sy
open Go Go.Eng Go.Proofs
end Go.Eng.Sy
namespace Go.Eng
open Go
theorem Heap.leBut.b {h h' : Heap}{mid:Nat}{es:List (Value × Value)}{own:Bool}(hl:h.leBut mid h') (gm:h.get mid=some (.map es own)):h.leB h':=fun id cells o hg=>by
 have:id≠mid:=by rintro rfl;rw [gm] at hg;cases hg
 rw [hl.get id this (by rw [hg];rfl)];exact hg
end Go.Eng
namespace Go.Eng.Sy
open Go Go.Eng Go.Proofs
theorem NmsV.elem {h:Heap}{v:Value}{l:List Nm}(hv:NmsV h v l){i:Nat}{e:Nm}(hi:l[i]? = some e) :
  ∃ id off cells own,zp 2 [v,.int .i64 i]=some (.pointer (some ⟨id,off,none⟩))∧h.get id=some (.blk cells own)∧qz true off 2 cells=some (nmV e.name e.n):=by
 obtain ⟨id,off,cells,own,g1,g2,g3,_⟩:=hv.1.elem (i:=i) (x:=[str e.name,.int .i64 e.n]) (by simp [hi])
 exact ⟨id,off,cells,own,g1,g2,g3⟩
set_option maxHeartbeats 1000000 in
theorem colD_w {q mid:Nat}{p:Prg}{d r t:Value}{hS:Heap}{es:List (Value × Value)}{nm:List (List UInt8)}{own:Bool}(gq:hS.get q=some (.blk [.int .i64 p.harts,d,r,t,.map (some mid)] own)) (hd:NmsV hS d p.devs) (gm:hS.get mid=some (.map es true)) (ht:TkM es nm) (hb:nm.length + p.devs.length≤100000) (hs:∀ e ∈ p.devs,e.name.length≤1000)
  {N:Nat}{vars:List Nat}{x2 x3 x4 x5 x6 x7 x8 x9 x10 x11 x12 x13 x14 x15 x16:Value}(R:AExit→List Value→Heap→Prop)
  (hq:∀ h' es' x2 x7 x8,hS.leBut mid h' → h'.get mid=some (.map es' true)→TkM es' (nm++p.devs.map (·.name))→R (.exit 0) [ptr q,.bool false,x2,x3,x4,d,.int .i64 p.devs.length,x7,x8,x9,x10,x11,x12,x13,x14,x15,x16] h') :
  LoopW Tryz.prog N vars qc7 [ptr q,.bool false,x2,x3,x4,d,.int .i64 p.devs.length,.int .i64 0,x8,x9,x10,x11,x12,x13,x14,x15,x16] hS R:=by
 replace hq:=Hid.mk hq;replace hs:=Hid.mk hs;replace hb:=Hid.mk hb
 refine LoopW.upto p.devs.length (fun i e h1=>hS.leBut mid h1∧(∃ es',h1.get mid=some (.map es' true)∧TkM es' (nm++(p.devs.take i).map (·.name))) ∧ ∃ x2 x8,e=[ptr q,.bool false,x2,x3,x4,d,.int .i64 p.devs.length,.int .i64 i,x8,x9,x10,x11,x12,x13,x14,x15,x16]) ?_ (Nat.zero_le _) ⟨Heap.leBut.refl _ _,⟨es,gm,by simpa using ht⟩,_,_,rfl⟩
 clear ht
 rintro i _ h1 R1 hi ⟨hl,⟨es1,gm1,ht1⟩,x2,x8,rfl⟩ hR
 delta qc7 zh2 zh1 zh0 zg9 zg8 zg7 zg6 zg5 zg4 K2 K1 K0 Kz Ky Kx Kw Kv
 by_cases hlt:i < p.devs.length
 case neg =>
  have hlt' : ¬ (i:Int) < p.devs.length:=by omega
  rw [List.take_of_length_le (by omega)] at ht1
  have g:=fun a b c=>hq.h h1 es1 a b c hl gm1 ht1
  replace g:=Hid.mk g;replace hl:=Hid.mk hl;replace ht1:=Hid.mk ht1
  repeat' (first|simp -implicitDefEqProofs only [ze,aR,aW,zf,zg,Int.reduceBEq,Int.reduceBNe,Nat.reduceBEq,Int.reduceLT,Int.reduceLE, *]|with_reducible (first|apply kcd|apply kgd|apply kci|apply kgi)<;>intro hc)
  exact g.h _ _ _
 case pos =>
  have hlt' : (i:Int) < p.devs.length:=by omega
  have hw:IntKind.i64.wrap ((i:Int) + 1)=((i + 1:Nat):Int):=by rw [zt (by omega) (by have:=hb.h;omega)];rfl
  obtain ⟨e,he⟩:∃ e,p.devs[i]? = some e:=⟨_,List.getElem?_eq_getElem hlt⟩
  have hsl:=hs.h e (List.mem_of_getElem? he)
  have hb1:=hl.b gm
  have gq1:=hb1 _ _ _ gq
  obtain ⟨id,off,cells,own1,e1,e2,e3⟩:=(hd.monoB hb1).elem he
  have st:zr 2 (h1.alloc (.blk [.string ⟨#[]⟩,.int .i64 0] true)) [.pointer (some ⟨h1.next,0,none⟩),nmV e.name e.n]=some (undef,h1.alloc (.blk [str e.name,.int .i64 e.n] true)):=zy rfl rfl rfl rfl
  have gpx:=Heap.get_alloc_same h1 (.blk [str e.name,.int .i64 e.n] true)
  have lh2:=(Heap.le.refl h1).alloc (.blk [str e.name,.int .i64 e.n] true)
  obtain ⟨px,epx⟩:∃ x_,h1.next=x_:=⟨_,rfl⟩
  obtain ⟨h2,eh2⟩:∃ x_,h1.alloc (.blk [str e.name,.int .i64 e.n] true)=x_:=⟨_,rfl⟩
  rw [eh2] at gpx lh2
  rw [epx] at gpx
  rw [eh2,epx] at st
  have gm2:=lh2.get gm1
  have gq2:=lh2.get gq1
  obtain ⟨z,hz,_,hz0,hz1⟩:=ht1.look hsl gm2
  obtain ⟨es2,hput,ht2⟩:=ht1.put hsl gm2 hz
  have hwz:IntKind.i64.wrap (z + 1)=z + 1:=by
   have h1:=hb.h
   rw [List.length_append,List.length_map,List.length_take] at hz1
   rw [zt (by omega) (by omega)]
  have hl2:hS.leBut mid (h2.set mid (.map es2 true)):=(hl.trans (lh2.but mid)).trans (Heap.leBut.set _ _ _)
  have gm3:(h2.set mid (.map es2 true)).get mid=some (.map es2 true):=Heap.set_getS _ _ _ (by rw [gm2];rfl)
  obtain ⟨h3,eh3⟩:∃ x,h2.set mid (.map es2 true)=x:=⟨_,rfl⟩
  rw [eh3] at hl2 gm3 hput
  have ht3:TkM es2 (nm++(p.devs.take (i + 1)).map (·.name)):=by
   rw [List.take_add_one,he]
   simpa using ht2
  clear ht1 ht2 eh3 hz0 hz1 hsl
  replace hl:=Hid.mk hl;replace hl2:=Hid.mk hl2;replace ht3:=Hid.mk ht3;replace hb1:=Hid.mk hb1;replace lh2:=Hid.mk lh2;replace gm:=Hid.mk gm;replace gq:=Hid.mk gq;replace he:=Hid.mk he
  repeat' (first|simp -implicitDefEqProofs only [ze,aR,aW,zf,zg,Int.reduceBEq,Int.reduceBNe,Nat.reduceBEq,Int.reduceLT,Int.reduceLE,zw, *]|with_reducible (first|apply kcd|apply kgd|apply kci|apply kgi)<;>intro hc)
  exact hR.h _ _ hlt ⟨hl2.h,⟨es2,gm3,ht3.h⟩,_,_,rfl⟩
set_option maxHeartbeats 1000000 in
theorem colR_w {q mid:Nat}{p:Prg}{d r t:Value}{hS:Heap}{es:List (Value × Value)}{nm:List (List UInt8)}{own:Bool}(gq:hS.get q=some (.blk [.int .i64 p.harts,d,r,t,.map (some mid)] own)) (hd:NmsV hS r p.ress) (gm:hS.get mid=some (.map es true)) (ht:TkM es nm) (hb:nm.length + p.ress.length≤100000) (hs:∀ e ∈ p.ress,e.name.length≤1000)
  {N:Nat}{vars:List Nat}{x2 x3 x4 x5 x6 x7 x8 x9 x10 x11 x12 x13 x14 x15 x16:Value}(R:AExit→List Value→Heap→Prop)
  (hq:∀ h' es' x3 x11 x12,hS.leBut mid h' → h'.get mid=some (.map es' true)→TkM es' (nm++p.ress.map (·.name))→R (.exit 2) [ptr q,.bool false,x2,x3,x4,x5,x6,x7,x8,r,.int .i64 p.ress.length,x11,x12,x13,x14,x15,x16] h') :
  LoopW Tryz.prog N vars zl6 [ptr q,.bool false,x2,x3,x4,x5,x6,x7,x8,r,.int .i64 p.ress.length,.int .i64 0,x12,x13,x14,x15,x16] hS R:=by
 replace hq:=Hid.mk hq;replace hs:=Hid.mk hs;replace hb:=Hid.mk hb
 refine LoopW.upto p.ress.length (fun i e h1=>hS.leBut mid h1∧(∃ es',h1.get mid=some (.map es' true)∧TkM es' (nm++(p.ress.take i).map (·.name))) ∧ ∃ x3 x12,e=[ptr q,.bool false,x2,x3,x4,x5,x6,x7,x8,r,.int .i64 p.ress.length,.int .i64 i,x12,x13,x14,x15,x16]) ?_ (Nat.zero_le _) ⟨Heap.leBut.refl _ _,⟨es,gm,by simpa using ht⟩,_,_,rfl⟩
 clear ht
 rintro i _ h1 R1 hi ⟨hl,⟨es1,gm1,ht1⟩,x3,x12,rfl⟩ hR
 delta zl6 zh2 zh1 zh0 zg9 zg8 zg7 zg6 zg5 zg4 K2 K1 K0 Kz Ky Kx Kw Kv
 by_cases hlt:i < p.ress.length
 case neg =>
  have hlt' : ¬ (i:Int) < p.ress.length:=by omega
  rw [List.take_of_length_le (by omega)] at ht1
  have g:=fun a b c=>hq.h h1 es1 a b c hl gm1 ht1
  replace g:=Hid.mk g;replace hl:=Hid.mk hl;replace ht1:=Hid.mk ht1
  repeat' (first|simp -implicitDefEqProofs only [ze,aR,aW,zf,zg,Int.reduceBEq,Int.reduceBNe,Nat.reduceBEq,Int.reduceLT,Int.reduceLE, *]|with_reducible (first|apply kcd|apply kgd|apply kci|apply kgi)<;>intro hc)
  exact g.h _ _ _
 case pos =>
  have hlt' : (i:Int) < p.ress.length:=by omega
  have hw:IntKind.i64.wrap ((i:Int) + 1)=((i + 1:Nat):Int):=by rw [zt (by omega) (by have:=hb.h;omega)];rfl
  obtain ⟨e,he⟩:∃ e,p.ress[i]? = some e:=⟨_,List.getElem?_eq_getElem hlt⟩
  have hsl:=hs.h e (List.mem_of_getElem? he)
  have hb1:=hl.b gm
  have gq1:=hb1 _ _ _ gq
  obtain ⟨id,off,cells,own1,e1,e2,e3⟩:=(hd.monoB hb1).elem he
  have st:zr 2 (h1.alloc (.blk [.string ⟨#[]⟩,.int .i64 0] true)) [.pointer (some ⟨h1.next,0,none⟩),nmV e.name e.n]=some (undef,h1.alloc (.blk [str e.name,.int .i64 e.n] true)):=zy rfl rfl rfl rfl
  have gpx:=Heap.get_alloc_same h1 (.blk [str e.name,.int .i64 e.n] true)
  have lh2:=(Heap.le.refl h1).alloc (.blk [str e.name,.int .i64 e.n] true)
  obtain ⟨px,epx⟩:∃ x_,h1.next=x_:=⟨_,rfl⟩
  obtain ⟨h2,eh2⟩:∃ x_,h1.alloc (.blk [str e.name,.int .i64 e.n] true)=x_:=⟨_,rfl⟩
  rw [eh2] at gpx lh2
  rw [epx] at gpx
  rw [eh2,epx] at st
  have gm2:=lh2.get gm1
  have gq2:=lh2.get gq1
  obtain ⟨z,hz,_,hz0,hz1⟩:=ht1.look hsl gm2
  obtain ⟨es2,hput,ht2⟩:=ht1.put hsl gm2 hz
  have hwz:IntKind.i64.wrap (z + 1)=z + 1:=by
   have h1:=hb.h
   rw [List.length_append,List.length_map,List.length_take] at hz1
   rw [zt (by omega) (by omega)]
  have hl2:hS.leBut mid (h2.set mid (.map es2 true)):=(hl.trans (lh2.but mid)).trans (Heap.leBut.set _ _ _)
  have gm3:(h2.set mid (.map es2 true)).get mid=some (.map es2 true):=Heap.set_getS _ _ _ (by rw [gm2];rfl)
  obtain ⟨h3,eh3⟩:∃ x,h2.set mid (.map es2 true)=x:=⟨_,rfl⟩
  rw [eh3] at hl2 gm3 hput
  have ht3:TkM es2 (nm++(p.ress.take (i + 1)).map (·.name)):=by
   rw [List.take_add_one,he]
   simpa using ht2
  clear ht1 ht2 eh3 hz0 hz1 hsl
  replace hl:=Hid.mk hl;replace hl2:=Hid.mk hl2;replace ht3:=Hid.mk ht3;replace hb1:=Hid.mk hb1;replace lh2:=Hid.mk lh2;replace gm:=Hid.mk gm;replace gq:=Hid.mk gq;replace he:=Hid.mk he
  repeat' (first|simp -implicitDefEqProofs only [ze,aR,aW,zf,zg,Int.reduceBEq,Int.reduceBNe,Nat.reduceBEq,Int.reduceLT,Int.reduceLE,zw, *]|with_reducible (first|apply kcd|apply kgd|apply kci|apply kgi)<;>intro hc)
  exact hR.h _ _ hlt ⟨hl2.h,⟨es2,gm3,ht3.h⟩,_,_,rfl⟩
set_option maxHeartbeats 1000000 in
theorem colT_w {q mid:Nat}{p:Prg}{d r t:Value}{hS:Heap}{es:List (Value × Value)}{nm:List (List UInt8)}{own:Bool}(gq:hS.get q=some (.blk [.int .i64 p.harts,d,r,t,.map (some mid)] own)) (hd:TssV hS t p.tasks) (gm:hS.get mid=some (.map es true)) (ht:TkM es nm) (hb:nm.length + p.tasks.length≤100000) (hs:∀ e ∈ p.tasks,e.name.length≤1000)
  {N:Nat}{vars:List Nat}{x2 x3 x4 x5 x6 x7 x8 x9 x10 x11 x12 x13 x14 x15 x16:Value}(R:AExit→List Value→Heap→Prop)
  (hq:∀ h' es' x4 x15 x16,hS.leBut mid h' → h'.get mid=some (.map es' true)→TkM es' (nm++p.tasks.map (·.name))→R (.exit 4) [ptr q,.bool false,x2,x3,x4,x5,x6,x7,x8,x9,x10,x11,x12,t,.int .i64 p.tasks.length,x15,x16] h') :
  LoopW Tryz.prog N vars zl5 [ptr q,.bool false,x2,x3,x4,x5,x6,x7,x8,x9,x10,x11,x12,t,.int .i64 p.tasks.length,.int .i64 0,x16] hS R:=by
 replace hq:=Hid.mk hq;replace hs:=Hid.mk hs;replace hb:=Hid.mk hb
 refine LoopW.upto p.tasks.length (fun i e h1=>hS.leBut mid h1∧(∃ es',h1.get mid=some (.map es' true)∧TkM es' (nm++(p.tasks.take i).map (·.name))) ∧ ∃ x4 x16,e=[ptr q,.bool false,x2,x3,x4,x5,x6,x7,x8,x9,x10,x11,x12,t,.int .i64 p.tasks.length,.int .i64 i,x16]) ?_ (Nat.zero_le _) ⟨Heap.leBut.refl _ _,⟨es,gm,by simpa using ht⟩,_,_,rfl⟩
 clear ht
 rintro i _ h1 R1 hi ⟨hl,⟨es1,gm1,ht1⟩,x4,x16,rfl⟩ hR
 delta zl5 zh2 zh1 zh0 zg9 zg8 zg7 zg6 zg5 zg4 K2 K1 K0 Kz Ky Kx Kw Kv
 by_cases hlt:i < p.tasks.length
 case neg =>
  have hlt' : ¬ (i:Int) < p.tasks.length:=by omega
  rw [List.take_of_length_le (by omega)] at ht1
  have g:=fun a b c=>hq.h h1 es1 a b c hl gm1 ht1
  replace g:=Hid.mk g;replace hl:=Hid.mk hl;replace ht1:=Hid.mk ht1
  repeat' (first|simp -implicitDefEqProofs only [ze,aR,aW,zf,zg,Int.reduceBEq,Int.reduceBNe,Nat.reduceBEq,Int.reduceLT,Int.reduceLE, *]|with_reducible (first|apply kcd|apply kgd|apply kci|apply kgi)<;>intro hc)
  exact g.h _ _ _
 case pos =>
  have hlt' : (i:Int) < p.tasks.length:=by omega
  have hw:IntKind.i64.wrap ((i:Int) + 1)=((i + 1:Nat):Int):=by rw [zt (by omega) (by have:=hb.h;omega)];rfl
  obtain ⟨e,he⟩:∃ e,p.tasks[i]? = some e:=⟨_,List.getElem?_eq_getElem hlt⟩
  have hsl:=hs.h e (List.mem_of_getElem? he)
  have hb1:=hl.b gm
  have gq1:=hb1 _ _ _ gq
  obtain ⟨id,off,cells,own1,u,e1,e2,e3,hbody⟩:=(hd.monoB hb1).elem he
  have st:zr 6 (h1.alloc (.blk [.string ⟨#[]⟩,.bool false,.int .i64 0,.int .i64 0,.int .i64 0,.slice none 0 0] true)) [.pointer (some ⟨h1.next,0,none⟩),tsV e.name e.handler e.hart e.prio e.line u]=some (undef,h1.alloc (.blk [str e.name,.bool e.handler,.int .i64 e.hart,.int .i64 e.prio,.int .i64 e.line,u] true)):=by
   obtain ⟨_,hu1,_⟩:=hbody
   exact st_T h1 _ _ _ _ _ (SlV.isS hu1)
  have gpx:=Heap.get_alloc_same h1 (.blk [str e.name,.bool e.handler,.int .i64 e.hart,.int .i64 e.prio,.int .i64 e.line,u] true)
  have lh2:=(Heap.le.refl h1).alloc (.blk [str e.name,.bool e.handler,.int .i64 e.hart,.int .i64 e.prio,.int .i64 e.line,u] true)
  obtain ⟨px,epx⟩:∃ x_,h1.next=x_:=⟨_,rfl⟩
  obtain ⟨h2,eh2⟩:∃ x_,h1.alloc (.blk [str e.name,.bool e.handler,.int .i64 e.hart,.int .i64 e.prio,.int .i64 e.line,u] true)=x_:=⟨_,rfl⟩
  rw [eh2] at gpx lh2
  rw [epx] at gpx
  rw [eh2,epx] at st
  have gm2:=lh2.get gm1
  have gq2:=lh2.get gq1
  obtain ⟨z,hz,_,hz0,hz1⟩:=ht1.look hsl gm2
  obtain ⟨es2,hput,ht2⟩:=ht1.put hsl gm2 hz
  have hwz:IntKind.i64.wrap (z + 1)=z + 1:=by
   have h1:=hb.h
   rw [List.length_append,List.length_map,List.length_take] at hz1
   rw [zt (by omega) (by omega)]
  have hl2:hS.leBut mid (h2.set mid (.map es2 true)):=(hl.trans (lh2.but mid)).trans (Heap.leBut.set _ _ _)
  have gm3:(h2.set mid (.map es2 true)).get mid=some (.map es2 true):=Heap.set_getS _ _ _ (by rw [gm2];rfl)
  obtain ⟨h3,eh3⟩:∃ x,h2.set mid (.map es2 true)=x:=⟨_,rfl⟩
  rw [eh3] at hl2 gm3 hput
  have ht3:TkM es2 (nm++(p.tasks.take (i + 1)).map (·.name)):=by
   rw [List.take_add_one,he]
   simpa using ht2
  clear ht1 ht2 eh3 hz0 hz1 hsl
  replace hl:=Hid.mk hl;replace hl2:=Hid.mk hl2;replace ht3:=Hid.mk ht3;replace hb1:=Hid.mk hb1;replace lh2:=Hid.mk lh2;replace gm:=Hid.mk gm;replace gq:=Hid.mk gq;replace he:=Hid.mk he
  repeat' (first|simp -implicitDefEqProofs only [ze,aR,aW,zf,zg,Int.reduceBEq,Int.reduceBNe,Nat.reduceBEq,Int.reduceLT,Int.reduceLE,yk, *]|with_reducible (first|apply kcd|apply kgd|apply kci|apply kgi)<;>intro hc)
  exact hR.h _ _ hlt ⟨hl2.h,⟨es2,gm3,ht3.h⟩,_,_,rfl⟩
end Go.Eng.Sy
namespace Go.Eng.Sy
open Go Go.Eng Go.Proofs
def zx (p:Prg):List (List UInt8):=p.devs.map (·.name)++p.ress.map (·.name)++p.tasks.map (·.name)
set_option maxHeartbeats 1000000 in
theorem yz4 {h:Heap}{q mid:Nat}{p:Prg}{d r t:Value}{own:Bool}(gq:h.get q=some (.blk [.int .i64 p.harts,d,r,t,.map (some mid)] own)) (hd:NmsV h d p.devs) (hr:NmsV h r p.ress) (ht:TssV h t p.tasks) (gm:h.get mid=some (.map [] true))
  (hs:∀ s ∈ zx p,s.length≤1000) (hb:(zx p).length≤1000) (Q:Value→Heap→Prop)
  (hq:∀ h',h.leBut mid h' → Ck h' q p (zx p) d r t mid→Q (.bool (decide (zx p).Nodup)) h'):CallW Tryz.prog 75 [ptr q] h Q:=by
 have hbl:p.devs.length + p.ress.length + p.tasks.length≤1000:=by have:=hb;unfold zx at this;simpa [List.length_append,Nat.add_assoc] using this
 have s1:∀ e ∈ p.devs,e.name.length≤1000:=fun e he=>hs _ (by unfold zx;simp only [List.mem_append,List.mem_map];exact .inl (.inl ⟨e,he,rfl⟩))
 have s2:∀ e ∈ p.ress,e.name.length≤1000:=fun e he=>hs _ (by unfold zx;simp only [List.mem_append,List.mem_map];exact .inl (.inr ⟨e,he,rfl⟩))
 have s3:∀ e ∈ p.tasks,e.name.length≤1000:=fun e he=>hs _ (by unfold zx;simp only [List.mem_append,List.mem_map];exact .inr ⟨e,he,rfl⟩)
 have ld:=hd.len
 have lr:=hr.len
 have lt:=ht.len
 clear hs hb
 replace hbl:=Hid.mk hbl;replace s1:=Hid.mk s1;replace s2:=Hid.mk s2;replace s3:=Hid.mk s3;replace hd:=Hid.mk hd;replace hr:=Hid.mk hr;replace ht:=Hid.mk ht
 refine zk (k:=1) ok75 rfl rfl rfl fun N=>?_
 rw [show ym c75 [ptr q]=[ptr q,undef,undef,undef,undef,undef,undef,undef,undef,undef,undef,undef,undef,undef,undef,undef,undef] from rfl]
 delta c75 zh2 zh1 zh0 zg9 zg8 zg7 zg6 zg5 zg4 K2 K1 K0 Kz Ky Kx Kw Kv
 replace hq:=Hid.mk hq
 repeat' (first|simp -implicitDefEqProofs only [ze,aR,aW,zf,zg,Int.reduceBEq,Int.reduceBNe,Nat.reduceBEq,Int.reduceLT,Int.reduceLE, *]|with_reducible (first|apply kcd|apply kgd|apply kci|apply kgi)<;>intro hc)
 refine colD_w (x5:=undef) (x6:=undef) (x7:=undef) gq hd.h gm TkM.nil (by have:=hbl.h;simp;omega) s1.h _ fun h1 es1 x2 x7 x8 l1 g1 t1=>?_
 have b1:=l1.b gm
 have gq1:=b1 _ _ _ gq
 have hr1:=hr.h.monoB b1
 replace l1:=Hid.mk l1;replace t1:=Hid.mk t1;replace b1:=Hid.mk b1;replace hr1:=Hid.mk hr1
 repeat' (first|simp -implicitDefEqProofs only [ze,aR,aW,zf,zg,Int.reduceBEq,Int.reduceBNe,Nat.reduceBEq,Int.reduceLT,Int.reduceLE, *]|with_reducible (first|apply kcd|apply kgd|apply kci|apply kgi)<;>intro hc)
 refine colR_w (x9:=undef) (x10:=undef) (x11:=undef) gq1 hr1.h g1 t1.h (by have:=hbl.h;simp;omega) s2.h _ fun h2 es2 x3 x11 x12 l2 g2 t2=>?_
 have b2:=l2.b g1
 have gq2:=b2 _ _ _ gq1
 have ht2:=(ht.h.monoB b1.h).monoB b2
 replace l2:=Hid.mk l2;replace t2:=Hid.mk t2;replace b2:=Hid.mk b2;replace ht2:=Hid.mk ht2
 repeat' (first|simp -implicitDefEqProofs only [ze,aR,aW,zf,zg,Int.reduceBEq,Int.reduceBNe,Nat.reduceBEq,Int.reduceLT,Int.reduceLE, *]|with_reducible (first|apply kcd|apply kgd|apply kci|apply kgi)<;>intro hc)
 refine colT_w (x13:=undef) (x14:=undef) (x15:=undef) gq2 ht2.h g2 t2.h (by have:=hbl.h;simp;omega) s3.h _ fun h3 es3 x4 x15 x16 l3 g3 t3=>?_
 have b3:=l3.b g2
 have gq3:=b3 _ _ _ gq2
 have hN:[]++p.devs.map (·.name)++p.ress.map (·.name)++p.tasks.map (·.name)=zx p:=rfl
 rw [hN] at t3
 have hNl:(zx p).length=p.devs.length + p.ress.length + p.tasks.length:=by unfold zx;simp only [List.length_append,List.length_map]
 have hes:es3.length≤(zx p).length∧(es3.length=(zx p).length↔(zx p).Nodup):=by
  obtain ⟨l,rfl,_,_,_,e1,e2,_⟩:=t3
  rw [List.length_map];exact ⟨e1,e2⟩
 have lAll:=(l1.h.trans l2.h).trans l3
 have bAll:h.leB h3:=fun i c o hg=>b3 _ _ _ (b2.h _ _ _ (b1.h _ _ _ hg))
 have ck:Ck h3 q p (zx p) d r t mid:=⟨⟨own,gq3⟩,hd.h.monoB bAll,hr.h.monoB bAll,ht.h.monoB bAll,⟨es3,true,g3,t3⟩⟩
 have g:=hq.h h3 lAll ck
 rw [hNl] at hes
 have w1:IntKind.i64.wrap ((p.devs.length:Int) + (p.ress.length:Int))=((p.devs.length + p.ress.length:Nat):Int):=by have:=hbl.h;rw [zt (by omega) (by omega)];omega
 have w2:IntKind.i64.wrap (((p.devs.length + p.ress.length:Nat):Int) + (p.tasks.length:Int))=((p.devs.length + p.ress.length + p.tasks.length:Nat):Int):=by have:=hbl.h;rw [zt (by omega) (by omega)];omega
 have w3:((es3.length:Int) == ((p.devs.length + p.ress.length + p.tasks.length:Nat):Int))=decide (zx p).Nodup:=by
  rw [Bool.eq_iff_iff,beq_iff_eq,decide_eq_true_eq,← hes.2];omega
 rw [← w3] at g
 clear hN hNl hq w3
 replace l3:=Hid.mk l3;replace t3:=Hid.mk t3;replace b3:=Hid.mk b3;replace hes:=Hid.mk hes;replace lAll:=Hid.mk lAll;replace bAll:=Hid.mk bAll;replace ck:=Hid.mk ck;replace g:=Hid.mk g
 repeat' (first|simp -implicitDefEqProofs only [ze,aR,aW,zf,zg,Int.reduceBEq,Int.reduceBNe,Nat.reduceBEq,Int.reduceLT,Int.reduceLE, *]|with_reducible (first|apply kcd|apply kgd|apply kci|apply kgi)<;>intro hc)
 exact g.h
end Go.Eng.Sy
namespace Go.Eng
open Go
variable {P:Program}
theorem zj1 {N:Nat}{vars:List Nat}{g:Arg}{ps:List Nat}{ca cb:CCode}{Q:AExit→List Value→Heap→Prop}{e:List Value}{h:Heap}{f:FuncId}{first cap:Array Value}(hg:g.ev [] e=some (.func (.func f) first cap))
  (hnd:vars.Nodup) (hna:ca.noRange=true) (hnb:cb.noRange=true)
  (hc:∀ (lo:LoopState→Option Code→AObj) (L:Nat) (h1:Heap),(∀ st pd c w,lo st pd ≠ .blk c w)→h.next + 1=L→h.le h1→h1.get L=some (lo .ready none)→h1.next=h.next + 2 →
   (∀ (args:List Value) (hh hA:Heap) (T:AExit→Heap→Prop) (env1:List Value),hh.get L=some (lo .ready none)→hA.get L=some (lo .ready none)→ps.length=args.length→(∀ R:AExit→List Value→Heap→Prop,R .normal env1 hA→W P N vars ca R (Jq ps args e) hh) →
    (∀ R:AExit→List Value→Heap→Prop,Hid (∀ x eb hb,hb.get L=some (lo .busy none)→T x hb→R x eb hb)→W P N vars cb R env1 (hA.set L (lo .busy none))) →
    ValW P (.func (.yield L) #[] #[]) args hh fun v h'=>∃ x hb,T x hb∧hb.get L=some (lo .busy none)∧v = .bool (yq x).isNone∧h' = hb.set L (lo (if (yq x).isNone then .ready else .done) (yq x))) →
   CallW P f (first.toList++[.func (.yield L) #[] #[]]++cap.toList) h1 fun _ h2=>∃ x st,st ≠ .busy∧h2.get L=some (lo st (yq x))∧Q x e (h2.set L .dead)) :
  W P N vars (.range g ps ca cb) Q e h:=by
 refine range_w hg ?_
 refine CallW.mono (hc (fun st pd=>.loop e vars N (Qu P N vars ps ca cb) st pd) (h.next + 1) _ (fun _ _ _ _=>by simp) rfl (((Heap.le.refl h).alloc _).alloc _) (Heap.get_alloc_same (h.alloc .defd) _) rfl ?_) fun v h' _ ⟨x,st,h1,h2,h3⟩=>⟨st,x,h2,h1,h3⟩
 intro args hh hA T env1 hL hLA hlen hca hcb
 refine yield_w hL hnd hlen hna hnb (hca _ ⟨rfl,hLA,hcb _ ⟨fun x eb hb h1 h2=>⟨h1,x,hb,h2,h1,rfl,rfl⟩⟩⟩)
def retcc (k j n:Nat) (Q:Value→Heap→Prop):AExit→List Value→Heap→Prop
 | .exit _,_,_=>False
 | _,e,h=>∃ p q v a b o o',e[k]? = some (.pointer (some ⟨p,0,none⟩))∧e[j]? = some (.pointer (some ⟨q,0,none⟩))∧h.get p=some (.blk [v] o)∧h.get q=some (.blk [a,b] o')∧Q (.tuple #[v,.agg #[a,b]]) (h.sweep n)
theorem qa1 {f:FuncId}{cf:CFn}(hf:FnOk P f cf){args:List Value}{h:Heap}{Q:Value→Heap→Prop}{k j:Nat}(hnr:cf.body.noRange=false) (hr:cf.results=[.cell k false 1,.cell j true 2]) (hn:args.length=cf.nargs)
  (hb:∀ N,W P N cf.vars cf.body (retcc k j h.next Q) (ym cf args) h):CallW P f args h Q:=by
 refine uj hf hn fun N=>W.mono ?_ (hb N).sound
 intro x e h' hq
 have key:(∃ p q v a b o o',e[k]? = some (.pointer (some ⟨p,0,none⟩))∧e[j]? = some (.pointer (some ⟨q,0,none⟩))∧h'.get p=some (.blk [v] o)∧h'.get q=some (.blk [a,b] o')∧Q (.tuple #[v,.agg #[a,b]]) (h'.sweep h.next))→qu (yx e (fin cf.body.noRange h.next h') cf.results) fun vs=>Q (yf vs) (fin cf.body.noRange h.next h'):=by
  rintro ⟨p,q,v,a,b,o,o',he,hu,hp,hqq,hQ⟩
  rw [hnr,hr]
  have hp' : (h'.sweep h.next).get p=some (.blk [v] o):=Heap.sweep_blk hp (by simp)
  have hq' : (h'.sweep h.next).get q=some (.blk [a,b] o'):=Heap.sweep_blk hqq (by simp)
  have a1:aR (.load false 1) [.pointer (some ⟨p,0,none⟩)] (h'.sweep h.next).get=some v:=by simp [aR,hp',qz]
  have a2:aR (.load true 2) [.pointer (some ⟨q,0,none⟩)] (h'.sweep h.next).get=some (.agg #[a,b]):=by simp [aR,hq',qz]
  simpa [yx,ResArg.get,he,hu,a1,a2,qu,yf,fin] using hQ
 cases x with
 | exit i=>exact hq.elim
 | normal=>exact key hq
 | ret=>exact key hq
theorem Heap.leB.setX {h:Heap}{L:Nat}{o l:AObj}(hg:h.get L=some l) (hl:∀ c w,l ≠ .blk c w):h.leB (h.set L o):=fun i c w hi=>by
 have:i≠L:=by rintro rfl;rw [hg] at hi;exact hl _ _ (Option.some.inj hi)
 rw [Heap.get_set,if_neg (fun e=>this e.1)];exact hi
theorem Heap.leZ.base {z L:Nat}{h0 h1 h2:Heap}(hl:h0.le h1) (hz:h0.next≤z) (hL:h0.next≤L) (h:h1.leZ z L h2):h0.le h2:=⟨fun i o hi=>h.get i o (by have:=Heap.lt_of_get hi;omega) (by have:=Heap.lt_of_get hi;omega) (hl.get hi),Nat.le_trans hl.next h.next⟩
end Go.Eng
namespace Go.Eng.Sy
open Go Go.Eng Go.Proofs
theorem aBox_v {v:Value}(hv:v.oneCell' = true∧v.cells.toList=[v]):Ya [v]=some ([v],fun id=>.pointer (some ⟨id,0,none⟩)):=by
 simp [Ya,hv.1,hv.2]
theorem yr0 {h:Heap}{v vh:Value}(hv:v.oneCell' = true∧v.cells.toList=[v]) (hvh:vh.oneCell' = true∧vh.cells.toList=[vh]) (Q:Value→Heap→Prop) (hq:∀ h' a b,h.le h' → h.next≤a→h.next≤b→h'.get a=some (.blk [v] true)→h'.get b=some (.blk [vh] true)→Q (.func (.func 115) #[] #[ptr a,ptr b]) h'):CallW Tryz.prog 77 [v,vh] h Q:=by
 have b1:Ya [v]=some ([v],fun id=>.pointer (some ⟨id,0,none⟩)):=aBox_v hv
 have b2:Ya [vh]=some ([vh],fun id=>.pointer (some ⟨id,0,none⟩)):=aBox_v hvh
 have ga:=Heap.get_alloc_same h (.blk [v] true)
 have lh1:=(Heap.le.refl h).alloc (.blk [v] true)
 obtain ⟨a,ea⟩:∃ x_,h.next=x_:=⟨_,rfl⟩
 obtain ⟨h1,eh1⟩:∃ x_,h.alloc (.blk [v] true)=x_:=⟨_,rfl⟩
 rw [eh1] at ga lh1
 rw [ea] at ga
 have gb:=Heap.get_alloc_same h1 (.blk [vh] true)
 have lh2:=(Heap.le.refl h1).alloc (.blk [vh] true)
 obtain ⟨b,eb⟩:∃ x_,h1.next=x_:=⟨_,rfl⟩
 obtain ⟨h2,eh2⟩:∃ x_,h1.alloc (.blk [vh] true)=x_:=⟨_,rfl⟩
 rw [eh2] at gb lh2
 rw [eb] at gb
 have g:=hq h2 a b (lh1.trans lh2) (by omega) (by have:=lh1.next;omega) (lh2.get ga) gb
 clear hq
 have hq:=g
 refine zk (k:=4) ok77 rfl rfl rfl fun N=>?_
 rw [show ym c77 [v,vh]=[v,vh,undef,undef,undef] from rfl]
 delta c77 c77_r0 c77_r1
 replace hq:=Hid.mk hq
 repeat' (first|simp -implicitDefEqProofs only [ze,aR,aW,zf,zg,Int.reduceBEq,Int.reduceBNe,Nat.reduceBEq,Int.reduceLT,Int.reduceLE, *]|with_reducible (first|apply kcd|apply kgd|apply kci|apply kgi)<;>intro hc)
 try exact hq.h
end Go.Eng.Sy
namespace Go.Eng.Sy
open Go Go.Eng Go.Proofs
theorem pb2 (a b:Int):yl [.int .i64 0,.int .i64 0] [(0,1),(1,1)] [.int .i64 a,.int .i64 b]=some (.agg #[.int .i64 a,.int .i64 b]):=rfl
theorem pb0:yl [.int .i64 0,.int .i64 0] [] []=some (.agg #[.int .i64 0,.int .i64 0]):=rfl
abbrev i64 (z:Int):Value:=.int .i64 z
set_option maxHeartbeats 1000000 in
theorem heads_w {h0 h:Heap}{b1 b2 b3 b4 q mid:Nat}{p:Prg}{d r t:Value}{own:Bool}(hc:Ck h q p (zx p) d r t mid) (hl0:h0.le h) (n2:h0.next≤b2) (n3:h0.next≤b3) (n23:b2≠b3)
  (g2:h.get b2=some (.blk [.int .i64 0] true)) (g3:h.get b3=some (.blk [.int .i64 0,.int .i64 0] true)) (g4:h.get b4=some (.blk [ptr q] true)) (hlen:p.tasks.length≤1000)
  {N:Nat}{vars:List Nat}{x0 x5 x6 x7 x8 x9 x10 x11 x12 x15 x16 x17 x18 x19 x20 x21 x22:Value}(R:AExit→List Value→Heap→Prop)
  (hN:(∀ i,i < p.tasks.length→xe p i=0) → ∀ h' x5 x6 x15,h.le h' → R (.exit 0) [x0,ptr b1,ptr b2,ptr b3,ptr b4,x5,x6,x7,x8,x9,x10,x11,x12,.int .i64 p.tasks.length,.int .i64 p.tasks.length,x15,x16,x17,x18,x19,x20,x21,x22] h')
  (hE:∀ h' (i:Nat) x5 x6 x14 x15,i < p.tasks.length→xe p i≠0→(∀ j,j < i→xe p j=0)→h0.le h' → h'.get b2=some (.blk [.int .i64 (xe p i)] true)→h'.get b3=some (.blk [.int .i64 i,.int .i64 0] true)→R .ret [x0,ptr b1,ptr b2,ptr b3,ptr b4,x5,x6,x7,x8,x9,x10,x11,x12,.int .i64 p.tasks.length,x14,x15,x16,x17,x18,x19,x20,x21,x22] h') :
  LoopW Tryz.prog N vars zl8 [x0,ptr b1,ptr b2,ptr b3,ptr b4,x5,x6,x7,x8,x9,x10,x11,x12,.int .i64 p.tasks.length,.int .i64 0,x15,x16,x17,x18,x19,x20,x21,x22] h R:=by
 replace hN:=Hid.mk hN;replace hE:=Hid.mk hE
 refine LoopW.upto p.tasks.length (fun i e h1=>h.le h1∧(∀ j,j < i→xe p j=0) ∧ ∃ x5 x6 x15,e=[x0,ptr b1,ptr b2,ptr b3,ptr b4,x5,x6,x7,x8,x9,x10,x11,x12,.int .i64 p.tasks.length,.int .i64 i,x15,x16,x17,x18,x19,x20,x21,x22]) ?_ (Nat.zero_le _) ⟨Heap.le.refl _,fun _ hj=>absurd hj (Nat.not_lt_zero _),_,_,_,rfl⟩
 rintro i _ h1 R1 hi ⟨hl,ho,x5,x6,x15,rfl⟩ hR
 delta zl8 ye6 ye5 ye4 ye3 ye2 ye1 ye0 yd9 yd8 yd7 za4 za3 za2 za1 za0 U9 U8 U7 K8 K7 K6 K5 K4 K3 U6 U5
 by_cases hlt:i < p.tasks.length
 case neg =>
  have hlt' : ¬ (i:Int) < p.tasks.length:=by omega
  have hie:i=p.tasks.length:=by omega
  subst hie
  have g:=fun a b c=>hN.h ho h1 a b c hl
  replace g:=Hid.mk g;replace hl:=Hid.mk hl;replace hc:=Hid.mk hc
  repeat' (first|simp -implicitDefEqProofs only [ze,aR,aW,zf,zg,Int.reduceBEq,Int.reduceBNe,Nat.reduceBEq,Int.reduceLT,Int.reduceLE, *]|with_reducible (first|apply kcd|apply kgd|apply kci|apply kgi)<;>intro hc)
  exact g.h _ _ _
 case pos =>
  have hlt' : (i:Int) < p.tasks.length:=by omega
  have hw:IntKind.i64.wrap ((i:Int) + 1)=((i + 1:Nat):Int):=by rw [zt (by omega) (by omega)];rfl
  obtain ⟨tk,he⟩:∃ e,p.tasks[i]? = some e:=⟨_,List.getElem?_eq_getElem hlt⟩
  have g41:=hl.get g4
  have g21:=hl.get g2
  have g31:=hl.get g3
  have hc1:=hc.mono hl.v
  replace hl:=Hid.mk hl;replace ho:=Hid.mk ho;replace hc1:=Hid.mk hc1;replace he:=Hid.mk he
  clear hc
  repeat' (first|simp -implicitDefEqProofs only [ze,aR,aW,zf,zg,Int.reduceBEq,Int.reduceBNe,Nat.reduceBEq,Int.reduceLT,Int.reduceLE, *]|with_reducible (first|apply kcd|apply kgd|apply kci|apply kgi)<;>intro hc)
  refine head_c hc1.h he.h _ fun h2 l2=>?_
  have g42:=l2.get g41
  have g22:=l2.get g21
  have g32:=l2.get g31
  have hl2:=hl.h.trans l2
  by_cases hz:xe p i=0
  case pos =>
   have g:=fun a b c=>hR.h _ h2 hlt ⟨hl2,fun j hj=>by rcases Nat.lt_succ_iff_lt_or_eq.1 hj with hj | rfl;exact ho.h j hj;exact hz,a,b,c,rfl⟩
   rw [hz]
   replace g:=Hid.mk g;replace l2:=Hid.mk l2;replace hl2:=Hid.mk hl2;replace hz:=Hid.mk hz
   repeat' (first|simp -implicitDefEqProofs only [ze,aR,aW,zf,zg,Int.reduceBEq,Int.reduceBNe,Nat.reduceBEq,Int.reduceLT,Int.reduceLE, *]|with_reducible (first|apply kcd|apply kgd|apply kci|apply kgi)<;>intro hc)
   exact g.h _ _ _
  case neg =>
   have s2:=qo (k:=.i64) (z:=xe p i) (off:=0) g22 (by simp)
   simp only [List.set_cons_zero] at s2
   obtain ⟨h3,eh3⟩:∃ x,h2.set b2 (.blk [.int .i64 (xe p i)] true)=x:=⟨_,rfl⟩
   have g33:h3.get b3=some (.blk [.int .i64 0,.int .i64 0] true):=by rw [← eh3,Heap.set_getE _ _ _ _ (by simpa using fun e=>n23 e.symm)];exact g32
   have g23:h3.get b2=some (.blk [.int .i64 (xe p i)] true):=by rw [← eh3];exact Heap.set_getS _ _ _ (by rw [g22];rfl)
   have l3:h0.le h3:=by rw [← eh3];exact (hl0.trans hl2).set n2 _
   rw [eh3] at s2
   have s3:zr 2 h3 [.pointer (some ⟨b3,0,none⟩),.agg #[.int .i64 i,.int .i64 0]]=some (undef,h3.set b3 (.blk [.int .i64 i,.int .i64 0] true)):=qq g33 rfl rfl rfl rfl
   have g:=fun a b c d=>hE.h (h3.set b3 (.blk [.int .i64 i,.int .i64 0] true)) i a b c d hlt hz ho.h (l3.set n3 _) (by rw [Heap.set_getE _ _ _ _ (by simpa using n23)];exact g23) (Heap.set_getS _ _ _ (by rw [g33];rfl))
   obtain ⟨e,hee⟩:∃ x,xe p i=x:=⟨_,rfl⟩
   rw [hee] at hz s2 g23
   rw [hee]
   replace hee:=Hid.mk hee
   have hz' : (e != 0)=true:=by simpa using hz
   replace g:=Hid.mk g;replace l2:=Hid.mk l2;replace hl2:=Hid.mk hl2;replace l3:=Hid.mk l3
   clear hE hN hR eh3
   repeat' (first|simp -implicitDefEqProofs only [ze,aR,aW,zf,zg,Int.reduceBEq,Int.reduceBNe,Nat.reduceBEq,Int.reduceLT,Int.reduceLE,pb2, *]|with_reducible (first|apply kcd|apply kgd|apply kci|apply kgi)<;>intro hc)
   exact g.h _ _ _ _
end Go.Eng.Sy
namespace Go.Eng.Sy
open Go Go.Eng Go.Proofs
theorem we {x:St × List (List UInt8)}{hs:List (List UInt8)}:∀ {ss:List St},x ∈ zq hs ss → ∃ s ∈ ss,x ∈ Zb hs s
 | [],h=>by simp [zq] at h
 | s::r,h=>by
  simp only [zq,List.mem_append] at h
  rcases h with h | h
  ·exact ⟨s,by simp,h⟩
  ·obtain ⟨s',h1,h2⟩:=we h
   exact ⟨s',by simp [h1],h2⟩
theorem StI.kids {s:St}{n:Nat}(h:StI s (n + 1)):(∀ x ∈ s.thn,StI x n)∧(∀ x ∈ s.els,StI x n):=by
 cases h<;>simp_all [St.thn,St.els]
theorem zk8:∀ (n:Nat) (s:St) (hs:List (List UInt8)),StI s n → ∀ x ∈ Zb hs s,(∃ m,StI x.1 m)∧x.2.length≤hs.length + n
 | 0,s,hs,h,x,hx=>by cases h
 | n + 1,s,hs,h,x,hx=>by
  rw [wg] at hx
  simp only [List.mem_cons,List.mem_append] at hx
  rcases hx with rfl | hx | hx
  ·exact ⟨⟨_,h⟩,by simp⟩
  ·obtain ⟨s',h1,h2⟩:=we hx
   obtain ⟨h3,h4⟩:=zk8 n s' _ (h.kids.1 _ h1) x h2
   refine ⟨h3,?_⟩
   split at h4
   ·rw [List.length_append] at h4;simp at h4;omega
   ·omega
  ·obtain ⟨s',h1,h2⟩:=we hx
   obtain ⟨h3,h4⟩:=zk8 n s' _ (h.kids.2 _ h1) x h2
   exact ⟨h3,by omega⟩
def stE (p:Prg) (x:St × List (List UInt8)):Int:=wt p (zx p) x.2 x.1
def OkAt (p:Prg) (i:Nat):Prop:=∀ tk,p.tasks[i]? = some tk → ∀ x ∈ zq [] tk.body,stE p x=0
def BadAt (p:Prg) (i k:Nat) (e:Int):Prop:=∃ tk x,p.tasks[i]? = some tk∧(zq [] tk.body)[k]? = some x∧e=stE p x∧e≠0 ∧ ∀ j,j < k → ∀ y,(zq [] tk.body)[j]? = some y→stE p y=0
set_option maxHeartbeats 2000000 in
theorem bodies_w {h0 h:Heap}{b1 b2 b3 b4 q mid:Nat}{p:Prg}{d r t:Value}(hc:Ck h q p (zx p) d r t mid) (hl0:h0.le h) (n2:h0.next≤b2) (n3:h0.next≤b3) (n23:b2≠b3)
  (g2:h.get b2=some (.blk [.int .i64 0] true)) (g3:h.get b3=some (.blk [.int .i64 0,.int .i64 0] true)) (g4:h.get b4=some (.blk [ptr q] true)) (hlen:p.tasks.length≤1000) (hbl:∀ tk ∈ p.tasks,(zq [] tk.body).length < 4611686018427387904) (hst:∀ tk ∈ p.tasks,∀ s ∈ tk.body,StI s 30)
  {N:Nat}{x0 x5 x6 x7 x8 x9 x10 x11 x12 x13 x14 x15 x19 x20 x21 x22:Value}(R:AExit→List Value→Heap→Prop)
  (hN:(∀ i,i < p.tasks.length→OkAt p i) → ∀ h' x7 x8 x9 x19 x20,h.le h' → R (.exit 2) [x0,ptr b1,ptr b2,ptr b3,ptr b4,x5,x6,x7,x8,x9,x10,x11,x12,x13,x14,x15,t,.int .i64 p.tasks.length,.int .i64 p.tasks.length,x19,x20,x21,x22] h')
  (hE:∀ h' (i k:Nat) e x7 x8 x9 x18 x19 x20,i < p.tasks.length→BadAt p i k e→(∀ j,j < i→OkAt p j)→h0.le h' → h'.get b2=some (.blk [.int .i64 e] true)→h'.get b3=some (.blk [.int .i64 i,.int .i64 k] true)→R .ret [x0,ptr b1,ptr b2,ptr b3,ptr b4,x5,x6,x7,x8,x9,x10,x11,x12,x13,x14,x15,t,.int .i64 p.tasks.length,x18,x19,x20,x21,x22] h') :
  LoopW Tryz.prog N c48.vars zl7 [x0,ptr b1,ptr b2,ptr b3,ptr b4,x5,x6,x7,x8,x9,x10,x11,x12,x13,x14,x15,t,.int .i64 p.tasks.length,.int .i64 0,x19,x20,x21,x22] h R:=by
 replace hN:=Hid.mk hN;replace hE:=Hid.mk hE;replace hst:=Hid.mk hst;replace hbl:=Hid.mk hbl
 refine LoopW.upto p.tasks.length (fun i e h1=>h.le h1∧(∀ j,j < i→OkAt p j) ∧ ∃ x7 x8 x9 x19 x20,e=[x0,ptr b1,ptr b2,ptr b3,ptr b4,x5,x6,x7,x8,x9,x10,x11,x12,x13,x14,x15,t,.int .i64 p.tasks.length,.int .i64 i,x19,x20,x21,x22]) ?_ (Nat.zero_le _) ⟨Heap.le.refl _,fun _ hj=>absurd hj (Nat.not_lt_zero _),_,_,_,_,_,rfl⟩
 rintro i _ h1 R1 hi ⟨hl,ho,x7,x8,x9,x19,x20,rfl⟩ hR
 delta zl7 ye6 ye5 ye4 ye3 ye2 ye1 ye0 yd9 yd8 yd7 za4 za3 za2 za1 za0 U9 U8 U7 K8 K7 K6 K5 K4 K3 U6 U5
 delta qd8 qd7
 by_cases hlt:i < p.tasks.length
 case neg =>
  have hlt' : ¬ (i:Int) < p.tasks.length:=by omega
  have hie:i=p.tasks.length:=by omega
  subst hie
  have g:=fun a b c d e=>hN.h ho h1 a b c d e hl
  replace g:=Hid.mk g;replace hl:=Hid.mk hl;replace hc:=Hid.mk hc
  repeat' (first|simp -implicitDefEqProofs only [ze,aR,aW,zf,zg,Int.reduceBEq,Int.reduceBNe,Nat.reduceBEq,Int.reduceLT,Int.reduceLE, *]|with_reducible (first|apply kcd|apply kgd|apply kci|apply kgi)<;>intro hc)
  exact g.h _ _ _ _ _
 case pos =>
  have hlt' : (i:Int) < p.tasks.length:=by omega
  have hw:IntKind.i64.wrap ((i:Int) + 1)=((i + 1:Nat):Int):=by rw [zt (by omega) (by omega)];rfl
  obtain ⟨tk,he⟩:∃ e,p.tasks[i]? = some e:=⟨_,List.getElem?_eq_getElem hlt⟩
  have htm:=List.mem_of_getElem? he
  have hflen:=hbl.h tk htm
  have hsI:∀ x ∈ zq [] tk.body,(∃ m,StI x.1 m)∧x.2.length≤30:=fun x hx=>by
   obtain ⟨s,h1,h2⟩:=we hx
   obtain ⟨h3,h4⟩:=zk8 30 s [] (hst.h tk htm s h1) x h2
   exact ⟨h3,by simpa using h4⟩
  obtain ⟨id,off,cells,own,u,e1,e2,e3,hb⟩:=(hc.mono hl.v).ht.elem he
  have hu1:u.oneCell' = true∧u.cells.toList=[u]:=by
   obtain ⟨_,hu1,_⟩:=hb
   obtain ⟨_,_,_,rfl⟩:=SlV.isS hu1
   exact ⟨rfl,rfl⟩
  have hnil:(Value.slice none 0 0).oneCell' = true∧(Value.slice none 0 0).cells.toList=[Value.slice none 0 0]:=⟨rfl,rfl⟩
  have gp7:=Heap.get_alloc_same h1 (.blk [.int .i64 0] true)
  have lh2:=(Heap.le.refl h1).alloc (.blk [.int .i64 0] true)
  obtain ⟨p7,ep7⟩:∃ x_,h1.next=x_:=⟨_,rfl⟩
  obtain ⟨h2,eh2⟩:∃ x_,h1.alloc (.blk [.int .i64 0] true)=x_:=⟨_,rfl⟩
  rw [eh2] at gp7 lh2
  rw [ep7] at gp7
  have gp8:=Heap.get_alloc_same h2 (.blk [.string ⟨#[]⟩,.bool false,.int .i64 0,.int .i64 0,.int .i64 0,.slice none 0 0] true)
  have lh3:=(Heap.le.refl h2).alloc (.blk [.string ⟨#[]⟩,.bool false,.int .i64 0,.int .i64 0,.int .i64 0,.slice none 0 0] true)
  obtain ⟨p8,ep8⟩:∃ x_,h2.next=x_:=⟨_,rfl⟩
  obtain ⟨h3,eh3⟩:∃ x_,h2.alloc (.blk [.string ⟨#[]⟩,.bool false,.int .i64 0,.int .i64 0,.int .i64 0,.slice none 0 0] true)=x_:=⟨_,rfl⟩
  rw [eh3] at gp8 lh3
  rw [ep8] at gp8
  have s7:=qo (k:=.i64) (z:=(i:Int)) (off:=0) (lh3.get gp7) (by simp)
  simp only [List.set_cons_zero] at s7
  obtain ⟨h4,eh4⟩:∃ x,h3.set p7 (.blk [.int .i64 (i:Int)] true)=x:=⟨_,rfl⟩
  have p78:p7≠p8:=by have:=Heap.lt_of_get gp7;omega
  have g84:h4.get p8=some (.blk [.string ⟨#[]⟩,.bool false,.int .i64 0,.int .i64 0,.int .i64 0,.slice none 0 0] true):=by rw [← eh4,Heap.set_getE _ _ _ _ (by simpa using p78.symm)];exact gp8
  have g74:h4.get p7=some (.blk [.int .i64 (i:Int)] true):=by rw [← eh4];exact Heap.set_getS _ _ _ (by rw [lh3.get gp7];rfl)
  have l14:h1.le h4:=by rw [← eh4];exact (lh2.trans lh3).set (by omega) _
  have s8:zr 6 h4 [.pointer (some ⟨p8,0,none⟩),tsV tk.name tk.handler tk.hart tk.prio tk.line u]=some (undef,h4.set p8 (.blk (tsL tk u) true)):=by
   obtain ⟨_,hu2,_⟩:=hb
   obtain ⟨_,_,_,rfl⟩:=SlV.isS hu2
   exact qq g84 rfl rfl rfl rfl
  obtain ⟨h5,eh5⟩:∃ x,h4.set p8 (.blk (tsL tk u) true)=x:=⟨_,rfl⟩
  have g75:h5.get p7=some (.blk [.int .i64 (i:Int)] true):=by rw [← eh5,Heap.set_getE _ _ _ _ (by simpa using p78)];exact g74
  have g85:h5.get p8=some (.blk (tsL tk u) true):=by rw [← eh5];exact Heap.set_getS _ _ _ (by rw [g84];rfl)
  have l15:h1.le h5:=by rw [← eh5];exact l14.set (by have:=lh2.next;omega) _
  rw [eh4] at s7
  rw [eh5] at s8
  have hc5:=hc.mono (hl.trans l15).v
  have hb5:=hb.monoB l15.v.b
  have g25:=l15.get (hl.get g2)
  have g35:=l15.get (hl.get g3)
  have g45:=l15.get (hl.get g4)
  have l05:=hl0.trans (hl.trans l15)
  have st9:zr 1 (h5.alloc (.blk [.int .i64 0] true)) [.pointer (some ⟨h5.next,0,none⟩),.int .i64 0]=some (undef,h5.alloc (.blk [.int .i64 0] true)):=zy rfl rfl rfl rfl
  have gp9:=Heap.get_alloc_same h5 (.blk [.int .i64 0] true)
  have lh6:=(Heap.le.refl h5).alloc (.blk [.int .i64 0] true)
  obtain ⟨p9,ep9⟩:∃ x_,h5.next=x_:=⟨_,rfl⟩
  obtain ⟨h6,eh6⟩:∃ x_,h5.alloc (.blk [.int .i64 0] true)=x_:=⟨_,rfl⟩
  rw [eh6] at gp9 lh6
  rw [ep9] at gp9
  rw [eh6,ep9] at st9
  have g86:=lh6.get g85
  have g26:=lh6.get g25
  clear eh4 eh5 g74 g84 hb
  have g21:=hl.get g2
  clear g2 g3 g4 hl0 hc
  replace ho:=Hid.mk ho;replace hl:=Hid.mk hl;replace hc5:=Hid.mk hc5;replace hb5:=Hid.mk hb5;replace hsI:=Hid.mk hsI;replace l15:=Hid.mk l15;replace l05:=Hid.mk l05;replace lh2:=Hid.mk lh2;replace lh3:=Hid.mk lh3;replace l14:=Hid.mk l14;replace hu1:=Hid.mk hu1;replace hnil:=Hid.mk hnil;replace htm:=Hid.mk htm;replace hflen:=Hid.mk hflen
  repeat' (first|simp -implicitDefEqProofs only [ze,aR,aW,zf,zg,Int.reduceBEq,Int.reduceBNe,Nat.reduceBEq,Int.reduceLT,Int.reduceLE,yk, *]|with_reducible (first|apply kcd|apply kgd|apply kci|apply kgi)<;>intro hc)
  refine yr0 hu1.h hnil.h _ fun h7 a b l7 na nb ga gb=>?_
  have g97:=l7.get gp9
  have g87:=l7.get g86
  replace l7:=Hid.mk l7;replace na:=Hid.mk na;replace nb:=Hid.mk nb
  repeat' (first|simp -implicitDefEqProofs only [ze,aR,aW,zf,zg,Int.reduceBEq,Int.reduceBNe,Nat.reduceBEq,Int.reduceLT,Int.reduceLE,yk, *]|with_reducible (first|apply kcd|apply kgd|apply kci|apply kgi)<;>intro hc)
  refine zj1 (f:=115) (first:=#[]) (cap:=#[ptr a,ptr b]) rfl (by decide) rfl rfl ?_
  intro lo L h8 hlo hLn l8 hgL hn8 hyield
  show CallW _ _ [.func (.yield L) #[] #[],ptr a,ptr b] h8 _
  obtain ⟨FL,hFL⟩:∃ x,zq [] tk.body=x:=⟨_,rfl⟩
  have l58:h5.le h8:=lh6.trans (l7.h.trans l8)
  have h57:h5.next≤h7.next:=Nat.le_trans lh6.next l7.h.next
  have hL5:h5.next≤L:=by omega
  have hp9:h5.next≤p9:=by omega
  have hp9L:p9≠L:=by have:=Heap.lt_of_get gp9;have:=l7.h.next;omega
  have hp9n:p9 < L:=by have:=Heap.lt_of_get gp9;have:=l7.h.next;omega
  have hb2L:b2 < p9:=by have:=Heap.lt_of_get g25;omega
  have hb27:b2≠p7:=by have:=Heap.lt_of_get g21;omega
  have hb3L:b3 < p9:=by have:=Heap.lt_of_get g35;omega
  have hcg:=@yk4 p9 L (.func (.yield L) #[] #[]) tk.body [] (fun k hh=>h5.le hh∧hh.get L=some (lo .ready none)∧hh.get p9=some (.blk [.int .i64 (k:Int)] true) ∧ ∀ j,j < k → ∀ y,FL[j]? = some y→stE p y=0)
   (fun k hh=>h0.le hh∧hh.get L=some (lo .done (yq .ret)) ∧ ∃ x,FL[k]? = some x∧stE p x≠0∧hh.get b2=some (.blk [.int .i64 (stE p x)] true)∧hh.get b3=some (.blk [.int .i64 i,.int .i64 k] true) ∧ ∀ j,j < k → ∀ y,FL[j]? = some y→stE p y=0)
  rw [hFL] at hcg
  refine hcg ⟨?run,fun k ha hb l ⟨k1,k2,k3,k4⟩=>⟨k1.trans l,l.get k2,l.get k3,k4⟩,?deep,fun k hh hI=>⟨Heap.lt_of_get hI.2.2.1,Heap.lt_of_get hI.2.1⟩⟩ (l8.get ga) (l8.get gb) (hb5.h.monoB (l58.v.b.off hp9 hL5)) (Hold.nil _) ⟨l58,hgL,l8.get (l7.h.get gp9),fun _ hj=>absurd hj (Nat.not_lt_zero _)⟩ _ ?hT ?hF
  case deep=>intro e he;rw [← hFL] at he;have:=(hsI.h e he).2;omega
  case hT =>
   rintro _ h9 lz ⟨k1,k2,k3,k4⟩
   refine ⟨.normal,.ready,by simp,k2,?_⟩
   have g:=fun a b c d e=>hR.h _ (h9.set L .dead) hlt ⟨(hl.h.trans (l15.h.trans k1)).set (by have:=hl.h.next;have:=l15.h.next;omega) _,fun j hj=>by
    rcases Nat.lt_succ_iff_lt_or_eq.1 hj with hj | rfl
    ·exact ho.h j hj
    ·intro tk' htk x hx
     rw [he] at htk;cases htk
     rw [hFL] at hx
     obtain ⟨n,hn⟩:=List.mem_iff_getElem?.1 hx
     exact k4 n (List.getElem?_eq_some_iff.1 hn).1 x hn,a,b,c,d,e,rfl⟩
   clear hcg hyield hlo
   replace g:=Hid.mk g
   replace k4:=Hid.mk k4
   repeat' (first|simp -implicitDefEqProofs only [ze,aR,aW,zf,zg,Int.reduceBEq,Int.reduceBNe,Nat.reduceBEq,Int.reduceLT,Int.reduceLE, *]|with_reducible (first|apply kcd|apply kgd|apply kci|apply kgi)<;>intro hc)
   exact g.h _ _ _ _ _
  case hF =>
   rintro _ h9 j ⟨k1,k2,x,k3,k4,k5,k6,k7⟩
   refine ⟨.ret,.done,by simp,k2,?_⟩
   have nb:=hlo .done (yq .ret)
   have g:=fun a b c d e f=>hE.h (h9.set L .dead) i j (stE p x) a b c d e f hlt ⟨tk,x,he,by rw [hFL];exact k3,rfl,k4,by rw [hFL];exact k7⟩ ho.h (k1.set (by have:=l05.h.next;omega) _) (Heap.set_getB k2 nb k5 _) (Heap.set_getB k2 nb k6 _)
   clear hcg hyield hlo nb
   replace g:=Hid.mk g
   replace k7:=Hid.mk k7
   repeat' (first|simp -implicitDefEqProofs only [ze,aR,aW,zf,zg,Int.reduceBEq,Int.reduceBNe,Nat.reduceBEq,Int.reduceLT,Int.reduceLE, *]|with_reducible (first|apply kcd|apply kgd|apply kci|apply kgi)<;>intro hc)
   exact g.h _ _ _ _ _ _
  case run =>
   intro k hh s hs x vh Q2 hL2 hII hx hvh hT hF
   obtain ⟨k1,k2,k3,k4⟩:=hII
   obtain ⟨hm,hsl⟩:=hsI.h (s,hs) (by rw [hFL];exact List.mem_of_getElem? hL2)
   obtain ⟨nI,hsI2⟩:=hm
   replace hsI2:StI s nI:=hsI2
   replace hsl:hs.length≤30:=hsl
   have hkl:=(List.getElem?_eq_some_iff.1 hL2).1
   rw [hFL] at hflen
   have hwk:IntKind.i64.wrap ((k:Int) + 1)=((k + 1:Nat):Int):=by have:=hflen.h;rw [zt (by omega) (by omega)];rfl
   have hx0:=hx
   obtain ⟨xa,xu,xw,hxe,hargs,hthn,hels⟩:=hx.cells
   subst hxe
   have st:zr 7 (hh.alloc (.blk [.int .i64 0,.string ⟨#[]⟩,.string ⟨#[]⟩,.int .i64 0,.slice none 0 0,.slice none 0 0,.slice none 0 0] true)) [.pointer (some ⟨hh.next,0,none⟩),stV s.kind s.name s.src s.n xa xu xw]=some (undef,hh.alloc (.blk [.int .i64 s.kind,str s.name,str s.src,.int .i64 s.n,xa,xu,xw] true)):=by
    obtain ⟨_,ha1,_⟩:=hargs
    obtain ⟨_,hu1,_⟩:=hthn
    obtain ⟨_,hw1,_⟩:=hels
    obtain ⟨_,_,_,rfl⟩:=SlV.isS ha1
    obtain ⟨_,_,_,rfl⟩:=SlV.isS hu1
    obtain ⟨_,_,_,rfl⟩:=SlV.isS hw1
    exact zy rfl rfl rfl rfl
   have gp10:=Heap.get_alloc_same hh (.blk [.int .i64 s.kind,str s.name,str s.src,.int .i64 s.n,xa,xu,xw] true)
   have lhA:=(Heap.le.refl hh).alloc (.blk [.int .i64 s.kind,str s.name,str s.src,.int .i64 s.n,xa,xu,xw] true)
   obtain ⟨p10,ep10⟩:∃ x_,hh.next=x_:=⟨_,rfl⟩
   obtain ⟨hA,ehA⟩:∃ x_,hh.alloc (.blk [.int .i64 s.kind,str s.name,str s.src,.int .i64 s.n,xa,xu,xw] true)=x_:=⟨_,rfl⟩
   rw [ehA] at gp10 lhA
   rw [ep10] at gp10
   rw [ehA,ep10] at st
   have nb:=hlo .ready none
   have nb2:=hlo .busy none
   have kL:=lhA.get k2
   obtain ⟨hB,ehB⟩:∃ x,hA.set L (lo .busy none)=x:=⟨_,rfl⟩
   have hhB:hh.leB hB:=fun i c o hg=>by rw [← ehB];exact Heap.leB.setX kL nb _ _ _ (lhA.get hg)
   have k1B:h5.le hB:=by rw [← ehB];exact (k1.trans lhA).set hL5 _
   have ckB:=hc5.h.mono k1B.v
   have hxB:=hx0.monoB hhB
   have hvhB:=hvh.1.monoB hhB
   have g4B:=k1B.get g45
   have g7B:=k1B.get g75
   have g2B:=k1B.get g25
   have g3B:=k1B.get g35
   have g9B:hB.get p9=some (.blk [.int .i64 (k:Int)] true):=by rw [← ehB];exact Heap.set_getB kL nb (lhA.get k3) _
   have g10B:=by have:=Heap.set_getB kL nb gp10 (lo .busy none);rw [ehB] at this;exact this
   have gLB:hB.get L=some (lo .busy none):=by rw [← ehB];exact Heap.set_getS _ _ _ (by rw [kL];rfl)
   clear hargs hthn hels hx hx0
   have hy:=hyield [stV s.kind s.name s.src s.n xa xu xw,vh] hh hA (fun xx hb=>(xx = .normal∧stE p (s,hs)=0 ∧ ∃ hS,hB.le hS∧hb=hS.set p9 (.blk [.int .i64 ((k + 1:Nat):Int)] true))∨(xx = .ret∧stE p (s,hs)≠0 ∧ ∃ hS,hB.le hS∧hb=(hS.set b2 (.blk [.int .i64 (stE p (s,hs))] true)).set b3 (.blk [.int .i64 (i:Int),.int .i64 (k:Int)] true)))
    [x0,ptr b1,ptr b2,ptr b3,ptr b4,x5,x6,ptr p7,ptr p8,ptr p9,ptr p10,vh,x12,x13,x14,x15,t,.int .i64 p.tasks.length,.int .i64 i,.bool true,.func (.func 115) #[] #[ptr a,ptr b],stV s.kind s.name s.src s.n xa xu xw,vh] k2 kL rfl
   clear hyield
   refine ValW.mono (hy ?_ ?_) ?_
   ·intro R2 hR2
    simp only [Jq,List.set_cons_succ,List.set_cons_zero]
    delta K8 K7
    simp -implicitDefEqProofs only [ze,aR,aW,zf,zg,Int.reduceBEq,Int.reduceBNe,Nat.reduceBEq,Int.reduceLT,Int.reduceLE,ep10,st]
    exact hR2
   ·intro R2 hR2
    rw [ehB]
    delta K6 K5 K4 K3
    clear hy hlo hcg nb nb2 kL st gp10
    replace k4:=Hid.mk k4;replace ho:=Hid.mk ho;replace hT:=Hid.mk hT;replace hF:=Hid.mk hF;replace l58:=Hid.mk l58;replace k1B:=Hid.mk k1B;replace ckB:=Hid.mk ckB;replace hxB:=Hid.mk hxB;replace hvhB:=Hid.mk hvhB;replace hhB:=Hid.mk hhB;replace hFL:=Hid.mk hFL
    repeat' (first|simp -implicitDefEqProofs only [ze,aR,aW,zf,zg,Int.reduceBEq,Int.reduceBNe,Nat.reduceBEq,Int.reduceLT,Int.reduceLE,ya, *]|with_reducible (first|apply kcd|apply kgd|apply kci|apply kgi)<;>intro hc)
    refine stmt_c ckB.h hsI2 hxB.h hvhB.h (by omega) _ fun hS lS=>?_
    have g9S:=lS.get g9B
    have g7S:=lS.get g7B
    have g2S:=lS.get g2B
    have g3S:=lS.get g3B
    have gLS:=lS.get gLB
    obtain ⟨e,hee⟩:∃ x,stE p (s,hs)=x:=⟨_,rfl⟩
    rw [show wt p (zx p) hs s=e from hee]
    rw [hee] at hR2
    by_cases hz:e=0
    case pos =>
     subst hz
     have s9:=qo (k:=.i64) (z:=((k + 1:Nat):Int)) (off:=0) g9S (by simp)
     simp only [List.set_cons_zero] at s9
     have g:=fun eb=>hR2.h .normal eb (hS.set p9 (.blk [.int .i64 ((k + 1:Nat):Int)] true)) (by rw [Heap.set_getE _ _ _ _ (by simpa using hp9L.symm)];exact gLS) (.inl ⟨rfl,rfl,hS,lS,rfl⟩)
     clear hN hE hR hR2 hst hbl gLS gLB
     replace g:=Hid.mk g;replace hee:=Hid.mk hee;replace lS:=Hid.mk lS
     repeat' (first|simp -implicitDefEqProofs only [ze,aR,aW,zf,zg,Int.reduceBEq,Int.reduceBNe,Nat.reduceBEq,Int.reduceLT,Int.reduceLE, *]|with_reducible (first|apply kcd|apply kgd|apply kci|apply kgi)<;>intro hc)
     exact g.h _
    case neg =>
     have hz' : (e != 0)=true:=by simpa using hz
     have b2L:b2≠L:=by omega
     have b3L:b3≠L:=by omega
     have b29:b2≠p9:=by omega
     have s2:=qo (k:=.i64) (z:=e) (off:=0) g2S (by simp)
     simp only [List.set_cons_zero] at s2
     have g:=fun eb=>hR2.h .ret eb ((hS.set b2 (.blk [.int .i64 e] true)).set b3 (.blk [.int .i64 (i:Int),.int .i64 (k:Int)] true)) (by rw [Heap.set_getE _ _ _ _ (by simpa using b3L.symm),Heap.set_getE _ _ _ _ (by simpa using b2L.symm)];exact gLS) (.inr ⟨rfl,hz,hS,lS,rfl⟩)
     obtain ⟨hU,ehU⟩:∃ x,hS.set b2 (.blk [.int .i64 e] true)=x:=⟨_,rfl⟩
     have g3U:hU.get b3=some (.blk [.int .i64 0,.int .i64 0] true):=by rw [← ehU,Heap.set_getE _ _ _ _ (by simpa using n23.symm)];exact g3S
     have g7U:hU.get p7=some (.blk [.int .i64 (i:Int)] true):=by rw [← ehU,Heap.set_getE _ _ _ _ (by simpa using hb27.symm)];exact g7S
     have g9U:hU.get p9=some (.blk [.int .i64 (k:Int)] true):=by rw [← ehU,Heap.set_getE _ _ _ _ (by simpa using b29.symm)];exact g9S
     rw [ehU] at s2 g
     have s3:zr 2 hU [.pointer (some ⟨b3,0,none⟩),.agg #[.int .i64 i,.int .i64 k]]=some (undef,hU.set b3 (.blk [.int .i64 i,.int .i64 k] true)):=qq g3U rfl rfl rfl rfl
     have hex:hS.leBut b2 hU:=by rw [← ehU];exact Heap.leBut.set _ _ _
     have n72:(p7 == b2)=false:=by simpa using hb27.symm
     have n92:(p9 == b2)=false:=by simpa using b29.symm
     clear hN hE hR hR2 hst hbl gLS gLB ehU
     replace g:=Hid.mk g;replace hee:=Hid.mk hee;replace lS:=Hid.mk lS;replace hex:=Hid.mk hex
     repeat' (first|simp -implicitDefEqProofs only [ze,aR,aW,zf,zg,Int.reduceBEq,Int.reduceBNe,Nat.reduceBEq,Int.reduceLT,Int.reduceLE,pb2, *]|with_reducible (first|apply kcd|apply kgd|apply kci|apply kgi)<;>intro hc)
     refine jk hex.h ?_
     repeat' (first|simp -implicitDefEqProofs only [ze,aR,aW,zf,zg,Int.reduceBEq,Int.reduceBNe,Nat.reduceBEq,Int.reduceLT,Int.reduceLE,pb2, *]|with_reducible (first|apply kcd|apply kgd|apply kci|apply kgi)<;>intro hc)
     exact g.h _
   ·rintro v' h' _ ⟨xx,hb,(⟨rfl,hz,hS,lS,rfl⟩ | ⟨rfl,hz,hS,lS,rfl⟩),hbL,rfl,rfl⟩
    ·show Q2 (.bool true) (Heap.set _ L (lo .ready none))
     have g9S:=lS.get g9B
     have l1:h5.le ((hS.set p9 (.blk [.int .i64 ((k + 1:Nat):Int)] true)).set L (lo .ready none)):=((k1B.trans lS).set hp9 _).set hL5 _
     have lz:hh.leZ p9 L ((hS.set p9 (.blk [.int .i64 ((k + 1:Nat):Int)] true)).set L (lo .ready none)):=⟨fun i o n1 n2 hi=>by
      rw [Heap.get_set,if_neg (fun e=>n2 e.1),Heap.get_set,if_neg (fun e=>n1 e.1)]
      refine lS.get ?_
      rw [← ehB,Heap.get_set,if_neg (fun e=>n2 e.1)]
      exact lhA.get hi,by have h1:=lhA.next;have h2:=lS.next;rw [← ehB] at h2;exact Nat.le_trans h1 h2⟩
     refine hT _ lz ⟨l1,Heap.set_getS _ _ _ (by rw [hbL];rfl),?_,fun j hj y hy2=>?_⟩
     ·rw [Heap.set_getE _ _ _ _ (by simpa using hp9L)];exact Heap.set_getS _ _ _ (by rw [g9S];rfl)
     ·rcases Nat.lt_succ_iff_lt_or_eq.1 hj with hj | rfl
      ·exact k4 j hj y hy2
      ·rw [hL2] at hy2;cases hy2;exact hz
    ·show Q2 (.bool false) (Heap.set _ L (lo .done (yq .ret)))
     have g2S:=lS.get g2B
     have g3S:=lS.get g3B
     have b2L:b2≠L:=by omega
     have b3L:b3≠L:=by omega
     refine hF _ ⟨(((l05.h.trans (k1B.trans lS)).set n2 _).set n3 _).set (by have:=l05.h.next;omega) _,Heap.set_getS _ _ _ (by rw [hbL];rfl),(s,hs),hL2,hz,?_,?_,k4⟩
     ·rw [Heap.set_getE _ _ _ _ (by simpa using b2L),Heap.set_getE _ _ _ _ (by simpa using n23)];exact Heap.set_getS _ _ _ (by rw [g2S];rfl)
     ·rw [Heap.set_getE _ _ _ _ (by simpa using b3L)];exact Heap.set_getS _ _ _ (by rw [Heap.set_getE _ _ _ _ (by simpa using n23.symm),g3S];rfl)
end Go.Eng.Sy
namespace Go.Eng.Sy
open Go Go.Eng Go.Proofs
def CheckIs (p:Prg) (e i n:Int):Prop :=
 (ja p=false∧e=1∧i=0∧n=0)∨(ja p=true ∧ ¬ (zx p).Nodup∧e=80∧i=0∧n=0) ∨
 (ja p=true∧(zx p).Nodup ∧ ∃ k:Nat,k < p.tasks.length∧xe p k≠0∧(∀ j,j < k→xe p j=0)∧e=xe p k∧i=k∧n=0) ∨
 (ja p=true∧(zx p).Nodup∧(∀ j,j < p.tasks.length→xe p j=0) ∧ ∃ k m:Nat,k < p.tasks.length∧BadAt p k m e∧(∀ j,j < k→OkAt p j)∧i=k∧n=m) ∨
 (ja p=true∧(zx p).Nodup∧(∀ j,j < p.tasks.length→xe p j=0)∧(∀ j,j < p.tasks.length→OkAt p j)∧e=0∧i=0∧n=0)
theorem kj {p:Prg}(h:ja p=true):(1≤p.harts∧p.harts≤4)∧(∀ d ∈ p.devs,Xo d=true)∧(∀ d ∈ p.ress,Jv d=true)∧(∀ d ∈ p.tasks,ky d=true):=by
 simp only [ja,Bool.and_eq_true,decide_eq_true_eq,List.all_eq_true] at h
 exact ⟨h.1.1.1.1.1.1,h.1.1.2,h.1.2,h.2⟩
theorem Ye {p:Prg}(h:ja p=true):p.devs.length≤8∧p.ress.length≤8∧p.tasks.length≤16:=by
 simp only [ja,Bool.and_eq_true,decide_eq_true_eq,List.all_eq_true] at h
 exact ⟨h.1.1.1.1.1.2,h.1.1.1.1.2,h.1.1.1.2⟩
theorem zc7 {p:Prg}(h:ja p=true):(∀ s ∈ zx p,s.length≤1000)∧(zx p).length≤1000:=by
 obtain ⟨_,h1,h2,h3⟩:=kj h
 obtain ⟨l1,l2,l3⟩:=Ye h
 constructor
 ·intro s hs
  unfold zx at hs
  simp only [List.mem_append,List.mem_map] at hs
  rcases hs with (⟨d,hd,rfl⟩ | ⟨d,hd,rfl⟩) | ⟨d,hd,rfl⟩
  ·have:=h1 d hd;simp only [Xo,Bool.and_eq_true] at this;exact je this.1
  ·have:=h2 d hd;simp only [Jv,Bool.and_eq_true] at this;exact je this.1
  ·have:=h3 d hd;simp only [ky,Bool.and_eq_true] at this;exact je this.1.1.1.1
 ·unfold zx;simp only [List.length_append,List.length_map];omega
theorem Js {p:Prg}(h:ja p=true):∀ tk ∈ p.tasks,∀ s ∈ tk.body,StI s 30:=by
 intro tk htk s hs
 have:=(kj h).2.2.2 tk htk
 simp only [ky,Bool.and_eq_true,ke,List.all_eq_true] at this
 exact (ws 30 s).1 (this.2 s hs)
set_option maxHeartbeats 2000000 in
theorem Check_c {h:Heap}{p:Prg}{x:List Value}(hx:PrC h p x) (hbl:∀ tk ∈ p.tasks,(zq [] tk.body).length < 4611686018427387904) (Q:Value→Heap→Prop)
  (hq:∀ h' e i n,CheckIs p e i n→h.le h' → Q (.tuple #[.int .i64 e,.agg #[.int .i64 i,.int .i64 n]]) h'):CallW Tryz.prog 48 [.agg x.toArray] h Q:=by
 have hx0:=hx
 obtain ⟨d,r,t,rfl,hd,hr,ht⟩:=hx
 have bx1:=wp (n:=p.harts) hd.one hr.one ht.one
 have iD:IsS d:=SlV.isS hd.1
 have iR:IsS r:=SlV.isS hr.1
 have iT:IsS t:=by obtain ⟨_,ht1,_⟩:=ht;exact SlV.isS ht1
 have gb1:=Heap.get_alloc_same h (.blk [.int .i64 p.harts,d,r,t] true)
 have lh1:=(Heap.le.refl h).alloc (.blk [.int .i64 p.harts,d,r,t] true)
 obtain ⟨b1,eb1⟩:∃ x_,h.next=x_:=⟨_,rfl⟩
 obtain ⟨h1,eh1⟩:∃ x_,h.alloc (.blk [.int .i64 p.harts,d,r,t] true)=x_:=⟨_,rfl⟩
 rw [eh1] at gb1 lh1
 rw [eb1] at gb1
 have gb2:=Heap.get_alloc_same h1 (.blk [.int .i64 0] true)
 have lh2:=(Heap.le.refl h1).alloc (.blk [.int .i64 0] true)
 obtain ⟨b2,eb2⟩:∃ x_,h1.next=x_:=⟨_,rfl⟩
 obtain ⟨h2,eh2⟩:∃ x_,h1.alloc (.blk [.int .i64 0] true)=x_:=⟨_,rfl⟩
 rw [eh2] at gb2 lh2
 rw [eb2] at gb2
 have gb3:=Heap.get_alloc_same h2 (.blk [.int .i64 0,.int .i64 0] true)
 have lh3:=(Heap.le.refl h2).alloc (.blk [.int .i64 0,.int .i64 0] true)
 obtain ⟨b3,eb3⟩:∃ x_,h2.next=x_:=⟨_,rfl⟩
 obtain ⟨h3,eh3⟩:∃ x_,h2.alloc (.blk [.int .i64 0,.int .i64 0] true)=x_:=⟨_,rfl⟩
 rw [eh3] at gb3 lh3
 rw [eb3] at gb3
 have l3:=(lh1.trans lh2).trans lh3
 have hx3:=hx0.mono l3
 have n2:h.next≤b2:=by have:=lh1.next;omega
 have n3:h.next≤b3:=by have:=lh1.next;have:=lh2.next;omega
 have n23:b2≠b3:=by have:=Heap.lt_of_get gb2;omega
 have gb13:=lh3.get (lh2.get gb1)
 have gb23:=lh3.get gb2
 clear gb1 gb2 hx0
 obtain ⟨R,hR⟩:∃ R,retcc 2 3 h.next Q=R:=⟨_,rfl⟩
 have hret:∀ (h' : Heap) (e i n:Int) (x0:Value) (tl:List Value),CheckIs p e i n→h.le h' → h'.get b2=some (.blk [.int .i64 e] true)→h'.get b3=some (.blk [.int .i64 i,.int .i64 n] true)→R .ret (x0::ptr b1::ptr b2::ptr b3::tl) h':=by
  intro h' e i n x0 tl hci hle hg2 hg3
  rw [← hR]
  exact ⟨b2,b3,_,_,_,_,_,rfl,rfl,hg2,hg3,hq _ e i n hci (Heap.le.sweep hle)⟩
 have store:∀ (hh:Heap) (e:Int),h.le hh→hh.get b2=some (.blk [.int .i64 0] true)→hh.get b3=some (.blk [.int .i64 0,.int .i64 0] true) → ∃ hU hV,zr 1 hh [.pointer (some ⟨b2,0,none⟩),.int .i64 e]=some (undef,hU)∧zr 2 hU [.pointer (some ⟨b3,0,none⟩),.agg #[.int .i64 0,.int .i64 0]]=some (undef,hV)∧h.le hV∧hV.get b2=some (.blk [.int .i64 e] true)∧hV.get b3=some (.blk [.int .i64 0,.int .i64 0] true):=by
  intro hh e hl g2 g3
  have s2:=qo (k:=.i64) (z:=e) (off:=0) g2 (by simp)
  simp only [List.set_cons_zero] at s2
  have g3' : (hh.set b2 (.blk [.int .i64 e] true)).get b3=some (.blk [.int .i64 0,.int .i64 0] true):=by rw [Heap.set_getE _ _ _ _ (by simpa using n23.symm)];exact g3
  refine ⟨_,_,s2,qq g3' rfl rfl rfl rfl,(hl.set n2 _).set n3 _,?_,Heap.set_getS _ _ _ (by rw [g3'];rfl)⟩
  rw [Heap.set_getE _ _ _ _ (by simpa using n23)];exact Heap.set_getS _ _ _ (by rw [g2];rfl)
 have pb1:∀ mid,yl [.int .i64 0,.slice none 0 0,.slice none 0 0,.slice none 0 0,.map none] [(0,4),(4,1)] [.agg #[.int .i64 p.harts,d,r,t],.map (some mid)]=some (.agg #[.int .i64 p.harts,d,r,t,.map (some mid)]):=by
  intro mid
  obtain ⟨_,_,_,rfl⟩:=iD
  obtain ⟨_,_,_,rfl⟩:=iR
  obtain ⟨_,_,_,rfl⟩:=iT
  rfl
 have bx5:∀ mid,Ya [.agg #[.int .i64 p.harts,d,r,t,.map (some mid)]]=some ([.int .i64 p.harts,d,r,t,.map (some mid)],fun id=>.pointer (some ⟨id,0,none⟩)):=by
  intro mid
  obtain ⟨_,_,_,rfl⟩:=iD
  obtain ⟨_,_,_,rfl⟩:=iR
  obtain ⟨_,_,_,rfl⟩:=iT
  rfl
 have lenT:=ht.len
 have hrt:ja p=true→(∀ s ∈ zx p,s.length≤1000)∧(zx p).length≤1000:=zc7
 replace hbl:=Hid.mk hbl;replace hx3:=Hid.mk hx3;replace l3:=Hid.mk l3;replace hd:=Hid.mk hd;replace hr:=Hid.mk hr;replace ht:=Hid.mk ht;replace hret:=Hid.mk hret;replace store:=Hid.mk store;replace lh1:=Hid.mk lh1;replace lh2:=Hid.mk lh2;replace lh3:=Hid.mk lh3;replace hrt:=Hid.mk hrt
 clear iD iR iT
 refine qa1 (k:=2) (j:=3) ok48 rfl rfl rfl fun N=>?_
 rw [show ym c48 [prV p.harts d r t]=[prV p.harts d r t,undef,undef,undef,undef,undef,undef,undef,undef,undef,undef,undef,undef,undef,undef,undef,undef,undef,undef,undef,undef,undef,undef] from rfl]
 delta c48 ye6 ye5 ye4 ye3 ye2 ye1 ye0 yd9 yd8 yd7 za4 za3 za2 za1 za0 U9 U8 U7 K8 K7 K6 K5 K4 K3 U6 U5
 replace hq:=Hid.mk hq
 clear hq
 rw [hR]
 repeat' (first|simp -implicitDefEqProofs only [ze,aR,aW,zf,zg,Int.reduceBEq,Int.reduceBNe,Nat.reduceBEq,Int.reduceLT,Int.reduceLE,zw, *]|with_reducible (first|apply kcd|apply kgd|apply kci|apply kgi)<;>intro hc)
 refine Right_c hx3.h _ fun h4 l4=>?_
 have g14:=l4.get gb13
 have g24:=l4.get gb23
 have g34:=l4.get gb3
 have l04:=l3.h.trans l4
 cases hrp:ja p with
 | false =>
  obtain ⟨hU,hV,s1,s2,lV,gV2,gV3⟩:=store.h h4 1 l04 g24 g34
  have g:=fun a b=>hret.h hV 1 0 0 a b (.inl ⟨hrp,rfl,rfl,rfl⟩) lV gV2 gV3
  replace g:=Hid.mk g;replace l4:=Hid.mk l4;replace l04:=Hid.mk l04;replace lV:=Hid.mk lV
  repeat' (first|simp -implicitDefEqProofs only [ze,aR,aW,zf,zg,Int.reduceBEq,Int.reduceBNe,Nat.reduceBEq,Int.reduceLT,Int.reduceLE,zw,pb0, *]|with_reducible (first|apply kcd|apply kgd|apply kci|apply kgi)<;>intro hc)
  exact g.h _ _
 | true =>
  obtain ⟨hnl,hnn⟩:=hrt.h hrp
  have hst:=Js hrp
  have hl3:=Ye hrp
  have gM:=Heap.get_alloc_same h4 (.map [] true)
  have lM:=(Heap.le.refl h4).alloc (.map [] true)
  obtain ⟨mid,emid⟩:∃ x,h4.next=x:=⟨_,rfl⟩
  obtain ⟨hM,ehM⟩:∃ x,h4.alloc (.map [] true)=x:=⟨_,rfl⟩
  rw [ehM] at gM lM
  rw [emid] at gM
  have pb:=pb1 mid
  have bx:=bx5 mid
  have gq:=Heap.get_alloc_same hM (.blk [.int .i64 p.harts,d,r,t,.map (some mid)] true)
  have lh5:=(Heap.le.refl hM).alloc (.blk [.int .i64 p.harts,d,r,t,.map (some mid)] true)
  obtain ⟨q,eq⟩:∃ x_,hM.next=x_:=⟨_,rfl⟩
  obtain ⟨h5,eh5⟩:∃ x_,hM.alloc (.blk [.int .i64 p.harts,d,r,t,.map (some mid)] true)=x_:=⟨_,rfl⟩
  rw [eh5] at gq lh5
  rw [eq] at gq
  have st4:zr 1 (h5.alloc (.blk [.pointer none] true)) [.pointer (some ⟨h5.next,0,none⟩),ptr q]=some (undef,h5.alloc (.blk [ptr q] true)):=zy rfl rfl rfl rfl
  have gb4:=Heap.get_alloc_same h5 (.blk [ptr q] true)
  have lh6:=(Heap.le.refl h5).alloc (.blk [ptr q] true)
  obtain ⟨b4,eb4⟩:∃ x_,h5.next=x_:=⟨_,rfl⟩
  obtain ⟨h6,eh6⟩:∃ x_,h5.alloc (.blk [ptr q] true)=x_:=⟨_,rfl⟩
  rw [eh6] at gb4 lh6
  rw [eb4] at gb4
  rw [eh6,eb4] at st4
  have l46:=(lM.trans lh5).trans lh6
  have g16:=l46.get g14
  have g26:=l46.get g24
  have g36:=l46.get g34
  have gq6:=lh6.get gq
  have gM6:=lh6.get (lh5.get gM)
  have l06:=l04.trans l46
  have hd6:=hd.h.monoB l06.v.b
  have hr6:=hr.h.monoB l06.v.b
  have ht6:=ht.h.monoB l06.v.b
  have nmid:h.next≤mid:=by have:=l04.next;omega
  clear g24 g34 gq gM gb13 gb23 gb3 pb1 bx5
  replace hnl:=Hid.mk hnl;replace hnn:=Hid.mk hnn;replace hst:=Hid.mk hst;replace hl3:=Hid.mk hl3;replace l4:=Hid.mk l4;replace l04:=Hid.mk l04;replace lM:=Hid.mk lM;replace lh5:=Hid.mk lh5;replace lh6:=Hid.mk lh6;replace l46:=Hid.mk l46;replace l06:=Hid.mk l06;replace hd6:=Hid.mk hd6;replace hr6:=Hid.mk hr6;replace ht6:=Hid.mk ht6
  repeat' (first|simp -implicitDefEqProofs only [ze,aR,aW,zf,zg,Int.reduceBEq,Int.reduceBNe,Nat.reduceBEq,Int.reduceLT,Int.reduceLE,zw, *]|with_reducible (first|apply kcd|apply kgd|apply kci|apply kgi)<;>intro hc)
  refine yz4 gq6 hd6.h hr6.h ht6.h gM6 hnl.h hnn.h _ fun h7 l7 ck=>?_
  have b67:=l7.b gM6
  have g17:=b67 _ _ _ g16
  have g27:=b67 _ _ _ g26
  have g37:=b67 _ _ _ g36
  have g47:=b67 _ _ _ gb4
  have l07:h.le h7:=⟨fun i o hi=>by
   have h1:=l06.h.get hi
   rw [l7.get i (by have:=Heap.lt_of_get hi;omega) (by rw [h1];rfl)];exact h1,Nat.le_trans l06.h.next l7.next⟩
  clear g16 g26 g36 gb4 gq6 gM6
  cases hnd:decide (zx p).Nodup with
  | false =>
   obtain ⟨hU,hV,s1,s2,lV,gV2,gV3⟩:=store.h h7 80 l07 g27 g37
   have g:=fun a b=>hret.h hV 80 0 0 a b (.inr (.inl ⟨hrp,by simpa using hnd,rfl,rfl,rfl⟩)) lV gV2 gV3
   replace g:=Hid.mk g;replace l7:=Hid.mk l7;replace l07:=Hid.mk l07;replace lV:=Hid.mk lV;replace ck:=Hid.mk ck;replace b67:=Hid.mk b67
   repeat' (first|simp -implicitDefEqProofs only [ze,aR,aW,zf,zg,Int.reduceBEq,Int.reduceBNe,Nat.reduceBEq,Int.reduceLT,Int.reduceLE,zw,pb0, *]|with_reducible (first|apply kcd|apply kgd|apply kci|apply kgi)<;>intro hc)
   exact g.h _ _
  | true =>
   have hnd' : (zx p).Nodup:=by simpa using hnd
   have hlen:p.tasks.length≤1000:=by have:=hl3.h;omega
   replace l7:=Hid.mk l7;replace l07:=Hid.mk l07;replace ck:=Hid.mk ck;replace b67:=Hid.mk b67
   repeat' (first|simp -implicitDefEqProofs only [ze,aR,aW,zf,zg,Int.reduceBEq,Int.reduceBNe,Nat.reduceBEq,Int.reduceLT,Int.reduceLE,zw, *]|with_reducible (first|apply kcd|apply kgd|apply kci|apply kgi)<;>intro hc)
   refine heads_w (own:=true) ck.h l07.h n2 n3 n23 g27 g37 g47 hlen _ (fun ho h8 x5 x6 x15 l8=>?_) (fun h8 i x5 x6 x14 x15 hi hne hlt lle gh2 gh3=>?_)
   ·have g18:=l8.get g17
    have g28:=l8.get g27
    have g38:=l8.get g37
    have g48:=l8.get g47
    have ck8:=ck.h.mono l8.v
    have l08:=l07.h.trans l8
    replace ho:=Hid.mk ho;replace l8:=Hid.mk l8;replace ck8:=Hid.mk ck8;replace l08:=Hid.mk l08
    repeat' (first|simp -implicitDefEqProofs only [ze,aR,aW,zf,zg,Int.reduceBEq,Int.reduceBNe,Nat.reduceBEq,Int.reduceLT,Int.reduceLE,zw, *]|with_reducible (first|apply kcd|apply kgd|apply kci|apply kgi)<;>intro hc)
    refine bodies_w ck8.h l08.h n2 n3 n23 g28 g38 g48 hlen hbl.h hst.h _ (fun hok h9 x7 x8 x9 x19 x20 l9=>?_) (fun h9 i k e x7 x8 x9 x18 x19 x20 hi hbad hlt lle gh2 gh3=>?_)
    ·have l09:=l08.h.trans l9
     obtain ⟨hU,hV,s1,s2,lV,gV2,gV3⟩:=store.h h9 0 l09 (l9.get g28) (l9.get g38)
     have g:=fun a b=>hret.h hV 0 0 0 a b (.inr (.inr (.inr (.inr ⟨hrp,hnd',ho.h,hok,rfl,rfl,rfl⟩)))) lV gV2 gV3
     replace g:=Hid.mk g;replace hok:=Hid.mk hok;replace l9:=Hid.mk l9;replace l09:=Hid.mk l09;replace lV:=Hid.mk lV
     repeat' (first|simp -implicitDefEqProofs only [ze,aR,aW,zf,zg,Int.reduceBEq,Int.reduceBNe,Nat.reduceBEq,Int.reduceLT,Int.reduceLE,pb0, *]|with_reducible (first|apply kcd|apply kgd|apply kci|apply kgi)<;>intro hc)
     exact g.h _ _
    ·have g:=fun a b=>hret.h h9 e i k a b (.inr (.inr (.inr (.inl ⟨hrp,hnd',ho.h,i,k,hi,hbad,hlt,rfl,rfl⟩)))) lle gh2 gh3
     replace g:=Hid.mk g;replace hbad:=Hid.mk hbad;replace lle:=Hid.mk lle;replace hlt:=Hid.mk hlt
     repeat' (first|simp -implicitDefEqProofs only [ze,aR,aW,zf,zg,Int.reduceBEq,Int.reduceBNe,Nat.reduceBEq,Int.reduceLT,Int.reduceLE, *]|with_reducible (first|apply kcd|apply kgd|apply kci|apply kgi)<;>intro hc)
     exact g.h _ _
   ·have g:=fun a b=>hret.h h8 (xe p i) i 0 a b (.inr (.inr (.inl ⟨hrp,hnd',i,hi,hne,hlt,rfl,rfl,rfl⟩))) lle gh2 gh3
    replace g:=Hid.mk g;replace hlt:=Hid.mk hlt;replace lle:=Hid.mk lle
    repeat' (first|simp -implicitDefEqProofs only [ze,aR,aW,zf,zg,Int.reduceBEq,Int.reduceBNe,Nat.reduceBEq,Int.reduceLT,Int.reduceLE, *]|with_reducible (first|apply kcd|apply kgd|apply kci|apply kgi)<;>intro hc)
    exact g.h _ _
end Go.Eng.Sy
