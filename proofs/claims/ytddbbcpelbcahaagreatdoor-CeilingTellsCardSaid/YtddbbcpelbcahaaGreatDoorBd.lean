/-
  Part of a proof of the laws of layer 09 (ceiling): what each function does.
  Conditions: none.
-/
import Derived.Test.YtddbbcpelbcahaaGreatDoorBc
set_option linter.unusedSimpArgs false
set_option linter.unusedVariables false
namespace Go.Eng
open Go
def AObj.isLoop:AObj→Bool | .loop ..=>true | _=>false
structure Heap.leV (h h' : Heap):Prop where
 get:∀ i o,h.get i=some o→o.isLoop=false→h'.get i=some o
 next:h.next≤h'.next
theorem Heap.le.v {h h' : Heap}(hl:h.le h'):h.leV h':=⟨fun i o hi _=>hl.get hi,hl.next⟩
theorem Heap.leV.blk {h h' : Heap}(hl:h.leV h'){i:Nat}{c:lVq}{o:Bool}(hi:h.get i=some (.blk c o)):h'.get i=some (.blk c o):=hl.get i _ hi rfl
theorem Heap.leV.map {h h' : Heap}(hl:h.leV h'){i:Nat}{c:List (Value × Value)}{o:Bool}(hi:h.get i=some (.map c o)):h'.get i=some (.map c o):=hl.get i _ hi rfl
def Heap.leB (h h' : Heap):Prop:=∀ id cells own,h.get id=some (.blk cells own)→h'.get id=some (.blk cells own)
theorem Heap.leV.b {h h' : Heap}(hl:h.leV h'):h.leB h':=fun _ _ _ hg=>hl.blk hg
theorem SlV.monoB {h h' : Heap}(hl:h.leB h'){s:Nat}{v:Value}{xs:List (lVq)}(ha:SlV h s v xs):SlV h' s v xs:=by
 rcases ha with ha | ⟨id,off,hv,ha⟩
 ·exact .inl ha
 ·exact .inr ⟨id,off,hv,ha.imp (fun e=>e) fun ⟨c,o,hg,hx⟩=>⟨c,o,hl _ _ _ hg,hx⟩⟩
end Go.Eng
namespace Go.Eng.Sy
open Go Go.Eng Go.Proofs
mutual
theorem ExC.monoB {h h' : Heap}(hl:h.leB h'):∀ {e:Ex}{x:lVq},ExC h e x→ExC h' e x
 | .mk _ _ _ _ _,_,⟨v,xs,h1,h2,hb,h3⟩=>⟨v,xs,h1,h2.monoB hl,hb,ExCs.monoB hl h3⟩
theorem ExCs.monoB {h h' : Heap}(hl:h.leB h'):∀ {l:List Ex}{xs:List (lVq)},ExCs h l xs→ExCs h' l xs
 | [],_,hx=>hx
 | _::_,_,⟨x,xr,h1,h2,h3⟩=>⟨x,xr,h1,ExC.monoB hl h2,ExCs.monoB hl h3⟩
end
mutual
theorem StC.monoB {h h' : Heap}(hl:h.leB h'):∀ {e:St}{x:lVq},StC h e x→StC h' e x
 | .mk _ _ _ _ _ _ _,_,⟨v,xs,u,ys,w,zs,h1,h2,h3,h4,h5⟩=>⟨v,xs,u,ys,w,zs,h1,⟨h2.1.monoB hl,h2.2.1,ExCs.monoB hl h2.2.2⟩,⟨h3.1.monoB hl,h3.2.1,StCs.monoB hl h3.2.2⟩,h4.monoB hl,h5.1,StCs.monoB hl h5.2⟩
theorem StCs.monoB {h h' : Heap}(hl:h.leB h'):∀ {l:List St}{xs:List (lVq)},StCs h l xs→StCs h' l xs
 | [],_,hx=>hx
 | _::_,_,⟨x,xr,h1,h2,h3⟩=>⟨x,xr,h1,StC.monoB hl h2,StCs.monoB hl h3⟩
end
theorem StsV.monoB {h h' : Heap}(hl:h.leB h'){v:Value}{l:List St}(hv:StsV h v l):StsV h' v l:=let ⟨xs,a,c,b⟩:=hv;⟨xs,a.monoB hl,c,b.monoB hl⟩
theorem TsC.monoB {h h' : Heap}(hl:h.leB h'){t:Tsk}{x:lVq}(hx:TsC h t x):TsC h' t x:=let ⟨v,a,b⟩:=hx;⟨v,a,b.monoB hl⟩
theorem TsCs.monoB {h h' : Heap}(hl:h.leB h'):∀ {l:List Tsk}{xs:List (lVq)},TsCs h l xs→TsCs h' l xs
 | [],_,hx=>hx
 | _::_,_,⟨x,xr,h1,h2,h3⟩=>⟨x,xr,h1,h2.monoB hl,TsCs.monoB hl h3⟩
theorem TssV.monoB {h h' : Heap}(hl:h.leB h'){v:Value}{l:List Tsk}(hv:TssV h v l):TssV h' v l:=let ⟨xs,a,c,b⟩:=hv;⟨xs,a.monoB hl,c,b.monoB hl⟩
theorem NmsV.monoB {h h' : Heap}(hl:h.leB h'){v:Value}{l:List Nm}(hv:NmsV h v l):NmsV h' v l:=⟨hv.1.monoB hl,hv.2⟩
theorem Strs.monoB {h h' : Heap}(hl:h.leB h'){v:Value}{l:List (lBq)}(ha:Strs h v l):Strs h' v l:=SlV.monoB hl ha
mutual
def Qp (hs:List (lBq)):St→List (St × List (lBq))
 | .mk k m f n a t e=>(.mk k m f n a t e,hs)::(zy (if k=5 then hs++[m] else hs) t++zy hs e)
def zy (hs:List (lBq)):List St→List (St × List (lBq))
 | []=>[]
 | s::r=>Qp hs s++zy hs r
end
theorem Jn (hs:List (lBq)):∀ (a b:List St),zy hs (a++b)=zy hs a++zy hs b
 | [],b=>rfl
 | s::a,b=>by simp only [List.cons_append,zy,Jn hs a b,List.append_assoc]
theorem zu2 (hs:List (lBq)){l:List St}{i:Nat}{s:St}(hi:l[i]? = some s):zy hs l=zy hs (l.take i)++(Qp hs s++zy hs (l.drop (i + 1))):=by
 obtain ⟨h1,h2⟩:=List.getElem?_eq_some_iff.1 hi;have:l=l.take i++s::l.drop (i + 1):=by
  rw [← h2,List.getElem_cons_drop,List.take_append_drop]
 conv=>lhs;rw [this]
 rw [Jn];rfl
def ku (l:List Nm) (s:lBq):Int:=match l.findIdx? (fun d=>d.name == s) with | some i=>(i:Int) | none=>-1
theorem yu7 {d:Nm}{q:Nat}{s:lBq}{own:Bool}{h:Heap}(hq0:h.get q=some (.blk [str s] own)) (Q:vPq) (hq:∀ v h',v = .bool (d.name == s)→h.le h' → Q v h'):CallW Tryz.prog 174 [nmV d.name d.n,pT q 0] h Q:=by
 have b1:=yc8 d.name d.n;obtain ⟨p,h1,ep,eh1,gp,lh1⟩:=zj h [str d.name,iI d.n];have g1:=lh1.get hq0;replace hq:=hq _ h1 rfl lh1;clear hq0;replace lh1:=za lh1;refine zg (k:=3) ok174 rfl rfl rfl fun N=>?_;rw [wn c174 Zm rfl];delta c174;replace hq:=za hq;simp only [zb,aR,ze,Jp, *];exact hq.h
theorem zs0 {d:Nm}{q:Nat}{s:lBq}{own:Bool}{h:Heap}(hq0:h.get q=some (.blk [str s] own)) (Q:vPq) (hq:∀ v h',v = .bool (d.name == s)→h.le h' → Q v h'):CallW Tryz.prog 80 [nmV d.name d.n,pT q 0] h Q:=by
 have b1:=yc8 d.name d.n;obtain ⟨p,h1,ep,eh1,gp,lh1⟩:=zj h [str d.name,iI d.n];have g1:=lh1.get hq0;replace hq:=hq _ h1 rfl lh1;clear hq0;replace lh1:=za lh1;refine zg (k:=3) ok80 rfl rfl rfl fun N=>?_;rw [wn c80 Zm rfl];delta c80;replace hq:=za hq;simp only [zb,aR,ze,Jp, *];exact hq.h
theorem device_c {h:Heap}{p:Prg}{n:Int}{d r t:Value}(hd:NmsV h d p.devs) (hr:r.oneCell' = true) (ht:t.oneCell' = true) (s:lBq) (Q:vPq) (hq:∀ h',h.le h' → Q (iI (ku p.devs s)) h'):CallW Tryz.prog 146 [prV n d r t,str s] h Q:=by
 have b1:=yy (n:=n) hd.one hr ht;obtain ⟨p1,h1,ep1,eh1,gp1,lh1⟩:=zj h [iI n,d,r,t];have b2:Je [str s]=some ([str s],fun id=>(pT id 0)):=rfl;obtain ⟨p2,h2,ep2,eh2,gp2,lh2⟩:=zj h1 [str s];have g1:=lh2.get gp1;have l2:=lh1.trans lh2;have hd2:=hd.mono l2;replace lh1:=za lh1;replace lh2:=za lh2;replace l2:=za l2;replace hd2:=za hd2;refine zg (k:=4) ok146 rfl rfl rfl fun N=>?_;rw [wn c146 u0 rfl];delta c146;replace hq:=za hq;simp only [zb,aR, *];refine Ql (l:=p.devs) (p:=fun d=>d.name == s) hd2.h.1 (by simp) hd2.h.2 (fun i e x he hx h3 Q hl hq=>?_) _ fun v h3 hv hl=>?_
 ·rw [zd4 he hx];refine CallW.val ?_;exact yu7 (hl.get gp2) Q hq
 ·subst hv;have g:=hq.h h3 (l2.h.trans hl);replace g:=Hid.mk g;simp only [zb, *];exact g.h
theorem Ye {h:Heap}{p:Prg}{n:Int}{d r t:Value}(hd:d.oneCell' = true) (hr:NmsV h r p.ress) (ht:t.oneCell' = true) (s:lBq) (Q:vPq) (hq:∀ h',h.le h' → Q (iI (ku p.ress s)) h'):CallW Tryz.prog 49 [prV n d r t,str s] h Q:=by
 have b1:=yy (n:=n) hd hr.one ht;obtain ⟨p1,h1,ep1,eh1,gp1,lh1⟩:=zj h [iI n,d,r,t];have b2:Je [str s]=some ([str s],fun id=>(pT id 0)):=rfl;obtain ⟨p2,h2,ep2,eh2,gp2,lh2⟩:=zj h1 [str s];have g1:=lh2.get gp1;have l2:=lh1.trans lh2;have hd2:=hr.mono l2;replace lh1:=za lh1;replace lh2:=za lh2;replace l2:=za l2;replace hd2:=za hd2;refine zg (k:=4) ok49 rfl rfl rfl fun N=>?_;rw [wn c49 u0 rfl];delta c49;replace hq:=za hq;simp only [zb,aR, *];refine Qk (l:=p.ress) (p:=fun d=>d.name == s) hd2.h.1 (by simp) hd2.h.2 (fun i e x he hx h3 Q hl hq=>?_) _ fun v h3 hv hl=>?_
 ·rw [zd4 he hx];refine CallW.val ?_;exact zs0 (hl.get gp2) Q hq
 ·subst hv;have g:=hq.h h3 (l2.h.trans hl);replace g:=Hid.mk g;simp only [zb, *];exact g.h
theorem undS:(Tryz.prog).underlying 9=some .string:=by kernel_rfl
theorem Wy {s:lBq}(hs:s.length≤1000):yu Tryz.prog 9 (str s)=true:=by
 have h1:(ByteArray.mk s.toArray).size≤maxLen:=by
  have:(ByteArray.mk s.toArray).size=s.length:=by simp [ByteArray.size]
  rw [this];exact Nat.le_trans hs (by decide)
 simp [yu,wy,Yq,keyOf,mapKey,undS,h1]
theorem flatEq_S (a b:lBq):kx (str a) (str b)=(a == b):=by
 simp [kx,Qt]
abbrev tkE (e:lBq × Int):Value × Value:=(str e.1,iI e.2)
def TkM (es:List (Value × Value)) (nm:List (lBq)):Prop:=∃ l:List (lBq × Int),es=l.map tkE∧(∀ e ∈ l,1≤e.2∧e.2≤nm.length)∧(∀ s,s ∈ l.map (·.1)↔s ∈ nm)∧(l.map (·.1)).Nodup∧l.length≤nm.length∧(l.length=nm.length↔nm.Nodup) ∧ ∀ s ∈ nm,s.length≤1000
theorem TkM.nil:TkM [] []:=⟨[],rfl,by simp,by simp,by simp,by simp,by simp,by simp⟩
theorem zr5 (l:List (lBq × Int)) (s:lBq):(l.map tkE).findIdx? (fun e=>kx e.1 (str s))=l.findIdx? (fun e=>e.1 == s):=by
 rw [List.findIdx?_map]
 congr 1
 funext e
 exact flatEq_S e.1 s
theorem yk6 {l:List (lBq × Int)}(hl:∀ s ∈ l.map (·.1),s.length≤1000):((l.map tkE).all fun e=>yu Tryz.prog 9 e.1)=true:=by
 rw [List.all_eq_true];intro e he;obtain ⟨x,hx,rfl⟩:=List.mem_map.1 he;exact Wy (hl _ (List.mem_map.2 ⟨x,hx,rfl⟩))
theorem TkM.look {es:List (Value × Value)}{nm:List (lBq)}(ht:TkM es nm){s:lBq}(hsl:s.length≤1000){mid:Nat}{own:Bool}{h:Heap}(hg:h.get mid=some (.map es own)) :
  ∃ z:Int,Yb (yu Tryz.prog 9) (iI 0) false [.map (some mid),str s] h.get=some (iI z)∧decide (0 < z)=nm.contains s∧0≤z∧z≤nm.length:=by
 obtain ⟨l,rfl,h1,h2,h3,h4,h5,h6⟩:=ht;have hgood:=yk6 fun s hs=>h6 s ((h2 s).1 hs);have hgs:=Wy hsl;simp only [Yb,hg,hgs,hgood,Bool.true_and,if_true,Bool.false_eq_true,if_false,zr5];cases hf:l.findIdx? (fun e=>e.1 == s) with
 | none =>
  refine ⟨0,by simp,?_,by omega,by omega⟩;have hn:s ∉ nm:=fun hs=>by
   obtain ⟨e,he,rfl⟩:=List.mem_map.1 ((h2 s).2 hs);have:=List.findIdx?_eq_none_iff.1 hf e he;simp at this
  simp [hn]
 | some i =>
  obtain ⟨hi,he,_⟩:=List.findIdx?_eq_some_iff_getElem.1 hf;have hm:=List.getElem_mem hi;refine ⟨(l[i]).2,by simp [hi],?_,?_,?_⟩
  ·have hs:s ∈ nm:=(h2 s).1 (List.mem_map.2 ⟨_,hm,by simpa using he⟩);have:=(h1 _ hm).1;simp [hs];omega
  ·have:=(h1 _ hm).1;omega
  ·exact (h1 _ hm).2
theorem Yf {l:List (lBq)}{s:lBq}:(l++[s]).Nodup↔l.Nodup∧s ∉ l:=by
 rw [List.nodup_append];simp;intro _;constructor
 ·intro h hs;exact h s hs rfl
 ·rintro h a ha rfl;exact h ha
theorem TkM.put {es:List (Value × Value)}{nm:List (lBq)}(ht:TkM es nm){s:lBq}(hsl:s.length≤1000){mid:Nat}{h:Heap}(hg:h.get mid=some (.map es true)){z:Int}(hz:Yb (yu Tryz.prog 9) (iI 0) false [.map (some mid),str s] h.get=some (iI z)) :
  ∃ es',Zl (yu Tryz.prog 9) h [.map (some mid),str s,iI (z + 1)]=some (udq,h.set mid (.map es' true))∧TkM es' (nm++[s]):=by
 obtain ⟨l,rfl,h1,h2,h3,h4,h5,h6⟩:=ht;have hgood:=yk6 fun s hs=>h6 s ((h2 s).1 hs);have hgs:=Wy hsl;simp only [Yb,hg,hgs,hgood,Bool.true_and,if_true,Bool.false_eq_true,if_false,zr5] at hz;simp only [Zl,hg,hgs,hgood,Bool.true_and,if_true];refine ⟨_,rfl,?_⟩;have hall:∀ t ∈ nm++[s],t.length≤1000:=fun t ht=>by
  rcases List.mem_append.1 ht with ht | ht
  ·exact h6 t ht
  ·rw [List.mem_singleton.1 ht];exact hsl
 unfold Z4;rw [zr5];cases hf:l.findIdx? (fun e=>e.1 == s) with
 | none =>
  rw [hf] at hz;simp at hz;subst hz;have hns:s ∉ l.map (·.1):=fun hs=>by
   obtain ⟨e,he,rfl⟩:=List.mem_map.1 hs;have:=List.findIdx?_eq_none_iff.1 hf e he;simp at this
  refine ⟨l++[(s,1)],by simp,?_,?_,?_,?_,?_,hall⟩
  ·intro e he;rw [List.length_append];rcases List.mem_append.1 he with he | he
   ·have:=h1 e he;simp;omega
   ·rw [List.mem_singleton.1 he];simp;omega
  ·intro t;rw [List.map_append,List.mem_append,List.mem_append,h2 t];simp
  ·rw [List.map_append];exact Yf.2 ⟨h3,hns⟩
  ·simp;omega
  ·rw [Yf,List.length_append,List.length_append,← h5];have:s ∉ nm:=fun hs=>hns ((h2 s).2 hs);simp [this]
 | some i =>
  rw [hf] at hz;obtain ⟨hi,he,_⟩:=List.findIdx?_eq_some_iff_getElem.1 hf;have he' : (l[i]).1=s:=by simpa using he
  have hm:=List.getElem_mem hi;simp [hi] at hz;subst hz;have hs:s ∈ nm:=(h2 s).1 (List.mem_map.2 ⟨_,hm,he'⟩);have hmap:(l.set i (s,(l[i]).2 + 1)).map (·.1)=l.map (·.1):=by
   rw [List.map_set];apply List.ext_getElem?;intro k;rw [List.getElem?_set];by_cases e:i=k
   ·subst e;simp [hi,he']
   ·rw [if_neg e]
  refine ⟨l.set i (s,(l[i]).2 + 1),by rw [List.map_set],?_,?_,?_,?_,?_,hall⟩
  ·intro e hx;rw [List.length_append];rcases List.mem_or_eq_of_mem_set hx with hx | rfl
   ·have:=h1 e hx;simp;omega
   ·have:=h1 _ hm;simp;omega
  ·intro t;rw [hmap,h2 t,List.mem_append,List.mem_singleton];constructor
   ·exact .inl
   ·rintro (h | rfl)
    ·exact h
    ·exact hs
  ·rw [hmap];exact h3
  ·rw [List.length_set,List.length_append];omega
  ·rw [List.length_set,Yf,List.length_append];constructor
   ·intro e;simp at e;omega
   ·rintro ⟨_,e⟩;exact absurd hs e
structure Ck (h:Heap) (q:Nat) (p:Prg) (nm:List (lBq)) (d r t:Value) (mid:Nat):Prop where
 get:∃ own,h.get q=some (.blk [iI p.harts,d,r,t,.map (some mid)] own)
 hd:NmsV h d p.devs
 hr:NmsV h r p.ress
 ht:TssV h t p.tasks
 map:∃ es own,h.get mid=some (.map es own)∧TkM es nm
theorem Ck.mono {h h' : Heap}(hl:h.leV h'){q:Nat}{p:Prg}{nm:List (lBq)}{d r t:Value}{mid:Nat}(hc:Ck h q p nm d r t mid):Ck h' q p nm d r t mid :=
 ⟨let ⟨o,e⟩:=hc.get;⟨o,hl.blk e⟩,hc.hd.monoB hl.b,hc.hr.monoB hl.b,hc.ht.monoB hl.b,let ⟨es,o,e,m⟩:=hc.map;⟨es,o,hl.map e,m⟩⟩
theorem zd1 (a b c d e:Value):qu true 0 4 [a,b,c,d,e]=some (.agg #[a,b,c,d]):=rfl
abbrev ptr (q:Nat):Value:=(pT q 0)
def Zw (nm:List (lBq)) (s:lBq):Int:=if nm.contains s then 80 else 0
def uu (p:Prg) (s:lBq):Int:=if ku p.devs s < 0 then 84 else 0
def W9 (p:Prg) (s:lBq) (hs:List (lBq)):Int:=if ku p.ress s < 0 then 84 else if hs.contains s then 0 else 86
def zm4 (p:Prg) (s:lBq) (hs:List (lBq)):Int:=if ku p.ress s < 0 then 84 else if hs.any (fun x=>decide (ku p.ress s≤ku p.ress x)) then 85 else 0
section
variable {h:Heap}{q:Nat}{p:Prg}{nm:List (lBq)}{d r t:Value}{mid:Nat}
theorem zs9 (hc:Ck h q p nm d r t mid){s:lBq}(hs:s.length≤1000) (Q:vPq) (hq:Q (iI (Zw nm s)) h):CallW Tryz.prog 117 [ptr q,str s] h Q:=by
 obtain ⟨own,gq⟩:=hc.get;obtain ⟨es,own2,gm,hm⟩:=hc.map;obtain ⟨z,hz,hzc,hz0,_⟩:=hm.look hs gm;unfold Zw at hq;rw [← hzc] at hq;clear hm;replace hz0:=za hz0;replace hzc:=za hzc;replace hc:=za hc;refine zg (k:=2) ok117 rfl rfl rfl fun N=>?_;rw [wn c117 kv rfl];delta c117;replace hq:=za hq;by_cases h0:0 < z
 ·have hq':=hq.h;rw [decide_eq_true h0,if_pos rfl] at hq';replace hq':=Hid.mk hq';clear hq;simp only [zb,aR,ze,zf, *];exact hq'.h
 ·have hq':=hq.h;rw [decide_eq_false h0] at hq';simp only [Bool.false_eq_true,if_false] at hq';replace hq':=Hid.mk hq';clear hq;simp only [zb,aR,ze,zf, *];exact hq'.h
theorem zo9 (hc:Ck h q p nm d r t mid) (s:lBq) (Q:vPq) (hq:∀ h',h.le h' → Q (iI (uu p s)) h'):CallW Tryz.prog 118 [ptr q,str s] h Q:=by
 obtain ⟨own,gq⟩:=hc.get;replace hc:=za hc;refine zg (k:=2) ok118 rfl rfl rfl fun N=>?_;rw [wn c118 kv rfl];delta c118;replace hq:=za hq;simp only [zb,aR,zd1, *];refine device_c (p:=p) hc.h.hd hc.h.hr.one hc.h.ht.one s _ fun h1 l1=>?_;have g:=hq.h h1 l1;unfold uu at g;clear hq;by_cases h0:ku p.devs s < 0
 ·rw [if_pos h0] at g;replace g:=Hid.mk g;simp only [zb,ze,zf, *];exact g.h
 ·rw [if_neg h0] at g;replace g:=Hid.mk g;simp only [zb,ze,zf, *];exact g.h
theorem held_c (hc:Ck h q p nm d r t mid){s:lBq}{vh:Value}{hs:List (lBq)}(hv:Strs h vh hs) (hl:hs.length≤1000) (Q:vPq) (hq:∀ h',h.le h' → Q (iI (W9 p s hs)) h'):CallW Tryz.prog 120 [ptr q,str s,vh] h Q:=by
 obtain ⟨own,gq⟩:=hc.get;replace hc:=za hc;replace hl:=za hl;replace hv:=za hv;refine zg (k:=3) ok120 rfl rfl rfl fun N=>?_;rw [zj7 c120 kv rfl];delta c120;replace hq:=za hq;simp only [zb,aR,zd1, *];refine Ye (p:=p) hc.h.hd.one hc.h.hr hc.h.ht.one s _ fun h1 l1=>?_;by_cases h0:ku p.ress s < 0
 ·have g:=hq.h h1 l1;unfold W9 at g;rw [if_pos h0] at g;clear hq;replace g:=Hid.mk g;simp only [zb,ze,zf, *];exact g.h
 ·replace l1:=Hid.mk l1;simp only [zb,ze,zf, *];refine za5 (by have:=hl.h;omega) s (hv.h.mono l1.h) _ fun h2 l2=>?_;have g:=hq.h h2 (l1.h.trans l2);unfold W9 at g;rw [if_neg h0] at g;clear hq;cases hcn:hs.contains s with
  | true =>
   rw [hcn,if_pos rfl] at g;replace g:=Hid.mk g;simp only [zb, *];exact g.h
  | false =>
   rw [hcn] at g;simp only [Bool.false_eq_true,if_false] at g;replace g:=Hid.mk g;simp only [zb, *];exact g.h
theorem lock1_c (hc:Ck h q p nm d r t mid){x:lBq}{a b:Nat}{k:Int}{o1 o2:Bool}(ga:h.get a=some (.blk [ptr q] o1)) (gb:h.get b=some (.blk [iI k] o2)) (Q:vPq) (hq:∀ v h',v = .bool (decide (k≤ku p.ress x))→h.le h' → Q v h'):CallW Tryz.prog 148 [str x,ptr a,ptr b] h Q:=by
 obtain ⟨own,gq⟩:=hc.get;replace hc:=za hc;refine zg (k:=3) ok148 rfl rfl rfl fun N=>?_;rw [zj7 c148 kv rfl];delta c148;replace hq:=za hq;simp only [zb,aR,zd1, *];refine Ye (p:=p) hc.h.hd.one hc.h.hr hc.h.ht.one x _ fun h1 l1=>?_;first | refine zb9 l1.ext ?_ | skip
 have g:=hq.h _ h1 rfl l1;have gb1:=l1.get gb;clear hq;by_cases h0:k≤ku p.ress x
 ·rw [decide_eq_true h0] at g;replace g:=Hid.mk g;simp only [zb,aR,ze,zf, *];exact g.h
 ·rw [decide_eq_false h0] at g;replace g:=Hid.mk g;simp only [zb,aR,ze,zf, *];exact g.h
end
theorem Ue {v fv:Value}{l:List (lBq)}{p:(lBq)→Bool}{h0 h:Heap}(hv:Strs h0 v l) (hh:h0.le h) (hl63:(l.length:Int)≤9223372036854775807)
  (hf:∀ e ∈ l,∀ h1 Q,h.le h1→(∀ v h',v = .bool (p e)→h1.le h' → Q v h')→ValW Tryz.prog fv [str e] h1 Q) (Q:vPq)
  (hq:∀ v h',v = iI (match l.findIdx? p with | some i=>(i:Int) | none=>-1)→h.le h' → Q v h'):CallW Tryz.prog 175 [v,fv] h Q:=by
 refine zg (k:=2) ok175 rfl rfl rfl fun N=>?_;rw [wn c175 J4 rfl];delta c175;replace hq:=za hq;simp only [zb,hv.len, *];refine LoopW.upto l.length (fun i e h1=>h.le h1∧(∀ j e,j < i→l[j]? = some e→p e=false) ∧ ∃ x3 x6,e=[v,fv,iI 0,x3,iI l.length,iI i,x6]) ?_ (Nat.zero_le _) ⟨Heap.le.refl h,by intro j e hj;omega,_,_,rfl⟩;rintro i _ h1 R hi ⟨hl1,hp,x3,x6,rfl⟩ hR;delta yz2;by_cases hlt:i < l.length
 ·have hlt' : (i:Int) < l.length:=by omega
  obtain ⟨e,he⟩:∃ e,l[i]? = some e:=⟨_,List.getElem?_eq_getElem hlt⟩;obtain ⟨id,off,cells,own,e1,e2,e3,_⟩:=(hv.mono (hh.trans hl1)).elem he;have hw:IntKind.i64.wrap ((i:Int) + 1)=((i + 1:Nat):Int):=by rw [zn (by omega) (by omega)];rfl
  simp only [zb,aR,ze,zf, *];refine hf e (List.mem_of_getElem? he) h1 _ hl1 fun v2 h2 hv2 hl2=>?_;subst hv2;cases hpe:p e with
  | true =>
   simp only [zb, *];refine hq.h _ _ ?_ (hl1.trans hl2);have:l.findIdx? p=some i:=by
    rw [List.findIdx?_eq_some_iff_getElem];refine ⟨hlt,by rw [List.getElem?_eq_getElem hlt] at he;cases he;exact hpe,fun j hj=>?_⟩;have:=hp j l[j] hj (List.getElem?_eq_getElem _);simp [this]
   rw [this]
  | false =>
   simp only [zb,ze,zf, *];refine hR.h _ _ hlt ⟨hl1.trans hl2,fun j e' hj hje=>?_,_,_,rfl⟩;by_cases hji:j=i
   ·subst hji;rw [he] at hje;cases hje;exact hpe
   ·exact hp j e' (by omega) hje
 ·have hlt' : ¬ (i:Int) < l.length:=by omega
  have hnone:l.findIdx? p=none:=by
   rw [List.findIdx?_eq_none_iff];intro e he;obtain ⟨j,hj⟩:=List.mem_iff_getElem?.1 he;exact hp j e (by have:=(List.getElem?_eq_some_iff.1 hj).1;omega) hj
  simp only [zb,ze,zf, *];exact hq.h _ _ (by rw [hnone]) hl1
theorem zf6 {v fv:Value}{l:List (lBq)}{p:(lBq)→Bool}{h0 h:Heap}(hv:Strs h0 v l) (hh:h0.le h) (hl63:(l.length:Int)≤9223372036854775807)
  (hf:∀ e ∈ l,∀ h1 Q,h.le h1→(∀ v h',v = .bool (p e)→h1.le h' → Q v h')→ValW Tryz.prog fv [str e] h1 Q) (Q:vPq)
  (hq:∀ v h',v = .bool (l.any p)→h.le h' → Q v h'):CallW Tryz.prog 147 [v,fv] h Q:=by
 refine zg (k:=2) ok147 rfl rfl rfl fun N=>?_;rw [wn c147 kv rfl];delta c147;replace hq:=za hq;simp only [zb, *];refine Ue hv hh hl63 hf _ fun v h' hv' hl'=>?_;subst hv';simp only [zb,ze,zf, *];refine hq.h _ _ ?_ hl';cases hx:l.findIdx? p with
 | none =>
  have:=List.findIdx?_eq_none_iff.1 hx;have hn:l.any p=false:=by simpa [List.any_eq_false] using this
  simp [hn]
 | some i =>
  have:=List.findIdx?_eq_some_iff_getElem.1 hx;have hn:l.any p=true:=List.any_eq_true.2 ⟨_,List.getElem_mem this.1,this.2.1⟩;simp [hn]
section
variable {h:Heap}{q:Nat}{p:Prg}{nm:List (lBq)}{d r t:Value}{mid:Nat}
theorem lock_c (hc:Ck h q p nm d r t mid){s:lBq}{vh:Value}{hs:List (lBq)}(hv:Strs h vh hs) (hl:hs.length≤1000) (Q:vPq) (hq:∀ h',h.le h' → Q (iI (zm4 p s hs)) h'):CallW Tryz.prog 119 [ptr q,str s,vh] h Q:=by
 have b1:Je [ptr q]=some ([ptr q],fun id=>ptr id):=rfl;obtain ⟨p1,h1,ep1,eh1,gp1,lh1⟩:=zj h [ptr q];have hc1:=hc.mono lh1.v;have hv1:=hv.mono lh1;obtain ⟨own,gq⟩:=hc1.get;clear hc hv;replace hc1:=za hc1;replace hl:=za hl;replace hv1:=za hv1;replace lh1:=za lh1;refine zg (k:=4) ok119 rfl rfl rfl fun N=>?_;rw [zj7 c119 u0 rfl];delta c119;replace hq:=za hq;simp only [zb,aR,zd1, *];refine Ye (p:=p) hc1.h.hd.one hc1.h.hr hc1.h.ht.one s _ fun h2 l2=>?_;obtain ⟨k,hk⟩:∃ k,ku p.ress s=k:=⟨_,rfl⟩;rw [hk];have st:zt 1 (h2.alloc (.blk [iI 0] true)) [pT h2.next 0,iI k]=some (udq,h2.alloc (.blk [iI k] true)):=zx rfl rfl rfl rfl;obtain ⟨p3,h3,ep3,eh3,gp3,lh3⟩:=zj h2 [iI k];rw [eh3,ep3] at st;have l3:=l2.trans lh3;have hc3:=hc1.h.mono l3.v;have hv3:=hv1.h.mono l3;have gp13:=l3.get gp1;have lAll:=lh1.h.trans l3;clear hc1 hv1 gq gp1 l2 lh3 l3 b1;replace hc3:=za hc3;replace hv3:=za hv3;replace hk:=za hk;replace lAll:=za lAll;by_cases h0:k < 0
 ·have g:=hq.h h3 lAll.h;unfold zm4 at g;rw [hk.h,if_pos h0] at g;clear hq;replace g:=Hid.mk g;simp only [zb,aR,aW,ze,zf, *];exact g.h
 ·simp only [zb,aR,aW,ze,zf, *];refine zf6 (p:=fun x=>decide (k≤ku p.ress x)) hv3.h (Heap.le.refl _) (by have:=hl.h;omega) (fun x _ h4 Q l4 hq=>?_) _ fun v h4 hv4 l4=>?_
  ·refine CallW.val ?_;exact lock1_c (hc3.h.mono l4.v) (l4.get gp13) (l4.get gp3) Q hq
  ·subst hv4;have g:=hq.h h4 (lAll.h.trans l4);unfold zm4 at g;rw [hk.h,if_neg h0] at g;clear hq;cases ha:hs.any (fun x=>decide (k≤ku p.ress x)) with
   | true =>
    rw [ha,if_pos rfl] at g;replace g:=Hid.mk g;simp only [zb, *];exact g.h
   | false =>
    rw [ha] at g;simp only [Bool.false_eq_true,if_false] at g;replace g:=Hid.mk g;simp only [zb, *];exact g.h
end
def Hold (h:Heap) (v:Value) (l:List (lBq)):Prop:=Strs h v l∧(l=[]→v = nSq)
theorem Hold.nil (h:Heap):Hold h nSq []:=⟨.inl ⟨rfl,rfl⟩,fun _=>rfl⟩
theorem Hold.monoB {h h' : Heap}(hl:h.leB h'){v:Value}{l:List (lBq)}(hv:Hold h v l):Hold h' v l:=⟨hv.1.monoB hl,hv.2⟩
theorem clip_c {v:Value}{l:List (lBq)}{h:Heap}(hv:Hold h v l) (Q:vPq)
  (hq:∀ u,(l=[]∧u = nSq ∨ ∃ id off,l≠[]∧v = .slice (some ⟨id,off,none⟩) l.length 1∧u = .slice (some ⟨id,off,some 0⟩) l.length 1)→Q u h):CallW Tryz.prog 145 [v] h Q:=by
 obtain ⟨n,u,e1,e2,hq⟩:∃ (n:Nat) (u:Value),ua [v]=some (iI n)∧pClip 1 [v,iI n,iI n]=some u∧Q u h:=by
  rcases hv.1 with ⟨rfl,hl⟩ | ⟨id,off,rfl,ha⟩
  ·have hl' : l=[]:=by simpa using hl
   exact ⟨0,_,rfl,rfl,hq _ (.inl ⟨hl',rfl⟩)⟩
  ·rw [List.length_map] at hv hq ⊢;cases l with
   | nil=>have:=hv.2 rfl;cases this
   | cons s r=>exact ⟨_,_,rfl,by simp [pClip],hq _ (.inr ⟨id,off,by simp,rfl,rfl⟩)⟩
 clear hv;refine zg (k:=1) ok145 rfl rfl rfl fun N=>?_;rw [Yo c145 kv rfl];delta c145;replace hq:=za hq;simp only [zb,aP, *];exact hq.h
section
variable (p:Prg) (nm hs:List (lBq))
def ut (k:Int) (m:lBq):Int:=if k=2 then Zw nm m else if k=5 then W9 p m hs else 0
mutual
def Ya:Ex→Int
 | .mk k o n m args=>if ut p nm hs k m=0 then kf args else ut p nm hs k m
def kf:List Ex→Int
 | []=>0
 | e::r=>if Ya e=0 then kf r else Ya e
end
theorem Zq:∀ {l:List Ex}{i:Nat}{e:Ex},kf p nm hs (l.take i)=0→l[i]? = some e→(Ya p nm hs e=0→kf p nm hs (l.take (i + 1))=0)∧(Ya p nm hs e≠0→kf p nm hs l=Ya p nm hs e)
 | [],i,e,_,h=>by simp at h
 | a::l,0,e,_,h=>by
  simp at h;subst h;constructor
  ·intro h0;simp [kf,h0]
  ·intro h0;simp [kf,h0]
 | a::l,i + 1,e,h0,h=>by
  rw [List.take_succ_cons] at h0;simp only [kf] at h0;split at h0
  ·rename_i ha;obtain ⟨h1,h2⟩:=Zq (l:=l) h0 (by simpa using h);constructor
   ·intro hh;rw [List.take_succ_cons];simp only [kf,ha,if_true];exact h1 hh
   ·intro hh;simp only [kf,ha,if_true];exact h2 hh
  ·rename_i ha;exact absurd h0 ha
end
theorem cutZ {P:Int→Heap→Prop}{G:Int→Heap→Prop}{T:Prop}(h:(∀ z x,P z x→G z x)→T) (g:∀ z x,P z x→G z x):T:=h g
theorem kr {m:lBq}(h:zo m=true):m.length≤1000:=by have:=W4 h;omega
section
variable {q:Nat}{p:Prg}{nm:List (lBq)}{d r t:Value}{mid:Nat}
def qc7 (q:Nat) (p:Prg) (nm:List (lBq)) (d r t:Value) (mid:Nat) (n:Nat):Prop:=∀ (l:List Ex),(∀ e ∈ l,ExI e n) → ∀ (v:Value) (hs:List (lBq)) (vh:Value) (h:Heap) (Q:vPq),Ck h q p nm d r t mid→ExsV h v l→Strs h vh hs→hs.length≤1000 →
 (∀ h',h.le h' → Q (iI (kf p nm hs l)) h')→CallW Tryz.prog 121 [ptr q,v,vh] h Q
theorem yb1 {n:Nat}(ih:∀ n',n=n' + 1→qc7 q p nm d r t mid n'):qc7 q p nm d r t mid n:=by
 intro l hl v hs vh h Q hc hv hh hhl hq;have hln:=hv.len;have hle:=hv.le;replace hc:=za hc;replace hv:=za hv;replace hh:=za hh;replace hhl:=za hhl;replace ih:=za ih;replace hl:=za hl;refine zg (k:=3) ok121 rfl rfl rfl fun N=>?_;rw [zj7 c121 zr4 rfl];delta c121;replace hq:=za hq;simp only [zb, *];refine LoopW.upto l.length (fun i e h1=>h.le h1∧kf p nm hs (l.take i)=0 ∧ ∃ x4 x5 x9 x10,e=[ptr q,v,vh,iI 0,x4,x5,v,iI l.length,iI i,x9,x10]) ?_ (Nat.zero_le _) ⟨Heap.le.refl _,rfl,_,_,_,_,rfl⟩;rintro i _ h1 R hi ⟨hl1,hpre,x4,x5,x9,x10,rfl⟩ hR;delta yc3;by_cases hlt:i < l.length
 case neg =>
  have hlt' : ¬ (i:Int) < l.length:=by omega
  have g:=hq.h h1 hl1;rw [List.take_of_length_le (by omega)] at hpre;rw [hpre] at g;clear hq hpre;replace g:=Hid.mk g;simp only [zb,ze,zf, *];exact g.h
 case pos =>
  have hlt' : (i:Int) < l.length:=by omega
  have hw:IntKind.i64.wrap ((i:Int) + 1)=((i + 1:Nat):Int):=by rw [zn (by omega) (by omega)];rfl
  obtain ⟨e,he⟩:∃ e,l[i]? = some e:=⟨_,List.getElem?_eq_getElem hlt⟩;have heI:=hl.h e (List.mem_of_getElem? he);obtain ⟨s1,s2⟩:=Zq p nm hs hpre he;obtain ⟨id,off,cells,own,x,e1,e2,e3,hx,_⟩:=(hv.h.mono hl1).elem he;obtain ⟨u,hxe,hargs⟩:=hx.cells;rw [hxe] at e3;have o1:=hargs.one;have hka:∀ n',n=n' + 1 → ∀ a ∈ e.args,ExI a n':=by
   intro n' hn a ha;subst hn;cases heI with
   | num=>cases ha
   | var=>cases ha
   | one o a' d h hA=>simp [Ex.args] at ha;subst ha;exact hA
   | two o a' b' d h hA hB=>simp [Ex.args] at ha;rcases ha with rfl | rfl;exact hA;exact hB
   | idx m a' d h hA=>simp [Ex.args] at ha;subst ha;exact hA
  have hpos:∃ n',n=n' + 1:=by cases heI<;>exact ⟨_,rfl⟩
  have hnm:e.kind=2→e.name.length≤1000:=by
   intro hk;cases heI<;>simp [Ex.kind] at hk;rename_i h;exact kr h
  have st:zt 5 (h1.alloc (.blk [iI 0,iI 0,iI 0,s0q,nSq] true)) [pT h1.next 0,exV e.kind e.op e.n e.name u]=some (udq,h1.alloc (.blk [iI e.kind,iI e.op,iI e.n,str e.name,u] true)):=by
   obtain ⟨_,hargs1,_⟩:=hargs;obtain ⟨_,_,_,rfl⟩:=SlV.isS hargs1;exact zx rfl rfl rfl rfl
  obtain ⟨px,h2,epx,eh2,gpx,lh2⟩:=zj h1 [iI e.kind,iI e.op,iI e.n,str e.name,u];rw [eh2,epx] at st;have hl2:=hl1.trans lh2;have ha2:=hargs.mono lh2;have er:Ya p nm hs e=if ut p nm hs e.kind e.name=0 then kf p nm hs e.args else ut p nm hs e.kind e.name:=by cases e;rfl
  clear hx hargs hxe hpre;obtain ⟨n',rfl⟩:=hpos;have ih':=ih.h n' rfl;have hka':=hka n' rfl;clear hka ih;replace s1:=za s1;replace s2:=za s2;replace hl2:=za hl2;replace ha2:=za ha2;replace er:=za er;replace hl1:=za hl1;replace lh2:=za lh2;replace hnm:=za hnm;replace he:=za he;replace heI:=za heI;replace ih':=za ih';replace hka':=za hka';refine cutZ (P:=fun z hX=>h2.le hX∧z=ut p nm hs e.kind e.name) (G:=?G) ?b ?main
  case b =>
   intro main;replace main:=Hid.mk main;cases k2:(e.kind == 2) with
   | true =>
    have k2' : e.kind=2:=by simpa using k2
    obtain ⟨z,hz⟩:∃ z,Zw nm e.name=z:=⟨_,rfl⟩;have hz2:z=ut p nm hs e.kind e.name:=by simp [ut,k2',hz]
    replace hz:=za hz;replace hz2:=za hz2;replace k2':=za k2';simp only [zb,aR,aW,ze,zf, *];refine zs9 (hc.h.mono hl2.h.v) (hnm.h k2'.h) _ ?_;rw [hz.h];simp only [zb,aR,aW,ze,zf,Int.reduceBEq,Int.reduceBNe,Nat.reduceBEq,Int.reduceLT,Int.reduceLE];obtain ⟨hX,hXe⟩:∃ x,x=h2:=⟨_,rfl⟩;rw [← hXe];exact main.h z hX ⟨by rw [hXe];exact Heap.le.refl _,hz2.h⟩
   | false =>
    cases k5:(e.kind == 5) with
    | true =>
     have k5' : e.kind=5:=by simpa using k5
     have k2' : ¬ e.kind=2:=by simpa using k2
     replace k5':=za k5';replace k2':=za k2';simp only [zb,aR,aW,ze,zf, *];refine held_c (hc.h.mono hl2.h.v) (hh.h.mono hl2.h) hhl.h _ fun h3 l3=>?_;obtain ⟨z,hz⟩:∃ z,W9 p e.name hs=z:=⟨_,rfl⟩;have hz2:z=ut p nm hs e.kind e.name:=by simp [ut,k5'.h,hz]
     rw [hz];replace hz:=za hz;replace hz2:=za hz2;replace l3:=za l3;simp only [zb,aR,aW,ze,zf,Int.reduceBEq,Int.reduceBNe,Nat.reduceBEq,Int.reduceLT,Int.reduceLE];exact main.h z h3 ⟨l3.h,hz2.h⟩
    | false =>
     have k5' : ¬ e.kind=5:=by simpa using k5
     have k2' : ¬ e.kind=2:=by simpa using k2
     have hz2:(0:Int)=ut p nm hs e.kind e.name:=by simp [ut,k5',k2']
     replace k5':=za k5';replace k2':=za k2';replace hz2:=za hz2;have m:=main.h 0 h2 ⟨Heap.le.refl _,hz2.h⟩;simp only [zb,aR,aW,ze,zf,Int.reduceBEq,Int.reduceBNe,Nat.reduceBEq,Int.reduceLT,Int.reduceLE,gpx] at m;simp only [zb,aR,aW,ze,zf, *]
     try exact m
  case main =>
   rintro z h3 ⟨l3,hz⟩;have gp3:=l3.get gpx;have hl3:=hl2.h.trans l3;have ha3:=ha2.h.mono l3;replace l3:=za l3;replace hz:=za hz;replace hl3:=za hl3;replace ha3:=za ha3;cases z0:(z == 0) with
   | true =>
    have z0' : z=0:=by simpa using z0
    have er' : Ya p nm hs e=kf p nm hs e.args:=by rw [er.h,← hz.h,if_pos z0']
    replace z0':=za z0';replace er':=za er';simp only [zb,aR, *];refine ih'.h e.args hka'.h u hs vh h3 _ (hc.h.mono hl3.h.v) ha3.h (hh.h.mono hl3.h) hhl.h fun h4 l4=>?_;rw [← er'.h];have hl4:=hl3.h.trans l4;cases w0:(Ya p nm hs e == 0) with
    | true =>
     have w0' : Ya p nm hs e=0:=by simpa using w0
     have w1:=s1.h w0';have w2:(Ya p nm hs e != 0)=false:=by simp [w0']
     replace w0':=za w0';replace w1:=za w1;replace hl4:=za hl4;simp only [zb,ze,zf, *];exact hR.h _ _ hlt ⟨hl4.h,w1.h,_,_,_,_,rfl⟩
    | false =>
     have w0' : Ya p nm hs e≠0:=by simpa using w0
     have w2:(Ya p nm hs e != 0)=true:=by simp [w0']
     have g:=hq.h h4 hl4;rw [s2.h w0'] at g;replace w0':=za w0';replace hl4:=za hl4;replace g:=za g;simp only [zb,ze,zf, *];exact g.h
   | false =>
    have z0' : z≠0:=by simpa using z0
    have z2:(z != 0)=true:=by simp [z0']
    have er' : Ya p nm hs e=z:=by rw [er.h,← hz.h,if_neg z0']
    have g:=hq.h h3 hl3.h;rw [s2.h (by rw [er'];exact z0'),er'] at g;replace z0':=za z0';replace er':=za er';replace g:=za g;simp only [zb,ze,zf, *];exact g.h
theorem yt4:∀ (n:Nat),qc7 q p nm d r t mid n
 | 0=>yb1 fun n' h=>by omega
 | n + 1=>yb1 fun n' h=>by
  have:n' = n:=by omega
  subst this;exact yt4 n'
end
def jq (p:Prg) (nm hs:List (lBq)) (s:St):Int :=
 if s.kind=1 then Zw nm s.name else if s.kind=2 then (if Zw nm s.name=0 then uu p s.src else Zw nm s.name) else
 if s.kind=3 then uu p s.name else if s.kind=5 then zm4 p s.name hs else if s.kind=4 then W9 p s.name hs else 0
def We (p:Prg) (nm hs:List (lBq)) (s:St):Int:=if jq p nm hs s=0 then kf p nm hs s.args else jq p nm hs s
theorem StI.args {s:St}{n:Nat}(h:StI s n):∀ a ∈ s.args,ExI a 30:=by
 intro a ha;cases h with
 | set m b d h hb=>simp [St.args] at ha;subst ha;exact hb
 | get=>simp [St.args] at ha
 | put m n b d h hn hb=>simp [St.args] at ha;subst ha;exact hb
 | store m b c d h hb hc=>simp [St.args] at ha;rcases ha with rfl | rfl;exact hb;exact hc
 | lock=>simp [St.args] at ha
 | cond b t e d hb=>simp [St.args] at ha;subst ha;exact hb
 | rep=>simp [St.args] at ha
 | halt=>simp [St.args] at ha
theorem StI.short {s:St}{n:Nat}(h:StI s n) (hk:s.kind=1∨s.kind=2):s.name.length≤1000:=by
 cases h<;>simp [St.kind] at hk<;>(rename_i h;first | exact kr h | skip)
 all_goals (first | (exact kr (by assumption)) | skip)
theorem cell7 {k n:Int}{a b:lBq}{v u w:Value}(hv:v.oneCell' = true) (hu:u.oneCell' = true) (hw:w.oneCell' = true):Je [stV k a b n v u w]=some ([iI k,str a,str b,iI n,v,u,w],fun id=>(pT id 0)):=by
 simpa [Je,Value.cells,Value.oneCell'] using ⟨hv,hu,hw⟩
section
variable {h:Heap}{q:Nat}{p:Prg}{nm:List (lBq)}{d r t:Value}{mid:Nat}
theorem stmt_c (hc:Ck h q p nm d r t mid){s:St}{n:Nat}(hI:StI s n){x:lVq}(hx:StC h s x){hs:List (lBq)}{vh:Value}(hh:Strs h vh hs) (hhl:hs.length≤1000) (Q:vPq)
  (hq:∀ h',h.le h' → Q (iI (We p nm hs s)) h'):CallW Tryz.prog 78 [ptr q,.agg x.toArray,vh] h Q:=by
 obtain ⟨v,u,w,rfl,hargs,hthn,hels⟩:=hx.cells;have b1:=cell7 (k:=s.kind) (n:=s.n) (a:=s.name) (b:=s.src) hargs.one hthn.one hels.one;obtain ⟨px,h2,epx,eh2,gpx,lh2⟩:=zj h [iI s.kind,str s.name,str s.src,iI s.n,v,u,w];have ha2:=hargs.mono lh2;have hc2:=hc.mono lh2.v;have hh2:=hh.mono lh2;have hsh:=hI.short;have haI:=hI.args;clear hargs hthn hels hx hc hh;replace ha2:=za ha2;replace hc2:=za hc2;replace hh2:=za hh2;replace hsh:=za hsh;replace haI:=za haI;replace lh2:=za lh2;replace hhl:=za hhl;replace hI:=za hI;refine zg (k:=4) ok78 rfl rfl rfl fun N=>?_;rw [zj7 c78 u0 rfl];delta c78;replace hq:=za hq;refine cutZ (P:=fun z hX=>h2.le hX∧z=jq p nm hs s) (G:=?G) ?b ?main
 case b =>
  intro main;replace main:=Hid.mk main;cases k1:(s.kind == 1) with
  | true =>
   have k1' : s.kind=1:=by simpa using k1
   obtain ⟨z,hz⟩:∃ z,Zw nm s.name=z:=⟨_,rfl⟩;have hz2:z=jq p nm hs s:=by simp [jq,k1',hz]
   replace hz:=za hz;replace hz2:=za hz2;replace k1':=za k1';simp only [zb,aR,ze,zf, *];refine zs9 hc2.h (hsh.h (.inl k1'.h)) _ ?_;rw [hz.h];simp only [zb,aR,aW,ze,zf,Int.reduceBEq,Int.reduceBNe,Nat.reduceBEq,Int.reduceLT,Int.reduceLE];obtain ⟨hX,hXe⟩:∃ x,x=h2:=⟨_,rfl⟩;rw [← hXe];exact main.h z hX ⟨by rw [hXe];exact Heap.le.refl _,hz2.h⟩
  | false =>
  have n1:¬ s.kind=1:=by simpa using k1
  cases k2:(s.kind == 2) with
  | true =>
   have k2' : s.kind=2:=by simpa using k2
   obtain ⟨z1,hz1⟩:∃ z,Zw nm s.name=z:=⟨_,rfl⟩;replace n1:=za n1;replace hz1:=za hz1;replace k2':=za k2';simp only [zb,aR,ze,zf, *];refine zs9 hc2.h (hsh.h (.inr k2'.h)) _ ?_;rw [hz1.h];cases z0:(z1 == 0) with
   | true =>
    have z0' : z1=0:=by simpa using z0
    replace z0':=za z0';simp only [zb,aR,ze,zf, *];refine zo9 hc2.h s.src _ fun h3 l3=>?_;obtain ⟨z,hz⟩:∃ z,uu p s.src=z:=⟨_,rfl⟩;have hz2:z=jq p nm hs s:=by simp [jq,k2'.h,hz1.h,z0'.h,hz]
    rw [hz];replace hz:=za hz;replace hz2:=za hz2;replace l3:=za l3;simp only [zb,aR,aW,ze,zf,Int.reduceBEq,Int.reduceBNe,Nat.reduceBEq,Int.reduceLT,Int.reduceLE];exact main.h z h3 ⟨l3.h,hz2.h⟩
   | false =>
    have z0' : ¬ z1=0:=by simpa using z0
    have hz2:z1=jq p nm hs s:=by simp [jq,k2'.h,hz1.h,z0']
    have z2:(z1 != 0)=true:=by simp [z0']
    have m:=main.h z1 h2 ⟨Heap.le.refl _,hz2⟩;simp only [zb,aR,aW,ze,zf,Int.reduceBEq,Int.reduceBNe,Nat.reduceBEq,Int.reduceLT,Int.reduceLE,z2] at m;replace z0':=za z0';replace hz2:=za hz2;simp only [zb,ze,zf, *]
    try exact m
  | false =>
  have n2:¬ s.kind=2:=by simpa using k2
  cases k3:(s.kind == 3) with
  | true =>
   have k3' : s.kind=3:=by simpa using k3
   replace n1:=za n1;replace n2:=za n2;replace k3':=za k3';simp only [zb,aR,ze,zf, *];refine zo9 hc2.h s.name _ fun h3 l3=>?_;obtain ⟨z,hz⟩:∃ z,uu p s.name=z:=⟨_,rfl⟩;have hz2:z=jq p nm hs s:=by simp [jq,k3'.h,hz]
   rw [hz];replace hz:=za hz;replace hz2:=za hz2;replace l3:=za l3;simp only [zb,aR,aW,ze,zf,Int.reduceBEq,Int.reduceBNe,Nat.reduceBEq,Int.reduceLT,Int.reduceLE];exact main.h z h3 ⟨l3.h,hz2.h⟩
  | false =>
  have n3:¬ s.kind=3:=by simpa using k3
  cases k5:(s.kind == 5) with
  | true =>
   have k5' : s.kind=5:=by simpa using k5
   replace n1:=za n1;replace n2:=za n2;replace n3:=za n3;replace k5':=za k5';simp only [zb,aR,ze,zf, *];refine lock_c hc2.h hh2.h hhl.h _ fun h3 l3=>?_;obtain ⟨z,hz⟩:∃ z,zm4 p s.name hs=z:=⟨_,rfl⟩;have hz2:z=jq p nm hs s:=by simp [jq,k5'.h,hz]
   rw [hz];replace hz:=za hz;replace hz2:=za hz2;replace l3:=za l3;simp only [zb,aR,aW,ze,zf,Int.reduceBEq,Int.reduceBNe,Nat.reduceBEq,Int.reduceLT,Int.reduceLE];exact main.h z h3 ⟨l3.h,hz2.h⟩
  | false =>
  have n5:¬ s.kind=5:=by simpa using k5
  cases k4:(s.kind == 4) with
  | true =>
   have k4' : s.kind=4:=by simpa using k4
   replace n1:=za n1;replace n2:=za n2;replace n3:=za n3;replace n5:=za n5;replace k4':=za k4';simp only [zb,aR,ze,zf, *];refine held_c hc2.h hh2.h hhl.h _ fun h3 l3=>?_;obtain ⟨z,hz⟩:∃ z,W9 p s.name hs=z:=⟨_,rfl⟩;have hz2:z=jq p nm hs s:=by simp [jq,k4'.h,hz]
   rw [hz];replace hz:=za hz;replace hz2:=za hz2;replace l3:=za l3;simp only [zb,aR,aW,ze,zf,Int.reduceBEq,Int.reduceBNe,Nat.reduceBEq,Int.reduceLT,Int.reduceLE];exact main.h z h3 ⟨l3.h,hz2.h⟩
  | false =>
   have n4:¬ s.kind=4:=by simpa using k4
   have hz2:(0:Int)=jq p nm hs s:=by simp [jq,n1,n2,n3,n4,n5]
   have m:=main.h 0 h2 ⟨Heap.le.refl _,hz2⟩;simp only [zb,aR,aW,ze,zf,Int.reduceBEq,Int.reduceBNe,Nat.reduceBEq,Int.reduceLT,Int.reduceLE,gpx] at m;replace n1:=za n1;replace n2:=za n2;replace n3:=za n3;replace n4:=za n4;replace n5:=za n5;replace hz2:=za hz2;simp only [zb,aR,ze,zf, *]
   try exact m
 case main =>
  rintro z h3 ⟨l3,hz⟩;have gp3:=l3.get gpx;have hl3:=lh2.h.trans l3;have ha3:=ha2.h.mono l3;have hc3:=hc2.h.mono l3.v;have hh3:=hh2.h.mono l3;have es:We p nm hs s=if jq p nm hs s=0 then kf p nm hs s.args else jq p nm hs s:=rfl
  rw [← hz] at es;replace l3:=za l3;replace hz:=za hz;replace hl3:=za hl3;replace ha3:=za ha3;replace hc3:=za hc3;replace hh3:=za hh3;cases z0:(z == 0) with
  | true =>
   have z0' : z=0:=by simpa using z0
   rw [if_pos z0'] at es;have z2:(z != 0)=false:=by simp [z0']
   replace z0':=za z0';replace es:=za es;simp only [zb,aR, *];refine yt4 30 s.args haI.h v hs vh h3 _ hc3.h ha3.h hh3.h hhl.h fun h4 l4=>?_;have g:=hq.h h4 (hl3.h.trans l4);rw [es.h] at g;replace g:=Hid.mk g;simp only [zb, *];exact g.h
  | false =>
   have z0' : ¬ z=0:=by simpa using z0
   rw [if_neg z0'] at es;have z2:(z != 0)=true:=by simp [z0']
   have g:=hq.h h3 hl3.h;rw [es] at g;replace z0':=za z0';replace es:=za es;replace g:=za g;simp only [zb, *];exact g.h
end
end Go.Eng.Sy
namespace Go.Eng
open Go
structure Heap.leZ (z L:Nat) (h h' : Heap):Prop where
 get:∀ i o,i≠z→i≠L→h.get i=some o→h'.get i=some o
 next:h.next≤h'.next
def Heap.off (z L:Nat) (h:Heap):Heap:=(h.set z .dead).set L .dead
section
variable {z L:Nat}{h h' ha hb hc:Heap}
theorem Heap.leZ.refl (h:Heap):h.leZ z L h:=⟨fun _ _ _ _ h=>h,Nat.le_refl _⟩
theorem Heap.leZ.trans (h:ha.leZ z L hb) (h' : hb.leZ z L hc):ha.leZ z L hc:=⟨fun i o h1 h2 hi=>h'.get i o h1 h2 (h.get i o h1 h2 hi),Nat.le_trans h.next h'.next⟩
theorem Heap.le.toZ (hl:h.le h'):h.leZ z L h':=⟨fun i o _ _ hi=>hl.get hi,hl.next⟩
theorem Heap.off_blk {i:Nat}{c:lVq}{o:Bool}(hg:(h.off z L).get i=some (.blk c o)):i≠z∧i≠L∧h.get i=some (.blk c o):=by
 unfold Heap.off at hg;rw [Heap.get_set] at hg;split at hg
 ·cases hg
 rename_i n1;rw [Heap.get_set] at hg;split at hg
 ·cases hg
 rename_i n2;have hlt:=Heap.lt_of_get hg;refine ⟨?_,?_,hg⟩
 ·rintro rfl;exact n2 ⟨rfl,by first | exact hlt | (rw [hg];rfl)⟩
 ·rintro rfl;exact n1 ⟨rfl,by first | exact hlt | (rw [Heap.get_set,if_neg n2,hg];rfl)⟩
theorem Heap.off_of {i:Nat}{o:AObj}(h1:i≠z) (h2:i≠L) (hg:h.get i=some o):(h.off z L).get i=some o:=by
 unfold Heap.off;rw [Heap.get_set,if_neg (fun e=>h2 e.1),Heap.get_set,if_neg (fun e=>h1 e.1)];exact hg
theorem Heap.off_b:(h.off z L).leB h:=fun _ _ _ hg=>(Heap.off_blk hg).2.2
theorem Heap.leZ.b (hl:h.leZ z L h'):(h.off z L).leB h':=fun _ _ _ hg=>let ⟨a,b,c⟩:=Heap.off_blk hg;hl.get _ _ a b c
theorem Heap.leZ.bo (hl:h.leZ z L h'):(h.off z L).leB (h'.off z L):=fun _ _ _ hg=>let ⟨a,b,c⟩:=Heap.off_blk hg;Heap.off_of a b (hl.get _ _ a b c)
theorem Heap.leB.off (hl:h.leB h') (hz:h.next≤z) (hL:h.next≤L):h.leB (h'.off z L):=fun i _ _ hg=>Heap.off_of (by have:=Heap.lt_of_get hg;omega) (by have:=Heap.lt_of_get hg;omega) (hl _ _ _ hg)
end
end Go.Eng
namespace Go.Eng.Sy
open Go Go.Eng Go.Proofs
theorem zo0 (l:List (lBq)):(l.map fun s=>[str s]).flatten=l.map fun s=>str s:=by
 induction l with
 | nil=>rfl
 | cons a l ih=>simp [ih]
theorem ys0 {h:Heap}{vh u:Value}{hs:List (lBq)}(hh:Hold h vh hs) (hl:hs.length≤1000) (hu:hs=[]∧u = nSq ∨ ∃ id off,hs≠[]∧vh = .slice (some ⟨id,off,none⟩) hs.length 1∧u = .slice (some ⟨id,off,some 0⟩) hs.length 1) (m:lBq) :
  ∃ vi h',yq 1 16 (h.alloc (.blk [str m] true)) [u,.slice (some ⟨h.next,0,none⟩) 1 1]=some (vi,h')∧h.le h' ∧ Hold h' vi (hs++[m]) ∧ ∀ z L,z < h.next→L < h.next→Hold (h'.off z L) vi (hs++[m]):=by
 have hsrc:jy 1 (h.alloc (.blk [str m] true)) (.slice (some ⟨h.next,0,none⟩) 1 1)=some [str m]:=by simp [jy]
 have fin:∀ (cs:lVq),cs=(hs.map fun s=>str s) → ∀ (h' : Heap),h.le h' → Hold (h'.alloc (.blk (cs++[str m]) true)) (.slice (some ⟨h'.next,0,none⟩) (hs.length + 1) 1) (hs++[m]) ∧ ∀ z L,z < h.next→L < h.next→Hold ((h'.alloc (.blk (cs++[str m]) true)).off z L) (.slice (some ⟨h'.next,0,none⟩) (hs.length + 1) 1) (hs++[m]):=by
  rintro cs rfl h' hl'
  suffices key:∀ H:Heap,H.get h'.next=some (.blk ((hs.map fun s=>str s)++[str m]) true)→Hold H (.slice (some ⟨h'.next,0,none⟩) (hs.length + 1) 1) (hs++[m]) from
   ⟨key _ (Heap.get_alloc_same _ _),fun z L hz hL=>key _ (Heap.off_of (by have:=hl'.next;omega) (by have:=hl'.next;omega) (Heap.get_alloc_same _ _))⟩
  intro H hH;refine ⟨.inr ⟨h'.next,0,by simp,.inr ⟨_,_,hH,fun i x hi=>?_⟩⟩,fun e=>by simp at e⟩;have hc:(hs.map fun s=>str s)++[str m]=(((hs++[m]).map fun s=>[str s])).flatten:=by rw [zo0];simp
  obtain ⟨h1,h2⟩:=yw (s:=1) (xs:=(hs++[m]).map fun s=>[str s]) (by intro x hx;obtain ⟨_,_,rfl⟩:=List.mem_map.1 hx;rfl) i x hi;refine ⟨?_,?_,?_⟩
  ·obtain ⟨_,_,rfl⟩:=List.mem_map.1 (List.mem_of_getElem? hi);rfl
  ·rw [hc];omega
  ·rw [hc];simpa using h2
 rcases hu with ⟨rfl,rfl⟩ | ⟨id,off,hne,rfl,rfl⟩
 ·refine ⟨_,_,by
   simp only [yq,hsrc];rw [if_neg (by simp),if_pos (by simp)],((Heap.le.refl h).alloc _).alloc _,?_⟩
  have:=fin [] rfl _ ((Heap.le.refl h).alloc (.blk [str m] true));simpa using this
 ·have hpos:0 < hs.length:=by cases hs;exact absurd rfl hne;simp
  obtain ⟨h1,h2⟩:=SlV.src hh.1;simp only [jy,if_true] at h1;rw [if_neg (by omega)] at h1;split at h1<;>first | (cases h1;done) | skip
  rename_i cells own hg;split at h1<;>first | (cases h1;done) | skip
  rename_i hle;have hcs:(cells.drop off).take (hs.length * 1)=hs.map fun s=>str s:=by
   have:=Option.some.inj h1;rw [this,zo0]
  have hg2:(h.alloc (.blk [str m] true)).get id=some (.blk cells own):=by rw [Heap.get_alloc_lt (Heap.lt_of_get hg)];exact hg
  refine ⟨_,_,?_,((Heap.le.refl h).alloc _).alloc _,fin _ hcs _ ((Heap.le.refl h).alloc (.blk [str m] true))⟩;simp only [yq,hsrc,hg2];have e1:[str m].length=1:=rfl;simp only [e1,Nat.reduceDiv,Nat.succ_ne_zero,if_false,Nat.add_eq_zero_iff,Nat.one_ne_zero,and_false];have e2:True∧off + hs.length * 1≤cells.length∧(hs.length + 1) * 16≤140737488355328∧hs.length + 1≤9223372036854775807:=⟨trivial,hle,by omega,by omega⟩;rw [if_pos e2]
structure YieldS (P:Program) (z Lo:Nat) (fy:Value) (L:List (St × List (lBq))) (I J:Nat→Heap→Prop):Prop where
 run:∀ k h s hs x vh (Q:vPq),L[k]? = some (s,hs)→I k h→StC h s x→Hold h vh hs→(∀ h',h.leZ z Lo h' → I (k + 1) h' → Q (.bool true) h')→(∀ h',J k h' → Q (.bool false) h')→ValW P fy [.agg x.toArray,vh] h Q
 le:∀ k h h',h.le h' → I k h→I k h'
 deep:∀ e ∈ L,e.2.length≤1000
 lt:∀ k h,I k h→z < h.next∧Lo < h.next
theorem cutVH {P:vPq}{G:vPq}{T:Prop}(h:(∀ z x,P z x→G z x)→T) (g:∀ z x,P z x→G z x):T:=h g
theorem Zi (hs:List (lBq)) (s:St):Qp hs s=(s,hs)::(zy (if s.kind=5 then hs++[s.name] else hs) s.thn++zy hs s.els):=by cases s;rfl
def Seg (L:List (St × List (lBq))) (k:Nat) (l:List (St × List (lBq))):Prop:=∀ i,i < l.length→L[k + i]? = l[i]?
theorem Seg.left {L l m:List (St × List (lBq))}{k:Nat}(h:Seg L k (l++m)):Seg L k l:=fun i hi=>by
 rw [h i (by rw [List.length_append];omega),List.getElem?_append_left hi]
theorem Seg.right {L l m:List (St × List (lBq))}{k:Nat}(h:Seg L k (l++m)):Seg L (k + l.length) m:=fun i hi=>by
 have:=h (l.length + i) (by rw [List.length_append];omega);rw [List.getElem?_append_right (by omega)] at this;rw [Nat.add_assoc,this]
 congr 1;omega
def WalkC (z Lo:Nat) (fy:Value) (L:List (St × List (lBq))) (I J:Nat→Heap→Prop) (m:Nat):Prop :=
 ∀ (ss:List St) (hs:List (lBq)) (v vh:Value) (h:Heap) (k:Nat) (Q:vPq),(zy hs ss).length < m→StsV (h.off z Lo) v ss→Hold (h.off z Lo) vh hs→Seg L k (zy hs ss)→I k h →
  (∀ h',h.leZ z Lo h' → I (k + (zy hs ss).length) h' → Q (.bool true) h')→(∀ h' j,J j h' → Q (.bool false) h')→CallW Tryz.prog 116 [v,vh,fy] h Q
set_option maxHeartbeats 1000000 in
theorem walk_of {z Lo:Nat}{fy:Value}{L:List (St × List (lBq))}{I J:Nat→Heap→Prop}(hy:YieldS Tryz.prog z Lo fy L I J){m:Nat}(ih:WalkC z Lo fy L I J m):WalkC z Lo fy L I J (m + 1):=by
 intro ss hs v vh h k Q hm hv hh hseg hI hT hF;obtain ⟨q0,hq⟩:∃ x:Prop,x:=⟨True,trivial⟩;have hln:=hv.len;have hle:=hv.le;replace hv:=za hv;replace hh:=za hh;replace hseg:=za hseg;replace hT:=za hT;replace hF:=za hF;replace ih:=za ih;replace hy:=za hy;replace hm:=za hm;replace hI:=za hI;refine zg (k:=3) ok116 rfl rfl rfl fun N=>?_;rw [zj7 c116 yd9 rfl];delta c116;replace hq:=za hq;clear hq;simp only [zb, *];refine LoopW.upto ss.length (fun i e h1=>h.leZ z Lo h1∧I (k + (zy hs (ss.take i)).length) h1 ∧ ∃ x4 x5 x9,e=[v,vh,fy,.bool false,x4,x5,v,iI ss.length,iI i,x9]) ?_ (Nat.zero_le _) ⟨Heap.leZ.refl _,by simpa [zy] using hI.h,_,_,_,rfl⟩;rintro i _ h1 R hi ⟨hl1,hI1,x4,x5,x9,rfl⟩ hR;delta yc4;by_cases hlt:i < ss.length
 case neg =>
  have hlt' : ¬ (i:Int) < ss.length:=by omega
  rw [List.take_of_length_le (by omega)] at hI1;have g:=hT.h h1 hl1 hI1;replace g:=za g;replace hI1:=za hI1;replace hl1:=za hl1;clear hI;simp only [zb,ze,zf, *];exact g.h
 case pos =>
  have hlt' : (i:Int) < ss.length:=by omega
  have hw:IntKind.i64.wrap ((i:Int) + 1)=((i + 1:Nat):Int):=by rw [zn (by omega) (by omega)];rfl
  obtain ⟨s,he⟩:∃ e,ss[i]? = some e:=⟨_,List.getElem?_eq_getElem hlt⟩;have hsplit:=zu2 hs he;have hlen:(zy hs ss).length=(zy hs (ss.take i)).length + ((Qp hs s).length + (zy hs (ss.drop (i + 1))).length):=by rw [hsplit,List.length_append,List.length_append]
  have hseg1:Seg L (k + (zy hs (ss.take i)).length) (Qp hs s):=by
   have:=hseg.h;rw [hsplit] at this;exact this.right.left
  obtain ⟨k1,hk1⟩:∃ k1,k + (zy hs (ss.take i)).length=k1:=⟨_,rfl⟩;rw [hk1] at hseg1 hI1;rw [Zi] at hseg1;obtain ⟨hs2,hs2e⟩:∃ x,(if s.kind=5 then hs++[s.name] else hs)=x:=⟨_,rfl⟩;rw [hs2e] at hseg1;have hL:L[k1]? = some (s,hs):=by have:=hseg1 0 (by simp);simpa using this
  have hsegT:Seg L (k1 + 1) (zy hs2 s.thn++zy hs s.els):=Seg.right (l:=[(s,hs)]) hseg1;have hslen:(Qp hs s).length=1 + (zy hs2 s.thn).length + (zy hs s.els).length:=by rw [Zi,hs2e];simp;omega
  have hnext:k + (zy hs (ss.take (i + 1))).length=k1 + 1 + (zy hs2 s.thn).length + (zy hs s.els).length:=by
   rw [← hk1,List.take_add_one,he,Jn,List.length_append];simp only [Option.toList_some,zy,List.append_nil];omega
  have hsl:=hy.h.deep _ (List.mem_of_getElem? hL);have hzl:=hy.h.lt _ _ hI1;obtain ⟨id,off,cells,own,x,e1,e2,e3,hx,_⟩:=(hv.h.monoB hl1.bo).elem he;replace e2:=(Heap.off_blk e2).2.2;have hx0:=hx;obtain ⟨a,u,w,hxe,hargs,hthn,hels⟩:=hx.cells;rw [hxe] at e3;have st:zt 7 (h1.alloc (.blk [iI 0,s0q,s0q,iI 0,nSq,nSq,nSq] true)) [pT h1.next 0,stV s.kind s.name s.src s.n a u w]=some (udq,h1.alloc (.blk [iI s.kind,str s.name,str s.src,iI s.n,a,u,w] true)):=by
   obtain ⟨_,ha1,_⟩:=hargs;obtain ⟨_,hu1,_⟩:=hthn;obtain ⟨_,hw1,_⟩:=hels;obtain ⟨_,_,_,rfl⟩:=SlV.isS ha1;obtain ⟨_,_,_,rfl⟩:=SlV.isS hu1;obtain ⟨_,_,_,rfl⟩:=SlV.isS hw1;exact zx rfl rfl rfl rfl
  obtain ⟨px,h2,epx,eh2,gpx,lh2⟩:=zj h1 [iI s.kind,str s.name,str s.src,iI s.n,a,u,w];rw [eh2,epx] at st;have hl2:=hl1.trans (lh2.toZ (z:=z) (L:=Lo));have hpz:px≠z∧px≠Lo:=⟨by rw [← epx];omega,by rw [← epx];omega⟩;have hz2:z < h2.next∧Lo < h2.next:=⟨Nat.lt_of_lt_of_le hzl.1 lh2.next,Nat.lt_of_lt_of_le hzl.2 lh2.next⟩;have hI2:=hy.h.le _ _ _ lh2 hI1;have hx2:=hx0.monoB (lh2.toZ (z:=z) (L:=Lo)).bo;rw [hxe] at hx2;clear hx hx0 hargs hthn hels hxe hseg1 hsplit hI1 hzl;replace hpz:=za hpz;replace hz2:=za hz2;replace hl2:=za hl2;replace hI2:=za hI2;replace hx2:=za hx2;replace hL:=za hL;replace hsegT:=za hsegT;replace hslen:=za hslen;replace hlen:=za hlen;replace hnext:=za hnext;replace hsl:=za hsl;replace hs2e:=za hs2e;replace hl1:=za hl1;replace lh2:=za lh2;replace hI:=za hI;replace hk1:=za hk1;replace he:=za he;refine cutVH (P:=fun zV hX=>h2.le hX∧Hold (hX.off z Lo) zV hs2) (G:=?GG) ?brn ?mnn
  case brn =>
   intro main;replace main:=Hid.mk main;cases k5:(s.kind == 5) with
   | true =>
    have k5' : s.kind=5:=by simpa using k5
    replace k5':=za k5';simp only [zb,aR,aW,ze,zf, *];refine clip_c (hh.h.monoB hl2.h.b) _ fun zz hz=>zb9 (Heap.le.refl _).ext ?_;obtain ⟨vi,h3,ap,l3,_,hv3⟩:=ys0 (hh.h.monoB hl2.h.b) hsl.h hz s.name;have b1:=bs_1 s.name;have hq2:Hold (h3.off z Lo) vi hs2:=by rw [← hs2e.h,if_pos k5'.h];exact hv3 z Lo hz2.h.1 hz2.h.2
    replace hq2:=za hq2;replace l3:=za l3;replace hz:=za hz;replace hv3:=za hv3;simp only [zb,aR,aW,ze,zf,Int.reduceBEq,Int.reduceBNe,Nat.reduceBEq,Int.reduceLT,Int.reduceLE,qv,gpx,ap,b1,aR,aW];exact main.h vi h3 ⟨l3.h,hq2.h⟩
   | false =>
    have k5' : ¬ s.kind=5:=by simpa using k5
    have hq2:Hold (h2.off z Lo) vh hs2:=by rw [← hs2e.h,if_neg k5'];exact hh.h.monoB hl2.h.bo
    have m:=main.h vh h2 ⟨Heap.le.refl _,hq2⟩;simp only [zb,aR,aW,ze,zf,Int.reduceBEq,Int.reduceBNe,Nat.reduceBEq,Int.reduceLT,Int.reduceLE,gpx,qv,aR] at m;replace hq2:=za hq2;replace k5':=za k5';simp only [zb,aR,aW,ze,zf,qv, *]
    try exact m
  case mnn =>
   rintro vi h3 ⟨l3,hvi⟩;have gp3:=l3.get gpx;have hl3:=hl2.h.trans (l3.toZ (z:=z) (L:=Lo));have hI3:=hy.h.le _ _ _ l3 hI2.h;have hx3:=hx2.h.monoB (l3.toZ (z:=z) (L:=Lo)).bo;have hx30:=hx3;obtain ⟨_,_,_,ee,hargs3,hthn3,hels3⟩:=hx30.cells;simp only [List.cons.injEq,and_true,true_and] at ee;obtain ⟨ea,eu,ew⟩:=ee;rw [← eu] at hthn3;rw [← ew] at hels3;clear ea eu ew hargs3 gpx;have hm1:(zy hs2 s.thn).length < m:=by have:=hm.h;have:=hlen.h;have:=hslen.h;omega
   have hm2:(zy hs s.els).length < m:=by have:=hm.h;have:=hlen.h;have:=hslen.h;omega
   replace l3:=za l3;replace hvi:=za hvi;replace hl3:=za hl3;replace hI3:=za hI3;replace hx3:=za hx3;replace hthn3:=za hthn3;replace hels3:=za hels3;replace hm1:=za hm1;replace hm2:=za hm2;simp only [zb,qv, *];refine hy.h.run k1 h3 s hs _ vh _ hL.h hI3.h (hx3.h.monoB Heap.off_b) (hh.h.monoB hl3.h.b) (fun h4 l4 hI4=>?_) (fun h4 hJ4=>?_)
   ·have gp4:=l4.get _ _ hpz.h.1 hpz.h.2 gp3;have hl4:=hl3.h.trans l4;replace l4:=za l4;replace hl4:=za hl4;replace hI4:=za hI4;simp only [zb,aR, *];refine ih.h s.thn hs2 u vi h4 (k1 + 1) _ hm1.h (hthn3.h.monoB l4.h.bo) (hvi.h.monoB l4.h.bo) hsegT.h.left hI4.h (fun h5 l5 hI5=>?_) (fun h5 j hJ5=>?_)
    ·have gp5:=l5.get _ _ hpz.h.1 hpz.h.2 gp4;have hl5:=hl4.h.trans l5;replace l5:=za l5;replace hl5:=za hl5;replace hI5:=za hI5;simp only [zb,aR, *];refine ih.h s.els hs w vh h5 _ _ hm2.h (hels3.h.monoB (l4.h.trans l5.h).bo) (hh.h.monoB hl5.h.bo) hsegT.h.right hI5.h (fun h6 l6 hI6=>?_) (fun h6 j hJ6=>?_)
     ·rw [← hnext.h] at hI6;have hl6:=hl5.h.trans l6;replace l6:=za l6;replace hI6:=za hI6;replace hl6:=za hl6;simp only [zb,ze,zf, *];exact hR.h _ _ hlt ⟨hl6.h,hI6.h,_,_,_,rfl⟩
     ·have g:=hF.h h6 j hJ6;replace g:=za g;replace hJ6:=za hJ6;simp only [zb, *];exact g.h
    ·have g:=hF.h h5 j hJ5;replace g:=za g;replace hJ5:=za hJ5;simp only [zb, *];exact g.h
   ·have g:=hF.h h4 k1 hJ4;replace g:=za g;replace hJ4:=za hJ4;simp only [zb, *];exact g.h
theorem walk_c {z Lo:Nat}{fy:Value}{L:List (St × List (lBq))}{I J:Nat→Heap→Prop}(hy:YieldS Tryz.prog z Lo fy L I J):∀ m,WalkC z Lo fy L I J m
 | 0=>fun _ _ _ _ _ _ _ h=>by omega
 | m + 1=>walk_of hy (walk_c hy m)
theorem ye3 {z Lo:Nat}{fy:Value}{ss:List St}{hs:List (lBq)}{I J:Nat→Heap→Prop}(hy:YieldS Tryz.prog z Lo fy (zy hs ss) I J){v vh:Value}{h:Heap}{a b:Nat}{o1 o2:Bool}(ga:h.get a=some (.blk [v] o1)) (gb:h.get b=some (.blk [vh] o2)) (hv:StsV (h.off z Lo) v ss) (hh:Hold (h.off z Lo) vh hs) (hI:I 0 h) (Q:vPq)
  (hT:∀ v h',h.leZ z Lo h' → I (zy hs ss).length h' → Q v h') (hF:∀ v h' j,J j h' → Q v h'):CallW Tryz.prog 115 [fy,ptr a,ptr b] h Q:=by
 obtain ⟨q0,hq⟩:∃ x:Prop,x:=⟨True,trivial⟩;replace hy:=za hy;replace hv:=za hv;replace hh:=za hh;replace hI:=za hI;replace hT:=za hT;replace hF:=za hF;refine Kt ok115 rfl rfl rfl fun N=>?_;rw [show Ug c115 [fy,ptr a,ptr b]=[fy,ptr a,ptr b] from rfl];delta c115;replace hq:=za hq;clear hq;simp only [zb,aR, *];refine walk_c hy.h ((zy hs ss).length + 1) ss hs v vh h 0 _ (by omega) hv.h hh.h (fun i hi=>by rw [Nat.zero_add]) hI.h (fun h1 l1 h2=>?_) (fun h1 j h2=>?_)
 ·rw [Nat.zero_add] at h2;have g:=hT.h (.tuple #[]) h1 l1 h2;replace g:=za g;replace h2:=za h2;replace l1:=za l1;simp only [zb, *];exact g.h
 ·have g:=hF.h (.tuple #[]) h1 j h2;replace g:=za g;replace h2:=za h2;simp only [zb, *];exact g.h
def hd1 (t x:Tsk):Bool:=!x.handler && x.hart == t.hart
def hd2 (t x:Tsk):Bool:=x.handler && x.line == t.line
def hd3 (t x:Tsk):Bool:=!x.handler && x.hart == t.hart && decide (t.prio≤x.prio)
def wx (p:Prg) (i:Nat):Int:=match p.tasks[i]? with
 | none=>0
 | some t=>if p.harts≤t.hart then 81 else if !t.handler && (p.tasks.take i).any (hd1 t) then 81 else if !t.handler then 0 else
  if (p.tasks.take i).any (hd2 t) then 82 else if p.tasks.any (hd3 t) then 83 else 0
abbrev tsL (t:Tsk) (v:Value):lVq:=[str t.name,.bool t.handler,iI t.hart,iI t.prio,iI t.line,v]
section
variable {h:Heap}{t x:Tsk}{q:Nat}{v:Value}{own:Bool}{xs:lVq}
theorem hd1_c (gq:h.get q=some (.blk (tsL t v) own)) (hx:TsC h x xs) (Q:vPq) (hq:∀ v h',v = .bool (hd1 t x)→h.le h' → Q v h'):CallW Tryz.prog 112 [.agg xs.toArray,ptr q] h Q:=by
 obtain ⟨u,rfl,hu⟩:=hx;have b1:=zq4 (m:=x.name) (b:=x.handler) (a:=x.hart) (p:=x.prio) (l:=x.line) hu.one;obtain ⟨p1,h1,ep1,eh1,gp1,lh1⟩:=zj h [str x.name,.bool x.handler,iI x.hart,iI x.prio,iI x.line,u];have g1:=lh1.get gq;replace hq:=fun b (e:b=hd1 t x)=>hq (.bool b) h1 (by rw [e]) lh1;unfold hd1 at hq;clear gq hu;replace lh1:=za lh1;refine zg (k:=3) ok112 rfl rfl rfl fun N=>?_;rw [wn c112 Zm rfl];delta c112;replace hq:=za hq;obtain ⟨hb,hbe⟩:∃ b,x.handler=b:=⟨_,rfl⟩;rw [hbe] at b1 gp1 hq eh1 ⊢;cases hb with
 | true =>
  simp only [zb,aR, *];exact hq.h _ rfl
 | false =>
  simp only [zb,aR,ze,zf, *];exact hq.h _ rfl
theorem hd2_c (gq:h.get q=some (.blk (tsL t v) own)) (hx:TsC h x xs) (Q:vPq) (hq:∀ v h',v = .bool (hd2 t x)→h.le h' → Q v h'):CallW Tryz.prog 113 [.agg xs.toArray,ptr q] h Q:=by
 obtain ⟨u,rfl,hu⟩:=hx;have b1:=zq4 (m:=x.name) (b:=x.handler) (a:=x.hart) (p:=x.prio) (l:=x.line) hu.one;obtain ⟨p1,h1,ep1,eh1,gp1,lh1⟩:=zj h [str x.name,.bool x.handler,iI x.hart,iI x.prio,iI x.line,u];have g1:=lh1.get gq;replace hq:=fun b (e:b=hd2 t x)=>hq (.bool b) h1 (by rw [e]) lh1;unfold hd2 at hq;clear gq hu;replace lh1:=za lh1;refine zg (k:=3) ok113 rfl rfl rfl fun N=>?_;rw [wn c113 Zm rfl];delta c113;replace hq:=za hq;obtain ⟨hb,hbe⟩:∃ b,x.handler=b:=⟨_,rfl⟩;rw [hbe] at b1 gp1 hq eh1 ⊢;cases hb with
 | true =>
  simp only [zb,aR,ze,zf, *];exact hq.h _ rfl
 | false =>
  simp only [zb,aR, *];exact hq.h _ rfl
theorem hd3_c (gq:h.get q=some (.blk (tsL t v) own)) (hx:TsC h x xs) (Q:vPq) (hq:∀ v h',v = .bool (hd3 t x)→h.le h' → Q v h'):CallW Tryz.prog 114 [.agg xs.toArray,ptr q] h Q:=by
 obtain ⟨u,rfl,hu⟩:=hx;have b1:=zq4 (m:=x.name) (b:=x.handler) (a:=x.hart) (p:=x.prio) (l:=x.line) hu.one;obtain ⟨p1,h1,ep1,eh1,gp1,lh1⟩:=zj h [str x.name,.bool x.handler,iI x.hart,iI x.prio,iI x.line,u];have g1:=lh1.get gq;replace hq:=fun b (e:b=hd3 t x)=>hq (.bool b) h1 (by rw [e]) lh1;unfold hd3 at hq;clear gq hu;replace lh1:=za lh1;refine zg (k:=3) ok114 rfl rfl rfl fun N=>?_;rw [wn c114 Zm rfl];delta c114;replace hq:=za hq;obtain ⟨hb,hbe⟩:∃ b,x.handler=b:=⟨_,rfl⟩;rw [hbe] at b1 gp1 hq eh1 ⊢;cases hb with
 | true =>
  simp only [zb,aR, *];exact hq.h false rfl
 | false =>
  cases c2:(x.hart == t.hart) with
  | true =>
   by_cases c3:t.prio≤x.prio
   ·simp only [zb,aR,ze,zf, *];exact hq.h true (by simp [c2,c3])
   ·simp only [zb,aR,ze,zf, *];exact hq.h false (by simp [c2,c3])
  | false =>
   simp only [zb,aR,ze,zf, *];exact hq.h false (by simp [c2])
end
theorem TssV.take {h:Heap}{v:Value}{l:List Tsk}(hv:TssV h v l){i:Nat}(hi:i≤l.length):∃ w,jo 6 false true [v,iI (i:Int)]=some w∧TssV h w (l.take i):=by
 obtain ⟨xs,h1,h2,h3⟩:=hv;have hl:=h3.length;obtain ⟨w,h4,h5⟩:=h1.partHi (b:=i) (by omega);refine ⟨w,h4,xs.take i,h5,by rw [List.length_take];omega,?_⟩;have:∀ {l:List Tsk}{xs:List (lVq)}(i:Nat),TsCs h l xs→TsCs h (l.take i) (xs.take i):=by
  intro l;induction l with
  | nil=>intro xs i hx;rw [show xs=[] from hx];cases i<;>rfl
  | cons a l ih =>
   intro xs i hx;obtain ⟨x,xr,rfl,a1,a2⟩:=hx;cases i with
   | zero=>rfl
   | succ i=>exact ⟨x,xr.take i,rfl,a1,ih i a2⟩
 exact this i h3
theorem TssV.elem {h:Heap}{v:Value}{l:List Tsk}(hv:TssV h v l){i:Nat}{e:Tsk}(hi:l[i]? = some e) :
  ∃ id off cells own u,zp 6 [v,iI i]=some (pT id off)∧h.get id=some (.blk cells own)∧qu true off 6 cells=some (tsV e.name e.handler e.hart e.prio e.line u)∧StsV h u e.body:=by
 obtain ⟨xs,a,c,b⟩:=hv;obtain ⟨x,h1,u,rfl,h2⟩:=b.get i e hi;obtain ⟨id,off,cells,own,g1,g2,g3,g4⟩:=a.elem h1;exact ⟨id,off,cells,own,u,g1,g2,g3,h2⟩
end Go.Eng.Sy
