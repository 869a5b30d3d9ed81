/-
  Part of a proof of the laws of layer 09 (ceiling): what each function does.
  Conditions: none.
-/
import Derived.Test.YtddbbcpelbcahaaGreatDoorBe
import Derived.Test.YtddbbcpelbcahaaGreatDoorEc
import Derived.Shelf.Sort.Plain
import Derived.Shelf.Slices.In.SortNone
import Derived.Shelf.Slices.CompactI
set_option linter.unusedSectionVars false
set_option linter.unusedSimpArgs false
set_option linter.unusedVariables false
namespace Go.Eng.Sy
open Go Go.Eng Go.Proofs
section
variable (lt:Int→Int→Bool)
def W8 (x:Int):List Int→List Int→List Int
 | [],q=>x::q
 | y::rp,q=>if lt x y then W8 x rp (y::q) else rp.reverse++y::x::q
def ul (l:List Int):List Int:=l.foldl (fun s x=>W8 lt x s.reverse []) []
theorem ya7 (x:Int):∀ (rp q:List Int),(W8 lt x rp q).length=rp.length + q.length + 1
 | [],q=>by simp [W8]
 | y::rp,q=>by
  simp only [W8];split
  ·rw [ya7 x rp (y::q)];simp;omega
  ·simp;omega
theorem Ze (l:List Int) (x:Int):ul lt (l++[x])=W8 lt x (ul lt l).reverse []:=by
 simp [ul]
theorem yg4 {l:List Int}{i:Nat}{x:Int}(hi:l[i]? = some x):ul lt (l.take (i + 1))=W8 lt x (ul lt (l.take i)).reverse []:=by
 rw [List.take_add_one,hi];exact Ze lt _ x
theorem Kg {α:Type}{C:List α→Prop}(h0:C []) (h1:∀ l x,C l→C (l++[x])) (l:List α):C l:=by
 have:∀ n (l:List α),l.length=n→C l:=fun n=>by
  induction n with
  | zero=>intro l hl;rw [List.length_eq_zero_iff.1 hl];exact h0
  | succ n ih =>
   intro l hl;have hne:l≠[]:=fun e=>by rw [e] at hl;cases hl
   rw [← List.dropLast_concat_getLast hne];exact h1 _ _ (ih _ (by rw [List.length_dropLast];omega))
 exact this _ l rfl
theorem zm9 (l:List Int):(ul lt l).length=l.length:=by
 refine Kg (C:=fun l=>(ul lt l).length=l.length) rfl (fun l x ih=>?_) l;rw [Ze,ya7,List.length_reverse,ih];simp
theorem ya6 (x:Int):∀ (rp q:List Int) (z:Int),z ∈ W8 lt x rp q↔z=x∨z ∈ rp∨z ∈ q
 | [],q,z=>by simp [W8]
 | y::rp,q,z=>by
  simp only [W8];split
  ·rw [ya6 x rp (y::q) z];simp only [List.mem_cons];constructor
   ·rintro (h | h | h | h)
    ·exact .inl h
    ·exact .inr (.inl (.inr h))
    ·exact .inr (.inl (.inl h))
    ·exact .inr (.inr h)
   ·rintro (h | (h | h) | h)
    ·exact .inl h
    ·exact .inr (.inr (.inl h))
    ·exact .inr (.inl h)
    ·exact .inr (.inr (.inr h))
  ·simp only [List.mem_append,List.mem_reverse,List.mem_cons];constructor
   ·rintro (h | h | h | h)
    ·exact .inr (.inl (.inr h))
    ·exact .inr (.inl (.inl h))
    ·exact .inl h
    ·exact .inr (.inr h)
   ·rintro (h | (h | h) | h)
    ·exact .inr (.inr (.inl h))
    ·exact .inr (.inl h)
    ·exact .inl h
    ·exact .inr (.inr (.inr h))
theorem yr6 (l:List Int) (z:Int):z ∈ ul lt l↔z ∈ l:=by
 refine Kg (C:=fun l=>z ∈ ul lt l↔z ∈ l) (by simp [ul]) (fun l x ih=>?_) l;rw [Ze,ya6,List.mem_reverse,ih];simp [or_comm]
end
section
variable (P:Int→Int)
def hiF (a b:Int):Bool:=decide (P b < P a)
theorem W7 (x k:Int):∀ (rp q:List Int),(W8 (hiF P) x rp q).filter (fun z=>P z == k)=(rp.reverse++x::q).filter (fun z=>P z == k)
 | [],q=>rfl
 | y::rp,q=>by
  simp only [W8];split
  ·rename_i h;have hlt:P y < P x:=by simpa [hiF] using h
   rw [W7 x k rp (y::q)];simp only [List.reverse_cons,List.append_assoc,List.filter_append,List.filter_cons,List.singleton_append];by_cases h1:P x=k
   ·have h2:¬ P y=k:=by omega
    simp [h1,h2]
   ·by_cases h2:P y=k<;>simp [h1,h2]
  ·simp
theorem zn0 (k:Int) (l:List Int):(ul (hiF P) l).filter (fun z=>P z == k)=l.filter (fun z=>P z == k):=by
 refine Kg (C:=fun l=>(ul (hiF P) l).filter (fun z=>P z == k)=l.filter (fun z=>P z == k)) rfl (fun l x ih=>?_) l;rw [Ze,W7,List.reverse_reverse,List.filter_append,ih,← List.filter_append]
theorem W6 (x:Int):∀ (rp q:List Int),(rp.reverse++q).Pairwise (fun a b=>P b≤P a)→(∀ z ∈ q,P z < P x)→(W8 (hiF P) x rp q).Pairwise (fun a b=>P b≤P a)
 | [],q,h,hq=>by
  simp only [W8];exact List.Pairwise.cons (fun z hz=>Int.le_of_lt (hq z hz)) (by simpa using h)
 | y::rp,q,h,hq=>by
  simp only [W8];split
  ·rename_i hlt;have hlt:P y < P x:=by simpa [hiF] using hlt
   refine W6 x rp (y::q) (by simpa using h) fun z hz=>?_;rcases List.mem_cons.1 hz with rfl | hz
   ·exact hlt
   ·exact hq z hz
  ·rename_i hlt;have hge:P x≤P y:=by simpa [hiF] using hlt
   have h' : (rp.reverse++[y]).Pairwise (fun a b=>P b≤P a)∧q.Pairwise (fun a b=>P b≤P a) ∧ ∀ a ∈ rp.reverse++[y],∀ b ∈ q,P b≤P a:=by
    have:(rp.reverse++[y])++q=(y::rp).reverse++q:=by simp
    rw [← this,List.pairwise_append] at h;exact h
   obtain ⟨h1,h2,h3⟩:=h';have e:rp.reverse++y::x::q=(rp.reverse++[y])++x::q:=by simp
   rw [e,List.pairwise_append];have hy:∀ a ∈ rp.reverse++[y],P y≤P a:=fun a ha=>by
    rw [List.pairwise_append] at h1;rcases List.mem_append.1 ha with ha | ha
    ·exact h1.2.2 a ha y (by simp)
    ·rw [List.mem_singleton.1 ha];exact Int.le_refl _
   refine ⟨h1,List.Pairwise.cons (fun z hz=>Int.le_of_lt (hq z hz)) h2,fun a ha b hb=>?_⟩;rcases List.mem_cons.1 hb with rfl | hb
   ·exact Int.le_trans hge (hy a ha)
   ·exact h3 a ha b hb
theorem zm8 (l:List Int):(ul (hiF P) l).Pairwise (fun a b=>P b≤P a):=by
 refine Kg (C:=fun l=>(ul (hiF P) l).Pairwise (fun a b=>P b≤P a)) List.Pairwise.nil (fun l x ih=>?_) l;rw [Ze];exact W6 P x _ [] (by simpa using ih) (by simp)
theorem Uu:∀ {a b:List Int},a.Pairwise (fun a b=>P b≤P a)→b.Pairwise (fun a b=>P b≤P a)→(∀ k,a.filter (fun z=>P z == k)=b.filter (fun z=>P z == k))→a=b
 | [],[],_,_,_=>rfl
 | [],y::b,_,_,h=>by have:=h (P y);simp at this
 | x::a,[],_,_,h=>by have:=h (P x);simp at this
 | x::a,y::b,ha,hb,h=>by
  obtain ⟨a1,a2⟩:=List.pairwise_cons.1 ha;obtain ⟨b1,b2⟩:=List.pairwise_cons.1 hb;have mem:∀ (k:Int) (z:Int),P z=k→(z ∈ x::a↔z ∈ y::b):=fun k z hz=>by
   have e:=h k;have h1:z ∈ (x::a).filter (fun z=>P z == k)↔z ∈ (y::b).filter (fun z=>P z == k):=by rw [e]
   simpa [List.mem_filter,hz] using h1
  have hxy:P x=P y:=by
   have h1:x ∈ y::b:=(mem _ x rfl).1 (by simp);have h2:y ∈ x::a:=(mem _ y rfl).2 (by simp);have l1:P x≤P y:=by
    rcases List.mem_cons.1 h1 with e | h1
    ·rw [e];exact Int.le_refl _
    ·exact b1 x h1
   have l2:P y≤P x:=by
    rcases List.mem_cons.1 h2 with e | h2
    ·rw [e];exact Int.le_refl _
    ·exact a1 y h2
   omega
  have e:=h (P x);rw [List.filter_cons,List.filter_cons,if_pos (by simp),if_pos (by simp [hxy])] at e;injection e with e1 e2
  subst e1
  congr 1
  refine Uu a2 b2 fun k=>?_;have:=h k;rw [List.filter_cons,List.filter_cons] at this;by_cases hk:P x=k
  ·rw [if_pos (by simpa using hk),if_pos (by simpa using hk)] at this;injection this
  ·rw [if_neg (by simpa using hk),if_neg (by simpa using hk)] at this;exact this
end
mutual
def lkS (p:Prg):St→List Int
 | .mk k m _ _ _ t e=>(if k=5 then [ku p.ress m] else [])++uj p t++uj p e
def uj (p:Prg):List St→List Int
 | []=>[]
 | s::r=>lkS p s++uj p r
end
theorem lkS_eq (p:Prg) (s:St):lkS p s=(if s.kind=5 then [ku p.ress s.name] else [])++uj p s.thn++uj p s.els:=by cases s;rfl
theorem ya1 (p:Prg):∀ (a b:List St),uj p (a++b)=uj p a++uj p b
 | [],b=>rfl
 | s::a,b=>by simp only [List.cons_append,uj,ya1 p a b,List.append_assoc]
theorem yq7 {p:Prg}{l:List St}{i:Nat}{s:St}(hi:l[i]? = some s):uj p (l.take (i + 1))=uj p (l.take i)++lkS p s:=by
 rw [List.take_add_one,hi,ya1];simp [uj]
mutual
theorem lkS_len (p:Prg):∀ (s:St),(lkS p s).length≤Kr s
 | .mk k m f n a t e=>by
  have h1:=uo p t;have h2:=uo p e;simp only [lkS,List.length_append,Kr];split<;>simp<;>omega
theorem uo (p:Prg):∀ (l:List St),(uj p l).length≤ye l
 | []=>by simp [uj]
 | s::r=>by
  have h1:=lkS_len p s;have h2:=uo p r;simp only [uj,List.length_append,ye];omega
end
theorem ixOf_lt (l:List Nm) (s:lBq):ku l s < l.length:=by
 unfold ku;split
 ·rename_i i h;obtain ⟨h1,_⟩:=List.findIdx?_eq_some_iff_getElem.1 h;omega
 ·omega
mutual
theorem lkS_in {p:Prg}{nm:List (lBq)}:∀ (s:St) (hs:List (lBq)),okS p nm hs s → ∀ z ∈ lkS p s,0≤z∧z < p.ress.length
 | .mk k m f n a t e,hs,h,z,hz=>by
  obtain ⟨h1,h2,h3⟩:=yo9.1 h;simp only [lkS,List.mem_append] at hz;rcases hz with (hz | hz) | hz
  ·split at hz
   ·rename_i hk;rw [List.mem_singleton] at hz;subst hz;refine ⟨?_,ixOf_lt _ _⟩;subst hk;simp only [We,jq,St.kind,St.name] at h1;simp only [zm4] at h1;have e1:¬ (5:Int)=1:=by decide
    have e2:¬ (5:Int)=2:=by decide
    have e3:¬ (5:Int)=3:=by decide
    simp only [e1,e2,e3,if_false,if_true] at h1;by_cases hlt:ku p.ress m < 0
    ·simp [hlt] at h1
    ·omega
   ·simp at hz
  ·exact Wx t _ h2 z hz
  ·exact Wx e _ h3 z hz
theorem Wx {p:Prg}{nm:List (lBq)}:∀ (l:List St) (hs:List (lBq)),zj6 p nm hs l → ∀ z ∈ uj p l,0≤z∧z < p.ress.length
 | [],hs,h,z,hz=>by simp [uj] at hz
 | s::r,hs,h,z,hz=>by
  have h':=Kj.1 h;simp only [uj,List.mem_append] at hz;rcases hz with hz | hz
  ·exact lkS_in s hs (h' s (by simp)) z hz
  ·exact Wx r hs (Kj.2 fun x hx=>h' x (by simp [hx])) z hz
end
theorem Kq (s:St):Kr s=1 + ye s.thn + ye s.els:=by cases s;rfl
theorem Kp:∀ (l:List St),l.length≤ye l
 | []=>by simp
 | s::r=>by have:=Kp r;simp only [List.length_cons,ye,Kq s];omega
theorem Vh {l:List St}{i:Nat}{s:St}(hi:l[i]? = some s):ye (l.take (i + 1))=ye (l.take i) + Kr s∧ye (l.take i) + Kr s≤ye l:=by
 have e:l.take (i + 1)=l.take i++[s]:=by rw [List.take_add_one,hi];rfl
 have e2:ye (l.take (i + 1))=ye (l.take i) + Kr s:=by rw [e,Vi];simp [ye]
 refine ⟨e2,?_⟩;have:=Vi (l.take (i + 1)) (l.drop (i + 1));rw [List.take_append_drop] at this;omega
theorem StI.sub0 {s:St}{d:Nat}(h:StI s d):∃ d',d=d' + 1∧s.args.length≤2∧(∀ a ∈ s.args,ExI a 30)∧(∀ x ∈ s.thn,StI x d') ∧ ∀ x ∈ s.els,StI x d':=by
 have ha:=h.args;cases h with
 | set m a d h ha'=>exact ⟨d,rfl,by simp [St.args],ha,by simp [St.thn],by simp [St.els]⟩
 | get m f n d h hf hn=>exact ⟨d,rfl,by simp [St.args],ha,by simp [St.thn],by simp [St.els]⟩
 | put m n a d h hn ha'=>exact ⟨d,rfl,by simp [St.args],ha,by simp [St.thn],by simp [St.els]⟩
 | store m a b d h ha' hb=>exact ⟨d,rfl,by simp [St.args],ha,by simp [St.thn],by simp [St.els]⟩
 | lock m thn d h ht=>exact ⟨d,rfl,by simp [St.args],ha,by simpa [St.thn] using ht,by simp [St.els]⟩
 | cond a thn els d ha' ht he=>exact ⟨d,rfl,by simp [St.args],ha,by simpa [St.thn] using ht,by simpa [St.els] using he⟩
 | rep n thn d hn ht=>exact ⟨d,rfl,by simp [St.args],ha,by simpa [St.thn] using ht,by simp [St.els]⟩
 | halt d=>exact ⟨d,rfl,by simp [St.args],ha,by simp [St.thn],by simp [St.els]⟩
abbrev Mat:=Nat→Nat→Int
def Yv (n:Nat) (h r v:Int) (V:Mat):Mat:=fun a k=>if (a:Int)=h∧r≤k∧k < n then max (V a k) v else V a k
def zr7 (p:Prg) (n:Nat) (V:Mat) (t:Tsk):Mat:=(uj p t.body).foldl (fun V r=>Yv n t.hart r t.prio V) V
def uw (p:Prg) (ts:List Tsk):Mat:=ts.foldl (zr7 p p.ress.length) (fun _ _=>0)
section
variable {n:Nat}{h v:Int}
theorem stepR_le (r:Int) (V:Mat) (a k:Nat):V a k≤Yv n h r v V a k:=by
 unfold Yv;split
 ·exact Int.le_max_left _ _
 ·exact Int.le_refl _
theorem Ww:∀ (l:List Int) (V:Mat) (a k:Nat),V a k≤(l.foldl (fun V r=>Yv n h r v V) V) a k
 | [],V,a,k=>Int.le_refl _
 | r::l,V,a,k=>Int.le_trans (stepR_le r V a k) (Ww l _ a k)
theorem U5:∀ (l:List Int) (V:Mat) (a k:Nat) (r:Int),r ∈ l→(a:Int)=h→r≤k→k < n→v≤(l.foldl (fun V r=>Yv n h r v V) V) a k
 | [],V,a,k,r,hr,_,_,_=>by simp at hr
 | x::l,V,a,k,r,hr,ha,hk,hn=>by
  rcases List.mem_cons.1 hr with rfl | hr
  ·refine Int.le_trans ?_ (Ww l _ a k);show v≤Yv n h r v V a k;unfold Yv;rw [if_pos ⟨ha,hk,hn⟩];exact Int.le_max_right _ _
  ·exact U5 l _ a k r hr ha hk hn
end
theorem Wc (p:Prg) (n:Nat):∀ (ts:List Tsk) (V:Mat) (a k:Nat),V a k≤(ts.foldl (zr7 p n) V) a k
 | [],V,a,k=>Int.le_refl _
 | t::ts,V,a,k=>Int.le_trans (Ww _ V a k) (Wc p n ts _ a k)
theorem Uo (p:Prg) (n:Nat):∀ (ts:List Tsk) (V:Mat) (t:Tsk) (a k:Nat) (r:Int),t ∈ ts→r ∈ uj p t.body→(a:Int)=t.hart→r≤k→k < n→t.prio≤(ts.foldl (zr7 p n) V) a k
 | [],V,t,a,k,r,ht,_,_,_,_=>by simp at ht
 | x::ts,V,t,a,k,r,ht,hr,ha,hk,hn=>by
  rcases List.mem_cons.1 ht with rfl | ht
  ·exact Int.le_trans (U5 _ V a k r hr ha hk hn) (Wc p n ts _ a k)
  ·exact Uo p n ts _ t a k r ht hr ha hk hn
theorem ceil_hit {p:Prg}{t:Tsk}{a k:Nat}{r:Int}(ht:t ∈ p.tasks) (hr:r ∈ uj p t.body) (ha:(a:Int)=t.hart) (hk:r≤k) (hn:k < p.ress.length):t.prio≤uw p p.tasks a k:=Uo p _ _ _ t a k r ht hr ha hk hn
theorem ceil_ge (p:Prg) (ts:List Tsk) (a k:Nat):0≤uw p ts a k:=Wc p _ ts (fun _ _=>0) a k
theorem yh9 (p:Prg) (ts:List Tsk) (t:Tsk):uw p (ts++[t])=zr7 p p.ress.length (uw p ts) t:=by
 unfold uw;rw [List.foldl_append];rfl
theorem yh8 {p:Prg}{ts:List Tsk}{i:Nat}{t:Tsk}(hi:ts[i]? = some t):uw p (ts.take (i + 1))=zr7 p p.ress.length (uw p (ts.take i)) t:=by
 rw [List.take_add_one,hi];exact yh9 p _ t
def levL (p:Prg) (a:Nat) (v:Int) (l:List Int):Int:=l.foldl (fun (v r:Int)=>if 0≤r∧r < p.ress.length then max v (uw p p.tasks a r.toNat) else v) v
structure OkP (p:Prg):Prop where
 zero:∀ e i n,CheckIs p e i n→e=0∧i=0∧n=0
 size:∀ tk ∈ p.tasks,(zy [] tk.body).length < 4611686018427387904
theorem Ko {h:Heap}{p:Prg}{x:lVq}(hx:PrC h p x) (ho:OkP p) (Q:vPq) (hq:∀ h',h.le h' → Q (.bool true) h'):CallW Tryz.prog 29 [.agg x.toArray] h Q:=by
 obtain ⟨d,r,t,rfl,hd,hr,ht⟩:=hx;have hx0:PrC h p [iI p.harts,d,r,t]:=⟨d,r,t,rfl,hd,hr,ht⟩;have bx1:=yy (n:=p.harts) hd.one hr.one ht.one;obtain ⟨b1,h1,eb1,eh1,gb1,lh1⟩:=zj h [iI p.harts,d,r,t];have hx1:=hx0.mono lh1;clear hd hr ht;replace hx0:=za hx0;replace hx1:=za hx1;replace lh1:=za lh1;replace ho:=za ho;refine zg (k:=2) ok29 rfl rfl rfl fun N=>?_;rw [Yo c29 u0 rfl];delta c29;replace hq:=za hq;simp only [zb,aR,yb, *];refine qd0 hx1.h ho.h.size _ fun h2 e i n hci l2=>?_;obtain ⟨rfl,rfl,rfl⟩:=ho.h.zero e i n hci;clear hci;have st2:zt 2 (h2.alloc (.blk [iI 0,iI 0] true)) [pT h2.next 0,.agg #[iI 0,iI 0]]=some (udq,h2.alloc (.blk [iI 0,iI 0] true)):=zx rfl rfl rfl rfl;obtain ⟨q3,h3,eq3,eh3,gq3,lh3⟩:=zj h2 [iI 0,iI 0];rw [eh3,eq3] at st2;have g:=hq.h h3 ((lh1.h.trans l2).trans lh3);replace g:=za g;replace l2:=za l2;replace lh3:=za lh3;simp only [zb,aW,ze,zf, *];exact g.h
abbrev inR (z:Int):lVq:=[iI z]
theorem yi0 (z:Int):yj [iI 0] [(0,1)] 1 1 [iI z]=some ([iI z],fun id=>.slice (some ⟨id,0,none⟩) 1 1):=ql rfl rfl rfl (by simp [Value.cells,Value.oneCell'])
theorem cutVH2 {P:vPq}{G:vPq}{T:Prop}(h:(∀ z x,P z x→G z x)→T) (g:∀ z x,P z x→G z x):T:=h g
theorem but_of {h h' : Heap}{v:Value}(hk:∀ i,(h.get i).isSome=true→notOf v i→h'.get i=h.get i) (hn:h.next≤h'.next):∃ p,h.leBut p h' ∧ ∀ i,i < h'.next→notOf v i→(i == p)=false:=by
 by_cases he:∃ id a b,v = .slice (some ⟨id,0,none⟩) a b
 ·obtain ⟨id,a,b,rfl⟩:=he;refine ⟨id,⟨fun i hi hs=>hk i hs fun a b e=>?_,hn⟩,fun i hi hv=>by simpa using fun e:i=id=>hv a b (by rw [e])⟩;cases e;exact hi rfl
 ·exact ⟨h'.next,⟨fun i hi hs=>hk i hs fun a b e=>he ⟨i,a,b,e⟩,hn⟩,fun i hi _=>by simp;omega⟩
def qc6 (d:Nat):Prop:=∀ (p:Prg) (x:lVq) (ss:List St) (v:Value) (h:Heap) (Q:vPq),PrC h p x→(∀ s ∈ ss,StI s d)→ye ss≤1000000→StsV h v ss →
 (∀ h' v',h.le h' → OwnS (zw h.next) h' 1 v' ((uj p ss).map inR)→Q v' h')→CallW Tryz.prog 30 [.agg x.toArray,v] h Q
set_option maxHeartbeats 4000000 in
theorem locks_of {d:Nat}(ih:∀ d',d' < d→qc6 d'):qc6 d:=by
 intro p x ss v h Q hx hI hbd hv hq;obtain ⟨dv,rv,tv,rfl,hd,hr,ht⟩:=hx;have hx0:PrC h p [iI p.harts,dv,rv,tv]:=⟨dv,rv,tv,rfl,hd,hr,ht⟩;have bx1:=yy (n:=p.harts) hd.one hr.one ht.one;have od:=hd.one;have ot:=ht.one;obtain ⟨b1,h1,eb1,eh1,gb1,lh1⟩:=zj h [iI p.harts,dv,rv,tv];have hln:=hv.len;have hsl:=Kp ss;have hb1:h.next=b1:=eb1;have n1:=Heap.lt_of_get gb1;replace ih:=za ih;replace hv:=za hv;replace hI:=za hI;replace hd:=za hd;replace hr:=za hr;replace ht:=za ht;replace hx0:=za hx0;replace lh1:=za lh1;replace od:=za od;replace ot:=za ot;replace hb1:=za hb1;refine zg (k:=3) ok30 rfl rfl rfl fun N=>?_;rw [wn c30 yd9 rfl];delta c30;replace hq:=za hq;simp only [zb, *];refine LoopW.upto ss.length (fun i e h3=>∃ vo x4 x8,e=[prV p.harts dv rv tv,v,ptr b1,vo,x4,v,iI ss.length,iI i,x8]∧h1.le h3∧OwnS (zw h1.next) h3 1 vo ((uj p (ss.take i)).map inR)) ?_ (Nat.zero_le _) ⟨zq,_,_,rfl,Heap.le.refl _,by simp only [List.take_zero,uj,List.map_nil];exact OwnS.nil _ _ _⟩;rintro i _ h3 R hi ⟨vo,x4,x8,rfl,l3,ho3⟩ hR;delta c30_l8;by_cases hlt:i < ss.length
 case neg =>
  have hlt' : ¬ (i:Int) < ss.length:=by omega
  rw [List.take_of_length_le (by omega)] at ho3;have g:=hq.h h3 vo (lh1.h.trans l3) (ho3.weak lh1.h.next);replace g:=za g;replace l3:=za l3;replace ho3:=za ho3;simp only [zb,ze,zf, *];exact g.h
 case pos =>
  have hlt' : (i:Int) < ss.length:=by omega
  have hw:IntKind.i64.wrap ((i:Int) + 1)=((i + 1:Nat):Int):=by rw [zn (by omega) (by omega)];rfl
  obtain ⟨s,he⟩:∃ e,ss[i]? = some e:=⟨_,List.getElem?_eq_getElem hlt⟩;obtain ⟨ct1,ct2⟩:=Vh he;have ceq:=Kq s;have lt1:=yq7 (p:=p) he;have lk0:=uo p (ss.take i);have ll1:=uo p s.thn;have ll2:=uo p s.els;obtain ⟨d',ed,hal,haI,htI,heI⟩:=(hI.h s (List.mem_of_getElem? he)).sub0;obtain ⟨id,off,cells,own,x,e1,e2,e3,hxs,_⟩:=hv.h.elem he;obtain ⟨va,vu,vw,rfl,hva,hvu,hvw⟩:=hxs.cells;have l03:=lh1.h.trans l3;have e2':=l03.get e2;have iA:IsS va:=by obtain ⟨_,a,_⟩:=hva;exact SlV.isS a
  have iU:IsS vu:=by obtain ⟨_,a,_⟩:=hvu;exact SlV.isS a
  have iW:IsS vw:=by obtain ⟨_,a,_⟩:=hvw;exact SlV.isS a
  have st:zt 7 (h3.alloc (.blk zS true)) [pT h3.next 0,stV s.kind s.name s.src s.n va vu vw]=some (udq,h3.alloc (.blk [iI s.kind,str s.name,str s.src,iI s.n,va,vu,vw] true)):=by
   obtain ⟨_,_,_,rfl⟩:=iA;obtain ⟨_,_,_,rfl⟩:=iU;obtain ⟨_,_,_,rfl⟩:=iW;exact zx rfl rfl rfl rfl
  obtain ⟨q4,h4,eq4,eh4,gq4,lh4⟩:=zj h3 [iI s.kind,str s.name,str s.src,iI s.n,va,vu,vw];rw [eh4,eq4] at st;have hq4:h3.next=q4:=eq4;have l4:=l3.trans lh4;have e3' : qu true off 7 cells=some (stV s.kind s.name s.src s.n va vu vw):=e3;have gb4:=l4.get gb1;have n4:notOf vo q4:=ho3.notOf_new (by omega);have ho4:OwnS (zw h1.next) h4 1 vo ((uj p (ss.take i)).map inR):=ho3.get fun id hv hs=>lh4.getE id hs;clear e2 e3 hxs;replace l3:=za l3;replace ho3:=za ho3;replace lh4:=za lh4;replace l4:=za l4;replace hva:=za hva;replace hvu:=za hvu;replace hvw:=za hvw;replace ct1:=za ct1;replace ct2:=za ct2;replace lt1:=za lt1;replace ceq:=za ceq;replace hq4:=za hq4;replace iA:=za iA;replace iU:=za iU;replace iW:=za iW;replace hal:=za hal;replace haI:=za haI;replace htI:=za htI;replace heI:=za heI;replace ed:=za ed;replace l03:=za l03;replace lk0:=za lk0;replace ll1:=za ll1;replace ll2:=za ll2;replace n4:=za n4;replace ho4:=za ho4;refine cutVH2 (P:=fun z x=>OwnS (zw h1.next) x 1 z ((uj p (ss.take i)++if s.kind=5 then [ku p.ress s.name] else []).map inR)∧h1.le x∧x.get q4=some (.blk [iI s.kind,str s.name,str s.src,iI s.n,va,vu,vw] true)∧notOf z q4) (G:=?G) ?b ?main
  case b =>
   intro main;by_cases hk:s.kind=5
   case pos =>
    have hk' : (s.kind == 5)=true:=by simpa using hk
    replace main:=Hid.mk main;replace hk:=za hk;replace hk':=za hk';have hk2:=hk'.h;simp only [zb,aR,aW,ze,zf,yb, *];refine Ye (p:=p) od.h (hr.h.mono (lh1.h.trans l4.h)) ot.h _ _ fun h5 l5=>?_;have g5:=l5.get gq4;have ho5:OwnS (zw h1.next) h5 1 vo ((uj p (ss.take i)).map inR):=ho4.h.get fun id hv hs=>l5.getE id hs;obtain ⟨v',h6,ap,ho6,le6,k6,n6,nx6⟩:=ho5.append1 (x:=[iI (ku p.ress s.name)]) (ym (by have:=l4.h.next;have:=l5.next;omega)) rfl (by omega) (b:=8) (by rw [List.length_map];have:=lk0.h;have:=ct2.h;omega) (by rw [List.length_map];have:=lk0.h;have:=ct2.h;omega);have u:=yi0 (ku p.ress s.name);have l6:h1.le h6:=⟨fun id o hg=>by
     have h1:=(l4.h.trans l5).get hg;rw [k6 id (by rw [h1];rfl) (ho4.h.notOf (Heap.lt_of_get hg))];exact h1,by have:=(l4.h.trans l5).next;omega⟩
    have gb6:=l6.get gb1;have g:=main.h v' h6 ⟨by rw [if_pos hk.h,List.map_append];exact ho6,l6,by rw [k6 q4 (by rw [g5];rfl) n4.h];exact g5,n6 q4 (by rw [g5];rfl)⟩;replace g:=Hid.mk g;clear main;replace l5:=za l5;replace ho5:=za ho5;replace ho6:=za ho6;replace le6:=za le6;replace k6:=za k6;replace n6:=za n6;replace l6:=za l6;simp only [zb,aR,aW, *];exact g.h
   case neg =>
    have hk' : (s.kind == 5)=false:=by simpa using hk
    have g:=Hid.mk (main vo h4 ⟨by rw [if_neg hk,List.append_nil];exact ho4.h,l4.h,gq4,n4.h⟩);clear main;replace hk:=Hid.mk hk;simp only [zb,aR,aW,ze,zf, *];exact g.h
  case main =>
   rintro z hX ⟨hoX,lX,gX,nX⟩;have gbX:=lX.get gb1;obtain ⟨rw0,hrw0⟩:∃ l,uj p (ss.take i)++(if s.kind=5 then [ku p.ress s.name] else [])=l:=⟨_,rfl⟩;rw [hrw0] at hoX;have lrw:rw0.length≤ye (ss.take i) + 1:=by
    rw [← hrw0,List.length_append];have:=lk0.h;split<;>simp<;>omega
   replace hoX:=za hoX;replace lX:=za lX;replace hrw0:=za hrw0;replace lrw:=za lrw;replace nX:=za nX;simp only [zb,aR,yb, *];refine ih.h d' (by have:=ed.h;omega) p _ s.thn vu hX _ ((hx0.h.mono lh1.h).mono lX.h) htI.h (by have:=ceq.h;have:=ct2.h;omega) (hvu.h.mono (lh1.h.trans lX.h)) fun h5 w1 l5 how=>zb9 l5.ext ?_;have g5:=l5.get gX;have gb5:=l5.get gbX;have ho5:OwnS (zw h1.next) h5 1 z (rw0.map inR):=hoX.h.get fun id hv hs=>l5.getE id hs;obtain ⟨v1,h6,ap1,ho6,le6,k6,n6,nx6⟩:=ho5.append (ym (by have:=lX.h.next;have:=l5.next;omega)) how.sl (by omega) (b:=8) (by rw [List.length_map,List.length_map];have:=lrw.h;have:=ll1.h;have:=ceq.h;have:=ct2.h;omega) (by rw [List.length_map,List.length_map];have:=lrw.h;have:=ll1.h;have:=ceq.h;have:=ct2.h;omega);obtain ⟨pb,hpb,hpn⟩:=but_of k6 nx6;have npq:(q4 == pb)=false:=hpn q4 (by have:=Heap.lt_of_get g5;omega) nX.h;have npb:(b1 == pb)=false:=hpn b1 (by have:=Heap.lt_of_get gb5;omega) (hoX.h.notOf (Heap.lt_of_get gb1));have l6:h1.le h6:=⟨fun id o hg=>by
    have h1:=(lX.h.trans l5).get hg;rw [k6 id (by rw [h1];rfl) (hoX.h.notOf (Heap.lt_of_get hg))];exact h1,by have:=(lX.h.trans l5).next;omega⟩
   have g6:h6.get q4=_:=(k6 q4 (by rw [g5];rfl) nX.h).trans g5;have gb6:=l6.get gb1;have n6q:=n6 q4 (by rw [g5];rfl) nX.h;rw [← List.map_append] at ho6;replace l5:=za l5;replace how:=za how;replace ho5:=za ho5;replace ho6:=za ho6;replace le6:=za le6;replace k6:=za k6;replace n6:=za n6;replace hpb:=za hpb;replace hpn:=za hpn;replace l6:=za l6;replace n6q:=za n6q;simp only [zb,aW, *];refine jr hpb.h ?_;simp only [zb,aR,yb, *];refine ih.h d' (by have:=ed.h;omega) p _ s.els vw h6 _ ((hx0.h.mono lh1.h).mono l6.h) heI.h (by have:=ceq.h;have:=ct2.h;omega) (hvw.h.mono (lh1.h.trans l6.h)) fun h7 w2 l7 how2=>?_;have ho7:OwnS (zw h1.next) h7 1 v1 ((rw0++uj p s.thn).map inR):=ho6.h.get fun id hv hs=>l7.getE id hs;obtain ⟨v2,h8,ap2,ho8,le8,k8,n8,nx8⟩:=ho7.append (ym (by have:=l6.h.next;have:=l7.next;omega)) how2.sl (by omega) (b:=8) (by rw [List.length_map,List.length_map,List.length_append];have:=lrw.h;have:=ll1.h;have:=ll2.h;have:=ceq.h;have:=ct2.h;omega) (by rw [List.length_map,List.length_map,List.length_append];have:=lrw.h;have:=ll1.h;have:=ll2.h;have:=ceq.h;have:=ct2.h;omega);have l8:h1.le h8:=⟨fun id o hg=>by
    have h1:=(l6.h.trans l7).get hg;rw [k8 id (by rw [h1];rfl) (ho6.h.notOf (Heap.lt_of_get hg))];exact h1,by have:=(l6.h.trans l7).next;omega⟩
   rw [← List.map_append] at ho8;have er:rw0++uj p s.thn++uj p s.els=uj p (ss.take (i + 1)):=by
    rw [lt1.h,lkS_eq,← hrw0.h];simp [List.append_assoc]
   rw [er] at ho8;have g:=fun a b=>hR.h [prV p.harts dv rv tv,v,ptr b1,v2,a,v,iI ss.length,iI (i + 1:Nat),b] h8 hlt ⟨v2,a,b,rfl,l8,ho8⟩;clear ih hq hR;replace g:=za g;replace l7:=za l7;replace how2:=za how2;replace ho7:=za ho7;replace ho8:=za ho8;replace le8:=za le8;replace k8:=za k8;replace n8:=za n8;replace l8:=za l8;replace er:=za er;simp only [zb,aW,ze,zf, *];exact g.h _ _
theorem yq5 (d:Nat):qc6 d:=Nat.strongRecOn d fun _ ih=>locks_of ih
end Go.Eng.Sy
namespace Go.Proofs
open Go.Shelf
def zt0:Go.Shelf.Ren:=⟨fun | 189=>38 | 125=>54 | 257=>53 | 128=>96 | 129=>97 | 294=>87 | 295=>88 | 296=>89 | 297=>90 | 298=>91 | 299=>92 | 216=>93 | 300=>94 | 301=>95 | 328=>127 | 329=>128 | 330=>129 | 331=>130 | 332=>131 | 215=>132 | 343=>158 | n=>n,fun | 28=>22 | 3=>3 | 46=>96 | 0=>0 | 51=>145 | 53=>147 | 4=>4 | 183=>138 | 182=>137 | 131=>142 | 5=>5 | 9=>9 | 218=>167 | 222=>171 | 228=>189 | 229=>190 | n=>n,fun | n=>n⟩
theorem yr2:Go.Proofs.Lays.n189 Tryz.prog zt0 where
 mixed:=by kernel_rfl
 f125:=Tryz.func54.trans (congrArg some (by kernel_rfl))
 f128:=Tryz.func96.trans (congrArg some (by kernel_rfl))
 f129:=Tryz.func97.trans (congrArg some (by kernel_rfl))
 f189:=Tryz.func38.trans (congrArg some (by kernel_rfl))
 f215:=Tryz.func132.trans (congrArg some (by kernel_rfl))
 f216:=Tryz.func93.trans (congrArg some (by kernel_rfl))
 f257:=Tryz.func53.trans (congrArg some (by kernel_rfl))
 f294:=Tryz.func87.trans (congrArg some (by kernel_rfl))
 f295:=Tryz.func88.trans (congrArg some (by kernel_rfl))
 f296:=Tryz.func89.trans (congrArg some (by kernel_rfl))
 f297:=Tryz.func90.trans (congrArg some (by kernel_rfl))
 f298:=Tryz.func91.trans (congrArg some (by kernel_rfl))
 f299:=Tryz.func92.trans (congrArg some (by kernel_rfl))
 f300:=Tryz.func94.trans (congrArg some (by kernel_rfl))
 f301:=Tryz.func95.trans (congrArg some (by kernel_rfl))
 f328:=Tryz.func127.trans (congrArg some (by kernel_rfl))
 f329:=Tryz.func128.trans (congrArg some (by kernel_rfl))
 f330:=Tryz.func129.trans (congrArg some (by kernel_rfl))
 f331:=Tryz.func130.trans (congrArg some (by kernel_rfl))
 f332:=Tryz.func131.trans (congrArg some (by kernel_rfl))
 f343:=Tryz.func158.trans (congrArg some (by kernel_rfl))
 t0:=Tryz.underlying0
 a0:=Tryz.isAgg0
 z0:=Tryz.sizeOf0
 v0:=Tryz.zeroValue0
 t3:=Tryz.underlying3
 a3:=Tryz.isAgg3
 z3:=Tryz.sizeOf3
 v3:=Tryz.zeroValue3
 t4:=Tryz.underlying4
 a4:=Tryz.isAgg4
 z4:=Tryz.sizeOf4
 v4:=Tryz.zeroValue4
 t5:=Tryz.underlying5
 a5:=Tryz.isAgg5
 z5:=Tryz.sizeOf5
 v5:=Tryz.zeroValue5
 t9:=Tryz.underlying9
 a9:=Tryz.isAgg9
 z9:=Tryz.sizeOf9
 v9:=Tryz.zeroValue9
 t28:=Tryz.underlying22
 a28:=Tryz.isAgg22
 z28:=Tryz.sizeOf22
 v28:=Tryz.zeroValue22
 t46:=Tryz.underlying96
 a46:=Tryz.isAgg96
 z46:=Tryz.sizeOf96
 v46:=Tryz.zeroValue96
 t51:=Tryz.underlying145
 a51:=Tryz.isAgg145
 z51:=Tryz.sizeOf145
 v51:=Tryz.zeroValue145
 t53:=Tryz.underlying147
 a53:=Tryz.isAgg147
 z53:=Tryz.sizeOf147
 v53:=Tryz.zeroValue147
 t131:=Tryz.underlying142
 a131:=Tryz.isAgg142
 z131:=Tryz.sizeOf142
 v131:=Tryz.zeroValue142
 t182:=Tryz.underlying137
 a182:=Tryz.isAgg137
 z182:=Tryz.sizeOf137
 v182:=Tryz.zeroValue137
 t183:=Tryz.underlying138
 a183:=Tryz.isAgg138
 z183:=Tryz.sizeOf138
 v183:=Tryz.zeroValue138
 t218:=Tryz.underlying167
 a218:=Tryz.isAgg167
 z218:=Tryz.sizeOf167
 v218:=Tryz.zeroValue167
 t222:=Tryz.underlying171
 a222:=Tryz.isAgg171
 z222:=Tryz.sizeOf171
 v222:=Tryz.zeroValue171
 t228:=Tryz.underlying189
 a228:=Tryz.isAgg189
 z228:=Tryz.sizeOf189
 v228:=Tryz.zeroValue189
 t229:=Tryz.underlying190
 a229:=Tryz.isAgg190
 z229:=Tryz.sizeOf190
 v229:=Tryz.zeroValue190
def yg2:Go.Shelf.Ren:=⟨fun | 20=>39 | n=>n,fun | 22=>22 | 3=>3 | 4=>4 | 0=>0 | n=>n,fun | n=>n⟩
theorem lays20:Go.Proofs.Lays2.n20 Tryz.prog yg2 where
 mixed:=by kernel_rfl
 f20:=Tryz.func39.trans (congrArg some (by kernel_rfl))
 t0:=Tryz.underlying0
 a0:=Tryz.isAgg0
 z0:=Tryz.sizeOf0
 v0:=Tryz.zeroValue0
 t3:=Tryz.underlying3
 a3:=Tryz.isAgg3
 z3:=Tryz.sizeOf3
 v3:=Tryz.zeroValue3
 t4:=Tryz.underlying4
 a4:=Tryz.isAgg4
 z4:=Tryz.sizeOf4
 v4:=Tryz.zeroValue4
 t22:=Tryz.underlying22
 a22:=Tryz.isAgg22
 z22:=Tryz.sizeOf22
 v22:=Tryz.zeroValue22
 i3:=by kernel_rfl
end Go.Proofs
namespace Go.Eng.Sy
open Go Go.Eng Go.Proofs
theorem ze6:∀ (zs:List Int),(zs.map inR).flatten=zs.map (.int .i64)
 | []=>rfl
 | z::zs=>by simp [ze6 zs]
abbrev srt (zs:List Int):List Int:=zs.mergeSort fun x y=>decide (x≤y)
theorem OwnS.ints {n0:Nat}{h:Heap}{v:Value}{zs:List Int}(hv:OwnS (zw n0) h 1 v (zs.map inR)) (hz:zs≠[]):∃ id,v = .slice (some ⟨id,0,none⟩) zs.length 1∧n0≤id∧h.get id=some (.blk (zs.map (.int .i64)) true):=by
 rcases hv with ⟨_,e⟩ | ⟨id,e,h1,h2,_⟩
 ·exact absurd (List.map_eq_nil_iff.1 e) hz
 ·exact ⟨id,by rw [e,List.length_map],h1,by rw [h2,ze6]⟩
theorem OwnS.intsOf {n0:Nat}{h:Heap}{id:Nat}{zs:List Int}(hn:n0≤id) (hg:h.get id=some (.blk (zs.map (.int .i64)) true)):OwnS (zw n0) h 1 (.slice (some ⟨id,0,none⟩) zs.length 1) (zs.map inR) :=
 .inr ⟨id,by rw [List.length_map],hn,by rw [ze6];exact hg,by simp⟩
theorem sort_c {n0:Nat}{h:Heap}{v:Value}{zs:List Int}(hv:OwnS (zw n0) h 1 v (zs.map inR)) (hl:zs.length≤1000000) (Q:vPq)
  (hq:∀ h',OwnS (zw n0) h' 1 v ((srt zs).map inR)→(∀ i,notOf v i→h'.get i=h.get i)→h'.next=h.next→Q (.tuple #[]) h'):CallW Tryz.prog 38 [v] h Q:=by
 have he:Jg Tryz.prog 38:=enters_of Tryz.func38 (by kernel_rfl) rfl;by_cases hz:zs=[]
 ·subst hz;refine ⟨_,_,CallT.of_same he fun ρ w args' ha=>⟨.tuple #[],.same _ rfl,?_⟩,hq h (by simpa using hv) (fun _ _=>rfl) rfl⟩;have e:∃ p cap,args' = [.slice p 0 cap]:=by
   cases ha with
   | cons x x' _ _ h1 hr =>
    cases hr
    rcases hv with ⟨rfl,_⟩ | ⟨id,e,_⟩
    ·exact ⟨none,0,by rw [VR.plain_inv rfl h1]⟩
    ·rw [e] at h1;obtain ⟨l,off',cap,_,e2,_⟩:=h1.slice_inv;exact ⟨_,cap,by rw [e2];rfl⟩
  obtain ⟨p0,cap,rfl⟩:=e;exact Any.slices_Sort_int_none yr2 p0 cap w
 ·obtain ⟨id,rfl,hn,hg⟩:=OwnS.ints hv hz;have hsl:(srt zs).length=zs.length:=List.length_mergeSort _;refine ⟨_,_,CallT.of_row (ys:=srt zs) (va:=.tuple #[]) (vc:=fun _ _=>.tuple #[]) (fun _ _ _ _ _ _ _=>.same _ rfl) he hg hz hsl fun w blk cap hH hb _=>Any.slices_Sort_int yr2 blk 0 cap zs w hH hb (by omega),?_⟩;refine hq _ ?_ (fun i hi=>Heap.set_getE _ _ _ _ (by simpa using fun e:i=id=>hi _ _ (by rw [e]))) rfl;rw [← hsl];exact OwnS.intsOf hn (Heap.set_getS _ _ _ (by rw [hg];rfl))
theorem zu9 {zs:List Int}{z:Int}(h:z ∈ Lib.compact zs):z ∈ zs:=by
 unfold Lib.compact Lib.compactUpTo at h;obtain ⟨i,hi,rfl⟩:=List.mem_map.1 h;have hi2:=(List.mem_filter.1 hi).1;rw [List.mem_range] at hi2;have:i < zs.toArray.size:=by simpa using hi2
 rw [getElem!_pos zs.toArray i this];simp
theorem zv0 (zs:List Int):(Lib.compact zs).length≤zs.length:=by
 unfold Lib.compact Lib.compactUpTo;rw [List.length_map];have:=List.length_filter_le (Lib.keeps zs.toArray) (List.range zs.length);simpa using this
theorem yv3 {n0:Nat}{h:Heap}{v:Value}{zs:List Int}(hv:OwnS (zw n0) h 1 v (zs.map inR)) (hl:zs.length≤1000000) (Q:vPq)
  (hq:∀ v' h',Ints h' v' (Lib.compact zs)→(∀ i,notOf v i→h'.get i=h.get i)→h'.next=h.next→Q v' h'):CallW Tryz.prog 39 [v] h Q:=by
 have he:Jg Tryz.prog 39:=enters_of Tryz.func39 (by kernel_rfl) rfl;by_cases hz:zs=[]
 ·subst hz;have hsl:Ints h v (Lib.compact []):=by
   have:=hv.sl;show SlV h 1 v _;simpa [Lib.compact,Lib.compactUpTo] using this
  refine ⟨v,_,CallT.of_same he fun ρ w args' ha=>?_,hq v h hsl (fun _ _=>rfl) rfl⟩;cases ha with
  | cons x x' _ _ h1 hr =>
   cases hr
   have e:∃ p cap,x' = .slice p 0 cap:=by
    rcases hv with ⟨rfl,_⟩ | ⟨id,e,_⟩
    ·exact ⟨none,0,by rw [VR.plain_inv rfl h1]⟩
    ·rw [e] at h1;obtain ⟨l,off',cap,_,e2,_⟩:=h1.slice_inv;exact ⟨_,cap,by rw [e2];rfl⟩
   obtain ⟨p0,cap,rfl⟩:=e;exact ⟨_,h1,Any.slices_Compact_int_empty lays20 p0 cap w⟩
 ·obtain ⟨id,rfl,hn,hg⟩:=OwnS.ints hv hz;have hcl:=zv0 zs;have hyl:(Lib.compact zs++List.replicate (zs.length - (Lib.compact zs).length) 0).length=zs.length:=by simp;omega
  refine ⟨_,_,CallT.of_row (ys:=Lib.compact zs++List.replicate (zs.length - (Lib.compact zs).length) 0) (va:=.slice (some ⟨id,0,none⟩) (Lib.compact zs).length 1) (vc:=fun b cap=>.slice (some ⟨b,0,none⟩) (Lib.compact zs).length cap) (fun ρ l cap h1 h2 h3 h4=>.slice id 0 0 _ 1 cap l h1 (by omega) (.inl ⟨by omega,by omega⟩)) he hg hz hyl fun w blk cap hH hb hc=>?_,?_⟩
  ·refine (Any.slices_Compact_int lays20 blk 0 cap zs w hH (by omega) hc).mono fun e w' ⟨h1,q,h2⟩=>⟨h1,q,#[],by rw [h2,Sort.grow_empty]⟩
  ·refine hq _ _ ?_ (fun i hi=>Heap.set_getE _ _ _ _ (by simpa using fun e:i=id=>hi _ _ (by rw [e]))) rfl;refine .inr ⟨id,0,by simp,.inr ⟨_,_,Heap.set_getS _ _ _ (by rw [hg];rfl),fun i x hi=>?_⟩⟩;rw [List.getElem?_map] at hi;cases hc:(Lib.compact zs)[i]? with
   | none=>rw [hc] at hi;cases hi
   | some z =>
    rw [hc] at hi;cases hi;have hlt:=(List.getElem?_eq_some_iff.1 hc).1;refine ⟨rfl,by rw [List.length_map];omega,?_⟩;have e:((Lib.compact zs++List.replicate (zs.length - (Lib.compact zs).length) 0).map (Value.int .i64))[i]? = some (iI z):=by
     rw [List.getElem?_map,List.getElem?_append_left hlt,hc];rfl
    rw [show 0 + i * 1=i by omega];obtain ⟨hb,he'⟩:=List.getElem?_eq_some_iff.1 e;rw [List.drop_eq_getElem_cons hb,List.take_succ_cons,List.take_zero,he']
def OwnP (n:Nat) (h:Heap) (v:Value) (ys tl:List Int):Prop :=
 (v=zq∧ys=[]∧tl=[]) ∨ ∃ id,v = .slice (some ⟨id,0,none⟩) ys.length 1∧n≤id∧h.get id=some (.blk ((ys++tl).map (.int .i64)) true)
theorem OwnP.of {n:Nat}{h:Heap}{v:Value}{ys:List Int}(hv:OwnS (zw n) h 1 v (ys.map inR)):OwnP n h v ys []:=by
 rcases hv with ⟨rfl,e⟩ | ⟨id,e,h1,h2,_⟩
 ·exact .inl ⟨rfl,List.map_eq_nil_iff.1 e,rfl⟩
 ·exact .inr ⟨id,by rw [e,List.length_map],h1,by rw [h2,ze6,List.append_nil]⟩
theorem OwnP.len {n:Nat}{h:Heap}{v:Value}{ys tl:List Int}(hv:OwnP n h v ys tl):ua [v]=some (iI ys.length):=by
 rcases hv with ⟨rfl,rfl,_⟩ | ⟨id,rfl,_⟩<;>rfl
theorem OwnP.keep {n:Nat}{h h' : Heap}{v:Value}{ys tl:List Int}(hv:OwnP n h v ys tl) (hl:h.le h'):OwnP n h' v ys tl:=by
 rcases hv with hv | ⟨id,e,h1,h2⟩
 ·exact .inl hv
 ·exact .inr ⟨id,e,h1,hl.get h2⟩
theorem OwnP.ints {n:Nat}{h:Heap}{v:Value}{ys tl:List Int}(hv:OwnP n h v ys tl):Ints h v ys:=by
 rcases hv with ⟨rfl,rfl,_⟩ | ⟨id,e,h1,h2⟩
 ·exact .inl ⟨rfl,rfl⟩
 ·refine .inr ⟨id,0,by simpa using e,.inr ⟨_,_,h2,fun i x hi=>?_⟩⟩;rw [List.getElem?_map] at hi;cases hc:ys[i]? with
  | none=>rw [hc] at hi;cases hi
  | some z =>
   rw [hc] at hi;cases hi;have hlt:=(List.getElem?_eq_some_iff.1 hc).1;refine ⟨rfl,by rw [List.length_map,List.length_append];omega,?_⟩;have e:((ys++tl).map (Value.int .i64))[i]? = some (iI z):=by
    rw [List.getElem?_map,List.getElem?_append_left hlt,hc];rfl
   rw [show 0 + i * 1=i by omega];obtain ⟨hb,he'⟩:=List.getElem?_eq_some_iff.1 e;rw [List.drop_eq_getElem_cons hb,List.take_succ_cons,List.take_zero,he']
theorem OwnP.at {n:Nat}{h:Heap}{v:Value}{ys tl:List Int}(hv:OwnP n h v ys tl){i:Nat}{z:Int}(hi:ys[i]? = some z) :
  ∃ id,zp 1 [v,iI (i:Int)]=some (pT id i)∧h.get id=some (.blk ((ys++tl).map (.int .i64)) true)∧((ys++tl).map (Value.int .i64))[i]? = some (iI z)∧v = .slice (some ⟨id,0,none⟩) ys.length 1∧n≤id ∧
   ∀ u:Int,∃ h',zt 1 h [pT id i,iI u]=some (udq,h')∧OwnP n h' v (ys.set i u) tl∧(∀ j,notOf v j→h'.get j=h.get j)∧h'.next=h.next:=by
 have hlt:=(List.getElem?_eq_some_iff.1 hi).1;rcases hv with ⟨_,rfl,_⟩ | ⟨id,rfl,h1,h2⟩
 ·simp at hi
 ·refine ⟨id,?_,h2,by rw [List.getElem?_map,List.getElem?_append_left hlt,hi];rfl,rfl,h1,fun u=>⟨_,jw (k:=.i64) (z:=u) (off:=i) h2 (by rw [List.length_map,List.length_append];omega),.inr ⟨id,by rw [List.length_set],h1,?_⟩,fun j hj=>Heap.set_getE _ _ _ _ (by simpa using fun e:j=id=>hj _ _ (by rw [e])),rfl⟩⟩
  ·have:(i:Int) < ys.length:=by omega
   simp [zp,hlt]
  ·rw [Heap.set_getS _ _ _ (by rw [h2];rfl),← List.set_append_left _ _ hlt,List.map_set]
theorem OwnP.atI {n:Nat}{h:Heap}{v:Value}{ys tl:List Int}(hv:OwnP n h v ys tl){id L:Nat}(hid:v = .slice (some ⟨id,0,none⟩) L 1){i:Nat}{z:Int}(hi:ys[i]? = some z) :
  zp 1 [v,iI (i:Int)]=some (pT id i)∧h.get id=some (.blk ((ys++tl).map (.int .i64)) true)∧((ys++tl).map (Value.int .i64))[i]? = some (iI z) ∧
   ∀ u:Int,∃ h',zt 1 h [pT id i,iI u]=some (udq,h')∧OwnP n h' v (ys.set i u) tl∧(∀ j,notOf v j→h'.get j=h.get j)∧h'.next=h.next:=by
 obtain ⟨id2,a,b,c,d,_,e⟩:=hv.at hi;have:id2=id:=by rw [d] at hid;injection hid with e1;injection e1 with e1;injection e1
 subst this;exact ⟨a,b,c,e⟩
theorem swap_mid {a:List Int}{x y:Int}{b:List Int}{k:Nat}(hk:a.length=k):((a++y::x::b).set (k + 1) y).set k x=a++x::y::b:=by
 subst hk;rw [List.set_append_right _ _ (by omega),show a.length + 1 - a.length=1 by omega,List.set_append_right _ _ (Nat.le_refl _),Nat.sub_self];rfl
structure Off (v:Value) (h h' : Heap):Prop where
 get:∀ i,notOf v i→(h.get i).isSome=true→h'.get i=h.get i
 next:h.next≤h'.next
theorem Off.refl (v:Value) (h:Heap):Off v h h:=⟨fun _ _ _=>rfl,Nat.le_refl _⟩
theorem Off.le {v:Value}{h a b:Heap}(h1:Off v h a) (h2:a.le b):Off v h b :=
 ⟨fun i hi hs=>by rw [h2.getE i (by rw [h1.get i hi hs];exact hs),h1.get i hi hs],Nat.le_trans h1.next h2.next⟩
theorem Off.st {v:Value}{h a b:Heap}(h1:Off v h a) (h2:∀ j,notOf v j→b.get j=a.get j) (h3:b.next=a.next):Off v h b :=
 ⟨fun i hi hs=>by rw [h2 i hi,h1.get i hi hs],by rw [h3];exact h1.next⟩
def CmpF (v fv:Value) (h:Heap) (lt:Int→Int→Bool) (ys:List Int):Prop:=∀ a b,a ∈ ys→b ∈ ys → ∀ (h1:Heap) (Q:vPq),Off v h h1→(∀ z h',decide (z < 0)=lt a b→h1.le h' → Q (iI z) h')→ValW Tryz.prog fv [iI a,iI b] h1 Q
theorem Vb {α:Type}(a:List α) (x:α) (b:List α):(a++x::b)[a.length]? = some x:=by
 rw [List.getElem?_append_right (Nat.le_refl _),Nat.sub_self];rfl
set_option maxHeartbeats 4000000 in
theorem zt8 {n:Nat}{h:Heap}{v fv:Value}{lt:Int→Int→Bool}{ys tl:List Int}(hv:OwnP n h v ys tl) (hl:ys.length≤1000000) (hf:CmpF v fv h lt ys) (Q:vPq)
  (hq:∀ h',OwnP n h' v (ul lt ys) tl→Off v h h' → Q (.tuple #[]) h'):CallW Tryz.prog 85 [v,iI 0,iI ys.length,fv] h Q:=by
 have e0:ul lt (ys.take 1)++ys.drop 1=ys:=by
  cases ys with
  | nil=>rfl
  | cons y r=>rfl
 replace hv:=za hv;replace hf:=za hf;replace e0:=za e0;refine Kt ok85 rfl rfl rfl fun N=>?_;rw [ev4q c85 Zm rfl];delta c85;replace hq:=za hq;simp only [zb,ze,zf, *];refine LoopW.upto (ys.length + 1) (fun i en hh=>∃ x5,en=[v,iI 0,iI ys.length,fv,iI (i + 1:Nat),x5]∧OwnP n hh v (ul lt (ys.take (i + 1))++ys.drop (i + 1)) tl∧Off v h hh) ?_ (Nat.zero_le _) ⟨_,rfl,by rw [e0.h];exact hv.h,Off.refl _ _⟩;rintro i _ h3 R hi ⟨x5,rfl,ho3,hf3⟩ hR;delta c85_l8;by_cases hlt:i + 1 < ys.length
 case neg =>
  have hlt' : ¬ ((i + 1:Nat):Int) < ys.length:=by omega
  rw [List.take_of_length_le (by omega),List.drop_eq_nil_of_le (by omega),List.append_nil] at ho3;have g:=hq.h h3 ho3 hf3;replace g:=za g;replace ho3:=za ho3;replace hf3:=za hf3;simp only [zb,ze,zf, *];exact g.h
 case pos =>
  have hlt' : ((i + 1:Nat):Int) < ys.length:=by omega
  have hw:IntKind.i64.wrap (((i + 1:Nat):Int) + 1)=((i + 1 + 1:Nat):Int):=by rw [zn (by omega) (by omega)];rfl
  obtain ⟨x,hx⟩:∃ x,ys[i + 1]? = some x:=⟨_,List.getElem?_eq_getElem hlt⟩;have ex:=yg4 lt hx;obtain ⟨pre,hpre⟩:∃ l,ul lt (ys.take (i + 1))=l:=⟨_,rfl⟩;have pl:pre.length=i + 1:=by rw [← hpre,zm9,List.length_take];omega
  have hd:ys.drop (i + 1)=x::ys.drop (i + 2):=by
   rw [List.drop_eq_getElem_cons hlt];congr 1;exact (List.getElem?_eq_some_iff.1 hx).2
  rw [hpre,hd] at ho3;rw [hpre] at ex;have hmemx:x ∈ ys:=List.mem_of_getElem? hx;have hmemp:∀ z ∈ pre,z ∈ ys:=fun z hz=>by rw [← hpre,yr6] at hz;exact List.mem_of_mem_take hz
  replace ho3:=za ho3;replace hf3:=za hf3;replace ex:=za ex;replace hpre:=za hpre;replace hd:=za hd;replace hmemx:=za hmemx;replace hmemp:=za hmemp;replace hx:=za hx;simp only [zb,ze,zf, *];refine LoopW.down (fun j en hh=>en=[v,iI 0,iI ys.length,fv,iI (i + 1:Nat),iI (j:Int)]∧j≤i + 1∧OwnP n hh v (pre.take j++x::(pre.drop j++ys.drop (i + 2))) tl∧Off v h hh∧W8 lt x (pre.take j).reverse (pre.drop j)=W8 lt x pre.reverse []) ?_ (m:=i + 1) ⟨rfl,Nat.le_refl _,by rw [List.take_of_length_le (by omega),List.drop_eq_nil_of_le (by omega)];exact ho3.h,hf3.h,by rw [List.take_of_length_le (by omega),List.drop_eq_nil_of_le (by omega)]⟩;rintro j _ h4 R2 ⟨rfl,hj,ho4,hf4,hin⟩ hR2;delta c85_l6;have fin:∀ hE:Heap,OwnP n hE v (W8 lt x (pre.take j).reverse (pre.drop j)++ys.drop (i + 2)) tl→Off v h hE→R [v,iI 0,iI ys.length,fv,iI (i + 1 + 1:Nat),iI (j:Int)] hE:=fun hE h1 h2=>hR.h _ hE (by omega) ⟨_,rfl,by rw [ex.h,← hin];exact h1,h2⟩;cases j with
  | zero =>
   have z:¬ (0:Int) < ((0:Nat):Int):=by decide
   have g:=fin h4 (by simpa [W8] using ho4) hf4;clear hR hR2 fin;replace g:=za g;replace ho4:=za ho4;replace hf4:=za hf4;replace hin:=za hin;simp only [zb,ze,zf, *];exact g.h
  | succ k =>
   have z:(0:Int) < ((k + 1:Nat):Int):=by omega
   have hwj:IntKind.i64.wrap (((k + 1:Nat):Int) - 1)=(k:Int):=by rw [zn (by omega) (by omega)];omega
   have hkp:k < pre.length:=by omega
   obtain ⟨y,hy⟩:∃ y,pre[k]? = some y:=⟨_,List.getElem?_eq_getElem hkp⟩;have etk:pre.take (k + 1)=pre.take k++[y]:=by rw [List.take_add_one,hy];rfl
   have edk:pre.drop k=y::pre.drop (k + 1):=by
    rw [List.drop_eq_getElem_cons hkp];congr 1;exact (List.getElem?_eq_some_iff.1 hy).2
   have tl1:(pre.take k).length=k:=by rw [List.length_take];omega
   have ecs:pre.take (k + 1)++x::(pre.drop (k + 1)++ys.drop (i + 2))=pre.take k++y::x::(pre.drop (k + 1)++ys.drop (i + 2)):=by rw [etk];simp
   rw [ecs] at ho4;have g1:(pre.take k++y::x::(pre.drop (k + 1)++ys.drop (i + 2)))[k]? = some y:=by have:=Vb (pre.take k) y (x::(pre.drop (k + 1)++ys.drop (i + 2)));rwa [tl1] at this
   have g2:(pre.take k++y::x::(pre.drop (k + 1)++ys.drop (i + 2)))[k + 1]? = some x:=by
    have:=Vb (pre.take k++[y]) x (pre.drop (k + 1)++ys.drop (i + 2));rw [List.length_append,tl1] at this;simpa using this
   obtain ⟨id,a1,a2,a3,hvid,_,_⟩:=ho4.at g1;obtain ⟨b1,_,b3,_⟩:=ho4.atI hvid g2;have hym:y ∈ ys:=hmemp.h y (List.mem_of_getElem? hy);have nv:∀ j,j≠id→notOf v j:=fun j hj a b e=>by rw [hvid] at e;cases e;exact hj rfl
   replace ho4:=za ho4;replace hf4:=za hf4;replace hin:=za hin;replace fin:=za fin;replace hy:=za hy;replace etk:=za etk;replace edk:=za edk;replace tl1:=za tl1;replace ecs:=za ecs;replace g1:=za g1;replace g2:=za g2;replace hvid:=za hvid;replace hym:=za hym;replace nv:=za nv;simp only [zb,aR,ze,zf, *];refine hf.h x y hmemx.h hym.h h4 _ hf4.h fun zc h5 hz l5=>?_;have ho5:=ho4.h.keep l5;have hf5:=hf4.h.le l5;cases hc:lt x y with
   | true =>
    have zc0:zc < 0:=by rw [hc] at hz;simpa using hz
    obtain ⟨_,p2,_,p4⟩:=ho5.atI hvid.h g1.h;obtain ⟨_,_,_,q4⟩:=ho5.atI hvid.h g2.h;obtain ⟨h6,s6,ho6,k6,n6⟩:=q4 y;have g3:((pre.take k++y::x::(pre.drop (k + 1)++ys.drop (i + 2))).set (k + 1) y)[k]? = some y:=by
     rw [List.getElem?_set_ne (by omega)];exact g1.h
    obtain ⟨_,r2,r3,r4⟩:=ho6.atI hvid.h g3;obtain ⟨h7,s7,ho7,k7,n7⟩:=r4 x;rw [swap_mid tl1.h] at ho7;have hf7:Off v h h7:=(hf5.st k6 n6).st k7 n7;have eq7:pre.take k++x::y::(pre.drop (k + 1)++ys.drop (i + 2))=pre.take k++x::(pre.drop k++ys.drop (i + 2)):=by rw [edk.h];rfl
    rw [eq7] at ho7;have hin7:W8 lt x (pre.take k).reverse (pre.drop k)=W8 lt x pre.reverse []:=by
     have:=hin.h;rw [etk.h,List.reverse_append] at this;simp only [List.reverse_cons,List.reverse_nil,List.nil_append,List.singleton_append,W8,hc,if_true] at this;rw [edk.h];exact this
    have g:=hR2.h k [v,iI 0,iI ys.length,fv,iI (i + 1:Nat),iI (k:Int)] h7 (by omega) ⟨rfl,by omega,ho7,hf7,hin7⟩;clear hR hR2 p4 q4 r4 hq;replace g:=za g;replace hz:=za hz;replace l5:=za l5;replace ho5:=za ho5;replace hf5:=za hf5;replace hc:=za hc;replace ho6:=za ho6;replace k6:=za k6;replace n6:=za n6;replace g3:=za g3;replace ho7:=za ho7;replace k7:=za k7;replace n7:=za n7;replace hf7:=za hf7;replace hin7:=za hin7;replace eq7:=za eq7;simp only [zb,aR,aW,ze,zf, *];exact g.h
   | false =>
    have zc0:¬ zc < 0:=by rw [hc] at hz;simpa using hz
    have g:=fin.h h5 (by
     rw [etk.h,List.reverse_append];simp only [List.reverse_cons,List.reverse_nil,List.nil_append,List.singleton_append,W8,hc,Bool.false_eq_true,if_false,List.reverse_reverse,List.append_assoc,List.cons_append];exact ho5) hf5
    clear hR hR2 hq;replace g:=za g;replace hz:=za hz;replace l5:=za l5;replace ho5:=za ho5;replace hf5:=za hf5;replace hc:=za hc;simp only [zb,ze,zf, *];exact g.h
theorem stable_c {n:Nat}{h:Heap}{v fv:Value}{lt:Int→Int→Bool}{ys tl:List Int}(hv:OwnP n h v ys tl) (hl:ys.length≤19) (hf:CmpF v fv h lt ys) (Q:vPq)
  (hq:∀ h',OwnP n h' v (ul lt ys) tl→Off v h h' → Q (.tuple #[]) h'):CallW Tryz.prog 52 [v,iI ys.length,fv] h Q:=by
 replace hv:=za hv;replace hf:=za hf;refine Kt ok52 rfl rfl rfl fun N=>?_;rw [zj7 c52 Ub rfl];delta c52;replace hq:=za hq;simp only [zb, *];refine LoopW.upto 1 (fun i en hh=>en=[v,iI ys.length,fv,iI 20,iI 0,iI 20,udq]∧hh=h) ?_ (Nat.zero_le _) ⟨rfl,rfl⟩;rintro i _ _ R hi ⟨rfl,rfl⟩ hR;delta c52_l6;have n20:¬ (20:Int)≤ys.length:=by omega
 clear hR;simp only [zb,ze,zf, *];refine zt8 hv.h (by omega) hf.h _ fun h2 ho hof=>?_;have g:=hq.h h2 ho hof;replace g:=za g;replace ho:=za ho;replace hof:=za hof;simp only [zb, *];refine LoopW.upto 1 (fun i en hh=>en=[v,iI ys.length,fv,iI 20,iI 0,iI 20,udq]∧hh=h2) ?_ (Nat.zero_le _) ⟨rfl,rfl⟩;rintro j _ _ R hj ⟨rfl,rfl⟩ hR;delta yx2;have n20' : ¬ (20:Int) < ys.length:=by omega
 clear hR;simp only [zb,ze,zf, *];exact g.h
theorem zk5 {n:Nat}{h:Heap}{v fv:Value}{lt:Int→Int→Bool}{ys tl:List Int}(hv:OwnP n h v ys tl) (hl:ys.length≤19) (hf:CmpF v fv h lt ys) (Q:vPq)
  (hq:∀ h',OwnP n h' v (ul lt ys) tl→Off v h h' → Q (.tuple #[]) h'):CallW Tryz.prog 36 [v,fv] h Q:=by
 have hln:=hv.len;replace hv:=za hv;replace hf:=za hf;refine Kt ok36 rfl rfl rfl fun N=>?_;rw [show Ug c36 [v,fv]=[v,fv] from rfl];delta c36;replace hq:=za hq;simp only [zb, *];refine stable_c hv.h hl hf.h _ fun h2 ho hof=>?_;have g:=hq.h h2 ho hof;replace g:=za g;replace ho:=za ho;replace hof:=za hof;simp only [zb, *];exact g.h
def TellF (v fv:Value) (h:Heap) (p:Int→Bool) (ys:List Int):Prop:=∀ z,z ∈ ys → ∀ (h1:Heap) (Q:vPq),Off v h h1→(∀ h',h1.le h' → Q (.bool (p z)) h')→ValW Tryz.prog fv [iI z] h1 Q
theorem OwnP.get {n:Nat}{h:Heap}{v:Value}{ys tl:List Int}(hv:OwnP n h v ys tl){i:Nat}{z:Int}(hi:ys[i]? = some z):∃ id off cells own,zp 1 [v,iI (i:Int)]=some (pT id off)∧h.get id=some (.blk cells own)∧cells[off]? = some (iI z):=by
 obtain ⟨id,a,b,c,_⟩:=hv.at hi;exact ⟨id,i,_,true,a,b,c⟩
theorem indexI_c {n:Nat}{h:Heap}{v fv:Value}{p:Int→Bool}{ys tl:List Int}(hv:OwnP n h v ys tl) (hl:ys.length≤1000000) (hf:TellF v fv h p ys) (Q:vPq)
  (hq:∀ h',h.le h' → Q (iI (match ys.findIdx? p with | some i=>(i:Int) | none=>-1)) h'):CallW Tryz.prog 51 [v,fv] h Q:=by
 have hln:=hv.len;replace hv:=za hv;replace hf:=za hf;refine zg (k:=2) ok51 rfl rfl rfl fun N=>?_;rw [wn c51 J4 rfl];delta c51;replace hq:=za hq;simp only [zb, *];refine LoopW.upto ys.length (fun i e h1=>h.le h1∧(∀ j e,j < i→ys[j]? = some e→p e=false) ∧ ∃ x3 x6,e=[v,fv,iI 0,x3,iI ys.length,iI i,x6]) ?_ (Nat.zero_le _) ⟨Heap.le.refl h,by intro j e hj;omega,_,_,rfl⟩;rintro i _ h1 R hi ⟨hl1,hp,x3,x6,rfl⟩ hR;delta c51_l7;by_cases hlt:i < ys.length
 ·have hlt' : (i:Int) < ys.length:=by omega
  obtain ⟨e,he⟩:∃ e,ys[i]? = some e:=⟨_,List.getElem?_eq_getElem hlt⟩;obtain ⟨id,off,cells,own,e1,e2,e3⟩:=(hv.h.keep hl1).get he;have hw:IntKind.i64.wrap ((i:Int) + 1)=((i + 1:Nat):Int):=by rw [zn (by omega) (by omega)];rfl
  replace hp:=za hp;simp only [zb,aR,ze,zf, *];refine hf.h e (List.mem_of_getElem? he) h1 _ ((Off.refl v h).le hl1) fun h2 hl2=>?_;cases hpe:p e with
  | true =>
   have:ys.findIdx? p=some i:=by
    rw [List.findIdx?_eq_some_iff_getElem];refine ⟨hlt,by rw [List.getElem?_eq_getElem hlt] at he;cases he;exact hpe,fun j hj=>?_⟩;have:=hp.h j ys[j] hj (List.getElem?_eq_getElem _);simp [this]
   have g:=hq.h h2 (hl1.trans hl2);rw [this] at g;replace g:=Hid.mk g;replace this:=Hid.mk this;clear hR;simp only [zb, *];exact g.h
  | false =>
   have g:=fun a b=>hR.h [v,fv,iI 0,a,iI ys.length,iI (i + 1:Nat),b] h2 hlt ⟨hl1.trans hl2,fun j e' hj hje=>by
    by_cases hji:j=i
    ·subst hji;rw [he] at hje;cases hje;exact hpe
    ·exact hp.h j e' (by omega) hje,_,_,rfl⟩
   replace g:=Hid.mk g;clear hR;simp only [zb,ze,zf, *];exact g.h _ _
 ·have hlt' : ¬ (i:Int) < ys.length:=by omega
  have hnone:ys.findIdx? p=none:=by
   rw [List.findIdx?_eq_none_iff];intro e he;obtain ⟨j,hj⟩:=List.mem_iff_getElem?.1 he;exact hp j e (by have:=(List.getElem?_eq_some_iff.1 hj).1;omega) hj
  have g:=hq.h h1 hl1;rw [hnone] at g;replace g:=Hid.mk g;clear hR hp;simp only [zb,ze,zf, *];exact g.h
theorem Ve {p:Int→Bool}{ys:List Int}{j:Nat}{z:Int}(hz:ys[j]? = some z):(ys.take (j + 1)).filter p=(ys.take j).filter p++if p z then [z] else []:=by
 rw [List.take_add_one,hz,List.filter_append];cases h:p z<;>simp [h]
theorem slice_hi {id i n:Nat}(h:i≤n):jo 1 false true [.slice (some ⟨id,0,none⟩) n 1,iI (i:Int)]=some (.slice (some ⟨id,0,none⟩) i 1):=by
 have h1:(i:Int)≤n:=by omega
 simp [jo,Uh,h]
theorem slice_lo {id i n:Nat}(h:i≤n):jo 1 true false [.slice (some ⟨id,0,none⟩) n 1,iI (i:Int)]=some (.slice (some ⟨id,i,none⟩) (n - i) 1):=by
 have h1:(i:Int)≤n:=by omega
 simp [jo,Uh,h]
theorem rep_flat (n:Nat):(List.replicate n [Value.int .i64 0]).flatten=(List.replicate n (0:Int)).map (.int .i64):=by
 induction n with
 | zero=>rfl
 | succ n ih=>rw [List.replicate_succ,List.flatten_cons,ih,List.replicate_succ];rfl
set_option maxHeartbeats 1000000 in
theorem delete_c {n:Nat}{h:Heap}{v fv:Value}{p:Int→Bool}{ys:List Int}(hv:OwnP n h v ys []) (hl:ys.length≤1000000) (hf:TellF v fv h p ys) (Q:vPq)
  (hq:∀ v' h' tl,OwnP n h' v' (ys.filter (fun z=>!p z)) tl→Off v h h' → (∀ i,notOf v i→notOf v' i)→Q v' h'):CallW Tryz.prog 33 [v,fv] h Q:=by
 have hln:=hv.len;replace hv:=za hv;replace hf:=za hf;refine zg (k:=2) ok33 rfl rfl rfl fun N=>?_;rw [wn c33 Ub rfl];delta c33;replace hq:=za hq;simp only [zb, *];refine indexI_c hv.h hl hf.h _ fun h1 l1=>?_;cases hx:ys.findIdx? p with
 | none =>
  have e:ys.filter (fun z=>!p z)=ys:=by
   rw [List.filter_eq_self];intro z hz;rw [List.findIdx?_eq_none_iff] at hx;simpa using hx z hz
  have g:=hq.h v h1 [] (by rw [e];exact hv.h.keep l1) ((Off.refl v h).le l1) (fun _ h=>h);replace g:=za g;replace l1:=za l1;replace hx:=za hx;replace e:=za e;simp only [zb,ze,zf, *];exact g.h
 | some i0 =>
  obtain ⟨k1,k2,k3⟩:=List.findIdx?_eq_some_iff_getElem.1 hx;have f0:(ys.take (i0 + 1)).filter (fun z=>!p z)=ys.take i0:=by
   rw [Ve (List.getElem?_eq_getElem k1)];rw [show (!p ys[i0])=false by rw [k2];rfl];rw [List.filter_eq_self.2 (fun z hz=>?_)]
   ·simp
   ·obtain ⟨j,hj⟩:=List.mem_iff_getElem?.1 hz;obtain ⟨h3,h4⟩:=List.getElem?_eq_some_iff.1 hj;rw [List.length_take] at h3;rw [List.getElem_take] at h4;have:=k3 j (by omega);rw [h4] at this;simpa using this
  have ne1:((i0:Int) == -1)=false:=by simp only [beq_eq_false_iff_ne];omega
  have hw0:IntKind.i64.wrap ((i0:Int) + 1)=((i0 + 1:Nat):Int):=by rw [zn (by omega) (by omega)];rfl
  have ho1:=hv.h.keep l1;obtain ⟨id,hvid,hnid⟩:∃ id,v = .slice (some ⟨id,0,none⟩) ys.length 1∧n≤id:=by
   rcases hv.h with ⟨_,rfl,_⟩ | ⟨id,e,e2,_⟩
   ·simp at k1
   ·exact ⟨id,e,e2⟩
  replace l1:=za l1;replace hx:=za hx;replace k2:=za k2;replace k3:=za k3;replace f0:=za f0;replace ho1:=za ho1;replace hvid:=za hvid;replace hnid:=za hnid;simp only [zb,ze,zf, *];refine LoopW.upto ys.length (fun j en hh=>∃ (i:Nat) (L:List Int) (x5:Value),en=[v,fv,zq,iI (i:Int),iI (j:Int),x5]∧i < j∧L.length=ys.length∧L.take i=(ys.take j).filter (fun z=>!p z)∧L.drop j=ys.drop j∧OwnP n hh v L []∧Off v h hh) ?_ (by omega:i0 + 1≤ys.length) ⟨i0,ys,_,rfl,by omega,rfl,f0.h.symm,rfl,ho1.h,(Off.refl v h).le l1.h⟩;rintro j _ h3 R hj ⟨i,L,x5,rfl,hij,hLl,hLt,hLd,ho3,hf3⟩ hR;delta yy0;by_cases hlt:j < ys.length
  ·have hlt' : (j:Int) < ys.length:=by omega
   have hwj:IntKind.i64.wrap ((j:Int) + 1)=((j + 1:Nat):Int):=by rw [zn (by omega) (by omega)];rfl
   have hwi:IntKind.i64.wrap ((i:Int) + 1)=((i + 1:Nat):Int):=by rw [zn (by omega) (by omega)];rfl
   obtain ⟨z,hz⟩:∃ z,ys[j]? = some z:=⟨_,List.getElem?_eq_getElem hlt⟩;have hzL:L[j]? = some z:=by
    have:(L.drop j)[0]? = (ys.drop j)[0]?:=by rw [hLd]
    simpa [hz] using this
   obtain ⟨a1,a2,a3,_⟩:=ho3.atI hvid.h hzL;have ft:=Ve (p:=fun z=>!p z) hz;have hld2:L.drop (j + 1)=ys.drop (j + 1):=by
    have:=congrArg (List.drop 1) hLd;simpa [List.drop_drop] using this
   replace ho3:=za ho3;replace hf3:=za hf3;replace hLt:=za hLt;replace hLd:=za hLd;replace ft:=za ft;replace hld2:=za hld2;replace hz:=za hz;replace hzL:=za hzL;replace hij:=za hij;replace hLl:=za hLl;simp only [zb,aR,ze,zf, *];refine hf.h z (List.mem_of_getElem? hz.h) h3 _ hf3.h fun h4 l4=>?_;have ho4:=ho3.h.keep l4;have hf4:=hf3.h.le l4;cases hp:p z with
   | true =>
    have g:=fun a=>hR.h [v,fv,zq,iI (i:Int),iI (j + 1:Nat),a] h4 hlt ⟨i,L,a,rfl,by have:=hij.h;omega,hLl.h,by rw [hLt.h,ft.h,hp];simp,hld2.h,ho4,hf4⟩;clear hR hq;replace g:=za g;replace l4:=za l4;replace ho4:=za ho4;replace hf4:=za hf4;replace hp:=za hp;simp only [zb,ze,zf, *];exact g.h _
   | false =>
    have hil:i < L.length:=by have:=hij.h;have:=hLl.h;omega
    obtain ⟨zi,hzi⟩:∃ z,L[i]? = some z:=⟨_,List.getElem?_eq_getElem hil⟩;obtain ⟨b1,b2,b3,b4⟩:=ho4.atI hvid.h hzi;obtain ⟨h5,s5,ho5,kk5,nn5⟩:=b4 z;have g:=fun a=>hR.h [v,fv,zq,iI (i + 1:Nat),iI (j + 1:Nat),a] h5 hlt ⟨i + 1,L.set i z,a,rfl,by have:=hij.h;omega,by rw [List.length_set];exact hLl.h,by
     rw [ft.h,hp,← hLt.h,List.take_add_one,List.take_set_of_le (Nat.le_refl _),List.getElem?_set];simp [hil],by rw [List.drop_set_of_lt (by have:=hij.h;omega)];exact hld2.h,ho5,hf4.st kk5 nn5⟩
    clear hR hq b4;replace g:=za g;replace l4:=za l4;replace ho4:=za ho4;replace hf4:=za hf4;replace hp:=za hp;replace ho5:=za ho5;replace kk5:=za kk5;replace nn5:=za nn5;replace hzi:=za hzi;replace hil:=za hil;simp only [zb,aW,ze,zf, *];exact g.h _
  ·have hlt' : ¬ (j:Int) < ys.length:=by omega
   rw [List.take_of_length_le (l:=ys) (by omega)] at hLt;have hil:i≤ys.length:=by omega
   have hLi:(ys.filter fun z=>!p z).length=i:=by rw [← hLt,List.length_take];omega
   have e1:jo 1 true false [v,iI (i:Int)]=some (.slice (some ⟨id,i,none⟩) (ys.length - i) 1):=by rw [hvid.h];exact slice_lo hil
   have e2:jo 1 false true [v,iI (i:Int)]=some (.slice (some ⟨id,0,none⟩) i 1):=by rw [hvid.h];exact slice_hi hil
   have gid:h3.get id=some (.blk (L.map (.int .i64)) true):=by
    rcases ho3 with ⟨e,_⟩ | ⟨id2,e,_,e3⟩
    ·rw [hvid.h] at e;cases e
    ·have:id2=id:=by rw [hvid.h] at e;injection e with e1;injection e1 with e1;injection e1 with e1;exact e1.symm
     rw [← this,e3,List.append_nil]
   have s1:Wa 1 [iI 0] h3 [.slice (some ⟨id,i,none⟩) (ys.length - i) 1]=some (.tuple #[],h3.set id (.blk (((ys.filter fun z=>!p z)++List.replicate (ys.length - i) 0).map (.int .i64)) true)):=by
    simp only [Wa,gid];rw [if_pos (by rw [List.length_map];omega),rep_flat,← List.map_take,hLt,List.drop_eq_nil_of_le (by rw [List.length_map];omega),List.append_nil,← List.map_append]
   obtain ⟨h4,eh4⟩:∃ x,h3.set id (.blk (((ys.filter fun z=>!p z)++List.replicate (ys.length - i) 0).map (.int .i64)) true)=x:=⟨_,rfl⟩;rw [eh4] at s1;have nvi:∀ k,notOf v k→k≠id:=fun k hk e=>hk ys.length 1 (by rw [hvid.h,e]);have ho4:OwnP n h4 (.slice (some ⟨id,0,none⟩) i 1) (ys.filter fun z=>!p z) (List.replicate (ys.length - i) 0):=.inr ⟨id,by rw [hLi],hnid.h,by rw [← eh4];exact Heap.set_getS _ _ _ (by rw [gid];rfl)⟩;have g:=hq.h _ h4 _ ho4 (hf3.st (fun k hk=>by rw [← eh4];exact Heap.set_getE _ _ _ _ (by simpa using nvi k hk)) (by rw [← eh4];rfl)) (fun k hk a b e=>by cases e;exact nvi _ hk rfl);clear hR;replace g:=za g;replace ho3:=za ho3;replace hf3:=za hf3;replace hLt:=za hLt;replace hLd:=za hLd;replace ho4:=za ho4;replace nvi:=za nvi;replace hij:=za hij;replace hLl:=za hLl;replace hLi:=za hLi;simp only [zb,aW,ze,zf, *];exact g.h
end Go.Eng.Sy
