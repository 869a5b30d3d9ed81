/-
  Part of a proof of the laws of layer 09 (ceiling): the laws.
  Conditions: none.
-/
import Derived.Test.YtddbbcpelbcahaaGreatDoorBn
set_option linter.unusedSimpArgs false
set_option linter.unusedVariables false
namespace Go.Eng.Sy
open Go Go.Eng Go.Proofs
mutual
def lkdS (m:lBq):St→Bool
 | .mk k n _ _ _ t e=>ju m t || ju m e || (k == 5 && n == m)
def ju (m:lBq):List St→Bool
 | []=>false
 | s::r=>lkdS m s || ju m r
end
theorem zm6 (m:lBq):∀ (a b:List St),ju m (a++b)=(ju m a || ju m b)
 | [],b=>by simp [ju]
 | s::a,b=>by simp only [List.cons_append,ju,zm6 m a b,Bool.or_assoc]
theorem yg1 {m:lBq}{l:List St}{i:Nat}{s:St}(hi:l[i]? = some s):ju m (l.take (i + 1))=(ju m (l.take i) || lkdS m s):=by
 rw [List.take_add_one,hi,zm6];simp [ju]
theorem zm5 {m:lBq}:∀ {l:List St}{s:St},s ∈ l→lkdS m s=true→ju m l=true
 | [],s,h,_=>by cases h
 | a::r,s,h,hs=>by
  rcases List.mem_cons.1 h with rfl | h
  ·simp [ju,hs]
  ·simp [ju,zm5 h hs]
abbrev rnm (p:Prg) (i:Nat):lBq:=(p.ress.map (·.name)).getD i []
theorem Uv {p:Prg}{i:Nat}{d:Nm}(h:p.ress[i]? = some d):rnm p i=d.name:=by
 unfold rnm;rw [List.getD_eq_getElem?_getD,List.getElem?_map,h];rfl
theorem ix_iff {p:Prg}(hn:(p.ress.map (·.name)).Nodup){i:Nat}{d:Nm}(hi:p.ress[i]? = some d) (m:lBq):ku p.ress m=(i:Int)↔m=d.name:=by
 obtain ⟨hlt,hd⟩:=List.getElem?_eq_some_iff.1 hi;unfold ku;cases hf:p.ress.findIdx? (fun e=>e.name == m) with
 | none =>
  constructor
  ·intro h;simp only at h;omega
  ·intro h;have:=List.findIdx?_eq_none_iff.1 hf d (List.mem_of_getElem? hi);rw [h] at this;simp at this
 | some j =>
  obtain ⟨hj,he,_⟩:=List.findIdx?_eq_some_iff_getElem.1 hf;have he' : (p.ress[j]).name=m:=by simpa using he
  simp only;constructor
  ·intro h;have:j=i:=by omega
   subst this;rw [← he',hd]
  ·intro h;have hp:=List.pairwise_iff_getElem.1 hn;rcases Nat.lt_trichotomy j i with h1 | h1 | h1
   ·have:=hp j i (by rw [List.length_map];exact hj) (by rw [List.length_map];exact hlt) h1;rw [List.getElem_map,List.getElem_map,he',hd] at this;exact absurd h this
   ·rw [h1]
   ·have:=hp i j (by rw [List.length_map];exact hlt) (by rw [List.length_map];exact hj) h1;rw [List.getElem_map,List.getElem_map,he',hd] at this;exact absurd h.symm this
mutual
theorem lkdS_iff {p:Prg}(hn:(p.ress.map (·.name)).Nodup){i:Nat}{d:Nm}(hi:p.ress[i]? = some d):∀ (s:St),lkdS d.name s=true↔(i:Int) ∈ lkS p s
 | .mk k m f n a t e=>by
  have h1:=ue hn hi t;have h2:=ue hn hi e;have h3:=ix_iff hn hi m;simp only [lkdS,lkS,Bool.or_eq_true,Bool.and_eq_true,beq_iff_eq,List.mem_append,h1,h2];by_cases hk:k=5
  ·rw [if_pos hk,List.mem_singleton];constructor
   ·rintro ((h | h) | ⟨_,h⟩)
    ·exact .inl (.inr h)
    ·exact .inr h
    ·exact .inl (.inl (h3.2 h).symm)
   ·rintro ((h | h) | h)
    ·exact .inr ⟨hk,h3.1 h.symm⟩
    ·exact .inl (.inl h)
    ·exact .inl (.inr h)
  ·rw [if_neg hk];constructor
   ·rintro ((h | h) | ⟨h,_⟩)
    ·exact .inl (.inr h)
    ·exact .inr h
    ·exact absurd h hk
   ·rintro ((h | h) | h)
    ·cases h
    ·exact .inl (.inl h)
    ·exact .inl (.inr h)
theorem ue {p:Prg}(hn:(p.ress.map (·.name)).Nodup){i:Nat}{d:Nm}(hi:p.ress[i]? = some d):∀ (l:List St),ju d.name l=true↔(i:Int) ∈ uj p l
 | []=>by simp [ju,uj]
 | s::r=>by
  simp only [ju,uj,Bool.or_eq_true,List.mem_append,lkdS_iff hn hi s,ue hn hi r]
end
def Zd (p:Prg) (body:List St) (n:Nat):List Int:=((List.range n).filter fun i=>ju (rnm p i) body).map fun (i:Nat)=>(i:Int)
theorem zs2 (p:Prg) (body:List St) (n:Nat):Zd p body (n + 1)=Zd p body n++if ju (rnm p n) body then [(n:Int)] else []:=by
 unfold Zd;rw [List.range_succ,List.filter_append,List.map_append]
 congr 1
 rw [List.filter_cons];split<;>simp
theorem Uy (p:Prg) (body:List St) (n:Nat):(Zd p body n).length≤n:=by
 unfold Zd;rw [List.length_map];have:=List.length_filter_le (fun i=>ju (rnm p i) body) (List.range n);simpa using this
theorem ye7 (p:Prg) (body:List St) (n:Nat):(Zd p body n).Pairwise (· < ·):=by
 unfold Zd;rw [List.pairwise_map];refine List.Pairwise.filter _ ?_;exact List.pairwise_lt_range.imp fun h=>by omega
theorem qb3:∀ {a b:List Int},a.Pairwise (· < ·)→b.Pairwise (· < ·)→(∀ z,z ∈ a↔z ∈ b)→a=b
 | [],[],_,_,_=>rfl
 | [],y::b,_,_,h=>by have:=(h y).2 (by simp);cases this
 | x::a,[],_,_,h=>by have:=(h x).1 (by simp);cases this
 | x::a,y::b,ha,hb,h=>by
  obtain ⟨a1,a2⟩:=List.pairwise_cons.1 ha;obtain ⟨b1,b2⟩:=List.pairwise_cons.1 hb;have hxy:x=y:=by
   have h1:=(h x).1 (by simp);have h2:=(h y).2 (by simp);rcases List.mem_cons.1 h1 with e | h1
   ·exact e
   ·rcases List.mem_cons.1 h2 with e | h2
    ·exact e.symm
    ·have:=b1 x h1;have:=a1 y h2;omega
  subst hxy
  congr 1
  refine qb3 a2 b2 fun z=>?_;constructor
  ·intro hz;rcases List.mem_cons.1 ((h z).1 (by simp [hz])) with e | h3
   ·have:=a1 z hz;omega
   ·exact h3
  ·intro hz;rcases List.mem_cons.1 ((h z).2 (by simp [hz])) with e | h3
   ·have:=b1 z hz;omega
   ·exact h3
theorem compU {d:Array Int}{n:Nat}(hs:∀ i j,i≤j→j < n→d[i]! ≤ d[j]!):∀ m,m≤n→(Lib.compactUpTo d m).Pairwise (· < ·)∧(∀ z ∈ Lib.compactUpTo d m,∃ j,j < m∧z=d[j]!) ∧ ∀ j,j < m→d[j]! ∈ Lib.compactUpTo d m
 | 0,_=>by simp [Lib.compactUpTo]
 | m + 1,hm=>by
  obtain ⟨h1,h2,h3⟩:=compU hs m (by omega);rw [Lib.compactUpTo_succ];cases hk:Lib.keeps d m with
  | true =>
   simp only [if_true];have hk' : m=0∨d[m]! ≠ d[m - 1]!:=by simpa [Lib.keeps] using hk
   refine ⟨List.pairwise_append.2 ⟨h1,by simp,fun a ha b hb=>?_⟩,fun z hz=>?_,fun j hj=>?_⟩
   ·rw [List.mem_singleton.1 hb];obtain ⟨j,hj,rfl⟩:=h2 a ha;rcases hk' with h0 | hne
    ·omega
    ·have:=hs j (m - 1) (by omega) (by omega);have:=hs (m - 1) m (by omega) (by omega);omega
   ·rcases List.mem_append.1 hz with hz | hz
    ·obtain ⟨j,hj,e⟩:=h2 z hz;exact ⟨j,by omega,e⟩
    ·exact ⟨m,by omega,List.mem_singleton.1 hz⟩
   ·rcases Nat.lt_succ_iff_lt_or_eq.1 hj with hj | rfl
    ·exact List.mem_append_left _ (h3 j hj)
    ·simp
  | false =>
   simp only [Bool.false_eq_true,if_false,List.append_nil];have hk' : ¬ (m=0∨d[m]! ≠ d[m - 1]!):=by simpa [Lib.keeps] using hk
   refine ⟨h1,fun z hz=>?_,fun j hj=>?_⟩
   ·obtain ⟨j,hj,e⟩:=h2 z hz;exact ⟨j,by omega,e⟩
   ·rcases Nat.lt_succ_iff_lt_or_eq.1 hj with hj | rfl
    ·exact h3 j hj
    ·have e:d[j]! = d[j - 1]!:=Decidable.byContradiction fun h=>hk' (.inr h);rw [e];exact h3 (j - 1) (by omega)
theorem srt_get {zs:List Int}{i j:Nat}(hij:i≤j) (hj:j < zs.length):(srt zs).toArray[i]! ≤ (srt zs).toArray[j]!:=by
 have hl:(srt zs).length=zs.length:=List.length_mergeSort _;have hp:(srt zs).Pairwise fun x y=>decide (x≤y)=true:=List.pairwise_mergeSort (le:=fun x y:Int=>decide (x≤y)) (fun a b c h1 h2=>by simp at *;omega) (fun a b=>by simp;omega) zs;rw [getElem!_pos _ i (by simp;omega),getElem!_pos _ j (by simp;omega)];rcases Nat.lt_or_eq_of_le hij with h | rfl
 ·have:=List.pairwise_iff_getElem.1 hp i j (by omega) (by omega) h;simpa using this
 ·exact Int.le_refl _
theorem comp_srt (zs:List Int):(Lib.compact (srt zs)).Pairwise (· < ·) ∧ ∀ z,z ∈ Lib.compact (srt zs)↔z ∈ zs:=by
 have hl:(srt zs).length=zs.length:=List.length_mergeSort _;obtain ⟨h1,h2,h3⟩:=compU (d:=(srt zs).toArray) (n:=zs.length) (fun i j=>srt_get) _ (Nat.le_of_eq hl);refine ⟨h1,fun z=>⟨fun hz=>List.mem_mergeSort.1 (zu9 hz),fun hz=>?_⟩⟩;have hz' : z ∈ srt zs:=List.mem_mergeSort.2 hz;obtain ⟨i,hi,rfl⟩:=List.mem_iff_getElem.1 hz';have:=h3 i hi
 rwa [getElem!_pos _ i (by simpa using hi)] at this
theorem locL_ref {p:Prg}(hn:(p.ress.map (·.name)).Nodup){t:Tsk}(hin:∀ z ∈ uj p t.body,0≤z∧z < p.ress.length):locL p t=Zd p t.body p.ress.length:=by
 obtain ⟨h1,h2⟩:=comp_srt (uj p t.body);refine qb3 h1 (ye7 _ _ _) fun z=>?_;show z ∈ Lib.compact (srt (uj p t.body))↔_;rw [h2];unfold Zd;rw [List.mem_map];constructor
 ·intro hz;have hb:=hin z hz;obtain ⟨i,rfl⟩:∃ i:Nat,z=(i:Int):=⟨z.toNat,by omega⟩;obtain ⟨d,hd⟩:∃ d,p.ress[i]? = some d:=⟨_,List.getElem?_eq_getElem (by omega)⟩;exact ⟨i,List.mem_filter.2 ⟨List.mem_range.2 (by omega),by rw [Uv hd];exact (ue hn hd _).2 hz⟩,rfl⟩
 ·rintro ⟨i,hi,rfl⟩;obtain ⟨hi1,hi2⟩:=List.mem_filter.1 hi;rw [List.mem_range] at hi1;obtain ⟨d,hd⟩:∃ d,p.ress[i]? = some d:=⟨_,List.getElem?_eq_getElem hi1⟩;rw [Uv hd] at hi2;exact (ue hn hd _).1 hi2
def rcS (p:Prg) (a:Int) (t:Tsk) (n:Int):Nat→Int
 | 0=>n
 | k + 1=>if ju (rnm p k) t.body=true∧t.hart=a then max (rcS p a t n k) t.prio else rcS p a t n k
def rcT (p:Prg) (a:Int) (r:Nat) (ts:List Tsk):Int:=ts.foldl (fun n t=>rcS p a t n (r + 1)) 0
theorem rcT_take {p:Prg}{a:Int}{r:Nat}{ts:List Tsk}{i:Nat}{t:Tsk}(hi:ts[i]? = some t):rcT p a r (ts.take (i + 1))=rcS p a t (rcT p a r (ts.take i)) (r + 1):=by
 unfold rcT;rw [List.take_add_one,hi,List.foldl_append];rfl
section
variable {p:Prg}{a:Int}{t:Tsk}{n m:Int}
theorem rcS_le:∀ (k:Nat),n≤rcS p a t n k
 | 0=>Int.le_refl _
 | k + 1=>by
  have:=rcS_le k;simp only [rcS];split<;>omega
theorem ym6:∀ (k j:Nat),j < k→ju (rnm p j) t.body=true→t.hart=a→t.prio≤rcS p a t n k
 | 0,j,h,_,_=>by omega
 | k + 1,j,h,h1,h2=>by
  simp only [rcS];rcases Nat.lt_succ_iff_lt_or_eq.1 h with h | rfl
  ·have:=ym6 k j h h1 h2;split<;>omega
  ·rw [if_pos ⟨h1,h2⟩];omega
theorem ym5 (hn:n≤m):∀ (k:Nat),(∀ j,j < k→ju (rnm p j) t.body=true→t.hart=a→t.prio≤m)→rcS p a t n k≤m
 | 0,_=>hn
 | k + 1,h=>by
  have h1:=ym5 hn k fun j hj=>h j (by omega);have h2:=h k (by omega);simp only [rcS];split
  ·rename_i hc;have:=h2 hc.1 hc.2;omega
  ·exact h1
end
section
variable {p:Prg}{a:Int}{r:Nat}{m:Int}
theorem yn0:∀ (ts:List Tsk) (n:Int),n≤ts.foldl (fun n t=>rcS p a t n (r + 1)) n
 | [],n=>Int.le_refl _
 | t::ts,n=>Int.le_trans (rcS_le (r + 1)) (yn0 ts _)
theorem yn1:∀ (ts:List Tsk) (n:Int) (t:Tsk) (j:Nat),t ∈ ts→j≤r→ju (rnm p j) t.body=true→t.hart=a→t.prio≤ts.foldl (fun n t=>rcS p a t n (r + 1)) n
 | [],n,t,j,h,_,_,_=>by cases h
 | x::ts,n,t,j,h,hj,h1,h2=>by
  rcases List.mem_cons.1 h with rfl | h
  ·exact Int.le_trans (ym6 (r + 1) j (by omega) h1 h2) (yn0 ts _)
  ·exact yn1 ts _ t j h hj h1 h2
theorem ym9:∀ (ts:List Tsk) (n:Int),n≤m→(∀ t ∈ ts,∀ j,j≤r→ju (rnm p j) t.body=true→t.hart=a→t.prio≤m)→ts.foldl (fun n t=>rcS p a t n (r + 1)) n≤m
 | [],n,hn,_=>hn
 | x::ts,n,hn,h=>ym9 ts _ (ym5 hn _ fun j hj=>h x (by simp) j (by omega)) fun t ht=>h t (by simp [ht])
end
theorem U4 {n:Nat}{h v m:Int}{a k:Nat}:∀ (l:List Int) (V:Mat),V a k≤m→(∀ r ∈ l,(a:Int)=h→r≤k→v≤m)→(l.foldl (fun V r=>Yv n h r v V) V) a k≤m
 | [],V,hV,_=>hV
 | r::l,V,hV,hl=>by
  refine U4 l _ ?_ fun x hx=>hl x (by simp [hx]);show Yv n h r v V a k≤m;unfold Yv;split
  ·rename_i hc;have:=hl r (by simp) hc.1 hc.2.1;omega
  ·exact hV
theorem Un {p:Prg}{n:Nat}{m:Int}{a k:Nat}:∀ (ts:List Tsk) (V:Mat),V a k≤m→(∀ t ∈ ts,∀ r ∈ uj p t.body,(a:Int)=t.hart→r≤k→t.prio≤m)→(ts.foldl (zr7 p n) V) a k≤m
 | [],V,hV,_=>hV
 | t::ts,V,hV,h=>Un ts _ (U4 _ V hV (h t (by simp))) fun x hx=>h x (by simp [hx])
theorem yc0 {p:Prg}(hn:(p.ress.map (·.name)).Nodup) (hin:∀ t ∈ p.tasks,∀ z ∈ uj p t.body,0≤z∧z < p.ress.length) (a:Nat){k:Nat}(hk:k < p.ress.length):uw p p.tasks a k=rcT p a k p.tasks:=by
 have at_:∀ {i:Nat},i < p.ress.length → ∃ d,p.ress[i]? = some d:=fun h=>⟨_,List.getElem?_eq_getElem h⟩;refine Int.le_antisymm (Un _ _ (yn0 p.tasks 0) fun t ht r hr ha hrk=>?_) (ym9 _ _ (ceil_ge p p.tasks a k) fun t ht j hj hl ha=>?_)
 ·have hb:=hin t ht r hr;obtain ⟨i,rfl⟩:∃ i:Nat,r=(i:Int):=⟨r.toNat,by omega⟩;obtain ⟨d,hd⟩:=at_ (i:=i) (by omega);exact yn1 _ _ t i ht (by omega) (by rw [Uv hd];exact (ue hn hd _).2 hr) ha.symm
 ·obtain ⟨d,hd⟩:=at_ (i:=j) (by omega);rw [Uv hd] at hl;exact ceil_hit ht ((ue hn hd _).1 hl) ha.symm (by omega) hk
def lvR (p:Prg) (a v:Int) (l:List Int):Int:=l.foldl (fun (v r:Int)=>if 0≤r∧r < p.ress.length then max v (rcT p a r.toNat p.tasks) else v) v
theorem lvR_take {p:Prg}{a v:Int}{l:List Int}{i:Nat}{r:Int}(hi:l[i]? = some r):lvR p a v (l.take (i + 1))=if 0≤r∧r < p.ress.length then max (lvR p a v (l.take i)) (rcT p a r.toNat p.tasks) else lvR p a v (l.take i):=by
 unfold lvR;rw [List.take_add_one,hi,List.foldl_append];rfl
theorem ya2 {p:Prg}(hn:(p.ress.map (·.name)).Nodup) (hin:∀ t ∈ p.tasks,∀ z ∈ uj p t.body,0≤z∧z < p.ress.length) (a:Nat):∀ (l:List Int) (v:Int),levL p a v l=lvR p a v l
 | [],v=>rfl
 | r::l,v=>by
  have ih:=ya2 hn hin a l;have e:(if 0≤r∧r < p.ress.length then max v (uw p p.tasks a r.toNat) else v)=if 0≤r∧r < p.ress.length then max v (rcT p a r.toNat p.tasks) else v:=by
   split
   ·rename_i h;rw [yc0 hn hin a (by omega)]
   ·rfl
  show levL p a (if 0≤r∧r < p.ress.length then max v (uw p p.tasks a r.toNat) else v) l=lvR p a (if 0≤r∧r < p.ress.length then max v (rcT p a r.toNat p.tasks) else v) l;rw [e];exact ih _
def cls (p:Prg) (a k:Int):List Int:=(Jm a 0 p.tasks).filter fun z=>ur p z == k
theorem hndL_in {p:Prg}{a z:Int}(h:z ∈ Jm a 0 p.tasks):∃ (i:Nat) (t:Tsk),p.tasks[i]? = some t∧z=(i:Int)∧t.handler=true∧t.hart=a:=by
 obtain ⟨i,t,h1,h2,h3⟩:=ze4 h;exact ⟨i,t,h1,by rw [h2,Nat.zero_add],h3⟩
def yv7 (p:Prg) (a k:Int) (i:Nat):List Int:=(Jm a 0 (p.tasks.take i)).filter fun z=>ur p z == k
theorem yv6 {p:Prg}{a k:Int}{i:Nat}{t:Tsk}(hi:p.tasks[i]? = some t):yv7 p a k (i + 1)=yv7 p a k i++if t.handler=true∧t.hart=a∧t.prio=k then [(i:Int)] else []:=by
 unfold yv7;rw [zn2 hi,List.filter_append]
 congr 1
 by_cases h1:t.handler=true∧t.hart=a
 ·rw [if_pos h1,List.filter_cons,Qf hi];by_cases h2:t.prio=k
  ·rw [if_pos (by simpa using h2),if_pos ⟨h1.1,h1.2,h2⟩];rfl
  ·rw [if_neg (by simpa using h2),if_neg fun h=>h2 h.2.2];rfl
 ·rw [if_neg h1,if_neg fun h=>h1 ⟨h.1,h.2.1⟩];rfl
theorem yb9 (p:Prg) (a k:Int){i:Nat}(hi:p.tasks.length≤i):yv7 p a k i=cls p a k:=by
 unfold yv7 cls;rw [List.take_of_length_le hi]
def stU (p:Prg) (a:Int):Nat→List Int
 | 0=>[]
 | j + 1=>stU p a j++cls p a (7 - (j:Int))
theorem Ym {p:Prg}{a k z:Int}(h:z ∈ cls p a k):ur p z=k:=by
 have:=(List.mem_filter.1 h).2;simpa using this
theorem zy2 {p:Prg}{a:Int}:∀ {j:Nat}{z:Int},z ∈ stU p a j→7 - (j:Int) < ur p z∧ur p z≤7
 | 0,z,h=>by cases h
 | j + 1,z,h=>by
  rcases List.mem_append.1 h with h | h
  ·have:=zy2 h;omega
  ·have:=Ym h;omega
theorem Us (p:Prg) (a:Int):∀ j:Nat,(stU p a j).Pairwise (fun x y=>ur p y≤ur p x)
 | 0=>List.Pairwise.nil
 | j + 1=>by
  refine List.pairwise_append.2 ⟨Us p a j,?_,fun x hx y hy=>?_⟩
  ·refine List.Pairwise.imp_of_mem (R:=fun _ _=>True) (fun hx hy _=>?_) (List.pairwise_of_forall fun _ _=>trivial);rw [Ym hx,Ym hy];exact Int.le_refl _
  ·have:=zy2 hx;have:=Ym hy;omega
theorem Ut (p:Prg) (a k:Int):∀ j:Nat,(stU p a j).filter (fun z=>ur p z == k)=if 7 - (j:Int) < k∧k≤7 then cls p a k else []
 | 0=>by rw [if_neg (by omega)];rfl
 | j + 1=>by
  simp only [stU];rw [List.filter_append,Ut p a k j];have hc:(cls p a (7 - (j:Int))).filter (fun z=>ur p z == k)=if k=7 - (j:Int) then cls p a k else []:=by
   split
   ·rename_i h;subst h;exact List.filter_eq_self.2 fun z hz=>by rw [Ym hz];simp
   ·rename_i h;rw [List.filter_eq_nil_iff];intro z hz;rw [Ym hz];simp;omega
  rw [hc];by_cases h1:k=7 - (j:Int)
  ·rw [if_pos h1,if_neg (by omega),if_pos (by omega)];rfl
  ·rw [if_neg h1];by_cases h2:7 - (j:Int) < k∧k≤7
   ·rw [if_pos h2,if_pos (by omega)];simp
   ·rw [if_neg h2,if_neg (by omega)];rfl
theorem yl1 {p:Prg}(hp:∀ t ∈ p.tasks,1≤t.prio∧t.prio≤7){a v:Int}{j:Nat}(hj:j≤7) (h1:∀ i:Nat,i < j→v < 7 - (i:Int)) (h2:¬ ((0:Int) < 7 - (j:Int)∧v < 7 - (j:Int))):stU p a j=Wf p a v:=by
 refine Uu (ur p) (Us p a j) (zm8 _ _) fun k=>?_;rw [Ut,Wf,zn0,List.filter_filter];by_cases hk:7 - (j:Int) < k∧k≤7
 ·rw [if_pos hk];unfold cls;refine List.filter_congr fun z hz=>?_;have:=h1 (7 - k).toNat (by omega);by_cases e:ur p z=k
  ·simp [e];omega
  ·simp [e]
 ·rw [if_neg hk,eq_comm,List.filter_eq_nil_iff];intro z hz;obtain ⟨i,t,h3,rfl,_,_⟩:=hndL_in hz;have:=hp t (List.mem_of_getElem? h3);rw [Qf h3];simp only [Bool.and_eq_true,beq_iff_eq,decide_eq_true_eq,not_and];intro e hv;omega
def zn5 (a:Int) (ts:List Tsk) (k:Int):Bool:=ts.any fun t=>t.hart == a && t.handler && t.prio == k
theorem ys3 {a k:Int}{ts:List Tsk}{i:Nat}{t:Tsk}(hi:ts[i]? = some t):zn5 a (ts.take (i + 1)) k=(zn5 a (ts.take i) k || (t.hart == a && t.handler && t.prio == k)):=by
 unfold zn5;rw [List.take_add_one,hi,List.any_append];simp
def chK (a:Int) (ts:List Tsk):Nat→Nat
 | 0=>0
 | j + 1=>chK a ts j + if zn5 a ts ((j:Int) + 1) then 1 else 0
theorem chK_le (a:Int) (ts:List Tsk):∀ j,chK a ts j≤j
 | 0=>Nat.le_refl _
 | j + 1=>by have:=chK_le a ts j;simp only [chK];split<;>omega
def Zt (a:Int) (ts:List Tsk):Nat:=(ts.filter fun t=>t.hart == a && !t.handler).length
theorem yi1 {a:Int}{ts:List Tsk}{i:Nat}{t:Tsk}(hi:ts[i]? = some t):Zt a (ts.take (i + 1))=Zt a (ts.take i) + if t.hart == a && !t.handler then 1 else 0:=by
 unfold Zt;rw [List.take_add_one,hi,List.filter_append,List.length_append]
 congr 1
 simp only [Option.toList_some,List.filter_cons,List.filter_nil];split<;>rfl
theorem bootN_le (a:Int) (ts:List Tsk):Zt a ts≤ts.length:=List.length_filter_le _ _
def cntK (S:List Int):Nat→Nat
 | 0=>0
 | j + 1=>cntK S j + if S.contains ((j:Int) + 1) then 1 else 0
theorem za6 {S:List Int}{x:Int}:∀ j:Nat,(j:Int) < x→cntK (S.erase x) j=cntK S j
 | 0,_=>rfl
 | j + 1,h=>by
  simp only [cntK];rw [za6 j (by omega)];have:(S.erase x).contains ((j:Int) + 1)=S.contains ((j:Int) + 1):=by
   rw [Bool.eq_iff_iff,List.contains_iff_mem,List.contains_iff_mem];exact List.mem_erase_of_ne (by omega)
  rw [this]
theorem yb7:∀ (j:Nat) (S:List Int),S.Nodup→(∀ z ∈ S,1≤z∧z≤j)→S.length=cntK S j
 | 0,S,_,h=>by
  cases S with
  | nil=>rfl
  | cons z r=>have:=h z (by simp);omega
 | j + 1,S,hS,h=>by
  have ih:=yb7 j (S.erase ((j:Int) + 1)) (hS.erase _) fun z hz=>by
   have h1:=h z (List.mem_of_mem_erase hz);have h2:z≠(j:Int) + 1:=fun e=>by
    rw [e] at hz;exact (List.Nodup.not_mem_erase hS) hz
   omega
  rw [za6 j (by omega)] at ih;simp only [cntK];by_cases hm:(j:Int) + 1 ∈ S
  ·have hl:=List.length_erase_of_mem hm;have hp:0 < S.length:=List.length_pos_of_mem hm;rw [if_pos (by simpa using hm)];omega
  ·rw [List.erase_of_not_mem hm] at ih;rw [if_neg (by simpa using hm)];omega
theorem chF_ok (a:Int) (T:List Tsk):∀ (ts:List Tsk) (s:Nat × List Int) (pre:List Tsk),pre++ts=T→s.1=Zt a pre→s.2.Nodup→(∀ k,k ∈ s.2↔zn5 a pre k=true)→(ts.foldl (chS a) s).1=Zt a T∧(ts.foldl (chS a) s).2.Nodup ∧ ∀ k,k ∈ (ts.foldl (chS a) s).2↔zn5 a T k=true
 | [],s,pre,e,h1,h2,h3=>by rw [List.append_nil] at e;subst e;exact ⟨h1,h2,h3⟩
 | t::ts,s,pre,e,h1,h2,h3=>by
  have hb:Zt a (pre++[t])=Zt a pre + if t.hart == a && !t.handler then 1 else 0:=by
   unfold Zt;rw [List.filter_append,List.length_append]
   congr 1
   simp only [List.filter_cons,List.filter_nil];split<;>rfl
  have hk:∀ k,zn5 a (pre++[t]) k=(zn5 a pre k || (t.hart == a && t.handler && t.prio == k)):=fun k=>by
   unfold zn5;rw [List.any_append];simp
  refine chF_ok a T ts (chS a s t) (pre++[t]) (by rw [← e];simp) ?_ ?_ fun k=>?_
  ·rw [hb];unfold chS;by_cases ha:t.hart=a
   ·rw [if_neg (by simpa using ha)];cases hh:t.handler with
    | true=>simp [h1]
    | false=>simp [h1,ha]
   ·rw [if_pos ha];simp [h1,ha]
  ·unfold chS;split
   ·exact h2
   ·split
    ·dsimp only;split
     ·exact h2
     ·rename_i hc;rw [List.nodup_append];refine ⟨h2,by simp,fun x hx y hy=>?_⟩;rw [List.mem_singleton.1 hy];rintro rfl;exact hc (by simpa using hx)
    ·exact h2
  ·rw [hk];unfold chS;by_cases ha:t.hart=a
   ·rw [if_neg (by simpa using ha)];cases hh:t.handler with
    | true =>
     simp only [if_true];split
     ·rename_i hc;rw [h3 k];have hc' : zn5 a pre t.prio=true:=(h3 _).1 (by simpa using hc);by_cases e2:t.prio=k
      ·subst e2;simp [hc']
      ·simp [e2,ha]
     ·rw [List.mem_append,h3 k,List.mem_singleton];simp only [Bool.or_eq_true,Bool.and_eq_true,beq_iff_eq,Bool.and_true];constructor
      ·rintro (h | rfl)
       ·exact .inl h
       ·exact .inr ⟨ha,rfl⟩
      ·rintro (h | ⟨_,rfl⟩)
       ·exact .inl h
       ·exact .inr rfl
    | false =>
     rw [if_neg (by decide),h3 k];simp
   ·rw [if_pos ha,h3 k];simp [ha]
theorem yv8 {p:Prg}(hp:∀ t ∈ p.tasks,1≤t.prio∧t.prio≤7) (a:Int):(chL a p.tasks).1 + (chL a p.tasks).2.length=chK a p.tasks 7 + Zt a p.tasks:=by
 obtain ⟨h1,h2,h3⟩:=chF_ok a p.tasks p.tasks (0,[]) [] rfl rfl List.nodup_nil (fun k=>by simp [zn5]);have e:∀ j,cntK (chL a p.tasks).2 j=chK a p.tasks j:=fun j=>by
  induction j with
  | zero=>rfl
  | succ j ih =>
   simp only [cntK,chK,ih];have:(chL a p.tasks).2.contains ((j:Int) + 1)=zn5 a p.tasks ((j:Int) + 1):=by
    rw [Bool.eq_iff_iff,List.contains_iff_mem];exact h3 _
   rw [this]
 have hl:=yb7 7 (chL a p.tasks).2 h2 fun z hz=>by
  have hz:=(h3 z).1 hz;unfold zn5 at hz;rw [List.any_eq_true] at hz;obtain ⟨t,ht,hc⟩:=hz;simp only [Bool.and_eq_true,beq_iff_eq] at hc;have:=hp t ht;omega
 rw [e] at hl;have h1' : (chL a p.tasks).1=Zt a p.tasks:=h1;rw [hl,h1'];omega
theorem ys1 {h:Heap}{v:Value}{l:List Int}(hv:Ints h v l) (hl:l.length≤1000000) (k:Int) (Q:vPq) (hq:Q (.bool (l.contains k)) h):CallW Tryz.prog 154 [v,iI k] h Q:=by
 have lnl:=Ints.len hv;replace hv:=za hv;refine zg (k:=2) ok154 rfl rfl rfl fun N=>?_;rw [wn c154 Zm rfl];delta c154;replace hq:=za hq;simp only [zb, *];refine LoopW.upto l.length (fun i e hh=>e=[v,iI k,.bool false,iI i]∧hh=h∧(l.take i).contains k=false) ?_ (Nat.zero_le _) ⟨rfl,rfl,rfl⟩;rintro i _ hE R hi ⟨rfl,hE2,hc⟩ hR;replace hE2:=hE2.symm;subst hE2;delta yz7;by_cases hlt:i < l.length
 case neg =>
  have hlt' : ¬ (i:Int) < l.length:=by omega
  rw [List.take_of_length_le (by omega)] at hc;have g:=hq.h;rw [hc] at g;clear hR hq hc;replace g:=Hid.mk g;simp only [zb,ze,zf, *];exact g.h
 have hlt' : (i:Int) < l.length:=by omega
 have hw:IntKind.i64.wrap ((i:Int) + 1)=((i + 1:Nat):Int):=by rw [zn (by omega) (by omega)];rfl
 obtain ⟨z,hz⟩:∃ z,l[i]? = some z:=⟨_,List.getElem?_eq_getElem hlt⟩;obtain ⟨id,off,cells,own,e1,e2,e3⟩:=Ints.elem hv.h hz;have et:(l.take (i + 1)).contains k=(z == k):=by
  rw [List.take_add_one,hz,Bool.eq_iff_iff,List.contains_iff_mem,List.mem_append];have:¬ k ∈ l.take i:=fun hm=>by rw [List.contains_iff_mem.2 hm] at hc;cases hc
  simp only [this,false_or,Option.toList_some,List.mem_singleton,beq_iff_eq];exact eq_comm
 cases hzk:(z == k) with
 | true =>
  have hin:l.contains k=true:=List.contains_iff_mem.2 (by
   have:z=k:=by simpa using hzk
   rw [← this];exact List.mem_of_getElem? hz)
  have g:=hq.h;rw [hin] at g;clear hR hq hc et hin;replace g:=za g;replace hz:=za hz;simp only [zb,aR,ze,zf, *];exact g.h
 | false =>
  have g:=hR.h _ h hlt ⟨rfl,rfl,by rw [et,hzk]⟩;clear hR hq hc et;replace g:=za g;replace hz:=za hz;simp only [zb,aR,ze,zf, *];exact g.h
theorem ya3 {l:List Nm}{i:Nat}{d:Nm}{s:lBq}(h0:(l.take i).any (fun e=>e.name == s)=false) (hi:l[i]? = some d) (he:(d.name == s)=true):ku l s=i:=by
 obtain ⟨hlt,hd⟩:=List.getElem?_eq_some_iff.1 hi;unfold ku;have:l.findIdx? (fun e=>e.name == s)=some i:=by
  rw [List.findIdx?_eq_some_iff_getElem];refine ⟨hlt,by rw [hd];exact he,fun j hj=>?_⟩;have:=List.any_eq_false.1 h0 l[j] (by
   rw [List.mem_iff_getElem];exact ⟨j,by rw [List.length_take];omega,by rw [List.getElem_take]⟩)
  simpa using this
 rw [this]
theorem W1 {l:List Nm}{s:lBq}(h0:l.any (fun e=>e.name == s)=false):ku l s = -1:=by
 unfold ku;have:l.findIdx? (fun e=>e.name == s)=none:=by
  rw [List.findIdx?_eq_none_iff];intro x hx;simpa using List.any_eq_false.1 h0 x hx
 rw [this]
theorem ya4 {l:List Nm}{s:lBq}:decide (0≤ku l s)=l.any (fun e=>e.name == s):=by
 cases hb:l.any (fun e=>e.name == s) with
 | false=>rw [W1 hb];rfl
 | true =>
  unfold ku;cases hf:l.findIdx? (fun e=>e.name == s) with
  | none =>
   obtain ⟨x,hx,hxs⟩:=List.any_eq_true.1 hb;have:=List.findIdx?_eq_none_iff.1 hf x hx;rw [hxs] at this;cases this
  | some j=>simp
theorem Vg {h:Heap}{p:Prg}{x:lVq}(hx:PrC h p x) (s:lBq) (Q:vPq) (hq:∀ h',h.le h' → Q (iI (ku p.devs s)) h'):CallW Tryz.prog 155 [.agg x.toArray,str s] h Q:=by
 obtain ⟨d,r,t,rfl,hd,hr,ht⟩:=hx;have b1:=yy (n:=p.harts) hd.one hr.one ht.one;obtain ⟨q,h1,eq,eh1,gq,lh1⟩:=zj h [iI p.harts,d,r,t];have hv:=hd.mono lh1;have lnl:=hv.len;have hle:=hv.2;clear hd hr ht;replace lh1:=za lh1;replace hv:=za hv;refine zg (k:=3) ok155 rfl rfl rfl fun N=>?_;rw [wn c155 u0 rfl];delta c155;replace hq:=za hq;simp only [zb, *];refine LoopW.upto p.devs.length (fun i e hh=>e=[prV p.harts d r t,str s,ptr q,iI 0,iI i]∧hh=h1∧(p.devs.take i).any (fun e=>e.name == s)=false) ?_ (Nat.zero_le _) ⟨rfl,rfl,rfl⟩;rintro i _ hE R hi ⟨rfl,hE2,hc⟩ hR;replace hE2:=hE2.symm;subst hE2;delta yz6;by_cases hlt:i < p.devs.length
 case neg =>
  have hlt' : ¬ (i:Int) < p.devs.length:=by omega
  rw [List.take_of_length_le (by omega)] at hc;have g:=hq.h h1 lh1.h;rw [W1 hc] at g;clear hR hq hc;replace g:=Hid.mk g;simp only [zb,aR,ze,zf, *];exact g.h
 have hlt' : (i:Int) < p.devs.length:=by omega
 have hw:IntKind.i64.wrap ((i:Int) + 1)=((i + 1:Nat):Int):=by rw [zn (by omega) (by omega)];rfl
 obtain ⟨n,hn⟩:∃ z,p.devs[i]? = some z:=⟨_,List.getElem?_eq_getElem hlt⟩;obtain ⟨id,off,cells,own,e1,e2,_,e4⟩:=SlV.elem hv.h.1 (i:=i) (x:=[str n.name,iI n.n]) (by simp [hn]);have c0:cells[off]? = some (str n.name):=e4 0 (by omega);have es:=Jp n.name s;have et:(p.devs.take (i + 1)).any (fun e=>e.name == s)=(n.name == s):=by
  rw [List.take_add_one,hn,List.any_append,hc];simp
 clear e4;cases hb:(n.name == s) with
 | true =>
  have g:=hq.h h1 lh1.h;rw [ya3 hc hn hb] at g;rw [hb] at es;clear hR hq hc et;replace g:=za g;replace hn:=za hn;simp only [zb,aR,ze,zf, *];exact g.h
 | false =>
  have g:=hR.h _ h1 hlt ⟨rfl,rfl,by rw [et,hb]⟩;rw [hb] at es;clear hR hq hc et;replace g:=za g;replace hn:=za hn;simp only [zb,aR,ze,zf, *];exact g.h
theorem Zn {h:Heap}{p:Prg}{x:lVq}(hx:PrC h p x) (s:lBq) (Q:vPq) (hq:∀ h',h.le h' → Q (iI (ku p.ress s)) h'):CallW Tryz.prog 125 [.agg x.toArray,str s] h Q:=by
 obtain ⟨d,r,t,rfl,hd,hr,ht⟩:=hx;have b1:=yy (n:=p.harts) hd.one hr.one ht.one;obtain ⟨q,h1,eq,eh1,gq,lh1⟩:=zj h [iI p.harts,d,r,t];have hv:=hr.mono lh1;have lnl:=hv.len;have hle:=hv.2;clear hd hr ht;replace lh1:=za lh1;replace hv:=za hv;refine zg (k:=3) ok125 rfl rfl rfl fun N=>?_;rw [wn c125 u0 rfl];delta c125;replace hq:=za hq;simp only [zb, *];refine LoopW.upto p.ress.length (fun i e hh=>e=[prV p.harts d r t,str s,ptr q,iI 0,iI i]∧hh=h1∧(p.ress.take i).any (fun e=>e.name == s)=false) ?_ (Nat.zero_le _) ⟨rfl,rfl,rfl⟩;rintro i _ hE R hi ⟨rfl,hE2,hc⟩ hR;replace hE2:=hE2.symm;subst hE2;delta qa5;by_cases hlt:i < p.ress.length
 case neg =>
  have hlt' : ¬ (i:Int) < p.ress.length:=by omega
  rw [List.take_of_length_le (by omega)] at hc;have g:=hq.h h1 lh1.h;rw [W1 hc] at g;clear hR hq hc;replace g:=Hid.mk g;simp only [zb,aR,ze,zf, *];exact g.h
 have hlt' : (i:Int) < p.ress.length:=by omega
 have hw:IntKind.i64.wrap ((i:Int) + 1)=((i + 1:Nat):Int):=by rw [zn (by omega) (by omega)];rfl
 obtain ⟨n,hn⟩:∃ z,p.ress[i]? = some z:=⟨_,List.getElem?_eq_getElem hlt⟩;obtain ⟨id,off,cells,own,e1,e2,_,e4⟩:=SlV.elem hv.h.1 (i:=i) (x:=[str n.name,iI n.n]) (by simp [hn]);have c0:cells[off]? = some (str n.name):=e4 0 (by omega);have es:=Jp n.name s;have et:(p.ress.take (i + 1)).any (fun e=>e.name == s)=(n.name == s):=by
  rw [List.take_add_one,hn,List.any_append,hc];simp
 clear e4;cases hb:(n.name == s) with
 | true =>
  have g:=hq.h h1 lh1.h;rw [ya3 hc hn hb] at g;rw [hb] at es;clear hR hq hc et;replace g:=za g;replace hn:=za hn;simp only [zb,aR,ze,zf, *];exact g.h
 | false =>
  have g:=hR.h _ h1 hlt ⟨rfl,rfl,by rw [et,hb]⟩;rw [hb] at es;clear hR hq hc et;replace g:=za g;replace hn:=za hn;simp only [zb,aR,ze,zf, *];exact g.h
theorem yf8 (p:Prg) (s:lBq):(zl p).contains s=(p.tasks.any (fun t=>t.name == s) || (p.devs.any (fun t=>t.name == s) || p.ress.any (fun t=>t.name == s))):=by
 have hm:∀ {α:Type}(l:List α) (f:α→lBq),(l.map f).contains s=l.any fun t=>f t == s:=fun l f=>by
  induction l with
  | nil=>rfl
  | cons a r ih =>
   rw [List.map_cons,List.contains_cons,ih,List.any_cons]
   congr 1
   rw [Bool.eq_iff_iff,beq_iff_eq,beq_iff_eq];exact eq_comm
 have ha:∀ (a b:List (lBq)),(a++b).contains s=(a.contains s || b.contains s):=fun a b=>by
  rw [Bool.eq_iff_iff,Bool.or_eq_true,List.contains_iff_mem,List.contains_iff_mem,List.contains_iff_mem,List.mem_append]
 unfold zl;rw [ha,ha,hm,hm,hm,Bool.or_comm]
theorem zz9 {h:Heap}{p:Prg}{x:lVq}(hx:PrC h p x) (hl:p.tasks.length≤1000000) (s:lBq) (Q:vPq) (hq:∀ h',h.le h' → Q (.bool ((zl p).contains s)) h'):CallW Tryz.prog 153 [.agg x.toArray,str s] h Q:=by
 obtain ⟨d,r,t,rfl,hd,hr,ht⟩:=hx;have hx0:PrC h p [iI p.harts,d,r,t]:=⟨d,r,t,rfl,hd,hr,ht⟩;have b1:=yy (n:=p.harts) hd.one hr.one ht.one;obtain ⟨q,h1,eq,eh1,gq,lh1⟩:=zj h [iI p.harts,d,r,t];have hx1:=hx0.mono lh1;have ht1:=ht.mono lh1;have lnt:=ht1.len;rw [yf8] at hq;clear hd hr ht hx0;replace lh1:=za lh1;replace hx1:=za hx1;replace ht1:=za ht1;refine zg (k:=3) ok153 rfl rfl rfl fun N=>?_;rw [wn c153 u0 rfl];delta c153;replace hq:=za hq;simp only [zb, *];refine LoopW.upto p.tasks.length (fun i e hh=>e=[prV p.harts d r t,str s,ptr q,.bool false,iI i]∧hh=h1∧(p.tasks.take i).any (fun t=>t.name == s)=false) ?_ (Nat.zero_le _) ⟨rfl,rfl,rfl⟩;rintro i _ hE R hi ⟨rfl,hE2,hc⟩ hR;replace hE2:=hE2.symm;subst hE2;delta yz8;by_cases hlt:i < p.tasks.length
 case neg =>
  have hlt' : ¬ (i:Int) < p.tasks.length:=by omega
  rw [List.take_of_length_le (by omega)] at hc;rw [hc,Bool.false_or] at hq;clear hR hc;have a1:=ya4 (l:=p.devs) (s:=s);have a2:=ya4 (l:=p.ress) (s:=s);replace a1:=za a1;replace a2:=za a2;simp only [zb,aR,ze,zf,yb, *];refine Vg hx1.h s _ fun h2 l2=>?_;have g2:=l2.get gq;have hx2:=hx1.h.mono l2;have l02:=lh1.h.trans l2;by_cases c1:0≤ku p.devs s
  ·have a:p.devs.any (fun t=>t.name == s)=true:=by rw [← a1.h];simpa using c1
   have g:=hq.h h2 l02;rw [a,Bool.true_or] at g;clear hq a1 a2 a;replace g:=za g;replace l2:=za l2;replace hx2:=za hx2;simp only [zb,ze,zf, *];exact g.h
  ·have a:p.devs.any (fun t=>t.name == s)=false:=by rw [← a1.h];simpa using c1
   replace l2:=za l2;replace hx2:=za hx2;replace l02:=za l02;simp only [zb,aR,ze,zf,yb, *];refine Zn hx2.h s _ fun h3 l3=>?_;have g:=hq.h h3 (l02.h.trans l3);rw [a,Bool.false_or,← a2.h] at g;clear hq a1 a2 a;by_cases c2:0≤ku p.ress s
   ·rw [decide_eq_true c2] at g;replace g:=za g;replace l3:=za l3;simp only [zb,ze,zf, *];exact g.h
   ·rw [decide_eq_false c2] at g;replace g:=za g;replace l3:=za l3;simp only [zb,ze,zf, *];exact g.h
 have hlt' : (i:Int) < p.tasks.length:=by omega
 have hw:IntKind.i64.wrap ((i:Int) + 1)=((i + 1:Nat):Int):=by rw [zn (by omega) (by omega)];rfl
 obtain ⟨tk,htk⟩:∃ z,p.tasks[i]? = some z:=⟨_,List.getElem?_eq_getElem hlt⟩;obtain ⟨id,off,cells,own,u,e1,e2,_,_,e4⟩:=ht1.h.elem0 htk;have c0:cells[off]? = some (str tk.name):=e4 0 (by omega);have es:=Jp tk.name s;have et:(p.tasks.take (i + 1)).any (fun t=>t.name == s)=(tk.name == s):=by
  rw [List.take_add_one,htk,List.any_append,hc];simp
 clear e4;cases hb:(tk.name == s) with
 | true =>
  have hin:p.tasks.any (fun t=>t.name == s)=true:=List.any_eq_true.2 ⟨tk,List.mem_of_getElem? htk,hb⟩;have g:=hq.h h1 lh1.h;rw [hin,Bool.true_or] at g;rw [hb] at es;clear hR hq hc et hin;replace g:=za g;replace htk:=za htk;simp only [zb,aR,ze,zf, *];exact g.h
 | false =>
  have g:=hR.h _ h1 hlt ⟨rfl,rfl,by rw [et,hb]⟩;rw [hb] at es;clear hR hq hc et;replace g:=za g;replace htk:=za htk;simp only [zb,aR,ze,zf, *];exact g.h
theorem ix_inj {l:List Nm}{a b:lBq}(h:ku l a=ku l b) (h0:0≤ku l a):a=b:=by
 unfold ku at h h0;cases ha:l.findIdx? (fun d=>d.name == a) with
 | none=>rw [ha] at h0;simp at h0
 | some i =>
  cases hb:l.findIdx? (fun d=>d.name == b) with
  | none=>rw [ha,hb] at h;simp at h
  | some j =>
   rw [ha,hb] at h;simp only at h;obtain ⟨h1,h2,_⟩:=List.findIdx?_eq_some_iff_getElem.1 ha;obtain ⟨h3,h4,_⟩:=List.findIdx?_eq_some_iff_getElem.1 hb;have:i=j:=by omega
   subst this;have e1:(l[i]).name=a:=by simpa using h2
   have e2:(l[i]).name=b:=by simpa using h4
   rw [← e1,e2]
theorem yb0 {l:List Nm}{hs:List (lBq)}{s:lBq}(h0:0≤ku l s):(hs.map (ku l)).contains (ku l s)=hs.contains s:=by
 rw [Bool.eq_iff_iff,List.contains_iff_mem,List.contains_iff_mem,List.mem_map];constructor
 ·rintro ⟨x,hx,e⟩;rw [← ix_inj e.symm h0] at hx;exact hx
 ·intro h;exact ⟨s,h,rfl⟩
theorem zl9 {l:List Nm}{k:Int}:∀ {hs:List (lBq)},(hs.map (ku l)).any (fun z=>decide (k≤z))=hs.any (fun x=>decide (k≤ku l x))
 | []=>rfl
 | a::r=>by rw [List.map_cons,List.any_cons,List.any_cons,zl9]
def Ex8C (n:Nat):Prop:=∀ (p:Prg) (x:lVq) (e:Ex) (y:lVq) (hs:List (lBq)) (hv:Value) (h:Heap) (Q:vPq),PrC h p x→p.tasks.length≤1000000→ExI e n→ExC h e y→Ints h hv (hs.map (ku p.ress))→hs.length≤1000 →
 (∀ h',h.le h' → Q (iI (Ya p (zl p) hs e)) h')→CallW Tryz.prog 156 [.agg x.toArray,.agg y.toArray,hv] h Q
noncomputable def zu4:CCode:=(.seq (.seq (.reg Xa [(9,0)]) (.block 1 (.loop zh9))) (.seq (.reg K9 [(5,0)]) .ret))
theorem ex8_rest {n:Nat}(ih:Ex8C n){p:Prg}{d r t:Value}{args:List Ex}{va:Value}{c:lVq}{hs:List (lBq)}{hv:Value}{h:Heap}{q1 q2:Nat}(g1:h.get q1=some (.blk [iI p.harts,d,r,t] true)) (hx:PrC h p [iI p.harts,d,r,t]) (htl:p.tasks.length≤1000000)
  (g2:h.get q2=some (.blk c true)) (hc:c[4]? = some va) (hva:ExsV h va args) (hI:∀ a ∈ args,ExI a n) (hal:args.length≤1000) (hh:Ints h hv (hs.map (ku p.ress))) (hhl:hs.length≤1000){N:Nat}{vars:List Nat}{x0 x1 x5 x6 x7 x8 x9 x10:Value}
  (Q:vPq) (hq:∀ h',h.le h' → Q (iI (kf p (zl p) hs args)) h') :
  W Tryz.prog N vars zu4 (ret1 5 Q) [x0,x1,hv,ptr q1,ptr q2,x5,x6,x7,x8,x9,x10] h:=by
 have lna:=hva.len;replace ih:=za ih;replace hx:=za hx;replace hva:=za hva;replace hI:=za hI;replace hh:=za hh;replace hq:=za hq;delta zu4 Xa K9;simp only [zb, *];refine LoopW.upto args.length (fun i e hh=>h.le hh∧kf p (zl p) hs (args.take i)=0 ∧ ∃ y10,e=[x0,x1,hv,ptr q1,ptr q2,x5,x6,x7,x8,iI i,y10]) ?_ (Nat.zero_le _) ⟨Heap.le.refl _,rfl,_,rfl⟩;rintro i _ h1 R hi ⟨l1,h0,y10,rfl⟩ hR;have g1':=l1.get g1;have g2':=l1.get g2;delta zh9 zh8 zh7 zh6 zh5 zh4 zh3 zh2 zh1 zh0 zg9 Xa K9;by_cases hlt:i < args.length
 case neg =>
  have hlt' : ¬ (i:Int) < args.length:=by omega
  rw [List.take_of_length_le (by omega)] at h0;have g:=hq.h h1 l1;rw [h0] at g;clear hR hq h0 g1 g2;replace g:=za g;replace l1:=za l1;simp only [zb,aR,ze,zf, *];exact g.h
 have hlt' : (i:Int) < args.length:=by omega
 have hw:IntKind.i64.wrap ((i:Int) + 1)=((i + 1:Nat):Int):=by rw [zn (by omega) (by omega)];rfl
 obtain ⟨e,he⟩:∃ e,args[i]? = some e:=⟨_,List.getElem?_eq_getElem hlt⟩;obtain ⟨id,off,cells,own,y,e1,e2,e3,hy,_⟩:=(hva.h.mono l1).elem he;have hIe:=hI.h e (List.mem_of_getElem? he);obtain ⟨t1,t2⟩:=Zq p (zl p) hs h0 he;clear g1 g2;replace l1:=za l1;replace hy:=za hy;replace hIe:=za hIe;replace t1:=za t1;replace t2:=za t2;replace he:=za he;replace h0:=za h0;simp only [zb,aR,ze,zf,yb, *];refine ih.h p _ e y hs hv h1 _ (hx.h.mono l1.h) htl hIe.h hy.h (SlV.mono l1.h hh.h) hhl fun h2 l2=>?_;obtain ⟨z,hz⟩:∃ z,Ya p (zl p) hs e=z:=⟨_,rfl⟩;rw [hz];by_cases hz0:z=0
 ·have g:=hR.h _ h2 hlt ⟨l1.h.trans l2,t1.h (by rw [hz,hz0]),iI z,rfl⟩;subst hz0;clear hR hq;replace g:=za g;replace l2:=za l2;replace hz:=za hz;simp only [zb,ze,zf, *];exact g.h
 ·have g:=hq.h h2 (l1.h.trans l2);rw [t2.h (by rw [hz];exact hz0),hz] at g;have hz1:(z != 0)=true:=by simpa using hz0
  clear hR hq hz0;replace g:=za g;replace l2:=za l2;replace hz:=za hz;simp only [zb,ze,zf, *];exact g.h
theorem yb2 {n:Nat}(ih:∀ m,n=m + 1→Ex8C m):Ex8C n:=by
 intro p x e y hs hv h Q hx htl hI hy hh hhl hq;obtain ⟨d,r,t,rfl,hd,hr,ht⟩:=hx;have hx0:PrC h p [iI p.harts,d,r,t]:=⟨d,r,t,rfl,hd,hr,ht⟩;obtain ⟨va,rfl,hva⟩:=hy.cells;have b1:=yy (n:=p.harts) hd.one hr.one ht.one;have b2:=J2 (k:=e.kind) (o:=e.op) (n:=e.n) (m:=e.name) hva.one;obtain ⟨q1,h1,eq1,eh1,gq1,lh1⟩:=zj h [iI p.harts,d,r,t];obtain ⟨q2,h2,eq2,eh2,gq2,lh2⟩:=zj h1 [iI e.kind,iI e.op,iI e.n,str e.name,va];have l02:=lh1.trans lh2;have hx2:=hx0.mono l02;have hva2:=hva.mono l02;have hh2:=SlV.mono l02 hh;have g12:=lh2.get gq1;have hsub:∃ m,n=m + 1∧e.args.length≤2 ∧ ∀ a ∈ e.args,ExI a m:=by
  cases hI with
  | num k d h=>exact ⟨d,rfl,by simp [Ex.args],by simp [Ex.args]⟩
  | var m d h=>exact ⟨d,rfl,by simp [Ex.args],by simp [Ex.args]⟩
  | one o a d h ha=>exact ⟨d,rfl,by simp [Ex.args],by simpa [Ex.args] using ha⟩
  | two o a b d h ha hb=>exact ⟨d,rfl,by simp [Ex.args],by simpa [Ex.args] using ⟨ha,hb⟩⟩
  | idx m a d h ha=>exact ⟨d,rfl,by simp [Ex.args],by simpa [Ex.args] using ha⟩
 obtain ⟨m,hm,hal,hIa⟩:=hsub;have ih':=ih m hm;have er:Ya p (zl p) hs e=if ut p (zl p) hs e.kind e.name=0 then kf p (zl p) hs e.args else ut p (zl p) hs e.kind e.name:=by cases e;rfl
 rw [er] at hq;clear hx0 hd hr ht hva hy hh lh1 lh2 gq1 hI ih er hm;replace l02:=za l02;replace hx2:=za hx2;replace hva2:=za hva2;replace hh2:=za hh2;replace hIa:=za hIa;replace ih':=za ih';refine zg (k:=5) ok156 rfl rfl rfl fun N=>?_;show W Tryz.prog N _ ((.seq (.reg zh8 [(3,2),(4,1),(5,0)]) (.seq (.reg zh7 [(6,0)]) (.seq (.reg zh6 [(7,0)]) (.seq (.reg zh5 [(8,0)]) (.seq (.block 0 (.rcond zh4 [] 0 (.seq (.reg zh3 [(5,0)]) .ret) (.rcond zh2 [] 0 (.seq (.reg zh1 [(5,0)]) .ret) (.rcond zh0 [] 0 (.seq (.reg zg9 [(5,0)]) .ret) .skip)))) zu4)))))) _ [prV p.harts d r t,exV e.kind e.op e.n e.name va,hv,udq,udq,udq,udq,udq,udq,udq,udq] _;delta zh8 zh7 zh6 zh5 zh4 zh3 zh2 zh1 zh0 zg9;replace hq:=Hid.mk hq;simp only [zb,aR,yb, *];refine zz9 hx2.h htl _ _ fun h3 l3=>?_;have g13:=l3.get g12;have g23:=l3.get gq2;have hx3:=hx2.h.mono l3;have l03:=l02.h.trans l3;obtain ⟨is,his⟩:∃ b,(zl p).contains e.name=b:=⟨_,rfl⟩;rw [his];replace l3:=za l3;replace hx3:=za hx3;replace l03:=za l03;replace his:=za his;simp only [zb,aR,yb, *];refine Zn hx3.h _ _ fun h4 l4=>?_;have g14:=l4.get g13;have g24:=l4.get g23;have hx4:=hx3.h.mono l4;have l04:=l03.h.trans l4;have hh4:=SlV.mono (l3.h.trans l4) hh2.h;have hva4:=hva2.h.mono (l3.h.trans l4);obtain ⟨k,hk⟩:∃ b,ku p.ress e.name=b:=⟨_,rfl⟩;rw [hk];replace l4:=za l4;replace hx4:=za hx4;replace l04:=za l04;replace hk:=za hk;replace hh4:=za hh4;replace hva4:=za hva4;simp only [zb, *];refine ys1 hh4.h (by rw [List.length_map];omega) k _ ?_;obtain ⟨here,hhe⟩:∃ b,(hs.map (ku p.ress)).contains k=b:=⟨_,rfl⟩;rw [hhe];have f:=fun (x5 x9 x10:Value) (h0:ut p (zl p) hs e.kind e.name=0)=>ex8_rest (x0:=prV p.harts d r t) (x1:=exV e.kind e.op e.n e.name va) (x5:=x5) (x6:=.bool is) (x7:=iI k) (x8:=.bool here) (x9:=x9) (x10:=x10) (N:=N) (vars:=c156.vars) ih'.h g14 hx4.h htl g24 rfl hva4.h hIa.h (by omega) hh4.h hhl Q (fun h5 l5=>by
  have g:=hq.h h5 (l04.h.trans l5)
  rwa [if_pos h0] at g)
 have b:=fun (z:Int) (hz:ut p (zl p) hs e.kind e.name=z) (h0:z≠0)=>(show Q (iI z) h4 from by
  have g:=hq.h h4 l04.h
  rwa [hz,if_neg h0] at g)
 clear hq ih' hIa g12 g13 g23 gq2;replace f:=za f;replace b:=za b;replace hhe:=za hhe;by_cases k2:e.kind=2
 ·have ek2:(e.kind == 2)=true:=by simpa using k2
  have ek5:(e.kind == 5)=false:=by simp [k2]
  have hE:ut p (zl p) hs e.kind e.name=if is then 80 else 0:=by
   unfold ut Zw;rw [if_pos k2,his.h]
  replace k2:=Hid.mk k2;cases is with
  | true =>
   have g:=b.h 80 hE (by decide);clear f b hE;replace g:=za g;simp only [zb,aR,ze,zf, *];exact g.h
  | false =>
   have g:=fun a b c=>f.h a b c hE;clear f b hE;replace g:=za g;simp only [zb,aR,ze,zf, *];exact g.h _ _ _
 have ek2:(e.kind == 2)=false:=by simpa using k2
 by_cases k5:e.kind=5
 ·have ek5:(e.kind == 5)=true:=by simpa using k5
  have hE:ut p (zl p) hs e.kind e.name=W9 p e.name hs:=by
   unfold ut;rw [if_neg k2,if_pos k5]
  unfold W9 at hE;rw [hk.h] at hE;replace k2:=Hid.mk k2;replace k5:=Hid.mk k5;by_cases c1:k < 0
  ·rw [if_pos c1] at hE;have g:=b.h 84 hE (by decide);clear f b hE;replace g:=za g;simp only [zb,aR,ze,zf, *];exact g.h
  ·have e2:=yb0 (l:=p.ress) (hs:=hs) (s:=e.name) (by rw [hk.h];omega);rw [hk.h,hhe.h] at e2;rw [if_neg c1,← e2] at hE;cases here with
   | true =>
    have g:=fun a b c=>f.h a b c hE;clear f b hE e2;replace g:=za g;simp only [zb,aR,ze,zf, *];exact g.h _ _ _
   | false =>
    have g:=b.h 86 hE (by decide);clear f b hE e2;replace g:=za g;simp only [zb,aR,ze,zf, *];exact g.h
 have ek5:(e.kind == 5)=false:=by simpa using k5
 have hE:ut p (zl p) hs e.kind e.name=0:=by
  unfold ut;rw [if_neg k2,if_neg k5]
 have g:=fun a b c=>f.h a b c hE;replace k2:=Hid.mk k2;replace k5:=Hid.mk k5;clear f b hE;replace g:=za g;simp only [zb,aR,ze,zf, *];exact g.h _ _ _
theorem yt6:∀ n,Ex8C n
 | 0=>yb2 fun m h=>by omega
 | n + 1=>yb2 fun m h=>by cases h;exact yt6 n
noncomputable def zs6:CCode:=(.seq (.seq (.reg Qv [(10,0)]) (.block 3 (.loop zj1))) (.seq (.reg Qu [(5,0)]) .ret))
theorem on8_rest {p:Prg}{d r t:Value}{args:List Ex}{va:Value}{c:lVq}{hs:List (lBq)}{hv:Value}{h:Heap}{q1 q2:Nat}(g1:h.get q1=some (.blk [iI p.harts,d,r,t] true)) (hx:PrC h p [iI p.harts,d,r,t]) (htl:p.tasks.length≤1000000)
  (g2:h.get q2=some (.blk c true)) (hc:c[4]? = some va) (hva:ExsV h va args) (hI:∀ a ∈ args,ExI a 30) (hal:args.length≤1000) (hh:Ints h hv (hs.map (ku p.ress))) (hhl:hs.length≤1000){N:Nat}{vars:List Nat}{x0 x1 x5 x6 x7 x8 x9 x10 x11 x12:Value}
  (Q:vPq) (hq:∀ h',h.le h' → Q (iI (kf p (zl p) hs args)) h') :
  W Tryz.prog N vars zs6 (ret1 5 Q) [x0,x1,hv,ptr q1,ptr q2,x5,x6,x7,x8,x9,x10,x11,x12] h:=by
 have lna:=hva.len;replace hx:=za hx;replace hva:=za hva;replace hI:=za hI;replace hh:=za hh;replace hq:=za hq;delta zs6 Qv Qu;simp only [zb, *];refine LoopW.upto args.length (fun i e hh=>h.le hh∧kf p (zl p) hs (args.take i)=0 ∧ ∃ y10,e=[x0,x1,hv,ptr q1,ptr q2,x5,x6,x7,x8,x9,iI i,y10,x12]) ?_ (Nat.zero_le _) ⟨Heap.le.refl _,rfl,_,rfl⟩;rintro i _ h1 R hi ⟨l1,h0,y10,rfl⟩ hR;have g1':=l1.get g1;have g2':=l1.get g2;delta zj1 Vz Vy Vx Vw Vv Vu Vt Vs Vr Vq Jb Ja Q9 Q8 Q7 Q6 Q5 Q4 Q3 Q1 Q0 Qz Qy Qx Qw Qv Qu;by_cases hlt:i < args.length
 case neg =>
  have hlt' : ¬ (i:Int) < args.length:=by omega
  rw [List.take_of_length_le (by omega)] at h0;have g:=hq.h h1 l1;rw [h0] at g;clear hR hq h0 g1 g2;replace g:=za g;replace l1:=za l1;simp only [zb,aR,ze,zf, *];exact g.h
 have hlt' : (i:Int) < args.length:=by omega
 have hw:IntKind.i64.wrap ((i:Int) + 1)=((i + 1:Nat):Int):=by rw [zn (by omega) (by omega)];rfl
 obtain ⟨e,he⟩:∃ e,args[i]? = some e:=⟨_,List.getElem?_eq_getElem hlt⟩;obtain ⟨id,off,cells,own,y,e1,e2,e3,hy,_⟩:=(hva.h.mono l1).elem he;have hIe:=hI.h e (List.mem_of_getElem? he);obtain ⟨t1,t2⟩:=Zq p (zl p) hs h0 he;clear g1 g2;replace l1:=za l1;replace hy:=za hy;replace hIe:=za hIe;replace t1:=za t1;replace t2:=za t2;replace he:=za he;replace h0:=za h0;simp only [zb,aR,ze,zf,yb, *];refine yt6 30 p _ e y hs hv h1 _ (hx.h.mono l1.h) htl hIe.h hy.h (SlV.mono l1.h hh.h) hhl fun h2 l2=>?_;obtain ⟨z,hz⟩:∃ z,Ya p (zl p) hs e=z:=⟨_,rfl⟩;rw [hz];by_cases hz0:z=0
 ·have g:=hR.h _ h2 hlt ⟨l1.h.trans l2,t1.h (by rw [hz,hz0]),iI z,rfl⟩;subst hz0;clear hR hq;replace g:=za g;replace l2:=za l2;replace hz:=za hz;simp only [zb,ze,zf, *];exact g.h
 ·have g:=hq.h h2 (l1.h.trans l2);rw [t2.h (by rw [hz];exact hz0),hz] at g;have hz1:(z != 0)=true:=by simpa using hz0
  clear hR hq hz0;replace g:=za g;replace l2:=za l2;replace hz:=za hz;simp only [zb,ze,zf, *];exact g.h
set_option maxHeartbeats 1000000 in
theorem one8_c {n:Nat}{p:Prg}{x:lVq}{s:St}{y:lVq}{hs:List (lBq)}{hv:Value}{h:Heap}(hx:PrC h p x) (htl:p.tasks.length≤1000000) (hI:StI s n) (hy:StC h s y) (hh:Ints h hv (hs.map (ku p.ress))) (hhl:hs.length≤1000) (Q:vPq)
  (hq:∀ h',h.le h' → Q (iI (We p (zl p) hs s)) h'):CallW Tryz.prog 124 [.agg x.toArray,.agg y.toArray,hv] h Q:=by
 obtain ⟨d,r,t,rfl,hd,hr,ht⟩:=hx;have hx0:PrC h p [iI p.harts,d,r,t]:=⟨d,r,t,rfl,hd,hr,ht⟩;obtain ⟨va,vt,ve,rfl,hva,hvt,hve⟩:=hy.cells;have b1:=yy (n:=p.harts) hd.one hr.one ht.one;have b2:=cell7 (k:=s.kind) (n:=s.n) (a:=s.name) (b:=s.src) hva.one hvt.one hve.one;obtain ⟨q1,h1,eq1,eh1,gq1,lh1⟩:=zj h [iI p.harts,d,r,t];obtain ⟨q2,h2,eq2,eh2,gq2,lh2⟩:=zj h1 [iI s.kind,str s.name,str s.src,iI s.n,va,vt,ve];have l02:=lh1.trans lh2;have hx2:=hx0.mono l02;have hva2:=hva.mono l02;have hh2:=SlV.mono l02 hh;have g12:=lh2.get gq1;obtain ⟨d0,_,hal,hIa,_,_⟩:=hI.sub0;have er:We p (zl p) hs s=if jq p (zl p) hs s=0 then kf p (zl p) hs s.args else jq p (zl p) hs s:=rfl
 rw [er] at hq;clear hx0 hd hr ht hva hvt hve hy hh lh1 lh2 gq1 hI er;replace l02:=za l02;replace hx2:=za hx2;replace hva2:=za hva2;replace hh2:=za hh2;replace hIa:=za hIa;refine zg (k:=5) ok124 rfl rfl rfl fun N=>?_;show W Tryz.prog N _ ((.seq (.reg Vz [(3,2),(4,1),(5,0)]) (.seq (.reg Vy [(6,0)]) (.seq (.reg Vx [(7,0)]) (.seq (.reg Vw [(8,0)]) (.seq (.seq (.reg Vv [(12,0)]) (.block 0 (.rcond Vu [] 0 (.rcond Vt [] 0 (.seq (.reg Vs [(5,0)]) .ret) .skip) (.rcond Vr [] 0 (.seq (.rcond Vq [] 0 (.seq (.reg Jb [(5,0)]) .ret) .skip) (.rcond Ja [] 0 (.seq (.reg Q9 [(5,0)]) .ret) .skip)) (.rcond Q8 [] 0 (.rcond Q7 [] 0 (.seq (.reg Q6 [(5,0)]) .ret) .skip) (.rcond Q5 [] 0 (.seq (.rcond Q4 [] 0 (.seq (.reg Q3 [(5,0)]) .ret) .skip) (.seq (.reg Q1 [(9,0)]) (.block 1 (.loop zj2)))) (.rcond Q0 [] 0 (.seq (.rcond Qz [] 0 (.seq (.reg Qy [(5,0)]) .ret) .skip) (.rcond Qx [] 0 (.seq (.reg Qw [(5,0)]) .ret) .skip)) .skip))))))) zs6)))))) _ [prV p.harts d r t,stV s.kind s.name s.src s.n va vt ve,hv,udq,udq,udq,udq,udq,udq,udq,udq,udq,udq] _;delta Vz Vy Vx Vw Vv Vu Vt Vs Vr Vq Jb Ja Q9 Q8 Q7 Q6 Q5 Q4 Q3 Q1 Q0 Qz Qy Qx Qw;replace hq:=Hid.mk hq;simp only [zb,aR,yb, *];refine zz9 hx2.h htl _ _ fun h3 l3=>?_;have g13:=l3.get g12;have g23:=l3.get gq2;have hx3:=hx2.h.mono l3;have l03:=l02.h.trans l3;obtain ⟨is,his⟩:∃ b,(zl p).contains s.name=b:=⟨_,rfl⟩;rw [his];replace l3:=za l3;replace hx3:=za hx3;replace l03:=za l03;replace his:=za his;simp only [zb,aR,yb, *];refine Zn hx3.h _ _ fun h4 l4=>?_;have g14:=l4.get g13;have g24:=l4.get g23;have hx4:=hx3.h.mono l4;have l04:=l03.h.trans l4;have hh4:=SlV.mono (l3.h.trans l4) hh2.h;have hva4:=hva2.h.mono (l3.h.trans l4);obtain ⟨k,hk⟩:∃ b,ku p.ress s.name=b:=⟨_,rfl⟩;rw [hk];replace l4:=za l4;replace hx4:=za hx4;replace l04:=za l04;replace hk:=za hk;replace hh4:=za hh4;replace hva4:=za hva4;simp only [zb, *];refine ys1 hh4.h (by rw [List.length_map];omega) k _ ?_;obtain ⟨here,hhe⟩:∃ b,(hs.map (ku p.ress)).contains k=b:=⟨_,rfl⟩;rw [hhe];have f:=fun (h5:Heap) (l5:h4.le h5) (x5 x9 x10 x11 x12:Value) (h0:jq p (zl p) hs s=0)=>on8_rest (x0:=prV p.harts d r t) (x1:=stV s.kind s.name s.src s.n va vt ve) (x5:=x5) (x6:=.bool is) (x7:=iI k) (x8:=.bool here) (x9:=x9) (x10:=x10) (x11:=x11) (x12:=x12) (N:=N) (vars:=c124.vars) (l5.get g14) (hx4.h.mono l5) htl (l5.get g24) rfl (hva4.h.mono l5) hIa.h (by omega) (SlV.mono l5 hh4.h) hhl Q (fun h6 l6=>by
  have g:=hq.h h6 ((l04.h.trans l5).trans l6)
  rwa [if_pos h0] at g)
 have b:=fun (h5:Heap) (l5:h4.le h5) (z:Int) (hz:jq p (zl p) hs s=z) (h0:z≠0)=>(show Q (iI z) h5 from by
  have g:=hq.h h5 (l04.h.trans l5)
  rwa [hz,if_neg h0] at g)
 clear hq hIa g12 g13 g23 gq2;have l44:=Heap.le.refl h4;replace f:=za f;replace b:=za b;replace hhe:=za hhe;replace l44:=za l44;by_cases k1:s.kind=1
 ·have ek1:(s.kind == 1)=true:=by simpa using k1
  have hE:jq p (zl p) hs s=if is then 80 else 0:=by
   unfold jq Zw;rw [if_pos k1,his.h]
  replace k1:=Hid.mk k1;cases is with
  | true =>
   have g:=b.h h4 l44.h 80 hE (by decide);clear f b hE;replace g:=za g;simp only [zb,aR,ze,zf, *];exact g.h
  | false =>
   have g:=fun a b c d e=>f.h h4 l44.h a b c d e hE;clear f b hE;replace g:=za g;simp only [zb,aR,ze,zf, *];exact g.h _ _ _ _ _
 have ek1:(s.kind == 1)=false:=by simpa using k1
 by_cases k2:s.kind=2
 ·have ek2:(s.kind == 2)=true:=by simpa using k2
  have hE:jq p (zl p) hs s=if is then 80 else uu p s.src:=by
   unfold jq Zw;rw [if_neg k1,if_pos k2,his.h];cases is<;>rfl
  replace k1:=Hid.mk k1;replace k2:=Hid.mk k2;cases is with
  | true =>
   have g:=b.h h4 l44.h 80 hE (by decide);clear f b hE;replace g:=za g;simp only [zb,aR,ze,zf, *];exact g.h
  | false =>
   replace hE:=za hE;simp only [zb,aR,ze,zf,yb, *];refine Vg hx4.h _ _ fun h5 l5=>?_;have hE:=hE.h;rw [if_neg (by decide)] at hE;unfold uu at hE;obtain ⟨kd,hkd⟩:∃ b,ku p.devs s.src=b:=⟨_,rfl⟩;rw [hkd] at hE;rw [hkd];by_cases c1:kd < 0
   ·rw [if_pos c1] at hE;have g:=b.h h5 l5 84 hE (by decide);clear f b hE;replace g:=za g;replace l5:=za l5;replace hkd:=za hkd;simp only [zb,ze,zf, *];exact g.h
   ·rw [if_neg c1] at hE;have g:=fun a b c d e=>f.h h5 l5 a b c d e hE;clear f b hE;replace g:=za g;replace l5:=za l5;replace hkd:=za hkd;simp only [zb,ze,zf, *];exact g.h _ _ _ _ _
 have ek2:(s.kind == 2)=false:=by simpa using k2
 by_cases k3:s.kind=3
 ·have ek3:(s.kind == 3)=true:=by simpa using k3
  have hE:jq p (zl p) hs s=uu p s.name:=by
   unfold jq;rw [if_neg k1,if_neg k2,if_pos k3]
  replace k1:=Hid.mk k1;replace k2:=Hid.mk k2;replace k3:=Hid.mk k3;replace hE:=za hE;simp only [zb,aR,ze,zf,yb, *];refine Vg hx4.h _ _ fun h5 l5=>?_;have hE:=hE.h;unfold uu at hE;obtain ⟨kd,hkd⟩:∃ b,ku p.devs s.name=b:=⟨_,rfl⟩;rw [hkd] at hE;rw [hkd];by_cases c1:kd < 0
  ·rw [if_pos c1] at hE;have g:=b.h h5 l5 84 hE (by decide);clear f b hE;replace g:=za g;replace l5:=za l5;replace hkd:=za hkd;simp only [zb,ze,zf, *];exact g.h
  ·rw [if_neg c1] at hE;have g:=fun a b c d e=>f.h h5 l5 a b c d e hE;clear f b hE;replace g:=za g;replace l5:=za l5;replace hkd:=za hkd;simp only [zb,ze,zf, *];exact g.h _ _ _ _ _
 have ek3:(s.kind == 3)=false:=by simpa using k3
 by_cases k5:s.kind=5
 ·have ek5:(s.kind == 5)=true:=by simpa using k5
  have hE:jq p (zl p) hs s=zm4 p s.name hs:=by
   unfold jq;rw [if_neg k1,if_neg k2,if_neg k3,if_pos k5]
  unfold zm4 at hE;rw [hk.h,← zl9] at hE;replace k1:=Hid.mk k1;replace k2:=Hid.mk k2;replace k3:=Hid.mk k3;replace k5:=Hid.mk k5;by_cases c1:k < 0
  ·rw [if_pos c1] at hE;have g:=b.h h4 l44.h 84 hE (by decide);clear f b hE;replace g:=za g;simp only [zb,aR,ze,zf, *];exact g.h
  rw [if_neg c1] at hE;have lnh:=Ints.len hh4.h;have hlm:(hs.map (ku p.ress)).length≤1000:=by rw [List.length_map];exact hhl
  obtain ⟨zs,hzs⟩:∃ l,hs.map (ku p.ress)=l:=⟨_,rfl⟩;have hh5:=hh4.h;rw [hzs] at hE lnh hlm hh5;replace hE:=za hE;replace hzs:=za hzs;replace hh5:=za hh5;simp only [zb,aR,ze,zf, *];refine LoopW.upto zs.length (fun i en hX=>en=[prV p.harts d r t,stV s.kind s.name s.src s.n va vt ve,hv,ptr q1,ptr q2,iI 0,.bool is,iI k,.bool here,iI i,udq,udq,iI s.kind]∧hX=h4∧(zs.take i).any (fun z=>decide (k≤z))=false) ?_ (Nat.zero_le _) ⟨rfl,rfl,rfl⟩;rintro i _ hX R hi ⟨rfl,hE2,h0⟩ hR;replace hE2:=hE2.symm;subst hE2;delta zj2 Vz Vy Vx Vw Vv Vu Vt Vs Vr Vq Jb Ja Q9 Q8 Q7 Q6 Q5 Q4 Q3 Q1 Q0 Qz Qy Qx Qw Qv Qu;by_cases hlt:i < zs.length
  case neg =>
   have hlt' : ¬ (i:Int) < zs.length:=by omega
   rw [List.take_of_length_le (by omega)] at h0;have hE:=hE.h;rw [h0,if_neg (by decide)] at hE;have g:=fun a b c d e=>f.h h4 l44.h a b c d e hE;clear hR f b hE h0;replace g:=za g;simp only [zb,ze,zf, *];exact g.h _ _ _ _ _
  have hlt' : (i:Int) < zs.length:=by omega
  have hw:IntKind.i64.wrap ((i:Int) + 1)=((i + 1:Nat):Int):=by rw [zn (by omega) (by omega)];rfl
  obtain ⟨z,hz⟩:∃ e,zs[i]? = some e:=⟨_,List.getElem?_eq_getElem hlt⟩;obtain ⟨id,off,cells,own,e1,e2,e3⟩:=Ints.elem hh5.h hz;have et:(zs.take (i + 1)).any (fun z=>decide (k≤z))=decide (k≤z):=by
   rw [List.take_add_one,hz,List.any_append,h0];simp
  by_cases c2:k≤z
  ·have hin:zs.any (fun z=>decide (k≤z))=true:=List.any_eq_true.2 ⟨z,List.mem_of_getElem? hz,by simpa using c2⟩;have hE:=hE.h;rw [hin,if_pos rfl] at hE;have g:=b.h h4 l44.h 85 hE (by decide);clear hR f b hE h0 et hin;replace g:=za g;replace hz:=za hz;simp only [zb,aR,ze,zf, *];exact g.h
  ·have g:=hR.h _ h4 hlt ⟨rfl,rfl,by rw [et];simpa using c2⟩;clear hR f b h0 et;replace g:=za g;replace hz:=za hz;replace hE:=za hE;simp only [zb,aR,ze,zf, *];exact g.h
 have ek5:(s.kind == 5)=false:=by simpa using k5
 by_cases k4:s.kind=4
 ·have ek4:(s.kind == 4)=true:=by simpa using k4
  have hE:jq p (zl p) hs s=W9 p s.name hs:=by
   unfold jq;rw [if_neg k1,if_neg k2,if_neg k3,if_neg k5,if_pos k4]
  unfold W9 at hE;rw [hk.h] at hE;replace k1:=Hid.mk k1;replace k2:=Hid.mk k2;replace k3:=Hid.mk k3;replace k4:=Hid.mk k4;replace k5:=Hid.mk k5;by_cases c1:k < 0
  ·rw [if_pos c1] at hE;have g:=b.h h4 l44.h 84 hE (by decide);clear f b hE;replace g:=za g;simp only [zb,aR,ze,zf, *];exact g.h
  ·have e2:=yb0 (l:=p.ress) (hs:=hs) (s:=s.name) (by rw [hk.h];omega);rw [hk.h,hhe.h] at e2;rw [if_neg c1,← e2] at hE;cases here with
   | true =>
    have g:=fun a b c d e=>f.h h4 l44.h a b c d e hE;clear f b hE e2;replace g:=za g;simp only [zb,aR,ze,zf, *];exact g.h _ _ _ _ _
   | false =>
    have g:=b.h h4 l44.h 86 hE (by decide);clear f b hE e2;replace g:=za g;simp only [zb,aR,ze,zf, *];exact g.h
 have ek4:(s.kind == 4)=false:=by simpa using k4
 have hE:jq p (zl p) hs s=0:=by
  unfold jq;rw [if_neg k1,if_neg k2,if_neg k3,if_neg k5,if_neg k4]
 have g:=fun a b c d e=>f.h h4 l44.h a b c d e hE;replace k1:=Hid.mk k1;replace k2:=Hid.mk k2;replace k3:=Hid.mk k3;replace k4:=Hid.mk k4;replace k5:=Hid.mk k5;clear f b hE;replace g:=za g;simp only [zb,aR,ze,zf, *];exact g.h _ _ _ _ _
theorem zm1 (i:Nat):notOf zq i:=fun n s e=>by cases e
theorem yo3 {m:Nat}{h:Heap}{s b:Nat}{v:Value}{xs:List (lVq)}(hv:SlV h s v xs) (hs:0 < s) (hl:xs.length≤1000) (hb:b≤1000) (hm:m≤h.next) :
  ∃ va ha,yq s b h [zq,v]=some (va,ha)∧OwnS (zw m) ha s va xs∧h.le ha ∧ ∀ i,(h.get i).isSome=true→notOf va i:=by
 have hb2:xs.length * b≤1000 * 1000:=Nat.mul_le_mul hl hb;obtain ⟨va,ha,a1,o1,l1,k1,n1,x1⟩:=(OwnS.nil (zw m) h s).append (ym hm) hv hs (b:=b) (by simp;omega) (by simp;omega);exact ⟨va,ha,a1,by simpa using o1,⟨fun i o hg=>by rw [k1 i (by rw [hg];rfl) (zm1 i)];exact hg,x1⟩,fun i hs=>n1 i hs (zm1 i)⟩
theorem yr9 {h:Heap}{hv:Value}{zs:List Int}(hh:Ints h hv zs) (hl:zs.length≤900) :
  ∃ va ha,yq 1 8 h [zq,hv]=some (va,ha)∧h.le ha ∧ ∀ (h5:Heap) (k:Int),ha.le h5 → ∃ vb hb,yq 1 8 (h5.alloc (.blk [iI k] true)) [va,.slice (some ⟨h5.next,0,none⟩) 1 1]=some (vb,hb)∧h.le hb∧Ints hb vb (zs++[k]):=by
 obtain ⟨va,ha,a1,o1,lA,n1⟩:=yo3 (m:=h.next) (b:=8) hh (by omega) (by rw [List.length_map];omega) (by omega) (Nat.le_refl _);refine ⟨va,ha,a1,lA,fun h5 k l5=>?_⟩;have o2:OwnS (zw h.next) h5 1 va (zs.map inR):=o1.get fun id hv hs=>l5.getE id hs;obtain ⟨vb,hb,a2,o3,le3,k3,n3,x3⟩:=o2.append1 (x:=[iI k]) (ym (Nat.le_trans lA.next l5.next)) rfl (by omega) (b:=8) (by rw [List.length_map];omega) (by rw [List.length_map];omega);refine ⟨vb,hb,a2,⟨fun i o hg=>?_,Nat.le_trans (lA.trans l5).next x3⟩,?_⟩
 ·have h1:=(lA.trans l5).get hg;rw [k3 i (by rw [h1];rfl) (n1 i (by rw [hg];rfl))];exact h1
 ·have:=o3.sl;show SlV hb 1 vb _;rw [List.map_append];exact this
def Ss8C (d:Nat):Prop:=∀ (p:Prg) (x:lVq) (ss:List St) (v:Value) (hs:List (lBq)) (hv:Value) (n:Nat) (h:Heap) (Q:vPq),PrC h p x→p.tasks.length≤1000000→(∀ s ∈ ss,StI s d)→n + ye ss≤1000000→hs.length + d≤100→StsV h v ss→Ints h hv (hs.map (ku p.ress)) →
 (∀ h' (e m:Int),h.le h' → (zj6 p (zl p) hs ss→e=0∧m=((n + ye ss:Nat):Int))→(¬ zj6 p (zl p) hs ss→e≠0)→Q (.tuple #[iI e,iI m]) h')→CallW Tryz.prog 84 [.agg x.toArray,v,hv,iI n] h Q
theorem yo8 {p:Prg}{nm hs:List (lBq)}{ss:List St}{i:Nat}{s:St}(hi:ss[i]? = some s) (h0:zj6 p nm hs (ss.take i)) (h1:okS p nm hs s):zj6 p nm hs (ss.take (i + 1)):=by
 rw [Kj] at h0 ⊢;intro x hx;rw [List.take_add_one,hi,List.mem_append] at hx;rcases hx with hx | hx
 ·exact h0 x hx
 ·rw [show x=s from by simpa using hx];exact h1
set_option maxHeartbeats 2000000 in
theorem zk4 {d:Nat}(ih:∀ m,d=m + 1→Ss8C m):Ss8C d:=by
 intro p x ss v hs hv n h Q hx htl hI hcn hhd hvs hh hq;obtain ⟨dv,rv,tv,rfl,hd,hr,ht⟩:=hx;have hx0:PrC h p [iI p.harts,dv,rv,tv]:=⟨dv,rv,tv,rfl,hd,hr,ht⟩;have b1:=yy (n:=p.harts) hd.one hr.one ht.one;obtain ⟨q,h1,eq,eh1,gq,lh1⟩:=zj h [iI p.harts,dv,rv,tv];have hx1:=hx0.mono lh1;have hv1:=hvs.mono lh1;have hh1:=SlV.mono lh1 hh;have lns:=hv1.len;have hsl:=Kp ss;clear hd hr ht hx0 hvs hh;replace hx1:=za hx1;replace hv1:=za hv1;replace hh1:=za hh1;replace ih:=za ih;replace hI:=za hI;replace lh1:=za lh1;refine yc1 (k:=5) (j:=6) ok84 rfl rfl rfl fun N=>?_;rw [ev4q c84 und6q rfl];delta c84;replace hq:=za hq;simp only [zb, *];refine LoopW.upto ss.length (fun i en hX=>h1.le hX∧zj6 p (zl p) hs (ss.take i) ∧ ∃ y8 y9,en=[prV p.harts dv rv tv,v,hv,iI ((n + ye (ss.take i):Nat):Int),ptr q,iI 0,iI 0,iI i,y8,y9]) ?_ (Nat.zero_le _) ⟨Heap.le.refl _,by simp only [List.take_zero];exact okSs_nil,_,_,rfl⟩;rintro i _ h2 R hi ⟨l2,h0,y8,y9,rfl⟩ hR;have gq2:=l2.get gq;delta yw7;by_cases hlt:i < ss.length
 case neg =>
  have hlt' : ¬ (i:Int) < ss.length:=by omega
  rw [List.take_of_length_le (by omega)] at h0 ⊢;have g:=hq.h h2 0 ((n + ye ss:Nat):Int) (lh1.h.trans l2) (fun _=>⟨rfl,rfl⟩) (fun hn=>absurd h0 hn);clear hR hq h0;replace g:=za g;replace l2:=za l2;simp only [zb,ze,zf, *];exact g.h
 have hlt' : (i:Int) < ss.length:=by omega
 have hw:IntKind.i64.wrap ((i:Int) + 1)=((i + 1:Nat):Int):=by rw [zn (by omega) (by omega)];rfl
 obtain ⟨s,he⟩:∃ e,ss[i]? = some e:=⟨_,List.getElem?_eq_getElem hlt⟩;obtain ⟨ct1,ct2⟩:=Vh he;have ceq:=Kq s;obtain ⟨d',ed,hal,haI,htI,heI⟩:=(hI.h s (List.mem_of_getElem? he)).sub0;have hIs:=hI.h s (List.mem_of_getElem? he);obtain ⟨id,off,cells,own,x,e1,e2,e3,hxs,e4⟩:=(hv1.h.mono l2).elem he;obtain ⟨va,vu,vw,rfl,hva,hvu,hvw⟩:=hxs.cells;have k0:cells[off]? = some (iI s.kind):=e4 0 (by omega);have k1:cells[off + 1]? = some (str s.name):=e4 1 (by omega);have k5:cells[off + 5]? = some vu:=e4 5 (by omega);have k6:cells[off + 6]? = some vw:=e4 6 (by omega);have e3' : qu true off 7 cells=some (stV s.kind s.name s.src s.n va vu vw):=e3;obtain ⟨m0,hm0⟩:∃ m,n + ye (ss.take i)=m:=⟨_,rfl⟩;rw [hm0];have hbad:¬ okS p (zl p) hs s → ¬ zj6 p (zl p) hs ss:=fun hn ho=>hn (Kj.1 ho s (List.mem_of_getElem? he));have hgood:okS p (zl p) hs s→zj6 p (zl p) hs (ss.take (i + 1)):=yo8 he h0;have l02:=lh1.h.trans l2;clear e3 e4 gq h0;have hok:=yo9 (p:=p) (nm:=zl p) (hs:=hs) (s:=s);replace l2:=za l2;replace hxs:=za hxs;replace hva:=za hva;replace hvu:=za hvu;replace hvw:=za hvw;replace ct1:=za ct1;replace ct2:=za ct2;replace ceq:=za ceq;replace hal:=za hal;replace haI:=za haI;replace htI:=za htI;replace heI:=za heI;replace ed:=za ed;replace hIs:=za hIs;replace hm0:=za hm0;replace hbad:=za hbad;replace hgood:=za hgood;replace he:=za he;replace hok:=za hok;replace l02:=za l02;simp only [zb,aR,ze,zf,yb, *];refine one8_c (hx1.h.mono l2.h) htl hIs.h hxs.h (SlV.mono l2.h hh1.h) (by omega) _ fun h3 l3=>?_;obtain ⟨z,hz⟩:∃ z,We p (zl p) hs s=z:=⟨_,rfl⟩;have hok':=hok.h;rw [hz] at hok';rw [hz];by_cases hz0:z=0
 case neg =>
  have g:=hq.h h3 z (m0:Int) (l02.h.trans l3) (fun ho=>absurd ho (hbad.h fun ho2=>hz0 (hok'.1 ho2).1)) (fun _=>hz0);have hz1:(z != 0)=true:=by simpa using hz0
  clear hR hq hz0 hok';replace g:=za g;replace l3:=za l3;replace hz:=za hz;simp only [zb,ze,zf, *];exact g.h
 subst hz0;have gq3:=l3.get gq2;have e23:=l3.get e2;have l13:=l2.h.trans l3;clear hok;replace hok:=hok';clear hok' gq2 e2;replace l3:=za l3;replace hz:=za hz;replace hok:=za hok;replace l13:=za l13;refine cutVH2 (P:=fun w hX=>h3.le hX∧Ints hX w ((if s.kind=5 then hs++[s.name] else hs).map (ku p.ress))) (G:=?G) ?b ?main
 case b =>
  intro main;replace main:=Hid.mk main;by_cases hk:s.kind=5
  ·have hk2:(s.kind == 5)=true:=by simpa using hk
   have hh3:=SlV.mono l13.h hh1.h;obtain ⟨wa,ha,a1,lA,push⟩:=yr9 hh3 (by rw [List.length_map];omega);have gqA:=lA.get gq3;have e2A:=lA.get e23;have hxA:=hx1.h.mono (l13.h.trans lA);replace hk:=za hk;replace lA:=za lA;replace push:=za push;replace hxA:=za hxA;replace hh3:=za hh3;simp only [zb,aR,aW,ze,zf, *];refine zb9 lA.h.ext ?_;simp only [zb,aR,yb, *];refine Zn hxA.h _ _ fun h5 l5=>?_;obtain ⟨wb,hb,a2,lb,hib⟩:=push.h h5 (ku p.ress s.name) l5;have u:=yi0 (ku p.ress s.name);have gqb:=lb.get gq3;have e2b:=lb.get e23;have g:=main.h wb hb ⟨lb,by rw [if_pos hk.h,List.map_append];exact hib⟩;clear main;replace g:=za g;replace l5:=za l5;replace lb:=za lb;replace hib:=za hib;simp only [zb,aR,aW,ze,zf,yb, *];exact g.h
  ·have hk2:(s.kind == 5)=false:=by simpa using hk
   have g:=main.h hv h3 ⟨Heap.le.refl _,by rw [if_neg hk];exact SlV.mono l13.h hh1.h⟩;clear main;replace g:=za g;replace hk:=za hk;simp only [zb,aR,ze,zf,yb, *];exact g.h
 case main =>
  rintro w hX ⟨lX,hwX⟩;have gqX:=lX.get gq3;have e2X:=lX.get e23;have hw1:IntKind.i64.wrap ((m0:Int) + 1)=((m0 + 1:Nat):Int):=by have:=hm0.h;have:=ct2.h;rw [zn (by omega) (by omega)];rfl
  have hhl' : (if s.kind=5 then hs++[s.name] else hs).length≤hs.length + 1:=by split<;>simp
  clear gq3 e23;replace lX:=za lX;replace hwX:=za hwX;replace hhl':=za hhl';simp only [*];have ihd:=ih.h d' ed.h;refine ihd p _ s.thn vu _ w (m0 + 1) hX _ (hx1.h.mono (l13.h.trans lX.h)) htl htI.h (by have:=ct2.h;have:=ceq.h;have:=hm0.h;omega) (by have:=hhl'.h;have:=ed.h;omega) (hvu.h.mono (l3.h.trans lX.h)) hwX.h fun h4 e4 m4 l4 ho4 hn4=>?_;by_cases hthn:zj6 p (zl p) (if s.kind=5 then hs++[s.name] else hs) s.thn
  case neg =>
   have hne:=hn4 hthn;have g:=hq.h h4 e4 m4 (l02.h.trans (l3.h.trans (lX.h.trans l4))) (fun ho=>absurd ho (hbad.h fun ho2=>hthn (hok.h.1 ho2).2.1)) (fun _=>hne);have hz1:(e4 != 0)=true:=by simpa using hne
   clear hR hq hne ho4 hn4 hthn;replace g:=za g;replace l4:=za l4;replace ihd:=za ihd;simp only [zb,ze,zf, *];exact g.h
  obtain ⟨rfl,rfl⟩:=ho4 hthn;clear ho4 hn4;have gq4:=l4.get gqX;have e24:=l4.get e2X;have l14:=l13.h.trans (lX.h.trans l4);clear gqX e2X;replace l4:=za l4;replace hthn:=za hthn;replace l14:=za l14;replace ihd:=za ihd;simp only [zb,aR,ze,zf,yb, *];refine ihd.h p _ s.els vw hs hv (m0 + 1 + ye s.thn) h4 _ (hx1.h.mono l14.h) htl heI.h (by have:=ct2.h;have:=ceq.h;have:=hm0.h;omega) (by have:=ed.h;omega) (hvw.h.mono (l3.h.trans (lX.h.trans l4.h))) (SlV.mono l14.h hh1.h) fun h5 e5 m5 l5 ho5 hn5=>?_;by_cases hels:zj6 p (zl p) hs s.els
  case neg =>
   have hne:=hn5 hels;have g:=hq.h h5 e5 m5 (l02.h.trans (l3.h.trans (lX.h.trans (l4.h.trans l5)))) (fun ho=>absurd ho (hbad.h fun ho2=>hels (hok.h.1 ho2).2.2)) (fun _=>hne);have hz1:(e5 != 0)=true:=by simpa using hne
   clear hR hq hne ho5 hn5 hels;replace g:=za g;replace l5:=za l5;simp only [zb,ze,zf, *];exact g.h
  obtain ⟨rfl,rfl⟩:=ho5 hels;have hs5:=hgood.h (hok.h.2 ⟨rfl,hthn.h,hels⟩);have g:=fun y9=>hR.h _ h5 hlt ⟨l14.h.trans l5,hs5,iI 0,y9,by rw [show n + ye (ss.take (i + 1))=m0 + 1 + ye s.thn + ye s.els from by have:=ct1.h;have:=ceq.h;have:=hm0.h;omega]⟩;clear hR hq ho5 hn5 hels hs5;replace g:=za g;replace l5:=za l5;simp only [zb,ze,zf, *];exact g.h _
theorem zy0:∀ d,Ss8C d
 | 0=>zk4 fun m h=>by omega
 | d + 1=>zk4 fun m h=>by cases h;exact zy0 d
abbrev sR (s:lBq):lVq:=[str s]
theorem tw_dev {hb h:Heap}{q:Nat}{H:Int}{d r t v:Value}{l:List Nm}{nm:List (lBq)}(gq:hb.get q=some (.blk [iI H,d,r,t] true)) (hv:NmsV hb d l) (hle:hb.le h) (ho:OwnS (zw hb.next) h 1 v (nm.map sR)) (hnl:nm.length + l.length≤10000){N:Nat}{vars:List Nat}{x0 x2 x5 x6 x7 x8:Value}(RQ:AExit→lVq→Heap→Prop)
  (hq:∀ h' v',hb.le h' → OwnS (zw hb.next) h' 1 v' ((nm++l.map (·.name)).map sR)→RQ (.exit 0) [x0,ptr q,x2,v',iI (l.length:Int),x5,x6,x7,x8] h') :
  LoopW Tryz.prog N vars yw8 [x0,ptr q,x2,v,iI 0,x5,x6,x7,x8] h RQ:=by
 have ln:=hv.len;replace hv:=za hv;replace hq:=za hq;replace hle:=za hle;replace ho:=za ho;refine LoopW.upto l.length (fun i e hX=>∃ v',hb.le hX∧OwnS (zw hb.next) hX 1 v' ((nm++(l.take i).map (·.name)).map sR)∧e=[x0,ptr q,x2,v',iI (i:Int),x5,x6,x7,x8]) ?_ (Nat.zero_le _) ⟨v,hle.h,by simpa using ho.h,rfl⟩;rintro i _ h1 R hi ⟨v',l1,ho1,rfl⟩ hR;have gq1:=l1.get gq;delta yw8;by_cases hlt:i < l.length
 case neg =>
  have hlt' : ¬ (i:Int) < l.length:=by omega
  have hi2:i=l.length:=by omega
  rw [List.take_of_length_le (by omega)] at ho1;have g:=hq.h h1 v' l1 ho1;rw [← hi2] at g;clear hq hR hi2 ho1;replace l1:=za l1;replace g:=za g;simp only [zb,aR,ze,zf, *];exact g.h
 have hlt' : (i:Int) < l.length:=by omega
 obtain ⟨s,hs⟩:∃ e,l[i]? = some e:=⟨_,List.getElem?_eq_getElem hlt⟩;have hv1:=hv.h.mono l1;obtain ⟨id,off,cells,own,e1,e2,_,e4⟩:=SlV.elem hv1.1 (i:=i) (x:=[str s.name,iI s.n]) (by simp [hs]);have c0:cells[off]? = some (str s.name):=e4 0 (by omega);have w:IntKind.i64.wrap ((i:Int) + 1)=((i + 1:Nat):Int):=by rw [zn (by omega) (by omega)];rfl
 have bs:=bs_1 s.name;obtain ⟨v2,h2,ap,ho2,_,k2,n2,nx2⟩:=ho1.append1 (x:=[str s.name]) (ym l1.next) rfl (by omega) (b:=16) (by rw [List.length_map,List.length_append,List.length_map,List.length_take];omega) (by rw [List.length_map,List.length_append,List.length_map,List.length_take];omega);have l2:hb.le h2:=⟨fun j o hg=>by
  have h3:=l1.get hg;rw [k2 j (by rw [h3];rfl) (ho1.notOf (Heap.lt_of_get hg))];exact h3,Nat.le_trans l1.next nx2⟩
 have g:=hR.h _ h2 hlt ⟨v2,l2,by
  have e:(nm++(l.take (i + 1)).map (·.name)).map sR=(nm++(l.take i).map (·.name)).map sR++[[str s.name]]:=by
   rw [List.take_add_one,hs];simp
  rw [e];exact ho2,rfl⟩
 clear hR hq k2 n2 e4 hv1;replace l1:=za l1;replace l2:=za l2;replace g:=za g;replace ho1:=za ho1;replace ho2:=za ho2;replace hs:=za hs;simp only [zb,aR,aW,ze,zf, *];exact g.h
theorem tw_res {hb h:Heap}{q:Nat}{H:Int}{d r t v:Value}{l:List Nm}{nm:List (lBq)}(gq:hb.get q=some (.blk [iI H,d,r,t] true)) (hv:NmsV hb r l) (hle:hb.le h) (ho:OwnS (zw hb.next) h 1 v (nm.map sR)) (hnl:nm.length + l.length≤10000){N:Nat}{vars:List Nat}{x0 x2 x4 x6 x7 x8:Value}(RQ:AExit→lVq→Heap→Prop)
  (hq:∀ h' v',hb.le h' → OwnS (zw hb.next) h' 1 v' ((nm++l.map (·.name)).map sR)→RQ (.exit 2) [x0,ptr q,x2,v',x4,iI (l.length:Int),x6,x7,x8] h') :
  LoopW Tryz.prog N vars zv7 [x0,ptr q,x2,v,x4,iI 0,x6,x7,x8] h RQ:=by
 have ln:=hv.len;replace hv:=za hv;replace hq:=za hq;replace hle:=za hle;replace ho:=za ho;refine LoopW.upto l.length (fun i e hX=>∃ v',hb.le hX∧OwnS (zw hb.next) hX 1 v' ((nm++(l.take i).map (·.name)).map sR)∧e=[x0,ptr q,x2,v',x4,iI (i:Int),x6,x7,x8]) ?_ (Nat.zero_le _) ⟨v,hle.h,by simpa using ho.h,rfl⟩;rintro i _ h1 R hi ⟨v',l1,ho1,rfl⟩ hR;have gq1:=l1.get gq;delta zv7;by_cases hlt:i < l.length
 case neg =>
  have hlt' : ¬ (i:Int) < l.length:=by omega
  have hi2:i=l.length:=by omega
  rw [List.take_of_length_le (by omega)] at ho1;have g:=hq.h h1 v' l1 ho1;rw [← hi2] at g;clear hq hR hi2 ho1;replace l1:=za l1;replace g:=za g;simp only [zb,aR,ze,zf, *];exact g.h
 have hlt' : (i:Int) < l.length:=by omega
 obtain ⟨s,hs⟩:∃ e,l[i]? = some e:=⟨_,List.getElem?_eq_getElem hlt⟩;have hv1:=hv.h.mono l1;obtain ⟨id,off,cells,own,e1,e2,_,e4⟩:=SlV.elem hv1.1 (i:=i) (x:=[str s.name,iI s.n]) (by simp [hs]);have c0:cells[off]? = some (str s.name):=e4 0 (by omega);have w:IntKind.i64.wrap ((i:Int) + 1)=((i + 1:Nat):Int):=by rw [zn (by omega) (by omega)];rfl
 have bs:=bs_1 s.name;obtain ⟨v2,h2,ap,ho2,_,k2,n2,nx2⟩:=ho1.append1 (x:=[str s.name]) (ym l1.next) rfl (by omega) (b:=16) (by rw [List.length_map,List.length_append,List.length_map,List.length_take];omega) (by rw [List.length_map,List.length_append,List.length_map,List.length_take];omega);have l2:hb.le h2:=⟨fun j o hg=>by
  have h3:=l1.get hg;rw [k2 j (by rw [h3];rfl) (ho1.notOf (Heap.lt_of_get hg))];exact h3,Nat.le_trans l1.next nx2⟩
 have g:=hR.h _ h2 hlt ⟨v2,l2,by
  have e:(nm++(l.take (i + 1)).map (·.name)).map sR=(nm++(l.take i).map (·.name)).map sR++[[str s.name]]:=by
   rw [List.take_add_one,hs];simp
  rw [e];exact ho2,rfl⟩
 clear hR hq k2 n2 e4 hv1;replace l1:=za l1;replace l2:=za l2;replace g:=za g;replace ho1:=za ho1;replace ho2:=za ho2;replace hs:=za hs;simp only [zb,aR,aW,ze,zf, *];exact g.h
theorem tw_tsk {hb h:Heap}{q:Nat}{H:Int}{d r t v:Value}{l:List Tsk}{nm:List (lBq)}(gq:hb.get q=some (.blk [iI H,d,r,t] true)) (hv:TssV hb t l) (hle:hb.le h) (ho:OwnS (zw hb.next) h 1 v (nm.map sR)) (hnl:nm.length + l.length≤10000){N:Nat}{vars:List Nat}{x0 x2 x4 x5 x7 x8:Value}(RQ:AExit→lVq→Heap→Prop)
  (hq:∀ h' v',hb.le h' → OwnS (zw hb.next) h' 1 v' ((nm++l.map (·.name)).map sR)→RQ (.exit 4) [x0,ptr q,x2,v',x4,x5,iI (l.length:Int),x7,x8] h') :
  LoopW Tryz.prog N vars zv6 [x0,ptr q,x2,v,x4,x5,iI 0,x7,x8] h RQ:=by
 have ln:=hv.len;replace hv:=za hv;replace hq:=za hq;replace hle:=za hle;replace ho:=za ho;refine LoopW.upto l.length (fun i e hX=>∃ v',hb.le hX∧OwnS (zw hb.next) hX 1 v' ((nm++(l.take i).map (·.name)).map sR)∧e=[x0,ptr q,x2,v',x4,x5,iI (i:Int),x7,x8]) ?_ (Nat.zero_le _) ⟨v,hle.h,by simpa using ho.h,rfl⟩;rintro i _ h1 R hi ⟨v',l1,ho1,rfl⟩ hR;have gq1:=l1.get gq;delta zv6;by_cases hlt:i < l.length
 case neg =>
  have hlt' : ¬ (i:Int) < l.length:=by omega
  have hi2:i=l.length:=by omega
  rw [List.take_of_length_le (by omega)] at ho1;have g:=hq.h h1 v' l1 ho1;rw [← hi2] at g;clear hq hR hi2 ho1;replace l1:=za l1;replace g:=za g;simp only [zb,aR,ze,zf, *];exact g.h
 have hlt' : (i:Int) < l.length:=by omega
 obtain ⟨s,hs⟩:∃ e,l[i]? = some e:=⟨_,List.getElem?_eq_getElem hlt⟩;have hv1:=hv.h.mono l1;obtain ⟨id,off,cells,own,u,e1,e2,_,_,e4⟩:=hv1.elem0 hs;have c0:cells[off]? = some (str s.name):=e4 0 (by omega);have w:IntKind.i64.wrap ((i:Int) + 1)=((i + 1:Nat):Int):=by rw [zn (by omega) (by omega)];rfl
 have bs:=bs_1 s.name;obtain ⟨v2,h2,ap,ho2,_,k2,n2,nx2⟩:=ho1.append1 (x:=[str s.name]) (ym l1.next) rfl (by omega) (b:=16) (by rw [List.length_map,List.length_append,List.length_map,List.length_take];omega) (by rw [List.length_map,List.length_append,List.length_map,List.length_take];omega);have l2:hb.le h2:=⟨fun j o hg=>by
  have h3:=l1.get hg;rw [k2 j (by rw [h3];rfl) (ho1.notOf (Heap.lt_of_get hg))];exact h3,Nat.le_trans l1.next nx2⟩
 have g:=hR.h _ h2 hlt ⟨v2,l2,by
  have e:(nm++(l.take (i + 1)).map (·.name)).map sR=(nm++(l.take i).map (·.name)).map sR++[[str s.name]]:=by
   rw [List.take_add_one,hs];simp
  rw [e];exact ho2,rfl⟩
 clear hR hq k2 n2 e4 hv1;replace l1:=za l1;replace l2:=za l2;replace g:=za g;replace ho1:=za ho1;replace ho2:=za ho2;replace hs:=za hs;simp only [zb,aR,aW,ze,zf, *];exact g.h
theorem tw_all {h:Heap}{v:Value}{l:List (lBq)}(hv:Strs h v l) (hl:l.length≤10000){N:Nat}{vars:List Nat}{x0 x1 x4 x5 x6 x8:Value}(Q:vPq) (RQ:AExit→lVq→Heap→Prop)
  (hq:∀ x8,l.Nodup→RQ (.exit 6) [x0,x1,.bool false,v,x4,x5,x6,iI (l.length:Int),x8] h)
  (hno:∀ x7 x8,¬ l.Nodup→RQ .ret [x0,x1,.bool true,v,x4,x5,x6,x7,x8] h) :
  LoopW Tryz.prog N vars zv5 [x0,x1,.bool false,v,x4,x5,x6,iI 0,x8] h RQ:=by
 have ln:=hv.len;replace hv:=za hv;replace hq:=za hq;replace hno:=za hno;refine LoopW.upto l.length (fun i e hX=>hX=h∧(l.take i).Nodup ∧ ∃ y8,e=[x0,x1,.bool false,v,x4,x5,x6,iI (i:Int),y8]) ?_ (Nat.zero_le _) ⟨rfl,by simp,_,rfl⟩;rintro i _ hE R hi ⟨hE2,hnd,y8,rfl⟩ hR;replace hE2:=hE2.symm;subst hE2;delta zv5;by_cases hlt:i < l.length
 case neg =>
  have hlt' : ¬ (i:Int) < l.length:=by omega
  have hi2:i=l.length:=by omega
  rw [List.take_of_length_le (by omega)] at hnd;have g:=hq.h y8 hnd;rw [← hi2] at g;clear hq hno hR hi2 hnd;replace g:=za g;simp only [zb,ze,zf, *];exact g.h
 have hlt' : (i:Int) < l.length:=by omega
 have w:IntKind.i64.wrap ((i:Int) + 1)=((i + 1:Nat):Int):=by rw [zn (by omega) (by omega)];rfl
 obtain ⟨s,hs⟩:∃ e,l[i]? = some e:=⟨_,List.getElem?_eq_getElem hlt⟩;obtain ⟨id,off,cells,own,e1,e2,e3,_⟩:=hv.h.elem hs;have et:l.take (i + 1)=l.take i++[s]:=by rw [List.take_add_one,hs];rfl
 have gR:=fun y8 (hn:s ∉ l.take i)=>hR.h [x0,x1,.bool false,v,x4,x5,x6,iI ((i + 1:Nat):Int),y8] h hlt ⟨rfl,by rw [et];exact Yf.2 ⟨hnd,hn⟩,y8,rfl⟩;have hsub:∀ k,k < i→l[k]? = some s → ¬ l.Nodup:=fun k hk hks hn=>by
  have h1:=List.pairwise_iff_getElem.1 hn k i (by omega) hlt hk;rw [(List.getElem?_eq_some_iff.1 hks).2,(List.getElem?_eq_some_iff.1 hs).2] at h1;exact h1 rfl
 clear hR hq hnd et;replace gR:=za gR;replace hs:=za hs;replace hsub:=za hsub;simp only [zb,ze,zf, *];refine LoopW.upto i (fun k e hX=>hX=h∧s ∉ l.take k∧e=[x0,x1,.bool false,v,x4,x5,x6,iI (i:Int),iI (k:Int)]) ?_ (Nat.zero_le _) ⟨rfl,by simp,rfl⟩;rintro k _ hE R2 hk ⟨hE2,hni,rfl⟩ hR2;replace hE2:=hE2.symm;subst hE2;delta yw9;by_cases hlk:k < i
 case neg =>
  have hlk' : ¬ (k:Int) < i:=by omega
  have:k=i:=by omega
  subst this;have g:=gR.h (iI (k:Int)) hni;clear gR hno hR2 hni;replace g:=za g;simp only [zb,ze,zf, *];exact g.h
 have hlk' : (k:Int) < i:=by omega
 have wk:IntKind.i64.wrap ((k:Int) + 1)=((k + 1:Nat):Int):=by rw [zn (by omega) (by omega)];rfl
 obtain ⟨s2,hs2⟩:∃ e,l[k]? = some e:=⟨_,List.getElem?_eq_getElem (by omega)⟩;obtain ⟨id2,off2,cells2,own2,f1,f2,f3,_⟩:=hv.h.elem hs2;have es:=Jp s s2;have et:l.take (k + 1)=l.take k++[s2]:=by rw [List.take_add_one,hs2];rfl
 cases hb:(s == s2) with
 | true =>
  have e:s=s2:=by simpa using hb
  have g:=hno.h (iI (i:Int)) (iI (k:Int)) (hsub.h k hlk (by rw [e];exact hs2));rw [hb] at es;clear gR hno hR2 hni e et;replace g:=za g;replace hs2:=za hs2;simp only [zb,aR,ze,zf, *];exact g.h
 | false =>
  have g:=hR2.h _ h hlk ⟨rfl,by
   rw [et,List.mem_append,not_or];exact ⟨hni,fun hm=>by rw [List.mem_singleton.1 hm] at hb;simp at hb⟩,rfl⟩
  rw [hb] at es;clear gR hno hR2 hni et;replace g:=za g;replace hs2:=za hs2;simp only [zb,aR,ze,zf, *];exact g.h
theorem twice8_c {h:Heap}{p:Prg}{x:lVq}(hx:PrC h p x) (hl:p.devs.length≤1000∧p.ress.length≤1000∧p.tasks.length≤1000) (Q:vPq) (hq:∀ h' b,h.le h' → (b=true ↔ ¬ (zl p).Nodup)→Q (.bool b) h'):CallW Tryz.prog 82 [.agg x.toArray] h Q:=by
 obtain ⟨d,r,t,rfl,hd,hr,ht⟩:=hx;have b1:=yy (n:=p.harts) hd.one hr.one ht.one;obtain ⟨q,h1,eq,eh1,gq,lh1⟩:=zj h [iI p.harts,d,r,t];have hd1:=hd.mono lh1;have hr1:=hr.mono lh1;have ht1:=ht.mono lh1;clear hd hr ht;replace lh1:=za lh1;replace hd1:=za hd1;replace hr1:=za hr1;replace ht1:=za ht1;replace hl:=za hl;refine zg (k:=2) ok82 rfl rfl rfl fun N=>?_;rw [Yo c82 zr4 rfl];delta c82;replace hq:=za hq;simp only [zb, *];refine tw_dev (nm:=[]) gq hd1.h (Heap.le.refl _) (OwnS.nil _ _ _) (by have:=hl.h;simp;omega) _ fun h2 v2 l2 ho2=>?_;rw [List.nil_append] at ho2;replace l2:=za l2;replace ho2:=za ho2;simp only [zb, *];refine tw_res gq hr1.h l2.h ho2.h (by have:=hl.h;simp;omega) _ fun h3 v3 l3 ho3=>?_;replace l3:=za l3;replace ho3:=za ho3;simp only [zb, *];refine tw_tsk gq ht1.h l3.h ho3.h (by have:=hl.h;simp;omega) _ fun h4 v4 l4 ho4=>?_;have hs4:Strs h4 v4 (zl p):=ho4.sl;have hn4:(zl p).length≤10000:=by unfold zl;have:=hl.h;simp;omega
 replace l4:=za l4;replace ho4:=za ho4;simp only [zb, *];refine tw_all hs4 hn4 Q _ (fun x8 hnd=>?_) fun x7 x8 hnd=>?_
 ·have g:=hq.h h4 false (lh1.h.trans l4.h) (by simpa using hnd);clear hq hs4;replace g:=za g;replace hnd:=za hnd;simp only [zb, *];exact g.h
 ·have g:=hq.h h4 true (lh1.h.trans l4.h) (by simpa using hnd);clear hq hs4;replace g:=za g;replace hnd:=za hnd;simp only [zb, *];exact g.h
def f1 (t x:Tsk):Bool:=!t.handler && hd1 t x
def f2 (t x:Tsk):Bool:=t.handler && hd2 t x
def f3 (t x:Tsk):Bool:=t.handler && hd3 t x
theorem tk_one {h:Heap}{q qt:Nat}{p:Prg}{d r t u:Value}{tk:Tsk}{i:Nat}(gq:h.get q=some (.blk [iI p.harts,d,r,t] true)) (ht:TssV h t p.tasks) (gt:h.get qt=some (.blk (tsL tk u) true)) (hB:i≤p.tasks.length) (hl:p.tasks.length≤1000){N:Nat}{vars:List Nat}{x0 x7 x8 x9 x10:Value}(RQ:AExit→lVq→Heap→Prop)
  (hq:∀ h' y,h.le h' → (p.tasks.take (i)).any (f1 tk)=false→RQ (.exit 0) [x0,iI (i:Int),ptr q,iI 0,ptr qt,iI (i:Nat),y,x7,x8,x9,x10] h')
  (hno:∀ h' k y,h.le h' → (p.tasks.take (i)).any (f1 tk)=true→RQ .ret [x0,iI (i:Int),ptr q,iI 81,ptr qt,k,y,x7,x8,x9,x10] h') :
  LoopW Tryz.prog N vars zv4 [x0,iI (i:Int),ptr q,iI 0,ptr qt,iI 0,udq,x7,x8,x9,x10] h RQ:=by
 have ln:=ht.len;replace ht:=za ht;replace hq:=za hq;replace hno:=za hno;refine LoopW.upto (i) (fun k e hX=>h.le hX∧(p.tasks.take k).any (f1 tk)=false ∧ ∃ y,e=[x0,iI (i:Int),ptr q,iI 0,ptr qt,iI (k:Int),y,x7,x8,x9,x10]) ?_ (Nat.zero_le _) ⟨Heap.le.refl _,rfl,_,rfl⟩;rintro k _ h1 R hk ⟨l1,h0,y,rfl⟩ hR;have gq1:=l1.get gq;have gt1:=l1.get gt;delta zv4;by_cases hlt:k < i
 case neg =>
  have hlt' : ¬ (k:Int) < (i:Nat):=by omega
  have e:k=i:=by omega
  subst e;have g:=hq.h h1 y l1 h0;clear hq hno hR h0 gq gt;replace l1:=za l1;replace g:=za g;simp only [zb,ze,zf, *];exact g.h
 have hlt' : (k:Int) < (i:Nat):=by omega
 have w:IntKind.i64.wrap ((k:Int) + 1)=((k + 1:Nat):Int):=by rw [zn (by omega) (by omega)];rfl
 obtain ⟨x,hx⟩:∃ e,p.tasks[k]? = some e:=⟨_,List.getElem?_eq_getElem (by omega)⟩;obtain ⟨id,off,cells,own,ux,e1,e2,e3,hb,_⟩:=(ht.h.mono l1).elem0 hx;have st:=yj4 h1 x.name x.handler x.hart x.prio x.line hb.isS0;obtain ⟨q2,h2,eq2,eh2,gq2,lh2⟩:=zj h1 [str x.name,.bool x.handler,iI x.hart,iI x.prio,iI x.line,ux];rw [eh2,eq2] at st;have l2:=l1.trans lh2;have gt2:h2.get qt=some (.blk [str tk.name,.bool tk.handler,iI tk.hart,iI tk.prio,iI tk.line,u] true):=lh2.get gt1;have et:(p.tasks.take (k + 1)).any (f1 tk)=f1 tk x:=by
  rw [List.take_add_one,hx,List.any_append,h0];simp
 have gT:=fun y (hf:f1 tk x=true)=>hno.h h2 (iI (k:Int)) y l2 (List.any_eq_true.2 ⟨x,by
  rw [List.mem_iff_getElem?];exact ⟨k,by rw [List.getElem?_take_of_lt hlt];exact hx⟩,hf⟩)
 have gF:=fun y (hf:f1 tk x=false)=>hR.h _ h2 hlt ⟨l2,by rw [et];exact hf,y,rfl⟩;clear hq hno hR h0 et gq gt gt1 lh2;obtain ⟨tb,htb⟩:∃ b,tk.handler=b:=⟨_,rfl⟩;obtain ⟨xb,hxb⟩:∃ b,x.handler=b:=⟨_,rfl⟩;unfold f1 hd1 at gT gF;rw [htb] at gt2 gT gF;rw [hxb] at st e3 gq2 gT gF eh2;replace l1:=za l1;replace l2:=za l2;replace hb:=za hb;replace hx:=za hx;replace htb:=za htb;replace hxb:=za hxb;replace gT:=za gT;replace gF:=za gF;cases tb<;>cases xb<;>cases c3:(x.hart == tk.hart)<;>skip;all_goals
  first
  | (
   have g:=fun y=>gT.h y (by simp [*]);clear gT gF;replace g:=Hid.mk g;simp only [zb,aR,aW,ze,zf, *];exact g.h _)
  | (
   have g:=fun y=>gF.h y (by simp [*]);clear gT gF;replace g:=Hid.mk g;simp only [zb,aR,aW,ze,zf, *];exact g.h _)
theorem tk_two {h:Heap}{q qt:Nat}{p:Prg}{d r t u:Value}{tk:Tsk}{i:Nat}(gq:h.get q=some (.blk [iI p.harts,d,r,t] true)) (ht:TssV h t p.tasks) (gt:h.get qt=some (.blk (tsL tk u) true)) (hB:i≤p.tasks.length) (hl:p.tasks.length≤1000){N:Nat}{vars:List Nat}{x0 x5 x6 x9 x10:Value}(RQ:AExit→lVq→Heap→Prop)
  (hq:∀ h' y,h.le h' → (p.tasks.take (i)).any (f2 tk)=false→RQ (.exit 2) [x0,iI (i:Int),ptr q,iI 0,ptr qt,x5,x6,iI (i:Nat),y,x9,x10] h')
  (hno:∀ h' k y,h.le h' → (p.tasks.take (i)).any (f2 tk)=true→RQ .ret [x0,iI (i:Int),ptr q,iI 82,ptr qt,x5,x6,k,y,x9,x10] h') :
  LoopW Tryz.prog N vars zv3 [x0,iI (i:Int),ptr q,iI 0,ptr qt,x5,x6,iI 0,udq,x9,x10] h RQ:=by
 have ln:=ht.len;replace ht:=za ht;replace hq:=za hq;replace hno:=za hno;refine LoopW.upto (i) (fun k e hX=>h.le hX∧(p.tasks.take k).any (f2 tk)=false ∧ ∃ y,e=[x0,iI (i:Int),ptr q,iI 0,ptr qt,x5,x6,iI (k:Int),y,x9,x10]) ?_ (Nat.zero_le _) ⟨Heap.le.refl _,rfl,_,rfl⟩;rintro k _ h1 R hk ⟨l1,h0,y,rfl⟩ hR;have gq1:=l1.get gq;have gt1:=l1.get gt;delta zv3;by_cases hlt:k < i
 case neg =>
  have hlt' : ¬ (k:Int) < (i:Nat):=by omega
  have e:k=i:=by omega
  subst e;have g:=hq.h h1 y l1 h0;clear hq hno hR h0 gq gt;replace l1:=za l1;replace g:=za g;simp only [zb,ze,zf, *];exact g.h
 have hlt' : (k:Int) < (i:Nat):=by omega
 have w:IntKind.i64.wrap ((k:Int) + 1)=((k + 1:Nat):Int):=by rw [zn (by omega) (by omega)];rfl
 obtain ⟨x,hx⟩:∃ e,p.tasks[k]? = some e:=⟨_,List.getElem?_eq_getElem (by omega)⟩;obtain ⟨id,off,cells,own,ux,e1,e2,e3,hb,_⟩:=(ht.h.mono l1).elem0 hx;have st:=yj4 h1 x.name x.handler x.hart x.prio x.line hb.isS0;obtain ⟨q2,h2,eq2,eh2,gq2,lh2⟩:=zj h1 [str x.name,.bool x.handler,iI x.hart,iI x.prio,iI x.line,ux];rw [eh2,eq2] at st;have l2:=l1.trans lh2;have gt2:h2.get qt=some (.blk [str tk.name,.bool tk.handler,iI tk.hart,iI tk.prio,iI tk.line,u] true):=lh2.get gt1;have et:(p.tasks.take (k + 1)).any (f2 tk)=f2 tk x:=by
  rw [List.take_add_one,hx,List.any_append,h0];simp
 have gT:=fun y (hf:f2 tk x=true)=>hno.h h2 (iI (k:Int)) y l2 (List.any_eq_true.2 ⟨x,by
  rw [List.mem_iff_getElem?];exact ⟨k,by rw [List.getElem?_take_of_lt hlt];exact hx⟩,hf⟩)
 have gF:=fun y (hf:f2 tk x=false)=>hR.h _ h2 hlt ⟨l2,by rw [et];exact hf,y,rfl⟩;clear hq hno hR h0 et gq gt gt1 lh2;obtain ⟨tb,htb⟩:∃ b,tk.handler=b:=⟨_,rfl⟩;obtain ⟨xb,hxb⟩:∃ b,x.handler=b:=⟨_,rfl⟩;unfold f2 hd2 at gT gF;rw [htb] at gt2 gT gF;rw [hxb] at st e3 gq2 gT gF eh2;replace l1:=za l1;replace l2:=za l2;replace hb:=za hb;replace hx:=za hx;replace htb:=za htb;replace hxb:=za hxb;replace gT:=za gT;replace gF:=za gF;cases tb<;>cases xb<;>cases c3:(x.line == tk.line)<;>skip;all_goals
  first
  | (
   have g:=fun y=>gT.h y (by simp [*]);clear gT gF;replace g:=Hid.mk g;simp only [zb,aR,aW,ze,zf, *];exact g.h _)
  | (
   have g:=fun y=>gF.h y (by simp [*]);clear gT gF;replace g:=Hid.mk g;simp only [zb,aR,aW,ze,zf, *];exact g.h _)
theorem tk_thr {h:Heap}{q qt:Nat}{p:Prg}{d r t u:Value}{tk:Tsk}{i:Nat}(gq:h.get q=some (.blk [iI p.harts,d,r,t] true)) (ht:TssV h t p.tasks) (gt:h.get qt=some (.blk (tsL tk u) true)) (hB:p.tasks.length≤p.tasks.length) (hl:p.tasks.length≤1000){N:Nat}{vars:List Nat}{x0 x5 x6 x7 x8:Value}(RQ:AExit→lVq→Heap→Prop)
  (hq:∀ h' y,h.le h' → (p.tasks.take (p.tasks.length)).any (f3 tk)=false→RQ (.exit 4) [x0,iI (i:Int),ptr q,iI 0,ptr qt,x5,x6,x7,x8,iI (p.tasks.length:Nat),y] h')
  (hno:∀ h' k y,h.le h' → (p.tasks.take (p.tasks.length)).any (f3 tk)=true→RQ .ret [x0,iI (i:Int),ptr q,iI 83,ptr qt,x5,x6,x7,x8,k,y] h') :
  LoopW Tryz.prog N vars zv2 [x0,iI (i:Int),ptr q,iI 0,ptr qt,x5,x6,x7,x8,iI 0,udq] h RQ:=by
 have ln:=ht.len;replace ht:=za ht;replace hq:=za hq;replace hno:=za hno;refine LoopW.upto (p.tasks.length) (fun k e hX=>h.le hX∧(p.tasks.take k).any (f3 tk)=false ∧ ∃ y,e=[x0,iI (i:Int),ptr q,iI 0,ptr qt,x5,x6,x7,x8,iI (k:Int),y]) ?_ (Nat.zero_le _) ⟨Heap.le.refl _,rfl,_,rfl⟩;rintro k _ h1 R hk ⟨l1,h0,y,rfl⟩ hR;have gq1:=l1.get gq;have gt1:=l1.get gt;delta zv2;by_cases hlt:k < p.tasks.length
 case neg =>
  have hlt' : ¬ (k:Int) < (p.tasks.length:Nat):=by omega
  have e:k=p.tasks.length:=by omega
  subst e;have g:=hq.h h1 y l1 h0;clear hq hno hR h0 gq gt;replace l1:=za l1;replace g:=za g;simp only [zb,aR,ze,zf, *];exact g.h
 have hlt' : (k:Int) < (p.tasks.length:Nat):=by omega
 have w:IntKind.i64.wrap ((k:Int) + 1)=((k + 1:Nat):Int):=by rw [zn (by omega) (by omega)];rfl
 obtain ⟨x,hx⟩:∃ e,p.tasks[k]? = some e:=⟨_,List.getElem?_eq_getElem (by omega)⟩;obtain ⟨id,off,cells,own,ux,e1,e2,e3,hb,_⟩:=(ht.h.mono l1).elem0 hx;have st:=yj4 h1 x.name x.handler x.hart x.prio x.line hb.isS0;obtain ⟨q2,h2,eq2,eh2,gq2,lh2⟩:=zj h1 [str x.name,.bool x.handler,iI x.hart,iI x.prio,iI x.line,ux];rw [eh2,eq2] at st;have l2:=l1.trans lh2;have gt2:h2.get qt=some (.blk [str tk.name,.bool tk.handler,iI tk.hart,iI tk.prio,iI tk.line,u] true):=lh2.get gt1;have et:(p.tasks.take (k + 1)).any (f3 tk)=f3 tk x:=by
  rw [List.take_add_one,hx,List.any_append,h0];simp
 have gT:=fun y (hf:f3 tk x=true)=>hno.h h2 (iI (k:Int)) y l2 (List.any_eq_true.2 ⟨x,by
  rw [List.mem_iff_getElem?];exact ⟨k,by rw [List.getElem?_take_of_lt hlt];exact hx⟩,hf⟩)
 have gF:=fun y (hf:f3 tk x=false)=>hR.h _ h2 hlt ⟨l2,by rw [et];exact hf,y,rfl⟩;clear hq hno hR h0 et gq gt gt1 lh2;obtain ⟨tb,htb⟩:∃ b,tk.handler=b:=⟨_,rfl⟩;obtain ⟨xb,hxb⟩:∃ b,x.handler=b:=⟨_,rfl⟩;unfold f3 hd3 at gT gF;rw [htb] at gt2 gT gF;rw [hxb] at st e3 gq2 gT gF eh2;replace l1:=za l1;replace l2:=za l2;replace hb:=za hb;replace hx:=za hx;replace htb:=za htb;replace hxb:=za hxb;replace gT:=za gT;replace gF:=za gF;cases tb<;>cases xb<;>cases c3:(x.hart == tk.hart)<;>by_cases c4:tk.prio≤x.prio;all_goals
  first
  | (
   have g:=fun y=>gT.h y (by simp [*]);clear gT gF;replace g:=Hid.mk g;simp only [zb,aR,aW,ze,zf, *];exact g.h _)
  | (
   have g:=fun y=>gF.h y (by simp [*]);clear gT gF;replace g:=Hid.mk g;simp only [zb,aR,aW,ze,zf, *];exact g.h _)
theorem headT_eq {p:Prg}{i:Nat}{t:Tsk}(hi:p.tasks[i]? = some t):wx p i=if p.harts≤t.hart then 81 else if (p.tasks.take i).any (f1 t) then 81 else if (p.tasks.take i).any (f2 t) then 82 else if p.tasks.any (f3 t) then 83 else 0:=by
 have a0:∀ (l:List Tsk) (g:Tsk→Bool),l.any (fun x=>false && g x)=false:=fun l g=>by simp
 have e1:∀ b:Bool,∀ (l:List Tsk) (g:Tsk→Bool),l.any (fun x=>b && g x)=(b && l.any g):=fun b l g=>by cases b<;>simp
 have h1:(p.tasks.take i).any (f1 t)=(!t.handler && (p.tasks.take i).any (hd1 t)):=e1 _ _ _;have h2:(p.tasks.take i).any (f2 t)=(t.handler && (p.tasks.take i).any (hd2 t)):=e1 _ _ _;have h3:p.tasks.any (f3 t)=(t.handler && p.tasks.any (hd3 t)):=e1 _ _ _;unfold wx;rw [hi,h1,h2,h3];dsimp only;cases t.handler<;>simp
theorem task8_c {h:Heap}{p:Prg}{x:lVq}(hx:PrC h p x) (hl:p.tasks.length≤1000){i:Nat}(hi:i < p.tasks.length) (Q:vPq) (hq:∀ h',h.le h' → Q (iI (wx p i)) h'):CallW Tryz.prog 83 [.agg x.toArray,iI (i:Int)] h Q:=by
 obtain ⟨d,r,t,rfl,hd,hr,ht⟩:=hx;have b1:=yy (n:=p.harts) hd.one hr.one ht.one;obtain ⟨tk,htk⟩:∃ z,p.tasks[i]? = some z:=⟨_,List.getElem?_eq_getElem hi⟩;obtain ⟨q,h1,eq,eh1,gq,lh1⟩:=zj h [iI p.harts,d,r,t];have ht1:=ht.mono lh1;obtain ⟨id,off,cells,own,u,e1,e2,e3,hb,_⟩:=ht1.elem0 htk;have st:=yj4 h1 tk.name tk.handler tk.hart tk.prio tk.line hb.isS0;obtain ⟨qt,h2,eqt,eh2,gqt,lh2⟩:=zj h1 [str tk.name,.bool tk.handler,iI tk.hart,iI tk.prio,iI tk.line,u];rw [eh2,eqt] at st;have l02:=lh1.trans lh2;have gq':=lh2.get gq;have ht2:=ht1.mono lh2;rw [headT_eq htk] at hq;clear hd hr ht;replace lh1:=za lh1;replace ht1:=za ht1;replace ht2:=za ht2;replace hb:=za hb;replace htk:=za htk;replace l02:=za l02;refine zg (k:=3) ok83 rfl rfl rfl fun N=>?_;rw [wn c83 und9q rfl];delta c83;replace hq:=za hq;by_cases c1:p.harts≤tk.hart
 ·have g:=hq.h h2 l02.h;rw [if_pos c1] at g;clear hq;replace g:=za g;simp only [zb,aR,aW,ze,zf, *];exact g.h
 rw [if_neg c1] at hq;simp only [zb,aR,aW,ze,zf, *];refine tk_one gq' ht2.h gqt (Nat.le_of_lt hi) hl _ (fun h3 y l3 a1=>?_) fun h3 k y l3 a1=>?_
 case refine_2 =>
  have g:=hq.h h3 (l02.h.trans l3);rw [if_pos a1] at g;clear hq a1;replace g:=za g;replace l3:=za l3;simp only [zb, *];exact g.h
 rw [if_neg (by rw [a1];decide)] at hq;have gq3:=l3.get gq';have gt3:=l3.get gqt;have ht3:=ht2.h.mono l3;replace l3:=za l3;replace a1:=za a1;replace ht3:=za ht3;simp only [zb, *];refine tk_two gq3 ht3.h gt3 (Nat.le_of_lt hi) hl _ (fun h4 y2 l4 a2=>?_) fun h4 k y2 l4 a2=>?_
 case refine_2 =>
  have g:=hq.h h4 (l02.h.trans (l3.h.trans l4));rw [if_pos a2] at g;clear hq a2;replace g:=za g;replace l4:=za l4;simp only [zb, *];exact g.h
 rw [if_neg (by rw [a2];decide)] at hq;have gq4:=l4.get gq3;have gt4:=l4.get gt3;have ht4:=ht3.h.mono l4;replace l4:=za l4;replace a2:=za a2;replace ht4:=za ht4;simp only [zb, *];refine tk_thr gq4 ht4.h gt4 (Nat.le_refl _) hl _ (fun h5 y3 l5 a3=>?_) fun h5 k y3 l5 a3=>?_
 case refine_2 =>
  rw [List.take_length] at a3;have g:=hq.h h5 (l02.h.trans (l3.h.trans (l4.h.trans l5)));rw [if_pos a3] at g;clear hq a3;replace g:=za g;replace l5:=za l5;simp only [zb, *];exact g.h
 rw [List.take_length] at a3;have g:=hq.h h5 (l02.h.trans (l3.h.trans (l4.h.trans l5)));rw [if_neg (by rw [a3];decide)] at g;clear hq a3;replace g:=za g;replace l5:=za l5;simp only [zb, *];exact g.h
end Go.Eng.Sy
