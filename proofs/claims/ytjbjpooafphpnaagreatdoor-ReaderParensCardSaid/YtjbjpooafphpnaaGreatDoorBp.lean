/-
  Part of a proof of the laws of layer 07 (reader): what each function does.
  Conditions: none.
-/
import Derived.Test.YtjbjpooafphpnaaGreatDoorBs
set_option linter.unusedSimpArgs false
set_option linter.unusedVariables false
namespace Go.Eng.Sy
open Go Go.Eng Go.Proofs
theorem MB:∀ (k:Nat) (l:aD) (m:Int),l.length < k→ia k l m=ia (l.length + 1) l m
 | 0,l,m,h=>by omega
 | k + 1,[],m,h=>by simp [ia]
 | k + 1,b::r,m,h=>by
  have key:∀ (w:Nat),0 < w→ia k (skip false ((b::r).drop w) m).1 (skip false ((b::r).drop w) m).2=ia (b::r).length (skip false ((b::r).drop w) m).1 (skip false ((b::r).drop w) m).2:=by
   intro w ax;have A:=sL false ((b::r).drop w) m;have S:((b::r).drop w).length=(b::r).length - w:=by simp
   have ae:(b::r).length=r.length + 1:=rfl;rw [MB k _ _ (by omega),MB (b::r).length _ _ (by omega)]
  show ia (k + 1) (b::r) m=ia ((b::r).length + 1) (b::r) m;unfold ia;split
  ·rename_i hr;rw [key _ hr]
  ·split
   ·rename_i g aA;rw [key _ (MG aA).1]
   ·rfl
 termination_by k=>k
 decreasing_by all_goals (simp only [List.length_cons] at *;omega)
def dc (l:aD) (m:Int):List Tok × Int × Bool:=ia (l.length + 1) (skip false l m).1 (skip false l m).2
theorem ade (l:aD):rY l=dc l 1:=rfl
theorem UY (l:aD) (m:Int){k:Nat}(h:l.length < k):ia k (skip false l m).1 (skip false l m).2=dc l m:=by
 have A:=sL false l m;unfold dc;rw [MB k _ _ (by omega),MB (l.length + 1) _ _ (by omega)]
theorem adh {a b:aD}{m n:Int}(h:skip false a m=skip false b n) (ag:b.length≤a.length):dc a m=dc b n:=by
 unfold dc;rw [h];exact UY b n (by omega)
theorem alr {b:UInt8}(h:nm b=true):jJ b=false∧b≠10∧b≠35:=by
 have:∀ n:Fin 256,nm (UInt8.ofNat n.val)=true→jJ (UInt8.ofNat n.val)=false∧UInt8.ofNat n.val≠10∧UInt8.ofNat n.val≠35:=by decide +kernel
 have:=this ⟨b.toNat,Ew b⟩;simp only [UInt8.ofNat_toNat] at this;exact this h
theorem sJ (b:UInt8) (l:aD):runN (b::l)=if nm b then runN l + 1 else 0:=by
 unfold runN;rw [List.takeWhile_cons];split<;>simp
theorem ad6:∀ {w:aD}(r:aD),runN w=w.length→runN (w++r)=w.length + runN r
 | [],r,_=>by simp
 | b::w,r,h=>by
  rw [sJ] at h;rw [List.cons_append,sJ];split at h
  ·rename_i T;rw [if_pos T,ad6 r (by simpa using h)];simp;omega
  ·simp at h
theorem aq9:∀ w ∈ kh,∃ b r,w=b::r∧nm b=false∧jJ b=false∧b≠10∧b≠35:=by
 intro w ax;have:∀ w ∈ kh,w≠[]∧nm (w.headD 0)=false∧jJ (w.headD 0)=false∧w.headD 0≠10∧w.headD 0≠35:=by decide +kernel
 obtain ⟨A,S⟩:=this w ax;cases w with
 | nil=>exact absurd rfl A
 | cons b r=>exact ⟨b,r,rfl,S⟩
theorem aqc {b:UInt8}{r:aD}(m:Int) (h:jJ b=false∧b≠10∧b≠35):skip false (b::r) m=(b::r,m):=by
 simp [skip,h.1,h.2.1,h.2.2]
theorem adg (m:Int):dc [] m=([],m,true):=rfl
theorem ac0 {base:Nat}:∀ (a b:aD) (n:Nat),parse base (a++b) n=(parse base a n).bind (parse base b)
 | [],b,n=>rfl
 | x::a,b,n=>by
  rw [List.cons_append];unfold parse;cases yu x with
  | none=>rfl
  | some d =>
   simp only;split
   ·rfl
   ·split
    ·rfl
    ·exact ac0 a b _
theorem ahf:∀ d:Fin 10,yu (UInt8.ofNat (48 + d.val))=some d.val:=by decide +kernel
theorem aof:∀ (n:Nat),parse 10 (bs n) 0=if n≤4294967295 then some n else none:=by
 intro n;induction n using Nat.strongRecOn with
 | _ n ih =>
 have aC:=ahf ⟨n % 10,Nat.mod_lt _ (by omega)⟩;simp only at aC;rw [bs];split
 ·rename_i lk;rw [ac0,ih (n / 10) (by omega)];by_cases ak:n / 10≤4294967295
  ·rw [if_pos ak];simp only [Option.bind_some,parse,aC];rw [if_neg (by omega)];by_cases hn:n≤4294967295
   ·rw [if_pos hn,if_neg (by omega)];congr 1;omega
   ·rw [if_neg hn,if_pos (by omega)]
  ·rw [if_neg ak,if_neg (by omega)];rfl
 ·rename_i lk;simp only [parse,aC];rw [if_neg (by omega),if_neg (by omega),if_pos (by omega)]
  congr 1;omega
def rJ (b:UInt8):Bool:=decide (48≤b.toNat) && decide (b.toNat≤57)
theorem Kl (n:Nat):∀ b ∈ bs n,rJ b=true:=by
 induction n using Nat.strongRecOn with
 | _ n ih =>
 have A:rJ (UInt8.ofNat (48 + n % 10))=true:=by
  have:∀ d:Fin 10,rJ (UInt8.ofNat (48 + d.val))=true:=by decide +kernel
  exact this ⟨n % 10,Nat.mod_lt _ (by omega)⟩
 rw [bs];split
 ·intro b T;rcases List.mem_append.1 T with T | T
  ·exact ih (n / 10) (by omega) b T
  ·rw [List.mem_singleton.1 T];exact A
 ·intro b T;rw [List.mem_singleton.1 T];exact A
theorem CF {b:UInt8}(h:rJ b=true):Lib.lowerB b=b∧nm b=true∧b≠120∧b.toNat≤57:=by
 have:∀ n:Fin 256,rJ (UInt8.ofNat n.val)=true→Lib.lowerB (UInt8.ofNat n.val)=UInt8.ofNat n.val∧nm (UInt8.ofNat n.val)=true∧UInt8.ofNat n.val≠120∧(UInt8.ofNat n.val).toNat≤57:=by decide +kernel
 have:=this ⟨b.toNat,Ew b⟩;simp only [UInt8.ofNat_toNat] at this;exact this h
theorem Km (n:Nat):∃ b r,bs n=b::r∧rJ b=true:=by
 have h:=Kl n;have ag:bs n≠[]:=by rw [bs];split<;>simp
 cases aC:bs n with
 | nil=>exact absurd aC ag
 | cons b r=>exact ⟨b,r,rfl,h b (by rw [aC];simp)⟩
theorem ah1 (n:Nat) (hn:0 < n):(bs n).head? ≠ some 48:=by
 induction n using Nat.strongRecOn with
 | _ n ih =>
 rw [bs];split
 ·rename_i lk;obtain ⟨b,r,T,_⟩:=Km (n / 10);have:=ih (n / 10) (by omega) (by omega);rw [T] at this ⊢;simpa using this
 ·rename_i lk;have:∀ d:Fin 10,0 < d.val→UInt8.ofNat (48 + d.val % 10)≠48:=by decide +kernel
  have:=this ⟨n,by omega⟩ hn;simpa using this
theorem al1 {l:aD}(h:∀ b ∈ l,Lib.lowerB b=b):Lib.toLowerA l=l:=by
 unfold Lib.toLowerA
 conv=>rhs;rw [← List.map_id l]
 exact List.map_congr_left fun b T=>by simpa using h b T
theorem apH {l:aD}(h:∀ b ∈ l,nm b=true):runN l=l.length:=by
 induction l with
 | nil=>rfl
 | cons b r ih=>rw [sJ,if_pos (h b (by simp)),ih fun x af=>h x (by simp [af])];rfl
theorem aou {l:aD}(h:∀ b ∈ l,b≠120):[48,120].isPrefixOf l=false:=by
 cases hp:[48,120].isPrefixOf l with
 | false=>rfl
 | true =>
  obtain ⟨r,hr⟩:=List.isPrefixOf_iff_prefix.1 hp;exact absurd rfl (h 120 (by rw [← hr];simp))
theorem ahh {l:aD}(h:∀ b ∈ l,b≠120):tL l=(l,10):=by
 unfold tL;rw [aou h];rfl
theorem aod {base:Nat}{l:aD}(h:l≠[]):pG base l=parse base l 0:=by
 cases l with
 | nil=>exact absurd rfl h
 | cons=>rfl
theorem alw {k:Nat}(ab:k≤4294967295):number (bs k)=some k:=by
 have aC:∀ b ∈ bs k,b≠120:=fun b T=>(CF (Kl k b T)).2.2.1;obtain ⟨b,r,T,_⟩:=Km k;have cH:bs k≠[]:=by rw [T];simp
 have ag:=u2 9 k (by omega);have ajq:=al1 fun b T=>(CF (Kl k b T)).1;unfold number Md;rw [ahh aC];simp only;rw [aod cH,aof,if_pos ab];simp only;rw [if_neg];simp only [ajq,Bool.or_eq_true,Bool.and_eq_true,decide_eq_true_eq,beq_iff_eq,Bool.not_eq_true',beq_self_eq_true,Bool.not_true,Bool.false_eq_true,or_false,true_and,not_or,not_and];refine ⟨by omega,fun A S=>?_⟩;rcases Nat.eq_zero_or_pos k with rfl | hp
 ·have:(bs 0).length=1:=by rw [bs];rfl
  omega
 ·exact ah1 k hp S
theorem arm {l:aD}(h:isWord l=true):∃ b r,l=b::r∧57 < b.toNat:=by
 have:∀ w ∈ rj,w≠[]∧57 < (w.headD 0).toNat:=by decide +kernel
 obtain ⟨A,S⟩:=this l (by simpa [isWord] using h);cases l with
 | nil=>exact absurd rfl A
 | cons b r=>exact ⟨b,r,rfl,S⟩
theorem ahg {b:UInt8}{r:aD}(h:b.toNat≤57):isWord (b::r)=false∧de (b::r)=false:=by
 constructor
 ·cases ax:isWord (b::r) with
  | false=>rfl
  | true =>
   obtain ⟨b',dL,aK,T⟩:=arm ax;cases aK;omega
 ·unfold de;have:¬ (57:Int) < (b.toNat:Int):=by omega
  simp [this]
theorem MD {b:UInt8}(T:jJ b=true) (r:aD) (m:Int):dc (b::r) m=dc r m:=adh (by simp [skip,T]) (by simp)
theorem adf {b:UInt8}{r:aD}(m:Int) (h:jJ b=false∧b≠10∧b≠35):dc (b::r) m=ia ((b::r).length + 1) (b::r) m:=by
 unfold dc;rw [aqc m h]
theorem apX {b:UInt8}{r:aD}(m:Int) (h:jJ b=false∧b≠10∧b≠35) (hr:0 < runN (b::r)) (ab:(kR ((b::r).take (runN (b::r)))).2=true) :
  dc (b::r) m=({ (kR ((b::r).take (runN (b::r)))).1 with line:=m }::(dc ((b::r).drop (runN (b::r))) m).1,(dc ((b::r).drop (runN (b::r))) m).2):=by
 rw [adf m h,ia,if_pos hr,if_pos ab,UY _ m (by simp only [List.length_drop];have:=MA (b::r);simp only [List.length_cons] at *;omega)]
theorem apW {b:UInt8}{r:aD}(m:Int) (h:jJ b=false∧b≠10∧b≠35) (hr:runN (b::r)=0){g:aD}(aA:kh.find? (·.isPrefixOf (b::r))=some g) :
  dc (b::r) m=(⟨4,g,0,m⟩::(dc ((b::r).drop g.length) m).1,(dc ((b::r).drop g.length) m).2):=by
 have A:=MG aA;rw [adf m h,ia,if_neg (by omega),aA];simp only;rw [UY _ m (by simp only [List.length_drop,List.length_cons] at *;omega)]
def fY (s:aD) (m:Int):Tok:=⟨1,s,0,m⟩
def kV (n:Nat) (m:Int):Tok:=⟨3,bs n,n,m⟩
def bD (g:aD) (m:Int):Tok:=⟨4,g,0,m⟩
def fL (ts:List Tok) (r:List Tok × Int × Bool):List Tok × Int × Bool:=(ts++r.1,r.2)
theorem rp (a b:List Tok) (r:List Tok × Int × Bool):fL a (fL b r)=fL (a++b) r:=by simp [fL,List.append_assoc]
def sd (l:aD):Prop:=∀ b r,l=b::r→nm b=false
def re (l:aD):Prop:=∀ b r,l=b::r→b≠46∧b≠60∧b≠61∧b≠62
def del (l:aD):Prop:=sd l∧re l
theorem ai1 {l:aD}(h:sd l):runN l=0:=by
 cases l with
 | nil=>rfl
 | cons b r=>rw [sJ,h b r rfl];rfl
theorem U0 {w:aD}{t:Tok}(h0:0 < w.length) (A:runN w=w.length) (S:kR w=(t,true)){l:aD}(ag:sd l) (m:Int):dc (w++l) m=fL [{ t with line:=m }] (dc l m):=by
 cases w with
 | nil=>simp at h0
 | cons b r =>
  have T:nm b=true:=by
   rw [sJ] at A;cases aj:nm b with
   | true=>rfl
   | false=>rw [aj] at A;simp at A
  have hr:runN (b::(r++l))=(b::r).length:=by
   have:=ad6 (w:=b::r) l A;rw [ai1 ag] at this;simpa using this
  have H:(b::(r++l)).take (b::r).length=b::r:=by
   rw [← List.cons_append,List.take_left'];rfl
  have aC:(b::(r++l)).drop (b::r).length=l:=by
   rw [← List.cons_append,List.drop_left'];rfl
  rw [List.cons_append,apX m (alr T) (by rw [hr];simp) (by rw [hr,H,S]),hr,H,aC,S];rfl
theorem aa9 {s:aD}(h:de s=true):0 < s.length∧runN s=s.length∧isWord s=false:=by
 unfold de at h;cases s with
 | nil=>cases h
 | cons b r =>
  simp only [Bool.and_eq_true,beq_iff_eq,Bool.not_eq_true',decide_eq_true_eq] at h;exact ⟨by simp,h.1.1.2,h.2⟩
theorem UZ {s:aD}(h:de s=true){l:aD}(ag:sd l) (m:Int):dc (s++l) m=fL [fY s m] (dc l m):=by
 obtain ⟨h0,A,S⟩:=aa9 h;rw [U0 h0 A (t:=⟨1,s,0,0⟩) (by unfold kR;rw [S,h];rfl) ag m];rfl
theorem adj {n:Nat}(hn:n < 4294967296){l:aD}(ag:sd l) (m:Int):dc (bs n++l) m=fL [kV n m] (dc l m):=by
 obtain ⟨b,r,e,T⟩:=Km n;have aC:=ahg (b:=b) (r:=r) (CF T).2.2.2;rw [U0 (w:=bs n) (t:=⟨3,bs n,n,0⟩) (by rw [e];simp) (apH fun x af=>(CF (Kl n x af)).2.1) (by unfold kR;rw [e,aC.1,aC.2,← e,alw (by omega)];rfl) ag m];rfl
theorem aq6 {g:aD}(aA:g ∈ kh){l:aD}(ag:re l):kh.find? (·.isPrefixOf (g++l))=some g:=by
 cases l with
 | nil =>
  rw [List.append_nil];revert g;decide +kernel
 | cons b r =>
  obtain ⟨A,S,ae,aB⟩:=ag b r rfl;have az:(46 == b)=false:=by simpa using A.symm
  have aL:(60 == b)=false:=by simpa using S.symm
  have bq:(61 == b)=false:=by simpa using ae.symm
  have cV:(62 == b)=false:=by simpa using aB.symm
  simp only [kh,List.mem_cons,List.not_mem_nil,or_false] at aA;rcases aA with rfl | rfl | rfl | rfl | rfl | rfl | rfl | rfl | rfl | rfl | rfl | rfl | rfl | rfl | rfl | rfl | rfl | rfl | rfl | rfl | rfl | rfl | rfl | rfl | rfl <;>
   simp [kh,List.find?,List.isPrefixOf,az,aL,bq,cV]
theorem B5 {g:aD}(aA:g ∈ kh){l:aD}(ag:re l) (m:Int):dc (g++l) m=fL [bD g m] (dc l m):=by
 obtain ⟨b,r,e,A,S⟩:=aq9 g aA;have aZ:=aq6 aA ag;subst e;rw [List.cons_append] at aZ ⊢;rw [apW m S (by rw [sJ,A];rfl) aZ,← List.cons_append,List.drop_left' rfl];rfl
theorem adt:∀ (o:Int),1≤o∧o≤17→eU o ∈ kh:=by
 intro o h;have:o=1∨o=2∨o=3∨o=4∨o=5∨o=6∨o=7∨o=8∨o=9∨o=10∨o=11∨o=12∨o=13∨o=14∨o=15∨o=16∨o=17:=by omega
 rcases this with rfl | rfl | rfl | rfl | rfl | rfl | rfl | rfl | rfl | rfl | rfl | rfl | rfl | rfl | rfl | rfl | rfl<;>decide +kernel
def pJ (m:Int) (e:aX) (dz:Nat) (s:List Tok):List Tok:=if e.kind=4∧cy e.op < dz then bD [40] m::(s++[bD [41] m]) else s
def al9 (m k o n:Int) (s:aD) (ts:List (aX × List Tok)):List Tok :=
 if k=1 then [kV n.toNat m]
 else if k=5 then match ts with | a::_=>fY s m::bD [91] m::(a.2++[bD [93] m]) | []=>[]
 else if k=3 then match ts with | a::_=>bD (eU o) m::pJ m a.1 9 a.2 | []=>[]
 else if k=4 then match ts with | a::b::_=>pJ m a.1 (cy o) a.2++bD (eU o) m::pJ m b.1 (cy o + 1) b.2 | _=>[]
 else [fY s m]
mutual
def fo (m:Int):aX→List Tok
 | .mk k o n s args=>al9 m k o n s (ae4 m args)
def ae4 (m:Int):List aX→List (aX × List Tok)
 | []=>[]
 | e::r=>(e,fo m e)::ae4 m r
end
theorem Kn {b:UInt8}{l:aD}(h:nm b=false∧b≠46∧b≠60∧b≠61∧b≠62):del (b::l):=⟨fun b' r e=>by cases e;exact h.1,fun b' r e=>by cases e;exact h.2⟩
theorem B6 {b:UInt8}{l:aD}(h:b≠46∧b≠60∧b≠61∧b≠62):re (b::l):=fun b' r e=>by cases e;exact h
theorem YA {b:UInt8}{l:aD}(h:nm b=false):sd (b::l):=fun b' r e=>by cases e;exact h
theorem abt {b:UInt8}(h:nm b=true):b≠46∧b≠60∧b≠61∧b≠62:=by
 refine ⟨?_,?_,?_,?_⟩<;>(rintro rfl;revert h;decide)
theorem adr {s:aD}(h:de s=true) (l:aD):re (s++l):=by
 obtain ⟨h0,A,_⟩:=aa9 h;cases s with
 | nil=>simp at h0
 | cons b r =>
  refine B6 (abt ?_);rw [sJ] at A;cases aj:nm b with
  | true=>rfl
  | false=>rw [aj] at A;simp at A
theorem U2 (n:Nat) (l:aD):re (bs n++l):=by
 obtain ⟨b,r,e,T⟩:=Km n;rw [e];exact B6 (abt (CF T).2.1)
theorem B7 {e:aX}{d:Nat}(h:e1 e d):∀ l,re (bU e++l):=by
 induction h with
 | num n d h=>intro l;exact U2 _ l
 | var s d h=>intro l;exact adr h l
 | one o a d h ai ih =>
  intro l;have:∀ o:Int,15≤o∧o≤17 → ∃ b,eU o=[b]∧b≠46∧b≠60∧b≠61∧b≠62:=fun o h=>by
   have:o=15∨o=16∨o=17:=by omega
   rcases this with rfl | rfl | rfl<;>exact ⟨_,rfl,by decide⟩
  obtain ⟨b,az,aL⟩:=this o h;show re ((eU o++nb a 9 (bU a))++l);rw [az];exact B6 aL
 | two o a b d h ai T zu DI =>
  intro l;show re ((nb a (cy o) (bU a)++32::(eU o++32::nb b (cy o + 1) (bU b)))++l);rw [List.append_assoc];unfold nb;split
  ·exact B6 (by decide)
  ·exact zu _
 | idx s a d h ai ih =>
  intro l;show re ((s++91::(bU a++[93]))++l);rw [List.append_assoc];exact adr h _
theorem U1 {e:aX}(ih:∀ l m,del l→dc (bU e++l) m=fL (fo m e) (dc l m)) (ak:∀ l,re (bU e++l)) (k:Nat) (l:aD) (m:Int) (ag:del l):dc (nb e k (bU e)++l) m=fL (pJ m e k (fo m e)) (dc l m):=by
 unfold nb pJ;split
 ·have az:(40::(bU e++[41]))++l=[40]++(bU e++([41]++l)):=by simp
  rw [az,B5 (by decide) (ak _),ih ([41]++l) m (show del (41::l) from Kn (by decide)),B5 (by decide) ag.2,rp,rp];rfl
 ·exact ih l m ag
theorem adl {e:aX}{d:Nat}(h:e1 e d):∀ l m,del l→dc (bU e++l) m=fL (fo m e) (dc l m):=by
 induction h with
 | num n d h=>intro l m ag;exact adj h ag.1 m
 | var s d h=>intro l m ag;exact UZ h ag.1 m
 | one o a d h ai ih =>
  intro l m ag;show dc ((eU o++nb a 9 (bU a))++l) m=fL (bD (eU o) m::pJ m a 9 (fo m a)) _;rw [List.append_assoc,B5 (adt o (by omega)) (by unfold nb;split;exact B6 (by decide);exact B7 ai _),U1 ih (B7 ai) 9 l m ag,rp];rfl
 | two o a b d h ai T zu DI =>
  intro l m ag;show dc ((nb a (cy o) (bU a)++32::(eU o++32::nb b (cy o + 1) (bU b)))++l) m=fL (pJ m a (cy o) (fo m a)++bD (eU o) m::pJ m b (cy o + 1) (fo m b)) _;have az:(nb a (cy o) (bU a)++32::(eU o++32::nb b (cy o + 1) (bU b)))++l=nb a (cy o) (bU a)++32::(eU o++32::(nb b (cy o + 1) (bU b)++l)):=by simp
  rw [az,U1 zu (B7 ai) _ _ m (Kn (by decide)),MD (by decide),B5 (adt o (by omega)) (B6 (by decide)),MD (by decide),U1 DI (B7 T) _ l m ag,rp,rp]
  congr 1
  simp
 | idx s a d h ai ih =>
  intro l m ag;show dc ((s++91::(bU a++[93]))++l) m=fL (fY s m::bD [91] m::(fo m a++[bD [93] m])) _;have az:(s++91::(bU a++[93]))++l=s++([91]++(bU a++([93]++l))):=by simp
  rw [az,UZ h (l:=[91]++(bU a++([93]++l))) (YA (by decide)),B5 (by decide) (B7 ai _),ih ([93]++l) m (show del (93::l) from Kn (by decide)),B5 (by decide) ag.2,rp,rp,rp]
  congr 1
section
variable {l:aD}{m:Int}{ts:List Tok}{R X:List Tok × Int × Bool}
end
theorem E8 {b:UInt8}{l:aD}(h:nm b=false∧b≠46∧b≠60∧b≠61∧b≠62):del ([b]++l):=Kn h
inductive PR (c1:Type) where
 | ok (a:c1) (r:List Tok)
 | bad (e line:Int)
 | out
def PR.bind {c1 l5:Type}(x:PR c1) (g:c1→List Tok→PR l5):PR l5:=match x with
 | .ok a r=>g a r
 | .bad e l=>.bad e l
 | .out=>.out
def aC (l:List Tok):Tok:=l.headD (me 0)
def dk (s:aD) (t:Tok):Bool:=t.text == s && (t.kind == 2 || t.kind == 4)
def binOp (t:Tok):Int:=match (List.range' 1 14).find? (fun o=>dk (eU (o:Nat)) t) with | some o=>(o:Int) | none=>0
def unOp (t:Tok):Int:=match (List.range' 15 3).find? (fun o=>dk (eU (o:Nat)) t) with | some o=>(o:Int) | none=>0
def tM:Int:=70
def Fc:Int:=71
def mP (s:aD) (l:List Tok):PR Unit:=if dk s (aC l) then .ok () l.tail else .bad tM (aC l).line
mutual
def nT:Nat→Nat→List Tok→PR aX
 | 0,_,_=>.out
 | f + 1,deep,l =>
  if 1000 < deep then .bad Fc 1
  else if unOp (aC l)≠0 then (nT f (deep + 1) l.tail).bind fun a r=>.ok (.mk 3 (unOp (aC l)) 0 [] [a]) r
  else if dk [40] (aC l) then (lB f 1 (deep + 1) l.tail).bind fun e r=>(mP [41] r).bind fun _ r=>.ok e r
  else if (aC l).kind=3 then .ok (.mk 1 0 (aC l).n [] []) l.tail
  else if (aC l).kind≠1 then .bad tM (aC l).line
  else if dk [91] (aC l.tail) then (lB f 1 (deep + 1) l.tail.tail).bind fun e r=>(mP [93] r).bind fun _ r=>.ok (.mk 5 0 0 (aC l).text [e]) r
  else .ok (.mk 2 0 0 (aC l).text []) l.tail
def lB:Nat→Nat→Nat→List Tok→PR aX
 | 0,_,_,_=>.out
 | f + 1,dz,deep,l=>(nT f deep l).bind fun e r=>qc f e dz deep r
def qc:Nat→aX→Nat→Nat→List Tok→PR aX
 | 0,_,_,_,_=>.out
 | f + 1,e,dz,deep,l =>
  if cy (binOp (aC l))=0∨cy (binOp (aC l)) < dz then .ok e l
  else (lB f (cy (binOp (aC l)) + 1) deep l.tail).bind fun b r=>qc f (.mk 4 (binOp (aC l)) 0 [] [e,b]) dz deep r
end
def tB (deep:Nat) (l:List Tok) (e:aX) (r:List Tok):Prop:=∃ f0,∀ f,f0≤f→nT f deep l = .ok e r
def wm (dz deep:Nat) (l:List Tok) (e:aX) (r:List Tok):Prop:=∃ f0,∀ f,f0≤f→lB f dz deep l = .ok e r
def Cr (e:aX) (dz deep:Nat) (l:List Tok) (x:aX) (r:List Tok):Prop:=∃ f0,∀ f,f0≤f→qc f e dz deep l = .ok x r
theorem VL {dz deep:Nat}{l r dL : List Tok}{e x:aX}(A:tB deep l e r) (S:Cr e dz deep r x dL):wm dz deep l x dL:=by
 obtain ⟨a,A⟩:=A;obtain ⟨b,S⟩:=S;refine ⟨max a b + 1,fun f aZ=>?_⟩;obtain ⟨f,rfl⟩:∃ g,f=g + 1:=⟨f - 1,by omega⟩;rw [lB,A f (by omega)];exact S f (by omega)
theorem EF {e:aX}{dz deep:Nat}{l:List Tok}(h:cy (binOp (aC l))=0∨cy (binOp (aC l)) < dz):Cr e dz deep l e l:=by
 refine ⟨1,fun f aZ=>?_⟩;obtain ⟨f,rfl⟩:∃ g,f=g + 1:=⟨f - 1,by omega⟩;rw [qc,if_pos h]
theorem aeO {e b x:aX}{o:Int}{dz deep:Nat}{t:Tok}{l r dL : List Tok}(ah:binOp t=o) (hp:cy o≠0) (ag:dz≤cy o) (A:wm (cy o + 1) deep l b r) (S:Cr (.mk 4 o 0 [] [e,b]) dz deep r x dL):Cr e dz deep (t::l) x dL:=by
 obtain ⟨a,A⟩:=A;obtain ⟨c,S⟩:=S;refine ⟨max a c + 1,fun f aZ=>?_⟩;obtain ⟨f,rfl⟩:∃ g,f=g + 1:=⟨f - 1,by omega⟩;rw [qc,show aC (t::l)=t from rfl,ah,if_neg (by omega),List.tail_cons,A f (by omega)];exact S f (by omega)
theorem aeS {deep:Nat}{t:Tok}{l r:List Tok}{a:aX}{o:Int}(k6:deep≤1000) (ah:unOp t=o) (hp:o≠0) (A:tB (deep + 1) l a r):tB deep (t::l) (.mk 3 o 0 [] [a]) r:=by
 obtain ⟨c,A⟩:=A;refine ⟨c + 1,fun f aZ=>?_⟩;obtain ⟨f,rfl⟩:∃ g,f=g + 1:=⟨f - 1,by omega⟩;rw [nT,if_neg (by omega),show aC (t::l)=t from rfl,ah,if_pos hp,List.tail_cons,A f (by omega)];rfl
theorem aeR {deep:Nat}{m:Int}{l r:List Tok}{e:aX}(k6:deep≤1000) (A:wm 1 (deep + 1) l e (bD [41] m::r)):tB deep (bD [40] m::l) e r:=by
 obtain ⟨c,A⟩:=A;refine ⟨c + 1,fun f aZ=>?_⟩;obtain ⟨f,rfl⟩:∃ g,f=g + 1:=⟨f - 1,by omega⟩;have u:unOp (bD [40] m)=0:=rfl;have i:dk [40] (bD [40] m)=true:=rfl;rw [nT,if_neg (by omega),show aC (bD [40] m::l)=bD [40] m from rfl,u,if_neg (by simp),if_pos i,List.tail_cons,A f (by omega)];rfl
theorem aec (s:aD) (m:Int):unOp (fY s m)=0∧dk [40] (fY s m)=false:=by
 have:∀ x,dk x (fY s m)=false:=fun x=>by simp [dk,fY]
 exact ⟨by unfold unOp;simp only [this];rfl,this _⟩
theorem aqZ (n:Nat) (m:Int):unOp (kV n m)=0∧dk [40] (kV n m)=false:=by
 have:∀ x,dk x (kV n m)=false:=fun x=>by simp [dk,kV]
 exact ⟨by unfold unOp;simp only [this];rfl,this _⟩
theorem aeQ {deep n:Nat}{m:Int}{l:List Tok}(k6:deep≤1000):tB deep (kV n m::l) (.mk 1 0 n [] []) l:=by
 refine ⟨1,fun f aZ=>?_⟩;obtain ⟨f,rfl⟩:∃ g,f=g + 1:=⟨f - 1,by omega⟩;obtain ⟨u,i⟩:=aqZ n m;rw [nT,if_neg (by omega),show aC (kV n m::l)=kV n m from rfl,u,if_neg (by simp),i,if_neg (by simp),if_pos (show (kV n m).kind=3 from rfl)];rfl
theorem aeT {deep:Nat}{s:aD}{m:Int}{l:List Tok}(k6:deep≤1000) (T:dk [91] (aC l)=false):tB deep (fY s m::l) (.mk 2 0 0 s []) l:=by
 refine ⟨1,fun f aZ=>?_⟩;obtain ⟨f,rfl⟩:∃ g,f=g + 1:=⟨f - 1,by omega⟩;obtain ⟨u,i⟩:=aec s m;have k:(fY s m).kind=1:=rfl;rw [nT,if_neg (by omega),show aC (fY s m::l)=fY s m from rfl,u,if_neg (by simp),i,if_neg (by simp),k,if_neg (by decide),if_neg (by simp),List.tail_cons,T];rfl
theorem aeP {deep:Nat}{s:aD}{m:Int}{l r:List Tok}{e:aX}(k6:deep≤1000) (A:wm 1 (deep + 1) l e (bD [93] m::r)):tB deep (fY s m::bD [91] m::l) (.mk 5 0 0 s [e]) r:=by
 obtain ⟨c,A⟩:=A;refine ⟨c + 1,fun f aZ=>?_⟩;obtain ⟨f,rfl⟩:∃ g,f=g + 1:=⟨f - 1,by omega⟩;obtain ⟨u,i⟩:=aec s m;have k:(fY s m).kind=1:=rfl;have T:dk [91] (bD [91] m)=true:=rfl;rw [nT,if_neg (by omega),show aC (fY s m::bD [91] m::l)=fY s m from rfl,u,if_neg (by simp),i,if_neg (by simp),k,if_neg (by decide),if_neg (by simp),List.tail_cons,show aC (bD [91] m::l)=bD [91] m from rfl,if_pos T,List.tail_cons,A f (by omega)];rfl
theorem WL:∀ (o m:Int),1≤o∧o≤14→binOp (bD (eU o) m)=o:=by
 intro o m h;have:o=1∨o=2∨o=3∨o=4∨o=5∨o=6∨o=7∨o=8∨o=9∨o=10∨o=11∨o=12∨o=13∨o=14:=by omega
 rcases this with rfl | rfl | rfl | rfl | rfl | rfl | rfl | rfl | rfl | rfl | rfl | rfl | rfl | rfl<;>rfl
theorem ar0:∀ (o m:Int),15≤o∧o≤17→unOp (bD (eU o) m)=o:=by
 intro o m h;have:o=15∨o=16∨o=17:=by omega
 rcases this with rfl | rfl | rfl<;>rfl
def xt (e:aX):Nat:=if e.kind=4 then cy e.op else 9
def HC (l:List Tok):Nat:=cy (binOp (aC l))
def q1 (l:List Tok):Prop:=dk [91] (aC l)=false
def EI (e:aX) (d:Nat):Prop:=∀ (deep:Nat) (m:Int) (dz:Nat) (l:List Tok) (x:aX) (r:List Tok),deep + 2 * d≤1000→dz≤xt e→q1 l→HC l≤xt e→Cr e dz deep l x r→wm dz deep (fo m e++l) x r
def Al (e:aX) (d:Nat):Prop:=e.kind≠4 → ∀ (deep:Nat) (m:Int) (l:List Tok),deep + 2 * d≤1000→q1 l→tB deep (fo m e++l) e l
theorem aaR (o:Int):cy o≤8:=by
 unfold cy
 (repeat' split)<;>omega
theorem TX {e:aX}{d:Nat}(h:e1 e d):1≤xt e:=by
 cases h with
 | two o a b d h ai T =>
  have:=Hy.2 h;show 1≤(if (4:Int)=4 then cy o else 9);rw [if_pos rfl];exact this
 | _=>simp [xt,aX.kind]
theorem HD (g:aD) (aA:g=[41]∨g=[93]∨g=[59]) (m:Int) (l:List Tok):HC (bD g m::l)=0∧q1 (bD g m::l):=by
 rcases aA with rfl | rfl | rfl<;>exact ⟨rfl,rfl⟩
theorem alm (o m:Int) (h:1≤o∧o≤14) (l:List Tok):q1 (bD (eU o) m::l):=by
 have:o=1∨o=2∨o=3∨o=4∨o=5∨o=6∨o=7∨o=8∨o=9∨o=10∨o=11∨o=12∨o=13∨o=14:=by omega
 rcases this with rfl | rfl | rfl | rfl | rfl | rfl | rfl | rfl | rfl | rfl | rfl | rfl | rfl | rfl<;>rfl
theorem abW {e:aX}{d:Nat}(aK:e1 e d) (dW:EI e d){deep:Nat}{m:Int}{l:List Tok}(h:deep + 2 * d + 1≤1000):tB deep (bD [40] m::(fo m e++[bD [41] m])++l) e l:=by
 have az:bD [40] m::(fo m e++[bD [41] m])++l=bD [40] m::(fo m e++(bD [41] m::l)):=by simp
 rw [az];obtain ⟨bk,bJ⟩:=HD [41] (.inl rfl) m l;exact aeR (by omega) (dW (deep + 1) m 1 (bD [41] m::l) e _ (by omega) (TX aK) bJ (by rw [bk];omega) (EF (.inl bk)))
theorem aeE {e:aX}{d:Nat}(aK:e1 e d) (dW:EI e d){k dz deep:Nat}{m:Int}{l r:List Tok}{x:aX}(h:deep + 2 * d + 1≤1000) (ab:k≤9) (ag:dz≤k) (hn:q1 l) (ad:HC l≤k) (bg:Cr e dz deep l x r):wm dz deep (pJ m e k (fo m e)++l) x r:=by
 unfold pJ;split
 ·exact VL (abW aK dW h) bg
 ·rename_i aj;have bX:k≤xt e:=by
   unfold xt;split
   ·rename_i aB;have:¬ cy e.op < k:=fun h=>aj ⟨aB,h⟩;omega
   ·exact ab
  exact dW deep m dz l x r (by omega) (by omega) hn (by omega) bg
theorem aro {e:aX}{d:Nat}(aK:e1 e d) (dW:EI e d) (cM:Al e d){deep:Nat}{m:Int}{l:List Tok}(h:deep + 2 * d + 1≤1000) (hn:q1 l):tB deep (pJ m e 9 (fo m e)++l) e l:=by
 unfold pJ;split
 ·exact abW aK dW h
 ·rename_i aj;have aB:e.kind≠4:=fun aB=>aj ⟨aB,by have:=aaR e.op;omega⟩;exact cM aB deep m l (by omega) hn
theorem ID {e:aX}{d:Nat}(ab:e.kind≠4) (cM:Al e d):EI e d:=fun deep m dz l x r h ag hn ad bg=>VL (cM ab deep m l h hn) bg
theorem acw {e:aX}{d:Nat}(h:e1 e d):EI e d∧Al e d:=by
 induction h with
 | num n d h =>
  have cM:Al (.mk 1 0 n [] []) (d + 1):=fun _ deep m l aC _=>aeQ (n:=n) (by omega);exact ⟨ID (by simp [aX.kind]) cM,cM⟩
 | var s d h =>
  have cM:Al (.mk 2 0 0 s []) (d + 1):=fun _ deep m l aC hn=>aeT (by omega) hn;exact ⟨ID (by simp [aX.kind]) cM,cM⟩
 | one o a d h ai ih =>
  have cM:Al (.mk 3 o 0 [] [a]) (d + 1):=fun _ deep m l aC hn=>aeS (by omega) (ar0 o m h) (by omega) (aro ai ih.1 ih.2 (by omega) hn);exact ⟨ID (by simp [aX.kind]) cM,cM⟩
 | idx s a d h ai ih =>
  have cM:Al (.mk 5 0 0 s [a]) (d + 1):=fun _ deep m l aC hn=>by
   show tB deep (fY s m::bD [91] m::(fo m a++[bD [93] m])++l) _ l;have az:fY s m::bD [91] m::(fo m a++[bD [93] m])++l=fY s m::bD [91] m::(fo m a++(bD [93] m::l)):=by simp
   rw [az];obtain ⟨bk,bJ⟩:=HD [93] (.inr (.inl rfl)) m l;exact aeP (by omega) (ih.1 (deep + 1) m 1 (bD [93] m::l) a _ (by omega) (TX ai) bJ (by rw [bk];omega) (EF (.inl bk)))
  exact ⟨ID (by simp [aX.kind]) cM,cM⟩
 | two o a b d h ai T zu DI =>
  refine ⟨fun deep m dz l x r aC ag hn ad bg=>?_,fun ab=>absurd rfl ab⟩;have Sm:xt (.mk 4 o 0 [] [a,b])=cy o:=rfl;rw [Sm] at ag ad;have b7:=aaR o;have hp:=Hy.2 h;show wm dz deep ((pJ m a (cy o) (fo m a)++bD (eU o) m::pJ m b (cy o + 1) (fo m b))++l) x r;rw [List.append_assoc,List.cons_append];refine aeE ai zu.1 (by omega) (by omega) ag (alm o m h _) ?_ ?_
  ·show cy (binOp (bD (eU o) m))≤cy o;rw [WL o m h];exact Nat.le_refl _
  ·refine aeO (WL o m h) (by omega) ag (aeE T DI.1 (by omega) (by omega) (Nat.le_refl _) hn (by omega) (EF ?_)) bg;have:HC l < cy o + 1:=by omega
   exact .inr this
def im (k:Int) (l:List Tok):PR Tok:=if (aC l).kind=k then .ok (aC l) (if k=5 then l else l.tail) else .bad tM (aC l).line
def tq (f deep:Nat) (k:Int) (m:aD) (n:Int) (xs:List aX) (l:List Tok):PR aP :=
 (mP [61] l).bind fun _ r =>
  if k=1∧(aC r).kind=1∧(aC r.tail).text=[46] then (im 1 r).bind fun g r=>(mP [46] r).bind fun _ r=>(im 3 r).bind fun i r=>.ok (.mk 2 m g.text i.n [] [] []) r
  else (lB f 1 deep r).bind fun e r=>.ok (.mk k m [] n (xs++[e]) [] []) r
def uH (f deep:Nat) (m:aD) (l:List Tok):PR aP :=
 if dk [46] (aC l) then (im 3 l.tail).bind fun i r=>tq f deep 3 m i.n [] r
 else if dk [91] (aC l) then (lB f 1 (deep + 1) l.tail).bind fun e r=>(mP [93] r).bind fun _ r=>tq f deep 4 m 0 [e] r
 else tq f deep 1 m 0 [] l
mutual
def pE:Nat→Nat→List Tok→PR aP
 | 0,_,_=>.out
 | f + 1,deep,l =>
  if dk [105,102] (aC l) then (mP [40] l.tail).bind fun _ r=>(lB f 1 (deep + 1) r).bind fun e r=>(mP [41] r).bind fun _ r=>(jL f (deep + 1) r).bind fun t r =>
   if dk [101,108,115,101] (aC r) then (jL f (deep + 1) r.tail).bind fun x r=>.ok (.mk 6 [] [] 0 [e] t x) r else .ok (.mk 6 [] [] 0 [e] t []) r
  else if dk [108,111,99,107] (aC l) then (im 1 l.tail).bind fun n r=>(jL f (deep + 1) r).bind fun t r=>.ok (.mk 5 n.text [] 0 [] t []) r
  else if dk [114,101,112,101,97,116] (aC l) then (im 3 l.tail).bind fun n r=>(jL f (deep + 1) r).bind fun t r=>.ok (.mk 7 [] [] n.n [] t []) r
  else if dk [104,97,108,116] (aC l) then (mP [59] l.tail).bind fun _ r=>.ok (.mk 8 [] [] 0 [] [] []) r
  else (im 1 l).bind fun n r=>(uH f deep n.text r).bind fun s r=>(mP [59] r).bind fun _ r=>.ok s r
def jL:Nat→Nat→List Tok→PR (List aP)
 | 0,_,_=>.out
 | f + 1,deep,l=>(mP [123] l).bind fun _ r=>if 1000 < deep then .bad Fc 1 else pF f deep r
def pF:Nat→Nat→List Tok→PR (List aP)
 | 0,_,_=>.out
 | f + 1,deep,l=>if dk [125] (aC l) then .ok [] l.tail else (pE f deep l).bind fun s r=>(pF f deep r).bind fun et r=>.ok (s::et) r
end
def ne (l:List Tok):Prop:=dk [101,108,115,101] (aC l)=false
def BU (l:List Tok):PR Nm:=(im 1 l).bind fun n r =>
 if dk [117,97,114,116] (aC r) then .ok ⟨n.text,1⟩ r.tail else if dk [116,105,109,101,114] (aC r) then .ok ⟨n.text,2⟩ r.tail else if dk [103,112,105,111] (aC r) then .ok ⟨n.text,3⟩ r.tail else .bad tM (aC r).line
def oT:Nat→List Tok→PR (List Nm)
 | 0,_=>.out
 | f + 1,l=>if dk [100,101,118,105,99,101] (aC l) then (BU l.tail).bind fun d r=>(oT f r).bind fun bG r=>.ok (d::bG) r else .ok [] l
def mS:Nat→List Tok→PR (List Nm)
 | 0,_=>.out
 | f + 1,l=>if dk [114,101,115,111,117,114,99,101] (aC l) then (im 1 l.tail).bind fun n r=>(im 3 r).bind fun k r=>(mS f r).bind fun bG r=>.ok (⟨n.text,k.n⟩::bG) r else .ok [] l
def vR (f:Nat) (h:Bool) (l:List Tok):PR dO:=(im 1 l).bind fun n r=>(im 3 r).bind fun a r=>(im 3 r).bind fun p r =>
 if h then (im 3 r).bind fun i r=>(jL f 1 r).bind fun b r=>.ok ⟨n.text,true,a.n,p.n,i.n,b⟩ r else (jL f 1 r).bind fun b r=>.ok ⟨n.text,false,a.n,p.n,0,b⟩ r
def nu:Nat→List Tok→PR (List dO)
 | 0,_=>.out
 | f + 1,l=>if dk [104,97,110,100,108,101,114] (aC l) then (vR f true l.tail).bind fun t r=>(nu f r).bind fun ts r=>.ok (t::ts) r
  else if dk [116,97,115,107] (aC l) then (vR f false l.tail).bind fun t r=>(nu f r).bind fun ts r=>.ok (t::ts) r else .ok [] l
def BX (f:Nat) (l:List Tok):PR gS:=(mP [104,97,114,116,115] l).bind fun _ r=>(im 3 r).bind fun h r=>(oT f r).bind fun bG r=>(mS f r).bind fun b3 r=>(nu f r).bind fun ts r=>.ok ⟨h.n,bG,b3,ts⟩ r
theorem PR.hc {c1 l5:Type}{x:PR c1}{g:c1→List Tok→PR l5}{b:l5}{dL : List Tok}(h:x.bind g = .ok b dL):∃ a r,x = .ok a r∧g a r = .ok b dL:=by
 cases x with
 | ok a r=>exact ⟨a,r,rfl,h⟩
 | bad e l=>cases h
 | out=>cases h
theorem PR.fy {c1 l5:Type}{x:PR c1}{g:c1→List Tok→PR l5}(af:x ≠ .out) (aA:∀ a r,x = .ok a r→g a r ≠ .out):x.bind g ≠ .out:=by
 cases x with
 | ok a r=>exact aA a r rfl
 | bad e l=>intro h;cases h
 | out=>exact absurd rfl af
theorem hM {l:List Tok}(h:(aC l).kind≠5):l.tail.length < l.length:=by
 cases l with
 | nil=>exact absurd rfl h
 | cons t r=>simp
theorem iZ {s:aD}{t:Tok}(h:dk s t=true):t.kind≠5:=by
 simp only [dk,Bool.and_eq_true,Bool.or_eq_true,beq_iff_eq] at h;omega
theorem oS {s:aD}{l r:List Tok}{u:Unit}(h:mP s l = .ok u r):r.length < l.length∧r=l.tail:=by
 unfold mP at h;split at h
 ·rename_i aj;cases h;exact ⟨hM (iZ aj),rfl⟩
 ·cases h
theorem uA (s:aD) (l:List Tok):mP s l ≠ .out:=by
 unfold mP;split<;>(intro h;cases h)
theorem zP {n k:Nat}{t:Tok}(h:(match (List.range' n k).find? (fun o=>dk (eU (o:Nat)) t) with | some o=>(o:Int) | none=>0)≠0):t.kind≠5:=by
 cases aZ:(List.range' n k).find? (fun o=>dk (eU (o:Nat)) t) with
 | none=>rw [aZ] at h;exact absurd rfl h
 | some o =>
  have:=List.find?_some aZ;exact iZ (s:=eU (o:Nat)) this
theorem BY:∀ f:Nat,(∀ deep l e r,nT f deep l = .ok e r→r.length < l.length)∧(∀ dz deep l e r,lB f dz deep l = .ok e r→r.length < l.length)∧(∀ x dz deep l e r,qc f x dz deep l = .ok e r→r.length≤l.length)
 | 0=>⟨fun _ _ _ _ h=>(by rw [nT] at h;cases h),fun _ _ _ _ _ h=>(by rw [lB] at h;cases h),fun _ _ _ _ _ _ h=>(by rw [qc] at h;cases h)⟩
 | f + 1=>by
  obtain ⟨A,S,ae⟩:=BY f;refine ⟨fun deep l e r h=>?_,fun dz deep l e r h=>?_,fun x dz deep l e r h=>?_⟩
  ·rw [nT] at h;split at h
   ·cases h
   split at h
   ·rename_i aj;obtain ⟨a,cn,g1,g2⟩:=PR.hc h;cases g2;have:=A _ _ _ _ g1;have:=hM (zP (n:=15) (k:=3) aj);omega
   split at h
   ·rename_i aj;obtain ⟨a,cn,g1,g2⟩:=PR.hc h;obtain ⟨b,bM,g3,g4⟩:=PR.hc g2;cases g4;have:=S _ _ _ _ _ g1;have:=(oS g3).1;have:=hM (iZ aj);omega
   split at h
   ·rename_i aj;cases h;exact hM (by omega)
   split at h
   ·cases h
   rename_i aj;have ab:(aC l).kind≠5:=by omega
   have H:=hM ab;split at h
   ·rename_i T;obtain ⟨a,cn,g1,g2⟩:=PR.hc h;obtain ⟨b,bM,g3,g4⟩:=PR.hc g2;cases g4;have:=S _ _ _ _ _ g1;have:=(oS g3).1;have:=hM (iZ T);omega
   ·cases h;exact H
  ·rw [lB] at h;obtain ⟨a,cn,g1,g2⟩:=PR.hc h;have:=A _ _ _ _ g1;have:=ae _ _ _ _ _ _ g2;omega
  ·rw [qc] at h;split at h
   ·cases h;exact Nat.le_refl _
   ·rename_i aj;obtain ⟨a,cn,g1,g2⟩:=PR.hc h;have h0:binOp (aC l)≠0:=fun e=>aj (.inl (by rw [e];rfl));have:=S _ _ _ _ _ g1;have:=ae _ _ _ _ _ _ g2;have:=hM (zP (n:=1) (k:=14) h0);omega
theorem H3:∀ f:Nat,(∀ deep l,3 * l.length + 1≤f→nT f deep l ≠ .out)∧(∀ dz deep l,3 * l.length + 2≤f→lB f dz deep l ≠ .out)∧(∀ x dz deep l,3 * l.length + 1≤f→qc f x dz deep l ≠ .out)
 | 0=>⟨fun _ _ h=>(by omega),fun _ _ _ h=>(by omega),fun _ _ _ _ h=>(by omega)⟩
 | f + 1=>by
  obtain ⟨A,S,ae⟩:=H3 f;obtain ⟨ck,cm,cb⟩:=BY f;refine ⟨fun deep l h=>?_,fun dz deep l h=>?_,fun x dz deep l h=>?_⟩
  ·rw [nT];split
   ·intro h;cases h
   split
   ·rename_i aj;have:=hM (zP (n:=15) (k:=3) aj);exact PR.fy (A _ _ (by omega)) fun _ _ _ h=>by cases h
   split
   ·rename_i aj;have:=hM (iZ aj);exact PR.fy (S _ _ _ (by omega)) fun _ _ _=>PR.fy (uA _ _) fun _ _ _ h=>by cases h
   split
   ·intro h;cases h
   split
   ·intro h;cases h
   rename_i aj;have ab:(aC l).kind≠5:=by omega
   have H:=hM ab;split
   ·rename_i T;have:=hM (iZ T);exact PR.fy (S _ _ _ (by omega)) fun _ _ _=>PR.fy (uA _ _) fun _ _ _ h=>by cases h
   ·intro h;cases h
  ·rw [lB];exact PR.fy (A _ _ (by omega)) fun a r g=>ae _ _ _ _ (by have:=ck _ _ _ _ g;omega)
  ·rw [qc];split
   ·intro h;cases h
   ·rename_i aj;have h0:binOp (aC l)≠0:=fun e=>aj (.inl (by rw [e];rfl));have:=hM (zP (n:=1) (k:=14) h0);exact PR.fy (S _ _ _ (by omega)) fun a r g=>ae _ _ _ _ (by have:=cm _ _ _ _ _ g;omega)
theorem kQ {k:Int}{l r:List Tok}{t:Tok}(aG:k≠5) (h:im k l = .ok t r):r.length < l.length∧t=aC l∧r=l.tail:=by
 unfold im at h;split at h
 ·rename_i ab;cases h;exact ⟨hM (by omega),rfl,rfl⟩
 ·cases h
theorem rL (k:Int) (l:List Tok):im k l ≠ .out:=by
 unfold im;split<;>(intro h;cases h)
theorem UN {f deep:Nat}{k n:Int}{m:aD}{xs:List aX}{l r:List Tok}{s:aP}(h:tq f deep k m n xs l = .ok s r):r.length < l.length:=by
 unfold tq at h;obtain ⟨_,cn,g1,h⟩:=PR.hc h;have:=(oS g1).1;split at h
 ·obtain ⟨_,bM,g2,h⟩:=PR.hc h;obtain ⟨_,cE,g3,h⟩:=PR.hc h;obtain ⟨_,eb,g4,h⟩:=PR.hc h;cases h;have:=(kQ (by decide) g2).1;have:=(oS g3).1;have:=(kQ (by decide) g4).1;omega
 ·obtain ⟨_,bM,g2,h⟩:=PR.hc h;cases h;have:=(BY f).2.1 _ _ _ _ _ g2;omega
theorem UM {f deep:Nat}{k n:Int}{m:aD}{xs:List aX}{l:List Tok}(aZ:3 * l.length≤f + 1):tq f deep k m n xs l ≠ .out:=by
 unfold tq;refine PR.fy (uA _ _) fun _ r g=>?_;have:=(oS g).1;split
 ·exact PR.fy (rL _ _) fun _ _ _=>PR.fy (uA _ _) fun _ _ _=>PR.fy (rL _ _) fun _ _ _ h=>by cases h
 ·exact PR.fy ((H3 f).2.1 _ _ _ (by omega)) fun _ _ _ h=>by cases h
theorem alh {f deep:Nat}{m:aD}{l r:List Tok}{s:aP}(h:uH f deep m l = .ok s r):r.length < l.length:=by
 unfold uH at h;split at h
 ·rename_i aj;obtain ⟨_,cn,g1,h⟩:=PR.hc h;have:=(kQ (by decide) g1).1;have:=hM (iZ aj);have:=UN h;omega
 split at h
 ·rename_i aj;obtain ⟨_,cn,g1,h⟩:=PR.hc h;obtain ⟨_,bM,g2,h⟩:=PR.hc h;have:=(BY f).2.1 _ _ _ _ _ g1;have:=(oS g2).1;have:=hM (iZ aj);have:=UN h;omega
 ·exact UN h
theorem alg {f deep:Nat}{m:aD}{l:List Tok}(aZ:3 * l.length≤f + 1):uH f deep m l ≠ .out:=by
 unfold uH;split
 ·rename_i aj;have:=hM (iZ aj);exact PR.fy (rL _ _) fun _ r g=>UM (by have:=(kQ (by decide) g).1;omega)
 split
 ·rename_i aj;have:=hM (iZ aj);exact PR.fy ((H3 f).2.1 _ _ _ (by omega)) fun _ r g=>PR.fy (uA _ _) fun _ bM g2=>UM (by have:=(BY f).2.1 _ _ _ _ _ g;have:=(oS g2).1;omega)
 ·exact UM aZ
theorem Ia:∀ f:Nat,(∀ deep l e r,pE f deep l = .ok e r→r.length < l.length)∧(∀ deep l e r,jL f deep l = .ok e r→r.length < l.length)∧(∀ deep l e r,pF f deep l = .ok e r→r.length < l.length)
 | 0=>⟨fun _ _ _ _ h=>(by rw [pE] at h;cases h),fun _ _ _ _ h=>(by rw [jL] at h;cases h),fun _ _ _ _ h=>(by rw [pF] at h;cases h)⟩
 | f + 1=>by
  obtain ⟨A,S,ae⟩:=Ia f;have af:=(BY f).2.1;refine ⟨fun deep l e r h=>?_,fun deep l e r h=>?_,fun deep l e r h=>?_⟩
  ·rw [pE] at h;split at h
   ·rename_i aj;have:=hM (iZ aj);obtain ⟨_,cn,g1,h⟩:=PR.hc h;obtain ⟨_,bM,g2,h⟩:=PR.hc h;obtain ⟨_,cE,g3,h⟩:=PR.hc h;obtain ⟨_,eb,g4,h⟩:=PR.hc h;have:=(oS g1).1;have:=af _ _ _ _ _ g2;have:=(oS g3).1;have:=S _ _ _ _ g4;split at h
    ·rename_i aK;have:=hM (iZ aK);obtain ⟨_,gn,g5,h⟩:=PR.hc h;cases h;have:=S _ _ _ _ g5;omega
    ·cases h;omega
   split at h
   ·rename_i aj;have:=hM (iZ aj);obtain ⟨_,cn,g1,h⟩:=PR.hc h;obtain ⟨_,bM,g2,h⟩:=PR.hc h;cases h;have:=(kQ (by decide) g1).1;have:=S _ _ _ _ g2;omega
   split at h
   ·rename_i aj;have:=hM (iZ aj);obtain ⟨_,cn,g1,h⟩:=PR.hc h;obtain ⟨_,bM,g2,h⟩:=PR.hc h;cases h;have:=(kQ (by decide) g1).1;have:=S _ _ _ _ g2;omega
   split at h
   ·rename_i aj;have:=hM (iZ aj);obtain ⟨_,cn,g1,h⟩:=PR.hc h;cases h;have:=(oS g1).1;omega
   ·obtain ⟨_,cn,g1,h⟩:=PR.hc h;obtain ⟨_,bM,g2,h⟩:=PR.hc h;obtain ⟨_,cE,g3,h⟩:=PR.hc h;cases h;have:=(kQ (by decide) g1).1;have:=alh g2;have:=(oS g3).1;omega
  ·rw [jL] at h;obtain ⟨_,cn,g1,h⟩:=PR.hc h;have:=(oS g1).1;split at h
   ·cases h
   ·have:=ae _ _ _ _ h;omega
  ·rw [pF] at h;split at h
   ·rename_i aj;cases h;exact hM (iZ aj)
   ·obtain ⟨_,cn,g1,h⟩:=PR.hc h;obtain ⟨_,bM,g2,h⟩:=PR.hc h;cases h;have:=A _ _ _ _ g1;have:=ae _ _ _ _ g2;omega
theorem UX:∀ f:Nat,(∀ deep l,3 * l.length + 1≤f→pE f deep l ≠ .out)∧(∀ deep l,3 * l.length + 1≤f→jL f deep l ≠ .out)∧(∀ deep l,3 * l.length + 2≤f→pF f deep l ≠ .out)
 | 0=>⟨fun _ _ h=>(by omega),fun _ _ h=>(by omega),fun _ _ h=>(by omega)⟩
 | f + 1=>by
  obtain ⟨A,S,ae⟩:=UX f;obtain ⟨ck,cm,cb⟩:=Ia f;have af:=(H3 f).2.1;have TS:=(BY f).2.1;refine ⟨fun deep l aZ=>?_,fun deep l aZ=>?_,fun deep l aZ=>?_⟩
  ·rw [pE];split
   ·rename_i aj;have:=hM (iZ aj);refine PR.fy (uA _ _) fun _ cn g1=>?_;have:=(oS g1).1;refine PR.fy (af _ _ _ (by omega)) fun _ bM g2=>?_;have:=TS _ _ _ _ _ g2;refine PR.fy (uA _ _) fun _ cE g3=>?_;have:=(oS g3).1;refine PR.fy (S _ _ (by omega)) fun _ eb g4=>?_;have:=cm _ _ _ _ g4;split
    ·rename_i aK;have:=hM (iZ aK);exact PR.fy (S _ _ (by omega)) fun _ _ _ h=>by cases h
    ·intro h;cases h
   split
   ·rename_i aj;have:=hM (iZ aj);refine PR.fy (rL _ _) fun _ cn g1=>?_;have:=(kQ (by decide) g1).1;exact PR.fy (S _ _ (by omega)) fun _ _ _ h=>by cases h
   split
   ·rename_i aj;have:=hM (iZ aj);refine PR.fy (rL _ _) fun _ cn g1=>?_;have:=(kQ (by decide) g1).1;exact PR.fy (S _ _ (by omega)) fun _ _ _ h=>by cases h
   split
   ·exact PR.fy (uA _ _) fun _ _ _ h=>by cases h
   ·refine PR.fy (rL _ _) fun _ cn g1=>?_;have:=(kQ (by decide) g1).1;exact PR.fy (alg (by omega)) fun _ _ _=>PR.fy (uA _ _) fun _ _ _ h=>by cases h
  ·rw [jL];refine PR.fy (uA _ _) fun _ cn g1=>?_;have:=(oS g1).1;split
   ·intro h;cases h
   ·exact ae _ _ (by omega)
  ·rw [pF];split
   ·intro h;cases h
   ·refine PR.fy (A _ _ (by omega)) fun _ cn g1=>?_;have:=ck _ _ _ _ g1;exact PR.fy (ae _ _ (by omega)) fun _ _ _ h=>by cases h
theorem QX {l r:List Tok}{d:Nm}(h:BU l = .ok d r):r.length < l.length:=by
 unfold BU at h;obtain ⟨_,cn,g1,h⟩:=PR.hc h;have:=(kQ (by decide) g1).1;split at h
 ·rename_i aj;cases h;have:=hM (iZ aj);omega
 split at h
 ·rename_i aj;cases h;have:=hM (iZ aj);omega
 split at h
 ·rename_i aj;cases h;have:=hM (iZ aj);omega
 ·cases h
theorem ahb (l:List Tok):BU l ≠ .out:=by
 unfold BU;refine PR.fy (rL _ _) fun _ cn g1=>?_
 (repeat' split)<;>(intro h;cases h)
theorem X8:∀ (f:Nat) (l r:List Tok) (bG:List Nm),oT f l = .ok bG r→r.length≤l.length
 | 0,l,r,bG,h=>by cases h
 | f + 1,l,r,bG,h=>by
  rw [oT] at h;split at h
  ·rename_i aj;obtain ⟨_,cn,g1,h⟩:=PR.hc h;obtain ⟨_,bM,g2,h⟩:=PR.hc h;cases h;have:=hM (iZ aj);have:=QX g1;have:=X8 f _ _ _ g2;omega
  ·cases h;exact Nat.le_refl _
theorem X7:∀ (f:Nat) (l:List Tok),l.length < f→oT f l ≠ .out
 | 0,l,h=>by omega
 | f + 1,l,h=>by
  rw [oT];split
  ·rename_i aj;have:=hM (iZ aj);refine PR.fy (ahb _) fun _ cn g1=>?_;have:=QX g1;exact PR.fy (X7 f _ (by omega)) fun _ _ _ h=>by cases h
  ·intro h;cases h
theorem acL:∀ (f:Nat) (l r:List Tok) (bG:List Nm),mS f l = .ok bG r→r.length≤l.length
 | 0,l,r,bG,h=>by cases h
 | f + 1,l,r,bG,h=>by
  rw [mS] at h;split at h
  ·rename_i aj;obtain ⟨_,cn,g1,h⟩:=PR.hc h;obtain ⟨_,bM,g2,h⟩:=PR.hc h;obtain ⟨_,cE,g3,h⟩:=PR.hc h;cases h;have:=hM (iZ aj);have:=(kQ (by decide) g1).1;have:=(kQ (by decide) g2).1;have:=acL f _ _ _ g3;omega
  ·cases h;exact Nat.le_refl _
theorem acK:∀ (f:Nat) (l:List Tok),l.length < f→mS f l ≠ .out
 | 0,l,h=>by omega
 | f + 1,l,h=>by
  rw [mS];split
  ·rename_i aj;have:=hM (iZ aj);refine PR.fy (rL _ _) fun _ cn g1=>?_;have:=(kQ (by decide) g1).1;refine PR.fy (rL _ _) fun _ bM g2=>?_;have:=(kQ (by decide) g2).1;exact PR.fy (acK f _ (by omega)) fun _ _ _ h=>by cases h
  ·intro h;cases h
theorem Vk {f:Nat}{b:Bool}{l r:List Tok}{t:dO}(h:vR f b l = .ok t r):r.length < l.length:=by
 unfold vR at h;obtain ⟨_,cn,g1,h⟩:=PR.hc h;obtain ⟨_,bM,g2,h⟩:=PR.hc h;obtain ⟨_,cE,g3,h⟩:=PR.hc h;have:=(kQ (by decide) g1).1;have:=(kQ (by decide) g2).1;have:=(kQ (by decide) g3).1;split at h
 ·obtain ⟨_,eb,g4,h⟩:=PR.hc h;obtain ⟨_,gn,g5,h⟩:=PR.hc h;cases h;have:=(kQ (by decide) g4).1;have:=(Ia f).2.1 _ _ _ _ g5;omega
 ·obtain ⟨_,gn,g5,h⟩:=PR.hc h;cases h;have:=(Ia f).2.1 _ _ _ _ g5;omega
theorem adX {f:Nat}{b:Bool}{l:List Tok}(aZ:3 * l.length≤f):vR f b l ≠ .out:=by
 unfold vR;refine PR.fy (rL _ _) fun _ cn g1=>?_;have:=(kQ (by decide) g1).1;refine PR.fy (rL _ _) fun _ bM g2=>?_;have:=(kQ (by decide) g2).1;refine PR.fy (rL _ _) fun _ cE g3=>?_;have:=(kQ (by decide) g3).1;split
 ·refine PR.fy (rL _ _) fun _ eb g4=>?_;have:=(kQ (by decide) g4).1;exact PR.fy ((UX f).2.1 _ _ (by omega)) fun _ _ _ h=>by cases h
 ·exact PR.fy ((UX f).2.1 _ _ (by omega)) fun _ _ _ h=>by cases h
theorem Vm:∀ (f:Nat) (l:List Tok),3 * l.length + 1≤f→nu f l ≠ .out
 | 0,l,h=>by omega
 | f + 1,l,h=>by
  rw [nu];split
  ·rename_i aj;have:=hM (iZ aj);refine PR.fy (adX (by omega)) fun _ cn g1=>?_;have:=Vk g1;exact PR.fy (Vm f _ (by omega)) fun _ _ _ h=>by cases h
  split
  ·rename_i aj;have:=hM (iZ aj);refine PR.fy (adX (by omega)) fun _ cn g1=>?_;have:=Vk g1;exact PR.fy (Vm f _ (by omega)) fun _ _ _ h=>by cases h
  ·intro h;cases h
theorem aoJ {f:Nat}{l:List Tok}(aZ:3 * l.length + 1≤f):BX f l ≠ .out:=by
 unfold BX;refine PR.fy (uA _ _) fun _ cn g1=>?_;have:=(oS g1).1;refine PR.fy (rL _ _) fun _ bM g2=>?_;have:=(kQ (by decide) g2).1;refine PR.fy (X7 f _ (by omega)) fun _ cE g3=>?_;have:=X8 f _ _ _ g3;refine PR.fy (acK f _ (by omega)) fun _ eb g4=>?_;have:=acL f _ _ _ g4;exact PR.fy (Vm f _ (by omega)) fun _ _ _ h=>by cases h
end Go.Eng.Sy
