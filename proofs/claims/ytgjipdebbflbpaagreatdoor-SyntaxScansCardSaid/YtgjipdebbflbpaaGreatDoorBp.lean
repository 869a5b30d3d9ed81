/-
  Part of a proof of the laws of layer 06 (syntax): what each function does.
  Conditions: none.
-/
import Derived.Test.YtgjipdebbflbpaaGreatDoorBs
set_option linter.unusedSimpArgs false
set_option linter.unusedVariables false
namespace Go.Eng.Sy
open Go Go.Eng Go.Proofs
theorem vu:∀ (k:Nat) (l:List UInt8) (m:Int),l.length < k→qe k l m=qe (l.length + 1) l m
 | 0,l,m,h=>by omega
 | k + 1,[],m,h=>by simp [qe]
 | k + 1,b::r,m,h=>by
  have key:∀ (w:Nat),0 < w→qe k (skip false ((b::r).drop w) m).1 (skip false ((b::r).drop w) m).2=qe (b::r).length (skip false ((b::r).drop w) m).1 (skip false ((b::r).drop w) m).2:=by
   intro w hw
   have h1:=qt false ((b::r).drop w) m
   have h2:((b::r).drop w).length=(b::r).length - w:=by simp
   have h3:(b::r).length=r.length + 1:=rfl
   rw [vu k _ _ (by omega),vu (b::r).length _ _ (by omega)]
  show qe (k + 1) (b::r) m=qe ((b::r).length + 1) (b::r) m
  unfold qe
  split
  ·rename_i hr
   rw [key _ hr]
  ·split
   ·rename_i g hg
    rw [key _ (Zj hg).1]
   ·rfl
 termination_by k=>k
 decreasing_by all_goals (simp only [List.length_cons] at *;omega)
def zn (l:List UInt8) (m:Int):List Tok × Int × Bool:=qe (l.length + 1) (skip false l m).1 (skip false l m).2
theorem scanS_W (l:List UInt8):wy l=zn l 1:=rfl
theorem Yc (l:List UInt8) (m:Int){k:Nat}(h:l.length < k):qe k (skip false l m).1 (skip false l m).2=zn l m:=by
 have h1:=qt false l m
 unfold zn
 rw [vu k _ _ (by omega),vu (l.length + 1) _ _ (by omega)]
theorem Kl {a b:List UInt8}{m n:Int}(h:skip false a m=skip false b n) (hl:b.length≤a.length):zn a m=zn b n:=by
 unfold zn
 rw [h]
 exact Yc b n (by omega)
theorem nm_not {b:UInt8}(h:nm b=true):Za b=false∧b≠10∧b≠35:=by
 have:∀ n:Fin 256,nm (UInt8.ofNat n.val)=true→Za (UInt8.ofNat n.val)=false∧UInt8.ofNat n.val≠10∧UInt8.ofNat n.val≠35:=by decide +kernel
 have:=this ⟨b.toNat,zw0 b⟩
 simp only [UInt8.ofNat_toNat] at this
 exact this h
theorem j4 (b:UInt8) (l:List UInt8):ju (b::l)=if nm b then ju l + 1 else 0:=by
 unfold ju
 rw [List.takeWhile_cons]
 split<;>simp
theorem zi4:∀ {w:List UInt8}(r:List UInt8),ju w=w.length→ju (w++r)=w.length + ju r
 | [],r,_=>by simp
 | b::w,r,h=>by
  rw [j4] at h
  rw [List.cons_append,j4]
  split at h
  ·rename_i hb
   rw [if_pos hb,zi4 r (by simpa using h)]
   simp;omega
  ·simp at h
theorem zq5:∀ w ∈ signsL,∃ b r,w=b::r∧nm b=false∧Za b=false∧b≠10∧b≠35:=by
 intro w hw
 have:∀ w ∈ signsL,w≠[]∧nm (w.headD 0)=false∧Za (w.headD 0)=false∧w.headD 0≠10∧w.headD 0≠35:=by decide +kernel
 obtain ⟨h1,h2⟩:=this w hw
 cases w with
 | nil=>exact absurd rfl h1
 | cons b r=>exact ⟨b,r,rfl,h2⟩
theorem zx2 {b:UInt8}{r:List UInt8}(m:Int) (h:Za b=false∧b≠10∧b≠35):skip false (b::r) m=(b::r,m):=by
 simp [skip,h.1,h.2.1,h.2.2]
theorem zy1 (m:Int):zn [] m=([],m,true):=rfl
theorem V5 {base:Nat}:∀ (a b:List UInt8) (n:Nat),j6 base (a++b) n=(j6 base a n).bind (j6 base b)
 | [],b,n=>rfl
 | x::a,b,n=>by
  rw [List.cons_append]
  unfold j6
  cases dig x with
  | none=>rfl
  | some d =>
   simp only
   split
   ·rfl
   ·split
    ·rfl
    ·exact V5 a b _
theorem dig_dec:∀ d:Fin 10,dig (UInt8.ofNat (48 + d.val))=some d.val:=by decide +kernel
theorem zr9:∀ (n:Nat),j6 10 (yv n) 0=if n≤4294967295 then some n else none:=by
 intro n
 induction n using Nat.strongRecOn with
 | _ n ih =>
 have hd:=dig_dec ⟨n % 10,Nat.mod_lt _ (by omega)⟩
 simp only at hd
 rw [yv]
 split
 ·rename_i h10
  rw [V5,ih (n / 10) (by omega)]
  by_cases hs:n / 10≤4294967295
  ·rw [if_pos hs]
   simp only [Option.bind_some,j6,hd]
   rw [if_neg (by omega)]
   by_cases hn:n≤4294967295
   ·rw [if_pos hn,if_neg (by omega)];congr 1;omega
   ·rw [if_neg hn,if_pos (by omega)]
  ·rw [if_neg hs,if_neg (by omega)];rfl
 ·rename_i h10
  simp only [j6,hd]
  rw [if_neg (by omega),if_neg (by omega),if_pos (by omega)]
  congr 1;omega
def isDg (b:UInt8):Bool:=decide (48≤b.toNat) && decide (b.toNat≤57)
theorem Qa (n:Nat):∀ b ∈ yv n,isDg b=true:=by
 induction n using Nat.strongRecOn with
 | _ n ih =>
 have h1:isDg (UInt8.ofNat (48 + n % 10))=true:=by
  have:∀ d:Fin 10,isDg (UInt8.ofNat (48 + d.val))=true:=by decide +kernel
  exact this ⟨n % 10,Nat.mod_lt _ (by omega)⟩
 rw [yv]
 split
 ·intro b hb
  rcases List.mem_append.1 hb with hb | hb
  ·exact ih (n / 10) (by omega) b hb
  ·rw [List.mem_singleton.1 hb];exact h1
 ·intro b hb;rw [List.mem_singleton.1 hb];exact h1
theorem ud {b:UInt8}(h:isDg b=true):Lib.lowerB b=b∧nm b=true∧b≠120∧b.toNat≤57:=by
 have:∀ n:Fin 256,isDg (UInt8.ofNat n.val)=true→Lib.lowerB (UInt8.ofNat n.val)=UInt8.ofNat n.val∧nm (UInt8.ofNat n.val)=true∧UInt8.ofNat n.val≠120∧(UInt8.ofNat n.val).toNat≤57:=by decide +kernel
 have:=this ⟨b.toNat,zw0 b⟩
 simp only [UInt8.ofNat_toNat] at this
 exact this h
theorem Jq (n:Nat):∃ b r,yv n=b::r∧isDg b=true:=by
 have h:=Qa n
 have hl:yv n≠[]:=by rw [yv];split<;>simp
 cases hd:yv n with
 | nil=>exact absurd hd hl
 | cons b r=>exact ⟨b,r,rfl,h b (by rw [hd];simp)⟩
theorem ye4 (n:Nat) (hn:0 < n):(yv n).head? ≠ some 48:=by
 induction n using Nat.strongRecOn with
 | _ n ih =>
 rw [yv]
 split
 ·rename_i h10
  obtain ⟨b,r,hb,_⟩:=Jq (n / 10)
  have:=ih (n / 10) (by omega) (by omega)
  rw [hb] at this ⊢
  simpa using this
 ·rename_i h10
  have:∀ d:Fin 10,0 < d.val→UInt8.ofNat (48 + d.val % 10)≠48:=by decide +kernel
  have:=this ⟨n,by omega⟩ hn
  simpa using this
theorem low_map {l:List UInt8}(h:∀ b ∈ l,Lib.lowerB b=b):Lib.toLowerA l=l:=by
 unfold Lib.toLowerA
 conv=>rhs;rw [← List.map_id l]
 exact List.map_congr_left fun b hb=>by simpa using h b hb
theorem runN_all {l:List UInt8}(h:∀ b ∈ l,nm b=true):ju l=l.length:=by
 induction l with
 | nil=>rfl
 | cons b r ih=>rw [j4,if_pos (h b (by simp)),ih fun x hx=>h x (by simp [hx])];rfl
theorem pre_dec {l:List UInt8}(h:∀ b ∈ l,b≠120):[48,120].isPrefixOf l=false:=by
 cases hp:[48,120].isPrefixOf l with
 | false=>rfl
 | true =>
  obtain ⟨r,hr⟩:=List.isPrefixOf_iff_prefix.1 hp
  exact absurd rfl (h 120 (by rw [← hr];simp))
theorem digs_dec {l:List UInt8}(h:∀ b ∈ l,b≠120):ye0 l=(l,10):=by
 unfold ye0;rw [pre_dec h];rfl
theorem zz9 {base:Nat}{l:List UInt8}(h:l≠[]):j5 base l=j6 base l 0:=by
 cases l with
 | nil=>exact absurd rfl h
 | cons=>rfl
theorem zs0 {k:Nat}(hk:k≤4294967295):ke (yv k)=some k:=by
 have hd:∀ b ∈ yv k,b≠120:=fun b hb=>(ud (Qa k b hb)).2.2.1
 obtain ⟨b,r,hb,_⟩:=Jq k
 have hne:yv k≠[]:=by rw [hb];simp
 have hl:=ko 9 k (by omega)
 have hlow:=low_map fun b hb=>(ud (Qa k b hb)).1
 unfold ke zj4
 rw [digs_dec hd]
 simp only
 rw [zz9 hne,zr9,if_pos hk]
 simp only
 rw [if_neg]
 simp only [hlow,Bool.or_eq_true,Bool.and_eq_true,decide_eq_true_eq,beq_iff_eq,Bool.not_eq_true',beq_self_eq_true,Bool.not_true,Bool.false_eq_true,or_false,true_and,not_or,not_and]
 refine ⟨by omega,fun h1 h2=>?_⟩
 rcases Nat.eq_zero_or_pos k with rfl | hp
 ·have:(yv 0).length=1:=by rw [yv];rfl
  omega
 ·exact ye4 k hp h2
theorem zv5 {l:List UInt8}(h:wr l=true):∃ b r,l=b::r∧57 < b.toNat:=by
 have:∀ w ∈ wordsL,w≠[]∧57 < (w.headD 0).toNat:=by decide +kernel
 obtain ⟨h1,h2⟩:=this l (by simpa [wr] using h)
 cases l with
 | nil=>exact absurd rfl h1
 | cons b r=>exact ⟨b,r,rfl,h2⟩
theorem zt1 {b:UInt8}{r:List UInt8}(h:b.toNat≤57):wr (b::r)=false∧zk (b::r)=false:=by
 constructor
 ·cases hw:wr (b::r) with
  | false=>rfl
  | true =>
   obtain ⟨b',r',he,hb⟩:=zv5 hw
   cases he;omega
 ·unfold zk
  have:¬ (57:Int) < (b.toNat:Int):=by omega
  simp [this]
theorem scanW_nl (r:List UInt8) (m:Int):zn (10::r) m=zn r (m + 1):=Kl (by simp [skip,Za]) (by simp)
theorem Y4 {b:UInt8}(hb:Za b=true) (r:List UInt8) (m:Int):zn (b::r) m=zn r m:=Kl (by simp [skip,hb]) (by simp)
theorem Km {b:UInt8}{r:List UInt8}(m:Int) (h:Za b=false∧b≠10∧b≠35):zn (b::r) m=qe ((b::r).length + 1) (b::r) m:=by
 unfold zn
 rw [zx2 m h]
theorem zy0 {b:UInt8}{r:List UInt8}(m:Int) (h:Za b=false∧b≠10∧b≠35) (hr:0 < ju (b::r)) (hk:(Ye ((b::r).take (ju (b::r)))).2=true) :
  zn (b::r) m=({ (Ye ((b::r).take (ju (b::r)))).1 with line:=m }::(zn ((b::r).drop (ju (b::r))) m).1,(zn ((b::r).drop (ju (b::r))) m).2):=by
 rw [Km m h,qe,if_pos hr,if_pos hk,Yc _ m (by simp only [List.length_drop];have:=X8 (b::r);simp only [List.length_cons] at *;omega)]
theorem zq8 {b:UInt8}{r:List UInt8}(m:Int) (h:Za b=false∧b≠10∧b≠35) (hr:ju (b::r)=0){g:List UInt8}(hg:signsL.find? (·.isPrefixOf (b::r))=some g) :
  zn (b::r) m=(⟨4,g,0,m⟩::(zn ((b::r).drop g.length) m).1,(zn ((b::r).drop g.length) m).2):=by
 have h1:=Zj hg
 rw [Km m h,qe,if_neg (by omega),hg]
 simp only
 rw [Yc _ m (by simp only [List.length_drop,List.length_cons] at *;omega)]
end Go.Eng.Sy
namespace Go.Eng.Sy
open Go Go.Eng Go.Proofs
def tkW (w:List UInt8) (m:Int):Tok:=⟨2,w,0,m⟩
def tkN (s:List UInt8) (m:Int):Tok:=⟨1,s,0,m⟩
def tkI (n:Nat) (m:Int):Tok:=⟨3,yv n,n,m⟩
def tkG (g:List UInt8) (m:Int):Tok:=⟨4,g,0,m⟩
def ki (ts:List Tok) (r:List Tok × Int × Bool):List Tok × Int × Bool:=(ts++r.1,r.2)
theorem Vi (r:List Tok × Int × Bool):ki [] r=r:=rfl
theorem ql (a b:List Tok) (r:List Tok × Int × Bool):ki a (ki b r)=ki (a++b) r:=by simp [ki,List.append_assoc]
def fol (l:List UInt8):Prop:=∀ b r,l=b::r→nm b=false
def zi2 (l:List UInt8):Prop:=∀ b r,l=b::r→b≠46∧b≠60∧b≠61∧b≠62
def del (l:List UInt8):Prop:=fol l∧zi2 l
theorem fol_run {l:List UInt8}(h:fol l):ju l=0:=by
 cases l with
 | nil=>rfl
 | cons b r=>rw [j4,h b r rfl];rfl
theorem X7 {w:List UInt8}{t:Tok}(h0:0 < w.length) (h1:ju w=w.length) (h2:Ye w=(t,true)){l:List UInt8}(hl:fol l) (m:Int):zn (w++l) m=ki [{ t with line:=m }] (zn l m):=by
 cases w with
 | nil=>simp at h0
 | cons b r =>
  have hb:nm b=true:=by
   rw [j4] at h1
   cases hc:nm b with
   | true=>rfl
   | false=>rw [hc] at h1;simp at h1
  have hr:ju (b::(r++l))=(b::r).length:=by
   have:=zi4 (w:=b::r) l h1
   rw [fol_run hl] at this
   simpa using this
  have ht:(b::(r++l)).take (b::r).length=b::r:=by
   rw [← List.cons_append,List.take_left'];rfl
  have hd:(b::(r++l)).drop (b::r).length=l:=by
   rw [← List.cons_append,List.drop_left'];rfl
  rw [List.cons_append,zy0 m (nm_not hb) (by rw [hr];simp) (by rw [hr,ht,h2]),hr,ht,hd,h2]
  rfl
theorem vj {s:List UInt8}(h:zk s=true):0 < s.length∧ju s=s.length∧wr s=false:=by
 unfold zk at h
 cases s with
 | nil=>cases h
 | cons b r =>
  simp only [Bool.and_eq_true,beq_iff_eq,Bool.not_eq_true',decide_eq_true_eq] at h
  exact ⟨by simp,h.1.1.2,h.2⟩
theorem Q0 {s:List UInt8}(h:zk s=true){l:List UInt8}(hl:fol l) (m:Int):zn (s++l) m=ki [tkN s m] (zn l m):=by
 obtain ⟨h0,h1,h2⟩:=vj h
 rw [X7 h0 h1 (t:=⟨1,s,0,0⟩) (by unfold Ye;rw [h2,h];rfl) hl m]
 rfl
theorem scan_kw {w:List UInt8}(h:w ∈ wordsL){l:List UInt8}(hl:fol l) (m:Int):zn (w++l) m=ki [tkW w m] (zn l m):=by
 have hw:∀ w ∈ wordsL,0 < w.length∧ju w=w.length∧wr w=true:=by decide +kernel
 obtain ⟨h0,h1,h2⟩:=hw w h
 rw [X7 h0 h1 (t:=⟨2,w,0,0⟩) (by unfold Ye;rw [h2];rfl) hl m]
 rfl
theorem zi3 {n:Nat}(hn:n < 4294967296){l:List UInt8}(hl:fol l) (m:Int):zn (yv n++l) m=ki [tkI n m] (zn l m):=by
 obtain ⟨b,r,e,hb⟩:=Jq n
 have hd:=zt1 (b:=b) (r:=r) (ud hb).2.2.2
 rw [X7 (w:=yv n) (t:=⟨3,yv n,n,0⟩) (by rw [e];simp) (runN_all fun x hx=>(ud (Qa n x hx)).2.1) (by unfold Ye;rw [e,hd.1,hd.2,← e,zs0 (by omega)];rfl) hl m]
 rfl
theorem zx6 {g:List UInt8}(hg:g ∈ signsL){l:List UInt8}(hl:zi2 l):signsL.find? (·.isPrefixOf (g++l))=some g:=by
 cases l with
 | nil =>
  rw [List.append_nil]
  revert g;decide +kernel
 | cons b r =>
  obtain ⟨h1,h2,h3,h4⟩:=hl b r rfl
  have e1:(46 == b)=false:=by simpa using h1.symm
  have e2:(60 == b)=false:=by simpa using h2.symm
  have e3:(61 == b)=false:=by simpa using h3.symm
  have e4:(62 == b)=false:=by simpa using h4.symm
  simp only [signsL,List.mem_cons,List.not_mem_nil,or_false] at hg
  rcases hg with rfl | rfl | rfl | rfl | rfl | rfl | rfl | rfl | rfl | rfl | rfl | rfl | rfl | rfl | rfl | rfl | rfl | rfl | rfl | rfl | rfl | rfl | rfl | rfl | rfl <;>
   simp [signsL,List.find?,List.isPrefixOf,e1,e2,e3,e4]
theorem kx {g:List UInt8}(hg:g ∈ signsL){l:List UInt8}(hl:zi2 l) (m:Int):zn (g++l) m=ki [tkG g m] (zn l m):=by
 obtain ⟨b,r,e,h1,h2⟩:=zq5 g hg
 have hf:=zx6 hg hl
 subst e
 rw [List.cons_append] at hf ⊢
 rw [zq8 m h2 (by rw [j4,h1];rfl) hf,← List.cons_append,List.drop_left' rfl]
 rfl
theorem Vv:∀ (o:Int),1≤o∧o≤17→jl o ∈ signsL:=by
 intro o h
 have:o=1∨o=2∨o=3∨o=4∨o=5∨o=6∨o=7∨o=8∨o=9∨o=10∨o=11∨o=12∨o=13∨o=14∨o=15∨o=16∨o=17:=by omega
 rcases this with rfl | rfl | rfl | rfl | rfl | rfl | rfl | rfl | rfl | rfl | rfl | rfl | rfl | rfl | rfl | rfl | rfl<;>decide +kernel
def J8 (m:Int) (e:Ex) (least:Nat) (s:List Tok):List Tok:=if e.kind=4∧zx e.op < least then tkG [40] m::(s++[tkG [41] m]) else s
def mkTok (m k o n:Int) (s:List UInt8) (ts:List (Ex × List Tok)):List Tok :=
 if k=1 then [tkI n.toNat m]
 else if k=5 then match ts with | a::_=>tkN s m::tkG [91] m::(a.2++[tkG [93] m]) | []=>[]
 else if k=3 then match ts with | a::_=>tkG (jl o) m::J8 m a.1 9 a.2 | []=>[]
 else if k=4 then match ts with | a::b::_=>J8 m a.1 (zx o) a.2++tkG (jl o) m::J8 m b.1 (zx o + 1) b.2 | _=>[]
 else [tkN s m]
mutual
def Y2 (m:Int):Ex→List Tok
 | .mk k o n s args=>mkTok m k o n s (tokEs m args)
def tokEs (m:Int):List Ex→List (Ex × List Tok)
 | []=>[]
 | e::r=>(e,Y2 m e)::tokEs m r
end
theorem Y9 {b:UInt8}{l:List UInt8}(h:nm b=false∧b≠46∧b≠60∧b≠61∧b≠62):del (b::l):=⟨fun b' r e=>by cases e;exact h.1,fun b' r e=>by cases e;exact h.2⟩
theorem ku {b:UInt8}{l:List UInt8}(h:b≠46∧b≠60∧b≠61∧b≠62):zi2 (b::l):=fun b' r e=>by cases e;exact h
theorem zk2 {b:UInt8}{l:List UInt8}(h:nm b=false):fol (b::l):=fun b' r e=>by cases e;exact h
theorem ya9 {b:UInt8}(h:nm b=true):b≠46∧b≠60∧b≠61∧b≠62:=by
 refine ⟨?_,?_,?_,?_⟩<;>(rintro rfl;revert h;decide)
theorem Vw {s:List UInt8}(h:zk s=true) (l:List UInt8):zi2 (s++l):=by
 obtain ⟨h0,h1,_⟩:=vj h
 cases s with
 | nil=>simp at h0
 | cons b r =>
  refine ku (ya9 ?_)
  rw [j4] at h1
  cases hc:nm b with
  | true=>rfl
  | false=>rw [hc] at h1;simp at h1
theorem X6 (n:Nat) (l:List UInt8):zi2 (yv n++l):=by
 obtain ⟨b,r,e,hb⟩:=Jq n
 rw [e]
 exact ku (ya9 (ud hb).2.1)
theorem kr {e:Ex}{d:Nat}(h:ExI e d):∀ l,zi2 (zm e++l):=by
 induction h with
 | num n d h=>intro l;exact X6 _ l
 | var s d h=>intro l;exact Vw h l
 | one o a d h ha ih =>
  intro l
  have:∀ o:Int,15≤o∧o≤17 → ∃ b,jl o=[b]∧b≠46∧b≠60∧b≠61∧b≠62:=fun o h=>by
   have:o=15∨o=16∨o=17:=by omega
   rcases this with rfl | rfl | rfl<;>exact ⟨_,rfl,by decide⟩
  obtain ⟨b,e1,e2⟩:=this o h
  show zi2 ((jl o++xl a 9 (zm a))++l)
  rw [e1];exact ku e2
 | two o a b d h ha hb iha ihb =>
  intro l
  show zi2 ((xl a (zx o) (zm a)++32::(jl o++32::xl b (zx o + 1) (zm b)))++l)
  rw [List.append_assoc]
  unfold xl
  split
  ·exact ku (by decide)
  ·exact iha _
 | idx s a d h ha ih =>
  intro l
  show zi2 ((s++91::(zm a++[93]))++l)
  rw [List.append_assoc];exact Vw h _
theorem Qz {e:Ex}(ih:∀ l m,del l→zn (zm e++l) m=ki (Y2 m e) (zn l m)) (hs:∀ l,zi2 (zm e++l)) (k:Nat) (l:List UInt8) (m:Int) (hl:del l):zn (xl e k (zm e)++l) m=ki (J8 m e k (Y2 m e)) (zn l m):=by
 unfold xl J8
 split
 ·have e1:(40::(zm e++[41]))++l=[40]++(zm e++([41]++l)):=by simp
  rw [e1,kx (by decide) (hs _),ih ([41]++l) m (show del (41::l) from Y9 (by decide)),kx (by decide) hl.2,ql,ql]
  rfl
 ·exact ih l m hl
theorem zx8 {e:Ex}{d:Nat}(h:ExI e d):∀ l m,del l→zn (zm e++l) m=ki (Y2 m e) (zn l m):=by
 induction h with
 | num n d h=>intro l m hl;exact zi3 h hl.1 m
 | var s d h=>intro l m hl;exact Q0 h hl.1 m
 | one o a d h ha ih =>
  intro l m hl
  show zn ((jl o++xl a 9 (zm a))++l) m=ki (tkG (jl o) m::J8 m a 9 (Y2 m a)) _
  rw [List.append_assoc,kx (Vv o (by omega)) (by unfold xl;split;exact ku (by decide);exact kr ha _),Qz ih (kr ha) 9 l m hl,ql]
  rfl
 | two o a b d h ha hb iha ihb =>
  intro l m hl
  show zn ((xl a (zx o) (zm a)++32::(jl o++32::xl b (zx o + 1) (zm b)))++l) m=ki (J8 m a (zx o) (Y2 m a)++tkG (jl o) m::J8 m b (zx o + 1) (Y2 m b)) _
  have e1:(xl a (zx o) (zm a)++32::(jl o++32::xl b (zx o + 1) (zm b)))++l=xl a (zx o) (zm a)++32::(jl o++32::(xl b (zx o + 1) (zm b)++l)):=by simp
  rw [e1,Qz iha (kr ha) _ _ m (Y9 (by decide)),Y4 (by decide),kx (Vv o (by omega)) (ku (by decide)),Y4 (by decide),Qz ihb (kr hb) _ l m hl,ql,ql]
  congr 1
  simp
 | idx s a d h ha ih =>
  intro l m hl
  show zn ((s++91::(zm a++[93]))++l) m=ki (tkN s m::tkG [91] m::(Y2 m a++[tkG [93] m])) _
  have e1:(s++91::(zm a++[93]))++l=s++([91]++(zm a++([93]++l))):=by simp
  rw [e1,Q0 h (l:=[91]++(zm a++([93]++l))) (zk2 (by decide)),kx (by decide) (kr ha _),ih ([93]++l) m (show del (93::l) from Y9 (by decide)),kx (by decide) hl.2,ql,ql,ql]
  congr 1
end Go.Eng.Sy
namespace Go.Eng.Sy
open Go Go.Eng Go.Proofs
section
variable {l:List UInt8}{m:Int}{ts:List Tok}{R X:List Tok × Int × Bool}
theorem xq {s:List UInt8}(h:zk s=true) (hl:fol l) (g:zn l m=ki ts R):zn (s++l) m=ki (tkN s m::ts) R:=by
 rw [Q0 h hl,g,ql];rfl
theorem Ja {w:List UInt8}(h:w ∈ wordsL) (hl:fol l) (g:zn l m=ki ts R):zn (w++l) m=ki (tkW w m::ts) R:=by
 rw [scan_kw h hl,g,ql];rfl
theorem uh {n:Nat}(h:n < 4294967296) (hl:fol l) (g:zn l m=ki ts R):zn (yv n++l) m=ki (tkI n m::ts) R:=by
 rw [zi3 h hl,g,ql];rfl
theorem yq {s:List UInt8}(h:s ∈ signsL) (hl:zi2 l) (g:zn l m=ki ts R):zn (s++l) m=ki (tkG s m::ts) R:=by
 rw [kx h hl,g,ql];rfl
theorem Q9 {e:Ex}{d:Nat}(h:ExI e d) (hl:del l) (g:zn l m=ki ts R):zn (zm e++l) m=ki (Y2 m e++ts) R:=by
 rw [zx8 h l m hl,g,ql]
theorem jq (g:zn l m=X):zn ([32]++l) m=X:=by
 rw [← g];exact Y4 (by decide) l m
theorem uu (g:zn l (m + 1)=X):zn ([10]++l) m=X:=by
 rw [← g];exact scanW_nl l m
theorem xo (t:Nat) (g:zn l m=X):zn (yl t++l) m=X:=by
 rw [← g]
 induction t with
 | zero=>rfl
 | succ t ih =>
  rw [show yl (t + 1)++l=9::(yl t++l) from rfl,Y4 (by decide),ih]
end
theorem jc {b:UInt8}{l:List UInt8}(h:nm b=false):fol ([b]++l):=zk2 h
theorem jf {b:UInt8}{l:List UInt8}(h:b≠46∧b≠60∧b≠61∧b≠62):zi2 ([b]++l):=ku h
theorem ye2 {b:UInt8}{l:List UInt8}(h:nm b=false∧b≠46∧b≠60∧b≠61∧b≠62):del ([b]++l):=Y9 h
mutual
def lnS:St→Nat
 | .mk k _ _ _ _ thn els=>if k=5∨k=6∨k=7 then 2 + uw thn + (if els.isEmpty then 0 else 1 + uw els) else 1
def uw:List St→Nat
 | []=>0
 | s::r=>lnS s + uw r
end
def brT (m:Int) (head th:List Tok) (a:Nat) (el:List Tok) (b:Nat) (more:Bool):List Tok :=
 head++tkG [123] m::(th++((if more then tkG [125] (m + 1 + a)::tkW [101,108,115,101] (m + 1 + a)::tkG [123] (m + 1 + a)::el else [])++[tkG [125] (if more then m + 1 + a + 1 + b else m + 1 + a)]))
def mkST (m k:Int) (s f:List UInt8) (n:Int) (ts:List (List Tok)) (th:List Tok) (a:Nat) (el:List Tok) (b:Nat) (more:Bool):List Tok :=
 if k=1 then tkN s m::tkG [61] m::(ts.getD 0 []++[tkG [59] m])
 else if k=2 then [tkN s m,tkG [61] m,tkN f m,tkG [46] m,tkI n.toNat m,tkG [59] m]
 else if k=3 then tkN s m::tkG [46] m::tkI n.toNat m::tkG [61] m::(ts.getD 0 []++[tkG [59] m])
 else if k=4 then tkN s m::tkG [91] m::(ts.getD 0 []++tkG [93] m::tkG [61] m::(ts.getD 1 []++[tkG [59] m]))
 else if k=8 then [tkW [104,97,108,116] m,tkG [59] m]
 else if k=5 then brT m [tkW [108,111,99,107] m,tkN s m] th a el b more
 else if k=7 then brT m [tkW [114,101,112,101,97,116] m,tkI n.toNat m] th a el b more
 else if k=6 then brT m (tkW [105,102] m::tkG [40] m::(ts.getD 0 []++[tkG [41] m])) th a el b more
 else []
mutual
def tokS (m:Int):St→List Tok
 | .mk k s f n args thn els=>mkST m k s f n (args.map (Y2 m)) (Z7 (m + 1) thn) (uw thn) (Z7 (m + 1 + uw thn + 1) els) (uw els) (!els.isEmpty)
def Z7 (m:Int):List St→List Tok
 | []=>[]
 | s::r=>tokS m s++Z7 (m + lnS s) r
end
def SOk (s:St):Prop:=∀ (t:Nat) (l:List UInt8) (m:Int),zn (qj t s++l) m=ki (tokS m s) (zn l (m + lnS s))
theorem ya6:∀ (ss:List St),(∀ s ∈ ss,SOk s) → ∀ (t:Nat) (l:List UInt8) (m:Int) (ts:List Tok) (R:List Tok × Int × Bool),zn l (m + uw ss)=ki ts R→zn (zl t ss++l) m=ki (Z7 m ss++ts) R
 | [],_,t,l,m,ts,R,g=>by simpa [zl,Z7,uw] using g
 | s::r,h,t,l,m,ts,R,g=>by
  have g2:zn l (m + lnS s + uw r)=ki ts R:=by
   rw [← g];congr 1;simp only [uw];omega
  rw [show zl t (s::r)=qj t s++zl t r from rfl,List.append_assoc,h s (by simp),ya6 r (fun x hx=>h x (by simp [hx])) t l (m + lnS s) ts R g2,ql,← List.append_assoc]
  rfl
theorem nx_br {t:Nat}{head:List UInt8}{hd:List Tok}{thn els:List St}{l:List UInt8}{m:Int}(hh:∀ x ts R,fol x→zi2 x→zn x m=ki ts R→zn (head++x) m=ki (hd++ts) R) (h1:∀ s ∈ thn,SOk s) (h2:∀ s ∈ els,SOk s) :
  zn (qv t head (zl (t + 1) thn) (zl (t + 1) els) (!els.isEmpty)++l) m=ki (brT m hd (Z7 (m + 1) thn) (uw thn) (Z7 (m + 1 + uw thn + 1) els) (uw els) (!els.isEmpty)) (zn l (m + (2 + uw thn + (if els.isEmpty then 0 else 1 + uw els):Nat))):=by
 unfold qv brT zr
 cases hE:els.isEmpty with
 | true =>
  simp only [Bool.not_true,Bool.false_eq_true,if_false,if_true,List.append_nil,List.nil_append]
  have e1:(yl t++[head,[32,123]].flatten++[10]++zl (t + 1) thn++(yl t++[[125]].flatten++[10]))++l=yl t++(head++([32]++([123]++([10]++(zl (t + 1) thn++(yl t++([125]++([10]++l)))))))):=by simp
  rw [e1]
  refine xo t (hh _ _ _ (jc (by decide)) (jf (by decide)) (jq (yq (by decide) (jf (by decide)) (uu (ya6 thn h1 _ _ _ _ _ (xo t (yq (by decide) (jf (by decide)) (uu ?_))))))))
  rw [Vi];congr 1;omega
 | false =>
  simp only [Bool.not_false,Bool.false_eq_true,if_false,if_true]
  have e1:(yl t++[head,[32,123]].flatten++[10]++zl (t + 1) thn++(yl t++[[125,32,101,108,115,101,32,123]].flatten++[10]++zl (t + 1) els)++(yl t++[[125]].flatten++[10]))++l=yl t++(head++([32]++([123]++([10]++(zl (t + 1) thn++(yl t++([125]++([32]++([101,108,115,101]++([32]++([123]++([10]++(zl (t + 1) els++(yl t++([125]++([10]++l)))))))))))))))):=by simp
  rw [e1]
  have key:zn (yl t++(head++([32]++([123]++([10]++(zl (t + 1) thn++(yl t++([125]++([32]++([101,108,115,101]++([32]++([123]++([10]++(zl (t + 1) els++(yl t++([125]++([10]++l))))))))))))))))) m=ki (hd++tkG [123] m::(Z7 (m + 1) thn++tkG [125] (m + 1 + uw thn)::tkW [101,108,115,101] (m + 1 + uw thn)::tkG [123] (m + 1 + uw thn)::(Z7 (m + 1 + uw thn + 1) els++[tkG [125] (m + 1 + uw thn + 1 + uw els)]))) (zn l (m + (2 + uw thn + (1 + uw els):Nat))):=by
   refine xo t (hh _ _ _ (jc (by decide)) (jf (by decide)) (jq (yq (by decide) (jf (by decide)) (uu (ya6 thn h1 _ _ _ _ _ (xo t (yq (by decide) (jf (by decide)) (jq (Ja (by decide) (jc (by decide)) (jq (yq (by decide) (jf (by decide)) (uu (ya6 els h2 _ _ _ _ _ (xo t (yq (by decide) (jf (by decide)) (uu ?_))))))))))))))))
   rw [Vi];congr 1;omega
  rw [key]
  congr 1
  all_goals simp
theorem Vx:∀ (d:Nat) (s:St),StI s d→SOk s
 | 0,s,h=>by cases h
 | d + 1,s,h=>by
  have ih:=Vx d
  intro t l m
  cases h with
  | set s a _ h ha =>
   show zn (zr t [s,[32,61,32],zm a,[59]]++l) m=ki (tkN s m::tkG [61] m::(Y2 m a++[tkG [59] m])) (zn l (m + 1))
   have e1:zr t [s,[32,61,32],zm a,[59]]++l=yl t++(s++([32]++([61]++([32]++(zm a++([59]++([10]++l))))))):=by simp [zr]
   rw [e1]
   exact xo t (xq h (jc (by decide)) (jq (yq (by decide) (jf (by decide)) (jq (Q9 ha (ye2 (by decide)) (yq (by decide) (jf (by decide)) (uu rfl)))))))
  | get s f n _ h hf hn =>
   show zn (zr t [s,[32,61,32],f,[46],yv n,[59]]++l) m=ki [tkN s m,tkG [61] m,tkN f m,tkG [46] m,tkI n m,tkG [59] m] (zn l (m + 1))
   have e1:zr t [s,[32,61,32],f,[46],yv n,[59]]++l=yl t++(s++([32]++([61]++([32]++(f++([46]++(yv n++([59]++([10]++l))))))))):=by simp [zr]
   rw [e1]
   exact xo t (xq h (jc (by decide)) (jq (yq (by decide) (jf (by decide)) (jq (xq hf (jc (by decide)) (yq (by decide) (X6 n _) (uh (by omega) (jc (by decide)) (yq (by decide) (jf (by decide)) (uu rfl)))))))))
  | put s n a _ h hn ha =>
   show zn (zr t [s,[46],yv n,[32,61,32],zm a,[59]]++l) m=ki (tkN s m::tkG [46] m::tkI n m::tkG [61] m::(Y2 m a++[tkG [59] m])) (zn l (m + 1))
   have e1:zr t [s,[46],yv n,[32,61,32],zm a,[59]]++l=yl t++(s++([46]++(yv n++([32]++([61]++([32]++(zm a++([59]++([10]++l))))))))):=by simp [zr]
   rw [e1]
   exact xo t (xq h (jc (by decide)) (yq (by decide) (X6 n _) (uh (by omega) (jc (by decide)) (jq (yq (by decide) (jf (by decide)) (jq (Q9 ha (ye2 (by decide)) (yq (by decide) (jf (by decide)) (uu rfl)))))))))
  | store s a b _ h ha hb =>
   show zn (zr t [s,[91],zm a,[93,32,61,32],zm b,[59]]++l) m=ki (tkN s m::tkG [91] m::(Y2 m a++tkG [93] m::tkG [61] m::(Y2 m b++[tkG [59] m]))) (zn l (m + 1))
   have e1:zr t [s,[91],zm a,[93,32,61,32],zm b,[59]]++l=yl t++(s++([91]++(zm a++([93]++([32]++([61]++([32]++(zm b++([59]++([10]++l)))))))))):=by simp [zr]
   rw [e1]
   exact xo t (xq h (jc (by decide)) (yq (by decide) (kr ha _) (Q9 ha (ye2 (by decide)) (yq (by decide) (jf (by decide)) (jq (yq (by decide) (jf (by decide)) (jq (Q9 hb (ye2 (by decide)) (yq (by decide) (jf (by decide)) (uu rfl))))))))))
  | lock s thn _ h ht =>
   exact nx_br (t:=t) (l:=l) (m:=m) (els:=[]) (head:=[108,111,99,107,32]++s) (hd:=[tkW [108,111,99,107] m,tkN s m]) (fun x ts R f1 f2 g=>by
    rw [show ([108,111,99,107,32]++s)++x=[108,111,99,107]++([32]++(s++x)) by simp]
    exact Ja (by decide) (jc (by decide)) (jq (xq h f1 g))) (fun s hs=>ih s (ht s hs)) (fun s hs=>by cases hs)
  | cond a thn els _ ha ht he =>
   exact nx_br (t:=t) (l:=l) (m:=m) (head:=[105,102,32,40]++zm a++[41]) (hd:=tkW [105,102] m::tkG [40] m::(Y2 m a++[tkG [41] m])) (fun x ts R f1 f2 g=>by
    rw [show ([105,102,32,40]++zm a++[41])++x=[105,102]++([32]++([40]++(zm a++([41]++x)))) by simp]
    have:=Ja (w:=[105,102]) (by decide) (jc (by decide)) (jq (yq (s:=[40]) (by decide) (kr ha _) (Q9 ha (ye2 (by decide)) (yq (s:=[41]) (by decide) f2 g))))
    simpa using this) (fun s hs=>ih s (ht s hs)) (fun s hs=>ih s (he s hs))
  | rep n thn _ hn ht =>
   exact nx_br (t:=t) (l:=l) (m:=m) (els:=[]) (head:=[114,101,112,101,97,116,32]++yv n) (hd:=[tkW [114,101,112,101,97,116] m,tkI n m]) (fun x ts R f1 f2 g=>by
    rw [show ([114,101,112,101,97,116,32]++yv n)++x=[114,101,112,101,97,116]++([32]++(yv n++x)) by simp]
    exact Ja (by decide) (jc (by decide)) (jq (uh (by omega) f1 g))) (fun s hs=>ih s (ht s hs)) (fun s hs=>by cases hs)
  | halt =>
   show zn (zr t [[104,97,108,116,59]]++l) m=ki [tkW [104,97,108,116] m,tkG [59] m] (zn l (m + 1))
   have e1:zr t [[104,97,108,116,59]]++l=yl t++([104,97,108,116]++([59]++([10]++l))):=by simp [zr]
   rw [e1]
   exact xo t (Ja (by decide) (jc (by decide)) (yq (by decide) (jf (by decide)) (uu rfl)))
end Go.Eng.Sy
namespace Go.Eng.Sy
open Go Go.Eng Go.Proofs
def tokD (m:Int) (d:Nm):List Tok:=[tkW [100,101,118,105,99,101] m,tkN d.name m,tkW (kindsL.getD d.n.toNat []) m]
def tokR (m:Int) (d:Nm):List Tok:=[tkW [114,101,115,111,117,114,99,101] m,tkN d.name m,tkI d.n.toNat m]
def zk1 (m:Int) (t:Tsk):List Tok:=[tkW (if t.handler then [104,97,110,100,108,101,114] else [116,97,115,107]) m,tkN t.name m,tkI t.hart.toNat m,tkI t.prio.toNat m]++(if t.handler then [tkI t.line.toNat m] else [])++[tkG [123] m]
def tokT (m:Int) (t:Tsk):List Tok:=zk1 m t++(Z7 (m + 1) t.body++[tkG [125] (m + 1 + uw t.body)])
def zw3 (m:Int):List Nm→List Tok
 | []=>[]
 | d::r=>tokD m d++zw3 (m + 1) r
def zw2 (m:Int):List Nm→List Tok
 | []=>[]
 | d::r=>tokR m d++zw2 (m + 1) r
def Vn (m:Int):List Tsk→List Tok
 | []=>[]
 | t::r=>tokT m t++Vn (m + (2 + uw t.body:Nat)) r
def lnTs:List Tsk→Nat
 | []=>0
 | t::r=>2 + uw t.body + lnTs r
def tokP (p:Prg):List Tok:=tkW [104,97,114,116,115] 1::tkI p.harts.toNat 1::(zw3 2 p.devs++(zw2 (2 + p.devs.length) p.ress++Vn (2 + p.devs.length + p.ress.length) p.tasks))
def lnP (p:Prg):Int:=2 + p.devs.length + p.ress.length + (lnTs p.tasks:Nat)
theorem Kw:∀ n:Int,1≤n∧n≤3→kindsL.getD n.toNat [] ∈ wordsL:=by
 intro n h
 have:n=1∨n=2∨n=3:=by omega
 rcases this with rfl | rfl | rfl<;>decide +kernel
theorem nx_ds:∀ (ds:List Nm),(∀ d ∈ ds,ww d=true) → ∀ (l:List UInt8) (m:Int) (ts:List Tok) (R:List Tok × Int × Bool),zn l (m + ds.length)=ki ts R→zn ((ds.map kb).flatten++l) m=ki (zw3 m ds++ts) R
 | [],_,l,m,ts,R,g=>by simpa [zw3] using g
 | d::r,h,l,m,ts,R,g=>by
  have hd:=h d (by simp)
  simp only [ww,Bool.and_eq_true,decide_eq_true_eq] at hd
  have g2:zn l (m + 1 + r.length)=ki ts R:=by rw [← g];congr 1;simp only [List.length_cons];omega
  have ih:=nx_ds r (fun x hx=>h x (by simp [hx])) l (m + 1) ts R g2
  have e1:((d::r).map kb).flatten++l=[100,101,118,105,99,101]++([32]++(d.name++([32]++(kindsL.getD d.n.toNat []++([10]++((r.map kb).flatten++l)))))):=by simp [kb,zr,yl]
  rw [e1]
  exact Ja (by decide) (jc (by decide)) (jq (xq hd.1 (jc (by decide)) (jq (Ja (Kw _ hd.2) (jc (by decide)) (uu ih)))))
theorem nx_rs:∀ (ds:List Nm),(∀ d ∈ ds,wv d=true) → ∀ (l:List UInt8) (m:Int) (ts:List Tok) (R:List Tok × Int × Bool),zn l (m + ds.length)=ki ts R→zn ((ds.map ky).flatten++l) m=ki (zw2 m ds++ts) R
 | [],_,l,m,ts,R,g=>by simpa [zw2] using g
 | d::r,h,l,m,ts,R,g=>by
  have hd:=h d (by simp)
  simp only [wv,Bool.and_eq_true,decide_eq_true_eq] at hd
  have g2:zn l (m + 1 + r.length)=ki ts R:=by rw [← g];congr 1;simp only [List.length_cons];omega
  have ih:=nx_rs r (fun x hx=>h x (by simp [hx])) l (m + 1) ts R g2
  have e1:((d::r).map ky).flatten++l=[114,101,115,111,117,114,99,101]++([32]++(d.name++([32]++(yv d.n.toNat++([10]++((r.map ky).flatten++l)))))):=by simp [ky,zr,yl]
  rw [e1]
  exact Ja (by decide) (jc (by decide)) (jq (xq hd.1 (jc (by decide)) (jq (uh (by omega) (jc (by decide)) (uu ih)))))
theorem nx_ts:∀ (ds:List Tsk),(∀ d ∈ ds,jn d=true) → ∀ (l:List UInt8) (m:Int) (ts:List Tok) (R:List Tok × Int × Bool),zn l (m + (lnTs ds:Nat))=ki ts R→zn ((ds.map y4).flatten++l) m=ki (Vn m ds++ts) R
 | [],_,l,m,ts,R,g=>by simpa [Vn,lnTs] using g
 | d::r,h,l,m,ts,R,g=>by
  have hd:=h d (by simp)
  simp only [jn,Bool.and_eq_true,decide_eq_true_eq,jx,List.all_eq_true] at hd
  obtain ⟨⟨⟨⟨h1,h2⟩,h3⟩,h4⟩,h5⟩:=hd
  have hl:d.line.toNat < 4294967296:=by cases hb:d.handler<;>simp [hb] at h4<;>omega
  have hs:∀ s ∈ d.body,SOk s:=fun s hs=>Vx 30 s ((xw 30 s).1 (h5 s hs))
  have g2:zn l (m + (2 + uw d.body:Nat) + (lnTs r:Nat))=ki ts R:=by rw [← g];congr 1;simp only [lnTs];omega
  have ih:=nx_ts r (fun x hx=>h x (by simp [hx])) l (m + (2 + uw d.body:Nat)) ts R g2
  have tail:∀ hd:List Tok,zn ([123]++([10]++(zl 1 d.body++([125]++([10]++((r.map y4).flatten++l)))))) m=ki (tkG [123] m::(Z7 (m + 1) d.body++(tkG [125] (m + 1 + uw d.body)::(Vn (m + (2 + uw d.body:Nat)) r++ts)))) R:=fun _=>by
   refine yq (by decide) (jf (by decide)) (uu (ya6 d.body hs _ _ _ _ _ (yq (by decide) (jf (by decide)) (uu ?_))))
   rw [← ih];congr 1;omega
  cases hb:d.handler with
  | true =>
   have e1:((d::r).map y4).flatten++l=[104,97,110,100,108,101,114]++([32]++(d.name++([32]++(yv d.hart.toNat++([32]++(yv d.prio.toNat++([32]++(yv d.line.toNat++([32]++([123]++([10]++(zl 1 d.body++([125]++([10]++((r.map y4).flatten++l))))))))))))))):=by simp [y4,Yv,zr,yl,hb]
   rw [e1]
   have:=Ja (w:=[104,97,110,100,108,101,114]) (by decide) (jc (by decide)) (jq (xq h1 (jc (by decide)) (jq (uh (n:=d.hart.toNat) (by omega) (jc (by decide)) (jq (uh (n:=d.prio.toNat) (by omega) (jc (by decide)) (jq (uh hl (jc (by decide)) (jq (tail []))))))))))
   rw [this]
   congr 1
   simp [Vn,tokT,zk1,hb]
  | false =>
   have e1:((d::r).map y4).flatten++l=[116,97,115,107]++([32]++(d.name++([32]++(yv d.hart.toNat++([32]++(yv d.prio.toNat++([32]++([123]++([10]++(zl 1 d.body++([125]++([10]++((r.map y4).flatten++l))))))))))))):=by simp [y4,Yv,zr,yl,hb]
   rw [e1]
   have:=Ja (w:=[116,97,115,107]) (by decide) (jc (by decide)) (jq (xq h1 (jc (by decide)) (jq (uh (n:=d.hart.toNat) (by omega) (jc (by decide)) (jq (uh (n:=d.prio.toNat) (by omega) (jc (by decide)) (jq (tail []))))))))
   rw [this]
   congr 1
   simp [Vn,tokT,zk1,hb]
theorem zx9 {p:Prg}(h1:0≤p.harts∧p.harts≤4) (h2:∀ d ∈ p.devs,ww d=true) (h3:∀ d ∈ p.ress,wv d=true) (h4:∀ d ∈ p.tasks,jn d=true):zn (kz p) 1=(tokP p,lnP p,true):=by
 have e1:kz p=[104,97,114,116,115]++([32]++(yv p.harts.toNat++([10]++((p.devs.map kb).flatten++((p.ress.map ky).flatten++((p.tasks.map y4).flatten++[])))))):=by simp [kz,zr,yl]
 have:=Ja (w:=[104,97,114,116,115]) (m:=1) (by decide) (jc (by decide)) (jq (uh (n:=p.harts.toNat) (by omega) (jc (by decide)) (uu (nx_ds p.devs h2 _ _ _ _ (nx_rs p.ress h3 _ _ _ _ (nx_ts p.tasks h4 [] _ [] (zn [] (1 + 1 + p.devs.length + p.ress.length + (lnTs p.tasks:Nat))) (Vi _).symm))))))
 rw [e1,this,zy1]
 simp only [ki,tokP,lnP,List.append_nil]
 congr 1
theorem za3 {p:Prg}(h1:0≤p.harts∧p.harts≤4) (h2:∀ d ∈ p.devs,ww d=true) (h3:∀ d ∈ p.ress,wv d=true) (h4:∀ d ∈ p.tasks,jn d=true) (hl:(kz p).length≤20000):Q1 (kz p)=(tokP p++[yd9 (lnP p)],0,0):=by
 unfold Q1
 rw [scanS_W,zx9 h1 h2 h3 h4,if_neg (by omega),if_pos rfl]
end Go.Eng.Sy
namespace Go.Eng.Sy
open Go Go.Eng Go.Proofs
inductive PR (α:Type) where
 | ok (a:α) (r:List Tok)
 | bad (e line:Int)
 | out
def PR.bind {α β:Type}(x:PR α) (g:α→List Tok→PR β):PR β:=match x with
 | .ok a r=>g a r
 | .bad e l=>.bad e l
 | .out=>.out
def hd (l:List Tok):Tok:=l.headD (yd9 0)
def isT (s:List UInt8) (t:Tok):Bool:=t.text == s && (t.kind == 2 || t.kind == 4)
def binOp (t:Tok):Int:=match (List.range' 1 14).find? (fun o=>isT (jl (o:Nat)) t) with | some o=>(o:Int) | none=>0
def unOp (t:Tok):Int:=match (List.range' 15 3).find? (fun o=>isT (jl (o:Nat)) t) with | some o=>(o:Int) | none=>0
end Go.Eng.Sy
namespace Go.Eng.Sy
open Go Go.Eng Go.Proofs
end Go.Eng.Sy
namespace Go.Eng.Sy
open Go Go.Eng Go.Proofs
end Go.Eng.Sy
namespace Go.Eng.Sy
open Go Go.Eng Go.Proofs
end Go.Eng.Sy
namespace Go.Eng.Sy
open Go Go.Eng Go.Proofs
end Go.Eng.Sy
namespace Go.Eng.Sy
open Go Go.Eng Go.Proofs
def brc (s:List UInt8):Int:=if s=[123]∨s=[40]∨s=[91] then 1 else if s=[125]∨s=[41]∨s=[93] then -1 else 0
def Ya:List Tok→Int
 | []=>0
 | t::r=>brc t.text + Ya r
def Bal (l:List Tok):Prop:=Ya l=0 ∧ ∀ i,0≤Ya (l.take i)
theorem vr:∀ a b:List Tok,Ya (a++b)=Ya a + Ya b
 | [],b=>by simp [Ya]
 | t::a,b=>by simp only [List.cons_append,Ya,vr a b];omega
theorem Bal.nil:Bal []:=⟨rfl,fun i=>by simp [Ya]⟩
theorem Bal.app {a b:List Tok}(ha:Bal a) (hb:Bal b):Bal (a++b):=⟨by rw [vr,ha.1,hb.1];rfl,fun i=>by
 rw [List.take_append,vr]
 have:=ha.2 i
 have:=hb.2 (i - a.length)
 omega⟩
theorem Bal.one {t:Tok}(h:brc t.text=0):Bal [t]:=⟨by simp [Ya,h],fun i=>by cases i<;>simp [Ya,h]⟩
theorem Bal.cons {t:Tok}{l:List Tok}(h:brc t.text=0) (hl:Bal l):Bal (t::l):=(Bal.one h).app hl
theorem Bal.wrap {t u:Tok}{l:List Tok}(h1:brc t.text=1) (h2:brc u.text = -1) (hl:Bal l):Bal (t::(l++[u])):=⟨by simp only [Ya,vr,hl.1,h1,h2];omega,fun i=>by
 cases i with
 | zero=>simp [Ya]
 | succ i =>
  rw [List.take_succ_cons,Ya,h1,List.take_append,vr]
  have h3:=hl.2 i
  have h4 : -1≤Ya (([u]:List Tok).take (i - l.length)):=by
   cases i - l.length<;>simp [Ya,h2]
  omega⟩
theorem zo7 {b:UInt8}{r:List UInt8}(h:nm b=true):brc (b::r)=0:=by
 have:b≠123∧b≠40∧b≠91∧b≠125∧b≠41∧b≠93:=by
  refine ⟨?_,?_,?_,?_,?_,?_⟩<;>(rintro rfl;revert h;decide)
 unfold brc
 rw [if_neg (by simp;exact ⟨fun h=>absurd h this.1,fun h=>absurd h this.2.1,fun h=>absurd h this.2.2.1⟩),if_neg (by simp;exact ⟨fun h=>absurd h this.2.2.2.1,fun h=>absurd h this.2.2.2.2.1,fun h=>absurd h this.2.2.2.2.2⟩)]
theorem jt {s:List UInt8}(h:zk s=true):brc s=0:=by
 obtain ⟨h0,h1,_⟩:=vj h
 cases s with
 | nil=>simp at h0
 | cons b r =>
  refine zo7 ?_
  rw [j4] at h1
  cases hc:nm b with
  | true=>rfl
  | false=>rw [hc] at h1;simp at h1
theorem wm (n:Nat):brc (yv n)=0:=by
 obtain ⟨b,r,e,hb⟩:=Jq n
 rw [e];exact zo7 (ud hb).2.1
theorem zo6:∀ o:Int,1≤o∧o≤17→brc (jl o)=0:=fun o h=>by
 have:o=1∨o=2∨o=3∨o=4∨o=5∨o=6∨o=7∨o=8∨o=9∨o=10∨o=11∨o=12∨o=13∨o=14∨o=15∨o=16∨o=17:=by omega
 rcases this with rfl | rfl | rfl | rfl | rfl | rfl | rfl | rfl | rfl | rfl | rfl | rfl | rfl | rfl | rfl | rfl | rfl<;>decide
theorem J4 {e:Ex}{m:Int}{k:Nat}(h:Bal (Y2 m e)):Bal (J8 m e k (Y2 m e)):=by
 unfold J8;split
 ·exact Bal.wrap rfl rfl h
 ·exact h
theorem Z1 {e:Ex}{d:Nat}(h:ExI e d):∀ m,Bal (Y2 m e):=by
 induction h with
 | num n d h=>intro m;exact Bal.one (wm n)
 | var s d h=>intro m;exact Bal.one (jt h)
 | one o a d h ha ih=>intro m;exact Bal.cons (zo6 o (by omega)) (J4 (ih m))
 | idx s a d h ha ih=>intro m;exact Bal.cons (jt h) (Bal.wrap (t:=tkG [91] m) (u:=tkG [93] m) rfl rfl (ih m))
 | two o a b d h ha hb iha ihb =>
  intro m
  exact (J4 (iha m)).app (Bal.cons (zo6 o (by omega)) (J4 (ihb m)))
theorem Xu:∀ (ss:List St),(∀ s ∈ ss,∀ m,Bal (tokS m s)) → ∀ m,Bal (Z7 m ss)
 | [],_,m=>Bal.nil
 | s::r,h,m=>(h s (by simp) m).app (Xu r (fun x hx=>h x (by simp [hx])) _)
theorem qo2 {m:Int}{hd th el:List Tok}{a b:Nat}{more:Bool}(h1:Bal hd) (h2:Bal th) (h3:Bal el):Bal (brT m hd th a el b more):=by
 unfold brT
 cases more with
 | false =>
  simp only [Bool.false_eq_true,if_false,List.nil_append]
  exact h1.app (Bal.wrap rfl rfl h2)
 | true =>
  simp only [if_true]
  have e:hd++tkG [123] m::(th++(tkG [125] (m + 1 + a)::tkW [101,108,115,101] (m + 1 + a)::tkG [123] (m + 1 + a)::el++[tkG [125] (m + 1 + a + 1 + b)]))=hd++((tkG [123] m::(th++[tkG [125] (m + 1 + a)]))++tkW [101,108,115,101] (m + 1 + a)::(tkG [123] (m + 1 + a)::(el++[tkG [125] (m + 1 + a + 1 + b)]))):=by simp
  rw [e]
  exact h1.app ((Bal.wrap rfl rfl h2).app (Bal.cons rfl (Bal.wrap rfl rfl h3)))
theorem zp2:∀ (d:Nat) (s:St),StI s d → ∀ m,Bal (tokS m s)
 | 0,s,h=>by cases h
 | d + 1,s,h=>by
  have ih:=zp2 d
  intro m
  have sg:∀ g:List UInt8,brc g=0→brc (tkG g m).text=0:=fun g h=>h
  cases h with
  | set s a _ h ha=>exact Bal.cons (jt h) (Bal.cons (sg [61] (by decide)) ((Z1 ha m).app (Bal.one (sg [59] (by decide)))))
  | get s f n _ h hf hn=>exact Bal.cons (jt h) (Bal.cons (sg [61] (by decide)) (Bal.cons (jt hf) (Bal.cons (sg [46] (by decide)) (Bal.cons (wm n) (Bal.one (sg [59] (by decide)))))))
  | put s n a _ h hn ha=>exact Bal.cons (jt h) (Bal.cons (sg [46] (by decide)) (Bal.cons (wm n) (Bal.cons (sg [61] (by decide)) ((Z1 ha m).app (Bal.one (sg [59] (by decide)))))))
  | store s a b _ h ha hb =>
   show Bal (tkN s m::tkG [91] m::(Y2 m a++tkG [93] m::tkG [61] m::(Y2 m b++[tkG [59] m])))
   have e:tkN s m::tkG [91] m::(Y2 m a++tkG [93] m::tkG [61] m::(Y2 m b++[tkG [59] m]))=tkN s m::((tkG [91] m::(Y2 m a++[tkG [93] m]))++tkG [61] m::(Y2 m b++[tkG [59] m])):=by simp
   rw [e]
   exact Bal.cons (jt h) ((Bal.wrap rfl rfl (Z1 ha m)).app (Bal.cons (sg [61] (by decide)) ((Z1 hb m).app (Bal.one (sg [59] (by decide))))))
  | lock s thn _ h ht=>exact qo2 (Bal.cons rfl (Bal.one (jt h))) (Xu thn (fun s hs=>ih s (ht s hs)) _) Bal.nil
  | rep n thn _ hn ht=>exact qo2 (Bal.cons rfl (Bal.one (wm n))) (Xu thn (fun s hs=>ih s (ht s hs)) _) Bal.nil
  | cond a thn els _ ha ht he=>exact qo2 (Bal.cons rfl (Bal.wrap (t:=tkG [40] m) (u:=tkG [41] m) rfl rfl (Z1 ha m))) (Xu thn (fun s hs=>ih s (ht s hs)) _) (Xu els (fun s hs=>ih s (he s hs)) _)
  | halt=>exact Bal.cons rfl (Bal.one (sg [59] (by decide)))
theorem bal_ds:∀ (ds:List Nm),(∀ d ∈ ds,ww d=true) → ∀ m,Bal (zw3 m ds)
 | [],_,m=>Bal.nil
 | d::r,h,m=>by
  have hd0:=h d (by simp)
  simp only [ww,Bool.and_eq_true,decide_eq_true_eq] at hd0
  have hw:∀ w ∈ wordsL,brc w=0:=by decide +kernel
  exact (Bal.cons rfl (Bal.cons (jt hd0.1) (Bal.one (hw _ (Kw _ hd0.2))))).app (bal_ds r (fun x hx=>h x (by simp [hx])) _)
theorem bal_rs:∀ (ds:List Nm),(∀ d ∈ ds,wv d=true) → ∀ m,Bal (zw2 m ds)
 | [],_,m=>Bal.nil
 | d::r,h,m=>by
  have hd0:=h d (by simp)
  simp only [wv,Bool.and_eq_true,decide_eq_true_eq] at hd0
  exact (Bal.cons rfl (Bal.cons (jt hd0.1) (Bal.one (wm _)))).app (bal_rs r (fun x hx=>h x (by simp [hx])) _)
theorem bal_ts:∀ (ts:List Tsk),(∀ t ∈ ts,jn t=true) → ∀ m,Bal (Vn m ts)
 | [],_,m=>Bal.nil
 | t::r,h,m=>by
  have ht:=h t (by simp)
  simp only [jn,Bool.and_eq_true,decide_eq_true_eq,jx,List.all_eq_true] at ht
  obtain ⟨⟨⟨⟨t1,_⟩,_⟩,_⟩,t5⟩:=ht
  have hb:=Xu t.body (fun s hs=>zp2 30 s ((xw 30 s).1 (t5 s hs))) (m + 1)
  refine Bal.app ?_ (bal_ts r (fun x hx=>h x (by simp [hx])) _)
  have e:tokT m t=(tkW (if t.handler then [104,97,110,100,108,101,114] else [116,97,115,107]) m::tkN t.name m::tkI t.hart.toNat m::tkI t.prio.toNat m::(if t.handler then [tkI t.line.toNat m] else []))++(tkG [123] m::(Z7 (m + 1) t.body++[tkG [125] (m + 1 + uw t.body)])):=by simp [tokT,zk1]
  rw [e]
  refine Bal.app ?_ (Bal.wrap rfl rfl hb)
  refine Bal.cons ?_ (Bal.cons (jt t1) (Bal.cons (wm _) (Bal.cons (wm _) ?_)))
  ·cases t.handler<;>rfl
  ·cases t.handler
   ·exact Bal.nil
   ·exact Bal.one (wm _)
theorem bal_prog {p:Prg}(h2:∀ d ∈ p.devs,ww d=true) (h3:∀ d ∈ p.ress,wv d=true) (h4:∀ d ∈ p.tasks,jn d=true) (k:Int):Bal (tokP p++[yd9 k]) :=
 (Bal.cons rfl (Bal.cons (wm _) ((bal_ds _ h2 _).app ((bal_rs _ h3 _).app (bal_ts _ h4 _))))).app (Bal.one (show brc []=0 by decide))
end Go.Eng.Sy
namespace Go.Eng.Sy
open Go Go.Eng Go.Proofs
end Go.Eng.Sy
namespace Go.Eng.Sy
open Go Go.Eng Go.Proofs
end Go.Eng.Sy
namespace Go.Eng.Sy
open Go Go.Eng Go.Proofs
end Go.Eng.Sy
