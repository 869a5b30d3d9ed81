/-
  Part of a proof of the laws of layer 06 (syntax): what each function does.
  Conditions: none.
-/
import Derived.Test.YtgjipdebbflbpaaGreatDoorBs
set_option linter.unusedSimpArgs false
set_option linter.unusedVariables false
namespace Go.Eng.Sy
open Go Go.Eng Go.Proofs
theorem vn:∀ (k:Nat) (l:List UInt8) (m:Int),l.length < k→ww k l m=ww (l.length + 1) l m
 | 0,l,m,h=>by omega
 | k + 1,[],m,h=>by simp [ww]
 | k + 1,b::r,m,h=>by
  have key:∀ (w:Nat),0 < w→ww k (skip false ((b::r).drop w) m).1 (skip false ((b::r).drop w) m).2=ww (b::r).length (skip false ((b::r).drop w) m).1 (skip false ((b::r).drop w) m).2:=by
   intro w hw
   have h1:=wh false ((b::r).drop w) m
   have h2:((b::r).drop w).length=(b::r).length - w:=by simp
   have h3:(b::r).length=r.length + 1:=rfl
   rw [vn k _ _ (by omega),vn (b::r).length _ _ (by omega)]
  show ww (k + 1) (b::r) m=ww ((b::r).length + 1) (b::r) m
  unfold ww
  split
  ·rename_i hr
   rw [key _ hr]
  ·split
   ·rename_i g hg
    rw [key _ (Wy hg).1]
   ·rfl
 termination_by k=>k
 decreasing_by all_goals (simp only [List.length_cons] at *;omega)
def zp (l:List UInt8) (m:Int):List Tok × Int × Bool:=ww (l.length + 1) (skip false l m).1 (skip false l m).2
theorem Z6 (l:List UInt8) (m:Int){k:Nat}(h:l.length < k):ww k (skip false l m).1 (skip false l m).2=zp l m:=by
 have h1:=wh false l m
 unfold zp
 rw [vn k _ _ (by omega),vn (l.length + 1) _ _ (by omega)]
theorem J8 {a b:List UInt8}{m n:Int}(h:skip false a m=skip false b n) (hl:b.length≤a.length):zp a m=zp b n:=by
 unfold zp
 rw [h]
 exact Z6 b n (by omega)
theorem nm_not {b:UInt8}(h:nm b=true):zw6 b=false∧b≠10∧b≠35:=by
 have:∀ n:Fin 256,nm (UInt8.ofNat n.val)=true→zw6 (UInt8.ofNat n.val)=false∧UInt8.ofNat n.val≠10∧UInt8.ofNat n.val≠35:=by decide +kernel
 have:=this ⟨b.toNat,u8_lt b⟩
 simp only [UInt8.ofNat_toNat] at this
 exact this h
theorem kp (b:UInt8) (l:List UInt8):wx (b::l)=if nm b then wx l + 1 else 0:=by
 unfold wx
 rw [List.takeWhile_cons]
 split<;>simp
theorem zg3:∀ {w:List UInt8}(r:List UInt8),wx w=w.length→wx (w++r)=w.length + wx r
 | [],r,_=>by simp
 | b::w,r,h=>by
  rw [kp] at h
  rw [List.cons_append,kp]
  split at h
  ·rename_i hb
   rw [if_pos hb,zg3 r (by simpa using h)]
   simp;omega
  ·simp at h
theorem zl1:∀ w ∈ signsL,∃ b r,w=b::r∧nm b=false∧zw6 b=false∧b≠10∧b≠35:=by
 intro w hw
 have:∀ w ∈ signsL,w≠[]∧nm (w.headD 0)=false∧zw6 (w.headD 0)=false∧w.headD 0≠10∧w.headD 0≠35:=by decide +kernel
 obtain ⟨h1,h2⟩:=this w hw
 cases w with
 | nil=>exact absurd rfl h1
 | cons b r=>exact ⟨b,r,rfl,h2⟩
theorem zr0 {b:UInt8}{r:List UInt8}(m:Int) (h:zw6 b=false∧b≠10∧b≠35):skip false (b::r) m=(b::r,m):=by
 simp [skip,h.1,h.2.1,h.2.2]
theorem W4 (m:Int):zp [] m=([],m,true):=rfl
theorem Vg {base:Nat}:∀ (a b:List UInt8) (n:Nat),Jw base (a++b) n=(Jw base a n).bind (Jw base b)
 | [],b,n=>rfl
 | x::a,b,n=>by
  rw [List.cons_append]
  unfold Jw
  cases dig x with
  | none=>rfl
  | some d =>
   simp only
   split
   ·rfl
   ·split
    ·rfl
    ·exact Vg a b _
theorem dig_dec:∀ d:Fin 10,dig (UInt8.ofNat (48 + d.val))=some d.val:=by decide +kernel
theorem zm1:∀ (n:Nat),Jw 10 (yo n) 0=if n≤4294967295 then some n else none:=by
 intro n
 induction n using Nat.strongRecOn with
 | _ n ih =>
 have hd:=dig_dec ⟨n % 10,Nat.mod_lt _ (by omega)⟩
 simp only at hd
 rw [yo]
 split
 ·rename_i h10
  rw [Vg,ih (n / 10) (by omega)]
  by_cases hs:n / 10≤4294967295
  ·rw [if_pos hs]
   simp only [Option.bind_some,Jw,hd]
   rw [if_neg (by omega)]
   by_cases hn:n≤4294967295
   ·rw [if_pos hn,if_neg (by omega)];congr 1;omega
   ·rw [if_neg hn,if_pos (by omega)]
  ·rw [if_neg hs,if_neg (by omega)];rfl
 ·rename_i h10
  simp only [Jw,hd]
  rw [if_neg (by omega),if_neg (by omega),if_pos (by omega)]
  congr 1;omega
def isDg (b:UInt8):Bool:=decide (48≤b.toNat) && decide (b.toNat≤57)
theorem Yz (n:Nat):∀ b ∈ yo n,isDg b=true:=by
 induction n using Nat.strongRecOn with
 | _ n ih =>
 have h1:isDg (UInt8.ofNat (48 + n % 10))=true:=by
  have:∀ d:Fin 10,isDg (UInt8.ofNat (48 + d.val))=true:=by decide +kernel
  exact this ⟨n % 10,Nat.mod_lt _ (by omega)⟩
 rw [yo]
 split
 ·intro b hb
  rcases List.mem_append.1 hb with hb | hb
  ·exact ih (n / 10) (by omega) b hb
  ·rw [List.mem_singleton.1 hb];exact h1
 ·intro b hb;rw [List.mem_singleton.1 hb];exact h1
theorem Zr {b:UInt8}(h:isDg b=true):Lib.lowerB b=b∧nm b=true∧b≠120∧b.toNat≤57:=by
 have:∀ n:Fin 256,isDg (UInt8.ofNat n.val)=true→Lib.lowerB (UInt8.ofNat n.val)=UInt8.ofNat n.val∧nm (UInt8.ofNat n.val)=true∧UInt8.ofNat n.val≠120∧(UInt8.ofNat n.val).toNat≤57:=by decide +kernel
 have:=this ⟨b.toNat,u8_lt b⟩
 simp only [UInt8.ofNat_toNat] at this
 exact this h
theorem Wi (n:Nat):∃ b r,yo n=b::r∧isDg b=true:=by
 have h:=Yz n
 have hl:yo n≠[]:=by rw [yo];split<;>simp
 cases hd:yo n with
 | nil=>exact absurd hd hl
 | cons b r=>exact ⟨b,r,rfl,h b (by rw [hd];simp)⟩
theorem zy9 (n:Nat) (hn:0 < n):(yo n).head? ≠ some 48:=by
 induction n using Nat.strongRecOn with
 | _ n ih =>
 rw [yo]
 split
 ·rename_i h10
  obtain ⟨b,r,hb,_⟩:=Wi (n / 10)
  have:=ih (n / 10) (by omega) (by omega)
  rw [hb] at this ⊢
  simpa using this
 ·rename_i h10
  have:∀ d:Fin 10,0 < d.val→UInt8.ofNat (48 + d.val % 10)≠48:=by decide +kernel
  have:=this ⟨n,by omega⟩ hn
  simpa using this
theorem low_map {l:List UInt8}(h:∀ b ∈ l,Lib.lowerB b=b):Lib.toLowerA l=l:=by
 unfold Lib.toLowerA
 conv=>rhs;rw [← List.map_id l]
 exact List.map_congr_left fun b hb=>by simpa using h b hb
theorem runN_all {l:List UInt8}(h:∀ b ∈ l,nm b=true):wx l=l.length:=by
 induction l with
 | nil=>rfl
 | cons b r ih=>rw [kp,if_pos (h b (by simp)),ih fun x hx=>h x (by simp [hx])];rfl
theorem pre_dec {l:List UInt8}(h:∀ b ∈ l,b≠120):[48,120].isPrefixOf l=false:=by
 cases hp:[48,120].isPrefixOf l with
 | false=>rfl
 | true =>
  obtain ⟨r,hr⟩:=List.isPrefixOf_iff_prefix.1 hp
  exact absurd rfl (h 120 (by rw [← hr];simp))
theorem digs_dec {l:List UInt8}(h:∀ b ∈ l,b≠120):digs l=(l,10):=by
 unfold digs;rw [pre_dec h];rfl
theorem zu1 {base:Nat}{l:List UInt8}(h:l≠[]):parseU base l=Jw base l 0:=by
 cases l with
 | nil=>exact absurd rfl h
 | cons=>rfl
theorem zm3 {k:Nat}(hk:k≤4294967295):zh4 (yo k)=some k:=by
 have hd:∀ b ∈ yo k,b≠120:=fun b hb=>(Zr (Yz k b hb)).2.2.1
 obtain ⟨b,r,hb,_⟩:=Wi k
 have hne:yo k≠[]:=by rw [hb];simp
 have hl:=kf 9 k (by omega)
 have hlow:=low_map fun b hb=>(Zr (Yz k b hb)).1
 unfold zh4 nought
 rw [digs_dec hd]
 simp only
 rw [zu1 hne,zm1,if_pos hk]
 simp only
 rw [if_neg]
 simp only [hlow,Bool.or_eq_true,Bool.and_eq_true,decide_eq_true_eq,beq_iff_eq,Bool.not_eq_true',beq_self_eq_true,Bool.not_true,Bool.false_eq_true,or_false,true_and,not_or,not_and]
 refine ⟨by omega,fun h1 h2=>?_⟩
 rcases Nat.eq_zero_or_pos k with rfl | hp
 ·have:(yo 0).length=1:=by rw [yo];rfl
  omega
 ·exact zy9 k hp h2
theorem zp9 {l:List UInt8}(h:vf l=true):∃ b r,l=b::r∧57 < b.toNat:=by
 have:∀ w ∈ wordsL,w≠[]∧57 < (w.headD 0).toNat:=by decide +kernel
 obtain ⟨h1,h2⟩:=this l (by simpa [vf] using h)
 cases l with
 | nil=>exact absurd rfl h1
 | cons b r=>exact ⟨b,r,rfl,h2⟩
theorem zn5 {b:UInt8}{r:List UInt8}(h:b.toNat≤57):vf (b::r)=false∧zm (b::r)=false:=by
 constructor
 ·cases hw:vf (b::r) with
  | false=>rfl
  | true =>
   obtain ⟨b',r',he,hb⟩:=zp9 hw
   cases he;omega
 ·unfold zm
  have:¬ (57:Int) < (b.toNat:Int):=by omega
  simp [this]
theorem scanW_nl (r:List UInt8) (m:Int):zp (10::r) m=zp r (m + 1):=J8 (by simp [skip,zw6]) (by simp)
theorem Yu {b:UInt8}(hb:zw6 b=true) (r:List UInt8) (m:Int):zp (b::r) m=zp r m:=J8 (by simp [skip,hb]) (by simp)
theorem J9 {b:UInt8}{r:List UInt8}(m:Int) (h:zw6 b=false∧b≠10∧b≠35):zp (b::r) m=ww ((b::r).length + 1) (b::r) m:=by
 unfold zp
 rw [zr0 m h]
theorem zr3 {b:UInt8}{r:List UInt8}(m:Int) (h:zw6 b=false∧b≠10∧b≠35) (hr:0 < wx (b::r)) (hk:(oneS ((b::r).take (wx (b::r)))).2=true) :
  zp (b::r) m=({ (oneS ((b::r).take (wx (b::r)))).1 with line:=m }::(zp ((b::r).drop (wx (b::r))) m).1,(zp ((b::r).drop (wx (b::r))) m).2):=by
 rw [J9 m h,ww,if_pos hr,if_pos hk,Z6 _ m (by simp only [List.length_drop];have:=zr7 (b::r);simp only [List.length_cons] at *;omega)]
theorem zl3 {b:UInt8}{r:List UInt8}(m:Int) (h:zw6 b=false∧b≠10∧b≠35) (hr:wx (b::r)=0){g:List UInt8}(hg:signsL.find? (·.isPrefixOf (b::r))=some g) :
  zp (b::r) m=(⟨4,g,0,m⟩::(zp ((b::r).drop g.length) m).1,(zp ((b::r).drop g.length) m).2):=by
 have h1:=Wy hg
 rw [J9 m h,ww,if_neg (by omega),hg]
 simp only
 rw [Z6 _ m (by simp only [List.length_drop,List.length_cons] at *;omega)]
end Go.Eng.Sy
namespace Go.Eng.Sy
open Go Go.Eng Go.Proofs
def tkW (w:List UInt8) (m:Int):Tok:=⟨2,w,0,m⟩
def tkN (s:List UInt8) (m:Int):Tok:=⟨1,s,0,m⟩
def tkI (n:Nat) (m:Int):Tok:=⟨3,yo n,n,m⟩
def tkG (g:List UInt8) (m:Int):Tok:=⟨4,g,0,m⟩
def j4 (ts:List Tok) (r:List Tok × Int × Bool):List Tok × Int × Bool:=(ts++r.1,r.2)
theorem Wk (r:List Tok × Int × Bool):j4 [] r=r:=rfl
theorem qf (a b:List Tok) (r:List Tok × Int × Bool):j4 a (j4 b r)=j4 (a++b) r:=by simp [j4,List.append_assoc]
def fol (l:List UInt8):Prop:=∀ b r,l=b::r→nm b=false
def Uy (l:List UInt8):Prop:=∀ b r,l=b::r→b≠46∧b≠60∧b≠61∧b≠62
def del (l:List UInt8):Prop:=fol l∧Uy l
theorem fol_run {l:List UInt8}(h:fol l):wx l=0:=by
 cases l with
 | nil=>rfl
 | cons b r=>rw [kp,h b r rfl];rfl
theorem Xw {w:List UInt8}{t:Tok}(h0:0 < w.length) (h1:wx w=w.length) (h2:oneS w=(t,true)){l:List UInt8}(hl:fol l) (m:Int):zp (w++l) m=j4 [{ t with line:=m }] (zp l m):=by
 cases w with
 | nil=>simp at h0
 | cons b r =>
  have hb:nm b=true:=by
   rw [kp] at h1
   cases hc:nm b with
   | true=>rfl
   | false=>rw [hc] at h1;simp at h1
  have hr:wx (b::(r++l))=(b::r).length:=by
   have:=zg3 (w:=b::r) l h1
   rw [fol_run hl] at this
   simpa using this
  have ht:(b::(r++l)).take (b::r).length=b::r:=by
   rw [← List.cons_append,List.take_left'];rfl
  have hd:(b::(r++l)).drop (b::r).length=l:=by
   rw [← List.cons_append,List.drop_left'];rfl
  rw [List.cons_append,zr3 m (nm_not hb) (by rw [hr];simp) (by rw [hr,ht,h2]),hr,ht,hd,h2]
  rfl
theorem Ye {s:List UInt8}(h:zm s=true):0 < s.length∧wx s=s.length∧vf s=false:=by
 unfold zm at h
 cases s with
 | nil=>cases h
 | cons b r =>
  simp only [Bool.and_eq_true,beq_iff_eq,Bool.not_eq_true',decide_eq_true_eq] at h
  exact ⟨by simp,h.1.1.2,h.2⟩
theorem Qf {s:List UInt8}(h:zm s=true){l:List UInt8}(hl:fol l) (m:Int):zp (s++l) m=j4 [tkN s m] (zp l m):=by
 obtain ⟨h0,h1,h2⟩:=Ye h
 rw [Xw h0 h1 (t:=⟨1,s,0,0⟩) (by unfold oneS;rw [h2,h];rfl) hl m]
 rfl
theorem scan_kw {w:List UInt8}(h:w ∈ wordsL){l:List UInt8}(hl:fol l) (m:Int):zp (w++l) m=j4 [tkW w m] (zp l m):=by
 have hw:∀ w ∈ wordsL,0 < w.length∧wx w=w.length∧vf w=true:=by decide +kernel
 obtain ⟨h0,h1,h2⟩:=hw w h
 rw [Xw h0 h1 (t:=⟨2,w,0,0⟩) (by unfold oneS;rw [h2];rfl) hl m]
 rfl
theorem zg2 {n:Nat}(hn:n < 4294967296){l:List UInt8}(hl:fol l) (m:Int):zp (yo n++l) m=j4 [tkI n m] (zp l m):=by
 obtain ⟨b,r,e,hb⟩:=Wi n
 have hd:=zn5 (b:=b) (r:=r) (Zr hb).2.2.2
 rw [Xw (w:=yo n) (t:=⟨3,yo n,n,0⟩) (by rw [e];simp) (runN_all fun x hx=>(Zr (Yz n x hx)).2.1) (by unfold oneS;rw [e,hd.1,hd.2,← e,zm3 (by omega)];rfl) hl m]
 rfl
theorem zr1 {g:List UInt8}(hg:g ∈ signsL){l:List UInt8}(hl:Uy l):signsL.find? (·.isPrefixOf (g++l))=some g:=by
 cases l with
 | nil =>
  rw [List.append_nil]
  revert g;decide +kernel
 | cons b r =>
  obtain ⟨h1,h2,h3,h4⟩:=hl b r rfl
  have e1:(46 == b)=false:=by simpa using h1.symm
  have e2:(60 == b)=false:=by simpa using h2.symm
  have e3:(61 == b)=false:=by simpa using h3.symm
  have e4:(62 == b)=false:=by simpa using h4.symm
  simp only [signsL,List.mem_cons,List.not_mem_nil,or_false] at hg
  rcases hg with rfl | rfl | rfl | rfl | rfl | rfl | rfl | rfl | rfl | rfl | rfl | rfl | rfl | rfl | rfl | rfl | rfl | rfl | rfl | rfl | rfl | rfl | rfl | rfl | rfl <;>
   simp [signsL,List.find?,List.isPrefixOf,e1,e2,e3,e4]
theorem ko {g:List UInt8}(hg:g ∈ signsL){l:List UInt8}(hl:Uy l) (m:Int):zp (g++l) m=j4 [tkG g m] (zp l m):=by
 obtain ⟨b,r,e,h1,h2⟩:=zl1 g hg
 have hf:=zr1 hg hl
 subst e
 rw [List.cons_append] at hf ⊢
 rw [zl3 m h2 (by rw [kp,h1];rfl) hf,← List.cons_append,List.drop_left' rfl]
 rfl
theorem Wz:∀ (o:Int),1≤o∧o≤17→qg o ∈ signsL:=by
 intro o h
 have:o=1∨o=2∨o=3∨o=4∨o=5∨o=6∨o=7∨o=8∨o=9∨o=10∨o=11∨o=12∨o=13∨o=14∨o=15∨o=16∨o=17:=by omega
 rcases this with rfl | rfl | rfl | rfl | rfl | rfl | rfl | rfl | rfl | rfl | rfl | rfl | rfl | rfl | rfl | rfl | rfl<;>decide +kernel
def wv (m:Int) (e:Ex) (least:Nat) (s:List Tok):List Tok:=if e.kind=4∧zn e.op < least then tkG [40] m::(s++[tkG [41] m]) else s
def mkTok (m k o n:Int) (s:List UInt8) (ts:List (Ex × List Tok)):List Tok :=
 if k=1 then [tkI n.toNat m]
 else if k=5 then match ts with | a::_=>tkN s m::tkG [91] m::(a.2++[tkG [93] m]) | []=>[]
 else if k=3 then match ts with | a::_=>tkG (qg o) m::wv m a.1 9 a.2 | []=>[]
 else if k=4 then match ts with | a::b::_=>wv m a.1 (zn o) a.2++tkG (qg o) m::wv m b.1 (zn o + 1) b.2 | _=>[]
 else [tkN s m]
mutual
def jx (m:Int):Ex→List Tok
 | .mk k o n s args=>mkTok m k o n s (tokEs m args)
def tokEs (m:Int):List Ex→List (Ex × List Tok)
 | []=>[]
 | e::r=>(e,jx m e)::tokEs m r
end
theorem Yy {b:UInt8}{l:List UInt8}(h:nm b=false∧b≠46∧b≠60∧b≠61∧b≠62):del (b::l):=⟨fun b' r e=>by cases e;exact h.1,fun b' r e=>by cases e;exact h.2⟩
theorem kj {b:UInt8}{l:List UInt8}(h:b≠46∧b≠60∧b≠61∧b≠62):Uy (b::l):=fun b' r e=>by cases e;exact h
theorem zh8 {b:UInt8}{l:List UInt8}(h:nm b=false):fol (b::l):=fun b' r e=>by cases e;exact h
theorem zv2 {b:UInt8}(h:nm b=true):b≠46∧b≠60∧b≠61∧b≠62:=by
 refine ⟨?_,?_,?_,?_⟩<;>(rintro rfl;revert h;decide)
theorem W0 {s:List UInt8}(h:zm s=true) (l:List UInt8):Uy (s++l):=by
 obtain ⟨h0,h1,_⟩:=Ye h
 cases s with
 | nil=>simp at h0
 | cons b r =>
  refine kj (zv2 ?_)
  rw [kp] at h1
  cases hc:nm b with
  | true=>rfl
  | false=>rw [hc] at h1;simp at h1
theorem Xv (n:Nat) (l:List UInt8):Uy (yo n++l):=by
 obtain ⟨b,r,e,hb⟩:=Wi n
 rw [e]
 exact kj (zv2 (Zr hb).2.1)
theorem ki {e:Ex}{d:Nat}(h:ExI e d):∀ l,Uy (zo e++l):=by
 induction h with
 | num n d h=>intro l;exact Xv _ l
 | var s d h=>intro l;exact W0 h l
 | one o a d h ha ih =>
  intro l
  have:∀ o:Int,15≤o∧o≤17 → ∃ b,qg o=[b]∧b≠46∧b≠60∧b≠61∧b≠62:=fun o h=>by
   have:o=15∨o=16∨o=17:=by omega
   rcases this with rfl | rfl | rfl<;>exact ⟨_,rfl,by decide⟩
  obtain ⟨b,e1,e2⟩:=this o h
  show Uy ((qg o++xi a 9 (zo a))++l)
  rw [e1];exact kj e2
 | two o a b d h ha hb iha ihb =>
  intro l
  show Uy ((xi a (zn o) (zo a)++32::(qg o++32::xi b (zn o + 1) (zo b)))++l)
  rw [List.append_assoc]
  unfold xi
  split
  ·exact kj (by decide)
  ·exact iha _
 | idx s a d h ha ih =>
  intro l
  show Uy ((s++91::(zo a++[93]))++l)
  rw [List.append_assoc];exact W0 h _
theorem Qd {e:Ex}(ih:∀ l m,del l→zp (zo e++l) m=j4 (jx m e) (zp l m)) (hs:∀ l,Uy (zo e++l)) (k:Nat) (l:List UInt8) (m:Int) (hl:del l):zp (xi e k (zo e)++l) m=j4 (wv m e k (jx m e)) (zp l m):=by
 unfold xi wv
 split
 ·have e1:(40::(zo e++[41]))++l=[40]++(zo e++([41]++l)):=by simp
  rw [e1,ko (by decide) (hs _),ih ([41]++l) m (show del (41::l) from Yy (by decide)),ko (by decide) hl.2,qf,qf]
  rfl
 ·exact ih l m hl
theorem Qe {e:Ex}{d:Nat}(h:ExI e d):∀ l m,del l→zp (zo e++l) m=j4 (jx m e) (zp l m):=by
 induction h with
 | num n d h=>intro l m hl;exact zg2 h hl.1 m
 | var s d h=>intro l m hl;exact Qf h hl.1 m
 | one o a d h ha ih =>
  intro l m hl
  show zp ((qg o++xi a 9 (zo a))++l) m=j4 (tkG (qg o) m::wv m a 9 (jx m a)) _
  rw [List.append_assoc,ko (Wz o (by omega)) (by unfold xi;split;exact kj (by decide);exact ki ha _),Qd ih (ki ha) 9 l m hl,qf]
  rfl
 | two o a b d h ha hb iha ihb =>
  intro l m hl
  show zp ((xi a (zn o) (zo a)++32::(qg o++32::xi b (zn o + 1) (zo b)))++l) m=j4 (wv m a (zn o) (jx m a)++tkG (qg o) m::wv m b (zn o + 1) (jx m b)) _
  have e1:(xi a (zn o) (zo a)++32::(qg o++32::xi b (zn o + 1) (zo b)))++l=xi a (zn o) (zo a)++32::(qg o++32::(xi b (zn o + 1) (zo b)++l)):=by simp
  rw [e1,Qd iha (ki ha) _ _ m (Yy (by decide)),Yu (by decide),ko (Wz o (by omega)) (kj (by decide)),Yu (by decide),Qd ihb (ki hb) _ l m hl,qf,qf]
  congr 1
  simp
 | idx s a d h ha ih =>
  intro l m hl
  show zp ((s++91::(zo a++[93]))++l) m=j4 (tkN s m::tkG [91] m::(jx m a++[tkG [93] m])) _
  have e1:(s++91::(zo a++[93]))++l=s++([91]++(zo a++([93]++l))):=by simp
  rw [e1,Qf h (l:=[91]++(zo a++([93]++l))) (zh8 (by decide)),ko (by decide) (ki ha _),ih ([93]++l) m (show del (93::l) from Yy (by decide)),ko (by decide) hl.2,qf,qf,qf]
  congr 1
end Go.Eng.Sy
namespace Go.Eng.Sy
open Go Go.Eng Go.Proofs
section
variable {l:List UInt8}{m:Int}{ts:List Tok}{R X:List Tok × Int × Bool}
theorem xl {s:List UInt8}(h:zm s=true) (hl:fol l) (g:zp l m=j4 ts R):zp (s++l) m=j4 (tkN s m::ts) R:=by
 rw [Qf h hl,g,qf];rfl
theorem Qo {w:List UInt8}(h:w ∈ wordsL) (hl:fol l) (g:zp l m=j4 ts R):zp (w++l) m=j4 (tkW w m::ts) R:=by
 rw [scan_kw h hl,g,qf];rfl
theorem vx {n:Nat}(h:n < 4294967296) (hl:fol l) (g:zp l m=j4 ts R):zp (yo n++l) m=j4 (tkI n m::ts) R:=by
 rw [zg2 h hl,g,qf];rfl
theorem yn {s:List UInt8}(h:s ∈ signsL) (hl:Uy l) (g:zp l m=j4 ts R):zp (s++l) m=j4 (tkG s m::ts) R:=by
 rw [ko h hl,g,qf];rfl
theorem Qn {e:Ex}{d:Nat}(h:ExI e d) (hl:del l) (g:zp l m=j4 ts R):zp (zo e++l) m=j4 (jx m e++ts) R:=by
 rw [Qe h l m hl,g,qf]
theorem jl (g:zp l m=X):zp ([32]++l) m=X:=by
 rw [← g];exact Yu (by decide) l m
theorem ui (g:zp l (m + 1)=X):zp ([10]++l) m=X:=by
 rw [← g];exact scanW_nl l m
theorem xj (t:Nat) (g:zp l m=X):zp (yi t++l) m=X:=by
 rw [← g]
 induction t with
 | zero=>rfl
 | succ t ih =>
  rw [show yi (t + 1)++l=9::(yi t++l) from rfl,Yu (by decide),ih]
end
theorem qy {b:UInt8}{l:List UInt8}(h:nm b=false):fol ([b]++l):=zh8 h
theorem ja {b:UInt8}{l:List UInt8}(h:b≠46∧b≠60∧b≠61∧b≠62):Uy ([b]++l):=kj h
theorem zy7 {b:UInt8}{l:List UInt8}(h:nm b=false∧b≠46∧b≠60∧b≠61∧b≠62):del ([b]++l):=Yy h
mutual
def lnS:St→Nat
 | .mk k _ _ _ _ thn els=>if k=5∨k=6∨k=7 then 2 + ql thn + (if els.isEmpty then 0 else 1 + ql els) else 1
def ql:List St→Nat
 | []=>0
 | s::r=>lnS s + ql r
end
def brT (m:Int) (head th:List Tok) (a:Nat) (el:List Tok) (b:Nat) (more:Bool):List Tok :=
 head++tkG [123] m::(th++((if more then tkG [125] (m + 1 + a)::tkW [101,108,115,101] (m + 1 + a)::tkG [123] (m + 1 + a)::el else [])++[tkG [125] (if more then m + 1 + a + 1 + b else m + 1 + a)]))
def mkST (m k:Int) (s f:List UInt8) (n:Int) (ts:List (List Tok)) (th:List Tok) (a:Nat) (el:List Tok) (b:Nat) (more:Bool):List Tok :=
 if k=1 then tkN s m::tkG [61] m::(ts.getD 0 []++[tkG [59] m])
 else if k=2 then [tkN s m,tkG [61] m,tkN f m,tkG [46] m,tkI n.toNat m,tkG [59] m]
 else if k=3 then tkN s m::tkG [46] m::tkI n.toNat m::tkG [61] m::(ts.getD 0 []++[tkG [59] m])
 else if k=4 then tkN s m::tkG [91] m::(ts.getD 0 []++tkG [93] m::tkG [61] m::(ts.getD 1 []++[tkG [59] m]))
 else if k=8 then [tkW [104,97,108,116] m,tkG [59] m]
 else if k=5 then brT m [tkW [108,111,99,107] m,tkN s m] th a el b more
 else if k=7 then brT m [tkW [114,101,112,101,97,116] m,tkI n.toNat m] th a el b more
 else if k=6 then brT m (tkW [105,102] m::tkG [40] m::(ts.getD 0 []++[tkG [41] m])) th a el b more
 else []
mutual
def zl0 (m:Int):St→List Tok
 | .mk k s f n args thn els=>mkST m k s f n (args.map (jx m)) (ji (m + 1) thn) (ql thn) (ji (m + 1 + ql thn + 1) els) (ql els) (!els.isEmpty)
def ji (m:Int):List St→List Tok
 | []=>[]
 | s::r=>zl0 m s++ji (m + lnS s) r
end
def SOk (s:St):Prop:=∀ (t:Nat) (l:List UInt8) (m:Int),zp (qe t s++l) m=j4 (zl0 m s) (zp l (m + lnS s))
theorem zu9:∀ (ss:List St),(∀ s ∈ ss,SOk s) → ∀ (t:Nat) (l:List UInt8) (m:Int) (ts:List Tok) (R:List Tok × Int × Bool),zp l (m + ql ss)=j4 ts R→zp (zl t ss++l) m=j4 (ji m ss++ts) R
 | [],_,t,l,m,ts,R,g=>by simpa [zl,ji,ql] using g
 | s::r,h,t,l,m,ts,R,g=>by
  have g2:zp l (m + lnS s + ql r)=j4 ts R:=by
   rw [← g];congr 1;simp only [ql];omega
  rw [show zl t (s::r)=qe t s++zl t r from rfl,List.append_assoc,h s (by simp),zu9 r (fun x hx=>h x (by simp [hx])) t l (m + lnS s) ts R g2,qf,← List.append_assoc]
  rfl
theorem nx_br {t:Nat}{head:List UInt8}{hd:List Tok}{thn els:List St}{l:List UInt8}{m:Int}(hh:∀ x ts R,fol x→Uy x→zp x m=j4 ts R→zp (head++x) m=j4 (hd++ts) R) (h1:∀ s ∈ thn,SOk s) (h2:∀ s ∈ els,SOk s) :
  zp (qq t head (zl (t + 1) thn) (zl (t + 1) els) (!els.isEmpty)++l) m=j4 (brT m hd (ji (m + 1) thn) (ql thn) (ji (m + 1 + ql thn + 1) els) (ql els) (!els.isEmpty)) (zp l (m + (2 + ql thn + (if els.isEmpty then 0 else 1 + ql els):Nat))):=by
 unfold qq brT zt
 cases hE:els.isEmpty with
 | true =>
  simp only [Bool.not_true,Bool.false_eq_true,if_false,if_true,List.append_nil,List.nil_append]
  have e1:(yi t++[head,[32,123]].flatten++[10]++zl (t + 1) thn++(yi t++[[125]].flatten++[10]))++l=yi t++(head++([32]++([123]++([10]++(zl (t + 1) thn++(yi t++([125]++([10]++l)))))))):=by simp
  rw [e1]
  refine xj t (hh _ _ _ (qy (by decide)) (ja (by decide)) (jl (yn (by decide) (ja (by decide)) (ui (zu9 thn h1 _ _ _ _ _ (xj t (yn (by decide) (ja (by decide)) (ui ?_))))))))
  rw [Wk];congr 1;omega
 | false =>
  simp only [Bool.not_false,Bool.false_eq_true,if_false,if_true]
  have e1:(yi t++[head,[32,123]].flatten++[10]++zl (t + 1) thn++(yi t++[[125,32,101,108,115,101,32,123]].flatten++[10]++zl (t + 1) els)++(yi t++[[125]].flatten++[10]))++l=yi t++(head++([32]++([123]++([10]++(zl (t + 1) thn++(yi t++([125]++([32]++([101,108,115,101]++([32]++([123]++([10]++(zl (t + 1) els++(yi t++([125]++([10]++l)))))))))))))))):=by simp
  rw [e1]
  have key:zp (yi t++(head++([32]++([123]++([10]++(zl (t + 1) thn++(yi t++([125]++([32]++([101,108,115,101]++([32]++([123]++([10]++(zl (t + 1) els++(yi t++([125]++([10]++l))))))))))))))))) m=j4 (hd++tkG [123] m::(ji (m + 1) thn++tkG [125] (m + 1 + ql thn)::tkW [101,108,115,101] (m + 1 + ql thn)::tkG [123] (m + 1 + ql thn)::(ji (m + 1 + ql thn + 1) els++[tkG [125] (m + 1 + ql thn + 1 + ql els)]))) (zp l (m + (2 + ql thn + (1 + ql els):Nat))):=by
   refine xj t (hh _ _ _ (qy (by decide)) (ja (by decide)) (jl (yn (by decide) (ja (by decide)) (ui (zu9 thn h1 _ _ _ _ _ (xj t (yn (by decide) (ja (by decide)) (jl (Qo (by decide) (qy (by decide)) (jl (yn (by decide) (ja (by decide)) (ui (zu9 els h2 _ _ _ _ _ (xj t (yn (by decide) (ja (by decide)) (ui ?_))))))))))))))))
   rw [Wk];congr 1;omega
  rw [key]
  congr 1
  all_goals simp
theorem W1:∀ (d:Nat) (s:St),StI s d→SOk s
 | 0,s,h=>by cases h
 | d + 1,s,h=>by
  have ih:=W1 d
  intro t l m
  cases h with
  | set s a _ h ha =>
   show zp (zt t [s,[32,61,32],zo a,[59]]++l) m=j4 (tkN s m::tkG [61] m::(jx m a++[tkG [59] m])) (zp l (m + 1))
   have e1:zt t [s,[32,61,32],zo a,[59]]++l=yi t++(s++([32]++([61]++([32]++(zo a++([59]++([10]++l))))))):=by simp [zt]
   rw [e1]
   exact xj t (xl h (qy (by decide)) (jl (yn (by decide) (ja (by decide)) (jl (Qn ha (zy7 (by decide)) (yn (by decide) (ja (by decide)) (ui rfl)))))))
  | get s f n _ h hf hn =>
   show zp (zt t [s,[32,61,32],f,[46],yo n,[59]]++l) m=j4 [tkN s m,tkG [61] m,tkN f m,tkG [46] m,tkI n m,tkG [59] m] (zp l (m + 1))
   have e1:zt t [s,[32,61,32],f,[46],yo n,[59]]++l=yi t++(s++([32]++([61]++([32]++(f++([46]++(yo n++([59]++([10]++l))))))))):=by simp [zt]
   rw [e1]
   exact xj t (xl h (qy (by decide)) (jl (yn (by decide) (ja (by decide)) (jl (xl hf (qy (by decide)) (yn (by decide) (Xv n _) (vx (by omega) (qy (by decide)) (yn (by decide) (ja (by decide)) (ui rfl)))))))))
  | put s n a _ h hn ha =>
   show zp (zt t [s,[46],yo n,[32,61,32],zo a,[59]]++l) m=j4 (tkN s m::tkG [46] m::tkI n m::tkG [61] m::(jx m a++[tkG [59] m])) (zp l (m + 1))
   have e1:zt t [s,[46],yo n,[32,61,32],zo a,[59]]++l=yi t++(s++([46]++(yo n++([32]++([61]++([32]++(zo a++([59]++([10]++l))))))))):=by simp [zt]
   rw [e1]
   exact xj t (xl h (qy (by decide)) (yn (by decide) (Xv n _) (vx (by omega) (qy (by decide)) (jl (yn (by decide) (ja (by decide)) (jl (Qn ha (zy7 (by decide)) (yn (by decide) (ja (by decide)) (ui rfl)))))))))
  | store s a b _ h ha hb =>
   show zp (zt t [s,[91],zo a,[93,32,61,32],zo b,[59]]++l) m=j4 (tkN s m::tkG [91] m::(jx m a++tkG [93] m::tkG [61] m::(jx m b++[tkG [59] m]))) (zp l (m + 1))
   have e1:zt t [s,[91],zo a,[93,32,61,32],zo b,[59]]++l=yi t++(s++([91]++(zo a++([93]++([32]++([61]++([32]++(zo b++([59]++([10]++l)))))))))):=by simp [zt]
   rw [e1]
   exact xj t (xl h (qy (by decide)) (yn (by decide) (ki ha _) (Qn ha (zy7 (by decide)) (yn (by decide) (ja (by decide)) (jl (yn (by decide) (ja (by decide)) (jl (Qn hb (zy7 (by decide)) (yn (by decide) (ja (by decide)) (ui rfl))))))))))
  | lock s thn _ h ht =>
   exact nx_br (t:=t) (l:=l) (m:=m) (els:=[]) (head:=[108,111,99,107,32]++s) (hd:=[tkW [108,111,99,107] m,tkN s m]) (fun x ts R f1 f2 g=>by
    rw [show ([108,111,99,107,32]++s)++x=[108,111,99,107]++([32]++(s++x)) by simp]
    exact Qo (by decide) (qy (by decide)) (jl (xl h f1 g))) (fun s hs=>ih s (ht s hs)) (fun s hs=>by cases hs)
  | cond a thn els _ ha ht he =>
   exact nx_br (t:=t) (l:=l) (m:=m) (head:=[105,102,32,40]++zo a++[41]) (hd:=tkW [105,102] m::tkG [40] m::(jx m a++[tkG [41] m])) (fun x ts R f1 f2 g=>by
    rw [show ([105,102,32,40]++zo a++[41])++x=[105,102]++([32]++([40]++(zo a++([41]++x)))) by simp]
    have:=Qo (w:=[105,102]) (by decide) (qy (by decide)) (jl (yn (s:=[40]) (by decide) (ki ha _) (Qn ha (zy7 (by decide)) (yn (s:=[41]) (by decide) f2 g))))
    simpa using this) (fun s hs=>ih s (ht s hs)) (fun s hs=>ih s (he s hs))
  | rep n thn _ hn ht =>
   exact nx_br (t:=t) (l:=l) (m:=m) (els:=[]) (head:=[114,101,112,101,97,116,32]++yo n) (hd:=[tkW [114,101,112,101,97,116] m,tkI n m]) (fun x ts R f1 f2 g=>by
    rw [show ([114,101,112,101,97,116,32]++yo n)++x=[114,101,112,101,97,116]++([32]++(yo n++x)) by simp]
    exact Qo (by decide) (qy (by decide)) (jl (vx (by omega) f1 g))) (fun s hs=>ih s (ht s hs)) (fun s hs=>by cases hs)
  | halt =>
   show zp (zt t [[104,97,108,116,59]]++l) m=j4 [tkW [104,97,108,116] m,tkG [59] m] (zp l (m + 1))
   have e1:zt t [[104,97,108,116,59]]++l=yi t++([104,97,108,116]++([59]++([10]++l))):=by simp [zt]
   rw [e1]
   exact xj t (Qo (by decide) (qy (by decide)) (yn (by decide) (ja (by decide)) (ui rfl)))
end Go.Eng.Sy
namespace Go.Eng.Sy
open Go Go.Eng Go.Proofs
def tokD (m:Int) (d:Nm):List Tok:=[tkW [100,101,118,105,99,101] m,tkN d.name m,tkW (kindsL.getD d.n.toNat []) m]
def tokR (m:Int) (d:Nm):List Tok:=[tkW [114,101,115,111,117,114,99,101] m,tkN d.name m,tkI d.n.toNat m]
def Vn (m:Int) (t:Tsk):List Tok:=[tkW (if t.handler then [104,97,110,100,108,101,114] else [116,97,115,107]) m,tkN t.name m,tkI t.hart.toNat m,tkI t.prio.toNat m]++(if t.handler then [tkI t.line.toNat m] else [])++[tkG [123] m]
def tokT (m:Int) (t:Tsk):List Tok:=Vn m t++(ji (m + 1) t.body++[tkG [125] (m + 1 + ql t.body)])
def Xr (m:Int):List Nm→List Tok
 | []=>[]
 | d::r=>tokD m d++Xr (m + 1) r
def Ju (m:Int):List Nm→List Tok
 | []=>[]
 | d::r=>tokR m d++Ju (m + 1) r
def xu (m:Int):List Tsk→List Tok
 | []=>[]
 | t::r=>tokT m t++xu (m + (2 + ql t.body:Nat)) r
def lnTs:List Tsk→Nat
 | []=>0
 | t::r=>2 + ql t.body + lnTs r
def tokP (p:Prg):List Tok:=tkW [104,97,114,116,115] 1::tkI p.harts.toNat 1::(Xr 2 p.devs++(Ju (2 + p.devs.length) p.ress++xu (2 + p.devs.length + p.ress.length) p.tasks))
def lnP (p:Prg):Int:=2 + p.devs.length + p.ress.length + (lnTs p.tasks:Nat)
theorem zm6:∀ n:Int,1≤n∧n≤3→kindsL.getD n.toNat [] ∈ wordsL:=by
 intro n h
 have:n=1∨n=2∨n=3:=by omega
 rcases this with rfl | rfl | rfl<;>decide +kernel
theorem nx_ds:∀ (ds:List Nm),(∀ d ∈ ds,wt d=true) → ∀ (l:List UInt8) (m:Int) (ts:List Tok) (R:List Tok × Int × Bool),zp l (m + ds.length)=j4 ts R→zp ((ds.map j6).flatten++l) m=j4 (Xr m ds++ts) R
 | [],_,l,m,ts,R,g=>by simpa [Xr] using g
 | d::r,h,l,m,ts,R,g=>by
  have hd:=h d (by simp)
  simp only [wt,Bool.and_eq_true,decide_eq_true_eq] at hd
  have g2:zp l (m + 1 + r.length)=j4 ts R:=by rw [← g];congr 1;simp only [List.length_cons];omega
  have ih:=nx_ds r (fun x hx=>h x (by simp [hx])) l (m + 1) ts R g2
  have e1:((d::r).map j6).flatten++l=[100,101,118,105,99,101]++([32]++(d.name++([32]++(kindsL.getD d.n.toNat []++([10]++((r.map j6).flatten++l)))))):=by simp [j6,zt,yi]
  rw [e1]
  exact Qo (by decide) (qy (by decide)) (jl (xl hd.1 (qy (by decide)) (jl (Qo (zm6 _ hd.2) (qy (by decide)) (ui ih)))))
theorem nx_rs:∀ (ds:List Nm),(∀ d ∈ ds,wq d=true) → ∀ (l:List UInt8) (m:Int) (ts:List Tok) (R:List Tok × Int × Bool),zp l (m + ds.length)=j4 ts R→zp ((ds.map kq).flatten++l) m=j4 (Ju m ds++ts) R
 | [],_,l,m,ts,R,g=>by simpa [Ju] using g
 | d::r,h,l,m,ts,R,g=>by
  have hd:=h d (by simp)
  simp only [wq,Bool.and_eq_true,decide_eq_true_eq] at hd
  have g2:zp l (m + 1 + r.length)=j4 ts R:=by rw [← g];congr 1;simp only [List.length_cons];omega
  have ih:=nx_rs r (fun x hx=>h x (by simp [hx])) l (m + 1) ts R g2
  have e1:((d::r).map kq).flatten++l=[114,101,115,111,117,114,99,101]++([32]++(d.name++([32]++(yo d.n.toNat++([10]++((r.map kq).flatten++l)))))):=by simp [kq,zt,yi]
  rw [e1]
  exact Qo (by decide) (qy (by decide)) (jl (xl hd.1 (qy (by decide)) (jl (vx (by omega) (qy (by decide)) (ui ih)))))
theorem nx_ts:∀ (ds:List Tsk),(∀ d ∈ ds,jj d=true) → ∀ (l:List UInt8) (m:Int) (ts:List Tok) (R:List Tok × Int × Bool),zp l (m + (lnTs ds:Nat))=j4 ts R→zp ((ds.map y4).flatten++l) m=j4 (xu m ds++ts) R
 | [],_,l,m,ts,R,g=>by simpa [xu,lnTs] using g
 | d::r,h,l,m,ts,R,g=>by
  have hd:=h d (by simp)
  simp only [jj,Bool.and_eq_true,decide_eq_true_eq,jr,List.all_eq_true] at hd
  obtain ⟨⟨⟨⟨h1,h2⟩,h3⟩,h4⟩,h5⟩:=hd
  have hl:d.line.toNat < 4294967296:=by cases hb:d.handler<;>simp [hb] at h4<;>omega
  have hs:∀ s ∈ d.body,SOk s:=fun s hs=>W1 30 s ((xq 30 s).1 (h5 s hs))
  have g2:zp l (m + (2 + ql d.body:Nat) + (lnTs r:Nat))=j4 ts R:=by rw [← g];congr 1;simp only [lnTs];omega
  have ih:=nx_ts r (fun x hx=>h x (by simp [hx])) l (m + (2 + ql d.body:Nat)) ts R g2
  have tail:∀ hd:List Tok,zp ([123]++([10]++(zl 1 d.body++([125]++([10]++((r.map y4).flatten++l)))))) m=j4 (tkG [123] m::(ji (m + 1) d.body++(tkG [125] (m + 1 + ql d.body)::(xu (m + (2 + ql d.body:Nat)) r++ts)))) R:=fun _=>by
   refine yn (by decide) (ja (by decide)) (ui (zu9 d.body hs _ _ _ _ _ (yn (by decide) (ja (by decide)) (ui ?_))))
   rw [← ih];congr 1;omega
  cases hb:d.handler with
  | true =>
   have e1:((d::r).map y4).flatten++l=[104,97,110,100,108,101,114]++([32]++(d.name++([32]++(yo d.hart.toNat++([32]++(yo d.prio.toNat++([32]++(yo d.line.toNat++([32]++([123]++([10]++(zl 1 d.body++([125]++([10]++((r.map y4).flatten++l))))))))))))))):=by simp [y4,Ym,zt,yi,hb]
   rw [e1]
   have:=Qo (w:=[104,97,110,100,108,101,114]) (by decide) (qy (by decide)) (jl (xl h1 (qy (by decide)) (jl (vx (n:=d.hart.toNat) (by omega) (qy (by decide)) (jl (vx (n:=d.prio.toNat) (by omega) (qy (by decide)) (jl (vx hl (qy (by decide)) (jl (tail []))))))))))
   rw [this]
   congr 1
   simp [xu,tokT,Vn,hb]
  | false =>
   have e1:((d::r).map y4).flatten++l=[116,97,115,107]++([32]++(d.name++([32]++(yo d.hart.toNat++([32]++(yo d.prio.toNat++([32]++([123]++([10]++(zl 1 d.body++([125]++([10]++((r.map y4).flatten++l))))))))))))):=by simp [y4,Ym,zt,yi,hb]
   rw [e1]
   have:=Qo (w:=[116,97,115,107]) (by decide) (qy (by decide)) (jl (xl h1 (qy (by decide)) (jl (vx (n:=d.hart.toNat) (by omega) (qy (by decide)) (jl (vx (n:=d.prio.toNat) (by omega) (qy (by decide)) (jl (tail []))))))))
   rw [this]
   congr 1
   simp [xu,tokT,Vn,hb]
theorem W3 {p:Prg}(h1:0≤p.harts∧p.harts≤4) (h2:∀ d ∈ p.devs,wt d=true) (h3:∀ d ∈ p.ress,wq d=true) (h4:∀ d ∈ p.tasks,jj d=true):zp (jo p) 1=(tokP p,lnP p,true):=by
 have e1:jo p=[104,97,114,116,115]++([32]++(yo p.harts.toNat++([10]++((p.devs.map j6).flatten++((p.ress.map kq).flatten++((p.tasks.map y4).flatten++[])))))):=by simp [jo,zt,yi]
 have:=Qo (w:=[104,97,114,116,115]) (m:=1) (by decide) (qy (by decide)) (jl (vx (n:=p.harts.toNat) (by omega) (qy (by decide)) (ui (nx_ds p.devs h2 _ _ _ _ (nx_rs p.ress h3 _ _ _ _ (nx_ts p.tasks h4 [] _ [] (zp [] (1 + 1 + p.devs.length + p.ress.length + (lnTs p.tasks:Nat))) (Wk _).symm))))))
 rw [e1,this,W4]
 simp only [j4,tokP,lnP,List.append_nil]
 congr 1
end Go.Eng.Sy
namespace Go.Eng.Sy
open Go Go.Eng Go.Proofs
inductive PR (α:Type) where
 | ok (a:α) (r:List Tok)
 | bad (e line:Int)
 | out
def PR.bind {α β:Type}(x:PR α) (g:α→List Tok→PR β):PR β:=match x with
 | .ok a r=>g a r
 | .bad e l=>.bad e l
 | .out=>.out
def hd (l:List Tok):Tok:=l.headD (zy5 0)
def isT (s:List UInt8) (t:Tok):Bool:=t.text == s && (t.kind == 2 || t.kind == 4)
def binOp (t:Tok):Int:=match (List.range' 1 14).find? (fun o=>isT (qg (o:Nat)) t) with | some o=>(o:Int) | none=>0
def unOp (t:Tok):Int:=match (List.range' 15 3).find? (fun o=>isT (qg (o:Nat)) t) with | some o=>(o:Int) | none=>0
def eSyn:Int:=70
def eLim:Int:=71
def Qt (s:List UInt8) (l:List Tok):PR Unit:=if isT s (hd l) then .ok () l.tail else .bad eSyn (hd l).line
mutual
def Vh:Nat→Nat→List Tok→PR Ex
 | 0,_,_=>.out
 | f + 1,deep,l =>
  if 1000 < deep then .bad eLim 1
  else if unOp (hd l)≠0 then (Vh f (deep + 1) l.tail).bind fun a r=>.ok (.mk 3 (unOp (hd l)) 0 [] [a]) r
  else if isT [40] (hd l) then (Qm f 1 (deep + 1) l.tail).bind fun e r=>(Qt [41] r).bind fun _ r=>.ok e r
  else if (hd l).kind=3 then .ok (.mk 1 0 (hd l).n [] []) l.tail
  else if (hd l).kind≠1 then .bad eSyn (hd l).line
  else if isT [91] (hd l.tail) then (Qm f 1 (deep + 1) l.tail.tail).bind fun e r=>(Qt [93] r).bind fun _ r=>.ok (.mk 5 0 0 (hd l).text [e]) r
  else .ok (.mk 2 0 0 (hd l).text []) l.tail
def Qm:Nat→Nat→Nat→List Tok→PR Ex
 | 0,_,_,_=>.out
 | f + 1,least,deep,l=>(Vh f deep l).bind fun e r=>zu4 f e least deep r
def zu4:Nat→Ex→Nat→Nat→List Tok→PR Ex
 | 0,_,_,_,_=>.out
 | f + 1,e,least,deep,l =>
  if zn (binOp (hd l))=0∨zn (binOp (hd l)) < least then .ok e l
  else (Qm f (zn (binOp (hd l)) + 1) deep l.tail).bind fun b r=>zu4 f (.mk 4 (binOp (hd l)) 0 [] [e,b]) least deep r
end
def EP (deep:Nat) (l:List Tok) (e:Ex) (r:List Tok):Prop:=∃ f0,∀ f,f0≤f→Vh f deep l = .ok e r
def EE (least deep:Nat) (l:List Tok) (e:Ex) (r:List Tok):Prop:=∃ f0,∀ f,f0≤f→Qm f least deep l = .ok e r
def EL (e:Ex) (least deep:Nat) (l:List Tok) (x:Ex) (r:List Tok):Prop:=∃ f0,∀ f,f0≤f→zu4 f e least deep l = .ok x r
theorem EE_of {least deep:Nat}{l r r' : List Tok}{e x:Ex}(h1:EP deep l e r) (h2:EL e least deep r x r'):EE least deep l x r':=by
 obtain ⟨a,h1⟩:=h1;obtain ⟨b,h2⟩:=h2
 refine ⟨max a b + 1,fun f hf=>?_⟩
 obtain ⟨f,rfl⟩:∃ g,f=g + 1:=⟨f - 1,by omega⟩
 rw [Qm,h1 f (by omega)]
 exact h2 f (by omega)
theorem Wn {e:Ex}{least deep:Nat}{l:List Tok}(h:zn (binOp (hd l))=0∨zn (binOp (hd l)) < least):EL e least deep l e l:=by
 refine ⟨1,fun f hf=>?_⟩
 obtain ⟨f,rfl⟩:∃ g,f=g + 1:=⟨f - 1,by omega⟩
 rw [zu4,if_pos h]
theorem EL_step {e b x:Ex}{o:Int}{least deep:Nat}{t:Tok}{l r r' : List Tok}(ho:binOp t=o) (hp:zn o≠0) (hl:least≤zn o) (h1:EE (zn o + 1) deep l b r) (h2:EL (.mk 4 o 0 [] [e,b]) least deep r x r'):EL e least deep (t::l) x r':=by
 obtain ⟨a,h1⟩:=h1;obtain ⟨c,h2⟩:=h2
 refine ⟨max a c + 1,fun f hf=>?_⟩
 obtain ⟨f,rfl⟩:∃ g,f=g + 1:=⟨f - 1,by omega⟩
 rw [zu4,show hd (t::l)=t from rfl,ho,if_neg (by omega),List.tail_cons,h1 f (by omega)]
 exact h2 f (by omega)
theorem EP_un {deep:Nat}{t:Tok}{l r:List Tok}{a:Ex}{o:Int}(hd0:deep≤1000) (ho:unOp t=o) (hp:o≠0) (h1:EP (deep + 1) l a r):EP deep (t::l) (.mk 3 o 0 [] [a]) r:=by
 obtain ⟨c,h1⟩:=h1
 refine ⟨c + 1,fun f hf=>?_⟩
 obtain ⟨f,rfl⟩:∃ g,f=g + 1:=⟨f - 1,by omega⟩
 rw [Vh,if_neg (by omega),show hd (t::l)=t from rfl,ho,if_pos hp,List.tail_cons,h1 f (by omega)]
 rfl
theorem EP_par {deep:Nat}{m:Int}{l r:List Tok}{e:Ex}(hd0:deep≤1000) (h1:EE 1 (deep + 1) l e (tkG [41] m::r)):EP deep (tkG [40] m::l) e r:=by
 obtain ⟨c,h1⟩:=h1
 refine ⟨c + 1,fun f hf=>?_⟩
 obtain ⟨f,rfl⟩:∃ g,f=g + 1:=⟨f - 1,by omega⟩
 have u:unOp (tkG [40] m)=0:=rfl
 have i:isT [40] (tkG [40] m)=true:=rfl
 rw [Vh,if_neg (by omega),show hd (tkG [40] m::l)=tkG [40] m from rfl,u,if_neg (by simp),if_pos i,List.tail_cons,h1 f (by omega)]
 rfl
theorem Wp (s:List UInt8) (m:Int):unOp (tkN s m)=0∧isT [40] (tkN s m)=false:=by
 have:∀ x,isT x (tkN s m)=false:=fun x=>by simp [isT,tkN]
 exact ⟨by unfold unOp;simp only [this];rfl,this _⟩
theorem unOp_num (n:Nat) (m:Int):unOp (tkI n m)=0∧isT [40] (tkI n m)=false:=by
 have:∀ x,isT x (tkI n m)=false:=fun x=>by simp [isT,tkI]
 exact ⟨by unfold unOp;simp only [this];rfl,this _⟩
theorem EP_num {deep n:Nat}{m:Int}{l:List Tok}(hd0:deep≤1000):EP deep (tkI n m::l) (.mk 1 0 n [] []) l:=by
 refine ⟨1,fun f hf=>?_⟩
 obtain ⟨f,rfl⟩:∃ g,f=g + 1:=⟨f - 1,by omega⟩
 obtain ⟨u,i⟩:=unOp_num n m
 rw [Vh,if_neg (by omega),show hd (tkI n m::l)=tkI n m from rfl,u,if_neg (by simp),i,if_neg (by simp),if_pos (show (tkI n m).kind=3 from rfl)]
 rfl
theorem EP_var {deep:Nat}{s:List UInt8}{m:Int}{l:List Tok}(hd0:deep≤1000) (hb:isT [91] (hd l)=false):EP deep (tkN s m::l) (.mk 2 0 0 s []) l:=by
 refine ⟨1,fun f hf=>?_⟩
 obtain ⟨f,rfl⟩:∃ g,f=g + 1:=⟨f - 1,by omega⟩
 obtain ⟨u,i⟩:=Wp s m
 have k:(tkN s m).kind=1:=rfl
 rw [Vh,if_neg (by omega),show hd (tkN s m::l)=tkN s m from rfl,u,if_neg (by simp),i,if_neg (by simp),k,if_neg (by decide),if_neg (by simp),List.tail_cons,hb]
 rfl
theorem EP_idx {deep:Nat}{s:List UInt8}{m:Int}{l r:List Tok}{e:Ex}(hd0:deep≤1000) (h1:EE 1 (deep + 1) l e (tkG [93] m::r)):EP deep (tkN s m::tkG [91] m::l) (.mk 5 0 0 s [e]) r:=by
 obtain ⟨c,h1⟩:=h1
 refine ⟨c + 1,fun f hf=>?_⟩
 obtain ⟨f,rfl⟩:∃ g,f=g + 1:=⟨f - 1,by omega⟩
 obtain ⟨u,i⟩:=Wp s m
 have k:(tkN s m).kind=1:=rfl
 have hb:isT [91] (tkG [91] m)=true:=rfl
 rw [Vh,if_neg (by omega),show hd (tkN s m::tkG [91] m::l)=tkN s m from rfl,u,if_neg (by simp),i,if_neg (by simp),k,if_neg (by decide),if_neg (by simp),List.tail_cons,show hd (tkG [91] m::l)=tkG [91] m from rfl,if_pos hb,List.tail_cons,h1 f (by omega)]
 rfl
theorem Xj:∀ (o m:Int),1≤o∧o≤14→binOp (tkG (qg o) m)=o:=by
 intro o m h
 have:o=1∨o=2∨o=3∨o=4∨o=5∨o=6∨o=7∨o=8∨o=9∨o=10∨o=11∨o=12∨o=13∨o=14:=by omega
 rcases this with rfl | rfl | rfl | rfl | rfl | rfl | rfl | rfl | rfl | rfl | rfl | rfl | rfl | rfl<;>rfl
theorem zq5:∀ (o m:Int),15≤o∧o≤17→unOp (tkG (qg o) m)=o:=by
 intro o m h
 have:o=15∨o=16∨o=17:=by omega
 rcases this with rfl | rfl | rfl<;>rfl
def lev (e:Ex):Nat:=if e.kind=4 then zn e.op else 9
def lvl (l:List Tok):Nat:=zn (binOp (hd l))
def nb (l:List Tok):Prop:=isT [91] (hd l)=false
def PtA (e:Ex) (d:Nat):Prop:=∀ (deep:Nat) (m:Int) (least:Nat) (l:List Tok) (x:Ex) (r:List Tok),deep + 2 * d≤1000→least≤lev e→nb l→lvl l≤lev e→EL e least deep l x r→EE least deep (jx m e++l) x r
def PtB (e:Ex) (d:Nat):Prop:=e.kind≠4 → ∀ (deep:Nat) (m:Int) (l:List Tok),deep + 2 * d≤1000→nb l→EP deep (jx m e++l) e l
end Go.Eng.Sy
namespace Go.Eng.Sy
open Go Go.Eng Go.Proofs
theorem Kl (o:Int):zn o≤8:=by
 unfold zn
 (repeat' split)<;>omega
theorem U2 {e:Ex}{d:Nat}(h:ExI e d):1≤lev e:=by
 cases h with
 | two o a b d h ha hb =>
  have:=vt.2 h
  show 1≤(if (4:Int)=4 then zn o else 9)
  rw [if_pos rfl];exact this
 | _=>simp [lev,Ex.kind]
theorem vd (g:List UInt8) (hg:g=[41]∨g=[93]∨g=[59]) (m:Int) (l:List Tok):lvl (tkG g m::l)=0∧nb (tkG g m::l):=by
 rcases hg with rfl | rfl | rfl<;>exact ⟨rfl,rfl⟩
theorem nb_sign (o m:Int) (h:1≤o∧o≤14) (l:List Tok):nb (tkG (qg o) m::l):=by
 have:o=1∨o=2∨o=3∨o=4∨o=5∨o=6∨o=7∨o=8∨o=9∨o=10∨o=11∨o=12∨o=13∨o=14:=by omega
 rcases this with rfl | rfl | rfl | rfl | rfl | rfl | rfl | rfl | rfl | rfl | rfl | rfl | rfl | rfl<;>rfl
theorem zu2 {e:Ex}{d:Nat}(he:ExI e d) (hA:PtA e d){deep:Nat}{m:Int}{l:List Tok}(h:deep + 2 * d + 1≤1000):EP deep (tkG [40] m::(jx m e++[tkG [41] m])++l) e l:=by
 have e1:tkG [40] m::(jx m e++[tkG [41] m])++l=tkG [40] m::(jx m e++(tkG [41] m::l)):=by simp
 rw [e1]
 obtain ⟨c1,c2⟩:=vd [41] (.inl rfl) m l
 exact EP_par (by omega) (hA (deep + 1) m 1 (tkG [41] m::l) e _ (by omega) (U2 he) c2 (by rw [c1];omega) (Wn (.inl c1)))
theorem wrap_E {e:Ex}{d:Nat}(he:ExI e d) (hA:PtA e d){k least deep:Nat}{m:Int}{l r:List Tok}{x:Ex}(h:deep + 2 * d + 1≤1000) (hk:k≤9) (hl:least≤k) (hn:nb l) (hv:lvl l≤k) (hL:EL e least deep l x r):EE least deep (wv m e k (jx m e)++l) x r:=by
 unfold wv
 split
 ·exact EE_of (zu2 he hA h) hL
 ·rename_i hc
  have hle:k≤lev e:=by
   unfold lev
   split
   ·rename_i h4
    have:¬ zn e.op < k:=fun h=>hc ⟨h4,h⟩
    omega
   ·exact hk
  exact hA deep m least l x r (by omega) (by omega) hn (by omega) hL
theorem wrap_P {e:Ex}{d:Nat}(he:ExI e d) (hA:PtA e d) (hB:PtB e d){deep:Nat}{m:Int}{l:List Tok}(h:deep + 2 * d + 1≤1000) (hn:nb l):EP deep (wv m e 9 (jx m e)++l) e l:=by
 unfold wv
 split
 ·exact zu2 he hA h
 ·rename_i hc
  have h4:e.kind≠4:=fun h4=>hc ⟨h4,by have:=Kl e.op;omega⟩
  exact hB h4 deep m l (by omega) hn
theorem PA_of {e:Ex}{d:Nat}(hk:e.kind≠4) (hB:PtB e d):PtA e d:=fun deep m least l x r h hl hn hv hL=>EE_of (hB hk deep m l h hn) hL
theorem zs3 {e:Ex}{d:Nat}(h:ExI e d):PtA e d∧PtB e d:=by
 induction h with
 | num n d h =>
  have hB:PtB (.mk 1 0 n [] []) (d + 1):=fun _ deep m l hd _=>EP_num (n:=n) (by omega)
  exact ⟨PA_of (by simp [Ex.kind]) hB,hB⟩
 | var s d h =>
  have hB:PtB (.mk 2 0 0 s []) (d + 1):=fun _ deep m l hd hn=>EP_var (by omega) hn
  exact ⟨PA_of (by simp [Ex.kind]) hB,hB⟩
 | one o a d h ha ih =>
  have hB:PtB (.mk 3 o 0 [] [a]) (d + 1):=fun _ deep m l hd hn=>EP_un (by omega) (zq5 o m h) (by omega) (wrap_P ha ih.1 ih.2 (by omega) hn)
  exact ⟨PA_of (by simp [Ex.kind]) hB,hB⟩
 | idx s a d h ha ih =>
  have hB:PtB (.mk 5 0 0 s [a]) (d + 1):=fun _ deep m l hd hn=>by
   show EP deep (tkN s m::tkG [91] m::(jx m a++[tkG [93] m])++l) _ l
   have e1:tkN s m::tkG [91] m::(jx m a++[tkG [93] m])++l=tkN s m::tkG [91] m::(jx m a++(tkG [93] m::l)):=by simp
   rw [e1]
   obtain ⟨c1,c2⟩:=vd [93] (.inr (.inl rfl)) m l
   exact EP_idx (by omega) (ih.1 (deep + 1) m 1 (tkG [93] m::l) a _ (by omega) (U2 ha) c2 (by rw [c1];omega) (Wn (.inl c1)))
  exact ⟨PA_of (by simp [Ex.kind]) hB,hB⟩
 | two o a b d h ha hb iha ihb =>
  refine ⟨fun deep m least l x r hd hl hn hv hL=>?_,fun hk=>absurd rfl hk⟩
  have hlo:lev (.mk 4 o 0 [] [a,b])=zn o:=rfl
  rw [hlo] at hl hv
  have h8:=Kl o
  have hp:=vt.2 h
  show EE least deep ((wv m a (zn o) (jx m a)++tkG (qg o) m::wv m b (zn o + 1) (jx m b))++l) x r
  rw [List.append_assoc,List.cons_append]
  refine wrap_E ha iha.1 (by omega) (by omega) hl (nb_sign o m h _) ?_ ?_
  ·show zn (binOp (tkG (qg o) m))≤zn o
   rw [Xj o m h];exact Nat.le_refl _
  ·refine EL_step (Xj o m h) (by omega) hl (wrap_E hb ihb.1 (by omega) (by omega) (Nat.le_refl _) hn (by omega) (Wn ?_)) hL
   have:lvl l < zn o + 1:=by omega
   exact .inr this
end Go.Eng.Sy
namespace Go.Eng.Sy
open Go Go.Eng Go.Proofs
def Zl (k:Int) (l:List Tok):PR Tok:=if (hd l).kind=k then .ok (hd l) (if k=5 then l else l.tail) else .bad eSyn (hd l).line
def pRest (f deep:Nat) (k:Int) (m:List UInt8) (n:Int) (xs:List Ex) (l:List Tok):PR St :=
 (Qt [61] l).bind fun _ r =>
  if k=1∧(hd r).kind=1∧(hd r.tail).text=[46] then (Zl 1 r).bind fun g r=>(Qt [46] r).bind fun _ r=>(Zl 3 r).bind fun i r=>.ok (.mk 2 m g.text i.n [] [] []) r
  else (Qm f 1 deep r).bind fun e r=>.ok (.mk k m [] n (xs++[e]) [] []) r
def zu3 (f deep:Nat) (m:List UInt8) (l:List Tok):PR St :=
 if isT [46] (hd l) then (Zl 3 l.tail).bind fun i r=>pRest f deep 3 m i.n [] r
 else if isT [91] (hd l) then (Qm f 1 (deep + 1) l.tail).bind fun e r=>(Qt [93] r).bind fun _ r=>pRest f deep 4 m 0 [e] r
 else pRest f deep 1 m 0 [] l
mutual
def zm2:Nat→Nat→List Tok→PR St
 | 0,_,_=>.out
 | f + 1,deep,l =>
  if isT [105,102] (hd l) then (Qt [40] l.tail).bind fun _ r=>(Qm f 1 (deep + 1) r).bind fun e r=>(Qt [41] r).bind fun _ r=>(xe f (deep + 1) r).bind fun t r =>
   if isT [101,108,115,101] (hd r) then (xe f (deep + 1) r.tail).bind fun x r=>.ok (.mk 6 [] [] 0 [e] t x) r else .ok (.mk 6 [] [] 0 [e] t []) r
  else if isT [108,111,99,107] (hd l) then (Zl 1 l.tail).bind fun n r=>(xe f (deep + 1) r).bind fun t r=>.ok (.mk 5 n.text [] 0 [] t []) r
  else if isT [114,101,112,101,97,116] (hd l) then (Zl 3 l.tail).bind fun n r=>(xe f (deep + 1) r).bind fun t r=>.ok (.mk 7 [] [] n.n [] t []) r
  else if isT [104,97,108,116] (hd l) then (Qt [59] l.tail).bind fun _ r=>.ok (.mk 8 [] [] 0 [] [] []) r
  else (Zl 1 l).bind fun n r=>(zu3 f deep n.text r).bind fun s r=>(Qt [59] r).bind fun _ r=>.ok s r
def xe:Nat→Nat→List Tok→PR (List St)
 | 0,_,_=>.out
 | f + 1,deep,l=>(Qt [123] l).bind fun _ r=>if 1000 < deep then .bad eLim 1 else Kh f deep r
def Kh:Nat→Nat→List Tok→PR (List St)
 | 0,_,_=>.out
 | f + 1,deep,l=>if isT [125] (hd l) then .ok [] l.tail else (zm2 f deep l).bind fun s r=>(Kh f deep r).bind fun ss r=>.ok (s::ss) r
end
def ES (deep:Nat) (l:List Tok) (s:St) (r:List Tok):Prop:=∃ f0,∀ f,f0≤f→zm2 f deep l = .ok s r
def EBk (deep:Nat) (l:List Tok) (s:List St) (r:List Tok):Prop:=∃ f0,∀ f,f0≤f→xe f deep l = .ok s r
def ESs (deep:Nat) (l:List Tok) (s:List St) (r:List Tok):Prop:=∃ f0,∀ f,f0≤f→Kh f deep l = .ok s r
theorem ESs_nil {deep:Nat}{m:Int}{l:List Tok}:ESs deep (tkG [125] m::l) [] l:=by
 refine ⟨1,fun f hf=>?_⟩
 obtain ⟨f,rfl⟩:∃ g,f=g + 1:=⟨f - 1,by omega⟩
 rfl
theorem ESs_cons {deep:Nat}{l r r' : List Tok}{s:St}{ss:List St}(hb:isT [125] (hd l)=false) (h1:ES deep l s r) (h2:ESs deep r ss r'):ESs deep l (s::ss) r':=by
 obtain ⟨a,h1⟩:=h1;obtain ⟨b,h2⟩:=h2
 refine ⟨max a b + 1,fun f hf=>?_⟩
 obtain ⟨f,rfl⟩:∃ g,f=g + 1:=⟨f - 1,by omega⟩
 rw [Kh,hb,if_neg (by simp),h1 f (by omega)]
 show (Kh f deep r).bind _=_
 rw [h2 f (by omega)];rfl
theorem EBk_of {deep:Nat}{m:Int}{l r:List Tok}{ss:List St}(hd0:deep≤1000) (h:ESs deep l ss r):EBk deep (tkG [123] m::l) ss r:=by
 obtain ⟨a,h⟩:=h
 refine ⟨a + 1,fun f hf=>?_⟩
 obtain ⟨f,rfl⟩:∃ g,f=g + 1:=⟨f - 1,by omega⟩
 rw [xe]
 show (if 1000 < deep then PR.bad eLim 1 else Kh f deep l)=_
 rw [if_neg (by omega)]
 exact h f (by omega)
theorem kb (x s:List UInt8) (m:Int):isT x (tkN s m)=false:=by simp [isT,tkN]
theorem Y4 {deep:Nat}{s:List UInt8}{m m' : Int}{l r:List Tok}{x:St}(h:∃ f0,∀ f,f0≤f→zu3 f deep s l = .ok x (tkG [59] m' :: r)):ES deep (tkN s m::l) x r:=by
 obtain ⟨a,h⟩:=h
 refine ⟨a + 1,fun f hf=>?_⟩
 obtain ⟨f,rfl⟩:∃ g,f=g + 1:=⟨f - 1,by omega⟩
 rw [zm2]
 simp only [show hd (tkN s m::l)=tkN s m from rfl,kb,Bool.false_eq_true,if_false]
 show (zu3 f deep s l).bind _=_
 rw [h f (by omega)];rfl
def ndot (l:List Tok):Prop:=¬ ((hd l).kind=1∧(hd l.tail).text=[46])
theorem zv3 {e:Ex}{d:Nat}(h:ExI e d):∀ (m:Int) (l:List Tok),(hd l).text≠[46]→ndot (jx m e++l):=by
 have sg:∀ o:Int,1≤o∧o≤17→qg o≠[46]:=fun o h=>by
  have:o=1∨o=2∨o=3∨o=4∨o=5∨o=6∨o=7∨o=8∨o=9∨o=10∨o=11∨o=12∨o=13∨o=14∨o=15∨o=16∨o=17:=by omega
  rcases this with rfl | rfl | rfl | rfl | rfl | rfl | rfl | rfl | rfl | rfl | rfl | rfl | rfl | rfl | rfl | rfl | rfl<;>decide
 induction h with
 | num n d h=>intro m l hl hc;exact absurd hc.1 (show (3:Int)≠1 by decide)
 | var s d h=>intro m l hl hc;exact hl hc.2
 | one o a d h ha ih=>intro m l hl hc;exact absurd hc.1 (show (4:Int)≠1 by decide)
 | idx s a d h ha ih=>intro m l hl hc;exact absurd hc.2 (show ([91]:List UInt8)≠[46] by decide)
 | two o a b d h ha hb iha ihb =>
  intro m l hl
  show ndot ((wv m a (zn o) (jx m a)++tkG (qg o) m::wv m b (zn o + 1) (jx m b))++l)
  rw [List.append_assoc,List.cons_append]
  unfold wv
  split
  ·intro hc;exact absurd hc.1 (show (4:Int)≠1 by decide)
  ·exact iha m _ (sg o (by omega))
end Go.Eng.Sy
namespace Go.Eng.Sy
open Go Go.Eng Go.Proofs
theorem Js {e:Ex}{d:Nat}(h:ExI e d){deep:Nat}{m:Int}{l:List Tok}(hd0:deep + 2 * d≤1000) (h1:lvl l=0) (h2:nb l):EE 1 deep (jx m e++l) e l :=
 (zs3 h).1 deep m 1 l e l hd0 (U2 h) h2 (by rw [h1];omega) (Wn (.inl h1))
theorem zr9 {e:Ex}(h:ExI e 30){deep:Nat}{m:Int}{l:List Tok}{k n:Int}{s:List UInt8}{xs:List Ex}(hd0:deep + 60≤1000):∃ f0,∀ f,f0≤f→pRest f deep k s n xs (tkG [61] m::(jx m e++tkG [59] m::l)) = .ok (.mk k s [] n (xs++[e]) [] []) (tkG [59] m::l):=by
 obtain ⟨c1,c2⟩:=vd [59] (.inr (.inr rfl)) m l
 obtain ⟨a,ha⟩:=Js h (deep:=deep) (m:=m) (l:=tkG [59] m::l) (by omega) c1 c2
 have hn:=zv3 h m (tkG [59] m::l) (show ([59]:List UInt8)≠[46] by decide)
 refine ⟨a,fun f hf=>?_⟩
 show (if k=1∧(hd (jx m e++tkG [59] m::l)).kind=1∧(hd (jx m e++tkG [59] m::l).tail).text=[46] then _ else (Qm f 1 deep (jx m e++tkG [59] m::l)).bind _)=_
 rw [if_neg (fun hc=>hn hc.2),ha f hf]
 rfl
def ne (l:List Tok):Prop:=isT [101,108,115,101] (hd l)=false
def SP (s:St) (d:Nat):Prop:=∀ (deep:Nat) (m:Int) (l:List Tok),deep + 2 * d≤900→ne l→ES deep (zl0 m s++l) s l
theorem zw9 {s:St}{d:Nat}(h:StI s d) (m:Int) (l:List Tok):isT [125] (hd (zl0 m s++l))=false∧ne (zl0 m s++l):=by
 cases h with
 | set s a d h ha=>exact ⟨kb _ s m,kb _ s m⟩
 | get s f n d h hf hn=>exact ⟨kb _ s m,kb _ s m⟩
 | put s n a d h hn ha=>exact ⟨kb _ s m,kb _ s m⟩
 | store s a b d h ha hb=>exact ⟨kb _ s m,kb _ s m⟩
 | lock s thn d h ht=>exact ⟨rfl,rfl⟩
 | cond a thn els d ha ht he=>exact ⟨rfl,rfl⟩
 | rep n thn d hn ht=>exact ⟨rfl,rfl⟩
 | halt d=>exact ⟨rfl,rfl⟩
theorem zs4 {d:Nat}:∀ (ss:List St),(∀ s ∈ ss,StI s d∧SP s d) → ∀ (deep:Nat) (m m' : Int) (l:List Tok),deep + 2 * d≤900→ESs deep (ji m ss++tkG [125] m' :: l) ss l
 | [],_,deep,m,m',l,_=>ESs_nil
 | s::r,h,deep,m,m',l,hd0=>by
  have hs:=h s (by simp)
  show ESs deep ((zl0 m s++ji (m + lnS s) r)++tkG [125] m' :: l) _ _
  rw [List.append_assoc]
  refine ESs_cons (zw9 hs.1 _ _).1 (hs.2 deep m _ hd0 ?_) (zs4 r (fun x hx=>h x (by simp [hx])) deep _ m' l hd0)
  cases r with
  | nil=>rfl
  | cons x r =>
   show ne ((zl0 _ x++ji _ r)++_)
   rw [List.append_assoc]
   exact (zw9 (h x (by simp)).1 _ _).2
theorem xy {d:Nat}{ss:List St}(h:∀ s ∈ ss,StI s d∧SP s d){deep:Nat}{m m1 m2:Int}{l:List Tok}(hd0:deep + 2 * d≤900):EBk deep (tkG [123] m::(ji m1 ss++tkG [125] m2::l)) ss l :=
 EBk_of (by omega) (zs4 ss h deep m1 m2 l hd0)
theorem Vd:∀ (d:Nat) (s:St),StI s d→SP s d
 | 0,s,h=>by cases h
 | d + 1,s,h=>by
  have ih:∀ ss:List St,(∀ s ∈ ss,StI s d) → ∀ s ∈ ss,StI s d∧SP s d:=fun ss h s hs=>⟨h s hs,Vd d s (h s hs)⟩
  intro deep m l hd0 hne
  cases h with
  | set s a _ h ha =>
   show ES deep (tkN s m::tkG [61] m::(jx m a++[tkG [59] m])++l) _ l
   have e1:tkN s m::tkG [61] m::(jx m a++[tkG [59] m])++l=tkN s m::tkG [61] m::(jx m a++tkG [59] m::l):=by simp
   rw [e1]
   obtain ⟨c,hc⟩:=zr9 ha (deep:=deep) (m:=m) (l:=l) (k:=1) (n:=0) (s:=s) (xs:=[]) (by omega)
   exact Y4 ⟨c,fun f hf=>hc f hf⟩
  | get s f n _ h hf hn=>exact Y4 (m':=m) ⟨0,fun f hf=>rfl⟩
  | put s n a _ h hn ha =>
   show ES deep (tkN s m::tkG [46] m::tkI n m::tkG [61] m::(jx m a++[tkG [59] m])++l) _ l
   have e1:tkN s m::tkG [46] m::tkI n m::tkG [61] m::(jx m a++[tkG [59] m])++l=tkN s m::tkG [46] m::tkI n m::tkG [61] m::(jx m a++tkG [59] m::l):=by simp
   rw [e1]
   obtain ⟨c,hc⟩:=zr9 ha (deep:=deep) (m:=m) (l:=l) (k:=3) (n:=n) (s:=s) (xs:=[]) (by omega)
   exact Y4 ⟨c,fun f hf=>hc f hf⟩
  | store s a b _ h ha hb =>
   show ES deep (tkN s m::tkG [91] m::(jx m a++tkG [93] m::tkG [61] m::(jx m b++[tkG [59] m]))++l) _ l
   have e1:tkN s m::tkG [91] m::(jx m a++tkG [93] m::tkG [61] m::(jx m b++[tkG [59] m]))++l=tkN s m::tkG [91] m::(jx m a++tkG [93] m::tkG [61] m::(jx m b++tkG [59] m::l)):=by simp
   rw [e1]
   obtain ⟨c1,c2⟩:=vd [93] (.inr (.inl rfl)) m (tkG [61] m::(jx m b++tkG [59] m::l))
   obtain ⟨c,hc⟩:=Js ha (deep:=deep + 1) (m:=m) (by omega) c1 c2
   obtain ⟨c',hc'⟩:=zr9 hb (deep:=deep) (m:=m) (l:=l) (k:=4) (n:=0) (s:=s) (xs:=[a]) (by omega)
   refine Y4 (m':=m) ⟨max c c',fun f hf=>?_⟩
   show (Qm f 1 (deep + 1) (jx m a++tkG [93] m::tkG [61] m::(jx m b++tkG [59] m::l))).bind _=_
   rw [hc f (by omega)]
   exact hc' f (by omega)
  | lock s thn _ h ht =>
   have e1:zl0 m (.mk 5 s [] 0 [] thn [])++l=tkW [108,111,99,107] m::tkN s m::tkG [123] m::(ji (m + 1) thn++tkG [125] (m + 1 + ql thn)::l):=by simp [zl0,mkST,brT]
   rw [e1]
   obtain ⟨c,hc⟩:=xy (ih thn ht) (deep:=deep + 1) (m:=m) (m1:=m + 1) (m2:=m + 1 + ql thn) (l:=l) (by omega)
   refine ⟨c + 1,fun f hf=>?_⟩
   obtain ⟨f,rfl⟩:∃ g,f=g + 1:=⟨f - 1,by omega⟩
   rw [zm2]
   show (xe f (deep + 1) (tkG [123] m::(ji (m + 1) thn++tkG [125] (m + 1 + ql thn)::l))).bind _=_
   rw [hc f (by omega)];rfl
  | rep n thn _ hn ht =>
   have e1:zl0 m (.mk 7 [] [] n [] thn [])++l=tkW [114,101,112,101,97,116] m::tkI n m::tkG [123] m::(ji (m + 1) thn++tkG [125] (m + 1 + ql thn)::l):=by simp [zl0,mkST,brT]
   rw [e1]
   obtain ⟨c,hc⟩:=xy (ih thn ht) (deep:=deep + 1) (m:=m) (m1:=m + 1) (m2:=m + 1 + ql thn) (l:=l) (by omega)
   refine ⟨c + 1,fun f hf=>?_⟩
   obtain ⟨f,rfl⟩:∃ g,f=g + 1:=⟨f - 1,by omega⟩
   rw [zm2]
   show (xe f (deep + 1) (tkG [123] m::(ji (m + 1) thn++tkG [125] (m + 1 + ql thn)::l))).bind _=_
   rw [hc f (by omega)];rfl
  | halt =>
   refine ⟨1,fun f hf=>?_⟩
   obtain ⟨f,rfl⟩:∃ g,f=g + 1:=⟨f - 1,by omega⟩
   rfl
  | cond a thn els _ ha ht he =>
   obtain ⟨l2,hl2⟩:∃ l2,(if els.isEmpty then l else tkW [101,108,115,101] (m + 1 + ql thn)::tkG [123] (m + 1 + ql thn)::(ji (m + 1 + ql thn + 1) els++tkG [125] (m + 1 + ql thn + 1 + ql els)::l))=l2:=⟨_,rfl⟩
   have e1:zl0 m (.mk 6 [] [] 0 [a] thn els)++l=tkW [105,102] m::tkG [40] m::(jx m a++tkG [41] m::tkG [123] m::(ji (m + 1) thn++tkG [125] (m + 1 + ql thn)::l2)):=by
    rw [← hl2]
    cases els<;>simp [zl0,mkST,brT]
   rw [e1]
   obtain ⟨c1,c2⟩:=vd [41] (.inl rfl) m (tkG [123] m::(ji (m + 1) thn++tkG [125] (m + 1 + ql thn)::l2))
   obtain ⟨c0,hc0⟩:=Js ha (deep:=deep + 1) (m:=m) (by omega) c1 c2
   obtain ⟨c,hc⟩:=xy (ih thn ht) (deep:=deep + 1) (m:=m) (m1:=m + 1) (m2:=m + 1 + ql thn) (l:=l2) (by omega)
   obtain ⟨c',hc'⟩:=xy (ih els he) (deep:=deep + 1) (m:=m + 1 + ql thn) (m1:=m + 1 + ql thn + 1) (m2:=m + 1 + ql thn + 1 + ql els) (l:=l) (by omega)
   refine ⟨max c0 (max c c') + 1,fun f hf=>?_⟩
   obtain ⟨f,rfl⟩:∃ g,f=g + 1:=⟨f - 1,by omega⟩
   rw [zm2]
   show (Qm f 1 (deep + 1) (jx m a++tkG [41] m::tkG [123] m::(ji (m + 1) thn++tkG [125] (m + 1 + ql thn)::l2))).bind _=_
   rw [hc0 f (by omega)]
   show (xe f (deep + 1) (tkG [123] m::(ji (m + 1) thn++tkG [125] (m + 1 + ql thn)::l2))).bind _=_
   rw [hc f (by omega)]
   show (if isT [101,108,115,101] (hd l2)=true then _ else _)=_
   cases els with
   | nil =>
    have e2:l2=l:=by rw [← hl2];rfl
    rw [e2,if_neg (by rw [show isT [101,108,115,101] (hd l)=false from hne];simp)]
   | cons y ys =>
    have e2:l2=tkW [101,108,115,101] (m + 1 + ql thn)::tkG [123] (m + 1 + ql thn)::(ji (m + 1 + ql thn + 1) (y::ys)++tkG [125] (m + 1 + ql thn + 1 + ql (y::ys))::l):=by rw [← hl2];rfl
    rw [e2]
    show (xe f (deep + 1) (tkG [123] (m + 1 + ql thn)::(ji (m + 1 + ql thn + 1) (y::ys)++tkG [125] (m + 1 + ql thn + 1 + ql (y::ys))::l))).bind _=_
    rw [hc' f (by omega)]
    rfl
end Go.Eng.Sy
namespace Go.Eng.Sy
open Go Go.Eng Go.Proofs
def pDev (l:List Tok):PR Nm:=(Zl 1 l).bind fun n r =>
 if isT [117,97,114,116] (hd r) then .ok ⟨n.text,1⟩ r.tail else if isT [116,105,109,101,114] (hd r) then .ok ⟨n.text,2⟩ r.tail else if isT [103,112,105,111] (hd r) then .ok ⟨n.text,3⟩ r.tail else .bad eSyn (hd r).line
def U1:Nat→List Tok→PR (List Nm)
 | 0,_=>.out
 | f + 1,l=>if isT [100,101,118,105,99,101] (hd l) then (pDev l.tail).bind fun d r=>(U1 f r).bind fun ds r=>.ok (d::ds) r else .ok [] l
def U0:Nat→List Tok→PR (List Nm)
 | 0,_=>.out
 | f + 1,l=>if isT [114,101,115,111,117,114,99,101] (hd l) then (Zl 1 l.tail).bind fun n r=>(Zl 3 r).bind fun k r=>(U0 f r).bind fun ds r=>.ok (⟨n.text,k.n⟩::ds) r else .ok [] l
def pTask (f:Nat) (h:Bool) (l:List Tok):PR Tsk:=(Zl 1 l).bind fun n r=>(Zl 3 r).bind fun a r=>(Zl 3 r).bind fun p r =>
 if h then (Zl 3 r).bind fun i r=>(xe f 1 r).bind fun b r=>.ok ⟨n.text,true,a.n,p.n,i.n,b⟩ r else (xe f 1 r).bind fun b r=>.ok ⟨n.text,false,a.n,p.n,0,b⟩ r
def Zc:Nat→List Tok→PR (List Tsk)
 | 0,_=>.out
 | f + 1,l=>if isT [104,97,110,100,108,101,114] (hd l) then (pTask f true l.tail).bind fun t r=>(Zc f r).bind fun ts r=>.ok (t::ts) r
  else if isT [116,97,115,107] (hd l) then (pTask f false l.tail).bind fun t r=>(Zc f r).bind fun ts r=>.ok (t::ts) r else .ok [] l
def pProg (f:Nat) (l:List Tok):PR Prg:=(Qt [104,97,114,116,115] l).bind fun _ r=>(Zl 3 r).bind fun h r=>(U1 f r).bind fun ds r=>(U0 f r).bind fun rs r=>(Zc f r).bind fun ts r=>.ok ⟨h.n,ds,rs,ts⟩ r
def nW (w:List UInt8) (l:List Tok):Prop:=isT w (hd l)=false
theorem zs7:∀ (ds:List Nm),(∀ d ∈ ds,wt d=true) → ∀ (m:Int) (l:List Tok),nW [100,101,118,105,99,101] l → ∃ f0,∀ f,f0≤f→U1 f (Xr m ds++l) = .ok ds l
 | [],_,m,l,hl=>⟨1,fun f hf=>by
   obtain ⟨f,rfl⟩:∃ g,f=g + 1:=⟨f - 1,by omega⟩
   rw [U1,show Xr m []++l=l from rfl,if_neg (by rw [show isT [100,101,118,105,99,101] (hd l)=false from hl];simp)]⟩
 | d::r,h,m,l,hl=>by
  obtain ⟨c,hc⟩:=zs7 r (fun x hx=>h x (by simp [hx])) (m + 1) l hl
  have hd0:=h d (by simp)
  simp only [wt,Bool.and_eq_true,decide_eq_true_eq] at hd0
  refine ⟨c + 1,fun f hf=>?_⟩
  obtain ⟨f,rfl⟩:∃ g,f=g + 1:=⟨f - 1,by omega⟩
  obtain ⟨nm,n⟩:=d
  have hn:n=1∨n=2∨n=3:=by have:=hd0.2;dsimp only at this;omega
  rw [U1]
  rcases hn with rfl | rfl | rfl <;>
   (show (U1 f (Xr (m + 1) r++l)).bind _=_;rw [hc f (by omega)];rfl)
theorem zs5:∀ (ds:List Nm),(∀ d ∈ ds,wq d=true) → ∀ (m:Int) (l:List Tok),nW [114,101,115,111,117,114,99,101] l → ∃ f0,∀ f,f0≤f→U0 f (Ju m ds++l) = .ok ds l
 | [],_,m,l,hl=>⟨1,fun f hf=>by
   obtain ⟨f,rfl⟩:∃ g,f=g + 1:=⟨f - 1,by omega⟩
   rw [U0,show Ju m []++l=l from rfl,if_neg (by rw [show isT [114,101,115,111,117,114,99,101] (hd l)=false from hl];simp)]⟩
 | d::r,h,m,l,hl=>by
  obtain ⟨c,hc⟩:=zs5 r (fun x hx=>h x (by simp [hx])) (m + 1) l hl
  have hd0:=h d (by simp)
  simp only [wq,Bool.and_eq_true,decide_eq_true_eq] at hd0
  refine ⟨c + 1,fun f hf=>?_⟩
  obtain ⟨f,rfl⟩:∃ g,f=g + 1:=⟨f - 1,by omega⟩
  obtain ⟨nm,n⟩:=d
  obtain ⟨k,rfl⟩:∃ k:Nat,n=(k:Int):=⟨n.toNat,by have:=hd0.2;dsimp only at this;omega⟩
  rw [U0]
  show (U0 f (Ju (m + 1) r++l)).bind _=_
  rw [hc f (by omega)]
  rfl
theorem zs2:∀ (ts:List Tsk),(∀ t ∈ ts,jj t=true) → ∀ (m:Int) (l:List Tok),nW [104,97,110,100,108,101,114] l→nW [116,97,115,107] l → ∃ f0,∀ f,f0≤f→Zc f (xu m ts++l) = .ok ts l
 | [],_,m,l,h1,h2=>⟨1,fun f hf=>by
   obtain ⟨f,rfl⟩:∃ g,f=g + 1:=⟨f - 1,by omega⟩
   rw [Zc,show xu m []++l=l from rfl,if_neg (by rw [show isT [104,97,110,100,108,101,114] (hd l)=false from h1];simp),if_neg (by rw [show isT [116,97,115,107] (hd l)=false from h2];simp)]⟩
 | t::r,h,m,l,h1,h2=>by
  obtain ⟨c,hc⟩:=zs2 r (fun x hx=>h x (by simp [hx])) (m + (2 + ql t.body:Nat)) l h1 h2
  have ht:=h t (by simp)
  simp only [jj,Bool.and_eq_true,decide_eq_true_eq,jr,List.all_eq_true] at ht
  obtain ⟨⟨⟨⟨_,t2⟩,t3⟩,t4⟩,t5⟩:=ht
  have hs:∀ s ∈ t.body,StI s 30∧SP s 30:=fun s hs=>by
   have:=(xq 30 s).1 (t5 s hs)
   exact ⟨this,Vd 30 s this⟩
  obtain ⟨c',hc'⟩:=xy hs (deep:=1) (m:=m) (m1:=m + 1) (m2:=m + 1 + ql t.body) (l:=xu (m + (2 + ql t.body:Nat)) r++l) (by omega)
  refine ⟨max c c' + 1,fun f hf=>?_⟩
  obtain ⟨f,rfl⟩:∃ g,f=g + 1:=⟨f - 1,by omega⟩
  obtain ⟨nm,hb,ha,pr,ln,bd⟩:=t
  dsimp only at *
  obtain ⟨a,rfl⟩:∃ k:Nat,ha=(k:Int):=⟨ha.toNat,by omega⟩
  obtain ⟨b,rfl⟩:∃ k:Nat,pr=(k:Int):=⟨pr.toNat,by omega⟩
  have e1:xu m (⟨nm,hb,a,b,ln,bd⟩::r)++l=Vn m ⟨nm,hb,a,b,ln,bd⟩++(ji (m + 1) bd++tkG [125] (m + 1 + ql bd)::(xu (m + (2 + ql bd:Nat)) r++l)):=by
   simp [xu,tokT]
  rw [e1,Zc]
  cases hb with
  | true =>
   obtain ⟨i,rfl⟩:∃ k:Nat,ln=(k:Int):=⟨ln.toNat,by simp at t4;omega⟩
   show ((xe f 1 (tkG [123] m::(ji (m + 1) bd++tkG [125] (m + 1 + ql bd)::(xu (m + (2 + ql bd:Nat)) r++l)))).bind _).bind _=_
   rw [hc' f (by omega)]
   show (Zc f _).bind _=_
   rw [hc f (by omega)]
   rfl
  | false =>
   obtain rfl:ln=0:=by simp at t4;omega
   show ((xe f 1 (tkG [123] m::(ji (m + 1) bd++tkG [125] (m + 1 + ql bd)::(xu (m + (2 + ql bd:Nat)) r++l)))).bind _).bind _=_
   rw [hc' f (by omega)]
   show (Zc f _).bind _=_
   rw [hc f (by omega)]
   rfl
theorem hd_ts (ts:List Tsk) (m:Int) (k:Int):nW [100,101,118,105,99,101] (xu m ts++[zy5 k])∧nW [114,101,115,111,117,114,99,101] (xu m ts++[zy5 k]):=by
 cases ts with
 | nil=>exact ⟨rfl,rfl⟩
 | cons t r=>cases h:t.handler<;>simp [xu,tokT,Vn,h,nW,hd,isT,tkW]
theorem hd_rs (rs:List Nm) (m:Int) (l:List Tok) (h:nW [100,101,118,105,99,101] l):nW [100,101,118,105,99,101] (Ju m rs++l):=by
 cases rs with
 | nil=>exact h
 | cons t r=>rfl
theorem Ve {p:Prg}(h1:0≤p.harts∧p.harts≤4) (h2:∀ d ∈ p.devs,wt d=true) (h3:∀ d ∈ p.ress,wq d=true) (h4:∀ d ∈ p.tasks,jj d=true) (k:Int):∃ f0,∀ f,f0≤f→pProg f (tokP p++[zy5 k]) = .ok p [zy5 k]:=by
 obtain ⟨q1,q2⟩:=hd_ts p.tasks (2 + p.devs.length + p.ress.length) k
 obtain ⟨a,ha⟩:=zs7 p.devs h2 2 _ (hd_rs p.ress (2 + p.devs.length) _ q1)
 obtain ⟨b,hb⟩:=zs5 p.ress h3 (2 + p.devs.length) _ q2
 obtain ⟨c,hc⟩:=zs2 p.tasks h4 (2 + p.devs.length + p.ress.length) [zy5 k] rfl rfl
 refine ⟨max a (max b c),fun f hf=>?_⟩
 obtain ⟨hh,ds,rs,ts⟩:=p
 dsimp only at *
 obtain ⟨n,rfl⟩:∃ k:Nat,hh=(k:Int):=⟨hh.toNat,by omega⟩
 have e1:tokP ⟨n,ds,rs,ts⟩++[zy5 k]=tkW [104,97,114,116,115] 1::tkI n 1::(Xr 2 ds++(Ju (2 + ds.length) rs++(xu (2 + ds.length + rs.length) ts++[zy5 k]))):=by simp [tokP]
 rw [e1]
 show (U1 f (Xr 2 ds++(Ju (2 + ds.length) rs++(xu (2 + ds.length + rs.length) ts++[zy5 k])))).bind _=_
 rw [ha f (by omega)]
 show (U0 f _).bind _=_
 rw [hb f (by omega)]
 show (Zc f _).bind _=_
 rw [hc f (by omega)]
 rfl
theorem zt6 {p q:Prg}(hp:j5 p=true) (hq:j5 q=true) (he:jo p=jo q):p=q:=by
 have hr:∀ {p:Prg},j5 p=true→(0≤p.harts∧p.harts≤4)∧(∀ d ∈ p.devs,wt d=true)∧(∀ d ∈ p.ress,wq d=true)∧(∀ d ∈ p.tasks,jj d=true):=fun h=>by
  simp only [j5,Bool.and_eq_true,decide_eq_true_eq,List.all_eq_true] at h
  exact ⟨by omega,h.1.1.2,h.1.2,h.2⟩
 obtain ⟨a1,a2,a3,a4⟩:=hr hp
 obtain ⟨b1,b2,b3,b4⟩:=hr hq
 have s1:=W3 a1 a2 a3 a4
 have s2:=W3 b1 b2 b3 b4
 rw [he,s2] at s1
 have et:tokP q=tokP p:=congrArg (fun x=>x.1) s1
 obtain ⟨f,hf⟩:=Ve a1 a2 a3 a4 0
 obtain ⟨g,hg⟩:=Ve b1 b2 b3 b4 0
 have x1:=hf (max f g) (by omega)
 have x2:=hg (max f g) (by omega)
 rw [et,x1] at x2
 injection x2
theorem text_inj {e e' : Ex}{d d' : Nat}(h:ExI e d) (h' : ExI e' d') (hd0:d≤400) (hd1:d' ≤ 400) (he:zo e=zo e'):e=e':=by
 have f0:fol []:=fun b r h=>absurd h (by simp)
 have g0:Uy []:=fun b r h=>absurd h (by simp)
 have dn:del []:=And.intro f0 g0
 have s1:=Qe h [] 1 dn
 have s2:=Qe h' [] 1 dn
 rw [he,s2,W4] at s1
 have et:jx 1 e' = jx 1 e:=by
  have:=congrArg (fun x=>x.1) s1
  simpa [j4] using this
 obtain ⟨f,hf⟩:=Js h (deep:=1) (m:=1) (l:=[zy5 0]) (by omega) rfl rfl
 obtain ⟨g,hg⟩:=Js h' (deep:=1) (m:=1) (l:=[zy5 0]) (by omega) rfl rfl
 have x1:=hf (max f g) (by omega)
 have x2:=hg (max f g) (by omega)
 rw [et,x1] at x2
 injection x2
end Go.Eng.Sy
namespace Go.Eng.Sy
open Go Go.Eng Go.Proofs
def brc (s:List UInt8):Int:=if s=[123]∨s=[40]∨s=[91] then 1 else if s=[125]∨s=[41]∨s=[93] then -1 else 0
def Us:List Tok→Int
 | []=>0
 | t::r=>brc t.text + Us r
def Bal (l:List Tok):Prop:=Us l=0 ∧ ∀ i,0≤Us (l.take i)
theorem uy:∀ a b:List Tok,Us (a++b)=Us a + Us b
 | [],b=>by simp [Us]
 | t::a,b=>by simp only [List.cons_append,Us,uy a b];omega
theorem Bal.nil:Bal []:=⟨rfl,fun i=>by simp [Us]⟩
theorem Bal.app {a b:List Tok}(ha:Bal a) (hb:Bal b):Bal (a++b):=⟨by rw [uy,ha.1,hb.1];rfl,fun i=>by
 rw [List.take_append,uy]
 have:=ha.2 i
 have:=hb.2 (i - a.length)
 omega⟩
theorem Bal.one {t:Tok}(h:brc t.text=0):Bal [t]:=⟨by simp [Us,h],fun i=>by cases i<;>simp [Us,h]⟩
theorem Bal.cons {t:Tok}{l:List Tok}(h:brc t.text=0) (hl:Bal l):Bal (t::l):=(Bal.one h).app hl
theorem Bal.wrap {t u:Tok}{l:List Tok}(h1:brc t.text=1) (h2:brc u.text = -1) (hl:Bal l):Bal (t::(l++[u])):=⟨by simp only [Us,uy,hl.1,h1,h2];omega,fun i=>by
 cases i with
 | zero=>simp [Us]
 | succ i =>
  rw [List.take_succ_cons,Us,h1,List.take_append,uy]
  have h3:=hl.2 i
  have h4 : -1≤Us (([u]:List Tok).take (i - l.length)):=by
   cases i - l.length<;>simp [Us,h2]
  omega⟩
end Go.Eng.Sy
namespace Go.Eng.Sy
open Go Go.Eng Go.Proofs
end Go.Eng.Sy
namespace Go.Eng.Sy
open Go Go.Eng Go.Proofs
end Go.Eng.Sy
namespace Go.Eng.Sy
open Go Go.Eng Go.Proofs
end Go.Eng.Sy
