/-
  Part of a proof of the laws of layer 07 (reader): what each function does.
  Conditions: none.
-/
import Derived.Test.YtjbjpooafphpnaaGreatDoorBs
set_option linter.unusedSimpArgs false
set_option linter.unusedVariables false
namespace Go.Eng.Sy
open Go Go.Eng Go.Proofs
theorem MB:∀(k:Nat) (l:aD) (m:Int),l.length<k→ia k l m=ia (l.length+1) l m
 |0,l,m,h=>by omega
 |k+1,[],m,h=>by simp[ia]
 |k+1,b::r,m,h=>by
  have key:∀(w:Nat),0<w→ia k (skip false ((b::r).drop w) m).1 (skip false ((b::r).drop w) m).2=ia (b::r).length (skip false ((b::r).drop w) m).1 (skip false ((b::r).drop w) m).2:=by
   intro w ax;have A:=sL false ((b::r).drop w) m;have S:((b::r).drop w).length=(b::r).length-w:=by simp
   have ae:(b::r).length=r.length+1:=rfl;rw[MB k _ _ (by omega),MB (b::r).length _ _ (by omega)]
  show ia (k+1) (b::r) m=ia ((b::r).length+1) (b::r) m;unfold ia;split
  ·rename_i hr;rw[key _ hr]
  ·split
   ·rename_i g aA;rw[key _ (MG aA).1]
   ·rfl
 termination_by k=>k
 decreasing_by all_goals (simp only[hR]at *;omega)
def dc(l:aD)(m:Int):List Tok × Int × Bool:=ia (l.length+1) (skip false l m).1 (skip false l m).2
theorem ade(l:aD):rY l=dc l 1:=rfl
theorem UY(l:aD)(m:Int){k:Nat}(h:l.length<k):ia k (skip false l m).1 (skip false l m).2=dc l m:=by
 have A:=sL false l m;unfold dc;rw[MB k _ _ (by omega),MB (l.length+1) _ _ (by omega)]
theorem adh{a b:aD}{m n:Int}(h:skip false a m=skip false b n)(ag:b.length≤a.length):dc a m=dc b n:=by
 unfold dc;rw[h];exact UY b n (by omega)
theorem alr{b:UInt8}(h:nm b=true):jJ b=false∧b≠10∧b≠35:=by
 have:∀ n:Fin 256,nm (UInt8.ofNat n.val)=true→jJ (UInt8.ofNat n.val)=false∧UInt8.ofNat n.val≠10∧UInt8.ofNat n.val≠35:=by decide +kernel
 have:=this ⟨b.toNat,Ew b⟩;simp only[UInt8.ofNat_toNat]at this;exact this h
theorem sJ(b:UInt8)(l:aD):runN (b::l)=if nm b then runN l+1 else 0:=by
 unfold runN;rw[O9];split<;>simp
theorem ad6:∀ {w:aD}(r:aD),runN w=w.length→runN (w++r)=w.length+runN r
 |[],r,_=>by simp
 |b::w,r,h=>by
  rw[sJ]at h;rw[E0,sJ];split at h
  ·rename_i T;rw[if_pos T,ad6 r (by simpa using h)];simp;omega
  ·simp at h
theorem aq9:∀ w∈kh,∃ b r,w=b::r∧nm b=false∧jJ b=false∧b≠10∧b≠35:=by
 intro w ax;have:∀ w∈kh,w≠[]∧nm (w.headD 0)=false∧jJ (w.headD 0)=false∧w.headD 0≠10∧w.headD 0≠35:=by decide +kernel
 obtain⟨A,S⟩:=this w ax;cases w with
 |nil=>exact absurd rfl A
 |cons b r=>exact⟨b,r,rfl,S⟩
theorem aqc{b:UInt8}{r:aD}(m:Int)(h:jJ b=false∧b≠10∧b≠35):skip false (b::r) m=(b::r,m):=by
 simp[skip,h.1,h.2.1,h.2.2]
theorem adg(m:Int):dc [] m=([],m,true):=rfl
theorem ac0{base:Nat}:∀(a b:aD) (n:Nat),parse base (a++b) n=(parse base a n).bind (parse base b)
 |[],b,n=>rfl
 |x::a,b,n=>by
  rw[E0];unfold parse;cases yu x with
  |none=>rfl
  |some d =>
   simp only;split
   ·rfl
   ·split
    ·rfl
    ·exact ac0 a b _
theorem ahf:∀ d:Fin 10,yu (UInt8.ofNat (48+d.val))=some d.val:=by decide +kernel
theorem aof:∀(n:Nat),parse 10 (bs n) 0=if n≤4294967295 then some n else none:=by
 intro n;induction n using Nat.strongRecOn with
 |_ n ih =>
 have hd:=ahf ⟨n % 10,Nat.mod_lt _ (by omega)⟩;simp only at hd;rw[bs];split
 ·rename_i lk;rw[ac0,ih (n / 10) (by omega)];by_cases ak:n / 10≤4294967295
  ·rw[if_pos ak];simp only[Option.bind_some,parse,hd];rw[if_neg (by omega)];by_cases hn:n≤4294967295
   ·rw[if_pos hn,if_neg (by omega)];congr 1;omega
   ·rw[if_neg hn,if_pos (by omega)]
  ·rw[if_neg ak,if_neg (by omega)];rfl
 ·rename_i lk;simp only[parse,hd];rw[if_neg (by omega),if_neg (by omega),if_pos (by omega)]
  congr 1;omega
def rJ(b:UInt8):Bool:=decide (48≤b.toNat) && decide (b.toNat≤57)
theorem Kl(n:Nat):∀ b∈bs n,rJ b=true:=by
 induction n using Nat.strongRecOn with
 |_ n ih =>
 have A:rJ (UInt8.ofNat (48+n % 10))=true:=by
  have:∀ d:Fin 10,rJ (UInt8.ofNat (48+d.val))=true:=by decide +kernel
  exact this ⟨n % 10,Nat.mod_lt _ (by omega)⟩
 rw[bs];split
 ·intro b T;rcases Aa.1 T with T|T
  ·exact ih (n / 10) (by omega) b T
  ·rw[Iw.1 T];exact A
 ·intro b T;rw[Iw.1 T];exact A
theorem CF{b:UInt8}(h:rJ b=true):Lib.lowerB b=b∧nm b=true∧b≠120∧b.toNat≤57:=by
 have:∀ n:Fin 256,rJ (UInt8.ofNat n.val)=true→Lib.lowerB (UInt8.ofNat n.val)=UInt8.ofNat n.val∧nm (UInt8.ofNat n.val)=true∧UInt8.ofNat n.val≠120∧(UInt8.ofNat n.val).toNat≤57:=by decide +kernel
 have:=this ⟨b.toNat,Ew b⟩;simp only[UInt8.ofNat_toNat]at this;exact this h
theorem Km(n:Nat):∃ b r,bs n=b::r∧rJ b=true:=by
 have h:=Kl n;have ag:bs n≠[]:=by rw[bs];split<;>simp
 cases hd:bs n with
 |nil=>exact absurd hd ag
 |cons b r=>exact⟨b,r,rfl,h b (by rw[hd];simp)⟩
theorem ah1(n:Nat)(hn:0<n):(bs n).head?≠some 48:=by
 induction n using Nat.strongRecOn with
 |_ n ih =>
 rw[bs];split
 ·rename_i lk;obtain⟨b,r,T,_⟩:=Km (n / 10);have:=ih (n / 10) (by omega) (by omega);rw[T]at this ⊢;simpa using this
 ·rename_i lk;have:∀ d:Fin 10,0<d.val→UInt8.ofNat (48+d.val % 10)≠48:=by decide +kernel
  have:=this ⟨n,by omega⟩ hn;simpa using this
theorem al1{l:aD}(h:∀ b∈l,Lib.lowerB b=b):Lib.toLowerA l=l:=by
 unfold Lib.toLowerA
 conv=>rhs;rw[← List.map_id l]
 exact List.map_congr_left fun b T=>by simpa using h b T
theorem apH{l:aD}(h:∀ b∈l,nm b=true):runN l=l.length:=by
 induction l with
 |nil=>rfl
 |cons b r ih=>rw[sJ,if_pos (h b (by simp)),ih fun x af=>h x (by simp[af])];rfl
theorem aou{l:aD}(h:∀ b∈l,b≠120):[48,120].isPrefixOf l=false:=by
 cases hp:[48,120].isPrefixOf l with
 |false=>rfl
 |true =>
  obtain⟨r,hr⟩:=G3.1 hp;exact absurd rfl (h 120 (by rw[← hr];simp))
theorem ahh{l:aD}(h:∀ b∈l,b≠120):tL l=(l,10):=by
 unfold tL;rw[aou h];rfl
theorem aod{base:Nat}{l:aD}(h:l≠[]):pG base l=parse base l 0:=by
 cases l with
 |nil=>exact absurd rfl h
 |cons=>rfl
theorem alw{k:Nat}(ab:k≤4294967295):number (bs k)=some k:=by
 have hd:∀ b∈bs k,b≠120:=fun b T=>(CF (Kl k b T)).2.2.1;obtain⟨b,r,T,_⟩:=Km k;have cH:bs k≠[]:=by rw[T];simp
 have ag:=N7 9 k (by omega);have ajq:=al1 fun b T=>(CF (Kl k b T)).1;unfold number Md;rw[ahh hd];simp only;rw[aod cH,aof,if_pos ab];simp only;rw[if_neg];simp only[ajq,Ln,Bool.and_eq_true,decide_eq_true_eq,beq_iff_eq,K6,beq_self_eq_true,Fj,xZ,or_false,true_and,not_or,not_and];refine⟨by omega,fun A S=>?_⟩;rcases Nat.eq_zero_or_pos k with rfl|hp
 ·have:(bs 0).length=1:=by rw[bs];rfl
  omega
 ·exact ah1 k hp S
theorem arm{l:aD}(h:isWord l=true):∃ b r,l=b::r∧57<b.toNat:=by
 have:∀ w∈rj,w≠[]∧57<(w.headD 0).toNat:=by decide +kernel
 obtain⟨A,S⟩:=this l (by simpa[isWord] using h);cases l with
 |nil=>exact absurd rfl A
 |cons b r=>exact⟨b,r,rfl,S⟩
theorem ahg{b:UInt8}{r:aD}(h:b.toNat≤57):isWord (b::r)=false∧de (b::r)=false:=by
 constructor
 ·cases ax:isWord (b::r) with
  |false=>rfl
  |true =>
   obtain⟨b',dL,aK,T⟩:=arm ax;cases aK;omega
 ·unfold de;have:¬(57:Int)<(b.toNat:Int):=by omega
  simp[this]
theorem apV(r:aD)(m:Int):dc (10::r) m=dc r (m+1):=adh (by simp[skip,jJ]) (by simp)
theorem MD{b:UInt8}(T:jJ b=true)(r:aD)(m:Int):dc (b::r) m=dc r m:=adh (by simp[skip,T]) (by simp)
theorem adf{b:UInt8}{r:aD}(m:Int)(h:jJ b=false∧b≠10∧b≠35):dc (b::r) m=ia ((b::r).length+1) (b::r) m:=by
 unfold dc;rw[aqc m h]
theorem apX{b:UInt8}{r:aD}(m:Int)(h:jJ b=false∧b≠10∧b≠35)(hr:0<runN (b::r))(ab:(kR ((b::r).take (runN (b::r)))).2=true) :
  dc (b::r) m=({ (kR ((b::r).take (runN (b::r)))).1 with line:=m }::(dc ((b::r).drop (runN (b::r))) m).1,(dc ((b::r).drop (runN (b::r))) m).2):=by
 rw[adf m h,ia,if_pos hr,if_pos ab,UY _ m (by simp only[List.length_drop];have:=MA (b::r);simp only[hR]at *;omega)]
theorem apW{b:UInt8}{r:aD}(m:Int)(h:jJ b=false∧b≠10∧b≠35)(hr:runN (b::r)=0){g:aD}(aA:kh.find? (·.isPrefixOf (b::r))=some g) :
  dc (b::r) m=(⟨4,g,0,m⟩::(dc ((b::r).drop g.length) m).1,(dc ((b::r).drop g.length) m).2):=by
 have A:=MG aA;rw[adf m h,ia,if_neg (by omega),aA];simp only;rw[UY _ m (by simp only[List.length_drop,hR]at *;omega)]
def l3(w:aD)(m:Int):Tok:=⟨2,w,0,m⟩
def fY(s:aD)(m:Int):Tok:=⟨1,s,0,m⟩
def kV(n:Nat)(m:Int):Tok:=⟨3,bs n,n,m⟩
def bD(g:aD)(m:Int):Tok:=⟨4,g,0,m⟩
def fL(ts:List Tok)(r:List Tok × Int × Bool):List Tok × Int × Bool:=(ts++r.1,r.2)
theorem Nw(r:List Tok × Int × Bool):fL [] r=r:=rfl
theorem rp(a b:List Tok)(r:List Tok × Int × Bool):fL a (fL b r)=fL (a++b) r:=by simp[fL,wB]
def sd(l:aD):Prop:=∀ b r,l=b::r→nm b=false
def re(l:aD):Prop:=∀ b r,l=b::r→b≠46∧b≠60∧b≠61∧b≠62
def del(l:aD):Prop:=sd l∧re l
theorem ai1{l:aD}(h:sd l):runN l=0:=by
 cases l with
 |nil=>rfl
 |cons b r=>rw[sJ,h b r rfl];rfl
theorem U0{w:aD}{t:Tok}(h0:0<w.length)(A:runN w=w.length)(S:kR w=(t,true)){l:aD}(ag:sd l)(m:Int):dc (w++l) m=fL [{ t with line:=m }] (dc l m):=by
 cases w with
 |nil=>simp at h0
 |cons b r =>
  have T:nm b=true:=by
   rw[sJ]at A;cases aj:nm b with
   |true=>rfl
   |false=>rw[aj]at A;simp at A
  have hr:runN (b::(r++l))=(b::r).length:=by
   have:=ad6 (w:=b::r) l A;rw[ai1 ag]at this;simpa using this
  have aC:(b::(r++l)).take (b::r).length=b::r:=by
   rw[← E0,List.take_left'];rfl
  have hd:(b::(r++l)).drop (b::r).length=l:=by
   rw[← E0,List.drop_left'];rfl
  rw[E0,apX m (alr T) (by rw[hr];simp) (by rw[hr,aC,S]),hr,aC,hd,S];rfl
theorem aa9{s:aD}(h:de s=true):0<s.length∧runN s=s.length∧isWord s=false:=by
 unfold de at h;cases s with
 |nil=>cases h
 |cons b r =>
  simp only[Bool.and_eq_true,beq_iff_eq,K6,decide_eq_true_eq]at h;exact⟨by simp,h.1.1.2,h.2⟩
theorem UZ{s:aD}(h:de s=true){l:aD}(ag:sd l)(m:Int):dc (s++l) m=fL [fY s m] (dc l m):=by
 obtain⟨h0,A,S⟩:=aa9 h;rw[U0 h0 A (t:=⟨1,s,0,0⟩) (by unfold kR;rw[S,h];rfl) ag m];rfl
theorem apY{w:aD}(h:w∈rj){l:aD}(ag:sd l)(m:Int):dc (w++l) m=fL [l3 w m] (dc l m):=by
 have ax:∀ w∈rj,0<w.length∧runN w=w.length∧isWord w=true:=by decide +kernel
 obtain⟨h0,A,S⟩:=ax w h;rw[U0 h0 A (t:=⟨2,w,0,0⟩) (by unfold kR;rw[S];rfl) ag m];rfl
theorem adj{n:Nat}(hn:n<4294967296){l:aD}(ag:sd l)(m:Int):dc (bs n++l) m=fL [kV n m] (dc l m):=by
 obtain⟨b,r,e,T⟩:=Km n;have hd:=ahg (b:=b) (r:=r) (CF T).2.2.2;rw[U0 (w:=bs n) (t:=⟨3,bs n,n,0⟩) (by rw[e];simp) (apH fun x af=>(CF (Kl n x af)).2.1) (by unfold kR;rw[e,hd.1,hd.2,← e,alw (by omega)];rfl) ag m];rfl
theorem aq6{g:aD}(aA:g∈kh){l:aD}(ag:re l):kh.find? (·.isPrefixOf (g++l))=some g:=by
 cases l with
 |nil =>
  rw[zR];revert g;decide +kernel
 |cons b r =>
  obtain⟨A,S,ae,aB⟩:=ag b r rfl;have az:(46==b)=false:=by simpa using A.symm
  have aL:(60==b)=false:=by simpa using S.symm
  have bq:(61==b)=false:=by simpa using ae.symm
  have cV:(62==b)=false:=by simpa using aB.symm
  simp only[kh,oj,BR,or_false]at aA;rcases aA with rfl|rfl|rfl|rfl|rfl|rfl|rfl|rfl|rfl|rfl|rfl|rfl|rfl|rfl|rfl|rfl|rfl|rfl|rfl|rfl|rfl|rfl|rfl|rfl|rfl <;>
   simp[kh,List.find?,List.isPrefixOf,az,aL,bq,cV]
theorem B5{g:aD}(aA:g∈kh){l:aD}(ag:re l)(m:Int):dc (g++l) m=fL [bD g m] (dc l m):=by
 obtain⟨b,r,e,A,S⟩:=aq9 g aA;have aZ:=aq6 aA ag;subst e;rw[E0]at aZ ⊢;rw[apW m S (by rw[sJ,A];rfl) aZ,← E0,List.drop_left' rfl];rfl
theorem adt:∀(o:Int),1≤o∧o≤17→eU o∈kh:=by
 intro o h;have:o=1∨o=2∨o=3∨o=4∨o=5∨o=6∨o=7∨o=8∨o=9∨o=10∨o=11∨o=12∨o=13∨o=14∨o=15∨o=16∨o=17:=by omega
 rcases this with rfl|rfl|rfl|rfl|rfl|rfl|rfl|rfl|rfl|rfl|rfl|rfl|rfl|rfl|rfl|rfl|rfl<;>decide +kernel
def pJ(m:Int)(e:aX)(dz:Nat)(s:List Tok):List Tok:=if e.kind=4∧cy e.op<dz then bD [40] m::(s++[bD [41] m]) else s
def al9(m k o n:Int)(s:aD)(ts:List (aX × List Tok)):List Tok :=
 if k=1 then[kV n.toNat m]
 else if k=5 then match ts with|a::_=>fY s m::bD [91] m::(a.2++[bD [93] m])|[]=>[]
 else if k=3 then match ts with|a::_=>bD (eU o) m::pJ m a.1 9 a.2|[]=>[]
 else if k=4 then match ts with|a::b::_=>pJ m a.1 (cy o) a.2++bD (eU o) m::pJ m b.1 (cy o+1) b.2|_=>[]
 else[fY s m]
mutual
def fo(m:Int):aX→List Tok
 |.mk k o n s args=>al9 m k o n s (ae4 m args)
def ae4(m:Int):List aX→List (aX × List Tok)
 |[]=>[]
 |e::r=>(e,fo m e)::ae4 m r
end
theorem Kn{b:UInt8}{l:aD}(h:nm b=false∧b≠46∧b≠60∧b≠61∧b≠62):del (b::l):=⟨fun b' r e=>by cases e;exact h.1,fun b' r e=>by cases e;exact h.2⟩
theorem B6{b:UInt8}{l:aD}(h:b≠46∧b≠60∧b≠61∧b≠62):re (b::l):=fun b' r e=>by cases e;exact h
theorem YA{b:UInt8}{l:aD}(h:nm b=false):sd (b::l):=fun b' r e=>by cases e;exact h
theorem abt{b:UInt8}(h:nm b=true):b≠46∧b≠60∧b≠61∧b≠62:=by
 refine⟨?_,?_,?_,?_⟩<;>(rintro rfl;revert h;decide)
theorem adr{s:aD}(h:de s=true)(l:aD):re (s++l):=by
 obtain⟨h0,A,_⟩:=aa9 h;cases s with
 |nil=>simp at h0
 |cons b r =>
  refine B6 (abt ?_);rw[sJ]at A;cases aj:nm b with
  |true=>rfl
  |false=>rw[aj]at A;simp at A
theorem U2(n:Nat)(l:aD):re (bs n++l):=by
 obtain⟨b,r,e,T⟩:=Km n;rw[e];exact B6 (abt (CF T).2.1)
theorem B7{e:aX}{d:Nat}(h:e1 e d):∀ l,re (bU e++l):=by
 induction h with
 |num n d h=>intro l;exact U2 _ l
 |var s d h=>intro l;exact adr h l
 |one o a d h ai ih =>
  intro l;have:∀ o:Int,15≤o∧o≤17→∃ b,eU o=[b]∧b≠46∧b≠60∧b≠61∧b≠62:=fun o h=>by
   have:o=15∨o=16∨o=17:=by omega
   rcases this with rfl|rfl|rfl<;>exact⟨_,rfl,by decide⟩
  obtain⟨b,az,aL⟩:=this o h;show re ((eU o++nb a 9 (bU a))++l);rw[az];exact B6 aL
 |two o a b d h ai T zu DI =>
  intro l;show re ((nb a (cy o) (bU a)++32::(eU o++32::nb b (cy o+1) (bU b)))++l);rw[wB];unfold nb;split
  ·exact B6 (by decide)
  ·exact zu _
 |idx s a d h ai ih =>
  intro l;show re ((s++91::(bU a++[93]))++l);rw[wB];exact adr h _
theorem U1{e:aX}(ih:∀ l m,del l→dc (bU e++l) m=fL (fo m e) (dc l m))(ak:∀ l,re (bU e++l))(k:Nat)(l:aD)(m:Int)(ag:del l):dc (nb e k (bU e)++l) m=fL (pJ m e k (fo m e)) (dc l m):=by
 unfold nb pJ;split
 ·have az:(40::(bU e++[41]))++l=[40]++(bU e++([41]++l)):=by simp
  rw[az,B5 (by decide) (ak _),ih ([41]++l) m (show del (41::l) from Kn (by decide)),B5 (by decide) ag.2,rp,rp];rfl
 ·exact ih l m ag
theorem adl{e:aX}{d:Nat}(h:e1 e d):∀ l m,del l→dc (bU e++l) m=fL (fo m e) (dc l m):=by
 induction h with
 |num n d h=>intro l m ag;exact adj h ag.1 m
 |var s d h=>intro l m ag;exact UZ h ag.1 m
 |one o a d h ai ih =>
  intro l m ag;show dc ((eU o++nb a 9 (bU a))++l) m=fL (bD (eU o) m::pJ m a 9 (fo m a)) _;rw[wB,B5 (adt o (by omega)) (by unfold nb;split;exact B6 (by decide);exact B7 ai _),U1 ih (B7 ai) 9 l m ag,rp];rfl
 |two o a b d h ai T zu DI =>
  intro l m ag;show dc ((nb a (cy o) (bU a)++32::(eU o++32::nb b (cy o+1) (bU b)))++l) m=fL (pJ m a (cy o) (fo m a)++bD (eU o) m::pJ m b (cy o+1) (fo m b)) _;have az:(nb a (cy o) (bU a)++32::(eU o++32::nb b (cy o+1) (bU b)))++l=nb a (cy o) (bU a)++32::(eU o++32::(nb b (cy o+1) (bU b)++l)):=by simp
  rw[az,U1 zu (B7 ai) _ _ m (Kn (by decide)),MD (by decide),B5 (adt o (by omega)) (B6 (by decide)),MD (by decide),U1 DI (B7 T) _ l m ag,rp,rp]
  congr 1
  simp
 |idx s a d h ai ih =>
  intro l m ag;show dc ((s++91::(bU a++[93]))++l) m=fL (fY s m::bD [91] m::(fo m a++[bD [93] m])) _;have az:(s++91::(bU a++[93]))++l=s++([91]++(bU a++([93]++l))):=by simp
  rw[az,UZ h (l:=[91]++(bU a++([93]++l))) (YA (by decide)),B5 (by decide) (B7 ai _),ih ([93]++l) m (show del (93::l) from Kn (by decide)),B5 (by decide) ag.2,rp,rp,rp]
  congr 1
section
variable {l:aD}{m:Int}{ts:List Tok}{R X:List Tok × Int × Bool}
theorem vM{s:aD}(h:de s=true)(ag:sd l)(g:dc l m=fL ts R):dc (s++l) m=fL (fY s m::ts) R:=by
 rw[UZ h ag,g,rp];rfl
theorem uE{w:aD}(h:w∈rj)(ag:sd l)(g:dc l m=fL ts R):dc (w++l) m=fL (l3 w m::ts) R:=by
 rw[apY h ag,g,rp];rfl
theorem vN{n:Nat}(h:n<4294967296)(ag:sd l)(g:dc l m=fL ts R):dc (bs n++l) m=fL (kV n m::ts) R:=by
 rw[adj h ag,g,rp];rfl
theorem mr{s:aD}(h:s∈kh)(ag:re l)(g:dc l m=fL ts R):dc (s++l) m=fL (bD s m::ts) R:=by
 rw[B5 h ag,g,rp];rfl
theorem HU{e:aX}{d:Nat}(h:e1 e d)(ag:del l)(g:dc l m=fL ts R):dc (bU e++l) m=fL (fo m e++ts) R:=by
 rw[adl h l m ag,g,rp]
theorem kg(g:dc l m=X):dc ([32]++l) m=X:=by
 rw[← g];exact MD (by decide) l m
theorem q5(g:dc l (m+1)=X):dc ([10]++l) m=X:=by
 rw[← g];exact apV l m
theorem vO(t:Nat)(g:dc l m=X):dc (bR t++l) m=X:=by
 rw[← g];induction t with
 |zero=>rfl
 |succ t ih =>
  rw[show bR (t+1)++l=9::(bR t++l) from rfl,MD (by decide),ih]
end
theorem jD{b:UInt8}{l:aD}(h:nm b=false):sd ([b]++l):=YA h
theorem nW{b:UInt8}{l:aD}(h:b≠46∧b≠60∧b≠61∧b≠62):re ([b]++l):=B6 h
theorem E8{b:UInt8}{l:aD}(h:nm b=false∧b≠46∧b≠60∧b≠61∧b≠62):del ([b]++l):=Kn h
mutual
def DS:aP→Nat
 |.mk k _ _ _ _ aU bz=>if k=5∨k=6∨k=7 then 2+ey aU+(if bz.isEmpty then 0 else 1+ey bz) else 1
def ey:List aP→Nat
 |[]=>0
 |s::r=>DS s+ey r
end
def yl(m:Int)(head nw:List Tok)(a:Nat)(el:List Tok)(b:Nat)(tn:Bool):List Tok :=
 head++bD [123] m::(nw++((if tn then bD [125] (m+1+a)::l3 [101,108,115,101] (m+1+a)::bD [123] (m+1+a)::el else[])++[bD [125] (if tn then m+1+a+1+b else m+1+a)]))
def L3(m k:Int)(s f:aD)(n:Int)(ts:List (List Tok))(nw:List Tok)(a:Nat)(el:List Tok)(b:Nat)(tn:Bool):List Tok :=
 if k=1 then fY s m::bD [61] m::(ts.getD 0 []++[bD [59] m])
 else if k=2 then[fY s m,bD [61] m,fY f m,bD [46] m,kV n.toNat m,bD [59] m]
 else if k=3 then fY s m::bD [46] m::kV n.toNat m::bD [61] m::(ts.getD 0 []++[bD [59] m])
 else if k=4 then fY s m::bD [91] m::(ts.getD 0 []++bD [93] m::bD [61] m::(ts.getD 1 []++[bD [59] m]))
 else if k=8 then[l3 [104,97,108,116] m,bD [59] m]
 else if k=5 then yl m [l3 [108,111,99,107] m,fY s m] nw a el b tn
 else if k=7 then yl m [l3 [114,101,112,101,97,116] m,kV n.toNat m] nw a el b tn
 else if k=6 then yl m (l3 [105,102] m::bD [40] m::(ts.getD 0 []++[bD [41] m])) nw a el b tn
 else[]
mutual
def sO(m:Int):aP→List Tok
 |.mk k s f n args aU bz=>L3 m k s f n (args.map (fo m)) (ki (m+1) aU) (ey aU) (ki (m+1+ey aU+1) bz) (ey bz) (!bz.isEmpty)
def ki(m:Int):List aP→List Tok
 |[]=>[]
 |s::r=>sO m s++ki (m+DS s) r
end
def EK(s:aP):Prop:=∀(t:Nat) (l:aD) (m:Int),dc (gy t s++l) m=fL (sO m s) (dc l (m+DS s))
theorem HT:∀(et:List aP),(∀ s∈et,EK s)→∀(t:Nat) (l:aD) (m:Int) (ts:List Tok) (R:List Tok × Int × Bool),dc l (m+ey et)=fL ts R→dc (cJ t et++l) m=fL (ki m et++ts) R
 |[],_,t,l,m,ts,R,g=>by simpa[cJ,ki,ey] using g
 |s::r,h,t,l,m,ts,R,g=>by
  have g2:dc l (m+DS s+ey r)=fL ts R:=by
   rw[← g];congr 1;simp only[ey];omega
  rw[show cJ t (s::r)=gy t s++cJ t r from rfl,wB,h s (by simp),HT r (fun x af=>h x (by simp[af])) t l (m+DS s) ts R g2,rp,← wB];rfl
theorem Un{t:Nat}{head:aD}{hd:List Tok}{aU bz:List aP}{l:aD}{m:Int}(cp:∀ x ts R,sd x→re x→dc x m=fL ts R→dc (head++x) m=fL (hd++ts) R)(A:∀ s∈aU,EK s)(S:∀ s∈bz,EK s) :
  dc (kC t head (cJ (t+1) aU) (cJ (t+1) bz) (!bz.isEmpty)++l) m=fL (yl m hd (ki (m+1) aU) (ey aU) (ki (m+1+ey aU+1) bz) (ey bz) (!bz.isEmpty)) (dc l (m+(2+ey aU+(if bz.isEmpty then 0 else 1+ey bz):Nat))):=by
 unfold kC yl dA;cases iP:bz.isEmpty with
 |true =>
  simp only[Fj,xZ,if_false,if_true,zR,NE];have az:(bR t++[head,[32,123]].flatten++[10]++cJ (t+1) aU++(bR t++[[125]].flatten++[10]))++l=bR t++(head++([32]++([123]++([10]++(cJ (t+1) aU++(bR t++([125]++([10]++l)))))))):=by simp
  rw[az];refine vO t (cp _ _ _ (jD (by decide)) (nW (by decide)) (kg (mr (by decide) (nW (by decide)) (q5 (HT aU A _ _ _ _ _ (vO t (mr (by decide) (nW (by decide)) (q5 ?_))))))));rw[Nw];congr 1;omega
 |false =>
  simp only[Cg,xZ,if_false,if_true];have az:(bR t++[head,[32,123]].flatten++[10]++cJ (t+1) aU++(bR t++[[125,32,101,108,115,101,32,123]].flatten++[10]++cJ (t+1) bz)++(bR t++[[125]].flatten++[10]))++l=bR t++(head++([32]++([123]++([10]++(cJ (t+1) aU++(bR t++([125]++([32]++([101,108,115,101]++([32]++([123]++([10]++(cJ (t+1) bz++(bR t++([125]++([10]++l)))))))))))))))):=by simp
  rw[az];have key:dc (bR t++(head++([32]++([123]++([10]++(cJ (t+1) aU++(bR t++([125]++([32]++([101,108,115,101]++([32]++([123]++([10]++(cJ (t+1) bz++(bR t++([125]++([10]++l))))))))))))))))) m=fL (hd++bD [123] m::(ki (m+1) aU++bD [125] (m+1+ey aU)::l3 [101,108,115,101] (m+1+ey aU)::bD [123] (m+1+ey aU)::(ki (m+1+ey aU+1) bz++[bD [125] (m+1+ey aU+1+ey bz)]))) (dc l (m+(2+ey aU+(1+ey bz):Nat))):=by
   refine vO t (cp _ _ _ (jD (by decide)) (nW (by decide)) (kg (mr (by decide) (nW (by decide)) (q5 (HT aU A _ _ _ _ _ (vO t (mr (by decide) (nW (by decide)) (kg (uE (by decide) (jD (by decide)) (kg (mr (by decide) (nW (by decide)) (q5 (HT bz S _ _ _ _ _ (vO t (mr (by decide) (nW (by decide)) (q5 ?_))))))))))))))));rw[Nw];congr 1;omega
  rw[key]
  congr 1
  all_goals simp
theorem adk:∀(d:Nat) (s:aP),jx s d→EK s
 |0,s,h=>by cases h
 |d+1,s,h=>by
  have ih:=adk d;intro t l m;cases h with
  |set s a _ h ai =>
   show dc (dA t [s,[32,61,32],bU a,[59]]++l) m=fL (fY s m::bD [61] m::(fo m a++[bD [59] m])) (dc l (m+1));have az:dA t [s,[32,61,32],bU a,[59]]++l=bR t++(s++([32]++([61]++([32]++(bU a++([59]++([10]++l))))))):=by simp[dA]
   rw[az];exact vO t (vM h (jD (by decide)) (kg (mr (by decide) (nW (by decide)) (kg (HU ai (E8 (by decide)) (mr (by decide) (nW (by decide)) (q5 rfl)))))))
  |get s f n _ h aZ hn =>
   show dc (dA t [s,[32,61,32],f,[46],bs n,[59]]++l) m=fL [fY s m,bD [61] m,fY f m,bD [46] m,kV n m,bD [59] m] (dc l (m+1));have az:dA t [s,[32,61,32],f,[46],bs n,[59]]++l=bR t++(s++([32]++([61]++([32]++(f++([46]++(bs n++([59]++([10]++l))))))))):=by simp[dA]
   rw[az];exact vO t (vM h (jD (by decide)) (kg (mr (by decide) (nW (by decide)) (kg (vM aZ (jD (by decide)) (mr (by decide) (U2 n _) (vN (by omega) (jD (by decide)) (mr (by decide) (nW (by decide)) (q5 rfl)))))))))
  |put s n a _ h hn ai =>
   show dc (dA t [s,[46],bs n,[32,61,32],bU a,[59]]++l) m=fL (fY s m::bD [46] m::kV n m::bD [61] m::(fo m a++[bD [59] m])) (dc l (m+1));have az:dA t [s,[46],bs n,[32,61,32],bU a,[59]]++l=bR t++(s++([46]++(bs n++([32]++([61]++([32]++(bU a++([59]++([10]++l))))))))):=by simp[dA]
   rw[az];exact vO t (vM h (jD (by decide)) (mr (by decide) (U2 n _) (vN (by omega) (jD (by decide)) (kg (mr (by decide) (nW (by decide)) (kg (HU ai (E8 (by decide)) (mr (by decide) (nW (by decide)) (q5 rfl)))))))))
  |store s a b _ h ai T =>
   show dc (dA t [s,[91],bU a,[93,32,61,32],bU b,[59]]++l) m=fL (fY s m::bD [91] m::(fo m a++bD [93] m::bD [61] m::(fo m b++[bD [59] m]))) (dc l (m+1));have az:dA t [s,[91],bU a,[93,32,61,32],bU b,[59]]++l=bR t++(s++([91]++(bU a++([93]++([32]++([61]++([32]++(bU b++([59]++([10]++l)))))))))):=by simp[dA]
   rw[az];exact vO t (vM h (jD (by decide)) (mr (by decide) (B7 ai _) (HU ai (E8 (by decide)) (mr (by decide) (nW (by decide)) (kg (mr (by decide) (nW (by decide)) (kg (HU T (E8 (by decide)) (mr (by decide) (nW (by decide)) (q5 rfl))))))))))
  |lock s aU _ h aC =>
   exact Un (t:=t) (l:=l) (m:=m) (bz:=[]) (head:=[108,111,99,107,32]++s) (hd:=[l3 [108,111,99,107] m,fY s m]) (fun x ts R f1 f2 g=>by
    rw[show([108,111,99,107,32]++s)++x=[108,111,99,107]++([32]++(s++x)) by simp];exact uE (by decide) (jD (by decide)) (kg (vM h f1 g))) (fun s ak=>ih s (aC s ak)) (fun s ak=>by cases ak)
  |cond a aU bz _ ai aC aK =>
   exact Un (t:=t) (l:=l) (m:=m) (head:=[105,102,32,40]++bU a++[41]) (hd:=l3 [105,102] m::bD [40] m::(fo m a++[bD [41] m])) (fun x ts R f1 f2 g=>by
    rw[show([105,102,32,40]++bU a++[41])++x=[105,102]++([32]++([40]++(bU a++([41]++x)))) by simp];have:=uE (w:=[105,102]) (by decide) (jD (by decide)) (kg (mr (s:=[40]) (by decide) (B7 ai _) (HU ai (E8 (by decide)) (mr (s:=[41]) (by decide) f2 g))));simpa using this) (fun s ak=>ih s (aC s ak)) (fun s ak=>ih s (aK s ak))
  |rW n aU _ hn aC =>
   exact Un (t:=t) (l:=l) (m:=m) (bz:=[]) (head:=[114,101,112,101,97,116,32]++bs n) (hd:=[l3 [114,101,112,101,97,116] m,kV n m]) (fun x ts R f1 f2 g=>by
    rw[show([114,101,112,101,97,116,32]++bs n)++x=[114,101,112,101,97,116]++([32]++(bs n++x)) by simp];exact uE (by decide) (jD (by decide)) (kg (vN (by omega) f1 g))) (fun s ak=>ih s (aC s ak)) (fun s ak=>by cases ak)
  |halt =>
   show dc (dA t [[104,97,108,116,59]]++l) m=fL [l3 [104,97,108,116] m,bD [59] m] (dc l (m+1));have az:dA t [[104,97,108,116,59]]++l=bR t++([104,97,108,116]++([59]++([10]++l))):=by simp[dA]
   rw[az];exact vO t (uE (by decide) (jD (by decide)) (mr (by decide) (nW (by decide)) (q5 rfl)))
def aqO(m:Int)(d:Nm):List Tok:=[l3 [100,101,118,105,99,101] m,fY d.name m,l3 (sC.getD d.n.toNat []) m]
def aqP(m:Int)(d:Nm):List Tok:=[l3 [114,101,115,111,117,114,99,101] m,fY d.name m,kV d.n.toNat m]
def Gc(m:Int)(t:dO):List Tok:=[l3 (if t.ga then[104,97,110,100,108,101,114] else[116,97,115,107]) m,fY t.name m,kV t.cB.toNat m,kV t.prio.toNat m]++(if t.ga then[kV t.line.toNat m] else[])++[bD [123] m]
def If(m:Int)(t:dO):List Tok:=Gc m t++(ki (m+1) t.body++[bD [125] (m+1+ey t.body)])
def xO(m:Int):List Nm→List Tok
 |[]=>[]
 |d::r=>aqO m d++xO (m+1) r
def v7(m:Int):List Nm→List Tok
 |[]=>[]
 |d::r=>aqP m d++v7 (m+1) r
def nX(m:Int):List dO→List Tok
 |[]=>[]
 |t::r=>If m t++nX (m+(2+ey t.body:Nat)) r
def BK:List dO→Nat
 |[]=>0
 |t::r=>2+ey t.body+BK r
def Et(p:gS):List Tok:=l3 [104,97,114,116,115] 1::kV p.bS.toNat 1::(xO 2 p.c2++(v7 (2+p.c2.length) p.cv++nX (2+p.c2.length+p.cv.length) p.db))
def HB(p:gS):Int:=2+p.c2.length+p.cv.length+(BK p.db:Nat)
theorem akE:∀ n:Int,1≤n∧n≤3→sC.getD n.toNat []∈rj:=by
 intro n h;have:n=1∨n=2∨n=3:=by omega
 rcases this with rfl|rfl|rfl<;>decide +kernel
theorem abB:∀(bG:List Nm),(∀ d∈bG,jO d=true)→∀(l:aD) (m:Int) (ts:List Tok) (R:List Tok × Int × Bool),dc l (m+bG.length)=fL ts R→dc ((bG.map ir).flatten++l) m=fL (xO m bG++ts) R
 |[],_,l,m,ts,R,g=>by simpa[xO] using g
 |d::r,h,l,m,ts,R,g=>by
  have hd:=h d (by simp);simp only[jO,Bool.and_eq_true,decide_eq_true_eq]at hd;have g2:dc l (m+1+r.length)=fL ts R:=by rw[← g];congr 1;simp only[hR];omega
  have ih:=abB r (fun x af=>h x (by simp[af])) l (m+1) ts R g2;have az:((d::r).map ir).flatten++l=[100,101,118,105,99,101]++([32]++(d.name++([32]++(sC.getD d.n.toNat []++([10]++((r.map ir).flatten++l)))))):=by simp[ir,dA,bR]
  rw[az];exact uE (by decide) (jD (by decide)) (kg (vM hd.1 (jD (by decide)) (kg (uE (akE _ hd.2) (jD (by decide)) (q5 ih)))))
theorem abC:∀(bG:List Nm),(∀ d∈bG,jY d=true)→∀(l:aD) (m:Int) (ts:List Tok) (R:List Tok × Int × Bool),dc l (m+bG.length)=fL ts R→dc ((bG.map iR).flatten++l) m=fL (v7 m bG++ts) R
 |[],_,l,m,ts,R,g=>by simpa[v7] using g
 |d::r,h,l,m,ts,R,g=>by
  have hd:=h d (by simp);simp only[jY,Bool.and_eq_true,decide_eq_true_eq]at hd;have g2:dc l (m+1+r.length)=fL ts R:=by rw[← g];congr 1;simp only[hR];omega
  have ih:=abC r (fun x af=>h x (by simp[af])) l (m+1) ts R g2;have az:((d::r).map iR).flatten++l=[114,101,115,111,117,114,99,101]++([32]++(d.name++([32]++(bs d.n.toNat++([10]++((r.map iR).flatten++l)))))):=by simp[iR,dA,bR]
  rw[az];exact uE (by decide) (jD (by decide)) (kg (vM hd.1 (jD (by decide)) (kg (vN (by omega) (jD (by decide)) (q5 ih)))))
theorem abD:∀(bG:List dO),(∀ d∈bG,js d=true)→∀(l:aD) (m:Int) (ts:List Tok) (R:List Tok × Int × Bool),dc l (m+(BK bG:Nat))=fL ts R→dc ((bG.map fh).flatten++l) m=fL (nX m bG++ts) R
 |[],_,l,m,ts,R,g=>by simpa[nX,BK] using g
 |d::r,h,l,m,ts,R,g=>by
  have hd:=h d (by simp);simp only[js,Bool.and_eq_true,decide_eq_true_eq,we,nU]at hd;obtain⟨⟨⟨⟨A,S⟩,ae⟩,aB⟩,aG⟩:=hd;have ag:d.line.toNat<4294967296:=by cases T:d.ga<;>simp[T]at aB<;>omega
  have ak:∀ s∈d.body,EK s:=fun s ak=>adk 30 s ((Cl 30 s).1 (aG s ak));have g2:dc l (m+(2+ey d.body:Nat)+(BK r:Nat))=fL ts R:=by rw[← g];congr 1;simp only[BK];omega
  have ih:=abD r (fun x af=>h x (by simp[af])) l (m+(2+ey d.body:Nat)) ts R g2;have tail:∀ hd:List Tok,dc ([123]++([10]++(cJ 1 d.body++([125]++([10]++((r.map fh).flatten++l)))))) m=fL (bD [123] m::(ki (m+1) d.body++(bD [125] (m+1+ey d.body)::(nX (m+(2+ey d.body:Nat)) r++ts)))) R:=fun _=>by
   refine mr (by decide) (nW (by decide)) (q5 (HT d.body ak _ _ _ _ _ (mr (by decide) (nW (by decide)) (q5 ?_))));rw[← ih];congr 1;omega
  cases T:d.ga with
  |true =>
   have az:((d::r).map fh).flatten++l=[104,97,110,100,108,101,114]++([32]++(d.name++([32]++(bs d.cB.toNat++([32]++(bs d.prio.toNat++([32]++(bs d.line.toNat++([32]++([123]++([10]++(cJ 1 d.body++([125]++([10]++((r.map fh).flatten++l))))))))))))))):=by simp[fh,qN,dA,bR,T]
   rw[az];have:=uE (w:=[104,97,110,100,108,101,114]) (by decide) (jD (by decide)) (kg (vM A (jD (by decide)) (kg (vN (n:=d.cB.toNat) (by omega) (jD (by decide)) (kg (vN (n:=d.prio.toNat) (by omega) (jD (by decide)) (kg (vN ag (jD (by decide)) (kg (tail []))))))))));rw[this]
   congr 1
   simp[nX,If,Gc,T]
  |false =>
   have az:((d::r).map fh).flatten++l=[116,97,115,107]++([32]++(d.name++([32]++(bs d.cB.toNat++([32]++(bs d.prio.toNat++([32]++([123]++([10]++(cJ 1 d.body++([125]++([10]++((r.map fh).flatten++l))))))))))))):=by simp[fh,qN,dA,bR,T]
   rw[az];have:=uE (w:=[116,97,115,107]) (by decide) (jD (by decide)) (kg (vM A (jD (by decide)) (kg (vN (n:=d.cB.toNat) (by omega) (jD (by decide)) (kg (vN (n:=d.prio.toNat) (by omega) (jD (by decide)) (kg (tail []))))))));rw[this]
   congr 1
   simp[nX,If,Gc,T]
theorem apZ{p:gS}(A:0≤p.bS∧p.bS≤4)(S:∀ d∈p.c2,jO d=true)(ae:∀ d∈p.cv,jY d=true)(aB:∀ d∈p.db,js d=true):dc (lZ p) 1=(Et p,HB p,true):=by
 have az:lZ p=[104,97,114,116,115]++([32]++(bs p.bS.toNat++([10]++((p.c2.map ir).flatten++((p.cv.map iR).flatten++((p.db.map fh).flatten++[])))))):=by simp[lZ,dA,bR]
 have:=uE (w:=[104,97,114,116,115]) (m:=1) (by decide) (jD (by decide)) (kg (vN (n:=p.bS.toNat) (by omega) (jD (by decide)) (q5 (abB p.c2 S _ _ _ _ (abC p.cv ae _ _ _ _ (abD p.db aB [] _ [] (dc [] (1+1+p.c2.length+p.cv.length+(BK p.db:Nat))) (Nw _).symm))))));rw[az,this,adg];simp only[fL,Et,HB,zR]
 congr 1
theorem apT{p:gS}(A:0≤p.bS∧p.bS≤4)(S:∀ d∈p.c2,jO d=true)(ae:∀ d∈p.cv,jY d=true)(aB:∀ d∈p.db,js d=true)(ag:(lZ p).length≤20000):jc (lZ p)=(Et p++[me (HB p)],0,0):=by
 unfold jc;rw[ade,apZ A S ae aB,if_neg (by omega),if_pos rfl]
inductive PR(c1:Type) where
 |ok (a:c1) (r:List Tok)
 |bad (e line:Int)
 |out
def PR.bind{c1 l5:Type}(x:PR c1)(g:c1→List Tok→PR l5):PR l5:=match x with
 |.ok a r=>g a r
 |.bad e l=>.bad e l
 |.out=>.out
def hd(l:List Tok):Tok:=l.headD (me 0)
def dk(s:aD)(t:Tok):Bool:=t.text==s && (t.kind==2 || t.kind==4)
def binOp(t:Tok):Int:=match(List.range' 1 14).find? (fun o=>dk (eU (o:Nat)) t) with|some o=>(o:Int)|none=>0
def unOp(t:Tok):Int:=match(List.range' 15 3).find? (fun o=>dk (eU (o:Nat)) t) with|some o=>(o:Int)|none=>0
def tM:Int:=70
def Fc:Int:=71
def mP(s:aD)(l:List Tok):PR Unit:=if dk s (hd l) then .ok () l.tail else .bad tM (hd l).line
mutual
def nT:Nat→Nat→List Tok→PR aX
 |0,_,_=>.out
 |f+1,deep,l =>
  if 1000<deep then .bad Fc 1
  else if unOp (hd l)≠0 then(nT f (deep+1) l.tail).bind fun a r=>.ok (.mk 3 (unOp (hd l)) 0 [] [a]) r
  else if dk [40] (hd l) then(lB f 1 (deep+1) l.tail).bind fun e r=>(mP [41] r).bind fun _ r=>.ok e r
  else if(hd l).kind=3 then .ok (.mk 1 0 (hd l).n [] []) l.tail
  else if(hd l).kind≠1 then .bad tM (hd l).line
  else if dk [91] (hd l.tail) then(lB f 1 (deep+1) l.tail.tail).bind fun e r=>(mP [93] r).bind fun _ r=>.ok (.mk 5 0 0 (hd l).text [e]) r
  else .ok (.mk 2 0 0 (hd l).text []) l.tail
def lB:Nat→Nat→Nat→List Tok→PR aX
 |0,_,_,_=>.out
 |f+1,dz,deep,l=>(nT f deep l).bind fun e r=>qc f e dz deep r
def qc:Nat→aX→Nat→Nat→List Tok→PR aX
 |0,_,_,_,_=>.out
 |f+1,e,dz,deep,l =>
  if cy (binOp (hd l))=0∨cy (binOp (hd l))<dz then .ok e l
  else(lB f (cy (binOp (hd l))+1) deep l.tail).bind fun b r=>qc f (.mk 4 (binOp (hd l)) 0 [] [e,b]) dz deep r
end
def tB(deep:Nat)(l:List Tok)(e:aX)(r:List Tok):Prop:=∃ f0,∀ f,f0≤f→nT f deep l=.ok e r
def wm(dz deep:Nat)(l:List Tok)(e:aX)(r:List Tok):Prop:=∃ f0,∀ f,f0≤f→lB f dz deep l=.ok e r
def Cr(e:aX)(dz deep:Nat)(l:List Tok)(x:aX)(r:List Tok):Prop:=∃ f0,∀ f,f0≤f→qc f e dz deep l=.ok x r
theorem VL{dz deep:Nat}{l r dL:List Tok}{e x:aX}(A:tB deep l e r)(S:Cr e dz deep r x dL):wm dz deep l x dL:=by
 obtain⟨a,A⟩:=A;obtain⟨b,S⟩:=S;refine⟨max a b+1,fun f aZ=>?_⟩;obtain⟨f,rfl⟩:∃ g,f=g+1:=⟨f-1,by omega⟩;rw[lB,A f (by omega)];exact S f (by omega)
theorem EF{e:aX}{dz deep:Nat}{l:List Tok}(h:cy (binOp (hd l))=0∨cy (binOp (hd l))<dz):Cr e dz deep l e l:=by
 refine⟨1,fun f aZ=>?_⟩;obtain⟨f,rfl⟩:∃ g,f=g+1:=⟨f-1,by omega⟩;rw[qc,if_pos h]
theorem aeO{e b x:aX}{o:Int}{dz deep:Nat}{t:Tok}{l r dL:List Tok}(ah:binOp t=o)(hp:cy o≠0)(ag:dz≤cy o)(A:wm (cy o+1) deep l b r)(S:Cr (.mk 4 o 0 [] [e,b]) dz deep r x dL):Cr e dz deep (t::l) x dL:=by
 obtain⟨a,A⟩:=A;obtain⟨c,S⟩:=S;refine⟨max a c+1,fun f aZ=>?_⟩;obtain⟨f,rfl⟩:∃ g,f=g+1:=⟨f-1,by omega⟩;rw[qc,show hd (t::l)=t from rfl,ah,if_neg (by omega),List.tail_cons,A f (by omega)];exact S f (by omega)
theorem aeS{deep:Nat}{t:Tok}{l r:List Tok}{a:aX}{o:Int}(k6:deep≤1000)(ah:unOp t=o)(hp:o≠0)(A:tB (deep+1) l a r):tB deep (t::l) (.mk 3 o 0 [] [a]) r:=by
 obtain⟨c,A⟩:=A;refine⟨c+1,fun f aZ=>?_⟩;obtain⟨f,rfl⟩:∃ g,f=g+1:=⟨f-1,by omega⟩;rw[nT,if_neg (by omega),show hd (t::l)=t from rfl,ah,if_pos hp,List.tail_cons,A f (by omega)];rfl
theorem aeR{deep:Nat}{m:Int}{l r:List Tok}{e:aX}(k6:deep≤1000)(A:wm 1 (deep+1) l e (bD [41] m::r)):tB deep (bD [40] m::l) e r:=by
 obtain⟨c,A⟩:=A;refine⟨c+1,fun f aZ=>?_⟩;obtain⟨f,rfl⟩:∃ g,f=g+1:=⟨f-1,by omega⟩;have u:unOp (bD [40] m)=0:=rfl;have i:dk [40] (bD [40] m)=true:=rfl;rw[nT,if_neg (by omega),show hd (bD [40] m::l)=bD [40] m from rfl,u,if_neg (by simp),if_pos i,List.tail_cons,A f (by omega)];rfl
theorem aec(s:aD)(m:Int):unOp (fY s m)=0∧dk [40] (fY s m)=false:=by
 have:∀ x,dk x (fY s m)=false:=fun x=>by simp[dk,fY]
 exact⟨by unfold unOp;simp only[this];rfl,this _⟩
theorem aqZ(n:Nat)(m:Int):unOp (kV n m)=0∧dk [40] (kV n m)=false:=by
 have:∀ x,dk x (kV n m)=false:=fun x=>by simp[dk,kV]
 exact⟨by unfold unOp;simp only[this];rfl,this _⟩
theorem aeQ{deep n:Nat}{m:Int}{l:List Tok}(k6:deep≤1000):tB deep (kV n m::l) (.mk 1 0 n [] []) l:=by
 refine⟨1,fun f aZ=>?_⟩;obtain⟨f,rfl⟩:∃ g,f=g+1:=⟨f-1,by omega⟩;obtain⟨u,i⟩:=aqZ n m;rw[nT,if_neg (by omega),show hd (kV n m::l)=kV n m from rfl,u,if_neg (by simp),i,if_neg (by simp),if_pos (show(kV n m).kind=3 from rfl)];rfl
theorem aeT{deep:Nat}{s:aD}{m:Int}{l:List Tok}(k6:deep≤1000)(T:dk [91] (hd l)=false):tB deep (fY s m::l) (.mk 2 0 0 s []) l:=by
 refine⟨1,fun f aZ=>?_⟩;obtain⟨f,rfl⟩:∃ g,f=g+1:=⟨f-1,by omega⟩;obtain⟨u,i⟩:=aec s m;have k:(fY s m).kind=1:=rfl;rw[nT,if_neg (by omega),show hd (fY s m::l)=fY s m from rfl,u,if_neg (by simp),i,if_neg (by simp),k,if_neg (by decide),if_neg (by simp),List.tail_cons,T];rfl
theorem aeP{deep:Nat}{s:aD}{m:Int}{l r:List Tok}{e:aX}(k6:deep≤1000)(A:wm 1 (deep+1) l e (bD [93] m::r)):tB deep (fY s m::bD [91] m::l) (.mk 5 0 0 s [e]) r:=by
 obtain⟨c,A⟩:=A;refine⟨c+1,fun f aZ=>?_⟩;obtain⟨f,rfl⟩:∃ g,f=g+1:=⟨f-1,by omega⟩;obtain⟨u,i⟩:=aec s m;have k:(fY s m).kind=1:=rfl;have T:dk [91] (bD [91] m)=true:=rfl;rw[nT,if_neg (by omega),show hd (fY s m::bD [91] m::l)=fY s m from rfl,u,if_neg (by simp),i,if_neg (by simp),k,if_neg (by decide),if_neg (by simp),List.tail_cons,show hd (bD [91] m::l)=bD [91] m from rfl,if_pos T,List.tail_cons,A f (by omega)];rfl
theorem WL:∀(o m:Int),1≤o∧o≤14→binOp (bD (eU o) m)=o:=by
 intro o m h;have:o=1∨o=2∨o=3∨o=4∨o=5∨o=6∨o=7∨o=8∨o=9∨o=10∨o=11∨o=12∨o=13∨o=14:=by omega
 rcases this with rfl|rfl|rfl|rfl|rfl|rfl|rfl|rfl|rfl|rfl|rfl|rfl|rfl|rfl<;>rfl
theorem ar0:∀(o m:Int),15≤o∧o≤17→unOp (bD (eU o) m)=o:=by
 intro o m h;have:o=15∨o=16∨o=17:=by omega
 rcases this with rfl|rfl|rfl<;>rfl
def xt(e:aX):Nat:=if e.kind=4 then cy e.op else 9
def HC(l:List Tok):Nat:=cy (binOp (hd l))
def q1(l:List Tok):Prop:=dk [91] (hd l)=false
def EI(e:aX)(d:Nat):Prop:=∀(deep:Nat) (m:Int) (dz:Nat) (l:List Tok) (x:aX) (r:List Tok),deep+2*d≤1000→dz≤xt e→q1 l→HC l≤xt e→Cr e dz deep l x r→wm dz deep (fo m e++l) x r
def Al(e:aX)(d:Nat):Prop:=e.kind≠4→∀(deep:Nat) (m:Int) (l:List Tok),deep+2*d≤1000→q1 l→tB deep (fo m e++l) e l
theorem aaR(o:Int):cy o≤8:=by
 unfold cy
 (repeat' split)<;>omega
theorem TX{e:aX}{d:Nat}(h:e1 e d):1≤xt e:=by
 cases h with
 |two o a b d h ai T =>
  have:=Hy.2 h;show 1≤(if(4:Int)=4 then cy o else 9);rw[if_pos rfl];exact this
 |_=>simp[xt,aX.kind]
theorem HD(g:aD)(aA:g=[41]∨g=[93]∨g=[59])(m:Int)(l:List Tok):HC (bD g m::l)=0∧q1 (bD g m::l):=by
 rcases aA with rfl|rfl|rfl<;>exact⟨rfl,rfl⟩
theorem alm(o m:Int)(h:1≤o∧o≤14)(l:List Tok):q1 (bD (eU o) m::l):=by
 have:o=1∨o=2∨o=3∨o=4∨o=5∨o=6∨o=7∨o=8∨o=9∨o=10∨o=11∨o=12∨o=13∨o=14:=by omega
 rcases this with rfl|rfl|rfl|rfl|rfl|rfl|rfl|rfl|rfl|rfl|rfl|rfl|rfl|rfl<;>rfl
theorem abW{e:aX}{d:Nat}(aK:e1 e d)(dW:EI e d){deep:Nat}{m:Int}{l:List Tok}(h:deep+2*d+1≤1000):tB deep (bD [40] m::(fo m e++[bD [41] m])++l) e l:=by
 have az:bD [40] m::(fo m e++[bD [41] m])++l=bD [40] m::(fo m e++(bD [41] m::l)):=by simp
 rw[az];obtain⟨bk,bJ⟩:=HD [41] (.inl rfl) m l;exact aeR (by omega) (dW (deep+1) m 1 (bD [41] m::l) e _ (by omega) (TX aK) bJ (by rw[bk];omega) (EF (.inl bk)))
theorem aeE{e:aX}{d:Nat}(aK:e1 e d)(dW:EI e d){k dz deep:Nat}{m:Int}{l r:List Tok}{x:aX}(h:deep+2*d+1≤1000)(ab:k≤9)(ag:dz≤k)(hn:q1 l)(ad:HC l≤k)(bg:Cr e dz deep l x r):wm dz deep (pJ m e k (fo m e)++l) x r:=by
 unfold pJ;split
 ·exact VL (abW aK dW h) bg
 ·rename_i aj;have bX:k≤xt e:=by
   unfold xt;split
   ·rename_i aB;have:¬ cy e.op<k:=fun h=>aj ⟨aB,h⟩;omega
   ·exact ab
  exact dW deep m dz l x r (by omega) (by omega) hn (by omega) bg
theorem aro{e:aX}{d:Nat}(aK:e1 e d)(dW:EI e d)(cM:Al e d){deep:Nat}{m:Int}{l:List Tok}(h:deep+2*d+1≤1000)(hn:q1 l):tB deep (pJ m e 9 (fo m e)++l) e l:=by
 unfold pJ;split
 ·exact abW aK dW h
 ·rename_i aj;have aB:e.kind≠4:=fun aB=>aj ⟨aB,by have:=aaR e.op;omega⟩;exact cM aB deep m l (by omega) hn
theorem ID{e:aX}{d:Nat}(ab:e.kind≠4)(cM:Al e d):EI e d:=fun deep m dz l x r h ag hn ad bg=>VL (cM ab deep m l h hn) bg
theorem acw{e:aX}{d:Nat}(h:e1 e d):EI e d∧Al e d:=by
 induction h with
 |num n d h =>
  have cM:Al (.mk 1 0 n [] []) (d+1):=fun _ deep m l hd _=>aeQ (n:=n) (by omega);exact⟨ID (by simp[aX.kind]) cM,cM⟩
 |var s d h =>
  have cM:Al (.mk 2 0 0 s []) (d+1):=fun _ deep m l hd hn=>aeT (by omega) hn;exact⟨ID (by simp[aX.kind]) cM,cM⟩
 |one o a d h ai ih =>
  have cM:Al (.mk 3 o 0 [] [a]) (d+1):=fun _ deep m l hd hn=>aeS (by omega) (ar0 o m h) (by omega) (aro ai ih.1 ih.2 (by omega) hn);exact⟨ID (by simp[aX.kind]) cM,cM⟩
 |idx s a d h ai ih =>
  have cM:Al (.mk 5 0 0 s [a]) (d+1):=fun _ deep m l hd hn=>by
   show tB deep (fY s m::bD [91] m::(fo m a++[bD [93] m])++l) _ l;have az:fY s m::bD [91] m::(fo m a++[bD [93] m])++l=fY s m::bD [91] m::(fo m a++(bD [93] m::l)):=by simp
   rw[az];obtain⟨bk,bJ⟩:=HD [93] (.inr (.inl rfl)) m l;exact aeP (by omega) (ih.1 (deep+1) m 1 (bD [93] m::l) a _ (by omega) (TX ai) bJ (by rw[bk];omega) (EF (.inl bk)))
  exact⟨ID (by simp[aX.kind]) cM,cM⟩
 |two o a b d h ai T zu DI =>
  refine⟨fun deep m dz l x r hd ag hn ad bg=>?_,fun ab=>absurd rfl ab⟩;have Sm:xt (.mk 4 o 0 [] [a,b])=cy o:=rfl;rw[Sm]at ag ad;have b7:=aaR o;have hp:=Hy.2 h;show wm dz deep ((pJ m a (cy o) (fo m a)++bD (eU o) m::pJ m b (cy o+1) (fo m b))++l) x r;rw[wB,E0];refine aeE ai zu.1 (by omega) (by omega) ag (alm o m h _) ?_ ?_
  ·show cy (binOp (bD (eU o) m))≤cy o;rw[WL o m h];exact br _
  ·refine aeO (WL o m h) (by omega) ag (aeE T DI.1 (by omega) (by omega) (br _) hn (by omega) (EF ?_)) bg;have:HC l<cy o+1:=by omega
   exact .inr this
def im(k:Int)(l:List Tok):PR Tok:=if(hd l).kind=k then .ok (hd l) (if k=5 then l else l.tail) else .bad tM (hd l).line
def tq(f deep:Nat)(k:Int)(m:aD)(n:Int)(xs:List aX)(l:List Tok):PR aP :=
 (mP [61] l).bind fun _ r =>
  if k=1∧(hd r).kind=1∧(hd r.tail).text=[46] then(im 1 r).bind fun g r=>(mP [46] r).bind fun _ r=>(im 3 r).bind fun i r=>.ok (.mk 2 m g.text i.n [] [] []) r
  else(lB f 1 deep r).bind fun e r=>.ok (.mk k m [] n (xs++[e]) [] []) r
def uH(f deep:Nat)(m:aD)(l:List Tok):PR aP :=
 if dk [46] (hd l) then(im 3 l.tail).bind fun i r=>tq f deep 3 m i.n [] r
 else if dk [91] (hd l) then(lB f 1 (deep+1) l.tail).bind fun e r=>(mP [93] r).bind fun _ r=>tq f deep 4 m 0 [e] r
 else tq f deep 1 m 0 [] l
mutual
def pE:Nat→Nat→List Tok→PR aP
 |0,_,_=>.out
 |f+1,deep,l =>
  if dk [105,102] (hd l) then(mP [40] l.tail).bind fun _ r=>(lB f 1 (deep+1) r).bind fun e r=>(mP [41] r).bind fun _ r=>(jL f (deep+1) r).bind fun t r =>
   if dk [101,108,115,101] (hd r) then(jL f (deep+1) r.tail).bind fun x r=>.ok (.mk 6 [] [] 0 [e] t x) r else .ok (.mk 6 [] [] 0 [e] t []) r
  else if dk [108,111,99,107] (hd l) then(im 1 l.tail).bind fun n r=>(jL f (deep+1) r).bind fun t r=>.ok (.mk 5 n.text [] 0 [] t []) r
  else if dk [114,101,112,101,97,116] (hd l) then(im 3 l.tail).bind fun n r=>(jL f (deep+1) r).bind fun t r=>.ok (.mk 7 [] [] n.n [] t []) r
  else if dk [104,97,108,116] (hd l) then(mP [59] l.tail).bind fun _ r=>.ok (.mk 8 [] [] 0 [] [] []) r
  else(im 1 l).bind fun n r=>(uH f deep n.text r).bind fun s r=>(mP [59] r).bind fun _ r=>.ok s r
def jL:Nat→Nat→List Tok→PR (List aP)
 |0,_,_=>.out
 |f+1,deep,l=>(mP [123] l).bind fun _ r=>if 1000<deep then .bad Fc 1 else pF f deep r
def pF:Nat→Nat→List Tok→PR (List aP)
 |0,_,_=>.out
 |f+1,deep,l=>if dk [125] (hd l) then .ok [] l.tail else(pE f deep l).bind fun s r=>(pF f deep r).bind fun et r=>.ok (s::et) r
end
def Cs(deep:Nat)(l:List Tok)(s:aP)(r:List Tok):Prop:=∃ f0,∀ f,f0≤f→pE f deep l=.ok s r
def VK(deep:Nat)(l:List Tok)(s:List aP)(r:List Tok):Prop:=∃ f0,∀ f,f0≤f→jL f deep l=.ok s r
def Ct(deep:Nat)(l:List Tok)(s:List aP)(r:List Tok):Prop:=∃ f0,∀ f,f0≤f→pF f deep l=.ok s r
theorem aeV{deep:Nat}{m:Int}{l:List Tok}:Ct deep (bD [125] m::l) [] l:=by
 refine⟨1,fun f aZ=>?_⟩;obtain⟨f,rfl⟩:∃ g,f=g+1:=⟨f-1,by omega⟩;rfl
theorem aeU{deep:Nat}{l r dL:List Tok}{s:aP}{et:List aP}(T:dk [125] (hd l)=false)(A:Cs deep l s r)(S:Ct deep r et dL):Ct deep l (s::et) dL:=by
 obtain⟨a,A⟩:=A;obtain⟨b,S⟩:=S;refine⟨max a b+1,fun f aZ=>?_⟩;obtain⟨f,rfl⟩:∃ g,f=g+1:=⟨f-1,by omega⟩;rw[pF,T,if_neg (by simp),A f (by omega)];show(pF f deep r).bind _=_;rw[S f (by omega)];rfl
theorem aeN{deep:Nat}{m:Int}{l r:List Tok}{et:List aP}(k6:deep≤1000)(h:Ct deep l et r):VK deep (bD [123] m::l) et r:=by
 obtain⟨a,h⟩:=h;refine⟨a+1,fun f aZ=>?_⟩;obtain⟨f,rfl⟩:∃ g,f=g+1:=⟨f-1,by omega⟩;rw[jL];show(if 1000<deep then PR.bad Fc 1 else pF f deep l)=_;rw[if_neg (by omega)];exact h f (by omega)
theorem xn(x s:aD)(m:Int):dk x (fY s m)=false:=by simp[dk,fY]
theorem Iz{deep:Nat}{s:aD}{m m':Int}{l r:List Tok}{x:aP}(h:∃ f0,∀ f,f0≤f→uH f deep s l=.ok x (bD [59] m'::r)):Cs deep (fY s m::l) x r:=by
 obtain⟨a,h⟩:=h;refine⟨a+1,fun f aZ=>?_⟩;obtain⟨f,rfl⟩:∃ g,f=g+1:=⟨f-1,by omega⟩;rw[pE];simp only[show hd (fY s m::l)=fY s m from rfl,xn,xZ,if_false];show(uH f deep s l).bind _=_;rw[h f (by omega)];rfl
def abq(l:List Tok):Prop:=¬((hd l).kind=1∧(hd l.tail).text=[46])
theorem alp{e:aX}{d:Nat}(h:e1 e d):∀(m:Int) (l:List Tok),(hd l).text≠[46]→abq (fo m e++l):=by
 have adc:∀ o:Int,1≤o∧o≤17→eU o≠[46]:=fun o h=>by
  have:o=1∨o=2∨o=3∨o=4∨o=5∨o=6∨o=7∨o=8∨o=9∨o=10∨o=11∨o=12∨o=13∨o=14∨o=15∨o=16∨o=17:=by omega
  rcases this with rfl|rfl|rfl|rfl|rfl|rfl|rfl|rfl|rfl|rfl|rfl|rfl|rfl|rfl|rfl|rfl|rfl<;>decide
 induction h with
 |num n d h=>intro m l ag aj;exact absurd aj.1 (show(3:Int)≠1 by decide)
 |var s d h=>intro m l ag aj;exact ag aj.2
 |one o a d h ai ih=>intro m l ag aj;exact absurd aj.1 (show(4:Int)≠1 by decide)
 |idx s a d h ai ih=>intro m l ag aj;exact absurd aj.2 (show([91]:aD)≠[46] by decide)
 |two o a b d h ai T zu DI =>
  intro m l ag;show abq ((pJ m a (cy o) (fo m a)++bD (eU o) m::pJ m b (cy o+1) (fo m b))++l);rw[wB,E0];unfold pJ;split
  ·intro aj;exact absurd aj.1 (show(4:Int)≠1 by decide)
  ·exact zu m _ (adc o (by omega))
theorem Na{e:aX}{d:Nat}(h:e1 e d){deep:Nat}{m:Int}{l:List Tok}(k6:deep+2*d≤1000)(A:HC l=0)(S:q1 l):wm 1 deep (fo m e++l) e l :=
 (acw h).1 deep m 1 l e l k6 (TX h) S (by rw[A];omega) (EF (.inl A))
theorem UK{e:aX}(h:e1 e 30){deep:Nat}{m:Int}{l:List Tok}{k n:Int}{s:aD}{xs:List aX}(k6:deep+60≤1000):∃ f0,∀ f,f0≤f→tq f deep k s n xs (bD [61] m::(fo m e++bD [59] m::l))=.ok (.mk k s [] n (xs++[e]) [] []) (bD [59] m::l):=by
 obtain⟨bk,bJ⟩:=HD [59] (.inr (.inr rfl)) m l;obtain⟨a,ai⟩:=Na h (deep:=deep) (m:=m) (l:=bD [59] m::l) (by omega) bk bJ;have hn:=alp h m (bD [59] m::l) (show([59]:aD)≠[46] by decide);refine⟨a,fun f aZ=>?_⟩;show(if k=1∧(hd (fo m e++bD [59] m::l)).kind=1∧(hd (fo m e++bD [59] m::l).tail).text=[46] then _ else(lB f 1 deep (fo m e++bD [59] m::l)).bind _)=_;rw[if_neg (fun aj=>hn aj.2),ai f aZ];rfl
def ne(l:List Tok):Prop:=dk [101,108,115,101] (hd l)=false
def EL(s:aP)(d:Nat):Prop:=∀(deep:Nat) (m:Int) (l:List Tok),deep+2*d≤900→ne l→Cs deep (sO m s++l) s l
theorem Za{s:aP}{d:Nat}(h:jx s d)(m:Int)(l:List Tok):dk [125] (hd (sO m s++l))=false∧ne (sO m s++l):=by
 cases h with
 |set s a d h ai=>exact⟨xn _ s m,xn _ s m⟩
 |get s f n d h aZ hn=>exact⟨xn _ s m,xn _ s m⟩
 |put s n a d h hn ai=>exact⟨xn _ s m,xn _ s m⟩
 |store s a b d h ai T=>exact⟨xn _ s m,xn _ s m⟩
 |lock s aU d h aC=>exact⟨rfl,rfl⟩
 |cond a aU bz d ai aC aK=>exact⟨rfl,rfl⟩
 |rW n aU d hn aC=>exact⟨rfl,rfl⟩
 |halt d=>exact⟨rfl,rfl⟩
theorem acu{d:Nat}:∀(et:List aP),(∀ s∈et,jx s d∧EL s d)→∀(deep:Nat) (m m':Int) (l:List Tok),deep+2*d≤900→Ct deep (ki m et++bD [125] m'::l) et l
 |[],_,deep,m,m',l,_=>aeV
 |s::r,h,deep,m,m',l,k6=>by
  have ak:=h s (by simp);show Ct deep ((sO m s++ki (m+DS s) r)++bD [125] m'::l) _ _;rw[wB];refine aeU (Za ak.1 _ _).1 (ak.2 deep m _ k6 ?_) (acu r (fun x af=>h x (by simp[af])) deep _ m' l k6);cases r with
  |nil=>rfl
  |cons x r =>
   show ne ((sO _ x++ki _ r)++_);rw[wB];exact(Za (h x (by simp)).1 _ _).2
theorem H9{d:Nat}{et:List aP}(h:∀ s∈et,jx s d∧EL s d){deep:Nat}{m m1 m2:Int}{l:List Tok}(k6:deep+2*d≤900):VK deep (bD [123] m::(ki m1 et++bD [125] m2::l)) et l :=
 aeN (by omega) (acu et h deep m1 m2 l k6)
theorem acv:∀(d:Nat) (s:aP),jx s d→EL s d
 |0,s,h=>by cases h
 |d+1,s,h=>by
  have ih:∀ et:List aP,(∀ s∈et,jx s d)→∀ s∈et,jx s d∧EL s d:=fun et h s ak=>⟨h s ak,acv d s (h s ak)⟩;intro deep m l k6 cH;cases h with
  |set s a _ h ai =>
   show Cs deep (fY s m::bD [61] m::(fo m a++[bD [59] m])++l) _ l;have az:fY s m::bD [61] m::(fo m a++[bD [59] m])++l=fY s m::bD [61] m::(fo m a++bD [59] m::l):=by simp
   rw[az];obtain⟨c,aj⟩:=UK ai (deep:=deep) (m:=m) (l:=l) (k:=1) (n:=0) (s:=s) (xs:=[]) (by omega);exact Iz ⟨c,fun f aZ=>aj f aZ⟩
  |get s f n _ h aZ hn=>exact Iz (m':=m) ⟨0,fun f aZ=>rfl⟩
  |put s n a _ h hn ai =>
   show Cs deep (fY s m::bD [46] m::kV n m::bD [61] m::(fo m a++[bD [59] m])++l) _ l;have az:fY s m::bD [46] m::kV n m::bD [61] m::(fo m a++[bD [59] m])++l=fY s m::bD [46] m::kV n m::bD [61] m::(fo m a++bD [59] m::l):=by simp
   rw[az];obtain⟨c,aj⟩:=UK ai (deep:=deep) (m:=m) (l:=l) (k:=3) (n:=n) (s:=s) (xs:=[]) (by omega);exact Iz ⟨c,fun f aZ=>aj f aZ⟩
  |store s a b _ h ai T =>
   show Cs deep (fY s m::bD [91] m::(fo m a++bD [93] m::bD [61] m::(fo m b++[bD [59] m]))++l) _ l;have az:fY s m::bD [91] m::(fo m a++bD [93] m::bD [61] m::(fo m b++[bD [59] m]))++l=fY s m::bD [91] m::(fo m a++bD [93] m::bD [61] m::(fo m b++bD [59] m::l)):=by simp
   rw[az];obtain⟨bk,bJ⟩:=HD [93] (.inr (.inl rfl)) m (bD [61] m::(fo m b++bD [59] m::l));obtain⟨c,aj⟩:=Na ai (deep:=deep+1) (m:=m) (by omega) bk bJ;obtain⟨fl,j8⟩:=UK T (deep:=deep) (m:=m) (l:=l) (k:=4) (n:=0) (s:=s) (xs:=[a]) (by omega);refine Iz (m':=m) ⟨max c fl,fun f aZ=>?_⟩;show(lB f 1 (deep+1) (fo m a++bD [93] m::bD [61] m::(fo m b++bD [59] m::l))).bind _=_;rw[aj f (by omega)];exact j8 f (by omega)
  |lock s aU _ h aC =>
   have az:sO m (.mk 5 s [] 0 [] aU [])++l=l3 [108,111,99,107] m::fY s m::bD [123] m::(ki (m+1) aU++bD [125] (m+1+ey aU)::l):=by simp[sO,L3,yl]
   rw[az];obtain⟨c,aj⟩:=H9 (ih aU aC) (deep:=deep+1) (m:=m) (m1:=m+1) (m2:=m+1+ey aU) (l:=l) (by omega);refine⟨c+1,fun f aZ=>?_⟩;obtain⟨f,rfl⟩:∃ g,f=g+1:=⟨f-1,by omega⟩;rw[pE];show(jL f (deep+1) (bD [123] m::(ki (m+1) aU++bD [125] (m+1+ey aU)::l))).bind _=_;rw[aj f (by omega)];rfl
  |rW n aU _ hn aC =>
   have az:sO m (.mk 7 [] [] n [] aU [])++l=l3 [114,101,112,101,97,116] m::kV n m::bD [123] m::(ki (m+1) aU++bD [125] (m+1+ey aU)::l):=by simp[sO,L3,yl]
   rw[az];obtain⟨c,aj⟩:=H9 (ih aU aC) (deep:=deep+1) (m:=m) (m1:=m+1) (m2:=m+1+ey aU) (l:=l) (by omega);refine⟨c+1,fun f aZ=>?_⟩;obtain⟨f,rfl⟩:∃ g,f=g+1:=⟨f-1,by omega⟩;rw[pE];show(jL f (deep+1) (bD [123] m::(ki (m+1) aU++bD [125] (m+1+ey aU)::l))).bind _=_;rw[aj f (by omega)];rfl
  |halt =>
   refine⟨1,fun f aZ=>?_⟩;obtain⟨f,rfl⟩:∃ g,f=g+1:=⟨f-1,by omega⟩;rfl
  |cond a aU bz _ ai aC aK =>
   obtain⟨l2,bC⟩:∃ l2,(if bz.isEmpty then l else l3 [101,108,115,101] (m+1+ey aU)::bD [123] (m+1+ey aU)::(ki (m+1+ey aU+1) bz++bD [125] (m+1+ey aU+1+ey bz)::l))=l2:=⟨_,rfl⟩;have az:sO m (.mk 6 [] [] 0 [a] aU bz)++l=l3 [105,102] m::bD [40] m::(fo m a++bD [41] m::bD [123] m::(ki (m+1) aU++bD [125] (m+1+ey aU)::l2)):=by
    rw[← bC];cases bz<;>simp[sO,L3,yl]
   rw[az];obtain⟨bk,bJ⟩:=HD [41] (.inl rfl) m (bD [123] m::(ki (m+1) aU++bD [125] (m+1+ey aU)::l2));obtain⟨l9,pZ⟩:=Na ai (deep:=deep+1) (m:=m) (by omega) bk bJ;obtain⟨c,aj⟩:=H9 (ih aU aC) (deep:=deep+1) (m:=m) (m1:=m+1) (m2:=m+1+ey aU) (l:=l2) (by omega);obtain⟨fl,j8⟩:=H9 (ih bz aK) (deep:=deep+1) (m:=m+1+ey aU) (m1:=m+1+ey aU+1) (m2:=m+1+ey aU+1+ey bz) (l:=l) (by omega);refine⟨max l9 (max c fl)+1,fun f aZ=>?_⟩;obtain⟨f,rfl⟩:∃ g,f=g+1:=⟨f-1,by omega⟩;rw[pE];show(lB f 1 (deep+1) (fo m a++bD [41] m::bD [123] m::(ki (m+1) aU++bD [125] (m+1+ey aU)::l2))).bind _=_;rw[pZ f (by omega)];show(jL f (deep+1) (bD [123] m::(ki (m+1) aU++bD [125] (m+1+ey aU)::l2))).bind _=_;rw[aj f (by omega)];show(if dk [101,108,115,101] (hd l2)=true then _ else _)=_;cases bz with
   |nil =>
    have aL:l2=l:=by rw[← bC];rfl
    rw[aL,if_neg (by rw[show dk [101,108,115,101] (hd l)=false from cH];simp)]
   |cons y c4 =>
    have aL:l2=l3 [101,108,115,101] (m+1+ey aU)::bD [123] (m+1+ey aU)::(ki (m+1+ey aU+1) (y::c4)++bD [125] (m+1+ey aU+1+ey (y::c4))::l):=by rw[← bC];rfl
    rw[aL];show(jL f (deep+1) (bD [123] (m+1+ey aU)::(ki (m+1+ey aU+1) (y::c4)++bD [125] (m+1+ey aU+1+ey (y::c4))::l))).bind _=_;rw[j8 f (by omega)];rfl
def BU(l:List Tok):PR Nm:=(im 1 l).bind fun n r =>
 if dk [117,97,114,116] (hd r) then .ok ⟨n.text,1⟩ r.tail else if dk [116,105,109,101,114] (hd r) then .ok ⟨n.text,2⟩ r.tail else if dk [103,112,105,111] (hd r) then .ok ⟨n.text,3⟩ r.tail else .bad tM (hd r).line
def oT:Nat→List Tok→PR (List Nm)
 |0,_=>.out
 |f+1,l=>if dk [100,101,118,105,99,101] (hd l) then(BU l.tail).bind fun d r=>(oT f r).bind fun bG r=>.ok (d::bG) r else .ok [] l
def mS:Nat→List Tok→PR (List Nm)
 |0,_=>.out
 |f+1,l=>if dk [114,101,115,111,117,114,99,101] (hd l) then(im 1 l.tail).bind fun n r=>(im 3 r).bind fun k r=>(mS f r).bind fun bG r=>.ok (⟨n.text,k.n⟩::bG) r else .ok [] l
def vR(f:Nat)(h:Bool)(l:List Tok):PR dO:=(im 1 l).bind fun n r=>(im 3 r).bind fun a r=>(im 3 r).bind fun p r =>
 if h then(im 3 r).bind fun i r=>(jL f 1 r).bind fun b r=>.ok ⟨n.text,true,a.n,p.n,i.n,b⟩ r else(jL f 1 r).bind fun b r=>.ok ⟨n.text,false,a.n,p.n,0,b⟩ r
def nu:Nat→List Tok→PR (List dO)
 |0,_=>.out
 |f+1,l=>if dk [104,97,110,100,108,101,114] (hd l) then(vR f true l.tail).bind fun t r=>(nu f r).bind fun ts r=>.ok (t::ts) r
  else if dk [116,97,115,107] (hd l) then(vR f false l.tail).bind fun t r=>(nu f r).bind fun ts r=>.ok (t::ts) r else .ok [] l
def BX(f:Nat)(l:List Tok):PR gS:=(mP [104,97,114,116,115] l).bind fun _ r=>(im 3 r).bind fun h r=>(oT f r).bind fun bG r=>(mS f r).bind fun b3 r=>(nu f r).bind fun ts r=>.ok ⟨h.n,bG,b3,ts⟩ r
def xv(w:aD)(l:List Tok):Prop:=dk w (hd l)=false
theorem acq:∀(bG:List Nm),(∀ d∈bG,jO d=true)→∀(m:Int) (l:List Tok),xv [100,101,118,105,99,101] l→∃ f0,∀ f,f0≤f→oT f (xO m bG++l)=.ok bG l
 |[],_,m,l,ag=>⟨1,fun f aZ=>by
   obtain⟨f,rfl⟩:∃ g,f=g+1:=⟨f-1,by omega⟩;rw[oT,show xO m []++l=l from rfl,if_neg (by rw[show dk [100,101,118,105,99,101] (hd l)=false from ag];simp)]⟩
 |d::r,h,m,l,ag=>by
  obtain⟨c,aj⟩:=acq r (fun x af=>h x (by simp[af])) (m+1) l ag;have k6:=h d (by simp);simp only[jO,Bool.and_eq_true,decide_eq_true_eq]at k6;refine⟨c+1,fun f aZ=>?_⟩;obtain⟨f,rfl⟩:∃ g,f=g+1:=⟨f-1,by omega⟩;obtain⟨nm,n⟩:=d;have hn:n=1∨n=2∨n=3:=by have:=k6.2;dsimp only at this;omega
  rw[oT];rcases hn with rfl|rfl|rfl <;>
   (show(oT f (xO (m+1) r++l)).bind _=_;rw[aj f (by omega)];rfl)
theorem acs:∀(bG:List Nm),(∀ d∈bG,jY d=true)→∀(m:Int) (l:List Tok),xv [114,101,115,111,117,114,99,101] l→∃ f0,∀ f,f0≤f→mS f (v7 m bG++l)=.ok bG l
 |[],_,m,l,ag=>⟨1,fun f aZ=>by
   obtain⟨f,rfl⟩:∃ g,f=g+1:=⟨f-1,by omega⟩;rw[mS,show v7 m []++l=l from rfl,if_neg (by rw[show dk [114,101,115,111,117,114,99,101] (hd l)=false from ag];simp)]⟩
 |d::r,h,m,l,ag=>by
  obtain⟨c,aj⟩:=acs r (fun x af=>h x (by simp[af])) (m+1) l ag;have k6:=h d (by simp);simp only[jY,Bool.and_eq_true,decide_eq_true_eq]at k6;refine⟨c+1,fun f aZ=>?_⟩;obtain⟨f,rfl⟩:∃ g,f=g+1:=⟨f-1,by omega⟩;obtain⟨nm,n⟩:=d;obtain⟨k,rfl⟩:∃ k:Nat,n=(k:Int):=⟨n.toNat,by have:=k6.2;dsimp only at this;omega⟩;rw[mS];show(mS f (v7 (m+1) r++l)).bind _=_;rw[aj f (by omega)];rfl
theorem acx:∀(ts:List dO),(∀ t∈ts,js t=true)→∀(m:Int) (l:List Tok),xv [104,97,110,100,108,101,114] l→xv [116,97,115,107] l→∃ f0,∀ f,f0≤f→nu f (nX m ts++l)=.ok ts l
 |[],_,m,l,A,S=>⟨1,fun f aZ=>by
   obtain⟨f,rfl⟩:∃ g,f=g+1:=⟨f-1,by omega⟩;rw[nu,show nX m []++l=l from rfl,if_neg (by rw[show dk [104,97,110,100,108,101,114] (hd l)=false from A];simp),if_neg (by rw[show dk [116,97,115,107] (hd l)=false from S];simp)]⟩
 |t::r,h,m,l,A,S=>by
  obtain⟨c,aj⟩:=acx r (fun x af=>h x (by simp[af])) (m+(2+ey t.body:Nat)) l A S;have aC:=h t (by simp);simp only[js,Bool.and_eq_true,decide_eq_true_eq,we,nU]at aC;obtain⟨⟨⟨⟨_,t2⟩,t3⟩,t4⟩,t5⟩:=aC;have ak:∀ s∈t.body,jx s 30∧EL s 30:=fun s ak=>by
   have:=(Cl 30 s).1 (t5 s ak);exact⟨this,acv 30 s this⟩
  obtain⟨fl,j8⟩:=H9 ak (deep:=1) (m:=m) (m1:=m+1) (m2:=m+1+ey t.body) (l:=nX (m+(2+ey t.body:Nat)) r++l) (by omega);refine⟨max c fl+1,fun f aZ=>?_⟩;obtain⟨f,rfl⟩:∃ g,f=g+1:=⟨f-1,by omega⟩;obtain⟨nm,T,ai,ac8,kf,iy⟩:=t;dsimp only at *;obtain⟨a,rfl⟩:∃ k:Nat,ai=(k:Int):=⟨ai.toNat,by omega⟩;obtain⟨b,rfl⟩:∃ k:Nat,ac8=(k:Int):=⟨ac8.toNat,by omega⟩;have az:nX m (⟨nm,T,a,b,kf,iy⟩::r)++l=Gc m ⟨nm,T,a,b,kf,iy⟩++(ki (m+1) iy++bD [125] (m+1+ey iy)::(nX (m+(2+ey iy:Nat)) r++l)):=by
   simp[nX,If]
  rw[az,nu];cases T with
  |true =>
   obtain⟨i,rfl⟩:∃ k:Nat,kf=(k:Int):=⟨kf.toNat,by simp at t4;omega⟩;show((jL f 1 (bD [123] m::(ki (m+1) iy++bD [125] (m+1+ey iy)::(nX (m+(2+ey iy:Nat)) r++l)))).bind _).bind _=_;rw[j8 f (by omega)];show(nu f _).bind _=_;rw[aj f (by omega)];rfl
  |false =>
   obtain rfl:kf=0:=by simp at t4;omega
   show((jL f 1 (bD [123] m::(ki (m+1) iy++bD [125] (m+1+ey iy)::(nX (m+(2+ey iy:Nat)) r++l)))).bind _).bind _=_;rw[j8 f (by omega)];show(nu f _).bind _=_;rw[aj f (by omega)];rfl
theorem aiY(ts:List dO)(m:Int)(k:Int):xv [100,101,118,105,99,101] (nX m ts++[me k])∧xv [114,101,115,111,117,114,99,101] (nX m ts++[me k]):=by
 cases ts with
 |nil=>exact⟨rfl,rfl⟩
 |cons t r=>cases h:t.ga<;>simp[nX,If,Gc,h,xv,hd,dk,l3]
theorem aiX(b3:List Nm)(m:Int)(l:List Tok)(h:xv [100,101,118,105,99,101] l):xv [100,101,118,105,99,101] (v7 m b3++l):=by
 cases b3 with
 |nil=>exact h
 |cons t r=>rfl
theorem ap5{p:gS}(A:0≤p.bS∧p.bS≤4)(S:∀ d∈p.c2,jO d=true)(ae:∀ d∈p.cv,jY d=true)(aB:∀ d∈p.db,js d=true)(k:Int):∃ f0,∀ f,f0≤f→BX f (Et p++[me k])=.ok p [me k]:=by
 obtain⟨cd,cS⟩:=aiY p.db (2+p.c2.length+p.cv.length) k;obtain⟨a,ai⟩:=acq p.c2 S 2 _ (aiX p.cv (2+p.c2.length) _ cd);obtain⟨b,T⟩:=acs p.cv ae (2+p.c2.length) _ cS;obtain⟨c,aj⟩:=acx p.db aB (2+p.c2.length+p.cv.length) [me k] rfl rfl;refine⟨max a (max b c),fun f aZ=>?_⟩;obtain⟨cp,bG,b3,ts⟩:=p;dsimp only at *;obtain⟨n,rfl⟩:∃ k:Nat,cp=(k:Int):=⟨cp.toNat,by omega⟩;have az:Et ⟨n,bG,b3,ts⟩++[me k]=l3 [104,97,114,116,115] 1::kV n 1::(xO 2 bG++(v7 (2+bG.length) b3++(nX (2+bG.length+b3.length) ts++[me k]))):=by simp[Et]
 rw[az];show(oT f (xO 2 bG++(v7 (2+bG.length) b3++(nX (2+bG.length+b3.length) ts++[me k])))).bind _=_;rw[ai f (by omega)];show(mS f _).bind _=_;rw[T f (by omega)];show(nu f _).bind _=_;rw[aj f (by omega)];rfl
theorem PR.hc{c1 l5:Type}{x:PR c1}{g:c1→List Tok→PR l5}{b:l5}{dL:List Tok}(h:x.bind g=.ok b dL):∃ a r,x=.ok a r∧g a r=.ok b dL:=by
 cases x with
 |ok a r=>exact⟨a,r,rfl,h⟩
 |bad e l=>cases h
 |out=>cases h
theorem PR.fy{c1 l5:Type}{x:PR c1}{g:c1→List Tok→PR l5}(af:x≠.out)(aA:∀ a r,x=.ok a r→g a r≠.out):x.bind g≠.out:=by
 cases x with
 |ok a r=>exact aA a r rfl
 |bad e l=>intro h;cases h
 |out=>exact absurd rfl af
theorem hM{l:List Tok}(h:(hd l).kind≠5):l.tail.length<l.length:=by
 cases l with
 |nil=>exact absurd rfl h
 |cons t r=>simp
theorem iZ{s:aD}{t:Tok}(h:dk s t=true):t.kind≠5:=by
 simp only[dk,Bool.and_eq_true,Ln,beq_iff_eq]at h;omega
theorem oS{s:aD}{l r:List Tok}{u:Unit}(h:mP s l=.ok u r):r.length<l.length∧r=l.tail:=by
 unfold mP at h;split at h
 ·rename_i aj;cases h;exact⟨hM (iZ aj),rfl⟩
 ·cases h
theorem uA(s:aD)(l:List Tok):mP s l≠.out:=by
 unfold mP;split<;>(intro h;cases h)
theorem zP{n k:Nat}{t:Tok}(h:(match(List.range' n k).find? (fun o=>dk (eU (o:Nat)) t) with|some o=>(o:Int)|none=>0)≠0):t.kind≠5:=by
 cases aZ:(List.range' n k).find? (fun o=>dk (eU (o:Nat)) t) with
 |none=>rw[aZ]at h;exact absurd rfl h
 |some o =>
  have:=List.find?_some aZ;exact iZ (s:=eU (o:Nat)) this
theorem BY:∀ f:Nat,(∀ deep l e r,nT f deep l=.ok e r→r.length<l.length)∧(∀ dz deep l e r,lB f dz deep l=.ok e r→r.length<l.length)∧(∀ x dz deep l e r,qc f x dz deep l=.ok e r→r.length≤l.length)
 |0=>⟨fun _ _ _ _ h=>(by rw[nT]at h;cases h),fun _ _ _ _ _ h=>(by rw[lB]at h;cases h),fun _ _ _ _ _ _ h=>(by rw[qc]at h;cases h)⟩
 |f+1=>by
  obtain⟨A,S,ae⟩:=BY f;refine⟨fun deep l e r h=>?_,fun dz deep l e r h=>?_,fun x dz deep l e r h=>?_⟩
  ·rw[nT]at h;split at h
   ·cases h
   split at h
   ·rename_i aj;obtain⟨a,cn,g1,g2⟩:=PR.hc h;cases g2;have:=A _ _ _ _ g1;have:=hM (zP (n:=15) (k:=3) aj);omega
   split at h
   ·rename_i aj;obtain⟨a,cn,g1,g2⟩:=PR.hc h;obtain⟨b,bM,g3,g4⟩:=PR.hc g2;cases g4;have:=S _ _ _ _ _ g1;have:=(oS g3).1;have:=hM (iZ aj);omega
   split at h
   ·rename_i aj;cases h;exact hM (by omega)
   split at h
   ·cases h
   rename_i aj;have ab:(hd l).kind≠5:=by omega
   have aC:=hM ab;split at h
   ·rename_i T;obtain⟨a,cn,g1,g2⟩:=PR.hc h;obtain⟨b,bM,g3,g4⟩:=PR.hc g2;cases g4;have:=S _ _ _ _ _ g1;have:=(oS g3).1;have:=hM (iZ T);omega
   ·cases h;exact aC
  ·rw[lB]at h;obtain⟨a,cn,g1,g2⟩:=PR.hc h;have:=A _ _ _ _ g1;have:=ae _ _ _ _ _ _ g2;omega
  ·rw[qc]at h;split at h
   ·cases h;exact br _
   ·rename_i aj;obtain⟨a,cn,g1,g2⟩:=PR.hc h;have h0:binOp (hd l)≠0:=fun e=>aj (.inl (by rw[e];rfl));have:=S _ _ _ _ _ g1;have:=ae _ _ _ _ _ _ g2;have:=hM (zP (n:=1) (k:=14) h0);omega
theorem H3:∀ f:Nat,(∀ deep l,3*l.length+1≤f→nT f deep l≠.out)∧(∀ dz deep l,3*l.length+2≤f→lB f dz deep l≠.out)∧(∀ x dz deep l,3*l.length+1≤f→qc f x dz deep l≠.out)
 |0=>⟨fun _ _ h=>(by omega),fun _ _ _ h=>(by omega),fun _ _ _ _ h=>(by omega)⟩
 |f+1=>by
  obtain⟨A,S,ae⟩:=H3 f;obtain⟨ck,cm,cb⟩:=BY f;refine⟨fun deep l h=>?_,fun dz deep l h=>?_,fun x dz deep l h=>?_⟩
  ·rw[nT];split
   ·intro h;cases h
   split
   ·rename_i aj;have:=hM (zP (n:=15) (k:=3) aj);exact PR.fy (A _ _ (by omega)) fun _ _ _ h=>by cases h
   split
   ·rename_i aj;have:=hM (iZ aj);exact PR.fy (S _ _ _ (by omega)) fun _ _ _=>PR.fy (uA _ _) fun _ _ _ h=>by cases h
   split
   ·intro h;cases h
   split
   ·intro h;cases h
   rename_i aj;have ab:(hd l).kind≠5:=by omega
   have aC:=hM ab;split
   ·rename_i T;have:=hM (iZ T);exact PR.fy (S _ _ _ (by omega)) fun _ _ _=>PR.fy (uA _ _) fun _ _ _ h=>by cases h
   ·intro h;cases h
  ·rw[lB];exact PR.fy (A _ _ (by omega)) fun a r g=>ae _ _ _ _ (by have:=ck _ _ _ _ g;omega)
  ·rw[qc];split
   ·intro h;cases h
   ·rename_i aj;have h0:binOp (hd l)≠0:=fun e=>aj (.inl (by rw[e];rfl));have:=hM (zP (n:=1) (k:=14) h0);exact PR.fy (S _ _ _ (by omega)) fun a r g=>ae _ _ _ _ (by have:=cm _ _ _ _ _ g;omega)
theorem kQ{k:Int}{l r:List Tok}{t:Tok}(aG:k≠5)(h:im k l=.ok t r):r.length<l.length∧t=hd l∧r=l.tail:=by
 unfold im at h;split at h
 ·rename_i ab;cases h;exact⟨hM (by omega),rfl,rfl⟩
 ·cases h
theorem rL(k:Int)(l:List Tok):im k l≠.out:=by
 unfold im;split<;>(intro h;cases h)
theorem UN{f deep:Nat}{k n:Int}{m:aD}{xs:List aX}{l r:List Tok}{s:aP}(h:tq f deep k m n xs l=.ok s r):r.length<l.length:=by
 unfold tq at h;obtain⟨_,cn,g1,h⟩:=PR.hc h;have:=(oS g1).1;split at h
 ·obtain⟨_,bM,g2,h⟩:=PR.hc h;obtain⟨_,cE,g3,h⟩:=PR.hc h;obtain⟨_,eb,g4,h⟩:=PR.hc h;cases h;have:=(kQ (by decide) g2).1;have:=(oS g3).1;have:=(kQ (by decide) g4).1;omega
 ·obtain⟨_,bM,g2,h⟩:=PR.hc h;cases h;have:=(BY f).2.1 _ _ _ _ _ g2;omega
theorem UM{f deep:Nat}{k n:Int}{m:aD}{xs:List aX}{l:List Tok}(aZ:3*l.length≤f+1):tq f deep k m n xs l≠.out:=by
 unfold tq;refine PR.fy (uA _ _) fun _ r g=>?_;have:=(oS g).1;split
 ·exact PR.fy (rL _ _) fun _ _ _=>PR.fy (uA _ _) fun _ _ _=>PR.fy (rL _ _) fun _ _ _ h=>by cases h
 ·exact PR.fy ((H3 f).2.1 _ _ _ (by omega)) fun _ _ _ h=>by cases h
theorem alh{f deep:Nat}{m:aD}{l r:List Tok}{s:aP}(h:uH f deep m l=.ok s r):r.length<l.length:=by
 unfold uH at h;split at h
 ·rename_i aj;obtain⟨_,cn,g1,h⟩:=PR.hc h;have:=(kQ (by decide) g1).1;have:=hM (iZ aj);have:=UN h;omega
 split at h
 ·rename_i aj;obtain⟨_,cn,g1,h⟩:=PR.hc h;obtain⟨_,bM,g2,h⟩:=PR.hc h;have:=(BY f).2.1 _ _ _ _ _ g1;have:=(oS g2).1;have:=hM (iZ aj);have:=UN h;omega
 ·exact UN h
theorem alg{f deep:Nat}{m:aD}{l:List Tok}(aZ:3*l.length≤f+1):uH f deep m l≠.out:=by
 unfold uH;split
 ·rename_i aj;have:=hM (iZ aj);exact PR.fy (rL _ _) fun _ r g=>UM (by have:=(kQ (by decide) g).1;omega)
 split
 ·rename_i aj;have:=hM (iZ aj);exact PR.fy ((H3 f).2.1 _ _ _ (by omega)) fun _ r g=>PR.fy (uA _ _) fun _ bM g2=>UM (by have:=(BY f).2.1 _ _ _ _ _ g;have:=(oS g2).1;omega)
 ·exact UM aZ
theorem Ia:∀ f:Nat,(∀ deep l e r,pE f deep l=.ok e r→r.length<l.length)∧(∀ deep l e r,jL f deep l=.ok e r→r.length<l.length)∧(∀ deep l e r,pF f deep l=.ok e r→r.length<l.length)
 |0=>⟨fun _ _ _ _ h=>(by rw[pE]at h;cases h),fun _ _ _ _ h=>(by rw[jL]at h;cases h),fun _ _ _ _ h=>(by rw[pF]at h;cases h)⟩
 |f+1=>by
  obtain⟨A,S,ae⟩:=Ia f;have af:=(BY f).2.1;refine⟨fun deep l e r h=>?_,fun deep l e r h=>?_,fun deep l e r h=>?_⟩
  ·rw[pE]at h;split at h
   ·rename_i aj;have:=hM (iZ aj);obtain⟨_,cn,g1,h⟩:=PR.hc h;obtain⟨_,bM,g2,h⟩:=PR.hc h;obtain⟨_,cE,g3,h⟩:=PR.hc h;obtain⟨_,eb,g4,h⟩:=PR.hc h;have:=(oS g1).1;have:=af _ _ _ _ _ g2;have:=(oS g3).1;have:=S _ _ _ _ g4;split at h
    ·rename_i aK;have:=hM (iZ aK);obtain⟨_,gn,g5,h⟩:=PR.hc h;cases h;have:=S _ _ _ _ g5;omega
    ·cases h;omega
   split at h
   ·rename_i aj;have:=hM (iZ aj);obtain⟨_,cn,g1,h⟩:=PR.hc h;obtain⟨_,bM,g2,h⟩:=PR.hc h;cases h;have:=(kQ (by decide) g1).1;have:=S _ _ _ _ g2;omega
   split at h
   ·rename_i aj;have:=hM (iZ aj);obtain⟨_,cn,g1,h⟩:=PR.hc h;obtain⟨_,bM,g2,h⟩:=PR.hc h;cases h;have:=(kQ (by decide) g1).1;have:=S _ _ _ _ g2;omega
   split at h
   ·rename_i aj;have:=hM (iZ aj);obtain⟨_,cn,g1,h⟩:=PR.hc h;cases h;have:=(oS g1).1;omega
   ·obtain⟨_,cn,g1,h⟩:=PR.hc h;obtain⟨_,bM,g2,h⟩:=PR.hc h;obtain⟨_,cE,g3,h⟩:=PR.hc h;cases h;have:=(kQ (by decide) g1).1;have:=alh g2;have:=(oS g3).1;omega
  ·rw[jL]at h;obtain⟨_,cn,g1,h⟩:=PR.hc h;have:=(oS g1).1;split at h
   ·cases h
   ·have:=ae _ _ _ _ h;omega
  ·rw[pF]at h;split at h
   ·rename_i aj;cases h;exact hM (iZ aj)
   ·obtain⟨_,cn,g1,h⟩:=PR.hc h;obtain⟨_,bM,g2,h⟩:=PR.hc h;cases h;have:=A _ _ _ _ g1;have:=ae _ _ _ _ g2;omega
theorem UX:∀ f:Nat,(∀ deep l,3*l.length+1≤f→pE f deep l≠.out)∧(∀ deep l,3*l.length+1≤f→jL f deep l≠.out)∧(∀ deep l,3*l.length+2≤f→pF f deep l≠.out)
 |0=>⟨fun _ _ h=>(by omega),fun _ _ h=>(by omega),fun _ _ h=>(by omega)⟩
 |f+1=>by
  obtain⟨A,S,ae⟩:=UX f;obtain⟨ck,cm,cb⟩:=Ia f;have af:=(H3 f).2.1;have TS:=(BY f).2.1;refine⟨fun deep l aZ=>?_,fun deep l aZ=>?_,fun deep l aZ=>?_⟩
  ·rw[pE];split
   ·rename_i aj;have:=hM (iZ aj);refine PR.fy (uA _ _) fun _ cn g1=>?_;have:=(oS g1).1;refine PR.fy (af _ _ _ (by omega)) fun _ bM g2=>?_;have:=TS _ _ _ _ _ g2;refine PR.fy (uA _ _) fun _ cE g3=>?_;have:=(oS g3).1;refine PR.fy (S _ _ (by omega)) fun _ eb g4=>?_;have:=cm _ _ _ _ g4;split
    ·rename_i aK;have:=hM (iZ aK);exact PR.fy (S _ _ (by omega)) fun _ _ _ h=>by cases h
    ·intro h;cases h
   split
   ·rename_i aj;have:=hM (iZ aj);refine PR.fy (rL _ _) fun _ cn g1=>?_;have:=(kQ (by decide) g1).1;exact PR.fy (S _ _ (by omega)) fun _ _ _ h=>by cases h
   split
   ·rename_i aj;have:=hM (iZ aj);refine PR.fy (rL _ _) fun _ cn g1=>?_;have:=(kQ (by decide) g1).1;exact PR.fy (S _ _ (by omega)) fun _ _ _ h=>by cases h
   split
   ·exact PR.fy (uA _ _) fun _ _ _ h=>by cases h
   ·refine PR.fy (rL _ _) fun _ cn g1=>?_;have:=(kQ (by decide) g1).1;exact PR.fy (alg (by omega)) fun _ _ _=>PR.fy (uA _ _) fun _ _ _ h=>by cases h
  ·rw[jL];refine PR.fy (uA _ _) fun _ cn g1=>?_;have:=(oS g1).1;split
   ·intro h;cases h
   ·exact ae _ _ (by omega)
  ·rw[pF];split
   ·intro h;cases h
   ·refine PR.fy (A _ _ (by omega)) fun _ cn g1=>?_;have:=ck _ _ _ _ g1;exact PR.fy (ae _ _ (by omega)) fun _ _ _ h=>by cases h
theorem QX{l r:List Tok}{d:Nm}(h:BU l=.ok d r):r.length<l.length:=by
 unfold BU at h;obtain⟨_,cn,g1,h⟩:=PR.hc h;have:=(kQ (by decide) g1).1;split at h
 ·rename_i aj;cases h;have:=hM (iZ aj);omega
 split at h
 ·rename_i aj;cases h;have:=hM (iZ aj);omega
 split at h
 ·rename_i aj;cases h;have:=hM (iZ aj);omega
 ·cases h
theorem ahb(l:List Tok):BU l≠.out:=by
 unfold BU;refine PR.fy (rL _ _) fun _ cn g1=>?_
 (repeat' split)<;>(intro h;cases h)
theorem X8:∀(f:Nat) (l r:List Tok) (bG:List Nm),oT f l=.ok bG r→r.length≤l.length
 |0,l,r,bG,h=>by cases h
 |f+1,l,r,bG,h=>by
  rw[oT]at h;split at h
  ·rename_i aj;obtain⟨_,cn,g1,h⟩:=PR.hc h;obtain⟨_,bM,g2,h⟩:=PR.hc h;cases h;have:=hM (iZ aj);have:=QX g1;have:=X8 f _ _ _ g2;omega
  ·cases h;exact br _
theorem X7:∀(f:Nat) (l:List Tok),l.length<f→oT f l≠.out
 |0,l,h=>by omega
 |f+1,l,h=>by
  rw[oT];split
  ·rename_i aj;have:=hM (iZ aj);refine PR.fy (ahb _) fun _ cn g1=>?_;have:=QX g1;exact PR.fy (X7 f _ (by omega)) fun _ _ _ h=>by cases h
  ·intro h;cases h
theorem acL:∀(f:Nat) (l r:List Tok) (bG:List Nm),mS f l=.ok bG r→r.length≤l.length
 |0,l,r,bG,h=>by cases h
 |f+1,l,r,bG,h=>by
  rw[mS]at h;split at h
  ·rename_i aj;obtain⟨_,cn,g1,h⟩:=PR.hc h;obtain⟨_,bM,g2,h⟩:=PR.hc h;obtain⟨_,cE,g3,h⟩:=PR.hc h;cases h;have:=hM (iZ aj);have:=(kQ (by decide) g1).1;have:=(kQ (by decide) g2).1;have:=acL f _ _ _ g3;omega
  ·cases h;exact br _
theorem acK:∀(f:Nat) (l:List Tok),l.length<f→mS f l≠.out
 |0,l,h=>by omega
 |f+1,l,h=>by
  rw[mS];split
  ·rename_i aj;have:=hM (iZ aj);refine PR.fy (rL _ _) fun _ cn g1=>?_;have:=(kQ (by decide) g1).1;refine PR.fy (rL _ _) fun _ bM g2=>?_;have:=(kQ (by decide) g2).1;exact PR.fy (acK f _ (by omega)) fun _ _ _ h=>by cases h
  ·intro h;cases h
theorem Vk{f:Nat}{b:Bool}{l r:List Tok}{t:dO}(h:vR f b l=.ok t r):r.length<l.length:=by
 unfold vR at h;obtain⟨_,cn,g1,h⟩:=PR.hc h;obtain⟨_,bM,g2,h⟩:=PR.hc h;obtain⟨_,cE,g3,h⟩:=PR.hc h;have:=(kQ (by decide) g1).1;have:=(kQ (by decide) g2).1;have:=(kQ (by decide) g3).1;split at h
 ·obtain⟨_,eb,g4,h⟩:=PR.hc h;obtain⟨_,gn,g5,h⟩:=PR.hc h;cases h;have:=(kQ (by decide) g4).1;have:=(Ia f).2.1 _ _ _ _ g5;omega
 ·obtain⟨_,gn,g5,h⟩:=PR.hc h;cases h;have:=(Ia f).2.1 _ _ _ _ g5;omega
theorem adX{f:Nat}{b:Bool}{l:List Tok}(aZ:3*l.length≤f):vR f b l≠.out:=by
 unfold vR;refine PR.fy (rL _ _) fun _ cn g1=>?_;have:=(kQ (by decide) g1).1;refine PR.fy (rL _ _) fun _ bM g2=>?_;have:=(kQ (by decide) g2).1;refine PR.fy (rL _ _) fun _ cE g3=>?_;have:=(kQ (by decide) g3).1;split
 ·refine PR.fy (rL _ _) fun _ eb g4=>?_;have:=(kQ (by decide) g4).1;exact PR.fy ((UX f).2.1 _ _ (by omega)) fun _ _ _ h=>by cases h
 ·exact PR.fy ((UX f).2.1 _ _ (by omega)) fun _ _ _ h=>by cases h
theorem Vm:∀(f:Nat) (l:List Tok),3*l.length+1≤f→nu f l≠.out
 |0,l,h=>by omega
 |f+1,l,h=>by
  rw[nu];split
  ·rename_i aj;have:=hM (iZ aj);refine PR.fy (adX (by omega)) fun _ cn g1=>?_;have:=Vk g1;exact PR.fy (Vm f _ (by omega)) fun _ _ _ h=>by cases h
  split
  ·rename_i aj;have:=hM (iZ aj);refine PR.fy (adX (by omega)) fun _ cn g1=>?_;have:=Vk g1;exact PR.fy (Vm f _ (by omega)) fun _ _ _ h=>by cases h
  ·intro h;cases h
theorem aoJ{f:Nat}{l:List Tok}(aZ:3*l.length+1≤f):BX f l≠.out:=by
 unfold BX;refine PR.fy (uA _ _) fun _ cn g1=>?_;have:=(oS g1).1;refine PR.fy (rL _ _) fun _ bM g2=>?_;have:=(kQ (by decide) g2).1;refine PR.fy (X7 f _ (by omega)) fun _ cE g3=>?_;have:=X8 f _ _ _ g3;refine PR.fy (acK f _ (by omega)) fun _ eb g4=>?_;have:=acL f _ _ _ g4;exact PR.fy (Vm f _ (by omega)) fun _ _ _ h=>by cases h
end Go.Eng.Sy
