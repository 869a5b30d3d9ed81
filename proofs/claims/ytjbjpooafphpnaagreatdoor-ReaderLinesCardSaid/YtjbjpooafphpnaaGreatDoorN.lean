/-
  Part of a proof of the laws of layer 07 (reader): the laws.
  Conditions: none.
-/
import Derived.Test.YtjbjpooafphpnaaGreatDoorM8
import Derived.Test.YtjbjpooafphpnaaGreatDoorEc
import Derived.Test.YtjbjpooafphpnaaGreatDoorProg
import Derived.KernelRfl
set_option linter.unusedSimpArgs false
set_option linter.unusedVariables false
namespace Go.Eng.Sy
open Go Go.Eng Go.Proofs
structure uF(b:Tok):Prop where
 kind:b.kind≠1
 O9:dk [125] b=false
 i:dk [105,102] b=false
 l:dk [108,111,99,107] b=false
 r:dk [114,101,112,101,97,116] b=false
 h:dk [104,97,108,116] b=false
def mg(deep:Nat)(l:List Tok)(n:Int):Prop:=∃ f0,∀ f,f0≤f→pF f deep l=.bad 70 n
theorem RO{b:Tok}(h:uF b)(deep:Nat)(X:List Tok){f:Nat}(aZ:1≤f):pE f deep (b::X)=.bad 70 b.line:=by
 obtain⟨f,rfl⟩:∃ g,f=g+1:=⟨f-1,by omega⟩;rw[pE];simp only[show hd (b::X)=b from rfl,h.i,h.l,h.r,h.h,Bool.false_eq_true,if_false];unfold im;rw[show hd (b::X)=b from rfl,if_neg h.kind];rfl
theorem Ic{b:Tok}(h:uF b)(deep:Nat)(X:List Tok):mg deep (b::X) b.line:=by
 refine⟨2,fun f aZ=>?_⟩;obtain⟨f,rfl⟩:∃ g,f=g+1:=⟨f-1,by omega⟩;rw[pF];simp only[show hd (b::X)=b from rfl,h.O9,Bool.false_eq_true,if_false];rw[RO h deep X (by omega)];rfl
theorem E6{deep:Nat}{l r:List Tok}{s:aP}{n:Int}(T:dk [125] (hd l)=false)(A:Cs deep l s r)(S:mg deep r n):mg deep l n:=by
 obtain⟨a,A⟩:=A;obtain⟨b,S⟩:=S;refine⟨max a b+1,fun f aZ=>?_⟩;obtain⟨f,rfl⟩:∃ g,f=g+1:=⟨f-1,by omega⟩;rw[pF];simp only[T,Bool.false_eq_true,if_false];rw[A f (by omega)];show(pF f deep r).bind _=_;rw[S f (by omega)];rfl
def r1(deep:Nat)(l:List Tok)(n:Int):Prop:=∃ f0,∀ f,f0≤f→pE f deep l=.bad 70 n
theorem E7{deep:Nat}{l:List Tok}{n:Int}(T:dk [125] (hd l)=false)(A:r1 deep l n):mg deep l n:=by
 obtain⟨a,A⟩:=A;refine⟨a+1,fun f aZ=>?_⟩;obtain⟨f,rfl⟩:∃ g,f=g+1:=⟨f-1,by omega⟩;rw[pF];simp only[T,Bool.false_eq_true,if_false];rw[A f (by omega)];rfl
theorem Qx{deep:Nat}{s:aD}{m:Int}{l:List Tok}{n:Int}(k6:deep<1000)(h:mg (deep+1) l n):r1 deep (l3 [108,111,99,107] m::fY s m::bD [123] m::l) n:=by
 obtain⟨a,h⟩:=h;refine⟨a+2,fun f aZ=>?_⟩;obtain⟨f,rfl⟩:∃ g,f=g+2:=⟨f-2,by omega⟩;rw[pE];show(jL (f+1) (deep+1) (bD [123] m::l)).bind _=_;rw[jL];show(if 1000<deep+1 then PR.bad Fc 1 else pF f (deep+1) l).bind _=_;rw[if_neg (by omega),h f (by omega)];rfl
theorem QU{deep k:Nat}{m:Int}{l:List Tok}{n:Int}(k6:deep<1000)(h:mg (deep+1) l n):r1 deep (l3 [114,101,112,101,97,116] m::kV k m::bD [123] m::l) n:=by
 obtain⟨a,h⟩:=h;refine⟨a+2,fun f aZ=>?_⟩;obtain⟨f,rfl⟩:∃ g,f=g+2:=⟨f-2,by omega⟩;rw[pE];show(jL (f+1) (deep+1) (bD [123] m::l)).bind _=_;rw[jL];show(if 1000<deep+1 then PR.bad Fc 1 else pF f (deep+1) l).bind _=_;rw[if_neg (by omega),h f (by omega)];rfl
theorem LA{deep:Nat}{a:aX}{m:Int}{l:List Tok}{n:Int}(ai:e1 a 30)(k6:deep+70≤1000)(h:mg (deep+1) l n):r1 deep (l3 [105,102] m::bD [40] m::(fo m a++bD [41] m::bD [123] m::l)) n:=by
 obtain⟨c,h⟩:=h;obtain⟨bk,bJ⟩:=HD [41] (.inl rfl) m (bD [123] m::l);obtain⟨l9,pZ⟩:=Na ai (deep:=deep+1) (m:=m) (by omega) bk bJ;refine⟨max l9 c+2,fun f aZ=>?_⟩;obtain⟨f,rfl⟩:∃ g,f=g+2:=⟨f-2,by omega⟩;rw[pE];show(lB (f+1) 1 (deep+1) (fo m a++bD [41] m::bD [123] m::l)).bind _=_;rw[pZ (f+1) (by omega)];show(jL (f+1) (deep+1) (bD [123] m::l)).bind _=_;rw[jL];show(if 1000<deep+1 then PR.bad Fc 1 else pF f (deep+1) l).bind _=_;rw[if_neg (by omega),h f (by omega)];rfl
theorem Pc{deep:Nat}{a:aX}{aU:List aP}{m m1 m2 m3:Int}{l:List Tok}{n:Int}{d:Nat}(ai:e1 a 30)(aC:∀ s∈aU,jx s d)(k6:deep+70+2*d≤900)(h:mg (deep+1) l n) :
  r1 deep (l3 [105,102] m::bD [40] m::(fo m a++bD [41] m::bD [123] m::(ki m1 aU++bD [125] m2::l3 [101,108,115,101] m3::bD [123] m3::l))) n:=by
 obtain⟨c,h⟩:=h;obtain⟨bk,bJ⟩:=HD [41] (.inl rfl) m (bD [123] m::(ki m1 aU++bD [125] m2::l3 [101,108,115,101] m3::bD [123] m3::l));obtain⟨l9,pZ⟩:=Na ai (deep:=deep+1) (m:=m) (by omega) bk bJ;obtain⟨fl,j8⟩:=H9 (fun s ak=>⟨aC s ak,acv d s (aC s ak)⟩) (deep:=deep+1) (m:=m) (m1:=m1) (m2:=m2) (l:=l3 [101,108,115,101] m3::bD [123] m3::l) (by omega);refine⟨max l9 (max c fl)+2,fun f aZ=>?_⟩;obtain⟨f,rfl⟩:∃ g,f=g+2:=⟨f-2,by omega⟩;rw[pE];show(lB (f+1) 1 (deep+1) (fo m a++bD [41] m::bD [123] m::(ki m1 aU++bD [125] m2::l3 [101,108,115,101] m3::bD [123] m3::l))).bind _=_;rw[pZ (f+1) (by omega)];show(jL (f+1) (deep+1) (bD [123] m::(ki m1 aU++bD [125] m2::l3 [101,108,115,101] m3::bD [123] m3::l))).bind _=_;rw[j8 (f+1) (by omega)];show(jL (f+1) (deep+1) (bD [123] m3::l)).bind _=_;rw[jL];show(if 1000<deep+1 then PR.bad Fc 1 else pF f (deep+1) l).bind _=_;rw[if_neg (by omega),h f (by omega)];rfl
theorem Qy{deep:Nat}{a:aX}{aU:List aP}{m m1 m2 m3:Int}{X:List Tok}{d:Nat}(ai:e1 a 30)(aC:∀ s∈aU,jx s d)(k6:deep+70+2*d≤900)(rI:dk [123] (hd X)=false) :
  r1 deep (l3 [105,102] m::bD [40] m::(fo m a++bD [41] m::bD [123] m::(ki m1 aU++bD [125] m2::l3 [101,108,115,101] m3::X))) (hd X).line:=by
 obtain⟨bk,bJ⟩:=HD [41] (.inl rfl) m (bD [123] m::(ki m1 aU++bD [125] m2::l3 [101,108,115,101] m3::X));obtain⟨l9,pZ⟩:=Na ai (deep:=deep+1) (m:=m) (by omega) bk bJ;obtain⟨fl,j8⟩:=H9 (fun s ak=>⟨aC s ak,acv d s (aC s ak)⟩) (deep:=deep+1) (m:=m) (m1:=m1) (m2:=m2) (l:=l3 [101,108,115,101] m3::X) (by omega);refine⟨max l9 fl+2,fun f aZ=>?_⟩;obtain⟨f,rfl⟩:∃ g,f=g+2:=⟨f-2,by omega⟩;rw[pE];show(lB (f+1) 1 (deep+1) (fo m a++bD [41] m::bD [123] m::(ki m1 aU++bD [125] m2::l3 [101,108,115,101] m3::X))).bind _=_;rw[pZ (f+1) (by omega)];show(jL (f+1) (deep+1) (bD [123] m::(ki m1 aU++bD [125] m2::l3 [101,108,115,101] m3::X))).bind _=_;rw[j8 (f+1) (by omega)];show(jL (f+1) (deep+1) X).bind _=_;rw[jL];unfold mP;rw[rI];rfl
theorem QQ{d:Nat}{s:aP}(h:jx s d)(ab:∀ a aU,s≠.mk 6 [] [] 0 [a] aU [])(deep:Nat)(m:Int)(l:List Tok)(k6:deep+2*d≤900):Cs deep (sO m s++l) s l:=by
 by_cases cH:ne l
 ·exact acv d s h deep m l k6 cH
 cases d with
 |zero=>cases h
 |succ d =>
  have ih:∀ et:List aP,(∀ s∈et,jx s d)→∀ s∈et,jx s d∧EL s d:=fun et h s ak=>⟨h s ak,acv d s (h s ak)⟩;cases h with
  |set s a _ h ai =>
   show Cs deep (fY s m::bD [61] m::(fo m a++[bD [59] m])++l) _ l;have az:fY s m::bD [61] m::(fo m a++[bD [59] m])++l=fY s m::bD [61] m::(fo m a++bD [59] m::l):=by simp
   rw[az];obtain⟨c,aj⟩:=UK ai (deep:=deep) (m:=m) (l:=l) (k:=1) (n:=0) (s:=s) (xs:=[]) (by omega);exact Iz ⟨c,fun f aZ=>aj f aZ⟩
  |get s f n _ h aZ hn=>exact Iz (m':=m) ⟨0,fun f aZ=>rfl⟩
  |put s n a _ h hn ai =>
   show Cs deep (fY s m::bD [46] m::kV n m::bD [61] m::(fo m a++[bD [59] m])++l) _ l;have az:fY s m::bD [46] m::kV n m::bD [61] m::(fo m a++[bD [59] m])++l=fY s m::bD [46] m::kV n m::bD [61] m::(fo m a++bD [59] m::l):=by simp
   rw[az];obtain⟨c,aj⟩:=UK ai (deep:=deep) (m:=m) (l:=l) (k:=3) (n:=n) (s:=s) (xs:=[]) (by omega);exact Iz ⟨c,fun f aZ=>aj f aZ⟩
  |store s a b _ h ai T =>
   show Cs deep (fY s m::bD [91] m::(fo m a++bD [93] m::bD [61] m::(fo m b++[bD [59] m]))++l) _ l;have az:fY s m::bD [91] m::(fo m a++bD [93] m::bD [61] m::(fo m b++[bD [59] m]))++l=fY s m::bD [91] m::(fo m a++bD [93] m::bD [61] m::(fo m b++bD [59] m::l)):=by simp
   rw[az];obtain⟨bk,bJ⟩:=HD [93] (.inr (.inl rfl)) m (bD [61] m::(fo m b++bD [59] m::l));obtain⟨c,aj⟩:=Na ai (deep:=deep+1) (m:=m) (by omega) bk bJ;obtain⟨fl,j8⟩:=UK T (deep:=deep) (m:=m) (l:=l) (k:=4) (n:=0) (s:=s) (xs:=[a]) (by omega);refine Iz (m':=m) ⟨max c fl,fun f aZ=>?_⟩;show(lB f 1 (deep+1) (fo m a++bD [93] m::bD [61] m::(fo m b++bD [59] m::l))).bind _=_;rw[aj f (by omega)];exact j8 f (by omega)
  |lock s aU _ h aC =>
   have az:sO m (.mk 5 s [] 0 [] aU [])++l=l3 [108,111,99,107] m::fY s m::bD [123] m::(ki (m+1) aU++bD [125] (m+1+ey aU)::l):=by simp[sO,L3,yl]
   rw[az];obtain⟨c,aj⟩:=H9 (ih aU aC) (deep:=deep+1) (m:=m) (m1:=m+1) (m2:=m+1+ey aU) (l:=l) (by omega);refine⟨c+1,fun f aZ=>?_⟩;obtain⟨f,rfl⟩:∃ g,f=g+1:=⟨f-1,by omega⟩;rw[pE];show(jL f (deep+1) (bD [123] m::(ki (m+1) aU++bD [125] (m+1+ey aU)::l))).bind _=_;rw[aj f (by omega)];rfl
  |rW n aU _ hn aC =>
   have az:sO m (.mk 7 [] [] n [] aU [])++l=l3 [114,101,112,101,97,116] m::kV n m::bD [123] m::(ki (m+1) aU++bD [125] (m+1+ey aU)::l):=by simp[sO,L3,yl]
   rw[az];obtain⟨c,aj⟩:=H9 (ih aU aC) (deep:=deep+1) (m:=m) (m1:=m+1) (m2:=m+1+ey aU) (l:=l) (by omega);refine⟨c+1,fun f aZ=>?_⟩;obtain⟨f,rfl⟩:∃ g,f=g+1:=⟨f-1,by omega⟩;rw[pE];show(jL f (deep+1) (bD [123] m::(ki (m+1) aU++bD [125] (m+1+ey aU)::l))).bind _=_;rw[aj f (by omega)];rfl
  |halt =>
   refine⟨1,fun f aZ=>?_⟩;obtain⟨f,rfl⟩:∃ g,f=g+1:=⟨f-1,by omega⟩;rfl
  |cond a aU bz _ ai aC aK =>
   cases bz with
   |nil=>exact absurd rfl (ab a aU)
   |cons y c4 =>
    have az:sO m (.mk 6 [] [] 0 [a] aU (y::c4))++l=l3 [105,102] m::bD [40] m::(fo m a++bD [41] m::bD [123] m::(ki (m+1) aU++bD [125] (m+1+ey aU)::l3 [101,108,115,101] (m+1+ey aU)::bD [123] (m+1+ey aU)::(ki (m+1+ey aU+1) (y::c4)++bD [125] (m+1+ey aU+1+ey (y::c4))::l))):=by simp[sO,L3,yl]
    rw[az];obtain⟨l2,bC⟩:∃ l2,l3 [101,108,115,101] (m+1+ey aU)::bD [123] (m+1+ey aU)::(ki (m+1+ey aU+1) (y::c4)++bD [125] (m+1+ey aU+1+ey (y::c4))::l)=l2:=⟨_,rfl⟩;rw[bC];obtain⟨bk,bJ⟩:=HD [41] (.inl rfl) m (bD [123] m::(ki (m+1) aU++bD [125] (m+1+ey aU)::l2));obtain⟨l9,pZ⟩:=Na ai (deep:=deep+1) (m:=m) (by omega) bk bJ;obtain⟨c,aj⟩:=H9 (ih aU aC) (deep:=deep+1) (m:=m) (m1:=m+1) (m2:=m+1+ey aU) (l:=l2) (by omega);obtain⟨fl,j8⟩:=H9 (ih (y::c4) aK) (deep:=deep+1) (m:=m+1+ey aU) (m1:=m+1+ey aU+1) (m2:=m+1+ey aU+1+ey (y::c4)) (l:=l) (by omega);refine⟨max l9 (max c fl)+1,fun f aZ=>?_⟩;obtain⟨f,rfl⟩:∃ g,f=g+1:=⟨f-1,by omega⟩;rw[pE];show(lB f 1 (deep+1) (fo m a++bD [41] m::bD [123] m::(ki (m+1) aU++bD [125] (m+1+ey aU)::l2))).bind _=_;rw[pZ f (by omega)];show(jL f (deep+1) (bD [123] m::(ki (m+1) aU++bD [125] (m+1+ey aU)::l2))).bind _=_;rw[aj f (by omega),← bC];show(jL f (deep+1) (bD [123] (m+1+ey aU)::(ki (m+1+ey aU+1) (y::c4)++bD [125] (m+1+ey aU+1+ey (y::c4))::l))).bind _=_;rw[j8 f (by omega)];rfl
theorem PF{s:aP}{d:Nat}(h:jx s d)(m:Int)(l:List Tok):dk [123] (hd (sO m s++l))=false:=by
 cases h with
 |set s a d h ai=>exact xn _ s m
 |get s f n d h aZ hn=>exact xn _ s m
 |put s n a d h hn ai=>exact xn _ s m
 |store s a b d h ai T=>exact xn _ s m
 |lock s aU d h aC=>rfl
 |cond a aU bz d ai aC aK=>rfl
 |rW n aU d hn aC=>rfl
 |halt d=>rfl
theorem K1(m:Int):uF (l3 [101,108,115,101] m):=⟨(by decide:(2:Int)≠1),rfl,rfl,rfl,rfl,rfl⟩
theorem Pb{d:Nat}{s:aP}(h:jx s d){deep:Nat}{m m':Int}{X:List Tok}(k6:deep+70+2*d≤900)(rI:dk [123] (hd X)=false):∃ n,mg deep (sO m s++l3 [101,108,115,101] m'::X) n:=by
 by_cases ab:∀ a aU,s≠.mk 6 [] [] 0 [a] aU []
 ·exact⟨_,E6 (Za h _ _).1 (QQ h ab deep m _ (by omega)) (Ic (K1 m') deep X)⟩
 ·obtain⟨a,aU,ak⟩:∃ a aU,s=.mk 6 [] [] 0 [a] aU []:=Classical.byContradiction fun aj=>ab fun a aU e=>aj ⟨a,aU,e⟩;subst ak;cases h with
  |cond _ _ _ d ai aC aK =>
   have az:sO m (.mk 6 [] [] 0 [a] aU [])++l3 [101,108,115,101] m'::X=l3 [105,102] m::bD [40] m::(fo m a++bD [41] m::bD [123] m::(ki (m+1) aU++bD [125] (m+1+ey aU)::l3 [101,108,115,101] m'::X)):=by simp[sO,L3,yl]
   rw[az];exact⟨_,E7 rfl (Qy ai aC (by omega) rI)⟩
theorem gz{n:Nat}{jq:List (aD)}(h:∀ l∈jq,(10:UInt8) ∉ l):List.count 10 (dA n jq)=1:=by
 have A:(10:UInt8) ∉ bR n++jq.flatten:=by
  simp only[List.mem_append,List.mem_flatten,not_or,not_exists,not_and];exact⟨fun hm=>by have:=List.eq_of_mem_replicate hm;exact absurd this (by decide),fun l ag=>h l ag⟩
 unfold dA;rw[List.count_append,List.count_eq_zero.2 A];rfl
theorem lF{m:aD}(h:de m=true):(10:UInt8) ∉ m:=by
 intro hm;cases m with
 |nil=>simp at hm
 |cons b r =>
  simp only[de,Bool.and_eq_true,decide_eq_true_eq,beq_iff_eq]at h;have S:((b::r).takeWhile nm).length=(b::r).length:=h.1.1.2;have ae:(b::r).takeWhile nm=b::r:=(List.takeWhile_prefix nm).eq_of_length S;have aB:(10:UInt8)∈(b::r).takeWhile nm:=by rw[ae];exact hm
  have aG:=List.all_takeWhile (p:=nm) (l:=b::r);have:=List.all_eq_true.1 aG 10 aB;revert this;decide
theorem lj(n:Nat):(10:UInt8) ∉ bs n:=by
 induction n using Nat.strongRecOn with
 |_ n ih =>
 have hd:(10:UInt8)≠UInt8.ofNat (48+n % 10):=by
  have:n % 10<10:=Nat.mod_lt _ (by omega);generalize n % 10=k at *;intro e;have:=congrArg UInt8.toNat e;simp at this;omega
 unfold bs;split
 ·simp only[List.mem_append,List.mem_singleton,not_or];exact⟨ih _ (by omega),hd⟩
 ·simpa using hd
theorem ND{o:Int}(h:1≤o∧o≤17):(10:UInt8) ∉ eU o:=by
 have:o=1∨o=2∨o=3∨o=4∨o=5∨o=6∨o=7∨o=8∨o=9∨o=10∨o=11∨o=12∨o=13∨o=14∨o=15∨o=16∨o=17:=by omega
 rcases this with rfl|rfl|rfl|rfl|rfl|rfl|rfl|rfl|rfl|rfl|rfl|rfl|rfl|rfl|rfl|rfl|rfl<;>decide
theorem Is{e:aX}{k:Nat}{s:aD}(h:(10:UInt8) ∉ s):(10:UInt8) ∉ nb e k s:=by
 unfold nb;split
 ·simp[h]
 ·exact h
theorem xQ{e:aX}{d:Nat}(h:e1 e d):(10:UInt8) ∉ bU e:=by
 induction h with
 |num n d h=>exact lj _
 |var m d h=>exact lF h
 |one o a d h ai ih =>
  have:=ND (o:=o) (by omega);have:=Is (e:=a) (k:=9) ih
  simp_all [bU,xM,sE]
 |two o a b d h ai T zu DI =>
  have:=ND (o:=o) (by omega);have:=Is (e:=a) (k:=cy o) zu;have:=Is (e:=b) (k:=cy o+1) DI
  simp_all [bU,xM,sE]
 |idx m a d h ai ih =>
  have:=lF h
  simp_all [bU,xM,sE]
theorem tG{t:Nat}:∀ {l:List aP},(∀ s∈l,List.count 10 (gy t s)=DS s)→List.count 10 (cJ t l)=ey l
 |[],_=>rfl
 |a::r,h=>by
  have A:=h a (by simp);have S:=tG (l:=r) fun s ak=>h s (by simp[ak]);simp only[cJ,ey,List.count_append]at *;omega
theorem sP:∀(d:Nat) (s:aP),jx s d→∀ t,List.count 10 (gy t s)=DS s
 |0,s,h,t=>by cases h
 |d+1,s,h,t=>by
  cases h with
  |set m a d h ai =>
   have A:=lF h;have S:=xQ ai;show List.count 10 (dA _ _)=_;rw[gz (by simp[pa,A,S])];rfl
  |get m f n d h aZ hn =>
   have A:=lF h;have S:=lF aZ;have ae:=lj n;show List.count 10 (dA _ _)=_;rw[gz (by simp[A,S,ae])];rfl
  |put m n a d h hn ai =>
   have A:=lF h;have S:=xQ ai;have ae:=lj n;show List.count 10 (dA _ _)=_;rw[gz (by simp[pa,A,S,ae])];rfl
  |store m a b d h ai T =>
   have A:=lF h;have S:=xQ ai;have ae:=xQ T;show List.count 10 (dA _ _)=_;rw[gz (by simp[pa,wy,A,S,ae])];rfl
  |lock m aU d h ak =>
   have A:=lF h;have S:=tG (t:=t+1) fun s h=>sP d s (ak s h) (t+1);show List.count 10 (dA _ _++_++[]++dA _ _)=_;simp only[List.count_append,List.count_nil]at S ⊢;rw[S,gz (by simp[A]),gz (by simp)]
   (simp[DS,ey])<;>omega
  |cond a aU bz d ai ak eh =>
   have A:=xQ ai;have S:=tG (t:=t+1) fun s h=>sP d s (ak s h) (t+1);have ae:=tG (t:=t+1) fun s h=>sP d s (eh s h) (t+1);show List.count 10 (dA _ _++_++(if(!bz.isEmpty)=true then _++_ else[])++dA _ _)=_;cases bz with
   |nil =>
    simp only[List.count_append,List.isEmpty_nil,Bool.not_true,Bool.false_eq_true,if_false,List.count_nil]at S ⊢;rw[S,gz (by simp[pa,A]),gz (by simp)]
    (simp[DS,ey])<;>omega
   |cons x r =>
    simp only[List.count_append,List.isEmpty_cons,Bool.not_false,if_true]at S ae ⊢;rw[S,ae,gz (by simp[pa,A]),gz (by simp),gz (by simp)];simp[DS];omega
  |rW n aU d hn ak =>
   have A:=lj n;have S:=tG (t:=t+1) fun s h=>sP d s (ak s h) (t+1);show List.count 10 (dA _ _++_++[]++dA _ _)=_;simp only[List.count_append,List.count_nil]at S ⊢;rw[S,gz (by simp[A]),gz (by simp)]
   (simp[DS,ey])<;>omega
  |halt d =>
   show List.count 10 (dA _ _)=_;rw[gz (by simp)];rfl
theorem QP{t:dO}(aC:t.fm):List.count 10 (fh t)=2+ey t.body:=by
 have A:=lF aC.name;have d1:=lj t.cB.toNat;have d2:=lj t.prio.toNat;have d3:=lj t.line.toNat;have S:=tG (t:=1) fun s ak=>sP 30 s ((aC.body s ak).right (by omega)) 1;unfold fh;split
 ·simp only[List.count_append]at S ⊢;rw[S,gz (by simp[qN,A,d1,d2,d3]),gz (by simp)];omega
 ·simp only[List.count_append]at S ⊢;rw[S,gz (by simp[qN,A,d1,d2]),gz (by simp)];omega
theorem Nu:∀ {l:List dO},(∀ t∈l,t.fm)→List.count 10 (l.map fh).flatten=BK l
 |[],_=>rfl
 |a::r,h=>by
  have A:=QP (h a (by simp));have S:=Nu (l:=r) fun s ak=>h s (by simp[ak]);simp only[List.map_cons,List.flatten_cons,List.count_append,BK]at *;omega
theorem z6{c1:Type}{f:c1→aD}:∀ {l:List c1},(∀ x∈l,List.count 10 (f x)=1)→List.count 10 (l.map f).flatten=l.length
 |[],_=>rfl
 |a::r,h=>by
  have A:=h a (by simp);have S:=z6 (l:=r) (f:=f) fun s ak=>h s (by simp[ak]);simp only[List.map_cons,List.flatten_cons,List.count_append,List.length_cons]at *;omega
theorem LW:∀ k:Fin 4,(10:UInt8) ∉ sC.getD k.val []:=by decide
theorem QA{g:gS}(aA:g.fm):List.count 10 (lZ g)=1+g.c2.length+g.cv.length+BK g.db:=by
 have f1:=z6 (f:=ir) (l:=g.c2) fun d hd=>by
  obtain⟨a,b,c⟩:=aA.c2 d hd;have A:=lF a;have S:=LW ⟨d.n.toNat,by omega⟩;unfold ir;exact gz (by simp at S;simp[A,S])
 have f2:=z6 (f:=iR) (l:=g.cv) fun d hd=>by
  obtain⟨a,b,c⟩:=aA.cv d hd;have A:=lF a;have S:=lj d.n.toNat;unfold iR;exact gz (by simp[A,S])
 have f3:=Nu aA.db;have aB:=lj g.bS.toNat;have f0:List.count 10 (dA 0 [[104,97,114,116,115,32],bs g.bS.toNat])=1:=gz (by simp[aB]);unfold lZ;simp only[List.count_append]at *;omega
structure kv(d:Nat)(ce:aD)(j n:Nat)(a b:aD)(Y:Int→List Tok):Prop where
 eq:ce=a++b
 Ax:a.count 10=j
 nil:j=0→a=[]
 ends:0<j→∃ bl,a=bl++[10]
 xr:∀(m:Int) (y:aD),dc (a++y) m=fL (Y m) (dc y (m+j))
 xP:∀(m:Int) (y:aD),∃ l8,dc (b++y) m=fL l8 (dc y (m+(n-j:Nat)))∧(l8=[]∨dk [123] (hd l8)=false)
 parse:∀(m:Int) (deep:Nat) (bad:Tok) (X:List Tok),deep+70+2*d≤900→uF bad→dk [101,108,115,101] bad=false→mg deep (Y m++bad::X) bad.line
 wS:∀(m m':Int) (deep:Nat) (X:List Tok),deep+70+2*d≤900→dk [123] (hd X)=false→∃ kf,mg deep (Y m++l3 [101,108,115,101] m'::X) kf
 head:∀ m:Int,Y m=[]∨∀ l,dk [125] (hd (Y m++l))=false∧ne (Y m++l)
theorem NE{d t:Nat}{et:List aP}(h:∀ s∈et,jx s d)(m:Int)(y:aD):∃ l8,dc (cJ t et++y) m=fL l8 (dc y (m+(ey et:Nat)))∧(l8=[]∨dk [123] (hd l8)=false):=by
 refine⟨ki m et,?_,?_⟩
 ·have:=HT et (fun s ak=>adk d s (h s ak)) t y m [] (dc y (m+ey et)) (Nw _).symm;rw[this,List.append_nil]
 ·cases et with
  |nil=>exact .inl rfl
  |cons s r =>
   refine .inr ?_;exact PF (h s (by simp)) m _
theorem kv.here{d t:Nat}{et:List aP}(h:∀ s∈et,jx s d):kv d (cJ t et) 0 (ey et) [] (cJ t et) (fun _=>[]) where
 eq:=rfl
 Ax:=rfl
 nil:=fun _=>rfl
 ends:=fun h=>absurd h (by omega)
 xr:=fun m y=>by rw[Nw];simp
 xP:=fun m y=>NE h m y
 parse:=fun m deep bad X _ T _=>Ic T deep X
 wS:=fun m m' deep X _ _=>⟨_,Ic (K1 m') deep X⟩
 head:=fun m=>.inl rfl
theorem kv.skip{d t j:Nat}{s:aP}{r:List aP}{a b:aD}{Y:Int→List Tok}(ak:jx s d)(A:0<DS s)(aj:(gy t s).count 10=DS s)(aK:∃ P,gy t s=P++[10])(c:kv d (cJ t r) j (ey r) a b Y) :
  kv d (cJ t (s::r)) (DS s+j) (ey (s::r)) (gy t s++a) b (fun m=>sO m s++Y (m+DS s)) where
 eq:=by show gy t s++cJ t r=_;rw[c.eq,List.append_assoc]
 Ax:=by rw[List.count_append,aj,c.Ax]
 nil:=fun h=>by omega
 ends:=fun _=>by
  obtain⟨P,ll⟩:=aK;rcases Nat.eq_zero_or_pos j with bn|bn
  ·rw[c.nil bn,List.append_nil];exact⟨P,ll⟩
  ·obtain⟨bl,ai⟩:=c.ends bn;exact⟨gy t s++bl,by rw[ai,List.append_assoc]⟩
 xr:=fun m y=>by
  rw[List.append_assoc,adk d s ak t,c.xr,rp]
  congr 2;omega
 xP:=fun m y=>by
  have S:ey (s::r)-(DS s+j)=ey r-j:=by simp only[ey];omega
  rw[S];exact c.xP m y
 parse:=fun m deep bad X k6 T cH=>by
  rw[List.append_assoc];refine E6 (Za ak _ _).1 (acv d s ak deep m _ (by omega) ?_) (c.parse _ deep bad X k6 T cH);rcases c.head (m+DS s) with h0|h0
  ·rw[h0];exact cH
  ·exact(h0 _).2
 wS:=fun m m' deep X k6 rI=>by
  rw[List.append_assoc];rcases c.head (m+DS s) with h0|h0
  ·rw[h0];exact Pb ak k6 rI
  ·obtain⟨kf,ag⟩:=c.wS (m+DS s) m' deep X k6 rI;exact⟨kf,E6 (Za ak _ _).1 (acv d s ak deep m _ (by omega) (h0 _).2) ag⟩
 head:=fun m=>.inr fun l=>by rw[List.append_assoc];exact Za ak m _
theorem kv.inner{d t j p z:Nat}{s:aP}{r inner:List aP}{a b P Z:aD}{Y TP TZ:Int→List Tok}(c:kv d (cJ (t+1) inner) j (ey inner) a b Y)
  (bn:j≤ey inner) (hr:∀ x∈r,jx x (d+1)) (ak:gy t s=P++(cJ (t+1) inner++Z)) (jk:0<p) (hp:P.count 10=p) (lb:∃ Ce,P=Ce++[10]) (iQ:DS s=p+ey inner+z)
  (QV:∀(m:Int) (y:aD),dc (P++y) m=fL (TP m) (dc y (m+p))) (Q5:∀(m:Int) (y:aD),dc (Z++y) m=fL (TZ m) (dc y (m+z))) (rx:∀ m l,dk [123] (hd (TZ m++l))=false)
  (Gm:∀ m l,dk [125] (hd (TP m++l))=false∧ne (TP m++l))
  (Ln:∀(m:Int) (deep:Nat) (cU:List Tok) (n:Int),deep+70+2*(d+1)≤900→mg (deep+1) cU n→r1 deep (TP m++cU) n) :
  kv (d+1) (cJ t (s::r)) (p+j) (ey (s::r)) (P++a) (b++(Z++cJ t r)) (fun m=>TP m++Y (m+p)) where
 eq:=by show gy t s++cJ t r=_;rw[ak,c.eq];simp
 Ax:=by rw[List.count_append,hp,c.Ax]
 nil:=fun h=>by omega
 ends:=fun _=>by
  obtain⟨Ce,ll⟩:=lb;rcases Nat.eq_zero_or_pos j with bn|bn
  ·rw[c.nil bn,List.append_nil];exact⟨Ce,ll⟩
  ·obtain⟨bl,ai⟩:=c.ends bn;exact⟨P++bl,by rw[ai,List.append_assoc]⟩
 xr:=fun m y=>by
  rw[List.append_assoc,QV,c.xr,rp]
  congr 2;omega
 xP:=fun m y=>by
  obtain⟨l8,A,S⟩:=c.xP m (Z++(cJ t r++y));obtain⟨N6,ae,_⟩:=NE (t:=t) hr (m+(ey inner-j:Nat)+z) y;refine⟨l8++(TZ (m+(ey inner-j:Nat))++N6),?_,.inr ?_⟩
  ·rw[List.append_assoc,List.append_assoc,A,Q5,ae,rp,rp];have e:m+((ey (s::r)-(p+j):Nat):Int)=m+((ey inner-j:Nat):Int)+(z:Int)+((ey r:Nat):Int):=by
    have aL:ey (s::r)=DS s+ey r:=rfl;rw[aL,iQ];omega
   rw[e,List.append_assoc]
  ·rcases S with S|S
   ·rw[S];exact rx _ _
   ·cases l8 with
    |nil=>exact rx _ _
    |cons x xs=>exact S
 parse:=fun m deep bad X k6 T cH=>by
  rw[List.append_assoc];exact E7 (Gm _ _).1 (Ln m deep _ _ k6 (c.parse _ (deep+1) bad X (by omega) T cH))
 wS:=fun m m' deep X k6 rI=>by
  rw[List.append_assoc];obtain⟨kf,ag⟩:=c.wS (m+p) m' (deep+1) X (by omega) rI;exact⟨kf,E7 (Gm _ _).1 (Ln m deep _ _ k6 ag)⟩
 head:=fun m=>.inr fun l=>by rw[List.append_assoc];exact Gm m _
theorem BS{t:Nat}{head:aD}{hd:List Tok}{m:Int}{y:aD}(cp:∀ x ts R,sd x→re x→dc x m=fL ts R→dc (head++x) m=fL (hd++ts) R) :
  dc (dA t [head,[32,123]]++y) m=fL (hd++[bD [123] m]) (dc y (m+(1:Nat))):=by
 have az:dA t [head,[32,123]]++y=bR t++(head++([32]++([123]++([10]++y)))):=by simp[dA]
 rw[az];exact vO t (cp _ _ _ (jD (by decide)) (nW (by decide)) (kg (mr (by decide) (nW (by decide)) (q5 (Nw _).symm))))
theorem wB(t:Nat)(m:Int)(y:aD):dc (dA t [[125]]++y) m=fL [bD [125] m] (dc y (m+(1:Nat))):=by
 have az:dA t [[125]]++y=bR t++([125]++([10]++y)):=by simp[dA]
 rw[az];exact vO t (mr (by decide) (nW (by decide)) (q5 (Nw _).symm))
theorem Nj(t:Nat)(m:Int)(y:aD):dc (dA t [[125,32,101,108,115,101,32,123]]++y) m=fL [bD [125] m,l3 [101,108,115,101] m,bD [123] m] (dc y (m+(1:Nat))):=by
 have az:dA t [[125,32,101,108,115,101,32,123]]++y=bR t++([125]++([32]++([101,108,115,101]++([32]++([123]++([10]++y)))))):=by simp[dA]
 rw[az];exact vO t (mr (by decide) (nW (by decide)) (kg (uE (by decide) (jD (by decide)) (kg (mr (by decide) (nW (by decide)) (q5 (Nw _).symm))))))
theorem nF(t:Nat)(jq:List (aD)):∃ P,dA t jq=P++[10]:=⟨_,rfl⟩
theorem RU{d:Nat}{s:aP}(h:jx s d)(t:Nat):∃ P,gy t s=P++[10]:=by
 have ni:∀(hd nw el:aD) (tn:Bool),∃ P,kC t hd nw el tn=P++[10]:=fun hd nw el tn=>by
  unfold kC;obtain⟨P,ll⟩:=nF t [[125]];rw[ll,← List.append_assoc];exact⟨_,rfl⟩
 cases h with
 |set s a _ h ai=>exact nF t _
 |get s f n _ h aZ hn=>exact nF t _
 |put s n a _ h hn ai=>exact nF t _
 |store s a b _ h ai T=>exact nF t _
 |lock s aU _ h aC=>exact ni _ _ _ _
 |cond a aU bz _ ai aC aK=>exact ni _ _ _ _
 |rW n aU _ hn aC=>exact ni _ _ _ _
 |halt=>exact nF t _
theorem Qw(s:aP):0<DS s:=by
 cases s;unfold DS;split<;>omega
theorem r9:∀(d:Nat) (et:List aP),(∀ s∈et,jx s d)→∀(t j:Nat),j≤ey et→∃ a b Y,kv d (cJ t et) j (ey et) a b Y
 |d,[],h,t,j,bn=>by
  have:j=0:=by simp only[ey]at bn;omega
  subst this;exact⟨_,_,_,kv.here h⟩
 |0,s::r,h,t,j,bn=>by have:=h s (by simp);cases this
 |d+1,s::r,h,t,j,bn=>by
  have ak:=h s (by simp);have hr:∀ x∈r,jx x (d+1):=fun x af=>h x (by simp[af]);rcases Nat.eq_zero_or_pos j with h0|h0
  ·subst h0;exact⟨_,_,_,kv.here h⟩
  by_cases aV:DS s≤j
  ·have S:j-DS s≤ey r:=by simp only[ey]at bn;omega
   obtain⟨a,b,Y,c⟩:=r9 (d+1) r hr t (j-DS s) S;have bJ:=kv.skip ak (Qw s) (sP (d+1) s ak t) (RU ak t) c;rw[show DS s+(j-DS s)=j by omega]at bJ;exact⟨_,_,_,bJ⟩
  have one:∀ {n:Nat},DS s=n→¬ n≤1∨False:=fun e=>by omega
  cases ak with
  |set m a _ h ai=>exact absurd (show DS (.mk 1 m [] 0 [a] [] [])=1 from rfl) (by omega)
  |get m f n _ h aZ hn=>exact absurd (show DS (.mk 2 m f n [] [] [])=1 from rfl) (by omega)
  |put m n a _ h hn ai=>exact absurd (show DS (.mk 3 m [] n [a] [] [])=1 from rfl) (by omega)
  |store m a b _ h ai T=>exact absurd (show DS (.mk 4 m [] 0 [a,b] [] [])=1 from rfl) (by omega)
  |halt=>exact absurd (show DS (.mk 8 [] [] 0 [] [] [])=1 from rfl) (by omega)
  |lock m aU _ hm aC =>
   have ag:DS (.mk 5 m [] 0 [] aU [])=1+ey aU+1:=by simp[DS];omega
   obtain⟨a,b,Y,c⟩:=r9 d aU aC (t+1) (j-1) (by omega);have bJ:=kv.inner (t:=t) (p:=1) (z:=1) (s:=.mk 5 m [] 0 [] aU []) (r:=r) (P:=dA t [[108,111,99,107,32]++m,[32,123]]) (Z:=dA t [[125]]) (TP:=fun k=>[l3 [108,111,99,107] k,fY m k]++[bD [123] k]) (TZ:=fun k=>[bD [125] k]) c (by omega) hr
    (by show kC t ([108,111,99,107,32]++m) (cJ (t+1) aU) (cJ (t+1) []) (!([]:List aP).isEmpty)=_;unfold kC;simp) (by omega) (gz (by have:=lF hm;simp[this])) (nF t _) ag
    (fun k y=>BS fun x ts R f1 f2 g=>by
     rw[show([108,111,99,107,32]++m)++x=[108,111,99,107]++([32]++(m++x)) by simp];exact uE (by decide) (jD (by decide)) (kg (vM hm f1 g))) (fun k y=>wB t k y) (fun _ _=>rfl) (fun _ _=>⟨rfl,rfl⟩)
    (fun k deep cU n k6 T=>Qx (by omega) T)
   rw[show 1+(j-1)=j by omega]at bJ;exact⟨_,_,_,bJ⟩
  |rW n aU _ hn aC =>
   have ag:DS (.mk 7 [] [] n [] aU [])=1+ey aU+1:=by simp[DS];omega
   obtain⟨a,b,Y,c⟩:=r9 d aU aC (t+1) (j-1) (by omega);have bJ:=kv.inner (t:=t) (p:=1) (z:=1) (s:=.mk 7 [] [] n [] aU []) (r:=r) (P:=dA t [[114,101,112,101,97,116,32]++bs n,[32,123]]) (Z:=dA t [[125]]) (TP:=fun k=>[l3 [114,101,112,101,97,116] k,kV n k]++[bD [123] k]) (TZ:=fun k=>[bD [125] k]) c (by omega) hr
    (by show kC t ([114,101,112,101,97,116,32]++bs n) (cJ (t+1) aU) (cJ (t+1) []) (!([]:List aP).isEmpty)=_;unfold kC;simp) (by omega) (gz (by have:=lj n;simp[this])) (nF t _) ag
    (fun k y=>BS fun x ts R f1 f2 g=>by
     rw[show([114,101,112,101,97,116,32]++bs n)++x=[114,101,112,101,97,116]++([32]++(bs n++x)) by simp];exact uE (by decide) (jD (by decide)) (kg (vN (by omega) f1 g))) (fun k y=>wB t k y) (fun _ _=>rfl) (fun _ _=>⟨rfl,rfl⟩)
    (fun k deep cU n k6 T=>QU (by omega) T)
   rw[show 1+(j-1)=j by omega]at bJ;exact⟨_,_,_,bJ⟩
  |cond e aU bz _ aK aC k7 =>
   have Gs:∀(k:Int) (x:aD) (ts:List Tok) (R:List Tok × Int × Bool),sd x→re x→dc x k=fL ts R→dc (([105,102,32,40]++bU e++[41])++x) k=fL ((l3 [105,102] k::bD [40] k::(fo k e++[bD [41] k]))++ts) R:=fun k x ts R f1 f2 g=>by
    rw[show([105,102,32,40]++bU e++[41])++x=[105,102]++([32]++([40]++(bU e++([41]++x)))) by simp];have:=uE (w:=[105,102]) (by decide) (jD (by decide)) (kg (mr (s:=[40]) (by decide) (B7 aK _) (HU aK (E8 (by decide)) (mr (s:=[41]) (by decide) f2 g))));simpa using this
   have G3:(dA t [[105,102,32,40]++bU e++[41],[32,123]]).count 10=1:=gz (by have:=xQ aK;simp[this]);cases bz with
   |nil =>
    have ag:DS (.mk 6 [] [] 0 [e] aU [])=1+ey aU+1:=by simp[DS];omega
    obtain⟨a,b,Y,c⟩:=r9 d aU aC (t+1) (j-1) (by omega);have bJ:=kv.inner (t:=t) (p:=1) (z:=1) (s:=.mk 6 [] [] 0 [e] aU []) (r:=r) (P:=dA t [[105,102,32,40]++bU e++[41],[32,123]]) (Z:=dA t [[125]]) (TP:=fun k=>(l3 [105,102] k::bD [40] k::(fo k e++[bD [41] k]))++[bD [123] k]) (TZ:=fun k=>[bD [125] k]) c (by omega) hr
     (by show kC t ([105,102,32,40]++bU e++[41]) (cJ (t+1) aU) (cJ (t+1) []) (!([]:List aP).isEmpty)=_;unfold kC;simp) (by omega) G3 (nF t _) ag
     (fun k y=>BS (Gs k)) (fun k y=>wB t k y) (fun _ _=>rfl) (fun _ _=>⟨rfl,rfl⟩)
     (fun k deep cU n k6 T=>by
      rw[show((l3 [105,102] k::bD [40] k::(fo k e++[bD [41] k]))++[bD [123] k])++cU=l3 [105,102] k::bD [40] k::(fo k e++bD [41] k::bD [123] k::cU) by simp];exact LA aK (by omega) T)
    rw[show 1+(j-1)=j by omega]at bJ;exact⟨_,_,_,bJ⟩
   |cons x0 kx =>
    have ag:DS (.mk 6 [] [] 0 [e] aU (x0::kx))=1+ey aU+(1+ey (x0::kx)+1):=by simp[DS];omega
    by_cases asz:j≤1+ey aU
    ·obtain⟨a,b,Y,c⟩:=r9 d aU aC (t+1) (j-1) (by omega);have bJ:=kv.inner (t:=t) (p:=1) (z:=1+ey (x0::kx)+1) (s:=.mk 6 [] [] 0 [e] aU (x0::kx)) (r:=r) (P:=dA t [[105,102,32,40]++bU e++[41],[32,123]]) (Z:=dA t [[125,32,101,108,115,101,32,123]]++(cJ (t+1) (x0::kx)++dA t [[125]])) (TP:=fun k=>(l3 [105,102] k::bD [40] k::(fo k e++[bD [41] k]))++[bD [123] k]) (TZ:=fun k=>[bD [125] k,l3 [101,108,115,101] k,bD [123] k]++(ki (k+(1:Nat)) (x0::kx)++[bD [125] (k+(1:Nat)+ey (x0::kx))])) c (by omega) hr
      (by show kC t ([105,102,32,40]++bU e++[41]) (cJ (t+1) aU) (cJ (t+1) (x0::kx)) (!(x0::kx).isEmpty)=_;unfold kC;simp) (by omega) G3 (nF t _) ag
      (fun k y=>BS (Gs k)) (fun k y=>by
       rw[List.append_assoc,Nj,List.append_assoc,HT (x0::kx) (fun s ak=>adk d s (k7 s ak)) (t+1) _ _ [bD [125] (k+(1:Nat)+ey (x0::kx))] (dc y (k+(1:Nat)+ey (x0::kx)+(1:Nat))) (wB t _ y),rp]
       congr 2;omega) (fun _ _=>rfl) (fun _ _=>⟨rfl,rfl⟩)
      (fun k deep cU n k6 T=>by
       rw[show((l3 [105,102] k::bD [40] k::(fo k e++[bD [41] k]))++[bD [123] k])++cU=l3 [105,102] k::bD [40] k::(fo k e++bD [41] k::bD [123] k::cU) by simp];exact LA aK (by omega) T)
     rw[show 1+(j-1)=j by omega]at bJ;exact⟨_,_,_,bJ⟩
    ·obtain⟨a,b,Y,c⟩:=r9 d (x0::kx) k7 (t+1) (j-(2+ey aU)) (by omega);have jT:=tG (t:=t+1) (l:=aU) fun s ak=>sP d s (aC s ak) (t+1);have bJ:=kv.inner (t:=t) (p:=2+ey aU) (z:=1) (s:=.mk 6 [] [] 0 [e] aU (x0::kx)) (r:=r) (P:=dA t [[105,102,32,40]++bU e++[41],[32,123]]++(cJ (t+1) aU++dA t [[125,32,101,108,115,101,32,123]])) (Z:=dA t [[125]]) (TP:=fun k=>(l3 [105,102] k::bD [40] k::(fo k e++[bD [41] k]))++[bD [123] k]++(ki (k+(1:Nat)) aU++[bD [125] (k+(1:Nat)+ey aU),l3 [101,108,115,101] (k+(1:Nat)+ey aU),bD [123] (k+(1:Nat)+ey aU)])) (TZ:=fun k=>[bD [125] k]) c (by omega) hr
      (by show kC t ([105,102,32,40]++bU e++[41]) (cJ (t+1) aU) (cJ (t+1) (x0::kx)) (!(x0::kx).isEmpty)=_;unfold kC;simp) (by omega)
      (by rw[List.count_append,List.count_append,G3,jT,gz (by simp)];omega)
      (by obtain⟨Ce,ll⟩:=nF t [[125,32,101,108,115,101,32,123]];rw[ll,← List.append_assoc,← List.append_assoc];exact⟨_,rfl⟩) (by omega)
      (fun k y=>by
       rw[List.append_assoc,BS (Gs k),List.append_assoc,HT aU (fun s ak=>adk d s (aC s ak)) (t+1) _ _ _ _ (Nj t _ y),rp]
       congr 2;omega)
      (fun k y=>wB t k y) (fun _ _=>rfl) (fun _ _=>⟨rfl,rfl⟩)
      (fun k deep cU n k6 T=>by
       rw[show(((l3 [105,102] k::bD [40] k::(fo k e++[bD [41] k]))++[bD [123] k])++(ki (k+(1:Nat)) aU++[bD [125] (k+(1:Nat)+ey aU),l3 [101,108,115,101] (k+(1:Nat)+ey aU),bD [123] (k+(1:Nat)+ey aU)]))++cU=l3 [105,102] k::bD [40] k::(fo k e++bD [41] k::bD [123] k::(ki (k+(1:Nat)) aU++bD [125] (k+(1:Nat)+ey aU)::l3 [101,108,115,101] (k+(1:Nat)+ey aU)::bD [123] (k+(1:Nat)+ey aU)::cU)) by simp];exact Pc aK aC (by omega) T)
     rw[show 2+ey aU+(j-(2+ey aU))=j by omega]at bJ;exact⟨_,_,_,bJ⟩
 termination_by d et=>(d,et.length)
def ha(k:Nat)(w:aD):Nat→aD→aD
 |_,[]=>[]
 |n,b::r=>if b=10 then(if n+1=k then 10::(w++10::ha k w (n+1) r) else 10::ha k w (n+1) r) else b::ha k w n r
theorem Et(k:Nat)(w:aD):∀(x y:aD) (n:Nat),ha k w n (x++y)=ha k w n x++ha k w (n+x.count 10) y
 |[],y,n=>by simp[ha]
 |b::r,y,n=>by
  by_cases T:b=10
  ·subst T;rw[List.cons_append,ha,ha,if_pos rfl,if_pos rfl,List.count_cons_self,Et k w r y (n+1),show n+1+r.count 10=n+(r.count 10+1) by omega];split<;>simp
  ·rw[List.cons_append,ha,ha,if_neg T,if_neg T,List.count_cons_of_ne (fun e=>T e),Et k w r y n];rfl
theorem HI(k:Nat)(w:aD):∀(x:aD) (n:Nat),k≤n→ha k w n x=x
 |[],n,h=>rfl
 |b::r,n,h=>by
  by_cases T:b=10
  ·subst T;rw[ha,if_pos rfl,if_neg (by omega),HI k w r (n+1) (by omega)]
  ·rw[ha,if_neg T,HI k w r n h]
theorem Ht(k:Nat)(w:aD):∀(x:aD) (n:Nat),n+x.count 10<k→ha k w n x=x
 |[],n,h=>rfl
 |b::r,n,h=>by
  by_cases T:b=10
  ·subst T;rw[List.count_cons_self]at h;rw[ha,if_pos rfl,if_neg (by omega),Ht k w r (n+1) (by omega)]
  ·rw[List.count_cons_of_ne (fun e=>T e)]at h;rw[ha,if_neg T,Ht k w r n h]
theorem PJ{k:Nat}{w a y:aD}(h:a.count 10+1=k):ha k w 0 (a++10::y)=a++10::(w++10::y):=by
 rw[Et,Ht k w a 0 (by omega),Nat.zero_add,ha,if_pos rfl,if_pos h,HI k w y _ (by omega)]
theorem PK(k:Nat)(w x:aD)(b:UInt8):ha k w 0 (x++[b])=ha k w 0 x++(if b=10 then(if x.count 10+1=k then 10::(w++[10]) else[10]) else[b]):=by
 rw[Et,Nat.zero_add]
 congr 1
theorem HB(k:Nat)(w:aD):∀(x:aD) (n:Nat),(ha k w n x).length≤x.length*(w.length+2)
 |[],n=>by simp[ha]
 |b::r,n=>by
  have A:=HB k w r (n+1);have S:=HB k w r n;rw[ha];simp only[List.length_cons,Nat.succ_mul];split
  ·split
   ·simp only[List.length_cons,List.length_append];omega
   ·simp only[List.length_cons];omega
  ·simp only[List.length_cons];omega
def pb(p:gS)(t:dO):List Tok:=l3 [104,97,114,116,115] 1::kV p.bS.toNat 1::(xO 2 p.c2++(v7 (2+p.c2.length) p.cv++Gc (2+p.c2.length+p.cv.length) t))
theorem NA{p:gS}{t:dO}(cp:1≤p.bS∧p.bS≤4)(S:∀ d∈p.c2,jO d=true)(ae:∀ d∈p.cv,jY d=true)(aC:js t=true){cU:List Tok}{n:Int}(h:mg 1 cU n):∃ f0,∀ f,f0≤f→BX f (pb p t++cU)=.bad 70 n:=by
 obtain⟨cd,cS,tu,Ec,acc⟩:=E0 aC;obtain⟨nm,T,ai,ac8,kf,iy⟩:=t;dsimp only at *;obtain⟨xV,rfl⟩:∃ k:Nat,ai=(k:Int):=⟨ai.toNat,by omega⟩;obtain⟨ej,rfl⟩:∃ k:Nat,ac8=(k:Int):=⟨ac8.toNat,by omega⟩;obtain⟨x3,rfl⟩:∃ k:Nat,kf=(k:Int):=⟨kf.toNat,by omega⟩;obtain⟨m,hm⟩:∃ m:Int,2+(p.c2.length:Int)+p.cv.length=m:=⟨_,rfl⟩;have er:xv [100,101,118,105,99,101] (Gc m ⟨nm,T,xV,ej,x3,iy⟩++cU)∧xv [114,101,115,111,117,114,99,101] (Gc m ⟨nm,T,xV,ej,x3,iy⟩++cU):=by
  cases T<;>exact⟨rfl,rfl⟩
 obtain⟨a,ai⟩:=acq p.c2 S 2 _ (aiX p.cv (2+p.c2.length) _ er.1);obtain⟨b,pY⟩:=acs p.cv ae (2+p.c2.length) _ er.2;obtain⟨c,aj⟩:=h;refine⟨max a (max b c)+3,fun f aZ=>?_⟩;obtain⟨f,rfl⟩:∃ g,f=g+3:=⟨f-3,by omega⟩;obtain⟨K6,bG,b3,ts⟩:=p;dsimp only at *;obtain⟨y,rfl⟩:∃ k:Nat,K6=(k:Int):=⟨K6.toNat,by omega⟩;have az:pb ⟨y,bG,b3,ts⟩ ⟨nm,T,xV,ej,x3,iy⟩++cU=l3 [104,97,114,116,115] 1::kV y 1::(xO 2 bG++(v7 (2+bG.length) b3++(Gc m ⟨nm,T,xV,ej,x3,iy⟩++cU))):=by
  rw[← hm];simp[pb]
 rw[az];show(oT (f+3) (xO 2 bG++(v7 (2+bG.length) b3++(Gc m ⟨nm,T,xV,ej,x3,iy⟩++cU)))).bind _=_;rw[ai (f+3) (by omega)];show(mS (f+3) _).bind _=_;rw[pY (f+3) (by omega)];show(nu (f+3) (Gc m ⟨nm,T,xV,ej,x3,iy⟩++cU)).bind _=_;have ab:=aj (f+1) (by omega);have RT:jL (f+2) 1 (bD [123] m::cU)=.bad 70 n:=by
  rw[jL];show(if 1000<1 then PR.bad Fc 1 else pF (f+1) 1 cU)=_;rw[if_neg (by omega),ab]
 rw[nu];cases T with
 |true =>
  show(((jL (f+2) 1 (bD [123] m::cU)).bind _).bind _).bind _=_;rw[RT];rfl
 |false =>
  show(((jL (f+2) 1 (bD [123] m::cU)).bind _).bind _).bind _=_;rw[RT];rfl
def oj(p:gS)(t:dO):aD:=dA 0 [[104,97,114,116,115,32],bs p.bS.toNat]++(p.c2.map ir).flatten++(p.cv.map iR).flatten++(if t.ga then dA 0 [[104,97,110,100,108,101,114],qN t,[32],bs t.line.toNat,[32,123]] else dA 0 [[116,97,115,107],qN t,[32,123]])
theorem QB{p:gS}{t:dO}{r:List dO}(h:p.db=t::r):lZ p=oj p t++(cJ 1 t.body++(dA 0 [[125]]++(r.map fh).flatten)):=by
 unfold lZ oj;rw[h];simp[fh]
theorem PI{p:gS}{t:dO}(cp:1≤p.bS∧p.bS≤4)(S:∀ d∈p.c2,jO d=true)(ae:∀ d∈p.cv,jY d=true)(aC:js t=true)(y:aD) :
  dc (oj p t++y) 1=fL (pb p t) (dc y (1+(2+p.c2.length+p.cv.length:Nat))):=by
 obtain⟨cd,cS,tu,Ec,acc⟩:=E0 aC;obtain⟨m,hm⟩:∃ m:Int,(1:Int)+1+p.c2.length+p.cv.length=m:=⟨_,rfl⟩;have ag:t.line.toNat<4294967296:=by omega
 have tail:dc ([123]++([10]++y)) m=fL [bD [123] m] (dc y (m+1)):=mr (by decide) (nW (by decide)) (q5 (Nw _).symm);have gh:dc ((if t.ga then dA 0 [[104,97,110,100,108,101,114],qN t,[32],bs t.line.toNat,[32,123]] else dA 0 [[116,97,115,107],qN t,[32,123]])++y) m=fL (Gc m t) (dc y (m+1)):=by
  cases T:t.ga with
  |true =>
   have az:(if true=true then dA 0 [[104,97,110,100,108,101,114],qN t,[32],bs t.line.toNat,[32,123]] else dA 0 [[116,97,115,107],qN t,[32,123]])++y=[104,97,110,100,108,101,114]++([32]++(t.name++([32]++(bs t.cB.toNat++([32]++(bs t.prio.toNat++([32]++(bs t.line.toNat++([32]++([123]++([10]++y))))))))))):=by simp[qN,dA,bR]
   rw[az];have:=uE (w:=[104,97,110,100,108,101,114]) (by decide) (jD (by decide)) (kg (vM cd (jD (by decide)) (kg (vN (n:=t.cB.toNat) (by omega) (jD (by decide)) (kg (vN (n:=t.prio.toNat) (by omega) (jD (by decide)) (kg (vN ag (jD (by decide)) (kg tail)))))))));rw[this]
   congr 1
   simp[Gc,T]
  |false =>
   have az:(if false=true then dA 0 [[104,97,110,100,108,101,114],qN t,[32],bs t.line.toNat,[32,123]] else dA 0 [[116,97,115,107],qN t,[32,123]])++y=[116,97,115,107]++([32]++(t.name++([32]++(bs t.cB.toNat++([32]++(bs t.prio.toNat++([32]++([123]++([10]++y))))))))):=by simp[qN,dA,bR]
   rw[az];have:=uE (w:=[116,97,115,107]) (by decide) (jD (by decide)) (kg (vM cd (jD (by decide)) (kg (vN (n:=t.cB.toNat) (by omega) (jD (by decide)) (kg (vN (n:=t.prio.toNat) (by omega) (jD (by decide)) (kg tail)))))));rw[this]
   congr 1
   simp[Gc,T]
 have az:oj p t++y=[104,97,114,116,115]++([32]++(bs p.bS.toNat++([10]++((p.c2.map ir).flatten++((p.cv.map iR).flatten++((if t.ga then dA 0 [[104,97,110,100,108,101,114],qN t,[32],bs t.line.toNat,[32,123]] else dA 0 [[116,97,115,107],qN t,[32,123]])++y)))))):=by simp[oj,dA,bR]
 rw[← hm]at gh;have:=uE (w:=[104,97,114,116,115]) (m:=1) (by decide) (jD (by decide)) (kg (vN (n:=p.bS.toNat) (by omega) (jD (by decide)) (q5 (abB p.c2 S _ _ _ _ (abC p.cv ae _ _ _ _ gh)))));rw[az,this];unfold pb;rw[show(1:Int)+1=2 from rfl]
 congr 2
 omega
theorem PH{p:gS}{t:dO}(S:∀ d∈p.c2,jO d=true)(ae:∀ d∈p.cv,jY d=true)(aC:js t=true):(oj p t).count 10=2+p.c2.length+p.cv.length∧∃ P,oj p t=P++[10]:=by
 obtain⟨cd,cS,tu,Ec,acc⟩:=E0 aC;have f1:=z6 (f:=ir) (l:=p.c2) fun d hd=>by
  have:=S d hd;simp only[jO,Bool.and_eq_true,decide_eq_true_eq]at this;obtain⟨a,b,c⟩:=this;have A:=lF a;have S:=LW ⟨d.n.toNat,by omega⟩;unfold ir;exact gz (by simp at S;simp[A,S])
 have f2:=z6 (f:=iR) (l:=p.cv) fun d hd=>by
  have:=ae d hd;simp only[jY,Bool.and_eq_true,decide_eq_true_eq]at this;obtain⟨a,b,c⟩:=this;have A:=lF a;have S:=lj d.n.toNat;unfold iR;exact gz (by simp[A,S])
 have aB:=lj p.bS.toNat;have f0:List.count 10 (dA 0 [[104,97,114,116,115,32],bs p.bS.toNat])=1:=gz (by simp[aB]);have A:=lF cd;have d1:=lj t.cB.toNat;have d2:=lj t.prio.toNat;have d3:=lj t.line.toNat;have f3:List.count 10 (if t.ga then dA 0 [[104,97,110,100,108,101,114],qN t,[32],bs t.line.toNat,[32,123]] else dA 0 [[116,97,115,107],qN t,[32,123]])=1:=by
  split
  ·exact gz (by simp[qN,A,d1,d2,d3])
  ·exact gz (by simp[qN,A,d1,d2])
 unfold oj;constructor
 ·simp only[List.count_append]at *;omega
 ·split
  ·obtain⟨P,ll⟩:=nF 0 [[104,97,110,100,108,101,114],qN t,[32],bs t.line.toNat,[32,123]];rw[ll,← List.append_assoc];exact⟨_,rfl⟩
  ·obtain⟨P,ll⟩:=nF 0 [[116,97,115,107],qN t,[32,123]];rw[ll,← List.append_assoc];exact⟨_,rfl⟩
theorem Nk{s:aD}{ts:List Tok}{m n:Int}(ag:s.length≤20000)(h:dc s 1=(ts,m,true))(T:∃ f0,∀ f,f0≤f→BX f (ts++[me m])=.bad 70 n):∃ k,sH k s=(xw,70,n):=by
 obtain⟨f0,aZ⟩:=T;refine⟨f0,?_⟩;have ax:ql (Eb f0) s=.bad 70 n:=by
  unfold ql;rw[Rf ag h];simp only[ne_eq,not_true,if_false];rw[Eb,aZ _ (by omega)];rfl
 unfold sH;rw[ax]
theorem PN{p:gS}(hp:mT p=true){t:dO}{r:List dO}(vh:p.db=t::r){j:Nat}(bn:j≤ey t.body) :
  ∃(a y:aD),lZ p=a++10::y∧a.count 10+1=2+p.c2.length+p.cv.length+j ∧
   (∀(w:aD) (iy:Int→Tok),(∀ m z,dc (w++([10]++z)) m=fL [iy m] (dc z (m+1)))→(∀ m,uF (iy m)∧dk [101,108,115,101] (iy m)=false∧(iy m).line=m)→(a++10::(w++10::y)).length≤20000 →
    ∃ k,sH k (a++10::(w++10::y))=(xw,70,((2+p.c2.length+p.cv.length+j+1:Nat):Int))) ∧
   ((a++10::(([101,108,115,101]:aD)++10::y)).length≤20000→∃ k kf,sH k (a++10::(([101,108,115,101]:aD)++10::y))=(xw,70,kf)):=by
 obtain⟨cp,S,ae,aB⟩:=UQ hp;rw[vh]at aB;have aC:=aB t (by simp);have hr:∀ x∈r,js x=true:=fun x af=>aB x (by simp[af]);obtain⟨cd,cS,tu,Ec,acc⟩:=E0 aC;obtain⟨dP,dJ,Y,c⟩:=r9 30 t.body acc 1 j bn;obtain⟨aj,P,ll⟩:=PH S ae aC;obtain⟨N,bH⟩:∃ N,2+p.c2.length+p.cv.length=N:=⟨_,rfl⟩;rw[bH]at aj ⊢;have Lr:=QB vh;rw[c.eq]at Lr
 -- the text up to the line
 obtain⟨a,ai⟩:∃ a,oj p t++dP=a++[10]:=by
  rcases Nat.eq_zero_or_pos j with h0|h0
  ·rw[c.nil h0,List.append_nil];exact⟨P,ll⟩
  ·obtain⟨bl,e⟩:=c.ends h0;rw[e,← List.append_assoc];exact⟨_,rfl⟩
 have Db:a.count 10+1=N+j:=by
  have:=congrArg (List.count 10) ai;rw[List.count_append,List.count_append,aj,c.Ax]at this;simp at this;omega
 obtain⟨n6,K3⟩:∃ n6,dJ++(dA 0 [[125]]++(r.map fh).flatten)=n6:=⟨_,rfl⟩;have Lo:∀ m:Int,∃ nU md,dc n6 m=(nU,md,true)∧dk [123] (hd (nU++[me md]))=false:=fun m=>by
  obtain⟨l8,ck,cm⟩:=c.xP m (dA 0 [[125]]++(r.map fh).flatten);have cb:=wB 0 (m+(ey t.body-j:Nat)) (r.map fh).flatten;have eC:=abD r hr [] (m+(ey t.body-j:Nat)+(1:Nat)) [] _ (Nw (dc [] (m+(ey t.body-j:Nat)+(1:Nat)+(BK r:Nat)))).symm;rw[List.append_nil]at eC;rw[eC,rp,adg]at cb;rw[cb,rp,K3]at ck;refine⟨l8++(bD [125] (m+(ey t.body-j:Nat))::nX (m+(ey t.body-j:Nat)+(1:Nat)) r),m+(ey t.body-j:Nat)+(1:Nat)+(BK r:Nat),ck.trans (by simp[fL]),?_⟩;rcases cm with cm|cm
  ·rw[cm];rfl
  ·cases l8 with
   |nil=>rfl
   |cons x xs=>exact cm
 have az:lZ p=a++10::n6:=by
  rw[Lr,← K3];have:oj p t++(dP++dJ++(dA 0 [[125]]++(r.map fh).flatten))=(oj p t++dP)++(dJ++(dA 0 [[125]]++(r.map fh).flatten)):=by simp
  rw[this,ai];simp
 have ak:∀ z,dc (a++10::z) 1=fL (pb p t++Y (1+N)) (dc z (1+N+j)):=fun z=>by
  have:a++10::z=oj p t++(dP++z):=by rw[← List.append_assoc,ai];simp
  rw[this,PI cp S ae aC,bH,c.xr,rp]
  
 refine⟨a,n6,az,Db,fun w iy ax tW ag=>?_,fun ag=>?_⟩
 ·obtain⟨nU,md,ck,_⟩:=Lo (1+N+j+1);have cm:=ak (w++([10]++n6));rw[ax,rp,ck]at cm;refine Nk (ts:=pb p t++(Y (1+N)++iy (1+N+j)::nU)) (m:=md) ag (by rw[show a++10::(w++10::n6)=a++10::(w++([10]++n6)) from rfl,cm];simp[fL]) ?_;have T:=c.parse (1+N) 1 (iy (1+N+j)) (nU++[me md]) (by omega) (tW _).1 (tW _).2.1;rw[(tW _).2.2]at T;obtain⟨f0,aZ⟩:=NA cp S ae aC T;refine⟨f0,fun f od=>?_⟩;have:=aZ f od;rw[show(pb p t++(Y (1+N)++iy (1+N+j)::nU))++[me md]=pb p t++(Y (1+N)++iy (1+N+j)::(nU++[me md])) by simp,this]
  congr 1;omega
 ·obtain⟨nU,md,ck,cb⟩:=Lo (1+N+j+1);have cm:=ak (([101,108,115,101]:aD)++([10]++n6));rw[uE (w:=[101,108,115,101]) (by decide) (jD (by decide)) (q5 (Nw _).symm),rp,ck]at cm;obtain⟨kf,T⟩:=c.wS (1+N) (1+N+j) 1 (nU++[me md]) (by omega) cb;obtain⟨f0,aZ⟩:=NA cp S ae aC T;obtain⟨k,ab⟩:=Nk (s:=a++10::(([101,108,115,101]:aD)++10::n6)) (ts:=pb p t++(Y (1+N)++l3 [101,108,115,101] (1+N+j)::nU)) (m:=md) (n:=kf) ag (by rw[show a++10::(([101,108,115,101]:aD)++10::n6)=a++10::(([101,108,115,101]:aD)++([10]++n6)) from rfl,cm];simp[fL]) ⟨f0,fun f od=>by
   have:=aZ f od;rw[show(pb p t++(Y (1+N)++l3 [101,108,115,101] (1+N+j)::nU))++[me md]=pb p t++(Y (1+N)++l3 [101,108,115,101] (1+N+j)::(nU++[me md])) by simp,this]⟩
  exact⟨k,kf,ab⟩
end Go.Eng.Sy
