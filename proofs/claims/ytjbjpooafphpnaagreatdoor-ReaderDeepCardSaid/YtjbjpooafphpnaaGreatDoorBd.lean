/-
  Part of a proof of the laws of layer 07 (reader): what each function does.
  Conditions: none.
-/
import Derived.Test.YtjbjpooafphpnaaGreatDoorBc
set_option linter.unusedSimpArgs false
set_option linter.unusedVariables false
namespace Go.Eng
open Go
abbrev Row:=Value × Nat × List (ar)
def xJ (v w:Value):Prop:=∀ id n s,v = .slice (some ⟨id,0,none⟩) n s→da w id
structure Rows (n:Nat) (h:J) (l:List Row):Prop where
 own:∀ r ∈ l,cL (km n) h r.2.1 r.1 r.2.2
 sep:l.Pairwise fun a b=>xJ a.1 b.1∧xJ b.1 a.1
theorem cL.EW {n:Nat}{h:J}{s:Nat}{v:Value}{xs:List (ar)}(ai:cL (km n) h s v xs):∀ id m t,v = .slice (some ⟨id,0,none⟩) m t→n≤id∧(h.get id).isSome=true:=fun id m t e=>by
 rcases ai with ⟨rfl,_⟩ | ⟨pw,rfl,A,aA,_⟩
 ·cases e
 ·cases e;exact ⟨A,by rw [aA];rfl⟩
theorem cL.Uk {n:Nat}{h:J}{s:Nat}{v:Value}{xs:List (ar)}(ai:cL (km n) h s v xs){i:Nat}(au:h.next≤i):Go.Eng.da v i:=fun m t e=>by
 obtain ⟨_,S⟩:=ai.EW i m t e;obtain ⟨o,ah⟩:=Option.isSome_iff_exists.1 S;have:=J.bY ah;omega
theorem Rows.bP {n:Nat}{h D : J}{l:List Row}(aN:Rows n h l) (ab:∀ i,n≤i→(h.get i).isSome=true→D.get i=h.get i):Rows n D l :=
 ⟨fun r hr=>(aN.own r hr).get fun id ad ak=>ab id ((aN.own r hr).EW id _ _ ad).1 ak,aN.sep⟩
theorem Rows.push {n:Nat}{h:J}{l1 l2:List Row}{v:Value}{s:Nat}{xs:List (ar)}(aN:Rows n h (l1++(v,s,xs)::l2)) (hn:n≤h.next){x:ar}(af:x.length=s) (ak:0 < s){b:Nat}(T:(xs.length + 1) * b≤140737488355328) (dx:xs.length + 1≤9223372036854775807) :
  ∃ v' D,o1 s b (h.alloc (.aq x true)) [v,.slice (some ⟨h.next,0,none⟩) 1 s]=some (v',D)∧Rows n D (l1++(v',s,xs++[x])::l2)∧(∀ i,(h.get i).isSome=true→da v i→D.get i=h.get i)∧(∀ i,(h.get i).isSome=true→da v' i)∧h.next≤D.next:=by
 have ad:=aN.own (v,s,xs) (by simp);obtain ⟨v',D,qr,ah,_,ck,cm,jU⟩:=ad.yh (AB hn) af ak T dx;have Bn:=List.pairwise_append.1 aN.sep;have ZR:=List.pairwise_cons.1 Bn.2.1;have bP:∀ r,r ∈ l1∨r ∈ l2→cL (km n) D r.2.1 r.1 r.2.2:=fun r hr=>by
  have mK : r ∈ l1++(v,s,xs)::l2:=by rcases hr with hr | hr<;>simp [hr]
  have G2:xJ r.1 v:=by
   rcases hr with hr | hr
   ·exact (Bn.2.2 r hr (v,s,xs) (by simp)).1
   ·exact (ZR.1 r hr).2
  exact (aN.own r mK).get fun id fD e5=>ck id e5 (G2 id _ _ fD)
 have EP:∀ r,r ∈ l1∨r ∈ l2→xJ r.1 v' ∧ xJ v' r.1:=fun r hr=>by
  have mK : r ∈ l1++(v,s,xs)::l2:=by rcases hr with hr | hr<;>simp [hr]
  have A:xJ r.1 v':=fun id m t e=>cm id ((aN.own r mK).EW id m t e).2;refine ⟨A,fun id m t e m' mV cA=>?_⟩;exact A id m' mV cA m t e
 refine ⟨v',D,qr,⟨fun r hr=>?_,?_⟩,ck,cm,jU⟩
 ·rcases List.mem_append.1 hr with hr | hr
  ·exact bP r (.inl hr)
  ·rcases List.mem_cons.1 hr with rfl | hr
   ·exact ah
   ·exact bP r (.inr hr)
 ·refine List.pairwise_append.2 ⟨Bn.1,List.pairwise_cons.2 ⟨fun r hr=>?_,ZR.2⟩,fun a ai b T=>?_⟩
  ·have:=EP r (.inr hr);exact ⟨this.2,this.1⟩
  ·rcases List.mem_cons.1 T with rfl | T
   ·exact EP a (.inl ai)
   ·exact Bn.2.2 a ai b (by simp [T])
theorem Rows.da {n:Nat}{h:J}{l:List Row}(aN:Rows n h l){r:Row}(hr:r ∈ l){i:Nat}(au:i < n∨h.next≤i):Go.Eng.da r.1 i:=by
 rcases au with au | au
 ·exact cL.da (aN.own r hr) au
 ·exact cL.Uk (aN.own r hr) au
end Go.Eng
namespace Go.Eng.Sy
open Go Go.Eng Go.Proofs
theorem cL.e6 {n:Nat}{h:J}{s:Nat}{v:Value}{xs:List (ar)}(ai:cL (km n) h s v xs):gN v:=(cL.oY ai).e6
def tF (B:Nat→Prop) (h:J) (t:dO) (x:ar):Prop:=∃ v,x=[str t.name,.bool t.ga,I t.cB,I t.prio,I t.line,v]∧dN B h v t.body
def gp (B:Nat→Prop) (h:J):List dO→List (ar)→Prop
 | [],xs=>xs=[]
 | e::r,xs=>∃ x fJ,xs=x::fJ∧tF B h e x∧gp B h r fJ
theorem tF.to {B B' : Nat→Prop}{h D : J}(ab:J.cg B B' h D){t:dO}{x:ar}(af:tF B h t x):tF B' D t x:=let ⟨v,a,b⟩:=af;⟨v,a,b.to ab⟩
theorem gp.to {B B' : Nat→Prop}{h D : J}(ab:J.cg B B' h D):∀ {l:List dO}{xs:List (ar)},gp B h l xs→gp B' D l xs
 | [],_,af=>af
 | _::_,_,⟨x,fJ,A,S,ae⟩=>⟨x,fJ,A,S.to ab,gp.to ab ae⟩
theorem gp.length {B:Nat→Prop}{h:J}:∀ {l:List dO}{xs:List (ar)},gp B h l xs→xs.length=l.length
 | [],_,af=>by rw [show _=[] from af];rfl
 | _::_,_,⟨x,fJ,A,S,ae⟩=>by rw [A];simp [gp.length ae]
theorem gp.snoc {B:Nat→Prop}{h:J}{e:dO}{x:ar}(af:tF B h e x):∀ {l:List dO}{xs:List (ar)},gp B h l xs→gp B h (l++[e]) (xs++[x])
 | [],_,h0=>by rw [show _=[] from h0];exact ⟨x,[],rfl,af,rfl⟩
 | _::_,_,⟨y,Aj,A,S,ae⟩=>by rw [A];exact ⟨y,Aj++[x],rfl,S,gp.snoc af ae⟩
theorem gp.plain {B:Nat→Prop}{h:J}:∀ {l:List dO}{xs:List (ar)},gp B h l xs→oB h l xs
 | [],_,af=>af
 | _::_,_,⟨x,fJ,A,⟨v,S,aB⟩,ae⟩=>⟨x,fJ,A,⟨v,S,aB.plain⟩,gp.plain ae⟩
def fK (n:Nat) (vs:ar) (id:Nat):Prop:=n≤id ∧ ∀ v ∈ vs,da v id
abbrev eT (d:Nm):ar:=[str d.name,I d.n]
theorem iw.elem {B:Nat→Prop}{h:J}{v:Value}{l:List (aD)}(ad:iw B h v l){i:Nat}{s:aD}(au:l[i]? = some s) :
  ∃ id off cells own,oU 1 [v,I i]=some (aH id off)∧h.get id=some (.aq cells own)∧cells[off]? = some (str s)∧B id:=by
 have bf:=iw.plain ad;obtain ⟨id,off,cells,own,az,aL,bq,_⟩:=bf.elem au;refine ⟨id,off,cells,own,az,aL,bq,?_⟩;rcases ad with ⟨rfl,af⟩ | ⟨pw,eW,rfl,af⟩
 ·cases l with
  | nil=>simp at au
  | cons=>simp at af
 ·rcases af with af | ⟨T,_⟩
  ·cases l with
   | nil=>simp at au
   | cons=>simp at af
  ·have aV:=(List.getElem?_eq_some_iff.1 au).1;have:id=pw:=by
    simp [oU,aV] at az;exact az.1.symm
   rw [this];exact T
theorem gN.cell {v:Value}(h:gN v):v.cells.toList=[v]∧v.oneCell' = true:=by obtain ⟨_,_,_,rfl⟩:=h;exact ⟨rfl,rfl⟩
theorem Rows.e6 {n:Nat}{h:J}{l1 l2:List Row}{v:Value}{s:Nat}{xs:List (ar)}(aN:Rows n h (l1++(v,s,xs)::l2)):gN v:=cL.e6 (aN.own (v,s,xs) (by simp))
theorem I6 (m:aD) (k:Int):ie [aI,I 0] [(0,2)] 1 2 [ks m k]=some ([str m,I k],fun id=>.slice (some ⟨id,0,none⟩) 1 2):=uT rfl rfl rfl rfl
theorem cT.e6 {h:J}{s:Nat}{v:Value}{xs:List (ar)}(ad:cT h s v xs):gN v:=by
 rcases ad with ⟨rfl,_⟩ | ⟨id,off,rfl,_⟩<;>exact ⟨_,_,_,rfl⟩
end Go.Eng.Sy
namespace Go.Eng
open Go
end Go.Eng
namespace Go.Eng.Sy
open Go Go.Eng Go.Proofs
theorem tP {c1:Type}{K:Nat}{f:c1→aD}:∀ {l:List c1},(∀ x ∈ l,(f x).length≤K)→((l.map f).flatten).length≤l.length * K
 | [],_=>by simp
 | a::r,h=>by
  have A:=h a (by simp);have S:=tP (l:=r) (f:=f) fun s ak=>h s (by simp [ak]);simp only [List.map_cons,List.flatten_cons,List.length_append,List.length_cons,Nat.succ_mul];omega
end Go.Eng.Sy
