/-
  Part of a proof of the laws of layer 07 (reader): what each function does.
  Conditions: none.
-/
import Derived.Test.YtjbjpooafphpnaaGreatDoorBc
set_option linter.unusedSimpArgs false
set_option linter.unusedVariables false
namespace Go.Eng
open Go
abbrev Row:=Value × Nat × List (ar)
def xJ (v w:Value):Prop:=∀ id n s,v = .slice (some ⟨id,0,none⟩) n s→da w id
structure Rows (n:Nat) (h:J) (l:List Row):Prop where
 own:∀ r ∈ l,cL (km n) h r.2.1 r.1 r.2.2
 sep:l.Pairwise fun a b=>xJ a.1 b.1∧xJ b.1 a.1
theorem cL.EW {n:Nat}{h:J}{s:Nat}{v:Value}{xs:List (ar)}(ai:cL (km n) h s v xs):∀ id m t,v = .slice (some ⟨id,0,none⟩) m t→n≤id∧(h.get id).isSome=true:=fun id m t e=>by
 rcases ai with ⟨rfl,_⟩ | ⟨pw,rfl,A,aA,_⟩
 ·cases e
 ·cases e;exact ⟨A,by rw [aA];rfl⟩
theorem cL.Uk {n:Nat}{h:J}{s:Nat}{v:Value}{xs:List (ar)}(ai:cL (km n) h s v xs){i:Nat}(au:h.next≤i):Go.Eng.da v i:=fun m t e=>by
 obtain ⟨_,S⟩:=ai.EW i m t e;obtain ⟨o,ah⟩:=Option.isSome_iff_exists.1 S;have:=J.bY ah;omega
theorem Rows.bP {n:Nat}{h D : J}{l:List Row}(aN:Rows n h l) (ab:∀ i,n≤i→(h.get i).isSome=true→D.get i=h.get i):Rows n D l :=
 ⟨fun r hr=>(aN.own r hr).get fun id ad ak=>ab id ((aN.own r hr).EW id _ _ ad).1 ak,aN.sep⟩
theorem Rows.push {n:Nat}{h:J}{l1 l2:List Row}{v:Value}{s:Nat}{xs:List (ar)}(aN:Rows n h (l1++(v,s,xs)::l2)) (hn:n≤h.next){x:ar}(af:x.length=s) (ak:0 < s){b:Nat}(T:(xs.length + 1) * b≤140737488355328) (dx:xs.length + 1≤9223372036854775807) :
  ∃ v' D,o1 s b (h.alloc (.aq x true)) [v,.slice (some ⟨h.next,0,none⟩) 1 s]=some (v',D)∧Rows n D (l1++(v',s,xs++[x])::l2)∧(∀ i,(h.get i).isSome=true→da v i→D.get i=h.get i)∧(∀ i,(h.get i).isSome=true→da v' i)∧h.next≤D.next:=by
 have ad:=aN.own (v,s,xs) (by simp);obtain ⟨v',D,qr,ah,_,ck,cm,jU⟩:=ad.yh (AB hn) af ak T dx;have Bn:=List.pairwise_append.1 aN.sep;have ZR:=List.pairwise_cons.1 Bn.2.1;have bP:∀ r,r ∈ l1∨r ∈ l2→cL (km n) D r.2.1 r.1 r.2.2:=fun r hr=>by
  have mK : r ∈ l1++(v,s,xs)::l2:=by rcases hr with hr | hr<;>simp [hr]
  have G2:xJ r.1 v:=by
   rcases hr with hr | hr
   ·exact (Bn.2.2 r hr (v,s,xs) (by simp)).1
   ·exact (ZR.1 r hr).2
  exact (aN.own r mK).get fun id fD e5=>ck id e5 (G2 id _ _ fD)
 have EP:∀ r,r ∈ l1∨r ∈ l2→xJ r.1 v' ∧ xJ v' r.1:=fun r hr=>by
  have mK : r ∈ l1++(v,s,xs)::l2:=by rcases hr with hr | hr<;>simp [hr]
  have A:xJ r.1 v':=fun id m t e=>cm id ((aN.own r mK).EW id m t e).2;refine ⟨A,fun id m t e m' mV cA=>?_⟩;exact A id m' mV cA m t e
 refine ⟨v',D,qr,⟨fun r hr=>?_,?_⟩,ck,cm,jU⟩
 ·rcases List.mem_append.1 hr with hr | hr
  ·exact bP r (.inl hr)
  ·rcases List.mem_cons.1 hr with rfl | hr
   ·exact ah
   ·exact bP r (.inr hr)
 ·refine List.pairwise_append.2 ⟨Bn.1,List.pairwise_cons.2 ⟨fun r hr=>?_,ZR.2⟩,fun a ai b T=>?_⟩
  ·have:=EP r (.inr hr);exact ⟨this.2,this.1⟩
  ·rcases List.mem_cons.1 T with rfl | T
   ·exact EP a (.inl ai)
   ·exact Bn.2.2 a ai b (by simp [T])
theorem Rows.da {n:Nat}{h:J}{l:List Row}(aN:Rows n h l){r:Row}(hr:r ∈ l){i:Nat}(au:i < n∨h.next≤i):Go.Eng.da r.1 i:=by
 rcases au with au | au
 ·exact cL.da (aN.own r hr) au
 ·exact cL.Uk (aN.own r hr) au
end Go.Eng
namespace Go.Eng.Sy
open Go Go.Eng Go.Proofs
theorem cL.e6 {n:Nat}{h:J}{s:Nat}{v:Value}{xs:List (ar)}(ai:cL (km n) h s v xs):gN v:=(cL.oY ai).e6
def tF (B:Nat→Prop) (h:J) (t:dO) (x:ar):Prop:=∃ v,x=[str t.name,.bool t.ga,I t.cB,I t.prio,I t.line,v]∧dN B h v t.body
def gp (B:Nat→Prop) (h:J):List dO→List (ar)→Prop
 | [],xs=>xs=[]
 | e::r,xs=>∃ x fJ,xs=x::fJ∧tF B h e x∧gp B h r fJ
theorem tF.to {B B' : Nat→Prop}{h D : J}(ab:J.cg B B' h D){t:dO}{x:ar}(af:tF B h t x):tF B' D t x:=let ⟨v,a,b⟩:=af;⟨v,a,b.to ab⟩
theorem gp.to {B B' : Nat→Prop}{h D : J}(ab:J.cg B B' h D):∀ {l:List dO}{xs:List (ar)},gp B h l xs→gp B' D l xs
 | [],_,af=>af
 | _::_,_,⟨x,fJ,A,S,ae⟩=>⟨x,fJ,A,S.to ab,gp.to ab ae⟩
theorem gp.length {B:Nat→Prop}{h:J}:∀ {l:List dO}{xs:List (ar)},gp B h l xs→xs.length=l.length
 | [],_,af=>by rw [show _=[] from af];rfl
 | _::_,_,⟨x,fJ,A,S,ae⟩=>by rw [A];simp [gp.length ae]
theorem gp.snoc {B:Nat→Prop}{h:J}{e:dO}{x:ar}(af:tF B h e x):∀ {l:List dO}{xs:List (ar)},gp B h l xs→gp B h (l++[e]) (xs++[x])
 | [],_,h0=>by rw [show _=[] from h0];exact ⟨x,[],rfl,af,rfl⟩
 | _::_,_,⟨y,Aj,A,S,ae⟩=>by rw [A];exact ⟨y,Aj++[x],rfl,S,gp.snoc af ae⟩
theorem gp.plain {B:Nat→Prop}{h:J}:∀ {l:List dO}{xs:List (ar)},gp B h l xs→oB h l xs
 | [],_,af=>af
 | _::_,_,⟨x,fJ,A,⟨v,S,aB⟩,ae⟩=>⟨x,fJ,A,⟨v,S,aB.plain⟩,gp.plain ae⟩
def fK (n:Nat) (vs:ar) (id:Nat):Prop:=n≤id ∧ ∀ v ∈ vs,da v id
abbrev eT (d:Nm):ar:=[str d.name,I d.n]
theorem iw.elem {B:Nat→Prop}{h:J}{v:Value}{l:List (aD)}(ad:iw B h v l){i:Nat}{s:aD}(au:l[i]? = some s) :
  ∃ id off cells own,oU 1 [v,I i]=some (aH id off)∧h.get id=some (.aq cells own)∧cells[off]? = some (str s)∧B id:=by
 have hp:=iw.plain ad;obtain ⟨id,off,cells,own,az,aL,bq,_⟩:=hp.elem au;refine ⟨id,off,cells,own,az,aL,bq,?_⟩;rcases ad with ⟨rfl,af⟩ | ⟨pw,eW,rfl,af⟩
 ·cases l with
  | nil=>simp at au
  | cons=>simp at af
 ·rcases af with af | ⟨T,_⟩
  ·cases l with
   | nil=>simp at au
   | cons=>simp at af
  ·have aV:=(List.getElem?_eq_some_iff.1 au).1;have:id=pw:=by
    simp [oU,aV] at az;exact az.1.symm
   rw [this];exact T
theorem gN.cell {v:Value}(h:gN v):v.cells.toList=[v]∧v.oneCell' = true:=by obtain ⟨_,_,_,rfl⟩:=h;exact ⟨rfl,rfl⟩
theorem Rows.e6 {n:Nat}{h:J}{l1 l2:List Row}{v:Value}{s:Nat}{xs:List (ar)}(aN:Rows n h (l1++(v,s,xs)::l2)):gN v:=cL.e6 (aN.own (v,s,xs) (by simp))
theorem I6 (m:aD) (k:Int):ie [aI,I 0] [(0,2)] 1 2 [ks m k]=some ([str m,I k],fun id=>.slice (some ⟨id,0,none⟩) 1 2):=uT rfl rfl rfl rfl
theorem X0 {G gT:Prop}(h:G→gT) (g:G):gT:=h g
theorem WE {v:Value}(ad:gN v):gQ [bx] [(0,1)] [v]=some (.agg #[v]):=by obtain ⟨_,_,_,rfl⟩:=ad;rfl
theorem WW {v:Value}(ad:gN v):nB [.agg #[v]]=some ([v],fun id=>(aH id 0)):=by obtain ⟨_,_,_,rfl⟩:=ad;rfl
theorem cT.e6 {h:J}{s:Nat}{v:Value}{xs:List (ar)}(ad:cT h s v xs):gN v:=by
 rcases ad with ⟨rfl,_⟩ | ⟨id,off,rfl,_⟩<;>exact ⟨_,_,_,rfl⟩
theorem cT.below {h:J}{s:Nat}{v:Value}{xs:List (ar)}(ad:cT h s v xs):dH (· < h.next) h s v xs:=by
 rcases ad with ad | ⟨id,off,ad,af⟩
 ·exact .inl ad
 ·refine .inr ⟨id,off,ad,af.imp (fun e=>e) fun ai=>⟨?_,ai⟩⟩;obtain ⟨_,_,aA,_⟩:=ai;exact J.bY aA
end Go.Eng.Sy
namespace Go.Eng
open Go
end Go.Eng
namespace Go.Eng.Sy
open Go Go.Eng Go.Proofs
theorem nr (s:List Int){n:Nat}(hn:0 < n):(bf s n).1 < n:=by
 cases s with
 | nil=>exact hn
 | cons z r =>
  show (pick z n).toNat < n;have:pick z n < (n:Int):=Int.tmod_lt_of_pos _ (by omega);omega
def Kk:Nat→Nat→aD
 | 0,n=>[UInt8.ofNat (48 + n % 10)]
 | f + 1,n=>if 10≤n then Kk f (n / 10)++[UInt8.ofNat (48 + n % 10)] else [UInt8.ofNat (48 + n % 10)]
theorem X1:∀ (f n:Nat),n < 10 ^ (f + 1)→bs n=Kk f n
 | 0,n,h=>by rw [bs,if_neg (by omega)];rfl
 | f + 1,n,h=>by
  rw [bs,Kk];split
  ·rw [X1 f (n / 10) (by rw [Nat.pow_succ] at h;omega)]
  ·rfl
def VA (k:Nat):aD:=if 10≤k then vK.getD (k % 10) []++Kk 2 k else vK.getD (k % 10) []
theorem ar8:(List.range 300).all (fun k=>de (VA k))=true:=by kernel_rfl
theorem ar9 {k:Nat}(ab:k < 300):de (Ex k)=true:=by
 have aK:Ex k=VA k:=by unfold Ex VA;rw [X1 2 k (by omega)]
 rw [aK];exact List.all_eq_true.1 ar8 k (List.mem_range.2 ab)
theorem ara (n:Int):de (Il n)=true:=ar9 (by
 show (pick n 300).toNat < 300;have:pick n 300 < 300:=Int.tmod_lt_of_pos _ (by omega);omega)
theorem zM {any:Bool}{s:List Int}{l:List (aD)}(ag:∀ m ∈ l,de m=true):de (eZ any s l).1=true:=by
 unfold eZ;split
 ·exact ara _
 ·rename_i h;simp only [Bool.or_eq_true,beq_iff_eq,not_or] at h;have:=nr s (n:=l.length) (by omega);show de (l.getD (bf s l.length).1 [])=true;rw [List.getD_eq_getElem?_getD,List.getElem?_eq_getElem this];exact ag _ (List.getElem_mem _)
structure fk.fm (c:fk):Prop where
 c2:∀ m ∈ c.c2,de m=true
 cv:∀ m ∈ c.cv,de m=true
 held:∀ m ∈ c.held,de m=true
theorem VI:∀ m ∈ qm,de m=true:=by decide
theorem aby (s:List Int) (d:Nat):e1 (xx s).1 (d + 1):=by
 refine .num _ d ?_;have A:=nr s (n:=10) (by omega);have S:=nr (bf s 10).2 (n:=300) (by omega);have ae:=nr (bf (bf s 10).2 300).2 (n:=4294967296) (by omega);have aB:=nr (bf (bf (bf s 10).2 300).2 4294967296).2 (n:=3) (by omega);generalize (bf (bf (bf (bf s 10).2 300).2 4294967296).2 3).1=k at *
 match k,aB with
 | 0,_=>show (bf s 10).1 < _;omega
 | 1,_=>show (bf (bf s 10).2 300).1 < _;omega
 | 2,_=>exact ae
theorem CL {c:fk}(aj:c.fm):∀ (d:Nat) (s:List Int),e1 (eG c d s).1 (d + 1)
 | 0,s=>aby _ _
 | d + 1,s=>by
  unfold eG;dsimp only;split
  ·exact aby _ _
  ·split
   ·exact .var _ _ (zM VI)
   ·split
    ·exact .one _ _ _ (by have:=nr (bf s 8).2 (n:=3) (by omega);omega) (CL aj d _)
    ·split
     ·exact .idx _ _ _ (zM aj.held) (CL aj d _)
     ·exact .two _ _ _ _ (by have:=nr (bf s 8).2 (n:=14) (by omega);omega) (CL aj d _) (CL aj d _)
theorem e1.mono:∀ {d bW : Nat}{e:aX},e1 e d→d≤bW → e1 e bW
 | d,0,e,h,aC=>by cases h<;>omega
 | d,bW + 1,e,h,aC=>by
  cases h with
  | num n d h=>exact .num n bW h
  | var m d h=>exact .var m bW h
  | one o a d h ai=>exact .one o a bW h (e1.mono ai (by omega))
  | two o a b d h ai T=>exact .two o a b bW h (e1.mono ai (by omega)) (e1.mono T (by omega))
  | idx m a d h ai=>exact .idx m a bW h (e1.mono ai (by omega))
theorem tP {c1:Type}{K:Nat}{f:c1→aD}:∀ {l:List c1},(∀ x ∈ l,(f x).length≤K)→((l.map f).flatten).length≤l.length * K
 | [],_=>by simp
 | a::r,h=>by
  have A:=h a (by simp);have S:=tP (l:=r) (f:=f) fun s ak=>h s (by simp [ak]);simp only [List.map_cons,List.flatten_cons,List.length_append,List.length_cons,Nat.succ_mul];omega
end Go.Eng.Sy
