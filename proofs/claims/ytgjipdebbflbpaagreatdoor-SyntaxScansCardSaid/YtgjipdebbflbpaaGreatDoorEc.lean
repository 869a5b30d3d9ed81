/-
  Part of a proof of the laws of layer 06 (syntax): an order-free machine for the code, and that it is sound.
  Conditions: none.
-/
import Derived.Test.YtgjipdebbflbpaaGreatDoorEb
import Derived.WalkKit
import Derived.ProofKit
import Derived.OpenShut
import Derived.JoinedCond
import Derived.Carry
import Derived.Deep.Slices
import Derived.KernelRfl
set_option linter.unusedSimpArgs false
set_option linter.unusedVariables false
namespace Go.Eng
open Go Go.ChangeShapes Go.WideShapes Go.ChangeAt Go.RowKit
variable {P:Program}{H:Type}{enc:TypeId × Value→H}
theorem WStep.below {w w' : World}(h:WStep w.heap.size w w'):Below w.heap.size w w':=⟨h.os,h.tape,h.output,h.size,h.low⟩
theorem WStep.kept {w w' : World}(h:WStep w.heap.size w w') (may:MemPlace→Prop):w.keptBut w' may:=by
 refine ⟨h.os,h.output,fun i hi=>?_⟩
 rw [h.low i hi]
 generalize w.heap[i]? = o
 cases o with
 | none=>rfl
 | some o=>cases o<;>first | exact ⟨rfl,rfl,rfl,fun _ _=>rfl⟩ | exact .inr ⟨rfl,rfl⟩ | rfl
theorem Zh (hl:laidOutB P=true){W W' : World}(hb:Below W.heap.size W W'){sp:Nat→Bool}:∀ {ts:List TypeId}{vs:List Value}{ds:List (DataW H)}{ps:List MemPlace},(∀ t ∈ ts,P.readableRec t=true∧t < P.types.size) →
  DataW.TrodAll enc P W 0 (fun _=>true) true ts vs ds ps→(∀ x ∈ ps,x.block < W.heap.size)→(∀ x ∈ ps,sp x.block=true)→DataW.TrodAll enc P W' 0 sp true ts vs ds ps
 | [],vs,ds,ps,_,h,_,_=>by
  obtain ⟨rfl,rfl,rfl⟩:=trodAll_nil h
  exact trodAll_mk0
 | t::ts,vs,ds,ps,ht,h,hlt,hsp=>by
  obtain ⟨v,vs',d,ds',p,q,rfl,rfl,rfl,h0,hr⟩:=trodAll_cons h
  have h1:=ht t (by simp)
  refine trodAll_cons_mk (WideElems.Trod_stays hl h1.1 h1.2 h0 (fun x hx=>hb.same (hlt x (by simp [hx]))) (fun x hx=>hsp x (by simp [hx]))) ?_
  exact Zh hl hb (fun t' ht'=>ht t' (by simp [ht'])) hr (fun x hx=>hlt x (by simp [hx])) (fun x hx=>hsp x (by simp [hx]))
theorem zz5 {f:Func}{s:ChangeSpec}{apart fresh handsOn again:Bool}{W W' : World}{args:Array Value}{ds gs:List (DataW H)}{before:List MemPlace}{tb:TypeId}(hl:laidOutB P=true) (hres:f.resultTypes = #[tb]) (htb:P.underlying tb=some .bool)
  (hp:∀ t ∈ f.params.toList,P.readableRec t=true∧t < P.types.size) (hv:s.vars=[])
  (hW:DataW.Whole enc P f.params.toList s.vars apart W args.toList ds gs before) (hsr:(s.fn H (ds++gs)).results=[.lit (.bool true)]) (hsa:(s.fn H (ds++gs)).args=ds) (hsv:(s.fn H (ds++gs)).vars=[])
  (hst:WStep W.heap.size W W'):s.post enc P f apart fresh handsOn again W args (.bool true) W':=by
 have hW2:=hW
 obtain ⟨p,q,hA,hV,rfl,hfz,hnd⟩:=hW
 rw [hv] at hV
 obtain ⟨rfl,rfl⟩:=trodVars_none hV
 have hlt:∀ x ∈ p++[],x.block < W.heap.size:=fun x hx=>hW2.lt x hx
 have hargs:∀ sp:Nat→Bool,(∀ x ∈ p++[],sp x.block=true)→DataW.TrodAll enc P W' 0 sp true f.params.toList args.toList (s.fn H (ds++[])).args p:=fun sp hsp=>by
  rw [hsa]
  exact Zh hl hst.below hp hA (fun x hx=>hlt x (by simp [hx])) (fun x hx=>hsp x (by simp [hx]))
 have hresd:∀ (b:Nat) (sp:Nat→Bool) (hd:Bool),DataW.TrodAll enc P W' b sp hd f.resultTypes.toList ((Value.bool true).resultList f.resultTypes.size) (s.fn H (ds++[])).results []:=fun b sp hd=>by
  rw [hres,hsr];exact trodAll_mk1 (shut_bool htb _)
 have hvars:∀ sp:Nat→Bool,DataW.TrodVars enc P W' sp s.vars (s.fn H (ds++[])).vars []:=fun sp=>by rw [hsv,hv];rfl
 have hold:∀ x ∈ p++[],(fun b=>decide (b < W.heap.size)) x.block=true:=fun x hx=>by simpa using hlt x hx
 refine ⟨ds,[],p++[],[],p,[],hW2,hresd _ _ _,hargs _ hold,hvars _,World.keptBut_mono (fun x hx=>⟨hx,.inr (by simpa using hx)⟩) (hst.kept _),fun _=>⟨ok_one hres rfl (okWide_bool_mk htb _),_,_,([]++p)++[],⟨[]++p,[],trodAll_append (hargs _ (fun _ _=>rfl)) (hresd _ _ _),hvars _,rfl,?_,?_⟩,?_⟩⟩
 ·intro b off hx
  have hx' : MemPlace.cell b off ∈ p++[]:=by simpa using hx
  rw [hst.froz _ (hlt _ hx')]
  exact hfz b off hx'
 ·intro ha
  simpa using hnd ha
 ·intro x hx _
  simpa using hx
abbrev Slot:=Option (AObj × Loc)
def vl (slots:List Slot):Heap where
 next:=slots.length
 get:=fun id=>((slots[id]?).join).map (·.1)
 wf:=fun id hid=>by simp [List.getElem?_eq_none hid]
def Wc (slots:List Slot):Ren:=fun id=>((slots[id]?).join).map (·.2)
def qp0 (W:World) (s:Slot):Prop:=∀ o l,s=some (o,l)→l.b < W.heap.size∧o.own=false ∧ ∀ ρ,ObjR W.heap.size ρ W l o
theorem Sim.start {W:World}{slots:List Slot}(hglob:Jn W.heap.size W) (h:∀ s ∈ slots,qp0 W s):Sim W.heap.size (vl slots).get (Wc slots) W:=by
 have key:∀ id o l,(vl slots).get id=some o→Wc slots id=some l→l.b < W.heap.size∧o.own=false ∧ ∀ ρ,ObjR W.heap.size ρ W l o:=by
  intro id o l h1 h2
  simp only [vl,Option.map_eq_some_iff] at h1
  simp only [Wc,Option.map_eq_some_iff] at h2
  obtain ⟨x,hx,rfl⟩:=h1
  obtain ⟨y,hy,rfl⟩:=h2
  rw [hx] at hy;cases hy
  rw [Option.join_eq_some_iff] at hx
  exact h _ (List.mem_of_getElem? hx) x.1 x.2 rfl
 have dom:∀ id,((vl slots).get id).isSome=(Wc slots id).isSome:=fun id=>by simp [vl,Wc]
 refine ⟨dom,Nat.le_refl _,fun id l hl=>?_,fun id o l hg hl=>(key id o l hg hl).2.2 _,fun i j oi oj li lj gi gj ri rj hne ho hd=>?_,hglob⟩
 ·have h1:=dom id
  rw [hl] at h1
  obtain ⟨o,ho⟩:=Option.isSome_iff_exists.1 h1
  exact (key id o l ho hl).1
 ·rw [(key i oi li gi ri).2.1] at ho;cases ho
theorem calls_of {f:FuncId}{W:World}{args:List Value}{slots:List Slot}{absArgs:List Value}(hglob:Jn W.heap.size W) (hs:∀ s ∈ slots,qp0 W s) (ha:VRs (Wc slots) absArgs args) (hc:CallW P f absArgs (vl slots) fun v _=>v = .bool true) :
  Calls P f args.toArray W fun e W'=>e = .returned (.bool true)∧WStep W.heap.size W W':=by
 obtain ⟨v,h',ht,rfl⟩:=hc
 have hfr:Fresh (Wc slots) (vl slots).next h'.next:=fun id h1 _=>by
  simp only [Wc];rw [List.getElem?_eq_none h1];rfl
 refine (ht.2.2 W.heap.size (vl slots).get (Wc slots) W args (fun _ _ h=>h) hfr (Sim.start hglob hs) ha).mono fun e W' ⟨v',ρ',he,hok⟩=>?_
 have:=hok.val.bool
 subst this
 exact ⟨he,hok.step⟩
def zh5 (P:Program) (e c:Nat):Prop:=∀ {H:Type}(enc:TypeId × Value→H) (W:World) (n:Nat) (cells:List Value) (x:DataW H × List MemPlace),DataW.trod enc P W 0 (fun _=>true) true n e cells=some x → ∃ l:List Int,l.length=c∧cells=l.map (.int .i64) ∧ ∀ z ∈ l,(Lit.int .i64 z).wf=true
theorem zh0 {e:TypeId}(he:P.underlying e=some (.int .i64)):zh5 P e 1:=fun enc W n cells x h=>by
 obtain ⟨z,rfl,_,hz⟩:=DataW.trod_int he h
 exact ⟨[z],rfl,rfl,by simpa using hz⟩
theorem chunks (c:Nat) (cells:List Value):∀ (n:Nat),(∀ i,i < n → ∃ l:List Int,l.length=c∧(cells.drop (i * c)).take c=l.map (.int .i64) ∧ ∀ z ∈ l,(Lit.int .i64 z).wf=true) →
  ∃ l:List Int,l.length=n * c∧cells.take (n * c)=l.map (.int .i64) ∧ ∀ z ∈ l,(Lit.int .i64 z).wf=true
 | 0,_=>⟨[],by simp,by simp,by simp⟩
 | n + 1,h=>by
  obtain ⟨l,h1,h2,h3⟩:=chunks c cells n fun i hi=>h i (by omega)
  obtain ⟨m,k1,k2,k3⟩:=h n (by omega)
  refine ⟨l++m,by rw [List.length_append,h1,k1,Nat.succ_mul],?_,?_⟩
  ·rw [Nat.succ_mul,List.take_add,h2,k2,List.map_append]
  ·intro z hz
   rcases List.mem_append.1 hz with hz | hz
   ·exact h3 z hz
   ·exact k3 z hz
def Qj (i n c:Nat) (isNil:Bool):Value:=if isNil then .slice none 0 0 else .slice (some ⟨i,0,none⟩) n c
theorem Qi (b off n:Nat):Addr.add ⟨b,off,none⟩ n=⟨b,off + n,none⟩:=by
 by_cases h:n=0
 ·subst h;simp [Addr.add]
 ·simp [Addr.add,h]
theorem zx1 {W:World}{t e:TypeId}{c:Nat}{v:Value}{d:DataW H}{p:List MemPlace}{r:Reach}{b0:Nat}(ht:P.underlying t=some (.slice e)) (hc:P.cellsOf e=c) (hc0:0 < c) (he:zh5 P e c) (hval:Value.okWide P W r b0 t v)
  (hd:DataW.Trod enc P W 0 (fun _=>true) true t v d p) :
  ∃ (n:Nat) (l:List Int) (isNil:Bool) (s:Slot),l.length=n * c∧(∀ z ∈ l,(Lit.int .i64 z).wf=true)∧(n:Int)≤9223372036854775807∧(isNil=true→n=0)∧qp0 W s∧(isNil=false → ∃ loc,s=some (.blk (l.map (.int .i64)) false,loc)) ∧
   ∀ (ρ:Ren) (i:Nat),ρ i=s.map (·.2)→VR ρ (Qj i n c isNil) v:=by
 have hval' : Cell.ok P W r b0 t v:=by
  simp only [Value.okWide,ht] at hval
  cases v<;>simpa [Cell.okWide,ht] using hval
 have hone:v.cells.toList=[v]:=by cases v<;>first | rfl | (simp [Cell.ok,ht] at hval';done)
 obtain ⟨fuel,hd⟩:=hd
 rw [hone] at hd
 rcases Deep.open_slice ht hd with ⟨h0,_⟩ | ⟨a,len,cap,m,n,D,Pl,h0,hb,hlc,hcm,hm,_,hx⟩
 ·have:v = .slice none 0 0:=by simpa using h0
  subst this
  exact ⟨0,[],true,none,by simp,by simp,by simp,fun _=>rfl,fun o l h=>by simp at h,fun h=>by simp at h,fun ρ i _=>VR.same _ rfl⟩
 ·have:v = .slice (some a) len cap:=by simpa using h0
  subst this
  simp only [Cell.ok,ht] at hval'
  obtain ⟨_,hcap,_,hspot,row,cells,hsh,_⟩:=hval'
  simp only [if_true] at hm
  subst hm
  unfold World.shape? at hsh
  split at hsh<;>first | (cases hsh;done) | skip
  rename_i cs el fz hheap
  obtain ⟨b,off,spot⟩:=a
  simp only at hspot hheap
  subst hspot
  rw [hc] at hx
  have hcell:∀ j,j < m * c → ∃ z,cs[off + j]? = some z:=by
   intro j hj
   have hi:j / c < m:=(Nat.div_lt_iff_lt_mul hc0).2 hj
   obtain ⟨cs',h1,_⟩:=hx (j / c) hi
   obtain ⟨_,hl,hcc⟩:=World.cells?_some h1
   have hjm:j % c < c:=Nat.mod_lt _ hc0
   have h2:=hcc (j % c) hjm
   rw [List.getElem?_eq_getElem (by omega),Qi,Qi,cell_of_row W b _ cs el fz hheap] at h2
   refine ⟨cs'[j % c]'(by omega),?_⟩
   ·have e1:off + j / c * c + j % c=off + j:=by rw [Nat.add_assoc,Nat.div_add_mod' j c]
    rw [e1] at h2
    exact h2
  have hsz:m=0∨off + m * c≤cs.size:=by
   rcases Nat.eq_zero_or_pos m with h | h
   ·exact .inl h
   ·right
    have h1:0 < m * c:=Nat.mul_pos h hc0
    obtain ⟨z,hz⟩:=hcell (m * c - 1) (by omega)
    have:=(Array.getElem?_eq_some_iff.1 hz).1
    omega
  have hch:∀ i,i < len → ∃ l:List Int,l.length=c∧((cs.toList.drop off).drop (i * c)).take c=l.map (.int .i64) ∧ ∀ z ∈ l,(Lit.int .i64 z).wf=true:=by
   intro i hi
   obtain ⟨cs',h1,h2⟩:=hx i (by omega)
   obtain ⟨l,k1,k2,k3⟩:=he enc W _ _ _ h2
   refine ⟨l,k1,?_,k3⟩
   rw [← k2]
   obtain ⟨_,hl,hcc⟩:=World.cells?_some h1
   apply List.ext_getElem?
   intro j
   by_cases hj:j < c
   ·have h3:=hcc j hj
    rw [Qi,Qi,cell_of_row W b _ cs el fz hheap] at h3
    rw [List.getElem?_take_of_lt hj,List.getElem?_drop,List.getElem?_drop,← h3]
    simp [Nat.add_assoc]
   ·rw [List.getElem?_eq_none (by simp;omega),List.getElem?_eq_none (by omega)]
  obtain ⟨l,k1,k2,k3⟩:=chunks c (cs.toList.drop off) len hch
  refine ⟨len,l,false,some (.blk (l.map (.int .i64)) false,⟨b,if m=0 then 0 else off,cs.size⟩),k1,k3,?_,fun h=>(Bool.false_ne_true h).elim,?_,fun _=>⟨_,rfl⟩,fun ρ i hρ=>?_⟩
  ·have:IntKind.i64.max=9223372036854775807:=rfl
   omega
  ·intro o loc h
   cases h
   refine ⟨(Array.getElem?_eq_some_iff.1 hheap).1,rfl,fun ρ=>⟨cs,el,fz,hheap,rfl,?_,fun i v hv=>?_,fun h=>by cases h⟩⟩
   ·simp only [List.length_map,k1]
    rcases hsz with h | h
    ·have:len=0:=by omega
     simp [h,this]
    ·have:len * c≤m * c:=Nat.mul_le_mul_right _ hlc
     split<;>omega
   ·have hil:i < len * c:=by
     have:=(List.getElem?_eq_some_iff.1 hv).1
     simpa [k1] using this
    have hm0:¬ m=0:=fun e=>by
     have:len=0:=by omega
     rw [this] at hil;omega
    simp only [hm0,if_false]
    have hint:∃ z:Int,v = .int .i64 z:=by
     have:=List.mem_of_getElem? hv
     obtain ⟨z,_,rfl⟩:=List.mem_map.1 this
     exact ⟨z,rfl⟩
    obtain ⟨z,rfl⟩:=hint
    rw [← k2,List.getElem?_take_of_lt hil,List.getElem?_drop] at hv
    exact ⟨_,by simpa using hv,.same _ rfl,rfl⟩
  ·refine .slice i 0 off len c m _ hρ hlc ?_
   by_cases hm0:m=0
   ·right;omega
   ·left
    simp only [hm0,if_false]
    rcases hsz with h | h
    ·exact absurd h hm0
    ·exact ⟨by simp,by simpa using h⟩
end Go.Eng
namespace Go.Eng
open Go
variable {P:Program}
def contW (P:Program) (r:List SOp) (ts env:List Value) (Q:List Value→Heap→Prop):List Nat→Value→Heap→Prop:=fun D v h=>RegW P r D (v::ts) env h Q
def zu9 (P:Program) (k:K) (q:Bool) (D:List Nat) (h:Heap) (Q:List Nat→Value→Heap→Prop):List Value→Prop:=fun vs=>ActW P k q D vs h Q
def opK (P:Program) (k:K) (args:List Arg) (q:Bool) (D:List Nat) (ts env:List Value) (h:Heap) (Q:List Nat→Value→Heap→Prop):Prop:=y5 (evs ts env args) (zu9 P k q D h Q)
def U9 (P:Program) (w:Bool) (k:K) (args:List Arg) (q:Bool) (D:List Nat) (ts env:List Value) (h:Heap) (Q:List Nat→Value→Heap→Prop):Value→Prop
 | .bool b=>(b=w→opK P k args q D ts env h Q)∧(b = !w→Q D undef h)
 | _=>Q D undef h
def zb2 (Q:Value→Heap→Prop) (h:Heap):Value→Prop:=fun v=>Q v h
def allocK (Q:Value→Heap→Prop) (h:Heap):List Value × (Nat→Value)→Prop:=fun r=>Q (r.2 h.next) (h.alloc (.blk r.1 true))
def zv3 (Q:Value→Heap→Prop):Value × Heap→Prop:=fun r=>Q r.1 r.2
def regQ (Q:AExit→List Value→Heap→Prop) (o:List (Nat × Nat)) (e:List Value):List Value→Heap→Prop:=fun ts h=>Q .normal (upd ts o e) h
def rcQ (P:Program) (N:Nat) (vars:List Nat) (Q:AExit→List Value→Heap→Prop) (o:List (Nat × Nat)) (e:List Value) (d:Nat) (a b:CCode):List Value→Heap→Prop:=fun ts h=>zc0 ts[d]? (W P N vars a Q (upd ts o e) h) (W P N vars b Q (upd ts o e) h)
def cndK (P:Program) (N:Nat) (vars:List Nat) (a b:CCode) (Q:AExit→List Value→Heap→Prop) (e:List Value) (h:Heap):Value→Prop
 | .bool c=>(c=true→W P N vars a Q e h)∧(c=false→W P N vars b Q e h)
 | _=>False
theorem zp8 (D:List Nat) (ts env:List Value) (h:Heap) (Q:List Value→Heap→Prop):RegW P [] D ts env h Q=Q ts h:=rfl
theorem U7 (j:Nat) (k:K) (args:List Arg) (q:Bool) (r:List SOp) (D:List Nat) (ts env:List Value) (h:Heap) (Q:List Value→Heap→Prop) :
  RegW P (⟨j,k,args,none,q⟩::r) D ts env h Q=y5 (evs ts env args) (zu9 P k q D h (contW P r ts env Q)):=rfl
theorem U6 (j:Nat) (k:K) (args:List Arg) (d:Nat) (w:Bool) (q:Bool) (r:List SOp) (D:List Nat) (ts env:List Value) (h:Heap) (Q:List Value→Heap→Prop) :
  RegW P (⟨j,k,args,some (d,w),q⟩::r) D ts env h Q=y5 ts[d]? (U9 P w k args q D ts env h (contW P r ts env Q)):=by
 simp only [RegW,OpW,yc5]
 cases ts[d]? with
 | none=>rfl
 | some v=>cases v<;>rfl
theorem Uf (r:List SOp) (D:List Nat) (ts env:List Value) (Q:List Value→Heap→Prop) (v:Value) (h:Heap):contW P r ts env Q D v h=RegW P r D (v::ts) env h Q:=rfl
section
variable (k:K) (args:List Arg) (q:Bool) (D:List Nat) (ts env:List Value) (h:Heap) (Q:List Nat→Value→Heap→Prop)
theorem yc6:U9 P true k args q D ts env h Q (.bool true)=y5 (evs ts env args) (zu9 P k q D h Q):=by simp [U9,opK]
theorem yc9:U9 P false k args q D ts env h Q (.bool false)=y5 (evs ts env args) (zu9 P k q D h Q):=by simp [U9,opK]
theorem yc7:U9 P true k args q D ts env h Q (.bool false)=Q D undef h:=by simp [U9]
theorem yc8:U9 P false k args q D ts env h Q (.bool true)=Q D undef h:=by simp [U9]
theorem K3 (w:Bool):U9 P w k args q D ts env h Q undef=Q D undef h:=rfl
theorem actK_p (k:PK) (vs:List Value):zu9 P (.p k) q D h Q vs=y5 (aP k vs) (zb2 (Q D) h):=rfl
theorem actK_r (k:RK) (vs:List Value):zu9 P (.r k) q D h Q vs=y5 (rdK D vs (aR k vs h.get)) (zb2 (Q D) h):=rfl
theorem actK_a (k:AK) (vs:List Value):zu9 P (.a k) q D h Q vs=y5 (aA k vs) (allocK (Q D) h):=rfl
theorem actK_w (k:WK) (vs:List Value):zu9 P (.w k) false D h Q vs=y5 (aW k vs h) (zv3 (Q D)):=rfl
theorem Vj (k:WK) (vs:List Value):zu9 P (.w k) true D h Q vs=y5 (aW k vs h) (zv3 (zq1 D h Q)):=rfl
theorem U3 (f:FuncId) (vs:List Value):zu9 P (.call f) false D h Q vs=CallW P f vs h (Q D):=rfl
theorem yf (f:FuncId) (vs:List Value):zu9 P (.call f) true D h Q vs=CallW P f vs h (zq1 D h Q):=rfl
theorem Xx (fv:Value) (args:List Value):zu9 P .callV false D h Q (fv::args)=ValW P fv args h (Q D):=rfl
theorem J5 (fv:Value) (args:List Value):zu9 P .callV true D h Q (fv::args)=ValW P fv args h (zq1 D h Q):=rfl
end
theorem zy9 (vs:List Value) (o:Option Value):rdK [] vs o=o:=by
 unfold rdK;split<;>simp
theorem zy8 (p:Nat) (D:List Nat) (a:Addr) (r:List Value) (o:Option Value):rdK (p::D) (.pointer (some a)::r) o=if a.block == p then none else rdK D (.pointer (some a)::r) o:=by
 simp only [rdK,blkOf,List.contains_cons]
 by_cases h:a.block == p<;>simp [h]
theorem Z5 {D:List Nat}{h h' : Heap}{Q:List Nat→Value→Heap→Prop}{v:Value}(he:h.ext h') (hq:Q D v h'):zq1 D h Q v h':=⟨D,fun _ h=>h,fun id o _ hg=>he id o hg,hq⟩
theorem Ub (Q:Value→Heap→Prop) (h:Heap) (v:Value):zb2 Q h v=Q v h:=rfl
theorem Xw (Q:Value→Heap→Prop) (h:Heap) (l:List Value) (m:Nat→Value):allocK Q h (l,m)=Q (m h.next) (h.alloc (.blk l true)):=rfl
theorem Kd (Q:Value→Heap→Prop) (v:Value) (h:Heap):zv3 Q (v,h)=Q v h:=rfl
theorem zj0 (Q:AExit→List Value→Heap→Prop) (o:List (Nat × Nat)) (e ts:List Value) (h:Heap):regQ Q o e ts h=Q .normal (upd ts o e) h:=rfl
section
variable {N:Nat}{vars:List Nat}{Q:AExit→List Value→Heap→Prop}{e:List Value}{h:Heap}
theorem zz0 (o:List (Nat × Nat)) (d:Nat) (a b:CCode) (ts:List Value):rcQ P N vars Q o e d a b ts h=y5 ts[d]? (cndK P N vars a b Q (upd ts o e) h):=by
 simp only [rcQ,zc0]
 cases ts[d]? with
 | none=>rfl
 | some v=>cases v<;>rfl
theorem cndK_t (a b:CCode):cndK P N vars a b Q e h (.bool true)=W P N vars a Q e h:=by simp [cndK]
theorem cndK_f (a b:CCode):cndK P N vars a b Q e h (.bool false)=W P N vars b Q e h:=by simp [cndK]
theorem W_skip:W P N vars .skip Q e h=Q .normal e h:=rfl
theorem W_reg (s:List SOp) (o:List (Nat × Nat)):W P N vars (.reg s o) Q e h=RegW P s [] [] e h (regQ Q o e):=rfl
theorem W_seq (a b:CCode):W P N vars (.seq a b) Q e h=W P N vars a (Qp (W P N vars b Q) Q) e h:=rfl
theorem qo7 (s:List SOp) (o:List (Nat × Nat)) (d:Nat) (a b:CCode):W P N vars (.rcond s o d a b) Q e h=RegW P s [] [] e h (rcQ P N vars Q o e d a b):=rfl
theorem W_cond (x:Arg) (a b:CCode):W P N vars (.cond x a b) Q e h=y5 (x.ev [] e) (cndK P N vars a b Q e h):=by
 simp only [W,zc0]
 cases x.ev [] e with
 | none=>rfl
 | some v=>cases v<;>rfl
theorem qo8 (id:Nat) (c:CCode):W P N vars (.block id c) Q e h=W P N vars c (ul id Q) e h:=rfl
theorem W_loop (c:CCode):W P N vars (.loop c) Q e h=LoopW P N vars c e h Q:=rfl
theorem zh2 (c:CCode):W P N vars (.scope c) Q e h=W P N vars c Q e h:=rfl
theorem zh3:W P N vars .label Q e h=Q .normal e h:=rfl
theorem W_exit (id:Nat):W P N vars (.exit id) Q e h=Q (.exit id) e h:=rfl
theorem W_ret:W P N vars .ret Q e h=Q .ret e h:=rfl
theorem Yi (next:List Value→Heap→Prop):Qp next Q .normal e h=next e h:=rfl
theorem Kh (next:List Value→Heap→Prop) (i:Nat):Qp next Q (.exit i) e h=Q (.exit i) e h:=rfl
theorem Vo (next:List Value→Heap→Prop):Qp next Q .ret e h=Q .ret e h:=rfl
theorem Z0 (id:Nat):ul id Q .normal e h=Q .normal e h:=rfl
theorem Xt (id:Nat):ul id Q .ret e h=Q .ret e h:=rfl
theorem J2 (id:Nat):ul id Q (.exit id) e h=Q .normal e h:=by simp [ul]
theorem J3 (id i:Nat) (hi:(i == id)=false):ul id Q (.exit i) e h=Q (.exit i) e h:=by
 have:i≠id:=by simpa using hi
 simp [ul,this]
end
end Go.Eng
namespace Go.Eng
open Go
variable {P:Program}
def ret1 (k:Nat) (Q:Value→Heap→Prop):AExit→List Value→Heap→Prop
 | .exit _,_,_=>False
 | .normal,e,h=>y5 e[k]? fun v=>Q v h
 | .ret,e,h=>y5 e[k]? fun v=>Q v h
theorem zi8 (k:Nat) (Q:Value→Heap→Prop) (e:List Value) (h:Heap):ret1 k Q .ret e h=y5 e[k]? (zb2 Q h):=rfl
theorem Q4 (k:Nat) (Q:Value→Heap→Prop) (e:List Value) (h:Heap):ret1 k Q .normal e h=y5 e[k]? (zb2 Q h):=rfl
def ret0 (Q:Value→Heap→Prop):AExit→List Value→Heap→Prop
 | .exit _,_,_=>False
 | .normal,_,h=>Q (.tuple #[]) h
 | .ret,_,h=>Q (.tuple #[]) h
theorem zi9 (Q:Value→Heap→Prop) (e:List Value) (h:Heap):ret0 Q .ret e h=Q (.tuple #[]) h:=rfl
theorem Q5 (Q:Value→Heap→Prop) (e:List Value) (h:Heap):ret0 Q .normal e h=Q (.tuple #[]) h:=rfl
def ret2 (k j:Nat) (Q:Value→Heap→Prop):AExit→List Value→Heap→Prop
 | .exit _,_,_=>False
 | .normal,e,h=>y5 e[k]? fun v=>y5 e[j]? fun u=>Q (.tuple #[v,u]) h
 | .ret,e,h=>y5 e[k]? fun v=>y5 e[j]? fun u=>Q (.tuple #[v,u]) h
theorem W.mono {N:Nat}{vars:List Nat}{c:CCode}{e:List Value}{h:Heap}{Q Q' : AExit→List Value→Heap→Prop}(hq:∀ x e h,Q x e h→Q' x e h) (hw:qp7 P N vars c e h Q):qp7 P N vars c e h Q' :=
 let ⟨x,e',h',t,q⟩:=hw;⟨x,e',h',t,hq _ _ _ q⟩
theorem ue {f:FuncId}{cf:CFn}(hf:FnOk P f cf){args:List Value}{h:Heap}{Q:Value→Heap→Prop}(hn:args.length=cf.nargs) (hb:∀ N,qp7 P N cf.vars cf.body (yj cf args) h (RetQ cf h.next Q)):CallW P f args h Q:=by
 have hf':=hf
 obtain ⟨fn,code,h1,h2,h3⟩:=hf.fn
 obtain ⟨x,e',h',ht,hq⟩:=hb fn.ntmps
 have fin' : (x = .normal∨x = .ret)→y5 (jg e' (fin cf.body.noRange h.next h') cf.results) (fun vs=>Q (qk vs) (fin cf.body.noRange h.next h'))→CallW P f args h Q:=by
  intro hx hr
  cases hres:jg e' (fin cf.body.noRange h.next h') cf.results with
  | none=>rw [hres] at hr;exact hr.elim
  | some vs =>
   rw [hres] at hr
   exact ⟨qk vs,_,CallT.of_body_at hf' hn h1 ⟨x,e',vs,h',ht,hx,rfl,hres,rfl⟩,hr⟩
 cases x with
 | normal=>exact fin' (.inl rfl) hq
 | ret=>exact fin' (.inr rfl) hq
 | exit i=>exact hq.elim
theorem zh {f:FuncId}{cf:CFn}(hf:FnOk P f cf){args:List Value}{h:Heap}{Q:Value→Heap→Prop}{k:Nat}(hnr:cf.body.noRange=true) (hr:cf.results=[.var k]) (hn:args.length=cf.nargs)
  (hb:∀ N,W P N cf.vars cf.body (ret1 k Q) (yj cf args) h):CallW P f args h Q:=by
 refine ue hf hn fun N=>W.mono ?_ (hb N).sound
 intro x e h' hq
 have key:y5 e[k]? (fun v=>Q v h')→y5 (jg e (fin cf.body.noRange h.next h') cf.results) fun vs=>Q (qk vs) (fin cf.body.noRange h.next h'):=by
  intro hq
  rw [hnr,hr]
  cases he:e[k]? with
  | none=>rw [he] at hq;exact hq.elim
  | some v=>rw [he] at hq;simpa [jg,ResArg.get,he,y5,qk,fin] using hq
 cases x with
 | exit i=>exact hq.elim
 | normal=>exact key hq
 | ret=>exact key hq
theorem uf {f:FuncId}{cf:CFn}(hf:FnOk P f cf){args:List Value}{h:Heap}{Q:Value→Heap→Prop}(hnr:cf.body.noRange=true) (hr:cf.results=[]) (hn:args.length=cf.nargs)
  (hb:∀ N,W P N cf.vars cf.body (ret0 Q) (yj cf args) h):CallW P f args h Q:=by
 refine ue hf hn fun N=>W.mono ?_ (hb N).sound
 intro x e h' hq
 cases x with
 | exit i=>exact hq.elim
 | normal=>simp only [RetQ,hnr,hr,jg,y5,qk,fin];exact hq
 | ret=>simp only [RetQ,hnr,hr,jg,y5,qk,fin];exact hq
end Go.Eng
namespace Go.Eng
open Go
variable {P:Program}
structure Heap.le (h h' : Heap):Prop where
 sub:h.sub h'
 next:h.next≤h'.next
theorem Heap.le.refl (h:Heap):h.le h:=⟨fun _ _ h=>h,Nat.le_refl _⟩
theorem Heap.le.trans {a b c:Heap}(h:a.le b) (h' : b.le c):a.le c:=⟨fun id o e=>h'.sub id o (h.sub id o e),Nat.le_trans h.next h'.next⟩
theorem Heap.le.alloc {a b:Heap}(h:a.le b) (o:AObj):a.le (b.alloc o):=h.trans ⟨fun id o' e=>by rw [Heap.get_alloc_lt (Heap.lt_of_get e)];exact e,by simp⟩
theorem Heap.le.set {a b:Heap}(h:a.le b){i:Nat}(hi:a.next≤i) (o:AObj):a.le (b.set i o):=⟨fun id o' e=>by
 have:=Heap.lt_of_get e
 rw [Heap.get_set,if_neg (by omega)];exact h.sub id o' e,h.next⟩
theorem Heap.le.get {a b:Heap}(h:a.le b){i:Nat}{o:AObj}(e:a.get i=some o):b.get i=some o:=h.sub i o e
theorem Heap.le.sweep {a b:Heap}(h:a.le b):a.le (b.sweep a.next):=⟨fun id o e=>by
 have hl:=Heap.lt_of_get e
 have:=h.sub id o e
 rcases b.sweep_get a.next id with e' | ⟨_,_,e'⟩
 ·rw [e'];exact this
 ·omega,h.next⟩
theorem Heap.le.getE {a b:Heap}(h:a.le b) (i:Nat) (hs:(a.get i).isSome=true):b.get i=a.get i:=by
 obtain ⟨o,ho⟩:=Option.isSome_iff_exists.1 hs
 rw [ho];exact h.sub _ _ ho
theorem Heap.alloc_getE (h:Heap) (o:AObj) (i:Nat) (hs:(h.get i).isSome=true):(h.alloc o).get i=h.get i:=by
 obtain ⟨o',ho⟩:=Option.isSome_iff_exists.1 hs
 exact Heap.get_alloc_lt (Heap.lt_of_get ho)
theorem Heap.set_getE (h:Heap) (o:AObj) (i j:Nat) (hs:(j == i)=false):(h.set i o).get j=h.get j:=by
 rw [Heap.get_set,if_neg];intro e;simp [e.1] at hs
theorem Heap.set_getS (h:Heap) (o:AObj) (i:Nat) (hs:(h.get i).isSome=true):(h.set i o).get i=some o:=by
 obtain ⟨o',ho⟩:=Option.isSome_iff_exists.1 hs
 rw [Heap.get_set,if_pos ⟨rfl,Heap.lt_of_get ho⟩]
structure Heap.leBut (i:Nat) (h h' : Heap):Prop where
 get:∀ j,j≠i→(h.get j).isSome=true→h'.get j=h.get j
 next:h.next≤h'.next
theorem Heap.le.but {h h' : Heap}(hl:h.le h') (i:Nat):h.leBut i h':=⟨fun j _ hs=>hl.getE j hs,hl.next⟩
theorem Heap.leBut.refl (i:Nat) (h:Heap):h.leBut i h:=⟨fun _ _ _=>rfl,Nat.le_refl _⟩
theorem Heap.leBut.trans {i:Nat}{a b c:Heap}(h:a.leBut i b) (h' : b.leBut i c):a.leBut i c :=
 ⟨fun j hj hs=>by rw [h'.get j hj (by rw [h.get j hj hs];exact hs),h.get j hj hs],Nat.le_trans h.next h'.next⟩
theorem Heap.leBut.set (i:Nat) (h:Heap) (o:AObj):h.leBut i (h.set i o):=⟨fun j hj _=>Heap.set_getE _ _ _ _ (by simpa using hj),Nat.le_refl _⟩
theorem Heap.leBut.le {i:Nat}{a b c:Heap}(hl:a.le b) (hi:a.next≤i) (hb:b.leBut i c):a.le c :=
 ⟨fun id o e=>by
  have h1:=hl.get e
  have h2:=Heap.lt_of_get e
  rw [hb.get id (by omega) (by rw [h1];rfl)];exact h1,Nat.le_trans hl.next hb.next⟩
def At (h:Heap) (id off s:Nat) (xs:List (List Value)):Prop :=
 ∃ cells own,h.get id=some (.blk cells own) ∧ ∀ (i:Nat) x,xs[i]? = some x→x.length=s∧off + i * s + s≤cells.length∧(cells.drop (off + i * s)).take s=x
def SlV (h:Heap) (s:Nat) (v:Value) (xs:List (List Value)):Prop :=
 (v = .slice none 0 0∧xs=[]) ∨ ∃ id off,v = .slice (some ⟨id,off,none⟩) xs.length s∧(xs=[]∨At h id off s xs)
theorem At.mono {h h' : Heap}(hl:h.le h'){id off s:Nat}{xs:List (List Value)}(ha:At h id off s xs):At h' id off s xs :=
 let ⟨c,o,hg,hx⟩:=ha;⟨c,o,hl.get hg,hx⟩
theorem SlV.mono {h h' : Heap}(hl:h.le h'){s:Nat}{v:Value}{xs:List (List Value)}(ha:SlV h s v xs):SlV h' s v xs:=by
 rcases ha with ha | ⟨id,off,hv,ha⟩
 ·exact .inl ha
 ·exact .inr ⟨id,off,hv,ha.imp (fun e=>e) (·.mono hl)⟩
theorem SlV.len {h:Heap}{s:Nat}{v:Value}{xs:List (List Value)}(ha:SlV h s v xs):ve [v]=some (.int .i64 xs.length):=by
 rcases ha with ⟨rfl,rfl⟩ | ⟨id,off,rfl,_⟩<;>rfl
theorem SlV.elem {h:Heap}{s:Nat}{v:Value}{xs:List (List Value)}(ha:SlV h s v xs){i:Nat}{x:List Value}(hi:xs[i]? = some x) :
  ∃ id off cells own,yi s [v,.int .i64 i]=some (.pointer (some ⟨id,off,none⟩))∧h.get id=some (.blk cells own)∧yy true off s cells=some (.agg x.toArray) ∧ ∀ j,j < s→cells[off + j]? = x[j]?:=by
 have hlt:=(List.getElem?_eq_some_iff.1 hi).1
 rcases ha with ⟨rfl,rfl⟩ | ⟨id,off,rfl,ha⟩
 ·simp at hi
 ·rcases ha with rfl | ⟨cells,own,hg,hx⟩
  ·simp at hi
  ·obtain ⟨h1,h2,h3⟩:=hx i x hi
   refine ⟨id,off + i * s,cells,own,?_,hg,?_,fun j hj=>?_⟩
   ·simp [yi,hlt]
   ·simp [yy,h2,h3]
   ·rw [← h3,List.getElem?_take_of_lt hj,List.getElem?_drop]
theorem SlV.part {h:Heap}{s:Nat}{v:Value}{xs:List (List Value)}(ha:SlV h s v xs){a b:Nat}(hab:a≤b) (hb:b≤xs.length) :
  ∃ w,xm s true true [v,.int .i64 a,.int .i64 b]=some w∧SlV h s w ((xs.take b).drop a):=by
 rcases ha with ⟨rfl,rfl⟩ | ⟨id,off,rfl,ha⟩
 ·simp only [List.length_nil,Nat.le_zero_eq] at hb
  subst hb
  have:a=0:=by omega
  subst this
  exact ⟨_,by simp [xm,U0],.inl ⟨rfl,by simp⟩⟩
 ·refine ⟨.slice (some ⟨id,off + a * s,none⟩) (b - a) s,?_,.inr ⟨id,off + a * s,?_,?_⟩⟩
  ·simp only [xm,if_true,U0]
   rw [if_pos (by omega)]
   simp
  ·simp [Nat.min_eq_left hb]
  ·rcases ha with rfl | ⟨cells,own,hg,hx⟩
   ·left;simp
   ·right
    refine ⟨cells,own,hg,fun i x hi=>?_⟩
    rw [List.getElem?_drop,List.getElem?_take] at hi
    split at hi
    ·obtain ⟨h1,h2,h3⟩:=hx _ _ hi
     rw [Nat.add_mul,← Nat.add_assoc] at h2 h3
     exact ⟨h1,h2,h3⟩
    ·cases hi
theorem SlV.partHi {h:Heap}{s:Nat}{v:Value}{xs:List (List Value)}(ha:SlV h s v xs){b:Nat}(hb:b≤xs.length) :
  ∃ w,xm s false true [v,.int .i64 b]=some w∧SlV h s w (xs.take b):=by
 obtain ⟨w,h1,h2⟩:=ha.part (Nat.zero_le b) hb
 refine ⟨w,?_,by simpa using h2⟩
 rw [← h1]
 rcases ha with ⟨rfl,rfl⟩ | ⟨id,off,rfl,ha⟩<;>simp [xm,U0]
def OwnS (h0 h:Heap) (s:Nat) (v:Value) (xs:List (List Value)):Prop :=
 (v = .slice none 0 0∧xs=[]) ∨ ∃ id,v = .slice (some ⟨id,0,none⟩) xs.length s∧h0.next≤id∧h.get id=some (.blk xs.flatten true)∧(∀ x ∈ xs,x.length=s)
theorem OwnS.mono {h0 h h' : Heap}(hl:h.le h'){s:Nat}{v:Value}{xs:List (List Value)}(ha:OwnS h0 h s v xs):OwnS h0 h' s v xs:=by
 rcases ha with ha | ⟨id,hv,hi,hg,hx⟩
 ·exact .inl ha
 ·exact .inr ⟨id,hv,hi,hl.get hg,hx⟩
theorem OwnS.weak {h0 h1 h:Heap}(hl:h0.next≤h1.next){s:Nat}{v:Value}{xs:List (List Value)}(ha:OwnS h1 h s v xs):OwnS h0 h s v xs:=by
 rcases ha with ha | ⟨id,hv,hi,hg,hx⟩
 ·exact .inl ha
 ·exact .inr ⟨id,hv,Nat.le_trans hl hi,hg,hx⟩
theorem OwnS.nil (h0 h:Heap) (s:Nat):OwnS h0 h s (.slice none 0 0) []:=.inl ⟨rfl,rfl⟩
theorem yo {s:Nat}:∀ {xs:List (List Value)},(∀ x ∈ xs,x.length=s) → ∀ (i:Nat) x,xs[i]? = some x→i * s + s≤xs.flatten.length∧(xs.flatten.drop (i * s)).take s=x
 | [],_,i,x,h=>by simp at h
 | y::ys,hx,0,x,h=>by
  simp only [List.getElem?_cons_zero,Option.some.injEq] at h
  subst h
  have:=hx y (by simp)
  subst this
  simp
 | y::ys,hx,i + 1,x,h=>by
  simp only [List.getElem?_cons_succ] at h
  obtain ⟨h1,h2⟩:=yo (fun x hx'=>hx x (by simp [hx'])) i x h
  have:=hx y (by simp)
  subst this
  refine ⟨by rw [List.flatten_cons,List.length_append,Nat.succ_mul];omega,?_⟩
  have e:(i + 1) * y.length=y.length + i * y.length:=by rw [Nat.succ_mul,Nat.add_comm]
  rw [List.flatten_cons,e,List.drop_append,List.drop_eq_nil_of_le (by omega)]
  simpa using h2
theorem wl {s:Nat}:∀ {xs:List (List Value)},(∀ x ∈ xs,x.length=s)→xs.flatten.length=xs.length * s
 | [],_=>by simp
 | y::ys,hx=>by
  rw [List.flatten_cons,List.length_append,wl (fun x hx'=>hx x (by simp [hx'])),hx y (by simp),List.length_cons,Nat.succ_mul,Nat.add_comm]
theorem OwnS.sl {h0 h:Heap}{s:Nat}{v:Value}{xs:List (List Value)}(ha:OwnS h0 h s v xs):SlV h s v xs:=by
 rcases ha with ha | ⟨id,hv,hi,hg,hx⟩
 ·exact .inl ha
 ·refine .inr ⟨id,0,hv,.inr ⟨_,_,hg,fun i x h=>?_⟩⟩
  obtain ⟨h1,h2⟩:=yo hx i x h
  exact ⟨hx x (List.mem_of_getElem? h),by omega,by simpa using h2⟩
def notOf (v:Value) (i:Nat):Prop:=∀ n s,v ≠ .slice (some ⟨i,0,none⟩) n s
theorem OwnS.append1 {h0 h:Heap}{s:Nat}{v:Value}{xs:List (List Value)}(ha:OwnS h0 h s v xs) (hle:h0.le h){x:List Value}(hx:x.length=s) (hs:0 < s){b:Nat}(hb:(xs.length + 1) * b≤140737488355328) (hb2:xs.length + 1≤9223372036854775807) :
  ∃ v' h',jb s b (h.alloc (.blk x true)) [v,.slice (some ⟨h.next,0,none⟩) 1 s]=some (v',h')∧OwnS h0 h' s v' (xs++[x])∧h0.le h' ∧ (∀ i,(h.get i).isSome=true→notOf v i→h'.get i=h.get i)∧(∀ i,(h.get i).isSome=true→notOf v' i)∧h.next≤h'.next:=by
 have hsrc:qh s (h.alloc (.blk x true)) (.slice (some ⟨h.next,0,none⟩) 1 s)=some x:=by
  subst hx
  simp [qh]
 have hdiv:x.length / s=1:=by rw [hx];exact Nat.div_self hs
 rcases ha with ⟨rfl,rfl⟩ | ⟨id,rfl,hi,hg,hx'⟩
 ·have hg2:((h.alloc (.blk x true)).alloc (.blk x true)).get (h.next + 1)=some (.blk x true):=Heap.get_alloc_same (h.alloc (.blk x true)) _
  refine ⟨.slice (some ⟨h.next + 1,0,none⟩) 1 s,(h.alloc (.blk x true)).alloc (.blk x true),?_,.inr ⟨h.next + 1,by simp,?_,by simpa using hg2,by simpa using hx⟩,(hle.alloc _).alloc _,?_,?_,?_⟩
  ·unfold jb
   simp only [hsrc,hdiv]
   rw [if_neg (by omega),if_pos (by simp at hb;omega)]
   rfl
  ·have:=hle.next;omega
  ·intro i hi _
   rw [Heap.alloc_getE,Heap.alloc_getE _ _ _ hi]
   rw [Heap.alloc_getE _ _ _ hi];exact hi
  ·intro i hi n s e
   cases e
   obtain ⟨o,ho⟩:=Option.isSome_iff_exists.1 hi
   have:=Heap.lt_of_get ho
   omega
  ·simp;omega
 ·have hlt:=Heap.lt_of_get hg
  have hlen:=wl hx'
  have hcell:(h.alloc (.blk x true)).get id=some (.blk xs.flatten true):=by rw [Heap.get_alloc_lt hlt];exact hg
  have hfl:(xs++[x]).flatten=xs.flatten++x:=by simp
  have hg2:(((h.alloc (.blk x true)).set id .dead).alloc (.blk (xs.flatten++x) true)).get (h.next + 1)=some (.blk (xs.flatten++x) true):=Heap.get_alloc_same ((h.alloc (.blk x true)).set id .dead) _
  refine ⟨.slice (some ⟨h.next + 1,0,none⟩) (xs.length + 1) s,((h.alloc (.blk x true)).set id .dead).alloc (.blk (xs.flatten++x) true),?_,.inr ⟨h.next + 1,by simp,?_,by rw [hfl];exact hg2,?_⟩,((hle.alloc _).set hi _).alloc _,?_,?_,?_⟩
  ·unfold jb
   simp only [hsrc,hdiv,hcell]
   rw [if_neg (by omega),if_pos ⟨trivial,hlen,hb,hb2⟩]
   rfl
  ·have:=hle.next;omega
  ·intro y hy
   rcases List.mem_append.1 hy with hy | hy
   ·exact hx' y hy
   ·simp only [List.mem_singleton] at hy;rw [hy,hx]
  ·intro i hi hno
   have hne:i≠id:=fun e=>by subst e;exact hno _ _ rfl
   have h1:((h.alloc (.blk x true)).set id .dead).get i=h.get i:=by
    rw [Heap.set_getE _ _ _ _ (by simpa using hne),Heap.alloc_getE _ _ _ hi]
   rw [Heap.alloc_getE _ _ _ (by rw [h1];exact hi),h1]
  ·intro i hi n s e
   cases e
   obtain ⟨o,ho⟩:=Option.isSome_iff_exists.1 hi
   have:=Heap.lt_of_get ho
   omega
  ·simp;omega
theorem zz7 (off s:Nat) (cs:List Value):yy false off s cs=cs[off]?:=rfl
structure Hid (p:Prop):Prop where
 h:p
theorem Heap.set_alloc (h:Heap) (a b:AObj):(h.alloc a).set h.next b=h.alloc b:=by
 simp only [Heap.alloc,Heap.set]
 congr 1
 funext id
 by_cases e:id=h.next
 ·simp [e]
 ·simp [e]
theorem zp {h:Heap}{size:Nat}{zs cs:List Value}{v:Value}(hv:v.cells.toList=cs) (hc:cs.length=size) (hz:zs.length=size) (h1:cs.all (·.oneCell')=true) :
  zt size (h.alloc (.blk zs true)) [.pointer (some ⟨h.next,0,none⟩),v]=some (undef,h.alloc (.blk cs true)):=by
 subst hv
 have hd:zs.drop size=[]:=List.drop_eq_nil_of_le (by omega)
 simp only [zt,Heap.get_alloc_same]
 rw [if_pos ⟨hc,by omega,h1⟩]
 simp only [List.take_zero,List.nil_append,Nat.zero_add,hd,List.append_nil,Heap.set_alloc]
theorem zo {h:Heap}{id off:Nat}{cells:List Value}{v:Value}(hg:h.get id=some (.blk cells true)) (ho:off < cells.length) (hv:v.cells.toList=[v]) (h1:v.oneCell' = true) :
  zt 1 h [.pointer (some ⟨id,off,none⟩),v]=some (undef,h.set id (.blk (cells.set off v) true)):=by
 simp only [zt,hg,hv]
 rw [if_pos ⟨rfl,by omega,by simp [h1]⟩,List.set_eq_take_append_cons_drop,if_pos ho]
 simp
theorem Z4 {h:Heap}{id off:Nat}{cells:List Value}{k:IntKind}{z:Int}(hg:h.get id=some (.blk cells true)) (ho:off < cells.length) :
  zt 1 h [.pointer (some ⟨id,off,none⟩),.int k z]=some (undef,h.set id (.blk (cells.set off (.int k z)) true)):=zo hg ho rfl rfl
theorem Ql {h:Heap}{id off:Nat}{cells:List Value}{z:Bool}(hg:h.get id=some (.blk cells true)) (ho:off < cells.length) :
  zt 1 h [.pointer (some ⟨id,off,none⟩),.bool z]=some (undef,h.set id (.blk (cells.set off (.bool z)) true)):=zo hg ho rfl rfl
theorem qq {s:Nat}{zs cs:List Value}{v:Value}(hv:v.cells.toList=cs) (hc:cs.length=s) (hz:zs.length=s) (h1:cs.all (·.oneCell')=true) :
  yd zs [(0,s)] 1 s [v]=some (cs,fun id=>.slice (some ⟨id,0,none⟩) 1 s):=by
 subst hv
 have hd:zs.drop s=[]:=List.drop_eq_nil_of_le (by omega)
 simp only [yd,List.length_cons,List.length_nil,if_true,List.zip_cons_cons,List.zip_nil_right,vm]
 rw [if_pos ⟨hc,by omega,h1⟩]
 simp [hd]
section
variable {N:Nat}{vars:List Nat}{Q:AExit→List Value→Heap→Prop}{e:List Value}{h:Heap}
theorem kcd {a b:CCode}{p:Prop} [Decidable p] (ht:p→W P N vars a Q e h) (hf:¬ p→W P N vars b Q e h):cndK P N vars a b Q e h (.bool (decide p)):=⟨fun h=>ht (of_decide_eq_true h),fun h=>hf (of_decide_eq_false h)⟩
theorem kci {a b:CCode}{c:Bool}(ht:c=true→W P N vars a Q e h) (hf:c=false→W P N vars b Q e h):cndK P N vars a b Q e h (.bool c):=⟨ht,hf⟩
end
theorem kgd {w:Bool}{k:K}{args:List Arg}{q:Bool}{D:List Nat}{ts env:List Value}{h:Heap}{Q:List Nat→Value→Heap→Prop}{p:Prop} [Decidable p] (h1:p→U9 P w k args q D ts env h Q (.bool true)) (h2:¬ p→U9 P w k args q D ts env h Q (.bool false)):U9 P w k args q D ts env h Q (.bool (decide p)):=by
 by_cases hp:p
 ·simpa [hp] using h1 hp
 ·simpa [hp] using h2 hp
theorem kgi {w:Bool}{k:K}{args:List Arg}{q:Bool}{D:List Nat}{ts env:List Value}{h:Heap}{Q:List Nat→Value→Heap→Prop}{c:Bool}(h1:c=true→U9 P w k args q D ts env h Q (.bool true)) (h2:c=false→U9 P w k args q D ts env h Q (.bool false)):U9 P w k args q D ts env h Q (.bool c):=by
 cases c
 ·exact h2 rfl
 ·exact h1 rfl
theorem LoopW.mono {N:Nat}{vars:List Nat}{c:CCode}{e:List Value}{h:Heap}{Q Q' : AExit→List Value→Heap→Prop}(hw:LoopW P N vars c e h Q) (hq:∀ x e h,Q x e h→Q' x e h):LoopW P N vars c e h Q' :=
 let ⟨x,e',h',t,q⟩:=hw;⟨x,e',h',t,hq _ _ _ q⟩
theorem LoopW.roundC {N:Nat}{vars:List Nat}{c:CCode}{e:List Value}{h:Heap}{Q:AExit→List Value→Heap→Prop}(R:List Value→Heap→Prop) (hw:qp7 P N vars c e h (Qp R Q)) (hR:∀ e1 h1,R e1 h1→LoopW P N vars c e1 h1 Q):LoopW P N vars c e h Q:=by
 obtain ⟨x,e1,h1,ht,hq⟩:=hw
 cases x with
 | normal =>
  obtain ⟨x2,e2,h2,ht2,hq2⟩:=hR _ _ hq
  exact ⟨_,_,_,.next ht ht2,hq2⟩
 | exit i=>exact ⟨_,_,_,.stop ht (by simp),hq⟩
 | ret=>exact ⟨_,_,_,.stop ht (by simp),hq⟩
theorem LoopW.round' {N:Nat}{vars:List Nat}{c:CCode}{e:List Value}{h:Heap}{Q:AExit→List Value→Heap→Prop}(R:List Value→Heap→Prop) (hw:W P N vars c (Qp R Q) e h) (hR:∀ e1 h1,R e1 h1→LoopW P N vars c e1 h1 Q):LoopW P N vars c e h Q :=
 LoopW.roundC R (W.sound hw) hR
theorem LoopW.down {N:Nat}{vars:List Nat}{c:CCode}{Q:AExit→List Value→Heap→Prop}(I:Nat→List Value→Heap→Prop)
  (hb:∀ m e h R,I m e h→Hid (∀ m' e h,m' < m→I m' e h→R e h)→W P N vars c (Qp R Q) e h):∀ {m:Nat}{e:List Value}{h:Heap},I m e h→LoopW P N vars c e h Q:=by
 intro m
 induction m using Nat.strongRecOn with
 | ind m ih =>
  intro e h hi
  exact LoopW.round' _ (hb m e h (fun e h=>∃ m',m' < m∧I m' e h) hi ⟨fun m' e h h1 h2=>⟨m',h1,h2⟩⟩) fun e1 h1 ⟨m',hm,hi'⟩=>ih m' hm hi'
theorem LoopW.upto {N:Nat}{vars:List Nat}{c:CCode}{Q:AExit→List Value→Heap→Prop}(n:Nat) (I:Nat→List Value→Heap→Prop)
  (hb:∀ i e h R,i≤n→I i e h→Hid (∀ e h,i < n→I (i + 1) e h→R e h)→W P N vars c (Qp R Q) e h){i:Nat}{e:List Value}{h:Heap}(hi:i≤n) (h0:I i e h):LoopW P N vars c e h Q:=by
 suffices ∀ (k i:Nat),n - i=k→i≤n → ∀ e h,I i e h→LoopW P N vars c e h Q from this _ i rfl hi e h h0
 have hb':=fun i e h h1 h2=>hb i e h (fun e h=>i < n∧I (i + 1) e h) h1 h2 ⟨fun e h h3 h4=>⟨h3,h4⟩⟩
 intro k
 induction k with
 | zero =>
  intro i hk hi e h h0
  exact LoopW.round' _ (hb' i e h hi h0) fun e1 h1 ⟨hlt,_⟩=>by omega
 | succ k ih =>
  intro i hk hi e h h0
  exact LoopW.round' _ (hb' i e h hi h0) fun e1 h1 ⟨hlt,h2⟩=>ih (i + 1) (by omega) (by omega) e1 h1 h2
end Go.Eng
namespace Go.Eng
open Go
variable {P:Program}
def Qq (Q:Value→Heap→Prop) (h:Heap) (o:Option Value):Value→Prop:=fun v=>y5 o fun u=>Q (.tuple #[v,u]) h
theorem V1 (k j:Nat) (Q:Value→Heap→Prop) (e:List Value) (h:Heap):ret2 k j Q .ret e h=y5 e[k]? (Qq Q h e[j]?):=rfl
theorem Vp (Q:Value→Heap→Prop) (h:Heap) (v u:Value):Qq Q h (some u) v=Q (.tuple #[v,u]) h:=rfl
theorem ja {f:FuncId}{cf:CFn}(hf:FnOk P f cf){args:List Value}{h:Heap}{Q:Value→Heap→Prop}{k j:Nat}(hnr:cf.body.noRange=true) (hr:cf.results=[.var k,.var j]) (hn:args.length=cf.nargs)
  (hb:∀ N,W P N cf.vars cf.body (ret2 k j Q) (yj cf args) h):CallW P f args h Q:=by
 refine ue hf hn fun N=>W.mono ?_ (hb N).sound
 intro x e h' hq
 have key:y5 e[k]? (fun v=>y5 e[j]? fun u=>Q (.tuple #[v,u]) h')→y5 (jg e (fin cf.body.noRange h.next h') cf.results) fun vs=>Q (qk vs) (fin cf.body.noRange h.next h'):=by
  intro hq
  rw [hnr,hr]
  cases he:e[k]? with
  | none=>rw [he] at hq;exact hq.elim
  | some v =>
   cases hu:e[j]? with
   | none=>rw [he,hu] at hq;exact hq.elim
   | some u=>rw [he,hu] at hq;simpa [jg,ResArg.get,he,hu,y5,qk,fin] using hq
 cases x with
 | exit i=>exact hq.elim
 | normal=>exact key hq
 | ret=>exact key hq
def retcv (k:Nat) (agg:Bool) (size j:Nat) (Q:Value→Heap→Prop):AExit→List Value→Heap→Prop
 | .exit _,_,_=>False
 | .normal,e,h=>y5 e[k]? fun p=>y5 (aR (.load agg size) [p] h.get) (Qq Q h e[j]?)
 | .ret,e,h=>y5 e[k]? fun p=>y5 (aR (.load agg size) [p] h.get) (Qq Q h e[j]?)
def retcvK (agg:Bool) (size:Nat) (Q:Value→Heap→Prop) (h:Heap) (o:Option Value):Value→Prop:=fun p=>y5 (aR (.load agg size) [p] h.get) (Qq Q h o)
theorem wz (k:Nat) (agg:Bool) (size j:Nat) (Q:Value→Heap→Prop) (e:List Value) (h:Heap):retcv k agg size j Q .ret e h=y5 e[k]? (retcvK agg size Q h e[j]?):=rfl
theorem xz (agg:Bool) (size:Nat) (Q:Value→Heap→Prop) (h:Heap) (o:Option Value) (p:Value):retcvK agg size Q h o p=y5 (aR (.load agg size) [p] h.get) (Qq Q h o):=rfl
theorem Jv {f:FuncId}{cf:CFn}(hf:FnOk P f cf){args:List Value}{h:Heap}{Q:Value→Heap→Prop}{k j size:Nat}{agg:Bool}(hnr:cf.body.noRange=true) (hr:cf.results=[.cell k agg size,.var j]) (hn:args.length=cf.nargs)
  (hb:∀ N,W P N cf.vars cf.body (retcv k agg size j Q) (yj cf args) h):CallW P f args h Q:=by
 refine ue hf hn fun N=>W.mono ?_ (hb N).sound
 intro x e h' hq
 have key:y5 e[k]? (fun p=>y5 (aR (.load agg size) [p] h'.get) (Qq Q h' e[j]?))→y5 (jg e (fin cf.body.noRange h.next h') cf.results) fun vs=>Q (qk vs) (fin cf.body.noRange h.next h'):=by
  intro hq
  rw [hnr,hr]
  cases he:e[k]? with
  | none=>rw [he] at hq;exact hq.elim
  | some v =>
   rw [he] at hq
   simp only [y5] at hq
   cases hv:aR (.load agg size) [v] h'.get with
   | none=>rw [hv] at hq;exact hq.elim
   | some w =>
    rw [hv] at hq
    simp only [Qq] at hq
    cases hu:e[j]? with
    | none=>rw [hu] at hq;exact hq.elim
    | some u=>rw [hu] at hq;simpa [jg,ResArg.get,he,hu,hv,y5,qk,fin] using hq
 cases x with
 | exit i=>exact hq.elim
 | normal=>exact key hq
 | ret=>exact key hq
theorem je {h:Heap}{id size:Nat}{zs cs:List Value}{v:Value}(hg:h.get id=some (.blk zs true)) (hv:v.cells.toList=cs) (hc:cs.length=size) (hz:zs.length=size) (h1:cs.all (·.oneCell')=true) :
  zt size h [.pointer (some ⟨id,0,none⟩),v]=some (undef,h.set id (.blk cs true)):=by
 subst hv
 have hd:zs.drop size=[]:=List.drop_eq_nil_of_le (by omega)
 simp only [zt,hg]
 rw [if_pos ⟨hc,by omega,h1⟩]
 simp only [List.take_zero,List.nil_append,Nat.zero_add,hd,List.append_nil]
theorem SlV.src {h:Heap}{s:Nat}{w:Value}{ys:List (List Value)}(hw:SlV h s w ys):qh s h w=some ys.flatten ∧ ∀ y ∈ ys,y.length=s:=by
 rcases hw with ⟨rfl,rfl⟩ | ⟨id,off,rfl,ha⟩
 ·exact ⟨rfl,by simp⟩
 ·rcases ha with rfl | ⟨cells,own,hg,hx⟩
  ·exact ⟨by simp [qh],by simp⟩
  ·have hlen:∀ y ∈ ys,y.length=s:=fun y hy=>by
    obtain ⟨i,hi⟩:=List.mem_iff_getElem?.1 hy
    exact (hx i y hi).1
   refine ⟨?_,hlen⟩
   by_cases h0:ys.length=0
   ·have:ys=[]:=List.length_eq_zero_iff.1 h0
    subst this;simp [qh]
   ·obtain ⟨y,hy⟩:∃ y,ys[ys.length - 1]? = some y:=⟨_,List.getElem?_eq_getElem (by omega)⟩
    obtain ⟨_,h2,_⟩:=hx _ _ hy
    have hle:off + ys.length * s≤cells.length:=by
     obtain ⟨n,hn⟩:∃ n,ys.length=n + 1:=⟨ys.length - 1,by omega⟩
     rw [hn,Nat.succ_mul];rw [hn] at h2;simp only [Nat.add_sub_cancel] at h2;omega
    simp only [qh,if_true,h0,if_false,hg,hle]
    congr 1
    have key:∀ (ys:List (List Value)) (k:Nat),(∀ (i:Nat) x,ys[i]? = some x→x.length=s∧off + (k + i) * s + s≤cells.length∧(cells.drop (off + (k + i) * s)).take s=x)→(cells.drop (off + k * s)).take (ys.length * s)=ys.flatten:=by
     intro ys
     induction ys with
     | nil=>intro k _;simp
     | cons y r ih =>
      intro k hx
      obtain ⟨h1,h2,h3⟩:=hx 0 y rfl
      have:=ih (k + 1) fun i x hi=>by
       have:=hx (i + 1) x (by simpa using hi)
       rwa [show k + (i + 1)=k + 1 + i by omega] at this
      rw [List.flatten_cons,← this,List.length_cons,Nat.succ_mul,Nat.add_comm (r.length * s) s,List.take_add]
      rw [Nat.add_zero] at h3
      congr 1
      rw [List.drop_drop,Nat.succ_mul,Nat.add_assoc]
    have:=key ys 0 fun i x hi=>by simpa using hx i x hi
    simpa using this
theorem OwnS.append {h0 h:Heap}{s:Nat}{v w:Value}{xs ys:List (List Value)}(ha:OwnS h0 h s v xs) (hle:h0.le h) (hw:SlV h s w ys) (hs:0 < s){b:Nat}(hb:(xs.length + ys.length) * b≤140737488355328) (hb2:xs.length + ys.length≤9223372036854775807) :
  ∃ v' h',jb s b h [v,w]=some (v',h')∧OwnS h0 h' s v' (xs++ys)∧h0.le h' ∧ (∀ i,(h.get i).isSome=true→notOf v i→h'.get i=h.get i)∧(∀ i,(h.get i).isSome=true→notOf v i→notOf v' i)∧h.next≤h'.next:=by
 obtain ⟨hsrc,hyl⟩:=hw.src
 have hfl:=wl hyl
 by_cases h00:ys.length=0
 ·have:ys=[]:=List.length_eq_zero_iff.1 h00
  subst this
  refine ⟨v,h,?_,by simpa using ha,hle,fun _ _ _=>rfl,fun _ _ h=>h,Nat.le_refl _⟩
  have hsv:∃ p n c,v = .slice p n c:=by
   rcases ha with ⟨rfl,_⟩ | ⟨id,rfl,_⟩
   ·exact ⟨_,_,_,rfl⟩
   ·exact ⟨_,_,_,rfl⟩
  obtain ⟨p,n,c,rfl⟩:=hsv
  unfold jb
  simp only [hsrc]
  rfl
 ·have hne:ys.flatten.length≠0:=by
   rw [hfl]
   exact Nat.mul_ne_zero h00 (by omega)
  have hdiv:ys.flatten.length / s=ys.length:=by rw [hfl];exact Nat.mul_div_cancel _ hs
  rcases ha with ⟨rfl,rfl⟩ | ⟨id,rfl,hi,hg,hx'⟩
  ·refine ⟨.slice (some ⟨h.next,0,none⟩) ys.length s,h.alloc (.blk ys.flatten true),?_,.inr ⟨h.next,by simp,hle.next,by simp,by simpa using hyl⟩,hle.alloc _,?_,?_,by simp⟩
   ·unfold jb
    simp only [hsrc,hdiv]
    rw [if_neg hne,if_pos (by simp at hb hb2;exact ⟨hb,hb2⟩)]
   ·intro i hi _;exact Heap.alloc_getE _ _ _ hi
   ·intro i hi _ n s e
    cases e
    obtain ⟨o,ho⟩:=Option.isSome_iff_exists.1 hi
    have:=Heap.lt_of_get ho
    omega
  ·have hlt:=Heap.lt_of_get hg
   have hlen:=wl hx'
   have hflx:(xs++ys).flatten=xs.flatten++ys.flatten:=by simp
   refine ⟨.slice (some ⟨h.next,0,none⟩) (xs.length + ys.length) s,(h.set id .dead).alloc (.blk (xs.flatten++ys.flatten) true),?_,.inr ⟨h.next,by simp,hle.next,by rw [hflx];exact Heap.get_alloc_same (h.set id .dead) _,?_⟩,(hle.set hi _).alloc _,?_,?_,by simp⟩
   ·unfold jb
    simp only [hsrc,hdiv,hg]
    rw [if_neg hne,if_pos ⟨trivial,hlen,hb,hb2⟩]
   ·intro y hy
    rcases List.mem_append.1 hy with hy | hy
    ·exact hx' y hy
    ·exact hyl y hy
   ·intro i hi hno
    have hne:i≠id:=fun e=>by subst e;exact hno _ _ rfl
    have h1:(h.set id .dead).get i=h.get i:=Heap.set_getE _ _ _ _ (by simpa using hne)
    rw [Heap.alloc_getE _ _ _ (by rw [h1];exact hi),h1]
   ·intro i hi _ n s e
    cases e
    obtain ⟨o,ho⟩:=Option.isSome_iff_exists.1 hi
    have:=Heap.lt_of_get ho
    omega
theorem Heap.le.ext {a b:Heap}(h:a.le b):a.ext b:=fun _ _ hg=>.inl (h.get hg)
theorem Heap.sweep_getB {h:Heap}{n id:Nat}{cells:List Value}{own:Bool}(hg:h.get id=some (.blk cells own)):(h.sweep n).get id=some (.blk cells own):=Heap.sweep_blk hg (by simp)
theorem OwnS.sweep {h0 h:Heap}{n s:Nat}{v:Value}{xs:List (List Value)}(ha:OwnS h0 h s v xs):OwnS h0 (h.sweep n) s v xs:=by
 rcases ha with ha | ⟨id,hv,hi,hg,hx⟩
 ·exact .inl ha
 ·exact .inr ⟨id,hv,hi,Heap.sweep_getB hg,hx⟩
theorem OwnS.get {h0 h h' : Heap}{s:Nat}{v:Value}{xs:List (List Value)}(ha:OwnS h0 h s v xs) (hk:∀ id,v = .slice (some ⟨id,0,none⟩) xs.length s→(h.get id).isSome=true→h'.get id=h.get id):OwnS h0 h' s v xs:=by
 rcases ha with ha | ⟨id,hv,hi,hg,hx⟩
 ·exact .inl ha
 ·exact .inr ⟨id,hv,hi,by rw [hk id hv (by rw [hg];rfl)];exact hg,hx⟩
theorem zp7 (k:IntKind) (z:Int):Vl [.int k z]=some ([.int k z],fun id=>.pointer (some ⟨id,0,none⟩)):=rfl
end Go.Eng
namespace Go.Eng
open Go
variable {P:Program}
theorem pEqBf (a b:Bool):pEqB false [.bool a,.bool b]=some (.bool (a == b)):=by simp [pEqB]
end Go.Eng
namespace Go.Eng
open Go
variable {P:Program}
def retc (k:Nat) (agg:Bool) (size:Nat) (Q:Value→Heap→Prop):AExit→List Value→Heap→Prop
 | .exit _,_,_=>False
 | .normal,e,h=>y5 e[k]? fun p=>y5 (aR (.load agg size) [p] h.get) fun v=>Q v h
 | .ret,e,h=>y5 e[k]? fun p=>y5 (aR (.load agg size) [p] h.get) fun v=>Q v h
def retcK (agg:Bool) (size:Nat) (Q:Value→Heap→Prop) (h:Heap):Value→Prop:=fun p=>y5 (aR (.load agg size) [p] h.get) (zb2 Q h)
theorem Wa (k:Nat) (agg:Bool) (size:Nat) (Q:Value→Heap→Prop) (e:List Value) (h:Heap):retc k agg size Q .ret e h=y5 e[k]? (retcK agg size Q h):=rfl
theorem Q3 (agg:Bool) (size:Nat) (Q:Value→Heap→Prop) (h:Heap) (p:Value):retcK agg size Q h p=y5 (aR (.load agg size) [p] h.get) (zb2 Q h):=rfl
theorem Qb {f:FuncId}{cf:CFn}(hf:FnOk P f cf){args:List Value}{h:Heap}{Q:Value→Heap→Prop}{k size:Nat}{agg:Bool}(hnr:cf.body.noRange=true) (hr:cf.results=[.cell k agg size]) (hn:args.length=cf.nargs)
  (hb:∀ N,W P N cf.vars cf.body (retc k agg size Q) (yj cf args) h):CallW P f args h Q:=by
 refine ue hf hn fun N=>W.mono ?_ (hb N).sound
 intro x e h' hq
 have key:y5 e[k]? (fun p=>y5 (aR (.load agg size) [p] h'.get) fun v=>Q v h')→y5 (jg e (fin cf.body.noRange h.next h') cf.results) fun vs=>Q (qk vs) (fin cf.body.noRange h.next h'):=by
  intro hq
  rw [hnr,hr]
  cases he:e[k]? with
  | none=>rw [he] at hq;exact hq.elim
  | some v =>
   rw [he] at hq
   simp only [y5] at hq
   cases hv:aR (.load agg size) [v] h'.get with
   | none=>rw [hv] at hq;exact hq.elim
   | some w=>rw [hv] at hq;simpa [jg,ResArg.get,he,hv,y5,qk,fin] using hq
 cases x with
 | exit i=>exact hq.elim
 | normal=>exact key hq
 | ret=>exact key hq
end Go.Eng
namespace Go.Eng
open Go
variable {P:Program}
def ret3 (k j i:Nat) (Q:Value→Heap→Prop):AExit→List Value→Heap→Prop
 | .exit _,_,_=>False
 | .normal,e,h=>y5 e[k]? fun v=>y5 e[j]? fun u=>y5 e[i]? fun t=>Q (.tuple #[v,u,t]) h
 | .ret,e,h=>y5 e[k]? fun v=>y5 e[j]? fun u=>y5 e[i]? fun t=>Q (.tuple #[v,u,t]) h
def then3a (Q:Value→Heap→Prop) (h:Heap) (o o' : Option Value):Value→Prop:=fun v=>y5 o fun u=>y5 o' fun t=>Q (.tuple #[v,u,t]) h
theorem Wb (k j i:Nat) (Q:Value→Heap→Prop) (e:List Value) (h:Heap):ret3 k j i Q .ret e h=y5 e[k]? (then3a Q h e[j]? e[i]?):=rfl
theorem Z8 (Q:Value→Heap→Prop) (h:Heap) (v u t:Value):then3a Q h (some u) (some t) v=Q (.tuple #[v,u,t]) h:=rfl
theorem call_of3 {f:FuncId}{cf:CFn}(hf:FnOk P f cf){args:List Value}{h:Heap}{Q:Value→Heap→Prop}{k j i:Nat}(hnr:cf.body.noRange=true) (hr:cf.results=[.var k,.var j,.var i]) (hn:args.length=cf.nargs)
  (hb:∀ N,W P N cf.vars cf.body (ret3 k j i Q) (yj cf args) h):CallW P f args h Q:=by
 refine ue hf hn fun N=>W.mono ?_ (hb N).sound
 intro x e h' hq
 have key:y5 e[k]? (fun v=>y5 e[j]? fun u=>y5 e[i]? fun t=>Q (.tuple #[v,u,t]) h')→y5 (jg e (fin cf.body.noRange h.next h') cf.results) fun vs=>Q (qk vs) (fin cf.body.noRange h.next h'):=by
  intro hq
  rw [hnr,hr]
  cases he:e[k]? with
  | none=>rw [he] at hq;exact hq.elim
  | some v =>
   cases hu:e[j]? with
   | none=>rw [he,hu] at hq;exact hq.elim
   | some u =>
    cases ht:e[i]? with
    | none=>rw [he,hu,ht] at hq;exact hq.elim
    | some t=>rw [he,hu,ht] at hq;simpa [jg,ResArg.get,he,hu,ht,y5,qk,fin] using hq
 cases x with
 | exit i=>exact hq.elim
 | normal=>exact key hq
 | ret=>exact key hq
def ldK (agg:Bool) (o size:Nat):Option AObj→Option Value
 | some (.blk cells _)=>yy agg o size cells
 | some (.tblk cells _ _)=>yy agg o size cells
 | _=>none
theorem aR_ld (agg:Bool) (size id o:Nat) (G:Nat→Option AObj):aR (.load agg size) [.pointer (some ⟨id,o,none⟩)] G=ldK agg o size (G id):=by
 simp only [aR]
 cases G id with
 | none=>rfl
 | some o=>cases o<;>rfl
theorem j2 {p:Nat}{D:List Nat}{h h' : Heap}{Q:List Nat→Value→Heap→Prop}{v:Value}(hb:h.leBut p h') (hq:Q (p::D) v h'):zq1 D h Q v h' :=
 ⟨p::D,fun _ h=>List.mem_cons_of_mem _ h,fun id o hid hg=>.inl (by
  have:id≠p:=fun e=>hid (by simp [e])
  rw [hb.get id this (by rw [hg];rfl)];exact hg),hq⟩
theorem Y6 (agg:Bool) (o size:Nat) (cells:List Value) (e:TypeId) (full:Bool):ldK agg o size (some (.tblk cells e full))=yy agg o size cells:=rfl
end Go.Eng
namespace Go.Eng
open Go
variable {P:Program}
theorem VRs.plain_inv {ρ:Go.Eng.Ren}:∀ {l l' : List Value},(∀ v ∈ l,Value.plain v=true)→VRs ρ l l' → l' = l
 | [],_,_,h=>by cases h;rfl
 | v::r,_,h,hr=>by
  cases hr with
  | cons v v' r r' h1 hr=>rw [VR.plain_inv (h v (by simp)) h1,VRs.plain_inv (fun x hx=>h x (by simp [hx])) hr]
theorem Sim.below {base:Nat}{G:Nat→Option AObj}{ρ:Go.Eng.Ren}{w w' : World}(hS:Sim base G ρ w) (hb:RowKit.Below w.heap.size w w'):Sim base G ρ w' where
 dom:=hS.dom
 size:=Nat.le_trans hS.size hb.size
 rng:=fun id l hl=>Nat.lt_of_lt_of_le (hS.rng id l hl) hb.size
 obj:=fun id o l hg hl=>(hS.obj id o l hg hl).mono (Ren.le_refl _) (hb.block _ (hS.rng id l hl))
 inj:=hS.inj
 glob:=k8 (fun b hb'=>hb.block b (Nat.lt_of_lt_of_le hb' hS.size)) hS.glob
theorem CallT.of_below {f:FuncId}{args:List Value}{v:Value}{h:Heap}(he:qp5 P f) (hpl:∀ a ∈ args,Value.plain a=true) (hv:Value.plain v=true)
  (hc:∀ base w,Jn base w→Calls P f args.toArray w fun e w'=>e = .returned v∧RowKit.Below w.heap.size w w'):CallT P f args h v h:=by
 refine ⟨he,Heap.step.refl h,fun base G ρ w args' hG hfr hS hargs=>?_⟩
 obtain rfl:=VRs.plain_inv hpl hargs
 refine (hc base w hS.glob).mono fun e w' ⟨h1,hb⟩=>⟨v,ρ,h1,Agree.refl _ _ _,.same v hv,?_,?_⟩
 ·exact Sim.congr (hS.below hb) (yx hG)
 ·have hbase:=hS.size
  refine ⟨hb.size,fun b hb'=>hb.block b (by omega),hb.tape,hb.os,hb.output,fun a ha=>?_⟩
  unfold World.frozen?
  rw [hb.block a.block (by omega)]
end Go.Eng
namespace Go.Eng
open Go
theorem za:(type_of% @W_skip) ∧
 (type_of% @W_reg) ∧
 (type_of% @W_seq) ∧
 (type_of% @qo7) ∧
 (type_of% @W_cond) ∧
 (type_of% @qo8) ∧
 (type_of% @W_loop) ∧
 (type_of% @W_exit) ∧
 (type_of% @W_ret) ∧
 (type_of% @Yi) ∧
 (type_of% @Kh) ∧
 (type_of% @Vo) ∧
 (type_of% @Z0) ∧
 (type_of% @Xt) ∧
 (type_of% @J2) ∧
 (type_of% @zj0) ∧
 (type_of% @zz0) ∧
 (type_of% @cndK_t) ∧
 (type_of% @cndK_f) ∧
 (type_of% @zp8) ∧
 (type_of% @U7) ∧
 (type_of% @U6) ∧
 (type_of% @Uf) ∧
 (type_of% @yc6) ∧
 (type_of% @yc9) ∧
 (type_of% @yc7) ∧
 (type_of% @yc8) ∧
 (type_of% @K3) ∧
 (type_of% @actK_p) ∧
 (type_of% @actK_r) ∧
 (type_of% @actK_a) ∧
 (type_of% @actK_w) ∧
 (type_of% @U3) ∧
 (type_of% @Xx) ∧
 (type_of% @yf) ∧
 (type_of% @Vj) ∧
 (type_of% @J5) ∧
 (type_of% @zy9) ∧
 (type_of% @zy8) ∧
 (type_of% @Ub) ∧
 (type_of% @Xw) ∧
 (type_of% @Kd) ∧
 (type_of% @zi8) ∧
 (type_of% @Q4) ∧
 (type_of% @zi9) ∧
 (type_of% @Q5) ∧
 (type_of% @V1) ∧
 (type_of% @Vp) ∧
 (type_of% @wz) ∧
 (type_of% @xz) ∧
 (type_of% @Wa) ∧
 (type_of% @Q3) ∧
 (type_of% @V7) ∧
 (type_of% @zz7) ∧
 (type_of% @List.getElem?_cons_zero.{0}) ∧
 (type_of% @List.getElem?_cons_succ.{0}) ∧
 (type_of% @List.getD_cons_zero.{0}) ∧
 (type_of% @List.getD_cons_succ.{0}) ∧
 (type_of% @List.set_cons_zero.{0}) ∧
 (type_of% @List.set_cons_succ.{0}) ∧
 (type_of% @Nat.zero_add) ∧
 (type_of% @Nat.add_zero) ∧
 (type_of% @List.getElem?_toArray.{0}) ∧
 (type_of% @List.take_zero.{0}) ∧
 (type_of% @List.drop_zero.{0}) ∧
 (type_of% @List.take_succ_cons.{0}) ∧
 (type_of% @List.drop_succ_cons.{0}) ∧
 (type_of% @if_true.{1}) ∧
 (type_of% @if_false.{1}) ∧
 (type_of% @decide_true) ∧
 (type_of% @decide_false) ∧
 (type_of% @Bool.false_eq_true) ∧
 (type_of% @Bool.true_eq_false) ∧
 (type_of% @Bool.not_true) ∧
 (type_of% @Bool.not_false) ∧
 (type_of% @not_true_eq_false) ∧
 (type_of% @not_false_eq_true) ∧
 (type_of% @ge_iff_le.{0}) ∧
 (type_of% @gt_iff_lt.{0}) ∧
 (type_of% @beq_self_eq_true.{0}) ∧
 (type_of% @bne_self_eq_false.{0}) ∧
 (type_of% @and_self) ∧
 (type_of% @and_true) ∧
 (type_of% @true_and) ∧
 (type_of% @Option.isSome_some.{0}) ∧
 (type_of% @Heap.get_alloc_same) ∧
 (type_of% @Heap.alloc_getE) ∧
 (type_of% @J3) ∧
 (type_of% @evs.eq_1) ∧
 (type_of% @evs.eq_2) ∧
 (type_of% @Arg.ev.eq_1) ∧
 (type_of% @Arg.ev.eq_2) ∧
 (type_of% @Arg.ev.eq_3) ∧
 (type_of% @Arg.ev.eq_4) ∧
 (type_of% @aP.eq_1) ∧
 (type_of% @aP.eq_2) ∧
 (type_of% @aP.eq_3) ∧
 (type_of% @aP.eq_4) ∧
 (type_of% @aP.eq_5) ∧
 (type_of% @aP.eq_6) ∧
 (type_of% @aP.eq_7) ∧
 (type_of% @aP.eq_8) ∧
 (type_of% @aP.eq_9) ∧
 (type_of% @aP.eq_10) ∧
 (type_of% @aP.eq_11) ∧
 (type_of% @aP.eq_12) ∧
 (type_of% @aP.eq_13) ∧
 (type_of% @aP.eq_14) ∧
 (type_of% @aP.eq_15) ∧
 (type_of% @aP.eq_16) ∧
 (type_of% @aP.eq_17) ∧
 (type_of% @aP.eq_18) ∧
 (type_of% @aP.eq_19) ∧
 (type_of% @aP.eq_20) ∧
 (type_of% @aP.eq_21) ∧
 (type_of% @aP.eq_22) ∧
 (type_of% @aP.eq_23) ∧
 (type_of% @aP.eq_24) ∧
 (type_of% @aP.eq_25) ∧
 (type_of% @aP.eq_26) ∧
 (type_of% @aP.eq_27) ∧
 (type_of% @aP.eq_28) ∧
 (type_of% @aP.eq_29) ∧
 (type_of% @aP.eq_30) ∧
 (type_of% @aA.eq_1) ∧
 (type_of% @aA.eq_2) ∧
 (type_of% @aA.eq_3) ∧
 (type_of% @aA.eq_4) ∧
 (type_of% @pMov.eq_1) ∧
 (type_of% @pBin.eq_1) ∧
 (type_of% @pUn.eq_1) ∧
 (type_of% @pConv.eq_1) ∧
 (type_of% @pPick.eq_1) ∧
 (type_of% @pFieldAddr.eq_1) ∧
 (type_of% @pNilCheck.eq_1) ∧
 (type_of% @pNilCheck.eq_2) ∧
 (type_of% @pNilCheck.eq_3) ∧
 (type_of% @pExtract.eq_1) ∧
 (type_of% @aUn.eq_1) ∧
 (type_of% @aUn.eq_2) ∧
 (type_of% @aUn.eq_4) ∧
 (type_of% @aUn.eq_5) ∧
 (type_of% @aNew.eq_1) ∧
 (type_of% @upd.eq_1) ∧
 (type_of% @upd.eq_2) :=
 ⟨@W_skip,@W_reg,@W_seq,@qo7,@W_cond,@qo8,@W_loop,@W_exit,@W_ret,@Yi,@Kh,@Vo,@Z0,@Xt,@J2,@zj0,@zz0,@cndK_t,@cndK_f,@zp8,@U7,@U6,@Uf,@yc6,@yc9,@yc7,@yc8,@K3,@actK_p,@actK_r,@actK_a,@actK_w,@U3,@Xx,@yf,@Vj,@J5,@zy9,@zy8,@Ub,@Xw,@Kd,@zi8,@Q4,@zi9,@Q5,@V1,@Vp,@wz,@xz,@Wa,@Q3,@V7,@zz7,@List.getElem?_cons_zero.{0},@List.getElem?_cons_succ.{0},@List.getD_cons_zero.{0},@List.getD_cons_succ.{0},@List.set_cons_zero.{0},@List.set_cons_succ.{0},@Nat.zero_add,@Nat.add_zero,@List.getElem?_toArray.{0},@List.take_zero.{0},@List.drop_zero.{0},@List.take_succ_cons.{0},@List.drop_succ_cons.{0},@if_true.{1},@if_false.{1},@decide_true,@decide_false,@Bool.false_eq_true,@Bool.true_eq_false,@Bool.not_true,@Bool.not_false,@not_true_eq_false,@not_false_eq_true,@ge_iff_le.{0},@gt_iff_lt.{0},@beq_self_eq_true.{0},@bne_self_eq_false.{0},@and_self,@and_true,@true_and,@Option.isSome_some.{0},@Heap.get_alloc_same,@Heap.alloc_getE,@J3,@evs.eq_1,@evs.eq_2,@Arg.ev.eq_1,@Arg.ev.eq_2,@Arg.ev.eq_3,@Arg.ev.eq_4,@aP.eq_1,@aP.eq_2,@aP.eq_3,@aP.eq_4,@aP.eq_5,@aP.eq_6,@aP.eq_7,@aP.eq_8,@aP.eq_9,@aP.eq_10,@aP.eq_11,@aP.eq_12,@aP.eq_13,@aP.eq_14,@aP.eq_15,@aP.eq_16,@aP.eq_17,@aP.eq_18,@aP.eq_19,@aP.eq_20,@aP.eq_21,@aP.eq_22,@aP.eq_23,@aP.eq_24,@aP.eq_25,@aP.eq_26,@aP.eq_27,@aP.eq_28,@aP.eq_29,@aP.eq_30,@aA.eq_1,@aA.eq_2,@aA.eq_3,@aA.eq_4,@pMov.eq_1,@pBin.eq_1,@pUn.eq_1,@pConv.eq_1,@pPick.eq_1,@pFieldAddr.eq_1,@pNilCheck.eq_1,@pNilCheck.eq_2,@pNilCheck.eq_3,@pExtract.eq_1,@aUn.eq_1,@aUn.eq_2,@aUn.eq_4,@aUn.eq_5,@aNew.eq_1,@upd.eq_1,@upd.eq_2⟩
end Go.Eng
namespace Go.Eng
open Go Go.ChangeShapes Go.WideShapes Go.ChangeAt
variable {P:Program}{H:Type}{enc:TypeId × Value→H}
end Go.Eng
