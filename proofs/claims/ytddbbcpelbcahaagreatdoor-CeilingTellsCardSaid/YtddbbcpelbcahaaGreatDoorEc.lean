/-
  Part of a proof of the laws of layer 09 (ceiling): an order-free machine for the code, and that it is sound.
  Conditions: none.
-/
import Derived.Test.YtddbbcpelbcahaaGreatDoorEb
import Derived.WalkKit
import Derived.ProofKit
import Derived.OpenShut
import Derived.JoinedCond
import Derived.Carry
import Derived.Deep.Slices
import Derived.KernelRfl
import Derived.Sort.Grow
set_option linter.unusedSimpArgs false
set_option linter.unusedVariables false
namespace Go.Eng
open Go Go.ChangeShapes Go.WideShapes Go.ChangeAt Go.RowKit
variable {P:Program}{H:Type}{enc:TypeId × Value→H}
theorem WStep.below {w w' : World}(h:WStep w.heap.size w w'):Below w.heap.size w w':=⟨h.os,h.tape,h.output,h.size,h.low⟩
theorem WStep.kept {w w' : World}(h:WStep w.heap.size w w') (may:MemPlace→Prop):w.keptBut w' may:=by
 refine ⟨h.os,h.output,fun i hi=>?_⟩;rw [h.low i hi];generalize w.heap[i]? = o;cases o with
 | none=>rfl
 | some o=>cases o<;>first | exact ⟨rfl,rfl,rfl,fun _ _=>rfl⟩ | exact .inr ⟨rfl,rfl⟩ | rfl
theorem Qd (hl:laidOutB P=true){W W' : World}(hb:Below W.heap.size W W'){sp:Nat→Bool}:∀ {ts:List TypeId}{vs:lVq}{ds:List (DataW H)}{ps:List MemPlace},(∀ t ∈ ts,P.readableRec t=true∧t < P.types.size) →
  DataW.TrodAll enc P W 0 (fun _=>true) true ts vs ds ps→(∀ x ∈ ps,x.block < W.heap.size)→(∀ x ∈ ps,sp x.block=true)→DataW.TrodAll enc P W' 0 sp true ts vs ds ps
 | [],vs,ds,ps,_,h,_,_=>by
  obtain ⟨rfl,rfl,rfl⟩:=trodAll_nil h;exact trodAll_mk0
 | t::ts,vs,ds,ps,ht,h,hlt,hsp=>by
  obtain ⟨v,vs',d,ds',p,q,rfl,rfl,rfl,h0,hr⟩:=trodAll_cons h;have h1:=ht t (by simp);refine trodAll_cons_mk (WideElems.Trod_stays hl h1.1 h1.2 h0 (fun x hx=>hb.same (hlt x (by simp [hx]))) (fun x hx=>hsp x (by simp [hx]))) ?_;exact Qd hl hb (fun t' ht'=>ht t' (by simp [ht'])) hr (fun x hx=>hlt x (by simp [hx])) (fun x hx=>hsp x (by simp [hx]))
theorem yn5 {f:Func}{s:ChangeSpec}{apart fresh handsOn again:Bool}{W W' : World}{args:Array Value}{ds gs:List (DataW H)}{before:List MemPlace}{tb:TypeId}(hl:laidOutB P=true) (hres:f.resultTypes = #[tb]) (htb:P.underlying tb=some .bool)
  (hp:∀ t ∈ f.params.toList,P.readableRec t=true∧t < P.types.size) (hv:s.vars=[])
  (hW:DataW.Whole enc P f.params.toList s.vars apart W args.toList ds gs before) (hsr:(s.fn H (ds++gs)).results=[.lit (.bool true)]) (hsa:(s.fn H (ds++gs)).args=ds) (hsv:(s.fn H (ds++gs)).vars=[])
  (hst:WStep W.heap.size W W'):s.post enc P f apart fresh handsOn again W args (.bool true) W':=by
 have hW2:=hW;obtain ⟨p,q,hA,hV,rfl,hfz,hnd⟩:=hW;rw [hv] at hV;obtain ⟨rfl,rfl⟩:=trodVars_none hV;have hlt:∀ x ∈ p++[],x.block < W.heap.size:=fun x hx=>hW2.lt x hx;have hargs:∀ sp:Nat→Bool,(∀ x ∈ p++[],sp x.block=true)→DataW.TrodAll enc P W' 0 sp true f.params.toList args.toList (s.fn H (ds++[])).args p:=fun sp hsp=>by
  rw [hsa];exact Qd hl hst.below hp hA (fun x hx=>hlt x (by simp [hx])) (fun x hx=>hsp x (by simp [hx]))
 have hresd:∀ (b:Nat) (sp:Nat→Bool) (hd:Bool),DataW.TrodAll enc P W' b sp hd f.resultTypes.toList ((Value.bool true).resultList f.resultTypes.size) (s.fn H (ds++[])).results []:=fun b sp hd=>by
  rw [hres,hsr];exact trodAll_mk1 (shut_bool htb _)
 have hvars:∀ sp:Nat→Bool,DataW.TrodVars enc P W' sp s.vars (s.fn H (ds++[])).vars []:=fun sp=>by rw [hsv,hv];rfl
 have hold:∀ x ∈ p++[],(fun b=>decide (b < W.heap.size)) x.block=true:=fun x hx=>by simpa using hlt x hx
 refine ⟨ds,[],p++[],[],p,[],hW2,hresd _ _ _,hargs _ hold,hvars _,World.keptBut_mono (fun x hx=>⟨hx,.inr (by simpa using hx)⟩) (hst.kept _),fun _=>⟨ok_one hres rfl (okWide_bool_mk htb _),_,_,([]++p)++[],⟨[]++p,[],trodAll_append (hargs _ (fun _ _=>rfl)) (hresd _ _ _),hvars _,rfl,?_,?_⟩,?_⟩⟩
 ·intro b off hx;have hx' : MemPlace.cell b off ∈ p++[]:=by simpa using hx
  rw [hst.froz _ (hlt _ hx')];exact hfz b off hx'
 ·intro ha;simpa using hnd ha
 ·intro x hx _;simpa using hx
abbrev Slot:=Option (AObj × Loc)
def Z8 (slots:List Slot):Heap where
 next:=slots.length
 get:=fun id=>((slots[id]?).join).map (·.1)
 wf:=fun id hid=>by simp [List.getElem?_eq_none hid]
def zc9 (slots:List Slot):Ren:=fun id=>((slots[id]?).join).map (·.2)
def qc4 (W:World) (s:Slot):Prop:=∀ o l,s=some (o,l)→l.b < W.heap.size∧o.own=false ∧ ∀ ρ,ObjR W.heap.size ρ W l o
theorem Sim.start {W:World}{slots:List Slot}(hglob:Yr W.heap.size W) (h:∀ s ∈ slots,qc4 W s):Sim W.heap.size (Z8 slots).get (zc9 slots) W:=by
 have key:∀ id o l,(Z8 slots).get id=some o→zc9 slots id=some l→l.b < W.heap.size∧o.own=false ∧ ∀ ρ,ObjR W.heap.size ρ W l o:=by
  intro id o l h1 h2;simp only [Z8,Option.map_eq_some_iff] at h1;simp only [zc9,Option.map_eq_some_iff] at h2;obtain ⟨x,hx,rfl⟩:=h1;obtain ⟨y,hy,rfl⟩:=h2;rw [hx] at hy;cases hy;rw [Option.join_eq_some_iff] at hx;exact h _ (List.mem_of_getElem? hx) x.1 x.2 rfl
 have dom:∀ id,((Z8 slots).get id).isSome=(zc9 slots id).isSome:=fun id=>by simp [Z8,zc9]
 refine ⟨dom,Nat.le_refl _,fun id l hl=>?_,fun id o l hg hl=>(key id o l hg hl).2.2 _,fun i j oi oj li lj gi gj ri rj hne ho hd=>?_,hglob⟩
 ·have h1:=dom id;rw [hl] at h1;obtain ⟨o,ho⟩:=Option.isSome_iff_exists.1 h1;exact (key id o l ho hl).1
 ·rw [(key i oi li gi ri).2.1] at ho;cases ho
theorem calls_of {f:FuncId}{W:World}{args:lVq}{slots:List Slot}{absArgs:lVq}(hglob:Yr W.heap.size W) (hs:∀ s ∈ slots,qc4 W s) (ha:VRs (zc9 slots) absArgs args) (hc:CallW P f absArgs (Z8 slots) fun v _=>v = .bool true) :
  Calls P f args.toArray W fun e W'=>e = .returned (.bool true)∧WStep W.heap.size W W':=by
 obtain ⟨v,h',ht,rfl⟩:=hc;have hfr:Fresh (zc9 slots) (Z8 slots).next h'.next:=fun id h1 _=>by
  simp only [zc9];rw [List.getElem?_eq_none h1];rfl
 refine (ht.2.2 W.heap.size (Z8 slots).get (zc9 slots) W args (fun _ _ h=>h) hfr (Sim.start hglob hs) ha).mono fun e W' ⟨v',ρ',he,hok⟩=>?_;have:=hok.val.bool;subst this;exact ⟨he,hok.step⟩
def zx3 (P:Program) (e c:Nat):Prop:=∀ {H:Type}(enc:TypeId × Value→H) (W:World) (n:Nat) (cells:lVq) (x:DataW H × List MemPlace),DataW.trod enc P W 0 (fun _=>true) true n e cells=some x → ∃ l:List Int,l.length=c∧cells=l.map (.int .i64) ∧ ∀ z ∈ l,(Lit.int .i64 z).wf=true
theorem zx1 {e:TypeId}(he:P.underlying e=some (.int .i64)):zx3 P e 1:=fun enc W n cells x h=>by
 obtain ⟨z,rfl,_,hz⟩:=DataW.trod_int he h;exact ⟨[z],rfl,rfl,by simpa using hz⟩
theorem chunks (c:Nat) (cells:lVq):∀ (n:Nat),(∀ i,i < n → ∃ l:List Int,l.length=c∧(cells.drop (i * c)).take c=l.map (.int .i64) ∧ ∀ z ∈ l,(Lit.int .i64 z).wf=true) →
  ∃ l:List Int,l.length=n * c∧cells.take (n * c)=l.map (.int .i64) ∧ ∀ z ∈ l,(Lit.int .i64 z).wf=true
 | 0,_=>⟨[],by simp,by simp,by simp⟩
 | n + 1,h=>by
  obtain ⟨l,h1,h2,h3⟩:=chunks c cells n fun i hi=>h i (by omega);obtain ⟨m,k1,k2,k3⟩:=h n (by omega);refine ⟨l++m,by rw [List.length_append,h1,k1,Nat.succ_mul],?_,?_⟩
  ·rw [Nat.succ_mul,List.take_add,h2,k2,List.map_append]
  ·intro z hz;rcases List.mem_append.1 hz with hz | hz
   ·exact h3 z hz
   ·exact k3 z hz
def Yn (i n c:Nat) (isNil:Bool):Value:=if isNil then .slice none 0 0 else .slice (some ⟨i,0,none⟩) n c
theorem X6 (b off n:Nat):Addr.add ⟨b,off,none⟩ n=⟨b,off + n,none⟩:=by
 by_cases h:n=0
 ·subst h;simp [Addr.add]
 ·simp [Addr.add,h]
theorem Wh {W:World}{t e:TypeId}{c:Nat}{v:Value}{d:DataW H}{p:List MemPlace}{r:Reach}{b0:Nat}(ht:P.underlying t=some (.slice e)) (hc:P.cellsOf e=c) (hc0:0 < c) (he:zx3 P e c) (hval:Value.okWide P W r b0 t v)
  (hd:DataW.Trod enc P W 0 (fun _=>true) true t v d p) :
  ∃ (n:Nat) (l:List Int) (isNil:Bool) (s:Slot),l.length=n * c∧(∀ z ∈ l,(Lit.int .i64 z).wf=true)∧(n:Int)≤9223372036854775807∧(isNil=true→n=0)∧qc4 W s∧(isNil=false → ∃ loc,s=some (.blk (l.map (.int .i64)) false,loc)) ∧
   ∀ (ρ:Ren) (i:Nat),ρ i=s.map (·.2)→VR ρ (Yn i n c isNil) v:=by
 have hval' : Cell.ok P W r b0 t v:=by
  simp only [Value.okWide,ht] at hval;cases v<;>simpa [Cell.okWide,ht] using hval
 have hone:v.cells.toList=[v]:=by cases v<;>first | rfl | (simp [Cell.ok,ht] at hval';done)
 obtain ⟨fuel,hd⟩:=hd;rw [hone] at hd;rcases Deep.open_slice ht hd with ⟨h0,_⟩ | ⟨a,len,cap,m,n,D,Pl,h0,hb,hlc,hcm,hm,_,hx⟩
 ·have:v = .slice none 0 0:=by simpa using h0
  subst this;exact ⟨0,[],true,none,by simp,by simp,by simp,fun _=>rfl,fun o l h=>by simp at h,fun h=>by simp at h,fun ρ i _=>VR.same _ rfl⟩
 ·have:v = .slice (some a) len cap:=by simpa using h0
  subst this;simp only [Cell.ok,ht] at hval';obtain ⟨_,hcap,_,hspot,row,cells,hsh,_⟩:=hval';simp only [if_true] at hm;subst hm;unfold World.shape? at hsh;split at hsh<;>first | (cases hsh;done) | skip
  rename_i cs el fz hheap;obtain ⟨b,off,spot⟩:=a;simp only at hspot hheap;subst hspot;rw [hc] at hx;have hcell:∀ j,j < m * c → ∃ z,cs[off + j]? = some z:=by
   intro j hj;have hi:j / c < m:=(Nat.div_lt_iff_lt_mul hc0).2 hj;obtain ⟨cs',h1,_⟩:=hx (j / c) hi;obtain ⟨_,hl,hcc⟩:=World.cells?_some h1;have hjm:j % c < c:=Nat.mod_lt _ hc0;have h2:=hcc (j % c) hjm;rw [List.getElem?_eq_getElem (by omega),X6,X6,cell_of_row W b _ cs el fz hheap] at h2;refine ⟨cs'[j % c]'(by omega),?_⟩
   ·have e1:off + j / c * c + j % c=off + j:=by rw [Nat.add_assoc,Nat.div_add_mod' j c]
    rw [e1] at h2;exact h2
  have hsz:m=0∨off + m * c≤cs.size:=by
   rcases Nat.eq_zero_or_pos m with h | h
   ·exact .inl h
   ·right;have h1:0 < m * c:=Nat.mul_pos h hc0;obtain ⟨z,hz⟩:=hcell (m * c - 1) (by omega);have:=(Array.getElem?_eq_some_iff.1 hz).1;omega
  have hch:∀ i,i < len → ∃ l:List Int,l.length=c∧((cs.toList.drop off).drop (i * c)).take c=l.map (.int .i64) ∧ ∀ z ∈ l,(Lit.int .i64 z).wf=true:=by
   intro i hi;obtain ⟨cs',h1,h2⟩:=hx i (by omega);obtain ⟨l,k1,k2,k3⟩:=he enc W _ _ _ h2;refine ⟨l,k1,?_,k3⟩;rw [← k2];obtain ⟨_,hl,hcc⟩:=World.cells?_some h1;apply List.ext_getElem?;intro j;by_cases hj:j < c
   ·have h3:=hcc j hj;rw [X6,X6,cell_of_row W b _ cs el fz hheap] at h3;rw [List.getElem?_take_of_lt hj,List.getElem?_drop,List.getElem?_drop,← h3];simp [Nat.add_assoc]
   ·rw [List.getElem?_eq_none (by simp;omega),List.getElem?_eq_none (by omega)]
  obtain ⟨l,k1,k2,k3⟩:=chunks c (cs.toList.drop off) len hch;refine ⟨len,l,false,some (.blk (l.map (.int .i64)) false,⟨b,if m=0 then 0 else off,cs.size⟩),k1,k3,?_,fun h=>(Bool.false_ne_true h).elim,?_,fun _=>⟨_,rfl⟩,fun ρ i hρ=>?_⟩
  ·have:IntKind.i64.max=9223372036854775807:=rfl;omega
  ·intro o loc h;cases h;refine ⟨(Array.getElem?_eq_some_iff.1 hheap).1,rfl,fun ρ=>⟨cs,el,fz,hheap,rfl,?_,fun i v hv=>?_,fun h=>by cases h⟩⟩
   ·simp only [List.length_map,k1];rcases hsz with h | h
    ·have:len=0:=by omega
     simp [h,this]
    ·have:len * c≤m * c:=Nat.mul_le_mul_right _ hlc;split<;>omega
   ·have hil:i < len * c:=by
     have:=(List.getElem?_eq_some_iff.1 hv).1;simpa [k1] using this
    have hm0:¬ m=0:=fun e=>by
     have:len=0:=by omega
     rw [this] at hil;omega
    simp only [hm0,if_false];have hint:∃ z:Int,v = .int .i64 z:=by
     have:=List.mem_of_getElem? hv;obtain ⟨z,_,rfl⟩:=List.mem_map.1 this;exact ⟨z,rfl⟩
    obtain ⟨z,rfl⟩:=hint;rw [← k2,List.getElem?_take_of_lt hil,List.getElem?_drop] at hv;exact ⟨_,by simpa using hv,.same _ rfl,rfl⟩
  ·refine .slice i 0 off len c m _ hρ hlc ?_;by_cases hm0:m=0
   ·right;omega
   ·left;simp only [hm0,if_false];rcases hsz with h | h
    ·exact absurd h hm0
    ·exact ⟨by simp,by simpa using h⟩
end Go.Eng
namespace Go.Eng
open Go
variable {P:Program}
def contW (P:Program) (r:List SOp) (ts env:lVq) (Q:lVq→Heap→Prop):List Nat→vPq:=fun D v h=>RegW P r D (v::ts) env h Q
def yi6 (P:Program) (k:K) (q:Bool) (D:List Nat) (h:Heap) (Q:List Nat→vPq):lVq→Prop:=fun vs=>ActW P k q D vs h Q
def opK (P:Program) (k:K) (args:List Arg) (q:Bool) (D:List Nat) (ts env:lVq) (h:Heap) (Q:List Nat→vPq):Prop:=ka (evs ts env args) (yi6 P k q D h Q)
def zr1 (P:Program) (w:Bool) (k:K) (args:List Arg) (q:Bool) (D:List Nat) (ts env:lVq) (h:Heap) (Q:List Nat→vPq):Value→Prop
 | .bool b=>(b=w→opK P k args q D ts env h Q)∧(b = !w→Q D undef h)
 | _=>Q D undef h
def zt9 (Q:vPq) (h:Heap):Value→Prop:=fun v=>Q v h
def allocK (Q:vPq) (h:Heap):lVq × (Nat→Value)→Prop:=fun r=>Q (r.2 h.next) (h.alloc (.blk r.1 true))
def yj8 (Q:vPq):Value × Heap→Prop:=fun r=>Q r.1 r.2
def regQ (Q:AExit→lVq→Heap→Prop) (o:List (Nat × Nat)) (e:lVq):lVq→Heap→Prop:=fun ts h=>Q .normal (upd ts o e) h
def rcQ (P:Program) (N:Nat) (vars:List Nat) (Q:AExit→lVq→Heap→Prop) (o:List (Nat × Nat)) (e:lVq) (d:Nat) (a b:CCode):lVq→Heap→Prop:=fun ts h=>zu8 ts[d]? (W P N vars a Q (upd ts o e) h) (W P N vars b Q (upd ts o e) h)
def cndK (P:Program) (N:Nat) (vars:List Nat) (a b:CCode) (Q:AExit→lVq→Heap→Prop) (e:lVq) (h:Heap):Value→Prop
 | .bool c=>(c=true→W P N vars a Q e h)∧(c=false→W P N vars b Q e h)
 | _=>False
theorem yd5 (D:List Nat) (ts env:lVq) (h:Heap) (Q:lVq→Heap→Prop):RegW P [] D ts env h Q=Q ts h:=rfl
theorem zr0 (j:Nat) (k:K) (args:List Arg) (q:Bool) (r:List SOp) (D:List Nat) (ts env:lVq) (h:Heap) (Q:lVq→Heap→Prop) :
  RegW P (⟨j,k,args,none,q⟩::r) D ts env h Q=ka (evs ts env args) (yi6 P k q D h (contW P r ts env Q)):=rfl
theorem zq9 (j:Nat) (k:K) (args:List Arg) (d:Nat) (w:Bool) (q:Bool) (r:List SOp) (D:List Nat) (ts env:lVq) (h:Heap) (Q:lVq→Heap→Prop) :
  RegW P (⟨j,k,args,some (d,w),q⟩::r) D ts env h Q=ka ts[d]? (zr1 P w k args q D ts env h (contW P r ts env Q)):=by
 simp only [RegW,OpW,ys4];cases ts[d]? with
 | none=>rfl
 | some v=>cases v<;>rfl
theorem zo7 (r:List SOp) (D:List Nat) (ts env:lVq) (Q:lVq→Heap→Prop) (v:Value) (h:Heap):contW P r ts env Q D v h=RegW P r D (v::ts) env h Q:=rfl
section
variable (k:K) (args:List Arg) (q:Bool) (D:List Nat) (ts env:lVq) (h:Heap) (Q:List Nat→vPq)
theorem ys5:zr1 P true k args q D ts env h Q (.bool true)=ka (evs ts env args) (yi6 P k q D h Q):=by simp [zr1,opK]
theorem ys8:zr1 P false k args q D ts env h Q (.bool false)=ka (evs ts env args) (yi6 P k q D h Q):=by simp [zr1,opK]
theorem ys6:zr1 P true k args q D ts env h Q (.bool false)=Q D undef h:=by simp [zr1]
theorem ys7:zr1 P false k args q D ts env h Q (.bool true)=Q D undef h:=by simp [zr1]
theorem za3 (w:Bool):zr1 P w k args q D ts env h Q undef=Q D undef h:=rfl
theorem actK_p (k:PK) (vs:lVq):yi6 P (.p k) q D h Q vs=ka (aP k vs) (zt9 (Q D) h):=rfl
theorem actK_r (k:RK) (vs:lVq):yi6 P (.r k) q D h Q vs=ka (rdK D vs (aR k vs h.get)) (zt9 (Q D) h):=rfl
theorem actK_a (k:AK) (vs:lVq):yi6 P (.a k) q D h Q vs=ka (aA k vs) (allocK (Q D) h):=rfl
theorem actK_w (k:WK) (vs:lVq):yi6 P (.w k) false D h Q vs=ka (aW k vs h) (yj8 (Q D)):=rfl
theorem qb8 (k:WK) (vs:lVq):yi6 P (.w k) true D h Q vs=ka (aW k vs h) (yj8 (ye0 D h Q)):=rfl
theorem zq7 (f:FuncId) (vs:lVq):yi6 P (.call f) false D h Q vs=CallW P f vs h (Q D):=rfl
theorem zb4 (f:FuncId) (vs:lVq):yi6 P (.call f) true D h Q vs=CallW P f vs h (ye0 D h Q):=rfl
theorem zb3 (fv:Value) (args:lVq):yi6 P .callV false D h Q (fv::args)=ValW P fv args h (Q D):=rfl
theorem V9 (fv:Value) (args:lVq):yi6 P .callV true D h Q (fv::args)=ValW P fv args h (ye0 D h Q):=rfl
end
theorem ym4 (vs:lVq) (o:Option Value):rdK [] vs o=o:=by
 unfold rdK;split<;>simp
theorem ym3 (p:Nat) (D:List Nat) (a:Addr) (r:lVq) (o:Option Value):rdK (p::D) (.pointer (some a)::r) o=if a.block == p then none else rdK D (.pointer (some a)::r) o:=by
 simp only [rdK,yi2,List.contains_cons];by_cases h:a.block == p<;>simp [h]
theorem zb9 {D:List Nat}{h h' : Heap}{Q:List Nat→vPq}{v:Value}(he:h.ext h') (hq:Q D v h'):ye0 D h Q v h':=⟨D,fun _ h=>h,fun id o _ hg=>he id o hg,hq⟩
theorem zn3 (Q:vPq) (h:Heap) (v:Value):zt9 Q h v=Q v h:=rfl
theorem zb1 (Q:vPq) (h:Heap) (l:lVq) (m:Nat→Value):allocK Q h (l,m)=Q (m h.next) (h.alloc (.blk l true)):=rfl
theorem Ui (Q:vPq) (v:Value) (h:Heap):yj8 Q (v,h)=Q v h:=rfl
theorem zz0 (Q:AExit→lVq→Heap→Prop) (o:List (Nat × Nat)) (e ts:lVq) (h:Heap):regQ Q o e ts h=Q .normal (upd ts o e) h:=rfl
section
variable {N:Nat}{vars:List Nat}{Q:AExit→lVq→Heap→Prop}{e:lVq}{h:Heap}
theorem ym7 (o:List (Nat × Nat)) (d:Nat) (a b:CCode) (ts:lVq):rcQ P N vars Q o e d a b ts h=ka ts[d]? (cndK P N vars a b Q (upd ts o e) h):=by
 simp only [rcQ,zu8];cases ts[d]? with
 | none=>rfl
 | some v=>cases v<;>rfl
theorem cndK_t (a b:CCode):cndK P N vars a b Q e h (.bool true)=W P N vars a Q e h:=by simp [cndK]
theorem cndK_f (a b:CCode):cndK P N vars a b Q e h (.bool false)=W P N vars b Q e h:=by simp [cndK]
theorem W_skip:W P N vars .skip Q e h=Q .normal e h:=rfl
theorem W_reg (s:List SOp) (o:List (Nat × Nat)):W P N vars (.reg s o) Q e h=RegW P s [] [] e h (regQ Q o e):=rfl
theorem W_seq (a b:CCode):W P N vars (.seq a b) Q e h=W P N vars a (zc1 (W P N vars b Q) Q) e h:=rfl
theorem qc1 (s:List SOp) (o:List (Nat × Nat)) (d:Nat) (a b:CCode):W P N vars (.rcond s o d a b) Q e h=RegW P s [] [] e h (rcQ P N vars Q o e d a b):=rfl
theorem W_cond (x:Arg) (a b:CCode):W P N vars (.cond x a b) Q e h=ka (x.ev [] e) (cndK P N vars a b Q e h):=by
 simp only [W,zu8];cases x.ev [] e with
 | none=>rfl
 | some v=>cases v<;>rfl
theorem qc2 (id:Nat) (c:CCode):W P N vars (.block id c) Q e h=W P N vars c (Jd id Q) e h:=rfl
theorem W_loop (c:CCode):W P N vars (.loop c) Q e h=LoopW P N vars c e h Q:=rfl
theorem W_exit (id:Nat):W P N vars (.exit id) Q e h=Q (.exit id) e h:=rfl
theorem W_ret:W P N vars .ret Q e h=Q .ret e h:=rfl
theorem Js (next:lVq→Heap→Prop):zc1 next Q .normal e h=next e h:=rfl
theorem Um (next:lVq→Heap→Prop) (i:Nat):zc1 next Q (.exit i) e h=Q (.exit i) e h:=rfl
theorem zj9 (next:lVq→Heap→Prop):zc1 next Q .ret e h=Q .ret e h:=rfl
theorem Jc (id:Nat):Jd id Q .normal e h=Q .normal e h:=rfl
theorem zb0 (id:Nat):Jd id Q .ret e h=Q .ret e h:=rfl
theorem V7 (id:Nat):Jd id Q (.exit id) e h=Q .normal e h:=by simp [Jd]
theorem V8 (id i:Nat) (hi:(i == id)=false):Jd id Q (.exit i) e h=Q (.exit i) e h:=by
 have:i≠id:=by simpa using hi
 simp [Jd,this]
end
end Go.Eng
namespace Go.Eng
open Go
variable {P:Program}
def ret1 (k:Nat) (Q:vPq):AExit→lVq→Heap→Prop
 | .exit _,_,_=>False
 | .normal,e,h=>ka e[k]? fun v=>Q v h
 | .ret,e,h=>ka e[k]? fun v=>Q v h
theorem zy8 (k:Nat) (Q:vPq) (e:lVq) (h:Heap):ret1 k Q .ret e h=ka e[k]? (zt9 Q h):=rfl
theorem Wk (k:Nat) (Q:vPq) (e:lVq) (h:Heap):ret1 k Q .normal e h=ka e[k]? (zt9 Q h):=rfl
def ret0 (Q:vPq):AExit→lVq→Heap→Prop
 | .exit _,_,_=>False
 | .normal,_,h=>Q (.tuple #[]) h
 | .ret,_,h=>Q (.tuple #[]) h
theorem zy9 (Q:vPq) (e:lVq) (h:Heap):ret0 Q .ret e h=Q (.tuple #[]) h:=rfl
theorem Wl (Q:vPq) (e:lVq) (h:Heap):ret0 Q .normal e h=Q (.tuple #[]) h:=rfl
def ret2 (k j:Nat) (Q:vPq):AExit→lVq→Heap→Prop
 | .exit _,_,_=>False
 | .normal,e,h=>ka e[k]? fun v=>ka e[j]? fun u=>Q (.tuple #[v,u]) h
 | .ret,e,h=>ka e[k]? fun v=>ka e[j]? fun u=>Q (.tuple #[v,u]) h
theorem W.mono {N:Nat}{vars:List Nat}{c:CCode}{e:lVq}{h:Heap}{Q Q' : AExit→lVq→Heap→Prop}(hq:∀ x e h,Q x e h→Q' x e h) (hw:qc9 P N vars c e h Q):qc9 P N vars c e h Q' :=
 let ⟨x,e',h',t,q⟩:=hw;⟨x,e',h',t,hq _ _ _ q⟩
theorem Zs {f:FuncId}{cf:CFn}(hf:FnOk P f cf){args:lVq}{h:Heap}{Q:vPq}(hn:args.length=cf.nargs) (hb:∀ N,qc9 P N cf.vars cf.body (Ug cf args) h (RetQ cf h.next Q)):CallW P f args h Q:=by
 have hf':=hf;obtain ⟨fn,code,h1,h2,h3⟩:=hf.fn;obtain ⟨x,e',h',ht,hq⟩:=hb fn.ntmps;have fin' : (x = .normal∨x = .ret)→ka (qo e' (fin cf.body.noRange h.next h') cf.results) (fun vs=>Q (yl vs) (fin cf.body.noRange h.next h'))→CallW P f args h Q:=by
  intro hx hr;cases hres:qo e' (fin cf.body.noRange h.next h') cf.results with
  | none=>rw [hres] at hr;exact hr.elim
  | some vs =>
   rw [hres] at hr;exact ⟨yl vs,_,CallT.of_body_at hf' hn h1 ⟨x,e',vs,h',ht,hx,rfl,hres,rfl⟩,hr⟩
 cases x with
 | normal=>exact fin' (.inl rfl) hq
 | ret=>exact fin' (.inr rfl) hq
 | exit i=>exact hq.elim
theorem zg {f:FuncId}{cf:CFn}(hf:FnOk P f cf){args:lVq}{h:Heap}{Q:vPq}{k:Nat}(hnr:cf.body.noRange=true) (hr:cf.results=[.var k]) (hn:args.length=cf.nargs)
  (hb:∀ N,W P N cf.vars cf.body (ret1 k Q) (Ug cf args) h):CallW P f args h Q:=by
 refine Zs hf hn fun N=>W.mono ?_ (hb N).sound;intro x e h' hq;have key:ka e[k]? (fun v=>Q v h')→ka (qo e (fin cf.body.noRange h.next h') cf.results) fun vs=>Q (yl vs) (fin cf.body.noRange h.next h'):=by
  intro hq;rw [hnr,hr];cases he:e[k]? with
  | none=>rw [he] at hq;exact hq.elim
  | some v=>rw [he] at hq;simpa [qo,ResArg.get,he,ka,yl,fin] using hq
 cases x with
 | exit i=>exact hq.elim
 | normal=>exact key hq
 | ret=>exact key hq
theorem Kt {f:FuncId}{cf:CFn}(hf:FnOk P f cf){args:lVq}{h:Heap}{Q:vPq}(hnr:cf.body.noRange=true) (hr:cf.results=[]) (hn:args.length=cf.nargs)
  (hb:∀ N,W P N cf.vars cf.body (ret0 Q) (Ug cf args) h):CallW P f args h Q:=by
 refine Zs hf hn fun N=>W.mono ?_ (hb N).sound;intro x e h' hq;cases x with
 | exit i=>exact hq.elim
 | normal=>simp only [RetQ,hnr,hr,qo,ka,yl,fin];exact hq
 | ret=>simp only [RetQ,hnr,hr,qo,ka,yl,fin];exact hq
end Go.Eng
namespace Go.Eng
open Go
variable {P:Program}
structure Heap.le (h h' : Heap):Prop where
 sub:h.sub h'
 next:h.next≤h'.next
theorem Heap.le.refl (h:Heap):h.le h:=⟨fun _ _ h=>h,Nat.le_refl _⟩
theorem Heap.le.trans {a b c:Heap}(h:a.le b) (h' : b.le c):a.le c:=⟨fun id o e=>h'.sub id o (h.sub id o e),Nat.le_trans h.next h'.next⟩
theorem Heap.le.alloc {a b:Heap}(h:a.le b) (o:AObj):a.le (b.alloc o):=h.trans ⟨fun id o' e=>by rw [Heap.get_alloc_lt (Heap.lt_of_get e)];exact e,by simp⟩
theorem Heap.le.set {a b:Heap}(h:a.le b){i:Nat}(hi:a.next≤i) (o:AObj):a.le (b.set i o):=⟨fun id o' e=>by
 have:=Heap.lt_of_get e;rw [Heap.get_set,if_neg (by omega)];exact h.sub id o' e,h.next⟩
theorem Heap.le.get {a b:Heap}(h:a.le b){i:Nat}{o:AObj}(e:a.get i=some o):b.get i=some o:=h.sub i o e
theorem Heap.le.sweep {a b:Heap}(h:a.le b):a.le (b.sweep a.next):=⟨fun id o e=>by
 have hl:=Heap.lt_of_get e;have:=h.sub id o e;rcases b.sweep_get a.next id with e' | ⟨_,_,e'⟩
 ·rw [e'];exact this
 ·omega,h.next⟩
theorem Heap.le.getE {a b:Heap}(h:a.le b) (i:Nat) (hs:(a.get i).isSome=true):b.get i=a.get i:=by
 obtain ⟨o,ho⟩:=Option.isSome_iff_exists.1 hs;rw [ho];exact h.sub _ _ ho
theorem Heap.alloc_getE (h:Heap) (o:AObj) (i:Nat) (hs:(h.get i).isSome=true):(h.alloc o).get i=h.get i:=by
 obtain ⟨o',ho⟩:=Option.isSome_iff_exists.1 hs;exact Heap.get_alloc_lt (Heap.lt_of_get ho)
theorem Heap.set_getE (h:Heap) (o:AObj) (i j:Nat) (hs:(j == i)=false):(h.set i o).get j=h.get j:=by
 rw [Heap.get_set,if_neg];intro e;simp [e.1] at hs
theorem Heap.set_getS (h:Heap) (o:AObj) (i:Nat) (hs:(h.get i).isSome=true):(h.set i o).get i=some o:=by
 obtain ⟨o',ho⟩:=Option.isSome_iff_exists.1 hs;rw [Heap.get_set,if_pos ⟨rfl,Heap.lt_of_get ho⟩]
structure Heap.leBut (i:Nat) (h h' : Heap):Prop where
 get:∀ j,j≠i→(h.get j).isSome=true→h'.get j=h.get j
 next:h.next≤h'.next
theorem Heap.le.but {h h' : Heap}(hl:h.le h') (i:Nat):h.leBut i h':=⟨fun j _ hs=>hl.getE j hs,hl.next⟩
theorem Heap.leBut.refl (i:Nat) (h:Heap):h.leBut i h:=⟨fun _ _ _=>rfl,Nat.le_refl _⟩
theorem Heap.leBut.trans {i:Nat}{a b c:Heap}(h:a.leBut i b) (h' : b.leBut i c):a.leBut i c :=
 ⟨fun j hj hs=>by rw [h'.get j hj (by rw [h.get j hj hs];exact hs),h.get j hj hs],Nat.le_trans h.next h'.next⟩
theorem Heap.leBut.set (i:Nat) (h:Heap) (o:AObj):h.leBut i (h.set i o):=⟨fun j hj _=>Heap.set_getE _ _ _ _ (by simpa using hj),Nat.le_refl _⟩
def At (h:Heap) (id off s:Nat) (xs:List (lVq)):Prop :=
 ∃ cells own,h.get id=some (.blk cells own) ∧ ∀ (i:Nat) x,xs[i]? = some x→x.length=s∧off + i * s + s≤cells.length∧(cells.drop (off + i * s)).take s=x
def SlV (h:Heap) (s:Nat) (v:Value) (xs:List (lVq)):Prop :=
 (v = .slice none 0 0∧xs=[]) ∨ ∃ id off,v = .slice (some ⟨id,off,none⟩) xs.length s∧(xs=[]∨At h id off s xs)
theorem At.mono {h h' : Heap}(hl:h.le h'){id off s:Nat}{xs:List (lVq)}(ha:At h id off s xs):At h' id off s xs :=
 let ⟨c,o,hg,hx⟩:=ha;⟨c,o,hl.get hg,hx⟩
theorem SlV.mono {h h' : Heap}(hl:h.le h'){s:Nat}{v:Value}{xs:List (lVq)}(ha:SlV h s v xs):SlV h' s v xs:=by
 rcases ha with ha | ⟨id,off,hv,ha⟩
 ·exact .inl ha
 ·exact .inr ⟨id,off,hv,ha.imp (fun e=>e) (·.mono hl)⟩
theorem SlV.len {h:Heap}{s:Nat}{v:Value}{xs:List (lVq)}(ha:SlV h s v xs):ua [v]=some (.int .i64 xs.length):=by
 rcases ha with ⟨rfl,rfl⟩ | ⟨id,off,rfl,_⟩<;>rfl
theorem SlV.elem {h:Heap}{s:Nat}{v:Value}{xs:List (lVq)}(ha:SlV h s v xs){i:Nat}{x:lVq}(hi:xs[i]? = some x) :
  ∃ id off cells own,zp s [v,.int .i64 i]=some (.pointer (some ⟨id,off,none⟩))∧h.get id=some (.blk cells own)∧qu true off s cells=some (.agg x.toArray) ∧ ∀ j,j < s→cells[off + j]? = x[j]?:=by
 have hlt:=(List.getElem?_eq_some_iff.1 hi).1;rcases ha with ⟨rfl,rfl⟩ | ⟨id,off,rfl,ha⟩
 ·simp at hi
 ·rcases ha with rfl | ⟨cells,own,hg,hx⟩
  ·simp at hi
  ·obtain ⟨h1,h2,h3⟩:=hx i x hi;refine ⟨id,off + i * s,cells,own,?_,hg,?_,fun j hj=>?_⟩
   ·simp [zp,hlt]
   ·simp [qu,h2,h3]
   ·rw [← h3,List.getElem?_take_of_lt hj,List.getElem?_drop]
theorem SlV.part {h:Heap}{s:Nat}{v:Value}{xs:List (lVq)}(ha:SlV h s v xs){a b:Nat}(hab:a≤b) (hb:b≤xs.length) :
  ∃ w,jo s true true [v,.int .i64 a,.int .i64 b]=some w∧SlV h s w ((xs.take b).drop a):=by
 rcases ha with ⟨rfl,rfl⟩ | ⟨id,off,rfl,ha⟩
 ·simp only [List.length_nil,Nat.le_zero_eq] at hb;subst hb;have:a=0:=by omega
  subst this;exact ⟨_,by simp [jo,Uh],.inl ⟨rfl,by simp⟩⟩
 ·refine ⟨.slice (some ⟨id,off + a * s,none⟩) (b - a) s,?_,.inr ⟨id,off + a * s,?_,?_⟩⟩
  ·simp only [jo,if_true,Uh];rw [if_pos (by omega)];simp
  ·simp [Nat.min_eq_left hb]
  ·rcases ha with rfl | ⟨cells,own,hg,hx⟩
   ·left;simp
   ·right;refine ⟨cells,own,hg,fun i x hi=>?_⟩;rw [List.getElem?_drop,List.getElem?_take] at hi;split at hi
    ·obtain ⟨h1,h2,h3⟩:=hx _ _ hi;rw [Nat.add_mul,← Nat.add_assoc] at h2 h3;exact ⟨h1,h2,h3⟩
    ·cases hi
theorem SlV.partHi {h:Heap}{s:Nat}{v:Value}{xs:List (lVq)}(ha:SlV h s v xs){b:Nat}(hb:b≤xs.length) :
  ∃ w,jo s false true [v,.int .i64 b]=some w∧SlV h s w (xs.take b):=by
 obtain ⟨w,h1,h2⟩:=ha.part (Nat.zero_le b) hb;refine ⟨w,?_,by simpa using h2⟩;rw [← h1];rcases ha with ⟨rfl,rfl⟩ | ⟨id,off,rfl,ha⟩<;>simp [jo,Uh]
def OwnS (h0 h:Heap) (s:Nat) (v:Value) (xs:List (lVq)):Prop :=
 (v = .slice none 0 0∧xs=[]) ∨ ∃ id,v = .slice (some ⟨id,0,none⟩) xs.length s∧h0.next≤id∧h.get id=some (.blk xs.flatten true)∧(∀ x ∈ xs,x.length=s)
theorem OwnS.weak {h0 h1 h:Heap}(hl:h0.next≤h1.next){s:Nat}{v:Value}{xs:List (lVq)}(ha:OwnS h1 h s v xs):OwnS h0 h s v xs:=by
 rcases ha with ha | ⟨id,hv,hi,hg,hx⟩
 ·exact .inl ha
 ·exact .inr ⟨id,hv,Nat.le_trans hl hi,hg,hx⟩
theorem OwnS.nil (h0 h:Heap) (s:Nat):OwnS h0 h s (.slice none 0 0) []:=.inl ⟨rfl,rfl⟩
theorem yw {s:Nat}:∀ {xs:List (lVq)},(∀ x ∈ xs,x.length=s) → ∀ (i:Nat) x,xs[i]? = some x→i * s + s≤xs.flatten.length∧(xs.flatten.drop (i * s)).take s=x
 | [],_,i,x,h=>by simp at h
 | y::ys,hx,0,x,h=>by
  simp only [List.getElem?_cons_zero,Option.some.injEq] at h;subst h;have:=hx y (by simp);subst this;simp
 | y::ys,hx,i + 1,x,h=>by
  simp only [List.getElem?_cons_succ] at h;obtain ⟨h1,h2⟩:=yw (fun x hx'=>hx x (by simp [hx'])) i x h;have:=hx y (by simp);subst this;refine ⟨by rw [List.flatten_cons,List.length_append,Nat.succ_mul];omega,?_⟩;have e:(i + 1) * y.length=y.length + i * y.length:=by rw [Nat.succ_mul,Nat.add_comm]
  rw [List.flatten_cons,e,List.drop_append,List.drop_eq_nil_of_le (by omega)];simpa using h2
theorem Zp {s:Nat}:∀ {xs:List (lVq)},(∀ x ∈ xs,x.length=s)→xs.flatten.length=xs.length * s
 | [],_=>by simp
 | y::ys,hx=>by
  rw [List.flatten_cons,List.length_append,Zp (fun x hx'=>hx x (by simp [hx'])),hx y (by simp),List.length_cons,Nat.succ_mul,Nat.add_comm]
theorem OwnS.sl {h0 h:Heap}{s:Nat}{v:Value}{xs:List (lVq)}(ha:OwnS h0 h s v xs):SlV h s v xs:=by
 rcases ha with ha | ⟨id,hv,hi,hg,hx⟩
 ·exact .inl ha
 ·refine .inr ⟨id,0,hv,.inr ⟨_,_,hg,fun i x h=>?_⟩⟩;obtain ⟨h1,h2⟩:=yw hx i x h;exact ⟨hx x (List.mem_of_getElem? h),by omega,by simpa using h2⟩
def notOf (v:Value) (i:Nat):Prop:=∀ n s,v ≠ .slice (some ⟨i,0,none⟩) n s
theorem OwnS.append1 {h0 h:Heap}{s:Nat}{v:Value}{xs:List (lVq)}(ha:OwnS h0 h s v xs) (hle:h0.le h){x:lVq}(hx:x.length=s) (hs:0 < s){b:Nat}(hb:(xs.length + 1) * b≤140737488355328) (hb2:xs.length + 1≤9223372036854775807) :
  ∃ v' h',yq s b (h.alloc (.blk x true)) [v,.slice (some ⟨h.next,0,none⟩) 1 s]=some (v',h')∧OwnS h0 h' s v' (xs++[x])∧h0.le h' ∧ (∀ i,(h.get i).isSome=true→notOf v i→h'.get i=h.get i)∧(∀ i,(h.get i).isSome=true→notOf v' i)∧h.next≤h'.next:=by
 have hsrc:jy s (h.alloc (.blk x true)) (.slice (some ⟨h.next,0,none⟩) 1 s)=some x:=by
  subst hx;simp [jy]
 have hdiv:x.length / s=1:=by rw [hx];exact Nat.div_self hs
 rcases ha with ⟨rfl,rfl⟩ | ⟨id,rfl,hi,hg,hx'⟩
 ·have hg2:((h.alloc (.blk x true)).alloc (.blk x true)).get (h.next + 1)=some (.blk x true):=Heap.get_alloc_same (h.alloc (.blk x true)) _;refine ⟨.slice (some ⟨h.next + 1,0,none⟩) 1 s,(h.alloc (.blk x true)).alloc (.blk x true),?_,.inr ⟨h.next + 1,by simp,?_,by simpa using hg2,by simpa using hx⟩,(hle.alloc _).alloc _,?_,?_,?_⟩
  ·unfold yq;simp only [hsrc,hdiv];rw [if_neg (by omega),if_pos (by simp at hb;omega)];rfl
  ·have:=hle.next;omega
  ·intro i hi _;rw [Heap.alloc_getE,Heap.alloc_getE _ _ _ hi];rw [Heap.alloc_getE _ _ _ hi];exact hi
  ·intro i hi n s e;cases e;obtain ⟨o,ho⟩:=Option.isSome_iff_exists.1 hi;have:=Heap.lt_of_get ho;omega
  ·simp;omega
 ·have hlt:=Heap.lt_of_get hg;have hlen:=Zp hx';have hcell:(h.alloc (.blk x true)).get id=some (.blk xs.flatten true):=by rw [Heap.get_alloc_lt hlt];exact hg
  have hfl:(xs++[x]).flatten=xs.flatten++x:=by simp
  have hg2:(((h.alloc (.blk x true)).set id .dead).alloc (.blk (xs.flatten++x) true)).get (h.next + 1)=some (.blk (xs.flatten++x) true):=Heap.get_alloc_same ((h.alloc (.blk x true)).set id .dead) _;refine ⟨.slice (some ⟨h.next + 1,0,none⟩) (xs.length + 1) s,((h.alloc (.blk x true)).set id .dead).alloc (.blk (xs.flatten++x) true),?_,.inr ⟨h.next + 1,by simp,?_,by rw [hfl];exact hg2,?_⟩,((hle.alloc _).set hi _).alloc _,?_,?_,?_⟩
  ·unfold yq;simp only [hsrc,hdiv,hcell];rw [if_neg (by omega),if_pos ⟨trivial,hlen,hb,hb2⟩];rfl
  ·have:=hle.next;omega
  ·intro y hy;rcases List.mem_append.1 hy with hy | hy
   ·exact hx' y hy
   ·simp only [List.mem_singleton] at hy;rw [hy,hx]
  ·intro i hi hno;have hne:i≠id:=fun e=>by subst e;exact hno _ _ rfl
   have h1:((h.alloc (.blk x true)).set id .dead).get i=h.get i:=by
    rw [Heap.set_getE _ _ _ _ (by simpa using hne),Heap.alloc_getE _ _ _ hi]
   rw [Heap.alloc_getE _ _ _ (by rw [h1];exact hi),h1]
  ·intro i hi n s e;cases e;obtain ⟨o,ho⟩:=Option.isSome_iff_exists.1 hi;have:=Heap.lt_of_get ho;omega
  ·simp;omega
theorem yn8 (off s:Nat) (cs:lVq):qu false off s cs=cs[off]?:=rfl
structure Hid (p:Prop):Prop where
 h:p
theorem za {p:Prop}(h:p):Hid p:=⟨h⟩
theorem idx1 {id n j:Nat}(hj:j < n):zp 1 [.slice (some ⟨id,0,none⟩) n 1,.int .i64 (j:Int)]=some (.pointer (some ⟨id,j,none⟩)):=by
 simp [zp,hj]
theorem Heap.set_alloc (h:Heap) (a b:AObj):(h.alloc a).set h.next b=h.alloc b:=by
 simp only [Heap.alloc,Heap.set]
 congr 1
 funext id
 by_cases e:id=h.next
 ·simp [e]
 ·simp [e]
theorem zx {h:Heap}{size:Nat}{zs cs:lVq}{v:Value}(hv:v.cells.toList=cs) (hc:cs.length=size) (hz:zs.length=size) (h1:cs.all (·.oneCell')=true) :
  zt size (h.alloc (.blk zs true)) [.pointer (some ⟨h.next,0,none⟩),v]=some (undef,h.alloc (.blk cs true)):=by
 subst hv;have hd:zs.drop size=[]:=List.drop_eq_nil_of_le (by omega);simp only [zt,Heap.get_alloc_same];rw [if_pos ⟨hc,by omega,h1⟩];simp only [List.take_zero,List.nil_append,Nat.zero_add,hd,List.append_nil,Heap.set_alloc]
theorem z6 {h:Heap}{id off:Nat}{cells:lVq}{v:Value}(hg:h.get id=some (.blk cells true)) (ho:off < cells.length) (hv:v.cells.toList=[v]) (h1:v.oneCell' = true) :
  zt 1 h [.pointer (some ⟨id,off,none⟩),v]=some (undef,h.set id (.blk (cells.set off v) true)):=by
 simp only [zt,hg,hv];rw [if_pos ⟨rfl,by omega,by simp [h1]⟩,List.set_eq_take_append_cons_drop,if_pos ho];simp
theorem jw {h:Heap}{id off:Nat}{cells:lVq}{k:IntKind}{z:Int}(hg:h.get id=some (.blk cells true)) (ho:off < cells.length) :
  zt 1 h [.pointer (some ⟨id,off,none⟩),.int k z]=some (undef,h.set id (.blk (cells.set off (.int k z)) true)):=z6 hg ho rfl rfl
theorem ui {s:Nat}{zs cs:lVq}{v:Value}(hv:v.cells.toList=cs) (hc:cs.length=s) (hz:zs.length=s) (h1:cs.all (·.oneCell')=true) :
  yj zs [(0,s)] 1 s [v]=some (cs,fun id=>.slice (some ⟨id,0,none⟩) 1 s):=by
 subst hv;have hd:zs.drop s=[]:=List.drop_eq_nil_of_le (by omega);simp only [yj,List.length_cons,List.length_nil,if_true,List.zip_cons_cons,List.zip_nil_right,Zj];rw [if_pos ⟨hc,by omega,h1⟩];simp [hd]
section
variable {N:Nat}{vars:List Nat}{Q:AExit→lVq→Heap→Prop}{e:lVq}{h:Heap}
theorem kcd {a b:CCode}{p:Prop} [Decidable p] (ht:p→W P N vars a Q e h) (hf:¬ p→W P N vars b Q e h):cndK P N vars a b Q e h (.bool (decide p)):=⟨fun h=>ht (of_decide_eq_true h),fun h=>hf (of_decide_eq_false h)⟩
theorem kci {a b:CCode}{c:Bool}(ht:c=true→W P N vars a Q e h) (hf:c=false→W P N vars b Q e h):cndK P N vars a b Q e h (.bool c):=⟨ht,hf⟩
end
theorem kgd {w:Bool}{k:K}{args:List Arg}{q:Bool}{D:List Nat}{ts env:lVq}{h:Heap}{Q:List Nat→vPq}{p:Prop} [Decidable p] (h1:p→zr1 P w k args q D ts env h Q (.bool true)) (h2:¬ p→zr1 P w k args q D ts env h Q (.bool false)):zr1 P w k args q D ts env h Q (.bool (decide p)):=by
 by_cases hp:p
 ·simpa [hp] using h1 hp
 ·simpa [hp] using h2 hp
theorem kgi {w:Bool}{k:K}{args:List Arg}{q:Bool}{D:List Nat}{ts env:lVq}{h:Heap}{Q:List Nat→vPq}{c:Bool}(h1:c=true→zr1 P w k args q D ts env h Q (.bool true)) (h2:c=false→zr1 P w k args q D ts env h Q (.bool false)):zr1 P w k args q D ts env h Q (.bool c):=by
 cases c
 ·exact h2 rfl
 ·exact h1 rfl
theorem LoopW.roundC {N:Nat}{vars:List Nat}{c:CCode}{e:lVq}{h:Heap}{Q:AExit→lVq→Heap→Prop}(R:lVq→Heap→Prop) (hw:qc9 P N vars c e h (zc1 R Q)) (hR:∀ e1 h1,R e1 h1→LoopW P N vars c e1 h1 Q):LoopW P N vars c e h Q:=by
 obtain ⟨x,e1,h1,ht,hq⟩:=hw;cases x with
 | normal =>
  obtain ⟨x2,e2,h2,ht2,hq2⟩:=hR _ _ hq;exact ⟨_,_,_,.next ht ht2,hq2⟩
 | exit i=>exact ⟨_,_,_,.stop ht (by simp),hq⟩
 | ret=>exact ⟨_,_,_,.stop ht (by simp),hq⟩
theorem LoopW.round' {N:Nat}{vars:List Nat}{c:CCode}{e:lVq}{h:Heap}{Q:AExit→lVq→Heap→Prop}(R:lVq→Heap→Prop) (hw:W P N vars c (zc1 R Q) e h) (hR:∀ e1 h1,R e1 h1→LoopW P N vars c e1 h1 Q):LoopW P N vars c e h Q :=
 LoopW.roundC R (W.sound hw) hR
theorem LoopW.down {N:Nat}{vars:List Nat}{c:CCode}{Q:AExit→lVq→Heap→Prop}(I:Nat→lVq→Heap→Prop)
  (hb:∀ m e h R,I m e h→Hid (∀ m' e h,m' < m→I m' e h→R e h)→W P N vars c (zc1 R Q) e h):∀ {m:Nat}{e:lVq}{h:Heap},I m e h→LoopW P N vars c e h Q:=by
 intro m;induction m using Nat.strongRecOn with
 | ind m ih =>
  intro e h hi;exact LoopW.round' _ (hb m e h (fun e h=>∃ m',m' < m∧I m' e h) hi ⟨fun m' e h h1 h2=>⟨m',h1,h2⟩⟩) fun e1 h1 ⟨m',hm,hi'⟩=>ih m' hm hi'
theorem LoopW.upto {N:Nat}{vars:List Nat}{c:CCode}{Q:AExit→lVq→Heap→Prop}(n:Nat) (I:Nat→lVq→Heap→Prop)
  (hb:∀ i e h R,i≤n→I i e h→Hid (∀ e h,i < n→I (i + 1) e h→R e h)→W P N vars c (zc1 R Q) e h){i:Nat}{e:lVq}{h:Heap}(hi:i≤n) (h0:I i e h):LoopW P N vars c e h Q:=by
 suffices ∀ (k i:Nat),n - i=k→i≤n → ∀ e h,I i e h→LoopW P N vars c e h Q from this _ i rfl hi e h h0
 have hb':=fun i e h h1 h2=>hb i e h (fun e h=>i < n∧I (i + 1) e h) h1 h2 ⟨fun e h h3 h4=>⟨h3,h4⟩⟩;intro k;induction k with
 | zero =>
  intro i hk hi e h h0;exact LoopW.round' _ (hb' i e h hi h0) fun e1 h1 ⟨hlt,_⟩=>by omega
 | succ k ih =>
  intro i hk hi e h h0;exact LoopW.round' _ (hb' i e h hi h0) fun e1 h1 ⟨hlt,h2⟩=>ih (i + 1) (by omega) (by omega) e1 h1 h2
end Go.Eng
namespace Go.Eng
open Go
variable {P:Program}
def zk1 (Q:vPq) (h:Heap) (o:Option Value):Value→Prop:=fun v=>ka o fun u=>Q (.tuple #[v,u]) h
theorem zl1 (k j:Nat) (Q:vPq) (e:lVq) (h:Heap):ret2 k j Q .ret e h=ka e[k]? (zk1 Q h e[j]?):=rfl
theorem zk0 (Q:vPq) (h:Heap) (v u:Value):zk1 Q h (some u) v=Q (.tuple #[v,u]) h:=rfl
theorem range_w {N:Nat}{vars:List Nat}{g:Arg}{ps:List Nat}{a b:CCode}{Q:AExit→lVq→Heap→Prop}{e:lVq}{h:Heap}{f:FuncId}{first cap:Array Value}(hg:g.ev [] e=some (.func (.func f) first cap))
  (hc:CallW P f (first.toList++[.func (.yield (h.next + 1)) #[] #[]]++cap.toList) (qr P N vars ps a b e h) fun _ h2=>zb2 P N vars ps a b e (h.next + 1) Q h2):W P N vars (.range g ps a b) Q e h:=by
 simp only [W,qc5,hg];exact hc
theorem yc1 {f:FuncId}{cf:CFn}(hf:FnOk P f cf){args:lVq}{h:Heap}{Q:vPq}{k j:Nat}(hnr:cf.body.noRange=true) (hr:cf.results=[.var k,.var j]) (hn:args.length=cf.nargs)
  (hb:∀ N,W P N cf.vars cf.body (ret2 k j Q) (Ug cf args) h):CallW P f args h Q:=by
 refine Zs hf hn fun N=>W.mono ?_ (hb N).sound;intro x e h' hq;have key:ka e[k]? (fun v=>ka e[j]? fun u=>Q (.tuple #[v,u]) h')→ka (qo e (fin cf.body.noRange h.next h') cf.results) fun vs=>Q (yl vs) (fin cf.body.noRange h.next h'):=by
  intro hq;rw [hnr,hr];cases he:e[k]? with
  | none=>rw [he] at hq;exact hq.elim
  | some v =>
   cases hu:e[j]? with
   | none=>rw [he,hu] at hq;exact hq.elim
   | some u=>rw [he,hu] at hq;simpa [qo,ResArg.get,he,hu,ka,yl,fin] using hq
 cases x with
 | exit i=>exact hq.elim
 | normal=>exact key hq
 | ret=>exact key hq
def retcv (k:Nat) (agg:Bool) (size j:Nat) (Q:vPq):AExit→lVq→Heap→Prop
 | .exit _,_,_=>False
 | .normal,e,h=>ka e[k]? fun p=>ka (aR (.load agg size) [p] h.get) (zk1 Q h e[j]?)
 | .ret,e,h=>ka e[k]? fun p=>ka (aR (.load agg size) [p] h.get) (zk1 Q h e[j]?)
def retcvK (agg:Bool) (size:Nat) (Q:vPq) (h:Heap) (o:Option Value):Value→Prop:=fun p=>ka (aR (.load agg size) [p] h.get) (zk1 Q h o)
theorem zk9 (k:Nat) (agg:Bool) (size j:Nat) (Q:vPq) (e:lVq) (h:Heap):retcv k agg size j Q .ret e h=ka e[k]? (retcvK agg size Q h e[j]?):=rfl
theorem Uw (agg:Bool) (size:Nat) (Q:vPq) (h:Heap) (o:Option Value) (p:Value):retcvK agg size Q h o p=ka (aR (.load agg size) [p] h.get) (zk1 Q h o):=rfl
theorem yw3 {f:FuncId}{cf:CFn}(hf:FnOk P f cf){args:lVq}{h:Heap}{Q:vPq}{k j size:Nat}{agg:Bool}(hnr:cf.body.noRange=true) (hr:cf.results=[.cell k agg size,.var j]) (hn:args.length=cf.nargs)
  (hb:∀ N,W P N cf.vars cf.body (retcv k agg size j Q) (Ug cf args) h):CallW P f args h Q:=by
 refine Zs hf hn fun N=>W.mono ?_ (hb N).sound;intro x e h' hq;have key:ka e[k]? (fun p=>ka (aR (.load agg size) [p] h'.get) (zk1 Q h' e[j]?))→ka (qo e (fin cf.body.noRange h.next h') cf.results) fun vs=>Q (yl vs) (fin cf.body.noRange h.next h'):=by
  intro hq;rw [hnr,hr];cases he:e[k]? with
  | none=>rw [he] at hq;exact hq.elim
  | some v =>
   rw [he] at hq;simp only [ka] at hq;cases hv:aR (.load agg size) [v] h'.get with
   | none=>rw [hv] at hq;exact hq.elim
   | some w =>
    rw [hv] at hq;simp only [zk1] at hq;cases hu:e[j]? with
    | none=>rw [hu] at hq;exact hq.elim
    | some u=>rw [hu] at hq;simpa [qo,ResArg.get,he,hu,hv,ka,yl,fin] using hq
 cases x with
 | exit i=>exact hq.elim
 | normal=>exact key hq
 | ret=>exact key hq
theorem yz {h:Heap}{id size:Nat}{zs cs:lVq}{v:Value}(hg:h.get id=some (.blk zs true)) (hv:v.cells.toList=cs) (hc:cs.length=size) (hz:zs.length=size) (h1:cs.all (·.oneCell')=true) :
  zt size h [.pointer (some ⟨id,0,none⟩),v]=some (undef,h.set id (.blk cs true)):=by
 subst hv;have hd:zs.drop size=[]:=List.drop_eq_nil_of_le (by omega);simp only [zt,hg];rw [if_pos ⟨hc,by omega,h1⟩];simp only [List.take_zero,List.nil_append,Nat.zero_add,hd,List.append_nil]
theorem SlV.src {h:Heap}{s:Nat}{w:Value}{ys:List (lVq)}(hw:SlV h s w ys):jy s h w=some ys.flatten ∧ ∀ y ∈ ys,y.length=s:=by
 rcases hw with ⟨rfl,rfl⟩ | ⟨id,off,rfl,ha⟩
 ·exact ⟨rfl,by simp⟩
 ·rcases ha with rfl | ⟨cells,own,hg,hx⟩
  ·exact ⟨by simp [jy],by simp⟩
  ·have hlen:∀ y ∈ ys,y.length=s:=fun y hy=>by
    obtain ⟨i,hi⟩:=List.mem_iff_getElem?.1 hy;exact (hx i y hi).1
   refine ⟨?_,hlen⟩;by_cases h0:ys.length=0
   ·have:ys=[]:=List.length_eq_zero_iff.1 h0;subst this;simp [jy]
   ·obtain ⟨y,hy⟩:∃ y,ys[ys.length - 1]? = some y:=⟨_,List.getElem?_eq_getElem (by omega)⟩;obtain ⟨_,h2,_⟩:=hx _ _ hy;have hle:off + ys.length * s≤cells.length:=by
     obtain ⟨n,hn⟩:∃ n,ys.length=n + 1:=⟨ys.length - 1,by omega⟩;rw [hn,Nat.succ_mul];rw [hn] at h2;simp only [Nat.add_sub_cancel] at h2;omega
    simp only [jy,if_true,h0,if_false,hg,hle]
    congr 1
    have key:∀ (ys:List (lVq)) (k:Nat),(∀ (i:Nat) x,ys[i]? = some x→x.length=s∧off + (k + i) * s + s≤cells.length∧(cells.drop (off + (k + i) * s)).take s=x)→(cells.drop (off + k * s)).take (ys.length * s)=ys.flatten:=by
     intro ys;induction ys with
     | nil=>intro k _;simp
     | cons y r ih =>
      intro k hx;obtain ⟨h1,h2,h3⟩:=hx 0 y rfl;have:=ih (k + 1) fun i x hi=>by
       have:=hx (i + 1) x (by simpa using hi)
       rwa [show k + (i + 1)=k + 1 + i by omega] at this
      rw [List.flatten_cons,← this,List.length_cons,Nat.succ_mul,Nat.add_comm (r.length * s) s,List.take_add];rw [Nat.add_zero] at h3
      congr 1
      rw [List.drop_drop,Nat.succ_mul,Nat.add_assoc]
    have:=key ys 0 fun i x hi=>by simpa using hx i x hi
    simpa using this
theorem OwnS.append {h0 h:Heap}{s:Nat}{v w:Value}{xs ys:List (lVq)}(ha:OwnS h0 h s v xs) (hle:h0.le h) (hw:SlV h s w ys) (hs:0 < s){b:Nat}(hb:(xs.length + ys.length) * b≤140737488355328) (hb2:xs.length + ys.length≤9223372036854775807) :
  ∃ v' h',yq s b h [v,w]=some (v',h')∧OwnS h0 h' s v' (xs++ys)∧h0.le h' ∧ (∀ i,(h.get i).isSome=true→notOf v i→h'.get i=h.get i)∧(∀ i,(h.get i).isSome=true→notOf v i→notOf v' i)∧h.next≤h'.next:=by
 obtain ⟨hsrc,hyl⟩:=hw.src;have hfl:=Zp hyl;by_cases h00:ys.length=0
 ·have:ys=[]:=List.length_eq_zero_iff.1 h00;subst this;refine ⟨v,h,?_,by simpa using ha,hle,fun _ _ _=>rfl,fun _ _ h=>h,Nat.le_refl _⟩;have hsv:∃ p n c,v = .slice p n c:=by
   rcases ha with ⟨rfl,_⟩ | ⟨id,rfl,_⟩
   ·exact ⟨_,_,_,rfl⟩
   ·exact ⟨_,_,_,rfl⟩
  obtain ⟨p,n,c,rfl⟩:=hsv;unfold yq;simp only [hsrc];rfl
 ·have hne:ys.flatten.length≠0:=by
   rw [hfl];exact Nat.mul_ne_zero h00 (by omega)
  have hdiv:ys.flatten.length / s=ys.length:=by rw [hfl];exact Nat.mul_div_cancel _ hs
  rcases ha with ⟨rfl,rfl⟩ | ⟨id,rfl,hi,hg,hx'⟩
  ·refine ⟨.slice (some ⟨h.next,0,none⟩) ys.length s,h.alloc (.blk ys.flatten true),?_,.inr ⟨h.next,by simp,hle.next,by simp,by simpa using hyl⟩,hle.alloc _,?_,?_,by simp⟩
   ·unfold yq;simp only [hsrc,hdiv];rw [if_neg hne,if_pos (by simp at hb hb2;exact ⟨hb,hb2⟩)]
   ·intro i hi _;exact Heap.alloc_getE _ _ _ hi
   ·intro i hi _ n s e;cases e;obtain ⟨o,ho⟩:=Option.isSome_iff_exists.1 hi;have:=Heap.lt_of_get ho;omega
  ·have hlt:=Heap.lt_of_get hg;have hlen:=Zp hx';have hflx:(xs++ys).flatten=xs.flatten++ys.flatten:=by simp
   refine ⟨.slice (some ⟨h.next,0,none⟩) (xs.length + ys.length) s,(h.set id .dead).alloc (.blk (xs.flatten++ys.flatten) true),?_,.inr ⟨h.next,by simp,hle.next,by rw [hflx];exact Heap.get_alloc_same (h.set id .dead) _,?_⟩,(hle.set hi _).alloc _,?_,?_,by simp⟩
   ·unfold yq;simp only [hsrc,hdiv,hg];rw [if_neg hne,if_pos ⟨trivial,hlen,hb,hb2⟩]
   ·intro y hy;rcases List.mem_append.1 hy with hy | hy
    ·exact hx' y hy
    ·exact hyl y hy
   ·intro i hi hno;have hne:i≠id:=fun e=>by subst e;exact hno _ _ rfl
    have h1:(h.set id .dead).get i=h.get i:=Heap.set_getE _ _ _ _ (by simpa using hne);rw [Heap.alloc_getE _ _ _ (by rw [h1];exact hi),h1]
   ·intro i hi _ n s e;cases e;obtain ⟨o,ho⟩:=Option.isSome_iff_exists.1 hi;have:=Heap.lt_of_get ho;omega
theorem Heap.le.ext {a b:Heap}(h:a.le b):a.ext b:=fun _ _ hg=>.inl (h.get hg)
theorem Heap.set_getB {h:Heap}{L id:Nat}{o:AObj}{cells:lVq}{own:Bool}(hL:h.get L=some o) (ho:∀ c w,o ≠ .blk c w) (hg:h.get id=some (.blk cells own)) (x:AObj):(h.set L x).get id=some (.blk cells own):=by
 rw [Heap.set_getE,hg];have:id≠L:=fun e=>by subst e;rw [hL] at hg;cases hg;exact ho _ _ rfl
 simpa using this
theorem OwnS.get {h0 h h' : Heap}{s:Nat}{v:Value}{xs:List (lVq)}(ha:OwnS h0 h s v xs) (hk:∀ id,v = .slice (some ⟨id,0,none⟩) xs.length s→(h.get id).isSome=true→h'.get id=h.get id):OwnS h0 h' s v xs:=by
 rcases ha with ha | ⟨id,hv,hi,hg,hx⟩
 ·exact .inl ha
 ·exact .inr ⟨id,hv,hi,by rw [hk id hv (by rw [hg];rfl)];exact hg,hx⟩
theorem yd4 (k:IntKind) (z:Int):Je [.int k z]=some ([.int k z],fun id=>.pointer (some ⟨id,0,none⟩)):=rfl
end Go.Eng
namespace Go.Eng
open Go
variable {P:Program}
end Go.Eng
namespace Go.Eng
open Go
variable {P:Program}
def retc (k:Nat) (agg:Bool) (size:Nat) (Q:vPq):AExit→lVq→Heap→Prop
 | .exit _,_,_=>False
 | .normal,e,h=>ka e[k]? fun p=>ka (aR (.load agg size) [p] h.get) fun v=>Q v h
 | .ret,e,h=>ka e[k]? fun p=>ka (aR (.load agg size) [p] h.get) fun v=>Q v h
def retcK (agg:Bool) (size:Nat) (Q:vPq) (h:Heap):Value→Prop:=fun p=>ka (aR (.load agg size) [p] h.get) (zt9 Q h)
theorem zy7 (k:Nat) (agg:Bool) (size:Nat) (Q:vPq) (e:lVq) (h:Heap):retc k agg size Q .ret e h=ka e[k]? (retcK agg size Q h):=rfl
theorem zl0 (agg:Bool) (size:Nat) (Q:vPq) (h:Heap) (p:Value):retcK agg size Q h p=ka (aR (.load agg size) [p] h.get) (zt9 Q h):=rfl
theorem Ks {f:FuncId}{cf:CFn}(hf:FnOk P f cf){args:lVq}{h:Heap}{Q:vPq}{k size:Nat}{agg:Bool}(hnr:cf.body.noRange=true) (hr:cf.results=[.cell k agg size]) (hn:args.length=cf.nargs)
  (hb:∀ N,W P N cf.vars cf.body (retc k agg size Q) (Ug cf args) h):CallW P f args h Q:=by
 refine Zs hf hn fun N=>W.mono ?_ (hb N).sound;intro x e h' hq;have key:ka e[k]? (fun p=>ka (aR (.load agg size) [p] h'.get) fun v=>Q v h')→ka (qo e (fin cf.body.noRange h.next h') cf.results) fun vs=>Q (yl vs) (fin cf.body.noRange h.next h'):=by
  intro hq;rw [hnr,hr];cases he:e[k]? with
  | none=>rw [he] at hq;exact hq.elim
  | some v =>
   rw [he] at hq;simp only [ka] at hq;cases hv:aR (.load agg size) [v] h'.get with
   | none=>rw [hv] at hq;exact hq.elim
   | some w=>rw [hv] at hq;simpa [qo,ResArg.get,he,hv,ka,yl,fin] using hq
 cases x with
 | exit i=>exact hq.elim
 | normal=>exact key hq
 | ret=>exact key hq
end Go.Eng
namespace Go.Eng
open Go
variable {P:Program}
theorem jr {p:Nat}{D:List Nat}{h h' : Heap}{Q:List Nat→vPq}{v:Value}(hb:h.leBut p h') (hq:Q (p::D) v h'):ye0 D h Q v h' :=
 ⟨p::D,fun _ h=>List.mem_cons_of_mem _ h,fun id o hid hg=>.inl (by
  have:id≠p:=fun e=>hid (by simp [e]);rw [hb.get id this (by rw [hg];rfl)];exact hg),hq⟩
end Go.Eng
namespace Go.Eng
open Go
variable {P:Program}
theorem Sim.below {base:Nat}{G:Nat→Option AObj}{ρ:Go.Eng.Ren}{w w' : World}(hS:Sim base G ρ w) (hb:RowKit.Below w.heap.size w w'):Sim base G ρ w' where
 dom:=hS.dom
 size:=Nat.le_trans hS.size hb.size
 rng:=fun id l hl=>Nat.lt_of_lt_of_le (hS.rng id l hl) hb.size
 obj:=fun id o l hg hl=>(hS.obj id o l hg hl).mono (Ren.le_refl _) (hb.block _ (hS.rng id l hl))
 inj:=hS.inj
 glob:=km (fun b hb'=>hb.block b (Nat.lt_of_lt_of_le hb' hS.size)) hS.glob
theorem zj (h:Heap) (c:lVq):∃ p h1,h.next=p∧h.alloc (.blk c true)=h1∧h1.get p=some (.blk c true)∧h.le h1:=⟨_,_,rfl,rfl,Heap.get_alloc_same h _,(Heap.le.refl h).alloc _⟩
end Go.Eng
namespace Go.Eng
open Go Go.Sort
variable {P:Program}
theorem yf0 (w:World) (b:Nat) (d:Array Int){cs:Array Value}{e:TypeId}{fz:Nat × Nat}(h:w.heap[b]? = some (.cells cs e fz)):(putRow (Value.int .i64) w b 0 d).heap[b]? = some (.cells (putCells (Value.int .i64) 0 d cs) e fz):=by
 simp [putRow,mapBlock,Array.getElem?_modify,h,onCells]
theorem Ju (w:World) (b c:Nat) (d:Array Int) (h:c≠b):(putRow (Value.int .i64) w b 0 d).heap[c]? = w.heap[c]?:=by
 have h' : ¬ b=c:=fun e=>h e.symm;simp [putRow,mapBlock,Array.getElem?_modify,h']
theorem Yx (w:World) (b:Nat) (d:Array Int):(putRow (Value.int .i64) w b 0 d).heap.size=w.heap.size:=by
 simp [putRow,mapBlock]
theorem zl4 (d:Array Int) (cs:Array Value) (k:Nat) (x:Int) (hx:d[k]? = some x) (hk:k < cs.size):(putCells (Value.int .i64) 0 d cs)[k]? = some (.int .i64 x):=by
 have hlt:k < d.size:=(Array.getElem?_eq_some_iff.1 hx).1;have he:d[k]! = x:=by rw [getElem!_pos d k hlt];exact (Array.getElem?_eq_some_iff.1 hx).2
 simp only [putCells,Array.getElem?_mapIdx,Array.getElem?_eq_getElem hk,Option.map_some];rw [if_pos ⟨Nat.zero_le _,by omega⟩,Nat.sub_zero,he]
theorem CallT.of_row {f:FuncId}{h:Heap}{id:Nat}{zs ys:List Int}{va:Value}{vc:Nat→Nat→Value}(hval:∀ (ρ:Ren) (l:Loc) (cap:Nat),ρ id=some l→l.sh=0→zs.length≤cap→cap≤l.sz→VR ρ va (vc l.b cap)) (he:Jg P f) (hg:h.get id=some (.blk (zs.map (.int .i64)) true)) (hz:zs≠[]) (hl:ys.length=zs.length)
  (hc:∀ (w:World) (blk cap:Nat),Holds (Value.int .i64) w blk 0 zs.toArray→blk < w.heap.size→zs.length≤cap→Calls P f #[.slice (some ⟨blk,0,none⟩) zs.length cap] w fun e w'=>e = .returned (vc blk cap) ∧ ∃ n os,w' = grow (putRow (Value.int .i64) (Sort.ahead w n) blk 0 ys.toArray) os) :
  CallT P f [.slice (some ⟨id,0,none⟩) zs.length 1] h va (h.set id (.blk (ys.map (.int .i64)) true)):=by
 have hzl:0 < zs.length:=List.length_pos_iff.2 hz;refine ⟨he,Heap.step_set hg _ (by simp),fun base G ρ w args' hG hfr hS hargs=>?_⟩;obtain ⟨v',rfl,hv'⟩:∃ v',args' = [v']∧VR ρ (.slice (some ⟨id,0,none⟩) zs.length 1) v':=by
  cases hargs with
  | cons x x' _ _ h hr=>cases hr;exact ⟨_,rfl,h⟩
 obtain ⟨l,off',cap,hl',rfl,hlc,ho⟩:=hv'.slice_inv;have hGi:=hG id _ hg;have hobj:=hS.obj id _ l hGi hl';obtain ⟨cs,el,fz,h1,h2,h3,h4,h5⟩:=hobj;obtain ⟨hsh,rfl,hbase⟩:=h5 rfl;rw [hsh] at ho h3 h4;have hoff:off' = 0:=by rcases ho with ⟨e,_⟩ | ⟨e,_⟩<;>omega
 subst hoff;simp only [Nat.zero_add,List.length_map] at h3 h4;have hcell:∀ (j:Nat) (x:Int),zs[j]? = some x→cs[j]? = some (.int .i64 x):=fun j x hx=>by
  obtain ⟨v',a,b,_⟩:=h4 j (.int .i64 x) (by rw [List.getElem?_map,hx];rfl);rw [VR.plain_inv rfl b] at a;exact a
 have hH:Holds (Value.int .i64) w l.b 0 zs.toArray:=fun j hj=>by
  have hj' : j < zs.length:=by simpa using hj
  have e:zs.toArray[j]! = zs[j]:=by rw [getElem!_pos zs.toArray j hj];simp
  refine ⟨?_,?_⟩
  ·simp only [World.cell?,h1,Nat.zero_add,Option.isSome_none,Bool.false_eq_true,if_false];rw [hcell j zs[j] (List.getElem?_eq_getElem hj'),e]
  ·simp [World.frozen?,h1]
 refine (hc w l.b cap hH (hS.rng id l hl') hlc).mono fun e w' ⟨h6,n,os,h7⟩=>⟨vc l.b cap,ρ,h6,Agree.refl _ _ _,hval ρ l cap hl' hsh hlc (by rcases ho with ⟨_,e⟩ | ⟨e,_⟩<;>omega),?_,?_⟩
 ·subst h7;have g1:(putRow (Value.int .i64) (Sort.ahead w n) l.b 0 ys.toArray).heap[l.b]? = _:=yf0 (Sort.ahead w n) l.b ys.toArray h1;have hw2:Sim base (vl G id (.blk (ys.map (.int .i64)) true)) ρ (putRow (Value.int .i64) (Sort.ahead w n) l.b 0 ys.toArray):=by
   refine hS.write id _ _ l hGi hl' rfl (Yx _ _ _) (fun b hb=>Ju (Sort.ahead w n) l.b b _ hb) ?_;have hps:(putCells (Value.int .i64) 0 ys.toArray cs).size=cs.size:=by simp [putCells]
   refine ⟨_,el,(0,0),g1,by rw [hps];exact h2,by rw [hsh,hps,List.length_map];omega,fun i v hv=>?_,fun _=>⟨hsh,rfl,hbase⟩⟩;rw [hsh,Nat.zero_add];rw [List.getElem?_map] at hv;cases hy:ys[i]? with
   | none=>rw [hy] at hv;cases hv
   | some y =>
    rw [hy] at hv;cases hv;have hlt:=(List.getElem?_eq_some_iff.1 hy).1;exact ⟨_,zl4 ys.toArray cs i y (by simpa using hy) (by omega),.same _ rfl,rfl⟩
  refine Sim.congr (Sim.below hw2 ⟨rfl,rfl,rfl,by simp [grow],fun k hk=>?_⟩) (um hG hg _);show ((putRow (Value.int .i64) (Sort.ahead w n) l.b 0 ys.toArray).heap++os)[k]? = _;rw [Array.getElem?_append_left hk]
 ·subst h7;have hlow:∀ b,b < w.heap.size→b≠l.b→(grow (putRow (Value.int .i64) (Sort.ahead w n) l.b 0 ys.toArray) os).heap[b]? = w.heap[b]?:=fun b hb hne=>by
   show ((putRow (Value.int .i64) (Sort.ahead w n) l.b 0 ys.toArray).heap++os)[b]? = _;rw [Array.getElem?_append_left (by rw [Yx];exact hb)];exact Ju (Sort.ahead w n) l.b b _ hne
  have hsz:=hS.size;refine ⟨?_,fun b hb=>hlow b (by omega) (by omega),rfl,rfl,rfl,fun a ha=>?_⟩
  ·show _≤((putRow (Value.int .i64) (Sort.ahead w n) l.b 0 ys.toArray).heap++os).size;rw [Array.size_append,Yx];exact Nat.le_add_right _ _
  ·unfold World.frozen?;rw [hlow a.block (by omega) (by omega)]
theorem CallT.of_same {f:FuncId}{args:lVq}{va:Value}{h:Heap}(he:Jg P f)
  (hc:∀ (ρ:Ren) (w:World) (args' : lVq),VRs ρ args args' → ∃ vc,VR ρ va vc∧Calls P f args'.toArray w fun e w'=>e = .returned vc∧w' = w):CallT P f args h va h:=by
 refine ⟨he,Heap.step.refl h,fun base G ρ w args' hG hfr hS hargs=>?_⟩;obtain ⟨vc,hv,h1⟩:=hc ρ w args' hargs;exact h1.mono fun e w' ⟨h2,h3⟩=>⟨vc,ρ,h2,Agree.refl _ _ _,hv,by subst h3;exact Sim.congr hS (y0 hG),by subst h3;exact WStep.refl _ _⟩
end Go.Eng
namespace Go.Eng
open Go
theorem zb:(type_of% @W_skip) ∧
 (type_of% @W_reg) ∧
 (type_of% @W_seq) ∧
 (type_of% @qc1) ∧
 (type_of% @W_cond) ∧
 (type_of% @qc2) ∧
 (type_of% @W_loop) ∧
 (type_of% @W_exit) ∧
 (type_of% @W_ret) ∧
 (type_of% @Js) ∧
 (type_of% @Um) ∧
 (type_of% @zj9) ∧
 (type_of% @Jc) ∧
 (type_of% @zb0) ∧
 (type_of% @V7) ∧
 (type_of% @zz0) ∧
 (type_of% @ym7) ∧
 (type_of% @cndK_t) ∧
 (type_of% @cndK_f) ∧
 (type_of% @yd5) ∧
 (type_of% @zr0) ∧
 (type_of% @zq9) ∧
 (type_of% @zo7) ∧
 (type_of% @ys5) ∧
 (type_of% @ys8) ∧
 (type_of% @ys6) ∧
 (type_of% @ys7) ∧
 (type_of% @za3) ∧
 (type_of% @actK_p) ∧
 (type_of% @actK_r) ∧
 (type_of% @actK_a) ∧
 (type_of% @actK_w) ∧
 (type_of% @zq7) ∧
 (type_of% @zb3) ∧
 (type_of% @zb4) ∧
 (type_of% @qb8) ∧
 (type_of% @V9) ∧
 (type_of% @ym4) ∧
 (type_of% @ym3) ∧
 (type_of% @zn3) ∧
 (type_of% @zb1) ∧
 (type_of% @Ui) ∧
 (type_of% @zy8) ∧
 (type_of% @Wk) ∧
 (type_of% @zy9) ∧
 (type_of% @Wl) ∧
 (type_of% @zl1) ∧
 (type_of% @zk0) ∧
 (type_of% @zk9) ∧
 (type_of% @Uw) ∧
 (type_of% @zy7) ∧
 (type_of% @zl0) ∧
 (type_of% @zm0) ∧
 (type_of% @yn8) ∧
 (type_of% @List.getElem?_cons_zero.{0}) ∧
 (type_of% @List.getElem?_cons_succ.{0}) ∧
 (type_of% @List.getD_cons_zero.{0}) ∧
 (type_of% @List.getD_cons_succ.{0}) ∧
 (type_of% @List.set_cons_zero.{0}) ∧
 (type_of% @List.set_cons_succ.{0}) ∧
 (type_of% @Nat.zero_add) ∧
 (type_of% @Nat.add_zero) ∧
 (type_of% @List.getElem?_toArray.{0}) ∧
 (type_of% @List.take_zero.{0}) ∧
 (type_of% @List.drop_zero.{0}) ∧
 (type_of% @List.take_succ_cons.{0}) ∧
 (type_of% @List.drop_succ_cons.{0}) ∧
 (type_of% @if_true.{1}) ∧
 (type_of% @if_false.{1}) ∧
 (type_of% @decide_true) ∧
 (type_of% @decide_false) ∧
 (type_of% @Bool.false_eq_true) ∧
 (type_of% @Bool.true_eq_false) ∧
 (type_of% @Bool.not_true) ∧
 (type_of% @Bool.not_false) ∧
 (type_of% @not_true_eq_false) ∧
 (type_of% @not_false_eq_true) ∧
 (type_of% @ge_iff_le.{0}) ∧
 (type_of% @gt_iff_lt.{0}) ∧
 (type_of% @beq_self_eq_true.{0}) ∧
 (type_of% @bne_self_eq_false.{0}) ∧
 (type_of% @and_self) ∧
 (type_of% @and_true) ∧
 (type_of% @true_and) ∧
 (type_of% @Option.isSome_some.{0}) ∧
 (type_of% @Heap.get_alloc_same) ∧
 (type_of% @Heap.alloc_getE) ∧
 (type_of% @V8) ∧
 (type_of% @evs.eq_1) ∧
 (type_of% @evs.eq_2) ∧
 (type_of% @Arg.ev.eq_1) ∧
 (type_of% @Arg.ev.eq_2) ∧
 (type_of% @Arg.ev.eq_3) ∧
 (type_of% @Arg.ev.eq_4) ∧
 (type_of% @aP.eq_1) ∧
 (type_of% @aP.eq_2) ∧
 (type_of% @aP.eq_3) ∧
 (type_of% @aP.eq_4) ∧
 (type_of% @aP.eq_5) ∧
 (type_of% @aP.eq_6) ∧
 (type_of% @aP.eq_7) ∧
 (type_of% @aP.eq_8) ∧
 (type_of% @aP.eq_9) ∧
 (type_of% @aP.eq_10) ∧
 (type_of% @aP.eq_11) ∧
 (type_of% @aP.eq_12) ∧
 (type_of% @aP.eq_13) ∧
 (type_of% @aP.eq_14) ∧
 (type_of% @aP.eq_15) ∧
 (type_of% @aP.eq_16) ∧
 (type_of% @aP.eq_17) ∧
 (type_of% @aP.eq_18) ∧
 (type_of% @aP.eq_19) ∧
 (type_of% @aP.eq_20) ∧
 (type_of% @aP.eq_21) ∧
 (type_of% @aP.eq_22) ∧
 (type_of% @aP.eq_23) ∧
 (type_of% @aP.eq_24) ∧
 (type_of% @aP.eq_25) ∧
 (type_of% @aP.eq_26) ∧
 (type_of% @aP.eq_27) ∧
 (type_of% @aP.eq_28) ∧
 (type_of% @aP.eq_29) ∧
 (type_of% @aP.eq_30) ∧
 (type_of% @aA.eq_1) ∧
 (type_of% @aA.eq_2) ∧
 (type_of% @aA.eq_3) ∧
 (type_of% @aA.eq_4) ∧
 (type_of% @pMov.eq_1) ∧
 (type_of% @pBin.eq_1) ∧
 (type_of% @pUn.eq_1) ∧
 (type_of% @pConv.eq_1) ∧
 (type_of% @pPick.eq_1) ∧
 (type_of% @pFieldAddr.eq_1) ∧
 (type_of% @pNilCheck.eq_1) ∧
 (type_of% @pNilCheck.eq_2) ∧
 (type_of% @pNilCheck.eq_3) ∧
 (type_of% @pExtract.eq_1) ∧
 (type_of% @aUn.eq_1) ∧
 (type_of% @aUn.eq_2) ∧
 (type_of% @aUn.eq_4) ∧
 (type_of% @aUn.eq_5) ∧
 (type_of% @aNew.eq_1) ∧
 (type_of% @upd.eq_1) ∧
 (type_of% @upd.eq_2) :=
 ⟨@W_skip,@W_reg,@W_seq,@qc1,@W_cond,@qc2,@W_loop,@W_exit,@W_ret,@Js,@Um,@zj9,@Jc,@zb0,@V7,@zz0,@ym7,@cndK_t,@cndK_f,@yd5,@zr0,@zq9,@zo7,@ys5,@ys8,@ys6,@ys7,@za3,@actK_p,@actK_r,@actK_a,@actK_w,@zq7,@zb3,@zb4,@qb8,@V9,@ym4,@ym3,@zn3,@zb1,@Ui,@zy8,@Wk,@zy9,@Wl,@zl1,@zk0,@zk9,@Uw,@zy7,@zl0,@zm0,@yn8,@List.getElem?_cons_zero.{0},@List.getElem?_cons_succ.{0},@List.getD_cons_zero.{0},@List.getD_cons_succ.{0},@List.set_cons_zero.{0},@List.set_cons_succ.{0},@Nat.zero_add,@Nat.add_zero,@List.getElem?_toArray.{0},@List.take_zero.{0},@List.drop_zero.{0},@List.take_succ_cons.{0},@List.drop_succ_cons.{0},@if_true.{1},@if_false.{1},@decide_true,@decide_false,@Bool.false_eq_true,@Bool.true_eq_false,@Bool.not_true,@Bool.not_false,@not_true_eq_false,@not_false_eq_true,@ge_iff_le.{0},@gt_iff_lt.{0},@beq_self_eq_true.{0},@bne_self_eq_false.{0},@and_self,@and_true,@true_and,@Option.isSome_some.{0},@Heap.get_alloc_same,@Heap.alloc_getE,@V8,@evs.eq_1,@evs.eq_2,@Arg.ev.eq_1,@Arg.ev.eq_2,@Arg.ev.eq_3,@Arg.ev.eq_4,@aP.eq_1,@aP.eq_2,@aP.eq_3,@aP.eq_4,@aP.eq_5,@aP.eq_6,@aP.eq_7,@aP.eq_8,@aP.eq_9,@aP.eq_10,@aP.eq_11,@aP.eq_12,@aP.eq_13,@aP.eq_14,@aP.eq_15,@aP.eq_16,@aP.eq_17,@aP.eq_18,@aP.eq_19,@aP.eq_20,@aP.eq_21,@aP.eq_22,@aP.eq_23,@aP.eq_24,@aP.eq_25,@aP.eq_26,@aP.eq_27,@aP.eq_28,@aP.eq_29,@aP.eq_30,@aA.eq_1,@aA.eq_2,@aA.eq_3,@aA.eq_4,@pMov.eq_1,@pBin.eq_1,@pUn.eq_1,@pConv.eq_1,@pPick.eq_1,@pFieldAddr.eq_1,@pNilCheck.eq_1,@pNilCheck.eq_2,@pNilCheck.eq_3,@pExtract.eq_1,@aUn.eq_1,@aUn.eq_2,@aUn.eq_4,@aUn.eq_5,@aNew.eq_1,@upd.eq_1,@upd.eq_2⟩
open Go Go.ChangeShapes Go.WideShapes Go.ChangeAt
variable {P:Program}{H:Type}{enc:TypeId × Value→H}
abbrev kv:List Value:=[undef]
abbrev Zm:List Value:=[undef,undef]
abbrev u0:List Value:=[undef,undef,undef]
abbrev Ub:List Value:=[undef,undef,undef,undef]
abbrev J4:List Value:=[undef,undef,undef,undef,undef]
abbrev und6q:List Value:=[undef,undef,undef,undef,undef,undef]
abbrev yd9:List Value:=[undef,undef,undef,undef,undef,undef,undef]
abbrev zr4:List Value:=[undef,undef,undef,undef,undef,undef,undef,undef]
abbrev und9q:List Value:=[undef,undef,undef,undef,undef,undef,undef,undef,undef]
abbrev und10q:List Value:=[undef,undef,undef,undef,undef,undef,undef,undef,undef,undef]
abbrev und11q:List Value:=[undef,undef,undef,undef,undef,undef,undef,undef,undef,undef,undef]
abbrev und16q:List Value:=[undef,undef,undef,undef,undef,undef,undef,undef,undef,undef,undef,undef,undef,undef,undef,undef]
abbrev und18q:List Value:=[undef,undef,undef,undef,undef,undef,undef,undef,undef,undef,undef,undef,undef,undef,undef,undef,undef,undef]
abbrev und20q:List Value:=[undef,undef,undef,undef,undef,undef,undef,undef,undef,undef,undef,undef,undef,undef,undef,undef,undef,undef,undef,undef]
abbrev und22q:List Value:=[undef,undef,undef,undef,undef,undef,undef,undef,undef,undef,undef,undef,undef,undef,undef,undef,undef,undef,undef,undef,undef,undef]
theorem ev0q (c:CFn) (r:List Value) (h:List.replicate (c.vars.length-0) undef=r):Ug c []=r:=by subst h;rfl
theorem Yo (c:CFn) (r:List Value){a0:Value} (h:List.replicate (c.vars.length-1) undef=r):Ug c [a0]=a0::r:=by subst h;rfl
theorem wn (c:CFn) (r:List Value){a0 a1:Value} (h:List.replicate (c.vars.length-2) undef=r):Ug c [a0,a1]=a0::a1::r:=by subst h;rfl
theorem zj7 (c:CFn) (r:List Value){a0 a1 a2:Value} (h:List.replicate (c.vars.length-3) undef=r):Ug c [a0,a1,a2]=a0::a1::a2::r:=by subst h;rfl
theorem ev4q (c:CFn) (r:List Value){a0 a1 a2 a3:Value} (h:List.replicate (c.vars.length-4) undef=r):Ug c [a0,a1,a2,a3]=a0::a1::a2::a3::r:=by subst h;rfl
theorem ev6q (c:CFn) (r:List Value){a0 a1 a2 a3 a4 a5:Value} (h:List.replicate (c.vars.length-6) undef=r):Ug c [a0,a1,a2,a3,a4,a5]=a0::a1::a2::a3::a4::a5::r:=by subst h;rfl
end Go.Eng
