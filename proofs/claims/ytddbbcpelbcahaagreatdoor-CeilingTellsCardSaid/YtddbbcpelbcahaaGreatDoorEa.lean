/-
  Part of a proof of the laws of layer 09 (ceiling): an order-free machine for the code, and that it is sound.
  Conditions: none.
-/
import Derived.OrdersIn
import Derived.Laws.AppendOwn
import GoSem.ClaimKeys
import Derived.Lib.Bytealg
import Derived.DeepKeys2
import Derived.Maps.Keyed
import Derived.DeepKeys4
import Derived.Laws.StructEq
import Derived.Laws.Externs
import Derived.Lib.Builder
import Derived.Lib.UnsafeStr
import Derived.Laws.BytesString
import Derived.Laws.BytesArg
import Derived.RangeFuncRecord
import Derived.Lib.ConvBytes
import Derived.Lib.AtoiErrMem
namespace Go.Eng
open Go
def zn1:List Nat:=[]
def yk8:List (Nat × List Value):=[]
def Yr (base:Nat) (w:World):Prop:=(∀ b ∈ zn1,b < base ∧ ∃ te pe,w.cell? ⟨b,0,none⟩=some (.iface te pe)) ∧ ∀ t ∈ yk8,t.1 < base ∧ ∃ el fz,w.heap[t.1]? = some (.cells t.2.toArray el fz)
theorem km {base:Nat}{w w' : World}(h:∀ b,b < base→w'.heap[b]? = w.heap[b]?) (hg:Yr base w):Yr base w' :=
 ⟨fun b hb=>by
  obtain ⟨h1,te,pe,h2⟩:=hg.1 b hb;exact ⟨h1,te,pe,by rw [← h2];unfold World.cell?;rw [h b h1]⟩,fun t ht=>by
  obtain ⟨h1,el,fz,h2⟩:=hg.2 t ht;exact ⟨h1,el,fz,by rw [h _ h1];exact h2⟩⟩
theorem Va {base base' : Nat}{w:World}(h:base≤base') (hg:Yr base w):Yr base' w:=⟨fun b hb=>let ⟨h1,r⟩:=hg.1 b hb;⟨Nat.lt_of_lt_of_le h1 h,r⟩,fun t ht=>let ⟨h1,r⟩:=hg.2 t ht;⟨Nat.lt_of_lt_of_le h1 h,r⟩⟩
structure Loc where
 b:Nat
 sh:Nat
 sz:Nat
abbrev Ren:=Nat→Option Loc
def Value.plain:Value→Bool
 | .bool _ | .int .. | .float .. | .complex .. | .string _ | .pointer none | .slice none 0 0 | .map none | .chan none | .nilFunc | .nilIface=>true
 | .tuple vs=>vs.isEmpty
 | .iface _ (.int ..) | .iface _ (.string _) | .iface _ (.bool _)=>true
 | _=>false
mutual
inductive VR (ρ:Ren):Value→Value→Prop
 | same (v:Value) (h:Value.plain v=true):VR ρ v v
 | ptr (id off:Nat) (l:Loc) (h:ρ id=some l):VR ρ (.pointer (some ⟨id,off,none⟩)) (.pointer (some ⟨l.b,off + l.sh,none⟩))
 | slice (id off off' len s cap:Nat) (l:Loc) (h:ρ id=some l) (hl:len≤cap)
   (ho:(off' = off + l.sh∧off + l.sh + cap * s≤l.sz)∨(len=0∧cap=0)) :
   VR ρ (.slice (some ⟨id,off,none⟩) len s) (.slice (some ⟨l.b,off',none⟩) len cap)
 /-- a slice whose room is its length -/
 | clip (id off off' len s m:Nat) (l:Loc) (h:ρ id=some l) (ho:(off' = off + l.sh∧off + l.sh + len * s≤l.sz)∨len=0) :
   VR ρ (.slice (some ⟨id,off,some m⟩) len s) (.slice (some ⟨l.b,off',none⟩) len len)
 | map (id:Nat) (l:Loc) (h:ρ id=some l) (hs:l.sh=0):VR ρ (.map (some id)) (.map (some l.b))
 | func (f:FuncId) (a a' c c' : List Value) (ha:VRs ρ a a') (hc:VRs ρ c c'):VR ρ (.func (.func f) a.toArray c.toArray) (.func (.func f) a'.toArray c'.toArray)
 | yield (l:Nat) (l' : Loc) (h:ρ l=some l'):VR ρ (.func (.yield l) #[] #[]) (.func (.yield l'.b) #[] #[])
 | iface (t:TypeId) (v v' : Value) (h:VR ρ v v'):VR ρ (.iface t v) (.iface t v')
 | agg (cs cs' : List Value) (h:VRs ρ cs cs') (h1:∀ c ∈ cs,c.oneCell' = true):VR ρ (.agg cs.toArray) (.agg cs'.toArray)
 | tuple (cs cs' : List Value) (h:VRs ρ cs cs'):VR ρ (.tuple cs.toArray) (.tuple cs'.toArray)
inductive VRs (ρ:Ren):List Value→List Value→Prop
 | nil:VRs ρ [] []
 | cons (v v' : Value) (r r' : List Value) (h:VR ρ v v') (hr:VRs ρ r r'):VRs ρ (v::r) (v' :: r')
end
def Ren.le (ρ ρ' : Ren):Prop:=∀ id l,ρ id=some l→ρ' id=some l
mutual
theorem VR.mono {ρ ρ' : Ren}(hle:ρ.le ρ'):∀ {v v' : Value},VR ρ v v' → VR ρ' v v'
 | _,_,.same v h=>.same v h
 | _,_,.ptr id off l h=>.ptr id off l (hle _ _ h)
 | _,_,.slice id off off' len s cap l h hl ho=>.slice id off off' len s cap l (hle _ _ h) hl ho
 | _,_,.clip id off off' len s m l h ho=>.clip id off off' len s m l (hle _ _ h) ho
 | _,_,.map id l h hs=>.map id l (hle _ _ h) hs
 | _,_,.func f a a' c c' ha hc=>.func f a a' c c' (VRs.mono hle ha) (VRs.mono hle hc)
 | _,_,.yield l l' h=>.yield l l' (hle _ _ h)
 | _,_,.iface t v v' h=>.iface t v v' (VR.mono hle h)
 | _,_,.agg cs cs' h h1=>.agg cs cs' (VRs.mono hle h) h1
 | _,_,.tuple cs cs' h=>.tuple cs cs' (VRs.mono hle h)
theorem VRs.mono {ρ ρ' : Ren}(hle:ρ.le ρ'):∀ {v v' : List Value},VRs ρ v v' → VRs ρ' v v'
 | _,_,.nil=>.nil
 | _,_,.cons v v' r r' h hr=>.cons v v' r r' (VR.mono hle h) (VRs.mono hle hr)
end
theorem VRs.length {ρ:Ren}:∀ {v v' : List Value},VRs ρ v v' → v.length=v'.length
 | _,_,.nil=>rfl
 | _,_,.cons _ _ _ _ _ hr=>by simp [VRs.length hr]
theorem VRs.get {ρ:Ren}:∀ {v v' : List Value},VRs ρ v v' → ∀ (i:Nat) (x:Value),v[i]? = some x → ∃ x',v'[i]? = some x' ∧ VR ρ x x'
 | _,_,.nil,i,x,h=>by simp at h
 | _,_,.cons a a' r r' h hr,0,x,hx=>by simp at hx;subst hx;exact ⟨a',by simp,h⟩
 | _,_,.cons a a' r r' h hr,i + 1,x,hx=>by
  obtain ⟨x',h1,h2⟩:=VRs.get hr i x (by simpa using hx);exact ⟨x',by simpa using h1,h2⟩
theorem VRs.of_get {ρ:Ren}:∀ {v v' : List Value},v.length=v'.length→(∀ (i:Nat) (x x' : Value),v[i]? = some x→v'[i]? = some x' → VR ρ x x')→VRs ρ v v'
 | [],[],_,_=>.nil
 | [],_::_,h,_=>by simp at h
 | _::_,[],h,_=>by simp at h
 | a::r,a' :: r',hl,h=>.cons a a' r r' (h 0 a a' (by simp) (by simp)) (VRs.of_get (by simpa using hl) fun i x x' hx hx'=>h (i + 1) x x' (by simpa using hx) (by simpa using hx'))
theorem VRs.append {ρ:Ren}:∀ {a a' b b' : List Value},VRs ρ a a' → VRs ρ b b' → VRs ρ (a++b) (a' ++ b')
 | _,_,_,_,.nil,h=>h
 | _,_,_,_,.cons x x' r r' h hr,hb=>.cons x x' _ _ h (VRs.append hr hb)
theorem VRs.take {ρ:Ren}:∀ {a a' : List Value}(n:Nat),VRs ρ a a' → VRs ρ (a.take n) (a'.take n)
 | _,_,0,_=>by simpa using VRs.nil
 | _,_,n + 1,.nil=>by simpa using VRs.nil
 | _,_,n + 1,.cons x x' r r' h hr=>by simpa using VRs.cons x x' _ _ h (VRs.take n hr)
theorem VRs.drop {ρ:Ren}:∀ {a a' : List Value}(n:Nat),VRs ρ a a' → VRs ρ (a.drop n) (a'.drop n)
 | _,_,0,h=>by simpa using h
 | _,_,n + 1,.nil=>by simpa using VRs.nil
 | _,_,n + 1,.cons x x' r r' h hr=>by simpa using VRs.drop n hr
theorem VRs.plain {ρ:Ren}:∀ {l:List Value},(∀ v ∈ l,Value.plain v=true)→VRs ρ l l
 | [],_=>.nil
 | v::r,h=>.cons v v r r (.same v (h v (by simp))) (VRs.plain fun x hx=>h x (by simp [hx]))
theorem VR.oneCell {ρ:Ren}{v v' : Value}(h:VR ρ v v'):v'.oneCell' = v.oneCell':=by
 cases h<;>first | rfl | (simp [Value.oneCell'])
theorem VR.cells {ρ:Ren}{v v' : Value}(h:VR ρ v v'):VRs ρ v.cells.toList v'.cells.toList:=by
 cases h with
 | agg cs cs' h h1=>simpa [Value.cells] using h
 | same v h =>
  have:∀ v:Value,Value.plain v=true→VRs ρ v.cells.toList v.cells.toList:=by
   intro v hv;cases v<;>first | (simp [Value.plain] at hv;done) | exact .cons _ _ _ _ (.same _ hv) .nil
  exact this v h
 | ptr id off l h=>exact .cons _ _ _ _ (.ptr id off l h) .nil
 | slice id off off' len s cap l h hl ho=>exact .cons _ _ _ _ (.slice id off off' len s cap l h hl ho) .nil
 | clip id off off' len s m l h ho=>exact .cons _ _ _ _ (.clip id off off' len s m l h ho) .nil
 | map id l h hs=>exact .cons _ _ _ _ (.map id l h hs) .nil
 | func f a a' c c' ha hc=>exact .cons _ _ _ _ (.func f a a' c c' ha hc) .nil
 | yield l l' h=>exact .cons _ _ _ _ (.yield l l' h) .nil
 | iface t v v' h=>exact .cons _ _ _ _ (.iface t v v' h) .nil
 | tuple cs cs' h=>exact .cons _ _ _ _ (.tuple cs cs' h) .nil
inductive AObj where
 | dead
 | blk (cells:List Value) (own:Bool)
 /-- an own row whose element type is known; full: these are all of its cells -/
 | tblk (cells:List Value) (e:TypeId) (full:Bool)
 | map (es:List (Value × Value)) (own:Bool)
 | loop (env:List Value) (vars:List Nat) (N:Nat) (ok:Array Tmp→Code→Code→Prop) (st:LoopState) (pend:Option Code)
 | defd
def AObj.own:AObj→Bool
 | .blk _ o | .map _ o=>o
 | .loop .. | .defd | .tblk ..=>true
 | .dead=>false
structure Heap where
 next:Nat
 get:Nat→Option AObj
 wf:∀ id,next≤id→get id=none
def Heap.alloc (h:Heap) (o:AObj):Heap where
 next:=h.next + 1
 get:=fun id=>if id=h.next then some o else h.get id
 wf:=fun id hid=>by
  have h1:id≠h.next:=by omega
  simp only [h1,if_false];exact h.wf id (by omega)
def Heap.set (h:Heap) (i:Nat) (o:AObj):Heap where
 next:=h.next
 get:=fun id=>if id=i∧i < h.next then some o else h.get id
 wf:=fun id hid=>by
  have h1:¬ (id=i∧i < h.next):=by omega
  simp only [h1,if_false];exact h.wf id hid
@[simp] theorem Heap.next_alloc (h:Heap) (o:AObj):(h.alloc o).next=h.next + 1:=rfl
@[simp] theorem Heap.next_set (h:Heap) (i:Nat) (o:AObj):(h.set i o).next=h.next:=rfl
theorem Heap.get_alloc (h:Heap) (o:AObj) (id:Nat):(h.alloc o).get id=if id=h.next then some o else h.get id:=rfl
@[simp] theorem Heap.get_alloc_same (h:Heap) (o:AObj):(h.alloc o).get h.next=some o:=by simp [Heap.get_alloc]
theorem Heap.get_alloc_lt {h:Heap}{o:AObj}{id:Nat}(hl:id < h.next):(h.alloc o).get id=h.get id:=by
 have:id≠h.next:=by omega
 simp [Heap.get_alloc,this]
theorem Heap.get_set (h:Heap) (i:Nat) (o:AObj) (id:Nat):(h.set i o).get id=if id=i∧i < h.next then some o else h.get id:=rfl
theorem Heap.lt_of_get {h:Heap}{id:Nat}{o:AObj}(hg:h.get id=some o):id < h.next:=by
 rcases Nat.lt_or_ge id h.next with h1 | h1
 ·exact h1
 ·rw [h.wf id h1] at hg;cases hg
def Heap.ext (h h' : Heap):Prop:=∀ id o,h.get id=some o→h'.get id=some o∨h'.get id=some .dead
def Heap.sub (h h' : Heap):Prop:=∀ id o,h.get id=some o→h'.get id=some o
structure Heap.step (h h' : Heap):Prop where
 next:h.next≤h'.next
 dom:∀ id,(h.get id).isSome=true→(h'.get id).isSome=true
 back:∀ id,id < h.next→h.get id=none→h'.get id=none
 defd:∀ id,h.get id=some .defd→h'.get id=some .defd
def vv (h:Heap) (G:Nat→Option AObj):Nat→Option AObj:=fun id=>(h.get id).or (G id)
structure EnvR (ρ:Ren) (N:Nat) (vars:List Nat) (env:List Value) (tmps:Array Value):Prop where
 size:tmps.size=N
 len:vars.length=env.length
 get:∀ (k s:Nat) (v:Value),vars[k]? = some s→env[k]? = some v → ∃ v',tmps[s]? = some v' ∧ VR ρ v v'
theorem EnvR.mono {ρ ρ' : Ren}(hle:ρ.le ρ'){N:Nat}{vars:List Nat}{env:List Value}{tmps:Array Value}(h:EnvR ρ N vars env tmps):EnvR ρ' N vars env tmps :=
 ⟨h.size,h.len,fun k s v hk hv=>let ⟨v',a,b⟩:=h.get k s v hk hv;⟨v',a,VR.mono hle b⟩⟩
def EntR (ρ:Ren) (e:Value × Value) (e' : MapEntry):Prop:=VR ρ e.1 e'.key∧VR ρ e.2 e'.val
def ObjR (base:Nat) (ρ:Ren) (w:World) (l:Loc):AObj→Prop
 | .dead=>True
 | .blk cells own=>∃ cs el fz,w.heap[l.b]? = some (.cells cs el fz)∧cs.size=l.sz∧l.sh + cells.length≤cs.size ∧
   (∀ (i:Nat) v,cells[i]? = some v → ∃ v',cs[l.sh + i]? = some v' ∧ VR ρ v v' ∧ v.oneCell' = true) ∧
   (own=true→l.sh=0∧fz=(0,0)∧base≤l.b)
 | .tblk cells e full=>∃ cs,w.heap[l.b]? = some (.cells cs e (0,0))∧cs.size=l.sz∧cells.length≤cs.size ∧
   (∀ (i:Nat) v,cells[i]? = some v → ∃ v',cs[i]? = some v' ∧ VR ρ v v' ∧ v.oneCell' = true)∧(full=true→cells.length=cs.size)∧l.sh=0∧base≤l.b
 | .map es own=>∃ es' clock,w.heap[l.b]? = some (.map es' clock)∧es.length=es'.size∧(∀ (i:Nat) e,es[i]? = some e → ∃ e',es'[i]? = some e' ∧ EntR ρ e e') ∧
   (∀ (i j:Nat) a b,es'[i]? = some a→es'[j]? = some b→a.key=b.key→i=j)∧(own=true→base≤l.b)
 | .loop env vars N ok st pend=>l.sh=0∧base≤l.b ∧ ∃ r:Loop,w.heap[l.b]? = some (.loop r)∧r.state=st∧r.pending=pend∧ok r.params r.assign r.body∧EnvR ρ N vars env r.tmps
 | .defd=>l.sh=0∧base≤l.b∧w.heap[l.b]? = some (.deferred (some []))
structure Sim (base:Nat) (G:Nat→Option AObj) (ρ:Ren) (w:World):Prop where
 dom:∀ id,(G id).isSome=(ρ id).isSome
 size:base≤w.heap.size
 rng:∀ id l,ρ id=some l→l.b < w.heap.size
 obj:∀ id o l,G id=some o→ρ id=some l→ObjR base ρ w l o
 inj:∀ i j oi oj li lj,G i=some oi→G j=some oj→ρ i=some li→ρ j=some lj→i≠j→oi.own=true→oj ≠ .dead→li.b≠lj.b
 glob:Yr base w
structure WStep (base:Nat) (w w' : World):Prop where
 size:w.heap.size≤w'.heap.size
 low:∀ b,b < base→w'.heap[b]? = w.heap[b]?
 tape:w'.tape=w.tape
 os:w'.os=w.os
 output:w'.output=w.output
 froz:∀ a:Addr,a.block < base→w'.frozen? a=w.frozen? a
theorem WStep.refl (base:Nat) (w:World):WStep base w w:=⟨Nat.le_refl _,fun _ _=>rfl,rfl,rfl,rfl,fun _ _=>rfl⟩
theorem WStep.trans {base:Nat}{w w1 w2:World}(h:WStep base w w1) (h' : WStep base w1 w2):WStep base w w2 :=
 ⟨Nat.le_trans h.size h'.size,fun b hb=>(h'.low b hb).trans (h.low b hb),h'.tape.trans h.tape,h'.os.trans h.os,h'.output.trans h.output,fun a ha=>(h'.froz a ha).trans (h.froz a ha)⟩
theorem Zg (w:World) (o:Obj) (ho:(∃ c t,o = .cells c t (0,0)) ∨ ∀ c t f,o ≠ .cells c t f) (a:Addr):(w.alloc o).frozen? a=w.frozen? a:=by
 by_cases h:a.block=w.heap.size
 ·have e1:(w.alloc o).heap[a.block]? = some o:=by rw [h];show (w.heap.push o)[w.heap.size]? = some o;simp
  have e2:w.heap[a.block]? = none:=by rw [h];simp
  rcases ho with ⟨c,t,rfl⟩ | ho
  ·simp [World.frozen?,e1,e2]
  ·simp only [World.frozen?,e1,e2];cases o<;>first | rfl | exact absurd rfl (ho _ _ _)
 ·exact World.frozen?_alloc_old _ _ _ h
theorem zn6 {w w' : World}(h:∀ b:Nat,w'.heap[b]? = w.heap[b]? ∨ (∃ c t f c' t',w.heap[b]? = some (Obj.cells c t f)∧w'.heap[b]? = some (Obj.cells c' t' f))∨((∀ c t f,w.heap[b]? ≠ some (Obj.cells c t f)) ∧ ∀ c t f,w'.heap[b]? ≠ some (Obj.cells c t f))) (a:Addr):w'.frozen? a=w.frozen? a:=by
 simp only [World.frozen?];rcases h a.block with e | ⟨c,t,f,c',t',e1,e2⟩ | ⟨e1,e2⟩
 ·rw [e]
 ·rw [e1,e2]
 ·split
  ·rename_i hh;exact absurd hh (e2 _ _ _)
  ·split
   ·rename_i hh;exact absurd hh (e1 _ _ _)
   ·rfl
theorem ObjR.mono {base:Nat}{ρ ρ' : Ren}(hle:ρ.le ρ'){w w' : World}{l:Loc}(hb:w'.heap[l.b]? = w.heap[l.b]?):∀ {o:AObj},ObjR base ρ w l o→ObjR base ρ' w' l o
 | .dead,_=>trivial
 | .blk cells own,h=>by
  obtain ⟨cs,el,fz,h1,h2,h3,h4,h5⟩:=h;exact ⟨cs,el,fz,hb.trans h1,h2,h3,fun i v hv=>let ⟨v',a,b,c⟩:=h4 i v hv;⟨v',a,VR.mono hle b,c⟩,h5⟩
 | .tblk cells e full,h=>by
  obtain ⟨cs,h1,h2,h3,h4,h5⟩:=h;exact ⟨cs,hb.trans h1,h2,h3,fun i v hv=>let ⟨v',a,b,c⟩:=h4 i v hv;⟨v',a,VR.mono hle b,c⟩,h5⟩
 | .map es own,h=>by
  obtain ⟨es',clock,h1,h2,h3,h4⟩:=h;exact ⟨es',clock,hb.trans h1,h2,fun i e he=>let ⟨e',a,b,c⟩:=h3 i e he;⟨e',a,VR.mono hle b,VR.mono hle c⟩,h4⟩
 | .loop env vars N ok st pend,h=>by
  obtain ⟨h0,h1,r,h2,h3,h4,h5,h6⟩:=h;exact ⟨h0,h1,r,hb.trans h2,h3,h4,h5,h6.mono hle⟩
 | .defd,h=>⟨h.1,h.2.1,hb.trans h.2.2⟩
def Ren.put (ρ:Ren) (i:Nat) (l:Loc):Ren:=fun id=>if id=i then some l else ρ id
def vl (G:Nat→Option AObj) (i:Nat) (o:AObj):Nat→Option AObj:=fun id=>if id=i then some o else G id
theorem Ren.le_refl (ρ:Ren):ρ.le ρ:=fun _ _ h=>h
theorem Ren.le_trans {a b c:Ren}(h:a.le b) (h' : b.le c):a.le c:=fun i l hi=>h' i l (h i l hi)
theorem Ren.le_put {ρ:Ren}{i:Nat}(h:ρ i=none) (l:Loc):ρ.le (ρ.put i l):=by
 intro id l' hl;unfold Ren.put;by_cases e:id=i
 ·subst e;rw [h] at hl;cases hl
 ·simp [e,hl]
theorem Sim.heap {base:Nat}{G:Nat→Option AObj}{ρ:Ren}{w w' : World}(h:Sim base G ρ w) (he:w'.heap=w.heap):Sim base G ρ w' where
 dom:=h.dom
 size:=by rw [he];exact h.size
 rng:=fun id l hl=>by rw [he];exact h.rng id l hl
 obj:=fun id o l hg hl=>(h.obj id o l hg hl).mono (Ren.le_refl _) (by rw [he])
 inj:=h.inj
 glob:=km (fun b _=>by rw [he]) h.glob
theorem Sim.congr {base:Nat}{G G' : Nat→Option AObj}{ρ:Ren}{w:World}(h:Sim base G ρ w) (he:∀ id,G' id=G id):Sim base G' ρ w:=by
 have:G' = G:=funext he;rw [this];exact h
theorem Sim.alloc {base:Nat}{G:Nat→Option AObj}{ρ:Ren}{w w' : World}(h:Sim base G ρ w) (i:Nat) (o:AObj) (l:Loc) (hi:ρ i=none)
  (hl:w.heap.size≤l.b) (hs:l.b < w'.heap.size) (hold:∀ b,b < w.heap.size→w'.heap[b]? = w.heap[b]?) (hsz:w.heap.size≤w'.heap.size)
  (ho:ObjR base (ρ.put i l) w' l o):Sim base (vl G i o) (ρ.put i l) w' where
 dom:=fun id=>by
  unfold vl Ren.put;by_cases e:id=i
  ·simp [e]
  ·simp [e,h.dom id]
 size:=Nat.le_trans h.size hsz
 rng:=fun id l' hl'=>by
  unfold Ren.put at hl';by_cases e:id=i
  ·simp [e] at hl';subst hl';exact hs
  ·simp [e] at hl';exact Nat.lt_of_lt_of_le (h.rng id l' hl') hsz
 obj:=fun id o' l' hg hl'=>by
  unfold vl at hg;unfold Ren.put at hl';by_cases e:id=i
  ·simp [e] at hg hl';subst hg;subst hl';exact ho
  ·simp [e] at hg hl';exact (h.obj id o' l' hg hl').mono (Ren.le_put hi l) (hold _ (h.rng id l' hl'))
 glob:=km (fun b hb=>hold b (Nat.lt_of_lt_of_le hb h.size)) h.glob
 inj:=fun a b oa ob la lb ga gb ra rb hne hown hd=>by
  unfold vl at ga gb;unfold Ren.put at ra rb;by_cases ea:a=i
  ·by_cases eb:b=i
   ·omega
   ·simp [ea] at ra;simp [eb] at rb;subst ra;have:=h.rng b lb rb;omega
  ·by_cases eb:b=i
   ·simp [eb] at rb;simp [ea] at ra;subst rb;have:=h.rng a la ra;omega
   ·simp [ea] at ga ra;simp [eb] at gb rb;exact h.inj a b oa ob la lb ga gb ra rb hne hown hd
theorem Sim.write {base:Nat}{G:Nat→Option AObj}{ρ:Ren}{w w' : World}(h:Sim base G ρ w) (i:Nat) (oi o:AObj) (l:Loc) (hg:G i=some oi) (hl:ρ i=some l)
  (hown:oi.own=true) (hsz:w'.heap.size=w.heap.size) (hold:∀ b,b≠l.b→w'.heap[b]? = w.heap[b]?) (ho:ObjR base ρ w' l o):Sim base (vl G i o) ρ w' where
 dom:=fun id=>by
  unfold vl;by_cases e:id=i
  ·simp [e,hl]
  ·simp [e,h.dom id]
 size:=by rw [hsz];exact h.size
 rng:=fun id l' hl'=>by rw [hsz];exact h.rng id l' hl'
 obj:=fun id o' l' hg' hl'=>by
  unfold vl at hg';by_cases e:id=i
  ·simp [e] at hg';subst e;rw [hl] at hl';cases hl';subst hg';exact ho
  ·simp [e] at hg';by_cases hd:o' = .dead
   ·subst hd;trivial
   ·exact (h.obj id o' l' hg' hl').mono (Ren.le_refl _) (hold _ (fun e'=>h.inj i id oi o' l l' hg hg' hl hl' (fun e2=>e e2.symm) hown hd e'.symm))
 glob:=km (fun b hb=>hold b (by
  have hr:=h.obj i oi l hg hl;have:base≤l.b:=by
   cases oi with
   | dead=>cases hown
   | blk cells own=>obtain ⟨_,_,_,_,_,_,_,h5⟩:=hr;exact (h5 hown).2.2
   | tblk=>obtain ⟨_,_,_,_,_,_,_,h5⟩:=hr;exact h5
   | map es own=>obtain ⟨_,_,_,_,_,_,h5⟩:=hr;exact h5 hown
   | loop=>exact hr.2.1
   | defd=>exact hr.2.1
  omega)) h.glob
 inj:=fun a b oa ob la lb ga gb ra rb hne ho' hd=>by
  unfold vl at ga gb;by_cases ea:a=i
  ·subst ea;have eb:b≠a:=fun e=>hne e.symm;simp [eb] at gb;exact h.inj a b oi ob la lb hg gb ra rb hne hown hd
  ·simp [ea] at ga;by_cases eb:b=i
   ·subst eb;exact h.inj a b oa oi la lb ga hg ra rb hne ho' (by intro e;subst e;simp [AObj.own] at hown)
   ·simp [eb] at gb;exact h.inj a b oa ob la lb ga gb ra rb hne ho' hd
theorem Sim.kill {base:Nat}{G:Nat→Option AObj}{ρ:Ren}{w:World}(h:Sim base G ρ w) (i:Nat) (hi:(G i).isSome=true):Sim base (vl G i .dead) ρ w where
 dom:=fun id=>by
  unfold vl;by_cases e:id=i
  ·have:=h.dom i;rw [hi] at this;simp [e,← this]
  ·simp [e,h.dom id]
 size:=h.size
 rng:=h.rng
 obj:=fun id o' l' hg' hl'=>by
  unfold vl at hg';by_cases e:id=i
  ·simp [e] at hg';subst hg';trivial
  ·simp [e] at hg';exact h.obj id o' l' hg' hl'
 glob:=h.glob
 inj:=fun a b oa ob la lb ga gb ra rb hne ho' hd=>by
  unfold vl at ga gb;by_cases ea:a=i
  ·simp [ea] at ga;subst ga;simp [AObj.own] at ho'
  ·simp [ea] at ga;by_cases eb:b=i
   ·simp [eb] at gb;exact absurd gb.symm hd
   ·simp [eb] at gb;exact h.inj a b oa ob la lb ga gb ra rb hne ho' hd
theorem Sim.move {base:Nat}{G:Nat→Option AObj}{ρ:Ren}{w w' : World}(h:Sim base G ρ w) (i j:Nat) (oi o:AObj) (l:Loc) (hg:G i=some oi) (hl:ρ i=some l) (hj:ρ j=none)
  (hown:oi.own=true) (hsz:w'.heap.size=w.heap.size) (hold:∀ b,b≠l.b→w'.heap[b]? = w.heap[b]?) (ho:ObjR base (ρ.put j l) w' l o) :
  Sim base (vl (vl G i .dead) j o) (ρ.put j l) w':=by
 have hij:i≠j:=fun e=>by subst e;rw [hl] at hj;cases hj
 refine ⟨fun id=>?_,by rw [hsz];exact h.size,fun id l' hl'=>?_,fun id o' l' hg' hl'=>?_,fun a b oa ob la lb ga gb ra rb hne ho' hd=>?_,km (fun b hb=>hold b (by
  have hr:=h.obj i oi l hg hl;have:base≤l.b:=by
   cases oi with
   | dead=>cases hown
   | blk cells own=>obtain ⟨_,_,_,_,_,_,_,h5⟩:=hr;exact (h5 hown).2.2
   | tblk=>obtain ⟨_,_,_,_,_,_,_,h5⟩:=hr;exact h5
   | map es own=>obtain ⟨_,_,_,_,_,_,h5⟩:=hr;exact h5 hown
   | loop=>exact hr.2.1
   | defd=>exact hr.2.1
  omega)) h.glob⟩
 ·unfold vl Ren.put;by_cases e:id=j
  ·simp [e]
  ·by_cases e2:id=i
   ·simp [e2,hij,hl]
   ·simp [e,e2,h.dom id]
 ·unfold Ren.put at hl';rw [hsz];by_cases e:id=j
  ·simp [e] at hl';subst hl';exact h.rng i l hl
  ·simp [e] at hl';exact h.rng id l' hl'
 ·unfold vl at hg';unfold Ren.put at hl';by_cases e:id=j
  ·simp [e] at hg' hl';subst hg';subst hl';exact ho
  ·simp [e] at hg' hl';by_cases e2:id=i
   ·simp [e2] at hg';subst hg';trivial
   ·simp [e2] at hg';by_cases hd:o' = .dead
    ·subst hd;trivial
    ·exact (h.obj id o' l' hg' hl').mono (Ren.le_put hj l) (hold _ (fun e'=>h.inj i id oi o' l l' hg hg' hl hl' (fun e3=>e2 e3.symm) hown hd e'.symm))
 ·unfold vl at ga gb;unfold Ren.put at ra rb;by_cases ea:a=j
  ·simp [ea] at ga ra;have eb:b≠j:=fun e=>hne (ea.trans e.symm);simp [eb] at gb rb;by_cases eb2:b=i
   ·simp [eb2] at gb;exact absurd gb.symm hd
   ·simp [eb2] at gb;subst ra;exact h.inj i b oi ob l lb hg gb hl rb (fun e=>eb2 e.symm) hown hd
  ·simp [ea] at ga ra;by_cases ea2:a=i
   ·simp [ea2] at ga;subst ga;simp [AObj.own] at ho'
   ·simp [ea2] at ga;by_cases eb:b=j
    ·simp [eb] at gb rb;subst rb;exact h.inj a i oa oi la l ga hg ra hl ea2 ho' (by intro e;subst e;simp [AObj.own] at hown)
    ·simp [eb] at gb rb;by_cases eb2:b=i
     ·simp [eb2] at gb;exact absurd gb.symm hd
     ·simp [eb2] at gb;exact h.inj a b oa ob la lb ga gb ra rb hne ho' hd
inductive PK where
 | mov | pick | nilCheck | lenS | lenStr | isNil (cls:Nat) (neg:Bool) | eqB (neg:Bool)
 | bin (op:BinOp) | un (op:UnOp) | conv (k:IntKind)
 | build (zero:List Value) (parts:List (Nat × Nat))
 | field (agg:Bool) (off size:Nat) | fieldAddr (off:Nat)
 | idxAddrS (size:Nat) | idxAddrA (len size:Nat) | idxStr | idxAgg (agg:Bool) (len size:Nat)
 | sliceS (size:Nat) (lo hi:Bool) | clip (size:Nat) | sliceStr (lo hi:Bool)
 | minI (mx:Bool) | eqK (t:Nat) (good:Value→Bool) (neg:Bool) | idxByte
 | eqP (neg:Bool) | sliceData | noEsc
 | extract (i:Nat) | mkFunc (f:FuncId) (nf:Nat) | iface (t:TypeId) | konst (v:Value) | strId
 deriving Inhabited
inductive RK where
 | load (agg:Bool) (size:Nat)
 | lookup (good:Value→Bool) (zero:Value) (ok:Bool)
 | bytesStr | lenMap
 | toUns | ofUns (good:TypeId→Nat→Nat→Bool)
 deriving Inhabited
inductive AK where
 | new (cells:List Value)
 | box
 | bslice (zs:List Value) (parts:List (Nat × Nat)) (len size:Nat)
 | make (zero:List Value) (size bytes:Nat)
 deriving Inhabited
inductive WK where
 | store (size:Nat)
 | append (size bytes:Nat)
 | mkMap
 | mapSet (good:Value→Bool)
 | strBytes | clearS (size:Nat) (zero:List Value)
 | newT (e:TypeId) (cells:List Value) | boxT (e:TypeId) | appendT (e:TypeId) (bytes:Nat) | unsStr (e:TypeId)
 deriving Inhabited
inductive K where
 | p (k:PK) | r (k:RK) | a (k:AK) | w (k:WK)
 | call (f:FuncId) | callV
 deriving Inhabited
def qc0 (op:BinOp) (k:IntKind) (a b:Int):Option Value :=
 if b < 0 then none else
 match op with
 | .shl=>some (.int k (k.wrap (a * 2 ^ (min b.toNat k.bits))))
 | .shr=>some (.int k (a.fdiv (2 ^ (min b.toNat k.bits))))
 | _=>none
def zf (op:BinOp) (k:IntKind) (a b:Int):Option Value :=
 match op with
 | .add=>some (.int k (k.wrap (a + b)))
 | .sub=>some (.int k (k.wrap (a - b)))
 | .mul=>some (.int k (k.wrap (a * b)))
 | .quo=>if b=0 then none else some (.int k (k.wrap (a.tdiv b)))
 | .rem=>if b=0 then none else some (.int k (a.tmod b))
 | .and=>some (.int k (k.wrap (BitVec.ofInt k.bits a &&& BitVec.ofInt k.bits b).toNat))
 | .or=>some (.int k (k.wrap (BitVec.ofInt k.bits a ||| BitVec.ofInt k.bits b).toNat))
 | .xor=>some (.int k (k.wrap (BitVec.ofInt k.bits a ^^^ BitVec.ofInt k.bits b).toNat))
 | .andNot=>some (.int k (k.wrap (BitVec.ofInt k.bits a &&& ~~~ BitVec.ofInt k.bits b).toNat))
 | .eql=>some (.bool (a == b))
 | .neq=>some (.bool (a != b))
 | .lss=>some (.bool (decide (a < b)))
 | .leq=>some (.bool (decide (a≤b)))
 | .gtr=>some (.bool (decide (a > b)))
 | .geq=>some (.bool (decide (a ≥ b)))
 | .shl | .shr=>none
def yj7 (op:BinOp) (a b:ByteArray):Option Value :=
 match op with
 | .add=>if a.size + b.size≤9223372036854775807 then some (.string (a++b)) else none
 | .eql=>some (.bool (a.toList == b.toList))
 | .neq=>some (.bool !(a.toList == b.toList))
 | .lss=>some (.bool (Op.bytesLess a.toList b.toList))
 | .leq=>some (.bool (Op.bytesLess a.toList b.toList || a.toList == b.toList))
 | .gtr=>some (.bool !(Op.bytesLess a.toList b.toList || a.toList == b.toList))
 | .geq=>some (.bool !(Op.bytesLess a.toList b.toList))
 | _=>none
def ze (op:BinOp):Value→Value→Option Value
 | .int k a,.int k' b =>
  match op with
  | .shl | .shr=>qc0 op k a b
  | _=>if k=k' then zf op k a b else none
 | .string a,.string b=>yj7 op a b
 | _,_=>none
def aUn (op:UnOp):Value→Option Value
 | .int k n=>match op with
  | .neg=>some (.int k (k.wrap (0 - n)))
  | .xor=>some (.int k (k.wrap (BitVec.ofInt k.bits (if k.signed then -1 else k.max) ^^^ BitVec.ofInt k.bits n).toNat))
  | _=>none
 | .bool b=>match op with | .not=>some (.bool !b) | _=>none
 | _=>none
def Zj (cells:List Value):List ((Nat × Nat) × Value)→Option (List Value)
 | []=>some cells
 | ((off,size),v)::r=>if v.cells.toList.length=size∧off + size≤cells.length∧v.cells.toList.all (·.oneCell')=true then Zj (cells.take off++v.cells.toList++cells.drop (off + size)) r else none
def yi7:Nat→Value→Option Bool
 | 0,.slice p _ _=>some p.isNone
 | 1,.pointer p=>some p.isNone
 | 2,.nilFunc=>some true
 | 2,.func ..=>some false
 | 3,.nilIface=>some true
 | 3,.iface ..=>some false
 | _,_=>none
def qu (agg:Bool) (off size:Nat) (cs:List Value):Option Value :=
 if agg then (if off + size≤cs.length then some (.agg ((cs.drop off).take size).toArray) else none) else cs[off]?
def Uh (lo hi:Bool) (len:Nat) (vs:List Value):Option (Nat × Nat) :=
 match lo,hi,vs with
 | false,false,[]=>some (0,len)
 | true,false,[.int _ l]=>if 0≤l∧l≤len then some (l.toNat,len) else none
 | false,true,[.int _ h]=>if 0≤h∧h≤len then some (0,h.toNat) else none
 | true,true,[.int _ l,.int _ h]=>if 0≤l∧l≤h∧h≤len then some (l.toNat,h.toNat) else none
 | _,_,_=>none
def pMov:List Value→Option Value | [x]=>some x | _=>none
def pPick:List Value→Option Value | [.bool c,a,b]=>some (if c then a else b) | _=>none
def pNilCheck:List Value→Option Value
 | [.pointer (some a)]=>some (.pointer (some a))
 | [.func (.func f) a b]=>some (.func (.func f) a b)
 | [.func (.yield f) a b]=>some (.func (.yield f) a b)
 | _=>none
def ua:List Value→Option Value | [.slice _ n _]=>some (.int .i64 n) | _=>none
def Wo:List Value→Option Value | [.string s]=>some (.int .i64 s.size) | _=>none
def pNil (cls:Nat) (neg:Bool):List Value→Option Value | [x]=>(yi7 cls x).map fun b=>.bool (if neg then !b else b) | _=>none
def pEqB (neg:Bool):List Value→Option Value | [.bool a,.bool b]=>some (.bool (if neg then !(a == b) else a == b)) | _=>none
def pBin (op:BinOp):List Value→Option Value | [x,y]=>ze op x y | _=>none
def pUn (op:UnOp):List Value→Option Value | [x]=>aUn op x | _=>none
def pConv (k:IntKind):List Value→Option Value | [.int _ n]=>some (.int k (k.wrap n)) | _=>none
def yo (zero:List Value) (parts:List (Nat × Nat)) (vs:List Value):Option Value :=
 if parts.length=vs.length then (Zj zero (parts.zip vs)).map fun cs=>.agg cs.toArray else none
def yo2 (agg:Bool) (off size:Nat):List Value→Option Value | [.agg cs]=>qu agg off size cs.toList | _=>none
def pFieldAddr (off:Nat):List Value→Option Value | [.pointer (some ⟨id,o,none⟩)]=>some (.pointer (some ⟨id,o + off,none⟩)) | _=>none
def zp (size:Nat):List Value→Option Value
 | [.slice (some ⟨id,o,none⟩) n s,.int _ i]=>if 0≤i∧i < n∧s=size then some (.pointer (some ⟨id,o + i.toNat * size,none⟩)) else none
 | _=>none
def zl7 (len size:Nat):List Value→Option Value
 | [.pointer (some ⟨id,o,none⟩),.int _ i]=>if 0≤i∧i < len then some (.pointer (some ⟨id,o + i.toNat * size,none⟩)) else none
 | _=>none
def Wp:List Value→Option Value
 | [.string s,.int _ i]=>if 0≤i then (s[i.toNat]?).map fun b=>.int .u8 b.toNat else none
 | _=>none
def yo1 (agg:Bool) (len size:Nat):List Value→Option Value
 | [.agg cs,.int _ i]=>if 0≤i∧i < len then qu agg (i.toNat * size) size cs.toList else none
 | _=>none
def jo (size:Nat) (lo hi:Bool):List Value→Option Value
 | .slice none 0 0::r=>(Uh lo hi 0 r).map fun _=>.slice none 0 0
 | .slice (some ⟨id,o,none⟩) n s::r=>if s=size then (Uh lo hi n r).map fun (l,h)=>.slice (some ⟨id,o + l * size,none⟩) (h - l) size else none
 | _=>none
def pClip (size:Nat):List Value→Option Value
 | [.slice none 0 0,.int _ h,.int _ m]=>if h=0∧m=0 then some (.slice none 0 0) else none
 | [.slice (some ⟨id,o,none⟩) n s,.int _ h,.int _ m]=>if s=size∧h=n∧m=n then some (.slice (some ⟨id,o,some 0⟩) n s) else none
 | _=>none
def Z1 (lo hi:Bool):List Value→Option Value
 | .string s::r=>(Uh lo hi s.size r).map fun (l,h)=>.string (s.extract l h)
 | _=>none
def pExtract (i:Nat):List Value→Option Value | [.tuple vs]=>vs[i]? | _=>none
def pIface (t:TypeId):List Value→Option Value | [x]=>some (.iface t x) | _=>none
def pStrId:List Value→Option Value | [.string s]=>some (.string s) | _=>none
def pKonst (v:Value):List Value→Option Value | []=>some v | _=>none
def Yq:Value→Bool | .bool _ | .int .. | .string _=>true | _=>false
def wy:Value→Bool | .agg cs=>cs.toList.all Yq | v=>Yq v
def Qt:Value→Value→Bool
 | .bool a,.bool b=>a == b
 | .int k a,.int k' b=>decide (k=k') && decide (a=b)
 | .string a,.string b=>a.data == b.data
 | _,_=>false
def Jq:List Value→List Value→Bool
 | [],[]=>true
 | x::r,y::s=>Qt x y && Jq r s
 | _,_=>false
def kx:Value→Value→Bool
 | .agg a,.agg b=>Jq a.toList b.toList
 | a,b=>Qt a b
def yu (P:Program) (k:TypeId) (v:Value):Bool:=wy v && (keyOf P k v).isSome
def J5 (mx:Bool):List Value→Option Value
 | [.int k a,.int k' b]=>if k=k' then some (.int k (if mx then (if b > a then b else a) else (if b < a then b else a))) else none
 | _=>none
def pEqK (good:Value→Bool) (neg:Bool):List Value→Option Value
 | [x,y]=>if good x && good y then some (.bool (if neg then !kx x y else kx x y)) else none
 | _=>none
def zz4:List Value→Option Value
 | [.string s,.int .u8 c]=>some (.int .i64 (Lib.indexByte s.data.toList c.toNat.toUInt8))
 | _=>none
def pEqP (neg:Bool):List Value→Option Value
 | [.pointer (some ⟨i,o,none⟩),.pointer (some ⟨j,p,none⟩)]=>if i=j∧o=p then some (.bool !neg) else none
 | _=>none
def Uz:List Value→Option Value
 | [.slice none 0 0]=>some (.pointer none)
 | [.slice (some ⟨id,o,none⟩) n _]=>if 0 < n then some (.pointer (some ⟨id,o,none⟩)) else none
 | _=>none
def V6:List Value→Option (List UInt8)
 | []=>some []
 | .int .u8 n::r=>(V6 r).map (UInt8.ofNat n.toNat :: ·)
 | _=>none
def aP:PK→List Value→Option Value
 | .konst v=>pKonst v
 | .strId=>pStrId
 | .mov=>pMov
 | .pick=>pPick
 | .nilCheck=>pNilCheck
 | .lenS=>ua
 | .lenStr=>Wo
 | .isNil cls neg=>pNil cls neg
 | .bin op=>pBin op
 | .eqB neg=>pEqB neg
 | .un op=>pUn op
 | .conv k=>pConv k
 | .build zero parts=>yo zero parts
 | .field agg off size=>yo2 agg off size
 | .fieldAddr off=>pFieldAddr off
 | .idxAddrS size=>zp size
 | .idxAddrA len size=>zl7 len size
 | .idxStr=>Wp
 | .idxAgg agg len size=>yo1 agg len size
 | .sliceS size lo hi=>jo size lo hi
 | .sliceStr lo hi=>Z1 lo hi
 | .clip size=>pClip size
 | .extract i=>pExtract i
 | .minI mx=>J5 mx
 | .eqK _ good neg=>pEqK good neg
 | .idxByte=>zz4
 | .eqP neg=>pEqP neg
 | .sliceData=>Uz
 | .noEsc=>pMov
 | .mkFunc f nf=>fun vs=>some (.func (.func f) (vs.take nf).toArray (vs.drop nf).toArray)
 | .iface t=>pIface t
def Yb (good:Value→Bool) (zero:Value) (ok:Bool) (vs:List Value) (G:Nat→Option AObj):Option Value :=
 match vs with
 | [.map (some id),key] =>
  match G id with
  | some (.map es _)=>if good key && es.all (fun e=>good e.1) then
    let r:=(es.findIdx? fun e=>kx e.1 key).bind fun i=>es[i]?
    some (if ok then .tuple #[(r.map (·.2)).getD zero,.bool r.isSome] else (r.map (·.2)).getD zero) else none
  | _=>none
 | _=>none
def Z4 (es:List (Value × Value)) (key val:Value):List (Value × Value) :=
 match es.findIdx? fun e=>kx e.1 key with
 | some i=>es.set i (key,val)
 | none=>es++[(key,val)]
def aR:RK→List Value→(Nat→Option AObj)→Option Value
 | .load agg size,[.pointer (some ⟨id,o,none⟩)],G =>
  match G id with
  | some (.blk cells _)=>qu agg o size cells
  | some (.tblk cells _ _)=>qu agg o size cells
  | _=>none
 | .lookup good zero ok,vs,G=>Yb good zero ok vs G
 | .lenMap,[.map (some id)],G=>(match G id with | some (.map es _)=>some (.int .i64 es.length) | _=>none)
 | .bytesStr,[.slice none 0 0],_=>some (.string .empty)
 | .bytesStr,[.slice (some ⟨id,o,none⟩) n s],G=>if s=1 then (if n=0 then some (.string .empty) else match G id with
  | some (.blk cells _)=>if o + n≤cells.length then (V6 ((cells.drop o).take n)).map fun l=>.string ⟨l.toArray⟩ else none
  | _=>none) else none
 | .toUns,[.pointer (some ⟨id,o,none⟩)],G =>
  match G id with
  | some (.tblk cells _ _)=>if o < cells.length then some (.pointer (some ⟨id,o,none⟩)) else none
  | _=>none
 | .ofUns good,[.pointer (some ⟨id,o,none⟩)],G =>
  match G id with
  | some (.tblk cells e true)=>if good e cells.length o then some (.pointer (some ⟨id,o,none⟩)) else none
  | _=>none
 | _,_,_=>none
def aNew (cells:List Value):List Value→Option (List Value × (Nat→Value)) | []=>some (cells,fun id=>.pointer (some ⟨id,0,none⟩)) | _=>none
def Je:List Value→Option (List Value × (Nat→Value))
 | [v]=>if v.cells.toList.all (·.oneCell') then some (v.cells.toList,fun id=>.pointer (some ⟨id,0,none⟩)) else none
 | _=>none
def yj (zs:List Value) (parts:List (Nat × Nat)) (len size:Nat) (vs:List Value):Option (List Value × (Nat→Value)) :=
 if parts.length=vs.length then (Zj zs (parts.zip vs)).map fun cs=>(cs,fun id=>.slice (some ⟨id,0,none⟩) len size) else none
def yi8 (zero:List Value) (size bytes:Nat):List Value→Option (List Value × (Nat→Value))
 | [.int _ l,.int _ c]=>if 0≤l∧l≤c∧c * bytes≤281474976710656∧c≤9223372036854775807 then some ((List.replicate l.toNat zero).flatten,fun id=>.slice (some ⟨id,0,none⟩) l.toNat size) else none
 | _=>none
def aA:AK→List Value→Option (List Value × (Nat→Value))
 | .new cells=>aNew cells
 | .box=>Je
 | .bslice zs parts len size=>yj zs parts len size
 | .make zero size bytes=>yi8 zero size bytes
def jy (size:Nat) (h:Heap):Value→Option (List Value)
 | .slice none 0 0=>some []
 | .slice (some ⟨id,o,none⟩) n s=>if s=size then (if n=0 then some [] else match h.get id with
   | some (.blk cells _)=>if o + n * size≤cells.length then some ((cells.drop o).take (n * size)) else none
   | _=>none) else none
 | .string s=>if size=1 then some (s.data.toList.map fun b=>.int .u8 b.toNat) else none
 | _=>none
def zt (size:Nat) (h:Heap):List Value→Option (Value × Heap)
 | [.pointer (some ⟨id,o,none⟩),v] =>
  match h.get id with
  | some (.blk cells true)=>if v.cells.toList.length=size∧o + size≤cells.length∧v.cells.toList.all (·.oneCell')=true then some (undef,h.set id (.blk (cells.take o++v.cells.toList++cells.drop (o + size)) true)) else none
  | some (.tblk cells e full)=>if v.cells.toList.length=size∧o + size≤cells.length∧v.cells.toList.all (·.oneCell')=true then some (undef,h.set id (.tblk (cells.take o++v.cells.toList++cells.drop (o + size)) e full)) else none
  | _=>none
 | _=>none
def yq (size bytes:Nat) (h:Heap):List Value→Option (Value × Heap)
 | [s,x] =>
  match jy size h x with
  | none=>none
  | some news =>
   if news.length=0 then (match s with | .slice ..=>some (s,h) | _=>none) else
   match s with
   | .slice none 0 0=>if news.length / size * bytes≤140737488355328∧news.length / size≤9223372036854775807 then some (.slice (some ⟨h.next,0,none⟩) (news.length / size) size,h.alloc (.blk news true)) else none
   | .slice (some ⟨id,o,some _⟩) n s' =>
    match h.get id with
    | some (.blk cells _) =>
     if s' = size∧o + n * size≤cells.length∧(n + news.length / size) * bytes≤140737488355328∧n + news.length / size≤9223372036854775807
     then some (.slice (some ⟨h.next,0,none⟩) (n + news.length / size) size,h.alloc (.blk ((cells.drop o).take (n * size)++news) true)) else none
    | _=>none
   | .slice (some ⟨id,0,none⟩) n s' =>
    match h.get id with
    | some (.blk cells true) =>
     if s' = size∧cells.length=n * size∧(n + news.length / size) * bytes≤140737488355328∧n + news.length / size≤9223372036854775807
     then some (.slice (some ⟨h.next,0,none⟩) (n + news.length / size) size,(h.set id .dead).alloc (.blk (cells++news) true)) else none
    | _=>none
   | _=>none
 | _=>none
def Qa (e:TypeId) (size bytes:Nat) (h:Heap):List Value→Option (Value × Heap)
 | [s,x] =>
  match jy size h x with
  | none=>none
  | some news =>
   if news.length=0 then (match s with | .slice ..=>some (s,h) | _=>none) else
   match s with
   | .slice none 0 0=>if news.length / size * bytes≤140737488355328∧news.length / size≤9223372036854775807 then some (.slice (some ⟨h.next,0,none⟩) (news.length / size) size,h.alloc (.tblk news e false)) else none
   | .slice (some ⟨id,0,none⟩) n s' =>
    match h.get id with
    | some (.tblk cells e' _) =>
     if e' = e∧s' = size∧cells.length=n * size∧(n + news.length / size) * bytes≤140737488355328∧n + news.length / size≤9223372036854775807
     then some (.slice (some ⟨h.next,0,none⟩) (n + news.length / size) size,(h.set id .dead).alloc (.tblk (cells++news) e false)) else none
    | _=>none
   | _=>none
 | _=>none
def za9:List Value→Option (List UInt8)
 | []=>some []
 | .int .u8 n::r=>if 0≤n∧n < 256 then (za9 r).map (UInt8.ofNat n.toNat :: ·) else none
 | _=>none
def X9 (e:TypeId) (h:Heap):List Value→Option (Value × Heap)
 | [.pointer none,.int .i64 0]=>some (.string .empty,h)
 | [.pointer (some ⟨id,0,none⟩),.int .i64 n] =>
  match h.get id with
  | some (.tblk cells e' _)=>if e' = e∧0 < n∧n≤cells.length∧n≤9223372036854775807 then (za9 (cells.take n.toNat)).map fun l=>(.string ⟨l.toArray⟩,h.set id .dead) else none
  | _=>none
 | _=>none
def Zl (good:Value→Bool) (h:Heap):List Value→Option (Value × Heap)
 | [.map (some id),key,val] =>
  match h.get id with
  | some (.map es true)=>if good key && es.all (fun e=>good e.1) then some (undef,h.set id (.map (Z4 es key val) true)) else none
  | _=>none
 | _=>none
def Wa (s:Nat) (z:List Value) (h:Heap):List Value→Option (Value × Heap)
 | [.slice none 0 0]=>some (.tuple #[],h)
 | [.slice (some ⟨id,off,none⟩) n _]=>match h.get id with
  | some (.blk cells true)=>if off + n * s≤cells.length then some (.tuple #[],h.set id (.blk (cells.take off++(List.replicate n z).flatten++cells.drop (off + n * s)) true)) else none
  | _=>none
 | _=>none
def aW:WK→List Value→Heap→Option (Value × Heap)
 | .store size,vs,h=>zt size h vs
 | .append size bytes,vs,h=>yq size bytes h vs
 | .mkMap,[],h=>some (.map (some h.next),h.alloc (.map [] true))
 | .mapSet good,vs,h=>Zl good h vs
 | .clearS s z,vs,h=>Wa s z h vs
 | .newT e cells,[],h=>some (.pointer (some ⟨h.next,0,none⟩),h.alloc (.tblk cells e true))
 | .boxT e,[v],h=>if v.cells.toList.all (·.oneCell') then some (.pointer (some ⟨h.next,0,none⟩),h.alloc (.tblk v.cells.toList e true)) else none
 | .appendT e bytes,vs,h=>Qa e 1 bytes h vs
 | .unsStr e,vs,h=>X9 e h vs
 | .strBytes,[.string s],h=>some (.slice (some ⟨h.next,0,none⟩) s.size 1,h.alloc (.blk (s.data.toList.map fun b=>.int .u8 b.toNat) false))
 | _,_,_=>none
def heldT (P:Program) (e:TypeId):Bool :=
 match P.underlying e with
 | some (.int .u8)=>true
 | some (.struct fs)=>match fs[0]? with
  | some f=>(match P.info? f.type with
   | some i => (match i.desc with | .named n _ => n == "strings.Builder" | _ => false)
   | none=>false)
  | none=>false
 | _=>false
def sizeOf? (P:Program) (t:TypeId):Option Nat:=(P.info? t).map (·.size)
def bytesOf? (P:Program) (t:TypeId):Option Nat:=(P.info? t).map (·.bytes)
def isAgg? (P:Program) (t:TypeId):Option Bool:=(P.underlying t).map fun | .struct _=>true | .array _ _=>true | _=>false
def zero? (P:Program) (t:TypeId):Option (List Value) :=
 match (P.info? t).bind (·.zero) with
 | some z=>if z.cells.toList.all (fun c=>Value.plain c && c.oneCell') then some z.cells.toList else none
 | none=>none
def Yl (P:Program) (t:TypeId):Option (Array Field):=match P.underlying t with | some (.struct fs)=>some fs | _=>none
def optL:Option Operand→List Operand | some x=>[x] | none=>[]
def W3 (cls:Nat):Operand→Bool
 | .const (.slice none a b)=>cls == 0 && a == 0 && b == 0
 | .const (.pointer none)=>cls == 1
 | .const .nilFunc=>cls == 2
 | .const .nilIface=>cls == 3
 | _=>false
def kNil (cls:Nat) (op:BinOp) (x y:Operand):Option (K × List Operand) :=
 if W3 cls y then (match op with
  | .eql=>some (.p (.isNil cls false),[x])
  | .neq=>some (.p (.isNil cls true),[x])
  | _=>none) else none
def keyed? (P:Program) (k:TypeId):Bool :=
 match P.underlying k with
 | some (.int _)=>true
 | some .string=>true
 | some (.array _ _)=>P.keyTypeAt 8 k && P.tiled 8 k
 | some (.struct _)=>P.keyTypeAt 8 k && P.tiled 8 k
 | _=>false
def kPtr (P:Program) (e:TypeId) (op:BinOp) (x y:Operand):Option (K × List Operand) :=
 if W3 1 y then kNil 1 op x y else
 if (sizeOf? P e).isSome then (match op with
  | .neq=>some (.p (.eqP true),[x,y])
  | _=>none) else none
def kEqK (P:Program) (op:BinOp) (t:TypeId) (x y:Operand):Option (K × List Operand) :=
 if keyed? P t && !(P.eqGuardType P.depth t) then (match op with
  | .eql=>some (.p (.eqK t (yu P t) false),[x,y])
  | .neq=>some (.p (.eqK t (yu P t) true),[x,y])
  | _=>none) else none
def kBin (P:Program) (op:BinOp) (t:TypeId) (x y:Operand):Option (K × List Operand) :=
 match P.underlying t with
 | some (.int _)=>some (.p (.bin op),[x,y])
 | some .string=>some (.p (.bin op),[x,y])
 | some .bool=>match op with
  | .eql=>some (.p (.eqB false),[x,y])
  | .neq=>some (.p (.eqB true),[x,y])
  | _=>none
 | some (.slice _)=>kNil 0 op x y
 | some (.pointer e)=>kPtr P e op x y
 | some (.func ..)=>kNil 2 op x y
 | some (.interface _)=>kNil 3 op x y
 | some (.struct _)=>kEqK P op t x y
 | some (.array _ _)=>kEqK P op t x y
 | _=>none
def za0 (P:Program) (t:TypeId) (parts:Array (Nat × Operand)):Option (K × List Operand) :=
 match zero? P t,P.underlying t with
 | some z,some (.struct fs) =>
  match fs.toList.mapM (fun f=>(P.info? f.type).map fun i=>(f.offset,i.size)) with
  | some places =>
   if (parts.toList.map fun (i,_)=>places[i]?).all (·.isSome) then some (.p (.build z ((parts.toList.map fun (i,_)=>places[i]?).filterMap id)),parts.toList.map (·.2)) else none
  | none=>none
 | some z,some (.array _ e) =>
  match sizeOf? P e with
  | some s=>some (.p (.build z (parts.toList.map fun (i,_)=>(i * s,s))),parts.toList.map (·.2))
  | none=>none
 | _,_=>none
def zt1 (u:Option TypeDesc) (x:Operand):Option (K × List Operand):=match u with | some (.map _ _)=>some (.r .lenMap,[x]) | _=>none
def kLen (P:Program) (args:List Operand) (ts:List TypeId):Option (K × List Operand) :=
 match args,ts with
 | [x],[t]=>match P.underlying t with
  | some .string=>some (.p .lenStr,[x])
  | some (.slice _)=>some (.p .lenS,[x])
  | some (.array n _)=>some (.p (.konst (.int .i64 n)),[])
  | u=>zt1 u x
 | _,_=>none
def yl4 (P:Program) (u:TypeId):Bool:=match P.underlying u with | some (.slice _)=>true | some .string=>true | _=>false
def Y1 (P:Program) (args:List Operand) (ts:List TypeId):Option (K × List Operand) :=
 match args,ts with
 | [s,x],[t,u] =>
  match P.underlying t with
  | some (.slice e) =>
   match sizeOf? P e,bytesOf? P e,zero? P e with
   | some k,some b,some z =>
    if z.length=k∧0 < k∧yl4 P u=true then (if k=1∧heldT P e=true then some (.w (.appendT e b),[s,x]) else some (.w (.append k b),[s,x])) else none
   | _,_,_=>none
  | _=>none
 | _,_=>none
def W5 (P:Program) (f:FuncId):Bool:=match P.funcs[f]? with
 | some fn => fn.body.isNone && (fn.name == "internal/bytealg.IndexByteString") && (fn.origin == "")
 | none=>false
def zt3 (P:Program) (f:FuncId):Bool:=match P.funcs[f]? with
 | some fn => fn.body.isNone && (fn.name == "internal/abi.NoEscape") && (fn.origin == "")
 | none=>false
def wv (args:List Operand):Option (K × List Operand):=match args with | [x]=>some (.p .sliceData,[x]) | _=>none
def Y0 (P:Program) (args:List Operand) (ts:List TypeId):Option (K × List Operand) :=
 match args,ts with
 | [p,n],[pt,_] =>
  match P.underlying pt with
  | some (.pointer e)=>if P.cellsOf e=1 then some (.w (.unsStr e),[p,n]) else none
  | _=>none
 | _,_=>none
def yr5 (P:Program) (mx:Bool) (args:List Operand) (t:Option TypeId):Option (K × List Operand) :=
 match args,t with
 | [x,y],some t=>match P.underlying t with
  | some (.int _)=>some (.p (.minI mx),[x,y])
  | _=>none
 | _,_=>none
def Wz (P:Program):List Operand→List TypeId→Option (K × List Operand)
 | [x],[t]=>match P.underlying t with
  | some (.slice e)=>match sizeOf? P e,zero? P e with
   | some s,some z=>if z.length=s then some (.w (.clearS s z),[x]) else none
   | _,_=>none
  | _=>none
 | _,_=>none
def zt2 (P:Program) (c:Call):Option (K × List Operand) :=
 match c.callee with
 | .builtin .len=>kLen P c.args.toList c.argTypes.toList
 | .builtin .append=>Y1 P c.args.toList c.argTypes.toList
 | .builtin .min=>yr5 P false c.args.toList c.argTypes[0]?
 | .builtin .max=>yr5 P true c.args.toList c.argTypes[0]?
 | .builtin .clear=>Wz P c.args.toList c.argTypes.toList
 | .builtin .unsafeSliceData=>wv c.args.toList
 | .builtin .unsafeString=>Y0 P c.args.toList c.argTypes.toList
 | .builtin _=>none
 | .value (.func f)=>if W5 P f then (if c.args.toList.length=2 then some (.p .idxByte,c.args.toList) else none) else
  if zt3 P f then (if c.args.toList.length=1 then some (.p .noEsc,c.args.toList) else none) else some (.call f,c.args.toList)
 | .value g=>some (.callV,g::c.args.toList)
 | .invoke ..=>none
def zeroP? (P:Program) (e:TypeId):Option Value:=match (P.info? e).bind (·.zero) with | some z=>if Value.plain z then some z else none | none=>none
def liesB (P:Program) (u:TypeId) (e:TypeId) (n o:Nat):Bool:=liesAt P P.depth e (n / P.cellsOf e) o u 1
def W0 (P:Program) (e:TypeId):Option (K × List Operand) :=
 (zero? P e).map fun z=>if heldT P e=true then (.w (.newT e z),[]) else (.a (.new z),[])
def U8 (P:Program) (t:TypeId) (x:Operand):Option (K × List Operand):=match sizeOf? P t with | some (_ + 1)=>some (.r .toUns,[x]) | _=>none
def U9 (P:Program) (u:TypeId) (x:Operand):Option (K × List Operand):=match sizeOf? P u with | some _=>some (.r (.ofUns (liesB P u)),[x]) | none=>none
def Qi (P:Program) (t:TypeId) (x:Operand) (lo hi:Option Operand):Option Operand→Option (K × List Operand)
 | none =>
  match P.underlying t with
  | some (.slice e)=>(sizeOf? P e).map fun s=>(.p (.sliceS s lo.isSome hi.isSome),x::(optL lo++optL hi))
  | some .string=>some (.p (.sliceStr lo.isSome hi.isSome),x::(optL lo++optL hi))
  | _=>none
 | some mx=>match lo,hi with
  | none,some hi =>
   match P.underlying t with
   | some (.slice e)=>(sizeOf? P e).map fun s=>(.p (.clip s),[x,hi,mx])
   | _=>none
  | _,_=>none
def zm (P:Program) (op:Op):Option (K × List Operand) :=
 match op with
 | .move x | .assign x=>some (.p .mov,[x])
 | .pick c a b=>some (.p .pick,[c,a,b])
 | .nilCheck x=>some (.p .nilCheck,[x])
 | .binOp op t x y _=>kBin P op t x y
 | .unOp op _ x=>some (.p (.un op),[x])
 | .convert s d x =>
  match P.underlying s,P.underlying d with
  | some (.int _),some (.int k)=>some (.p (.conv k),[x])
  | some .string,some .string=>some (.p .strId,[x])
  | some .string,some (.slice e)=>(match P.underlying e with | some (.int .u8)=>some (.w .strBytes,[x]) | _=>none)
  | some (.slice e),some .string=>(match P.underlying e with | some (.int .u8)=>if sizeOf? P e=some 1 then some (.r .bytesStr,[x]) else none | _=>none)
  | some (.pointer t),some .unsafePointer=>U8 P t x
  | some .unsafePointer,some (.pointer u)=>U9 P u x
  | _,_=>none
 | .build t parts=>za0 P t parts
 | .field t x f =>
  match Yl P t with
  | some fs=>match fs[f]? with
   | some f=>match isAgg? P f.type,sizeOf? P f.type with
    | some a,some s=>some (.p (.field a f.offset s),[x])
    | _,_=>none
   | none=>none
  | none=>none
 | .fieldAddr t x f =>
  match Yl P t with
  | some fs=>match fs[f]? with
   | some f=>match sizeOf? P f.type with
    | some s=>if s=0 then none else some (.p (.fieldAddr f.offset),[x])
    | none=>none
   | none=>none
  | none=>none
 | .indexAddr t x i =>
  match P.underlying t with
  | some (.slice e)=>(sizeOf? P e).map fun s=>(.p (.idxAddrS s),[x,i])
  | some (.array n e)=>(sizeOf? P e).map fun s=>(.p (.idxAddrA n s),[x,i])
  | _=>none
 | .index t x i =>
  match P.underlying t with
  | some .string=>some (.p .idxStr,[x,i])
  | some (.array n e)=>match isAgg? P e,sizeOf? P e with
   | some a,some s=>some (.p (.idxAgg a n s),[x,i])
   | _,_=>none
  | _=>none
 | .slice t x lo hi mx=>Qi P t x lo hi mx
 | .extract x i=>some (.p (.extract i),[x])
 | .makeFunc (.func f) first captured=>some (.p (.mkFunc f first.size),first.toList++captured.toList)
 | .makeInterface t x =>
  match P.underlying t with
  | some (.interface _)=>none
  | some _=>some (.p (.iface t),[x])
  | none=>none
 | .load t a =>
  match isAgg? P t,sizeOf? P t with
  | some g,some s=>some (.r (.load g s),[a])
  | _,_=>none
 | .store t a v=>(sizeOf? P t).map fun s=>(.w (.store s),[a,v])
 | .alloc e=>W0 P e
 | .box e v=>if heldT P e=true then some (.w (.boxT e),[v]) else some (.a .box,[v])
 | .buildSlice t len parts =>
  match P.underlying t with
  | some (.slice e) =>
   match sizeOf? P e,zero? P e with
   | some s,some z=>if z.length=s∧len * s≤16777216 then some (.a (.bslice (List.replicate len z).flatten (parts.toList.map fun (i,_)=>(i * s,s)) len s),parts.toList.map (·.2)) else none
   | _,_=>none
  | _=>none
 | .makeSlice t l c =>
  match P.underlying t with
  | some (.slice e) =>
   match sizeOf? P e,zero? P e,bytesOf? P e with
   | some s,some z,some b=>if z.length=s then some (.a (.make z s b),[l,c]) else none
   | _,_,_=>none
  | _=>none
 | .call c=>zt2 P c
 | .makeMap _ r=>if r.isNone then some (.w .mkMap,[]) else none
 | .lookup t x i ok =>
  match P.underlying t with
  | some (.map k e)=>match keyed? P k,zeroP? P e with
   | true,some z=>some (.r (.lookup (yu P k) z ok),[x,i])
   | _,_=>none
  | _=>none
 | .mapUpdate t m k v =>
  match P.underlying t with
  | some (.map kt _)=>if keyed? P kt then some (.w (.mapSet (yu P kt)),[m,k,v]) else none
  | _=>none
 | _=>none
theorem VR.int {ρ:Ren}{k:IntKind}{n:Int}{v' : Value}(h:VR ρ (.int k n) v'):v' = .int k n:=by cases h;rfl
theorem VR.bool {ρ:Ren}{b:Bool}{v' : Value}(h:VR ρ (.bool b) v'):v' = .bool b:=by cases h;rfl
theorem VR.str {ρ:Ren}{b:ByteArray}{v' : Value}(h:VR ρ (.string b) v'):v' = .string b:=by cases h;rfl
theorem VR.ptr_inv {ρ:Ren}{id o:Nat}{v' : Value}(h:VR ρ (.pointer (some ⟨id,o,none⟩)) v'):∃ l,ρ id=some l∧v' = .pointer (some ⟨l.b,o + l.sh,none⟩):=by
 cases h with
 | same _ h=>simp [Value.plain] at h
 | ptr _ _ l h=>exact ⟨l,h,rfl⟩
theorem VR.slice_inv {ρ:Ren}{id o len s:Nat}{v' : Value}(h:VR ρ (.slice (some ⟨id,o,none⟩) len s) v') :
  ∃ l off' cap,ρ id=some l∧v' = .slice (some ⟨l.b,off',none⟩) len cap∧len≤cap∧((off' = o + l.sh∧o + l.sh + cap * s≤l.sz)∨(len=0∧cap=0)):=by
 cases h with
 | same _ h=>simp [Value.plain] at h
 | slice _ _ off' _ _ cap l h hl ho=>exact ⟨l,off',cap,h,rfl,hl,ho⟩
theorem VR.clip_inv {ρ:Ren}{id o len s m:Nat}{v' : Value}(h:VR ρ (.slice (some ⟨id,o,some m⟩) len s) v') :
  ∃ l off',ρ id=some l∧v' = .slice (some ⟨l.b,off',none⟩) len len∧((off' = o + l.sh∧o + l.sh + len * s≤l.sz)∨len=0):=by
 cases h with
 | same _ h=>simp [Value.plain] at h
 | clip _ _ off' _ _ _ l h ho=>exact ⟨l,off',h,rfl,ho⟩
theorem VR.nil_inv {ρ:Ren}{v' : Value}(h:VR ρ (.slice none 0 0) v'):v' = .slice none 0 0:=by cases h;rfl
theorem VR.plain_inv {ρ:Ren}{v v' : Value}(hp:Value.plain v=true) (h:VR ρ v v'):v' = v:=by
 cases h<;>first | rfl | (simp [Value.plain] at hp;done) | skip
 case iface t v v' h=>cases v<;>first | (simp [Value.plain] at hp;done) | (cases h;rfl)
 case tuple cs cs' h =>
  cases h with
  | nil=>rfl
  | cons=>simp [Value.plain] at hp
theorem VR.agg_inv {ρ:Ren}{cs:Array Value}{v' : Value}(h:VR ρ (.agg cs) v'):∃ cs' : List Value,v' = .agg cs'.toArray∧VRs ρ cs.toList cs' ∧ ∀ c ∈ cs.toList,c.oneCell' = true:=by
 cases h with
 | same _ h=>simp [Value.plain] at h
 | agg cs cs' h h1=>exact ⟨cs',rfl,h,h1⟩
theorem VR.tuple_inv {ρ:Ren}{cs:Array Value}{v' : Value}(h:VR ρ (.tuple cs) v'):∃ cs' : List Value,v' = .tuple cs'.toArray∧VRs ρ cs.toList cs':=by
 cases h with
 | same _ h =>
  have:cs = #[]:=by simpa [Value.plain] using h
  subst this;exact ⟨[],rfl,.nil⟩
 | tuple cs cs' h=>exact ⟨cs',rfl,h⟩
theorem VR.func_inv {ρ:Ren}{f:FuncId}{a c:Array Value}{v' : Value}(h:VR ρ (.func (.func f) a c) v') :
  ∃ a' c' : List Value,v' = .func (.func f) a'.toArray c'.toArray∧VRs ρ a.toList a' ∧ VRs ρ c.toList c':=by
 cases h with
 | same _ h=>simp [Value.plain] at h
 | func f a a' c c' ha hc=>exact ⟨a',c',rfl,ha,hc⟩
theorem VRs.one {ρ:Ren}{a:Value}{l:List Value}(h:VRs ρ [a] l):∃ a',l=[a']∧VR ρ a a':=by
 cases h with
 | cons _ a' _ _ h hr=>cases hr;exact ⟨a',rfl,h⟩
theorem VRs.two {ρ:Ren}{a b:Value}{l:List Value}(h:VRs ρ [a,b] l):∃ a' b',l=[a',b']∧VR ρ a a' ∧ VR ρ b b':=by
 cases h with
 | cons _ a' _ _ h hr=>obtain ⟨b',rfl,hb⟩:=VRs.one hr;exact ⟨a',b',rfl,h,hb⟩
def wo (P:Program) (ρ:Ren) (ev:Operand→Value) (op:Op) (v:Value):Prop :=
 ∃ v',VR ρ v v' ∧ ∀ (o:Oper) (w:World),o.op=op→(execOp ev o).run P w = .ok (.value v') w
variable {P:Program}{ρ:Ren}{ev:Operand→Value}
theorem aInt_ok {op:BinOp}{k:IntKind}{a b:Int}{v:Value}(h:zf op k a b=some v) (t:TypeId):Value.plain v=true ∧ ∀ w,(binOp op t (.int k a) (.int k b)).run P w = .ok v w:=by
 cases op<;>simp only [zf] at h<;>first
  | (cases h;exact ⟨rfl,fun w=>by simp [binOp,Op.intArith,Op.intBits,Op.intCmp]⟩)
  | (
    split at h
    ·cases h
    ·rename_i hb;cases h;exact ⟨rfl,fun w=>by simp [binOp,Op.intDiv,hb]⟩)
  | cases h
theorem zq8 {op:BinOp}{k k' : IntKind}{a b:Int}{v:Value}(h:qc0 op k a b=some v) (t:TypeId) (ho:op = .shl∨op = .shr):Value.plain v=true ∧ ∀ w,(binOp op t (.int k a) (.int k' b)).run P w = .ok v w:=by
 unfold qc0 at h;split at h
 ·cases h
 ·rename_i hb;rcases ho with rfl | rfl<;>(cases h;exact ⟨rfl,fun w=>by simp [binOp,Op.shift,hb]⟩)
theorem aStr_ok {op:BinOp}{a b:ByteArray}{v:Value}(h:yj7 op a b=some v) (t:TypeId):Value.plain v=true ∧ ∀ w,(binOp op t (.string a) (.string b)).run P w = .ok v w:=by
 cases op<;>simp only [yj7] at h<;>first
  | (cases h;exact ⟨rfl,fun w=>by simp [binOp,Op.stringOp]⟩)
  | (
    split at h
    ·rename_i hb;cases h;refine ⟨rfl,fun w=>?_⟩;have hn:¬ (9223372036854775807 < (a.size:Int) + (b.size:Int)):=by omega
     simp [binOp,Op.stringOp,IntKind.max,IntKind.signed,IntKind.bits,hn]
    ·cases h)
  | cases h
theorem zu6 (op:BinOp) (t:TypeId) (x y:Operand) (k k' : IntKind) (a b:Int) (w:World):(eqGuard op t x y (.int k a) (.int k' b)).run P w = .ok () w:=by
 unfold eqGuard;split<;>rfl
theorem zu5 (op:BinOp) (t:TypeId) (x y:Operand) (a b:ByteArray) (w:World):(eqGuard op t x y (.string a) (.string b)).run P w = .ok () w:=by
 unfold eqGuard;split<;>rfl
theorem Jx (op:BinOp) (t:TypeId) (x y:Operand) (a b:Bool) (w:World):(eqGuard op t x y (.bool a) (.bool b)).run P w = .ok () w:=by
 unfold eqGuard;split<;>rfl
theorem bin_ok {op:BinOp}{t yt:TypeId}{x y:Operand}{a b:Value}{v:Value}(ha:VR ρ a (ev x)) (hb:VR ρ b (ev y)) (h:ze op a b=some v):wo P ρ ev (.binOp op t x y yt) v:=by
 unfold ze at h;split at h
 ·rename_i k a k' b;have e1:=ha.int;have e2:=hb.int;have key:Value.plain v=true ∧ ∀ w,(binOp op t (.int k a) (.int k' b)).run P w = .ok v w:=by
   split at h
   ·exact zq8 h t (.inl rfl)
   ·exact zq8 h t (.inr rfl)
   ·split at h
    ·rename_i hk;subst hk;exact aInt_ok h t
    ·cases h
  refine ⟨v,.same v key.1,fun o w ho=>?_⟩;simp [execOp,ho,e1,e2,zu6,key.2]
 ·rename_i a b;have e1:=ha.str;have e2:=hb.str;have key:=aStr_ok (P:=P) h t;refine ⟨v,.same v key.1,fun o w ho=>?_⟩;simp [execOp,ho,e1,e2,zu5,key.2]
 ·cases h
theorem yu5 {t:TypeId}(ht:P.underlying t=some .bool) (d:Nat) (a b:Bool) (w:World):(Op.equalIn (d + 1) t (.bool a) (.bool b)).run P w = .ok (a == b) w:=by
 simp [Op.equalIn,run_underlying ht]
theorem yh1 {t e:TypeId}(ht:P.underlying t=some (.slice e)) (d:Nat) (p:Option Addr) (n c:Nat) (w:World):(Op.equalIn (d + 1) t (.slice p n c) (.slice none 0 0)).run P w = .ok p.isNone w:=by
 cases p<;>simp [Op.equalIn,run_underlying ht]
theorem eqIn_ptr {t e:TypeId}(ht:P.underlying t=some (.pointer e)) (d:Nat) (p:Option Addr) (w:World):(Op.equalIn (d + 1) t (.pointer p) (.pointer none)).run P w = .ok p.isNone w:=by
 cases p<;>simp [Op.equalIn,run_underlying ht]
theorem zo6 {t:TypeId} {p r z}(ht:P.underlying t=some (.func p r z)) (d:Nat) (w:World):(Op.equalIn (d + 1) t .nilFunc .nilFunc).run P w = .ok true w:=by
 simp [Op.equalIn,run_underlying ht]
theorem yu4 {t:TypeId} {p r z}(ht:P.underlying t=some (.func p r z)) (d:Nat) (f u v) (w:World):(Op.equalIn (d + 1) t (.func f u v) .nilFunc).run P w = .ok false w:=by
 simp [Op.equalIn,run_underlying ht]
theorem eqB_ok {neg:Bool}{t yt:TypeId}{x y:Operand}{a b:Bool}(ht:P.underlying t=some .bool)
  (ha:VR ρ (.bool a) (ev x)) (hb:VR ρ (.bool b) (ev y)):wo P ρ ev (.binOp (if neg then .neq else .eql) t x y yt) (.bool (if neg then !(a == b) else a == b)):=by
 have e1:=ha.bool;have e2:=hb.bool;refine ⟨_,.same _ rfl,fun o w ho=>?_⟩;have he:(Op.equal t (.bool a) (.bool b)).run P w = .ok (a == b) w:=yu5 ht 9999 a b w;cases neg
 ·have h2:(binOp .eql t (.bool a) (.bool b))=(do pure (.bool (← Op.equal t (.bool a) (.bool b)))):=rfl;simp only [execOp,ho,e1,e2,Sem.run_bind,Jx,Result.andThen_ok,h2,he,Sem.run_pure,Bool.false_eq_true,if_false]
 ·have h2:(binOp .neq t (.bool a) (.bool b))=(do pure (.bool (!(← Op.equal t (.bool a) (.bool b))))):=rfl;simp only [execOp,ho,e1,e2,Sem.run_bind,Jx,Result.andThen_ok,h2,he,Sem.run_pure,if_true]
theorem Yi {neg:Bool}{t yt:TypeId}{x:Operand}{y:Value}{b:Bool}
  (hg:∀ (op:BinOp) (w:World),(eqGuard op t x (.const y) (ev x) y).run P w = .ok () w)
  (hbin:∀ w,(Op.equal t (ev x) y).run P w = .ok b w) (hsh:(binOp .eql t (ev x) y)=(do pure (.bool (← Op.equal t (ev x) y)))∧(binOp .neq t (ev x) y)=(do pure (.bool (!(← Op.equal t (ev x) y)))))
  (hy:ev (.const y)=y):wo P ρ ev (.binOp (if neg then .neq else .eql) t x (.const y) yt) (.bool (if neg then !b else b)):=by
 refine ⟨_,.same _ rfl,fun o w ho=>?_⟩;cases neg
 ·simp only [execOp,ho,hy,Sem.run_bind,hg,Result.andThen_ok,hsh.1,hbin,Sem.run_pure,Bool.false_eq_true,if_false]
 ·simp only [execOp,ho,hy,Sem.run_bind,hg,Result.andThen_ok,hsh.2,hbin,Sem.run_pure,if_true]
theorem zt4 {neg:Bool}{t yt e:TypeId}{x:Operand}{a:Value}{b:Bool}(ht:P.underlying t=some (.slice e)) (hy:ev (.const (.slice none 0 0)) = .slice none 0 0)
  (ha:VR ρ a (ev x)) (h:yi7 0 a=some b):wo P ρ ev (.binOp (if neg then .neq else .eql) t x (.const (.slice none 0 0)) yt) (.bool (if neg then !b else b)):=by
 have hx' : ∃ p n c,ev x = .slice p n c∧p.isNone=b:=by
  generalize ev x=z at *;cases a<;>simp [yi7] at h;subst h;cases ha with
  | same _ h=>exact ⟨_,_,_,rfl,rfl⟩
  | slice id off off' len s cap l h hl ho=>exact ⟨_,_,_,rfl,rfl⟩
  | clip=>exact ⟨_,_,_,rfl,rfl⟩
 obtain ⟨p,n,c,hx2,hp⟩:=hx';refine Yi ?_ ?_ ?_ hy
 ·intro op w;rw [hx2];unfold eqGuard;split<;>rfl
 ·intro w;rw [hx2,← hp];exact yh1 ht 9999 p n c w
 ·rw [hx2];exact ⟨rfl,rfl⟩
theorem yr7 {neg:Bool}{t yt e:TypeId}{x:Operand}{a:Value}{b:Bool}(ht:P.underlying t=some (.pointer e)) (hy:ev (.const (.pointer none)) = .pointer none)
  (ha:VR ρ a (ev x)) (h:yi7 1 a=some b):wo P ρ ev (.binOp (if neg then .neq else .eql) t x (.const (.pointer none)) yt) (.bool (if neg then !b else b)):=by
 have hx' : ∃ p,ev x = .pointer p∧p.isNone=b:=by
  generalize ev x=z at *;cases a<;>simp [yi7] at h;subst h;cases ha with
  | same _ h=>exact ⟨_,rfl,rfl⟩
  | ptr id off l h=>exact ⟨_,rfl,rfl⟩
 obtain ⟨p,hx2,hp⟩:=hx';refine Yi ?_ ?_ ?_ hy
 ·intro op w;rw [hx2];unfold eqGuard;split<;>rfl
 ·intro w;rw [hx2,← hp];exact eqIn_ptr ht 9999 p w
 ·rw [hx2];exact ⟨rfl,rfl⟩
theorem yg5 {neg:Bool}{t yt:TypeId} {p r z}{x:Operand}{a:Value}{b:Bool}(ht:P.underlying t=some (.func p r z)) (hy:ev (.const .nilFunc) = .nilFunc)
  (ha:VR ρ a (ev x)) (h:yi7 2 a=some b):wo P ρ ev (.binOp (if neg then .neq else .eql) t x (.const .nilFunc) yt) (.bool (if neg then !b else b)):=by
 have hx' : (ev x = .nilFunc∧b=true)∨(∃ f u v,ev x = .func f u v∧b=false):=by
  generalize ev x=z at *;cases a<;>simp [yi7] at h
  ·subst h;cases ha with
   | same _ h=>simp [Value.plain] at h
   | func=>exact .inr ⟨_,_,_,rfl,rfl⟩
   | yield=>exact .inr ⟨_,_,_,rfl,rfl⟩
  ·subst h;exact .inl ⟨VR.plain_inv rfl ha,rfl⟩
 rcases hx' with ⟨hx2,rfl⟩ | ⟨f,u,v,hx2,rfl⟩
 ·refine Yi ?_ ?_ ?_ hy
  ·intro op w;rw [hx2];unfold eqGuard;split<;>rfl
  ·intro w;rw [hx2];exact zo6 ht 9999 w
  ·rw [hx2];exact ⟨rfl,rfl⟩
 ·refine Yi ?_ ?_ ?_ hy
  ·intro op w;rw [hx2];unfold eqGuard;split<;>rfl
  ·intro w;rw [hx2];exact yu4 ht 9999 f u v w
  ·rw [hx2];exact ⟨rfl,rfl⟩
theorem yv {t:TypeId}{s:Nat}(h:sizeOf? P t=some s) (w:World):(sizeOf t).run P w = .ok s w:=by
 unfold sizeOf? at h;cases hi:P.info? t with
 | none=>rw [hi] at h;cases h
 | some i=>rw [hi] at h;cases h;simp [sizeOf,typeInfo,hi]
theorem X5 {t:TypeId}{g:Bool}(h:isAgg? P t=some g) (w:World):(isAgg t).run P w = .ok g w:=by
 unfold isAgg? at h;cases hi:P.underlying t with
 | none=>rw [hi] at h;cases h
 | some d =>
  rw [hi] at h;cases h;cases d<;>simp [isAgg,run_underlying hi]
theorem yn7 {t:TypeId}{g:Bool}{s off:Nat}(hg:isAgg? P t=some g) (hs:sizeOf? P t=some s){cs cs' : List Value}(h:VRs ρ cs cs') (h1:∀ c ∈ cs,c.oneCell' = true){v:Value}
  (hp:qu g off s cs=some v):∃ v',VR ρ v v' ∧ ∀ w,(part t cs'.toArray off).run P w = .ok v' w:=by
 unfold qu at hp;cases g with
 | true =>
  simp only [if_true] at hp;split at hp
  ·rename_i hle;cases hp;refine ⟨.agg ((cs'.drop off).take s).toArray,.agg _ _ ((h.drop off).take s) fun c hc=>h1 c (List.mem_of_mem_drop (List.mem_of_mem_take hc)),fun w=>?_⟩;simp [part,X5 hg,yv hs,List.take_drop,Nat.add_comm]
  ·cases hp
 | false =>
  simp only [Bool.false_eq_true,if_false] at hp;obtain ⟨v',hv',hr⟩:=h.get off v hp;refine ⟨v',hr,fun w=>?_⟩;simp [part,X5 hg,hv']
end Go.Eng
namespace Go.Eng
open Go
variable {P:Program}{ρ:Ren}{ev:Operand→Value}
theorem Addr.add_none (b o n:Nat):(⟨b,o,none⟩:Addr).add n=⟨b,o + n,none⟩:=by
 unfold Addr.add;split
 ·subst_vars;rfl
 ·rfl
theorem Jt (off:Nat):∀ (vs:List Value) (j:Nat) (cs:Array Value),
  ((vs.zipIdx j).foldl (fun cs (c,j)=>cs.setIfInBounds (off + j) c) cs).size=cs.size
 | [],j,cs=>by simp
 | v::r,j,cs=>by
  simp only [List.zipIdx_cons,List.foldl_cons];rw [Jt off r (j + 1) (cs.setIfInBounds (off + j) v)];simp
theorem Wj (off:Nat):∀ (vs:List Value) (j:Nat) (cs:Array Value) (i:Nat),off + j + vs.length≤cs.size →
  ((vs.zipIdx j).foldl (fun cs (c,j)=>cs.setIfInBounds (off + j) c) cs)[i]? = if off + j≤i∧i < off + j + vs.length then vs[i - (off + j)]? else cs[i]?
 | [],j,cs,i,h=>by
  have:¬ (off + j≤i∧i < off + j + ([]:List Value).length):=by simp only [List.length_nil];omega
  rw [if_neg this];simp
 | v::r,j,cs,i,h=>by
  simp only [List.zipIdx_cons,List.foldl_cons,List.length_cons] at h ⊢;rw [Wj off r (j + 1) (cs.setIfInBounds (off + j) v) i (by simp;omega)];by_cases h1:i=off + j
  ·subst h1;rw [if_neg (by omega),if_pos (by omega)];have hlt:off + j < cs.size:=by omega
   simp [hlt]
  ·by_cases h2:off + (j + 1)≤i∧i < off + (j + 1) + r.length
   ·rw [if_pos h2,if_pos (by omega)];have:i - (off + j)=(i - (off + (j + 1))) + 1:=by omega
    rw [this];simp
   ·rw [if_neg h2,if_neg (by omega)];rw [Array.getElem?_setIfInBounds_ne (by omega)]
theorem ye2 (off:Nat) (vs:List Value) (cs:Array Value) (h:off + vs.length≤cs.size) :
  (vs.toArray.zipIdx.foldl (fun cs (c,j)=>cs.setIfInBounds (off + j) c) cs).toList=cs.toList.take off++vs++cs.toList.drop (off + vs.length):=by
 have e:vs.toArray.zipIdx=(vs.zipIdx 0).toArray:=by simp
 rw [e,List.foldl_toArray];apply List.ext_getElem?;intro i;have hg:=Wj off vs 0 cs i (by simpa using h);rw [Array.getElem?_toList] at *;rw [hg];simp only [Nat.add_zero];rw [List.getElem?_append,List.getElem?_append];simp only [List.length_append,List.length_take,Array.length_toList];have hm:min off cs.size=off:=by omega
 rw [hm];by_cases h1:i < off
 ·rw [if_neg (by omega),if_pos (by omega),if_pos (by omega)];rw [List.getElem?_take_of_lt h1];simp
 ·by_cases h2:i < off + vs.length
  ·rw [if_pos (by omega),if_pos (by omega),if_neg (by omega)];simp
  ·rw [if_neg (by omega),if_neg (by omega),List.getElem?_drop];have:off + vs.length + (i - (off + vs.length))=i:=by omega
   rw [this];simp
theorem ze8 (place:Nat→Option (Nat × Nat)):∀ (ps:List (Nat × Nat)) (ix:List Nat) (vs vs' : List Value) (cells cells' cs:List Value),ix.map place=ps.map some→VRs ρ vs vs' → VRs ρ cells cells' →
  ps.length=vs.length→Zj cells (ps.zip vs)=some cs → ∃ cs',Instr.fill place cells'.toArray (ix.zip vs')=some cs' ∧ VRs ρ cs cs'.toList
 | [],[],vs,vs',cells,cells',cs,_,hv,hc,hl,h=>by
  simp [Zj] at h;subst h;exact ⟨cells'.toArray,by simp [Instr.fill],by simpa using hc⟩
 | [],i::ix,_,_,_,_,_,he,_,_,_,_=>by simp at he
 | p::ps,[],_,_,_,_,_,he,_,_,_,_=>by simp at he
 | p::ps,i::ix,[],_,_,_,_,_,_,_,hl,_=>by simp at hl
 | (off,size)::ps,i::ix,v::vs,vs',cells,cells',cs,he,hv,hc,hl,h=>by
  cases hv with
  | cons _ v' _ vs' hv hvr =>
   simp only [List.zip_cons_cons,Zj] at h;split at h
   ·rename_i hb;obtain ⟨hb1,hb2,hb3⟩:=hb;simp only [List.map_cons,List.cons.injEq] at he;have hcl:=hv.cells;have hlen:v'.cells.toList.length=size:=by rw [← hcl.length];exact hb1
    have hlen' : v'.cells.size=size:=by simpa using hlen
    have hcs:off + size≤cells'.length:=by rw [← hc.length];exact hb2
    have hfold:=ye2 off v'.cells.toList cells'.toArray (by simp;omega);obtain ⟨cs',h1,h2⟩:=ze8 place ps ix vs vs' (cells.take off++v.cells.toList++cells.drop (off + size)) (cells'.take off++v'.cells.toList++cells'.drop (off + size)) cs he.2 hvr
     (((hc.take off).append hcl).append (hc.drop _)) (by simpa using hl) h
    refine ⟨cs',?_,h2⟩;simp only [List.zip_cons_cons,Instr.fill,he.1];have hn:¬ ((v'.cells.size≠size || decide (off + v'.cells.size > cells'.toArray.size))=true):=by simp;omega
    rw [if_neg hn,← h1]
    congr 1
    rw [← Array.toList_inj,show v'.cells=v'.cells.toList.toArray by simp];rw [hfold];simp [hlen']
   ·cases h
theorem kh {t:TypeId}{z:List Value}(h:zero? P t=some z):∃ v:Value,(∀ w,(zeroValue t).run P w = .ok v w)∧v.cells.toList=z∧(∀ c ∈ z,Value.plain c=true) ∧ ∀ c ∈ z,c.oneCell' = true:=by
 unfold zero? at h;split at h
 ·rename_i v hv;split at h
  ·rename_i hall;cases h;cases hi:P.info? t with
   | none=>rw [hi] at hv;cases hv
   | some i =>
    rw [hi] at hv;have:=fun c hc=>(List.all_eq_true.1 hall) c hc;simp only [Bool.and_eq_true] at this;exact ⟨v,fun w=>by simp [zeroValue,typeInfo,hi,show i.zero=some v from hv],rfl,fun c hc=>(this c hc).1,fun c hc=>(this c hc).2⟩
  ·cases h
 ·cases h
theorem Qq:∀ (ps:List ((Nat × Nat) × Value)) (cells cs:List Value),(∀ c ∈ cells,c.oneCell' = true)→Zj cells ps=some cs → ∀ c ∈ cs,c.oneCell' = true
 | [],cells,cs,hc,h=>by simp [Zj] at h;subst h;exact hc
 | ((off,size),v)::r,cells,cs,hc,h=>by
  simp only [Zj] at h;split at h
  ·rename_i hb;refine Qq r _ cs ?_ h;intro c hm;simp only [List.mem_append] at hm;rcases hm with (hm | hm) | hm
   ·exact hc c (List.mem_of_mem_take hm)
   ·exact List.all_eq_true.1 hb.2.2 c hm
   ·exact hc c (List.mem_of_mem_drop hm)
  ·cases h
theorem build_ok {t:TypeId}{parts:Array (Nat × Operand)}{k:PK}{xs:List Operand}(hk:zm P (.build t parts)=some (.p k,xs)){vs:List Value}(hv:VRs ρ vs (xs.map ev)){v:Value}(h:aP k vs=some v) :
  wo P ρ ev (.build t parts) v:=by
 simp only [zm,za0] at hk;split at hk
 ·rename_i z fs hz hu;split at hk
  ·rename_i places hp;split at hk
   ·rename_i hall;cases hk;simp only [aP,yo] at h;split at h
    ·rename_i hl;cases hf:Zj z ((List.filterMap id (parts.toList.map fun x=>places[x.1]?)).zip vs) with
     | none=>rw [hf] at h;cases h
     | some cs =>
      rw [hf] at h;cases h;obtain ⟨zv,hz1,hz2,hz3,hz4⟩:=kh hz;have hmap:(parts.toList.map (·.1)).map (fun i=>places[i]?)=(List.filterMap id (parts.toList.map fun x=>places[x.1]?)).map some:=by
       have:∀ l:List (Option (Nat × Nat)),l.all (·.isSome)=true→l=(l.filterMap id).map some:=by
        intro l;induction l with
        | nil=>simp
        | cons a r ih =>
         intro ha;simp only [List.all_cons,Bool.and_eq_true] at ha;cases a with
         | none=>simp at ha
         | some a=>simp only [List.filterMap_cons,id,List.map_cons];rw [← ih ha.2]
       rw [← this _ hall];simp
      obtain ⟨cs',h1,h2⟩:=ze8 (ρ:=ρ) (fun i=>places[i]?) _ (parts.toList.map (·.1)) vs _ z z cs hmap hv (VRs.plain hz3) hl hf;have hzip:(parts.toList.map (·.1)).zip ((parts.toList.map (·.2)).map ev)=(parts.map fun (i,x)=>(i,ev x)).toList:=by
       simp only [Array.toList_map];induction parts.toList with
       | nil=>rfl
       | cons a r ih=>simp only [List.map_cons,List.zip_cons_cons,ih]
      refine ⟨.agg cs',?_,fun o w ho=>?_⟩
      ·have:=VR.agg cs cs'.toList h2 (Qq _ _ _ hz4 hf);simpa using this
      ·have hb:P.built t (parts.map fun (i,x)=>(i,ev x)).toList=some cs':=by
        unfold Program.built;have hzr:=hz1 default;cases hit:P.info? t with
        | none=>simp [zeroValue,typeInfo,hit] at hzr
        | some it =>
         cases hzz:it.zero with
         | none=>simp [zeroValue,typeInfo,hit,hzz] at hzr
         | some zz =>
          have:zz=zv:=by simpa [zeroValue,typeInfo,hit,hzz] using hzr
          subst this;simp only [hu,hp];rw [← hzip];simp only [hzz,List.getElem?_toArray];rw [← h1,← hz2]
       simp [execOp,ho,run_build w t _ cs' hb]
    ·cases h
   ·cases hk
  ·cases hk
 ·rename_i z n e hz hu;split at hk
  ·rename_i s hs;cases hk;simp only [aP,yo] at h;split at h
   ·rename_i hl;cases hf:Zj z ((parts.toList.map fun x=>(x.1 * s,s)).zip vs) with
    | none=>rw [hf] at h;cases h
    | some cs =>
     rw [hf] at h;cases h;obtain ⟨zv,hz1,hz2,hz3,hz4⟩:=kh hz;have hmap:(parts.toList.map (·.1)).map (fun i=>some (i * s,s))=(parts.toList.map fun x=>(x.1 * s,s)).map some:=by simp
     obtain ⟨cs',h1,h2⟩:=ze8 (ρ:=ρ) (fun i=>some (i * s,s)) _ (parts.toList.map (·.1)) vs _ z z cs hmap hv (VRs.plain hz3) hl hf;have hzip:(parts.toList.map (·.1)).zip ((parts.toList.map (·.2)).map ev)=(parts.map fun (i,x)=>(i,ev x)).toList:=by
      simp only [Array.toList_map];induction parts.toList with
      | nil=>rfl
      | cons a r ih=>simp only [List.map_cons,List.zip_cons_cons,ih]
     refine ⟨.agg cs',?_,fun o w ho=>?_⟩
     ·have:=VR.agg cs cs'.toList h2 (Qq _ _ _ hz4 hf);simpa using this
     ·have hb:P.built t (parts.map fun (i,x)=>(i,ev x)).toList=some cs':=by
       unfold Program.built;have hzr:=hz1 default;cases hit:P.info? t with
       | none=>simp [zeroValue,typeInfo,hit] at hzr
       | some it =>
        cases hzz:it.zero with
        | none=>simp [zeroValue,typeInfo,hit,hzz] at hzr
        | some zz =>
         have:zz=zv:=by simpa [zeroValue,typeInfo,hit,hzz] using hzr
         subst this;cases hie:P.info? e with
         | none=>simp [sizeOf?,hie] at hs
         | some ie =>
          have hss:ie.size=s:=by simpa [sizeOf?,hie] using hs
          simp only [hu,hie,hzz,hss];rw [← hzip,← h1,← hz2]
      simp [execOp,ho,run_build w t _ cs' hb]
   ·cases h
  ·cases hk
 ·cases hk
end Go.Eng
namespace Go.Eng
open Go
variable {P:Program}{ρ:Ren}{ev:Operand→Value}
theorem za7:∀ {a b:Value},Yq a=true→(Qt a b=true↔a=b)
 | .bool a,b,_=>by cases b<;>simp [Qt]
 | .int k a,b,_=>by cases b<;>simp [Qt]
 | .string a,b,_=>by
  cases b<;>simp [Qt]
  rename_i b;constructor
  ·intro h;cases a;cases b;simp at h;rw [h]
  ·intro h;rw [h]
theorem Vj:∀ {a b:List Value},a.all Yq=true→(Jq a b=true↔a=b)
 | [],b,_=>by cases b<;>simp [Jq]
 | x::r,[],_=>by simp [Jq]
 | x::r,y::s,h=>by
  simp only [List.all_cons,Bool.and_eq_true] at h;simp only [Jq,Bool.and_eq_true,za7 h.1,Vj h.2,List.cons.injEq]
theorem Yk {a b:Value}(h:wy a=true):kx a b=true↔a=b:=by
 cases a with
 | agg cs =>
  cases b<;>simp only [kx]<;>first | (simp [Qt];done) | skip
  rename_i ds;rw [Vj (by simpa [wy] using h),Value.agg.injEq,Array.toList_inj]
 | _ =>
  first
  | (simp [wy,Yq] at h;done)
  | (simp only [kx];exact za7 (by simpa [wy] using h))
theorem Jv {v:Value}(h:Yq v=true):Value.plain v=true:=by
 cases v<;>first | rfl | (simp [Yq] at h)
theorem Qn {v v' : Value}(h:wy v=true) (hv:VR ρ v v'):v' = v:=by
 cases v with
 | agg cs =>
  obtain ⟨cs',rfl,h2,_⟩:=hv.agg_inv;have:∀ {l l' : List Value},l.all Yq=true→VRs ρ l l' → l' = l:=by
   intro l;induction l with
   | nil=>intro l' _ h;cases h;rfl
   | cons x r ih =>
    intro l' ha h;simp only [List.all_cons,Bool.and_eq_true] at ha;cases h with
    | cons _ _ _ _ h1 h2=>rw [ih ha.2 h2,VR.plain_inv (Jv ha.1) h1]
  rw [this (by unfold wy at h;exact h) h2]
 | _=>first | exact VR.plain_inv (Jv (by simpa [wy] using h)) hv
theorem ze0 {k:TypeId}(h:keyed? P k=true):Maps.Keyed P k:=by
 unfold keyed? at h;split at h
 ·rename_i q hk;exact Maps.int_keyed hk
 ·rename_i hk;exact Maps.string_keyed hk
 ·rename_i hk;simp only [Bool.and_eq_true] at h;exact Maps.Keyed.of_law (deep_law (by omega) h.1 h.2 (by rw [hk]))
 ·rename_i hk;simp only [Bool.and_eq_true] at h;exact Maps.Keyed.of_law (deep_law (by omega) h.1 h.2 (by rw [hk]))
 ·cases h
theorem zf2 {t:TypeId} {ms}(ht:P.underlying t=some (.interface ms)) (d:Nat) (w:World):(Op.equalIn (d + 1) t .nilIface .nilIface).run P w = .ok true w:=by
 simp [Op.equalIn,run_underlying ht]
theorem yh2 {t:TypeId} {ms}(ht:P.underlying t=some (.interface ms)) (d:Nat) (u v) (w:World):(Op.equalIn (d + 1) t (.iface u v) .nilIface).run P w = .ok false w:=by
 simp [Op.equalIn,run_underlying ht]
theorem zt5 {neg:Bool}{t yt:TypeId} {ms}{x:Operand}{a:Value}{b:Bool}(ht:P.underlying t=some (.interface ms)) (hy:ev (.const .nilIface) = .nilIface)
  (ha:VR ρ a (ev x)) (h:yi7 3 a=some b):wo P ρ ev (.binOp (if neg then .neq else .eql) t x (.const .nilIface) yt) (.bool (if neg then !b else b)):=by
 have hx' : (ev x = .nilIface∧b=true)∨(∃ u v,ev x = .iface u v∧b=false):=by
  generalize ev x=z at *;cases a<;>simp [yi7] at h
  ·subst h;cases ha with
   | same _ h=>exact .inr ⟨_,_,rfl,rfl⟩
   | iface=>exact .inr ⟨_,_,rfl,rfl⟩
  ·subst h;exact .inl ⟨VR.plain_inv rfl ha,rfl⟩
 rcases hx' with ⟨hx2,rfl⟩ | ⟨u,v,hx2,rfl⟩
 ·refine Yi ?_ ?_ ?_ hy
  ·intro op w;rw [hx2];cases op<;>simp [eqGuard]
  ·intro w;rw [hx2];exact zf2 ht 9999 w
  ·rw [hx2];exact ⟨rfl,rfl⟩
 ·refine Yi ?_ ?_ ?_ hy
  ·intro op w;rw [hx2];unfold eqGuard;split<;>rfl
  ·intro w;rw [hx2];exact yh2 ht 9999 u v w
  ·rw [hx2];exact ⟨rfl,rfl⟩
theorem yb3 {neg:Bool}{t yt:TypeId}{x y:Operand}{a b v:Value}(hu:(∃ fs,P.underlying t=some (.struct fs)) ∨ ∃ n e,P.underlying t=some (.array n e)) (hk:keyed? P t=true) (hgt:P.eqGuardType P.depth t=false)
  (ha:VR ρ a (ev x)) (hb:VR ρ b (ev y)) (h:pEqK (yu P t) neg [a,b]=some v):wo P ρ ev (.binOp (if neg then .neq else .eql) t x y yt) v:=by
 simp only [pEqK] at h;split at h<;>first | (cases h;done) | skip
 rename_i hgood;cases h;simp only [yu,Bool.and_eq_true,Option.isSome_iff_exists] at hgood;obtain ⟨⟨hfa,la,hla⟩,hfb,lb,hlb⟩:=hgood;have e1:=Qn hfa ha;have e2:=Qn hfb hb;have hwide:(match P.underlying t with | some (.array _ _) | some (.struct _)=>true | _=>false)=true:=by rcases hu with ⟨_,hu⟩ | ⟨_,_,hu⟩<;>rw [hu]
 obtain ⟨xs,_,rfl,_⟩:=keyOf_top hwide hla;obtain ⟨ys,_,rfl,_⟩:=keyOf_top hwide hlb;have hk8:P.keyTypeAt 8 t=true:=by
  unfold keyed? at hk;rcases hu with ⟨_,hu⟩ | ⟨_,_,hu⟩<;>rw [hu] at hk<;>simp only [Bool.and_eq_true] at hk<;>exact hk.1
 have K:=ze0 hk;have hguard:∀ (op:BinOp) (w:World),(eqGuard op t x y (.agg xs) (.agg ys)).run P w = .ok () w:=by
  intro op w;cases op<;>simp [eqGuard,hgt]
 have hrun:∀ w:World,(Op.equalIn 10000 t (.agg xs) (.agg ys)).run P w = .ok (kx (.agg xs) (.agg ys)) w:=by
  intro w;obtain ⟨r,hr,hiff⟩:=run_equal_deep w (by decide) hk8 hwide hla hlb;have:r=kx (.agg xs) (.agg ys):=by
   rw [Bool.eq_iff_iff,hiff,Yk hfa];constructor
   ·rintro rfl;exact K.inj hla hlb
   ·intro e;rw [e] at hla;rw [hla] at hlb;cases hlb;rfl
  rw [← this];exact hr
 refine ⟨_,.same _ rfl,fun o w ho=>?_⟩;cases neg
 ·simp only [execOp,ho,e1,e2,Sem.run_bind,hguard,Result.andThen_ok,Bool.false_eq_true,if_false,run_eql_struct,hrun,Sem.run_pure]
 ·simp only [execOp,ho,e1,e2,Sem.run_bind,hguard,Result.andThen_ok,if_true,run_neq_struct,hrun,Sem.run_pure]
end Go.Eng
namespace Go.Eng
open Go
variable {P:Program}{ρ:Ren}{ev:Operand→Value}
theorem mov_ok {x:Operand}{op:Op}(ho:op = .move x∨op = .assign x){v:Value}(h:VR ρ v (ev x)):wo P ρ ev op v :=
 ⟨ev x,h,fun o w e=>by rcases ho with rfl | rfl<;>simp [execOp,e]⟩
theorem VRs.one_r {a:Value}{l:List Value}(h:VRs ρ l [a]):∃ x,l=[x]∧VR ρ x a:=by
 cases h with
 | cons x _ _ _ h hr=>cases hr;exact ⟨x,rfl,h⟩
theorem VRs.two_r {a b:Value}{l:List Value}(h:VRs ρ l [a,b]):∃ x y,l=[x,y]∧VR ρ x a∧VR ρ y b:=by
 cases h with
 | cons x _ _ _ h hr=>obtain ⟨y,rfl,hy⟩:=VRs.one_r hr;exact ⟨x,y,rfl,h,hy⟩
theorem VRs.three_r {a b c:Value}{l:List Value}(h:VRs ρ l [a,b,c]):∃ x y z,l=[x,y,z]∧VR ρ x a∧VR ρ y b∧VR ρ z c:=by
 cases h with
 | cons x _ _ _ h hr=>obtain ⟨y,z,rfl,hy,hz⟩:=VRs.two_r hr;exact ⟨x,y,z,rfl,h,hy,hz⟩
theorem VRs.cons_r {a:Value}{l r:List Value}(h:VRs ρ l (a::r)):∃ x s,l=x::s∧VR ρ x a∧VRs ρ s r:=by
 cases h with
 | cons x _ s _ h hr=>exact ⟨x,s,rfl,h,hr⟩
theorem jz {k:IntKind}{i:Int}{y:Nat}{code:BoundsCode}(h0:0≤i) (h1:i≤y) (w:World):(Instr.sliceBound (.int k i) y code).run P w = .ok i.toNat w:=by
 simp [Instr.sliceBound,asIntOf,h0,h1]
theorem Jr {lo hi:Option Operand}{len:Nat}{vs:List Value}{l h:Nat}(hb:Uh lo.isSome hi.isSome len vs=some (l,h)) (hv:VRs ρ vs ((optL lo++optL hi).map ev)){cap:Nat}(hc:len≤cap) (w:World) (sl:Bool) :
  l≤h∧h≤len∧(Instr.sliceBounds sl len cap (lo.map ev) (hi.map ev) none).run P w = .ok (l,h,cap) w:=by
 cases lo with
 | none=>cases hi with
  | none =>
   cases hv
   simp [Uh] at hb;obtain ⟨rfl,rfl⟩:=hb;simp [Instr.sliceBounds]
  | some y =>
   obtain ⟨b,rfl,hr⟩:=VRs.one_r (l:=vs) (by simpa [optL] using hv);cases b<;>simp [Uh] at hb;rename_i k n;obtain ⟨⟨h0,h1⟩,rfl,rfl⟩:=hb;have e:=hr.int;refine ⟨Nat.zero_le _,by omega,?_⟩;simp [Instr.sliceBounds,e,jz (P:=P) (k:=k) h0 (show n≤(cap:Int) by omega)]
 | some x=>cases hi with
  | none =>
   obtain ⟨b,rfl,hr⟩:=VRs.one_r (l:=vs) (by simpa [optL] using hv);cases b<;>simp [Uh] at hb;rename_i k n;obtain ⟨⟨h0,h1⟩,rfl,rfl⟩:=hb;have e:=hr.int;refine ⟨by omega,Nat.le_refl _,?_⟩;simp [Instr.sliceBounds,e,jz (P:=P) (k:=k) h0 h1]
  | some y =>
   obtain ⟨a,b,rfl,hra,hrb⟩:=VRs.two_r (l:=vs) (by simpa [optL] using hv);cases a<;>cases b<;>simp [Uh] at hb;rename_i k n k2 n2;obtain ⟨⟨h0,h1,h2⟩,rfl,rfl⟩:=hb;have e:=hra.int;have e2:=hrb.int;refine ⟨by omega,by omega,?_⟩;have hn2:((n2.toNat:Nat):Int)=n2:=Int.toNat_of_nonneg (by omega);simp [Instr.sliceBounds,e,e2,jz (P:=P) (k:=k2) (show 0≤n2 by omega) (show n2≤(cap:Int) by omega),jz (P:=P) (k:=k) (y:=n2.toNat) h0 (by omega)]
theorem slice_ok {t:TypeId}{x:Operand}{lo hi:Option Operand}{k:PK}{xs:List Operand}(hk:zm P (.slice t x lo hi none)=some (.p k,xs)){vs:List Value}(hv:VRs ρ vs (xs.map ev)){v:Value}(h:aP k vs=some v) :
  wo P ρ ev (.slice t x lo hi none) v:=by
 simp only [zm,Qi] at hk;split at hk
 ·rename_i e hu;cases hs:sizeOf? P e with
  | none=>rw [hs] at hk;cases hk
  | some s =>
   rw [hs] at hk;cases hk;obtain ⟨a,r,rfl,ha,hr⟩:=VRs.cons_r hv;simp only [aP] at h;unfold jo at h;split at h
   ·rename_i heq;cases heq;cases hb:Uh lo.isSome hi.isSome 0 r with
    | none=>rw [hb] at h;cases h
    | some p =>
     rw [hb] at h;cases h;obtain ⟨l,hh⟩:=p;have e:=ha.nil_inv;refine ⟨_,.same _ rfl,fun o w ho=>?_⟩;obtain ⟨h1,h2,h3⟩:=Jr (P:=P) hb hr (Nat.le_refl 0) w true;have hl:l=0:=by omega
     have hh0:hh=0:=by omega
     subst hl;subst hh0;simp [execOp,ho,Instr.sliceAt,Instr.slice,run_underlying hu,e,h3,yv hs]
   ·rename_i id o n s' r' heq;cases heq;split at h
    ·rename_i hss;subst hss;cases hb:Uh lo.isSome hi.isSome n r with
     | none=>rw [hb] at h;cases h
     | some p =>
      rw [hb] at h;cases h;obtain ⟨l,hh⟩:=p;obtain ⟨loc,off',cap,hρ,e,hnc,hoff⟩:=ha.slice_inv;by_cases hcap:cap=l
      ·refine ⟨.slice (some ⟨loc.b,off',none⟩) (hh - l) (cap - l),?_,fun oo w ho=>?_⟩
       ·obtain ⟨h1,h2,_⟩:=Jr (P:=P) hb hr hnc default true;have:hh - l=0:=by omega
        show VR ρ (.slice (some ⟨id,o + l * s',none⟩) (hh - l) s') _;rw [this,show cap - l=0 by omega];exact .slice _ _ _ _ _ _ loc hρ (by omega) (.inr ⟨rfl,rfl⟩)
       ·subst hcap;obtain ⟨h1,h2,h3⟩:=Jr (P:=P) hb hr hnc w true;simp [execOp,ho,Instr.sliceAt,Instr.slice,run_underlying hu,e,h3,yv hs]
      ·refine ⟨.slice (some ⟨loc.b,off' + l * s',none⟩) (hh - l) (cap - l),?_,fun oo w ho=>?_⟩
       ·obtain ⟨h1,h2,_⟩:=Jr (P:=P) hb hr hnc default true;show VR ρ (.slice (some ⟨id,o + l * s',none⟩) (hh - l) s') _;refine .slice _ _ _ _ _ _ loc hρ (by omega) (.inl ?_);rcases hoff with ⟨rfl,hle⟩ | ⟨rfl,rfl⟩
        ·refine ⟨by omega,?_⟩;have:cap * s' = l * s' + (cap - l) * s':=by rw [← Nat.add_mul];congr 1;omega
         omega
        ·omega
       ·obtain ⟨h1,h2,h3⟩:=Jr (P:=P) hb hr hnc w true;simp [execOp,ho,Instr.sliceAt,Instr.slice,run_underlying hu,e,h3,yv hs,hcap,Addr.add_none]
    ·cases h
   ·cases h
 ·rename_i hu;cases hk;obtain ⟨a,r,rfl,ha,hr⟩:=VRs.cons_r hv;simp only [aP] at h;unfold Z1 at h;split at h
  ·rename_i s r' heq;cases heq;cases hb:Uh lo.isSome hi.isSome s.size r with
   | none=>rw [hb] at h;cases h
   | some p =>
    rw [hb] at h;cases h;obtain ⟨l,hh⟩:=p;have e:=ha.str;refine ⟨_,.same _ rfl,fun o w ho=>?_⟩;obtain ⟨h1,h2,h3⟩:=Jr (P:=P) hb hr (Nat.le_refl _) w false;simp [execOp,ho,Instr.sliceAt,Instr.slice,run_underlying hu,e,h3]
  ·cases h
 ·cases hk
theorem clip_ok {t:TypeId}{x hi mx:Operand}{k:PK}{xs:List Operand}(hk:zm P (.slice t x none (some hi) (some mx))=some (.p k,xs)){vs:List Value}(hv:VRs ρ vs (xs.map ev)){v:Value}(h:aP k vs=some v) :
  wo P ρ ev (.slice t x none (some hi) (some mx)) v:=by
 simp only [zm,Qi] at hk;split at hk<;>first | (cases hk;done) | skip
 rename_i e hu;cases hs:sizeOf? P e with
 | none=>rw [hs] at hk;cases hk
 | some s =>
  rw [hs] at hk;cases hk;obtain ⟨a,b,c,rfl,ha,hb,hc⟩:=VRs.three_r hv;simp only [aP] at h;unfold pClip at h;split at h<;>first | (cases h;done) | skip
  ·rename_i heq;cases heq;split at h<;>first | (cases h;done) | skip
   rename_i hh;obtain ⟨rfl,rfl⟩:=hh;cases h;have e1:=ha.nil_inv;have e2:=hb.int;have e3:=hc.int;refine ⟨_,.same _ rfl,fun o w ho=>?_⟩;simp [execOp,ho,Instr.sliceAt,Instr.slice,run_underlying hu,e1,e2,e3,yv hs,Instr.sliceBounds,Instr.sliceBound,asIntOf]
  ·rename_i id o n s' k1 z1 k2 z2 heq;cases heq;split at h<;>first | (cases h;done) | skip
   rename_i hh;obtain ⟨rfl,rfl,rfl⟩:=hh;cases h;obtain ⟨loc,off',cap,hρ,e1,hnc,hoff⟩:=ha.slice_inv;have e2:=hb.int;have e3:=hc.int;have hbd:∀ w,(Instr.sliceBounds true n cap none (some (ev hi)) (some (ev mx))).run P w = .ok (0,n,n) w:=fun w=>by
    simp [Instr.sliceBounds,e2,e3,jz (P:=P) (k:=k1) (show 0≤(n:Int) by omega) (show (n:Int)≤(n:Nat) by omega),jz (P:=P) (k:=k2) (show 0≤(n:Int) by omega) (show (n:Int)≤(cap:Int) by omega)]
   refine ⟨.slice (some ⟨loc.b,off',none⟩) n n,.clip id o off' n s' 0 loc hρ ?_,fun oo w ho=>?_⟩
   ·rcases hoff with ⟨h1,h2⟩ | ⟨h1,h2⟩
    ·refine .inl ⟨h1,Nat.le_trans ?_ h2⟩;have:=Nat.mul_le_mul_right s' hnc;omega
    ·exact .inr h1
   ·have:=hbd w;by_cases hn:n=0
    ·subst hn;simp [execOp,ho,Instr.sliceAt,Instr.slice,run_underlying hu,e1,this,yv hs]
    ·have hn' : ¬ 0=n:=fun e=>hn e.symm;simp [execOp,ho,Instr.sliceAt,Instr.slice,run_underlying hu,e1,this,yv hs,Addr.add_none,hn]
theorem min_ok {mx:Bool}{c:Call}{k:PK}{xs:List Operand}(hcal:c.callee = .builtin (if mx then .max else .min)) (hk:yr5 P mx c.args.toList c.argTypes[0]? = some (.p k,xs)){vs:List Value}(hv:VRs ρ vs (xs.map ev)){v:Value}(h:aP k vs=some v) :
  wo P ρ ev (.call c) v:=by
 unfold yr5 at hk;split at hk<;>first | (cases hk;done) | skip
 rename_i x y t hargs ht;have ea:c.args = #[x,y]:=by rw [← Array.toList_inj];exact hargs
 split at hk<;>first | (cases hk;done) | skip
 rename_i ik hu;cases hk;obtain ⟨a,b,rfl,ha,hb⟩:=VRs.two_r hv;simp only [aP] at h;unfold J5 at h;split at h<;>first | (cases h;done) | skip
 rename_i k1 n1 k2 n2 heq;cases heq;split at h<;>first | (cases h;done) | skip
 rename_i hkk;subst hkk;cases h;have e1:=ha.int;have e2:=hb.int;cases mx
 ·exact ⟨_,.same _ rfl,fun o w ho=>by simp [execOp,ho,resolve,hcal,ea,invoke,builtin,Builtin.min_,Builtin.min2,e1,e2]⟩
 ·exact ⟨_,.same _ rfl,fun o w ho=>by simp [execOp,ho,resolve,hcal,ea,invoke,builtin,Builtin.max_,Builtin.max2,e1,e2]⟩
theorem zo2 {fn : Func} (hn : fn.name = "internal/bytealg.IndexByteString") : Extern.find fn = some Extern.BytealgIndexByte.indexByte := by
 unfold Extern.find;simp only [hn]
 kernel_rfl
theorem J8 {fn : Func} (hn : fn.name = "internal/bytealg.IndexByteString") (ho : fn.origin = "") : Extern.findNext fn = none := by
 unfold Extern.findNext;simp only [hn,ho]
 kernel_rfl
theorem yg6 {c:Call}{f:FuncId}(hcal:c.callee = .value (.func f)) (hix:W5 P f=true) (hlen:c.args.toList.length=2){vs:List Value}(hv:VRs ρ vs (c.args.toList.map ev)){v:Value}(h:aP .idxByte vs=some v)
  (hev:ev (.func f) = .func (.func f) #[] #[]):wo P ρ ev (.call c) v:=by
 obtain ⟨x,y,ea⟩:∃ x y,c.args = #[x,y]:=by
  match hl:c.args.toList,hlen with
  | [x,y],_=>exact ⟨x,y,by rw [← Array.toList_inj];exact hl⟩
 rw [ea] at hv;obtain ⟨a,b,rfl,ha,hb⟩:=VRs.two_r hv;simp only [aP] at h;unfold zz4 at h;split at h<;>first | (cases h;done) | skip
 rename_i s z heq;cases heq;cases h;have e1:=ha.str;have e2:=hb.int;unfold W5 at hix;split at hix<;>first | (cases hix;done) | skip
 rename_i fn hf;simp only [Bool.and_eq_true,beq_iff_eq] at hix;obtain ⟨⟨hb0,hn⟩,ho⟩:=hix;have hcf:=fun (args:Array Value) (w:World)=>run_callFunc_extern (w:=w) (args:=args) hf (by rw [hn];decide) hb0 (J8 hn ho) (zo2 hn);refine ⟨_,.same _ rfl,fun o w hoo=>?_⟩;simp [execOp,hoo,resolve,hcal,ea,hev,invoke,Deferred.ofValue,hcf,e1,e2,Lib.run_indexByteString]
theorem eqP_ok {t e:TypeId}{x y:Operand}{yt:TypeId}(hu:P.underlying t=some (.pointer e)) (hs:(sizeOf? P e).isSome=true){vs:List Value}(hv:VRs ρ vs ([x,y].map ev)){v:Value}(h:aP (.eqP true) vs=some v) :
  wo P ρ ev (.binOp .neq t x y yt) v:=by
 obtain ⟨a,b,rfl,ha,hb⟩:=VRs.two_r hv;simp only [aP] at h;unfold pEqP at h;split at h<;>first | (cases h;done) | skip
 rename_i i o j p heq;cases heq;split at h<;>first | (cases h;done) | skip
 rename_i hc;obtain ⟨rfl,rfl⟩:=hc;cases h;obtain ⟨l,hl,e1⟩:=ha.ptr_inv;obtain ⟨l',hl',e2⟩:=hb.ptr_inv;rw [hl] at hl';cases hl';unfold sizeOf? at hs;cases hi:P.info? e with
 | none=>rw [hi] at hs;cases hs
 | some inf =>
  refine ⟨_,.same _ rfl,fun oo w ho=>?_⟩;have:=Lib.run_neq_ptr_same (P:=P) w (⟨l.b,o + l.sh,none⟩:Addr) hu hi;have hgd:(eqGuard .neq t x y (.pointer (some ⟨l.b,o + l.sh,none⟩)) (.pointer (some ⟨l.b,o + l.sh,none⟩))).run P w = .ok () w:=by unfold eqGuard;split<;>rfl
  simp [execOp,ho,e1,e2,this,hgd]
theorem zk6 {c:Call}{x:Operand}(hcal:c.callee = .builtin .unsafeSliceData) (hargs:c.args.toList=[x]){vs:List Value}(hv:VRs ρ vs ([x].map ev)){v:Value}(h:aP .sliceData vs=some v) :
  wo P ρ ev (.call c) v:=by
 have ea:c.args = #[x]:=by rw [← Array.toList_inj];exact hargs
 obtain ⟨a,rfl,ha⟩:=VRs.one_r hv;simp only [aP] at h;unfold Uz at h;split at h<;>first | (cases h;done) | skip
 ·rename_i heq;cases heq;cases h;have e1:=ha.nil_inv;exact ⟨_,.same _ rfl,fun o w ho=>by simp [execOp,ho,resolve,hcal,ea,invoke,builtin,e1,Lib.run_unsafeSliceData_nil]⟩
 ·rename_i id off n s heq;cases heq;split at h<;>first | (cases h;done) | skip
  rename_i hn;cases h;obtain ⟨l,off',cap,hl,e1,hnc,hoff⟩:=ha.slice_inv;rcases hoff with ⟨rfl,_⟩ | ⟨h0,_⟩
  ·refine ⟨_,.ptr id off l hl,fun o w ho=>?_⟩;have:=fun ts ty=>Lib.run_unsafeSliceData_row (P:=P) w ts ty ⟨l.b,off + l.sh,none⟩ n cap (by omega);simp [execOp,ho,resolve,hcal,ea,invoke,builtin,e1,this]
  ·omega
theorem yg9 {fn : Func} (hn : fn.name = "internal/abi.NoEscape") : Extern.find fn = some Extern.AbiNoEscape.same := by
 unfold Extern.find;simp only [hn]
 kernel_rfl
theorem Uf {fn : Func} (hn : fn.name = "internal/abi.NoEscape") (ho : fn.origin = "") : Extern.findNext fn = none := by
 unfold Extern.findNext;simp only [hn,ho]
 kernel_rfl
theorem noEsc_ok {c:Call}{f:FuncId}(hcal:c.callee = .value (.func f)) (hix:zt3 P f=true) (hlen:c.args.toList.length=1){vs:List Value}(hv:VRs ρ vs (c.args.toList.map ev)){v:Value}(h:aP .noEsc vs=some v)
  (hev:ev (.func f) = .func (.func f) #[] #[]):wo P ρ ev (.call c) v:=by
 obtain ⟨x,ea⟩:∃ x,c.args = #[x]:=by
  match hl:c.args.toList,hlen with
  | [x],_=>exact ⟨x,by rw [← Array.toList_inj];exact hl⟩
 rw [ea] at hv;obtain ⟨a,rfl,ha⟩:=VRs.one_r hv;simp only [aP,pMov] at h;cases h;unfold zt3 at hix;split at hix<;>first | (cases hix;done) | skip
 rename_i fn hf;simp only [Bool.and_eq_true,beq_iff_eq] at hix;obtain ⟨⟨hb0,hn⟩,ho⟩:=hix;have hcf:=fun (args:Array Value) (w:World)=>run_callFunc_extern (w:=w) (args:=args) hf (by rw [hn];decide) hb0 (Uf hn ho) (yg9 hn);refine ⟨_,ha,fun o w hoo=>?_⟩;simp [execOp,hoo,resolve,hcal,ea,hev,invoke,Deferred.ofValue,hcf,Lib.run_noEscape]
theorem pure_ok {op:Op}{k:PK}{xs:List Operand}(hk:zm P op=some (.p k,xs)){vs:List Value}(hv:VRs ρ vs (xs.map ev)) (hc:∀ v,ev (.const v)=v) (hef:∀ f,ev (.func f) = .func (.func f) #[] #[]){v:Value}(h:aP k vs=some v) :
  wo P ρ ev op v:=by
 cases op with
 | move x =>
  cases hk
  obtain ⟨a,rfl,ha⟩:=VRs.one_r hv;cases h;exact mov_ok (.inl rfl) ha
 | assign x =>
  cases hk
  obtain ⟨a,rfl,ha⟩:=VRs.one_r hv;cases h;exact mov_ok (.inr rfl) ha
 | pick xc xa xb =>
  cases hk
  obtain ⟨c,a,b,rfl,h1,h2,h3⟩:=VRs.three_r hv;simp only [aP] at h;cases c<;>simp [pPick] at h;rename_i c;subst h;have e:=h1.bool;refine ⟨if c then ev xa else ev xb,?_,fun o w ho=>?_⟩
  ·cases c<;>simpa
  ·simp [execOp,ho,e,asBool]
 | nilCheck x =>
  cases hk
  obtain ⟨a,rfl,ha⟩:=VRs.one_r hv;simp only [aP] at h;unfold pNilCheck at h;split at h
  ·rename_i heq;cases heq;cases h;refine ⟨ev x,ha,fun o w ho=>?_⟩;generalize hx:ev x=z at *;cases ha with
   | same _ h=>simp [Value.plain] at h
   | ptr id off l hl=>simp [execOp,ho,hx]
  ·rename_i heq;cases heq;cases h;refine ⟨ev x,ha,fun o w ho=>?_⟩;obtain ⟨a',c',e,_,_⟩:=ha.func_inv;simp [execOp,ho,e]
  ·rename_i heq;cases heq;cases h;refine ⟨ev x,ha,fun o w ho=>?_⟩;generalize hx:ev x=z at *;cases ha with
   | same _ h=>simp [Value.plain] at h
   | yield l l' hl=>simp [execOp,ho,hx]
  ·cases h
 | binOp op t x y yt =>
  simp only [zm,kBin] at hk;have nilc:∀ {cls:Nat},kNil cls op x y=some (K.p k,xs)→(∃ neg:Bool,op=(if neg then .neq else .eql)∧k = .isNil cls neg∧xs=[x])∧W3 cls y=true:=by
   intro cls hk;unfold kNil at hk;split at hk
   ·rename_i hn;refine ⟨?_,hn⟩;split at hk<;>first | (cases hk;done) | skip
    ·cases hk;exact ⟨false,rfl,rfl,rfl⟩
    ·cases hk;exact ⟨true,rfl,rfl,rfl⟩
   ·cases hk
  split at hk
  ·cases hk
   obtain ⟨a,b,rfl,ha,hb⟩:=VRs.two_r hv;exact bin_ok ha hb h
  ·cases hk
   obtain ⟨a,b,rfl,ha,hb⟩:=VRs.two_r hv;exact bin_ok ha hb h
  ·rename_i hu;split at hk<;>first | (cases hk;done) | skip
   all_goals
    cases hk
    obtain ⟨a,b,rfl,ha,hb⟩:=VRs.two_r hv;simp only [aP] at h;cases a<;>cases b<;>simp [pEqB] at h;subst h
   ·exact eqB_ok (neg:=false) hu ha hb
   ·exact eqB_ok (neg:=true) hu ha hb
  ·rename_i e hu;obtain ⟨⟨neg,rfl,rfl,rfl⟩,hn⟩:=nilc hk;obtain ⟨a,rfl,ha⟩:=VRs.one_r hv;have hy:y = .const (.slice none 0 0):=by
    unfold W3 at hn;split at hn<;>simp at hn;obtain ⟨rfl,rfl⟩:=hn;rfl
   subst hy;simp only [aP,pNil] at h;cases hb:yi7 0 a with
   | none=>rw [hb] at h;cases h
   | some b=>rw [hb] at h;cases h;exact zt4 hu (hc _) ha hb
  ·rename_i e hu;unfold kPtr at hk;split at hk
   case isFalse =>
    split at hk<;>first | (cases hk;done) | skip
    rename_i hse;split at hk<;>first | (cases hk;done) | skip
    cases hk
    exact eqP_ok hu hse hv h
   obtain ⟨⟨neg,rfl,rfl,rfl⟩,hn⟩:=nilc hk;obtain ⟨a,rfl,ha⟩:=VRs.one_r hv;have hy:y = .const (.pointer none):=by
    unfold W3 at hn;split at hn<;>simp at hn;rfl
   subst hy;simp only [aP,pNil] at h;cases hb:yi7 1 a with
   | none=>rw [hb] at h;cases h
   | some b=>rw [hb] at h;cases h;exact yr7 hu (hc _) ha hb
  ·rename_i p r z hu;obtain ⟨⟨neg,rfl,rfl,rfl⟩,hn⟩:=nilc hk;obtain ⟨a,rfl,ha⟩:=VRs.one_r hv;have hy:y = .const .nilFunc:=by
    unfold W3 at hn;split at hn<;>simp at hn;rfl
   subst hy;simp only [aP,pNil] at h;cases hb:yi7 2 a with
   | none=>rw [hb] at h;cases h
   | some b=>rw [hb] at h;cases h;exact yg5 hu (hc _) ha hb
  ·rename_i ms hu;obtain ⟨⟨neg,rfl,rfl,rfl⟩,hn⟩:=nilc hk;obtain ⟨a,rfl,ha⟩:=VRs.one_r hv;have hy:y = .const .nilIface:=by
    unfold W3 at hn;split at hn<;>simp at hn;rfl
   subst hy;simp only [aP,pNil] at h;cases hb:yi7 3 a with
   | none=>rw [hb] at h;cases h
   | some b=>rw [hb] at h;cases h;exact zt5 hu (hc _) ha hb
  ·rename_i fs hu;unfold kEqK at hk;split at hk<;>first | (cases hk;done) | skip
   rename_i hkk;simp only [Bool.and_eq_true,Bool.not_eq_true'] at hkk;split at hk<;>first | (cases hk;done) | skip
   ·cases hk
    obtain ⟨a,b,rfl,ha,hb⟩:=VRs.two_r hv;exact yb3 (neg:=false) (.inl ⟨_,hu⟩) hkk.1 hkk.2 ha hb h
   ·cases hk
    obtain ⟨a,b,rfl,ha,hb⟩:=VRs.two_r hv;exact yb3 (neg:=true) (.inl ⟨_,hu⟩) hkk.1 hkk.2 ha hb h
  ·rename_i nn ee hu;unfold kEqK at hk;split at hk<;>first | (cases hk;done) | skip
   rename_i hkk;simp only [Bool.and_eq_true,Bool.not_eq_true'] at hkk;split at hk<;>first | (cases hk;done) | skip
   ·cases hk
    obtain ⟨a,b,rfl,ha,hb⟩:=VRs.two_r hv;exact yb3 (neg:=false) (.inr ⟨_,_,hu⟩) hkk.1 hkk.2 ha hb h
   ·cases hk
    obtain ⟨a,b,rfl,ha,hb⟩:=VRs.two_r hv;exact yb3 (neg:=true) (.inr ⟨_,_,hu⟩) hkk.1 hkk.2 ha hb h
  ·cases hk
 | unOp op t x =>
  cases hk
  obtain ⟨a,rfl,ha⟩:=VRs.one_r hv;simp only [aP,pUn] at h;unfold aUn at h;split at h
  ·split at h<;>first | (cases h;done) | skip
   ·cases h
    have e:=ha.int;exact ⟨_,.same _ rfl,fun o w ho=>by simp [execOp,ho,e,Op.unary,Op.intArith]⟩
   ·cases h
    have e:=ha.int;exact ⟨_,.same _ rfl,fun o w ho=>by simp [execOp,ho,e,Op.unary,Op.intBits]⟩
  ·split at h<;>first | (cases h;done) | skip
   cases h
   have e:=ha.bool;exact ⟨_,.same _ rfl,fun o w ho=>by simp [execOp,ho,e,Op.unary]⟩
  ·cases h
 | convert s d x =>
  simp only [zm] at hk;split at hk
  ·rename_i k1 k2 h1 h2;cases hk;obtain ⟨a,rfl,ha⟩:=VRs.one_r hv;simp only [aP] at h;cases a<;>simp [pConv] at h;subst h;have e:=ha.int;exact ⟨_,.same _ rfl,fun o w ho=>by simp [execOp,ho,e,convert,run_underlying h1,run_underlying h2,Conv.intToInt]⟩
  ·rename_i h1 h2;cases hk;obtain ⟨a,rfl,ha⟩:=VRs.one_r hv;simp only [aP] at h;cases a<;>simp [pStrId] at h;subst h;have e:=ha.str;exact ⟨_,.same _ rfl,fun o w ho=>by simp [execOp,ho,e,convert,run_underlying h1,run_underlying h2]⟩
  ·split at hk<;>cases hk
  ·split at hk<;>first | (cases hk;done) | (split at hk<;>cases hk)
  ·unfold U8 at hk;split at hk<;>cases hk
  ·unfold U9 at hk;split at hk<;>cases hk
  ·cases hk
 | build t parts=>exact build_ok hk hv h
 | field t x f =>
  simp only [zm] at hk;split at hk<;>first | (cases hk;done) | skip
  rename_i fs hfs;split at hk<;>first | (cases hk;done) | skip
  rename_i fd hf;split at hk<;>first | (cases hk;done) | skip
  rename_i g s hg hs;cases hk;obtain ⟨a,rfl,ha⟩:=VRs.one_r hv;simp only [aP] at h;cases a<;>simp only [yo2] at h<;>first | (cases h;done) | skip
  obtain ⟨cs',e,hcs,h1⟩:=ha.agg_inv;obtain ⟨v',hv',hrun⟩:=yn7 hg hs hcs h1 h;have hu:P.underlying t=some (.struct fs):=by
   unfold Yl at hfs;split at hfs<;>first | (cases hfs;assumption) | cases hfs
  exact ⟨v',hv',fun o w ho=>by simp [execOp,ho,e,Instr.field,run_underlying hu,hf,asAgg,hrun]⟩
 | fieldAddr t x f =>
  simp only [zm] at hk;split at hk<;>first | (cases hk;done) | skip
  rename_i fs hfs;split at hk<;>first | (cases hk;done) | skip
  rename_i fd hf;split at hk<;>first | (cases hk;done) | skip
  rename_i s hs;split at hk<;>first | (cases hk;done) | skip
  rename_i hs0;cases hk;obtain ⟨a,rfl,ha⟩:=VRs.one_r hv;simp only [aP] at h;unfold pFieldAddr at h;split at h<;>first | (cases h;done) | skip
  rename_i id off heq;cases heq;cases h;obtain ⟨l,hl,e⟩:=ha.ptr_inv;have hu:P.underlying t=some (.struct fs):=by
   unfold Yl at hfs;split at hfs<;>first | (cases hfs;assumption) | cases hfs
  refine ⟨.pointer (some ⟨l.b,off + fd.offset + l.sh,none⟩),.ptr _ _ l hl,fun o w ho=>?_⟩;have hadd:(⟨l.b,off + l.sh,none⟩:Addr).add fd.offset=⟨l.b,off + fd.offset + l.sh,none⟩:=by rw [Addr.add_none];congr 1;omega
  simp [execOp,ho,e,Instr.fieldAt,run_underlying hu,hf,Instr.sureAddr,fieldPlace,yv hs,hs0,hadd]
 | indexAddr t x i =>
  simp only [zm] at hk;split at hk
  ·rename_i e hu;cases hs:sizeOf? P e with
   | none=>rw [hs] at hk;cases hk
   | some s =>
    rw [hs] at hk;cases hk;obtain ⟨a,b,rfl,ha,hb⟩:=VRs.two_r hv;simp only [aP] at h;unfold zp at h;split at h<;>first | (cases h;done) | skip
    rename_i id off n s' ik i' heq;cases heq;split at h<;>first | (cases h;done) | skip
    rename_i hcond;cases h;obtain ⟨h0,hlt,rfl⟩:=hcond;obtain ⟨l,off',cap,hl,e2,hnc,hoff⟩:=ha.slice_inv;have e3:=hb.int;rcases hoff with ⟨rfl,hle⟩ | ⟨rfl,rfl⟩
    ·refine ⟨.pointer (some ⟨l.b,off + i'.toNat * s' + l.sh,none⟩),.ptr _ _ l hl,fun o w ho=>?_⟩;have hadd:(⟨l.b,off + l.sh,none⟩:Addr).add (i'.toNat * s')=⟨l.b,off + i'.toNat * s' + l.sh,none⟩:=by rw [Addr.add_none];congr 1;omega
     simp [execOp,ho,e2,e3,Instr.indexAt,run_underlying hu,asIntOf,yv hs,h0,hlt,hadd]
    ·exfalso;simp at hlt;omega
  ·rename_i n e hu;cases hs:sizeOf? P e with
   | none=>rw [hs] at hk;cases hk
   | some s =>
    rw [hs] at hk;cases hk;obtain ⟨a,b,rfl,ha,hb⟩:=VRs.two_r hv;simp only [aP] at h;unfold zl7 at h;split at h<;>first | (cases h;done) | skip
    rename_i id off ik i' heq;cases heq;split at h<;>first | (cases h;done) | skip
    rename_i hcond;cases h;obtain ⟨h0,hlt⟩:=hcond;obtain ⟨l,hl,e2⟩:=ha.ptr_inv;have e3:=hb.int;refine ⟨.pointer (some ⟨l.b,off + i'.toNat * s + l.sh,none⟩),.ptr _ _ l hl,fun o w ho=>?_⟩;have hadd:(⟨l.b,off + l.sh,none⟩:Addr).add (i'.toNat * s)=⟨l.b,off + i'.toNat * s + l.sh,none⟩:=by rw [Addr.add_none];congr 1;omega
    simp [execOp,ho,e2,e3,Instr.indexAt,run_underlying hu,asIntOf,Instr.sureAddr,yv hs,h0,hlt,hadd]
  ·cases hk
 | index t x i =>
  simp only [zm] at hk;split at hk
  ·rename_i hu;cases hk;obtain ⟨a,b,rfl,ha,hb⟩:=VRs.two_r hv;simp only [aP] at h;unfold Wp at h;split at h<;>first | (cases h;done) | skip
   rename_i s ik i' heq;cases heq;split at h<;>first | (cases h;done) | skip
   rename_i h0;cases hx:s[i'.toNat]? with
   | none=>rw [hx] at h;cases h
   | some c =>
    rw [hx] at h;cases h;have e2:=ha.str;have e3:=hb.int;exact ⟨_,.same _ rfl,fun o w ho=>by simp [execOp,ho,e2,e3,Instr.index,run_underlying hu,asIntOf,h0,hx]⟩
  ·rename_i n e hu;split at hk<;>first | (cases hk;done) | skip
   rename_i g s hg hs;cases hk;obtain ⟨a,b,rfl,ha,hb⟩:=VRs.two_r hv;simp only [aP] at h;unfold yo1 at h;split at h<;>first | (cases h;done) | skip
   rename_i cs ik i' heq;cases heq;split at h<;>first | (cases h;done) | skip
   rename_i hcond;obtain ⟨cs',e2,hcs,h1⟩:=ha.agg_inv;have e3:=hb.int;obtain ⟨v',hv',hrun⟩:=yn7 hg hs hcs h1 h;exact ⟨v',hv',fun o w ho=>by simp [execOp,ho,e2,e3,Instr.index,run_underlying hu,asIntOf,hcond,yv hs,hrun]⟩
  ·cases hk
 | slice t x lo hi mx =>
  cases mx with
  | some m =>
   cases lo with
   | some _=>simp [zm,Qi] at hk
   | none=>cases hi with
    | none=>simp [zm,Qi] at hk
    | some _=>exact clip_ok hk hv h
  | none=>exact slice_ok hk hv h
 | extract x i =>
  cases hk
  obtain ⟨a,rfl,ha⟩:=VRs.one_r hv;simp only [aP] at h;cases a<;>simp only [pExtract] at h<;>first | (cases h;done) | skip
  obtain ⟨cs',e,hcs⟩:=ha.tuple_inv;obtain ⟨v',h1,h2⟩:=hcs.get i v (by simpa using h);exact ⟨v',h2,fun o w ho=>by simp [execOp,ho,e,Instr.extract,h1]⟩
 | makeFunc fn first captured =>
  cases fn<;>simp only [zm] at hk<;>first | (cases hk;done) | skip
  rename_i f;cases hk;simp only [aP] at h;cases h;simp only [List.map_append] at hv;have hl:(first.toList.map ev).length=first.size:=by simp
  have h1:=hv.take first.size
  have h2:=hv.drop first.size
  rw [List.take_left' hl] at h1;rw [List.drop_left' hl] at h2;refine ⟨_,.func f _ _ _ _ h1 h2,fun o w ho=>?_⟩;simp [execOp,ho,Instr.makeFunc,← Array.toList_inj]
 | makeInterface t x =>
  simp only [zm] at hk;split at hk<;>first | (cases hk;done) | skip
  rename_i d hni hu;cases hk;obtain ⟨a,rfl,ha⟩:=VRs.one_r hv;simp only [aP,pIface] at h;cases h;refine ⟨_,.iface t _ _ ha,fun o w ho=>?_⟩;cases d<;>first | (exact absurd rfl (hni _)) | simp [execOp,ho,Instr.makeInterface,run_underlying hu]
 | call c =>
  simp only [zm,zt2] at hk;split at hk
  ·rename_i hcal;unfold kLen at hk;split at hk<;>first | (cases hk;done) | skip
   rename_i x t hargs hts;have ea:c.args = #[x]:=by rw [← Array.toList_inj];exact hargs
   have et:c.argTypes = #[t]:=by rw [← Array.toList_inj];exact hts
   split at hk
   ·rename_i hu;cases hk;obtain ⟨a,rfl,ha⟩:=VRs.one_r hv;simp only [aP] at h;cases a<;>simp only [Wo] at h<;>cases h;have e:=ha.str;exact ⟨_,.same _ rfl,fun o w ho=>by simp [execOp,ho,resolve,hcal,ea,et,invoke,builtin,Builtin.len_,run_underlying hu,e,goInt]⟩
   ·rename_i el hu;cases hk;obtain ⟨a,rfl,ha⟩:=VRs.one_r hv;simp only [aP] at h;cases a<;>simp only [ua] at h<;>cases h;rename_i n _;have e:∃ p c,ev x = .slice p n c:=by
     generalize ev x=z at *;cases ha with
     | same _ h=>exact ⟨_,_,rfl⟩
     | slice=>exact ⟨_,_,rfl⟩
     | clip=>exact ⟨_,_,rfl⟩
    obtain ⟨p,c',e⟩:=e;exact ⟨_,.same _ rfl,fun o w ho=>by simp [execOp,ho,resolve,hcal,ea,et,invoke,builtin,Builtin.len_,run_underlying hu,e,goInt]⟩
   ·rename_i n el hu;cases hk;cases hv;simp only [aP,pKonst] at h;cases h;exact ⟨_,.same _ rfl,fun o w ho=>by simp [execOp,ho,resolve,hcal,ea,et,invoke,builtin,Builtin.len_,run_underlying hu,goInt]⟩
   ·unfold zt1 at hk;split at hk<;>cases hk
  ·unfold Y1 at hk;split at hk<;>first | (cases hk;done) | skip
   split at hk<;>first | (cases hk;done) | skip
   split at hk<;>first | (cases hk;done) | skip
   split at hk<;>first | (cases hk;done) | (simp at hk;done) | (split at hk<;>cases hk)
  ·rename_i hcal;exact min_ok (mx:=false) (by simpa using hcal) hk hv h
  ·rename_i hcal;exact min_ok (mx:=true) (by simpa using hcal) hk hv h
  ·unfold Wz at hk;(repeat' split at hk)<;>first | (cases hk;done) | (simp at hk;done)
  ·rename_i hcal;unfold wv at hk;split at hk<;>first | (cases hk;done) | skip
   rename_i x hargs;cases hk;exact zk6 hcal hargs hv h
  ·unfold Y0 at hk;(repeat' split at hk)<;>first | (cases hk;done) | (simp at hk;done)
  ·cases hk
  ·rename_i f hcal;split at hk
   ·rename_i hix;split at hk<;>first | (cases hk;done) | skip
    rename_i hlen;cases hk;exact yg6 hcal hix hlen hv h (hef f)
   ·split at hk
    ·rename_i hix;split at hk<;>first | (cases hk;done) | skip
     rename_i hlen;cases hk;exact noEsc_ok hcal hix hlen hv h (hef f)
    ·cases hk
  ·cases hk
  ·cases hk
 | alloc e=>exfalso;simp only [zm,W0] at hk;cases hz:zero? P e with
  | none=>rw [hz] at hk;cases hk
  | some z=>rw [hz] at hk;simp only [Option.map_some] at hk;split at hk<;>cases hk
 | _=>exfalso;first | (cases hk;done) | (simp only [zm] at hk;(repeat' split at hk)<;>cases hk;done) | (simp [zm] at hk;done)
end Go.Eng
namespace Go.Eng
open Go
variable {P:Program}{ρ:Ren}{ev:Operand→Value}
theorem zs8 {base:Nat}{w:World}{es:List (Value × Value)}{own:Bool}{l:Loc}(h:ObjR base ρ w l (.map es own)) :
  ∃ es' clock,w.heap[l.b]? = some (.map es' clock)∧es.length=es'.size∧(∀ (i:Nat) e,es[i]? = some e → ∃ e',es'[i]? = some e' ∧ EntR ρ e e') ∧
   (∀ (i j:Nat) a b,es'[i]? = some a→es'[j]? = some b→a.key=b.key→i=j)∧(own=true→base≤l.b):=h
theorem VR.map_inv {id:Nat}{v' : Value}(h:VR ρ (.map (some id)) v'):∃ l,ρ id=some l∧v' = .map (some l.b)∧l.sh=0:=by
 cases h with
 | same _ h=>simp [Value.plain] at h
 | map _ l h hs=>exact ⟨l,h,rfl,hs⟩
theorem yt3 {k:TypeId}(K:Maps.Keyed P k){es:List (Value × Value)}{es' : Array MapEntry}(hn:es.length=es'.size) (he:∀ (i:Nat) e,es[i]? = some e → ∃ e',es'[i]? = some e' ∧ EntR ρ e e')
  (hinj:∀ (i j:Nat) a b,es'[i]? = some a→es'[j]? = some b→a.key=b.key→i=j){x:Value}(hx:yu P k x=true) (hall:es.all (fun e=>yu P k e.1)=true) (w:World) :
  ((Instr.findKey k x es'.toList).run P w = .ok none w∧(∀ e ∈ es'.toList,e.key≠x)∧es.findIdx? (fun e=>kx e.1 x)=none) ∨
  ∃ i e e',(Instr.findKey k x es'.toList).run P w = .ok (some (i,e'.val)) w∧es.findIdx? (fun e=>kx e.1 x)=some i∧es[i]? = some e∧es'[i]? = some e' ∧ e'.key=x∧e.1=x∧VR ρ e.2 e'.val:=by
 simp only [yu,Bool.and_eq_true,Option.isSome_iff_exists] at hx;obtain ⟨hxf,lx,hlx⟩:=hx;have hkeys:∀ (i:Nat) e e',es[i]? = some e→es'[i]? = some e' → e'.key=e.1∧wy e.1=true∧(∃ l,keyOf P k e.1=some l)∧VR ρ e.2 e'.val:=by
  intro i e e' h1 h2;obtain ⟨e2,h3,h4⟩:=he i e h1;rw [h2] at h3;cases h3;have:=List.all_eq_true.1 hall e (List.mem_of_getElem? h1);simp only [yu,Bool.and_eq_true,Option.isSome_iff_exists] at this;exact ⟨Qn this.1 h4.1,this.1,this.2,h4.2⟩
 have hex:∀ (i:Nat) e',es'[i]? = some e' → ∃ e,es[i]? = some e:=fun i e' h=>by
  have:i < es.length:=by rw [hn];exact (Array.getElem?_eq_some_iff.1 h).1
  exact ⟨_,List.getElem?_eq_getElem this⟩
 rcases K.find w hlx es'.toList (fun e hm=>by
  obtain ⟨i,hi⟩:=List.mem_iff_getElem?.1 hm;have hi' : es'[i]? = some e:=by simpa using hi
  obtain ⟨e0,h0⟩:=hex i e hi';have:=hkeys i e0 e h0 hi';rw [this.1];exact this.2.2.1) with ⟨h1,h2⟩ | ⟨j,e',h1,h2,h3⟩
 ·refine .inl ⟨h1,h2,?_⟩;rw [List.findIdx?_eq_none_iff];intro e hm;obtain ⟨i,hi⟩:=List.mem_iff_getElem?.1 hm;obtain ⟨e',h4,_⟩:=he i e hi;have:=hkeys i e e' hi h4;have h5:=h2 e' (by simpa using Array.mem_of_getElem? h4);rw [this.1] at h5;cases hq:kx e.1 x with
  | false=>rfl
  | true=>exact absurd ((Yk this.2.1).1 hq) h5
 ·have h2' : es'[j]? = some e':=by simpa using h2
  obtain ⟨e,h4⟩:=hex j e' h2';have h5:=hkeys j e e' h4 h2';have h6:e.1=x:=by rw [← h5.1];exact h3
  refine .inr ⟨j,e,e',h1,?_,h4,h2',h3,h6,h5.2.2.2⟩;rw [List.findIdx?_eq_some_iff_getElem];have hj:=(List.getElem?_eq_some_iff.1 h4);have hj1:=hj.1;refine ⟨hj.1,?_,fun m hm=>?_⟩
  ·rw [hj.2];exact (Yk h5.2.1).2 h6
  ·have hml:m < es.length:=by omega
   obtain ⟨em',h7,_⟩:=he m _ (List.getElem?_eq_getElem hml);have h8:=hkeys m _ em' (List.getElem?_eq_getElem hml) h7;intro hq;have h9:=(Yk h8.2.1).1 hq;have:=hinj m j em' e' h7 h2' (by rw [h8.1,h9,h3]);omega
theorem yq4 {t k e:TypeId}{xa xk:Operand}{z:Value}{ok:Bool}(ht:P.underlying t=some (.map k e)) (hk:keyed? P k=true) (hz:zeroP? P e=some z){vs:List Value}(hv:VRs ρ vs ([xa,xk].map ev)){base:Nat}{G:Nat→Option AObj}{w:World}
  (hS:Sim base G ρ w){v:Value}(h:Yb (yu P k) z ok vs G=some v):∃ v',VR ρ v v' ∧ ∀ o:Oper,o.op = .lookup t xa xk ok→(execOp ev o).run P w = .ok (.value v') w:=by
 obtain ⟨m,x,rfl,hm,hx⟩:=VRs.two_r hv;unfold Yb at h;split at h<;>first | (cases h;done) | skip
 rename_i id key heq;cases heq;split at h<;>first | (cases h;done) | skip
 rename_i es own hG;split at h<;>first | (cases h;done) | skip
 rename_i hc;simp only [Bool.and_eq_true] at hc;cases h;obtain ⟨l,hl,e1,hsh⟩:=hm.map_inv;obtain ⟨es',clock,h1,h2,h3,h4,h5⟩:=zs8 (hS.obj id _ l hG hl);have hkf:wy x=true:=by have:=hc.1;simp only [yu,Bool.and_eq_true] at this;exact this.1
 have ex:ev xk=x:=Qn hkf hx;have K:=ze0 hk;have hkl:∃ kl,keyOf P k x=some kl:=by have:=hc.1;simp only [yu,Bool.and_eq_true,Option.isSome_iff_exists] at this;exact this.2
 obtain ⟨kl,hkl⟩:=hkl;have hchk:=K.check w es'.isEmpty hkl;have hzr:(zeroValue e).run P w = .ok z w:=by
  unfold zeroP? at hz;split at hz<;>first | (cases hz;done) | skip
  rename_i zz hzz;split at hz<;>first | (cases hz;done) | skip
  cases hz
  cases hi:P.info? e with
  | none=>rw [hi] at hzz;cases hzz
  | some i=>rw [hi] at hzz;simp [zeroValue,typeInfo,hi,show i.zero=some z from hzz]
 have hzp:Value.plain z=true:=by
  unfold zeroP? at hz;split at hz<;>first | (cases hz;done) | skip
  split at hz<;>first | (cases hz;done) | skip
  rename_i hp;cases hz;exact hp
 rcases yt3 K h2 h3 h4 hc.1 hc.2 w with ⟨f1,_,f2⟩ | ⟨i,en,en',f1,f2,f3,f4,f5,f6,f7⟩
 ·refine ⟨if ok then .tuple #[z,.bool false] else z,?_,fun o ho=>?_⟩
  ·simp only [f2,Option.bind_none,Option.map_none,Option.getD_none,Option.isSome_none];cases ok
   ·exact .same _ hzp
   ·exact .tuple [z,.bool false] [z,.bool false] (.cons _ _ _ _ (.same _ hzp) (.cons _ _ _ _ (.same _ rfl) .nil))
  ·simp only [execOp,ho,Sem.run_bind,Instr.lookup,run_underlying ht,Result.andThen_ok,e1,ex,getObj,Sem.run,h1,Sem.run_pure,hchk,f1,hzr]
 ·refine ⟨if ok then .tuple #[en'.val,.bool true] else en'.val,?_,fun o ho=>?_⟩
  ·simp only [f2,f3,Option.bind_some,Option.map_some,Option.getD_some,Option.isSome_some];cases ok
   ·exact f7
   ·exact .tuple [en.2,.bool true] [en'.val,.bool true] (.cons _ _ _ _ f7 (.cons _ _ _ _ (.same _ rfl) .nil))
  ·simp only [execOp,ho,Sem.run_bind,Instr.lookup,run_underlying ht,Result.andThen_ok,e1,ex,getObj,Sem.run,h1,Sem.run_pure,hchk,f1]
theorem yr0 {c:Call}{x:Operand}{t kt e:TypeId}(hcal:c.callee = .builtin .len) (ea:c.args = #[x]) (et:c.argTypes = #[t]) (ht:P.underlying t=some (.map kt e)){vs:List Value}(hv:VRs ρ vs ([x].map ev)){base:Nat}{G:Nat→Option AObj}{w:World}
  (hS:Sim base G ρ w){v:Value}(h:aR .lenMap vs G=some v):∃ v',VR ρ v v' ∧ ∀ o:Oper,o.op = .call c→(execOp ev o).run P w = .ok (.value v') w:=by
 obtain ⟨m,rfl,hm⟩:=VRs.one_r hv;simp only [aR] at h;split at h<;>first | (cases h;done) | contradiction | skip
 rename_i heq1 heq2;cases heq2;split at h<;>first | (cases h;done) | skip
 rename_i es own hG;cases h;obtain ⟨l,hl,e1,hsh⟩:=hm.map_inv;obtain ⟨es',clock,h1,h2,h3,h4,h5⟩:=zs8 (hS.obj _ _ l hG hl);refine ⟨_,.same _ rfl,fun o ho=>?_⟩;simp [execOp,ho,resolve,hcal,ea,et,invoke,builtin,Builtin.len_,run_underlying ht,e1,getObj,Sem.run,h1,h2,goInt]
end Go.Eng
namespace Go.Eng
open Go
variable {P:Program}{ρ:Ren}{ev:Operand→Value}
theorem Zu {base:Nat}{w:World}{l:Loc}{cells:List Value}{own:Bool}(h:ObjR base ρ w l (.blk cells own)) :
  ∃ cs el fz,w.heap[l.b]? = some (.cells cs el fz)∧cs.size=l.sz∧l.sh + cells.length≤cs.size∧VRs ρ cells ((cs.toList.drop l.sh).take cells.length)∧(∀ c ∈ cells,c.oneCell' = true)∧(own=true→l.sh=0∧fz=(0,0)∧base≤l.b):=by
 obtain ⟨cs,el,fz,h1,h2,h3,h4,h5⟩:=h;refine ⟨cs,el,fz,h1,h2,h3,?_,?_,h5⟩
 ·refine VRs.of_get (by simp;omega) fun i x x' hx hx'=>?_;obtain ⟨v',a,b,c⟩:=h4 i x hx;have hi:i < cells.length:=(List.getElem?_eq_some_iff.1 hx).1;rw [List.getElem?_take_of_lt hi,List.getElem?_drop] at hx';have:cs[l.sh + i]? = some x':=by simpa using hx'
  rw [a] at this;cases this;exact b
 ·intro c hc;obtain ⟨i,hi⟩:=List.mem_iff_getElem?.1 hc;obtain ⟨_,_,_,h⟩:=h4 i c hi;exact h
theorem kq {w:World}{b o n:Nat}{cs:Array Value}{el:TypeId}{fz:Nat × Nat}(h:w.heap[b]? = some (.cells cs el fz)) (hn:o + n≤cs.size) :
  (loadCells ⟨b,o,none⟩ n).run P w = .ok ((cs.toList.drop o).take n).toArray w:=by
 have hl:((cs.toList.drop o).take n).length=n:=by simp;omega
 have:=run_loadCells_list (P:=P) w ⟨b,o,none⟩ ((cs.toList.drop o).take n) (fun j v hv=>by
  rw [Addr.add_none,cell_of_row w b _ cs el fz h];have hj:j < n:=by
   have:=(List.getElem?_eq_some_iff.1 hv).1;omega
  rw [List.getElem?_take_of_lt hj,List.getElem?_drop] at hv;simpa using hv)
 rw [hl] at this;exact this
theorem V5:∀ {cs:List Value}{l:List UInt8},V6 cs=some l → ∃ ns:List Int,cs=ns.map (Value.int .u8)∧l=ns.map fun n=>UInt8.ofNat n.toNat
 | [],l,h=>by cases h;exact ⟨[],rfl,rfl⟩
 | c::r,l,h=>by
  unfold V6 at h;split at h<;>first | (rename_i heq;cases heq;done) | (cases h;done) | skip
  rename_i n r' heq;cases heq;cases hr:V6 r with
  | none=>rw [hr] at h;cases h
  | some m =>
   rw [hr] at h;cases h;obtain ⟨ns,h1,h2⟩:=V5 hr;exact ⟨n::ns,by rw [h1];rfl,by rw [h2];rfl⟩
theorem VRs.ints {ρ:Ren}{k:IntKind}:∀ {ns:List Int}{l:List Value},VRs ρ (ns.map (Value.int k)) l→l=ns.map (Value.int k)
 | [],l,h=>by cases h;rfl
 | n::ns,l,h=>by
  cases h with
  | cons _ _ _ _ h hr=>rw [h.int,VRs.ints hr];rfl
theorem zx0 {s d e:TypeId}{x:Operand}(h1:P.underlying s=some (.slice e)) (h2:P.underlying d=some .string) (h3:P.underlying e=some (.int .u8)){vs:List Value}(hv:VRs ρ vs ([x].map ev)){base:Nat}{G:Nat→Option AObj}{w:World}
  (hS:Sim base G ρ w){v:Value}(h:aR .bytesStr vs G=some v):∃ v',VR ρ v v' ∧ ∀ o:Oper,o.op = .convert s d x→(execOp ev o).run P w = .ok (.value v') w:=by
 obtain ⟨p,rfl,hp⟩:=VRs.one_r hv;unfold aR at h;split at h<;>first | (cases h;done) | contradiction | skip
 ·rename_i heq;cases heq;cases h;have e1:=hp.nil_inv;exact ⟨_,.same _ rfl,fun o ho=>by simp [execOp,ho,e1,run_convert_bytes_nil w s e h1 h3 0 0 d h2]⟩
 ·rename_i id off n sz heq0 heq;cases heq;split at h<;>first | (cases h;done) | skip
  rename_i hsz;subst hsz;obtain ⟨l,off',cap,hl,e1,hnc,hoff⟩:=hp.slice_inv;split at h
  ·rename_i hn;subst hn;cases h;refine ⟨_,.same _ rfl,fun o ho=>?_⟩;have:=run_convert_bytes_arg w s e h1 h3 l.b off' 0 cap [] rfl (fun i hi=>by omega) d h2;simp [execOp,ho,e1,this,strOfNums];rfl
  ·rename_i hn;split at h<;>first | (cases h;done) | skip
   rename_i cells own hG;split at h<;>first | (cases h;done) | skip
   rename_i hle;rcases hoff with ⟨rfl,hle2⟩ | ⟨h0,_⟩
   case inr=>exact absurd h0 hn
   cases hb:V6 ((cells.drop off).take n) with
   | none=>rw [hb] at h;cases h
   | some bs =>
    rw [hb] at h;cases h;obtain ⟨ns,hns,rfl⟩:=V5 hb;obtain ⟨cs,el,fz,g1,g2,g3,g4,_,_⟩:=Zu (hS.obj id _ l hG hl);have h6:=(g4.drop off).take n;have h7:((((cs.toList.drop l.sh).take cells.length).drop off).take n)=(cs.toList.drop (off + l.sh)).take n:=by
     rw [List.drop_take,List.drop_drop,List.take_take];rw [Nat.min_eq_left (by omega),Nat.add_comm l.sh off]
    rw [h7,hns] at h6;have h8:=h6.ints;have hld:=kq (P:=P) (w:=w) (b:=l.b) (o:=off + l.sh) (n:=n) g1 (by omega);rw [h8] at hld;refine ⟨_,.same _ rfl,fun o ho=>?_⟩;have hrun:=run_bytesToString w ⟨l.b,off + l.sh,none⟩ n cap ns hld;rw [foldl_push_bytes] at hrun;simp only [execOp,ho,e1,run_convert_bytes_string w s d e _ n cap h1 h3 h2,Sem.run_bind,hrun,Result.andThen_ok,Sem.run_pure];simp [ByteArray.empty,ByteArray.emptyWithCapacity];rfl
theorem Ke {base:Nat}{w:World}{l:Loc}{cells:List Value}{e:TypeId}{full:Bool}(h:ObjR base ρ w l (.tblk cells e full)):ObjR base ρ w l (.blk cells true):=by
 obtain ⟨cs,h1,h2,h3,h4,_,h6,h7⟩:=h;exact ⟨cs,e,(0,0),h1,h2,by rw [h6];omega,fun i v hv=>by rw [h6,Nat.zero_add];exact h4 i v hv,fun _=>⟨h6,rfl,h7⟩⟩
theorem yq6 {t:TypeId}{a:Operand}{g:Bool}{s:Nat}(hg:isAgg? P t=some g) (hs:sizeOf? P t=some s){base:Nat}{w:World}{l:Loc}{cells:List Value}{own:Bool}{off:Nat}
  (hobj:ObjR base ρ w l (.blk cells own)) (e:ev a = .pointer (some ⟨l.b,off + l.sh,none⟩)){v:Value}(h:qu g off s cells=some v) :
  ∃ v',VR ρ v v' ∧ ∀ o:Oper,o.op = .load t a→(execOp ev o).run P w = .ok (.value v') w:=by
 obtain ⟨cs,el,fz,h1,h2,h3,h4,h5,_⟩:=Zu hobj;unfold qu at h;cases g with
 | true =>
  simp only [if_true] at h;split at h<;>first | (cases h;done) | skip
  rename_i hle;cases h;refine ⟨.agg ((cs.toList.drop (off + l.sh)).take s).toArray,.agg _ _ ?_ fun c hc=>h5 c (List.mem_of_mem_drop (List.mem_of_mem_take hc)),fun o ho=>?_⟩
  ·have h6:=(h4.drop off).take s;have:((((cs.toList.drop l.sh).take cells.length).drop off).take s)=(cs.toList.drop (off + l.sh)).take s:=by
    rw [List.drop_take,List.drop_drop,List.take_take];rw [Nat.min_eq_left (by omega),Nat.add_comm l.sh off]
   rw [this] at h6;exact h6
  ·have hld:=kq (P:=P) (w:=w) (b:=l.b) (o:=off + l.sh) (n:=s) h1 (by omega);simp [execOp,ho,e,Instr.loadAt,Instr.sureAddr,loadVar,X5 hg,yv hs,hld]
 | false =>
  simp only [Bool.false_eq_true,if_false] at h;obtain ⟨v',hv',hr⟩:=h4.get off v h;have hi:off < cells.length:=(List.getElem?_eq_some_iff.1 h).1;rw [List.getElem?_take_of_lt hi,List.getElem?_drop] at hv';refine ⟨v',hr,fun o ho=>?_⟩;have hc:w.cell? ⟨l.b,off + l.sh,none⟩=some v':=by
   rw [cell_of_row w l.b _ cs el fz h1,Nat.add_comm off l.sh];simpa using hv'
  simp [execOp,ho,e,Instr.loadAt,Instr.sureAddr,loadVar,X5 hg,hc]
theorem toUns_ok {s d:TypeId}{t:TypeId}{x:Operand}{n:Nat}(h1:P.underlying s=some (.pointer t)) (h2:P.underlying d=some .unsafePointer) (h3:sizeOf? P t=some (n + 1)){vs:List Value}(hv:VRs ρ vs ([x].map ev)){base:Nat}{G:Nat→Option AObj}{w:World}
  (hS:Sim base G ρ w){v:Value}(h:aR .toUns vs G=some v):∃ v',VR ρ v v' ∧ ∀ o:Oper,o.op = .convert s d x→(execOp ev o).run P w = .ok (.value v') w:=by
 obtain ⟨p,rfl,hp⟩:=VRs.one_r hv;unfold aR at h;split at h<;>first | (cases h;done) | contradiction | skip
 rename_i id off heq0 heq;cases heq;obtain ⟨l,hl,e⟩:=hp.ptr_inv;split at h<;>first | (cases h;done) | skip
 rename_i cells el full hG;split at h<;>first | (cases h;done) | skip
 rename_i hlt;cases h;obtain ⟨cs,g1,g2,g3,_,_,g6,_⟩:=hS.obj id _ l hG hl;unfold sizeOf? at h3;cases hi:P.info? t with
 | none=>rw [hi] at h3;cases h3
 | some inf =>
  rw [hi] at h3;have hsz:inf.size=n + 1:=by simpa using h3
  refine ⟨_,.ptr id off l hl,fun o ho=>?_⟩;have:=Lib.run_to_unsafe (P:=P) w (⟨l.b,off + l.sh,none⟩:Addr) h1 h2 hi (by omega) (e:=el) (cells:=cs.size) (by simp [World.shape?,g1]) (by show off + l.sh < cs.size;omega);simp [execOp,ho,e,this]
theorem ofUns_ok {s d:TypeId}{u:TypeId}{x:Operand}{n:Nat}(h1:P.underlying s=some .unsafePointer) (h2:P.underlying d=some (.pointer u)) (h3:sizeOf? P u=some n){vs:List Value}(hv:VRs ρ vs ([x].map ev)){base:Nat}{G:Nat→Option AObj}{w:World}
  (hS:Sim base G ρ w){v:Value}(h:aR (.ofUns (liesB P u)) vs G=some v):∃ v',VR ρ v v' ∧ ∀ o:Oper,o.op = .convert s d x→(execOp ev o).run P w = .ok (.value v') w:=by
 obtain ⟨p,rfl,hp⟩:=VRs.one_r hv;unfold aR at h;split at h<;>first | (cases h;done) | contradiction | skip
 rename_i gd id off heq0 heq;cases heq0;cases heq;obtain ⟨l,hl,e⟩:=hp.ptr_inv;split at h<;>first | (cases h;done) | skip
 rename_i cells el hG;split at h<;>first | (cases h;done) | skip
 rename_i hlies;cases h;obtain ⟨cs,g1,g2,g3,_,g5,g6,_⟩:=hS.obj id _ l hG hl;have hfull:=g5 rfl;unfold sizeOf? at h3;cases hi:P.info? u with
 | none=>rw [hi] at h3;cases h3
 | some inf =>
  refine ⟨_,.ptr id off l hl,fun o ho=>?_⟩;have:=Lib.run_from_unsafe (P:=P) w (⟨l.b,off + l.sh,none⟩:Addr) h1 h2 hi (e:=el) (cells:=cs.size) (by simp [World.shape?,g1]) (by
   unfold liesB at hlies;rw [← hfull,g6];exact hlies)
  simp [execOp,ho,e,this]
theorem ym2 {op:Op}{k:RK}{xs:List Operand}(hk:zm P op=some (.r k,xs)){vs:List Value}(hv:VRs ρ vs (xs.map ev)){base:Nat}{G:Nat→Option AObj}{w:World}(hS:Sim base G ρ w){v:Value}(h:aR k vs G=some v) :
  ∃ v',VR ρ v v' ∧ ∀ o:Oper,o.op=op→(execOp ev o).run P w = .ok (.value v') w:=by
 cases op with
 | load t a =>
  simp only [zm] at hk;split at hk<;>first | (cases hk;done) | skip
  rename_i g s hg hs;cases hk;obtain ⟨p,rfl,hp⟩:=VRs.one_r hv;unfold aR at h;split at h<;>first | (cases h;done) | contradiction | skip
  rename_i agg size id off heq1 heq2;cases heq1;cases heq2;obtain ⟨l,hl,e⟩:=hp.ptr_inv;split at h<;>first | (cases h;done) | skip
  ·rename_i cells own hG;exact yq6 hg hs (hS.obj id _ l hG hl) e h
  ·rename_i cells ty full hG;exact yq6 hg hs (Ke (hS.obj id _ l hG hl)) e h
 | call c =>
  simp only [zm,zt2] at hk;split at hk
  ·rename_i hcal;unfold kLen at hk;split at hk<;>first | (cases hk;done) | skip
   rename_i x t hargs hts;have ea:c.args = #[x]:=by rw [← Array.toList_inj];exact hargs
   have et:c.argTypes = #[t]:=by rw [← Array.toList_inj];exact hts
   split at hk<;>first | (cases hk;done) | skip
   unfold zt1 at hk;split at hk<;>first | (cases hk;done) | skip
   rename_i kt e ht;cases hk;exact yr0 hcal ea et ht hv hS h
  all_goals first | (cases hk;done) | (exfalso;unfold Y1 at hk;(repeat' split at hk)<;>first | (cases hk;done) | (simp at hk;done)) | (exfalso;unfold yr5 at hk;(repeat' split at hk)<;>cases hk;done) | (exfalso;unfold wv at hk;(repeat' split at hk)<;>cases hk;done) | (exfalso;unfold Wz at hk;(repeat' split at hk)<;>cases hk;done) | (exfalso;unfold Y0 at hk;(repeat' split at hk)<;>cases hk;done) | (exfalso;(repeat' split at hk)<;>cases hk;done)
 | lookup t x i ok =>
  simp only [zm] at hk;split at hk<;>first | (cases hk;done) | skip
  rename_i k e ht;split at hk<;>first | (cases hk;done) | skip
  rename_i z hk1 hz;cases hk;exact yq4 ht hk1 hz hv hS h
 | convert s d x =>
  simp only [zm] at hk;split at hk
  ·cases hk
  ·cases hk
  ·split at hk<;>cases hk
  ·rename_i e h1 h2;split at hk<;>first | (cases hk;done) | skip
   rename_i h3;split at hk<;>first | (cases hk;done) | skip
   cases hk
   exact zx0 h1 h2 h3 hv hS h
  ·rename_i u h1 h2;unfold U8 at hk;split at hk<;>first | (cases hk;done) | skip
   rename_i n hn;cases hk;exact toUns_ok h1 h2 hn hv hS h
  ·rename_i u h1 h2;unfold U9 at hk;split at hk<;>first | (cases hk;done) | skip
   rename_i n hn;cases hk;exact ofUns_ok h1 h2 hn hv hS h
  ·cases hk
 | alloc e=>exfalso;simp only [zm,W0] at hk;cases hz:zero? P e with
  | none=>rw [hz] at hk;cases hk
  | some z=>rw [hz] at hk;simp only [Option.map_some] at hk;split at hk<;>cases hk
 | makeFunc fn first captured=>exfalso;cases fn<;>simp [zm] at hk
 | slice t x lo hi mx=>exfalso;cases mx<;>simp only [zm,Qi] at hk<;>first | (cases hk;done) | ((repeat' split at hk)<;>first | (cases hk;done) | (simp at hk;done))
 | _=>exfalso;first | (cases hk;done) | (simp only [zm] at hk;(repeat' split at hk)<;>cases hk;done) | (simp [zm] at hk;done) | (simp only [zm,kBin,kNil,kPtr,kEqK] at hk;(repeat' split at hk)<;>first | (cases hk;done) | (simp at hk;done)) | (simp only [zm,za0] at hk;(repeat' split at hk)<;>first | (cases hk;done) | (simp at hk;done)) | (simp only [zm,zt2,kLen,zt1,Y1,yr5,wv,Y0,Wz] at hk;(repeat' split at hk)<;>first | (cases hk;done) | (simp at hk;done))
def NewOk (P:Program) (ρ:Ren) (base:Nat) (G:Nat→Option AObj) (w:World) (ev:Operand→Value) (op:Op) (id:Nat) (cells:List Value) (v:Value):Prop :=
 ∃ l v' w',VR (ρ.put id l) v v' ∧ Sim base (vl G id (.blk cells true)) (ρ.put id l) w' ∧ WStep base w w' ∧ ∀ o:Oper,o.op=op→(execOp ev o).run P w = .ok (.value v') w'
theorem Wu {base:Nat}{G:Nat→Option AObj}{w:World}(hS:Sim base G ρ w){id:Nat}(hid:ρ id=none){cells:List Value}{cs:Array Value}(el:TypeId) (hn:cells.length≤cs.size)
  (hc:∀ (i:Nat) v,cells[i]? = some v → ∃ v',cs[i]? = some v' ∧ VR ρ v v' ∧ v.oneCell' = true) :
  Sim base (vl G id (.blk cells true)) (ρ.put id ⟨w.heap.size,0,cs.size⟩) (w.alloc (.cells cs el))∧WStep base w (w.alloc (.cells cs el)):=by
 have hle:=Ren.le_put hid ⟨w.heap.size,0,cs.size⟩;refine ⟨hS.alloc id _ ⟨w.heap.size,0,cs.size⟩ hid (Nat.le_refl _) (by simp) (fun b hb=>heap_alloc_old w _ b hb) (by simp) ?_,⟨by simp,fun b hb=>heap_alloc_old w _ b (Nat.lt_of_lt_of_le hb hS.size),rfl,rfl,rfl,fun a _=>Zg w _ (.inl ⟨_,_,rfl⟩) a⟩⟩;refine ⟨cs,el,(0,0),heap_alloc_new w _,rfl,by simpa using hn,fun i v hv=>?_,fun _=>⟨rfl,rfl,hS.size⟩⟩;obtain ⟨v',a,b,c⟩:=hc i v hv;exact ⟨v',by simpa using a,VR.mono hle b,c⟩
theorem Z3 {cells cs' : List Value}(h:VRs ρ cells cs') (h1:∀ c ∈ cells,c.oneCell' = true):∀ (i:Nat) v,cells[i]? = some v → ∃ v',cs'.toArray[i]? = some v' ∧ VR ρ v v' ∧ v.oneCell' = true:=fun i v hv=>by
 obtain ⟨v',a,b⟩:=h.get i v hv;exact ⟨v',by simpa using a,b,h1 v (List.mem_of_getElem? hv)⟩
theorem Kl (z:List Value) (s:Nat) (hz:z.length=s) (hs:0 < s):∀ (n i:Nat),i < n * s→(List.replicate n z).flatten[i]? = z[i % s]?
 | 0,i,h=>by simp at h
 | n + 1,i,h=>by
  simp only [List.replicate_succ,List.flatten_cons];by_cases hi:i < s
  ·rw [List.getElem?_append_left (by omega),Nat.mod_eq_of_lt hi]
  ·have h' : i - s < n * s:=by rw [Nat.succ_mul] at h;omega
   rw [List.getElem?_append_right (by omega),hz,Kl z s hz hs n (i - s) h',← Nat.mod_eq_sub_mod (by omega)]
theorem Yj (z:List Value) (s:Nat) (hz:z.length=s) (n:Nat):(List.replicate n z).flatten.length=n * s:=by
 simp [hz]
theorem yd1 {op:Op}{k:AK}{xs:List Operand}(hk:zm P op=some (.a k,xs)){vs:List Value}(hv:VRs ρ vs (xs.map ev)){base:Nat}{G:Nat→Option AObj}{w:World}(hS:Sim base G ρ w)
  {cells:List Value}{mk:Nat→Value}(h:aA k vs=some (cells,mk)){id:Nat}(hid:ρ id=none):NewOk P ρ base G w ev op id cells (mk id):=by
 have hput:∀ l,(ρ.put id l) id=some l:=fun l=>by simp [Ren.put]
 cases op with
 | alloc e =>
  simp only [zm,W0] at hk;cases hz:zero? P e with
  | none=>rw [hz] at hk;cases hk
  | some z =>
   rw [hz,Option.map_some] at hk;split at hk<;>first | (cases hk;done) | skip
   cases hk
   cases hv
   simp only [aA,aNew] at h;cases h;obtain ⟨zv,h1,h2,h3,h4⟩:=kh hz;have hsim:=Wu hS hid e (cells:=cells) (cs:=zv.cells) (by rw [← h2];simp) (by
    have:=Z3 (ρ:=ρ) (VRs.plain h3) h4;rw [← h2] at this ⊢;simpa using this)
   exact ⟨_,.pointer (some ⟨w.heap.size,0,none⟩),_,.ptr id 0 _ (hput _),hsim.1,hsim.2,fun o ho=>by simp [execOp,ho,Instr.alloc,h1,newVar,newRow]⟩
 | box e x =>
  simp only [zm] at hk;split at hk<;>first | (cases hk;done) | skip
  cases hk
  obtain ⟨a,rfl,ha⟩:=VRs.one_r hv;simp only [aA,Je] at h;split at h<;>first | (cases h;done) | skip
  rename_i hall;cases h;have hcl:=ha.cells;have hsim:=Wu hS hid e (cells:=a.cells.toList) (cs:=(ev x).cells) (by rw [hcl.length];simp) (by
   have:=Z3 hcl (fun c hc=>List.all_eq_true.1 hall c hc);simpa using this)
  exact ⟨_,.pointer (some ⟨w.heap.size,0,none⟩),_,.ptr id 0 _ (hput _),hsim.1,hsim.2,fun o ho=>by simp [execOp,ho,Instr.box,newVar,newRow]⟩
 | buildSlice t len parts =>
  simp only [zm] at hk;split at hk<;>first | (cases hk;done) | skip
  rename_i e hu;split at hk<;>first | (cases hk;done) | skip
  rename_i s z hs hz;split at hk<;>first | (cases hk;done) | skip
  rename_i hcond;obtain ⟨hzl,hsmall⟩:=hcond;cases hk;simp only [aA,yj] at h;split at h<;>first | (cases h;done) | skip
  rename_i hpl;cases hf:Zj (List.replicate len z).flatten ((parts.toList.map fun x=>(x.1 * s,s)).zip vs) with
  | none=>rw [hf] at h;cases h
  | some cs =>
   rw [hf] at h;cases h;obtain ⟨zv,h1,h2,h3,h4⟩:=kh hz;have hmap:(parts.toList.map (·.1)).map (fun i=>some (i * s,s))=(parts.toList.map fun x=>(x.1 * s,s)).map some:=by simp
   have hzf:∀ c ∈ (List.replicate len z).flatten,c ∈ z:=by
    intro c hc;obtain ⟨l,hl,hc⟩:=List.mem_flatten.1 hc;rw [(List.mem_replicate.1 hl).2] at hc;exact hc
   obtain ⟨cs',hf',hcs⟩:=ze8 (ρ:=ρ) (fun i=>some (i * s,s)) _ (parts.toList.map (·.1)) vs _ _ _ cells hmap hv (VRs.plain (l:=(List.replicate len z).flatten) fun c hc=>h3 c (hzf c hc)) hpl hf;have hone:=Qq _ _ _ (fun c hc=>h4 c (hzf c hc)) hf;have hzip:(parts.toList.map (·.1)).zip ((parts.toList.map (·.2)).map ev)=(parts.map fun (i,x)=>(i,ev x)).toList:=by
    simp only [Array.toList_map];induction parts.toList with
    | nil=>rfl
    | cons a r ih=>simp only [List.map_cons,List.zip_cons_cons,ih]
   rw [hzip] at hf';have hsim:=Wu hS hid e (cells:=cells) (cs:=cs') (by rw [hcs.length];simp) (by
    have:=Z3 hcs hone;simpa using this)
   have hlen:cs'.size=len * s:=by
    have hfl:∀ (ps:List (Nat × Value)) (c0 c1:Array Value),Instr.fill (fun i=>some (i * s,s)) c0 ps=some c1→c1.size=c0.size:=by
     intro ps;induction ps with
     | nil=>intro c0 c1 h;simp [Instr.fill] at h;rw [h]
     | cons p r ih =>
      obtain ⟨i,v⟩:=p;intro c0 c1 h;simp only [Instr.fill] at h;split at h<;>first | (cases h;done) | skip
      have:=ih _ _ h;rw [this];have e:v.cells.zipIdx=(v.cells.toList.zipIdx 0).toArray:=by rw [← Array.toList_inj];simp
      rw [e,List.foldl_toArray,Jt]
    rw [hfl _ _ _ hf'];simp [hzl]
   refine ⟨⟨w.heap.size,0,cs'.size⟩,.slice (some ⟨w.heap.size,0,none⟩) len len,_,?_,hsim.1,hsim.2,fun o ho=>?_⟩
   ·exact .slice id 0 0 len s len _ (hput _) (Nat.le_refl _) (.inl ⟨rfl,by simp [hlen]⟩)
   ·have hbig:¬ (len * s > 2 ^ 24):=by omega
    have hrun:∀ zc:Array Value,(Array.range (len * s)).map (zc[· % zc.size]!)=(List.replicate len z).flatten.toArray →
      Instr.fill (fun i=>some (i * s,s)) ((Array.range (len * s)).map (zc[· % zc.size]!)) (parts.map fun (i,x)=>(i,ev x)).toList=some cs':=fun zc hzc=>by rw [hzc];exact hf'
    by_cases h0:len * s=0
    ·have hr:=hrun #[] (by
      have hl:=Yj z s hzl len;rw [h0] at hl;rw [List.eq_nil_of_length_eq_zero hl,h0];simp)
     rw [h0] at hr;simp only [Array.toList_map] at hr;simp [execOp,ho,Instr.buildSlice,run_underlying hu,yv hs,h0];simp at hr;rw [hr];simp [newRow]
    ·have hs0:0 < s:=Nat.pos_of_ne_zero fun e=>h0 (by simp [e]);have hr:=hrun zv.cells (by
      apply Array.ext_getElem?;intro i;have hzs:zv.cells.size=s:=by rw [← hzl,← h2];simp
      by_cases hi:i < len * s
      ·have hm:i % s < s:=Nat.mod_lt _ hs0;have:=Kl z s hzl hs0 len i hi;simp only [List.getElem?_toArray,this,hzs];simp [hi];rw [← h2];rw [getElem!_pos zv.cells (i % s) (by omega)];simp [hzs,hm]
      ·have hl:=Yj z s hzl len;simp [hi];rw [hzl];omega)
     have hbig' : ¬ (16777216 < len * s):=by omega
     simp [execOp,ho,Instr.buildSlice,run_underlying hu,yv hs,h0,h1,newRow,hbig'];simp at hr;rw [hr];simp
 | makeSlice t lo co =>
  simp only [zm] at hk;split at hk<;>first | (cases hk;done) | skip
  rename_i e hu;split at hk<;>first | (cases hk;done) | skip
  rename_i s z b hs hz hb;split at hk<;>first | (cases hk;done) | skip
  rename_i hzl;cases hk;obtain ⟨x,y,rfl,hx,hy⟩:=VRs.two_r hv;simp only [aA] at h;cases x<;>cases y<;>simp only [yi8] at h<;>first | (cases h;done) | skip
  rename_i kl l kc c;split at h<;>first | (cases h;done) | skip
  rename_i hcond;obtain ⟨hl0,hlc,hcb,hc63⟩:=hcond;cases h;have ex:=hx.int;have ey:=hy.int;obtain ⟨zv,h1,h2,h3,h4⟩:=kh hz;have hzs:zv.cells.size=s:=by rw [← hzl,← h2];simp
  have hwl:IntKind.i64.wrap l=l:=by
   unfold IntKind.wrap;simp [IntKind.signed,IntKind.bits];omega
  have hwc:IntKind.i64.wrap c=c:=by
   unfold IntKind.wrap;simp [IntKind.signed,IntKind.bits];omega
  have hbi:∀ w,(typeInfo e).run P w = .ok ((P.info? e).getD default) w∧((P.info? e).getD default).bytes=b∧((P.info? e).getD default).size=s:=by
   unfold bytesOf? at hb;unfold sizeOf? at hs;cases hi:P.info? e with
   | none=>rw [hi] at hb;cases hb
   | some i=>rw [hi] at hb hs;cases hb;cases hs;exact fun w=>⟨by simp [typeInfo,hi],rfl,rfl⟩
  let cs:Array Value:=(Array.range (c.toNat * s)).map (zv.cells[· % zv.cells.size]!);have hcs:cs.size=c.toNat * s:=by simp [cs]
  have hlc' : l.toNat * s≤c.toNat * s:=Nat.mul_le_mul_right _ (by omega);have hsim:=Wu hS hid e (cells:=(List.replicate l.toNat z).flatten) (cs:=cs) (by rw [Yj z s hzl,hcs];exact hlc') (fun i v hv=>by
   have hi:i < l.toNat * s:=by rw [← Yj z s hzl];exact (List.getElem?_eq_some_iff.1 hv).1
   have hs0:0 < s:=Nat.pos_of_ne_zero fun e=>by subst e;simp at hi
   rw [Kl z s hzl hs0 _ i hi] at hv;have hm:v ∈ z:=List.mem_of_getElem? hv;refine ⟨v,?_,.same v (h3 v hm),h4 v hm⟩;have hm2:i % s < s:=Nat.mod_lt _ hs0;have hic:i < c.toNat * s:=by omega
   simp [cs,hic,hzs];rw [← h2] at hv;rw [getElem!_pos zv.cells (i % s) (by omega)];have:=(List.getElem?_eq_some_iff.1 hv).2;simpa using this)
  refine ⟨⟨w.heap.size,0,cs.size⟩,.slice (some ⟨w.heap.size,0,none⟩) l.toNat c.toNat,_,?_,hsim.1,hsim.2,fun o ho=>?_⟩
  ·exact .slice id 0 0 l.toNat s c.toNat _ (hput _) (by omega) (.inl ⟨rfl,by simp [hcs]⟩)
  ·have hz0:c.toNat * s=0→(Array.range 0).map ((#[]:Array Value)[· % (#[]:Array Value).size]!)=cs:=fun h0=>by simp [cs,h0]
   have hlarge:∀ x:Int,0≤x→x≤c→(decide (x < 0) || decide ((b:Int) * x > 2 ^ 48))=false:=fun x h0 hx=>by
    have:(b:Int) * x≤c * b:=by rw [Int.mul_comm];exact Int.mul_le_mul_of_nonneg_right hx (by omega)
    simp;omega
   have hA:¬ ((b:Int) * c > 2 ^ 48):=by have:=hlarge c (by omega) (Int.le_refl _);simp at this;omega
   simp only [execOp,ho,Sem.run_bind,Instr.makeSlice,run_underlying hu,Result.andThen_ok,ex,ey,asInt,asIntOf,(hbi _).1,hwl,hwc,Sem.run_pure];have hcond2:(decide (c < 0) || decide ((b:Int) * c > 2 ^ 48) || decide (l < 0) || decide (l > c))=false:=by
    simp;omega
   rw [(hbi w).2.1];simp only [hcond2,Bool.false_eq_true,if_false];simp only [Sem.run_bind,Result.andThen_ok,run_askRoom,yv hs];by_cases h0:c.toNat * s=0
   ·simp [h0,newRow];have:=hz0 h0;simp at this;rw [← this]
   ·simp [h0,newRow,h1];rfl
 | makeFunc fn first captured=>exfalso;cases fn<;>simp [zm] at hk
 | slice t x lo hi mx=>exfalso;cases mx<;>simp only [zm,Qi] at hk<;>first | (cases hk;done) | ((repeat' split at hk)<;>first | (cases hk;done) | (simp at hk;done))
 | _=>exfalso;first | (cases hk;done) | (simp only [zm,U8,U9] at hk;(repeat' split at hk)<;>cases hk;done) | (simp only [zm] at hk;(repeat' split at hk)<;>cases hk;done) | (simp [zm] at hk;done) | (simp only [zm,kBin,kNil,kPtr,kEqK] at hk;(repeat' split at hk)<;>first | (cases hk;done) | (simp at hk;done)) | (simp only [zm,za0] at hk;(repeat' split at hk)<;>first | (cases hk;done) | (simp at hk;done)) | (simp only [zm,zt2,kLen,zt1,Y1,yr5,wv,Y0,Wz] at hk;(repeat' split at hk)<;>first | (cases hk;done) | (simp at hk;done))
end Go.Eng
namespace Go.Eng
open Go
variable {P:Program}{ρ:Ren}{ev:Operand→Value}
def Heap.into (h:Heap) (G:Nat→Option AObj):Prop:=∀ id o,h.get id=some o→G id=some o
theorem y0 {h:Heap}{G:Nat→Option AObj}(hG:h.into G):∀ id,vv h G id=G id:=fun id=>by
 unfold vv;cases hg:h.get id with
 | none=>simp
 | some o=>simp [hG id o hg]
theorem um {h:Heap}{G:Nat→Option AObj}(hG:h.into G){i:Nat}{oi:AObj}(hi:h.get i=some oi) (o:AObj):∀ id,vv (h.set i o) G id=vl G i o id:=fun id=>by
 have hlt:=Heap.lt_of_get hi;have:=y0 hG id;unfold vv vl at *;rw [Heap.get_set];by_cases e:id=i
 ·simp [e,hlt]
 ·simp [e,this]
theorem wt {h:Heap}{G:Nat→Option AObj}(hG:h.into G) (o:AObj):∀ id,vv (h.alloc o) G id=vl G h.next o id:=fun id=>by
 have:=y0 hG id;unfold vv vl at *;rw [Heap.get_alloc];by_cases e:id=h.next
 ·simp [e]
 ·simp [e,this]
def zb5 (P:Program) (ev:Operand→Value) (op:Op) (w:World) (v' : Value) (w' : World):Prop :=
 ∀ o:Oper,o.op=op→(execOp ev o).run P w = .ok (.value v') w' ∨ ((execOp ev o).run P w = .ok .skip w' ∧ v' = undef)
def Fresh (ρ:Ren) (a b:Nat):Prop:=∀ id,a≤id→id < b→ρ id=none
def Agree (ρ ρ' : Ren) (a b:Nat):Prop:=∀ id,(id < a∨b≤id)→ρ' id=ρ id
theorem Agree.le {ρ ρ' : Ren}{a b:Nat}(h:Agree ρ ρ' a b) (hf:Fresh ρ a b):ρ.le ρ':=fun id l hl=>by
 by_cases hin:a≤id∧id < b
 ·rw [hf id hin.1 hin.2] at hl;cases hl
 ·rw [h id (by omega)];exact hl
theorem Agree.refl (ρ:Ren) (a b:Nat):Agree ρ ρ a b:=fun _ _=>rfl
theorem Agree.put (ρ:Ren) (i:Nat) (l:Loc):Agree ρ (ρ.put i l) i (i + 1):=fun id h=>by
 unfold Ren.put;have:id≠i:=by omega
 simp [this]
theorem Agree.trans {ρ ρ1 ρ2:Ren}{a b c:Nat}(h:Agree ρ ρ1 a b) (h' : Agree ρ1 ρ2 b c) (hab:a≤b) (hbc:b≤c):Agree ρ ρ2 a c:=fun id hid=>by
 rw [h' id (by omega),h id (by omega)]
structure StepOk (base:Nat) (G:Nat→Option AObj) (ρ:Ren) (w:World) (h h' : Heap) (v v' : Value) (ρ' : Ren) (w' : World):Prop where
 agree:Agree ρ ρ' h.next h'.next
 val:VR ρ' v v'
 sim:Sim base (vv h' G) ρ' w'
 step:WStep base w w'
theorem uf (w:World) (g:Nat) (cs:Array Value) (a:Addr):(w.setRow g cs).frozen? a=w.frozen? a:=zn6 (fun b=>by
 by_cases e:b=g
 ·subst e;cases h:w.heap[b]? with
  | none=>left;simp [World.setRow,Array.getElem?_modify,h]
  | some o=>cases o<;>first | (left;simp [World.setRow,Array.getElem?_modify,h];done) | (right;left;exact ⟨_,_,_,_,_,rfl,by simp [World.setRow,Array.getElem?_modify,h];exact ⟨rfl,rfl⟩⟩)
 ·left;exact setRow_other w g b cs e) a
theorem vy (w:World) (g:Nat) (cs:Array Value):(w.setRow g cs).heap.size=w.heap.size:=by simp
theorem Wg {α:Type}(cs m:List α) (off n:Nat) (h1:off + m.length≤n) (h2:n≤cs.length) :
  (cs.take n).take off++m++(cs.take n).drop (off + m.length)=(cs.take off++m++cs.drop (off + m.length)).take n:=by
 have hlen:(cs.take off++m).length=off + m.length:=by simp;omega
 rw [List.take_take,Nat.min_eq_left (by omega),List.take_append,hlen,List.drop_take]
 congr 1
 exact (List.take_of_length_le (by omega)).symm
theorem yc9 {base:Nat}{w:World}{l:Loc}{cells:List Value}{e:TypeId}{full:Bool}{cs:Array Value}(h:ObjR base ρ w l (.blk cells true)) (hc:w.heap[l.b]? = some (.cells cs e (0,0))) (hf:full=true→cells.length=cs.size):ObjR base ρ w l (.tblk cells e full):=by
 obtain ⟨cs',el,fz,h1,h2,h3,h4,h5⟩:=h;rw [hc] at h1;cases h1;obtain ⟨h6,_,h7⟩:=h5 rfl;rw [h6] at h3 h4;simp only [Nat.zero_add] at h3 h4;exact ⟨cs,hc,h2,h3,h4,hf,h6,h7⟩
theorem Uq {t:TypeId}{xa xv:Operand}{s:Nat}(hs:sizeOf? P t=some s){base:Nat}{w:World}{l:Loc}{cells:List Value}{off:Nat}{x:Value}(hobj:ObjR base ρ w l (.blk cells true)) (e:ev xa = .pointer (some ⟨l.b,off + l.sh,none⟩)) (hx:VR ρ x (ev xv))
  (hlen:x.cells.toList.length=s) (hle:off + s≤cells.length) (hall:x.cells.toList.all (·.oneCell')=true) :
  ∃ (cs new:Array Value) (el:TypeId),w.heap[l.b]? = some (.cells cs el (0,0))∧new.size=cs.size∧base≤l.b∧(∀ o:Oper,o.op = .store t xa xv→(execOp ev o).run P w = .ok .skip (w.setRow l.b new)) ∧
   (w.setRow l.b new).heap[l.b]? = some (.cells new el (0,0))∧ObjR base ρ (w.setRow l.b new) l (.blk (cells.take off++x.cells.toList++cells.drop (off + s)) true):=by
 obtain ⟨cs,el,fz,h1,h2,h3,h4,h5,h6⟩:=Zu hobj;obtain ⟨hsh,rfl,hbase⟩:=h6 rfl;rw [hsh] at h3 h4 e;simp only [Nat.add_zero,Nat.zero_add,List.drop_zero] at h3 h4 e;have hcl:=hx.cells;have hxl:(ev xv).cells.toList.length=s:=by rw [← hcl.length];exact hlen
 have hone:∀ c ∈ (ev xv).cells.toList,c.oneCell' = true:=by
  intro c hc;obtain ⟨i,hi⟩:=List.mem_iff_getElem?.1 hc;have hil:i < x.cells.toList.length:=by rw [hcl.length];exact (List.getElem?_eq_some_iff.1 hi).1
  obtain ⟨c',hc',hr⟩:=hcl.get i _ (List.getElem?_eq_getElem hil);rw [hi] at hc';cases hc';rw [VR.oneCell hr];exact List.all_eq_true.1 hall _ (List.getElem_mem hil)
 have hst:=run_storeCells_at P l.b off el (ev xv).cells.toList 0 cs w h1 (by rw [hxl];omega) hone;simp only [Nat.add_zero] at hst;let new:Array Value:=(cs.toList.take off++(ev xv).cells.toList++cs.toList.drop (off + (ev xv).cells.toList.length)).toArray;have hnew:new.size=cs.size:=by simp [new];simp at hxl;omega
 refine ⟨cs,new,el,h1,hnew,hbase,fun o ho=>?_,setRow_heap w l.b cs _ el _ h1,?_⟩
 ·have hsz:¬ ((ev xv).cells.size≠s):=by simpa using hxl
  simp only [execOp,ho,Instr.storeAt,e,Instr.sureAddr,Sem.run_bind,Sem.run_pure,Result.andThen_ok,storeVar,yv hs,hsz,if_false,hst];rfl
 ·refine ⟨new,el,(0,0),setRow_heap w l.b cs _ el _ h1,by rw [hnew];exact h2,by simp [hsh];simp at hlen;rw [hnew];omega,fun i v hv=>?_,fun _=>⟨hsh,rfl,hbase⟩⟩;rw [hsh,Nat.zero_add];have hrel:VRs ρ (cells.take off++x.cells.toList++cells.drop (off + s)) ((cs.toList.take cells.length).take off++(ev xv).cells.toList++(cs.toList.take cells.length).drop (off + s)) :=
   ((h4.take off).append hcl).append (h4.drop _)
  obtain ⟨v',hv',hr⟩:=hrel.get i v hv;refine ⟨v',?_,hr,?_⟩
  ·have hi:i < cells.length:=by
    have:=(List.getElem?_eq_some_iff.1 hv).1;simp at this hlen;omega
   have hsp:=Wg cs.toList (ev xv).cells.toList off cells.length (by rw [hxl];exact hle) (by simpa using h3);rw [hxl] at hsp;rw [hsp,List.getElem?_take_of_lt hi] at hv';simp only [new,List.getElem?_toArray,hxl];exact hv'
  ·have hm:=List.mem_of_getElem? hv;simp only [List.mem_append] at hm;rcases hm with (hm | hm) | hm
   ·exact h5 v (List.mem_of_mem_take hm)
   ·exact List.all_eq_true.1 hall v hm
   ·exact h5 v (List.mem_of_mem_drop hm)
theorem store_ok {t:TypeId}{xa xv:Operand}{s:Nat}(hs:sizeOf? P t=some s){vs:List Value}(hv:VRs ρ vs ([xa,xv].map ev)){base:Nat}{G:Nat→Option AObj}{w:World}(hS:Sim base G ρ w){h h' : Heap}(hG:h.into G)
  {v:Value}(hw:zt s h vs=some (v,h')):∃ w',zb5 P ev (.store t xa xv) w undef w' ∧ StepOk base G ρ w h h' v undef ρ w':=by
 obtain ⟨p,x,rfl,hp,hx⟩:=VRs.two_r hv;unfold zt at hw;split at hw<;>first | (cases hw;done) | skip
 rename_i id off x' heq;cases heq;obtain ⟨l,hl,e⟩:=hp.ptr_inv;split at hw<;>first | (cases hw;done) | skip
 ·rename_i cells hcell;split at hw<;>first | (cases hw;done) | skip
  rename_i hcond;obtain ⟨hlen,hle,hall⟩:=hcond;cases hw;have hGi:=hG id _ hcell;obtain ⟨cs,new,el,g1,g2,hbase,g3,g4,g5⟩:=Uq hs (hS.obj id _ l hGi hl) e hx hlen hle hall;refine ⟨w.setRow l.b new,fun o ho=>.inr ⟨g3 o ho,rfl⟩,⟨Agree.refl _ _ _,.same _ rfl,?_,?_⟩⟩
  ·exact Sim.congr (hS.write id _ _ l hGi hl rfl (vy _ _ _) (fun b hb=>setRow_other w l.b b _ hb) g5) (um hG hcell _)
  ·exact ⟨by simp,fun b hb=>setRow_other w l.b b _ (by omega),rfl,rfl,rfl,fun a _=>uf w l.b _ a⟩
 ·rename_i cells el full hcell;split at hw<;>first | (cases hw;done) | skip
  rename_i hcond;obtain ⟨hlen,hle,hall⟩:=hcond;cases hw;have hGi:=hG id _ hcell;have hobj:=hS.obj id _ l hGi hl;obtain ⟨cs,new,el',g1,g2,hbase,g3,g4,g5⟩:=Uq hs (Ke hobj) e hx hlen hle hall;obtain ⟨cs',k1,k2,k3,k4,k5,k6,k7⟩:=hobj;rw [g1] at k1;cases k1;refine ⟨w.setRow l.b new,fun o ho=>.inr ⟨g3 o ho,rfl⟩,⟨Agree.refl _ _ _,.same _ rfl,?_,?_⟩⟩
  ·exact Sim.congr (hS.write id _ _ l hGi hl rfl (vy _ _ _) (fun b hb=>setRow_other w l.b b _ hb) (yc9 g5 g4 (fun hf=>by
    have:=k5 hf;simp at hlen;simp [hlen];omega))) (um hG hcell _)
  ·exact ⟨by simp,fun b hb=>setRow_other w l.b b _ (by omega),rfl,rfl,rfl,fun a _=>uf w l.b _ a⟩
theorem yq1 {α:Type}{z:List α}{x:α}:∀ {n:Nat},x ∈ (List.replicate n z).flatten→x ∈ z
 | 0,h=>by simp at h
 | n + 1,h=>by
  rw [List.replicate_succ,List.flatten_cons,List.mem_append] at h;exact h.elim id yq1
theorem clear_ok {t e ty:TypeId}{x:Operand}{s:Nat}{z:List Value}(ht:P.underlying t=some (.slice e)) (hz:zero? P e=some z) (hzl:z.length=s){vs:List Value}(hv:VRs ρ vs ([x].map ev)){base:Nat}{G:Nat→Option AObj}{w:World}(hS:Sim base G ρ w){h h' : Heap}(hG:h.into G)
  {v:Value}(hw:Wa s z h vs=some (v,h')):∃ w',(Builtin.clear_ #[t] ty #[ev x]).run P w = .ok (.tuple #[]) w' ∧ v = .tuple #[]∧StepOk base G ρ w h h' v (.tuple #[]) ρ w':=by
 obtain ⟨y,rfl,hy⟩:=VRs.one_r hv;obtain ⟨zv,k1,k2,k3,k4⟩:=kh hz;unfold Wa at hw;split at hw<;>first | (cases hw;done) | skip
 ·rename_i heq;cases heq;cases hw;have e1:ev x = .slice none 0 0:=VR.plain_inv (by simp [Value.plain]) hy;refine ⟨w,?_,rfl,Agree.refl _ _ _,.same _ rfl,Sim.congr hS (y0 hG),WStep.refl _ _⟩;simp only [Builtin.clear_,e1];simp [run_underlying ht]
 ·rename_i id off n s' heq;cases heq;obtain ⟨l,off',cap,hl,e1,hle,ho⟩:=hy.slice_inv;split at hw<;>first | (cases hw;done) | skip
  rename_i cells hcell;split at hw<;>first | (cases hw;done) | skip
  rename_i hcond;cases hw;have hGi:=hG id _ hcell;by_cases hn:n=0
  ·subst hn;have e0:cells.take off++(List.replicate 0 z).flatten++cells.drop (off + 0 * s)=cells:=by simp
   rw [e0];refine ⟨w,?_,rfl,Agree.refl _ _ _,.same _ rfl,?_,WStep.refl _ _⟩
   ·simp [Builtin.clear_,e1,run_underlying ht]
   ·refine Sim.congr hS fun i=>?_;rw [um hG hcell];unfold vl;split
    ·rename_i e;rw [e,hGi]
    ·rfl
  ·have hobj:=hS.obj id _ l hGi hl;obtain ⟨cs,el,fz,h1,h2,h3,h4,h5,h6⟩:=Zu hobj;obtain ⟨hsh,rfl,hbase⟩:=h6 rfl;rw [hsh] at h3 h4 ho;simp only [Nat.add_zero,Nat.zero_add,List.drop_zero] at h3 h4 ho;have hoff:off' = off:=by rcases ho with ⟨e,_⟩ | ⟨e,_⟩<;>omega
   subst hoff;obtain ⟨m,rfl⟩:∃ m,n=m + 1:=⟨n - 1,by omega⟩;have hzs:zv.cells.size=s:=by rw [← hzl,← k2];simp
   obtain ⟨zs,hzse⟩:∃ x,(List.replicate (m + 1) z).flatten=x:=⟨_,rfl⟩;have hzsl:zs.length=(m + 1) * s:=by rw [← hzse,Yj z s hzl]
   have hmem:∀ c ∈ zs,c ∈ z:=fun c hc=>by rw [← hzse] at hc;exact yq1 hc
   have ezc:(Builtin.zeroCells zv.cells (m + 1)).toList=zs:=by
    rw [← hzse];refine List.ext_getElem? fun i=>?_;by_cases hi:i < (m + 1) * s
    ·have hs0:0 < s:=Nat.pos_of_ne_zero fun e=>by subst e;simp at hi
     rw [Kl z s hzl hs0 _ i hi];have hm2:i % s < s:=Nat.mod_lt _ hs0;have e2:z[i % s]? = some (zv.cells[i % s]!):=by
      rw [← k2,getElem!_pos zv.cells (i % s) (by omega)];simp
     rw [e2];simp [Builtin.zeroCells,hzs,hi]
    ·rw [List.getElem?_eq_none (by simp [Builtin.zeroCells,hzs];omega),List.getElem?_eq_none (by rw [Yj z s hzl];omega)]
   have hone:∀ c ∈ zs,c.oneCell' = true:=fun c hc=>k4 c (hmem c hc);have hst:=run_storeCells_at P l.b off' el zs 0 cs w h1 (by rw [hzsl];omega) hone;simp only [Nat.add_zero] at hst;let new:Array Value:=(cs.toList.take off' ++ zs++cs.toList.drop (off' + zs.length)).toArray;have hnew:new.size=cs.size:=by simp [new];omega
   refine ⟨w.setRow l.b new,?_,rfl,Agree.refl _ _ _,.same _ rfl,?_,?_⟩
   ·simp only [Builtin.clear_,e1];simp [run_underlying ht,k1,ezc,hst,new]
   ·rw [hzse];refine Sim.congr (hS.write id _ _ l hGi hl rfl (vy _ _ _) (fun b hb=>setRow_other w l.b b _ hb) ?_) (um hG hcell _);refine ⟨new,el,(0,0),setRow_heap w l.b cs _ el _ h1,by rw [hnew];exact h2,by rw [hsh,hnew];simp;omega,fun i v hv=>?_,fun _=>⟨hsh,rfl,hbase⟩⟩;rw [hsh,Nat.zero_add];have hpl:VRs ρ zs zs:=VRs.plain fun c hc=>k3 c (hmem c hc);have hrel:VRs ρ (cells.take off' ++ zs++cells.drop (off' + (m + 1) * s)) ((cs.toList.take cells.length).take off' ++ zs++(cs.toList.take cells.length).drop (off' + (m + 1) * s)) :=
     ((h4.take off').append hpl).append (h4.drop _)
    obtain ⟨v',hv',hr⟩:=hrel.get i v hv;refine ⟨v',?_,hr,?_⟩
    ·have hi:i < cells.length:=by
      have:=(List.getElem?_eq_some_iff.1 hv).1;simp at this;omega
     have hsp:=Wg cs.toList zs off' cells.length (by rw [hzsl];exact hcond) (by simpa using h3);rw [hzsl] at hsp;rw [hsp,List.getElem?_take_of_lt hi] at hv';simp only [new,List.getElem?_toArray,hzsl];exact hv'
    ·have hm:=List.mem_of_getElem? hv;simp only [List.mem_append] at hm;rcases hm with (hm | hm) | hm
     ·exact h5 v (List.mem_of_mem_take hm)
     ·exact hone v hm
     ·exact h5 v (List.mem_of_mem_drop hm)
   ·exact ⟨by simp,fun b hb=>setRow_other w l.b b _ (by omega),rfl,rfl,rfl,fun a _=>uf w l.b _ a⟩
end Go.Eng
namespace Go.Eng
open Go
variable {P:Program}{ρ:Ren}{ev:Operand→Value}
theorem Kk {w:World}{g:Nat}{o o' : Obj}(h:w.heap[g]? = some o) (ho:∀ c t f,o ≠ .cells c t f) (ho' : ∀ c t f,o' ≠ .cells c t f) (a:Addr):(w.putObj g o').frozen? a=w.frozen? a:=zn6 (fun b=>by
 by_cases e:b=g
 ·subst e;right;right;have hlt:b < w.heap.size:=(Array.getElem?_eq_some_iff.1 h).1;refine ⟨fun c t f hh=>?_,fun c t f hh=>?_⟩
  ·rw [h] at hh;exact ho _ _ _ (Option.some.inj hh)
  ·rw [World.putObj_heap_same hlt] at hh;exact ho' _ _ _ (Option.some.inj hh)
 ·left;exact World.putObj_heap_other e) a
theorem mkmap_ok {t:TypeId}{base:Nat}{G:Nat→Option AObj}{w:World}(hS:Sim base G ρ w){h:Heap}(hG:h.into G) (hid:ρ h.next=none) :
  ∃ v' ρ' w',zb5 P ev (.makeMap t none) w v' w' ∧ StepOk base G ρ w h (h.alloc (.map [] true)) (.map (some h.next)) v' ρ' w':=by
 let l:Loc:=⟨w.heap.size,0,0⟩;refine ⟨.map (some w.heap.size),ρ.put h.next l,w.alloc (.map #[] 0),fun o ho=>.inl ?_,⟨Agree.put _ _ _,.map h.next l (by simp [Ren.put]) rfl,?_,?_⟩⟩
 ·simp [execOp,ho,Instr.makeMap]
 ·refine Sim.congr (hS.alloc h.next (.map [] true) l hid (Nat.le_refl _) (by simp [l]) (fun b hb=>heap_alloc_old w _ b hb) (by simp) ?_) (wt hG _);exact ⟨#[],0,heap_alloc_new w _,rfl,by simp,by simp,fun _=>hS.size⟩
 ·exact ⟨by simp,fun b hb=>heap_alloc_old w _ b (Nat.lt_of_lt_of_le hb hS.size),rfl,rfl,rfl,fun a _=>Zg w _ (.inr (by simp)) a⟩
theorem zr6 {s d e:TypeId}{x:Operand}(h1:P.underlying s=some .string) (h2:P.underlying d=some (.slice e)) (h3:P.underlying e=some (.int .u8)){vs:List Value}(hv:VRs ρ vs ([x].map ev)){base:Nat}{G:Nat→Option AObj}{w:World}
  (hS:Sim base G ρ w){h h' : Heap}(hG:h.into G){v:Value}(hw:aW .strBytes vs h=some (v,h')) (hfr:Fresh ρ h.next h'.next):∃ v' ρ' w',zb5 P ev (.convert s d x) w v' w' ∧ StepOk base G ρ w h h' v v' ρ' w':=by
 obtain ⟨a,rfl,ha⟩:=VRs.one_r hv;cases a<;>simp only [aW] at hw<;>first | (cases hw;done) | skip
 rename_i t;cases hw;have e1:=ha.str;have hid:ρ h.next=none:=hfr h.next (Nat.le_refl _) (by simp);let l:Loc:=⟨w.heap.size,0,(Lib.bytesCells w e t).size⟩;have hbel:=Lib.bytesWorld_below w e t;have hsz:(Lib.bytesCells w e t).size=grownCap w t.size 0 e:=by
  have:=grownCap_ge w t.size 0 e;unfold Lib.bytesCells;rw [Array.size_append,Array.size_map,Array.size_replicate];have e0:t.data.size=t.size:=rfl;omega
 have hge:=grownCap_ge w t.size 0 e;refine ⟨.slice (some ⟨w.heap.size,0,none⟩) t.size (grownCap w t.size 0 e),ρ.put h.next l,Lib.bytesWorld w e t,fun o ho=>.inl ?_,⟨Agree.put _ _ _,?_,?_,?_⟩⟩
 ·simp [execOp,ho,e1,Lib.run_convert_string_bytes w s d e t h1 h2 h3]
 ·refine .slice h.next 0 0 t.size 1 _ l (by simp [Ren.put]) hge (.inl ⟨rfl,?_⟩);show 0 + 0 + grownCap w t.size 0 e * 1≤(Lib.bytesCells w e t).size;omega
 ·refine Sim.congr (hS.alloc h.next _ l hid (Nat.le_refl _) (by simp [l,Lib.bytesWorld_size]) (fun b hb=>Lib.bytesWorld_at_old w e t b hb) (by simp [Lib.bytesWorld_size]) ?_) (wt hG _);refine ⟨_,_,_,Lib.bytesWorld_at_new w e t,rfl,?_,fun i v hv=>?_,fun h=>by cases h⟩
  ·have e0:t.data.size=t.size:=rfl;show 0 + (t.data.toList.map _).length≤(Lib.bytesCells w e t).size;rw [List.length_map,Array.length_toList];omega
  ·refine ⟨v,?_,?_,?_⟩
   ·have hi:=(List.getElem?_eq_some_iff.1 hv).1;have hi2:i < t.data.size:=by simpa using hi
    simp only [l,Nat.zero_add,Lib.bytesCells];rw [Array.getElem?_append_left (by simpa using hi2)];simpa using hv
   ·have:=List.mem_of_getElem? hv;obtain ⟨b,_,rfl⟩:=List.mem_map.1 this;exact .same _ rfl
   ·have:=List.mem_of_getElem? hv;obtain ⟨b,_,rfl⟩:=List.mem_map.1 this;rfl
 ·refine ⟨by simp [Lib.bytesWorld_size],fun b hb=>Lib.bytesWorld_at_old w e t b (Nat.lt_of_lt_of_le hb hS.size),hbel.tape,hbel.os,hbel.output,fun a ha=>?_⟩;simp only [World.frozen?,Lib.bytesWorld_at_old w e t a.block (Nat.lt_of_lt_of_le ha hS.size)]
theorem yq3 {t k e:TypeId}{xa xk xv:Operand}(ht:P.underlying t=some (.map k e)) (hk:keyed? P k=true){vs:List Value}(hv:VRs ρ vs ([xa,xk,xv].map ev)){base:Nat}{G:Nat→Option AObj}{w:World}
  (hS:Sim base G ρ w){h h' : Heap}(hG:h.into G){v:Value}(hw:Zl (yu P k) h vs=some (v,h')):∃ w',zb5 P ev (.mapUpdate t xa xk xv) w undef w' ∧ StepOk base G ρ w h h' v undef ρ w':=by
 obtain ⟨m,x,y,rfl,hm,hx,hy⟩:=VRs.three_r hv;unfold Zl at hw;split at hw<;>first | (cases hw;done) | skip
 rename_i id key val heq;cases heq;split at hw<;>first | (cases hw;done) | skip
 rename_i es hGh;split at hw<;>first | (cases hw;done) | skip
 rename_i hc;simp only [Bool.and_eq_true] at hc;cases hw;obtain ⟨l,hl,e1,hsh⟩:=hm.map_inv;have hGi:=hG id _ hGh;obtain ⟨es',clock,h1,h2,h3,h4,h5⟩:=zs8 (hS.obj id _ l hGi hl);have hbase:=h5 rfl;have hkf:wy x=true:=by have:=hc.1;simp only [yu,Bool.and_eq_true] at this;exact this.1
 have ex:ev xk=x:=Qn hkf hx;have K:=ze0 hk;have hkl:∃ kl,keyOf P k x=some kl:=by have:=hc.1;simp only [yu,Bool.and_eq_true,Option.isSome_iff_exists] at this;exact this.2
 obtain ⟨kl,hkl⟩:=hkl;have hchk:=K.check w false hkl;have hstay:=K.stays w hkl;have key:∀ es2:Array MapEntry,∀ clock2,ObjR base ρ (w.putObj l.b (.map es2 clock2)) l (.map (Z4 es x y) true)→(∀ o:Oper,o.op = .mapUpdate t xa xk xv→(execOp ev o).run P w = .ok .skip (w.putObj l.b (.map es2 clock2))) →
   ∃ w',zb5 P ev (.mapUpdate t xa xk xv) w undef w' ∧ StepOk base G ρ w h (h.set id (.map (Z4 es x y) true)) undef undef ρ w':=by
  intro es2 clock2 ho hrun;refine ⟨w.putObj l.b (.map es2 clock2),fun o hop=>.inr ⟨hrun o hop,rfl⟩,⟨Agree.refl _ _ _,.same _ rfl,?_,?_⟩⟩
  ·exact Sim.congr (hS.write id _ (.map (Z4 es x y) true) l hGi hl rfl (by simp [World.putObj]) (fun b hb=>World.putObj_heap_other hb) ho) (um hG hGh _)
  ·exact ⟨by simp [World.putObj],fun b hb=>World.putObj_heap_other (by omega),rfl,rfl,rfl,fun a _=>Kk h1 (by simp) (by simp) a⟩
 have hlt:l.b < w.heap.size:=(Array.getElem?_eq_some_iff.1 h1).1;rcases yt3 K h2 h3 h4 hc.1 hc.2 w with ⟨f1,fn,f2⟩ | ⟨i,en,en',f1,f2,f3,f4,f5,f6,f7⟩
 ·refine key (es'.push { key:=x,val:=ev xv,born:=clock }) (clock + 1) ?_ fun o ho=>?_
  ·refine ⟨_,_,World.putObj_heap_same hlt,?_,?_,?_,fun _=>hbase⟩
   ·simp [Z4,f2,h2]
   ·intro j ee hj;simp only [Z4,f2] at hj;by_cases hjl:j < es.length
    ·rw [List.getElem?_append_left hjl] at hj;obtain ⟨e',a,b⟩:=h3 j ee hj;exact ⟨e',by rw [Array.getElem?_push_lt (by omega)];simpa [Array.getElem?_eq_getElem (show j < es'.size by omega)] using a,b⟩
    ·have hje:j=es.length:=by
      have:=(List.getElem?_eq_some_iff.1 hj).1;simp at this;omega
     subst hje;rw [List.getElem?_append_right (Nat.le_refl _)] at hj;simp at hj;subst hj;exact ⟨{ key:=x,val:=ev xv,born:=clock },by rw [h2];simp,by show VR ρ x x;rw [ex] at hx;exact hx,hy⟩
   ·intro i j a b hi hj hab;rw [Array.getElem?_push] at hi hj;split at hi<;>split at hj
    ·omega
    ·cases hi
     exact absurd hab.symm (fn b (Array.mem_toList_iff.2 (Array.mem_of_getElem? hj)))
    ·cases hj
     exact absurd hab (fn a (Array.mem_toList_iff.2 (Array.mem_of_getElem? hi)))
    ·exact h4 i j a b hi hj hab
  ·simp [execOp,ho,Instr.mapUpdate,run_underlying ht,e1,ex,getObj,setObj,Sem.run,h1,hchk,f1,World.putObj]
 ·refine key (es'.modify i fun e=>{ e with key:=x,val:=ev xv }) clock ?_ fun o ho=>?_
  ·refine ⟨_,_,World.putObj_heap_same hlt,?_,?_,?_,fun _=>hbase⟩
   ·simp [Z4,f2,h2]
   ·intro j ee hj;simp only [Z4,f2,List.getElem?_set] at hj;rw [Array.getElem?_modify];split at hj
    ·rename_i hij;subst hij;split at hj<;>first | (cases hj;done) | skip
     cases hj
     exact ⟨{ en' with key:=x,val:=ev xv },by simp [f4],by show VR ρ x x;rw [ex] at hx;exact hx,hy⟩
    ·rename_i hij;obtain ⟨e',a,b⟩:=h3 j ee hj;exact ⟨e',by simp [hij,a],b⟩
   ·intro p q a b hp hq hab;have kk:∀ (p:Nat) a,(es'.modify i fun e=>{ e with key:=x,val:=ev xv })[p]? = some a → ∃ a',es'[p]? = some a' ∧ a'.key=a.key:=by
     intro p a hp;rw [Array.getElem?_modify] at hp;split at hp
     ·rename_i hip;subst hip;rw [f4] at hp;cases hp;exact ⟨_,f4,f5⟩
     ·exact ⟨a,hp,rfl⟩
    obtain ⟨a',ha,ea⟩:=kk p a hp;obtain ⟨b',hb,eb⟩:=kk q b hq;exact h4 p q a' b' ha hb (by rw [ea,eb,hab])
  ·have hold:((es'[i]?).map (·.key)).getD x=x:=by rw [f4];exact f5
   simp [execOp,ho,Instr.mapUpdate,run_underlying ht,e1,ex,getObj,setObj,Sem.run,h1,hchk,f1,World.putObj,f4,f5,hstay]
abbrev iI (z:Int):Value:=.int .i64 z
abbrev pT (a b:Nat):Value:=.pointer (some ⟨a,b,none⟩)
abbrev vPq:=Value→Heap→Prop
abbrev lVq:=List Value
abbrev lBq:=List UInt8
abbrev s0q:Value:=.string ⟨#[]⟩
abbrev nSq:Value:=.slice none 0 0
abbrev udq:Value:=undef
end Go.Eng
