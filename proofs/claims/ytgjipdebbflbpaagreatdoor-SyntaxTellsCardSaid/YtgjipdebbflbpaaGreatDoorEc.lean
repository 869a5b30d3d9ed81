/-
  Part of a proof of the laws of layer 06 (syntax): an order-free machine for the code, and that it is sound.
  Conditions: none.
-/
import Derived.Test.YtgjipdebbflbpaaGreatDoorEb
import Derived.WalkKit
import Derived.ProofKit
import Derived.OpenShut
import Derived.JoinedCond
import Derived.Carry
import Derived.Deep.Slices
import Derived.KernelRfl
import Derived.Sort.Grow
import Derived.RecoverIn
set_option linter.unusedSimpArgs false
set_option linter.unusedVariables false
namespace Go.Eng
open Go
variable {P:Program}
def zg7 (v:Value):List PanicEntry:=[{ v:=v,recovered:=false }]
def PanT (P:Program) (f:FuncId) (args:List Value) (h:Heap) (v:Value) (h' : Heap):Prop :=
 zl8 P f∧h.step h' ∧ ∀ (base:Nat) (G:Nat→Option AObj) (ρ:Ren) (w:World) (args' : List Value),0 < w.heap.size→h.into G→Fresh ρ h.next h'.next→Sim base G ρ w→VRs ρ args args' →
  Calls P f args'.toArray w fun e w'=>∃ v' ρ',e = .panicked (zg7 v')∧StepOk base G ρ w h h' v v' ρ' w'
def freeOp (s:SOp):Bool:=match s.k,s.args,s.g with
 | .a (.new _),[],none=>true
 | _,_,_=>false
def deadOne (q:Bool) (fl:List Nat) (s:SOp):Bool:=s.k.isE || (s.k.isR && !q) || s.args.any (fun | .t d=>fl.getD d 0 == 1 | _=>false) || (match s.g with | some (d,_)=>fl.getD d 0 == 1 | none=>false)
def argKn (fl:List Nat):Arg→Bool
 | .t d=>fl.getD d 2 == 0
 | _=>true
def zq1 (q:Bool):List Nat→List SOp→List Nat→List Value→List Value→Heap→Prop
 | _,[],_,_,_,_=>True
 | fl,s::r,D,ts,env,h =>
  match deadOne q fl s with
  | true=>zq1 q (1::fl) r D (undef::ts) env h
  | false=>match s.g,s.k with
   | none,.p k=>s.args.all (argKn fl)=true ∧ ∃ vs v,evs ts env s.args=some vs∧aP k vs=some v∧zq1 q (0::fl) r D (v::ts) env h
   | none,.r (.load a z)=>s.args.all (argKn fl)=true ∧ ∃ vs v,evs ts env s.args=some vs∧aR (.load a z) vs h.get=some v∧okD D vs∧zq1 q (0::fl) r D (v::ts) env h
   | none,.a (.new _)=>s.args=[]∧zq1 q (2::fl) r D (undef::ts) env h
   | _,_=>False
def Heap.pad (h:Heap) (n:Nat):Heap where
 next:=h.next + n
 get:=fun id=>if h.next≤id∧id < h.next + n then some .dead else h.get id
 wf:=fun id hid=>by
  have h1:¬ (h.next≤id∧id < h.next + n):=by omega
  simp only [h1,if_false];exact h.wf id (by omega)
structure EndsP (h h' : Heap) (base:Nat) (G:Nat→Option AObj) (ρ:Ren) (w:World) (a:Act) (v:Value) (a' : Act) (ρ' : Ren) (w' : World) (v' : Value):Prop where
 agree:Agree ρ ρ' h.next h'.next
 val:VR ρ' v v'
 defers:a'.defers=a.defers
 sim:Sim base (Zi h' G) ρ' w'
 step:WStep base w w'
section
variable {ops:Array Oper}{sops:List SOp}{nd:Nat→List Nat}{hs:Nat→Heap}{vq:Nat→Value}{env:List Value}{vars:List Nat}{N:Nat}{base:Nat}{G0:Nat→Option AObj}{ρ0:Ren}{w0:World}{a0:Act}
variable {live:Nat→Prop}{L:Nat}(C:Ctx P ops sops nd hs vq env vars N base G0 ρ0 w0 live)
include C
end
def CodeP (P:Program) (N:Nat) (vars:List Nat) (c:CCode) (env:List Value) (h:Heap) (v:Value) (h' : Heap):Prop :=
 h.step h' ∧ ∀ code,yw P N vars c code → ∀ (base:Nat) (G:Nat→Option AObj) (ρ:Ren) (w:World) (a:Act) (ro:Option Nat),0 < w.heap.size→h.into G→Fresh ρ h.next h'.next→Sim base G ρ w→EnvR ρ N vars env a.tmps →
  ∀ Q:Exit→Act→World→Prop,(∀ a' ρ' w' v',EndsP h h' base G ρ w a v a' ρ' w' v' → Q (.panic (zg7 v')) a' w')→code.wpIn (Yq ro) 0 P Q a w
section
variable {N:Nat}{vars:List Nat}
inductive LoopNP (P:Program) (N:Nat) (vars:List Nat) (c:CCode):Nat→List Value→Heap→Value→Heap→Prop
 | stop {env h v h1}(t:CodeP P N vars c env h v h1):LoopNP P N vars c 1 env h v h1
 | next {m env h env1 h1 v h2}(t:CodeT P N vars c env h .normal env1 h1) (r:LoopNP P N vars c m env1 h1 v h2):LoopNP P N vars c (m + 1) env h v h2
end
end Go.Eng
namespace Go.Eng
open Go
variable {P:Program}
def CallW (P:Program) (f:FuncId) (args:List Value) (h:Heap) (Q:Value→Heap→Prop):Prop:=∃ v h',CallT P f args h v h' ∧ Q v h'
def Ue (P:Program) (fv:Value) (args:List Value) (h:Heap) (Q:Value→Heap→Prop):Prop:=∃ v h',ValT P fv args h v h' ∧ Q v h'
class PanR where
 R:Value→Heap→Prop
 F:FuncId→Bool
 V:Bool
def PanR.RP (PR:PanR) (v:Value) (h:Heap):Prop:=∀ n,PR.R v (h.pad n)
instance noPan:PanR:=⟨fun _ _=>False,fun _=>false,false⟩
def CallX [PR:PanR] (P:Program) (f:FuncId) (args:List Value) (h:Heap) (post:Prop) (Q:Value→Heap→Prop):Prop:=CallW P f args h Q∨(PR.F f=true∧post ∧ ∃ v h',PanT P f args h v h' ∧ PR.RP v h')
def PanV (P:Program) (fv:Value) (args:List Value) (h:Heap) (v:Value) (h' : Heap):Prop:=match fv with
 | .func (.func f) first cap=>PanT P f (first.toList++args++cap.toList) h v h'
 | _=>False
def ValX [PR:PanR] (P:Program) (fv:Value) (args:List Value) (h:Heap) (post:Prop) (Q:Value→Heap→Prop):Prop:=Ue P fv args h Q∨(PR.V=true∧post ∧ ∃ v h',PanV P fv args h v h' ∧ PR.RP v h')
theorem Wr (f:FuncId) (args:List Value) (h:Heap) (post:Prop) (Q:Value→Heap→Prop):CallX P f args h post Q=CallW P f args h Q:=propext ⟨fun h=>h.elim id fun ⟨h,_⟩=>(by cases h),.inl⟩
theorem zb4 (fv:Value) (args:List Value) (h:Heap) (post:Prop) (Q:Value→Heap→Prop):ValX P fv args h post Q=Ue P fv args h Q:=propext ⟨fun h=>h.elim id fun ⟨h,_⟩=>(by cases h),.inl⟩
theorem CallW.val {f:FuncId}{first captured:Array Value}{args:List Value}{h:Heap}{Q:Value→Heap→Prop}(hc:CallW P f (first.toList++args++captured.toList) h Q):Ue P (.func (.func f) first captured) args h Q :=
 let ⟨v,h',t,q⟩:=hc;⟨v,h',t.val,q⟩
def kh {α:Type}(o:Option α) (K:α→Prop):Prop:=match o with | some x=>K x | none=>False
@[simp] theorem Uv {α:Type}(x:α) (K:α→Prop):kh (some x) K=K x:=rfl
def rdK (D:List Nat) (vs:List Value) (o:Option Value):Option Value :=
 match blkOf vs with
 | some id=>if D.contains id then none else o
 | none=>o
def zm1 (D:List Nat) (h:Heap) (Q:List Nat→Value→Heap→Prop):Value→Heap→Prop:=fun v h'=>∃ D',(∀ i ∈ D,i ∈ D')∧h.extD D' h' ∧ Q D' v h'
def turnW (q:Bool) (D:List Nat) (h:Heap) (Q:List Nat→Value→Heap→Prop):Value→Heap→Prop:=match q with | true=>zm1 D h Q | false=>Q D
def ActW [PR:PanR] (P:Program) (k:K) (q:Bool) (D:List Nat) (vs:List Value) (h:Heap) (post:Prop) (Q:List Nat→Value→Heap→Prop):Prop :=
 match k with
 | .p k=>kh (aP k vs) fun v=>Q D v h
 | .r k=>kh (rdK D vs (aR k vs h.get)) fun v=>Q D v h
 | .a k=>kh (aA k vs) fun r=>Q D (r.2 h.next) (h.alloc (.blk r.1 true))
 | .w k=>kh (aW k vs h) fun r=>turnW q D h Q r.1 r.2
 | .call f=>CallX P f vs h post (turnW q D h Q)
 | .callV=>match vs with | fv::args=>ValX P fv args h post (turnW q D h Q) | []=>False
 | .pan=>match vs with | [.iface t x]=>PR.V=true∧post∧PR.RP (.iface t x) h | _=>False
def zx0 (g:Option (Nat × Bool)) (ts:List Value) (yes no:Prop):Prop :=
 match g with
 | none=>yes
 | some (d,want)=>match ts[d]? with
  | some (.bool b)=>(b=want→yes)∧(b = !want→no)
  | some _=>no
  | none=>False
def OpW [PR:PanR] (P:Program) (s:SOp) (post:Prop) (D:List Nat) (ts env:List Value) (h:Heap) (Q:List Nat→Value→Heap→Prop):Prop :=
 zx0 s.g ts (kh (evs ts env s.args) fun vs=>ActW P s.k s.q D vs h post Q) (Q D undef h)
def RegW [PR:PanR] (P:Program):List SOp→List Nat→List Value→List Value→Heap→(List Value→Heap→Prop)→Prop
 | [],_,ts,_,h,Q=>Q ts h
 | s::r,D,ts,env,h,Q=>OpW P s (zq1 s.q (1::List.replicate ts.length 0) r D (undef::ts) env h) D ts env h fun D1 v h1=>RegW P r D1 (v::ts) env h1 Q
theorem Jg {q:Bool}{D:List Nat}{h h' : Heap}{Q:List Nat→Value→Heap→Prop}{v:Value}(ht:turnW q D h Q v h'):∃ D',(∀ i ∈ D,i ∈ D')∧(q=true→h.extD D' h')∧Q D' v h':=by
 cases q with
 | true=>obtain ⟨D',h1,h2,h3⟩:=ht;exact ⟨D',h1,fun _=>h2,h3⟩
 | false=>exact ⟨D,fun _ h=>h,(fun e=>by cases e),ht⟩
theorem zg3 {D:List Nat}{vs:List Value}{o:Option Value}{v:Value}(h:rdK D vs o=some v):o=some v∧okD D vs:=by
 unfold rdK at h
 unfold okD
 split at h
 ·rename_i id hid
  split at h
  ·cases h
  ·rename_i hc
   refine ⟨h,fun id' hid'=>?_⟩
   rw [hid] at hid';cases hid'
   simpa using hc
 ·rename_i hid
  exact ⟨h,fun id' hid'=>by rw [hid] at hid';cases hid'⟩
theorem ActW.sound {k:K}{q:Bool}{D:List Nat}{vs:List Value}{h:Heap}{post:Prop}{Q:List Nat→Value→Heap→Prop}(ha:ActW P k q D vs h post Q):∃ v h' D',ActT P k vs h v h' ∧ (∀ i ∈ D,i ∈ D')∧(q=true→h.extD D' h')∧(k.isR=true→okD D vs)∧Q D' v h':=by
 have keep:∀ i ∈ D,i ∈ D:=fun _ h=>h
 unfold ActW at ha
 split at ha
 ·rename_i k
  cases hx:aP k vs with
  | none=>rw [hx] at ha;exact ha.elim
  | some v=>rw [hx] at ha;exact ⟨v,h,D,⟨hx,rfl⟩,keep,fun _ id o _ hg=>.inl hg,(fun e=>by simp [K.isR] at e),ha⟩
 ·rename_i k
  cases hx:rdK D vs (aR k vs h.get) with
  | none=>rw [hx] at ha;exact ha.elim
  | some v=>rw [hx] at ha;exact ⟨v,h,D,⟨(zg3 hx).1,rfl⟩,keep,fun _ id o _ hg=>.inl hg,fun _=>(zg3 hx).2,ha⟩
 ·rename_i k
  cases hx:aA k vs with
  | none=>rw [hx] at ha;exact ha.elim
  | some r=>rw [hx] at ha;exact ⟨_,_,D,⟨r.1,r.2,hx,rfl,rfl⟩,keep,fun _ id o _ hg=>.inl (by rw [Heap.get_alloc_lt (Heap.lt_of_get hg)];exact hg),(fun e=>by simp [K.isR] at e),ha⟩
 ·rename_i k
  cases hx:aW k vs h with
  | none=>rw [hx] at ha;exact ha.elim
  | some r =>
   rw [hx] at ha
   obtain ⟨D',h1,h2,h3⟩:=Jg ha
   exact ⟨_,_,D',hx,h1,h2,(fun e=>by simp [K.isR] at e),h3⟩
 ·rw [Wr] at ha
  obtain ⟨v,h',ht,hq⟩:=ha
  obtain ⟨D',h1,h2,h3⟩:=Jg hq
  exact ⟨v,h',D',ht,h1,h2,(fun e=>by simp [K.isR] at e),h3⟩
 ·split at ha
  ·rw [zb4] at ha
   obtain ⟨v,h',ht,hq⟩:=ha
   obtain ⟨D',h1,h2,h3⟩:=Jg hq
   exact ⟨v,h',D',ht,h1,h2,(fun e=>by simp [K.isR] at e),h3⟩
  ·exact ha.elim
 ·split at ha
  ·cases ha.1
  ·exact ha.elim
theorem OpW.sound {s:SOp}{D:List Nat}{ts env:List Value}{h:Heap}{post:Prop}{Q:List Nat→Value→Heap→Prop}(ha:OpW P s post D ts env h Q):∃ v h' D',OpT P s D ts env h v h' D' ∧ Q D' v h':=by
 have yes:kh (evs ts env s.args) (fun vs=>ActW P s.k s.q D vs h post Q)→Zh s.g ts=some true → ∃ v h' D',OpT P s D ts env h v h' D' ∧ Q D' v h':=by
  intro hy hw
  cases hx:evs ts env s.args with
  | none=>rw [hx] at hy;exact hy.elim
  | some vs =>
   rw [hx] at hy
   obtain ⟨v,h',D',h1,h2,h3,h4,h5⟩:=ActW.sound hy
   exact ⟨v,h',D',⟨true,hw,h2,by simpa using ⟨vs,hx,h1,h3,h4⟩⟩,h5⟩
 have no:Q D undef h→Zh s.g ts=some false → ∃ v h' D',OpT P s D ts env h v h' D' ∧ Q D' v h':=fun hn hw=>⟨undef,h,D,⟨false,hw,fun _ h=>h,by simp⟩,hn⟩
 unfold OpW zx0 at ha
 split at ha
 ·rename_i hg;exact yes ha (by rw [hg];rfl)
 ·rename_i d want hg
  split at ha
  ·rename_i b hb
   by_cases e:b=want
   ·exact yes (ha.1 e) (by rw [hg];simp [Zh,hb,e])
   ·exact no (ha.2 (by cases b<;>cases want<;>simp_all)) (by rw [hg];simp [Zh,hb,e])
  ·rename_i v hnb hv
   refine no ha ?_
   rw [hg]
   simp only [Zh,hv,Option.map_some]
  ·exact ha.elim
theorem RegW.sound:∀ {l:List SOp}{D:List Nat}{ts env:List Value}{h:Heap}{Q:List Value→Heap→Prop},RegW P l D ts env h Q → ∃ ts' h',RegT P l D ts env h ts' h' ∧ Q ts' h'
 | [],D,ts,env,h,Q,hr=>⟨ts,h,⟨rfl,rfl⟩,hr⟩
 | s::r,D,ts,env,h,Q,hr=>by
  obtain ⟨v,h1,D1,ho,hr⟩:=OpW.sound hr
  obtain ⟨ts',h',h2,h3⟩:=RegW.sound hr
  exact ⟨ts',h',⟨v,h1,D1,ho,h2⟩,h3⟩
def zq2 (P:Program) (N:Nat) (vars:List Nat) (c:CCode) (env:List Value) (h:Heap) (Q:AExit→List Value→Heap→Prop):Prop:=∃ x env' h',CodeT P N vars c env h x env' h' ∧ Q x env' h'
def LoopW [PR:PanR] (P:Program) (N:Nat) (vars:List Nat) (c:CCode) (env:List Value) (h:Heap) (Q:AExit→List Value→Heap→Prop):Prop:=(∃ x env' h',LoopT P N vars c env h x env' h' ∧ Q x env' h') ∨ ∃ m v h',LoopNP P N vars c m env h v h' ∧ PR.RP v h'
def Kq (next:List Value→Heap→Prop) (Q:AExit→List Value→Heap→Prop):AExit→List Value→Heap→Prop
 | .normal,e,h=>next e h
 | .exit i,e,h=>Q (.exit i) e h
 | .ret,e,h=>Q .ret e h
def Qa (id:Nat) (Q:AExit→List Value→Heap→Prop):AExit→List Value→Heap→Prop
 | .normal,e,h=>Q .normal e h
 | .exit i,e,h=>Q (if i=id then .normal else .exit i) e h
 | .ret,e,h=>Q .ret e h
def zd1 (v:Option Value) (yes no:Prop):Prop :=
 match v with
 | some (.bool b)=>(b=true→yes)∧(b=false→no)
 | _=>False
def zp8 (P:Program) (N:Nat) (vars ps:List Nat) (a b:CCode) (env:List Value) (L:Nat) (Q:AExit→List Value→Heap→Prop) (h:Heap):Prop :=
 ∃ st x,h.get L=some (.loop env vars N (okOf P N vars ps a b) st (zh0 x))∧st ≠ .busy∧Q x env (h.set L .dead)
def RangeW (P:Program) (N:Nat) (vars ps:List Nat) (a b:CCode) (fv:Option Value) (env:List Value) (h:Heap) (Q:AExit→List Value→Heap→Prop):Prop :=
 match fv with
 | some (.func (.func f) first cap)=>CallW P f (first.toList++[.func (.yield (h.next + 1)) #[] #[]]++cap.toList) (kg P N vars ps a b env h) fun _ h2=>zp8 P N vars ps a b env (h.next + 1) Q h2
 | _=>False
def W [PR:PanR] (P:Program) (N:Nat) (vars:List Nat):CCode→(AExit→List Value→Heap→Prop)→List Value→Heap→Prop
 | .skip,Q,e,h=>Q .normal e h
 | .reg s o,Q,e,h=>RegW P s [] [] e h fun ts h1=>Q .normal (upd ts o e) h1
 | .seq a b,Q,e,h=>W P N vars a (Kq (W P N vars b Q) Q) e h
 | .rcond s o d a b,Q,e,h=>RegW P s [] [] e h fun ts h1=>zd1 ts[d]? (W P N vars a Q (upd ts o e) h1) (W P N vars b Q (upd ts o e) h1)
 | .cond x a b,Q,e,h=>zd1 (x.ev [] e) (W P N vars a Q e h) (W P N vars b Q e h)
 | .block id c,Q,e,h=>W P N vars c (Qa id Q) e h
 | .loop c,Q,e,h=>LoopW P N vars c e h Q
 | .exit id,Q,e,h=>Q (.exit id) e h
 | .ret,Q,e,h=>Q .ret e h
 | .scope c,Q,e,h=>W P N vars c Q e h
 | .label,Q,e,h=>Q .normal e h
 | .never,_,_,_=>False
 | .range g ps a b,Q,e,h=>RangeW P N vars ps a b (g.ev [] e) e h Q
theorem W.sound {N:Nat}{vars:List Nat}:∀ {c:CCode}{Q:AExit→List Value→Heap→Prop}{e:List Value}{h:Heap},W P N vars c Q e h→zq2 P N vars c e h Q
 | .skip,Q,e,h,hw=>⟨_,_,_,CodeT.skip,hw⟩
 | .reg s o,Q,e,h,hw=>by
  obtain ⟨ts,h1,hr,hq⟩:=RegW.sound hw
  exact ⟨_,_,_,CodeT.reg hr,hq⟩
 | .seq a b,Q,e,h,hw=>by
  obtain ⟨x,e1,h1,ht,hq⟩:=W.sound (c:=a) hw
  cases x with
  | normal =>
   obtain ⟨x2,e2,h2,ht2,hq2⟩:=W.sound (c:=b) hq
   exact ⟨_,_,_,ht.seq ht2,hq2⟩
  | exit i=>exact ⟨_,_,_,ht.seq_exit (by simp),hq⟩
  | ret=>exact ⟨_,_,_,ht.seq_exit (by simp),hq⟩
 | .rcond s o d a b,Q,e,h,hw=>by
  obtain ⟨ts,h1,hr,hq⟩:=RegW.sound hw
  unfold zd1 at hq
  split at hq<;>first | (exact hq.elim) | skip
  rename_i v hv
  cases v with
  | true =>
   obtain ⟨x,e2,h2,ht,hq2⟩:=W.sound (c:=a) (hq.1 rfl)
   exact ⟨_,_,_,CodeT.rcond hr hv (by simpa using ht),hq2⟩
  | false =>
   obtain ⟨x,e2,h2,ht,hq2⟩:=W.sound (c:=b) (hq.2 rfl)
   exact ⟨_,_,_,CodeT.rcond hr hv (by simpa using ht),hq2⟩
 | .cond y a b,Q,e,h,hw=>by
  simp only [W] at hw
  unfold zd1 at hw
  split at hw<;>first | (exact hw.elim) | skip
  rename_i v hv
  cases v with
  | true =>
   obtain ⟨x,e2,h2,ht,hq2⟩:=W.sound (c:=a) (hw.1 rfl)
   exact ⟨_,_,_,CodeT.cond hv (by simpa using ht),hq2⟩
  | false =>
   obtain ⟨x,e2,h2,ht,hq2⟩:=W.sound (c:=b) (hw.2 rfl)
   exact ⟨_,_,_,CodeT.cond hv (by simpa using ht),hq2⟩
 | .block id c,Q,e,h,hw=>by
  obtain ⟨x,e1,h1,ht,hq⟩:=W.sound (c:=c) hw
  refine ⟨_,_,_,ht.block,?_⟩
  cases x with
  | normal=>exact hq
  | ret=>exact hq
  | exit i=>simpa [Qa] using hq
 | .loop c,Q,e,h,hw=>by
  rcases hw with ⟨x,e1,h1,ht,hq⟩ | ⟨_,_,_,_,h⟩
  ·exact ⟨_,_,_,CodeT.loop ht,hq⟩
  ·exact (h 0).elim
 | .exit id,Q,e,h,hw=>⟨_,_,_,CodeT.exit,hw⟩
 | .ret,Q,e,h,hw=>⟨_,_,_,CodeT.ret,hw⟩
 | .scope c,Q,e,h,hw=>by
  obtain ⟨x,e1,h1,ht,hq⟩:=W.sound (c:=c) hw
  exact ⟨_,_,_,ht.scope,hq⟩
 | .label,Q,e,h,hw=>⟨_,_,_,CodeT.label,hw⟩
 | .never,_,_,_,hw=>hw.elim
 | .range g ps a b,Q,e,h,hw=>by
  simp only [W] at hw
  unfold RangeW at hw
  split at hw<;>first | (exact hw.elim) | skip
  rename_i f first cap hg
  obtain ⟨v,h2,hc,st,x,hL,hst,hq⟩:=hw
  exact ⟨x,e,_,CodeT.range hg hc hL hst,hq⟩
section
variable {PR:PanR}
def CodeX [PR:PanR] (P:Program) (N:Nat) (vars:List Nat) (c:CCode) (env:List Value) (h:Heap) (Q:AExit→List Value→Heap→Prop):Prop:=zq2 P N vars c env h Q ∨ ∃ v h',CodeP P N vars c env h v h' ∧ PR.RP v h'
theorem LoopW.roundX {N:Nat}{vars:List Nat}{c:CCode}{e:List Value}{h:Heap}{Q:AExit→List Value→Heap→Prop}(R:List Value→Heap→Prop) (hw:CodeX P N vars c e h (Kq R Q)) (hR:∀ e1 h1,R e1 h1→LoopW P N vars c e1 h1 Q):LoopW P N vars c e h Q:=by
 rcases hw with ⟨x,e1,h1,ht,hq⟩ | ⟨v,h',h1,h2⟩
 ·cases x with
  | normal =>
   rcases hR _ _ hq with ⟨x2,e2,h2,⟨m,ht2⟩,hq2⟩ | ⟨m,v,h',h2,h3⟩
   ·exact .inl ⟨_,_,_,.next ht ⟨m,ht2⟩,hq2⟩
   ·exact .inr ⟨_,v,h',.next ht h2,h3⟩
  | exit i=>exact .inl ⟨_,_,_,.stop ht (by simp),hq⟩
  | ret=>exact .inl ⟨_,_,_,.stop ht (by simp),hq⟩
 ·exact .inr ⟨1,v,h',.stop h1,h2⟩
end
def RetQ (cf:CFn) (n:Nat) (Q:Value→Heap→Prop):AExit→List Value→Heap→Prop
 | .exit _,_,_=>False
 | .normal,e,h=>kh (xi e (fin cf.body.noRange n h) cf.results) fun vs=>Q (jy vs) (fin cf.body.noRange n h)
 | .ret,e,h=>kh (xi e (fin cf.body.noRange n h) cf.results) fun vs=>Q (jy vs) (fin cf.body.noRange n h)
end Go.Eng
namespace Go.Eng
open Go Go.ChangeShapes Go.WideShapes Go.ChangeAt Go.RowKit
variable {P:Program}{H:Type}{enc:TypeId × Value→H}
theorem WStep.below {w w' : World}(h:WStep w.heap.size w w'):Below w.heap.size w w':=⟨h.os,h.tape,h.output,h.size,h.low⟩
theorem WStep.kept {w w' : World}(h:WStep w.heap.size w w') (may:MemPlace→Prop):w.keptBut w' may:=by
 refine ⟨h.os,h.output,fun i hi=>?_⟩
 rw [h.low i hi]
 generalize w.heap[i]? = o
 cases o with
 | none=>rfl
 | some o=>cases o<;>first | exact ⟨rfl,rfl,rfl,fun _ _=>rfl⟩ | exact .inr ⟨rfl,rfl⟩ | rfl
theorem Yt (hl:laidOutB P=true){W W' : World}(hb:Below W.heap.size W W'){sp:Nat→Bool}:∀ {ts:List TypeId}{vs:List Value}{ds:List (DataW H)}{ps:List MemPlace},(∀ t ∈ ts,P.readableRec t=true∧t < P.types.size) →
  DataW.TrodAll enc P W 0 (fun _=>true) true ts vs ds ps→(∀ x ∈ ps,x.block < W.heap.size)→(∀ x ∈ ps,sp x.block=true)→DataW.TrodAll enc P W' 0 sp true ts vs ds ps
 | [],vs,ds,ps,_,h,_,_=>by
  obtain ⟨rfl,rfl,rfl⟩:=trodAll_nil h
  exact trodAll_mk0
 | t::ts,vs,ds,ps,ht,h,hlt,hsp=>by
  obtain ⟨v,vs',d,ds',p,q,rfl,rfl,rfl,h0,hr⟩:=trodAll_cons h
  have h1:=ht t (by simp)
  refine trodAll_cons_mk (WideElems.Trod_stays hl h1.1 h1.2 h0 (fun x hx=>hb.same (hlt x (by simp [hx]))) (fun x hx=>hsp x (by simp [hx]))) ?_
  exact Yt hl hb (fun t' ht'=>ht t' (by simp [ht'])) hr (fun x hx=>hlt x (by simp [hx])) (fun x hx=>hsp x (by simp [hx]))
theorem zu4 {f:Func}{s:ChangeSpec}{apart fresh handsOn again:Bool}{W W' : World}{args:Array Value}{ds gs:List (DataW H)}{before:List MemPlace}{tb:TypeId}(hl:laidOutB P=true) (hres:f.resultTypes = #[tb]) (htb:P.underlying tb=some .bool)
  (hp:∀ t ∈ f.params.toList,P.readableRec t=true∧t < P.types.size) (hv:s.vars=[])
  (hW:DataW.Whole enc P f.params.toList s.vars apart W args.toList ds gs before) (hsr:(s.fn H (ds++gs)).results=[.lit (.bool true)]) (hsa:(s.fn H (ds++gs)).args=ds) (hsv:(s.fn H (ds++gs)).vars=[])
  (hst:WStep W.heap.size W W'):s.post enc P f apart fresh handsOn again W args (.bool true) W':=by
 have hW2:=hW
 obtain ⟨p,q,hA,hV,rfl,hfz,hnd⟩:=hW
 rw [hv] at hV
 obtain ⟨rfl,rfl⟩:=trodVars_none hV
 have hlt:∀ x ∈ p++[],x.block < W.heap.size:=fun x hx=>hW2.lt x hx
 have hargs:∀ sp:Nat→Bool,(∀ x ∈ p++[],sp x.block=true)→DataW.TrodAll enc P W' 0 sp true f.params.toList args.toList (s.fn H (ds++[])).args p:=fun sp hsp=>by
  rw [hsa]
  exact Yt hl hst.below hp hA (fun x hx=>hlt x (by simp [hx])) (fun x hx=>hsp x (by simp [hx]))
 have hresd:∀ (b:Nat) (sp:Nat→Bool) (hd:Bool),DataW.TrodAll enc P W' b sp hd f.resultTypes.toList ((Value.bool true).resultList f.resultTypes.size) (s.fn H (ds++[])).results []:=fun b sp hd=>by
  rw [hres,hsr];exact trodAll_mk1 (shut_bool htb _)
 have hvars:∀ sp:Nat→Bool,DataW.TrodVars enc P W' sp s.vars (s.fn H (ds++[])).vars []:=fun sp=>by rw [hsv,hv];rfl
 have hold:∀ x ∈ p++[],(fun b=>decide (b < W.heap.size)) x.block=true:=fun x hx=>by simpa using hlt x hx
 refine ⟨ds,[],p++[],[],p,[],hW2,hresd _ _ _,hargs _ hold,hvars _,World.keptBut_mono (fun x hx=>⟨hx,.inr (by simpa using hx)⟩) (hst.kept _),fun _=>⟨ok_one hres rfl (okWide_bool_mk htb _),_,_,([]++p)++[],⟨[]++p,[],trodAll_append (hargs _ (fun _ _=>rfl)) (hresd _ _ _),hvars _,rfl,?_,?_⟩,?_⟩⟩
 ·intro b off hx
  have hx' : MemPlace.cell b off ∈ p++[]:=by simpa using hx
  rw [hst.froz _ (hlt _ hx')]
  exact hfz b off hx'
 ·intro ha
  simpa using hnd ha
 ·intro x hx _
  simpa using hx
abbrev Slot:=Option (AObj × Loc)
def Zy (slots:List Slot):Heap where
 next:=slots.length
 get:=fun id=>((slots[id]?).join).map (·.1)
 wf:=fun id hid=>by simp [List.getElem?_eq_none hid]
def X1 (slots:List Slot):Ren:=fun id=>((slots[id]?).join).map (·.2)
def yd1 (W:World) (s:Slot):Prop:=∀ o l,s=some (o,l)→l.b < W.heap.size∧o.own=false ∧ ∀ ρ,ObjR W.heap.size ρ W l o
theorem Sim.start {W:World}{slots:List Slot}(hglob:J6 W.heap.size W) (h:∀ s ∈ slots,yd1 W s):Sim W.heap.size (Zy slots).get (X1 slots) W:=by
 have key:∀ id o l,(Zy slots).get id=some o→X1 slots id=some l→l.b < W.heap.size∧o.own=false ∧ ∀ ρ,ObjR W.heap.size ρ W l o:=by
  intro id o l h1 h2
  simp only [Zy,Option.map_eq_some_iff] at h1
  simp only [X1,Option.map_eq_some_iff] at h2
  obtain ⟨x,hx,rfl⟩:=h1
  obtain ⟨y,hy,rfl⟩:=h2
  rw [hx] at hy;cases hy
  rw [Option.join_eq_some_iff] at hx
  exact h _ (List.mem_of_getElem? hx) x.1 x.2 rfl
 have dom:∀ id,((Zy slots).get id).isSome=(X1 slots id).isSome:=fun id=>by simp [Zy,X1]
 refine ⟨dom,Nat.le_refl _,fun id l hl=>?_,fun id o l hg hl=>(key id o l hg hl).2.2 _,fun i j oi oj li lj gi gj ri rj hne ho hd=>?_,hglob⟩
 ·have h1:=dom id
  rw [hl] at h1
  obtain ⟨o,ho⟩:=Option.isSome_iff_exists.1 h1
  exact (key id o l ho hl).1
 ·rw [(key i oi li gi ri).2.1] at ho;cases ho
theorem calls_of {f:FuncId}{W:World}{args:List Value}{slots:List Slot}{absArgs:List Value}(hglob:J6 W.heap.size W) (hs:∀ s ∈ slots,yd1 W s) (ha:VRs (X1 slots) absArgs args) (hc:CallW P f absArgs (Zy slots) fun v _=>v = .bool true) :
  Calls P f args.toArray W fun e W'=>e = .returned (.bool true)∧WStep W.heap.size W W':=by
 obtain ⟨v,h',ht,rfl⟩:=hc
 have hfr:Fresh (X1 slots) (Zy slots).next h'.next:=fun id h1 _=>by
  simp only [X1];rw [List.getElem?_eq_none h1];rfl
 refine (ht.2.2 W.heap.size (Zy slots).get (X1 slots) W args (fun _ _ h=>h) hfr (Sim.start hglob hs) ha).mono fun e W' ⟨v',ρ',he,hok⟩=>?_
 have:=hok.val.bool
 subst this
 exact ⟨he,hok.step⟩
def ze7 (P:Program) (e c:Nat):Prop:=∀ {H:Type}(enc:TypeId × Value→H) (W:World) (n:Nat) (cells:List Value) (x:DataW H × List MemPlace),DataW.trod enc P W 0 (fun _=>true) true n e cells=some x → ∃ l:List Int,l.length=c∧cells=l.map (.int .i64) ∧ ∀ z ∈ l,(Lit.int .i64 z).wf=true
theorem ze3 {e:TypeId}(he:P.underlying e=some (.int .i64)):ze7 P e 1:=fun enc W n cells x h=>by
 obtain ⟨z,rfl,_,hz⟩:=DataW.trod_int he h
 exact ⟨[z],rfl,rfl,by simpa using hz⟩
theorem chunks (c:Nat) (cells:List Value):∀ (n:Nat),(∀ i,i < n → ∃ l:List Int,l.length=c∧(cells.drop (i * c)).take c=l.map (.int .i64) ∧ ∀ z ∈ l,(Lit.int .i64 z).wf=true) →
  ∃ l:List Int,l.length=n * c∧cells.take (n * c)=l.map (.int .i64) ∧ ∀ z ∈ l,(Lit.int .i64 z).wf=true
 | 0,_=>⟨[],by simp,by simp,by simp⟩
 | n + 1,h=>by
  obtain ⟨l,h1,h2,h3⟩:=chunks c cells n fun i hi=>h i (by omega)
  obtain ⟨m,k1,k2,k3⟩:=h n (by omega)
  refine ⟨l++m,by rw [List.length_append,h1,k1,Nat.succ_mul],?_,?_⟩
  ·rw [Nat.succ_mul,List.take_add,h2,k2,List.map_append]
  ·intro z hz
   rcases List.mem_append.1 hz with hz | hz
   ·exact h3 z hz
   ·exact k3 z hz
def Ya (i n c:Nat) (isNil:Bool):Value:=if isNil then .slice none 0 0 else .slice (some ⟨i,0,none⟩) n c
theorem Je (b off n:Nat):Addr.add ⟨b,off,none⟩ n=⟨b,off + n,none⟩:=by
 by_cases h:n=0
 ·subst h;simp [Addr.add]
 ·simp [Addr.add,h]
theorem Jm {W:World}{t e:TypeId}{c:Nat}{v:Value}{d:DataW H}{p:List MemPlace}{r:Reach}{b0:Nat}(ht:P.underlying t=some (.slice e)) (hc:P.cellsOf e=c) (hc0:0 < c) (he:ze7 P e c) (hval:Value.okWide P W r b0 t v)
  (hd:DataW.Trod enc P W 0 (fun _=>true) true t v d p) :
  ∃ (n:Nat) (l:List Int) (isNil:Bool) (s:Slot),l.length=n * c∧(∀ z ∈ l,(Lit.int .i64 z).wf=true)∧(n:Int)≤9223372036854775807∧(isNil=true→n=0)∧yd1 W s∧(isNil=false → ∃ loc,s=some (.blk (l.map (.int .i64)) false,loc)) ∧
   ∀ (ρ:Ren) (i:Nat),ρ i=s.map (·.2)→VR ρ (Ya i n c isNil) v:=by
 have hval' : Cell.ok P W r b0 t v:=by
  simp only [Value.okWide,ht] at hval
  cases v<;>simpa [Cell.okWide,ht] using hval
 have hone:v.cells.toList=[v]:=by cases v<;>first | rfl | (simp [Cell.ok,ht] at hval';done)
 obtain ⟨fuel,hd⟩:=hd
 rw [hone] at hd
 rcases Deep.open_slice ht hd with ⟨h0,_⟩ | ⟨a,len,cap,m,n,D,Pl,h0,hb,hlc,hcm,hm,_,hx⟩
 ·have:v = .slice none 0 0:=by simpa using h0
  subst this
  exact ⟨0,[],true,none,by simp,by simp,by simp,fun _=>rfl,fun o l h=>by simp at h,fun h=>by simp at h,fun ρ i _=>VR.same _ rfl⟩
 ·have:v = .slice (some a) len cap:=by simpa using h0
  subst this
  simp only [Cell.ok,ht] at hval'
  obtain ⟨_,hcap,_,hspot,row,cells,hsh,_⟩:=hval'
  simp only [if_true] at hm
  subst hm
  unfold World.shape? at hsh
  split at hsh<;>first | (cases hsh;done) | skip
  rename_i cs el fz hheap
  obtain ⟨b,off,spot⟩:=a
  simp only at hspot hheap
  subst hspot
  rw [hc] at hx
  have hcell:∀ j,j < m * c → ∃ z,cs[off + j]? = some z:=by
   intro j hj
   have hi:j / c < m:=(Nat.div_lt_iff_lt_mul hc0).2 hj
   obtain ⟨cs',h1,_⟩:=hx (j / c) hi
   obtain ⟨_,hl,hcc⟩:=World.cells?_some h1
   have hjm:j % c < c:=Nat.mod_lt _ hc0
   have h2:=hcc (j % c) hjm
   rw [List.getElem?_eq_getElem (by omega),Je,Je,cell_of_row W b _ cs el fz hheap] at h2
   refine ⟨cs'[j % c]'(by omega),?_⟩
   ·have e1:off + j / c * c + j % c=off + j:=by rw [Nat.add_assoc,Nat.div_add_mod' j c]
    rw [e1] at h2
    exact h2
  have hsz:m=0∨off + m * c≤cs.size:=by
   rcases Nat.eq_zero_or_pos m with h | h
   ·exact .inl h
   ·right
    have h1:0 < m * c:=Nat.mul_pos h hc0
    obtain ⟨z,hz⟩:=hcell (m * c - 1) (by omega)
    have:=(Array.getElem?_eq_some_iff.1 hz).1
    omega
  have hch:∀ i,i < len → ∃ l:List Int,l.length=c∧((cs.toList.drop off).drop (i * c)).take c=l.map (.int .i64) ∧ ∀ z ∈ l,(Lit.int .i64 z).wf=true:=by
   intro i hi
   obtain ⟨cs',h1,h2⟩:=hx i (by omega)
   obtain ⟨l,k1,k2,k3⟩:=he enc W _ _ _ h2
   refine ⟨l,k1,?_,k3⟩
   rw [← k2]
   obtain ⟨_,hl,hcc⟩:=World.cells?_some h1
   apply List.ext_getElem?
   intro j
   by_cases hj:j < c
   ·have h3:=hcc j hj
    rw [Je,Je,cell_of_row W b _ cs el fz hheap] at h3
    rw [List.getElem?_take_of_lt hj,List.getElem?_drop,List.getElem?_drop,← h3]
    simp [Nat.add_assoc]
   ·rw [List.getElem?_eq_none (by simp;omega),List.getElem?_eq_none (by omega)]
  obtain ⟨l,k1,k2,k3⟩:=chunks c (cs.toList.drop off) len hch
  refine ⟨len,l,false,some (.blk (l.map (.int .i64)) false,⟨b,if m=0 then 0 else off,cs.size⟩),k1,k3,?_,fun h=>(Bool.false_ne_true h).elim,?_,fun _=>⟨_,rfl⟩,fun ρ i hρ=>?_⟩
  ·have:IntKind.i64.max=9223372036854775807:=rfl
   omega
  ·intro o loc h
   cases h
   refine ⟨(Array.getElem?_eq_some_iff.1 hheap).1,rfl,fun ρ=>⟨cs,el,fz,hheap,rfl,?_,fun i v hv=>?_,fun h=>by cases h⟩⟩
   ·simp only [List.length_map,k1]
    rcases hsz with h | h
    ·have:len=0:=by omega
     simp [h,this]
    ·have:len * c≤m * c:=Nat.mul_le_mul_right _ hlc
     split<;>omega
   ·have hil:i < len * c:=by
     have:=(List.getElem?_eq_some_iff.1 hv).1
     simpa [k1] using this
    have hm0:¬ m=0:=fun e=>by
     have:len=0:=by omega
     rw [this] at hil;omega
    simp only [hm0,if_false]
    have hint:∃ z:Int,v = .int .i64 z:=by
     have:=List.mem_of_getElem? hv
     obtain ⟨z,_,rfl⟩:=List.mem_map.1 this
     exact ⟨z,rfl⟩
    obtain ⟨z,rfl⟩:=hint
    rw [← k2,List.getElem?_take_of_lt hil,List.getElem?_drop] at hv
    exact ⟨_,by simpa using hv,.same _ rfl,rfl⟩
  ·refine .slice i 0 off len c m _ hρ hlc ?_
   by_cases hm0:m=0
   ·right;omega
   ·left
    simp only [hm0,if_false]
    rcases hsz with h | h
    ·exact absurd h hm0
    ·exact ⟨by simp,by simpa using h⟩
end Go.Eng
namespace Go.Eng
open Go
variable {P:Program}
def contW [PR:PanR] (P:Program) (r:List SOp) (ts env:List Value) (Q:List Value→Heap→Prop):List Nat→Value→Heap→Prop:=fun D v h=>RegW P r D (v::ts) env h Q
def postK (q:Bool) (r:List SOp) (ts env:List Value) (D:List Nat) (h:Heap):Prop:=zq1 q (1::List.replicate ts.length 0) r D (undef::ts) env h
def zp9 [PR:PanR] (P:Program) (k:K) (q:Bool) (D:List Nat) (h:Heap) (post:Prop) (Q:List Nat→Value→Heap→Prop):List Value→Prop:=fun vs=>ActW P k q D vs h post Q
def opK [PR:PanR] (P:Program) (k:K) (args:List Arg) (q:Bool) (D:List Nat) (ts env:List Value) (h:Heap) (post:Prop) (Q:List Nat→Value→Heap→Prop):Prop:=kh (evs ts env args) (zp9 P k q D h post Q)
def zb1 [PR:PanR] (P:Program) (w:Bool) (k:K) (args:List Arg) (q:Bool) (D:List Nat) (ts env:List Value) (h:Heap) (post:Prop) (Q:List Nat→Value→Heap→Prop):Value→Prop
 | .bool b=>(b=w→opK P k args q D ts env h post Q)∧(b = !w→Q D undef h)
 | _=>Q D undef h
def zc5 (Q:Value→Heap→Prop) (h:Heap):Value→Prop:=fun v=>Q v h
def allocK (Q:Value→Heap→Prop) (h:Heap):List Value × (Nat→Value)→Prop:=fun r=>Q (r.2 h.next) (h.alloc (.blk r.1 true))
def zq7 (Q:Value→Heap→Prop):Value × Heap→Prop:=fun r=>Q r.1 r.2
def regQ (Q:AExit→List Value→Heap→Prop) (o:List (Nat × Nat)) (e:List Value):List Value→Heap→Prop:=fun ts h=>Q .normal (upd ts o e) h
def rcQ [PR:PanR] (P:Program) (N:Nat) (vars:List Nat) (Q:AExit→List Value→Heap→Prop) (o:List (Nat × Nat)) (e:List Value) (d:Nat) (a b:CCode):List Value→Heap→Prop:=fun ts h=>zd1 ts[d]? (W P N vars a Q (upd ts o e) h) (W P N vars b Q (upd ts o e) h)
def cndK [PR:PanR] (P:Program) (N:Nat) (vars:List Nat) (a b:CCode) (Q:AExit→List Value→Heap→Prop) (e:List Value) (h:Heap):Value→Prop
 | .bool c=>(c=true→W P N vars a Q e h)∧(c=false→W P N vars b Q e h)
 | _=>False
section
variable {PR:PanR}
theorem zl7 (D:List Nat) (ts env:List Value) (h:Heap) (Q:List Value→Heap→Prop):RegW P [] D ts env h Q=Q ts h:=rfl
theorem za8 (j:Nat) (k:K) (args:List Arg) (q:Bool) (r:List SOp) (D:List Nat) (ts env:List Value) (h:Heap) (Q:List Value→Heap→Prop) :
  RegW P (⟨j,k,args,none,q⟩::r) D ts env h Q=kh (evs ts env args) (zp9 P k q D h (postK q r ts env D h) (contW P r ts env Q)):=rfl
theorem za7 (j:Nat) (k:K) (args:List Arg) (d:Nat) (w:Bool) (q:Bool) (r:List SOp) (D:List Nat) (ts env:List Value) (h:Heap) (Q:List Value→Heap→Prop) :
  RegW P (⟨j,k,args,some (d,w),q⟩::r) D ts env h Q=kh ts[d]? (zb1 P w k args q D ts env h (postK q r ts env D h) (contW P r ts env Q)):=by
 simp only [RegW,OpW,zx0]
 cases ts[d]? with
 | none=>rfl
 | some v=>cases v<;>rfl
theorem U4 (r:List SOp) (D:List Nat) (ts env:List Value) (Q:List Value→Heap→Prop) (v:Value) (h:Heap):contW P r ts env Q D v h=RegW P r D (v::ts) env h Q:=rfl
section
variable (k:K) (args:List Arg) (q:Bool) (D:List Nat) (ts env:List Value) (h:Heap) (post:Prop) (Q:List Nat→Value→Heap→Prop)
theorem zx1:zb1 P true k args q D ts env h post Q (.bool true)=kh (evs ts env args) (zp9 P k q D h post Q):=by simp [zb1,opK]
theorem zx4:zb1 P false k args q D ts env h post Q (.bool false)=kh (evs ts env args) (zp9 P k q D h post Q):=by simp [zb1,opK]
theorem zx2:zb1 P true k args q D ts env h post Q (.bool false)=Q D undef h:=by simp [zb1]
theorem zx3:zb1 P false k args q D ts env h post Q (.bool true)=Q D undef h:=by simp [zb1]
theorem Xk (w:Bool):zb1 P w k args q D ts env h post Q undef=Q D undef h:=rfl
theorem actK_p (k:PK) (vs:List Value):zp9 P (.p k) q D h post Q vs=kh (aP k vs) (zc5 (Q D) h):=rfl
theorem actK_r (k:RK) (vs:List Value):zp9 P (.r k) q D h post Q vs=kh (rdK D vs (aR k vs h.get)) (zc5 (Q D) h):=rfl
theorem actK_a (k:AK) (vs:List Value):zp9 P (.a k) q D h post Q vs=kh (aA k vs) (allocK (Q D) h):=rfl
theorem actK_w (k:WK) (vs:List Value):zp9 P (.w k) false D h post Q vs=kh (aW k vs h) (zq7 (Q D)):=rfl
theorem yc6 (k:WK) (vs:List Value):zp9 P (.w k) true D h post Q vs=kh (aW k vs h) (zq7 (zm1 D h Q)):=rfl
end
theorem zt8 (vs:List Value) (o:Option Value):rdK [] vs o=o:=by
 unfold rdK;split<;>simp
theorem zt7 (p:Nat) (D:List Nat) (a:Addr) (r:List Value) (o:Option Value):rdK (p::D) (.pointer (some a)::r) o=if a.block == p then none else rdK D (.pointer (some a)::r) o:=by
 simp only [rdK,blkOf,List.contains_cons]
 by_cases h:a.block == p<;>simp [h]
theorem jr {D:List Nat}{h h' : Heap}{Q:List Nat→Value→Heap→Prop}{v:Value}(he:h.ext h') (hq:Q D v h'):zm1 D h Q v h':=⟨D,fun _ h=>h,fun id o _ hg=>he id o hg,hq⟩
theorem Uz (Q:Value→Heap→Prop) (h:Heap) (v:Value):zc5 Q h v=Q v h:=rfl
theorem Xp (Q:Value→Heap→Prop) (h:Heap) (l:List Value) (m:Nat→Value):allocK Q h (l,m)=Q (m h.next) (h.alloc (.blk l true)):=rfl
theorem Ku (Q:Value→Heap→Prop) (v:Value) (h:Heap):zq7 Q (v,h)=Q v h:=rfl
theorem zg2 (Q:AExit→List Value→Heap→Prop) (o:List (Nat × Nat)) (e ts:List Value) (h:Heap):regQ Q o e ts h=Q .normal (upd ts o e) h:=rfl
section
variable {N:Nat}{vars:List Nat}{Q:AExit→List Value→Heap→Prop}{e:List Value}{h:Heap}
theorem zt9 (o:List (Nat × Nat)) (d:Nat) (a b:CCode) (ts:List Value):rcQ P N vars Q o e d a b ts h=kh ts[d]? (cndK P N vars a b Q (upd ts o e) h):=by
 simp only [rcQ,zd1]
 cases ts[d]? with
 | none=>rfl
 | some v=>cases v<;>rfl
theorem cndK_t (a b:CCode):cndK P N vars a b Q e h (.bool true)=W P N vars a Q e h:=by simp [cndK]
theorem cndK_f (a b:CCode):cndK P N vars a b Q e h (.bool false)=W P N vars b Q e h:=by simp [cndK]
theorem W_skip:W P N vars .skip Q e h=Q .normal e h:=rfl
theorem W_reg (s:List SOp) (o:List (Nat × Nat)):W P N vars (.reg s o) Q e h=RegW P s [] [] e h (regQ Q o e):=rfl
theorem W_seq (a b:CCode):W P N vars (.seq a b) Q e h=W P N vars a (Kq (W P N vars b Q) Q) e h:=rfl
theorem yc8 (s:List SOp) (o:List (Nat × Nat)) (d:Nat) (a b:CCode):W P N vars (.rcond s o d a b) Q e h=RegW P s [] [] e h (rcQ P N vars Q o e d a b):=rfl
theorem W_cond (x:Arg) (a b:CCode):W P N vars (.cond x a b) Q e h=kh (x.ev [] e) (cndK P N vars a b Q e h):=by
 simp only [W,zd1]
 cases x.ev [] e with
 | none=>rfl
 | some v=>cases v<;>rfl
theorem yc9 (id:Nat) (c:CCode):W P N vars (.block id c) Q e h=W P N vars c (Qa id Q) e h:=rfl
theorem W_loop (c:CCode):W P N vars (.loop c) Q e h=LoopW P N vars c e h Q:=rfl
theorem W_exit (id:Nat):W P N vars (.exit id) Q e h=Q (.exit id) e h:=rfl
theorem W_ret:W P N vars .ret Q e h=Q .ret e h:=rfl
theorem Qj (next:List Value→Heap→Prop):Kq next Q .normal e h=next e h:=rfl
theorem Kz (next:List Value→Heap→Prop) (i:Nat):Kq next Q (.exit i) e h=Q (.exit i) e h:=rfl
theorem Ug (next:List Value→Heap→Prop):Kq next Q .ret e h=Q .ret e h:=rfl
theorem Y9 (id:Nat):Qa id Q .normal e h=Q .normal e h:=rfl
theorem Xo (id:Nat):Qa id Q .ret e h=Q .ret e h:=rfl
theorem Kj (id:Nat):Qa id Q (.exit id) e h=Q .normal e h:=by simp [Qa]
theorem Kk (id i:Nat) (hi:(i == id)=false):Qa id Q (.exit i) e h=Q (.exit i) e h:=by
 have:i≠id:=by simpa using hi
 simp [Qa,this]
end
end
section
variable (D:List Nat) (h:Heap) (post:Prop) (Q:List Nat→Value→Heap→Prop)
theorem za5 (f:FuncId) (vs:List Value):zp9 (PR:=noPan) P (.call f) false D h post Q vs=CallW P f vs h (Q D):=Wr _ _ _ _ _
theorem wx (f:FuncId) (vs:List Value):zp9 (PR:=noPan) P (.call f) true D h post Q vs=CallW P f vs h (zm1 D h Q):=Wr _ _ _ _ _
theorem Xq (fv:Value) (args:List Value):zp9 (PR:=noPan) P .callV false D h post Q (fv::args)=Ue P fv args h (Q D):=zb4 _ _ _ _ _
theorem Km (fv:Value) (args:List Value):zp9 (PR:=noPan) P .callV true D h post Q (fv::args)=Ue P fv args h (zm1 D h Q):=zb4 _ _ _ _ _
end
end Go.Eng
namespace Go.Eng
open Go
variable {P:Program}
def ret1 (k:Nat) (Q:Value→Heap→Prop):AExit→List Value→Heap→Prop
 | .exit _,_,_=>False
 | .normal,e,h=>kh e[k]? fun v=>Q v h
 | .ret,e,h=>kh e[k]? fun v=>Q v h
theorem zg0 (k:Nat) (Q:Value→Heap→Prop) (e:List Value) (h:Heap):ret1 k Q .ret e h=kh e[k]? (zc5 Q h):=rfl
theorem Jo (k:Nat) (Q:Value→Heap→Prop) (e:List Value) (h:Heap):ret1 k Q .normal e h=kh e[k]? (zc5 Q h):=rfl
def ret0 (Q:Value→Heap→Prop):AExit→List Value→Heap→Prop
 | .exit _,_,_=>False
 | .normal,_,h=>Q (.tuple #[]) h
 | .ret,_,h=>Q (.tuple #[]) h
theorem zg1 (Q:Value→Heap→Prop) (e:List Value) (h:Heap):ret0 Q .ret e h=Q (.tuple #[]) h:=rfl
theorem Jp (Q:Value→Heap→Prop) (e:List Value) (h:Heap):ret0 Q .normal e h=Q (.tuple #[]) h:=rfl
def ret2 (k j:Nat) (Q:Value→Heap→Prop):AExit→List Value→Heap→Prop
 | .exit _,_,_=>False
 | .normal,e,h=>kh e[k]? fun v=>kh e[j]? fun u=>Q (.tuple #[v,u]) h
 | .ret,e,h=>kh e[k]? fun v=>kh e[j]? fun u=>Q (.tuple #[v,u]) h
theorem W.mono {N:Nat}{vars:List Nat}{c:CCode}{e:List Value}{h:Heap}{Q Q' : AExit→List Value→Heap→Prop}(hq:∀ x e h,Q x e h→Q' x e h) (hw:zq2 P N vars c e h Q):zq2 P N vars c e h Q' :=
 let ⟨x,e',h',t,q⟩:=hw;⟨x,e',h',t,hq _ _ _ q⟩
theorem Y6 {f:FuncId}{cf:CFn}(hf:FnOk P f cf){args:List Value}{h:Heap}{Q:Value→Heap→Prop}(hn:args.length=cf.nargs) (hb:∀ N,zq2 P N cf.vars cf.body (y0 cf args) h (RetQ cf h.next Q)):CallW P f args h Q:=by
 have hf':=hf
 obtain ⟨fn,code,h1,h2,h3⟩:=hf.fn
 obtain ⟨x,e',h',ht,hq⟩:=hb fn.ntmps
 have fin' : (x = .normal∨x = .ret)→kh (xi e' (fin cf.body.noRange h.next h') cf.results) (fun vs=>Q (jy vs) (fin cf.body.noRange h.next h'))→CallW P f args h Q:=by
  intro hx hr
  cases hres:xi e' (fin cf.body.noRange h.next h') cf.results with
  | none=>rw [hres] at hr;exact hr.elim
  | some vs =>
   rw [hres] at hr
   exact ⟨jy vs,_,CallT.of_body_at hf' hn h1 ⟨x,e',vs,h',ht,hx,rfl,hres,rfl⟩,hr⟩
 cases x with
 | normal=>exact fin' (.inl rfl) hq
 | ret=>exact fin' (.inr rfl) hq
 | exit i=>exact hq.elim
theorem zi {f:FuncId}{cf:CFn}(hf:FnOk P f cf){args:List Value}{h:Heap}{Q:Value→Heap→Prop}{k:Nat}(hnr:cf.body.noRange=true) (hr:cf.results=[.var k]) (hn:args.length=cf.nargs)
  (hb:∀ N,W P N cf.vars cf.body (ret1 k Q) (y0 cf args) h):CallW P f args h Q:=by
 refine Y6 hf hn fun N=>W.mono ?_ (hb N).sound
 intro x e h' hq
 have key:kh e[k]? (fun v=>Q v h')→kh (xi e (fin cf.body.noRange h.next h') cf.results) fun vs=>Q (jy vs) (fin cf.body.noRange h.next h'):=by
  intro hq
  rw [hnr,hr]
  cases he:e[k]? with
  | none=>rw [he] at hq;exact hq.elim
  | some v=>rw [he] at hq;simpa [xi,ResArg.get,he,kh,jy,fin] using hq
 cases x with
 | exit i=>exact hq.elim
 | normal=>exact key hq
 | ret=>exact key hq
theorem Y7 {f:FuncId}{cf:CFn}(hf:FnOk P f cf){args:List Value}{h:Heap}{Q:Value→Heap→Prop}(hnr:cf.body.noRange=true) (hr:cf.results=[]) (hn:args.length=cf.nargs)
  (hb:∀ N,W P N cf.vars cf.body (ret0 Q) (y0 cf args) h):CallW P f args h Q:=by
 refine Y6 hf hn fun N=>W.mono ?_ (hb N).sound
 intro x e h' hq
 cases x with
 | exit i=>exact hq.elim
 | normal=>simp only [RetQ,hnr,hr,xi,kh,jy,fin];exact hq
 | ret=>simp only [RetQ,hnr,hr,xi,kh,jy,fin];exact hq
end Go.Eng
namespace Go.Eng
open Go
variable {P:Program}
structure Heap.le (h h' : Heap):Prop where
 sub:h.sub h'
 next:h.next≤h'.next
theorem Heap.le.refl (h:Heap):h.le h:=⟨fun _ _ h=>h,Nat.le_refl _⟩
theorem Heap.le.trans {a b c:Heap}(h:a.le b) (h' : b.le c):a.le c:=⟨fun id o e=>h'.sub id o (h.sub id o e),Nat.le_trans h.next h'.next⟩
theorem Heap.le.alloc {a b:Heap}(h:a.le b) (o:AObj):a.le (b.alloc o):=h.trans ⟨fun id o' e=>by rw [Heap.get_alloc_lt (Heap.lt_of_get e)];exact e,by simp⟩
theorem Heap.le.set {a b:Heap}(h:a.le b){i:Nat}(hi:a.next≤i) (o:AObj):a.le (b.set i o):=⟨fun id o' e=>by
 have:=Heap.lt_of_get e
 rw [Heap.get_set,if_neg (by omega)];exact h.sub id o' e,h.next⟩
theorem Heap.le.get {a b:Heap}(h:a.le b){i:Nat}{o:AObj}(e:a.get i=some o):b.get i=some o:=h.sub i o e
theorem Heap.le.getE {a b:Heap}(h:a.le b) (i:Nat) (hs:(a.get i).isSome=true):b.get i=a.get i:=by
 obtain ⟨o,ho⟩:=Option.isSome_iff_exists.1 hs
 rw [ho];exact h.sub _ _ ho
theorem Heap.alloc_getE (h:Heap) (o:AObj) (i:Nat) (hs:(h.get i).isSome=true):(h.alloc o).get i=h.get i:=by
 obtain ⟨o',ho⟩:=Option.isSome_iff_exists.1 hs
 exact Heap.get_alloc_lt (Heap.lt_of_get ho)
theorem Heap.set_getE (h:Heap) (o:AObj) (i j:Nat) (hs:(j == i)=false):(h.set i o).get j=h.get j:=by
 rw [Heap.get_set,if_neg];intro e;simp [e.1] at hs
theorem Heap.set_getS (h:Heap) (o:AObj) (i:Nat) (hs:(h.get i).isSome=true):(h.set i o).get i=some o:=by
 obtain ⟨o',ho⟩:=Option.isSome_iff_exists.1 hs
 rw [Heap.get_set,if_pos ⟨rfl,Heap.lt_of_get ho⟩]
structure Heap.leBut (i:Nat) (h h' : Heap):Prop where
 get:∀ j,j≠i→(h.get j).isSome=true→h'.get j=h.get j
 next:h.next≤h'.next
theorem Heap.le.but {h h' : Heap}(hl:h.le h') (i:Nat):h.leBut i h':=⟨fun j _ hs=>hl.getE j hs,hl.next⟩
theorem Heap.leBut.refl (i:Nat) (h:Heap):h.leBut i h:=⟨fun _ _ _=>rfl,Nat.le_refl _⟩
theorem Heap.leBut.trans {i:Nat}{a b c:Heap}(h:a.leBut i b) (h' : b.leBut i c):a.leBut i c :=
 ⟨fun j hj hs=>by rw [h'.get j hj (by rw [h.get j hj hs];exact hs),h.get j hj hs],Nat.le_trans h.next h'.next⟩
theorem Heap.leBut.set (i:Nat) (h:Heap) (o:AObj):h.leBut i (h.set i o):=⟨fun j hj _=>Heap.set_getE _ _ _ _ (by simpa using hj),Nat.le_refl _⟩
def At (h:Heap) (id off s:Nat) (xs:List (List Value)):Prop :=
 ∃ cells own,h.get id=some (.blk cells own) ∧ ∀ (i:Nat) x,xs[i]? = some x→x.length=s∧off + i * s + s≤cells.length∧(cells.drop (off + i * s)).take s=x
def SlV (h:Heap) (s:Nat) (v:Value) (xs:List (List Value)):Prop :=
 (v = .slice none 0 0∧xs=[]) ∨ ∃ id off,v = .slice (some ⟨id,off,none⟩) xs.length s∧(xs=[]∨At h id off s xs)
theorem At.mono {h h' : Heap}(hl:h.le h'){id off s:Nat}{xs:List (List Value)}(ha:At h id off s xs):At h' id off s xs :=
 let ⟨c,o,hg,hx⟩:=ha;⟨c,o,hl.get hg,hx⟩
theorem SlV.mono {h h' : Heap}(hl:h.le h'){s:Nat}{v:Value}{xs:List (List Value)}(ha:SlV h s v xs):SlV h' s v xs:=by
 rcases ha with ha | ⟨id,off,hv,ha⟩
 ·exact .inl ha
 ·exact .inr ⟨id,off,hv,ha.imp (fun e=>e) (·.mono hl)⟩
theorem SlV.len {h:Heap}{s:Nat}{v:Value}{xs:List (List Value)}(ha:SlV h s v xs):Yb [v]=some (.int .i64 xs.length):=by
 rcases ha with ⟨rfl,rfl⟩ | ⟨id,off,rfl,_⟩<;>rfl
theorem SlV.elem {h:Heap}{s:Nat}{v:Value}{xs:List (List Value)}(ha:SlV h s v xs){i:Nat}{x:List Value}(hi:xs[i]? = some x) :
  ∃ id off cells own,yx s [v,.int .i64 i]=some (.pointer (some ⟨id,off,none⟩))∧h.get id=some (.blk cells own)∧qk true off s cells=some (.agg x.toArray) ∧ ∀ j,j < s→cells[off + j]? = x[j]?:=by
 have hlt:=(List.getElem?_eq_some_iff.1 hi).1
 rcases ha with ⟨rfl,rfl⟩ | ⟨id,off,rfl,ha⟩
 ·simp at hi
 ·rcases ha with rfl | ⟨cells,own,hg,hx⟩
  ·simp at hi
  ·obtain ⟨h1,h2,h3⟩:=hx i x hi
   refine ⟨id,off + i * s,cells,own,?_,hg,?_,fun j hj=>?_⟩
   ·simp [yx,hlt]
   ·simp [qk,h2,h3]
   ·rw [← h3,List.getElem?_take_of_lt hj,List.getElem?_drop]
theorem SlV.part {h:Heap}{s:Nat}{v:Value}{xs:List (List Value)}(ha:SlV h s v xs){a b:Nat}(hab:a≤b) (hb:b≤xs.length) :
  ∃ w,vf s true true [v,.int .i64 a,.int .i64 b]=some w∧SlV h s w ((xs.take b).drop a):=by
 rcases ha with ⟨rfl,rfl⟩ | ⟨id,off,rfl,ha⟩
 ·simp only [List.length_nil,Nat.le_zero_eq] at hb
  subst hb
  have:a=0:=by omega
  subst this
  exact ⟨_,by simp [vf,zb2],.inl ⟨rfl,by simp⟩⟩
 ·refine ⟨.slice (some ⟨id,off + a * s,none⟩) (b - a) s,?_,.inr ⟨id,off + a * s,?_,?_⟩⟩
  ·simp only [vf,if_true,zb2]
   rw [if_pos (by omega)]
   simp
  ·simp [Nat.min_eq_left hb]
  ·rcases ha with rfl | ⟨cells,own,hg,hx⟩
   ·left;simp
   ·right
    refine ⟨cells,own,hg,fun i x hi=>?_⟩
    rw [List.getElem?_drop,List.getElem?_take] at hi
    split at hi
    ·obtain ⟨h1,h2,h3⟩:=hx _ _ hi
     rw [Nat.add_mul,← Nat.add_assoc] at h2 h3
     exact ⟨h1,h2,h3⟩
    ·cases hi
theorem SlV.partHi {h:Heap}{s:Nat}{v:Value}{xs:List (List Value)}(ha:SlV h s v xs){b:Nat}(hb:b≤xs.length) :
  ∃ w,vf s false true [v,.int .i64 b]=some w∧SlV h s w (xs.take b):=by
 obtain ⟨w,h1,h2⟩:=ha.part (Nat.zero_le b) hb
 refine ⟨w,?_,by simpa using h2⟩
 rw [← h1]
 rcases ha with ⟨rfl,rfl⟩ | ⟨id,off,rfl,ha⟩<;>simp [vf,zb2]
def OwnS (h0 h:Heap) (s:Nat) (v:Value) (xs:List (List Value)):Prop :=
 (v = .slice none 0 0∧xs=[]) ∨ ∃ id,v = .slice (some ⟨id,0,none⟩) xs.length s∧h0.next≤id∧h.get id=some (.blk xs.flatten true)∧(∀ x ∈ xs,x.length=s)
theorem OwnS.weak {h0 h1 h:Heap}(hl:h0.next≤h1.next){s:Nat}{v:Value}{xs:List (List Value)}(ha:OwnS h1 h s v xs):OwnS h0 h s v xs:=by
 rcases ha with ha | ⟨id,hv,hi,hg,hx⟩
 ·exact .inl ha
 ·exact .inr ⟨id,hv,Nat.le_trans hl hi,hg,hx⟩
theorem OwnS.nil (h0 h:Heap) (s:Nat):OwnS h0 h s (.slice none 0 0) []:=.inl ⟨rfl,rfl⟩
theorem ql {s:Nat}:∀ {xs:List (List Value)},(∀ x ∈ xs,x.length=s) → ∀ (i:Nat) x,xs[i]? = some x→i * s + s≤xs.flatten.length∧(xs.flatten.drop (i * s)).take s=x
 | [],_,i,x,h=>by simp at h
 | y::ys,hx,0,x,h=>by
  simp only [List.getElem?_cons_zero,Option.some.injEq] at h
  subst h
  have:=hx y (by simp)
  subst this
  simp
 | y::ys,hx,i + 1,x,h=>by
  simp only [List.getElem?_cons_succ] at h
  obtain ⟨h1,h2⟩:=ql (fun x hx'=>hx x (by simp [hx'])) i x h
  have:=hx y (by simp)
  subst this
  refine ⟨by rw [List.flatten_cons,List.length_append,Nat.succ_mul];omega,?_⟩
  have e:(i + 1) * y.length=y.length + i * y.length:=by rw [Nat.succ_mul,Nat.add_comm]
  rw [List.flatten_cons,e,List.drop_append,List.drop_eq_nil_of_le (by omega)]
  simpa using h2
theorem Zj {s:Nat}:∀ {xs:List (List Value)},(∀ x ∈ xs,x.length=s)→xs.flatten.length=xs.length * s
 | [],_=>by simp
 | y::ys,hx=>by
  rw [List.flatten_cons,List.length_append,Zj (fun x hx'=>hx x (by simp [hx'])),hx y (by simp),List.length_cons,Nat.succ_mul,Nat.add_comm]
theorem OwnS.sl {h0 h:Heap}{s:Nat}{v:Value}{xs:List (List Value)}(ha:OwnS h0 h s v xs):SlV h s v xs:=by
 rcases ha with ha | ⟨id,hv,hi,hg,hx⟩
 ·exact .inl ha
 ·refine .inr ⟨id,0,hv,.inr ⟨_,_,hg,fun i x h=>?_⟩⟩
  obtain ⟨h1,h2⟩:=ql hx i x h
  exact ⟨hx x (List.mem_of_getElem? h),by omega,by simpa using h2⟩
def notOf (v:Value) (i:Nat):Prop:=∀ n s,v ≠ .slice (some ⟨i,0,none⟩) n s
theorem OwnS.append1 {h0 h:Heap}{s:Nat}{v:Value}{xs:List (List Value)}(ha:OwnS h0 h s v xs) (hle:h0.le h){x:List Value}(hx:x.length=s) (hs:0 < s){b:Nat}(hb:(xs.length + 1) * b≤140737488355328) (hb2:xs.length + 1≤9223372036854775807) :
  ∃ v' h',jj s b (h.alloc (.blk x true)) [v,.slice (some ⟨h.next,0,none⟩) 1 s]=some (v',h')∧OwnS h0 h' s v' (xs++[x])∧h0.le h' ∧ (∀ i,(h.get i).isSome=true→notOf v i→h'.get i=h.get i)∧(∀ i,(h.get i).isSome=true→notOf v' i)∧h.next≤h'.next:=by
 have hsrc:jp s (h.alloc (.blk x true)) (.slice (some ⟨h.next,0,none⟩) 1 s)=some x:=by
  subst hx
  simp [jp]
 have hdiv:x.length / s=1:=by rw [hx];exact Nat.div_self hs
 rcases ha with ⟨rfl,rfl⟩ | ⟨id,rfl,hi,hg,hx'⟩
 ·have hg2:((h.alloc (.blk x true)).alloc (.blk x true)).get (h.next + 1)=some (.blk x true):=Heap.get_alloc_same (h.alloc (.blk x true)) _
  refine ⟨.slice (some ⟨h.next + 1,0,none⟩) 1 s,(h.alloc (.blk x true)).alloc (.blk x true),?_,.inr ⟨h.next + 1,by simp,?_,by simpa using hg2,by simpa using hx⟩,(hle.alloc _).alloc _,?_,?_,?_⟩
  ·unfold jj
   simp only [hsrc,hdiv]
   rw [if_neg (by omega),if_pos (by simp at hb;omega)]
   rfl
  ·have:=hle.next;omega
  ·intro i hi _
   rw [Heap.alloc_getE,Heap.alloc_getE _ _ _ hi]
   rw [Heap.alloc_getE _ _ _ hi];exact hi
  ·intro i hi n s e
   cases e
   obtain ⟨o,ho⟩:=Option.isSome_iff_exists.1 hi
   have:=Heap.lt_of_get ho
   omega
  ·simp;omega
 ·have hlt:=Heap.lt_of_get hg
  have hlen:=Zj hx'
  have hcell:(h.alloc (.blk x true)).get id=some (.blk xs.flatten true):=by rw [Heap.get_alloc_lt hlt];exact hg
  have hfl:(xs++[x]).flatten=xs.flatten++x:=by simp
  have hg2:(((h.alloc (.blk x true)).set id .dead).alloc (.blk (xs.flatten++x) true)).get (h.next + 1)=some (.blk (xs.flatten++x) true):=Heap.get_alloc_same ((h.alloc (.blk x true)).set id .dead) _
  refine ⟨.slice (some ⟨h.next + 1,0,none⟩) (xs.length + 1) s,((h.alloc (.blk x true)).set id .dead).alloc (.blk (xs.flatten++x) true),?_,.inr ⟨h.next + 1,by simp,?_,by rw [hfl];exact hg2,?_⟩,((hle.alloc _).set hi _).alloc _,?_,?_,?_⟩
  ·unfold jj
   simp only [hsrc,hdiv,hcell]
   rw [if_neg (by omega),if_pos ⟨trivial,hlen,hb,hb2⟩]
   rfl
  ·have:=hle.next;omega
  ·intro y hy
   rcases List.mem_append.1 hy with hy | hy
   ·exact hx' y hy
   ·simp only [List.mem_singleton] at hy;rw [hy,hx]
  ·intro i hi hno
   have hne:i≠id:=fun e=>by subst e;exact hno _ _ rfl
   have h1:((h.alloc (.blk x true)).set id .dead).get i=h.get i:=by
    rw [Heap.set_getE _ _ _ _ (by simpa using hne),Heap.alloc_getE _ _ _ hi]
   rw [Heap.alloc_getE _ _ _ (by rw [h1];exact hi),h1]
  ·intro i hi n s e
   cases e
   obtain ⟨o,ho⟩:=Option.isSome_iff_exists.1 hi
   have:=Heap.lt_of_get ho
   omega
  ·simp;omega
theorem zu6 (off s:Nat) (cs:List Value):qk false off s cs=cs[off]?:=rfl
structure Hid (p:Prop):Prop where
 h:p
theorem zb {p:Prop}(h:p):Hid p:=⟨h⟩
theorem idx1 {id n j:Nat}(hj:j < n):yx 1 [.slice (some ⟨id,0,none⟩) n 1,.int .i64 (j:Int)]=some (.pointer (some ⟨id,j,none⟩)):=by
 simp [yx,hj]
theorem Heap.set_alloc (h:Heap) (a b:AObj):(h.alloc a).set h.next b=h.alloc b:=by
 simp only [Heap.alloc,Heap.set]
 congr 1
 funext id
 by_cases e:id=h.next
 ·simp [e]
 ·simp [e]
theorem zy {h:Heap}{size:Nat}{zs cs:List Value}{v:Value}(hv:v.cells.toList=cs) (hc:cs.length=size) (hz:zs.length=size) (h1:cs.all (·.oneCell')=true) :
  yh size (h.alloc (.blk zs true)) [.pointer (some ⟨h.next,0,none⟩),v]=some (undef,h.alloc (.blk cs true)):=by
 subst hv
 have hd:zs.drop size=[]:=List.drop_eq_nil_of_le (by omega)
 simp only [yh,Heap.get_alloc_same]
 rw [if_pos ⟨hc,by omega,h1⟩]
 simp only [List.take_zero,List.nil_append,Nat.zero_add,hd,List.append_nil,Heap.set_alloc]
theorem zx {h:Heap}{id off:Nat}{cells:List Value}{v:Value}(hg:h.get id=some (.blk cells true)) (ho:off < cells.length) (hv:v.cells.toList=[v]) (h1:v.oneCell' = true) :
  yh 1 h [.pointer (some ⟨id,off,none⟩),v]=some (undef,h.set id (.blk (cells.set off v) true)):=by
 simp only [yh,hg,hv]
 rw [if_pos ⟨rfl,by omega,by simp [h1]⟩,List.set_eq_take_append_cons_drop,if_pos ho]
 simp
theorem Kv {h:Heap}{id off:Nat}{cells:List Value}{k:IntKind}{z:Int}(hg:h.get id=some (.blk cells true)) (ho:off < cells.length) :
  yh 1 h [.pointer (some ⟨id,off,none⟩),.int k z]=some (undef,h.set id (.blk (cells.set off (.int k z)) true)):=zx hg ho rfl rfl
theorem jv {s:Nat}{zs cs:List Value}{v:Value}(hv:v.cells.toList=cs) (hc:cs.length=s) (hz:zs.length=s) (h1:cs.all (·.oneCell')=true) :
  yi zs [(0,s)] 1 s [v]=some (cs,fun id=>.slice (some ⟨id,0,none⟩) 1 s):=by
 subst hv
 have hd:zs.drop s=[]:=List.drop_eq_nil_of_le (by omega)
 simp only [yi,List.length_cons,List.length_nil,if_true,List.zip_cons_cons,List.zip_nil_right,Zo]
 rw [if_pos ⟨hc,by omega,h1⟩]
 simp [hd]
section
variable {PR:PanR}
variable {N:Nat}{vars:List Nat}{Q:AExit→List Value→Heap→Prop}{e:List Value}{h:Heap}
theorem kcd {a b:CCode}{p:Prop} [Decidable p] (ht:p→W P N vars a Q e h) (hf:¬ p→W P N vars b Q e h):cndK P N vars a b Q e h (.bool (decide p)):=⟨fun h=>ht (of_decide_eq_true h),fun h=>hf (of_decide_eq_false h)⟩
theorem kci {a b:CCode}{c:Bool}(ht:c=true→W P N vars a Q e h) (hf:c=false→W P N vars b Q e h):cndK P N vars a b Q e h (.bool c):=⟨ht,hf⟩
end
section
variable {PR:PanR}
theorem kgd {w:Bool}{k:K}{args:List Arg}{q:Bool}{D:List Nat}{ts env:List Value}{h:Heap}{post:Prop}{Q:List Nat→Value→Heap→Prop}{p:Prop} [Decidable p] (h1:p→zb1 P w k args q D ts env h post Q (.bool true)) (h2:¬ p→zb1 P w k args q D ts env h post Q (.bool false)):zb1 P w k args q D ts env h post Q (.bool (decide p)):=by
 by_cases hp:p
 ·simpa [hp] using h1 hp
 ·simpa [hp] using h2 hp
theorem kgi {w:Bool}{k:K}{args:List Arg}{q:Bool}{D:List Nat}{ts env:List Value}{h:Heap}{post:Prop}{Q:List Nat→Value→Heap→Prop}{c:Bool}(h1:c=true→zb1 P w k args q D ts env h post Q (.bool true)) (h2:c=false→zb1 P w k args q D ts env h post Q (.bool false)):zb1 P w k args q D ts env h post Q (.bool c):=by
 cases c
 ·exact h2 rfl
 ·exact h1 rfl
end
theorem LoopW.roundC {N:Nat}{vars:List Nat}{c:CCode}{e:List Value}{h:Heap}{Q:AExit→List Value→Heap→Prop}(R:List Value→Heap→Prop) (hw:zq2 P N vars c e h (Kq R Q)) (hR:∀ e1 h1,R e1 h1→LoopW P N vars c e1 h1 Q):LoopW P N vars c e h Q:=by
 exact LoopW.roundX R (.inl hw) hR
theorem LoopW.round' {N:Nat}{vars:List Nat}{c:CCode}{e:List Value}{h:Heap}{Q:AExit→List Value→Heap→Prop}(R:List Value→Heap→Prop) (hw:W P N vars c (Kq R Q) e h) (hR:∀ e1 h1,R e1 h1→LoopW P N vars c e1 h1 Q):LoopW P N vars c e h Q :=
 LoopW.roundC R (W.sound hw) hR
theorem LoopW.down {N:Nat}{vars:List Nat}{c:CCode}{Q:AExit→List Value→Heap→Prop}(I:Nat→List Value→Heap→Prop)
  (hb:∀ m e h R,I m e h→Hid (∀ m' e h,m' < m→I m' e h→R e h)→W P N vars c (Kq R Q) e h):∀ {m:Nat}{e:List Value}{h:Heap},I m e h→LoopW P N vars c e h Q:=by
 intro m
 induction m using Nat.strongRecOn with
 | ind m ih =>
  intro e h hi
  exact LoopW.round' _ (hb m e h (fun e h=>∃ m',m' < m∧I m' e h) hi ⟨fun m' e h h1 h2=>⟨m',h1,h2⟩⟩) fun e1 h1 ⟨m',hm,hi'⟩=>ih m' hm hi'
theorem LoopW.upto {N:Nat}{vars:List Nat}{c:CCode}{Q:AExit→List Value→Heap→Prop}(n:Nat) (I:Nat→List Value→Heap→Prop)
  (hb:∀ i e h R,i≤n→I i e h→Hid (∀ e h,i < n→I (i + 1) e h→R e h)→W P N vars c (Kq R Q) e h){i:Nat}{e:List Value}{h:Heap}(hi:i≤n) (h0:I i e h):LoopW P N vars c e h Q:=by
 suffices ∀ (k i:Nat),n - i=k→i≤n → ∀ e h,I i e h→LoopW P N vars c e h Q from this _ i rfl hi e h h0
 have hb':=fun i e h h1 h2=>hb i e h (fun e h=>i < n∧I (i + 1) e h) h1 h2 ⟨fun e h h3 h4=>⟨h3,h4⟩⟩
 intro k
 induction k with
 | zero =>
  intro i hk hi e h h0
  exact LoopW.round' _ (hb' i e h hi h0) fun e1 h1 ⟨hlt,_⟩=>by omega
 | succ k ih =>
  intro i hk hi e h h0
  exact LoopW.round' _ (hb' i e h hi h0) fun e1 h1 ⟨hlt,h2⟩=>ih (i + 1) (by omega) (by omega) e1 h1 h2
end Go.Eng
namespace Go.Eng
open Go
variable {P:Program}
def Ui (Q:Value→Heap→Prop) (h:Heap) (o:Option Value):Value→Prop:=fun v=>kh o fun u=>Q (.tuple #[v,u]) h
theorem Uq (k j:Nat) (Q:Value→Heap→Prop) (e:List Value) (h:Heap):ret2 k j Q .ret e h=kh e[k]? (Ui Q h e[j]?):=rfl
theorem Uh (Q:Value→Heap→Prop) (h:Heap) (v u:Value):Ui Q h (some u) v=Q (.tuple #[v,u]) h:=rfl
theorem wc {f:FuncId}{cf:CFn}(hf:FnOk P f cf){args:List Value}{h:Heap}{Q:Value→Heap→Prop}{k j:Nat}(hnr:cf.body.noRange=true) (hr:cf.results=[.var k,.var j]) (hn:args.length=cf.nargs)
  (hb:∀ N,W P N cf.vars cf.body (ret2 k j Q) (y0 cf args) h):CallW P f args h Q:=by
 refine Y6 hf hn fun N=>W.mono ?_ (hb N).sound
 intro x e h' hq
 have key:kh e[k]? (fun v=>kh e[j]? fun u=>Q (.tuple #[v,u]) h')→kh (xi e (fin cf.body.noRange h.next h') cf.results) fun vs=>Q (jy vs) (fin cf.body.noRange h.next h'):=by
  intro hq
  rw [hnr,hr]
  cases he:e[k]? with
  | none=>rw [he] at hq;exact hq.elim
  | some v =>
   cases hu:e[j]? with
   | none=>rw [he,hu] at hq;exact hq.elim
   | some u=>rw [he,hu] at hq;simpa [xi,ResArg.get,he,hu,kh,jy,fin] using hq
 cases x with
 | exit i=>exact hq.elim
 | normal=>exact key hq
 | ret=>exact key hq
def retcv (k:Nat) (agg:Bool) (size j:Nat) (Q:Value→Heap→Prop):AExit→List Value→Heap→Prop
 | .exit _,_,_=>False
 | .normal,e,h=>kh e[k]? fun p=>kh (aR (.load agg size) [p] h.get) (Ui Q h e[j]?)
 | .ret,e,h=>kh e[k]? fun p=>kh (aR (.load agg size) [p] h.get) (Ui Q h e[j]?)
def retcvK (agg:Bool) (size:Nat) (Q:Value→Heap→Prop) (h:Heap) (o:Option Value):Value→Prop:=fun p=>kh (aR (.load agg size) [p] h.get) (Ui Q h o)
theorem Uo (k:Nat) (agg:Bool) (size j:Nat) (Q:Value→Heap→Prop) (e:List Value) (h:Heap):retcv k agg size j Q .ret e h=kh e[k]? (retcvK agg size Q h e[j]?):=rfl
theorem K5 (agg:Bool) (size:Nat) (Q:Value→Heap→Prop) (h:Heap) (o:Option Value) (p:Value):retcvK agg size Q h o p=kh (aR (.load agg size) [p] h.get) (Ui Q h o):=rfl
theorem zz0 {f:FuncId}{cf:CFn}(hf:FnOk P f cf){args:List Value}{h:Heap}{Q:Value→Heap→Prop}{k j size:Nat}{agg:Bool}(hnr:cf.body.noRange=true) (hr:cf.results=[.cell k agg size,.var j]) (hn:args.length=cf.nargs)
  (hb:∀ N,W P N cf.vars cf.body (retcv k agg size j Q) (y0 cf args) h):CallW P f args h Q:=by
 refine Y6 hf hn fun N=>W.mono ?_ (hb N).sound
 intro x e h' hq
 have key:kh e[k]? (fun p=>kh (aR (.load agg size) [p] h'.get) (Ui Q h' e[j]?))→kh (xi e (fin cf.body.noRange h.next h') cf.results) fun vs=>Q (jy vs) (fin cf.body.noRange h.next h'):=by
  intro hq
  rw [hnr,hr]
  cases he:e[k]? with
  | none=>rw [he] at hq;exact hq.elim
  | some v =>
   rw [he] at hq
   simp only [kh] at hq
   cases hv:aR (.load agg size) [v] h'.get with
   | none=>rw [hv] at hq;exact hq.elim
   | some w =>
    rw [hv] at hq
    simp only [Ui] at hq
    cases hu:e[j]? with
    | none=>rw [hu] at hq;exact hq.elim
    | some u=>rw [hu] at hq;simpa [xi,ResArg.get,he,hu,hv,kh,jy,fin] using hq
 cases x with
 | exit i=>exact hq.elim
 | normal=>exact key hq
 | ret=>exact key hq
theorem ji {h:Heap}{id size:Nat}{zs cs:List Value}{v:Value}(hg:h.get id=some (.blk zs true)) (hv:v.cells.toList=cs) (hc:cs.length=size) (hz:zs.length=size) (h1:cs.all (·.oneCell')=true) :
  yh size h [.pointer (some ⟨id,0,none⟩),v]=some (undef,h.set id (.blk cs true)):=by
 subst hv
 have hd:zs.drop size=[]:=List.drop_eq_nil_of_le (by omega)
 simp only [yh,hg]
 rw [if_pos ⟨hc,by omega,h1⟩]
 simp only [List.take_zero,List.nil_append,Nat.zero_add,hd,List.append_nil]
theorem SlV.src {h:Heap}{s:Nat}{w:Value}{ys:List (List Value)}(hw:SlV h s w ys):jp s h w=some ys.flatten ∧ ∀ y ∈ ys,y.length=s:=by
 rcases hw with ⟨rfl,rfl⟩ | ⟨id,off,rfl,ha⟩
 ·exact ⟨rfl,by simp⟩
 ·rcases ha with rfl | ⟨cells,own,hg,hx⟩
  ·exact ⟨by simp [jp],by simp⟩
  ·have hlen:∀ y ∈ ys,y.length=s:=fun y hy=>by
    obtain ⟨i,hi⟩:=List.mem_iff_getElem?.1 hy
    exact (hx i y hi).1
   refine ⟨?_,hlen⟩
   by_cases h0:ys.length=0
   ·have:ys=[]:=List.length_eq_zero_iff.1 h0
    subst this;simp [jp]
   ·obtain ⟨y,hy⟩:∃ y,ys[ys.length - 1]? = some y:=⟨_,List.getElem?_eq_getElem (by omega)⟩
    obtain ⟨_,h2,_⟩:=hx _ _ hy
    have hle:off + ys.length * s≤cells.length:=by
     obtain ⟨n,hn⟩:∃ n,ys.length=n + 1:=⟨ys.length - 1,by omega⟩
     rw [hn,Nat.succ_mul];rw [hn] at h2;simp only [Nat.add_sub_cancel] at h2;omega
    simp only [jp,if_true,h0,if_false,hg,hle]
    congr 1
    have key:∀ (ys:List (List Value)) (k:Nat),(∀ (i:Nat) x,ys[i]? = some x→x.length=s∧off + (k + i) * s + s≤cells.length∧(cells.drop (off + (k + i) * s)).take s=x)→(cells.drop (off + k * s)).take (ys.length * s)=ys.flatten:=by
     intro ys
     induction ys with
     | nil=>intro k _;simp
     | cons y r ih =>
      intro k hx
      obtain ⟨h1,h2,h3⟩:=hx 0 y rfl
      have:=ih (k + 1) fun i x hi=>by
       have:=hx (i + 1) x (by simpa using hi)
       rwa [show k + (i + 1)=k + 1 + i by omega] at this
      rw [List.flatten_cons,← this,List.length_cons,Nat.succ_mul,Nat.add_comm (r.length * s) s,List.take_add]
      rw [Nat.add_zero] at h3
      congr 1
      rw [List.drop_drop,Nat.succ_mul,Nat.add_assoc]
    have:=key ys 0 fun i x hi=>by simpa using hx i x hi
    simpa using this
theorem OwnS.append {h0 h:Heap}{s:Nat}{v w:Value}{xs ys:List (List Value)}(ha:OwnS h0 h s v xs) (hle:h0.le h) (hw:SlV h s w ys) (hs:0 < s){b:Nat}(hb:(xs.length + ys.length) * b≤140737488355328) (hb2:xs.length + ys.length≤9223372036854775807) :
  ∃ v' h',jj s b h [v,w]=some (v',h')∧OwnS h0 h' s v' (xs++ys)∧h0.le h' ∧ (∀ i,(h.get i).isSome=true→notOf v i→h'.get i=h.get i)∧(∀ i,(h.get i).isSome=true→notOf v i→notOf v' i)∧h.next≤h'.next:=by
 obtain ⟨hsrc,hyl⟩:=hw.src
 have hfl:=Zj hyl
 by_cases h00:ys.length=0
 ·have:ys=[]:=List.length_eq_zero_iff.1 h00
  subst this
  refine ⟨v,h,?_,by simpa using ha,hle,fun _ _ _=>rfl,fun _ _ h=>h,Nat.le_refl _⟩
  have hsv:∃ p n c,v = .slice p n c:=by
   rcases ha with ⟨rfl,_⟩ | ⟨id,rfl,_⟩
   ·exact ⟨_,_,_,rfl⟩
   ·exact ⟨_,_,_,rfl⟩
  obtain ⟨p,n,c,rfl⟩:=hsv
  unfold jj
  simp only [hsrc]
  rfl
 ·have hne:ys.flatten.length≠0:=by
   rw [hfl]
   exact Nat.mul_ne_zero h00 (by omega)
  have hdiv:ys.flatten.length / s=ys.length:=by rw [hfl];exact Nat.mul_div_cancel _ hs
  rcases ha with ⟨rfl,rfl⟩ | ⟨id,rfl,hi,hg,hx'⟩
  ·refine ⟨.slice (some ⟨h.next,0,none⟩) ys.length s,h.alloc (.blk ys.flatten true),?_,.inr ⟨h.next,by simp,hle.next,by simp,by simpa using hyl⟩,hle.alloc _,?_,?_,by simp⟩
   ·unfold jj
    simp only [hsrc,hdiv]
    rw [if_neg hne,if_pos (by simp at hb hb2;exact ⟨hb,hb2⟩)]
   ·intro i hi _;exact Heap.alloc_getE _ _ _ hi
   ·intro i hi _ n s e
    cases e
    obtain ⟨o,ho⟩:=Option.isSome_iff_exists.1 hi
    have:=Heap.lt_of_get ho
    omega
  ·have hlt:=Heap.lt_of_get hg
   have hlen:=Zj hx'
   have hflx:(xs++ys).flatten=xs.flatten++ys.flatten:=by simp
   refine ⟨.slice (some ⟨h.next,0,none⟩) (xs.length + ys.length) s,(h.set id .dead).alloc (.blk (xs.flatten++ys.flatten) true),?_,.inr ⟨h.next,by simp,hle.next,by rw [hflx];exact Heap.get_alloc_same (h.set id .dead) _,?_⟩,(hle.set hi _).alloc _,?_,?_,by simp⟩
   ·unfold jj
    simp only [hsrc,hdiv,hg]
    rw [if_neg hne,if_pos ⟨trivial,hlen,hb,hb2⟩]
   ·intro y hy
    rcases List.mem_append.1 hy with hy | hy
    ·exact hx' y hy
    ·exact hyl y hy
   ·intro i hi hno
    have hne:i≠id:=fun e=>by subst e;exact hno _ _ rfl
    have h1:(h.set id .dead).get i=h.get i:=Heap.set_getE _ _ _ _ (by simpa using hne)
    rw [Heap.alloc_getE _ _ _ (by rw [h1];exact hi),h1]
   ·intro i hi _ n s e
    cases e
    obtain ⟨o,ho⟩:=Option.isSome_iff_exists.1 hi
    have:=Heap.lt_of_get ho
    omega
theorem Heap.le.ext {a b:Heap}(h:a.le b):a.ext b:=fun _ _ hg=>.inl (h.get hg)
theorem OwnS.get {h0 h h' : Heap}{s:Nat}{v:Value}{xs:List (List Value)}(ha:OwnS h0 h s v xs) (hk:∀ id,v = .slice (some ⟨id,0,none⟩) xs.length s→(h.get id).isSome=true→h'.get id=h.get id):OwnS h0 h' s v xs:=by
 rcases ha with ha | ⟨id,hv,hi,hg,hx⟩
 ·exact .inl ha
 ·exact .inr ⟨id,hv,hi,by rw [hk id hv (by rw [hg];rfl)];exact hg,hx⟩
theorem zl5 (k:IntKind) (z:Int):ze6 [.int k z]=some ([.int k z],fun id=>.pointer (some ⟨id,0,none⟩)):=rfl
end Go.Eng
namespace Go.Eng
open Go
variable {P:Program}
theorem pEqBt (a b:Bool):pEqB true [.bool a,.bool b]=some (.bool !(a == b)):=by simp [pEqB]
theorem pEqBf (a b:Bool):pEqB false [.bool a,.bool b]=some (.bool (a == b)):=by simp [pEqB]
end Go.Eng
namespace Go.Eng
open Go
variable {P:Program}
def zs7 (k:Nat) (agg:Bool) (size:Nat) (Q:Value→Heap→Prop):AExit→List Value→Heap→Prop
 | .exit _,_,_=>False
 | .normal,e,h=>kh e[k]? fun p=>kh (aR (.load agg size) [p] h.get) fun v=>Q v h
 | .ret,e,h=>kh e[k]? fun p=>kh (aR (.load agg size) [p] h.get) fun v=>Q v h
def retcK (agg:Bool) (size:Nat) (Q:Value→Heap→Prop) (h:Heap):Value→Prop:=fun p=>kh (aR (.load agg size) [p] h.get) (zc5 Q h)
theorem zf9 (k:Nat) (agg:Bool) (size:Nat) (Q:Value→Heap→Prop) (e:List Value) (h:Heap):zs7 k agg size Q .ret e h=kh e[k]? (retcK agg size Q h):=rfl
theorem Up (agg:Bool) (size:Nat) (Q:Value→Heap→Prop) (h:Heap) (p:Value):retcK agg size Q h p=kh (aR (.load agg size) [p] h.get) (zc5 Q h):=rfl
theorem Z9 {f:FuncId}{cf:CFn}(hf:FnOk P f cf){args:List Value}{h:Heap}{Q:Value→Heap→Prop}{k size:Nat}{agg:Bool}(hnr:cf.body.noRange=true) (hr:cf.results=[.cell k agg size]) (hn:args.length=cf.nargs)
  (hb:∀ N,W P N cf.vars cf.body (zs7 k agg size Q) (y0 cf args) h):CallW P f args h Q:=by
 refine Y6 hf hn fun N=>W.mono ?_ (hb N).sound
 intro x e h' hq
 have key:kh e[k]? (fun p=>kh (aR (.load agg size) [p] h'.get) fun v=>Q v h')→kh (xi e (fin cf.body.noRange h.next h') cf.results) fun vs=>Q (jy vs) (fin cf.body.noRange h.next h'):=by
  intro hq
  rw [hnr,hr]
  cases he:e[k]? with
  | none=>rw [he] at hq;exact hq.elim
  | some v =>
   rw [he] at hq
   simp only [kh] at hq
   cases hv:aR (.load agg size) [v] h'.get with
   | none=>rw [hv] at hq;exact hq.elim
   | some w=>rw [hv] at hq;simpa [xi,ResArg.get,he,hv,kh,jy,fin] using hq
 cases x with
 | exit i=>exact hq.elim
 | normal=>exact key hq
 | ret=>exact key hq
end Go.Eng
namespace Go.Eng
open Go
variable {P:Program}
def ldK (agg:Bool) (o size:Nat):Option AObj→Option Value
 | some (.blk cells _)=>qk agg o size cells
 | some (.tblk cells _ _)=>qk agg o size cells
 | _=>none
theorem aR_ld (agg:Bool) (size id o:Nat) (G:Nat→Option AObj):aR (.load agg size) [.pointer (some ⟨id,o,none⟩)] G=ldK agg o size (G id):=by
 simp only [aR]
 cases G id with
 | none=>rfl
 | some o=>cases o<;>rfl
theorem jw {p:Nat}{D:List Nat}{h h' : Heap}{Q:List Nat→Value→Heap→Prop}{v:Value}(hb:h.leBut p h') (hq:Q (p::D) v h'):zm1 D h Q v h' :=
 ⟨p::D,fun _ h=>List.mem_cons_of_mem _ h,fun id o hid hg=>.inl (by
  have:id≠p:=fun e=>hid (by simp [e])
  rw [hb.get id this (by rw [hg];rfl)];exact hg),hq⟩
theorem Q6 (agg:Bool) (o size:Nat) (cells:List Value) (e:TypeId) (full:Bool):ldK agg o size (some (.tblk cells e full))=qk agg o size cells:=rfl
end Go.Eng
namespace Go.Eng
open Go
variable {P:Program}
theorem VRs.plain_inv {ρ:Go.Eng.Ren}:∀ {l l' : List Value},(∀ v ∈ l,Value.plain v=true)→VRs ρ l l' → l' = l
 | [],_,_,h=>by cases h;rfl
 | v::r,_,h,hr=>by
  cases hr with
  | cons v v' r r' h1 hr=>rw [VR.plain_inv (h v (by simp)) h1,VRs.plain_inv (fun x hx=>h x (by simp [hx])) hr]
theorem Sim.below {base:Nat}{G:Nat→Option AObj}{ρ:Go.Eng.Ren}{w w' : World}(hS:Sim base G ρ w) (hb:RowKit.Below w.heap.size w w'):Sim base G ρ w' where
 dom:=hS.dom
 size:=Nat.le_trans hS.size hb.size
 rng:=fun id l hl=>Nat.lt_of_lt_of_le (hS.rng id l hl) hb.size
 obj:=fun id o l hg hl=>(hS.obj id o l hg hl).mono (Ren.le_refl _) (hb.block _ (hS.rng id l hl))
 inj:=hS.inj
 glob:=vi (fun b hb'=>hb.block b (Nat.lt_of_lt_of_le hb' hS.size)) hS.glob
theorem CallT.of_below {f:FuncId}{args:List Value}{v:Value}{h:Heap}(he:zl8 P f) (hpl:∀ a ∈ args,Value.plain a=true) (hv:Value.plain v=true)
  (hc:∀ base w,J6 base w→Calls P f args.toArray w fun e w'=>e = .returned v∧RowKit.Below w.heap.size w w'):CallT P f args h v h:=by
 refine ⟨he,Heap.step.refl h,fun base G ρ w args' hG hfr hS hargs=>?_⟩
 obtain rfl:=VRs.plain_inv hpl hargs
 refine (hc base w hS.glob).mono fun e w' ⟨h1,hb⟩=>⟨v,ρ,h1,Agree.refl _ _ _,.same v hv,?_,?_⟩
 ·exact Sim.congr (hS.below hb) (qu hG)
 ·have hbase:=hS.size
  refine ⟨hb.size,fun b hb'=>hb.block b (by omega),hb.tape,hb.os,hb.output,fun a ha=>?_⟩
  unfold World.frozen?
  rw [hb.block a.block (by omega)]
theorem zo (h:Heap) (c:List Value):∃ p h1,h.next=p∧h.alloc (.blk c true)=h1∧h1.get p=some (.blk c true)∧h.le h1:=⟨_,_,rfl,rfl,Heap.get_alloc_same h _,(Heap.le.refl h).alloc _⟩
end Go.Eng
namespace Go.Eng
open Go Go.Sort
variable {P:Program}
end Go.Eng
namespace Go.Eng
open Go
theorem za:(type_of% @W_skip) ∧
 (type_of% @W_reg) ∧
 (type_of% @W_seq) ∧
 (type_of% @yc8) ∧
 (type_of% @W_cond) ∧
 (type_of% @yc9) ∧
 (type_of% @W_loop) ∧
 (type_of% @W_exit) ∧
 (type_of% @W_ret) ∧
 (type_of% @Qj) ∧
 (type_of% @Kz) ∧
 (type_of% @Ug) ∧
 (type_of% @Y9) ∧
 (type_of% @Xo) ∧
 (type_of% @Kj) ∧
 (type_of% @zg2) ∧
 (type_of% @zt9) ∧
 (type_of% @cndK_t) ∧
 (type_of% @cndK_f) ∧
 (type_of% @zl7) ∧
 (type_of% @za8) ∧
 (type_of% @za7) ∧
 (type_of% @U4) ∧
 (type_of% @zx1) ∧
 (type_of% @zx4) ∧
 (type_of% @zx2) ∧
 (type_of% @zx3) ∧
 (type_of% @Xk) ∧
 (type_of% @actK_p) ∧
 (type_of% @actK_r) ∧
 (type_of% @actK_a) ∧
 (type_of% @actK_w) ∧
 (type_of% @za5) ∧
 (type_of% @Xq) ∧
 (type_of% @wx) ∧
 (type_of% @yc6) ∧
 (type_of% @Km) ∧
 (type_of% @zt8) ∧
 (type_of% @zt7) ∧
 (type_of% @Uz) ∧
 (type_of% @Xp) ∧
 (type_of% @Ku) ∧
 (type_of% @zg0) ∧
 (type_of% @Jo) ∧
 (type_of% @zg1) ∧
 (type_of% @Jp) ∧
 (type_of% @Uq) ∧
 (type_of% @Uh) ∧
 (type_of% @Uo) ∧
 (type_of% @K5) ∧
 (type_of% @zf9) ∧
 (type_of% @Up) ∧
 (type_of% @Uv) ∧
 (type_of% @zu6) ∧
 (type_of% @List.getElem?_cons_zero.{0}) ∧
 (type_of% @List.getElem?_cons_succ.{0}) ∧
 (type_of% @List.getD_cons_zero.{0}) ∧
 (type_of% @List.getD_cons_succ.{0}) ∧
 (type_of% @List.set_cons_zero.{0}) ∧
 (type_of% @List.set_cons_succ.{0}) ∧
 (type_of% @Nat.zero_add) ∧
 (type_of% @Nat.add_zero) ∧
 (type_of% @List.getElem?_toArray.{0}) ∧
 (type_of% @List.take_zero.{0}) ∧
 (type_of% @List.drop_zero.{0}) ∧
 (type_of% @List.take_succ_cons.{0}) ∧
 (type_of% @List.drop_succ_cons.{0}) ∧
 (type_of% @if_true.{1}) ∧
 (type_of% @if_false.{1}) ∧
 (type_of% @decide_true) ∧
 (type_of% @decide_false) ∧
 (type_of% @Bool.false_eq_true) ∧
 (type_of% @Bool.true_eq_false) ∧
 (type_of% @Bool.not_true) ∧
 (type_of% @Bool.not_false) ∧
 (type_of% @not_true_eq_false) ∧
 (type_of% @not_false_eq_true) ∧
 (type_of% @ge_iff_le.{0}) ∧
 (type_of% @gt_iff_lt.{0}) ∧
 (type_of% @beq_self_eq_true.{0}) ∧
 (type_of% @bne_self_eq_false.{0}) ∧
 (type_of% @and_self) ∧
 (type_of% @and_true) ∧
 (type_of% @true_and) ∧
 (type_of% @Option.isSome_some.{0}) ∧
 (type_of% @Heap.get_alloc_same) ∧
 (type_of% @Heap.alloc_getE) ∧
 (type_of% @Kk) ∧
 (type_of% @evs.eq_1) ∧
 (type_of% @evs.eq_2) ∧
 (type_of% @Arg.ev.eq_1) ∧
 (type_of% @Arg.ev.eq_2) ∧
 (type_of% @Arg.ev.eq_3) ∧
 (type_of% @Arg.ev.eq_4) ∧
 (type_of% @aP.eq_1) ∧
 (type_of% @aP.eq_2) ∧
 (type_of% @aP.eq_3) ∧
 (type_of% @aP.eq_4) ∧
 (type_of% @aP.eq_5) ∧
 (type_of% @aP.eq_6) ∧
 (type_of% @aP.eq_7) ∧
 (type_of% @aP.eq_8) ∧
 (type_of% @aP.eq_9) ∧
 (type_of% @aP.eq_10) ∧
 (type_of% @aP.eq_11) ∧
 (type_of% @aP.eq_12) ∧
 (type_of% @aP.eq_13) ∧
 (type_of% @aP.eq_14) ∧
 (type_of% @aP.eq_15) ∧
 (type_of% @aP.eq_16) ∧
 (type_of% @aP.eq_17) ∧
 (type_of% @aP.eq_18) ∧
 (type_of% @aP.eq_19) ∧
 (type_of% @aP.eq_20) ∧
 (type_of% @aP.eq_21) ∧
 (type_of% @aP.eq_22) ∧
 (type_of% @aP.eq_23) ∧
 (type_of% @aP.eq_24) ∧
 (type_of% @aP.eq_25) ∧
 (type_of% @aP.eq_26) ∧
 (type_of% @aP.eq_27) ∧
 (type_of% @aP.eq_28) ∧
 (type_of% @aP.eq_29) ∧
 (type_of% @aP.eq_30) ∧
 (type_of% @aA.eq_1) ∧
 (type_of% @aA.eq_2) ∧
 (type_of% @aA.eq_3) ∧
 (type_of% @aA.eq_4) ∧
 (type_of% @pMov.eq_1) ∧
 (type_of% @pBin.eq_1) ∧
 (type_of% @pUn.eq_1) ∧
 (type_of% @pConv.eq_1) ∧
 (type_of% @pPick.eq_1) ∧
 (type_of% @pFieldAddr.eq_1) ∧
 (type_of% @pNilCheck.eq_1) ∧
 (type_of% @pNilCheck.eq_2) ∧
 (type_of% @pNilCheck.eq_3) ∧
 (type_of% @pExtract.eq_1) ∧
 (type_of% @aUn.eq_1) ∧
 (type_of% @aUn.eq_2) ∧
 (type_of% @aUn.eq_4) ∧
 (type_of% @aUn.eq_5) ∧
 (type_of% @aNew.eq_1) ∧
 (type_of% @upd.eq_1) ∧
 (type_of% @upd.eq_2) :=
 ⟨@W_skip,@W_reg,@W_seq,@yc8,@W_cond,@yc9,@W_loop,@W_exit,@W_ret,@Qj,@Kz,@Ug,@Y9,@Xo,@Kj,@zg2,@zt9,@cndK_t,@cndK_f,@zl7,@za8,@za7,@U4,@zx1,@zx4,@zx2,@zx3,@Xk,@actK_p,@actK_r,@actK_a,@actK_w,@za5,@Xq,@wx,@yc6,@Km,@zt8,@zt7,@Uz,@Xp,@Ku,@zg0,@Jo,@zg1,@Jp,@Uq,@Uh,@Uo,@K5,@zf9,@Up,@Uv,@zu6,@List.getElem?_cons_zero.{0},@List.getElem?_cons_succ.{0},@List.getD_cons_zero.{0},@List.getD_cons_succ.{0},@List.set_cons_zero.{0},@List.set_cons_succ.{0},@Nat.zero_add,@Nat.add_zero,@List.getElem?_toArray.{0},@List.take_zero.{0},@List.drop_zero.{0},@List.take_succ_cons.{0},@List.drop_succ_cons.{0},@if_true.{1},@if_false.{1},@decide_true,@decide_false,@Bool.false_eq_true,@Bool.true_eq_false,@Bool.not_true,@Bool.not_false,@not_true_eq_false,@not_false_eq_true,@ge_iff_le.{0},@gt_iff_lt.{0},@beq_self_eq_true.{0},@bne_self_eq_false.{0},@and_self,@and_true,@true_and,@Option.isSome_some.{0},@Heap.get_alloc_same,@Heap.alloc_getE,@Kk,@evs.eq_1,@evs.eq_2,@Arg.ev.eq_1,@Arg.ev.eq_2,@Arg.ev.eq_3,@Arg.ev.eq_4,@aP.eq_1,@aP.eq_2,@aP.eq_3,@aP.eq_4,@aP.eq_5,@aP.eq_6,@aP.eq_7,@aP.eq_8,@aP.eq_9,@aP.eq_10,@aP.eq_11,@aP.eq_12,@aP.eq_13,@aP.eq_14,@aP.eq_15,@aP.eq_16,@aP.eq_17,@aP.eq_18,@aP.eq_19,@aP.eq_20,@aP.eq_21,@aP.eq_22,@aP.eq_23,@aP.eq_24,@aP.eq_25,@aP.eq_26,@aP.eq_27,@aP.eq_28,@aP.eq_29,@aP.eq_30,@aA.eq_1,@aA.eq_2,@aA.eq_3,@aA.eq_4,@pMov.eq_1,@pBin.eq_1,@pUn.eq_1,@pConv.eq_1,@pPick.eq_1,@pFieldAddr.eq_1,@pNilCheck.eq_1,@pNilCheck.eq_2,@pNilCheck.eq_3,@pExtract.eq_1,@aUn.eq_1,@aUn.eq_2,@aUn.eq_4,@aUn.eq_5,@aNew.eq_1,@upd.eq_1,@upd.eq_2⟩
end Go.Eng
namespace Go.Eng
open Go Go.ChangeShapes Go.WideShapes Go.ChangeAt
variable {P:Program}{H:Type}{enc:TypeId × Value→H}
end Go.Eng
namespace Go.Eng
open Go
variable {P:Program}
section
variable {ops:Array Oper}{Q:Exit→Act→List Frame→World→Prop}{rest:List Nat}{a:Act}{cs:List Frame}{w:World}{i:Nat}{o:Oper}
end
end Go.Eng
namespace Go.Eng
open Go
variable {P:Program}
end Go.Eng
namespace Go.Eng
open Go
variable {P:Program}
section
variable {PR:PanR}
end
end Go.Eng
namespace Go.Eng
open Go
variable {P:Program}
section
variable {ops:Array Oper}{Q:Exit→Act→List Frame→World→Prop}{rest:List Nat}{a:Act}{cs cs' : List Frame}{w:World}{i:Nat}{o:Oper}
end
abbrev ptr0 (id:Nat):Value:=.pointer (some ⟨id,0,none⟩)
end Go.Eng
