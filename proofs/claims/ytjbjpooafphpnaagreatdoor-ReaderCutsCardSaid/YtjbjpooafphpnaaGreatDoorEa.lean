/-
  Part of a proof of the laws of layer 07 (reader): an order-free machine for the code, and that it is sound.
  Conditions: none.
-/
import Derived.OrdersIn
import Derived.Lib.LaidTab
import Derived.Lib.ItoaNum
import Derived.Laws.AppendOwn
import GoSem.ClaimKeys
import Derived.Lib.Bytealg
import Derived.DeepKeys2
import Derived.Maps.Keyed
import Derived.DeepKeys4
import Derived.Laws.StructEq
import Derived.Laws.Externs
import Derived.Lib.Builder
import Derived.Lib.UnsafeStr
import Derived.Laws.BytesString
import Derived.Laws.BytesArg
import Derived.RangeFuncRecord
import Derived.Lib.ConvBytes
import Derived.Lib.AtoiErrMem
namespace Go.Eng
open Go
def LK:List Nat:=[6,7]
def Vj:List (Nat × List Value):=[(0,Lib.pow10Tab.map fun z=>Value.int .u64 z)]
def tS(base:Nat)(w:World):Prop:=(∀ b∈LK,b<base∧∃ xL xC,w.cell? ⟨b,0,none⟩=some (.iface xL xC))∧∀ t∈Vj,t.1<base∧∃ el fz,w.heap[t.1]?=some (.cells t.2.toArray el fz)
theorem C0{base:Nat}{w w':World}(h:∀ b,b<base→w'.heap[b]?=w.heap[b]?)(aA:tS base w):tS base w' :=
 ⟨fun b T=>by
  obtain⟨A,xL,xC,S⟩:=aA.1 b T;exact⟨A,xL,xC,by rw[← S];unfold World.cell?;rw[h b A]⟩,fun t aC=>by
  obtain⟨A,el,fz,S⟩:=aA.2 t aC;exact⟨A,el,fz,by rw[h _ A];exact S⟩⟩
theorem YE{base WF:Nat}{w:World}(h:base≤WF)(aA:tS base w):tS WF w:=⟨fun b T=>let ⟨A,r⟩:=aA.1 b T;⟨Nat.lt_of_lt_of_le A h,r⟩,fun t aC=>let ⟨A,r⟩:=aA.2 t aC;⟨Nat.lt_of_lt_of_le A h,r⟩⟩
structure Loc where
 b:Nat
 dB:Nat
 iu:Nat
abbrev Ren:=Nat→Option Loc
def Value.plain:Value→Bool
 |.bool _|.int ..|.float ..|.complex ..|.string _|.pointer none|.slice none 0 0|.map none|.chan none|.nilFunc|.nilIface=>true
 |.tuple vs=>vs.isEmpty
 |.iface _ (.int ..)|.iface _ (.string _)|.iface _ (.bool _)=>true
 |_=>false
mutual
inductive bL(al:Ren):Value→Value→Prop
 |same (v:Value) (h:Value.plain v=true):bL al v v
 |ptr (id off:Nat) (l:Loc) (h:al id=some l):bL al (.pointer (some ⟨id,off,none⟩)) (.pointer (some ⟨l.b,off+l.dB,none⟩))
 |slice (id off eW len s cap:Nat) (l:Loc) (h:al id=some l) (ag:len≤cap)
   (ah:(eW=off+l.dB∧off+l.dB+cap*s≤l.iu)∨(len=0∧cap=0)) :
   bL al (.slice (some ⟨id,off,none⟩) len s) (.slice (some ⟨l.b,eW,none⟩) len cap)
 /-- a slice arg atA is its length -/
 |clip (id off eW len s m:Nat) (l:Loc) (h:al id=some l) (ah:(eW=off+l.dB∧off+l.dB+len*s≤l.iu)∨len=0) :
   bL al (.slice (some ⟨id,off,some m⟩) len s) (.slice (some ⟨l.b,eW,none⟩) len len)
 |map (id:Nat) (l:Loc) (h:al id=some l) (ak:l.dB=0):bL al (.map (some id)) (.map (some l.b))
 |func (f:FuncId) (a a' c fl:List Value) (ai:be al a a') (aj:be al c fl):bL al (.func (.func f) a.toArray c.toArray) (.func (.func f) a'.toArray fl.toArray)
 |yield (l:Nat) (df:Loc) (h:al l=some df):bL al (.func (.yield l) #[] #[]) (.func (.yield df.b) #[] #[])
 |iface (t:TypeId) (v v':Value) (h:bL al v v'):bL al (.iface t v) (.iface t v')
 |agg (cs cs':List Value) (h:be al cs cs') (A:∀ c∈cs,c.oneCell'=true):bL al (.agg cs.toArray) (.agg cs'.toArray)
 |tuple (cs cs':List Value) (h:be al cs cs'):bL al (.tuple cs.toArray) (.tuple cs'.toArray)
inductive be(al:Ren):List Value→List Value→Prop
 |nil:be al [] []
 |cons (v v':Value) (r dL:List Value) (h:bL al v v') (hr:be al r dL):be al (v::r) (v'::dL)
end
def Ren.le(al bd:Ren):Prop:=∀ id l,al id=some l→bd id=some l
mutual
theorem bL.mono{al bd:Ren}(bX:al.le bd):∀ {v v':Value},bL al v v'→bL bd v v'
 |_,_,.same v h=>.same v h
 |_,_,.ptr id off l h=>.ptr id off l (bX _ _ h)
 |_,_,.slice id off eW len s cap l h ag ah=>.slice id off eW len s cap l (bX _ _ h) ag ah
 |_,_,.clip id off eW len s m l h ah=>.clip id off eW len s m l (bX _ _ h) ah
 |_,_,.map id l h ak=>.map id l (bX _ _ h) ak
 |_,_,.func f a a' c fl ai aj=>.func f a a' c fl (be.mono bX ai) (be.mono bX aj)
 |_,_,.yield l df h=>.yield l df (bX _ _ h)
 |_,_,.iface t v v' h=>.iface t v v' (bL.mono bX h)
 |_,_,.agg cs cs' h A=>.agg cs cs' (be.mono bX h) A
 |_,_,.tuple cs cs' h=>.tuple cs cs' (be.mono bX h)
theorem be.mono{al bd:Ren}(bX:al.le bd):∀ {v v':List Value},be al v v'→be bd v v'
 |_,_,.nil=>.nil
 |_,_,.cons v v' r dL h hr=>.cons v v' r dL (bL.mono bX h) (be.mono bX hr)
end
theorem be.length{al:Ren}:∀ {v v':List Value},be al v v'→v.length=v'.length
 |_,_,.nil=>rfl
 |_,_,.cons _ _ _ _ _ hr=>by simp[be.length hr]
theorem be.get{al:Ren}:∀ {v v':List Value},be al v v'→∀(i:Nat) (x:Value),v[i]?=some x→∃ hZ,v'[i]?=some hZ∧bL al x hZ
 |_,_,.nil,i,x,h=>by simp at h
 |_,_,.cons a a' r dL h hr,0,x,af=>by simp at af;subst af;exact⟨a',by simp,h⟩
 |_,_,.cons a a' r dL h hr,i+1,x,af=>by
  obtain⟨hZ,A,S⟩:=be.get hr i x (by simpa using af);exact⟨hZ,by simpa using A,S⟩
theorem be.abH{al:Ren}:∀ {v v':List Value},v.length=v'.length→(∀(i:Nat) (x hZ:Value),v[i]?=some x→v'[i]?=some hZ→bL al x hZ)→be al v v'
 |[],[],_,_=>.nil
 |[],_::_,h,_=>by simp at h
 |_::_,[],h,_=>by simp at h
 |a::r,a'::dL,ag,h=>.cons a a' r dL (h 0 a a' (by simp) (by simp)) (be.abH (by simpa using ag) fun i x hZ af gG=>h (i+1) x hZ (by simpa using af) (by simpa using gG))
theorem be.append{al:Ren}:∀ {a a' b b':List Value},be al a a'→be al b b'→be al (a++b) (a'++b')
 |_,_,_,_,.nil,h=>h
 |_,_,_,_,.cons x hZ r dL h hr,T=>.cons x hZ _ _ h (be.append hr T)
theorem be.take{al:Ren}:∀ {a a':List Value}(n:Nat),be al a a'→be al (a.take n) (a'.take n)
 |_,_,0,_=>by simpa using be.nil
 |_,_,n+1,.nil=>by simpa using be.nil
 |_,_,n+1,.cons x hZ r dL h hr=>by simpa using be.cons x hZ _ _ h (be.take n hr)
theorem be.drop{al:Ren}:∀ {a a':List Value}(n:Nat),be al a a'→be al (a.drop n) (a'.drop n)
 |_,_,0,h=>by simpa using h
 |_,_,n+1,.nil=>by simpa using be.nil
 |_,_,n+1,.cons x hZ r dL h hr=>by simpa using be.drop n hr
theorem be.plain{al:Ren}:∀ {l:List Value},(∀ v∈l,Value.plain v=true)→be al l l
 |[],_=>.nil
 |v::r,h=>.cons v v r r (.same v (h v (by simp))) (be.plain fun x af=>h x (by simp[af]))
theorem bL.Up{al:Ren}{v v':Value}(h:bL al v v'):v'.oneCell'=v.oneCell':=by
 cases h<;>first|rfl|(simp[Value.oneCell'])
theorem bL.cells{al:Ren}{v v':Value}(h:bL al v v'):be al v.cells.toList v'.cells.toList:=by
 cases h with
 |agg cs cs' h A=>simpa[Value.cells] using h
 |same v h =>
  have:∀ v:Value,Value.plain v=true→be al v.cells.toList v.cells.toList:=by
   intro v ad;cases v<;>first|(simp[Value.plain]at ad;done)|exact .cons _ _ _ _ (.same _ ad) .nil
  exact this v h
 |ptr id off l h=>exact .cons _ _ _ _ (.ptr id off l h) .nil
 |slice id off eW len s cap l h ag ah=>exact .cons _ _ _ _ (.slice id off eW len s cap l h ag ah) .nil
 |clip id off eW len s m l h ah=>exact .cons _ _ _ _ (.clip id off eW len s m l h ah) .nil
 |map id l h ak=>exact .cons _ _ _ _ (.map id l h ak) .nil
 |func f a a' c fl ai aj=>exact .cons _ _ _ _ (.func f a a' c fl ai aj) .nil
 |yield l df h=>exact .cons _ _ _ _ (.yield l df h) .nil
 |iface t v v' h=>exact .cons _ _ _ _ (.iface t v v' h) .nil
 |tuple cs cs' h=>exact .cons _ _ _ _ (.tuple cs cs' h) .nil
inductive bQ where
 |dead
 |aq (cells:List Value) (own:Bool)
 /-- an own apF arg as0 type is at4; li: atG arA all of its cells -/
 |gg (cells:List Value) (e:TypeId) (li:Bool)
 |map (es:List (Value × Value)) (own:Bool)
 |loop (env:List Value) (vars:List Nat) (N:Nat) (ok:Array Tmp→Code→Code→Prop) (bu:LoopState) (D9:Option Code)
 |k0
def bQ.own:bQ→Bool
 |.aq _ o|.map _ o=>o
 |.loop ..|.k0|.gg ..=>true
 |.dead=>false
structure J where
 next:Nat
 get:Nat→Option bQ
 wf:∀ id,next≤id→get id=none
def J.alloc(h:J)(o:bQ):J where
 next:=h.next+1
 get:=fun id=>if id=h.next then some o else h.get id
 wf:=fun id cQ=>by
  have A:id≠h.next:=by omega
  simp only[A,if_false];exact h.wf id (by omega)
def J.set(h:J)(i:Nat)(o:bQ):J where
 next:=h.next
 get:=fun id=>if id=i∧i<h.next then some o else h.get id
 wf:=fun id cQ=>by
  have A:¬(id=i∧i<h.next):=by omega
  simp only[A,if_false];exact h.wf id cQ
@[simp] theorem J.zN (h:J) (o:bQ):(h.alloc o).next=h.next+1:=rfl
@[simp] theorem J.HL (h:J) (i:Nat) (o:bQ):(h.set i o).next=h.next:=rfl
theorem J.tR(h:J)(o:bQ)(id:Nat):(h.alloc o).get id=if id=h.next then some o else h.get id:=rfl
@[simp] theorem J.hy (h:J) (o:bQ):(h.alloc o).get h.next=some o:=by simp[J.tR]
theorem J.oH{h:J}{o:bQ}{id:Nat}(ag:id<h.next):(h.alloc o).get id=h.get id:=by
 have:id≠h.next:=by omega
 simp[J.tR,this]
theorem J.qG(h:J)(i:Nat)(o:bQ)(id:Nat):(h.set i o).get id=if id=i∧i<h.next then some o else h.get id:=rfl
theorem J.bY{h:J}{id:Nat}{o:bQ}(aA:h.get id=some o):id<h.next:=by
 rcases Nat.lt_or_ge id h.next with A|A
 ·exact A
 ·rw[h.wf id A]at aA;cases aA
def J.ext(h D:J):Prop:=∀ id o,h.get id=some o→D.get id=some o∨D.get id=some .dead
def J.sub(h D:J):Prop:=∀ id o,h.get id=some o→D.get id=some o
structure J.step(h D:J):Prop where
 next:h.next≤D.next
 gC:∀ id,(h.get id).isSome=true→(D.get id).isSome=true
 back:∀ id,id<h.next→h.get id=none→D.get id=none
 k0:∀ id,h.get id=some .k0→D.get id=some .k0
def over(h:J)(G:Nat→Option bQ):Nat→Option bQ:=fun id=>(h.get id).or (G id)
structure kz(al:Ren)(N:Nat)(vars:List Nat)(env:List Value)(tmps:Array Value):Prop where
 size:tmps.size=N
 len:vars.length=env.length
 get:∀(k s:Nat) (v:Value),vars[k]?=some s→env[k]?=some v→∃ v',tmps[s]?=some v'∧bL al v v'
theorem kz.mono{al bd:Ren}(bX:al.le bd){N:Nat}{vars:List Nat}{env:List Value}{tmps:Array Value}(h:kz al N vars env tmps):kz bd N vars env tmps :=
 ⟨h.size,h.len,fun k s v ab ad=>let ⟨v',a,b⟩:=h.get k s v ab ad;⟨v',a,bL.mono bX b⟩⟩
def Nb(al:Ren)(e:Value × Value)(cA:MapEntry):Prop:=bL al e.1 cA.key∧bL al e.2 cA.val
def nA(base:Nat)(al:Ren)(w:World)(l:Loc):bQ→Prop
 |.dead=>True
 |.aq cells own=>∃ cs el fz,w.heap[l.b]?=some (.cells cs el fz)∧cs.size=l.iu∧l.dB+cells.length≤cs.size ∧
   (∀(i:Nat) v,cells[i]?=some v→∃ v',cs[l.dB+i]?=some v'∧bL al v v'∧v.oneCell'=true) ∧
   (own=true→l.dB=0∧fz=(0,0)∧base≤l.b)
 |.gg cells e li=>∃ cs,w.heap[l.b]?=some (.cells cs e (0,0))∧cs.size=l.iu∧cells.length≤cs.size ∧
   (∀(i:Nat) v,cells[i]?=some v→∃ v',cs[i]?=some v'∧bL al v v'∧v.oneCell'=true)∧(li=true→cells.length=cs.size)∧l.dB=0∧base≤l.b
 |.map es own=>∃ h3 sZ,w.heap[l.b]?=some (.map h3 sZ)∧es.length=h3.size∧(∀(i:Nat) e,es[i]?=some e→∃ cA,h3[i]?=some cA∧Nb al e cA) ∧
   (∀(i j:Nat) a b,h3[i]?=some a→h3[j]?=some b→a.key=b.key→i=j)∧(own=true→base≤l.b)
 |.loop env vars N ok bu D9=>l.dB=0∧base≤l.b∧∃ r:Loop,w.heap[l.b]?=some (.loop r)∧r.state=bu∧r.pending=D9∧ok r.params r.assign r.body∧kz al N vars env r.tmps
 |.k0=>l.dB=0∧base≤l.b∧w.heap[l.b]?=some (.deferred (some []))
structure b1(base:Nat)(G:Nat→Option bQ)(al:Ren)(w:World):Prop where
 gC:∀ id,(G id).isSome=(al id).isSome
 size:base≤w.heap.size
 lE:∀ id l,al id=some l→l.b<w.heap.size
 obj:∀ id o l,G id=some o→al id=some l→nA base al w l o
 inj:∀ i j hE BQ zJ hl,G i=some hE→G j=some BQ→al i=some zJ→al j=some hl→i≠j→hE.own=true→BQ≠.dead→zJ.b≠hl.b
 nJ:tS base w
structure gi(base:Nat)(w w':World):Prop where
 size:w.heap.size≤w'.heap.size
 low:∀ b,b<base→w'.heap[b]?=w.heap[b]?
 tape:w'.tape=w.tape
 os:w'.os=w.os
 output:w'.output=w.output
 CZ:∀ a:Addr,a.block<base→w'.frozen? a=w.frozen? a
theorem gi.refl(base:Nat)(w:World):gi base w w:=⟨Nat.le_refl _,fun _ _=>rfl,rfl,rfl,rfl,fun _ _=>rfl⟩
theorem gi.trans{base:Nat}{w er dd:World}(h:gi base w er)(D:gi base er dd):gi base w dd :=
 ⟨Nat.le_trans h.size D.size,fun b T=>(D.low b T).trans (h.low b T),D.tape.trans h.tape,D.os.trans h.os,D.output.trans h.output,fun a ai=>(D.CZ a ai).trans (h.CZ a ai)⟩
theorem Fv(w:World)(o:Obj)(ah:(∃ c t,o=.cells c t (0,0))∨∀ c t f,o≠.cells c t f)(a:Addr):(w.alloc o).frozen? a=w.frozen? a:=by
 by_cases h:a.block=w.heap.size
 ·have az:(w.alloc o).heap[a.block]?=some o:=by rw[h];show(w.heap.push o)[w.heap.size]?=some o;simp
  have aL:w.heap[a.block]?=none:=by rw[h];simp
  rcases ah with⟨c,t,rfl⟩|ah
  ·simp[World.frozen?,az,aL]
  ·simp only[World.frozen?,az,aL];cases o<;>first|rfl|exact absurd rfl (ah _ _ _)
 ·exact World.frozen?_alloc_old _ _ _ h
theorem YB{w w':World}(h:∀ b:Nat,w'.heap[b]?=w.heap[b]?∨(∃ c t f fl mV,w.heap[b]?=some (Obj.cells c t f)∧w'.heap[b]?=some (Obj.cells fl mV f))∨((∀ c t f,w.heap[b]?≠some (Obj.cells c t f))∧∀ c t f,w'.heap[b]?≠some (Obj.cells c t f)))(a:Addr):w'.frozen? a=w.frozen? a:=by
 simp only[World.frozen?];rcases h a.block with e|⟨c,t,f,fl,mV,az,aL⟩|⟨az,aL⟩
 ·rw[e]
 ·rw[az,aL]
 ·split
  ·rename_i cp;exact absurd cp (aL _ _ _)
  ·split
   ·rename_i cp;exact absurd cp (az _ _ _)
   ·rfl
theorem nA.mono{base:Nat}{al bd:Ren}(bX:al.le bd){w w':World}{l:Loc}(T:w'.heap[l.b]?=w.heap[l.b]?):∀ {o:bQ},nA base al w l o→nA base bd w' l o
 |.dead,_=>trivial
 |.aq cells own,h=>by
  obtain⟨cs,el,fz,A,S,ae,aB,aG⟩:=h;exact⟨cs,el,fz,T.trans A,S,ae,fun i v ad=>let ⟨v',a,b,c⟩:=aB i v ad;⟨v',a,bL.mono bX b,c⟩,aG⟩
 |.gg cells e li,h=>by
  obtain⟨cs,A,S,ae,aB,aG⟩:=h;exact⟨cs,T.trans A,S,ae,fun i v ad=>let ⟨v',a,b,c⟩:=aB i v ad;⟨v',a,bL.mono bX b,c⟩,aG⟩
 |.map es own,h=>by
  obtain⟨h3,sZ,A,S,ae,aB⟩:=h;exact⟨h3,sZ,T.trans A,S,fun i e aK=>let ⟨cA,a,b,c⟩:=ae i e aK;⟨cA,a,bL.mono bX b,bL.mono bX c⟩,aB⟩
 |.loop env vars N ok bu D9,h=>by
  obtain⟨h0,A,r,S,ae,aB,aG,a1⟩:=h;exact⟨h0,A,r,T.trans S,ae,aB,aG,a1.mono bX⟩
 |.k0,h=>⟨h.1,h.2.1,T.trans h.2.2⟩
def Ren.put(al:Ren)(i:Nat)(l:Loc):Ren:=fun id=>if id=i then some l else al id
def fS(G:Nat→Option bQ)(i:Nat)(o:bQ):Nat→Option bQ:=fun id=>if id=i then some o else G id
theorem Ren.le_refl(al:Ren):al.le al:=fun _ _ h=>h
theorem Ren.le_trans{a b c:Ren}(h:a.le b)(D:b.le c):a.le c:=fun i l au=>D i l (h i l au)
theorem Ren.vG{al:Ren}{i:Nat}(h:al i=none)(l:Loc):al.le (al.put i l):=by
 intro id df ag;unfold Ren.put;by_cases e:id=i
 ·subst e;rw[h]at ag;cases ag
 ·simp[e,ag]
theorem b1.heap{base:Nat}{G:Nat→Option bQ}{al:Ren}{w w':World}(h:b1 base G al w)(aK:w'.heap=w.heap):b1 base G al w' where
 gC:=h.gC
 size:=by rw[aK];exact h.size
 lE:=fun id l ag=>by rw[aK];exact h.lE id l ag
 obj:=fun id o l aA ag=>(h.obj id o l aA ag).mono (Ren.le_refl _) (by rw[aK])
 inj:=h.inj
 nJ:=C0 (fun b _=>by rw[aK]) h.nJ
theorem b1.congr{base:Nat}{G qo:Nat→Option bQ}{al:Ren}{w:World}(h:b1 base G al w)(aK:∀ id,qo id=G id):b1 base qo al w:=by
 have:qo=G:=funext aK;rw[this];exact h
theorem b1.alloc{base:Nat}{G:Nat→Option bQ}{al:Ren}{w w':World}(h:b1 base G al w)(i:Nat)(o:bQ)(l:Loc)(au:al i=none)
  (ag:w.heap.size≤l.b) (ak:l.b<w'.heap.size) (gF:∀ b,b<w.heap.size→w'.heap[b]?=w.heap[b]?) (iD:w.heap.size≤w'.heap.size)
  (ah:nA base (al.put i l) w' l o):b1 base (fS G i o) (al.put i l) w' where
 gC:=fun id=>by
  unfold fS Ren.put;by_cases e:id=i
  ·simp[e]
  ·simp[e,h.gC id]
 size:=Nat.le_trans h.size iD
 lE:=fun id df cW=>by
  unfold Ren.put at cW;by_cases e:id=i
  ·simp[e]at cW;subst cW;exact ak
  ·simp[e]at cW;exact Nat.lt_of_lt_of_le (h.lE id df cW) iD
 obj:=fun id gl df aA cW=>by
  unfold fS at aA;unfold Ren.put at cW;by_cases e:id=i
  ·simp[e]at aA cW;subst aA;subst cW;exact ah
  ·simp[e]at aA cW;exact(h.obj id gl df aA cW).mono (Ren.vG au l) (gF _ (h.lE id df cW))
 nJ:=C0 (fun b T=>gF b (Nat.lt_of_lt_of_le T h.size)) h.nJ
 inj:=fun a b xy xz mM nQ jE jQ ld lC cH hU hd=>by
  unfold fS at jE jQ;unfold Ren.put at ld lC;by_cases c8:a=i
  ·by_cases iO:b=i
   ·omega
   ·simp[c8]at ld;simp[iO]at lC;subst ld;have:=h.lE b nQ lC;omega
  ·by_cases iO:b=i
   ·simp[iO]at lC;simp[c8]at ld;subst lC;have:=h.lE a mM ld;omega
   ·simp[c8]at jE ld;simp[iO]at jQ lC;exact h.inj a b xy xz mM nQ jE jQ ld lC cH hU hd
theorem b1.write{base:Nat}{G:Nat→Option bQ}{al:Ren}{w w':World}(h:b1 base G al w)(i:Nat)(hE o:bQ)(l:Loc)(aA:G i=some hE)(ag:al i=some l)
  (hU:hE.own=true) (iD:w'.heap.size=w.heap.size) (gF:∀ b,b≠l.b→w'.heap[b]?=w.heap[b]?) (ah:nA base al w' l o):b1 base (fS G i o) al w' where
 gC:=fun id=>by
  unfold fS;by_cases e:id=i
  ·simp[e,ag]
  ·simp[e,h.gC id]
 size:=by rw[iD];exact h.size
 lE:=fun id df cW=>by rw[iD];exact h.lE id df cW
 obj:=fun id gl df lR cW=>by
  unfold fS at lR;by_cases e:id=i
  ·simp[e]at lR;subst e;rw[ag]at cW;cases cW;subst lR;exact ah
  ·simp[e]at lR;by_cases hd:gl=.dead
   ·subst hd;trivial
   ·exact(h.obj id gl df lR cW).mono (Ren.le_refl _) (gF _ (fun cA=>h.inj i id hE gl l df aA lR ag cW (fun aL=>e aL.symm) hU hd cA.symm))
 nJ:=C0 (fun b T=>gF b (by
  have hr:=h.obj i hE l aA ag;have:base≤l.b:=by
   cases hE with
   |dead=>cases hU
   |aq cells own=>obtain⟨_,_,_,_,_,_,_,aG⟩:=hr;exact(aG hU).2.2
   |gg=>obtain⟨_,_,_,_,_,_,_,aG⟩:=hr;exact aG
   |map es own=>obtain⟨_,_,_,_,_,_,aG⟩:=hr;exact aG hU
   |loop=>exact hr.2.1
   |k0=>exact hr.2.1
  omega)) h.nJ
 inj:=fun a b xy xz mM nQ jE jQ ld lC cH lU hd=>by
  unfold fS at jE jQ;by_cases c8:a=i
  ·subst c8;have iO:b≠a:=fun e=>cH e.symm;simp[iO]at jQ;exact h.inj a b hE xz mM nQ aA jQ ld lC cH hU hd
  ·simp[c8]at jE;by_cases iO:b=i
   ·subst iO;exact h.inj a b xy hE mM nQ jE aA ld lC cH lU (by intro e;subst e;simp[bQ.own]at hU)
   ·simp[iO]at jQ;exact h.inj a b xy xz mM nQ jE jQ ld lC cH lU hd
theorem b1.kill{base:Nat}{G:Nat→Option bQ}{al:Ren}{w:World}(h:b1 base G al w)(i:Nat)(au:(G i).isSome=true):b1 base (fS G i .dead) al w where
 gC:=fun id=>by
  unfold fS;by_cases e:id=i
  ·have:=h.gC i;rw[au]at this;simp[e,← this]
  ·simp[e,h.gC id]
 size:=h.size
 lE:=h.lE
 obj:=fun id gl df lR cW=>by
  unfold fS at lR;by_cases e:id=i
  ·simp[e]at lR;subst lR;trivial
  ·simp[e]at lR;exact h.obj id gl df lR cW
 nJ:=h.nJ
 inj:=fun a b xy xz mM nQ jE jQ ld lC cH lU hd=>by
  unfold fS at jE jQ;by_cases c8:a=i
  ·simp[c8]at jE;subst jE;simp[bQ.own]at lU
  ·simp[c8]at jE;by_cases iO:b=i
   ·simp[iO]at jQ;exact absurd jQ.symm hd
   ·simp[iO]at jQ;exact h.inj a b xy xz mM nQ jE jQ ld lC cH lU hd
theorem b1.move{base:Nat}{G:Nat→Option bQ}{al:Ren}{w w':World}(h:b1 base G al w)(i j:Nat)(hE o:bQ)(l:Loc)(aA:G i=some hE)(ag:al i=some l)(bn:al j=none)
  (hU:hE.own=true) (iD:w'.heap.size=w.heap.size) (gF:∀ b,b≠l.b→w'.heap[b]?=w.heap[b]?) (ah:nA base (al.put j l) w' l o) :
  b1 base (fS (fS G i .dead) j o) (al.put j l) w':=by
 have Gk:i≠j:=fun e=>by subst e;rw[ag]at bn;cases bn
 refine⟨fun id=>?_,by rw[iD];exact h.size,fun id df cW=>?_,fun id gl df lR cW=>?_,fun a b xy xz mM nQ jE jQ ld lC cH lU hd=>?_,C0 (fun b T=>gF b (by
  have hr:=h.obj i hE l aA ag;have:base≤l.b:=by
   cases hE with
   |dead=>cases hU
   |aq cells own=>obtain⟨_,_,_,_,_,_,_,aG⟩:=hr;exact(aG hU).2.2
   |gg=>obtain⟨_,_,_,_,_,_,_,aG⟩:=hr;exact aG
   |map es own=>obtain⟨_,_,_,_,_,_,aG⟩:=hr;exact aG hU
   |loop=>exact hr.2.1
   |k0=>exact hr.2.1
  omega)) h.nJ⟩
 ·unfold fS Ren.put;by_cases e:id=j
  ·simp[e]
  ·by_cases aL:id=i
   ·simp[aL,Gk,ag]
   ·simp[e,aL,h.gC id]
 ·unfold Ren.put at cW;rw[iD];by_cases e:id=j
  ·simp[e]at cW;subst cW;exact h.lE i l ag
  ·simp[e]at cW;exact h.lE id df cW
 ·unfold fS at lR;unfold Ren.put at cW;by_cases e:id=j
  ·simp[e]at lR cW;subst lR;subst cW;exact ah
  ·simp[e]at lR cW;by_cases aL:id=i
   ·simp[aL]at lR;subst lR;trivial
   ·simp[aL]at lR;by_cases hd:gl=.dead
    ·subst hd;trivial
    ·exact(h.obj id gl df lR cW).mono (Ren.vG bn l) (gF _ (fun cA=>h.inj i id hE gl l df aA lR ag cW (fun bq=>aL bq.symm) hU hd cA.symm))
 ·unfold fS at jE jQ;unfold Ren.put at ld lC;by_cases c8:a=j
  ·simp[c8]at jE ld;have iO:b≠j:=fun e=>cH (c8.trans e.symm);simp[iO]at jQ lC;by_cases CH:b=i
   ·simp[CH]at jQ;exact absurd jQ.symm hd
   ·simp[CH]at jQ;subst ld;exact h.inj i b hE xz l nQ aA jQ ag lC (fun e=>CH e.symm) hU hd
  ·simp[c8]at jE ld;by_cases Q4:a=i
   ·simp[Q4]at jE;subst jE;simp[bQ.own]at lU
   ·simp[Q4]at jE;by_cases iO:b=j
    ·simp[iO]at jQ lC;subst lC;exact h.inj a i xy hE mM l jE aA ld ag Q4 lU (by intro e;subst e;simp[bQ.own]at hU)
    ·simp[iO]at jQ lC;by_cases CH:b=i
     ·simp[CH]at jQ;exact absurd jQ.symm hd
     ·simp[CH]at jQ;exact h.inj a b xy xz mM nQ jE jQ ld lC cH lU hd
inductive yc where
 |jK|pick|nilCheck|Hw|Hx|isNil (oE:Nat) (neg:Bool)|Fi (neg:Bool)
 |bin (op:BinOp)|un (op:UnOp)|conv (k:IntKind)
 |build (zero:List Value) (parts:List (Nat × Nat))
 |field (agg:Bool) (off size:Nat)|fieldAddr (off:Nat)
 |Bw (size:Nat)|LI (len size:Nat)|Bx|aa4 (agg:Bool) (len size:Nat)
 |MI (size:Nat) (fs au:Bool)|clip (size:Nat)|uK (fs au:Bool)
 |L1 (mx:Bool)|Ks (t:Nat) (fm:Value→Bool) (neg:Bool)|LJ
 |Ku (neg:Bool)|MH|Mb
 |extract (i:Nat)|T7 (f:FuncId) (q2:Nat)|iface (t:TypeId)|aaD (v:Value)|adQ
 deriving Inhabited
inductive IE where
 |load (agg:Bool) (size:Nat)
 |lookup (fm:Value→Bool) (zero:Value) (ok:Bool)
 |Aq|TW
 |Ie|HV (fm:TypeId→Nat→Nat→Bool)
 deriving Inhabited
inductive Iv where
 |new (cells:List Value)
 |box
 |hP (zs:List Value) (parts:List (Nat × Nat)) (len size:Nat)
 |make (zero:List Value) (size bytes:Nat)
 deriving Inhabited
inductive CA where
 |store (size:Nat)
 |append (size bytes:Nat)
 |mkMap
 |T2 (fm:Value→Bool)
 |Es|QO (size:Nat) (zero:List Value)
 |Ue (e:TypeId) (cells:List Value)|EX (e:TypeId)|EQ (e:TypeId) (bytes:Nat)|MX (e:TypeId)
 deriving Inhabited
inductive K where
 |p (k:yc)|r (k:IE)|a (k:Iv)|w (k:CA)
 |call (f:FuncId)|rr|tt
 deriving Inhabited
def IR(op:BinOp)(k:IntKind)(a b:Int):Option Value :=
 if b<0 then none else
 match op with
 |.shl=>some (.int k (k.wrap (a*2 ^ (min b.toNat k.bits))))
 |.shr=>some (.int k (a.fdiv (2 ^ (min b.toNat k.bits))))
 |_=>none
def ay(op:BinOp)(k:IntKind)(a b:Int):Option Value :=
 match op with
 |.add=>some (.int k (k.wrap (a+b)))
 |.sub=>some (.int k (k.wrap (a-b)))
 |.mul=>some (.int k (k.wrap (a*b)))
 |.quo=>if b=0 then none else some (.int k (k.wrap (a.tdiv b)))
 |.rem=>if b=0 then none else some (.int k (a.tmod b))
 |.and=>some (.int k (k.wrap (BitVec.ofInt k.bits a &&& BitVec.ofInt k.bits b).toNat))
 |.or=>some (.int k (k.wrap (BitVec.ofInt k.bits a ||| BitVec.ofInt k.bits b).toNat))
 |.xor=>some (.int k (k.wrap (BitVec.ofInt k.bits a ^^^ BitVec.ofInt k.bits b).toNat))
 |.andNot=>some (.int k (k.wrap (BitVec.ofInt k.bits a &&& ~~~ BitVec.ofInt k.bits b).toNat))
 |.eql=>some (.bool (a==b))
 |.neq=>some (.bool (a != b))
 |.lss=>some (.bool (decide (a<b)))
 |.leq=>some (.bool (decide (a≤b)))
 |.gtr=>some (.bool (decide (a > b)))
 |.geq=>some (.bool (decide (a ≥ b)))
 |.shl|.shr=>none
def uU(op:BinOp)(a b:ByteArray):Option Value :=
 match op with
 |.add=>if a.size+b.size≤9223372036854775807 then some (.string (a++b)) else none
 |.eql=>some (.bool (a.toList==b.toList))
 |.neq=>some (.bool !(a.toList==b.toList))
 |.lss=>some (.bool (Op.bytesLess a.toList b.toList))
 |.leq=>some (.bool (Op.bytesLess a.toList b.toList || a.toList==b.toList))
 |.gtr=>some (.bool !(Op.bytesLess a.toList b.toList || a.toList==b.toList))
 |.geq=>some (.bool !(Op.bytesLess a.toList b.toList))
 |_=>none
def av(op:BinOp):Value→Value→Option Value
 |.int k a,.int hY b =>
  match op with
  |.shl|.shr=>IR op k a b
  |_=>if k=hY then ay op k a b else none
 |.string a,.string b=>uU op a b
 |_,_=>none
def uV(op:UnOp):Value→Option Value
 |.int k n=>match op with
  |.neg=>some (.int k (k.wrap (0-n)))
  |.xor=>some (.int k (k.wrap (BitVec.ofInt k.bits (if k.signed then -1 else k.max) ^^^ BitVec.ofInt k.bits n).toNat))
  |_=>none
 |.bool b=>match op with|.not=>some (.bool !b)|_=>none
 |_=>none
def pe(cells:List Value):List ((Nat × Nat) × Value)→Option (List Value)
 |[]=>some cells
 |((off,size),v)::r=>if v.cells.toList.length=size∧off+size≤cells.length∧v.cells.toList.all (·.oneCell')=true then pe (cells.take off++v.cells.toList++cells.drop (off+size)) r else none
def o8:Nat→Value→Option Bool
 |0,.slice p _ _=>some p.isNone
 |1,.pointer p=>some p.isNone
 |2,.nilFunc=>some true
 |2,.func ..=>some false
 |3,.nilIface=>some true
 |3,.iface ..=>some false
 |_,_=>none
def gI(agg:Bool)(off size:Nat)(cs:List Value):Option Value :=
 if agg then(if off+size≤cs.length then some (.agg ((cs.drop off).take size).toArray) else none) else cs[off]?
def oD(fs au:Bool)(len:Nat)(vs:List Value):Option (Nat × Nat) :=
 match fs,au,vs with
 |false,false,[]=>some (0,len)
 |true,false,[.int _ l]=>if 0≤l∧l≤len then some (l.toNat,len) else none
 |false,true,[.int _ h]=>if 0≤h∧h≤len then some (0,h.toNat) else none
 |true,true,[.int _ l,.int _ h]=>if 0≤l∧l≤h∧h≤len then some (l.toNat,h.toNat) else none
 |_,_,_=>none
def HZ:List Value→Option Value|[x]=>some x|_=>none
def Mm:List Value→Option Value|[.bool c,a,b]=>some (if c then a else b)|_=>none
def zU:List Value→Option Value
 |[.pointer (some a)]=>some (.pointer (some a))
 |[.func (.func f) a b]=>some (.func (.func f) a b)
 |[.func (.yield f) a b]=>some (.func (.yield f) a b)
 |_=>none
def pD:List Value→Option Value|[.slice _ n _]=>some (.int .i64 n)|_=>none
def vQ:List Value→Option Value|[.string s]=>some (.int .i64 s.size)|_=>none
def uI(oE:Nat)(neg:Bool):List Value→Option Value|[x]=>(o8 oE x).map fun b=>.bool (if neg then !b else b)|_=>none
def D6(neg:Bool):List Value→Option Value|[.bool a,.bool b]=>some (.bool (if neg then !(a==b) else a==b))|_=>none
def Ut(op:BinOp):List Value→Option Value|[x,y]=>av op x y|_=>none
def Mn(op:UnOp):List Value→Option Value|[x]=>uV op x|_=>none
def Mi(k:IntKind):List Value→Option Value|[.int _ n]=>some (.int k (k.wrap n))|_=>none
def gQ(zero:List Value)(parts:List (Nat × Nat))(vs:List Value):Option Value :=
 if parts.length=vs.length then(pe zero (parts.zip vs)).map fun cs=>.agg cs.toArray else none
def abN(agg:Bool)(off size:Nat):List Value→Option Value|[.agg cs]=>gI agg off size cs.toList|_=>none
def Mk(off:Nat):List Value→Option Value|[.pointer (some ⟨id,o,none⟩)]=>some (.pointer (some ⟨id,o+off,none⟩))|_=>none
def oU(size:Nat):List Value→Option Value
 |[.slice (some ⟨id,o,none⟩) n s,.int _ i]=>if 0≤i∧i<n∧s=size then some (.pointer (some ⟨id,o+i.toNat*size,none⟩)) else none
 |_=>none
def D7(len size:Nat):List Value→Option Value
 |[.pointer (some ⟨id,o,none⟩),.int _ i]=>if 0≤i∧i<len then some (.pointer (some ⟨id,o+i.toNat*size,none⟩)) else none
 |_=>none
def zT:List Value→Option Value
 |[.string s,.int _ i]=>if 0≤i then(s[i.toNat]?).map fun b=>.int .u8 b.toNat else none
 |_=>none
def abO(agg:Bool)(len size:Nat):List Value→Option Value
 |[.agg cs,.int _ i]=>if 0≤i∧i<len then gI agg (i.toNat*size) size cs.toList else none
 |_=>none
def rR(size:Nat)(fs au:Bool):List Value→Option Value
 |.slice none 0 0::r=>(oD fs au 0 r).map fun _=>.slice none 0 0
 |.slice (some ⟨id,o,none⟩) n s::r=>if s=size then(oD fs au n r).map fun(l,h)=>.slice (some ⟨id,o+l*size,none⟩) (h-l) size else none
 |_=>none
def abM(size:Nat):List Value→Option Value
 |[.slice none 0 0,.int _ h,.int _ m]=>if h=0∧m=0 then some (.slice none 0 0) else none
 |[.slice (some ⟨id,o,none⟩) n s,.int _ h,.int _ m]=>if s=size∧h=n∧m=n then some (.slice (some ⟨id,o,some 0⟩) n s) else none
 |_=>none
def tr(fs au:Bool):List Value→Option Value
 |.string s::r=>(oD fs au s.size r).map fun(l,h)=>.string (s.extract l h)
 |_=>none
def BW(i:Nat):List Value→Option Value|[.tuple vs]=>vs[i]?|_=>none
def abP(t:TypeId):List Value→Option Value|[x]=>some (.iface t x)|_=>none
def abR:List Value→Option Value|[.string s]=>some (.string s)|_=>none
def abQ(v:Value):List Value→Option Value|[]=>some v|_=>none
def zv:Value→Bool|.bool _|.int ..|.string _=>true|_=>false
def sc:Value→Bool|.agg cs=>cs.toList.all zv|v=>zv v
def yp:Value→Value→Bool
 |.bool a,.bool b=>a==b
 |.int k a,.int hY b=>decide (k=hY) && decide (a=b)
 |.string a,.string b=>a.data==b.data
 |_,_=>false
def Aw:List Value→List Value→Bool
 |[],[]=>true
 |x::r,y::s=>yp x y && Aw r s
 |_,_=>false
def ry:Value→Value→Bool
 |.agg a,.agg b=>Aw a.toList b.toList
 |a,b=>yp a b
def mm(P:Program)(k:TypeId)(v:Value):Bool:=sc v && (keyOf P k v).isSome
def D8(mx:Bool):List Value→Option Value
 |[.int k a,.int hY b]=>if k=hY then some (.int k (if mx then(if b > a then b else a) else(if b<a then b else a))) else none
 |_=>none
def BV(fm:Value→Bool)(neg:Bool):List Value→Option Value
 |[x,y]=>if fm x && fm y then some (.bool (if neg then !ry x y else ry x y)) else none
 |_=>none
def Ml:List Value→Option Value
 |[.string s,.int .u8 c]=>some (.int .i64 (Lib.indexByte s.data.toList c.toNat.toUInt8))
 |_=>none
def Mj(neg:Bool):List Value→Option Value
 |[.pointer (some ⟨i,o,none⟩),.pointer (some ⟨j,p,none⟩)]=>if i=j∧o=p then some (.bool !neg) else none
 |_=>none
def H0:List Value→Option Value
 |[.slice none 0 0]=>some (.pointer none)
 |[.slice (some ⟨id,o,none⟩) n _]=>if 0<n then some (.pointer (some ⟨id,o,none⟩)) else none
 |_=>none
def Ao:List Value→Option (List UInt8)
 |[]=>some []
 |.int .u8 n::r=>(Ao r).map (UInt8.ofNat n.toNat :: ·)
 |_=>none
def cr:yc→List Value→Option Value
 |.aaD v=>abQ v
 |.adQ=>abR
 |.jK=>HZ
 |.pick=>Mm
 |.nilCheck=>zU
 |.Hw=>pD
 |.Hx=>vQ
 |.isNil oE neg=>uI oE neg
 |.bin op=>Ut op
 |.Fi neg=>D6 neg
 |.un op=>Mn op
 |.conv k=>Mi k
 |.build zero parts=>gQ zero parts
 |.field agg off size=>abN agg off size
 |.fieldAddr off=>Mk off
 |.Bw size=>oU size
 |.LI len size=>D7 len size
 |.Bx=>zT
 |.aa4 agg len size=>abO agg len size
 |.MI size fs au=>rR size fs au
 |.uK fs au=>tr fs au
 |.clip size=>abM size
 |.extract i=>BW i
 |.L1 mx=>D8 mx
 |.Ks _ fm neg=>BV fm neg
 |.LJ=>Ml
 |.Ku neg=>Mj neg
 |.MH=>H0
 |.Mb=>HZ
 |.T7 f q2=>fun vs=>some (.func (.func f) (vs.take q2).toArray (vs.drop q2).toArray)
 |.iface t=>abP t
def IN(fm:Value→Bool)(zero:Value)(ok:Bool)(vs:List Value)(G:Nat→Option bQ):Option Value :=
 match vs with
 |[.map (some id),key] =>
  match G id with
  |some (.map es _)=>if fm key && es.all (fun e=>fm e.1) then
    let r:=(es.findIdx? fun e=>ry e.1 key).bind fun i=>es[i]?
    some (if ok then .tuple #[(r.map (·.2)).getD zero,.bool r.isSome] else(r.map (·.2)).getD zero) else none
  |_=>none
 |_=>none
def zK(es:List (Value × Value))(key val:Value):List (Value × Value) :=
 match es.findIdx? fun e=>ry e.1 key with
 |some i=>es.set i (key,val)
 |none=>es++[(key,val)]
def aw:IE→List Value→(Nat→Option bQ)→Option Value
 |.load agg size,[.pointer (some ⟨id,o,none⟩)],G =>
  match G id with
  |some (.aq cells _)=>gI agg o size cells
  |some (.gg cells _ _)=>gI agg o size cells
  |_=>none
 |.lookup fm zero ok,vs,G=>IN fm zero ok vs G
 |.TW,[.map (some id)],G=>(match G id with|some (.map es _)=>some (.int .i64 es.length)|_=>none)
 |.Aq,[.slice none 0 0],_=>some (.string .empty)
 |.Aq,[.slice (some ⟨id,o,none⟩) n s],G=>if s=1 then(if n=0 then some (.string .empty) else match G id with
  |some (.aq cells _)=>if o+n≤cells.length then(Ao ((cells.drop o).take n)).map fun l=>.string ⟨l.toArray⟩ else none
  |_=>none) else none
 |.Ie,[.pointer (some ⟨id,o,none⟩)],G =>
  match G id with
  |some (.gg cells _ _)=>if o<cells.length then some (.pointer (some ⟨id,o,none⟩)) else none
  |_=>none
 |.HV fm,[.pointer (some ⟨id,o,none⟩)],G =>
  match G id with
  |some (.gg cells e true)=>if fm e cells.length o then some (.pointer (some ⟨id,o,none⟩)) else none
  |_=>none
 |_,_,_=>none
def IP(cells:List Value):List Value→Option (List Value × (Nat→Value))|[]=>some (cells,fun id=>.pointer (some ⟨id,0,none⟩))|_=>none
def nB:List Value→Option (List Value × (Nat→Value))
 |[v]=>if v.cells.toList.all (·.oneCell') then some (v.cells.toList,fun id=>.pointer (some ⟨id,0,none⟩)) else none
 |_=>none
def ie(zs:List Value)(parts:List (Nat × Nat))(len size:Nat)(vs:List Value):Option (List Value × (Nat→Value)) :=
 if parts.length=vs.length then(pe zs (parts.zip vs)).map fun cs=>(cs,fun id=>.slice (some ⟨id,0,none⟩) len size) else none
def Wd(zero:List Value)(size bytes:Nat):List Value→Option (List Value × (Nat→Value))
 |[.int _ l,.int _ c]=>if 0≤l∧l≤c∧c*bytes≤281474976710656∧c≤9223372036854775807 then some ((List.replicate l.toNat zero).flatten,fun id=>.slice (some ⟨id,0,none⟩) l.toNat size) else none
 |_=>none
def o7:Iv→List Value→Option (List Value × (Nat→Value))
 |.new cells=>IP cells
 |.box=>nB
 |.hP zs parts len size=>ie zs parts len size
 |.make zero size bytes=>Wd zero size bytes
def rZ(size:Nat)(h:J):Value→Option (List Value)
 |.slice none 0 0=>some []
 |.slice (some ⟨id,o,none⟩) n s=>if s=size then(if n=0 then some [] else match h.get id with
   |some (.aq cells _)=>if o+n*size≤cells.length then some ((cells.drop o).take (n*size)) else none
   |_=>none) else none
 |.string s=>if size=1 then some (s.data.toList.map fun b=>.int .u8 b.toNat) else none
 |_=>none
def cz(size:Nat)(h:J):List Value→Option (Value × J)
 |[.pointer (some ⟨id,o,none⟩),v] =>
  match h.get id with
  |some (.aq cells true)=>if v.cells.toList.length=size∧o+size≤cells.length∧v.cells.toList.all (·.oneCell')=true then some (undef,h.set id (.aq (cells.take o++v.cells.toList++cells.drop (o+size)) true)) else none
  |some (.gg cells e li)=>if v.cells.toList.length=size∧o+size≤cells.length∧v.cells.toList.all (·.oneCell')=true then some (undef,h.set id (.gg (cells.take o++v.cells.toList++cells.drop (o+size)) e li)) else none
  |_=>none
 |_=>none
def o1(size bytes:Nat)(h:J):List Value→Option (Value × J)
 |[s,x] =>
  match rZ size h x with
  |none=>none
  |some fG =>
   if fG.length=0 then(match s with|.slice ..=>some (s,h)|_=>none) else
   match s with
   |.slice none 0 0=>if fG.length / size*bytes≤140737488355328∧fG.length / size≤9223372036854775807 then some (.slice (some ⟨h.next,0,none⟩) (fG.length / size) size,h.alloc (.aq fG true)) else none
   |.slice (some ⟨id,o,some _⟩) n a8 =>
    match h.get id with
    |some (.aq cells _) =>
     if a8=size∧o+n*size≤cells.length∧(n+fG.length / size)*bytes≤140737488355328∧n+fG.length / size≤9223372036854775807
     then some (.slice (some ⟨h.next,0,none⟩) (n+fG.length / size) size,h.alloc (.aq ((cells.drop o).take (n*size)++fG) true)) else none
    |_=>none
   |.slice (some ⟨id,0,none⟩) n a8 =>
    match h.get id with
    |some (.aq cells true) =>
     if a8=size∧cells.length=n*size∧(n+fG.length / size)*bytes≤140737488355328∧n+fG.length / size≤9223372036854775807
     then some (.slice (some ⟨h.next,0,none⟩) (n+fG.length / size) size,(h.set id .dead).alloc (.aq (cells++fG) true)) else none
    |_=>none
   |_=>none
 |_=>none
def Ag(e:TypeId)(size bytes:Nat)(h:J):List Value→Option (Value × J)
 |[s,x] =>
  match rZ size h x with
  |none=>none
  |some fG =>
   if fG.length=0 then(match s with|.slice ..=>some (s,h)|_=>none) else
   match s with
   |.slice none 0 0=>if fG.length / size*bytes≤140737488355328∧fG.length / size≤9223372036854775807 then some (.slice (some ⟨h.next,0,none⟩) (fG.length / size) size,h.alloc (.gg fG e false)) else none
   |.slice (some ⟨id,0,none⟩) n a8 =>
    match h.get id with
    |some (.gg cells cA _) =>
     if cA=e∧a8=size∧cells.length=n*size∧(n+fG.length / size)*bytes≤140737488355328∧n+fG.length / size≤9223372036854775807
     then some (.slice (some ⟨h.next,0,none⟩) (n+fG.length / size) size,(h.set id .dead).alloc (.gg (cells++fG) e false)) else none
    |_=>none
   |_=>none
 |_=>none
def yn:List Value→Option (List UInt8)
 |[]=>some []
 |.int .u8 n::r=>if 0≤n∧n<256 then(yn r).map (UInt8.ofNat n.toNat :: ·) else none
 |_=>none
def Ck(e:TypeId)(h:J):List Value→Option (Value × J)
 |[.pointer none,.int .i64 0]=>some (.string .empty,h)
 |[.pointer (some ⟨id,0,none⟩),.int .i64 n] =>
  match h.get id with
  |some (.gg cells cA _)=>if cA=e∧0<n∧n≤cells.length∧n≤9223372036854775807 then(yn (cells.take n.toNat)).map fun l=>(.string ⟨l.toArray⟩,h.set id .dead) else none
  |_=>none
 |_=>none
def M0(fm:Value→Bool)(h:J):List Value→Option (Value × J)
 |[.map (some id),key,val] =>
  match h.get id with
  |some (.map es true)=>if fm key && es.all (fun e=>fm e.1) then some (undef,h.set id (.map (zK es key val) true)) else none
  |_=>none
 |_=>none
def MZ(s:Nat)(z:List Value)(h:J):List Value→Option (Value × J)
 |[.slice none 0 0]=>some (.tuple #[],h)
 |[.slice (some ⟨id,off,none⟩) n _]=>match h.get id with
  |some (.aq cells true)=>if off+n*s≤cells.length then some (.tuple #[],h.set id (.aq (cells.take off++(List.replicate n z).flatten++cells.drop (off+n*s)) true)) else none
  |_=>none
 |_=>none
def bh:CA→List Value→J→Option (Value × J)
 |.store size,vs,h=>cz size h vs
 |.append size bytes,vs,h=>o1 size bytes h vs
 |.mkMap,[],h=>some (.map (some h.next),h.alloc (.map [] true))
 |.T2 fm,vs,h=>M0 fm h vs
 |.QO s z,vs,h=>MZ s z h vs
 |.Ue e cells,[],h=>some (.pointer (some ⟨h.next,0,none⟩),h.alloc (.gg cells e true))
 |.EX e,[v],h=>if v.cells.toList.all (·.oneCell') then some (.pointer (some ⟨h.next,0,none⟩),h.alloc (.gg v.cells.toList e true)) else none
 |.EQ e bytes,vs,h=>Ag e 1 bytes h vs
 |.MX e,vs,h=>Ck e h vs
 |.Es,[.string s],h=>some (.slice (some ⟨h.next,0,none⟩) s.size 1,h.alloc (.aq (s.data.toList.map fun b=>.int .u8 b.toNat) false))
 |_,_,_=>none
def Gd(P:Program)(e:TypeId):Bool :=
 match P.underlying e with
 |some (.int .u8)=>true
 |some (.struct kF)=>match kF[0]? with
  |some f=>(match P.info? f.type with
   | some i => (match i.desc with | .named n _ => n == "strings.Builder" | _ => false)
   |none=>false)
  |none=>false
 |_=>false
def gJ(P:Program)(t:TypeId):Option Nat:=(P.info? t).map (·.size)
def Ap(P:Program)(t:TypeId):Option Nat:=(P.info? t).map (·.bytes)
def xm(P:Program)(t:TypeId):Option Bool:=(P.underlying t).map fun|.struct _=>true|.array _ _=>true|_=>false
def oz(P:Program)(t:TypeId):Option (List Value) :=
 match(P.info? t).bind (·.zero) with
 |some z=>if z.cells.toList.all (fun c=>Value.plain c && c.oneCell') then some z.cells.toList else none
 |none=>none
def yL(P:Program)(t:TypeId):Option (Array Field):=match P.underlying t with|some (.struct kF)=>some kF|_=>none
def xB:Option Operand→List Operand|some x=>[x]|none=>[]
def BA(oE:Nat):Operand→Bool
 |.const (.slice none a b)=>oE==0 && a==0 && b==0
 |.const (.pointer none)=>oE==1
 |.const .nilFunc=>oE==2
 |.const .nilIface=>oE==3
 |_=>false
def uv(oE:Nat)(op:BinOp)(x y:Operand):Option (K × List Operand) :=
 if BA oE y then(match op with
  |.eql=>some (.p (.isNil oE false),[x])
  |.neq=>some (.p (.isNil oE true),[x])
  |_=>none) else none
def xq(P:Program)(k:TypeId):Bool :=
 match P.underlying k with
 |some (.int _)=>true
 |some .string=>true
 |some (.array _ _)=>P.keyTypeAt 8 k && P.tiled 8 k
 |some (.struct _)=>P.keyTypeAt 8 k && P.tiled 8 k
 |_=>false
def BF(P:Program)(e:TypeId)(op:BinOp)(x y:Operand):Option (K × List Operand) :=
 if BA 1 y then uv 1 op x y else
 if(gJ P e).isSome then(match op with
  |.neq=>some (.p (.Ku true),[x,y])
  |_=>none) else none
def xp(P:Program)(op:BinOp)(t:TypeId)(x y:Operand):Option (K × List Operand) :=
 if xq P t && !(P.eqGuardType P.depth t) then(match op with
  |.eql=>some (.p (.Ks t (mm P t) false),[x,y])
  |.neq=>some (.p (.Ks t (mm P t) true),[x,y])
  |_=>none) else none
def BC(P:Program)(op:BinOp)(t:TypeId)(x y:Operand):Option (K × List Operand) :=
 match P.underlying t with
 |some (.int _)=>some (.p (.bin op),[x,y])
 |some .string=>some (.p (.bin op),[x,y])
 |some .bool=>match op with
  |.eql=>some (.p (.Fi false),[x,y])
  |.neq=>some (.p (.Fi true),[x,y])
  |_=>none
 |some (.slice _)=>uv 0 op x y
 |some (.pointer e)=>BF P e op x y
 |some (.func ..)=>uv 2 op x y
 |some (.interface _)=>uv 3 op x y
 |some (.struct _)=>xp P op t x y
 |some (.array _ _)=>xp P op t x y
 |_=>none
def BD(P:Program)(t:TypeId)(parts:Array (Nat × Operand)):Option (K × List Operand) :=
 match oz P t,P.underlying t with
 |some z,some (.struct kF) =>
  match kF.toList.mapM (fun f=>(P.info? f.type).map fun i=>(f.offset,i.size)) with
  |some B0 =>
   if(parts.toList.map fun(i,_)=>B0[i]?).all (·.isSome) then some (.p (.build z ((parts.toList.map fun(i,_)=>B0[i]?).filterMap id)),parts.toList.map (·.2)) else none
  |none=>none
 |some z,some (.array _ e) =>
  match gJ P e with
  |some s=>some (.p (.build z (parts.toList.map fun(i,_)=>(i*s,s))),parts.toList.map (·.2))
  |none=>none
 |_,_=>none
def zE(u:Option TypeDesc)(x:Operand):Option (K × List Operand):=match u with|some (.map _ _)=>some (.r .TW,[x])|_=>none
def zD(P:Program)(args:List Operand)(ts:List TypeId):Option (K × List Operand) :=
 match args,ts with
 |[x],[t]=>match P.underlying t with
  |some .string=>some (.p .Hx,[x])
  |some (.slice _)=>some (.p .Hw,[x])
  |some (.array n _)=>some (.p (.aaD (.int .i64 n)),[])
  |u=>zE u x
 |_,_=>none
def ady(P:Program)(u:TypeId):Bool:=match P.underlying u with|some (.slice _)=>true|some .string=>true|_=>false
def zz(P:Program)(args:List Operand)(ts:List TypeId):Option (K × List Operand) :=
 match args,ts with
 |[s,x],[t,u] =>
  match P.underlying t with
  |some (.slice e) =>
   match gJ P e,Ap P e,oz P e with
   |some k,some b,some z =>
    if z.length=k∧0<k∧ady P u=true then(if k=1∧Gd P e=true then some (.w (.EQ e b),[s,x]) else some (.w (.append k b),[s,x])) else none
   |_,_,_=>none
  |_=>none
 |_,_=>none
def Tj(P:Program)(f:FuncId):Bool:=match P.funcs[f]? with
 | some fn => fn.body.isNone && (fn.name == "internal/bytealg.IndexByteString") && (fn.origin == "")
 |none=>false
def Tk(P:Program)(f:FuncId):Bool:=match P.funcs[f]? with
 | some fn => fn.body.isNone && (fn.name == "internal/abi.NoEscape") && (fn.origin == "")
 |none=>false
def zF(args:List Operand):Option (K × List Operand):=match args with|[x]=>some (.p .MH,[x])|_=>none
def zG(P:Program)(args:List Operand)(ts:List TypeId):Option (K × List Operand) :=
 match args,ts with
 |[p,n],[qd,_] =>
  match P.underlying qd with
  |some (.pointer e)=>if P.cellsOf e=1 then some (.w (.MX e),[p,n]) else none
  |_=>none
 |_,_=>none
def sB(P:Program)(mx:Bool)(args:List Operand)(t:Option TypeId):Option (K × List Operand) :=
 match args,t with
 |[x,y],some t=>match P.underlying t with
  |some (.int _)=>some (.p (.L1 mx),[x,y])
  |_=>none
 |_,_=>none
def zB(P:Program):List Operand→List TypeId→Option (K × List Operand)
 |[x],[t]=>match P.underlying t with
  |some (.slice e)=>match gJ P e,oz P e with
   |some s,some z=>if z.length=s then some (.w (.QO s z),[x]) else none
   |_,_=>none
  |_=>none
 |_,_=>none
def zA(P:Program)(c:Call):Option (K × List Operand) :=
 match c.callee with
 |.builtin .len=>zD P c.args.toList c.argTypes.toList
 |.builtin .append=>zz P c.args.toList c.argTypes.toList
 |.builtin .min=>sB P false c.args.toList c.argTypes[0]?
 |.builtin .max=>sB P true c.args.toList c.argTypes[0]?
 |.builtin .clear=>zB P c.args.toList c.argTypes.toList
 |.builtin .unsafeSliceData=>zF c.args.toList
 |.builtin .unsafeString=>zG P c.args.toList c.argTypes.toList
 |.builtin _=>none
 |.value (.func f)=>if Tj P f then(if c.args.toList.length=2 then some (.p .LJ,c.args.toList) else none) else
  if Tk P f then(if c.args.toList.length=1 then some (.p .Mb,c.args.toList) else none) else some (.call f,c.args.toList)
 |.value g=>some (.rr,g::c.args.toList)
 |.invoke ..=>none
def M3(P:Program)(e:TypeId):Option Value:=match(P.info? e).bind (·.zero) with|some z=>if Value.plain z then some z else none|none=>none
def DR(P:Program)(u:TypeId)(e:TypeId)(n o:Nat):Bool:=liesAt P P.depth e (n / P.cellsOf e) o u 1
def xo(P:Program)(e:TypeId):Option (K × List Operand) :=
 (oz P e).map fun z=>if Gd P e=true then(.w (.Ue e z),[]) else(.a (.new z),[])
def BG(P:Program)(t:TypeId)(x:Operand):Option (K × List Operand):=match gJ P t with|some (_+1)=>some (.r .Ie,[x])|_=>none
def BE(P:Program)(u:TypeId)(x:Operand):Option (K × List Operand):=match gJ P u with|some _=>some (.r (.HV (DR P u)),[x])|none=>none
def vE(P:Program)(t:TypeId)(x:Operand)(fs au:Option Operand):Option Operand→Option (K × List Operand)
 |none =>
  match P.underlying t with
  |some (.slice e)=>(gJ P e).map fun s=>(.p (.MI s fs.isSome au.isSome),x::(xB fs++xB au))
  |some .string=>some (.p (.uK fs.isSome au.isSome),x::(xB fs++xB au))
  |_=>none
 |some mx=>match fs,au with
  |none,some au =>
   match P.underlying t with
   |some (.slice e)=>(gJ P e).map fun s=>(.p (.clip s),[x,au,mx])
   |_=>none
  |_,_=>none
def kindOf(P:Program)(op:Op):Option (K × List Operand) :=
 match op with
 |.move x|.assign x=>some (.p .jK,[x])
 |.pick c a b=>some (.p .pick,[c,a,b])
 |.nilCheck x=>some (.p .nilCheck,[x])
 |.binOp op t x y _=>BC P op t x y
 |.unOp op _ x=>some (.p (.un op),[x])
 |.convert s d x =>
  match P.underlying s,P.underlying d with
  |some (.int _),some (.int k)=>some (.p (.conv k),[x])
  |some .string,some .string=>some (.p .adQ,[x])
  |some .string,some (.slice e)=>(match P.underlying e with|some (.int .u8)=>some (.w .Es,[x])|_=>none)
  |some (.slice e),some .string=>(match P.underlying e with|some (.int .u8)=>if gJ P e=some 1 then some (.r .Aq,[x]) else none|_=>none)
  |some (.pointer t),some .unsafePointer=>BG P t x
  |some .unsafePointer,some (.pointer u)=>BE P u x
  |_,_=>none
 |.build t parts=>BD P t parts
 |.field t x f =>
  match yL P t with
  |some kF=>match kF[f]? with
   |some f=>match xm P f.type,gJ P f.type with
    |some a,some s=>some (.p (.field a f.offset s),[x])
    |_,_=>none
   |none=>none
  |none=>none
 |.fieldAddr t x f =>
  match yL P t with
  |some kF=>match kF[f]? with
   |some f=>match gJ P f.type with
    |some s=>if s=0 then none else some (.p (.fieldAddr f.offset),[x])
    |none=>none
   |none=>none
  |none=>none
 |.indexAddr t x i =>
  match P.underlying t with
  |some (.slice e)=>(gJ P e).map fun s=>(.p (.Bw s),[x,i])
  |some (.array n e)=>(gJ P e).map fun s=>(.p (.LI n s),[x,i])
  |_=>none
 |.index t x i =>
  match P.underlying t with
  |some .string=>some (.p .Bx,[x,i])
  |some (.array n e)=>match xm P e,gJ P e with
   |some a,some s=>some (.p (.aa4 a n s),[x,i])
   |_,_=>none
  |_=>none
 |.slice t x fs au mx=>vE P t x fs au mx
 |.extract x i=>some (.p (.extract i),[x])
 |.makeFunc (.func f) first captured=>some (.p (.T7 f first.size),first.toList++captured.toList)
 |.makeInterface t x =>
  match P.underlying t with
  |some (.interface _)=>none
  |some _=>some (.p (.iface t),[x])
  |none=>none
 |.load t a =>
  match xm P t,gJ P t with
  |some g,some s=>some (.r (.load g s),[a])
  |_,_=>none
 |.store t a v=>(gJ P t).map fun s=>(.w (.store s),[a,v])
 |.alloc e=>xo P e
 |.box e v=>if Gd P e=true then some (.w (.EX e),[v]) else some (.a .box,[v])
 |.buildSlice t len parts =>
  match P.underlying t with
  |some (.slice e) =>
   match gJ P e,oz P e with
   |some s,some z=>if z.length=s∧len*s≤16777216 then some (.a (.hP (List.replicate len z).flatten (parts.toList.map fun(i,_)=>(i*s,s)) len s),parts.toList.map (·.2)) else none
   |_,_=>none
  |_=>none
 |.makeSlice t l c =>
  match P.underlying t with
  |some (.slice e) =>
   match gJ P e,oz P e,Ap P e with
   |some s,some z,some b=>if z.length=s then some (.a (.make z s b),[l,c]) else none
   |_,_,_=>none
  |_=>none
 |.call c=>zA P c
 |.panic x=>some (.tt,[x])
 |.makeMap _ r=>if r.isNone then some (.w .mkMap,[]) else none
 |.lookup t x i ok =>
  match P.underlying t with
  |some (.map k e)=>match xq P k,M3 P e with
   |true,some z=>some (.r (.lookup (mm P k) z ok),[x,i])
   |_,_=>none
  |_=>none
 |.mapUpdate t m k v =>
  match P.underlying t with
  |some (.map DL _)=>if xq P DL then some (.w (.T2 (mm P DL)),[m,k,v]) else none
  |_=>none
 |_=>none
theorem bL.int{al:Ren}{k:IntKind}{n:Int}{v':Value}(h:bL al (.int k n) v'):v'=.int k n:=by cases h;rfl
theorem bL.bool{al:Ren}{b:Bool}{v':Value}(h:bL al (.bool b) v'):v'=.bool b:=by cases h;rfl
theorem bL.str{al:Ren}{b:ByteArray}{v':Value}(h:bL al (.string b) v'):v'=.string b:=by cases h;rfl
theorem bL.sI{al:Ren}{id o:Nat}{v':Value}(h:bL al (.pointer (some ⟨id,o,none⟩)) v'):∃ l,al id=some l∧v'=.pointer (some ⟨l.b,o+l.dB,none⟩):=by
 cases h with
 |same _ h=>simp[Value.plain]at h
 |ptr _ _ l h=>exact⟨l,h,rfl⟩
theorem bL.vX{al:Ren}{id o len s:Nat}{v':Value}(h:bL al (.slice (some ⟨id,o,none⟩) len s) v') :
  ∃ l eW cap,al id=some l∧v'=.slice (some ⟨l.b,eW,none⟩) len cap∧len≤cap∧((eW=o+l.dB∧o+l.dB+cap*s≤l.iu)∨(len=0∧cap=0)):=by
 cases h with
 |same _ h=>simp[Value.plain]at h
 |slice _ _ eW _ _ cap l h ag ah=>exact⟨l,eW,cap,h,rfl,ag,ah⟩
theorem bL.agG{al:Ren}{id o len s m:Nat}{v':Value}(h:bL al (.slice (some ⟨id,o,some m⟩) len s) v') :
  ∃ l eW,al id=some l∧v'=.slice (some ⟨l.b,eW,none⟩) len len∧((eW=o+l.dB∧o+l.dB+len*s≤l.iu)∨len=0):=by
 cases h with
 |same _ h=>simp[Value.plain]at h
 |clip _ _ eW _ _ _ l h ah=>exact⟨l,eW,h,rfl,ah⟩
theorem bL.BO{al:Ren}{v':Value}(h:bL al (.slice none 0 0) v'):v'=.slice none 0 0:=by cases h;rfl
theorem bL.rT{al:Ren}{v v':Value}(hp:Value.plain v=true)(h:bL al v v'):v'=v:=by
 cases h<;>first|rfl|(simp[Value.plain]at hp;done)|skip
 case iface t v v' h=>cases v<;>first|(simp[Value.plain]at hp;done)|(cases h;rfl)
 case tuple cs cs' h =>
  cases h with
  |nil=>rfl
  |cons=>simp[Value.plain]at hp
theorem bL.Ns{al:Ren}{cs:Array Value}{v':Value}(h:bL al (.agg cs) v'):∃ cs':List Value,v'=.agg cs'.toArray∧be al cs.toList cs'∧∀ c∈cs.toList,c.oneCell'=true:=by
 cases h with
 |same _ h=>simp[Value.plain]at h
 |agg cs cs' h A=>exact⟨cs',rfl,h,A⟩
theorem bL.aqU{al:Ren}{cs:Array Value}{v':Value}(h:bL al (.tuple cs) v'):∃ cs':List Value,v'=.tuple cs'.toArray∧be al cs.toList cs':=by
 cases h with
 |same _ h =>
  have:cs=#[]:=by simpa[Value.plain] using h
  subst this;exact⟨[],rfl,.nil⟩
 |tuple cs cs' h=>exact⟨cs',rfl,h⟩
theorem bL.KE{al:Ren}{f:FuncId}{a c:Array Value}{v':Value}(h:bL al (.func (.func f) a c) v') :
  ∃ a' fl:List Value,v'=.func (.func f) a'.toArray fl.toArray∧be al a.toList a'∧be al c.toList fl:=by
 cases h with
 |same _ h=>simp[Value.plain]at h
 |func f a a' c fl ai aj=>exact⟨a',fl,rfl,ai,aj⟩
theorem be.one{al:Ren}{a:Value}{l:List Value}(h:be al [a] l):∃ a',l=[a']∧bL al a a':=by
 cases h with
 |cons _ a' _ _ h hr=>cases hr;exact⟨a',rfl,h⟩
theorem be.two{al:Ren}{a b:Value}{l:List Value}(h:be al [a,b] l):∃ a' b',l=[a',b']∧bL al a a'∧bL al b b':=by
 cases h with
 |cons _ a' _ _ h hr=>obtain⟨b',rfl,T⟩:=be.one hr;exact⟨a',b',rfl,h,T⟩
def oA(P:Program)(al:Ren)(ev:Operand→Value)(op:Op)(v:Value):Prop :=
 ∃ v',bL al v v'∧∀(o:Oper) (w:World),o.op=op→(execOp ev o).run P w=.ok (.value v') w
variable {P:Program}{al:Ren}{ev:Operand→Value}
theorem afa{op:BinOp}{k:IntKind}{a b:Int}{v:Value}(h:ay op k a b=some v)(t:TypeId):Value.plain v=true∧∀ w,(binOp op t (.int k a) (.int k b)).run P w=.ok v w:=by
 cases op<;>simp only[ay]at h<;>first
  |(cases h;exact⟨rfl,fun w=>by simp[binOp,Op.intArith,Op.intBits,Op.intCmp]⟩)
  |(
    split at h
    ·cases h
    ·rename_i T;cases h;exact⟨rfl,fun w=>by simp[binOp,Op.intDiv,T]⟩)
  |cases h
theorem We{op:BinOp}{k hY:IntKind}{a b:Int}{v:Value}(h:IR op k a b=some v)(t:TypeId)(ah:op=.shl∨op=.shr):Value.plain v=true∧∀ w,(binOp op t (.int k a) (.int hY b)).run P w=.ok v w:=by
 unfold IR at h;split at h
 ·cases h
 ·rename_i T;rcases ah with rfl|rfl<;>(cases h;exact⟨rfl,fun w=>by simp[binOp,Op.shift,T]⟩)
theorem afc{op:BinOp}{a b:ByteArray}{v:Value}(h:uU op a b=some v)(t:TypeId):Value.plain v=true∧∀ w,(binOp op t (.string a) (.string b)).run P w=.ok v w:=by
 cases op<;>simp only[uU]at h<;>first
  |(cases h;exact⟨rfl,fun w=>by simp[binOp,Op.stringOp]⟩)
  |(
    split at h
    ·rename_i T;cases h;refine⟨rfl,fun w=>?_⟩;have hn:¬(9223372036854775807<(a.size:Int)+(b.size:Int)):=by omega
     simp[binOp,Op.stringOp,IntKind.max,IntKind.signed,IntKind.bits,hn]
    ·cases h)
  |cases h
theorem ahv(op:BinOp)(t:TypeId)(x y:Operand)(k hY:IntKind)(a b:Int)(w:World):(eqGuard op t x y (.int k a) (.int hY b)).run P w=.ok () w:=by
 unfold eqGuard;split<;>rfl
theorem ahw(op:BinOp)(t:TypeId)(x y:Operand)(a b:ByteArray)(w:World):(eqGuard op t x y (.string a) (.string b)).run P w=.ok () w:=by
 unfold eqGuard;split<;>rfl
theorem Yn(op:BinOp)(t:TypeId)(x y:Operand)(a b:Bool)(w:World):(eqGuard op t x y (.bool a) (.bool b)).run P w=.ok () w:=by
 unfold eqGuard;split<;>rfl
theorem WM{op:BinOp}{t o3:TypeId}{x y:Operand}{a b:Value}{v:Value}(ai:bL al a (ev x))(T:bL al b (ev y))(h:av op a b=some v):oA P al ev (.binOp op t x y o3) v:=by
 unfold av at h;split at h
 ·rename_i k a hY b;have az:=ai.int;have aL:=T.int;have key:Value.plain v=true∧∀ w,(binOp op t (.int k a) (.int hY b)).run P w=.ok v w:=by
   split at h
   ·exact We h t (.inl rfl)
   ·exact We h t (.inr rfl)
   ·split at h
    ·rename_i ab;subst ab;exact afa h t
    ·cases h
  refine⟨v,.same v key.1,fun o w ah=>?_⟩;simp[execOp,ah,az,aL,ahv,key.2]
 ·rename_i a b;have az:=ai.str;have aL:=T.str;have key:=afc (P:=P) h t;refine⟨v,.same v key.1,fun o w ah=>?_⟩;simp[execOp,ah,az,aL,ahw,key.2]
 ·cases h
theorem ahx{t:TypeId}(aC:P.underlying t=some .bool)(d:Nat)(a b:Bool)(w:World):(Op.equalIn (d+1) t (.bool a) (.bool b)).run P w=.ok (a==b) w:=by
 simp[Op.equalIn,run_underlying aC]
theorem ahD{t e:TypeId}(aC:P.underlying t=some (.slice e))(d:Nat)(p:Option Addr)(n c:Nat)(w:World):(Op.equalIn (d+1) t (.slice p n c) (.slice none 0 0)).run P w=.ok p.isNone w:=by
 cases p<;>simp[Op.equalIn,run_underlying aC]
theorem ahC{t e:TypeId}(aC:P.underlying t=some (.pointer e))(d:Nat)(p:Option Addr)(w:World):(Op.equalIn (d+1) t (.pointer p) (.pointer none)).run P w=.ok p.isNone w:=by
 cases p<;>simp[Op.equalIn,run_underlying aC]
theorem ahB{t:TypeId}{p r z}(aC:P.underlying t=some (.func p r z))(d:Nat)(w:World):(Op.equalIn (d+1) t .nilFunc .nilFunc).run P w=.ok true w:=by
 simp[Op.equalIn,run_underlying aC]
theorem ahy{t:TypeId}{p r z}(aC:P.underlying t=some (.func p r z))(d:Nat)(f u v)(w:World):(Op.equalIn (d+1) t (.func f u v) .nilFunc).run P w=.ok false w:=by
 simp[Op.equalIn,run_underlying aC]
theorem Ym{neg:Bool}{t o3:TypeId}{x y:Operand}{a b:Bool}(aC:P.underlying t=some .bool)
  (ai:bL al (.bool a) (ev x)) (T:bL al (.bool b) (ev y)):oA P al ev (.binOp (if neg then .neq else .eql) t x y o3) (.bool (if neg then !(a==b) else a==b)):=by
 have az:=ai.bool;have aL:=T.bool;refine⟨_,.same _ rfl,fun o w ah=>?_⟩;have aK:(Op.equal t (.bool a) (.bool b)).run P w=.ok (a==b) w:=ahx aC 9999 a b w;cases neg
 ·have S:(binOp .eql t (.bool a) (.bool b))=(do pure (.bool (← Op.equal t (.bool a) (.bool b)))):=rfl;simp only[execOp,ah,az,aL,Sem.run_bind,Yn,Result.andThen_ok,S,aK,Sem.run_pure,Bool.false_eq_true,if_false]
 ·have S:(binOp .neq t (.bool a) (.bool b))=(do pure (.bool (!(← Op.equal t (.bool a) (.bool b))))):=rfl;simp only[execOp,ah,az,aL,Sem.run_bind,Yn,Result.andThen_ok,S,aK,Sem.run_pure,if_true]
theorem DJ{neg:Bool}{t o3:TypeId}{x:Operand}{y:Value}{b:Bool}
  (aA:∀(op:BinOp) (w:World),(eqGuard op t x (.const y) (ev x) y).run P w=.ok () w)
  (Y8:∀ w,(Op.equal t (ev x) y).run P w=.ok b w) (hJ:(binOp .eql t (ev x) y)=(do pure (.bool (← Op.equal t (ev x) y)))∧(binOp .neq t (ev x) y)=(do pure (.bool (!(← Op.equal t (ev x) y)))))
  (bw:ev (.const y)=y):oA P al ev (.binOp (if neg then .neq else .eql) t x (.const y) o3) (.bool (if neg then !b else b)):=by
 refine⟨_,.same _ rfl,fun o w ah=>?_⟩;cases neg
 ·simp only[execOp,ah,bw,Sem.run_bind,aA,Result.andThen_ok,hJ.1,Y8,Sem.run_pure,Bool.false_eq_true,if_false]
 ·simp only[execOp,ah,bw,Sem.run_bind,aA,Result.andThen_ok,hJ.2,Y8,Sem.run_pure,if_true]
theorem akv{neg:Bool}{t o3 e:TypeId}{x:Operand}{a:Value}{b:Bool}(aC:P.underlying t=some (.slice e))(bw:ev (.const (.slice none 0 0))=.slice none 0 0)
  (ai:bL al a (ev x)) (h:o8 0 a=some b):oA P al ev (.binOp (if neg then .neq else .eql) t x (.const (.slice none 0 0)) o3) (.bool (if neg then !b else b)):=by
 have gG:∃ p n c,ev x=.slice p n c∧p.isNone=b:=by
  generalize ev x=z at *;cases a<;>simp[o8]at h;subst h;cases ai with
  |same _ h=>exact⟨_,_,_,rfl,rfl⟩
  |slice id off eW len s cap l h ag ah=>exact⟨_,_,_,rfl,rfl⟩
  |clip=>exact⟨_,_,_,rfl,rfl⟩
 obtain⟨p,n,c,gZ,hp⟩:=gG;refine DJ ?_ ?_ ?_ bw
 ·intro op w;rw[gZ];unfold eqGuard;split<;>rfl
 ·intro w;rw[gZ,← hp];exact ahD aC 9999 p n c w
 ·rw[gZ];exact⟨rfl,rfl⟩
theorem aku{neg:Bool}{t o3 e:TypeId}{x:Operand}{a:Value}{b:Bool}(aC:P.underlying t=some (.pointer e))(bw:ev (.const (.pointer none))=.pointer none)
  (ai:bL al a (ev x)) (h:o8 1 a=some b):oA P al ev (.binOp (if neg then .neq else .eql) t x (.const (.pointer none)) o3) (.bool (if neg then !b else b)):=by
 have gG:∃ p,ev x=.pointer p∧p.isNone=b:=by
  generalize ev x=z at *;cases a<;>simp[o8]at h;subst h;cases ai with
  |same _ h=>exact⟨_,rfl,rfl⟩
  |ptr id off l h=>exact⟨_,rfl,rfl⟩
 obtain⟨p,gZ,hp⟩:=gG;refine DJ ?_ ?_ ?_ bw
 ·intro op w;rw[gZ];unfold eqGuard;split<;>rfl
 ·intro w;rw[gZ,← hp];exact ahC aC 9999 p w
 ·rw[gZ];exact⟨rfl,rfl⟩
theorem aks{neg:Bool}{t o3:TypeId}{p r z}{x:Operand}{a:Value}{b:Bool}(aC:P.underlying t=some (.func p r z))(bw:ev (.const .nilFunc)=.nilFunc)
  (ai:bL al a (ev x)) (h:o8 2 a=some b):oA P al ev (.binOp (if neg then .neq else .eql) t x (.const .nilFunc) o3) (.bool (if neg then !b else b)):=by
 have gG:(ev x=.nilFunc∧b=true)∨(∃ f u v,ev x=.func f u v∧b=false):=by
  generalize ev x=z at *;cases a<;>simp[o8]at h
  ·subst h;cases ai with
   |same _ h=>simp[Value.plain]at h
   |func=>exact .inr ⟨_,_,_,rfl,rfl⟩
   |yield=>exact .inr ⟨_,_,_,rfl,rfl⟩
  ·subst h;exact .inl ⟨bL.rT rfl ai,rfl⟩
 rcases gG with⟨gZ,rfl⟩|⟨f,u,v,gZ,rfl⟩
 ·refine DJ ?_ ?_ ?_ bw
  ·intro op w;rw[gZ];unfold eqGuard;split<;>rfl
  ·intro w;rw[gZ];exact ahB aC 9999 w
  ·rw[gZ];exact⟨rfl,rfl⟩
 ·refine DJ ?_ ?_ ?_ bw
  ·intro op w;rw[gZ];unfold eqGuard;split<;>rfl
  ·intro w;rw[gZ];exact ahy aC 9999 f u v w
  ·rw[gZ];exact⟨rfl,rfl⟩
theorem oX{t:TypeId}{s:Nat}(h:gJ P t=some s)(w:World):(sizeOf t).run P w=.ok s w:=by
 unfold gJ at h;cases au:P.info? t with
 |none=>rw[au]at h;cases h
 |some i=>rw[au]at h;cases h;simp[sizeOf,typeInfo,au]
theorem IW{t:TypeId}{g:Bool}(h:xm P t=some g)(w:World):(isAgg t).run P w=.ok g w:=by
 unfold xm at h;cases au:P.underlying t with
 |none=>rw[au]at h;cases h
 |some d =>
  rw[au]at h;cases h;cases d<;>simp[isAgg,run_underlying au]
theorem ac6{t:TypeId}{g:Bool}{s off:Nat}(aA:xm P t=some g)(ak:gJ P t=some s){cs cs':List Value}(h:be al cs cs')(A:∀ c∈cs,c.oneCell'=true){v:Value}
  (hp:gI g off s cs=some v):∃ v',bL al v v'∧∀ w,(part t cs'.toArray off).run P w=.ok v' w:=by
 unfold gI at hp;cases g with
 |true =>
  simp only[if_true]at hp;split at hp
  ·rename_i bX;cases hp;refine⟨.agg ((cs'.drop off).take s).toArray,.agg _ _ ((h.drop off).take s) fun c aj=>A c (List.mem_of_mem_drop (List.mem_of_mem_take aj)),fun w=>?_⟩;simp[part,IW aA,oX ak,List.take_drop,Nat.add_comm]
  ·cases hp
 |false =>
  simp only[Bool.false_eq_true,if_false]at hp;obtain⟨v',fV,hr⟩:=h.get off v hp;refine⟨v',hr,fun w=>?_⟩;simp[part,IW aA,fV]
end Go.Eng
namespace Go.Eng
open Go
variable {P:Program}{al:Ren}{ev:Operand→Value}
theorem Addr.wx(b o n:Nat):(⟨b,o,none⟩:Addr).add n=⟨b,o+n,none⟩:=by
 unfold Addr.add;split
 ·subst_vars;rfl
 ·rfl
theorem ado(off:Nat):∀(vs:List Value) (j:Nat) (cs:Array Value),
  ((vs.zipIdx j).foldl (fun cs (c,j)=>cs.setIfInBounds (off+j) c) cs).size=cs.size
 |[],j,cs=>by simp
 |v::r,j,cs=>by
  simp only[List.zipIdx_cons,List.foldl_cons];rw[ado off r (j+1) (cs.setIfInBounds (off+j) v)];simp
theorem adn(off:Nat):∀(vs:List Value) (j:Nat) (cs:Array Value) (i:Nat),off+j+vs.length≤cs.size →
  ((vs.zipIdx j).foldl (fun cs (c,j)=>cs.setIfInBounds (off+j) c) cs)[i]?=if off+j≤i∧i<off+j+vs.length then vs[i-(off+j)]? else cs[i]?
 |[],j,cs,i,h=>by
  have:¬(off+j≤i∧i<off+j+([]:List Value).length):=by simp only[List.length_nil];omega
  rw[if_neg this];simp
 |v::r,j,cs,i,h=>by
  simp only[List.zipIdx_cons,List.foldl_cons,List.length_cons]at h ⊢;rw[adn off r (j+1) (cs.setIfInBounds (off+j) v) i (by simp;omega)];by_cases A:i=off+j
  ·subst A;rw[if_neg (by omega),if_pos (by omega)];have aV:off+j<cs.size:=by omega
   simp[aV]
  ·by_cases S:off+(j+1)≤i∧i<off+(j+1)+r.length
   ·rw[if_pos S,if_pos (by omega)];have:i-(off+j)=(i-(off+(j+1)))+1:=by omega
    rw[this];simp
   ·rw[if_neg S,if_neg (by omega)];rw[Array.getElem?_setIfInBounds_ne (by omega)]
theorem aq2(off:Nat)(vs:List Value)(cs:Array Value)(h:off+vs.length≤cs.size) :
  (vs.toArray.zipIdx.foldl (fun cs (c,j)=>cs.setIfInBounds (off+j) c) cs).toList=cs.toList.take off++vs++cs.toList.drop (off+vs.length):=by
 have e:vs.toArray.zipIdx=(vs.zipIdx 0).toArray:=by simp
 rw[e,List.foldl_toArray];apply List.ext_getElem?;intro i;have aA:=adn off vs 0 cs i (by simpa using h);rw[Array.getElem?_toList]at *;rw[aA];simp only[Nat.add_zero];rw[List.getElem?_append,List.getElem?_append];simp only[List.length_append,List.length_take,Array.length_toList];have hm:min off cs.size=off:=by omega
 rw[hm];by_cases A:i<off
 ·rw[if_neg (by omega),if_pos (by omega),if_pos (by omega)];rw[List.getElem?_take_of_lt A];simp
 ·by_cases S:i<off+vs.length
  ·rw[if_pos (by omega),if_pos (by omega),if_neg (by omega)];simp
  ·rw[if_neg (by omega),if_neg (by omega),List.getElem?_drop];have:off+vs.length+(i-(off+vs.length))=i:=by omega
   rw[this];simp
theorem Kz(place:Nat→Option (Nat × Nat)):∀(fH:List (Nat × Nat)) (oP:List Nat) (vs gM:List Value) (cells sY cs:List Value),oP.map place=fH.map some→be al vs gM→be al cells sY →
  fH.length=vs.length→pe cells (fH.zip vs)=some cs→∃ cs',Instr.fill place sY.toArray (oP.zip gM)=some cs'∧be al cs cs'.toList
 |[],[],vs,gM,cells,sY,cs,_,ad,aj,ag,h=>by
  simp[pe]at h;subst h;exact⟨sY.toArray,by simp[Instr.fill],by simpa using aj⟩
 |[],i::oP,_,_,_,_,_,aK,_,_,_,_=>by simp at aK
 |p::fH,[],_,_,_,_,_,aK,_,_,_,_=>by simp at aK
 |p::fH,i::oP,[],_,_,_,_,_,_,_,ag,_=>by simp at ag
 |(off,size)::fH,i::oP,v::vs,gM,cells,sY,cs,aK,ad,aj,ag,h=>by
  cases ad with
  |cons _ v' _ gM ad Bq =>
   simp only[List.zip_cons_cons,pe]at h;split at h
   ·rename_i T;obtain⟨fg,dx,gW⟩:=T;simp only[List.map_cons,List.cons.injEq]at aK;have eY:=ad.cells;have aR:v'.cells.toList.length=size:=by rw[← eY.length];exact fg
    have qQ:v'.cells.size=size:=by simpa using aR
    have hA:off+size≤sY.length:=by rw[← aj.length];exact dx
    have aj8:=aq2 off v'.cells.toList sY.toArray (by simp;omega);obtain⟨cs',A,S⟩:=Kz place fH oP vs gM (cells.take off++v.cells.toList++cells.drop (off+size)) (sY.take off++v'.cells.toList++sY.drop (off+size)) cs aK.2 Bq
     (((aj.take off).append eY).append (aj.drop _)) (by simpa using ag) h
    refine⟨cs',?_,S⟩;simp only[List.zip_cons_cons,Instr.fill,aK.1];have hn:¬((v'.cells.size≠size || decide (off+v'.cells.size > sY.toArray.size))=true):=by simp;omega
    rw[if_neg hn,← A]
    congr 1
    rw[← Array.toList_inj,show v'.cells=v'.cells.toList.toArray by simp];rw[aj8];simp[qQ]
   ·cases h
theorem wj{t:TypeId}{z:List Value}(h:oz P t=some z):∃ v:Value,(∀ w,(zeroValue t).run P w=.ok v w)∧v.cells.toList=z∧(∀ c∈z,Value.plain c=true)∧∀ c∈z,c.oneCell'=true:=by
 unfold oz at h;split at h
 ·rename_i v ad;split at h
  ·rename_i gs;cases h;cases au:P.info? t with
   |none=>rw[au]at ad;cases ad
   |some i =>
    rw[au]at ad;have:=fun c aj=>(List.all_eq_true.1 gs) c aj;simp only[Bool.and_eq_true]at this;exact⟨v,fun w=>by simp[zeroValue,typeInfo,au,show i.zero=some v from ad],rfl,fun c aj=>(this c aj).1,fun c aj=>(this c aj).2⟩
  ·cases h
 ·cases h
theorem Ky:∀(fH:List ((Nat × Nat) × Value)) (cells cs:List Value),(∀ c∈cells,c.oneCell'=true)→pe cells fH=some cs→∀ c∈cs,c.oneCell'=true
 |[],cells,cs,aj,h=>by simp[pe]at h;subst h;exact aj
 |((off,size),v)::r,cells,cs,aj,h=>by
  simp only[pe]at h;split at h
  ·rename_i T;refine Ky r _ cs ?_ h;intro c hm;simp only[List.mem_append]at hm;rcases hm with(hm|hm)|hm
   ·exact aj c (List.mem_of_mem_take hm)
   ·exact List.all_eq_true.1 T.2.2 c hm
   ·exact aj c (List.mem_of_mem_drop hm)
  ·cases h
theorem age{t:TypeId}{parts:Array (Nat × Operand)}{k:yc}{xs:List Operand}(ab:kindOf P (.build t parts)=some (.p k,xs)){vs:List Value}(ad:be al vs (xs.map ev)){v:Value}(h:cr k vs=some v) :
  oA P al ev (.build t parts) v:=by
 simp only[kindOf,BD]at ab;split at ab
 ·rename_i z kF bp hu;split at ab
  ·rename_i B0 hp;split at ab
   ·rename_i gs;cases ab;simp only[cr,gQ]at h;split at h
    ·rename_i ag;cases aZ:pe z ((List.filterMap id (parts.toList.map fun x=>B0[x.1]?)).zip vs) with
     |none=>rw[aZ]at h;cases h
     |some cs =>
      rw[aZ]at h;cases h;obtain⟨eL,xi,ur,vC,zo⟩:=wj bp;have GB:(parts.toList.map (·.1)).map (fun i=>B0[i]?)=(List.filterMap id (parts.toList.map fun x=>B0[x.1]?)).map some:=by
       have:∀ l:List (Option (Nat × Nat)),l.all (·.isSome)=true→l=(l.filterMap id).map some:=by
        intro l;induction l with
        |nil=>simp
        |cons a r ih =>
         intro ai;simp only[List.all_cons,Bool.and_eq_true]at ai;cases a with
         |none=>simp at ai
         |some a=>simp only[List.filterMap_cons,id,List.map_cons];rw[← ih ai.2]
       rw[← this _ gs];simp
      obtain⟨cs',A,S⟩:=Kz (al:=al) (fun i=>B0[i]?) _ (parts.toList.map (·.1)) vs _ z z cs GB ad (be.plain vC) ag aZ;have Hi:(parts.toList.map (·.1)).zip ((parts.toList.map (·.2)).map ev)=(parts.map fun(i,x)=>(i,ev x)).toList:=by
       simp only[Array.toList_map];induction parts.toList with
       |nil=>rfl
       |cons a r ih=>simp only[List.map_cons,List.zip_cons_cons,ih]
      refine⟨.agg cs',?_,fun o w ah=>?_⟩
      ·have:=bL.agg cs cs'.toList S (Ky _ _ _ zo aZ);simpa using this
      ·have T:P.built t (parts.map fun(i,x)=>(i,ev x)).toList=some cs':=by
        unfold Program.built;have xk:=xi default;cases A8:P.info? t with
        |none=>simp[zeroValue,typeInfo,A8]at xk
        |some it =>
         cases tj:it.zero with
         |none=>simp[zeroValue,typeInfo,A8,tj]at xk
         |some M4 =>
          have:M4=eL:=by simpa[zeroValue,typeInfo,A8,tj] using xk
          subst this;simp only[hu,hp];rw[← Hi];simp only[tj,List.getElem?_toArray];rw[← A,← ur]
       simp[execOp,ah,run_build w t _ cs' T]
    ·cases h
   ·cases ab
  ·cases ab
 ·rename_i z n e bp hu;split at ab
  ·rename_i s ak;cases ab;simp only[cr,gQ]at h;split at h
   ·rename_i ag;cases aZ:pe z ((parts.toList.map fun x=>(x.1*s,s)).zip vs) with
    |none=>rw[aZ]at h;cases h
    |some cs =>
     rw[aZ]at h;cases h;obtain⟨eL,xi,ur,vC,zo⟩:=wj bp;have GB:(parts.toList.map (·.1)).map (fun i=>some (i*s,s))=(parts.toList.map fun x=>(x.1*s,s)).map some:=by simp
     obtain⟨cs',A,S⟩:=Kz (al:=al) (fun i=>some (i*s,s)) _ (parts.toList.map (·.1)) vs _ z z cs GB ad (be.plain vC) ag aZ;have Hi:(parts.toList.map (·.1)).zip ((parts.toList.map (·.2)).map ev)=(parts.map fun(i,x)=>(i,ev x)).toList:=by
      simp only[Array.toList_map];induction parts.toList with
      |nil=>rfl
      |cons a r ih=>simp only[List.map_cons,List.zip_cons_cons,ih]
     refine⟨.agg cs',?_,fun o w ah=>?_⟩
     ·have:=bL.agg cs cs'.toList S (Ky _ _ _ zo aZ);simpa using this
     ·have T:P.built t (parts.map fun(i,x)=>(i,ev x)).toList=some cs':=by
       unfold Program.built;have xk:=xi default;cases A8:P.info? t with
       |none=>simp[zeroValue,typeInfo,A8]at xk
       |some it =>
        cases tj:it.zero with
        |none=>simp[zeroValue,typeInfo,A8,tj]at xk
        |some M4 =>
         have:M4=eL:=by simpa[zeroValue,typeInfo,A8,tj] using xk
         subst this;cases Sb:P.info? e with
         |none=>simp[gJ,Sb]at ak
         |some aki =>
          have pu:aki.size=s:=by simpa[gJ,Sb] using ak
          simp only[hu,Sb,tj,pu];rw[← Hi,← A,← ur]
      simp[execOp,ah,run_build w t _ cs' T]
   ·cases h
  ·cases ab
 ·cases ab
end Go.Eng
namespace Go.Eng
open Go
variable {P:Program}{al:Ren}{ev:Operand→Value}
theorem XG:∀ {a b:Value},zv a=true→(yp a b=true↔a=b)
 |.bool a,b,_=>by cases b<;>simp[yp]
 |.int k a,b,_=>by cases b<;>simp[yp]
 |.string a,b,_=>by
  cases b<;>simp[yp]
  rename_i b;constructor
  ·intro h;cases a;cases b;simp at h;rw[h]
  ·intro h;rw[h]
theorem XH:∀ {a b:List Value},a.all zv=true→(Aw a b=true↔a=b)
 |[],b,_=>by cases b<;>simp[Aw]
 |x::r,[],_=>by simp[Aw]
 |x::r,y::s,h=>by
  simp only[List.all_cons,Bool.and_eq_true]at h;simp only[Aw,Bool.and_eq_true,XG h.1,XH h.2,List.cons.injEq]
theorem KA{a b:Value}(h:sc a=true):ry a b=true↔a=b:=by
 cases a with
 |agg cs =>
  cases b<;>simp only[ry]<;>first|(simp[yp];done)|skip
  rename_i bG;rw[XH (by simpa[sc] using h),Value.agg.injEq,Array.toList_inj]
 |_ =>
  first
  |(simp[sc,zv]at h;done)
  |(simp only[ry];exact XG (by simpa[sc] using h))
theorem aa8{v:Value}(h:zv v=true):Value.plain v=true:=by
 cases v<;>first|rfl|(simp[zv]at h)
theorem Fq{v v':Value}(h:sc v=true)(ad:bL al v v'):v'=v:=by
 cases v with
 |agg cs =>
  obtain⟨cs',rfl,S,_⟩:=ad.Ns;have:∀ {l df:List Value},l.all zv=true→be al l df→df=l:=by
   intro l;induction l with
   |nil=>intro df _ h;cases h;rfl
   |cons x r ih =>
    intro df ai h;simp only[List.all_cons,Bool.and_eq_true]at ai;cases h with
    |cons _ _ _ _ A S=>rw[ih ai.2 S,bL.rT (aa8 ai.1) A]
  rw[this (by unfold sc at h;exact h) S]
 |_=>first|exact bL.rT (aa8 (by simpa[sc] using h)) ad
theorem TP{k:TypeId}(h:xq P k=true):Maps.Keyed P k:=by
 unfold xq at h;split at h
 ·rename_i q ab;exact Maps.int_keyed ab
 ·rename_i ab;exact Maps.string_keyed ab
 ·rename_i ab;simp only[Bool.and_eq_true]at h;exact Maps.Keyed.of_law (deep_law (by omega) h.1 h.2 (by rw[ab]))
 ·rename_i ab;simp only[Bool.and_eq_true]at h;exact Maps.Keyed.of_law (deep_law (by omega) h.1 h.2 (by rw[ab]))
 ·cases h
theorem ahA{t:TypeId}{lA}(aC:P.underlying t=some (.interface lA))(d:Nat)(w:World):(Op.equalIn (d+1) t .nilIface .nilIface).run P w=.ok true w:=by
 simp[Op.equalIn,run_underlying aC]
theorem ahz{t:TypeId}{lA}(aC:P.underlying t=some (.interface lA))(d:Nat)(u v)(w:World):(Op.equalIn (d+1) t (.iface u v) .nilIface).run P w=.ok false w:=by
 simp[Op.equalIn,run_underlying aC]
theorem akt{neg:Bool}{t o3:TypeId}{lA}{x:Operand}{a:Value}{b:Bool}(aC:P.underlying t=some (.interface lA))(bw:ev (.const .nilIface)=.nilIface)
  (ai:bL al a (ev x)) (h:o8 3 a=some b):oA P al ev (.binOp (if neg then .neq else .eql) t x (.const .nilIface) o3) (.bool (if neg then !b else b)):=by
 have gG:(ev x=.nilIface∧b=true)∨(∃ u v,ev x=.iface u v∧b=false):=by
  generalize ev x=z at *;cases a<;>simp[o8]at h
  ·subst h;cases ai with
   |same _ h=>exact .inr ⟨_,_,rfl,rfl⟩
   |iface=>exact .inr ⟨_,_,rfl,rfl⟩
  ·subst h;exact .inl ⟨bL.rT rfl ai,rfl⟩
 rcases gG with⟨gZ,rfl⟩|⟨u,v,gZ,rfl⟩
 ·refine DJ ?_ ?_ ?_ bw
  ·intro op w;rw[gZ];cases op<;>simp[eqGuard]
  ·intro w;rw[gZ];exact ahA aC 9999 w
  ·rw[gZ];exact⟨rfl,rfl⟩
 ·refine DJ ?_ ?_ ?_ bw
  ·intro op w;rw[gZ];unfold eqGuard;split<;>rfl
  ·intro w;rw[gZ];exact ahz aC 9999 u v w
  ·rw[gZ];exact⟨rfl,rfl⟩
theorem Kt{neg:Bool}{t o3:TypeId}{x y:Operand}{a b v:Value}(hu:(∃ kF,P.underlying t=some (.struct kF))∨∃ n e,P.underlying t=some (.array n e))(ab:xq P t=true)(ml:P.eqGuardType P.depth t=false)
  (ai:bL al a (ev x)) (T:bL al b (ev y)) (h:BV (mm P t) neg [a,b]=some v):oA P al ev (.binOp (if neg then .neq else .eql) t x y o3) v:=by
 simp only[BV]at h;split at h<;>first|(cases h;done)|skip
 rename_i Zi;cases h;simp only[mm,Bool.and_eq_true,Option.isSome_iff_exists]at Zi;obtain⟨⟨Zh,mM,Gv⟩,aj5,nQ,Dk⟩:=Zi;have az:=Fq Zh ai;have aL:=Fq aj5 T;have sy:(match P.underlying t with|some (.array _ _)|some (.struct _)=>true|_=>false)=true:=by rcases hu with⟨_,hu⟩|⟨_,_,hu⟩<;>rw[hu]
 obtain⟨xs,_,rfl,_⟩:=keyOf_top sy Gv;obtain⟨c4,_,rfl,_⟩:=keyOf_top sy Dk;have ajk:P.keyTypeAt 8 t=true:=by
  unfold xq at ab;rcases hu with⟨_,hu⟩|⟨_,_,hu⟩<;>rw[hu]at ab<;>simp only[Bool.and_eq_true]at ab<;>exact ab.1
 have K:=TP ab;have Zk:∀(op:BinOp) (w:World),(eqGuard op t x y (.agg xs) (.agg c4)).run P w=.ok () w:=by
  intro op w;cases op<;>simp[eqGuard,ml]
 have e4:∀ w:World,(Op.equalIn 10000 t (.agg xs) (.agg c4)).run P w=.ok (ry (.agg xs) (.agg c4)) w:=by
  intro w;obtain⟨r,hr,Sc⟩:=run_equal_deep w (by decide) ajk sy Gv Dk;have:r=ry (.agg xs) (.agg c4):=by
   rw[Bool.eq_iff_iff,Sc,KA Zh];constructor
   ·rintro rfl;exact K.inj Gv Dk
   ·intro e;rw[e]at Gv;rw[Gv]at Dk;cases Dk;rfl
  rw[← this];exact hr
 refine⟨_,.same _ rfl,fun o w ah=>?_⟩;cases neg
 ·simp only[execOp,ah,az,aL,Sem.run_bind,Zk,Result.andThen_ok,Bool.false_eq_true,if_false,run_eql_struct,e4,Sem.run_pure]
 ·simp only[execOp,ah,az,aL,Sem.run_bind,Zk,Result.andThen_ok,if_true,run_neq_struct,e4,Sem.run_pure]
end Go.Eng
namespace Go.Eng
open Go
variable {P:Program}{al:Ren}{ev:Operand→Value}
theorem abi{x:Operand}{op:Op}(ah:op=.move x∨op=.assign x){v:Value}(h:bL al v (ev x)):oA P al ev op v :=
 ⟨ev x,h,fun o w e=>by rcases ah with rfl|rfl<;>simp[execOp,e]⟩
theorem be.jW{a:Value}{l:List Value}(h:be al l [a]):∃ x,l=[x]∧bL al x a:=by
 cases h with
 |cons x _ _ _ h hr=>cases hr;exact⟨x,rfl,h⟩
theorem be.mW{a b:Value}{l:List Value}(h:be al l [a,b]):∃ x y,l=[x,y]∧bL al x a∧bL al y b:=by
 cases h with
 |cons x _ _ _ h hr=>obtain⟨y,rfl,bw⟩:=be.jW hr;exact⟨x,y,rfl,h,bw⟩
theorem be.Vq{a b c:Value}{l:List Value}(h:be al l [a,b,c]):∃ x y z,l=[x,y,z]∧bL al x a∧bL al y b∧bL al z c:=by
 cases h with
 |cons x _ _ _ h hr=>obtain⟨y,z,rfl,bw,bp⟩:=be.mW hr;exact⟨x,y,z,rfl,h,bw,bp⟩
theorem be.XS{a:Value}{l r:List Value}(h:be al l (a::r)):∃ x s,l=x::s∧bL al x a∧be al s r:=by
 cases h with
 |cons x _ s _ h hr=>exact⟨x,s,rfl,h,hr⟩
theorem Ep{k:IntKind}{i:Int}{y:Nat}{code:BoundsCode}(h0:0≤i)(A:i≤y)(w:World):(Instr.sliceBound (.int k i) y code).run P w=.ok i.toNat w:=by
 simp[Instr.sliceBound,asIntOf,h0,A]
theorem CC{fs au:Option Operand}{len:Nat}{vs:List Value}{l h:Nat}(T:oD fs.isSome au.isSome len vs=some (l,h))(ad:be al vs ((xB fs++xB au).map ev)){cap:Nat}(aj:len≤cap)(w:World)(vW:Bool) :
  l≤h∧h≤len∧(Instr.sliceBounds vW len cap (fs.map ev) (au.map ev) none).run P w=.ok (l,h,cap) w:=by
 cases fs with
 |none=>cases au with
  |none =>
   cases ad
   simp[oD]at T;obtain⟨rfl,rfl⟩:=T;simp[Instr.sliceBounds]
  |some y =>
   obtain⟨b,rfl,hr⟩:=be.jW (l:=vs) (by simpa[xB] using ad);cases b<;>simp[oD]at T;rename_i k n;obtain⟨⟨h0,A⟩,rfl,rfl⟩:=T;have e:=hr.int;refine⟨Nat.zero_le _,by omega,?_⟩;simp[Instr.sliceBounds,e,Ep (P:=P) (k:=k) h0 (show n≤(cap:Int) by omega)]
 |some x=>cases au with
  |none =>
   obtain⟨b,rfl,hr⟩:=be.jW (l:=vs) (by simpa[xB] using ad);cases b<;>simp[oD]at T;rename_i k n;obtain⟨⟨h0,A⟩,rfl,rfl⟩:=T;have e:=hr.int;refine⟨by omega,Nat.le_refl _,?_⟩;simp[Instr.sliceBounds,e,Ep (P:=P) (k:=k) h0 A]
  |some y =>
   obtain⟨a,b,rfl,ajN,ajO⟩:=be.mW (l:=vs) (by simpa[xB] using ad);cases a<;>cases b<;>simp[oD]at T;rename_i k n cm h9;obtain⟨⟨h0,A,S⟩,rfl,rfl⟩:=T;have e:=ajN.int;have aL:=ajO.int;refine⟨by omega,by omega,?_⟩;have k8:((h9.toNat:Nat):Int)=h9:=Int.toNat_of_nonneg (by omega);simp[Instr.sliceBounds,e,aL,Ep (P:=P) (k:=cm) (show 0≤h9 by omega) (show h9≤(cap:Int) by omega),Ep (P:=P) (k:=k) (y:=h9.toNat) h0 (by omega)]
theorem aqf{t:TypeId}{x:Operand}{fs au:Option Operand}{k:yc}{xs:List Operand}(ab:kindOf P (.slice t x fs au none)=some (.p k,xs)){vs:List Value}(ad:be al vs (xs.map ev)){v:Value}(h:cr k vs=some v) :
  oA P al ev (.slice t x fs au none) v:=by
 simp only[kindOf,vE]at ab;split at ab
 ·rename_i e hu;cases ak:gJ P e with
  |none=>rw[ak]at ab;cases ab
  |some s =>
   rw[ak]at ab;cases ab;obtain⟨a,r,rfl,ai,hr⟩:=be.XS ad;simp only[cr]at h;unfold rR at h;split at h
   ·rename_i dK;cases dK;cases T:oD fs.isSome au.isSome 0 r with
    |none=>rw[T]at h;cases h
    |some p =>
     rw[T]at h;cases h;obtain⟨l,cp⟩:=p;have e:=ai.BO;refine⟨_,.same _ rfl,fun o w ah=>?_⟩;obtain⟨A,S,ae⟩:=CC (P:=P) T hr (Nat.le_refl 0) w true;have ag:l=0:=by omega
     have ajb:cp=0:=by omega
     subst ag;subst ajb;simp[execOp,ah,Instr.sliceAt,Instr.slice,run_underlying hu,e,ae,oX ak]
   ·rename_i id o n a8 dL dK;cases dK;split at h
    ·rename_i pu;subst pu;cases T:oD fs.isSome au.isSome n r with
     |none=>rw[T]at h;cases h
     |some p =>
      rw[T]at h;cases h;obtain⟨l,cp⟩:=p;obtain⟨hC,eW,cap,DH,e,vt,nl⟩:=ai.vX;by_cases tZ:cap=l
      ·refine⟨.slice (some ⟨hC.b,eW,none⟩) (cp-l) (cap-l),?_,fun sG w ah=>?_⟩
       ·obtain⟨A,S,_⟩:=CC (P:=P) T hr vt default true;have:cp-l=0:=by omega
        show bL al (.slice (some ⟨id,o+l*a8,none⟩) (cp-l) a8) _;rw[this,show cap-l=0 by omega];exact .slice _ _ _ _ _ _ hC DH (by omega) (.inr ⟨rfl,rfl⟩)
       ·subst tZ;obtain⟨A,S,ae⟩:=CC (P:=P) T hr vt w true;simp[execOp,ah,Instr.sliceAt,Instr.slice,run_underlying hu,e,ae,oX ak]
      ·refine⟨.slice (some ⟨hC.b,eW+l*a8,none⟩) (cp-l) (cap-l),?_,fun sG w ah=>?_⟩
       ·obtain⟨A,S,_⟩:=CC (P:=P) T hr vt default true;show bL al (.slice (some ⟨id,o+l*a8,none⟩) (cp-l) a8) _;refine .slice _ _ _ _ _ _ hC DH (by omega) (.inl ?_);rcases nl with⟨rfl,bX⟩|⟨rfl,rfl⟩
        ·refine⟨by omega,?_⟩;have:cap*a8=l*a8+(cap-l)*a8:=by rw[← Nat.add_mul];congr 1;omega
         omega
        ·omega
       ·obtain⟨A,S,ae⟩:=CC (P:=P) T hr vt w true;simp[execOp,ah,Instr.sliceAt,Instr.slice,run_underlying hu,e,ae,oX ak,tZ,Addr.wx]
    ·cases h
   ·cases h
 ·rename_i hu;cases ab;obtain⟨a,r,rfl,ai,hr⟩:=be.XS ad;simp only[cr]at h;unfold tr at h;split at h
  ·rename_i s dL dK;cases dK;cases T:oD fs.isSome au.isSome s.size r with
   |none=>rw[T]at h;cases h
   |some p =>
    rw[T]at h;cases h;obtain⟨l,cp⟩:=p;have e:=ai.str;refine⟨_,.same _ rfl,fun o w ah=>?_⟩;obtain⟨A,S,ae⟩:=CC (P:=P) T hr (Nat.le_refl _) w false;simp[execOp,ah,Instr.sliceAt,Instr.slice,run_underlying hu,e,ae]
  ·cases h
 ·cases ab
theorem agH{t:TypeId}{x au mx:Operand}{k:yc}{xs:List Operand}(ab:kindOf P (.slice t x none (some au) (some mx))=some (.p k,xs)){vs:List Value}(ad:be al vs (xs.map ev)){v:Value}(h:cr k vs=some v) :
  oA P al ev (.slice t x none (some au) (some mx)) v:=by
 simp only[kindOf,vE]at ab;split at ab<;>first|(cases ab;done)|skip
 rename_i e hu;cases ak:gJ P e with
 |none=>rw[ak]at ab;cases ab
 |some s =>
  rw[ak]at ab;cases ab;obtain⟨a,b,c,rfl,ai,T,aj⟩:=be.Vq ad;simp only[cr]at h;unfold abM at h;split at h<;>first|(cases h;done)|skip
  ·rename_i dK;cases dK;split at h<;>first|(cases h;done)|skip
   rename_i cp;obtain⟨rfl,rfl⟩:=cp;cases h;have az:=ai.BO;have aL:=T.int;have bq:=aj.int;refine⟨_,.same _ rfl,fun o w ah=>?_⟩;simp[execOp,ah,Instr.sliceAt,Instr.slice,run_underlying hu,az,aL,bq,oX ak,Instr.sliceBounds,Instr.sliceBound,asIntOf]
  ·rename_i id o n a8 ck wi cm z2 dK;cases dK;split at h<;>first|(cases h;done)|skip
   rename_i cp;obtain⟨rfl,rfl,rfl⟩:=cp;cases h;obtain⟨hC,eW,cap,DH,az,vt,nl⟩:=ai.vX;have aL:=T.int;have bq:=aj.int;have tW:∀ w,(Instr.sliceBounds true n cap none (some (ev au)) (some (ev mx))).run P w=.ok (0,n,n) w:=fun w=>by
    simp[Instr.sliceBounds,aL,bq,Ep (P:=P) (k:=ck) (show 0≤(n:Int) by omega) (show(n:Int)≤(n:Nat) by omega),Ep (P:=P) (k:=cm) (show 0≤(n:Int) by omega) (show(n:Int)≤(cap:Int) by omega)]
   refine⟨.slice (some ⟨hC.b,eW,none⟩) n n,.clip id o eW n a8 0 hC DH ?_,fun sG w ah=>?_⟩
   ·rcases nl with⟨A,S⟩|⟨A,S⟩
    ·refine .inl ⟨A,Nat.le_trans ?_ S⟩;have:=Nat.mul_le_mul_right a8 vt;omega
    ·exact .inr A
   ·have:=tW w;by_cases hn:n=0
    ·subst hn;simp[execOp,ah,Instr.sliceAt,Instr.slice,run_underlying hu,az,this,oX ak]
    ·have vn:¬ 0=n:=fun e=>hn e.symm;simp[execOp,ah,Instr.sliceAt,Instr.slice,run_underlying hu,az,this,oX ak,Addr.wx,hn]
theorem abd{mx:Bool}{c:Call}{k:yc}{xs:List Operand}(gu:c.callee=.builtin (if mx then .max else .min))(ab:sB P mx c.args.toList c.argTypes[0]?=some (.p k,xs)){vs:List Value}(ad:be al vs (xs.map ev)){v:Value}(h:cr k vs=some v) :
  oA P al ev (.call c) v:=by
 unfold sB at ab;split at ab<;>first|(cases ab;done)|skip
 rename_i x y t ct aC;have c8:c.args=#[x,y]:=by rw[← Array.toList_inj];exact ct
 split at ab<;>first|(cases ab;done)|skip
 rename_i LN hu;cases ab;obtain⟨a,b,rfl,ai,T⟩:=be.mW ad;simp only[cr]at h;unfold D8 at h;split at h<;>first|(cases h;done)|skip
 rename_i ck hD cm h9 dK;cases dK;split at h<;>first|(cases h;done)|skip
 rename_i fe;subst fe;cases h;have az:=ai.int;have aL:=T.int;cases mx
 ·exact⟨_,.same _ rfl,fun o w ah=>by simp[execOp,ah,resolve,gu,c8,invoke,builtin,Builtin.min_,Builtin.min2,az,aL]⟩
 ·exact⟨_,.same _ rfl,fun o w ah=>by simp[execOp,ah,resolve,gu,c8,invoke,builtin,Builtin.max_,Builtin.max2,az,aL]⟩
theorem ahX {fn : Func} (hn : fn.name = "internal/bytealg.IndexByteString") : Extern.find fn = some Extern.BytealgIndexByte.indexByte := by
 unfold Extern.find;simp only[hn]
 kernel_rfl
theorem ahV {fn : Func} (hn : fn.name = "internal/bytealg.IndexByteString") (ah : fn.origin = "") : Extern.findNext fn = none := by
 unfold Extern.findNext;simp only[hn,ah]
 kernel_rfl
theorem akh{c:Call}{f:FuncId}(gu:c.callee=.value (.func f))(qO:Tj P f=true)(aR:c.args.toList.length=2){vs:List Value}(ad:be al vs (c.args.toList.map ev)){v:Value}(h:cr .LJ vs=some v)
  (sk:ev (.func f)=.func (.func f) #[] #[]):oA P al ev (.call c) v:=by
 obtain⟨x,y,c8⟩:∃ x y,c.args=#[x,y]:=by
  match ag:c.args.toList,aR with
  |[x,y],_=>exact⟨x,y,by rw[← Array.toList_inj];exact ag⟩
 rw[c8]at ad;obtain⟨a,b,rfl,ai,T⟩:=be.mW ad;simp only[cr]at h;unfold Ml at h;split at h<;>first|(cases h;done)|skip
 rename_i s z dK;cases dK;cases h;have az:=ai.str;have aL:=T.int;unfold Tj at qO;split at qO<;>first|(cases qO;done)|skip
 rename_i fn aZ;simp only[Bool.and_eq_true,beq_iff_eq]at qO;obtain⟨⟨mG,hn⟩,ah⟩:=qO;have RY:=fun(args:Array Value) (w:World)=>run_callFunc_extern (w:=w) (args:=args) aZ (by rw[hn];decide) mG (ahV hn ah) (ahX hn);refine⟨_,.same _ rfl,fun o w Bg=>?_⟩;simp[execOp,Bg,resolve,gu,c8,sk,invoke,Deferred.ofValue,RY,az,aL,Lib.run_indexByteString]
theorem ahE{t e:TypeId}{x y:Operand}{o3:TypeId}(hu:P.underlying t=some (.pointer e))(ak:(gJ P e).isSome=true){vs:List Value}(ad:be al vs ([x,y].map ev)){v:Value}(h:cr (.Ku true) vs=some v) :
  oA P al ev (.binOp .neq t x y o3) v:=by
 obtain⟨a,b,rfl,ai,T⟩:=be.mW ad;simp only[cr]at h;unfold Mj at h;split at h<;>first|(cases h;done)|skip
 rename_i i o j p dK;cases dK;split at h<;>first|(cases h;done)|skip
 rename_i aj;obtain⟨rfl,rfl⟩:=aj;cases h;obtain⟨l,ag,az⟩:=ai.sI;obtain⟨df,cW,aL⟩:=T.sI;rw[ag]at cW;cases cW;unfold gJ at ak;cases au:P.info? e with
 |none=>rw[au]at ak;cases ak
 |some Tf =>
  refine⟨_,.same _ rfl,fun sG w ah=>?_⟩;have:=Lib.run_neq_ptr_same (P:=P) w (⟨l.b,o+l.dB,none⟩:Addr) hu au;have y8:(eqGuard .neq t x y (.pointer (some ⟨l.b,o+l.dB,none⟩)) (.pointer (some ⟨l.b,o+l.dB,none⟩))).run P w=.ok () w:=by unfold eqGuard;split<;>rfl
  simp[execOp,ah,az,aL,this,y8]
theorem aqd{c:Call}{x:Operand}(gu:c.callee=.builtin .unsafeSliceData)(ct:c.args.toList=[x]){vs:List Value}(ad:be al vs ([x].map ev)){v:Value}(h:cr .MH vs=some v) :
  oA P al ev (.call c) v:=by
 have c8:c.args=#[x]:=by rw[← Array.toList_inj];exact ct
 obtain⟨a,rfl,ai⟩:=be.jW ad;simp only[cr]at h;unfold H0 at h;split at h<;>first|(cases h;done)|skip
 ·rename_i dK;cases dK;cases h;have az:=ai.BO;exact⟨_,.same _ rfl,fun o w ah=>by simp[execOp,ah,resolve,gu,c8,invoke,builtin,az,Lib.run_unsafeSliceData_nil]⟩
 ·rename_i id off n s dK;cases dK;split at h<;>first|(cases h;done)|skip
  rename_i hn;cases h;obtain⟨l,eW,cap,ag,az,vt,nl⟩:=ai.vX;rcases nl with⟨rfl,_⟩|⟨h0,_⟩
  ·refine⟨_,.ptr id off l ag,fun o w ah=>?_⟩;have:=fun ts ty=>Lib.run_unsafeSliceData_row (P:=P) w ts ty ⟨l.b,off+l.dB,none⟩ n cap (by omega);simp[execOp,ah,resolve,gu,c8,invoke,builtin,az,this]
  ·omega
theorem ahY {fn : Func} (hn : fn.name = "internal/abi.NoEscape") : Extern.find fn = some Extern.AbiNoEscape.same := by
 unfold Extern.find;simp only[hn]
 kernel_rfl
theorem ahW {fn : Func} (hn : fn.name = "internal/abi.NoEscape") (ah : fn.origin = "") : Extern.findNext fn = none := by
 unfold Extern.findNext;simp only[hn,ah]
 kernel_rfl
theorem alt{c:Call}{f:FuncId}(gu:c.callee=.value (.func f))(qO:Tk P f=true)(aR:c.args.toList.length=1){vs:List Value}(ad:be al vs (c.args.toList.map ev)){v:Value}(h:cr .Mb vs=some v)
  (sk:ev (.func f)=.func (.func f) #[] #[]):oA P al ev (.call c) v:=by
 obtain⟨x,c8⟩:∃ x,c.args=#[x]:=by
  match ag:c.args.toList,aR with
  |[x],_=>exact⟨x,by rw[← Array.toList_inj];exact ag⟩
 rw[c8]at ad;obtain⟨a,rfl,ai⟩:=be.jW ad;simp only[cr,HZ]at h;cases h;unfold Tk at qO;split at qO<;>first|(cases qO;done)|skip
 rename_i fn aZ;simp only[Bool.and_eq_true,beq_iff_eq]at qO;obtain⟨⟨mG,hn⟩,ah⟩:=qO;have RY:=fun(args:Array Value) (w:World)=>run_callFunc_extern (w:=w) (args:=args) aZ (by rw[hn];decide) mG (ahW hn ah) (ahY hn);refine⟨_,ai,fun o w Bg=>?_⟩;simp[execOp,Bg,resolve,gu,c8,sk,invoke,Deferred.ofValue,RY,Lib.run_noEscape]
theorem aoL{op:Op}{k:yc}{xs:List Operand}(ab:kindOf P op=some (.p k,xs)){vs:List Value}(ad:be al vs (xs.map ev))(aj:∀ v,ev (.const v)=v)(Ze:∀ f,ev (.func f)=.func (.func f) #[] #[]){v:Value}(h:cr k vs=some v) :
  oA P al ev op v:=by
 cases op with
 |move x =>
  cases ab
  obtain⟨a,rfl,ai⟩:=be.jW ad;cases h;exact abi (.inl rfl) ai
 |assign x =>
  cases ab
  obtain⟨a,rfl,ai⟩:=be.jW ad;cases h;exact abi (.inr rfl) ai
 |pick atW rg arq =>
  cases ab
  obtain⟨c,a,b,rfl,A,S,ae⟩:=be.Vq ad;simp only[cr]at h;cases c<;>simp[Mm]at h;rename_i c;subst h;have e:=A.bool;refine⟨if c then ev rg else ev arq,?_,fun o w ah=>?_⟩
  ·cases c<;>simpa
  ·simp[execOp,ah,e,asBool]
 |nilCheck x =>
  cases ab
  obtain⟨a,rfl,ai⟩:=be.jW ad;simp only[cr]at h;unfold zU at h;split at h
  ·rename_i dK;cases dK;cases h;refine⟨ev x,ai,fun o w ah=>?_⟩;generalize af:ev x=z at *;cases ai with
   |same _ h=>simp[Value.plain]at h
   |ptr id off l ag=>simp[execOp,ah,af]
  ·rename_i dK;cases dK;cases h;refine⟨ev x,ai,fun o w ah=>?_⟩;obtain⟨a',fl,e,_,_⟩:=ai.KE;simp[execOp,ah,e]
  ·rename_i dK;cases dK;cases h;refine⟨ev x,ai,fun o w ah=>?_⟩;generalize af:ev x=z at *;cases ai with
   |same _ h=>simp[Value.plain]at h
   |yield l df ag=>simp[execOp,ah,af]
  ·cases h
 |binOp op t x y o3 =>
  simp only[kindOf,BC]at ab;have Ma:∀ {oE:Nat},uv oE op x y=some (K.p k,xs)→(∃ neg:Bool,op=(if neg then .neq else .eql)∧k=.isNil oE neg∧xs=[x])∧BA oE y=true:=by
   intro oE ab;unfold uv at ab;split at ab
   ·rename_i hn;refine⟨?_,hn⟩;split at ab<;>first|(cases ab;done)|skip
    ·cases ab;exact⟨false,rfl,rfl,rfl⟩
    ·cases ab;exact⟨true,rfl,rfl,rfl⟩
   ·cases ab
  split at ab
  ·cases ab
   obtain⟨a,b,rfl,ai,T⟩:=be.mW ad;exact WM ai T h
  ·cases ab
   obtain⟨a,b,rfl,ai,T⟩:=be.mW ad;exact WM ai T h
  ·rename_i hu;split at ab<;>first|(cases ab;done)|skip
   all_goals
    cases ab
    obtain⟨a,b,rfl,ai,T⟩:=be.mW ad;simp only[cr]at h;cases a<;>cases b<;>simp[D6]at h;subst h
   ·exact Ym (neg:=false) hu ai T
   ·exact Ym (neg:=true) hu ai T
  ·rename_i e hu;obtain⟨⟨neg,rfl,rfl,rfl⟩,hn⟩:=Ma ab;obtain⟨a,rfl,ai⟩:=be.jW ad;have bw:y=.const (.slice none 0 0):=by
    unfold BA at hn;split at hn<;>simp at hn;obtain⟨rfl,rfl⟩:=hn;rfl
   subst bw;simp only[cr,uI]at h;cases T:o8 0 a with
   |none=>rw[T]at h;cases h
   |some b=>rw[T]at h;cases h;exact akv hu (aj _) ai T
  ·rename_i e hu;unfold BF at ab;split at ab
   case isFalse =>
    split at ab<;>first|(cases ab;done)|skip
    rename_i ajS;split at ab<;>first|(cases ab;done)|skip
    cases ab
    exact ahE hu ajS ad h
   obtain⟨⟨neg,rfl,rfl,rfl⟩,hn⟩:=Ma ab;obtain⟨a,rfl,ai⟩:=be.jW ad;have bw:y=.const (.pointer none):=by
    unfold BA at hn;split at hn<;>simp at hn;rfl
   subst bw;simp only[cr,uI]at h;cases T:o8 1 a with
   |none=>rw[T]at h;cases h
   |some b=>rw[T]at h;cases h;exact aku hu (aj _) ai T
  ·rename_i p r z hu;obtain⟨⟨neg,rfl,rfl,rfl⟩,hn⟩:=Ma ab;obtain⟨a,rfl,ai⟩:=be.jW ad;have bw:y=.const .nilFunc:=by
    unfold BA at hn;split at hn<;>simp at hn;rfl
   subst bw;simp only[cr,uI]at h;cases T:o8 2 a with
   |none=>rw[T]at h;cases h
   |some b=>rw[T]at h;cases h;exact aks hu (aj _) ai T
  ·rename_i lA hu;obtain⟨⟨neg,rfl,rfl,rfl⟩,hn⟩:=Ma ab;obtain⟨a,rfl,ai⟩:=be.jW ad;have bw:y=.const .nilIface:=by
    unfold BA at hn;split at hn<;>simp at hn;rfl
   subst bw;simp only[cr,uI]at h;cases T:o8 3 a with
   |none=>rw[T]at h;cases h
   |some b=>rw[T]at h;cases h;exact akt hu (aj _) ai T
  ·rename_i kF hu;unfold xp at ab;split at ab<;>first|(cases ab;done)|skip
   rename_i fe;simp only[Bool.and_eq_true,Bool.not_eq_true']at fe;split at ab<;>first|(cases ab;done)|skip
   ·cases ab
    obtain⟨a,b,rfl,ai,T⟩:=be.mW ad;exact Kt (neg:=false) (.inl ⟨_,hu⟩) fe.1 fe.2 ai T h
   ·cases ab
    obtain⟨a,b,rfl,ai,T⟩:=be.mW ad;exact Kt (neg:=true) (.inl ⟨_,hu⟩) fe.1 fe.2 ai T h
  ·rename_i ate CI hu;unfold xp at ab;split at ab<;>first|(cases ab;done)|skip
   rename_i fe;simp only[Bool.and_eq_true,Bool.not_eq_true']at fe;split at ab<;>first|(cases ab;done)|skip
   ·cases ab
    obtain⟨a,b,rfl,ai,T⟩:=be.mW ad;exact Kt (neg:=false) (.inr ⟨_,_,hu⟩) fe.1 fe.2 ai T h
   ·cases ab
    obtain⟨a,b,rfl,ai,T⟩:=be.mW ad;exact Kt (neg:=true) (.inr ⟨_,_,hu⟩) fe.1 fe.2 ai T h
  ·cases ab
 |unOp op t x =>
  cases ab
  obtain⟨a,rfl,ai⟩:=be.jW ad;simp only[cr,Mn]at h;unfold uV at h;split at h
  ·split at h<;>first|(cases h;done)|skip
   ·cases h
    have e:=ai.int;exact⟨_,.same _ rfl,fun o w ah=>by simp[execOp,ah,e,Op.unary,Op.intArith]⟩
   ·cases h
    have e:=ai.int;exact⟨_,.same _ rfl,fun o w ah=>by simp[execOp,ah,e,Op.unary,Op.intBits]⟩
  ·split at h<;>first|(cases h;done)|skip
   cases h
   have e:=ai.bool;exact⟨_,.same _ rfl,fun o w ah=>by simp[execOp,ah,e,Op.unary]⟩
  ·cases h
 |convert s d x =>
  simp only[kindOf]at ab;split at ab
  ·rename_i ck cm A S;cases ab;obtain⟨a,rfl,ai⟩:=be.jW ad;simp only[cr]at h;cases a<;>simp[Mi]at h;subst h;have e:=ai.int;exact⟨_,.same _ rfl,fun o w ah=>by simp[execOp,ah,e,convert,run_underlying A,run_underlying S,Conv.intToInt]⟩
  ·rename_i A S;cases ab;obtain⟨a,rfl,ai⟩:=be.jW ad;simp only[cr]at h;cases a<;>simp[abR]at h;subst h;have e:=ai.str;exact⟨_,.same _ rfl,fun o w ah=>by simp[execOp,ah,e,convert,run_underlying A,run_underlying S]⟩
  ·split at ab<;>cases ab
  ·split at ab<;>first|(cases ab;done)|(split at ab<;>cases ab)
  ·unfold BG at ab;split at ab<;>cases ab
  ·unfold BE at ab;split at ab<;>cases ab
  ·cases ab
 |build t parts=>exact age ab ad h
 |field t x f =>
  simp only[kindOf]at ab;split at ab<;>first|(cases ab;done)|skip
  rename_i kF w2;split at ab<;>first|(cases ab;done)|skip
  rename_i Kx aZ;split at ab<;>first|(cases ab;done)|skip
  rename_i g s aA ak;cases ab;obtain⟨a,rfl,ai⟩:=be.jW ad;simp only[cr]at h;cases a<;>simp only[abN]at h<;>first|(cases h;done)|skip
  obtain⟨cs',e,hA,A⟩:=ai.Ns;obtain⟨v',fV,e4⟩:=ac6 aA ak hA A h;have hu:P.underlying t=some (.struct kF):=by
   unfold yL at w2;split at w2<;>first|(cases w2;assumption)|cases w2
  exact⟨v',fV,fun o w ah=>by simp[execOp,ah,e,Instr.field,run_underlying hu,aZ,asAgg,e4]⟩
 |fieldAddr t x f =>
  simp only[kindOf]at ab;split at ab<;>first|(cases ab;done)|skip
  rename_i kF w2;split at ab<;>first|(cases ab;done)|skip
  rename_i Kx aZ;split at ab<;>first|(cases ab;done)|skip
  rename_i s ak;split at ab<;>first|(cases ab;done)|skip
  rename_i lu;cases ab;obtain⟨a,rfl,ai⟩:=be.jW ad;simp only[cr]at h;unfold Mk at h;split at h<;>first|(cases h;done)|skip
  rename_i id off dK;cases dK;cases h;obtain⟨l,ag,e⟩:=ai.sI;have hu:P.underlying t=some (.struct kF):=by
   unfold yL at w2;split at w2<;>first|(cases w2;assumption)|cases w2
  refine⟨.pointer (some ⟨l.b,off+Kx.offset+l.dB,none⟩),.ptr _ _ l ag,fun o w ah=>?_⟩;have F7:(⟨l.b,off+l.dB,none⟩:Addr).add Kx.offset=⟨l.b,off+Kx.offset+l.dB,none⟩:=by rw[Addr.wx];congr 1;omega
  simp[execOp,ah,e,Instr.fieldAt,run_underlying hu,aZ,Instr.sureAddr,fieldPlace,oX ak,lu,F7]
 |indexAddr t x i =>
  simp only[kindOf]at ab;split at ab
  ·rename_i e hu;cases ak:gJ P e with
   |none=>rw[ak]at ab;cases ab
   |some s =>
    rw[ak]at ab;cases ab;obtain⟨a,b,rfl,ai,T⟩:=be.mW ad;simp only[cr]at h;unfold oU at h;split at h<;>first|(cases h;done)|skip
    rename_i id off n a8 LN vD dK;cases dK;split at h<;>first|(cases h;done)|skip
    rename_i jF;cases h;obtain⟨h0,aV,rfl⟩:=jF;obtain⟨l,eW,cap,ag,aL,vt,nl⟩:=ai.vX;have bq:=T.int;rcases nl with⟨rfl,bX⟩|⟨rfl,rfl⟩
    ·refine⟨.pointer (some ⟨l.b,off+vD.toNat*a8+l.dB,none⟩),.ptr _ _ l ag,fun o w ah=>?_⟩;have F7:(⟨l.b,off+l.dB,none⟩:Addr).add (vD.toNat*a8)=⟨l.b,off+vD.toNat*a8+l.dB,none⟩:=by rw[Addr.wx];congr 1;omega
     simp[execOp,ah,aL,bq,Instr.indexAt,run_underlying hu,asIntOf,oX ak,h0,aV,F7]
    ·exfalso;simp at aV;omega
  ·rename_i n e hu;cases ak:gJ P e with
   |none=>rw[ak]at ab;cases ab
   |some s =>
    rw[ak]at ab;cases ab;obtain⟨a,b,rfl,ai,T⟩:=be.mW ad;simp only[cr]at h;unfold D7 at h;split at h<;>first|(cases h;done)|skip
    rename_i id off LN vD dK;cases dK;split at h<;>first|(cases h;done)|skip
    rename_i jF;cases h;obtain⟨h0,aV⟩:=jF;obtain⟨l,ag,aL⟩:=ai.sI;have bq:=T.int;refine⟨.pointer (some ⟨l.b,off+vD.toNat*s+l.dB,none⟩),.ptr _ _ l ag,fun o w ah=>?_⟩;have F7:(⟨l.b,off+l.dB,none⟩:Addr).add (vD.toNat*s)=⟨l.b,off+vD.toNat*s+l.dB,none⟩:=by rw[Addr.wx];congr 1;omega
    simp[execOp,ah,aL,bq,Instr.indexAt,run_underlying hu,asIntOf,Instr.sureAddr,oX ak,h0,aV,F7]
  ·cases ab
 |index t x i =>
  simp only[kindOf]at ab;split at ab
  ·rename_i hu;cases ab;obtain⟨a,b,rfl,ai,T⟩:=be.mW ad;simp only[cr]at h;unfold zT at h;split at h<;>first|(cases h;done)|skip
   rename_i s LN vD dK;cases dK;split at h<;>first|(cases h;done)|skip
   rename_i h0;cases af:s[vD.toNat]? with
   |none=>rw[af]at h;cases h
   |some c =>
    rw[af]at h;cases h;have aL:=ai.str;have bq:=T.int;exact⟨_,.same _ rfl,fun o w ah=>by simp[execOp,ah,aL,bq,Instr.index,run_underlying hu,asIntOf,h0,af]⟩
  ·rename_i n e hu;split at ab<;>first|(cases ab;done)|skip
   rename_i g s aA ak;cases ab;obtain⟨a,b,rfl,ai,T⟩:=be.mW ad;simp only[cr]at h;unfold abO at h;split at h<;>first|(cases h;done)|skip
   rename_i cs LN vD dK;cases dK;split at h<;>first|(cases h;done)|skip
   rename_i jF;obtain⟨cs',aL,hA,A⟩:=ai.Ns;have bq:=T.int;obtain⟨v',fV,e4⟩:=ac6 aA ak hA A h;exact⟨v',fV,fun o w ah=>by simp[execOp,ah,aL,bq,Instr.index,run_underlying hu,asIntOf,jF,oX ak,e4]⟩
  ·cases ab
 |slice t x fs au mx =>
  cases mx with
  |some m =>
   cases fs with
   |some _=>simp[kindOf,vE]at ab
   |none=>cases au with
    |none=>simp[kindOf,vE]at ab
    |some _=>exact agH ab ad h
  |none=>exact aqf ab ad h
 |extract x i =>
  cases ab
  obtain⟨a,rfl,ai⟩:=be.jW ad;simp only[cr]at h;cases a<;>simp only[BW]at h<;>first|(cases h;done)|skip
  obtain⟨cs',e,hA⟩:=ai.aqU;obtain⟨v',A,S⟩:=hA.get i v (by simpa using h);exact⟨v',S,fun o w ah=>by simp[execOp,ah,e,Instr.extract,A]⟩
 |makeFunc fn first captured =>
  cases fn<;>simp only[kindOf]at ab<;>first|(cases ab;done)|skip
  rename_i f;cases ab;simp only[cr]at h;cases h;simp only[List.map_append]at ad;have ag:(first.toList.map ev).length=first.size:=by simp
  have A:=ad.take first.size
  have S:=ad.drop first.size
  rw[List.take_left' ag]at A;rw[List.drop_left' ag]at S;refine⟨_,.func f _ _ _ _ A S,fun o w ah=>?_⟩;simp[execOp,ah,Instr.makeFunc,← Array.toList_inj]
 |makeInterface t x =>
  simp only[kindOf]at ab;split at ab<;>first|(cases ab;done)|skip
  rename_i d ajw hu;cases ab;obtain⟨a,rfl,ai⟩:=be.jW ad;simp only[cr,abP]at h;cases h;refine⟨_,.iface t _ _ ai,fun o w ah=>?_⟩;cases d<;>first|(exact absurd rfl (ajw _))|simp[execOp,ah,Instr.makeInterface,run_underlying hu]
 |call c =>
  simp only[kindOf,zA]at ab;split at ab
  ·rename_i gu;unfold zD at ab;split at ab<;>first|(cases ab;done)|skip
   rename_i x t ct kb;have c8:c.args=#[x]:=by rw[← Array.toList_inj];exact ct
   have b6:c.argTypes=#[t]:=by rw[← Array.toList_inj];exact kb
   split at ab
   ·rename_i hu;cases ab;obtain⟨a,rfl,ai⟩:=be.jW ad;simp only[cr]at h;cases a<;>simp only[vQ]at h<;>cases h;have e:=ai.str;exact⟨_,.same _ rfl,fun o w ah=>by simp[execOp,ah,resolve,gu,c8,b6,invoke,builtin,Builtin.len_,run_underlying hu,e,goInt]⟩
   ·rename_i el hu;cases ab;obtain⟨a,rfl,ai⟩:=be.jW ad;simp only[cr]at h;cases a<;>simp only[pD]at h<;>cases h;rename_i n _;have e:∃ p c,ev x=.slice p n c:=by
     generalize ev x=z at *;cases ai with
     |same _ h=>exact⟨_,_,rfl⟩
     |slice=>exact⟨_,_,rfl⟩
     |clip=>exact⟨_,_,rfl⟩
    obtain⟨p,fl,e⟩:=e;exact⟨_,.same _ rfl,fun o w ah=>by simp[execOp,ah,resolve,gu,c8,b6,invoke,builtin,Builtin.len_,run_underlying hu,e,goInt]⟩
   ·rename_i n el hu;cases ab;cases ad;simp only[cr,abQ]at h;cases h;exact⟨_,.same _ rfl,fun o w ah=>by simp[execOp,ah,resolve,gu,c8,b6,invoke,builtin,Builtin.len_,run_underlying hu,goInt]⟩
   ·unfold zE at ab;split at ab<;>cases ab
  ·unfold zz at ab;split at ab<;>first|(cases ab;done)|skip
   split at ab<;>first|(cases ab;done)|skip
   split at ab<;>first|(cases ab;done)|skip
   split at ab<;>first|(cases ab;done)|(simp at ab;done)|(split at ab<;>cases ab)
  ·rename_i gu;exact abd (mx:=false) (by simpa using gu) ab ad h
  ·rename_i gu;exact abd (mx:=true) (by simpa using gu) ab ad h
  ·unfold zB at ab;(repeat' split at ab)<;>first|(cases ab;done)|(simp at ab;done)
  ·rename_i gu;unfold zF at ab;split at ab<;>first|(cases ab;done)|skip
   rename_i x ct;cases ab;exact aqd gu ct ad h
  ·unfold zG at ab;(repeat' split at ab)<;>first|(cases ab;done)|(simp at ab;done)
  ·cases ab
  ·rename_i f gu;split at ab
   ·rename_i qO;split at ab<;>first|(cases ab;done)|skip
    rename_i aR;cases ab;exact akh gu qO aR ad h (Ze f)
   ·split at ab
    ·rename_i qO;split at ab<;>first|(cases ab;done)|skip
     rename_i aR;cases ab;exact alt gu qO aR ad h (Ze f)
    ·cases ab
  ·cases ab
  ·cases ab
 |alloc e=>exfalso;simp only[kindOf,xo]at ab;cases bp:oz P e with
  |none=>rw[bp]at ab;cases ab
  |some z=>rw[bp]at ab;simp only[Option.map_some]at ab;split at ab<;>cases ab
 |_=>exfalso;first|(cases ab;done)|(simp only[kindOf]at ab;(repeat' split at ab)<;>cases ab;done)|(simp[kindOf]at ab;done)
end Go.Eng
namespace Go.Eng
open Go
variable {P:Program}{al:Ren}{ev:Operand→Value}
theorem vI{base:Nat}{w:World}{es:List (Value × Value)}{own:Bool}{l:Loc}(h:nA base al w l (.map es own)) :
  ∃ h3 sZ,w.heap[l.b]?=some (.map h3 sZ)∧es.length=h3.size∧(∀(i:Nat) e,es[i]?=some e→∃ cA,h3[i]?=some cA∧Nb al e cA) ∧
   (∀(i j:Nat) a b,h3[i]?=some a→h3[j]?=some b→a.key=b.key→i=j)∧(own=true→base≤l.b):=h
theorem bL.HE{id:Nat}{v':Value}(h:bL al (.map (some id)) v'):∃ l,al id=some l∧v'=.map (some l.b)∧l.dB=0:=by
 cases h with
 |same _ h=>simp[Value.plain]at h
 |map _ l h ak=>exact⟨l,h,rfl,ak⟩
theorem Yx{k:TypeId}(K:Maps.Keyed P k){es:List (Value × Value)}{h3:Array MapEntry}(hn:es.length=h3.size)(aK:∀(i:Nat) e,es[i]?=some e→∃ cA,h3[i]?=some cA∧Nb al e cA)
  (ajf:∀(i j:Nat) a b,h3[i]?=some a→h3[j]?=some b→a.key=b.key→i=j){x:Value}(af:mm P k x=true) (gs:es.all (fun e=>mm P k e.1)=true) (w:World) :
  ((Instr.findKey k x h3.toList).run P w=.ok none w∧(∀ e∈h3.toList,e.key≠x)∧es.findIdx? (fun e=>ry e.1 x)=none) ∨
  ∃ i e cA,(Instr.findKey k x h3.toList).run P w=.ok (some (i,cA.val)) w∧es.findIdx? (fun e=>ry e.1 x)=some i∧es[i]?=some e∧h3[i]?=some cA∧cA.key=x∧e.1=x∧bL al e.2 cA.val:=by
 simp only[mm,Bool.and_eq_true,Option.isSome_iff_exists]at af;obtain⟨asX,at9,Bb⟩:=af;have La:∀(i:Nat) e cA,es[i]?=some e→h3[i]?=some cA→cA.key=e.1∧sc e.1=true∧(∃ l,keyOf P k e.1=some l)∧bL al e.2 cA.val:=by
  intro i e cA A S;obtain⟨aL,ae,aB⟩:=aK i e A;rw[S]at ae;cases ae;have:=List.all_eq_true.1 gs e (List.mem_of_getElem? A);simp only[mm,Bool.and_eq_true,Option.isSome_iff_exists]at this;exact⟨Fq this.1 aB.1,this.1,this.2,aB.2⟩
 have dr:∀(i:Nat) cA,h3[i]?=some cA→∃ e,es[i]?=some e:=fun i cA h=>by
  have:i<es.length:=by rw[hn];exact(Array.getElem?_eq_some_iff.1 h).1
  exact⟨_,List.getElem?_eq_getElem this⟩
 rcases K.find w Bb h3.toList (fun e hm=>by
  obtain⟨i,au⟩:=List.mem_iff_getElem?.1 hm;have rB:h3[i]?=some e:=by simpa using au
  obtain⟨eI,h0⟩:=dr i e rB;have:=La i eI e h0 rB;rw[this.1];exact this.2.2.1) with⟨A,S⟩|⟨j,cA,A,S,ae⟩
 ·refine .inl ⟨A,S,?_⟩;rw[List.findIdx?_eq_none_iff];intro e hm;obtain⟨i,au⟩:=List.mem_iff_getElem?.1 hm;obtain⟨cA,aB,_⟩:=aK i e au;have:=La i e cA au aB;have aG:=S cA (by simpa using Array.mem_of_getElem? aB);rw[this.1]at aG;cases L:ry e.1 x with
  |false=>rfl
  |true=>exact absurd ((KA this.2.1).1 L) aG
 ·have pg:h3[j]?=some cA:=by simpa using S
  obtain⟨e,aB⟩:=dr j cA pg;have aG:=La j e cA aB pg;have a1:e.1=x:=by rw[← aG.1];exact ae
  refine .inr ⟨j,e,cA,A,?_,aB,pg,ae,a1,aG.2.2.2⟩;rw[List.findIdx?_eq_some_iff_getElem];have bn:=(List.getElem?_eq_some_iff.1 aB);have asy:=bn.1;refine⟨bn.1,?_,fun m hm=>?_⟩
  ·rw[bn.2];exact(KA aG.2.1).2 a1
  ·have rD:m<es.length:=by omega
   obtain⟨Yk,bN,_⟩:=aK m _ (List.getElem?_eq_getElem rD);have b7:=La m _ Yk (List.getElem?_eq_getElem rD) bN;intro L;have dE:=(KA b7.2.1).1 L;have:=ajf m j Yk cA bN pg (by rw[b7.1,dE,ae]);omega
theorem akX{t k e:TypeId}{rg xW:Operand}{z:Value}{ok:Bool}(aC:P.underlying t=some (.map k e))(ab:xq P k=true)(bp:M3 P e=some z){vs:List Value}(ad:be al vs ([rg,xW].map ev)){base:Nat}{G:Nat→Option bQ}{w:World}
  (aM:b1 base G al w){v:Value}(h:IN (mm P k) z ok vs G=some v):∃ v',bL al v v'∧∀ o:Oper,o.op=.lookup t rg xW ok→(execOp ev o).run P w=.ok (.value v') w:=by
 obtain⟨m,x,rfl,hm,af⟩:=be.mW ad;unfold IN at h;split at h<;>first|(cases h;done)|skip
 rename_i id key dK;cases dK;split at h<;>first|(cases h;done)|skip
 rename_i es own bv;split at h<;>first|(cases h;done)|skip
 rename_i aj;simp only[Bool.and_eq_true]at aj;cases h;obtain⟨l,ag,az,hJ⟩:=hm.HE;obtain⟨h3,sZ,A,S,ae,aB,aG⟩:=vI (aM.obj id _ l bv ag);have Se:sc x=true:=by have:=aj.1;simp only[mm,Bool.and_eq_true]at this;exact this.1
 have ex:ev xW=x:=Fq Se af;have K:=TP ab;have rC:∃ DK,keyOf P k x=some DK:=by have:=aj.1;simp only[mm,Bool.and_eq_true,Option.isSome_iff_exists]at this;exact this.2
 obtain⟨DK,rC⟩:=rC;have Gb:=K.check w h3.isEmpty rC;have xk:(zeroValue e).run P w=.ok z w:=by
  unfold M3 at bp;split at bp<;>first|(cases bp;done)|skip
  rename_i M4 tj;split at bp<;>first|(cases bp;done)|skip
  cases bp
  cases au:P.info? e with
  |none=>rw[au]at tj;cases tj
  |some i=>rw[au]at tj;simp[zeroValue,typeInfo,au,show i.zero=some z from tj]
 have aa1:Value.plain z=true:=by
  unfold M3 at bp;split at bp<;>first|(cases bp;done)|skip
  split at bp<;>first|(cases bp;done)|skip
  rename_i hp;cases bp;exact hp
 rcases Yx K S ae aB aj.1 aj.2 w with⟨f1,_,f2⟩|⟨i,j4,Ff,f1,f2,f3,f4,f5,f6,f7⟩
 ·refine⟨if ok then .tuple #[z,.bool false] else z,?_,fun o ah=>?_⟩
  ·simp only[f2,Option.bind_none,Option.map_none,Option.getD_none,Option.isSome_none];cases ok
   ·exact .same _ aa1
   ·exact .tuple [z,.bool false] [z,.bool false] (.cons _ _ _ _ (.same _ aa1) (.cons _ _ _ _ (.same _ rfl) .nil))
  ·simp only[execOp,ah,Sem.run_bind,Instr.lookup,run_underlying aC,Result.andThen_ok,az,ex,getObj,Sem.run,A,Sem.run_pure,Gb,f1,xk]
 ·refine⟨if ok then .tuple #[Ff.val,.bool true] else Ff.val,?_,fun o ah=>?_⟩
  ·simp only[f2,f3,Option.bind_some,Option.map_some,Option.getD_some,Option.isSome_some];cases ok
   ·exact f7
   ·exact .tuple [j4.2,.bool true] [Ff.val,.bool true] (.cons _ _ _ _ f7 (.cons _ _ _ _ (.same _ rfl) .nil))
  ·simp only[execOp,ah,Sem.run_bind,Instr.lookup,run_underlying aC,Result.andThen_ok,az,ex,getObj,Sem.run,A,Sem.run_pure,Gb,f1]
theorem akO{c:Call}{x:Operand}{t DL e:TypeId}(gu:c.callee=.builtin .len)(c8:c.args=#[x])(b6:c.argTypes=#[t])(aC:P.underlying t=some (.map DL e)){vs:List Value}(ad:be al vs ([x].map ev)){base:Nat}{G:Nat→Option bQ}{w:World}
  (aM:b1 base G al w){v:Value}(h:aw .TW vs G=some v):∃ v',bL al v v'∧∀ o:Oper,o.op=.call c→(execOp ev o).run P w=.ok (.value v') w:=by
 obtain⟨m,rfl,hm⟩:=be.jW ad;simp only[aw]at h;split at h<;>first|(cases h;done)|contradiction|skip
 rename_i A4 A5;cases A5;split at h<;>first|(cases h;done)|skip
 rename_i es own bv;cases h;obtain⟨l,ag,az,hJ⟩:=hm.HE;obtain⟨h3,sZ,A,S,ae,aB,aG⟩:=vI (aM.obj _ _ l bv ag);refine⟨_,.same _ rfl,fun o ah=>?_⟩;simp[execOp,ah,resolve,gu,c8,b6,invoke,builtin,Builtin.len_,run_underlying aC,az,getObj,Sem.run,A,S,goInt]
end Go.Eng
namespace Go.Eng
open Go
variable {P:Program}{al:Ren}{ev:Operand→Value}
theorem wA{base:Nat}{w:World}{l:Loc}{cells:List Value}{own:Bool}(h:nA base al w l (.aq cells own)) :
  ∃ cs el fz,w.heap[l.b]?=some (.cells cs el fz)∧cs.size=l.iu∧l.dB+cells.length≤cs.size∧be al cells ((cs.toList.drop l.dB).take cells.length)∧(∀ c∈cells,c.oneCell'=true)∧(own=true→l.dB=0∧fz=(0,0)∧base≤l.b):=by
 obtain⟨cs,el,fz,A,S,ae,aB,aG⟩:=h;refine⟨cs,el,fz,A,S,ae,?_,?_,aG⟩
 ·refine be.abH (by simp;omega) fun i x hZ af gG=>?_;obtain⟨v',a,b,c⟩:=aB i x af;have au:i<cells.length:=(List.getElem?_eq_some_iff.1 af).1;rw[List.getElem?_take_of_lt au,List.getElem?_drop]at gG;have:cs[l.dB+i]?=some hZ:=by simpa using gG
  rw[a]at this;cases this;exact b
 ·intro c aj;obtain⟨i,au⟩:=List.mem_iff_getElem?.1 aj;obtain⟨_,_,_,h⟩:=aB i c au;exact h
theorem DU{w:World}{b o n:Nat}{cs:Array Value}{el:TypeId}{fz:Nat × Nat}(h:w.heap[b]?=some (.cells cs el fz))(hn:o+n≤cs.size) :
  (loadCells ⟨b,o,none⟩ n).run P w=.ok ((cs.toList.drop o).take n).toArray w:=by
 have ag:((cs.toList.drop o).take n).length=n:=by simp;omega
 have:=run_loadCells_list (P:=P) w ⟨b,o,none⟩ ((cs.toList.drop o).take n) (fun j v ad=>by
  rw[Addr.wx,cell_of_row w b _ cs el fz h];have bn:j<n:=by
   have:=(List.getElem?_eq_some_iff.1 ad).1;omega
  rw[List.getElem?_take_of_lt bn,List.getElem?_drop]at ad;simpa using ad)
 rw[ag]at this;exact this
theorem W4:∀ {cs:List Value}{l:List UInt8},Ao cs=some l→∃ kt:List Int,cs=kt.map (Value.int .u8)∧l=kt.map fun n=>UInt8.ofNat n.toNat
 |[],l,h=>by cases h;exact⟨[],rfl,rfl⟩
 |c::r,l,h=>by
  unfold Ao at h;split at h<;>first|(rename_i dK;cases dK;done)|(cases h;done)|skip
  rename_i n dL dK;cases dK;cases hr:Ao r with
  |none=>rw[hr]at h;cases h
  |some m =>
   rw[hr]at h;cases h;obtain⟨kt,A,S⟩:=W4 hr;exact⟨n::kt,by rw[A];rfl,by rw[S];rfl⟩
theorem be.ints{al:Ren}{k:IntKind}:∀ {kt:List Int}{l:List Value},be al (kt.map (Value.int k)) l→l=kt.map (Value.int k)
 |[],l,h=>by cases h;rfl
 |n::kt,l,h=>by
  cases h with
  |cons _ _ _ _ h hr=>rw[h.int,be.ints hr];rfl
theorem agk{s d e:TypeId}{x:Operand}(A:P.underlying s=some (.slice e))(S:P.underlying d=some .string)(ae:P.underlying e=some (.int .u8)){vs:List Value}(ad:be al vs ([x].map ev)){base:Nat}{G:Nat→Option bQ}{w:World}
  (aM:b1 base G al w){v:Value}(h:aw .Aq vs G=some v):∃ v',bL al v v'∧∀ o:Oper,o.op=.convert s d x→(execOp ev o).run P w=.ok (.value v') w:=by
 obtain⟨p,rfl,hp⟩:=be.jW ad;unfold aw at h;split at h<;>first|(cases h;done)|contradiction|skip
 ·rename_i dK;cases dK;cases h;have az:=hp.BO;exact⟨_,.same _ rfl,fun o ah=>by simp[execOp,ah,az,run_convert_bytes_nil w s e A ae 0 0 d S]⟩
 ·rename_i id off n iu R4 dK;cases dK;split at h<;>first|(cases h;done)|skip
  rename_i iD;subst iD;obtain⟨l,eW,cap,ag,az,vt,nl⟩:=hp.vX;split at h
  ·rename_i hn;subst hn;cases h;refine⟨_,.same _ rfl,fun o ah=>?_⟩;have:=run_convert_bytes_arg w s e A ae l.b eW 0 cap [] rfl (fun i au=>by omega) d S;simp[execOp,ah,az,this,strOfNums];rfl
  ·rename_i hn;split at h<;>first|(cases h;done)|skip
   rename_i cells own bv;split at h<;>first|(cases h;done)|skip
   rename_i bX;rcases nl with⟨rfl,pp⟩|⟨h0,_⟩
   case inr=>exact absurd h0 hn
   cases T:Ao ((cells.drop off).take n) with
   |none=>rw[T]at h;cases h
   |some wn =>
    rw[T]at h;cases h;obtain⟨kt,Lh,rfl⟩:=W4 T;obtain⟨cs,el,fz,g1,g2,g3,g4,_,_⟩:=wA (aM.obj id _ l bv ag);have a1:=(g4.drop off).take n;have bN:((((cs.toList.drop l.dB).take cells.length).drop off).take n)=(cs.toList.drop (off+l.dB)).take n:=by
     rw[List.drop_take,List.drop_drop,List.take_take];rw[Nat.min_eq_left (by omega),Nat.add_comm l.dB off]
    rw[bN,Lh]at a1;have b7:=a1.ints;have w3:=DU (P:=P) (w:=w) (b:=l.b) (o:=off+l.dB) (n:=n) g1 (by omega);rw[b7]at w3;refine⟨_,.same _ rfl,fun o ah=>?_⟩;have e4:=run_bytesToString w ⟨l.b,off+l.dB,none⟩ n cap kt w3;rw[foldl_push_bytes]at e4;simp only[execOp,ah,az,run_convert_bytes_string w s d e _ n cap A ae S,Sem.run_bind,e4,Result.andThen_ok,Sem.run_pure];simp[ByteArray.empty,ByteArray.emptyWithCapacity];rfl
theorem MT{base:Nat}{w:World}{l:Loc}{cells:List Value}{e:TypeId}{li:Bool}(h:nA base al w l (.gg cells e li)):nA base al w l (.aq cells true):=by
 obtain⟨cs,A,S,ae,aB,_,a1,bN⟩:=h;exact⟨cs,e,(0,0),A,S,by rw[a1];omega,fun i v ad=>by rw[a1,Nat.zero_add];exact aB i v ad,fun _=>⟨a1,rfl,bN⟩⟩
theorem aaY{t:TypeId}{a:Operand}{g:Bool}{s:Nat}(aA:xm P t=some g)(ak:gJ P t=some s){base:Nat}{w:World}{l:Loc}{cells:List Value}{own:Bool}{off:Nat}
  (qS:nA base al w l (.aq cells own)) (e:ev a=.pointer (some ⟨l.b,off+l.dB,none⟩)){v:Value}(h:gI g off s cells=some v) :
  ∃ v',bL al v v'∧∀ o:Oper,o.op=.load t a→(execOp ev o).run P w=.ok (.value v') w:=by
 obtain⟨cs,el,fz,A,S,ae,aB,aG,_⟩:=wA qS;unfold gI at h;cases g with
 |true =>
  simp only[if_true]at h;split at h<;>first|(cases h;done)|skip
  rename_i bX;cases h;refine⟨.agg ((cs.toList.drop (off+l.dB)).take s).toArray,.agg _ _ ?_ fun c aj=>aG c (List.mem_of_mem_drop (List.mem_of_mem_take aj)),fun o ah=>?_⟩
  ·have a1:=(aB.drop off).take s;have:((((cs.toList.drop l.dB).take cells.length).drop off).take s)=(cs.toList.drop (off+l.dB)).take s:=by
    rw[List.drop_take,List.drop_drop,List.take_take];rw[Nat.min_eq_left (by omega),Nat.add_comm l.dB off]
   rw[this]at a1;exact a1
  ·have w3:=DU (P:=P) (w:=w) (b:=l.b) (o:=off+l.dB) (n:=s) A (by omega);simp[execOp,ah,e,Instr.loadAt,Instr.sureAddr,loadVar,IW aA,oX ak,w3]
 |false =>
  simp only[Bool.false_eq_true,if_false]at h;obtain⟨v',fV,hr⟩:=aB.get off v h;have au:off<cells.length:=(List.getElem?_eq_some_iff.1 h).1;rw[List.getElem?_take_of_lt au,List.getElem?_drop]at fV;refine⟨v',hr,fun o ah=>?_⟩;have aj:w.cell? ⟨l.b,off+l.dB,none⟩=some v':=by
   rw[cell_of_row w l.b _ cs el fz A,Nat.add_comm off l.dB];simpa using fV
  simp[execOp,ah,e,Instr.loadAt,Instr.sureAddr,loadVar,IW aA,aj]
theorem aqN{s d:TypeId}{t:TypeId}{x:Operand}{n:Nat}(A:P.underlying s=some (.pointer t))(S:P.underlying d=some .unsafePointer)(ae:gJ P t=some (n+1)){vs:List Value}(ad:be al vs ([x].map ev)){base:Nat}{G:Nat→Option bQ}{w:World}
  (aM:b1 base G al w){v:Value}(h:aw .Ie vs G=some v):∃ v',bL al v v'∧∀ o:Oper,o.op=.convert s d x→(execOp ev o).run P w=.ok (.value v') w:=by
 obtain⟨p,rfl,hp⟩:=be.jW ad;unfold aw at h;split at h<;>first|(cases h;done)|contradiction|skip
 rename_i id off R4 dK;cases dK;obtain⟨l,ag,e⟩:=hp.sI;split at h<;>first|(cases h;done)|skip
 rename_i cells el li bv;split at h<;>first|(cases h;done)|skip
 rename_i aV;cases h;obtain⟨cs,g1,g2,g3,_,_,g6,_⟩:=aM.obj id _ l bv ag;unfold gJ at ae;cases au:P.info? t with
 |none=>rw[au]at ae;cases ae
 |some Tf =>
  rw[au]at ae;have iD:Tf.size=n+1:=by simpa using ae
  refine⟨_,.ptr id off l ag,fun o ah=>?_⟩;have:=Lib.run_to_unsafe (P:=P) w (⟨l.b,off+l.dB,none⟩:Addr) A S au (by omega) (e:=el) (cells:=cs.size) (by simp[World.shape?,g1]) (by show off+l.dB<cs.size;omega);simp[execOp,ah,e,this]
theorem aly{s d:TypeId}{u:TypeId}{x:Operand}{n:Nat}(A:P.underlying s=some .unsafePointer)(S:P.underlying d=some (.pointer u))(ae:gJ P u=some n){vs:List Value}(ad:be al vs ([x].map ev)){base:Nat}{G:Nat→Option bQ}{w:World}
  (aM:b1 base G al w){v:Value}(h:aw (.HV (DR P u)) vs G=some v):∃ v',bL al v v'∧∀ o:Oper,o.op=.convert s d x→(execOp ev o).run P w=.ok (.value v') w:=by
 obtain⟨p,rfl,hp⟩:=be.jW ad;unfold aw at h;split at h<;>first|(cases h;done)|contradiction|skip
 rename_i KJ id off R4 dK;cases R4;cases dK;obtain⟨l,ag,e⟩:=hp.sI;split at h<;>first|(cases h;done)|skip
 rename_i cells el bv;split at h<;>first|(cases h;done)|skip
 rename_i Zr;cases h;obtain⟨cs,g1,g2,g3,_,g5,g6,_⟩:=aM.obj id _ l bv ag;have aj9:=g5 rfl;unfold gJ at ae;cases au:P.info? u with
 |none=>rw[au]at ae;cases ae
 |some Tf =>
  refine⟨_,.ptr id off l ag,fun o ah=>?_⟩;have:=Lib.run_from_unsafe (P:=P) w (⟨l.b,off+l.dB,none⟩:Addr) A S au (e:=el) (cells:=cs.size) (by simp[World.shape?,g1]) (by
   unfold DR at Zr;rw[← aj9,g6];exact Zr)
  simp[execOp,ah,e,this]
theorem acr{op:Op}{k:IE}{xs:List Operand}(ab:kindOf P op=some (.r k,xs)){vs:List Value}(ad:be al vs (xs.map ev)){base:Nat}{G:Nat→Option bQ}{w:World}(aM:b1 base G al w){v:Value}(h:aw k vs G=some v) :
  ∃ v',bL al v v'∧∀ o:Oper,o.op=op→(execOp ev o).run P w=.ok (.value v') w:=by
 cases op with
 |load t a =>
  simp only[kindOf]at ab;split at ab<;>first|(cases ab;done)|skip
  rename_i g s aA ak;cases ab;obtain⟨p,rfl,hp⟩:=be.jW ad;unfold aw at h;split at h<;>first|(cases h;done)|contradiction|skip
  rename_i agg size id off A4 A5;cases A4;cases A5;obtain⟨l,ag,e⟩:=hp.sI;split at h<;>first|(cases h;done)|skip
  ·rename_i cells own bv;exact aaY aA ak (aM.obj id _ l bv ag) e h
  ·rename_i cells ty li bv;exact aaY aA ak (MT (aM.obj id _ l bv ag)) e h
 |call c =>
  simp only[kindOf,zA]at ab;split at ab
  ·rename_i gu;unfold zD at ab;split at ab<;>first|(cases ab;done)|skip
   rename_i x t ct kb;have c8:c.args=#[x]:=by rw[← Array.toList_inj];exact ct
   have b6:c.argTypes=#[t]:=by rw[← Array.toList_inj];exact kb
   split at ab<;>first|(cases ab;done)|skip
   unfold zE at ab;split at ab<;>first|(cases ab;done)|skip
   rename_i DL e aC;cases ab;exact akO gu c8 b6 aC ad aM h
  all_goals first|(cases ab;done)|(exfalso;unfold zz at ab;(repeat' split at ab)<;>first|(cases ab;done)|(simp at ab;done))|(exfalso;unfold sB at ab;(repeat' split at ab)<;>cases ab;done)|(exfalso;unfold zF at ab;(repeat' split at ab)<;>cases ab;done)|(exfalso;unfold zB at ab;(repeat' split at ab)<;>cases ab;done)|(exfalso;unfold zG at ab;(repeat' split at ab)<;>cases ab;done)|(exfalso;(repeat' split at ab)<;>cases ab;done)
 |lookup t x i ok =>
  simp only[kindOf]at ab;split at ab<;>first|(cases ab;done)|skip
  rename_i k e aC;split at ab<;>first|(cases ab;done)|skip
  rename_i z jj bp;cases ab;exact akX aC jj bp ad aM h
 |convert s d x =>
  simp only[kindOf]at ab;split at ab
  ·cases ab
  ·cases ab
  ·split at ab<;>cases ab
  ·rename_i e A S;split at ab<;>first|(cases ab;done)|skip
   rename_i ae;split at ab<;>first|(cases ab;done)|skip
   cases ab
   exact agk A S ae ad aM h
  ·rename_i u A S;unfold BG at ab;split at ab<;>first|(cases ab;done)|skip
   rename_i n hn;cases ab;exact aqN A S hn ad aM h
  ·rename_i u A S;unfold BE at ab;split at ab<;>first|(cases ab;done)|skip
   rename_i n hn;cases ab;exact aly A S hn ad aM h
  ·cases ab
 |alloc e=>exfalso;simp only[kindOf,xo]at ab;cases bp:oz P e with
  |none=>rw[bp]at ab;cases ab
  |some z=>rw[bp]at ab;simp only[Option.map_some]at ab;split at ab<;>cases ab
 |makeFunc fn first captured=>exfalso;cases fn<;>simp[kindOf]at ab
 |slice t x fs au mx=>exfalso;cases mx<;>simp only[kindOf,vE]at ab<;>first|(cases ab;done)|((repeat' split at ab)<;>first|(cases ab;done)|(simp at ab;done))
 |_=>exfalso;first|(cases ab;done)|(simp only[kindOf]at ab;(repeat' split at ab)<;>cases ab;done)|(simp[kindOf]at ab;done)|(simp only[kindOf,BC,uv,BF,xp]at ab;(repeat' split at ab)<;>first|(cases ab;done)|(simp at ab;done))|(simp only[kindOf,BD]at ab;(repeat' split at ab)<;>first|(cases ab;done)|(simp at ab;done))|(simp only[kindOf,zA,zD,zE,zz,sB,zF,zG,zB]at ab;(repeat' split at ab)<;>first|(cases ab;done)|(simp at ab;done))
def aeX(P:Program)(al:Ren)(base:Nat)(G:Nat→Option bQ)(w:World)(ev:Operand→Value)(op:Op)(id:Nat)(cells:List Value)(v:Value):Prop :=
 ∃ l v' w',bL (al.put id l) v v'∧b1 base (fS G id (.aq cells true)) (al.put id l) w'∧gi base w w'∧∀ o:Oper,o.op=op→(execOp ev o).run P w=.ok (.value v') w'
theorem HK{base:Nat}{G:Nat→Option bQ}{w:World}(aM:b1 base G al w){id:Nat}(cQ:al id=none){cells:List Value}{cs:Array Value}(el:TypeId)(hn:cells.length≤cs.size)
  (aj:∀(i:Nat) v,cells[i]?=some v→∃ v',cs[i]?=some v'∧bL al v v'∧v.oneCell'=true) :
  b1 base (fS G id (.aq cells true)) (al.put id ⟨w.heap.size,0,cs.size⟩) (w.alloc (.cells cs el))∧gi base w (w.alloc (.cells cs el)):=by
 have bX:=Ren.vG cQ ⟨w.heap.size,0,cs.size⟩;refine⟨aM.alloc id _ ⟨w.heap.size,0,cs.size⟩ cQ (Nat.le_refl _) (by simp) (fun b T=>heap_alloc_old w _ b T) (by simp) ?_,⟨by simp,fun b T=>heap_alloc_old w _ b (Nat.lt_of_lt_of_le T aM.size),rfl,rfl,rfl,fun a _=>Fv w _ (.inl ⟨_,_,rfl⟩) a⟩⟩;refine⟨cs,el,(0,0),heap_alloc_new w _,rfl,by simpa using hn,fun i v ad=>?_,fun _=>⟨rfl,rfl,aM.size⟩⟩;obtain⟨v',a,b,c⟩:=aj i v ad;exact⟨v',by simpa using a,bL.mono bX b,c⟩
theorem HJ{cells cs':List Value}(h:be al cells cs')(A:∀ c∈cells,c.oneCell'=true):∀(i:Nat) v,cells[i]?=some v→∃ v',cs'.toArray[i]?=some v'∧bL al v v'∧v.oneCell'=true:=fun i v ad=>by
 obtain⟨v',a,b⟩:=h.get i v ad;exact⟨v',by simpa using a,b,A v (List.mem_of_getElem? ad)⟩
theorem KB(z:List Value)(s:Nat)(bp:z.length=s)(ak:0<s):∀(n i:Nat),i<n*s→(List.replicate n z).flatten[i]?=z[i % s]?
 |0,i,h=>by simp at h
 |n+1,i,h=>by
  simp only[List.replicate_succ,List.flatten_cons];by_cases au:i<s
  ·rw[List.getElem?_append_left (by omega),Nat.mod_eq_of_lt au]
  ·have D:i-s<n*s:=by rw[Nat.succ_mul]at h;omega
   rw[List.getElem?_append_right (by omega),bp,KB z s bp ak n (i-s) D,← Nat.mod_eq_sub_mod (by omega)]
theorem tP(z:List Value)(s:Nat)(bp:z.length=s)(n:Nat):(List.replicate n z).flatten.length=n*s:=by
 simp[bp]
theorem Nt{op:Op}{k:Iv}{xs:List Operand}(ab:kindOf P op=some (.a k,xs)){vs:List Value}(ad:be al vs (xs.map ev)){base:Nat}{G:Nat→Option bQ}{w:World}(aM:b1 base G al w)
  {cells:List Value}{mk:Nat→Value}(h:o7 k vs=some (cells,mk)){id:Nat}(cQ:al id=none):aeX P al base G w ev op id cells (mk id):=by
 have Li:∀ l,(al.put id l) id=some l:=fun l=>by simp[Ren.put]
 cases op with
 |alloc e =>
  simp only[kindOf,xo]at ab;cases bp:oz P e with
  |none=>rw[bp]at ab;cases ab
  |some z =>
   rw[bp,Option.map_some]at ab;split at ab<;>first|(cases ab;done)|skip
   cases ab
   cases ad
   simp only[o7,IP]at h;cases h;obtain⟨eL,A,S,ae,aB⟩:=wj bp;have iC:=HK aM cQ e (cells:=cells) (cs:=eL.cells) (by rw[← S];simp) (by
    have:=HJ (al:=al) (be.plain ae) aB;rw[← S]at this ⊢;simpa using this)
   exact⟨_,.pointer (some ⟨w.heap.size,0,none⟩),_,.ptr id 0 _ (Li _),iC.1,iC.2,fun o ah=>by simp[execOp,ah,Instr.alloc,A,newVar,newRow]⟩
 |box e x =>
  simp only[kindOf]at ab;split at ab<;>first|(cases ab;done)|skip
  cases ab
  obtain⟨a,rfl,ai⟩:=be.jW ad;simp only[o7,nB]at h;split at h<;>first|(cases h;done)|skip
  rename_i gs;cases h;have eY:=ai.cells;have iC:=HK aM cQ e (cells:=a.cells.toList) (cs:=(ev x).cells) (by rw[eY.length];simp) (by
   have:=HJ eY (fun c aj=>List.all_eq_true.1 gs c aj);simpa using this)
  exact⟨_,.pointer (some ⟨w.heap.size,0,none⟩),_,.ptr id 0 _ (Li _),iC.1,iC.2,fun o ah=>by simp[execOp,ah,Instr.box,newVar,newRow]⟩
 |buildSlice t len parts =>
  simp only[kindOf]at ab;split at ab<;>first|(cases ab;done)|skip
  rename_i e hu;split at ab<;>first|(cases ab;done)|skip
  rename_i s z ak bp;split at ab<;>first|(cases ab;done)|skip
  rename_i jF;obtain⟨pl,asQ⟩:=jF;cases ab;simp only[o7,ie]at h;split at h<;>first|(cases h;done)|skip
  rename_i hpl;cases aZ:pe (List.replicate len z).flatten ((parts.toList.map fun x=>(x.1*s,s)).zip vs) with
  |none=>rw[aZ]at h;cases h
  |some cs =>
   rw[aZ]at h;cases h;obtain⟨eL,A,S,ae,aB⟩:=wj bp;have GB:(parts.toList.map (·.1)).map (fun i=>some (i*s,s))=(parts.toList.map fun x=>(x.1*s,s)).map some:=by simp
   have aa0:∀ c∈(List.replicate len z).flatten,c∈z:=by
    intro c aj;obtain⟨l,ag,aj⟩:=List.mem_flatten.1 aj;rw[(List.mem_replicate.1 ag).2]at aj;exact aj
   obtain⟨cs',od,hA⟩:=Kz (al:=al) (fun i=>some (i*s,s)) _ (parts.toList.map (·.1)) vs _ _ _ cells GB ad (be.plain (l:=(List.replicate len z).flatten) fun c aj=>ae c (aa0 c aj)) hpl aZ;have oI:=Ky _ _ _ (fun c aj=>aB c (aa0 c aj)) aZ;have Hi:(parts.toList.map (·.1)).zip ((parts.toList.map (·.2)).map ev)=(parts.map fun(i,x)=>(i,ev x)).toList:=by
    simp only[Array.toList_map];induction parts.toList with
    |nil=>rfl
    |cons a r ih=>simp only[List.map_cons,List.zip_cons_cons,ih]
   rw[Hi]at od;have iC:=HK aM cQ e (cells:=cells) (cs:=cs') (by rw[hA.length];simp) (by
    have:=HJ hA oI;simpa using this)
   have aR:cs'.size=len*s:=by
    have kK:∀(fH:List (Nat × Value)) (l9 bk:Array Value),Instr.fill (fun i=>some (i*s,s)) l9 fH=some bk→bk.size=l9.size:=by
     intro fH;induction fH with
     |nil=>intro l9 bk h;simp[Instr.fill]at h;rw[h]
     |cons p r ih =>
      obtain⟨i,v⟩:=p;intro l9 bk h;simp only[Instr.fill]at h;split at h<;>first|(cases h;done)|skip
      have:=ih _ _ h;rw[this];have e:v.cells.zipIdx=(v.cells.toList.zipIdx 0).toArray:=by rw[← Array.toList_inj];simp
      rw[e,List.foldl_toArray,ado]
    rw[kK _ _ _ od];simp[pl]
   refine⟨⟨w.heap.size,0,cs'.size⟩,.slice (some ⟨w.heap.size,0,none⟩) len len,_,?_,iC.1,iC.2,fun o ah=>?_⟩
   ·exact .slice id 0 0 len s len _ (Li _) (Nat.le_refl _) (.inl ⟨rfl,by simp[aR]⟩)
   ·have y2:¬(len*s > 2 ^ 24):=by omega
    have e4:∀ Iu:Array Value,(Array.range (len*s)).map (Iu[· % Iu.size]!)=(List.replicate len z).flatten.toArray →
      Instr.fill (fun i=>some (i*s,s)) ((Array.range (len*s)).map (Iu[· % Iu.size]!)) (parts.map fun(i,x)=>(i,ev x)).toList=some cs':=fun Iu ake=>by rw[ake];exact od
    by_cases h0:len*s=0
    ·have hr:=e4 #[] (by
      have ag:=tP z s pl len;rw[h0]at ag;rw[List.eq_nil_of_length_eq_zero ag,h0];simp)
     rw[h0]at hr;simp only[Array.toList_map]at hr;simp[execOp,ah,Instr.buildSlice,run_underlying hu,oX ak,h0];simp at hr;rw[hr];simp[newRow]
    ·have lu:0<s:=Nat.pos_of_ne_zero fun e=>h0 (by simp[e]);have hr:=e4 eL.cells (by
      apply Array.ext_getElem?;intro i;have us:eL.cells.size=s:=by rw[← pl,← S];simp
      by_cases au:i<len*s
      ·have hm:i % s<s:=Nat.mod_lt _ lu;have:=KB z s pl lu len i au;simp only[List.getElem?_toArray,this,us];simp[au];rw[← S];rw[getElem!_pos eL.cells (i % s) (by omega)];simp[us,hm]
      ·have ag:=tP z s pl len;simp[au];rw[pl];omega)
     have RR:¬(16777216<len*s):=by omega
     simp[execOp,ah,Instr.buildSlice,run_underlying hu,oX ak,h0,A,newRow,RR];simp at hr;rw[hr];simp
 |makeSlice t fs co =>
  simp only[kindOf]at ab;split at ab<;>first|(cases ab;done)|skip
  rename_i e hu;split at ab<;>first|(cases ab;done)|skip
  rename_i s z b ak bp T;split at ab<;>first|(cases ab;done)|skip
  rename_i pl;cases ab;obtain⟨x,y,rfl,af,bw⟩:=be.mW ad;simp only[o7]at h;cases x<;>cases y<;>simp only[Wd]at h<;>first|(cases h;done)|skip
  rename_i DK l at3 c;split at h<;>first|(cases h;done)|skip
  rename_i jF;obtain⟨vl,Si,y3,asp⟩:=jF;cases h;have ex:=af.int;have Rd:=bw.int;obtain⟨eL,A,S,ae,aB⟩:=wj bp;have us:eL.cells.size=s:=by rw[← pl,← S];simp
  have Bs:IntKind.i64.wrap l=l:=by
   unfold IntKind.wrap;simp[IntKind.signed,IntKind.bits];omega
  have aka:IntKind.i64.wrap c=c:=by
   unfold IntKind.wrap;simp[IntKind.signed,IntKind.bits];omega
  have ij:∀ w,(typeInfo e).run P w=.ok ((P.info? e).getD default) w∧((P.info? e).getD default).bytes=b∧((P.info? e).getD default).size=s:=by
   unfold Ap at T;unfold gJ at ak;cases au:P.info? e with
   |none=>rw[au]at T;cases T
   |some i=>rw[au]at T ak;cases T;cases ak;exact fun w=>⟨by simp[typeInfo,au],rfl,rfl⟩
  let cs:Array Value:=(Array.range (c.toNat*s)).map (eL.cells[· % eL.cells.size]!);have hA:cs.size=c.toNat*s:=by simp[cs]
  have ajn:l.toNat*s≤c.toNat*s:=Nat.mul_le_mul_right _ (by omega);have iC:=HK aM cQ e (cells:=(List.replicate l.toNat z).flatten) (cs:=cs) (by rw[tP z s pl,hA];exact ajn) (fun i v ad=>by
   have au:i<l.toNat*s:=by rw[← tP z s pl];exact(List.getElem?_eq_some_iff.1 ad).1
   have lu:0<s:=Nat.pos_of_ne_zero fun e=>by subst e;simp at au
   rw[KB z s pl lu _ i au]at ad;have hm:v∈z:=List.mem_of_getElem? ad;refine⟨v,?_,.same v (ae v hm),aB v hm⟩;have oh:i % s<s:=Nat.mod_lt _ lu;have aje:i<c.toNat*s:=by omega
   simp[cs,aje,us];rw[← S]at ad;rw[getElem!_pos eL.cells (i % s) (by omega)];have:=(List.getElem?_eq_some_iff.1 ad).2;simpa using this)
  refine⟨⟨w.heap.size,0,cs.size⟩,.slice (some ⟨w.heap.size,0,none⟩) l.toNat c.toNat,_,?_,iC.1,iC.2,fun o ah=>?_⟩
  ·exact .slice id 0 0 l.toNat s c.toNat _ (Li _) (by omega) (.inl ⟨rfl,by simp[hA]⟩)
  ·have zn:c.toNat*s=0→(Array.range 0).map ((#[]:Array Value)[· % (#[]:Array Value).size]!)=cs:=fun h0=>by simp[cs,h0]
   have ajm:∀ x:Int,0≤x→x≤c→(decide (x<0) || decide ((b:Int)*x > 2 ^ 48))=false:=fun x h0 af=>by
    have:(b:Int)*x≤c*b:=by rw[Int.mul_comm];exact Int.mul_le_mul_of_nonneg_right af (by omega)
    simp;omega
   have dW:¬((b:Int)*c > 2 ^ 48):=by have:=ajm c (by omega) (Int.le_refl _);simp at this;omega
   simp only[execOp,ah,Sem.run_bind,Instr.makeSlice,run_underlying hu,Result.andThen_ok,ex,Rd,asInt,asIntOf,(ij _).1,Bs,aka,Sem.run_pure];have aiS:(decide (c<0) || decide ((b:Int)*c > 2 ^ 48) || decide (l<0) || decide (l > c))=false:=by
    simp;omega
   rw[(ij w).2.1];simp only[aiS,Bool.false_eq_true,if_false];simp only[Sem.run_bind,Result.andThen_ok,run_askRoom,oX ak];by_cases h0:c.toNat*s=0
   ·simp[h0,newRow];have:=zn h0;simp at this;rw[← this]
   ·simp[h0,newRow,A];rfl
 |makeFunc fn first captured=>exfalso;cases fn<;>simp[kindOf]at ab
 |slice t x fs au mx=>exfalso;cases mx<;>simp only[kindOf,vE]at ab<;>first|(cases ab;done)|((repeat' split at ab)<;>first|(cases ab;done)|(simp at ab;done))
 |_=>exfalso;first|(cases ab;done)|(simp only[kindOf,BG,BE]at ab;(repeat' split at ab)<;>cases ab;done)|(simp only[kindOf]at ab;(repeat' split at ab)<;>cases ab;done)|(simp[kindOf]at ab;done)|(simp only[kindOf,BC,uv,BF,xp]at ab;(repeat' split at ab)<;>first|(cases ab;done)|(simp at ab;done))|(simp only[kindOf,BD]at ab;(repeat' split at ab)<;>first|(cases ab;done)|(simp at ab;done))|(simp only[kindOf,zA,zD,zE,zz,sB,zF,zG,zB]at ab;(repeat' split at ab)<;>first|(cases ab;done)|(simp at ab;done))
end Go.Eng
namespace Go.Eng
open Go
variable {P:Program}{al:Ren}{ev:Operand→Value}
def J.hX(h:J)(G:Nat→Option bQ):Prop:=∀ id o,h.get id=some o→G id=some o
theorem over_self{h:J}{G:Nat→Option bQ}(bv:h.hX G):∀ id,over h G id=G id:=fun id=>by
 unfold over;cases aA:h.get id with
 |none=>simp
 |some o=>simp[bv id o aA]
theorem D5{h:J}{G:Nat→Option bQ}(bv:h.hX G){i:Nat}{hE:bQ}(au:h.get i=some hE)(o:bQ):∀ id,over (h.set i o) G id=fS G i o id:=fun id=>by
 have aV:=J.bY au;have:=over_self bv id;unfold over fS at *;rw[J.qG];by_cases e:id=i
 ·simp[e,aV]
 ·simp[e,this]
theorem zQ{h:J}{G:Nat→Option bQ}(bv:h.hX G)(o:bQ):∀ id,over (h.alloc o) G id=fS G h.next o id:=fun id=>by
 have:=over_self bv id;unfold over fS at *;rw[J.tR];by_cases e:id=h.next
 ·simp[e]
 ·simp[e,this]
def Leaves(P:Program)(ev:Operand→Value)(op:Op)(w:World)(v':Value)(w':World):Prop :=
 ∀ o:Oper,o.op=op→(execOp ev o).run P w=.ok (.value v') w'∨((execOp ev o).run P w=.ok .skip w'∧v'=undef)
def jf(al:Ren)(a b:Nat):Prop:=∀ id,a≤id→id<b→al id=none
def fj(al bd:Ren)(a b:Nat):Prop:=∀ id,(id<a∨b≤id)→bd id=al id
theorem fj.le{al bd:Ren}{a b:Nat}(h:fj al bd a b)(aZ:jf al a b):al.le bd:=fun id l ag=>by
 by_cases lp:a≤id∧id<b
 ·rw[aZ id lp.1 lp.2]at ag;cases ag
 ·rw[h id (by omega)];exact ag
theorem fj.refl(al:Ren)(a b:Nat):fj al al a b:=fun _ _=>rfl
theorem fj.put(al:Ren)(i:Nat)(l:Loc):fj al (al.put i l) i (i+1):=fun id h=>by
 unfold Ren.put;have:id≠i:=by omega
 simp[this]
theorem fj.trans{al ky fZ:Ren}{a b c:Nat}(h:fj al ky a b)(D:fj ky fZ b c)(y0:a≤b)(aiL:b≤c):fj al fZ a c:=fun id cQ=>by
 rw[D id (by omega),h id (by omega)]
structure lh(base:Nat)(G:Nat→Option bQ)(al:Ren)(w:World)(h D:J)(v v':Value)(bd:Ren)(w':World):Prop where
 agree:fj al bd h.next D.next
 val:bL bd v v'
 fI:b1 base (over D G) bd w'
 step:gi base w w'
theorem Fw(w:World)(g:Nat)(cs:Array Value)(a:Addr):(w.setRow g cs).frozen? a=w.frozen? a:=YB (fun b=>by
 by_cases e:b=g
 ·subst e;cases h:w.heap[b]? with
  |none=>left;simp[World.setRow,Array.getElem?_modify,h]
  |some o=>cases o<;>first|(left;simp[World.setRow,Array.getElem?_modify,h];done)|(right;left;exact⟨_,_,_,_,_,rfl,by simp[World.setRow,Array.getElem?_modify,h];exact⟨rfl,rfl⟩⟩)
 ·left;exact setRow_other w g b cs e) a
theorem setRow_size(w:World)(g:Nat)(cs:Array Value):(w.setRow g cs).heap.size=w.heap.size:=by simp
theorem adw{c1:Type}(cs m:List c1)(off n:Nat)(A:off+m.length≤n)(S:n≤cs.length) :
  (cs.take n).take off++m++(cs.take n).drop (off+m.length)=(cs.take off++m++cs.drop (off+m.length)).take n:=by
 have aR:(cs.take off++m).length=off+m.length:=by simp;omega
 rw[List.take_take,Nat.min_eq_left (by omega),List.take_append,aR,List.drop_take]
 congr 1
 exact(List.take_of_length_le (by omega)).symm
theorem WN{base:Nat}{w:World}{l:Loc}{cells:List Value}{e:TypeId}{li:Bool}{cs:Array Value}(h:nA base al w l (.aq cells true))(aj:w.heap[l.b]?=some (.cells cs e (0,0)))(aZ:li=true→cells.length=cs.size):nA base al w l (.gg cells e li):=by
 obtain⟨cs',el,fz,A,S,ae,aB,aG⟩:=h;rw[aj]at A;cases A;obtain⟨a1,_,bN⟩:=aG rfl;rw[a1]at ae aB;simp only[Nat.zero_add]at ae aB;exact⟨cs,aj,S,ae,aB,aZ,a1,bN⟩
theorem adO{t:TypeId}{rg mw:Operand}{s:Nat}(ak:gJ P t=some s){base:Nat}{w:World}{l:Loc}{cells:List Value}{off:Nat}{x:Value}(qS:nA base al w l (.aq cells true))(e:ev rg=.pointer (some ⟨l.b,off+l.dB,none⟩))(af:bL al x (ev mw))
  (aR:x.cells.toList.length=s) (bX:off+s≤cells.length) (gs:x.cells.toList.all (·.oneCell')=true) :
  ∃(cs new:Array Value) (el:TypeId),w.heap[l.b]?=some (.cells cs el (0,0))∧new.size=cs.size∧base≤l.b∧(∀ o:Oper,o.op=.store t rg mw→(execOp ev o).run P w=.ok .skip (w.setRow l.b new)) ∧
   (w.setRow l.b new).heap[l.b]?=some (.cells new el (0,0))∧nA base al (w.setRow l.b new) l (.aq (cells.take off++x.cells.toList++cells.drop (off+s)) true):=by
 obtain⟨cs,el,fz,A,S,ae,aB,aG,a1⟩:=wA qS;obtain⟨hJ,rfl,qL⟩:=a1 rfl;rw[hJ]at ae aB e;simp only[Nat.add_zero,Nat.zero_add,List.drop_zero]at ae aB e;have eY:=af.cells;have xd:(ev mw).cells.toList.length=s:=by rw[← eY.length];exact aR
 have oI:∀ c∈(ev mw).cells.toList,c.oneCell'=true:=by
  intro c aj;obtain⟨i,au⟩:=List.mem_iff_getElem?.1 aj;have lo:i<x.cells.toList.length:=by rw[eY.length];exact(List.getElem?_eq_some_iff.1 au).1
  obtain⟨fl,j8,hr⟩:=eY.get i _ (List.getElem?_eq_getElem lo);rw[au]at j8;cases j8;rw[bL.Up hr];exact List.all_eq_true.1 gs _ (List.getElem_mem lo)
 have dS:=run_storeCells_at P l.b off el (ev mw).cells.toList 0 cs w A (by rw[xd];omega) oI;simp only[Nat.add_zero]at dS;let new:Array Value:=(cs.toList.take off++(ev mw).cells.toList++cs.toList.drop (off+(ev mw).cells.toList.length)).toArray;have c9:new.size=cs.size:=by simp[new];simp at xd;omega
 refine⟨cs,new,el,A,c9,qL,fun o ah=>?_,setRow_heap w l.b cs _ el _ A,?_⟩
 ·have iD:¬((ev mw).cells.size≠s):=by simpa using xd
  simp only[execOp,ah,Instr.storeAt,e,Instr.sureAddr,Sem.run_bind,Sem.run_pure,Result.andThen_ok,storeVar,oX ak,iD,if_false,dS];rfl
 ·refine⟨new,el,(0,0),setRow_heap w l.b cs _ el _ A,by rw[c9];exact S,by simp[hJ];simp at aR;rw[c9];omega,fun i v ad=>?_,fun _=>⟨hJ,rfl,qL⟩⟩;rw[hJ,Nat.zero_add];have il:be al (cells.take off++x.cells.toList++cells.drop (off+s)) ((cs.toList.take cells.length).take off++(ev mw).cells.toList++(cs.toList.take cells.length).drop (off+s)) :=
   ((aB.take off).append eY).append (aB.drop _)
  obtain⟨v',fV,hr⟩:=il.get i v ad;refine⟨v',?_,hr,?_⟩
  ·have au:i<cells.length:=by
    have:=(List.getElem?_eq_some_iff.1 ad).1;simp at this aR;omega
   have lX:=adw cs.toList (ev mw).cells.toList off cells.length (by rw[xd];exact bX) (by simpa using ae);rw[xd]at lX;rw[lX,List.getElem?_take_of_lt au]at fV;simp only[new,List.getElem?_toArray,xd];exact fV
  ·have hm:=List.mem_of_getElem? ad;simp only[List.mem_append]at hm;rcases hm with(hm|hm)|hm
   ·exact aG v (List.mem_of_mem_take hm)
   ·exact List.all_eq_true.1 gs v hm
   ·exact aG v (List.mem_of_mem_drop hm)
theorem aqt{t:TypeId}{rg mw:Operand}{s:Nat}(ak:gJ P t=some s){vs:List Value}(ad:be al vs ([rg,mw].map ev)){base:Nat}{G:Nat→Option bQ}{w:World}(aM:b1 base G al w){h D:J}(bv:h.hX G)
  {v:Value}(ax:cz s h vs=some (v,D)):∃ w',Leaves P ev (.store t rg mw) w undef w'∧lh base G al w h D v undef al w':=by
 obtain⟨p,x,rfl,hp,af⟩:=be.mW ad;unfold cz at ax;split at ax<;>first|(cases ax;done)|skip
 rename_i id off hZ dK;cases dK;obtain⟨l,ag,e⟩:=hp.sI;split at ax<;>first|(cases ax;done)|skip
 ·rename_i cells k5;split at ax<;>first|(cases ax;done)|skip
  rename_i jF;obtain⟨aR,bX,gs⟩:=jF;cases ax;have k3:=bv id _ k5;obtain⟨cs,new,el,g1,g2,qL,g3,g4,g5⟩:=adO ak (aM.obj id _ l k3 ag) e af aR bX gs;refine⟨w.setRow l.b new,fun o ah=>.inr ⟨g3 o ah,rfl⟩,⟨fj.refl _ _ _,.same _ rfl,?_,?_⟩⟩
  ·exact b1.congr (aM.write id _ _ l k3 ag rfl (setRow_size _ _ _) (fun b T=>setRow_other w l.b b _ T) g5) (D5 bv k5 _)
  ·exact⟨by simp,fun b T=>setRow_other w l.b b _ (by omega),rfl,rfl,rfl,fun a _=>Fw w l.b _ a⟩
 ·rename_i cells el li k5;split at ax<;>first|(cases ax;done)|skip
  rename_i jF;obtain⟨aR,bX,gs⟩:=jF;cases ax;have k3:=bv id _ k5;have qS:=aM.obj id _ l k3 ag;obtain⟨cs,new,Yh,g1,g2,qL,g3,g4,g5⟩:=adO ak (MT qS) e af aR bX gs;obtain⟨cs',ck,cm,cb,eC,dG,ol,iF⟩:=qS;rw[g1]at ck;cases ck;refine⟨w.setRow l.b new,fun o ah=>.inr ⟨g3 o ah,rfl⟩,⟨fj.refl _ _ _,.same _ rfl,?_,?_⟩⟩
  ·exact b1.congr (aM.write id _ _ l k3 ag rfl (setRow_size _ _ _) (fun b T=>setRow_other w l.b b _ T) (WN g5 g4 (fun aZ=>by
    have:=dG aZ;simp at aR;simp[aR];omega))) (D5 bv k5 _)
  ·exact⟨by simp,fun b T=>setRow_other w l.b b _ (by omega),rfl,rfl,rfl,fun a _=>Fw w l.b _ a⟩
theorem aba{c1:Type}{z:List c1}{x:c1}:∀ {n:Nat},x∈(List.replicate n z).flatten→x∈z
 |0,h=>by simp at h
 |n+1,h=>by
  rw[List.replicate_succ,List.flatten_cons,List.mem_append]at h;exact h.elim id aba
theorem agF{t e ty:TypeId}{x:Operand}{s:Nat}{z:List Value}(aC:P.underlying t=some (.slice e))(bp:oz P e=some z)(pl:z.length=s){vs:List Value}(ad:be al vs ([x].map ev)){base:Nat}{G:Nat→Option bQ}{w:World}(aM:b1 base G al w){h D:J}(bv:h.hX G)
  {v:Value}(ax:MZ s z h vs=some (v,D)):∃ w',(Builtin.clear_ #[t] ty #[ev x]).run P w=.ok (.tuple #[]) w'∧v=.tuple #[]∧lh base G al w h D v (.tuple #[]) al w':=by
 obtain⟨y,rfl,bw⟩:=be.jW ad;obtain⟨eL,ck,cm,cb,eC⟩:=wj bp;unfold MZ at ax;split at ax<;>first|(cases ax;done)|skip
 ·rename_i dK;cases dK;cases ax;have az:ev x=.slice none 0 0:=bL.rT (by simp[Value.plain]) bw;refine⟨w,?_,rfl,fj.refl _ _ _,.same _ rfl,b1.congr aM (over_self bv),gi.refl _ _⟩;simp only[Builtin.clear_,az];simp[run_underlying aC]
 ·rename_i id off n a8 dK;cases dK;obtain⟨l,eW,cap,ag,az,bX,ah⟩:=bw.vX;split at ax<;>first|(cases ax;done)|skip
  rename_i cells k5;split at ax<;>first|(cases ax;done)|skip
  rename_i jF;cases ax;have k3:=bv id _ k5;by_cases hn:n=0
  ·subst hn;have eI:cells.take off++(List.replicate 0 z).flatten++cells.drop (off+0*s)=cells:=by simp
   rw[eI];refine⟨w,?_,rfl,fj.refl _ _ _,.same _ rfl,?_,gi.refl _ _⟩
   ·simp[Builtin.clear_,az,run_underlying aC]
   ·refine b1.congr aM fun i=>?_;rw[D5 bv k5];unfold fS;split
    ·rename_i e;rw[e,k3]
    ·rfl
  ·have qS:=aM.obj id _ l k3 ag;obtain⟨cs,el,fz,A,S,ae,aB,aG,a1⟩:=wA qS;obtain⟨hJ,rfl,qL⟩:=a1 rfl;rw[hJ]at ae aB ah;simp only[Nat.add_zero,Nat.zero_add,List.drop_zero]at ae aB ah;have nl:eW=off:=by rcases ah with⟨e,_⟩|⟨e,_⟩<;>omega
   subst nl;obtain⟨m,rfl⟩:∃ m,n=m+1:=⟨n-1,by omega⟩;have us:eL.cells.size=s:=by rw[← pl,← cm];simp
   obtain⟨zs,LD⟩:∃ x,(List.replicate (m+1) z).flatten=x:=⟨_,rfl⟩;have LF:zs.length=(m+1)*s:=by rw[← LD,tP z s pl]
   have fT:∀ c∈zs,c∈z:=fun c aj=>by rw[← LD]at aj;exact aba aj
   have ahU:(Builtin.zeroCells eL.cells (m+1)).toList=zs:=by
    rw[← LD];refine List.ext_getElem? fun i=>?_;by_cases au:i<(m+1)*s
    ·have lu:0<s:=Nat.pos_of_ne_zero fun e=>by subst e;simp at au
     rw[KB z s pl lu _ i au];have oh:i % s<s:=Nat.mod_lt _ lu;have aL:z[i % s]?=some (eL.cells[i % s]!):=by
      rw[← cm,getElem!_pos eL.cells (i % s) (by omega)];simp
     rw[aL];simp[Builtin.zeroCells,us,au]
    ·rw[List.getElem?_eq_none (by simp[Builtin.zeroCells,us];omega),List.getElem?_eq_none (by rw[tP z s pl];omega)]
   have oI:∀ c∈zs,c.oneCell'=true:=fun c aj=>eC c (fT c aj);have dS:=run_storeCells_at P l.b eW el zs 0 cs w A (by rw[LF];omega) oI;simp only[Nat.add_zero]at dS;let new:Array Value:=(cs.toList.take eW++zs++cs.toList.drop (eW+zs.length)).toArray;have c9:new.size=cs.size:=by simp[new];omega
   refine⟨w.setRow l.b new,?_,rfl,fj.refl _ _ _,.same _ rfl,?_,?_⟩
   ·simp only[Builtin.clear_,az];simp[run_underlying aC,ck,ahU,dS,new]
   ·rw[LD];refine b1.congr (aM.write id _ _ l k3 ag rfl (setRow_size _ _ _) (fun b T=>setRow_other w l.b b _ T) ?_) (D5 bv k5 _);refine⟨new,el,(0,0),setRow_heap w l.b cs _ el _ A,by rw[c9];exact S,by rw[hJ,c9];simp;omega,fun i v ad=>?_,fun _=>⟨hJ,rfl,qL⟩⟩;rw[hJ,Nat.zero_add];have hpl:be al zs zs:=be.plain fun c aj=>cb c (fT c aj);have il:be al (cells.take eW++zs++cells.drop (eW+(m+1)*s)) ((cs.toList.take cells.length).take eW++zs++(cs.toList.take cells.length).drop (eW+(m+1)*s)) :=
     ((aB.take eW).append hpl).append (aB.drop _)
    obtain⟨v',fV,hr⟩:=il.get i v ad;refine⟨v',?_,hr,?_⟩
    ·have au:i<cells.length:=by
      have:=(List.getElem?_eq_some_iff.1 ad).1;simp at this;omega
     have lX:=adw cs.toList zs eW cells.length (by rw[LF];exact jF) (by simpa using ae);rw[LF]at lX;rw[lX,List.getElem?_take_of_lt au]at fV;simp only[new,List.getElem?_toArray,LF];exact fV
    ·have hm:=List.mem_of_getElem? ad;simp only[List.mem_append]at hm;rcases hm with(hm|hm)|hm
     ·exact aG v (List.mem_of_mem_take hm)
     ·exact oI v hm
     ·exact aG v (List.mem_of_mem_drop hm)
   ·exact⟨by simp,fun b T=>setRow_other w l.b b _ (by omega),rfl,rfl,rfl,fun a _=>Fw w l.b _ a⟩
end Go.Eng
namespace Go.Eng
open Go
variable {P:Program}{al:Ren}{ev:Operand→Value}
theorem Rh{w:World}{g:Nat}{o gl:Obj}(h:w.heap[g]?=some o)(ah:∀ c t f,o≠.cells c t f)(lU:∀ c t f,gl≠.cells c t f)(a:Addr):(w.putObj g gl).frozen? a=w.frozen? a:=YB (fun b=>by
 by_cases e:b=g
 ·subst e;right;right;have aV:b<w.heap.size:=(Array.getElem?_eq_some_iff.1 h).1;refine⟨fun c t f cp=>?_,fun c t f cp=>?_⟩
  ·rw[h]at cp;exact ah _ _ _ (Option.some.inj cp)
  ·rw[World.putObj_heap_same aV]at cp;exact lU _ _ _ (Option.some.inj cp)
 ·left;exact World.putObj_heap_other e) a
theorem ala{t:TypeId}{base:Nat}{G:Nat→Option bQ}{w:World}(aM:b1 base G al w){h:J}(bv:h.hX G)(cQ:al h.next=none) :
  ∃ v' bd w',Leaves P ev (.makeMap t none) w v' w'∧lh base G al w h (h.alloc (.map [] true)) (.map (some h.next)) v' bd w':=by
 let l:Loc:=⟨w.heap.size,0,0⟩;refine⟨.map (some w.heap.size),al.put h.next l,w.alloc (.map #[] 0),fun o ah=>.inl ?_,⟨fj.put _ _ _,.map h.next l (by simp[Ren.put]) rfl,?_,?_⟩⟩
 ·simp[execOp,ah,Instr.makeMap]
 ·refine b1.congr (aM.alloc h.next (.map [] true) l cQ (Nat.le_refl _) (by simp[l]) (fun b T=>heap_alloc_old w _ b T) (by simp) ?_) (zQ bv _);exact⟨#[],0,heap_alloc_new w _,rfl,by simp,by simp,fun _=>aM.size⟩
 ·exact⟨by simp,fun b T=>heap_alloc_old w _ b (Nat.lt_of_lt_of_le T aM.size),rfl,rfl,rfl,fun a _=>Fv w _ (.inr (by simp)) a⟩
theorem aqx{s d e:TypeId}{x:Operand}(A:P.underlying s=some .string)(S:P.underlying d=some (.slice e))(ae:P.underlying e=some (.int .u8)){vs:List Value}(ad:be al vs ([x].map ev)){base:Nat}{G:Nat→Option bQ}{w:World}
  (aM:b1 base G al w){h D:J}(bv:h.hX G){v:Value}(ax:bh .Es vs h=some (v,D)) (bZ:jf al h.next D.next):∃ v' bd w',Leaves P ev (.convert s d x) w v' w'∧lh base G al w h D v v' bd w':=by
 obtain⟨a,rfl,ai⟩:=be.jW ad;cases a<;>simp only[bh]at ax<;>first|(cases ax;done)|skip
 rename_i t;cases ax;have az:=ai.str;have cQ:al h.next=none:=bZ h.next (Nat.le_refl _) (by simp);let l:Loc:=⟨w.heap.size,0,(Lib.bytesCells w e t).size⟩;have RP:=Lib.bytesWorld_below w e t;have iD:(Lib.bytesCells w e t).size=grownCap w t.size 0 e:=by
  have:=grownCap_ge w t.size 0 e;unfold Lib.bytesCells;rw[Array.size_append,Array.size_map,Array.size_replicate];have eI:t.data.size=t.size:=rfl;omega
 have oe:=grownCap_ge w t.size 0 e;refine⟨.slice (some ⟨w.heap.size,0,none⟩) t.size (grownCap w t.size 0 e),al.put h.next l,Lib.bytesWorld w e t,fun o ah=>.inl ?_,⟨fj.put _ _ _,?_,?_,?_⟩⟩
 ·simp[execOp,ah,az,Lib.run_convert_string_bytes w s d e t A S ae]
 ·refine .slice h.next 0 0 t.size 1 _ l (by simp[Ren.put]) oe (.inl ⟨rfl,?_⟩);show 0+0+grownCap w t.size 0 e*1≤(Lib.bytesCells w e t).size;omega
 ·refine b1.congr (aM.alloc h.next _ l cQ (Nat.le_refl _) (by simp[l,Lib.bytesWorld_size]) (fun b T=>Lib.bytesWorld_at_old w e t b T) (by simp[Lib.bytesWorld_size]) ?_) (zQ bv _);refine⟨_,_,_,Lib.bytesWorld_at_new w e t,rfl,?_,fun i v ad=>?_,fun h=>by cases h⟩
  ·have eI:t.data.size=t.size:=rfl;show 0+(t.data.toList.map _).length≤(Lib.bytesCells w e t).size;rw[List.length_map,Array.length_toList];omega
  ·refine⟨v,?_,?_,?_⟩
   ·have au:=(List.getElem?_eq_some_iff.1 ad).1;have ef:i<t.data.size:=by simpa using au
    simp only[l,Nat.zero_add,Lib.bytesCells];rw[Array.getElem?_append_left (by simpa using ef)];simpa using ad
   ·have:=List.mem_of_getElem? ad;obtain⟨b,_,rfl⟩:=List.mem_map.1 this;exact .same _ rfl
   ·have:=List.mem_of_getElem? ad;obtain⟨b,_,rfl⟩:=List.mem_map.1 this;rfl
 ·refine⟨by simp[Lib.bytesWorld_size],fun b T=>Lib.bytesWorld_at_old w e t b (Nat.lt_of_lt_of_le T aM.size),RP.tape,RP.os,RP.output,fun a ai=>?_⟩;simp only[World.frozen?,Lib.bytesWorld_at_old w e t a.block (Nat.lt_of_lt_of_le ai aM.size)]
theorem al4{t k e:TypeId}{rg xW mw:Operand}(aC:P.underlying t=some (.map k e))(ab:xq P k=true){vs:List Value}(ad:be al vs ([rg,xW,mw].map ev)){base:Nat}{G:Nat→Option bQ}{w:World}
  (aM:b1 base G al w){h D:J}(bv:h.hX G){v:Value}(ax:M0 (mm P k) h vs=some (v,D)):∃ w',Leaves P ev (.mapUpdate t rg xW mw) w undef w'∧lh base G al w h D v undef al w':=by
 obtain⟨m,x,y,rfl,hm,af,bw⟩:=be.Vq ad;unfold M0 at ax;split at ax<;>first|(cases ax;done)|skip
 rename_i id key val dK;cases dK;split at ax<;>first|(cases ax;done)|skip
 rename_i es Y1;split at ax<;>first|(cases ax;done)|skip
 rename_i aj;simp only[Bool.and_eq_true]at aj;cases ax;obtain⟨l,ag,az,hJ⟩:=hm.HE;have k3:=bv id _ Y1;obtain⟨h3,sZ,A,S,ae,aB,aG⟩:=vI (aM.obj id _ l k3 ag);have qL:=aG rfl;have Se:sc x=true:=by have:=aj.1;simp only[mm,Bool.and_eq_true]at this;exact this.1
 have ex:ev xW=x:=Fq Se af;have K:=TP ab;have rC:∃ DK,keyOf P k x=some DK:=by have:=aj.1;simp only[mm,Bool.and_eq_true,Option.isSome_iff_exists]at this;exact this.2
 obtain⟨DK,rC⟩:=rC;have Gb:=K.check w false rC;have ak1:=K.stays w rC;have key:∀ wL:Array MapEntry,∀ Kg,nA base al (w.putObj l.b (.map wL Kg)) l (.map (zK es x y) true)→(∀ o:Oper,o.op=.mapUpdate t rg xW mw→(execOp ev o).run P w=.ok .skip (w.putObj l.b (.map wL Kg))) →
   ∃ w',Leaves P ev (.mapUpdate t rg xW mw) w undef w'∧lh base G al w h (h.set id (.map (zK es x y) true)) undef undef al w':=by
  intro wL Kg ah e4;refine⟨w.putObj l.b (.map wL Kg),fun o nn=>.inr ⟨e4 o nn,rfl⟩,⟨fj.refl _ _ _,.same _ rfl,?_,?_⟩⟩
  ·exact b1.congr (aM.write id _ (.map (zK es x y) true) l k3 ag rfl (by simp[World.putObj]) (fun b T=>World.putObj_heap_other T) ah) (D5 bv Y1 _)
  ·exact⟨by simp[World.putObj],fun b T=>World.putObj_heap_other (by omega),rfl,rfl,rfl,fun a _=>Rh A (by simp) (by simp) a⟩
 have aV:l.b<w.heap.size:=(Array.getElem?_eq_some_iff.1 A).1;rcases Yx K S ae aB aj.1 aj.2 w with⟨f1,fn,f2⟩|⟨i,j4,Ff,f1,f2,f3,f4,f5,f6,f7⟩
 ·refine key (h3.push { key:=x,val:=ev mw,born:=sZ }) (sZ+1) ?_ fun o ah=>?_
  ·refine⟨_,_,World.putObj_heap_same aV,?_,?_,?_,fun _=>qL⟩
   ·simp[zK,f2,S]
   ·intro j CI bn;simp only[zK,f2]at bn;by_cases ud:j<es.length
    ·rw[List.getElem?_append_left ud]at bn;obtain⟨cA,a,b⟩:=ae j CI bn;exact⟨cA,by rw[Array.getElem?_push_lt (by omega)];simpa[Array.getElem?_eq_getElem (show j<h3.size by omega)] using a,b⟩
    ·have kL:j=es.length:=by
      have:=(List.getElem?_eq_some_iff.1 bn).1;simp at this;omega
     subst kL;rw[List.getElem?_append_right (Nat.le_refl _)]at bn;simp at bn;subst bn;exact⟨{ key:=x,val:=ev mw,born:=sZ },by rw[S];simp,by show bL al x x;rw[ex]at af;exact af,bw⟩
   ·intro i j a b au bn y0;rw[Array.getElem?_push]at au bn;split at au<;>split at bn
    ·omega
    ·cases au
     exact absurd y0.symm (fn b (Array.mem_toList_iff.2 (Array.mem_of_getElem? bn)))
    ·cases bn
     exact absurd y0 (fn a (Array.mem_toList_iff.2 (Array.mem_of_getElem? au)))
    ·exact aB i j a b au bn y0
  ·simp[execOp,ah,Instr.mapUpdate,run_underlying aC,az,ex,getObj,setObj,Sem.run,A,Gb,f1,World.putObj]
 ·refine key (h3.modify i fun e=>{ e with key:=x,val:=ev mw }) sZ ?_ fun o ah=>?_
  ·refine⟨_,_,World.putObj_heap_same aV,?_,?_,?_,fun _=>qL⟩
   ·simp[zK,f2,S]
   ·intro j CI bn;simp only[zK,f2,List.getElem?_set]at bn;rw[Array.getElem?_modify];split at bn
    ·rename_i Gk;subst Gk;split at bn<;>first|(cases bn;done)|skip
     cases bn
     exact⟨{ Ff with key:=x,val:=ev mw },by simp[f4],by show bL al x x;rw[ex]at af;exact af,bw⟩
    ·rename_i Gk;obtain⟨cA,a,b⟩:=ae j CI bn;exact⟨cA,by simp[Gk,a],b⟩
   ·intro p q a b hp L y0;have TR:∀(p:Nat) a,(h3.modify i fun e=>{ e with key:=x,val:=ev mw })[p]?=some a→∃ a',h3[p]?=some a'∧a'.key=a.key:=by
     intro p a hp;rw[Array.getElem?_modify]at hp;split at hp
     ·rename_i ajh;subst ajh;rw[f4]at hp;cases hp;exact⟨_,f4,f5⟩
     ·exact⟨a,hp,rfl⟩
    obtain⟨a',ai,c8⟩:=TR p a hp;obtain⟨b',T,iO⟩:=TR q b L;exact aB p q a' b' ai T (by rw[c8,iO,y0])
  ·have gF:((h3[i]?).map (·.key)).getD x=x:=by rw[f4];exact f5
   simp[execOp,ah,Instr.mapUpdate,run_underlying aC,az,ex,getObj,setObj,Sem.run,A,Gb,f1,World.putObj,f4,f5,ak1]
abbrev I(z:Int):Value:=.int .i64 z
abbrev aH(a b:Nat):Value:=.pointer (some ⟨a,b,none⟩)
abbrev aT:=Value→J→Prop
abbrev ar:=List Value
abbrev aD:=List UInt8
abbrev aI:Value:=.string ⟨#[]⟩
abbrev bx:Value:=.slice none 0 0
abbrev b0:Value:=undef
theorem lF:type_of% @Array.getD_eq_getD_getElem?.{0}:=@Array.getD_eq_getD_getElem?.{0}
theorem Pf:type_of% @Array.getElem?_append_left.{0}:=@Array.getElem?_append_left.{0}
theorem Lo:type_of% @Array.getElem?_eq_getElem.{0}:=@Array.getElem?_eq_getElem.{0}
theorem Ic:type_of% @Array.getElem?_eq_some_iff.{0}:=@Array.getElem?_eq_some_iff.{0}
theorem ND:type_of% @Array.getElem?_replicate.{0}:=@Array.getElem?_replicate.{0}
theorem Lz:type_of% @Array.toList_inj.{0}:=@Array.toList_inj.{0}
theorem Kv:type_of% @Bool.and_assoc:=@Bool.and_assoc
theorem uG:type_of% @Bool.and_false:=@Bool.and_false
theorem r9:type_of% @Bool.and_true:=@Bool.and_true
theorem mb:type_of% @Bool.false_and:=@Bool.false_and
theorem xZ:type_of% @Bool.false_eq_true:=@Bool.false_eq_true
theorem yA:type_of% @Bool.false_or:=@Bool.false_or
theorem K6:type_of% @Bool.not_eq_true':=@Bool.not_eq_true'
theorem Cg:type_of% @Bool.not_false:=@Bool.not_false
theorem Fj:type_of% @Bool.not_true:=@Bool.not_true
theorem Ln:type_of% @Bool.or_eq_true:=@Bool.or_eq_true
theorem kx:type_of% @Bool.true_and:=@Bool.true_and
theorem Ch:type_of% @Int.ofNat_zero:=@Int.ofNat_zero
theorem nU:type_of% @List.all_eq_true.{0}:=@List.all_eq_true.{0}
theorem Nk:type_of% @List.any_eq_true.{0}:=@List.any_eq_true.{0}
theorem wB:type_of% @List.append_assoc.{0}:=@List.append_assoc.{0}
theorem zR:type_of% @List.append_nil.{0}:=@List.append_nil.{0}
theorem E0:type_of% @List.cons_append.{0}:=@List.cons_append.{0}
theorem Ci:type_of% @List.dropWhile_cons.{0}:=@List.dropWhile_cons.{0}
theorem Np:type_of% @List.drop_eq_getElem_cons.{0}:=@List.drop_eq_getElem_cons.{0}
theorem Pg:type_of% @List.drop_eq_nil_of_le.{0}:=@List.drop_eq_nil_of_le.{0}
theorem PE:type_of% @List.drop_of_length_le.{0}:=@List.drop_of_length_le.{0}
theorem HX:type_of% @List.findIdx?_eq_none_iff.{0}:=@List.findIdx?_eq_none_iff.{0}
theorem H7:type_of% @List.findIdx?_eq_some_iff_getElem.{0}:=@List.findIdx?_eq_some_iff_getElem.{0}
theorem z8:type_of% @List.flatten_cons.{0}:=@List.flatten_cons.{0}
theorem Ft:type_of% @List.flatten_nil.{0}:=@List.flatten_nil.{0}
theorem PF:type_of% @List.getElem?_append_left.{0}:=@List.getElem?_append_left.{0}
theorem PG:type_of% @List.getElem?_cons_zero.{0}:=@List.getElem?_cons_zero.{0}
theorem Nu:type_of% @List.getElem?_drop.{0}:=@List.getElem?_drop.{0}
theorem hi:type_of% @List.getElem?_eq_getElem.{0}:=@List.getElem?_eq_getElem.{0}
theorem PH:type_of% @List.getElem?_eq_none.{0}:=@List.getElem?_eq_none.{0}
theorem j2:type_of% @List.getElem?_eq_some_iff.{0}:=@List.getElem?_eq_some_iff.{0}
theorem NA:type_of% @List.getElem?_map.{0,0}:=@List.getElem?_map.{0,0}
theorem PI:type_of% @List.getElem?_take_of_lt.{0}:=@List.getElem?_take_of_lt.{0}
theorem Lr:type_of% @List.getElem_mem.{0}:=@List.getElem_mem.{0}
theorem G3:type_of% @List.isPrefixOf_iff_prefix.{0}:=@List.isPrefixOf_iff_prefix.{0}
theorem ap:type_of% @List.length_append.{0}:=@List.length_append.{0}
theorem hR:type_of% @List.length_cons.{0}:=@List.length_cons.{0}
theorem qz:type_of% @List.length_nil.{0}:=@List.length_nil.{0}
theorem Ir:type_of% @List.map_append.{0,0}:=@List.map_append.{0,0}
theorem Fx:type_of% @List.map_cons.{0,0}:=@List.map_cons.{0,0}
theorem Aa:type_of% @List.mem_append.{0}:=@List.mem_append.{0}
theorem oj:type_of% @List.mem_cons.{0}:=@List.mem_cons.{0}
theorem Gm:type_of% @List.mem_iff_getElem?.{0}:=@List.mem_iff_getElem?.{0}
theorem Is:type_of% @List.mem_map.{0,0}:=@List.mem_map.{0,0}
theorem CS:type_of% @List.mem_range:=@List.mem_range
theorem Iw:type_of% @List.mem_singleton.{0}:=@List.mem_singleton.{0}
theorem NE:type_of% @List.nil_append.{0}:=@List.nil_append.{0}
theorem BR:type_of% @List.not_mem_nil.{0}:=@List.not_mem_nil.{0}
theorem O9:type_of% @List.takeWhile_cons.{0}:=@List.takeWhile_cons.{0}
theorem G5:type_of% @List.take_add_one.{0}:=@List.take_add_one.{0}
theorem PJ:type_of% @List.take_append_drop.{0}:=@List.take_append_drop.{0}
theorem NU:type_of% @List.take_length.{0}:=@List.take_length.{0}
theorem Lt:type_of% @List.take_of_length_le.{0}:=@List.take_of_length_le.{0}
theorem Gr:type_of% @Nat.add_zero:=@Nat.add_zero
theorem br:type_of% @Nat.le_refl:=@Nat.le_refl
theorem rI:type_of% @Nat.le_trans:=@Nat.le_trans
theorem BS:type_of% @Nat.lt_of_lt_of_le:=@Nat.lt_of_lt_of_le
theorem Dj:type_of% @Nat.lt_or_ge:=@Nat.lt_or_ge
theorem HA:type_of% @Nat.mul_le_mul_right:=@Nat.mul_le_mul_right
theorem IQ:type_of% @Nat.succ_mul:=@Nat.succ_mul
theorem zS:type_of% @Nat.zero_add:=@Nat.zero_add
theorem lj:type_of% @Nat.zero_le:=@Nat.zero_le
theorem r1:type_of% @Option.isSome_iff_exists.{0}:=@Option.isSome_iff_exists.{0}
theorem N6:type_of% @Option.map_some.{0,0}:=@Option.map_some.{0,0}
end Go.Eng
