/-
  Part of a proof of the laws of layer 09 (ceiling): what each function does.
  Conditions: none.
-/
import Derived.Test.YtddbbcpelbcahaaGreatDoorBb
set_option linter.unusedSimpArgs false
set_option linter.unusedVariables false
namespace Go.Eng
open Go
abbrev Row:=Value × Nat × List (lVq)
def sepV (v w:Value):Prop:=∀ id n s,v = .slice (some ⟨id,0,none⟩) n s→notOf w id
structure Rows (n:Nat) (h:Heap) (l:List Row):Prop where
 own:∀ r ∈ l,OwnS (zw n) h r.2.1 r.1 r.2.2
 sep:l.Pairwise fun a b=>sepV a.1 b.1∧sepV b.1 a.1
theorem OwnS.blk_lt {n:Nat}{h:Heap}{s:Nat}{v:Value}{xs:List (lVq)}(ha:OwnS (zw n) h s v xs):∀ id m t,v = .slice (some ⟨id,0,none⟩) m t→n≤id∧(h.get id).isSome=true:=fun id m t e=>by
 rcases ha with ⟨rfl,_⟩ | ⟨id',rfl,h1,hg,_⟩
 ·cases e
 ·cases e;exact ⟨h1,by rw [hg];rfl⟩
theorem OwnS.notOf_new {n:Nat}{h:Heap}{s:Nat}{v:Value}{xs:List (lVq)}(ha:OwnS (zw n) h s v xs){i:Nat}(hi:h.next≤i):Go.Eng.notOf v i:=fun m t e=>by
 obtain ⟨_,h2⟩:=ha.blk_lt i m t e;obtain ⟨o,ho⟩:=Option.isSome_iff_exists.1 h2;have:=Heap.lt_of_get ho;omega
theorem Rows.keep {n:Nat}{h h' : Heap}{l:List Row}(hR:Rows n h l) (hk:∀ i,n≤i→(h.get i).isSome=true→h'.get i=h.get i):Rows n h' l :=
 ⟨fun r hr=>(hR.own r hr).get fun id hv hs=>hk id ((hR.own r hr).blk_lt id _ _ hv).1 hs,hR.sep⟩
theorem Rows.push {n:Nat}{h:Heap}{l1 l2:List Row}{v:Value}{s:Nat}{xs:List (lVq)}(hR:Rows n h (l1++(v,s,xs)::l2)) (hn:n≤h.next){x:lVq}(hx:x.length=s) (hs:0 < s){b:Nat}(hb:(xs.length + 1) * b≤140737488355328) (hb2:xs.length + 1≤9223372036854775807) :
  ∃ v' h',yq s b (h.alloc (.blk x true)) [v,.slice (some ⟨h.next,0,none⟩) 1 s]=some (v',h')∧Rows n h' (l1++(v',s,xs++[x])::l2)∧(∀ i,(h.get i).isSome=true→notOf v i→h'.get i=h.get i)∧(∀ i,(h.get i).isSome=true→notOf v' i)∧h.next≤h'.next:=by
 have hv:=hR.own (v,s,xs) (by simp);obtain ⟨v',h',ap,ho,_,k1,k2,nx⟩:=hv.append1 (ym hn) hx hs hb hb2;have hsep:=List.pairwise_append.1 hR.sep;have hsep2:=List.pairwise_cons.1 hsep.2.1;have keep:∀ r,r ∈ l1∨r ∈ l2→OwnS (zw n) h' r.2.1 r.1 r.2.2:=fun r hr=>by
  have hr' : r ∈ l1++(v,s,xs)::l2:=by rcases hr with hr | hr<;>simp [hr]
  have hsv:sepV r.1 v:=by
   rcases hr with hr | hr
   ·exact (hsep.2.2 r hr (v,s,xs) (by simp)).1
   ·exact (hsep2.1 r hr).2
  exact (hR.own r hr').get fun id hv2 hs2=>k1 id hs2 (hsv id _ _ hv2)
 have apart:∀ r,r ∈ l1∨r ∈ l2→sepV r.1 v' ∧ sepV v' r.1:=fun r hr=>by
  have hr' : r ∈ l1++(v,s,xs)::l2:=by rcases hr with hr | hr<;>simp [hr]
  have h1:sepV r.1 v':=fun id m t e=>k2 id ((hR.own r hr').blk_lt id m t e).2;refine ⟨h1,fun id m t e m' t' e'=>?_⟩;exact h1 id m' t' e' m t e
 refine ⟨v',h',ap,⟨fun r hr=>?_,?_⟩,k1,k2,nx⟩
 ·rcases List.mem_append.1 hr with hr | hr
  ·exact keep r (.inl hr)
  ·rcases List.mem_cons.1 hr with rfl | hr
   ·exact ho
   ·exact keep r (.inr hr)
 ·refine List.pairwise_append.2 ⟨hsep.1,List.pairwise_cons.2 ⟨fun r hr=>?_,hsep2.2⟩,fun a ha b hb=>?_⟩
  ·have:=apart r (.inr hr);exact ⟨this.2,this.1⟩
  ·rcases List.mem_cons.1 hb with rfl | hb
   ·exact apart a (.inl ha)
   ·exact hsep.2.2 a ha b (by simp [hb])
theorem Rows.notOf {n:Nat}{h:Heap}{l:List Row}(hR:Rows n h l){r:Row}(hr:r ∈ l){i:Nat}(hi:i < n∨h.next≤i):Go.Eng.notOf r.1 i:=by
 rcases hi with hi | hi
 ·exact OwnS.notOf (hR.own r hr) hi
 ·exact OwnS.notOf_new (hR.own r hr) hi
end Go.Eng
namespace Go.Eng.Sy
open Go Go.Eng Go.Proofs
theorem OwnS.isS {n:Nat}{h:Heap}{s:Nat}{v:Value}{xs:List (lVq)}(ha:OwnS (zw n) h s v xs):IsS v:=(OwnS.slB ha).isS
def devNs:List (lBq):=[[100],[101],[102]]
def resNs:List (lBq):=[[114,97],[114,98]]
def tskNs:List (lBq):=[[116,97],[116,98],[116,99]]
def hndNs:List (lBq):=[[104,97],[104,98],[104,99]]
def vf (ns:List (lBq)) (m:Nat):Nat→Nat→List Int→List Nm × List Int
 | 0,_,s=>([],s)
 | k + 1,j,s=>(⟨ns.getD j [],(1 + (zh s m).1:Nat)⟩::(vf ns m k (j + 1) (zh s m).2).1,(vf ns m k (j + 1) (zh s m).2).2)
def wp (c:Sco):Nat→Nat→List Int→List Tsk × List Int
 | 0,_,s=>([],s)
 | k + 1,j,s =>
  let n:=zh s 3;let b:=kw 3 c n.2
  (⟨tskNs.getD j [],false,j,(1 + n.1:Nat),0,b.1⟩::(wp c k (j + 1) b.2).1,(wp c k (j + 1) b.2).2)
def w9 (c:Sco) (harts:Nat):Nat→Nat→List Int→List Tsk × List Int
 | 0,_,s=>([],s)
 | k + 1,j,s =>
  let a:=zh s harts;let n:=zh a.2 4;let l:=zh n.2 2;let b:=kw 2 c l.2
  (⟨hndNs.getD j [],true,a.1,(4 + n.1:Nat),(j + l.1 * 4:Nat),b.1⟩::(w9 c harts k (j + 1) b.2).1,(w9 c harts k (j + 1) b.2).2)
theorem Ws (ns:List (lBq)) (m:Nat):∀ (k j:Nat) (s:List Int),vf ns m (k + 1) j s=((vf ns m k j s).1++[⟨ns.getD (j + k) [],(1 + (zh (vf ns m k j s).2 m).1:Nat)⟩],(zh (vf ns m k j s).2 m).2)
 | 0,j,s=>rfl
 | k + 1,j,s=>by
  have:=Ws ns m k (j + 1) (zh s m).2;rw [vf,this,show j + 1 + k=j + (k + 1) by omega];rfl
theorem Uj (c:Sco):∀ (k j:Nat) (s:List Int),wp c (k + 1) j s=((wp c k j s).1++[⟨tskNs.getD (j + k) [],false,(j + k:Nat),(1 + (zh (wp c k j s).2 3).1:Nat),0,(kw 3 c (zh (wp c k j s).2 3).2).1⟩],(kw 3 c (zh (wp c k j s).2 3).2).2)
 | 0,j,s=>rfl
 | k + 1,j,s=>by
  have:=Uj c k (j + 1) (kw 3 c (zh s 3).2).2;rw [wp];simp only [this,show j + 1 + k=j + (k + 1) by omega];rfl
theorem za1 (c:Sco) (H:Nat):∀ (k j:Nat) (s:List Int),w9 c H (k + 1) j s =
  (
   let a:=zh (w9 c H k j s).2 H;let n:=zh a.2 4;let l:=zh n.2 2;let b:=kw 2 c l.2
   ((w9 c H k j s).1++[⟨hndNs.getD (j + k) [],true,a.1,(4 + n.1:Nat),(j + k + l.1 * 4:Nat),b.1⟩],b.2))
 | 0,j,s=>rfl
 | k + 1,j,s=>by
  have:=za1 c H k (j + 1) (kw 2 c (zh (zh (zh s H).2 4).2 2).2).2;rw [w9];simp only [this,show j + 1 + k=j + (k + 1) by omega];rfl
theorem qz (ns:List (lBq)) (m:Nat):∀ (k j:Nat) (s:List Int),(vf ns m k j s).1.length=k
 | 0,_,_=>rfl
 | k + 1,j,s=>by simp [vf,qz ns m k]
theorem Qb (c:Sco):∀ (k j:Nat) (s:List Int),(wp c k j s).1.length=k
 | 0,_,_=>rfl
 | k + 1,j,s=>by simp [wp,Qb c k]
theorem Z7 (c:Sco) (H:Nat):∀ (k j:Nat) (s:List Int),(w9 c H k j s).1.length=k
 | 0,_,_=>rfl
 | k + 1,j,s=>by simp [w9,Z7 c H k]
def Ud (raw:List Int) (all:Bool):Prg :=
 let s0:=raw.take 400;let a:=zh s0 3;let nd:=zh a.2 3;let ds:=vf devNs 3 (nd.1 + 1) 0 nd.2;let nr:=zh ds.2 3;let rs:=vf resNs 8 nr.1 0 nr.2;let c:Sco:=⟨ds.1.map (·.name),rs.1.map (·.name),0,[],all⟩;let ts:=wp c (1 + a.1) 0 rs.2;let nh:=zh ts.2 4;let hs:=w9 c (1 + a.1) nh.1 0 nh.2
 ⟨(1 + a.1:Nat),ds.1,rs.1,ts.1++hs.1⟩
def TsCB (B:Nat→Prop) (h:Heap) (t:Tsk) (x:lVq):Prop:=∃ v,x=[str t.name,.bool t.handler,iI t.hart,iI t.prio,iI t.line,v]∧StsVB B h v t.body
def TsCsB (B:Nat→Prop) (h:Heap):List Tsk→List (lVq)→Prop
 | [],xs=>xs=[]
 | e::r,xs=>∃ x xr,xs=x::xr∧TsCB B h e x∧TsCsB B h r xr
theorem TsCB.to {B B' : Nat→Prop}{h h' : Heap}(hk:Heap.toB B B' h h'){t:Tsk}{x:lVq}(hx:TsCB B h t x):TsCB B' h' t x:=let ⟨v,a,b⟩:=hx;⟨v,a,b.to hk⟩
theorem TsCsB.to {B B' : Nat→Prop}{h h' : Heap}(hk:Heap.toB B B' h h'):∀ {l:List Tsk}{xs:List (lVq)},TsCsB B h l xs→TsCsB B' h' l xs
 | [],_,hx=>hx
 | _::_,_,⟨x,xr,h1,h2,h3⟩=>⟨x,xr,h1,h2.to hk,TsCsB.to hk h3⟩
theorem TsCsB.length {B:Nat→Prop}{h:Heap}:∀ {l:List Tsk}{xs:List (lVq)},TsCsB B h l xs→xs.length=l.length
 | [],_,hx=>by rw [show _=[] from hx];rfl
 | _::_,_,⟨x,xr,h1,h2,h3⟩=>by rw [h1];simp [TsCsB.length h3]
theorem TsCsB.snoc {B:Nat→Prop}{h:Heap}{e:Tsk}{x:lVq}(hx:TsCB B h e x):∀ {l:List Tsk}{xs:List (lVq)},TsCsB B h l xs→TsCsB B h (l++[e]) (xs++[x])
 | [],_,h0=>by rw [show _=[] from h0];exact ⟨x,[],rfl,hx,rfl⟩
 | _::_,_,⟨y,yr,h1,h2,h3⟩=>by rw [h1];exact ⟨y,yr++[x],rfl,h2,TsCsB.snoc hx h3⟩
theorem TsCsB.plain {B:Nat→Prop}{h:Heap}:∀ {l:List Tsk}{xs:List (lVq)},TsCsB B h l xs→TsCs h l xs
 | [],_,hx=>hx
 | _::_,_,⟨x,xr,h1,⟨v,h2,h4⟩,h3⟩=>⟨x,xr,h1,⟨v,h2,h4.plain⟩,TsCsB.plain h3⟩
def PB (n:Nat) (vs:lVq) (id:Nat):Prop:=n≤id ∧ ∀ v ∈ vs,notOf v id
abbrev nmC (d:Nm):lVq:=[str d.name,iI d.n]
structure PS (n p q0 qp qc:Nat) (all:Bool) (h:Heap) (harts:Nat) (dl:List Nm) (dn:List (lBq)) (rl:List Nm) (rn:List (lBq)) (tasks:List Tsk) (raw:List Int):Prop where
 src:Src h p raw
 q0:h.get q0=some (.blk [iI 0,zq,zq,zq] true)
 rows:∃ dv cdv rv crv tv xs,h.get qp=some (.blk [iI (harts:Int),dv,rv,tv] true)∧h.get qc=some (.blk [cdv,crv,iI 0,zq,.bool all] true) ∧
  Rows n h [(dv,2,dl.map nmC),(cdv,1,dn.map fun s=>[str s]),(rv,2,rl.map nmC),(crv,1,rn.map fun s=>[str s]),(tv,6,xs)]∧TsCsB (PB n [dv,cdv,rv,crv,tv]) h tasks xs
def PD (n p q0 qp qc:Nat):Prop:=p < qp∧p < qc∧p < n∧q0 < p∧qp < qc∧qc < n∧qp < n
structure Low (n p qp qc:Nat) (h h' : Heap):Prop where
 keep:∀ i,i < n→i≠p→i≠qp→i≠qc→(h.get i).isSome=true→h'.get i=h.get i
 next:h.next≤h'.next
theorem Low.refl (n p qp qc:Nat) (h:Heap):Low n p qp qc h h:=⟨fun _ _ _ _ _ _=>rfl,Nat.le_refl _⟩
theorem Low.trans {n p qp qc:Nat}{a b c:Heap}(h1:Low n p qp qc a b) (h2:Low n p qp qc b c):Low n p qp qc a c :=
 ⟨fun i a1 a2 a3 a4 hs=>by rw [h2.keep i a1 a2 a3 a4 (by rw [h1.keep i a1 a2 a3 a4 hs];exact hs),h1.keep i a1 a2 a3 a4 hs],Nat.le_trans h1.next h2.next⟩
theorem X3 (m:lBq) (k:Int):yo [s0q,iI 0] [(0,1),(1,1)] [str m,iI k]=some (nmV m k):=rfl
theorem StrsB.elem {B:Nat→Prop}{h:Heap}{v:Value}{l:List (lBq)}(hv:StrsB B h v l){i:Nat}{s:lBq}(hi:l[i]? = some s) :
  ∃ id off cells own,zp 1 [v,iI i]=some (pT id off)∧h.get id=some (.blk cells own)∧cells[off]? = some (str s)∧B id:=by
 have hp:=StrsB.plain hv;obtain ⟨id,off,cells,own,e1,e2,e3,_⟩:=hp.elem hi;refine ⟨id,off,cells,own,e1,e2,e3,?_⟩;rcases hv with ⟨rfl,hx⟩ | ⟨id',off',rfl,hx⟩
 ·cases l with
  | nil=>simp at hi
  | cons=>simp at hx
 ·rcases hx with hx | ⟨hb,_⟩
  ·cases l with
   | nil=>simp at hi
   | cons=>simp at hx
  ·have hlt:=(List.getElem?_eq_some_iff.1 hi).1;have:id=id':=by
    simp [zp,hlt] at e1;exact e1.1.symm
   rw [this];exact hb
theorem IsS.cell {v:Value}(h:IsS v):v.cells.toList=[v]∧v.oneCell' = true:=by obtain ⟨_,_,_,rfl⟩:=h;exact ⟨rfl,rfl⟩
theorem Rows.isS {n:Nat}{h:Heap}{l1 l2:List Row}{v:Value}{s:Nat}{xs:List (lVq)}(hR:Rows n h (l1++(v,s,xs)::l2)):IsS v:=OwnS.isS (hR.own (v,s,xs) (by simp))
theorem Src.low {h h' : Heap}{p:Nat}{raw:List Int}(hs:Src h p raw) (hk:∀ i,i≤p→(h.get i).isSome=true→h'.get i=h.get i):Src h' p raw:=by
 obtain ⟨v,h1,h2,h3⟩:=hs;exact ⟨v,by rw [hk p (Nat.le_refl _) (by rw [h1];rfl)];exact h1,SlVB.to (fun id cs own hb hg=>⟨hb,by rw [hk id (Nat.le_of_lt hb) (by rw [hg];rfl)];exact hg⟩) h2,h3⟩
theorem yu8:∀ j:Fin 3,(devNs.getD j.val []).length≤20:=by decide
theorem yl9:∀ j:Fin 2,(resNs.getD j.val []).length≤20:=by decide
theorem bs_nm (m:lBq) (k:Int):yj [s0q,iI 0] [(0,2)] 1 2 [nmV m k]=some ([str m,iI k],fun id=>.slice (some ⟨id,0,none⟩) 1 2):=ui rfl rfl rfl rfl
set_option maxHeartbeats 1000000 in
theorem yn4 {n p q0 qp qc:Nat}{all:Bool}{harts:Nat}(hd:PD n p q0 qp qc){hS:Heap}(hn:n≤hS.next){dl rl:List Nm}{dn rn:List (lBq)}{tasks:List Tsk}{raw:List Int}(hP:PS n p q0 qp qc all hS harts dl dn rl rn tasks raw) (h0:dl=[]) (h0' : dn=[]){k:Nat}(hk:k + 0≤3){N:Nat}{vars:List Nat}{rv0 u6 u7 u8 u9 u10 u11 u12:Value}(R:AExit→lVq→Heap→Prop)
  (hq:∀ h' u6 u7 u8 u9,PS n p q0 qp qc all h' harts (vf devNs 3 k 0 raw).1 ((vf devNs 3 k 0 raw).1.map (·.name)) rl rn tasks (vf devNs 3 k 0 raw).2→Low n p qp qc hS h' → R (.exit 0) [rv0,.bool all,pT q0 0,pT p 0,pT qp 0,pT qc 0,u6,u7,u8,u9,u10,u11,u12] h') :
  LoopW Tryz.prog N vars zw7 [rv0,.bool all,pT q0 0,pT p 0,pT qp 0,pT qc 0,iI ((k:Int) - 1),u7,u8,u9,u10,u11,u12] hS R:=by
 subst h0;subst h0';refine LoopW.down (fun m e h1=>∃ j u6 u7 u8 u9,j + m=k∧e=[rv0,.bool all,pT q0 0,pT p 0,pT qp 0,pT qc 0,iI ((m:Int) - 1),u7,u8,u9,u10,u11,u12]∧PS n p q0 qp qc all h1 harts (vf devNs 3 j 0 raw).1 ((vf devNs 3 j 0 raw).1.map (·.name)) rl rn tasks (vf devNs 3 j 0 raw).2∧Low n p qp qc hS h1) ?_ (m:=k) ⟨0,udq,_,_,_,by omega,rfl,hP,.refl _ _ _ _ _⟩;clear hP;rintro m _ h1 R1 ⟨j,u6,u7,u8,u9,hj,rfl,hP,hL⟩ hR;obtain ⟨hs,gq0,dv,cdv,rv,crv,tv,xs,gp,gc,hRw,hT⟩:=hP;have hn1:=Nat.le_trans hn hL.next;delta zw7;replace hs:=za hs;replace hRw:=za hRw;replace hT:=za hT;replace hL:=za hL;replace hj:=za hj;replace hd:=za hd;replace hn1:=za hn1;replace hq:=za hq;replace hk:=za hk;cases m with
 | zero =>
  have z:¬ (0:Int)≤((0:Nat):Int) - 1:=by decide
  have hjk:j=k:=by have:=hj.h;omega
  subst hjk;have g:=fun a b c d=>hq.h h1 a b c d ⟨hs.h,gq0,dv,cdv,rv,crv,tv,xs,gp,gc,hRw.h,hT.h⟩ hL.h;replace g:=Hid.mk g;clear hR hq gq0 gp gc;simp only [zb,ze,zf, *];exact g.h _ _ _ _
 | succ m =>
  have z:(0:Int)≤((m + 1:Nat):Int) - 1:=by omega
  have hw:IntKind.i64.wrap ((((m + 1:Nat):Int) - 1) - 1)=(m:Int) - 1:=by have:=hj.h;have:=hk.h;rw [zn (by omega) (by omega)];omega
  obtain ⟨d1,d2,d3,d4,d5,d6,d7⟩:=hd.h;simp only [zb,ze,zf, *];refine yc (n:=3) hs.h (by omega) (by omega) _ fun h2 l2 _ hs2=>jr l2 ?_;have hpn2:∀ i,n≤i→i≠p:=fun i hi=>by omega
  have gp2:=l2.keep (i:=qp) (by omega) gp;have gc2:=l2.keep (i:=qc) (by omega) gc;have hR2:=hRw.h.keep fun i hi hsm=>l2.get i (hpn2 i hi) hsm;have hT2:TsCsB (PB n [dv,cdv,rv,crv,tv]) h2 tasks xs:=hT.h.to (l2.toB fun id hb=>⟨hpn2 id hb.1,hb⟩);have hn2:n≤h2.next:=by have:=l2.next;have:=hn1.h;omega
  have hlt:=ya hs.h.in (n:=3) (by omega);obtain ⟨kd,hkd⟩:∃ a,(zh (vf devNs 3 j 0 raw).2 3).1=a:=⟨_,rfl⟩;rw [hkd] at hlt;rw [hkd];have hwk:IntKind.i64.wrap (1 + (kd:Int))=((1 + kd:Nat):Int):=by rw [zn (by omega) (by omega)];omega
  have u3:=bs_3 [100] [101] [102];obtain ⟨q3,h3,eq3,eh3,gq3,lh3⟩:=zj h2 [str [100],str [101],str [102]];have hstr:=u4 (B:=(· ≠ p)) h2 devNs (by have:=hs2.lt;show h2.next≠p;omega) (n:=3) (cells:=[str [100],str [101],str [102]]) rfl rfl;rw [eh3,eq3] at hstr;have gp3:=lh3.get gp2;have gc3:=lh3.get gc2;have hR3:=hR2.keep fun i hi hsm=>lh3.getE i hsm;have hT3:TsCsB (PB n [dv,cdv,rv,crv,tv]) h3 tasks xs:=hT2.to (lh3.toB fun id hb=>hb);have hjl:j < 3:=by have:=hj.h;have:=hk.h;omega
  obtain ⟨ide,off,cells,own,e1,e2,e3,hide⟩:=StrsB.elem hstr (getD_some (l:=devNs) (i:=j) hjl []);obtain ⟨nm,hnm⟩:∃ a,devNs.getD j []=a:=⟨_,rfl⟩;rw [hnm] at e3;have hnlen:nm.length≤20:=by rw [← hnm];exact yu8 ⟨j,hjl⟩
  have ldv:ua [dv]=some (iI (j:Int)):=by
   have:=SlV.len (OwnS.sl (hR3.own (dv,2,(vf devNs 3 j 0 raw).1.map nmC) (by simp)));simpa [qz] using this
  have sz:=zk2 h3 nm ((1 + kd:Nat):Int);have bn:=X3 nm ((1 + kd:Nat):Int);obtain ⟨qd,h4,eqd,eh4,gqd,lh4⟩:=zj h3 [str nm,iI ((1 + kd:Nat):Int)];rw [eh4,eqd] at sz;have gp4:=lh4.get gp3;have gc4:=lh4.get gc3;have hR4:=hR3.keep fun i hi hsm=>lh4.getE i hsm;have hT4:TsCsB (PB n [dv,cdv,rv,crv,tv]) h4 tasks xs:=hT3.to (lh4.toB fun id hb=>hb);have hn4:n≤h4.next:=by have:=lh3.next;have:=lh4.next;omega
  obtain ⟨va,h5,ap5,hR5,k5,n5,nx5⟩:=Rows.push (l1:=[]) (l2:=_) hR4 hn4 (x:=[str nm,iI ((1 + kd:Nat):Int)]) rfl (by omega) (b:=24) (by simp [qz];have:=hj.h;have:=hk.h;omega) (by simp [qz];have:=hj.h;have:=hk.h;omega);have low4:∀ i,i < n→i≠p→(h1.get i).isSome=true→h4.get i=h1.get i:=fun i _ hi hsm=>by
   have e1:=l2.get i hi hsm;have e2:(h2.get i).isSome=true:=by rw [e1];exact hsm
   have e3:=lh3.getE i e2;rw [lh4.getE i (by rw [e3];exact e2),e3,e1]
  have nf1:∀ i,i < n→notOf dv i:=fun i hi=>hR4.notOf (r:=(dv,2,(vf devNs 3 j 0 raw).1.map nmC)) (by simp) (.inl hi);have gp5:h5.get qp=_:=(k5 qp (by rw [gp4];rfl) (nf1 qp d7)).trans gp4;have gc5:h5.get qc=_:=(k5 qc (by rw [gc4];rfl) (nf1 qc d6)).trans gc4;have gd5:h5.get qd=_:=(k5 qd (by rw [gqd];rfl) (hR3.notOf (r:=(dv,2,(vf devNs 3 j 0 raw).1.map nmC)) (by simp) (.inr (by omega)))).trans gqd;have hs4:=(hs2.le lh3).le lh4;have hs5:=hs4.low fun i hi hsm=>k5 i hsm (nf1 i (by omega));have hT5:TsCsB (PB n [va,cdv,rv,crv,tv]) h5 tasks xs:=hT4.to fun id cs own hb hg=>⟨⟨hb.1,fun v hv=>by
   have hx:=n5 id (by rw [hg];rfl);have hy:=hb.2;simp only [List.mem_cons,List.not_mem_nil,or_false] at hv hy;rcases hv with rfl | rfl | rfl | rfl | rfl<;>first | exact hx | exact hy _ (by simp)⟩,by
   rw [k5 id (by rw [hg];rfl) (hb.2 _ (by simp))];exact hg⟩
  obtain ⟨ca1,ca2⟩:=(Rows.isS (l1:=[]) hR5).cell;have st5:=z6 (off:=1) gp5 (by simp) ca1 ca2;obtain ⟨h6,eh6⟩:∃ x_,h5.set qp (.blk ([iI (harts:Int),dv,rv,tv].set 1 va) true)=x_:=⟨_,rfl⟩;rw [eh6] at st5;have st6:∀ i,i≠qp→h6.get i=h5.get i:=fun i hi=>by rw [← eh6];exact Heap.set_getE _ _ _ _ (by simpa using hi)
  have gp6:h6.get qp=some (.blk ([iI (harts:Int),dv,rv,tv].set 1 va) true):=by rw [← eh6];exact Heap.set_getS _ _ _ (by rw [gp5];rfl)
  have gc6:=(st6 qc (by omega)).trans gc5;have hqd:n≤qd:=by have:=lh3.next;omega
  have gd6:=(st6 qd (by omega)).trans gd5;have hs6:=hs5.low fun i hi _=>st6 i (by omega);have hR6:=hR5.keep fun i hi _=>st6 i (by omega);have hT6:TsCsB (PB n [va,cdv,rv,crv,tv]) h6 tasks xs:=hT5.to fun id cs own hb hg=>⟨hb,by rw [st6 id (by have:=hb.1;omega)];exact hg⟩;have hn6:n≤h6.next:=by rw [← eh6];show n≤h5.next;omega
  have ub:=bs_nm nm ((1 + kd:Nat):Int);have ub1:=bs_1 nm;obtain ⟨vb,h7,ap7,hR7,k7,n7,nx7⟩:=Rows.push (l1:=[(va,2,_)]) (l2:=_) hR6 hn6 (x:=[str nm]) rfl (by omega) (b:=16) (by simp [qz];have:=hj.h;have:=hk.h;omega) (by simp [qz];have:=hj.h;have:=hk.h;omega);have nf2:∀ i,i < n→notOf cdv i:=fun i hi=>hR6.notOf (r:=(cdv,1,((vf devNs 3 j 0 raw).1.map (·.name)).map fun s=>[str s])) (by simp) (.inl hi);have gp7:=(k7 qp (by rw [gp6];rfl) (nf2 qp d7)).trans gp6;have gc7:=(k7 qc (by rw [gc6];rfl) (nf2 qc d6)).trans gc6;have hs7:=hs6.low fun i hi hsm=>k7 i hsm (nf2 i (by omega));have hT7:TsCsB (PB n [va,vb,rv,crv,tv]) h7 tasks xs:=hT6.to fun id cs own hb hg=>⟨⟨hb.1,fun v hv=>by
   have hx:=n7 id (by rw [hg];rfl);have hy:=hb.2;simp only [List.mem_cons,List.not_mem_nil,or_false] at hv hy;rcases hv with rfl | rfl | rfl | rfl | rfl<;>first | exact hx | exact hy _ (by simp)⟩,by
   rw [k7 id (by rw [hg];rfl) (hb.2 _ (by simp))];exact hg⟩
  obtain ⟨cb1,cb2⟩:=(Rows.isS (l1:=[(va,2,_)]) hR7).cell;have st7:=z6 (off:=0) gc7 (by simp) cb1 cb2;obtain ⟨h8,eh8⟩:∃ x_,h7.set qc (.blk ([cdv,crv,iI 0,zq,.bool all].set 0 vb) true)=x_:=⟨_,rfl⟩;rw [eh8] at st7;have st8:∀ i,i≠qc→h8.get i=h7.get i:=fun i hi=>by rw [← eh8];exact Heap.set_getE _ _ _ _ (by simpa using hi)
  have gc8:h8.get qc=some (.blk ([cdv,crv,iI 0,zq,.bool all].set 0 vb) true):=by rw [← eh8];exact Heap.set_getS _ _ _ (by rw [gc7];rfl)
  have gp8:=(st8 qp (by omega)).trans gp7;have hs8:=hs7.low fun i hi _=>st8 i (by omega);have hR8:=hR7.keep fun i hi _=>st8 i (by omega);have hT8:TsCsB (PB n [va,vb,rv,crv,tv]) h8 tasks xs:=hT7.to fun id cs own hb hg=>⟨hb,by rw [st8 id (by have:=hb.1;omega)];exact hg⟩;have low8:Low n p qp qc h1 h8:=⟨fun i hi a b c hsm=>by
   have e4:=low4 i hi a hsm;have s4:(h4.get i).isSome=true:=by rw [e4];exact hsm
   have e5:=k5 i s4 (nf1 i hi);have e6:=(st6 i b).trans e5;have s6:(h6.get i).isSome=true:=by rw [e6];exact s4
   rw [st8 i c,k7 i s6 (nf2 i hi),e6,e4],by
   rw [← eh8];show h1.next≤h7.next;have e6:h6.next=h5.next:=by rw [← eh6];rfl
   have:=l2.next;have:=lh3.next;have:=lh4.next;omega⟩
  have gq8:=(low8.keep q0 (by omega) (by omega) (by omega) (by omega) (by rw [gq0];rfl)).trans gq0;have hsn:=Ws devNs 3 j 0 raw;rw [Nat.zero_add,hnm,hkd] at hsn;have hP8:PS n p q0 qp qc all h8 harts (vf devNs 3 (j + 1) 0 raw).1 ((vf devNs 3 (j + 1) 0 raw).1.map (·.name)) rl rn tasks (vf devNs 3 (j + 1) 0 raw).2:=by
   rw [hsn];simp only [List.map_append,List.map_cons,List.map_nil];exact ⟨hs8,gq8,va,vb,rv,crv,tv,xs,gp8,gc8,by simpa using hR8,hT8⟩
  have hL8:=hL.h.trans low8;have e1p:(qp == p)=false:=by simp;omega
  have e2p:(ide == p)=false:=by have h1:ide≠p:=hide;simpa using h1
  clear hide;have pl2:qu true 0 2 [str nm,iI ((1 + kd:Nat):Int)]=some (nmV nm ((1 + kd:Nat):Int)):=rfl;clear low8 low4 hT8 hR8 hs8 hT7 hR7 hs7 hT6 hR6 hs6 hT5 hR5 hs5 hs4 hT4 hR4 hT3 hR3 hT2 hR2 hs2 l2 lh3 lh4 nf1 nf2 k5 k7 n5 n7 st6 st8 hsn hstr hpn2 eh6 eh8 gp8 gc8 gq8 hnm hkd;replace hP8:=za hP8;replace hL8:=za hL8;simp only [zb,aR,aW,ze,zf, *];exact hR.h m _ _ (by omega) ⟨j + 1,udq,_,_,_,by have:=hj.h;omega,rfl,hP8.h,hL8.h⟩
set_option maxHeartbeats 1000000 in
theorem yn3 {n p q0 qp qc:Nat}{all:Bool}{harts:Nat}(hd:PD n p q0 qp qc){hS:Heap}(hn:n≤hS.next){dl rl:List Nm}{dn rn:List (lBq)}{tasks:List Tsk}{raw:List Int}(hP:PS n p q0 qp qc all hS harts dl dn rl rn tasks raw) (h0:rl=[]) (h0' : rn=[]){k:Nat}(hk:k + 0≤2){N:Nat}{vars:List Nat}{rv0 u6 u7 u8 u9 u10 u11 u12:Value}(R:AExit→lVq→Heap→Prop)
  (hq:∀ h' u6 u7 u8 u9,PS n p q0 qp qc all h' harts dl dn (vf resNs 8 k 0 raw).1 ((vf resNs 8 k 0 raw).1.map (·.name)) tasks (vf resNs 8 k 0 raw).2→Low n p qp qc hS h' → R (.exit 2) [rv0,.bool all,pT q0 0,pT p 0,pT qp 0,pT qc 0,u6,u7,u8,u9,u10,u11,u12] h') :
  LoopW Tryz.prog N vars zw6 [rv0,.bool all,pT q0 0,pT p 0,pT qp 0,pT qc 0,u6,u7,iI (k:Int),u9,u10,u11,u12] hS R:=by
 subst h0;subst h0';refine LoopW.down (fun m e h1=>∃ j u6 u7 u8 u9,j + m=k∧e=[rv0,.bool all,pT q0 0,pT p 0,pT qp 0,pT qc 0,u6,u7,iI (m:Int),u9,u10,u11,u12]∧PS n p q0 qp qc all h1 harts dl dn (vf resNs 8 j 0 raw).1 ((vf resNs 8 j 0 raw).1.map (·.name)) tasks (vf resNs 8 j 0 raw).2∧Low n p qp qc hS h1) ?_ (m:=k) ⟨0,_,_,udq,_,by omega,rfl,hP,.refl _ _ _ _ _⟩;clear hP;rintro m _ h1 R1 ⟨j,u6,u7,u8,u9,hj,rfl,hP,hL⟩ hR;obtain ⟨hs,gq0,dv,cdv,rv,crv,tv,xs,gp,gc,hRw,hT⟩:=hP;have hn1:=Nat.le_trans hn hL.next;delta zw6;replace hs:=za hs;replace hRw:=za hRw;replace hT:=za hT;replace hL:=za hL;replace hj:=za hj;replace hd:=za hd;replace hn1:=za hn1;replace hq:=za hq;replace hk:=za hk;cases m with
 | zero =>
  have z:¬ (0:Int) < ((0:Nat):Int):=by decide
  have hjk:j=k:=by have:=hj.h;omega
  subst hjk;have g:=fun a b c d=>hq.h h1 a b c d ⟨hs.h,gq0,dv,cdv,rv,crv,tv,xs,gp,gc,hRw.h,hT.h⟩ hL.h;replace g:=Hid.mk g;clear hR hq gq0 gp gc;simp only [zb,ze,zf, *];exact g.h _ _ _ _
 | succ m =>
  have z:(0:Int) < ((m + 1:Nat):Int):=by omega
  have hw:IntKind.i64.wrap (((m + 1:Nat):Int) - 1)=(m:Int):=by have:=hj.h;have:=hk.h;rw [zn (by omega) (by omega)];omega
  obtain ⟨d1,d2,d3,d4,d5,d6,d7⟩:=hd.h;simp only [zb,ze,zf, *];refine yc (n:=8) hs.h (by omega) (by omega) _ fun h2 l2 _ hs2=>jr l2 ?_;have hpn2:∀ i,n≤i→i≠p:=fun i hi=>by omega
  have gp2:=l2.keep (i:=qp) (by omega) gp;have gc2:=l2.keep (i:=qc) (by omega) gc;have hR2:=hRw.h.keep fun i hi hsm=>l2.get i (hpn2 i hi) hsm;have hT2:TsCsB (PB n [dv,cdv,rv,crv,tv]) h2 tasks xs:=hT.h.to (l2.toB fun id hb=>⟨hpn2 id hb.1,hb⟩);have hn2:n≤h2.next:=by have:=l2.next;have:=hn1.h;omega
  have hlt:=ya hs.h.in (n:=8) (by omega);obtain ⟨kd,hkd⟩:∃ a,(zh (vf resNs 8 j 0 raw).2 8).1=a:=⟨_,rfl⟩;rw [hkd] at hlt;rw [hkd];have hwk:IntKind.i64.wrap (1 + (kd:Int))=((1 + kd:Nat):Int):=by rw [zn (by omega) (by omega)];omega
  have u3:=bs_2 [114,97] [114,98];obtain ⟨q3,h3,eq3,eh3,gq3,lh3⟩:=zj h2 [str [114,97],str [114,98]];have hstr:=u4 (B:=(· ≠ p)) h2 resNs (by have:=hs2.lt;show h2.next≠p;omega) (n:=2) (cells:=[str [114,97],str [114,98]]) rfl rfl;rw [eh3,eq3] at hstr;have gp3:=lh3.get gp2;have gc3:=lh3.get gc2;have hR3:=hR2.keep fun i hi hsm=>lh3.getE i hsm;have hT3:TsCsB (PB n [dv,cdv,rv,crv,tv]) h3 tasks xs:=hT2.to (lh3.toB fun id hb=>hb);have hjl:j < 2:=by have:=hj.h;have:=hk.h;omega
  obtain ⟨ide,off,cells,own,e1,e2,e3,hide⟩:=StrsB.elem hstr (getD_some (l:=resNs) (i:=j) hjl []);obtain ⟨nm,hnm⟩:∃ a,resNs.getD j []=a:=⟨_,rfl⟩;rw [hnm] at e3;have hnlen:nm.length≤20:=by rw [← hnm];exact yl9 ⟨j,hjl⟩
  have ldv:ua [rv]=some (iI (j:Int)):=by
   have:=SlV.len (OwnS.sl (hR3.own (rv,2,(vf resNs 8 j 0 raw).1.map nmC) (by simp)));simpa [qz] using this
  have sz:=zk2 h3 nm ((1 + kd:Nat):Int);have bn:=X3 nm ((1 + kd:Nat):Int);obtain ⟨qd,h4,eqd,eh4,gqd,lh4⟩:=zj h3 [str nm,iI ((1 + kd:Nat):Int)];rw [eh4,eqd] at sz;have gp4:=lh4.get gp3;have gc4:=lh4.get gc3;have hR4:=hR3.keep fun i hi hsm=>lh4.getE i hsm;have hT4:TsCsB (PB n [dv,cdv,rv,crv,tv]) h4 tasks xs:=hT3.to (lh4.toB fun id hb=>hb);have hn4:n≤h4.next:=by have:=lh3.next;have:=lh4.next;omega
  obtain ⟨va,h5,ap5,hR5,k5,n5,nx5⟩:=Rows.push (l1:=[(dv,2,dl.map nmC),(cdv,1,dn.map fun s=>[str s])]) (l2:=_) hR4 hn4 (x:=[str nm,iI ((1 + kd:Nat):Int)]) rfl (by omega) (b:=24) (by simp [qz];have:=hj.h;have:=hk.h;omega) (by simp [qz];have:=hj.h;have:=hk.h;omega);have low4:∀ i,i < n→i≠p→(h1.get i).isSome=true→h4.get i=h1.get i:=fun i _ hi hsm=>by
   have e1:=l2.get i hi hsm;have e2:(h2.get i).isSome=true:=by rw [e1];exact hsm
   have e3:=lh3.getE i e2;rw [lh4.getE i (by rw [e3];exact e2),e3,e1]
  have nf1:∀ i,i < n→notOf rv i:=fun i hi=>hR4.notOf (r:=(rv,2,(vf resNs 8 j 0 raw).1.map nmC)) (by simp) (.inl hi);have gp5:h5.get qp=_:=(k5 qp (by rw [gp4];rfl) (nf1 qp d7)).trans gp4;have gc5:h5.get qc=_:=(k5 qc (by rw [gc4];rfl) (nf1 qc d6)).trans gc4;have gd5:h5.get qd=_:=(k5 qd (by rw [gqd];rfl) (hR3.notOf (r:=(rv,2,(vf resNs 8 j 0 raw).1.map nmC)) (by simp) (.inr (by omega)))).trans gqd;have hs4:=(hs2.le lh3).le lh4;have hs5:=hs4.low fun i hi hsm=>k5 i hsm (nf1 i (by omega));have hT5:TsCsB (PB n [dv,cdv,va,crv,tv]) h5 tasks xs:=hT4.to fun id cs own hb hg=>⟨⟨hb.1,fun v hv=>by
   have hx:=n5 id (by rw [hg];rfl);have hy:=hb.2;simp only [List.mem_cons,List.not_mem_nil,or_false] at hv hy;rcases hv with rfl | rfl | rfl | rfl | rfl<;>first | exact hx | exact hy _ (by simp)⟩,by
   rw [k5 id (by rw [hg];rfl) (hb.2 _ (by simp))];exact hg⟩
  obtain ⟨ca1,ca2⟩:=(Rows.isS (l1:=[(dv,2,dl.map nmC),(cdv,1,dn.map fun s=>[str s])]) hR5).cell;have st5:=z6 (off:=2) gp5 (by simp) ca1 ca2;obtain ⟨h6,eh6⟩:∃ x_,h5.set qp (.blk ([iI (harts:Int),dv,rv,tv].set 2 va) true)=x_:=⟨_,rfl⟩;rw [eh6] at st5;have st6:∀ i,i≠qp→h6.get i=h5.get i:=fun i hi=>by rw [← eh6];exact Heap.set_getE _ _ _ _ (by simpa using hi)
  have gp6:h6.get qp=some (.blk ([iI (harts:Int),dv,rv,tv].set 2 va) true):=by rw [← eh6];exact Heap.set_getS _ _ _ (by rw [gp5];rfl)
  have gc6:=(st6 qc (by omega)).trans gc5;have hqd:n≤qd:=by have:=lh3.next;omega
  have gd6:=(st6 qd (by omega)).trans gd5;have hs6:=hs5.low fun i hi _=>st6 i (by omega);have hR6:=hR5.keep fun i hi _=>st6 i (by omega);have hT6:TsCsB (PB n [dv,cdv,va,crv,tv]) h6 tasks xs:=hT5.to fun id cs own hb hg=>⟨hb,by rw [st6 id (by have:=hb.1;omega)];exact hg⟩;have hn6:n≤h6.next:=by rw [← eh6];show n≤h5.next;omega
  have ub:=bs_nm nm ((1 + kd:Nat):Int);have ub1:=bs_1 nm;obtain ⟨vb,h7,ap7,hR7,k7,n7,nx7⟩:=Rows.push (l1:=[(dv,2,dl.map nmC),(cdv,1,dn.map fun s=>[str s]),(va,2,_)]) (l2:=_) hR6 hn6 (x:=[str nm]) rfl (by omega) (b:=16) (by simp [qz];have:=hj.h;have:=hk.h;omega) (by simp [qz];have:=hj.h;have:=hk.h;omega);have nf2:∀ i,i < n→notOf crv i:=fun i hi=>hR6.notOf (r:=(crv,1,((vf resNs 8 j 0 raw).1.map (·.name)).map fun s=>[str s])) (by simp) (.inl hi);have gp7:=(k7 qp (by rw [gp6];rfl) (nf2 qp d7)).trans gp6;have gc7:=(k7 qc (by rw [gc6];rfl) (nf2 qc d6)).trans gc6;have hs7:=hs6.low fun i hi hsm=>k7 i hsm (nf2 i (by omega));have hT7:TsCsB (PB n [dv,cdv,va,vb,tv]) h7 tasks xs:=hT6.to fun id cs own hb hg=>⟨⟨hb.1,fun v hv=>by
   have hx:=n7 id (by rw [hg];rfl);have hy:=hb.2;simp only [List.mem_cons,List.not_mem_nil,or_false] at hv hy;rcases hv with rfl | rfl | rfl | rfl | rfl<;>first | exact hx | exact hy _ (by simp)⟩,by
   rw [k7 id (by rw [hg];rfl) (hb.2 _ (by simp))];exact hg⟩
  obtain ⟨cb1,cb2⟩:=(Rows.isS (l1:=[(dv,2,dl.map nmC),(cdv,1,dn.map fun s=>[str s]),(va,2,_)]) hR7).cell;have st7:=z6 (off:=1) gc7 (by simp) cb1 cb2;obtain ⟨h8,eh8⟩:∃ x_,h7.set qc (.blk ([cdv,crv,iI 0,zq,.bool all].set 1 vb) true)=x_:=⟨_,rfl⟩;rw [eh8] at st7;have st8:∀ i,i≠qc→h8.get i=h7.get i:=fun i hi=>by rw [← eh8];exact Heap.set_getE _ _ _ _ (by simpa using hi)
  have gc8:h8.get qc=some (.blk ([cdv,crv,iI 0,zq,.bool all].set 1 vb) true):=by rw [← eh8];exact Heap.set_getS _ _ _ (by rw [gc7];rfl)
  have gp8:=(st8 qp (by omega)).trans gp7;have hs8:=hs7.low fun i hi _=>st8 i (by omega);have hR8:=hR7.keep fun i hi _=>st8 i (by omega);have hT8:TsCsB (PB n [dv,cdv,va,vb,tv]) h8 tasks xs:=hT7.to fun id cs own hb hg=>⟨hb,by rw [st8 id (by have:=hb.1;omega)];exact hg⟩;have low8:Low n p qp qc h1 h8:=⟨fun i hi a b c hsm=>by
   have e4:=low4 i hi a hsm;have s4:(h4.get i).isSome=true:=by rw [e4];exact hsm
   have e5:=k5 i s4 (nf1 i hi);have e6:=(st6 i b).trans e5;have s6:(h6.get i).isSome=true:=by rw [e6];exact s4
   rw [st8 i c,k7 i s6 (nf2 i hi),e6,e4],by
   rw [← eh8];show h1.next≤h7.next;have e6:h6.next=h5.next:=by rw [← eh6];rfl
   have:=l2.next;have:=lh3.next;have:=lh4.next;omega⟩
  have gq8:=(low8.keep q0 (by omega) (by omega) (by omega) (by omega) (by rw [gq0];rfl)).trans gq0;have hsn:=Ws resNs 8 j 0 raw;rw [Nat.zero_add,hnm,hkd] at hsn;have hP8:PS n p q0 qp qc all h8 harts dl dn (vf resNs 8 (j + 1) 0 raw).1 ((vf resNs 8 (j + 1) 0 raw).1.map (·.name)) tasks (vf resNs 8 (j + 1) 0 raw).2:=by
   rw [hsn];simp only [List.map_append,List.map_cons,List.map_nil];exact ⟨hs8,gq8,dv,cdv,va,vb,tv,xs,gp8,gc8,by simpa using hR8,hT8⟩
  have hL8:=hL.h.trans low8;have e1p:(qp == p)=false:=by simp;omega
  have e2p:(ide == p)=false:=by have h1:ide≠p:=hide;simpa using h1
  clear hide;have pl2:qu true 0 2 [str nm,iI ((1 + kd:Nat):Int)]=some (nmV nm ((1 + kd:Nat):Int)):=rfl;clear low8 low4 hT8 hR8 hs8 hT7 hR7 hs7 hT6 hR6 hs6 hT5 hR5 hs5 hs4 hT4 hR4 hT3 hR3 hT2 hR2 hs2 l2 lh3 lh4 nf1 nf2 k5 k7 n5 n7 st6 st8 hsn hstr hpn2 eh6 eh8 gp8 gc8 gq8 hnm hkd;replace hP8:=za hP8;replace hL8:=za hL8;simp only [zb,aR,aW,ze,zf, *];exact hR.h m _ _ (by omega) ⟨j + 1,_,_,udq,_,by have:=hj.h;omega,rfl,hP8.h,hL8.h⟩
theorem build_t1 (m:lBq) (a p:Int){v:Value}(hv:IsS v):yo [s0q,.bool false,iI 0,iI 0,iI 0,nSq] [(0,1),(2,1),(3,1),(5,1)] [str m,iI a,iI p,v]=some (tsV m false a p 0 v):=by
 obtain ⟨_,_,_,rfl⟩:=hv;rfl
theorem build_t2 (m:lBq) (a p l:Int){v:Value}(hv:IsS v):yo [s0q,.bool false,iI 0,iI 0,iI 0,nSq] [(0,1),(1,1),(2,1),(3,1),(4,1),(5,1)] [str m,.bool true,iI a,iI p,iI l,v]=some (tsV m true a p l v):=by
 obtain ⟨_,_,_,rfl⟩:=hv;rfl
theorem bs_ts {m:lBq}{b:Bool}{a p l:Int}{v:Value}(hv:IsS v):yj [s0q,.bool false,iI 0,iI 0,iI 0,nSq] [(0,6)] 1 6 [tsV m b a p l v]=some ([str m,.bool b,iI a,iI p,iI l,v],fun id=>.slice (some ⟨id,0,none⟩) 1 6):=by
 obtain ⟨_,_,_,rfl⟩:=hv;exact ui rfl rfl rfl rfl
theorem sco_of {n p:Nat}(hp:p < n){h:Heap}{l:List Row}(hR:Rows n h l){dv rv:Value}{dn rn:List (lBq)}(h1:(dv,1,dn.map fun s=>[str s]) ∈ l) (h2:(rv,1,rn.map fun s=>[str s]) ∈ l) (b1:dn.length≤100) (b2:rn.length≤100) (all:Bool) :
  ScB p h ⟨dn,rn,0,[],all⟩ [dv,rv,iI 0,zq,.bool all] :=
 ⟨dv,rv,zq,rfl,SlVB.to (Heap.toB_id fun id hb=>by have h1:n≤id:=hb;show id≠p;omega) (OwnS.slB (hR.own _ h1)),SlVB.to (Heap.toB_id fun id hb=>by have h1:n≤id:=hb;show id≠p;omega) (OwnS.slB (hR.own _ h2)),SlVB.nil _ _ _,b1,b2,by simp,by simp⟩
set_option maxHeartbeats 1000000 in
theorem yf1 {n p q0 qp qc:Nat}{all:Bool}{harts:Nat}(hd:PD n p q0 qp qc){hS:Heap}(hn:n≤hS.next){dl rl:List Nm}{dn rn:List (lBq)}(bd:dn.length≤100) (br:rn.length≤100){raw:List Int}(hP:PS n p q0 qp qc all hS harts dl dn rl rn [] raw) (hk:harts≤3){N:Nat}{vars:List Nat}{rv0 u6 u7 u8 u9 u11 u12:Value}(R:AExit→lVq→Heap→Prop)
  (hq:∀ h' u10,PS n p q0 qp qc all h' harts dl dn rl rn (wp ⟨dn,rn,0,[],all⟩ harts 0 raw).1 (wp ⟨dn,rn,0,[],all⟩ harts 0 raw).2→Low n p qp qc hS h' → R (.exit 4) [rv0,.bool all,pT q0 0,pT p 0,pT qp 0,pT qc 0,u6,u7,u8,u9,u10,u11,u12] h') :
  LoopW Tryz.prog N vars zw5 [rv0,.bool all,pT q0 0,pT p 0,pT qp 0,pT qc 0,u6,u7,u8,u9,iI 0,u11,u12] hS R:=by
 refine LoopW.upto harts (fun j e h1=>e=[rv0,.bool all,pT q0 0,pT p 0,pT qp 0,pT qc 0,u6,u7,u8,u9,iI (j:Int),u11,u12]∧PS n p q0 qp qc all h1 harts dl dn rl rn (wp ⟨dn,rn,0,[],all⟩ j 0 raw).1 (wp ⟨dn,rn,0,[],all⟩ j 0 raw).2∧Low n p qp qc hS h1) ?_ (Nat.zero_le _) ⟨rfl,hP,.refl _ _ _ _ _⟩;clear hP;rintro j _ h1 R1 hj ⟨rfl,hP,hL⟩ hR;obtain ⟨c,hc⟩:∃ c:Sco,(⟨dn,rn,0,[],all⟩:Sco)=c:=⟨_,rfl⟩;rw [hc] at hP hR hq;obtain ⟨hs,gq0,dv,cdv,rv,crv,tv,xs,gp,gc,hRw,hT⟩:=hP;have hn1:=Nat.le_trans hn hL.next;delta zw5;replace hs:=za hs;replace hRw:=za hRw;replace hT:=za hT;replace hL:=za hL;replace hd:=za hd;replace hn1:=za hn1;replace hq:=za hq;replace hk:=za hk;by_cases hlt:j < harts
 ·have hlt' : (j:Int) < (harts:Int):=by omega
  have hw:IntKind.i64.wrap ((j:Int) + 1)=((j + 1:Nat):Int):=by have:=hk.h;rw [zn (by omega) (by omega)];rfl
  obtain ⟨d1,d2,d3,d4,d5,d6,d7⟩:=hd.h;simp only [zb,aR,ze,zf, *];refine yc (n:=3) hs.h (by omega) (by omega) _ fun h2 l2 _ hs2=>jr l2 ?_;have hpn2:∀ i,n≤i→i≠p:=fun i hi=>by omega
  have gp2:=l2.keep (i:=qp) (by omega) gp;have gc2:=l2.keep (i:=qc) (by omega) gc;have hR2:=hRw.h.keep fun i hi hsm=>l2.get i (hpn2 i hi) hsm;have hn2:n≤h2.next:=by have:=l2.next;have:=hn1.h;omega
  have hlt3:=ya hs.h.in (n:=3) (by omega);obtain ⟨kd,hkd⟩:∃ a,(zh (wp c j 0 raw).2 3).1=a:=⟨_,rfl⟩;obtain ⟨r2,hr2⟩:∃ a,(zh (wp c j 0 raw).2 3).2=a:=⟨_,rfl⟩;rw [hr2] at hs2;rw [hkd] at hlt3;rw [hkd];have hwk:IntKind.i64.wrap (1 + (kd:Int))=((1 + kd:Nat):Int):=by rw [zn (by omega) (by omega)];omega
  have e1p:(qp == p)=false:=by simp;omega
  have e2p:(qc == p)=false:=by simp;omega
  have hsc:=sco_of d3 hR2 (dv:=cdv) (rv:=crv) (dn:=dn) (rn:=rn) (by simp) (by simp) bd br all;rw [hc] at hsc;replace hs2:=za hs2;replace hsc:=za hsc;replace l2:=za l2;replace hR2:=za hR2;replace hn2:=za hn2;simp only [zb,aR,zu, *];refine zc4 3 c (by rw [← hc];simp) r2 h2 p _ _ hs2.h hsc.h fun h3 vb l3 hs3 hvb=>jr l3 ?_;have l13:=l2.h.trans l3;have gp3:=l3.keep (i:=qp) (by omega) gp2;have gc3:=l3.keep (i:=qc) (by omega) gc2;have hR3:=hR2.h.keep fun i hi hsm=>l3.get i (hpn2 i hi) hsm;have hT3:TsCsB (PB n [dv,cdv,rv,crv,tv]) h3 _ xs:=hT.h.to (l13.toB fun id hb=>⟨hpn2 id hb.1,hb⟩);have hB3:StsVB (PB n [dv,cdv,rv,crv,tv]) h3 vb _:=hvb.to (Heap.toB_id fun id hb=>by
   have h1:h2.next≤id:=hb;refine ⟨by have:=hn2.h;omega,fun v hv=>?_⟩;simp only [List.mem_cons,List.not_mem_nil,or_false] at hv;rcases hv with rfl | rfl | rfl | rfl | rfl
   ·exact hR2.h.notOf (r:=(_,2,dl.map nmC)) (by simp) (.inr h1)
   ·exact hR2.h.notOf (r:=(_,1,dn.map fun s=>[str s])) (by simp) (.inr h1)
   ·exact hR2.h.notOf (r:=(_,2,rl.map nmC)) (by simp) (.inr h1)
   ·exact hR2.h.notOf (r:=(_,1,rn.map fun s=>[str s])) (by simp) (.inr h1)
   ·exact hR2.h.notOf (r:=(_,6,xs)) (by simp) (.inr h1))
  have u3:=bs_3 [116,97] [116,98] [116,99];obtain ⟨q4,h4,eq4,eh4,gq4,lh4⟩:=zj h3 [str [116,97],str [116,98],str [116,99]];have hstr:=u4 (B:=(· ≠ p)) h3 tskNs (by have:=hs3.lt;show h3.next≠p;omega) (n:=3) (cells:=[str [116,97],str [116,98],str [116,99]]) rfl rfl;rw [eh4,eq4] at hstr;have hjl:j < 3:=by have:=hk.h;omega
  obtain ⟨ide,off,cells,own,e1,e2,e3,hide⟩:=StrsB.elem hstr (getD_some (l:=tskNs) (i:=j) hjl []);have e3p:(ide == p)=false:=by have h1:ide≠p:=hide;simpa using h1
  clear hide;obtain ⟨nm,hnm⟩:∃ a,tskNs.getD j []=a:=⟨_,rfl⟩;rw [hnm] at e3;have gp4:=lh4.get gp3;have gc4:=lh4.get gc3;have hR4:=hR3.keep fun i hi hsm=>lh4.getE i hsm;have hT4:TsCsB (PB n [dv,cdv,rv,crv,tv]) h4 _ xs:=hT3.to (lh4.toB fun id hb=>hb);have hB4:=hB3.to (B':=PB n [dv,cdv,rv,crv,tv]) (lh4.toB fun id hb=>hb);have hs4:=hs3.le lh4;have hn4:n≤h4.next:=by have:=l3.next;have:=lh4.next;have:=hn2.h;omega
  have low4:∀ i,i < n→i≠p→(h1.get i).isSome=true→h4.get i=h1.get i:=fun i _ hi hsm=>by
   have e1:=l13.get i hi hsm;rw [lh4.getE i (by rw [e1];exact hsm),e1]
  obtain ⟨tk,htk⟩:∃ tk:Tsk,(⟨nm,false,(j:Int),((1 + kd:Nat):Int),0,(kw 3 c r2).1⟩:Tsk)=tk:=⟨_,rfl⟩;obtain ⟨tks,htks⟩:∃ a,(wp c j 0 raw).1=a:=⟨_,rfl⟩;have htl:tks.length=j:=by rw [← htks];exact Qb c j 0 raw
  rw [htks] at hT4;have hB4:StsVB (PB n [dv,cdv,rv,crv,tv]) h4 vb tk.body:=by rw [← htk];exact hB4
  have hb1:=build_t1 nm (j:Int) ((1 + kd:Nat):Int) hB4.isS;have hb2:=bs_ts (m:=nm) (b:=false) (a:=(j:Int)) (p:=((1 + kd:Nat):Int)) (l:=0) hB4.isS;have hnx14:h1.next≤h4.next:=by have:=l13.next;have:=lh4.next;omega
  have hnew1:TsCsB (PB n [dv,cdv,rv,crv,tv]) h4 (tks++[tk]) (xs++[[str tk.name,.bool tk.handler,iI tk.hart,iI tk.prio,iI tk.line,vb]]):=TsCsB.snoc ⟨vb,rfl,hB4⟩ hT4;obtain ⟨va,hA,apA,hRA,kA,nA,nxA⟩:=Rows.push (l1:=[(dv,2,dl.map nmC),(cdv,1,dn.map fun s=>[str s]),(rv,2,rl.map nmC),(crv,1,rn.map fun s=>[str s])]) (l2:=[]) hR4 hn4 (x:=[str tk.name,.bool tk.handler,iI tk.hart,iI tk.prio,iI tk.line,vb]) rfl (by omega) (b:=72) (by rw [hT4.length];omega) (by rw [hT4.length];omega);have nf:∀ i,i < n→notOf tv i:=fun i hi=>hR4.notOf (r:=(tv,6,xs)) (by simp) (.inl hi);have gpA:=(kA qp (by rw [gp4];rfl) (nf qp d7)).trans gp4;have gcA:=(kA qc (by rw [gc4];rfl) (nf qc d6)).trans gc4;have hsA:=hs4.low fun i hi hsm=>kA i hsm (nf i (by omega));have hTA:TsCsB (PB n [dv,cdv,rv,crv,va]) hA (tks++[tk]) (xs++[[str tk.name,.bool tk.handler,iI tk.hart,iI tk.prio,iI tk.line,vb]]):=hnew1.to fun id cs own hb hg=>⟨⟨hb.1,fun v hv=>by
   have hx:=nA id (by rw [hg];rfl);have hy:=hb.2;simp only [List.mem_cons,List.not_mem_nil,or_false] at hv hy;rcases hv with rfl | rfl | rfl | rfl | rfl<;>first | exact hx | exact hy _ (by simp)⟩,by
   rw [kA id (by rw [hg];rfl) (hb.2 _ (by simp))];exact hg⟩
  obtain ⟨ca1,ca2⟩:=(Rows.isS (l1:=[(dv,2,dl.map nmC),(cdv,1,dn.map fun s=>[str s]),(rv,2,rl.map nmC),(crv,1,rn.map fun s=>[str s])]) hRA).cell;have stA:=z6 (off:=3) gpA (by simp) ca1 ca2;obtain ⟨hZ,ehZ⟩:∃ x_,hA.set qp (.blk ([iI (harts:Int),dv,rv,tv].set 3 va) true)=x_:=⟨_,rfl⟩;rw [ehZ] at stA;have stZ:∀ i,i≠qp→hZ.get i=hA.get i:=fun i hi=>by rw [← ehZ];exact Heap.set_getE _ _ _ _ (by simpa using hi)
  have gpZ:hZ.get qp=some (.blk ([iI (harts:Int),dv,rv,tv].set 3 va) true):=by rw [← ehZ];exact Heap.set_getS _ _ _ (by rw [gpA];rfl)
  have gcZ:=(stZ qc (by omega)).trans gcA;have hsZ:=hsA.low fun i hi _=>stZ i (by omega);have hRZ:=hRA.keep fun i hi _=>stZ i (by omega);have hTZ:TsCsB (PB n [dv,cdv,rv,crv,va]) hZ _ _:=hTA.to fun id cs own hb hg=>⟨hb,by rw [stZ id (by have:=hb.1;omega)];exact hg⟩;have lowZ:Low n p qp qc h1 hZ:=⟨fun i hi a b c hsm=>by
   have e4:=low4 i hi a hsm;rw [stZ i b,kA i (by rw [e4];exact hsm) (nf i hi),e4],by
   rw [← ehZ];show h1.next≤hA.next;omega⟩
  have gqZ:=(lowZ.keep q0 (by omega) (by omega) (by omega) (by omega) (by rw [gq0];rfl)).trans gq0;have hsn:=Uj c j 0 raw;rw [Nat.zero_add,hnm,hkd,hr2,htks,htk] at hsn;have hPZ:PS n p q0 qp qc all hZ harts dl dn rl rn (wp c (j + 1) 0 raw).1 (wp c (j + 1) 0 raw).2:=by
   rw [hsn];exact ⟨hsZ,gqZ,dv,cdv,rv,crv,va,_,gpZ,gcZ,by simpa using hRZ,hTZ⟩
  have hLZ:=hL.h.trans lowZ;have apA' : yq 6 72 (h4.alloc (.blk [str nm,.bool false,iI (j:Int),iI ((1 + kd:Nat):Int),iI 0,vb] true)) [tv,.slice (some ⟨h4.next,0,none⟩) 1 6]=some (va,hA):=by
   rw [← htk] at apA;exact apA
  clear low4 lowZ hTZ hRZ hsZ hTA hRA hsA hnew1 hB4 hT4 hR4 hs4 hB3 hT3 hR3 hs3 hvb l3 l13 lh4 nf kA nA stZ hsn hstr hpn2 ehZ gpZ gcZ gqZ hnm hkd htk htks apA;replace hPZ:=za hPZ;replace hLZ:=za hLZ;simp only [zb,aR,aW,ze,zf, *];exact hR.h _ _ hlt ⟨rfl,hPZ.h,hLZ.h⟩
 ·have hlt' : ¬ (j:Int) < (harts:Int):=by omega
  have hjk:j=harts:=by omega
  subst hjk;have g:=fun a=>hq.h h1 a ⟨hs.h,gq0,dv,cdv,rv,crv,tv,xs,gp,gc,hRw.h,hT.h⟩ hL.h;replace g:=Hid.mk g;clear hR hq gq0 gc;simp only [zb,aR,ze,zf, *];exact g.h _
set_option maxHeartbeats 1000000 in
theorem yf2 {n p q0 qp qc:Nat}{all:Bool}{harts:Nat}(hd:PD n p q0 qp qc){hS:Heap}(hn:n≤hS.next){dl rl:List Nm}{dn rn:List (lBq)}(bd:dn.length≤100) (br:rn.length≤100){ts0:List Tsk}{raw:List Int}(hP:PS n p q0 qp qc all hS harts dl dn rl rn ts0 raw) (hk:1≤harts∧harts≤3) (ht0:ts0.length=harts){k:Nat}(hk3:k≤3){N:Nat}{vars:List Nat}{rv0 u6 u7 u8 u9 u10 u12:Value}(R:AExit→lVq→Heap→Prop)
  (hq:∀ h' u11 u12,PS n p q0 qp qc all h' harts dl dn rl rn (ts0++(w9 ⟨dn,rn,0,[],all⟩ harts k 0 raw).1) (w9 ⟨dn,rn,0,[],all⟩ harts k 0 raw).2→Low n p qp qc hS h' → R (.exit 6) [rv0,.bool all,pT q0 0,pT p 0,pT qp 0,pT qc 0,u6,u7,u8,u9,u10,u11,u12] h') :
  LoopW Tryz.prog N vars zw4 [rv0,.bool all,pT q0 0,pT p 0,pT qp 0,pT qc 0,u6,u7,u8,u9,u10,iI (k:Int),u12] hS R:=by
 refine LoopW.down (fun m e h1=>∃ j u12,j + m=k∧e=[rv0,.bool all,pT q0 0,pT p 0,pT qp 0,pT qc 0,u6,u7,u8,u9,u10,iI (m:Int),u12]∧PS n p q0 qp qc all h1 harts dl dn rl rn (ts0++(w9 ⟨dn,rn,0,[],all⟩ harts j 0 raw).1) (w9 ⟨dn,rn,0,[],all⟩ harts j 0 raw).2∧Low n p qp qc hS h1) ?_ (m:=k) ⟨0,_,by omega,rfl,by simpa [w9] using hP,.refl _ _ _ _ _⟩;clear hP;rintro m _ h1 R1 ⟨j,u12,hj,rfl,hP,hL⟩ hR;obtain ⟨c,hc⟩:∃ c:Sco,(⟨dn,rn,0,[],all⟩:Sco)=c:=⟨_,rfl⟩;rw [hc] at hP hR hq;obtain ⟨hs,gq0,dv,cdv,rv,crv,tv,xs,gp,gc,hRw,hT⟩:=hP;have hn1:=Nat.le_trans hn hL.next;delta zw4;replace hs:=za hs;replace hRw:=za hRw;replace hT:=za hT;replace hL:=za hL;replace hd:=za hd;replace hn1:=za hn1;replace hq:=za hq;replace hk:=za hk;replace hj:=za hj;cases m with
 | zero =>
  have z:¬ (0:Int) < ((0:Nat):Int):=by decide
  have hjk:j=k:=by have:=hj.h;omega
  subst hjk;have g:=fun a b=>hq.h h1 a b ⟨hs.h,gq0,dv,cdv,rv,crv,tv,xs,gp,gc,hRw.h,hT.h⟩ hL.h;replace g:=Hid.mk g;clear hR hq gq0 gc gp;simp only [zb,ze,zf, *];exact g.h _ _
 | succ m =>
  have z:(0:Int) < ((m + 1:Nat):Int):=by omega
  have hw:IntKind.i64.wrap (((m + 1:Nat):Int) - 1)=(m:Int):=by have:=hj.h;rw [zn (by omega) (by omega)];omega
  obtain ⟨d1,d2,d3,d4,d5,d6,d7⟩:=hd.h;have hxl:xs.length=harts + j:=by rw [hT.h.length,List.length_append,Z7,ht0]
  have ltv:ua [tv]=some (iI ((harts + j:Nat):Int)):=by
   have:=SlV.len (OwnS.sl (hRw.h.own (tv,6,xs) (by simp)));rw [hxl] at this;exact this
  have hwj:IntKind.i64.wrap (((harts + j:Nat):Int) - (harts:Int))=(j:Int):=by have:=hk.h;have:=hj.h;rw [zn (by omega) (by omega)];omega
  have e1p:(qp == p)=false:=by simp;omega
  have e2p:(qc == p)=false:=by simp;omega
  simp only [zb,aR,ze,zf, *];refine yc (n:=harts) hs.h (by have:=hk.h;omega) (by have:=hk.h;omega) _ fun h2 l2 _ hs2=>jr l2 ?_;have gp2:=l2.keep (i:=qp) (by omega) gp;have gc2:=l2.keep (i:=qc) (by omega) gc;have hlt1:=ya hs.h.in (n:=harts) (by have:=hk.h;omega);obtain ⟨ha,hha⟩:∃ a,(zh (w9 c harts j 0 raw).2 harts).1=a:=⟨_,rfl⟩;obtain ⟨r2,hr2⟩:∃ a,(zh (w9 c harts j 0 raw).2 harts).2=a:=⟨_,rfl⟩;rw [hr2] at hs2;rw [hha] at hlt1;rw [hha];replace hs2:=za hs2;replace l2:=za l2;simp only [zb, *];refine yc (n:=4) hs2.h (by omega) (by omega) _ fun h3 l3 _ hs3=>jr l3 ?_;have gp3:=l3.keep (i:=qp) (by omega) gp2;have gc3:=l3.keep (i:=qc) (by omega) gc2;have hlt2:=ya hs2.h.in (n:=4) (by omega);obtain ⟨kd,hkd⟩:∃ a,(zh r2 4).1=a:=⟨_,rfl⟩;obtain ⟨r3,hr3⟩:∃ a,(zh r2 4).2=a:=⟨_,rfl⟩;rw [hr3] at hs3;rw [hkd] at hlt2;rw [hkd];have l3:=l2.h.trans l3;replace hs3:=za hs3;replace l3:=za l3;simp only [zb, *];refine yc (n:=2) hs3.h (by omega) (by omega) _ fun h5 l5 _ hs5=>jr l5 ?_;have gp5:=l5.keep (i:=qp) (by omega) gp3;have gc5:=l5.keep (i:=qc) (by omega) gc3;have hlt3:=ya hs3.h.in (n:=2) (by omega);obtain ⟨ld,hld⟩:∃ a,(zh r3 2).1=a:=⟨_,rfl⟩;obtain ⟨r5,hr5⟩:∃ a,(zh r3 2).2=a:=⟨_,rfl⟩;rw [hr5] at hs5;rw [hld] at hlt3;rw [hld];have l5:=l3.h.trans l5;have hwk:IntKind.i64.wrap (4 + (kd:Int))=((4 + kd:Nat):Int):=by rw [zn (by omega) (by omega)];omega
  have hwl:IntKind.i64.wrap ((ld:Int) * 4)=((ld * 4:Nat):Int):=by rw [zn (by omega) (by omega)];omega
  have hwm:IntKind.i64.wrap ((j:Int) + ((ld * 4:Nat):Int))=((j + ld * 4:Nat):Int):=by have:=hj.h;rw [zn (by omega) (by omega)];omega
  have hpn2:∀ i,n≤i→i≠p:=fun i hi=>by omega
  have hR5:=hRw.h.keep fun i hi hsm=>l5.get i (hpn2 i hi) hsm;have hn5:n≤h5.next:=by have:=l5.next;have:=hn1.h;omega
  have hsc:=sco_of d3 hR5 (dv:=cdv) (rv:=crv) (dn:=dn) (rn:=rn) (by simp) (by simp) bd br all;rw [hc] at hsc;replace hs5:=za hs5;replace hsc:=za hsc;replace l5:=za l5;replace hR5:=za hR5;replace hn5:=za hn5;clear gp2 gp3 gc2 gc3;simp only [zb,aR,zu, *];refine zc4 2 c (by rw [← hc];simp) r5 h5 p _ _ hs5.h hsc.h fun h6 vb l6 hs6 hvb=>jr l6 ?_;have l16:=l5.h.trans l6;have gp6:=l6.keep (i:=qp) (by omega) gp5;have gc6:=l6.keep (i:=qc) (by omega) gc5;have hR6:=hR5.h.keep fun i hi hsm=>l6.get i (hpn2 i hi) hsm;have hT6:TsCsB (PB n [dv,cdv,rv,crv,tv]) h6 _ xs:=hT.h.to (l16.toB fun id hb=>⟨hpn2 id hb.1,hb⟩);have hB6:StsVB (PB n [dv,cdv,rv,crv,tv]) h6 vb _:=hvb.to (Heap.toB_id fun id hb=>by
   have h1:h5.next≤id:=hb;refine ⟨by have:=hn5.h;omega,fun v hv=>?_⟩;simp only [List.mem_cons,List.not_mem_nil,or_false] at hv;rcases hv with rfl | rfl | rfl | rfl | rfl
   ·exact hR5.h.notOf (r:=(_,2,dl.map nmC)) (by simp) (.inr h1)
   ·exact hR5.h.notOf (r:=(_,1,dn.map fun s=>[str s])) (by simp) (.inr h1)
   ·exact hR5.h.notOf (r:=(_,2,rl.map nmC)) (by simp) (.inr h1)
   ·exact hR5.h.notOf (r:=(_,1,rn.map fun s=>[str s])) (by simp) (.inr h1)
   ·exact hR5.h.notOf (r:=(_,6,xs)) (by simp) (.inr h1))
  have u3:=bs_3 [104,97] [104,98] [104,99];obtain ⟨q4,h4,eq4,eh4,gq4,lh4⟩:=zj h6 [str [104,97],str [104,98],str [104,99]];have hstr:=u4 (B:=(· ≠ p)) h6 hndNs (by have:=hs6.lt;show h6.next≠p;omega) (n:=3) (cells:=[str [104,97],str [104,98],str [104,99]]) rfl rfl;rw [eh4,eq4] at hstr;have hjl:j < 3:=by have:=hj.h;omega
  obtain ⟨ide,off,cells,own,e1,e2,e3,hide⟩:=StrsB.elem hstr (getD_some (l:=hndNs) (i:=j) hjl []);have e3p:(ide == p)=false:=by have h1:ide≠p:=hide;simpa using h1
  clear hide;obtain ⟨nm,hnm⟩:∃ a,hndNs.getD j []=a:=⟨_,rfl⟩;rw [hnm] at e3;have gp4:=lh4.get gp6;have gc4:=lh4.get gc6;have hR4:=hR6.keep fun i hi hsm=>lh4.getE i hsm;have hT4:TsCsB (PB n [dv,cdv,rv,crv,tv]) h4 _ xs:=hT6.to (lh4.toB fun id hb=>hb);have hB4:=hB6.to (B':=PB n [dv,cdv,rv,crv,tv]) (lh4.toB fun id hb=>hb);have hs4:=hs6.le lh4;have hn4:n≤h4.next:=by have:=l6.next;have:=lh4.next;have:=hn5.h;omega
  have low4:∀ i,i < n→i≠p→(h1.get i).isSome=true→h4.get i=h1.get i:=fun i _ hi hsm=>by
   have e1:=l16.get i hi hsm;rw [lh4.getE i (by rw [e1];exact hsm),e1]
  obtain ⟨tk,htk⟩:∃ tk:Tsk,(⟨nm,true,(ha:Int),((4 + kd:Nat):Int),((j + ld * 4:Nat):Int),(kw 2 c r5).1⟩:Tsk)=tk:=⟨_,rfl⟩;obtain ⟨tks,htks⟩:∃ a,ts0++(w9 c harts j 0 raw).1=a:=⟨_,rfl⟩;have htl:tks.length=harts + j:=by rw [← htks,List.length_append,Z7,ht0]
  have htl2:tks.length≤6:=by have:=hk.h;have:=hj.h;omega
  rw [htks] at hT4;have hB4:StsVB (PB n [dv,cdv,rv,crv,tv]) h4 vb tk.body:=by rw [← htk];exact hB4
  have hb1:=build_t2 nm (ha:Int) ((4 + kd:Nat):Int) ((j + ld * 4:Nat):Int) hB4.isS;have hb2:=bs_ts (m:=nm) (b:=true) (a:=(ha:Int)) (p:=((4 + kd:Nat):Int)) (l:=((j + ld * 4:Nat):Int)) hB4.isS;have hnx14:h1.next≤h4.next:=by have:=l16.next;have:=lh4.next;omega
  have hnew1:TsCsB (PB n [dv,cdv,rv,crv,tv]) h4 (tks++[tk]) (xs++[[str tk.name,.bool tk.handler,iI tk.hart,iI tk.prio,iI tk.line,vb]]):=TsCsB.snoc ⟨vb,rfl,hB4⟩ hT4;obtain ⟨va,hA,apA,hRA,kA,nA,nxA⟩:=Rows.push (l1:=[(dv,2,dl.map nmC),(cdv,1,dn.map fun s=>[str s]),(rv,2,rl.map nmC),(crv,1,rn.map fun s=>[str s])]) (l2:=[]) hR4 hn4 (x:=[str tk.name,.bool tk.handler,iI tk.hart,iI tk.prio,iI tk.line,vb]) rfl (by omega) (b:=72) (by rw [hT4.length];omega) (by rw [hT4.length];omega);have nf:∀ i,i < n→notOf tv i:=fun i hi=>hR4.notOf (r:=(tv,6,xs)) (by simp) (.inl hi);have gpA:=(kA qp (by rw [gp4];rfl) (nf qp d7)).trans gp4;have gcA:=(kA qc (by rw [gc4];rfl) (nf qc d6)).trans gc4;have hsA:=hs4.low fun i hi hsm=>kA i hsm (nf i (by omega));have hTA:TsCsB (PB n [dv,cdv,rv,crv,va]) hA (tks++[tk]) (xs++[[str tk.name,.bool tk.handler,iI tk.hart,iI tk.prio,iI tk.line,vb]]):=hnew1.to fun id cs own hb hg=>⟨⟨hb.1,fun v hv=>by
   have hx:=nA id (by rw [hg];rfl);have hy:=hb.2;simp only [List.mem_cons,List.not_mem_nil,or_false] at hv hy;rcases hv with rfl | rfl | rfl | rfl | rfl<;>first | exact hx | exact hy _ (by simp)⟩,by
   rw [kA id (by rw [hg];rfl) (hb.2 _ (by simp))];exact hg⟩
  obtain ⟨ca1,ca2⟩:=(Rows.isS (l1:=[(dv,2,dl.map nmC),(cdv,1,dn.map fun s=>[str s]),(rv,2,rl.map nmC),(crv,1,rn.map fun s=>[str s])]) hRA).cell;have stA:=z6 (off:=3) gpA (by simp) ca1 ca2;obtain ⟨hZ,ehZ⟩:∃ x_,hA.set qp (.blk ([iI (harts:Int),dv,rv,tv].set 3 va) true)=x_:=⟨_,rfl⟩;rw [ehZ] at stA;have stZ:∀ i,i≠qp→hZ.get i=hA.get i:=fun i hi=>by rw [← ehZ];exact Heap.set_getE _ _ _ _ (by simpa using hi)
  have gpZ:hZ.get qp=some (.blk ([iI (harts:Int),dv,rv,tv].set 3 va) true):=by rw [← ehZ];exact Heap.set_getS _ _ _ (by rw [gpA];rfl)
  have gcZ:=(stZ qc (by omega)).trans gcA;have hsZ:=hsA.low fun i hi _=>stZ i (by omega);have hRZ:=hRA.keep fun i hi _=>stZ i (by omega);have hTZ:TsCsB (PB n [dv,cdv,rv,crv,va]) hZ _ _:=hTA.to fun id cs own hb hg=>⟨hb,by rw [stZ id (by have:=hb.1;omega)];exact hg⟩;have lowZ:Low n p qp qc h1 hZ:=⟨fun i hi a b c hsm=>by
   have e4:=low4 i hi a hsm;rw [stZ i b,kA i (by rw [e4];exact hsm) (nf i hi),e4],by
   rw [← ehZ];show h1.next≤hA.next;omega⟩
  have gqZ:=(lowZ.keep q0 (by omega) (by omega) (by omega) (by omega) (by rw [gq0];rfl)).trans gq0;have hsn:=za1 c harts j 0 raw;simp only [Nat.zero_add,hnm,hha,hr2,hkd,hr3,hld,hr5] at hsn;rw [htk] at hsn;have hPZ:PS n p q0 qp qc all hZ harts dl dn rl rn (ts0++(w9 c harts (j + 1) 0 raw).1) (w9 c harts (j + 1) 0 raw).2:=by
   rw [hsn];show PS n p q0 qp qc all hZ harts dl dn rl rn (ts0++((w9 c harts j 0 raw).1++[tk])) (kw 2 c r5).2;rw [← List.append_assoc,htks];exact ⟨hsZ,gqZ,dv,cdv,rv,crv,va,_,gpZ,gcZ,by simpa using hRZ,hTZ⟩
  have hLZ:=hL.h.trans lowZ;have apA' : yq 6 72 (h4.alloc (.blk [str nm,.bool true,iI (ha:Int),iI ((4 + kd:Nat):Int),iI ((j + ld * 4:Nat):Int),vb] true)) [tv,.slice (some ⟨h4.next,0,none⟩) 1 6]=some (va,hA):=by
   rw [← htk] at apA;exact apA
  clear low4 lowZ hTZ hRZ hsZ hTA hRA hsA hnew1 hB4 hT4 hR4 hs4 hB6 hT6 hR6 hs6 hvb l6 l16 lh4 nf kA nA stZ hsn hstr hpn2 ehZ gpZ gcZ gqZ hnm hkd htk htks apA hld hha hr2 hr3 hr5;replace hPZ:=za hPZ;replace hLZ:=za hLZ;simp only [zb,aR,aW,ze,zf, *];exact hR.h m _ _ (by omega) ⟨j + 1,_,by have:=hj.h;omega,rfl,hPZ.h,hLZ.h⟩
theorem cut2 {G T:Prop}(h:G→T) (g:G):T:=h g
abbrev zP:lVq:=[iI 0,nSq,nSq,nSq]
theorem bP (a:Int):yo zP [(0,1)] [iI a]=some (.agg #[iI a,zq,zq,zq]):=rfl
theorem bC (b:Bool):yo [nSq,nSq,iI 0,nSq,.bool false] [(4,1)] [.bool b]=some (.agg #[zq,zq,iI 0,zq,.bool b]):=rfl
theorem bSrc {v:Value}(hv:IsS v):yo [nSq] [(0,1)] [v]=some (.agg #[v]):=by obtain ⟨_,_,_,rfl⟩:=hv;rfl
theorem qb2 {v:Value}(hv:IsS v):Je [.agg #[v]]=some ([v],fun id=>(pT id 0)):=by obtain ⟨_,_,_,rfl⟩:=hv;rfl
theorem st_P (h:Heap) (a:Int):zt 4 (h.alloc (.blk zP true)) [pT h.next 0,.agg #[iI a,zq,zq,zq]]=some (udq,h.alloc (.blk [iI a,zq,zq,zq] true)):=zx rfl rfl rfl rfl
theorem st_C (h:Heap) (b:Bool):zt 5 (h.alloc (.blk [nSq,nSq,iI 0,nSq,.bool false] true)) [pT h.next 0,.agg #[zq,zq,iI 0,zq,.bool b]]=some (udq,h.alloc (.blk [zq,zq,iI 0,zq,.bool b] true)):=zx rfl rfl rfl rfl
theorem SlV.isS {h:Heap}{s:Nat}{v:Value}{xs:List (lVq)}(hv:SlV h s v xs):IsS v:=by
 rcases hv with ⟨rfl,_⟩ | ⟨id,off,rfl,_⟩<;>exact ⟨_,_,_,rfl⟩
theorem SlV.below {h:Heap}{s:Nat}{v:Value}{xs:List (lVq)}(hv:SlV h s v xs):SlVB (· < h.next) h s v xs:=by
 rcases hv with hv | ⟨id,off,hv,hx⟩
 ·exact .inl hv
 ·refine .inr ⟨id,off,hv,hx.imp (fun e=>e) fun ha=>⟨?_,ha⟩⟩;obtain ⟨_,_,hg,_⟩:=ha;exact Heap.lt_of_get hg
theorem Ki {n:Nat}{h:Heap}{l:List Row}(hR:Rows n h l){r:Row}(hr:r ∈ l){t:Value}(ht:sepV r.1 t):SlVB (PB n [t]) h r.2.1 r.1 r.2.2:=by
 rcases OwnS.slB (hR.own r hr) with h1 | ⟨id,off,e,hx⟩
 ·exact .inl h1
 ·refine .inr ⟨id,off,e,hx.imp (fun e=>e) fun ⟨hb,ha⟩=>⟨⟨hb,fun v hv=>?_⟩,ha⟩⟩;rw [List.mem_singleton.1 hv];rcases hR.own r hr with ⟨e2,_⟩ | ⟨id',e2,_⟩
  ·rw [e2] at e;cases e
  ·have e3:=e2.symm.trans e;cases e3;exact ht id _ _ e2
structure Made (n:Nat) (h:Heap) (g:Prg) (d r t:Value) (xs:List (lVq)):Prop where
 hd:SlVB (PB n [t]) h 2 d (g.devs.map nmC)
 hr:SlVB (PB n [t]) h 2 r (g.ress.map nmC)
 ht:OwnS (zw n) h 6 t xs
 hts:TsCsB (PB n [t]) h g.tasks xs
 dl:g.devs.length≤140737488355328
 rl:g.ress.length≤140737488355328
 tl:xs.length≤140737488355328
theorem Made.prc {n:Nat}{h:Heap}{g:Prg}{d r t:Value}{xs:List (lVq)}(hm:Made n h g d r t xs):PrC h g [iI g.harts,d,r,t] :=
 ⟨d,r,t,rfl,⟨hm.hd.plain,hm.dl⟩,⟨hm.hr.plain,hm.rl⟩,xs,hm.ht.sl,hm.tl,hm.hts.plain⟩
structure MadeR (n:Nat) (h:Heap) (g:Prg) (d r t:Value) (xs:List (lVq)):Prop where
 rows:Rows n h [(d,2,g.devs.map nmC),(r,2,g.ress.map nmC),(t,6,xs)]
 hts:TsCsB (PB n [d,r,t]) h g.tasks xs
 dl:g.devs.length≤1000
 rl:g.ress.length≤1000
 tl:xs.length≤1000
theorem MadeR.made {n:Nat}{h:Heap}{g:Prg}{d r t:Value}{xs:List (lVq)}(hm:MadeR n h g d r t xs):Made n h g d r t xs:=by
 have hs:=hm.rows.sep;simp only [List.pairwise_cons] at hs;have s1:=(hs.1 (t,6,xs) (by simp)).1;have s2:=(hs.2.1 (t,6,xs) (by simp)).1;exact ⟨Ki hm.rows (r:=(d,2,g.devs.map nmC)) (by simp) s1,Ki hm.rows (r:=(r,2,g.ress.map nmC)) (by simp) s2,hm.rows.own (t,6,xs) (by simp),hm.hts.to (Heap.toB_id fun id hb=>⟨hb.1,fun v hv=>by rw [List.mem_singleton.1 hv];exact hb.2 t (by simp)⟩),by have:=hm.dl;omega,by have:=hm.rl;omega,by have:=hm.tl;omega⟩
theorem MadeR.prc {n:Nat}{h:Heap}{g:Prg}{d r t:Value}{xs:List (lVq)}(hm:MadeR n h g d r t xs):PrC h g [iI g.harts,d,r,t]:=hm.made.prc
theorem MadeR.to {n:Nat}{h h' : Heap}{g:Prg}{d r t:Value}{xs:List (lVq)}(hm:MadeR n h g d r t xs) (hk:∀ i,n≤i→(h.get i).isSome=true→h'.get i=h.get i):MadeR n h' g d r t xs :=
 ⟨hm.rows.keep hk,hm.hts.to fun id cs own hb hg=>⟨hb,by rw [hk id hb.1 (by rw [hg];rfl)];exact hg⟩,hm.dl,hm.rl,hm.tl⟩
theorem MadeR.weak {n m:Nat}{h:Heap}{g:Prg}{d r t:Value}{xs:List (lVq)}(hm:MadeR n h g d r t xs) (hn:m≤n):MadeR m h g d r t xs :=
 ⟨⟨fun x hx=>(hm.rows.own x hx).weak hn,hm.rows.sep⟩,hm.hts.to (Heap.toB_id fun id hb=>⟨Nat.le_trans hn hb.1,hb.2⟩),hm.dl,hm.rl,hm.tl⟩
theorem PS.made {n p q0 qp qc:Nat}{all:Bool}{h:Heap}{harts:Nat}{dl:List Nm}{dn:List (lBq)}{rl:List Nm}{rn:List (lBq)}{tasks:List Tsk}{raw:List Int}(hP:PS n p q0 qp qc all h harts dl dn rl rn tasks raw) (b1:dl.length≤3) (b2:rl.length≤2) (b3:tasks.length≤6) :
  ∃ d r t xs,h.get qp=some (.blk [iI (harts:Int),d,r,t] true)∧MadeR n h ⟨(harts:Int),dl,rl,tasks⟩ d r t xs:=by
 obtain ⟨hs,_,dv,cdv,rv,crv,tv,xs,gp,gc,hR,hT⟩:=hP;have hx:=hT.length;refine ⟨dv,rv,tv,xs,gp,⟨fun x hx=>hR.own x ?_,hR.sep.sublist ?_⟩,hT.to (Heap.toB_id fun id hb=>⟨hb.1,fun v hv=>hb.2 v ?_⟩),by show dl.length≤_;omega,by show rl.length≤_;omega,by omega⟩
 ·simp only [List.mem_cons,List.not_mem_nil,or_false] at hx;rcases hx with rfl | rfl | rfl<;>simp
 ·exact .cons_cons _ (.cons _ (.cons_cons _ (.cons _ (.cons_cons _ .slnil))))
 ·simp only [List.mem_cons,List.not_mem_nil,or_false] at hv;rcases hv with rfl | rfl | rfl<;>simp
theorem PS.step {n p q0 qp qc:Nat}(hd:PD n p q0 qp qc){all:Bool}{h h' : Heap}{harts:Nat}{dl:List Nm}{dn:List (lBq)}{rl:List Nm}{rn:List (lBq)}{tasks:List Tsk}{raw raw' : List Int}(hP:PS n p q0 qp qc all h harts dl dn rl rn tasks raw) (hl:h.leBut p h') (hs:Src h' p raw'):PS n p q0 qp qc all h' harts dl dn rl rn tasks raw':=by
 obtain ⟨d1,d2,d3,d4,d5,d6,d7⟩:=hd;obtain ⟨_,gq,dv,cdv,rv,crv,tv,xs,gp,gc,hR,hT⟩:=hP;exact ⟨hs,hl.keep (by omega) gq,dv,cdv,rv,crv,tv,xs,hl.keep (by omega) gp,hl.keep (by omega) gc,hR.keep fun i hi hsm=>hl.get i (by omega) hsm,hT.to (hl.toB fun id hb=>⟨by have:=hb.1;omega,hb⟩)⟩
theorem Low.of_but {n p qp qc:Nat}{h h' : Heap}(hl:h.leBut p h'):Low n p qp qc h h':=⟨fun i _ hp _ _ hs=>hl.get i hp hs,hl.next⟩
set_option maxHeartbeats 1000000 in
theorem Prog_c {h:Heap}{v:Value}{raw:List Int}(hv:Ints h v raw) (hin:∀ z ∈ raw,inI z) (all:Bool) (Q:vPq)
  (hq:∀ h' d r t xs,h.le h' → MadeR h.next h' (Ud raw all) d r t xs→Q (.agg #[iI (Ud raw all).harts,d,r,t]) h'):CallW Tryz.prog 11 [v,.bool all] h Q:=by
 obtain ⟨q0,h1,eq0,eh1,gq0,lh1⟩:=zj h zP;obtain ⟨v',hv',hcase⟩:∃ v',Ints h1 v' (raw.take 400)∧((400:Int) < (raw.length:Int)∧jo 1 false true [v,iI 400]=some v' ∨ ¬ (400:Int) < (raw.length:Int)∧v' = v):=by
  by_cases hl:400 < raw.length
  ·obtain ⟨w,e1,e2⟩:=SlV.partHi hv (b:=400) (by simp;omega);refine ⟨w,?_,.inl ⟨by omega,e1⟩⟩;rw [← List.map_take] at e2;exact SlV.mono lh1 e2
  ·refine ⟨v,?_,.inr ⟨by omega,rfl⟩⟩;rw [List.take_of_length_le (by omega)];exact SlV.mono lh1 hv
 have lv:=Ints.len hv;have hvS:=SlV.isS hv';have ub:=bSrc hvS;have bx:=qb2 hvS;have hin' : ∀ z ∈ raw.take 400,inI z:=fun z hz=>hin z (List.mem_of_mem_take hz);have hlen' : (raw.take 400).length≤1000:=by rw [List.length_take];omega
 obtain ⟨p,h2,ep,eh2,gp,lh2⟩:=zj h1 [v'];have hsrc:Src h2 p (raw.take 400):=⟨v',gp,by
  have h3:=SlV.below hv';exact h3.to (lh2.toB fun id hb=>by rw [← ep];exact hb),hin',hlen'⟩
 obtain ⟨raw4,hr4⟩:∃ r4,raw.take 400=r4:=⟨_,rfl⟩;have hgl:Ud raw all=(let s0:=raw4
 let a:=zh s0 3;let nd:=zh a.2 3;let ds:=vf devNs 3 (nd.1 + 1) 0 nd.2;let nr:=zh ds.2 3;let rs:=vf resNs 8 nr.1 0 nr.2;let c:Sco:=⟨ds.1.map (·.name),rs.1.map (·.name),0,[],all⟩;let ts:=wp c (1 + a.1) 0 rs.2;let nh:=zh ts.2 4;let hs:=w9 c (1 + a.1) nh.1 0 nh.2
 ⟨(1 + a.1:Nat),ds.1,rs.1,ts.1++hs.1⟩):=by rw [← hr4];rfl
 rw [hgl] at hq;rw [hr4] at hsrc;have gq2:=lh2.get gq0;have hq0p:=Heap.lt_of_get gq0;rw [ep] at hq0p;have hq0h:h.next=q0:=eq0;clear hv hin hin' hlen' hv' hgl hr4 gp;replace hsrc:=za hsrc;replace lh1:=za lh1;replace lh2:=za lh2;replace gq2:=za gq2;replace hq0p:=za hq0p;replace hq0h:=za hq0h;replace hcase:=za hcase;replace hvS:=za hvS;refine Ks (k:=2) (agg:=true) (size:=4) ok11 rfl rfl rfl fun N=>?_;rw [wn c11 und11q rfl];delta c11;replace hq:=za hq;refine cut2 (G:=?G) ?b ?main
 case b =>
  intro main;rcases hcase.h with ⟨z,e⟩ | ⟨z,rfl⟩
  ·simp only [zb,ze,zf, *];first | done | exact main
  ·simp only [zb,ze,zf, *];first | done | exact main
 case main =>
  clear hcase lv ub bx gq0 eh1 eh2 eq0 ep;refine yc (n:=3) hsrc.h (by omega) (by omega) _ fun h3 l3 _ hs3=>?_;have hlt3:=ya hsrc.h.in (n:=3) (by omega);have gq3:=l3.keep (i:=q0) (by have:=hq0p.h;omega) gq2.h;obtain ⟨a,ha⟩:∃ a,(zh raw4 3).1=a:=⟨_,rfl⟩;obtain ⟨r3,hr3⟩:∃ a,(zh raw4 3).2=a:=⟨_,rfl⟩;simp only [ha,hr3] at hq;rw [ha] at hlt3;rw [hr3] at hs3;rw [ha];have hw:IntKind.i64.wrap (1 + (a:Int))=((1 + a:Nat):Int):=by rw [zn (by omega) (by omega)];omega
  obtain ⟨hn,hhn⟩:∃ k,1 + a=k:=⟨_,rfl⟩;rw [hhn] at hw;simp only [hhn] at hq;have ub:=bP (hn:Int);have uc:=bC all;have hk3:1≤hn∧hn≤3:=by omega
  have sz:=st_P h3 (hn:Int);obtain ⟨qp,h4,eqp,eh4,gqp,lh4⟩:=zj h3 [iI (hn:Int),zq,zq,zq];rw [eh4,eqp] at sz;have sz2:=st_C h4 all;obtain ⟨qc,h5,eqc,eh5,gqc,lh5⟩:=zj h4 [zq,zq,iI 0,zq,.bool all];rw [eh5,eqc] at sz2;have l25:h2.leBut p h5:=(l3.trans (lh4.but p)).trans (lh5.but p);have hs5:=(hs3.le lh4).le lh5;have gp5:=lh5.get gqp;have gq5:=lh5.get (lh4.get gq3);have e1:=hs3.lt;have e2:=lh4.next;have e3:=Heap.lt_of_get gqp;have e4:=Heap.lt_of_get gqc;obtain ⟨n,hn5⟩:∃ n,h5.next=n:=⟨_,rfl⟩;have hd:PD n p q0 qp qc:=⟨by omega,by omega,by omega,hq0p.h,by omega,by omega,by omega⟩;have hP0:PS n p q0 qp qc all h5 hn [] [] [] [] [] r3:=⟨hs5,gq5,zq,zq,zq,zq,zq,[],gp5,gqc,⟨fun r hr=>by
   simp only [List.mem_cons,List.not_mem_nil,or_false] at hr;rcases hr with rfl | rfl | rfl | rfl | rfl<;>exact OwnS.nil _ _ _,by simp [sepV]⟩,rfl⟩
  have hL0:h.leBut p h5:=Heap.leBut.of_le (lh1.h.trans lh2.h) l25;replace hd:=za hd;replace hP0:=za hP0;replace hL0:=za hL0;replace hs5:=za hs5;replace gp5:=za gp5;replace gqc:=za gqc;replace hlt3:=za hlt3;replace hk3:=za hk3;replace hn5:=za hn5;clear hs3 gqp gq3 l3 lh4 lh5 hsrc e2 ha hr3 hhn;simp only [zb,aW,ze,zf, *];refine yc (n:=3) hs5.h (by omega) (by omega) _ fun h6 l6 _ hs6=>?_;have hlt6:=ya hs5.h.in (n:=3) (by omega);have hP6:=hP0.h.step hd.h l6 hs6;have hL6:Low n p qp qc h5 h6:=.of_but l6;obtain ⟨nd,hnd⟩:∃ a,(zh r3 3).1=a:=⟨_,rfl⟩;obtain ⟨r6,hr6⟩:∃ a,(zh r3 3).2=a:=⟨_,rfl⟩;simp only [hnd,hr6] at hq;rw [hnd] at hlt6;rw [hr6] at hP6;rw [hnd];clear hnd hr6 hs6 l6 hP0 hs5 gp5 gqc gq5 gq2;have hn6:n≤h6.next:=by have:=hL6.next;have:=hn5.h;omega
  replace hP6:=za hP6;replace hL6:=za hL6;replace hlt6:=za hlt6;replace hn6:=za hn6;obtain ⟨nz,hnz⟩:∃ z:Int,(nd:Int)=z:=⟨_,rfl⟩;rw [hnz];simp only [zb, *];obtain rfl:nz=((nd + 1:Nat):Int) - 1:=by omega
  refine yn4 (u6:=udq) hd.h hn6.h hP6.h rfl rfl (k:=nd + 1) (by have:=hlt6.h;omega) _ fun h7 u6 u7 u8 u9 hP7 hL7=>?_;obtain ⟨ds,hds⟩:∃ a,(vf devNs 3 (nd + 1) 0 r6).1=a:=⟨_,rfl⟩;obtain ⟨r7,hr7⟩:∃ a,(vf devNs 3 (nd + 1) 0 r6).2=a:=⟨_,rfl⟩;have hdl:ds.length≤3:=by rw [← hds,qz];have:=hlt6.h;omega
  simp only [hds,hr7] at hq hP7;clear hds hr7;have hL7:=hL6.h.trans hL7;have hs7:=hP7.src;clear hP6 hL6 hlt6 hn6;replace hP7:=za hP7;replace hL7:=za hL7;replace hs7:=za hs7;simp only [zb, *];refine yc (n:=3) hs7.h (by omega) (by omega) _ fun h8 l8 _ hs8=>?_;have hlt8:=ya hs7.h.in (n:=3) (by omega);have hP8:=hP7.h.step hd.h l8 hs8;have hL8:=hL7.h.trans (.of_but l8);obtain ⟨nr,hnr⟩:∃ a,(zh r7 3).1=a:=⟨_,rfl⟩;obtain ⟨r8,hr8⟩:∃ a,(zh r7 3).2=a:=⟨_,rfl⟩;simp only [hnr,hr8] at hq;rw [hnr] at hlt8;rw [hr8] at hP8;rw [hnr];have hn8:n≤h8.next:=by have:=hL8.next;have:=hn5.h;omega
  clear hnr hr8 hs8 l8 hP7 hL7 hs7;replace hP8:=za hP8;replace hL8:=za hL8;replace hlt8:=za hlt8;replace hn8:=za hn8;simp only [zb, *];refine yn3 (u8:=udq) hd.h hn8.h hP8.h rfl rfl (k:=nr) (by have:=hlt8.h;omega) _ fun h9 u6 u7 u8 u9 hP9 hL9=>?_;obtain ⟨rs,hrs⟩:∃ a,(vf resNs 8 nr 0 r8).1=a:=⟨_,rfl⟩;obtain ⟨r9,hr9⟩:∃ a,(vf resNs 8 nr 0 r8).2=a:=⟨_,rfl⟩;have hrl:rs.length≤2:=by rw [← hrs,qz];have:=hlt8.h;omega
  simp only [hrs,hr9] at hq hP9;clear hrs hr9;have hL9:=hL8.h.trans hL9;have hn9:n≤h9.next:=by have:=hL9.next;have:=hn5.h;omega
  clear hP8 hL8 hlt8 hn8;replace hP9:=za hP9;replace hL9:=za hL9;replace hn9:=za hn9;replace hdl:=za hdl;replace hrl:=za hrl;simp only [zb, *];refine yf1 hd.h hn9.h (by have:=hdl.h;simpa using (by omega:ds.length≤100)) (by have:=hrl.h;simpa using (by omega:rs.length≤100)) hP9.h hk3.h.2 _ fun h10 u10 hP10 hL10=>?_;obtain ⟨c,hc⟩:∃ c:Sco,(⟨ds.map (·.name),rs.map (·.name),0,[],all⟩:Sco)=c:=⟨_,rfl⟩;rw [hc] at hP10;obtain ⟨ts,hts⟩:∃ a,(wp c hn 0 r9).1=a:=⟨_,rfl⟩;obtain ⟨r10,hr10⟩:∃ a,(wp c hn 0 r9).2=a:=⟨_,rfl⟩;have htl:ts.length=hn:=by rw [← hts,Qb]
  simp only [hc,hts,hr10] at hq hP10;clear hts hr10;have hL10:=hL9.h.trans hL10;have hs10:=hP10.src;clear hP9 hL9 hn9;replace hP10:=za hP10;replace hL10:=za hL10;replace hs10:=za hs10;replace htl:=za htl;replace hc:=za hc;simp only [zb, *];refine yc (n:=4) hs10.h (by omega) (by omega) _ fun h11 l11 _ hs11=>?_;have hlt11:=ya hs10.h.in (n:=4) (by omega);have hP11:=hP10.h.step hd.h l11 hs11;have hL11:=hL10.h.trans (.of_but l11);obtain ⟨nh,hnh⟩:∃ a,(zh r10 4).1=a:=⟨_,rfl⟩;obtain ⟨r11,hr11⟩:∃ a,(zh r10 4).2=a:=⟨_,rfl⟩;simp only [hnh,hr11] at hq;rw [hnh] at hlt11;rw [hr11] at hP11;rw [hnh];have hn11:n≤h11.next:=by have:=hL11.next;have:=hn5.h;omega
  clear hnh hr11 hs11 l11 hP10 hL10 hs10;replace hP11:=za hP11;replace hL11:=za hL11;replace hlt11:=za hlt11;replace hn11:=za hn11;simp only [zb, *];refine yf2 hd.h hn11.h (dn:=ds.map (·.name)) (rn:=rs.map (·.name)) (by have:=hdl.h;simp;omega) (by have:=hrl.h;simp;omega) hP11.h hk3.h htl.h (k:=nh) (by have:=hlt11.h;omega) _ fun h12 u11 u12 hP12 hL12=>?_;rw [hc.h] at hP12;obtain ⟨hs',hhs⟩:∃ a,(w9 c hn nh 0 r11).1=a:=⟨_,rfl⟩;have hhl:hs'.length≤3:=by rw [← hhs,Z7];have:=hlt11.h;omega
  simp only [hhs] at hq hP12;have hL12:=hL11.h.trans hL12;obtain ⟨d,r,t,xs,gp12,hm⟩:=hP12.made hdl.h hrl.h (by rw [List.length_append,htl.h];have:=hk3.h;omega);have gq12:=hP12.q0;have hd':=hd.h;obtain ⟨d1,d2,d3,d4,d5,d6,d7⟩:=hd';have hlZ:h.le (h12.set q0 (.blk [iI (hn:Int),d,r,t] true)):=⟨fun i o ho=>by
   have hi:=Heap.lt_of_get ho;have e0:i < q0:=by have:=hq0h.h;omega
   rw [Heap.set_getE _ _ _ _ (by simp;omega)];have e1:=hL0.h.keep (i:=i) (by omega) ho;rw [hL12.keep i (by omega) (by omega) (by omega) (by omega) (by rw [e1];rfl)];exact e1,by have:=hL0.h.next;have:=hL12.next;show h.next≤h12.next;omega⟩
  have hmZ:MadeR n (h12.set q0 (.blk [iI (hn:Int),d,r,t] true)) _ d r t xs:=hm.to fun i hi _=>Heap.set_getE _ _ _ _ (by simp;omega);have hno:n ≥ h.next:=by have:=hq0h.h;omega
  have stq:zt 4 h12 [pT q0 0,.agg #[iI (hn:Int),d,r,t]]=some (udq,h12.set q0 (.blk [iI (hn:Int),d,r,t] true)):=yz gq12 rfl rfl rfl (by simpa [Value.oneCell'] using ⟨SlV.one hmZ.made.hd.plain,SlV.one hmZ.made.hr.plain,SlV.one hmZ.made.ht.sl⟩);have gqZ:(h12.set q0 (.blk [iI (hn:Int),d,r,t] true)).get q0=_:=Heap.set_getS _ _ _ (by rw [gq12];rfl);obtain ⟨hZ,ehZ⟩:∃ a,h12.set q0 (.blk [iI (hn:Int),d,r,t] true)=a:=⟨_,rfl⟩;rw [ehZ] at hlZ hmZ stq gqZ;have g:=hq.h hZ d r t xs hlZ (hmZ.weak hno);replace g:=Hid.mk g;clear hq hP11 hL11 hP12 hL12 hm hlZ hmZ hno ehZ hL0;simp only [zb,aR,aW,yb, *];exact g.h
end Go.Eng.Sy
namespace Go.Eng
open Go
theorem Vd {s:Nat}:∀ {xs:List (lVq)},(∀ x ∈ xs,x.length=s) → ∀ (i:Nat) (y:lVq),i < xs.length→y.length=s→xs.flatten.take (i * s)++y++xs.flatten.drop (i * s + s)=(xs.set i y).flatten
 | [],_,i,y,h,_=>by simp at h
 | x::xs,hx,0,y,_,hy=>by
  have:=hx x (by simp);subst this;simp
 | x::xs,hx,i + 1,y,h,hy=>by
  have ih:=Vd (fun z (hz:z ∈ xs)=>hx z (List.mem_cons_of_mem _ hz)) i y (by simpa using h) hy;have:=hx x (by simp);subst this;have e:(i + 1) * x.length=x.length + i * x.length:=by rw [Nat.succ_mul,Nat.add_comm]
  rw [List.set_cons_succ,List.flatten_cons,List.flatten_cons,e,Nat.add_assoc,List.take_append,List.drop_append,List.take_of_length_le (by omega),List.drop_eq_nil_of_le (by omega),List.nil_append];rw [show x.length + i * x.length - x.length=i * x.length by omega,show x.length + (i * x.length + x.length) - x.length=i * x.length + x.length by omega,← ih];simp
theorem OwnS.at {h0 h:Heap}{s:Nat}{v:Value}{xs:List (lVq)}(ha:OwnS h0 h s v xs) (hs:s≠1){i:Nat}{x:lVq}(hi:xs[i]? = some x) :
  ∃ id,v = .slice (some ⟨id,0,none⟩) xs.length s∧h0.next≤id∧h.get id=some (.blk xs.flatten true)∧zp s [v,iI (i:Int)]=some ((pT id (i * s)))∧qu true (i * s) s xs.flatten=some (.agg x.toArray):=by
 rcases ha with ⟨_,rfl⟩ | ⟨id,hv,hi0,hg,hx⟩
 ·simp at hi
 ·obtain ⟨h1,h2⟩:=yw hx i x hi;have hlt:i < xs.length:=(List.getElem?_eq_some_iff.1 hi).1;refine ⟨id,hv,hi0,hg,?_,?_⟩
  ·rw [hv];simp [zp,hlt]
  ·simp only [qu];rw [if_pos h1,h2];simp
theorem OwnS.put {h0 h:Heap}{s:Nat}{v:Value}{xs:List (lVq)}{id:Nat}(hv:v = .slice (some ⟨id,0,none⟩) xs.length s) (ha:OwnS h0 h s v xs){i:Nat}(hi:i < xs.length){y:lVq}(hy:y.length=s) (h1:y.all (·.oneCell')=true){u:Value}(hu:u.cells.toList=y) :
  zt s h [pT id (i * s),u]=some (udq,h.set id (.blk (xs.set i y).flatten true))∧OwnS h0 (h.set id (.blk (xs.set i y).flatten true)) s v (xs.set i y):=by
 rcases ha with ⟨_,rfl⟩ | ⟨id',hv',hi0,hg,hx⟩
 ·simp at hi
 ·have e:id' = id:=by rw [hv'] at hv;cases hv;rfl
  subst e;obtain ⟨x,hxi⟩:∃ x,xs[i]? = some x:=⟨_,List.getElem?_eq_getElem hi⟩;obtain ⟨h2,h3⟩:=yw hx i x hxi;constructor
  ·simp only [zt,hg,hu];rw [if_pos ⟨hy,by omega,h1⟩,Vd hx i y hi hy]
  ·refine .inr ⟨id',by rw [hv',List.length_set],hi0,Heap.set_getS _ _ _ (by rw [hg];rfl),fun z hz=>?_⟩;rcases List.mem_or_eq_of_mem_set hz with hz | rfl
   ·exact hx z hz
   ·exact hy
end Go.Eng
namespace Go.Eng.Sy
open Go Go.Eng Go.Proofs
theorem TsCsB.get {B:Nat→Prop}{h:Heap}:∀ {l:List Tsk}{xs:List (lVq)},TsCsB B h l xs → ∀ {i:Nat}{e:Tsk},l[i]? = some e → ∃ x,xs[i]? = some x∧TsCB B h e x
 | [],_,_,i,e,hi=>by simp at hi
 | _::_,_,⟨x,xr,h1,h2,h3⟩,0,e,hi=>by simp at hi;subst hi;exact ⟨x,by rw [h1];rfl,h2⟩
 | _::_,_,⟨x,xr,h1,h2,h3⟩,i + 1,e,hi=>by
  obtain ⟨y,hy,hz⟩:=TsCsB.get h3 (i:=i) (by simpa using hi);exact ⟨y,by rw [h1];simpa using hy,hz⟩
theorem TsCsB.set {B:Nat→Prop}{h:Heap}:∀ {l:List Tsk}{xs:List (lVq)},TsCsB B h l xs → ∀ {i:Nat}{e:Tsk}{x:lVq},TsCB B h e x→TsCsB B h (l.set i e) (xs.set i x)
 | [],_,hx,i,e,x,_=>by rw [show _=[] from hx];rfl
 | _::_,_,⟨y,yr,h1,h2,h3⟩,0,e,x,he=>by rw [h1];exact ⟨x,yr,rfl,he,h3⟩
 | _::_,_,⟨y,yr,h1,h2,h3⟩,i + 1,e,x,he=>by rw [h1];exact ⟨y,yr.set i x,rfl,h2,TsCsB.set h3 he⟩
theorem Made.at {n:Nat}{h:Heap}{g:Prg}{d r t:Value}{xs:List (lVq)}(hm:Made n h g d r t xs){k:Nat}{tk:Tsk}(hk:g.tasks[k]? = some tk) :
  ∃ id v,t = .slice (some ⟨id,0,none⟩) xs.length 6∧n≤id∧h.get id=some (.blk xs.flatten true)∧zp 6 [t,iI (k:Int)]=some ((pT id (k * 6))) ∧
   qu true (k * 6) 6 xs.flatten=some (tsV tk.name tk.handler tk.hart tk.prio tk.line v)∧StsVB (PB n [t]) h v tk.body:=by
 obtain ⟨x,hx,v,rfl,hv⟩:=hm.hts.get hk;obtain ⟨id,e1,e2,e3,e4,e5⟩:=hm.ht.at (by decide) hx;exact ⟨id,v,e1,e2,e3,e4,e5,hv⟩
theorem more_row {B:Nat→Prop}{h:Heap}{v:Value}{body:List St}(hv:StsVB B h v body) (hb:body.length≤1000) (hB:∀ id,h.next≤id→B id) :
  ∃ va ha,yq 7 120 h [zq,v]=some (va,ha)∧h.le ha ∧ ∀ {x:lVq}{s:St},StCB B h s x →
   ∃ vb hb,yq 7 120 (ha.alloc (.blk x true)) [va,.slice (some ⟨ha.next,0,none⟩) 1 7]=some (vb,hb)∧h.le hb∧StsVB B hb vb (body++[s]):=by
 obtain ⟨ys,h1,h2,h3⟩:=hv;have hl:=h3.length;obtain ⟨va,ha,ap,ho,le1,_⟩:=(OwnS.nil h h 7).append (Heap.le.refl h) h1.plain (by omega) (b:=120) (by simp;omega) (by simp;omega);refine ⟨va,ha,ap,le1,fun {x s} hx=>?_⟩;simp only [List.nil_append] at ho;obtain ⟨vb,hb',ap2,ho2,le2,k2,n2,nx2⟩:=ho.append1 le1 hx.ones.1 (by omega) (b:=120) (by omega) (by omega);have ho3:OwnS (zw h.next) hb' 7 vb (ys++[x]):=ho2.weak (Nat.le_refl _);refine ⟨vb,hb',ap2,le2,ys++[x],(OwnS.slB ho3).to (Heap.toB_id fun id hb=>hB id hb),by simp;omega,?_⟩;exact StCsB.snoc (hx.to fun id cs own hb hg=>⟨hb,le2.get hg⟩) (h3.to fun id cs own hb hg=>⟨hb,le2.get hg⟩)
theorem yf (s:List Int){n:Nat}(hn:0 < n):(zh s n).1 < n:=by
 cases s with
 | nil=>exact hn
 | cons z r =>
  show (pick z n).toNat < n;have:pick z n < (n:Int):=Int.tmod_lt_of_pos _ (by omega);omega
theorem Ur (d:Nat) (c:Sco) (s:List Int):(kw d c s).1.length < 4:=by
 rw [zk3,Yc];exact yf s (by omega)
def decF:Nat→Nat→lBq
 | 0,n=>[UInt8.ofNat (48 + n % 10)]
 | f + 1,n=>if 10≤n then decF f (n / 10)++[UInt8.ofNat (48 + n % 10)] else [UInt8.ofNat (48 + n % 10)]
theorem decL_F:∀ (f n:Nat),n < 10 ^ (f + 1)→zr2 n=decF f n
 | 0,n,h=>by rw [zr2,if_neg (by omega)];rfl
 | f + 1,n,h=>by
  rw [zr2,decF];split
  ·rw [decL_F f (n / 10) (by rw [Nat.pow_succ] at h;omega)]
  ·rfl
def varF (k:Nat):lBq:=if 10≤k then namesL.getD (k % 10) []++decF 2 k else namesL.getD (k % 10) []
theorem varF_all:(List.range 300).all (fun k=>zo (varF k))=true:=by kernel_rfl
theorem yk1 {k:Nat}(hk:k < 300):zo (varK k)=true:=by
 have he:varK k=varF k:=by unfold varK varF;rw [decL_F 2 k (by omega)]
 rw [he];exact List.all_eq_true.1 varF_all k (List.mem_range.2 hk)
theorem yk0 (n:Int):zo (varL n)=true:=yk1 (by
 show (pick n 300).toNat < 300;have:pick n 300 < 300:=Int.tmod_lt_of_pos _ (by omega);omega)
theorem ko {any:Bool}{s:List Int}{l:List (lBq)}(hl:∀ m ∈ l,zo m=true):zo (yh any s l).1=true:=by
 unfold yh;split
 ·exact yk0 _
 ·rename_i h;simp only [Bool.or_eq_true,beq_iff_eq,not_or] at h;have:=yf s (n:=l.length) (by omega);show zo (l.getD (zh s l.length).1 [])=true;rw [List.getD_eq_getElem?_getD,List.getElem?_eq_getElem this];exact hl _ (List.getElem_mem _)
structure Sco.good (c:Sco):Prop where
 devs:∀ m ∈ c.devs,zo m=true
 ress:∀ m ∈ c.ress,zo m=true
 held:∀ m ∈ c.held,zo m=true
theorem X7:∀ m ∈ zj8,zo m=true:=by decide
theorem numL_I (s:List Int) (d:Nat):ExI (yf7 s).1 (d + 1):=by
 refine .num _ d ?_;have h1:=yf s (n:=10) (by omega);have h2:=yf (zh s 10).2 (n:=300) (by omega);have h3:=yf (zh (zh s 10).2 300).2 (n:=4294967296) (by omega);have h4:=yf (zh (zh (zh s 10).2 300).2 4294967296).2 (n:=3) (by omega);generalize (zh (zh (zh (zh s 10).2 300).2 4294967296).2 3).1=k at *
 match k,h4 with
 | 0,_=>show (zh s 10).1 < _;omega
 | 1,_=>show (zh (zh s 10).2 300).1 < _;omega
 | 2,_=>exact h3
theorem Vf {c:Sco}(hc:c.good):∀ (d:Nat) (s:List Int),ExI (yd c d s).1 (d + 1)
 | 0,s=>numL_I _ _
 | d + 1,s=>by
  unfold yd;dsimp only;split
  ·exact numL_I _ _
  ·split
   ·exact .var _ _ (ko X7)
   ·split
    ·exact .one _ _ _ (by have:=yf (zh s 8).2 (n:=3) (by omega);omega) (Vf hc d _)
    ·split
     ·exact .idx _ _ _ (ko hc.held) (Vf hc d _)
     ·exact .two _ _ _ _ (by have:=yf (zh s 8).2 (n:=14) (by omega);omega) (Vf hc d _) (Vf hc d _)
theorem ExI.mono:∀ {d d' : Nat}{e:Ex},ExI e d→d≤d' → ExI e d'
 | d,0,e,h,hd=>by cases h<;>omega
 | d,d' + 1,e,h,hd=>by
  cases h with
  | num n d h=>exact .num n d' h
  | var m d h=>exact .var m d' h
  | one o a d h ha=>exact .one o a d' h (ExI.mono ha (by omega))
  | two o a b d h ha hb=>exact .two o a b d' h (ExI.mono ha (by omega)) (ExI.mono hb (by omega))
  | idx m a d h ha=>exact .idx m a d' h (ExI.mono ha (by omega))
inductive StG:St→Nat→Prop
 | set (m:lBq) (a:Ex) (d:Nat) (h:zo m=true) (ha:ExI a 5):StG (.mk 1 m [] 0 [a] [] []) (d + 1)
 | get (m f:lBq) (n:Nat) (d:Nat) (h:zo m=true) (hf:zo f=true) (hn:n≤3):StG (.mk 2 m f n [] [] []) (d + 1)
 | put (m:lBq) (n:Nat) (a:Ex) (d:Nat) (h:zo m=true) (hn:n≤3) (ha:ExI a 5):StG (.mk 3 m [] n [a] [] []) (d + 1)
 | store (m:lBq) (a b:Ex) (d:Nat) (h:zo m=true) (ha:ExI a 5) (hb:ExI b 5):StG (.mk 4 m [] 0 [a,b] [] []) (d + 1)
 | lock (m:lBq) (thn:List St) (d:Nat) (h:zo m=true) (hl:thn.length≤3) (ht:∀ s ∈ thn,StG s d):StG (.mk 5 m [] 0 [] thn []) (d + 1)
 | cond (a:Ex) (thn els:List St) (d:Nat) (ha:ExI a 5) (hl:thn.length≤3) (hl' : els.length≤3) (ht:∀ s ∈ thn,StG s d) (he:∀ s ∈ els,StG s d):StG (.mk 6 [] [] 0 [a] thn els) (d + 1)
 | rep (n:Nat) (thn:List St) (d:Nat) (hn:n≤20) (hl:thn.length≤3) (ht:∀ s ∈ thn,StG s d):StG (.mk 7 [] [] n [] thn []) (d + 1)
 | halt (d:Nat):StG (.mk 8 [] [] 0 [] [] []) (d + 1)
theorem yg0 {c:Sco}(hc:c.good){s:List Int}(h:c.any=true∨c.free < c.ress.length):zo (Z5 c s).1=true:=by
 unfold Z5;split
 ·exact ko hc.ress
 ·rename_i hn;have hf:c.free < c.ress.length:=by rcases h with h | h;exact absurd h hn;exact h
  have:=yf (yh false s c.ress).2 (n:=c.ress.length - c.free) (by omega);show zo (c.ress.getD (c.free + (zh (yh false s c.ress).2 (c.ress.length - c.free)).1) [])=true;rw [List.getD_eq_getElem?_getD,List.getElem?_eq_getElem (by omega)];exact hc.ress _ (List.getElem_mem _)
theorem Sco.good.inSco {c:Sco}(hc:c.good){r:lBq}(hr:zo r=true) (f:Nat):(inSco c r f).good:=⟨hc.devs,hc.ress,fun m hm=>by
 rcases List.mem_append.1 hm with hm | hm
 ·exact hc.held m hm
 ·rw [List.mem_singleton.1 hm];exact hr⟩
theorem Ji {one:List Int→St × List Int}{P:St→Prop}(h1:∀ s,P (one s).1):∀ (n:Nat) (s:List Int),∀ x ∈ (jt one n s).1,P x
 | 0,s,x,hx=>by simp [jt] at hx
 | n + 1,s,x,hx=>by
  simp only [jt,List.mem_cons] at hx;rcases hx with rfl | hx
  ·exact h1 s
  ·exact Ji h1 n _ x hx
theorem yk9 {d:Nat}{c:Sco}(hc:c.good){rec:Option (Sco→List Int→List St × List Int)}(hr:∀ f,rec=some f → ∀ c:Sco,c.good → ∀ s,(f c s).1.length≤3 ∧ ∀ x ∈ (f c s).1,StG x d){loc:lBq}(hl:zo loc=true) (k:Nat) (s:List Int):StG (Yu rec c loc k s).1 (d + 1):=by
 have ex:∀ (e:Nat) (s:List Int),e≤4→ExI (yd c e s).1 5:=fun e s he=>(Vf hc e s).mono (by omega);unfold Yu;split
 ·exact .get _ _ _ _ hl (ko hc.devs) (by have:=yf (yh c.any s c.devs).2 (n:=4) (by omega);omega)
 ·split
  ·exact .put _ _ _ _ (ko hc.devs) (by have:=yf (yh c.any s c.devs).2 (n:=4) (by omega);omega) (ex _ _ (by omega))
  ·split
   ·exact .store _ _ _ _ (ko hc.held) (ex _ _ (by omega)) (ex _ _ (by omega))
   ·split
    ·exact .halt _
    ·split
     ·exact .set _ _ _ hl (ex _ _ (by omega))
     ·rename_i rec';split
      ·rename_i h5;have hn:=yg0 hc (s:=s) h5.2;obtain ⟨a,b⟩:=hr _ rfl (inSco c (Z5 c s).1 (Z5 c s).2.1) (hc.inSco hn _) (Z5 c s).2.2;exact .lock _ _ _ hn a b
      ·split
       ·obtain ⟨a,b⟩:=hr _ rfl c hc (yd c 3 s).2;obtain ⟨a',b'⟩:=hr _ rfl c hc (rec' c (yd c 3 s).2).2;exact .cond _ _ _ _ (ex _ _ (by omega)) a a' b b'
       ·split
        ·obtain ⟨a,b⟩:=hr _ rfl c hc (zh s 5).2;exact .rep _ _ _ (by have:=yf s (n:=5) (by omega);omega) a b
        ·exact .set _ _ _ hl (ex _ _ (by omega))
theorem zc3:∀ (d:Nat) (c:Sco),c.good → ∀ s,(kw d c s).1.length≤3 ∧ ∀ x ∈ (kw d c s).1,StG x (d + 1)
 | 0,c,hc,s=>⟨by have:=Ur 0 c s;omega,Ji (fun s=>yk9 hc (fun f h=>by cases h) (ko X7) _ _) _ _⟩
 | d + 1,c,hc,s=>⟨by have:=Ur (d + 1) c s;omega,Ji (fun s=>yk9 hc (fun f h c hc s=>by cases h;exact zc3 d c hc s) (ko X7) _ _) _ _⟩
theorem zd5 (ns:List (lBq)) (m:Nat) (hm:0 < m):∀ (k j:Nat) (s:List Int) (d:Nm),d ∈ (vf ns m k j s).1 → ∃ i,j≤i∧i < j + k∧d.name=ns.getD i []∧1≤d.n∧d.n≤m
 | 0,j,s,d,h=>by simp [vf] at h
 | k + 1,j,s,d,h=>by
  simp only [vf,List.mem_cons] at h;rcases h with rfl | h
  ·refine ⟨j,by omega,by omega,rfl,?_,?_⟩
   ·show (1:Int)≤((1 + (zh s m).1:Nat):Int);omega
   ·have:=yf s hm;show ((1 + (zh s m).1:Nat):Int)≤m;omega
  ·obtain ⟨i,a,b,c⟩:=zd5 ns m hm k (j + 1) _ d h;exact ⟨i,by omega,by omega,c⟩
structure Tsk.good (t:Tsk):Prop where
 name:zo t.name=true
 hart:0≤t.hart∧t.hart≤3
 prio:1≤t.prio∧t.prio≤7
 line:0≤t.line∧t.line≤(if t.handler then 7 else 0)
 len:t.body.length≤3
 body:∀ s ∈ t.body,StG s 4
theorem StG.mono:∀ {d d' : Nat}{s:St},StG s d→d≤d' → StG s d'
 | d,0,s,h,hd=>by cases h<;>omega
 | d,d' + 1,s,h,hd=>by
  cases h with
  | set m a d h ha=>exact .set m a d' h ha
  | get m f n d h hf hn=>exact .get m f n d' h hf hn
  | put m n a d h hn ha=>exact .put m n a d' h hn ha
  | store m a b d h ha hb=>exact .store m a b d' h ha hb
  | lock m thn d h hl ht=>exact .lock m thn d' h hl fun s hs=>StG.mono (ht s hs) (by omega)
  | cond a thn els d ha hl hl' ht he=>exact .cond a thn els d' ha hl hl' (fun s hs=>StG.mono (ht s hs) (by omega)) fun s hs=>StG.mono (he s hs) (by omega)
  | rep n thn d hn hl ht=>exact .rep n thn d' hn hl fun s hs=>StG.mono (ht s hs) (by omega)
  | halt d=>exact .halt d'
theorem ye1:∀ j:Fin 3,zo (tskNs.getD j.val [])=true:=by decide
theorem yg7:∀ j:Fin 3,zo (hndNs.getD j.val [])=true:=by decide
theorem yh4:∀ j:Fin 3,zo (devNs.getD j.val [])=true:=by decide
theorem ye4:∀ j:Fin 2,zo (resNs.getD j.val [])=true:=by decide
theorem Uk {c:Sco}(hc:c.good):∀ (k j:Nat),j + k≤3 → ∀ (s:List Int),∀ t ∈ (wp c k j s).1,t.good
 | 0,j,_,s,t,h=>by simp [wp] at h
 | k + 1,j,hj,s,t,h=>by
  simp only [wp,List.mem_cons] at h;rcases h with rfl | h
  ·have h1:=yf s (n:=3) (by omega);obtain ⟨a,b⟩:=zc3 3 c hc (zh s 3).2;exact ⟨ye1 ⟨j,by omega⟩,by show (0:Int)≤(j:Int)∧(j:Int)≤3;omega,by show (1:Int)≤((1 + (zh s 3).1:Nat):Int)∧((1 + (zh s 3).1:Nat):Int)≤7;omega,by show (0:Int)≤0∧(0:Int)≤0;omega,a,b⟩
  ·exact Uk hc k (j + 1) (by omega) _ t h
theorem za2 {c:Sco}(hc:c.good){H:Nat}(hH:1≤H∧H≤3):∀ (k j:Nat),j + k≤3 → ∀ (s:List Int),∀ t ∈ (w9 c H k j s).1,t.good
 | 0,j,_,s,t,h=>by simp [w9] at h
 | k + 1,j,hj,s,t,h=>by
  simp only [w9,List.mem_cons] at h;rcases h with rfl | h
  ·have h1:=yf s (n:=H) (by omega);have h2:=yf (zh s H).2 (n:=4) (by omega);have h3:=yf (zh (zh s H).2 4).2 (n:=2) (by omega);obtain ⟨a,b⟩:=zc3 2 c hc (zh (zh (zh s H).2 4).2 2).2;exact ⟨yg7 ⟨j,by omega⟩,by show (0:Int)≤((zh s H).1:Int)∧((zh s H).1:Int)≤3;omega,by show (1:Int)≤((4 + (zh (zh s H).2 4).1:Nat):Int)∧((4 + (zh (zh s H).2 4).1:Nat):Int)≤7;omega,
    by show (0:Int)≤((j + (zh (zh (zh s H).2 4).2 2).1 * 4:Nat):Int)∧((j + (zh (zh (zh s H).2 4).2 2).1 * 4:Nat):Int)≤7;omega,a,fun x hx=>(b x hx).mono (by omega)⟩
  ·exact za2 hc hH k (j + 1) (by omega) _ t h
structure Prg.good (g:Prg):Prop where
 harts:1≤g.harts∧g.harts≤3
 devs:∀ d ∈ g.devs,zo d.name=true∧1≤d.n∧d.n≤3
 ress:∀ d ∈ g.ress,zo d.name=true∧1≤d.n∧d.n≤8
 tasks:∀ t ∈ g.tasks,t.good
 dl:g.devs.length≤3
 rl:g.ress.length≤2
 tl:1≤g.tasks.length∧g.tasks.length≤6
theorem Jk (raw:List Int) (all:Bool):(Ud raw all).good:=by
 unfold Ud;dsimp only;have h1:=yf (raw.take 400) (n:=3) (by omega);generalize zh (raw.take 400) 3=a at *;have h2:=yf a.2 (n:=3) (by omega);generalize zh a.2 3=nd at *;have h3:=zd5 devNs 3 (by omega) (nd.1 + 1) 0 nd.2;have h3l:=qz devNs 3 (nd.1 + 1) 0 nd.2;generalize vf devNs 3 (nd.1 + 1) 0 nd.2=ds at *;have h4:=yf ds.2 (n:=3) (by omega);generalize zh ds.2 3=nr at *;have h5:=zd5 resNs 8 (by omega) nr.1 0 nr.2;have h5l:=qz resNs 8 nr.1 0 nr.2;generalize vf resNs 8 nr.1 0 nr.2=rs at *;have gd:∀ d ∈ ds.1,zo d.name=true∧1≤d.n∧d.n≤3:=fun d hd=>by
  obtain ⟨i,_,b,c,e⟩:=h3 d hd;exact ⟨by rw [c];exact yh4 ⟨i,by omega⟩,e⟩
 have gr:∀ d ∈ rs.1,zo d.name=true∧1≤d.n∧d.n≤8:=fun d hd=>by
  obtain ⟨i,_,b,c,e⟩:=h5 d hd;exact ⟨by rw [c];exact ye4 ⟨i,by omega⟩,e⟩
 have hc:Sco.good ⟨ds.1.map (·.name),rs.1.map (·.name),0,[],all⟩:=⟨fun m hm=>by
  obtain ⟨d,hd,rfl⟩:=List.mem_map.1 hm;exact (gd d hd).1,fun m hm=>by
  obtain ⟨d,hd,rfl⟩:=List.mem_map.1 hm;exact (gr d hd).1,fun m hm=>by simp at hm⟩
 generalize (⟨ds.1.map (·.name),rs.1.map (·.name),0,[],all⟩:Sco)=c at *;have h6:=Uk hc (1 + a.1) 0 (by omega) rs.2;have h6l:=Qb c (1 + a.1) 0 rs.2;generalize wp c (1 + a.1) 0 rs.2=ts at *;have h7:=yf ts.2 (n:=4) (by omega);generalize zh ts.2 4=nh at *;have h8:=za2 hc (H:=1 + a.1) (by omega) nh.1 0 (by omega) nh.2;have h8l:=Z7 c (1 + a.1) nh.1 0 nh.2;generalize w9 c (1 + a.1) nh.1 0 nh.2=hs at *;refine ⟨by show (1:Int)≤((1 + a.1:Nat):Int)∧((1 + a.1:Nat):Int)≤3;omega,gd,gr,fun t ht=>?_,by show ds.1.length≤3;omega,by show rs.1.length≤2;omega,?_⟩
 ·rcases List.mem_append.1 ht with ht | ht
  ·exact h6 t ht
  ·exact h8 t ht
 ·show 1≤(ts.1++hs.1).length∧(ts.1++hs.1).length≤6;rw [List.length_append];omega
theorem W4 {m:lBq}(h:zo m=true):m.length≤20:=by
 cases m with
 | nil=>simp
 | cons b r =>
  simp only [zo,Bool.and_eq_true,decide_eq_true_eq] at h;exact h.1.1.1
theorem Prg.good.ok {g:Prg}(hg:g.good):g.ok:=⟨fun d hd=>by
 have:=hg.devs d hd;exact ⟨by unfold inI;omega,by have:=W4 this.1;omega⟩,fun d hd=>by
 have:=hg.ress d hd;exact ⟨by unfold inI;omega,by have:=W4 this.1;omega⟩⟩
theorem st_PA (h:Heap) (a:Int){d r t:Value}(hd:IsS d) (hr:IsS r) (ht:IsS t):zt 4 (h.alloc (.blk zP true)) [pT h.next 0,.agg #[iI a,d,r,t]]=some (udq,h.alloc (.blk [iI a,d,r,t] true)):=by
 obtain ⟨_,_,_,rfl⟩:=hd;obtain ⟨_,_,_,rfl⟩:=hr;obtain ⟨_,_,_,rfl⟩:=ht;exact zx rfl rfl rfl rfl
theorem yj4 (h:Heap) (m:lBq) (b:Bool) (a p l:Int){v:Value}(hv:IsS v):zt 6 (h.alloc (.blk [s0q,.bool false,iI 0,iI 0,iI 0,nSq] true)) [pT h.next 0,tsV m b a p l v]=some (udq,h.alloc (.blk [str m,.bool b,iI a,iI p,iI l,v] true)):=by
 obtain ⟨_,_,_,rfl⟩:=hv;exact zx rfl rfl rfl rfl
end Go.Eng.Sy
