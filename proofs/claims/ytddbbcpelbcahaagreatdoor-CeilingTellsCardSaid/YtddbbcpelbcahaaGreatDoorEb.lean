/-
  Part of a proof of the laws of layer 09 (ceiling): an order-free machine for the code, and that it is sound.
  Conditions: none.
-/
import Derived.Test.YtddbbcpelbcahaaGreatDoorEa
import Derived.Scope
import Derived.LoopNIn
import Derived.RangeFuncLeaves
import Derived.RangeFuncRecord
import Derived.RangeFuncIn
namespace Go.Eng
open Go
variable {P:Program}{ρ:Ren}{ev:Operand→Value}
structure Src (P:Program) (size:Nat) (x:Value) (w:World) (n:Nat) (news:lVq):Prop where
 len:∀ w2,(Builtin.lenOf x).run P w2 = .ok n w2
 cells:∀ w2:World,w2.heap=w.heap→(Builtin.firstCells size n x).run P w2 = .ok news.toArray w2
theorem src_ok {size:Nat}(hsz:0 < size){h:Heap}{x x' : Value}{news:lVq}(hs:jy size h x=some news) (hx:VR ρ x x'){base:Nat}{G:Nat→Option AObj}{w:World}(hS:Sim base G ρ w) (hG:h.into G) :
  ∃ n news',Src P size x' w n news' ∧ VRs ρ news news' ∧ news.length=n * size∧(∀ c ∈ news,c.oneCell' = true):=by
 unfold jy at hs;split at hs<;>first | (cases hs;done) | skip
 ·cases hs
  have e:=hx.nil_inv;subst e;exact ⟨0,[],⟨fun w2=>by simp [Builtin.lenOf],fun w2 _=>by simp [Builtin.firstCells]⟩,.nil,by simp,by simp⟩
 ·rename_i id o n s;split at hs<;>first | (cases hs;done) | skip
  rename_i hss;subst hss;obtain ⟨l,off',cap,hl,e,hnc,hoff⟩:=hx.slice_inv;subst e;split at hs
  ·rename_i hn;subst hn;cases hs;exact ⟨0,[],⟨fun w2=>by simp [Builtin.lenOf],fun w2 _=>by simp [Builtin.firstCells,loadCells,loadCellsFrom]⟩,.nil,by simp,by simp⟩
  ·rename_i hn;split at hs<;>first | (cases hs;done) | skip
   rename_i cells own hcell;split at hs<;>first | (cases hs;done) | skip
   rename_i hle;cases hs;rcases hoff with ⟨rfl,hfit⟩ | ⟨h0,_⟩
   ·obtain ⟨cs,el,fz,h1,h2,h3,h4,h5,h6⟩:=Zu (hS.obj id _ l (hG id _ hcell) hl);have hb:(o + l.sh) + n * s≤cs.size:=by omega
    refine ⟨n,(cs.toList.drop (o + l.sh)).take (n * s),⟨fun w2=>by simp [Builtin.lenOf],fun w2 hw2=>?_⟩,?_,by simp;omega,fun c hc=>h5 c (List.mem_of_mem_drop (List.mem_of_mem_take hc))⟩
    ·simp only [Builtin.firstCells];exact kq (by rw [hw2];exact h1) hb
    ·have h7:=(h4.drop o).take (n * s);have:((((cs.toList.drop l.sh).take cells.length).drop o).take (n * s))=(cs.toList.drop (o + l.sh)).take (n * s):=by
      rw [List.drop_take,List.drop_drop,List.take_take];rw [Nat.min_eq_left (by omega),Nat.add_comm l.sh o]
     rw [this] at h7;exact h7
   ·exact absurd h0 hn
 ·rename_i b;split at hs<;>first | (cases hs;done) | skip
  rename_i h1;subst h1;cases hs;have e:=hx.str;subst e;refine ⟨b.size,_,⟨fun w2=>by simp [Builtin.lenOf],fun w2 _=>?_⟩,VRs.plain (fun v hv=>?_),by simp,fun c hc=>?_⟩
  ·simp [Builtin.firstCells,← Array.toList_inj]
  ·obtain ⟨x,_,rfl⟩:=List.mem_map.1 hv;rfl
  ·obtain ⟨x,_,rfl⟩:=List.mem_map.1 hc;rfl
theorem X4 {t u ty e:TypeId}{s:Nat}(ht:P.underlying t=some (.slice e)) (hu:(∃ f,P.underlying u=some (.slice f))∨P.underlying u=some .string) (hs:sizeOf? P e=some s)
  {x:Value}{w:World}{n:Nat}{news:lVq}(hx:Src P s x w n news) (p:Option Addr) (sLen sCap:Nat) (hr:sLen + n≤sCap) :
  (Builtin.append_ #[t,u] ty #[.slice p sLen sCap,x]).run P w=(match p with
   | some a=>((storeCells (a.add (sLen * s)) news).run P w).andThen fun _ w'=>.ok (.slice (some a) (sLen + n) sCap) w'
   | none=>.ok (.slice none (sLen + n) sCap) w):=by
 have hc:=hx.cells w rfl;rcases hu with ⟨f,hu⟩ | hu<;>cases p<;>simp [Builtin.append_,run_underlying ht,run_underlying hu,yv hs,hx.len,hr,hc]
theorem yd0 {t u ty e:TypeId}{s b:Nat}(ht:P.underlying t=some (.slice e)) (hu:(∃ f,P.underlying u=some (.slice f))∨P.underlying u=some .string) (hs:sizeOf? P e=some s) (hb:bytesOf? P e=some b)
  {zv:Value}(hz:∀ w,(zeroValue e).run P w = .ok zv w)
  {x:Value}{w:World}{n:Nat}{news:lVq}(hx:Src P s x w n news) (p:Option Addr) (sLen sCap:Nat) (olds:lVq) (ho:(Builtin.firstCells s sLen (.slice p sLen sCap)).run P w.drew = .ok olds.toArray w.drew)
  (hg:sCap < sLen + n) (h63:sLen + n≤9223372036854775807) (hfit:Builtin.nextslicecap (sLen + n) sCap * b≤281474976710656) :
  (Builtin.append_ #[t,u] ty #[.slice p sLen sCap,x]).run P w =
   .ok (.slice (some ⟨w.heap.size,0,none⟩) (sLen + n) (grownCap w (sLen + n) sCap e))
    (w.drew.alloc (.cells (olds.toArray++news.toArray++Builtin.zeroCells zv.cells (grownCap w (sLen + n) sCap e - (sLen + n))) e)):=by
 have hc:=hx.cells w.drew rfl;have hn:¬ (sLen + n≤sCap):=by omega
 have h63' : ¬ (9223372036854775807 < ((sLen:Int) + (n:Int))):=by omega
 have h48' : ¬ (281474976710656 < Builtin.nextslicecap (sLen + n) sCap * b):=by omega
 have hbi:∃ i,P.info? e=some i∧i.bytes=b:=by
  unfold bytesOf? at hb;cases hi:P.info? e with
  | none=>rw [hi] at hb;cases hb
  | some i=>rw [hi] at hb;cases hb;exact ⟨i,rfl,rfl⟩
 obtain ⟨i,hi,hib⟩:=hbi;subst hib;have hti:∀ w,(typeInfo e).run P w = .ok i w:=fun w=>by simp [typeInfo,hi]
 rcases hu with ⟨f,hu⟩ | hu <;>
  (
   simp [Builtin.append_,run_underlying ht,run_underlying hu,yv hs,hx.len,hn,h63',h48',hti,Question.forced,ho,hc,hz,newRow,grownCap]
   congr 2
   apply Array.ext';simp [List.append_assoc])
theorem Jy {a n s:Nat}(hs:0 < s) (h:a=n * s):a / s=n:=by rw [h];exact Nat.mul_div_cancel _ hs
theorem qb5 {t u ty e:TypeId}{xs xx:Operand}{s b:Nat}{z:lVq}(ht:P.underlying t=some (.slice e)) (hu:(∃ f,P.underlying u=some (.slice f))∨P.underlying u=some .string)
  (hs:sizeOf? P e=some s) (hb:bytesOf? P e=some b) (hz:zero? P e=some z) (hzl:z.length=s) (hs0:0 < s)
  {vs:lVq}(hv:VRs ρ vs ([xs,xx].map ev)){base:Nat}{G:Nat→Option AObj}{w:World}(hS:Sim base G ρ w){h h' : Heap}(hG:h.into G)
  {v:Value}(hw:yq s b h vs=some (v,h')) (hfr:Fresh ρ h.next h'.next) :
  ∃ v' ρ' w',(Builtin.append_ #[t,u] ty #[ev xs,ev xx]).run P w = .ok v' w' ∧ StepOk base G ρ w h h' v v' ρ' w':=by
 obtain ⟨a,x,rfl,ha,hx⟩:=VRs.two_r hv;obtain ⟨zv,hz1,hz2,hz3,hz4⟩:=kh hz;have hzs:zv.cells.size=s:=by rw [← hzl,← hz2];simp
 simp only [yq] at hw;split at hw<;>first | (cases hw;done) | skip
 rename_i news hnews;obtain ⟨n,news',hsrc,hrel,hlen,hone⟩:=src_ok (P:=P) hs0 hnews hx hS hG;have hlen' : news'.length=n * s:=by rw [← hrel.length];exact hlen
 have hdiv:=Jy hs0 hlen
 -- a new block
 have grown:∀ (p:Option Addr) (sLen sCap:Nat) (olds olds' : lVq) (h0:Heap),ev xs = .slice p sLen sCap→(Builtin.firstCells s sLen (.slice p sLen sCap)).run P w.drew = .ok olds'.toArray w.drew →
   VRs ρ olds olds' → (∀ c ∈ olds,c.oneCell' = true)→olds.length=sLen * s→sCap < sLen + n→sLen + n≤9223372036854775807→(sLen + n) * b≤140737488355328→h0.next=h.next →
   ∀ G0:Nat→Option AObj,Sim base G0 ρ w→(∀ id,vv (h0.alloc (.blk (olds++news) true)) G id=vl G0 h.next (.blk (olds++news) true) id)→Fresh ρ h.next (h.next + 1) →
   ∃ v' ρ' w',(Builtin.append_ #[t,u] ty #[ev xs,ev xx]).run P w = .ok v' w' ∧ StepOk base G ρ w h (h0.alloc (.blk (olds++news) true)) (.slice (some ⟨h.next,0,none⟩) (sLen + n) s) v' ρ' w':=by
  intro p sLen sCap olds olds' h0 hp hold hro hoo hol hcap h63 hbytes hn0 G0 hS0 hov hfr1;have hcapge:=grownCap_ge w (sLen + n) sCap e;have hrun:=yd0 (P:=P) (ty:=ty) ht hu hs hb hz1 hsrc p sLen sCap olds' hold hcap h63 (growslice_fits hcap hbytes);rw [← hp] at hrun;have hid:ρ h.next=none:=hfr1 _ (Nat.le_refl _) (by omega);let cs:Array Value:=olds'.toArray++news'.toArray++Builtin.zeroCells zv.cells (grownCap w (sLen + n) sCap e - (sLen + n));have hcs:cs.size=grownCap w (sLen + n) sCap e * s:=by
   have e1:olds'.length=sLen * s:=by rw [← hro.length];exact hol
   simp only [cs,Array.size_append,List.size_toArray,size_zeroCells,hzs,e1,hlen',← Nat.add_mul]
   congr 1;omega
  have hsim:=Wu (hS0.heap (w':=w.drew) rfl) hid (cells:=olds++news) (cs:=cs) e (by rw [hcs,List.length_append,hol,hlen,← Nat.add_mul];exact Nat.mul_le_mul_right _ hcapge) (fun i v hv=>by
   obtain ⟨v',h1,h2⟩:=(hro.append hrel).get i v hv;refine ⟨v',?_,h2,?_⟩
   ·have hi:=(List.getElem?_eq_some_iff.1 h1).1;have:cs=(olds' ++ news').toArray++Builtin.zeroCells zv.cells (grownCap w (sLen + n) sCap e - (sLen + n)):=by
     apply Array.ext';simp [cs]
    rw [this,Array.getElem?_append_left (by simpa using hi)];simpa using h1
   ·have hm:=List.mem_of_getElem? hv;rcases List.mem_append.1 hm with hm | hm
    ·exact hoo v hm
    ·exact hone v hm)
  refine ⟨_,_,_,hrun,?_,?_,Sim.congr hsim.1 hov,?_⟩
  ·simp only [Heap.next_alloc,hn0];exact Agree.put _ _ _
  ·exact .slice h.next 0 0 (sLen + n) s _ ⟨w.heap.size,0,cs.size⟩ (by simp [Ren.put]) hcapge (.inl ⟨rfl,by simp [hcs]⟩)
  ·exact ⟨hsim.2.size,hsim.2.low,hsim.2.tape,hsim.2.os,hsim.2.output,hsim.2.froz⟩
 split at hw
 ·rename_i hz0;have hn:n=0:=by
   have:n * s=0:=by rw [← hlen];exact hz0
   rcases Nat.mul_eq_zero.1 this with h | h<;>omega
  subst hn;have hne:news' = []:=List.eq_nil_of_length_eq_zero (by simpa using hlen');subst hne;split at hw<;>first | (cases hw;done) | skip
  rename_i p k c;cases hw;have hsh:∃ p' c',ev xs = .slice p' k c' ∧ k≤c':=by
   generalize ev xs=y at *;cases ha with
   | same _ h =>
    cases p with
    | none=>unfold Value.plain at h;split at h<;>first | (rename_i e1;cases e1;exact ⟨_,_,rfl,Nat.le_refl _⟩) | (rename_i e1;cases e1) | cases h
    | some p=>simp [Value.plain] at h
   | slice id off off' len s cap l h hl ho=>exact ⟨_,_,rfl,hl⟩
   | clip=>exact ⟨_,_,rfl,Nat.le_refl _⟩
  obtain ⟨p',c',e1,hkc⟩:=hsh;have hrun:=X4 (P:=P) (ty:=ty) ht hu hs hsrc p' k c' (by omega);refine ⟨ev xs,ρ,w,?_,Agree.refl _ _ _,ha,Sim.congr hS (y0 hG),WStep.refl _ _⟩;rw [e1,hrun];cases p' <;> simp [storeCells]
 ·rename_i hne;have hn:0 < n:=Nat.pos_of_ne_zero fun e=>hne (by rw [hlen,e];simp);split at hw<;>first | (cases hw;done) | skip
  ·split at hw<;>first | (cases hw;done) | skip
   rename_i hcond;rw [hdiv] at hcond hw;cases hw;have e1:=ha.nil_inv;have:=grown none 0 0 [] [] h e1 (by simp [Builtin.firstCells]) .nil (by simp) (by simp) (by omega) (by omega) (by simpa using hcond.1) rfl G hS (wt hG _) hfr;simpa using this
  ·rename_i id o m k s';split at hw<;>first | (cases hw;done) | skip
   rename_i cells own hcell;split at hw<;>first | (cases hw;done) | skip
   rename_i hcond;obtain ⟨rfl,hcl,hbytes,h63⟩:=hcond;rw [hdiv] at hbytes h63 hw;cases hw;obtain ⟨l,off',hl,e1,hoff⟩:=ha.clip_inv;have hGi:=hG id _ hcell;obtain ⟨cs,el,fz,h1,h2,h3,h4,h5,h6⟩:=Zu (hS.obj id _ l hGi hl);have hlen1:((cells.drop o).take (k * s')).length=k * s':=by rw [List.length_take,List.length_drop];omega
   have hold:∃ olds',(Builtin.firstCells s' k (.slice (some ⟨l.b,off',none⟩) k k)).run P w.drew = .ok (List.toArray olds') w.drew∧VRs ρ ((cells.drop o).take (k * s')) olds':=by
    rcases hoff with ⟨rfl,hfit⟩ | rfl
    ·refine ⟨((cs.toList.drop l.sh).drop o).take (k * s'),?_,?_⟩
     ·simp only [Builtin.firstCells];have:=kq (P:=P) (w:=w.drew) (b:=l.b) (o:=o + l.sh) (n:=k * s') (cs:=cs) (el:=el) (fz:=fz) h1 (by omega);rw [this,List.drop_drop,Nat.add_comm l.sh o]
     ·have h7:=(h4.drop o).take (k * s');rw [List.drop_take,List.take_take] at h7;rw [show min (k * s') (cells.length - o)=k * s' by omega] at h7;exact h7
    ·exact ⟨[],by simp [Builtin.firstCells,loadCells,loadCellsFrom],by simpa using VRs.nil⟩
   obtain ⟨olds',hold,hro⟩:=hold;exact grown (some ⟨l.b,off',none⟩) k k _ olds' h e1 hold hro (fun c hc=>h5 c (List.mem_of_mem_drop (List.mem_of_mem_take hc))) hlen1 (by omega) (by omega) hbytes rfl G hS (wt hG _) hfr
  ·rename_i id k s';split at hw<;>first | (cases hw;done) | skip
   rename_i cells hcell;split at hw<;>first | (cases hw;done) | skip
   rename_i hcond;obtain ⟨rfl,hcl,hbytes,h63⟩:=hcond;rw [hdiv] at hbytes h63 hw;cases hw;obtain ⟨l,off',cap,hl,e1,hkc,hoff⟩:=ha.slice_inv;have hGi:=hG id _ hcell;have hobj:=hS.obj id _ l hGi hl;obtain ⟨cs,el,fz,h1,h2,h3,h4,h5,h6⟩:=Zu hobj;obtain ⟨hsh,hfz,hbase⟩:=h6 rfl
   try cases hfz
   have hlt:=Heap.lt_of_get hcell;have hid:ρ h.next=none:=hfr _ (Nat.le_refl _) (by simp);have hov:∀ o:AObj,∀ i,vv ((h.set id .dead).alloc o) G i=vl (vl G id .dead) h.next o i:=fun o i=>by
    have:=y0 hG i;unfold vv vl at *;rw [Heap.get_alloc,Heap.get_set];simp only [Heap.next_set];by_cases e2:i=h.next
    ·simp [e2]
    ·by_cases e3:i=id
     ·subst e3;simp [e2,hlt]
     ·simp [e2,e3,this]
   by_cases hroom:k + n≤cap
   · -- in place
    rcases hoff with ⟨rfl,hfit⟩ | ⟨_,hc0⟩
    case inr=>omega
    rw [hsh] at e1 hfit h3 h4;simp only [Nat.zero_add,List.drop_zero,Nat.add_zero] at e1 hfit h3 h4;have hks:(k + n) * s' ≤ cap * s':=Nat.mul_le_mul_right _ hroom;rw [Nat.add_mul] at hks;have hone' : ∀ c ∈ news',c.oneCell' = true:=fun c hc=>by
     obtain ⟨i,hi⟩:=List.mem_iff_getElem?.1 hc;have hil:i < news.length:=by rw [hrel.length];exact (List.getElem?_eq_some_iff.1 hi).1
     obtain ⟨c',hc',hr⟩:=hrel.get i _ (List.getElem?_eq_getElem hil);rw [hi] at hc';cases hc';rw [VR.oneCell hr];exact hone _ (List.getElem_mem hil)
    have hst:=run_storeCells_at P l.b (k * s') el news' 0 cs w h1 (by rw [hlen'];omega) hone';have hrun:=X4 (P:=P) (ty:=ty) ht hu hs hsrc (some ⟨l.b,0,none⟩) k cap hroom;simp only [Addr.add_none,Nat.zero_add,Nat.add_zero] at hrun hst;rw [hst] at hrun;let new:Array Value:=(cs.toList.take (k * s')++news' ++ cs.toList.drop (k * s' + news'.length)).toArray;have hnew:new.size=cs.size:=by simp [new];omega
    refine ⟨_,ρ.put h.next l,w.setRow l.b new,by rw [e1];exact hrun,by simp only [Heap.next_alloc,Heap.next_set];exact Agree.put _ _ _,?_,?_,?_⟩
    ·exact .slice h.next 0 0 (k + n) s' cap l (by simp [Ren.put]) hroom (.inl ⟨by simp [hsh],by rw [hsh];omega⟩)
    ·refine Sim.congr (hS.move id h.next _ (.blk (cells++news) true) l hGi hl hid rfl (vy _ _ _) (fun b hb=>setRow_other w l.b b _ hb) ?_) (hov _);refine ⟨new,el,(0,0),setRow_heap w l.b cs _ el _ h1,by rw [hnew];exact h2,by rw [hsh,hnew,List.length_append,hcl,hlen];omega,fun i v hv=>?_,fun _=>⟨hsh,rfl,hbase⟩⟩;rw [hsh,Nat.zero_add];have hrel2:VRs ρ (cells++news) (cs.toList.take cells.length++news'):=h4.append hrel;obtain ⟨v',hv',hr⟩:=hrel2.get i v hv;refine ⟨v',?_,VR.mono (Ren.le_put hid l) hr,?_⟩
     ·have hi:=(List.getElem?_eq_some_iff.1 hv').1;simp only [new,List.getElem?_toArray];rw [hcl] at hv';rw [List.getElem?_append_left (by simp at hi ⊢;omega)];exact hv'
     ·rcases List.mem_append.1 (List.mem_of_getElem? hv) with hm | hm
      ·exact h5 v hm
      ·exact hone v hm
    ·exact ⟨by simp,fun b hb=>setRow_other w l.b b _ (by omega),rfl,rfl,rfl,fun a _=>uf w l.b _ a⟩
   · -- a new block
    have hold:∃ olds',(Builtin.firstCells s' k (.slice (some ⟨l.b,off',none⟩) k cap)).run P w.drew = .ok (List.toArray olds') w.drew∧VRs ρ cells olds':=by
     rcases hoff with ⟨rfl,hfit⟩ | ⟨rfl,_⟩
     ·rw [hsh] at h3 h4 hfit ⊢;simp only [Nat.zero_add,List.drop_zero,Nat.add_zero] at h3 h4 hfit ⊢;refine ⟨cs.toList.take cells.length,?_,h4⟩;simp only [Builtin.firstCells];have:=kq (P:=P) (w:=w.drew) (b:=l.b) (o:=0) (n:=k * s') (cs:=cs) (el:=el) (fz:=(0,0)) h1 (by omega);rw [this,hcl];simp
     ·have:cells=[]:=List.eq_nil_of_length_eq_zero (by simpa using hcl);subst this;exact ⟨[],by simp [Builtin.firstCells,loadCells,loadCellsFrom],.nil⟩
    obtain ⟨olds',hold,hro⟩:=hold;exact grown (some ⟨l.b,off',none⟩) k cap cells olds' (h.set id .dead) e1 hold hro h5 hcl (by omega) (by omega) hbytes rfl _ (hS.kill id (by rw [hGi];rfl)) (hov _) hfr
theorem zd6 {base:Nat}{G:Nat→Option AObj}{w:World}(hS:Sim base G ρ w){id:Nat}(hid:ρ id=none){cells:lVq}{cs:Array Value}(el:TypeId) (hn:cells.length≤cs.size)
  (hc:∀ (i:Nat) v,cells[i]? = some v → ∃ v',cs[i]? = some v' ∧ VR ρ v v' ∧ v.oneCell' = true) (full:Bool:=false) (hf:full=true→cells.length=cs.size:=by intro h;cases h) :
  Sim base (vl G id (.tblk cells el full)) (ρ.put id ⟨w.heap.size,0,cs.size⟩) (w.alloc (.cells cs el))∧WStep base w (w.alloc (.cells cs el)):=by
 have hle:=Ren.le_put hid ⟨w.heap.size,0,cs.size⟩;refine ⟨hS.alloc id _ ⟨w.heap.size,0,cs.size⟩ hid (Nat.le_refl _) (by simp) (fun b hb=>heap_alloc_old w _ b hb) (by simp) ?_,⟨by simp,fun b hb=>heap_alloc_old w _ b (Nat.lt_of_lt_of_le hb hS.size),rfl,rfl,rfl,fun a _=>Zg w _ (.inl ⟨_,_,rfl⟩) a⟩⟩;refine ⟨cs,heap_alloc_new w _,rfl,hn,fun i v hv=>?_,hf,rfl,hS.size⟩;obtain ⟨v',a,b,c⟩:=hc i v hv;exact ⟨v',a,VR.mono hle b,c⟩
theorem yi5 {t u ty e:TypeId}{xs xx:Operand}{s b:Nat}{z:lVq}(ht:P.underlying t=some (.slice e)) (hu:(∃ f,P.underlying u=some (.slice f))∨P.underlying u=some .string)
  (hs:sizeOf? P e=some s) (hb:bytesOf? P e=some b) (hz:zero? P e=some z) (hzl:z.length=s) (hs0:0 < s)
  {vs:lVq}(hv:VRs ρ vs ([xs,xx].map ev)){base:Nat}{G:Nat→Option AObj}{w:World}(hS:Sim base G ρ w){h h' : Heap}(hG:h.into G)
  {v:Value}(hw:Qa e s b h vs=some (v,h')) (hfr:Fresh ρ h.next h'.next) :
  ∃ v' ρ' w',(Builtin.append_ #[t,u] ty #[ev xs,ev xx]).run P w = .ok v' w' ∧ StepOk base G ρ w h h' v v' ρ' w':=by
 obtain ⟨a,x,rfl,ha,hx⟩:=VRs.two_r hv;obtain ⟨zv,hz1,hz2,hz3,hz4⟩:=kh hz;have hzs:zv.cells.size=s:=by rw [← hzl,← hz2];simp
 simp only [Qa] at hw;split at hw<;>first | (cases hw;done) | skip
 rename_i news hnews;obtain ⟨n,news',hsrc,hrel,hlen,hone⟩:=src_ok (P:=P) hs0 hnews hx hS hG;have hlen' : news'.length=n * s:=by rw [← hrel.length];exact hlen
 have hdiv:=Jy hs0 hlen
 -- a new block
 have grown:∀ (p:Option Addr) (sLen sCap:Nat) (olds olds' : lVq) (h0:Heap),ev xs = .slice p sLen sCap→(Builtin.firstCells s sLen (.slice p sLen sCap)).run P w.drew = .ok olds'.toArray w.drew →
   VRs ρ olds olds' → (∀ c ∈ olds,c.oneCell' = true)→olds.length=sLen * s→sCap < sLen + n→sLen + n≤9223372036854775807→(sLen + n) * b≤140737488355328→h0.next=h.next →
   ∀ G0:Nat→Option AObj,Sim base G0 ρ w→(∀ id,vv (h0.alloc (.tblk (olds++news) e false)) G id=vl G0 h.next (.tblk (olds++news) e false) id)→Fresh ρ h.next (h.next + 1) →
   ∃ v' ρ' w',(Builtin.append_ #[t,u] ty #[ev xs,ev xx]).run P w = .ok v' w' ∧ StepOk base G ρ w h (h0.alloc (.tblk (olds++news) e false)) (.slice (some ⟨h.next,0,none⟩) (sLen + n) s) v' ρ' w':=by
  intro p sLen sCap olds olds' h0 hp hold hro hoo hol hcap h63 hbytes hn0 G0 hS0 hov hfr1;have hcapge:=grownCap_ge w (sLen + n) sCap e;have hrun:=yd0 (P:=P) (ty:=ty) ht hu hs hb hz1 hsrc p sLen sCap olds' hold hcap h63 (growslice_fits hcap hbytes);rw [← hp] at hrun;have hid:ρ h.next=none:=hfr1 _ (Nat.le_refl _) (by omega);let cs:Array Value:=olds'.toArray++news'.toArray++Builtin.zeroCells zv.cells (grownCap w (sLen + n) sCap e - (sLen + n));have hcs:cs.size=grownCap w (sLen + n) sCap e * s:=by
   have e1:olds'.length=sLen * s:=by rw [← hro.length];exact hol
   simp only [cs,Array.size_append,List.size_toArray,size_zeroCells,hzs,e1,hlen',← Nat.add_mul]
   congr 1;omega
  have hsim:=zd6 (hS0.heap (w':=w.drew) rfl) hid (cells:=olds++news) (cs:=cs) e (by rw [hcs,List.length_append,hol,hlen,← Nat.add_mul];exact Nat.mul_le_mul_right _ hcapge) (fun i v hv=>by
   obtain ⟨v',h1,h2⟩:=(hro.append hrel).get i v hv;refine ⟨v',?_,h2,?_⟩
   ·have hi:=(List.getElem?_eq_some_iff.1 h1).1;have:cs=(olds' ++ news').toArray++Builtin.zeroCells zv.cells (grownCap w (sLen + n) sCap e - (sLen + n)):=by
     apply Array.ext';simp [cs]
    rw [this,Array.getElem?_append_left (by simpa using hi)];simpa using h1
   ·have hm:=List.mem_of_getElem? hv;rcases List.mem_append.1 hm with hm | hm
    ·exact hoo v hm
    ·exact hone v hm)
  refine ⟨_,_,_,hrun,?_,?_,Sim.congr hsim.1 hov,?_⟩
  ·simp only [Heap.next_alloc,hn0];exact Agree.put _ _ _
  ·exact .slice h.next 0 0 (sLen + n) s _ ⟨w.heap.size,0,cs.size⟩ (by simp [Ren.put]) hcapge (.inl ⟨rfl,by simp [hcs]⟩)
  ·exact ⟨hsim.2.size,hsim.2.low,hsim.2.tape,hsim.2.os,hsim.2.output,hsim.2.froz⟩
 split at hw
 ·rename_i hz0;have hn:n=0:=by
   have:n * s=0:=by rw [← hlen];exact hz0
   rcases Nat.mul_eq_zero.1 this with h | h<;>omega
  subst hn;have hne:news' = []:=List.eq_nil_of_length_eq_zero (by simpa using hlen');subst hne;split at hw<;>first | (cases hw;done) | skip
  rename_i p k c;cases hw;have hsh:∃ p' c',ev xs = .slice p' k c' ∧ k≤c':=by
   generalize ev xs=y at *;cases ha with
   | same _ h =>
    cases p with
    | none=>unfold Value.plain at h;split at h<;>first | (rename_i e1;cases e1;exact ⟨_,_,rfl,Nat.le_refl _⟩) | (rename_i e1;cases e1) | cases h
    | some p=>simp [Value.plain] at h
   | slice id off off' len s cap l h hl ho=>exact ⟨_,_,rfl,hl⟩
   | clip=>exact ⟨_,_,rfl,Nat.le_refl _⟩
  obtain ⟨p',c',e1,hkc⟩:=hsh;have hrun:=X4 (P:=P) (ty:=ty) ht hu hs hsrc p' k c' (by omega);refine ⟨ev xs,ρ,w,?_,Agree.refl _ _ _,ha,Sim.congr hS (y0 hG),WStep.refl _ _⟩;rw [e1,hrun];cases p' <;> simp [storeCells]
 ·rename_i hne;have hn:0 < n:=Nat.pos_of_ne_zero fun e=>hne (by rw [hlen,e];simp);split at hw<;>first | (cases hw;done) | skip
  ·split at hw<;>first | (cases hw;done) | skip
   rename_i hcond;rw [hdiv] at hcond hw;cases hw;have e1:=ha.nil_inv;have:=grown none 0 0 [] [] h e1 (by simp [Builtin.firstCells]) .nil (by simp) (by simp) (by omega) (by omega) (by simpa using hcond.1) rfl G hS (wt hG _) hfr;simpa using this
  ·rename_i id k s';split at hw<;>first | (cases hw;done) | skip
   rename_i cells el' full' hcell;split at hw<;>first | (cases hw;done) | skip
   rename_i hcond;obtain ⟨rfl,rfl,hcl,hbytes,h63⟩:=hcond;rw [hdiv] at hbytes h63 hw;cases hw;obtain ⟨l,off',cap,hl,e1,hkc,hoff⟩:=ha.slice_inv;have hGi:=hG id _ hcell;have hobj:=hS.obj id _ l hGi hl;have hobj2:=hobj;obtain ⟨cs0,k1,_,_,_,_,_,_⟩:=hobj2;obtain ⟨cs,el,fz,h1,h2,h3,h4,h5,h6⟩:=Zu (Ke hobj);have k2:=k1;rw [h1] at k2;obtain ⟨rfl,rfl,rfl⟩:cs=cs0∧el=el' ∧ fz=(0,0):=by simpa using k2
   clear k2;obtain ⟨hsh,hfz,hbase⟩:=h6 rfl
   try cases hfz
   have hlt:=Heap.lt_of_get hcell;have hid:ρ h.next=none:=hfr _ (Nat.le_refl _) (by simp);have hov:∀ o:AObj,∀ i,vv ((h.set id .dead).alloc o) G i=vl (vl G id .dead) h.next o i:=fun o i=>by
    have:=y0 hG i;unfold vv vl at *;rw [Heap.get_alloc,Heap.get_set];simp only [Heap.next_set];by_cases e2:i=h.next
    ·simp [e2]
    ·by_cases e3:i=id
     ·subst e3;simp [e2,hlt]
     ·simp [e2,e3,this]
   by_cases hroom:k + n≤cap
   · -- in place
    rcases hoff with ⟨rfl,hfit⟩ | ⟨_,hc0⟩
    case inr=>omega
    rw [hsh] at e1 hfit h3 h4;simp only [Nat.zero_add,List.drop_zero,Nat.add_zero] at e1 hfit h3 h4;have hks:(k + n) * s' ≤ cap * s':=Nat.mul_le_mul_right _ hroom;rw [Nat.add_mul] at hks;have hone' : ∀ c ∈ news',c.oneCell' = true:=fun c hc=>by
     obtain ⟨i,hi⟩:=List.mem_iff_getElem?.1 hc;have hil:i < news.length:=by rw [hrel.length];exact (List.getElem?_eq_some_iff.1 hi).1
     obtain ⟨c',hc',hr⟩:=hrel.get i _ (List.getElem?_eq_getElem hil);rw [hi] at hc';cases hc';rw [VR.oneCell hr];exact hone _ (List.getElem_mem hil)
    have hst:=run_storeCells_at P l.b (k * s') el news' 0 cs w h1 (by rw [hlen'];omega) hone';have hrun:=X4 (P:=P) (ty:=ty) ht hu hs hsrc (some ⟨l.b,0,none⟩) k cap hroom;simp only [Addr.add_none,Nat.zero_add,Nat.add_zero] at hrun hst;rw [hst] at hrun;let new:Array Value:=(cs.toList.take (k * s')++news' ++ cs.toList.drop (k * s' + news'.length)).toArray;have hnew:new.size=cs.size:=by simp [new];omega
    refine ⟨_,ρ.put h.next l,w.setRow l.b new,by rw [e1];exact hrun,by simp only [Heap.next_alloc,Heap.next_set];exact Agree.put _ _ _,?_,?_,?_⟩
    ·exact .slice h.next 0 0 (k + n) s' cap l (by simp [Ren.put]) hroom (.inl ⟨by simp [hsh],by rw [hsh];omega⟩)
    ·refine Sim.congr (hS.move id h.next _ (.tblk (cells++news) el false) l hGi hl hid rfl (vy _ _ _) (fun b hb=>setRow_other w l.b b _ hb) (yc9 (cs:=new) ?_ (setRow_heap w l.b cs _ el _ h1) (fun hf=>by cases hf))) (hov _);refine ⟨new,el,(0,0),setRow_heap w l.b cs _ el _ h1,by rw [hnew];exact h2,by rw [hsh,hnew,List.length_append,hcl,hlen];omega,fun i v hv=>?_,fun _=>⟨hsh,rfl,hbase⟩⟩;rw [hsh,Nat.zero_add];have hrel2:VRs ρ (cells++news) (cs.toList.take cells.length++news'):=h4.append hrel;obtain ⟨v',hv',hr⟩:=hrel2.get i v hv;refine ⟨v',?_,VR.mono (Ren.le_put hid l) hr,?_⟩
     ·have hi:=(List.getElem?_eq_some_iff.1 hv').1;simp only [new,List.getElem?_toArray];rw [hcl] at hv';rw [List.getElem?_append_left (by simp at hi ⊢;omega)];exact hv'
     ·rcases List.mem_append.1 (List.mem_of_getElem? hv) with hm | hm
      ·exact h5 v hm
      ·exact hone v hm
    ·exact ⟨by simp,fun b hb=>setRow_other w l.b b _ (by omega),rfl,rfl,rfl,fun a _=>uf w l.b _ a⟩
   · -- a new block
    have hold:∃ olds',(Builtin.firstCells s' k (.slice (some ⟨l.b,off',none⟩) k cap)).run P w.drew = .ok (List.toArray olds') w.drew∧VRs ρ cells olds':=by
     rcases hoff with ⟨rfl,hfit⟩ | ⟨rfl,_⟩
     ·rw [hsh] at h3 h4 hfit ⊢;simp only [Nat.zero_add,List.drop_zero,Nat.add_zero] at h3 h4 hfit ⊢;refine ⟨cs.toList.take cells.length,?_,h4⟩;simp only [Builtin.firstCells];have:=kq (P:=P) (w:=w.drew) (b:=l.b) (o:=0) (n:=k * s') (cs:=cs) (el:=el) (fz:=(0,0)) h1 (by omega);rw [this,hcl];simp
     ·have:cells=[]:=List.eq_nil_of_length_eq_zero (by simpa using hcl);subst this;exact ⟨[],by simp [Builtin.firstCells,loadCells,loadCellsFrom],.nil⟩
    obtain ⟨olds',hold,hro⟩:=hold;exact grown (some ⟨l.b,off',none⟩) k cap cells olds' (h.set id .dead) e1 hold hro h5 hcl (by omega) (by omega) hbytes rfl _ (hS.kill id (by rw [hGi];rfl)) (hov _) hfr
theorem V4:∀ {cs:lVq}{l:lBq},za9 cs=some l→cs=l.map fun b=>Value.int .u8 b.toNat
 | [],l,h=>by cases h;rfl
 | c::r,l,h=>by
  unfold za9 at h;split at h<;>first | (rename_i heq;cases heq;done) | (cases h;done) | skip
  rename_i n r' heq;cases heq;split at h<;>first | (cases h;done) | skip
  rename_i hn;cases hr:za9 r with
  | none=>rw [hr] at h;cases h
  | some m =>
   rw [hr] at h;cases h;rw [V4 hr];obtain ⟨k,rfl⟩:∃ k:Nat,n=k:=⟨n.toNat,by omega⟩;have hk:k < 256:=by omega
   simp [Nat.mod_eq_of_lt hk]
theorem VRs.u8s {ρ:Ren}:∀ {l:lBq}{m:lVq},VRs ρ (l.map fun b=>Value.int .u8 b.toNat) m→m=l.map fun b=>Value.int .u8 b.toNat
 | [],m,h=>by cases h;rfl
 | b::l,m,h=>by
  cases h with
  | cons _ _ _ _ h hr=>rw [h.int,VRs.u8s hr];rfl
theorem zu1 {w:World}{g n:Nat}{a:Addr}(h:a.block≠g):(w.freeze ⟨g,0,none⟩ n).frozen? a=w.frozen? a:=by
 have hh:(w.freeze ⟨g,0,none⟩ n).heap[a.block]? = w.heap[a.block]?:=by
  unfold World.freeze;split
  ·rfl
  ·simp only [Array.getElem?_modify];rw [if_neg (fun e=>h e.symm)]
 simp only [World.frozen?,hh]
theorem yk4 {pt it ty e:TypeId}{xp xn:Operand}(hp:P.underlying pt=some (.pointer e)) (hc:P.cellsOf e=1){vs:lVq}(hv:VRs ρ vs ([xp,xn].map ev)){base:Nat}{G:Nat→Option AObj}{w:World}(hS:Sim base G ρ w)
  {h h' : Heap}(hG:h.into G){v:Value}(hw:X9 e h vs=some (v,h')) :
  ∃ v' w',(Builtin.unsafeString_ #[pt,it] ty #[ev xp,ev xn]).run P w = .ok v' w' ∧ StepOk base G ρ w h h' v v' ρ w':=by
 obtain ⟨a,x,rfl,ha,hx⟩:=VRs.two_r hv;unfold X9 at hw;split at hw<;>first | (cases hw;done) | skip
 ·rename_i heq;cases heq;cases hw;have e1:ev xp = .pointer none:=by
   generalize ev xp=z at *;cases ha with
   | same _ h=>rfl
  have e2:=hx.int;refine ⟨_,w,?_,Agree.refl _ _ _,.same _ rfl,Sim.congr hS (y0 hG),WStep.refl _ _⟩;rw [e1,e2];have hdef:Builtin.unsafeString_ #[pt,it] ty #[.pointer none,.int .i64 0] =
    (do
     let n ← asInt (.int .i64 0)
     if n < 0 then runtimePanic (.error "unsafe.String: len out of range")
     if n > IntKind.i64.max then unsupported (.unsafePointer "String: a length above the largest int")
     if n=0 then pure (.string .empty)
     else runtimePanic (.error "unsafe.String: ptr is nil and len is not zero")) := rfl
  rw [hdef];have hmax:IntKind.i64.max=9223372036854775807:=rfl;simp [asInt,asIntOf,hmax]
 ·rename_i id n heq;cases heq;split at hw<;>first | (cases hw;done) | skip
  rename_i cells e' full hcell;split at hw<;>first | (cases hw;done) | skip
  rename_i hcond;obtain ⟨rfl,hn0,hnl,h63⟩:=hcond;cases hb:za9 (cells.take n.toNat) with
  | none=>rw [hb] at hw;cases hw
  | some l =>
   rw [hb] at hw;cases hw;have hGi:=hG id _ hcell;obtain ⟨lo,hl,e1⟩:=ha.ptr_inv;have e2:=hx.int;have hobj:=hS.obj id _ lo hGi hl;obtain ⟨cs,g1,g2,g3,g4,_,g6,g7⟩:=hobj;obtain ⟨cs2,el2,fz2,k1,_,k3,k4,_,_⟩:=Zu (Ke (hS.obj id _ lo hGi hl));rw [g1] at k1;cases k1;rw [g6] at k3 k4 e1;simp only [Nat.zero_add,List.drop_zero,Nat.add_zero] at k3 k4 e1;have hcs:=V4 hb;have h1:=k4.take n.toNat;rw [hcs,List.take_take] at h1;have h2:=h1.u8s;have hll:l.length=n.toNat:=by
    have:=congrArg List.length hcs;simp at this;omega
   have hcl:∀ j y,l[j]? = some y→w.cell? ((⟨lo.b,0,none⟩:Addr).add j)=some (.int .u8 y.toNat):=fun j y hj=>by
    rw [Addr.add_none,cell_of_row w lo.b _ cs _ _ g1];have hj2:j < n.toNat:=by rw [← hll];exact (List.getElem?_eq_some_iff.1 hj).1
    have:=congrArg (·[j]?) h2;simp only [List.getElem?_map,hj,Option.map_some] at this;rw [List.getElem?_take_of_lt (by omega)] at this;simpa using this
   have hrun:=Lib.run_unsafeString_row (P:=P) w pt it ty e' hp hc lo.b cs.size (by simp [World.shape?,g1]) l (fun h=>by rw [h] at hll;simp at hll;omega) (by omega) (by omega) hcl;have hnn:(l.length:Int)=n:=by omega
   refine ⟨_,w.freeze ⟨lo.b,0,none⟩ l.length,?_,Agree.refl _ _ _,.same _ rfl,?_,?_⟩
   ·rw [e1,e2,← hnn];exact hrun
   ·refine Sim.congr (hS.write id _ .dead lo hGi hl rfl ?_ (fun b hb=>?_) trivial) (um hG hcell _)
    ·unfold World.freeze;split<;>simp
    ·unfold World.freeze;split
     ·rfl
     ·simp only [Array.getElem?_modify];rw [if_neg (fun e=>hb e.symm)]
   ·refine ⟨?_,fun b hb=>?_,?_,?_,?_,fun a ha=>zu1 (by omega)⟩
    ·unfold World.freeze;split<;>simp
    ·unfold World.freeze;split
     ·rfl
     ·simp only [Array.getElem?_modify];rw [if_neg (by omega)]
    all_goals (unfold World.freeze;split<;>rfl)
end Go.Eng
namespace Go.Eng
open Go
variable {P:Program}
inductive Arg where
 | t (d:Nat) | v (k:Nat) | c (x:Value) | f (i:FuncId)
 deriving Inhabited
def Arg.ev (ts env:lVq):Arg→Option Value
 | .t d=>ts[d]?
 | .v k=>env[k]?
 | .c x=>some x
 | .f i=>some (.func (.func i) #[] #[])
def evs (ts env:lVq):List Arg→Option (lVq)
 | []=>some []
 | s::r=>match s.ev ts env,evs ts env r with
  | some x,some l=>some (x::l)
  | _,_=>none
structure SOp where
 j:Nat
 k:K
 args:List Arg
 g:Option (Nat × Bool)
 q:Bool
 deriving Inhabited
def K.isE:K→Bool
 | .w _ | .call _ | .callV=>true
 | _=>false
def K.isR:K→Bool
 | .r _=>true
 | _=>false
def vj (ro:Option Nat):Fence:={ Fence.wide with round:=ro }
def ValT (P:Program) (fv:Value) (args:lVq) (h:Heap) (v:Value) (h' : Heap):Prop :=
 h.step h' ∧ ∀ (base:Nat) (G:Nat→Option AObj) (ρ:Ren) (w:World) (fv' : Value) (args' : lVq),h.into G→Fresh ρ h.next h'.next→Sim base G ρ w→VR ρ fv fv' → VRs ρ args args' →
  ∀ (ro:Option Nat) (o:Oper) (a:Act) (next:Act→World→Prop) (Q:Exit→Act→World→Prop),(∀ v' ρ' w',StepOk base G ρ w h h' v v' ρ' w' → next (a.put o.dst v') w') →
   o.uponIn (vj ro) 0 P a next Q ((do let d ← Deferred.ofValue fv' args'.toArray;invoke d.target d.args:Sem Next).run P w)
def Jg (P:Program) (f:FuncId):Prop:=∀ args w,(callFunc f args).run P w = .ok (.enter f args) w
def CallT (P:Program) (f:FuncId) (args:lVq) (h:Heap) (v:Value) (h' : Heap):Prop :=
 Jg P f∧h.step h' ∧ ∀ (base:Nat) (G:Nat→Option AObj) (ρ:Ren) (w:World) (args' : lVq),h.into G→Fresh ρ h.next h'.next→Sim base G ρ w→VRs ρ args args' →
  Calls P f args'.toArray w fun e w'=>∃ v' ρ',e = .returned v' ∧ StepOk base G ρ w h h' v v' ρ' w'
theorem CallT.val {f:FuncId}{first captured:Array Value}{args:lVq}{h h' : Heap}{v:Value}(hc:CallT P f (first.toList++args++captured.toList) h v h'):ValT P (.func (.func f) first captured) args h v h':=by
 refine ⟨hc.2.1,fun base G ρ w fv' args' hG hfr hS hfv hargs ro o a next Q hn=>?_⟩;obtain ⟨a',c',rfl,ha,hcc⟩:=hfv.func_inv;have hcall:=hc.2.2 base G ρ w (a' ++ args' ++ c') hG hfr hS ((ha.append hargs).append hcc);have hrun:((do let d ← Deferred.ofValue (.func (.func f) a'.toArray c'.toArray) args'.toArray;invoke d.target d.args:Sem Next).run P w) = .ok (.enter f (a' ++ args' ++ c').toArray) w:=by
  simp only [Deferred.ofValue,Sem.run_bind,Sem.run_pure,Result.andThen_ok,invoke];rw [hc.1];simp
 rw [hrun,Oper.uponIn_enter];refine ⟨fun hd=>by simp [vj,Fence.wide] at hd,?_⟩;have h2:CallsIn Fence.wide (0 - 1) P f (a' ++ args' ++ c').toArray w (fun e w'=>∃ v' ρ',e = .returned v' ∧ StepOk base G ρ w h h' v v' ρ' w'):=callsIn_wide.2 hcall;have h3:CallsIn (vj ro) (0 - 1) P f (a' ++ args' ++ c').toArray w (fun e w'=>∃ v' ρ',e = .returned v' ∧ StepOk base G ρ w h h' v v' ρ' w'):=h2;refine h3.mono fun e w'' he=>?_;obtain ⟨v',ρ',rfl,hok⟩:=he;exact hn v' ρ' w'' hok
def ActT (P:Program) (k:K) (vs:lVq) (h:Heap) (v:Value) (h' : Heap):Prop :=
 match k with
 | .p k=>aP k vs=some v∧h' = h
 | .r k=>aR k vs h.get=some v∧h' = h
 | .a k=>∃ cells mk,aA k vs=some (cells,mk)∧v=mk h.next∧h' = h.alloc (.blk cells true)
 | .w k=>aW k vs h=some (v,h')
 | .call f=>CallT P f vs h v h'
 | .callV=>match vs with | fv::args=>ValT P fv args h v h' | []=>False
def vx (g:Option (Nat × Bool)) (ts:lVq):Option Bool :=
 match g with
 | none=>some true
 | some (d,want)=>(ts[d]?).map fun x=>match x with | .bool b=>b == want | _=>false
def Heap.extD (D:List Nat) (h h' : Heap):Prop:=∀ id o,id ∉ D→h.get id=some o→h'.get id=some o∨h'.get id=some .dead
def yi2:lVq→Option Nat
 | .pointer (some a)::_=>some a.block
 | .slice (some a) _ _::_=>some a.block
 | .map (some id)::_=>some id
 | _=>none
def okD (D:List Nat) (vs:lVq):Prop:=∀ id,yi2 vs=some id→id ∉ D
def OpT (P:Program) (s:SOp) (D:List Nat) (ts env:lVq) (h:Heap) (v:Value) (h' : Heap) (D' : List Nat):Prop :=
 ∃ wd,vx s.g ts=some wd∧(∀ i ∈ D,i ∈ D') ∧
  if wd then ∃ vs,evs ts env s.args=some vs∧ActT P s.k vs h v h' ∧ (s.q=true→h.extD D' h')∧(s.k.isR=true→okD D vs)
  else v=undef∧h' = h
def RegT (P:Program):List SOp→List Nat→lVq→lVq→Heap→lVq→Heap→Prop
 | [],_,ts,_,h,ts',h'=>ts' = ts∧h' = h
 | s::r,D,ts,env,h,ts',h'=>∃ v h1 D1,OpT P s D ts env h v h1 D1∧RegT P r D1 (v::ts) env h1 ts' h'
theorem Heap.step.refl (h:Heap):h.step h:=⟨Nat.le_refl _,fun _ h=>h,fun _ _ h=>h,fun _ h=>h⟩
theorem Heap.step.trans {a b c:Heap}(h:a.step b) (h' : b.step c):a.step c :=
 ⟨Nat.le_trans h.next h'.next,fun id hid=>h'.dom id (h.dom id hid),fun id hl hn=>h'.back id (Nat.lt_of_lt_of_le hl h.next) (h.back id hl hn),fun id hd=>h'.defd id (h.defd id hd)⟩
theorem Heap.step_alloc (h:Heap) (o:AObj):h.step (h.alloc o) :=
 ⟨by simp,fun id hid=>by rw [Heap.get_alloc];split<;>simp_all,fun id hl hn=>by rw [Heap.get_alloc_lt hl];exact hn,fun id hd=>by rw [Heap.get_alloc_lt (Heap.lt_of_get hd)];exact hd⟩
theorem Heap.step_set {h:Heap}{i:Nat}{oi:AObj}(hi:h.get i=some oi) (o:AObj) (hne:oi ≠ .defd):h.step (h.set i o) :=
 ⟨by simp,fun id hid=>by rw [Heap.get_set];split<;>simp_all,fun id hl hn=>by
  rw [Heap.get_set];have:¬ (id=i∧i < h.next):=fun e=>by rw [e.1,hi] at hn;cases hn
  rw [if_neg this];exact hn,fun id hd=>by
  rw [Heap.get_set];have:¬ (id=i∧i < h.next):=fun e=>by rw [e.1,hi] at hd;cases hd;exact hne rfl
  rw [if_neg this];exact hd⟩
theorem qb9 {k:WK}{vs:lVq}{h h' : Heap}{v:Value}(hw:aW k vs h=some (v,h')):h.step h':=by
 cases k with
 | store size =>
  simp only [aW] at hw;unfold zt at hw;split at hw<;>first | (cases hw;done) | skip
  split at hw<;>first | (cases hw;done) | skip
  all_goals
   rename_i hc;split at hw<;>first | (cases hw;done) | skip
   cases hw
   exact Heap.step_set hc _ (by simp)
 | append size bytes =>
  simp only [aW] at hw;unfold yq at hw;split at hw<;>first | (cases hw;done) | skip
  split at hw<;>first | (cases hw;done) | skip
  split at hw
  ·split at hw<;>first | (cases hw;done) | skip
   cases hw;exact Heap.step.refl _
  ·split at hw<;>first | (cases hw;done) | skip
   ·split at hw<;>first | (cases hw;done) | skip
    cases hw;exact Heap.step_alloc _ _
   ·split at hw<;>first | (cases hw;done) | skip
    split at hw<;>first | (cases hw;done) | skip
    cases hw;exact Heap.step_alloc _ _
   ·split at hw<;>first | (cases hw;done) | skip
    rename_i hc;split at hw<;>first | (cases hw;done) | skip
    cases hw
    exact (Heap.step_set hc _ (by simp)).trans (Heap.step_alloc _ _)
 | mkMap =>
  cases vs with
  | nil=>simp only [aW] at hw;cases hw;exact Heap.step_alloc _ _
  | cons=>simp [aW] at hw
 | mapSet good =>
  simp only [aW] at hw;unfold Zl at hw;split at hw<;>first | (cases hw;done) | skip
  split at hw<;>first | (cases hw;done) | skip
  rename_i hc;split at hw<;>first | (cases hw;done) | skip
  cases hw
  exact Heap.step_set hc _ (by simp)
 | clearS s z =>
  simp only [aW] at hw;unfold Wa at hw;split at hw<;>first | (cases hw;done) | skip
  ·cases hw;exact Heap.step.refl _
  ·split at hw<;>first | (cases hw;done) | skip
   rename_i hc;split at hw<;>first | (cases hw;done) | skip
   cases hw
   exact Heap.step_set hc _ (by simp)
 | strBytes =>
  simp only [aW] at hw;split at hw<;>first | (cases hw;done) | contradiction | skip
  cases hw
  exact Heap.step_alloc _ _
 | newT e cells =>
  cases vs with
  | nil=>simp only [aW] at hw;cases hw;exact Heap.step_alloc _ _
  | cons=>simp [aW] at hw
 | boxT e =>
  cases vs with
  | nil=>simp [aW] at hw
  | cons v r=>cases r with
   | nil =>
    simp only [aW] at hw;split at hw<;>first | (cases hw;done) | skip
    cases hw;exact Heap.step_alloc _ _
   | cons=>simp [aW] at hw
 | appendT e bytes =>
  simp only [aW] at hw;unfold Qa at hw;split at hw<;>first | (cases hw;done) | skip
  split at hw<;>first | (cases hw;done) | skip
  split at hw
  ·split at hw<;>first | (cases hw;done) | skip
   cases hw;exact Heap.step.refl _
  ·split at hw<;>first | (cases hw;done) | skip
   ·split at hw<;>first | (cases hw;done) | skip
    cases hw;exact Heap.step_alloc _ _
   ·split at hw<;>first | (cases hw;done) | skip
    rename_i hc;split at hw<;>first | (cases hw;done) | skip
    cases hw
    exact (Heap.step_set hc _ (by simp)).trans (Heap.step_alloc _ _)
 | unsStr e =>
  simp only [aW] at hw;unfold X9 at hw;split at hw<;>first | (cases hw;done) | skip
  ·cases hw;exact Heap.step.refl _
  ·split at hw<;>first | (cases hw;done) | skip
   rename_i hc;split at hw<;>first | (cases hw;done) | skip
   obtain ⟨l,_,he⟩:=Option.map_eq_some_iff.1 hw;cases he;exact Heap.step_set hc _ (by simp)
theorem ActT.step {k:K}{vs:lVq}{h h' : Heap}{v:Value}(ha:ActT P k vs h v h'):h.step h':=by
 unfold ActT at ha;split at ha
 ·rw [ha.2];exact Heap.step.refl _
 ·rw [ha.2];exact Heap.step.refl _
 ·obtain ⟨cells,mk,_,_,rfl⟩:=ha;exact Heap.step_alloc _ _
 ·exact qb9 ha
 ·exact ha.2.1
 ·split at ha
  ·exact ha.1
  ·exact ha.elim
theorem OpT.step {s:SOp}{D D' : List Nat}{ts env:lVq}{h h' : Heap}{v:Value}(ho:OpT P s D ts env h v h' D'):h.step h':=by
 obtain ⟨wd,_,_,hd⟩:=ho;split at hd
 ·obtain ⟨vs,_,ha,_⟩:=hd;exact ha.step
 ·rw [hd.2];exact Heap.step.refl _
theorem RegT.step:∀ {l:List SOp}{D:List Nat}{ts env:lVq}{h h' : Heap}{ts' : lVq},RegT P l D ts env h ts' h' → h.step h'
 | [],_,_,_,_,_,_,h=>by rw [h.2];exact Heap.step.refl _
 | _::_,_,_,_,_,_,_,⟨_,_,_,ho,hr⟩=>ho.step.trans (RegT.step hr)
end Go.Eng
namespace Go.Eng
open Go
variable {P:Program}
def qd1 (ops:Array Oper) (sops:List SOp) (vars:List Nat) (nd:Nat→List Nat) (p j:Nat) (x:Operand) (r:Arg):Prop :=
 match x,r with
 | .tmp t,.t d=>d < p ∧ ∃ s o,sops[p - 1 - d]? = some s∧ops[s.j]? = some o∧o.dst=some t∧s.j ∈ nd j
 | .tmp t,.v k=>vars[k]? = some t ∧ ∀ (i:Nat) o,ops[i]? = some o→o.dst=some t→i=j∨j ∈ nd i
 | .const v,.c v'=>v=v' ∧ Value.plain v=true
 | .func f,.f f'=>f=f'
 | _,_=>False
def zj5 (ops:Array Oper) (sops:List SOp) (nd:Nat→List Nat) (p j:Nat) (g:Option (Nat × Bool)) (r:Option (Nat × Bool)):Prop :=
 match g,r with
 | none,none=>True
 | some (gi,want),some (d,want')=>want=want' ∧ d < p ∧ ∃ s o t,sops[p - 1 - d]? = some s∧s.j=gi∧ops[gi]? = some o∧o.dst=some t∧gi ∈ nd j
 | _,_=>False
inductive All2 {α β:Type}(R:α→β→Prop):List α→List β→Prop
 | nil:All2 R [] []
 | cons {a b l m}:R a b→All2 R l m→All2 R (a::l) (b::m)
structure RegOk (P:Program) (N:Nat) (vars:List Nat) (ops:Array Oper) (sops:List SOp) (nd:Nat→List Nat):Prop where
 len:sops.length=ops.size
 lt:∀ (p:Nat) s,sops[p]? = some s→s.j < ops.size
 place:∀ j,j < ops.size → ∃ (p:Nat) (s:SOp),sops[p]? = some s∧s.j=j
 inj:∀ (p q:Nat) s s',sops[p]? = some s→sops[q]? = some s' → s.j=s'.j→p=q
 dst:∀ (i k:Nat) oi ok d,ops[i]? = some oi→ops[k]? = some ok→oi.dst=some d→ok.dst=some d→i=k
 dlt:∀ (i:Nat) oi d,ops[i]? = some oi→oi.dst=some d→d < N
 kind:∀ (p:Nat) s o,sops[p]? = some s→ops[s.j]? = some o → ∃ xs,zm P o.op=some (s.k,xs)∧All2 (qd1 ops sops vars nd p s.j) xs s.args
 guard:∀ (p:Nat) s o,sops[p]? = some s→ops[s.j]? = some o→zj5 ops sops nd p s.j o.guard s.g
 eff:∀ (p q:Nat) s s',sops[p]? = some s→s.k.isE=true→q < p→sops[q]? = some s' → s'.j ∈ nd s.j
 rd:∀ (p q:Nat) s s',sops[p]? = some s→s.k.isR=true→q < p→sops[q]? = some s' → s'.k.isE=true→s'.j ∈ nd s.j∨s'.q=true
def Ul (vq:Nat→Value):Nat→lVq
 | 0=>[]
 | p + 1=>vq p::Ul vq p
theorem Qc (vq:Nat→Value):∀ (p d:Nat),d < p→(Ul vq p)[d]? = some (vq (p - 1 - d))
 | 0,d,h=>by omega
 | p + 1,0,_=>by simp [Ul]
 | p + 1,d + 1,h=>by
  simp only [Ul,List.getElem?_cons_succ];rw [Qc vq p d (by omega)]
  congr 2;omega
theorem Jh {vq vq' : Nat→Value}:∀ (p:Nat),(∀ i,i < p→vq' i=vq i)→Ul vq' p=Ul vq p
 | 0,_=>rfl
 | p + 1,h=>by simp only [Ul];rw [h p (by omega),Jh p fun i hi=>h i (by omega)]
def RunAt (P:Program) (sops:List SOp) (env:lVq) (hs:Nat→Heap) (vq:Nat→Value):Prop :=
 ∃ ds:Nat→List Nat,∀ (p:Nat) s,sops[p]? = some s→OpT P s (ds p) (Ul vq p) env (hs p) (vq p) (hs (p + 1)) (ds (p + 1))
theorem zy5 {env:lVq}:∀ (l:List SOp) (D:List Nat) (k:Nat) (vq:Nat→Value) (h h' : Heap) (ts' : lVq),RegT P l D (Ul vq k) env h ts' h' →
  ∃ (hs:Nat→Heap) (vq' : Nat→Value) (ds:Nat→List Nat),(∀ i,i < k→vq' i=vq i)∧hs k=h∧hs (k + l.length)=h' ∧ ts' = Ul vq' (k + l.length)∧ds k=D ∧
   ∀ (i:Nat) s,l[i]? = some s→OpT P s (ds (k + i)) (Ul vq' (k + i)) env (hs (k + i)) (vq' (k + i)) (hs (k + i + 1)) (ds (k + i + 1))
 | [],D,k,vq,h,h',ts',hr=>⟨fun _=>h,vq,fun _=>D,fun _ _=>rfl,rfl,hr.2.symm,by simpa using hr.1,rfl,fun i s hs=>by simp at hs⟩
 | s::r,D,k,vq,h,h',ts',hr=>by
  obtain ⟨v,h1,D1,ho,hr⟩:=hr;let vq1:Nat→Value:=fun i=>if i=k then v else vq i
  have e1:Ul vq1 (k + 1)=v::Ul vq k:=by
   simp only [Ul,vq1,if_true];rw [Jh (vq:=vq) (vq':=vq1) k fun i hi=>by simp [vq1];omega]
  rw [← e1] at hr;obtain ⟨hs,vq',ds,hv,h2,h3,h4,hd,h5⟩:=zy5 r D1 (k + 1) vq1 h1 h' ts' hr;have hvk:vq' k=v:=by rw [hv k (by omega)];simp [vq1]
  have hvl:∀ i,i < k→vq' i=vq i:=fun i hi=>by rw [hv i (by omega)];simp [vq1];omega
  refine ⟨fun i=>if i=k then h else hs i,vq',fun i=>if i=k then D else ds i,hvl,by simp,?_,?_,by simp,fun i s' hi=>?_⟩
  ·have:k + (s::r).length≠k:=by simp
   simp only [this,if_false];rw [← h3];congr 1;simp;omega
  ·rw [h4];congr 1;simp;omega
  ·cases i with
   | zero =>
    simp at hi;subst hi;have:k + 0 + 1≠k:=by omega
    simp only [Nat.add_zero,if_true,hvk];rw [Jh k hvl,if_neg (by omega),if_neg (by omega),h2,hd];exact ho
   | succ i =>
    have:=h5 i s' (by simpa using hi);have e2:k + 1 + i=k + (i + 1):=by omega
    rw [e2] at this;have n1:¬ (k + (i + 1)=k):=by omega
    have n2:¬ (k + (i + 1) + 1=k):=by omega
    simp only [n1,n2,if_false];exact this
end Go.Eng
namespace Go.Eng
open Go
variable {P:Program}
section region
variable (ops:Array Oper) (sops:List SOp) (hs:Nat→Heap) (vq:Nat→Value) (env:lVq) (vars:List Nat) (N:Nat)
variable (base:Nat) (G0:Nat→Option AObj) (ρ0:Ren) (w0:World) (a0:Act)
def Early (S:Nat→Prop) (b:Nat) (id:Nat) (o:AObj):Prop :=
 ∃ (p:Nat) (s:SOp),b≤p∧sops[p]? = some s∧S s.j∧(hs p).next=id∧id < (hs (p + 1)).next∧(hs (p + 1)).get id=some o
def GSpec (S:Nat→Prop) (b:Nat) (id:Nat) (o:AObj):Prop :=
 (hs b).get id=some o∨Early sops hs S b id o∨((hs b).get id=none∧(id < (hs 0).next∨(hs sops.length).next≤id)∧G0 id=some o)
structure InvC (S:Nat→Prop) (a:Act) (w:World) (b:Nat) (G:Nat→Option AObj) (ρ:Ren):Prop where
 ble:b≤sops.length
 bE:∀ (p:Nat) s,sops[p]? = some s→s.k.isE=true→(S s.j↔p < b)
 bS:∀ (p:Nat) s,p < b→sops[p]? = some s→S s.j
 gspec:∀ id o,G id=some o↔GSpec sops hs G0 S b id o
 agree:Agree ρ0 ρ (hs 0).next (hs sops.length).next
 sim:Sim base G ρ w
 step:WStep base w0 w
 size:a.tmps.size=N
 defers:a.defers=a0.defers
 tmps:∀ (p:Nat) s o d,sops[p]? = some s→ops[s.j]? = some o→o.dst=some d→S s.j → ∃ v',a.tmps[d]? = some v' ∧ VR ρ (vq p) v'
 vars:∀ (k t:Nat) v,vars[k]? = some t→env[k]? = some v→(∀ (i:Nat) o,ops[i]? = some o→o.dst=some t → ¬ S i) → ∃ v',a.tmps[t]? = some v' ∧ VR ρ v v'
def Inv (S:Nat→Prop) (a:Act) (w:World):Prop:=∃ b G ρ,InvC ops sops hs vq env vars N base G0 ρ0 w0 a0 S a w b G ρ
end region
structure Ctx (P:Program) (ops:Array Oper) (sops:List SOp) (nd:Nat→List Nat) (hs:Nat→Heap) (vq:Nat→Value) (env:lVq) (vars:List Nat) (N:Nat) (base:Nat) (G0:Nat→Option AObj) (ρ0:Ren) (w0:World):Prop where
 ok:RegOk P N vars ops sops nd
 run:RunAt P sops env hs vq
 into:(hs 0).into G0
 fresh:Fresh ρ0 (hs 0).next (hs sops.length).next
 sim:Sim base G0 ρ0 w0
section
variable {ops:Array Oper}{sops:List SOp}{nd:Nat→List Nat}{hs:Nat→Heap}{vq:Nat→Value}{env:lVq}{vars:List Nat}{N:Nat}{base:Nat}{G0:Nat→Option AObj}{ρ0:Ren}{w0:World}{a0:Act}
variable (C:Ctx P ops sops nd hs vq env vars N base G0 ρ0 w0)
include C
theorem Ctx.stepAt {p:Nat}(hp:p < sops.length):(hs p).step (hs (p + 1)) :=
 C.run.elim fun _ hr=>(hr p sops[p] (List.getElem?_eq_getElem hp)).step
theorem Ctx.mono:∀ {p q:Nat},p≤q→q≤sops.length→(hs p).step (hs q):=by
 intro p q hpq hq;induction q with
 | zero =>
  obtain rfl:p=0:=by omega
  exact Heap.step.refl _
 | succ q ih =>
  by_cases e:p=q + 1
  ·subst e;exact Heap.step.refl _
  ·exact (ih (by omega) (by omega)).trans (C.stepAt (by omega))
theorem Ctx.calm {p:Nat}{s:SOp}(hp:sops[p]? = some s) (he:s.k.isE=false) :
  hs (p + 1)=hs p ∨ ∃ cells,hs (p + 1)=(hs p).alloc (.blk cells true):=by
 obtain ⟨ds,hrun⟩:=C.run;obtain ⟨wd,_,_,hd⟩:=hrun p s hp;split at hd
 ·obtain ⟨vs,_,ha,_⟩:=hd;unfold ActT at ha;split at ha
  ·exact .inl ha.2
  ·exact .inl ha.2
  ·obtain ⟨cells,mk,_,_,h⟩:=ha;exact .inr ⟨cells,h⟩
  ·rename_i hk;rw [hk] at he;simp [K.isE] at he
  ·rename_i hk;rw [hk] at he;simp [K.isE] at he
  ·rename_i hk;rw [hk] at he;simp [K.isE] at he
 ·exact .inl hd.2
theorem Ctx.intoAt {S:Nat→Prop}{a:Act}{w:World}{b:Nat}{G:Nat→Option AObj}{ρ:Ren}(hI:InvC ops sops hs vq env vars N base G0 ρ0 w0 a0 S a w b G ρ) :
  ∀ {p:Nat},b≤p→p≤sops.length→(∀ (q:Nat) s,b≤q→q < p→sops[q]? = some s→S s.j∧s.k.isE=false)→(hs p).into G:=by
 intro p hbp hp hall;induction p with
 | zero =>
  obtain rfl:b=0:=by omega
  exact fun id o h=>(hI.gspec id o).2 (.inl h)
 | succ p ih =>
  by_cases e:b=p + 1
  ·subst e;exact fun id o h=>(hI.gspec id o).2 (.inl h)
  ·have ih:=ih (by omega) (by omega) fun q s h1 h2 h3=>hall q s h1 (by omega) h3;have hg:=List.getElem?_eq_getElem (show p < sops.length by omega);obtain ⟨hS,hE⟩:=hall p _ (by omega) (by omega) hg;intro id o h;rcases C.calm hg hE with hc | ⟨cells,hc⟩
   ·rw [hc] at h;exact ih id o h
   ·by_cases e2:id=(hs p).next
    ·exact (hI.gspec id o).2 (.inr (.inl ⟨p,_,by omega,hg,hS,e2.symm,by rw [hc,e2];simp,h⟩))
    ·rw [hc,Heap.get_alloc,if_neg e2] at h;exact ih id o h
theorem Ctx.freshAt {S:Nat→Prop}{a:Act}{w:World}{b:Nat}{G:Nat→Option AObj}{ρ:Ren}(hI:InvC ops sops hs vq env vars N base G0 ρ0 w0 a0 S a w b G ρ)
  {p:Nat}{s:SOp}(hp:sops[p]? = some s) (hbp:b≤p) (hn:¬ S s.j):Fresh ρ (hs p).next (hs (p + 1)).next:=by
 intro id h1 h2;have hlt:p < sops.length:=(List.getElem?_eq_some_iff.1 hp).1;have hGn:G id=none:=by
  cases hG:G id with
  | none=>rfl
  | some o =>
   exfalso;rcases (hI.gspec id o).1 hG with h | ⟨q,s',hbq,hq,hS,hid,hid2,_⟩ | ⟨_,h,_⟩
   ·have:=Heap.lt_of_get h;have:=(C.mono hbp (by omega)).next;omega
   ·have hqlt:q < sops.length:=(List.getElem?_eq_some_iff.1 hq).1;rcases Nat.lt_trichotomy q p with h | h | h
    ·have:=(C.mono (show q + 1≤p by omega) (by omega)).next;omega
    ·subst h;rw [hp] at hq;cases hq;exact hn hS
    ·have:=(C.mono (show p + 1≤q by omega) (by omega)).next;omega
   ·have a1:=(C.mono (Nat.zero_le p) (by omega)).next;have a2:=(C.mono (show p + 1≤sops.length by omega) (Nat.le_refl _)).next;omega
 have:=hI.sim.dom id;rw [hGn] at this;cases hr:ρ id with
 | none=>rfl
 | some l=>rw [hr] at this;simp at this
omit C in
theorem Ctx.args {S:Nat→Prop}{a:Act}{w:World}{b:Nat}{G:Nat→Option AObj}{ρ:Ren}(hI:InvC ops sops hs vq env vars N base G0 ρ0 w0 a0 S a w b G ρ)
  {p:Nat}{j:Nat}(hn:¬ S j) (hnd:∀ i ∈ nd j,S i) (hcl:∀ i,S i → ∀ k ∈ nd i,S k):∀ {xs:List Operand}{rs:List Arg},All2 (qd1 ops sops vars nd p j) xs rs → ∀ {vs:lVq},evs (Ul vq p) env rs=some vs→VRs ρ vs (xs.map a.eval)
 | _,_,.nil,vs,h=>by cases h;exact .nil
 | x::xs,r::rs,.cons hx hr,vs,h=>by
  simp only [evs] at h;split at h<;>first | (cases h;done) | skip
  rename_i v l hv hl;cases h;refine .cons _ _ _ _ ?_ (Ctx.args hI hn hnd hcl hr hl);unfold qd1 at hx;split at hx
  ·rename_i t d;obtain ⟨hd,s,o,h1,h2,h3,h4⟩:=hx;simp only [Arg.ev] at hv;rw [Qc vq p d hd] at hv;cases hv;obtain ⟨v',h5,h6⟩:=hI.tmps _ s o t h1 h2 h3 (hnd _ h4);simp only [Act.eval];have:a.tmps.getD t undef=v':=by simp [Array.getD_eq_getD_getElem?,h5]
   rw [this];exact h6
  ·rename_i t k;obtain ⟨h1,h2⟩:=hx;simp only [Arg.ev] at hv;obtain ⟨v',h5,h6⟩:=hI.vars k t v h1 hv fun i o hi ho hS=>by
    rcases h2 i o hi ho with rfl | h
    ·exact hn hS
    ·exact hn (hcl i hS j h)
   simp only [Act.eval];have:a.tmps.getD t undef=v':=by simp [Array.getD_eq_getD_getElem?,h5]
   rw [this];exact h6
  ·obtain ⟨rfl,h2⟩:=hx;simp only [Arg.ev] at hv;cases hv;exact .same _ h2
  ·subst hx;simp only [Arg.ev] at hv;cases hv;exact .func _ [] [] [] [] .nil .nil
  ·exact hx.elim
omit C in
theorem Ctx.wanted {S:Nat→Prop}{a:Act}{w:World}{b:Nat}{G:Nat→Option AObj}{ρ:Ren}(hI:InvC ops sops hs vq env vars N base G0 ρ0 w0 a0 S a w b G ρ)
  {p j:Nat}(hnd:∀ i ∈ nd j,S i){o:Oper}{g:Option (Nat × Bool)}(hg:zj5 ops sops nd p j o.guard g){wd:Bool}(hw:vx g (Ul vq p)=some wd):Region.wanted o (yielded ops a.tmps)=wd:=by
 unfold zj5 at hg;split at hg
 ·rename_i hgn;simp only [vx] at hw;cases hw;simp [Region.wanted,hgn]
 ·rename_i gi want d want' hgn;obtain ⟨rfl,hd,s,o',t,h1,rfl,h2,h3,h4⟩:=hg;simp only [vx] at hw;rw [Qc vq p d hd] at hw;simp at hw;obtain ⟨v',h5,h6⟩:=hI.tmps _ s o' t h1 h2 h3 (hnd _ h4);simp only [Region.wanted,hgn,yielded,h2,Option.bind_some,h3,h5];generalize vq (p - 1 - d)=x at *;rw [← hw];cases h6
  case same hpl=>cases v' <;> simp
  all_goals simp
 ·exact hg.elim
end
end Go.Eng
namespace Go.Eng
open Go
variable {P:Program}
theorem Act.put_get {a:Act}{dst:Option Tmp}{v:Value}{d:Nat}(h:dst≠some d):(a.put dst v).tmps[d]? = a.tmps[d]?:=by
 cases dst with
 | none=>rfl
 | some t =>
  have:t≠d:=fun e=>h (by rw [e]);simp [Act.put,Array.getElem?_setIfInBounds_ne this]
theorem Act.put_same {a:Act}{d:Nat}{v:Value}(h:d < a.tmps.size):(a.put (some d) v).tmps[d]? = some v:=by
 simp [Act.put,h]
theorem Act.put_size (a:Act) (dst:Option Tmp) (v:Value):(a.put dst v).tmps.size=a.tmps.size:=by
 cases dst<;>simp [Act.put]
theorem Act.put_defers' (a:Act) (dst:Option Tmp) (v:Value):(a.put dst v).defers=a.defers:=by
 cases dst<;>simp [Act.put]
section
variable {ops:Array Oper}{sops:List SOp}{nd:Nat→List Nat}{hs:Nat→Heap}{vq:Nat→Value}{env:lVq}{vars:List Nat}{N:Nat}{base:Nat}{G0:Nat→Option AObj}{ρ0:Ren}{w0:World}{a0:Act}
variable (C:Ctx P ops sops nd hs vq env vars N base G0 ρ0 w0)
include C
theorem Ctx.put {S:Nat→Prop}{a:Act}{w:World}{b:Nat}{G:Nat→Option AObj}{ρ:Ren}(hI:InvC ops sops hs vq env vars N base G0 ρ0 w0 a0 S a w b G ρ)
  {p:Nat}{s:SOp}(hp:sops[p]? = some s){o:Oper}(ho:ops[s.j]? = some o){b' : Nat}{G' : Nat→Option AObj}{ρ' : Ren}{w' : World}{v' : Value}
  (hb:b' ≤ sops.length) (hbE:∀ (q:Nat) s',sops[q]? = some s' → s'.k.isE=true→((S s'.j∨s'.j=s.j)↔q < b')) (hbS:∀ (q:Nat) s',q < b' → sops[q]? = some s' → S s'.j∨s'.j=s.j)
  (hg:∀ id o,G' id=some o↔GSpec sops hs G0 (fun i=>S i∨i=s.j) b' id o) (hag:Agree ρ0 ρ' (hs 0).next (hs sops.length).next) (hle:ρ.le ρ') (hsim:Sim base G' ρ' w') (hst:WStep base w w') (hv:VR ρ' (vq p) v') :
  InvC ops sops hs vq env vars N base G0 ρ0 w0 a0 (fun i=>S i∨i=s.j) (a.put o.dst v') w' b' G' ρ' where
 ble:=hb
 bE:=hbE
 bS:=hbS
 gspec:=hg
 agree:=hag
 sim:=hsim
 step:=hI.step.trans hst
 size:=by rw [Act.put_size];exact hI.size
 defers:=by rw [Act.put_defers'];exact hI.defers
 tmps:=fun q s' o' d hq ho' hd hS=>by
  by_cases e:s'.j=s.j
  ·obtain rfl:=C.ok.inj q p s' s hq hp e;rw [hp] at hq;cases hq;rw [ho] at ho';cases ho';rw [hd];exact ⟨v',Act.put_same (by rw [hI.size];exact C.ok.dlt _ _ _ ho hd),hv⟩
  ·obtain ⟨v'',h1,h2⟩:=hI.tmps q s' o' d hq ho' hd (hS.resolve_right e);refine ⟨v'',?_,VR.mono hle h2⟩;rw [Act.put_get fun hod=>e (C.ok.dst _ _ _ _ _ ho' ho hd hod)];exact h1
 vars:=fun k t v hk hkv hno=>by
  obtain ⟨v'',h1,h2⟩:=hI.vars k t v hk hkv fun i oi hi hoi hS=>hno i oi hi hoi (.inl hS);refine ⟨v'',?_,VR.mono hle h2⟩;rw [Act.put_get fun hod=>hno _ _ ho hod (.inr rfl)];exact h1
theorem Ctx.same {S:Nat→Prop}{a:Act}{w:World}{b:Nat}{G:Nat→Option AObj}{ρ:Ren}(hI:InvC ops sops hs vq env vars N base G0 ρ0 w0 a0 S a w b G ρ)
  {p:Nat}{s:SOp}(hp:sops[p]? = some s) (hnd:∀ i ∈ nd s.j,S i) (hn:¬ S s.j){o:Oper}(ho:ops[s.j]? = some o) (hh:hs (p + 1)=hs p){v' : Value}(hv:VR ρ (vq p) v') :
  Inv ops sops hs vq env vars N base G0 ρ0 w0 a0 (fun i=>S i∨i=s.j) (a.put o.dst v') w:=by
 have hplt:p < sops.length:=(List.getElem?_eq_some_iff.1 hp).1;have hbp:b≤p:=by
  rcases Nat.lt_or_ge p b with h | h
  ·exact absurd (hI.bS p s h hp) hn
  ·exact h
 by_cases he:s.k.isE=true
 · -- an effect that is not carried out: all ahead of it has come up
  have hall:∀ (q:Nat) s',q < p→sops[q]? = some s' → S s'.j:=fun q s' hq hs'=>hnd _ (C.ok.eff p q s s' hp he hq hs');have hall2:∀ (q:Nat) s',b≤q→q < p→sops[q]? = some s' → S s'.j∧s'.k.isE=false:=fun q s' h1 h2 h3=>⟨hall q s' h2 h3,by
   cases hE:s'.k.isE with
   | false=>rfl
   | true=>exact absurd ((hI.bE q s' h3 hE).1 (hall q s' h2 h3)) (by omega)⟩
  have hinto:=C.intoAt hI hbp (by omega) hall2;refine ⟨p + 1,G,ρ,C.put hI hp ho (by omega) (fun q s' hq hE=>?_) (fun q s' hq hs'=>?_) (fun id oo=>?_) hI.agree (Ren.le_refl _) hI.sim (WStep.refl _ _) hv⟩
  ·constructor
   ·rintro (h | h)
    ·have:=(hI.bE q s' hq hE).1 h;omega
    ·have:=C.ok.inj q p s' s hq hp h;omega
   ·intro h;by_cases e:q=p
    ·subst e;rw [hp] at hq;cases hq;exact .inr rfl
    ·exact .inl (hall q s' (by omega) hq)
  ·by_cases e:q=p
   ·subst e;rw [hp] at hs';cases hs';exact .inr rfl
   ·exact .inl (hall q s' (by omega) hs')
  ·rw [hI.gspec];constructor
   ·rintro (h | ⟨q,s',hbq,hq,hS,h1,h2,h3⟩ | ⟨h1,h2,h3⟩)
    ·left;have hg:=(hI.gspec id oo).2 (.inl h);have hd:=(C.mono hbp (by omega)).dom id (by rw [h];rfl);cases hx:(hs p).get id with
     | none=>rw [hx] at hd;simp at hd
     | some o2=>rw [hh,hx];have:=hinto id o2 hx;rw [hg] at this;exact this.symm
    ·by_cases hqp:q < p
     ·left;have hg:=(hI.gspec id oo).2 (.inr (.inl ⟨q,s',hbq,hq,hS,h1,h2,h3⟩));have hd:=(C.mono (show q + 1≤p by omega) (by omega)).dom id (by rw [h3];rfl);cases hx:(hs p).get id with
      | none=>rw [hx] at hd;simp at hd
      | some o2=>rw [hh,hx];have:=hinto id o2 hx;rw [hg] at this;exact this.symm
     ·by_cases e:q=p
      ·subst e;rw [hp] at hq;cases hq;exact absurd hS hn
      ·exact .inr (.inl ⟨q,s',by omega,hq,.inl hS,h1,h2,h3⟩)
    ·right;right;refine ⟨?_,h2,h3⟩;rw [hh];cases hx:(hs p).get id with
     | none=>rfl
     | some o2 =>
      exfalso;have hlt:=Heap.lt_of_get hx;have hm:=(C.mono (show p≤sops.length by omega) (Nat.le_refl _)).next;have hlt0:id < (hs 0).next:=by omega
      cases h0:(hs 0).get id with
      | none=>have:=(C.mono (Nat.zero_le p) (by omega)).back id hlt0 h0;rw [hx] at this;cases this
      | some o3=>have:=(C.mono (Nat.zero_le b) hI.ble).dom id (by rw [h0];rfl);rw [h1] at this;simp at this
   ·rintro (h | ⟨q,s',hbq,hq,hS,h1,h2,h3⟩ | ⟨h1,h2,h3⟩)
    ·rw [hh] at h;exact (hI.gspec id oo).1 (hinto id oo h)
    ·rcases hS with hS | hS
     ·exact .inr (.inl ⟨q,s',by omega,hq,hS,h1,h2,h3⟩)
     ·have:=C.ok.inj q p s' s hq hp hS;omega
    ·right;right;refine ⟨?_,h2,h3⟩;cases hx:(hs b).get id with
     | none=>rfl
     | some o2=>have:=(C.mono (show b≤p + 1 by omega) (by omega)).dom id (by rw [hx];rfl);rw [h1] at this;simp at this
 ·have he' : s.k.isE=false:=by simpa using he
  refine ⟨b,G,ρ,C.put hI hp ho hI.ble (fun q s' hq hE=>?_) (fun q s' hq hs'=>.inl (hI.bS q s' hq hs')) (fun id oo=>?_) hI.agree (Ren.le_refl _) hI.sim (WStep.refl _ _) hv⟩
  ·constructor
   ·rintro (h | h)
    ·exact (hI.bE q s' hq hE).1 h
    ·obtain rfl:=C.ok.inj q p s' s hq hp h;rw [hp] at hq;cases hq;exact absurd hE he
   ·intro h;exact .inl ((hI.bE q s' hq hE).2 h)
  ·rw [hI.gspec];constructor
   ·rintro (h | ⟨q,s',hbq,hq,hS,h1,h2,h3⟩ | h)
    ·exact .inl h
    ·exact .inr (.inl ⟨q,s',hbq,hq,.inl hS,h1,h2,h3⟩)
    ·exact .inr (.inr h)
   ·rintro (h | ⟨q,s',hbq,hq,hS,h1,h2,h3⟩ | h)
    ·exact .inl h
    ·rcases hS with hS | hS
     ·exact .inr (.inl ⟨q,s',hbq,hq,hS,h1,h2,h3⟩)
     ·obtain rfl:=C.ok.inj q p s' s hq hp hS;rw [hh] at h2;omega
    ·exact .inr (.inr h)
theorem Ctx.made {S:Nat→Prop}{a:Act}{w:World}{b:Nat}{G:Nat→Option AObj}{ρ:Ren}(hI:InvC ops sops hs vq env vars N base G0 ρ0 w0 a0 S a w b G ρ)
  {p:Nat}{s:SOp}(hp:sops[p]? = some s) (hn:¬ S s.j) (he:s.k.isE=false){o:Oper}(ho:ops[s.j]? = some o){cells:lVq}(hh:hs (p + 1)=(hs p).alloc (.blk cells true)){l:Loc}{v' : Value}{w' : World}
  (hv:VR (ρ.put (hs p).next l) (vq p) v') (hS:Sim base (vl G (hs p).next (.blk cells true)) (ρ.put (hs p).next l) w') (hst:WStep base w w') :
  Inv ops sops hs vq env vars N base G0 ρ0 w0 a0 (fun i=>S i∨i=s.j) (a.put o.dst v') w':=by
 have hplt:p < sops.length:=(List.getElem?_eq_some_iff.1 hp).1;have hbp:b≤p:=by
  rcases Nat.lt_or_ge p b with h | h
  ·exact absurd (hI.bS p s h hp) hn
  ·exact h
 have hfr:=C.freshAt hI hp hbp hn;have hid:ρ (hs p).next=none:=hfr _ (Nat.le_refl _) (by rw [hh];simp);have hGid:G (hs p).next=none:=by
  have:=hI.sim.dom (hs p).next;rw [hid] at this;cases hx:G (hs p).next with
  | none=>rfl
  | some _=>rw [hx] at this;simp at this
 have m0:=(C.mono (Nat.zero_le p) (by omega)).next;have m1:=(C.mono (show p + 1≤sops.length by omega) (Nat.le_refl _)).next;rw [hh] at m1;simp only [Heap.next_alloc] at m1;refine ⟨b,_,_,C.put hI hp ho hI.ble (fun q s' hq hE=>?_) (fun q s' hq hs'=>.inl (hI.bS q s' hq hs')) (fun id oo=>?_) (fun id hid2=>?_) (Ren.le_put hid l) hS hst hv⟩
 ·constructor
  ·rintro (h | h)
   ·exact (hI.bE q s' hq hE).1 h
   ·obtain rfl:=C.ok.inj q p s' s hq hp h;rw [hp] at hq;cases hq;rw [hE] at he;cases he
  ·intro h;exact .inl ((hI.bE q s' hq hE).2 h)
 ·unfold vl;by_cases e:id=(hs p).next
  ·subst e;simp only [if_true];constructor
   ·intro h;cases h;exact .inr (.inl ⟨p,s,hbp,hp,.inr rfl,rfl,by rw [hh];simp,by rw [hh];simp⟩)
   ·rintro (h | ⟨q,s',hbq,hq,hS,h1,h2,h3⟩ | ⟨h1,h2,h3⟩)
    ·have:=(hI.gspec _ oo).2 (.inl h);rw [hGid] at this;cases this
    ·rcases hS with hS | hS
     ·have:=(hI.gspec _ oo).2 (.inr (.inl ⟨q,s',hbq,hq,hS,h1,h2,h3⟩));rw [hGid] at this;cases this
     ·obtain rfl:=C.ok.inj q p s' s hq hp hS;rw [hh] at h3;simpa using h3
    ·omega
  ·rw [if_neg e,hI.gspec];constructor
   ·rintro (h | ⟨q,s',hbq,hq,hS,h1,h2,h3⟩ | h)
    ·exact .inl h
    ·exact .inr (.inl ⟨q,s',hbq,hq,.inl hS,h1,h2,h3⟩)
    ·exact .inr (.inr h)
   ·rintro (h | ⟨q,s',hbq,hq,hS,h1,h2,h3⟩ | h)
    ·exact .inl h
    ·rcases hS with hS | hS
     ·exact .inr (.inl ⟨q,s',hbq,hq,hS,h1,h2,h3⟩)
     ·obtain rfl:=C.ok.inj q p s' s hq hp hS;exact absurd h1.symm e
    ·exact .inr (.inr h)
 ·have:id≠(hs p).next:=by omega
  simp only [Ren.put,this,if_false];exact hI.agree id hid2
theorem Ctx.done {S:Nat→Prop}{a:Act}{w:World}{b:Nat}{G:Nat→Option AObj}{ρ:Ren}(hI:InvC ops sops hs vq env vars N base G0 ρ0 w0 a0 S a w b G ρ)
  {p:Nat}{s:SOp}(hp:sops[p]? = some s) (hnd:∀ i ∈ nd s.j,S i) (hn:¬ S s.j) (he:s.k.isE=true){o:Oper}(ho:ops[s.j]? = some o){ρ' : Ren}{v' : Value}{w' : World}
  (hok:StepOk base G ρ w (hs p) (hs (p + 1)) (vq p) v' ρ' w') :
  Inv ops sops hs vq env vars N base G0 ρ0 w0 a0 (fun i=>S i∨i=s.j) (a.put o.dst v') w':=by
 have hplt:p < sops.length:=(List.getElem?_eq_some_iff.1 hp).1;have hbp:b≤p:=by
  rcases Nat.lt_or_ge p b with h | h
  ·exact absurd (hI.bS p s h hp) hn
  ·exact h
 have hall:∀ (q:Nat) s',q < p→sops[q]? = some s' → S s'.j:=fun q s' hq hs'=>hnd _ (C.ok.eff p q s s' hp he hq hs');have hall2:∀ (q:Nat) s',b≤q→q < p→sops[q]? = some s' → S s'.j∧s'.k.isE=false:=fun q s' h1 h2 h3=>⟨hall q s' h2 h3,by
  cases hE:s'.k.isE with
  | false=>rfl
  | true=>exact absurd ((hI.bE q s' h3 hE).1 (hall q s' h2 h3)) (by omega)⟩
 have hinto:=C.intoAt hI hbp (by omega) hall2;have hfr:=C.freshAt hI hp hbp hn;have m0:=(C.mono (Nat.zero_le p) (by omega)).next;have m1:=(C.mono (show p + 1≤sops.length by omega) (Nat.le_refl _)).next;have m2:=(C.stepAt hplt).next;refine ⟨p + 1,_,_,C.put hI hp ho (by omega) (fun q s' hq hE=>?_) (fun q s' hq hs'=>?_) (fun id oo=>?_) (fun id hid2=>?_) (hok.agree.le hfr) hok.sim hok.step hok.val⟩
 ·constructor
  ·rintro (h | h)
   ·have:=(hI.bE q s' hq hE).1 h;omega
   ·have:=C.ok.inj q p s' s hq hp h;omega
  ·intro h;by_cases e:q=p
   ·subst e;rw [hp] at hq;cases hq;exact .inr rfl
   ·exact .inl (hall q s' (by omega) hq)
 ·by_cases e:q=p
  ·subst e;rw [hp] at hs';cases hs';exact .inr rfl
  ·exact .inl (hall q s' (by omega) hs')
 ·unfold vv;cases hx:(hs (p + 1)).get id with
  | some o2 =>
   simp only [Option.some_or];constructor
   ·intro h;cases h;exact .inl hx
   ·rintro (h | ⟨q,s',hbq,hq,hS,h1,h2,h3⟩ | ⟨h1,h2,h3⟩)
    ·rw [hx] at h;exact h
    ·have:=Heap.lt_of_get hx;have:=(C.mono hbq (by have:=(List.getElem?_eq_some_iff.1 hq).1;omega)).next;omega
    ·rw [hx] at h1;cases h1
  | none =>
   simp only [Option.none_or];rw [hI.gspec];have hpn:(hs p).get id=none:=by
    cases hy:(hs p).get id with
    | none=>rfl
    | some o2=>have:=(C.stepAt hplt).dom id (by rw [hy];rfl);rw [hx] at this;simp at this
   constructor
   ·rintro (h | ⟨q,s',hbq,hq,hS,h1,h2,h3⟩ | ⟨h1,h2,h3⟩)
    ·have:=(C.mono hbp (by omega)).dom id (by rw [h];rfl);rw [hpn] at this;simp at this
    ·by_cases hqp:q < p
     ·have:=(C.mono (show q + 1≤p by omega) (by omega)).dom id (by rw [h3];rfl);rw [hpn] at this;simp at this
     ·by_cases e:q=p
      ·subst e;rw [hp] at hq;cases hq;exact absurd hS hn
      ·exact .inr (.inl ⟨q,s',by omega,hq,.inl hS,h1,h2,h3⟩)
    ·exact .inr (.inr ⟨hx,h2,h3⟩)
   ·rintro (h | ⟨q,s',hbq,hq,hS,h1,h2,h3⟩ | ⟨h1,h2,h3⟩)
    ·rw [hx] at h;cases h
    ·rcases hS with hS | hS
     ·exact .inr (.inl ⟨q,s',by omega,hq,hS,h1,h2,h3⟩)
     ·have:=C.ok.inj q p s' s hq hp hS;omega
    ·refine .inr (.inr ⟨?_,h2,h3⟩);cases hy:(hs b).get id with
     | none=>rfl
     | some o2=>have:=(C.mono hbp (by omega)).dom id (by rw [hy];rfl);rw [hpn] at this;simp at this
 ·rw [hok.agree id (by omega)];exact hI.agree id hid2
end
end Go.Eng
namespace Go.Eng
open Go
variable {P:Program}
theorem zx6 {ρ:Ren}{ev:Operand→Value}{op:Op}{k:WK}{xs:List Operand}(hk:zm P op=some (.w k,xs)){vs:lVq}(hv:VRs ρ vs (xs.map ev)){base:Nat}{G:Nat→Option AObj}{w:World}(hS:Sim base G ρ w){h h' : Heap}(hG:h.into G)
  {v:Value}(hw:aW k vs h=some (v,h')) (hfr:Fresh ρ h.next h'.next):∃ v' ρ' w',zb5 P ev op w v' w' ∧ StepOk base G ρ w h h' v v' ρ' w':=by
 cases op with
 | store t a x =>
  simp only [zm] at hk;cases hs:sizeOf? P t with
  | none=>rw [hs] at hk;cases hk
  | some s =>
   rw [hs] at hk;cases hk;obtain ⟨w',h1,h2⟩:=store_ok hs hv hS hG hw;exact ⟨_,_,w',h1,h2⟩
 | call c =>
  simp only [zm,zt2] at hk;split at hk
  ·unfold kLen zt1 at hk
   (repeat' split at hk)<;>first | (cases hk;done) | (simp at hk;done)
  ·rename_i hcal;unfold Y1 at hk;split at hk<;>first | (cases hk;done) | skip
   rename_i xs' xx t u hargs hts;have ea:c.args = #[xs',xx]:=by rw [← Array.toList_inj];exact hargs
   have et:c.argTypes = #[t,u]:=by rw [← Array.toList_inj];exact hts
   split at hk<;>first | (cases hk;done) | skip
   rename_i e ht;split at hk<;>first | (cases hk;done) | skip
   rename_i s b z hs hb hz;split at hk<;>first | (cases hk;done) | skip
   rename_i hcond;obtain ⟨hzl,hs0,hu⟩:=hcond;have hu' : (∃ f,P.underlying u=some (.slice f))∨P.underlying u=some .string:=by
    unfold yl4 at hu;split at hu
    ·rename_i f hf;exact .inl ⟨f,hf⟩
    ·rename_i hf;exact .inr hf
    ·cases hu
   split at hk
   ·rename_i hk1;obtain ⟨rfl,_⟩:=hk1;cases hk;obtain ⟨v',ρ',w',h1,h2⟩:=yi5 (P:=P) (ty:=0) ht hu' hs hb hz hzl hs0 hv hS hG hw hfr;refine ⟨v',ρ',w',fun o ho=>.inl ?_,h2⟩;have h3:∀ ty,(Builtin.append_ #[t,u] ty #[ev xs',ev xx])=(Builtin.append_ #[t,u] 0 #[ev xs',ev xx]):=fun ty=>rfl;simp only [execOp,ho,resolve,hcal,ea,et,Sem.run_bind,Sem.run_pure,Result.andThen_ok,invoke,builtin];rw [show (#[xs',xx]:Array Operand).map ev = #[ev xs',ev xx] by simp,h3,h1];rfl
   cases hk
   obtain ⟨v',ρ',w',h1,h2⟩:=qb5 (P:=P) (ty:=0) ht hu' hs hb hz hzl hs0 hv hS hG hw hfr;refine ⟨v',ρ',w',fun o ho=>.inl ?_,h2⟩;have h3:∀ ty,(Builtin.append_ #[t,u] ty #[ev xs',ev xx])=(Builtin.append_ #[t,u] 0 #[ev xs',ev xx]):=fun ty=>rfl;simp only [execOp,ho,resolve,hcal,ea,et,Sem.run_bind,Sem.run_pure,Result.andThen_ok,invoke,builtin];rw [show (#[xs',xx]:Array Operand).map ev = #[ev xs',ev xx] by simp,h3,h1];rfl
  ·unfold yr5 at hk;(repeat' split at hk)<;>first | (cases hk;done) | (simp at hk;done)
  ·unfold yr5 at hk;(repeat' split at hk)<;>first | (cases hk;done) | (simp at hk;done)
  ·rename_i hcal;unfold Wz at hk;split at hk<;>first | (cases hk;done) | skip
   rename_i x0 t0 hargs hts;have ea:c.args = #[x0]:=by rw [← Array.toList_inj];exact hargs
   have et:c.argTypes = #[t0]:=by rw [← Array.toList_inj];exact hts
   split at hk<;>first | (cases hk;done) | skip
   rename_i e ht;split at hk<;>first | (cases hk;done) | skip
   rename_i s z hs hz;split at hk<;>first | (cases hk;done) | skip
   rename_i hzl;cases hk;obtain ⟨w',h1,h0,h2⟩:=clear_ok (P:=P) (ty:=0) ht hz hzl hv hS hG hw;refine ⟨.tuple #[],ρ,w',fun o ho=>.inl ?_,h2⟩;have h3:∀ ty,(Builtin.clear_ #[t0] ty #[ev x0])=(Builtin.clear_ #[t0] 0 #[ev x0]):=fun ty=>rfl;simp only [execOp,ho,resolve,hcal,ea,et,Sem.run_bind,Sem.run_pure,Result.andThen_ok,invoke,builtin];rw [show (#[x0]:Array Operand).map ev = #[ev x0] by simp,h3,h1];rfl
  ·unfold wv at hk;(repeat' split at hk)<;>first | (cases hk;done) | (simp at hk;done)
  ·rename_i hcal;unfold Y0 at hk;split at hk<;>first | (cases hk;done) | skip
   rename_i xp xn pt it hargs hts;have ea:c.args = #[xp,xn]:=by rw [← Array.toList_inj];exact hargs
   have et:c.argTypes = #[pt,it]:=by rw [← Array.toList_inj];exact hts
   split at hk<;>first | (cases hk;done) | skip
   rename_i e hp;split at hk<;>first | (cases hk;done) | skip
   rename_i hc1;cases hk;obtain ⟨v',w',h1,h2⟩:=yk4 (P:=P) (it:=it) (ty:=0) hp hc1 hv hS hG hw;refine ⟨v',ρ,w',fun o ho=>.inl ?_,h2⟩;have h3:∀ ty,(Builtin.unsafeString_ #[pt,it] ty #[ev xp,ev xn])=(Builtin.unsafeString_ #[pt,it] 0 #[ev xp,ev xn]):=fun ty=>rfl;simp only [execOp,ho,resolve,hcal,ea,et,Sem.run_bind,Sem.run_pure,Result.andThen_ok,invoke,builtin];rw [show (#[xp,xn]:Array Operand).map ev = #[ev xp,ev xn] by simp,h3,h1];rfl
  ·cases hk
  ·(repeat' split at hk)<;>cases hk
  ·cases hk
  ·cases hk
 | convert s d x =>
  simp only [zm] at hk;split at hk
  ·cases hk
  ·cases hk
  ·rename_i e h1 h2;split at hk<;>first | (cases hk;done) | skip
   rename_i h3;cases hk;exact zr6 h1 h2 h3 hv hS hG hw hfr
  ·(repeat' split at hk)<;>cases hk
  ·unfold U8 at hk;split at hk<;>cases hk
  ·unfold U9 at hk;split at hk<;>cases hk
  ·cases hk
 | alloc e =>
  simp only [zm,W0] at hk;cases hz:zero? P e with
  | none=>rw [hz] at hk;cases hk
  | some z =>
   rw [hz,Option.map_some] at hk;split at hk<;>first | (cases hk;done) | skip
   cases hk
   cases hv
   simp only [aW] at hw;cases hw;obtain ⟨zv,h1,h2,h3,h4⟩:=kh hz;have hid:ρ h.next=none:=hfr h.next (Nat.le_refl _) (by simp);have hsim:=zd6 hS hid e (cells:=z) (cs:=zv.cells) (by rw [← h2];simp) (by
    have:=Z3 (ρ:=ρ) (VRs.plain h3) h4;rw [← h2] at this ⊢;simpa using this) true (fun _=>by rw [← h2];simp)
   exact ⟨.pointer (some ⟨w.heap.size,0,none⟩),_,_,fun o ho=>.inl (by simp [execOp,ho,Instr.alloc,h1,newVar,newRow]),Agree.put _ _ _,.ptr h.next 0 ⟨w.heap.size,0,zv.cells.size⟩ (by simp [Ren.put]),Sim.congr hsim.1 (wt hG _),hsim.2⟩
 | box e x =>
  simp only [zm] at hk;split at hk<;>first | (cases hk;done) | skip
  cases hk
  obtain ⟨a,rfl,ha⟩:=VRs.one_r hv;simp only [aW] at hw;split at hw<;>first | (cases hw;done) | skip
  rename_i hall;cases hw;have hid:ρ h.next=none:=hfr h.next (Nat.le_refl _) (by simp);have hcl:=ha.cells;have hsim:=zd6 hS hid e (cells:=a.cells.toList) (cs:=(ev x).cells) (by rw [hcl.length];simp) (by
   have:=Z3 hcl (fun c hc=>List.all_eq_true.1 hall c hc);simpa using this) true (fun _=>by rw [hcl.length];simp)
  exact ⟨.pointer (some ⟨w.heap.size,0,none⟩),_,_,fun o ho=>.inl (by simp [execOp,ho,Instr.box,newVar,newRow]),Agree.put _ _ _,.ptr h.next 0 ⟨w.heap.size,0,(ev x).cells.size⟩ (by simp [Ren.put]),Sim.congr hsim.1 (wt hG _),hsim.2⟩
 | makeMap t r =>
  simp only [zm] at hk;split at hk<;>first | (cases hk;done) | skip
  rename_i hr;cases hk;cases r with
  | some _=>simp at hr
  | none =>
  have hvs:vs=[]:=by cases hv;rfl
  subst hvs;simp only [aW] at hw;cases hw;exact mkmap_ok hS hG (hfr h.next (Nat.le_refl _) (by simp))
 | mapUpdate t m kk x =>
  simp only [zm] at hk;split at hk<;>first | (cases hk;done) | skip
  rename_i kt e ht;split at hk<;>first | (cases hk;done) | skip
  rename_i hkd;cases hk;obtain ⟨w',h1,h2⟩:=yq3 ht hkd hv hS hG hw;exact ⟨_,_,w',h1,h2⟩
 | makeFunc fn first captured=>exfalso;cases fn<;>simp [zm] at hk
 | slice t x lo hi mx=>exfalso;cases mx<;>simp only [zm,Qi] at hk<;>first | (cases hk;done) | ((repeat' split at hk)<;>first | (cases hk;done) | (simp at hk;done))
 | _=>exfalso;first | (cases hk;done) | (simp only [zm] at hk;(repeat' split at hk)<;>cases hk;done) | (simp [zm] at hk;done) | (simp only [zm,kBin,kNil,kPtr,kEqK] at hk;(repeat' split at hk)<;>first | (cases hk;done) | (simp at hk;done)) | (simp only [zm,za0] at hk;(repeat' split at hk)<;>first | (cases hk;done) | (simp at hk;done))
theorem zp0 {op:Op}{k:K}{xs:List Operand}(hk:zm P op=some (k,xs)) (hc:(∃ f,k = .call f)∨k = .callV) :
  ∃ (c:Call) (g:Operand) (as:List Operand),op = .call c∧c.callee = .value g∧c.args.toList=as∧((∃ f,k = .call f∧g = .func f∧xs=as)∨(k = .callV∧xs=g::as)):=by
 cases op with
 | call c =>
  simp only [zm,zt2] at hk;split at hk
  ·exfalso;unfold kLen zt1 at hk;(repeat' split at hk)<;>first | (cases hk;rcases hc with ⟨f,hc⟩ | hc<;>cases hc;done) | (cases hk;done)
  ·exfalso;unfold Y1 at hk;(repeat' split at hk)<;>first | (cases hk;rcases hc with ⟨f,hc⟩ | hc<;>cases hc;done) | (cases hk;done) | (simp at hk;done)
  ·exfalso;unfold yr5 at hk;(repeat' split at hk)<;>first | (cases hk;rcases hc with ⟨f,hc⟩ | hc<;>cases hc;done) | (cases hk;done)
  ·exfalso;unfold yr5 at hk;(repeat' split at hk)<;>first | (cases hk;rcases hc with ⟨f,hc⟩ | hc<;>cases hc;done) | (cases hk;done)
  ·exfalso;unfold Wz at hk;(repeat' split at hk)<;>first | (cases hk;rcases hc with ⟨f,hc⟩ | hc<;>cases hc;done) | (cases hk;done)
  ·exfalso;unfold wv at hk;(repeat' split at hk)<;>first | (cases hk;rcases hc with ⟨f,hc⟩ | hc<;>cases hc;done) | (cases hk;done)
  ·exfalso;unfold Y0 at hk;(repeat' split at hk)<;>first | (cases hk;rcases hc with ⟨f,hc⟩ | hc<;>cases hc;done) | (cases hk;done)
  ·cases hk
  ·rename_i f hcal;split at hk
   ·exfalso;split at hk<;>first | (cases hk;rcases hc with ⟨f,hc⟩ | hc<;>cases hc;done) | (cases hk;done)
   split at hk
   ·exfalso;split at hk<;>first | (cases hk;rcases hc with ⟨f,hc⟩ | hc<;>cases hc;done) | (cases hk;done)
   cases hk
   exact ⟨c,_,_,rfl,hcal,rfl,.inl ⟨f,rfl,rfl,rfl⟩⟩
  ·rename_i g _ hcal;cases hk;exact ⟨c,_,_,rfl,hcal,rfl,.inr ⟨rfl,rfl⟩⟩
  ·cases hk
 | alloc e =>
  exfalso;simp only [zm,W0] at hk;cases hz:zero? P e with
  | none=>rw [hz] at hk;cases hk
  | some z=>rw [hz,Option.map_some] at hk;split at hk<;>(cases hk;rcases hc with ⟨f,hc⟩ | hc<;>cases hc)
 | makeFunc fn first captured=>exfalso;cases fn<;>simp [zm] at hk;rcases hc with ⟨f,hc⟩ | hc<;>(rw [hc] at hk;simp at hk)
 | slice t x lo hi mx=>exfalso;cases mx<;>simp only [zm,Qi] at hk<;>first | (cases hk;done) | ((repeat' split at hk)<;>first | (cases hk;rcases hc with ⟨f,hc⟩ | hc<;>cases hc;done) | (simp at hk;rcases hc with ⟨f,hc⟩ | hc<;>(rw [hc] at hk;simp at hk);done) | (simp at hk;done))
 | _ =>
  exfalso;first
   | (cases hk;rcases hc with ⟨f,hc⟩ | hc<;>cases hc;done)
   | (simp only [zm,U8,U9] at hk;(repeat' split at hk)<;>first | (cases hk;done) | (cases hk;rcases hc with ⟨f,hc⟩ | hc<;>cases hc;done))
   | (simp only [zm] at hk;(repeat' split at hk)<;>first | (cases hk;done) | (cases hk;rcases hc with ⟨f,hc⟩ | hc<;>cases hc;done) | (simp at hk;rcases hc with ⟨f,hc⟩ | hc<;>(rw [hc] at hk;simp at hk);done);done)
   | (simp [zm] at hk;done)
   | (simp [zm] at hk;rcases hc with ⟨f,hc⟩ | hc<;>(rw [hc] at hk;simp at hk);done)
   | (simp only [zm,kBin,kNil,kPtr,kEqK] at hk;(repeat' split at hk)<;>first | (cases hk;done) | (cases hk;rcases hc with ⟨f,hc⟩ | hc<;>cases hc;done) | (simp at hk;done))
   | (simp only [zm,za0] at hk;(repeat' split at hk)<;>first | (cases hk;done) | (cases hk;rcases hc with ⟨f,hc⟩ | hc<;>cases hc;done) | (simp at hk;done))
theorem yp3 {op:Op}{r:K × List Operand}(hk:zm P op=some r):∀ c,op ≠ .defer c:=by
 rintro c rfl;simp [zm] at hk
section
variable {ops:Array Oper}{sops:List SOp}{nd:Nat→List Nat}{hs:Nat→Heap}{vq:Nat→Value}{env:lVq}{vars:List Nat}{N:Nat}{base:Nat}{G0:Nat→Option AObj}{ρ0:Ren}{w0:World}{a0:Act}
variable (C:Ctx P ops sops nd hs vq env vars N base G0 ρ0 w0)
include C
omit C in
theorem yh3 {ds:Nat→List Nat}(hrun:∀ (p:Nat) s,sops[p]? = some s→OpT P s (ds p) (Ul vq p) env (hs p) (vq p) (hs (p + 1)) (ds (p + 1))){p:Nat}(hp:p≤sops.length):∀ {r:Nat},r≤p → ∀ i ∈ ds r,i ∈ ds p:=by
 intro r hr;induction p with
 | zero =>
  obtain rfl:r=0:=by omega
  exact fun i h=>h
 | succ p ih =>
  by_cases e:r=p + 1
  ·subst e;exact fun i h=>h
  ·intro i hi;have h1:=ih (by omega) (by omega) i hi;obtain ⟨_,_,h2,_⟩:=hrun p _ (List.getElem?_eq_getElem (show p < sops.length by omega));exact h2 i h1
theorem Ctx.chain {ds:Nat→List Nat}(hrun:∀ (p:Nat) s,sops[p]? = some s→OpT P s (ds p) (Ul vq p) env (hs p) (vq p) (hs (p + 1)) (ds (p + 1))){S:Nat→Prop}{a:Act}{w:World}{b:Nat}{G:Nat→Option AObj}{ρ:Ren}(hI:InvC ops sops hs vq env vars N base G0 ρ0 w0 a0 S a w b G ρ)
  {p:Nat}{s:SOp}(hp:sops[p]? = some s) (hr:s.k.isR=true) (hnd:∀ i ∈ nd s.j,S i){id:Nat}(hid:id ∉ ds p){o:AObj}{q:Nat}(hbq:b≤q) (h0:(hs q).get id=some o) :
  ∀ {r:Nat},q≤r→r≤p→(hs r).get id=some o∨(hs r).get id=some .dead:=by
 have hplt:p < sops.length:=(List.getElem?_eq_some_iff.1 hp).1;intro r hqr hrp;induction r with
 | zero =>
  obtain rfl:q=0:=by omega
  exact .inl h0
 | succ r ih =>
  by_cases e:q=r + 1
  ·subst e;exact .inl h0
  ·have hg:=List.getElem?_eq_getElem (show r < sops.length by omega);have hid' : id ∉ ds (r + 1):=fun h=>hid (yh3 hrun (by omega) (by omega) id h);have hext:∀ o,(hs r).get id=some o→(hs (r + 1)).get id=some o∨(hs (r + 1)).get id=some .dead:=by
    cases hE:(sops[r]'(by omega)).k.isE with
    | false =>
     rcases C.calm hg hE with h | ⟨cells,h⟩
     ·rw [h];exact fun o h=>.inl h
     ·rw [h];exact fun o h=>.inl (by rw [Heap.get_alloc_lt (Heap.lt_of_get h)];exact h)
    | true =>
     have hq:(sops[r]'(by omega)).q=true:=by
      rcases C.ok.rd p r s _ hp hr (by omega) hg hE with h | h
      ·have:=(hI.bE r _ hg hE).1 (hnd _ h);omega
      ·exact h
     obtain ⟨wd,_,_,hd⟩:=hrun r _ hg;split at hd
     ·obtain ⟨_,_,_,h,_⟩:=hd;exact fun o=>h hq id o hid'
     ·rw [hd.2];exact fun o h=>.inl h
   rcases ih (by omega) (by omega) with h | h
   ·exact hext o h
   ·rcases hext _ h with h | h<;>exact .inr h
theorem Ctx.look {ds:Nat→List Nat}(hrun:∀ (p:Nat) s,sops[p]? = some s→OpT P s (ds p) (Ul vq p) env (hs p) (vq p) (hs (p + 1)) (ds (p + 1))){S:Nat→Prop}{a:Act}{w:World}{b:Nat}{G:Nat→Option AObj}{ρ:Ren}(hI:InvC ops sops hs vq env vars N base G0 ρ0 w0 a0 S a w b G ρ)
  {p:Nat}{s:SOp}(hp:sops[p]? = some s) (hr:s.k.isR=true) (hnd:∀ i ∈ nd s.j,S i) (hn:¬ S s.j){id:Nat}(hid:id ∉ ds p){l:Loc}(hl:ρ id=some l){o:AObj}(h2:(hs p).get id=some o) (hd:o ≠ .dead):G id=some o:=by
 have hplt:p < sops.length:=(List.getElem?_eq_some_iff.1 hp).1;have hbp:b≤p:=by
  rcases Nat.lt_or_ge p b with h | h
  ·exact absurd (hI.bS p s h hp) hn
  ·exact h
 have hdom:=hI.sim.dom id;rw [hl] at hdom;cases hG:G id with
 | none=>rw [hG] at hdom;simp at hdom
 | some o1 =>
  have fin:∀ {q:Nat},b≤q→q≤p→(hs q).get id=some o1→o1=o:=fun hbq hqp hq=>by
   rcases C.chain hrun hI hp hr hnd hid hbq hq hqp (Nat.le_refl p) with h | h
   ·rw [h2] at h;cases h;rfl
   ·rw [h2] at h;cases h;exact absurd rfl hd
  rcases (hI.gspec id o1).1 hG with h | ⟨q,s',hbq,hq,hS,h3,h4,h5⟩ | ⟨h3,h4,_⟩
  ·rw [fin (Nat.le_refl _) hbp h]
  ·by_cases hqp:q < p
   ·rw [fin (show b≤q + 1 by omega) (by omega) h5]
   ·have:=(C.mono (show p≤q by omega) (by have:=(List.getElem?_eq_some_iff.1 hq).1;omega)).next;have:=Heap.lt_of_get h2;omega
  ·exfalso;have hlt:=Heap.lt_of_get h2;have hm:=(C.mono (show p≤sops.length by omega) (Nat.le_refl _)).next;cases h0:(hs 0).get id with
   | none=>have:=(C.mono (Nat.zero_le p) (by omega)).back id (by omega) h0;rw [h2] at this;cases this
   | some o3=>have:=(C.mono (Nat.zero_le b) hI.ble).dom id (by rw [h0];rfl);rw [h3] at this;simp at this
theorem Ctx.stepJ {S:Nat→Prop}{a:Act}{w:World}(hI:Inv ops sops hs vq env vars N base G0 ρ0 w0 a0 S a w) (hcl:∀ i,S i → ∀ k ∈ nd i,S k)
  {p:Nat}{s:SOp}(hp:sops[p]? = some s) (hnd:∀ i ∈ nd s.j,S i) (hn:¬ S s.j) (ro:Option Nat){K' : Act→World→Prop}{Q:Exit→Act→World→Prop}
  (hK:∀ a' w',Inv ops sops hs vq env vars N base G0 ρ0 w0 a0 (fun i=>S i∨i=s.j) a' w' → K' a' w'):wpOpIn (vj ro) 0 P ops Q s.j K' a w:=by
 obtain ⟨b,G,ρ,hI⟩:=hI;have hplt:p < sops.length:=(List.getElem?_eq_some_iff.1 hp).1;have hbp:b≤p:=by
  rcases Nat.lt_or_ge p b with h | h
  ·exact absurd (hI.bS p s h hp) hn
  ·exact h
 have ho:=Array.getElem?_eq_getElem (C.ok.lt p s hp);generalize ops[s.j]'(C.ok.lt p s hp)=o at ho;obtain ⟨xs,hk,hargs⟩:=C.ok.kind p s o hp ho;obtain ⟨ds,hrun⟩:=C.run;obtain ⟨wd,hwd,_,hd⟩:=hrun p s hp;have hw:=Ctx.wanted hI hnd (C.ok.guard p s o hp ho) hwd;unfold wpOpIn;simp only [ho,hw];cases wd with
 | false =>
  simp only [Bool.false_eq_true,if_false] at hd ⊢;refine ⟨fun _ _=>trivial,hK _ _ (C.same hI hp hnd hn ho hd.2 ?_)⟩;rw [hd.1];exact .same _ rfl
 | true =>
  simp only [if_true] at hd ⊢;obtain ⟨vs,hvs,ha,hq,hok⟩:=hd;have hrel:=Ctx.args hI hn hnd hcl hargs hvs;have hnodef:=yp3 hk;refine ⟨fun _ _=>trivial,?_⟩;rw [Oper.semAt_eq _ _ _ hnodef];have heff:s.k.isE=true→(hs p).into G:=fun he=>C.intoAt hI hbp (by omega) fun q s' h1 h2 h3=>by
   have hS:=hnd _ (C.ok.eff p q s s' hp he h2 h3);refine ⟨hS,?_⟩;cases hE:s'.k.isE with
   | false=>rfl
   | true=>have:=(hI.bE q s' h3 hE).1 hS;omega
  have hfr:=C.freshAt hI hp hbp hn;unfold ActT at ha;split at ha
  ·rename_i k hkk;rw [hkk] at hk;obtain ⟨v',h1,h2⟩:=pure_ok hk hrel (fun _=>rfl) (fun _=>rfl) ha.1;rw [h2 o w rfl,Oper.uponIn_value];exact hK _ _ (C.same hI hp hnd hn ho ha.2 h1)
  ·rename_i k hkk;rw [hkk] at hk;have hread:aR k vs G=some (vq p):=by
    obtain ⟨h1,_⟩:=ha;unfold aR at h1 ⊢;split at h1<;>first | (cases h1;done) | skip
    rename_i gg agg size id off;have hx:∃ l,ρ id=some l:=by
     obtain ⟨x',_,hv⟩:=VRs.one hrel;obtain ⟨l,hl,_⟩:=hv.ptr_inv;exact ⟨l,hl⟩
    obtain ⟨l,hl⟩:=hx;split at h1<;>first | (cases h1;done) | skip
    ·rename_i cells own hc;rw [C.look hrun hI hp (by rw [hkk];rfl) hnd hn (hok (by rw [hkk];rfl) _ rfl) hl hc (by simp)];exact h1
    ·rename_i cells el full hc;rw [C.look hrun hI hp (by rw [hkk];rfl) hnd hn (hok (by rw [hkk];rfl) _ rfl) hl hc (by simp)];exact h1
    ·unfold Yb at h1 ⊢;split at h1<;>first | (cases h1;done) | skip
     rename_i id key;split at h1<;>first | (cases h1;done) | skip
     rename_i es own hc;have hx:∃ l,ρ id=some l:=by
      obtain ⟨x1,x2,_,hv,_⟩:=VRs.two hrel;obtain ⟨l,hl,_⟩:=hv.map_inv;exact ⟨l,hl⟩
     obtain ⟨l,hl⟩:=hx;rw [C.look hrun hI hp (by rw [hkk];rfl) hnd hn (hok (by rw [hkk];rfl) _ rfl) hl hc (by simp)];exact h1
    ·rename_i id;split at h1<;>first | (cases h1;done) | skip
     rename_i es own hc;have hx:∃ l,ρ id=some l:=by
      obtain ⟨x',_,hv⟩:=VRs.one hrel;obtain ⟨l,hl,_⟩:=hv.map_inv;exact ⟨l,hl⟩
     obtain ⟨l,hl⟩:=hx;rw [C.look hrun hI hp (by rw [hkk];rfl) hnd hn (hok (by rw [hkk];rfl) _ rfl) hl hc (by simp)];exact h1
    ·exact h1
    ·rename_i id off n sz;split at h1<;>first | (cases h1;done) | skip
     rename_i hsz;rw [if_pos hsz];split at h1
     ·rename_i hn0;rw [if_pos hn0];exact h1
     ·rename_i hn0;rw [if_neg hn0];split at h1<;>first | (cases h1;done) | skip
      rename_i cells own hc;have hx:∃ l,ρ id=some l:=by
       obtain ⟨x',_,hv⟩:=VRs.one hrel;obtain ⟨l,_,_,hl,_⟩:=hv.slice_inv;exact ⟨l,hl⟩
      obtain ⟨l,hl⟩:=hx;rw [C.look hrun hI hp (by rw [hkk];rfl) hnd hn (hok (by rw [hkk];rfl) _ rfl) hl hc (by simp)];exact h1
    ·rename_i id off;split at h1<;>first | (cases h1;done) | skip
     rename_i cells el full hc;have hx:∃ l,ρ id=some l:=by
      obtain ⟨x',_,hv⟩:=VRs.one hrel;obtain ⟨l,hl,_⟩:=hv.ptr_inv;exact ⟨l,hl⟩
     obtain ⟨l,hl⟩:=hx;rw [C.look hrun hI hp (by rw [hkk];rfl) hnd hn (hok (by rw [hkk];rfl) _ rfl) hl hc (by simp)];exact h1
    ·rename_i gd id off;split at h1<;>first | (cases h1;done) | skip
     rename_i cells el hc;have hx:∃ l,ρ id=some l:=by
      obtain ⟨x',_,hv⟩:=VRs.one hrel;obtain ⟨l,hl,_⟩:=hv.ptr_inv;exact ⟨l,hl⟩
     obtain ⟨l,hl⟩:=hx;rw [C.look hrun hI hp (by rw [hkk];rfl) hnd hn (hok (by rw [hkk];rfl) _ rfl) hl hc (by simp)];exact h1
   obtain ⟨v',h1,h2⟩:=ym2 hk hrel hI.sim hread;rw [h2 o rfl,Oper.uponIn_value];exact hK _ _ (C.same hI hp hnd hn ho ha.2 h1)
  ·rename_i k hkk;rw [hkk] at hk;obtain ⟨cells,mk,h1,h2,h3⟩:=ha;have hid:ρ (hs p).next=none:=hfr _ (Nat.le_refl _) (by rw [h3];simp);obtain ⟨l,v',w',h4,h5,h6,h7⟩:=yd1 hk hrel hI.sim h1 hid;rw [h7 o rfl,Oper.uponIn_value];exact hK _ _ (C.made hI hp hn (by rw [hkk];rfl) ho h3 (by rw [h2];exact h4) h5 h6)
  ·rename_i k hkk;rw [hkk] at hk;obtain ⟨v',ρ',w',h1,h2⟩:=zx6 hk hrel hI.sim (heff (by rw [hkk];rfl)) ha hfr;have hfin:=hK _ _ (C.done hI hp hnd hn (by rw [hkk];rfl) ho h2);rcases h1 o rfl with h | ⟨h,rfl⟩
   ·rw [h,Oper.uponIn_value];exact hfin
   ·rw [h];exact hfin
  ·rename_i f hkk;have hE:s.k.isE=true:=by rw [hkk];rfl
   obtain ⟨c,g,as,hop,hcal,has,hc⟩:=zp0 hk (.inl ⟨f,hkk⟩);rcases hc with ⟨f',hf',rfl,rfl⟩ | ⟨h,_⟩
   ·rw [hkk] at hf';cases hf';have hv:ValT P (.func (.func f) #[] #[]) vs (hs p) (vq p) (hs (p + 1)):=CallT.val (by simpa using ha);have:=hv.2 base G ρ w (.func (.func f) #[] #[]) (c.args.toList.map a.eval) (heff hE) hfr hI.sim (.func f [] [] [] [] .nil .nil) (by rw [has];exact hrel) ro o a K' Q
     (fun v' ρ' w' hok=>hK _ _ (C.done hI hp hnd hn hE ho hok))
    have e:(execOp a.eval o).run P w=((do let d ← Deferred.ofValue (.func (.func f) #[] #[]) (c.args.toList.map a.eval).toArray;invoke d.target d.args:Sem Next).run P w):=by
     have e1:(c.args.toList.map a.eval).toArray=c.args.map a.eval:=by apply Array.ext';simp
     simp only [execOp,hop,resolve,hcal,e1];rfl
    rw [e];exact this
   ·rw [hkk] at h;cases h
  ·rename_i hkk;have hE:s.k.isE=true:=by rw [hkk];rfl
   obtain ⟨c,g,as,hop,hcal,has,hc⟩:=zp0 hk (.inr hkk);rcases hc with ⟨f',hf',_,_⟩ | ⟨_,rfl⟩
   ·rw [hkk] at hf';cases hf'
   ·split at ha
    ·rename_i fv args;cases hrel with
     | cons _ fv' _ args' hfv hargs' =>
      have:=ha.2 base G ρ w (a.eval g) (c.args.toList.map a.eval) (heff hE) hfr hI.sim hfv (by rw [has];exact hargs') ro o a K' Q
       (fun v' ρ' w' hok=>hK _ _ (C.done hI hp hnd hn hE ho hok))
      have e:(execOp a.eval o).run P w=((do let d ← Deferred.ofValue (a.eval g) (c.args.toList.map a.eval).toArray;invoke d.target d.args:Sem Next).run P w):=by
       have e1:(c.args.toList.map a.eval).toArray=c.args.map a.eval:=by apply Array.ext';simp
       simp only [execOp,hop,resolve,hcal,e1]
      rw [e];exact this
    ·exact ha.elim
end
end Go.Eng
namespace Go.Eng
open Go
variable {P:Program}
def zb6 (ops:Array Oper) (j i:Nat):Prop:=∃ (o:Oper) (e:Edge),ops[j]? = some o∧e ∈ o.after∧Region.binds .any e=true∧e.on=i
def Y8 (ops:Array Oper) (nd:Nat→List Nat) (draw:Bool):Prop :=
 if draw then (∀ j i,i ∈ nd j→zb6 ops j i ∨ ∃ k,zb6 ops j k∧i ∈ nd k)∧(∀ j i,zb6 ops j i→i < j)
 else ∀ j i,i ∈ nd j→i < j
structure OutsOk (vars:List Nat) (ops:Array Oper) (sops:List SOp) (outs:List (Nat × Nat)):Prop where
 nodup:∀ (k k' t:Nat),vars[k]? = some t→vars[k']? = some t→k=k'
 all:∀ (i:Nat) o t (k:Nat),ops[i]? = some o→o.dst=some t→vars[k]? = some t → ∃ (p:Nat) (s:SOp),sops[p]? = some s∧s.j=i∧(k,sops.length - 1 - p) ∈ outs
 only:∀ k d,(k,d) ∈ outs→d < sops.length ∧ ∃ s o t,sops[sops.length - 1 - d]? = some s∧ops[s.j]? = some o∧o.dst=some t∧vars[k]? = some t
 keys:(outs.map (·.1)).Nodup
def upd (ts:lVq):List (Nat × Nat)→lVq→lVq
 | [],e=>e
 | (k,d)::r,e=>upd ts r (e.set k (ts.getD d undef))
theorem yk2 (ts:lVq):∀ (outs:List (Nat × Nat)) (e:lVq),(upd ts outs e).length=e.length
 | [],e=>rfl
 | (k,d)::r,e=>by simp only [upd];rw [yk2];simp
theorem zb8 (ts:lVq) (k:Nat):∀ (outs:List (Nat × Nat)) (e:lVq),k ∉ outs.map (·.1)→(upd ts outs e)[k]? = e[k]?
 | [],e,_=>rfl
 | (k',d)::r,e,h=>by
  simp only [upd];simp at h;rw [zb8 ts k r _ (by simpa using h.2)];rw [List.getElem?_set_ne (by omega)]
theorem zx7 (ts:lVq) (k d:Nat):∀ (outs:List (Nat × Nat)) (e:lVq),(outs.map (·.1)).Nodup→(k,d) ∈ outs→k < e.length→(upd ts outs e)[k]? = some (ts.getD d undef)
 | [],e,_,h,_=>by simp at h
 | (k',d')::r,e,hn,h,hk=>by
  simp only [upd];simp only [List.map_cons,List.nodup_cons] at hn;rcases List.mem_cons.1 h with h | h
  ·cases h
   rw [zb8 ts k r _ hn.1];simp [hk]
  ·rw [zx7 ts k d r _ hn.2 h (by simpa using hk)]
section
variable {ops:Array Oper}{sops:List SOp}{nd:Nat→List Nat}{hs:Nat→Heap}{vq:Nat→Value}{env:lVq}{vars:List Nat}{N:Nat}{base:Nat}{G0:Nat→Option AObj}{ρ0:Ren}{w0:World}{a0:Act}
variable (C:Ctx P ops sops nd hs vq env vars N base G0 ρ0 w0)
theorem Ctx.start (C:Ctx P ops sops nd hs vq env vars N base G0 ρ0 w0){w:World}(hw:w.heap=w0.heap∧w.tape=w0.tape∧w.os=w0.os∧w.output=w0.output) (henv:EnvR ρ0 N vars env a0.tmps):Inv ops sops hs vq env vars N base G0 ρ0 w0 a0 (fun _=>False) a0 w:=by
 refine ⟨0,G0,ρ0,Nat.zero_le _,fun p s _ _=>⟨fun h=>h.elim,fun h=>by omega⟩,fun p s h _=>by omega,fun id o=>?_,Agree.refl _ _ _,C.sim.heap hw.1,?_,henv.size,rfl,fun p s o d _ _ _ h=>h.elim,fun k t v hk hv _=>henv.get k t v hk hv⟩
 ·constructor
  ·intro h;cases h0:(hs 0).get id with
   | some o2=>have:=C.into id o2 h0;rw [h] at this;cases this;exact .inl h0
   | none =>
    refine .inr (.inr ⟨h0,?_,h⟩);rcases Nat.lt_or_ge id (hs 0).next with h1 | h1
    ·exact .inl h1
    ·rcases Nat.lt_or_ge id (hs sops.length).next with h2 | h2
     ·have:=C.sim.dom id;rw [h,C.fresh id h1 h2] at this;simp at this
     ·exact .inr h2
  ·rintro (h | ⟨p,s,_,_,h,_⟩ | ⟨_,_,h⟩)
   ·exact C.into id o h
   ·exact h.elim
   ·exact h
 ·exact ⟨by rw [hw.1];exact Nat.le_refl _,fun b _=>by rw [hw.1],hw.2.1,hw.2.2.1,hw.2.2.2,fun a _=>by simp [World.frozen?,hw.1]⟩
theorem Ctx.finish (C:Ctx P ops sops nd hs vq env vars N base G0 ρ0 w0){S:Nat→Prop}{a:Act}{w:World}(hI:Inv ops sops hs vq env vars N base G0 ρ0 w0 a0 S a w) (hall:∀ (p:Nat) s,sops[p]? = some s→S s.j){outs:List (Nat × Nat)}(ho:OutsOk vars ops sops outs) (hlen:vars.length=env.length) :
  ∃ ρ,Agree ρ0 ρ (hs 0).next (hs sops.length).next∧Sim base (vv (hs sops.length) G0) ρ w∧WStep base w0 w∧a.defers=a0.defers∧EnvR ρ N vars (upd (Ul vq sops.length) outs env) a.tmps ∧
   (∀ (p:Nat) s o d,sops[p]? = some s→ops[s.j]? = some o→o.dst=some d → ∃ v',a.tmps[d]? = some v' ∧ VR ρ (vq p) v'):=by
 obtain ⟨b,G,ρ,hI⟩:=hI;have hinto:(hs sops.length).into G:=C.intoAt hI hI.ble (Nat.le_refl _) fun q s h1 h2 h3=>⟨hall q s h3,by
  cases hE:s.k.isE with
  | false=>rfl
  | true=>have:=(hI.bE q s h3 hE).1 (hall q s h3);omega⟩
 have hm:=fun q (hq:q≤sops.length)=>C.mono hq (Nat.le_refl _);refine ⟨ρ,hI.agree,Sim.congr hI.sim fun id=>?_,hI.step,hI.defers,⟨hI.size,by rw [yk2];exact hlen,fun k t v hk hv=>?_⟩,fun p s o d h1 h2 h3=>hI.tmps p s o d h1 h2 h3 (hall p s h1)⟩
 ·unfold vv;cases hx:(hs sops.length).get id with
  | some o=>rw [hinto id o hx];rfl
  | none =>
   simp only [Option.none_or];have hno:∀ q,q≤sops.length→(hs q).get id=none:=fun q hq=>by
    cases hy:(hs q).get id with
    | none=>rfl
    | some o2=>have:=(hm q hq).dom id (by rw [hy];rfl);rw [hx] at this;simp at this
   cases hG:G id with
   | some o =>
    rcases (hI.gspec id o).1 hG with h | ⟨q,s',hbq,hq,hS,h1,h2,h3⟩ | ⟨_,_,h⟩
    ·rw [hno b hI.ble] at h;cases h
    ·rw [hno (q + 1) (by have:=(List.getElem?_eq_some_iff.1 hq).1;omega)] at h3;cases h3
    ·exact h
   | none =>
    cases h0:G0 id with
    | none=>rfl
    | some o =>
     exfalso;have:G id=some o:=(hI.gspec id o).2 (.inr (.inr ⟨hno b hI.ble,by
      rcases Nat.lt_or_ge id (hs 0).next with h1 | h1
      ·exact .inl h1
      ·rcases Nat.lt_or_ge id (hs sops.length).next with h2 | h2
       ·have:=C.sim.dom id;rw [h0,C.fresh id h1 h2] at this;simp at this
       ·exact .inr h2,h0⟩))
     rw [hG] at this;cases this
 ·by_cases hw:k ∈ outs.map (·.1)
  ·obtain ⟨⟨k',d⟩,hmem,rfl⟩:=List.mem_map.1 hw;obtain ⟨hd,s,o,t',h1,h2,h3,h4⟩:=ho.only _ _ hmem;rw [hk] at h4;cases h4;have hkl:k' < env.length:=by rw [← hlen];exact (List.getElem?_eq_some_iff.1 hk).1
   rw [zx7 _ _ _ _ _ ho.keys hmem hkl] at hv;cases hv;obtain ⟨v',h5,h6⟩:=hI.tmps _ s o t h1 h2 h3 (hall _ s h1);refine ⟨v',h5,?_⟩;rw [List.getD_eq_getElem?_getD,Qc vq _ d hd];exact h6
  ·rw [zb8 _ _ _ _ hw] at hv;refine hI.vars k t v hk hv fun i o hi hod hS=>?_;obtain ⟨p,s,_,_,hmem⟩:=ho.all i o t k hi hod hk;exact hw (List.mem_map.2 ⟨_,hmem,rfl⟩)
theorem Inv.congr {S S' : Nat→Prop}(he:∀ i,S i↔S' i){a:Act}{w:World}(hI:Inv ops sops hs vq env vars N base G0 ρ0 w0 a0 S a w):Inv ops sops hs vq env vars N base G0 ρ0 w0 a0 S' a w:=by
 have:S=S':=funext fun i=>propext (he i);rw [← this];exact hI
theorem Qr {listed:Array Bool}{j:Nat}{o:Oper}(ho:ops[j]? = some o) (hr:(o.after.all fun e=>!Region.binds .any e || listed.getD e.on false)=true){i:Nat}(hd:zb6 ops j i):listed.getD i false=true:=by
 obtain ⟨o',e,h1,h2,h3,rfl⟩:=hd;rw [ho] at h1;cases h1;have:=(Array.all_eq_true'.1 hr) e h2;rw [h3] at this;simpa using this
theorem Qg {listed:Array Bool}{i:Nat}(h:i ∈ Region.ready .any ops listed):i < ops.size∧listed.getD i true=false ∧ ∃ o,ops[i]? = some o∧(o.after.all fun e=>!Region.binds .any e || listed.getD e.on false)=true:=by
 unfold Region.ready at h;obtain ⟨h1,h2⟩:=List.mem_filter.1 h;simp only [Bool.and_eq_true,Bool.not_eq_true'] at h2;refine ⟨List.mem_range.1 h1,h2.1,?_⟩;cases ho:ops[i]? with
 | none=>rw [ho] at h2;simp at h2
 | some o=>rw [ho] at h2;exact ⟨o,rfl,by simpa using h2.2⟩
theorem Ctx.anyOrder (C:Ctx P ops sops nd hs vq env vars N base G0 ρ0 w0) (hord:Y8 ops nd true) (ro:Option Nat){Q:Exit→Act→World→Prop}
  (hQ:∀ (S:Nat→Prop) a w,Inv ops sops hs vq env vars N base G0 ρ0 w0 a0 S a w→(∀ (p:Nat) s,sops[p]? = some s→S s.j)→Q .normal a w) :
  ∀ (fuel:Nat) (listed:Array Bool) (a:Act) (w:World),listed.size=ops.size→listed.toList.count false=fuel→(∀ i,listed.getD i false=true → ∀ k ∈ nd i,listed.getD k false=true) →
   Inv ops sops hs vq env vars N base G0 ρ0 w0 a0 (fun i=>listed.getD i false=true) a w→wpAnyIn (vj ro) 0 P .any ops Q fuel listed a w:=by
 simp only [Y8,if_true] at hord;obtain ⟨hnd,hlt⟩:=hord;intro fuel;induction fuel with
 | zero =>
  intro listed a w hsz hc hcl hI;have hall:∀ i,i < ops.size→listed.getD i false=true:=fun i hi=>by
   cases hb:listed.getD i false with
   | true=>rfl
   | false =>
    exfalso;have:false ∈ listed.toList:=by
     have h2:listed[i]? = some false:=by
      have hi' : i < listed.size:=by omega
      rw [Array.getElem?_eq_getElem hi'];simpa [Array.getD_eq_getD_getElem?,hi'] using hb
     exact List.mem_of_getElem? (i:=i) (by simpa using h2)
    have:=List.count_pos_iff.2 this;omega
  refine ⟨?_,hQ _ a w hI fun p s hp=>hall _ (C.ok.lt p s hp)⟩;apply List.eq_nil_iff_forall_not_mem.2;intro i hi;obtain ⟨h1,h2,_⟩:=Qg hi;have:=hall i h1;have hi' : i < listed.size:=by omega
  simp [Array.getD_eq_getD_getElem?,hi'] at h2 this;rw [h2] at this;cases this
 | succ fuel ih =>
  intro listed a w hsz hc hcl hI;refine ⟨fun hnil=>?_,fun i hi=>?_⟩
  · -- the least that has not come up may come up
   exfalso;have hex:∃ i,i < ops.size∧listed.getD i true=false:=by
    have:false ∈ listed.toList:=List.count_pos_iff.1 (by omega);obtain ⟨i,hi⟩:=List.mem_iff_getElem?.1 this;have hi2:listed[i]? = some false:=by simpa using hi
    have hil:=(Array.getElem?_eq_some_iff.1 hi2).1;exact ⟨i,by omega,by simp [Array.getD_eq_getD_getElem?,hi2]⟩
   have hleast:∃ i,(i < ops.size∧listed.getD i true=false) ∧ ∀ k,k < i → ¬ (k < ops.size∧listed.getD k true=false):=by
    obtain ⟨i,hi⟩:=hex;induction i using Nat.strongRecOn with
    | _ i ih2 =>
     by_cases hk:∃ k,k < i∧(k < ops.size∧listed.getD k true=false)
     ·obtain ⟨k,hk1,hk2⟩:=hk;exact ih2 k hk1 hk2
     ·exact ⟨i,hi,fun k hk1 hk2=>hk ⟨k,hk1,hk2⟩⟩
   obtain ⟨i,⟨hi1,hi2⟩,hmin⟩:=hleast;have hg:=Array.getElem?_eq_getElem hi1;have:i ∈ Region.ready .any ops listed:=by
    unfold Region.ready;refine List.mem_filter.2 ⟨List.mem_range.2 hi1,?_⟩;rw [hi2,hg];simp only [Bool.not_false,Option.map_some,Option.getD_some,Bool.true_and];refine Array.all_eq_true'.2 fun e he=>?_;cases hb:Region.binds .any e with
    | false=>simp
    | true =>
     simp only [Bool.not_true,Bool.false_or];have hlt':=hlt i e.on ⟨_,e,hg,he,hb,rfl⟩;have:=hmin e.on hlt';have hs' : e.on < listed.size:=by omega
     simp [Array.getD_eq_getD_getElem?,hs'] at this ⊢;exact this (by omega)
   rw [hnil] at this;simp at this
  ·obtain ⟨h1,h2,o,ho,hr⟩:=Qg hi;have hil:i < listed.size:=by omega
   have hli:listed[i]? = some false:=by
    rw [Array.getElem?_eq_getElem hil];simpa [Array.getD_eq_getD_getElem?,hil] using h2
   obtain ⟨p,s,hp,rfl⟩:=C.ok.place i h1;have hn:¬ (listed.getD s.j false=true):=by simp [Array.getD_eq_getD_getElem?,hli]
   have hndS:∀ k ∈ nd s.j,listed.getD k false=true:=fun k hk=>by
    rcases hnd s.j k hk with h | ⟨m,h,hm⟩
    ·exact Qr ho hr h
    ·exact hcl m (Qr ho hr h) k hm
   have hget:∀ k,(listed.setIfInBounds s.j true).getD k false=true↔(listed.getD k false=true∨k=s.j):=fun k=>by
    by_cases e:k=s.j
    ·subst e;simp [Array.getD_eq_getD_getElem?,hil]
    ·simp [Array.getD_eq_getD_getElem?,Array.getElem?_setIfInBounds_ne (Ne.symm e),e]
   refine C.stepJ hI hcl hp hndS hn ro fun a' w' hI'=>ih _ a' w' (by simpa using hsz) ?_ ?_ (Inv.congr (fun k=>(hget k).symm) hI')
   ·have hcs:=List.count_set (l:=listed.toList) (a:=true) (b:=false) (i:=s.j) (by simpa using hil);have hgi:listed.toList[s.j]'(by simpa using hil)=false:=by
     have:=(Array.getElem?_eq_some_iff.1 hli).2;simpa using this
    rw [hgi] at hcs;simp only [Array.toList_setIfInBounds];rw [hcs,hc];rfl
   ·intro k hk m hm;rw [hget] at hk ⊢;rcases hk with hk | rfl
    ·exact .inl (hcl k hk m hm)
    ·exact .inl (hndS m hm)
theorem Ctx.textOrder (C:Ctx P ops sops nd hs vq env vars N base G0 ρ0 w0) (hord:Y8 ops nd false) (ro:Option Nat){Q:Exit→Act→World→Prop}
  (hQ:∀ (S:Nat→Prop) a w,Inv ops sops hs vq env vars N base G0 ρ0 w0 a0 S a w→(∀ (p:Nat) s,sops[p]? = some s→S s.j)→Q .normal a w) :
  ∀ (n k:Nat) (a:Act) (w:World),k + n=ops.size→Inv ops sops hs vq env vars N base G0 ρ0 w0 a0 (fun i=>i < k) a w→wpOpsIn (vj ro) 0 P ops Q (List.range' k n) a w:=by
 simp only [Y8,Bool.false_eq_true,if_false] at hord;intro n;induction n with
 | zero =>
  intro k a w hk hI;exact hQ _ a w hI fun p s hp=>by have:=C.ok.lt p s hp;simp at hk;omega
 | succ n ih =>
  intro k a w hk hI;simp only [List.range'_succ];rw [wpOpsIn_cons];obtain ⟨p,s,hp,hj⟩:=C.ok.place k (by omega);subst hj;refine C.stepJ hI (fun i hi m hm=>by have:=hord i m hm;omega) hp (fun i hi=>hord _ i hi) (by omega) ro fun a' w' hI'=>?_;have:=ih (s.j + 1) a' w' (by omega) (Inv.congr (fun i=>by omega) hI');simpa using this
end
end Go.Eng
namespace Go.Eng
open Go
variable {P:Program}
inductive CCode where
 | skip
 | reg (sops:List SOp) (outs:List (Nat × Nat))
 | seq (a b:CCode)
 | rcond (sops:List SOp) (outs:List (Nat × Nat)) (d:Nat) (a b:CCode)
 | cond (x:Arg) (a b:CCode)
 | block (id:Nat) (c:CCode)
 | loop (c:CCode)
 | exit (id:Nat)
 | ret
 | range (g:Arg) (ps:List Nat) (assign body:CCode)
 | scope (c:CCode)
 | label
 /-- code that is never reached -/
 | never
 deriving Inhabited
def CCode.noRange:CCode→Bool
 | .range ..=>false
 | .seq a b=>a.noRange && b.noRange
 | .rcond _ _ _ a b=>a.noRange && b.noRange
 | .cond _ a b=>a.noRange && b.noRange
 | .block _ c=>c.noRange
 | .loop c=>c.noRange
 | .scope c=>c.noRange
 | _=>true
inductive AExit where
 | normal | exit (id:Nat) | ret
 deriving DecidableEq
def AExit.conc:AExit→Exit
 | .normal=>.normal
 | .exit id=>.exit id
 | .ret=>.ret
def U2 (nd:List (List Nat)):Nat→List Nat:=fun j=>nd.getD j []
structure RegionNd (P:Program) (N:Nat) (vars:List Nat) (ops:Array Oper) (draw:Bool) (sops:List SOp) (nd:List (List Nat)) (outs:List (Nat × Nat)):Prop where
 reg:RegOk P N vars ops sops (U2 nd)
 order:Y8 ops (U2 nd) draw
 outs:OutsOk vars ops sops outs
 mixed:draw=true→P.follows .mixedOrders=true
def Jf (P:Program) (N:Nat) (vars:List Nat) (ops:Array Oper) (draw:Bool) (sops:List SOp) (outs:List (Nat × Nat)):Prop:=∃ nd,RegionNd P N vars ops draw sops nd outs
def qc8 (vars:List Nat):Arg→Operand→Prop
 | .v k,.tmp t=>vars[k]? = some t
 | .c v,.const v'=>v=v' ∧ Value.plain v=true
 | _,_=>False
def FunOk (vars:List Nat):Arg→Operand→Prop
 | .v k,.tmp t=>vars[k]? = some t
 | .f f,.func f'=>f=f'
 | _,_=>False
def yi (P:Program) (N:Nat) (vars:List Nat):CCode→Code→Prop
 | .skip,.skip=>True
 | .reg sops outs,.region _ ops draw=>Jf P N vars ops draw sops outs
 | .seq a b,.seq x y=>yi P N vars a x∧yi P N vars b y
 | .rcond sops outs d a b,.seq (.region _ ops draw) (.cond (.tmp t) x y) =>
  Jf P N vars ops draw sops outs∧(d < sops.length ∧ ∃ s o,sops[sops.length - 1 - d]? = some s∧ops[s.j]? = some o∧o.dst=some t)∧yi P N vars a x∧yi P N vars b y
 | .cond x a b,.cond y ca cb=>qc8 vars x y∧yi P N vars a ca∧yi P N vars b cb
 | .block id c,.block id' x=>id=id' ∧ yi P N vars c x
 | .loop c,.loop x=>yi P N vars c x
 | .exit id,.exit id'=>id=id'
 | .ret,.ret=>True
 | .scope c,.scope x=>yi P N vars c x
 | .label,.label _=>True
 | .never,_=>True
 | .range g ps a b,.rangeFunc y qs ca cb=>FunOk vars g y∧All2 (fun k t=>vars[k]? = some t) ps qs.toList∧(a.noRange && b.noRange)=true∧vars.Nodup∧yi P N vars a ca∧yi P N vars b cb
 | _,_=>False
def Marks (ρ' : Ren) (h h' : Heap) (ds:List Deferred):Prop :=
 ∃ ms:List Nat,ms.Nodup∧(∀ m ∈ ms,h.next≤m∧h'.get m=some .defd)∧ds=ms.map fun m=>{ target:=.collected ((ρ' m).map (·.b)|>.getD 0),args:=#[] }
structure Left (nr:Bool) (base:Nat) (G:Nat→Option AObj) (ρ:Ren) (w:World) (a:Act) (N:Nat) (vars:List Nat) (h h' : Heap) (env' : lVq) (a' : Act) (ρ' : Ren) (w' : World):Prop where
 agree:Agree ρ ρ' h.next h'.next
 env:EnvR ρ' N vars env' a'.tmps
 defers:∃ ds,Marks ρ' h h' ds∧a'.defers=ds++a.defers∧(nr=true→ds=[])
 sim:Sim base (vv h' G) ρ' w'
 step:WStep base w w'
def CodeT (P:Program) (N:Nat) (vars:List Nat) (c:CCode) (env:lVq) (h:Heap) (x:AExit) (env' : lVq) (h' : Heap):Prop :=
 h.step h' ∧ ∀ code,yi P N vars c code → ∀ (base:Nat) (G:Nat→Option AObj) (ρ:Ren) (w:World) (a:Act) (ro:Option Nat),(c.noRange=false→ro=none)→h.into G→Fresh ρ h.next h'.next→Sim base G ρ w→EnvR ρ N vars env a.tmps →
  ∀ Q:Exit→Act→World→Prop,(∀ a' ρ' w',Left c.noRange base G ρ w a N vars h h' env' a' ρ' w' → Q x.conc a' w')→code.wpIn (vj ro) 0 P Q a w
theorem zl8 {h1 h2:Heap}(hs:h1.step h2) (G:Nat→Option AObj):∀ id,vv h2 (vv h1 G) id=vv h2 G id:=fun id=>by
 unfold vv;cases hx:h2.get id with
 | some o=>rfl
 | none =>
  cases hy:h1.get id with
  | none=>rfl
  | some o=>have:=hs.dom id (by rw [hy];rfl);rw [hx] at this;simp at this
theorem yx (h:Heap) (G:Nat→Option AObj):h.into (vv h G):=fun id o hg=>by unfold vv;rw [hg];rfl
theorem Fresh.left {ρ:Ren}{a b c:Nat}(h:Fresh ρ a c) (hbc:b≤c):Fresh ρ a b:=fun id h1 h2=>h id h1 (by omega)
theorem Fresh.right {ρ ρ1:Ren}{a b c:Nat}(h:Fresh ρ a c) (hab:a≤b) (hag:Agree ρ ρ1 a b):Fresh ρ1 b c:=fun id h1 h2=>by rw [hag id (.inr h1)];exact h id (by omega) h2
theorem Marks.none (ρ' : Ren) (h h' : Heap):Marks ρ' h h' []:=⟨[],by simp,by simp,rfl⟩
theorem Marks.trans {ρ1 ρ2:Ren}{h h1 h2:Heap}{d1 d2:List Deferred}(s1:h.step h1) (s2:h1.step h2) (ag:Agree ρ1 ρ2 h1.next h2.next) (m1:Marks ρ1 h h1 d1) (m2:Marks ρ2 h1 h2 d2):Marks ρ2 h h2 (d2++d1):=by
 obtain ⟨l1,n1,g1,rfl⟩:=m1;obtain ⟨l2,n2,g2,rfl⟩:=m2;refine ⟨l2++l1,?_,?_,?_⟩
 ·rw [List.nodup_append];refine ⟨n2,n1,fun a ha b hb e=>?_⟩;subst e;have h1:=(g2 a ha).1;have h2:=Heap.lt_of_get (g1 a hb).2;omega
 ·intro m hm;rcases List.mem_append.1 hm with hm | hm
  ·exact ⟨Nat.le_trans s1.next (g2 m hm).1,(g2 m hm).2⟩
  ·exact ⟨(g1 m hm).1,s2.defd m (g1 m hm).2⟩
 ·rw [List.map_append]
  congr 1
  apply List.map_congr_left;intro m hm;rw [ag m (.inl (Heap.lt_of_get (g1 m hm).2))]
theorem Left.trans {n1 n2 nr:Bool}{base:Nat}{G:Nat→Option AObj}{ρ ρ1 ρ2:Ren}{w w1 w2:World}{a a1 a2:Act}{N:Nat}{vars:List Nat}{h h1 h2:Heap}{env1 env2:lVq}(s1:h.step h1) (s2:h1.step h2) (hn:nr=true→n1=true∧n2=true)
  (l1:Left n1 base G ρ w a N vars h h1 env1 a1 ρ1 w1) (l2:Left n2 base (vv h1 G) ρ1 w1 a1 N vars h1 h2 env2 a2 ρ2 w2):Left nr base G ρ w a N vars h h2 env2 a2 ρ2 w2 :=
 ⟨l1.agree.trans l2.agree s1.next s2.next,l2.env,by
  obtain ⟨d1,m1,e1,z1⟩:=l1.defers;obtain ⟨d2,m2,e2,z2⟩:=l2.defers;exact ⟨d2++d1,m1.trans s1 s2 l2.agree m2,by rw [e2,e1,List.append_assoc],fun h=>by rw [z1 (hn h).1,z2 (hn h).2];rfl⟩,Sim.congr l2.sim fun id=>(zl8 s2 G id).symm,l1.step.trans l2.step⟩
theorem Left.weak {n1 nr:Bool}{base:Nat}{G:Nat→Option AObj}{ρ ρ1:Ren}{w w1:World}{a a1:Act}{N:Nat}{vars:List Nat}{h h1:Heap}{env1:lVq}(hn:nr=true→n1=true)
  (l1:Left n1 base G ρ w a N vars h h1 env1 a1 ρ1 w1):Left nr base G ρ w a N vars h h1 env1 a1 ρ1 w1 :=
 ⟨l1.agree,l1.env,let ⟨d,m,e,z⟩:=l1.defers;⟨d,m,e,fun h=>z (hn h)⟩,l1.sim,l1.step⟩
theorem yp4 {ρ' : Ren}{h h' : Heap}{ds:List Deferred}{nr:Bool}:∃ d,Marks ρ' h h' d∧ds=d++ds∧(nr=true→d=[]):=⟨[],Marks.none _ _ _,rfl,fun _=>rfl⟩
theorem CodeT.skip {N:Nat}{vars:List Nat}{env:lVq}{h:Heap}:CodeT P N vars .skip env h .normal env h:=by
 refine ⟨Heap.step.refl h,fun code hc base G ρ w a ro hro hG hfr hS henv Q hQ=>?_⟩;cases code<;>simp only [yi] at hc;exact wpIn_skip (hQ a ρ w ⟨Agree.refl _ _ _,henv,yp4,Sim.congr hS (y0 hG),WStep.refl _ _⟩)
theorem CodeT.exit {N:Nat}{vars:List Nat}{env:lVq}{h:Heap}{id:Nat}:CodeT P N vars (.exit id) env h (.exit id) env h:=by
 refine ⟨Heap.step.refl h,fun code hc base G ρ w a ro hro hG hfr hS henv Q hQ=>?_⟩;cases code<;>simp only [yi] at hc;subst hc;exact wpIn_exit (hQ a ρ w ⟨Agree.refl _ _ _,henv,yp4,Sim.congr hS (y0 hG),WStep.refl _ _⟩)
theorem CodeT.ret {N:Nat}{vars:List Nat}{env:lVq}{h:Heap}:CodeT P N vars .ret env h .ret env h:=by
 refine ⟨Heap.step.refl h,fun code hc base G ρ w a ro hro hG hfr hS henv Q hQ=>?_⟩;cases code<;>simp only [yi] at hc;exact wpIn_ret (hQ a ρ w ⟨Agree.refl _ _ _,henv,yp4,Sim.congr hS (y0 hG),WStep.refl _ _⟩)
theorem zl2 {N:Nat}{vars:List Nat}{ops:Array Oper}{draw:Bool}{sops:List SOp}{outs:List (Nat × Nat)}(hR:Jf P N vars ops draw sops outs){id:Nat}{env ts:lVq}{h h' : Heap}
  (hr:RegT P sops [] [] env h ts h'){base:Nat}{G:Nat→Option AObj}{ρ:Ren}{w:World}{a:Act}(ro:Option Nat) (hG:h.into G) (hfr:Fresh ρ h.next h'.next) (hS:Sim base G ρ w) (henv:EnvR ρ N vars env a.tmps){Q:Exit→Act→World→Prop}
  (hQ:∀ a' ρ' w',Left true base G ρ w a N vars h h' (upd ts outs env) a' ρ' w' →
   (∀ (d:Nat) s o t v,sops[sops.length - 1 - d]? = some s→d < sops.length→ops[s.j]? = some o→o.dst=some t→ts[d]? = some v → ∃ v',a'.tmps[t]? = some v' ∧ VR ρ' v v')→Q .normal a' w') :
  (Code.region id ops draw).wpIn (vj ro) 0 P Q a w:=by
 obtain ⟨nd,hR⟩:=hR;obtain ⟨hs,vq,ds,_,h1,h2,h3,_,h4⟩:=zy5 sops [] 0 (fun _=>undef) h h' ts hr;simp only [Nat.zero_add] at h1 h2 h3 h4;subst h1;subst h2;have C:Ctx P ops sops (U2 nd) hs vq env vars N base G ρ w:=⟨hR.reg,⟨ds,fun p s hp=>by simpa using h4 p s hp⟩,hG,hfr,hS⟩;have hfin:∀ (S:Nat→Prop) a1 w1,Inv ops sops hs vq env vars N base G ρ w a S a1 w1→(∀ (p:Nat) s,sops[p]? = some s→S s.j)→Q .normal a1 w1:=by
  intro S a1 w1 hI hall;obtain ⟨ρ',e1,e2,e3,e4,e5,e6⟩:=C.finish hI hall hR.outs henv.len;rw [h3] at hQ;refine hQ a1 ρ' w1 ⟨e1,e5,⟨[],Marks.none _ _ _,e4,fun _=>rfl⟩,e2,e3⟩ fun d s o t v hs1 hd ho ht hv=>?_;obtain ⟨v',h5,h6⟩:=e6 _ s o t hs1 ho ht;rw [Qc vq _ d hd] at hv;cases hv;exact ⟨v',h5,h6⟩
 cases draw with
 | true =>
  refine wpIn_region_any (hR.mixed rfl) ?_;refine C.anyOrder hR.order ro hfin ops.size _ _ _ (by simp) (by simp) (fun i hi=>?_) ?_
  ·simp [Array.getD_eq_getD_getElem?,Array.getElem?_replicate] at hi;split at hi<;>simp at hi
  ·refine Inv.congr (fun i=>?_) (C.start (w:={ w with drawn:=w.drawn + 1 }) ⟨rfl,rfl,rfl,rfl⟩ henv);constructor
   ·exact fun h=>h.elim
   ·intro hi;simp [Array.getD_eq_getD_getElem?,Array.getElem?_replicate] at hi;split at hi<;>simp at hi
 | false =>
  refine wpIn_region ?_;rw [List.range_eq_range'];exact C.textOrder hR.order ro hfin ops.size 0 a w (by simp) (Inv.congr (fun i=>⟨fun h=>h.elim,fun h=>by omega⟩) (C.start (w:=w) ⟨rfl,rfl,rfl,rfl⟩ henv))
theorem CodeT.reg {N:Nat}{vars:List Nat}{sops:List SOp}{outs:List (Nat × Nat)}{env ts:lVq}{h h' : Heap}(hr:RegT P sops [] [] env h ts h') :
  CodeT P N vars (.reg sops outs) env h .normal (upd ts outs env) h':=by
 refine ⟨hr.step,fun code hc base G ρ w a ro hro hG hfr hS henv Q hQ=>?_⟩;cases code<;>simp only [yi] at hc;exact zl2 hc hr ro hG hfr hS henv fun a' ρ' w' hl _=>hQ a' ρ' w' hl
theorem CodeT.seq {N:Nat}{vars:List Nat}{c1 c2:CCode}{env env1 env2:lVq}{h h1 h2:Heap}{x:AExit}(t1:CodeT P N vars c1 env h .normal env1 h1) (t2:CodeT P N vars c2 env1 h1 x env2 h2) :
  CodeT P N vars (.seq c1 c2) env h x env2 h2:=by
 refine ⟨t1.1.trans t2.1,fun code hc base G ρ w a ro hro hG hfr hS henv Q hQ=>?_⟩;cases code<;>simp only [yi] at hc;refine wpIn_seq (t1.2 _ hc.1 base G ρ w a ro (fun e=>hro (by simp [CCode.noRange,e])) hG (hfr.left t2.1.next) hS henv _ fun a' ρ' w' hl=>?_);exact t2.2 _ hc.2 base (vv h1 G) ρ' w' a' ro (fun e=>hro (by simp [CCode.noRange,e])) (yx _ _) (hfr.right t1.1.next hl.agree) hl.sim hl.env _ fun a2 ρ2 w2 hl2=>hQ a2 ρ2 w2 (hl.trans t1.1 t2.1 (fun e=>by simpa [CCode.noRange] using e) hl2)
theorem CodeT.seq_exit {N:Nat}{vars:List Nat}{c1 c2:CCode}{env env1:lVq}{h h1:Heap}{x:AExit}(t1:CodeT P N vars c1 env h x env1 h1) (hx:x ≠ .normal) :
  CodeT P N vars (.seq c1 c2) env h x env1 h1:=by
 refine ⟨t1.1,fun code hc base G ρ w a ro hro hG hfr hS henv Q hQ=>?_⟩;cases code<;>simp only [yi] at hc;refine wpIn_seq (t1.2 _ hc.1 base G ρ w a ro (fun e=>hro (by simp [CCode.noRange,e])) hG hfr hS henv _ fun a' ρ' w' hl=>?_);have:=hQ a' ρ' w' (hl.weak fun e=>by simp [CCode.noRange] at e;exact e.1);cases x<;>first | (exact absurd rfl hx) | exact this
theorem CodeT.rcond {N:Nat}{vars:List Nat}{sops:List SOp}{outs:List (Nat × Nat)}{d:Nat}{c1 c2:CCode}{env ts env2:lVq}{h h1 h2:Heap}{x:AExit}{b:Bool}(hr:RegT P sops [] [] env h ts h1)
  (hd:ts[d]? = some (.bool b)) (t2:CodeT P N vars (if b then c1 else c2) (upd ts outs env) h1 x env2 h2):CodeT P N vars (.rcond sops outs d c1 c2) env h x env2 h2:=by
 refine ⟨hr.step.trans t2.1,fun code hc base G ρ w a ro hro hG hfr hS henv Q hQ=>?_⟩;cases code<;>first | (simp only [yi] at hc;done) | skip
 rename_i y1 y2;cases y1<;>first | (simp only [yi] at hc;done) | skip
 rename_i id ops draw;cases y2<;>first | (simp only [yi] at hc;done) | skip
 rename_i cx ca cb;cases cx<;>first | (simp only [yi] at hc;done) | skip
 rename_i tt;simp only [yi] at hc;obtain ⟨hR,⟨hdl,s,o,h1',h2',h3'⟩,hca,hcb⟩:=hc;refine wpIn_seq (zl2 hR hr ro hG (hfr.left t2.1.next) hS henv fun a' ρ' w' hl htmp=>?_);obtain ⟨v',h4,h5⟩:=htmp d s o _ _ h1' hdl h2' h3' hd;have hb:=h5.bool;subst hb;have hev:a'.eval (.tmp tt) = .bool b:=by simp only [Act.eval,Array.getD_eq_getD_getElem?,h4];rfl
 refine wpIn_cond hev ?_;have:=t2.2 (if b then ca else cb) (by cases b<;>first | exact hca | exact hcb) base (vv h1 G) ρ' w' a' ro (fun e=>hro (by cases b<;>simp_all [CCode.noRange])) (yx _ _) (hfr.right hr.step.next hl.agree) hl.sim hl.env Q fun a2 ρ2 w2 hl2=>hQ a2 ρ2 w2 (hl.trans hr.step t2.1 (fun e=>⟨rfl,by cases b<;>simp_all [CCode.noRange]⟩) hl2);exact this
theorem CodeT.cond {N:Nat}{vars:List Nat}{y:Arg}{c1 c2:CCode}{env env2:lVq}{h h2:Heap}{x:AExit}{b:Bool}(hd:y.ev [] env=some (.bool b)) (t2:CodeT P N vars (if b then c1 else c2) env h x env2 h2) :
  CodeT P N vars (.cond y c1 c2) env h x env2 h2:=by
 refine ⟨t2.1,fun code hc base G ρ w a ro hro hG hfr hS henv Q hQ=>?_⟩;cases code<;>first | (simp only [yi] at hc;done) | skip
 rename_i cx ca cb;simp only [yi] at hc;obtain ⟨hx,hca,hcb⟩:=hc;have hev:a.eval cx = .bool b:=by
  unfold qc8 at hx;split at hx
  ·simp only [Arg.ev] at hd;obtain ⟨v',h4,h5⟩:=henv.get _ _ _ hx hd;have hb:=h5.bool;subst hb;simp only [Act.eval,Array.getD_eq_getD_getElem?,h4];rfl
  ·simp only [Arg.ev] at hd;cases hd;obtain ⟨rfl,_⟩:=hx;rfl
  ·exact hx.elim
 refine wpIn_cond hev ?_;exact t2.2 (if b then ca else cb) (by cases b<;>first | exact hca | exact hcb) base G ρ w a ro (fun e=>hro (by cases b<;>simp_all [CCode.noRange])) hG hfr hS henv Q fun a' ρ' w' hl=>hQ a' ρ' w' (hl.weak fun e=>by cases b<;>simp_all [CCode.noRange])
section
variable {b:Frame}{a:Act}{k:List Item}{cs:List Frame}{w:World}{Q:Exit→Act→World→Prop}{F:Fence}{n:Nat}
theorem wq {c:Code}:step P (lone (b.atR a (.code (.scope c)::k)) cs w) = .next (lone (b.atR a (.code c :: .inScope c::k)) cs w) :=
 step_lone_go (by simp [stepG,stepG.exec,Frame.atR])
theorem zc5 {c:Code}:step P (lone (b.atR a (.inScope c::k)) cs w) = .next (lone (b.atR a k) cs w) :=
 step_lone_go (by simp [stepG,stepG.exec,Frame.atR])
theorem yd8 {c:Code}(h:c.wpIn F n P (Exit.noGoto Q) a w):(Code.scope c).wpIn F n P Q a w:=by
 intro b k cs hro hb hr;have h0:(lone (b.atR a (.code (.scope c)::k)) cs w).fenced P F:=fenced_calm hb hr rfl;obtain ⟨e,a₁,w₁,hq,harr⟩:=h b (.inScope c::k) cs hro hb hr;cases e with
 | normal=>exact ⟨.normal,a₁,w₁,hq,.head h0 wq (StepsIn.trans harr (.one (fenced_calm hb hr rfl) zc5))⟩
 | exit id' =>
  have hx:exitTo id' (.inScope c::k)=exitTo id' k:=by simp [exitTo]
  exact ⟨.exit id',a₁,w₁,hq,fun k' hk=>.head h0 wq (harr.1 k' (by rw [hx];exact hk)),
   fun hr' hk=>let ⟨k₁,h1,h2⟩:=harr.2 hr' (by rw [hx];exact hk);⟨k₁,h1,.head h0 wq h2⟩⟩
 | goto l=>exact hq.elim
 | ret=>exact ⟨_,a₁,w₁,hq,.of_steps (.one h0 wq) harr⟩
 | panic ch=>exact ⟨_,a₁,w₁,hq,.of_steps (.one h0 wq) harr⟩
 | outgrown=>exact ⟨_,a₁,w₁,hq,.of_steps (.one h0 wq) harr⟩
end
theorem CodeT.label {N:Nat}{vars:List Nat}{env:lVq}{h:Heap}:CodeT P N vars .label env h .normal env h:=by
 refine ⟨Heap.step.refl h,fun code hc base G ρ w a ro hro hG hfr hS henv Q hQ=>?_⟩;cases code<;>simp only [yi] at hc;exact wpIn_label (hQ a ρ w ⟨Agree.refl _ _ _,henv,yp4,Sim.congr hS (y0 hG),WStep.refl _ _⟩)
theorem CodeT.scope {N:Nat}{vars:List Nat}{c:CCode}{env env1:lVq}{h h1:Heap}{x:AExit}(t:CodeT P N vars c env h x env1 h1) :
  CodeT P N vars (.scope c) env h x env1 h1:=by
 refine ⟨t.1,fun code hc base G ρ w a ro hro hG hfr hS henv Q hQ=>?_⟩;cases code<;>simp only [yi] at hc;refine yd8 (t.2 _ hc base G ρ w a ro hro hG hfr hS henv _ fun a' ρ' w' hl=>?_);have:=hQ a' ρ' w' hl;cases x<;>exact this
theorem CodeT.block {N:Nat}{vars:List Nat}{id:Nat}{c:CCode}{env env1:lVq}{h h1:Heap}{x:AExit}(t:CodeT P N vars c env h x env1 h1) :
  CodeT P N vars (.block id c) env h (if x = .exit id then .normal else x) env1 h1:=by
 refine ⟨t.1,fun code hc base G ρ w a ro hro hG hfr hS henv Q hQ=>?_⟩;cases code<;>simp only [yi] at hc;obtain ⟨rfl,hc⟩:=hc;refine wpIn_block (t.2 _ hc base G ρ w a ro hro hG hfr hS henv _ fun a' ρ' w' hl=>?_);have:=hQ a' ρ' w' hl;cases x with
 | normal=>exact this
 | ret=>exact this
 | exit i =>
  simp only [AExit.conc,Exit.inBlock];by_cases e:i=id
  ·subst e;rw [if_pos rfl] at this ⊢;exact this
  ·simp only [e,if_false];simpa [e,AExit.conc] using this
inductive LoopN (P:Program) (N:Nat) (vars:List Nat) (c:CCode):Nat→lVq→Heap→AExit→lVq→Heap→Prop
 | stop {env h x env1 h1}(t:CodeT P N vars c env h x env1 h1) (hx:x ≠ .normal):LoopN P N vars c 1 env h x env1 h1
 | next {m env h env1 h1 x env2 h2}(t:CodeT P N vars c env h .normal env1 h1) (r:LoopN P N vars c m env1 h1 x env2 h2):LoopN P N vars c (m + 1) env h x env2 h2
def LoopT (P:Program) (N:Nat) (vars:List Nat) (c:CCode) (env:lVq) (h:Heap) (x:AExit) (env1:lVq) (h1:Heap):Prop:=∃ m,LoopN P N vars c m env h x env1 h1
theorem LoopT.stop {N:Nat}{vars:List Nat}{c:CCode} {env h x env1 h1}(t:CodeT P N vars c env h x env1 h1) (hx:x ≠ .normal):LoopT P N vars c env h x env1 h1:=⟨1,.stop t hx⟩
theorem LoopT.next {N:Nat}{vars:List Nat}{c:CCode} {env h env1 h1 x env2 h2}(t:CodeT P N vars c env h .normal env1 h1) (r:LoopT P N vars c env1 h1 x env2 h2):LoopT P N vars c env h x env2 h2 :=
 let ⟨m,r⟩:=r;⟨m + 1,.next t r⟩
theorem LoopN.step {N:Nat}{vars:List Nat}{c:CCode}{m:Nat}{env env1:lVq}{h h1:Heap}{x:AExit}(t:LoopN P N vars c m env h x env1 h1):h.step h1:=by
 induction t with
 | stop t _=>exact t.1
 | next t _ ih=>exact t.1.trans ih
theorem LoopN.rounds {N:Nat}{vars:List Nat}{c:CCode}{body:Code}(hc:yi P N vars c body) (base:Nat) (ro:Option Nat) (hro:c.noRange=false→ro=none){m:Nat}{env env1:lVq}{h h1:Heap}{x:AExit}(t:LoopN P N vars c m env h x env1 h1) :
  ∀ (G:Nat→Option AObj) (ρ:Ren) (w:World) (a:Act),h.into G→Fresh ρ h.next h1.next→Sim base G ρ w→EnvR ρ N vars env a.tmps → ∀ Q:Exit→Act→World→Prop,(∀ a' ρ' w',Left c.noRange base G ρ w a N vars h h1 env1 a' ρ' w' → Q x.conc a' w') →
   Code.roundsIn (vj ro) 0 P body Q m a w:=by
 induction t with
 | stop t hx =>
  rename_i x _ _;intro G ρ w a hG hfr hS henv Q hQ;refine t.2 _ hc base G ρ w a ro hro hG hfr hS henv _ fun a' ρ' w' hl=>?_;have:=hQ a' ρ' w' hl;cases x<;>first | (exact absurd rfl hx) | exact this
 | next t r ih =>
  intro G ρ w a hG hfr hS henv Q hQ;have st:=r.step;refine t.2 _ hc base G ρ w a ro hro hG (hfr.left st.next) hS henv _ fun a' ρ' w' hl=>?_;exact ih (vv _ G) ρ' w' a' (yx _ _) (hfr.right t.1.next hl.agree) hl.sim hl.env Q fun a2 ρ2 w2 hl2=>hQ a2 ρ2 w2 (hl.trans t.1 st (fun e=>⟨e,e⟩) hl2)
theorem CodeT.loop {N:Nat}{vars:List Nat}{c:CCode}{env env1:lVq}{h h1:Heap}{x:AExit}(t:LoopT P N vars c env h x env1 h1):CodeT P N vars (.loop c) env h x env1 h1:=by
 obtain ⟨m,t⟩:=t;refine ⟨t.step,fun code hc base G ρ w a ro hro hG hfr hS henv Q hQ=>?_⟩;cases code<;>simp only [yi] at hc;exact wpIn_loop_rounds m (t.rounds hc base ro hro G ρ w a hG hfr hS henv Q hQ)
end Go.Eng
namespace Go.Eng
open Go
variable {P:Program}
inductive ResArg where
 | var (k:Nat)
 | cell (k:Nat) (agg:Bool) (size:Nat)
 deriving Inhabited
structure CFn where
 nargs:Nat
 vars:List Nat
 body:CCode
 results:List ResArg
 deriving Inhabited
def ResArg.get (env:lVq) (h:Heap):ResArg→Option Value
 | .var k=>env[k]?
 | .cell k agg size=>match env[k]? with
  | some p=>aR (.load agg size) [p] h.get
  | none=>none
def qo (env:lVq) (h:Heap):List ResArg→Option (lVq)
 | []=>some []
 | r::rs=>match r.get env h,qo env h rs with
  | some v,some l=>some (v::l)
  | _,_=>none
def yl:lVq→Value
 | [v]=>v
 | vs=>.tuple vs.toArray
def yj2 (P:Program) (vars:List Nat):ResultVar→ResArg→Prop
 | .tmp t,.var k=>vars[k]? = some t
 | .cell a t,.cell k agg size=>vars[k]? = some a∧isAgg? P t=some agg∧sizeOf? P t=some size
 | _,_=>False
structure FnOk (P:Program) (f:FuncId) (cf:CFn):Prop where
 fn : ∃ fn code, P.funcs[f]? = some fn ∧ fn.body = some code ∧ (fn.name == "runtime.NumGoroutine") = false ∧ yi P fn.ntmps cf.vars cf.body code ∧ All2 (yj2 P cf.vars) fn.results.toList cf.results ∧ cf.nargs ≤ fn.ntmps ∧
  (∀ (k:Nat) s,cf.vars[k]? = some s→(k < cf.nargs→s=k)∧(cf.nargs≤k→cf.nargs≤s∧s < fn.ntmps))∧cf.nargs≤cf.vars.length
theorem FnOk.enters {f:FuncId}{cf:CFn}(h:FnOk P f cf):Jg P f:=by
 obtain ⟨fn,code,h1,h2,h3,_⟩:=h.fn;intro args w;have h3' : ¬ fn.name = "runtime.NumGoroutine" := by simpa using h3
 simp [callFunc,h1,h3',h2]
def Ug (cf:CFn) (args:lVq):lVq:=args++List.replicate (cf.vars.length - args.length) undef
def Heap.sweep (n:Nat) (h:Heap):Heap where
 next:=h.next
 get:=fun id=>match h.get id with
  | some .defd=>if n≤id then some .dead else some .defd
  | o=>o
 wf:=fun id hid=>by rw [h.wf id hid]
def fin (nr:Bool) (n:Nat) (h:Heap):Heap:=match nr with | true=>h | false=>h.sweep n
theorem Heap.sweep_get (n:Nat) (h:Heap) (id:Nat):(h.sweep n).get id=h.get id∨((h.sweep n).get id=some .dead∧h.get id=some .defd∧n≤id):=by
 simp only [Heap.sweep];split
 ·rename_i hd;split
  ·exact .inr ⟨rfl,hd,by assumption⟩
  ·exact .inl hd.symm
 ·exact .inl rfl
theorem Heap.sweep_defd {n:Nat}{h:Heap}{id:Nat}(hd:h.get id=some .defd) (hn:n≤id):(h.sweep n).get id=some .dead:=by
 simp only [Heap.sweep,hd,hn,if_true]
theorem Heap.sweep_blk {n:Nat}{h:Heap}{id:Nat}{o:AObj}(hd:h.get id=some o) (ho:o ≠ .defd):(h.sweep n).get id=some o:=by
 rcases h.sweep_get n id with e | ⟨_,e,_⟩
 ·rw [e,hd]
 ·rw [hd] at e;cases e;exact absurd rfl ho
theorem Heap.step_sweep {h h1:Heap}(s:h.step h1):h.step (h1.sweep h.next):=by
 refine ⟨s.next,fun id hid=>?_,fun id hl hn=>?_,fun id hd=>?_⟩
 ·have:=s.dom id hid;rcases h1.sweep_get h.next id with e | ⟨e,_,_⟩<;>rw [e]
  ·exact this
  ·rfl
 ·have:=s.back id hl hn;rcases h1.sweep_get h.next id with e | ⟨_,e,_⟩
  ·rw [e,this]
  ·rw [this] at e;cases e
 ·have h1':=s.defd id hd;have hl:=Heap.lt_of_get hd;rcases h1.sweep_get h.next id with e | ⟨_,_,e⟩
  ·rw [e,h1']
  ·omega
theorem Sim.kills {base:Nat}{G G' : Nat→Option AObj}{ρ:Ren}{w:World}(h:Sim base G ρ w) (hk:∀ id,G' id=G id∨(G' id=some .dead∧(G id).isSome=true)):Sim base G' ρ w where
 dom:=fun id=>by
  rcases hk id with e | ⟨e,e2⟩
  ·rw [e];exact h.dom id
  ·rw [e,← h.dom id,e2];rfl
 size:=h.size
 glob:=h.glob
 rng:=h.rng
 obj:=fun id o l hg hl=>by
  rcases hk id with e | ⟨e,_⟩
  ·exact h.obj id o l (by rw [← e];exact hg) hl
  ·rw [e] at hg;cases hg;trivial
 inj:=fun i j oi oj li lj gi gj ri rj hne ho hd=>by
  rcases hk i with e | ⟨e,_⟩
  ·rcases hk j with e' | ⟨e',_⟩
   ·exact h.inj i j oi oj li lj (by rw [← e];exact gi) (by rw [← e'];exact gj) ri rj hne ho hd
   ·rw [e'] at gj;cases gj;exact absurd rfl hd
  ·rw [e] at gi;cases gi;simp [AObj.own] at ho
theorem Wv {F:Fence}{n:Nat}{fn:Func}{tmps:Array Value}{R:Ending→World→Prop}{base:Nat}{ρ:Ren}:∀ (ms:List Nat) (G:Nat→Option AObj) (w:World),Sim base G ρ w→ms.Nodup→(∀ m ∈ ms,G m=some .defd) →
  (∀ G2 w2,Sim base G2 ρ w2→(∀ id,G2 id=if id ∈ ms then some .dead else G id)→WStep base w w2→LeavesIn F n P fn tmps R [] .returning w2) →
  LeavesInM F n P fn tmps R (ms.map fun m=>{ target:=.collected ((ρ m).map (·.b)|>.getD 0),args:=#[] }) .returning w
 | [],G,w,hS,_,_,hfin=>hfin G w hS (by simp) (WStep.refl _ _)
 | m::ms,G,w,hS,hn,hd,hfin=>by
  have hm:=hd m (by simp);have hdom:=hS.dom m;rw [hm] at hdom;obtain ⟨l,hl⟩:=Option.isSome_iff_exists.1 hdom.symm;have ho:=hS.obj m _ l hm hl;have hn':=List.nodup_cons.1 hn;have hlt:l.b < w.heap.size:=hS.rng m l hl;refine ⟨by simp,.inl ⟨l.b,w.putObj l.b (.deferred none),by simp [hl],run_takeDeferred ho.2.2,?_⟩⟩;have hS2:Sim base (vl G m .dead) ρ (w.putObj l.b (.deferred none)):=hS.write m _ .dead l hm hl rfl (by simp) (fun b hb=>World.putObj_heap_other hb) trivial;refine Wv ms (vl G m .dead) _ hS2 hn'.2 (fun m' hm'=>?_) fun G2 w2 h2 hg hst=>?_
  ·have:m' ≠ m:=fun e=>hn'.1 (e ▸ hm');simp only [vl,this,if_false];exact hd m' (by simp [hm'])
  ·refine hfin G2 w2 h2 (fun id=>?_) (WStep.trans ⟨by simp,fun b hb=>World.putObj_heap_other (by have:=ho.2.1;omega),rfl,rfl,rfl,fun a _=>Kk ho.2.2 (by simp) (by simp) a⟩ hst);rw [hg id];by_cases e:id ∈ ms
   ·simp [e]
   ·by_cases e2:id=m
    ·simp [e2,vl,hn'.1]
    ·simp [e,e2,vl]
def BodyT (P:Program) (N:Nat) (cf:CFn) (args:lVq) (h:Heap) (v:Value) (h' : Heap):Prop :=
 ∃ x env' vs h1,CodeT P N cf.vars cf.body (Ug cf args) h x env' h1∧(x = .normal∨x = .ret)∧h' = fin cf.body.noRange h.next h1∧qo env' h' cf.results=some vs∧v=yl vs
theorem yl8 {vars:List Nat}{N:Nat}{ρ:Ren}{env:lVq}{a:Act}(henv:EnvR ρ N vars env a.tmps){base:Nat}{G:Nat→Option AObj}{w:World}(hS:Sim base G ρ w){h:Heap}(hG:h.into G) :
  ∀ {rs:List ResultVar}{cs:List ResArg},All2 (yj2 P vars) rs cs → ∀ {vs:lVq},qo env h cs=some vs →
   ∃ vs',VRs ρ vs vs' ∧ (rs.mapM (fun | .tmp t=>pure (a.tmps.getD t undef) | .cell p t=>do loadVar t (← asAddr (a.tmps.getD p undef)):ResultVar→Sem Value)).run P w = .ok vs' w
 | _,_,.nil,vs,hv=>by cases hv;exact ⟨[],.nil,by simp⟩
 | r::rs,c::cs,.cons h1 hr,vs,hv=>by
  simp only [qo] at hv;split at hv<;>first | (cases hv;done) | skip
  rename_i v l hv1 hl;cases hv;obtain ⟨vs',h2,h3⟩:=yl8 henv hS hG hr hl;unfold yj2 at h1;split at h1
  ·rename_i t k;simp only [ResArg.get] at hv1;obtain ⟨v',h4,h5⟩:=henv.get k t v h1 hv1;refine ⟨v' :: vs',.cons _ _ _ _ h5 h2,?_⟩;have:a.tmps.getD t undef=v':=by simp [Array.getD_eq_getD_getElem?,h4]
   simp only [List.mapM_cons,Sem.run_bind,Sem.run_pure,Result.andThen_ok,this,h3]
  ·rename_i p t k agg size;obtain ⟨hk,hagg,hsize⟩:=h1;simp only [ResArg.get] at hv1;split at hv1<;>first | (cases hv1;done) | skip
   rename_i pv hp;obtain ⟨p',h4,h5⟩:=henv.get k p pv hk hp;have hget:a.tmps.getD p undef=p':=by simp [Array.getD_eq_getD_getElem?,h4]
   have hG2:aR (.load agg size) [pv] G=some v:=by
    unfold aR at hv1 ⊢;split at hv1<;>first | (cases hv1;done) | contradiction | skip
    rename_i gg agg' size' id off heq1 heq2;cases heq1;cases heq2;split at hv1<;>first | (cases hv1;done) | skip
    all_goals
     rename_i hc;simp only [hG _ _ hc];exact hv1
   let ev:Operand→Value:=fun _=>p';have hk2:zm P (.load t (.tmp p))=some (.r (.load agg size),[.tmp p]):=by simp [zm,hagg,hsize]
   obtain ⟨v',h6,h7⟩:=ym2 (ev:=ev) hk2 (.cons _ _ _ _ h5 .nil) hS hG2;have h8 := h7 { dst := none, op := .load t (.tmp p), type := 0, pos := "", after := #[], guard := none } rfl;have hpp:∃ ad,p' = .pointer (some ad):=by
    unfold aR at hG2;split at hG2<;>first | (cases hG2;done) | contradiction | skip
    rename_i heq1 heq2;cases heq2;obtain ⟨l,_,e⟩:=h5.ptr_inv;exact ⟨_,e⟩
   obtain ⟨ad,rfl⟩:=hpp;have h9:(loadVar t ad).run P w = .ok v' w:=by
    simp only [execOp,Instr.loadAt,ev,Instr.sureAddr,Sem.run_bind,Sem.run_pure,Result.andThen_ok] at h8;cases hx:(loadVar t ad).run P w with
    | ok x w2=>rw [hx] at h8;simp at h8;rw [h8.1,h8.2]
    | halt x w2=>rw [hx] at h8;simp at h8
   refine ⟨v' :: vs',.cons _ _ _ _ h6 h2,?_⟩;have ha:(asAddr (a.tmps.getD p undef)).run P w = .ok ad w:=by rw [hget];rfl
   simp only [List.mapM_cons,Sem.run_bind,Sem.run_pure,Result.andThen_ok,ha,h9,h3]
  ·exact h1.elim
theorem CallT.of_body_at {f:FuncId}{cf:CFn}(hf:FnOk P f cf){args:lVq}{h h' : Heap}{v:Value}(hn:args.length=cf.nargs){fn:Func}(hfn:P.funcs[f]? = some fn) (hb:BodyT P fn.ntmps cf args h v h'):CallT P f args h v h':=by
 obtain ⟨fn',code,h1,h2,h3,h4,h5,h6,h7,h8⟩:=hf.fn;rw [hfn] at h1;cases h1;have h1:=hfn;obtain ⟨x,env',vs,hB,ht,hx,rfl,hres,rfl⟩:=hb;have hst:h.step (fin cf.body.noRange h.next hB):=by
  cases cf.body.noRange
  ·exact Heap.step_sweep ht.1
  ·exact ht.1
 have hnext:(fin cf.body.noRange h.next hB).next=hB.next:=by cases cf.body.noRange<;>rfl
 refine ⟨hf.enters,hst,fun base G ρ w args' hG hfr hS hargs=>?_⟩;have hl:args'.length=cf.nargs:=by rw [← hargs.length];exact hn
 refine callsIn_wide.1 (callsIn_of_wp_marks (n:=0) h1 h2 trivial ?_);have hwide:vj none=Fence.wide:=rfl;rw [← hwide];rw [hnext] at hfr;refine ht.2 code h4 base G ρ w _ none (fun _=>rfl) hG hfr hS ?_ _ fun a' ρ' w' hl=>?_
 ·refine ⟨by simp;omega,by simp [Ug];omega,fun k s v hk hv=>?_⟩;obtain ⟨ha,hb⟩:=h7 k s hk;by_cases hka:k < cf.nargs
  ·obtain rfl:=ha hka;simp only [Ug] at hv;rw [List.getElem?_append_left (by omega)] at hv;obtain ⟨v',e1,e2⟩:=hargs.get s v hv;refine ⟨v',?_,e2⟩;rw [Array.getElem?_append_left (by simp;omega)];simpa using e1
  ·obtain ⟨hb1,hb2⟩:=hb (by omega);simp only [Ug] at hv;rw [List.getElem?_append_right (by omega)] at hv;have hvu:v=undef:=by
    have:=List.mem_of_getElem? hv;exact (List.mem_replicate.1 this).2
   subst hvu;refine ⟨undef,?_,.same _ rfl⟩;rw [Array.getElem?_append_right (by simp;omega),Array.getElem?_replicate,if_pos];simp only [List.size_toArray];omega
 ·obtain ⟨ds,⟨ms,hnd,hms,hds⟩,hdef,hnr⟩:=hl.defers;simp only [List.append_nil] at hdef;have hdm:∀ m ∈ ms,vv hB G m=some .defd:=fun m hm=>yx hB G m _ (hms m hm).2;have hfin:LeavesInM (vj none) 0 P fn a'.tmps (fun e w'=>∃ v' ρ',e = .returned v' ∧ StepOk base G ρ w h (fin cf.body.noRange h.next hB) (yl vs) v' ρ' w') a'.defers .returning w':=by
   rw [hdef,hds];refine Wv ms (vv hB G) w' hl.sim hnd hdm fun G2 w2 hS2 hG2 hst2=>?_;have hS3:Sim base (vv (fin cf.body.noRange h.next hB) G) ρ' w2:=by
    refine hS2.kills fun id=>?_;cases hnrb:cf.body.noRange with
    | true =>
     have hz:=hnr hnrb;rw [hds] at hz;have hz' : ms=[]:=by simpa using hz
     left;rw [hG2 id,hz'];simp [fin]
    | false =>
     simp only [fin];by_cases hm:id ∈ ms
     ·left;rw [hG2 id,if_pos hm];unfold vv;rw [Heap.sweep_defd (hms id hm).2 (hms id hm).1];rfl
     ·rw [hG2 id,if_neg hm];rcases hB.sweep_get h.next id with e | ⟨e,e2,_⟩
      ·left;unfold vv;rw [e]
      ·right;unfold vv;rw [e,e2];exact ⟨rfl,rfl⟩
   have henv2:EnvR ρ' fn.ntmps cf.vars env' a'.tmps:=hl.env;obtain ⟨vs',e1,e2⟩:=yl8 (P:=P) henv2 hS3 (yx (fin cf.body.noRange h.next hB) G) h5 hres;have hrun:(results fn a'.tmps).run P w2 = .ok (yl vs') w2:=by
    unfold results;rw [Array.mapM_eq_mapM_toList];simp only [Sem.run_bind,Sem.run_map]
    erw [e2]
    simp only [Result.andThen_ok];cases vs' with
    | nil=>rfl
    | cons x r=>cases r with
     | nil=>rfl
     | cons y r=>simp [yl]
   have hvp:VR ρ' (yl vs) (yl vs'):=by
    cases e1 with
    | nil=>exact .tuple [] [] .nil
    | cons x x' r r' hx hr=>cases hr with
     | nil=>exact hx
     | cons y y' r2 r2' hy hr=>exact .tuple _ _ (.cons _ _ _ _ hx (.cons _ _ _ _ hy hr))
   have hag:Agree ρ ρ' h.next (fin cf.body.noRange h.next hB).next:=by rw [hnext];exact hl.agree
   exact ⟨yl vs',hrun,yl vs',ρ',rfl,⟨hag,hvp,hS3,hl.step.trans hst2⟩⟩
  rcases hx with rfl | rfl<;>exact hfin
end Go.Eng
namespace Go.Eng
open Go
def Y4 (ops:Array Oper) (j:Nat):List Nat :=
 match ops[j]? with
 | some o=>o.after.toList.filterMap fun e=>if Region.binds .any e then some e.on else none
 | none=>[]
def yd3 (l:List Nat):List Nat→List Nat
 | []=>l
 | x::r=>yd3 (if l.contains x then l else l++[x]) r
def ndDraw (ops:Array Oper):List (List Nat) :=
 (List.range ops.size).foldl (fun acc j=>acc++[yd3 [] (Y4 ops j++(Y4 ops j).flatMap fun i=>acc.getD i [])]) []
def ndText (ops:Array Oper):List (List Nat):=(List.range ops.size).map List.range
def zz5 (ops:Array Oper) (nd:List (List Nat)) (draw:Bool):Bool :=
 if draw then ((List.range nd.length).all fun j=>(U2 nd j).all fun i=>(Y4 ops j).contains i || (Y4 ops j).any fun k=>(U2 nd k).contains i) && ((List.range ops.size).all fun j=>(Y4 ops j).all (decide <| · < j))
 else (List.range nd.length).all fun j=>(U2 nd j).all (decide <| · < j)
def isEffect (P:Program) (op:Op):Bool:=match zm P op with | some (k,_)=>k.isE | none=>false
def yf3 (P:Program) (ops:Array Oper) (nd:List (List Nat)):List Nat :=
 let es:=(List.range ops.size).filter fun j=>match ops[j]? with | some o=>isEffect P o.op | none=>false
 let head:=es.foldl (fun acc e=>yd3 acc ((List.range ops.size).filter fun i=>i == e || (U2 nd e).contains i)) []
 yd3 head (List.range ops.size)
def Wr:List Nat→Bool
 | []=>true
 | x::r=>!r.contains x && Wr r
def uq:List (Option Nat)→Bool
 | []=>true
 | none::r=>uq r
 | some d::r=>!r.contains (some d) && uq r
def idx? (t:Nat):List Nat→Nat→Option Nat
 | [],_=>none
 | x::r,i=>if x == t then some i else idx? t r (i + 1)
def tOk (ops:Array Oper) (pi:List Nat) (nd:List (List Nat)) (p j t d:Nat):Bool :=
 decide (d < p) && match pi[p - 1 - d]? with
 | some i=>(match ops[i]? with | some o=>o.dst == some t | none=>false) && (U2 nd j).contains i
 | none=>false
def vOk (ops:Array Oper) (vars:List Nat) (nd:List (List Nat)) (j t k:Nat):Bool :=
 vars[k]? == some t && (List.range ops.size).all fun i=>match ops[i]? with | some o=>o.dst != some t || i == j || (U2 nd i).contains j | none=>true
def zx5 (ops:Array Oper) (pi:List Nat) (t:Nat):Option Nat:=(List.range pi.length).find? fun q=>match pi[q]? with | some i=>(match ops[i]? with | some o=>o.dst == some t | none=>false) | none=>false
def mkArg (ops:Array Oper) (pi:List Nat) (vars:List Nat) (nd:List (List Nat)) (p j:Nat):Operand→Option Arg
 | .tmp t =>
  let d:=p - 1 - (zx5 ops pi t).getD p
  if tOk ops pi nd p j t d then some (.t d) else
  match idx? t vars 0 with
  | some k=>if vOk ops vars nd j t k then some (.v k) else none
  | none=>none
 | .const v=>if Value.plain v then some (.c v) else none
 | .func f=>some (.f f)
 | .global _=>none
def U3 (ops:Array Oper) (pi:List Nat) (vars:List Nat) (nd:List (List Nat)) (p j:Nat):List Operand→Option (List Arg)
 | []=>some []
 | x::r=>match mkArg ops pi vars nd p j x,U3 ops pi vars nd p j r with
  | some a,some l=>some (a::l)
  | _,_=>none
def zd7 (ops:Array Oper) (pi:List Nat) (nd:List (List Nat)) (p j:Nat):Option (Nat × Bool)→Option (Option (Nat × Bool))
 | none=>some none
 | some (gi,want) =>
  match ops[gi]? with
  | some o=>match o.dst with
   | some t =>
    let d:=p - 1 - (idx? gi pi 0).getD p
    if decide (d < p) && pi[p - 1 - d]? == some gi && (U2 nd j).contains gi && t == t then some (some (d,want)) else none
   | none=>none
  | none=>none
def yv2 (P:Program) (ops:Array Oper) (pi:List Nat) (nd:List (List Nat)) (p j:Nat):Bool :=
 (pi.drop (p + 1)).any fun l=>(match ops[l]? with | some o=>(match zm P o.op with | some (k,_)=>k.isR | none=>false) | none=>false) && !(U2 nd l).contains j
def Zv (P:Program) (ops:Array Oper) (pi0:List Nat) (vars:List Nat) (nd:List (List Nat)):Nat→List Nat→Option (List SOp)
 | _,[]=>some []
 | p,j::r =>
  match ops[j]? with
  | some o=>match zm P o.op with
   | some (k,xs)=>match U3 ops pi0 vars nd p j xs,zd7 ops pi0 nd p j o.guard,Zv P ops pi0 vars nd (p + 1) r with
    | some args,some g,some l=>some ({ j,k,args,g,q:=k.isE && yv2 P ops pi0 nd p j }::l)
    | _,_,_=>none
   | none=>none
  | none=>none
def effB (sops:List SOp) (nd:List (List Nat)):Bool :=
 (List.range sops.length).all fun p=>match sops[p]? with
  | some s=>!s.k.isE || (sops.take p).all fun s'=>(U2 nd s.j).contains s'.j
  | none=>true
def rdB (sops:List SOp) (nd:List (List Nat)):Bool :=
 (List.range sops.length).all fun p=>match sops[p]? with
  | some s=>!s.k.isR || (sops.take p).all fun s'=>!s'.k.isE || (U2 nd s.j).contains s'.j || s'.q
  | none=>true
def regB (N:Nat) (ops:Array Oper) (pi:List Nat) (sops:List SOp) (nd:List (List Nat)):Bool :=
 pi.length == ops.size && pi.all (decide <| · < ops.size) && ((List.range ops.size).all fun j=>pi.contains j) && Wr pi && uq (ops.toList.map (·.dst)) &&
  (ops.toList.all fun o=>match o.dst with | some d=>decide (d < N) | none=>true) && effB sops nd && rdB sops nd
def yq0 (ops:Array Oper) (pi:List Nat) (vars:List Nat):List (Nat × Nat) :=
 (List.range vars.length).filterMap fun k=>match vars[k]? with
  | some t=>(zx5 ops pi t).map fun q=>(k,pi.length - 1 - q)
  | none=>none
def outsB (ops:Array Oper) (pi:List Nat) (vars:List Nat) (outs:List (Nat × Nat)):Bool :=
 Wr vars &&
 ((
  List.range ops.size).all fun i=>match ops[i]? with
  | some o=>(match o.dst with
   | some t=>(List.range vars.length).all fun k=>vars[k]? != some t || (List.range pi.length).any fun p=>pi[p]? == some i && outs.contains (k,pi.length - 1 - p)
   | none=>true)
  | none=>true) &&
 (outs.all fun (k,d)=>decide (d < pi.length) && match pi[pi.length - 1 - d]? with
  | some i=>(match ops[i]? with | some o=>(match o.dst with | some t=>vars[k]? == some t | none=>false) | none=>false)
  | none=>false) &&
 Wr (outs.map (·.1))
def compR (P:Program) (N:Nat) (vars:List Nat) (ops:Array Oper) (draw:Bool):Option (List SOp × List (Nat × Nat)) :=
 let nd:=if draw then ndDraw ops else ndText ops
 let pi:=if draw then yf3 P ops nd else List.range ops.size
 match Zv P ops pi vars nd 0 pi with
 | some sops =>
  let outs:=yq0 ops pi vars
  if regB N ops pi sops nd && zz5 ops nd draw && outsB ops pi vars outs && (!draw || P.follows .mixedOrders) then some (sops,outs) else none
 | none=>none
def ym8:Code→Code→Option (Array Oper × Bool × Tmp × Code × Code)
 | .region _ ops draw,.cond (.tmp t) x y=>some (ops,draw,t,x,y)
 | _,_=>none
def mkCond (vars:List Nat):Operand→Option Arg
 | .tmp t=>match idx? t vars 0 with | some k=>if vars[k]? == some t then some (.v k) else none | none=>none
 | .const v=>if Value.plain v then some (.c v) else none
 | _=>none
def mkV (vars:List Nat) (t:Nat):Option Nat:=match (List.range vars.length).find? fun k=>vars[k]? == some t with
 | some k=>if vars[k]? = some t then some k else none
 | none=>none
def mkFun (vars:List Nat):Operand→Option Arg
 | .tmp t=>(mkV vars t).map .v
 | .func f=>some (.f f)
 | _=>none
def mkPs (vars:List Nat):List Nat→Option (List Nat)
 | []=>some []
 | t::r=>match mkV vars t,mkPs vars r with
  | some k,some l=>some (k::l)
  | _,_=>none
def uv (P:Program) (N:Nat) (vars:List Nat):Nat→Code→Option CCode
 | 0,_=>none
 | fuel + 1,c =>
  match c with
  | .skip=>some .skip
  | .region _ ops draw=>match compR P N vars ops draw with
   | some (s,o)=>some (.reg s o)
   | none=>some .never
  | .refuse _=>some .never
  | .seq x y =>
   match ym8 x y with
   | some (ops,draw,t,a,b) =>
    match compR P N vars ops draw,uv P N vars fuel a,uv P N vars fuel b with
    | some (s,o),some ca,some cb =>
     match (List.range s.length).find? fun d=>match s[s.length - 1 - d]? with | some so=>(match ops[so.j]? with | some op=>op.dst == some t | none=>false) | none=>false with
     | some d=>some (.rcond s o d ca cb)
     | none=>none
    | _,_,_=>none
   | none =>
    match uv P N vars fuel x,uv P N vars fuel y with
    | some a,some b=>some (.seq a b)
    | _,_=>none
  | .cond y a b =>
   match mkCond vars y,uv P N vars fuel a,uv P N vars fuel b with
   | some x,some ca,some cb=>some (.cond x ca cb)
   | _,_,_=>none
  | .block id x=>(uv P N vars fuel x).map fun a=>.block id a
  | .loop x=>(uv P N vars fuel x).map fun a=>.loop a
  | .exit id=>some (.exit id)
  | .ret=>some .ret
  | .scope x=>(uv P N vars fuel x).map fun a=>.scope a
  | .label _=>some .label
  | .rangeFunc g qs a b =>
   match mkFun vars g,mkPs vars qs.toList,uv P N vars fuel a,uv P N vars fuel b with
   | some x,some ps,some ca,some cb=>if vars.Nodup∧(ca.noRange && cb.noRange)=true then some (.range x ps ca cb) else none
   | _,_,_,_=>none
  | _=>none
variable {P:Program}
theorem Y3 {ops:Array Oper}{j i:Nat}:i ∈ Y4 ops j↔zb6 ops j i:=by
 unfold Y4 zb6;cases ho:ops[j]? with
 | none=>simp
 | some o =>
  simp only [List.mem_filterMap,Array.mem_toList_iff];constructor
  ·rintro ⟨e,he,h⟩;split at h
   ·rename_i hb;cases h;exact ⟨o,e,rfl,he,hb,rfl⟩
   ·cases h
  ·rintro ⟨o',e,h1,he,hb,rfl⟩;cases h1;exact ⟨e,he,by simp [hb]⟩
theorem zz8 {nd:List (List Nat)}{j i:Nat}(h:i ∈ U2 nd j):j < nd.length:=by
 unfold U2 at h;rcases Nat.lt_or_ge j nd.length with h1 | h1
 ·exact h1
 ·rw [List.getD_eq_getElem?_getD,List.getElem?_eq_none h1] at h;simp at h
theorem yo4 {ops:Array Oper}{nd:List (List Nat)}{draw:Bool}(h:zz5 ops nd draw=true):Y8 ops (U2 nd) draw:=by
 unfold zz5 at h;unfold Y8;cases draw with
 | true =>
  simp only [if_true,Bool.and_eq_true] at h ⊢;obtain ⟨h1,h2⟩:=h;refine ⟨fun j i hi=>?_,fun j i hd=>?_⟩
  ·have:=List.all_eq_true.1 (List.all_eq_true.1 h1 j (List.mem_range.2 (zz8 hi))) i hi;simp only [Bool.or_eq_true,List.contains_iff_mem,List.any_eq_true] at this;rcases this with h | ⟨k,hk,h⟩
   ·exact .inl (Y3.1 h)
   ·exact .inr ⟨k,Y3.1 hk,h⟩
  ·have hj:j < ops.size:=by
    obtain ⟨o,e,ho,_⟩:=hd;exact (Array.getElem?_eq_some_iff.1 ho).1
   have:=List.all_eq_true.1 (List.all_eq_true.1 h2 j (List.mem_range.2 hj)) i (Y3.2 hd);simpa using this
 | false =>
  simp only [Bool.false_eq_true,if_false] at h ⊢;intro j i hi;have:=List.all_eq_true.1 (List.all_eq_true.1 h j (List.mem_range.2 (zz8 hi))) i hi;simpa using this
theorem Yg {ops:Array Oper}{pi0 vars:List Nat}{nd:List (List Nat)}:∀ {r:List Nat}{p:Nat}{l:List SOp},Zv P ops pi0 vars nd p r=some l→l.length=r.length ∧
  ∀ (i:Nat) s,l[i]? = some s→r[i]? = some s.j ∧ ∃ o xs,ops[s.j]? = some o∧zm P o.op=some (s.k,xs)∧U3 ops pi0 vars nd (p + i) s.j xs=some s.args∧zd7 ops pi0 nd (p + i) s.j o.guard=some s.g∧s.q=(s.k.isE && yv2 P ops pi0 nd (p + i) s.j)
 | [],p,l,h=>by simp [Zv] at h;subst h;simp
 | j::r,p,l,h=>by
  simp only [Zv] at h;split at h<;>first | (cases h;done) | skip
  rename_i o ho;split at h<;>first | (cases h;done) | skip
  rename_i k xs hk;split at h<;>first | (cases h;done) | skip
  rename_i args g l' ha hg hl;cases h;obtain ⟨h1,h2⟩:=Yg hl;refine ⟨by simp [h1],fun i s hs=>?_⟩;cases i with
  | zero=>simp at hs;subst hs;exact ⟨by simp,o,xs,ho,hk,ha,hg,rfl⟩
  | succ i =>
   have:=h2 i s (by simpa using hs);have e:p + 1 + i=p + (i + 1):=by omega
   rw [e] at this;simpa using this
theorem Z2:∀ {l:List Nat},Wr l=true→l.Nodup
 | [],_=>List.nodup_nil
 | x::r,h=>by
  simp only [Wr,Bool.and_eq_true,Bool.not_eq_true',List.contains_eq_mem,decide_eq_false_iff_not] at h;exact List.nodup_cons.2 ⟨h.1,Z2 h.2⟩
theorem Wq:∀ {l:List Nat},l.Nodup → ∀ (p q x:Nat),l[p]? = some x→l[q]? = some x→p=q
 | [],_,p,q,x,h,_=>by simp at h
 | y::r,hn,0,0,x,_,_=>rfl
 | y::r,hn,0,q + 1,x,h1,h2=>by
  simp at h1;subst h1;exact absurd (List.mem_of_getElem? (by simpa using h2)) (List.nodup_cons.1 hn).1
 | y::r,hn,p + 1,0,x,h1,h2=>by
  simp at h2;subst h2;exact absurd (List.mem_of_getElem? (by simpa using h1)) (List.nodup_cons.1 hn).1
 | y::r,hn,p + 1,q + 1,x,h1,h2=>by
  rw [Wq (List.nodup_cons.1 hn).2 p q x (by simpa using h1) (by simpa using h2)]
theorem zu7:∀ {l:List (Option Nat)},uq l=true → ∀ (p q d:Nat),l[p]? = some (some d)→l[q]? = some (some d)→p=q
 | [],_,p,q,d,h,_=>by simp at h
 | none::r,hn,0,q,d,h1,_=>by simp at h1
 | none::r,hn,p + 1,0,d,_,h2=>by simp at h2
 | none::r,hn,p + 1,q + 1,d,h1,h2=>by
  rw [zu7 (l:=r) (by simpa [uq] using hn) p q d (by simpa using h1) (by simpa using h2)]
 | some y::r,hn,0,0,d,_,_=>rfl
 | some y::r,hn,0,q + 1,d,h1,h2=>by
  simp at h1;subst h1;simp only [uq,Bool.and_eq_true,Bool.not_eq_true',List.contains_eq_mem,decide_eq_false_iff_not] at hn;exact absurd (List.mem_of_getElem? (by simpa using h2)) hn.1
 | some y::r,hn,p + 1,0,d,h1,h2=>by
  simp at h2;subst h2;simp only [uq,Bool.and_eq_true,Bool.not_eq_true',List.contains_eq_mem,decide_eq_false_iff_not] at hn;exact absurd (List.mem_of_getElem? (by simpa using h1)) hn.1
 | some y::r,hn,p + 1,q + 1,d,h1,h2=>by
  simp only [uq,Bool.and_eq_true] at hn;rw [zu7 (l:=r) hn.2 p q d (by simpa using h1) (by simpa using h2)]
section
variable {ops:Array Oper}{pi vars:List Nat}{nd:List (List Nat)}{sops:List SOp}{N:Nat}
theorem Z0 (h:Zv P ops pi vars nd 0 pi=some sops) (p:Nat):(sops[p]?).map (·.j)=pi[p]?:=by
 obtain ⟨hl,hg⟩:=Yg h;cases hs:sops[p]? with
 | some s=>simp [(hg p s hs).1]
 | none =>
  have:pi.length≤p:=by rw [← hl];exact List.getElem?_eq_none_iff.1 hs
  simp [List.getElem?_eq_none this]
theorem arg_ok (h:Zv P ops pi vars nd 0 pi=some sops){p j:Nat}{x:Operand}{r:Arg}(ha:mkArg ops pi vars nd p j x=some r):qd1 ops sops vars (U2 nd) p j x r:=by
 unfold mkArg at ha;split at ha
 ·rename_i t;simp only at ha;split at ha
  ·rename_i ht;cases ha;unfold tOk at ht;simp only [Bool.and_eq_true,decide_eq_true_eq] at ht;obtain ⟨hd,ht⟩:=ht;refine ⟨hd,?_⟩;split at ht<;>first | (cases ht;done) | skip
   rename_i i hi;simp only [Bool.and_eq_true,List.contains_iff_mem] at ht;obtain ⟨ht,hn⟩:=ht;split at ht<;>first | (cases ht;done) | skip
   rename_i o ho;have hp:=Z0 h (p - 1 - (p - 1 - (zx5 ops pi t).getD p));rw [hi] at hp;cases hs:sops[p - 1 - (p - 1 - (zx5 ops pi t).getD p)]? with
   | none=>rw [hs] at hp;cases hp
   | some s =>
    rw [hs] at hp;simp at hp;subst hp;exact ⟨s,o,rfl,ho,by simpa using ht,hn⟩
  ·split at ha<;>first | (cases ha;done) | skip
   split at ha<;>first | (cases ha;done) | skip
   rename_i hv;cases ha;unfold vOk at hv;simp only [Bool.and_eq_true,beq_iff_eq] at hv;refine ⟨hv.1,fun i o hi hd=>?_⟩;have:=List.all_eq_true.1 hv.2 i (List.mem_range.2 (Array.getElem?_eq_some_iff.1 hi).1);rw [hi] at this;simp [hd] at this;exact this
 ·split at ha<;>first | (cases ha;done) | skip
  rename_i hp;cases ha;exact ⟨rfl,hp⟩
 ·cases ha;exact rfl
 ·cases ha
theorem qb4 (h:Zv P ops pi vars nd 0 pi=some sops){p j:Nat}:∀ {xs:List Operand}{rs:List Arg},U3 ops pi vars nd p j xs=some rs→All2 (qd1 ops sops vars (U2 nd) p j) xs rs
 | [],rs,ha=>by simp [U3] at ha;subst ha;exact .nil
 | x::xs,rs,ha=>by
  simp only [U3] at ha;split at ha<;>first | (cases ha;done) | skip
  rename_i a l h1 h2;cases ha;exact .cons (arg_ok h h1) (qb4 h h2)
theorem guard_ok (h:Zv P ops pi vars nd 0 pi=some sops){p j:Nat}{g r:Option (Nat × Bool)}(hg:zd7 ops pi nd p j g=some r):zj5 ops sops (U2 nd) p j g r:=by
 unfold zd7 at hg;split at hg
 ·cases hg;trivial
 ·rename_i gi want;split at hg<;>first | (cases hg;done) | skip
  rename_i o ho;split at hg<;>first | (cases hg;done) | skip
  rename_i t ht;simp only at hg;split at hg<;>first | (cases hg;done) | skip
  rename_i hc;cases hg;simp only [Bool.and_eq_true,decide_eq_true_eq,beq_iff_eq,List.contains_iff_mem] at hc;obtain ⟨⟨⟨hd,hi⟩,hn⟩,_⟩:=hc;refine ⟨rfl,hd,?_⟩;have hp:=Z0 h (p - 1 - (p - 1 - (idx? gi pi 0).getD p));rw [hi] at hp;cases hs:sops[p - 1 - (p - 1 - (idx? gi pi 0).getD p)]? with
  | none=>rw [hs] at hp;cases hp
  | some s =>
   rw [hs] at hp;exact ⟨s,o,t,rfl,by simpa using hp,ho,ht,hn⟩
theorem reg_ok (h:Zv P ops pi vars nd 0 pi=some sops) (hb:regB N ops pi sops nd=true):RegOk P N vars ops sops (U2 nd):=by
 unfold regB at hb;simp only [Bool.and_eq_true] at hb;obtain ⟨⟨⟨⟨⟨⟨⟨h1,h2⟩,h3⟩,h4⟩,h5⟩,h6⟩,h7⟩,h8⟩:=hb;obtain ⟨hl,hg⟩:=Yg h;have hj:∀ (p:Nat) s,sops[p]? = some s→pi[p]? = some s.j:=fun p s hp=>(hg p s hp).1;refine ⟨by rw [hl];simpa using h1,fun p s hp=>?_,fun j hj'=>?_,fun p q s s' hp hq he=>?_,fun i k oi ok d hi hk hd hd'=>?_,fun i oi d hi hd=>?_,fun p s o hp ho=>?_,fun p s o hp ho=>?_,fun p q s s' hp he hq hs'=>?_,fun p q s s' hp hr hq hs' he=>?_⟩
 ·have:=List.all_eq_true.1 h2 s.j (List.mem_of_getElem? (hj p s hp));simpa using this
 ·have:=List.all_eq_true.1 h3 j (List.mem_range.2 hj');obtain ⟨p,hp⟩:=List.mem_iff_getElem?.1 (List.contains_iff_mem.1 this);have:=Z0 h p;rw [hp] at this;cases hs:sops[p]? with
  | none=>rw [hs] at this;cases this
  | some s=>rw [hs] at this;exact ⟨p,s,hs,by simpa using this⟩
 ·exact Wq (Z2 h4) p q s.j (hj p s hp) (by rw [he];exact hj q s' hq)
 ·refine zu7 h5 i k d ?_ ?_
  ·simp [hi,hd]
  ·simp [hk,hd']
 ·have:=List.all_eq_true.1 h6 oi (by simpa using Array.mem_of_getElem? hi);rw [hd] at this;simpa using this
 ·obtain ⟨_,o',xs,ho',hk,ha,_⟩:=hg p s hp;rw [ho] at ho';cases ho';rw [Nat.zero_add] at ha;exact ⟨xs,hk,qb4 h ha⟩
 ·obtain ⟨_,o',xs,ho',_,_,hgd,_⟩:=hg p s hp;rw [ho] at ho';cases ho';rw [Nat.zero_add] at hgd;exact guard_ok h hgd
 ·have hpl:=(List.getElem?_eq_some_iff.1 hp).1;have:=List.all_eq_true.1 h7 p (List.mem_range.2 hpl);rw [hp] at this;simp only [he,Bool.not_true,Bool.false_or] at this;have:=List.all_eq_true.1 this s' (List.mem_of_getElem? (i:=q) (by rw [List.getElem?_take_of_lt hq];exact hs'));simpa using this
 ·have hpl:=(List.getElem?_eq_some_iff.1 hp).1;have:=List.all_eq_true.1 h8 p (List.mem_range.2 hpl);rw [hp] at this;simp only [hr,Bool.not_true,Bool.false_or] at this;have:=List.all_eq_true.1 this s' (List.mem_of_getElem? (i:=q) (by rw [List.getElem?_take_of_lt hq];exact hs'));simp only [he,Bool.not_true,Bool.false_or,Bool.or_eq_true] at this;rcases this with h | h
  ·exact .inl (by simpa using h)
  ·exact .inr h
theorem outs_ok (h:Zv P ops pi vars nd 0 pi=some sops){outs:List (Nat × Nat)}(hb:outsB ops pi vars outs=true):OutsOk vars ops sops outs:=by
 unfold outsB at hb;simp only [Bool.and_eq_true] at hb;obtain ⟨⟨⟨h1,h2⟩,h3⟩,h4⟩:=hb;obtain ⟨hl,hg⟩:=Yg h;refine ⟨fun k k' t hk hk'=>Wq (Z2 h1) k k' t hk hk',fun i o t k hi hd hk=>?_,fun k d hm=>?_,Z2 h4⟩
 ·have:=List.all_eq_true.1 h2 i (List.mem_range.2 (Array.getElem?_eq_some_iff.1 hi).1);rw [hi] at this;simp only [hd] at this;have:=List.all_eq_true.1 this k (List.mem_range.2 (List.getElem?_eq_some_iff.1 hk).1);simp only [hk,bne_self_eq_false,Bool.false_or,List.any_eq_true,Bool.and_eq_true,beq_iff_eq,List.contains_iff_mem] at this;obtain ⟨p,_,hp,hm⟩:=this;have hpl:=Z0 h p;rw [hp] at hpl;cases hs:sops[p]? with
  | none=>rw [hs] at hpl;cases hpl
  | some s=>rw [hs] at hpl;exact ⟨p,s,hs,by simpa using hpl,by rw [hl];exact hm⟩
 ·have:=List.all_eq_true.1 h3 (k,d) hm;simp only [Bool.and_eq_true,decide_eq_true_eq] at this;obtain ⟨hd,h5⟩:=this;rw [hl];refine ⟨hd,?_⟩;split at h5<;>first | (cases h5;done) | skip
  rename_i i hi;split at h5<;>first | (cases h5;done) | skip
  rename_i o ho;split at h5<;>first | (cases h5;done) | skip
  rename_i t ht;have hpl:=Z0 h (pi.length - 1 - d);rw [hi] at hpl;cases hs:sops[pi.length - 1 - d]? with
  | none=>rw [hs] at hpl;cases hpl
  | some s =>
   rw [hs] at hpl;simp at hpl;subst hpl;exact ⟨s,o,t,rfl,ho,ht,by simpa using h5⟩
end
theorem yb5 {N:Nat}{vars:List Nat}{ops:Array Oper}{draw:Bool}{sops:List SOp}{outs:List (Nat × Nat)}(h:compR P N vars ops draw=some (sops,outs)):Jf P N vars ops draw sops outs:=by
 have key:∀ (nd' : List (List Nat)) (pi:List Nat),(match Zv P ops pi vars nd' 0 pi with
   | some sops=>if regB N ops pi sops nd' && zz5 ops nd' draw && outsB ops pi vars (yq0 ops pi vars) && (!draw || P.follows .mixedOrders) then some (sops,yq0 ops pi vars) else none
   | none=>none)=some (sops,outs)→Jf P N vars ops draw sops outs:=by
  intro nd' pi h;split at h<;>first | (cases h;done) | skip
  rename_i sops' hs;split at h<;>first | (cases h;done) | skip
  rename_i hc;cases h;simp only [Bool.and_eq_true] at hc;obtain ⟨⟨⟨h1,h2⟩,h3⟩,h4⟩:=hc;exact ⟨nd',reg_ok hs h1,yo4 h2,outs_ok hs h3,fun hd=>by subst hd;simpa using h4⟩
 exact key _ _ h
theorem yp8 {vars:List Nat}{t k:Nat}(h:mkV vars t=some k):vars[k]? = some t:=by
 unfold mkV at h;split at h<;>first | (cases h;done) | skip
 split at h<;>first | (cases h;done) | skip
 cases h
 assumption
theorem mkFun_ok {vars:List Nat}{g:Operand}{x:Arg}(h:mkFun vars g=some x):FunOk vars x g:=by
 unfold mkFun at h;split at h
 ·rename_i t;cases hk:mkV vars t with
  | none=>rw [hk] at h;cases h
  | some k=>rw [hk] at h;cases h;exact yp8 hk
 ·cases h;rfl
 ·cases h
theorem yp9 {vars:List Nat}:∀ {ts ks:List Nat},mkPs vars ts=some ks→All2 (fun k t=>vars[k]? = some t) ks ts
 | [],ks,h=>by simp [mkPs] at h;subst h;exact .nil
 | t::r,ks,h=>by
  simp only [mkPs] at h;split at h<;>first | (cases h;done) | skip
  rename_i k l hk hl;cases h;exact .cons (yp8 hk) (yp9 hl)
theorem jp {N:Nat}{vars:List Nat}:∀ {fuel:Nat}{c:Code}{cc:CCode},uv P N vars fuel c=some cc→yi P N vars cc c
 | 0,_,_,h=>by simp [uv] at h
 | fuel + 1,c,cc,h=>by
  simp only [uv] at h;split at h
  ·cases h;trivial
  ·rename_i id ops draw;split at h
   ·rename_i s o hr;cases h;exact yb5 hr
   ·cases h;simp [yi]
  ·cases h;simp [yi]
  ·rename_i x y;split at h
   ·rename_i ops draw t a b hrc;unfold ym8 at hrc;split at hrc<;>first | (cases hrc;done) | skip
    cases hrc
    split at h<;>first | (cases h;done) | skip
    rename_i s o ca cb hr ha hb;split at h<;>first | (cases h;done) | skip
    rename_i d hd;cases h;have hf:=List.find?_some hd;have hm:=List.mem_of_find?_eq_some hd;refine ⟨yb5 hr,⟨List.mem_range.1 hm,?_⟩,jp ha,jp hb⟩;split at hf<;>first | (cases hf;done) | skip
    rename_i so hso;split at hf<;>first | (cases hf;done) | skip
    rename_i op hop;exact ⟨so,op,hso,hop,by simpa using hf⟩
   ·split at h<;>first | (cases h;done) | skip
    rename_i a b ha hb;cases h;exact ⟨jp ha,jp hb⟩
  ·rename_i y a b;split at h<;>first | (cases h;done) | skip
   rename_i x ca cb hx ha hb;cases h;refine ⟨?_,jp ha,jp hb⟩;unfold mkCond at hx;split at hx
   ·split at hx<;>first | (cases hx;done) | skip
    split at hx<;>first | (cases hx;done) | skip
    rename_i hv;cases hx;simpa [qc8] using hv
   ·split at hx<;>first | (cases hx;done) | skip
    rename_i hp;cases hx;exact ⟨rfl,hp⟩
   ·cases hx
  ·rename_i id x;cases ha:uv P N vars fuel x with
   | none=>rw [ha] at h;cases h
   | some a=>rw [ha] at h;cases h;exact ⟨rfl,jp ha⟩
  ·rename_i x;cases ha:uv P N vars fuel x with
   | none=>rw [ha] at h;cases h
   | some a =>
    rw [ha] at h;cases h;have:=jp ha;simpa [yi] using this
  ·cases h;exact rfl
  ·cases h;trivial
  ·rename_i x;cases ha:uv P N vars fuel x with
   | none=>rw [ha] at h;cases h
   | some a =>
    rw [ha] at h;cases h;have:=jp ha;simpa [yi] using this
  ·cases h;trivial
  ·split at h<;>first | (cases h;done) | skip
   rename_i x ps ca cb hx hp ha hb;split at h<;>first | (cases h;done) | skip
   rename_i hn;cases h;exact ⟨mkFun_ok hx,yp9 hp,hn.2,hn.1,jp ha,jp hb⟩
  ·cases h
def mkRes (P:Program) (vars:List Nat):ResultVar→Option ResArg
 | .tmp t=>match idx? t vars 0 with | some k=>if vars[k]? == some t then some (.var k) else none | none=>none
 | .cell a t=>match idx? a vars 0,isAgg? P t,sizeOf? P t with
  | some k,some g,some s=>if vars[k]? == some a then some (.cell k g s) else none
  | _,_,_=>none
def Yh (P:Program) (vars:List Nat):List ResultVar→Option (List ResArg)
 | []=>some []
 | r::rs=>match mkRes P vars r,Yh P vars rs with
  | some a,some l=>some (a::l)
  | _,_=>none
def varsB (na N:Nat) (vars:List Nat):Bool :=
 decide (na≤N) && decide (na≤vars.length) && (List.range vars.length).all fun k=>match vars[k]? with
  | some s=>(decide (na≤k) || s == k) && (decide (k < na) || (decide (na≤s) && decide (s < N)))
  | none=>true
def compF (P:Program) (f:FuncId) (na:Nat) (vars:List Nat):Option CFn :=
 match P.funcs[f]? with
 | some fn =>
  match fn.body with
  | some code =>
   if !(fn.name == "runtime.NumGoroutine") && varsB na fn.ntmps vars then
    match uv P fn.ntmps vars 4000 code,Yh P vars fn.results.toList with
    | some body,some results=>some { nargs:=na,vars,body,results }
    | _,_=>none
   else none
  | none=>none
 | none=>none
theorem Yz {vars:List Nat}:∀ {rs:List ResultVar}{cs:List ResArg},Yh P vars rs=some cs→All2 (yj2 P vars) rs cs
 | [],cs,h=>by simp [Yh] at h;subst h;exact .nil
 | r::rs,cs,h=>by
  simp only [Yh] at h;split at h<;>first | (cases h;done) | skip
  rename_i a l h1 h2;cases h;refine .cons ?_ (Yz h2);unfold mkRes at h1;split at h1
  ·split at h1<;>first | (cases h1;done) | skip
   split at h1<;>first | (cases h1;done) | skip
   rename_i hv;cases h1;simpa [yj2] using hv
  ·split at h1<;>first | (cases h1;done) | skip
   rename_i k g s _ hg hs;split at h1<;>first | (cases h1;done) | skip
   rename_i hv;cases h1;exact ⟨by simpa using hv,hg,hs⟩
theorem yb6 {f:FuncId}{na:Nat}{vars:List Nat}{cf:CFn}(h:compF P f na vars=some cf):FnOk P f cf:=by
 unfold compF at h;split at h<;>first | (cases h;done) | skip
 rename_i fn hfn;split at h<;>first | (cases h;done) | skip
 rename_i code hcode;split at h<;>first | (cases h;done) | skip
 rename_i hc;split at h<;>first | (cases h;done) | skip
 rename_i body results hb hr;cases h;simp only [Bool.and_eq_true,Bool.not_eq_true'] at hc;obtain ⟨hname,hv⟩:=hc;unfold varsB at hv;simp only [Bool.and_eq_true,decide_eq_true_eq] at hv;obtain ⟨⟨h1,h2⟩,h3⟩:=hv;refine ⟨fn,code,hfn,hcode,hname,jp hb,Yz hr,h1,fun k s hk=>?_,h2⟩;have:=List.all_eq_true.1 h3 k (List.mem_range.2 (List.getElem?_eq_some_iff.1 hk).1);have hk' : vars[k]? = some s:=hk;simp only [hk',Bool.and_eq_true,Bool.or_eq_true,decide_eq_true_eq,beq_iff_eq] at this;show (k < na→s=k)∧(na≤k→na≤s∧s < fn.ntmps);omega
end Go.Eng
namespace Go.Eng
open Go
variable {P:Program}
def J6 (P:Program) (N:Nat) (vars ps:List Nat) (ca cb:CCode):Array Tmp→Code→Code→Prop:=fun qs x y=>All2 (fun k t=>vars[k]? = some t) ps qs.toList∧yi P N vars ca x∧yi P N vars cb y
def Wi:List Nat→lVq→lVq→lVq
 | k::r,a::s,env=>Wi r s (env.set k a)
 | _,_,env=>env
def qj:AExit→Option Code
 | .normal=>none
 | .exit id=>some (.exit id)
 | .ret=>some .ret
theorem zk7 {ρ:Ren}{N:Nat}{vars:List Nat}(hnd:vars.Nodup):∀ {ps:List Nat}{qs:List Nat}{args args' env:lVq}{tmps:Array Value},All2 (fun k t=>vars[k]? = some t) ps qs→VRs ρ args args' → EnvR ρ N vars env tmps →
  EnvR ρ N vars (Wi ps args env) ((qs.zip args').foldl (fun tmps (t,a)=>tmps.setIfInBounds t a) tmps)
 | _,_,[],_,env,tmps,.nil,.nil,he=>by simpa [Wi] using he
 | _,_,_::_,_,env,tmps,.nil,.cons _ _ _ _ _ _,he=>by simpa [Wi] using he
 | _,_,_,_,env,tmps,.cons _ _,.nil,he=>by simpa [Wi] using he
 | k::ps,t::qs,a::args,a' :: args',env,tmps,.cons hk hr,.cons _ _ _ _ ha hs,he=>by
  simp only [Wi,List.zip_cons_cons,List.foldl_cons];refine zk7 hnd hr hs ⟨by simpa using he.size,by simpa using he.len,fun j s v hj hv=>?_⟩;have hkl:k < vars.length:=(List.getElem?_eq_some_iff.1 hk).1;by_cases e:j=k
  ·subst e;rw [hk] at hj;cases hj;have hv' : v=a:=by
    rw [List.getElem?_set_self (by rw [← he.len];exact hkl)] at hv;cases hv;rfl
   subst hv';obtain ⟨x,hx,_⟩:=he.get j t _ hk (List.getElem?_eq_getElem (by rw [← he.len];exact hkl));exact ⟨a',by rw [Array.getElem?_setIfInBounds_self_of_lt (Array.getElem?_eq_some_iff.1 hx).1],ha⟩
  ·rw [List.getElem?_set_ne (Ne.symm e)] at hv;obtain ⟨x,hx,hr⟩:=he.get j s v hj hv;refine ⟨x,?_,hr⟩;have:t≠s:=fun e2=>by
    subst e2;have hjl:=(List.getElem?_eq_some_iff.1 hj).1;exact e ((List.getElem?_inj hjl hnd).1 (hj.trans hk.symm))
   rw [Array.getElem?_setIfInBounds_ne this];exact hx
theorem yd2 {α β:Type}{R:α→β→Prop}:∀ {l:List α}{m:List β},All2 R l m→l.length=m.length
 | _,_,.nil=>rfl
 | _,_,.cons _ h=>by simp [yd2 h]
theorem Qh {base:Nat}{ρ:Ren}{w:World}{l:Loc}{env:lVq}{vars:List Nat}{N:Nat}{ok:Array Tmp→Code→Code→Prop}{st:LoopState}{pend:Option Code}(h:ObjR base ρ w l (.loop env vars N ok st pend)) :
  l.sh=0∧base≤l.b ∧ ∃ r:Loop,w.heap[l.b]? = some (.loop r)∧r.state=st∧r.pending=pend∧ok r.params r.assign r.body∧EnvR ρ N vars env r.tmps:=h
theorem ya0 {base:Nat}{ρ:Ren}{G:Nat→Option AObj}{w:World}{L:Nat}{l:Loc}{env:lVq}{vars:List Nat}{N:Nat}{ok:Array Tmp→Code→Code→Prop}{st st' : LoopState}{pend pend' : Option Code}(hS:Sim base G ρ w)
  (hG:G L=some (.loop env vars N ok st pend)) (hl:ρ L=some l){r:Loop}(hr:w.heap[l.b]? = some (.loop r)) :
  Sim base (vl G L (.loop env vars N ok st' pend')) ρ (w.putObj l.b (.loop { r with state:=st',pending:=pend' }))∧WStep base w (w.putObj l.b (.loop { r with state:=st',pending:=pend' })):=by
 obtain ⟨h0,h1,r',h2,h3,h4,h5,h6⟩:=Qh (hS.obj L _ l hG hl);rw [hr] at h2;cases h2;have hlt:=hS.rng L l hl;refine ⟨hS.write L _ _ l hG hl rfl (by simp) (fun b hb=>World.putObj_heap_other hb) ⟨h0,h1,_,World.putObj_heap_same hlt,rfl,rfl,h5,h6⟩,⟨by simp,fun b hb=>World.putObj_heap_other (by omega),rfl,rfl,rfl,fun a _=>Kk hr (by simp) (by simp) a⟩⟩
theorem VR.yield_inv {ρ:Ren}{L:Nat}{v' : Value}(h:VR ρ (.func (.yield L) #[] #[]) v'):∃ l,ρ L=some l∧v' = .func (.yield l.b) #[] #[]:=by
 cases h with
 | same _ h=>simp [Value.plain] at h
 | yield _ l h=>exact ⟨l,h,rfl⟩
theorem yd7 (a:Array Tmp) (b:Array Value) (f:Array Value→Tmp × Value→Array Value) (t:Array Value):(a.zip b).foldl f t=(a.toList.zip b.toList).foldl f t:=by
 rw [← Array.foldl_toList,Array.toList_zip]
theorem zx4 {L:Nat}{env:lVq}{vars:List Nat}{N:Nat}{ps:List Nat}{ca cb:CCode}{pend:Option Code}{h ha hb:Heap}{args ea eb:lVq}{x:AExit}(hnd:vars.Nodup) (hlen:ps.length=args.length) (hna:ca.noRange=true) (hnb:cb.noRange=true)
  (hL:h.get L=some (.loop env vars N (J6 P N vars ps ca cb) .ready pend))
  (ta:CodeT P N vars ca (Wi ps args env) h .normal ea ha)
  (hLa:ha.get L=some (.loop env vars N (J6 P N vars ps ca cb) .ready pend))
  (tb:CodeT P N vars cb ea (ha.set L (.loop env vars N (J6 P N vars ps ca cb) .busy pend)) x eb hb)
  (hLb:hb.get L=some (.loop env vars N (J6 P N vars ps ca cb) .busy pend)) :
  ValT P (.func (.yield L) #[] #[]) args h (.bool (qj x).isNone) (hb.set L (.loop env vars N (J6 P N vars ps ca cb) (if (qj x).isNone then .ready else .done) (qj x))):=by
 have st1:ha.step (ha.set L (.loop env vars N (J6 P N vars ps ca cb) .busy pend)):=Heap.step_set hLa _ (by simp);have st2:=Heap.step_set hLb (.loop env vars N (J6 P N vars ps ca cb) (if (qj x).isNone then .ready else .done) (qj x)) (by simp);refine ⟨((ta.1.trans st1).trans tb.1).trans st2,fun base G ρ w fv' args' hG hfr hS hfv hargs ro o a next Q hn=>?_⟩;obtain ⟨l,hl,rfl⟩:=hfv.yield_inv;obtain ⟨h0,h1,r,h2,h3,h4,h5,h6⟩:=Qh (hS.obj L _ l (hG L _ hL) hl);have hsz:args'.toArray.size=r.params.size:=by
  have:=hargs.length;have h7:=yd2 h5.1;simp only [Array.length_toList] at h7;simp;omega
 have hrun:((do let d ← Deferred.ofValue (.func (.yield l.b) #[] #[]) args'.toArray;invoke d.target d.args:Sem Next).run P w) = .ok (.round l.b r.fn ((r.params.zip args'.toArray).foldl (fun tmps (t,a)=>tmps.setIfInBounds t a) r.tmps) r.assign r.body) w:=by
  have:=run_yield (P:=P) h2 hsz;simp only [Deferred.ofValue,Sem.run_bind,Sem.run_pure,Result.andThen_ok,invoke];simpa using this
 rw [hrun,Oper.uponIn_round];refine ⟨fun hd=>by simp [vj,Fence.wide] at hd,?_⟩;refine roundIn_of_wpIn trivial ?_;have hF:(vj ro).inRound l.b=vj (some l.b):=rfl;rw [hF];have hnx:(ha.set L (.loop env vars N (J6 P N vars ps ca cb) .busy pend)).next=ha.next:=rfl;have hnb' : ha.next≤hb.next:=tb.1.next;have hfr' : Fresh ρ h.next hb.next:=hfr;refine ta.2 _ h5.2.1 base G ρ w _ (some l.b) (fun e=>by rw [hna] at e;cases e) hG (hfr'.left hnb') hS ?_ _ fun a1 ρ1 w1 hl1=>?_
 ·rw [yd7];simpa using zk7 hnd h5.1 hargs h6
 have hl1' : ρ1 L=some l:=by rw [hl1.agree L (.inl (Heap.lt_of_get hL))];exact hl
 obtain ⟨_,_,r1,g2,g3,g4,g5,g6⟩:=Qh (hl1.sim.obj L _ l (yx ha G L _ hLa) hl1');obtain ⟨hS2,hw2⟩:=ya0 (st':=.busy) (pend':=pend) hl1.sim (yx ha G L _ hLa) hl1' g2;have e1:{ r1 with state:=.busy,pending:=pend } = { r1 with state:=.busy }:=by cases r1;simp at g4;simp [g4]
 rw [e1] at hS2 hw2;refine ⟨w1.putObj l.b (.loop { r1 with state:=.busy }),run_beginRound g2 g3,?_⟩;have hS3:Sim base (vv (ha.set L (.loop env vars N (J6 P N vars ps ca cb) .busy pend)) (vv ha G)) ρ1 (w1.putObj l.b (.loop { r1 with state:=.busy })):=Sim.congr hS2 (um (yx ha G) hLa _);refine tb.2 _ h5.2.2 base _ ρ1 _ a1 (some l.b) (fun e=>by rw [hnb] at e;cases e) (yx _ _) (by rw [hnx];exact hfr'.right ta.1.next hl1.agree) hS3 hl1.env _ fun a2 ρ2 w3 hl2=>?_;have hl2' : ρ2 L=some l:=by rw [hl2.agree L (.inl (by rw [hnx];exact Heap.lt_of_get hLa))];exact hl1'
 obtain ⟨_,_,r2,k2,k3,k4,k5,k6⟩:=Qh (hl2.sim.obj L _ l (yx hb _ L _ hLb) hl2');obtain ⟨hS4,hw4⟩:=ya0 (st':=if (qj x).isNone then .ready else .done) (pend':=qj x) hl2.sim (yx hb _ L _ hLb) hl2' k2;have hend:=run_endRound (P:=P) (qj x) k2;have hfin:next (a.put o.dst (.bool (qj x).isNone)) (w3.putObj l.b (.loop { r2 with state:=if (qj x).isNone then .ready else .done,pending:=qj x })):=by
  refine hn _ ρ2 _ ⟨?_,.same _ rfl,?_,((hl1.step.trans hw2).trans hl2.step).trans hw4⟩
  ·exact (hl1.agree.trans (show Agree ρ1 ρ2 ha.next hb.next from hl2.agree) ta.1.next hnb')
  ·refine Sim.congr hS4 fun id=>?_;unfold vv vl;rw [Heap.get_set];by_cases e:id=L
   ·simp [e,Heap.lt_of_get hLb]
   ·simp only [e,false_and,if_false];cases hg:hb.get id with
    | some o=>rfl
    | none =>
     have n1:(ha.set L (.loop env vars N (J6 P N vars ps ca cb) .busy pend)).get id=none:=by
      cases hq:(ha.set L (.loop env vars N (J6 P N vars ps ca cb) .busy pend)).get id with
      | none=>rfl
      | some o=>have:=tb.1.dom id (by rw [hq];rfl);rw [hg] at this;cases this
     rw [n1];rw [Heap.get_set] at n1;simp only [e,false_and,if_false] at n1;rw [n1];rfl
 cases x with
 | normal=>exact ⟨_,_,hend,hfin⟩
 | ret=>exact ⟨_,_,hend,hfin⟩
 | exit id=>exact ⟨_,_,hend,hfin⟩
def qr (P:Program) (N:Nat) (vars ps:List Nat) (ca cb:CCode) (env:lVq) (h:Heap):Heap:=(h.alloc .defd).alloc (.loop env vars N (J6 P N vars ps ca cb) .ready none)
theorem CodeT.range {N:Nat}{vars:List Nat}{g:Arg}{ps:List Nat}{ca cb:CCode}{env:lVq}{h h2:Heap}{f:FuncId}{first cap:Array Value}{v:Value}{st:LoopState}{x:AExit}(hg:g.ev [] env=some (.func (.func f) first cap))
  (hc:CallT P f (first.toList++[.func (.yield (h.next + 1)) #[] #[]]++cap.toList) (qr P N vars ps ca cb env h) v h2)
  (hL:h2.get (h.next + 1)=some (.loop env vars N (J6 P N vars ps ca cb) st (qj x))) (hst:st ≠ .busy) :
  CodeT P N vars (.range g ps ca cb) env h x env (h2.set (h.next + 1) .dead):=by
 have s0:h.step (qr P N vars ps ca cb env h):=(Heap.step_alloc _ _).trans (Heap.step_alloc _ _);have s1:=Heap.step_set hL .dead (by simp);refine ⟨(s0.trans hc.2.1).trans s1,fun code hcode base G ρ w a ro hro hG hfr hS henv Q hQ=>?_⟩;obtain rfl:=hro rfl;cases code<;>simp only [yi] at hcode;rename_i y qs x1 y1;obtain ⟨hfun,hps,hnr,hnd,hcx,hcy⟩:=hcode;have hnext:(qr P N vars ps ca cb env h).next=h.next + 2:=rfl;have hle:h.next + 2≤h2.next:=by have:=hc.2.1.next;rw [hnext] at this;exact this
 have hfr' : Fresh ρ h.next h2.next:=hfr;let l0:Loc:=⟨w.heap.size,0,0⟩;let l1:Loc:=⟨w.heap.size + 1,0,0⟩;let ρ1:Ren:=(ρ.put h.next l0).put (h.next + 1) l1;have hρ0:ρ h.next=none:=hfr' _ (Nat.le_refl _) (by omega);have hρ1:(ρ.put h.next l0) (h.next + 1)=none:=by
  simp only [Ren.put,show ¬ (h.next + 1=h.next) by omega,if_false];exact hfr' _ (by omega) (by omega)
 have hle0:=Ren.le_put hρ0 l0;have hle1:=Ren.le_put hρ1 l1
 -- the function's value
 obtain ⟨fv',hev,hvr⟩:∃ fv',a.eval y=fv' ∧ VR ρ (.func (.func f) first cap) fv':=by
  unfold FunOk at hfun;split at hfun
  ·simp only [Arg.ev] at hg;obtain ⟨v',h4,h5⟩:=henv.get _ _ _ hfun hg;exact ⟨v',by simp only [Act.eval,Array.getD_eq_getD_getElem?,h4];rfl,h5⟩
  ·subst hfun;simp only [Arg.ev] at hg;cases hg;exact ⟨_,rfl,.func f [] [] [] [] .nil .nil⟩
  ·exact hfun.elim
 obtain ⟨a',c',rfl,hfirst,hcap⟩:=hvr.func_inv;refine wpIn_rangeFunc fun fn _=>?_;let w0:=w.alloc (.deferred (some []));let w1:=w0.alloc (.loop { state:=.ready,pending:=none,fn,tmps:=a.tmps,params:=qs,assign:=x1,body:=y1,defers:=w.heap.size });have hold1:∀ b,b < w.heap.size→w0.heap[b]? = w.heap[b]?:=fun b hb=>heap_alloc_old w _ b hb;have hold2:∀ b,b < w0.heap.size→w1.heap[b]? = w0.heap[b]?:=fun b hb=>heap_alloc_old w0 _ b hb;have hsz0:w0.heap.size=w.heap.size + 1:=by simp [w0]
 have hsz1:w1.heap.size=w.heap.size + 2:=by simp [w1,w0]
 have hS0:Sim base (vl G h.next .defd) (ρ.put h.next l0) w0:=by
  refine hS.alloc h.next .defd l0 hρ0 (Nat.le_refl _) (by simp [hsz0,l0]) hold1 (by omega) ⟨rfl,hS.size,?_⟩;exact heap_alloc_new w _
 have hS1:Sim base (vl (vl G h.next .defd) (h.next + 1) (.loop env vars N (J6 P N vars ps ca cb) .ready none)) ρ1 w1:=by
  refine hS0.alloc (h.next + 1) _ l1 hρ1 (by simp [hsz0,l1]) (by simp [hsz1,l1]) hold2 (by omega) ⟨rfl,by have:=hS.size;simp [l1];omega,{ state:=.ready,pending:=none,fn,tmps:=a.tmps,params:=qs,assign:=x1,body:=y1,defers:=w.heap.size },?_,rfl,rfl,⟨hps,hcx,hcy⟩,(henv.mono hle0).mono hle1⟩;have:=heap_alloc_new w0 (.loop { state:=.ready,pending:=none,fn,tmps:=a.tmps,params:=qs,assign:=x1,body:=y1,defers:=w.heap.size });rw [hsz0] at this;exact this
 have hst1:WStep base w w1:=⟨by omega,fun b hb=>by have:=hS.size;rw [hold2 b (by omega),hold1 b (by omega)],rfl,rfl,rfl,fun a _=>(Zg w0 _ (.inr (by simp)) a).trans (Zg w _ (.inr (by simp)) a)⟩;have hSo:Sim base (vv (qr P N vars ps ca cb env h) G) ρ1 w1:=by
  refine Sim.congr hS1 fun id=>?_;have e0:=y0 hG id;unfold vv vl at *;simp only [qr,Heap.get_alloc,Heap.next_alloc];by_cases e1:id=h.next + 1
  ·simp [e1]
  ·by_cases e2:id=h.next
   ·simp [e2]
   ·simp [e1,e2,e0]
 have hag1:Agree ρ ρ1 h.next (h.next + 2):=fun id hid=>by
  simp only [ρ1,Ren.put,show ¬ id=h.next + 1 by omega,show ¬ id=h.next by omega,if_false]
 have hargs:VRs ρ1 (first.toList++[.func (.yield (h.next + 1)) #[] #[]]++cap.toList) (a' ++ [.func (.yield (w.heap.size + 1)) #[] #[]]++c') :=
  ((hfirst.mono (Ren.le_trans hle0 hle1)).append (.cons _ _ _ _ (.yield (h.next + 1) l1 (by simp [Ren.put])) .nil)).append (hcap.mono (Ren.le_trans hle0 hle1))
 have hcall:=hc.2.2 base (vv (qr P N vars ps ca cb env h) G) ρ1 w1 _ (yx _ _) (by rw [hnext];exact hfr'.right (by omega) hag1) hSo hargs;refine ⟨w.heap.size + 1,[{ target:=.collected w.heap.size,args:=#[] }],w1,{ target:=.fn (.func f) c'.toArray,args:=a'.toArray ++ #[.func (.yield (w.heap.size + 1)) #[] #[]] },w1,f,(a' ++ [Value.func (.yield (w.heap.size + 1)) #[] #[]]++c').toArray,w1,run_enterLoop_outer fn a.tmps qs x1 y1,?_,fun _ _=>trivial,?_,fun hd=>by simp [vj,Fence.wide] at hd,?_⟩
 ·have hcst:a.eval (.const (.func (.yield (w.heap.size + 1)) #[] #[])) = .func (.yield (w.heap.size + 1)) #[] #[]:=rfl;simp [resolve,hev,Deferred.ofValue,hcst]
 ·simp [invoke,hc.1 _ w1]
 ·have hcw:CallsIn Fence.wide (0 - 1) P f (a' ++ [Value.func (.yield (w.heap.size + 1)) #[] #[]]++c').toArray w1 _:=callsIn_wide.2 hcall;refine CallsIn.mono (show CallsIn (vj none) (0 - 1) P f _ w1 _ from hcw) fun e w3 he=>?_;obtain ⟨v',ρ2,rfl,hok⟩:=he;have hl2:ρ2 (h.next + 1)=some l1:=by rw [hok.agree _ (.inl (by rw [hnext];omega))];simp [ρ1,Ren.put]
  have hd2:ρ2 h.next=some l0:=by rw [hok.agree _ (.inl (by rw [hnext];omega))];simp [ρ1,Ren.put]
  obtain ⟨_,hb1,r,k2,k3,k4,k5,k6⟩:=Qh (hok.sim.obj (h.next + 1) _ l1 (yx h2 _ _ _ hL) hl2);have hbusy:r.state ≠ .busy:=by rw [k3];exact hst
  have hend:(Instr.endLoop (w.heap.size + 1)).run P w3 = .ok (qj x) (w3.putObj (w.heap.size + 1) (.loop { r with state:=.exhausted })):=by
   rw [← k4];exact run_endLoop (P:=P) k2 hbusy
  have hS4:Sim base (vv (h2.set (h.next + 1) .dead) G) ρ2 (w3.putObj (w.heap.size + 1) (.loop { r with state:=.exhausted })):=by
   refine Sim.congr (hok.sim.write (h.next + 1) _ .dead l1 (yx h2 _ _ _ hL) hl2 rfl (by simp) (fun b hb=>World.putObj_heap_other hb) trivial) fun id=>?_;unfold vv vl;rw [Heap.get_set];by_cases e:id=h.next + 1
   ·simp [e,Heap.lt_of_get hL]
   ·simp only [e,false_and,if_false];cases hg:h2.get id with
    | some o=>rfl
    | none =>
     have n1:(qr P N vars ps ca cb env h).get id=none:=by
      cases hq:(qr P N vars ps ca cb env h).get id with
      | none=>rfl
      | some o=>have:=hc.2.1.dom id (by rw [hq];rfl);rw [hg] at this;cases this
     rw [n1];rfl
  have hleft:Left (CCode.range g ps ca cb).noRange base G ρ w a N vars h (h2.set (h.next + 1) .dead) env { a with defers:=[{ target:=.collected w.heap.size,args:=#[] }]++a.defers } ρ2 (w3.putObj (w.heap.size + 1) (.loop { r with state:=.exhausted })):=by
   refine ⟨?_,?_,⟨[{ target:=.collected w.heap.size,args:=#[] }],⟨[h.next],by simp,fun m hm=>?_,?_⟩,rfl,fun e=>by simp [CCode.noRange] at e⟩,hS4,(hst1.trans hok.step).trans ⟨by simp,fun b hb=>World.putObj_heap_other (by have:base≤w.heap.size + 1:=hb1;omega),rfl,rfl,rfl,fun a _=>Kk k2 (by simp) (by simp) a⟩⟩
   ·exact hag1.trans (show Agree ρ1 ρ2 (h.next + 2) h2.next from hok.agree) (by omega) hle
   ·have hle2:ρ1.le ρ2:=hok.agree.le (by rw [hnext];exact hfr'.right (by omega) hag1);exact ((henv.mono hle0).mono hle1).mono hle2
   ·have:m=h.next:=by simpa using hm
    subst this;refine ⟨Nat.le_refl _,s1.defd _ (hc.2.1.defd _ ?_)⟩;simp [qr,Heap.get_alloc]
   ·simp [hd2,l0]
  refine ⟨qj x,_,hend,?_⟩;cases x with
  | normal=>exact hQ _ ρ2 _ hleft
  | ret=>exact wpIn_ret (hQ _ ρ2 _ hleft)
  | exit id=>exact wpIn_exit (hQ _ ρ2 _ hleft)
end Go.Eng
namespace Go.Eng
open Go
variable {P:Program}
def CallW (P:Program) (f:FuncId) (args:lVq) (h:Heap) (Q:vPq):Prop:=∃ v h',CallT P f args h v h' ∧ Q v h'
def ValW (P:Program) (fv:Value) (args:lVq) (h:Heap) (Q:vPq):Prop:=∃ v h',ValT P fv args h v h' ∧ Q v h'
theorem CallW.mono {f:FuncId}{args:lVq}{h:Heap}{Q Q' : vPq}(hc:CallW P f args h Q) (hq:∀ v h',h.step h' → Q v h' → Q' v h'):CallW P f args h Q' :=
 let ⟨v,h',t,q⟩:=hc;⟨v,h',t,hq v h' t.2.1 q⟩
theorem ValW.mono {fv:Value}{args:lVq}{h:Heap}{Q Q' : vPq}(hc:ValW P fv args h Q) (hq:∀ v h',h.step h' → Q v h' → Q' v h'):ValW P fv args h Q' :=
 let ⟨v,h',t,q⟩:=hc;⟨v,h',t,hq v h' t.1 q⟩
theorem CallW.val {f:FuncId}{first captured:Array Value}{args:lVq}{h:Heap}{Q:vPq}(hc:CallW P f (first.toList++args++captured.toList) h Q):ValW P (.func (.func f) first captured) args h Q :=
 let ⟨v,h',t,q⟩:=hc;⟨v,h',t.val,q⟩
def ka {α:Type}(o:Option α) (K:α→Prop):Prop:=match o with | some x=>K x | none=>False
@[simp] theorem zm0 {α:Type}(x:α) (K:α→Prop):ka (some x) K=K x:=rfl
def rdK (D:List Nat) (vs:lVq) (o:Option Value):Option Value :=
 match yi2 vs with
 | some id=>if D.contains id then none else o
 | none=>o
def ye0 (D:List Nat) (h:Heap) (Q:List Nat→vPq):vPq:=fun v h'=>∃ D',(∀ i ∈ D,i ∈ D')∧h.extD D' h' ∧ Q D' v h'
def turnW (q:Bool) (D:List Nat) (h:Heap) (Q:List Nat→vPq):vPq:=match q with | true=>ye0 D h Q | false=>Q D
def ActW (P:Program) (k:K) (q:Bool) (D:List Nat) (vs:lVq) (h:Heap) (Q:List Nat→vPq):Prop :=
 match k with
 | .p k=>ka (aP k vs) fun v=>Q D v h
 | .r k=>ka (rdK D vs (aR k vs h.get)) fun v=>Q D v h
 | .a k=>ka (aA k vs) fun r=>Q D (r.2 h.next) (h.alloc (.blk r.1 true))
 | .w k=>ka (aW k vs h) fun r=>turnW q D h Q r.1 r.2
 | .call f=>CallW P f vs h (turnW q D h Q)
 | .callV=>match vs with | fv::args=>ValW P fv args h (turnW q D h Q) | []=>False
def ys4 (g:Option (Nat × Bool)) (ts:lVq) (yes no:Prop):Prop :=
 match g with
 | none=>yes
 | some (d,want)=>match ts[d]? with
  | some (.bool b)=>(b=want→yes)∧(b = !want→no)
  | some _=>no
  | none=>False
def OpW (P:Program) (s:SOp) (D:List Nat) (ts env:lVq) (h:Heap) (Q:List Nat→vPq):Prop :=
 ys4 s.g ts (ka (evs ts env s.args) fun vs=>ActW P s.k s.q D vs h Q) (Q D undef h)
def RegW (P:Program):List SOp→List Nat→lVq→lVq→Heap→(lVq→Heap→Prop)→Prop
 | [],_,ts,_,h,Q=>Q ts h
 | s::r,D,ts,env,h,Q=>OpW P s D ts env h fun D1 v h1=>RegW P r D1 (v::ts) env h1 Q
theorem Wb {q:Bool}{D:List Nat}{h h' : Heap}{Q:List Nat→vPq}{v:Value}(ht:turnW q D h Q v h'):∃ D',(∀ i ∈ D,i ∈ D')∧(q=true→h.extD D' h')∧Q D' v h':=by
 cases q with
 | true=>obtain ⟨D',h1,h2,h3⟩:=ht;exact ⟨D',h1,fun _=>h2,h3⟩
 | false=>exact ⟨D,fun _ h=>h,(fun e=>by cases e),ht⟩
theorem zz1 {D:List Nat}{vs:lVq}{o:Option Value}{v:Value}(h:rdK D vs o=some v):o=some v∧okD D vs:=by
 unfold rdK at h;unfold okD;split at h
 ·rename_i id hid;split at h
  ·cases h
  ·rename_i hc;refine ⟨h,fun id' hid'=>?_⟩;rw [hid] at hid';cases hid';simpa using hc
 ·rename_i hid;exact ⟨h,fun id' hid'=>by rw [hid] at hid';cases hid'⟩
theorem ActW.sound {k:K}{q:Bool}{D:List Nat}{vs:lVq}{h:Heap}{Q:List Nat→vPq}(ha:ActW P k q D vs h Q):∃ v h' D',ActT P k vs h v h' ∧ (∀ i ∈ D,i ∈ D')∧(q=true→h.extD D' h')∧(k.isR=true→okD D vs)∧Q D' v h':=by
 have keep:∀ i ∈ D,i ∈ D:=fun _ h=>h;unfold ActW at ha;split at ha
 ·rename_i k;cases hx:aP k vs with
  | none=>rw [hx] at ha;exact ha.elim
  | some v=>rw [hx] at ha;exact ⟨v,h,D,⟨hx,rfl⟩,keep,fun _ id o _ hg=>.inl hg,(fun e=>by simp [K.isR] at e),ha⟩
 ·rename_i k;cases hx:rdK D vs (aR k vs h.get) with
  | none=>rw [hx] at ha;exact ha.elim
  | some v=>rw [hx] at ha;exact ⟨v,h,D,⟨(zz1 hx).1,rfl⟩,keep,fun _ id o _ hg=>.inl hg,fun _=>(zz1 hx).2,ha⟩
 ·rename_i k;cases hx:aA k vs with
  | none=>rw [hx] at ha;exact ha.elim
  | some r=>rw [hx] at ha;exact ⟨_,_,D,⟨r.1,r.2,hx,rfl,rfl⟩,keep,fun _ id o _ hg=>.inl (by rw [Heap.get_alloc_lt (Heap.lt_of_get hg)];exact hg),(fun e=>by simp [K.isR] at e),ha⟩
 ·rename_i k;cases hx:aW k vs h with
  | none=>rw [hx] at ha;exact ha.elim
  | some r =>
   rw [hx] at ha;obtain ⟨D',h1,h2,h3⟩:=Wb ha;exact ⟨_,_,D',hx,h1,h2,(fun e=>by simp [K.isR] at e),h3⟩
 ·obtain ⟨v,h',ht,hq⟩:=ha;obtain ⟨D',h1,h2,h3⟩:=Wb hq;exact ⟨v,h',D',ht,h1,h2,(fun e=>by simp [K.isR] at e),h3⟩
 ·split at ha
  ·obtain ⟨v,h',ht,hq⟩:=ha;obtain ⟨D',h1,h2,h3⟩:=Wb hq;exact ⟨v,h',D',ht,h1,h2,(fun e=>by simp [K.isR] at e),h3⟩
  ·exact ha.elim
theorem OpW.sound {s:SOp}{D:List Nat}{ts env:lVq}{h:Heap}{Q:List Nat→vPq}(ha:OpW P s D ts env h Q):∃ v h' D',OpT P s D ts env h v h' D' ∧ Q D' v h':=by
 have yes:ka (evs ts env s.args) (fun vs=>ActW P s.k s.q D vs h Q)→vx s.g ts=some true → ∃ v h' D',OpT P s D ts env h v h' D' ∧ Q D' v h':=by
  intro hy hw;cases hx:evs ts env s.args with
  | none=>rw [hx] at hy;exact hy.elim
  | some vs =>
   rw [hx] at hy;obtain ⟨v,h',D',h1,h2,h3,h4,h5⟩:=ActW.sound hy;exact ⟨v,h',D',⟨true,hw,h2,by simpa using ⟨vs,hx,h1,h3,h4⟩⟩,h5⟩
 have no:Q D undef h→vx s.g ts=some false → ∃ v h' D',OpT P s D ts env h v h' D' ∧ Q D' v h':=fun hn hw=>⟨undef,h,D,⟨false,hw,fun _ h=>h,by simp⟩,hn⟩;unfold OpW ys4 at ha;split at ha
 ·rename_i hg;exact yes ha (by rw [hg];rfl)
 ·rename_i d want hg;split at ha
  ·rename_i b hb;by_cases e:b=want
   ·exact yes (ha.1 e) (by rw [hg];simp [vx,hb,e])
   ·exact no (ha.2 (by cases b<;>cases want<;>simp_all)) (by rw [hg];simp [vx,hb,e])
  ·rename_i v hnb hv;refine no ha ?_;rw [hg];simp only [vx,hv,Option.map_some]
  ·exact ha.elim
theorem RegW.sound:∀ {l:List SOp}{D:List Nat}{ts env:lVq}{h:Heap}{Q:lVq→Heap→Prop},RegW P l D ts env h Q → ∃ ts' h',RegT P l D ts env h ts' h' ∧ Q ts' h'
 | [],D,ts,env,h,Q,hr=>⟨ts,h,⟨rfl,rfl⟩,hr⟩
 | s::r,D,ts,env,h,Q,hr=>by
  obtain ⟨v,h1,D1,ho,hr⟩:=OpW.sound hr;obtain ⟨ts',h',h2,h3⟩:=RegW.sound hr;exact ⟨ts',h',⟨v,h1,D1,ho,h2⟩,h3⟩
def qc9 (P:Program) (N:Nat) (vars:List Nat) (c:CCode) (env:lVq) (h:Heap) (Q:AExit→lVq→Heap→Prop):Prop:=∃ x env' h',CodeT P N vars c env h x env' h' ∧ Q x env' h'
def LoopW (P:Program) (N:Nat) (vars:List Nat) (c:CCode) (env:lVq) (h:Heap) (Q:AExit→lVq→Heap→Prop):Prop:=∃ x env' h',LoopT P N vars c env h x env' h' ∧ Q x env' h'
def zc1 (next:lVq→Heap→Prop) (Q:AExit→lVq→Heap→Prop):AExit→lVq→Heap→Prop
 | .normal,e,h=>next e h
 | .exit i,e,h=>Q (.exit i) e h
 | .ret,e,h=>Q .ret e h
def Jd (id:Nat) (Q:AExit→lVq→Heap→Prop):AExit→lVq→Heap→Prop
 | .normal,e,h=>Q .normal e h
 | .exit i,e,h=>Q (if i=id then .normal else .exit i) e h
 | .ret,e,h=>Q .ret e h
def zu8 (v:Option Value) (yes no:Prop):Prop :=
 match v with
 | some (.bool b)=>(b=true→yes)∧(b=false→no)
 | _=>False
def zb2 (P:Program) (N:Nat) (vars ps:List Nat) (a b:CCode) (env:lVq) (L:Nat) (Q:AExit→lVq→Heap→Prop) (h:Heap):Prop :=
 ∃ st x,h.get L=some (.loop env vars N (J6 P N vars ps a b) st (qj x))∧st ≠ .busy∧Q x env (h.set L .dead)
def qc5 (P:Program) (N:Nat) (vars ps:List Nat) (a b:CCode) (fv:Option Value) (env:lVq) (h:Heap) (Q:AExit→lVq→Heap→Prop):Prop :=
 match fv with
 | some (.func (.func f) first cap)=>CallW P f (first.toList++[.func (.yield (h.next + 1)) #[] #[]]++cap.toList) (qr P N vars ps a b env h) fun _ h2=>zb2 P N vars ps a b env (h.next + 1) Q h2
 | _=>False
def W (P:Program) (N:Nat) (vars:List Nat):CCode→(AExit→lVq→Heap→Prop)→lVq→Heap→Prop
 | .skip,Q,e,h=>Q .normal e h
 | .reg s o,Q,e,h=>RegW P s [] [] e h fun ts h1=>Q .normal (upd ts o e) h1
 | .seq a b,Q,e,h=>W P N vars a (zc1 (W P N vars b Q) Q) e h
 | .rcond s o d a b,Q,e,h=>RegW P s [] [] e h fun ts h1=>zu8 ts[d]? (W P N vars a Q (upd ts o e) h1) (W P N vars b Q (upd ts o e) h1)
 | .cond x a b,Q,e,h=>zu8 (x.ev [] e) (W P N vars a Q e h) (W P N vars b Q e h)
 | .block id c,Q,e,h=>W P N vars c (Jd id Q) e h
 | .loop c,Q,e,h=>LoopW P N vars c e h Q
 | .exit id,Q,e,h=>Q (.exit id) e h
 | .ret,Q,e,h=>Q .ret e h
 | .scope c,Q,e,h=>W P N vars c Q e h
 | .label,Q,e,h=>Q .normal e h
 | .never,_,_,_=>False
 | .range g ps a b,Q,e,h=>qc5 P N vars ps a b (g.ev [] e) e h Q
theorem W.sound {N:Nat}{vars:List Nat}:∀ {c:CCode}{Q:AExit→lVq→Heap→Prop}{e:lVq}{h:Heap},W P N vars c Q e h→qc9 P N vars c e h Q
 | .skip,Q,e,h,hw=>⟨_,_,_,CodeT.skip,hw⟩
 | .reg s o,Q,e,h,hw=>by
  obtain ⟨ts,h1,hr,hq⟩:=RegW.sound hw;exact ⟨_,_,_,CodeT.reg hr,hq⟩
 | .seq a b,Q,e,h,hw=>by
  obtain ⟨x,e1,h1,ht,hq⟩:=W.sound (c:=a) hw;cases x with
  | normal =>
   obtain ⟨x2,e2,h2,ht2,hq2⟩:=W.sound (c:=b) hq;exact ⟨_,_,_,ht.seq ht2,hq2⟩
  | exit i=>exact ⟨_,_,_,ht.seq_exit (by simp),hq⟩
  | ret=>exact ⟨_,_,_,ht.seq_exit (by simp),hq⟩
 | .rcond s o d a b,Q,e,h,hw=>by
  obtain ⟨ts,h1,hr,hq⟩:=RegW.sound hw;unfold zu8 at hq;split at hq<;>first | (exact hq.elim) | skip
  rename_i v hv;cases v with
  | true =>
   obtain ⟨x,e2,h2,ht,hq2⟩:=W.sound (c:=a) (hq.1 rfl);exact ⟨_,_,_,CodeT.rcond hr hv (by simpa using ht),hq2⟩
  | false =>
   obtain ⟨x,e2,h2,ht,hq2⟩:=W.sound (c:=b) (hq.2 rfl);exact ⟨_,_,_,CodeT.rcond hr hv (by simpa using ht),hq2⟩
 | .cond y a b,Q,e,h,hw=>by
  simp only [W] at hw;unfold zu8 at hw;split at hw<;>first | (exact hw.elim) | skip
  rename_i v hv;cases v with
  | true =>
   obtain ⟨x,e2,h2,ht,hq2⟩:=W.sound (c:=a) (hw.1 rfl);exact ⟨_,_,_,CodeT.cond hv (by simpa using ht),hq2⟩
  | false =>
   obtain ⟨x,e2,h2,ht,hq2⟩:=W.sound (c:=b) (hw.2 rfl);exact ⟨_,_,_,CodeT.cond hv (by simpa using ht),hq2⟩
 | .block id c,Q,e,h,hw=>by
  obtain ⟨x,e1,h1,ht,hq⟩:=W.sound (c:=c) hw;refine ⟨_,_,_,ht.block,?_⟩;cases x with
  | normal=>exact hq
  | ret=>exact hq
  | exit i=>simpa [Jd] using hq
 | .loop c,Q,e,h,hw=>by
  obtain ⟨x,e1,h1,ht,hq⟩:=hw;exact ⟨_,_,_,CodeT.loop ht,hq⟩
 | .exit id,Q,e,h,hw=>⟨_,_,_,CodeT.exit,hw⟩
 | .ret,Q,e,h,hw=>⟨_,_,_,CodeT.ret,hw⟩
 | .scope c,Q,e,h,hw=>by
  obtain ⟨x,e1,h1,ht,hq⟩:=W.sound (c:=c) hw;exact ⟨_,_,_,ht.scope,hq⟩
 | .label,Q,e,h,hw=>⟨_,_,_,CodeT.label,hw⟩
 | .never,_,_,_,hw=>hw.elim
 | .range g ps a b,Q,e,h,hw=>by
  simp only [W] at hw;unfold qc5 at hw;split at hw<;>first | (exact hw.elim) | skip
  rename_i f first cap hg
  obtain ⟨v,h2,hc,st,x,hL,hst,hq⟩:=hw;exact ⟨x,e,_,CodeT.range hg hc hL hst,hq⟩
def RetQ (cf:CFn) (n:Nat) (Q:vPq):AExit→lVq→Heap→Prop
 | .exit _,_,_=>False
 | .normal,e,h=>ka (qo e (fin cf.body.noRange n h) cf.results) fun vs=>Q (yl vs) (fin cf.body.noRange n h)
 | .ret,e,h=>ka (qo e (fin cf.body.noRange n h) cf.results) fun vs=>Q (yl vs) (fin cf.body.noRange n h)
theorem yield_w {L:Nat}{env:lVq}{vars:List Nat}{N:Nat}{ps:List Nat}{ca cb:CCode}{pend:Option Code}{h:Heap}{args:lVq}{Q:vPq}(hL:h.get L=some (.loop env vars N (J6 P N vars ps ca cb) .ready pend))
  (hnd:vars.Nodup) (hlen:ps.length=args.length) (hna:ca.noRange=true) (hnb:cb.noRange=true)
  (hw:W P N vars ca (fun x ea ha=>x = .normal∧ha.get L=some (.loop env vars N (J6 P N vars ps ca cb) .ready pend) ∧
   W P N vars cb (fun x _ hb=>hb.get L=some (.loop env vars N (J6 P N vars ps ca cb) .busy pend) ∧
    Q (.bool (qj x).isNone) (hb.set L (.loop env vars N (J6 P N vars ps ca cb) (if (qj x).isNone then .ready else .done) (qj x)))) ea (ha.set L (.loop env vars N (J6 P N vars ps ca cb) .busy pend))) (Wi ps args env) h) :
  ValW P (.func (.yield L) #[] #[]) args h Q:=by
 obtain ⟨x,ea,ha,ta,rfl,hLa,hw2⟩:=W.sound hw;obtain ⟨x2,eb,hb,tb,hLb,hq⟩:=W.sound hw2;exact ⟨_,_,zx4 hnd hlen hna hnb hL ta hLa tb hLb,hq⟩
end Go.Eng
