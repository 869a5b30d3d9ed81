/-
  Part of a proof of the laws of layer 09 (ceiling): what each function does.
  Conditions: none.
-/
import Derived.Test.YtddbbcpelbcahaaGreatDoorBd
set_option linter.unusedSimpArgs false
set_option linter.unusedVariables false
namespace Go.Eng.Sy
open Go Go.Eng Go.Proofs
structure Sco.fits (c:Sco) (p:Prg) (nm:List (List UInt8)):Prop where
 any:c.any=false
 dne:c.devs≠[]
 dev:∀ m ∈ c.devs,vm p m=0
 res:∀ i,i < c.ress.length→xi p.ress (c.ress.getD i [])=i
 held:∀ m ∈ c.held,0≤xi p.ress m∧xi p.ress m < c.free
 free:c.free≤c.ress.length
 loc:∀ m ∈ xyzL,wa nm m=0
theorem km {s:List Int}{l:List (List UInt8)}(hl:l≠[]):(z6 false s l).1 ∈ l:=by
 have h0:l.length≠0:=fun e=>hl (List.length_eq_zero_iff.1 e)
 have hlt:=zn s (n:=l.length) (by omega)
 simp only [z6,Bool.false_or,beq_iff_eq,h0,if_false]
 rw [List.getD_eq_getElem?_getD,List.getElem?_eq_getElem hlt]
 exact List.getElem_mem hlt
section
variable {p:Prg}{nm:List (List UInt8)}
theorem yt3 (s:List Int) (hs:List (List UInt8)):wi p nm hs (yt4 s).1=0:=by
 simp [yt4,wi,yu,um]
theorem Jb {c:Sco}(hc:c.fits p nm):∀ (d:Nat) (s:List Int),wi p nm c.held (z8 c d s).1=0
 | 0,s=>yt3 _ _
 | d + 1,s=>by
  unfold z8
  dsimp only
  split
  ·exact yt3 _ _
  ·split
   ·have:=hc.loc _ (km (s:=(zh s 8).2) (l:=xyzL) (by decide))
    rw [hc.any]
    simp [wi,yu,um,this]
   ·split
    ·simp [wi,yu,um,Jb hc d]
    ·split
     ·rename_i h
      have hne:c.held≠[]:=by
       rcases h.2 with h | h
       ·rw [hc.any] at h;cases h
       ·exact h
      have hm:=km (s:=(zh s 8).2) hne
      have hh:=hc.held _ hm
      have:Kk p (z6 false (zh s 8).2 c.held).1 c.held=0:=by
       unfold Kk
       rw [if_neg (by omega),if_pos (by simpa using hm)]
      rw [hc.any]
      simp [wi,yu,um,this,Jb hc d]
     ·simp [wi,yu,um,Jb hc d]
variable (p nm) in
def yl3 (hs:List (List UInt8)) (ss:List St):Prop:=∀ x ∈ zq hs ss,wt p nm x.2 x.1=0
variable (p nm) in
def okS (hs:List (List UInt8)) (s:St):Prop:=∀ x ∈ Zb hs s,wt p nm x.2 x.1=0
theorem zf4 {x:St × List (List UInt8)}{hs:List (List UInt8)}{s:St}(hx:x ∈ Zb hs s):∀ {ss:List St},s ∈ ss→x ∈ zq hs ss
 | [],h=>by simp at h
 | a::r,h=>by
  simp only [zq,List.mem_append]
  rcases List.mem_cons.1 h with rfl | h
  ·exact .inl hx
  ·exact .inr (zf4 hx h)
theorem Zp {hs:List (List UInt8)}{ss:List St}:yl3 p nm hs ss ↔ ∀ s ∈ ss,okS p nm hs s :=
 ⟨fun h s hs' x hx=>h x (zf4 hx hs'),fun h x hx=>let ⟨s,h1,h2⟩:=we hx;h s h1 x h2⟩
theorem xd {hs:List (List UInt8)}{s:St}:okS p nm hs s↔wt p nm hs s=0∧yl3 p nm (if s.kind=5 then hs++[s.name] else hs) s.thn∧yl3 p nm hs s.els:=by
 unfold okS yl3
 rw [wg]
 simp only [List.mem_cons,List.mem_append]
 constructor
 ·exact fun h=>⟨h _ (.inl rfl),fun x hx=>h x (.inr (.inl hx)),fun x hx=>h x (.inr (.inr hx))⟩
 ·rintro ⟨h1,h2,h3⟩ x (rfl | hx | hx)
  ·exact h1
  ·exact h2 x hx
  ·exact h3 x hx
theorem qe {hs:List (List UInt8)}:yl3 p nm hs []:=fun x hx=>by simp [zq] at hx
theorem zu8 {c:Sco}(hc:c.fits p nm){rec:Option (Sco→List Int→List St × List Int)}(hr:∀ f,rec=some f → ∀ c:Sco,c.fits p nm → ∀ s,yl3 p nm c.held (f c s).1){loc:List UInt8}(hl:wa nm loc=0) (k:Nat) (s:List Int):okS p nm c.held (wu rec c loc k s).1:=by
 have ex:=Jb hc
 have hset:∀ s,okS p nm c.held (.mk 1 loc [] 0 [(z8 c 4 s).1] [] []):=fun s=>xd.2 ⟨by simp [wt,jh,St.kind,St.name,St.args,hl,yu,ex],qe,qe⟩
 unfold wu
 split
 ·have:=hc.dev _ (km (s:=s) hc.dne)
  rw [hc.any]
  exact xd.2 ⟨by simp [wt,jh,St.kind,St.name,St.src,St.args,hl,yu,ex,this],qe,qe⟩
 ·split
  ·have:=hc.dev _ (km (s:=s) hc.dne)
   rw [hc.any]
   exact xd.2 ⟨by simp [wt,jh,St.kind,St.name,St.src,St.args,hl,yu,ex,this],qe,qe⟩
  ·split
   ·rename_i h
    have hne:c.held≠[]:=by
     rcases h.2 with h | h
     ·rw [hc.any] at h;cases h
     ·exact h
    have hm:=km (s:=s) hne
    have hh:=hc.held _ hm
    have:Kk p (z6 false s c.held).1 c.held=0:=by
     unfold Kk
     rw [if_neg (by omega),if_pos (by simpa using hm)]
    rw [hc.any]
    exact xd.2 ⟨by simp [wt,jh,St.kind,St.name,St.src,St.args,hl,yu,ex,this],qe,qe⟩
   ·split
    ·exact xd.2 ⟨by simp [wt,jh,St.kind,St.name,St.src,St.args,hl,yu,ex],qe,qe⟩
    ·split
     ·exact hset s
     ·rename_i rec'
      split
      ·rename_i h5
       have hf:c.free < c.ress.length:=by
        rcases h5.2 with h | h
        ·rw [hc.any] at h;cases h
        ·exact h
       have hlt:=zn (z6 false s c.ress).2 (n:=c.ress.length - c.free) (by omega)
       have hL:wk c s=(c.ress.getD (c.free + (zh (z6 false s c.ress).2 (c.ress.length - c.free)).1) [],c.free + (zh (z6 false s c.ress).2 (c.ress.length - c.free)).1 + 1,(zh (z6 false s c.ress).2 (c.ress.length - c.free)).2):=by
        unfold wk;rw [hc.any];rfl
       obtain ⟨i,hi⟩:∃ i,c.free + (zh (z6 false s c.ress).2 (c.ress.length - c.free)).1=i:=⟨_,rfl⟩
       rw [hi] at hL
       have hir:i < c.ress.length:=by omega
       have hix:=hc.res i hir
       rw [hL]
       have hc2:(inSco c (c.ress.getD i []) (i + 1)).fits p nm:=⟨hc.any,hc.dne,hc.dev,hc.res,fun m hm=>by
        rcases List.mem_append.1 hm with hm | hm
        ·have:=hc.held m hm
         show 0≤xi p.ress m∧xi p.ress m < ((i + 1:Nat):Int);omega
        ·rw [List.mem_singleton.1 hm,hix]
         show (0:Int)≤i∧(i:Int) < ((i + 1:Nat):Int);omega,by show i + 1≤_;exact hir,hc.loc⟩
       have hb:=hr _ rfl _ hc2 (zh (z6 false s c.ress).2 (c.ress.length - c.free)).2
       have hlk:Xk p (c.ress.getD i []) c.held=0:=by
        unfold Xk
        rw [hix,if_neg (by omega),if_neg]
        simp only [List.any_eq_true,decide_eq_true_eq,not_exists,not_and]
        intro x hx
        have:=hc.held x hx
        omega
       dsimp only
       generalize c.ress.getD i []=mm at *
       exact xd.2 ⟨by simp [wt,jh,St.kind,St.name,St.args,yu,hlk],by show yl3 p nm (if (5:Int)=5 then _ else _) _;rw [if_pos rfl];exact hb,qe⟩
      ·split
       ·have h1:=hr _ rfl c hc (z8 c 3 s).2
        have h2:=hr _ rfl c hc (rec' c (z8 c 3 s).2).2
        exact xd.2 ⟨by simp [wt,jh,St.kind,St.name,St.src,St.args,yu,ex],by simpa [St.kind,St.thn] using h1,h2⟩
       ·split
        ·exact xd.2 ⟨by simp [wt,jh,St.kind,St.name,St.src,St.args,yu,ex],by simpa [St.kind,St.thn] using hr _ rfl c hc (zh s 5).2,qe⟩
        ·exact hset s
theorem Zm:∀ (d:Nat) (c:Sco),c.fits p nm → ∀ s,yl3 p nm c.held (y5 d c s).1
 | 0,c,hc,s=>Zp.2 (xm (fun s=>zu8 hc (fun f h=>by cases h) (by rw [hc.any];exact hc.loc _ (km (by decide))) _ _) _ _)
 | d + 1,c,hc,s=>Zp.2 (xm (fun s=>zu8 hc (fun f h c hc s=>by cases h;exact Zm d c hc s) (by rw [hc.any];exact hc.loc _ (km (by decide))) _ _) _ _)
end
end Go.Eng.Sy
namespace Go.Eng.Sy
open Go Go.Eng Go.Proofs
theorem Yg (ns:List (List UInt8)) (m:Nat):∀ (k j:Nat) (s:List Int),(jn ns m k j s).1.map (·.name)=(List.range' j k).map fun i=>ns.getD i []
 | 0,j,s=>rfl
 | k + 1,j,s=>by
  have:=Yg ns m k (j + 1) (zh s m).2
  simp only [jn,List.map_cons,List.range'_succ,this]
theorem Jm (c:Sco):∀ (k j:Nat) (s:List Int),(qg c k j s).1.map (·.name)=(List.range' j k).map fun i=>tskNs.getD i []
 | 0,j,s=>rfl
 | k + 1,j,s=>by
  have:=Jm c k (j + 1) (y5 3 c (zh s 3).2).2
  simp only [qg,List.map_cons,List.range'_succ,this]
theorem Kj (c:Sco) (H:Nat):∀ (k j:Nat) (s:List Int),(qk c H k j s).1.map (·.name)=(List.range' j k).map fun i=>hndNs.getD i []
 | 0,j,s=>rfl
 | k + 1,j,s=>by
  have:=Kj c H k (j + 1) (y5 2 c (zh (zh (zh s H).2 4).2 2).2).2
  simp only [qk,List.map_cons,List.range'_succ,this]
theorem take3:∀ k:Fin 4,((List.range' 0 k.val).map fun i=>devNs.getD i [])=devNs.take k.val∧((List.range' 0 k.val).map fun i=>tskNs.getD i [])=tskNs.take k.val∧((List.range' 0 k.val).map fun i=>hndNs.getD i [])=hndNs.take k.val:=by decide
theorem take2:∀ k:Fin 3,((List.range' 0 k.val).map fun i=>resNs.getD i [])=resNs.take k.val:=by decide
def ixN (l:List (List UInt8)) (s:List UInt8):Int:=match l.findIdx? (fun d=>d == s) with | some i=>(i:Int) | none=>-1
theorem Ql (l:List Nm) (s:List UInt8):xi l s=ixN (l.map (·.name)) s:=by
 unfold xi ixN
 rw [List.findIdx?_map]
 rfl
def twoOk (a b:Tsk):Prop:=(a.handler=false→b.handler=false→a.hart≠b.hart)∧(a.handler=true→b.handler=true→a.line≠b.line)
theorem twoOk.symm {a b:Tsk}(h:twoOk a b):twoOk b a:=⟨fun h1 h2 e=>h.1 h2 h1 e.symm,fun h1 h2 e=>h.2 h2 h1 e.symm⟩
structure TasksOk (p:Prg):Prop where
 hart:∀ t ∈ p.tasks,t.hart < p.harts
 two:p.tasks.Pairwise twoOk
 below:∀ t ∈ p.tasks,t.handler=true → ∀ x ∈ p.tasks,x.handler=false→x.hart=t.hart→x.prio < t.prio
theorem TasksOk.head {p:Prg}(h:TasksOk p) (i:Nat):xe p i=0:=by
 unfold xe
 split
 ·rfl
 ·rename_i t ht
  have hm:=List.mem_of_getElem? ht
  have hh:=h.hart t hm
  have htk:∀ x ∈ p.tasks.take i,twoOk x t:=fun x hx=>by
   obtain ⟨hi,he⟩:=List.getElem?_eq_some_iff.1 ht
   obtain ⟨j,hj,he2⟩:=List.mem_iff_getElem.1 hx
   rw [List.length_take] at hj
   rw [List.getElem_take] at he2
   rw [← he,← he2]
   exact List.pairwise_iff_getElem.1 h.two j i (by omega) hi (by omega)
  have a1:(!t.handler && (p.tasks.take i).any (hd1 t))=false:=by
   cases hb:t.handler with
   | true=>rfl
   | false =>
    simp only [Bool.not_false,Bool.true_and,List.any_eq_false,hd1,Bool.and_eq_true,Bool.not_eq_true',beq_iff_eq,not_and]
    exact fun x hx hb2 e=>(htk x hx).1 hb2 hb e
  rw [if_neg (by omega),a1]
  cases hb:t.handler with
  | false=>rfl
  | true =>
   have a2:(p.tasks.take i).any (hd2 t)=false:=by
    simp only [List.any_eq_false,hd2,Bool.and_eq_true,beq_iff_eq,not_and]
    exact fun x hx hb2 e=>(htk x hx).2 hb2 hb e
   have a3:p.tasks.any (hd3 t)=false:=by
    simp only [List.any_eq_false,hd3,Bool.and_eq_true,Bool.not_eq_true',beq_iff_eq,decide_eq_true_eq,not_and,Int.not_le]
    exact fun x hx hb2=>by
     have:=h.below t hm hb x hx hb2.1 hb2.2
     omega
   rw [a2,a3];rfl
structure Facts (p:Prg) (nd nr H nh:Nat):Prop where
 dn:p.devs.map (·.name)=devNs.take nd
 rn:p.ress.map (·.name)=resNs.take nr
 tn:p.tasks.map (·.name)=tskNs.take H++hndNs.take nh
 b1:1≤nd∧nd≤3
 b2:nr≤2
 b3:1≤H∧H≤3
 b4:nh≤3
 harts:p.harts=H
 tasks:TasksOk p
 fits:Sco.fits ⟨p.devs.map (·.name),p.ress.map (·.name),0,[],false⟩ p (zx p)
 body:∀ t ∈ p.tasks,yl3 p (zx p) [] t.body
def zu0 (nd nr H nh:Nat):List (List UInt8):=devNs.take nd++resNs.take nr++(tskNs.take H++hndNs.take nh)
theorem Facts.names {p:Prg}{nd nr H nh:Nat}(h:Facts p nd nr H nh):zx p=zu0 nd nr H nh:=by
 unfold zx zu0;rw [h.dn,h.rn,h.tn]
theorem yj1:∀ (nd:Fin 4) (nr:Fin 3) (H:Fin 4) (nh:Fin 4),(zu0 nd.val nr.val H.val nh.val).Nodup∧xyzL.all (fun m=>!(zu0 nd.val nr.val H.val nh.val).contains m)=true:=by decide +kernel
theorem devNs_ix:∀ (nd:Fin 4),(devNs.take nd.val).all (fun m=>decide (0≤ixN (devNs.take nd.val) m))=true:=by decide
theorem resNs_ix:∀ (nr:Fin 3),∀ i:Fin 2,i.val < nr.val→ixN (resNs.take nr.val) ((resNs.take nr.val).getD i.val [])=(i.val:Int):=by decide
theorem Q1 (c:Sco):∀ (k j:Nat) (s:List Int),∀ t ∈ (qg c k j s).1,t.handler=false∧((j:Int)≤t.hart∧t.hart < j + k)∧t.prio≤3 ∧ ∃ s',t.body=(y5 3 c s').1
 | 0,j,s,t,h=>by simp [qg] at h
 | k + 1,j,s,t,h=>by
  simp only [qg,List.mem_cons] at h
  rcases h with rfl | h
  ·have:=zn s (n:=3) (by omega)
   exact ⟨rfl,⟨by show (j:Int)≤j;omega,by show (j:Int) < j + (k + 1:Nat);omega⟩,by show ((1 + (zh s 3).1:Nat):Int)≤3;omega,_,rfl⟩
  ·obtain ⟨a,b,c,d⟩:=Q1 c k (j + 1) _ t h
   exact ⟨a,⟨by omega,by omega⟩,c,d⟩
theorem ts_two (c:Sco):∀ (k j:Nat) (s:List Int),(qg c k j s).1.Pairwise twoOk
 | 0,j,s=>List.Pairwise.nil
 | k + 1,j,s=>by
  simp only [qg]
  refine List.Pairwise.cons (fun x hx=>?_) (ts_two c k (j + 1) _)
  obtain ⟨a,b,_⟩:=Q1 c k (j + 1) _ x hx
  exact ⟨fun _ _ e=>by have e' : (j:Int)=x.hart:=e;omega,fun h _=>by cases h⟩
theorem Q7 (c:Sco){H:Nat}(hH:0 < H):∀ (k j:Nat) (s:List Int),∀ t ∈ (qk c H k j s).1,t.handler=true∧t.hart < H∧4≤t.prio∧(∃ i l:Nat,j≤i∧i < j + k∧l < 2∧t.line=((i + l * 4:Nat):Int)) ∧ ∃ s',t.body=(y5 2 c s').1
 | 0,j,s,t,h=>by simp [qk] at h
 | k + 1,j,s,t,h=>by
  simp only [qk,List.mem_cons] at h
  rcases h with rfl | h
  ·have h1:=zn s hH
   have h3:=zn (zh (zh s H).2 4).2 (n:=2) (by omega)
   exact ⟨rfl,by show ((zh s H).1:Int) < H;omega,by show (4:Int)≤((4 + (zh (zh s H).2 4).1:Nat):Int);omega,⟨j,_,by omega,by omega,h3,rfl⟩,_,rfl⟩
  ·obtain ⟨a,b,d,⟨i,l,e1,e2,e3,e4⟩,f⟩:=Q7 c hH k (j + 1) _ t h
   exact ⟨a,b,d,⟨i,l,by omega,by omega,e3,e4⟩,f⟩
theorem hs_two (c:Sco){H:Nat}(hH:0 < H):∀ (k j:Nat),j + k≤4 → ∀ (s:List Int),(qk c H k j s).1.Pairwise twoOk
 | 0,j,_,s=>List.Pairwise.nil
 | k + 1,j,hj,s=>by
  simp only [qk]
  refine List.Pairwise.cons (fun x hx=>?_) (hs_two c hH k (j + 1) (by omega) _)
  obtain ⟨a,b,d,⟨i,l,e1,e2,e3,e4⟩,f⟩:=Q7 c hH k (j + 1) _ x hx
  have h3:=zn (zh (zh s H).2 4).2 (n:=2) (by omega)
  exact ⟨fun h=>(by cases h),fun _ _ e=>by
   have e' : ((j + (zh (zh (zh s H).2 4).2 2).1 * 4:Nat):Int)=x.line:=e
   omega⟩
theorem Jx (raw:List Int):∃ nd nr H nh,Facts (jf raw false) nd nr H nh:=by
 generalize hp:jf raw false=p
 unfold jf at hp
 dsimp only at hp
 have h1:=zn (raw.take 400) (n:=3) (by omega)
 generalize zh (raw.take 400) 3=a at *
 have h2:=zn a.2 (n:=3) (by omega)
 generalize zh a.2 3=nd at *
 have h3:=Yg devNs 3 (nd.1 + 1) 0 nd.2
 generalize jn devNs 3 (nd.1 + 1) 0 nd.2=ds at *
 have h4:=zn ds.2 (n:=3) (by omega)
 generalize zh ds.2 3=nr at *
 have h5:=Yg resNs 8 nr.1 0 nr.2
 generalize jn resNs 8 nr.1 0 nr.2=rs at *
 obtain ⟨c,hc⟩:∃ c:Sco,(⟨ds.1.map (·.name),rs.1.map (·.name),0,[],false⟩:Sco)=c:=⟨_,rfl⟩
 rw [hc] at hp
 have h6:=Jm c (1 + a.1) 0 rs.2
 have h6f:=Q1 c (1 + a.1) 0 rs.2
 have h6t:=ts_two c (1 + a.1) 0 rs.2
 generalize qg c (1 + a.1) 0 rs.2=ts at *
 have h7:=zn ts.2 (n:=4) (by omega)
 generalize zh ts.2 4=nh at *
 have h8:=Kj c (1 + a.1) nh.1 0 nh.2
 have h8f:=Q7 c (H:=1 + a.1) (by omega) nh.1 0 nh.2
 have h8t:=hs_two c (H:=1 + a.1) (by omega) nh.1 0 (by omega) nh.2
 generalize qk c (1 + a.1) nh.1 0 nh.2=hs at *
 rw [(take3 ⟨nd.1 + 1,by omega⟩).1] at h3
 rw [take2 ⟨nr.1,by omega⟩] at h5
 rw [(take3 ⟨1 + a.1,by omega⟩).2.1] at h6
 rw [(take3 ⟨nh.1,by omega⟩).2.2] at h8
 dsimp only at h3 h5 h6 h8
 have nmP:zx p=zu0 (nd.1 + 1) nr.1 (1 + a.1) nh.1:=by
  rw [← hp];unfold zx zu0;dsimp only;rw [List.map_append,h3,h5,h6,h8]
 have ok:=yj1 ⟨nd.1 + 1,by omega⟩ ⟨nr.1,by omega⟩ ⟨1 + a.1,by omega⟩ ⟨nh.1,by omega⟩
 dsimp only at ok
 have hdv:p.devs=ds.1:=by rw [← hp]
 have hrs:p.ress=rs.1:=by rw [← hp]
 have fits:c.fits p (zx p):=by
  rw [← hc]
  refine ⟨rfl,?_,fun m hm=>?_,fun i hi=>?_,fun m hm=>by simp at hm,Nat.zero_le _,fun m hm=>?_⟩
  ·dsimp only
   rw [h3]
   intro e
   have:=congrArg List.length e
   simp only [List.length_take,List.length_nil] at this
   have:devNs.length=3:=rfl
   omega
  ·have:=devNs_ix ⟨nd.1 + 1,by omega⟩
   dsimp only at this hm
   rw [h3] at hm
   have:=List.all_eq_true.1 this m hm
   simp only [decide_eq_true_eq] at this
   unfold vm
   rw [Ql,hdv,h3,if_neg (by omega)]
  ·dsimp only at hi ⊢
   rw [Ql,hrs,h5]
   rw [h5,List.length_take] at hi
   have:resNs.length=2:=rfl
   exact resNs_ix ⟨nr.1,by omega⟩ ⟨i,by omega⟩ (by show i < nr.1;omega)
  ·have:=List.all_eq_true.1 ok.2 m hm
   unfold wa
   rw [nmP]
   simp only [Bool.not_eq_true'] at this
   rw [this];rfl
 have hht:p.tasks=ts.1++hs.1:=by rw [← hp]
 have hhh:p.harts=((1 + a.1:Nat):Int):=by rw [← hp]
 refine ⟨nd.1 + 1,nr.1,1 + a.1,nh.1,⟨by rw [hdv];exact h3,by rw [hrs];exact h5,by rw [hht,List.map_append,h6,h8],by omega,by omega,by omega,by omega,hhh,⟨?_,?_,?_⟩,by rw [hdv,hrs,hc];exact fits,?_⟩⟩
 ·intro t ht
  rw [hht] at ht
  rw [hhh]
  rcases List.mem_append.1 ht with ht | ht
  ·have:=(h6f t ht).2.1.2;omega
  ·exact (h8f t ht).2.1
 ·rw [hht,List.pairwise_append]
  refine ⟨h6t,h8t,fun x hx y hy=>?_⟩
  have e1:=(h6f x hx).1
  have e2:=(h8f y hy).1
  exact ⟨fun _ h=>by rw [e2] at h;(cases h),fun h _=>by rw [e1] at h;(cases h)⟩
 ·intro t ht htt x hx hxx _
  rw [hht] at ht hx
  rcases List.mem_append.1 ht with ht | ht
  ·rw [(h6f t ht).1] at htt;cases htt
  ·rcases List.mem_append.1 hx with hx | hx
   ·have h1:=(h6f x hx).2.2.1
    have h2:=(h8f t ht).2.2.1
    omega
   ·rw [(h8f x hx).1] at hxx;cases hxx
 ·intro t ht
  rw [hht] at ht
  have hheld:c.held=[]:=by rw [← hc]
  rw [← hheld]
  rcases List.mem_append.1 ht with ht | ht
  ·obtain ⟨s',e⟩:=(h6f t ht).2.2.2;rw [e];exact Zm 3 c fits s'
  ·obtain ⟨s',e⟩:=(h8f t ht).2.2.2.2;rw [e];exact Zm 2 c fits s'
theorem CheckIs.zero {p:Prg}{e i n:Int}(h:CheckIs p e i n) (hr:ja p=true) (hn:(zx p).Nodup) (ht:TasksOk p) (hb:∀ t ∈ p.tasks,yl3 p (zx p) [] t.body):e=0∧i=0∧n=0:=by
 rcases h with ⟨h,_⟩ | ⟨_,h,_⟩ | ⟨_,_,k,_,h,_⟩ | ⟨_,_,_,k,m,_,⟨tk,x,h1,h2,h3,h4,_⟩,_⟩ | ⟨_,_,_,_,h⟩
 ·rw [hr] at h;cases h
 ·exact absurd hn h
 ·exact absurd (ht.head k) h
 ·exact absurd (h3.trans (hb tk (List.mem_of_getElem? h1) x (List.mem_of_getElem? h2))) h4
 ·exact h
end Go.Eng.Sy
namespace Go.Eng.Sy
open Go Go.Eng Go.Proofs
theorem StG.kids {s:St}{d:Nat}(h:StG s (d + 1)):(s.thn.length≤3 ∧ ∀ x ∈ s.thn,StG x d)∧s.els.length≤3 ∧ ∀ x ∈ s.els,StG x d:=by
 cases h<;>simp_all [St.thn,St.els]
theorem Zy {hs:List (List UInt8)}{b:Nat}:∀ {ss:List St},(∀ s ∈ ss,(Zb hs s).length≤b)→(zq hs ss).length≤ss.length * b
 | [],_=>by simp [zq]
 | s::r,h=>by
  have h1:=h s (by simp)
  have h2:=Zy (ss:=r) fun x hx=>h x (by simp [hx])
  simp only [zq,List.length_append,List.length_cons,Nat.add_mul,Nat.one_mul]
  omega
def bdS:Nat→Nat | 0=>0 | d + 1=>1 + 6 * bdS d
theorem Um:∀ (d:Nat) (s:St) (hs:List (List UInt8)),StG s d→(Zb hs s).length≤bdS d
 | 0,s,hs,h=>by cases h
 | d + 1,s,hs,h=>by
  obtain ⟨⟨a1,a2⟩,b1,b2⟩:=h.kids
  rw [wg]
  simp only [List.length_cons,List.length_append,bdS]
  have h1:=Zy (hs:=if s.kind=5 then hs++[s.name] else hs) fun x hx=>Um d x (if s.kind=5 then hs++[s.name] else hs) (a2 x hx)
  have h2:=Zy (hs:=hs) fun x hx=>Um d x hs (b2 x hx)
  have h3:s.thn.length * bdS d≤3 * bdS d:=Nat.mul_le_mul_right _ a1
  have h4:s.els.length * bdS d≤3 * bdS d:=Nat.mul_le_mul_right _ b1
  omega
theorem zk5 {p:Prg}(hg:p.good):∀ tk ∈ p.tasks,(zq [] tk.body).length≤1000:=fun tk h=>by
 have hb:=hg.tasks tk h
 have h1:=Zy (hs:=[]) fun x hx=>Um 4 x [] (hb.body x hx)
 have h2:tk.body.length * bdS 4≤3 * bdS 4:=Nat.mul_le_mul_right _ hb.len
 have h3:bdS 4=259:=rfl
 omega
theorem devs_ix:∀ (nd:Fin 4) (nr:Fin 3),∀ i:Fin 3,i.val < nd.val→ixN (devNs.take nd.val) ((devNs.take nd.val).getD i.val [])=(i.val:Int)∧ixN (resNs.take nr.val) ((devNs.take nd.val).getD i.val []) = -1:=by decide +kernel
theorem ress_ix:∀ (nd:Fin 4) (nr:Fin 3),∀ i:Fin 2,i.val < nr.val→ixN (resNs.take nr.val) ((resNs.take nr.val).getD i.val [])=(i.val:Int)∧ixN (devNs.take nd.val) ((resNs.take nr.val).getD i.val []) = -1:=by decide +kernel
theorem none_ix:∀ (nd:Fin 4) (nr:Fin 3),ixN (devNs.take nd.val) [115,116,114,97,110,103,101] = -1∧ixN (resNs.take nr.val) [] = -1:=by decide +kernel
section
variable {p:Prg}{nd nr H nh:Nat}
theorem Facts.dev (h:Facts p nd nr H nh){i:Nat}{e:Nm}(he:p.devs[i]? = some e):xi p.devs e.name=i∧xi p.ress e.name = -1:=by
 have hb:=h.b1;have hb2:=h.b2
 have hl:i < (devNs.take nd).length:=by rw [← h.dn,List.length_map];exact (List.getElem?_eq_some_iff.1 he).1
 have hi:i < nd:=by rw [List.length_take] at hl;omega
 have hn:e.name=(devNs.take nd).getD i []:=by rw [← h.dn,List.getD_eq_getElem?_getD,List.getElem?_map,he];rfl
 rw [Ql,Ql,h.dn,h.rn,hn]
 exact devs_ix ⟨nd,by omega⟩ ⟨nr,by omega⟩ ⟨i,by omega⟩ hi
theorem Facts.res (h:Facts p nd nr H nh){i:Nat}{e:Nm}(he:p.ress[i]? = some e):xi p.ress e.name=i∧xi p.devs e.name = -1:=by
 have hb:=h.b1;have hb2:=h.b2
 have hl:i < (resNs.take nr).length:=by rw [← h.rn,List.length_map];exact (List.getElem?_eq_some_iff.1 he).1
 have hi:i < nr:=by rw [List.length_take] at hl;omega
 have hn:e.name=(resNs.take nr).getD i []:=by rw [← h.rn,List.getD_eq_getElem?_getD,List.getElem?_map,he];rfl
 rw [Ql,Ql,h.dn,h.rn,hn]
 exact ress_ix ⟨nd,by omega⟩ ⟨nr,by omega⟩ ⟨i,by omega⟩ hi
theorem Facts.none (h:Facts p nd nr H nh):xi p.devs [115,116,114,97,110,103,101] = -1∧xi p.ress [] = -1:=by
 have hb:=h.b1;have hb2:=h.b2
 rw [Ql,Ql,h.dn,h.rn]
 exact none_ix ⟨nd,by omega⟩ ⟨nr,by omega⟩
theorem Facts.nodup (h:Facts p nd nr H nh):(zx p).Nodup:=by
 have hb:=h.b1;have hb2:=h.b2;have hb3:=h.b3;have hb4:=h.b4
 rw [h.names]
 exact (yj1 ⟨nd,by omega⟩ ⟨nr,by omega⟩ ⟨H,by omega⟩ ⟨nh,by omega⟩).1
end
end Go.Eng.Sy
namespace Go.Eng.Sy
open Go Go.Eng Go.Proofs
mutual
def cntS:St→Nat
 | .mk _ _ _ _ _ t e=>1 + jv t + jv e
def jv:List St→Nat
 | []=>0
 | s::r=>cntS s + jv r
end
mutual
theorem yz6 (hs:List (List UInt8)):∀ (s:St),(Zb hs s).length=cntS s
 | .mk k m f n a t e=>by
  simp only [Zb,List.length_cons,List.length_append,cntS]
  rw [ui _ t,ui _ e];omega
theorem ui (hs:List (List UInt8)):∀ (l:List St),(zq hs l).length=jv l
 | []=>rfl
 | s::r=>by simp only [zq,List.length_append,jv];rw [yz6 hs s,ui hs r]
end
theorem Kt:∀ (a b:List St),jv (a++b)=jv a + jv b
 | [],b=>by simp [jv]
 | s::a,b=>by simp only [List.cons_append,jv,Kt a b];omega
section
variable {p:Prg}{nm:List (List UInt8)}
end
end Go.Eng.Sy
