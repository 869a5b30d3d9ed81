/-
  Part of a proof of the laws of layer 09 (ceiling): what each function does.
  Conditions: none.
-/
import Derived.Test.YtddbbcpelbcahaaGreatDoorY
set_option linter.unusedSimpArgs false
set_option linter.unusedVariables false
namespace Go.Eng
open Go
theorem Heap.le.but' {h0 h h' : Heap}{p:Nat}(hl:h0.le h) (hp:h0.next≤p) (hb:h.leBut p h'):h0.le h' :=
 ⟨fun i o ho=>by
  have h1:=hl.get ho;have h2:=Heap.lt_of_get ho;rw [hb.get i (by omega) (by rw [h1];rfl)];exact h1,Nat.le_trans hl.next hb.next⟩
theorem Heap.le.set' {h0 h:Heap}{p:Nat}(hl:h0.le h) (hp:h0.next≤p) (o:AObj):h0.le (h.set p o) :=
 ⟨fun i o' ho=>by
  have h1:=hl.get ho;have h2:=Heap.lt_of_get ho;rw [Heap.set_getE _ _ _ _ (by simp;omega)];exact h1,hl.next⟩
end Go.Eng
namespace Go.Eng.Sy
open Go Go.Eng Go.Proofs
abbrev Bx (L:List Nat) (vs:lVq) (id:Nat):Prop:=id ∉ L ∧ ∀ v ∈ vs,notOf v id
structure WSt (n:Nat) (L:List Nat) (h:Heap) (g:Prg) (d r t:Value) (xs:List (lVq)):Prop where
 rows:Rows n h [(d,2,g.devs.map nmC),(r,2,g.ress.map nmC),(t,6,xs)]
 apart:∀ v ∈ [d,r,t],∀ i ∈ L,notOf v i
 hts:TsCsB (Bx L [d,r,t]) h g.tasks xs
 dl:g.devs.length≤140737488355328
 rl:g.ress.length≤140737488355328
 tl:xs.length≤140737488355328
theorem three {d r t:Value}{a b c:List (lVq)}{x:Row}(hx:x ∈ [(d,2,a),(r,2,b),(t,6,c)]):x.1 ∈ [d,r,t]:=by
 simp only [List.mem_cons,List.not_mem_nil,or_false] at hx ⊢;rcases hx with rfl | rfl | rfl<;>simp
theorem WSt.to {n:Nat}{L:List Nat}{h h' : Heap}{g:Prg}{d r t:Value}{xs:List (lVq)}(hm:WSt n L h g d r t xs) (hk:∀ i,i ∉ L→(h.get i).isSome=true→h'.get i=h.get i):WSt n L h' g d r t xs :=
 ⟨⟨fun x hx=>(hm.rows.own x hx).get fun id hv hs=>hk id (fun hi=>hm.apart x.1 (three hx) id hi _ _ hv) hs,hm.rows.sep⟩,hm.apart,hm.hts.to fun id cs own hb hg=>⟨hb,by rw [hk id hb.1 (by rw [hg];rfl)];exact hg⟩,hm.dl,hm.rl,hm.tl⟩
theorem WSt.le {n:Nat}{L:List Nat}{h h' : Heap}{g:Prg}{d r t:Value}{xs:List (lVq)}(hm:WSt n L h g d r t xs) (hl:h.le h'):WSt n L h' g d r t xs:=hm.to fun i _ hs=>hl.getE i hs
theorem WSt.but {n:Nat}{L:List Nat}{h h' : Heap}{g:Prg}{d r t:Value}{xs:List (lVq)}(hm:WSt n L h g d r t xs){p:Nat}(hp:p ∈ L) (hl:h.leBut p h'):WSt n L h' g d r t xs:=hm.to fun i hi hs=>hl.get i (fun e=>hi (e ▸ hp)) hs
theorem WSt.set {n:Nat}{L:List Nat}{h:Heap}{g:Prg}{d r t:Value}{xs:List (lVq)}(hm:WSt n L h g d r t xs){p:Nat}(hp:p ∈ L) (o:AObj):WSt n L (h.set p o) g d r t xs:=hm.to fun i hi hs=>Heap.set_getE _ _ _ _ (by simp;intro e;exact hi (e ▸ hp))
theorem WSt.more {n:Nat}{L:List Nat}{h:Heap}{g:Prg}{d r t:Value}{xs:List (lVq)}(hm:WSt n L h g d r t xs){i:Nat}(hi:h.next≤i):WSt n (i::L) h g d r t xs:=by
 refine ⟨hm.rows,fun v hv j hj=>?_,hm.hts.to fun id cs own hb hg=>⟨⟨fun h=>?_,hb.2⟩,hg⟩,hm.dl,hm.rl,hm.tl⟩
 ·rcases List.mem_cons.1 hj with rfl | hj
  ·simp only [List.mem_cons,List.not_mem_nil,or_false] at hv;rcases hv with rfl | rfl | rfl
   ·exact OwnS.notOf_new (hm.rows.own (v,2,g.devs.map nmC) (by simp)) hi
   ·exact OwnS.notOf_new (hm.rows.own (v,2,g.ress.map nmC) (by simp)) hi
   ·exact OwnS.notOf_new (hm.rows.own (v,6,xs) (by simp)) hi
  ·exact hm.apart v hv j hj
 ·have:=Heap.lt_of_get hg;rcases List.mem_cons.1 h with rfl | h
  ·omega
  ·exact hb.1 h
theorem MadeR.st {n:Nat}{h:Heap}{g:Prg}{d r t:Value}{xs:List (lVq)}(hm:MadeR n h g d r t xs){L:List Nat}(hL:∀ i ∈ L,i < n):WSt n L h g d r t xs:=by
 refine ⟨hm.rows,fun v hv i hi=>?_,hm.hts.to (Heap.toB_id fun id hb=>⟨fun hi=>?_,hb.2⟩),by have:=hm.dl;omega,by have:=hm.rl;omega,by have:=hm.tl;omega⟩
 ·simp only [List.mem_cons,List.not_mem_nil,or_false] at hv;rcases hv with rfl | rfl | rfl
  ·exact hm.rows.notOf (r:=(v,2,g.devs.map nmC)) (by simp) (.inl (hL i hi))
  ·exact hm.rows.notOf (r:=(v,2,g.ress.map nmC)) (by simp) (.inl (hL i hi))
  ·exact hm.rows.notOf (r:=(v,6,xs)) (by simp) (.inl (hL i hi))
 ·have h1:=hL id hi;have h2:=hb.1;omega
theorem WSt.made {n:Nat}{L:List Nat}{h:Heap}{g:Prg}{d r t:Value}{xs:List (lVq)}(hm:WSt n L h g d r t xs):Made 0 h g d r t xs:=by
 have hs:=hm.rows.sep;simp only [List.pairwise_cons] at hs;have s1:=(hs.1 (t,6,xs) (by simp)).1;have s2:=(hs.2.1 (t,6,xs) (by simp)).1;have hr:Rows 0 h [(d,2,g.devs.map nmC),(r,2,g.ress.map nmC),(t,6,xs)]:=⟨fun x hx=>(hm.rows.own x hx).weak (Nat.zero_le _),hm.rows.sep⟩;exact ⟨Ki hr (r:=(d,2,g.devs.map nmC)) (by simp) s1,Ki hr (r:=(r,2,g.ress.map nmC)) (by simp) s2,hr.own (t,6,xs) (by simp),hm.hts.to (Heap.toB_id fun id hb=>⟨Nat.zero_le _,fun v hv=>by rw [List.mem_singleton.1 hv];exact hb.2 t (by simp)⟩),hm.dl,hm.rl,hm.tl⟩
theorem WSt.isS {n:Nat}{L:List Nat}{h:Heap}{g:Prg}{d r t:Value}{xs:List (lVq)}(hm:WSt n L h g d r t xs):IsS d∧IsS r∧IsS t :=
 ⟨OwnS.isS (hm.rows.own (d,2,g.devs.map nmC) (by simp)),OwnS.isS (hm.rows.own (r,2,g.ress.map nmC) (by simp)),OwnS.isS (hm.rows.own (t,6,xs) (by simp))⟩
theorem WSt.dev {n:Nat}{L:List Nat}{h:Heap}{g:Prg}{d r t:Value}{xs:List (lVq)}(hm:WSt n L h g d r t xs) (hn:n≤h.next) (hL:∀ i ∈ L,(h.get i).isSome=true) (hb:g.devs.length≤1000) (m:Nm) :
  ∃ d' h',yq 2 24 (h.alloc (.blk (nmC m) true)) [d,.slice (some ⟨h.next,0,none⟩) 1 2]=some (d',h')∧WSt n L h' { g with devs:=g.devs++[m] } d' r t xs∧Heap.toB (Bx L [d,r,t]) (Bx L [d',r,t]) h h' ∧ (∀ i,i ∈ L∨i < n→(h.get i).isSome=true→h'.get i=h.get i)∧h.next≤h'.next:=by
 obtain ⟨d',h',e1,hR,k1,k2,nx⟩:=Rows.push (l1:=[]) hm.rows hn (x:=nmC m) rfl (by omega) (b:=24) (by simp;omega) (by simp;omega);have tb:Heap.toB (Bx L [d,r,t]) (Bx L [d',r,t]) h h':=fun id cs own hb hg=>by
  have hs:(h.get id).isSome=true:=by rw [hg];rfl
  refine ⟨⟨hb.1,fun v hv=>?_⟩,by rw [k1 id hs (hb.2 d (by simp))];exact hg⟩;rcases List.mem_cons.1 hv with rfl | hv
  ·exact k2 id hs
  ·exact hb.2 v (List.mem_cons_of_mem _ hv)
 refine ⟨d',h',e1,⟨by simpa using hR,fun v hv i hi=>?_,hm.hts.to tb,by simp;omega,hm.rl,hm.tl⟩,tb,fun i hi hs=>k1 i hs (hi.elim (fun hi=>hm.apart d (by simp) i hi) fun hi=>OwnS.notOf (hm.rows.own (d,2,g.devs.map nmC) (by simp)) hi),nx⟩;rcases List.mem_cons.1 hv with rfl | hv
 ·exact k2 i (hL i hi)
 ·exact hm.apart v (List.mem_cons_of_mem _ hv) i hi
theorem WSt.res {n:Nat}{L:List Nat}{h:Heap}{g:Prg}{d r t:Value}{xs:List (lVq)}(hm:WSt n L h g d r t xs) (hn:n≤h.next) (hL:∀ i ∈ L,(h.get i).isSome=true) (hb:g.ress.length≤1000) (m:Nm) :
  ∃ r' h',yq 2 24 (h.alloc (.blk (nmC m) true)) [r,.slice (some ⟨h.next,0,none⟩) 1 2]=some (r',h')∧WSt n L h' { g with ress:=g.ress++[m] } d r' t xs∧Heap.toB (Bx L [d,r,t]) (Bx L [d,r',t]) h h' ∧ (∀ i,i ∈ L∨i < n→(h.get i).isSome=true→h'.get i=h.get i)∧h.next≤h'.next:=by
 obtain ⟨r',h',e1,hR,k1,k2,nx⟩:=Rows.push (l1:=[(d,2,g.devs.map nmC)]) hm.rows hn (x:=nmC m) rfl (by omega) (b:=24) (by simp;omega) (by simp;omega);have tb:Heap.toB (Bx L [d,r,t]) (Bx L [d,r',t]) h h':=fun id cs own hb hg=>by
  have hs:(h.get id).isSome=true:=by rw [hg];rfl
  refine ⟨⟨hb.1,fun v hv=>?_⟩,by rw [k1 id hs (hb.2 r (by simp))];exact hg⟩;simp only [List.mem_cons,List.not_mem_nil,or_false] at hv;rcases hv with rfl | rfl | rfl
  ·exact hb.2 v (by simp)
  ·exact k2 id hs
  ·exact hb.2 v (by simp)
 refine ⟨r',h',e1,⟨by simpa using hR,fun v hv i hi=>?_,hm.hts.to tb,hm.dl,by simp;omega,hm.tl⟩,tb,fun i hi hs=>k1 i hs (hi.elim (fun hi=>hm.apart r (by simp) i hi) fun hi=>OwnS.notOf (hm.rows.own (r,2,g.ress.map nmC) (by simp)) hi),nx⟩;simp only [List.mem_cons,List.not_mem_nil,or_false] at hv;rcases hv with rfl | rfl | rfl
 ·exact hm.apart v (by simp) i hi
 ·exact k2 i (hL i hi)
 ·exact hm.apart v (by simp) i hi
theorem WSt.prc {n:Nat}{L:List Nat}{h:Heap}{g:Prg}{d r t:Value}{xs:List (lVq)}(hm:WSt n L h g d r t xs):PrC h g [iI g.harts,d,r,t]:=hm.made.prc
theorem WSt.put {n:Nat}{L:List Nat}{h:Heap}{g:Prg}{d r t:Value}{xs:List (lVq)}(hm:WSt n L h g d r t xs){k:Nat}{tk:Tsk}(hk:g.tasks[k]? = some tk) (tk' : Tsk){v:Value}(hv:StsVB (Bx L [d,r,t]) h v tk'.body) :
  ∃ id c xs',zp 6 [t,iI (k:Int)]=some ((pT id (k * 6)))∧zt 6 h [pT id (k * 6),tsV tk'.name tk'.handler tk'.hart tk'.prio tk'.line v]=some (udq,h.set id c)∧WSt n L (h.set id c) { g with tasks:=g.tasks.set k tk' } d r t xs' ∧ id ∉ L∧n≤id:=by
 obtain ⟨id,u,e1,e2,e3,e4,e5,e6⟩:=hm.made.at hk;obtain ⟨x,hx,_⟩:=hm.hts.get hk;have hlt:k < xs.length:=(List.getElem?_eq_some_iff.1 hx).1;obtain ⟨s1,s2⟩:=OwnS.put (u:=tsV tk'.name tk'.handler tk'.hart tk'.prio tk'.line v) e1 (hm.rows.own (t,6,xs) (by simp)) hlt (y:=[str tk'.name,.bool tk'.handler,iI tk'.hart,iI tk'.prio,iI tk'.line,v]) rfl (by simpa [Value.oneCell'] using hv.one) rfl;have hs:=hm.rows.sep;have hs':=hs;simp only [List.pairwise_cons] at hs';have p1:=(hs'.1 (t,6,xs) (by simp)).1;have p2:=(hs'.2.1 (t,6,xs) (by simp)).1;have hb:Heap.toB (Bx L [d,r,t]) (Bx L [d,r,t]) h (h.set id (.blk (xs.set k [str tk'.name,.bool tk'.handler,iI tk'.hart,iI tk'.prio,iI tk'.line,v]).flatten true)):=Heap.toB_set _ fun i hb=>⟨fun e=>by subst e;exact hb.2 t (by simp) _ _ e1,hb⟩;refine ⟨id,_,_,e4,s1,⟨⟨fun x hx=>?_,?_⟩,hm.apart,TsCsB.set (hm.hts.to hb) ⟨v,rfl,hv.to hb⟩,hm.dl,hm.rl,by rw [List.length_set];exact hm.tl⟩,fun hi=>hm.apart t (by simp) id hi _ _ e1,((hm.rows.own (t,6,xs) (by simp)).blk_lt id _ _ e1).1⟩
 ·simp only [List.mem_cons,List.not_mem_nil,or_false] at hx;rcases hx with rfl | rfl | rfl
  ·exact (hm.rows.own (d,2,g.devs.map nmC) (by simp)).get fun j hv hs=>Heap.set_getE _ _ _ _ (by simp;intro e;subst e;exact p1 _ _ _ hv _ _ e1)
  ·exact (hm.rows.own (r,2,g.ress.map nmC) (by simp)).get fun j hv hs=>Heap.set_getE _ _ _ _ (by simp;intro e;subst e;exact p2 _ _ _ hv _ _ e1)
  ·exact s2
 ·simpa [List.pairwise_cons] using hs
def oddN:List (lBq):=[[],[120],[114,97],[100],[116,97],[105,102],[49,97],[121],[114,98],[104,97]]
def oddV:lVq:=[s0q,.string ⟨#[120]⟩,.string ⟨#[114,97]⟩,.string ⟨#[100]⟩,.string ⟨#[116,97]⟩,.string ⟨#[105,102]⟩,.string ⟨#[49,97]⟩,.string ⟨#[121]⟩,.string ⟨#[114,98]⟩,.string ⟨#[104,97]⟩]
def yf6 (s:List Int):lBq:=oddN.getD (zh s 10).1 []
theorem oddV_get {k:Nat}(h:k < 10):oddV[k]? = some (str (oddN.getD k [])):=by
 have:k=0∨k=1∨k=2∨k=3∨k=4∨k=5∨k=6∨k=7∨k=8∨k=9:=by omega
 rcases this with rfl | rfl | rfl | rfl | rfl | rfl | rfl | rfl | rfl | rfl<;>rfl
theorem zz7 (s:List Int):(yf6 s).length≤1000000000:=by
 unfold yf6;generalize (zh s 10).1=k;by_cases h:k < 10
 ·have:k=0∨k=1∨k=2∨k=3∨k=4∨k=5∨k=6∨k=7∨k=8∨k=9:=by omega
  rcases this with rfl | rfl | rfl | rfl | rfl | rfl | rfl | rfl | rfl | rfl<;>decide
 ·rw [List.getD_eq_getElem?_getD,List.getElem?_eq_none (by show 10≤k;omega)];simp
theorem yp0 {h:Heap}{p:Nat}{raw:List Int}(hs:Src h p raw) (Q:vPq)
  (hq:∀ h',h.leBut p h' → Src h' p (zh raw 10).2→Q (str (yf6 raw)) h'):CallW Tryz.prog 26 [pT p 0] h Q:=by
 have hpl:=hs.lt;obtain ⟨q,h1,eq,eh1,gq,lh1⟩:=zj h oddV;have hs1:=hs.le lh1;have hqp:p≠q:=by omega
 have bs:yj [s0q,s0q,s0q,s0q,s0q,s0q,s0q,s0q,s0q,s0q] [(0,1),(1,1),(2,1),(3,1),(4,1),(5,1),(6,1),(7,1),(8,1),(9,1)] 10 1 [s0q,.string ⟨#[120]⟩,.string ⟨#[114,97]⟩,.string ⟨#[100]⟩,.string ⟨#[116,97]⟩,.string ⟨#[105,102]⟩,.string ⟨#[49,97]⟩,.string ⟨#[121]⟩,.string ⟨#[114,98]⟩,.string ⟨#[104,97]⟩]=some (oddV,fun id=>.slice (some ⟨id,0,none⟩) 10 1):=rfl;clear hs;replace hs1:=za hs1;replace lh1:=za lh1;refine zg (k:=1) ok26 rfl rfl rfl fun N=>?_;rw [Yo c26 kv rfl];delta c26;replace hq:=za hq;simp only [zb, *];refine yc (n:=10) hs1.h (by omega) (by omega) _ fun h2 l2 _ hs2=>?_;have hlt:=ya hs1.h.in (n:=10) (by omega);have ix:=idx1 (id:=q) (n:=10) hlt;have bg:=oddV_get hlt;have gq2:=l2.keep (i:=q) (by omega) gq;have g:=hq.h h2 (Heap.leBut.of_le lh1.h l2) hs2;unfold yf6 at g;clear l2 hs2;replace g:=za g;replace hlt:=za hlt;simp only [zb,aR, *];exact g.h
noncomputable def yj9:CCode:=(.seq (.reg V1 []) (.seq (.reg V0 []) .ret))
theorem wld_end {h0 h:Heap}{n q1 q6 q8:Nat}{L:List Nat}{g:Prg}{d r t:Value}{xs:List (lVq)}{k:Nat}{tk:Tsk}{tb:Value}
  (h0l:h0.le h) (ho:h0.next≤n∧h0.next≤q1) (m1:q1 ∈ L) (m6:q6 ∈ L) (hne:q1 < q6)
  (g1:h.get q1=some (.blk zP true)) (g6:h.get q6=some (.blk [iI g.harts,d,r,t] true)) (g8:h.get q8=some (.blk [str tk.name,.bool tk.handler,iI tk.hart,iI tk.prio,iI tk.line,tb] true))
  (hm:WSt n L h g d r t xs) (hk:k < g.tasks.length) (hb:StsVB (Bx L [d,r,t]) h tb tk.body)
  (ok:g.ok) (sz:∀ t ∈ g.tasks,ye t.body≤100000) (szt:ye tk.body≤100000)
  {N:Nat}{vars:List Nat}{x0 x2 x3 x4 x5 x9 x10 x11 x12:Value}(Q:vPq) (hq:∀ h' g' y,h0.le h' → PrC h' g' y→g'.ok→(∀ t ∈ g'.tasks,ye t.body≤100000)→Q (.agg y.toArray) h') :
  W Tryz.prog N vars yj9 (retc 1 true 4 Q) [x0,pT q1 0,x2,x3,x4,x5,pT q6 0,iI (k:Int),pT q8 0,x9,x10,x11,x12] h:=by
 obtain ⟨old,hold⟩:∃ o,g.tasks[k]? = some o:=⟨_,List.getElem?_eq_getElem hk⟩;obtain ⟨id,c,xs',e4,st,hm2,hid,hidn⟩:=hm.put hold tk hb;have st' : zt 6 h [pT id (k * 6),tsV tk.name tk.handler tk.hart tk.prio tk.line tb]=some (udq,h.set id c):=st;have l2:=h0l.set' (p:=id) (by omega) c;obtain ⟨h2,eh2⟩:∃ x,h.set id c=x:=⟨_,rfl⟩;have g62:h2.get q6=some (.blk [iI g.harts,d,r,t] true):=by rw [← eh2];exact (Heap.set_getE _ _ _ _ (by simp;intro e;exact hid (e ▸ m6))).trans g6
 have g12:h2.get q1=some (.blk zP true):=by rw [← eh2];exact (Heap.set_getE _ _ _ _ (by simp;intro e;exact hid (e ▸ m1))).trans g1
 rw [eh2] at st st' hm2 l2;obtain ⟨o1,o2,o3⟩:=hm.isS;have stq:zt 4 h2 [pT q1 0,.agg #[iI g.harts,d,r,t]]=some (udq,h2.set q1 (.blk [iI g.harts,d,r,t] true)):=yz g12 rfl rfl rfl (by simpa [Value.oneCell'] using ⟨o1.cell.2,o2.cell.2,o3.cell.2⟩);have gqZ:(h2.set q1 (.blk [iI g.harts,d,r,t] true)).get q1=_:=Heap.set_getS _ _ _ (by rw [g12];rfl);have hmZ:=hm2.set m1 (.blk [iI g.harts,d,r,t] true);have lZ:=l2.set' ho.2 (.blk [iI g.harts,d,r,t] true);obtain ⟨hZ,ehZ⟩:∃ x,h2.set q1 (.blk [iI g.harts,d,r,t] true)=x:=⟨_,rfl⟩;rw [ehZ] at stq gqZ hmZ lZ;have g':=hq hZ _ _ lZ hmZ.prc ⟨ok.devs,ok.ress⟩ (fun u hu=>by
  rcases List.mem_or_eq_of_mem_set hu with hu | rfl
  ·exact sz u hu
  ·exact szt)
 have hgt:=zl6;clear hq hmZ lZ l2 hm2 ok sz szt hm hb hold st h0l ho eh2 ehZ o1 o2 o3 g1 m1 m6;replace g':=za g';replace hid:=za hid;replace hk:=za hk;replace hne:=za hne;replace hidn:=za hidn;replace hgt:=za hgt;delta yj9 V1 V0;simp only [zb,aR,aW,yb,zl6, *];exact g'.h
noncomputable def Ys:CCode:=(.seq (.rcond Y7 [] 0 (.reg Y6 []) .skip) yj9)
theorem wld_rest {h0 h:Heap}{n q1 q6 q8 q9:Nat}{L:List Nat}{g:Prg}{d r t:Value}{xs:List (lVq)}{k kind:Nat}{tk:Tsk}{tb:Value}{s:St}{x:lVq}
  (h0l:h0.le h) (ho:h0.next≤n∧h0.next≤q1) (hL:∀ i ∈ L,(h.get i).isSome=true) (m1:q1 ∈ L) (m6:q6 ∈ L) (m8:q8 ∈ L) (m9:q9 ∈ L) (hne:q1 < q6∧q6 < q8∧q8 < q9)
  (g1:h.get q1=some (.blk zP true)) (g6:h.get q6=some (.blk [iI g.harts,d,r,t] true)) (g8:h.get q8=some (.blk [str tk.name,.bool tk.handler,iI tk.hart,iI tk.prio,iI tk.line,tb] true)) (g9:h.get q9=some (.blk x true))
  (hm:WSt n L h g d r t xs) (hk:k < g.tasks.length) (hb:StsVB (Bx L [d,r,t]) h tb tk.body) (hbl:tk.body.length≤1000) (hx:StCB (Bx L [d,r,t]) h s x)
  (ok:g.ok) (sz:∀ t ∈ g.tasks,ye t.body≤50000) (szt:ye tk.body≤50000) (szs:Kr s≤50000)
  {N:Nat}{vars:List Nat}{x0 x2 x4 x5 x10 x11 x12:Value}(Q:vPq) (hq:∀ h' g' y,h0.le h' → PrC h' g' y→g'.ok→(∀ t ∈ g'.tasks,ye t.body≤100000)→Q (.agg y.toArray) h') :
  W Tryz.prog N vars Ys (retc 1 true 4 Q) [x0,pT q1 0,x2,iI (kind:Int),x4,x5,pT q6 0,iI (k:Int),pT q8 0,pT q9 0,x10,x11,x12] h:=by
 have fin:=fun {vars:List Nat}{h:Heap}{tk:Tsk}{tb x9:Value}(h0l:h0.le h) g1 g6 g8 (hm:WSt n L h g d r t xs) hb szt=>@wld_end h0 h n q1 q6 q8 L g d r t xs k tk tb h0l ho m1 m6 hne.1 g1 g6 g8 hm hk hb ok (fun t ht=>Nat.le_trans (sz t ht) (by omega)) szt N vars x0 x2 (iI (kind:Int)) x4 x5 x9 x10 x11 x12 Q hq;clear hq ok sz;by_cases hc:4 < kind∧kind < 9
 ·have c1:(4:Int) < (kind:Int):=by omega
  have c2:(kind:Int) < 9:=by omega
  obtain ⟨va,ha,ap1,la,hmore⟩:=more_row hb hbl fun i hi=>⟨fun h=>by
   obtain ⟨o,ho⟩:=Option.isSome_iff_exists.1 (hL i h);have:=Heap.lt_of_get ho;omega,fun w hw=>by
   simp only [List.mem_cons,List.not_mem_nil,or_false] at hw;rcases hw with rfl | rfl | rfl
   ·exact OwnS.notOf_new (hm.rows.own (w,2,g.devs.map nmC) (by simp)) hi
   ·exact OwnS.notOf_new (hm.rows.own (w,2,g.ress.map nmC) (by simp)) hi
   ·exact OwnS.notOf_new (hm.rows.own (w,6,xs) (by simp)) hi⟩
  obtain ⟨vb,hb',ap2,lb,hvb⟩:=hmore hx;obtain ⟨wa,wu,ww,rfl,t1,t2,t3⟩:=hx.cells;have bs:=zq3 hx.ones;have g9a:=la.get g9;have g8a:=la.get g8;have g8b:=lb.get g8;have ob:=StsVB.isS hvb;obtain ⟨ca1,ca2⟩:=IsS.cell ob;have st5:=z6 (off:=5) g8b (by simp) ca1 ca2;simp only [List.set_cons_zero,List.set_cons_succ] at st5;obtain ⟨hc',ehc⟩:∃ x_,hb'.set q8 (.blk [str tk.name,.bool tk.handler,iI tk.hart,iI tk.prio,iI tk.line,vb] true)=x_:=⟨_,rfl⟩;have hq8:h0.next≤q8:=by omega
  have lc:h0.le hc':=by rw [← ehc];exact (h0l.trans lb).set' hq8 _
  have g8c:hc'.get q8=some (.blk [str tk.name,.bool tk.handler,iI tk.hart,iI tk.prio,iI tk.line,vb] true):=by rw [← ehc];exact Heap.set_getS _ _ _ (by rw [g8b];rfl)
  have g1c:hc'.get q1=some (.blk zP true):=by rw [← ehc];exact (Heap.set_getE _ _ _ _ (by simp;omega)).trans (lb.get g1)
  have g6c:hc'.get q6=some (.blk [iI g.harts,d,r,t] true):=by rw [← ehc];exact (Heap.set_getE _ _ _ _ (by simp;omega)).trans (lb.get g6)
  have hmc:WSt n L hc' g d r t xs:=by rw [← ehc];exact (hm.le lb).set m8 _
  have hvc:StsVB (Bx L [d,r,t]) hc' vb (tk.body++[s]):=hvb.to (by rw [← ehc];exact Heap.toB_set _ fun i hb=>⟨fun e=>hb.1 (e ▸ m8),hb⟩);have szc:ye (tk.body++[s])≤100000:=by
   have:∀ l:List St,ye (l++[s])=ye l + Kr s:=fun l=>by
    induction l with
    | nil=>simp [ye]
    | cons a r ih=>simp only [List.cons_append,ye,ih];omega
   rw [this];omega
  rw [ehc] at st5;have g:=fun (vars:List Nat) (x9:Value)=>@fin vars hc' { tk with body:=tk.body++[s] } vb x9 lc g1c g6c g8c hmc hvc szc;clear fin hmore hvb hmc hvc szc szt szs hx hb hm h0l hL lc g1 g6 t1 t2 t3 ob ca1 ca2 hq8 ehc g1c g6c g8c lb g9 hk m1 m6 m8 m9 ho;replace g:=za g;replace la:=za la;replace hne:=za hne;replace hbl:=za hbl;replace hc:=za hc;delta Ys Y7 Y6;simp only [zb,aR,aW,ze,zf, *];refine zb9 la.h.ext ?_;simp only [zb,aR,aW,qv, *];exact g.h _ _
 ·have g:=fun (vars:List Nat) (x9:Value)=>@fin vars h tk tb x9 h0l g1 g6 g8 hm hb (by omega);clear fin hx hb hm h0l hL g1 g6 g8 g9 szt szs hbl hk m1 m6 m8 m9 ho;replace g:=za g;replace hne:=za hne;by_cases c1:(4:Int) < (kind:Int)
  ·have c2:¬ (kind:Int) < 9:=by omega
   clear hc;delta Ys Y7 Y6;simp only [zb,ze,zf, *];exact g.h _ _
  ·clear hc;delta Ys Y7 Y6;simp only [zb,ze,zf, *];exact g.h _ _
structure WQ (h0:Heap) (n q1 p q5 q6 q8 q9:Nat):Prop where
 a:h0.next≤n
 b:h0.next≤q1
 c:q1 < p
 d:p < q5
 e:q5 < n
 f:n≤q6
 g:q6 < q8
 i:q8 < q9
abbrev LL (q1 p q5 q6 q8 q9:Nat):List Nat:=[q9,q8,q6,q5,p,q1]
structure WB (h0:Heap) (n q1 p q5 q6 q8 q9:Nat) (h:Heap) (raw:List Int) (g:Prg) (d r t:Value) (xs:List (lVq)) (tk:Tsk) (tb:Value):Prop where
 l0:h0.le h
 src:Src h p raw
 g1:h.get q1=some (.blk zP true)
 g5:h.get q5=some (.blk [zq,zq,iI 0,zq,.bool true] true)
 g6:h.get q6=some (.blk [iI g.harts,d,r,t] true)
 g8:h.get q8=some (.blk [str tk.name,.bool tk.handler,iI tk.hart,iI tk.prio,iI tk.line,tb] true)
 g9:(h.get q9).isSome=true
 hm:WSt n (LL q1 p q5 q6 q8 q9) h g d r t xs
 hb:StsVB (Bx (LL q1 p q5 q6 q8 q9) [d,r,t]) h tb tk.body
section
variable {h0 h h' : Heap}{n q1 p q5 q6 q8 q9:Nat}{raw raw' : List Int}{g:Prg}{d r t:Value}{xs:List (lVq)}{tk:Tsk}{tb:Value}
theorem Src.some' (hs:Src h p raw):(h.get p).isSome=true:=by obtain ⟨v,hg,_⟩:=hs;rw [hg];rfl
theorem WB.hL (w:WB h0 n q1 p q5 q6 q8 q9 h raw g d r t xs tk tb):∀ i ∈ LL q1 p q5 q6 q8 q9,(h.get i).isSome=true:=fun i hi=>by
 simp only [List.mem_cons,List.not_mem_nil,or_false] at hi;rcases hi with rfl | rfl | rfl | rfl | rfl | rfl
 ·exact w.g9
 ·rw [w.g8];rfl
 ·rw [w.g6];rfl
 ·rw [w.g5];rfl
 ·exact w.src.some'
 ·rw [w.g1];rfl
theorem WB.but (q:WQ h0 n q1 p q5 q6 q8 q9) (w:WB h0 n q1 p q5 q6 q8 q9 h raw g d r t xs tk tb) (hl:h.leBut p h') (hs:Src h' p raw'):WB h0 n q1 p q5 q6 q8 q9 h' raw' g d r t xs tk tb:=by
 obtain ⟨qa,qb,qc,qd,qe,qf,qg,qi⟩:=q;exact ⟨w.l0.but' (by omega) hl,hs,hl.keep (by omega) w.g1,hl.keep (by omega) w.g5,hl.keep (by omega) w.g6,hl.keep (by omega) w.g8,by rw [hl.get q9 (by omega) w.g9];exact w.g9,w.hm.but (by simp) hl,w.hb.to (hl.toB fun id hb=>⟨fun e=>hb.1 (by simp [e]),hb⟩)⟩
theorem WB.le (w:WB h0 n q1 p q5 q6 q8 q9 h raw g d r t xs tk tb) (hl:h.le h'):WB h0 n q1 p q5 q6 q8 q9 h' raw g d r t xs tk tb :=
 ⟨w.l0.trans hl,w.src.le hl,hl.get w.g1,hl.get w.g5,hl.get w.g6,hl.get w.g8,by rw [hl.getE q9 w.g9];exact w.g9,w.hm.le hl,w.hb.to (hl.toB fun id hb=>hb)⟩
theorem toL {i:Nat}(hi:i ∈ LL q1 p q5 q6 q8 q9){vs:lVq}(o:AObj):Heap.toB (Bx (LL q1 p q5 q6 q8 q9) vs) (Bx (LL q1 p q5 q6 q8 q9) vs) h (h.set i o):=Heap.toB_set _ fun j hb=>⟨fun e=>hb.1 (e ▸ hi),hb⟩
theorem WB.set9 (q:WQ h0 n q1 p q5 q6 q8 q9) (w:WB h0 n q1 p q5 q6 q8 q9 h raw g d r t xs tk tb) (c:lVq):WB h0 n q1 p q5 q6 q8 q9 (h.set q9 (.blk c true)) raw g d r t xs tk tb∧(h.set q9 (.blk c true)).get q9=some (.blk c true):=by
 obtain ⟨qa,qb,qc,qd,qe,qf,qg,qi⟩:=q;have hg:(h.set q9 (.blk c true)).get q9=some (.blk c true):=Heap.set_getS _ _ _ w.g9;exact ⟨⟨w.l0.set' (by omega) _,w.src.set (by omega) _,(Heap.set_getE _ _ _ _ (by simp;omega)).trans w.g1,(Heap.set_getE _ _ _ _ (by simp;omega)).trans w.g5,(Heap.set_getE _ _ _ _ (by simp;omega)).trans w.g6,(Heap.set_getE _ _ _ _ (by simp;omega)).trans w.g8,by rw [hg];rfl,w.hm.set (by simp) _,w.hb.to (toL (by simp) _)⟩,hg⟩
theorem WB.set8 (q:WQ h0 n q1 p q5 q6 q8 q9) (w:WB h0 n q1 p q5 q6 q8 q9 h raw g d r t xs tk tb) (tk' : Tsk) (hb:tk'.body=tk.body):WB h0 n q1 p q5 q6 q8 q9 (h.set q8 (.blk [str tk'.name,.bool tk'.handler,iI tk'.hart,iI tk'.prio,iI tk'.line,tb] true)) raw g d r t xs tk' tb:=by
 obtain ⟨qa,qb,qc,qd,qe,qf,qg,qi⟩:=q;exact ⟨w.l0.set' (by omega) _,w.src.set (by omega) _,(Heap.set_getE _ _ _ _ (by simp;omega)).trans w.g1,(Heap.set_getE _ _ _ _ (by simp;omega)).trans w.g5,(Heap.set_getE _ _ _ _ (by simp;omega)).trans w.g6,Heap.set_getS _ _ _ (by rw [w.g8];rfl),by rw [Heap.set_getE _ _ _ _ (by simp;omega)];exact w.g9,w.hm.set (by simp) _,by rw [hb];exact w.hb.to (toL (by simp) _)⟩
theorem WB.set6 (q:WQ h0 n q1 p q5 q6 q8 q9) (w:WB h0 n q1 p q5 q6 q8 q9 h raw g d r t xs tk tb) (z:Int):WB h0 n q1 p q5 q6 q8 q9 (h.set q6 (.blk [iI z,d,r,t] true)) raw { g with harts:=z } d r t xs tk tb:=by
 obtain ⟨qa,qb,qc,qd,qe,qf,qg,qi⟩:=q;have hm:=w.hm.set (p:=q6) (by simp) (.blk [iI z,d,r,t] true);exact ⟨w.l0.set' (by omega) _,w.src.set (by omega) _,(Heap.set_getE _ _ _ _ (by simp;omega)).trans w.g1,(Heap.set_getE _ _ _ _ (by simp;omega)).trans w.g5,Heap.set_getS _ _ _ (by rw [w.g6];rfl),(Heap.set_getE _ _ _ _ (by simp;omega)).trans w.g8,by rw [Heap.set_getE _ _ _ _ (by simp;omega)];exact w.g9,⟨hm.rows,hm.apart,hm.hts,hm.dl,hm.rl,hm.tl⟩,w.hb.to (toL (by simp) _)⟩
end
structure WZ (g:Prg) (k:Nat) (tk:Tsk) (s:St):Prop where
 hk:k < g.tasks.length
 hbl:tk.body.length≤1000
 ok:g.ok
 sz:∀ t ∈ g.tasks,ye t.body≤50000
 szt:ye tk.body≤50000
 szs:Kr s≤40000
theorem Y9 {h0 h:Heap}{n q1 p q5 q6 q8 q9:Nat}{raw:List Int}{g:Prg}{d r t:Value}{xs:List (lVq)}{k kind:Nat}{tk:Tsk}{tb:Value}{s:St}{x:lVq}
  (q:WQ h0 n q1 p q5 q6 q8 q9) (w:WB h0 n q1 p q5 q6 q8 q9 h raw g d r t xs tk tb) (g9:h.get q9=some (.blk x true)) (hx:StCB (Bx (LL q1 p q5 q6 q8 q9) [d,r,t]) h s x) (z:WZ g k tk s)
  {N:Nat}{vars:List Nat}{x0 x2 x4 x5 x10 x11 x12:Value}(Q:vPq) (hq:∀ h' g' y,h0.le h' → PrC h' g' y→g'.ok→(∀ t ∈ g'.tasks,ye t.body≤100000)→Q (.agg y.toArray) h') :
  W Tryz.prog N vars Ys (retc 1 true 4 Q) [x0,pT q1 0,x2,iI (kind:Int),x4,x5,pT q6 0,iI (k:Int),pT q8 0,pT q9 0,x10,x11,x12] h :=
 wld_rest w.l0 ⟨q.a,q.b⟩ w.hL (by simp) (by simp) (by simp) (by simp) ⟨by have:=q.c;have:=q.d;have:=q.e;have:=q.f;omega,q.g,q.i⟩ w.g1 w.g6 w.g8 g9 w.hm z.hk w.hb z.hbl hx z.ok z.sz z.szt (Nat.le_trans z.szs (by omega)) Q hq
noncomputable def J3:CCode:=(.seq (.seq (.reg wj [(12,0)]) (.block 2 (.rcond wi [] 0 (.reg wh []) (.rcond wg [] 0 (.seq (.reg we []) (.reg wc [])) (.rcond xz [] 0 (.seq (.reg xy []) (.reg xt [])) (.rcond xq [] 0 (.reg xo []) (.rcond xm [] 0 (.reg xl []) (.rcond xj [] 0 (.reg xi []) (.rcond xh [] 0 (.seq (.reg xf [(11,0)]) (.block 3 (.loop zw8))) (.rcond xe [] 0 (.reg xd []) .skip)))))))))) Ys)
def Ua (kind:Nat):Prop:=∀ {h0 h:Heap}{n q1 p q5 q6 q8 q9:Nat}{raw:List Int}{g:Prg}{d r t:Value}{xs:List (lVq)}{k:Nat}{tk:Tsk}{tb:Value}{s:St}{x:lVq}
  (q:WQ h0 n q1 p q5 q6 q8 q9) (w:WB h0 n q1 p q5 q6 q8 q9 h raw g d r t xs tk tb) (g9:h.get q9=some (.blk x true)) (hx:StCB (Bx (LL q1 p q5 q6 q8 q9) [d,r,t]) h s x) (z:WZ g k tk s) (szs:Kr s≤10000) (bd:g.devs.length≤1000) (br:g.ress.length≤1000)
  {N:Nat}{vars:List Nat}{x0 x4 x10 x11 x12:Value}(Q:vPq) (hq:∀ h' g' y,h0.le h' → PrC h' g' y→g'.ok→(∀ t ∈ g'.tasks,ye t.body≤100000)→Q (.agg y.toArray) h'),
  W Tryz.prog N vars J3 (retc 1 true 4 Q) [x0,pT q1 0,pT p 0,iI (kind:Int),x4,pT q5 0,pT q6 0,iI (k:Int),pT q8 0,pT q9 0,x10,x11,x12] h
theorem wld_8:Ua 8:=by
 intro h0 h n q1 p q5 q6 q8 q9 raw g d r t xs k tk tb s x q w g9 hx z szs bd br N vars x0 x4 x10 x11 x12 Q hq;have zk:((8:Nat):Int)=8:=rfl;have fin:=fun vars x2 x5 x12=>Y9 (kind:=8) q w g9 hx z (N:=N) (vars:=vars) (x0:=x0) (x2:=x2) (x4:=x4) (x5:=x5) (x10:=x10) (x11:=x11) (x12:=x12) Q hq;clear hq w q hx z bd br;rw [zk] at fin;replace fin:=za fin;delta J3 wj wi wh wg we wc xz xy xt xq xo xm xl xj xi xh xf xe xd;simp only [zb,ze,zf,Int.reduceBEq, *];exact fin.h _ _ _ _
theorem wld_9:Ua 9:=by
 intro h0 h n q1 p q5 q6 q8 q9 raw g d r t xs k tk tb s x q w g9 hx z szs bd br N vars x0 x4 x10 x11 x12 Q hq;have zk:((9:Nat):Int)=9:=rfl;have fin:=fun vars x2 x5 x12=>Y9 (kind:=9) q w g9 hx z (N:=N) (vars:=vars) (x0:=x0) (x2:=x2) (x4:=x4) (x5:=x5) (x10:=x10) (x11:=x11) (x12:=x12) Q hq;clear hq w q hx z bd br;rw [zk] at fin;replace fin:=za fin;delta J3 wj wi wh wg we wc xz xy xt xq xo xm xl xj xi xh xf xe xd;simp only [zb,ze,zf,Int.reduceBEq, *];exact fin.h _ _ _ _
theorem wld_0:Ua 0:=by
 intro h0 h n q1 p q5 q6 q8 q9 raw g d r t xs k tk tb s x q w g9 hx z szs bd br N vars x0 x4 x10 x11 x12 Q hq;have zk:((0:Nat):Int)=0:=rfl;have src:=w.src;have fin:=fun h' (hl:h.leBut p h') (hs:Src h' p (zh raw 7).2) (v:Int) vars x2 x5 x12=>Y9 (kind:=0) (g:={ g with harts:=v }) (s:=s) q ((w.but q hl hs).set6 q v) ((Heap.set_getE _ _ _ _ (by have:=q.g;have:=q.i;simp;omega)).trans (hl.keep (by have:=q.d;have:=q.e;have:=q.f;have:=q.g;have:=q.i;omega) g9)) ((hx.to (hl.toB fun id hb=>⟨fun e=>hb.1 (by simp [e]),hb⟩)).to (toL (by simp) _)) ⟨z.hk,z.hbl,⟨z.ok.devs,z.ok.ress⟩,z.sz,z.szt,z.szs⟩ (N:=N) (vars:=vars) (x0:=x0) (x2:=x2) (x4:=x4) (x5:=x5) (x10:=x10) (x11:=x11) (x12:=x12) Q hq;have g6:=fun h' (hl:h.leBut p h')=>hl.keep (i:=q6) (by have:=q.d;have:=q.e;have:=q.f;omega) w.g6;clear hq w q hx z bd br g9;rw [zk] at fin ⊢;replace fin:=za fin;replace g6:=za g6;replace src:=za src;delta J3 wj wi wh wg we wc xz xy xt xq xo xm xl xj xi xh xf xe xd;simp only [zb,ze,zf, *];refine yc (n:=7) src.h (by omega) (by omega) _ fun h2 l2 _ hs2=>?_;have f6:=g6.h h2 l2;have st:=fun v=>z6 (v:=iI v) (off:=0) f6 (by simp) rfl rfl;simp only [List.set_cons_zero] at st;have f:=fin.h h2 l2 hs2;clear fin g6 l2 hs2;replace f:=za f;simp only [zb,aW,ze,zf, *];exact f.h _ _ _ _ _
structure WA (h0:Heap) (n q1 p q5 q6 q8 q9:Nat) (h:Heap) (raw:List Int) (g:Prg) (d r t:Value) (xs:List (lVq)) (tk:Tsk) (tb:Value) (s:St) (x:lVq):Prop where
 w:WB h0 n q1 p q5 q6 q8 q9 h raw g d r t xs tk tb
 g9:h.get q9=some (.blk x true)
 hx:StCB (Bx (LL q1 p q5 q6 q8 q9) [d,r,t]) h s x
section
variable {h0 h h' : Heap}{n q1 p q5 q6 q8 q9:Nat}{raw raw' : List Int}{g:Prg}{d r t:Value}{xs:List (lVq)}{tk:Tsk}{tb:Value}{s:St}{x:lVq}
theorem WA.but (q:WQ h0 n q1 p q5 q6 q8 q9) (a:WA h0 n q1 p q5 q6 q8 q9 h raw g d r t xs tk tb s x) (hl:h.leBut p h') (hs:Src h' p raw'):WA h0 n q1 p q5 q6 q8 q9 h' raw' g d r t xs tk tb s x :=
 ⟨a.w.but q hl hs,hl.keep (by have:=q.d;have:=q.e;have:=q.f;have:=q.g;have:=q.i;omega) a.g9,a.hx.to (hl.toB fun id hb=>⟨fun e=>hb.1 (by simp [e]),hb⟩)⟩
theorem WA.le (a:WA h0 n q1 p q5 q6 q8 q9 h raw g d r t xs tk tb s x) (hl:h.le h'):WA h0 n q1 p q5 q6 q8 q9 h' raw g d r t xs tk tb s x :=
 ⟨a.w.le hl,hl.get a.g9,a.hx.to (hl.toB fun id hb=>hb)⟩
theorem WA.set8 (q:WQ h0 n q1 p q5 q6 q8 q9) (a:WA h0 n q1 p q5 q6 q8 q9 h raw g d r t xs tk tb s x) (tk' : Tsk) (hb:tk'.body=tk.body):WA h0 n q1 p q5 q6 q8 q9 (h.set q8 (.blk [str tk'.name,.bool tk'.handler,iI tk'.hart,iI tk'.prio,iI tk'.line,tb] true)) raw g d r t xs tk' tb s x :=
 ⟨a.w.set8 q tk' hb,(Heap.set_getE _ _ _ _ (by have:=q.i;simp;omega)).trans a.g9,a.hx.to (toL (by simp) _)⟩
theorem WA.fin (q:WQ h0 n q1 p q5 q6 q8 q9) (a:WA h0 n q1 p q5 q6 q8 q9 h raw g d r t xs tk tb s x){k:Nat}(z:WZ g k tk s){kind:Nat}
  {N:Nat}{vars:List Nat}{x0 x2 x4 x5 x10 x11 x12:Value}(Q:vPq) (hq:∀ h' g' y,h0.le h' → PrC h' g' y→g'.ok→(∀ t ∈ g'.tasks,ye t.body≤100000)→Q (.agg y.toArray) h') :
  W Tryz.prog N vars Ys (retc 1 true 4 Q) [x0,pT q1 0,x2,iI (kind:Int),x4,x5,pT q6 0,iI (k:Int),pT q8 0,pT q9 0,x10,x11,x12] h :=
 Y9 q a.w a.g9 a.hx z Q hq
theorem WB.fresh (w:WB h0 n q1 p q5 q6 q8 q9 h raw g d r t xs tk tb):∀ id,h.next≤id→Bx (LL q1 p q5 q6 q8 q9) [d,r,t] id:=fun i hi=>⟨fun hm=>by
  obtain ⟨o,ho⟩:=Option.isSome_iff_exists.1 (w.hL i hm);have:=Heap.lt_of_get ho;omega,fun v hv=>by
  simp only [List.mem_cons,List.not_mem_nil,or_false] at hv;rcases hv with rfl | rfl | rfl
  ·exact OwnS.notOf_new (w.hm.rows.own (v,2,g.devs.map nmC) (by simp)) hi
  ·exact OwnS.notOf_new (w.hm.rows.own (v,2,g.ress.map nmC) (by simp)) hi
  ·exact OwnS.notOf_new (w.hm.rows.own (v,6,xs) (by simp)) hi⟩
end
theorem wld_1:Ua 1:=by
 intro h0 h n q1 p q5 q6 q8 q9 raw g d r t xs k tk tb s x q w g9 hx z szs bd br N vars x0 x4 x10 x11 x12 Q hq;have zk:((1:Nat):Int)=1:=rfl;have a:WA h0 n q1 p q5 q6 q8 q9 h raw g d r t xs tk tb s x:=⟨w,g9,hx⟩;have src:=w.src;clear w g9 hx bd br szs;rw [zk];replace hq:=Hid.mk hq;replace a:=za a;replace q:=za q;replace z:=za z;replace src:=za src;delta J3 wj wi wh wg we wc xz xy xt xq xo xm xl xj xi xh xf xe xd;simp only [zb,ze,zf,Int.reduceBEq, *];refine yp0 src.h _ fun h2 l2 hs2=>?_;have a2:=a.h.but q.h l2 hs2;have st:=z6 (v:=str (yf6 raw)) (off:=0) a2.w.g8 (by simp) rfl rfl;simp only [List.set_cons_zero] at st;have a3:=a2.set8 q.h { tk with name:=yf6 raw } rfl;obtain ⟨h3,eh3⟩:∃ x,h2.set q8 (.blk [str (yf6 raw),.bool tk.handler,iI tk.hart,iI tk.prio,iI tk.line,tb] true)=x:=⟨_,rfl⟩;have a3:WA h0 n q1 p q5 q6 q8 q9 h3 _ g d r t xs { tk with name:=yf6 raw } tb s x:=eh3 ▸ a3;rw [eh3] at st;clear a a2 l2 hs2 src eh3;replace a3:=za a3;simp only [zb,aW, *];refine yc (n:=10) a3.h.w.src (by omega) (by omega) _ fun h4 l4 _ hs4=>?_;have a4:=a3.h.but q.h l4 hs4;have st2:=fun v=>z6 (v:=iI v) (off:=4) a4.w.g8 (by simp) rfl rfl;simp only [List.set_cons_zero,List.set_cons_succ] at st2;have f:=fun (v:Int) vars x2 x5 x12=>(a4.set8 q.h { tk with name:=yf6 raw,line:=v } rfl).fin q.h ⟨z.h.hk,z.h.hbl,z.h.ok,z.h.sz,z.h.szt,z.h.szs⟩ (kind:=1) (N:=N) (vars:=vars) (x0:=x0) (x2:=x2) (x4:=x4) (x5:=x5) (x10:=x10) (x11:=x11) (x12:=x12) Q hq.h;rw [zk] at f;clear a3 a4 l4 hs4 hq z q;replace f:=za f;simp only [zb,aW,ze,zf, *];exact f.h _ _ _ _ _
theorem wld_2:Ua 2:=by
 intro h0 h n q1 p q5 q6 q8 q9 raw g d r t xs k tk tb s x q w g9 hx z szs bd br N vars x0 x4 x10 x11 x12 Q hq;have zk:((2:Nat):Int)=2:=rfl;have a:WA h0 n q1 p q5 q6 q8 q9 h raw g d r t xs tk tb s x:=⟨w,g9,hx⟩;have src:=w.src;clear w g9 hx bd br szs;rw [zk];replace hq:=Hid.mk hq;replace a:=za a;replace q:=za q;replace z:=za z;replace src:=za src;delta J3 wj wi wh wg we wc xz xy xt xq xo xm xl xj xi xh xf xe xd;simp only [zb,ze,zf,Int.reduceBEq, *];refine yc (n:=6) src.h (by omega) (by omega) _ fun h2 l2 _ hs2=>?_;obtain ⟨hv,ehv⟩:∃ v,IntKind.i64.wrap (((zh raw 6).1:Int) - 1)=v:=⟨_,rfl⟩;have a2:=a.h.but q.h l2 hs2;have st:=z6 (v:=iI hv) (off:=2) a2.w.g8 (by simp) rfl rfl;simp only [List.set_cons_zero,List.set_cons_succ] at st;have a3:=a2.set8 q.h { tk with hart:=hv } rfl;obtain ⟨h3,eh3⟩:∃ x,h2.set q8 (.blk [str tk.name,.bool tk.handler,iI hv,iI tk.prio,iI tk.line,tb] true)=x:=⟨_,rfl⟩;have a3:WA h0 n q1 p q5 q6 q8 q9 h3 _ g d r t xs { tk with hart:=hv } tb s x:=eh3 ▸ a3;rw [eh3] at st;clear a a2 l2 hs2 src eh3;replace a3:=za a3;simp only [zb,aW,ze,zf, *];refine yc (n:=10) a3.h.w.src (by omega) (by omega) _ fun h4 l4 _ hs4=>?_;have a4:=a3.h.but q.h l4 hs4;have st2:=fun v=>z6 (v:=iI v) (off:=3) a4.w.g8 (by simp) rfl rfl;simp only [List.set_cons_zero,List.set_cons_succ] at st2;have f:=fun (v:Int) vars x2 x5 x12=>(a4.set8 q.h { tk with hart:=hv,prio:=v } rfl).fin q.h ⟨z.h.hk,z.h.hbl,z.h.ok,z.h.sz,z.h.szt,z.h.szs⟩ (kind:=2) (N:=N) (vars:=vars) (x0:=x0) (x2:=x2) (x4:=x4) (x5:=x5) (x10:=x10) (x11:=x11) (x12:=x12) Q hq.h;rw [zk] at f;clear a3 a4 l4 hs4 hq z q;replace f:=za f;simp only [zb,aW,ze,zf, *];exact f.h _ _ _ _ _
theorem StsVB.new1 {B:Nat→Prop}{h:Heap}{e:St}{x:lVq}(hx:StCB B h e x) (hB:B h.next):StsVB B (h.alloc (.blk x true)) (.slice (some ⟨h.next,0,none⟩) 1 7) [e]:=by
 refine ⟨[x],.inr ⟨h.next,0,rfl,.inr ⟨hB,?_⟩⟩,by simp,x,[],rfl,hx.to (((Heap.le.refl h).alloc _).toB fun _ h=>h),rfl⟩;rcases SlV.new h (s:=7) (xs:=[x]) (by simpa using hx.ones.1) (cells:=x) (by simp) rfl with ⟨e,_⟩ | ⟨id,off,e,ha⟩
 ·cases e
 ·cases e
  rcases ha with ha | ha
  ·cases ha
  ·exact ha
theorem ExsVB.new1 {B:Nat→Prop}{h:Heap}{e:Ex}{x:lVq}(hx:ExCB B h e x) (hB:B h.next):ExsVB B (h.alloc (.blk x true)) (.slice (some ⟨h.next,0,none⟩) 1 5) [e]:=by
 refine ⟨[x],.inr ⟨h.next,0,rfl,.inr ⟨hB,?_⟩⟩,by simp,x,[],rfl,hx.to (((Heap.le.refl h).alloc _).toB fun _ h=>h),rfl⟩;rcases SlV.new h (s:=5) (xs:=[x]) (by simpa using hx.ones.1) (cells:=x) (by simp) rfl with ⟨e,_⟩ | ⟨id,off,e,ha⟩
 ·cases e
 ·cases e
  rcases ha with ha | ha
  ·cases ha
  ·exact ha
section
variable {h0 h h' : Heap}{n q1 p q5 q6 q8 q9:Nat}{raw raw' : List Int}{g:Prg}{d r t:Value}{xs:List (lVq)}{tk:Tsk}{tb:Value}{s:St}{x:lVq}
theorem WA.row (q:WQ h0 n q1 p q5 q6 q8 q9) (a:WA h0 n q1 p q5 q6 q8 q9 h raw g d r t xs tk tb s x){g' : Prg}{d' r' : Value}(hg:g'.harts=g.harts) (hm:WSt n (LL q1 p q5 q6 q8 q9) h' g' d' r' t xs)
  (tbb:Heap.toB (Bx (LL q1 p q5 q6 q8 q9) [d,r,t]) (Bx (LL q1 p q5 q6 q8 q9) [d',r',t]) h h') (keep:∀ i,i ∈ LL q1 p q5 q6 q8 q9∨i < n→(h.get i).isSome=true→h'.get i=h.get i) (nx:h.next≤h'.next) :
  h'.get q6=some (.blk [iI g.harts,d,r,t] true)∧WA h0 n q1 p q5 q6 q8 q9 (h'.set q6 (.blk [iI g.harts,d',r',t] true)) raw g' d' r' t xs tk tb s x:=by
 obtain ⟨qa,qb,qc,qd,qe,qf,qg,qi⟩:=q;have kp:∀ {i:Nat}{o:AObj},i ∈ LL q1 p q5 q6 q8 q9∨i < n→h.get i=some o→h'.get i=some o:=fun hi ho=>by rw [keep _ hi (by rw [ho];rfl)];exact ho
 have g6:=kp (.inl (by simp)) a.w.g6;refine ⟨g6,⟨Heap.le.set' ⟨fun i o ho=>kp (.inr (by have:=Heap.lt_of_get ho;omega)) (a.w.l0.get ho),Nat.le_trans a.w.l0.next nx⟩ (by omega) _,?_,(Heap.set_getE _ _ _ _ (by simp;omega)).trans (kp (.inl (by simp)) a.w.g1),(Heap.set_getE _ _ _ _ (by simp;omega)).trans (kp (.inl (by simp)) a.w.g5),by rw [hg];exact Heap.set_getS _ _ _ (by rw [g6];rfl),(Heap.set_getE _ _ _ _ (by simp;omega)).trans (kp (.inl (by simp)) a.w.g8),by rw [Heap.set_getE _ _ _ _ (by simp;omega),kp (.inl (by simp)) a.g9];rfl,hm.set (by simp) _,(a.w.hb.to tbb).to (toL (by simp) _)⟩,(Heap.set_getE _ _ _ _ (by simp;omega)).trans (kp (.inl (by simp)) a.g9),(a.hx.to tbb).to (toL (by simp) _)⟩;obtain ⟨v,s1,s2,s3⟩:=a.w.src;exact Src.set ⟨v,kp (.inl (by simp)) s1,s2.to fun id cs own hb hg=>⟨hb,kp (.inr (by have:id < p:=hb;omega)) hg⟩,s3⟩ (by omega) _
end
theorem wld_3:Ua 3:=by
 intro h0 h n q1 p q5 q6 q8 q9 raw g d r t xs k tk tb s x q w g9 hx z szs bd br N vars x0 x4 x10 x11 x12 Q hq;have zk:((3:Nat):Int)=3:=rfl;have hqp:(q6 == p)=false:=by have:=q.d;have:=q.e;have:=q.f;simp;omega
 have a:WA h0 n q1 p q5 q6 q8 q9 h raw g d r t xs tk tb s x:=⟨w,g9,hx⟩;have src:=w.src;clear w g9 hx br szs;rw [zk];replace hq:=Hid.mk hq;replace a:=za a;replace q:=za q;replace z:=za z;replace src:=za src;replace bd:=za bd;delta J3 wj wi wh wg we wc xz xy xt xq xo xm xl xj xi xh xf xe xd;simp only [zb,ze,zf,Int.reduceBEq, *];refine yp0 src.h _ fun h2 l2 hs2=>jr l2 ?_;have a2:=a.h.but q.h l2 hs2;have nl:=zz7 raw;obtain ⟨nm,hnm⟩:∃ m,yf6 raw=m:=⟨_,rfl⟩;rw [hnm] at nl;rw [hnm];clear a l2 src hnm;replace a2:=za a2;replace hs2:=za hs2;replace nl:=za nl;simp only [zb, *];refine yc (n:=5) hs2.h (by omega) (by omega) _ fun h3 l3 _ hs3=>jr l3 ?_;have hlt:=ya hs2.h.in (n:=5) (by omega);have a3:=a2.h.but q.h l3 hs3;obtain ⟨kd,hkd⟩:∃ m,(zh (zh raw 10).2 5).1=m:=⟨_,rfl⟩;rw [hkd] at hlt;rw [hkd];have f6:=a3.w.g6;have hn3:n≤h3.next:=by have:=Heap.lt_of_get f6;have:=q.h.f;omega
 obtain ⟨d',h4,e1,hm4,tbb,keep,nx⟩:=a3.w.hm.dev hn3 a3.w.hL bd.h ⟨nm,(kd:Int)⟩;have e1:yq 2 24 (h3.alloc (.blk [str nm,iI (kd:Int)] true)) [d,.slice (some ⟨h3.next,0,none⟩) 1 2]=some (d',h4):=e1;obtain ⟨f4,a4⟩:=a3.row q.h (g':={ g with devs:=g.devs++[⟨nm,(kd:Int)⟩] }) rfl hm4 tbb keep nx;obtain ⟨ca1,ca2⟩:=hm4.isS.1.cell;have st:=z6 (off:=1) f4 (by simp) ca1 ca2;simp only [List.set_cons_zero,List.set_cons_succ] at st;have ok' : ({ g with devs:=g.devs++[⟨nm,(kd:Int)⟩] }:Prg).ok:=⟨fun y hy=>by
  rcases List.mem_append.1 hy with hy | hy
  ·exact z.h.ok.devs y hy
  ·rw [List.mem_singleton.1 hy];exact ⟨by show inI (kd:Int);unfold inI;omega,nl.h⟩,z.h.ok.ress⟩
 have f:=fun vars x2 x5 x12=>a4.fin q.h ⟨z.h.hk,z.h.hbl,ok',z.h.sz,z.h.szt,z.h.szs⟩ (kind:=3) (N:=N) (vars:=vars) (x0:=x0) (x2:=x2) (x4:=x4) (x5:=x5) (x10:=x10) (x11:=x11) (x12:=x12) Q hq.h;rw [zk] at f;have b1:=X3 nm (kd:Int);have b2:=bs_nm nm (kd:Int);clear a2 a3 hs2 l3 hs3 hq z q bd hm4 tbb keep nx f4 a4 ca1 ca2 ok' hn3 hkd hlt nl;replace f:=za f;simp only [zb,aR,aW, *];exact f.h _ _ _ _
theorem wld_4:Ua 4:=by
 intro h0 h n q1 p q5 q6 q8 q9 raw g d r t xs k tk tb s x q w g9 hx z szs bd br N vars x0 x4 x10 x11 x12 Q hq;have zk:((4:Nat):Int)=4:=rfl;have hqp:(q6 == p)=false:=by have:=q.d;have:=q.e;have:=q.f;simp;omega
 have a:WA h0 n q1 p q5 q6 q8 q9 h raw g d r t xs tk tb s x:=⟨w,g9,hx⟩;have src:=w.src;clear w g9 hx bd szs;rw [zk];replace hq:=Hid.mk hq;replace a:=za a;replace q:=za q;replace z:=za z;replace src:=za src;replace br:=za br;delta J3 wj wi wh wg we wc xz xy xt xq xo xm xl xj xi xh xf xe xd;simp only [zb,ze,zf,Int.reduceBEq, *];refine yp0 src.h _ fun h2 l2 hs2=>jr l2 ?_;have a2:=a.h.but q.h l2 hs2;have nl:=zz7 raw;obtain ⟨nm,hnm⟩:∃ m,yf6 raw=m:=⟨_,rfl⟩;rw [hnm] at nl;rw [hnm];clear a l2 src hnm;replace a2:=za a2;replace hs2:=za hs2;replace nl:=za nl;simp only [zb, *];refine yc (n:=10) hs2.h (by omega) (by omega) _ fun h3 l3 _ hs3=>jr l3 ?_;have hlt:=ya hs2.h.in (n:=10) (by omega);have a3:=a2.h.but q.h l3 hs3;obtain ⟨kd,hkd⟩:∃ m,(zh (zh raw 10).2 10).1=m:=⟨_,rfl⟩;rw [hkd] at hlt;rw [hkd];have f6:=a3.w.g6;have hn3:n≤h3.next:=by have:=Heap.lt_of_get f6;have:=q.h.f;omega
 obtain ⟨r',h4,e1,hm4,tbb,keep,nx⟩:=a3.w.hm.res hn3 a3.w.hL br.h ⟨nm,(kd:Int)⟩;have e1:yq 2 24 (h3.alloc (.blk [str nm,iI (kd:Int)] true)) [r,.slice (some ⟨h3.next,0,none⟩) 1 2]=some (r',h4):=e1;obtain ⟨f4,a4⟩:=a3.row q.h (g':={ g with ress:=g.ress++[⟨nm,(kd:Int)⟩] }) rfl hm4 tbb keep nx;obtain ⟨ca1,ca2⟩:=hm4.isS.2.1.cell;have st:=z6 (off:=2) f4 (by simp) ca1 ca2;simp only [List.set_cons_zero,List.set_cons_succ] at st;have ok' : ({ g with ress:=g.ress++[⟨nm,(kd:Int)⟩] }:Prg).ok:=⟨z.h.ok.devs,fun y hy=>by
  rcases List.mem_append.1 hy with hy | hy
  ·exact z.h.ok.ress y hy
  ·rw [List.mem_singleton.1 hy];exact ⟨by show inI (kd:Int);unfold inI;omega,nl.h⟩⟩
 have f:=fun vars x2 x5 x12=>a4.fin q.h ⟨z.h.hk,z.h.hbl,ok',z.h.sz,z.h.szt,z.h.szs⟩ (kind:=4) (N:=N) (vars:=vars) (x0:=x0) (x2:=x2) (x4:=x4) (x5:=x5) (x10:=x10) (x11:=x11) (x12:=x12) Q hq.h;rw [zk] at f;have b1:=X3 nm (kd:Int);have b2:=bs_nm nm (kd:Int);clear a2 a3 hs2 l3 hs3 hq z q br hm4 tbb keep nx f4 a4 ca1 ca2 ok' hn3 hkd hlt nl;replace f:=za f;simp only [zb,aR,aW, *];exact f.h _ _ _ _
section
variable {h0 h h' : Heap}{n q1 p q5 q6 q8 q9:Nat}{raw raw' : List Int}{g:Prg}{d r t:Value}{xs:List (lVq)}{tk:Tsk}{tb:Value}{s:St}{x:lVq}
theorem WB.put9 (q:WQ h0 n q1 p q5 q6 q8 q9) (w:WB h0 n q1 p q5 q6 q8 q9 h raw g d r t xs tk tb) (hx:StCB (Bx (LL q1 p q5 q6 q8 q9) [d,r,t]) h s x):WA h0 n q1 p q5 q6 q8 q9 (h.set q9 (.blk x true)) raw g d r t xs tk tb s x:=by
 obtain ⟨w',g⟩:=w.set9 q x;exact ⟨w',g,hx.to (toL (by simp) _)⟩
end
theorem bHalt1 {v:Value}(hv:IsS v):yo zS [(0,1),(5,1)] [iI 8,v]=some (stV 8 [] [] 0 zq v zq):=by obtain ⟨_,_,_,rfl⟩:=hv;rfl
theorem bIf1 {v w:Value}(hv:IsS v) (hw:IsS w):yo zS [(0,1),(4,1),(6,1)] [iI 6,v,w]=some (stV 6 [] [] 0 v zq w):=by
 obtain ⟨_,_,_,rfl⟩:=hv;obtain ⟨_,_,_,rfl⟩:=hw;rfl
theorem wld_7:Ua 7:=by
 intro h0 h n q1 p q5 q6 q8 q9 raw g d r t xs k tk tb s x q w g9 hx z szs bd br N vars x0 x4 x10 x11 x12 Q hq;have zk:((7:Nat):Int)=7:=rfl;obtain ⟨wa,wu,ww,rfl,t1,t2,t3⟩:=hx.cells;have bs:=zq3 hx.ones;have u:=StsVB.new1 hx (w.fresh h.next (Nat.le_refl _));obtain ⟨qx,h2,eqx,eh2,gqx,lh2⟩:=zj h [iI s.kind,str s.name,str s.src,iI s.n,wa,wu,ww];rw [eh2,eqx] at u;have bb:=bHalt1 u.isS;have w2:=w.le lh2;have g92:=lh2.get g9;have st:=yz (size:=7) (v:=stV 8 [] [] 0 zq (.slice (some ⟨qx,0,none⟩) 1 7) zq) (cs:=[iI 8,str [],str [],iI 0,zq,.slice (some ⟨qx,0,none⟩) 1 7,zq]) g92 rfl rfl rfl rfl;have a3:=w2.put9 q (StCB.of (k:=8) (m:=[]) (f:=[]) (n:=0) ExsVB.nil u StsVB.nil);have hc:Kr (.mk 8 [] [] 0 [] [s] [])≤40000:=by simp only [Kr,ye,Y5];omega
 have f:=fun vars x2 x5 x12=>a3.fin q ⟨z.hk,z.hbl,z.ok,z.sz,z.szt,hc⟩ (kind:=7) (N:=N) (vars:=vars) (x0:=x0) (x2:=x2) (x4:=x4) (x5:=x5) (x10:=x10) (x11:=x11) (x12:=x12) Q hq;rw [zk] at f ⊢;clear w hx u z q bd br szs t1 t2 t3 w2 a3 hc hq lh2 gqx;replace f:=za f;delta J3 wj wi wh wg we wc xz xy xt xq xo xm xl xj xi xh xf xe xd;simp only [zb,aR,aW,ze,zf,Int.reduceBEq,qv, *];exact f.h _ _ _ _
theorem wld_5:Ua 5:=by
 intro h0 h n q1 p q5 q6 q8 q9 raw g d r t xs k tk tb s x q w g9 hx z szs bd br N vars x0 x4 x10 x11 x12 Q hq;have zk:((5:Nat):Int)=5:=rfl;have hqp:(q9 == p)=false:=by have:=q.d;have:=q.e;have:=q.f;have:=q.g;have:=q.i;simp;omega
 have a:WA h0 n q1 p q5 q6 q8 q9 h raw g d r t xs tk tb s x:=⟨w,g9,hx⟩;have src:=w.src;have g5:=w.g5;clear w g9 hx bd br;rw [zk];replace hq:=Hid.mk hq;replace a:=za a;replace q:=za q;replace z:=za z;replace src:=za src;replace szs:=za szs;delta J3 wj wi wh wg we wc xz xy xt xq xo xm xl xj xi xh xf xe xd;simp only [zb,aR,ze,zf,Int.reduceBEq,zu, *];refine uh Kd 2 (by omega) _ h p _ _ src.h (qb7 p h) fun h2 y l2 hs2 hy=>jr l2 ?_;have a2:=a.h.but q.h l2 hs2;have hce:=Jo Kd 2 raw;have hln:raw.length≤1000:=by obtain ⟨_,_,_,_,e⟩:=src.h;exact e
 obtain ⟨e,he⟩:∃ e,(yd Kd 2 raw).1=e:=⟨_,rfl⟩;rw [he] at hy hce;have hy' : ExCB (Bx (LL q1 p q5 q6 q8 q9) [d,r,t]) h2 e y:=hy.to (Heap.toB_id fun id hb=>a.h.w.fresh id hb);have b1:=Zk hy.ones;have u1:=ExsVB.new1 hy' (a2.w.fresh h2.next (Nat.le_refl _));obtain ⟨qa,h3,eqa,eh3,gqa,lh3⟩:=zj h2 y;rw [eh3,eqa] at u1;have a3:=a2.le lh3;obtain ⟨wa,wu,ww,rfl,t1,t2,t3⟩:=a3.hx.cells;have b2:=zq3 a3.hx.ones;have u2:=StsVB.new1 a3.hx (a3.w.fresh h3.next (Nat.le_refl _));have g93:=a3.g9;obtain ⟨qx,h4,eqx,eh4,gqx,lh4⟩:=zj h3 [iI s.kind,str s.name,str s.src,iI s.n,wa,wu,ww];rw [eh4,eqx] at u2;have u1:ExsVB (Bx (LL q1 p q5 q6 q8 q9) [d,r,t]) h4 (.slice (some ⟨qa,0,none⟩) 1 5) [e]:=u1.to (lh4.toB fun id hb=>hb);have bb:=bIf1 u1.isS u2.isS;have w4:=a3.w.le lh4;have g94:=lh4.get g93;have st:=yz (size:=7) (v:=stV 6 [] [] 0 (.slice (some ⟨qa,0,none⟩) 1 5) zq (.slice (some ⟨qx,0,none⟩) 1 7)) (cs:=[iI 6,str [],str [],iI 0,.slice (some ⟨qa,0,none⟩) 1 5,zq,.slice (some ⟨qx,0,none⟩) 1 7]) g94 rfl rfl rfl rfl;have a5:=w4.put9 q.h (StCB.of (k:=6) (m:=[]) (f:=[]) (n:=0) u1 StsVB.nil u2);have hc:Kr (.mk 6 [] [] 0 [e] [] [s])≤40000:=by have:=szs.h;simp only [Kr,ye,Y5];omega
 have f:=fun vars x2 x5 x12=>a5.fin q.h ⟨z.h.hk,z.h.hbl,z.h.ok,z.h.sz,z.h.szt,hc⟩ (kind:=5) (N:=N) (vars:=vars) (x0:=x0) (x2:=x2) (x4:=x4) (x5:=x5) (x10:=x10) (x11:=x11) (x12:=x12) Q hq.h;rw [zk] at f;clear a a2 a3 hs2 l2 hy hy' hce hln he u1 u2 w4 a5 hc hq z q szs t1 t2 t3 src gqa gqx lh3 lh4 g94;replace f:=za f;simp only [zb,aR,aW,qv, *];exact f.h _ _ _ _
theorem bRep1 {v:Value}(hv:IsS v):yo zS [(0,1),(3,1),(5,1)] [iI 7,iI 1,v]=some (stV 7 [] [] 1 zq v zq):=by obtain ⟨_,_,_,rfl⟩:=hv;rfl
theorem wld_6:Ua 6:=by
 intro h0 h n q1 p q5 q6 q8 q9 raw g d r t xs k tk tb s x q w g9 hx z szs bd br N vars x0 x4 x10 x11 x12 Q hq;have zk:((6:Nat):Int)=6:=rfl;have a:WA h0 n q1 p q5 q6 q8 q9 h raw g d r t xs tk tb s x:=⟨w,g9,hx⟩;have src:=w.src;clear w g9 hx bd br;rw [zk];replace hq:=Hid.mk hq;replace a:=za a;replace q:=za q;replace z:=za z;replace src:=za src;replace szs:=za szs;delta J3 wj wi wh wg we wc xz xy xt xq xo xm xl xj xi xh xf xe xd;simp only [zb,ze,zf,Int.reduceBEq, *];refine yc (n:=40) src.h (by omega) (by omega) _ fun h2 l2 _ hs2=>?_;have hlt:=ya src.h.in (n:=40) (by omega);have a2:=a.h.but q.h l2 hs2;obtain ⟨c,hc⟩:∃ c,(zh raw 40).1=c:=⟨_,rfl⟩;rw [hc] at hlt;rw [hc];clear a l2 hs2 src hc;replace a2:=za a2;replace hlt:=za hlt;simp only [zb, *];refine LoopW.down (fun m e h3=>∃ s x,WA h0 n q1 p q5 q6 q8 q9 h3 (zh raw 40).2 g d r t xs tk tb s x∧Kr s + m≤10040∧m < 40∧e=[x0,pT q1 0,pT p 0,iI 6,x4,pT q5 0,pT q6 0,iI (k:Int),pT q8 0,pT q9 0,x10,iI (m:Int),iI 6]) ?_ (m:=c) ⟨s,x,a2.h,by have:=szs.h;have:=hlt.h;omega,hlt.h,rfl⟩;clear a2 szs hlt;rintro m _ h3 R ⟨s,x,a3,hs,hm,rfl⟩ hR;delta zw8 zq0 zp9 zp8 zp7 zp6 zp5 zp4 zp3 zp2 zp1 V3 V2 wj wi wh wg we wc xz xy xt xq xo xm xl xj xi xh xf xe xd Y7 Y6 V1 V0;cases m with
 | zero =>
  have z0:¬ (0:Int) < ((0:Nat):Int):=by decide
  have f:=fun vars x2 x5 x11 x12=>a3.fin q.h ⟨z.h.hk,z.h.hbl,z.h.ok,z.h.sz,z.h.szt,by omega⟩ (kind:=6) (N:=N) (vars:=vars) (x0:=x0) (x2:=x2) (x4:=x4) (x5:=x5) (x10:=x10) (x11:=x11) (x12:=x12) Q hq.h;rw [zk] at f;clear a3 hR hq q z;replace f:=za f;replace hs:=za hs;replace hm:=za hm;simp only [zb,ze,zf, *];exact f.h _ _ _ _ _
 | succ m =>
  have z0:(0:Int) < ((m + 1:Nat):Int):=by omega
  have hw:IntKind.i64.wrap (((m + 1:Nat):Int) - 1)=(m:Int):=by rw [zn (by omega) (by omega)];omega
  obtain ⟨wa,wu,ww,rfl,t1,t2,t3⟩:=a3.hx.cells;have bs:=zq3 a3.hx.ones;have u:=StsVB.new1 a3.hx (a3.w.fresh h3.next (Nat.le_refl _));have g9:=a3.g9;obtain ⟨qx,h4,eqx,eh4,gqx,lh4⟩:=zj h3 [iI s.kind,str s.name,str s.src,iI s.n,wa,wu,ww];rw [eh4,eqx] at u;have bb:=bRep1 u.isS;have w4:=a3.w.le lh4;have g94:=lh4.get g9;have st:=yz (size:=7) (v:=stV 7 [] [] 1 zq (.slice (some ⟨qx,0,none⟩) 1 7) zq) (cs:=[iI 7,str [],str [],iI 1,zq,.slice (some ⟨qx,0,none⟩) 1 7,zq]) g94 rfl rfl rfl rfl;have a5:=w4.put9 q.h (StCB.of (k:=7) (m:=[]) (f:=[]) (n:=1) ExsVB.nil u StsVB.nil);have hc:Kr (.mk 7 [] [] 1 [] [s] []) + m≤10040:=by simp only [Kr,ye,Y5];omega
  have f:=hR.h m _ _ (by omega) ⟨_,_,a5,hc,by omega,rfl⟩;clear a3 hR hq q z u t1 t2 t3 w4 g94 a5 hc lh4 gqx;replace f:=za f;replace hs:=za hs;replace hm:=za hm;simp only [zb,aR,aW,ze,zf,qv, *];exact f.h
theorem wld_sw {kind:Nat}(hk:kind < 10):Ua kind:=by
 have:kind=0∨kind=1∨kind=2∨kind=3∨kind=4∨kind=5∨kind=6∨kind=7∨kind=8∨kind=9:=by omega
 rcases this with rfl | rfl | rfl | rfl | rfl | rfl | rfl | rfl | rfl | rfl
 ·exact @wld_0
 ·exact @wld_1
 ·exact @wld_2
 ·exact @wld_3
 ·exact @wld_4
 ·exact @wld_5
 ·exact @wld_6
 ·exact @wld_7
 ·exact @wld_8
 ·exact @wld_9
section
variable {h0 h h' : Heap}{n q1 p q5 q6 q8 q9:Nat}{raw raw' : List Int}{g:Prg}{d r t:Value}{xs:List (lVq)}{tk:Tsk}{tb:Value}
theorem WB.rel (q:WQ h0 n q1 p q5 q6 q8 q9) (w:WB h0 n q1 p q5 q6 q8 q9 h raw g d r t xs tk tb) (hk:∀ i,i≠p→i≠q9→(h.get i).isSome=true→h'.get i=h.get i) (nx:h.next≤h'.next) (hs:Src h' p raw') (g9:(h'.get q9).isSome=true):WB h0 n q1 p q5 q6 q8 q9 h' raw' g d r t xs tk tb:=by
 obtain ⟨qa,qb,qc,qd,qe,qf,qg,qi⟩:=q;have kp:∀ {i:Nat}{o:AObj},i≠p→i≠q9→h.get i=some o→h'.get i=some o:=fun h1 h2 ho=>by rw [hk _ h1 h2 (by rw [ho];rfl)];exact ho
 refine ⟨⟨fun i o ho=>kp (by have:=Heap.lt_of_get ho;omega) (by have:=Heap.lt_of_get ho;omega) (w.l0.get ho),Nat.le_trans w.l0.next nx⟩,hs,kp (by omega) (by omega) w.g1,kp (by omega) (by omega) w.g5,kp (by omega) (by omega) w.g6,kp (by omega) (by omega) w.g8,g9,w.hm.to fun i hi hs=>hk i (fun e=>hi (by simp [e])) (fun e=>hi (by simp [e])) hs,w.hb.to fun id cs own hb hg=>⟨hb,kp (fun e=>hb.1 (by simp [e])) (fun e=>hb.1 (by simp [e])) hg⟩⟩
end
theorem ExCsB.snoc {B:Nat→Prop}{h:Heap}{e:Ex}{x:lVq}(hx:ExCB B h e x):∀ {l:List Ex}{xs:List (lVq)},ExCsB B h l xs→ExCsB B h (l++[e]) (xs++[x])
 | [],_,hl=>by rw [show _=[] from hl];exact ⟨x,[],rfl,hx,rfl⟩
 | _::_,_,⟨y,yr,h1,h2,h3⟩=>by rw [h1];exact ⟨y,yr++[x],rfl,h2,ExCsB.snoc hx h3⟩
theorem yh7 (l:List Ex) (e:Ex):Y5 (l++[e])=Y5 l + cntE e:=by
 induction l with
 | nil=>simp [Y5]
 | cons a r ih=>simp only [List.cons_append,Y5,ih];omega
noncomputable def zr3:CCode:=(.seq (.seq (.reg V2 [(10,0)]) (.block 0 (.loop zw9))) J3)
theorem wld_args {h0 h:Heap}{n q1 p q5 q6 q8 q9:Nat}{raw:List Int}{g:Prg}{d r t:Value}{xs:List (lVq)}{k kind:Nat}{tk:Tsk}{tb:Value}{kd num:Int}{nm src:lBq}(hkd:kind < 10)
  (q:WQ h0 n q1 p q5 q6 q8 q9) (w:WB h0 n q1 p q5 q6 q8 q9 h raw g d r t xs tk tb) (g9:h.get q9=some (.blk [iI kd,str nm,str src,iI num,zq,zq,zq] true)) (z:∀ s,Kr s≤40000→WZ g k tk s) (bd:g.devs.length≤1000) (br:g.ress.length≤1000)
  {N:Nat}{vars:List Nat}{x0 x4 x10 x11 x12:Value}(Q:vPq) (hq:∀ h' g' y,h0.le h' → PrC h' g' y→g'.ok→(∀ t ∈ g'.tasks,ye t.body≤100000)→Q (.agg y.toArray) h') :
  W Tryz.prog N vars zr3 (retc 1 true 4 Q) [x0,pT q1 0,pT p 0,iI (kind:Int),x4,pT q5 0,pT q6 0,iI (k:Int),pT q8 0,pT q9 0,x10,x11,x12] h:=by
 have hqp:(q9 == p)=false:=by have:=q.d;have:=q.e;have:=q.f;have:=q.g;have:=q.i;simp;omega
 have hsr:=w.src;have fin:=fun (h' : Heap) (raw' : List Int) (s:St) (x:lVq) (w:WB h0 n q1 p q5 q6 q8 q9 h' raw' g d r t xs tk tb) g9 hx (hs:Kr s≤10000) vars x10=>wld_sw hkd q w g9 (s:=s) (x:=x) hx (z s (by omega)) hs bd br (N:=N) (vars:=vars) (x0:=x0) (x4:=x4) (x10:=x10) (x11:=x11) (x12:=x12) Q hq;clear hq z bd br;replace fin:=za fin;replace w:=za w;replace q:=za q;replace hsr:=za hsr;replace hkd:=za hkd;delta zr3 V2;simp only [zb, *];refine yc (n:=4) hsr.h (by omega) (by omega) _ fun h2 l2 _ hs2=>?_;have hlt:=ya hsr.h.in (n:=4) (by omega);have w2:=w.h.but q.h l2 hs2;have g92:=l2.keep (i:=q9) (by simpa using hqp) g9;obtain ⟨c,hc⟩:∃ c,(zh raw 4).1=c:=⟨_,rfl⟩;obtain ⟨r2,hr2⟩:∃ c,(zh raw 4).2=c:=⟨_,rfl⟩;rw [hr2] at hs2 w2;rw [hc] at hlt;rw [hc];clear w l2 hsr hc hr2 g9;replace w2:=za w2;replace hlt:=za hlt;replace hs2:=za hs2;simp only [zb, *];refine LoopW.down (fun m e h3=>∃ r3 v xa l,(∀ i,i≠p→i≠q9→(h2.get i).isSome=true→h3.get i=h2.get i)∧h2.next≤h3.next∧Src h3 p r3∧h3.get q9=some (.blk [iI kd,str nm,str src,iI num,v,zq,zq] true)∧OwnS (zw h2.next) h3 5 v xa∧ExCsB (fun id=>h2.next≤id∧notOf v id) h3 l xa∧Y5 l + 2001 * m≤8004∧xa.length + m≤4 ∧
  e=[x0,pT q1 0,pT p 0,iI (kind:Int),x4,pT q5 0,pT q6 0,iI (k:Int),pT q8 0,pT q9 0,iI (m:Int),x11,x12]) ?_ (m:=c) ⟨r2,zq,[],[],fun _ _ _ _=>rfl,Nat.le_refl _,hs2.h,g92,OwnS.nil _ _ _,rfl,by have:=hlt.h;simp only [Y5];omega,by have:=hlt.h;simp only [List.length_nil];omega,rfl⟩
 clear hs2 hlt g92;rintro m _ h3 R ⟨r3,v,xa,l,rel,nx,hs3,g93,ho,hx,hcn,hln,rfl⟩ hR;delta zw9 zq0 zp9 zp8 zp7 zp6 zp5 zp4 zp3 zp2 zp1 V3 V2 wj wi wh wg we wc xz xy xt xq xo xm xl xj xi xh xf xe xd Y7 Y6 V1 V0;have hq:=q.h;have hq9n:=Heap.lt_of_get g93;have hq9:q9 < h2.next:=by obtain ⟨o,ho⟩:=Option.isSome_iff_exists.1 w2.h.g9;exact Heap.lt_of_get ho
 have hp9:p < q9:=by have:=hq.d;have:=hq.e;have:=hq.f;have:=hq.g;have:=hq.i;omega
 cases m with
 | zero =>
  have z0:¬ (0:Int) < ((0:Nat):Int):=by decide
  have w3:=w2.h.rel hq rel nx hs3 (by rw [g93];rfl);have hv:ExsVB (Bx (LL q1 p q5 q6 q8 q9) [d,r,t]) h3 v l:=⟨xa,(OwnS.slB ho).to (Heap.toB_id fun id hb=>w2.h.fresh id hb),by omega,hx.to (Heap.toB_id fun id hb=>w2.h.fresh id hb.1)⟩;have f:=fun vars x10=>fin.h _ _ _ _ w3 g93 (StCB.of hv StsVB.nil StsVB.nil) (by simp only [Kr,ye];omega) vars x10;clear w3 hv hR fin q w2 rel ho hx hs3 hq;replace f:=za f;replace hcn:=za hcn;replace hln:=za hln;simp only [zb,ze,zf, *];exact f.h _ _
 | succ m =>
  have z0:(0:Int) < ((m + 1:Nat):Int):=by omega
  have hw:IntKind.i64.wrap (((m + 1:Nat):Int) - 1)=(m:Int):=by rw [zn (by omega) (by omega)];omega
  have g53:h3.get q5=some (.blk [zq,zq,iI 0,zq,.bool true] true):=by rw [rel q5 (by have:=hq.d;omega) (by have:=hq.e;have:=hq.f;have:=hq.g;have:=hq.i;omega) (by rw [w2.h.g5];rfl)];exact w2.h.g5
  replace rel:=za rel;replace nx:=za nx;replace hs3:=za hs3;replace ho:=za ho;replace hx:=za hx;replace hcn:=za hcn;replace hln:=za hln;replace hq:=za hq;simp only [zb,aR,ze,zf,zu, *];refine uh Kd 2 (by omega) _ h3 p _ _ hs3.h (qb7 p h3) fun h4 y l4 hs4 hy=>jr l4 ?_;have hce:=Jo Kd 2 r3;have hrl:r3.length≤1000:=by obtain ⟨_,_,_,_,e⟩:=hs3.h;exact e
  obtain ⟨e,he⟩:∃ e,(yd Kd 2 r3).1=e:=⟨_,rfl⟩;obtain ⟨r4,hr4⟩:∃ e,(yd Kd 2 r3).2=e:=⟨_,rfl⟩;rw [he] at hy hce;rw [hr4] at hs4 hce;have g94:=l4.keep (i:=q9) (by omega) g93;have ho4:=ho.h.keepBut (p:=p) (by omega) l4;have hx4:ExCsB (fun id=>h2.next≤id∧notOf v id) h4 l xa:=hx.h.to (l4.toB fun id hb=>⟨by have:=hb.1;omega,hb⟩);have hn4:h2.next≤h4.next:=Nat.le_trans nx.h l4.next;obtain ⟨v',h5,ap,ho5,le5,k1,k2,nx5⟩:=ho4.append1 (ym hn4) hy.ones.1 (by omega) (b:=64) (by have:=hln.h;omega) (by have:=hln.h;omega);have b1:=Zk hy.ones;have low:∀ i,i < h2.next→(h4.get i).isSome=true→h5.get i=h4.get i:=fun i hi hs=>k1 i hs (OwnS.notOf ho4 hi);have g95:h5.get q9=some (.blk [iI kd,str nm,str src,iI num,v,zq,zq] true):=by rw [low q9 hq9 (by rw [g94];rfl)];exact g94
  obtain ⟨ca1,ca2⟩:=(OwnS.isS ho5).cell;have st:=z6 (off:=4) g95 (by simp) ca1 ca2;simp only [List.set_cons_zero,List.set_cons_succ] at st;obtain ⟨h6,eh6⟩:∃ x,h5.set q9 (.blk [iI kd,str nm,str src,iI num,v',zq,zq] true)=x:=⟨_,rfl⟩;rw [eh6] at st;have s6:∀ i,i≠q9→h6.get i=h5.get i:=fun i hi=>by rw [← eh6];exact Heap.set_getE _ _ _ _ (by simpa using hi)
  have rel6:∀ i,i≠p→i≠q9→(h2.get i).isSome=true→h6.get i=h2.get i:=fun i h1 h2' hs=>by
   have hi:i < h2.next:=by obtain ⟨o,ho⟩:=Option.isSome_iff_exists.1 hs;exact Heap.lt_of_get ho
   have e1:=rel.h i h1 h2' hs;have e2:=l4.get i h1 (by rw [e1];exact hs);rw [s6 i h2',low i hi (by rw [e2,e1];exact hs),e2,e1]
  have hs6:Src h6 p r4:=by
   obtain ⟨u,s1,s2,s3⟩:=hs4;have e1:h5.get p=h4.get p:=low p (by omega) (by rw [s1];rfl);rw [← eh6];exact Src.set ⟨u,e1.trans s1,s2.to fun id cs own hb hg=>⟨hb,by rw [low id (by have:id < p:=hb;omega) (by rw [hg];rfl)];exact hg⟩,s3⟩ hp9 _
  have g96:h6.get q9=some (.blk [iI kd,str nm,str src,iI num,v',zq,zq] true):=by rw [← eh6];exact Heap.set_getS _ _ _ (by rw [g95];rfl)
  have ho6:OwnS (zw h2.next) h6 5 v' (xa++[y]):=ho5.get fun id hv hs=>s6 id (by
   have:=(ho5.blk_lt id _ _ hv).1;omega)
  have hx5:ExCsB (fun id=>h2.next≤id∧notOf v id) h4 (l++[e]) (xa++[y]):=ExCsB.snoc (hy.to (Heap.toB_id fun id hb=>⟨Nat.le_trans nx.h hb,OwnS.notOf_new ho.h hb⟩)) hx4;have hx6:ExCsB (fun id=>h2.next≤id∧notOf v' id) h6 (l++[e]) (xa++[y]):=hx5.to fun id cs own hb hg=>⟨⟨hb.1,k2 id (by rw [hg];rfl)⟩,by rw [s6 id (by have:=hb.1;omega),k1 id (by rw [hg];rfl) hb.2];exact hg⟩;have f:=hR.h m _ h6 (by omega) ⟨r4,v',xa++[y],l++[e],rel6,by rw [← eh6];exact Nat.le_trans hn4 nx5,hs6,g96,ho6,hx6,by rw [yh7];have:=hcn.h;omega,by rw [List.length_append];have:=hln.h;simp only [List.length_cons,List.length_nil];omega,rfl⟩;clear hR fin q w2 rel ho hx hs3 hq rel6 hs6 ho6 hx5 hx6 g96 low k1 k2 ho5 le5 ho4 hx4 hs4 l4 hy hce hcn hln hrl s6 eh6 g95 ca1 ca2 he hr4 nx nx5 hn4 hkd;replace f:=za f;simp only [zb,aR,aW,ze,zf, *];exact f.h
def numV:lVq:=[iI 0,iI 0,iI 3,iI 4,iI 20,iI 21,iI (-1)]
theorem numV_get {k:Nat}(h:k < 7):∃ z,numV[k]? = some (iI z):=by
 have:k=0∨k=1∨k=2∨k=3∨k=4∨k=5∨k=6:=by omega
 rcases this with rfl | rfl | rfl | rfl | rfl | rfl | rfl<;>exact ⟨_,rfl⟩
theorem yk7 (o:lBq){k:Nat}(h:k < 3):∃ m,[Value.string ⟨#[]⟩,Value.string ⟨#[]⟩,str o][k]? = some (str m):=by
 have:k=0∨k=1∨k=2:=by omega
 rcases this with rfl | rfl | rfl
 ·exact ⟨[],rfl⟩
 ·exact ⟨[],rfl⟩
 ·exact ⟨o,rfl⟩
theorem bX (kd num:Int) (nm src:lBq):yo zS [(0,1),(1,1),(2,1),(3,1)] [iI kd,str nm,str src,iI num]=some (stV kd nm src num zq zq zq):=rfl
theorem st_X (h:Heap) (kd num:Int) (nm src:lBq):zt 7 (h.alloc (.blk zS true)) [pT h.next 0,stV kd nm src num zq zq zq]=some (udq,h.alloc (.blk [iI kd,str nm,str src,iI num,zq,zq,zq] true)):=zx rfl rfl rfl rfl
noncomputable def wldX:CCode:=(.seq (.reg V3 [(9,1)]) zr3)
theorem wld_x {h0 h:Heap}{n q1 p q5 q6 q8:Nat}{raw:List Int}{g:Prg}{d r t:Value}{xs:List (lVq)}{k kind:Nat}{tk:Tsk}{tb:Value}(hkd:kind < 10)
  (q:h0.next≤n∧h0.next≤q1∧q1 < p∧p < q5∧q5 < n∧n≤q6∧q6 < q8) (l0:h0.le h) (src:Src h p raw) (g1:h.get q1=some (.blk zP true)) (g5:h.get q5=some (.blk [zq,zq,iI 0,zq,.bool true] true)) (g6:h.get q6=some (.blk [iI g.harts,d,r,t] true)) (g8:h.get q8=some (.blk [str tk.name,.bool tk.handler,iI tk.hart,iI tk.prio,iI tk.line,tb] true))
  (hm:WSt n [q8,q6,q5,p,q1] h g d r t xs) (hb:StsVB (Bx [q8,q6,q5,p,q1] [d,r,t]) h tb tk.body) (z:∀ s,Kr s≤40000→WZ g k tk s) (bd:g.devs.length≤1000) (br:g.ress.length≤1000)
  {N:Nat}{vars:List Nat}{x0 x4 x9 x10 x11 x12:Value}(Q:vPq) (hq:∀ h' g' y,h0.le h' → PrC h' g' y→g'.ok→(∀ t ∈ g'.tasks,ye t.body≤100000)→Q (.agg y.toArray) h') :
  W Tryz.prog N vars wldX (retc 1 true 4 Q) [x0,pT q1 0,pT p 0,iI (kind:Int),x4,pT q5 0,pT q6 0,iI (k:Int),pT q8 0,x9,x10,x11,x12] h:=by
 have hq8:=Heap.lt_of_get g8;have fin:=fun {h6:Heap}(lB:h.leBut p h6){raw' : List Int}(hs6:Src h6 p raw'){h8 h9:Heap}(l68:h6.le h8) (l89:h8.le h9){q9:Nat}{kd num:Int}{nm src:lBq}(e9:h8.next=q9) (g9:h9.get q9=some (.blk [iI kd,str nm,str src,iI num,zq,zq,zq] true)) =>
  have l69:=l68.trans l89;have nx:=lB.next;have nx2:=l68.next;have hm8:=((hm.but (p:=p) (by simp) lB).le l68).more (i:=q9) (by omega);have hb8:StsVB (Bx (LL q1 p q5 q6 q8 q9) [d,r,t]) h9 tb tk.body:=(hb.to (lB.toB fun id hb=>⟨fun e=>hb.1 (by simp [e]),hb⟩):StsVB (Bx [q8,q6,q5,p,q1] [d,r,t]) h6 tb tk.body).to fun id cs own hb hg=>⟨⟨fun hi=>(by
   have h1:=Heap.lt_of_get (l68.get hg);rcases List.mem_cons.1 hi with rfl | hi
   ·omega
   ·exact hb.1 hi),hb.2⟩,l69.get hg⟩
  have w:WB h0 n q1 p q5 q6 q8 q9 h9 raw' g d r t xs tk tb:=⟨(l0.but' (by omega) lB).trans l69,hs6.le l69,l69.get (lB.keep (by omega) g1),l69.get (lB.keep (by omega) g5),l69.get (lB.keep (by omega) g6),l69.get (lB.keep (by omega) g8),by rw [g9];rfl,hm8.le l89,hb8⟩;have qq:WQ h0 n q1 p q5 q6 q8 q9:=⟨q.1,q.2.1,q.2.2.1,q.2.2.2.1,q.2.2.2.2.1,q.2.2.2.2.2.1,q.2.2.2.2.2.2,by omega⟩
  fun vars x10=>wld_args hkd qq w g9 z bd br (N:=N) (vars:=vars) (x0:=x0) (x4:=x4) (x10:=x10) (x11:=x11) (x12:=x12) Q hq
 have fin:=fun (h6:Heap) (lB:h.leBut p h6) (raw' : List Int) (hs6:Src h6 p raw') (h8 h9:Heap) (l68:h6.le h8) (l89:h8.le h9) (q9:Nat) (kd num:Int) (nm src:lBq) (e9:h8.next=q9) g9=>@fin h6 lB raw' hs6 h8 h9 l68 l89 q9 kd num nm src e9 g9;clear hq z bd br hm hb g1 g5 g6 g8 l0 q hq8 hkd;replace fin:=za fin;replace src:=za src;delta wldX V3;simp only [zb, *];refine yc (n:=11) src.h (by omega) (by omega) _ fun h2 l2 _ hs2=>?_;obtain ⟨k0,hk0⟩:∃ k,(zh raw 11).1=k:=⟨_,rfl⟩;rw [hk0];clear src hk0;replace l2:=za l2;replace hs2:=za hs2;simp only [zb, *];refine yp0 hs2.h _ fun h3 l3 hs3=>?_;obtain ⟨nm,hnm⟩:∃ k,yf6 (zh raw 11).2=k:=⟨_,rfl⟩;rw [hnm];replace l3:=l2.h.trans l3;clear l2 hs2 hnm;replace l3:=za l3;replace hs3:=za hs3;simp only [zb, *];refine yp0 hs3.h _ fun h4 l4 hs4=>?_;obtain ⟨o2,ho2⟩:∃ k,yf6 (zh (zh raw 11).2 10).2=k:=⟨_,rfl⟩;rw [ho2];replace l4:=l3.h.trans l4;clear l3 hs3 ho2;replace l4:=za l4;replace hs4:=za hs4;simp only [zb, *];refine yc (n:=3) hs4.h (by omega) (by omega) _ fun h5 l5 _ hs5=>?_;have hk3:=ya hs4.h.in (n:=3) (by omega);obtain ⟨k3,ek3⟩:∃ k,(zh (zh (zh (zh raw 11).2 10).2 10).2 3).1=k:=⟨_,rfl⟩;rw [ek3] at hk3;rw [ek3];replace l5:=l4.h.trans l5;clear l4 hs4 ek3;replace l5:=za l5;replace hs5:=za hs5;replace hk3:=za hk3;simp only [zb, *];refine yc (n:=7) hs5.h (by omega) (by omega) _ fun h6 l6 _ hs6=>jr l6 ?_;have hk7:=ya hs5.h.in (n:=7) (by omega);obtain ⟨k7,ek7⟩:∃ k,(zh (zh (zh (zh (zh raw 11).2 10).2 10).2 3).2 7).1=k:=⟨_,rfl⟩;rw [ek7] at hk7;rw [ek7];replace l6:=l5.h.trans l6;clear l5 hs5 ek7;have hp6:=hs6.lt;have bs:yj [s0q,s0q,s0q] [(0,1),(1,1),(2,1)] 3 1 [s0q,s0q,str o2]=some ([s0q,s0q,str o2],fun id=>.slice (some ⟨id,0,none⟩) 3 1):=bs_3 [] [] o2;obtain ⟨qa,h7,eqa,eh7,gqa,lh7⟩:=zj h6 [s0q,s0q,str o2];have bn:yj [iI 0,iI 0,iI 0,iI 0,iI 0,iI 0,iI 0] [(0,1),(1,1),(2,1),(3,1),(4,1),(5,1),(6,1)] 7 1 [iI 0,iI 0,iI 3,iI 4,iI 20,iI 21,iI (-1)]=some (numV,fun id=>.slice (some ⟨id,0,none⟩) 7 1):=rfl;obtain ⟨qb,h8,eqb,eh8,gqb,lh8⟩:=zj h7 numV;have ix1:=idx1 (id:=qa) (n:=3) hk3.h;have ix2:=idx1 (id:=qb) (n:=7) hk7;obtain ⟨src,vs⟩:=yk7 o2 hk3.h;obtain ⟨num,vn⟩:=numV_get hk7;have bx:=bX (IntKind.i64.wrap ((k0:Int) - 1)) num nm src;have sz:=st_X h8 (IntKind.i64.wrap ((k0:Int) - 1)) num nm src;obtain ⟨q9,h9,eq9,eh9,gq9,lh9⟩:=zj h8 [iI (IntKind.i64.wrap ((k0:Int) - 1)),str nm,str src,iI num,zq,zq,zq];rw [eh9,eq9] at sz;have hqa:(qa == p)=false:=by simp;omega
 have hqb:(qb == p)=false:=by have:=lh7.next;simp;omega
 have f:=fin.h h6 l6 _ hs6 h8 h9 (lh7.trans lh8) lh9 q9 _ _ _ _ eq9 gq9;clear fin l6 hs6 hk3 hk7 lh7 lh8 lh9 hp6 gq9;replace f:=za f;simp only [zb,aR,aW,ze,zf, *];exact f.h _ _
theorem WSt.at {n:Nat}{L:List Nat}{h:Heap}{g:Prg}{d r t:Value}{xs:List (lVq)}(hm:WSt n L h g d r t xs){k:Nat}{tk:Tsk}(hk:g.tasks[k]? = some tk) :
  ∃ id v,zp 6 [t,iI (k:Int)]=some ((pT id (k * 6)))∧h.get id=some (.blk xs.flatten true)∧qu true (k * 6) 6 xs.flatten=some (tsV tk.name tk.handler tk.hart tk.prio tk.line v)∧StsVB (Bx L [d,r,t]) h v tk.body:=by
 obtain ⟨x,hx,v,rfl,hv⟩:=hm.hts.get hk;obtain ⟨id,e1,e2,e3,e4,e5⟩:=OwnS.at (s:=6) (hm.rows.own (t,6,xs) (by simp)) (by decide) hx;exact ⟨id,v,e4,e3,e5,hv⟩
theorem nSs_le {ts:List Tsk}:∀ t ∈ ts,ye t.body≤nTs ts:=by
 intro t ht;induction ts with
 | nil=>cases ht
 | cons a r ih =>
  rcases List.mem_cons.1 ht with rfl | ht
  ·simp only [nTs];omega
  ·have:=ih ht;simp only [nTs];omega
set_option maxHeartbeats 1000000 in
theorem Wild_c {h:Heap}{v:Value}{raw:List Int}(hv:Ints h v raw) (hin:∀ z ∈ raw,inI z) (Q:vPq)
  (hq:∀ h' g y,h.le h' → PrC h' g y→g.ok→(∀ t ∈ g.tasks,ye t.body≤100000)→Q (.agg y.toArray) h'):CallW Tryz.prog 10 [v] h Q:=by
 obtain ⟨q1,h1,eq1,eh1,gq1,lh1⟩:=zj h zP;obtain ⟨v',hv',hcase⟩:=yv1 hv lh1 400;rw [show ((400:Nat):Int)=400 from rfl] at hcase;have lv:=Ints.len hv;have hvS:=SlV.isS hv';have ub:=bSrc hvS;have bx:=qb2 hvS;have hin' : ∀ z ∈ raw.take 400,inI z:=fun z hz=>hin z (List.mem_of_mem_take hz);have hlen' : (raw.take 400).length≤1000:=by rw [List.length_take];omega
 obtain ⟨p,h2,ep,eh2,gp,lh2⟩:=zj h1 [v'];have hvB:SlVB (· < p) h2 1 v' ((raw.take 400).map fun z=>[iI z]):=(SlV.below hv').to (lh2.toB fun id hb=>by rw [← ep];exact hb);have hsrc:Src h2 p (raw.take 400):=⟨v',gp,hvB,hin',hlen'⟩;have g1:=lh2.get gq1;have hq1p:=Heap.lt_of_get gq1;rw [ep] at hq1p;have hq1h:h.next=q1:=eq1;have lh12:=lh1.trans lh2;clear hv hin hlen' hv' gp;replace hsrc:=za hsrc;replace lh12:=za lh12;replace g1:=za g1;replace hq1p:=za hq1p;replace hq1h:=za hq1h;replace hcase:=za hcase;replace hvS:=za hvS;replace hvB:=za hvB;replace hin':=za hin';refine Ks (k:=1) (agg:=true) (size:=4) ok10 rfl rfl rfl fun N=>?_;show W Tryz.prog N _ ((.seq (.reg zq0 [(1,0)]) (.seq (.rcond zp9 [] 0 (.reg zp8 [(0,0)]) .skip) (.seq (.reg zp7 [(2,0)]) (.seq (.reg zp6 [(3,0)]) (.seq (.reg zp5 [(4,0)]) (.seq (.reg zp4 [(5,1)]) (.seq (.reg zp3 [(6,1)]) (.seq (.reg zp2 [(7,0)]) (.seq (.reg zp1 [(8,1)]) wldX)))))))))) _ [v,udq,udq,udq,udq,udq,udq,udq,udq,udq,udq,udq,udq] _;delta zq0 zp9 zp8 zp7 zp6 zp5 zp4 zp3 zp2 zp1;replace hq:=Hid.mk hq;refine cut2 (G:=?G) ?b ?main
 case b =>
  intro main;rcases hcase.h with ⟨z,e⟩ | ⟨z,rfl⟩
  ·simp only [zb,ze,zf, *];first | done | exact main
  ·simp only [zb,ze,zf, *];first | done | exact main
 case main =>
  clear hcase lv ub bx gq1 eh1 eh2 eq1 ep;refine yc (n:=10) hsrc.h (by omega) (by omega) _ fun h3 l3 _ hs3=>?_;have hk10:=ya hsrc.h.in (n:=10) (by omega);obtain ⟨kind,ek⟩:∃ k,(zh (raw.take 400) 10).1=k:=⟨_,rfl⟩;obtain ⟨r3,er3⟩:∃ k,(zh (raw.take 400) 10).2=k:=⟨_,rfl⟩;rw [ek] at hk10;rw [er3] at hs3;rw [ek];clear hsrc ek er3;replace l3:=za l3;replace hs3:=za hs3;replace hk10:=za hk10;simp only [zb, *];refine yc (n:=2) hs3.h (by omega) (by omega) _ fun h4 l4 _ hs4=>?_;obtain ⟨al,eal⟩:∃ b,(((zh r3 2).1:Int) == 1)=b:=⟨_,rfl⟩;replace l4:=l3.h.trans l4;have sz5:=st_C h4 true;obtain ⟨q5,h5,eq5,eh5,gq5,lh5⟩:=zj h4 [zq,zq,iI 0,zq,.bool true];rw [eh5,eq5] at sz5;have hs5:=hs4.le lh5;have l5:=l4.le' lh5;have hv5:Ints h5 v' (raw.take 400):=SlVB.plain (hvB.h.to (l5.toB fun id hb=>⟨by have:id < p:=hb;omega,hb⟩));have hp4:=hs4.lt;have hp5:p < q5:=by omega
  clear l3 hs3 l4 hs4 hvB lh5;replace hs5:=za hs5;replace l5:=za l5;replace hv5:=za hv5;replace hp5:=za hp5;replace hp4:=za hp4;simp only [zb,aW,ze,zf,bC', *];refine Prog_c hv5.h hin'.h al _ fun h6 d r t xs l6 hmd=>?_;have good:=Jk (raw.take 400) al;have szs:=progL_r (raw.take 400) al;obtain ⟨g,hg⟩:∃ p,Ud (raw.take 400) al=p:=⟨_,rfl⟩;rw [hg] at hmd good szs;rw [hg];have hq5n:=Heap.lt_of_get gq5;have hm6:=hmd.st (L:=[q5,p,q1]) fun i hi=>by
   have h1:=hp5.h;have h2:=hq1p.h;simp only [List.mem_cons,List.not_mem_nil,or_false] at hi;rcases hi with rfl | rfl | rfl<;>omega
  obtain ⟨s1,s2,s3⟩:=hm6.isS;have sz6:=st_PA h6 g.harts s1 s2 s3;obtain ⟨q6,h7,eq6,eh7,gq6,lh7⟩:=zj h6 [iI g.harts,d,r,t];rw [eh7,eq6] at sz6;have hm7:=(hm6.more (i:=q6) (by omega)).le lh7;have hs7:=(hs5.h.le l6).le lh7;have l7:=(l5.h.le' l6).le' lh7;have g57:=lh7.get (l6.get gq5);have tl1:=good.tl;have hln:ua [t]=some (iI (g.tasks.length:Int)):=by
   have:=(hm7.rows.own (t,6,xs) (by simp)).sl.len;rw [hm7.hts.length] at this;exact this
  have hn6:h5.next≤q6:=by have:=l6.next;omega
  clear hmd hm6 s1 s2 s3 l6 lh7 hs5 hv5 hin' gq5 hvS l5 eal;replace hm7:=za hm7;replace hs7:=za hs7;replace l7:=za l7;replace hg:=za hg;replace good:=za good;replace szs:=za szs;simp only [zb,aR,aW, *];refine yc (n:=g.tasks.length) hs7.h (by omega) (by omega) _ fun h8 l8 _ hs8=>?_;have hkt:=ya hs7.h.in (n:=g.tasks.length) (by omega);obtain ⟨k,ekk⟩:∃ k,(zh (zh r3 2).2 g.tasks.length).1=k:=⟨_,rfl⟩;rw [ekk] at hkt;rw [ekk];have hp5':=hp5.h;have hq1p':=hq1p.h;have hq1h':=hq1h.h;have g68:=l8.keep (i:=q6) (by omega) gq6;have g58:=l8.keep (i:=q5) (by omega) g57;have hm8:=hm7.h.but (p:=p) (by simp) l8;replace l8:=l7.h.trans l8;obtain ⟨tk,htk⟩:∃ o,g.tasks[k]? = some o:=⟨_,List.getElem?_eq_getElem hkt⟩;obtain ⟨id,tb,e4,eg,e5,hb8⟩:=hm8.at htk;have szT:=yj4 h8 tk.name tk.handler tk.hart tk.prio tk.line hb8.isS;obtain ⟨q8,h9,eq8,eh9,gq8,lh9⟩:=zj h8 [str tk.name,.bool tk.handler,iI tk.hart,iI tk.prio,iI tk.line,tb];rw [eh9,eq8] at szT;have hq68:=Heap.lt_of_get g68;have hm9:=(hm8.more (i:=q8) (by omega)).le lh9;have hb9:StsVB (Bx [q8,q6,q5,p,q1] [d,r,t]) h9 tb tk.body:=hb8.to fun id cs own hb hg=>⟨⟨fun hi=>(by
   have h1:=Heap.lt_of_get hg;rcases List.mem_cons.1 hi with rfl | hi
   ·omega
   ·exact hb.1 hi),hb.2⟩,lh9.get hg⟩
  have l9:=l8.le' lh9;have l0:h.le h9:=lh12.h.but' (by omega) l9;have g19:=l9.keep (i:=q1) (by omega) g1.h;have gd:=good.h;have hbt:∀ u ∈ g.tasks,ye u.body≤50000:=fun u hu=>Nat.le_trans (nSs_le u hu) (by have:=szs.h;omega);have htm:=List.mem_of_getElem? htk;have hbody:tk.body.length≤1000:=by
   have:=(gd.tasks tk htm).len;omega
  have f:=fun (x10 x11 x12:Value) vars=>wld_x (h0:=h) (n:=h5.next) (kind:=kind) hk10.h ⟨by have:=l9.next;have:=lh12.h.next;have:=l7.h.next;omega,by omega,hq1p',hp5',by omega,hn6,by omega⟩ l0 (hs8.le lh9) g19 (lh9.get g58) (lh9.get g68) gq8 hm9 hb9 (fun s hs=>⟨hkt,hbody,gd.ok,hbt,hbt tk htm,hs⟩) (by have:=gd.dl;omega) (by have:=gd.rl;omega) (N:=N) (vars:=vars) (x0:=v') (x4:=.bool al) (x9:=udq) (x10:=x10) (x11:=x11) (x12:=x12) Q hq.h;clear hq hm7 hs7 l7 good szs hs8 l8 hm8 htk hb8 hm9 hb9 l9 l0 g19 gd hbt htm hbody hkt hk10 lh9 g58 gq8 hq68 hg tl1;replace f:=za f;simp only [zb,aR,aW, *];exact f.h _ _ _ _
end Go.Eng.Sy
