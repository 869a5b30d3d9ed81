/-
  Part of a proof of the laws of layer 06 (syntax): what each function does.
  Conditions: none.
-/
import Derived.Test.YtgjipdebbflbpaaGreatDoorBa
import Derived.Test.YtgjipdebbflbpaaGreatDoorEc
import Derived.Shelf.Strconv.Itoa3
set_option linter.unusedSimpArgs false
set_option linter.unusedVariables false
namespace Go.Eng.Sy
open Go Go.Eng Go.Proofs
structure Tsk where
 name:List UInt8
 handler:Bool
 hart:Int
 prio:Int
 line:Int
 body:List St
structure Nm where
 name:List UInt8
 n:Int
structure Prg where
 harts:Int
 devs:List Nm
 ress:List Nm
 tasks:List Tsk
def TsC (h:Heap) (t:Tsk) (x:List Value):Prop:=∃ v,x=[str t.name,.bool t.handler,.int .i64 t.hart,.int .i64 t.prio,.int .i64 t.line,v]∧StsV h v t.body
def TsCs (h:Heap):List Tsk→List (List Value)→Prop
 | [],xs=>xs=[]
 | e::r,xs=>∃ x xr,xs=x::xr∧TsC h e x∧TsCs h r xr
def TssV (h:Heap) (v:Value) (l:List Tsk):Prop:=∃ xs,SlV h 6 v xs∧xs.length≤140737488355328∧TsCs h l xs
def NmsV (h:Heap) (v:Value) (l:List Nm):Prop:=SlV h 2 v (l.map fun d=>[str d.name,.int .i64 d.n])∧l.length≤140737488355328
def PrC (h:Heap) (p:Prg) (x:List Value):Prop:=∃ d r t,x=[.int .i64 p.harts,d,r,t]∧NmsV h d p.devs∧NmsV h r p.ress∧TssV h t p.tasks
theorem TsC.mono {h h' : Heap}(hl:h.le h'){t:Tsk}{x:List Value}(hx:TsC h t x):TsC h' t x:=let ⟨v,a,b⟩:=hx;⟨v,a,b.mono hl⟩
theorem TsCs.mono {h h' : Heap}(hl:h.le h'):∀ {l:List Tsk}{xs:List (List Value)},TsCs h l xs→TsCs h' l xs
 | [],_,hx=>hx
 | _::_,_,⟨x,xr,h1,h2,h3⟩=>⟨x,xr,h1,h2.mono hl,TsCs.mono hl h3⟩
theorem TssV.mono {h h' : Heap}(hl:h.le h'){v:Value}{l:List Tsk}(hv:TssV h v l):TssV h' v l:=let ⟨xs,a,c,b⟩:=hv;⟨xs,a.mono hl,c,b.mono hl⟩
theorem NmsV.mono {h h' : Heap}(hl:h.le h'){v:Value}{l:List Nm}(hv:NmsV h v l):NmsV h' v l:=⟨hv.1.mono hl,hv.2⟩
theorem PrC.mono {h h' : Heap}(hl:h.le h'){p:Prg}{x:List Value}(hx:PrC h p x):PrC h' p x:=let ⟨d,r,t,a,b,c,e⟩:=hx;⟨d,r,t,a,b.mono hl,c.mono hl,e.mono hl⟩
theorem TsCs.length {h:Heap}:∀ {l:List Tsk}{xs:List (List Value)},TsCs h l xs→xs.length=l.length
 | [],_,hx=>by rw [show _=[] from hx];rfl
 | _::_,_,⟨x,xr,h1,h2,h3⟩=>by rw [h1];simp [TsCs.length h3]
theorem TsCs.get {h:Heap}:∀ {l:List Tsk}{xs:List (List Value)},TsCs h l xs → ∀ (i:Nat) e,l[i]? = some e → ∃ x,xs[i]? = some x∧TsC h e x
 | [],_,_,i,e,hi=>by simp at hi
 | a::r,_,⟨x,xr,h1,h2,h3⟩,0,e,hi=>by simp at hi;subst hi;exact ⟨x,by rw [h1];rfl,h2⟩
 | a::r,_,⟨x,xr,h1,h2,h3⟩,i + 1,e,hi=>by
  obtain ⟨y,h4,h5⟩:=TsCs.get h3 i e (by simpa using hi)
  exact ⟨y,by rw [h1];simpa using h4,h5⟩
theorem TssV.len {h:Heap}{v:Value}{l:List Tsk}(hv:TssV h v l):Yb [v]=some (.int .i64 l.length):=by
 obtain ⟨xs,a,c,b⟩:=hv;rw [a.len,b.length]
theorem NmsV.len {h:Heap}{v:Value}{l:List Nm}(hv:NmsV h v l):Yb [v]=some (.int .i64 l.length):=by
 rw [hv.1.len];simp
theorem TssV.one {h:Heap}{v:Value}{l:List Tsk}(hv:TssV h v l):v.oneCell' = true:=hv.elim fun _ a=>SlV.one a.1
theorem NmsV.one {h:Heap}{v:Value}{l:List Nm}(hv:NmsV h v l):v.oneCell' = true:=SlV.one hv.1
def vm (d:Nm):Bool:=zp d.name && decide (1≤d.n∧d.n≤3)
def vc (d:Nm):Bool:=zp d.name && decide (1≤d.n∧d.n≤8)
def jk (t:Tsk):Bool:=zp t.name && decide (0≤t.hart∧t.hart≤3) && decide (1≤t.prio∧t.prio≤7) && decide (0≤t.line∧t.line≤(if t.handler then 7 else 0)) && yo t.body 30
def jq (p:Prg):Bool:=decide (1≤p.harts∧p.harts≤4) && decide (p.devs.length≤8) && decide (p.ress.length≤8) && decide (p.tasks.length≤16) && p.devs.all vm && p.ress.all vc && p.tasks.all jk
end Go.Eng.Sy
namespace Go.Eng.Sy
open Go Go.Eng Go.Proofs
abbrev tsV (m:List UInt8) (b:Bool) (a p l:Int) (v:Value):Value:=.agg #[str m,.bool b,.int .i64 a,.int .i64 p,.int .i64 l,v]
theorem zk8 {m:List UInt8}{b:Bool}{a p l:Int}{v:Value}(hv:v.oneCell' = true):ze6 [tsV m b a p l v]=some ([str m,.bool b,.int .i64 a,.int .i64 p,.int .i64 l,v],fun id=>.pointer (some ⟨id,0,none⟩)):=by
 simpa [ze6,Value.cells,Value.oneCell'] using hv
set_option maxHeartbeats 2000000 in
theorem task_c {h:Heap}{t:Tsk}{x:List Value}(hx:TsC h t x) (Q:Value→Heap→Prop) (hq:∀ h',h.le h' → Q (.bool (jk t)) h'):CallW Tryz.prog 39 [.agg x.toArray] h Q:=by
 obtain ⟨v,rfl,hv⟩:=hx
 obtain ⟨m,b,a,p,l,body⟩:=t
 simp only at hv ⊢
 have b1:=zk8 (m:=m) (b:=b) (a:=a) (p:=p) (l:=l) hv.one
 have l1:=(Heap.le.refl h).alloc (.blk [str m,.bool b,.int .i64 a,.int .i64 p,.int .i64 l,v] true)
 replace l1:=Hid.mk l1
 replace hv:=Hid.mk hv
 refine zi (k:=2) ok39 rfl rfl rfl fun N=>?_
 rw [show y0 c39 [tsV m b a p l v]=[tsV m b a p l v,undef,undef,undef] from rfl]
 delta c39
 replace hq:=zb hq
 have ew:jk ⟨m,b,a,p,l,body⟩=(zp m && decide (0≤a∧a≤3) && decide (1≤p∧p≤7) && decide (0≤l∧l≤(if b then 7 else 0)) && yo body 30):=rfl
 rw [ew] at hq
 clear ew
 obtain ⟨most,hm⟩:∃ z:Int,(if b=true then 7 else 0:Int)=z:=⟨_,rfl⟩
 rw [hm] at hq
 cases b with
 | true =>
  simp only [if_true] at hm
  subst hm
  simp only [za,aR, *]
  refine Yz _ _ fun h2 hl=>?_
  have gp:=hl.get (Heap.get_alloc_same h (.blk [str m,.bool true,.int .i64 a,.int .i64 p,.int .i64 l,v] true))
  have l2:=Hid.mk (l1.h.trans hl)
  clear hl l1 b1
  cases c1:zp m with
  | false =>
   have g:=hq.h h2 l2.h
   simp only [Bool.true_and,Bool.false_and,Bool.and_true,Bool.and_false,c1] at g
   clear hq
   replace g:=Hid.mk g
   simp only [za, *]
   exact g.h
  | true =>
  simp only [za,aR, *]
  refine wo _ _ _ _ _ ?_
  cases c2:decide (0≤a∧a≤3) with
  | false =>
   have g:=hq.h h2 l2.h
   simp only [Bool.true_and,Bool.false_and,Bool.and_true,Bool.and_false,c1,c2] at g
   clear hq
   replace g:=Hid.mk g
   simp only [za, *]
   exact g.h
  | true =>
  simp only [za,aR, *]
  refine wo _ _ _ _ _ ?_
  cases c3:decide (1≤p∧p≤7) with
  | false =>
   have g:=hq.h h2 l2.h
   simp only [Bool.true_and,Bool.false_and,Bool.and_true,Bool.and_false,c1,c2,c3] at g
   clear hq
   replace g:=Hid.mk g
   simp only [za, *]
   exact g.h
  | true =>
  simp only [za,aR, *]
  refine wo _ _ _ _ _ ?_
  cases c4:decide (0≤l∧l≤7) with
  | false =>
   have g:=hq.h h2 l2.h
   simp only [Bool.true_and,Bool.false_and,Bool.and_true,Bool.and_false,c1,c2,c3,c4] at g
   clear hq
   replace g:=Hid.mk g
   simp only [za, *]
   exact g.h
  | true =>
  simp only [za,aR, *]
  refine all_c 30 (by omega) body v _ _ (hv.h.mono l2.h) fun h3 l3=>?_
  have g:=hq.h h3 (l2.h.trans l3)
  simp only [Bool.true_and,c1,c2,c3,c4] at g
  clear hq l3
  replace g:=Hid.mk g
  simp only [za, *]
  exact g.h
 | false =>
  simp only [Bool.false_eq_true,if_false] at hm
  subst hm
  simp only [za,aR, *]
  refine Yz _ _ fun h2 hl=>?_
  have gp:=hl.get (Heap.get_alloc_same h (.blk [str m,.bool false,.int .i64 a,.int .i64 p,.int .i64 l,v] true))
  have l2:=Hid.mk (l1.h.trans hl)
  clear hl l1 b1
  cases c1:zp m with
  | false =>
   have g:=hq.h h2 l2.h
   simp only [Bool.true_and,Bool.false_and,Bool.and_true,Bool.and_false,c1] at g
   clear hq
   replace g:=Hid.mk g
   simp only [za, *]
   exact g.h
  | true =>
  simp only [za,aR, *]
  refine wo _ _ _ _ _ ?_
  cases c2:decide (0≤a∧a≤3) with
  | false =>
   have g:=hq.h h2 l2.h
   simp only [Bool.true_and,Bool.false_and,Bool.and_true,Bool.and_false,c1,c2] at g
   clear hq
   replace g:=Hid.mk g
   simp only [za, *]
   exact g.h
  | true =>
  simp only [za,aR, *]
  refine wo _ _ _ _ _ ?_
  cases c3:decide (1≤p∧p≤7) with
  | false =>
   have g:=hq.h h2 l2.h
   simp only [Bool.true_and,Bool.false_and,Bool.and_true,Bool.and_false,c1,c2,c3] at g
   clear hq
   replace g:=Hid.mk g
   simp only [za, *]
   exact g.h
  | true =>
  simp only [za,aR, *]
  refine wo _ _ _ _ _ ?_
  cases c4:decide (0≤l∧l≤0) with
  | false =>
   have g:=hq.h h2 l2.h
   simp only [Bool.true_and,Bool.false_and,Bool.and_true,Bool.and_false,c1,c2,c3,c4] at g
   clear hq
   replace g:=Hid.mk g
   simp only [za, *]
   exact g.h
  | true =>
  simp only [za,aR, *]
  refine all_c 30 (by omega) body v _ _ (hv.h.mono l2.h) fun h3 l3=>?_
  have g:=hq.h h3 (l2.h.trans l3)
  simp only [Bool.true_and,c1,c2,c3,c4] at g
  clear hq l3
  replace g:=Hid.mk g
  simp only [za, *]
  exact g.h
end Go.Eng.Sy
namespace Go.Eng.Sy
open Go Go.Eng Go.Proofs
abbrev nmV (m:List UInt8) (k:Int):Value:=.agg #[str m,.int .i64 k]
theorem box_nm (m:List UInt8) (k:Int):ze6 [nmV m k]=some ([str m,.int .i64 k],fun id=>.pointer (some ⟨id,0,none⟩)):=rfl
theorem dev1_c (d:Nm) (h:Heap) (Q:Value→Heap→Prop) (hq:∀ h',h.le h' → Q (.bool (!vm d)) h'):CallW Tryz.prog 34 [.agg #[str d.name,.int .i64 d.n]] h Q:=by
 obtain ⟨m,k⟩:=d
 have b1:=box_nm m k
 have l1:=(Heap.le.refl h).alloc (.blk [str m,.int .i64 k] true)
 replace l1:=Hid.mk l1
 refine zi (k:=2) ok34 rfl rfl rfl fun N=>?_
 rw [show y0 c34 [nmV m k]=[nmV m k,undef,undef] from rfl]
 delta c34
 replace hq:=zb hq
 have ew:vm ⟨m,k⟩=(zp m && decide (1≤k∧k≤3)):=rfl
 rw [ew] at hq
 clear ew
 simp only [za,aR, *]
 refine Yz _ _ fun h2 hl=>?_
 have gp:=hl.get (Heap.get_alloc_same h (.blk [str m,.int .i64 k] true))
 have g:=hq.h h2 (l1.h.trans hl)
 clear hq hl l1 b1
 cases c1:zp m with
 | false =>
  simp only [c1,Bool.false_and,Bool.not_false] at g
  replace g:=Hid.mk g
  simp only [za, *]
  exact g.h
 | true =>
  simp only [c1,Bool.true_and] at g
  replace g:=Hid.mk g
  simp only [za,aR, *]
  refine wo _ _ _ _ _ ?_
  simp only [za, *]
  exact g.h
theorem res1_c (d:Nm) (h:Heap) (Q:Value→Heap→Prop) (hq:∀ h',h.le h' → Q (.bool (!vc d)) h'):CallW Tryz.prog 37 [.agg #[str d.name,.int .i64 d.n]] h Q:=by
 obtain ⟨m,k⟩:=d
 have b1:=box_nm m k
 have l1:=(Heap.le.refl h).alloc (.blk [str m,.int .i64 k] true)
 replace l1:=Hid.mk l1
 refine zi (k:=2) ok37 rfl rfl rfl fun N=>?_
 rw [show y0 c37 [nmV m k]=[nmV m k,undef,undef] from rfl]
 delta c37
 replace hq:=zb hq
 have ew:vc ⟨m,k⟩=(zp m && decide (1≤k∧k≤8)):=rfl
 rw [ew] at hq
 clear ew
 simp only [za,aR, *]
 refine Yz _ _ fun h2 hl=>?_
 have gp:=hl.get (Heap.get_alloc_same h (.blk [str m,.int .i64 k] true))
 have g:=hq.h h2 (l1.h.trans hl)
 clear hq hl l1 b1
 cases c1:zp m with
 | false =>
  simp only [c1,Bool.false_and,Bool.not_false] at g
  replace g:=Hid.mk g
  simp only [za, *]
  exact g.h
 | true =>
  simp only [c1,Bool.true_and] at g
  replace g:=Hid.mk g
  simp only [za,aR, *]
  refine wo _ _ _ _ _ ?_
  simp only [za, *]
  exact g.h
theorem task1_c {t:Tsk}{x:List Value}{h:Heap}(hx:TsC h t x) (Q:Value→Heap→Prop) (hq:∀ h',h.le h' → Q (.bool (!jk t)) h'):CallW Tryz.prog 38 [.agg x.toArray] h Q:=by
 have hx0:=hx
 obtain ⟨v,rfl,hv⟩:=hx
 have b1:=zk8 (m:=t.name) (b:=t.handler) (a:=t.hart) (p:=t.prio) (l:=t.line) hv.one
 have l1:=(Heap.le.refl h).alloc (.blk [str t.name,.bool t.handler,.int .i64 t.hart,.int .i64 t.prio,.int .i64 t.line,v] true)
 have hx1:=hx0.mono l1
 replace l1:=Hid.mk l1
 replace hx1:=Hid.mk hx1
 clear hx0 hv
 refine zi (k:=2) ok38 rfl rfl rfl fun N=>?_
 rw [show y0 c38 [tsV t.name t.handler t.hart t.prio t.line v]=[tsV t.name t.handler t.hart t.prio t.line v,undef,undef] from rfl]
 delta c38
 replace hq:=zb hq
 simp only [za,aR,K9, *]
 refine task_c hx1.h _ fun h2 hl=>?_
 have g:=hq.h h2 (l1.h.trans hl)
 clear hl
 replace g:=Hid.mk g
 simp only [za, *]
 exact g.h
end Go.Eng.Sy
namespace Go.Eng.Sy
open Go Go.Eng Go.Proofs
abbrev prV (n:Int) (d r t:Value):Value:=.agg #[.int .i64 n,d,r,t]
theorem Yd {n:Int}{d r t:Value}(h1:d.oneCell' = true) (h2:r.oneCell' = true) (h3:t.oneCell' = true):ze6 [prV n d r t]=some ([.int .i64 n,d,r,t],fun id=>.pointer (some ⟨id,0,none⟩)):=by
 simpa [ze6,Value.cells,Value.oneCell'] using ⟨h1,h2,h3⟩
theorem ze4 {α:Type}(l:List α) (p:α→Bool):(!(l.any fun e=>!p e))=l.all p:=by rw [List.all_eq_not_any_not]
theorem zv4 {l:List Nm}{i:Nat}{e:Nm}{x:List Value}(he:l[i]? = some e) (hx:(l.map fun d=>[str d.name,Value.int .i64 d.n])[i]? = some x):x=[str e.name,.int .i64 e.n]:=by
 simp [he] at hx;exact hx.symm
set_option maxHeartbeats 2000000 in
theorem Uc {h:Heap}{p:Prg}{x:List Value}(hx:PrC h p x) (Q:Value→Heap→Prop) (hq:∀ h',h.le h' → Q (.bool (jq p)) h'):CallW Tryz.prog 11 [.agg x.toArray] h Q:=by
 obtain ⟨d,r,t,rfl,hd,hr,ht⟩:=hx
 obtain ⟨n,devs,ress,tasks⟩:=p
 simp only at hd hr ht ⊢
 have b1:=Yd (n:=n) hd.one hr.one ht.one
 have l1:=(Heap.le.refl h).alloc (.blk [.int .i64 n,d,r,t] true)
 have gp:=Heap.get_alloc_same h (.blk [.int .i64 n,d,r,t] true)
 obtain ⟨q,hqn⟩:∃ q,h.next=q:=⟨_,rfl⟩
 obtain ⟨h1,hh1⟩:∃ h1,h.alloc (.blk [.int .i64 n,d,r,t] true)=h1:=⟨_,rfl⟩
 rw [hh1,hqn] at gp
 rw [hh1] at l1
 replace l1:=Hid.mk l1
 have ld:=hd.len
 have lr:=hr.len
 obtain ⟨ts,hts,htb,htc⟩:=ht
 have lt:=hts.len
 rw [htc.length] at lt
 have hlt:=htc.length
 replace hd:=Hid.mk hd
 replace hr:=Hid.mk hr
 replace hts:=Hid.mk hts
 replace htc:=Hid.mk htc
 refine zi (k:=2) ok11 rfl rfl rfl fun N=>?_
 rw [show y0 c11 [prV n d r t]=[prV n d r t,undef,undef,undef,undef,undef] from rfl]
 delta c11
 replace hq:=zb hq
 have ew:jq ⟨n,devs,ress,tasks⟩=(decide (1≤n∧n≤4) && decide (devs.length≤8) && decide (ress.length≤8) && decide (tasks.length≤16) && devs.all vm && ress.all vc && tasks.all jk):=rfl
 rw [ew] at hq
 clear ew
 simp only [za,aR, *]
 refine wo _ _ _ _ _ ?_
 clear hh1 hqn b1
 cases c1:decide (1≤n∧n≤4) with
 | false =>
  have g:=hq.h h1 l1.h
  simp only [Bool.true_and,Bool.false_and,Bool.and_true,Bool.and_false,Bool.not_true,Bool.not_false,c1] at g
  clear hq
  replace g:=Hid.mk g
  simp only [za, *]
  exact g.h
 | true =>
 by_cases c2:devs.length≤8
 case neg =>
  have c2n:¬ (devs.length:Int)≤8:=by omega
  have c2f:=decide_eq_false c2
  have g:=hq.h h1 l1.h
  simp only [Bool.true_and,Bool.false_and,Bool.and_true,Bool.and_false,Bool.not_true,Bool.not_false,c1,c2f] at g
  clear hq
  replace g:=Hid.mk g
  simp only [za,aR,zf,zg, *]
  exact g.h
 have c2n:(devs.length:Int)≤8:=by omega
 have c2t:=decide_eq_true c2
 by_cases c3:ress.length≤8
 case neg =>
  have c3n:¬ (ress.length:Int)≤8:=by omega
  have c3f:=decide_eq_false c3
  have g:=hq.h h1 l1.h
  simp only [Bool.true_and,Bool.false_and,Bool.and_true,Bool.and_false,Bool.not_true,Bool.not_false,c1,c2t,c3f] at g
  clear hq
  replace g:=Hid.mk g
  simp only [za,aR,zf,zg, *]
  exact g.h
 have c3n:(ress.length:Int)≤8:=by omega
 have c3t:=decide_eq_true c3
 by_cases c4:tasks.length≤16
 case neg =>
  have c4n:¬ (tasks.length:Int)≤16:=by omega
  have c4f:=decide_eq_false c4
  have g:=hq.h h1 l1.h
  simp only [Bool.true_and,Bool.false_and,Bool.and_true,Bool.and_false,Bool.not_true,Bool.not_false,c1,c2t,c3t,c4f] at g
  clear hq
  replace g:=Hid.mk g
  simp only [za,aR,zf,zg, *]
  exact g.h
 have c4n:(tasks.length:Int)≤16:=by omega
 have c4t:=decide_eq_true c4
 simp only [za,aR,zf,zg, *]
 refine Q3 (p:=fun e=>!vm e) (hd.h.mono l1.h).1 (by simp) hd.h.2 (fun i e x he hx h2 Q2 hl2 hq2=>?_) _ fun v2 h2 hv2 hl2=>?_
 ·refine CallW.val (first:=#[]) (captured:=#[]) ?_
  obtain rfl:=zv4 he hx
  exact dev1_c e h2 Q2 fun h' hl'=>hq2 _ _ rfl hl'
 subst hv2
 have gp2:=hl2.get gp
 have l2:=Hid.mk (l1.h.trans hl2)
 clear gp l1 hl2
 have ea:=ze4 devs vm
 cases c5:devs.all vm with
 | false =>
  rw [c5] at ea
  have g:=hq.h h2 l2.h
  simp only [Bool.true_and,Bool.false_and,Bool.and_true,Bool.and_false,Bool.not_true,Bool.not_false,c1,c2t,c3t,c4t,c5] at g
  clear hq
  replace g:=Hid.mk g
  simp only [za, *]
  exact g.h
 | true =>
 rw [c5] at ea
 simp only [za,aR, *]
 refine Q0 (p:=fun e=>!vc e) (hr.h.mono l2.h).1 (by simp) hr.h.2 (fun i e x he hx h2 Q2 hl2 hq2=>?_) _ fun v2 h3 hv2 hl2=>?_
 ·refine CallW.val (first:=#[]) (captured:=#[]) ?_
  obtain rfl:=zv4 he hx
  exact res1_c e h2 Q2 fun h' hl'=>hq2 _ _ rfl hl'
 subst hv2
 have gp3:=hl2.get gp2
 have l3:=Hid.mk (l2.h.trans hl2)
 clear gp2 l2 hl2 ea
 have ea:=ze4 ress vc
 cases c6:ress.all vc with
 | false =>
  rw [c6] at ea
  have g:=hq.h h3 l3.h
  simp only [Bool.true_and,Bool.false_and,Bool.and_true,Bool.and_false,Bool.not_true,Bool.not_false,c1,c2t,c3t,c4t,c5,c6] at g
  clear hq
  replace g:=Hid.mk g
  simp only [za, *]
  exact g.h
 | true =>
 rw [c6] at ea
 simp only [za,aR, *]
 refine Qy (p:=fun e=>!jk e) (hts.h.mono l3.h) hlt (by omega) (fun i e x he hx h2 Q2 hl2 hq2=>?_) _ fun v2 h4 hv2 hl2=>?_
 ·refine CallW.val (first:=#[]) (captured:=#[]) ?_
  obtain ⟨x',hx',hex⟩:=htc.h.get i e he
  rw [hx] at hx';cases hx'
  exact task1_c (hex.mono (l3.h.trans hl2)) Q2 fun h' hl'=>hq2 _ _ rfl hl'
 subst hv2
 clear ea
 have ea:=ze4 tasks jk
 have g:=hq.h h4 (l3.h.trans hl2)
 simp only [Bool.true_and,c1,c2t,c3t,c4t,c5,c6] at g
 rw [← ea] at g
 clear hq hl2 ea
 replace g:=Hid.mk g
 simp only [za, *]
 exact g.h
end Go.Eng.Sy
namespace Go.Eng.Sy
open Go Go.Eng Go.Proofs
mutual
def Kt:Ex→Nat
 | .mk _ _ _ _ args=>1 + yc args
def yc:List Ex→Nat
 | []=>0
 | e::r=>Kt e + yc r
end
mutual
def vz:St→Nat
 | .mk _ _ _ _ args thn els=>1 + yc args + zr thn + zr els
def zr:List St→Nat
 | []=>0
 | s::r=>vz s + zr r
end
theorem Wq (e:Ex):Kt e=1 + yc e.args:=by cases e;simp [Kt,Ex.args]
theorem Wp (e:St):vz e=1 + yc e.args + zr e.thn + zr e.els:=by cases e;simp [vz,St.args,St.thn,St.els]
theorem Z1:∀ {l:List Ex}{i:Nat}{e:Ex},l[i]? = some e→Kt e≤yc l
 | [],i,e,h=>by simp at h
 | a::r,0,e,h=>by simp at h;subst h;simp [yc]
 | a::r,i + 1,e,h=>by have:=Z1 (l:=r) (i:=i) (by simpa using h);simp [yc];omega
theorem Z0:∀ {l:List St}{i:Nat}{e:St},l[i]? = some e→vz e≤zr l
 | [],i,e,h=>by simp at h
 | a::r,0,e,h=>by simp at h;subst h;simp [zr]
 | a::r,i + 1,e,h=>by have:=Z0 (l:=r) (i:=i) (by simpa using h);simp [zr];omega
theorem Qh:∀ (l:List Ex) (i:Nat) (e:Ex),l[i]? = some e→yc (l.take (i + 1))=yc (l.take i) + Kt e
 | [],i,e,h=>by simp at h
 | a::r,0,e,h=>by simp at h;subst h;simp [yc]
 | a::r,i + 1,e,h=>by have:=Qh r i e (by simpa using h);simp only [List.take_succ_cons,yc,this];omega
theorem Qg:∀ (l:List St) (i:Nat) (e:St),l[i]? = some e→zr (l.take (i + 1))=zr (l.take i) + vz e
 | [],i,e,h=>by simp at h
 | a::r,0,e,h=>by simp at h;subst h;simp [zr]
 | a::r,i + 1,e,h=>by have:=Qg r i e (by simpa using h);simp only [List.take_succ_cons,zr,this];omega
theorem wadd (a b:Int):IntKind.i64.wrap (IntKind.i64.wrap a + IntKind.i64.wrap b)=IntKind.i64.wrap (a + b):=by
 simp only [IntKind.wrap_i64]
 omega
end Go.Eng.Sy
namespace Go.Eng.Sy
open Go Go.Eng Go.Proofs
theorem wid {z:Int}(h1 : -9223372036854775808≤z) (h2:z≤9223372036854775807):z=IntKind.i64.wrap z:=(z6 h1 h2).symm
theorem zr8 (h:Heap) (k o n:Int) (m:List UInt8){v:Value}(hv:v.oneCell' = true):yh 5 (h.alloc (.blk [.int .i64 0,.int .i64 0,.int .i64 0,.string ⟨#[]⟩,.slice none 0 0] true)) [.pointer (some ⟨h.next,0,none⟩),exV k o n m v] =
  some (undef,h.alloc (.blk [.int .i64 k,.int .i64 o,.int .i64 n,str m,v] true)):=zy rfl rfl rfl (by simpa [Value.oneCell'] using hv)
theorem Uk (h:Heap) (k n:Int) (m f:List UInt8){v u w:Value}(hv:v.oneCell' = true) (hu:u.oneCell' = true) (hw:w.oneCell' = true):yh 7 (h.alloc (.blk [.int .i64 0,.string ⟨#[]⟩,.string ⟨#[]⟩,.int .i64 0,.slice none 0 0,.slice none 0 0,.slice none 0 0] true)) [.pointer (some ⟨h.next,0,none⟩),stV k m f n v u w] =
  some (undef,h.alloc (.blk [.int .i64 k,str m,str f,.int .i64 n,v,u,w] true)):=zy rfl rfl rfl (by simpa [Value.oneCell'] using ⟨hv,hu,hw⟩)
theorem count_c:∀ (M:Nat) (l:List Ex),yc l≤M → ∀ (v:Value) (h:Heap) (Q:Value→Heap→Prop),ExsV h v l→(∀ h',h.le h' → Q (.int .i64 (IntKind.i64.wrap (yc l))) h')→CallW Tryz.prog 82 [v] h Q:=by
 intro M
 induction M using Nat.strongRecOn with
 | _ M ih =>
 intro l hM v h Q hv hq
 have hln:=hv.len
 have hle:=hv.le
 replace ih:=Hid.mk ih
 replace hv:=Hid.mk hv
 refine zi (k:=1) ok82 rfl rfl rfl fun N=>?_
 rw [show y0 c82 [v]=[v,undef,undef,undef,undef,undef,undef,undef] from rfl]
 delta c82
 replace hq:=zb hq
 have h0:(l.length:Int)=IntKind.i64.wrap ((l.length:Int) + ((yc (l.take 0):Int) - ((0:Nat):Int))):=by
  have e0:(l.length:Int) + ((yc (l.take 0):Int) - ((0:Nat):Int))=l.length:=by simp [yc]
  rw [e0];exact wid (by omega) (by omega)
 replace h0:=Hid.mk h0
 repeat' (first | simp only [za,aR,aW,zf,zg,Int.reduceBEq,Int.reduceBNe,Nat.reduceBEq,Int.reduceLT,Int.reduceLE, *] | with_reducible (first | refine kcd ?_ ?_ | refine kgd ?_ ?_ | refine kci ?_ ?_ | refine kgi ?_ ?_)<;>intro hc)
 refine LoopW.upto l.length (fun i e h1=>h.le h1 ∧ ∃ x2 x7,e=[v,.int .i64 0,.int .i64 (IntKind.i64.wrap ((l.length:Int) + ((yc (l.take i):Int) - i))),x2,v,.int .i64 l.length,.int .i64 i,x7]) ?_ (Nat.zero_le _) ⟨Heap.le.refl h,_,_,by rw [← h0.h];rfl⟩
 rintro i _ h1 R hi ⟨hl1,x2,x7,rfl⟩ hR
 delta c82_l7
 by_cases hlt:i < l.length
 ·have hlt' : (i:Int) < l.length:=by omega
  obtain ⟨e,he⟩:∃ e,l[i]? = some e:=⟨_,List.getElem?_eq_getElem hlt⟩
  obtain ⟨id,off,cells,own,x,e1,e2,e3,hex,_⟩:=(hv.h.mono hl1).elem he
  obtain ⟨u,hval,hargs⟩:=hex.val
  rw [hval] at e3
  have sz:=zr8 h1 e.kind e.op e.n e.name hargs.one
  have hw:IntKind.i64.wrap ((i:Int) + 1)=((i + 1:Nat):Int):=by rw [z6 (by omega) (by omega)];rfl
  have hmem:=Z1 he
  have hce:=Wq e
  have htk:=Qh l i e he
  have l2:=(Heap.le.refl h1).alloc (.blk [.int .i64 e.kind,.int .i64 e.op,.int .i64 e.n,str e.name,u] true)
  have ha2:=hargs.mono l2
  replace l2:=Hid.mk (hl1.trans l2)
  replace ha2:=Hid.mk ha2
  clear hargs hex hval
  repeat' (first | simp only [za,aR,aW,zf,zg,Int.reduceBEq,Int.reduceBNe,Nat.reduceBEq,Int.reduceLT,Int.reduceLE, *] | with_reducible (first | refine kcd ?_ ?_ | refine kgd ?_ ?_ | refine kci ?_ ?_ | refine kgi ?_ ?_)<;>intro hc)
  refine ih.h (yc e.args) (by omega) e.args (Nat.le_refl _) u _ _ ha2.h fun h3 l3=>?_
  have ws:=wadd ((l.length:Int) + ((yc (l.take i):Int) - i)) (yc e.args)
  have g:=hR.h
  clear hR
  have ei:(l.length:Int) + ((yc (l.take i):Int) - i) + yc e.args=(l.length:Int) + ((yc (l.take (i + 1)):Int) - ((i + 1:Nat):Int)):=by omega
  rw [ei] at ws
  clear ei hmem hce htk
  replace g:=Hid.mk g
  replace l3:=Hid.mk (l2.h.trans l3)
  repeat' (first | simp only [za,aR,aW,zf,zg,Int.reduceBEq,Int.reduceBNe,Nat.reduceBEq,Int.reduceLT,Int.reduceLE, *] | with_reducible (first | refine kcd ?_ ?_ | refine kgd ?_ ?_ | refine kci ?_ ?_ | refine kgi ?_ ?_)<;>intro hc)
  exact g.h _ _ hlt ⟨l3.h,_,_,rfl⟩
 ·have hlt' : ¬ (i:Int) < l.length:=by omega
  have hi2:i=l.length:=by omega
  subst hi2
  have g:=hq.h h1 hl1
  have ee:(l.length:Int) + ((yc (l.take l.length):Int) - (l.length:Int))=(yc l:Int):=by rw [List.take_length];omega
  rw [← ee] at g
  clear ee
  replace g:=Hid.mk g
  repeat' (first | simp only [za,aR,aW,zf,zg,Int.reduceBEq,Int.reduceBNe,Nat.reduceBEq,Int.reduceLT,Int.reduceLE, *] | with_reducible (first | refine kcd ?_ ?_ | refine kgd ?_ ?_ | refine kci ?_ ?_ | refine kgi ?_ ?_)<;>intro hc)
  exact g.h
end Go.Eng.Sy
namespace Go.Eng.Sy
open Go Go.Eng Go.Proofs
theorem wadd2 (n:Int) (a b c:Int):IntKind.i64.wrap (IntKind.i64.wrap n + IntKind.i64.wrap (IntKind.i64.wrap (IntKind.i64.wrap a + IntKind.i64.wrap b) + IntKind.i64.wrap c))=IntKind.i64.wrap (n + (a + b + c)):=by
 simp only [IntKind.wrap_i64]
 omega
theorem zy9:∀ (M:Nat) (l:List St),zr l≤M → ∀ (v:Value) (h:Heap) (Q:Value→Heap→Prop),StsV h v l→(∀ h',h.le h' → Q (.int .i64 (IntKind.i64.wrap (zr l))) h')→CallW Tryz.prog 50 [v] h Q:=by
 intro M
 induction M using Nat.strongRecOn with
 | _ M ih =>
 intro l hM v h Q hv hq
 have hln:=hv.len
 have hle:=hv.le
 replace ih:=Hid.mk ih
 replace hv:=Hid.mk hv
 refine zi (k:=1) ok50 rfl rfl rfl fun N=>?_
 rw [show y0 c50 [v]=[v,undef,undef,undef,undef,undef,undef,undef] from rfl]
 delta c50
 replace hq:=zb hq
 have h0:(l.length:Int)=IntKind.i64.wrap ((l.length:Int) + ((zr (l.take 0):Int) - ((0:Nat):Int))):=by
  have e0:(l.length:Int) + ((zr (l.take 0):Int) - ((0:Nat):Int))=l.length:=by simp [zr]
  rw [e0];exact wid (by omega) (by omega)
 replace h0:=Hid.mk h0
 repeat' (first | simp only [za,aR,aW,zf,zg,Int.reduceBEq,Int.reduceBNe,Nat.reduceBEq,Int.reduceLT,Int.reduceLE, *] | with_reducible (first | refine kcd ?_ ?_ | refine kgd ?_ ?_ | refine kci ?_ ?_ | refine kgi ?_ ?_)<;>intro hc)
 refine LoopW.upto l.length (fun i e h1=>h.le h1 ∧ ∃ x2 x7,e=[v,.int .i64 0,.int .i64 (IntKind.i64.wrap ((l.length:Int) + ((zr (l.take i):Int) - i))),x2,v,.int .i64 l.length,.int .i64 i,x7]) ?_ (Nat.zero_le _) ⟨Heap.le.refl h,_,_,by rw [← h0.h];rfl⟩
 rintro i _ h1 R hi ⟨hl1,x2,x7,rfl⟩ hR
 delta c50_l7
 by_cases hlt:i < l.length
 ·have hlt' : (i:Int) < l.length:=by omega
  obtain ⟨e,he⟩:∃ e,l[i]? = some e:=⟨_,List.getElem?_eq_getElem hlt⟩
  obtain ⟨id,off,cells,own,x,e1,e2,e3,hex,_⟩:=(hv.h.mono hl1).elem he
  obtain ⟨v1,v2,v3,hval,hargs,hthn,hels⟩:=hex.val
  rw [hval] at e3
  have sz:=Uk h1 e.kind e.n e.name e.src hargs.one hthn.one hels.one
  have hw:IntKind.i64.wrap ((i:Int) + 1)=((i + 1:Nat):Int):=by rw [z6 (by omega) (by omega)];rfl
  have hmem:=Z0 he
  have hce:=Wp e
  have htk:=Qg l i e he
  have l2:=(Heap.le.refl h1).alloc (.blk [.int .i64 e.kind,str e.name,str e.src,.int .i64 e.n,v1,v2,v3] true)
  have gp:=Heap.get_alloc_same h1 (.blk [.int .i64 e.kind,str e.name,str e.src,.int .i64 e.n,v1,v2,v3] true)
  have ha2:=hargs.mono l2
  have ht2:=hthn.mono l2
  have hs2:=hels.mono l2
  obtain ⟨h2,hh2⟩:∃ h2,h1.alloc (.blk [.int .i64 e.kind,str e.name,str e.src,.int .i64 e.n,v1,v2,v3] true)=h2:=⟨_,rfl⟩
  obtain ⟨p,hp⟩:∃ p,h1.next=p:=⟨_,rfl⟩
  rw [hh2] at l2 gp ha2 ht2 hs2 sz
  rw [hp] at gp sz
  replace l2:=Hid.mk (hl1.trans l2)
  replace ha2:=Hid.mk ha2
  replace ht2:=Hid.mk ht2
  replace hs2:=Hid.mk hs2
  clear hargs hthn hels hex hval
  repeat' (first | simp only [za,aR,aW,zf,zg,Int.reduceBEq,Int.reduceBNe,Nat.reduceBEq,Int.reduceLT,Int.reduceLE,wx, *] | with_reducible (first | refine kcd ?_ ?_ | refine kgd ?_ ?_ | refine kci ?_ ?_ | refine kgi ?_ ?_)<;>intro hc)
  refine count_c _ e.args (Nat.le_refl _) v1 _ _ ha2.h fun h3 l3=>jr l3.ext ?_
  have g3:=l3.get gp
  have ht3:=Hid.mk (ht2.h.mono l3)
  have hs3:=Hid.mk (hs2.h.mono l3)
  replace l3:=Hid.mk (l2.h.trans l3)
  repeat' (first | simp only [za,aR,aW,zf,zg,Int.reduceBEq,Int.reduceBNe,Nat.reduceBEq,Int.reduceLT,Int.reduceLE,wx, *] | with_reducible (first | refine kcd ?_ ?_ | refine kgd ?_ ?_ | refine kci ?_ ?_ | refine kgi ?_ ?_)<;>intro hc)
  refine ih.h (zr e.thn) (by omega) e.thn (Nat.le_refl _) v2 _ _ ht3.h fun h4 l4=>jr l4.ext ?_
  have g4:=l4.get g3
  have hs4:=Hid.mk (hs3.h.mono l4)
  replace l4:=Hid.mk (l3.h.trans l4)
  repeat' (first | simp only [za,aR,aW,zf,zg,Int.reduceBEq,Int.reduceBNe,Nat.reduceBEq,Int.reduceLT,Int.reduceLE, *] | with_reducible (first | refine kcd ?_ ?_ | refine kgd ?_ ?_ | refine kci ?_ ?_ | refine kgi ?_ ?_)<;>intro hc)
  refine ih.h (zr e.els) (by omega) e.els (Nat.le_refl _) v3 _ _ hs4.h fun h5 l5=>?_
  replace l5:=Hid.mk (l4.h.trans l5)
  have ws:=wadd2 ((l.length:Int) + ((zr (l.take i):Int) - i)) (yc e.args) (zr e.thn) (zr e.els)
  have g:=hR.h
  clear hR
  have ei:(l.length:Int) + ((zr (l.take i):Int) - i) + (yc e.args + zr e.thn + zr e.els)=(l.length:Int) + ((zr (l.take (i + 1)):Int) - ((i + 1:Nat):Int)):=by omega
  rw [ei] at ws
  clear ei hmem hce htk
  replace g:=Hid.mk g
  repeat' (first | simp only [za,aR,aW,zf,zg,Int.reduceBEq,Int.reduceBNe,Nat.reduceBEq,Int.reduceLT,Int.reduceLE, *] | with_reducible (first | refine kcd ?_ ?_ | refine kgd ?_ ?_ | refine kci ?_ ?_ | refine kgi ?_ ?_)<;>intro hc)
  exact g.h _ _ hlt ⟨l5.h,_,_,rfl⟩
 ·have hlt' : ¬ (i:Int) < l.length:=by omega
  have hi2:i=l.length:=by omega
  subst hi2
  have g:=hq.h h1 hl1
  have ee:(l.length:Int) + ((zr (l.take l.length):Int) - (l.length:Int))=(zr l:Int):=by rw [List.take_length];omega
  rw [← ee] at g
  clear ee
  replace g:=Hid.mk g
  repeat' (first | simp only [za,aR,aW,zf,zg,Int.reduceBEq,Int.reduceBNe,Nat.reduceBEq,Int.reduceLT,Int.reduceLE, *] | with_reducible (first | refine kcd ?_ ?_ | refine kgd ?_ ?_ | refine kci ?_ ?_ | refine kgi ?_ ?_)<;>intro hc)
  exact g.h
end Go.Eng.Sy
namespace Go.Eng.Sy
open Go Go.Eng Go.Proofs
def Ze:List Tsk→Nat
 | []=>0
 | t::r=>zr t.body + Ze r
def cntP (p:Prg):Nat:=Ze p.tasks
theorem Qf:∀ (l:List Tsk) (i:Nat) (e:Tsk),l[i]? = some e→Ze (l.take (i + 1))=Ze (l.take i) + zr e.body
 | [],i,e,h=>by simp at h
 | a::r,0,e,h=>by simp at h;subst h;simp [Ze]
 | a::r,i + 1,e,h=>by have:=Qf r i e (by simpa using h);simp only [List.take_succ_cons,Ze,this];omega
theorem TssV.elem {h:Heap}{v:Value}{l:List Tsk}(hv:TssV h v l){i:Nat}{e:Tsk}(hi:l[i]? = some e) :
  ∃ id off cells own u,yx 6 [v,.int .i64 i]=some (.pointer (some ⟨id,off,none⟩))∧h.get id=some (.blk cells own)∧qk true off 6 cells=some (tsV e.name e.handler e.hart e.prio e.line u)∧StsV h u e.body:=by
 obtain ⟨xs,a,c,b⟩:=hv
 obtain ⟨x,h1,u,rfl,h2⟩:=b.get i e hi
 obtain ⟨id,off,cells,own,g1,g2,g3,g4⟩:=a.elem h1
 exact ⟨id,off,cells,own,u,g1,g2,g3,h2⟩
theorem TssV.le {h:Heap}{v:Value}{l:List Tsk}(hv:TssV h v l):l.length≤140737488355328:=by
 obtain ⟨xs,a,c,b⟩:=hv;rw [← b.length];exact c
theorem Yu (h:Heap) (m:List UInt8) (b:Bool) (a p l:Int){v:Value}(hv:v.oneCell' = true):yh 6 (h.alloc (.blk [.string ⟨#[]⟩,.bool false,.int .i64 0,.int .i64 0,.int .i64 0,.slice none 0 0] true)) [.pointer (some ⟨h.next,0,none⟩),tsV m b a p l v] =
  some (undef,h.alloc (.blk [str m,.bool b,.int .i64 a,.int .i64 p,.int .i64 l,v] true)):=zy rfl rfl rfl (by simpa [Value.oneCell'] using hv)
theorem Size_c {h:Heap}{p:Prg}{x:List Value}(hx:PrC h p x) (Q:Value→Heap→Prop) (hq:∀ h',h.le h' → Q (.int .i64 (IntKind.i64.wrap (cntP p))) h'):CallW Tryz.prog 15 [.agg x.toArray] h Q:=by
 obtain ⟨d,r,t,rfl,hd,hr,ht⟩:=hx
 obtain ⟨n,devs,ress,tasks⟩:=p
 simp only at hd hr ht ⊢
 have b1:=Yd (n:=n) hd.one hr.one ht.one
 obtain ⟨q,h0,eq,eh0,gq,lh0⟩:=zo h [.int .i64 n,d,r,t]
 have ht0:=ht.mono lh0
 have hln:=ht.len
 have hle:=ht.le
 replace ht0:=zb ht0;replace lh0:=zb lh0
 clear hd hr ht
 refine zi (k:=2) ok15 rfl rfl rfl fun N=>?_
 rw [show y0 c15 [prV n d r t]=[prV n d r t,undef,undef,undef,undef,undef,undef,undef] from rfl]
 delta c15
 replace hq:=zb hq
 have z0:(0:Int)=IntKind.i64.wrap (Ze (tasks.take 0)):=by simp [Ze];rfl
 replace z0:=Hid.mk z0
 repeat' (first | simp only [za,aR,aW,zf,zg,Int.reduceBEq,Int.reduceBNe,Nat.reduceBEq,Int.reduceLT,Int.reduceLE, *] | with_reducible (first | refine kcd ?_ ?_ | refine kgd ?_ ?_ | refine kci ?_ ?_ | refine kgi ?_ ?_)<;>intro hc)
 refine LoopW.upto tasks.length (fun i e h1=>h0.le h1 ∧ ∃ x3 x7,e=[prV n d r t,.pointer (some ⟨q,0,none⟩),.int .i64 (IntKind.i64.wrap (Ze (tasks.take i))),x3,t,.int .i64 tasks.length,.int .i64 i,x7]) ?_ (Nat.zero_le _) ⟨Heap.le.refl h0,_,_,by rw [← z0.h];rfl⟩
 rintro i _ h1 R hi ⟨hl1,x2,x7,rfl⟩ hR
 delta c15_l6
 by_cases hlt:i < tasks.length
 ·have hlt' : (i:Int) < tasks.length:=by omega
  obtain ⟨e,he⟩:∃ e,tasks[i]? = some e:=⟨_,List.getElem?_eq_getElem hlt⟩
  obtain ⟨id,off,cells,own,u,e1,e2,e3,hb⟩:=(ht0.h.mono hl1).elem he
  have sz:=Yu h1 e.name e.handler e.hart e.prio e.line hb.one
  have hw:IntKind.i64.wrap ((i:Int) + 1)=((i + 1:Nat):Int):=by rw [z6 (by omega) (by omega)];rfl
  have htk:=Qf tasks i e he
  obtain ⟨p,h2,ep,eh2,gp,lh2⟩:=zo h1 [str e.name,.bool e.handler,.int .i64 e.hart,.int .i64 e.prio,.int .i64 e.line,u]
  rw [eh2,ep] at sz
  have hb2:=hb.mono lh2
  replace lh2:=Hid.mk (hl1.trans lh2)
  replace hb2:=zb hb2
  clear hb he
  repeat' (first | simp only [za,aR,aW,zf,zg,Int.reduceBEq,Int.reduceBNe,Nat.reduceBEq,Int.reduceLT,Int.reduceLE, *] | with_reducible (first | refine kcd ?_ ?_ | refine kgd ?_ ?_ | refine kci ?_ ?_ | refine kgi ?_ ?_)<;>intro hc)
  refine zy9 _ e.body (Nat.le_refl _) u _ _ hb2.h fun h3 l3=>?_
  replace l3:=Hid.mk (lh2.h.trans l3)
  have ws:=wadd (Ze (tasks.take i)) (zr e.body)
  have g:=hR.h
  clear hR
  have ei:(Ze (tasks.take i):Int) + zr e.body=((Ze (tasks.take (i + 1)):Nat):Int):=by omega
  rw [ei] at ws
  clear ei htk
  replace g:=Hid.mk g
  repeat' (first | simp only [za,aR,aW,zf,zg,Int.reduceBEq,Int.reduceBNe,Nat.reduceBEq,Int.reduceLT,Int.reduceLE, *] | with_reducible (first | refine kcd ?_ ?_ | refine kgd ?_ ?_ | refine kci ?_ ?_ | refine kgi ?_ ?_)<;>intro hc)
  exact g.h _ _ hlt ⟨l3.h,_,_,rfl⟩
 ·have hlt' : ¬ (i:Int) < tasks.length:=by omega
  have hi2:i=tasks.length:=by omega
  subst hi2
  have g:=hq.h h1 (lh0.h.trans hl1)
  have ee:cntP ⟨n,devs,ress,tasks⟩=Ze (tasks.take tasks.length):=by rw [List.take_length];rfl
  rw [ee] at g
  clear ee
  replace g:=Hid.mk g
  repeat' (first | simp only [za,aR,aW,zf,zg,Int.reduceBEq,Int.reduceBNe,Nat.reduceBEq,Int.reduceLT,Int.reduceLE, *] | with_reducible (first | refine kcd ?_ ?_ | refine kgd ?_ ?_ | refine kci ?_ ?_ | refine kgi ?_ ?_)<;>intro hc)
  exact g.h
end Go.Eng.Sy
namespace Go.Proofs
open Go.Shelf
def lays171_ren:Go.Shelf.Ren:=⟨fun | 171=>28 | 243=>68 | 246=>104 | 283=>131 | 284=>132 | 285=>133 | 286=>134 | 129=>150 | 317=>149 | 318=>151 | 319=>152 | 320=>153 | 337=>166 | 338=>167 | n=>n,fun | 3=>3 | 9=>9 | 2=>2 | 4=>4 | 171=>173 | 0=>0 | 53=>163 | 37=>73 | 5=>5 | 173=>176 | 212=>193 | 51=>153 | 20=>20 | 213=>194 | 46=>140 | 232=>220 | 233=>221 | n=>n,fun | 17=>0 | 18=>7 | 19=>8 | n=>n⟩
theorem lays171:Go.Proofs.LaysM.n171 Tryz.prog lays171_ren where
 mixed:=by kernel_rfl
 f129:=Tryz.func150.trans (congrArg some (by kernel_rfl))
 f171:=Tryz.func28.trans (congrArg some (by kernel_rfl))
 f243:=Tryz.func68.trans (congrArg some (by kernel_rfl))
 f246:=Tryz.func104.trans (congrArg some (by kernel_rfl))
 f283:=Tryz.func131.trans (congrArg some (by kernel_rfl))
 f284:=Tryz.func132.trans (congrArg some (by kernel_rfl))
 f285:=Tryz.func133.trans (congrArg some (by kernel_rfl))
 f286:=Tryz.func134.trans (congrArg some (by kernel_rfl))
 f317:=Tryz.func149.trans (congrArg some (by kernel_rfl))
 f318:=Tryz.func151.trans (congrArg some (by kernel_rfl))
 f319:=Tryz.func152.trans (congrArg some (by kernel_rfl))
 f320:=Tryz.func153.trans (congrArg some (by kernel_rfl))
 f337:=Tryz.func166.trans (congrArg some (by kernel_rfl))
 f338:=Tryz.func167.trans (congrArg some (by kernel_rfl))
 t0:=Tryz.underlying0
 a0:=Tryz.isAgg0
 z0:=Tryz.sizeOf0
 v0:=Tryz.zeroValue0
 t2:=Tryz.underlying2
 a2:=Tryz.isAgg2
 z2:=Tryz.sizeOf2
 v2:=Tryz.zeroValue2
 t3:=Tryz.underlying3
 a3:=Tryz.isAgg3
 z3:=Tryz.sizeOf3
 v3:=Tryz.zeroValue3
 t4:=Tryz.underlying4
 a4:=Tryz.isAgg4
 z4:=Tryz.sizeOf4
 v4:=Tryz.zeroValue4
 t5:=Tryz.underlying5
 a5:=Tryz.isAgg5
 z5:=Tryz.sizeOf5
 v5:=Tryz.zeroValue5
 t9:=Tryz.underlying9
 a9:=Tryz.isAgg9
 z9:=Tryz.sizeOf9
 v9:=Tryz.zeroValue9
 t20:=Tryz.underlying20
 a20:=Tryz.isAgg20
 z20:=Tryz.sizeOf20
 v20:=Tryz.zeroValue20
 t37:=Tryz.underlying73
 a37:=Tryz.isAgg73
 z37:=Tryz.sizeOf73
 v37:=Tryz.zeroValue73
 t46:=Tryz.underlying140
 a46:=Tryz.isAgg140
 z46:=Tryz.sizeOf140
 v46:=Tryz.zeroValue140
 t51:=Tryz.underlying153
 a51:=Tryz.isAgg153
 z51:=Tryz.sizeOf153
 v51:=Tryz.zeroValue153
 t53:=Tryz.underlying163
 a53:=Tryz.isAgg163
 z53:=Tryz.sizeOf163
 v53:=Tryz.zeroValue163
 t171:=Tryz.underlying173
 a171:=Tryz.isAgg173
 z171:=Tryz.sizeOf173
 v171:=Tryz.zeroValue173
 t173:=Tryz.underlying176
 a173:=Tryz.isAgg176
 z173:=Tryz.sizeOf176
 v173:=Tryz.zeroValue176
 t212:=Tryz.underlying193
 a212:=Tryz.isAgg193
 z212:=Tryz.sizeOf193
 v212:=Tryz.zeroValue193
 t213:=Tryz.underlying194
 a213:=Tryz.isAgg194
 z213:=Tryz.sizeOf194
 t232:=Tryz.underlying220
 a232:=Tryz.isAgg220
 z232:=Tryz.sizeOf220
 v232:=Tryz.zeroValue220
 t233:=Tryz.underlying221
 a233:=Tryz.isAgg221
 z233:=Tryz.sizeOf221
 v233:=Tryz.zeroValue221
 g17:=by kernel_rfl
 g18:=by kernel_rfl
 g19:=by kernel_rfl
 i0:=by kernel_rfl
 i2:=by kernel_rfl
 i3:=by kernel_rfl
 i4:=by kernel_rfl
 i5:=by kernel_rfl
 i9:=by kernel_rfl
 i20:=by kernel_rfl
 i37:=by kernel_rfl
 i46:=by kernel_rfl
 i51:=by kernel_rfl
 i53:=by kernel_rfl
 i171:=by kernel_rfl
 i173:=by kernel_rfl
 i212:=by kernel_rfl
 i232:=by kernel_rfl
 i233:=by kernel_rfl
 m17:=by kernel_rfl
 m18:=by kernel_rfl
 m19:=by kernel_rfl
end Go.Proofs
namespace Go.Eng.Sy
open Go Go.Eng Go.Proofs
theorem decL_dec:∀ (n:Nat),Lib.decDigits n=yj n:=by
 intro n
 induction n using Nat.strongRecOn with
 | _ n ih =>
 rw [Lib.decDigits,yj]
 by_cases h:n < 10
 ·rw [dif_pos h,if_neg (by omega),Nat.mod_eq_of_lt h]
 ·rw [dif_neg h,if_pos (by omega),ih _ (by omega)]
theorem J3 {n:Int}(h0:0≤n) (h1:n≤9223372036854775807){h:Heap}(Q:Value→Heap→Prop) (hq:Q (str (yj n.toNat)) h):CallW Tryz.prog 28 [.int .i64 n] h Q:=by
 refine ⟨_,_,CallT.of_below (enters_of Tryz.func28 (by kernel_rfl) rfl) (by simp [Value.plain]) rfl fun base w hg=>?_,hq⟩
 obtain ⟨_,el,fz,ht⟩:=hg.2 (0,Lib.pow10Tab.map fun z=>Value.int .u64 z) (by simp [zb5])
 have htab : Lib.TabIs Tryz.prog w "internal/strconv.uint64pow10" .u64 Lib.pow10Tab := by
  unfold Lib.TabIs World.var?
  rw [show (Tryz.prog).globalNamed "internal/strconv.uint64pow10" = some 0 by kernel_rfl]
  simp only [Option.bind_some,ht]
 have:=Any.strconv_Itoa lays171 n (by omega) h1 w htab
 have e:lays171_ren.f 171=28:=rfl
 rw [e] at this
 refine this.mono fun e w' ⟨he,k,os,hw⟩=>⟨?_,?_⟩
 ·rw [he,Lib.itoa,if_neg (by omega),decL_dec]
 ·subst hw
  refine ⟨rfl,rfl,rfl,?_,fun b hb=>?_⟩
  ·simp [Go.Sort.grow,World.drewN]
  ·simp [Go.Sort.grow,World.drewN,Array.getElem?_append_left hb]
end Go.Eng.Sy
namespace Go.Eng.Sy
open Go Go.Eng Go.Proofs
def Uf (e:Ex) (least:Nat) (s:List UInt8):List UInt8:=if e.kind=4∧z7 e.op < least then 40::(s++[41]) else s
def kq (k o n:Int) (m:List UInt8) (ts:List (Ex × List UInt8)):List UInt8 :=
 if k=1 then yj n.toNat
 else if k=5 then match ts with | a::_=>m++91::(a.2++[93]) | []=>[]
 else if k=3 then match ts with | a::_=>ky o++Uf a.1 9 a.2 | []=>[]
 else if k=4 then match ts with | a::b::_=>Uf a.1 (z7 o) a.2++32::(ky o++32::Uf b.1 (z7 o + 1) b.2) | _=>[]
 else m
mutual
def zq:Ex→List UInt8
 | .mk k o n m args=>kq k o n m (Zl args)
def Zl:List Ex→List (Ex × List UInt8)
 | []=>[]
 | e::r=>(e,zq e)::Zl r
end
def ju (e:Ex) (least:Nat):List UInt8:=Uf e least (zq e)
theorem jo (e:Ex) (l:Nat) (s:List UInt8):(Uf e l s).length≤s.length + 2:=by
 unfold Uf;split<;>simp
theorem wg (o:Int):(ky o).length≤2:=by
 unfold ky
 split
 ·rename_i h
  have:o=1∨o=2∨o=3∨o=4∨o=5∨o=6∨o=7∨o=8∨o=9∨o=10∨o=11∨o=12∨o=13∨o=14∨o=15∨o=16∨o=17:=by omega
  rcases this with rfl | rfl | rfl | rfl | rfl | rfl | rfl | rfl | rfl | rfl | rfl | rfl | rfl | rfl | rfl | rfl | rfl<;>decide
 ·simp
theorem yv {m:List UInt8}(h:zp m=true):m.length≤20:=by
 unfold zp at h
 split at h
 ·cases h
 ·simp only [Bool.and_eq_true,decide_eq_true_eq] at h
  exact h.1.1.1
inductive ExI:Ex→Nat→Prop
 | num (n:Nat) (d:Nat) (h:n < 4294967296):ExI (.mk 1 0 n [] []) (d + 1)
 | var (m:List UInt8) (d:Nat) (h:zp m=true):ExI (.mk 2 0 0 m []) (d + 1)
 | one (o:Int) (a:Ex) (d:Nat) (h:15≤o∧o≤17) (ha:ExI a d):ExI (.mk 3 o 0 [] [a]) (d + 1)
 | two (o:Int) (a b:Ex) (d:Nat) (h:1≤o∧o≤14) (ha:ExI a d) (hb:ExI b d):ExI (.mk 4 o 0 [] [a,b]) (d + 1)
 | idx (m:List UInt8) (a:Ex) (d:Nat) (h:zp m=true) (ha:ExI a d):ExI (.mk 5 0 0 m [a]) (d + 1)
theorem Xd {o:Int}:0 < z7 o↔1≤o∧o≤14:=by
 unfold z7
 (repeat' split)<;>omega
theorem Uw (o:Int):z7 o≤8:=by
 unfold z7
 (repeat' split)<;>omega
theorem qr:∀ (d:Nat) (e:Ex),yg e d=true↔ExI e d
 | 0,.mk k o n m args=>by
  constructor
  ·intro h;simp [yg] at h
  ·intro h;cases h
 | d + 1,.mk k o n m args=>by
  constructor
  ·intro h
   simp only [yg,Bool.and_eq_true,beq_iff_eq,xt,List.all_eq_true] at h
   obtain ⟨⟨h1,h2⟩,h3⟩:=h
   unfold zu at h1
   unfold vp at h2
   by_cases k1:k=1
   ·subst k1
    simp only [if_true,Bool.and_eq_true,decide_eq_true_eq,beq_iff_eq] at h1
    obtain ⟨⟨hn,rfl⟩,rfl⟩:=h1
    obtain rfl:args=[]:=by simpa using h2
    obtain ⟨n,rfl⟩:∃ n' : Nat,n=n':=⟨n.toNat,by omega⟩
    exact .num n d (by omega)
   by_cases k2:k=2
   ·subst k2
    simp at h1 h2
    obtain ⟨⟨h1,rfl⟩,rfl⟩:=h1
    subst h2
    exact .var m d h1
   by_cases k3:k=3
   ·subst k3
    simp at h1 h2
    obtain ⟨⟨h1,rfl⟩,rfl⟩:=h1
    obtain ⟨a,rfl⟩:∃ a,args=[a]:=by
     match args,h2 with
     | [a],_=>exact ⟨a,rfl⟩
    exact .one o a d h1 ((qr d a).1 (h3 a (by simp)))
   by_cases k4:k=4
   ·subst k4
    simp at h1 h2
    obtain ⟨⟨h1,rfl⟩,rfl⟩:=h1
    obtain ⟨a,b,rfl⟩:∃ a b,args=[a,b]:=by
     match args,h2 with
     | [a,b],_=>exact ⟨a,b,rfl⟩
    exact .two o a b d (Xd.1 h1) ((qr d a).1 (h3 a (by simp))) ((qr d b).1 (h3 b (by simp)))
   by_cases k5:k=5
   ·subst k5
    simp at h1 h2
    obtain ⟨⟨h1,rfl⟩,rfl⟩:=h1
    obtain ⟨a,rfl⟩:∃ a,args=[a]:=by
     match args,h2 with
     | [a],_=>exact ⟨a,rfl⟩
    exact .idx m a d h1 ((qr d a).1 (h3 a (by simp)))
   simp [k1,k2,k3,k4,k5] at h1
  ·intro h
   cases h with
   | num n d h=>simp [yg,zu,vp,yd];omega
   | var m d h=>simp [yg,zu,vp,yd,h]
   | one o a d h ha=>simp [yg,zu,vp,yd,h,(qr d a).2 ha]
   | two o a b d h ha hb=>simp [yg,zu,vp,yd,Xd.2 h,(qr d a).2 ha,(qr d b).2 hb]
   | idx m a d h ha=>simp [yg,zu,vp,yd,h,(qr d a).2 ha]
theorem zr7 {e:Ex}{d:Nat}(h:ExI e d):(zq e).length + 30≤30 * 2 ^ d:=by
 induction h with
 | num n d h =>
  have:=xz 9 n (by omega)
  have:=Nat.one_le_two_pow (n:=d)
  simp only [zq,kq,if_true,Int.toNat_natCast,Nat.pow_succ]
  omega
 | var m d h =>
  have:=yv h
  have:=Nat.one_le_two_pow (n:=d)
  simp only [zq,kq,Nat.pow_succ]
  simp
  omega
 | one o a d h ha ih =>
  have h1:=wg o
  have h2:=jo a 9 (zq a)
  simp only [zq,Zl,kq,Nat.pow_succ]
  simp
  omega
 | two o a b d h ha hb iha ihb =>
  have h1:=wg o
  have h2:=jo a (z7 o) (zq a)
  have h3:=jo b (z7 o + 1) (zq b)
  simp only [zq,Zl,kq,Nat.pow_succ]
  simp
  omega
 | idx m a d h ha ih =>
  have:=yv h
  simp only [zq,Zl,kq,Nat.pow_succ]
  simp
  omega
theorem wy {e:Ex}{d:Nat}(h:ExI e d) (hd:d≤30):(zq e).length≤32212254720:=by
 have h1:=zr7 h
 have:2 ^ d≤2 ^ 30:=Nat.pow_le_pow_right (by omega) hd
 omega
end Go.Eng.Sy
namespace Go.Eng.Sy
open Go Go.Eng Go.Proofs
def TextC (d:Nat):Prop:=∀ (e:Ex),ExI e d → ∀ (x:List Value) (h:Heap) (Q:Value→Heap→Prop),ExC h e x→(∀ h',h.le h' → Q (str (zq e)) h')→CallW Tryz.prog 53 [.agg x.toArray] h Q
def PartC (d:Nat):Prop:=∀ (e:Ex),ExI e d → ∀ (least:Nat) (x:List Value) (h:Heap) (Q:Value→Heap→Prop),ExC h e x→(∀ h',h.le h' → Q (str (ju e least)) h')→CallW Tryz.prog 88 [.agg x.toArray,.int .i64 (least:Int)] h Q
theorem part_of {d:Nat}(hd:d≤30) (ih:TextC d):PartC d:=by
 intro e he least x h Q hx hq
 have hlen:=wy he hd
 have ihe:=ih e he
 have hx0:=hx
 obtain ⟨v,rfl,hargs⟩:=hx.cells
 have b1:=vo (k:=e.kind) (o:=e.op) (n:=e.n) (m:=e.name) hargs.one
 obtain ⟨p,h0,ep,eh0,gp,lh0⟩:=zo h [.int .i64 e.kind,.int .i64 e.op,.int .i64 e.n,str e.name,v]
 have hx1:=hx0.mono lh0
 clear hargs hx hx0
 replace ihe:=zb ihe;replace hx1:=zb hx1;replace lh0:=zb lh0
 refine zi (k:=3) ok88 rfl rfl rfl fun N=>?_
 rw [show y0 c88 [exV e.kind e.op e.n e.name v,.int .i64 (least:Int)]=[exV e.kind e.op e.n e.name v,.int .i64 (least:Int),undef,undef,undef] from rfl]
 delta c88
 replace hq:=zb hq
 simp only [za,aR,zn, *]
 refine ihe.h _ _ _ hx1.h fun h1 l1=>?_
 have gp1:=l1.get gp
 have g:=hq.h h1 (lh0.h.trans l1)
 clear hq l1 b1
 unfold ju Uf at g
 by_cases k4:e.kind=4
 ·by_cases hl:z7 e.op < least
  ·rw [if_pos ⟨k4,hl⟩] at g
   have hl' : (z7 e.op:Int) < (least:Int):=by omega
   have c1:=zt (a:=[40]) (b:=zq e) (by simp;omega)
   have c2:=zt (a:=[40]++zq e) (b:=[41]) (by simp;omega)
   have e1:(40::(zq e++[41]):List UInt8)=[40]++zq e++[41]:=by simp
   rw [e1] at g
   clear e1
   replace g:=Hid.mk g
   have k4' : (e.kind == 4)=true:=by simpa using k4
   clear k4
   simp only [za,aR,zf,zg, *]
   refine J1 e.op _ _ ?_
   simp only [za,zf,zg, *]
   exact g.h
  ·rw [if_neg (by omega)] at g
   have hl' : ¬ (z7 e.op:Int) < (least:Int):=by omega
   replace g:=Hid.mk g
   have k4' : (e.kind == 4)=true:=by simpa using k4
   clear k4
   simp only [za,aR,zf,zg, *]
   refine J1 e.op _ _ ?_
   simp only [za,zf,zg, *]
   exact g.h
 ·rw [if_neg (by omega)] at g
  replace g:=Hid.mk g
  have k4' : (e.kind == 4)=false:=by simpa using k4
  clear k4
  simp only [za,aR,zf,zg, *]
  exact g.h
theorem text_of {d:Nat}(hd:d + 1≤30) (ih:TextC d):TextC (d + 1):=by
 intro e he x h Q hx hq
 have ihp:=part_of (by omega) ih
 have hx0:=hx
 obtain ⟨v,rfl,hargs⟩:=hx.cells
 have b1:=vo (k:=e.kind) (o:=e.op) (n:=e.n) (m:=e.name) hargs.one
 obtain ⟨p,h0,ep,eh0,gp,lh0⟩:=zo h [.int .i64 e.kind,.int .i64 e.op,.int .i64 e.n,str e.name,v]
 have ha1:=hargs.mono lh0
 clear hargs hx hx0
 replace ih:=zb ih;replace ihp:=zb ihp;replace ha1:=zb ha1;replace lh0:=zb lh0
 refine zi (k:=2) ok53 rfl rfl rfl fun N=>?_
 rw [show y0 c53 [exV e.kind e.op e.n e.name v]=[exV e.kind e.op e.n e.name v,undef,undef,undef,undef,undef] from rfl]
 delta c53
 replace hq:=zb hq
 simp only [za,aR, *]
 refine sign_c _ _ _ fun h1 l1=>?_
 have gp1:=l1.get gp
 have ha2:=ha1.h.mono l1
 have hq2:=fun h' (l2:h1.le h')=>hq.h h' ((lh0.h.trans l1).trans l2)
 clear hq gp b1 eh0 ep ha1 lh0 l1
 replace ha2:=zb ha2;replace hq2:=zb hq2
 cases he with
 | num n d h =>
  have g:=hq2.h h1 (Heap.le.refl h1)
  simp only [zq,kq,if_true] at g
  simp only [Ex.kind,Ex.op,Ex.n,Ex.name,Ex.args] at *
  replace g:=Hid.mk g
  simp only [za,aR,zf,zg,Int.reduceLE, *]
  refine J3 (by omega) (by omega) _ ?_
  simp only [za, *]
  exact g.h
 | var m d h =>
  have g:=hq2.h h1 (Heap.le.refl h1)
  have e1:zq (.mk 2 0 0 m [])=m:=rfl
  rw [e1] at g
  simp only [Ex.kind,Ex.op,Ex.n,Ex.name,Ex.args] at *
  replace g:=Hid.mk g
  simp only [za,aR,zf,zg,Int.reduceBEq,Int.reduceLE, *]
  exact g.h
 | one o a d h hI =>
  have e1:zq (.mk 3 o 0 [] [a])=ky o++ju a 9:=rfl
  rw [e1] at hq2
  simp only [Ex.kind,Ex.op,Ex.n,Ex.name,Ex.args] at *
  obtain ⟨id,off,cells,own,y,e1,e2,e3,hex,_⟩:=ha2.h.elem (i:=0) (e:=a) rfl
  have hw:=jo a 9 (zq a)
  have hl:=wy hI (by omega)
  have hs:=wg o
  have c1:=zt (a:=ky o) (b:=ju a 9) (by unfold ju;omega)
  clear hw hl hs
  replace hex:=zb hex
  rw [Int.ofNat_zero] at e1
  have k9:(9:Int)=((9:Nat):Int):=rfl
  simp only [za,aR,zf,zg,Int.reduceBEq, *]
  refine ihp.h _ hI _ _ _ _ hex.h fun h2 l2=>?_
  have g:=hq2.h h2 l2
  replace g:=Hid.mk g
  clear l2
  simp only [za,zf, *]
  exact g.h
 | two o a b d h hI hJ =>
  have e1:zq (.mk 4 o 0 [] [a,b])=ju a (z7 o)++[32]++ky o++[32]++ju b (z7 o + 1):=by simp [zq,Zl,kq,ju]
  rw [e1] at hq2
  simp only [Ex.kind,Ex.op,Ex.n,Ex.name,Ex.args] at *
  have hw:=jo a (z7 o) (zq a)
  have hw2:=jo b (z7 o + 1) (zq b)
  have hl:=wy hI (by omega)
  have hl2:=wy hJ (by omega)
  have hs:=wg o
  have c1:=zt (a:=ju a (z7 o)) (b:=[32]) (by unfold ju;simp;omega)
  have c2:=zt (a:=ju a (z7 o)++[32]) (b:=ky o) (by unfold ju;simp;omega)
  have c3:=zt (a:=ju a (z7 o)++[32]++ky o) (b:=[32]) (by unfold ju;simp;omega)
  have c4:=zt (a:=ju a (z7 o)++[32]++ky o++[32]) (b:=ju b (z7 o + 1)) (by unfold ju;simp;omega)
  clear hw hl hs hw2 hl2
  have hlv:=wI (z7 o) (by have:=Uw o;omega)
  obtain ⟨id,off,cells,own,y,e1,e2,e3,hex,_⟩:=ha2.h.elem (i:=0) (e:=a) rfl
  rw [Int.ofNat_zero] at e1
  replace hex:=zb hex
  simp only [za,aR,zf,zg,Int.reduceBEq, *]
  refine J1 o _ _ ?_
  simp only [za,aR, *]
  refine ihp.h _ hI _ _ _ _ hex.h fun h2 l2=>jr l2.ext ?_
  have gp2:=l2.get gp1
  obtain ⟨id2,off2,cells2,own2,y2,f1,f2,f3,hex2,_⟩:=(ha2.h.mono l2).elem (i:=1) (e:=b) rfl
  have hq3:=fun h' (l3:h2.le h')=>hq2.h h' (l2.trans l3)
  rw [show ((1:Nat):Int)=1 from rfl] at f1
  clear hq2 l2 e1 e2 e3 hex
  replace hex2:=zb hex2;replace hq3:=zb hq3
  simp only [za,aR,zf,zg, *]
  refine ihp.h _ hJ _ _ _ _ hex2.h fun h3 l3=>?_
  have g:=hq3.h h3 l3
  replace g:=Hid.mk g
  clear l3
  simp only [za,zf, *]
  exact g.h
 | idx m a d h hI =>
  have e1:zq (.mk 5 0 0 m [a])=m++[91]++zq a++[93]:=by simp [zq,Zl,kq]
  rw [e1] at hq2
  simp only [Ex.kind,Ex.op,Ex.n,Ex.name,Ex.args] at *
  obtain ⟨id,off,cells,own,y,e1,e2,e3,hex,_⟩:=ha2.h.elem (i:=0) (e:=a) rfl
  have hl:=wy hI (by omega)
  have hs:=yv h
  have c1:=zt (a:=m) (b:=[91]) (by simp;omega)
  have c2:=zt (a:=m++[91]) (b:=zq a) (by simp;omega)
  have c3:=zt (a:=m++[91]++zq a) (b:=[93]) (by simp;omega)
  clear hl hs
  replace hex:=zb hex
  rw [Int.ofNat_zero] at e1
  simp only [za,aR,zf,zg,Int.reduceBEq,Int.reduceLE, *]
  refine ih.h a hI _ _ _ hex.h fun h2 l2=>jr l2.ext ?_
  have gp2:=l2.get gp1
  have g:=hq2.h h2 l2
  replace g:=Hid.mk g
  clear l2
  simp only [za,aR,zf, *]
  exact g.h
theorem Jh:∀ (d:Nat),d≤30→TextC d
 | 0,_=>fun e he=>by cases he
 | d + 1,hd=>text_of hd (Jh d (by omega))
end Go.Eng.Sy
namespace Go.Eng.Sy
open Go Go.Eng Go.Proofs
theorem wrapU {z:Int}(h1:0≤z) (h2:z≤18446744073709551615):IntKind.u64.wrap z=z:=by
 rw [IntKind.wrap_u64];omega
theorem yc5 (n:Nat) (h:n < 4294967296):zf .and (.int .u64 (n:Int)) (.int .u64 4294967295)=some (.int .u64 (n:Int)):=by
 have:(BitVec.ofInt 64 (n:Int) &&& BitVec.ofInt 64 4294967295).toNat=n:=by
  rw [BitVec.toNat_and,BitVec.toNat_ofInt,BitVec.toNat_ofInt]
  have e1:((n:Int) % (2 ^ 64:Nat)).toNat=n:=by omega
  have e2:((4294967295:Int) % (2 ^ 64:Nat)).toNat=2 ^ 32 - 1:=by decide
  rw [e1,e2,Nat.and_two_pow_sub_one_eq_mod]
  omega
 have e:zf .and (.int .u64 (n:Int)) (.int .u64 4294967295)=some (.int .u64 (IntKind.u64.wrap ((BitVec.ofInt 64 (n:Int) &&& BitVec.ofInt 64 4294967295).toNat:Nat))):=rfl
 rw [e,this,wrapU (by omega) (by omega)]
theorem zs2 (n:Nat) (h:n < 4294967296):zf .shr (.int .u64 (n:Int)) (.int .u64 32)=some (.int .u64 0):=by
 have:(n:Int).fdiv 4294967296=0:=by
  rw [Int.fdiv_eq_ediv_of_nonneg _ (by decide)]
  omega
 have e:zf .shr (.int .u64 (n:Int)) (.int .u64 32)=some (.int .u64 ((n:Int).fdiv 4294967296)):=rfl
 rw [e,this]
theorem mul_1 (n:Nat) (h:n < 4294967296):zf .mul (.int .u64 1) (.int .u64 (n:Int))=some (.int .u64 (n:Int)):=by
 simp only [zf,zg,if_true,Int.one_mul]
 rw [wrapU (by omega) (by omega)]
theorem mul_0 (n:Int):zf .mul (.int .u64 0) (.int .u64 n)=some (.int .u64 0):=by
 simp only [zf,zg,if_true,Int.zero_mul];rfl
theorem mul64_c (n:Nat) (hn:n < 4294967296) (h:Heap) (Q:Value→Heap→Prop) (hq:Q (.tuple #[.int .u64 0,.int .u64 (n:Int)]) h):CallW Tryz.prog 129 [.int .u64 1,.int .u64 (n:Int)] h Q:=by
 refine wc (k:=2) (j:=3) ok129 rfl rfl rfl fun N=>?_
 rw [show y0 c129 [.int .u64 1,.int .u64 (n:Int)]=[.int .u64 1,.int .u64 (n:Int),undef,undef,undef,undef,undef,undef,undef,undef,undef,undef] from rfl]
 delta c129
 replace hq:=zb hq
 have a1:=yc5 1 (by omega)
 have a2:=yc5 n hn
 have a3:=yc5 0 (by omega)
 have s1:=zs2 1 (by omega)
 have s2:=zs2 n hn
 have s3:=zs2 0 (by omega)
 have m1:=mul_1 n hn
 have m2:=mul_0 (n:Int)
 have m3:=mul_1 0 (by omega)
 have m4:=mul_0 0
 have p1:zf .add (.int .u64 0) (.int .u64 0)=some (.int .u64 0):=rfl
 rw [show ((1:Nat):Int)=1 from rfl] at a1 s1
 rw [show ((0:Nat):Int)=0 from rfl] at a3 s3 m3
 simp only [za, *]
 exact hq.h
theorem mul_c (n:Nat) (hn:n < 4294967296) (h:Heap) (Q:Value→Heap→Prop) (hq:Q (.tuple #[.int .u64 0,.int .u64 (n:Int)]) h):CallW Tryz.prog 101 [.int .u64 1,.int .u64 (n:Int)] h Q:=by
 refine wc (k:=2) (j:=3) ok101 rfl rfl rfl fun N=>?_
 rw [show y0 c101 [.int .u64 1,.int .u64 (n:Int)]=[.int .u64 1,.int .u64 (n:Int),undef,undef,undef,undef,undef,undef] from rfl]
 delta c101
 replace hq:=zb hq
 simp only [za, *]
 refine mul64_c n hn _ _ ?_
 simp only [za, *]
 exact hq.h
def zm (n:Nat):List UInt8:=List.replicate n 9
theorem repeat_c {n:Nat}(hn:n≤60){h:Heap}(Q:Value→Heap→Prop) (hq:Q (str (zm n)) h):CallW Tryz.prog 66 [str [9],.int .i64 (n:Int)] h Q:=by
 refine zi (k:=2) ok66 rfl rfl rfl fun N=>?_
 rw [show y0 c66 [str [9],.int .i64 (n:Int)]=[str [9],.int .i64 (n:Int),undef,undef,undef,undef,undef,undef,undef,undef,undef,undef] from rfl]
 delta c66
 replace hq:=zb hq
 by_cases n0:n=0
 ·subst n0
  have z0:((0:Nat):Int)=0:=rfl
  simp only [za,zf,zg, *]
  exact hq.h
 by_cases n1:n=1
 ·subst n1
  have z0:((1:Nat):Int)=1:=rfl
  simp only [za,zf,zg,Int.reduceBEq, *]
  exact hq.h
 have c0:((n:Int) == 0)=false:=by simpa using n0
 have c1:((n:Int) == 1)=false:=by simp;omega
 have c2:¬ (n:Int) < 0:=by omega
 have u1:IntKind.u64.wrap (n:Int)=(n:Int):=wrapU (by omega) (by omega)
 have u2:IntKind.u64.wrap (([9]:List UInt8).length:Int)=1:=rfl
 have l1:=Yh [9]
 have c3:¬ (9223372036854775807:Int) < (n:Int):=by omega
 have w1:IntKind.i64.wrap (n:Int)=(n:Int):=z6 (by omega) (by omega)
 have i0:Ju [str [9],.int .i64 0]=some (.int .u8 9):=rfl
 have c4:(n:Int)≤64:=by omega
 have hcut:=zy7 (l:=zm 64) (n:=n) (by simp [zm];omega)
 have ht:(zm 64).take n=zm n:=by rw [zm,zm,List.take_replicate,Nat.min_eq_left (by omega)]
 rw [ht] at hcut
 have et:zm 64=[9,9,9,9,9,9,9,9,9,9,9,9,9,9,9,9,9,9,9,9,9,9,9,9,9,9,9,9,9,9,9,9,9,9,9,9,9,9,9,9,9,9,9,9,9,9,9,9,9,9,9,9,9,9,9,9,9,9,9,9,9,9,9,9]:=rfl
 have hl9:(([9]:List UInt8).length:Int)=1:=rfl
 have hpre:List.isPrefixOf [9] (zm 64)=true:=by decide
 have q1:List.isPrefixOf [9] (List.replicate 128 (32:UInt8))=false:=by decide
 have q2:List.isPrefixOf [9] (List.replicate 128 (45:UInt8))=false:=by decide
 have q3:List.isPrefixOf [9] (List.replicate 64 (48:UInt8))=false:=by decide
 have q4:List.isPrefixOf [9] (List.replicate 128 (61:UInt8))=false:=by decide
 have c5:(n:Int)≤128:=by omega
 replace hn:=Hid.mk hn
 replace hcut:=Hid.mk hcut
 clear n0 n1 ht
 simp only [za,zf,zg, *]
 refine mul_c n (by have:=hn.h;omega) _ _ ?_
 simp only [za,zf,zg,Int.reduceBEq,Int.reduceLT, *]
 refine vh (l:=List.replicate 128 32) (p:=[9]) _ _ ?_
 rw [q1]
 simp only [za,zf,zg, *]
 refine vh (l:=List.replicate 128 45) (p:=[9]) _ _ ?_
 rw [q2]
 simp only [za,zf,zg, *]
 refine vh (l:=List.replicate 64 48) (p:=[9]) _ _ ?_
 rw [q3]
 simp only [za,zf,zg, *]
 refine vh (l:=List.replicate 128 61) (p:=[9]) _ _ ?_
 rw [q4]
 simp only [za,zf,zg, *]
 refine vh (l:=zm 64) (p:=[9]) _ _ ?_
 rw [hpre]
 have hcut:=hcut.h
 rw [et] at hcut
 simp only [za, *]
 exact hq.h
end Go.Eng.Sy
namespace Go.Eng
open Go
structure Heap.leB (h h' : Heap):Prop where
 blk:∀ id cells own,h.get id=some (.blk cells own)→h'.get id=some (.blk cells own)
 next:h.next≤h'.next
theorem Heap.le.B {h h' : Heap}(hl:h.le h'):h.leB h':=⟨fun _ _ _ g=>hl.get g,hl.next⟩
theorem Heap.leB.refl (h:Heap):h.leB h:=⟨fun _ _ _ g=>g,Nat.le_refl _⟩
theorem Heap.leB.trans {a b c:Heap}(h:a.leB b) (h' : b.leB c):a.leB c:=⟨fun id cs o g=>h'.blk id cs o (h.blk id cs o g),Nat.le_trans h.next h'.next⟩
theorem Heap.leB.get {h h' : Heap}(hl:h.leB h'){id:Nat}{cells:List Value}{own:Bool}(g:h.get id=some (.blk cells own)):h'.get id=some (.blk cells own):=hl.blk _ _ _ g
theorem At.monoB {h h' : Heap}(hl:h.leB h'){id off s:Nat}{xs:List (List Value)}(ha:At h id off s xs):At h' id off s xs :=
 let ⟨c,o,hg,hx⟩:=ha;⟨c,o,hl.get hg,hx⟩
theorem SlV.monoB {h h' : Heap}(hl:h.leB h'){s:Nat}{v:Value}{xs:List (List Value)}(ha:SlV h s v xs):SlV h' s v xs:=by
 rcases ha with ha | ⟨id,off,hv,ha⟩
 ·exact .inl ha
 ·exact .inr ⟨id,off,hv,ha.imp (fun e=>e) (·.monoB hl)⟩
end Go.Eng
namespace Go.Eng.Sy
open Go Go.Eng Go.Proofs
theorem Strs.monoB {h h' : Heap}(hl:h.leB h'){v:Value}{l:List (List UInt8)}(ha:Strs h v l):Strs h' v l:=SlV.monoB hl ha
mutual
theorem ExC.monoB {h h' : Heap}(hl:h.leB h'):∀ {e:Ex}{x:List Value},ExC h e x→ExC h' e x
 | .mk _ _ _ _ _,_,⟨v,xs,h1,h2,hb,h3⟩=>⟨v,xs,h1,h2.monoB hl,hb,ExCs.monoB hl h3⟩
theorem ExCs.monoB {h h' : Heap}(hl:h.leB h'):∀ {l:List Ex}{xs:List (List Value)},ExCs h l xs→ExCs h' l xs
 | [],_,hx=>hx
 | _::_,_,⟨x,xr,h1,h2,h3⟩=>⟨x,xr,h1,ExC.monoB hl h2,ExCs.monoB hl h3⟩
end
mutual
theorem StC.monoB {h h' : Heap}(hl:h.leB h'):∀ {e:St}{x:List Value},StC h e x→StC h' e x
 | .mk _ _ _ _ _ _ _,_,⟨v,xs,u,ys,w,zs,h1,h2,h3,h4,h5⟩=>⟨v,xs,u,ys,w,zs,h1,⟨h2.1.monoB hl,h2.2.1,ExCs.monoB hl h2.2.2⟩,⟨h3.1.monoB hl,h3.2.1,StCs.monoB hl h3.2.2⟩,h4.monoB hl,h5.1,StCs.monoB hl h5.2⟩
theorem StCs.monoB {h h' : Heap}(hl:h.leB h'):∀ {l:List St}{xs:List (List Value)},StCs h l xs→StCs h' l xs
 | [],_,hx=>hx
 | _::_,_,⟨x,xr,h1,h2,h3⟩=>⟨x,xr,h1,StC.monoB hl h2,StCs.monoB hl h3⟩
end
theorem StsV.monoB {h h' : Heap}(hl:h.leB h'){v:Value}{l:List St}(hv:StsV h v l):StsV h' v l:=let ⟨xs,a,c,b⟩:=hv;⟨xs,a.monoB hl,c,b.monoB hl⟩
abbrev prT:TypeId:=77
def ku (l:List UInt8):List Value:=l.map fun b=>.int .u8 b.toNat
theorem zp4 (a b:List UInt8):ku (a++b)=ku a++ku b:=by simp [ku]
theorem Zf (a:List UInt8):(ku a).length=a.length:=by simp [ku]
theorem zk6:∀ (l:List UInt8),Qs (ku l)=some l
 | []=>rfl
 | b::l=>by
  have h1:=UInt8.toNat_lt b
  have h2:(0:Int)≤(b.toNat:Int)∧(b.toNat:Int) < 256:=by omega
  have ih:=zk6 l
  simp only [ku] at ih
  simp only [ku,List.map_cons,Qs,h2,if_true,ih,Option.map_some,Int.toNat_natCast,UInt8.ofNat_toNat,and_self]
def BufV (n:Nat) (h:Heap) (p:Nat) (v:Value) (l:List UInt8):Prop :=
 (v = .slice none 0 0∧l=[]) ∨ ∃ q,n≤q∧(q≠p∧l≠[])∧v = .slice (some ⟨q,0,none⟩) l.length 1∧h.get q=some (.tblk (ku l) 5 false)
structure Bld (h0 h:Heap) (p:Nat) (l:List UInt8) (tabs:Int):Prop where
 le:h0.le h
 own:h0.next≤p
 cells:∃ a v,(a = .pointer none∨a = .pointer (some ⟨p,0,none⟩))∧h.get p=some (.tblk [a,v,.int .i64 tabs] prT true)∧BufV h0.next h p v l
theorem BufV.mono {n:Nat}{h h' : Heap}(hl:h.le h'){p:Nat}{v:Value}{l:List UInt8}(hv:BufV n h p v l):BufV n h' p v l:=by
 rcases hv with hv | ⟨q,a,b,c,d⟩
 ·exact .inl hv
 ·exact .inr ⟨q,a,b,c,hl.get d⟩
theorem Bld.mono {h0 h h' : Heap}(hl:h.le h'){p:Nat}{l:List UInt8}{tabs:Int}(hb:Bld h0 h p l tabs):Bld h0 h' p l tabs :=
 ⟨hb.le.trans hl,hb.own,let ⟨a,v,h1,h2,h3⟩:=hb.cells;⟨a,v,h1,hl.get h2,h3.mono hl⟩⟩
theorem BufV.one {n:Nat}{h:Heap}{p:Nat}{v:Value}{l:List UInt8}(hv:BufV n h p v l):v.oneCell' = true∧v.cells.toList=[v]:=by
 rcases hv with ⟨rfl,_⟩ | ⟨q,_,_,rfl,_⟩<;>exact ⟨rfl,rfl⟩
theorem Bld.set {h0 h:Heap}{p:Nat}{x:Value}{cs:List Value}(hle:h0.le h) (hown:h0.next≤p) (hg:h.get p=some (.tblk cs prT true)) (cs' : List Value):h0.le (h.set p (.tblk cs' prT true))∧h.leB (h.set p (.tblk cs' prT true)):=by
 refine ⟨hle.set hown _,fun id cells own g=>?_,Nat.le_refl _⟩
 rw [Heap.set_getE,g]
 have:id≠p:=fun e=>by subst e;rw [hg] at g;cases g
 simpa using this
theorem Xt {h:Heap}{id off:Nat}{cells:List Value}{e:TypeId}{full:Bool}{v:Value}(hg:h.get id=some (.tblk cells e full)) (ho:off < cells.length) (hv:v.cells.toList=[v]) (h1:v.oneCell' = true) :
  yh 1 h [.pointer (some ⟨id,off,none⟩),v]=some (undef,h.set id (.tblk (cells.set off v) e full)):=by
 simp only [yh,hg,hv]
 rw [if_pos ⟨rfl,by omega,by simp [h1]⟩,List.set_eq_take_append_cons_drop,if_pos ho]
 simp
theorem BufV.append {n:Nat}{h:Heap}{p:Nat}{v:Value}{l s:List UInt8}(hv:BufV n h p v l) (hn:n≤h.next) (hp:(h.get p).isSome=true){x:Value}(hx:jp 1 h x=some (ku s)) (hb:l.length + s.length≤140737488355328) :
  ∃ v' h',vv 5 1 1 h [v,x]=some (v',h')∧BufV n h' p v' (l++s)∧h'.get p=h.get p∧h.leB h' ∧ ∀ h0:Heap,h0.next=n→h0.le h→h0.le h':=by
 obtain ⟨op,hop⟩:=Option.isSome_iff_exists.1 hp
 have hpl:=Heap.lt_of_get hop
 by_cases hs:s=[]
 ·subst hs
  refine ⟨v,h,?_,by simpa using hv,rfl,.refl _,fun _ _ h=>h⟩
  obtain ⟨a,b,c,rfl⟩:∃ a b c,v = .slice a b c:=by
   rcases hv with ⟨rfl,_⟩ | ⟨q,_,_,rfl,_⟩<;>exact ⟨_,_,_,rfl⟩
  simp only [vv,hx]
  rfl
 ·have hne:(ku s).length≠0:=by
   rw [Zf];intro e;exact hs (List.length_eq_zero_iff.1 e)
  rcases hv with ⟨rfl,rfl⟩ | ⟨q,h1,h2,rfl,h3⟩
  ·refine ⟨.slice (some ⟨h.next,0,none⟩) s.length 1,h.alloc (.tblk (ku s) 5 false),?_,.inr ⟨h.next,hn,⟨by omega,by simpa using hs⟩,by simp,by simp⟩,Heap.alloc_getE _ _ _ hp,((Heap.le.refl h).alloc _).B,fun h0 _ hl=>hl.alloc _⟩
   simp only [vv,hx]
   rw [if_neg hne,Zf,if_pos (by simp at hb;constructor<;>omega)]
   simp
  ·have hql:=Heap.lt_of_get h3
   have hpk:((h.set q .dead).alloc (.tblk (ku (l++s)) 5 false)).get p=h.get p:=by
    have e1:(h.set q .dead).get p=h.get p:=Heap.set_getE _ _ _ _ (by simpa using fun e=>h2.1 e.symm)
    rw [Heap.alloc_getE _ _ _ (by rw [e1];exact hp),e1]
   refine ⟨.slice (some ⟨h.next,0,none⟩) (l++s).length 1,(h.set q .dead).alloc (.tblk (ku (l++s)) 5 false),?_,.inr ⟨h.next,hn,⟨by omega,by simp [hs]⟩,rfl,Heap.get_alloc_same (h.set q .dead) _⟩,hpk,⟨fun id cells own g=>?_,by simp⟩,fun h0 e hl=>(hl.set (by omega) _).alloc _⟩
   ·simp only [vv,hx,h3]
    rw [if_neg hne]
    simp only [Zf,Nat.div_one,Nat.mul_one,true_and]
    rw [if_pos (by constructor<;>omega)]
    simp [zp4]
   ·have hid:id≠q:=fun e=>by subst e;rw [h3] at g;cases g
    have e1:(h.set q .dead).get id=h.get id:=Heap.set_getE _ _ _ _ (by simpa using hid)
    rw [Heap.alloc_getE _ _ _ (by rw [e1,g];rfl),e1,g]
theorem lies0:zo0 Tryz.prog 75 prT 3 0=true:=by kernel_rfl
theorem J9 {h0 h:Heap}{p:Nat}{a v:Value}{l:List UInt8}{tabs:Int}(hle:h0.le h) (hown:h0.next≤p) (ha:a = .pointer none∨a = .pointer (some ⟨p,0,none⟩)) (hg:h.get p=some (.tblk [a,v,.int .i64 tabs] prT true)) (hv:BufV h0.next h p v l)
  (Q:Value→Heap→Prop) (hq:∀ h',h0.le h' → h.leB h' → h'.get p=some (.tblk [.pointer (some ⟨p,0,none⟩),v,.int .i64 tabs] prT true)→BufV h0.next h' p v l→Q (.tuple #[]) h'):CallW Tryz.prog 100 [.pointer (some ⟨p,0,none⟩)] h Q:=by
 refine Y7 ok100 rfl rfl rfl fun N=>?_
 rw [show y0 c100 [.pointer (some ⟨p,0,none⟩)]=[.pointer (some ⟨p,0,none⟩)] from rfl]
 delta c100
 replace hq:=zb hq
 rcases ha with rfl | rfl
 ·have st:=Xt (off:=0) (v:=.pointer (some ⟨p,0,none⟩)) hg (by simp) rfl rfl
  have hs:=Bld.set (x:=v) hle hown hg ([Value.pointer none,v,.int .i64 tabs].set 0 (.pointer (some ⟨p,0,none⟩)))
  have hgs:=Heap.set_getS h (.tblk ([Value.pointer none,v,.int .i64 tabs].set 0 (.pointer (some ⟨p,0,none⟩))) prT true) p (by rw [hg];rfl)
  have hv2:BufV h0.next (h.set p (.tblk ([Value.pointer none,v,.int .i64 tabs].set 0 (.pointer (some ⟨p,0,none⟩))) prT true)) p v l:=by
   rcases hv with hv | ⟨q,a,b,c,d⟩
   ·exact .inl hv
   ·exact .inr ⟨q,a,b,c,by rw [Heap.set_getE _ _ _ _ (by simpa using b.1)];exact d⟩
  have g:=hq.h _ hs.1 hs.2 hgs hv2
  have tu:aR .toUns [.pointer (some ⟨p,0,none⟩)] h.get=some (.pointer (some ⟨p,0,none⟩)):=by simp [aR,hg]
  have ou:aR (.ofUns (zo0 Tryz.prog 75)) [.pointer (some ⟨p,0,none⟩)] h.get=some (.pointer (some ⟨p,0,none⟩)):=by simp [aR,hg,lies0]
  clear hs hgs hv2 hv hq hle hown
  replace g:=Hid.mk g
  simp only [za,aW,aR_ld,Q6,pNil,ze5,Option.map_some,Option.isNone_none, *]
  exact g.h
 ·have g:=hq.h h hle (.refl _) hg hv
  have e0:pEqP true [.pointer (some ⟨p,0,none⟩),.pointer (some ⟨p,0,none⟩)]=some (.bool false):=by simp [pEqP]
  clear hv hq hle hown
  replace g:=Hid.mk g
  simp only [za,aR,pNil,ze5,Option.map_some,Option.isNone_some, *]
  exact g.h
end Go.Eng.Sy
namespace Go.Eng.Sy
open Go Go.Eng Go.Proofs
theorem src_S (h:Heap) (s:List UInt8):jp 1 h (str s)=some (ku s):=by simp [jp,ku]
theorem Bld.put {h0 h1 h2:Heap}{p:Nat}{v v' : Value}{l:List UInt8}{tabs:Int}(hle:h0.le h2) (hown:h0.next≤p) (hg:h2.get p=some (.tblk [.pointer (some ⟨p,0,none⟩),v,.int .i64 tabs] prT true)) (hB:h1.leB h2) (hv:BufV h0.next h2 p v' l) :
  yh 1 h2 [.pointer (some ⟨p,1,none⟩),v']=some (undef,h2.set p (.tblk [.pointer (some ⟨p,0,none⟩),v',.int .i64 tabs] prT true)) ∧
  Bld h0 (h2.set p (.tblk [.pointer (some ⟨p,0,none⟩),v',.int .i64 tabs] prT true)) p l tabs∧h1.leB (h2.set p (.tblk [.pointer (some ⟨p,0,none⟩),v',.int .i64 tabs] prT true)):=by
 obtain ⟨o1,o2⟩:=hv.one
 have hs:=Bld.set (x:=v) hle hown hg [.pointer (some ⟨p,0,none⟩),v',.int .i64 tabs]
 refine ⟨Xt (off:=1) hg (by simp) o2 o1,⟨hs.1,hown,_,v',.inr rfl,Heap.set_getS _ _ _ (by rw [hg];rfl),?_⟩,hB.trans hs.2⟩
 rcases hv with hv | ⟨q,a,b,c,d⟩
 ·exact .inl hv
 ·exact .inr ⟨q,a,b,c,by rw [Heap.set_getE _ _ _ _ (by simpa using b.1)];exact d⟩
theorem zq6 {h0 h:Heap}{p:Nat}{l s:List UInt8}{tabs:Int}(hb:Bld h0 h p l tabs) (hlen:l.length + s.length≤140737488355328) (Q:Value→Heap→Prop)
  (hq:∀ v h',Bld h0 h' p (l++s) tabs→h.leB h' → Q v h'):CallW Tryz.prog 65 [.pointer (some ⟨p,0,none⟩),str s] h Q:=by
 obtain ⟨hle,hown,a,v,ha,hg,hv⟩:=hb
 replace ha:=zb ha
 refine wc (k:=2) (j:=3) ok65 rfl rfl rfl fun N=>?_
 rw [show y0 c65 [.pointer (some ⟨p,0,none⟩),str s]=[.pointer (some ⟨p,0,none⟩),str s,undef,undef] from rfl]
 delta c65
 replace hq:=zb hq
 simp only [za, *]
 refine J9 hle hown ha.h hg hv _ fun h1 l1 lB1 g1 hv1=>?_
 obtain ⟨v',h2,ap,hv2,ep,lB2,l2⟩:=hv1.append l1.next (by rw [g1];rfl) (src_S h1 s) hlen
 have l2':=l2 h0 rfl l1
 rw [g1] at ep
 obtain ⟨st,bd,lB3⟩:=Bld.put l2' hown ep (lB1.trans lB2) hv2
 have g:=fun v=>hq.h v _ bd lB3
 clear hq hle hown ha hg hv l1 lB1 hv1 hv2 lB2 l2 l2' bd lB3
 replace g:=Hid.mk g
 simp only [za,aR,aW,Yh, *]
 exact g.h _
theorem write1_c {h0 h:Heap}{p:Nat}{l:List UInt8}{c:UInt8}{tabs:Int}(hb:Bld h0 h p l tabs) (hlen:l.length + 1≤140737488355328) (Q:Value→Heap→Prop)
  (hq:∀ v h',Bld h0 h' p (l++[c]) tabs→h.leB h' → Q v h'):CallW Tryz.prog 67 [.pointer (some ⟨p,0,none⟩),.int .u8 c.toNat] h Q:=by
 obtain ⟨hle,hown,a,v,ha,hg,hv⟩:=hb
 replace ha:=zb ha
 refine zi (k:=2) ok67 rfl rfl rfl fun N=>?_
 rw [show y0 c67 [.pointer (some ⟨p,0,none⟩),.int .u8 c.toNat]=[.pointer (some ⟨p,0,none⟩),.int .u8 c.toNat,undef] from rfl]
 delta c67
 replace hq:=zb hq
 simp only [za, *]
 refine J9 hle hown ha.h hg hv _ fun h1 l1 lB1 g1 hv1=>?_
 have bs:yi [.int .u8 0] [(0,1)] 1 1 [.int .u8 c.toNat]=some ([.int .u8 c.toNat],fun id=>.slice (some ⟨id,0,none⟩) 1 1):=jv rfl rfl rfl rfl
 obtain ⟨q,ha2,eq,eha2,gq,lha2⟩:=zo h1 [.int .u8 c.toNat]
 have g1':=lha2.get g1
 obtain ⟨v',h2,ap,hv2,ep,lB2,l2⟩:=(hv1.mono lha2).append (x:=.slice (some ⟨q,0,none⟩) 1 1) (s:=[c]) (l1.trans lha2).next (by rw [g1'];rfl) (by simp [jp,gq,ku]) (by simpa using hlen)
 have l2':=l2 h0 rfl (l1.trans lha2)
 rw [g1'] at ep
 obtain ⟨st,bd,lB3⟩:=Bld.put l2' hown ep (lB1.trans (lha2.B.trans lB2)) hv2
 have g:=fun v=>hq.h v _ bd lB3
 clear hq hle hown ha hg hv l1 lB1 hv1 hv2 lB2 l2 l2' bd lB3 lha2 gq
 replace g:=Hid.mk g
 simp only [za,aR,aW, *]
 exact g.h _
theorem string_c {h0 h:Heap}{p:Nat}{l:List UInt8}{tabs:Int}(hb:Bld h0 h p l tabs) (hlen:l.length≤140737488355328) (Q:Value→Heap→Prop)
  (hq:∀ h',h0.le h' → h.leB h' → Q (str l) h'):CallW Tryz.prog 31 [.pointer (some ⟨p,0,none⟩)] h Q:=by
 obtain ⟨hle,hown,a,v,ha,hg,hv⟩:=hb
 refine zi (k:=1) ok31 rfl rfl rfl fun N=>?_
 rw [show y0 c31 [.pointer (some ⟨p,0,none⟩)]=[.pointer (some ⟨p,0,none⟩),undef] from rfl]
 delta c31
 replace hq:=zb hq
 rcases hv with ⟨rfl,rfl⟩ | ⟨q,h1,h2,rfl,h3⟩
 ·have e1:Yf 5 h [.pointer none,.int .i64 0]=some (.string ⟨#[]⟩,h):=rfl
  have e2:Zc [.slice none 0 0]=some (.pointer none):=rfl
  have g:=hq.h h hle (.refl _)
  have z0:((0:Nat):Int)=0:=rfl
  clear hq hle hown ha
  replace g:=Hid.mk g
  simp only [za,aR,aW,Yb, *]
  exact g.h
 ·obtain ⟨h2,hl0⟩:=h2
  have hpos:0 < l.length:=List.length_pos_iff.2 hl0
  have e2:Zc [.slice (some ⟨q,0,none⟩) l.length 1]=some (.pointer (some ⟨q,0,none⟩)):=by simp [Zc,hpos]
  have e1:Yf 5 h [.pointer (some ⟨q,0,none⟩),.int .i64 (l.length:Int)]=some (str l,h.set q .dead):=by
   have:(ku l).take (l.length:Int).toNat=ku l:=List.take_of_length_le (by simp [Zf])
   simp only [Yf,h3,Zf,true_and]
   rw [if_pos (by omega),this,zk6]
   rfl
  have g:=hq.h (h.set q .dead) (hle.set h1 _) ⟨fun id cells own g=>by
   rw [Heap.set_getE,g]
   have:id≠q:=fun e=>by subst e;rw [h3] at g;cases g
   simpa using this,Nat.le_refl _⟩
  clear hq hle hown ha
  replace g:=Hid.mk g
  simp only [za,aR,aW,Yb, *]
  exact g.h
end Go.Eng.Sy
namespace Go.Eng.Sy
open Go Go.Eng Go.Proofs
def yu (n:Nat) (ls:List (List UInt8)):List UInt8:=zm n++ls.flatten++[10]
theorem vk {ls:List (List UInt8)}{i:Nat}{s:List UInt8}(h:ls[i]? = some s):(ls.take (i + 1)).flatten=(ls.take i).flatten++s:=by
 rw [List.take_add_one,h];simp
theorem qy (ls:List (List UInt8)) (i:Nat):(ls.take i).flatten.length≤ls.flatten.length:=by
 have h:=congrArg List.flatten (List.take_append_drop i ls)
 rw [List.flatten_append] at h
 rw [← h,List.length_append];omega
theorem Bld.tabs {h0 h:Heap}{p:Nat}{l:List UInt8}{tabs:Int}(hb:Bld h0 h p l tabs):∃ a v,h.get p=some (.tblk [a,v,.int .i64 tabs] prT true):=let ⟨a,v,_,h2,_⟩:=hb.cells;⟨a,v,h2⟩
theorem line_c {h0 h:Heap}{p n:Nat}(hn:n≤60){l:List UInt8}(hb:Bld h0 h p l n){v:Value}{ls:List (List UInt8)}(hv:Strs h v ls) (hl:ls.length≤1000) (hlen:(l++yu n ls).length≤140737488355328) (Q:Value→Heap→Prop)
  (hq:∀ h',Bld h0 h' p (l++yu n ls) n→h.leB h' → Q (.tuple #[]) h'):CallW Tryz.prog 27 [.pointer (some ⟨p,0,none⟩),v] h Q:=by
 obtain ⟨a,b,hg⟩:=hb.tabs
 have hln:=hv.len
 replace hb:=zb hb;replace hv:=zb hv
 unfold yu at hlen
 simp only [List.length_append,List.length_singleton] at hlen
 refine Y7 ok27 rfl rfl rfl fun N=>?_
 rw [show y0 c27 [.pointer (some ⟨p,0,none⟩),v]=[.pointer (some ⟨p,0,none⟩),v,undef,undef,undef,undef,undef] from rfl]
 delta c27
 replace hq:=zb hq
 simp only [za,aR_ld,Q6, *]
 refine repeat_c hn _ ?_
 simp only [za, *]
 refine zq6 hb.h (by omega) _ fun u h1 hb1 l1=>?_
 clear hg
 have hb1:=Hid.mk hb1
 have l1:=Hid.mk l1
 simp only [za, *]
 refine LoopW.upto ls.length (fun i e h1=>h.leB h1∧Bld h0 h1 p (l++zm n++(ls.take i).flatten) n ∧ ∃ x2 x6,e=[.pointer (some ⟨p,0,none⟩),v,x2,v,.int .i64 ls.length,.int .i64 i,x6]) ?_ (Nat.zero_le _) ⟨l1.h,by simpa using hb1.h,_,_,rfl⟩
 rintro i _ h1 R hi ⟨hl1,hbi,x2,x6,rfl⟩ hR
 have hft:=qy ls i
 delta c27_l6
 by_cases hlt:i < ls.length
 ·have hlt' : (i:Int) < ls.length:=by omega
  obtain ⟨s,hs⟩:∃ s,ls[i]? = some s:=⟨_,List.getElem?_eq_getElem hlt⟩
  obtain ⟨id,off,cells,own,e1,e2,e3,_⟩:=(hv.h.monoB hl1).elem hs
  have hw:IntKind.i64.wrap ((i:Int) + 1)=((i + 1:Nat):Int):=by rw [z6 (by omega) (by omega)];rfl
  have hfl:=vk hs
  have hfl2:=qy ls (i + 1)
  rw [hfl,List.length_append] at hfl2
  replace hs:=zb hs;replace hbi:=zb hbi;replace hl1:=zb hl1;replace hfl:=zb hfl;replace hft:=zb hft;replace hfl2:=zb hfl2;replace hlen:=zb hlen
  simp only [za,aR,zf,zg, *]
  refine zq6 hbi.h (by have:=hlen.h;have:=hfl2.h;simp only [List.length_append];omega) _ fun u h2 hb2 l2=>?_
  have hb2:=Hid.mk hb2
  have l2:=Hid.mk (hl1.h.trans l2)
  simp only [za,zf,zg, *]
  exact hR.h _ _ hlt ⟨l2.h,by rw [hfl.h,← List.append_assoc];exact hb2.h,_,_,rfl⟩
 ·have hlt' : ¬ (i:Int) < ls.length:=by omega
  have hi2:i=ls.length:=by omega
  subst hi2
  rw [List.take_length] at hbi
  replace hbi:=zb hbi;replace hl1:=zb hl1;replace hlen:=zb hlen
  clear hR hft
  simp only [za,zf,zg, *]
  refine write1_c (c:=10) hbi.h (by have:=hlen.h;simp only [List.length_append];omega) _ fun u h2 hb2 l2=>?_
  have g:=hq.h h2 (by unfold yu;simpa using hb2) (hl1.h.trans l2)
  replace g:=Hid.mk g
  clear hb2 l2
  simp only [za, *]
  exact g.h
end Go.Eng.Sy
namespace Go.Eng.Sy
open Go Go.Eng Go.Proofs
inductive StI:St→Nat→Prop
 | set (m:List UInt8) (a:Ex) (d:Nat) (h:zp m=true) (ha:ExI a 30):StI (.mk 1 m [] 0 [a] [] []) (d + 1)
 | get (m f:List UInt8) (n:Nat) (d:Nat) (h:zp m=true) (hf:zp f=true) (hn:n≤3):StI (.mk 2 m f n [] [] []) (d + 1)
 | put (m:List UInt8) (n:Nat) (a:Ex) (d:Nat) (h:zp m=true) (hn:n≤3) (ha:ExI a 30):StI (.mk 3 m [] n [a] [] []) (d + 1)
 | store (m:List UInt8) (a b:Ex) (d:Nat) (h:zp m=true) (ha:ExI a 30) (hb:ExI b 30):StI (.mk 4 m [] 0 [a,b] [] []) (d + 1)
 | lock (m:List UInt8) (thn:List St) (d:Nat) (h:zp m=true) (ht:∀ s ∈ thn,StI s d):StI (.mk 5 m [] 0 [] thn []) (d + 1)
 | cond (a:Ex) (thn els:List St) (d:Nat) (ha:ExI a 30) (ht:∀ s ∈ thn,StI s d) (he:∀ s ∈ els,StI s d):StI (.mk 6 [] [] 0 [a] thn els) (d + 1)
 | rep (n:Nat) (thn:List St) (d:Nat) (hn:n≤20) (ht:∀ s ∈ thn,StI s d):StI (.mk 7 [] [] n [] thn []) (d + 1)
 | halt (d:Nat):StI (.mk 8 [] [] 0 [] [] []) (d + 1)
theorem Z3 {a:Ex}{d:Nat}:yd [a] d=true↔ExI a d:=by simp [yd,qr]
theorem X0 {a b:Ex}{d:Nat}:yd [a,b] d=true↔ExI a d∧ExI b d:=by simp [yd,qr]
theorem Zq:∀ (d:Nat) (s:St),kb s d=true↔StI s d
 | 0,.mk k m f n args thn els=>by
  constructor
  ·intro h;simp [kb] at h
  ·intro h;cases h
 | d + 1,.mk k m f n args thn els=>by
  have hall:∀ l:List St,yo l d=true ↔ ∀ s ∈ l,StI s d:=fun l=>by
   rw [kj,List.all_eq_true]
   exact ⟨fun h s hs=>(Zq d s).1 (h s hs),fun h s hs=>(Zq d s).2 (h s hs)⟩
  constructor
  ·intro h
   simp only [kb,Bool.and_eq_true,hall,decide_eq_true_eq,beq_iff_eq] at h
   obtain ⟨⟨⟨⟨⟨⟨⟨⟨⟨⟨h1,h2⟩,h3⟩,h4⟩,h5⟩,h6⟩,h7⟩,h8⟩,h9⟩,ht⟩,he⟩:=h
   obtain ⟨n,rfl⟩:∃ n' : Nat,n=n':=⟨n.toNat,by omega⟩
   have hk:k=1∨k=2∨k=3∨k=4∨k=5∨k=6∨k=7∨k=8:=by simp [xe] at h1;omega
   rcases hk with rfl | rfl | rfl | rfl | rfl | rfl | rfl | rfl
   all_goals simp [jz,wq,Q9,wr,wk,xd,xh] at h2 h3 h5 h6 h8 h9
   ·subst h3 h5 h8 h9
    match args,h6 with
    | [a],_=>exact .set m a d h2 (Z3.1 h7)
   ·subst h6 h8 h9
    exact .get m f n d h2 h3 (by omega)
   ·subst h3 h8 h9
    match args,h6 with
    | [a],_=>exact .put m n a d h2 (by omega) (Z3.1 h7)
   ·subst h3 h5 h8 h9
    match args,h6 with
    | [a,b],_=>exact .store m a b d h2 (X0.1 h7).1 (X0.1 h7).2
   ·subst h3 h5 h6 h9
    exact .lock m thn d h2 ht
   ·subst h2 h3 h5
    match args,h6 with
    | [a],_=>exact .cond a thn els d (Z3.1 h7) ht he
   ·subst h2 h3 h6 h9
    exact .rep n thn d (by omega) ht
   ·subst h2 h3 h5 h6 h8 h9
    exact .halt d
  ·intro h
   cases h with
   | set m a d h ha=>simp [kb,xe,jz,wq,Q9,wr,wk,xd,xh,h,Z3.2 ha,yo]
   | get m f n d h hf hn=>simp [kb,xe,jz,wq,Q9,wr,wk,xd,xh,h,hf,yd,yo];omega
   | put m n a d h hn ha=>simp [kb,xe,jz,wq,Q9,wr,wk,xd,xh,h,Z3.2 ha,yo];omega
   | store m a b d h ha hb=>simp [kb,xe,jz,wq,Q9,wr,wk,xd,xh,h,X0.2 ⟨ha,hb⟩,yo]
   | lock m thn d h ht=>simp [kb,xe,jz,wq,Q9,wr,wk,xd,xh,h,yd,(hall thn).2 ht,yo]
   | cond a thn els d ha ht he=>simp [kb,xe,jz,wq,Q9,wr,wk,xd,xh,Z3.2 ha,(hall thn).2 ht,(hall els).2 he]
   | rep n thn d hn ht=>simp [kb,xe,jz,wq,Q9,wr,wk,xd,xh,yd,(hall thn).2 ht,yo];omega
   | halt d=>simp [kb,xe,jz,wq,Q9,wr,wk,xd,xh,yd,yo]
def qj (t:Nat) (head th el:List UInt8) (more:Bool):List UInt8:=yu t [head,[32,123]]++th++(if more then yu t [[125,32,101,108,115,101,32,123]]++el else [])++yu t [[125]]
def za4 (ts:List (List UInt8)):List UInt8:=ts.getD 0 []
def arg1 (ts:List (List UInt8)):List UInt8:=ts.getD 1 []
def kz (t:Nat) (k:Int) (m f:List UInt8) (n:Int) (ts:List (List UInt8)) (th el:List UInt8) (more:Bool):List UInt8 :=
 if k=1 then yu t [m,[32,61,32],za4 ts,[59]]
 else if k=2 then yu t [m,[32,61,32],f,[46],yj n.toNat,[59]]
 else if k=3 then yu t [m,[46],yj n.toNat,[32,61,32],za4 ts,[59]]
 else if k=4 then yu t [m,[91],za4 ts,[93,32,61,32],arg1 ts,[59]]
 else if k=8 then yu t [[104,97,108,116,59]]
 else if k=5 then qj t ([108,111,99,107,32]++m) th el more
 else if k=7 then qj t ([114,101,112,101,97,116,32]++yj n.toNat) th el more
 else if k=6 then qj t ([105,102,32,40]++za4 ts++[41]) th el more
 else []
mutual
def ym:Nat→St→List UInt8
 | t,.mk k m f n args thn els=>kz t k m f n (args.map zq) (zj (t + 1) thn) (zj (t + 1) els) (!els.isEmpty)
def zj:Nat→List St→List UInt8
 | _,[]=>[]
 | t,s::r=>ym t s++zj t r
end
theorem Zr:∀ (t:Nat) (l:List St) (i:Nat) (s:St),l[i]? = some s→zj t (l.take (i + 1))=zj t (l.take i)++ym t s
 | _,[],i,s,h=>by simp at h
 | t,a::r,0,s,h=>by simp at h;subst h;simp [zj]
 | t,a::r,i + 1,s,h=>by have:=Zr t r i s (by simpa using h);simp only [List.take_succ_cons,zj,this,List.append_assoc]
theorem Jt:∀ (t:Nat) (a b:List St),zj t (a++b)=zj t a++zj t b
 | _,[],_=>rfl
 | t,x::a,b=>by simp only [List.cons_append,zj,Jt t a b,List.append_assoc]
theorem wm (t:Nat) (l:List St) (i:Nat):(zj t (l.take i)).length≤(zj t l).length:=by
 have h:=congrArg (zj t) (List.take_append_drop i l)
 rw [Jt] at h
 rw [← h,List.length_append];omega
theorem Bld.tab {h0 h:Heap}{p:Nat}{l:List UInt8}{t:Int}(hb:Bld h0 h p l t) (t' : Int) :
  ∃ a v h',h.get p=some (.tblk [a,v,.int .i64 t] prT true)∧yh 1 h [.pointer (some ⟨p,2,none⟩),.int .i64 t']=some (undef,h')∧Bld h0 h' p l t' ∧ h.leB h':=by
 obtain ⟨hle,hown,a,v,ha,hg,hv⟩:=hb
 have hs:=Bld.set (x:=v) hle hown hg [a,v,.int .i64 t']
 refine ⟨a,v,_,hg,Xt (off:=2) hg (by simp) rfl rfl,⟨hs.1,hown,a,v,ha,Heap.set_getS _ _ _ (by rw [hg];rfl),?_⟩,hs.2⟩
 rcases hv with hv | ⟨q,a,b,c,d⟩
 ·exact .inl hv
 ·exact .inr ⟨q,a,b,c,by rw [Heap.set_getE _ _ _ _ (by simpa using b.1)];exact d⟩
end Go.Eng.Sy
namespace Go.Eng.Sy
open Go Go.Eng Go.Proofs
abbrev ka:Nat:=140737488355328
def StmtC (d:Nat):Prop:=∀ (s:St),StI s d → ∀ (t:Nat),t + d≤50 → ∀ (x:List Value) (h0 h:Heap) (p:Nat) (l:List UInt8) (Q:Value→Heap→Prop),Bld h0 h p l t→StC h s x→(l++ym t s).length≤ka →
 (∀ h',Bld h0 h' p (l++ym t s) t→h.leB h' → Q (.tuple #[]) h')→CallW Tryz.prog 69 [.pointer (some ⟨p,0,none⟩),.agg x.toArray] h Q
def zl9 (d:Nat):Prop:=∀ (ss:List St),(∀ s ∈ ss,StI s d) → ∀ (t:Nat),t + 1 + d≤50 → ∀ (v:Value) (h0 h:Heap) (p:Nat) (l:List UInt8) (Q:Value→Heap→Prop),Bld h0 h p l t→StsV h v ss→(l++zj (t + 1) ss).length≤ka →
 (∀ h',Bld h0 h' p (l++zj (t + 1) ss) t→h.leB h' → Q (.tuple #[]) h')→CallW Tryz.prog 30 [.pointer (some ⟨p,0,none⟩),v] h Q
theorem zl0 {d:Nat}(ih:StmtC d):zl9 d:=by
 intro ss hss t ht v h0 h p l Q hb hv hlen hq
 have hw1:IntKind.i64.wrap ((t:Int) + 1)=((t + 1:Nat):Int):=by rw [z6 (by omega) (by omega)];rfl
 have hw2:IntKind.i64.wrap (((t + 1:Nat):Int) - 1)=(t:Int):=by rw [z6 (by omega) (by omega)];omega
 obtain ⟨a,b,h1,hg,st,hb1,l1⟩:=hb.tab ((t + 1:Nat):Int)
 have hln:=hv.len
 have hle:=hv.le
 clear hb
 replace ih:=zb ih;replace hss:=zb hss;replace hb1:=zb hb1;replace l1:=zb l1;replace hv:=zb hv;replace hlen:=zb hlen;replace hw2:=zb hw2
 refine Y7 ok30 rfl rfl rfl fun N=>?_
 rw [show y0 c30 [.pointer (some ⟨p,0,none⟩),v]=[.pointer (some ⟨p,0,none⟩),v,undef,undef,undef,undef,undef] from rfl]
 delta c30
 replace hq:=zb hq
 simp only [za,aW,zf,zg,aR_ld,Q6, *]
 clear hg st
 refine LoopW.upto ss.length (fun i e h2=>h.leB h2∧Bld h0 h2 p (l++zj (t + 1) (ss.take i)) ((t + 1:Nat):Int) ∧ ∃ x2 x6,e=[.pointer (some ⟨p,0,none⟩),v,x2,v,.int .i64 ss.length,.int .i64 i,x6]) ?_ (Nat.zero_le _) ⟨l1.h,by simpa [zj] using hb1.h,_,_,rfl⟩
 rintro i _ h2 R hi ⟨hl2,hbi,x2,x6,rfl⟩ hR
 have hft:=wm (t + 1) ss i
 delta c30_l6
 by_cases hlt:i < ss.length
 ·have hlt' : (i:Int) < ss.length:=by omega
  obtain ⟨s,hs⟩:∃ s,ss[i]? = some s:=⟨_,List.getElem?_eq_getElem hlt⟩
  have hsI:=hss.h s (List.mem_of_getElem? hs)
  obtain ⟨id,off,cells,own,x,e1,e2,e3,hx,_⟩:=(hv.h.monoB hl2).elem hs
  have hx0:=hx
  obtain ⟨v1,v2,v3,hval,hargs,hthn,hels⟩:=hx.cells
  subst hval
  have sz:=Uk h2 s.kind s.n s.name s.src hargs.one hthn.one hels.one
  have hw:IntKind.i64.wrap ((i:Int) + 1)=((i + 1:Nat):Int):=by rw [z6 (by omega) (by omega)];rfl
  have hpt:=Zr (t + 1) ss i s hs
  have hft2:=wm (t + 1) ss (i + 1)
  rw [hpt,List.length_append] at hft2
  obtain ⟨q,h3,eq,eh3,gq,lh3⟩:=zo h2 [.int .i64 s.kind,str s.name,str s.src,.int .i64 s.n,v1,v2,v3]
  rw [eh3,eq] at sz
  have hx3:=hx0.mono lh3
  have hb3:=hbi.mono lh3
  have l3:=hl2.trans lh3.B
  clear hx hx0 hargs hthn hels hbi
  replace hx3:=zb hx3;replace hb3:=zb hb3;replace l3:=zb l3;replace hs:=zb hs;replace hsI:=zb hsI;replace hpt:=zb hpt;replace hft:=zb hft;replace hft2:=zb hft2;replace lh3:=zb lh3;replace hl2:=zb hl2
  simp only [za,aR,aW,zf,zg,jm, *]
  refine ih.h s hsI.h (t + 1) (by omega) _ h0 h3 p _ _ hb3.h hx3.h (by have e1:=hlen.h;have e2:=hft2.h;simp only [List.length_append,ka] at e1 e2 ⊢;omega) fun h4 hb4 l4=>?_
  have hb4:=Hid.mk hb4
  have l4:=Hid.mk (l3.h.trans l4)
  simp only [za,zf,zg, *]
  exact hR.h _ _ hlt ⟨l4.h,by rw [hpt.h,← List.append_assoc];exact hb4.h,_,_,rfl⟩
 ·have hlt' : ¬ (i:Int) < ss.length:=by omega
  have hi2:i=ss.length:=by omega
  subst hi2
  rw [List.take_length] at hbi
  obtain ⟨a2,b2,h3,hg3,st3,hb3,l3⟩:=hbi.tab (t:Int)
  have g:=hq.h h3 hb3 (hl2.trans l3)
  have hw2:=hw2.h
  clear hR hft hbi hl2 hb3 l3 hq
  replace g:=Hid.mk g
  simp only [za,aW,zf,zg,aR_ld,Q6, *]
  exact g.h
end Go.Eng.Sy
namespace Go.Eng.Sy
open Go Go.Eng Go.Proofs
theorem bs_1 (a:List UInt8):yi [.string ⟨#[]⟩] [(0,1)] 1 1 [str a]=some ([str a],fun id=>.slice (some ⟨id,0,none⟩) 1 1):=y5 rfl rfl rfl (by simp [Value.cells,Value.oneCell'])
theorem bs_2 (a b:List UInt8):yi [.string ⟨#[]⟩,.string ⟨#[]⟩] [(0,1),(1,1)] 2 1 [str a,str b]=some ([str a,str b],fun id=>.slice (some ⟨id,0,none⟩) 2 1):=y5 rfl rfl rfl (by simp [Value.cells,Value.oneCell'])
theorem bs_3 (a b c:List UInt8):yi [.string ⟨#[]⟩,.string ⟨#[]⟩,.string ⟨#[]⟩] [(0,1),(1,1),(2,1)] 3 1 [str a,str b,str c]=some ([str a,str b,str c],fun id=>.slice (some ⟨id,0,none⟩) 3 1):=y5 rfl rfl rfl (by simp [Value.cells,Value.oneCell'])
theorem bs_4 (a b c d:List UInt8):yi [.string ⟨#[]⟩,.string ⟨#[]⟩,.string ⟨#[]⟩,.string ⟨#[]⟩] [(0,1),(1,1),(2,1),(3,1)] 4 1 [str a,str b,str c,str d]=some ([str a,str b,str c,str d],fun id=>.slice (some ⟨id,0,none⟩) 4 1):=y5 rfl rfl rfl (by simp [Value.cells,Value.oneCell'])
theorem bs_5 (a b c d e:List UInt8):yi [.string ⟨#[]⟩,.string ⟨#[]⟩,.string ⟨#[]⟩,.string ⟨#[]⟩,.string ⟨#[]⟩] [(0,1),(1,1),(2,1),(3,1),(4,1)] 5 1 [str a,str b,str c,str d,str e]=some ([str a,str b,str c,str d,str e],fun id=>.slice (some ⟨id,0,none⟩) 5 1):=y5 rfl rfl rfl (by simp [Value.cells,Value.oneCell'])
theorem bs_6 (a b c d e f:List UInt8):yi [.string ⟨#[]⟩,.string ⟨#[]⟩,.string ⟨#[]⟩,.string ⟨#[]⟩,.string ⟨#[]⟩,.string ⟨#[]⟩] [(0,1),(1,1),(2,1),(3,1),(4,1),(5,1)] 6 1 [str a,str b,str c,str d,str e,str f]=some ([str a,str b,str c,str d,str e,str f],fun id=>.slice (some ⟨id,0,none⟩) 6 1):=y5 rfl rfl rfl (by simp [Value.cells,Value.oneCell'])
theorem ke {h0 h:Heap}{p n:Nat}(hn:n≤60){l:List UInt8}(hb:Bld h0 h p l n) (ls:List (List UInt8)){cells:List Value}{k:Nat}(hc:cells=ls.map str) (hk:k=ls.length) (hl:ls.length≤1000) (hlen:(l++yu n ls).length≤ka) (Q:Value→Heap→Prop)
  (hq:∀ h',Bld h0 h' p (l++yu n ls) n→h.leB h' → Q (.tuple #[]) h'):CallW Tryz.prog 27 [.pointer (some ⟨p,0,none⟩),.slice (some ⟨h.next,0,none⟩) k 1] (h.alloc (.blk cells true)) Q:=by
 have l1:=(Heap.le.refl h).alloc (.blk cells true)
 exact line_c hn (hb.mono l1) (wp h ls hk hc) hl hlen Q fun h' hb' lB=>hq h' hb' (l1.B.trans lB)
theorem Ki {d:Nat}(ihB:zl9 d){k n:Int}{m f:List UInt8}{args:List Ex}{thn els:List St}(ht:∀ s ∈ thn,StI s d) (he:∀ s ∈ els,StI s d){t:Nat}(htd:t + 1 + d≤50){x:List Value}{h0 h:Heap}{p:Nat}{l head:List UInt8}(hb:Bld h0 h p l t) (hx:StC h (.mk k m f n args thn els) x)
  (hlen:(l++qj t head (zj (t + 1) thn) (zj (t + 1) els) (!els.isEmpty)).length≤ka) (Q:Value→Heap→Prop)
  (hq:∀ h',Bld h0 h' p (l++qj t head (zj (t + 1) thn) (zj (t + 1) els) (!els.isEmpty)) t→h.leB h' → Q (.tuple #[]) h'):CallW Tryz.prog 105 [.pointer (some ⟨p,0,none⟩),.agg x.toArray,str head] h Q:=by
 obtain ⟨v1,v2,v3,rfl,hargs,hthn,hels⟩:=hx.cells
 simp only [St.kind,St.name,St.src,St.n,St.args,St.thn,St.els] at hargs hthn hels ⊢
 have b1:=Qu (k:=k) (m:=m) (f:=f) (n:=n) hargs.one hthn.one hels.one
 obtain ⟨q,h1,eq,eh1,gq,lh1⟩:=zo h [.int .i64 k,str m,str f,.int .i64 n,v1,v2,v3]
 have hb1:=hb.mono lh1
 have ht1:=hthn.mono lh1
 have he1:=hels.mono lh1
 have lne:=hels.len
 unfold qj at hlen
 simp only [List.length_append] at hlen
 have u2:=bs_2 head [32,123]
 have u1:=bs_1 [125]
 have u0:=bs_1 [125,32,101,108,115,101,32,123]
 clear hargs hthn hels hx hb
 replace ihB:=zb ihB;replace ht:=zb ht;replace he:=zb he;replace hb1:=zb hb1;replace ht1:=zb ht1;replace he1:=zb he1;replace lh1:=zb lh1;replace hlen:=zb hlen
 refine Y7 ok105 rfl rfl rfl fun N=>?_
 rw [show y0 c105 [.pointer (some ⟨p,0,none⟩),stV k m f n v1 v2 v3,str head]=[.pointer (some ⟨p,0,none⟩),stV k m f n v1 v2 v3,str head,undef] from rfl]
 delta c105
 replace hq:=zb hq
 simp only [za, *]
 refine ke (by omega) hb1.h [head,[32,123]] rfl rfl (by simp) (by have e1:=hlen.h;simp only [List.length_append,ka] at e1 ⊢;omega) _ fun h2 hb2 l2=>?_
 have g2:=l2.get gq
 have ht2:=ht1.h.monoB l2
 have he2:=he1.h.monoB l2
 have l2:=lh1.h.B.trans l2
 clear ht1 he1 hb1 gq lh1 eq eh1
 replace ht2:=zb ht2;replace he2:=zb he2;replace hb2:=zb hb2;replace l2:=zb l2
 simp only [za,aR, *]
 refine ihB.h thn ht.h t htd v2 h0 h2 p _ _ hb2.h ht2.h (by have e1:=hlen.h;simp only [List.length_append,ka] at e1 ⊢;omega) fun h3 hb3 l3=>?_
 have g3:=l3.get g2
 have he3:=he2.h.monoB l3
 have l3:=l2.h.trans l3
 clear ht2 he2 hb2 g2 l2
 replace he3:=zb he3;replace hb3:=zb hb3;replace l3:=zb l3
 cases els with
 | nil =>
  have z:¬ (0:Int) < (([]:List St).length:Int):=by simp
  simp only [za,aR,zf,zg, *]
  refine ke (by omega) hb3.h [[125]] rfl rfl (by simp) (by have e1:=hlen.h;simp at e1 ⊢;simp only [ka] at e1 ⊢;omega) _ fun h4 hb4 l4=>?_
  have g:=hq.h h4 (by simpa [qj] using hb4) (l3.h.trans l4)
  replace g:=Hid.mk g
  clear hb4 l4
  simp only [za, *]
  exact g.h
 | cons s r =>
  have z:(0:Int) < ((s::r).length:Int):=by simp only [List.length_cons];omega
  simp only [za,aR,zf,zg, *]
  refine ke (by omega) hb3.h [[125,32,101,108,115,101,32,123]] rfl rfl (by simp) (by have e1:=hlen.h;simp at e1 ⊢;simp only [ka] at e1 ⊢;omega) _ fun h4 hb4 l4=>?_
  have g4:=l4.get g3
  have he4:=he3.h.monoB l4
  have l4:=l3.h.trans l4
  clear he3 hb3 g3 l3
  replace he4:=zb he4;replace hb4:=zb hb4;replace l4:=zb l4
  simp only [za,aR, *]
  refine ihB.h (s::r) he.h t htd v3 h0 h4 p _ _ hb4.h he4.h (by have e1:=hlen.h;simp at e1 ⊢;simp only [ka] at e1 ⊢;omega) fun h5 hb5 l5=>?_
  have l5:=l4.h.trans l5
  clear he4 hb4 g4 l4
  replace hb5:=zb hb5;replace l5:=zb l5
  simp only [za, *]
  refine ke (by omega) hb5.h [[125]] rfl rfl (by simp) (by have e1:=hlen.h;simp at e1 ⊢;simp only [ka] at e1 ⊢;omega) _ fun h6 hb6 l6=>?_
  have g:=hq.h h6 (by simpa [qj] using hb6) (l5.h.trans l6)
  replace g:=Hid.mk g
  clear hb6 l6
  simp only [za, *]
  exact g.h
end Go.Eng.Sy
namespace Go.Eng.Sy
open Go Go.Eng Go.Proofs
theorem stmt_of {d:Nat}(ihB:zl9 d):StmtC (d + 1):=by
 intro s hs t htd x h0 h p l Q hb hx hlen hq
 have hx0:=hx
 obtain ⟨v1,v2,v3,rfl,hargs,hthn,hels⟩:=hx.cells
 have b1:=Qu (k:=s.kind) (m:=s.name) (f:=s.src) (n:=s.n) hargs.one hthn.one hels.one
 obtain ⟨q,h1,eq,eh1,gq,lh1⟩:=zo h [.int .i64 s.kind,str s.name,str s.src,.int .i64 s.n,v1,v2,v3]
 have hb1:=hb.mono lh1
 have ha1:=hargs.mono lh1
 have hx1:=hx0.mono lh1
 clear hargs hthn hels hx hb hx0
 replace ihB:=zb ihB;replace hb1:=zb hb1;replace ha1:=zb ha1;replace lh1:=zb lh1;replace hlen:=zb hlen;replace hx1:=zb hx1
 have hn0:0≤s.n∧s.n≤20:=by cases hs<;>simp [St.n]<;>omega
 replace hn0:=zb hn0
 refine Y7 ok69 rfl rfl rfl fun N=>?_
 rw [show y0 c69 [.pointer (some ⟨p,0,none⟩),stV s.kind s.name s.src s.n v1 v2 v3]=[.pointer (some ⟨p,0,none⟩),stV s.kind s.name s.src s.n v1 v2 v3,undef,undef,undef] from rfl]
 delta c69
 replace hq:=zb hq
 simp only [za,aR, *]
 refine J3 hn0.h.1 (by have:=hn0.h.2;omega) _ ?_
 cases hs with
 | set m a d h ha =>
  simp only [St.kind,St.name,St.src,St.n,St.args,St.thn,St.els] at *
  obtain ⟨id,off,cells,own,y,e1,e2,e3,hex,_⟩:=ha1.h.elem (i:=0) (e:=a) rfl
  rw [Int.ofNat_zero] at e1
  have u:=bs_4 m [32,61,32] (zq a) [59]
  have hp:ym t (.mk 1 m [] 0 [a] [] [])=yu t [m,[32,61,32],zq a,[59]]:=rfl
  rw [hp] at hq hlen
  replace hex:=zb hex
  simp only [za,aR,zf,zg, *]
  refine Jh 30 (by omega) a ha _ _ _ hex.h fun h2 l2=>jr l2.ext ?_
  have g2:=l2.get gq
  have hb2:=hb1.h.mono l2
  have l3:=lh1.h.trans l2
  clear hb1 ha1 hx1 e1 e2 e3 hex lh1 l2 gq
  replace hb2:=zb hb2;replace l3:=zb l3
  simp only [za,aR, *]
  refine ke (by omega) hb2.h _ rfl rfl (by simp) hlen.h _ fun h4 hb4 l4=>?_
  have g:=hq.h h4 hb4 (l3.h.B.trans l4)
  replace g:=Hid.mk g
  clear hb4 l4
  simp only [za, *]
  exact g.h
 | get m f n d h hf hn =>
  simp only [St.kind,St.name,St.src,St.n,St.args,St.thn,St.els] at *
  have u:=bs_6 m [32,61,32] f [46] (yj (n:Int).toNat) [59]
  have hp:ym t (.mk 2 m f n [] [] [])=yu t [m,[32,61,32],f,[46],yj (n:Int).toNat,[59]]:=rfl
  rw [hp] at hq hlen
  clear hx1 ha1
  simp only [za,aR,zf,zg,Int.reduceBEq, *]
  refine ke (by omega) hb1.h _ rfl rfl (by simp) hlen.h _ fun h4 hb4 l4=>?_
  have g:=hq.h h4 hb4 (lh1.h.B.trans l4)
  replace g:=Hid.mk g
  clear hb4 l4
  simp only [za, *]
  exact g.h
 | put m n a d h hn ha =>
  simp only [St.kind,St.name,St.src,St.n,St.args,St.thn,St.els] at *
  obtain ⟨id,off,cells,own,y,e1,e2,e3,hex,_⟩:=ha1.h.elem (i:=0) (e:=a) rfl
  rw [Int.ofNat_zero] at e1
  have u:=bs_6 m [46] (yj (n:Int).toNat) [32,61,32] (zq a) [59]
  have hp:ym t (.mk 3 m [] n [a] [] [])=yu t [m,[46],yj (n:Int).toNat,[32,61,32],zq a,[59]]:=rfl
  rw [hp] at hq hlen
  replace hex:=zb hex
  simp only [za,aR,zf,zg,Int.reduceBEq, *]
  refine Jh 30 (by omega) a ha _ _ _ hex.h fun h2 l2=>jr l2.ext ?_
  have g2:=l2.get gq
  have hb2:=hb1.h.mono l2
  have l3:=lh1.h.trans l2
  clear hb1 ha1 hx1 e1 e2 e3 hex lh1 l2 gq
  replace hb2:=zb hb2;replace l3:=zb l3
  simp only [za,aR, *]
  refine ke (by omega) hb2.h _ rfl rfl (by simp) hlen.h _ fun h4 hb4 l4=>?_
  have g:=hq.h h4 hb4 (l3.h.B.trans l4)
  replace g:=Hid.mk g
  clear hb4 l4
  simp only [za, *]
  exact g.h
 | store m a b d h ha hb =>
  simp only [St.kind,St.name,St.src,St.n,St.args,St.thn,St.els] at *
  obtain ⟨id,off,cells,own,y,e1,e2,e3,hex,_⟩:=ha1.h.elem (i:=0) (e:=a) rfl
  rw [Int.ofNat_zero] at e1
  have u:=bs_6 m [91] (zq a) [93,32,61,32] (zq b) [59]
  have hp:ym t (.mk 4 m [] 0 [a,b] [] [])=yu t [m,[91],zq a,[93,32,61,32],zq b,[59]]:=rfl
  rw [hp] at hq hlen
  replace hex:=zb hex
  simp only [za,aR,zf,zg,Int.reduceBEq, *]
  refine Jh 30 (by omega) a ha _ _ _ hex.h fun h2 l2=>jr l2.ext ?_
  have g2:=l2.get gq
  have hb2:=hb1.h.mono l2
  obtain ⟨id2,off2,cells2,own2,y2,f1,f2,f3,hex2,_⟩:=(ha1.h.mono l2).elem (i:=1) (e:=b) rfl
  rw [show ((1:Nat):Int)=1 from rfl] at f1
  have l3:=lh1.h.trans l2
  clear hb1 ha1 hx1 e1 e2 e3 hex lh1 l2 gq
  replace hb2:=zb hb2;replace l3:=zb l3;replace hex2:=zb hex2
  simp only [za,aR, *]
  refine Jh 30 (by omega) b hb _ _ _ hex2.h fun h3 l4=>jr l4.ext ?_
  have g3:=l4.get g2
  have hb3:=hb2.h.mono l4
  have l4:=l3.h.trans l4
  clear hb2 f1 f2 f3 hex2 l3 g2
  replace hb3:=zb hb3;replace l4:=zb l4
  simp only [za,aR, *]
  refine ke (by omega) hb3.h _ rfl rfl (by simp) hlen.h _ fun h4 hb4 l5=>?_
  have g:=hq.h h4 hb4 (l4.h.B.trans l5)
  replace g:=Hid.mk g
  clear hb4 l5
  simp only [za, *]
  exact g.h
 | halt d =>
  simp only [St.kind,St.name,St.src,St.n,St.args,St.thn,St.els] at *
  have u:=bs_1 [104,97,108,116,59]
  have hp:ym t (.mk 8 [] [] 0 [] [] [])=yu t [[104,97,108,116,59]]:=rfl
  rw [hp] at hq hlen
  clear hx1 ha1
  simp only [za,aR,zf,zg,Int.reduceBEq, *]
  refine ke (by omega) hb1.h _ rfl rfl (by simp) hlen.h _ fun h4 hb4 l4=>?_
  have g:=hq.h h4 hb4 (lh1.h.B.trans l4)
  replace g:=Hid.mk g
  clear hb4 l4
  simp only [za, *]
  exact g.h
 | lock m thn d h ht =>
  have hm:=yv h
  have ct:=zt (a:=[108,111,99,107,32]) (b:=m) (by simp;omega)
  have hp:ym t (.mk 5 m [] 0 [] thn [])=qj t ([108,111,99,107,32]++m) (zj (t + 1) thn) (zj (t + 1) []) false:=rfl
  rw [hp] at hq hlen
  simp only [St.kind,St.name,St.src,St.n,St.args,St.thn,St.els] at *
  clear ha1 hm
  simp only [za,aR,zf,zg,Int.reduceBEq,jm, *]
  refine Ki ihB.h ht (by simp) (by omega) hb1.h hx1.h hlen.h _ fun h4 hb4 l4=>?_
  have g:=hq.h h4 hb4 (lh1.h.B.trans l4)
  replace g:=Hid.mk g
  clear hb4 l4
  simp only [za, *]
  exact g.h
 | rep n thn d hn ht =>
  have hm:=xz 2 n (by omega)
  have ct:=zt (a:=[114,101,112,101,97,116,32]) (b:=yj (n:Int).toNat) (by simp at hm ⊢;omega)
  have hp:ym t (.mk 7 [] [] n [] thn [])=qj t ([114,101,112,101,97,116,32]++yj (n:Int).toNat) (zj (t + 1) thn) (zj (t + 1) []) false:=rfl
  rw [hp] at hq hlen
  simp only [St.kind,St.name,St.src,St.n,St.args,St.thn,St.els] at *
  clear ha1 hm
  simp only [za,aR,zf,zg,Int.reduceBEq,jm, *]
  refine Ki ihB.h ht (by simp) (by omega) hb1.h hx1.h hlen.h _ fun h4 hb4 l4=>?_
  have g:=hq.h h4 hb4 (lh1.h.B.trans l4)
  replace g:=Hid.mk g
  clear hb4 l4
  simp only [za, *]
  exact g.h
 | cond a thn els d ha ht he =>
  have hm:=wy ha (by omega)
  have ct:=zt (a:=[105,102,32,40]) (b:=zq a) (by simp;omega)
  have ct2:=zt (a:=[105,102,32,40]++zq a) (b:=[41]) (by simp;omega)
  have hp:ym t (.mk 6 [] [] 0 [a] thn els)=qj t ([105,102,32,40]++zq a++[41]) (zj (t + 1) thn) (zj (t + 1) els) (!els.isEmpty):=rfl
  rw [hp] at hq hlen
  simp only [St.kind,St.name,St.src,St.n,St.args,St.thn,St.els] at *
  obtain ⟨id,off,cells,own,y,e1,e2,e3,hex,_⟩:=ha1.h.elem (i:=0) (e:=a) rfl
  rw [Int.ofNat_zero] at e1
  clear ha1 hm
  replace hex:=zb hex
  simp only [za,aR,zf,zg,Int.reduceBEq, *]
  refine Jh 30 (by omega) a ha _ _ _ hex.h fun h2 l2=>jr l2.ext ?_
  have g2:=l2.get gq
  have hb2:=hb1.h.mono l2
  have hx2:=hx1.h.mono l2
  have l3:=lh1.h.trans l2
  clear hb1 hx1 e1 e2 e3 hex lh1 l2 gq
  replace hb2:=zb hb2;replace l3:=zb l3;replace hx2:=zb hx2
  simp only [za,aR,zf,jm, *]
  refine Ki ihB.h ht he (by omega) hb2.h hx2.h hlen.h _ fun h4 hb4 l4=>?_
  have g:=hq.h h4 hb4 (l3.h.B.trans l4)
  replace g:=Hid.mk g
  clear hb4 l4
  simp only [za, *]
  exact g.h
theorem stmt_c:∀ (d:Nat),d≤45→StmtC d
 | 0,_=>fun s hs=>by cases hs
 | d + 1,hd=>stmt_of (zl0 (stmt_c d (by omega)))
theorem yc1 (d:Nat) (hd:d≤45):zl9 d:=zl0 (stmt_c d hd)
end Go.Eng.Sy
namespace Go.Eng.Sy
open Go Go.Eng Go.Proofs
def kindsL:List (List UInt8):=[[],[117,97,114,116],[116,105,109,101,114],[103,112,105,111]]
def qm (d:Nm):List UInt8:=yu 0 [[100,101,118,105,99,101,32],d.name,[32],kindsL.getD d.n.toNat []]
def qt (d:Nm):List UInt8:=yu 0 [[114,101,115,111,117,114,99,101,32],d.name,[32],yj d.n.toNat]
def Qe (t:Tsk):List UInt8:=[32]++t.name++[32]++yj t.hart.toNat++[32]++yj t.prio.toNat
def yl (t:Tsk):List UInt8:=(if t.handler then yu 0 [[104,97,110,100,108,101,114],Qe t,[32],yj t.line.toNat,[32,123]] else yu 0 [[116,97,115,107],Qe t,[32,123]])++zj 1 t.body++yu 0 [[125]]
def vd (p:Prg):List UInt8:=yu 0 [[104,97,114,116,115,32],yj p.harts.toNat]++(p.devs.map qm).flatten++(p.ress.map qt).flatten++(p.tasks.map yl).flatten
theorem bs_kinds:yi [.string ⟨#[]⟩,.string ⟨#[]⟩,.string ⟨#[]⟩,.string ⟨#[]⟩] [(0,1),(1,1),(2,1),(3,1)] 4 1 [.string ⟨#[]⟩,.string ⟨#[117,97,114,116]⟩,.string ⟨#[116,105,109,101,114]⟩,.string ⟨#[103,112,105,111]⟩]=some ([.string ⟨#[]⟩,.string ⟨#[117,97,114,116]⟩,.string ⟨#[116,105,109,101,114]⟩,.string ⟨#[103,112,105,111]⟩],fun id=>.slice (some ⟨id,0,none⟩) 4 1):=y5 rfl rfl rfl (by simp [Value.cells,Value.oneCell'])
theorem kinds_c (h:Heap) (Q:Value→Heap→Prop) (hq:∀ v h',Strs h' v kindsL→h.le h' → Q v h'):CallW Tryz.prog 29 [] h Q:=by
 refine zi (k:=0) ok29 rfl rfl rfl fun N=>?_
 rw [show y0 c29 []=[undef] from rfl]
 delta c29
 replace hq:=zb hq
 simp only [za,bs_kinds, *]
 exact hq.h _ _ (wp h kindsL rfl rfl) ((Heap.le.refl h).alloc _)
theorem Yv (h:Heap) (m:List UInt8) (k:Int):yh 2 (h.alloc (.blk [.string ⟨#[]⟩,.int .i64 0] true)) [.pointer (some ⟨h.next,0,none⟩),nmV m k]=some (undef,h.alloc (.blk [str m,.int .i64 k] true)):=zy rfl rfl rfl (by simp [Value.oneCell'])
theorem NmsV.elem {h:Heap}{v:Value}{l:List Nm}(hv:NmsV h v l){i:Nat}{e:Nm}(hi:l[i]? = some e) :
  ∃ id off cells own,yx 2 [v,.int .i64 i]=some (.pointer (some ⟨id,off,none⟩))∧h.get id=some (.blk cells own)∧qk true off 2 cells=some (nmV e.name e.n):=by
 obtain ⟨id,off,cells,own,h1,h2,h3,h4⟩:=SlV.elem hv.1 (i:=i) (x:=[str e.name,.int .i64 e.n]) (by simp [hi])
 exact ⟨id,off,cells,own,h1,h2,h3⟩
theorem NmsV.monoB {h h' : Heap}(hl:h.leB h'){v:Value}{l:List Nm}(hv:NmsV h v l):NmsV h' v l:=⟨hv.1.monoB hl,hv.2⟩
theorem TssV.monoB {h h' : Heap}(hl:h.leB h'){v:Value}{l:List Tsk}(hv:TssV h v l):TssV h' v l:=by
 obtain ⟨xs,e1,e2,e3⟩:=hv
 refine ⟨xs,e1.monoB hl,e2,?_⟩
 have key:∀ {l:List Tsk}{xs:List (List Value)},TsCs h l xs→TsCs h' l xs:=by
  intro l
  induction l with
  | nil=>exact fun h=>h
  | cons a r ih=>exact fun ⟨x,xr,h1,⟨v,h2,h3⟩,h4⟩=>⟨x,xr,h1,⟨v,h2,h3.monoB hl⟩,ih h4⟩
 exact key e3
theorem map_get {α β:Type}{l:List α}{i:Nat}{e:α}(f:α→β) (h:l[i]? = some e):(l.map f)[i]? = some (f e):=by simp [h]
theorem printD_w {q:Nat}{h0 h:Heap}{w:Nat}{l0:List UInt8}(hb0:Bld h0 h w l0 0){v:Value}{l:List Nm}(hv:NmsV h v l) (hok:∀ d ∈ l,vm d=true) (hlen:l0.length + (l.map qm).flatten.length≤ka){N:Nat}{vars:List Nat}{pv x2 x3 u5 u6 u7 u8 u12 u13 u14 u15 u16 u17 u18 u19 u20:Value}(R:AExit→List Value→Heap→Prop)
  (hq:∀ h' x5 x11 x12,Bld h0 h' w (l0++(l.map qm).flatten) 0→h.leB h' → R (.exit 0) [pv,.pointer (some ⟨q,0,none⟩),x2,x3,.pointer (some ⟨w,0,none⟩),x5,u6,u7,u8,v,.int .i64 l.length,x11,x12,u13,u14,u15,u16,u17,u18,u19,u20] h') :
  LoopW Tryz.prog N vars zz3 [pv,.pointer (some ⟨q,0,none⟩),x2,x3,.pointer (some ⟨w,0,none⟩),u5,u6,u7,u8,v,.int .i64 l.length,.int .i64 0,u12,u13,u14,u15,u16,u17,u18,u19,u20] h R:=by
 have hle:=hv.2
 refine LoopW.upto l.length (fun i e h2=>h.leB h2∧Bld h0 h2 w (l0++((l.map qm).take i).flatten) 0 ∧ ∃ x5 x12,e=[pv,.pointer (some ⟨q,0,none⟩),x2,x3,.pointer (some ⟨w,0,none⟩),x5,u6,u7,u8,v,.int .i64 l.length,.int .i64 i,x12,u13,u14,u15,u16,u17,u18,u19,u20]) ?_ (Nat.zero_le _) ⟨.refl h,by simpa using hb0,_,_,rfl⟩
 rintro i _ h2 R2 hi ⟨hl2,hbi,x5,x12,rfl⟩ hR
 delta zz3
 replace hq:=Hid.mk hq
 by_cases hlt:i < l.length
 ·have hlt' : (i:Int) < l.length:=by omega
  obtain ⟨d,hd⟩:∃ d,l[i]? = some d:=⟨_,List.getElem?_eq_getElem hlt⟩
  have hok1:=hok d (List.mem_of_getElem? hd)
  simp only [vm,Bool.and_eq_true,decide_eq_true_eq] at hok1
  obtain ⟨id,off,cells,own,e1,e2,e3⟩:=(hv.monoB hl2).elem hd
  have sz:=Yv h2 d.name d.n
  have hw:IntKind.i64.wrap ((i:Int) + 1)=((i + 1:Nat):Int):=by rw [z6 (by omega) (by omega)];rfl
  have hft:=vk (map_get qm hd)
  have hft2:=qy (l.map qm) (i + 1)
  rw [hft,List.length_append] at hft2
  obtain ⟨pd,h3,epd,eh3,gpd,lh3⟩:=zo h2 [str d.name,.int .i64 d.n]
  rw [eh3,epd] at sz
  have hb3:=hbi.mono lh3
  have l3:=hl2.trans lh3.B
  clear hbi hb0
  replace hb3:=zb hb3;replace l3:=zb l3;replace hd:=zb hd;replace hok1:=zb hok1;replace hft:=zb hft;replace hft2:=zb hft2;replace hlen:=zb hlen;replace hl2:=zb hl2;replace hv:=zb hv
  simp only [za,aR,aW,zf,zg, *]
  refine kinds_c _ _ fun kv h4 hk l4=>jr l4.ext ?_
  have gp4:=l4.get gpd
  obtain ⟨kn,hkn⟩:∃ k:Nat,d.n=k:=⟨d.n.toNat,by have:=hok1.h;omega⟩
  have hkd:kindsL[kn]? = some (kindsL.getD kn []):=getD_some (by have:=hok1.h;show kn < 4;omega) []
  obtain ⟨id2,off2,cells2,own2,f1,f2,f3,_⟩:=hk.elem hkd
  have hb4:=hb3.h.mono l4
  have l4:=l3.h.trans l4.B
  rw [hkn] at gp4
  have u:=bs_4 [100,101,118,105,99,101,32] d.name [32] (kindsL.getD kn [])
  have hpd:qm d=yu 0 [[100,101,118,105,99,101,32],d.name,[32],kindsL.getD kn []]:=by rw [qm,hkn];rfl
  rw [hpd] at hft hft2
  clear hb3 l3 gpd hkd hk hkn hpd lh3
  replace hb4:=zb hb4;replace l4:=zb l4
  have z0:((0:Nat):Int)=0:=rfl
  simp only [za,aR, *]
  refine ke (n:=0) (by omega) hb4.h [[100,101,118,105,99,101,32],d.name,[32],kindsL.getD kn []] rfl rfl (by simp) (by have e1:=hlen.h;have e2:=hft2.h;simp only [List.length_append,ka] at e1 e2 ⊢;omega) _ fun h5 hb5 l5=>?_
  have l5:=l4.h.trans l5
  clear hb4 l4
  replace hb5:=zb hb5;replace l5:=zb l5
  simp only [za,zf,zg, *]
  exact hR.h _ _ hlt ⟨l5.h,by rw [hft.h,← List.append_assoc];exact hb5.h,_,_,rfl⟩
 ·have hlt' : ¬ (i:Int) < l.length:=by omega
  have hi2:i=l.length:=by omega
  subst hi2
  rw [List.take_of_length_le (by simp)] at hbi
  have g:=fun a b c=>hq.h h2 a b c hbi hl2
  replace g:=Hid.mk g
  clear hR hq hbi hb0 hlen
  simp only [za,zf,zg, *]
  exact g.h _ _ _
theorem printR_w {q:Nat}{h0 h:Heap}{w:Nat}{l0:List UInt8}(hb0:Bld h0 h w l0 0){v:Value}{l:List Nm}(hv:NmsV h v l) (hok:∀ d ∈ l,vc d=true) (hlen:l0.length + (l.map qt).flatten.length≤ka){N:Nat}{vars:List Nat}{pv x2 x3 u5 u6 u7 u8 u9 u10 u11 u12 u16 u17 u18 u19 u20:Value}(R:AExit→List Value→Heap→Prop)
  (hq:∀ h' x6 x15 x16,Bld h0 h' w (l0++(l.map qt).flatten) 0→h.leB h' → R (.exit 2) [pv,.pointer (some ⟨q,0,none⟩),x2,x3,.pointer (some ⟨w,0,none⟩),u5,x6,u7,u8,u9,u10,u11,u12,v,.int .i64 l.length,x15,x16,u17,u18,u19,u20] h') :
  LoopW Tryz.prog N vars zz2 [pv,.pointer (some ⟨q,0,none⟩),x2,x3,.pointer (some ⟨w,0,none⟩),u5,u6,u7,u8,u9,u10,u11,u12,v,.int .i64 l.length,.int .i64 0,u16,u17,u18,u19,u20] h R:=by
 have hle:=hv.2
 refine LoopW.upto l.length (fun i e h2=>h.leB h2∧Bld h0 h2 w (l0++((l.map qt).take i).flatten) 0 ∧ ∃ x6 x16,e=[pv,.pointer (some ⟨q,0,none⟩),x2,x3,.pointer (some ⟨w,0,none⟩),u5,x6,u7,u8,u9,u10,u11,u12,v,.int .i64 l.length,.int .i64 i,x16,u17,u18,u19,u20]) ?_ (Nat.zero_le _) ⟨.refl h,by simpa using hb0,_,_,rfl⟩
 rintro i _ h2 R2 hi ⟨hl2,hbi,x6,x16,rfl⟩ hR
 delta zz2
 replace hq:=Hid.mk hq
 by_cases hlt:i < l.length
 ·have hlt' : (i:Int) < l.length:=by omega
  obtain ⟨d,hd⟩:∃ d,l[i]? = some d:=⟨_,List.getElem?_eq_getElem hlt⟩
  have hok1:=hok d (List.mem_of_getElem? hd)
  simp only [vc,Bool.and_eq_true,decide_eq_true_eq] at hok1
  obtain ⟨id,off,cells,own,e1,e2,e3⟩:=(hv.monoB hl2).elem hd
  have sz:=Yv h2 d.name d.n
  have hw:IntKind.i64.wrap ((i:Int) + 1)=((i + 1:Nat):Int):=by rw [z6 (by omega) (by omega)];rfl
  have hft:=vk (map_get qt hd)
  have hft2:=qy (l.map qt) (i + 1)
  rw [hft,List.length_append] at hft2
  obtain ⟨pd,h3,epd,eh3,gpd,lh3⟩:=zo h2 [str d.name,.int .i64 d.n]
  rw [eh3,epd] at sz
  have hb3:=hbi.mono lh3
  have l3:=hl2.trans lh3.B
  clear hbi hb0
  replace hb3:=zb hb3;replace l3:=zb l3;replace hd:=zb hd;replace hok1:=zb hok1;replace hft:=zb hft;replace hft2:=zb hft2;replace hlen:=zb hlen;replace hl2:=zb hl2;replace hv:=zb hv
  simp only [za,aR,aW,zf,zg, *]
  refine J3 (by have:=hok1.h;omega) (by have:=hok1.h;omega) _ ?_
  refine jr (Heap.le.refl _).ext ?_
  have u:=bs_4 [114,101,115,111,117,114,99,101,32] d.name [32] (yj d.n.toNat)
  have hpd:qt d=yu 0 [[114,101,115,111,117,114,99,101,32],d.name,[32],yj d.n.toNat]:=rfl
  rw [hpd] at hft hft2
  have hb4:=hb3.h
  have l4:=l3.h
  clear hb3 l3 hpd lh3
  replace hb4:=zb hb4;replace l4:=zb l4
  have z0:((0:Nat):Int)=0:=rfl
  simp only [za,aR, *]
  refine ke (n:=0) (by omega) hb4.h [[114,101,115,111,117,114,99,101,32],d.name,[32],yj d.n.toNat] rfl rfl (by simp) (by have e1:=hlen.h;have e2:=hft2.h;simp only [List.length_append,ka] at e1 e2 ⊢;omega) _ fun h5 hb5 l5=>?_
  have l5:=l4.h.trans l5
  clear hb4 l4
  replace hb5:=zb hb5;replace l5:=zb l5
  simp only [za,zf,zg, *]
  exact hR.h _ _ hlt ⟨l5.h,by rw [hft.h,← List.append_assoc];exact hb5.h,_,_,rfl⟩
 ·have hlt' : ¬ (i:Int) < l.length:=by omega
  have hi2:i=l.length:=by omega
  subst hi2
  rw [List.take_of_length_le (by simp)] at hbi
  have g:=fun a b c=>hq.h h2 a b c hbi hl2
  replace g:=Hid.mk g
  clear hR hq hbi hb0 hlen
  simp only [za,zf,zg, *]
  exact g.h _ _ _
end Go.Eng.Sy
namespace Go.Eng.Sy
open Go Go.Eng Go.Proofs
structure TskI (t:Tsk):Prop where
 name:zp t.name=true
 hart:0≤t.hart∧t.hart≤3
 prio:1≤t.prio∧t.prio≤7
 line:0≤t.line∧t.line≤7
 body:∀ s ∈ t.body,StI s 30
theorem taskOk_I {t:Tsk}(h:jk t=true):TskI t:=by
 simp only [jk,Bool.and_eq_true,decide_eq_true_eq,kj,List.all_eq_true] at h
 obtain ⟨⟨⟨⟨h1,h2⟩,h3⟩,h4⟩,h5⟩:=h
 exact ⟨h1,h2,h3,by split at h4<;>omega,fun s hs=>(Zq 30 s).1 (h5 s hs)⟩
theorem printT_w {q:Nat}{h0 h:Heap}{w:Nat}{l0:List UInt8}(hb0:Bld h0 h w l0 0){v:Value}{l:List Tsk}(hv:TssV h v l) (hok:∀ d ∈ l,jk d=true) (hlen:l0.length + (l.map yl).flatten.length≤ka){N:Nat}{vars:List Nat}{pv x2 x3 u5 u6 u7 u8 u9 u10 u11 u12 u13 u14 u15 u16 u20:Value}(R:AExit→List Value→Heap→Prop)
  (hq:∀ h' x7 x8 x19 x20,Bld h0 h' w (l0++(l.map yl).flatten) 0→h.leB h' → R (.exit 4) [pv,.pointer (some ⟨q,0,none⟩),x2,x3,.pointer (some ⟨w,0,none⟩),u5,u6,x7,x8,u9,u10,u11,u12,u13,u14,u15,u16,v,.int .i64 l.length,x19,x20] h') :
  LoopW Tryz.prog N vars zz1 [pv,.pointer (some ⟨q,0,none⟩),x2,x3,.pointer (some ⟨w,0,none⟩),u5,u6,u7,u8,u9,u10,u11,u12,u13,u14,u15,u16,v,.int .i64 l.length,.int .i64 0,u20] h R:=by
 have hle:=hv.le
 refine LoopW.upto l.length (fun i e h2=>h.leB h2∧Bld h0 h2 w (l0++((l.map yl).take i).flatten) 0 ∧ ∃ x7 x8 x20,e=[pv,.pointer (some ⟨q,0,none⟩),x2,x3,.pointer (some ⟨w,0,none⟩),u5,u6,x7,x8,u9,u10,u11,u12,u13,u14,u15,u16,v,.int .i64 l.length,.int .i64 i,x20]) ?_ (Nat.zero_le _) ⟨.refl h,by simpa using hb0,_,_,_,rfl⟩
 rintro i _ h2 R2 hi ⟨hl2,hbi,x7,x8,x20,rfl⟩ hR
 delta zz1
 replace hq:=Hid.mk hq
 by_cases hlt:i < l.length
 ·have hlt' : (i:Int) < l.length:=by omega
  obtain ⟨t,hd⟩:∃ d,l[i]? = some d:=⟨_,List.getElem?_eq_getElem hlt⟩
  have hok1:=taskOk_I (hok t (List.mem_of_getElem? hd))
  obtain ⟨id,off,cells,own,u,e1,e2,e3,hbody⟩:=(hv.monoB hl2).elem hd
  have sz:=Yu h2 t.name t.handler t.hart t.prio t.line hbody.one
  have hw:IntKind.i64.wrap ((i:Int) + 1)=((i + 1:Nat):Int):=by rw [z6 (by omega) (by omega)];rfl
  have hft:=vk (map_get yl hd)
  have hft2:=qy (l.map yl) (i + 1)
  rw [hft,List.length_append] at hft2
  obtain ⟨pd,h3,epd,eh3,gpd,lh3⟩:=zo h2 [str t.name,.bool t.handler,.int .i64 t.hart,.int .i64 t.prio,.int .i64 t.line,u]
  rw [eh3,epd] at sz
  have hb3:=hbi.mono lh3
  have hy3:=hbody.mono lh3
  have l3:=hl2.trans lh3.B
  have n1:=yv hok1.name
  have n2:=xz 2 t.hart.toNat (by have:=hok1.hart;omega)
  have n3:=xz 2 t.prio.toNat (by have:=hok1.prio;omega)
  have ct1:=zt (a:=[32]) (b:=t.name) (by simp;omega)
  have ct2:=zt (a:=[32]++t.name) (b:=[32]) (by simp;omega)
  have ct3:=zt (a:=[32]++t.name++[32]) (b:=yj t.hart.toNat) (by simp;omega)
  have ct4:=zt (a:=[32]++t.name++[32]++yj t.hart.toNat) (b:=[32]) (by simp;omega)
  have ct5:=zt (a:=[32]++t.name++[32]++yj t.hart.toNat++[32]) (b:=yj t.prio.toNat) (by simp;omega)
  have hh:[32]++t.name++[32]++yj t.hart.toNat++[32]++yj t.prio.toNat=Qe t:=rfl
  rw [hh] at ct5
  clear hbi hb0 hbody n1 n2 n3 hh
  replace hb3:=zb hb3;replace hy3:=zb hy3;replace l3:=zb l3;replace hd:=zb hd;replace hok1:=zb hok1;replace hft:=zb hft;replace hft2:=zb hft2;replace hlen:=zb hlen;replace hl2:=zb hl2;replace hv:=zb hv
  have z0:((0:Nat):Int)=0:=rfl
  simp only [za,aR,aW,zf,zg, *]
  refine J3 hok1.h.hart.1 (by have:=hok1.h.hart;omega) _ (jr (Heap.le.refl _).ext ?_)
  simp only [za,aR, *]
  refine J3 (by have:=hok1.h.prio;omega) (by have:=hok1.h.prio;omega) _ (jr (Heap.le.refl _).ext ?_)
  clear sz
  have hrest:∀ h4 hd,h3.leB h4→hd=(if t.handler then yu 0 [[104,97,110,100,108,101,114],Qe t,[32],yj t.line.toNat,[32,123]] else yu 0 [[116,97,115,107],Qe t,[32,123]])→Bld h0 h4 w (l0++((l.map yl).take i).flatten++hd) 0 →
    (l0++((l.map yl).take i).flatten++hd++zj 1 t.body++yu 0 [[125]]).length≤ka∧h.leB h4∧h4.get pd=some (.blk [str t.name,.bool t.handler,.int .i64 t.hart,.int .i64 t.prio,.int .i64 t.line,u] true)∧StsV h4 u t.body:=by
   intro h4 hd hl4 hhd hb4
   have e1:=hlen.h
   have e2:=hft2.h
   refine ⟨?_,l3.h.trans hl4,hl4.get gpd,hy3.h.monoB hl4⟩
   rw [yl,← hhd] at e2
   simp only [List.length_append,ka] at e1 e2 ⊢
   omega
  replace hrest:=zb hrest
  cases hhn:t.handler with
  | true =>
   rw [hhn] at gpd hrest
   simp only [if_true] at hrest
   have u5':=bs_5 [104,97,110,100,108,101,114] (Qe t) [32] (yj t.line.toNat) [32,123]
   simp only [za,aR,zf, *]
   refine J3 hok1.h.line.1 (by have:=hok1.h.line;omega) _ ?_
   simp only [za, *]
   refine ke (n:=0) (by omega) hb3.h [[104,97,110,100,108,101,114],Qe t,[32],yj t.line.toNat,[32,123]] rfl rfl (by simp) (by have e1:=hlen.h;have e2:=hft2.h;simp only [yl,hhn,if_true,List.length_append,ka] at e1 e2 ⊢;omega) _ fun h4 hb4 l4=>?_
   obtain ⟨r1,r2,r3,r4⟩:=hrest.h h4 _ l4 rfl hb4
   clear hrest hb3 hy3 l3 gpd l4 u5' ct1 ct2 ct3 ct4 ct5
   replace r1:=zb r1;replace r2:=zb r2;replace r4:=zb r4;replace hb4:=zb hb4
   simp only [za,aR, *]
   refine yc1 30 (by omega) t.body hok1.h.body 0 (by omega) u h0 h4 w _ _ hb4.h r4.h (by have e1:=r1.h;simp only [List.length_append,ka,Nat.zero_add] at e1 ⊢;omega) fun h5 hb5 l5=>?_
   have u1:=bs_1 [125]
   have l5:=r2.h.trans l5
   clear r3 r4 r2 hb4
   replace l5:=zb l5;replace hb5:=zb hb5
   simp only [za, *]
   refine ke (n:=0) (by omega) hb5.h _ rfl rfl (by simp) r1.h _ fun h6 hb6 l6=>?_
   have l6:=l5.h.trans l6
   clear hb5 l5
   replace l6:=zb l6;replace hb6:=zb hb6
   simp only [za,zf,zg, *]
   refine hR.h _ _ hlt ⟨l6.h,?_,_,_,_,rfl⟩
   rw [hft.h,yl,hhn]
   simpa using hb6.h
  | false =>
   rw [hhn] at gpd hrest
   simp only [Bool.false_eq_true,if_false] at hrest
   have u5':=bs_3 [116,97,115,107] (Qe t) [32,123]
   simp only [za,aR,zf, *]
   refine ke (n:=0) (by omega) hb3.h [[116,97,115,107],Qe t,[32,123]] rfl rfl (by simp) (by have e1:=hlen.h;have e2:=hft2.h;simp only [yl,hhn,Bool.false_eq_true,if_false,List.length_append,ka] at e1 e2 ⊢;omega) _ fun h4 hb4 l4=>?_
   obtain ⟨r1,r2,r3,r4⟩:=hrest.h h4 _ l4 rfl hb4
   clear hrest hb3 hy3 l3 gpd l4 u5' ct1 ct2 ct3 ct4 ct5
   replace r1:=zb r1;replace r2:=zb r2;replace r4:=zb r4;replace hb4:=zb hb4
   simp only [za,aR, *]
   refine yc1 30 (by omega) t.body hok1.h.body 0 (by omega) u h0 h4 w _ _ hb4.h r4.h (by have e1:=r1.h;simp only [List.length_append,ka,Nat.zero_add] at e1 ⊢;omega) fun h5 hb5 l5=>?_
   have u1:=bs_1 [125]
   have l5:=r2.h.trans l5
   clear r3 r4 r2 hb4
   replace l5:=zb l5;replace hb5:=zb hb5
   simp only [za, *]
   refine ke (n:=0) (by omega) hb5.h _ rfl rfl (by simp) r1.h _ fun h6 hb6 l6=>?_
   have l6:=l5.h.trans l6
   clear hb5 l5
   replace l6:=zb l6;replace hb6:=zb hb6
   simp only [za,zf,zg, *]
   refine hR.h _ _ hlt ⟨l6.h,?_,_,_,_,rfl⟩
   rw [hft.h,yl,hhn]
   simpa using hb6.h
 ·have hlt' : ¬ (i:Int) < l.length:=by omega
  have hi2:i=l.length:=by omega
  subst hi2
  rw [List.take_of_length_le (by simp)] at hbi
  have g:=fun a b c d=>hq.h h2 a b c d hbi hl2
  replace g:=Hid.mk g
  clear hR hq hbi hb0 hlen
  simp only [za,zf,zg, *]
  exact g.h _ _ _ _
end Go.Eng.Sy
namespace Go.Eng.Sy
open Go Go.Eng Go.Proofs
theorem ze2 (h:Heap):aW (.boxT prT) [.agg #[.pointer none,.slice none 0 0,.int .i64 0]] h=some (.pointer (some ⟨h.next,0,none⟩),h.alloc (.tblk [.pointer none,.slice none 0 0,.int .i64 0] prT true)):=rfl
theorem Bld.fresh (h:Heap):Bld h (h.alloc (.tblk [.pointer none,.slice none 0 0,.int .i64 0] prT true)) h.next [] 0 :=
 ⟨(Heap.le.refl h).alloc _,Nat.le_refl _,_,_,.inl rfl,Heap.get_alloc_same _ _,.inl ⟨rfl,rfl⟩⟩
theorem Zt (a b c d:Value):qk true 0 4 [a,b,c,d]=some (.agg #[a,b,c,d]):=rfl
theorem Ql {p:Prg}(h:jq p=true):(1≤p.harts∧p.harts≤4)∧(∀ d ∈ p.devs,vm d=true)∧(∀ d ∈ p.ress,vc d=true)∧(∀ d ∈ p.tasks,jk d=true):=by
 simp only [jq,Bool.and_eq_true,decide_eq_true_eq,List.all_eq_true] at h
 exact ⟨h.1.1.1.1.1.1,h.1.1.2,h.1.2,h.2⟩
theorem yd8 {h:Heap}{p:Prg}{x:List Value}(hx:PrC h p x) (hlen:jq p=true→(vd p).length≤ka) (Q:Value→Heap→Prop)
  (hq:∀ h',h.le h' → Q (.tuple #[str (if jq p then vd p else []),.int .i64 (if jq p then 0 else 1)]) h'):CallW Tryz.prog 9 [.agg x.toArray] h Q:=by
 have hx0:=hx
 obtain ⟨d,r,t,rfl,hd,hr,ht⟩:=hx
 have b1:=Yd (n:=p.harts) hd.one hr.one ht.one
 obtain ⟨q,h1,eq,eh1,gq,lh1⟩:=zo h [.int .i64 p.harts,d,r,t]
 have hx1:=hx0.mono lh1
 have hd1:=hd.mono lh1
 have hr1:=hr.mono lh1
 have ht1:=ht.mono lh1
 clear hd hr ht hx0
 replace hx1:=zb hx1;replace hd1:=zb hd1;replace hr1:=zb hr1;replace ht1:=zb ht1;replace lh1:=zb lh1;replace hlen:=zb hlen
 refine wc (k:=2) (j:=3) ok9 rfl rfl rfl fun N=>?_
 rw [show y0 c9 [prV p.harts d r t]=[prV p.harts d r t,undef,undef,undef,undef,undef,undef,undef,undef,undef,undef,undef,undef,undef,undef,undef,undef,undef,undef,undef,undef] from rfl]
 delta c9
 replace hq:=zb hq
 simp only [za,aR,Zt, *]
 refine Uc hx1.h _ fun h2 l2=>?_
 have g2:=l2.get gq
 have hd2:=hd1.h.mono l2
 have hr2:=hr1.h.mono l2
 have ht2:=ht1.h.mono l2
 have l2:=lh1.h.trans l2
 clear hx1 hd1 hr1 ht1 lh1 b1 eh1 gq eq
 cases hok:jq p with
 | false =>
  have g:=hq.h h2 l2
  rw [hok] at g
  simp only [Bool.false_eq_true,if_false] at g
  replace g:=Hid.mk g
  clear hq hlen hd2 hr2 ht2 l2
  simp only [za, *]
  exact g.h
 | true =>
  have hlen:=hlen.h hok
  rw [hok] at hq
  simp only [if_true] at hq
  obtain ⟨k1,k2,k3,k4⟩:=Ql hok
  have bf:yy [.pointer none,.slice none 0 0,.int .i64 0] [] []=some (.agg #[.pointer none,.slice none 0 0,.int .i64 0]):=rfl
  have bx:=ze2 h2
  have hb:=Bld.fresh h2
  have l3:=(Heap.le.refl h2).alloc (.tblk [.pointer none,.slice none 0 0,.int .i64 0] prT true)
  obtain ⟨w,hw⟩:∃ w,h2.next=w:=⟨_,rfl⟩
  obtain ⟨h3,hh3⟩:∃ h3,h2.alloc (.tblk [.pointer none,.slice none 0 0,.int .i64 0] prT true)=h3:=⟨_,rfl⟩
  rw [hh3,hw] at bx hb
  rw [hh3] at l3
  have g3:=l3.get g2
  have hd3:=hd2.mono l3
  have hr3:=hr2.mono l3
  have ht3:=ht2.mono l3
  have pb:=l2
  unfold vd at hlen
  simp only [List.length_append,ka] at hlen
  clear hh3 hw hd2 hr2 ht2 l3 g2 l2
  replace hb:=zb hb;replace hd3:=zb hd3;replace hr3:=zb hr3;replace ht3:=zb ht3;replace hlen:=zb hlen;replace hok:=zb hok;replace k1:=zb k1;replace k2:=zb k2;replace k3:=zb k3;replace k4:=zb k4;replace pb:=zb pb
  simp only [za,aR, *]
  refine J3 (by have:=k1.h;omega) (by have:=k1.h;omega) _ ?_
  have u:=bs_2 [104,97,114,116,115,32] (yj p.harts.toNat)
  have z0:((0:Nat):Int)=0:=rfl
  simp only [za, *]
  refine ke (n:=0) (by omega) hb.h [[104,97,114,116,115,32],yj p.harts.toNat] rfl rfl (by simp) (by have:=hlen.h;simp only [List.nil_append,ka];omega) _ fun h4 hb4 l4=>?_
  have g4:=l4.get g3
  have hd4:=hd3.h.monoB l4
  have hr4:=hr3.h.monoB l4
  have ht4:=ht3.h.monoB l4
  have ln:=hd4.len
  clear hb hd3 hr3 ht3 g3 l4 bx u
  replace hb4:=zb hb4;replace hd4:=zb hd4;replace hr4:=zb hr4;replace ht4:=zb ht4
  simp only [za,aR, *]
  refine printD_w hb4.h hd4.h k2.h (by have:=hlen.h;simp only [List.nil_append,ka];omega) _ fun h5 x5 x11 x12 hb5 l5=>?_
  have g5:=l5.get g4
  have hr5:=hr4.h.monoB l5
  have ht5:=ht4.h.monoB l5
  have ln2:=hr5.len
  clear hb4 hd4 hr4 ht4 g4 l5 ln
  replace hb5:=zb hb5;replace hr5:=zb hr5;replace ht5:=zb ht5
  simp only [za,aR, *]
  refine printR_w hb5.h hr5.h k3.h (by have:=hlen.h;simp only [List.nil_append,List.length_append,ka];omega) _ fun h6 x6 x15 x16 hb6 l6=>?_
  have g6:=l6.get g5
  have ht6:=ht5.h.monoB l6
  have ln3:=ht6.len
  clear hb5 hr5 ht5 g5 l6 ln2
  replace hb6:=zb hb6;replace ht6:=zb ht6
  simp only [za,aR, *]
  refine printT_w hb6.h ht6.h k4.h (by have:=hlen.h;simp only [List.nil_append,List.length_append,ka];omega) _ fun h7 x7 x8 x19 x20 hb7 l7=>?_
  clear hb6 ht6 g6 l7 ln3
  replace hb7:=zb hb7
  simp only [za, *]
  refine string_c hb7.h (by have:=hlen.h;simp only [List.nil_append,List.length_append,ka];omega) _ fun h8 l8 _=>?_
  have g:=hq.h h8 (pb.h.trans l8)
  have hpp:[]++yu 0 [[104,97,114,116,115,32],yj p.harts.toNat]++(p.devs.map qm).flatten++(p.ress.map qt).flatten++(p.tasks.map yl).flatten=vd p:=by rw [vd,List.nil_append]
  rw [hpp]
  replace g:=Hid.mk g
  clear l8 hpp hlen
  simp only [za, *]
  exact g.h
end Go.Eng.Sy
namespace Go.Eng.Sy
open Go Go.Eng Go.Proofs
theorem Wl {T:Type}{v w fv:Value}{l m:List T}{xs ys:List (List Value)}{p:T→T→Bool}{h:Heap}(hv:SlV h 5 v xs) (hw:SlV h 5 w ys) (hx:xs.length=l.length) (hy:ys.length=m.length) (hl63:l.length≤140737488355328) (hm63:m.length≤140737488355328)
  (ox:∀ x ∈ xs,x.length=5∧x.all (·.oneCell')=true) (oy:∀ x ∈ ys,x.length=5∧x.all (·.oneCell')=true)
  (hf:∀ (i:Nat) e f x y,l[i]? = some e→m[i]? = some f→xs[i]? = some x→ys[i]? = some y → ∀ h1 Q,h.le h1→(∀ v h',v = .bool (p e f)→h1.le h' → Q v h')→Ue Tryz.prog fv [.agg x.toArray,.agg y.toArray] h1 Q) (Q:Value→Heap→Prop)
  (hq:∀ u h',u = .bool (l.length == m.length && (l.zip m).all fun e=>p e.1 e.2)→h.le h' → Q u h'):CallW Tryz.prog 111 [v,w,fv] h Q:=by
 refine zi (k:=3) ok111 rfl rfl rfl fun N=>?_
 rw [show y0 c111 [v,w,fv]=[v,w,fv,undef,undef,undef,undef,undef,undef,undef,undef] from rfl]
 delta c111
 replace hq:=zb hq
 have hln:=hv.len
 have hlm:=hw.len
 rw [hx] at hln
 rw [hy] at hlm
 by_cases hlen:l.length=m.length
 case neg =>
  have c:((l.length:Int) != (m.length:Int))=true:=by simp;omega
  have g:=hq.h (.bool false) h (by simp [hlen]) (.refl h)
  replace g:=Hid.mk g
  replace hf:=Hid.mk hf
  clear hv hw ox oy hq
  simp only [za,zf,zg, *]
  exact g.h
 have c:((l.length:Int) != (m.length:Int))=false:=by simp [hlen]
 replace hlen:=Hid.mk hlen
 replace hf:=Hid.mk hf
 replace ox:=Hid.mk ox
 replace oy:=Hid.mk oy
 simp only [za,zf,zg, *]
 refine LoopW.upto l.length (fun i e h1=>h.le h1∧(∀ j e f,j < i→l[j]? = some e→m[j]? = some f→p e f=true) ∧ ∃ x4 x5 x6 x10,e=[v,w,fv,.bool false,x4,x5,x6,v,.int .i64 l.length,.int .i64 i,x10]) ?_ (Nat.zero_le _) ⟨Heap.le.refl h,by intro j e f hj;omega,_,_,_,_,rfl⟩
 rintro i _ h1 R hi ⟨hl1,hp,x4,x5,x6,x10,rfl⟩ hR
 delta zk5
 by_cases hlt:i < l.length
 ·have hlt' : (i:Int) < l.length:=by omega
  obtain ⟨e,he⟩:∃ e,l[i]? = some e:=⟨_,List.getElem?_eq_getElem hlt⟩
  obtain ⟨f,hfm⟩:∃ e,m[i]? = some e:=⟨_,List.getElem?_eq_getElem (by have:=hlen.h;omega)⟩
  obtain ⟨x,hxi⟩:∃ x,xs[i]? = some x:=⟨_,List.getElem?_eq_getElem (by omega)⟩
  obtain ⟨y,hyi⟩:∃ x,ys[i]? = some x:=⟨_,List.getElem?_eq_getElem (by have:=hlen.h;omega)⟩
  obtain ⟨oxl,ox1⟩:=ox.h x (List.mem_of_getElem? hxi)
  obtain ⟨oyl,oy1⟩:=oy.h y (List.mem_of_getElem? hyi)
  obtain ⟨id,off,cells,own,e1,e2,e3,_⟩:=(hv.mono hl1).elem hxi
  have s1:=zy (h:=h1) (v:=.agg x.toArray) (zs:=[.int .i64 0,.int .i64 0,.int .i64 0,.string ⟨#[]⟩,.slice none 0 0]) (cs:=x) rfl oxl rfl ox1
  obtain ⟨q1,h2,eq1,eh2,gq1,lh2⟩:=zo h1 x
  rw [eh2,eq1] at s1
  have l2:=hl1.trans lh2
  obtain ⟨id2,off2,cells2,own2,f1,f2,f3,_⟩:=(hw.mono l2).elem hyi
  have s2:=zy (h:=h2) (v:=.agg y.toArray) (zs:=[.int .i64 0,.int .i64 0,.int .i64 0,.string ⟨#[]⟩,.slice none 0 0]) (cs:=y) rfl oyl rfl oy1
  obtain ⟨q2,h3,eq2,eh3,gq2,lh3⟩:=zo h2 y
  rw [eh3,eq2] at s2
  have gq1':=lh3.get gq1
  have l3:=l2.trans lh3
  have p1:qk true 0 5 x=some (.agg x.toArray):=by simp [qk,← oxl]
  have p2:qk true 0 5 y=some (.agg y.toArray):=by simp [qk,← oyl]
  have hff:=hf.h i e f x y he hfm hxi hyi
  replace hff:=Hid.mk hff
  have hw' : IntKind.i64.wrap ((i:Int) + 1)=((i + 1:Nat):Int):=by rw [z6 (by omega) (by omega)];rfl
  replace hp:=Hid.mk hp
  replace he:=Hid.mk he
  replace hfm:=Hid.mk hfm
  clear gq1 hxi hyi oxl oyl ox1 oy1 hv hw lh2 lh3
  replace l3:=Hid.mk l3
  replace l2:=Hid.mk l2
  replace hl1:=Hid.mk hl1
  simp only [za,aR,aW,zf,zg, *]
  refine hff.h h3 _ l3.h fun v2 h4 hv2 l4=>?_
  subst hv2
  cases hpe:p e f with
  | true =>
   have l4:=Hid.mk (l3.h.trans l4)
   simp only [za,zf,zg, *]
   refine hR.h _ _ hlt ⟨l4.h,fun j e' f' hj hje hjf=>?_,_,_,_,_,rfl⟩
   by_cases hji:j=i
   ·subst hji
    have:=he.h;have:=hfm.h
    simp_all
   ·exact hp.h j e' f' (by omega) hje hjf
  | false =>
   have g:=hq.h (.bool false) h4 (by
    have:(l.zip m).all (fun e=>p e.1 e.2)=false:=by
     rw [List.all_eq_false]
     refine ⟨(e,f),List.mem_of_getElem? (i:=i) ?_,by simp [hpe]⟩
     rw [List.getElem?_zip_eq_some]
     exact ⟨he.h,hfm.h⟩
    rw [this,Bool.and_false]) (l3.h.trans l4)
   replace g:=Hid.mk g
   clear hR hq l4
   simp only [za, *]
   exact g.h
 ·have hlt' : ¬ (i:Int) < l.length:=by omega
  have g:=hq.h (.bool true) h1 (by
   have:(l.zip m).all (fun e=>p e.1 e.2)=true:=by
    rw [List.all_eq_true]
    intro e he
    obtain ⟨j,hj⟩:=List.mem_iff_getElem?.1 he
    rw [List.getElem?_zip_eq_some] at hj
    exact hp j e.1 e.2 (by have:=(List.getElem?_eq_some_iff.1 hj.1).1;omega) hj.1 hj.2
   rw [this,Bool.and_true,hlen.h]
   simp) hl1
  replace g:=Hid.mk g
  clear hR hq
  replace hp:=Hid.mk hp
  simp only [za,zf,zg, *]
  exact g.h
theorem Wk {T:Type}{v w fv:Value}{l m:List T}{xs ys:List (List Value)}{p:T→T→Bool}{h:Heap}(hv:SlV h 7 v xs) (hw:SlV h 7 w ys) (hx:xs.length=l.length) (hy:ys.length=m.length) (hl63:l.length≤140737488355328) (hm63:m.length≤140737488355328)
  (ox:∀ x ∈ xs,x.length=7∧x.all (·.oneCell')=true) (oy:∀ x ∈ ys,x.length=7∧x.all (·.oneCell')=true)
  (hf:∀ (i:Nat) e f x y,l[i]? = some e→m[i]? = some f→xs[i]? = some x→ys[i]? = some y → ∀ h1 Q,h.le h1→(∀ v h',v = .bool (p e f)→h1.le h' → Q v h')→Ue Tryz.prog fv [.agg x.toArray,.agg y.toArray] h1 Q) (Q:Value→Heap→Prop)
  (hq:∀ u h',u = .bool (l.length == m.length && (l.zip m).all fun e=>p e.1 e.2)→h.le h' → Q u h'):CallW Tryz.prog 80 [v,w,fv] h Q:=by
 refine zi (k:=3) ok80 rfl rfl rfl fun N=>?_
 rw [show y0 c80 [v,w,fv]=[v,w,fv,undef,undef,undef,undef,undef,undef,undef,undef] from rfl]
 delta c80
 replace hq:=zb hq
 have hln:=hv.len
 have hlm:=hw.len
 rw [hx] at hln
 rw [hy] at hlm
 by_cases hlen:l.length=m.length
 case neg =>
  have c:((l.length:Int) != (m.length:Int))=true:=by simp;omega
  have g:=hq.h (.bool false) h (by simp [hlen]) (.refl h)
  replace g:=Hid.mk g
  replace hf:=Hid.mk hf
  clear hv hw ox oy hq
  simp only [za,zf,zg, *]
  exact g.h
 have c:((l.length:Int) != (m.length:Int))=false:=by simp [hlen]
 replace hlen:=Hid.mk hlen
 replace hf:=Hid.mk hf
 replace ox:=Hid.mk ox
 replace oy:=Hid.mk oy
 simp only [za,zf,zg, *]
 refine LoopW.upto l.length (fun i e h1=>h.le h1∧(∀ j e f,j < i→l[j]? = some e→m[j]? = some f→p e f=true) ∧ ∃ x4 x5 x6 x10,e=[v,w,fv,.bool false,x4,x5,x6,v,.int .i64 l.length,.int .i64 i,x10]) ?_ (Nat.zero_le _) ⟨Heap.le.refl h,by intro j e f hj;omega,_,_,_,_,rfl⟩
 rintro i _ h1 R hi ⟨hl1,hp,x4,x5,x6,x10,rfl⟩ hR
 delta zz8
 by_cases hlt:i < l.length
 ·have hlt' : (i:Int) < l.length:=by omega
  obtain ⟨e,he⟩:∃ e,l[i]? = some e:=⟨_,List.getElem?_eq_getElem hlt⟩
  obtain ⟨f,hfm⟩:∃ e,m[i]? = some e:=⟨_,List.getElem?_eq_getElem (by have:=hlen.h;omega)⟩
  obtain ⟨x,hxi⟩:∃ x,xs[i]? = some x:=⟨_,List.getElem?_eq_getElem (by omega)⟩
  obtain ⟨y,hyi⟩:∃ x,ys[i]? = some x:=⟨_,List.getElem?_eq_getElem (by have:=hlen.h;omega)⟩
  obtain ⟨oxl,ox1⟩:=ox.h x (List.mem_of_getElem? hxi)
  obtain ⟨oyl,oy1⟩:=oy.h y (List.mem_of_getElem? hyi)
  obtain ⟨id,off,cells,own,e1,e2,e3,_⟩:=(hv.mono hl1).elem hxi
  have s1:=zy (h:=h1) (v:=.agg x.toArray) (zs:=[.int .i64 0,.string ⟨#[]⟩,.string ⟨#[]⟩,.int .i64 0,.slice none 0 0,.slice none 0 0,.slice none 0 0]) (cs:=x) rfl oxl rfl ox1
  obtain ⟨q1,h2,eq1,eh2,gq1,lh2⟩:=zo h1 x
  rw [eh2,eq1] at s1
  have l2:=hl1.trans lh2
  obtain ⟨id2,off2,cells2,own2,f1,f2,f3,_⟩:=(hw.mono l2).elem hyi
  have s2:=zy (h:=h2) (v:=.agg y.toArray) (zs:=[.int .i64 0,.string ⟨#[]⟩,.string ⟨#[]⟩,.int .i64 0,.slice none 0 0,.slice none 0 0,.slice none 0 0]) (cs:=y) rfl oyl rfl oy1
  obtain ⟨q2,h3,eq2,eh3,gq2,lh3⟩:=zo h2 y
  rw [eh3,eq2] at s2
  have gq1':=lh3.get gq1
  have l3:=l2.trans lh3
  have p1:qk true 0 7 x=some (.agg x.toArray):=by simp [qk,← oxl]
  have p2:qk true 0 7 y=some (.agg y.toArray):=by simp [qk,← oyl]
  have hff:=hf.h i e f x y he hfm hxi hyi
  replace hff:=Hid.mk hff
  have hw' : IntKind.i64.wrap ((i:Int) + 1)=((i + 1:Nat):Int):=by rw [z6 (by omega) (by omega)];rfl
  replace hp:=Hid.mk hp
  replace he:=Hid.mk he
  replace hfm:=Hid.mk hfm
  clear gq1 hxi hyi oxl oyl ox1 oy1 hv hw lh2 lh3
  replace l3:=Hid.mk l3
  replace l2:=Hid.mk l2
  replace hl1:=Hid.mk hl1
  simp only [za,aR,aW,zf,zg, *]
  refine hff.h h3 _ l3.h fun v2 h4 hv2 l4=>?_
  subst hv2
  cases hpe:p e f with
  | true =>
   have l4:=Hid.mk (l3.h.trans l4)
   simp only [za,zf,zg, *]
   refine hR.h _ _ hlt ⟨l4.h,fun j e' f' hj hje hjf=>?_,_,_,_,_,rfl⟩
   by_cases hji:j=i
   ·subst hji
    have:=he.h;have:=hfm.h
    simp_all
   ·exact hp.h j e' f' (by omega) hje hjf
  | false =>
   have g:=hq.h (.bool false) h4 (by
    have:(l.zip m).all (fun e=>p e.1 e.2)=false:=by
     rw [List.all_eq_false]
     refine ⟨(e,f),List.mem_of_getElem? (i:=i) ?_,by simp [hpe]⟩
     rw [List.getElem?_zip_eq_some]
     exact ⟨he.h,hfm.h⟩
    rw [this,Bool.and_false]) (l3.h.trans l4)
   replace g:=Hid.mk g
   clear hR hq l4
   simp only [za, *]
   exact g.h
 ·have hlt' : ¬ (i:Int) < l.length:=by omega
  have g:=hq.h (.bool true) h1 (by
   have:(l.zip m).all (fun e=>p e.1 e.2)=true:=by
    rw [List.all_eq_true]
    intro e he
    obtain ⟨j,hj⟩:=List.mem_iff_getElem?.1 he
    rw [List.getElem?_zip_eq_some] at hj
    exact hp j e.1 e.2 (by have:=(List.getElem?_eq_some_iff.1 hj.1).1;omega) hj.1 hj.2
   rw [this,Bool.and_true,hlen.h]
   simp) hl1
  replace g:=Hid.mk g
  clear hR hq
  replace hp:=Hid.mk hp
  simp only [za,zf,zg, *]
  exact g.h
theorem Wj {T:Type}{v w fv:Value}{l m:List T}{xs ys:List (List Value)}{p:T→T→Bool}{h:Heap}(hv:SlV h 6 v xs) (hw:SlV h 6 w ys) (hx:xs.length=l.length) (hy:ys.length=m.length) (hl63:l.length≤140737488355328) (hm63:m.length≤140737488355328)
  (ox:∀ x ∈ xs,x.length=6∧x.all (·.oneCell')=true) (oy:∀ x ∈ ys,x.length=6∧x.all (·.oneCell')=true)
  (hf:∀ (i:Nat) e f x y,l[i]? = some e→m[i]? = some f→xs[i]? = some x→ys[i]? = some y → ∀ h1 Q,h.le h1→(∀ v h',v = .bool (p e f)→h1.le h' → Q v h')→Ue Tryz.prog fv [.agg x.toArray,.agg y.toArray] h1 Q) (Q:Value→Heap→Prop)
  (hq:∀ u h',u = .bool (l.length == m.length && (l.zip m).all fun e=>p e.1 e.2)→h.le h' → Q u h'):CallW Tryz.prog 47 [v,w,fv] h Q:=by
 refine zi (k:=3) ok47 rfl rfl rfl fun N=>?_
 rw [show y0 c47 [v,w,fv]=[v,w,fv,undef,undef,undef,undef,undef,undef,undef,undef] from rfl]
 delta c47
 replace hq:=zb hq
 have hln:=hv.len
 have hlm:=hw.len
 rw [hx] at hln
 rw [hy] at hlm
 by_cases hlen:l.length=m.length
 case neg =>
  have c:((l.length:Int) != (m.length:Int))=true:=by simp;omega
  have g:=hq.h (.bool false) h (by simp [hlen]) (.refl h)
  replace g:=Hid.mk g
  replace hf:=Hid.mk hf
  clear hv hw ox oy hq
  simp only [za,zf,zg, *]
  exact g.h
 have c:((l.length:Int) != (m.length:Int))=false:=by simp [hlen]
 replace hlen:=Hid.mk hlen
 replace hf:=Hid.mk hf
 replace ox:=Hid.mk ox
 replace oy:=Hid.mk oy
 simp only [za,zf,zg, *]
 refine LoopW.upto l.length (fun i e h1=>h.le h1∧(∀ j e f,j < i→l[j]? = some e→m[j]? = some f→p e f=true) ∧ ∃ x4 x5 x6 x10,e=[v,w,fv,.bool false,x4,x5,x6,v,.int .i64 l.length,.int .i64 i,x10]) ?_ (Nat.zero_le _) ⟨Heap.le.refl h,by intro j e f hj;omega,_,_,_,_,rfl⟩
 rintro i _ h1 R hi ⟨hl1,hp,x4,x5,x6,x10,rfl⟩ hR
 delta yb2
 by_cases hlt:i < l.length
 ·have hlt' : (i:Int) < l.length:=by omega
  obtain ⟨e,he⟩:∃ e,l[i]? = some e:=⟨_,List.getElem?_eq_getElem hlt⟩
  obtain ⟨f,hfm⟩:∃ e,m[i]? = some e:=⟨_,List.getElem?_eq_getElem (by have:=hlen.h;omega)⟩
  obtain ⟨x,hxi⟩:∃ x,xs[i]? = some x:=⟨_,List.getElem?_eq_getElem (by omega)⟩
  obtain ⟨y,hyi⟩:∃ x,ys[i]? = some x:=⟨_,List.getElem?_eq_getElem (by have:=hlen.h;omega)⟩
  obtain ⟨oxl,ox1⟩:=ox.h x (List.mem_of_getElem? hxi)
  obtain ⟨oyl,oy1⟩:=oy.h y (List.mem_of_getElem? hyi)
  obtain ⟨id,off,cells,own,e1,e2,e3,_⟩:=(hv.mono hl1).elem hxi
  have s1:=zy (h:=h1) (v:=.agg x.toArray) (zs:=[.string ⟨#[]⟩,.bool false,.int .i64 0,.int .i64 0,.int .i64 0,.slice none 0 0]) (cs:=x) rfl oxl rfl ox1
  obtain ⟨q1,h2,eq1,eh2,gq1,lh2⟩:=zo h1 x
  rw [eh2,eq1] at s1
  have l2:=hl1.trans lh2
  obtain ⟨id2,off2,cells2,own2,f1,f2,f3,_⟩:=(hw.mono l2).elem hyi
  have s2:=zy (h:=h2) (v:=.agg y.toArray) (zs:=[.string ⟨#[]⟩,.bool false,.int .i64 0,.int .i64 0,.int .i64 0,.slice none 0 0]) (cs:=y) rfl oyl rfl oy1
  obtain ⟨q2,h3,eq2,eh3,gq2,lh3⟩:=zo h2 y
  rw [eh3,eq2] at s2
  have gq1':=lh3.get gq1
  have l3:=l2.trans lh3
  have p1:qk true 0 6 x=some (.agg x.toArray):=by simp [qk,← oxl]
  have p2:qk true 0 6 y=some (.agg y.toArray):=by simp [qk,← oyl]
  have hff:=hf.h i e f x y he hfm hxi hyi
  replace hff:=Hid.mk hff
  have hw' : IntKind.i64.wrap ((i:Int) + 1)=((i + 1:Nat):Int):=by rw [z6 (by omega) (by omega)];rfl
  replace hp:=Hid.mk hp
  replace he:=Hid.mk he
  replace hfm:=Hid.mk hfm
  clear gq1 hxi hyi oxl oyl ox1 oy1 hv hw lh2 lh3
  replace l3:=Hid.mk l3
  replace l2:=Hid.mk l2
  replace hl1:=Hid.mk hl1
  simp only [za,aR,aW,zf,zg, *]
  refine hff.h h3 _ l3.h fun v2 h4 hv2 l4=>?_
  subst hv2
  cases hpe:p e f with
  | true =>
   have l4:=Hid.mk (l3.h.trans l4)
   simp only [za,zf,zg, *]
   refine hR.h _ _ hlt ⟨l4.h,fun j e' f' hj hje hjf=>?_,_,_,_,_,rfl⟩
   by_cases hji:j=i
   ·subst hji
    have:=he.h;have:=hfm.h
    simp_all
   ·exact hp.h j e' f' (by omega) hje hjf
  | false =>
   have g:=hq.h (.bool false) h4 (by
    have:(l.zip m).all (fun e=>p e.1 e.2)=false:=by
     rw [List.all_eq_false]
     refine ⟨(e,f),List.mem_of_getElem? (i:=i) ?_,by simp [hpe]⟩
     rw [List.getElem?_zip_eq_some]
     exact ⟨he.h,hfm.h⟩
    rw [this,Bool.and_false]) (l3.h.trans l4)
   replace g:=Hid.mk g
   clear hR hq l4
   simp only [za, *]
   exact g.h
 ·have hlt' : ¬ (i:Int) < l.length:=by omega
  have g:=hq.h (.bool true) h1 (by
   have:(l.zip m).all (fun e=>p e.1 e.2)=true:=by
    rw [List.all_eq_true]
    intro e he
    obtain ⟨j,hj⟩:=List.mem_iff_getElem?.1 he
    rw [List.getElem?_zip_eq_some] at hj
    exact hp j e.1 e.2 (by have:=(List.getElem?_eq_some_iff.1 hj.1).1;omega) hj.1 hj.2
   rw [this,Bool.and_true,hlen.h]
   simp) hl1
  replace g:=Hid.mk g
  clear hR hq
  replace hp:=Hid.mk hp
  simp only [za,zf,zg, *]
  exact g.h
theorem bs_ex (k o n:Int) (m:List UInt8){v:Value}(hv:v.oneCell' = true):yi [.int .i64 0,.int .i64 0,.int .i64 0,.string ⟨#[]⟩,.slice none 0 0] [(0,5)] 1 5 [exV k o n m v]=some ([.int .i64 k,.int .i64 o,.int .i64 n,str m,v],fun id=>.slice (some ⟨id,0,none⟩) 1 5) :=
 jv rfl rfl rfl (by simpa [Value.oneCell'] using hv)
theorem Expr_c {h:Heap}{e:Ex}{x:List Value}(hx:ExC h e x) (Q:Value→Heap→Prop)
  (hq:∀ h',h.le h' → Q (.tuple #[str (if yg e 30 then zq e else []),.int .i64 (if yg e 30 then 0 else 1)]) h'):CallW Tryz.prog 19 [.agg x.toArray] h Q:=by
 have hx0:=hx
 obtain ⟨v,rfl,hargs⟩:=hx.cells
 have b1:=vo (k:=e.kind) (o:=e.op) (n:=e.n) (m:=e.name) hargs.one
 have b2:=bs_ex e.kind e.op e.n e.name hargs.one
 obtain ⟨p,h0,ep,eh0,gp,lh0⟩:=zo h [.int .i64 e.kind,.int .i64 e.op,.int .i64 e.n,str e.name,v]
 have hx1:=hx0.mono lh0
 obtain ⟨p1,h1,ep1,eh1,gp1,lh1⟩:=zo h0 [.int .i64 e.kind,.int .i64 e.op,.int .i64 e.n,str e.name,v]
 have hx2:=hx1.mono lh1
 have gp':=lh1.get gp
 have hv1:ExsV h1 (.slice (some ⟨p1,0,none⟩) 1 5) [e]:=by
  refine ⟨[[.int .i64 e.kind,.int .i64 e.op,.int .i64 e.n,str e.name,v]],.inr ⟨p1,0,rfl,.inr ⟨_,_,gp1,fun i x hx=>?_⟩⟩,by simp,?_⟩
  ·have hi:i=0:=by
    have:=(List.getElem?_eq_some_iff.1 hx).1
    simp at this;exact this
   subst hi
   simp at hx
   subst hx
   simp
  ·exact ⟨_,_,rfl,hx2,rfl⟩
 have l2:=lh0.trans lh1
 clear hx hx0 hx1 hargs lh0 lh1 gp1
 replace hv1:=zb hv1;replace hx2:=zb hx2;replace l2:=zb l2
 refine wc (k:=2) (j:=3) ok19 rfl rfl rfl fun N=>?_
 rw [show y0 c19 [exV e.kind e.op e.n e.name v]=[exV e.kind e.op e.n e.name v,undef,undef,undef] from rfl]
 delta c19
 replace hq:=zb hq
 have k30:(30:Int)=((30:Nat):Int):=rfl
 simp only [za,aR,zn, *]
 refine zs6 30 (by omega) [e] _ _ _ hv1.h fun h2 l3=>?_
 have gp2:=l3.get gp'
 have hx3:=hx2.h.mono l3
 have l3:=l2.h.trans l3
 have er:yd [e] 30=yg e 30:=by simp [yd]
 rw [er]
 clear hv1 hx2 l2 gp'
 cases hr:yg e 30 with
 | false =>
  have g:=hq.h h2 l3
  rw [hr] at g
  simp only [Bool.false_eq_true,if_false] at g
  replace g:=Hid.mk g
  clear hq hx3 l3
  simp only [za, *]
  exact g.h
 | true =>
  rw [hr] at hq
  simp only [if_true] at hq
  replace hx3:=zb hx3;replace l3:=zb l3
  simp only [za,aR,zn, *]
  refine Jh 30 (by omega) e ((qr 30 e).1 hr) _ _ _ hx3.h fun h4 l4=>?_
  have g:=hq.h h4 (l3.h.trans l4)
  replace g:=Hid.mk g
  clear l4
  simp only [za, *]
  exact g.h
end Go.Eng.Sy
namespace Go.Eng.Sy
open Go Go.Eng Go.Proofs
mutual
def Un:Ex→Ex→Bool
 | .mk k o n m args,.mk k' o' n' m' args'=>Yc k o n m k' o' n' m' && jt args args'
def jt:List Ex→List Ex→Bool
 | [],[]=>true
 | a::r,b::s=>Un a b && jt r s
 | [],_::_=>false
 | _::_,[]=>false
end
mutual
theorem zs5:∀ (a b:Ex),Un a b=true↔a=b
 | .mk k o n m args,.mk k' o' n' m' args'=>by
  simp [Un,Yc,xo args args',and_assoc]
theorem xo:∀ (a b:List Ex),jt a b=true↔a=b
 | [],[]=>by simp [jt]
 | a::r,b::s=>by simp [jt,zs5 a b,xo r s]
 | [],_::_=>by simp [jt]
 | _::_,[]=>by simp [jt]
end
theorem K4:∀ (l m:List Ex),(l.length == m.length && (l.zip m).all fun e=>Un e.1 e.2)=jt l m
 | [],[]=>by simp [jt]
 | a::r,b::s=>by
  have:=K4 r s
  simp only [jt,← this,List.zip_cons_cons,List.all_cons,List.length_cons]
  cases h:Un a b<;>simp [h]
 | [],_::_=>by simp [jt]
 | _::_,[]=>by simp [jt]
theorem ExCs.ones {h:Heap}:∀ {l:List Ex}{xs:List (List Value)},ExCs h l xs → ∀ x ∈ xs,x.length=5∧x.all (·.oneCell')=true
 | [],_,hx,x,hm=>by rw [show _=[] from hx] at hm;cases hm
 | e::r,_,⟨y,yr,rfl,h2,h3⟩,x,hm=>by
  rcases List.mem_cons.1 hm with rfl | hm
  ·obtain ⟨v,rfl,hv⟩:=h2.cells
   exact ⟨rfl,by simpa [Value.oneCell'] using hv.one⟩
  ·exact ExCs.ones h3 x hm
theorem StCs.ones {h:Heap}:∀ {l:List St}{xs:List (List Value)},StCs h l xs → ∀ x ∈ xs,x.length=7∧x.all (·.oneCell')=true
 | [],_,hx,x,hm=>by rw [show _=[] from hx] at hm;cases hm
 | e::r,_,⟨y,yr,rfl,h2,h3⟩,x,hm=>by
  rcases List.mem_cons.1 hm with rfl | hm
  ·obtain ⟨v,u,w,rfl,hv,hu,hw⟩:=h2.cells
   exact ⟨rfl,by simpa [Value.oneCell'] using ⟨hv.one,hu.one,hw.one⟩⟩
  ·exact StCs.ones h3 x hm
theorem TsCs.ones {h:Heap}:∀ {l:List Tsk}{xs:List (List Value)},TsCs h l xs → ∀ x ∈ xs,x.length=6∧x.all (·.oneCell')=true
 | [],_,hx,x,hm=>by rw [show _=[] from hx] at hm;cases hm
 | e::r,_,⟨y,yr,rfl,h2,h3⟩,x,hm=>by
  rcases List.mem_cons.1 hm with rfl | hm
  ·obtain ⟨v,rfl,hv⟩:=h2
   exact ⟨rfl,by simpa [Value.oneCell'] using hv.one⟩
  ·exact TsCs.ones h3 x hm
def yd4 (M:Nat):Prop:=∀ (l m:List Ex),yc l≤M → ∀ (v w:Value) (h:Heap) (Q:Value→Heap→Prop),ExsV h v l→ExsV h w m→(∀ h',h.le h' → Q (.bool (jt l m)) h')→CallW Tryz.prog 111 [v,w,.func (.func 112) #[] #[]] h Q
theorem sameE_of {M:Nat}(ih:∀ M',M' < M→yd4 M'){a b:Ex}(ha:Kt a≤M){x y:List Value}{h:Heap}(hx:ExC h a x) (hy:ExC h b y) (Q:Value→Heap→Prop) (hq:∀ h',h.le h' → Q (.bool (Un a b)) h') :
  CallW Tryz.prog 112 [.agg x.toArray,.agg y.toArray] h Q:=by
 obtain ⟨v,rfl,hv⟩:=hx.cells
 obtain ⟨w,rfl,hw⟩:=hy.cells
 have b1:=vo (k:=a.kind) (o:=a.op) (n:=a.n) (m:=a.name) hv.one
 have b2:=vo (k:=b.kind) (o:=b.op) (n:=b.n) (m:=b.name) hw.one
 have ov:=hv.one
 have ow:=hw.one
 obtain ⟨p1,h1,ep1,eh1,gp1,lh1⟩:=zo h [.int .i64 a.kind,.int .i64 a.op,.int .i64 a.n,str a.name,v]
 obtain ⟨p2,h2,ep2,eh2,gp2,lh2⟩:=zo h1 [.int .i64 b.kind,.int .i64 b.op,.int .i64 b.n,str b.name,w]
 have gp1':=lh2.get gp1
 have l2:=lh1.trans lh2
 have hv2:=hv.mono l2
 have hw2:=hw.mono l2
 have hih:=ih (yc a.args) (by have:=Wq a;omega) a.args b.args (Nat.le_refl _)
 have es:Un a b=(Yc a.kind a.op a.n a.name b.kind b.op b.n b.name && jt a.args b.args):=by
  cases a;cases b;rfl
 rw [es] at hq
 clear hx hy hv hw lh1 lh2 gp1 ih es
 replace hv2:=zb hv2;replace hw2:=zb hw2;replace l2:=zb l2;replace hih:=zb hih;replace ov:=zb ov;replace ow:=zb ow
 refine zi (k:=4) ok112 rfl rfl rfl fun N=>?_
 rw [show y0 c112 [exV a.kind a.op a.n a.name v,exV b.kind b.op b.n b.name w]=[exV a.kind a.op a.n a.name v,exV b.kind b.op b.n b.name w,undef,undef,undef] from rfl]
 delta c112
 replace hq:=zb hq
 simp only [za,aR,zn, *]
 refine wv ov.h ow.h _ _ fun h3 l3=>?_
 have g1:=l3.get gp1'
 have g2:=l3.get gp2
 have hv3:=hv2.h.mono l3
 have hw3:=hw2.h.mono l3
 have l3:=l2.h.trans l3
 clear hv2 hw2 l2 gp1' gp2
 cases hh:Yc a.kind a.op a.n a.name b.kind b.op b.n b.name with
 | false =>
  have g:=hq.h h3 l3
  rw [hh,Bool.false_and] at g
  replace g:=Hid.mk g
  clear hq l3 hih
  simp only [za, *]
  exact g.h
 | true =>
  rw [hh,Bool.true_and] at hq
  replace hv3:=zb hv3;replace hw3:=zb hw3;replace l3:=zb l3
  simp only [za,aR, *]
  refine hih.h v w h3 _ hv3.h hw3.h fun h4 l4=>?_
  have g:=hq.h h4 (l3.h.trans l4)
  replace g:=Hid.mk g
  clear l4
  simp only [za, *]
  exact g.h
theorem sameEs_c:∀ M,yd4 M:=by
 intro M
 induction M using Nat.strongRecOn with
 | _ M ih =>
 intro l m hM v w h Q hv hw hq
 obtain ⟨xs,h1,h2,h3⟩:=hv
 obtain ⟨ys,k1,k2,k3⟩:=hw
 refine Wl (p:=Un) h1 k1 h3.length k3.length (by rw [← h3.length];exact h2) (by rw [← k3.length];exact k2) h3.ones k3.ones (fun i e f x y he hf hx hy h' Q' hl hq'=>?_) Q fun u h' hu hl=>?_
 ·refine CallW.val (first:=#[]) (captured:=#[]) ?_
  obtain ⟨x',hx',hex⟩:=h3.get i e he
  obtain ⟨y',hy',hfx⟩:=k3.get i f hf
  rw [hx] at hx';cases hx'
  rw [hy] at hy';cases hy'
  exact sameE_of (M:=yc l) (fun M' hM'=>ih M' (by omega)) (Z1 he) (hex.mono hl) (hfx.mono hl) Q' fun h'' hl''=>hq' _ _ rfl hl''
 ·subst hu
  rw [K4]
  exact hq h' hl
end Go.Eng.Sy
namespace Go.Eng.Sy
open Go Go.Eng Go.Proofs
def Kr (k:Int) (m f:List UInt8) (n:Int) (k' : Int) (m' f' : List UInt8) (n' : Int):Bool:=k == k' && m == m' && f == f' && n == n'
mutual
def Um:St→St→Bool
 | .mk k m f n args thn els,.mk k' m' f' n' args' thn' els'=>Kr k m f n k' m' f' n' && jt args args' && qz thn thn' && qz els els'
def qz:List St→List St→Bool
 | [],[]=>true
 | a::r,b::s=>Um a b && qz r s
 | [],_::_=>false
 | _::_,[]=>false
end
mutual
theorem zs4:∀ (a b:St),Um a b=true↔a=b
 | .mk k m f n args thn els,.mk k' m' f' n' args' thn' els'=>by
  simp [Um,Kr,xo,km thn thn',km els els',and_assoc]
theorem km:∀ (a b:List St),qz a b=true↔a=b
 | [],[]=>by simp [qz]
 | a::r,b::s=>by simp [qz,zs4 a b,km r s]
 | [],_::_=>by simp [qz]
 | _::_,[]=>by simp [qz]
end
theorem K3:∀ (l m:List St),(l.length == m.length && (l.zip m).all fun e=>Um e.1 e.2)=qz l m
 | [],[]=>by simp [qz]
 | a::r,b::s=>by
  have:=K3 r s
  simp only [qz,← this,List.zip_cons_cons,List.all_cons,List.length_cons]
  cases h:Um a b<;>simp [h]
 | [],_::_=>by simp [qz]
 | _::_,[]=>by simp [qz]
def yd3 (M:Nat):Prop:=∀ (l m:List St),zr l≤M → ∀ (v w:Value) (h:Heap) (Q:Value→Heap→Prop),StsV h v l→StsV h w m→(∀ h',h.le h' → Q (.bool (qz l m)) h')→CallW Tryz.prog 80 [v,w,.func (.func 81) #[] #[]] h Q
theorem sameS_of {M:Nat}(ih:∀ M',M' < M→yd3 M'){a b:St}(ha:vz a≤M){x y:List Value}{h:Heap}(hx:StC h a x) (hy:StC h b y) (Q:Value→Heap→Prop) (hq:∀ h',h.le h' → Q (.bool (Um a b)) h') :
  CallW Tryz.prog 81 [.agg x.toArray,.agg y.toArray] h Q:=by
 obtain ⟨v,u,s,rfl,hv,hu,hs⟩:=hx.cells
 obtain ⟨w,u',s',rfl,hw,hu',hs'⟩:=hy.cells
 have b1:=Qu (k:=a.kind) (m:=a.name) (f:=a.src) (n:=a.n) hv.one hu.one hs.one
 have b2:=Qu (k:=b.kind) (m:=b.name) (f:=b.src) (n:=b.n) hw.one hu'.one hs'.one
 obtain ⟨p1,h1,ep1,eh1,gp1,lh1⟩:=zo h [.int .i64 a.kind,str a.name,str a.src,.int .i64 a.n,v,u,s]
 obtain ⟨p2,h2,ep2,eh2,gp2,lh2⟩:=zo h1 [.int .i64 b.kind,str b.name,str b.src,.int .i64 b.n,w,u',s']
 have gp1':=lh2.get gp1
 have l2:=lh1.trans lh2
 have hv2:=hv.mono l2
 have hw2:=hw.mono l2
 have hu2:=hu.mono l2
 have hu2':=hu'.mono l2
 have hs2:=hs.mono l2
 have hs2':=hs'.mono l2
 have hce:=Wp a
 have ih1:=ih (zr a.thn) (by omega) a.thn b.thn (Nat.le_refl _)
 have ih2:=ih (zr a.els) (by omega) a.els b.els (Nat.le_refl _)
 have es:Um a b=(Kr a.kind a.name a.src a.n b.kind b.name b.src b.n && jt a.args b.args && qz a.thn b.thn && qz a.els b.els):=by
  cases a;cases b;rfl
 rw [es] at hq
 clear hx hy hv hw hu hu' hs hs' lh1 lh2 gp1 ih es hce
 replace hv2:=zb hv2;replace hw2:=zb hw2;replace hu2:=zb hu2;replace hu2':=zb hu2';replace hs2:=zb hs2;replace hs2':=zb hs2';replace l2:=zb l2;replace ih1:=zb ih1;replace ih2:=zb ih2
 refine zi (k:=4) ok81 rfl rfl rfl fun N=>?_
 rw [show y0 c81 [stV a.kind a.name a.src a.n v u s,stV b.kind b.name b.src b.n w u' s']=[stV a.kind a.name a.src a.n v u s,stV b.kind b.name b.src b.n w u' s',undef,undef,undef] from rfl]
 delta c81
 replace hq:=zb hq
 have q1:=Ja a.name b.name
 have q2:=Ja a.src b.src
 have gf:Kr a.kind a.name a.src a.n b.kind b.name b.src b.n=false→Q (.bool false) h2:=fun e=>by
  have g:=hq.h h2 l2.h
  rwa [e,Bool.false_and,Bool.false_and,Bool.false_and] at g
 replace gf:=Hid.mk gf
 cases c1:(a.kind == b.kind) with
 | false =>
  have g:=gf.h (by simp [Kr,c1])
  replace g:=Hid.mk g
  clear gf hq
  simp only [za,aR,zf,zg, *]
  exact g.h
 | true =>
 cases c2:(a.name == b.name) with
 | false =>
  have g:=gf.h (by simp [Kr,c2])
  replace g:=Hid.mk g
  clear gf hq
  simp only [za,aR,zf,zg, *]
  exact g.h
 | true =>
 cases c3:(a.src == b.src) with
 | false =>
  have g:=gf.h (by simp [Kr,c3])
  replace g:=Hid.mk g
  clear gf hq
  simp only [za,aR,zf,zg, *]
  exact g.h
 | true =>
 cases c4:(a.n == b.n) with
 | false =>
  have g:=gf.h (by simp [Kr,c4])
  replace g:=Hid.mk g
  clear gf hq
  simp only [za,aR,zf,zg, *]
  exact g.h
 | true =>
  have eh:Kr a.kind a.name a.src a.n b.kind b.name b.src b.n=true:=by simp [Kr,c1,c2,c3,c4]
  rw [eh,Bool.true_and] at hq
  clear gf eh
  simp only [za,aR,zf,zg, *]
  refine sameEs_c _ a.args b.args (Nat.le_refl _) v w h2 _ hv2.h hw2.h fun h3 l3=>?_
  have g1:=l3.get gp1'
  have g2:=l3.get gp2
  have hu3:=hu2.h.mono l3
  have hu3':=hu2'.h.mono l3
  have hs3:=hs2.h.mono l3
  have hs3':=hs2'.h.mono l3
  have l3:=l2.h.trans l3
  clear gp1' gp2 hu2 hu2' hs2 hs2' hv2 hw2 l2
  cases c5:jt a.args b.args with
  | false =>
   have g:=hq.h h3 l3
   rw [c5,Bool.false_and,Bool.false_and] at g
   replace g:=Hid.mk g
   clear hq l3 hu3 hu3' hs3 hs3'
   simp only [za, *]
   exact g.h
  | true =>
  rw [c5,Bool.true_and] at hq
  replace hu3:=zb hu3;replace hu3':=zb hu3';replace hs3:=zb hs3;replace hs3':=zb hs3';replace l3:=zb l3
  simp only [za,aR, *]
  refine ih1.h u u' h3 _ hu3.h hu3'.h fun h4 l4=>?_
  have g3:=l4.get g1
  have g4:=l4.get g2
  have hs4:=hs3.h.mono l4
  have hs4':=hs3'.h.mono l4
  have l4:=l3.h.trans l4
  clear g1 g2 hu3 hu3' hs3 hs3' l3
  cases c6:qz a.thn b.thn with
  | false =>
   have g:=hq.h h4 l4
   rw [c6,Bool.false_and] at g
   replace g:=Hid.mk g
   clear hq l4 hs4 hs4'
   simp only [za, *]
   exact g.h
  | true =>
  rw [c6,Bool.true_and] at hq
  replace hs4:=zb hs4;replace hs4':=zb hs4';replace l4:=zb l4
  simp only [za,aR, *]
  refine ih2.h s s' h4 _ hs4.h hs4'.h fun h5 l5=>?_
  have g:=hq.h h5 (l4.h.trans l5)
  replace g:=Hid.mk g
  clear hq l5
  simp only [za, *]
  exact g.h
theorem sameSs_c:∀ M,yd3 M:=by
 intro M
 induction M using Nat.strongRecOn with
 | _ M ih =>
 intro l m hM v w h Q hv hw hq
 obtain ⟨xs,h1,h2,h3⟩:=hv
 obtain ⟨ys,k1,k2,k3⟩:=hw
 refine Wk (p:=Um) h1 k1 h3.length k3.length (by rw [← h3.length];exact h2) (by rw [← k3.length];exact k2) h3.ones k3.ones (fun i e f x y he hf hx hy h' Q' hl hq'=>?_) Q fun u h' hu hl=>?_
 ·refine CallW.val (first:=#[]) (captured:=#[]) ?_
  obtain ⟨x',hx',hex⟩:=h3.get i e he
  obtain ⟨y',hy',hfx⟩:=k3.get i f hf
  rw [hx] at hx';cases hx'
  rw [hy] at hy';cases hy'
  exact sameS_of (M:=zr l) (fun M' hM'=>ih M' (by omega)) (Z0 he) (hex.mono hl) (hfx.mono hl) Q' fun h'' hl''=>hq' _ _ rfl hl''
 ·subst hu
  rw [K3]
  exact hq h' hl
end Go.Eng.Sy
namespace Go.Eng.Sy
open Go Go.Eng Go.Proofs
structure Nm.ok (d:Nm):Prop where
 n:inI d.n
 name:d.name.length≤1000000000
theorem wf_of {z:Int}(h:inI z):(Lit.int .i64 z).wf=true:=by
 unfold inI at h
 simp [Lit.wf,IntKind.min,IntKind.max,IntKind.signed,IntKind.bits];omega
theorem n3:(Tryz.prog).cellsOf 3=1:=by kernel_rfl
theorem n9:(Tryz.prog).cellsOf 9=1:=by kernel_rfl
theorem u3:(Tryz.prog).underlying 3=some (.int .i64):=by kernel_rfl
theorem u9:(Tryz.prog).underlying 9=some .string:=by kernel_rfl
def Nm.beq (a b:Nm):Bool:=(a.name == b.name) && decide (a.n=b.n)
theorem Nm.beq_iff (a b:Nm):a.beq b=true↔a=b:=by
 cases a;cases b
 simp [Nm.beq]
theorem flatNm (a b:Nm):vw (nmV a.name a.n) (nmV b.name b.n)=a.beq b:=by
 simp [vw,Yn,Qr,Nm.beq]
theorem ar_Dv : (#[{ name := "Name", type := 9, offset := 0, embedded := false, tag := "", pkgPath := "", byteOffset := 0 },
    { name := "Kind", type := 3, offset := 1, embedded := false, tag := "", pkgPath := "", byteOffset := 16 }] : Array Field).all (·.name != "_") = true := by kernel_rfl
theorem kt_Dv:(Tryz.prog).keyType 67=true:=by kernel_rfl
theorem co_Dv:(Tryz.prog).cellsOf 67=2:=by kernel_rfl
theorem zx6 {d:Nm}(h:d.ok):qo Tryz.prog 67 (nmV d.name d.n)=true:=by
 have w1:=wf_of h.n
 have w4:(ByteArray.mk d.name.toArray).size≤maxLen:=by
  have:=h.name
  have:(ByteArray.mk d.name.toArray).size=d.name.length:=by simp [ByteArray.size]
  unfold maxLen;omega
 have hs:∃ n,(Tryz.prog).types.size=n + 2:=by
  have:2≤(Tryz.prog).types.size:=by decide +kernel
  exact ⟨(Tryz.prog).types.size - 2,by omega⟩
 obtain ⟨n,hn⟩:=hs
 have flat:xy (nmV d.name d.n)=true:=rfl
 simp only [qo,flat,Bool.true_and,keyOf,Tryz.underlying67,kt_Dv]
 have hform:Value.formed Tryz.prog 67 (nmV d.name d.n)=true:=by simp only [Value.formed,Tryz.underlying67,co_Dv];rfl
 simp only [hform,Bool.and_true,if_true,hn]
 have hkl:(Tryz.prog).keyLits (n + 2 + 1) 67 (nmV d.name d.n).cells.toList=some [.string d.name,.int .i64 d.n]:=by
  simp only [Program.keyLits,Tryz.underlying67,co_Dv,ar_Dv,Value.cells,List.mapM_cons,List.mapM_nil,u3,n3,u9,n9]
  simp [Program.keyLits,u3,u9,w1,w4]
 simp [hkl]
theorem eqK_Dv {a b:Nm}(ha:a.ok) (hb:b.ok) (neg:Bool):pEqK (qo Tryz.prog 67) neg [nmV a.name a.n,nmV b.name b.n]=some (.bool (if neg then !a.beq b else a.beq b)):=by
 simp only [pEqK,zx6 ha,zx6 hb,flatNm];rfl
theorem zy1 {v w:Value}{l m:List Nm}{h:Heap}(hv:NmsV h v l) (hw:NmsV h w m) (okl:∀ d ∈ l,d.ok) (okm:∀ d ∈ m,d.ok) (Q:Value→Heap→Prop) (hq:∀ b:Bool,(b=true↔l=m)→Q (.bool b) h):CallW Tryz.prog 45 [v,w] h Q:=by
 refine zi (k:=2) ok45 rfl rfl rfl fun N=>?_
 rw [show y0 c45 [v,w]=[v,w,undef,undef,undef,undef,undef] from rfl]
 delta c45
 replace hq:=zb hq
 have hln:=hv.len
 have hlm:=hw.len
 have hle:=hv.2
 by_cases hlen:l.length=m.length
 case neg =>
  have c:((l.length:Int) != (m.length:Int))=true:=by simp;omega
  have g:=hq.h false (by simp;intro e;exact hlen (by rw [e]))
  replace g:=Hid.mk g
  clear hv hw hq
  simp only [za,zf,zg, *]
  exact g.h
 have c:((l.length:Int) != (m.length:Int))=false:=by simp [hlen]
 replace hlen:=Hid.mk hlen
 replace hv:=Hid.mk hv
 replace hw:=Hid.mk hw
 simp only [za,zf,zg, *]
 refine LoopW.upto l.length (fun i e h1=>h1=h∧l.take i=m.take i ∧ ∃ x2 x3 x6,e=[v,w,x2,x3,.int .i64 l.length,.int .i64 i,x6]) ?_ (Nat.zero_le _) ⟨rfl,by simp,_,_,_,rfl⟩
 rintro i _ h1 R hi ⟨rfl,hp,x2,x3,x6,rfl⟩ hR
 delta c45_l9
 replace hp:=Hid.mk hp
 by_cases hlt:i < l.length
 ·have hlt' : (i:Int) < l.length:=by omega
  obtain ⟨d,hd⟩:∃ e,l[i]? = some e:=⟨_,List.getElem?_eq_getElem hlt⟩
  obtain ⟨e,he⟩:∃ e,m[i]? = some e:=⟨_,List.getElem?_eq_getElem (by have:=hlen.h;omega)⟩
  obtain ⟨id,off,cells,own,e1,e2,e3⟩:=hv.h.elem hd
  obtain ⟨id2,off2,cells2,own2,f1,f2,f3⟩:=hw.h.elem he
  have ek:=eqK_Dv (okl d (List.mem_of_getElem? hd)) (okm e (List.mem_of_getElem? he)) true
  simp only [if_true] at ek
  have hw' : IntKind.i64.wrap ((i:Int) + 1)=((i + 1:Nat):Int):=by rw [z6 (by omega) (by omega)];rfl
  replace hd:=zb hd;replace he:=zb he
  cases hb:d.beq e with
  | true =>
   rw [hb] at ek
   simp only [za,aR,zf,zg, *]
   refine hR.h _ _ hlt ⟨rfl,?_,_,_,_,rfl⟩
   rw [List.take_add_one,List.take_add_one,hp.h,hd.h,he.h,(Nm.beq_iff d e).1 hb]
  | false =>
   rw [hb] at ek
   have g:=hq.h false (by
    simp only [Bool.false_eq_true,false_iff]
    intro e'
    subst e'
    have:=hd.h.symm.trans he.h
    cases this
    rw [(Nm.beq_iff d d).2 rfl] at hb
    cases hb)
   replace g:=Hid.mk g
   clear hR hq
   simp only [za,aR,zf,zg, *]
   exact g.h
 ·have hlt' : ¬ (i:Int) < l.length:=by omega
  have hi2:i=l.length:=by omega
  have g:=hq.h true (by
   simp only [true_iff]
   have h1:=hp.h
   rw [hi2,List.take_length,hlen.h,List.take_length] at h1
   exact h1)
  replace g:=Hid.mk g
  replace hi2:=Hid.mk hi2
  clear hR hq
  simp only [za,zf,zg, *]
  exact g.h
theorem ar_Rs : (#[{ name := "Name", type := 9, offset := 0, embedded := false, tag := "", pkgPath := "", byteOffset := 0 },
    { name := "Words", type := 3, offset := 1, embedded := false, tag := "", pkgPath := "", byteOffset := 16 }] : Array Field).all (·.name != "_") = true := by kernel_rfl
theorem kt_Rs:(Tryz.prog).keyType 69=true:=by kernel_rfl
theorem co_Rs:(Tryz.prog).cellsOf 69=2:=by kernel_rfl
theorem zx5 {d:Nm}(h:d.ok):qo Tryz.prog 69 (nmV d.name d.n)=true:=by
 have w1:=wf_of h.n
 have w4:(ByteArray.mk d.name.toArray).size≤maxLen:=by
  have:=h.name
  have:(ByteArray.mk d.name.toArray).size=d.name.length:=by simp [ByteArray.size]
  unfold maxLen;omega
 have hs:∃ n,(Tryz.prog).types.size=n + 2:=by
  have:2≤(Tryz.prog).types.size:=by decide +kernel
  exact ⟨(Tryz.prog).types.size - 2,by omega⟩
 obtain ⟨n,hn⟩:=hs
 have flat:xy (nmV d.name d.n)=true:=rfl
 simp only [qo,flat,Bool.true_and,keyOf,Tryz.underlying69,kt_Rs]
 have hform:Value.formed Tryz.prog 69 (nmV d.name d.n)=true:=by simp only [Value.formed,Tryz.underlying69,co_Rs];rfl
 simp only [hform,Bool.and_true,if_true,hn]
 have hkl:(Tryz.prog).keyLits (n + 2 + 1) 69 (nmV d.name d.n).cells.toList=some [.string d.name,.int .i64 d.n]:=by
  simp only [Program.keyLits,Tryz.underlying69,co_Rs,ar_Rs,Value.cells,List.mapM_cons,List.mapM_nil,u3,n3,u9,n9]
  simp [Program.keyLits,u3,u9,w1,w4]
 simp [hkl]
theorem eqK_Rs {a b:Nm}(ha:a.ok) (hb:b.ok) (neg:Bool):pEqK (qo Tryz.prog 69) neg [nmV a.name a.n,nmV b.name b.n]=some (.bool (if neg then !a.beq b else a.beq b)):=by
 simp only [pEqK,zx5 ha,zx5 hb,flatNm];rfl
theorem zy0 {v w:Value}{l m:List Nm}{h:Heap}(hv:NmsV h v l) (hw:NmsV h w m) (okl:∀ d ∈ l,d.ok) (okm:∀ d ∈ m,d.ok) (Q:Value→Heap→Prop) (hq:∀ b:Bool,(b=true↔l=m)→Q (.bool b) h):CallW Tryz.prog 46 [v,w] h Q:=by
 refine zi (k:=2) ok46 rfl rfl rfl fun N=>?_
 rw [show y0 c46 [v,w]=[v,w,undef,undef,undef,undef,undef] from rfl]
 delta c46
 replace hq:=zb hq
 have hln:=hv.len
 have hlm:=hw.len
 have hle:=hv.2
 by_cases hlen:l.length=m.length
 case neg =>
  have c:((l.length:Int) != (m.length:Int))=true:=by simp;omega
  have g:=hq.h false (by simp;intro e;exact hlen (by rw [e]))
  replace g:=Hid.mk g
  clear hv hw hq
  simp only [za,zf,zg, *]
  exact g.h
 have c:((l.length:Int) != (m.length:Int))=false:=by simp [hlen]
 replace hlen:=Hid.mk hlen
 replace hv:=Hid.mk hv
 replace hw:=Hid.mk hw
 simp only [za,zf,zg, *]
 refine LoopW.upto l.length (fun i e h1=>h1=h∧l.take i=m.take i ∧ ∃ x2 x3 x6,e=[v,w,x2,x3,.int .i64 l.length,.int .i64 i,x6]) ?_ (Nat.zero_le _) ⟨rfl,by simp,_,_,_,rfl⟩
 rintro i _ h1 R hi ⟨rfl,hp,x2,x3,x6,rfl⟩ hR
 delta c46_l9
 replace hp:=Hid.mk hp
 by_cases hlt:i < l.length
 ·have hlt' : (i:Int) < l.length:=by omega
  obtain ⟨d,hd⟩:∃ e,l[i]? = some e:=⟨_,List.getElem?_eq_getElem hlt⟩
  obtain ⟨e,he⟩:∃ e,m[i]? = some e:=⟨_,List.getElem?_eq_getElem (by have:=hlen.h;omega)⟩
  obtain ⟨id,off,cells,own,e1,e2,e3⟩:=hv.h.elem hd
  obtain ⟨id2,off2,cells2,own2,f1,f2,f3⟩:=hw.h.elem he
  have ek:=eqK_Rs (okl d (List.mem_of_getElem? hd)) (okm e (List.mem_of_getElem? he)) true
  simp only [if_true] at ek
  have hw' : IntKind.i64.wrap ((i:Int) + 1)=((i + 1:Nat):Int):=by rw [z6 (by omega) (by omega)];rfl
  replace hd:=zb hd;replace he:=zb he
  cases hb:d.beq e with
  | true =>
   rw [hb] at ek
   simp only [za,aR,zf,zg, *]
   refine hR.h _ _ hlt ⟨rfl,?_,_,_,_,rfl⟩
   rw [List.take_add_one,List.take_add_one,hp.h,hd.h,he.h,(Nm.beq_iff d e).1 hb]
  | false =>
   rw [hb] at ek
   have g:=hq.h false (by
    simp only [Bool.false_eq_true,false_iff]
    intro e'
    subst e'
    have:=hd.h.symm.trans he.h
    cases this
    rw [(Nm.beq_iff d d).2 rfl] at hb
    cases hb)
   replace g:=Hid.mk g
   clear hR hq
   simp only [za,aR,zf,zg, *]
   exact g.h
 ·have hlt' : ¬ (i:Int) < l.length:=by omega
  have hi2:i=l.length:=by omega
  have g:=hq.h true (by
   simp only [true_iff]
   have h1:=hp.h
   rw [hi2,List.take_length,hlen.h,List.take_length] at h1
   exact h1)
  replace g:=Hid.mk g
  replace hi2:=Hid.mk hi2
  clear hR hq
  simp only [za,zf,zg, *]
  exact g.h
end Go.Eng.Sy
namespace Go.Eng.Sy
open Go Go.Eng Go.Proofs
def zb8 (a b:Tsk):Bool:=a.name == b.name && a.handler == b.handler && a.hart == b.hart && a.prio == b.prio && a.line == b.line && qz a.body b.body
theorem zs3 (a b:Tsk):zb8 a b=true↔a=b:=by
 cases a;cases b
 simp [zb8,km,and_assoc]
theorem sameT_c {a b:Tsk}{x y:List Value}{h:Heap}(hx:TsC h a x) (hy:TsC h b y) (Q:Value→Heap→Prop) (hq:∀ h',h.le h' → Q (.bool (zb8 a b)) h') :
  CallW Tryz.prog 48 [.agg x.toArray,.agg y.toArray] h Q:=by
 obtain ⟨v,rfl,hv⟩:=hx
 obtain ⟨w,rfl,hw⟩:=hy
 have b1:=zk8 (m:=a.name) (b:=a.handler) (a:=a.hart) (p:=a.prio) (l:=a.line) hv.one
 have b2:=zk8 (m:=b.name) (b:=b.handler) (a:=b.hart) (p:=b.prio) (l:=b.line) hw.one
 obtain ⟨p1,h1,ep1,eh1,gp1,lh1⟩:=zo h [str a.name,.bool a.handler,.int .i64 a.hart,.int .i64 a.prio,.int .i64 a.line,v]
 obtain ⟨p2,h2,ep2,eh2,gp2,lh2⟩:=zo h1 [str b.name,.bool b.handler,.int .i64 b.hart,.int .i64 b.prio,.int .i64 b.line,w]
 have gp1':=lh2.get gp1
 have l2:=lh1.trans lh2
 have hv2:=hv.mono l2
 have hw2:=hw.mono l2
 have es:zb8 a b=(a.name == b.name && a.handler == b.handler && a.hart == b.hart && a.prio == b.prio && a.line == b.line && qz a.body b.body):=rfl
 rw [es] at hq
 clear hv hw lh1 lh2 gp1 es
 replace hv2:=zb hv2;replace hw2:=zb hw2;replace l2:=zb l2
 refine zi (k:=4) ok48 rfl rfl rfl fun N=>?_
 rw [show y0 c48 [tsV a.name a.handler a.hart a.prio a.line v,tsV b.name b.handler b.hart b.prio b.line w]=[tsV a.name a.handler a.hart a.prio a.line v,tsV b.name b.handler b.hart b.prio b.line w,undef,undef,undef] from rfl]
 delta c48
 replace hq:=zb hq
 have q1:=Ja a.name b.name
 have q2:=pEqBf a.handler b.handler
 have gf:(a.name == b.name && a.handler == b.handler && a.hart == b.hart && a.prio == b.prio && a.line == b.line)=false→Q (.bool false) h2:=fun e=>by
  have g:=hq.h h2 l2.h
  rwa [e,Bool.false_and] at g
 replace gf:=Hid.mk gf
 cases c1:(a.name == b.name) with
 | false =>
  have g:=gf.h (by simp only [c1,Bool.false_and])
  replace g:=Hid.mk g
  clear gf hq
  simp only [za,aR,zf, *]
  exact g.h
 | true =>
 cases c2:(a.handler == b.handler) with
 | false =>
  have g:=gf.h (by simp only [c2,Bool.false_and,Bool.and_false])
  replace g:=Hid.mk g
  clear gf hq
  simp only [za,aR,zf, *]
  exact g.h
 | true =>
 cases c3:(a.hart == b.hart) with
 | false =>
  have g:=gf.h (by simp only [c3,Bool.false_and,Bool.and_false])
  replace g:=Hid.mk g
  clear gf hq
  simp only [za,aR,zf,zg, *]
  exact g.h
 | true =>
 cases c4:(a.prio == b.prio) with
 | false =>
  have g:=gf.h (by simp only [c4,Bool.false_and,Bool.and_false])
  replace g:=Hid.mk g
  clear gf hq
  simp only [za,aR,zf,zg, *]
  exact g.h
 | true =>
 cases c5:(a.line == b.line) with
 | false =>
  have g:=gf.h (by simp only [c5,Bool.and_false])
  replace g:=Hid.mk g
  clear gf hq
  simp only [za,aR,zf,zg, *]
  exact g.h
 | true =>
  rw [c1,c2,c3,c4,c5] at hq
  simp only [Bool.true_and] at hq
  clear gf
  simp only [za,aR,zf,zg, *]
  refine sameSs_c _ a.body b.body (Nat.le_refl _) v w h2 _ hv2.h hw2.h fun h3 l3=>?_
  have g:=hq.h h3 (l2.h.trans l3)
  replace g:=Hid.mk g
  clear hq l3
  simp only [za, *]
  exact g.h
structure Prg.ok (p:Prg):Prop where
 devs:∀ d ∈ p.devs,d.ok
 ress:∀ d ∈ p.ress,d.ok
theorem yd2 {p q:Prg}{x y:List Value}{h:Heap}(hx:PrC h p x) (hy:PrC h q y) (okp:p.ok) (okq:q.ok) (Q:Value→Heap→Prop) (hq:∀ (b:Bool) h',(b=true↔p=q)→h.le h' → Q (.bool b) h') :
  CallW Tryz.prog 13 [.agg x.toArray,.agg y.toArray] h Q:=by
 obtain ⟨d,r,t,rfl,hd,hr,ht⟩:=hx
 obtain ⟨d',r',t',rfl,hd',hr',ht'⟩:=hy
 have b1:=Yd (n:=p.harts) hd.one hr.one ht.one
 have b2:=Yd (n:=q.harts) hd'.one hr'.one ht'.one
 obtain ⟨p1,h1,ep1,eh1,gp1,lh1⟩:=zo h [.int .i64 p.harts,d,r,t]
 obtain ⟨p2,h2,ep2,eh2,gp2,lh2⟩:=zo h1 [.int .i64 q.harts,d',r',t']
 have gp1':=lh2.get gp1
 have l2:=lh1.trans lh2
 replace hd:=hd.mono l2
 replace hr:=hr.mono l2
 replace ht:=ht.mono l2
 replace hd':=hd'.mono l2
 replace hr':=hr'.mono l2
 replace ht':=ht'.mono l2
 have go:∀ b h',h2.le h' → (b=true↔p=q)→Q (.bool b) h':=fun b h' hl hb=>hq b h' hb (l2.trans hl)
 clear lh1 lh2 gp1 hq l2
 replace hd:=zb hd;replace hr:=zb hr;replace ht:=zb ht;replace hd':=zb hd';replace hr':=zb hr';replace ht':=zb ht';replace go:=zb go
 have hq:=go
 refine zi (k:=4) ok13 rfl rfl rfl fun N=>?_
 rw [show y0 c13 [prV p.harts d r t,prV q.harts d' r' t']=[prV p.harts d r t,prV q.harts d' r' t',undef,undef,undef] from rfl]
 delta c13
 clear hq
 cases c1:(p.harts == q.harts) with
 | false =>
  have g:=go.h false h2 (.refl _) (by
   simp only [Bool.false_eq_true,false_iff]
   intro e;subst e;simp at c1)
  replace g:=Hid.mk g
  clear go
  simp only [za,aR,zf,zg, *]
  exact g.h
 | true =>
  simp only [za,aR,zf,zg, *]
  refine zy1 hd.h hd'.h okp.devs okq.devs _ fun b1' hb1=>?_
  cases b1' with
  | false =>
   have g:=go.h false h2 (.refl _) (by
    simp only [Bool.false_eq_true,false_iff]
    intro e;subst e;simp at hb1)
   replace g:=Hid.mk g
   clear go hb1
   simp only [za, *]
   exact g.h
  | true =>
  replace hb1:=Hid.mk hb1
  simp only [za,aR, *]
  refine zy0 hr.h hr'.h okp.ress okq.ress _ fun b2' hb2=>?_
  cases b2' with
  | false =>
   have g:=go.h false h2 (.refl _) (by
    simp only [Bool.false_eq_true,false_iff]
    intro e;subst e;simp at hb2)
   replace g:=Hid.mk g
   clear go hb2
   simp only [za, *]
   exact g.h
  | true =>
  replace hb2:=Hid.mk hb2
  simp only [za,aR, *]
  obtain ⟨xs,k1,k2,k3⟩:=ht.h
  obtain ⟨ys,m1,m2,m3⟩:=ht'.h
  refine Wj (p:=zb8) k1 m1 k3.length m3.length (by rw [← k3.length];exact k2) (by rw [← m3.length];exact m2) k3.ones m3.ones (fun i e f x y he hf hx hy h' Q' hl hq'=>?_) _ fun u h' hu hl=>?_
  ·refine CallW.val (first:=#[]) (captured:=#[]) ?_
   obtain ⟨x',hx',hex⟩:=k3.get i e he
   obtain ⟨y',hy',hfx⟩:=m3.get i f hf
   rw [hx] at hx';cases hx'
   rw [hy] at hy';cases hy'
   exact sameT_c (hex.mono hl) (hfx.mono hl) Q' fun h'' hl''=>hq' _ _ rfl hl''
  ·subst hu
   obtain ⟨bb,hbb⟩:∃ bb,(p.tasks.length == q.tasks.length && (p.tasks.zip q.tasks).all fun e=>zb8 e.1 e.2)=bb:=⟨_,rfl⟩
   have g:=go.h bb h' hl (by
    have h1:=hb1.h.1 rfl
    have h2:=hb2.h.1 rfl
    have key:∀ (l m:List Tsk),((l.length == m.length && (l.zip m).all fun e=>zb8 e.1 e.2)=true)↔l=m:=by
     intro l
     induction l with
     | nil=>intro m;cases m<;>simp
     | cons a r ih =>
      intro m
      cases m with
      | nil=>simp
      | cons b s =>
       have:=ih s
       simp only [Bool.and_eq_true,beq_iff_eq] at this
       simp only [List.length_cons,List.zip_cons_cons,List.all_cons,Bool.and_eq_true,beq_iff_eq,zs3,List.cons.injEq,← this]
       constructor
       ·rintro ⟨a,b,c⟩;exact ⟨b,by omega,c⟩
       ·rintro ⟨a,b,c⟩;exact ⟨by omega,a,c⟩
    rw [← hbb,key]
    have h0:p.harts=q.harts:=by simpa using c1
    constructor
    ·intro e;cases p;cases q;simp_all
    ·intro e;rw [e])
   rw [hbb]
   replace g:=Hid.mk g
   clear go hl hbb
   simp only [za, *]
   exact g.h
end Go.Eng.Sy
