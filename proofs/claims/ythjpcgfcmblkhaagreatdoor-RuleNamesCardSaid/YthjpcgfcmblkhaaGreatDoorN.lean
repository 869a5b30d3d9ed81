/-
  Part of a proof of the laws of layer 08 (rule): the laws.
  Conditions: none.
-/
import Derived.Test.YthjpcgfcmblkhaaGreatDoorM
set_option linter.unusedSimpArgs false
set_option linter.unusedVariables false
namespace Go.Eng.Sy
open Go Go.Eng Go.Proofs
theorem ExI.sub {e:Ex} {d:Nat} (h:ExI e d):∃ d',d=d' + 1∧e.args.length≤2 ∧ ∀ a ∈ e.args,ExI a d':=by
 cases h with
 | num n d h=>exact ⟨d,rfl,by simp [Ex.args],by simp [Ex.args]⟩
 | var m d h=>exact ⟨d,rfl,by simp [Ex.args],by simp [Ex.args]⟩
 | one o a d h ha=>exact ⟨d,rfl,by simp [Ex.args],by simpa [Ex.args] using ha⟩
 | two o a b d h ha hb=>exact ⟨d,rfl,by simp [Ex.args],by simpa [Ex.args] using ⟨ha,hb⟩⟩
 | idx m a d h ha=>exact ⟨d,rfl,by simp [Ex.args],by simpa [Ex.args] using ha⟩
theorem StI.sub {s:St} {d:Nat} (h:StI s d):∃ d',d=d' + 1∧s.args.length≤2∧(∀ a ∈ s.args,ExI a 30)∧(∀ x ∈ s.thn,StI x d') ∧ ∀ x ∈ s.els,StI x d':=by
 have ha:=h.args
 cases h with
 | set m a d h ha'=>exact ⟨d,rfl,by simp [St.args],ha,by simp [St.thn],by simp [St.els]⟩
 | get m f n d h hf hn=>exact ⟨d,rfl,by simp [St.args],ha,by simp [St.thn],by simp [St.els]⟩
 | put m n a d h hn ha'=>exact ⟨d,rfl,by simp [St.args],ha,by simp [St.thn],by simp [St.els]⟩
 | store m a b d h ha' hb=>exact ⟨d,rfl,by simp [St.args],ha,by simp [St.thn],by simp [St.els]⟩
 | lock m thn d h ht=>exact ⟨d,rfl,by simp [St.args],ha,by simpa [St.thn] using ht,by simp [St.els]⟩
 | cond a thn els d ha' ht he=>exact ⟨d,rfl,by simp [St.args],ha,by simpa [St.thn] using ht,by simpa [St.els] using he⟩
 | rep n thn d hn ht=>exact ⟨d,rfl,by simp [St.args],ha,by simpa [St.thn] using ht,by simp [St.els]⟩
 | halt d=>exact ⟨d,rfl,by simp [St.args],ha,by simp [St.thn],by simp [St.els]⟩
theorem renE_eq (f g:List UInt8) (e:Ex):renE f g e = .mk e.kind e.op e.n (renN f g e.name) (renEs f g e.args):=by cases e; rfl
theorem renS_eq (f g:List UInt8) (s:St):renS f g s = .mk s.kind (renN f g s.name) (renN f g s.src) s.n (renEs f g s.args) (renSs f g s.thn) (renSs f g s.els):=by cases s; rfl
theorem renEs_take {f g:List UInt8} {l:List Ex} {i:Nat} {e:Ex} (hi:l[i]? = some e):renEs f g (l.take (i + 1))=renEs f g (l.take i)++[renE f g e]:=by
 rw [renEs_map,renEs_map,List.take_add_one,hi]; simp
theorem renSs_take {f g:List UInt8} {l:List St} {i:Nat} {e:St} (hi:l[i]? = some e):renSs f g (l.take (i + 1))=renSs f g (l.take i)++[renS f g e]:=by
 rw [renSs_map,renSs_map,List.take_add_one,hi]; simp
theorem ExCsB.get {B:Nat→Prop} {h:Heap}:∀ {l:List Ex} {xs:List (List Value)},ExCsB B h l xs → ∀ {i:Nat} {e:Ex},l[i]? = some e → ∃ x,xs[i]? = some x∧ExCB B h e x
 | [],_,_,i,e,hi=>by simp at hi
 | _::_,_,⟨x,xr,h1,h2,h3⟩,0,e,hi=>by simp at hi; subst hi; exact ⟨x,by rw [h1]; rfl,h2⟩
 | _::_,_,⟨x,xr,h1,h2,h3⟩,i + 1,e,hi=>by
  obtain ⟨y,hy,hz⟩:=ExCsB.get h3 (i:=i) (by simpa using hi)
  exact ⟨y,by rw [h1]; simpa using hy,hz⟩
theorem ExCsB.snoc {B:Nat→Prop} {h:Heap} {e:Ex} {x:List Value} (he:ExCB B h e x):∀ {l:List Ex} {xs:List (List Value)},ExCsB B h l xs→ExCsB B h (l++[e]) (xs++[x])
 | [],_,hx=>by rw [show _=[] from hx]; exact ⟨x,[],rfl,he,rfl⟩
 | _::_,_,⟨y,yr,h1,h2,h3⟩=>by rw [h1]; exact ⟨y,_,rfl,h2,ExCsB.snoc he h3⟩
theorem ExCsB.length {B:Nat→Prop} {h:Heap}:∀ {l:List Ex} {xs:List (List Value)},ExCsB B h l xs→xs.length=l.length
 | [],_,hx=>by rw [show _=[] from hx]; rfl
 | _::_,_,⟨y,yr,h1,h2,h3⟩=>by rw [h1]; simp [ExCsB.length h3]
theorem ExsVB.len {B:Nat→Prop} {h:Heap} {v:Value} {l:List Ex} (hv:ExsVB B h v l):pLenS [v]=some (.int .i64 l.length):=by
 obtain ⟨xs,h1,_,h3⟩:=hv
 have:=SlV.len h1.plain
 rw [h3.length] at this; exact this
def NamedC (d:Nat):Prop:=∀ (f g:List UInt8) (e:Ex) (B:Nat→Prop) (x:List Value) (h:Heap) (Q:Value→Heap→Prop),ExI e d→ExCB B h e x→(∀ id,h.next≤id→B id) →
 (∀ h' y,h.le h' → ExCB B h' (renE f g e) y→Q (.agg y.toArray) h')→CallW Tryz.prog 29 [.agg x.toArray,str f,str g] h Q
set_option maxHeartbeats 2000000 in
theorem named_of {d:Nat} (ih:NamedC d):NamedC (d + 1):=by
 intro f g e B x h Q hI hx hB hq
 obtain ⟨d',ed,hal,haI⟩:=hI.sub
 have ed' : d' = d:=by omega
 subst ed'
 obtain ⟨va,rfl,hva⟩:=hx.cells
 have iA:IsS va:=hva.isS
 have b1:=box_ex (k:=e.kind) (o:=e.op) (n:=e.n) (m:=e.name) hva.one
 have hva0:ExsVB (fun id=>B id∧id < h.next) h va e.args:=hva.to fun id cs own hb hg=>⟨⟨hb,Heap.lt_of_get hg⟩,hg⟩
 have gq1:=Heap.get_alloc_same h (.blk [.int .i64 e.kind,.int .i64 e.op,.int .i64 e.n,str e.name,va] true)
 have lh1:=(Heap.le.refl h).alloc (.blk [.int .i64 e.kind,.int .i64 e.op,.int .i64 e.n,str e.name,va] true)
 obtain ⟨q1,eq1⟩:∃ x_,h.next=x_:=⟨_,rfl⟩
 obtain ⟨h1,eh1⟩:∃ x_,h.alloc (.blk [.int .i64 e.kind,.int .i64 e.op,.int .i64 e.n,str e.name,va] true)=x_:=⟨_,rfl⟩
 rw [eh1] at gq1 lh1
 rw [eq1] at gq1
 have gq2:=Heap.get_alloc_same h1 (.blk [.int .i64 0,.int .i64 0,.int .i64 0,.string ⟨#[]⟩,.slice none 0 0] true)
 have lh2:=(Heap.le.refl h1).alloc (.blk [.int .i64 0,.int .i64 0,.int .i64 0,.string ⟨#[]⟩,.slice none 0 0] true)
 obtain ⟨q2,eq2⟩:∃ x_,h1.next=x_:=⟨_,rfl⟩
 obtain ⟨h2,eh2⟩:∃ x_,h1.alloc (.blk [.int .i64 0,.int .i64 0,.int .i64 0,.string ⟨#[]⟩,.slice none 0 0] true)=x_:=⟨_,rfl⟩
 rw [eh2] at gq2 lh2
 rw [eq2] at gq2
 have gq12:=lh2.get gq1
 have n12:q1 < q2:=by have:=Heap.lt_of_get gq1; omega
 have n2:=Heap.lt_of_get gq2
 have es:=eq_S e.name f
 have hln:=hva.len
 have hq1h:h.next=q1:=eq1
 replace ih:=Hid.mk ih; replace hal:=Hid.mk hal; replace haI:=Hid.mk haI; replace hva:=Hid.mk hva; replace hva0:=Hid.mk hva0; replace hB:=Hid.mk hB; replace lh1:=Hid.mk lh1; replace lh2:=Hid.mk lh2; replace hx:=Hid.mk hx; replace hI:=Hid.mk hI; replace n12:=Hid.mk n12; replace hq1h:=Hid.mk hq1h; replace es:=Hid.mk es
 refine call_ofc (k:=4) (agg:=true) (size:=5) ok29 rfl rfl rfl fun N=>?_
 rw [show env0 c29 [exV e.kind e.op e.n e.name va,str f,str g]=[exV e.kind e.op e.n e.name va,str f,str g,undef,undef,undef,undef] from rfl]
 delta c29 c29_r0 c29_r1 c29_r2 c29_r3 c29_r4 c29_r5 c29_r6 c29_r7 c29_r9 c29_r10
 replace hq:=Hid.mk hq
 refine cutH (P:=fun x=>x.get q1=some (.blk [.int .i64 e.kind,.int .i64 e.op,.int .i64 e.n,str (renN f g e.name),va] true)∧(∀ i,i≠q1→x.get i=h2.get i)∧x.next=h2.next) (G:=?G) ?b ?main
 case b =>
  intro main
  replace main:=Hid.mk main
  by_cases hm:e.name=f
  case pos =>
   have ef:(e.name == f)=true:=by simpa using hm
   have s1:=wStore_one (v:=str g) (off:=3) gq12 (by simp) rfl rfl
   obtain ⟨hX,hXe⟩:∃ x,h2.set q1 (.blk ([.int .i64 e.kind,.int .i64 e.op,.int .i64 e.n,str e.name,va].set 3 (str g)) true)=x:=⟨_,rfl⟩
   rw [hXe] at s1
   have g1:=main.h hX ⟨by rw [← hXe,show renN f g e.name=g by unfold renN; rw [if_pos hm]]; exact Heap.set_getS _ _ _ (by rw [gq12]; rfl),fun i hi=>by rw [← hXe,Heap.set_getE _ _ _ _ (by simpa using hi)],by rw [← hXe]; rfl⟩
   have es':=es.h
   rw [ef] at es'
   replace g1:=Hid.mk g1
   replace ef:=Hid.mk ef
   replace hm:=Hid.mk hm
   clear main
   repeat' (first | simp -implicitDefEqProofs only [walkL,aR,aW,aBin,aInt,Int.reduceBEq,Int.reduceBNe,Nat.reduceBEq,Int.reduceLT,Int.reduceLE, *] | with_reducible (first | refine kcd ?_ ?_ | refine kgd ?_ ?_ | refine kci ?_ ?_ | refine kgi ?_ ?_)<;>intro hc)
   exact g1.h
  case neg =>
   have ef:(e.name == f)=false:=by simpa using hm
   have g1:=main.h h2 ⟨by rw [show renN f g e.name=e.name by unfold renN; rw [if_neg hm]]; exact gq12,fun i hi=>rfl,rfl⟩
   have es':=es.h
   rw [ef] at es'
   replace g1:=Hid.mk g1
   replace ef:=Hid.mk ef
   replace hm:=Hid.mk hm
   clear main
   repeat' (first | simp -implicitDefEqProofs only [walkL,aR,aW,aBin,aInt,Int.reduceBEq,Int.reduceBNe,Nat.reduceBEq,Int.reduceLT,Int.reduceLE, *] | with_reducible (first | refine kcd ?_ ?_ | refine kgd ?_ ?_ | refine kci ?_ ?_ | refine kgi ?_ ?_)<;>intro hc)
   exact g1.h
 case main =>
  rintro hX ⟨gX1,keep,nX⟩
  have gX2:hX.get q2=some (.blk [.int .i64 0,.int .i64 0,.int .i64 0,.string ⟨#[]⟩,.slice none 0 0] true):=by rw [keep q2 (by have:=n12.h; omega)]; exact gq2
  have lX:h.le hX:=⟨fun i o hg=>by
   rw [keep i (by have:=Heap.lt_of_get hg; have:=hq1h.h; omega)]; exact (lh1.h.trans lh2.h).get hg,by have h1:=lh1.h.next; have h2:=lh2.h.next; omega⟩
  obtain ⟨mn,hmn⟩:∃ m,renN f g e.name=m:=⟨_,rfl⟩
  rw [hmn] at gX1
  have q1X:=Heap.lt_of_get gX1
  have q2X:=Heap.lt_of_get gX2
  clear gq12 gq1 gq2 b1 keep
  replace lX:=Hid.mk lX; replace nX:=Hid.mk nX; replace hmn:=Hid.mk hmn; replace q1X:=Hid.mk q1X; replace q2X:=Hid.mk q2X
  repeat' (first | simp -implicitDefEqProofs only [walkL,aR,aW,aBin,aInt,Int.reduceBEq,Int.reduceBNe,Nat.reduceBEq,Int.reduceLT,Int.reduceLE, *] | with_reducible (first | refine kcd ?_ ?_ | refine kgd ?_ ?_ | refine kci ?_ ?_ | refine kgi ?_ ?_)<;>intro hc)
  refine LoopW.upto e.args.length (fun i en hh=>∃ vo xs,en=[exV e.kind e.op e.n e.name va,str f,str g,ptr q1,ptr q2,vo,.int .i64 i]∧hX.le hh∧OwnS (emptyH hX.next) hh 5 vo xs∧ExCsB (fun id=>((B id∧id≠q1)∧id≠q2)∧notOf vo id) hh (renEs f g (e.args.take i)) xs) ?_ (Nat.zero_le _) ⟨nilS,[],rfl,Heap.le.refl _,OwnS.nil _ _ _,by simp only [List.take_zero,renEs]; rfl⟩
  rintro i _ h3 R hi ⟨vo,xs,rfl,l3,ho3,hx3⟩ hR
  delta c29_l8 c29_r0 c29_r1 c29_r2 c29_r3 c29_r4 c29_r5 c29_r6 c29_r7 c29_r9 c29_r10
  have g31:=l3.get gX1
  have g32:=l3.get gX2
  by_cases hlt:i < e.args.length
  case neg =>
   have hlt' : ¬ (i:Int) < e.args.length:=by omega
   rw [List.take_of_length_le (by omega)] at hx3
   have hxl:=hx3.length
   have ov:=ho3.sl
   have iV:IsS vo:=SlV.isS ov
   have s9:wStore 1 h3 [.pointer (some ⟨q1,4,none⟩),vo]=some (undef,h3.set q1 (.blk [.int .i64 e.kind,.int .i64 e.op,.int .i64 e.n,str mn,vo] true)):=by
    obtain ⟨_,_,_,rfl⟩:=iV; exact wStore_one g31 (by simp) rfl rfl
   obtain ⟨h4,eh4⟩:∃ x,h3.set q1 (.blk [.int .i64 e.kind,.int .i64 e.op,.int .i64 e.n,str mn,vo] true)=x:=⟨_,rfl⟩
   rw [eh4] at s9
   have g41:h4.get q1=some (.blk [.int .i64 e.kind,.int .i64 e.op,.int .i64 e.n,str mn,vo] true):=by rw [← eh4]; exact Heap.set_getS _ _ _ (by rw [g31]; rfl)
   have g42:h4.get q2=some (.blk [.int .i64 0,.int .i64 0,.int .i64 0,.string ⟨#[]⟩,.slice none 0 0] true):=by rw [← eh4,Heap.set_getE _ _ _ _ (by have:=n12.h; simp; omega)]; exact g32
   have s10:wStore 5 h4 [.pointer (some ⟨q2,0,none⟩),exV e.kind e.op e.n mn vo]=some (undef,h4.set q2 (.blk [.int .i64 e.kind,.int .i64 e.op,.int .i64 e.n,str mn,vo] true)):=by
    obtain ⟨_,_,_,rfl⟩:=iV; exact wStore_all g42 rfl rfl rfl rfl
   obtain ⟨h5,eh5⟩:∃ x,h4.set q2 (.blk [.int .i64 e.kind,.int .i64 e.op,.int .i64 e.n,str mn,vo] true)=x:=⟨_,rfl⟩
   rw [eh5] at s10
   have g52:h5.get q2=some (.blk [.int .i64 e.kind,.int .i64 e.op,.int .i64 e.n,str mn,vo] true):=by rw [← eh5]; exact Heap.set_getS _ _ _ (by rw [g42]; rfl)
   have tb:Heap.toB (fun id=>(B id∧id≠q1)∧id≠q2) B h3 h5:=fun id cs own hb hg=>⟨hb.1.1,by rw [← eh5,Heap.set_getE _ _ _ _ (by simpa using hb.2),← eh4,Heap.set_getE _ _ _ _ (by simpa using hb.1.2)]; exact hg⟩
   have hv3:ExsVB (fun id=>(B id∧id≠q1)∧id≠q2) h3 vo (renEs f g e.args):=⟨xs,SlVB.to (Heap.toB_id fun id hb=>by
    have hb' : hX.next≤id:=hb
    exact ⟨⟨hB.h id (by have:=lX.h.next; omega),by have:=q1X.h; omega⟩,by have:=q2X.h; omega⟩) (OwnS.slB ho3),by rw [hxl,renEs_map,List.length_map]; have:=hal.h; omega,hx3.to (Heap.toB_id fun id hb=>hb.1)⟩
   have l5:h.le h5:=by rw [← eh5,← eh4]; exact ((lX.h.trans l3).set (by have:=hq1h.h; omega) _).set (by have:=hq1h.h; have:=n12.h; omega) _
   have g:=hq.h h5 [.int .i64 e.kind,.int .i64 e.op,.int .i64 e.n,str mn,vo] l5 (by rw [renE_eq,hmn.h]; exact ExCB.of (hv3.to tb))
   clear hR
   replace g:=Hid.mk g; replace l3:=Hid.mk l3; replace ho3:=Hid.mk ho3; replace hx3:=Hid.mk hx3; replace hv3:=Hid.mk hv3; replace tb:=Hid.mk tb; replace l5:=Hid.mk l5; replace iV:=Hid.mk iV; replace ov:=Hid.mk ov
   repeat' (first | simp -implicitDefEqProofs only [walkL,aR,aW,aBin,aInt,Int.reduceBEq,Int.reduceBNe,Nat.reduceBEq,Int.reduceLT,Int.reduceLE,partL5, *] | with_reducible (first | refine kcd ?_ ?_ | refine kgd ?_ ?_ | refine kci ?_ ?_ | refine kgi ?_ ?_)<;>intro hc)
   exact g.h
  case pos =>
   have hlt' : (i:Int) < e.args.length:=by omega
   have hw:IntKind.i64.wrap ((i:Int) + 1)=((i + 1:Nat):Int):=by have:=hal.h; rw [wrapI (by omega) (by omega)]; rfl
   obtain ⟨a,he⟩:∃ a,e.args[i]? = some a:=⟨_,List.getElem?_eq_getElem hlt⟩
   have et:=renEs_take (f:=f) (g:=g) he
   obtain ⟨xs0,a1,a2,a3⟩:=hva0.h
   obtain ⟨x,hx',hxs⟩:=a3.get he
   have l03:=lX.h.trans l3
   obtain ⟨id,off,cells,own,e1,e2,e3,_⟩:=(a1.plain.mono l03).elem hx'
   obtain ⟨vb,rfl,hvb⟩:=hxs.cells
   have e3' : partL true off 5 cells=some (exV a.kind a.op a.n a.name vb):=e3
   have hvo:∀ id,h3.next≤id→notOf vo id:=fun id hid=>ho3.notOf_new hid
   have hB' : ∀ id,h3.next≤id→((B id∧id≠q1)∧id≠q2)∧notOf vo id:=fun id hid=>⟨⟨⟨hB.h id (by have:=l03.next; omega),by have:=q1X.h; have:=l3.next; omega⟩,by have:=q2X.h; have:=l3.next; omega⟩,hvo id hid⟩
   have hxb:ExCB (fun id=>((B id∧id≠q1)∧id≠q2)∧notOf vo id) h3 a [.int .i64 a.kind,.int .i64 a.op,.int .i64 a.n,str a.name,vb]:=hxs.to fun id cs own hb hg=>⟨⟨⟨⟨hb.1,by have:=hb.2; have:=hq1h.h; omega⟩,by have:=hb.2; have:=hq1h.h; have:=n12.h; omega⟩,ho3.notOf (by have:=hb.2; have:=lX.h.next; show id < hX.next; omega)⟩,l03.get hg⟩
   clear e3 a1 a2 a3
   replace l3:=Hid.mk l3; replace ho3:=Hid.mk ho3; replace hx3:=Hid.mk hx3; replace hxs:=Hid.mk hxs; replace hvb:=Hid.mk hvb; replace hvo:=Hid.mk hvo; replace hB':=Hid.mk hB'; replace hxb:=Hid.mk hxb; replace et:=Hid.mk et; replace l03:=Hid.mk l03; replace he:=Hid.mk he; replace hx':=Hid.mk hx'
   repeat' (first | simp -implicitDefEqProofs only [walkL,aR,aW,aBin,aInt,Int.reduceBEq,Int.reduceBNe,Nat.reduceBEq,Int.reduceLT,Int.reduceLE,partL5, *] | with_reducible (first | refine kcd ?_ ?_ | refine kgd ?_ ?_ | refine kci ?_ ?_ | refine kgi ?_ ?_)<;>intro hc)
   refine ih.h f g a _ _ h3 _ (haI.h a (List.mem_of_getElem? he.h)) hxb.h hB'.h fun h4 y l4 hy=>?_
   have ho4:OwnS (emptyH hX.next) h4 5 vo xs:=ho3.h.get fun id hv hs=>l4.getE id hs
   have hx4:=hx3.h.to (l4.toB fun id hb=>hb)
   have hxl:=hx4.length
   have hll:(renEs f g (e.args.take i)).length≤2:=by rw [renEs_map,List.length_map,List.length_take]; have:=hal.h; omega
   obtain ⟨v',h5,ap,ho5,le5,k5,n5,nx5⟩:=ho4.append1 (x:=y) (emptyH_le (by have:=l3.h.next; have:=l4.next; show hX.next≤h4.next; omega)) hy.ones.1 (by omega) (b:=64) (by omega) (by omega)
   have u:=bs_ex1 hy.ones
   have hk:Heap.toB (fun id=>((B id∧id≠q1)∧id≠q2)∧notOf vo id) (fun id=>((B id∧id≠q1)∧id≠q2)∧notOf v' id) h4 h5:=fun id cs own hb hg=>⟨⟨hb.1,n5 id (by rw [hg]; rfl)⟩,by rw [k5 id (by rw [hg]; rfl) hb.2]; exact hg⟩
   have hx5:ExCsB (fun id=>((B id∧id≠q1)∧id≠q2)∧notOf v' id) h5 (renEs f g (e.args.take (i + 1))) (xs++[y]):=by rw [et.h]; exact ExCsB.snoc (hy.to hk) (hx4.to hk)
   have l5:hX.le h5:=⟨fun id o hg=>by
    have h1:=(l3.h.trans l4).get hg
    rw [k5 id (by rw [h1]; rfl) (ho3.h.notOf (Heap.lt_of_get hg))]; exact h1,by have:=(l3.h.trans l4).next; omega⟩
   have g:=hR.h [exV e.kind e.op e.n e.name va,str f,str g,ptr q1,ptr q2,v',.int .i64 (i + 1:Nat)] h5 hlt ⟨v',_,rfl,l5,ho5,hx5⟩
   clear ih hq hR
   replace g:=Hid.mk g; replace l4:=Hid.mk l4; replace hy:=Hid.mk hy; replace ho4:=Hid.mk ho4; replace hx4:=Hid.mk hx4; replace hk:=Hid.mk hk; replace hx5:=Hid.mk hx5; replace l5:=Hid.mk l5; replace k5:=Hid.mk k5; replace n5:=Hid.mk n5; replace ho5:=Hid.mk ho5; replace le5:=Hid.mk le5
   repeat' (first | simp -implicitDefEqProofs only [walkL,aR,aW,aBin,aInt,Int.reduceBEq,Int.reduceBNe,Nat.reduceBEq,Int.reduceLT,Int.reduceLE, *] | with_reducible (first | refine kcd ?_ ?_ | refine kgd ?_ ?_ | refine kci ?_ ?_ | refine kgi ?_ ?_)<;>intro hc)
   exact g.h
theorem namedE_c:∀ d,NamedC d
 | 0=>fun _ _ _ _ _ _ _ h=>by obtain ⟨_,h,_⟩:=h.sub; omega
 | d + 1=>named_of (namedE_c d)
end Go.Eng.Sy
namespace Go.Eng.Sy
open Go Go.Eng Go.Proofs
def RenC (d:Nat):Prop:=∀ (f g:List UInt8) (ss:List St) (B:Nat→Prop) (v:Value) (h:Heap) (Q:Value→Heap→Prop),(∀ s ∈ ss,StI s d)→cntSs ss≤1000000→StsVB B h v ss→(∀ id,h.next≤id→B id) →
 (∀ h' v',h.le h' → StsVB B h' v' (renSs f g ss)→Q v' h')→CallW Tryz.prog 15 [v,str f,str g] h Q
set_option maxHeartbeats 4000000 in
theorem ren_of {d:Nat} (ih:∀ d',d' < d→RenC d'):RenC d:=by
 intro f g ss B v h Q hI hbd hv hB hq
 have hln:=hv.plain.len
 have hsl:=cnt_len ss
 have hv0:StsVB (fun id=>B id∧id < h.next) h v ss:=hv.to fun id cs own hb hg=>⟨⟨hb,Heap.lt_of_get hg⟩,hg⟩
 replace ih:=Hid.mk ih; replace hv:=Hid.mk hv; replace hB:=Hid.mk hB; replace hv0:=Hid.mk hv0; replace hI:=Hid.mk hI
 refine call_of1 (k:=3) ok15 rfl rfl rfl fun N=>?_
 rw [show env0 c15 [v,str f,str g]=[v,str f,str g,undef,undef,undef,undef,undef,undef] from rfl]
 delta c15 c15_r0 c15_r1 c15_r2 c15_r3 c15_r4 c15_r5 c15_r6 c15_r7 c15_r8 c15_r9 c15_r10 c15_r11 c15_r12 c15_r13 c15_r15 c15_r16 c15_r17 c15_r18 c15_r19 c15_r21
 replace hq:=Hid.mk hq
 repeat' (first | simp -implicitDefEqProofs only [walkL,aR,aW,aBin,aInt,Int.reduceBEq,Int.reduceBNe,Nat.reduceBEq,Int.reduceLT,Int.reduceLE, *] | with_reducible (first | refine kcd ?_ ?_ | refine kgd ?_ ?_ | refine kci ?_ ?_ | refine kgi ?_ ?_)<;>intro hc)
 refine LoopW.upto ss.length (fun i e h3=>∃ vo xs x6 x7 x8,e=[v,str f,str g,nilS,vo,.int .i64 i,x6,x7,x8]∧h.le h3∧OwnS (emptyH h.next) h3 7 vo xs∧StCsB (fun id=>B id∧notOf vo id) h3 (renSs f g (ss.take i)) xs) ?_ (Nat.zero_le _) ⟨nilS,[],_,_,_,rfl,Heap.le.refl _,OwnS.nil _ _ _,by simp only [List.take_zero,renSs]; rfl⟩
 rintro i _ h3 R hi ⟨vo,xs,x6,x7,x8,rfl,l3,ho3,hx3⟩ hR
 delta c15_l20 c15_r0 c15_r1 c15_r2 c15_r3 c15_r4 c15_r5 c15_r6 c15_r7 c15_r8 c15_r9 c15_r10 c15_r11 c15_r12 c15_r13 c15_r15 c15_r16 c15_r17 c15_r18 c15_r19 c15_r21
 by_cases hlt:i < ss.length
 case neg =>
  have hlt' : ¬ (i:Int) < ss.length:=by omega
  rw [List.take_of_length_le (by omega)] at hx3
  have hxl:=hx3.length
  have hll:(renSs f g ss).length=ss.length:=by rw [renSs_map,List.length_map]
  have g:=hq.h h3 vo l3 ⟨xs,SlVB.to (Heap.toB_id fun id hb=>hB.h id hb) (OwnS.slB ho3),by omega,hx3.to (Heap.toB_id fun id hb=>hb.1)⟩
  replace g:=Hid.mk g; replace l3:=Hid.mk l3; replace ho3:=Hid.mk ho3; replace hx3:=Hid.mk hx3
  repeat' (first | simp -implicitDefEqProofs only [walkL,aR,aW,aBin,aInt,Int.reduceBEq,Int.reduceBNe,Nat.reduceBEq,Int.reduceLT,Int.reduceLE, *] | with_reducible (first | refine kcd ?_ ?_ | refine kgd ?_ ?_ | refine kci ?_ ?_ | refine kgi ?_ ?_)<;>intro hc)
  exact g.h
 case pos =>
  have hlt' : (i:Int) < ss.length:=by omega
  have hw:IntKind.i64.wrap ((i:Int) + 1)=((i + 1:Nat):Int):=by rw [wrapI (by omega) (by omega)]; rfl
  obtain ⟨s,he⟩:∃ e,ss[i]? = some e:=⟨_,List.getElem?_eq_getElem hlt⟩
  obtain ⟨ct1,ct2⟩:=cnt_take he
  have ceq:=cntS_eq s
  have lt1:=renSs_take (f:=f) (g:=g) he
  obtain ⟨d',ed,hal,haI,htI,heI⟩:=(hI.h s (List.mem_of_getElem? he)).sub
  obtain ⟨xs0,a1,a2,a3⟩:=hv0.h
  obtain ⟨x,hx,hxs⟩:=a3.get' he
  obtain ⟨id,off,cells,own,e1,e2,e3,_⟩:=(a1.plain.mono l3).elem hx
  obtain ⟨va,vu,vw,rfl,hva,hvu,hvw⟩:=hxs.cells
  have iA:IsS va:=hva.isS
  have iU:IsS vu:=hvu.isS
  have iW:IsS vw:=hvw.isS
  have st:wStore 7 (h3.alloc (.blk zS true)) [.pointer (some ⟨h3.next,0,none⟩),stV s.kind s.name s.src s.n va vu vw]=some (undef,h3.alloc (.blk [.int .i64 s.kind,str s.name,str s.src,.int .i64 s.n,va,vu,vw] true)):=by
   obtain ⟨_,_,_,rfl⟩:=iA; obtain ⟨_,_,_,rfl⟩:=iU; obtain ⟨_,_,_,rfl⟩:=iW; exact wStore_new rfl rfl rfl rfl
  have gq:=Heap.get_alloc_same h3 (.blk [.int .i64 s.kind,str s.name,str s.src,.int .i64 s.n,va,vu,vw] true)
  have lh4:=(Heap.le.refl h3).alloc (.blk [.int .i64 s.kind,str s.name,str s.src,.int .i64 s.n,va,vu,vw] true)
  obtain ⟨q,eq⟩:∃ x_,h3.next=x_:=⟨_,rfl⟩
  obtain ⟨h4,eh4⟩:∃ x_,h3.alloc (.blk [.int .i64 s.kind,str s.name,str s.src,.int .i64 s.n,va,vu,vw] true)=x_:=⟨_,rfl⟩
  rw [eh4] at gq lh4
  rw [eq] at gq
  rw [eh4,eq] at st
  have hqn:h.next≤q:=by have:=l3.next; omega
  have hq3:h3.next=q:=eq
  have l4:=l3.trans lh4
  have es:=eq_S s.name f
  have et:=eq_S s.src f
  have e3' : partL true off 7 cells=some (stV s.kind s.name s.src s.n va vu vw):=e3
  clear a1 a2 a3 hxs e3
  replace l3:=Hid.mk l3; replace ho3:=Hid.mk ho3; replace hx3:=Hid.mk hx3; replace lh4:=Hid.mk lh4; replace l4:=Hid.mk l4; replace hva:=Hid.mk hva; replace hvu:=Hid.mk hvu; replace hvw:=Hid.mk hvw; replace ct1:=Hid.mk ct1; replace ct2:=Hid.mk ct2; replace lt1:=Hid.mk lt1; replace ceq:=Hid.mk ceq; replace hqn:=Hid.mk hqn; replace hq3:=Hid.mk hq3; replace iA:=Hid.mk iA; replace iU:=Hid.mk iU; replace iW:=Hid.mk iW; replace hx:=Hid.mk hx; replace es:=Hid.mk es; replace et:=Hid.mk et; replace hal:=Hid.mk hal; replace haI:=Hid.mk haI; replace htI:=Hid.mk htI; replace heI:=Hid.mk heI; replace ed:=Hid.mk ed
  refine cutH (P:=fun x=>x.get q=some (.blk [.int .i64 s.kind,str (renN f g s.name),str (renN f g s.src),.int .i64 s.n,va,vu,vw] true)∧(∀ i,i≠q→x.get i=h4.get i)∧x.next=h4.next) (G:=?G) ?b ?main
  case b =>
   intro main
   replace main:=Hid.mk main
   have both:∃ hN hM,(if (s.name == f)=true then wStore 1 h4 [.pointer (some ⟨q,1,none⟩),str g]=some (undef,hN) else hN=h4)∧(if (s.src == f)=true then wStore 1 hN [.pointer (some ⟨q,2,none⟩),str g]=some (undef,hM) else hM=hN) ∧
     hN.get q=some (.blk [.int .i64 s.kind,str (renN f g s.name),str s.src,.int .i64 s.n,va,vu,vw] true)∧hM.get q=some (.blk [.int .i64 s.kind,str (renN f g s.name),str (renN f g s.src),.int .i64 s.n,va,vu,vw] true)∧(∀ i,i≠q→hM.get i=h4.get i)∧hM.next=h4.next:=by
    obtain ⟨hN,k1,k2,k3,k4⟩:∃ hN,(if (s.name == f)=true then wStore 1 h4 [.pointer (some ⟨q,1,none⟩),str g]=some (undef,hN) else hN=h4)∧hN.get q=some (.blk [.int .i64 s.kind,str (renN f g s.name),str s.src,.int .i64 s.n,va,vu,vw] true)∧(∀ i,i≠q→hN.get i=h4.get i)∧hN.next=h4.next:=by
     by_cases hm:s.name=f
     ·refine ⟨h4.set q (.blk [.int .i64 s.kind,str g,str s.src,.int .i64 s.n,va,vu,vw] true),?_,?_,fun i hi=>Heap.set_getE _ _ _ _ (by simpa using hi),rfl⟩
      ·rw [if_pos (by simpa using hm)]; exact wStore_one (v:=str g) (off:=1) gq (by simp) rfl rfl
      ·rw [show renN f g s.name=g by unfold renN; rw [if_pos hm]]; exact Heap.set_getS _ _ _ (by rw [gq]; rfl)
     ·refine ⟨h4,by rw [if_neg (by simpa using hm)],?_,fun _ _=>rfl,rfl⟩
      rw [show renN f g s.name=s.name by unfold renN; rw [if_neg hm]]; exact gq
    by_cases hm:s.src=f
    ·refine ⟨hN,hN.set q (.blk [.int .i64 s.kind,str (renN f g s.name),str g,.int .i64 s.n,va,vu,vw] true),k1,?_,k2,?_,fun i hi=>by rw [Heap.set_getE _ _ _ _ (by simpa using hi)]; exact k3 i hi,k4⟩
     ·rw [if_pos (by simpa using hm)]; exact wStore_one (v:=str g) (off:=2) k2 (by simp) rfl rfl
     ·rw [show renN f g s.src=g by unfold renN; rw [if_pos hm]]; exact Heap.set_getS _ _ _ (by rw [k2]; rfl)
    ·refine ⟨hN,hN,k1,by rw [if_neg (by simpa using hm)],k2,?_,k3,k4⟩
     rw [show renN f g s.src=s.src by unfold renN; rw [if_neg hm]]; exact k2
   obtain ⟨hN,hM,k1,k2,gN,gM,kk,kn⟩:=both
   have g1:=main.h hM ⟨gM,kk,kn⟩
   have es':=es.h
   have et':=et.h
   replace g1:=Hid.mk g1
   cases b1:(s.name == f) with
   | true =>
    rw [b1] at k1 es'
    simp only [if_true] at k1
    replace b1:=Hid.mk b1
    cases b2:(s.src == f) with
    | true =>
     rw [b2] at k2 et'
     simp only [if_true] at k2
     replace b2:=Hid.mk b2; replace kk:=Hid.mk kk; replace kn:=Hid.mk kn; replace gM:=Hid.mk gM
     repeat' (first | simp -implicitDefEqProofs only [walkL,aR,aW,aBin,aInt,Int.reduceBEq,Int.reduceBNe,Nat.reduceBEq,Int.reduceLT,Int.reduceLE,partL7, *] | with_reducible (first | refine kcd ?_ ?_ | refine kgd ?_ ?_ | refine kci ?_ ?_ | refine kgi ?_ ?_)<;>intro hc)
     exact g1.h
    | false =>
     rw [b2] at k2 et'
     simp only [Bool.false_eq_true,if_false] at k2
     have k2:=k2.symm
     subst k2
     replace b2:=Hid.mk b2; replace kk:=Hid.mk kk; replace kn:=Hid.mk kn; replace gM:=Hid.mk gM
     repeat' (first | simp -implicitDefEqProofs only [walkL,aR,aW,aBin,aInt,Int.reduceBEq,Int.reduceBNe,Nat.reduceBEq,Int.reduceLT,Int.reduceLE,partL7, *] | with_reducible (first | refine kcd ?_ ?_ | refine kgd ?_ ?_ | refine kci ?_ ?_ | refine kgi ?_ ?_)<;>intro hc)
     exact g1.h
   | false =>
    rw [b1] at k1 es'
    simp only [Bool.false_eq_true,if_false] at k1
    have k1:=k1.symm
    subst k1
    replace b1:=Hid.mk b1
    cases b2:(s.src == f) with
    | true =>
     rw [b2] at k2 et'
     simp only [if_true] at k2
     replace b2:=Hid.mk b2; replace kk:=Hid.mk kk; replace kn:=Hid.mk kn; replace gM:=Hid.mk gM
     repeat' (first | simp -implicitDefEqProofs only [walkL,aR,aW,aBin,aInt,Int.reduceBEq,Int.reduceBNe,Nat.reduceBEq,Int.reduceLT,Int.reduceLE,partL7, *] | with_reducible (first | refine kcd ?_ ?_ | refine kgd ?_ ?_ | refine kci ?_ ?_ | refine kgi ?_ ?_)<;>intro hc)
     exact g1.h
    | false =>
     rw [b2] at k2 et'
     simp only [Bool.false_eq_true,if_false] at k2
     have k2:=k2.symm
     subst k2
     replace b2:=Hid.mk b2; replace kk:=Hid.mk kk; replace kn:=Hid.mk kn; replace gM:=Hid.mk gM
     repeat' (first | simp -implicitDefEqProofs only [walkL,aR,aW,aBin,aInt,Int.reduceBEq,Int.reduceBNe,Nat.reduceBEq,Int.reduceLT,Int.reduceLE,partL7, *] | with_reducible (first | refine kcd ?_ ?_ | refine kgd ?_ ?_ | refine kci ?_ ?_ | refine kgi ?_ ?_)<;>intro hc)
     exact g1.h
  case main =>
   rintro hX ⟨gX,keep,nX⟩
   obtain ⟨mn,hmn⟩:∃ m,renN f g s.name=m:=⟨_,rfl⟩
   obtain ⟨sn,hsn⟩:∃ m,renN f g s.src=m:=⟨_,rfl⟩
   rw [hmn,hsn] at gX
   have lX:h.le hX:=⟨fun i o hg=>by
    rw [keep i (by have:=Heap.lt_of_get hg; have:=hqn.h; omega)]; exact l4.h.get hg,by have h1:=l4.h.next; omega⟩
   have l3X:h3.le hX:=⟨fun i o hg=>by
    rw [keep i (by have:=Heap.lt_of_get hg; have:=hq3.h; omega)]; exact lh4.h.get hg,by have h1:=lh4.h.next; omega⟩
   have qX:=Heap.lt_of_get gX
   have hlA:=hva.h.len
   clear gq eh4 keep
   replace lX:=Hid.mk lX; replace l3X:=Hid.mk l3X; replace nX:=Hid.mk nX; replace hmn:=Hid.mk hmn; replace hsn:=Hid.mk hsn; replace qX:=Hid.mk qX
   refine LoopW.upto s.args.length (fun k en hh=>∃ vb ys,en=[v,str f,str g,nilS,vo,.int .i64 i,ptr q,vb,.int .i64 k]∧hX.le hh∧OwnS (emptyH hX.next) hh 5 vb ys∧ExCsB (fun id=>((B id∧notOf vo id)∧id≠q)∧notOf vb id) hh (renEs f g (s.args.take k)) ys) ?_ (Nat.zero_le _) ⟨nilS,[],rfl,Heap.le.refl _,OwnS.nil _ _ _,by simp only [List.take_zero,renEs]; rfl⟩
   rintro k _ h5 R2 hk ⟨vb,ys,rfl,l5,ho5,hx5⟩ hR2
   delta c15_l14 c15_r0 c15_r1 c15_r2 c15_r3 c15_r4 c15_r5 c15_r6 c15_r7 c15_r8 c15_r9 c15_r10 c15_r11 c15_r12 c15_r13 c15_r15 c15_r16 c15_r17 c15_r18 c15_r19 c15_r21
   have g5:=l5.get gX
   by_cases hkl:k < s.args.length
   case neg =>
    have hkl' : ¬ (k:Int) < s.args.length:=by omega
    rw [List.take_of_length_le (by omega)] at hx5
    have hxl:=hx5.length
    have ov:=ho5.sl
    have iV:IsS vb:=SlV.isS ov
    have s6:wStore 1 h5 [.pointer (some ⟨q,4,none⟩),vb]=some (undef,h5.set q (.blk [.int .i64 s.kind,str mn,str sn,.int .i64 s.n,vb,vu,vw] true)):=by
     obtain ⟨_,_,_,rfl⟩:=iV; exact wStore_one g5 (by simp) rfl rfl
    obtain ⟨h6,eh6⟩:∃ x,h5.set q (.blk [.int .i64 s.kind,str mn,str sn,.int .i64 s.n,vb,vu,vw] true)=x:=⟨_,rfl⟩
    rw [eh6] at s6
    have g6:h6.get q=some (.blk [.int .i64 s.kind,str mn,str sn,.int .i64 s.n,vb,vu,vw] true):=by rw [← eh6]; exact Heap.set_getS _ _ _ (by rw [g5]; rfl)
    have l6:h.le h6:=by rw [← eh6]; exact (lX.h.trans l5).set hqn.h _
    have l36:h3.le h6:=by rw [← eh6]; exact (l3X.h.trans l5).set (by have:=hq3.h; omega) _
    have n56:h6.next=h5.next:=by rw [← eh6]; rfl
    have hvo:∀ id,h3.next≤id→notOf vo id:=fun id hid=>ho3.h.notOf_new hid
    have hB1:∀ id,hX.next≤id→(B id∧notOf vo id)∧id≠q:=fun id hid=>⟨⟨hB.h id (by have:=lX.h.next; omega),hvo id (by have:=l3X.h.next; omega)⟩,by have:=qX.h; omega⟩
    have toN:∀ hN:Heap,h.le hN→Heap.toB (fun id=>B id∧id < h.next) (fun id=>(B id∧notOf vo id)∧id≠q) h hN:=fun hN hl id cs own hb hg=>⟨⟨⟨hb.1,ho3.h.notOf hb.2⟩,by have:=hb.2; have:=hqn.h; omega⟩,hl.get hg⟩
    have tbq:∀ (hN:Heap) (o:AObj),Heap.toB (fun id=>(B id∧notOf vo id)∧id≠q) (fun id=>(B id∧notOf vo id)∧id≠q) hN (hN.set q o):=fun hN o=>Heap.toB_set _ fun id hb=>⟨hb.2,hb⟩
    have hvb5:ExsVB (fun id=>(B id∧notOf vo id)∧id≠q) h5 vb (renEs f g s.args):=⟨ys,SlVB.to (Heap.toB_id fun id hb=>hB1 id hb) (OwnS.slB ho5),by rw [hxl,renEs_map,List.length_map]; have:=hal.h; omega,hx5.to (Heap.toB_id fun id hb=>hb.1)⟩
    have hvb6:ExsVB (fun id=>(B id∧notOf vo id)∧id≠q) h6 vb (renEs f g s.args):=by rw [← eh6]; exact hvb5.to (tbq h5 _)
    have nX6:hX.next≤h6.next:=by rw [n56]; exact l5.next
    clear hR2
    replace l5:=Hid.mk l5; replace ho5:=Hid.mk ho5; replace hx5:=Hid.mk hx5; replace iV:=Hid.mk iV; replace ov:=Hid.mk ov; replace l6:=Hid.mk l6; replace l36:=Hid.mk l36; replace hB1:=Hid.mk hB1; replace toN:=Hid.mk toN; replace tbq:=Hid.mk tbq; replace hvb5:=Hid.mk hvb5; replace hvb6:=Hid.mk hvb6; replace hvo:=Hid.mk hvo
    repeat' (first | simp -implicitDefEqProofs only [walkL,aR,aW,aBin,aInt,Int.reduceBEq,Int.reduceBNe,Nat.reduceBEq,Int.reduceLT,Int.reduceLE, *] | with_reducible (first | refine kcd ?_ ?_ | refine kgd ?_ ?_ | refine kci ?_ ?_ | refine kgi ?_ ?_)<;>intro hc)
    refine ih.h d' (by have:=ed.h; omega) f g s.thn _ vu h6 _ htI.h (by have:=ceq.h; have:=ct2.h; omega) (hvu.h.to (toN.h h6 l6.h)) (fun id hid=>hB1.h id (by omega)) fun h7 w5 l7 hw5=>?_
    have g7:=l7.get g6
    have i5:IsS w5:=hw5.isS
    have s8:wStore 1 h7 [.pointer (some ⟨q,5,none⟩),w5]=some (undef,h7.set q (.blk [.int .i64 s.kind,str mn,str sn,.int .i64 s.n,vb,w5,vw] true)):=by
     obtain ⟨_,_,_,rfl⟩:=i5; exact wStore_one g7 (by simp) rfl rfl
    obtain ⟨h8,eh8⟩:∃ x,h7.set q (.blk [.int .i64 s.kind,str mn,str sn,.int .i64 s.n,vb,w5,vw] true)=x:=⟨_,rfl⟩
    rw [eh8] at s8
    have g8:h8.get q=some (.blk [.int .i64 s.kind,str mn,str sn,.int .i64 s.n,vb,w5,vw] true):=by rw [← eh8]; exact Heap.set_getS _ _ _ (by rw [g7]; rfl)
    have l8:h.le h8:=by rw [← eh8]; exact (l6.h.trans l7).set hqn.h _
    have l38:h3.le h8:=by rw [← eh8]; exact (l36.h.trans l7).set (by have:=hq3.h; omega) _
    have hvb8:ExsVB (fun id=>(B id∧notOf vo id)∧id≠q) h8 vb (renEs f g s.args):=by rw [← eh8]; exact (hvb6.h.to (l7.toB fun id h=>h)).to (tbq.h h7 _)
    have hw58:StsVB (fun id=>(B id∧notOf vo id)∧id≠q) h8 w5 (renSs f g s.thn):=by rw [← eh8]; exact hw5.to (tbq.h h7 _)
    have nX8:hX.next≤h8.next:=by have:=l7.next; rw [← eh8]; show _≤h7.next; omega
    clear eh6 eh8
    replace l7:=Hid.mk l7; replace hw5:=Hid.mk hw5; replace l8:=Hid.mk l8; replace l38:=Hid.mk l38; replace hvb8:=Hid.mk hvb8; replace hw58:=Hid.mk hw58; replace i5:=Hid.mk i5
    repeat' (first | simp -implicitDefEqProofs only [walkL,aR,aW,aBin,aInt,Int.reduceBEq,Int.reduceBNe,Nat.reduceBEq,Int.reduceLT,Int.reduceLE, *] | with_reducible (first | refine kcd ?_ ?_ | refine kgd ?_ ?_ | refine kci ?_ ?_ | refine kgi ?_ ?_)<;>intro hc)
    refine ih.h d' (by have:=ed.h; omega) f g s.els _ vw h8 _ heI.h (by have:=ceq.h; have:=ct2.h; omega) (hvw.h.to (toN.h h8 l8.h)) (fun id hid=>hB1.h id (by omega)) fun h9 w7 l9 hw7=>?_
    have g9:=l9.get g8
    have i7:IsS w7:=hw7.isS
    have s10:wStore 1 h9 [.pointer (some ⟨q,6,none⟩),w7]=some (undef,h9.set q (.blk [.int .i64 s.kind,str mn,str sn,.int .i64 s.n,vb,w5,w7] true)):=by
     obtain ⟨_,_,_,rfl⟩:=i7; exact wStore_one g9 (by simp) rfl rfl
    obtain ⟨h10,eh10⟩:∃ x,h9.set q (.blk [.int .i64 s.kind,str mn,str sn,.int .i64 s.n,vb,w5,w7] true)=x:=⟨_,rfl⟩
    rw [eh10] at s10
    have g10:h10.get q=some (.blk [.int .i64 s.kind,str mn,str sn,.int .i64 s.n,vb,w5,w7] true):=by rw [← eh10]; exact Heap.set_getS _ _ _ (by rw [g9]; rfl)
    have l10:h.le h10:=by rw [← eh10]; exact (l8.h.trans l9).set hqn.h _
    have l310:h3.le h10:=by rw [← eh10]; exact (l38.h.trans l9).set (by have:=hq3.h; omega) _
    have tb10:Heap.toB (fun id=>(B id∧notOf vo id)∧id≠q) (fun id=>B id∧notOf vo id) h9 h10:=by rw [← eh10]; exact Heap.toB_set _ fun id hb=>⟨hb.2,hb.1⟩
    have hy:StCB (fun id=>B id∧notOf vo id) h10 (renS f g s) [.int .i64 s.kind,str mn,str sn,.int .i64 s.n,vb,w5,w7]:=by
     rw [renS_eq,hmn.h,hsn.h]
     exact StCB.of ((hvb8.h.to (l9.toB fun id h=>h)).to tb10) ((hw58.h.to (l9.toB fun id h=>h)).to tb10) (hw7.to tb10)
    have ho10:OwnS (emptyH h.next) h10 7 vo xs:=ho3.h.get fun id hv hs=>l310.getE id hs
    have hx10:StCsB (fun id=>B id∧notOf vo id) h10 (renSs f g (ss.take i)) xs:=hx3.h.to (l310.toB fun id h=>h)
    have hxl10:=hx10.length
    have hll:(renSs f g (ss.take i)).length≤ss.length:=by rw [renSs_map,List.length_map,List.length_take]; omega
    obtain ⟨v',h11,ap,ho11,le11,k11,n11,nx11⟩:=ho10.append1 (x:=[.int .i64 s.kind,str mn,str sn,.int .i64 s.n,vb,w5,w7]) (emptyH_le l10.next) rfl (by omega) (b:=120) (by omega) (by omega)
    have u:=bs_st1 hy.ones
    have hkk:Heap.toB (fun id=>B id∧notOf vo id) (fun id=>B id∧notOf v' id) h10 h11:=fun id cs own hb hg=>⟨⟨hb.1,n11 id (by rw [hg]; rfl)⟩,by rw [k11 id (by rw [hg]; rfl) hb.2]; exact hg⟩
    have hx11:StCsB (fun id=>B id∧notOf v' id) h11 (renSs f g (ss.take (i + 1))) (xs++[[.int .i64 s.kind,str mn,str sn,.int .i64 s.n,vb,w5,w7]]):=by rw [lt1.h]; exact StCsB.snoc (hy.to hkk) (hx10.to hkk)
    have l11:h.le h11:=⟨fun id o hg=>by
     have h1:=l10.get hg
     rw [k11 id (by rw [h1]; rfl) (ho10.notOf (Heap.lt_of_get hg))]; exact h1,Nat.le_trans l10.next nx11⟩
    have gg:=fun a b c=>hR.h [v,str f,str g,nilS,v',.int .i64 (i + 1:Nat),a,b,c] h11 hlt ⟨v',_,a,b,c,rfl,l11,ho11,hx11⟩
    clear ih hq hR tb10 eh10
    replace gg:=Hid.mk gg; replace l9:=Hid.mk l9; replace hw7:=Hid.mk hw7; replace l10:=Hid.mk l10; replace l310:=Hid.mk l310; replace hy:=Hid.mk hy; replace ho10:=Hid.mk ho10; replace hx10:=Hid.mk hx10; replace hkk:=Hid.mk hkk; replace hx11:=Hid.mk hx11; replace l11:=Hid.mk l11; replace k11:=Hid.mk k11; replace n11:=Hid.mk n11; replace ho11:=Hid.mk ho11; replace le11:=Hid.mk le11; replace i7:=Hid.mk i7
    repeat' (first | simp -implicitDefEqProofs only [walkL,aR,aW,aBin,aInt,Int.reduceBEq,Int.reduceBNe,Nat.reduceBEq,Int.reduceLT,Int.reduceLE,partL7, *] | with_reducible (first | refine kcd ?_ ?_ | refine kgd ?_ ?_ | refine kci ?_ ?_ | refine kgi ?_ ?_)<;>intro hc)
    exact gg.h _ _ _
   case pos =>
    have hkl' : (k:Int) < s.args.length:=by omega
    have hwk:IntKind.i64.wrap ((k:Int) + 1)=((k + 1:Nat):Int):=by have:=hal.h; rw [wrapI (by omega) (by omega)]; rfl
    obtain ⟨a,hea⟩:∃ a,s.args[k]? = some a:=⟨_,List.getElem?_eq_getElem hkl⟩
    have etk:=renEs_take (f:=f) (g:=g) hea
    obtain ⟨xs0,a1,a2,a3⟩:=hva.h
    obtain ⟨x,hxa,hxs⟩:=a3.get hea
    have l05:=lX.h.trans l5
    obtain ⟨ida,offa,cellsa,owna,f1,f2,f3,_⟩:=(a1.plain.mono l05).elem hxa
    obtain ⟨vc,rfl,hvc⟩:=hxs.cells
    have f3' : partL true offa 5 cellsa=some (exV a.kind a.op a.n a.name vc):=f3
    have hvo:∀ id,h3.next≤id→notOf vo id:=fun id hid=>ho3.h.notOf_new hid
    have hB1:∀ id,hX.next≤id→(B id∧notOf vo id)∧id≠q:=fun id hid=>⟨⟨hB.h id (by have:=lX.h.next; omega),hvo id (by have:=l3X.h.next; omega)⟩,by have:=qX.h; omega⟩
    have hB' : ∀ id,h5.next≤id→((B id∧notOf vo id)∧id≠q)∧notOf vb id:=fun id hid=>⟨hB1 id (by have:=l5.next; omega),ho5.notOf_new hid⟩
    have hxb:ExCB (fun id=>((B id∧notOf vo id)∧id≠q)∧notOf vb id) h5 a [.int .i64 a.kind,.int .i64 a.op,.int .i64 a.n,str a.name,vc]:=hxs.to fun id cs own hb hg=>⟨⟨⟨⟨hb.1,ho3.h.notOf hb.2⟩,by have:=hb.2; have:=hqn.h; omega⟩,ho5.notOf (by have:=hb.2; have:=lX.h.next; show id < hX.next; omega)⟩,l05.get hg⟩
    clear f3 a1 a2 a3
    replace l5:=Hid.mk l5; replace ho5:=Hid.mk ho5; replace hx5:=Hid.mk hx5; replace hxs:=Hid.mk hxs; replace hvc:=Hid.mk hvc; replace hvo:=Hid.mk hvo; replace hB1:=Hid.mk hB1; replace hB':=Hid.mk hB'; replace hxb:=Hid.mk hxb; replace etk:=Hid.mk etk; replace l05:=Hid.mk l05; replace hea:=Hid.mk hea; replace hxa:=Hid.mk hxa
    repeat' (first | simp -implicitDefEqProofs only [walkL,aR,aW,aBin,aInt,Int.reduceBEq,Int.reduceBNe,Nat.reduceBEq,Int.reduceLT,Int.reduceLE,partL5, *] | with_reducible (first | refine kcd ?_ ?_ | refine kgd ?_ ?_ | refine kci ?_ ?_ | refine kgi ?_ ?_)<;>intro hc)
    refine namedE_c 30 f g a _ _ h5 _ (haI.h a (List.mem_of_getElem? hea.h)) hxb.h hB'.h fun h6 y l6 hy=>?_
    have ho6:OwnS (emptyH hX.next) h6 5 vb ys:=ho5.h.get fun id hv hs=>l6.getE id hs
    have hx6:=hx5.h.to (l6.toB fun id hb=>hb)
    have hxl:=hx6.length
    have hll:(renEs f g (s.args.take k)).length≤2:=by rw [renEs_map,List.length_map,List.length_take]; have:=hal.h; omega
    obtain ⟨v',h7,ap,ho7,le7,k7,n7,nx7⟩:=ho6.append1 (x:=y) (emptyH_le (by have:=l5.h.next; have:=l6.next; show hX.next≤h6.next; omega)) hy.ones.1 (by omega) (b:=64) (by omega) (by omega)
    have u:=bs_ex1 hy.ones
    have hkk:Heap.toB (fun id=>((B id∧notOf vo id)∧id≠q)∧notOf vb id) (fun id=>((B id∧notOf vo id)∧id≠q)∧notOf v' id) h6 h7:=fun id cs own hb hg=>⟨⟨hb.1,n7 id (by rw [hg]; rfl)⟩,by rw [k7 id (by rw [hg]; rfl) hb.2]; exact hg⟩
    have hx7:ExCsB (fun id=>((B id∧notOf vo id)∧id≠q)∧notOf v' id) h7 (renEs f g (s.args.take (k + 1))) (ys++[y]):=by rw [etk.h]; exact ExCsB.snoc (hy.to hkk) (hx6.to hkk)
    have l7:hX.le h7:=⟨fun id o hg=>by
     have h1:=(l5.h.trans l6).get hg
     rw [k7 id (by rw [h1]; rfl) (ho5.h.notOf (Heap.lt_of_get hg))]; exact h1,by have:=(l5.h.trans l6).next; omega⟩
    have gg:=hR2.h [v,str f,str g,nilS,vo,.int .i64 i,ptr q,v',.int .i64 (k + 1:Nat)] h7 hkl ⟨v',_,rfl,l7,ho7,hx7⟩
    clear ih hq hR hR2
    replace gg:=Hid.mk gg; replace l6:=Hid.mk l6; replace hy:=Hid.mk hy; replace ho6:=Hid.mk ho6; replace hx6:=Hid.mk hx6; replace hkk:=Hid.mk hkk; replace hx7:=Hid.mk hx7; replace l7:=Hid.mk l7; replace k7:=Hid.mk k7; replace n7:=Hid.mk n7; replace ho7:=Hid.mk ho7; replace le7:=Hid.mk le7
    repeat' (first | simp -implicitDefEqProofs only [walkL,aR,aW,aBin,aInt,Int.reduceBEq,Int.reduceBNe,Nat.reduceBEq,Int.reduceLT,Int.reduceLE, *] | with_reducible (first | refine kcd ?_ ?_ | refine kgd ?_ ?_ | refine kci ?_ ?_ | refine kgi ?_ ?_)<;>intro hc)
    exact gg.h
theorem ren_c (d:Nat):RenC d:=Nat.strongRecOn d fun _ ih=>ren_of ih
end Go.Eng.Sy
namespace Go.Eng
open Go
theorem flatten_set1 {s:Nat}:∀ {xs:List (List Value)},(∀ x ∈ xs,x.length=s) → ∀ {i j:Nat} {x:List Value} (u:Value),xs[i]? = some x→j < s→xs.flatten.set (i * s + j) u=(xs.set i (x.set j u)).flatten∧xs.flatten[i * s + j]? = x[j]?
 | [],_,i,j,x,u,h,_=>by simp at h
 | y::ys,hx,0,j,x,u,h,hj=>by
  have:=hx y (by simp)
  simp only [List.getElem?_cons_zero,Option.some.injEq] at h
  subst h; subst this
  simp only [Nat.zero_mul,Nat.zero_add,List.flatten_cons,List.set_cons_zero]
  rw [List.set_append_left _ _ hj,List.getElem?_append_left hj]
  exact ⟨rfl,rfl⟩
 | y::ys,hx,i + 1,j,x,u,h,hj=>by
  have e:=hx y (by simp)
  obtain ⟨a,b⟩:=flatten_set1 (fun z (hz:z ∈ ys)=>hx z (List.mem_cons_of_mem _ hz)) u (by simpa using h) hj
  have e2:(i + 1) * s + j=y.length + (i * s + j):=by rw [Nat.succ_mul,e]; omega
  simp only [List.flatten_cons,List.set_cons_succ]
  rw [e2,List.set_append_right _ _ (by omega),List.getElem?_append_right (by omega)]
  rw [show y.length + (i * s + j) - y.length=i * s + j by omega,a,b]
  exact ⟨rfl,rfl⟩
theorem OwnS.put1 {h0 h:Heap} {s:Nat} {v:Value} {xs:List (List Value)} (ha:OwnS h0 h s v xs) (hs:s≠1) {i j:Nat} {x:List Value} (hi:xs[i]? = some x) (hj:j < s) :
  ∃ id,v = .slice (some ⟨id,0,none⟩) xs.length s∧h.get id=some (.blk xs.flatten true)∧pIdxAddrS s [v,.int .i64 (i:Int)]=some (.pointer (some ⟨id,i * s,none⟩))∧xs.flatten[i * s + j]? = x[j]? ∧
   ∀ u:Value,u.cells.toList=[u]→u.oneCell' = true→wStore 1 h [.pointer (some ⟨id,i * s + j,none⟩),u]=some (undef,h.set id (.blk (xs.set i (x.set j u)).flatten true))∧OwnS h0 (h.set id (.blk (xs.set i (x.set j u)).flatten true)) s v (xs.set i (x.set j u)):=by
 obtain ⟨id,e1,e2,e3,e4,e5⟩:=ha.at hs hi
 rcases ha with ⟨_,rfl⟩ | ⟨id',hv',hi0,hg,hx⟩
 ·simp at hi
 have e:id' = id:=by rw [hv'] at e1; cases e1; rfl
 subst e
 have hlt:i < xs.length:=(List.getElem?_eq_some_iff.1 hi).1
 have hxl:=hx x (List.mem_of_getElem? hi)
 obtain ⟨_,b⟩:=flatten_set1 hx (i:=i) (j:=j) undef hi hj
 refine ⟨id',e1,e3,e4,b,fun u c1 c2=>?_⟩
 obtain ⟨a,_⟩:=flatten_set1 hx (i:=i) (j:=j) u hi hj
 have hb:i * s + j < xs.flatten.length:=by
  have h2:xs.flatten[i * s + j]? ≠ none:=by rw [b]; simp; omega
  simpa using h2
 constructor
 ·rw [wStore_one e3 hb c1 c2,a]
 ·refine .inr ⟨id',by rw [hv',List.length_set],hi0,Heap.set_getS _ _ _ (by rw [hg]; rfl),fun z hz=>?_⟩
  rcases List.mem_or_eq_of_mem_set hz with hz | rfl
  ·exact hx z hz
  ·rw [List.length_set]; exact hxl
end Go.Eng
namespace Go.Eng.Sy
open Go Go.Eng Go.Proofs
theorem mix_get {α:Type} (r:α→α) {l:List α} {i:Nat} {a:α} (hi:l[i]? = some a):((l.take i).map r++l.drop i)[i]? = some a∧((l.take i).map r++l.drop i).set i (r a)=(l.take (i + 1)).map r++l.drop (i + 1):=by
 have hlt:=(List.getElem?_eq_some_iff.1 hi).1
 have hl:((l.take i).map r).length=i:=by rw [List.length_map,List.length_take]; omega
 have hd:l.drop i=a::l.drop (i + 1):=by
  rw [List.drop_eq_getElem_cons hlt]; congr 1
  have:=(List.getElem?_eq_some_iff.1 hi).2; exact this
 constructor
 ·rw [List.getElem?_append_right (by omega),hl,Nat.sub_self,hd]; rfl
 ·rw [List.set_append_right _ _ (by omega),hl,Nat.sub_self,hd,List.set_cons_zero,List.take_add_one,hi]; simp
theorem nm_step {m:Nat} {h:Heap} {v:Value} {l:List Nm} {f g:List UInt8} {i:Nat} {d:Nm} (hi:l[i]? = some d) (ho:OwnS (emptyH m) h 2 v (((l.take i).map (renNm f g)++l.drop i).map nmC)) :
  ∃ id cells h',v = .slice (some ⟨id,0,none⟩) l.length 2∧pIdxAddrS 2 [v,.int .i64 (i:Int)]=some (.pointer (some ⟨id,i * 2,none⟩))∧h.get id=some (.blk cells true)∧cells[i * 2]? = some (str d.name) ∧
   (d.name=f→wStore 1 h [.pointer (some ⟨id,i * 2,none⟩),str g]=some (undef,h'))∧(d.name≠f→h' = h)∧OwnS (emptyH m) h' 2 v (((l.take (i + 1)).map (renNm f g)++l.drop (i + 1)).map nmC)∧(∀ j,notOf v j→h'.get j=h.get j)∧h'.next=h.next:=by
 obtain ⟨a1,a2⟩:=mix_get (renNm f g) hi
 have hlt:=(List.getElem?_eq_some_iff.1 hi).1
 have hx:(((l.take i).map (renNm f g)++l.drop i).map nmC)[i]? = some (nmC d):=by rw [List.getElem?_map,a1]; rfl
 obtain ⟨id,e1,e2,e3,e4,e5⟩:=ho.put1 (by decide) hx (j:=0) (by omega)
 have el:(((l.take i).map (renNm f g)++l.drop i).map nmC).length=l.length:=by simp; omega
 rw [el] at e1
 by_cases hm:d.name=f
 ·obtain ⟨s1,s2⟩:=e5 (str g) rfl rfl
  have er:(((l.take i).map (renNm f g)++l.drop i).map nmC).set i ((nmC d).set 0 (str g))=((l.take (i + 1)).map (renNm f g)++l.drop (i + 1)).map nmC:=by
   rw [← a2,List.map_set]; congr 1; simp [nmC,renNm,renN,hm]
  rw [er] at s1 s2
  exact ⟨id,_,_,e1,e3,e2,by simpa [nmC] using e4,fun _=>by simpa using s1,fun h=>absurd hm h,s2,fun j hj=>Heap.set_getE _ _ _ _ (by simpa using fun e:j=id=>hj l.length 2 (by rw [e]; exact e1)),rfl⟩
 ·have er:((l.take (i + 1)).map (renNm f g)++l.drop (i + 1)).map nmC=((l.take i).map (renNm f g)++l.drop i).map nmC:=by
   rw [← a2]
   have:renNm f g d=d:=by unfold renNm renN; rw [if_neg hm]
   rw [this]
   congr 1
   exact List.ext_getElem? fun j=>by
    rw [List.getElem?_set]; split
    ·rename_i h; subst h; rw [a1]; simp; omega
    ·rfl
  exact ⟨id,_,h,e1,e3,e2,by simpa [nmC] using e4,fun h=>absurd h hm,fun _=>rfl,by rw [er]; exact ho,fun _ _=>rfl,rfl⟩
theorem bs_s6 (a b c d e f:List UInt8):aBslice [.string ⟨#[]⟩,.string ⟨#[]⟩,.string ⟨#[]⟩,.string ⟨#[]⟩,.string ⟨#[]⟩,.string ⟨#[]⟩] [(0,1),(1,1),(2,1),(3,1),(4,1),(5,1)] 6 1 [str a,str b,str c,str d,str e,str f]=some ([str a,str b,str c,str d,str e,str f],fun id=>.slice (some ⟨id,0,none⟩) 6 1):=bslice_ones rfl rfl rfl (by simp [Value.cells,Value.oneCell'])
def fromL:List (List UInt8):=[[100],[114,97],[120],[121],[116,97],[114,98]]
theorem fromL_ok:∀ f ∈ fromL,f≠[]∧f≠[111,116,104,101,114]:=by decide
theorem own_clone {m:Nat} {h:Heap} {s b:Nat} {v:Value} {xs:List (List Value)} (hv:SlV h s v xs) (hs:0 < s) (hl:xs.length≤1000) (hb:b≤1000) (hm:m≤h.next) :
  ∃ va ha,wAppend s b h [nilS,v]=some (va,ha)∧OwnS (emptyH m) ha s va xs∧h.le ha ∧ ∀ i,(h.get i).isSome=true→notOf va i:=by
 have hb2:xs.length * b≤1000 * 1000:=Nat.mul_le_mul hl hb
 obtain ⟨va,ha,a1,o1,l1,k1,n1,x1⟩:=(OwnS.nil (emptyH m) h s).append (emptyH_le hm) hv hs (b:=b) (by simp; omega) (by simp; omega)
 exact ⟨va,ha,a1,by simpa using o1,⟨fun i o hg=>by rw [k1 i (by rw [hg]; rfl) (notOf_nil i)]; exact hg,x1⟩,fun i hs=>n1 i hs (notOf_nil i)⟩
def sepS (v w:Value):Prop:=∀ id a b,w = .slice (some ⟨id,0,none⟩) a b→notOf v id
theorem own_sep {h0 h:Heap} {s:Nat} {v w:Value} {xs:List (List Value)} (ho:OwnS h0 h s v xs) (hw:∀ i,(h.get i).isSome=true→notOf w i):sepS v w∧sepS w v :=
 ⟨fun id a b e a' b' e2=>hw id (ho.blk_lt id _ _ e2).2 a b e,fun id a b e=>hw id (ho.blk_lt id _ _ e).2⟩
theorem own_keep {h0 h h' : Heap} {s:Nat} {v w:Value} {xs:List (List Value)} (ho:OwnS h0 h s w xs) (hs:sepS v w) (hk:∀ j,notOf v j→h'.get j=h.get j):OwnS h0 h' s w xs:=ho.get fun id hv _=>hk id (hs id _ _ hv)
theorem le_keep {m:Nat} {h h' hX:Heap} {s:Nat} {v:Value} {xs:List (List Value)} (ho:OwnS (emptyH m) h s v xs) (hk:∀ j,notOf v j→h'.get j=h.get j) (hn:h'.next=h.next) (hl:hX.le h) (hm:hX.next≤m):hX.le h':=⟨fun i o hg=>by
 rw [hk i (ho.notOf (by have:=Heap.lt_of_get hg; show i < m; omega))]; exact hl.get hg,by rw [hn]; exact hl.next⟩
end Go.Eng.Sy
namespace Go.Eng.Sy
open Go Go.Eng Go.Proofs
set_option maxHeartbeats 4000000 in
theorem RuleNames_c {h:Heap} {v:Value} {raw:List Int} (hv:Ints h v raw) (hin:∀ z ∈ raw,inI z) {z1:Int} (j1:inI z1) (Q:Value→Heap→Prop) (hq:∀ h',Q (.bool true) h'):CallW Tryz.prog 7 [v,.int .i64 z1] h Q:=by
 replace hv:=Hid.mk hv
 refine call_of1 (k:=2) ok7 rfl rfl rfl fun N=>?_
 rw [show env0 c7 [v,.int .i64 z1]=[v,.int .i64 z1,undef,undef,undef,undef,undef,undef,undef,undef,undef] from rfl]
 delta c7 c7_r0 c7_r1 c7_r2 c7_r3 c7_r4 c7_r5 c7_r6 c7_r7 c7_r8 c7_r9 c7_r10 c7_r11 c7_r12 c7_r14 c7_r15 c7_r16 c7_r17 c7_r18 c7_r20 c7_r21 c7_r22 c7_r23 c7_r24 c7_r25 c7_r27 c7_r28
 replace hq:=Hid.mk hq
 repeat' (first | simp -implicitDefEqProofs only [walkL,aR,aW,aBin,aInt,Int.reduceBEq,Int.reduceBNe,Nat.reduceBEq,Int.reduceLT,Int.reduceLE, *] | with_reducible (first | refine kcd ?_ ?_ | refine kgd ?_ ?_ | refine kci ?_ ?_ | refine kgi ?_ ?_)<;>intro hc)
 refine awake_c _ _ ?_
 repeat' (first | simp -implicitDefEqProofs only [walkL,aR,aW,aBin,aInt,Int.reduceBEq,Int.reduceBNe,Nat.reduceBEq,Int.reduceLT,Int.reduceLE, *] | with_reducible (first | refine kcd ?_ ?_ | refine kgd ?_ ?_ | refine kci ?_ ?_ | refine kgi ?_ ?_)<;>intro hc)
 refine Prog_c hv.h hin false _ fun h1 d r t xs l1 hm=>?_
 obtain ⟨iD,iR,iT⟩:=hm.isS
 obtain ⟨nd,nr,H,nh,hf⟩:=progL_facts raw
 obtain ⟨fn,fb⟩:=progL_fre raw hf
 have hg:=progL_good raw false
 generalize progL raw false=p at *
 have st:=st_PA h1 p.harts iD iR iT
 obtain ⟨n,hn⟩:∃ n,h.next=n:=⟨_,rfl⟩
 rw [hn] at hm
 have hn1:n≤h1.next:=by rw [← hn]; exact l1.next
 have gq:=Heap.get_alloc_same h1 (.blk [.int .i64 p.harts,d,r,t] true)
 have lh2:=(Heap.le.refl h1).alloc (.blk [.int .i64 p.harts,d,r,t] true)
 obtain ⟨q,eq⟩:∃ x_,h1.next=x_:=⟨_,rfl⟩
 obtain ⟨h2,eh2⟩:∃ x_,h1.alloc (.blk [.int .i64 p.harts,d,r,t] true)=x_:=⟨_,rfl⟩
 rw [eh2] at gq lh2
 rw [eq] at gq
 rw [eh2,eq] at st
 have hm2:=hm.le lh2
 have xl:xs.length=p.tasks.length:=hm2.hts.length
 have b3:=hg.tl
 have rl:p.ress.length≤2:=by
  have:=congrArg List.length hf.rn
  rw [List.length_map,List.length_take] at this
  have:=hf.b2
  omega
 have dl:p.devs.length≤3:=by
  have:=congrArg List.length hf.dn
  rw [List.length_map,List.length_take] at this
  have:=hf.b1
  omega
 have r6:=pick_range j1 (n:=(6:Int)) (by omega)
 obtain ⟨k,hk⟩:∃ k:Nat,pick z1 6=(k:Int):=⟨(pick z1 6).toNat,by omega⟩
 have hk6:k < fromL.length:=by show k < 6; omega
 obtain ⟨f,hfr⟩:∃ f,fromL[k]? = some f:=⟨_,List.getElem?_eq_getElem hk6⟩
 obtain ⟨f0,fg⟩:=fromL_ok f (List.mem_of_getElem? hfr)
 clear r6 hm
 have hn2:n≤h2.next:=Nat.le_trans hn1 lh2.next
 have bi:=bs_s6 [100] [114,97] [120] [121] [116,97] [114,98]
 have gq3:=Heap.get_alloc_same h2 (.blk [str [100],str [114,97],str [120],str [121],str [116,97],str [114,98]] true)
 have lh3:=(Heap.le.refl h2).alloc (.blk [str [100],str [114,97],str [120],str [121],str [116,97],str [114,98]] true)
 obtain ⟨q3,eq3⟩:∃ x_,h2.next=x_:=⟨_,rfl⟩
 obtain ⟨h3,eh3⟩:∃ x_,h2.alloc (.blk [str [100],str [114,97],str [120],str [121],str [116,97],str [114,98]] true)=x_:=⟨_,rfl⟩
 rw [eh3] at gq3 lh3
 rw [eq3] at gq3
 have gqh3:=lh3.get gq
 have ixk:pIdxAddrS 1 [.slice (some ⟨q3,0,none⟩) 6 1,.int .i64 k]=some (.pointer (some ⟨q3,k,none⟩)):=by
  have:(k:Int) < 6:=by have h6:fromL.length=6:=rfl; omega
  simp [pIdxAddrS,this]
 have gfr:[str [100],str [114,97],str [120],str [121],str [116,97],str [114,98]][k]? = some (str f):=by
  have e:[str [100],str [114,97],str [120],str [121],str [116,97],str [114,98]]=fromL.map str:=rfl
  rw [e,List.getElem?_map,hfr]; rfl
 have st3:=st_PA h3 p.harts iD iR iT
 obtain ⟨m,hm0⟩:∃ m,h3.next=m:=⟨_,rfl⟩
 replace l1:=Hid.mk l1; replace hm2:=Hid.mk hm2; replace hf:=Hid.mk hf; replace hg:=Hid.mk hg; replace lh2:=Hid.mk lh2; replace lh3:=Hid.mk lh3; replace hk:=Hid.mk hk; replace iD:=Hid.mk iD; replace iR:=Hid.mk iR; replace iT:=Hid.mk iT; replace hn2:=Hid.mk hn2; replace hfr:=Hid.mk hfr; replace f0:=Hid.mk f0; replace fg:=Hid.mk fg; replace fn:=Hid.mk fn; replace fb:=Hid.mk fb; replace hm0:=Hid.mk hm0
 repeat' (first | simp -implicitDefEqProofs only [walkL,aR,aW,aBin,aInt,Int.reduceBEq,Int.reduceBNe,Nat.reduceBEq,Int.reduceLT,Int.reduceLE, *] | with_reducible (first | refine kcd ?_ ?_ | refine kgd ?_ ?_ | refine kci ?_ ?_ | refine kgi ?_ ?_)<;>intro hc)
 refine pick8_c _ _ (by decide) _ _ ?_
 rw [hk.h]
 repeat' (first | simp -implicitDefEqProofs only [walkL,aR,aW,aBin,aInt,Int.reduceBEq,Int.reduceBNe,Nat.reduceBEq,Int.reduceLT,Int.reduceLE,partL4, *] | with_reducible (first | refine kcd ?_ ?_ | refine kgd ?_ ?_ | refine kci ?_ ?_ | refine kgi ?_ ?_)<;>intro hc)
 have gqq:=Heap.get_alloc_same h3 (.blk [.int .i64 p.harts,d,r,t] true)
 have lh4:=(Heap.le.refl h3).alloc (.blk [.int .i64 p.harts,d,r,t] true)
 obtain ⟨qq,eqq⟩:∃ x_,h3.next=x_:=⟨_,rfl⟩
 obtain ⟨h4,eh4⟩:∃ x_,h3.alloc (.blk [.int .i64 p.harts,d,r,t] true)=x_:=⟨_,rfl⟩
 rw [eh4] at gqq lh4
 rw [eqq] at gqq
 rw [eh4,eqq] at st3
 have gq4:=lh4.get gqh3
 have m4:m≤h4.next:=by have:=lh4.next; have:=hm0.h; omega
 have hqm:m≤qq:=by have:=hm0.h; omega
 have hm4:=hm2.h.le (lh3.h.trans lh4)
 -- the devices
 obtain ⟨vd,hA,apd,od,lA,nvd⟩:=own_clone (m:=m) (b:=24) hm4.hd.plain (by omega) (by simp; omega) (by omega) m4
 have iVd:IsS vd:=SlV.isS od.sl
 have gqA:=lA.get gqq
 have s5:wStore 1 hA [.pointer (some ⟨qq,1,none⟩),vd]=some (undef,hA.set qq (.blk [.int .i64 p.harts,vd,r,t] true)):=by
  obtain ⟨_,_,_,rfl⟩:=iVd; exact wStore_one gqA (by simp) rfl rfl
 obtain ⟨h5,eh5⟩:∃ x,hA.set qq (.blk [.int .i64 p.harts,vd,r,t] true)=x:=⟨_,rfl⟩
 rw [eh5] at s5
 have gqh5:h5.get qq=some (.blk [.int .i64 p.harts,vd,r,t] true):=by rw [← eh5]; exact Heap.set_getS _ _ _ (by rw [gqA]; rfl)
 have nvdq:notOf vd qq:=nvd qq (by rw [gqq]; rfl)
 have od5:OwnS (emptyH m) h5 2 vd (p.devs.map nmC):=od.get fun id hv hs=>by rw [← eh5,Heap.set_getE _ _ _ _ (by simpa using fun e:id=qq=>nvdq _ _ (by rw [hv,e]))]
 have l35:h3.le h5:=by rw [← eh5]; exact (lh4.trans lA).set (by have:=hm0.h; omega) _
 have n45:h4.next≤h5.next:=by rw [← eh5]; exact lA.next
 have hm5:=hm2.h.le (lh3.h.trans l35)
 -- the resources
 obtain ⟨vr,hB,apr,or,lB,nvr⟩:=own_clone (m:=m) (b:=24) hm5.hr.plain (by omega) (by simp; omega) (by omega) (by omega)
 have iVr:IsS vr:=SlV.isS or.sl
 have gqB:=lB.get gqh5
 have s6:wStore 1 hB [.pointer (some ⟨qq,2,none⟩),vr]=some (undef,hB.set qq (.blk [.int .i64 p.harts,vd,vr,t] true)):=by
  obtain ⟨_,_,_,rfl⟩:=iVr; exact wStore_one gqB (by simp) rfl rfl
 obtain ⟨h6,eh6⟩:∃ x,hB.set qq (.blk [.int .i64 p.harts,vd,vr,t] true)=x:=⟨_,rfl⟩
 rw [eh6] at s6
 have gqh6:h6.get qq=some (.blk [.int .i64 p.harts,vd,vr,t] true):=by rw [← eh6]; exact Heap.set_getS _ _ _ (by rw [gqB]; rfl)
 have nvrq:notOf vr qq:=nvr qq (by rw [gqh5]; rfl)
 obtain ⟨sdr,srd⟩:=own_sep od5 nvr
 have offq:∀ {hh:Heap} {o:AObj} {id:Nat},id≠qq→(hh.set qq o).get id=hh.get id:=fun hne=>Heap.set_getE _ _ _ _ (by simpa using hne)
 have or6:OwnS (emptyH m) h6 2 vr (p.ress.map nmC):=or.get fun id hv hs=>by rw [← eh6]; exact offq fun e=>nvrq _ _ (by rw [hv,e])
 have od6:OwnS (emptyH m) h6 2 vd (p.devs.map nmC):=od5.get fun id hv hs=>by rw [← eh6,offq (fun e=>nvdq _ _ (by rw [hv,e]))]; exact lB.getE id hs
 have l36:h3.le h6:=by rw [← eh6]; exact (l35.trans lB).set (by have:=hm0.h; omega) _
 have n56:h5.next≤h6.next:=by rw [← eh6]; exact lB.next
 have hm6:=hm2.h.le (lh3.h.trans l36)
 -- the tasks
 obtain ⟨vt,hC,apt,ot,lC,nvt⟩:=own_clone (m:=m) (b:=72) hm6.ht.sl (by omega) (by omega) (by omega) (by omega)
 have iVt:IsS vt:=SlV.isS ot.sl
 have gqC:=lC.get gqh6
 have s7:wStore 1 hC [.pointer (some ⟨qq,3,none⟩),vt]=some (undef,hC.set qq (.blk [.int .i64 p.harts,vd,vr,vt] true)):=by
  obtain ⟨_,_,_,rfl⟩:=iVt; exact wStore_one gqC (by simp) rfl rfl
 obtain ⟨h7,eh7⟩:∃ x,hC.set qq (.blk [.int .i64 p.harts,vd,vr,vt] true)=x:=⟨_,rfl⟩
 rw [eh7] at s7
 have gqh7:h7.get qq=some (.blk [.int .i64 p.harts,vd,vr,vt] true):=by rw [← eh7]; exact Heap.set_getS _ _ _ (by rw [gqC]; rfl)
 have nvtq:notOf vt qq:=nvt qq (by rw [gqh6]; rfl)
 obtain ⟨sdt,std⟩:=own_sep od6 nvt
 obtain ⟨srt,str'⟩:=own_sep or6 nvt
 have ovth7:OwnS (emptyH m) h7 6 vt xs:=ot.get fun id hv hs=>by rw [← eh7]; exact offq fun e=>nvtq _ _ (by rw [hv,e])
 have ovrh7:OwnS (emptyH m) h7 2 vr (p.ress.map nmC):=or6.get fun id hv hs=>by rw [← eh7,offq (fun e=>nvrq _ _ (by rw [hv,e]))]; exact lC.getE id hs
 have ovdh7:OwnS (emptyH m) h7 2 vd (p.devs.map nmC):=od6.get fun id hv hs=>by rw [← eh7,offq (fun e=>nvdq _ _ (by rw [hv,e]))]; exact lC.getE id hs
 have l37:h3.le h7:=by rw [← eh7]; exact (l36.trans lC).set (by have:=hm0.h; omega) _
 have n67:h6.next≤h7.next:=by rw [← eh7]; exact lC.next
 have gq5:=l35.get gqh3
 have gq6:=l36.get gqh3
 have gq7:=l37.get gqh3
 clear od od5 od6 or or6 ot hm5 hm6 offq nvd nvr nvt eh5 eh6 eh7
 replace lh4:=Hid.mk lh4; replace hm4:=Hid.mk hm4; replace iVd:=Hid.mk iVd; replace iVr:=Hid.mk iVr; replace iVt:=Hid.mk iVt; replace lA:=Hid.mk lA; replace lB:=Hid.mk lB; replace lC:=Hid.mk lC; replace nvdq:=Hid.mk nvdq; replace nvrq:=Hid.mk nvrq; replace nvtq:=Hid.mk nvtq; replace sdr:=Hid.mk sdr; replace srd:=Hid.mk srd; replace sdt:=Hid.mk sdt; replace std:=Hid.mk std; replace srt:=Hid.mk srt; replace str':=Hid.mk str'; replace ovth7:=Hid.mk ovth7; replace ovrh7:=Hid.mk ovrh7; replace ovdh7:=Hid.mk ovdh7; replace l35:=Hid.mk l35; replace l36:=Hid.mk l36; replace l37:=Hid.mk l37; replace n45:=Hid.mk n45; replace n56:=Hid.mk n56; replace n67:=Hid.mk n67; replace m4:=Hid.mk m4; replace hqm:=Hid.mk hqm
 repeat' (first | simp -implicitDefEqProofs only [walkL,aR,aW,aBin,aInt,Int.reduceBEq,Int.reduceBNe,Nat.reduceBEq,Int.reduceLT,Int.reduceLE, *] | with_reducible (first | refine kcd ?_ ?_ | refine kgd ?_ ?_ | refine kci ?_ ?_ | refine kgi ?_ ?_)<;>intro hc)
 refine LoopW.upto p.devs.length (fun i en hh=>en=[v,.int .i64 z1,.bool false,.bool true,ptr q,str f,ptr qq,.int .i64 i,undef,undef,undef]∧OwnS (emptyH m) hh 2 vd (((p.devs.take i).map (renNm f [111,116,104,101,114])++p.devs.drop i).map nmC)∧(∀ j,notOf vd j→hh.get j=h7.get j)∧hh.next=h7.next) ?_ (Nat.zero_le _) ⟨rfl,by simpa using ovdh7.h,fun _ _=>rfl,rfl⟩
 rintro i _ h7a R hi ⟨rfl,ho,hk,hnx⟩ hR
 delta c7_l13 c7_r0 c7_r1 c7_r2 c7_r3 c7_r4 c7_r5 c7_r6 c7_r7 c7_r8 c7_r9 c7_r10 c7_r11 c7_r12 c7_r14 c7_r15 c7_r16 c7_r17 c7_r18 c7_r20 c7_r21 c7_r22 c7_r23 c7_r24 c7_r25 c7_r27 c7_r28
 have gqh7a:h7a.get qq=some (.blk [.int .i64 p.harts,vd,vr,vt] true):=by rw [hk qq (nvdq.h)]; exact gqh7
 have hlnvd:pLenS [vd]=some (.int .i64 p.devs.length):=by
  have:=SlV.len ho.sl
  rw [show (((p.devs.take i).map (renNm f [111,116,104,101,114])++p.devs.drop i).map nmC).length=p.devs.length by simp; omega] at this
  exact this
 refine Classical.byCases (p:=i < p.devs.length) (fun hlt=>?_) (fun hlt=>?_)
 ·have hlt' : (i:Int) < p.devs.length:=by omega
  have hw:IntKind.i64.wrap ((i:Int) + 1)=((i + 1:Nat):Int):=by have:=dl; have:=rl; rw [wrapI (by omega) (by omega)]; rfl
  obtain ⟨dd,hdd⟩:∃ a,p.devs[i]? = some a:=⟨_,List.getElem?_eq_getElem hlt⟩
  obtain ⟨id,cells,hN,e1,e2,e3,e4,e5,e6,e7,e8,e9⟩:=nm_step (f:=f) (g:=[111,116,104,101,114]) hdd ho
  have es:=eq_S dd.name f
  have g:=hR.h [v,.int .i64 z1,.bool false,.bool true,ptr q,str f,ptr qq,.int .i64 (i + 1:Nat),undef,undef,undef] hN hlt ⟨rfl,e7,fun j hj=>(e8 j hj).trans (hk j hj),e9.trans hnx⟩
  by_cases hm:dd.name=f
  ·have ef:(dd.name == f)=true:=by simpa using hm
   have s5:=e5 hm
   rw [ef] at es
   clear e5 e6 hR
   replace ho:=Hid.mk ho; replace hk:=Hid.mk hk; replace hm:=Hid.mk hm; replace ef:=Hid.mk ef; replace hdd:=Hid.mk hdd; replace e1:=Hid.mk e1; replace e7:=Hid.mk e7; replace e8:=Hid.mk e8; replace e9:=Hid.mk e9; replace g:=Hid.mk g; replace hnx:=Hid.mk hnx
   repeat' (first | simp -implicitDefEqProofs only [walkL,aR,aW,aBin,aInt,Int.reduceBEq,Int.reduceBNe,Nat.reduceBEq,Int.reduceLT,Int.reduceLE, *] | with_reducible (first | refine kcd ?_ ?_ | refine kgd ?_ ?_ | refine kci ?_ ?_ | refine kgi ?_ ?_)<;>intro hc)
   exact g.h
  ·have ef:(dd.name == f)=false:=by simpa using hm
   have s5:=(e6 hm).symm
   subst s5
   rw [ef] at es
   clear e5 e6 hR
   replace ho:=Hid.mk ho; replace hk:=Hid.mk hk; replace hm:=Hid.mk hm; replace ef:=Hid.mk ef; replace hdd:=Hid.mk hdd; replace e1:=Hid.mk e1; replace e7:=Hid.mk e7; replace e8:=Hid.mk e8; replace e9:=Hid.mk e9; replace g:=Hid.mk g; replace hnx:=Hid.mk hnx
   repeat' (first | simp -implicitDefEqProofs only [walkL,aR,aW,aBin,aInt,Int.reduceBEq,Int.reduceBNe,Nat.reduceBEq,Int.reduceLT,Int.reduceLE, *] | with_reducible (first | refine kcd ?_ ?_ | refine kgd ?_ ?_ | refine kci ?_ ?_ | refine kgi ?_ ?_)<;>intro hc)
   exact g.h
 have hlt' : ¬ (i:Int) < p.devs.length:=by omega
 have hii:i=p.devs.length:=by omega
 subst hii
 rw [List.take_of_length_le (Nat.le_refl _),List.drop_eq_nil_of_le (Nat.le_refl _),List.append_nil] at ho
 clear hR hi hlt
 have ovth7a:=own_keep ovth7.h sdt.h hk
 have ovrh7a:=own_keep ovrh7.h sdr.h hk
 have l38:=le_keep ovdh7.h hk hnx l37.h (by have:=hm0.h; omega)
 have ovdh7a:=ho
 clear ho
 replace ovth7a:=Hid.mk ovth7a; replace ovrh7a:=Hid.mk ovrh7a; replace ovdh7a:=Hid.mk ovdh7a; replace l38:=Hid.mk l38; replace hk:=Hid.mk hk; replace hnx:=Hid.mk hnx
 repeat' (first | simp -implicitDefEqProofs only [walkL,aR,aW,aBin,aInt,Int.reduceBEq,Int.reduceBNe,Nat.reduceBEq,Int.reduceLT,Int.reduceLE, *] | with_reducible (first | refine kcd ?_ ?_ | refine kgd ?_ ?_ | refine kci ?_ ?_ | refine kgi ?_ ?_)<;>intro hc)
 refine LoopW.upto p.ress.length (fun i en hh=>en=[v,.int .i64 z1,.bool false,.bool true,ptr q,str f,ptr qq,.int .i64 p.devs.length,.int .i64 i,undef,undef]∧OwnS (emptyH m) hh 2 vr (((p.ress.take i).map (renNm f [111,116,104,101,114])++p.ress.drop i).map nmC)∧(∀ j,notOf vr j→hh.get j=h7a.get j)∧hh.next=h7a.next) ?_ (Nat.zero_le _) ⟨rfl,by simpa using ovrh7a.h,fun _ _=>rfl,rfl⟩
 rintro i _ h7aa R hi ⟨rfl,ho,hk,hnx⟩ hR
 delta c7_l19 c7_r0 c7_r1 c7_r2 c7_r3 c7_r4 c7_r5 c7_r6 c7_r7 c7_r8 c7_r9 c7_r10 c7_r11 c7_r12 c7_r14 c7_r15 c7_r16 c7_r17 c7_r18 c7_r20 c7_r21 c7_r22 c7_r23 c7_r24 c7_r25 c7_r27 c7_r28
 have gqh7aa:h7aa.get qq=some (.blk [.int .i64 p.harts,vd,vr,vt] true):=by rw [hk qq (nvrq.h)]; exact gqh7a
 have hlnvr:pLenS [vr]=some (.int .i64 p.ress.length):=by
  have:=SlV.len ho.sl
  rw [show (((p.ress.take i).map (renNm f [111,116,104,101,114])++p.ress.drop i).map nmC).length=p.ress.length by simp; omega] at this
  exact this
 refine Classical.byCases (p:=i < p.ress.length) (fun hlt=>?_) (fun hlt=>?_)
 ·have hlt' : (i:Int) < p.ress.length:=by omega
  have hw:IntKind.i64.wrap ((i:Int) + 1)=((i + 1:Nat):Int):=by have:=dl; have:=rl; rw [wrapI (by omega) (by omega)]; rfl
  obtain ⟨dd,hdd⟩:∃ a,p.ress[i]? = some a:=⟨_,List.getElem?_eq_getElem hlt⟩
  obtain ⟨id,cells,hN,e1,e2,e3,e4,e5,e6,e7,e8,e9⟩:=nm_step (f:=f) (g:=[111,116,104,101,114]) hdd ho
  have es:=eq_S dd.name f
  have g:=hR.h [v,.int .i64 z1,.bool false,.bool true,ptr q,str f,ptr qq,.int .i64 p.devs.length,.int .i64 (i + 1:Nat),undef,undef] hN hlt ⟨rfl,e7,fun j hj=>(e8 j hj).trans (hk j hj),e9.trans hnx⟩
  by_cases hm:dd.name=f
  ·have ef:(dd.name == f)=true:=by simpa using hm
   have s5:=e5 hm
   rw [ef] at es
   clear e5 e6 hR
   replace ho:=Hid.mk ho; replace hk:=Hid.mk hk; replace hm:=Hid.mk hm; replace ef:=Hid.mk ef; replace hdd:=Hid.mk hdd; replace e1:=Hid.mk e1; replace e7:=Hid.mk e7; replace e8:=Hid.mk e8; replace e9:=Hid.mk e9; replace g:=Hid.mk g; replace hnx:=Hid.mk hnx
   repeat' (first | simp -implicitDefEqProofs only [walkL,aR,aW,aBin,aInt,Int.reduceBEq,Int.reduceBNe,Nat.reduceBEq,Int.reduceLT,Int.reduceLE, *] | with_reducible (first | refine kcd ?_ ?_ | refine kgd ?_ ?_ | refine kci ?_ ?_ | refine kgi ?_ ?_)<;>intro hc)
   exact g.h
  ·have ef:(dd.name == f)=false:=by simpa using hm
   have s5:=(e6 hm).symm
   subst s5
   rw [ef] at es
   clear e5 e6 hR
   replace ho:=Hid.mk ho; replace hk:=Hid.mk hk; replace hm:=Hid.mk hm; replace ef:=Hid.mk ef; replace hdd:=Hid.mk hdd; replace e1:=Hid.mk e1; replace e7:=Hid.mk e7; replace e8:=Hid.mk e8; replace e9:=Hid.mk e9; replace g:=Hid.mk g; replace hnx:=Hid.mk hnx
   repeat' (first | simp -implicitDefEqProofs only [walkL,aR,aW,aBin,aInt,Int.reduceBEq,Int.reduceBNe,Nat.reduceBEq,Int.reduceLT,Int.reduceLE, *] | with_reducible (first | refine kcd ?_ ?_ | refine kgd ?_ ?_ | refine kci ?_ ?_ | refine kgi ?_ ?_)<;>intro hc)
   exact g.h
 have hlt' : ¬ (i:Int) < p.ress.length:=by omega
 have hii:i=p.ress.length:=by omega
 subst hii
 rw [List.take_of_length_le (Nat.le_refl _),List.drop_eq_nil_of_le (Nat.le_refl _),List.append_nil] at ho
 clear hR hi hlt
 have ovth7b:=own_keep ovth7a.h srt.h hk
 have ovdh7b:=own_keep ovdh7a.h srd.h hk
 have l39:=le_keep ovrh7a.h hk hnx l38.h (by have:=hm0.h; omega)
 have ovrh7b:=ho
 have hnm:m≤h7aa.next:=by have:=l39.next; have:=hm0.h; omega
 clear ho
 have ts9:TsCsB (notOf vt) h7aa p.tasks xs:=hm2.h.hts.to fun i cs own hb hg=>⟨ovth7b.notOf (by have:=Heap.lt_of_get hg; have:=lh3.h.next; have:=hm0.h; show i < m; omega),l39.get (lh3.h.get hg)⟩
 replace ovth7b:=Hid.mk ovth7b; replace ovrh7b:=Hid.mk ovrh7b; replace ovdh7b:=Hid.mk ovdh7b; replace l39:=Hid.mk l39; replace hk:=Hid.mk hk; replace hnx:=Hid.mk hnx; replace ts9:=Hid.mk ts9
 repeat' (first | simp -implicitDefEqProofs only [walkL,aR,aW,aBin,aInt,Int.reduceBEq,Int.reduceBNe,Nat.reduceBEq,Int.reduceLT,Int.reduceLE, *] | with_reducible (first | refine kcd ?_ ?_ | refine kgd ?_ ?_ | refine kci ?_ ?_ | refine kgi ?_ ?_)<;>intro hc)
 refine LoopW.upto p.tasks.length (fun i en hh=>∃ ys,en=[v,.int .i64 z1,.bool false,.bool true,ptr q,str f,ptr qq,.int .i64 p.devs.length,.int .i64 p.ress.length,.int .i64 i,undef]∧OwnS (emptyH m) hh 6 vt ys∧TsCsB (notOf vt) hh ((p.tasks.take i).map (renT f [111,116,104,101,114])++p.tasks.drop i) ys∧(∀ j,notOf vt j→(h7aa.get j).isSome=true→hh.get j=h7aa.get j)∧h7aa.next≤hh.next) ?_ (Nat.zero_le _) ⟨xs,rfl,ovth7b.h,by simpa using ts9.h,fun _ _ _=>rfl,Nat.le_refl _⟩
 rintro i _ h8 R hi ⟨ys,rfl,ho,hts,hk8,hn8⟩ hR
 delta c7_l26 c7_r0 c7_r1 c7_r2 c7_r3 c7_r4 c7_r5 c7_r6 c7_r7 c7_r8 c7_r9 c7_r10 c7_r11 c7_r12 c7_r14 c7_r15 c7_r16 c7_r17 c7_r18 c7_r20 c7_r21 c7_r22 c7_r23 c7_r24 c7_r25 c7_r27 c7_r28
 have gq8:h8.get qq=some (.blk [.int .i64 p.harts,vd,vr,vt] true):=by rw [hk8 qq nvtq.h (by rw [gqh7aa]; rfl)]; exact gqh7aa
 have yl:=hts.length
 have yl2:((p.tasks.take i).map (renT f [111,116,104,101,114])++p.tasks.drop i).length=p.tasks.length:=by simp; omega
 have hlnT:pLenS [vt]=some (.int .i64 p.tasks.length):=by
  have:=SlV.len ho.sl
  rw [yl,yl2] at this; exact this
 refine Classical.byCases (p:=i < p.tasks.length) (fun hlt=>?_) (fun hlt=>?_)
 ·have hlt' : (i:Int) < p.tasks.length:=by omega
  have hw:IntKind.i64.wrap ((i:Int) + 1)=((i + 1:Nat):Int):=by rw [wrapI (by omega) (by omega)]; rfl
  obtain ⟨tk,htk⟩:∃ a,p.tasks[i]? = some a:=⟨_,List.getElem?_eq_getElem hlt⟩
  obtain ⟨mx1,mx2⟩:=mix_get (renT f [111,116,104,101,114]) htk
  obtain ⟨x,hx,vb,hxe,hvb⟩:=hts.get mx1
  obtain ⟨id,a1,a2,a3,a4,a5⟩:=ho.put1 (by decide) hx (j:=0) (by omega)
  have a4' : ys.flatten[i * 6]? = some (str tk.name):=by rw [hxe] at a4; simpa using a4
  have es:=eq_S tk.name f
  obtain ⟨x1,hx1⟩:∃ y,x.set 0 (str (renN f [111,116,104,101,114] tk.name))=y:=⟨_,rfl⟩
  have hI:=rightP_st hg.h.right tk (List.mem_of_getElem? htk)
  have hbd:cntSs tk.body≤1000:=by rw [← cntSs_flat []]; exact good_bd hg.h tk (List.mem_of_getElem? htk)
  have hidq:id≠qq:=fun e=>nvtq.h _ _ (by rw [a1,e])
  have ne1:∀ j:Nat,notOf vt j→j≠id:=fun j hj e=>hj ys.length 6 (by rw [e]; exact a1)
  replace ho:=Hid.mk ho; replace hts:=Hid.mk hts; replace hk8:=Hid.mk hk8; replace a1:=Hid.mk a1; replace a4:=Hid.mk a4; replace a5:=Hid.mk a5; replace mx1:=Hid.mk mx1; replace mx2:=Hid.mk mx2; replace hx:=Hid.mk hx; replace hxe:=Hid.mk hxe; replace hvb:=Hid.mk hvb; replace hI:=Hid.mk hI; replace hbd:=Hid.mk hbd; replace hidq:=Hid.mk hidq; replace ne1:=Hid.mk ne1; replace es:=Hid.mk es; replace hn8:=Hid.mk hn8; replace htk:=Hid.mk htk; replace yl:=Hid.mk yl; replace yl2:=Hid.mk yl2
  refine cutH (P:=fun y=>OwnS (emptyH m) y 6 vt (ys.set i x1)∧(∀ j,j≠id→y.get j=h8.get j)∧y.next=h8.next) (G:=?G) ?b ?main
  case b =>
   intro main
   replace main:=Hid.mk main
   by_cases hm:tk.name=f
   case pos =>
    have ef:(tk.name == f)=true:=by simpa using hm
    obtain ⟨s1,s2⟩:=a5.h (str [111,116,104,101,114]) rfl rfl
    have ex:x.set 0 (str [111,116,104,101,114])=x1:=by rw [← hx1,show renN f [111,116,104,101,114] tk.name=[111,116,104,101,114] by unfold renN; rw [if_pos hm]]
    rw [ex] at s1 s2
    simp only [Nat.add_zero] at s1
    have hne:qq≠id:=fun e=>hidq.h e.symm
    obtain ⟨hN,ehN⟩:∃ y,h8.set id (.blk (ys.set i x1).flatten true)=y:=⟨_,rfl⟩
    rw [ehN] at s1 s2
    have gqN:hN.get qq=some (.blk [.int .i64 p.harts,vd,vr,vt] true):=by rw [← ehN,Heap.set_getE _ _ _ _ (by simpa using hne)]; exact gq8
    have g:=Hid.mk (main.h hN ⟨s2,fun j hj=>by rw [← ehN,Heap.set_getE _ _ _ _ (by simpa using hj)],by rw [← ehN]; rfl⟩)
    have es':=es.h
    rw [ef] at es'
    obtain ⟨id5,b1,b2,b3,b4,b5⟩:=s2.put1 (by decide) (i:=i) (j:=5) (x:=x1) (by have:=(List.getElem?_eq_some_iff.1 hx.h).1; simp [this]) (by omega)
    have b4' : (ys.set i x1).flatten[i * 6 + 5]? = some vb:=by rw [b4,← hx1,hxe.h]; rfl
    have idid:id5=id:=by have e:=a1.h; rw [b1] at e; injection e with e1; injection e1 with e1; injection e1
    rw [idid] at b2
    replace ef:=Hid.mk ef; replace hm:=Hid.mk hm; replace s2:=Hid.mk s2; replace b1:=Hid.mk b1; replace b4:=Hid.mk b4; replace b5:=Hid.mk b5; replace idid:=Hid.mk idid; replace hne:=Hid.mk hne; replace ex:=Hid.mk ex
    clear main
    repeat' (first | simp -implicitDefEqProofs only [walkL,aR,aW,aBin,aInt,Int.reduceBEq,Int.reduceBNe,Nat.reduceBEq,Int.reduceLT,Int.reduceLE, *] | with_reducible (first | refine kcd ?_ ?_ | refine kgd ?_ ?_ | refine kci ?_ ?_ | refine kgi ?_ ?_)<;>intro hc)
    exact g.h
   case neg =>
    have ef:(tk.name == f)=false:=by simpa using hm
    have ex:ys.set i x1=ys:=by
     have:x1=x:=by rw [← hx1,show renN f [111,116,104,101,114] tk.name=tk.name by unfold renN; rw [if_neg hm],hxe.h]; rfl
     rw [this]
     exact List.ext_getElem? fun j=>by
      rw [List.getElem?_set]; split
      ·rename_i h; subst h; rw [hx.h]; have:=(List.getElem?_eq_some_iff.1 hx.h).1; simp [this]
      ·rfl
    have g:=Hid.mk (main.h h8 ⟨by rw [ex]; exact ho.h,fun _ _=>rfl,rfl⟩)
    have es':=es.h
    rw [ef] at es'
    have b4' : ys.flatten[i * 6 + 5]? = some vb:=by
     obtain ⟨id5,b1,b2,b3,b4,b5⟩:=ho.h.put1 (by decide) hx.h (j:=5) (by omega)
     rw [b4,hxe.h]; rfl
    replace ef:=Hid.mk ef; replace hm:=Hid.mk hm; replace ex:=Hid.mk ex
    clear main
    repeat' (first | simp -implicitDefEqProofs only [walkL,aR,aW,aBin,aInt,Int.reduceBEq,Int.reduceBNe,Nat.reduceBEq,Int.reduceLT,Int.reduceLE, *] | with_reducible (first | refine kcd ?_ ?_ | refine kgd ?_ ?_ | refine kci ?_ ?_ | refine kgi ?_ ?_)<;>intro hc)
    exact g.h
  case main =>
   rintro h9 ⟨ho9,hk9,hn9⟩
   have tb9:Heap.toB (notOf vt) (notOf vt) h8 h9:=fun j cs own hb hg=>⟨hb,by rw [hk9 j (ne1.h _ hb)]; exact hg⟩
   have hx9:(ys.set i x1)[i]? = some x1:=by have:=(List.getElem?_eq_some_iff.1 hx.h).1; simp [this]
   obtain ⟨id9,b1,b2,b3,b4,b5⟩:=ho9.put1 (by decide) hx9 (j:=5) (by omega)
   have b4' : (ys.set i x1).flatten[i * 6 + 5]? = some vb:=by rw [b4,← hx1,hxe.h]; rfl
   have gq9:h9.get qq=some (.blk [.int .i64 p.harts,vd,vr,vt] true):=by rw [hk9 qq (fun e=>hidq.h e.symm)]; exact gq8
   refine ren_c 30 f [111,116,104,101,114] tk.body (notOf vt) vb h9 _ hI.h (by have:=hbd.h; omega) (hvb.h.to tb9) (fun j hj=>ho9.notOf_new hj) fun hR' w lR hw=>turn0 lR.ext ?_
   have hoR:OwnS (emptyH m) hR' 6 vt (ys.set i x1):=ho9.get fun id hv hs=>lR.getE id hs
   obtain ⟨idR,c1,c2,c3,c4,c5⟩:=hoR.put1 (by decide) hx9 (j:=5) (by omega)
   have iw:IsS w:=hw.isS
   obtain ⟨s8,ho10⟩:=c5 w (by obtain ⟨_,_,_,rfl⟩:=iw; rfl) (by obtain ⟨_,_,_,rfl⟩:=iw; rfl)
   have gqR:=lR.get gq9
   have idR' : idR=id:=by have e:=a1.h; rw [c1] at e; injection e with e1; injection e1 with e1; injection e1
   rw [idR'] at s8 ho10 c3
   obtain ⟨hZ,ehZ⟩:∃ y,hR'.set id (.blk ((ys.set i x1).set i (x1.set 5 w)).flatten true)=y:=⟨_,rfl⟩
   rw [ehZ] at s8 ho10
   rw [List.set_set] at ho10
   have tbZ:Heap.toB (notOf vt) (notOf vt) hR' hZ:=fun j cs own hb hg=>⟨hb,by rw [← ehZ,Heap.set_getE _ _ _ _ (by simpa using ne1.h _ hb)]; exact hg⟩
   have tsZ:TsCsB (notOf vt) hZ ((p.tasks.take i).map (renT f [111,116,104,101,114])++p.tasks.drop i) ys:=(((hts.h.to tb9).to (lR.toB fun _ h=>h)).to tbZ)
   have tsZ2:TsCsB (notOf vt) hZ ((p.tasks.take (i + 1)).map (renT f [111,116,104,101,114])++p.tasks.drop (i + 1)) (ys.set i (x1.set 5 w)):=by
    rw [← mx2.h]
    exact tsZ.set ⟨w,by rw [← hx1,hxe.h]; rfl,hw.to tbZ⟩
   have nZ:hR'.next=hZ.next:=by rw [← ehZ]; rfl
   have kZ:∀ j,notOf vt j→(h7aa.get j).isSome=true→hZ.get j=h7aa.get j:=fun j hj hs=>by
    rw [← ehZ,Heap.set_getE _ _ _ _ (by simpa using ne1.h _ hj),lR.getE j (by rw [hk9 j (ne1.h _ hj),hk8.h j hj hs]; exact hs),hk9 j (ne1.h _ hj),hk8.h j hj hs]
   have g:=hR.h [v,.int .i64 z1,.bool false,.bool true,ptr q,str f,ptr qq,.int .i64 p.devs.length,.int .i64 p.ress.length,.int .i64 (i + 1:Nat),undef] hZ hlt ⟨_,rfl,ho10,tsZ2,kZ,by have h1:=lR.next; have h2:=hn8.h; omega⟩
   clear hR ehZ b4 b5 c4 c5 kZ tsZ hq
   replace ho9:=Hid.mk ho9; replace hk9:=Hid.mk hk9; replace hn9:=Hid.mk hn9; replace tb9:=Hid.mk tb9; replace b1:=Hid.mk b1; replace hoR:=Hid.mk hoR; replace c1:=Hid.mk c1; replace iw:=Hid.mk iw; replace ho10:=Hid.mk ho10; replace tbZ:=Hid.mk tbZ; replace tsZ2:=Hid.mk tsZ2; replace nZ:=Hid.mk nZ; replace g:=Hid.mk g; replace lR:=Hid.mk lR; replace hw:=Hid.mk hw; replace idR':=Hid.mk idR'
   repeat' (first | simp -implicitDefEqProofs only [walkL,aR,aW,aBin,aInt,Int.reduceBEq,Int.reduceBNe,Nat.reduceBEq,Int.reduceLT,Int.reduceLE, *] | with_reducible (first | refine kcd ?_ ?_ | refine kgd ?_ ?_ | refine kci ?_ ?_ | refine kgi ?_ ?_)<;>intro hc)
   exact g.h
 have hlt' : ¬ (i:Int) < p.tasks.length:=by omega
 have hii:i=p.tasks.length:=by omega
 subst hii
 rw [List.take_of_length_le (Nat.le_refl _),List.drop_eq_nil_of_le (Nat.le_refl _),List.append_nil] at hts
 clear hR hi hlt
 have oD:OwnS (emptyH m) h8 2 vd ((p.devs.map (renNm f [111,116,104,101,114])).map nmC):=ovdh7b.h.get fun id hv hs=>hk8 id (std.h id _ _ hv) hs
 have oR:OwnS (emptyH m) h8 2 vr ((p.ress.map (renNm f [111,116,104,101,114])).map nmC):=ovrh7b.h.get fun id hv hs=>hk8 id (str'.h id _ _ hv) hs
 have l310:h3.le h8:=⟨fun j o hg=>by
  have h1:=l39.h.get hg
  rw [hk8 j (ovth7b.h.notOf (by have:=Heap.lt_of_get hg; have:=hm0.h; show j < m; omega)) (by rw [h1]; rfl)]; exact h1,Nat.le_trans l39.h.next hn8⟩
 have hp8:PrC h8 (renP f [111,116,104,101,114] p) [.int .i64 p.harts,vd,vr,vt]:=⟨vd,vr,vt,rfl,⟨oD.sl,by simp [renP]; omega⟩,⟨oR.sl,by simp [renP]; omega⟩,ys,ho.sl,by simp at yl2; rw [yl]; simp; omega,hts.plain⟩
 have hp2:=(hm2.h.le (lh3.h.trans l310)).prc
 have gq_8:=l310.get gqh3
 have bd2:∀ t' ∈ (renP f [111,116,104,101,114] p).tasks,(flatSs [] t'.body).length < 4611686018427387904:=fun t' ht'=>by
  obtain ⟨t0,h1,rfl⟩:=List.mem_map.1 ht'
  have:=good_bd hg.h t0 h1
  rw [cntSs_flat] at this ⊢
  show cntSs (renSs f [111,116,104,101,114] t0.body) < _
  rw [renSs_cnt]; omega
 have hz:∀ e i n:Int,CheckIs (renP f [111,116,104,101,114] p) e i n→e=0∧i=0∧n=0:=fun e i n hc=>renP_zero (by decide) f0.h hg.h.right hf.h.nodup hf.h.tasks hf.h.body fn.h fb.h hc
 have fd:∀ x ∈ p.devs.map (·.name),x≠[111,116,104,101,114]:=fun x hx=>fn.h x (by unfold namesP; simp only [List.mem_append]; exact .inl (.inl hx))
 have fr:∀ x ∈ p.ress.map (·.name),x≠[111,116,104,101,114]:=fun x hx=>fn.h x (by unfold namesP; simp only [List.mem_append]; exact .inl (.inr hx))
 have ee1:ixOf (renP f [111,116,104,101,114] p).devs [111,116,104,101,114]=ixOf p.devs f:=by
  have:=ren_dev (p:=p) (p2:=renP f [111,116,104,101,114] p) (f:=f) (g:=[111,116,104,101,114]) (by simp only [renP,List.map_map]; rfl) fd fg.h
  rwa [show renN f [111,116,104,101,114] f=[111,116,104,101,114] by unfold renN; rw [if_pos rfl]] at this
 have ee2:ixOf (renP f [111,116,104,101,114] p).ress [111,116,104,101,114]=ixOf p.ress f:=by
  have:=ren_res (p:=p) (p2:=renP f [111,116,104,101,114] p) (f:=f) (g:=[111,116,104,101,114]) (by simp only [renP,List.map_map]; rfl) fr fg.h
  rwa [show renN f [111,116,104,101,114] f=[111,116,104,101,114] by unfold renN; rw [if_pos rfl]] at this
 replace ho:=Hid.mk ho; replace hts:=Hid.mk hts; replace hk8:=Hid.mk hk8; replace hn8:=Hid.mk hn8; replace oD:=Hid.mk oD; replace oR:=Hid.mk oR; replace l310:=Hid.mk l310; replace hp8:=Hid.mk hp8; replace hp2:=Hid.mk hp2; replace bd2:=Hid.mk bd2; replace hz:=Hid.mk hz; replace fd:=Hid.mk fd; replace fr:=Hid.mk fr; replace ee1:=Hid.mk ee1; replace ee2:=Hid.mk ee2
 repeat' (first | simp -implicitDefEqProofs only [walkL,aR,aW,aBin,aInt,Int.reduceBEq,Int.reduceBNe,Nat.reduceBEq,Int.reduceLT,Int.reduceLE,partL4, *] | with_reducible (first | refine kcd ?_ ?_ | refine kgd ?_ ?_ | refine kci ?_ ?_ | refine kgi ?_ ?_)<;>intro hc)
 refine Check_c hp8.h bd2.h _ fun h9 e i n' hci l9=>?_
 obtain ⟨rfl,rfl,rfl⟩:=hz.h e i n' hci
 clear hci
 have st2:wStore 2 (h9.alloc (.blk [.int .i64 0,.int .i64 0] true)) [.pointer (some ⟨h9.next,0,none⟩),.agg #[.int .i64 0,.int .i64 0]]=some (undef,h9.alloc (.blk [.int .i64 0,.int .i64 0] true)):=wStore_new rfl rfl rfl rfl
 have gq9:=l9.get gq8
 have gq_9:=l9.get gq_8
 have gq5:=Heap.get_alloc_same h9 (.blk [.int .i64 0,.int .i64 0] true)
 have lh10:=(Heap.le.refl h9).alloc (.blk [.int .i64 0,.int .i64 0] true)
 obtain ⟨q5,eq5⟩:∃ x_,h9.next=x_:=⟨_,rfl⟩
 obtain ⟨h10,eh10⟩:∃ x_,h9.alloc (.blk [.int .i64 0,.int .i64 0] true)=x_:=⟨_,rfl⟩
 rw [eh10] at gq5 lh10
 rw [eq5] at gq5
 rw [eh10,eq5] at st2
 have gq10:=lh10.get gq9
 have gq_10:=lh10.get gq_9
 replace l9:=Hid.mk l9; replace lh10:=Hid.mk lh10
 have hD8:=hp8.h.parts
 have oneD:vd.oneCell' = true:=SlV.one oD.h.sl
 have oneR:vr.oneCell' = true:=SlV.one oR.h.sl
 have oneT:vt.oneCell' = true:=SlV.one ho.h.sl
 have oned:d.oneCell' = true:=by obtain ⟨_,_,_,rfl⟩:=iD.h; rfl
 have oner:r.oneCell' = true:=by obtain ⟨_,_,_,rfl⟩:=iR.h; rfl
 have onet:t.oneCell' = true:=by obtain ⟨_,_,_,rfl⟩:=iT.h; rfl
 have l810:=l9.h.trans lh10.h
 have nvD:NmsV h10 vd (renP f [111,116,104,101,114] p).devs:=NmsV.mono l810 ⟨oD.h.sl,by simp [renP]; omega⟩
 have nvR:NmsV h10 vr (renP f [111,116,104,101,114] p).ress:=NmsV.mono l810 ⟨oR.h.sl,by simp [renP]; omega⟩
 have l210:=lh3.h.trans (l310.h.trans l810)
 have nvd' : NmsV h10 d p.devs:=NmsV.mono l210 ⟨hm2.h.hd.plain,by omega⟩
 have nvr' : NmsV h10 r p.ress:=NmsV.mono l210 ⟨hm2.h.hr.plain,by omega⟩
 have bq:∀ z:Int,(z == z)=true:=fun z=>by simp
 clear hD8
 replace oneD:=Hid.mk oneD; replace oneR:=Hid.mk oneR; replace oneT:=Hid.mk oneT; replace oned:=Hid.mk oned; replace oner:=Hid.mk oner; replace onet:=Hid.mk onet; replace l810:=Hid.mk l810; replace nvD:=Hid.mk nvD; replace nvR:=Hid.mk nvR; replace l210:=Hid.mk l210; replace nvd':=Hid.mk nvd'; replace nvr':=Hid.mk nvr'
 repeat' (first | simp -implicitDefEqProofs only [walkL,aR,aW,aBin,aInt,Int.reduceBEq,Int.reduceBNe,Nat.reduceBEq,Int.reduceLT,Int.reduceLE,partL4, *] | with_reducible (first | refine kcd ?_ ?_ | refine kgd ?_ ?_ | refine kci ?_ ?_ | refine kgi ?_ ?_)<;>intro hc)
 refine device_c (p:=renP f [111,116,104,101,114] p) nvD.h oneR.h oneT.h _ _ fun h11 l11=>turn0 l11.ext ?_
 rw [ee1.h]
 have gq_11:=l11.get gq_10
 have gq11:=l11.get gq10
 replace l11:=Hid.mk l11
 repeat' (first | simp -implicitDefEqProofs only [walkL,aR,aW,aBin,aInt,Int.reduceBEq,Int.reduceBNe,Nat.reduceBEq,Int.reduceLT,Int.reduceLE,partL4, *] | with_reducible (first | refine kcd ?_ ?_ | refine kgd ?_ ?_ | refine kci ?_ ?_ | refine kgi ?_ ?_)<;>intro hc)
 refine device_c (p:=p) (nvd'.h.mono l11.h) oner.h onet.h _ _ fun h12 l12=>?_
 have gq_12:=l12.get gq_11
 have gq12:=l12.get gq11
 replace l12:=Hid.mk l12
 repeat' (first | simp -implicitDefEqProofs only [walkL,aR,aW,aBin,aInt,Int.reduceBEq,Int.reduceBNe,Nat.reduceBEq,Int.reduceLT,Int.reduceLE,partL4, *] | with_reducible (first | refine kcd ?_ ?_ | refine kgd ?_ ?_ | refine kci ?_ ?_ | refine kgi ?_ ?_)<;>intro hc)
 refine resource_c (p:=renP f [111,116,104,101,114] p) oneD.h (nvR.h.mono (l11.h.trans l12.h)) oneT.h _ _ fun h13 l13=>turn0 l13.ext ?_
 rw [ee2.h]
 have gq_13:=l13.get gq_12
 have gq13:=l13.get gq12
 replace l13:=Hid.mk l13
 repeat' (first | simp -implicitDefEqProofs only [walkL,aR,aW,aBin,aInt,Int.reduceBEq,Int.reduceBNe,Nat.reduceBEq,Int.reduceLT,Int.reduceLE,partL4, *] | with_reducible (first | refine kcd ?_ ?_ | refine kgd ?_ ?_ | refine kci ?_ ?_ | refine kgi ?_ ?_)<;>intro hc)
 refine resource_c (p:=p) oned.h (nvr'.h.mono (l11.h.trans (l12.h.trans l13.h))) onet.h _ _ fun h14 l14=>?_
 replace l14:=Hid.mk l14
 repeat' (first | simp -implicitDefEqProofs only [walkL,aR,aW,aBin,aInt,Int.reduceBEq,Int.reduceBNe,Nat.reduceBEq,Int.reduceLT,Int.reduceLE,partL4, *] | with_reducible (first | refine kcd ?_ ?_ | refine kgd ?_ ?_ | refine kci ?_ ?_ | refine kgi ?_ ?_)<;>intro hc)
 exact hq.h _
end Go.Eng.Sy
