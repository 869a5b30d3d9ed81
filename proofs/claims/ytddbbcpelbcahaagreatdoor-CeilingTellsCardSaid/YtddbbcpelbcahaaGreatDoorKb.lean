/-
  Part of a proof of the laws of layer 09 (ceiling): the laws.
  Conditions: none.
-/
import Derived.Test.YtddbbcpelbcahaaGreatDoorKa
set_option linter.unusedSimpArgs false
set_option linter.unusedVariables false
namespace Go.Eng
open Go
variable {P:Program}
def retvc (k j:Nat) (Q:vPq):AExit→lVq→Heap→Prop
 | .exit _,_,_=>False
 | _,e,h=>∃ v p a b o,e[k]? = some v∧e[j]? = some (pT p 0)∧h.get p=some (.blk [a,b] o)∧Q (.tuple #[v,.agg #[a,b]]) h
theorem yw2 {f:FuncId}{cf:CFn}(hf:FnOk P f cf){args:lVq}{h:Heap}{Q:vPq}{k j:Nat}(hnr:cf.body.noRange=true) (hr:cf.results=[.var k,.cell j true 2]) (hn:args.length=cf.nargs)
  (hb:∀ N,W P N cf.vars cf.body (retvc k j Q) (Ug cf args) h):CallW P f args h Q:=by
 refine Zs hf hn fun N=>W.mono ?_ (hb N).sound;intro x e h' hq;have key:(∃ v p a b o,e[k]? = some v∧e[j]? = some (pT p 0)∧h'.get p=some (.blk [a,b] o)∧Q (.tuple #[v,.agg #[a,b]]) h')→ka (qo e (fin cf.body.noRange h.next h') cf.results) fun vs=>Q (yl vs) (fin cf.body.noRange h.next h'):=by
  rintro ⟨v,p,a,b,o,he,hu,hp,hQ⟩;rw [hnr,hr];have a2:aR (.load true 2) [pT p 0] h'.get=some (.agg #[a,b]):=by simp [aR,hp,qu]
  simpa [qo,ResArg.get,he,hu,a2,ka,yl,fin] using hQ
 cases x with
 | exit i=>exact hq.elim
 | normal=>exact key hq
 | ret=>exact key hq
end Go.Eng
namespace Go.Eng.Sy
open Go Go.Eng Go.Proofs
def zd3 (p:Prg):Prop:=ki p=true∧(zl p).Nodup∧(∀ j,j < p.tasks.length→wx p j=0) ∧ ∀ j,j < p.tasks.length→OkAt p j
theorem zz6 {p:Prg}{i:Nat}{t:Tsk}(hi:p.tasks[i]? = some t):OkAt p i↔zj6 p (zl p) [] t.body:=by
 constructor
 ·intro h;exact h t hi
 ·intro h tk htk;rw [hi] at htk;cases htk;exact h
set_option maxHeartbeats 2000000 in
theorem check8_c {h:Heap}{p:Prg}{x:lVq}(hx:PrC h p x) (hbl:∀ tk ∈ p.tasks,ye tk.body≤100000) (Q:vPq)
  (hq:∀ h' e a b,h.le h' → (e=0↔zd3 p)→Q (.tuple #[iI e,.agg #[iI a,iI b]]) h'):CallW Tryz.prog 50 [.agg x.toArray] h Q:=by
 obtain ⟨d,r,t,rfl,hd,hr,ht⟩:=hx;have hx0:PrC h p [iI p.harts,d,r,t]:=⟨d,r,t,rfl,hd,hr,ht⟩;have b1:=yy (n:=p.harts) hd.one hr.one ht.one;obtain ⟨q,h1,eq,eh1,gq,lh1⟩:=zj h [iI p.harts,d,r,t];obtain ⟨c,h2,ec,eh2,gc,lh2⟩:=zj h1 [iI 0,iI 0];have l02:=lh1.trans lh2;have gq2:=lh2.get gq;have hx2:=hx0.mono l02;have ht2:=ht.mono l02;have lnt:=ht.len;have cn:h.next≤c:=by have:=lh1.next;omega
 have cq:q≠c:=by have:=Heap.lt_of_get gq;omega
 clear hx0 hd hr ht gq
 -- an error is told: where, is of no account
 obtain ⟨R,hR⟩:∃ R,retvc 2 3 Q=R:=⟨_,rfl⟩;have bad:∀ (hh:Heap) (e a b:Int) (x0 x1:Value) (tl:lVq),h.le hh→hh.get c=some (.blk [iI 0,iI 0] true)→(e=0↔zd3 p) → ∃ hU,zt 2 hh [pT c 0,.agg #[iI a,iI b]]=some (udq,hU)∧R .ret (x0::x1 :: iI e::ptr c::tl) hU:=by
  intro hh e a b x0 x1 tl hl gc hi;refine ⟨_,yz gc rfl rfl rfl rfl,?_⟩;rw [← hR];exact ⟨_,c,_,_,true,rfl,rfl,Heap.set_getS _ _ _ (by rw [gc];rfl),hq _ e a b (hl.set cn _) hi⟩
 clear hq;replace l02:=za l02;replace hx2:=za hx2;replace ht2:=za ht2;replace hbl:=za hbl;replace bad:=za bad;replace lh1:=za lh1;replace lh2:=za lh2;refine yw2 (k:=2) (j:=3) ok50 rfl rfl rfl fun N=>?_;rw [hR];rw [Yo c50 und10q rfl];delta c50;clear hR;simp only [zb,aR,yb, *];refine ye6 hx2.h _ fun h3 l3=>?_;have gq3:=l3.get gq2;have gc3:=l3.get gc;have l03:=l02.h.trans l3;cases hrp:ki p with
 | false =>
  obtain ⟨hU,s1,g⟩:=bad.h h3 1 0 0 (prV p.harts d r t) (ptr q) [.bool false,udq,udq,udq,udq,udq,udq] l03 gc3 (by constructor;intro e;omega;rintro ⟨h,_⟩;rw [hrp] at h;cases h);clear bad;replace g:=za g;replace l3:=za l3;replace l03:=za l03;simp only [zb,aW,pb0, *];exact g.h
 | true =>
 have hl3:=qk hrp;have hst:=Zy hrp;have hx3:=hx2.h.mono l3;clear gq2 gc;replace hl3:=za hl3;replace hst:=za hst;replace hx3:=za hx3;replace l3:=za l3;replace l03:=za l03;simp only [zb,aR,yb, *];refine twice8_c hx3.h (by have:=hl3.h;omega) _ fun h4 two l4 htw=>?_;have gq4:=l4.get gq3;have gc4:=l4.get gc3;have l04:=l03.h.trans l4;cases two with
 | true =>
  obtain ⟨hU,s1,g⟩:=bad.h h4 80 0 0 (prV p.harts d r t) (ptr q) [.bool true,.bool true,udq,udq,udq,udq,udq] l04 gc4 (by constructor;intro e;omega;rintro ⟨_,h,_⟩;exact absurd h (htw.1 rfl));clear bad htw;replace g:=za g;replace l4:=za l4;replace l04:=za l04;simp only [zb,aW,pb0, *];exact g.h
 | false =>
 have hnd:(zl p).Nodup:=Decidable.byContradiction fun hn=>by have:=htw.2 hn;cases this
 have hx4:=hx3.h.mono l4;clear gq3 gc3 htw;replace hnd:=za hnd;replace hx4:=za hx4;replace l4:=za l4;replace l04:=za l04;simp only [zb, *];refine LoopW.upto p.tasks.length (fun i e hh=>h4.le hh∧(∀ j,j < i→wx p j=0) ∧ ∃ y7,e=[prV p.harts d r t,ptr q,iI 0,ptr c,.bool true,.bool false,iI (i:Int),y7,udq,udq,udq]) ?_ (Nat.zero_le _) ⟨Heap.le.refl _,fun j hj=>by omega,_,rfl⟩;rintro i _ h5 R1 hi ⟨l5,hz,y7,rfl⟩ hR1;have gq5:=l5.get gq4;have gc5:=l5.get gc4;have l05:=l04.h.trans l5;delta yx4;by_cases hlt:i < p.tasks.length
 case pos =>
  have hlt' : (i:Int) < p.tasks.length:=by omega
  have hw:IntKind.i64.wrap ((i:Int) + 1)=((i + 1:Nat):Int):=by have:=hl3.h;rw [zn (by omega) (by omega)];rfl
  have hx5:=hx4.h.mono l5;replace hx5:=za hx5;replace l5:=za l5;replace l05:=za l05;replace hz:=za hz;simp only [zb,aR,ze,zf,yb, *];refine task8_c hx5.h (by have:=hl3.h;omega) hlt _ fun h6 l6=>?_;have gc6:=l6.get gc5;obtain ⟨z,hzz⟩:∃ z,wx p i=z:=⟨_,rfl⟩;rw [hzz];by_cases hz0:z=0
  ·subst hz0;have g:=hR1.h _ h6 hlt ⟨l5.h.trans l6,fun j hj=>by
    rcases Nat.lt_succ_iff_lt_or_eq.1 hj with hj | rfl
    ·exact hz.h j hj
    ·exact hzz,iI 0,rfl⟩
   clear hR1 bad;replace g:=za g;replace l6:=za l6;replace hzz:=za hzz;simp only [zb,ze,zf, *];exact g.h
  ·have hz1:(z != 0)=true:=by simpa using hz0
   have pb:=pb2 i 0;obtain ⟨hU,s1,g⟩:=bad.h h6 z i 0 (prV p.harts d r t) (ptr q) [.bool true,.bool false,iI (i:Int),iI z,udq,udq,udq] (l05.h.trans l6) gc6 (by constructor;exact fun e=>absurd e hz0;rintro ⟨_,_,h,_⟩;exact absurd (hzz.symm.trans (h i hlt)) hz0);clear hR1 bad hz0;replace g:=za g;replace l6:=za l6;replace hzz:=za hzz;simp only [zb,aW,ze,zf, *];exact g.h
 case neg =>
 have hlt' : ¬ (i:Int) < p.tasks.length:=by omega
 have hheads:∀ j,j < p.tasks.length→wx p j=0:=fun j hj=>hz j (by omega);have hx5:=hx4.h.mono l5;have ht5:=ht2.h.mono (l3.h.trans (l4.h.trans l5));clear hR1 hz;replace hheads:=za hheads;replace hx5:=za hx5;replace l5:=za l5;replace l05:=za l05;replace ht5:=za ht5;simp only [zb,aR,ze,zf, *];refine LoopW.upto p.tasks.length (fun k e hh=>h5.le hh∧(∀ j,j < k→OkAt p j) ∧ ∃ y9 y10,e=[prV p.harts d r t,ptr q,iI 0,ptr c,.bool true,.bool false,iI (i:Int),y7,iI (k:Int),y9,y10]) ?_ (Nat.zero_le _) ⟨Heap.le.refl _,fun j hj=>by omega,_,_,rfl⟩;rintro k _ h6 R2 hk ⟨l6,hz,y9,y10,rfl⟩ hR2;have gq6:=l6.get gq5;have gc6:=l6.get gc5;have l06:=l05.h.trans l6;delta yx3;by_cases hlk:k < p.tasks.length
 case pos =>
  have hlk' : (k:Int) < p.tasks.length:=by omega
  have hw:IntKind.i64.wrap ((k:Int) + 1)=((k + 1:Nat):Int):=by have:=hl3.h;rw [zn (by omega) (by omega)];rfl
  obtain ⟨tk,htk⟩:∃ z,p.tasks[k]? = some z:=⟨_,List.getElem?_eq_getElem hlk⟩;obtain ⟨id,off,cells,own,u,e1,e2,_,hb,e4⟩:=(ht5.h.mono l6).elem0 htk;have c5:cells[off + 5]? = some u:=e4 5 (by omega);have htm:=List.mem_of_getElem? htk;have hx6:=hx5.h.mono l6;clear e4;replace hx6:=za hx6;replace l6:=za l6;replace l06:=za l06;replace hz:=za hz;replace hb:=za hb;replace htk:=za htk;replace htm:=za htm;simp only [zb,aR,ze,zf,yb, *];refine zy0 30 p _ tk.body u [] zq 0 h6 _ hx6.h (by have:=hl3.h;omega) (hst.h tk htm.h) (by have:=hbl.h tk htm.h;omega) (by simp) hb.h (.inl ⟨rfl,rfl⟩) fun h7 e m l7 hok hno=>?_;have gc7:=l7.get gc6;have hoa:=zz6 htk.h;by_cases hob:zj6 p (zl p) [] tk.body
  ·obtain ⟨rfl,rfl⟩:=hok hob;have g:=fun y9 y10=>hR2.h [prV p.harts d r t,ptr q,iI 0,ptr c,.bool true,.bool false,iI (i:Int),y7,iI ((k + 1:Nat):Int),y9,y10] h7 hlk ⟨l6.h.trans l7,fun j hj=>by
    rcases Nat.lt_succ_iff_lt_or_eq.1 hj with hj | rfl
    ·exact hz.h j hj
    ·exact hoa.2 hob,y9,y10,rfl⟩
   clear hR2 bad hok hno hob hoa;replace g:=za g;replace l7:=za l7;simp only [zb,ze,zf, *];exact g.h _ _
  ·have hz0:=hno hob;have hz1:(e != 0)=true:=by simpa using hz0
   obtain ⟨hU,s1,g⟩:=bad.h h7 e k m (prV p.harts d r t) (ptr q) [.bool true,.bool false,iI (i:Int),y7,iI (k:Int),iI e,iI m] (l06.h.trans l7) gc7 (by constructor;exact fun e=>absurd e hz0;rintro ⟨_,_,_,h⟩;exact absurd (hoa.1 (h k hlk)) hob);clear hR2 bad hz0 hok hno hob hoa;replace g:=za g;replace l7:=za l7;simp only [zb,aW,ze,zf,pb2, *];exact g.h
 case neg =>
 have hlk' : ¬ (k:Int) < p.tasks.length:=by omega
 obtain ⟨hU,s1,g⟩:=bad.h h6 0 0 0 (prV p.harts d r t) (ptr q) [.bool true,.bool false,iI (i:Int),y7,iI (k:Int),y9,y10] l06 gc6 ⟨fun _=>⟨hrp,hnd.h,hheads.h,fun j hj=>hz j (by omega)⟩,fun _=>rfl⟩;clear hR2 bad hz;replace g:=za g;replace l6:=za l6;simp only [zb,aR,aW,ze,zf,pb0, *];exact g.h
theorem right9_c {h:Heap}{p:Prg}{x:lVq}(hx:PrC h p x) (hbl:∀ tk ∈ p.tasks,ye tk.body≤100000) (Q:vPq) (hq:∀ h' b,h.le h' → (b=true↔zd3 p)→Q (.bool b) h'):CallW Tryz.prog 31 [.agg x.toArray] h Q:=by
 obtain ⟨d,r,t,rfl,hd,hr,ht⟩:=hx;have hx0:PrC h p [iI p.harts,d,r,t]:=⟨d,r,t,rfl,hd,hr,ht⟩;have bx1:=yy (n:=p.harts) hd.one hr.one ht.one;obtain ⟨b1,h1,eb1,eh1,gb1,lh1⟩:=zj h [iI p.harts,d,r,t];have hx1:=hx0.mono lh1;clear hd hr ht;replace hx0:=za hx0;replace hx1:=za hx1;replace lh1:=za lh1;replace hbl:=za hbl;refine zg (k:=2) ok31 rfl rfl rfl fun N=>?_;rw [Yo c31 u0 rfl];delta c31;replace hq:=za hq;simp only [zb,aR,yb, *];refine check8_c hx1.h hbl.h _ fun h2 e a b l2 he=>?_;have st2:zt 2 (h2.alloc (.blk [iI 0,iI 0] true)) [pT h2.next 0,.agg #[iI a,iI b]]=some (udq,h2.alloc (.blk [iI a,iI b] true)):=zx rfl rfl rfl rfl;obtain ⟨q3,h3,eq3,eh3,gq3,lh3⟩:=zj h2 [iI a,iI b];rw [eh3,eq3] at st2;have g:=hq.h h3 (e == 0) ((lh1.h.trans l2).trans lh3) (by rw [beq_iff_eq];exact he);clear he;replace l2:=za l2;replace lh3:=za lh3;replace g:=za g;simp only [zb,aW,ze,zf, *];exact g.h
open Classical in
noncomputable def okB (p:Prg):Bool:=decide (zd3 p)
theorem qy {p:Prg}:okB p=true↔zd3 p:=by unfold okB;exact @decide_eq_true_iff _ (Classical.propDecidable _)
theorem okB_eq {p:Prg}{b:Bool}(h:b=true↔zd3 p):b=okB p:=by rw [Bool.eq_iff_iff,h,qy]
theorem CheckIs.ok {p:Prg}{e i n:Int}(h:CheckIs p e i n):(e=0↔zd3 p)∧(zd3 p→e=0∧i=0∧n=0):=by
 have key:(e=0∧i=0∧n=0∧zd3 p)∨(e≠0 ∧ ¬ zd3 p):=by
  rcases h with ⟨h1,h2,_⟩ | ⟨h1,h2,h3,_⟩ | ⟨_,_,k,hk,h1,_,h2,_⟩ | ⟨_,_,_,k,m,hk,⟨tk,x,h1,h2,h3,h4,_⟩,_⟩ | ⟨h1,h2,h3,h4,h5,h6,h7⟩
  ·exact .inr ⟨by omega,fun ho=>by rw [ho.1] at h1;cases h1⟩
  ·exact .inr ⟨by omega,fun ho=>h2 ho.2.1⟩
  ·exact .inr ⟨by omega,fun ho=>h1 (ho.2.2.1 k hk)⟩
  ·exact .inr ⟨h4,fun ho=>h4 (h3.trans (ho.2.2.2 k hk tk h1 x (List.mem_of_getElem? h2)))⟩
  ·exact .inl ⟨h5,h6,h7,h1,h2,h3,h4⟩
 rcases key with ⟨h1,h2,h3,h4⟩ | ⟨h1,h2⟩
 ·exact ⟨⟨fun _=>h4,fun _=>h1⟩,fun _=>⟨h1,h2,h3⟩⟩
 ·exact ⟨⟨fun e=>absurd e h1,fun h=>absurd h h2⟩,fun h=>absurd h h2⟩
def Prg.sz (p:Prg):Prop:=∀ tk ∈ p.tasks,ye tk.body≤100000
theorem U0 {p:Prg}(ho:zd3 p) (hs:p.sz):OkQ p:=by
 obtain ⟨h1,h2,h3,h4⟩:=ho;have hl:=qk h1;obtain ⟨r1,_,_,r4⟩:=vz h1;have htk:∀ t ∈ p.tasks,(0≤t.hart∧t.hart≤3)∧(1≤t.prio∧t.prio≤7):=fun t ht=>by
  have:=r4 t ht;simp only [js,Bool.and_eq_true,decide_eq_true_eq] at this;exact ⟨this.1.1.1.2,this.1.1.2⟩
 refine ⟨⟨fun e i n hc=>hc.ok.2 ⟨h1,h2,h3,h4⟩,fun tk ht=>?_⟩,by omega,fun t ht=>?_,fun t ht=>⟨(htk t ht).1.1,?_⟩,by omega,by omega,fun t ht=>⟨Zy h1 t ht,hs t ht⟩,fun t ht=>?_⟩
 ·rw [wz];have:=hs tk ht;omega
 ·have:=(htk t ht).2;omega
 ·obtain ⟨i,hi⟩:=List.mem_iff_getElem?.1 ht;have:=h3 i (List.getElem?_eq_some_iff.1 hi).1;unfold wx at this;rw [hi] at this;dsimp only at this;by_cases hh:p.harts≤t.hart
  ·rw [if_pos hh] at this;omega
  ·omega
 ·obtain ⟨i,hi⟩:=List.mem_iff_getElem?.1 ht;exact (zz6 hi).1 (h4 i (List.getElem?_eq_some_iff.1 hi).1)
structure OkF (p:Prg):Prop where
 nd:(p.ress.map (·.name)).Nodup
 lk:∀ t ∈ p.tasks,∀ z ∈ uj p t.body,0≤z∧z < p.ress.length
 prio:∀ t ∈ p.tasks,1≤t.prio∧t.prio≤7
 hart:∀ t ∈ p.tasks,0≤t.hart∧t.hart < p.harts
theorem U1 {p:Prg}(ho:zd3 p) (hs:p.sz):OkF p:=by
 have hq:=U0 ho hs;refine ⟨?_,fun t ht=>Wx t.body [] (hq.ok t ht),fun t ht=>?_,hq.hart⟩
 ·have:=ho.2.1;unfold zl at this;exact (List.nodup_append.1 (List.nodup_append.1 this).1).2.1
 ·have:=(vz ho.1).2.2.2 t ht;simp only [js,Bool.and_eq_true,decide_eq_true_eq] at this;exact this.1.1.2
noncomputable def yj6 (p:Prg) (i:Int):List Int:=if okB p=true∧0≤i∧i < p.tasks.length then Zd p ((p.tasks.map (·.body)).getD i.toNat []) p.ress.length else []
noncomputable def zc6 (p:Prg):List (List Int):=if okB p=true then (List.range p.harts.toNat).map fun (a:Nat)=>(List.range p.ress.length).map fun (k:Nat)=>rcT p a k p.tasks else []
noncomputable def levS (p:Prg) (a v:Int) (l:List Int):Int:=if okB p=true∧0≤a∧a < p.harts then lvR p a v l else 0
noncomputable def yj3 (p:Prg) (a v:Int):List Int:=if okB p=true∧0≤a∧a < p.harts then Wf p a v else []
noncomputable def yv9 (p:Prg) (a:Int):Nat:=if okB p=true∧0≤a∧a < p.harts then chK a p.tasks 7 + Zt a p.tasks else 0
theorem ya8 {a:Int}:∀ {k:Nat}{ts:List Tsk},(∀ t ∈ ts,t.hart≠a)→Jm a k ts=[]
 | k,[],_=>rfl
 | k,t::r,h=>by
  simp only [Jm];rw [if_neg (fun hc=>h t (by simp) hc.2),ya8 fun x hx=>h x (by simp [hx])];rfl
theorem yw0 {a:Int}:∀ {ts:List Tsk}(s:Nat × List Int),(∀ t ∈ ts,t.hart≠a)→ts.foldl (chS a) s=s
 | [],s,_=>rfl
 | t::r,s,h=>by
  have:chS a s t=s:=by unfold chS;rw [if_pos (h t (by simp))]
  rw [List.foldl_cons,this];exact yw0 s fun x hx=>h x (by simp [hx])
theorem OkF.out {p:Prg}(hf:OkF p){a:Int}(ha:¬ (0≤a∧a < p.harts)):∀ t ∈ p.tasks,t.hart≠a:=fun t ht e=>by
 have:=hf.hart t ht;rw [e] at this;exact ha this
theorem staS_ok {p:Prg}(ho:zd3 p) (hf:OkF p) (a v:Int):Wf p a v=yj3 p a v:=by
 unfold yj3;by_cases ha:0≤a∧a < p.harts
 ·rw [if_pos ⟨qy.2 ho,ha⟩]
 ·rw [if_neg fun h=>ha h.2];unfold Wf;rw [ya8 (hf.out ha)];rfl
theorem chaS_ok {p:Prg}(ho:zd3 p) (hf:OkF p) (a:Int):(chL a p.tasks).1 + (chL a p.tasks).2.length=yv9 p a:=by
 unfold yv9;by_cases ha:0≤a∧a < p.harts
 ·rw [if_pos ⟨qy.2 ho,ha⟩];exact yv8 hf.prio a
 ·rw [if_neg fun h=>ha h.2];unfold chL;rw [yw0 _ (hf.out ha)];rfl
theorem locS_ok {p:Prg}(ho:zd3 p) (hf:OkF p){i:Nat}{t:Tsk}(hi:p.tasks[i]? = some t):locL p t=yj6 p i:=by
 have hlt:=(List.getElem?_eq_some_iff.1 hi).1;unfold yj6;rw [if_pos ⟨qy.2 ho,by omega,by omega⟩,locL_ref hf.nd (hf.lk t (List.mem_of_getElem? hi)),Int.toNat_natCast,List.getD_eq_getElem?_getD,List.getElem?_map,hi];rfl
def IIs (h:Heap) (v:Value) (rows:List (List Int)):Prop:=∃ ws:lVq,SlV h 1 v (ws.map fun w=>[w])∧ws.length=rows.length ∧ ∀ (i:Nat) (w:Value) (r:List Int),ws[i]? = some w→rows[i]? = some r→Ints h w r
theorem IIs.mono {h h' : Heap}(hl:h.le h'){v:Value}{rows:List (List Int)}(hv:IIs h v rows):IIs h' v rows :=
 let ⟨ws,a,b,c⟩:=hv;⟨ws,a.mono hl,b,fun i w r h1 h2=>SlV.mono hl (c i w r h1 h2)⟩
theorem IIs.len {h:Heap}{v:Value}{rows:List (List Int)}(hv:IIs h v rows):ua [v]=some (iI rows.length):=by
 obtain ⟨ws,a,b,c⟩:=hv;have:=a.len
 rwa [List.length_map,b] at this
theorem IIs.elem {h:Heap}{v:Value}{rows:List (List Int)}(hv:IIs h v rows){i:Nat}{r:List Int}(hi:rows[i]? = some r) :
  ∃ id off cells own w,zp 1 [v,iI (i:Int)]=some (pT id off)∧h.get id=some (.blk cells own)∧cells[off]? = some w∧Ints h w r:=by
 obtain ⟨ws,a,b,c⟩:=hv;have hlt:=(List.getElem?_eq_some_iff.1 hi).1;obtain ⟨w,hw⟩:∃ w,ws[i]? = some w:=⟨_,List.getElem?_eq_getElem (by omega)⟩;obtain ⟨id,off,cells,own,e1,e2,_,e4⟩:=SlV.elem a (i:=i) (x:=[w]) (by rw [List.getElem?_map,hw];rfl);exact ⟨id,off,cells,own,w,e1,e2,by have:=e4 0 (by omega);rwa [Nat.add_zero] at this,c i w r hw hi⟩
theorem row_at {h:Heap}{id:Nat}{l:List Int}(hg:h.get id=some (.blk (l.map (.int .i64)) true)):Ints h (.slice (some ⟨id,0,none⟩) l.length 1) l:=by
 refine .inr ⟨id,0,by simp,.inr ⟨_,_,hg,fun i x hi=>?_⟩⟩;rw [List.getElem?_map] at hi;cases hc:l[i]? with
 | none=>rw [hc] at hi;cases hi
 | some z =>
  rw [hc] at hi;cases hi;have hlt:=(List.getElem?_eq_some_iff.1 hc).1;refine ⟨rfl,by rw [List.length_map];omega,?_⟩;have e:(l.map (Value.int .i64))[i]? = some (iI z):=by rw [List.getElem?_map,hc];rfl
  rw [show 0 + i * 1=i by omega];obtain ⟨hb,he'⟩:=List.getElem?_eq_some_iff.1 e;rw [List.drop_eq_getElem_cons hb,List.take_succ_cons,List.take_zero,he']
theorem slV_ones {h:Heap}{id:Nat}{ws:lVq}(hg:h.get id=some (.blk ws true)):SlV h 1 (.slice (some ⟨id,0,none⟩) ws.length 1) (ws.map fun w=>[w]):=by
 refine .inr ⟨id,0,by simp,.inr ⟨_,_,hg,fun i x hi=>?_⟩⟩;rw [List.getElem?_map] at hi;cases hc:ws[i]? with
 | none=>rw [hc] at hi;cases hi
 | some z =>
  rw [hc] at hi;cases hi;have hlt:=(List.getElem?_eq_some_iff.1 hc).1;refine ⟨rfl,by omega,?_⟩;rw [show 0 + i * 1=i by omega];obtain ⟨hb,he'⟩:=List.getElem?_eq_some_iff.1 hc;rw [List.drop_eq_getElem_cons hb,List.take_succ_cons,List.take_zero,he']
theorem MatV.rows {n0 m0 H n:Nat}{h:Heap}{v:Value}{id0:Nat}{ids:Nat→Nat}{V:Mat}(hm:MatV n0 m0 H n h v id0 ids V):IIs h v ((List.range H).map fun a=>(List.range n).map fun k=>V a k):=by
 refine ⟨(List.range H).map (yj5 ids n),?_,by simp,fun i w r h1 h2=>?_⟩
 ·have:=slV_ones hm.top;rw [List.length_map,List.length_range,← hm.val] at this;exact this
 ·have hi:i < H:=by have:=(List.getElem?_eq_some_iff.1 h1).1;simpa using this
  rw [Qe _ hi] at h1 h2;cases h1;cases h2;have hr:=hm.row i hi;have e:rowC n (V i)=((List.range n).map fun k=>V i k).map (.int .i64):=by simp [rowC]
  rw [e] at hr;have:=row_at hr
  rwa [List.length_map,List.length_range] at this
theorem Qs {h:Heap}{p:Prg}{x:lVq}(hx:PrC h p x) (hs:p.sz) (Q:vPq) (hq:∀ h',h.le h' → Q (.bool (okB p)) h'):CallW Tryz.prog 29 [.agg x.toArray] h Q:=by
 obtain ⟨d,r,t,rfl,hd,hr,ht⟩:=hx;have hx0:PrC h p [iI p.harts,d,r,t]:=⟨d,r,t,rfl,hd,hr,ht⟩;have bx1:=yy (n:=p.harts) hd.one hr.one ht.one;obtain ⟨b1,h1,eb1,eh1,gb1,lh1⟩:=zj h [iI p.harts,d,r,t];have hx1:=hx0.mono lh1;have hbl:∀ tk ∈ p.tasks,(zy [] tk.body).length < 4611686018427387904:=fun tk ht=>by rw [wz];have:=hs tk ht;omega
 clear hd hr ht;replace hx0:=za hx0;replace hx1:=za hx1;replace lh1:=za lh1;replace hbl:=za hbl;replace hs:=za hs;refine zg (k:=2) ok29 rfl rfl rfl fun N=>?_;rw [Yo c29 u0 rfl];delta c29;replace hq:=za hq;simp only [zb,aR,yb, *];refine qd0 hx1.h hbl.h _ fun h2 e i n hci l2=>?_;have hb:(e == 0)=okB p:=okB_eq (by rw [beq_iff_eq];exact hci.ok.1);have st2:zt 2 (h2.alloc (.blk [iI 0,iI 0] true)) [pT h2.next 0,.agg #[iI i,iI n]]=some (udq,h2.alloc (.blk [iI i,iI n] true)):=zx rfl rfl rfl rfl;obtain ⟨q3,h3,eq3,eh3,gq3,lh3⟩:=zj h2 [iI i,iI n];rw [eh3,eq3] at st2;have g:=hq.h h3 ((lh1.h.trans l2).trans lh3);rw [← hb] at g;clear hci hb;replace l2:=za l2;replace lh3:=za lh3;replace g:=za g;simp only [zb,aW,ze,zf, *];exact g.h
theorem yw6 {h:Heap}{p:Prg}{x:lVq}(hx:PrC h p x) (hs:p.sz) (Q:vPq) (hq:∀ h' v,h.le h' → IIs h' v (zc6 p)→Q v h'):CallW Tryz.prog 12 [.agg x.toArray] h Q:=by
 by_cases ho:zd3 p
 case pos =>
  refine zb7 hx (U0 ho hs) Q fun h' v n0 m0 id0 ids l hm=>hq h' v l ?_;have hf:=U1 ho hs;have e:zc6 p=(List.range p.harts.toNat).map fun (a:Nat)=>(List.range p.ress.length).map fun (k:Nat)=>uw p p.tasks a k:=by
   unfold zc6;rw [if_pos (qy.2 ho)];refine List.map_congr_left fun a _=>List.map_congr_left fun k hk=>?_;rw [yc0 hf.nd hf.lk a (List.mem_range.1 hk)]
  rw [e];exact hm.rows
 have hb:okB p=false:=by cases h:okB p with
  | false=>rfl
  | true=>exact absurd (qy.1 h) ho
 obtain ⟨d,r,t,rfl,hd,hr,ht⟩:=hx;have hx0:PrC h p [iI p.harts,d,r,t]:=⟨d,r,t,rfl,hd,hr,ht⟩;have bx1:=yy (n:=p.harts) hd.one hr.one ht.one;obtain ⟨b1,h1,eb1,eh1,gb1,lh1⟩:=zj h [iI p.harts,d,r,t];have hx1:=hx0.mono lh1;have e:zc6 p=[]:=by unfold zc6;rw [hb];rfl
 rw [e] at hq;clear hd hr ht hx0 e;replace hx1:=za hx1;replace lh1:=za lh1;replace hs:=za hs;replace ho:=za ho;refine zg (k:=2) ok12 rfl rfl rfl fun N=>?_;rw [Yo c12 und18q rfl];delta c12;replace hq:=za hq;simp only [zb,aR,yb, *];refine Qs hx1.h hs.h _ fun h2 l2=>?_;rw [hb];have g:=hq.h h2 zq (lh1.h.trans l2) ⟨[],.inl ⟨rfl,rfl⟩,rfl,fun i w r h1 _=>by cases h1⟩;replace g:=za g;replace l2:=za l2;simp only [zb, *];exact g.h
theorem rowS_len {p:Prg}(hs:p.sz){a:Int}(ha:¬ (okB p=true∧0≤a∧a < p.harts)):a < 0∨((zc6 p).length:Int)≤a:=by
 unfold zc6;by_cases hb:okB p=true
 ·rw [if_pos hb,List.length_map,List.length_range];have:=(vz (qy.1 hb).1).1;by_cases h0:a < 0
  ·exact .inl h0
  ·refine .inr ?_;have:¬ a < p.harts:=fun h=>ha ⟨hb,by omega,h⟩;omega
 ·rw [if_neg hb];simp only [List.length_nil];omega
theorem cLevel_c {h:Heap}{p:Prg}{x:lVq}(hx:PrC h p x) (hs:p.sz) (a v:Int){hv:Value}{l:List Int}(hl:Ints h hv l) (hl2:l.length≤1000000) (Q:vPq) (hq:∀ h',h.le h' → Q (iI (levS p a v l)) h'):CallW Tryz.prog 16 [.agg x.toArray,iI a,iI v,hv] h Q:=by
 unfold levS at hq;by_cases ha:okB p=true∧0≤a∧a < p.harts
 case pos =>
  have ho:=qy.1 ha.1;have hf:=U1 ho hs;obtain ⟨k,rfl⟩:∃ k:Nat,a=(k:Int):=⟨a.toNat,by omega⟩;refine Level_c hx (U0 ho hs) ha.2.2 v hl hl2 Q fun h' l'=>?_;have:=hq h' l';rw [if_pos ha,← ya2 hf.nd hf.lk] at this;exact this
 rw [if_neg ha] at hq;have hr0:=rowS_len hs ha;obtain ⟨d,r,t,rfl,hd,hr,ht⟩:=hx;have hx0:PrC h p [iI p.harts,d,r,t]:=⟨d,r,t,rfl,hd,hr,ht⟩;have bx1:=yy (n:=p.harts) hd.one hr.one ht.one;obtain ⟨b1,h1,eb1,eh1,gb1,lh1⟩:=zj h [iI p.harts,d,r,t];have hx1:=hx0.mono lh1;clear hd hr ht hx0 ha hl hl2;replace hx1:=za hx1;replace lh1:=za lh1;replace hs:=za hs;refine zg (k:=5) ok16 rfl rfl rfl fun N=>?_;rw [ev4q c16 zr4 rfl];delta c16;replace hq:=za hq;simp only [zb,aR,yb, *];refine yw6 hx1.h hs.h _ fun h2 cv l2 hc=>?_;have lnc:=hc.len;have g:=hq.h h2 (lh1.h.trans l2);replace g:=za g;replace l2:=za l2;replace hc:=za hc;by_cases a0:a < 0
 ·clear hr0;simp only [zb,ze,zf, *];exact g.h
 ·have a1:((zc6 p).length:Int)≤a:=by omega
  clear hr0;simp only [zb,ze,zf, *];exact g.h
theorem yw5 {h:Heap}{p:Prg}{x:lVq}(hx:PrC h p x) (hs:p.sz) (a v:Int) (Q:vPq) (hq:∀ h' w,h.le h' → Ints h' w (yj3 p a v)→Q w h'):CallW Tryz.prog 18 [.agg x.toArray,iI a,iI v] h Q:=by
 by_cases ho:zd3 p
 case pos =>
  have hf:=U1 ho hs;refine Starts_c hx (U0 ho hs) a v Q fun h' w l hw=>hq h' w l ?_;rw [← staS_ok ho hf];exact hw
 have hb:okB p=false:=by cases h:okB p with
  | false=>rfl
  | true=>exact absurd (qy.1 h) ho
 have e:yj3 p a v=[]:=by unfold yj3;rw [hb];rfl
 rw [e] at hq;obtain ⟨d,r,t,rfl,hd,hr,ht⟩:=hx;have hx0:PrC h p [iI p.harts,d,r,t]:=⟨d,r,t,rfl,hd,hr,ht⟩;have bx1:=yy (n:=p.harts) hd.one hr.one ht.one;have bx2:Je [iI v]=some ([iI v],fun id=>(pT id 0)):=rfl;obtain ⟨b1,h1,eb1,eh1,gb1,lh1⟩:=zj h [iI p.harts,d,r,t];obtain ⟨b2,h2,eb2,eh2,gb2,lh2⟩:=zj h1 [iI v];have gb1':=lh2.get gb1;have l02:=lh1.trans lh2;have hx2:=hx0.mono l02;clear hd hr ht hx0 e;replace hx2:=za hx2;replace lh1:=za lh1;replace lh2:=za lh2;replace l02:=za l02;replace hs:=za hs;replace ho:=za ho;refine zg (k:=5) ok18 rfl rfl rfl fun N=>?_;rw [zj7 c18 Ub rfl];delta c18;replace hq:=za hq;simp only [zb,aR,yb, *];refine Qs hx2.h hs.h _ fun h3 l3=>?_;rw [hb];have g:=hq.h h3 zq (l02.h.trans l3) (.inl ⟨rfl,rfl⟩);replace g:=za g;replace l3:=za l3;simp only [zb, *];exact g.h
theorem cChain_c {h:Heap}{p:Prg}{x:lVq}(hx:PrC h p x) (hs:p.sz) (a:Int) (Q:vPq) (hq:∀ h',h.le h' → Q (iI (yv9 p a:Nat)) h'):CallW Tryz.prog 20 [.agg x.toArray,iI a] h Q:=by
 by_cases ho:zd3 p
 case pos =>
  have hf:=U1 ho hs;refine Chain_c hx (U0 ho hs) a Q fun h' l=>?_;rw [chaS_ok ho hf];exact hq h' l
 have hb:okB p=false:=by cases h:okB p with
  | false=>rfl
  | true=>exact absurd (qy.1 h) ho
 have e:yv9 p a=0:=by unfold yv9;rw [hb];rfl
 rw [e] at hq;obtain ⟨d,r,t,rfl,hd,hr,ht⟩:=hx;have hx0:PrC h p [iI p.harts,d,r,t]:=⟨d,r,t,rfl,hd,hr,ht⟩;have bx1:=yy (n:=p.harts) hd.one hr.one ht.one;obtain ⟨b1,h1,eb1,eh1,gb1,lh1⟩:=zj h [iI p.harts,d,r,t];have hx1:=hx0.mono lh1;clear hd hr ht hx0 e;replace hx1:=za hx1;replace lh1:=za lh1;replace hs:=za hs;replace ho:=za ho;refine zg (k:=3) ok20 rfl rfl rfl fun N=>?_;rw [wn c20 zr4 rfl];delta c20;replace hq:=za hq;simp only [zb,aR,yb, *];refine Qs hx1.h hs.h _ fun h2 l2=>?_;rw [hb];have g:=hq.h h2 (lh1.h.trans l2);replace g:=za g;replace l2:=za l2;simp only [zb, *];exact g.h
theorem cLocks_c {h:Heap}{p:Prg}{x:lVq}(hx:PrC h p x) (hs:p.sz) (i:Int) (Q:vPq) (hq:∀ h' w,h.le h' → Ints h' w (yj6 p i)→Q w h'):CallW Tryz.prog 22 [.agg x.toArray,iI i] h Q:=by
 by_cases ha:okB p=true∧0≤i∧i < p.tasks.length
 case pos =>
  have ho:=qy.1 ha.1;have hf:=U1 ho hs;obtain ⟨k,rfl⟩:∃ k:Nat,i=(k:Int):=⟨i.toNat,by omega⟩;obtain ⟨tk,htk⟩:∃ t,p.tasks[k]? = some t:=⟨_,List.getElem?_eq_getElem (by omega)⟩;refine Locks_c hx (U0 ho hs) htk Q fun h' w l hw=>hq h' w l ?_;rw [← locS_ok ho hf htk];exact hw
 have e:yj6 p i=[]:=by unfold yj6;rw [if_neg ha]
 rw [e] at hq;obtain ⟨d,r,t,rfl,hd,hr,ht⟩:=hx;have hx0:PrC h p [iI p.harts,d,r,t]:=⟨d,r,t,rfl,hd,hr,ht⟩;have bx1:=yy (n:=p.harts) hd.one hr.one ht.one;have lnt:=ht.len;obtain ⟨b1,h1,eb1,eh1,gb1,lh1⟩:=zj h [iI p.harts,d,r,t];have hx1:=hx0.mono lh1;clear hd hr ht hx0 e;replace hx1:=za hx1;replace lh1:=za lh1;replace hs:=za hs;refine zg (k:=3) ok22 rfl rfl rfl fun N=>?_;rw [wn c22 u0 rfl];delta c22;replace hq:=za hq;simp only [zb,aR,yb, *];refine Qs hx1.h hs.h _ fun h2 l2=>?_;have g2:=l2.get gb1;have g:=hq.h h2 zq (lh1.h.trans l2) (.inl ⟨rfl,rfl⟩);obtain ⟨b,hb⟩:∃ b,okB p=b:=⟨_,rfl⟩;rw [hb] at ha;rw [hb];replace g:=za g;replace l2:=za l2;replace hb:=za hb;cases b with
 | false =>
  clear ha;simp only [zb, *];exact g.h
 | true =>
  by_cases i0:i < 0
  ·clear ha;simp only [zb,ze,zf, *];exact g.h
  ·have i1:(p.tasks.length:Int)≤i:=Int.not_lt.1 fun h=>ha ⟨rfl,by omega,h⟩;clear ha;simp only [zb,aR,ze,zf, *];exact g.h
theorem lkdS_eq (m:lBq) (s:St):lkdS m s=(ju m s.thn || ju m s.els || (s.kind == 5 && s.name == m)):=by cases s;rfl
def Lk9C (d:Nat):Prop:=∀ (ss:List St) (v:Value) (m:lBq) (h:Heap) (Q:vPq),(∀ s ∈ ss,StI s d)→ye ss≤1000000→StsV h v ss→(∀ h',h.le h' → Q (.bool (ju m ss)) h')→CallW Tryz.prog 40 [v,str m] h Q
theorem lk9_of {d:Nat}(ih:∀ k,d=k + 1→Lk9C k):Lk9C d:=by
 intro ss v m h Q hI hcn hv hq;have lns:=hv.len;have hsl:=Kp ss;replace hv:=za hv;replace ih:=za ih;replace hI:=za hI;refine zg (k:=2) ok40 rfl rfl rfl fun N=>?_;rw [wn c40 Ub rfl];delta c40;replace hq:=za hq;simp only [zb, *];refine LoopW.upto ss.length (fun i en hX=>h.le hX∧ju m (ss.take i)=false ∧ ∃ y4 y5,en=[v,str m,.bool false,iI (i:Int),y4,y5]) ?_ (Nat.zero_le _) ⟨Heap.le.refl _,by simp [ju],_,_,rfl⟩;rintro i _ h1 R hi ⟨l1,h0,y4,y5,rfl⟩ hR;delta c40_l8;by_cases hlt:i < ss.length
 case neg =>
  have hlt' : ¬ (i:Int) < ss.length:=by omega
  rw [List.take_of_length_le (by omega)] at h0;have g:=hq.h h1 l1;rw [h0] at g;clear hR hq h0;replace g:=za g;replace l1:=za l1;simp only [zb,ze,zf, *];exact g.h
 have hlt' : (i:Int) < ss.length:=by omega
 have hw:IntKind.i64.wrap ((i:Int) + 1)=((i + 1:Nat):Int):=by rw [zn (by omega) (by omega)];rfl
 obtain ⟨s,he⟩:∃ e,ss[i]? = some e:=⟨_,List.getElem?_eq_getElem hlt⟩;obtain ⟨ct1,ct2⟩:=Vh he;have ceq:=Kq s;have hmem:=List.mem_of_getElem? he;obtain ⟨d',ed,_,_,htI,heI⟩:=(hI.h s hmem).sub0;obtain ⟨id,off,cells,own,x,e1,e2,e3,hxs,e4⟩:=(hv.h.mono l1).elem he;obtain ⟨va,vu,vw,rfl,hva,hvu,hvw⟩:=hxs.cells;have k0:cells[off]? = some (iI s.kind):=e4 0 (by omega);have k1:cells[off + 1]? = some (str s.name):=e4 1 (by omega);have k5:cells[off + 5]? = some vu:=e4 5 (by omega);have k6:cells[off + 6]? = some vw:=e4 6 (by omega);have gT:=fun (h' : Heap) (hl:h.le h') (hs:lkdS m s=true)=>(show Q (.bool true) h' from by
  have g:=hq.h h' hl
  rwa [zm5 hmem hs] at g)
 have gF:=fun (h' : Heap) (hl:h.le h') (y4 y5:Value) (hs:lkdS m s=false)=>hR.h [v,str m,.bool false,iI ((i + 1:Nat):Int),y4,y5] h' hlt ⟨hl,by rw [yg1 he,h0,hs];rfl,y4,y5,rfl⟩;rw [lkdS_eq] at gT gF;clear e3 e4 h0 hR hq;replace l1:=za l1;replace hxs:=za hxs;replace hva:=za hva;replace hvu:=za hvu;replace hvw:=za hvw;replace ct1:=za ct1;replace ct2:=za ct2;replace ceq:=za ceq;replace htI:=za htI;replace heI:=za heI;replace ed:=za ed;replace he:=za he;replace gT:=za gT;replace gF:=za gF;replace hmem:=za hmem;simp only [zb,aR,ze,zf, *];have ihd:=ih.h d' ed.h;refine ihd s.thn vu m h1 _ htI.h (by have:=ct2.h;have:=ceq.h;omega) hvu.h fun h2 l2=>?_;have e22:=l2.get e2;obtain ⟨b1,hb1⟩:∃ b,ju m s.thn=b:=⟨_,rfl⟩;have gT:=gT.h;have gF:=gF.h;rw [hb1] at gT gF;rw [hb1];replace l2:=za l2;replace ihd:=za ihd;replace gT:=za gT;replace gF:=za gF;replace hb1:=za hb1;simp only [zb,aR, *];refine ihd.h s.els vw m h2 _ heI.h (by have:=ct2.h;have:=ceq.h;omega) (hvw.h.mono l2.h) fun h3 l3=>?_;have e23:=l3.get e22;have l03:=l1.h.trans (l2.h.trans l3);obtain ⟨b2,hb2⟩:∃ b,ju m s.els=b:=⟨_,rfl⟩;have gT:=gT.h h3 l03;have gF:=fun y4 y5=>gF.h h3 l03 y4 y5;rw [hb2] at gT gF;rw [hb2];have es:=Jp s.name m;clear e2 e22;replace l3:=za l3;replace l03:=za l03;replace gT:=za gT;replace gF:=za gF;replace hb2:=za hb2;cases b1 with
 | true =>
  have g:=gT.h rfl;clear gT gF;replace g:=za g;simp only [zb, *];exact g.h
 | false =>
 cases b2 with
 | true =>
  have g:=gT.h rfl;clear gT gF;replace g:=za g;simp only [zb, *];exact g.h
 | false =>
 cases ck:(s.kind == 5) with
 | false =>
  have g:=gF.h (.bool false) (.bool false) (by rw [ck];rfl);clear gT gF;replace g:=za g;simp only [zb,aR,ze,zf, *];exact g.h
 | true =>
 cases cm:(s.name == m) with
 | true =>
  have g:=gT.h (by rw [ck,cm];rfl);rw [cm] at es;clear gT gF;replace g:=za g;simp only [zb,aR,ze,zf, *];exact g.h
 | false =>
  have g:=gF.h (.bool false) (.bool false) (by rw [ck,cm];rfl);rw [cm] at es;clear gT gF;replace g:=za g;simp only [zb,aR,ze,zf, *];exact g.h
theorem lk9_c:∀ d,Lk9C d
 | 0=>lk9_of fun m h=>by omega
 | d + 1=>lk9_of fun m h=>by cases h;exact lk9_c d
theorem refNm {h:Heap}{r:Value}{l:List Nm}(hr:NmsV h r l){i:Nat}{d:Nm}(hi:l[i]? = some d):∃ id off cells own,zp 2 [r,iI (i:Int)]=some (pT id off)∧h.get id=some (.blk cells own)∧cells[off]? = some (str d.name):=by
 obtain ⟨id,off,cells,own,e1,e2,_,e4⟩:=SlV.elem hr.1 (i:=i) (x:=[str d.name,iI d.n]) (by simp [hi]);exact ⟨id,off,cells,own,e1,e2,by have:=e4 0 (by omega);rwa [Nat.add_zero] at this⟩
theorem Zz {h:Heap}{p:Prg}{x:lVq}(hx:PrC h p x) (hs:p.sz) (Q:vPq) (hq:∀ h',h.le h' → Q (.bool (okB p)) h'):CallW Tryz.prog 31 [.agg x.toArray] h Q :=
 right9_c hx hs Q fun h' b l hb=>by rw [okB_eq hb];exact hq h' l
theorem rLocks_c {h:Heap}{p:Prg}{x:lVq}(hx:PrC h p x) (hs:p.sz) (k:Int) (Q:vPq) (hq:∀ h' w,h.le h' → Ints h' w (yj6 p k)→Q w h'):CallW Tryz.prog 23 [.agg x.toArray,iI k] h Q:=by
 obtain ⟨d,r,t,rfl,hd,hr,ht⟩:=hx;have hx0:PrC h p [iI p.harts,d,r,t]:=⟨d,r,t,rfl,hd,hr,ht⟩;have bx1:=yy (n:=p.harts) hd.one hr.one ht.one;have lnt:=ht.len;have lnr:=hr.len;obtain ⟨b1,h1,eb1,eh1,gb1,lh1⟩:=zj h [iI p.harts,d,r,t];have hx1:=hx0.mono lh1;have hr1:=hr.mono lh1;have ht1:=ht.mono lh1;clear hd hr ht hx0;replace hx1:=za hx1;replace lh1:=za lh1;replace hs:=za hs;replace hr1:=za hr1;replace ht1:=za ht1;refine zg (k:=3) ok23 rfl rfl rfl fun N=>?_;rw [wn c23 und6q rfl];delta c23;replace hq:=za hq;simp only [zb,aR,yb, *];refine Zz hx1.h hs.h _ fun h2 l2=>?_;have gb2:=l2.get gb1;by_cases ha:okB p=true∧0≤k∧k < p.tasks.length
 case neg =>
  have e:yj6 p k=[]:=by unfold yj6;rw [if_neg ha]
  have g:=hq.h h2 zq (lh1.h.trans l2) (by rw [e];exact .inl ⟨rfl,rfl⟩);obtain ⟨b,hb⟩:∃ b,okB p=b:=⟨_,rfl⟩;rw [hb] at ha;rw [hb];clear hq e;replace g:=za g;replace l2:=za l2;replace hb:=za hb;cases b with
  | false =>
   clear ha;simp only [zb, *];exact g.h
  | true =>
   by_cases i0:k < 0
   ·clear ha;simp only [zb,ze,zf, *];exact g.h
   ·have i1:(p.tasks.length:Int)≤k:=Int.not_lt.1 fun h=>ha ⟨rfl,by omega,h⟩;clear ha;simp only [zb,aR,ze,zf, *];exact g.h
 have ho:=qy.1 ha.1;have hrl:=(qk ho.1).2.1;obtain ⟨j,rfl⟩:∃ j:Nat,k=(j:Int):=⟨k.toNat,by omega⟩;have hj:j < p.tasks.length:=by omega
 obtain ⟨tk,htk⟩:∃ t,p.tasks[j]? = some t:=⟨_,List.getElem?_eq_getElem hj⟩;have hst:=Zy ho.1 tk (List.mem_of_getElem? htk);have hsz:=hs.h tk (List.mem_of_getElem? htk);have e:yj6 p j=Zd p tk.body p.ress.length:=by
  unfold yj6;rw [if_pos ha,Int.toNat_natCast,List.getD_eq_getElem?_getD,List.getElem?_map,htk];rfl
 rw [e] at hq;have i0:¬ (j:Int) < 0:=by omega
 have i1:¬ (p.tasks.length:Int)≤j:=by omega
 have hb1:=ha.1;have l02:=lh1.h.trans l2;clear e ha;replace l2:=za l2;replace htk:=za htk;replace hst:=za hst;replace hsz:=za hsz;replace ho:=za ho;replace l02:=za l02;simp only [zb,aR,ze,zf, *];refine LoopW.upto p.ress.length (fun i en hX=>h2.le hX ∧ ∃ w y7,OwnS (zw h2.next) hX 1 w ((Zd p tk.body i).map inR)∧en=[prV p.harts d r t,iI (j:Int),ptr b1,zq,.bool true,w,iI (i:Int),y7]) ?_ (Nat.zero_le _) ⟨Heap.le.refl _,zq,_,OwnS.nil _ _ _,rfl⟩;rintro i _ h3 R hi ⟨l3,w,y7,ho3,rfl⟩ hR;have gb3:=l3.get gb2;delta yy3;by_cases hlt:i < p.ress.length
 case neg =>
  have hlt' : ¬ (i:Int) < p.ress.length:=by omega
  have hi2:i=p.ress.length:=by omega
  subst hi2;have g:=hq.h h3 w (l02.h.trans l3) ho3.sl;clear hR hq ho3;replace g:=za g;replace l3:=za l3;simp only [zb,aR,ze,zf, *];exact g.h
 have hlt' : (i:Int) < p.ress.length:=by omega
 have hw:IntKind.i64.wrap ((i:Int) + 1)=((i + 1:Nat):Int):=by rw [zn (by omega) (by omega)];rfl
 obtain ⟨rd,hrd⟩:∃ d,p.ress[i]? = some d:=⟨_,List.getElem?_eq_getElem hlt⟩;obtain ⟨id,off,cells,own,e1,e2,c0⟩:=refNm (hr1.h.mono (l2.h.trans l3)) hrd;obtain ⟨idt,offt,ct,ownt,u,t1,t2,_,hb,t4⟩:=(ht1.h.mono (l2.h.trans l3)).elem0 htk.h;have c5:ct[offt + 5]? = some u:=t4 5 (by omega);have es:=zs2 p tk.body i;rw [Uv hrd] at es;have hll:=Uy p tk.body i;clear t4 gb2;replace l3:=za l3;replace ho3:=za ho3;replace hrd:=za hrd;replace hb:=za hb;replace es:=za es;simp only [zb,aR,ze,zf, *];refine lk9_c 30 tk.body u rd.name h3 _ hst.h (by have:=hsz.h;omega) hb.h fun h4 l4=>?_;have es:=es.h;obtain ⟨b,hbb⟩:∃ b,ju rd.name tk.body=b:=⟨_,rfl⟩;rw [hbb] at es;rw [hbb];have ho4:OwnS (zw h2.next) h4 1 w ((Zd p tk.body i).map inR):=ho3.h.get fun id hv hs=>l4.getE id hs;cases b with
 | false =>
  rw [if_neg (by decide),List.append_nil] at es;have g:=fun y7=>hR.h [prV p.harts d r t,iI (j:Int),ptr b1,zq,.bool true,w,iI ((i + 1:Nat):Int),y7] h4 hlt ⟨l3.h.trans l4,w,y7,by rw [es];exact ho4,rfl⟩;clear hR hq;replace g:=za g;replace l4:=za l4;replace ho4:=za ho4;replace es:=za es;replace hbb:=za hbb;simp only [zb,ze,zf, *];exact g.h _
 | true =>
  rw [if_pos rfl] at es;have u:=yi0 (i:Int);obtain ⟨w2,h5,ap,ho5,_,k5,n5,nx5⟩:=ho4.append1 (x:=[iI (i:Int)]) (ym (by have:=l3.h.next;have:=l4.next;omega)) rfl (by omega) (b:=8) (by rw [List.length_map];omega) (by rw [List.length_map];omega);have l5:h2.le h5:=⟨fun q o hg=>by
   have h3':=(l3.h.trans l4).get hg;rw [k5 q (by rw [h3'];rfl) (ho4.notOf (Heap.lt_of_get hg))];exact h3',by have:=(l3.h.trans l4).next;omega⟩
  have g:=fun y7=>hR.h [prV p.harts d r t,iI (j:Int),ptr b1,zq,.bool true,w2,iI ((i + 1:Nat):Int),y7] h5 hlt ⟨l5,w2,y7,by rw [es,List.map_append];exact ho5,rfl⟩;clear hR hq k5 n5;replace g:=za g;replace l4:=za l4;replace l5:=za l5;replace ho4:=za ho4;replace ho5:=za ho5;replace es:=za es;replace hbb:=za hbb;simp only [zb,aW,ze,zf, *];exact g.h _
theorem maxM (a b:Int):J5 true [iI a,iI b]=some (iI (max a b)):=by simp only [J5,if_true];rw [yq2]
set_option maxHeartbeats 1000000 in
theorem rc_c {h:Heap}{p:Prg}{x:lVq}(hx:PrC h p x) (ho:zd3 p) (hs:p.sz) (a:Int){r:Nat}(hr:r < p.ress.length) (Q:vPq) (hq:∀ h',h.le h' → Q (iI (rcT p a r p.tasks)) h'):CallW Tryz.prog 32 [.agg x.toArray,iI a,iI (r:Int)] h Q:=by
 obtain ⟨dv,rv,tv,rfl,hd,hrr,ht⟩:=hx;have bx1:=yy (n:=p.harts) hd.one hrr.one ht.one;have lnt:=ht.len;have lnr:=hrr.len;obtain ⟨b1,h1,eb1,eh1,gb1,lh1⟩:=zj h [iI p.harts,dv,rv,tv];have hr1:=hrr.mono lh1;have ht1:=ht.mono lh1;have htl:=(qk ho.1).2.2;have hrl:=(qk ho.1).2.1;clear hd hrr ht;replace lh1:=za lh1;replace hs:=za hs;replace hr1:=za hr1;replace ht1:=za ht1;replace ho:=za ho;refine zg (k:=4) ok32 rfl rfl rfl fun N=>?_;rw [zj7 c32 und6q rfl];delta c32;replace hq:=za hq;simp only [zb, *];refine LoopW.upto p.tasks.length (fun i en hX=>h1.le hX ∧ ∃ y7 y8,en=[prV p.harts dv rv tv,iI a,iI (r:Int),ptr b1,iI 0,iI (rcT p a r (p.tasks.take i)),iI (i:Int),y7,y8]) ?_ (Nat.zero_le _) ⟨Heap.le.refl _,_,_,rfl⟩;rintro i _ h2 R hi ⟨l2,y7,y8,rfl⟩ hR;have gb2:=l2.get gb1;delta yy1;by_cases hlt:i < p.tasks.length
 case neg =>
  have hlt' : ¬ (i:Int) < p.tasks.length:=by omega
  have g:=hq.h h2 (lh1.h.trans l2);rw [List.take_of_length_le (by omega)];clear hR hq;replace g:=za g;replace l2:=za l2;simp only [zb,aR,ze,zf, *];exact g.h
 have hlt' : (i:Int) < p.tasks.length:=by omega
 have hw:IntKind.i64.wrap ((i:Int) + 1)=((i + 1:Nat):Int):=by rw [zn (by omega) (by omega)];rfl
 obtain ⟨t,htk⟩:∃ t,p.tasks[i]? = some t:=⟨_,List.getElem?_eq_getElem hlt⟩;have hmem:=List.mem_of_getElem? htk;have hst:=Zy ho.h.1 t hmem;have hsz:=hs.h t hmem;have et:=rcT_take (p:=p) (a:=a) (r:=r) htk;obtain ⟨n0,hn0⟩:∃ n,rcT p a r (p.tasks.take i)=n:=⟨_,rfl⟩;rw [hn0] at et;rw [hn0];have gR:=fun h' (hl:h1.le h') (n:Int) (y7 y8:Value) (hn:n=rcS p a t n0 (r + 1))=>hR.h [prV p.harts dv rv tv,iI a,iI (r:Int),ptr b1,iI 0,iI n,iI ((i + 1:Nat):Int),y7,y8] h' hlt ⟨hl,y7,y8,by rw [et,hn]⟩;clear hR hq et;replace l2:=za l2;replace gR:=za gR;replace hst:=za hst;replace hsz:=za hsz;replace htk:=za htk;replace hn0:=za hn0;replace hmem:=za hmem;simp only [zb,aR,ze,zf, *];refine LoopW.upto (r + 1) (fun k en hX=>h2.le hX ∧ ∃ y8,en=[prV p.harts dv rv tv,iI a,iI (r:Int),ptr b1,iI 0,iI (rcS p a t n0 k),iI (i:Int),iI (k:Int),y8]) ?_ (Nat.zero_le _) ⟨Heap.le.refl _,_,rfl⟩;rintro k _ h3 R hk ⟨l3,z8,rfl⟩ hR;have gb3:=l3.get gb2;have l13:=l2.h.trans l3;delta yy2;by_cases hlk:k < r + 1
 case neg =>
  have hlk' : ¬ (k:Int)≤(r:Int):=by omega
  have:k=r + 1:=by omega
  subst this;have g:=gR.h h3 l13 _ (iI ((r + 1:Nat):Int)) z8 rfl;clear hR gR;replace g:=za g;replace l3:=za l3;replace l13:=za l13;simp only [zb,ze,zf, *];exact g.h
 have hlk' : (k:Int)≤(r:Int):=by omega
 have hwk:IntKind.i64.wrap ((k:Int) + 1)=((k + 1:Nat):Int):=by rw [zn (by omega) (by omega)];rfl
 obtain ⟨rd,hrd⟩:∃ d,p.ress[k]? = some d:=⟨_,List.getElem?_eq_getElem (by omega)⟩;obtain ⟨id,off,cells,own,e1,e2,c0⟩:=refNm (hr1.h.mono l13) hrd;obtain ⟨idt,offt,ct,ownt,u,t1,t2,_,hb,t4⟩:=(ht1.h.mono l13).elem0 htk.h;have c2:ct[offt + 2]? = some (iI t.hart):=t4 2 (by omega);have c3:ct[offt + 3]? = some (iI t.prio):=t4 3 (by omega);have c5:ct[offt + 5]? = some u:=t4 5 (by omega);have es:rcS p a t n0 (k + 1)=if ju rd.name t.body=true∧t.hart=a then max (rcS p a t n0 k) t.prio else rcS p a t n0 k:=by
  rw [← Uv hrd];rfl
 obtain ⟨n1,hn1⟩:∃ n,rcS p a t n0 k=n:=⟨_,rfl⟩;rw [hn1] at es;rw [hn1];clear t4 gR;replace l3:=za l3;replace l13:=za l13;replace hrd:=za hrd;replace hb:=za hb;replace es:=za es;replace hn1:=za hn1;simp only [zb,aR,ze,zf, *];refine lk9_c 30 t.body u rd.name h3 _ hst.h (by have:=hsz.h;omega) hb.h fun h4 l4=>?_;have gb4:=l4.get gb3;have t24:=l4.get t2;have es:=es.h;obtain ⟨b,hbb⟩:∃ b,ju rd.name t.body=b:=⟨_,rfl⟩;rw [hbb] at es;rw [hbb];have gK:=fun (n:Int) (y8:Value) (hn:n=rcS p a t n0 (k + 1))=>hR.h [prV p.harts dv rv tv,iI a,iI (r:Int),ptr b1,iI 0,iI n,iI (i:Int),iI ((k + 1:Nat):Int),y8] h4 hlk ⟨l3.h.trans l4,y8,by rw [hn]⟩;rw [es] at gK;clear hR gb3 t2 es;cases b with
 | false =>
  have g:=fun y8=>gK n1 y8 (by rw [if_neg (fun h=>by cases h.1)]);clear gK;replace g:=za g;replace l4:=za l4;replace hbb:=za hbb;simp only [zb,ze,zf, *];exact g.h _
 | true =>
  by_cases hh:t.hart=a
  ·have eh:(t.hart == a)=true:=by simpa using hh
   have g:=fun y8=>gK (max n1 t.prio) y8 (by rw [if_pos ⟨rfl,hh⟩]);have mm:=maxM n1 t.prio;clear gK;replace hh:=Hid.mk hh;replace g:=za g;replace l4:=za l4;replace hbb:=za hbb;simp only [zb,aR,ze,zf, *];exact g.h _
  ·have eh:(t.hart == a)=false:=by simpa using hh
   have g:=fun y8=>gK n1 y8 (by rw [if_neg (fun h=>hh h.2)]);clear gK;replace hh:=Hid.mk hh;replace g:=za g;replace l4:=za l4;replace hbb:=za hbb;simp only [zb,aR,ze,zf, *];exact g.h _
theorem rLevel_c {h:Heap}{p:Prg}{x:lVq}(hx:PrC h p x) (hs:p.sz) (a v:Int){hv:Value}{l:List Int}(hl:Ints h hv l) (hl2:l.length≤1000000) (Q:vPq) (hq:∀ h',h.le h' → Q (iI (levS p a v l)) h'):CallW Tryz.prog 17 [.agg x.toArray,iI a,iI v,hv] h Q:=by
 obtain ⟨dv,rv,tv,rfl,hd,hrr,ht⟩:=hx;have hx0:PrC h p [iI p.harts,dv,rv,tv]:=⟨dv,rv,tv,rfl,hd,hrr,ht⟩;have bx1:=yy (n:=p.harts) hd.one hrr.one ht.one;have lnr:=hrr.len;have lnl:=Ints.len hl;obtain ⟨b1,h1,eb1,eh1,gb1,lh1⟩:=zj h [iI p.harts,dv,rv,tv];have hx1:=hx0.mono lh1;have hl1:=SlV.mono lh1 hl;clear hd hrr ht hx0 hl;replace hx1:=za hx1;replace lh1:=za lh1;replace hs:=za hs;replace hl1:=za hl1;refine zg (k:=5) ok17 rfl rfl rfl fun N=>?_;rw [ev4q c17 J4 rfl];delta c17;replace hq:=za hq;simp only [zb,aR,yb, *];refine Zz hx1.h hs.h _ fun h2 l2=>?_;have gb2:=l2.get gb1;by_cases ha:okB p=true∧0≤a∧a < p.harts
 case neg =>
  have e:levS p a v l=0:=by unfold levS;rw [if_neg ha]
  have g:=hq.h h2 (lh1.h.trans l2);rw [e] at g;obtain ⟨b,hb⟩:∃ b,okB p=b:=⟨_,rfl⟩;rw [hb] at ha;rw [hb];clear hq e;replace g:=za g;replace l2:=za l2;replace hb:=za hb;cases b with
  | false =>
   clear ha;simp only [zb, *];exact g.h
  | true =>
   by_cases i0:a < 0
   ·clear ha;simp only [zb,ze,zf, *];exact g.h
   ·have i1:p.harts≤a:=Int.not_lt.1 fun h=>ha ⟨rfl,by omega,h⟩;clear ha;simp only [zb,aR,ze,zf, *];exact g.h
 have ho:=qy.1 ha.1;have e:levS p a v l=lvR p a v l:=by unfold levS;rw [if_pos ha]
 rw [e] at hq;have i0:¬ a < 0:=by omega
 have i1:¬ p.harts≤a:=by omega
 have hb1:=ha.1;have l02:=lh1.h.trans l2;clear e ha;replace l2:=za l2;replace ho:=za ho;replace l02:=za l02;simp only [zb,aR,ze,zf, *];refine LoopW.upto l.length (fun i en hX=>h2.le hX∧en=[prV p.harts dv rv tv,iI a,iI v,hv,ptr b1,iI 0,.bool true,iI (lvR p a v (l.take i)),iI (i:Int)]) ?_ (Nat.zero_le _) ⟨Heap.le.refl _,rfl⟩;rintro i _ h3 R hi ⟨l3,rfl⟩ hR;have gb3:=l3.get gb2;delta yz1;by_cases hlt:i < l.length
 case neg =>
  have hlt' : ¬ (i:Int) < l.length:=by omega
  have g:=hq.h h3 (l02.h.trans l3);rw [List.take_of_length_le (by omega)];clear hR hq;replace g:=za g;replace l3:=za l3;simp only [zb,ze,zf, *];exact g.h
 have hlt' : (i:Int) < l.length:=by omega
 have hw:IntKind.i64.wrap ((i:Int) + 1)=((i + 1:Nat):Int):=by rw [zn (by omega) (by omega)];rfl
 obtain ⟨z,hz⟩:∃ z,l[i]? = some z:=⟨_,List.getElem?_eq_getElem hlt⟩;obtain ⟨id,off,cells,own,e1,e2,e3⟩:=ya5 (SlV.mono (l2.h.trans l3) hl1.h) hz;have es:=lvR_take (p:=p) (a:=a) (v:=v) hz;obtain ⟨n1,hn1⟩:∃ n,lvR p a v (l.take i)=n:=⟨_,rfl⟩;rw [hn1] at es;rw [hn1];have gK:=fun (h' : Heap) (hl:h2.le h') (n:Int) (hn:n=lvR p a v (l.take (i + 1)))=>hR.h [prV p.harts dv rv tv,iI a,iI v,hv,ptr b1,iI 0,.bool true,iI n,iI ((i + 1:Nat):Int)] h' hlt ⟨hl,by rw [hn]⟩;rw [es] at gK;clear hR hq es;by_cases r0:0≤z
 case neg =>
  have g:=gK h3 l3 n1 (by rw [if_neg (fun h=>r0 h.1)]);clear gK;replace g:=za g;replace l3:=za l3;replace hz:=za hz;replace hn1:=za hn1;simp only [zb,aR,ze,zf, *];exact g.h
 by_cases r1:z < (p.ress.length:Int)
 case neg =>
  have g:=gK h3 l3 n1 (by rw [if_neg (fun h=>r1 h.2)]);clear gK;replace g:=za g;replace l3:=za l3;replace hz:=za hz;replace hn1:=za hn1;simp only [zb,aR,ze,zf, *];exact g.h
 obtain ⟨k,rfl⟩:∃ k:Nat,z=(k:Int):=⟨z.toNat,by omega⟩;have hx3:=hx1.h.mono (l2.h.trans l3);have hk:k < p.ress.length:=by omega
 replace gK:=za gK;replace l3:=za l3;replace hz:=za hz;replace hn1:=za hn1;replace hx3:=za hx3;simp only [zb,aR,ze,zf,yb, *];refine rc_c hx3.h ho.h hs.h a hk _ fun h4 l4=>?_;obtain ⟨n2,hn2⟩:∃ n,rcT p a k p.tasks=n:=⟨_,rfl⟩;rw [hn2];have g:=gK.h h4 (l3.h.trans l4) (max n1 n2) (by rw [if_pos ⟨r0,r1⟩,Int.toNat_natCast,hn2]);have mm:=maxM n1 n2;clear gK;replace g:=za g;replace l4:=za l4;replace hn2:=za hn2;simp only [zb,ze,zf, *];exact g.h
def rowN (p:Prg) (a:Int) (n:Nat):List Int:=(List.range n).map fun (k:Nat)=>rcT p a k p.tasks
theorem yl7 (p:Prg) (a:Int) (n:Nat):rowN p a (n + 1)=rowN p a n++[rcT p a n p.tasks]:=by
 unfold rowN;rw [List.range_succ,List.map_append];rfl
theorem rowN_len (p:Prg) (a:Int) (n:Nat):(rowN p a n).length=n:=by unfold rowN;simp
def RowsO (n0:Nat) (p:Prg) (h:Heap) (out:Value) (a:Nat):Prop:=∃ ws:lVq,OwnS (zw n0) h 1 out (ws.map fun w=>[w])∧ws.length=a ∧ ∀ (i:Nat) (w:Value),ws[i]? = some w→SlVB (fun id=>notOf out id) h 1 w ((rowN p i p.ress.length).map inR)
theorem bs_s {w:Value}(hw:IsS w):yj [nSq] [(0,1)] 1 1 [w]=some ([w],fun id=>.slice (some ⟨id,0,none⟩) 1 1):=by
 obtain ⟨_,_,_,rfl⟩:=hw;exact ql rfl rfl rfl (by simp [Value.cells,Value.oneCell'])
theorem RowsO.push {n0:Nat}{p:Prg}{h h3:Heap}{out l:Value}{a:Nat}(hr:RowsO n0 p h out a) (ha:a≤100) (hn:n0≤h.next) (l3:h.le h3) (hl:OwnS (zw h.next) h3 1 l ((rowN p a p.ress.length).map inR)) :
  ∃ out' h',yq 1 24 (h3.alloc (.blk [l] true)) [out,.slice (some ⟨h3.next,0,none⟩) 1 1]=some (out',h')∧RowsO n0 p h' out' (a + 1) ∧ ∀ h0:Heap,h0.next≤n0→h0.le h→h0.le h':=by
 obtain ⟨ws,ho,hlen,hw⟩:=hr;have ho3:OwnS (zw n0) h3 1 out (ws.map fun w=>[w]):=ho.get fun id hv hs=>l3.getE id hs;obtain ⟨out',h',ap,ho',_,k,n2,nx⟩:=ho3.append1 (x:=[l]) (ym (Nat.le_trans hn l3.next)) rfl (by omega) (b:=24) (by rw [List.length_map];omega) (by rw [List.length_map];omega);have kb:∀ {B:Nat→Prop},(∀ id cells own,B id→h3.get id=some (.blk cells own)→notOf out id)→Heap.toB B (fun id=>notOf out' id) h3 h':=fun hB id cells own hb hg=>by
  have hs:(h3.get id).isSome=true:=by rw [hg];rfl
  exact ⟨n2 id hs,by rw [k id hs (hB id cells own hb hg)];exact hg⟩
 refine ⟨out',h',ap,⟨ws++[l],by rw [List.map_append];exact ho',by simp [hlen],fun i w hi=>?_⟩,fun h0 hn0 l0=>⟨fun i o hg=>?_,Nat.le_trans (l0.trans l3).next nx⟩⟩
 ·by_cases hlt:i < ws.length
  ·rw [List.getElem?_append_left hlt] at hi;exact ((hw i w hi).to (l3.toB fun id hb=>hb)).to (kb fun id _ _ hb _=>hb)
  ·have hi2:i=ws.length:=by
    have:=(List.getElem?_eq_some_iff.1 hi).1;simp at this;omega
   subst hi2;rw [List.getElem?_append_right (Nat.le_refl _),Nat.sub_self] at hi;cases hi;rw [hlen];exact (OwnS.slB hl).to (kb fun id _ _ hb _=>OwnS.notOf_new ho hb)
 ·have h1:=(l0.trans l3).get hg;rw [k i (by rw [h1];rfl) (OwnS.notOf ho (by have:=Heap.lt_of_get hg;omega))];exact h1
theorem RowsO.iis {n0:Nat}{p:Prg}{h:Heap}{out:Value}(hr:RowsO n0 p h out p.harts.toNat) (ho:okB p=true):IIs h out (zc6 p):=by
 obtain ⟨ws,h1,h2,h3⟩:=hr;refine ⟨ws,h1.sl,?_,fun i w r hi hr=>?_⟩
 ·unfold zc6;rw [if_pos ho,List.length_map,List.length_range,h2]
 ·have hlt:=(List.getElem?_eq_some_iff.1 hi).1;unfold zc6 at hr;rw [if_pos ho,Qe _ (by omega)] at hr;cases hr;exact (h3 i w hi).plain
set_option maxHeartbeats 1000000 in
theorem rCeil_c {h:Heap}{p:Prg}{x:lVq}(hx:PrC h p x) (hs:p.sz) (Q:vPq) (hq:∀ h' v,h.le h' → IIs h' v (zc6 p)→Q v h'):CallW Tryz.prog 13 [.agg x.toArray] h Q:=by
 obtain ⟨d,r,t,rfl,hd,hr,ht⟩:=hx;have hx0:PrC h p [iI p.harts,d,r,t]:=⟨d,r,t,rfl,hd,hr,ht⟩;have bx1:=yy (n:=p.harts) hd.one hr.one ht.one;have lnr:=hr.len;obtain ⟨b1,h1,eb1,eh1,gb1,lh1⟩:=zj h [iI p.harts,d,r,t];have hx1:=hx0.mono lh1;clear hd hr ht hx0;replace hx1:=za hx1;replace lh1:=za lh1;replace hs:=za hs;refine zg (k:=2) ok13 rfl rfl rfl fun N=>?_;rw [Yo c13 yd9 rfl];delta c13;replace hq:=za hq;simp only [zb,aR,yb, *];refine Zz hx1.h hs.h _ fun h2 l2=>?_;have gb2:=l2.get gb1;have l02:=lh1.h.trans l2;cases hb:okB p with
 | false =>
  have e:zc6 p=[]:=by unfold zc6;rw [hb];rfl
  have g:=hq.h h2 zq l02 (by rw [e];exact ⟨[],.inl ⟨rfl,rfl⟩,rfl,fun i w r h1 _=>by cases h1⟩);clear hq e;replace g:=za g;replace l2:=za l2;replace l02:=za l02;replace hb:=za hb;simp only [zb, *];exact g.h
 | true =>
 have ho:=qy.1 hb;have hrl:=(qk ho.1).2.1;have hh4:=(vz ho.1).1;obtain ⟨H,hH⟩:∃ H:Nat,p.harts=(H:Int):=⟨p.harts.toNat,by omega⟩;have eH:p.harts.toNat=H:=by omega
 have gb2' : h2.get b1=some (.blk [iI (H:Int),d,r,t] true):=by rw [gb2,hH]
 have H4:H≤4:=by omega
 have hb1:=Heap.lt_of_get gb2;clear gb2 hh4;replace l2:=za l2;replace ho:=za ho;replace l02:=za l02;replace hb:=za hb;replace eH:=za eH;replace hH:=za hH;simp only [zb, *];refine LoopW.upto H (fun a en hX=>h2.le hX ∧ ∃ out y6 y7,RowsO h2.next p hX out a∧en=[prV p.harts d r t,ptr b1,zq,.bool true,out,iI (a:Int),y6,y7]) ?_ (Nat.zero_le _) ⟨Heap.le.refl _,zq,_,_,⟨[],OwnS.nil _ _ _,rfl,fun i w h=>by cases h⟩,rfl⟩;rintro a _ h3 R ha ⟨l3,out,y6,y7,hro,rfl⟩ hR;have gb3:=l3.get gb2';delta qa0;by_cases hlt:a < H
 case neg =>
  have hlt' : ¬ (a:Int) < H:=by omega
  have haH:a=H:=by omega
  have g:=hq.h h3 out (l02.h.trans l3) (RowsO.iis (by rw [eH.h,← haH];exact hro) hb.h);clear hR hq hro haH;replace g:=za g;replace l3:=za l3;simp only [zb,aR,ze,zf, *];exact g.h
 have hlt' : (a:Int) < H:=by omega
 have hw:IntKind.i64.wrap ((a:Int) + 1)=((a + 1:Nat):Int):=by rw [zn (by omega) (by omega)];rfl
 have gR:=fun (h5:Heap) (l5:h2.le h5) (out' y6 y7:Value) (hro' : RowsO h2.next p h5 out' (a + 1))=>hR.h [prV p.harts d r t,ptr b1,zq,.bool true,out',iI ((a + 1:Nat):Int),y6,y7] h5 hlt ⟨l5,out',y6,y7,hro',rfl⟩;clear hR hq;replace l3:=za l3;replace hro:=za hro;replace gR:=za gR;simp only [zb,aR,ze,zf, *];refine LoopW.upto p.ress.length (fun k en hX=>h3.le hX ∧ ∃ l,OwnS (zw h3.next) hX 1 l ((rowN p a k).map inR)∧en=[prV p.harts d r t,ptr b1,zq,.bool true,out,iI (a:Int),l,iI (k:Int)]) ?_ (Nat.zero_le _) ⟨Heap.le.refl _,zq,OwnS.nil _ _ _,rfl⟩;rintro k _ h4 R2 hk ⟨l4,l,hl,rfl⟩ hR2;have gb4:=l4.get gb3;delta qa1;by_cases hlk:k < p.ress.length
 case neg =>
  have hlk' : ¬ (k:Int) < p.ress.length:=by omega
  have hkl:k=p.ress.length:=by omega
  obtain ⟨out',h5,ap,hro5,l5⟩:=hro.h.push (by omega) l3.h.next l4 (by rw [← hkl];exact hl);have bs:=bs_s (OwnS.isS hl);have g:=fun y6 y7=>gR.h h5 (l5 h2 (Nat.le_refl _) l3.h) out' y6 y7 hro5;clear hR2 gR hkl l5;replace g:=za g;replace l4:=za l4;replace hl:=za hl;replace hro5:=za hro5;simp only [zb,aR,aW,ze,zf, *];exact g.h _ _
 have hlk' : (k:Int) < p.ress.length:=by omega
 have hwk:IntKind.i64.wrap ((k:Int) + 1)=((k + 1:Nat):Int):=by rw [zn (by omega) (by omega)];rfl
 have hx4:PrC h4 p [iI (H:Int),d,r,t]:=by have:=hx1.h.mono (l2.h.trans (l3.h.trans l4));rwa [hH.h] at this
 clear gR;replace l4:=za l4;replace hl:=za hl;replace hx4:=za hx4;simp only [zb,aR,ze,zf,yb, *];refine rc_c (x:=[iI (H:Int),d,r,t]) hx4.h ho.h hs.h a hlk _ fun h5 l5=>?_;obtain ⟨z,hz⟩:∃ z,rcT p a k p.tasks=z:=⟨_,rfl⟩;rw [hz];have hl5:OwnS (zw h3.next) h5 1 l ((rowN p a k).map inR):=hl.h.get fun id hv hs=>l5.getE id hs;have hrn:=rowN_len p a k;obtain ⟨l',h6,ap,hl6,_,k6,n6,nx6⟩:=hl5.append1 (x:=[iI z]) (ym (Nat.le_trans l4.h.next l5.next)) rfl (by omega) (b:=8) (by rw [List.length_map];omega) (by rw [List.length_map];omega);have u:=yi0 z;have l6:h3.le h6:=⟨fun j o hg=>by
  have h3':=(l4.h.trans l5).get hg;rw [k6 j (by rw [h3'];rfl) (OwnS.notOf hl5 (Heap.lt_of_get hg))];exact h3',by have:=(l4.h.trans l5).next;omega⟩
 have g:=hR2.h [prV p.harts d r t,ptr b1,zq,.bool true,out,iI (a:Int),l',iI ((k + 1:Nat):Int)] h6 hlk ⟨l6,l',by rw [yl7,hz,List.map_append];exact hl6,rfl⟩;clear hR2 k6 n6 hrn;replace g:=za g;replace l5:=za l5;replace hz:=za hz;replace l6:=za l6;replace hl5:=za hl5;replace hl6:=za hl6;simp only [zb,aW,ze,zf, *];exact g.h
theorem yb8 (p:Prg) (a k:Int) (i:Nat):(yv7 p a k i).length≤p.tasks.length:=by
 unfold yv7;refine Nat.le_trans (List.length_filter_le _ _) (Nat.le_trans (Qm _ _ _) ?_);rw [List.length_take];omega
theorem yl3 (p:Prg) (a:Int):∀ j,(stU p a j).length≤j * p.tasks.length
 | 0=>by simp [stU]
 | j + 1=>by
  have h1:=yl3 p a j;have h2:=yb8 p a (7 - (j:Int)) p.tasks.length;rw [yb9 _ _ _ (Nat.le_refl _)] at h2;simp only [stU,List.length_append,Nat.succ_mul];omega
set_option maxHeartbeats 1000000 in
theorem yn2 {h:Heap}{p:Prg}{x:lVq}(hx:PrC h p x) (hs:p.sz) (a v:Int) (Q:vPq) (hq:∀ h' w,h.le h' → Ints h' w (yj3 p a v)→Q w h'):CallW Tryz.prog 19 [.agg x.toArray,iI a,iI v] h Q:=by
 obtain ⟨d,r,t,rfl,hd,hr,ht⟩:=hx;have hx0:PrC h p [iI p.harts,d,r,t]:=⟨d,r,t,rfl,hd,hr,ht⟩;have bx1:=yy (n:=p.harts) hd.one hr.one ht.one;have lnt:=ht.len;obtain ⟨b1,h1,eb1,eh1,gb1,lh1⟩:=zj h [iI p.harts,d,r,t];have hx1:=hx0.mono lh1;have ht1:=ht.mono lh1;clear hd hr ht hx0;replace hx1:=za hx1;replace lh1:=za lh1;replace hs:=za hs;replace ht1:=za ht1;refine zg (k:=4) ok19 rfl rfl rfl fun N=>?_;rw [zj7 c19 yd9 rfl];delta c19;replace hq:=za hq;simp only [zb,aR,yb, *];refine Zz hx1.h hs.h _ fun h2 l2=>?_;have gb2:=l2.get gb1;have l02:=lh1.h.trans l2;by_cases ha:okB p=true∧0≤a∧a < p.harts
 case neg =>
  have e:yj3 p a v=[]:=by unfold yj3;rw [if_neg ha]
  have g:=hq.h h2 zq l02 (by rw [e];exact .inl ⟨rfl,rfl⟩);obtain ⟨b,hb⟩:∃ b,okB p=b:=⟨_,rfl⟩;rw [hb] at ha;rw [hb];clear hq e;replace g:=za g;replace l2:=za l2;replace l02:=za l02;replace hb:=za hb;cases b with
  | false =>
   clear ha;simp only [zb, *];exact g.h
  | true =>
   by_cases i0:a < 0
   ·clear ha;simp only [zb,ze,zf, *];exact g.h
   ·have i1:p.harts≤a:=Int.not_lt.1 fun h=>ha ⟨rfl,by omega,h⟩;clear ha;simp only [zb,aR,ze,zf, *];exact g.h
 have ho:=qy.1 ha.1;have htl:=(qk ho.1).2.2;have e:yj3 p a v=Wf p a v:=by unfold yj3;rw [if_pos ha]
 rw [e] at hq;have hpr:=(U1 ho hs.h).prio;have i0:¬ a < 0:=by omega
 have i1:¬ p.harts≤a:=by omega
 have hb1:=ha.1;clear e ha;replace l2:=za l2;replace ho:=za ho;replace l02:=za l02;replace hpr:=za hpr;simp only [zb,aR,ze,zf, *];refine LoopW.upto 7 (fun j en hX=>h2.le hX∧(∀ i:Nat,i < j→v < 7 - (i:Int)) ∧ ∃ w y8 y9,OwnS (zw h2.next) hX 1 w ((stU p a j).map inR)∧en=[prV p.harts d r t,iI a,iI v,ptr b1,zq,.bool true,w,iI (7 - (j:Int)),y8,y9]) ?_ (Nat.zero_le _) ⟨Heap.le.refl _,fun i hi=>by omega,zq,_,_,OwnS.nil _ _ _,rfl⟩;rintro j _ h3 R hj ⟨l3,hvj,w,y8,y9,how,rfl⟩ hR;have gb3:=l3.get gb2;delta yy9;by_cases hlt:(0:Int) < 7 - (j:Int)∧v < 7 - (j:Int)
 case neg =>
  have es:=yl1 hpr.h hj hvj hlt (a:=a);have g:=hq.h h3 w (l02.h.trans l3) (by rw [← es];exact how.sl);clear hR hq es hvj;by_cases c1:(0:Int) < 7 - (j:Int)
  ·have c2:¬ v < 7 - (j:Int):=fun h=>hlt ⟨c1,h⟩;clear hlt how;replace g:=za g;replace l3:=za l3;simp only [zb,ze,zf, *];exact g.h
  ·clear hlt how;replace g:=za g;replace l3:=za l3;simp only [zb,ze,zf, *];exact g.h
 obtain ⟨c1,c2⟩:=hlt;have hj7:j < 7:=by omega
 have hw:IntKind.i64.wrap (7 - (j:Int) - 1)=7 - ((j + 1:Nat):Int):=by rw [zn (by omega) (by omega)];omega
 have gR:=fun (h5:Heap) (l5:h2.le h5) (w' y8 y9:Value) (hw' : OwnS (zw h2.next) h5 1 w' ((stU p a (j + 1)).map inR))=>hR.h [prV p.harts d r t,iI a,iI v,ptr b1,zq,.bool true,w',iI (7 - ((j + 1:Nat):Int)),y8,y9] h5 hj7 ⟨l5,fun i hi=>by
  rcases Nat.lt_succ_iff_lt_or_eq.1 hi with hi | rfl
  ·exact hvj i hi
  ·exact c2,w',y8,y9,hw',rfl⟩
 have sl:=yl3 p a j;have sl2:j * p.tasks.length≤7 * 16:=Nat.mul_le_mul hj htl;obtain ⟨n,hn⟩:∃ n:Int,7 - (j:Int)=n:=⟨_,rfl⟩;rw [hn] at c1 c2 hw;rw [hn];have es:stU p a (j + 1)=stU p a j++cls p a n:=by rw [← hn];rfl
 rw [es] at gR;clear hR hq hvj es;replace l3:=za l3;replace how:=za how;replace gR:=za gR;replace sl:=za sl;replace sl2:=za sl2;replace hn:=za hn;simp only [zb,ze,zf, *];refine LoopW.upto p.tasks.length (fun i en hX=>h2.le hX ∧ ∃ w y9,OwnS (zw h2.next) hX 1 w ((stU p a j++yv7 p a n i).map inR)∧en=[prV p.harts d r t,iI a,iI v,ptr b1,zq,.bool true,w,iI n,iI (i:Int),y9]) ?_ (Nat.zero_le _) ⟨l3.h,w,y9,by simpa [yv7,Jm] using how.h,rfl⟩;rintro i _ h4 R2 hi ⟨l4,w2,z9,ho4,rfl⟩ hR2;have gb4:=l4.get gb2;delta yz0;by_cases hlk:i < p.tasks.length
 case neg =>
  have hlk' : ¬ (i:Int) < p.tasks.length:=by omega
  have ec:=yb9 p a n (i:=i) (by omega);rw [ec] at ho4;have g:=gR.h h4 l4 w2 (iI (i:Int)) z9 ho4;clear hR2 gR ec ho4;replace g:=za g;replace l4:=za l4;simp only [zb,aR,ze,zf, *];exact g.h
 have hlk' : (i:Int) < p.tasks.length:=by omega
 have hwi:IntKind.i64.wrap ((i:Int) + 1)=((i + 1:Nat):Int):=by rw [zn (by omega) (by omega)];rfl
 obtain ⟨tk,htk⟩:∃ t,p.tasks[i]? = some t:=⟨_,List.getElem?_eq_getElem hlk⟩;obtain ⟨id,off,cells,own,u,e1,e2,e3,hb,_⟩:=(ht1.h.mono (l2.h.trans l4)).elem0 htk;have st:=yj4 h4 tk.name tk.handler tk.hart tk.prio tk.line hb.isS0;obtain ⟨q5,h5,eq5,eh5,gq5,lh5⟩:=zj h4 [str tk.name,.bool tk.handler,iI tk.hart,iI tk.prio,iI tk.line,u];rw [eh5,eq5] at st;have l5:=l4.trans lh5;have ho5:OwnS (zw h2.next) h5 1 w2 ((stU p a j++yv7 p a n i).map inR):=ho4.get fun id hv hs=>lh5.getE id hs;have cs:=yv6 (a:=a) (k:=n) htk;have cl:=yb8 p a n i;have gF:=fun (hc:¬ (tk.handler=true∧tk.hart=a∧tk.prio=n))=>hR2.h [prV p.harts d r t,iI a,iI v,ptr b1,zq,.bool true,w2,iI n,iI ((i + 1:Nat):Int),ptr q5] h5 hlk ⟨l5,w2,ptr q5,by rw [cs,if_neg hc,List.append_nil];exact ho5,rfl⟩;have gT:=fun (hc:tk.handler=true∧tk.hart=a∧tk.prio=n) (w' : Value) (h6:Heap) (l6:h2.le h6) (ho6:OwnS (zw h2.next) h6 1 w' ((stU p a j++yv7 p a n i).map inR++[[iI (i:Int)]]))=>hR2.h [prV p.harts d r t,iI a,iI v,ptr b1,zq,.bool true,w',iI n,iI ((i + 1:Nat):Int),ptr q5] h6 hlk ⟨l6,w',ptr q5,by
  rw [cs,if_pos hc,← List.append_assoc,List.map_append];exact ho6,rfl⟩
 clear hR2 gR cs ho4;obtain ⟨tb,htb⟩:∃ b,tk.handler=b:=⟨_,rfl⟩;rw [htb] at st e3 gq5 gT gF eh5;replace l4:=za l4;replace l5:=za l5;replace lh5:=za lh5;replace htk:=za htk;replace hb:=za hb;replace ho5:=za ho5;replace gF:=za gF;replace gT:=za gT;replace htb:=za htb;replace cl:=za cl;cases tb with
 | false =>
  have g:=gF.h (fun h=>by cases h.1);clear gF gT;replace g:=za g;simp only [zb,aR,aW,ze,zf, *];exact g.h
 | true =>
 by_cases hh:tk.hart=a
 case neg =>
  have eh:(tk.hart == a)=false:=by simpa using hh
  have g:=gF.h (fun h=>hh h.2.1);clear gF gT;replace hh:=Hid.mk hh;replace g:=za g;simp only [zb,aR,aW,ze,zf, *];exact g.h
 have eh:(tk.hart == a)=true:=by simpa using hh
 by_cases hp:tk.prio=n
 case neg =>
  have ep:(tk.prio == n)=false:=by simpa using hp
  have g:=gF.h (fun h=>hp h.2.2);clear gF gT;replace hh:=Hid.mk hh;replace hp:=Hid.mk hp;replace g:=za g;simp only [zb,aR,aW,ze,zf, *];exact g.h
 have ep:(tk.prio == n)=true:=by simpa using hp
 have gT:=gT.h ⟨rfl,hh,hp⟩;obtain ⟨w',h6,ap,ho6,_,k6,n6,nx6⟩:=ho5.h.append1 (x:=[iI (i:Int)]) (ym l5.h.next) rfl (by omega) (b:=8) (by rw [List.length_map,List.length_append];have:=cl.h;have:=sl.h;have:=sl2.h;omega) (by rw [List.length_map,List.length_append];have:=cl.h;have:=sl.h;have:=sl2.h;omega);have bs:=yi0 (i:Int);have l6:h2.le h6:=⟨fun q o hg=>by
  have h3':=l5.h.get hg;rw [k6 q (by rw [h3'];rfl) (OwnS.notOf ho5.h (Heap.lt_of_get hg))];exact h3',Nat.le_trans l5.h.next nx6⟩
 have g:=gT w' h6 l6 ho6;replace hh:=Hid.mk hh;replace hp:=Hid.mk hp;clear gF gT k6 n6;replace g:=za g;replace l6:=za l6;replace ho6:=za ho6;simp only [zb,aR,aW,ze,zf, *];exact g.h
set_option maxHeartbeats 1000000 in
theorem rChain_c {h:Heap}{p:Prg}{x:lVq}(hx:PrC h p x) (hs:p.sz) (a:Int) (Q:vPq) (hq:∀ h',h.le h' → Q (iI (yv9 p a:Nat)) h'):CallW Tryz.prog 21 [.agg x.toArray,iI a] h Q:=by
 obtain ⟨d,r,t,rfl,hd,hr,ht⟩:=hx;have hx0:PrC h p [iI p.harts,d,r,t]:=⟨d,r,t,rfl,hd,hr,ht⟩;have bx1:=yy (n:=p.harts) hd.one hr.one ht.one;have lnt:=ht.len;obtain ⟨b1,h1,eb1,eh1,gb1,lh1⟩:=zj h [iI p.harts,d,r,t];have hx1:=hx0.mono lh1;have ht1:=ht.mono lh1;clear hd hr ht hx0;replace hx1:=za hx1;replace lh1:=za lh1;replace hs:=za hs;replace ht1:=za ht1;refine zg (k:=3) ok21 rfl rfl rfl fun N=>?_;rw [wn c21 und9q rfl];delta c21;replace hq:=za hq;simp only [zb,aR,yb, *];refine Zz hx1.h hs.h _ fun h2 l2=>?_;have gb2:=l2.get gb1;have l02:=lh1.h.trans l2;by_cases ha:okB p=true∧0≤a∧a < p.harts
 case neg =>
  have e:yv9 p a=0:=by unfold yv9;rw [if_neg ha]
  have g:=hq.h h2 l02;rw [e] at g;obtain ⟨b,hb⟩:∃ b,okB p=b:=⟨_,rfl⟩;rw [hb] at ha;rw [hb];clear hq e;replace g:=za g;replace l2:=za l2;replace l02:=za l02;replace hb:=za hb;cases b with
  | false =>
   clear ha;simp only [zb, *];exact g.h
  | true =>
   by_cases i0:a < 0
   ·clear ha;simp only [zb,ze,zf, *];exact g.h
   ·have i1:p.harts≤a:=Int.not_lt.1 fun h=>ha ⟨rfl,by omega,h⟩;clear ha;simp only [zb,aR,ze,zf, *];exact g.h
 have ho:=qy.1 ha.1;have htl:=(qk ho.1).2.2;have e:yv9 p a=chK a p.tasks 7 + Zt a p.tasks:=by unfold yv9;rw [if_pos ha]
 rw [e] at hq;have i0:¬ a < 0:=by omega
 have i1:¬ p.harts≤a:=by omega
 have hb1:=ha.1;clear e ha;replace l2:=za l2;replace ho:=za ho;replace l02:=za l02;simp only [zb,aR,ze,zf, *];refine LoopW.upto 7 (fun j en hX=>h2.le hX ∧ ∃ y7 y8 y9,en=[prV p.harts d r t,iI a,ptr b1,iI 0,.bool true,iI (chK a p.tasks j:Nat),iI (j + 1:Nat),y7,y8,y9,udq]) ?_ (Nat.zero_le _) ⟨Heap.le.refl _,_,_,_,rfl⟩;rintro j _ h3 R hj ⟨l3,y7,y8,y9,rfl⟩ hR;have gb3:=l3.get gb2;delta yy5;have ckl:=chK_le a p.tasks j;by_cases hlt:j < 7
 case neg =>
  have hlt' : ¬ ((j + 1:Nat):Int)≤7:=by omega
  have hj7:j=7:=by omega
  subst hj7;clear hR;replace l3:=za l3;simp only [zb,ze,zf, *];refine LoopW.upto p.tasks.length (fun i en hX=>hX=h3∧en=[prV p.harts d r t,iI a,ptr b1,iI 0,.bool true,iI ((chK a p.tasks 7 + Zt a (p.tasks.take i):Nat):Int),iI (7 + 1:Nat),y7,y8,y9,iI (i:Int)]) ?_ (Nat.zero_le _) ⟨rfl,rfl⟩;rintro i _ hE R hi ⟨hE2,rfl⟩ hR;replace hE2:=hE2.symm;subst hE2;delta yy4;have bl:=bootN_le a (p.tasks.take i);rw [List.length_take] at bl;by_cases hlk:i < p.tasks.length
  case neg =>
   have hlk' : ¬ (i:Int) < p.tasks.length:=by omega
   have g:=hq.h h3 (l02.h.trans l3.h);rw [List.take_of_length_le (by omega)];clear hR hq bl;replace g:=za g;simp only [zb,aR,ze,zf, *];exact g.h
  have hlk' : (i:Int) < p.tasks.length:=by omega
  have hwi:IntKind.i64.wrap ((i:Int) + 1)=((i + 1:Nat):Int):=by rw [zn (by omega) (by omega)];rfl
  obtain ⟨tk,htk⟩:∃ t,p.tasks[i]? = some t:=⟨_,List.getElem?_eq_getElem hlk⟩;obtain ⟨id,off,cells,own,u,e1,e2,_,hb,e4⟩:=(ht1.h.mono (l2.h.trans l3.h)).elem0 htk;have c1:cells[off + 1]? = some (.bool tk.handler):=e4 1 (by omega);have c2:cells[off + 2]? = some (iI tk.hart):=e4 2 (by omega);have bt:=yi1 (a:=a) htk;obtain ⟨n,hn⟩:∃ n,chK a p.tasks 7 + Zt a (p.tasks.take i)=n:=⟨_,rfl⟩;have hwn:IntKind.i64.wrap ((n:Int) + 1)=((n + 1:Nat):Int):=by rw [zn (by omega) (by omega)];rfl
  rw [hn];have gF:=fun (hc:(tk.hart == a && !tk.handler)=false)=>hR.h [prV p.harts d r t,iI a,ptr b1,iI 0,.bool true,iI (n:Int),iI (7 + 1:Nat),y7,y8,y9,iI ((i + 1:Nat):Int)] h3 hlk ⟨rfl,by
   have e:Zt a (p.tasks.take (i + 1))=Zt a (p.tasks.take i):=by rw [bt,hc];rfl
   rw [e,hn]⟩
  have gT:=fun (hc:(tk.hart == a && !tk.handler)=true)=>hR.h [prV p.harts d r t,iI a,ptr b1,iI 0,.bool true,iI ((n + 1:Nat):Int),iI (7 + 1:Nat),y7,y8,y9,iI ((i + 1:Nat):Int)] h3 hlk ⟨rfl,by
   have e:Zt a (p.tasks.take (i + 1))=Zt a (p.tasks.take i) + 1:=by rw [bt,hc];rfl
   rw [e,← Nat.add_assoc,hn]⟩
  clear hR hq bt e4 bl ckl;obtain ⟨tb,htb⟩:∃ b,tk.handler=b:=⟨_,rfl⟩;rw [htb] at c1 gT gF;replace htk:=za htk;replace hb:=za hb;replace gF:=za gF;replace gT:=za gT;replace htb:=za htb;replace hn:=za hn;cases eh:(tk.hart == a) with
  | false =>
   have g:=gF.h (by rw [eh];rfl);clear gF gT;replace g:=za g;simp only [zb,aR,ze,zf, *];exact g.h
  | true =>
  cases tb with
  | true =>
   have g:=gF.h (by rw [eh];rfl);clear gF gT;replace g:=za g;simp only [zb,aR,ze,zf, *];exact g.h
  | false =>
   have g:=gT.h (by rw [eh];rfl);clear gF gT;replace g:=za g;simp only [zb,aR,ze,zf, *];exact g.h
 have hlt' : ((j + 1:Nat):Int)≤7:=by omega
 have hw:IntKind.i64.wrap (((j + 1:Nat):Int) + 1)=((j + 1 + 1:Nat):Int):=by rw [zn (by omega) (by omega)];rfl
 obtain ⟨n,hn⟩:∃ n,chK a p.tasks j=n:=⟨_,rfl⟩;rw [hn] at ckl;have es:chK a p.tasks (j + 1)=n + if zn5 a p.tasks ((j:Int) + 1) then 1 else 0:=by rw [← hn];rfl
 have gR:=fun (h5:Heap) (l5:h2.le h5) (m:Nat) (y7 y8 y9:Value) (hm:m=chK a p.tasks (j + 1))=>hR.h [prV p.harts d r t,iI a,ptr b1,iI 0,.bool true,iI (m:Int),iI (j + 1 + 1:Nat),y7,y8,y9,udq] h5 hlt ⟨l5,y7,y8,y9,by rw [hm]⟩;rw [hn];rw [es] at gR;clear hR hq es;replace l3:=za l3;replace gR:=za gR;replace hn:=za hn;simp only [zb,ze,zf, *];refine LoopW.upto p.tasks.length (fun i en hX=>h2.le hX ∧ ∃ y9,en=[prV p.harts d r t,iI a,ptr b1,iI 0,.bool true,iI (n:Int),iI (j + 1:Nat),iI ((if zn5 a (p.tasks.take i) ((j:Int) + 1) then 1 else 0:Nat):Int),iI (i:Int),y9,udq]) ?_ (Nat.zero_le _) ⟨l3.h,y9,rfl⟩;rintro i _ h4 R2 hi ⟨l4,z9,rfl⟩ hR2;have gb4:=l4.get gb2;delta yy6;by_cases hlk:i < p.tasks.length
 case neg =>
  have hlk' : ¬ (i:Int) < p.tasks.length:=by omega
  rw [List.take_of_length_le (by omega)];obtain ⟨m,hm⟩:∃ m:Nat,(if zn5 a p.tasks ((j:Int) + 1) then 1 else 0)=m:=⟨_,rfl⟩;have hm1:m≤1:=by rw [← hm];split<;>omega
  have gR:=gR.h;rw [hm] at gR;rw [hm];have hwn:IntKind.i64.wrap ((n:Int) + (m:Int))=((n + m:Nat):Int):=by rw [zn (by omega) (by omega)];rfl
  have g:=fun y7=>gR h4 l4 (n + m) y7 (iI (i:Int)) z9 rfl;clear hR2 gR;replace g:=za g;replace l4:=za l4;replace hm:=za hm;replace hm1:=za hm1;simp only [zb,aR,ze,zf, *];exact g.h _
 have hlk' : (i:Int) < p.tasks.length:=by omega
 have hwi:IntKind.i64.wrap ((i:Int) + 1)=((i + 1:Nat):Int):=by rw [zn (by omega) (by omega)];rfl
 obtain ⟨tk,htk⟩:∃ t,p.tasks[i]? = some t:=⟨_,List.getElem?_eq_getElem hlk⟩;obtain ⟨id,off,cells,own,u,e1,e2,e3,hb,_⟩:=(ht1.h.mono (l2.h.trans l4)).elem0 htk;have st:=yj4 h4 tk.name tk.handler tk.hart tk.prio tk.line hb.isS0;obtain ⟨q5,h5,eq5,eh5,gq5,lh5⟩:=zj h4 [str tk.name,.bool tk.handler,iI tk.hart,iI tk.prio,iI tk.line,u];rw [eh5,eq5] at st;have l5:=l4.trans lh5;have cs:=ys3 (a:=a) (k:=(j:Int) + 1) htk;obtain ⟨b0,hb0⟩:∃ b,zn5 a (p.tasks.take i) ((j:Int) + 1)=b:=⟨_,rfl⟩;rw [hb0] at cs;rw [hb0];have gF:=fun (hc:(tk.hart == a && tk.handler && tk.prio == (j:Int) + 1)=false)=>hR2.h [prV p.harts d r t,iI a,ptr b1,iI 0,.bool true,iI (n:Int),iI (j + 1:Nat),iI ((if b0 then 1 else 0:Nat):Int),iI ((i + 1:Nat):Int),ptr q5,udq] h5 hlk ⟨l5,ptr q5,by rw [cs,hc,Bool.or_false]⟩;have gT:=fun (hc:(tk.hart == a && tk.handler && tk.prio == (j:Int) + 1)=true)=>hR2.h [prV p.harts d r t,iI a,ptr b1,iI 0,.bool true,iI (n:Int),iI (j + 1:Nat),iI 1,iI ((i + 1:Nat):Int),ptr q5,udq] h5 hlk ⟨l5,ptr q5,by rw [cs,hc,Bool.or_true];rfl⟩;clear hR2 gR cs;have ej:(((j + 1:Nat):Int))=(j:Int) + 1:=rfl;obtain ⟨m,hm⟩:∃ m:Int,((if b0 then 1 else 0:Nat):Int)=m:=⟨_,rfl⟩;rw [hm] at gF;rw [hm];obtain ⟨tb,htb⟩:∃ b,tk.handler=b:=⟨_,rfl⟩;rw [htb] at st e3 gq5 gT gF eh5;replace l4:=za l4;replace l5:=za l5;replace lh5:=za lh5;replace htk:=za htk;replace hb:=za hb;replace gF:=za gF;replace gT:=za gT;replace htb:=za htb;replace hb0:=za hb0;replace hm:=za hm;replace ej:=za ej;cases eh:(tk.hart == a) with
 | false =>
  have g:=gF.h (by rw [eh];rfl);clear gF gT;replace g:=za g;simp only [zb,aR,aW,ze,zf, *];exact g.h
 | true =>
 cases tb with
 | false =>
  have g:=gF.h (by rw [eh];rfl);clear gF gT;replace g:=za g;simp only [zb,aR,aW,ze,zf, *];exact g.h
 | true =>
 cases ep:(tk.prio == ((j + 1:Nat):Int)) with
 | false =>
  have g:=gF.h (by rw [← ej.h,eh,ep];rfl);clear gF gT;replace g:=za g;simp only [zb,aR,aW,ze,zf, *];exact g.h
 | true =>
  have g:=gT.h (by rw [← ej.h,eh,ep];rfl);clear gF gT;replace g:=za g;simp only [zb,aR,aW,ze,zf, *];exact g.h
end Go.Eng.Sy
