/-
  Part of a proof of the laws of layer 09 (ceiling): what each function does.
  Conditions: none.
-/
import Derived.Test.YtddbbcpelbcahaaGreatDoorBf
set_option linter.unusedSimpArgs false
set_option linter.unusedVariables false
namespace Go.Eng.Sy
open Go Go.Eng Go.Proofs
def Jm (a:Int):Nat→List Tsk→List Int
 | _,[]=>[]
 | k,t::r=>(if t.handler=true∧t.hart=a then [(k:Int)] else [])++Jm a (k + 1) r
theorem ya9 (a:Int):∀ (k:Nat) (x y:List Tsk),Jm a k (x++y)=Jm a k x++Jm a (k + x.length) y
 | k,[],y=>rfl
 | k,t::x,y=>by
  simp only [List.cons_append,Jm,ya9 a (k + 1) x y,List.append_assoc,List.length_cons];rw [show k + 1 + x.length=k + (x.length + 1) by omega]
theorem zn2 {a:Int}{ts:List Tsk}{i:Nat}{t:Tsk}(hi:ts[i]? = some t):Jm a 0 (ts.take (i + 1))=Jm a 0 (ts.take i)++(if t.handler=true∧t.hart=a then [(i:Int)] else []):=by
 have hlt:=(List.getElem?_eq_some_iff.1 hi).1;rw [List.take_add_one,hi,ya9];simp only [Option.toList_some,Jm,List.append_nil,Nat.zero_add,List.length_take,Nat.min_eq_left (Nat.le_of_lt hlt)]
theorem ze4 {a:Int}:∀ {k:Nat}{ts:List Tsk}{z:Int},z ∈ Jm a k ts → ∃ i t,ts[i]? = some t∧z=(k + i:Nat)∧t.handler=true∧t.hart=a
 | k,[],z,h=>by simp [Jm] at h
 | k,t::r,z,h=>by
  simp only [Jm,List.mem_append] at h;rcases h with h | h
  ·split at h
   ·rename_i hc;rw [List.mem_singleton] at h;exact ⟨0,t,rfl,by rw [h];rfl,hc.1,hc.2⟩
   ·simp at h
  ·obtain ⟨i,t',h1,h2,h3⟩:=ze4 h;exact ⟨i + 1,t',by simpa using h1,by rw [h2];congr 1;omega,h3⟩
theorem Qm (a:Int):∀ (k:Nat) (ts:List Tsk),(Jm a k ts).length≤ts.length
 | k,[]=>by simp [Jm]
 | k,t::r=>by
  have:=Qm a (k + 1) r;simp only [Jm,List.length_append,List.length_cons];split<;>simp<;>omega
theorem TssV.elem0 {h:Heap}{v:Value}{l:List Tsk}(hv:TssV h v l){i:Nat}{e:Tsk}(hi:l[i]? = some e) :
  ∃ id off cells own u,zp 6 [v,iI (i:Int)]=some (pT id off)∧h.get id=some (.blk cells own)∧qu true off 6 cells=some (tsV e.name e.handler e.hart e.prio e.line u)∧StsV h u e.body ∧ ∀ j,j < 6→cells[off + j]? = (tsL e u)[j]?:=by
 obtain ⟨xs,a,_,b⟩:=hv;obtain ⟨x,h1,u,rfl,h3⟩:=b.get i e hi;obtain ⟨id,off,cells,own,g1,g2,g3,g4⟩:=a.elem h1;exact ⟨id,off,cells,own,u,g1,g2,g3,h3,g4⟩
theorem StsV.isS0 {h:Heap}{v:Value}{l:List St}(hv:StsV h v l):IsS v:=by obtain ⟨_,a,_⟩:=hv;exact SlV.isS a
set_option maxHeartbeats 1000000 in
theorem yg8 {h:Heap}{p:Prg}{x:lVq}(hx:PrC h p x) (hl:p.tasks.length≤1000) (a:Int) (Q:vPq)
  (hq:∀ h' v',h.le h' → OwnS (zw h.next) h' 1 v' ((Jm a 0 p.tasks).map inR)→Q v' h'):CallW Tryz.prog 34 [.agg x.toArray,iI a] h Q:=by
 obtain ⟨dv,rv,tv,rfl,hd,hr,ht⟩:=hx;have bx1:=yy (n:=p.harts) hd.one hr.one ht.one;obtain ⟨b1,h1,eb1,eh1,gb1,lh1⟩:=zj h [iI p.harts,dv,rv,tv];have hln:=ht.len;have ht1:=ht.mono lh1;clear hd hr ht;replace ht1:=za ht1;replace lh1:=za lh1;refine zg (k:=3) ok34 rfl rfl rfl fun N=>?_;rw [wn c34 zr4 rfl];delta c34;replace hq:=za hq;simp only [zb,aR, *];refine LoopW.upto p.tasks.length (fun i e h3=>∃ vo x4 x5 x9,e=[prV p.harts dv rv tv,iI a,ptr b1,vo,x4,x5,tv,iI p.tasks.length,iI i,x9]∧h1.le h3∧OwnS (zw h1.next) h3 1 vo ((Jm a 0 (p.tasks.take i)).map inR)) ?_ (Nat.zero_le _) ⟨zq,_,_,_,rfl,Heap.le.refl _,by simp only [List.take_zero,Jm,List.map_nil];exact OwnS.nil _ _ _⟩;rintro i _ h3 R hi ⟨vo,x4,x5,x9,rfl,l3,ho3⟩ hR;delta c34_l7;by_cases hlt:i < p.tasks.length
 case neg =>
  have hlt' : ¬ (i:Int) < p.tasks.length:=by omega
  rw [List.take_of_length_le (by omega)] at ho3;have g:=hq.h h3 vo (lh1.h.trans l3) (ho3.weak lh1.h.next);clear hR;replace g:=za g;replace l3:=za l3;replace ho3:=za ho3;simp only [zb,ze,zf, *];exact g.h
 case pos =>
  have hlt' : (i:Int) < p.tasks.length:=by omega
  have hw:IntKind.i64.wrap ((i:Int) + 1)=((i + 1:Nat):Int):=by rw [zn (by omega) (by omega)];rfl
  obtain ⟨t,htk⟩:∃ t,p.tasks[i]? = some t:=⟨_,List.getElem?_eq_getElem hlt⟩;have tk1:=zn2 (a:=a) htk;have hln2:=Qm a 0 (p.tasks.take i);rw [List.length_take] at hln2;obtain ⟨id,off,cells,own,u,e1,e2,e3,hb,_⟩:=(ht1.h.mono l3).elem0 htk;have st:=yj4 h3 t.name t.handler t.hart t.prio t.line hb.isS0;obtain ⟨q,h4,eq,eh4,gq,lh4⟩:=zj h3 [str t.name,.bool t.handler,iI t.hart,iI t.prio,iI t.line,u];rw [eh4,eq] at st;have ho4:OwnS (zw h1.next) h4 1 vo ((Jm a 0 (p.tasks.take i)).map inR):=ho3.get fun id hv hs=>lh4.getE id hs;have l4:=l3.trans lh4;have fin:∀ (z:Value) (hE:Heap) (c d e:Value),OwnS (zw h1.next) hE 1 z ((Jm a 0 (p.tasks.take (i + 1))).map inR)→h1.le hE→R [prV p.harts dv rv tv,iI a,ptr b1,z,c,d,tv,iI p.tasks.length,iI (i + 1:Nat),e] hE:=fun z hE c d e h1' h2'=>hR.h _ hE hlt ⟨z,c,d,e,rfl,h2',h1'⟩;clear hR hq;by_cases hc:t.handler=true∧t.hart=a
  case pos =>
   have c1:t.handler=true:=hc.1;have c2:(t.hart == a)=true:=by simpa using hc.2
   rw [c1] at gq st e3;rw [if_pos hc] at tk1;obtain ⟨v',h6,ap,ho6,le6,k6,n6,nx6⟩:=ho4.append1 (x:=[iI (i:Int)]) (ym l4.next) rfl (by omega) (b:=8) (by rw [List.length_map];omega) (by rw [List.length_map];omega);have u1:=yi0 (i:Int);have l6:h1.le h6:=⟨fun id o hg=>by
    have h1:=l4.get hg;rw [k6 id (by rw [h1];rfl) (ho4.notOf (Heap.lt_of_get hg))];exact h1,Nat.le_trans l4.next nx6⟩
   replace c1:=Hid.mk c1;have g:=fun c d e=>fin v' h6 c d e (by rw [tk1,List.map_append];exact ho6) l6;clear fin;replace g:=za g;replace l3:=za l3;replace ho3:=za ho3;replace tk1:=za tk1;replace htk:=za htk;replace hb:=za hb;replace lh4:=za lh4;replace ho4:=za ho4;replace l4:=za l4;replace hc:=za hc;replace ho6:=za ho6;replace le6:=za le6;replace k6:=za k6;replace n6:=za n6;replace l6:=za l6;simp only [zb,aR,aW,ze,zf, *];exact g.h _ _ _
  case neg =>
   rw [if_neg hc,List.append_nil] at tk1;have g:=fun c d e=>fin vo h4 c d e (by rw [tk1];exact ho4) l4;clear fin;cases hh:t.handler with
   | true =>
    have c2:(t.hart == a)=false:=by
     cases h2:(t.hart == a) with
     | false=>rfl
     | true=>exact absurd ⟨hh,by simpa using h2⟩ hc
    rw [hh] at gq st e3;replace g:=za g;replace l3:=za l3;replace ho3:=za ho3;replace tk1:=za tk1;replace htk:=za htk;replace hb:=za hb;replace lh4:=za lh4;replace ho4:=za ho4;replace l4:=za l4;replace hc:=za hc;replace hh:=za hh;simp only [zb,aR,aW,ze,zf, *];exact g.h _ _ _
   | false =>
    rw [hh] at gq st e3;replace g:=za g;replace l3:=za l3;replace ho3:=za ho3;replace tk1:=za tk1;replace htk:=za htk;replace hb:=za hb;replace lh4:=za lh4;replace ho4:=za ho4;replace l4:=za l4;replace hc:=za hc;replace hh:=za hh;simp only [zb,aR,aW,ze,zf, *];exact g.h _ _ _
def ur (p:Prg) (z:Int):Int:=match p.tasks[z.toNat]? with | some t=>t.prio | none=>0
def Wf (p:Prg) (a v:Int):List Int:=ul (hiF (ur p)) ((Jm a 0 p.tasks).filter fun z=>decide (v < ur p z))
theorem Qf {p:Prg}{i:Nat}{t:Tsk}(hi:p.tasks[i]? = some t):ur p (i:Int)=t.prio:=by
 unfold ur;rw [Int.toNat_natCast,hi]
theorem yl2 (p:Prg) (a v:Int):(Wf p a v).length≤p.tasks.length:=by
 unfold Wf;rw [zm9];exact Nat.le_trans (List.length_filter_le _ _) (Qm a 0 p.tasks)
section
variable {h:Heap}{p:Prg}{b1 b2:Nat}{n0 v:Int}{dv rv tv:Value}
theorem tell_c (gb:h.get b1=some (.blk [iI n0,dv,rv,tv] true)) (g2:h.get b2=some (.blk [iI v] true)) (ht:TssV h tv p.tasks){i:Nat}{t:Tsk}(hi:p.tasks[i]? = some t) (Q:vPq) (hq:Q (.bool (decide (t.prio≤v))) h):CallW Tryz.prog 35 [iI i,ptr b1,ptr b2] h Q:=by
 obtain ⟨id,off,cells,own,u,e1,e2,e3,hb,e4⟩:=ht.elem0 hi;have c3:cells[off + 3]? = some (iI t.prio):=e4 3 (by omega);clear e4 hb;replace ht:=za ht;refine zg (k:=3) ok35 rfl rfl rfl fun N=>?_;rw [zj7 c35 kv rfl];delta c35;replace hq:=za hq;by_cases hc:t.prio≤v
 ·have g:=hq.h;rw [show decide (t.prio≤v)=true by simpa using hc] at g;replace g:=Hid.mk g;clear hq;simp only [zb,aR,ze,zf, *];exact g.h
 ·have g:=hq.h;rw [show decide (t.prio≤v)=false by simpa using hc] at g;replace g:=Hid.mk g;clear hq;simp only [zb,aR,ze,zf, *];exact g.h
theorem comp_c (gb:h.get b1=some (.blk [iI n0,dv,rv,tv] true)) (ht:TssV h tv p.tasks){i j:Nat}{s t:Tsk}(hi:p.tasks[i]? = some s) (hj:p.tasks[j]? = some t) (Q:vPq) (hq:Q (iI (IntKind.i64.wrap (t.prio - s.prio))) h):CallW Tryz.prog 37 [iI i,iI j,ptr b1] h Q:=by
 obtain ⟨id,off,cells,own,u,e1,e2,e3,hb,e4⟩:=ht.elem0 hi;have c3:cells[off + 3]? = some (iI s.prio):=e4 3 (by omega);obtain ⟨id',off',cells',own',u',f1,f2,f3,hb',f4⟩:=ht.elem0 hj;have d3:cells'[off' + 3]? = some (iI t.prio):=f4 3 (by omega);clear e4 hb f4 hb';replace ht:=za ht;refine zg (k:=3) ok37 rfl rfl rfl fun N=>?_;rw [zj7 c37 kv rfl];delta c37;replace hq:=za hq;have g:=hq;clear hq;simp only [zb,aR,ze,zf, *];exact g.h
end
structure OkQ (p:Prg):Prop extends OkP p where
 tl:p.tasks.length≤19
 prio:∀ t ∈ p.tasks,0≤t.prio∧t.prio≤7
 hart:∀ t ∈ p.tasks,0≤t.hart∧t.hart < p.harts
 harts:0≤p.harts∧p.harts≤4
 rl:p.ress.length≤100
 st:∀ t ∈ p.tasks,(∀ s ∈ t.body,StI s 30)∧ye t.body≤100000
 ok:∀ t ∈ p.tasks,zj6 p (zl p) [] t.body
set_option maxHeartbeats 1000000 in
theorem Starts_c {h:Heap}{p:Prg}{x:lVq}(hx:PrC h p x) (ho:OkQ p) (a v:Int) (Q:vPq)
  (hq:∀ h' v',h.le h' → Ints h' v' (Wf p a v)→Q v' h'):CallW Tryz.prog 18 [.agg x.toArray,iI a,iI v] h Q:=by
 obtain ⟨dv,rv,tv,rfl,hd,hr,ht⟩:=hx;have hx0:PrC h p [iI p.harts,dv,rv,tv]:=⟨dv,rv,tv,rfl,hd,hr,ht⟩;have bx1:=yy (n:=p.harts) hd.one hr.one ht.one;have bx2:Je [iI v]=some ([iI v],fun id=>(pT id 0)):=rfl;obtain ⟨b1,h1,eb1,eh1,gb1,lh1⟩:=zj h [iI p.harts,dv,rv,tv];obtain ⟨b2,h2,eb2,eh2,gb2,lh2⟩:=zj h1 [iI v];have gb1':=lh2.get gb1;have l02:=lh1.trans lh2;have ht2:=ht.mono l02;have hx2:=hx0.mono l02;clear hd hr ht;replace hx0:=za hx0;replace ht2:=za ht2;replace hx2:=za hx2;replace lh1:=za lh1;replace lh2:=za lh2;replace l02:=za l02;replace ho:=za ho;refine zg (k:=5) ok18 rfl rfl rfl fun N=>?_;rw [zj7 c18 Ub rfl];delta c18;replace hq:=za hq;simp only [zb,aR,yb, *];refine Ko hx2.h ho.h.toOkP _ fun h3 l3=>?_;have g31:=l3.get gb1';have g32:=l3.get gb2;replace l3:=za l3;simp only [zb,aR,yb, *];refine yg8 (hx2.h.mono l3.h) (by have:=ho.h.tl;omega) a _ fun h4 vo l4 hov=>?_;obtain ⟨ys,hys⟩:∃ l,Jm a 0 p.tasks=l:=⟨_,rfl⟩;have hyl:ys.length≤19:=by rw [← hys];have:=Qm a 0 p.tasks;have:=ho.h.tl;omega
 rw [hys] at hov;have nv1:notOf vo b1:=hov.notOf (Heap.lt_of_get g31);have nv2:notOf vo b2:=hov.notOf (Heap.lt_of_get g32);have lF:∀ hh,Off vo h4 hh→h2.le hh:=fun hh hf=>⟨fun i o hg=>by
  have h3':=l3.h.get hg;have h4':=l4.get h3';rw [hf.get i (hov.notOf (Heap.lt_of_get h3')) (by rw [h4'];rfl)];exact h4',by have:=l3.h.next;have:=l4.next;have:=hf.next;omega⟩
 have hyat:∀ z ∈ ys,∃ i t,p.tasks[i]? = some t∧z=(i:Nat):=fun z hz=>by
  rw [← hys] at hz;obtain ⟨i,t,h1,h2,_⟩:=ze4 hz;exact ⟨i,t,h1,by rw [h2,Nat.zero_add]⟩
 replace l4:=za l4;replace hov:=za hov;replace hys:=za hys;replace nv1:=za nv1;replace nv2:=za nv2;replace lF:=za lF;replace hyat:=za hyat;simp only [zb, *];refine delete_c (p:=fun z=>decide (ur p z≤v)) (ys:=ys) (OwnP.of hov.h) (by omega) (fun z hz hh Q' hf hq'=>?_) _ fun v' h5 tl hp5 hf5 nn=>?_
 ·obtain ⟨i,t,h1,rfl⟩:=hyat.h z hz;have lh:=lF.h hh hf;refine CallW.val (tell_c (v:=v) (lh.get gb1') (lh.get gb2) (ht2.h.mono lh) h1 Q' ?_);have:=hq' hh (Heap.le.refl _);dsimp only at this
  rwa [Qf h1] at this
 ·obtain ⟨zs,hzs⟩:∃ l,(ys.filter fun z=>!decide (ur p z≤v))=l:=⟨_,rfl⟩;rw [hzs] at hp5;have ezs:zs=ys.filter fun z=>decide (v < ur p z):=by
   rw [← hzs];congr 1;funext z;by_cases h:ur p z≤v<;>simp [h]<;>omega
  have hzl:zs.length≤19:=by rw [ezs];exact Nat.le_trans (List.length_filter_le _ _) hyl
  have hoff:∀ hh,Off v' h5 hh→Off vo h4 hh:=fun hh hf=>⟨fun i hi hs=>by rw [hf.get i (nn i hi) (by rw [hf5.get i hi hs];exact hs),hf5.get i hi hs],Nat.le_trans hf5.next hf.next⟩;have hzat:∀ z ∈ zs,∃ i t,p.tasks[i]? = some t∧z=(i:Nat):=fun z hz=>hyat.h z (by rw [ezs] at hz;exact (List.mem_filter.1 hz).1);replace hp5:=za hp5;replace hf5:=za hf5;replace nn:=za nn;replace hzs:=za hzs;replace ezs:=za ezs;replace hoff:=za hoff;replace hzat:=za hzat;simp only [zb, *];refine zk5 (lt:=hiF (ur p)) hp5.h hzl (fun z1 z2 hz1 hz2 hh Q' hf hq'=>?_) _ fun h6 hp6 hf6=>?_
  ·obtain ⟨i,s,h1,rfl⟩:=hzat.h z1 hz1;obtain ⟨j,t,h2,rfl⟩:=hzat.h z2 hz2;have lh:=lF.h hh (hoff.h hh hf);refine CallW.val (comp_c (lh.get gb1') (ht2.h.mono lh) h1 h2 Q' ?_);refine hq' _ hh ?_ (Heap.le.refl _);have p1:=ho.h.prio s (List.mem_of_getElem? h1);have p2:=ho.h.prio t (List.mem_of_getElem? h2);rw [zn (by omega) (by omega)];unfold hiF;rw [Qf h1,Qf h2];simp only [decide_eq_decide];omega
  ·have es:ul (hiF (ur p)) zs=Wf p a v:=by unfold Wf;rw [ezs.h,hys.h]
   have g:=hq.h h6 v' (l02.h.trans (lF.h h6 (hoff.h h6 hf6))) (by rw [← es];exact hp6.ints);replace g:=za g;replace hp6:=za hp6;replace hf6:=za hf6;replace es:=za es;simp only [zb, *];exact g.h
def locL (p:Prg) (t:Tsk):List Int:=Lib.compact (srt (uj p t.body))
set_option maxHeartbeats 1000000 in
theorem Locks_c {h:Heap}{p:Prg}{x:lVq}(hx:PrC h p x) (ho:OkQ p){i:Nat}{t:Tsk}(hi:p.tasks[i]? = some t) (Q:vPq)
  (hq:∀ h' v',h.le h' → Ints h' v' (locL p t)→Q v' h'):CallW Tryz.prog 22 [.agg x.toArray,iI i] h Q:=by
 obtain ⟨dv,rv,tv,rfl,hd,hr,ht⟩:=hx;have hx0:PrC h p [iI p.harts,dv,rv,tv]:=⟨dv,rv,tv,rfl,hd,hr,ht⟩;have bx1:=yy (n:=p.harts) hd.one hr.one ht.one;obtain ⟨b1,h1,eb1,eh1,gb1,lh1⟩:=zj h [iI p.harts,dv,rv,tv];have ht1:=ht.mono lh1;have hx1:=hx0.mono lh1;have hln:=ht.len;have hlt:=(List.getElem?_eq_some_iff.1 hi).1;have i0:¬ (i:Int) < 0:=by omega
 have i1:¬ (p.tasks.length:Int)≤i:=by omega
 obtain ⟨hst,hct⟩:=ho.st t (List.mem_of_getElem? hi);clear hd hr ht;replace hx0:=za hx0;replace ht1:=za ht1;replace hx1:=za hx1;replace lh1:=za lh1;replace ho:=za ho;replace hst:=za hst;replace hi:=za hi;refine zg (k:=3) ok22 rfl rfl rfl fun N=>?_;rw [wn c22 u0 rfl];delta c22;replace hq:=za hq;simp only [zb,aR,yb, *];refine Ko hx1.h ho.h.toOkP _ fun h2 l2=>?_;have g2:=l2.get gb1;replace l2:=za l2;simp only [zb,aR,ze,zf,yb, *];obtain ⟨id,off,cells,own,u,e1,e2,e3,hb,e4⟩:=(ht1.h.mono l2.h).elem0 hi.h;have c5:cells[off + 5]? = some u:=e4 5 (by omega);clear e4;replace hb:=za hb;simp only [zb,aR, *];refine yq5 30 p _ t.body u h2 _ (hx1.h.mono l2.h) hst.h (by omega) hb.h fun h3 v3 l3 ho3=>?_;have hll:=uo p t.body;replace l3:=za l3;replace ho3:=za ho3;simp only [zb, *];refine sort_c ho3.h (by omega) _ fun h4 ho4 k4 n4=>?_;have hsl:(srt (uj p t.body)).length=(uj p t.body).length:=List.length_mergeSort _;replace ho4:=za ho4;replace k4:=za k4;replace n4:=za n4;replace hsl:=za hsl;simp only [zb, *];refine yv3 ho4.h (by rw [hsl.h];omega) _ fun v5 h5 hi5 k5 n5=>?_;have l35:h2.le h5:=⟨fun j o hg=>by
  have g3:=l3.h.get hg;have nv:notOf v3 j:=ho3.h.notOf (Heap.lt_of_get hg);rw [k5 j nv,k4.h j nv];exact g3,by have:=l3.h.next;have:=n4.h;omega⟩
 have g:=hq.h h5 v5 ((lh1.h.trans l2.h).trans l35) hi5;replace g:=za g;replace hi5:=za hi5;replace k5:=za k5;replace n5:=za n5;replace l35:=za l35;simp only [zb, *];exact g.h
theorem zl3 {α:Type}(f:Nat→α) (n k:Nat) (y:α):((List.range n).map f).set k y=(List.range n).map fun i=>if i=k then y else f i:=by
 refine List.ext_getElem? fun i=>?_;rw [List.getElem?_set];by_cases h:k=i
 ·subst h;by_cases hk:k < n
  ·simp [hk]
  ·simp [hk]
 ·rw [if_neg h,List.getElem?_map,List.getElem?_map];by_cases hi:i < n
  ·have h' : ¬ i=k:=fun e=>h e.symm;simp [hi,h']
  ·simp [hi]
theorem Qe {α:Type}(f:Nat→α){n k:Nat}(hk:k < n):((List.range n).map f)[k]? = some (f k):=by simp [hk]
abbrev yj5 (ids:Nat→Nat) (n a:Nat):Value:=.slice (some ⟨ids a,0,none⟩) n 1
abbrev rowC (n:Nat) (V:Nat→Int):lVq:=(List.range n).map fun k=>iI (V k)
structure MatV (n0 m0 H n:Nat) (h:Heap) (v:Value) (id0:Nat) (ids:Nat→Nat) (V:Mat):Prop where
 val:v = .slice (some ⟨id0,0,none⟩) H 1
 top:h.get id0=some (.blk ((List.range H).map (yj5 ids n)) true)
 row:∀ a,a < H→h.get (ids a)=some (.blk (rowC n (V a)) true)
 inj:∀ a b,a < H→b < H→ids a=ids b→a=b
 ne:∀ a,a < H→ids a≠id0
 lo:n0≤id0 ∧ ∀ a,a < H→n0≤ids a
 hi:id0 < m0 ∧ ∀ a,a < H→ids a < m0
theorem MatV.ext {n0 m0 H n:Nat}{h:Heap}{v:Value}{id0:Nat}{ids:Nat→Nat}{V W:Mat}(hm:MatV n0 m0 H n h v id0 ids V) (he:∀ a k,a < H→k < n→V a k=W a k):MatV n0 m0 H n h v id0 ids W :=
 ⟨hm.val,hm.top,fun a ha=>by
  rw [hm.row a ha]
  congr 2
  refine List.map_congr_left fun k hk=>?_;rw [he a k ha (List.mem_range.1 hk)],hm.inj,hm.ne,hm.lo,hm.hi⟩
structure Mid (n0 m0:Nat) (h h' : Heap):Prop where
 get:∀ i,(i < n0∨m0≤i)→(h.get i).isSome=true→h'.get i=h.get i
 next:h.next≤h'.next
theorem Mid.refl {n0 m0:Nat}(h:Heap):Mid n0 m0 h h:=⟨fun _ _ _=>rfl,Nat.le_refl _⟩
theorem Mid.trans {n0 m0:Nat}{a b c:Heap}(h1:Mid n0 m0 a b) (h2:Mid n0 m0 b c):Mid n0 m0 a c :=
 ⟨fun i hi hs=>by rw [h2.get i hi (by rw [h1.get i hi hs];exact hs),h1.get i hi hs],Nat.le_trans h1.next h2.next⟩
theorem Mid.of {n0 m0:Nat}{a b:Heap}(h:a.le b):Mid n0 m0 a b:=⟨fun i _ hs=>h.getE i hs,h.next⟩
theorem Mid.keep {n0 m0:Nat}{a b:Heap}(h:Mid n0 m0 a b){i:Nat}(hi:i < n0∨m0≤i){o:AObj}(hg:a.get i=some o):b.get i=some o:=by
 rw [h.get i hi (by rw [hg];rfl)];exact hg
theorem MatV.le {n0 m0 H n:Nat}{h h' : Heap}{v:Value}{id0:Nat}{ids:Nat→Nat}{V:Mat}(hm:MatV n0 m0 H n h v id0 ids V) (hl:h.le h'):MatV n0 m0 H n h' v id0 ids V :=
 { hm with top:=hl.get hm.top,row:=fun a ha=>hl.get (hm.row a ha) }
theorem MatV.at {n0 m0 H n:Nat}{h:Heap}{v:Value}{id0:Nat}{ids:Nat→Nat}{V:Mat}(hm:MatV n0 m0 H n h v id0 ids V){a:Nat}(ha:a < H) :
  zp 1 [v,iI (a:Int)]=some (pT id0 a)∧h.get id0=some (.blk ((List.range H).map (yj5 ids n)) true)∧((List.range H).map (yj5 ids n))[a]? = some (yj5 ids n a)∧ua [yj5 ids n a]=some (iI n):=by
 refine ⟨?_,hm.top,Qe _ ha,rfl⟩;rw [hm.val];have:(a:Int) < H:=by omega
 simp [zp,ha]
theorem MatV.cell {n0 m0 H n:Nat}{h:Heap}{v:Value}{id0:Nat}{ids:Nat→Nat}{V:Mat}(hm:MatV n0 m0 H n h v id0 ids V){a k:Nat}(ha:a < H) (hk:k < n) :
  zp 1 [yj5 ids n a,iI (k:Int)]=some ((pT (ids a) k))∧h.get (ids a)=some (.blk (rowC n (V a)) true)∧(rowC n (V a))[k]? = some (iI (V a k)):=by
 refine ⟨?_,hm.row a ha,Qe _ hk⟩;have:(k:Int) < n:=by omega
 simp [zp,hk]
theorem MatV.put {n0 m0 H n:Nat}{h:Heap}{v:Value}{id0:Nat}{ids:Nat→Nat}{V W:Mat}(hm:MatV n0 m0 H n h v id0 ids V){a k:Nat}(ha:a < H) (hk:k < n){y:Int}(hW:∀ a' k',a' < H→k' < n→W a' k' = if a' = a∧k' = k then y else V a' k') :
  ∃ h',zt 1 h [pT (ids a) k,iI y]=some (udq,h')∧MatV n0 m0 H n h' v id0 ids W∧Mid n0 m0 h h':=by
 obtain ⟨_,c2,c3⟩:=hm.cell ha hk;have hs:=jw (k:=.i64) (z:=y) (off:=k) c2 (by rw [List.length_map,List.length_range];exact hk);have hlo:=hm.lo.2 a ha;have hhi:=hm.hi.2 a ha;refine ⟨_,hs,?_,⟨fun i hi _=>Heap.set_getE _ _ _ _ (by simp;omega),Nat.le_refl _⟩⟩;have e:(rowC n (V a)).set k (iI y)=rowC n (W a):=by
  rw [zl3];refine List.map_congr_left fun i hi=>?_;rw [hW a i ha (List.mem_range.1 hi)];by_cases h:i=k
  ·subst h;simp
  ·simp [h]
 rw [e];refine { hm with top:=?_,row:=fun b hb=>?_ }
 ·rw [Heap.set_getE _ _ _ _ (by simpa using (hm.ne a ha).symm)];exact hm.top
 ·by_cases hab:b=a
  ·subst hab;exact Heap.set_getS _ _ _ (by rw [c2];rfl)
  ·rw [Heap.set_getE _ _ _ _ (by simpa using fun e=>hab (hm.inj b a hb ha e)),hm.row b hb]
   congr 2
   refine List.map_congr_left fun k' hk'=>?_;rw [hW b k' hb (List.mem_range.1 hk'),if_neg (fun e=>hab e.1)]
def yl0 (h r v:Int) (c:Nat) (V:Mat):Mat:=fun a k=>if (a:Int)=h∧r≤k∧k < c then max (V a k) v else V a k
theorem yq2 (a b:Int):(if b > a then b else a)=max a b:=by omega
structure MatN (n0 H n:Nat) (h:Heap) (v:Value) (id0 i:Nat) (ids:Nat→Nat):Prop where
 val:v = .slice (some ⟨id0,0,none⟩) H 1
 top:h.get id0=some (.blk ((List.range H).map fun a=>if a < i then yj5 ids n a else zq) true)
 row:∀ a,a < i→h.get (ids a)=some (.blk (rowC n fun _=>0) true)
 inj:∀ a b,a < i→b < i→ids a=ids b→a=b
 ne:∀ a,a < i→ids a≠id0
 lo:n0≤id0 ∧ ∀ a,a < i→n0≤ids a
 hi:id0 < h.next ∧ ∀ a,a < i→ids a < h.next
theorem MatN.mat {n0 H n:Nat}{h:Heap}{v:Value}{id0:Nat}{ids:Nat→Nat}(hm:MatN n0 H n h v id0 H ids):MatV n0 h.next H n h v id0 ids (fun _ _=>0) :=
 ⟨hm.val,by
  rw [hm.top]
  congr 2
  refine List.map_congr_left fun a ha=>?_;rw [if_pos (List.mem_range.1 ha)],hm.row,hm.inj,hm.ne,hm.lo,hm.hi⟩
theorem zc8 {α:Type}(y:α):∀ n,(List.replicate n [y]).flatten=(List.range n).map fun _=>y
 | 0=>rfl
 | n + 1=>by rw [List.replicate_succ,List.flatten_cons,zc8 y n,List.range_succ_eq_map];simp
theorem make_s {H:Nat}(hH:H≤100):yi8 [nSq] 1 24 [iI (H:Int),iI (H:Int)]=some ((List.range H).map (fun _=>zq),fun id=>.slice (some ⟨id,0,none⟩) H 1):=by
 simp only [yi8];rw [if_pos ⟨by omega,by omega,by omega,by omega⟩,Int.toNat_natCast,zc8]
theorem make_i {n:Nat}(hn:n≤100):yi8 [iI 0] 1 8 [iI (n:Int),iI (n:Int)]=some (rowC n (fun _=>0),fun id=>.slice (some ⟨id,0,none⟩) n 1):=by
 simp only [yi8];rw [if_pos ⟨by omega,by omega,by omega,by omega⟩,Int.toNat_natCast,zc8]
set_option maxHeartbeats 4000000 in
theorem zb7 {h:Heap}{p:Prg}{x:lVq}(hx:PrC h p x) (ho:OkQ p) (Q:vPq)
  (hq:∀ h' v' n0 m0 id0 ids,h.le h' → MatV n0 m0 p.harts.toNat p.ress.length h' v' id0 ids (uw p p.tasks)→Q v' h'):CallW Tryz.prog 12 [.agg x.toArray] h Q:=by
 obtain ⟨dv,rv,tv,rfl,hd,hr,ht⟩:=hx;have hx0:PrC h p [iI p.harts,dv,rv,tv]:=⟨dv,rv,tv,rfl,hd,hr,ht⟩;have bx1:=yy (n:=p.harts) hd.one hr.one ht.one;obtain ⟨H,hH⟩:∃ H:Nat,p.harts=(H:Int):=⟨p.harts.toNat,by have:=ho.harts;omega⟩;have eH:p.harts.toNat=H:=by omega
 rw [eH] at hq;have H4:H≤4:=by have:=ho.harts;omega
 obtain ⟨n,hn⟩:∃ n,p.ress.length=n:=⟨_,rfl⟩;rw [hn] at hq;have n100:n≤100:=by have:=ho.rl;omega
 obtain ⟨b1,h1,eb1,eh1,gb1,lh1⟩:=zj h [iI p.harts,dv,rv,tv];have lnr:=hr.len;have lnt:=ht.len;rw [hn] at lnr;have ht1:=ht.mono lh1;have hx1:=hx0.mono lh1;clear hd hr ht;rw [hH] at gb1 bx1 eh1;replace hx0:=za hx0;replace ht1:=za ht1;replace hx1:=za hx1;replace lh1:=za lh1;replace ho:=za ho;replace eH:=za eH;replace hn:=za hn;refine zg (k:=2) ok12 rfl rfl rfl fun N=>?_;rw [Yo c12 und18q rfl];delta c12;replace hq:=za hq;rw [hH];simp only [zb,aR,yb, *];rw [← hH];refine Ko hx1.h ho.h.toOkP _ fun h2 l2=>?_;rw [hH];have g2:=l2.get gb1;have mk1:=make_s (H:=H) (by omega);have mk2:=make_i n100;obtain ⟨id0,h3,eid0,eh3,gid0,lh3⟩:=zj h2 ((List.range H).map fun _=>zq);have g3:=lh3.get g2;have hn0:h2.next=id0:=eid0;have nid0:=Heap.lt_of_get gid0;have lnH:ua [.slice (some ⟨id0,0,none⟩) H 1]=some (iI H):=rfl;have hmN:MatN h2.next H n h3 (.slice (some ⟨id0,0,none⟩) H 1) id0 0 (fun _=>0):=⟨rfl,by rw [gid0];congr 2,fun a ha=>by omega,fun a b ha=>by omega,fun a ha=>by omega,⟨by omega,fun a ha=>by omega⟩,⟨nid0,fun a ha=>by omega⟩⟩;replace l2:=za l2;replace lh3:=za lh3;replace hn0:=za hn0;replace hmN:=za hmN;replace mk1:=za mk1;have mk1':=mk1.h;simp only [zb,aR, *];refine LoopW.upto H (fun i e hh=>∃ ids x4 x10,e=[prV H dv rv tv,ptr b1,zq,.slice (some ⟨id0,0,none⟩) H 1,x4,udq,udq,udq,iI H,iI i,x10,udq,udq,udq,udq,udq,udq,udq,udq]∧h2.le hh∧MatN h2.next H n hh (.slice (some ⟨id0,0,none⟩) H 1) id0 i ids) ?_ (Nat.zero_le _) ⟨_,_,_,rfl,lh3.h,hmN.h⟩;rintro i _ h4 R hi ⟨ids,x4,x10,rfl,l4,hm4⟩ hR;delta c12_l9;have g4:=l4.get g2;by_cases hlt:i < H
 case pos =>
  have hlt' : (i:Int) < H:=by omega
  have hw:IntKind.i64.wrap ((i:Int) + 1)=((i + 1:Nat):Int):=by rw [zn (by omega) (by omega)];rfl
  have hnx4:h4.next≤h4.next:=Nat.le_refl _;obtain ⟨idn,h5,eidn,eh5,gidn,lh5⟩:=zj h4 (rowC n (fun _=>0));have hin:h4.next=idn:=eidn;have hn5:=Heap.lt_of_get gidn;have ax:zp 1 [.slice (some ⟨id0,0,none⟩) H 1,iI (i:Int)]=some (pT id0 i):=by
   have:(i:Int) < H:=by omega
   simp [zp,hlt]
  have g50:=lh5.get hm4.top;have s6:zt 1 h5 [pT id0 i,.slice (some ⟨idn,0,none⟩) n 1]=some (udq,h5.set id0 (.blk (((List.range H).map fun a=>if a < i then yj5 ids n a else zq).set i (.slice (some ⟨idn,0,none⟩) n 1)) true)):=z6 g50 (by simpa using hlt) rfl rfl;rw [zl3] at s6;have efun:(fun a=>if a=i then (.slice (some ⟨idn,0,none⟩) n 1) else if a < i then yj5 ids n a else zq)=fun a=>if a < i + 1 then yj5 (fun a=>if a=i then idn else ids a) n a else zq:=by
   funext a
   by_cases h1:a=i
   ·subst h1;simp
   ·by_cases h2:a < i
    ·rw [if_neg h1,if_pos h2,if_pos (by omega)];simp [h1]
    ·rw [if_neg h1,if_neg h2,if_neg (by omega)]
  rw [efun] at s6;obtain ⟨h6,eh6⟩:∃ x,h5.set id0 (.blk ((List.range H).map fun a=>if a < i + 1 then yj5 (fun a=>if a=i then idn else ids a) n a else zq) true)=x:=⟨_,rfl⟩;rw [eh6] at s6;have n56:h5.next=h6.next:=by rw [← eh6];rfl
  have hi4:=hm4.hi;have hmN6:MatN h2.next H n h6 (.slice (some ⟨id0,0,none⟩) H 1) id0 (i + 1) (fun a=>if a=i then idn else ids a):=by
   refine ⟨rfl,by rw [← eh6];exact Heap.set_getS _ _ _ (by rw [g50];rfl),fun a ha=>?_,fun a b ha hb e=>?_,fun a ha=>?_,⟨hm4.lo.1,fun a ha=>?_⟩,⟨by have:=hm4.hi.1;have:=lh5.next;omega,fun a ha=>?_⟩⟩
   ·by_cases h1:a=i
    ·simp only [h1,if_true];rw [← eh6,Heap.set_getE _ _ _ _ (by simp;omega)];exact gidn
    ·simp only [h1,if_false];rw [← eh6,Heap.set_getE _ _ _ _ (by simpa using hm4.ne a (by omega))];exact lh5.get (hm4.row a (by omega))
   ·by_cases h1:a=i
    ·by_cases h2:b=i
     ·rw [h1,h2]
     ·simp only [h1,h2,if_true,if_false] at e;have:=hi4.2 b (by omega);omega
    ·by_cases h2:b=i
     ·simp only [h1,h2,if_true,if_false] at e;have:=hi4.2 a (by omega);omega
     ·simp only [h1,h2,if_false] at e;exact hm4.inj a b (by omega) (by omega) e
   ·by_cases h1:a=i
    ·simp only [h1,if_true];omega
    ·simp only [h1,if_false];exact hm4.ne a (by omega)
   ·by_cases h1:a=i
    ·simp only [h1,if_true];have:=l4.next;omega
    ·simp only [h1,if_false];exact hm4.lo.2 a (by omega)
   ·by_cases h1:a=i
    ·simp only [h1,if_true];omega
    ·simp only [h1,if_false];have:=hi4.2 a (by omega);have:=lh5.next;omega
  have l6:h2.le h6:=by rw [← eh6];exact (l4.trans lh5).set (by have:=hm4.lo.1;omega) _
  have g:=fun a b=>hR.h [prV H dv rv tv,ptr b1,zq,.slice (some ⟨id0,0,none⟩) H 1,a,udq,udq,udq,iI H,iI (i + 1:Nat),b,udq,udq,udq,udq,udq,udq,udq,udq] h6 hlt ⟨_,a,b,rfl,l6,hmN6⟩;clear hR hq efun eidn;replace g:=za g;replace l4:=za l4;replace hm4:=za hm4;replace lh5:=za lh5;replace hmN6:=za hmN6;replace l6:=za l6;replace hi4:=za hi4;simp only [zb,aR,aW,ze,zf, *];exact g.h _ _
 case neg =>
  have hlt' : ¬ (i:Int) < H:=by omega
  have hiH:i=H:=by omega
  subst hiH;have hmV:=hm4.mat;obtain ⟨m0,hm0⟩:∃ m,h4.next=m:=⟨_,rfl⟩;rw [hm0] at hmV;obtain ⟨n0,hn0'⟩:∃ m,h2.next=m:=⟨_,rfl⟩;rw [hn0'] at hmV;have hnm:n0≤m0:=by rw [← hn0',← hm0];exact l4.next
  clear hR hlt;replace l4:=za l4;replace hm4:=za hm4;replace hmV:=za hmV;replace hm0:=za hm0;replace hn0':=za hn0';replace hnm:=za hnm;simp only [zb,aR,ze,zf, *];refine LoopW.upto p.tasks.length (fun j en hh=>∃ x4 x5 x6 x7 x10 x14 x15 x16 x17 x18,en=[prV i dv rv tv,ptr b1,zq,.slice (some ⟨id0,0,none⟩) i 1,x4,x5,x6,x7,iI i,iI i,x10,tv,iI p.tasks.length,iI j,x14,x15,x16,x17,x18]∧MatV n0 m0 i n hh (.slice (some ⟨id0,0,none⟩) i 1) id0 ids (uw p (p.tasks.take j))∧Mid n0 m0 h4 hh) ?_ (Nat.zero_le _) ⟨_,_,_,_,_,_,_,_,_,_,rfl,by simp only [List.take_zero];exact hmV.h,Mid.refl _⟩;rintro j _ h5 R hj ⟨x4,x5,x6,x7,x10,x14,x15,x16,x17,x18,rfl,hm5,md5⟩ hR;delta qa2;have l25:∀ hh,Mid n0 m0 h4 hh→h2.le hh:=fun hh hm=>⟨fun k o hg=>hm.keep (.inl (by have:=Heap.lt_of_get hg;have:=hn0'.h;omega)) (l4.h.get hg),Nat.le_trans l4.h.next hm.next⟩;have g5:=(l25 h5 md5).get g2;by_cases hlj:j < p.tasks.length
  case neg =>
   have hlj' : ¬ (j:Int) < p.tasks.length:=by omega
   rw [List.take_of_length_le (by omega)] at hm5;have g:=hq.h h5 _ n0 m0 id0 ids ((lh1.h.trans l2.h).trans (l25 h5 md5)) hm5;clear hR;replace g:=za g;replace hm5:=za hm5;replace md5:=za md5;replace l25:=za l25;simp only [zb,ze,zf, *];exact g.h
  case pos =>
   have hlj' : (j:Int) < p.tasks.length:=by omega
   have t19:=ho.h.tl;have hwj:IntKind.i64.wrap ((j:Int) + 1)=((j + 1:Nat):Int):=by rw [zn (by omega) (by omega)];rfl
   obtain ⟨t,htk⟩:∃ t,p.tasks[j]? = some t:=⟨_,List.getElem?_eq_getElem hlj⟩;have htm:=List.mem_of_getElem? htk;have ect:=yh8 (p:=p) htk;rw [hn.h] at ect;obtain ⟨id,off,cells,own,u,e1,e2,e3,hb,_⟩:=(ht1.h.mono (l2.h.trans (l25 h5 md5))).elem0 htk;have st:=yj4 h5 t.name t.handler t.hart t.prio t.line hb.isS0;obtain ⟨q,h6,eq,eh6,gq,lh6⟩:=zj h5 [str t.name,.bool t.handler,iI t.hart,iI t.prio,iI t.line,u];rw [eh6,eq] at st;have hqm:m0≤q:=by have:=md5.next;have:=hm0.h;omega
   have hm6:=hm5.le lh6;have md6:=md5.trans (Mid.of lh6);have g6:=lh6.get g5;have hb6:=hb.mono lh6;obtain ⟨hst,hct⟩:=ho.h.st t htm;have hok:=ho.h.ok t htm;obtain ⟨a,ha⟩:∃ a:Nat,t.hart=(a:Int):=⟨t.hart.toNat,by have:=ho.h.hart t htm;omega⟩;have haH:a < i:=by have:=ho.h.hart t htm;omega
   have hx6:=hx1.h.mono (l2.h.trans (l25 h6 md6));rw [ha] at gq e3 st;rw [hH] at hx6;replace hm5:=za hm5;replace md5:=za md5;replace l25:=za l25;replace htk:=za htk;replace htm:=za htm;replace ect:=za ect;replace hb:=za hb;replace lh6:=za lh6;replace hm6:=za hm6;replace md6:=za md6;replace hb6:=za hb6;replace hst:=za hst;replace hok:=za hok;replace ha:=za ha;replace hqm:=za hqm;simp only [zb,aR,aW,ze,zf,yb, *];refine yq5 30 p _ t.body u h6 _ hx6 hst.h (by omega) hb6.h fun h7 lv l7 how=>?_;have hll:=uo p t.body;obtain ⟨ls,hls⟩:∃ l,uj p t.body=l:=⟨_,rfl⟩;rw [hls] at how hll;have hlin:∀ z ∈ ls,0≤z∧z < (n:Int):=fun z hz=>by
    rw [← hls] at hz;have:=Wx t.body [] hok.h z hz;rw [hn.h] at this;exact this
   have hm7:=hm6.h.le l7;have md7:=md6.h.trans (Mid.of l7);have gq7:=l7.get gq;have lnl:ua [lv]=some (iI ls.length):=(OwnP.of how).len;have hmq:m0≤h6.next:=by have:=Heap.lt_of_get gq;have:=hqm.h;omega
   replace l7:=za l7;replace how:=za how;replace hls:=za hls;replace hlin:=za hlin;replace hm7:=za hm7;replace md7:=za md7;replace hmq:=za hmq;simp only [zb, *];refine LoopW.upto ls.length (fun jj en hh=>∃ x6 x7 x18,en=[prV i dv rv tv,ptr b1,zq,.slice (some ⟨id0,0,none⟩) i 1,x4,ptr q,x6,x7,iI i,iI i,x10,tv,iI p.tasks.length,iI j,.bool true,lv,iI ls.length,iI jj,x18]∧MatV n0 m0 i n hh (.slice (some ⟨id0,0,none⟩) i 1) id0 ids ((ls.take jj).foldl (fun V r=>Yv n t.hart r t.prio V) (uw p (p.tasks.take j)))∧Mid n0 m0 h7 hh) ?_ (Nat.zero_le _) ⟨_,_,_,rfl,by simp only [List.take_zero,List.foldl_nil];exact hm7.h,Mid.refl _⟩;rintro jj _ h8 R2 hjj ⟨x6,x7,x18,rfl,hm8,md8⟩ hR2;delta qa3;have gq8:=md8.keep (.inr hqm.h) gq7;have md48:=md7.h.trans md8;have g8:=(l25.h h8 md48).get g2;by_cases hlk:jj < ls.length
   case neg =>
    have hlk' : ¬ (jj:Int) < ls.length:=by omega
    rw [List.take_of_length_le (l:=ls) (by omega)] at hm8;have e:(ls.foldl (fun V r=>Yv n t.hart r t.prio V) (uw p (p.tasks.take j)))=uw p (p.tasks.take (j + 1)):=by rw [ect.h,zr7,hls.h]
    rw [e] at hm8;have g:=fun a b c d e f=>hR.h [prV i dv rv tv,ptr b1,zq,.slice (some ⟨id0,0,none⟩) i 1,a,b,c,d,iI i,iI i,e,tv,iI p.tasks.length,iI (j + 1:Nat),.bool true,lv,iI ls.length,iI jj,f] h8 hlj ⟨a,b,c,d,e,_,_,_,_,f,rfl,hm8,md48⟩;clear hR2 hR hq;replace g:=za g;replace hm8:=za hm8;replace md8:=za md8;replace md48:=za md48;replace e:=za e;simp only [zb,ze,zf, *];exact g.h _ _ _ _ _ _
   case pos =>
    have hlk' : (jj:Int) < ls.length:=by omega
    have hwjj:IntKind.i64.wrap ((jj:Int) + 1)=((jj + 1:Nat):Int):=by rw [zn (by omega) (by omega)];rfl
    obtain ⟨r,hr⟩:∃ z,ls[jj]? = some z:=⟨_,List.getElem?_eq_getElem hlk⟩;have hrin:=hlin.h r (List.mem_of_getElem? hr);obtain ⟨rn,hrn⟩:∃ k:Nat,r=(k:Int):=⟨r.toNat,by omega⟩;subst hrn;have how8:OwnS (zw h6.next) h8 1 lv (ls.map inR):=how.h.get fun id hv hs=>md8.get id (.inr (by have:=(how.h.blk_lt id _ _ hv).1;have:=hmq.h;omega)) hs;obtain ⟨idl,offl,cl,owl,y1,y2,y3⟩:=(OwnP.of how8).get hr;obtain ⟨W,hW⟩:∃ W:Mat,((ls.take jj).foldl (fun V r=>Yv n t.hart r t.prio V) (uw p (p.tasks.take j)))=W:=⟨_,rfl⟩;rw [hW] at hm8;have eW:(ls.take (jj + 1)).foldl (fun V r=>Yv n t.hart r t.prio V) (uw p (p.tasks.take j))=Yv n t.hart rn t.prio W:=by
     rw [List.take_add_one,hr,List.foldl_append,hW];rfl
    have z0:¬ ((rn:Int) < 0):=by omega
    replace hm8:=za hm8;replace md8:=za md8;replace md48:=za md48;replace hr:=za hr;replace hrin:=za hrin;replace how8:=za how8;replace hW:=za hW;replace eW:=za eW;simp only [zb,aR,ze,zf, *];refine LoopW.upto n (fun k en hh=>en=[prV i dv rv tv,ptr b1,zq,.slice (some ⟨id0,0,none⟩) i 1,x4,ptr q,iI (rn:Int),iI (k:Int),iI i,iI i,x10,tv,iI p.tasks.length,iI j,.bool true,lv,iI ls.length,iI jj,.bool true]∧MatV n0 m0 i n hh (.slice (some ⟨id0,0,none⟩) i 1) id0 ids (yl0 t.hart rn t.prio k W)∧Mid n0 m0 h8 hh∧rn≤k) ?_ (by have:=hrin.h;omega:rn≤n) ⟨rfl,hm8.h.ext fun a k _ _=>by unfold yl0;rw [if_neg (by omega)],Mid.refl _,Nat.le_refl _⟩;rintro k _ h9 R3 hk ⟨rfl,hm9,md9,hrk⟩ hR3;delta qa4;have gq9:=md9.keep (.inr hqm.h) gq8;have md49:=md48.h.trans md9;have g9:=(l25.h h9 md49).get g2;by_cases hkn:k < n
    case neg =>
     have hkn' : ¬ (k:Int) < n:=by omega
     have hkk:k=n:=by omega
     subst hkk;have g:=fun a b c=>hR2.h [prV i dv rv tv,ptr b1,zq,.slice (some ⟨id0,0,none⟩) i 1,x4,ptr q,a,b,iI i,iI i,x10,tv,iI p.tasks.length,iI j,.bool true,lv,iI ls.length,iI (jj + 1:Nat),c] h9 hlk ⟨a,b,c,rfl,by rw [eW.h];exact hm9,md8.h.trans md9⟩;clear hR3 hR2 hR hq;replace g:=za g;replace hm9:=za hm9;replace md9:=za md9;replace md49:=za md49;simp only [zb,aR,ze,zf, *];exact g.h _ _ _
    case pos =>
     have hkn' : (k:Int) < n:=by omega
     have hwk:IntKind.i64.wrap ((k:Int) + 1)=((k + 1:Nat):Int):=by rw [zn (by omega) (by omega)];rfl
     obtain ⟨f1,f2,f3,_⟩:=hm9.at haH;obtain ⟨c1,c2,c3⟩:=hm9.cell haH hkn;obtain ⟨vk,hvk⟩:∃ z,yl0 t.hart rn t.prio k W a k=z:=⟨_,rfl⟩;rw [hvk] at c3;have mm:J5 true [iI vk,iI t.prio]=some (iI (max vk t.prio)):=by simp only [J5,if_true];rw [yq2]
     obtain ⟨h10,s10,hm10,md10⟩:=hm9.put (W:=yl0 t.hart rn t.prio (k + 1) W) haH hkn (y:=max vk t.prio) (fun a' k' ha' hk'=>by
      rw [← hvk];unfold yl0;rw [ha.h];by_cases h1:a' = a∧k' = k
      ·obtain ⟨rfl,rfl⟩:=h1;rw [if_pos ⟨rfl,by omega,by omega⟩,if_pos ⟨rfl,rfl⟩,if_neg (by omega)]
      ·rw [if_neg h1];by_cases h2:(a' : Int)=(a:Int)∧(rn:Int)≤(k' : Int)∧k' < k
       ·rw [if_pos ⟨h2.1,h2.2.1,by omega⟩,if_pos h2]
       ·rw [if_neg h2,if_neg];rintro ⟨h3,h4,h5⟩;exact h2 ⟨h3,h4,by rcases Nat.lt_succ_iff_lt_or_eq.1 h5 with h | h;exact h;exact absurd ⟨by omega,h⟩ h1⟩)
     have g:=hR3.h [prV i dv rv tv,ptr b1,zq,.slice (some ⟨id0,0,none⟩) i 1,x4,ptr q,iI (rn:Int),iI (k + 1:Nat),iI i,iI i,x10,tv,iI p.tasks.length,iI j,.bool true,lv,iI ls.length,iI jj,.bool true] h10 hkn ⟨rfl,hm10,md9.trans md10,by omega⟩;clear hR3 hR2 hR hq;replace g:=za g;replace hm9:=za hm9;replace md9:=za md9;replace md49:=za md49;replace hm10:=za hm10;replace md10:=za md10;replace hvk:=za hvk;simp only [zb,aR,aW,ze,zf, *];exact g.h
theorem yq9 {p:Prg}{a:Nat}{v:Int}{l:List Int}{i:Nat}{r:Int}(hi:l[i]? = some r):levL p a v (l.take (i + 1))=if 0≤r∧r < p.ress.length then max (levL p a v (l.take i)) (uw p p.tasks a r.toNat) else levL p a v (l.take i):=by
 unfold levL;rw [List.take_add_one,hi,List.foldl_append];rfl
theorem ya5 {h:Heap}{v:Value}{l:List Int}(hv:Ints h v l){i:Nat}{z:Int}(hi:l[i]? = some z):∃ id off cells own,zp 1 [v,iI (i:Int)]=some (pT id off)∧h.get id=some (.blk cells own)∧cells[off]? = some (iI z):=by
 obtain ⟨id,off,cells,own,a,b,c,d⟩:=SlV.elem hv (i:=i) (x:=[iI z]) (by rw [List.getElem?_map,hi];rfl);exact ⟨id,off,cells,own,a,b,by simpa using d 0 (by omega)⟩
set_option maxHeartbeats 1000000 in
theorem Level_c {h:Heap}{p:Prg}{x:lVq}(hx:PrC h p x) (ho:OkQ p){a:Nat}(ha:(a:Int) < p.harts) (v:Int){hv:Value}{l:List Int}(hl:Ints h hv l) (hl2:l.length≤1000000) (Q:vPq)
  (hq:∀ h',h.le h' → Q (iI (levL p a v l)) h'):CallW Tryz.prog 16 [.agg x.toArray,iI a,iI v,hv] h Q:=by
 obtain ⟨dv,rv,tv,rfl,hd,hr,ht⟩:=hx;have hx0:PrC h p [iI p.harts,dv,rv,tv]:=⟨dv,rv,tv,rfl,hd,hr,ht⟩;have bx1:=yy (n:=p.harts) hd.one hr.one ht.one;obtain ⟨b1,h1,eb1,eh1,gb1,lh1⟩:=zj h [iI p.harts,dv,rv,tv];have hx1:=hx0.mono lh1;have hl1:=SlV.mono lh1 hl;have lnl:ua [hv]=some (iI l.length):=by have:=SlV.len hl;rwa [List.length_map] at this
 have hhr:=ho.harts;have a0:¬ (a:Int) < 0:=by omega
 obtain ⟨H,hH⟩:∃ H,p.harts.toNat=H:=⟨_,rfl⟩;have aH:a < H:=by omega
 have aH' : ¬ (H:Int)≤a:=by omega
 clear hd hr ht;replace hx0:=za hx0;replace hx1:=za hx1;replace lh1:=za lh1;replace hl1:=za hl1;replace ho:=za ho;replace hhr:=za hhr;replace hl:=za hl;refine zg (k:=5) ok16 rfl rfl rfl fun N=>?_;rw [ev4q c16 zr4 rfl];delta c16;replace hq:=za hq;simp only [zb,aR,yb, *];refine zb7 hx1.h ho.h _ fun h2 cv n0 m0 id0 ids l2 hm=>?_;rw [hH] at hm;have lnc:ua [cv]=some (iI H):=by rw [hm.val];rfl
 obtain ⟨c1,c2,c3,c4⟩:=hm.at aH;have hl3:=SlV.mono l2 hl1.h;replace l2:=za l2;replace hm:=za hm;replace hl3:=za hl3;replace hH:=za hH;simp only [zb,ze,zf, *];refine LoopW.upto l.length (fun i en hh=>∃ x7 x11,en=[prV p.harts dv rv tv,iI a,iI (levL p a v (l.take i)),hv,ptr b1,iI 0,cv,x7,hv,iI l.length,iI i,x11]∧hh=h2) ?_ (Nat.zero_le _) ⟨_,_,rfl,rfl⟩;rintro i _ hE R hi ⟨x7,x11,rfl,hE2⟩ hR;replace hE2:=hE2.symm;subst hE2;delta yz4;by_cases hlt:i < l.length
 case neg =>
  have hlt' : ¬ (i:Int) < l.length:=by omega
  have g:=hq.h h2 (lh1.h.trans l2.h);rw [List.take_of_length_le (by omega)];replace g:=Hid.mk g;clear hR;simp only [zb,ze,zf, *];exact g.h
 case pos =>
  have hlt' : (i:Int) < l.length:=by omega
  have hw:IntKind.i64.wrap ((i:Int) + 1)=((i + 1:Nat):Int):=by rw [zn (by omega) (by omega)];rfl
  obtain ⟨r,hr⟩:∃ z,l[i]? = some z:=⟨_,List.getElem?_eq_getElem hlt⟩;obtain ⟨id,off,cells,own,e1,e2,e3⟩:=ya5 hl3.h hr;have lt:=yq9 (p:=p) (a:=a) (v:=v) hr;obtain ⟨w,hw0⟩:∃ z,levL p a v (l.take i)=z:=⟨_,rfl⟩;rw [hw0] at lt;rw [hw0];have fin:∀ z c d,levL p a v (l.take (i + 1))=z→R [prV p.harts dv rv tv,iI a,iI z,hv,ptr b1,iI 0,cv,c,hv,iI l.length,iI (i + 1:Nat),d] h2:=fun z c d hz=>hR.h _ h2 hlt ⟨c,d,by rw [hz],rfl⟩;clear hR hq;by_cases r0:0≤r
  ·by_cases r1:r < (p.ress.length:Int)
   ·obtain ⟨k,rfl⟩:∃ k:Nat,r=(k:Int):=⟨r.toNat,by omega⟩;obtain ⟨f1,f2,f3⟩:=hm.h.cell aH (k:=k) (by omega);obtain ⟨vk,hvk⟩:∃ z,uw p p.tasks a k=z:=⟨_,rfl⟩;rw [hvk] at f3;have mm:J5 true [iI w,iI vk]=some (iI (max w vk)):=by simp only [J5,if_true];rw [yq2]
    rw [if_pos ⟨r0,r1⟩,Int.toNat_natCast,hvk] at lt;have g:=fun c d=>fin _ c d lt;clear fin;replace g:=za g;replace lt:=za lt;replace hr:=za hr;replace hvk:=za hvk;replace hw0:=za hw0;simp only [zb,aR,ze,zf, *];exact g.h _ _
   ·rw [if_neg (fun h=>r1 h.2)] at lt;have g:=fun c d=>fin _ c d lt;clear fin;replace g:=za g;replace lt:=za lt;replace hr:=za hr;replace hw0:=za hw0;simp only [zb,aR,ze,zf, *];exact g.h _ _
  ·rw [if_neg (fun h=>r0 h.1)] at lt;have g:=fun c d=>fin _ c d lt;clear fin;replace g:=za g;replace lt:=za lt;replace hr:=za hr;replace hw0:=za hw0;simp only [zb,aR,ze,zf, *];exact g.h _ _
def chS (a:Int) (s:Nat × List Int) (t:Tsk):Nat × List Int:=if t.hart≠a then s else if t.handler=true then (s.1,if s.2.contains t.prio then s.2 else s.2++[t.prio]) else (s.1 + 1,s.2)
def chL (a:Int) (ts:List Tsk):Nat × List Int:=ts.foldl (chS a) (0,[])
theorem chL_take {a:Int}{ts:List Tsk}{i:Nat}{t:Tsk}(hi:ts[i]? = some t):chL a (ts.take (i + 1))=chS a (chL a (ts.take i)) t:=by
 unfold chL;rw [List.take_add_one,hi,List.foldl_append];rfl
theorem chS_len (a:Int) (s:Nat × List Int) (t:Tsk):(chS a s t).1 + (chS a s t).2.length≤s.1 + s.2.length + 1:=by
 unfold chS;split
 ·omega
 ·split
  ·dsimp only;split<;>simp<;>omega
  ·dsimp only;omega
theorem yw1 (a:Int):∀ (ts:List Tsk) (s:Nat × List Int),(ts.foldl (chS a) s).1 + (ts.foldl (chS a) s).2.length≤s.1 + s.2.length + ts.length
 | [],s=>by simp
 | t::r,s=>by
  have h1:=chS_len a s t;have h2:=yw1 a r (chS a s t);simp only [List.foldl_cons,List.length_cons];omega
theorem zm7 {z:Int}(hz:inI z):yu Tryz.prog 3 (iI z)=true:=by
 have hu:(Tryz.prog).underlying 3=some (.int .i64):=by kernel_rfl
 have hw:(Lit.int .i64 z).wf=true:=by simp only [Lit.wf,Bool.and_eq_true,decide_eq_true_eq];exact hz
 simp [yu,wy,Yq,keyOf,mapKey,hu,hw]
abbrev yr4 (k:Int):Value × Value:=(iI k,.agg #[])
theorem key_find (S:List Int) (k:Int):(S.map yr4).findIdx? (fun e=>kx e.1 (iI k))=S.findIdx? (fun e=>e == k):=by
 rw [List.findIdx?_map];have h:((fun e:Value × Value=>kx e.1 (iI k)) ∘ yr4)=fun e=>e == k:=by
  funext e
  show kx (iI e) (iI k)=(e == k);simp only [kx,Qt,decide_true,Bool.true_and];rw [Bool.eq_iff_iff];simp
 rw [h]
theorem key_put (S:List Int) (k:Int):Z4 (S.map yr4) (iI k) (.agg #[])=(if S.contains k then S else S++[k]).map yr4:=by
 unfold Z4;rw [key_find];cases hf:S.findIdx? (fun e=>e == k) with
 | none =>
  have hc:S.contains k=false:=by
   rw [List.findIdx?_eq_none_iff] at hf;cases hb:S.contains k with
   | false=>rfl
   | true =>
    have:=hf k (List.contains_iff_mem.1 hb);simp at this
  rw [hc];simp
 | some i =>
  obtain ⟨h1,h2,_⟩:=List.findIdx?_eq_some_iff_getElem.1 hf;have e:S[i]=k:=by simpa using h2
  have hc:S.contains k=true:=List.contains_iff_mem.2 (by rw [← e];exact List.getElem_mem h1);rw [hc,if_pos rfl];refine List.ext_getElem? fun j=>?_;rw [List.getElem?_set];split
  ·rename_i h;subst h;simp [h1,e]
  ·rfl
theorem key_set {h:Heap}{mid:Nat}{S:List Int}{k:Int}(hg:h.get mid=some (.map (S.map yr4) true)) (hk:inI k) (hS:∀ z ∈ S,inI z) :
  Zl (yu Tryz.prog 3) h [.map (some mid),iI k,.agg #[]]=some (udq,h.set mid (.map ((if S.contains k then S else S++[k]).map yr4) true)):=by
 have hall:(S.map yr4).all (fun e=>yu Tryz.prog 3 e.1)=true:=by
  rw [List.all_eq_true];intro e he;obtain ⟨z,hz,rfl⟩:=List.mem_map.1 he;exact zm7 (hS z hz)
 simp only [Zl,hg];rw [zm7 hk,hall,key_put];first | done | rfl
set_option maxHeartbeats 1000000 in
theorem Chain_c {h:Heap}{p:Prg}{x:lVq}(hx:PrC h p x) (ho:OkQ p) (a:Int) (Q:vPq)
  (hq:∀ h',h.le h' → Q (iI ((chL a p.tasks).1 + (chL a p.tasks).2.length:Nat)) h'):CallW Tryz.prog 20 [.agg x.toArray,iI a] h Q:=by
 obtain ⟨dv,rv,tv,rfl,hd,hr,ht⟩:=hx;have hx0:PrC h p [iI p.harts,dv,rv,tv]:=⟨dv,rv,tv,rfl,hd,hr,ht⟩;have bx1:=yy (n:=p.harts) hd.one hr.one ht.one;obtain ⟨b1,h1,eb1,eh1,gb1,lh1⟩:=zj h [iI p.harts,dv,rv,tv];have hx1:=hx0.mono lh1;have ht1:=ht.mono lh1;have lnt:=ht.len;have t19:=ho.tl;have hb1:h.next=b1:=eb1;clear hd hr ht;replace hx0:=za hx0;replace hx1:=za hx1;replace lh1:=za lh1;replace ht1:=za ht1;replace ho:=za ho;replace hb1:=za hb1;refine zg (k:=3) ok20 rfl rfl rfl fun N=>?_;rw [wn c20 zr4 rfl];delta c20;replace hq:=za hq;simp only [zb,aR,yb, *];refine Ko hx1.h ho.h.toOkP _ fun h2 l2=>?_;have g2:=l2.get gb1;have gM:=Heap.get_alloc_same h2 (.map [] true);have lM:=(Heap.le.refl h2).alloc (.map [] true);obtain ⟨mid,emid⟩:∃ x,h2.next=x:=⟨_,rfl⟩;obtain ⟨h3,eh3⟩:∃ x,h2.alloc (.map [] true)=x:=⟨_,rfl⟩;rw [eh3] at gM lM;rw [emid] at gM;have g3:=lM.get g2;replace l2:=za l2;replace lM:=za lM;simp only [zb,aR,aW, *];refine LoopW.upto p.tasks.length (fun i e hh=>∃ S x5 x9,e=[prV p.harts dv rv tv,iI a,ptr b1,iI ((chL a (p.tasks.take i)).1:Nat),.map (some mid),x5,tv,iI p.tasks.length,iI i,x9]∧h2.le hh∧hh.get mid=some (.map (S.map yr4) true)∧S=(chL a (p.tasks.take i)).2 ∧ ∀ z ∈ S,inI z) ?_ (Nat.zero_le _) ⟨[],_,_,rfl,lM.h,gM,by simp [chL],by simp⟩;rintro i _ h4 R hi ⟨S,x5,x9,rfl,l4,gm4,hS,hSi⟩ hR;delta yy8;have g4:=l4.get g2;have hcl:=yw1 a (p.tasks.take i) (0,[]);rw [List.length_take] at hcl;have hcl2:(chL a (p.tasks.take i)).1 + (chL a (p.tasks.take i)).2.length≤i:=by unfold chL;simp at hcl;omega
 by_cases hlt:i < p.tasks.length
 case neg =>
  have hlt' : ¬ (i:Int) < p.tasks.length:=by omega
  rw [List.take_of_length_le (by omega)] at hS hcl2 ⊢;obtain ⟨c,hc⟩:∃ c,chL a p.tasks=c:=⟨_,rfl⟩;rw [hc] at hS hcl2 hq ⊢;have lS:(S.map yr4).length=c.2.length:=by rw [List.length_map,hS]
  have hwa:IntKind.i64.wrap ((c.1:Nat) + (c.2.length:Nat):Int)=((c.1 + c.2.length:Nat):Int):=by rw [zn (by omega) (by omega)];rfl
  have g:=hq.h h4 ((lh1.h.trans l2.h).trans l4);clear hR;replace g:=za g;replace hS:=za hS;replace hSi:=za hSi;replace l4:=za l4;replace hc:=za hc;simp only [zb,aR,ze,zf, *];exact g.h
 case pos =>
  have hlt' : (i:Int) < p.tasks.length:=by omega
  have hw:IntKind.i64.wrap ((i:Int) + 1)=((i + 1:Nat):Int):=by rw [zn (by omega) (by omega)];rfl
  obtain ⟨t,htk⟩:∃ t,p.tasks[i]? = some t:=⟨_,List.getElem?_eq_getElem hlt⟩;have ct:=chL_take (a:=a) htk;have htm:=List.mem_of_getElem? htk;have hpr:=ho.h.prio t htm;obtain ⟨id,off,cells,own,u,e1,e2,e3,hb,_⟩:=(ht1.h.mono (l2.h.trans l4)).elem0 htk;have st:=yj4 h4 t.name t.handler t.hart t.prio t.line hb.isS0;obtain ⟨q,h5,eq,eh5,gq,lh5⟩:=zj h4 [str t.name,.bool t.handler,iI t.hart,iI t.prio,iI t.line,u];rw [eh5,eq] at st;have gm5:=lh5.get gm4;have l5:=l4.trans lh5;have qm:mid < q:=by have:=Heap.lt_of_get gm4;omega
  have m2:h2.next≤mid:=by omega
  obtain ⟨c,hc⟩:∃ c,chL a (p.tasks.take i)=c:=⟨_,rfl⟩;rw [hc] at ct hS hcl2 ⊢;have fin:∀ (c' : Nat × List Int) (hE:Heap) (d f:Value),chL a (p.tasks.take (i + 1))=c' → h2.le hE→hE.get mid=some (.map (c'.2.map yr4) true)→(∀ z ∈ c'.2,inI z)→R [prV p.harts dv rv tv,iI a,ptr b1,iI (c'.1:Nat),.map (some mid),d,tv,iI p.tasks.length,iI (i + 1:Nat),f] hE:=fun c' hE d f h1 h2 h3 h4=>hR.h _ hE hlt ⟨c'.2,d,f,by rw [h1],h2,h3,by rw [h1],h4⟩;clear hR hq;rw [hS] at gm4 gm5 hSi;by_cases ha:t.hart=a
  case neg =>
   have hne:(t.hart == a)=false:=by simpa using ha
   have hne' : (t.hart != a)=true:=by simpa using ha
   have ec:chS a c t=c:=by unfold chS;rw [if_pos ha]
   have g:=fun d f=>fin c h5 d f (by rw [ct,ec]) l5 gm5 hSi;clear fin;replace g:=za g;replace l4:=za l4;replace hS:=za hS;replace hSi:=za hSi;replace ct:=za ct;replace htk:=za htk;replace hb:=za hb;replace lh5:=za lh5;replace l5:=za l5;replace ha:=za ha;replace hc:=za hc;replace ec:=za ec;simp only [zb,aR,aW,ze,zf, *];exact g.h _ _
  case pos =>
   have heq:(t.hart == a)=true:=by simpa using ha
   have heq' : (t.hart != a)=false:=by simpa using ha
   cases hh:t.handler with
   | true =>
    rw [hh] at gq st e3;have s5:=key_set gm5 (k:=t.prio) (by unfold inI;omega) hSi;have ec:chS a c t=(c.1,if c.2.contains t.prio then c.2 else c.2++[t.prio]):=by unfold chS;rw [if_neg (by simpa using ha),if_pos hh]
    obtain ⟨h6,eh6⟩:∃ x,h5.set mid (.map ((if c.2.contains t.prio then c.2 else c.2++[t.prio]).map yr4) true)=x:=⟨_,rfl⟩;rw [eh6] at s5;have bd:yo [] [] []=some (.agg #[]):=rfl;have g:=fun d f=>fin (c.1,if c.2.contains t.prio then c.2 else c.2++[t.prio]) h6 d f (by rw [ct,ec]) (by rw [← eh6];exact l5.set m2 _) (by rw [← eh6];exact Heap.set_getS _ _ _ (by rw [gm5];rfl)) (fun z hz=>by
     dsimp only at hz;split at hz
     ·exact hSi z hz
     ·rcases List.mem_append.1 hz with hz | hz
      ·exact hSi z hz
      ·rw [List.mem_singleton.1 hz];unfold inI;omega)
    clear fin;dsimp only at g;replace g:=za g;replace l4:=za l4;replace hS:=za hS;replace hSi:=za hSi;replace ct:=za ct;replace htk:=za htk;replace hb:=za hb;replace lh5:=za lh5;replace l5:=za l5;replace ha:=za ha;replace hc:=za hc;replace ec:=za ec;replace hh:=za hh;simp only [zb,aR,aW,ze,zf, *];exact g.h _ _
   | false =>
    rw [hh] at gq st e3;have ec:chS a c t=(c.1 + 1,c.2):=by unfold chS;rw [if_neg (by simpa using ha),if_neg (by rw [hh];decide)]
    have hw1:IntKind.i64.wrap (((c.1:Nat):Int) + 1)=((c.1 + 1:Nat):Int):=by rw [zn (by omega) (by omega)];rfl
    have g:=fun d f=>fin (c.1 + 1,c.2) h5 d f (by rw [ct,ec]) l5 gm5 hSi;clear fin;dsimp only at g;replace g:=za g;replace l4:=za l4;replace hS:=za hS;replace hSi:=za hSi;replace ct:=za ct;replace htk:=za htk;replace hb:=za hb;replace lh5:=za lh5;replace l5:=za l5;replace ha:=za ha;replace hc:=za hc;replace ec:=za ec;replace hh:=za hh;simp only [zb,aR,aW,ze,zf, *];exact g.h _ _
end Go.Eng.Sy
