/-
  Part of a proof of the laws of layer 09 (ceiling): what each function does.
  Conditions: none.
-/
import Derived.Test.YtddbbcpelbcahaaGreatDoorBd
set_option linter.unusedSimpArgs false
set_option linter.unusedVariables false
namespace Go.Eng.Sy
open Go Go.Eng Go.Proofs
theorem head_c {h:Heap}{q:Nat}{p:Prg}{nm:List (lBq)}{d r t:Value}{mid:Nat}(hc:Ck h q p nm d r t mid){i:Nat}{tk:Tsk}(hi:p.tasks[i]? = some tk) (Q:vPq) (hq:∀ h',h.le h' → Q (iI (wx p i)) h'):CallW Tryz.prog 76 [ptr q,iI i] h Q:=by
 have hilt:=(List.getElem?_eq_some_iff.1 hi).1;obtain ⟨own0,gq⟩:=hc.get;obtain ⟨w,sl,hw⟩:=hc.ht.take (i:=i) (by omega);obtain ⟨id,off,cells,own,u,e1,e2,e3,hb⟩:=hc.ht.elem hi;have st:zt 6 (h.alloc (.blk [s0q,.bool false,iI 0,iI 0,iI 0,nSq] true)) [pT h.next 0,tsV tk.name tk.handler tk.hart tk.prio tk.line u]=some (udq,h.alloc (.blk (tsL tk u) true)):=by
  obtain ⟨_,hu1,_⟩:=hb;exact yj4 h _ _ _ _ _ (SlV.isS hu1)
 obtain ⟨px,h1,epx,eh1,gpx,lh1⟩:=zj h (tsL tk u);rw [eh1,epx] at st;have hc1:=hc.mono lh1.v;have hw1:=hw.monoB lh1.v.b;have gq1:=lh1.get gq;have hp:wx p i=if p.harts≤tk.hart then 81 else if !tk.handler && (p.tasks.take i).any (hd1 tk) then 81 else if !tk.handler then 0 else if (p.tasks.take i).any (hd2 tk) then 82 else if p.tasks.any (hd3 tk) then 83 else 0:=by unfold wx;rw [hi]
 rw [hp] at hq;clear hp hc hw hb;obtain ⟨xs1,hw1a,hw1b,hw1c⟩:=hw1;have hlenw:=hw1c.length;obtain ⟨xs2,hw2a,hw2b,hw2c⟩:=hc1.ht;have hlen2:=hw2c.length;have hget:∀ (h2:Heap),h1.le h2→h2.get px=some (.blk (tsL tk u) true):=fun _ hl=>hl.get gpx;have any1:∀ (g:Tsk→Bool) (fv:Value),(∀ (x:Tsk) xs h2 (Q:vPq),h1.le h2→TsC h2 x xs→(∀ v h',v = .bool (g x)→h2.le h' → Q v h')→ValW Tryz.prog fv [.agg xs.toArray] h2 Q) → ∀ Q:vPq,(∀ v h',v = .bool ((p.tasks.take i).any g)→h1.le h' → Q v h')→CallW Tryz.prog 73 [w,fv] h1 Q:=fun g fv hf Q hq =>
  kj hw1a (by rw [hlenw]) (by rw [← hlenw];exact hw1b) (fun j e x he hx h2 Q hl hq2=>by
   obtain ⟨x',hx',hT⟩:=hw1c.get j e he;rw [hx] at hx';cases hx';exact hf e x h2 Q hl (hT.mono hl) hq2) Q hq
 have any2:∀ (g:Tsk→Bool) (fv:Value) (h2:Heap),h1.le h2→(∀ (x:Tsk) xs h3 (Q:vPq),h2.le h3→TsC h3 x xs→(∀ v h',v = .bool (g x)→h3.le h' → Q v h')→ValW Tryz.prog fv [.agg xs.toArray] h3 Q) → ∀ Q:vPq,(∀ v h',v = .bool (p.tasks.any g)→h2.le h' → Q v h')→CallW Tryz.prog 73 [t,fv] h2 Q:=fun g fv h2 hl2 hf Q hq =>
  kj (hw2a.mono hl2) (by rw [hlen2]) (by rw [← hlen2];exact hw2b) (fun j e x he hx h3 Q hl hq2=>by
   obtain ⟨x',hx',hT⟩:=hw2c.get j e he;rw [hx] at hx';cases hx';exact hf e x h3 Q hl (hT.mono (hl2.trans hl)) hq2) Q hq
 have any1' : ∀ (g:Tsk→Bool) (fv:Value) (h2:Heap),h1.le h2→(∀ (x:Tsk) xs h3 (Q:vPq),h2.le h3→TsC h3 x xs→(∀ v h',v = .bool (g x)→h3.le h' → Q v h')→ValW Tryz.prog fv [.agg xs.toArray] h3 Q) → ∀ Q:vPq,(∀ v h',v = .bool ((p.tasks.take i).any g)→h2.le h' → Q v h')→CallW Tryz.prog 73 [w,fv] h2 Q:=fun g fv h2 hl2 hf Q hq =>
  kj (hw1a.mono hl2) (by rw [hlenw]) (by rw [← hlenw];exact hw1b) (fun j e x he hx h3 Q hl hq2=>by
   obtain ⟨x',hx',hT⟩:=hw1c.get j e he;rw [hx] at hx';cases hx';exact hf e x h3 Q hl (hT.mono (hl2.trans hl)) hq2) Q hq
 clear any1 hw1a hw1b hw1c hw2a hw2b hw2c hlenw hlen2 hi hilt;replace hc1:=za hc1;replace lh1:=za lh1;replace any2:=za any2;replace any1':=za any1';replace hget:=za hget;refine zg (k:=2) ok76 rfl rfl rfl fun N=>?_;rw [wn c76 Ub rfl];delta c76;replace hq:=za hq;by_cases ch:p.harts≤tk.hart
 case pos =>
  have g:=hq.h h1 lh1.h;rw [if_pos ch] at g;clear hq;replace g:=Hid.mk g;simp only [zb,aR,aW,ze,zf, *];exact g.h
 case neg =>
 obtain ⟨hb,hbe⟩:∃ b,tk.handler=b:=⟨_,rfl⟩;unfold tsL at gpx eh1;rw [hbe] at gpx eh1 st e3;replace hbe:=Hid.mk hbe;cases hb with
 | false =>
  simp only [zb,aR,aW,ze,zf, *];refine any1'.h (hd1 tk) _ h1 (Heap.le.refl _) (fun x xs h3 Q hl hT hq2=>?_) _ fun v h2 hv l2=>?_
  ·exact CallW.val (hd1_c (hget.h _ hl) hT Q hq2)
  ·subst hv;have g:=hq.h h2 (lh1.h.trans l2);rw [if_neg ch,hbe.h] at g;have gp2:=l2.get gpx;clear hq;cases ha:(p.tasks.take i).any (hd1 tk) with
   | true =>
    rw [ha] at g;simp only [Bool.not_false,Bool.and_self,if_true] at g;replace g:=Hid.mk g;simp only [zb, *];exact g.h
   | false =>
    rw [ha] at g;simp only [Bool.not_false,Bool.and_false,Bool.false_eq_true,if_false,if_true] at g;replace g:=Hid.mk g;simp only [zb,aR, *];exact g.h
 | true =>
  simp only [zb,aR,aW,ze,zf, *];refine any1'.h (hd2 tk) _ h1 (Heap.le.refl _) (fun x xs h3 Q hl hT hq2=>?_) _ fun v h2 hv l2=>?_
  ·exact CallW.val (hd2_c (hget.h _ hl) hT Q hq2)
  ·subst hv;have gp2:=l2.get gpx;have gq2:=l2.get gq1;cases ha:(p.tasks.take i).any (hd2 tk) with
   | true =>
    have g:=hq.h h2 (lh1.h.trans l2);rw [if_neg ch,hbe.h,ha] at g;simp only [Bool.not_true,Bool.false_and,Bool.false_eq_true,if_false,if_true] at g;clear hq;replace g:=Hid.mk g;simp only [zb, *];exact g.h
   | false =>
    replace l2:=Hid.mk l2;simp only [zb,aR, *];refine any2.h (hd3 tk) _ h2 l2.h (fun x xs h3 Q hl hT hq2=>?_) _ fun v h3 hv l3=>?_
    ·exact CallW.val (hd3_c (hget.h _ (l2.h.trans hl)) hT Q hq2)
    ·subst hv;have g:=hq.h h3 (lh1.h.trans (l2.h.trans l3));rw [if_neg ch,hbe.h,ha] at g;clear hq;cases hc3:p.tasks.any (hd3 tk) with
     | true =>
      rw [hc3] at g;simp only [Bool.not_true,Bool.false_and,Bool.false_eq_true,if_false,if_true] at g;replace g:=Hid.mk g;simp only [zb, *];exact g.h
     | false =>
      rw [hc3] at g;simp only [Bool.not_true,Bool.false_and,Bool.false_eq_true,if_false,if_true] at g;replace g:=Hid.mk g;simp only [zb, *];exact g.h
end Go.Eng.Sy
namespace Go.Eng
open Go
theorem Heap.leBut.b {h h' : Heap}{mid:Nat}{es:List (Value × Value)}{own:Bool}(hl:h.leBut mid h') (gm:h.get mid=some (.map es own)):h.leB h':=fun id cells o hg=>by
 have:id≠mid:=by rintro rfl;rw [gm] at hg;cases hg
 rw [hl.get id this (by rw [hg];rfl)];exact hg
end Go.Eng
namespace Go.Eng.Sy
open Go Go.Eng Go.Proofs
theorem NmsV.elem {h:Heap}{v:Value}{l:List Nm}(hv:NmsV h v l){i:Nat}{e:Nm}(hi:l[i]? = some e) :
  ∃ id off cells own,zp 2 [v,iI i]=some (pT id off)∧h.get id=some (.blk cells own)∧qu true off 2 cells=some (nmV e.name e.n):=by
 obtain ⟨id,off,cells,own,g1,g2,g3,_⟩:=hv.1.elem (i:=i) (x:=[str e.name,iI e.n]) (by simp [hi]);exact ⟨id,off,cells,own,g1,g2,g3⟩
set_option maxHeartbeats 1000000 in
theorem colD_w {q mid:Nat}{p:Prg}{d r t:Value}{hS:Heap}{es:List (Value × Value)}{nm:List (lBq)}{own:Bool}(gq:hS.get q=some (.blk [iI p.harts,d,r,t,.map (some mid)] own)) (hd:NmsV hS d p.devs) (gm:hS.get mid=some (.map es true)) (ht:TkM es nm) (hb:nm.length + p.devs.length≤100000) (hs:∀ e ∈ p.devs,e.name.length≤1000)
  {N:Nat}{vars:List Nat}{x2 x3 x4 x5 x6 x7 x8 x9 x10 x11 x12 x13 x14 x15 x16:Value}(R:AExit→lVq→Heap→Prop)
  (hq:∀ h' es' x2 x7 x8,hS.leBut mid h' → h'.get mid=some (.map es' true)→TkM es' (nm++p.devs.map (·.name))→R (.exit 0) [ptr q,.bool false,x2,x3,x4,d,iI p.devs.length,x7,x8,x9,x10,x11,x12,x13,x14,x15,x16] h') :
  LoopW Tryz.prog N vars yx1 [ptr q,.bool false,x2,x3,x4,d,iI p.devs.length,iI 0,x8,x9,x10,x11,x12,x13,x14,x15,x16] hS R:=by
 replace hq:=za hq;replace hs:=za hs;replace hb:=za hb;refine LoopW.upto p.devs.length (fun i e h1=>hS.leBut mid h1∧(∃ es',h1.get mid=some (.map es' true)∧TkM es' (nm++(p.devs.take i).map (·.name))) ∧ ∃ x2 x8,e=[ptr q,.bool false,x2,x3,x4,d,iI p.devs.length,iI i,x8,x9,x10,x11,x12,x13,x14,x15,x16]) ?_ (Nat.zero_le _) ⟨Heap.leBut.refl _ _,⟨es,gm,by simpa using ht⟩,_,_,rfl⟩;clear ht;rintro i _ h1 R1 hi ⟨hl,⟨es1,gm1,ht1⟩,x2,x8,rfl⟩ hR;delta yx1;by_cases hlt:i < p.devs.length
 case neg =>
  have hlt' : ¬ (i:Int) < p.devs.length:=by omega
  rw [List.take_of_length_le (by omega)] at ht1;have g:=fun a b c=>hq.h h1 es1 a b c hl gm1 ht1;replace g:=za g;replace hl:=za hl;replace ht1:=za ht1;simp only [zb,ze,zf, *];exact g.h _ _ _
 case pos =>
  have hlt' : (i:Int) < p.devs.length:=by omega
  have hw:IntKind.i64.wrap ((i:Int) + 1)=((i + 1:Nat):Int):=by rw [zn (by omega) (by have:=hb.h;omega)];rfl
  obtain ⟨e,he⟩:∃ e,p.devs[i]? = some e:=⟨_,List.getElem?_eq_getElem hlt⟩;have hsl:=hs.h e (List.mem_of_getElem? he);have hb1:=hl.b gm;have gq1:=hb1 _ _ _ gq;obtain ⟨id,off,cells,own1,e1,e2,e3⟩:=(hd.monoB hb1).elem he;have st:zt 2 (h1.alloc (.blk [s0q,iI 0] true)) [pT h1.next 0,nmV e.name e.n]=some (udq,h1.alloc (.blk [str e.name,iI e.n] true)):=zx rfl rfl rfl rfl;obtain ⟨px,h2,epx,eh2,gpx,lh2⟩:=zj h1 [str e.name,iI e.n];rw [eh2,epx] at st;have gm2:=lh2.get gm1;have gq2:=lh2.get gq1;obtain ⟨z,hz,_,hz0,hz1⟩:=ht1.look hsl gm2;obtain ⟨es2,hput,ht2⟩:=ht1.put hsl gm2 hz;have hwz:IntKind.i64.wrap (z + 1)=z + 1:=by
   have h1:=hb.h;rw [List.length_append,List.length_map,List.length_take] at hz1;rw [zn (by omega) (by omega)]
  have hl2:hS.leBut mid (h2.set mid (.map es2 true)):=(hl.trans (lh2.but mid)).trans (Heap.leBut.set _ _ _);have gm3:(h2.set mid (.map es2 true)).get mid=some (.map es2 true):=Heap.set_getS _ _ _ (by rw [gm2];rfl);obtain ⟨h3,eh3⟩:∃ x,h2.set mid (.map es2 true)=x:=⟨_,rfl⟩;rw [eh3] at hl2 gm3 hput;have ht3:TkM es2 (nm++(p.devs.take (i + 1)).map (·.name)):=by
   rw [List.take_add_one,he];simpa using ht2
  clear ht1 ht2 eh3 hz0 hz1 hsl;replace hl:=za hl;replace hl2:=za hl2;replace ht3:=za ht3;replace hb1:=za hb1;replace lh2:=za lh2;replace gm:=za gm;replace gq:=za gq;replace he:=za he;simp only [zb,aR,aW,ze,zf, *];exact hR.h _ _ hlt ⟨hl2.h,⟨es2,gm3,ht3.h⟩,_,_,rfl⟩
set_option maxHeartbeats 1000000 in
theorem colR_w {q mid:Nat}{p:Prg}{d r t:Value}{hS:Heap}{es:List (Value × Value)}{nm:List (lBq)}{own:Bool}(gq:hS.get q=some (.blk [iI p.harts,d,r,t,.map (some mid)] own)) (hd:NmsV hS r p.ress) (gm:hS.get mid=some (.map es true)) (ht:TkM es nm) (hb:nm.length + p.ress.length≤100000) (hs:∀ e ∈ p.ress,e.name.length≤1000)
  {N:Nat}{vars:List Nat}{x2 x3 x4 x5 x6 x7 x8 x9 x10 x11 x12 x13 x14 x15 x16:Value}(R:AExit→lVq→Heap→Prop)
  (hq:∀ h' es' x3 x11 x12,hS.leBut mid h' → h'.get mid=some (.map es' true)→TkM es' (nm++p.ress.map (·.name))→R (.exit 2) [ptr q,.bool false,x2,x3,x4,x5,x6,x7,x8,r,iI p.ress.length,x11,x12,x13,x14,x15,x16] h') :
  LoopW Tryz.prog N vars zw1 [ptr q,.bool false,x2,x3,x4,x5,x6,x7,x8,r,iI p.ress.length,iI 0,x12,x13,x14,x15,x16] hS R:=by
 replace hq:=za hq;replace hs:=za hs;replace hb:=za hb;refine LoopW.upto p.ress.length (fun i e h1=>hS.leBut mid h1∧(∃ es',h1.get mid=some (.map es' true)∧TkM es' (nm++(p.ress.take i).map (·.name))) ∧ ∃ x3 x12,e=[ptr q,.bool false,x2,x3,x4,x5,x6,x7,x8,r,iI p.ress.length,iI i,x12,x13,x14,x15,x16]) ?_ (Nat.zero_le _) ⟨Heap.leBut.refl _ _,⟨es,gm,by simpa using ht⟩,_,_,rfl⟩;clear ht;rintro i _ h1 R1 hi ⟨hl,⟨es1,gm1,ht1⟩,x3,x12,rfl⟩ hR;delta zw1;by_cases hlt:i < p.ress.length
 case neg =>
  have hlt' : ¬ (i:Int) < p.ress.length:=by omega
  rw [List.take_of_length_le (by omega)] at ht1;have g:=fun a b c=>hq.h h1 es1 a b c hl gm1 ht1;replace g:=za g;replace hl:=za hl;replace ht1:=za ht1;simp only [zb,ze,zf, *];exact g.h _ _ _
 case pos =>
  have hlt' : (i:Int) < p.ress.length:=by omega
  have hw:IntKind.i64.wrap ((i:Int) + 1)=((i + 1:Nat):Int):=by rw [zn (by omega) (by have:=hb.h;omega)];rfl
  obtain ⟨e,he⟩:∃ e,p.ress[i]? = some e:=⟨_,List.getElem?_eq_getElem hlt⟩;have hsl:=hs.h e (List.mem_of_getElem? he);have hb1:=hl.b gm;have gq1:=hb1 _ _ _ gq;obtain ⟨id,off,cells,own1,e1,e2,e3⟩:=(hd.monoB hb1).elem he;have st:zt 2 (h1.alloc (.blk [s0q,iI 0] true)) [pT h1.next 0,nmV e.name e.n]=some (udq,h1.alloc (.blk [str e.name,iI e.n] true)):=zx rfl rfl rfl rfl;obtain ⟨px,h2,epx,eh2,gpx,lh2⟩:=zj h1 [str e.name,iI e.n];rw [eh2,epx] at st;have gm2:=lh2.get gm1;have gq2:=lh2.get gq1;obtain ⟨z,hz,_,hz0,hz1⟩:=ht1.look hsl gm2;obtain ⟨es2,hput,ht2⟩:=ht1.put hsl gm2 hz;have hwz:IntKind.i64.wrap (z + 1)=z + 1:=by
   have h1:=hb.h;rw [List.length_append,List.length_map,List.length_take] at hz1;rw [zn (by omega) (by omega)]
  have hl2:hS.leBut mid (h2.set mid (.map es2 true)):=(hl.trans (lh2.but mid)).trans (Heap.leBut.set _ _ _);have gm3:(h2.set mid (.map es2 true)).get mid=some (.map es2 true):=Heap.set_getS _ _ _ (by rw [gm2];rfl);obtain ⟨h3,eh3⟩:∃ x,h2.set mid (.map es2 true)=x:=⟨_,rfl⟩;rw [eh3] at hl2 gm3 hput;have ht3:TkM es2 (nm++(p.ress.take (i + 1)).map (·.name)):=by
   rw [List.take_add_one,he];simpa using ht2
  clear ht1 ht2 eh3 hz0 hz1 hsl;replace hl:=za hl;replace hl2:=za hl2;replace ht3:=za ht3;replace hb1:=za hb1;replace lh2:=za lh2;replace gm:=za gm;replace gq:=za gq;replace he:=za he;simp only [zb,aR,aW,ze,zf, *];exact hR.h _ _ hlt ⟨hl2.h,⟨es2,gm3,ht3.h⟩,_,_,rfl⟩
set_option maxHeartbeats 1000000 in
theorem colT_w {q mid:Nat}{p:Prg}{d r t:Value}{hS:Heap}{es:List (Value × Value)}{nm:List (lBq)}{own:Bool}(gq:hS.get q=some (.blk [iI p.harts,d,r,t,.map (some mid)] own)) (hd:TssV hS t p.tasks) (gm:hS.get mid=some (.map es true)) (ht:TkM es nm) (hb:nm.length + p.tasks.length≤100000) (hs:∀ e ∈ p.tasks,e.name.length≤1000)
  {N:Nat}{vars:List Nat}{x2 x3 x4 x5 x6 x7 x8 x9 x10 x11 x12 x13 x14 x15 x16:Value}(R:AExit→lVq→Heap→Prop)
  (hq:∀ h' es' x4 x15 x16,hS.leBut mid h' → h'.get mid=some (.map es' true)→TkM es' (nm++p.tasks.map (·.name))→R (.exit 4) [ptr q,.bool false,x2,x3,x4,x5,x6,x7,x8,x9,x10,x11,x12,t,iI p.tasks.length,x15,x16] h') :
  LoopW Tryz.prog N vars zw0 [ptr q,.bool false,x2,x3,x4,x5,x6,x7,x8,x9,x10,x11,x12,t,iI p.tasks.length,iI 0,x16] hS R:=by
 replace hq:=za hq;replace hs:=za hs;replace hb:=za hb;refine LoopW.upto p.tasks.length (fun i e h1=>hS.leBut mid h1∧(∃ es',h1.get mid=some (.map es' true)∧TkM es' (nm++(p.tasks.take i).map (·.name))) ∧ ∃ x4 x16,e=[ptr q,.bool false,x2,x3,x4,x5,x6,x7,x8,x9,x10,x11,x12,t,iI p.tasks.length,iI i,x16]) ?_ (Nat.zero_le _) ⟨Heap.leBut.refl _ _,⟨es,gm,by simpa using ht⟩,_,_,rfl⟩;clear ht;rintro i _ h1 R1 hi ⟨hl,⟨es1,gm1,ht1⟩,x4,x16,rfl⟩ hR;delta zw0;by_cases hlt:i < p.tasks.length
 case neg =>
  have hlt' : ¬ (i:Int) < p.tasks.length:=by omega
  rw [List.take_of_length_le (by omega)] at ht1;have g:=fun a b c=>hq.h h1 es1 a b c hl gm1 ht1;replace g:=za g;replace hl:=za hl;replace ht1:=za ht1;simp only [zb,ze,zf, *];exact g.h _ _ _
 case pos =>
  have hlt' : (i:Int) < p.tasks.length:=by omega
  have hw:IntKind.i64.wrap ((i:Int) + 1)=((i + 1:Nat):Int):=by rw [zn (by omega) (by have:=hb.h;omega)];rfl
  obtain ⟨e,he⟩:∃ e,p.tasks[i]? = some e:=⟨_,List.getElem?_eq_getElem hlt⟩;have hsl:=hs.h e (List.mem_of_getElem? he);have hb1:=hl.b gm;have gq1:=hb1 _ _ _ gq;obtain ⟨id,off,cells,own1,u,e1,e2,e3,hbody⟩:=(hd.monoB hb1).elem he;have st:zt 6 (h1.alloc (.blk [s0q,.bool false,iI 0,iI 0,iI 0,nSq] true)) [pT h1.next 0,tsV e.name e.handler e.hart e.prio e.line u]=some (udq,h1.alloc (.blk [str e.name,.bool e.handler,iI e.hart,iI e.prio,iI e.line,u] true)):=by
   obtain ⟨_,hu1,_⟩:=hbody;exact yj4 h1 _ _ _ _ _ (SlV.isS hu1)
  obtain ⟨px,h2,epx,eh2,gpx,lh2⟩:=zj h1 [str e.name,.bool e.handler,iI e.hart,iI e.prio,iI e.line,u];rw [eh2,epx] at st;have gm2:=lh2.get gm1;have gq2:=lh2.get gq1;obtain ⟨z,hz,_,hz0,hz1⟩:=ht1.look hsl gm2;obtain ⟨es2,hput,ht2⟩:=ht1.put hsl gm2 hz;have hwz:IntKind.i64.wrap (z + 1)=z + 1:=by
   have h1:=hb.h;rw [List.length_append,List.length_map,List.length_take] at hz1;rw [zn (by omega) (by omega)]
  have hl2:hS.leBut mid (h2.set mid (.map es2 true)):=(hl.trans (lh2.but mid)).trans (Heap.leBut.set _ _ _);have gm3:(h2.set mid (.map es2 true)).get mid=some (.map es2 true):=Heap.set_getS _ _ _ (by rw [gm2];rfl);obtain ⟨h3,eh3⟩:∃ x,h2.set mid (.map es2 true)=x:=⟨_,rfl⟩;rw [eh3] at hl2 gm3 hput;have ht3:TkM es2 (nm++(p.tasks.take (i + 1)).map (·.name)):=by
   rw [List.take_add_one,he];simpa using ht2
  clear ht1 ht2 eh3 hz0 hz1 hsl;replace hl:=za hl;replace hl2:=za hl2;replace ht3:=za ht3;replace hb1:=za hb1;replace lh2:=za lh2;replace gm:=za gm;replace gq:=za gq;replace he:=za he;simp only [zb,aR,aW,ze,zf, *];exact hR.h _ _ hlt ⟨hl2.h,⟨es2,gm3,ht3.h⟩,_,_,rfl⟩
def zl (p:Prg):List (lBq):=p.devs.map (·.name)++p.ress.map (·.name)++p.tasks.map (·.name)
set_option maxHeartbeats 1000000 in
theorem yv4 {h:Heap}{q mid:Nat}{p:Prg}{d r t:Value}{own:Bool}(gq:h.get q=some (.blk [iI p.harts,d,r,t,.map (some mid)] own)) (hd:NmsV h d p.devs) (hr:NmsV h r p.ress) (ht:TssV h t p.tasks) (gm:h.get mid=some (.map [] true))
  (hs:∀ s ∈ zl p,s.length≤1000) (hb:(zl p).length≤1000) (Q:vPq)
  (hq:∀ h',h.leBut mid h' → Ck h' q p (zl p) d r t mid→Q (.bool (decide (zl p).Nodup)) h'):CallW Tryz.prog 75 [ptr q] h Q:=by
 have hbl:p.devs.length + p.ress.length + p.tasks.length≤1000:=by have:=hb;unfold zl at this;simpa [List.length_append,Nat.add_assoc] using this
 have s1:∀ e ∈ p.devs,e.name.length≤1000:=fun e he=>hs _ (by unfold zl;simp only [List.mem_append,List.mem_map];exact .inl (.inl ⟨e,he,rfl⟩));have s2:∀ e ∈ p.ress,e.name.length≤1000:=fun e he=>hs _ (by unfold zl;simp only [List.mem_append,List.mem_map];exact .inl (.inr ⟨e,he,rfl⟩));have s3:∀ e ∈ p.tasks,e.name.length≤1000:=fun e he=>hs _ (by unfold zl;simp only [List.mem_append,List.mem_map];exact .inr ⟨e,he,rfl⟩);have ld:=hd.len;have lr:=hr.len;have lt:=ht.len;clear hs hb;replace hbl:=za hbl;replace s1:=za s1;replace s2:=za s2;replace s3:=za s3;replace hd:=za hd;replace hr:=za hr;replace ht:=za ht;refine zg (k:=1) ok75 rfl rfl rfl fun N=>?_;rw [Yo c75 und16q rfl];delta c75;replace hq:=za hq;simp only [zb,aR, *];refine colD_w (x5:=udq) (x6:=udq) (x7:=udq) gq hd.h gm TkM.nil (by have:=hbl.h;simp;omega) s1.h _ fun h1 es1 x2 x7 x8 l1 g1 t1=>?_;have b1:=l1.b gm;have gq1:=b1 _ _ _ gq;have hr1:=hr.h.monoB b1;replace l1:=za l1;replace t1:=za t1;replace b1:=za b1;replace hr1:=za hr1;simp only [zb,aR, *];refine colR_w (x9:=udq) (x10:=udq) (x11:=udq) gq1 hr1.h g1 t1.h (by have:=hbl.h;simp;omega) s2.h _ fun h2 es2 x3 x11 x12 l2 g2 t2=>?_;have b2:=l2.b g1;have gq2:=b2 _ _ _ gq1;have ht2:=(ht.h.monoB b1.h).monoB b2;replace l2:=za l2;replace t2:=za t2;replace b2:=za b2;replace ht2:=za ht2;simp only [zb,aR, *];refine colT_w (x13:=udq) (x14:=udq) (x15:=udq) gq2 ht2.h g2 t2.h (by have:=hbl.h;simp;omega) s3.h _ fun h3 es3 x4 x15 x16 l3 g3 t3=>?_;have b3:=l3.b g2;have gq3:=b3 _ _ _ gq2;have hN:[]++p.devs.map (·.name)++p.ress.map (·.name)++p.tasks.map (·.name)=zl p:=rfl;rw [hN] at t3;have hNl:(zl p).length=p.devs.length + p.ress.length + p.tasks.length:=by unfold zl;simp only [List.length_append,List.length_map]
 have hes:es3.length≤(zl p).length∧(es3.length=(zl p).length↔(zl p).Nodup):=by
  obtain ⟨l,rfl,_,_,_,e1,e2,_⟩:=t3;rw [List.length_map];exact ⟨e1,e2⟩
 have lAll:=(l1.h.trans l2.h).trans l3;have bAll:h.leB h3:=fun i c o hg=>b3 _ _ _ (b2.h _ _ _ (b1.h _ _ _ hg));have ck:Ck h3 q p (zl p) d r t mid:=⟨⟨own,gq3⟩,hd.h.monoB bAll,hr.h.monoB bAll,ht.h.monoB bAll,⟨es3,true,g3,t3⟩⟩;have g:=hq.h h3 lAll ck;rw [hNl] at hes;have w1:IntKind.i64.wrap ((p.devs.length:Int) + (p.ress.length:Int))=((p.devs.length + p.ress.length:Nat):Int):=by have:=hbl.h;rw [zn (by omega) (by omega)];omega
 have w2:IntKind.i64.wrap (((p.devs.length + p.ress.length:Nat):Int) + (p.tasks.length:Int))=((p.devs.length + p.ress.length + p.tasks.length:Nat):Int):=by have:=hbl.h;rw [zn (by omega) (by omega)];omega
 have w3:((es3.length:Int) == ((p.devs.length + p.ress.length + p.tasks.length:Nat):Int))=decide (zl p).Nodup:=by
  rw [Bool.eq_iff_iff,beq_iff_eq,decide_eq_true_eq,← hes.2];omega
 rw [← w3] at g;clear hN hNl hq w3;replace l3:=za l3;replace t3:=za t3;replace b3:=za b3;replace hes:=za hes;replace lAll:=za lAll;replace bAll:=za bAll;replace ck:=za ck;replace g:=za g;simp only [zb,aR,ze,zf, *];exact g.h
end Go.Eng.Sy
namespace Go.Eng
open Go
variable {P:Program}
theorem zs4 {N:Nat}{vars:List Nat}{g:Arg}{ps:List Nat}{ca cb:CCode}{Q:AExit→lVq→Heap→Prop}{e:lVq}{h:Heap}{f:FuncId}{first cap:Array Value}(hg:g.ev [] e=some (.func (.func f) first cap))
  (hnd:vars.Nodup) (hna:ca.noRange=true) (hnb:cb.noRange=true)
  (hc:∀ (lo:LoopState→Option Code→AObj) (L:Nat) (h1:Heap),(∀ st pd c w,lo st pd ≠ .blk c w)→h.next + 1=L→h.le h1→h1.get L=some (lo .ready none)→h1.next=h.next + 2 →
   (∀ (args:lVq) (hh hA:Heap) (T:AExit→Heap→Prop) (env1:lVq),hh.get L=some (lo .ready none)→hA.get L=some (lo .ready none)→ps.length=args.length→(∀ R:AExit→lVq→Heap→Prop,R .normal env1 hA→W P N vars ca R (Wi ps args e) hh) →
    (∀ R:AExit→lVq→Heap→Prop,Hid (∀ x eb hb,hb.get L=some (lo .busy none)→T x hb→R x eb hb)→W P N vars cb R env1 (hA.set L (lo .busy none))) →
    ValW P (.func (.yield L) #[] #[]) args hh fun v h'=>∃ x hb,T x hb∧hb.get L=some (lo .busy none)∧v = .bool (qj x).isNone∧h' = hb.set L (lo (if (qj x).isNone then .ready else .done) (qj x))) →
   CallW P f (first.toList++[.func (.yield L) #[] #[]]++cap.toList) h1 fun _ h2=>∃ x st,st ≠ .busy∧h2.get L=some (lo st (qj x))∧Q x e (h2.set L .dead)) :
  W P N vars (.range g ps ca cb) Q e h:=by
 refine range_w hg ?_;refine CallW.mono (hc (fun st pd=>.loop e vars N (J6 P N vars ps ca cb) st pd) (h.next + 1) _ (fun _ _ _ _=>by simp) rfl (((Heap.le.refl h).alloc _).alloc _) (Heap.get_alloc_same (h.alloc .defd) _) rfl ?_) fun v h' _ ⟨x,st,h1,h2,h3⟩=>⟨st,x,h2,h1,h3⟩;intro args hh hA T env1 hL hLA hlen hca hcb;refine yield_w hL hnd hlen hna hnb (hca _ ⟨rfl,hLA,hcb _ ⟨fun x eb hb h1 h2=>⟨h1,x,hb,h2,h1,rfl,rfl⟩⟩⟩)
def retcc (k j n:Nat) (Q:vPq):AExit→lVq→Heap→Prop
 | .exit _,_,_=>False
 | _,e,h=>∃ p q v a b o o',e[k]? = some (pT p 0)∧e[j]? = some (pT q 0)∧h.get p=some (.blk [v] o)∧h.get q=some (.blk [a,b] o')∧Q (.tuple #[v,.agg #[a,b]]) (h.sweep n)
theorem yw4 {f:FuncId}{cf:CFn}(hf:FnOk P f cf){args:lVq}{h:Heap}{Q:vPq}{k j:Nat}(hnr:cf.body.noRange=false) (hr:cf.results=[.cell k false 1,.cell j true 2]) (hn:args.length=cf.nargs)
  (hb:∀ N,W P N cf.vars cf.body (retcc k j h.next Q) (Ug cf args) h):CallW P f args h Q:=by
 refine Zs hf hn fun N=>W.mono ?_ (hb N).sound;intro x e h' hq;have key:(∃ p q v a b o o',e[k]? = some (pT p 0)∧e[j]? = some (pT q 0)∧h'.get p=some (.blk [v] o)∧h'.get q=some (.blk [a,b] o')∧Q (.tuple #[v,.agg #[a,b]]) (h'.sweep h.next))→ka (qo e (fin cf.body.noRange h.next h') cf.results) fun vs=>Q (yl vs) (fin cf.body.noRange h.next h'):=by
  rintro ⟨p,q,v,a,b,o,o',he,hu,hp,hqq,hQ⟩;rw [hnr,hr];have hp' : (h'.sweep h.next).get p=some (.blk [v] o):=Heap.sweep_blk hp (by simp);have hq' : (h'.sweep h.next).get q=some (.blk [a,b] o'):=Heap.sweep_blk hqq (by simp);have a1:aR (.load false 1) [pT p 0] (h'.sweep h.next).get=some v:=by simp [aR,hp',qu]
  have a2:aR (.load true 2) [pT q 0] (h'.sweep h.next).get=some (.agg #[a,b]):=by simp [aR,hq',qu]
  simpa [qo,ResArg.get,he,hu,a1,a2,ka,yl,fin] using hQ
 cases x with
 | exit i=>exact hq.elim
 | normal=>exact key hq
 | ret=>exact key hq
theorem Heap.leB.setX {h:Heap}{L:Nat}{o l:AObj}(hg:h.get L=some l) (hl:∀ c w,l ≠ .blk c w):h.leB (h.set L o):=fun i c w hi=>by
 have:i≠L:=by rintro rfl;rw [hg] at hi;exact hl _ _ (Option.some.inj hi)
 rw [Heap.get_set,if_neg (fun e=>this e.1)];exact hi
end Go.Eng
namespace Go.Eng.Sy
open Go Go.Eng Go.Proofs
theorem aBox_v {v:Value}(hv:v.oneCell' = true∧v.cells.toList=[v]):Je [v]=some ([v],fun id=>(pT id 0)):=by
 simp [Je,hv.1,hv.2]
theorem yl6 {h:Heap}{v vh:Value}(hv:v.oneCell' = true∧v.cells.toList=[v]) (hvh:vh.oneCell' = true∧vh.cells.toList=[vh]) (Q:vPq) (hq:∀ h' a b,h.le h' → h.next≤a→h.next≤b→h'.get a=some (.blk [v] true)→h'.get b=some (.blk [vh] true)→Q (.func (.func 115) #[] #[ptr a,ptr b]) h'):CallW Tryz.prog 77 [v,vh] h Q:=by
 have b1:Je [v]=some ([v],fun id=>(pT id 0)):=aBox_v hv;have b2:Je [vh]=some ([vh],fun id=>(pT id 0)):=aBox_v hvh;obtain ⟨a,h1,ea,eh1,ga,lh1⟩:=zj h [v];obtain ⟨b,h2,eb,eh2,gb,lh2⟩:=zj h1 [vh];have g:=hq h2 a b (lh1.trans lh2) (by omega) (by have:=lh1.next;omega) (lh2.get ga) gb;clear hq;have hq:=g;refine zg (k:=4) ok77 rfl rfl rfl fun N=>?_;rw [wn c77 u0 rfl];delta c77;replace hq:=za hq;simp only [zb, *]
 try exact hq.h
theorem pb2 (a b:Int):yo [iI 0,iI 0] [(0,1),(1,1)] [iI a,iI b]=some (.agg #[iI a,iI b]):=rfl
theorem pb0:yo [iI 0,iI 0] [] []=some (.agg #[iI 0,iI 0]):=rfl
abbrev i64 (z:Int):Value:=iI z
set_option maxHeartbeats 1000000 in
theorem heads_w {h0 h:Heap}{b1 b2 b3 b4 q mid:Nat}{p:Prg}{d r t:Value}{own:Bool}(hc:Ck h q p (zl p) d r t mid) (hl0:h0.le h) (n2:h0.next≤b2) (n3:h0.next≤b3) (n23:b2≠b3)
  (g2:h.get b2=some (.blk [iI 0] true)) (g3:h.get b3=some (.blk [iI 0,iI 0] true)) (g4:h.get b4=some (.blk [ptr q] true)) (hlen:p.tasks.length≤1000)
  {N:Nat}{vars:List Nat}{x0 x5 x6 x7 x8 x9 x10 x11 x12 x15 x16 x17 x18 x19 x20 x21 x22:Value}(R:AExit→lVq→Heap→Prop)
  (hN:(∀ i,i < p.tasks.length→wx p i=0) → ∀ h' x5 x6 x15,h.le h' → R (.exit 0) [x0,ptr b1,ptr b2,ptr b3,ptr b4,x5,x6,x7,x8,x9,x10,x11,x12,iI p.tasks.length,iI p.tasks.length,x15,x16,x17,x18,x19,x20,x21,x22] h')
  (hE:∀ h' (i:Nat) x5 x6 x14 x15,i < p.tasks.length→wx p i≠0→(∀ j,j < i→wx p j=0)→h0.le h' → h'.get b2=some (.blk [iI (wx p i)] true)→h'.get b3=some (.blk [iI i,iI 0] true)→R .ret [x0,ptr b1,ptr b2,ptr b3,ptr b4,x5,x6,x7,x8,x9,x10,x11,x12,iI p.tasks.length,x14,x15,x16,x17,x18,x19,x20,x21,x22] h') :
  LoopW Tryz.prog N vars zw3 [x0,ptr b1,ptr b2,ptr b3,ptr b4,x5,x6,x7,x8,x9,x10,x11,x12,iI p.tasks.length,iI 0,x15,x16,x17,x18,x19,x20,x21,x22] h R:=by
 replace hN:=za hN;replace hE:=za hE;refine LoopW.upto p.tasks.length (fun i e h1=>h.le h1∧(∀ j,j < i→wx p j=0) ∧ ∃ x5 x6 x15,e=[x0,ptr b1,ptr b2,ptr b3,ptr b4,x5,x6,x7,x8,x9,x10,x11,x12,iI p.tasks.length,iI i,x15,x16,x17,x18,x19,x20,x21,x22]) ?_ (Nat.zero_le _) ⟨Heap.le.refl _,fun _ hj=>absurd hj (Nat.not_lt_zero _),_,_,_,rfl⟩;rintro i _ h1 R1 hi ⟨hl,ho,x5,x6,x15,rfl⟩ hR;delta zw3 Vp Vo Vn Vm Vl Vk;by_cases hlt:i < p.tasks.length
 case neg =>
  have hlt' : ¬ (i:Int) < p.tasks.length:=by omega
  have hie:i=p.tasks.length:=by omega
  subst hie;have g:=fun a b c=>hN.h ho h1 a b c hl;replace g:=za g;replace hl:=za hl;replace hc:=za hc;simp only [zb,ze,zf, *];exact g.h _ _ _
 case pos =>
  have hlt' : (i:Int) < p.tasks.length:=by omega
  have hw:IntKind.i64.wrap ((i:Int) + 1)=((i + 1:Nat):Int):=by rw [zn (by omega) (by omega)];rfl
  obtain ⟨tk,he⟩:∃ e,p.tasks[i]? = some e:=⟨_,List.getElem?_eq_getElem hlt⟩;have g41:=hl.get g4;have g21:=hl.get g2;have g31:=hl.get g3;have hc1:=hc.mono hl.v;replace hl:=za hl;replace ho:=za ho;replace hc1:=za hc1;replace he:=za he;clear hc;simp only [zb,aR,ze,zf, *];refine head_c hc1.h he.h _ fun h2 l2=>?_;have g42:=l2.get g41;have g22:=l2.get g21;have g32:=l2.get g31;have hl2:=hl.h.trans l2;by_cases hz:wx p i=0
  case pos =>
   have g:=fun a b c=>hR.h _ h2 hlt ⟨hl2,fun j hj=>by rcases Nat.lt_succ_iff_lt_or_eq.1 hj with hj | rfl;exact ho.h j hj;exact hz,a,b,c,rfl⟩;rw [hz];replace g:=za g;replace l2:=za l2;replace hl2:=za hl2;replace hz:=za hz;simp only [zb,ze,zf, *];exact g.h _ _ _
  case neg =>
   have s2:=jw (k:=.i64) (z:=wx p i) (off:=0) g22 (by simp);simp only [List.set_cons_zero] at s2;obtain ⟨h3,eh3⟩:∃ x,h2.set b2 (.blk [iI (wx p i)] true)=x:=⟨_,rfl⟩;have g33:h3.get b3=some (.blk [iI 0,iI 0] true):=by rw [← eh3,Heap.set_getE _ _ _ _ (by simpa using fun e=>n23 e.symm)];exact g32
   have g23:h3.get b2=some (.blk [iI (wx p i)] true):=by rw [← eh3];exact Heap.set_getS _ _ _ (by rw [g22];rfl)
   have l3:h0.le h3:=by rw [← eh3];exact (hl0.trans hl2).set n2 _
   rw [eh3] at s2;have s3:zt 2 h3 [pT b3 0,.agg #[iI i,iI 0]]=some (udq,h3.set b3 (.blk [iI i,iI 0] true)):=yz g33 rfl rfl rfl rfl;have g:=fun a b c d=>hE.h (h3.set b3 (.blk [iI i,iI 0] true)) i a b c d hlt hz ho.h (l3.set n3 _) (by rw [Heap.set_getE _ _ _ _ (by simpa using n23)];exact g23) (Heap.set_getS _ _ _ (by rw [g33];rfl));obtain ⟨e,hee⟩:∃ x,wx p i=x:=⟨_,rfl⟩;rw [hee] at hz s2 g23;rw [hee];replace hee:=Hid.mk hee;have hz' : (e != 0)=true:=by simpa using hz
   replace g:=za g;replace l2:=za l2;replace hl2:=za hl2;replace l3:=za l3;clear hE hN hR eh3;simp only [zb,aW,ze,zf,pb2, *];exact g.h _ _ _ _
theorem Zh {x:St × List (lBq)}{hs:List (lBq)}:∀ {ss:List St},x ∈ zy hs ss → ∃ s ∈ ss,x ∈ Qp hs s
 | [],h=>by simp [zy] at h
 | s::r,h=>by
  simp only [zy,List.mem_append] at h;rcases h with h | h
  ·exact ⟨s,by simp,h⟩
  ·obtain ⟨s',h1,h2⟩:=Zh h;exact ⟨s',by simp [h1],h2⟩
theorem StI.kids {s:St}{n:Nat}(h:StI s (n + 1)):(∀ x ∈ s.thn,StI x n)∧(∀ x ∈ s.els,StI x n):=by
 cases h<;>simp_all [St.thn,St.els]
theorem zu3:∀ (n:Nat) (s:St) (hs:List (lBq)),StI s n → ∀ x ∈ Qp hs s,(∃ m,StI x.1 m)∧x.2.length≤hs.length + n
 | 0,s,hs,h,x,hx=>by cases h
 | n + 1,s,hs,h,x,hx=>by
  rw [Zi] at hx;simp only [List.mem_cons,List.mem_append] at hx;rcases hx with rfl | hx | hx
  ·exact ⟨⟨_,h⟩,by simp⟩
  ·obtain ⟨s',h1,h2⟩:=Zh hx;obtain ⟨h3,h4⟩:=zu3 n s' _ (h.kids.1 _ h1) x h2;refine ⟨h3,?_⟩;split at h4
   ·rw [List.length_append] at h4;simp at h4;omega
   ·omega
  ·obtain ⟨s',h1,h2⟩:=Zh hx;obtain ⟨h3,h4⟩:=zu3 n s' _ (h.kids.2 _ h1) x h2;exact ⟨h3,by omega⟩
def stE (p:Prg) (x:St × List (lBq)):Int:=We p (zl p) x.2 x.1
def OkAt (p:Prg) (i:Nat):Prop:=∀ tk,p.tasks[i]? = some tk → ∀ x ∈ zy [] tk.body,stE p x=0
def BadAt (p:Prg) (i k:Nat) (e:Int):Prop:=∃ tk x,p.tasks[i]? = some tk∧(zy [] tk.body)[k]? = some x∧e=stE p x∧e≠0 ∧ ∀ j,j < k → ∀ y,(zy [] tk.body)[j]? = some y→stE p y=0
set_option maxHeartbeats 2000000 in
theorem bodies_w {h0 h:Heap}{b1 b2 b3 b4 q mid:Nat}{p:Prg}{d r t:Value}(hc:Ck h q p (zl p) d r t mid) (hl0:h0.le h) (n2:h0.next≤b2) (n3:h0.next≤b3) (n23:b2≠b3)
  (g2:h.get b2=some (.blk [iI 0] true)) (g3:h.get b3=some (.blk [iI 0,iI 0] true)) (g4:h.get b4=some (.blk [ptr q] true)) (hlen:p.tasks.length≤1000) (hbl:∀ tk ∈ p.tasks,(zy [] tk.body).length < 4611686018427387904) (hst:∀ tk ∈ p.tasks,∀ s ∈ tk.body,StI s 30)
  {N:Nat}{x0 x5 x6 x7 x8 x9 x10 x11 x12 x13 x14 x15 x19 x20 x21 x22:Value}(R:AExit→lVq→Heap→Prop)
  (hN:(∀ i,i < p.tasks.length→OkAt p i) → ∀ h' x7 x8 x9 x19 x20,h.le h' → R (.exit 2) [x0,ptr b1,ptr b2,ptr b3,ptr b4,x5,x6,x7,x8,x9,x10,x11,x12,x13,x14,x15,t,iI p.tasks.length,iI p.tasks.length,x19,x20,x21,x22] h')
  (hE:∀ h' (i k:Nat) e x7 x8 x9 x18 x19 x20,i < p.tasks.length→BadAt p i k e→(∀ j,j < i→OkAt p j)→h0.le h' → h'.get b2=some (.blk [iI e] true)→h'.get b3=some (.blk [iI i,iI k] true)→R .ret [x0,ptr b1,ptr b2,ptr b3,ptr b4,x5,x6,x7,x8,x9,x10,x11,x12,x13,x14,x15,t,iI p.tasks.length,x18,x19,x20,x21,x22] h') :
  LoopW Tryz.prog N c48.vars zw2 [x0,ptr b1,ptr b2,ptr b3,ptr b4,x5,x6,x7,x8,x9,x10,x11,x12,x13,x14,x15,t,iI p.tasks.length,iI 0,x19,x20,x21,x22] h R:=by
 replace hN:=za hN;replace hE:=za hE;replace hst:=za hst;replace hbl:=za hbl;refine LoopW.upto p.tasks.length (fun i e h1=>h.le h1∧(∀ j,j < i→OkAt p j) ∧ ∃ x7 x8 x9 x19 x20,e=[x0,ptr b1,ptr b2,ptr b3,ptr b4,x5,x6,x7,x8,x9,x10,x11,x12,x13,x14,x15,t,iI p.tasks.length,iI i,x19,x20,x21,x22]) ?_ (Nat.zero_le _) ⟨Heap.le.refl _,fun _ hj=>absurd hj (Nat.not_lt_zero _),_,_,_,_,_,rfl⟩;rintro i _ h1 R1 hi ⟨hl,ho,x7,x8,x9,x19,x20,rfl⟩ hR;delta zw2 Vp Vo Vn Vm Vl Vk;delta yx6 yx5;by_cases hlt:i < p.tasks.length
 case neg =>
  have hlt' : ¬ (i:Int) < p.tasks.length:=by omega
  have hie:i=p.tasks.length:=by omega
  subst hie;have g:=fun a b c d e=>hN.h ho h1 a b c d e hl;replace g:=za g;replace hl:=za hl;replace hc:=za hc;simp only [zb,ze,zf, *];exact g.h _ _ _ _ _
 case pos =>
  have hlt' : (i:Int) < p.tasks.length:=by omega
  have hw:IntKind.i64.wrap ((i:Int) + 1)=((i + 1:Nat):Int):=by rw [zn (by omega) (by omega)];rfl
  obtain ⟨tk,he⟩:∃ e,p.tasks[i]? = some e:=⟨_,List.getElem?_eq_getElem hlt⟩;have htm:=List.mem_of_getElem? he;have hflen:=hbl.h tk htm;have hsI:∀ x ∈ zy [] tk.body,(∃ m,StI x.1 m)∧x.2.length≤30:=fun x hx=>by
   obtain ⟨s,h1,h2⟩:=Zh hx;obtain ⟨h3,h4⟩:=zu3 30 s [] (hst.h tk htm s h1) x h2;exact ⟨h3,by simpa using h4⟩
  obtain ⟨id,off,cells,own,u,e1,e2,e3,hb⟩:=(hc.mono hl.v).ht.elem he;have hu1:u.oneCell' = true∧u.cells.toList=[u]:=by
   obtain ⟨_,hu1,_⟩:=hb;obtain ⟨_,_,_,rfl⟩:=SlV.isS hu1;exact ⟨rfl,rfl⟩
  have hnil:(Value.slice none 0 0).oneCell' = true∧(Value.slice none 0 0).cells.toList=[Value.slice none 0 0]:=⟨rfl,rfl⟩;obtain ⟨p7,h2,ep7,eh2,gp7,lh2⟩:=zj h1 [iI 0];obtain ⟨p8,h3,ep8,eh3,gp8,lh3⟩:=zj h2 [s0q,.bool false,iI 0,iI 0,iI 0,nSq];have s7:=jw (k:=.i64) (z:=(i:Int)) (off:=0) (lh3.get gp7) (by simp);simp only [List.set_cons_zero] at s7;obtain ⟨h4,eh4⟩:∃ x,h3.set p7 (.blk [iI (i:Int)] true)=x:=⟨_,rfl⟩;have p78:p7≠p8:=by have:=Heap.lt_of_get gp7;omega
  have g84:h4.get p8=some (.blk [s0q,.bool false,iI 0,iI 0,iI 0,nSq] true):=by rw [← eh4,Heap.set_getE _ _ _ _ (by simpa using p78.symm)];exact gp8
  have g74:h4.get p7=some (.blk [iI (i:Int)] true):=by rw [← eh4];exact Heap.set_getS _ _ _ (by rw [lh3.get gp7];rfl)
  have l14:h1.le h4:=by rw [← eh4];exact (lh2.trans lh3).set (by omega) _
  have s8:zt 6 h4 [pT p8 0,tsV tk.name tk.handler tk.hart tk.prio tk.line u]=some (udq,h4.set p8 (.blk (tsL tk u) true)):=by
   obtain ⟨_,hu2,_⟩:=hb;obtain ⟨_,_,_,rfl⟩:=SlV.isS hu2;exact yz g84 rfl rfl rfl rfl
  obtain ⟨h5,eh5⟩:∃ x,h4.set p8 (.blk (tsL tk u) true)=x:=⟨_,rfl⟩;have g75:h5.get p7=some (.blk [iI (i:Int)] true):=by rw [← eh5,Heap.set_getE _ _ _ _ (by simpa using p78)];exact g74
  have g85:h5.get p8=some (.blk (tsL tk u) true):=by rw [← eh5];exact Heap.set_getS _ _ _ (by rw [g84];rfl)
  have l15:h1.le h5:=by rw [← eh5];exact l14.set (by have:=lh2.next;omega) _
  rw [eh4] at s7;rw [eh5] at s8;have hc5:=hc.mono (hl.trans l15).v;have hb5:=hb.monoB l15.v.b;have g25:=l15.get (hl.get g2);have g35:=l15.get (hl.get g3);have g45:=l15.get (hl.get g4);have l05:=hl0.trans (hl.trans l15);have st9:zt 1 (h5.alloc (.blk [iI 0] true)) [pT h5.next 0,iI 0]=some (udq,h5.alloc (.blk [iI 0] true)):=zx rfl rfl rfl rfl;obtain ⟨p9,h6,ep9,eh6,gp9,lh6⟩:=zj h5 [iI 0];rw [eh6,ep9] at st9;have g86:=lh6.get g85;have g26:=lh6.get g25;clear eh4 eh5 g74 g84 hb;have g21:=hl.get g2;clear g2 g3 g4 hl0 hc;replace ho:=za ho;replace hl:=za hl;replace hc5:=za hc5;replace hb5:=za hb5;replace hsI:=za hsI;replace l15:=za l15;replace l05:=za l05;replace lh2:=za lh2;replace lh3:=za lh3;replace l14:=za l14;replace hu1:=za hu1;replace hnil:=za hnil;replace htm:=za htm;replace hflen:=za hflen;simp only [zb,aR,aW,ze,zf, *];refine yl6 hu1.h hnil.h _ fun h7 a b l7 na nb ga gb=>?_;have g97:=l7.get gp9;have g87:=l7.get g86;replace l7:=za l7;replace na:=za na;replace nb:=za nb;simp only [zb, *];refine zs4 (f:=115) (first:=#[]) (cap:=#[ptr a,ptr b]) rfl (by decide) rfl rfl ?_;intro lo L h8 hlo hLn l8 hgL hn8 hyield;show CallW _ _ [.func (.yield L) #[] #[],ptr a,ptr b] h8 _;obtain ⟨FL,hFL⟩:∃ x,zy [] tk.body=x:=⟨_,rfl⟩;have l58:h5.le h8:=lh6.trans (l7.h.trans l8);have h57:h5.next≤h7.next:=Nat.le_trans lh6.next l7.h.next;have hL5:h5.next≤L:=by omega
  have hp9:h5.next≤p9:=by omega
  have hp9L:p9≠L:=by have:=Heap.lt_of_get gp9;have:=l7.h.next;omega
  have hp9n:p9 < L:=by have:=Heap.lt_of_get gp9;have:=l7.h.next;omega
  have hb2L:b2 < p9:=by have:=Heap.lt_of_get g25;omega
  have hb27:b2≠p7:=by have:=Heap.lt_of_get g21;omega
  have hb3L:b3 < p9:=by have:=Heap.lt_of_get g35;omega
  have hcg:=@ye3 p9 L (.func (.yield L) #[] #[]) tk.body [] (fun k hh=>h5.le hh∧hh.get L=some (lo .ready none)∧hh.get p9=some (.blk [iI (k:Int)] true) ∧ ∀ j,j < k → ∀ y,FL[j]? = some y→stE p y=0)
   (fun k hh=>h0.le hh∧hh.get L=some (lo .done (qj .ret)) ∧ ∃ x,FL[k]? = some x∧stE p x≠0∧hh.get b2=some (.blk [iI (stE p x)] true)∧hh.get b3=some (.blk [iI i,iI k] true) ∧ ∀ j,j < k → ∀ y,FL[j]? = some y→stE p y=0)
  rw [hFL] at hcg;refine hcg ⟨?run,fun k ha hb l ⟨k1,k2,k3,k4⟩=>⟨k1.trans l,l.get k2,l.get k3,k4⟩,?deep,fun k hh hI=>⟨Heap.lt_of_get hI.2.2.1,Heap.lt_of_get hI.2.1⟩⟩ (l8.get ga) (l8.get gb) (hb5.h.monoB (l58.v.b.off hp9 hL5)) (Hold.nil _) ⟨l58,hgL,l8.get (l7.h.get gp9),fun _ hj=>absurd hj (Nat.not_lt_zero _)⟩ _ ?hT ?hF
  case deep=>intro e he;rw [← hFL] at he;have:=(hsI.h e he).2;omega
  case hT =>
   rintro _ h9 lz ⟨k1,k2,k3,k4⟩;refine ⟨.normal,.ready,by simp,k2,?_⟩;have g:=fun a b c d e=>hR.h _ (h9.set L .dead) hlt ⟨(hl.h.trans (l15.h.trans k1)).set (by have:=hl.h.next;have:=l15.h.next;omega) _,fun j hj=>by
    rcases Nat.lt_succ_iff_lt_or_eq.1 hj with hj | rfl
    ·exact ho.h j hj
    ·intro tk' htk x hx;rw [he] at htk;cases htk;rw [hFL] at hx;obtain ⟨n,hn⟩:=List.mem_iff_getElem?.1 hx;exact k4 n (List.getElem?_eq_some_iff.1 hn).1 x hn,a,b,c,d,e,rfl⟩
   clear hcg hyield hlo;replace g:=Hid.mk g;replace k4:=Hid.mk k4;simp only [zb,ze,zf, *];exact g.h _ _ _ _ _
  case hF =>
   rintro _ h9 j ⟨k1,k2,x,k3,k4,k5,k6,k7⟩;refine ⟨.ret,.done,by simp,k2,?_⟩;have nb:=hlo .done (qj .ret);have g:=fun a b c d e f=>hE.h (h9.set L .dead) i j (stE p x) a b c d e f hlt ⟨tk,x,he,by rw [hFL];exact k3,rfl,k4,by rw [hFL];exact k7⟩ ho.h (k1.set (by have:=l05.h.next;omega) _) (Heap.set_getB k2 nb k5 _) (Heap.set_getB k2 nb k6 _);clear hcg hyield hlo nb;replace g:=Hid.mk g;replace k7:=Hid.mk k7;simp only [zb, *];exact g.h _ _ _ _ _ _
  case run =>
   intro k hh s hs x vh Q2 hL2 hII hx hvh hT hF;obtain ⟨k1,k2,k3,k4⟩:=hII;obtain ⟨hm,hsl⟩:=hsI.h (s,hs) (by rw [hFL];exact List.mem_of_getElem? hL2);obtain ⟨nI,hsI2⟩:=hm;replace hsI2:StI s nI:=hsI2;replace hsl:hs.length≤30:=hsl;have hkl:=(List.getElem?_eq_some_iff.1 hL2).1;rw [hFL] at hflen;have hwk:IntKind.i64.wrap ((k:Int) + 1)=((k + 1:Nat):Int):=by have:=hflen.h;rw [zn (by omega) (by omega)];rfl
   have hx0:=hx;obtain ⟨xa,xu,xw,hxe,hargs,hthn,hels⟩:=hx.cells;subst hxe;have st:zt 7 (hh.alloc (.blk [iI 0,s0q,s0q,iI 0,nSq,nSq,nSq] true)) [pT hh.next 0,stV s.kind s.name s.src s.n xa xu xw]=some (udq,hh.alloc (.blk [iI s.kind,str s.name,str s.src,iI s.n,xa,xu,xw] true)):=by
    obtain ⟨_,ha1,_⟩:=hargs;obtain ⟨_,hu1,_⟩:=hthn;obtain ⟨_,hw1,_⟩:=hels;obtain ⟨_,_,_,rfl⟩:=SlV.isS ha1;obtain ⟨_,_,_,rfl⟩:=SlV.isS hu1;obtain ⟨_,_,_,rfl⟩:=SlV.isS hw1;exact zx rfl rfl rfl rfl
   obtain ⟨p10,hA,ep10,ehA,gp10,lhA⟩:=zj hh [iI s.kind,str s.name,str s.src,iI s.n,xa,xu,xw];rw [ehA,ep10] at st;have nb:=hlo .ready none;have nb2:=hlo .busy none;have kL:=lhA.get k2;obtain ⟨hB,ehB⟩:∃ x,hA.set L (lo .busy none)=x:=⟨_,rfl⟩;have hhB:hh.leB hB:=fun i c o hg=>by rw [← ehB];exact Heap.leB.setX kL nb _ _ _ (lhA.get hg)
   have k1B:h5.le hB:=by rw [← ehB];exact (k1.trans lhA).set hL5 _
   have ckB:=hc5.h.mono k1B.v;have hxB:=hx0.monoB hhB;have hvhB:=hvh.1.monoB hhB;have g4B:=k1B.get g45;have g7B:=k1B.get g75;have g2B:=k1B.get g25;have g3B:=k1B.get g35;have g9B:hB.get p9=some (.blk [iI (k:Int)] true):=by rw [← ehB];exact Heap.set_getB kL nb (lhA.get k3) _
   have g10B:=by have:=Heap.set_getB kL nb gp10 (lo .busy none);rw [ehB] at this;exact this
   have gLB:hB.get L=some (lo .busy none):=by rw [← ehB];exact Heap.set_getS _ _ _ (by rw [kL];rfl)
   clear hargs hthn hels hx hx0;have hy:=hyield [stV s.kind s.name s.src s.n xa xu xw,vh] hh hA (fun xx hb=>(xx = .normal∧stE p (s,hs)=0 ∧ ∃ hS,hB.le hS∧hb=hS.set p9 (.blk [iI ((k + 1:Nat):Int)] true))∨(xx = .ret∧stE p (s,hs)≠0 ∧ ∃ hS,hB.le hS∧hb=(hS.set b2 (.blk [iI (stE p (s,hs))] true)).set b3 (.blk [iI (i:Int),iI (k:Int)] true)))
    [x0,ptr b1,ptr b2,ptr b3,ptr b4,x5,x6,ptr p7,ptr p8,ptr p9,ptr p10,vh,x12,x13,x14,x15,t,iI p.tasks.length,iI i,.bool true,.func (.func 115) #[] #[ptr a,ptr b],stV s.kind s.name s.src s.n xa xu xw,vh] k2 kL rfl
   clear hyield;refine ValW.mono (hy ?_ ?_) ?_
   ·intro R2 hR2;simp only [Wi,List.set_cons_succ,List.set_cons_zero];delta Vp Vo;simp only [zb,aR,aW,ze,zf,Int.reduceBEq,Int.reduceBNe,Nat.reduceBEq,Int.reduceLT,Int.reduceLE,ep10,st];exact hR2
   ·intro R2 hR2;rw [ehB];delta Vn Vm Vl Vk;clear hy hlo hcg nb nb2 kL st gp10;replace k4:=za k4;replace ho:=za ho;replace hT:=za hT;replace hF:=za hF;replace l58:=za l58;replace k1B:=za k1B;replace ckB:=za ckB;replace hxB:=za hxB;replace hvhB:=za hvhB;replace hhB:=za hhB;replace hFL:=za hFL;simp only [zb,aR,qv, *];refine stmt_c ckB.h hsI2 hxB.h hvhB.h (by omega) _ fun hS lS=>?_;have g9S:=lS.get g9B;have g7S:=lS.get g7B;have g2S:=lS.get g2B;have g3S:=lS.get g3B;have gLS:=lS.get gLB;obtain ⟨e,hee⟩:∃ x,stE p (s,hs)=x:=⟨_,rfl⟩;rw [show We p (zl p) hs s=e from hee];rw [hee] at hR2;by_cases hz:e=0
    case pos =>
     subst hz;have s9:=jw (k:=.i64) (z:=((k + 1:Nat):Int)) (off:=0) g9S (by simp);simp only [List.set_cons_zero] at s9;have g:=fun eb=>hR2.h .normal eb (hS.set p9 (.blk [iI ((k + 1:Nat):Int)] true)) (by rw [Heap.set_getE _ _ _ _ (by simpa using hp9L.symm)];exact gLS) (.inl ⟨rfl,rfl,hS,lS,rfl⟩);clear hN hE hR hR2 hst hbl gLS gLB;replace g:=za g;replace hee:=za hee;replace lS:=za lS;simp only [zb,aR,aW,ze,zf, *];exact g.h _
    case neg =>
     have hz' : (e != 0)=true:=by simpa using hz
     have b2L:b2≠L:=by omega
     have b3L:b3≠L:=by omega
     have b29:b2≠p9:=by omega
     have s2:=jw (k:=.i64) (z:=e) (off:=0) g2S (by simp);simp only [List.set_cons_zero] at s2;have g:=fun eb=>hR2.h .ret eb ((hS.set b2 (.blk [iI e] true)).set b3 (.blk [iI (i:Int),iI (k:Int)] true)) (by rw [Heap.set_getE _ _ _ _ (by simpa using b3L.symm),Heap.set_getE _ _ _ _ (by simpa using b2L.symm)];exact gLS) (.inr ⟨rfl,hz,hS,lS,rfl⟩);obtain ⟨hU,ehU⟩:∃ x,hS.set b2 (.blk [iI e] true)=x:=⟨_,rfl⟩;have g3U:hU.get b3=some (.blk [iI 0,iI 0] true):=by rw [← ehU,Heap.set_getE _ _ _ _ (by simpa using n23.symm)];exact g3S
     have g7U:hU.get p7=some (.blk [iI (i:Int)] true):=by rw [← ehU,Heap.set_getE _ _ _ _ (by simpa using hb27.symm)];exact g7S
     have g9U:hU.get p9=some (.blk [iI (k:Int)] true):=by rw [← ehU,Heap.set_getE _ _ _ _ (by simpa using b29.symm)];exact g9S
     rw [ehU] at s2 g;have s3:zt 2 hU [pT b3 0,.agg #[iI i,iI k]]=some (udq,hU.set b3 (.blk [iI i,iI k] true)):=yz g3U rfl rfl rfl rfl;have hex:hS.leBut b2 hU:=by rw [← ehU];exact Heap.leBut.set _ _ _
     have n72:(p7 == b2)=false:=by simpa using hb27.symm
     have n92:(p9 == b2)=false:=by simpa using b29.symm
     clear hN hE hR hR2 hst hbl gLS gLB ehU;replace g:=za g;replace hee:=za hee;replace lS:=za lS;replace hex:=za hex;simp only [zb,aW,ze,zf, *];refine jr hex.h ?_;simp only [zb,aR,aW,pb2, *];exact g.h _
   ·rintro v' h' _ ⟨xx,hb,(⟨rfl,hz,hS,lS,rfl⟩ | ⟨rfl,hz,hS,lS,rfl⟩),hbL,rfl,rfl⟩
    ·show Q2 (.bool true) (Heap.set _ L (lo .ready none));have g9S:=lS.get g9B;have l1:h5.le ((hS.set p9 (.blk [iI ((k + 1:Nat):Int)] true)).set L (lo .ready none)):=((k1B.trans lS).set hp9 _).set hL5 _;have lz:hh.leZ p9 L ((hS.set p9 (.blk [iI ((k + 1:Nat):Int)] true)).set L (lo .ready none)):=⟨fun i o n1 n2 hi=>by
      rw [Heap.get_set,if_neg (fun e=>n2 e.1),Heap.get_set,if_neg (fun e=>n1 e.1)];refine lS.get ?_;rw [← ehB,Heap.get_set,if_neg (fun e=>n2 e.1)];exact lhA.get hi,by have h1:=lhA.next;have h2:=lS.next;rw [← ehB] at h2;exact Nat.le_trans h1 h2⟩
     refine hT _ lz ⟨l1,Heap.set_getS _ _ _ (by rw [hbL];rfl),?_,fun j hj y hy2=>?_⟩
     ·rw [Heap.set_getE _ _ _ _ (by simpa using hp9L)];exact Heap.set_getS _ _ _ (by rw [g9S];rfl)
     ·rcases Nat.lt_succ_iff_lt_or_eq.1 hj with hj | rfl
      ·exact k4 j hj y hy2
      ·rw [hL2] at hy2;cases hy2;exact hz
    ·show Q2 (.bool false) (Heap.set _ L (lo .done (qj .ret)));have g2S:=lS.get g2B;have g3S:=lS.get g3B;have b2L:b2≠L:=by omega
     have b3L:b3≠L:=by omega
     refine hF _ ⟨(((l05.h.trans (k1B.trans lS)).set n2 _).set n3 _).set (by have:=l05.h.next;omega) _,Heap.set_getS _ _ _ (by rw [hbL];rfl),(s,hs),hL2,hz,?_,?_,k4⟩
     ·rw [Heap.set_getE _ _ _ _ (by simpa using b2L),Heap.set_getE _ _ _ _ (by simpa using n23)];exact Heap.set_getS _ _ _ (by rw [g2S];rfl)
     ·rw [Heap.set_getE _ _ _ _ (by simpa using b3L)];exact Heap.set_getS _ _ _ (by rw [Heap.set_getE _ _ _ _ (by simpa using n23.symm),g3S];rfl)
def CheckIs (p:Prg) (e i n:Int):Prop :=
 (ki p=false∧e=1∧i=0∧n=0)∨(ki p=true ∧ ¬ (zl p).Nodup∧e=80∧i=0∧n=0) ∨
 (ki p=true∧(zl p).Nodup ∧ ∃ k:Nat,k < p.tasks.length∧wx p k≠0∧(∀ j,j < k→wx p j=0)∧e=wx p k∧i=k∧n=0) ∨
 (ki p=true∧(zl p).Nodup∧(∀ j,j < p.tasks.length→wx p j=0) ∧ ∃ k m:Nat,k < p.tasks.length∧BadAt p k m e∧(∀ j,j < k→OkAt p j)∧i=k∧n=m) ∨
 (ki p=true∧(zl p).Nodup∧(∀ j,j < p.tasks.length→wx p j=0)∧(∀ j,j < p.tasks.length→OkAt p j)∧e=0∧i=0∧n=0)
theorem vz {p:Prg}(h:ki p=true):(1≤p.harts∧p.harts≤4)∧(∀ d ∈ p.devs,Zr d=true)∧(∀ d ∈ p.ress,Zo d=true)∧(∀ d ∈ p.tasks,js d=true):=by
 simp only [ki,Bool.and_eq_true,decide_eq_true_eq,List.all_eq_true] at h;exact ⟨h.1.1.1.1.1.1,h.1.1.2,h.1.2,h.2⟩
theorem qk {p:Prg}(h:ki p=true):p.devs.length≤8∧p.ress.length≤8∧p.tasks.length≤16:=by
 simp only [ki,Bool.and_eq_true,decide_eq_true_eq,List.all_eq_true] at h;exact ⟨h.1.1.1.1.1.2,h.1.1.1.1.2,h.1.1.1.2⟩
theorem zk8 {p:Prg}(h:ki p=true):(∀ s ∈ zl p,s.length≤1000)∧(zl p).length≤1000:=by
 obtain ⟨_,h1,h2,h3⟩:=vz h;obtain ⟨l1,l2,l3⟩:=qk h;constructor
 ·intro s hs;unfold zl at hs;simp only [List.mem_append,List.mem_map] at hs;rcases hs with (⟨d,hd,rfl⟩ | ⟨d,hd,rfl⟩) | ⟨d,hd,rfl⟩
  ·have:=h1 d hd;simp only [Zr,Bool.and_eq_true] at this;exact kr this.1
  ·have:=h2 d hd;simp only [Zo,Bool.and_eq_true] at this;exact kr this.1
  ·have:=h3 d hd;simp only [js,Bool.and_eq_true] at this;exact kr this.1.1.1.1
 ·unfold zl;simp only [List.length_append,List.length_map];omega
theorem Zy {p:Prg}(h:ki p=true):∀ tk ∈ p.tasks,∀ s ∈ tk.body,StI s 30:=by
 intro tk htk s hs;have:=(vz h).2.2.2 tk htk;simp only [js,Bool.and_eq_true,vr,List.all_eq_true] at this;exact (X8 30 s).1 (this.2 s hs)
set_option maxHeartbeats 2000000 in
theorem qd0 {h:Heap}{p:Prg}{x:lVq}(hx:PrC h p x) (hbl:∀ tk ∈ p.tasks,(zy [] tk.body).length < 4611686018427387904) (Q:vPq)
  (hq:∀ h' e i n,CheckIs p e i n→h.le h' → Q (.tuple #[iI e,.agg #[iI i,iI n]]) h'):CallW Tryz.prog 48 [.agg x.toArray] h Q:=by
 have hx0:=hx;obtain ⟨d,r,t,rfl,hd,hr,ht⟩:=hx;have bx1:=yy (n:=p.harts) hd.one hr.one ht.one;have iD:IsS d:=SlV.isS hd.1;have iR:IsS r:=SlV.isS hr.1;have iT:IsS t:=by obtain ⟨_,ht1,_⟩:=ht;exact SlV.isS ht1
 obtain ⟨b1,h1,eb1,eh1,gb1,lh1⟩:=zj h [iI p.harts,d,r,t];obtain ⟨b2,h2,eb2,eh2,gb2,lh2⟩:=zj h1 [iI 0];obtain ⟨b3,h3,eb3,eh3,gb3,lh3⟩:=zj h2 [iI 0,iI 0];have l3:=(lh1.trans lh2).trans lh3;have hx3:=hx0.mono l3;have n2:h.next≤b2:=by have:=lh1.next;omega
 have n3:h.next≤b3:=by have:=lh1.next;have:=lh2.next;omega
 have n23:b2≠b3:=by have:=Heap.lt_of_get gb2;omega
 have gb13:=lh3.get (lh2.get gb1);have gb23:=lh3.get gb2;clear gb1 gb2 hx0;obtain ⟨R,hR⟩:∃ R,retcc 2 3 h.next Q=R:=⟨_,rfl⟩;have hret:∀ (h' : Heap) (e i n:Int) (x0:Value) (tl:lVq),CheckIs p e i n→h.le h' → h'.get b2=some (.blk [iI e] true)→h'.get b3=some (.blk [iI i,iI n] true)→R .ret (x0::ptr b1::ptr b2::ptr b3::tl) h':=by
  intro h' e i n x0 tl hci hle hg2 hg3;rw [← hR];exact ⟨b2,b3,_,_,_,_,_,rfl,rfl,hg2,hg3,hq _ e i n hci (Heap.le.sweep hle)⟩
 have store:∀ (hh:Heap) (e:Int),h.le hh→hh.get b2=some (.blk [iI 0] true)→hh.get b3=some (.blk [iI 0,iI 0] true) → ∃ hU hV,zt 1 hh [pT b2 0,iI e]=some (udq,hU)∧zt 2 hU [pT b3 0,.agg #[iI 0,iI 0]]=some (udq,hV)∧h.le hV∧hV.get b2=some (.blk [iI e] true)∧hV.get b3=some (.blk [iI 0,iI 0] true):=by
  intro hh e hl g2 g3;have s2:=jw (k:=.i64) (z:=e) (off:=0) g2 (by simp);simp only [List.set_cons_zero] at s2;have g3' : (hh.set b2 (.blk [iI e] true)).get b3=some (.blk [iI 0,iI 0] true):=by rw [Heap.set_getE _ _ _ _ (by simpa using n23.symm)];exact g3
  refine ⟨_,_,s2,yz g3' rfl rfl rfl rfl,(hl.set n2 _).set n3 _,?_,Heap.set_getS _ _ _ (by rw [g3'];rfl)⟩;rw [Heap.set_getE _ _ _ _ (by simpa using n23)];exact Heap.set_getS _ _ _ (by rw [g2];rfl)
 have pb1:∀ mid,yo [iI 0,nSq,nSq,nSq,.map none] [(0,4),(4,1)] [.agg #[iI p.harts,d,r,t],.map (some mid)]=some (.agg #[iI p.harts,d,r,t,.map (some mid)]):=by
  intro mid;obtain ⟨_,_,_,rfl⟩:=iD;obtain ⟨_,_,_,rfl⟩:=iR;obtain ⟨_,_,_,rfl⟩:=iT;rfl
 have bx5:∀ mid,Je [.agg #[iI p.harts,d,r,t,.map (some mid)]]=some ([iI p.harts,d,r,t,.map (some mid)],fun id=>(pT id 0)):=by
  intro mid;obtain ⟨_,_,_,rfl⟩:=iD;obtain ⟨_,_,_,rfl⟩:=iR;obtain ⟨_,_,_,rfl⟩:=iT;rfl
 have lenT:=ht.len;have hrt:ki p=true→(∀ s ∈ zl p,s.length≤1000)∧(zl p).length≤1000:=zk8;replace hbl:=za hbl;replace hx3:=za hx3;replace l3:=za l3;replace hd:=za hd;replace hr:=za hr;replace ht:=za ht;replace hret:=za hret;replace store:=za store;replace lh1:=za lh1;replace lh2:=za lh2;replace lh3:=za lh3;replace hrt:=za hrt;clear iD iR iT;refine yw4 (k:=2) (j:=3) ok48 rfl rfl rfl fun N=>?_;rw [Yo c48 und22q rfl];delta c48 Vp Vo Vn Vm Vl Vk;replace hq:=za hq;clear hq;rw [hR];simp only [zb,aR,yb, *];refine Right_c hx3.h _ fun h4 l4=>?_;have g14:=l4.get gb13;have g24:=l4.get gb23;have g34:=l4.get gb3;have l04:=l3.h.trans l4;cases hrp:ki p with
 | false =>
  obtain ⟨hU,hV,s1,s2,lV,gV2,gV3⟩:=store.h h4 1 l04 g24 g34;have g:=fun a b=>hret.h hV 1 0 0 a b (.inl ⟨hrp,rfl,rfl,rfl⟩) lV gV2 gV3;replace g:=za g;replace l4:=za l4;replace l04:=za l04;replace lV:=za lV;simp only [zb,aW,pb0, *];exact g.h _ _
 | true =>
  obtain ⟨hnl,hnn⟩:=hrt.h hrp;have hst:=Zy hrp;have hl3:=qk hrp;have gM:=Heap.get_alloc_same h4 (.map [] true);have lM:=(Heap.le.refl h4).alloc (.map [] true);obtain ⟨mid,emid⟩:∃ x,h4.next=x:=⟨_,rfl⟩;obtain ⟨hM,ehM⟩:∃ x,h4.alloc (.map [] true)=x:=⟨_,rfl⟩;rw [ehM] at gM lM;rw [emid] at gM;have pb:=pb1 mid;have bx:=bx5 mid;obtain ⟨q,h5,eq,eh5,gq,lh5⟩:=zj hM [iI p.harts,d,r,t,.map (some mid)];have st4:zt 1 (h5.alloc (.blk [.pointer none] true)) [pT h5.next 0,ptr q]=some (udq,h5.alloc (.blk [ptr q] true)):=zx rfl rfl rfl rfl;obtain ⟨b4,h6,eb4,eh6,gb4,lh6⟩:=zj h5 [ptr q];rw [eh6,eb4] at st4;have l46:=(lM.trans lh5).trans lh6;have g16:=l46.get g14;have g26:=l46.get g24;have g36:=l46.get g34;have gq6:=lh6.get gq;have gM6:=lh6.get (lh5.get gM);have l06:=l04.trans l46;have hd6:=hd.h.monoB l06.v.b;have hr6:=hr.h.monoB l06.v.b;have ht6:=ht.h.monoB l06.v.b;have nmid:h.next≤mid:=by have:=l04.next;omega
  clear g24 g34 gq gM gb13 gb23 gb3 pb1 bx5;replace hnl:=za hnl;replace hnn:=za hnn;replace hst:=za hst;replace hl3:=za hl3;replace l4:=za l4;replace l04:=za l04;replace lM:=za lM;replace lh5:=za lh5;replace lh6:=za lh6;replace l46:=za l46;replace l06:=za l06;replace hd6:=za hd6;replace hr6:=za hr6;replace ht6:=za ht6;simp only [zb,aR,aW,yb, *];refine yv4 gq6 hd6.h hr6.h ht6.h gM6 hnl.h hnn.h _ fun h7 l7 ck=>?_;have b67:=l7.b gM6;have g17:=b67 _ _ _ g16;have g27:=b67 _ _ _ g26;have g37:=b67 _ _ _ g36;have g47:=b67 _ _ _ gb4;have l07:h.le h7:=⟨fun i o hi=>by
   have h1:=l06.h.get hi;rw [l7.get i (by have:=Heap.lt_of_get hi;omega) (by rw [h1];rfl)];exact h1,Nat.le_trans l06.h.next l7.next⟩
  clear g16 g26 g36 gb4 gq6 gM6;cases hnd:decide (zl p).Nodup with
  | false =>
   obtain ⟨hU,hV,s1,s2,lV,gV2,gV3⟩:=store.h h7 80 l07 g27 g37;have g:=fun a b=>hret.h hV 80 0 0 a b (.inr (.inl ⟨hrp,by simpa using hnd,rfl,rfl,rfl⟩)) lV gV2 gV3;replace g:=za g;replace l7:=za l7;replace l07:=za l07;replace lV:=za lV;replace ck:=za ck;replace b67:=za b67;simp only [zb,aW,pb0, *];exact g.h _ _
  | true =>
   have hnd' : (zl p).Nodup:=by simpa using hnd
   have hlen:p.tasks.length≤1000:=by have:=hl3.h;omega
   replace l7:=za l7;replace l07:=za l07;replace ck:=za ck;replace b67:=za b67;simp only [zb,aR, *];refine heads_w (own:=true) ck.h l07.h n2 n3 n23 g27 g37 g47 hlen _ (fun ho h8 x5 x6 x15 l8=>?_) (fun h8 i x5 x6 x14 x15 hi hne hlt lle gh2 gh3=>?_)
   ·have g18:=l8.get g17;have g28:=l8.get g27;have g38:=l8.get g37;have g48:=l8.get g47;have ck8:=ck.h.mono l8.v;have l08:=l07.h.trans l8;replace ho:=za ho;replace l8:=za l8;replace ck8:=za ck8;replace l08:=za l08;simp only [zb,aR, *];refine bodies_w ck8.h l08.h n2 n3 n23 g28 g38 g48 hlen hbl.h hst.h _ (fun hok h9 x7 x8 x9 x19 x20 l9=>?_) (fun h9 i k e x7 x8 x9 x18 x19 x20 hi hbad hlt lle gh2 gh3=>?_)
    ·have l09:=l08.h.trans l9;obtain ⟨hU,hV,s1,s2,lV,gV2,gV3⟩:=store.h h9 0 l09 (l9.get g28) (l9.get g38);have g:=fun a b=>hret.h hV 0 0 0 a b (.inr (.inr (.inr (.inr ⟨hrp,hnd',ho.h,hok,rfl,rfl,rfl⟩)))) lV gV2 gV3;replace g:=za g;replace hok:=za hok;replace l9:=za l9;replace l09:=za l09;replace lV:=za lV;simp only [zb,aW,pb0, *];exact g.h _ _
    ·have g:=fun a b=>hret.h h9 e i k a b (.inr (.inr (.inr (.inl ⟨hrp,hnd',ho.h,i,k,hi,hbad,hlt,rfl,rfl⟩)))) lle gh2 gh3;replace g:=za g;replace hbad:=za hbad;replace lle:=za lle;replace hlt:=za hlt;simp only [zb, *];exact g.h _ _
   ·have g:=fun a b=>hret.h h8 (wx p i) i 0 a b (.inr (.inr (.inl ⟨hrp,hnd',i,hi,hne,hlt,rfl,rfl,rfl⟩))) lle gh2 gh3;replace g:=za g;replace hlt:=za hlt;replace lle:=za lle;simp only [zb, *];exact g.h _ _
section
variable {p:Prg}{nm:List (lBq)}
variable (p nm) in
def zj6 (hs:List (lBq)) (ss:List St):Prop:=∀ x ∈ zy hs ss,We p nm x.2 x.1=0
variable (p nm) in
def okS (hs:List (lBq)) (s:St):Prop:=∀ x ∈ Qp hs s,We p nm x.2 x.1=0
theorem zo1 {x:St × List (lBq)}{hs:List (lBq)}{s:St}(hx:x ∈ Qp hs s):∀ {ss:List St},s ∈ ss→x ∈ zy hs ss
 | [],h=>by simp at h
 | a::r,h=>by
  simp only [zy,List.mem_append];rcases List.mem_cons.1 h with rfl | h
  ·exact .inl hx
  ·exact .inr (zo1 hx h)
theorem Kj {hs:List (lBq)}{ss:List St}:zj6 p nm hs ss ↔ ∀ s ∈ ss,okS p nm hs s :=
 ⟨fun h s hs' x hx=>h x (zo1 hx hs'),fun h x hx=>let ⟨s,h1,h2⟩:=Zh hx;h s h1 x h2⟩
theorem yo9 {hs:List (lBq)}{s:St}:okS p nm hs s↔We p nm hs s=0∧zj6 p nm (if s.kind=5 then hs++[s.name] else hs) s.thn∧zj6 p nm hs s.els:=by
 unfold okS zj6;rw [Zi];simp only [List.mem_cons,List.mem_append];constructor
 ·exact fun h=>⟨h _ (.inl rfl),fun x hx=>h x (.inr (.inl hx)),fun x hx=>h x (.inr (.inr hx))⟩
 ·rintro ⟨h1,h2,h3⟩ x (rfl | hx | hx)
  ·exact h1
  ·exact h2 x hx
  ·exact h3 x hx
theorem okSs_nil {hs:List (lBq)}:zj6 p nm hs []:=fun x hx=>by simp [zy] at hx
end
theorem StG.kids {s:St}{d:Nat}(h:StG s (d + 1)):(s.thn.length≤3 ∧ ∀ x ∈ s.thn,StG x d)∧s.els.length≤3 ∧ ∀ x ∈ s.els,StG x d:=by
 cases h<;>simp_all [St.thn,St.els]
theorem Qo {hs:List (lBq)}{b:Nat}:∀ {ss:List St},(∀ s ∈ ss,(Qp hs s).length≤b)→(zy hs ss).length≤ss.length * b
 | [],_=>by simp [zy]
 | s::r,h=>by
  have h1:=h s (by simp);have h2:=Qo (ss:=r) fun x hx=>h x (by simp [hx]);simp only [zy,List.length_append,List.length_cons,Nat.add_mul,Nat.one_mul];omega
def bdS:Nat→Nat | 0=>0 | d + 1=>1 + 6 * bdS d
theorem ze7:∀ (d:Nat) (s:St) (hs:List (lBq)),StG s d→(Qp hs s).length≤bdS d
 | 0,s,hs,h=>by cases h
 | d + 1,s,hs,h=>by
  obtain ⟨⟨a1,a2⟩,b1,b2⟩:=h.kids;rw [Zi];simp only [List.length_cons,List.length_append,bdS];have h1:=Qo (hs:=if s.kind=5 then hs++[s.name] else hs) fun x hx=>ze7 d x (if s.kind=5 then hs++[s.name] else hs) (a2 x hx);have h2:=Qo (hs:=hs) fun x hx=>ze7 d x hs (b2 x hx);have h3:s.thn.length * bdS d≤3 * bdS d:=Nat.mul_le_mul_right _ a1;have h4:s.els.length * bdS d≤3 * bdS d:=Nat.mul_le_mul_right _ b1;omega
theorem ys9 {p:Prg}(hg:p.good):∀ tk ∈ p.tasks,(zy [] tk.body).length≤1000:=fun tk h=>by
 have hb:=hg.tasks tk h;have h1:=Qo (hs:=[]) fun x hx=>ze7 4 x [] (hb.body x hx);have h2:tk.body.length * bdS 4≤3 * bdS 4:=Nat.mul_le_mul_right _ hb.len;have h3:bdS 4=259:=rfl;omega
section
variable {p:Prg}{nd nr H nh:Nat}
end
mutual
def Kr:St→Nat
 | .mk _ _ _ _ _ t e=>1 + ye t + ye e
def ye:List St→Nat
 | []=>0
 | s::r=>Kr s + ye r
end
mutual
theorem yv5 (hs:List (lBq)):∀ (s:St),(Qp hs s).length=Kr s
 | .mk k m f n a t e=>by
  simp only [Qp,List.length_cons,List.length_append,Kr];rw [wz _ t,wz _ e];omega
theorem wz (hs:List (lBq)):∀ (l:List St),(zy hs l).length=ye l
 | []=>rfl
 | s::r=>by simp only [zy,List.length_append,ye];rw [yv5 hs s,wz hs r]
end
theorem Vi:∀ (a b:List St),ye (a++b)=ye a + ye b
 | [],b=>by simp [ye]
 | s::a,b=>by simp only [List.cons_append,ye,Vi a b];omega
section
variable {p:Prg}{nm:List (lBq)}
end
end Go.Eng.Sy
