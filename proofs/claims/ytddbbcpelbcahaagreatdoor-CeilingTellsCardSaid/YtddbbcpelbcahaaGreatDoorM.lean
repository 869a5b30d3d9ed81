/-
  Part of a proof of the laws of layer 09 (ceiling): the laws.
  Conditions: none.
-/
import Derived.Test.YtddbbcpelbcahaaGreatDoorEc
import Derived.Test.YtddbbcpelbcahaaGreatDoorProg
import Derived.KernelRfl
import Derived.Test.YtddbbcpelbcahaaGreatDoorKb
import Derived.Test.YtddbbcpelbcahaaGreatDoorBx
set_option linter.unusedSimpArgs false
set_option linter.unusedVariables false
namespace Go.Eng.Sy
open Go Go.Eng Go.Proofs
section
set_option maxRecDepth 100000
noncomputable def yx9:CCode:=(sqq (rcq [E 0 11,E 1 9,a7 2,ay 3 2] [] 0 .skip (.exit 2)) (sqq (.block 3 (rcq [E 0 9,E 1 11,a6 2 1 1 0,O 3,E 4 10,E 5 11,a6 6 1 1 0,O 7,aj 8 14 4,b5 9] [] 0 (srq [aa 0] [(6,0)] .ret) .skip)) (.reg [E 0 11,af 1,M 2 0] [(11,0)])))
noncomputable def yx8:CCode:=(srq [ba 0 20 19] [(21,0)] (sqq (.cond (.v 21) .skip (.exit 4)) (sqq (.block 5 (srq [cd 0 1 18 20,O 1,M 2 0] [(12,0)] (rcq [Z 0 4 8,E 1 12,E 2 3,E 3 5,⟨4,.call 16,[.t 3,.t 2,.t 1,.t 0],none,true⟩,Z 5 4 8,E 6 12,E 7 3,E 8 5,fk 9 17 3 2 1,ff 10 5,M 11 0,fm 12 8 0,au 13 12 1,au 14 3 2,⟨15,.call 18,[.t 2,.t 1,.t 0],some (3,false),true⟩,fm 16 8 4,au 17 12 5,au 18 3 6,ip 19 19 7,gv 20 14 4 8,d9 21 9,ak 22 10,M 23 0,fm 24 8 0,au 25 12 1,⟨26,.call 20,[.t 1,.t 0],some (2,false),true⟩,fm 27 8 3,au 28 12 4,gv 29 21 1 5,gu 30 3 6,ak 31 7] [] 0 (srq [aa 0] [(6,0)] .ret) .skip))) (.reg [bc 0 20,M 1 0] [(20,0)]))))
noncomputable def yx7:CCode:=(srq [ba 0 24 23] [(25,0)] (sqq (.cond (.v 25) .skip (.exit 6)) (sqq (.block 7 (srq [cd 0 1 22 24,O 1,M 2 0] [(13,0)] (rcq [Z 0 4 8,E 1 13,fc 2 22 1,Z 3 4 8,E 4 13,aj 5 23 1,aj 6 14 3,b5 7] [] 0 (srq [aa 0] [(6,0)] .ret) .skip))) (.reg [bc 0 24,M 1 0] [(24,0)]))))
noncomputable def c3_l32:CCode:=(srq [ba 0 16 15] [(17,0)] (sqq (.cond (.v 17) .skip (.exit 0)) (sqq (.block 1 (srq [cd 0 4 14 16,b7 1 4,f8 2,ah 3 4 0 1] [(8,1)] (srq [Z 0 4 8,av 1 12,M 2 0] [(9,0)] (srq [Z 0 4 8,av 1 13,M 2 0] [(10,0)] (sqq (rcq [E 0 9,a7 1,E 2 10,a7 3,ff 4 2] [] 0 (srq [aa 0] [(6,0)] .ret) .skip) (sqq (srq [Y 0 0] [(11,0)] (.block 2 (.loop yx9))) (sqq (srq [E 0 2,E 1 2,b8 2 15 4,jm 3,a7 4,Y 5 0] [(18,2),(19,1),(20,0)] (.block 4 (.loop yx8))) (srq [E 0 4,E 1 4,b8 2 15 8,jm 3,a7 4,Y 5 0] [(22,2),(23,1),(24,0)] (.block 6 (.loop yx7)))))))))) (.reg [bc 0 16,M 1 0] [(16,0)]))))
noncomputable def c3:CFn:=⟨6,[0,1,2,3,4,5,12,13,15,16,17,18,20,22,33,34,35,36,67,68,69,70,109,110,111,112],(srq [aa 0] [(6,0)] (srq [⟨0,.call 9,[],none,false⟩,M 1 0] [(7,0)] (sqq (rcq [E 0 5,a7 1,cu 2 20] [] 0 (.reg [E 0 5,gw 1 20,M 2 0] [(5,0)]) .skip) (sqq (srq [E 0 0,av 1 10,E 2 1,⟨3,.call 11,[.t 0,.c (.bool false)],none,false⟩,⟨4,.a (.bslice [iI 0,nSq,nSq,nSq,iI 0,nSq,nSq,nSq] [(0,4),(4,4)] 2 4),[.t 2,.t 0],none,false⟩,a7 5,Y 6 0] [(14,2),(15,1),(16,0)] (.block 0 (.loop c3_l32))) (srq [E 0 7,M 1 0] [(6,0)] .ret))))),[.var 6]⟩
theorem ok3:FnOk Tryz.prog 3 c3:=yn (by kernel_rfl)
end
theorem yn6 (c n:Int) (hn:n≠0) (h:Heap) (Q:vPq) (hq:∀ z,Q (iI z) h):CallW Tryz.prog 15 [iI c,iI n] h Q:=by
 refine zg (k:=2) ok15 rfl rfl rfl fun N=>?_;rw [wn c15 kv rfl];delta c15;replace hq:=za hq;have hq1:c < 0→Q (iI ((IntKind.i64.wrap (0 - IntKind.i64.wrap (c + 1))).tmod n)) h:=fun hc=>hq.h _;have hq2:¬ c < 0→Q (iI (c.tmod n)) h:=fun hc=>hq.h _;replace hq1:=Hid.mk hq1;replace hq2:=Hid.mk hq2;clear hq;repeat' (first | simp only [zb,ze,zf, *] | with_reducible (first | refine kcd ?_ ?_ | refine kgd ?_ ?_ | refine kci ?_ ?_ | refine kgi ?_ ?_)<;>intro hc)
 ·exact hq1.h (by assumption)
 ·exact hq2.h (by assumption)
theorem zt7 {h:Heap}{v w:Value}{l:List Int}(hv:Ints h v l) (hw:Ints h w l) (hl:l.length≤1000000) (Q:vPq) (hq:Q (.bool true) h):CallW Tryz.prog 14 [v,w] h Q:=by
 have lv:=Ints.len hv;have lw:=Ints.len hw;have ne:((l.length:Int) != (l.length:Int))=false:=by simp
 replace hv:=za hv;replace hw:=za hw;refine zg (k:=2) ok14 rfl rfl rfl fun N=>?_;rw [wn c14 Zm rfl];delta c14;replace hq:=za hq;simp only [zb,ze,zf, *];refine LoopW.upto l.length (fun i e hX=>hX=h∧e=[v,w,.bool false,iI (i:Int)]) ?_ (Nat.zero_le _) ⟨rfl,rfl⟩;rintro i _ hE R hi ⟨hE2,rfl⟩ hR;replace hE2:=hE2.symm;subst hE2;delta c14_l8;by_cases hlt:i < l.length
 case neg =>
  have hlt' : ¬ (i:Int) < l.length:=by omega
  clear hR;simp only [zb,ze,zf, *];exact hq.h
 have hlt' : (i:Int) < l.length:=by omega
 have hwi:IntKind.i64.wrap ((i:Int) + 1)=((i + 1:Nat):Int):=by rw [zn (by omega) (by omega)];rfl
 obtain ⟨z,hz⟩:∃ z,l[i]? = some z:=⟨_,List.getElem?_eq_getElem hlt⟩;obtain ⟨id,off,cells,own,e1,e2,e3⟩:=Ints.elem hv.h hz;obtain ⟨id2,off2,cells2,own2,f1,f2,f3⟩:=Ints.elem hw.h hz;have nz:(z != z)=false:=by simp
 have g:=hR.h [v,w,.bool false,iI ((i + 1:Nat):Int)] h hlt ⟨rfl,rfl⟩;clear hR hq;replace g:=za g;replace hz:=za hz;simp only [zb,aR,ze,zf, *];exact g.h
theorem bs_2i (a b:Int):yj [iI 0,iI 0] [(0,1),(1,1)] 2 1 [iI a,iI b]=some ([iI a,iI b],fun id=>.slice (some ⟨id,0,none⟩) 2 1):=ql rfl rfl rfl (by simp [Value.cells,Value.oneCell'])
section
variable {N:Nat}{vars:List Nat}{x0 x1 x2 x3 x4 x5 x6 x7 x8 x9 x10 x11 x12 x13 x14 x15 x16 x17 x18 x19 x20 x21 x22 x23 x24 x25:Value}
theorem tl_rows {h:Heap}{c d:Value}{rows:List (List Int)}(hc:IIs h c rows) (hd:IIs h d rows) (hl:rows.length≤1000) (hr:∀ r ∈ rows,r.length≤1000) (RQ:AExit→lVq→Heap→Prop)
  (hq:∀ y11,RQ (.exit 2) [x0,x1,x2,x3,x4,x5,x6,x7,x8,c,d,y11,x12,x13,x14,x15,x16,x17,x18,x19,x20,x21,x22,x23,x24,x25] h) :
  LoopW Tryz.prog N vars yx9 [x0,x1,x2,x3,x4,x5,x6,x7,x8,c,d,iI 0,x12,x13,x14,x15,x16,x17,x18,x19,x20,x21,x22,x23,x24,x25] h RQ:=by
 have lc:=hc.len;replace hc:=za hc;replace hd:=za hd;replace hr:=za hr;replace hq:=za hq;refine LoopW.upto rows.length (fun i e hX=>hX=h∧e=[x0,x1,x2,x3,x4,x5,x6,x7,x8,c,d,iI (i:Int),x12,x13,x14,x15,x16,x17,x18,x19,x20,x21,x22,x23,x24,x25]) ?_ (Nat.zero_le _) ⟨rfl,rfl⟩;rintro i _ hE R hi ⟨hE2,rfl⟩ hR;replace hE2:=hE2.symm;subst hE2;delta yx9;by_cases hlt:i < rows.length
 case neg =>
  have hlt' : ¬ (i:Int) < rows.length:=by omega
  have g:=hq.h (iI (i:Int));clear hR hq;replace g:=za g;simp only [zb,ze,zf, *];exact g.h
 have hlt' : (i:Int) < rows.length:=by omega
 have hwi:IntKind.i64.wrap ((i:Int) + 1)=((i + 1:Nat):Int):=by rw [zn (by omega) (by omega)];rfl
 obtain ⟨r,hrr⟩:∃ z,rows[i]? = some z:=⟨_,List.getElem?_eq_getElem hlt⟩;obtain ⟨id,off,cells,own,v,e1,e2,e3,hv⟩:=hc.h.elem hrr;obtain ⟨id2,off2,cells2,own2,w,f1,f2,f3,hw⟩:=hd.h.elem hrr;have hrl:=hr.h r (List.mem_of_getElem? hrr);have g:=hR.h _ h hlt ⟨rfl,rfl⟩;clear hR hq;replace g:=za g;replace hrr:=za hrr;replace hv:=za hv;replace hw:=za hw;simp only [zb,aR,ze,zf, *];refine zt7 hv.h hw.h (by omega) _ ?_;simp only [zb,ze,zf, *];exact g.h
theorem tl_h {h:Heap}{q:Nat}{p:Prg}{y:lVq}{lev a b:Int}{hv hs:Value}{l:List Int}(gq:h.get q=some (.blk y true)) (hy:PrC h p y) (sz:p.sz) (hh:Ints h hv l) (hl:l.length≤1000) (hi:Ints h hs [a,b]) (RQ:AExit→lVq→Heap→Prop)
  (hq:∀ h' y12 y20 y21,h.le h' → RQ (.exit 4) [x0,x1,x2,iI lev,x4,hv,x6,x7,ptr q,x9,x10,x11,y12,x13,x14,x15,x16,x17,hs,iI 2,y20,y21,x22,x23,x24,x25] h') :
  LoopW Tryz.prog N vars yx8 [x0,x1,x2,iI lev,x4,hv,x6,x7,ptr q,x9,x10,x11,x12,x13,x14,x15,x16,x17,hs,iI 2,iI 0,x21,x22,x23,x24,x25] h RQ:=by
 have lt:=(qk (p:=p));have ly:y.length=4:=by obtain ⟨d,r,t,rfl,_⟩:=hy;rfl
 have py:qu true 0 4 y=some (.agg y.toArray):=by
  simp only [qu,List.drop_zero,if_true];rw [if_pos (by omega),List.take_of_length_le (by omega)]
 replace hy:=za hy;replace sz:=za sz;replace hh:=za hh;replace hi:=za hi;replace hq:=za hq;replace ly:=za ly;replace lt:=za lt;refine LoopW.upto 2 (fun i e hX=>h.le hX ∧ ∃ y12 y21,e=[x0,x1,x2,iI lev,x4,hv,x6,x7,ptr q,x9,x10,x11,y12,x13,x14,x15,x16,x17,hs,iI 2,iI (i:Int),y21,x22,x23,x24,x25]) ?_ (Nat.zero_le _) ⟨Heap.le.refl _,_,_,rfl⟩;rintro i _ h1 R hi2 ⟨l1,y12,y21,rfl⟩ hR;have gq1:=l1.get gq;delta yx8;by_cases hlt:i < 2
 case neg =>
  have hlt' : ¬ (i:Int) < 2:=by omega
  have g:=fun y21=>hq.h h1 y12 (iI (i:Int)) y21 l1;clear hR hq;replace g:=za g;replace l1:=za l1;simp only [zb,ze,zf, *];exact g.h _
 have hlt' : (i:Int) < 2:=by omega
 have hwi:IntKind.i64.wrap ((i:Int) + 1)=((i + 1:Nat):Int):=by rw [zn (by omega) (by omega)];rfl
 obtain ⟨z,hz⟩:∃ z,[a,b][i]? = some z:=⟨_,List.getElem?_eq_getElem (by simpa using hlt)⟩;obtain ⟨id,off,cells,own,e1,e2,e3⟩:=Ints.elem (SlV.mono l1 hi.h) hz;have hy1:=hy.h.mono l1;have hh1:=SlV.mono l1 hh.h;clear gq;replace l1:=za l1;replace hz:=za hz;replace hy1:=za hy1;replace hh1:=za hh1;simp only [zb,aR,ze,zf, *];refine cLevel_c hy1.h sz.h z lev hh1.h (by omega) _ fun h2 l2=>zb9 l2.ext ?_;have gq2:=l2.get gq1;have hy2:=hy1.h.mono l2;have hh2:=SlV.mono l2 hh1.h;obtain ⟨lv,hlv⟩:∃ n,levS p z lev l=n:=⟨_,rfl⟩;rw [hlv];replace l2:=za l2;replace hy2:=za hy2;replace hh2:=za hh2;replace hlv:=za hlv;simp only [zb,aR, *];refine rLevel_c hy2.h sz.h z lev hh2.h (by omega) _ fun h3 l3=>?_;have gq3:=l3.get gq2;have hy3:=hy2.h.mono l3;rw [hlv.h];have n1:(lv != lv)=false:=by simp
 replace l3:=za l3;replace hy3:=za hy3;simp only [zb,aR,ze,zf, *];refine yw5 hy3.h sz.h z lev _ fun h4 w4 l4 hw4=>zb9 l4.ext ?_;have gq4:=l4.get gq3;have hy4:=hy3.h.mono l4;replace l4:=za l4;replace hy4:=za hy4;replace hw4:=za hw4;simp only [zb,aR, *];refine yn2 hy4.h sz.h z lev _ fun h5 w5 l5 hw5=>?_;have gq5:=l5.get gq4;have hy5:=hy4.h.mono l5;have hsl:(yj3 p z lev).length≤1000000:=by
  unfold yj3;split
  ·rename_i hc;have h1:=yl2 p z lev;have h2:=(lt.h (qy.1 hc.1).1).2.2;omega
  ·simp
 replace l5:=za l5;replace hy5:=za hy5;replace hw5:=za hw5;simp only [zb, *];refine zt7 (SlV.mono l5.h hw4.h) hw5.h hsl _ ?_;simp only [zb,aR, *];refine cChain_c hy5.h sz.h z _ fun h6 l6=>zb9 l6.ext ?_;have gq6:=l6.get gq5;have hy6:=hy5.h.mono l6;obtain ⟨cn,hcn⟩:∃ n,yv9 p z=n:=⟨_,rfl⟩;rw [hcn];replace l6:=za l6;replace hy6:=za hy6;replace hcn:=za hcn;simp only [zb,aR, *];refine rChain_c hy6.h sz.h z _ fun h7 l7=>?_;rw [hcn.h];have n2:((cn:Int) != (cn:Int))=false:=by simp
 have g:=fun y12 y21=>hR.h [x0,x1,x2,iI lev,x4,hv,x6,x7,ptr q,x9,x10,x11,y12,x13,x14,x15,x16,x17,hs,iI 2,iI ((i + 1:Nat):Int),y21,x22,x23,x24,x25] h7 hlt ⟨l1.h.trans (l2.h.trans (l3.h.trans (l4.h.trans (l5.h.trans (l6.h.trans l7))))),y12,y21,rfl⟩;clear hR hq hsl;replace g:=za g;replace l7:=za l7;simp only [zb,ze,zf, *];exact g.h _ _
theorem tl_t {h:Heap}{q:Nat}{p:Prg}{y:lVq}{a b:Int}{ts:Value}(gq:h.get q=some (.blk y true)) (hy:PrC h p y) (sz:p.sz) (hi:Ints h ts [a,b]) (RQ:AExit→lVq→Heap→Prop)
  (hq:∀ h' y13 y24 y25,h.le h' → RQ (.exit 6) [x0,x1,x2,x3,x4,x5,x6,x7,ptr q,x9,x10,x11,x12,y13,x14,x15,x16,x17,x18,x19,x20,x21,ts,iI 2,y24,y25] h') :
  LoopW Tryz.prog N vars yx7 [x0,x1,x2,x3,x4,x5,x6,x7,ptr q,x9,x10,x11,x12,x13,x14,x15,x16,x17,x18,x19,x20,x21,ts,iI 2,iI 0,x25] h RQ:=by
 have lt:=(qk (p:=p));have ly:y.length=4:=by obtain ⟨d,r,t,rfl,_⟩:=hy;rfl
 have py:qu true 0 4 y=some (.agg y.toArray):=by
  simp only [qu,List.drop_zero,if_true];rw [if_pos (by omega),List.take_of_length_le (by omega)]
 replace hy:=za hy;replace sz:=za sz;replace hi:=za hi;replace hq:=za hq;replace ly:=za ly;replace lt:=za lt;refine LoopW.upto 2 (fun i e hX=>h.le hX ∧ ∃ y13 y25,e=[x0,x1,x2,x3,x4,x5,x6,x7,ptr q,x9,x10,x11,x12,y13,x14,x15,x16,x17,x18,x19,x20,x21,ts,iI 2,iI (i:Int),y25]) ?_ (Nat.zero_le _) ⟨Heap.le.refl _,_,_,rfl⟩;rintro i _ h1 R hi2 ⟨l1,y13,y25,rfl⟩ hR;have gq1:=l1.get gq;delta yx7;by_cases hlt:i < 2
 case neg =>
  have hlt' : ¬ (i:Int) < 2:=by omega
  have g:=fun y25=>hq.h h1 y13 (iI (i:Int)) y25 l1;clear hR hq;replace g:=za g;replace l1:=za l1;simp only [zb,ze,zf, *];exact g.h _
 have hlt' : (i:Int) < 2:=by omega
 have hwi:IntKind.i64.wrap ((i:Int) + 1)=((i + 1:Nat):Int):=by rw [zn (by omega) (by omega)];rfl
 obtain ⟨z,hz⟩:∃ z,[a,b][i]? = some z:=⟨_,List.getElem?_eq_getElem (by simpa using hlt)⟩;obtain ⟨id,off,cells,own,e1,e2,e3⟩:=Ints.elem (SlV.mono l1 hi.h) hz;have hy1:=hy.h.mono l1;clear gq;replace l1:=za l1;replace hz:=za hz;replace hy1:=za hy1;simp only [zb,aR,ze,zf, *];refine cLocks_c hy1.h sz.h z _ fun h4 w4 l4 hw4=>zb9 l4.ext ?_;have gq4:=l4.get gq1;have hy4:=hy1.h.mono l4;replace l4:=za l4;replace hy4:=za hy4;replace hw4:=za hw4;simp only [zb,aR, *];refine rLocks_c hy4.h sz.h z _ fun h5 w5 l5 hw5=>?_;have hsl:(yj6 p z).length≤1000000:=by
  unfold yj6;split
  ·rename_i hc;refine Nat.le_trans (Uy _ _ _) ?_;have h2:=(lt.h (qy.1 hc.1).1).2.1;omega
  ·simp
 have g:=fun y13 y25=>hR.h [x0,x1,x2,x3,x4,x5,x6,x7,ptr q,x9,x10,x11,x12,y13,x14,x15,x16,x17,x18,x19,x20,x21,ts,iI 2,iI ((i + 1:Nat):Int),y25] h5 hlt ⟨l1.h.trans (l4.h.trans l5),y13,y25,rfl⟩;clear hR hq;replace g:=za g;replace l5:=za l5;replace hw5:=za hw5;simp only [zb, *];refine zt7 (SlV.mono l5.h hw4.h) hw5.h hsl _ ?_;simp only [zb,ze,zf, *];exact g.h _ _
end
theorem st_Pq (h:Heap){p:Prg}{x:lVq}(hx:PrC h p x):zt 4 (h.alloc (.blk zP true)) [pT h.next 0,.agg x.toArray]=some (udq,h.alloc (.blk x true)):=by
 obtain ⟨d,r,t,rfl,hd,hr,ht⟩:=hx;exact zx rfl rfl rfl (by simpa [Value.oneCell'] using ⟨hd.one,hr.one,ht.one⟩)
theorem PrC.ones {h:Heap}{p:Prg}{x:lVq}(hx:PrC h p x):x.length=4∧x.all (·.oneCell')=true:=by
 obtain ⟨d,r,t,rfl,hd,hr,ht⟩:=hx;exact ⟨rfl,by simpa [Value.oneCell'] using ⟨hd.one,hr.one,ht.one⟩⟩
theorem bs_pr2 {x y:lVq}(hx:x.length=4∧x.all (·.oneCell')=true) (hy:y.length=4∧y.all (·.oneCell')=true) :
  yj [iI 0,nSq,nSq,nSq,iI 0,nSq,nSq,nSq] [(0,4),(4,4)] 2 4 [.agg x.toArray,.agg y.toArray]=some (x++y,fun id=>.slice (some ⟨id,0,none⟩) 2 4):=by
 have four:∀ {l:lVq},l.length=4 → ∃ a b c d,l=[a,b,c,d]:=fun {l} h=>by
  match l,h with
  | [a,b,c,d],_=>exact ⟨a,b,c,d,rfl⟩
 obtain ⟨x1,x2,x3,x4,rfl⟩:=four hx.1;obtain ⟨y1,y2,y3,y4,rfl⟩:=four hy.1;have e1:=hx.2;have e2:=hy.2;simp only [List.all_cons,List.all_nil,Bool.and_true,Bool.and_eq_true] at e1 e2;simp [yj,Zj,Value.cells,e1,e2]
theorem rowS_bd (p:Prg):(zc6 p).length≤1000 ∧ ∀ r ∈ zc6 p,r.length≤1000:=by
 unfold zc6;split
 ·rename_i hc;have ho:=qy.1 hc;have h1:=(vz ho.1).1;have h2:=(qk ho.1).2.1;refine ⟨by rw [List.length_map,List.length_range];omega,fun r hr=>?_⟩;obtain ⟨a,_,rfl⟩:=List.mem_map.1 hr;rw [List.length_map,List.length_range];omega
 ·exact ⟨by simp,by simp⟩
set_option maxHeartbeats 2000000 in
theorem zv1 {h:Heap}{v0 v1 v5:Value}{wild raw held:List Int}(h0:Ints h v0 wild) (i0:∀ z ∈ wild,inI z) (h1:Ints h v1 raw) (i1:∀ z ∈ raw,inI z) (h5:Ints h v5 held) (hart lev task:Int) (Q:vPq) (hq:∀ h',Q (.bool true) h') :
  CallW Tryz.prog 3 [v0,v1,iI hart,iI lev,iI task,v5] h Q:=by
 obtain ⟨vh,hvh,hcase⟩:=yv1 h5 (Heap.le.refl h) 20;rw [show ((20:Nat):Int)=20 from rfl] at hcase;have lv:=Ints.len h5;have hl20:(held.take 20).length≤1000:=by rw [List.length_take];omega
 clear h5;replace h0:=za h0;replace i0:=za i0;replace h1:=za h1;replace i1:=za i1;replace hvh:=za hvh;replace hcase:=za hcase;refine zg (k:=6) ok3 rfl rfl rfl fun N=>?_;rw [ev6q c3 und20q rfl];delta c3;replace hq:=za hq;simp only [zb, *];refine awake_c _ _ ?_;refine cut2 (G:=?G) ?b ?main
 case b =>
  intro main;rcases hcase.h with ⟨z,e⟩ | ⟨z,rfl⟩
  ·simp only [zb,ze,zf, *];first | done | exact main
  ·simp only [zb,ze,zf, *];first | done | exact main
 case main =>
 clear hcase lv;refine Wild_c h0.h i0.h _ fun hB g1 y1 lB hy1 ok1 sz1=>?_;have a1:=SlV.mono lB h1.h;have a5:=SlV.mono lB hvh.h;clear h1 hvh h0 i0 lB;replace a1:=za a1;replace a5:=za a5;replace hy1:=za hy1;replace ok1:=za ok1;replace sz1:=za sz1;simp only [zb, *];refine Prog_c a1.h i1.h false _ fun hE d r t xs lE hmd=>?_;have good:=Jk raw false;obtain ⟨p,hp⟩:∃ p,Ud raw false=p:=⟨_,rfl⟩;rw [hp] at hmd good;rw [hp];have szp:p.sz:=fun tk htk=>by
  have:=ys9 good tk htk;rw [wz] at this;omega
 have xp:=hmd.prc;have x1:=hy1.h.mono lE;have a5:=SlV.mono lE a5.h;have bs:=bs_pr2 x1.ones xp.ones;obtain ⟨yp,eyp⟩:∃ y:lVq,[Value.int .i64 p.harts,d,r,t]=y:=⟨_,rfl⟩;have agp:Value.agg #[Value.int .i64 p.harts,d,r,t] = .agg yp.toArray:=by rw [← eyp]
 rw [eyp] at xp bs;have sl:=SlV.new hE (s:=4) (xs:=[y1,yp]) (fun x hx=>by
  simp only [List.mem_cons,List.not_mem_nil,or_false] at hx;rcases hx with rfl | rfl
  ·exact x1.ones.1
  ·exact xp.ones.1) (cells:=y1++yp) (by simp) (n:=2) rfl
 obtain ⟨qw,hF,eqw,ehF,gqw,lhF⟩:=zj hE (y1++yp);rw [ehF,eqw] at sl;have all2:∀ (i:Nat) (y:lVq),[y1,yp][i]? = some y → ∃ g:Prg,PrC hF g y∧g.sz:=fun i y hy=>by
  have:i=0∨i=1:=by
   have:=(List.getElem?_eq_some_iff.1 hy).1;simp only [List.length_cons,List.length_nil] at this;omega
  rcases this with rfl | rfl
  ·cases hy;exact ⟨g1,x1.mono lhF,sz1.h⟩
  ·cases hy;exact ⟨p,xp.mono lhF,szp⟩
 have a5:=SlV.mono lhF a5;clear xp x1 hmd good szp hp eyp hy1 ok1 sz1 lE lhF gqw a1;replace a5:=za a5;replace all2:=za all2;replace sl:=za sl;rw [agp];simp only [zb, *];refine LoopW.upto 2 (fun i e hX=>hF.le hX ∧ ∃ x8 x9 x10 x11 x12 x13 x17 x18 x19 x20 x21 x22 x23 x24 x25,e=[v0,v1,iI hart,iI lev,iI task,vh,.bool false,.bool true,x8,x9,x10,x11,x12,x13,.slice (some ⟨qw,0,none⟩) 2 4,iI 2,iI (i:Int),x17,x18,x19,x20,x21,x22,x23,x24,x25]) ?_ (Nat.zero_le _) ⟨.refl _,_,_,_,_,_,_,_,_,_,_,_,_,_,_,_,rfl⟩;rintro i _ hG R hi ⟨lG,x8,x9,x10,x11,x12,x13,x17,x18,x19,x20,x21,x22,x23,x24,x25,rfl⟩ hR;delta c3_l32;by_cases hlt:i < 2
 case neg =>
  have hlt' : ¬ (i:Int) < 2:=by omega
  have g:=hq.h hG;clear hR hq;replace g:=za g;replace lG:=za lG;simp only [zb,ze,zf, *];exact g.h
 have hlt' : (i:Int) < 2:=by omega
 have hw:IntKind.i64.wrap ((i:Int) + 1)=((i + 1:Nat):Int):=by rw [zn (by omega) (by omega)];rfl
 obtain ⟨y,hy⟩:∃ y,[y1,yp][i]? = some y:=⟨_,List.getElem?_eq_getElem (by simpa using hlt)⟩;obtain ⟨g,hg,sz⟩:=all2.h i y hy;obtain ⟨id,off,cells,own,e1,e2,e3,_⟩:=(SlV.mono lG sl.h).elem hy;have hg:=hg.mono lG;have st:=st_Pq hG hg;have ly:y.length=4:=hg.ones.1;have py:qu true 0 4 y=some (.agg y.toArray):=by
  simp only [qu,List.drop_zero,if_true];rw [if_pos (by omega),List.take_of_length_le (by omega)]
 obtain ⟨q8,hH,eq8,ehH,gq8,lhH⟩:=zj hG y;rw [ehH,eq8] at st;have xg:=hg.mono lhH;have lH:=lG.trans lhH;obtain ⟨bd1,bd2⟩:=rowS_bd g;clear hy hg lhH lG;replace xg:=za xg;replace sz:=za sz;replace lH:=za lH;replace bd2:=za bd2;replace ly:=za ly;simp only [zb,aR,aW,ze,zf, *];refine yw6 xg.h sz.h _ fun h6 cv l6 hc=>?_;have gq6:=l6.get gq8;have xg:=xg.h.mono l6;have lH:=lH.h.trans l6;replace l6:=za l6;replace hc:=za hc;replace xg:=za xg;replace lH:=za lH;simp only [zb,aR, *];refine rCeil_c xg.h sz.h _ fun h7 dv l7 hd=>?_;have gq7:=l7.get gq6;have xg:=xg.h.mono l7;have lH:=lH.h.trans l7;have hc:=hc.h.mono l7;have lc:=hc.len;have ld:=hd.len;have ne:(((zc6 g).length:Int) != ((zc6 g).length:Int))=false:=by simp
 clear gq6 gq8;replace l7:=za l7;replace hc:=za hc;replace hd:=za hd;replace xg:=za xg;replace lH:=za lH;simp only [zb,ze,zf, *];refine tl_rows hc.h hd.h bd1 bd2.h _ fun y11=>?_;clear lc ld ne hc hd;simp only [zb, *];refine yn6 _ _ (by decide) _ _ fun z1=>?_;have b2:=bs_2i hart z1;have n2:=Qj h7 [hart,z1] (n:=2) (cells:=[iI hart,iI z1]) rfl rfl;obtain ⟨qh,h8,eqh,eh8,gqh,lh8⟩:=zj h7 [iI hart,iI z1];rw [eh8,eqh] at n2;have gq8:=lh8.get gq7;have xg:=xg.h.mono lh8;have lH:=lH.h.trans lh8;have a8:=SlV.mono lH a5.h;clear gq7;replace n2:=za n2;replace xg:=za xg;replace lH:=za lH;replace a8:=za a8;replace lh8:=za lh8;simp only [zb, *];refine tl_h gq8 xg.h sz.h a8.h hl20 n2.h _ fun h9 y12 y20 y21 l9=>?_;have gq9:=l9.get gq8;have xg:=xg.h.mono l9;have lH:=lH.h.trans l9;clear gq8 gqh b2 n2;replace l9:=za l9;replace xg:=za xg;replace lH:=za lH;simp only [zb, *];refine yn6 _ _ (by decide) _ _ fun z2=>?_;have b3:=bs_2i task z2;have n3:=Qj h9 [task,z2] (n:=2) (cells:=[iI task,iI z2]) rfl rfl;obtain ⟨qt,h10,eqt,eh10,gqt,lh10⟩:=zj h9 [iI task,iI z2];rw [eh10,eqt] at n3;have gq10:=lh10.get gq9;have xg:=xg.h.mono lh10;have lH:=lH.h.trans lh10;clear gq9;replace n3:=za n3;replace xg:=za xg;replace lH:=za lH;replace lh10:=za lh10;simp only [zb, *];refine tl_t gq10 xg.h sz.h n3.h _ fun h11 y13 y24 y25 l11=>?_;have f:=fun a b c d e=>hR.h [v0,v1,iI hart,iI lev,iI task,vh,.bool false,.bool true,ptr q8,cv,dv,y11,y12,y13,.slice (some ⟨qw,0,none⟩) 2 4,iI 2,iI ((i + 1:Nat):Int),a,b,c,y20,y21,d,e,y24,y25] h11 hlt ⟨lH.h.trans l11,_,_,_,_,_,_,_,_,_,_,_,_,_,_,_,rfl⟩;clear hR hq;replace f:=za f;replace l11:=za l11;simp only [zb,ze,zf, *];exact f.h _ _ _ _ _
end Go.Eng.Sy
