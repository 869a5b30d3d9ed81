/-
  Part of a proof of the laws of layer 09 (ceiling): the laws.
  Conditions: none.
-/
import Derived.Test.YtddbbcpelbcahaaGreatDoorBg
set_option linter.unusedSimpArgs false
set_option linter.unusedVariables false
namespace Go.Eng.Sy
open Go Go.Eng Go.Proofs
mutual
def cntE:Ex→Nat
 | .mk _ _ _ _ args=>1 + Y5 args
def Y5:List Ex→Nat
 | []=>0
 | e::r=>cntE e + Y5 r
end
def nTs:List Tsk→Nat
 | []=>0
 | t::r=>ye t.body + nTs r
theorem nTs_bd {K:Nat}:∀ {ts:List Tsk},(∀ t ∈ ts,ye t.body≤K)→nTs ts≤ts.length * K
 | [],_=>by simp [nTs]
 | t::r,h=>by
  have h1:=h t (by simp);have h2:=nTs_bd (ts:=r) fun x hx=>h x (by simp [hx]);simp only [nTs,List.length_cons,Nat.succ_mul];omega
theorem progL_r (raw:List Int) (all:Bool):nTs (Ud raw all).tasks≤6000:=by
 have hg:=Jk raw all;have h1:=nTs_bd (K:=1000) (ts:=(Ud raw all).tasks) fun t ht=>by
  have:=ys9 hg t ht
  rwa [wz] at this
 have h2:=hg.tl.2;have:(Ud raw all).tasks.length * 1000≤6 * 1000:=Nat.mul_le_mul_right _ h2;omega
theorem Zb (b:UInt8) (l:lBq):Kh (b::l)=if nm b then Kh l + 1 else 0:=by
 unfold Kh;rw [List.takeWhile_cons];split<;>simp
def isDg (b:UInt8):Bool:=decide (48≤b.toNat) && decide (b.toNat≤57)
theorem u8_lt (b:UInt8):b.toNat < 256:=b.toNat_lt
theorem dg_facts {b:UInt8}(h:isDg b=true):b=b∧nm b=true∧b≠120∧b.toNat≤57:=by
 have:∀ n:Fin 256,isDg (UInt8.ofNat n.val)=true→nm (UInt8.ofNat n.val)=true∧UInt8.ofNat n.val≠120∧(UInt8.ofNat n.val).toNat≤57:=by decide +kernel
 have:=this ⟨b.toNat,u8_lt b⟩;simp only [UInt8.ofNat_toNat] at this;exact ⟨rfl,this h⟩
theorem SlV.new (h:Heap){s:Nat}{xs:List (lVq)}(h5:∀ x ∈ xs,x.length=s){cells:lVq}(hc:cells=xs.flatten){n:Nat}(hl:n=xs.length):SlV (h.alloc (.blk cells true)) s (.slice (some ⟨h.next,0,none⟩) n s) xs:=by
 subst hl;subst hc;refine .inr ⟨h.next,0,rfl,.inr ⟨_,_,Heap.get_alloc_same _ _,fun i x hi=>?_⟩⟩;obtain ⟨h1,h2⟩:=yw h5 i x hi;exact ⟨h5 x (List.mem_of_getElem? hi),by omega,by simpa using h2⟩
def Kd:Sco:=⟨[],[],0,[],true⟩
theorem qb7 (p:Nat) (h:Heap):ScB p h Kd [zq,zq,iI 0,zq,.bool true] :=
 ⟨zq,zq,zq,rfl,SlVB.nil _ _ _,SlVB.nil _ _ _,SlVB.nil _ _ _,by simp [Kd],by simp [Kd],by simp [Kd],by simp [Kd]⟩
theorem us (s:List Int) (n:Nat):(zh s n).2.length≤s.length∧((zh s n).1≠0→(zh s n).2.length + 1≤s.length):=by
 cases s with
 | nil=>exact ⟨Nat.le_refl _,fun h=>absurd rfl h⟩
 | cons z r=>exact ⟨by simp [zh],fun _=>by simp [zh]⟩
theorem yp7 (any:Bool) (s:List Int) (l:List (lBq)):(yh any s l).2.length≤s.length:=by
 unfold yh;split
 ·exact (us s 300).1
 ·exact (us s l.length).1
theorem numL_r (s:List Int):cntE (yf7 s).1=1∧(yf7 s).2.length≤s.length:=by
 refine ⟨rfl,?_⟩;have h1:=(us s 10).1;have h2:=(us (zh s 10).2 300).1;have h3:=(us (zh (zh s 10).2 300).2 4294967296).1;have h4:=(us (zh (zh (zh s 10).2 300).2 4294967296).2 3).1;show (zh (zh (zh (zh s 10).2 300).2 4294967296).2 3).2.length≤_;omega
theorem Jo (c:Sco):∀ (d:Nat) (s:List Int),cntE (yd c d s).1 + 2 * (yd c d s).2.length≤2 * s.length + 1
 | 0,s=>by
  obtain ⟨h1,h2⟩:=numL_r (zh s 8).2;have h3:=(us s 8).1;show cntE (yf7 (zh s 8).2).1 + 2 * (yf7 (zh s 8).2).2.length≤_;omega
 | d + 1,s=>by
  obtain ⟨h1,h2⟩:=us s 8;unfold yd;dsimp only;split
  ·obtain ⟨k1,k2⟩:=numL_r (zh s 8).2;omega
  split
  ·have:=yp7 c.any (zh s 8).2 zj8;simp only [cntE,Y5];omega
  split
  ·have k1:=Jo c d (zh (zh s 8).2 3).2;have k2:=(us (zh s 8).2 3).1;have:=h2 (by omega);simp only [cntE,Y5];omega
  split
  ·have k1:=Jo c d (yh c.any (zh s 8).2 c.held).2;have k2:=yp7 c.any (zh s 8).2 c.held;have:=h2 (by omega);simp only [cntE,Y5];omega
  ·have k1:=Jo c d (zh (zh s 8).2 14).2;have k3:=Jo c d (yd c d (zh (zh s 8).2 14).2).2;have k2:=(us (zh s 8).2 14).1;have:=h2 (by omega);simp only [cntE,Y5];omega
theorem yv1 {h h1:Heap}{v:Value}{raw:List Int}(hv:Ints h v raw) (lh1:h.le h1) (n:Nat):∃ v',Ints h1 v' (raw.take n)∧((n:Int) < (raw.length:Int)∧jo 1 false true [v,iI n]=some v' ∨ ¬ (n:Int) < (raw.length:Int)∧v' = v):=by
 by_cases hl:n < raw.length
 ·obtain ⟨w,e1,e2⟩:=SlV.partHi hv (b:=n) (by simp;omega);refine ⟨w,?_,.inl ⟨by omega,e1⟩⟩;rw [← List.map_take] at e2;exact SlV.mono lh1 e2
 ·refine ⟨v,?_,.inr ⟨by omega,rfl⟩⟩;rw [List.take_of_length_le (by omega)];exact SlV.mono lh1 hv
theorem bC' : yo [nSq,nSq,iI 0,nSq,.bool false] [(4,1)] [.bool true]=some (.agg #[zq,zq,iI 0,zq,.bool true]):=rfl
theorem yu6 (b:UInt8) (h:Heap) (Q:vPq) (hq:Q (.bool (isDg b)) h):CallW Tryz.prog 150 [.int .u8 b.toNat] h Q:=by
 refine zg (k:=1) ok150 rfl rfl rfl fun N=>?_;rw [Yo c150 kv rfl];delta c150;replace hq:=za hq;have hd:isDg b=(decide (48≤b.toNat) && decide (b.toNat≤57)):=rfl;have go:∀ c,c=isDg b→Q (.bool c) h:=fun c e=>by rw [e];exact hq.h
 rw [hd] at go;replace go:=Hid.mk go;clear hq hd;by_cases h1:(48:Int)≤(b.toNat:Int)<;>by_cases h2:(b.toNat:Int)≤57;all_goals
  simp only [zb,ze,zf, *];exact go.h _ (by simp;omega)
def ltZ (z:Int):Bool:=(decide (97≤z) && decide (z≤122)) || (decide (65≤z) && decide (z≤90)) || (z == 95)
theorem letter_c (b:UInt8) (h:Heap) (Q:vPq) (hq:Q (.bool (ltZ b.toNat)) h):CallW Tryz.prog 151 [.int .u8 b.toNat] h Q:=by
 obtain ⟨z,hz⟩:∃ z:Int,(b.toNat:Int)=z:=⟨_,rfl⟩;rw [hz] at hq ⊢;refine zg (k:=1) ok151 rfl rfl rfl fun N=>?_;rw [Yo c151 kv rfl];delta c151;replace hq:=za hq;have go:∀ c,ltZ z=c→Q (.bool c) h:=fun c hb=>by rw [← hb];exact hq.h
 replace go:=Hid.mk go;clear hq hz;by_cases h1:97≤z<;>by_cases h2:z≤122<;>by_cases h3:65≤z<;>by_cases h4:z≤90;all_goals cases h5:(z == 95)
 all_goals first
  | (exfalso;omega)
  | (
   simp only [zb,ze,zf, *];exact go.h _ (by simp only [ltZ,h1,h2,h3,h4,h5];rfl))
theorem nm_split (b:UInt8):nm b=(ltZ b.toNat || isDg b):=by
 unfold nm nmZ ltZ isDg
 congr 1
 rw [Bool.eq_iff_iff];simp;omega
theorem ym0 {l:lBq}(h:Heap) (Q:vPq) (hq:∀ h',h.le h' → Q (.bool (Zf l)) h'):CallW Tryz.prog 149 [str l] h Q:=by
 refine zg (k:=1) ok149 rfl rfl rfl fun N=>?_;rw [Yo c149 u0 rfl];delta c149;replace hq:=za hq;have sw:=Kf h wordsL (n:=13) (cells:=[.string ⟨#[104,97,114,116,115]⟩,.string ⟨#[100,101,118,105,99,101]⟩,.string ⟨#[117,97,114,116]⟩,.string ⟨#[116,105,109,101,114]⟩,.string ⟨#[103,112,105,111]⟩,.string ⟨#[114,101,115,111,117,114,99,101]⟩,.string ⟨#[116,97,115,107]⟩,.string ⟨#[104,97,110,100,108,101,114]⟩,.string ⟨#[108,111,99,107]⟩,.string ⟨#[105,102]⟩,.string ⟨#[101,108,115,101]⟩,.string ⟨#[114,101,112,101,97,116]⟩,.string ⟨#[104,97,108,116]⟩]) rfl rfl;obtain ⟨q,hqq⟩:∃ x,h.next=x:=⟨_,rfl⟩;obtain ⟨h1,hh1⟩:∃ x,h.alloc (.blk [.string ⟨#[104,97,114,116,115]⟩,.string ⟨#[100,101,118,105,99,101]⟩,.string ⟨#[117,97,114,116]⟩,.string ⟨#[116,105,109,101,114]⟩,.string ⟨#[103,112,105,111]⟩,.string ⟨#[114,101,115,111,117,114,99,101]⟩,.string ⟨#[116,97,115,107]⟩,.string ⟨#[104,97,110,100,108,101,114]⟩,.string ⟨#[108,111,99,107]⟩,.string ⟨#[105,102]⟩,.string ⟨#[101,108,115,101]⟩,.string ⟨#[114,101,112,101,97,116]⟩,.string ⟨#[104,97,108,116]⟩] true)=x:=⟨_,rfl⟩;have l1:h.le h1:=by rw [← hh1];exact (Heap.le.refl _).alloc _
 rw [hqq,hh1] at sw;have g:=hq.h h1 l1;replace g:=Hid.mk g;clear hq l1;replace sw:=Hid.mk sw;have ls:ua [.slice (some ⟨q,0,none⟩) 13 1]=some (iI 13):=rfl;simp only [zb,zj4, *];refine LoopW.upto 13 (fun i e h'=>h' = h1∧(wordsL.take i).contains l=false∧e=[str l,.bool false,.slice (some ⟨q,0,none⟩) 13 1,iI i]) ?_ (Nat.zero_le _) ⟨rfl,rfl,rfl⟩;rintro i _ _ R hi ⟨rfl,hpre,rfl⟩ hR;replace hpre:=Hid.mk hpre;delta yz9;by_cases hlt:i < 13
 case neg =>
  have hlt' : ¬ (i:Int) < 13:=by omega
  have hw:Zf l=false:=by
   have:=hpre.h;rw [List.take_of_length_le (show wordsL.length≤i by show 13≤i;omega)] at this;exact this
  rw [hw] at g;simp only [zb,ze,zf, *];exact g.h
 case pos =>
  have hlt' : (i:Int) < 13:=by omega
  have hwj:IntKind.i64.wrap ((i:Int) + 1)=((i + 1:Nat):Int):=by rw [zn (by omega) (by omega)];rfl
  obtain ⟨w,hw⟩:∃ w,wordsL[i]? = some w:=⟨_,List.getElem?_eq_getElem (show i < wordsL.length from hlt)⟩;obtain ⟨id,off,cells,own,e1,e2,e3,_⟩:=sw.h.elem hw;cases hs:(w == l) with
  | true =>
   have hwl:w=l:=by simpa using hs
   have hin:Zf l=true:=by
    unfold Zf;rw [← hwl];simpa using List.mem_of_getElem? hw
   rw [hin] at g;replace hw:=Hid.mk hw;clear hwl hin;simp only [zb,aR,ze,zf,Jp, *];exact g.h
  | false =>
   have hnx:(wordsL.take (i + 1)).contains l=false:=by
    have h1:=hpre.h;rw [List.take_add_one,hw];have h2:¬ l=w:=by rintro rfl;simp at hs
    simp at h1 ⊢;exact ⟨h1,h2⟩
   replace hw:=Hid.mk hw;replace hnx:=Hid.mk hnx;simp only [zb,aR,ze,zf,Jp, *];exact hR.h _ _ hlt ⟨rfl,hnx.h,rfl⟩
theorem zy4:∀ {l:lBq}{i:Nat},Kh (l.take i)=i→i≤l.length → ∀ {b},l[i]? = some b→(nm b=true→Kh (l.take (i + 1))=i + 1)∧(nm b=false→Kh l=i)
 | [],i,_,_,b,hb=>by simp at hb
 | x::l,0,_,_,b,hb=>by
  simp only [List.getElem?_cons_zero,Option.some.injEq] at hb;subst hb;constructor
  ·intro hn;simp [Zb,hn];rfl
  ·intro hn;simp [Zb,hn]
 | x::l,i + 1,hr,hi,b,hb=>by
  rw [List.take_succ_cons,Zb] at hr;cases hx:nm x with
  | false=>rw [hx] at hr;simp at hr
  | true =>
   rw [hx,if_pos rfl] at hr;obtain ⟨h1,h2⟩:=zy4 (l:=l) (i:=i) (by omega) (by simpa using hi) (by simpa using hb);constructor
   ·intro hn;rw [List.take_succ_cons,Zb,hx,if_pos rfl,h1 hn]
   ·intro hn;rw [Zb,hx,if_pos rfl,h2 hn]
theorem Zc {l:lBq}(h:Heap) (Q:vPq) (hq:∀ h',h.le h' → Q (.bool (zo l)) h'):CallW Tryz.prog 122 [str l] h Q:=by
 refine zg (k:=1) ok122 rfl rfl rfl fun N=>?_;rw [Yo c122 Ub rfl];delta c122;replace hq:=za hq;simp only [zb, *];refine ym0 h _ fun h1 l1=>?_;have g:=hq.h h1 l1;replace g:=Hid.mk g;clear hq l1;cases l with
 | nil =>
  obtain ⟨w,hw⟩:∃ w,Zf []=w:=⟨_,rfl⟩;rw [hw];have:zo []=false:=rfl;rw [this] at g;simp only [zb,ze,Jp, *];exact g.h
 | cons b r =>
  obtain ⟨l,hl⟩:∃ l,b::r=l:=⟨_,rfl⟩;have hb:l[0]? = some b:=by rw [← hl];rfl
  have hne:(l == [])=false:=by rw [← hl];rfl
  have hsp:zo l=(decide (l.length≤20) && (Kh l == l.length) && decide (57 < (b.toNat:Int)) && !Zf l):=by rw [← hl];rfl
  have hrun0:nm b=false→Kh l=0:=fun h=>by rw [← hl,Zb,h];rfl
  have hlen:0 < l.length:=by rw [← hl];simp
  rw [hl] at g ⊢;clear hl;have ix:=idx_S hb .i64;rw [Int.ofNat_zero] at ix;have go:∀ c,c=zo l→Q (.bool c) h1:=fun c e=>by rw [e];exact g.h
  rw [hsp] at go;replace go:=Hid.mk go;clear g hsp;by_cases h20:20 < l.length
  ·have h20' : (20:Int) < (l.length:Int):=by omega
   have g:=go.h false (by simp;omega);replace g:=Hid.mk g;clear h20;simp only [zb,ze,zf,Jp,Jl, *];exact g.h
  ·have h20' : ¬ (20:Int) < (l.length:Int):=by omega
   simp only [zb,ze,zf,Jp,Jl, *];refine yu6 b h1 _ ?_;cases hdg:isDg b with
   | true =>
    have g:=go.h false (by have:=(dg_facts hdg).2.2.2;simp;intro _ _ h;omega);replace g:=Hid.mk g;clear h20 hdg;simp only [zb, *];exact g.h
   | false =>
    cases hw:Zf l with
    | true =>
     have g:=go.h false (by rw [hw];simp);replace g:=Hid.mk g;clear h20 hdg hw;simp only [zb, *];exact g.h
    | false =>
     -- every byte is looked at
     have g1:=fun (h57:57 < (b.toNat:Int)) (hr:Kh l=l.length)=>go.h true (by rw [hw,hr];simp;omega);have g0:=fun (hr:Kh l≠l.length)=>go.h false (by rw [hw];simp;intro _ h;exact absurd h hr);have h57:nm b=true→57 < (b.toNat:Int):=by
      have:∀ n:Fin 256,isDg (UInt8.ofNat n.val)=false→nm (UInt8.ofNat n.val)=true→57 < ((UInt8.ofNat n.val).toNat:Int):=by decide +kernel
      have:=this ⟨b.toNat,u8_lt b⟩;simp only [UInt8.ofNat_toNat] at this;exact this hdg
     replace g1:=Hid.mk g1;replace g0:=Hid.mk g0;replace h57:=Hid.mk h57;replace hrun0:=Hid.mk hrun0;clear hdg hw;simp only [zb, *];refine LoopW.upto l.length (fun i e h'=>h' = h1∧Kh (l.take i)=i ∧ ∃ x,e=[str l,.bool false,.bool false,iI i,x]) ?_ (Nat.zero_le _) ⟨rfl,by simp;rfl,_,rfl⟩;rintro i _ _ R hi ⟨rfl,hpre,x,rfl⟩ hR;replace hpre:=Hid.mk hpre;delta yc2;by_cases hlt:i < l.length
     case neg =>
      have hlt' : ¬ (i:Int) < (l.length:Int):=by omega
      have hr:Kh l=l.length:=by
       have:=hpre.h;rw [List.take_of_length_le (by omega)] at this;omega
      have hnb:nm b=true:=by
       cases hn:nm b with
       | true=>rfl
       | false=>have:=hrun0.h hn;omega
      have g:=g1.h (h57.h hnb) hr;replace g:=Hid.mk g;clear hr hnb;simp only [zb,ze,zf,Jl, *];exact g.h
     case pos =>
      have hlt' : (i:Int) < (l.length:Int):=by omega
      have hwj:IntKind.i64.wrap ((i:Int) + 1)=((i + 1:Nat):Int):=by rw [zn (by omega) (by omega)];rfl
      obtain ⟨c,hc⟩:∃ c,l[i]? = some c:=⟨_,List.getElem?_eq_getElem hlt⟩;obtain ⟨s1,s2⟩:=zy4 hpre.h (by omega) hc;have ixc:=idx_S hc .i64;have hsp:=nm_split c;rw [hsp] at s1 s2;replace s1:=Hid.mk s1;replace s2:=Hid.mk s2;clear hc hsp;simp only [zb,ze,zf,Jl, *];refine letter_c c _ _ ?_;cases hlt2:ltZ c.toNat with
      | true =>
       simp only [zb,ze,zf, *];exact hR.h _ _ hlt ⟨rfl,s1.h (by rw [hlt2];rfl),_,rfl⟩
      | false =>
       simp only [zb, *];refine yu6 c _ _ ?_;cases hdg:isDg c with
       | true =>
        simp only [zb,ze,zf, *];exact hR.h _ _ hlt ⟨rfl,s1.h (by rw [hlt2,hdg];rfl),_,rfl⟩
       | false =>
        have g:=g0.h (by rw [s2.h (by rw [hlt2,hdg];rfl)];omega);replace g:=Hid.mk g;simp only [zb, *];exact g.h
def lvlL:List Int:=[7,7,8,8,8,3,1,2,6,6,5,5,4,4]
theorem levL_eq:∀ k:Fin 14,lvlL.getD k.val 0=(jv ((k.val:Int) + 1):Nat):=by decide
theorem bs_lev:yj (List.replicate 14 (iI 0)) ((List.range' 0 14).map fun i=>(i,1)) 14 1 (lvlL.map (.int .i64))=some (lvlL.map (.int .i64),fun id=>.slice (some ⟨id,0,none⟩) 14 1) :=
 ql (by rfl) (by rfl) (by rfl) (by simp [lvlL,Value.cells,Value.oneCell'])
theorem ye8 (op:Int) (h:Heap) (Q:vPq) (hq:∀ h',h.le h' → Q (iI (jv op:Nat)) h'):CallW Tryz.prog 215 [iI op] h Q:=by
 refine zg (k:=1) ok215 rfl rfl rfl fun N=>?_;rw [Yo c215 kv rfl];delta c215;replace hq:=za hq;by_cases h1:op < 1
 ·have e:jv op=0:=by unfold jv;(repeat' split)<;>omega
  have g:=hq.h h (Heap.le.refl h);rw [e] at g;replace g:=Hid.mk g;clear hq e;simp only [zb,ze,zf, *];exact g.h
 by_cases h2:14 < op
 ·have e:jv op=0:=by unfold jv;(repeat' split)<;>omega
  have g:=hq.h h (Heap.le.refl h);rw [e] at g;replace g:=Hid.mk g;clear hq e;simp only [zb,ze,zf, *];exact g.h
 obtain ⟨k,rfl⟩:∃ k:Nat,op=(k:Int) + 1:=⟨(op - 1).toNat,by omega⟩;have hk:k < 14:=by omega
 have hv:=Qj h lvlL (n:=14) (cells:=lvlL.map (.int .i64)) rfl rfl;have lh:=(Heap.le.refl h).alloc (.blk (lvlL.map (.int .i64)) true);obtain ⟨id,off,cells,own,e1,e2,e3⟩:=Ints.elem hv (getD_some (l:=lvlL) (i:=k) hk 0);have ek:=levL_eq ⟨k,hk⟩;simp only at ek;rw [ek] at e3;have hw:IntKind.i64.wrap ((k:Int) + 1 - 1)=(k:Int):=by rw [zn (by omega) (by omega)];omega
 have g:=hq.h _ lh;have u:=bs_lev;simp only [lvlL,List.map_cons,List.map_nil,List.replicate,List.range',Nat.reduceAdd] at u e1 e2 g;replace g:=Hid.mk g;clear hq hv lh ek;simp only [zb,aR,ze,zf, *];exact g.h
def noQ (o n:Int) (m:lBq) (a b c:Bool):Bool:=(a || o == 0) && (b || n == 0) && (c || m == [])
theorem no_c {k o n:Int}{m:lBq}{v:Value}(hv:v.oneCell' = true) (a b c:Bool) (h:Heap) (Q:vPq) (hq:∀ h',h.le h' → Q (.bool (noQ o n m a b c)) h') :
  CallW Tryz.prog 214 [exV k o n m v,.bool a,.bool b,.bool c] h Q:=by
 have b1:=J2 (k:=k) (o:=o) (n:=n) (m:=m) hv;obtain ⟨q,h1,eq,eh1,gq,lh1⟩:=zj h [iI k,iI o,iI n,str m,v];have es:=Jp m [];replace hq:=hq h1 lh1;unfold noQ at hq;clear lh1;refine zg (k:=5) ok214 rfl rfl rfl fun N=>?_;rw [ev4q c214 Zm rfl];delta c214;replace hq:=za hq;cases a<;>cases b<;>cases c<;>cases c1:(o == 0)<;>cases c2:(n == 0)<;>cases c3:(m == []);all_goals
  rw [c3] at es;have g:=hq.h;simp only [c1,c2,c3,Bool.or_true,Bool.or_false,Bool.and_true,Bool.and_false,Bool.true_or,Bool.false_or,Bool.true_and,Bool.false_and] at g;replace g:=Hid.mk g;clear hq;simp only [zb,aR,ze,zf, *];exact g.h
def DepC (left:Nat):Prop:=∀ (e:Ex) (x:lVq) (h:Heap) (Q:vPq),ExC h e x →
 (∀ h' (d:Nat),h.le h' → (yg e left=true→1≤d∧d≤left)→(yg e left=false→d=31)→Q (iI (d:Int)) h')→CallW Tryz.prog 194 [.agg x.toArray,iI (left:Int)] h Q
theorem max_I (a b:Nat):J5 true [iI (a:Int),iI (b:Int)]=some (iI ((max a b:Nat):Int)):=by
 simp [J5];omega
theorem min_I (a b:Nat):J5 false [iI (a:Int),iI (b:Int)]=some (iI ((min a b:Nat):Int)):=by
 simp [J5];omega
noncomputable def zf4:CCode:=(.seq (.rcond Ky [] 0 (.seq (.reg Kx [(3,0)]) .ret) .skip) (.seq (.reg Kw [(7,0)]) (.seq (.seq (.reg Kv [(8,0)]) (.block 1 (.loop zg8))) (.seq (.reg Ku [(3,0)]) .ret))))
theorem yh5 {l:Nat}(hl:l + 1≤30) (ih:DepC l){args:List Ex}{v:Value}{h:Heap}{q:Nat}{c:lVq}(hq0:h.get q=some (.blk c true)) (hc:c[4]? = some v) (hv:ExsV h v args){ok:Bool}{many:Nat}{N:Nat}{vars:List Nat}{x0 x3 x6 x7 x8 x9:Value}
  (Q:vPq) (hq:∀ h' (d:Nat),h.le h' → (ok=true∧args.length=many∧z7 args l=true→1≤d∧d≤l + 1)→(¬ (ok=true∧args.length=many∧z7 args l=true)→d=31)→Q (iI (d:Int)) h') :
  W Tryz.prog N vars zf4 (ret1 3 Q) [x0,iI ((l + 1:Nat):Int),pT q 0,x3,.bool ok,iI (many:Int),x6,x7,x8,x9] h:=by
 have hln:=hv.len;have hle:=hv.le;replace hl:=za hl;replace ih:=za ih;replace hv:=za hv;replace hq:=za hq;delta zf4 Ky Kx Kw Kv Ku;cases ok with
 | false =>
  have g:=hq.h h 31 (.refl _) (fun e=>by cases e.1) (fun _=>rfl);replace g:=Hid.mk g;clear hq;simp only [zb, *];exact g.h
 | true =>
 by_cases hm:args.length=many
 case neg =>
  have g:=hq.h h 31 (.refl _) (fun e=>absurd e.2.1 hm) (fun _=>rfl);have cm:((args.length:Int) != (many:Int))=true:=by simp only [bne_iff_ne,ne_eq];omega
  replace g:=Hid.mk g;clear hq;simp only [zb,aR,ze,zf, *];exact g.h
 subst hm;have cm:((args.length:Int) != (args.length:Int))=false:=by simp
 simp only [zb,aR,ze,zf, *];refine LoopW.upto args.length (fun i e h1=>h.le h1 ∧ ∃ m:Nat,(((args.take i).all fun e=>yg e l)=true→m≤l)∧(((args.take i).all fun e=>yg e l)=false→m=31)∧e=[x0,iI ((l + 1:Nat):Int),pT q 0,x3,.bool true,iI (args.length:Int),x6,iI (m:Int),iI i,x9]) ?_ (Nat.zero_le _) ⟨.refl _,0,fun _=>Nat.zero_le _,fun e=>by simp at e,rfl⟩;rintro i _ h1 R hi ⟨hl1,m,hm1,hm2,rfl⟩ hR;have gq:=hl1.get hq0;delta zg8 zg7 zg6 zg5 zg4 zg3 zg2 zg1 zg0 zf9 zf8 K8 K7 K6 K5 K4 K3 K2 K1 K0 Kz Ky Kx Kw Kv Ku;by_cases hlt:i < args.length
 case neg =>
  have hlt' : ¬ (i:Int) < args.length:=by omega
  have hi2:i=args.length:=by omega
  have hml:=hl.h;have hm3:m≤31:=by
   cases ha:((args.take i).all fun e=>yg e l) with
   | true=>have:=hm1 ha;omega
   | false=>have:=hm2 ha;omega
  have ea:z7 args l=((args.take i).all fun e=>yg e l):=by rw [wr,hi2,List.take_length]
  have g:=hq.h h1 (min 31 (m + 1)) hl1 (fun e=>by rw [ea] at e;have:=hm1 e.2.2;omega) (fun e=>by
   have:((args.take i).all fun e=>yg e l)=false:=by
    cases ha:((args.take i).all fun e=>yg e l) with
    | true=>exact absurd ⟨rfl,rfl,by rw [ea];exact ha⟩ e
    | false=>rfl
   have:=hm2 this;omega)
  have w:IntKind.i64.wrap ((m:Int) + 1)=((m + 1:Nat):Int):=by rw [zn (by omega) (by omega)];rfl
  have mn:=min_I 31 (m + 1);have e31:((31:Nat):Int)=31:=rfl;rw [e31] at mn;subst hi2;replace g:=Hid.mk g;clear hq hR hm1 hm2 ea e31 hm3 hml;simp only [zb,ze,zf, *];exact g.h
 have hlt' : (i:Int) < args.length:=by omega
 obtain ⟨e,he⟩:∃ e,args[i]? = some e:=⟨_,List.getElem?_eq_getElem hlt⟩;obtain ⟨id,off,cells,own,x,e1,e2,e3,hx,_⟩:=(hv.h.mono hl1).elem he;have wl:IntKind.i64.wrap (((l + 1:Nat):Int) - 1)=(l:Int):=by have:=hl.h;rw [zn (by omega) (by omega)];omega
 have w:IntKind.i64.wrap ((i:Int) + 1)=((i + 1:Nat):Int):=by rw [zn (by omega) (by omega)];rfl
 have et:((args.take (i + 1)).all fun e=>yg e l)=(((args.take i).all fun e=>yg e l) && yg e l):=by rw [List.take_add_one,he];simp
 replace hx:=za hx;replace hm1:=za hm1;replace hm2:=za hm2;replace hl1:=za hl1;replace et:=za et;clear he;simp only [zb,aR,ze,zf, *];refine ih.h e x h1 _ hx.h fun h2 d l2 hd1 hd2=>?_;have mx:=max_I m d;have hle2:=hl1.h.trans l2;have g:=hR.h _ h2 hlt ⟨hle2,max m d,fun ha=>by
  rw [et.h,Bool.and_eq_true] at ha;have:=hm1.h ha.1;have:=(hd1 ha.2).2;omega,fun ha=>by
  rw [et.h] at ha;have hlb:=hl.h;cases hr:yg e l with
  | false =>
   have:=hd2 hr;cases ha2:((args.take i).all fun e=>yg e l) with
   | true=>have:=hm1.h ha2;omega
   | false=>have:=hm2.h ha2;omega
  | true =>
   rw [hr,Bool.and_true] at ha;have:=hm2.h ha;have:=(hd1 hr).2;omega,rfl⟩
 replace g:=Hid.mk g;clear hR hq hm1 hm2 hd1 hd2 l2 hle2 et;simp only [zb,ze,zf, *];exact g.h
set_option maxHeartbeats 400000 in
theorem yb4 (left:Nat) (hl:left≤30) (ih:∀ l,left=l + 1→DepC l):DepC left:=by
 intro e x h Q hx hq;obtain ⟨v,rfl,hargs⟩:=hx.cells;have b1:=J2 (k:=e.kind) (o:=e.op) (n:=e.n) (m:=e.name) hargs.one;obtain ⟨q,h1,eq,eh1,gq,lh1⟩:=zj h [iI e.kind,iI e.op,iI e.n,str e.name,v];have ha1:=hargs.mono lh1;have o1:=hargs.one;clear hargs hx;replace ha1:=za ha1;replace lh1:=za lh1;replace ih:=za ih;replace hl:=za hl;refine zg (k:=3) ok194 rfl rfl rfl fun N=>?_;show W Tryz.prog N _ ((.seq (.reg zg7 [(2,1),(3,0)]) (.seq (.rcond zg6 [] 0 (.seq (.reg zg5 [(3,0)]) .ret) .skip) (.seq (.reg zg4 [(4,0)]) (.seq (.reg zg3 [(5,0)]) (.seq (.reg zg2 [(6,0)]) (.seq (.seq (.reg zg1 [(9,0)]) (.block 0 (.rcond zg0 [] 0 (.reg zf9 [(4,0)]) (.rcond zf8 [] 0 (.reg K8 [(4,0)]) (.rcond K7 [] 0 (.seq (.reg K6 [(4,0)]) (.reg K5 [(5,0)])) (.rcond K4 [] 0 (.seq (.reg K3 [(4,0)]) (.reg K2 [(5,0)])) (.rcond K1 [] 0 (.seq (.reg K0 [(4,0)]) (.reg Kz [(5,0)])) .skip))))))) zf4))))))) _ [exV e.kind e.op e.n e.name v,iI (left:Int),udq,udq,udq,udq,udq,udq,udq,udq] _;delta zg7 zg6 zg5 zg4 zg3 zg2 zg1 zg0 zf9 zf8 K8 K7 K6 K5 K4 K3 K2 K1 K0 Kz;replace hq:=Hid.mk hq;cases left with
 | zero =>
  have g:=hq.h h1 31 lh1.h (fun hr=>by cases e;simp [yg] at hr) (fun _=>rfl);replace g:=Hid.mk g;have z:((0:Nat):Int) < 1:=by decide
  clear hq;simp only [zb,ze,zf, *];exact g.h
 | succ l =>
  have z:¬ ((l + 1:Nat):Int) < 1:=by omega
  simp only [zb,aR,ze,zf, *];refine Zc h1 _ fun h2 l2=>?_;have g2:=l2.get gq;have ha2:=ha1.h.mono l2;have l2:=lh1.h.trans l2;have fin:∀ (h' : Heap) (okv:Bool) (many:Nat) (x9:Value),h2.le h' → ((okv=true∧e.args.length=many)↔(zr e.kind e.op e.n e.name=true∧e.args.length=uk e.kind)) →
    W Tryz.prog N c194.vars zf4 (ret1 3 Q) [exV e.kind e.op e.n e.name v,iI ((l + 1:Nat):Int),pT q 0,iI 0,.bool okv,iI (many:Int),.bool (zo e.name),udq,udq,x9] h':=fun h' okv many x9 hl' hiff=>by
   have er:yg e (l + 1)=true↔(okv=true∧e.args.length=many∧z7 e.args l=true):=by
    have:yg e (l + 1)=(zr e.kind e.op e.n e.name && e.args.length == uk e.kind && z7 e.args l):=by cases e;rfl
    rw [this,Bool.and_eq_true,Bool.and_eq_true,beq_iff_eq,← and_assoc,← hiff,and_assoc]
   refine yh5 hl.h (ih.h l rfl) (hl'.get g2) rfl (ha2.mono hl') Q fun h3 d l3 hd1 hd2=>hq.h h3 d (l2.trans (hl'.trans l3)) (fun hr=>hd1 (er.1 hr)) (fun hr=>hd2 fun hc=>by rw [er.2 hc] at hr;cases hr)
  replace fin:=Hid.mk fin;clear gq ha1 lh1 b1 hq ih l2 ha2;by_cases k1:e.kind=1
  ·have c1:(e.kind == 1)=true:=by simp [k1]
   replace k1:=Hid.mk k1;simp only [zb,aR,ze,zf,zu, *];refine no_c o1 _ _ _ _ _ fun h3 l3=>?_;have g3:=l3.get g2;have es:noQ e.op e.n e.name false true false=(e.op == 0 && e.name == []):=by simp [noQ]
   rw [es];have g:=fun okv (hok:okv=zr e.kind e.op e.n e.name)=>fin.h h3 okv 0 (iI e.kind) l3 (by rw [hok,k1.h];simp [uk]);have sh:zr e.kind e.op e.n e.name=(decide (0≤e.n∧e.n < 4294967296) && e.op == 0 && e.name == []):=by simp [zr,k1.h]
   rw [sh] at g;replace g:=za g;clear fin l3 sh es;cases c2:(e.op == 0 && e.name == []) with
   | false =>
    have g:=g.h false (by rw [Bool.and_assoc,c2];simp);replace g:=Hid.mk g;simp only [zb, *];exact g.h
   | true =>
    by_cases c3:0≤e.n
    ·by_cases c4:e.n < 4294967296
     ·have g:=g.h true (by rw [Bool.and_assoc,c2];simp [c3,c4]);replace g:=Hid.mk g;simp only [zb,aR,ze,zf, *];exact g.h
     ·have g:=g.h false (by simp [c4]);replace g:=Hid.mk g;simp only [zb,aR,ze,zf, *];exact g.h
    ·have g:=g.h false (by simp [c3]);replace g:=Hid.mk g;simp only [zb,aR,ze,zf, *];exact g.h
  have n1:(e.kind == 1)=false:=by simp [k1]
  by_cases k2:e.kind=2
  ·have c1:(e.kind == 2)=true:=by simp [k2]
   replace k2:=Hid.mk k2;simp only [zb,aR,ze,zf,zu, *];refine no_c o1 _ _ _ _ _ fun h3 l3=>?_;have g3:=l3.get g2;have es:noQ e.op e.n e.name false false true=(e.op == 0 && e.n == 0):=by simp [noQ]
   rw [es];have g:=fun okv (hok:okv=zr e.kind e.op e.n e.name)=>fin.h h3 okv 0 (iI e.kind) l3 (by rw [hok,k2.h];simp [uk]);have sh:zr e.kind e.op e.n e.name=(zo e.name && e.op == 0 && e.n == 0):=by simp [zr,k2.h]
   rw [sh] at g;replace g:=za g;clear fin l3 sh es;cases c2:(e.op == 0 && e.n == 0) with
   | false =>
    have g:=g.h false (by rw [Bool.and_assoc,c2];simp);replace g:=Hid.mk g;simp only [zb, *];exact g.h
   | true =>
    have g:=g.h (zo e.name) (by rw [Bool.and_assoc,c2];simp);replace g:=Hid.mk g;simp only [zb, *];exact g.h
  have n2:(e.kind == 2)=false:=by simp [k2]
  by_cases k3:e.kind=3
  ·have c1:(e.kind == 3)=true:=by simp [k3]
   replace k3:=Hid.mk k3;simp only [zb,aR,ze,zf,zu, *];refine no_c o1 _ _ _ _ _ fun h3 l3=>?_;have g3:=l3.get g2;have es:noQ e.op e.n e.name true false false=(e.n == 0 && e.name == []):=by simp [noQ]
   rw [es];have g:=fun okv (hok:okv=zr e.kind e.op e.n e.name)=>fin.h h3 okv 1 (iI e.kind) l3 (by rw [hok,k3.h];simp [uk]);have sh:zr e.kind e.op e.n e.name=(decide (15≤e.op∧e.op≤17) && e.n == 0 && e.name == []):=by simp [zr,k3.h]
   rw [sh] at g;replace g:=za g;clear fin l3 sh es;have e1:((1:Nat):Int)=1:=rfl;rw [e1] at g;cases c2:(e.n == 0 && e.name == []) with
   | false =>
    have g:=g.h false (by rw [Bool.and_assoc,c2];simp);replace g:=Hid.mk g;simp only [zb, *];exact g.h
   | true =>
    by_cases c3:15≤e.op
    ·by_cases c4:e.op≤17
     ·have g:=g.h true (by rw [Bool.and_assoc,c2];simp [c3,c4]);replace g:=Hid.mk g;simp only [zb,aR,ze,zf, *];exact g.h
     ·have g:=g.h false (by simp [c4]);replace g:=Hid.mk g;simp only [zb,aR,ze,zf, *];exact g.h
    ·have g:=g.h false (by simp [c3]);replace g:=Hid.mk g;simp only [zb,aR,ze,zf, *];exact g.h
  have n3:(e.kind == 3)=false:=by simp [k3]
  by_cases k4:e.kind=4
  ·have c1:(e.kind == 4)=true:=by simp [k4]
   replace k4:=Hid.mk k4;simp only [zb,aR,ze,zf,zu, *];refine no_c o1 _ _ _ _ _ fun h3 l3=>?_;have g3:=l3.get g2;have es:noQ e.op e.n e.name true false false=(e.n == 0 && e.name == []):=by simp [noQ]
   rw [es];have sh:zr e.kind e.op e.n e.name=(decide (0 < jv e.op) && e.n == 0 && e.name == []):=by simp [zr,k4.h]
   have e1:((2:Nat):Int)=2:=rfl;cases c2:(e.n == 0 && e.name == []) with
   | false =>
    have g:=fun okv (hok:okv=zr e.kind e.op e.n e.name)=>fin.h h3 okv 2 (iI e.kind) l3 (by rw [hok,k4.h];simp [uk]);rw [sh,e1] at g;have g:=g false (by rw [Bool.and_assoc,c2];simp);replace g:=Hid.mk g;clear fin l3 sh es;simp only [zb, *];exact g.h
   | true =>
    replace fin:=za fin;replace l3:=za l3;replace sh:=za sh;simp only [zb,aR, *];refine ye8 e.op _ _ fun h4 l4=>?_;have g:=fun okv (hok:okv=zr e.kind e.op e.n e.name)=>fin.h.h h4 okv 2 (iI e.kind) (l3.h.trans l4) (by rw [hok,k4.h];simp [uk]);rw [sh.h,e1] at g;have g:=g (decide (0 < jv e.op)) (by rw [Bool.and_assoc,c2];simp);have g4:=l4.get g3;clear fin l3 sh es l4;by_cases c3:0 < jv e.op
    ·have c3' : (0:Int) < (jv e.op:Int):=by omega
     rw [show decide (0 < jv e.op)=true by simp [c3]] at g;replace g:=Hid.mk g;simp only [zb,ze,zf, *];exact g.h
    ·have c3' : ¬ (0:Int) < (jv e.op:Int):=by omega
     rw [show decide (0 < jv e.op)=false by simp [c3]] at g;replace g:=Hid.mk g;simp only [zb,ze,zf, *];exact g.h
  have n4:(e.kind == 4)=false:=by simp [k4]
  by_cases k5:e.kind=5
  ·have c1:(e.kind == 5)=true:=by simp [k5]
   replace k5:=Hid.mk k5;simp only [zb,aR,ze,zf,zu, *];refine no_c o1 _ _ _ _ _ fun h3 l3=>?_;have g3:=l3.get g2;have es:noQ e.op e.n e.name false false true=(e.op == 0 && e.n == 0):=by simp [noQ]
   rw [es];have g:=fun okv (hok:okv=zr e.kind e.op e.n e.name)=>fin.h h3 okv 1 (iI e.kind) l3 (by rw [hok,k5.h];simp [uk]);have sh:zr e.kind e.op e.n e.name=(zo e.name && e.op == 0 && e.n == 0):=by simp [zr,k5.h]
   have e1:((1:Nat):Int)=1:=rfl;rw [sh,e1] at g;replace g:=za g;clear fin l3 sh es;cases c2:(e.op == 0 && e.n == 0) with
   | false =>
    have g:=g.h false (by rw [Bool.and_assoc,c2];simp);replace g:=Hid.mk g;simp only [zb, *];exact g.h
   | true =>
    have g:=g.h (zo e.name) (by rw [Bool.and_assoc,c2];simp);replace g:=Hid.mk g;simp only [zb, *];exact g.h
  have n5:(e.kind == 5)=false:=by simp [k5]
  have g:=fin.h h2 false 0 (iI e.kind) (.refl _) (by simp [zr,k1,k2,k3,k4,k5]);replace g:=Hid.mk g;clear fin;simp only [zb,aR,ze,zf, *];exact g.h
theorem depth_c:∀ left,left≤30→DepC left:=by
 intro left;induction left with
 | zero=>intro hl;exact yb4 0 hl fun l h=>by omega
 | succ l ih=>intro hl;exact yb4 _ hl fun l' h=>by cases h;exact ih (by omega)
theorem zs1 {h:Heap}{e:Ex}{x:lVq}(hx:ExC h e x) (Q:vPq) (hq:∀ h',h.le h' → Q (.bool (yg e 30)) h'):CallW Tryz.prog 176 [.agg x.toArray] h Q:=by
 have hx0:=hx;obtain ⟨v,rfl,hargs⟩:=hx.cells;have b1:=J2 (k:=e.kind) (o:=e.op) (n:=e.n) (m:=e.name) hargs.one;obtain ⟨q,h1,eq,eh1,gq,lh1⟩:=zj h [iI e.kind,iI e.op,iI e.n,str e.name,v];have hx1:=hx0.mono lh1;clear hx hx0 hargs;replace hx1:=za hx1;replace lh1:=za lh1;refine zg (k:=2) ok176 rfl rfl rfl fun N=>?_;rw [Yo c176 Zm rfl];delta c176;replace hq:=za hq;simp only [zb,aR,zu, *];refine depth_c 30 (by omega) e _ _ _ hx1.h fun h2 d l2 hd1 hd2=>?_;cases hr:yg e 30 with
 | true =>
  have:=hd1 hr;have hd:(d:Int)≤30:=by omega
  have g:=hq.h h2 (lh1.h.trans l2);rw [hr] at g;replace g:=Hid.mk g;clear hq hd1 hd2 l2 lh1 this;simp only [zb,ze,zf, *];exact g.h
 | false =>
  have:=hd2 hr;subst this;have g:=hq.h h2 (lh1.h.trans l2);rw [hr] at g;replace g:=Hid.mk g;have hd:¬ ((31:Nat):Int)≤30:=by omega
  clear hq hd1 hd2 l2 lh1;simp only [zb,ze,zf, *];exact g.h
def StmC (left:Nat):Prop:=∀ (s:St) (x:lVq) (h:Heap) (Q:vPq),StC h s x→(∀ h',h.le h' → Q (.bool (kg s left)) h')→CallW Tryz.prog 152 [.agg x.toArray,iI (left:Int)] h Q
def yj0 (left:Nat):Prop:=∀ (l:List St) (v:Value) (h:Heap) (Q:vPq),StsV h v l→(∀ h',h.le h' → Q (.bool (yk l left)) h')→CallW Tryz.prog 123 [v,iI (left:Int)] h Q
theorem Wm {left:Nat}(ih:StmC left):yj0 left:=by
 intro l v h Q hv hq;have hln:=hv.len;have hle:=hv.le;replace hv:=za hv;replace ih:=za ih;refine zg (k:=2) ok123 rfl rfl rfl fun N=>?_;rw [wn c123 u0 rfl];delta c123;replace hq:=za hq;simp only [zb, *];refine LoopW.upto l.length (fun i e h1=>h.le h1∧((l.take i).all fun s=>kg s left)=true ∧ ∃ x4,e=[v,iI (left:Int),.bool false,iI (i:Int),x4]) ?_ (Nat.zero_le _) ⟨.refl h,rfl,_,rfl⟩;rintro i _ h1 R hi ⟨hl1,ha,x4,rfl⟩ hR;delta qa6;by_cases hlt:i < l.length
 case neg =>
  have hlt' : ¬ (i:Int) < l.length:=by omega
  have hi2:i=l.length:=by omega
  have g:=hq.h h1 hl1;rw [vr,← List.take_length (l:=l),← hi2,ha] at g;replace g:=Hid.mk g;clear hq hR ha hi2;simp only [zb,ze,zf, *];exact g.h
 have hlt' : (i:Int) < l.length:=by omega
 obtain ⟨s,hs⟩:∃ e,l[i]? = some e:=⟨_,List.getElem?_eq_getElem hlt⟩;obtain ⟨id,off,cells,own,x,e1,e2,e3,hx,_⟩:=(hv.h.mono hl1).elem hs;have w:IntKind.i64.wrap ((i:Int) + 1)=((i + 1:Nat):Int):=by rw [zn (by omega) (by omega)];rfl
 have et:((l.take (i + 1)).all fun s=>kg s left)=(((l.take i).all fun s=>kg s left) && kg s left):=by rw [List.take_add_one,hs];simp
 have hmem:s ∈ l:=List.mem_of_getElem? hs;rw [ha] at et;replace hx:=za hx;replace ha:=za ha;replace hl1:=za hl1;replace et:=za et;replace hmem:=za hmem;clear hs;simp only [zb,aR,ze,zf, *];refine ih.h s x h1 _ hx.h fun h2 l2=>?_;cases hb:kg s left with
 | true =>
  have g:=hR.h _ h2 hlt ⟨hl1.h.trans l2,by rw [et.h,hb];rfl,.bool true,rfl⟩;replace g:=Hid.mk g;clear hR hq l2 et hmem;simp only [zb,ze,zf, *];exact g.h
 | false =>
  have g:=hq.h h2 (hl1.h.trans l2);have:yk l left=false:=by
   rw [vr,List.all_eq_false];exact ⟨s,hmem.h,by rw [hb];simp⟩
  rw [this] at g;replace g:=Hid.mk g;clear hR hq l2 et hmem this;simp only [zb, *];exact g.h
noncomputable def zr8:CCode:=(.seq (.seq (.reg Xe [(9,0)]) (.block 1 (.loop zj0))) (.seq (.reg Xd [(11,0)]) (.seq (.reg Xc [(12,0)]) (.seq (.reg Xb [(3,0)]) .ret))))
theorem st_rest2 {l:Nat}(hl:l + 1≤30) (ih:yj0 l){k n:Int}{m f:lBq}{va vt ve:Value}{args:List Ex}{thn els:List St}{h:Heap}{q:Nat}(hq0:h.get q=some (.blk [iI k,str m,str f,iI n,va,vt,ve] true)) (hva:ExsV h va args) (hvt:StsV h vt thn) (hve:StsV h ve els)
  {N:Nat}{vars:List Nat}{x0 x3 x5 x6 x7 x8 x9 x10 x11 x12 x13:Value}(Q:vPq)
  (hq:∀ h',h.le h' → Q (.bool (z7 args 30 && yk thn l && yk els l)) h') :
  W Tryz.prog N vars zr8 (ret1 3 Q) [x0,iI ((l + 1:Nat):Int),pT q 0,x3,iI (args.length:Int),x5,x6,x7,x8,x9,x10,x11,x12,x13] h:=by
 have la:=hva.len;have lea:=hva.le;replace hq:=za hq;replace hva:=za hva;replace hvt:=za hvt;replace hve:=za hve;replace ih:=za ih;replace hl:=za hl;replace lea:=za lea;delta zr8 Xe Xd Xc Xb;simp only [zb, *];refine LoopW.upto args.length (fun i e h1=>h.le h1∧((args.take i).all fun e=>yg e 30)=true ∧ ∃ x10,e=[x0,iI ((l + 1:Nat):Int),pT q 0,x3,iI (args.length:Int),x5,x6,x7,x8,iI i,x10,x11,x12,x13]) ?_ (Nat.zero_le _) ⟨.refl _,rfl,_,rfl⟩;rintro i _ h1 R hi ⟨hl1,ha,x10,rfl⟩ hR;have gq:=hl1.get hq0;delta zj0 zi9 zi8 zi7 zi6 zi5 zi4 zi3 zi2 zi1 zi0 X2 X1 X0 Xz Xy Xx Xw Xv Xu Xt Xs Xr Xq Xp Xo Xn Xm Xl Xk Xj Xi Xh Xg Xf Xe Xd Xc Xb;by_cases hlt:i < args.length
 case neg =>
  have hlt' : ¬ (i:Int) < args.length:=by omega
  have hi2:i=args.length:=by omega
  have ea:z7 args 30=true:=by rw [wr,← List.take_length (l:=args),← hi2,ha]
  have hq' : ∀ h',h.le h' → Q (.bool (yk thn l && yk els l)) h':=fun h' l'=>by have g:=hq.h h' l';rw [ea,Bool.true_and] at g;exact g
  have wl:IntKind.i64.wrap (((l + 1:Nat):Int) - 1)=(l:Int):=by have:=hl.h;rw [zn (by omega) (by omega)];omega
  subst hi2;clear hq hR ha ea hq0;replace hl1:=za hl1;replace hq':=za hq';simp only [zb,aR,ze,zf, *];refine ih.h thn vt h1 _ (hvt.h.mono hl1.h) fun h2 l2=>?_;have gq2:=l2.get gq;have l02:=hl1.h.trans l2;replace l2:=za l2;replace l02:=za l02;simp only [zb,aR,ze,zf, *];refine ih.h els ve h2 _ (hve.h.mono l02.h) fun h3 l3=>?_;have g:=hq'.h h3 (l02.h.trans l3);clear gq gq2 l2 l02 l3 hq';cases hw:yk thn l with
  | true =>
   rw [hw,Bool.true_and] at g;replace g:=Hid.mk g;simp only [zb, *];exact g.h
  | false =>
   rw [hw,Bool.false_and] at g;replace g:=Hid.mk g;simp only [zb, *];exact g.h
 have hlt' : (i:Int) < args.length:=by omega
 obtain ⟨e,he⟩:∃ e,args[i]? = some e:=⟨_,List.getElem?_eq_getElem hlt⟩;obtain ⟨id,off,cells,own,x,e1,e2,e3,hx,_⟩:=(hva.h.mono hl1).elem he;have w:IntKind.i64.wrap ((i:Int) + 1)=((i + 1:Nat):Int):=by have:=lea.h;rw [zn (by omega) (by omega)];rfl
 have et:((args.take (i + 1)).all fun e=>yg e 30)=(((args.take i).all fun e=>yg e 30) && yg e 30):=by rw [List.take_add_one,he];simp
 have hmem:e ∈ args:=List.mem_of_getElem? he;rw [ha] at et;replace hx:=za hx;replace ha:=za ha;replace hl1:=za hl1;replace et:=za et;replace hmem:=za hmem;clear he;simp only [zb,aR,ze,zf, *];refine zs1 hx.h _ fun h2 l2=>?_;cases hb:yg e 30 with
 | true =>
  have g:=hR.h _ h2 hlt ⟨hl1.h.trans l2,by rw [et.h,hb];rfl,.bool true,rfl⟩;replace g:=Hid.mk g;clear hR hq l2 et hmem;simp only [zb,ze,zf, *];exact g.h
 | false =>
  have g:=hq.h h2 (hl1.h.trans l2);have:z7 args 30=false:=by
   rw [wr,List.all_eq_false];exact ⟨e,hmem.h,by rw [hb];simp⟩
  rw [this] at g;replace g:=Hid.mk g;clear hR hq l2 et hmem this;simp only [zb, *];exact g.h
noncomputable def zy3:CCode:=(.seq (.rcond Xg [] 0 (.seq (.reg Xf [(3,0)]) .ret) .skip) zr8)
theorem st_rest {l:Nat}(hl:l + 1≤30) (ih:yj0 l){k n:Int}{m f:lBq}{va vt ve:Value}{args:List Ex}{thn els:List St}{h:Heap}{q:Nat}(hq0:h.get q=some (.blk [iI k,str m,str f,iI n,va,vt,ve] true)) (hva:ExsV h va args) (hvt:StsV h vt thn) (hve:StsV h ve els)
  {many:Nat}{th nm fr:Bool}{most:Int}{N:Nat}{vars:List Nat}{x0 x3 x9 x10 x11 x12 x13:Value}(Q:vPq)
  (hq:∀ h',h.le h' → Q (.bool (nm && fr && decide (0≤n) && decide (n≤most) && args.length == many && (th || thn.length == 0) && (k == 6 || els.length == 0) && z7 args 30 && yk thn l && yk els l)) h') :
  W Tryz.prog N vars zy3 (ret1 3 Q) [x0,iI ((l + 1:Nat):Int),pT q 0,x3,iI (many:Int),.bool th,.bool nm,.bool fr,iI most,x9,x10,x11,x12,x13] h:=by
 have la:=hva.len;have lea:=hva.le;have lt:=hvt.len;have le:=hve.len;have hno:∀ b:Bool,b=false→(nm && fr && decide (0≤n) && decide (n≤most) && args.length == many && (th || thn.length == 0) && (k == 6 || els.length == 0) && z7 args 30 && yk thn l && yk els l)=b→Hid (Q (.bool false) h):=fun b hb e=>⟨by
  have g:=hq h (.refl _);rw [e,hb] at g;exact g⟩
 replace hq:=za hq;replace hva:=za hva;replace hvt:=za hvt;replace hve:=za hve;replace hno:=za hno;replace ih:=za ih;replace hl:=za hl;replace lea:=za lea;delta zy3 Xg Xf;cases nm with
 | false =>
  have g:=hno.h _ rfl (by simp);simp only [zb, *];exact g.h
 | true =>
 cases fr with
 | false =>
  have g:=hno.h _ rfl (by simp);simp only [zb, *];exact g.h
 | true =>
 by_cases hn0:n < 0
 ·have g:=hno.h _ rfl (by
  have:decide (0≤n)=false:=by simp;omega
  rw [this];simp)
  simp only [zb,aR,ze,zf, *];exact g.h
 by_cases hnm:most < n
 ·have g:=hno.h _ rfl (by
  have:decide (n≤most)=false:=by simp;omega
  rw [this];simp)
  simp only [zb,aR,ze,zf, *];exact g.h
 by_cases hm:args.length=many
 case neg =>
  have hm' : ((args.length:Int) != (many:Int))=true:=by simp;omega
  have g:=hno.h _ rfl (by
   have:(args.length == many)=false:=by simpa using hm
   rw [this];simp)
  clear hm;simp only [zb,aR,ze,zf, *];exact g.h
 have hm' : ((args.length:Int) != (many:Int))=false:=by simp;omega
 have hth:(th=false∧(0:Int) < (thn.length:Int))∨((th || thn.length == 0)=true∧(th=true∨(th=false ∧ ¬ (0:Int) < (thn.length:Int)))):=by
  cases th with
  | true=>exact .inr ⟨rfl,.inl rfl⟩
  | false =>
   by_cases h0:thn.length=0
   ·exact .inr ⟨by simp [h0],.inr ⟨rfl,by omega⟩⟩
   ·exact .inl ⟨rfl,by omega⟩
 rcases hth with ⟨rfl,h0⟩ | ⟨hth,hth2⟩
 ·have g:=hno.h _ rfl (by
  have:(thn.length == 0)=false:=beq_eq_false_iff_ne.2 (by omega);rw [this];simp)
  simp only [zb,aR,ze,zf, *];exact g.h
 have hel:((k != 6)=true∧(0:Int) < (els.length:Int))∨((k == 6 || els.length == 0)=true∧((k != 6)=false∨((k != 6)=true ∧ ¬ (0:Int) < (els.length:Int)))):=by
  by_cases h6:k=6
  ·exact .inr ⟨by simp [h6],.inl (by simp [h6])⟩
  ·by_cases h0:els.length=0
   ·exact .inr ⟨by simp [h0],.inr ⟨by simpa using h6,by omega⟩⟩
   ·exact .inl ⟨by simpa using h6,by omega⟩
 rcases hel with ⟨h6,h0⟩ | ⟨hel,hel2⟩
 ·have g:=hno.h _ rfl (by
  have a1:(els.length == 0)=false:=beq_eq_false_iff_ne.2 (by omega);have a2:(k == 6)=false:=by simpa using h6
  rw [a1,a2];simp)
  rcases hth2 with rfl | ⟨rfl,h7⟩
  ·simp only [zb,aR,ze,zf, *];exact g.h
  ·simp only [zb,aR,ze,zf, *];exact g.h
 have fin:=fun x9=>st_rest2 (N:=N) (vars:=vars) (x0:=x0) (x3:=x3) (x5:=.bool th) (x6:=.bool true) (x7:=.bool true) (x8:=iI most) (x9:=x9) (x10:=x10) (x11:=x11) (x12:=x12) (x13:=x13) hl.h ih.h hq0 hva.h hvt.h hve.h Q fun h' l'=>by
  have g:=hq.h h' l';have b1:decide (0≤n)=true:=by simp;omega
  have b2:decide (n≤most)=true:=by simp;omega
  have b3:(args.length == many)=true:=by simpa using hm
  rw [b1,b2,b3,hth,hel] at g;simpa using g
 rw [hm] at fin;replace fin:=Hid.mk (fin x9);clear hno hq hva hvt hve hth hel;rcases hth2 with rfl | ⟨rfl,h7⟩<;>rcases hel2 with h8 | ⟨h8,h9⟩
 ·simp only [zb,aR,ze,zf, *];exact fin.h
 ·simp only [zb,aR,ze,zf, *];exact fin.h
 ·simp only [zb,aR,ze,zf, *];exact fin.h
 ·simp only [zb,aR,ze,zf, *];exact fin.h
theorem Ux {left:Nat}(hl:left≤30) (ih:∀ l,left=l + 1→yj0 l):StmC left:=by
 intro s x h Q hx hq;obtain ⟨k,m,f,n,args,thn,els⟩:=s;obtain ⟨va,vt,ve,rfl,hva,hvt,hve⟩:=hx.cells;have b1:=qb1 (k:=k) (n:=n) (m:=m) (f:=f) hva.one hvt.one hve.one;obtain ⟨q,h1,eq,eh1,gq,lh1⟩:=zj h [iI k,str m,str f,iI n,va,vt,ve];have o1:=hva.one;have o2:=hvt.one;have o3:=hve.one;replace hva:=hva.mono lh1;replace hvt:=hvt.mono lh1;replace hve:=hve.mono lh1;clear hx;replace hva:=za hva;replace hvt:=za hvt;replace hve:=za hve;replace lh1:=za lh1;replace ih:=za ih;replace hl:=za hl;refine zg (k:=3) ok152 rfl rfl rfl fun N=>?_;show W Tryz.prog N _ ((.seq (.reg zi9 [(2,1),(3,0)]) (.seq (.rcond zi8 [] 0 (.seq (.reg zi7 [(3,0)]) .ret) .skip) (.seq (.reg zi6 [(4,0)]) (.seq (.reg zi5 [(5,0)]) (.seq (.reg zi4 [(6,0)]) (.seq (.reg zi3 [(7,0)]) (.seq (.reg zi2 [(8,0)]) (.seq (.seq (.reg zi1 [(13,0)]) (.block 0 (.rcond zi0 [] 0 (.reg X2 [(4,0)]) (.rcond X1 [] 0 (.seq (.reg X0 [(7,0)]) (.reg Xz [(8,0)])) (.rcond Xy [] 0 (.seq (.reg Xx [(4,0)]) (.reg Xw [(8,0)])) (.rcond Xv [] 0 (.reg Xu [(4,0)]) (.rcond Xt [] 0 (.reg Xs [(5,0)]) (.rcond Xr [] 0 (.seq (.reg Xq [(4,0)]) (.seq (.reg Xp [(5,0)]) (.reg Xo [(6,0)]))) (.rcond Xn [] 0 (.seq (.reg Xm [(5,0)]) (.seq (.reg Xl [(8,0)]) (.reg Xk [(6,0)]))) (.rcond Xj [] 0 (.reg Xi [(6,0)]) (.seq (.reg Xh [(3,0)]) .ret))))))))))) zy3))))))))) _ [stV k m f n va vt ve,iI (left:Int),udq,udq,udq,udq,udq,udq,udq,udq,udq,udq,udq,udq] _;delta zi9 zi8 zi7 zi6 zi5 zi4 zi3 zi2 zi1 zi0 X2 X1 X0 Xz Xy Xx Xw Xv Xu Xt Xs Xr Xq Xp Xo Xn Xm Xl Xk Xj Xi Xh;replace hq:=Hid.mk hq;cases left with
 | zero =>
  have g:=hq.h h1 lh1.h;have g:Q (.bool false) h1:=g;replace g:=Hid.mk g;have z:((0:Nat):Int) < 1:=by decide
  clear hq;simp only [zb,ze,zf, *];exact g.h
 | succ l =>
  have z:¬ ((l + 1:Nat):Int) < 1:=by omega
  simp only [zb,aR,ze,zf, *];refine Zc h1 _ fun h2 l2=>?_;have g2:=l2.get gq;have fin:∀ (h' : Heap) (x13:Value),h2.le h' → kz k=true →
    W Tryz.prog N c152.vars zy3 (ret1 3 Q) [stV k m f n va vt ve,iI ((l + 1:Nat):Int),pT q 0,.bool false,iI (vd k:Int),.bool (ky k),.bool (ke m (vm k)),.bool (ke f (Km k)),iI (vp k),udq,udq,udq,udq,x13] h':=fun h' x13 hl' hk=>by
   have l1':=l2.trans hl';refine st_rest hl.h (ih.h l rfl) (hl'.get g2) (hva.h.mono l1') (hvt.h.mono l1') (hve.h.mono l1') Q fun h3 l3=>?_;have g:=hq.h h3 (lh1.h.trans (l1'.trans l3));have e:kg (.mk k m f n args thn els) (l + 1)=(ke m (vm k) && ke f (Km k) && decide (0≤n) && decide (n≤vp k) && args.length == vd k && (ky k || thn.length == 0) && (k == 6 || els.length == 0) && z7 args 30 && yk thn l && yk els l):=by
    have e6:wm k=(k == 6):=by unfold wm;by_cases h:k=6<;>simp [h]
    simp only [kg,hk,Bool.true_and,e6];generalize (ky k || thn.length == 0)=b1;generalize (k == 6 || els.length == 0)=b2;generalize z7 args 30=b3;cases b1<;>cases b2<;>cases b3<;>simp
   rw [e] at g;exact g
  have bad:kz k=false→Q (.bool false) h2:=fun hk=>by
   have g:=hq.h h2 (lh1.h.trans l2);have e:kg (.mk k m f n args thn els) (l + 1)=false:=by simp only [kg,hk,Bool.false_and]
   rw [e] at g;exact g
  clear gq hva hvt hve b1 hq ih;replace fin:=za fin;replace bad:=za bad;replace l2:=za l2;replace lh1:=za lh1;by_cases k1:k=1
  ·subst k1;have g:=Hid.mk (fin.h h2 (iI 1) (.refl _) rfl);clear fin bad;simp only [zb,aR,ze,zf,Jp, *];exact g.h
  have n1:(k == 1)=false:=by simp [k1]
  by_cases k2:k=2
  ·subst k2;simp only [zb,aR,ze,zf,Jp, *];refine Zc h2 _ fun h3 l3=>?_;have g3:=l3.get g2;have g:=Hid.mk (fin.h h3 (iI 2) l3 rfl);clear fin bad l3 g2;simp only [zb, *];exact g.h
  have n2:(k == 2)=false:=by simp [k2]
  by_cases k3:k=3
  ·subst k3;have g:=Hid.mk (fin.h h2 (iI 3) (.refl _) rfl);clear fin bad;simp only [zb,aR,ze,zf,Jp, *];exact g.h
  have n3:(k == 3)=false:=by simp [k3]
  by_cases k4:k=4
  ·subst k4;have g:=Hid.mk (fin.h h2 (iI 4) (.refl _) rfl);clear fin bad;simp only [zb,aR,ze,zf,Jp, *];exact g.h
  have n4:(k == 4)=false:=by simp [k4]
  by_cases k5:k=5
  ·subst k5;have g:=Hid.mk (fin.h h2 (iI 5) (.refl _) rfl);clear fin bad;simp only [zb,aR,ze,zf,Jp, *];exact g.h
  have n5:(k == 5)=false:=by simp [k5]
  by_cases k6:k=6
  ·subst k6;have g:=Hid.mk (fin.h h2 (iI 6) (.refl _) rfl);clear fin bad;simp only [zb,aR,ze,zf,Jp, *];exact g.h
  have n6:(k == 6)=false:=by simp [k6]
  by_cases k7:k=7
  ·subst k7;have g:=Hid.mk (fin.h h2 (iI 7) (.refl _) rfl);clear fin bad;simp only [zb,aR,ze,zf,Jp, *];exact g.h
  have n7:(k == 7)=false:=by simp [k7]
  by_cases k8:k=8
  ·subst k8;have g:=Hid.mk (fin.h h2 (iI 8) (.refl _) rfl);clear fin bad;simp only [zb,aR,ze,zf,Jp, *];exact g.h
  have n8:(k == 8)=false:=by simp [k8]
  have g:=Hid.mk (bad.h (by unfold kz;simp;omega));clear fin bad;simp only [zb,aR,ze,zf,Jp, *];exact g.h
theorem ym1:∀ left,left≤30→StmC left∧yj0 left:=by
 intro left;induction left with
 | zero=>intro hl;have a:=Ux (left:=0) hl (fun l h=>by omega);exact ⟨a,Wm a⟩
 | succ l ih=>intro hl;have a:=Ux hl (fun l' h=>by cases h;exact (ih (by omega)).2);exact ⟨a,Wm a⟩
theorem ye5 {left:Nat}(h:left≤30):yj0 left:=(ym1 left h).2
theorem refDev_w {h:Heap}{q:Nat}{H:Int}{d r t:Value}{l:List Nm}(gq:h.get q=some (.blk [iI H,d,r,t] true)) (hv:NmsV h d l){N:Nat}{vars:List Nat}{x0 x4 x5 x6 x7 x8 x9 x10:Value}(RQ:AExit→lVq→Heap→Prop)
  (hq:∀ h' y,h.le h' → l.all Zr=true→RQ (.exit 0) [x0,pT q 0,.bool false,iI (l.length:Int),y,x5,x6,x7,x8,x9,x10] h')
  (hno:∀ h' i y,h.le h' → l.all Zr=false→RQ .ret [x0,pT q 0,.bool false,i,y,x5,x6,x7,x8,x9,x10] h') :
  LoopW Tryz.prog N vars yx0 [x0,pT q 0,.bool false,iI 0,x4,x5,x6,x7,x8,x9,x10] h RQ:=by
 have hle:=hv.2;replace hv:=za hv;replace hq:=za hq;replace hno:=za hno;refine LoopW.upto l.length (fun i e h1=>h.le h1∧(l.take i).all Zr=true ∧ ∃ y,e=[x0,pT q 0,.bool false,iI (i:Int),y,x5,x6,x7,x8,x9,x10]) ?_ (Nat.zero_le _) ⟨.refl h,rfl,_,rfl⟩;rintro i _ h1 R hi ⟨hl1,ha,y,rfl⟩ hR;have gq:=hl1.get gq;have hv1:=hv.h.mono hl1;have hln:=hv1.len;delta yx0;by_cases hlt:i < l.length
 case neg =>
  have hlt' : ¬ (i:Int) < l.length:=by omega
  have hi2:i=l.length:=by omega
  have g:=hq.h h1 y hl1 (by rw [← List.take_length (l:=l),← hi2,ha]);rw [← hi2] at g;replace g:=Hid.mk g;clear hq hno hR ha hi2;replace hl1:=za hl1;replace hv1:=za hv1;simp only [zb,aR,ze,zf, *];exact g.h
 have hlt' : (i:Int) < l.length:=by omega
 obtain ⟨s,hs⟩:∃ e,l[i]? = some e:=⟨_,List.getElem?_eq_getElem hlt⟩;obtain ⟨id,off,cells,own,e1,e2,_,e3⟩:=SlV.elem hv1.1 (i:=i) (x:=[str s.name,iI s.n]) (by simp [hs]);have f0:cells[off]? = some (str s.name):=e3 0 (by omega);have f1:cells[off + 1]? = some (iI s.n):=e3 1 (by omega);have w:IntKind.i64.wrap ((i:Int) + 1)=((i + 1:Nat):Int):=by rw [zn (by omega) (by omega)];rfl
 have et:(l.take (i + 1)).all Zr=((l.take i).all Zr && Zr s):=by rw [List.take_add_one,hs];simp
 have hmem:s ∈ l:=List.mem_of_getElem? hs;rw [ha] at et;have hbad:Zr s=false→l.all Zr=false:=fun hb=>by
  rw [List.all_eq_false];exact ⟨s,hmem,by rw [hb];simp⟩
 have hdef:Zr s=(zo s.name && decide (1≤s.n∧s.n≤3)):=rfl;clear hs e3;replace ha:=za ha;replace hl1:=za hl1;replace et:=za et;replace hmem:=za hmem;replace hv1:=za hv1;replace hbad:=za hbad;replace hdef:=za hdef;simp only [zb,aR,ze,zf, *];refine Zc h1 _ fun h2 l2=>?_;have gq2:=l2.get gq;have e22:=l2.get e2;clear gq e2;cases hb:zo s.name with
 | false =>
  have g:=hno.h h2 (iI i) (.bool false) (hl1.h.trans l2) (hbad.h (by rw [hdef.h,hb];rfl));replace g:=Hid.mk g;clear hR hq hno l2 et hmem hbad hdef;simp only [zb, *];exact g.h
 | true =>
  by_cases h1n:s.n < 1
  ·have g:=hno.h h2 (iI i) (.bool true) (hl1.h.trans l2) (hbad.h (by rw [hdef.h,hb];simp;omega));replace g:=Hid.mk g;clear hR hq hno l2 et hmem hbad hdef;simp only [zb,aR,ze,zf, *];exact g.h
  by_cases h2n:3 < s.n
  ·have g:=hno.h h2 (iI i) (.bool true) (hl1.h.trans l2) (hbad.h (by rw [hdef.h,hb];simp;omega));replace g:=Hid.mk g;clear hR hq hno l2 et hmem hbad hdef;simp only [zb,aR,ze,zf, *];exact g.h
  have g:=hR.h _ h2 hlt ⟨hl1.h.trans l2,by rw [et.h,hdef.h,hb];simp;omega,.bool true,rfl⟩;replace g:=Hid.mk g;clear hR hq hno l2 et hmem hbad hdef;simp only [zb,aR,ze,zf, *];exact g.h
theorem refRes_w {h:Heap}{q:Nat}{H:Int}{d r t:Value}{l:List Nm}(gq:h.get q=some (.blk [iI H,d,r,t] true)) (hv:NmsV h r l){N:Nat}{vars:List Nat}{x0 x3 x4 x6 x7 x8 x9 x10:Value}(RQ:AExit→lVq→Heap→Prop)
  (hq:∀ h' y,h.le h' → l.all Zo=true→RQ (.exit 2) [x0,pT q 0,.bool false,x3,x4,iI (l.length:Int),y,x7,x8,x9,x10] h')
  (hno:∀ h' i y,h.le h' → l.all Zo=false→RQ .ret [x0,pT q 0,.bool false,x3,x4,i,y,x7,x8,x9,x10] h') :
  LoopW Tryz.prog N vars zv9 [x0,pT q 0,.bool false,x3,x4,iI 0,x6,x7,x8,x9,x10] h RQ:=by
 have hle:=hv.2;replace hv:=za hv;replace hq:=za hq;replace hno:=za hno;refine LoopW.upto l.length (fun i e h1=>h.le h1∧(l.take i).all Zo=true ∧ ∃ y,e=[x0,pT q 0,.bool false,x3,x4,iI (i:Int),y,x7,x8,x9,x10]) ?_ (Nat.zero_le _) ⟨.refl h,rfl,_,rfl⟩;rintro i _ h1 R hi ⟨hl1,ha,y,rfl⟩ hR;have gq:=hl1.get gq;have hv1:=hv.h.mono hl1;have hln:=hv1.len;delta zv9;by_cases hlt:i < l.length
 case neg =>
  have hlt' : ¬ (i:Int) < l.length:=by omega
  have hi2:i=l.length:=by omega
  have g:=hq.h h1 y hl1 (by rw [← List.take_length (l:=l),← hi2,ha]);rw [← hi2] at g;replace g:=Hid.mk g;clear hq hno hR ha hi2;replace hl1:=za hl1;replace hv1:=za hv1;simp only [zb,aR,ze,zf, *];exact g.h
 have hlt' : (i:Int) < l.length:=by omega
 obtain ⟨s,hs⟩:∃ e,l[i]? = some e:=⟨_,List.getElem?_eq_getElem hlt⟩;obtain ⟨id,off,cells,own,e1,e2,_,e3⟩:=SlV.elem hv1.1 (i:=i) (x:=[str s.name,iI s.n]) (by simp [hs]);have f0:cells[off]? = some (str s.name):=e3 0 (by omega);have f1:cells[off + 1]? = some (iI s.n):=e3 1 (by omega);have w:IntKind.i64.wrap ((i:Int) + 1)=((i + 1:Nat):Int):=by rw [zn (by omega) (by omega)];rfl
 have et:(l.take (i + 1)).all Zo=((l.take i).all Zo && Zo s):=by rw [List.take_add_one,hs];simp
 have hmem:s ∈ l:=List.mem_of_getElem? hs;rw [ha] at et;have hbad:Zo s=false→l.all Zo=false:=fun hb=>by
  rw [List.all_eq_false];exact ⟨s,hmem,by rw [hb];simp⟩
 have hdef:Zo s=(zo s.name && decide (1≤s.n∧s.n≤8)):=rfl;clear hs e3;replace ha:=za ha;replace hl1:=za hl1;replace et:=za et;replace hmem:=za hmem;replace hv1:=za hv1;replace hbad:=za hbad;replace hdef:=za hdef;simp only [zb,aR,ze,zf, *];refine Zc h1 _ fun h2 l2=>?_;have gq2:=l2.get gq;have e22:=l2.get e2;clear gq e2;cases hb:zo s.name with
 | false =>
  have g:=hno.h h2 (iI i) (.bool false) (hl1.h.trans l2) (hbad.h (by rw [hdef.h,hb];rfl));replace g:=Hid.mk g;clear hR hq hno l2 et hmem hbad hdef;simp only [zb, *];exact g.h
 | true =>
  by_cases h1n:s.n < 1
  ·have g:=hno.h h2 (iI i) (.bool true) (hl1.h.trans l2) (hbad.h (by rw [hdef.h,hb];simp;omega));replace g:=Hid.mk g;clear hR hq hno l2 et hmem hbad hdef;simp only [zb,aR,ze,zf, *];exact g.h
  by_cases h2n:8 < s.n
  ·have g:=hno.h h2 (iI i) (.bool true) (hl1.h.trans l2) (hbad.h (by rw [hdef.h,hb];simp;omega));replace g:=Hid.mk g;clear hR hq hno l2 et hmem hbad hdef;simp only [zb,aR,ze,zf, *];exact g.h
  have g:=hR.h _ h2 hlt ⟨hl1.h.trans l2,by rw [et.h,hdef.h,hb];simp;omega,.bool true,rfl⟩;replace g:=Hid.mk g;clear hR hq hno l2 et hmem hbad hdef;simp only [zb,aR,ze,zf, *];exact g.h
abbrev zTs6:lVq:=[s0q,.bool false,iI 0,iI 0,iI 0,nSq]
theorem st_ts6 (h:Heap) (m:lBq) (b:Bool) (a p i:Int){u:Value}(hu:u.oneCell' = true):zt 6 (h.alloc (.blk zTs6 true)) [pT h.next 0,tsV m b a p i u]=some (udq,h.alloc (.blk [str m,.bool b,iI a,iI p,iI i,u] true)) :=
 zx rfl rfl rfl (by simp [hu];simp [Value.oneCell'])
theorem refTsk_w {h:Heap}{q:Nat}{H:Int}{d r t:Value}{l:List Tsk}(gq:h.get q=some (.blk [iI H,d,r,t] true)) (hv:TssV h t l) (hle:l.length≤140737488355328){N:Nat}{vars:List Nat}{x0 x3 x4 x5 x6 x8 x9 x10:Value}(RQ:AExit→lVq→Heap→Prop)
  (hq:∀ h' i x8 x9 x10,h.le h' → l.all js=true→RQ (.exit 4) [x0,pT q 0,.bool false,x3,x4,x5,x6,i,x8,x9,x10] h')
  (hno:∀ h' i x8 x9 x10,h.le h' → l.all js=false→RQ .ret [x0,pT q 0,.bool false,x3,x4,x5,x6,i,x8,x9,x10] h') :
  LoopW Tryz.prog N vars zv8 [x0,pT q 0,.bool false,x3,x4,x5,x6,iI 0,x8,x9,x10] h RQ:=by
 replace hv:=za hv;replace hq:=za hq;replace hno:=za hno;refine LoopW.upto l.length (fun i e h1=>h.le h1∧(l.take i).all js=true ∧ ∃ x8 x9 x10,e=[x0,pT q 0,.bool false,x3,x4,x5,x6,iI (i:Int),x8,x9,x10]) ?_ (Nat.zero_le _) ⟨.refl h,rfl,_,_,_,rfl⟩;rintro i _ h1 R hi ⟨hl1,ha,y8,y9,y10,rfl⟩ hR;have gq:=hl1.get gq;have hv1:=hv.h.mono hl1;have hln:=hv1.len;delta zv8;by_cases hlt:i < l.length
 case neg =>
  have hlt' : ¬ (i:Int) < l.length:=by omega
  have hi2:i=l.length:=by omega
  have g:=hq.h h1 (iI i) y8 y9 y10 hl1 (by rw [← List.take_length (l:=l),← hi2,ha]);replace g:=Hid.mk g;clear hq hno hR ha hi2;replace hl1:=za hl1;replace hv1:=za hv1;simp only [zb,aR,ze,zf, *];exact g.h
 have hlt' : (i:Int) < l.length:=by omega
 obtain ⟨s,hs⟩:∃ e,l[i]? = some e:=⟨_,List.getElem?_eq_getElem hlt⟩;obtain ⟨id,off,cells,own,u,e1,e2,e3,hu⟩:=TssV.elem hv1 hs;have w:IntKind.i64.wrap ((i:Int) + 1)=((i + 1:Nat):Int):=by rw [zn (by omega) (by omega)];rfl
 have et:(l.take (i + 1)).all js=((l.take i).all js && js s):=by rw [List.take_add_one,hs];simp
 have hmem:s ∈ l:=List.mem_of_getElem? hs;rw [ha] at et;have hbad:js s=false→l.all js=false:=fun hb=>by
  rw [List.all_eq_false];exact ⟨s,hmem,by rw [hb];simp⟩
 obtain ⟨nm,hb,hart,prio,line,body⟩:=s;have hdef:js ⟨nm,hb,hart,prio,line,body⟩=(zo nm && decide (0≤hart∧hart≤3) && decide (1≤prio∧prio≤7) && decide (0≤line∧line≤(if hb then 7 else 0)) && yk body 30):=rfl;have hu:StsV h1 u body:=hu;have e3:qu true off 6 cells=some (tsV nm hb hart prio line u):=e3;have o1:=hu.one;have st:=st_ts6 h1 nm hb hart prio line o1;obtain ⟨p2,h2,ep2,eh2,gp2,lh2⟩:=zj h1 [str nm,.bool hb,iI hart,iI prio,iI line,u];rw [eh2,ep2] at st;have hu2:=hu.mono lh2;have gq2:=lh2.get gq;have l02:=hl1.trans lh2;clear hs hl1 hu lh2;replace ha:=za ha;replace et:=za et;replace hmem:=za hmem;replace hv1:=za hv1;replace hbad:=za hbad;replace hdef:=za hdef;replace hu2:=za hu2;replace l02:=za l02;simp only [zb,aR,aW,ze,zf, *];refine Zc h2 _ fun h3 l3=>?_;have gp3:=l3.get gp2;have gq3:=l3.get gq2;have hu3:=hu2.h.mono l3;have l03:=l02.h.trans l3;clear gp2 gq2 hu2 l3;replace hu3:=za hu3;replace l03:=za l03;simp only [zb,aR, *];refine ye5 (left:=30) (by omega) body u h3 _ hu3.h fun h4 l4=>?_;have gp4:=l4.get gp3;have l04:=l03.h.trans l4;clear gp3 hu3 l4;have no:∀ y9 y10,js ⟨nm,hb,hart,prio,line,body⟩=false→Hid (RQ .ret [x0,pT q 0,.bool false,x3,x4,x5,x6,iI i,pT p2 0,y9,y10] h4):=fun y9 y10 hf=>⟨hno.h h4 _ _ _ _ l04 (hbad.h hf)⟩;replace no:=za no;replace l04:=za l04;clear hno hbad;cases hn:zo nm with
 | false =>
  have g:=no.h (.bool false) (.bool (yk body 30)) (by rw [hdef.h,hn];rfl);clear hR hq et hmem hdef no;simp only [zb, *];exact g.h
 | true =>
 cases hw:yk body 30 with
 | false =>
  have g:=no.h (.bool true) (.bool false) (by rw [hdef.h,hw];simp);clear hR hq et hmem hdef no;simp only [zb, *];exact g.h
 | true =>
 have no':=fun hf=>no.h (.bool true) (.bool true) hf;by_cases c1:hart < 0
 ·have g:=no' (by rw [hdef.h];simp;omega);clear hR hq et hmem hdef no no';simp only [zb,aR,ze,zf, *];exact g.h
 by_cases c2:3 < hart
 ·have g:=no' (by rw [hdef.h];simp;omega);clear hR hq et hmem hdef no no';simp only [zb,aR,ze,zf, *];exact g.h
 by_cases c3:prio < 1
 ·have g:=no' (by rw [hdef.h];simp;omega);clear hR hq et hmem hdef no no';simp only [zb,aR,ze,zf, *];exact g.h
 by_cases c4:7 < prio
 ·have g:=no' (by rw [hdef.h];simp;omega);clear hR hq et hmem hdef no no';simp only [zb,aR,ze,zf, *];exact g.h
 by_cases c5:line < 0
 ·have g:=no' (by rw [hdef.h];simp;omega);clear hR hq et hmem hdef no no';simp only [zb,aR,ze,zf, *];exact g.h
 by_cases c6:7 < line
 ·have g:=no' (by rw [hdef.h];cases hb<;>simp<;>omega);clear hR hq et hmem hdef no no';simp only [zb,aR,ze,zf, *];exact g.h
 cases hb with
 | true =>
  have g:=hR.h _ h4 hlt ⟨l04.h,by rw [et.h,hdef.h,hn,hw];simp;omega,pT p2 0,.bool true,.bool true,rfl⟩;replace g:=Hid.mk g;clear hR hq et hmem hdef no no';simp only [zb,aR,ze,zf, *];exact g.h
 | false =>
  by_cases c7:0 < line
  ·have g:=no' (by rw [hdef.h];simp;omega);clear hR hq et hmem hdef no no';simp only [zb,aR,ze,zf, *];exact g.h
  ·have g:=hR.h _ h4 hlt ⟨l04.h,by rw [et.h,hdef.h,hn,hw];simp;omega,pT p2 0,.bool true,.bool true,rfl⟩;replace g:=Hid.mk g;clear hR hq et hmem hdef no no';simp only [zb,aR,ze,zf, *];exact g.h
theorem ye6 {h:Heap}{p:Prg}{x:lVq}(hx:PrC h p x) (Q:vPq) (hq:∀ h',h.le h' → Q (.bool (ki p)) h'):CallW Tryz.prog 81 [.agg x.toArray] h Q:=by
 obtain ⟨d,r,t,rfl,hd,hr,ht⟩:=hx;obtain ⟨H,devs,ress,tasks⟩:=p;simp only at hd hr ht;have b1:=yy (n:=H) hd.one hr.one ht.one;obtain ⟨q,h1,eq,eh1,gq,lh1⟩:=zj h [iI H,d,r,t];have hd1:=hd.mono lh1;have hr1:=hr.mono lh1;have ht1:=ht.mono lh1;have ln1:=hd1.len;have ln2:=hr1.len;have ln3:=ht1.len;have hdef:ki ⟨H,devs,ress,tasks⟩=(decide (1≤H∧H≤4) && decide (devs.length≤8) && decide (ress.length≤8) && decide (tasks.length≤16) && devs.all Zr && ress.all Zo && tasks.all js):=rfl;clear hd hr ht;replace hd1:=za hd1;replace hr1:=za hr1;replace ht1:=za ht1;replace lh1:=za lh1;replace hdef:=za hdef;refine zg (k:=2) ok81 rfl rfl rfl fun N=>?_;rw [Yo c81 und10q rfl];delta c81;replace hq:=za hq;have no:ki ⟨H,devs,ress,tasks⟩=false → ∀ h',h1.le h' → Hid (Q (.bool false) h'):=fun hf h' l'=>⟨by have g:=hq.h h' (lh1.h.trans l');rw [hf] at g;exact g⟩;replace no:=za no;by_cases c1:H < 1
 ·have g:=no.h (by rw [hdef.h];simp;omega) h1 (.refl _);clear hq no;simp only [zb,aR,ze,zf, *];exact g.h
 by_cases c2:4 < H
 ·have g:=no.h (by rw [hdef.h];simp;omega) h1 (.refl _);clear hq no;simp only [zb,aR,ze,zf, *];exact g.h
 by_cases c3:(8:Int) < (devs.length:Int)
 ·have g:=no.h (by
  rw [hdef.h];have:decide (devs.length≤8)=false:=by simp;omega
  rw [this];simp) h1 (.refl _)
  clear hq no;simp only [zb,aR,ze,zf, *];exact g.h
 by_cases c4:(8:Int) < (ress.length:Int)
 ·have g:=no.h (by
  rw [hdef.h];have:decide (ress.length≤8)=false:=by simp;omega
  rw [this];simp) h1 (.refl _)
  clear hq no;simp only [zb,aR,ze,zf, *];exact g.h
 by_cases c5:(16:Int) < (tasks.length:Int)
 ·have g:=no.h (by
  rw [hdef.h];have:decide (tasks.length≤16)=false:=by simp;omega
  rw [this];simp) h1 (.refl _)
  clear hq no;simp only [zb,aR,ze,zf, *];exact g.h
 simp only [zb,aR,ze,zf, *];refine refDev_w gq hd1.h _ (fun h2 y l2 ha=>?_) fun h2 i y l2 ha=>?_
 case refine_2 =>
  have g:=no.h (by rw [hdef.h,ha];simp) h2 l2;clear hq no l2 ha;simp only [zb, *];exact g.h
 have gq2:=l2.get gq;have hr2:=hr1.h.mono l2;replace hr2:=za hr2;replace l2:=za l2;replace ha:=za ha;simp only [zb, *];refine refRes_w gq2 hr2.h _ (fun h3 y l3 hb=>?_) fun h3 i y l3 hb=>?_
 case refine_2 =>
  have g:=no.h (by rw [hdef.h,hb];simp) h3 (l2.h.trans l3);clear hq no l2 ha l3 hb;simp only [zb, *];exact g.h
 have gq3:=l3.get gq2;have ht3:=ht1.h.mono (l2.h.trans l3);replace ht3:=za ht3;replace l3:=za l3;replace hb:=za hb;simp only [zb, *];refine refTsk_w gq3 ht3.h (by have:=ht3.h;obtain ⟨xs,a,c,b⟩:=this;rw [← b.length];exact c) _ (fun h4 i y8 y9 y10 l4 hc=>?_) fun h4 i y8 y9 y10 l4 hc=>?_
 case refine_2 =>
  have g:=no.h (by rw [hdef.h,hc];simp) h4 ((l2.h.trans l3.h).trans l4);clear hq no l2 ha l3 hb l4 hc;simp only [zb, *];exact g.h
 have g:=hq.h h4 (lh1.h.trans ((l2.h.trans l3.h).trans l4));have hr:ki ⟨H,devs,ress,tasks⟩=true:=by rw [hdef.h,ha.h,hb.h,hc];simp;omega
 rw [hr] at g;replace g:=Hid.mk g;clear hq no l2 ha l3 hb l4 hc hr;simp only [zb, *];exact g.h
end Go.Eng.Sy
