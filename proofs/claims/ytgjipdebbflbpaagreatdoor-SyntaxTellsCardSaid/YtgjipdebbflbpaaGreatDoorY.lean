/-
  Part of a proof of the laws of layer 06 (syntax): the laws.
  Conditions: none.
-/
import Derived.Test.YtgjipdebbflbpaaGreatDoorBs
set_option linter.unusedSimpArgs false
set_option linter.unusedVariables false
namespace Go.Eng.Sy
open Go Go.Eng Go.Proofs
theorem Za (b:UInt8) (l:List UInt8):Kp (b::l)=if nm b then Kp l + 1 else 0:=by
 unfold Kp
 rw [List.takeWhile_cons]
 split<;>simp
def isDg (b:UInt8):Bool:=decide (48≤b.toNat) && decide (b.toNat≤57)
theorem u8_lt (b:UInt8):b.toNat < 256:=b.toNat_lt
theorem dg_facts {b:UInt8}(h:isDg b=true):b=b∧nm b=true∧b≠120∧b.toNat≤57:=by
 have:∀ n:Fin 256,isDg (UInt8.ofNat n.val)=true→nm (UInt8.ofNat n.val)=true∧UInt8.ofNat n.val≠120∧(UInt8.ofNat n.val).toNat≤57:=by decide +kernel
 have:=this ⟨b.toNat,u8_lt b⟩
 simp only [UInt8.ofNat_toNat] at this
 exact ⟨rfl,this h⟩
end Go.Eng.Sy
namespace Go.Eng.Sy
open Go Go.Eng Go.Proofs
theorem zy4 (b:UInt8) (h:Heap) (Q:Value→Heap→Prop) (hq:Q (.bool (isDg b)) h):CallW Tryz.prog 77 [.int .u8 b.toNat] h Q:=by
 refine zi (k:=1) ok77 rfl rfl rfl fun N=>?_
 rw [show y0 c77 [.int .u8 b.toNat]=[.int .u8 b.toNat,undef] from rfl]
 delta c77
 replace hq:=zb hq
 have hd:isDg b=(decide (48≤b.toNat) && decide (b.toNat≤57)):=rfl
 have go:∀ c,c=isDg b→Q (.bool c) h:=fun c e=>by rw [e];exact hq.h
 rw [hd] at go
 replace go:=Hid.mk go
 clear hq hd
 by_cases h1:(48:Int)≤(b.toNat:Int)<;>by_cases h2:(b.toNat:Int)≤57
 all_goals
  simp only [za,zf,zg, *]
  exact go.h _ (by simp;omega)
def ltZ (z:Int):Bool:=(decide (97≤z) && decide (z≤122)) || (decide (65≤z) && decide (z≤90)) || (z == 95)
theorem letter_c (b:UInt8) (h:Heap) (Q:Value→Heap→Prop) (hq:Q (.bool (ltZ b.toNat)) h):CallW Tryz.prog 78 [.int .u8 b.toNat] h Q:=by
 obtain ⟨z,hz⟩:∃ z:Int,(b.toNat:Int)=z:=⟨_,rfl⟩
 rw [hz] at hq ⊢
 refine zi (k:=1) ok78 rfl rfl rfl fun N=>?_
 rw [show y0 c78 [.int .u8 z]=[.int .u8 z,undef] from rfl]
 delta c78
 replace hq:=zb hq
 have go:∀ c,ltZ z=c→Q (.bool c) h:=fun c hb=>by rw [← hb];exact hq.h
 replace go:=Hid.mk go
 clear hq hz
 by_cases h1:97≤z<;>by_cases h2:z≤122<;>by_cases h3:65≤z<;>by_cases h4:z≤90
 all_goals cases h5:(z == 95)
 all_goals first
  | (exfalso;omega)
  | (
   simp only [za,zf,zg, *]
   exact go.h _ (by simp only [ltZ,h1,h2,h3,h4,h5];rfl))
theorem nm_split (b:UInt8):nm b=(ltZ b.toNat || isDg b):=by
 unfold nm nmZ ltZ isDg
 congr 1
 rw [Bool.eq_iff_iff]
 simp
 omega
theorem zs9 {l:List UInt8}(h:Heap) (Q:Value→Heap→Prop) (hq:∀ h',h.le h' → Q (.bool (Zw l)) h'):CallW Tryz.prog 76 [str l] h Q:=by
 refine zi (k:=1) ok76 rfl rfl rfl fun N=>?_
 rw [show y0 c76 [str l]=[str l,undef,undef,undef] from rfl]
 delta c76
 replace hq:=zb hq
 have sw:=wp h wordsL (n:=13) (cells:=[.string ⟨#[104,97,114,116,115]⟩,.string ⟨#[100,101,118,105,99,101]⟩,.string ⟨#[117,97,114,116]⟩,.string ⟨#[116,105,109,101,114]⟩,.string ⟨#[103,112,105,111]⟩,.string ⟨#[114,101,115,111,117,114,99,101]⟩,.string ⟨#[116,97,115,107]⟩,.string ⟨#[104,97,110,100,108,101,114]⟩,.string ⟨#[108,111,99,107]⟩,.string ⟨#[105,102]⟩,.string ⟨#[101,108,115,101]⟩,.string ⟨#[114,101,112,101,97,116]⟩,.string ⟨#[104,97,108,116]⟩]) rfl rfl
 obtain ⟨q,hqq⟩:∃ x,h.next=x:=⟨_,rfl⟩
 obtain ⟨h1,hh1⟩:∃ x,h.alloc (.blk [.string ⟨#[104,97,114,116,115]⟩,.string ⟨#[100,101,118,105,99,101]⟩,.string ⟨#[117,97,114,116]⟩,.string ⟨#[116,105,109,101,114]⟩,.string ⟨#[103,112,105,111]⟩,.string ⟨#[114,101,115,111,117,114,99,101]⟩,.string ⟨#[116,97,115,107]⟩,.string ⟨#[104,97,110,100,108,101,114]⟩,.string ⟨#[108,111,99,107]⟩,.string ⟨#[105,102]⟩,.string ⟨#[101,108,115,101]⟩,.string ⟨#[114,101,112,101,97,116]⟩,.string ⟨#[104,97,108,116]⟩] true)=x:=⟨_,rfl⟩
 have l1:h.le h1:=by rw [← hh1];exact (Heap.le.refl _).alloc _
 rw [hqq,hh1] at sw
 have g:=hq.h h1 l1
 replace g:=Hid.mk g
 clear hq l1
 replace sw:=Hid.mk sw
 have ls:Yb [.slice (some ⟨q,0,none⟩) 13 1]=some (.int .i64 13):=rfl
 simp only [za,V9, *]
 refine LoopW.upto 13 (fun i e h'=>h' = h1∧(wordsL.take i).contains l=false∧e=[str l,.bool false,.slice (some ⟨q,0,none⟩) 13 1,.int .i64 i]) ?_ (Nat.zero_le _) ⟨rfl,rfl,rfl⟩
 rintro i _ _ R hi ⟨rfl,hpre,rfl⟩ hR
 replace hpre:=Hid.mk hpre
 delta c76_l7
 by_cases hlt:i < 13
 case neg =>
  have hlt' : ¬ (i:Int) < 13:=by omega
  have hw:Zw l=false:=by
   have:=hpre.h
   rw [List.take_of_length_le (show wordsL.length≤i by show 13≤i;omega)] at this
   exact this
  rw [hw] at g
  simp only [za,zf,zg, *]
  exact g.h
 case pos =>
  have hlt' : (i:Int) < 13:=by omega
  have hwj:IntKind.i64.wrap ((i:Int) + 1)=((i + 1:Nat):Int):=by rw [z6 (by omega) (by omega)];rfl
  obtain ⟨w,hw⟩:∃ w,wordsL[i]? = some w:=⟨_,List.getElem?_eq_getElem (show i < wordsL.length from hlt)⟩
  obtain ⟨id,off,cells,own,e1,e2,e3,_⟩:=sw.h.elem hw
  cases hs:(w == l) with
  | true =>
   have hwl:w=l:=by simpa using hs
   have hin:Zw l=true:=by
    unfold Zw
    rw [← hwl]
    simpa using List.mem_of_getElem? hw
   rw [hin] at g
   replace hw:=Hid.mk hw
   clear hwl hin
   simp only [za,aR,zf,zg,Ja, *]
   exact g.h
  | false =>
   have hnx:(wordsL.take (i + 1)).contains l=false:=by
    have h1:=hpre.h
    rw [List.take_add_one,hw]
    have h2:¬ l=w:=by rintro rfl;simp at hs
    simp at h1 ⊢
    exact ⟨h1,h2⟩
   replace hw:=Hid.mk hw
   replace hnx:=Hid.mk hnx
   simp only [za,aR,zf,zg,Ja, *]
   exact hR.h _ _ hlt ⟨rfl,hnx.h,rfl⟩
theorem zf6:∀ {l:List UInt8}{i:Nat},Kp (l.take i)=i→i≤l.length → ∀ {b},l[i]? = some b→(nm b=true→Kp (l.take (i + 1))=i + 1)∧(nm b=false→Kp l=i)
 | [],i,_,_,b,hb=>by simp at hb
 | x::l,0,_,_,b,hb=>by
  simp only [List.getElem?_cons_zero,Option.some.injEq] at hb
  subst hb
  constructor
  ·intro hn;simp [Za,hn];rfl
  ·intro hn;simp [Za,hn]
 | x::l,i + 1,hr,hi,b,hb=>by
  rw [List.take_succ_cons,Za] at hr
  cases hx:nm x with
  | false=>rw [hx] at hr;simp at hr
  | true =>
   rw [hx,if_pos rfl] at hr
   obtain ⟨h1,h2⟩:=zf6 (l:=l) (i:=i) (by omega) (by simpa using hi) (by simpa using hb)
   constructor
   ·intro hn;rw [List.take_succ_cons,Za,hx,if_pos rfl,h1 hn]
   ·intro hn;rw [Za,hx,if_pos rfl,h2 hn]
theorem Zb {l:List UInt8}(h:Heap) (Q:Value→Heap→Prop) (hq:∀ h',h.le h' → Q (.bool (zp l)) h'):CallW Tryz.prog 43 [str l] h Q:=by
 refine zi (k:=1) ok43 rfl rfl rfl fun N=>?_
 rw [show y0 c43 [str l]=[str l,undef,undef,undef,undef] from rfl]
 delta c43
 replace hq:=zb hq
 simp only [za, *]
 refine zs9 h _ fun h1 l1=>?_
 have g:=hq.h h1 l1
 replace g:=Hid.mk g
 clear hq l1
 cases l with
 | nil =>
  obtain ⟨w,hw⟩:∃ w,Zw []=w:=⟨_,rfl⟩
  rw [hw]
  have:zp []=false:=rfl
  rw [this] at g
  simp only [za,zf,Ja, *]
  exact g.h
 | cons b r =>
  obtain ⟨l,hl⟩:∃ l,b::r=l:=⟨_,rfl⟩
  have hb:l[0]? = some b:=by rw [← hl];rfl
  have hne:(l == [])=false:=by rw [← hl];rfl
  have hsp:zp l=(decide (l.length≤20) && (Kp l == l.length) && decide (57 < (b.toNat:Int)) && !Zw l):=by rw [← hl];rfl
  have hrun0:nm b=false→Kp l=0:=fun h=>by rw [← hl,Za,h];rfl
  have hlen:0 < l.length:=by rw [← hl];simp
  rw [hl] at g ⊢
  clear hl
  have ix:=idx_S hb .i64
  rw [Int.ofNat_zero] at ix
  have go:∀ c,c=zp l→Q (.bool c) h1:=fun c e=>by rw [e];exact g.h
  rw [hsp] at go
  replace go:=Hid.mk go
  clear g hsp
  by_cases h20:20 < l.length
  ·have h20' : (20:Int) < (l.length:Int):=by omega
   have g:=go.h false (by simp;omega)
   replace g:=Hid.mk g
   clear h20
   simp only [za,zf,zg,Ja,Yh, *]
   exact g.h
  ·have h20' : ¬ (20:Int) < (l.length:Int):=by omega
   simp only [za,zf,zg,Ja,Yh, *]
   refine zy4 b h1 _ ?_
   cases hdg:isDg b with
   | true =>
    have g:=go.h false (by have:=(dg_facts hdg).2.2.2;simp;intro _ _ h;omega)
    replace g:=Hid.mk g
    clear h20 hdg
    simp only [za, *]
    exact g.h
   | false =>
    cases hw:Zw l with
    | true =>
     have g:=go.h false (by rw [hw];simp)
     replace g:=Hid.mk g
     clear h20 hdg hw
     simp only [za, *]
     exact g.h
    | false =>
     -- every byte is looked at
     have g1:=fun (h57:57 < (b.toNat:Int)) (hr:Kp l=l.length)=>go.h true (by rw [hw,hr];simp;omega)
     have g0:=fun (hr:Kp l≠l.length)=>go.h false (by rw [hw];simp;intro _ h;exact absurd h hr)
     have h57:nm b=true→57 < (b.toNat:Int):=by
      have:∀ n:Fin 256,isDg (UInt8.ofNat n.val)=false→nm (UInt8.ofNat n.val)=true→57 < ((UInt8.ofNat n.val).toNat:Int):=by decide +kernel
      have:=this ⟨b.toNat,u8_lt b⟩
      simp only [UInt8.ofNat_toNat] at this
      exact this hdg
     replace g1:=Hid.mk g1
     replace g0:=Hid.mk g0
     replace h57:=Hid.mk h57
     replace hrun0:=Hid.mk hrun0
     clear hdg hw
     simp only [za, *]
     refine LoopW.upto l.length (fun i e h'=>h' = h1∧Kp (l.take i)=i ∧ ∃ x,e=[str l,.bool false,.bool false,.int .i64 i,x]) ?_ (Nat.zero_le _) ⟨rfl,by simp;rfl,_,rfl⟩
     rintro i _ _ R hi ⟨rfl,hpre,x,rfl⟩ hR
     replace hpre:=Hid.mk hpre
     delta yb3
     by_cases hlt:i < l.length
     case neg =>
      have hlt' : ¬ (i:Int) < (l.length:Int):=by omega
      have hr:Kp l=l.length:=by
       have:=hpre.h
       rw [List.take_of_length_le (by omega)] at this
       omega
      have hnb:nm b=true:=by
       cases hn:nm b with
       | true=>rfl
       | false=>have:=hrun0.h hn;omega
      have g:=g1.h (h57.h hnb) hr
      replace g:=Hid.mk g
      clear hr hnb
      simp only [za,zf,zg,Yh, *]
      exact g.h
     case pos =>
      have hlt' : (i:Int) < (l.length:Int):=by omega
      have hwj:IntKind.i64.wrap ((i:Int) + 1)=((i + 1:Nat):Int):=by rw [z6 (by omega) (by omega)];rfl
      obtain ⟨c,hc⟩:∃ c,l[i]? = some c:=⟨_,List.getElem?_eq_getElem hlt⟩
      obtain ⟨s1,s2⟩:=zf6 hpre.h (by omega) hc
      have ixc:=idx_S hc .i64
      have hsp:=nm_split c
      rw [hsp] at s1 s2
      replace s1:=Hid.mk s1
      replace s2:=Hid.mk s2
      clear hc hsp
      simp only [za,zf,zg,Yh, *]
      refine letter_c c _ _ ?_
      cases hlt2:ltZ c.toNat with
      | true =>
       simp only [za,zf,zg, *]
       exact hR.h _ _ hlt ⟨rfl,s1.h (by rw [hlt2];rfl),_,rfl⟩
      | false =>
       simp only [za, *]
       refine zy4 c _ _ ?_
       cases hdg:isDg c with
       | true =>
        simp only [za,zf,zg, *]
        exact hR.h _ _ hlt ⟨rfl,s1.h (by rw [hlt2,hdg];rfl),_,rfl⟩
       | false =>
        have g:=g0.h (by rw [s2.h (by rw [hlt2,hdg];rfl)];omega)
        replace g:=Hid.mk g
        simp only [za, *]
        exact g.h
end Go.Eng.Sy
namespace Go.Eng.Sy
open Go Go.Eng Go.Proofs
def levL:List Int:=[7,7,8,8,8,3,1,2,6,6,5,5,4,4]
theorem levL_eq:∀ k:Fin 14,levL.getD k.val 0=(z7 ((k.val:Int) + 1):Nat):=by decide
theorem bs_lev:yi (List.replicate 14 (.int .i64 0)) ((List.range' 0 14).map fun i=>(i,1)) 14 1 (levL.map (.int .i64))=some (levL.map (.int .i64),fun id=>.slice (some ⟨id,0,none⟩) 14 1) :=
 y5 (by rfl) (by rfl) (by rfl) (by simp [levL,Value.cells,Value.oneCell'])
theorem Z4 (op:Int) (h:Heap) (Q:Value→Heap→Prop) (hq:∀ h',h.le h' → Q (.int .i64 (z7 op:Nat)) h'):CallW Tryz.prog 92 [.int .i64 op] h Q:=by
 refine zi (k:=1) ok92 rfl rfl rfl fun N=>?_
 rw [show y0 c92 [.int .i64 op]=[.int .i64 op,undef] from rfl]
 delta c92
 replace hq:=zb hq
 by_cases h1:op < 1
 ·have e:z7 op=0:=by unfold z7;(repeat' split)<;>omega
  have g:=hq.h h (Heap.le.refl h)
  rw [e] at g
  replace g:=Hid.mk g
  clear hq e
  simp only [za,zf,zg, *]
  exact g.h
 by_cases h2:14 < op
 ·have e:z7 op=0:=by unfold z7;(repeat' split)<;>omega
  have g:=hq.h h (Heap.le.refl h)
  rw [e] at g
  replace g:=Hid.mk g
  clear hq e
  simp only [za,zf,zg, *]
  exact g.h
 obtain ⟨k,rfl⟩:∃ k:Nat,op=(k:Int) + 1:=⟨(op - 1).toNat,by omega⟩
 have hk:k < 14:=by omega
 have hv:=Wa h levL (n:=14) (cells:=levL.map (.int .i64)) rfl rfl
 have lh:=(Heap.le.refl h).alloc (.blk (levL.map (.int .i64)) true)
 obtain ⟨id,off,cells,own,e1,e2,e3⟩:=Ints.elem hv (getD_some (l:=levL) (i:=k) hk 0)
 have ek:=levL_eq ⟨k,hk⟩
 simp only at ek
 rw [ek] at e3
 have hw:IntKind.i64.wrap ((k:Int) + 1 - 1)=(k:Int):=by rw [z6 (by omega) (by omega)];omega
 have g:=hq.h _ lh
 have u:=bs_lev
 simp only [levL,List.map_cons,List.map_nil,List.replicate,List.range',Nat.reduceAdd] at u e1 e2 g
 replace g:=Hid.mk g
 clear hq hv lh ek
 simp only [za,aR,zf,zg, *]
 exact g.h
end Go.Eng.Sy
namespace Go.Eng.Sy
open Go Go.Eng Go.Proofs
theorem wt (n:Nat):∀ (hn:n≤9223372036854775807) (h:Heap) (Q:Value→Heap→Prop),(∀ h',h.le h' → Q (str (yj n)) h')→CallW Tryz.prog 32 [.int .i64 n] h Q:=by
 induction n using Nat.strongRecOn with
 | _ n ih =>
 intro hn h Q hq
 have hb:=zh3 n
 have h48:IntKind.i64.wrap (48 + (n:Int).tmod 10)=48 + (n:Int).tmod 10:=by
  have h1:(n:Int).tmod 10=((n % 10:Nat):Int):=by
   rw [Int.tmod_eq_emod_of_nonneg (by omega)];omega
  rw [h1];exact z6 (by omega) (by omega)
 refine zi (k:=1) ok32 rfl rfl rfl fun N=>?_
 rw [show y0 c32 [.int .i64 n]=[.int .i64 n,undef,undef] from rfl]
 delta c32
 replace hq:=zb hq
 obtain ⟨q,hqq⟩:∃ x,h.next=x:=⟨_,rfl⟩
 have bs:yi [.int .u8 0] [(0,1)] 1 1 [.int .u8 ((UInt8.ofNat (48 + n % 10)).toNat:Int)]=some ([.int .u8 ((UInt8.ofNat (48 + n % 10)).toNat:Int)],fun id=>.slice (some ⟨id,0,none⟩) 1 1):=jv rfl rfl rfl rfl
 obtain ⟨h1,hh1⟩:∃ x,h.alloc (.blk [.int .u8 ((UInt8.ofNat (48 + n % 10)).toNat:Int)] true)=x:=⟨_,rfl⟩
 have g1:h1.get q=some (.blk [.int .u8 ((UInt8.ofNat (48 + n % 10)).toNat:Int)] true):=by rw [← hh1,← hqq];exact Heap.get_alloc_same _ _
 have l1:h.le h1:=by rw [← hh1];exact (Heap.le.refl _).alloc _
 have b1:=za0 g1
 have hq' : ∀ h',h1.le h' → Q (str (yj n)) h':=fun h' hl=>hq.h h' (l1.trans hl)
 replace hq':=Hid.mk hq'
 clear hq l1
 have hun:yj n=if 10≤n then yj (n / 10)++[UInt8.ofNat (48 + n % 10)] else [UInt8.ofNat (48 + n % 10)]:=by rw [yj]
 have h100:¬ (10:Int)=0:=by decide
 by_cases h10:10≤n
 ·have h10' : (10:Int)≤(n:Int):=by omega
  rw [if_pos h10] at hun
  have hdv:IntKind.i64.wrap ((n:Int).tdiv 10)=((n / 10:Nat):Int):=by
   rw [Int.tdiv_eq_ediv_of_nonneg (by omega),z6 (by omega) (by omega)];omega
  replace ih:=Hid.mk ih
  replace hun:=Hid.mk hun
  simp only [za,zf,zg, *]
  refine ih.h (n / 10) (by omega) (by omega) h1 _ fun h2 l2=>?_
  have hlen:=xz 18 (n / 10) (by omega)
  have ct:=zt (a:=yj (n / 10)) (b:=[UInt8.ofNat (48 + n % 10)]) (by simp;omega)
  have g:=hq'.h h2 l2
  rw [hun.h] at g
  replace g:=Hid.mk g
  clear l2
  simp only [za,zf, *]
  exact g.h
 ·have h10' : ¬ (10:Int)≤(n:Int):=by omega
  rw [if_neg h10] at hun
  have g:=hq'.h h1 (Heap.le.refl _)
  rw [hun] at g
  replace g:=Hid.mk g
  clear hun ih
  simp only [za,zf,zg, *]
  exact g.h
theorem zs1 {k:Nat}(hk:k < 17):opsL.tail[k]? = some (ky ((k:Int) + 1)):=by
 have:∀ j:Fin 17,opsL.tail[j.val]? = some (ky ((j.val:Int) + 1)):=by decide
 exact this ⟨k,hk⟩
theorem bs_ops' : yi (List.replicate 17 (.string ⟨#[]⟩)) ((List.range' 0 17).map fun i=>(i,1)) 17 1 (opsL.tail.map str)=some (opsL.tail.map str,fun id=>.slice (some ⟨id,0,none⟩) 17 1) :=
 y5 (by rfl) (by rfl) (by rfl) (by simp [opsL,Value.cells,Value.oneCell'])
theorem zm8 (op:Int) (h:Heap) (Q:Value→Heap→Prop) (hq:∀ h',h.le h' → Q (.tuple #[str (ky op),.bool (decide (1≤op∧op≤17))]) h'):CallW Tryz.prog 91 [.int .i64 op] h Q:=by
 refine wc (k:=1) (j:=2) ok91 rfl rfl rfl fun N=>?_
 rw [show y0 c91 [.int .i64 op]=[.int .i64 op,undef,undef] from rfl]
 delta c91
 replace hq:=zb hq
 by_cases h1:op < 1
 ·have g:=hq.h h (Heap.le.refl h)
  rw [show ky op=[] by unfold ky;rw [if_neg (by omega)],decide_eq_false (by omega)] at g
  replace g:=Hid.mk g
  clear hq
  simp only [za,zf,zg, *]
  exact g.h
 by_cases h2:17 < op
 ·have g:=hq.h h (Heap.le.refl h)
  rw [show ky op=[] by unfold ky;rw [if_neg (by omega)],decide_eq_false (by omega)] at g
  replace g:=Hid.mk g
  clear hq
  simp only [za,zf,zg, *]
  exact g.h
 obtain ⟨k,rfl⟩:∃ k:Nat,op=(k:Int) + 1:=⟨(op - 1).toNat,by omega⟩
 have hk:k < 17:=by omega
 have hv:=wp h opsL.tail (n:=17) (cells:=opsL.tail.map str) rfl rfl
 have lh:=(Heap.le.refl h).alloc (.blk (opsL.tail.map str) true)
 obtain ⟨id,off,cells,own,e1,e2,e3,_⟩:=Strs.elem hv (zs1 hk)
 have hw:IntKind.i64.wrap ((k:Int) + 1 - 1)=(k:Int):=by rw [z6 (by omega) (by omega)];omega
 have g:=hq.h _ lh
 rw [decide_eq_true (by omega)] at g
 obtain ⟨sg,hsg⟩:∃ s,ky ((k:Int) + 1)=s:=⟨_,rfl⟩
 rw [hsg] at g e3
 have u:=bs_ops'
 simp only [opsL,List.tail_cons,List.map_cons,List.map_nil,List.replicate,List.range',Nat.reduceAdd] at u e1 e2 g
 replace g:=Hid.mk g
 clear hq hv lh hsg
 simp only [za,aR,zf,zg, *]
 exact g.h
end Go.Eng.Sy
namespace Go.Eng.Sy
open Go Go.Eng Go.Proofs
def noQ (o n:Int) (m:List UInt8) (a b c:Bool):Bool:=(a || o == 0) && (b || n == 0) && (c || m == [])
theorem no_c {k o n:Int}{m:List UInt8}{v:Value}(hv:v.oneCell' = true) (a b c:Bool) (h:Heap) (Q:Value→Heap→Prop) (hq:∀ h',h.le h' → Q (.bool (noQ o n m a b c)) h') :
  CallW Tryz.prog 116 [exV k o n m v,.bool a,.bool b,.bool c] h Q:=by
 have b1:=vo (k:=k) (o:=o) (n:=n) (m:=m) hv
 obtain ⟨q,h1,eq,eh1,gq,lh1⟩:=zo h [.int .i64 k,.int .i64 o,.int .i64 n,str m,v]
 have es:=Ja m []
 replace hq:=hq h1 lh1
 unfold noQ at hq
 clear lh1
 refine zi (k:=5) ok116 rfl rfl rfl fun N=>?_
 rw [show y0 c116 [exV k o n m v,.bool a,.bool b,.bool c]=[exV k o n m v,.bool a,.bool b,.bool c,undef,undef] from rfl]
 delta c116
 replace hq:=zb hq
 cases a<;>cases b<;>cases c<;>cases c1:(o == 0)<;>cases c2:(n == 0)<;>cases c3:(m == [])
 all_goals
  rw [c3] at es
  have g:=hq.h
  simp only [c1,c2,c3,Bool.or_true,Bool.or_false,Bool.and_true,Bool.and_false,Bool.true_or,Bool.false_or,Bool.true_and,Bool.false_and] at g
  replace g:=Hid.mk g
  clear hq
  simp only [za,aR,zf,zg, *]
  exact g.h
end Go.Eng.Sy
namespace Go.Eng.Sy
open Go Go.Eng Go.Proofs
def DepC (left:Nat):Prop:=∀ (e:Ex) (x:List Value) (h:Heap) (Q:Value→Heap→Prop),ExC h e x →
 (∀ h' (d:Nat),h.le h' → (yg e left=true→1≤d∧d≤left)→(yg e left=false→d=31)→Q (.int .i64 (d:Int)) h')→CallW Tryz.prog 90 [.agg x.toArray,.int .i64 (left:Int)] h Q
theorem max_I (a b:Nat):zn6 true [.int .i64 (a:Int),.int .i64 (b:Int)]=some (.int .i64 ((max a b:Nat):Int)):=by
 simp [zn6];omega
theorem min_I (a b:Nat):zn6 false [.int .i64 (a:Int),.int .i64 (b:Int)]=some (.int .i64 ((min a b:Nat):Int)):=by
 simp [zn6];omega
noncomputable def Wn:CCode:=(.seq (.rcond Ww [] 0 (.seq (.reg Wv [(3,0)]) .ret) .skip) (.seq (.reg Wu [(7,0)]) (.seq (.seq (.reg Wt [(8,0)]) (.block 1 (.loop zd2))) (.seq (.reg Ws [(3,0)]) .ret))))
theorem zp1 {l:Nat}(hl:l + 1≤30) (ih:DepC l){args:List Ex}{v:Value}{h:Heap}{q:Nat}{c:List Value}(hq0:h.get q=some (.blk c true)) (hc:c[4]? = some v) (hv:ExsV h v args){ok:Bool}{many:Nat}{N:Nat}{vars:List Nat}{x0 x3 x6 x7 x8 x9:Value}
  (Q:Value→Heap→Prop) (hq:∀ h' (d:Nat),h.le h' → (ok=true∧args.length=many∧yd args l=true→1≤d∧d≤l + 1)→(¬ (ok=true∧args.length=many∧yd args l=true)→d=31)→Q (.int .i64 (d:Int)) h') :
  W Tryz.prog N vars Wn (ret1 3 Q) [x0,.int .i64 ((l + 1:Nat):Int),.pointer (some ⟨q,0,none⟩),x3,.bool ok,.int .i64 (many:Int),x6,x7,x8,x9] h:=by
 have hln:=hv.len
 have hle:=hv.le
 replace hl:=zb hl;replace ih:=zb ih;replace hv:=zb hv;replace hq:=zb hq
 delta Wn Ww Wv Wu Wt Ws
 cases ok with
 | false =>
  have g:=hq.h h 31 (.refl _) (fun e=>by cases e.1) (fun _=>rfl)
  replace g:=Hid.mk g
  clear hq
  simp only [za, *]
  exact g.h
 | true =>
 by_cases hm:args.length=many
 case neg =>
  have g:=hq.h h 31 (.refl _) (fun e=>absurd e.2.1 hm) (fun _=>rfl)
  have cm:((args.length:Int) != (many:Int))=true:=by simp only [bne_iff_ne,ne_eq];omega
  replace g:=Hid.mk g
  clear hq
  simp only [za,aR,zf,zg, *]
  exact g.h
 subst hm
 have cm:((args.length:Int) != (args.length:Int))=false:=by simp
 simp only [za,aR,zf,zg, *]
 refine LoopW.upto args.length (fun i e h1=>h.le h1 ∧ ∃ m:Nat,(((args.take i).all fun e=>yg e l)=true→m≤l)∧(((args.take i).all fun e=>yg e l)=false→m=31)∧e=[x0,.int .i64 ((l + 1:Nat):Int),.pointer (some ⟨q,0,none⟩),x3,.bool true,.int .i64 (args.length:Int),x6,.int .i64 (m:Int),.int .i64 i,x9]) ?_ (Nat.zero_le _) ⟨.refl _,0,fun _=>Nat.zero_le _,fun e=>by simp at e,rfl⟩
 rintro i _ h1 R hi ⟨hl1,m,hm1,hm2,rfl⟩ hR
 have gq:=hl1.get hq0
 delta zd2 zi4 zi3 zi2 zi1 zi0 zh9 zh8 zh7 zh6 zh5 W7 W6 W5 W4 W3 W1 W0 Wz Wy Wx Ww Wv Wu Wt Ws
 by_cases hlt:i < args.length
 case neg =>
  have hlt' : ¬ (i:Int) < args.length:=by omega
  have hi2:i=args.length:=by omega
  have hml:=hl.h
  have hm3:m≤31:=by
   cases ha:((args.take i).all fun e=>yg e l) with
   | true=>have:=hm1 ha;omega
   | false=>have:=hm2 ha;omega
  have ea:yd args l=((args.take i).all fun e=>yg e l):=by rw [xt,hi2,List.take_length]
  have g:=hq.h h1 (min 31 (m + 1)) hl1 (fun e=>by rw [ea] at e;have:=hm1 e.2.2;omega) (fun e=>by
   have:((args.take i).all fun e=>yg e l)=false:=by
    cases ha:((args.take i).all fun e=>yg e l) with
    | true=>exact absurd ⟨rfl,rfl,by rw [ea];exact ha⟩ e
    | false=>rfl
   have:=hm2 this;omega)
  have w:IntKind.i64.wrap ((m:Int) + 1)=((m + 1:Nat):Int):=by rw [z6 (by omega) (by omega)];rfl
  have mn:=min_I 31 (m + 1)
  have e31:((31:Nat):Int)=31:=rfl
  rw [e31] at mn
  subst hi2
  replace g:=Hid.mk g
  clear hq hR hm1 hm2 ea e31 hm3 hml
  simp only [za,zf,zg, *]
  exact g.h
 have hlt' : (i:Int) < args.length:=by omega
 obtain ⟨e,he⟩:∃ e,args[i]? = some e:=⟨_,List.getElem?_eq_getElem hlt⟩
 obtain ⟨id,off,cells,own,x,e1,e2,e3,hx,_⟩:=(hv.h.mono hl1).elem he
 have wl:IntKind.i64.wrap (((l + 1:Nat):Int) - 1)=(l:Int):=by have:=hl.h;rw [z6 (by omega) (by omega)];omega
 have w:IntKind.i64.wrap ((i:Int) + 1)=((i + 1:Nat):Int):=by rw [z6 (by omega) (by omega)];rfl
 have et:((args.take (i + 1)).all fun e=>yg e l)=(((args.take i).all fun e=>yg e l) && yg e l):=by rw [List.take_add_one,he];simp
 replace hx:=zb hx;replace hm1:=zb hm1;replace hm2:=zb hm2;replace hl1:=zb hl1;replace et:=zb et
 clear he
 simp only [za,aR,zf,zg, *]
 refine ih.h e x h1 _ hx.h fun h2 d l2 hd1 hd2=>?_
 have mx:=max_I m d
 have hle2:=hl1.h.trans l2
 have g:=hR.h _ h2 hlt ⟨hle2,max m d,fun ha=>by
  rw [et.h,Bool.and_eq_true] at ha
  have:=hm1.h ha.1;have:=(hd1 ha.2).2;omega,fun ha=>by
  rw [et.h] at ha
  have hlb:=hl.h
  cases hr:yg e l with
  | false =>
   have:=hd2 hr
   cases ha2:((args.take i).all fun e=>yg e l) with
   | true=>have:=hm1.h ha2;omega
   | false=>have:=hm2.h ha2;omega
  | true =>
   rw [hr,Bool.and_true] at ha
   have:=hm2.h ha;have:=(hd1 hr).2;omega,rfl⟩
 replace g:=Hid.mk g
 clear hR hq hm1 hm2 hd1 hd2 l2 hle2 et
 simp only [za,zf,zg, *]
 exact g.h
end Go.Eng.Sy
namespace Go.Eng.Sy
open Go Go.Eng Go.Proofs
set_option maxHeartbeats 400000 in
theorem zh2 (left:Nat) (hl:left≤30) (ih:∀ l,left=l + 1→DepC l):DepC left:=by
 intro e x h Q hx hq
 obtain ⟨v,rfl,hargs⟩:=hx.cells
 have b1:=vo (k:=e.kind) (o:=e.op) (n:=e.n) (m:=e.name) hargs.one
 obtain ⟨q,h1,eq,eh1,gq,lh1⟩:=zo h [.int .i64 e.kind,.int .i64 e.op,.int .i64 e.n,str e.name,v]
 have ha1:=hargs.mono lh1
 have o1:=hargs.one
 clear hargs hx
 replace ha1:=zb ha1;replace lh1:=zb lh1;replace ih:=zb ih;replace hl:=zb hl
 refine zi (k:=3) ok90 rfl rfl rfl fun N=>?_
 show W Tryz.prog N _ ((.seq (.reg zi4 [(2,1),(3,0)]) (.seq (.rcond zi3 [] 0 (.seq (.reg zi2 [(3,0)]) .ret) .skip) (.seq (.reg zi1 [(4,0)]) (.seq (.reg zi0 [(5,0)]) (.seq (.reg zh9 [(6,0)]) (.seq (.seq (.reg zh8 [(9,0)]) (.block 0 (.rcond zh7 [] 0 (.reg zh6 [(4,0)]) (.rcond zh5 [] 0 (.reg W7 [(4,0)]) (.rcond W6 [] 0 (.seq (.reg W5 [(4,0)]) (.reg W4 [(5,0)])) (.rcond W3 [] 0 (.seq (.reg W1 [(4,0)]) (.reg W0 [(5,0)])) (.rcond Wz [] 0 (.seq (.reg Wy [(4,0)]) (.reg Wx [(5,0)])) .skip))))))) Wn))))))) _ [exV e.kind e.op e.n e.name v,.int .i64 (left:Int),undef,undef,undef,undef,undef,undef,undef,undef] _
 delta zi4 zi3 zi2 zi1 zi0 zh9 zh8 zh7 zh6 zh5 W7 W6 W5 W4 W3 W1 W0 Wz Wy Wx
 replace hq:=Hid.mk hq
 cases left with
 | zero =>
  have g:=hq.h h1 31 lh1.h (fun hr=>by cases e;simp [yg] at hr) (fun _=>rfl)
  replace g:=Hid.mk g
  have z:((0:Nat):Int) < 1:=by decide
  clear hq
  simp only [za,zf,zg, *]
  exact g.h
 | succ l =>
  have z:¬ ((l + 1:Nat):Int) < 1:=by omega
  simp only [za,aR,zf,zg, *]
  refine Zb h1 _ fun h2 l2=>?_
  have g2:=l2.get gq
  have ha2:=ha1.h.mono l2
  have l2:=lh1.h.trans l2
  have fin:∀ (h' : Heap) (okv:Bool) (many:Nat) (x9:Value),h2.le h' → ((okv=true∧e.args.length=many)↔(zu e.kind e.op e.n e.name=true∧e.args.length=vp e.kind)) →
    W Tryz.prog N c90.vars Wn (ret1 3 Q) [exV e.kind e.op e.n e.name v,.int .i64 ((l + 1:Nat):Int),.pointer (some ⟨q,0,none⟩),.int .i64 0,.bool okv,.int .i64 (many:Int),.bool (zp e.name),undef,undef,x9] h':=fun h' okv many x9 hl' hiff=>by
   have er:yg e (l + 1)=true↔(okv=true∧e.args.length=many∧yd e.args l=true):=by
    have:yg e (l + 1)=(zu e.kind e.op e.n e.name && e.args.length == vp e.kind && yd e.args l):=by cases e;rfl
    rw [this,Bool.and_eq_true,Bool.and_eq_true,beq_iff_eq,← and_assoc,← hiff,and_assoc]
   refine zp1 hl.h (ih.h l rfl) (hl'.get g2) rfl (ha2.mono hl') Q fun h3 d l3 hd1 hd2=>hq.h h3 d (l2.trans (hl'.trans l3)) (fun hr=>hd1 (er.1 hr)) (fun hr=>hd2 fun hc=>by rw [er.2 hc] at hr;cases hr)
  replace fin:=Hid.mk fin
  clear gq ha1 lh1 b1 hq ih l2 ha2
  by_cases k1:e.kind=1
  ·have c1:(e.kind == 1)=true:=by simp [k1]
   replace k1:=Hid.mk k1
   simp only [za,aR,zf,zg,zn, *]
   refine no_c o1 _ _ _ _ _ fun h3 l3=>?_
   have g3:=l3.get g2
   have es:noQ e.op e.n e.name false true false=(e.op == 0 && e.name == []):=by simp [noQ]
   rw [es]
   have g:=fun okv (hok:okv=zu e.kind e.op e.n e.name)=>fin.h h3 okv 0 (.int .i64 e.kind) l3 (by rw [hok,k1.h];simp [vp])
   have sh:zu e.kind e.op e.n e.name=(decide (0≤e.n∧e.n < 4294967296) && e.op == 0 && e.name == []):=by simp [zu,k1.h]
   rw [sh] at g
   replace g:=zb g
   clear fin l3 sh es
   cases c2:(e.op == 0 && e.name == []) with
   | false =>
    have g:=g.h false (by rw [Bool.and_assoc,c2];simp)
    replace g:=Hid.mk g
    simp only [za, *]
    exact g.h
   | true =>
    by_cases c3:0≤e.n
    ·by_cases c4:e.n < 4294967296
     ·have g:=g.h true (by rw [Bool.and_assoc,c2];simp [c3,c4])
      replace g:=Hid.mk g
      simp only [za,aR,zf,zg, *]
      exact g.h
     ·have g:=g.h false (by simp [c4])
      replace g:=Hid.mk g
      simp only [za,aR,zf,zg, *]
      exact g.h
    ·have g:=g.h false (by simp [c3])
     replace g:=Hid.mk g
     simp only [za,aR,zf,zg, *]
     exact g.h
  have n1:(e.kind == 1)=false:=by simp [k1]
  by_cases k2:e.kind=2
  ·have c1:(e.kind == 2)=true:=by simp [k2]
   replace k2:=Hid.mk k2
   simp only [za,aR,zf,zg,zn, *]
   refine no_c o1 _ _ _ _ _ fun h3 l3=>?_
   have g3:=l3.get g2
   have es:noQ e.op e.n e.name false false true=(e.op == 0 && e.n == 0):=by simp [noQ]
   rw [es]
   have g:=fun okv (hok:okv=zu e.kind e.op e.n e.name)=>fin.h h3 okv 0 (.int .i64 e.kind) l3 (by rw [hok,k2.h];simp [vp])
   have sh:zu e.kind e.op e.n e.name=(zp e.name && e.op == 0 && e.n == 0):=by simp [zu,k2.h]
   rw [sh] at g
   replace g:=zb g
   clear fin l3 sh es
   cases c2:(e.op == 0 && e.n == 0) with
   | false =>
    have g:=g.h false (by rw [Bool.and_assoc,c2];simp)
    replace g:=Hid.mk g
    simp only [za, *]
    exact g.h
   | true =>
    have g:=g.h (zp e.name) (by rw [Bool.and_assoc,c2];simp)
    replace g:=Hid.mk g
    simp only [za, *]
    exact g.h
  have n2:(e.kind == 2)=false:=by simp [k2]
  by_cases k3:e.kind=3
  ·have c1:(e.kind == 3)=true:=by simp [k3]
   replace k3:=Hid.mk k3
   simp only [za,aR,zf,zg,zn, *]
   refine no_c o1 _ _ _ _ _ fun h3 l3=>?_
   have g3:=l3.get g2
   have es:noQ e.op e.n e.name true false false=(e.n == 0 && e.name == []):=by simp [noQ]
   rw [es]
   have g:=fun okv (hok:okv=zu e.kind e.op e.n e.name)=>fin.h h3 okv 1 (.int .i64 e.kind) l3 (by rw [hok,k3.h];simp [vp])
   have sh:zu e.kind e.op e.n e.name=(decide (15≤e.op∧e.op≤17) && e.n == 0 && e.name == []):=by simp [zu,k3.h]
   rw [sh] at g
   replace g:=zb g
   clear fin l3 sh es
   have e1:((1:Nat):Int)=1:=rfl
   rw [e1] at g
   cases c2:(e.n == 0 && e.name == []) with
   | false =>
    have g:=g.h false (by rw [Bool.and_assoc,c2];simp)
    replace g:=Hid.mk g
    simp only [za, *]
    exact g.h
   | true =>
    by_cases c3:15≤e.op
    ·by_cases c4:e.op≤17
     ·have g:=g.h true (by rw [Bool.and_assoc,c2];simp [c3,c4])
      replace g:=Hid.mk g
      simp only [za,aR,zf,zg, *]
      exact g.h
     ·have g:=g.h false (by simp [c4])
      replace g:=Hid.mk g
      simp only [za,aR,zf,zg, *]
      exact g.h
    ·have g:=g.h false (by simp [c3])
     replace g:=Hid.mk g
     simp only [za,aR,zf,zg, *]
     exact g.h
  have n3:(e.kind == 3)=false:=by simp [k3]
  by_cases k4:e.kind=4
  ·have c1:(e.kind == 4)=true:=by simp [k4]
   replace k4:=Hid.mk k4
   simp only [za,aR,zf,zg,zn, *]
   refine no_c o1 _ _ _ _ _ fun h3 l3=>?_
   have g3:=l3.get g2
   have es:noQ e.op e.n e.name true false false=(e.n == 0 && e.name == []):=by simp [noQ]
   rw [es]
   have sh:zu e.kind e.op e.n e.name=(decide (0 < z7 e.op) && e.n == 0 && e.name == []):=by simp [zu,k4.h]
   have e1:((2:Nat):Int)=2:=rfl
   cases c2:(e.n == 0 && e.name == []) with
   | false =>
    have g:=fun okv (hok:okv=zu e.kind e.op e.n e.name)=>fin.h h3 okv 2 (.int .i64 e.kind) l3 (by rw [hok,k4.h];simp [vp])
    rw [sh,e1] at g
    have g:=g false (by rw [Bool.and_assoc,c2];simp)
    replace g:=Hid.mk g
    clear fin l3 sh es
    simp only [za, *]
    exact g.h
   | true =>
    replace fin:=zb fin;replace l3:=zb l3;replace sh:=zb sh
    simp only [za,aR, *]
    refine Z4 e.op _ _ fun h4 l4=>?_
    have g:=fun okv (hok:okv=zu e.kind e.op e.n e.name)=>fin.h.h h4 okv 2 (.int .i64 e.kind) (l3.h.trans l4) (by rw [hok,k4.h];simp [vp])
    rw [sh.h,e1] at g
    have g:=g (decide (0 < z7 e.op)) (by rw [Bool.and_assoc,c2];simp)
    have g4:=l4.get g3
    clear fin l3 sh es l4
    by_cases c3:0 < z7 e.op
    ·have c3' : (0:Int) < (z7 e.op:Int):=by omega
     rw [show decide (0 < z7 e.op)=true by simp [c3]] at g
     replace g:=Hid.mk g
     simp only [za,zf,zg, *]
     exact g.h
    ·have c3' : ¬ (0:Int) < (z7 e.op:Int):=by omega
     rw [show decide (0 < z7 e.op)=false by simp [c3]] at g
     replace g:=Hid.mk g
     simp only [za,zf,zg, *]
     exact g.h
  have n4:(e.kind == 4)=false:=by simp [k4]
  by_cases k5:e.kind=5
  ·have c1:(e.kind == 5)=true:=by simp [k5]
   replace k5:=Hid.mk k5
   simp only [za,aR,zf,zg,zn, *]
   refine no_c o1 _ _ _ _ _ fun h3 l3=>?_
   have g3:=l3.get g2
   have es:noQ e.op e.n e.name false false true=(e.op == 0 && e.n == 0):=by simp [noQ]
   rw [es]
   have g:=fun okv (hok:okv=zu e.kind e.op e.n e.name)=>fin.h h3 okv 1 (.int .i64 e.kind) l3 (by rw [hok,k5.h];simp [vp])
   have sh:zu e.kind e.op e.n e.name=(zp e.name && e.op == 0 && e.n == 0):=by simp [zu,k5.h]
   have e1:((1:Nat):Int)=1:=rfl
   rw [sh,e1] at g
   replace g:=zb g
   clear fin l3 sh es
   cases c2:(e.op == 0 && e.n == 0) with
   | false =>
    have g:=g.h false (by rw [Bool.and_assoc,c2];simp)
    replace g:=Hid.mk g
    simp only [za, *]
    exact g.h
   | true =>
    have g:=g.h (zp e.name) (by rw [Bool.and_assoc,c2];simp)
    replace g:=Hid.mk g
    simp only [za, *]
    exact g.h
  have n5:(e.kind == 5)=false:=by simp [k5]
  have g:=fin.h h2 false 0 (.int .i64 e.kind) (.refl _) (by simp [zu,k1,k2,k3,k4,k5])
  replace g:=Hid.mk g
  clear fin
  simp only [za,aR,zf,zg, *]
  exact g.h
theorem depth_c:∀ left,left≤30→DepC left:=by
 intro left
 induction left with
 | zero=>intro hl;exact zh2 0 hl fun l h=>by omega
 | succ l ih=>intro hl;exact zh2 _ hl fun l' h=>by cases h;exact ih (by omega)
theorem Jr {h:Heap}{e:Ex}{x:List Value}(hx:ExC h e x) (Q:Value→Heap→Prop) (hq:∀ h',h.le h' → Q (.bool (yg e 30)) h'):CallW Tryz.prog 54 [.agg x.toArray] h Q:=by
 have hx0:=hx
 obtain ⟨v,rfl,hargs⟩:=hx.cells
 have b1:=vo (k:=e.kind) (o:=e.op) (n:=e.n) (m:=e.name) hargs.one
 obtain ⟨q,h1,eq,eh1,gq,lh1⟩:=zo h [.int .i64 e.kind,.int .i64 e.op,.int .i64 e.n,str e.name,v]
 have hx1:=hx0.mono lh1
 clear hx hx0 hargs
 replace hx1:=zb hx1;replace lh1:=zb lh1
 refine zi (k:=2) ok54 rfl rfl rfl fun N=>?_
 rw [show y0 c54 [exV e.kind e.op e.n e.name v]=[exV e.kind e.op e.n e.name v,undef,undef] from rfl]
 delta c54
 replace hq:=zb hq
 simp only [za,aR,zn, *]
 refine depth_c 30 (by omega) e _ _ _ hx1.h fun h2 d l2 hd1 hd2=>?_
 cases hr:yg e 30 with
 | true =>
  have:=hd1 hr
  have hd:(d:Int)≤30:=by omega
  have g:=hq.h h2 (lh1.h.trans l2)
  rw [hr] at g
  replace g:=Hid.mk g
  clear hq hd1 hd2 l2 lh1 this
  simp only [za,zf,zg, *]
  exact g.h
 | false =>
  have:=hd2 hr
  subst this
  have g:=hq.h h2 (lh1.h.trans l2)
  rw [hr] at g
  replace g:=Hid.mk g
  have hd:¬ ((31:Nat):Int)≤30:=by omega
  clear hq hd1 hd2 l2 lh1
  simp only [za,zf,zg, *]
  exact g.h
end Go.Eng.Sy
namespace Go.Eng.Sy
open Go Go.Eng Go.Proofs
def StmC (left:Nat):Prop:=∀ (s:St) (x:List Value) (h:Heap) (Q:Value→Heap→Prop),StC h s x→(∀ h',h.le h' → Q (.bool (kb s left)) h')→CallW Tryz.prog 79 [.agg x.toArray,.int .i64 (left:Int)] h Q
def zq0 (left:Nat):Prop:=∀ (l:List St) (v:Value) (h:Heap) (Q:Value→Heap→Prop),StsV h v l→(∀ h',h.le h' → Q (.bool (yo l left)) h')→CallW Tryz.prog 44 [v,.int .i64 (left:Int)] h Q
theorem Jq {left:Nat}(ih:StmC left):zq0 left:=by
 intro l v h Q hv hq
 have hln:=hv.len
 have hle:=hv.le
 replace hv:=zb hv;replace ih:=zb ih
 refine zi (k:=2) ok44 rfl rfl rfl fun N=>?_
 rw [show y0 c44 [v,.int .i64 (left:Int)]=[v,.int .i64 (left:Int),undef,undef,undef] from rfl]
 delta c44
 replace hq:=zb hq
 simp only [za, *]
 refine LoopW.upto l.length (fun i e h1=>h.le h1∧((l.take i).all fun s=>kb s left)=true ∧ ∃ x4,e=[v,.int .i64 (left:Int),.bool false,.int .i64 (i:Int),x4]) ?_ (Nat.zero_le _) ⟨.refl h,rfl,_,rfl⟩
 rintro i _ h1 R hi ⟨hl1,ha,x4,rfl⟩ hR
 delta c44_l7
 by_cases hlt:i < l.length
 case neg =>
  have hlt' : ¬ (i:Int) < l.length:=by omega
  have hi2:i=l.length:=by omega
  have g:=hq.h h1 hl1
  rw [kj,← List.take_length (l:=l),← hi2,ha] at g
  replace g:=Hid.mk g
  clear hq hR ha hi2
  simp only [za,zf,zg, *]
  exact g.h
 have hlt' : (i:Int) < l.length:=by omega
 obtain ⟨s,hs⟩:∃ e,l[i]? = some e:=⟨_,List.getElem?_eq_getElem hlt⟩
 obtain ⟨id,off,cells,own,x,e1,e2,e3,hx,_⟩:=(hv.h.mono hl1).elem hs
 have w:IntKind.i64.wrap ((i:Int) + 1)=((i + 1:Nat):Int):=by rw [z6 (by omega) (by omega)];rfl
 have et:((l.take (i + 1)).all fun s=>kb s left)=(((l.take i).all fun s=>kb s left) && kb s left):=by rw [List.take_add_one,hs];simp
 have hmem:s ∈ l:=List.mem_of_getElem? hs
 rw [ha] at et
 replace hx:=zb hx;replace ha:=zb ha;replace hl1:=zb hl1;replace et:=zb et;replace hmem:=zb hmem
 clear hs
 simp only [za,aR,zf,zg, *]
 refine ih.h s x h1 _ hx.h fun h2 l2=>?_
 cases hb:kb s left with
 | true =>
  have g:=hR.h _ h2 hlt ⟨hl1.h.trans l2,by rw [et.h,hb];rfl,.bool true,rfl⟩
  replace g:=Hid.mk g
  clear hR hq l2 et hmem
  simp only [za,zf,zg, *]
  exact g.h
 | false =>
  have g:=hq.h h2 (hl1.h.trans l2)
  have:yo l left=false:=by
   rw [kj,List.all_eq_false]
   exact ⟨s,hmem.h,by rw [hb];simp⟩
  rw [this] at g
  replace g:=Hid.mk g
  clear hR hq l2 et hmem this
  simp only [za, *]
  exact g.h
noncomputable def zb7:CCode:=(.seq (.seq (.reg Vb [(9,0)]) (.block 1 (.loop zd3))) (.seq (.reg Va [(11,0)]) (.seq (.reg W9 [(12,0)]) (.seq (.reg W8 [(3,0)]) .ret))))
theorem st_rest2 {l:Nat}(hl:l + 1≤30) (ih:zq0 l){k n:Int}{m f:List UInt8}{va vt ve:Value}{args:List Ex}{thn els:List St}{h:Heap}{q:Nat}(hq0:h.get q=some (.blk [.int .i64 k,str m,str f,.int .i64 n,va,vt,ve] true)) (hva:ExsV h va args) (hvt:StsV h vt thn) (hve:StsV h ve els)
  {N:Nat}{vars:List Nat}{x0 x3 x5 x6 x7 x8 x9 x10 x11 x12 x13:Value}(Q:Value→Heap→Prop)
  (hq:∀ h',h.le h' → Q (.bool (yd args 30 && yo thn l && yo els l)) h') :
  W Tryz.prog N vars zb7 (ret1 3 Q) [x0,.int .i64 ((l + 1:Nat):Int),.pointer (some ⟨q,0,none⟩),x3,.int .i64 (args.length:Int),x5,x6,x7,x8,x9,x10,x11,x12,x13] h:=by
 have la:=hva.len
 have lea:=hva.le
 replace hq:=zb hq;replace hva:=zb hva;replace hvt:=zb hvt;replace hve:=zb hve;replace ih:=zb ih;replace hl:=zb hl;replace lea:=zb lea
 delta zb7 Vb Va W9 W8
 simp only [za, *]
 refine LoopW.upto args.length (fun i e h1=>h.le h1∧((args.take i).all fun e=>yg e 30)=true ∧ ∃ x10,e=[x0,.int .i64 ((l + 1:Nat):Int),.pointer (some ⟨q,0,none⟩),x3,.int .i64 (args.length:Int),x5,x6,x7,x8,.int .i64 i,x10,x11,x12,x13]) ?_ (Nat.zero_le _) ⟨.refl _,rfl,_,rfl⟩
 rintro i _ h1 R hi ⟨hl1,ha,x10,rfl⟩ hR
 have gq:=hl1.get hq0
 delta zd3 zj4 zj3 zj2 zj1 zj0 zi9 zi8 zi7 zi6 zi5 Vz Vy Vx Vw Vv Vu Vt Vs Vr Vq Vp Vo Vn Vm Vl Vk Vj Vi Vh Vg Vf Ve Vd Vc Vb Va W9 W8
 by_cases hlt:i < args.length
 case neg =>
  have hlt' : ¬ (i:Int) < args.length:=by omega
  have hi2:i=args.length:=by omega
  have ea:yd args 30=true:=by rw [xt,← List.take_length (l:=args),← hi2,ha]
  have hq' : ∀ h',h.le h' → Q (.bool (yo thn l && yo els l)) h':=fun h' l'=>by have g:=hq.h h' l';rw [ea,Bool.true_and] at g;exact g
  have wl:IntKind.i64.wrap (((l + 1:Nat):Int) - 1)=(l:Int):=by have:=hl.h;rw [z6 (by omega) (by omega)];omega
  subst hi2
  clear hq hR ha ea hq0
  replace hl1:=zb hl1;replace hq':=zb hq'
  simp only [za,aR,zf,zg, *]
  refine ih.h thn vt h1 _ (hvt.h.mono hl1.h) fun h2 l2=>?_
  have gq2:=l2.get gq
  have l02:=hl1.h.trans l2
  replace l2:=zb l2;replace l02:=zb l02
  simp only [za,aR,zf,zg, *]
  refine ih.h els ve h2 _ (hve.h.mono l02.h) fun h3 l3=>?_
  have g:=hq'.h h3 (l02.h.trans l3)
  clear gq gq2 l2 l02 l3 hq'
  cases hw:yo thn l with
  | true =>
   rw [hw,Bool.true_and] at g
   replace g:=Hid.mk g
   simp only [za, *]
   exact g.h
  | false =>
   rw [hw,Bool.false_and] at g
   replace g:=Hid.mk g
   simp only [za, *]
   exact g.h
 have hlt' : (i:Int) < args.length:=by omega
 obtain ⟨e,he⟩:∃ e,args[i]? = some e:=⟨_,List.getElem?_eq_getElem hlt⟩
 obtain ⟨id,off,cells,own,x,e1,e2,e3,hx,_⟩:=(hva.h.mono hl1).elem he
 have w:IntKind.i64.wrap ((i:Int) + 1)=((i + 1:Nat):Int):=by have:=lea.h;rw [z6 (by omega) (by omega)];rfl
 have et:((args.take (i + 1)).all fun e=>yg e 30)=(((args.take i).all fun e=>yg e 30) && yg e 30):=by rw [List.take_add_one,he];simp
 have hmem:e ∈ args:=List.mem_of_getElem? he
 rw [ha] at et
 replace hx:=zb hx;replace ha:=zb ha;replace hl1:=zb hl1;replace et:=zb et;replace hmem:=zb hmem
 clear he
 simp only [za,aR,zf,zg, *]
 refine Jr hx.h _ fun h2 l2=>?_
 cases hb:yg e 30 with
 | true =>
  have g:=hR.h _ h2 hlt ⟨hl1.h.trans l2,by rw [et.h,hb];rfl,.bool true,rfl⟩
  replace g:=Hid.mk g
  clear hR hq l2 et hmem
  simp only [za,zf,zg, *]
  exact g.h
 | false =>
  have g:=hq.h h2 (hl1.h.trans l2)
  have:yd args 30=false:=by
   rw [xt,List.all_eq_false]
   exact ⟨e,hmem.h,by rw [hb];simp⟩
  rw [this] at g
  replace g:=Hid.mk g
  clear hR hq l2 et hmem this
  simp only [za, *]
  exact g.h
noncomputable def zf5:CCode:=(.seq (.rcond Vd [] 0 (.seq (.reg Vc [(3,0)]) .ret) .skip) zb7)
theorem st_rest {l:Nat}(hl:l + 1≤30) (ih:zq0 l){k n:Int}{m f:List UInt8}{va vt ve:Value}{args:List Ex}{thn els:List St}{h:Heap}{q:Nat}(hq0:h.get q=some (.blk [.int .i64 k,str m,str f,.int .i64 n,va,vt,ve] true)) (hva:ExsV h va args) (hvt:StsV h vt thn) (hve:StsV h ve els)
  {many:Nat}{th nm fr:Bool}{most:Int}{N:Nat}{vars:List Nat}{x0 x3 x9 x10 x11 x12 x13:Value}(Q:Value→Heap→Prop)
  (hq:∀ h',h.le h' → Q (.bool (nm && fr && decide (0≤n) && decide (n≤most) && args.length == many && (th || thn.length == 0) && (k == 6 || els.length == 0) && yd args 30 && yo thn l && yo els l)) h') :
  W Tryz.prog N vars zf5 (ret1 3 Q) [x0,.int .i64 ((l + 1:Nat):Int),.pointer (some ⟨q,0,none⟩),x3,.int .i64 (many:Int),.bool th,.bool nm,.bool fr,.int .i64 most,x9,x10,x11,x12,x13] h:=by
 have la:=hva.len
 have lea:=hva.le
 have lt:=hvt.len
 have le:=hve.len
 have hno:∀ b:Bool,b=false→(nm && fr && decide (0≤n) && decide (n≤most) && args.length == many && (th || thn.length == 0) && (k == 6 || els.length == 0) && yd args 30 && yo thn l && yo els l)=b→Hid (Q (.bool false) h):=fun b hb e=>⟨by
  have g:=hq h (.refl _);rw [e,hb] at g;exact g⟩
 replace hq:=zb hq;replace hva:=zb hva;replace hvt:=zb hvt;replace hve:=zb hve;replace hno:=zb hno;replace ih:=zb ih;replace hl:=zb hl;replace lea:=zb lea
 delta zf5 Vd Vc
 cases nm with
 | false =>
  have g:=hno.h _ rfl (by simp)
  simp only [za, *]
  exact g.h
 | true =>
 cases fr with
 | false =>
  have g:=hno.h _ rfl (by simp)
  simp only [za, *]
  exact g.h
 | true =>
 by_cases hn0:n < 0
 ·have g:=hno.h _ rfl (by
  have:decide (0≤n)=false:=by simp;omega
  rw [this];simp)
  simp only [za,aR,zf,zg, *]
  exact g.h
 by_cases hnm:most < n
 ·have g:=hno.h _ rfl (by
  have:decide (n≤most)=false:=by simp;omega
  rw [this];simp)
  simp only [za,aR,zf,zg, *]
  exact g.h
 by_cases hm:args.length=many
 case neg =>
  have hm' : ((args.length:Int) != (many:Int))=true:=by simp;omega
  have g:=hno.h _ rfl (by
   have:(args.length == many)=false:=by simpa using hm
   rw [this];simp)
  clear hm
  simp only [za,aR,zf,zg, *]
  exact g.h
 have hm' : ((args.length:Int) != (many:Int))=false:=by simp;omega
 have hth:(th=false∧(0:Int) < (thn.length:Int))∨((th || thn.length == 0)=true∧(th=true∨(th=false ∧ ¬ (0:Int) < (thn.length:Int)))):=by
  cases th with
  | true=>exact .inr ⟨rfl,.inl rfl⟩
  | false =>
   by_cases h0:thn.length=0
   ·exact .inr ⟨by simp [h0],.inr ⟨rfl,by omega⟩⟩
   ·exact .inl ⟨rfl,by omega⟩
 rcases hth with ⟨rfl,h0⟩ | ⟨hth,hth2⟩
 ·have g:=hno.h _ rfl (by
  have:(thn.length == 0)=false:=beq_eq_false_iff_ne.2 (by omega)
  rw [this];simp)
  simp only [za,aR,zf,zg, *]
  exact g.h
 have hel:((k != 6)=true∧(0:Int) < (els.length:Int))∨((k == 6 || els.length == 0)=true∧((k != 6)=false∨((k != 6)=true ∧ ¬ (0:Int) < (els.length:Int)))):=by
  by_cases h6:k=6
  ·exact .inr ⟨by simp [h6],.inl (by simp [h6])⟩
  ·by_cases h0:els.length=0
   ·exact .inr ⟨by simp [h0],.inr ⟨by simpa using h6,by omega⟩⟩
   ·exact .inl ⟨by simpa using h6,by omega⟩
 rcases hel with ⟨h6,h0⟩ | ⟨hel,hel2⟩
 ·have g:=hno.h _ rfl (by
  have a1:(els.length == 0)=false:=beq_eq_false_iff_ne.2 (by omega)
  have a2:(k == 6)=false:=by simpa using h6
  rw [a1,a2];simp)
  rcases hth2 with rfl | ⟨rfl,h7⟩
  ·simp only [za,aR,zf,zg, *]
   exact g.h
  ·simp only [za,aR,zf,zg, *]
   exact g.h
 have fin:=fun x9=>st_rest2 (N:=N) (vars:=vars) (x0:=x0) (x3:=x3) (x5:=.bool th) (x6:=.bool true) (x7:=.bool true) (x8:=.int .i64 most) (x9:=x9) (x10:=x10) (x11:=x11) (x12:=x12) (x13:=x13) hl.h ih.h hq0 hva.h hvt.h hve.h Q fun h' l'=>by
  have g:=hq.h h' l'
  have b1:decide (0≤n)=true:=by simp;omega
  have b2:decide (n≤most)=true:=by simp;omega
  have b3:(args.length == many)=true:=by simpa using hm
  rw [b1,b2,b3,hth,hel] at g
  simpa using g
 rw [hm] at fin
 replace fin:=Hid.mk (fin x9)
 clear hno hq hva hvt hve hth hel
 rcases hth2 with rfl | ⟨rfl,h7⟩<;>rcases hel2 with h8 | ⟨h8,h9⟩
 ·simp only [za,aR,zf,zg, *]
  exact fin.h
 ·simp only [za,aR,zf,zg, *]
  exact fin.h
 ·simp only [za,aR,zf,zg, *]
  exact fin.h
 ·simp only [za,aR,zf,zg, *]
  exact fin.h
end Go.Eng.Sy
namespace Go.Eng.Sy
open Go Go.Eng Go.Proofs
theorem K6 {left:Nat}(hl:left≤30) (ih:∀ l,left=l + 1→zq0 l):StmC left:=by
 intro s x h Q hx hq
 obtain ⟨k,m,f,n,args,thn,els⟩:=s
 obtain ⟨va,vt,ve,rfl,hva,hvt,hve⟩:=hx.cells
 have b1:=Qu (k:=k) (n:=n) (m:=m) (f:=f) hva.one hvt.one hve.one
 obtain ⟨q,h1,eq,eh1,gq,lh1⟩:=zo h [.int .i64 k,str m,str f,.int .i64 n,va,vt,ve]
 have o1:=hva.one
 have o2:=hvt.one
 have o3:=hve.one
 replace hva:=hva.mono lh1
 replace hvt:=hvt.mono lh1
 replace hve:=hve.mono lh1
 clear hx
 replace hva:=zb hva;replace hvt:=zb hvt;replace hve:=zb hve;replace lh1:=zb lh1;replace ih:=zb ih;replace hl:=zb hl
 refine zi (k:=3) ok79 rfl rfl rfl fun N=>?_
 show W Tryz.prog N _ ((.seq (.reg zj4 [(2,1),(3,0)]) (.seq (.rcond zj3 [] 0 (.seq (.reg zj2 [(3,0)]) .ret) .skip) (.seq (.reg zj1 [(4,0)]) (.seq (.reg zj0 [(5,0)]) (.seq (.reg zi9 [(6,0)]) (.seq (.reg zi8 [(7,0)]) (.seq (.reg zi7 [(8,0)]) (.seq (.seq (.reg zi6 [(13,0)]) (.block 0 (.rcond zi5 [] 0 (.reg Vz [(4,0)]) (.rcond Vy [] 0 (.seq (.reg Vx [(7,0)]) (.reg Vw [(8,0)])) (.rcond Vv [] 0 (.seq (.reg Vu [(4,0)]) (.reg Vt [(8,0)])) (.rcond Vs [] 0 (.reg Vr [(4,0)]) (.rcond Vq [] 0 (.reg Vp [(5,0)]) (.rcond Vo [] 0 (.seq (.reg Vn [(4,0)]) (.seq (.reg Vm [(5,0)]) (.reg Vl [(6,0)]))) (.rcond Vk [] 0 (.seq (.reg Vj [(5,0)]) (.seq (.reg Vi [(8,0)]) (.reg Vh [(6,0)]))) (.rcond Vg [] 0 (.reg Vf [(6,0)]) (.seq (.reg Ve [(3,0)]) .ret))))))))))) zf5))))))))) _ [stV k m f n va vt ve,.int .i64 (left:Int),undef,undef,undef,undef,undef,undef,undef,undef,undef,undef,undef,undef] _
 delta zj4 zj3 zj2 zj1 zj0 zi9 zi8 zi7 zi6 zi5 Vz Vy Vx Vw Vv Vu Vt Vs Vr Vq Vp Vo Vn Vm Vl Vk Vj Vi Vh Vg Vf Ve
 replace hq:=Hid.mk hq
 cases left with
 | zero =>
  have g:=hq.h h1 lh1.h
  have g:Q (.bool false) h1:=g
  replace g:=Hid.mk g
  have z:((0:Nat):Int) < 1:=by decide
  clear hq
  simp only [za,zf,zg, *]
  exact g.h
 | succ l =>
  have z:¬ ((l + 1:Nat):Int) < 1:=by omega
  simp only [za,aR,zf,zg, *]
  refine Zb h1 _ fun h2 l2=>?_
  have g2:=l2.get gq
  have fin:∀ (h' : Heap) (x13:Value),h2.le h' → xe k=true →
    W Tryz.prog N c79.vars zf5 (ret1 3 Q) [stV k m f n va vt ve,.int .i64 ((l + 1:Nat):Int),.pointer (some ⟨q,0,none⟩),.bool false,.int .i64 (wk k:Int),.bool (xd k),.bool (jz m (wq k)),.bool (jz f (Q9 k)),.int .i64 (wr k),undef,undef,undef,undef,x13] h':=fun h' x13 hl' hk=>by
   have l1':=l2.trans hl'
   refine st_rest hl.h (ih.h l rfl) (hl'.get g2) (hva.h.mono l1') (hvt.h.mono l1') (hve.h.mono l1') Q fun h3 l3=>?_
   have g:=hq.h h3 (lh1.h.trans (l1'.trans l3))
   have e:kb (.mk k m f n args thn els) (l + 1)=(jz m (wq k) && jz f (Q9 k) && decide (0≤n) && decide (n≤wr k) && args.length == wk k && (xd k || thn.length == 0) && (k == 6 || els.length == 0) && yd args 30 && yo thn l && yo els l):=by
    have e6:xh k=(k == 6):=by unfold xh;by_cases h:k=6<;>simp [h]
    simp only [kb,hk,Bool.true_and,e6]
    generalize (xd k || thn.length == 0)=b1
    generalize (k == 6 || els.length == 0)=b2
    generalize yd args 30=b3
    cases b1<;>cases b2<;>cases b3<;>simp
   rw [e] at g
   exact g
  have bad:xe k=false→Q (.bool false) h2:=fun hk=>by
   have g:=hq.h h2 (lh1.h.trans l2)
   have e:kb (.mk k m f n args thn els) (l + 1)=false:=by simp only [kb,hk,Bool.false_and]
   rw [e] at g;exact g
  clear gq hva hvt hve b1 hq ih
  replace fin:=zb fin;replace bad:=zb bad;replace l2:=zb l2;replace lh1:=zb lh1
  by_cases k1:k=1
  ·subst k1
   have g:=Hid.mk (fin.h h2 (.int .i64 1) (.refl _) rfl)
   clear fin bad
   simp only [za,aR,zf,zg,Ja, *]
   exact g.h
  have n1:(k == 1)=false:=by simp [k1]
  by_cases k2:k=2
  ·subst k2
   simp only [za,aR,zf,zg,Ja, *]
   refine Zb h2 _ fun h3 l3=>?_
   have g3:=l3.get g2
   have g:=Hid.mk (fin.h h3 (.int .i64 2) l3 rfl)
   clear fin bad l3 g2
   simp only [za, *]
   exact g.h
  have n2:(k == 2)=false:=by simp [k2]
  by_cases k3:k=3
  ·subst k3
   have g:=Hid.mk (fin.h h2 (.int .i64 3) (.refl _) rfl)
   clear fin bad
   simp only [za,aR,zf,zg,Ja, *]
   exact g.h
  have n3:(k == 3)=false:=by simp [k3]
  by_cases k4:k=4
  ·subst k4
   have g:=Hid.mk (fin.h h2 (.int .i64 4) (.refl _) rfl)
   clear fin bad
   simp only [za,aR,zf,zg,Ja, *]
   exact g.h
  have n4:(k == 4)=false:=by simp [k4]
  by_cases k5:k=5
  ·subst k5
   have g:=Hid.mk (fin.h h2 (.int .i64 5) (.refl _) rfl)
   clear fin bad
   simp only [za,aR,zf,zg,Ja, *]
   exact g.h
  have n5:(k == 5)=false:=by simp [k5]
  by_cases k6:k=6
  ·subst k6
   have g:=Hid.mk (fin.h h2 (.int .i64 6) (.refl _) rfl)
   clear fin bad
   simp only [za,aR,zf,zg,Ja, *]
   exact g.h
  have n6:(k == 6)=false:=by simp [k6]
  by_cases k7:k=7
  ·subst k7
   have g:=Hid.mk (fin.h h2 (.int .i64 7) (.refl _) rfl)
   clear fin bad
   simp only [za,aR,zf,zg,Ja, *]
   exact g.h
  have n7:(k == 7)=false:=by simp [k7]
  by_cases k8:k=8
  ·subst k8
   have g:=Hid.mk (fin.h h2 (.int .i64 8) (.refl _) rfl)
   clear fin bad
   simp only [za,aR,zf,zg,Ja, *]
   exact g.h
  have n8:(k == 8)=false:=by simp [k8]
  have g:=Hid.mk (bad.h (by unfold xe;simp;omega))
  clear fin bad
  simp only [za,aR,zf,zg,Ja, *]
  exact g.h
theorem zt0:∀ left,left≤30→StmC left∧zq0 left:=by
 intro left
 induction left with
 | zero=>intro hl;have a:=K6 (left:=0) hl (fun l h=>by omega);exact ⟨a,Jq a⟩
 | succ l ih=>intro hl;have a:=K6 hl (fun l' h=>by cases h;exact (ih (by omega)).2);exact ⟨a,Jq a⟩
theorem zm7 {left:Nat}(h:left≤30):zq0 left:=(zt0 left h).2
end Go.Eng.Sy
namespace Go.Eng.Sy
open Go Go.Eng Go.Proofs
theorem refDev_w {h:Heap}{q:Nat}{H:Int}{d r t:Value}{l:List Nm}(gq:h.get q=some (.blk [.int .i64 H,d,r,t] true)) (hv:NmsV h d l){N:Nat}{vars:List Nat}{x0 x4 x5 x6 x7 x8 x9 x10:Value}(RQ:AExit→List Value→Heap→Prop)
  (hq:∀ h' y,h.le h' → l.all vm=true→RQ (.exit 0) [x0,.pointer (some ⟨q,0,none⟩),.bool false,.int .i64 (l.length:Int),y,x5,x6,x7,x8,x9,x10] h')
  (hno:∀ h' i y,h.le h' → l.all vm=false→RQ .ret [x0,.pointer (some ⟨q,0,none⟩),.bool false,i,y,x5,x6,x7,x8,x9,x10] h') :
  LoopW Tryz.prog N vars yb7 [x0,.pointer (some ⟨q,0,none⟩),.bool false,.int .i64 0,x4,x5,x6,x7,x8,x9,x10] h RQ:=by
 have hle:=hv.2
 replace hv:=zb hv;replace hq:=zb hq;replace hno:=zb hno
 refine LoopW.upto l.length (fun i e h1=>h.le h1∧(l.take i).all vm=true ∧ ∃ y,e=[x0,.pointer (some ⟨q,0,none⟩),.bool false,.int .i64 (i:Int),y,x5,x6,x7,x8,x9,x10]) ?_ (Nat.zero_le _) ⟨.refl h,rfl,_,rfl⟩
 rintro i _ h1 R hi ⟨hl1,ha,y,rfl⟩ hR
 have gq:=hl1.get gq
 have hv1:=hv.h.mono hl1
 have hln:=hv1.len
 delta yb7
 by_cases hlt:i < l.length
 case neg =>
  have hlt' : ¬ (i:Int) < l.length:=by omega
  have hi2:i=l.length:=by omega
  have g:=hq.h h1 y hl1 (by rw [← List.take_length (l:=l),← hi2,ha])
  rw [← hi2] at g
  replace g:=Hid.mk g
  clear hq hno hR ha hi2
  replace hl1:=zb hl1;replace hv1:=zb hv1
  simp only [za,aR,zf,zg, *]
  exact g.h
 have hlt' : (i:Int) < l.length:=by omega
 obtain ⟨s,hs⟩:∃ e,l[i]? = some e:=⟨_,List.getElem?_eq_getElem hlt⟩
 obtain ⟨id,off,cells,own,e1,e2,_,e3⟩:=SlV.elem hv1.1 (i:=i) (x:=[str s.name,.int .i64 s.n]) (by simp [hs])
 have f0:cells[off]? = some (str s.name):=e3 0 (by omega)
 have f1:cells[off + 1]? = some (.int .i64 s.n):=e3 1 (by omega)
 have w:IntKind.i64.wrap ((i:Int) + 1)=((i + 1:Nat):Int):=by rw [z6 (by omega) (by omega)];rfl
 have et:(l.take (i + 1)).all vm=((l.take i).all vm && vm s):=by rw [List.take_add_one,hs];simp
 have hmem:s ∈ l:=List.mem_of_getElem? hs
 rw [ha] at et
 have hbad:vm s=false→l.all vm=false:=fun hb=>by
  rw [List.all_eq_false];exact ⟨s,hmem,by rw [hb];simp⟩
 have hdef:vm s=(zp s.name && decide (1≤s.n∧s.n≤3)):=rfl
 clear hs e3
 replace ha:=zb ha;replace hl1:=zb hl1;replace et:=zb et;replace hmem:=zb hmem;replace hv1:=zb hv1;replace hbad:=zb hbad;replace hdef:=zb hdef
 simp only [za,aR,zf,zg, *]
 refine Zb h1 _ fun h2 l2=>?_
 have gq2:=l2.get gq
 have e22:=l2.get e2
 clear gq e2
 cases hb:zp s.name with
 | false =>
  have g:=hno.h h2 (.int .i64 i) (.bool false) (hl1.h.trans l2) (hbad.h (by rw [hdef.h,hb];rfl))
  replace g:=Hid.mk g
  clear hR hq hno l2 et hmem hbad hdef
  simp only [za, *]
  exact g.h
 | true =>
  by_cases h1n:s.n < 1
  ·have g:=hno.h h2 (.int .i64 i) (.bool true) (hl1.h.trans l2) (hbad.h (by rw [hdef.h,hb];simp;omega))
   replace g:=Hid.mk g
   clear hR hq hno l2 et hmem hbad hdef
   simp only [za,aR,zf,zg, *]
   exact g.h
  by_cases h2n:3 < s.n
  ·have g:=hno.h h2 (.int .i64 i) (.bool true) (hl1.h.trans l2) (hbad.h (by rw [hdef.h,hb];simp;omega))
   replace g:=Hid.mk g
   clear hR hq hno l2 et hmem hbad hdef
   simp only [za,aR,zf,zg, *]
   exact g.h
  have g:=hR.h _ h2 hlt ⟨hl1.h.trans l2,by rw [et.h,hdef.h,hb];simp;omega,.bool true,rfl⟩
  replace g:=Hid.mk g
  clear hR hq hno l2 et hmem hbad hdef
  simp only [za,aR,zf,zg, *]
  exact g.h
theorem refRes_w {h:Heap}{q:Nat}{H:Int}{d r t:Value}{l:List Nm}(gq:h.get q=some (.blk [.int .i64 H,d,r,t] true)) (hv:NmsV h r l){N:Nat}{vars:List Nat}{x0 x3 x4 x6 x7 x8 x9 x10:Value}(RQ:AExit→List Value→Heap→Prop)
  (hq:∀ h' y,h.le h' → l.all vc=true→RQ (.exit 2) [x0,.pointer (some ⟨q,0,none⟩),.bool false,x3,x4,.int .i64 (l.length:Int),y,x7,x8,x9,x10] h')
  (hno:∀ h' i y,h.le h' → l.all vc=false→RQ .ret [x0,.pointer (some ⟨q,0,none⟩),.bool false,x3,x4,i,y,x7,x8,x9,x10] h') :
  LoopW Tryz.prog N vars zd8 [x0,.pointer (some ⟨q,0,none⟩),.bool false,x3,x4,.int .i64 0,x6,x7,x8,x9,x10] h RQ:=by
 have hle:=hv.2
 replace hv:=zb hv;replace hq:=zb hq;replace hno:=zb hno
 refine LoopW.upto l.length (fun i e h1=>h.le h1∧(l.take i).all vc=true ∧ ∃ y,e=[x0,.pointer (some ⟨q,0,none⟩),.bool false,x3,x4,.int .i64 (i:Int),y,x7,x8,x9,x10]) ?_ (Nat.zero_le _) ⟨.refl h,rfl,_,rfl⟩
 rintro i _ h1 R hi ⟨hl1,ha,y,rfl⟩ hR
 have gq:=hl1.get gq
 have hv1:=hv.h.mono hl1
 have hln:=hv1.len
 delta zd8
 by_cases hlt:i < l.length
 case neg =>
  have hlt' : ¬ (i:Int) < l.length:=by omega
  have hi2:i=l.length:=by omega
  have g:=hq.h h1 y hl1 (by rw [← List.take_length (l:=l),← hi2,ha])
  rw [← hi2] at g
  replace g:=Hid.mk g
  clear hq hno hR ha hi2
  replace hl1:=zb hl1;replace hv1:=zb hv1
  simp only [za,aR,zf,zg, *]
  exact g.h
 have hlt' : (i:Int) < l.length:=by omega
 obtain ⟨s,hs⟩:∃ e,l[i]? = some e:=⟨_,List.getElem?_eq_getElem hlt⟩
 obtain ⟨id,off,cells,own,e1,e2,_,e3⟩:=SlV.elem hv1.1 (i:=i) (x:=[str s.name,.int .i64 s.n]) (by simp [hs])
 have f0:cells[off]? = some (str s.name):=e3 0 (by omega)
 have f1:cells[off + 1]? = some (.int .i64 s.n):=e3 1 (by omega)
 have w:IntKind.i64.wrap ((i:Int) + 1)=((i + 1:Nat):Int):=by rw [z6 (by omega) (by omega)];rfl
 have et:(l.take (i + 1)).all vc=((l.take i).all vc && vc s):=by rw [List.take_add_one,hs];simp
 have hmem:s ∈ l:=List.mem_of_getElem? hs
 rw [ha] at et
 have hbad:vc s=false→l.all vc=false:=fun hb=>by
  rw [List.all_eq_false];exact ⟨s,hmem,by rw [hb];simp⟩
 have hdef:vc s=(zp s.name && decide (1≤s.n∧s.n≤8)):=rfl
 clear hs e3
 replace ha:=zb ha;replace hl1:=zb hl1;replace et:=zb et;replace hmem:=zb hmem;replace hv1:=zb hv1;replace hbad:=zb hbad;replace hdef:=zb hdef
 simp only [za,aR,zf,zg, *]
 refine Zb h1 _ fun h2 l2=>?_
 have gq2:=l2.get gq
 have e22:=l2.get e2
 clear gq e2
 cases hb:zp s.name with
 | false =>
  have g:=hno.h h2 (.int .i64 i) (.bool false) (hl1.h.trans l2) (hbad.h (by rw [hdef.h,hb];rfl))
  replace g:=Hid.mk g
  clear hR hq hno l2 et hmem hbad hdef
  simp only [za, *]
  exact g.h
 | true =>
  by_cases h1n:s.n < 1
  ·have g:=hno.h h2 (.int .i64 i) (.bool true) (hl1.h.trans l2) (hbad.h (by rw [hdef.h,hb];simp;omega))
   replace g:=Hid.mk g
   clear hR hq hno l2 et hmem hbad hdef
   simp only [za,aR,zf,zg, *]
   exact g.h
  by_cases h2n:8 < s.n
  ·have g:=hno.h h2 (.int .i64 i) (.bool true) (hl1.h.trans l2) (hbad.h (by rw [hdef.h,hb];simp;omega))
   replace g:=Hid.mk g
   clear hR hq hno l2 et hmem hbad hdef
   simp only [za,aR,zf,zg, *]
   exact g.h
  have g:=hR.h _ h2 hlt ⟨hl1.h.trans l2,by rw [et.h,hdef.h,hb];simp;omega,.bool true,rfl⟩
  replace g:=Hid.mk g
  clear hR hq hno l2 et hmem hbad hdef
  simp only [za,aR,zf,zg, *]
  exact g.h
end Go.Eng.Sy
namespace Go.Eng.Sy
open Go Go.Eng Go.Proofs
abbrev zTs6:List Value:=[.string ⟨#[]⟩,.bool false,.int .i64 0,.int .i64 0,.int .i64 0,.slice none 0 0]
theorem st_ts6 (h:Heap) (m:List UInt8) (b:Bool) (a p i:Int){u:Value}(hu:u.oneCell' = true):yh 6 (h.alloc (.blk zTs6 true)) [.pointer (some ⟨h.next,0,none⟩),tsV m b a p i u]=some (undef,h.alloc (.blk [str m,.bool b,.int .i64 a,.int .i64 p,.int .i64 i,u] true)) :=
 zy rfl rfl rfl (by simp [hu];simp [Value.oneCell'])
theorem refTsk_w {h:Heap}{q:Nat}{H:Int}{d r t:Value}{l:List Tsk}(gq:h.get q=some (.blk [.int .i64 H,d,r,t] true)) (hv:TssV h t l) (hle:l.length≤140737488355328){N:Nat}{vars:List Nat}{x0 x3 x4 x5 x6 x8 x9 x10:Value}(RQ:AExit→List Value→Heap→Prop)
  (hq:∀ h' i x8 x9 x10,h.le h' → l.all jk=true→RQ (.exit 4) [x0,.pointer (some ⟨q,0,none⟩),.bool false,x3,x4,x5,x6,i,x8,x9,x10] h')
  (hno:∀ h' i x8 x9 x10,h.le h' → l.all jk=false→RQ .ret [x0,.pointer (some ⟨q,0,none⟩),.bool false,x3,x4,x5,x6,i,x8,x9,x10] h') :
  LoopW Tryz.prog N vars zd7 [x0,.pointer (some ⟨q,0,none⟩),.bool false,x3,x4,x5,x6,.int .i64 0,x8,x9,x10] h RQ:=by
 replace hv:=zb hv;replace hq:=zb hq;replace hno:=zb hno
 refine LoopW.upto l.length (fun i e h1=>h.le h1∧(l.take i).all jk=true ∧ ∃ x8 x9 x10,e=[x0,.pointer (some ⟨q,0,none⟩),.bool false,x3,x4,x5,x6,.int .i64 (i:Int),x8,x9,x10]) ?_ (Nat.zero_le _) ⟨.refl h,rfl,_,_,_,rfl⟩
 rintro i _ h1 R hi ⟨hl1,ha,y8,y9,y10,rfl⟩ hR
 have gq:=hl1.get gq
 have hv1:=hv.h.mono hl1
 have hln:=hv1.len
 delta zd7
 by_cases hlt:i < l.length
 case neg =>
  have hlt' : ¬ (i:Int) < l.length:=by omega
  have hi2:i=l.length:=by omega
  have g:=hq.h h1 (.int .i64 i) y8 y9 y10 hl1 (by rw [← List.take_length (l:=l),← hi2,ha])
  replace g:=Hid.mk g
  clear hq hno hR ha hi2
  replace hl1:=zb hl1;replace hv1:=zb hv1
  simp only [za,aR,zf,zg, *]
  exact g.h
 have hlt' : (i:Int) < l.length:=by omega
 obtain ⟨s,hs⟩:∃ e,l[i]? = some e:=⟨_,List.getElem?_eq_getElem hlt⟩
 obtain ⟨id,off,cells,own,u,e1,e2,e3,hu⟩:=TssV.elem hv1 hs
 have w:IntKind.i64.wrap ((i:Int) + 1)=((i + 1:Nat):Int):=by rw [z6 (by omega) (by omega)];rfl
 have et:(l.take (i + 1)).all jk=((l.take i).all jk && jk s):=by rw [List.take_add_one,hs];simp
 have hmem:s ∈ l:=List.mem_of_getElem? hs
 rw [ha] at et
 have hbad:jk s=false→l.all jk=false:=fun hb=>by
  rw [List.all_eq_false];exact ⟨s,hmem,by rw [hb];simp⟩
 obtain ⟨nm,hb,hart,prio,line,body⟩:=s
 have hdef:jk ⟨nm,hb,hart,prio,line,body⟩=(zp nm && decide (0≤hart∧hart≤3) && decide (1≤prio∧prio≤7) && decide (0≤line∧line≤(if hb then 7 else 0)) && yo body 30):=rfl
 have hu:StsV h1 u body:=hu
 have e3:qk true off 6 cells=some (tsV nm hb hart prio line u):=e3
 have o1:=hu.one
 have st:=st_ts6 h1 nm hb hart prio line o1
 obtain ⟨p2,h2,ep2,eh2,gp2,lh2⟩:=zo h1 [str nm,.bool hb,.int .i64 hart,.int .i64 prio,.int .i64 line,u]
 rw [eh2,ep2] at st
 have hu2:=hu.mono lh2
 have gq2:=lh2.get gq
 have l02:=hl1.trans lh2
 clear hs hl1 hu lh2
 replace ha:=zb ha;replace et:=zb et;replace hmem:=zb hmem;replace hv1:=zb hv1;replace hbad:=zb hbad;replace hdef:=zb hdef;replace hu2:=zb hu2;replace l02:=zb l02
 simp only [za,aR,aW,zf,zg, *]
 refine Zb h2 _ fun h3 l3=>?_
 have gp3:=l3.get gp2
 have gq3:=l3.get gq2
 have hu3:=hu2.h.mono l3
 have l03:=l02.h.trans l3
 clear gp2 gq2 hu2 l3
 replace hu3:=zb hu3;replace l03:=zb l03
 simp only [za,aR, *]
 refine zm7 (left:=30) (by omega) body u h3 _ hu3.h fun h4 l4=>?_
 have gp4:=l4.get gp3
 have l04:=l03.h.trans l4
 clear gp3 hu3 l4
 have no:∀ y9 y10,jk ⟨nm,hb,hart,prio,line,body⟩=false→Hid (RQ .ret [x0,.pointer (some ⟨q,0,none⟩),.bool false,x3,x4,x5,x6,.int .i64 i,.pointer (some ⟨p2,0,none⟩),y9,y10] h4):=fun y9 y10 hf=>⟨hno.h h4 _ _ _ _ l04 (hbad.h hf)⟩
 replace no:=zb no;replace l04:=zb l04
 clear hno hbad
 cases hn:zp nm with
 | false =>
  have g:=no.h (.bool false) (.bool (yo body 30)) (by rw [hdef.h,hn];rfl)
  clear hR hq et hmem hdef no
  simp only [za, *]
  exact g.h
 | true =>
 cases hw:yo body 30 with
 | false =>
  have g:=no.h (.bool true) (.bool false) (by rw [hdef.h,hw];simp)
  clear hR hq et hmem hdef no
  simp only [za, *]
  exact g.h
 | true =>
 have no':=fun hf=>no.h (.bool true) (.bool true) hf
 by_cases c1:hart < 0
 ·have g:=no' (by rw [hdef.h];simp;omega)
  clear hR hq et hmem hdef no no'
  simp only [za,aR,zf,zg, *]
  exact g.h
 by_cases c2:3 < hart
 ·have g:=no' (by rw [hdef.h];simp;omega)
  clear hR hq et hmem hdef no no'
  simp only [za,aR,zf,zg, *]
  exact g.h
 by_cases c3:prio < 1
 ·have g:=no' (by rw [hdef.h];simp;omega)
  clear hR hq et hmem hdef no no'
  simp only [za,aR,zf,zg, *]
  exact g.h
 by_cases c4:7 < prio
 ·have g:=no' (by rw [hdef.h];simp;omega)
  clear hR hq et hmem hdef no no'
  simp only [za,aR,zf,zg, *]
  exact g.h
 by_cases c5:line < 0
 ·have g:=no' (by rw [hdef.h];simp;omega)
  clear hR hq et hmem hdef no no'
  simp only [za,aR,zf,zg, *]
  exact g.h
 by_cases c6:7 < line
 ·have g:=no' (by rw [hdef.h];cases hb<;>simp<;>omega)
  clear hR hq et hmem hdef no no'
  simp only [za,aR,zf,zg, *]
  exact g.h
 cases hb with
 | true =>
  have g:=hR.h _ h4 hlt ⟨l04.h,by rw [et.h,hdef.h,hn,hw];simp;omega,.pointer (some ⟨p2,0,none⟩),.bool true,.bool true,rfl⟩
  replace g:=Hid.mk g
  clear hR hq et hmem hdef no no'
  simp only [za,aR,zf,zg, *]
  exact g.h
 | false =>
  by_cases c7:0 < line
  ·have g:=no' (by rw [hdef.h];simp;omega)
   clear hR hq et hmem hdef no no'
   simp only [za,aR,zf,zg, *]
   exact g.h
  ·have g:=hR.h _ h4 hlt ⟨l04.h,by rw [et.h,hdef.h,hn,hw];simp;omega,.pointer (some ⟨p2,0,none⟩),.bool true,.bool true,rfl⟩
   replace g:=Hid.mk g
   clear hR hq et hmem hdef no no'
   simp only [za,aR,zf,zg, *]
   exact g.h
theorem K7 {h:Heap}{p:Prg}{x:List Value}(hx:PrC h p x) (Q:Value→Heap→Prop) (hq:∀ h',h.le h' → Q (.bool (jq p)) h'):CallW Tryz.prog 12 [.agg x.toArray] h Q:=by
 obtain ⟨d,r,t,rfl,hd,hr,ht⟩:=hx
 obtain ⟨H,devs,ress,tasks⟩:=p
 simp only at hd hr ht
 have b1:=Yd (n:=H) hd.one hr.one ht.one
 obtain ⟨q,h1,eq,eh1,gq,lh1⟩:=zo h [.int .i64 H,d,r,t]
 have hd1:=hd.mono lh1
 have hr1:=hr.mono lh1
 have ht1:=ht.mono lh1
 have ln1:=hd1.len
 have ln2:=hr1.len
 have ln3:=ht1.len
 have hdef:jq ⟨H,devs,ress,tasks⟩=(decide (1≤H∧H≤4) && decide (devs.length≤8) && decide (ress.length≤8) && decide (tasks.length≤16) && devs.all vm && ress.all vc && tasks.all jk):=rfl
 clear hd hr ht
 replace hd1:=zb hd1;replace hr1:=zb hr1;replace ht1:=zb ht1;replace lh1:=zb lh1;replace hdef:=zb hdef
 refine zi (k:=2) ok12 rfl rfl rfl fun N=>?_
 rw [show y0 c12 [prV H d r t]=[prV H d r t,undef,undef,undef,undef,undef,undef,undef,undef,undef,undef] from rfl]
 delta c12
 replace hq:=zb hq
 have no:jq ⟨H,devs,ress,tasks⟩=false → ∀ h',h1.le h' → Hid (Q (.bool false) h'):=fun hf h' l'=>⟨by have g:=hq.h h' (lh1.h.trans l');rw [hf] at g;exact g⟩
 replace no:=zb no
 by_cases c1:H < 1
 ·have g:=no.h (by rw [hdef.h];simp;omega) h1 (.refl _)
  clear hq no
  simp only [za,aR,zf,zg, *]
  exact g.h
 by_cases c2:4 < H
 ·have g:=no.h (by rw [hdef.h];simp;omega) h1 (.refl _)
  clear hq no
  simp only [za,aR,zf,zg, *]
  exact g.h
 by_cases c3:(8:Int) < (devs.length:Int)
 ·have g:=no.h (by
  rw [hdef.h];have:decide (devs.length≤8)=false:=by simp;omega
  rw [this];simp) h1 (.refl _)
  clear hq no
  simp only [za,aR,zf,zg, *]
  exact g.h
 by_cases c4:(8:Int) < (ress.length:Int)
 ·have g:=no.h (by
  rw [hdef.h];have:decide (ress.length≤8)=false:=by simp;omega
  rw [this];simp) h1 (.refl _)
  clear hq no
  simp only [za,aR,zf,zg, *]
  exact g.h
 by_cases c5:(16:Int) < (tasks.length:Int)
 ·have g:=no.h (by
  rw [hdef.h];have:decide (tasks.length≤16)=false:=by simp;omega
  rw [this];simp) h1 (.refl _)
  clear hq no
  simp only [za,aR,zf,zg, *]
  exact g.h
 simp only [za,aR,zf,zg, *]
 refine refDev_w gq hd1.h _ (fun h2 y l2 ha=>?_) fun h2 i y l2 ha=>?_
 case refine_2 =>
  have g:=no.h (by rw [hdef.h,ha];simp) h2 l2
  clear hq no l2 ha
  simp only [za, *]
  exact g.h
 have gq2:=l2.get gq
 have hr2:=hr1.h.mono l2
 replace hr2:=zb hr2;replace l2:=zb l2;replace ha:=zb ha
 simp only [za, *]
 refine refRes_w gq2 hr2.h _ (fun h3 y l3 hb=>?_) fun h3 i y l3 hb=>?_
 case refine_2 =>
  have g:=no.h (by rw [hdef.h,hb];simp) h3 (l2.h.trans l3)
  clear hq no l2 ha l3 hb
  simp only [za, *]
  exact g.h
 have gq3:=l3.get gq2
 have ht3:=ht1.h.mono (l2.h.trans l3)
 replace ht3:=zb ht3;replace l3:=zb l3;replace hb:=zb hb
 simp only [za, *]
 refine refTsk_w gq3 ht3.h (by have:=ht3.h;obtain ⟨xs,a,c,b⟩:=this;rw [← b.length];exact c) _ (fun h4 i y8 y9 y10 l4 hc=>?_) fun h4 i y8 y9 y10 l4 hc=>?_
 case refine_2 =>
  have g:=no.h (by rw [hdef.h,hc];simp) h4 ((l2.h.trans l3.h).trans l4)
  clear hq no l2 ha l3 hb l4 hc
  simp only [za, *]
  exact g.h
 have g:=hq.h h4 (lh1.h.trans ((l2.h.trans l3.h).trans l4))
 have hr:jq ⟨H,devs,ress,tasks⟩=true:=by rw [hdef.h,ha.h,hb.h,hc];simp;omega
 rw [hr] at g
 replace g:=Hid.mk g
 clear hq no l2 ha l3 hb l4 hc hr
 simp only [za, *]
 exact g.h
end Go.Eng.Sy
namespace Go.Eng.Sy
open Go Go.Eng Go.Proofs
def zl6 (d:Nat):Prop:=∀ (e:Ex),ExI e d → ∀ (x:List Value) (h:Heap) (Q:Value→Heap→Prop),ExC h e x→(∀ h',h.le h' → Q (str (zq e)) h')→CallW Tryz.prog 55 [.agg x.toArray] h Q
def PartC6 (d:Nat):Prop:=∀ (e:Ex),ExI e d → ∀ (least:Nat) (x:List Value) (h:Heap) (Q:Value→Heap→Prop),ExC h e x→(∀ h',h.le h' → Q (str (ju e least)) h')→CallW Tryz.prog 93 [.agg x.toArray,.int .i64 (least:Int)] h Q
theorem zn0 {d:Nat}(hd:d≤30) (ih:zl6 d):PartC6 d:=by
 intro e he least x h Q hx hq
 have hlen:=wy he hd
 have ihe:=ih e he
 have hx0:=hx
 obtain ⟨v,rfl,hargs⟩:=hx.cells
 have b1:=vo (k:=e.kind) (o:=e.op) (n:=e.n) (m:=e.name) hargs.one
 obtain ⟨p,h0,ep,eh0,gp,lh0⟩:=zo h [.int .i64 e.kind,.int .i64 e.op,.int .i64 e.n,str e.name,v]
 have hx1:=hx0.mono lh0
 clear hargs hx hx0
 replace ihe:=zb ihe;replace hx1:=zb hx1;replace lh0:=zb lh0
 refine zi (k:=3) ok93 rfl rfl rfl fun N=>?_
 rw [show y0 c93 [exV e.kind e.op e.n e.name v,.int .i64 (least:Int)]=[exV e.kind e.op e.n e.name v,.int .i64 (least:Int),undef,undef,undef] from rfl]
 delta c93
 replace hq:=zb hq
 simp only [za,aR,zn, *]
 refine ihe.h _ _ _ hx1.h fun h1 l1=>?_
 have gp1:=l1.get gp
 have hq1:∀ h',h1.le h' → Q (str (ju e least)) h':=fun h' l'=>hq.h h' ((lh0.h.trans l1).trans l')
 clear hq l1 b1
 unfold ju Uf at hq1
 by_cases k4:e.kind=4
 ·by_cases hl:z7 e.op < least
  ·rw [if_pos ⟨k4,hl⟩] at hq1
   have hl' : (z7 e.op:Int) < (least:Int):=by omega
   have c1:=zt (a:=[40]) (b:=zq e) (by simp;omega)
   have c2:=zt (a:=[40]++zq e) (b:=[41]) (by simp;omega)
   have e1:(40::(zq e++[41]):List UInt8)=[40]++zq e++[41]:=by simp
   rw [e1] at hq1
   clear e1
   have k4' : (e.kind == 4)=true:=by simpa using k4
   clear k4
   replace hq1:=zb hq1
   simp only [za,aR,zf,zg, *]
   refine Z4 e.op _ _ fun h2 l2=>?_
   have g:=Hid.mk (hq1.h h2 l2)
   clear hq1 l2
   simp only [za,zf,zg, *]
   exact g.h
  ·rw [if_neg (by omega)] at hq1
   have hl' : ¬ (z7 e.op:Int) < (least:Int):=by omega
   have k4' : (e.kind == 4)=true:=by simpa using k4
   clear k4
   replace hq1:=zb hq1
   simp only [za,aR,zf,zg, *]
   refine Z4 e.op _ _ fun h2 l2=>?_
   have g:=Hid.mk (hq1.h h2 l2)
   clear hq1 l2
   simp only [za,zf,zg, *]
   exact g.h
 ·rw [if_neg (by omega)] at hq1
  have g:=Hid.mk (hq1 h1 (.refl _))
  have k4' : (e.kind == 4)=false:=by simpa using k4
  clear k4 hq1
  simp only [za,aR,zf,zg, *]
  exact g.h
theorem zm6 {d:Nat}(hd:d + 1≤30) (ih:zl6 d):zl6 (d + 1):=by
 intro e he x h Q hx hq
 have ihp:=zn0 (by omega) ih
 have hx0:=hx
 obtain ⟨v,rfl,hargs⟩:=hx.cells
 have b1:=vo (k:=e.kind) (o:=e.op) (n:=e.n) (m:=e.name) hargs.one
 obtain ⟨p,h0,ep,eh0,gp,lh0⟩:=zo h [.int .i64 e.kind,.int .i64 e.op,.int .i64 e.n,str e.name,v]
 have ha1:=hargs.mono lh0
 clear hargs hx hx0
 replace ih:=zb ih;replace ihp:=zb ihp;replace ha1:=zb ha1;replace lh0:=zb lh0
 refine zi (k:=2) ok55 rfl rfl rfl fun N=>?_
 rw [show y0 c55 [exV e.kind e.op e.n e.name v]=[exV e.kind e.op e.n e.name v,undef,undef,undef,undef,undef] from rfl]
 delta c55
 replace hq:=zb hq
 simp only [za,aR, *]
 refine zm8 _ _ _ fun h0' l0=>?_
 have gp:=l0.get gp
 simp only [za,aR, *]
 refine Z4 _ _ _ fun h1 l1'=>?_
 have l1:=l0.trans l1'
 have gp1:=l1'.get gp
 have ha2:=ha1.h.mono l1
 have hq2:=fun h' (l2:h1.le h')=>hq.h h' ((lh0.h.trans l1).trans l2)
 clear hq gp b1 eh0 ep ha1 lh0 l1 l0 l1'
 replace ha2:=zb ha2;replace hq2:=zb hq2
 cases he with
 | num n d h =>
  have g:=hq2.h h1 (Heap.le.refl h1)
  simp only [zq,kq,if_true] at g
  simp only [Ex.kind,Ex.op,Ex.n,Ex.name,Ex.args] at *
  replace g:=Hid.mk g
  clear g
  simp only [za,aR,zf,zg, *]
  refine wt n (by omega) _ _ fun h2 l2=>?_
  have g:=hq2.h h2 l2
  simp only [zq,kq,if_true] at g
  replace g:=Hid.mk g
  clear hq2 l2
  simp only [za, *]
  exact g.h
 | var m d h =>
  have g:=hq2.h h1 (Heap.le.refl h1)
  have e1:zq (.mk 2 0 0 m [])=m:=rfl
  rw [e1] at g
  simp only [Ex.kind,Ex.op,Ex.n,Ex.name,Ex.args] at *
  replace g:=Hid.mk g
  simp only [za,aR,zf,zg,Int.reduceBEq, *]
  exact g.h
 | one o a d h hI =>
  have e1:zq (.mk 3 o 0 [] [a])=ky o++ju a 9:=rfl
  rw [e1] at hq2
  simp only [Ex.kind,Ex.op,Ex.n,Ex.name,Ex.args] at *
  obtain ⟨id,off,cells,own,y,e1,e2,e3,hex,_⟩:=ha2.h.elem (i:=0) (e:=a) rfl
  have hw:=jo a 9 (zq a)
  have hl:=wy hI (by omega)
  have hs:=wg o
  have c1:=zt (a:=ky o) (b:=ju a 9) (by unfold ju;omega)
  clear hw hl hs
  replace hex:=zb hex
  rw [Int.ofNat_zero] at e1
  have k9:(9:Int)=((9:Nat):Int):=rfl
  simp only [za,aR,zf,zg,Int.reduceBEq, *]
  refine ihp.h _ hI _ _ _ _ hex.h fun h2 l2=>?_
  have g:=hq2.h h2 l2
  replace g:=Hid.mk g
  clear l2
  simp only [za,zf, *]
  exact g.h
 | two o a b d h hI hJ =>
  have e1:zq (.mk 4 o 0 [] [a,b])=ju a (z7 o)++[32]++ky o++[32]++ju b (z7 o + 1):=by simp [zq,Zl,kq,ju]
  rw [e1] at hq2
  simp only [Ex.kind,Ex.op,Ex.n,Ex.name,Ex.args] at *
  have hw:=jo a (z7 o) (zq a)
  have hw2:=jo b (z7 o + 1) (zq b)
  have hl:=wy hI (by omega)
  have hl2:=wy hJ (by omega)
  have hs:=wg o
  have c1:=zt (a:=ju a (z7 o)) (b:=[32]) (by unfold ju;simp;omega)
  have c2:=zt (a:=ju a (z7 o)++[32]) (b:=ky o) (by unfold ju;simp;omega)
  have c3:=zt (a:=ju a (z7 o)++[32]++ky o) (b:=[32]) (by unfold ju;simp;omega)
  have c4:=zt (a:=ju a (z7 o)++[32]++ky o++[32]) (b:=ju b (z7 o + 1)) (by unfold ju;simp;omega)
  clear hw hl hs hw2 hl2
  have hlv:=wI (z7 o) (by have:=Uw o;omega)
  obtain ⟨id,off,cells,own,y,e1,e2,e3,hex,_⟩:=ha2.h.elem (i:=0) (e:=a) rfl
  rw [Int.ofNat_zero] at e1
  replace hex:=zb hex
  simp only [za,aR,zf,zg,Int.reduceBEq, *]
  refine ihp.h _ hI _ _ _ _ hex.h fun h2 l2=>jr l2.ext ?_
  have gp2:=l2.get gp1
  obtain ⟨id2,off2,cells2,own2,y2,f1,f2,f3,hex2,_⟩:=(ha2.h.mono l2).elem (i:=1) (e:=b) rfl
  have hq3:=fun h' (l3:h2.le h')=>hq2.h h' (l2.trans l3)
  rw [show ((1:Nat):Int)=1 from rfl] at f1
  clear hq2 l2 e1 e2 e3 hex
  replace hex2:=zb hex2;replace hq3:=zb hq3
  simp only [za,aR,zf,zg, *]
  refine ihp.h _ hJ _ _ _ _ hex2.h fun h3 l3=>?_
  have g:=hq3.h h3 l3
  replace g:=Hid.mk g
  clear l3
  simp only [za,zf, *]
  exact g.h
 | idx m a d h hI =>
  have e1:zq (.mk 5 0 0 m [a])=m++[91]++zq a++[93]:=by simp [zq,Zl,kq]
  rw [e1] at hq2
  simp only [Ex.kind,Ex.op,Ex.n,Ex.name,Ex.args] at *
  obtain ⟨id,off,cells,own,y,e1,e2,e3,hex,_⟩:=ha2.h.elem (i:=0) (e:=a) rfl
  have hl:=wy hI (by omega)
  have hs:=yv h
  have c1:=zt (a:=m) (b:=[91]) (by simp;omega)
  have c2:=zt (a:=m++[91]) (b:=zq a) (by simp;omega)
  have c3:=zt (a:=m++[91]++zq a) (b:=[93]) (by simp;omega)
  clear hl hs
  replace hex:=zb hex
  rw [Int.ofNat_zero] at e1
  simp only [za,aR,zf,zg,Int.reduceBEq, *]
  refine ih.h a hI _ _ _ hex.h fun h2 l2=>jr l2.ext ?_
  have gp2:=l2.get gp1
  have g:=hq2.h h2 l2
  replace g:=Hid.mk g
  clear l2
  simp only [za,aR,zf, *]
  exact g.h
theorem wh:∀ (d:Nat),d≤30→zl6 d
 | 0,_=>fun e he=>by cases he
 | d + 1,hd=>zm6 hd (wh d (by omega))
end Go.Eng.Sy
namespace Go.Eng.Sy
open Go Go.Eng Go.Proofs
theorem zt5 {h:Heap}{e:Ex}{x:List Value}(hx:ExC h e x) (Q:Value→Heap→Prop)
  (hq:∀ h',h.le h' → Q (.tuple #[str (if yg e 30 then zq e else []),.int .i64 (if yg e 30 then 0 else 1)]) h'):CallW Tryz.prog 20 [.agg x.toArray] h Q:=by
 have hx0:=hx
 obtain ⟨v,rfl,hargs⟩:=hx.cells
 have b1:=vo (k:=e.kind) (o:=e.op) (n:=e.n) (m:=e.name) hargs.one
 obtain ⟨p,h0,ep,eh0,gp,lh0⟩:=zo h [.int .i64 e.kind,.int .i64 e.op,.int .i64 e.n,str e.name,v]
 have hx1:=hx0.mono lh0
 clear hx hx0 hargs
 replace hx1:=zb hx1;replace lh0:=zb lh0
 refine wc (k:=2) (j:=3) ok20 rfl rfl rfl fun N=>?_
 rw [show y0 c20 [exV e.kind e.op e.n e.name v]=[exV e.kind e.op e.n e.name v,undef,undef,undef,undef] from rfl]
 delta c20
 replace hq:=zb hq
 simp only [za,aR,zn, *]
 refine Jr hx1.h _ fun h2 l2=>?_
 have gp2:=l2.get gp
 have hx3:=hx1.h.mono l2
 have l3:=lh0.h.trans l2
 clear hx1 l2 lh0
 cases hr:yg e 30 with
 | false =>
  have g:=hq.h h2 l3
  rw [hr] at g
  simp only [Bool.false_eq_true,if_false] at g
  replace g:=Hid.mk g
  clear hq hx3 l3
  simp only [za, *]
  exact g.h
 | true =>
  rw [hr] at hq
  simp only [if_true] at hq
  replace hx3:=zb hx3;replace l3:=zb l3
  simp only [za,aR,zn, *]
  refine wh 30 (by omega) e ((qr 30 e).1 hr) _ _ _ hx3.h fun h4 l4=>?_
  have g:=Hid.mk (hq.h h4 (l3.h.trans l4))
  clear hq hx3 l3 l4
  simp only [za, *]
  exact g.h
end Go.Eng.Sy
namespace Go.Eng.Sy
open Go Go.Eng Go.Proofs
def OneC (d:Nat):Prop:=∀ (s:St),StI s d → ∀ (t:Nat),t + d≤100 → ∀ (x:List Value) (h:Heap) (Q:Value→Heap→Prop),StC h s x→(ym t s).length≤ka→(∀ h',h.le h' → Q (str (ym t s)) h')→CallW Tryz.prog 70 [.agg x.toArray,str (zm t)] h Q
def BlkC (d:Nat):Prop:=∀ (ss:List St),(∀ s ∈ ss,StI s d) → ∀ (t:Nat),t + d≤100 → ∀ (v:Value) (h:Heap) (Q:Value→Heap→Prop),StsV h v ss→(zj t ss).length≤ka→(∀ h',h.le h' → Q (str (zj t ss)) h')→CallW Tryz.prog 33 [v,str (zm t)] h Q
theorem Us {d:Nat}(ih:OneC d):BlkC d:=by
 intro ss hss t ht v h Q hv hlen hq
 have hln:=hv.len
 have hle:=hv.le
 replace ih:=zb ih;replace hss:=zb hss;replace hv:=zb hv;replace hlen:=zb hlen
 refine zi (k:=2) ok33 rfl rfl rfl fun N=>?_
 rw [show y0 c33 [v,str (zm t)]=[v,str (zm t),undef,undef,undef] from rfl]
 delta c33
 replace hq:=zb hq
 simp only [za, *]
 refine LoopW.upto ss.length (fun i e h2=>h.le h2∧e=[v,str (zm t),.string ⟨#[]⟩,str (zj t (ss.take i)),.int .i64 (i:Int)]) ?_ (Nat.zero_le _) ⟨.refl h,rfl⟩
 rintro i _ h2 R hi ⟨hl2,rfl⟩ hR
 delta c33_l6
 by_cases hlt:i < ss.length
 ·have hlt' : (i:Int) < ss.length:=by omega
  obtain ⟨s,hs⟩:∃ s,ss[i]? = some s:=⟨_,List.getElem?_eq_getElem hlt⟩
  have hsI:=hss.h s (List.mem_of_getElem? hs)
  obtain ⟨id,off,cells,own,x,e1,e2,e3,hx,_⟩:=(hv.h.mono hl2).elem hs
  have hw:IntKind.i64.wrap ((i:Int) + 1)=((i + 1:Nat):Int):=by rw [z6 (by omega) (by omega)];rfl
  have hpt:=Zr t ss i s hs
  have hft2:=wm t ss (i + 1)
  rw [hpt,List.length_append] at hft2
  have k1:=zt (a:=zj t (ss.take i)) (b:=ym t s) (by have:=hlen.h;simp only [ka] at this;omega)
  replace hx:=zb hx;replace hs:=zb hs;replace hsI:=zb hsI;replace hpt:=zb hpt;replace hft2:=zb hft2;replace hl2:=zb hl2
  simp only [za,aR,zf,zg, *]
  refine ih.h s hsI.h t ht _ h2 _ hx.h (by have e1:=hlen.h;have e2:=hft2.h;omega) fun h4 l4=>?_
  have g:=hR.h _ h4 hlt ⟨hl2.h.trans l4,by rw [hpt.h]⟩
  replace g:=Hid.mk g
  clear hR hq hpt hft2 l4
  simp only [za,zf,zg, *]
  exact g.h
 ·have hlt' : ¬ (i:Int) < ss.length:=by omega
  have hi2:i=ss.length:=by omega
  subst hi2
  have g:=hq.h h2 hl2
  rw [List.take_length]
  replace g:=Hid.mk g
  clear hR hq hl2
  simp only [za,zf,zg, *]
  exact g.h
theorem tabs_S (t:Nat) (ht:t≤100):zq3 .add ⟨(zm t).toArray⟩ ⟨#[9]⟩=some (.string ⟨(zm (t + 1)).toArray⟩):=by
 have:=zt (a:=zm t) (b:=[9]) (by simp [zm];omega)
 have e:zm t++[9]=zm (t + 1):=by simp [zm,List.replicate_succ']
 rw [e] at this
 exact this
theorem zt3 {d:Nat}(ih:BlkC d):OneC (d + 1):=by
 intro s hs t ht x h Q hx hlen hq
 obtain ⟨va,vt,ve,rfl,hva,hvt,hve⟩:=hx.cells
 have b1:=Qu (k:=s.kind) (n:=s.n) (m:=s.name) (f:=s.src) hva.one hvt.one hve.one
 have o1:=hva.one
 have o2:=hvt.one
 have o3:=hve.one
 obtain ⟨q,h0,eq,eh0,gq,lh0⟩:=zo h [.int .i64 s.kind,str s.name,str s.src,.int .i64 s.n,va,vt,ve]
 have hva:=hva.mono lh0
 have hvt:=hvt.mono lh0
 have hve:=hve.mono lh0
 have hq:∀ h',h0.le h' → Q (str (ym t s)) h':=fun h' l'=>hq h' (lh0.trans l')
 have tb:=tabs_S t (by omega)
 clear hx lh0
 replace ih:=zb ih;replace hva:=zb hva;replace hvt:=zb hvt;replace hve:=zb hve
 simp only [ka] at hlen
 refine zi (k:=3) ok70 rfl rfl rfl fun N=>?_
 rw [show y0 c70 [stV s.kind s.name s.src s.n va vt ve,str (zm t)]=[stV s.kind s.name s.src s.n va vt ve,str (zm t),undef,undef,undef,undef] from rfl]
 delta c70
 replace hq:=zb hq
 replace hq:=hq.h
 cases hs with
 | set m a _ hm ha =>
  have e1:ym t (.mk 1 m [] 0 [a] [] [])=zm t++m++[32,61,32]++zq a++[59,10]:=by simp [ym,kz,yu,za4,arg1,qj]
  rw [e1] at hlen hq
  have hL:=hlen
  simp only [St.kind,St.name,St.src,St.n,St.args,St.thn,St.els] at *
  have k1:=zt (a:=(zm t)) (b:=m) (by simp only [List.length_append] at hL ⊢;omega)
  have k2:=zt (a:=(zm t)++m) (b:=[32,61,32]) (by simp only [List.length_append] at hL ⊢;omega)
  have k3:=zt (a:=(zm t)++m++[32,61,32]) (b:=zq a) (by simp only [List.length_append] at hL ⊢;omega)
  have k4:=zt (a:=(zm t)++m++[32,61,32]++zq a) (b:=[59,10]) (by simp only [List.length_append] at hL ⊢;omega)
  clear hL hlen e1
  replace hq:=zb hq
  obtain ⟨id,off,cells,own,y,e1,e2,e3,hex,_⟩:=hva.h.elem (i:=0) (e:=a) rfl
  rw [Int.ofNat_zero] at e1
  replace hex:=zb hex
  simp only [za,aR,zf,zg, *]
  refine wh 30 (by omega) a ha _ h0 _ hex.h fun h2 l2=>jr l2.ext ?_
  have gq2:=l2.get gq
  have g:=Hid.mk (hq.h h2 l2)
  clear hq l2
  simp only [za,aR,zf, *]
  exact g.h
 | get m f n _ hm hf hn =>
  have e1:ym t (.mk 2 m f (n:Nat) [] [] [])=zm t++m++[32,61,32]++f++[46]++yj n++[59,10]:=by simp [ym,kz,yu,za4,arg1,qj]
  rw [e1] at hlen hq
  have hL:=hlen
  simp only [St.kind,St.name,St.src,St.n,St.args,St.thn,St.els] at *
  have k1:=zt (a:=(zm t)) (b:=m) (by simp only [List.length_append] at hL ⊢;omega)
  have k2:=zt (a:=(zm t)++m) (b:=[32,61,32]) (by simp only [List.length_append] at hL ⊢;omega)
  have k3:=zt (a:=(zm t)++m++[32,61,32]) (b:=f) (by simp only [List.length_append] at hL ⊢;omega)
  have k4:=zt (a:=(zm t)++m++[32,61,32]++f) (b:=[46]) (by simp only [List.length_append] at hL ⊢;omega)
  have k5:=zt (a:=(zm t)++m++[32,61,32]++f++[46]) (b:=yj n) (by simp only [List.length_append] at hL ⊢;omega)
  have k6:=zt (a:=(zm t)++m++[32,61,32]++f++[46]++yj n) (b:=[59,10]) (by simp only [List.length_append] at hL ⊢;omega)
  clear hL hlen e1
  replace hq:=zb hq
  simp only [za,aR,zf,zg,Int.reduceBEq, *]
  refine wt n (by omega) h0 _ fun h2 l2=>jr l2.ext ?_
  have gq2:=l2.get gq
  have g:=Hid.mk (hq.h h2 l2)
  clear hq l2
  simp only [za,aR,zf, *]
  exact g.h
 | put m n a _ hm hn ha =>
  have e1:ym t (.mk 3 m [] (n:Nat) [a] [] [])=zm t++m++[46]++yj n++[32,61,32]++zq a++[59,10]:=by simp [ym,kz,yu,za4,arg1,qj]
  rw [e1] at hlen hq
  have hL:=hlen
  simp only [St.kind,St.name,St.src,St.n,St.args,St.thn,St.els] at *
  have k1:=zt (a:=(zm t)) (b:=m) (by simp only [List.length_append] at hL ⊢;omega)
  have k2:=zt (a:=(zm t)++m) (b:=[46]) (by simp only [List.length_append] at hL ⊢;omega)
  have k3:=zt (a:=(zm t)++m++[46]) (b:=yj n) (by simp only [List.length_append] at hL ⊢;omega)
  have k4:=zt (a:=(zm t)++m++[46]++yj n) (b:=[32,61,32]) (by simp only [List.length_append] at hL ⊢;omega)
  have k5:=zt (a:=(zm t)++m++[46]++yj n++[32,61,32]) (b:=zq a) (by simp only [List.length_append] at hL ⊢;omega)
  have k6:=zt (a:=(zm t)++m++[46]++yj n++[32,61,32]++zq a) (b:=[59,10]) (by simp only [List.length_append] at hL ⊢;omega)
  clear hL hlen e1
  replace hq:=zb hq
  simp only [za,aR,zf,zg,Int.reduceBEq, *]
  refine wt n (by omega) h0 _ fun h2 l2=>jr l2.ext ?_
  have gq2:=l2.get gq
  obtain ⟨id,off,cells,own,y,e1,e2,e3,hex,_⟩:=(hva.h.mono l2).elem (i:=0) (e:=a) rfl
  rw [Int.ofNat_zero] at e1
  replace hex:=zb hex;replace l2:=zb l2
  simp only [za,aR, *]
  refine wh 30 (by omega) a ha _ h2 _ hex.h fun h3 l3=>jr l3.ext ?_
  have gq3:=l3.get gq2
  have g:=Hid.mk (hq.h h3 (l2.h.trans l3))
  clear hq l2 l3
  simp only [za,aR,zf, *]
  exact g.h
 | store m a b _ hm ha hb =>
  have e1:ym t (.mk 4 m [] 0 [a,b] [] [])=zm t++m++[91]++zq a++[93,32,61,32]++zq b++[59,10]:=by simp [ym,kz,yu,za4,arg1,qj]
  rw [e1] at hlen hq
  have hL:=hlen
  simp only [St.kind,St.name,St.src,St.n,St.args,St.thn,St.els] at *
  have k1:=zt (a:=(zm t)) (b:=m) (by simp only [List.length_append] at hL ⊢;omega)
  have k2:=zt (a:=(zm t)++m) (b:=[91]) (by simp only [List.length_append] at hL ⊢;omega)
  have k3:=zt (a:=(zm t)++m++[91]) (b:=zq a) (by simp only [List.length_append] at hL ⊢;omega)
  have k4:=zt (a:=(zm t)++m++[91]++zq a) (b:=[93,32,61,32]) (by simp only [List.length_append] at hL ⊢;omega)
  have k5:=zt (a:=(zm t)++m++[91]++zq a++[93,32,61,32]) (b:=zq b) (by simp only [List.length_append] at hL ⊢;omega)
  have k6:=zt (a:=(zm t)++m++[91]++zq a++[93,32,61,32]++zq b) (b:=[59,10]) (by simp only [List.length_append] at hL ⊢;omega)
  clear hL hlen e1
  replace hq:=zb hq
  obtain ⟨id,off,cells,own,y,e1,e2,e3,hex,_⟩:=hva.h.elem (i:=0) (e:=a) rfl
  rw [Int.ofNat_zero] at e1
  replace hex:=zb hex
  simp only [za,aR,zf,zg,Int.reduceBEq, *]
  refine wh 30 (by omega) a ha _ h0 _ hex.h fun h2 l2=>jr l2.ext ?_
  have gq2:=l2.get gq
  obtain ⟨id2,off2,cells2,own2,y2,f1,f2,f3,hex2,_⟩:=(hva.h.mono l2).elem (i:=1) (e:=b) rfl
  rw [show ((1:Nat):Int)=1 from rfl] at f1
  clear e1 e2 e3 hex
  replace hex2:=zb hex2;replace l2:=zb l2
  simp only [za,aR, *]
  refine wh 30 (by omega) b hb _ h2 _ hex2.h fun h3 l3=>jr l3.ext ?_
  have gq3:=l3.get gq2
  have g:=Hid.mk (hq.h h3 (l2.h.trans l3))
  clear hq l2 l3
  simp only [za,aR,zf, *]
  exact g.h
 | lock m thn _ hm hthn =>
  have e1:ym t (.mk 5 m [] 0 [] thn [])=zm t++[108,111,99,107,32]++m++[32,123,10]++zj (t + 1) thn++zm t++[125,10]:=by simp [ym,kz,yu,za4,arg1,qj]
  rw [e1] at hlen hq
  have hL:=hlen
  simp only [St.kind,St.name,St.src,St.n,St.args,St.thn,St.els] at *
  have k1:=zt (a:=(zm t)) (b:=[108,111,99,107,32]) (by simp only [List.length_append] at hL ⊢;omega)
  have k2:=zt (a:=(zm t)++[108,111,99,107,32]) (b:=m) (by simp only [List.length_append] at hL ⊢;omega)
  have k3:=zt (a:=(zm t)++[108,111,99,107,32]++m) (b:=[32,123,10]) (by simp only [List.length_append] at hL ⊢;omega)
  have k4:=zt (a:=(zm t)++[108,111,99,107,32]++m++[32,123,10]) (b:=zj (t + 1) thn) (by simp only [List.length_append] at hL ⊢;omega)
  have k5:=zt (a:=(zm t)++[108,111,99,107,32]++m++[32,123,10]++zj (t + 1) thn) (b:=(zm t)) (by simp only [List.length_append] at hL ⊢;omega)
  have k6:=zt (a:=(zm t)++[108,111,99,107,32]++m++[32,123,10]++zj (t + 1) thn++(zm t)) (b:=[125,10]) (by simp only [List.length_append] at hL ⊢;omega)
  have hb2:(zj (t + 1) thn).length≤ka:=by simp only [ka];simp only [List.length_append] at hL;omega
  clear hL hlen e1
  replace hq:=zb hq
  simp only [za,aR,zf,zg,Int.reduceBEq, *]
  refine ih.h thn hthn (t + 1) (by omega) vt h0 _ hvt.h hb2 fun h2 l2=>jr l2.ext ?_
  have gq2:=l2.get gq
  have g:=Hid.mk (hq.h h2 l2)
  clear hq l2
  simp only [za,aR,zf, *]
  exact g.h
 | cond a thn els _ ha hthn hels =>
  have hb2:(zj (t + 1) thn).length≤ka∧(zj (t + 1) els).length≤ka:=by
   simp only [ka]
   have e1:ym t (.mk 6 [] [] 0 [a] thn els)=qj t ([105,102,32,40]++zq a++[41]) (zj (t + 1) thn) (zj (t + 1) els) (!els.isEmpty):=rfl
   rw [e1] at hlen
   unfold qj at hlen
   cases els with
   | nil=>simp only [List.length_append] at hlen;exact ⟨by omega,by simp [zj]⟩
   | cons e r=>simp only [List.isEmpty_cons,Bool.not_false,if_true,List.length_append] at hlen;exact ⟨by omega,by omega⟩
  simp only [St.kind,St.name,St.src,St.n,St.args,St.thn,St.els] at *
  obtain ⟨id,off,cells,own,y,e1,e2,e3,hex,_⟩:=hva.h.elem (i:=0) (e:=a) rfl
  rw [Int.ofNat_zero] at e1
  have hln:=hve.h.len
  replace hex:=zb hex
  cases els with
  | nil =>
   have e4:ym t (.mk 6 [] [] 0 [a] thn [])=(zm t)++[105,102,32,40]++zq a++[41,32,123,10]++zj (t + 1) thn++zm t++[125,10]:=by simp [ym,kz,yu,za4,qj]
   rw [e4] at hlen hq
   have hL:=hlen
   have k1:=zt (a:=(zm t)) (b:=[105,102,32,40]) (by simp only [List.length_append] at hL ⊢;omega)
   have k2:=zt (a:=(zm t)++[105,102,32,40]) (b:=zq a) (by simp only [List.length_append] at hL ⊢;omega)
   have k3:=zt (a:=(zm t)++[105,102,32,40]++zq a) (b:=[41,32,123,10]) (by simp only [List.length_append] at hL ⊢;omega)
   have k4:=zt (a:=(zm t)++[105,102,32,40]++zq a++[41,32,123,10]) (b:=zj (t + 1) thn) (by simp only [List.length_append] at hL ⊢;omega)
   have k5:=zt (a:=(zm t)++[105,102,32,40]++zq a++[41,32,123,10]++zj (t + 1) thn) (b:=(zm t)) (by simp only [List.length_append] at hL ⊢;omega)
   have k6:=zt (a:=(zm t)++[105,102,32,40]++zq a++[41,32,123,10]++zj (t + 1) thn++zm t) (b:=[125,10]) (by simp only [List.length_append] at hL ⊢;omega)
   clear hL hlen e4
   have hz:(([]:List St).length:Int)=0:=rfl
   replace hq:=zb hq;replace hb2:=zb hb2
   simp only [za,aR,zf,zg,Int.reduceBEq, *]
   refine wh 30 (by omega) a ha _ h0 _ hex.h fun h2 l2=>jr l2.ext ?_
   have gq2:=l2.get gq
   have hvt2:=hvt.h.mono l2
   have hln2:=(hve.h.mono l2).len
   replace hvt2:=zb hvt2;replace l2:=zb l2
   simp only [za,aR,zf, *]
   refine ih.h thn hthn (t + 1) (by omega) vt h2 _ hvt2.h hb2.h.1 fun h3 l3=>?_
   have gq3:=l3.get gq2
   have g:=Hid.mk (hq.h h3 (l2.h.trans l3))
   clear hq l2 l3 hvt2 hb2
   simp only [za,aR,zf,zg,Int.reduceLT, *]
   exact g.h
  | cons e0 els0 =>
   have e4:ym t (.mk 6 [] [] 0 [a] thn (e0::els0))=(zm t)++[105,102,32,40]++zq a++[41,32,123,10]++zj (t + 1) thn++zm t++[125,32,101,108,115,101,32,123,10]++zj (t + 1) (e0::els0)++zm t++[125,10]:=by simp [ym,kz,yu,za4,qj]
   rw [e4] at hlen hq
   have hL:=hlen
   have k1:=zt (a:=(zm t)) (b:=[105,102,32,40]) (by simp only [List.length_append] at hL ⊢;omega)
   have k2:=zt (a:=(zm t)++[105,102,32,40]) (b:=zq a) (by simp only [List.length_append] at hL ⊢;omega)
   have k3:=zt (a:=(zm t)++[105,102,32,40]++zq a) (b:=[41,32,123,10]) (by simp only [List.length_append] at hL ⊢;omega)
   have k4:=zt (a:=(zm t)++[105,102,32,40]++zq a++[41,32,123,10]) (b:=zj (t + 1) thn) (by simp only [List.length_append] at hL ⊢;omega)
   have k5:=zt (a:=(zm t)++[105,102,32,40]++zq a++[41,32,123,10]++zj (t + 1) thn) (b:=(zm t)) (by simp only [List.length_append] at hL ⊢;omega)
   have k6:=zt (a:=(zm t)++[105,102,32,40]++zq a++[41,32,123,10]++zj (t + 1) thn++zm t) (b:=[125,32,101,108,115,101,32,123,10]) (by simp only [List.length_append] at hL ⊢;omega)
   have k7:=zt (a:=(zm t)++[105,102,32,40]++zq a++[41,32,123,10]++zj (t + 1) thn++zm t++[125,32,101,108,115,101,32,123,10]) (b:=zj (t + 1) (e0::els0)) (by simp only [List.length_append] at hL ⊢;omega)
   have k8:=zt (a:=(zm t)++[105,102,32,40]++zq a++[41,32,123,10]++zj (t + 1) thn++zm t++[125,32,101,108,115,101,32,123,10]++zj (t + 1) (e0::els0)) (b:=(zm t)) (by simp only [List.length_append] at hL ⊢;omega)
   have k9:=zt (a:=(zm t)++[105,102,32,40]++zq a++[41,32,123,10]++zj (t + 1) thn++zm t++[125,32,101,108,115,101,32,123,10]++zj (t + 1) (e0::els0)++zm t) (b:=[125,10]) (by simp only [List.length_append] at hL ⊢;omega)
   clear hL hlen e4
   have hz:(0:Int) < ((e0::els0).length:Int):=by simp
   replace hq:=zb hq;replace hb2:=zb hb2
   simp only [za,aR,zf,zg,Int.reduceBEq, *]
   refine wh 30 (by omega) a ha _ h0 _ hex.h fun h2 l2=>jr l2.ext ?_
   have gq2:=l2.get gq
   have hvt2:=hvt.h.mono l2
   replace hvt2:=zb hvt2;replace l2:=zb l2
   simp only [za,aR,zf, *]
   refine ih.h thn hthn (t + 1) (by omega) vt h2 _ hvt2.h hb2.h.1 fun h3 l3=>?_
   have gq3:=l3.get gq2
   have l03:=l2.h.trans l3
   have hve3:=hve.h.mono l03
   have hln3:=hve3.len
   clear l3 l2
   replace hve3:=zb hve3;replace l03:=zb l03
   simp only [za,aR,zf,zg, *]
   refine ih.h (e0::els0) hels (t + 1) (by omega) ve h3 _ hve3.h hb2.h.2 fun h4 l4=>?_
   have gq4:=l4.get gq3
   have g:=Hid.mk (hq.h h4 (l03.h.trans l4))
   clear hq l03 l4 hvt2 hb2 hve3
   simp only [za,zf, *]
   exact g.h
 | rep n thn _ hn hthn =>
  have e1:ym t (.mk 7 [] [] (n:Nat) [] thn [])=zm t++[114,101,112,101,97,116,32]++yj n++[32,123,10]++zj (t + 1) thn++zm t++[125,10]:=by simp [ym,kz,yu,za4,arg1,qj]
  rw [e1] at hlen hq
  have hL:=hlen
  simp only [St.kind,St.name,St.src,St.n,St.args,St.thn,St.els] at *
  have k1:=zt (a:=(zm t)) (b:=[114,101,112,101,97,116,32]) (by simp only [List.length_append] at hL ⊢;omega)
  have k2:=zt (a:=(zm t)++[114,101,112,101,97,116,32]) (b:=yj n) (by simp only [List.length_append] at hL ⊢;omega)
  have k3:=zt (a:=(zm t)++[114,101,112,101,97,116,32]++yj n) (b:=[32,123,10]) (by simp only [List.length_append] at hL ⊢;omega)
  have k4:=zt (a:=(zm t)++[114,101,112,101,97,116,32]++yj n++[32,123,10]) (b:=zj (t + 1) thn) (by simp only [List.length_append] at hL ⊢;omega)
  have k5:=zt (a:=(zm t)++[114,101,112,101,97,116,32]++yj n++[32,123,10]++zj (t + 1) thn) (b:=(zm t)) (by simp only [List.length_append] at hL ⊢;omega)
  have k6:=zt (a:=(zm t)++[114,101,112,101,97,116,32]++yj n++[32,123,10]++zj (t + 1) thn++(zm t)) (b:=[125,10]) (by simp only [List.length_append] at hL ⊢;omega)
  have hb2:(zj (t + 1) thn).length≤ka:=by simp only [ka];simp only [List.length_append] at hL;omega
  clear hL hlen e1
  replace hq:=zb hq
  simp only [za,aR,zf,zg,Int.reduceBEq, *]
  refine wt n (by omega) h0 _ fun h1 l1=>jr l1.ext ?_
  have gq1:=l1.get gq
  have hvt1:=hvt.h.mono l1
  replace hvt1:=zb hvt1;replace l1:=zb l1
  simp only [za,aR,zf, *]
  refine ih.h thn hthn (t + 1) (by omega) vt h1 _ hvt1.h hb2 fun h2 l2=>?_
  have gq2:=l2.get gq1
  have g:=Hid.mk (hq.h h2 (l1.h.trans l2))
  clear hq l2 l1 hvt1
  simp only [za,zf, *]
  exact g.h
 | halt =>
  have e1:ym t (.mk 8 [] [] 0 [] [] [])=zm t++[104,97,108,116,59,10]:=by simp [ym,kz,yu,za4,arg1,qj]
  rw [e1] at hlen hq
  have hL:=hlen
  simp only [St.kind,St.name,St.src,St.n,St.args,St.thn,St.els] at *
  have k1:=zt (a:=(zm t)) (b:=[104,97,108,116,59,10]) (by simp only [List.length_append] at hL ⊢;omega)
  clear hL hlen e1
  replace hq:=zb hq
  have g:=Hid.mk (hq.h h0 (.refl _))
  clear hq
  simp only [za,aR,zf,zg,Int.reduceBEq, *]
  exact g.h
theorem refOB:∀ d,OneC d∧BlkC d:=by
 intro d
 induction d with
 | zero =>
  have a:OneC 0:=fun s hs=>by cases hs
  exact ⟨a,Us a⟩
 | succ d ih=>have a:=zt3 ih.2;exact ⟨a,Us a⟩
end Go.Eng.Sy
namespace Go.Eng.Sy
open Go Go.Eng Go.Proofs
def kL3:List (List UInt8):=[[117,97,114,116],[116,105,109,101,114],[103,112,105,111]]
theorem refPrD_w {h:Heap}{q:Nat}{H:Int}{d r t:Value}{l:List Nm}(gq:h.get q=some (.blk [.int .i64 H,d,r,t] true)) (hv:NmsV h d l) (hle:l.length≤140737488355328) (hok:∀ d ∈ l,vm d=true){l0:List UInt8}(hlen:l0.length + (l.map qm).flatten.length≤ka){N:Nat}{vars:List Nat}{x0 x2 x3 x4 x7 x8 x9 x10:Value}(RQ:AExit→List Value→Heap→Prop)
  (hq:∀ h' ,h.le h' → RQ (.exit 0) [x0,.pointer (some ⟨q,0,none⟩),x2,x3,x4,str (l0++(l.map qm).flatten),.int .i64 (l.length:Int),x7,x8,x9,x10] h') :
  LoopW Tryz.prog N vars yb9 [x0,.pointer (some ⟨q,0,none⟩),x2,x3,x4,str l0,.int .i64 0,x7,x8,x9,x10] h RQ:=by
 replace hq:=Hid.mk hq
 refine LoopW.upto l.length (fun i e h2=>h.le h2∧e=[x0,.pointer (some ⟨q,0,none⟩),x2,x3,x4,str (l0++((l.map qm).take i).flatten),.int .i64 (i:Int),x7,x8,x9,x10]) ?_ (Nat.zero_le _) ⟨.refl h,by simp⟩
 rintro i _ h2 R2 hi ⟨hl2,rfl⟩ hR
 have gq2:=hl2.get gq
 have hln:=(hv.mono hl2).len
 delta yb9
 by_cases hlt:i < l.length
 ·have hlt' : (i:Int) < l.length:=by omega
  obtain ⟨d1,hd⟩:∃ d,l[i]? = some d:=⟨_,List.getElem?_eq_getElem hlt⟩
  have hok1:=hok d1 (List.mem_of_getElem? hd)
  simp only [vm,Bool.and_eq_true,decide_eq_true_eq] at hok1
  obtain ⟨id,off,cells,own,e1,e2,_,e3⟩:=SlV.elem (hv.mono hl2).1 (i:=i) (x:=[str d1.name,.int .i64 d1.n]) (by simp [hd])
  have f0:cells[off]? = some (str d1.name):=e3 0 (by omega)
  have f1:cells[off + 1]? = some (.int .i64 d1.n):=e3 1 (by omega)
  have hw:IntKind.i64.wrap ((i:Int) + 1)=((i + 1:Nat):Int):=by rw [z6 (by omega) (by omega)];rfl
  have hft:=vk (map_get qm hd)
  have hft2:=qy (l.map qm) (i + 1)
  rw [hft,List.length_append] at hft2
  obtain ⟨kn,hkn⟩:∃ k:Nat,d1.n=((k + 1:Nat):Int):=⟨d1.n.toNat - 1,by omega⟩
  have hk3:kn < 3:=by omega
  have hwd:IntKind.i64.wrap (d1.n - 1)=(kn:Int):=by rw [hkn,z6 (by omega) (by omega)];omega
  have ek:kindsL.getD d1.n.toNat []=kL3.getD kn []:=by
   rw [hkn]
   have:kn=0∨kn=1∨kn=2:=by omega
   rcases this with rfl | rfl | rfl<;>rfl
  have hpd:qm d1=[100,101,118,105,99,101,32]++d1.name++[32]++kL3.getD kn []++[10]:=by rw [qm,ek];simp [yu,zm]
  rw [hpd] at hft hft2
  have hL:((l0++((l.map qm).take i).flatten)++([100,101,118,105,99,101,32]++d1.name++[32]++kL3.getD kn []++[10])).length≤ka:=by rw [List.length_append,List.length_append];omega
  simp only [ka] at hL
  have k1:=zt (a:=(l0++((l.map qm).take i).flatten)) (b:=[100,101,118,105,99,101,32]) (by simp only [List.length_append] at hL ⊢;omega)
  have k2:=zt (a:=(l0++((l.map qm).take i).flatten)++[100,101,118,105,99,101,32]) (b:=d1.name) (by simp only [List.length_append] at hL ⊢;omega)
  have k3:=zt (a:=(l0++((l.map qm).take i).flatten)++[100,101,118,105,99,101,32]++d1.name) (b:=[32]) (by simp only [List.length_append] at hL ⊢;omega)
  have k4:=zt (a:=(l0++((l.map qm).take i).flatten)++[100,101,118,105,99,101,32]++d1.name++[32]) (b:=kL3.getD kn []) (by simp only [List.length_append] at hL ⊢;omega)
  have k5:=zt (a:=(l0++((l.map qm).take i).flatten)++[100,101,118,105,99,101,32]++d1.name++[32]++kL3.getD kn []) (b:=[10]) (by simp only [List.length_append] at hL ⊢;omega)
  clear hL
  have u3:=bs_3 [117,97,114,116] [116,105,109,101,114] [103,112,105,111]
  have sv:=wp h2 kL3 (n:=3) (cells:=[str [117,97,114,116],str [116,105,109,101,114],str [103,112,105,111]]) rfl rfl
  obtain ⟨p3,h3,ep3,eh3,gp3,lh3⟩:=zo h2 [str [117,97,114,116],str [116,105,109,101,114],str [103,112,105,111]]
  rw [eh3,ep3] at sv
  obtain ⟨id2,off2,cells2,own2,a1,a2,a3,_⟩:=sv.elem (getD_some (l:=kL3) (i:=kn) hk3 [])
  have gq3:=lh3.get gq2
  have e22:=lh3.get e2
  have g:=hR.h [x0,.pointer (some ⟨q,0,none⟩),x2,x3,x4,str (l0++((l.map qm).take (i + 1)).flatten),.int .i64 ((i + 1:Nat):Int),x7,x8,x9,x10] h3 hlt ⟨hl2.trans lh3,rfl⟩
  have ef:l0++((l.map qm).take (i + 1)).flatten=l0++((l.map qm).take i).flatten++[100,101,118,105,99,101,32]++d1.name++[32]++kL3.getD kn []++[10]:=by rw [hft];simp only [List.append_assoc]
  rw [ef] at g
  replace g:=Hid.mk g
  clear hR hq hd hok1 hft hft2 hlen hl2 hv hpd ek hkn hk3 sv lh3 ef hok e3
  simp only [za,aR,zf,zg, *]
  exact g.h
 ·have hlt' : ¬ (i:Int) < l.length:=by omega
  have hi2:i=l.length:=by omega
  subst hi2
  have g:=hq.h h2 hl2
  rw [List.take_of_length_le (by simp)]
  replace g:=Hid.mk g
  clear hR hq hlen hl2 hv hok
  simp only [za,aR,zf,zg, *]
  exact g.h
theorem refPrR_w {h:Heap}{q:Nat}{H:Int}{d r t:Value}{l:List Nm}(gq:h.get q=some (.blk [.int .i64 H,d,r,t] true)) (hv:NmsV h r l) (hle:l.length≤140737488355328) (hok:∀ d ∈ l,vc d=true){l0:List UInt8}(hlen:l0.length + (l.map qt).flatten.length≤ka){N:Nat}{vars:List Nat}{x0 x2 x3 x4 x6 x8 x9 x10:Value}(RQ:AExit→List Value→Heap→Prop)
  (hq:∀ h' ,h.le h' → RQ (.exit 2) [x0,.pointer (some ⟨q,0,none⟩),x2,x3,x4,str (l0++(l.map qt).flatten),x6,.int .i64 (l.length:Int),x8,x9,x10] h') :
  LoopW Tryz.prog N vars ze0 [x0,.pointer (some ⟨q,0,none⟩),x2,x3,x4,str l0,x6,.int .i64 0,x8,x9,x10] h RQ:=by
 replace hq:=Hid.mk hq
 refine LoopW.upto l.length (fun i e h2=>h.le h2∧e=[x0,.pointer (some ⟨q,0,none⟩),x2,x3,x4,str (l0++((l.map qt).take i).flatten),x6,.int .i64 (i:Int),x8,x9,x10]) ?_ (Nat.zero_le _) ⟨.refl h,by simp⟩
 rintro i _ h2 R2 hi ⟨hl2,rfl⟩ hR
 have gq2:=hl2.get gq
 have hln:=(hv.mono hl2).len
 delta ze0
 by_cases hlt:i < l.length
 ·have hlt' : (i:Int) < l.length:=by omega
  obtain ⟨d1,hd⟩:∃ d,l[i]? = some d:=⟨_,List.getElem?_eq_getElem hlt⟩
  have hok1:=hok d1 (List.mem_of_getElem? hd)
  simp only [vc,Bool.and_eq_true,decide_eq_true_eq] at hok1
  obtain ⟨id,off,cells,own,e1,e2,_,e3⟩:=SlV.elem (hv.mono hl2).1 (i:=i) (x:=[str d1.name,.int .i64 d1.n]) (by simp [hd])
  have f0:cells[off]? = some (str d1.name):=e3 0 (by omega)
  have f1:cells[off + 1]? = some (.int .i64 d1.n):=e3 1 (by omega)
  have hw:IntKind.i64.wrap ((i:Int) + 1)=((i + 1:Nat):Int):=by rw [z6 (by omega) (by omega)];rfl
  have hft:=vk (map_get qt hd)
  have hft2:=qy (l.map qt) (i + 1)
  rw [hft,List.length_append] at hft2
  obtain ⟨kn,hkn⟩:∃ k:Nat,d1.n=(k:Int):=⟨d1.n.toNat,by omega⟩
  have hpd:qt d1=[114,101,115,111,117,114,99,101,32]++d1.name++[32]++yj kn++[10]:=by rw [qt,hkn];simp [yu,zm]
  rw [hpd] at hft hft2
  have hL:((l0++((l.map qt).take i).flatten)++([114,101,115,111,117,114,99,101,32]++d1.name++[32]++yj kn++[10])).length≤ka:=by rw [List.length_append,List.length_append];omega
  simp only [ka] at hL
  have k1:=zt (a:=(l0++((l.map qt).take i).flatten)) (b:=[114,101,115,111,117,114,99,101,32]) (by simp only [List.length_append] at hL ⊢;omega)
  have k2:=zt (a:=(l0++((l.map qt).take i).flatten)++[114,101,115,111,117,114,99,101,32]) (b:=d1.name) (by simp only [List.length_append] at hL ⊢;omega)
  have k3:=zt (a:=(l0++((l.map qt).take i).flatten)++[114,101,115,111,117,114,99,101,32]++d1.name) (b:=[32]) (by simp only [List.length_append] at hL ⊢;omega)
  have k4:=zt (a:=(l0++((l.map qt).take i).flatten)++[114,101,115,111,117,114,99,101,32]++d1.name++[32]) (b:=yj kn) (by simp only [List.length_append] at hL ⊢;omega)
  have k5:=zt (a:=(l0++((l.map qt).take i).flatten)++[114,101,115,111,117,114,99,101,32]++d1.name++[32]++yj kn) (b:=[10]) (by simp only [List.length_append] at hL ⊢;omega)
  clear hL
  have hk9:kn≤9223372036854775807:=by omega
  rw [hkn] at f1
  have ef:l0++((l.map qt).take (i + 1)).flatten=l0++((l.map qt).take i).flatten++[114,101,115,111,117,114,99,101,32]++d1.name++[32]++yj kn++[10]:=by rw [hft];simp only [List.append_assoc]
  clear hd hok1 hft hft2 hlen hv hpd hkn hok e3
  replace hl2:=zb hl2;replace ef:=zb ef;replace hk9:=zb hk9
  simp only [za,aR,zf,zg, *]
  refine wt kn hk9.h h2 _ fun h3 l3=>jr l3.ext ?_
  have gq3:=l3.get gq2
  have e22:=l3.get e2
  have g:=hR.h [x0,.pointer (some ⟨q,0,none⟩),x2,x3,x4,str (l0++((l.map qt).take (i + 1)).flatten),x6,.int .i64 ((i + 1:Nat):Int),x8,x9,x10] h3 hlt ⟨hl2.h.trans l3,rfl⟩
  rw [ef.h] at g
  replace g:=Hid.mk g
  clear hR hq hl2 l3 ef hk9
  simp only [za,aR,zf,zg, *]
  exact g.h
 ·have hlt' : ¬ (i:Int) < l.length:=by omega
  have hi2:i=l.length:=by omega
  subst hi2
  have g:=hq.h h2 hl2
  rw [List.take_of_length_le (by simp)]
  replace g:=Hid.mk g
  clear hR hq hlen hl2 hv hok
  simp only [za,aR,zf,zg, *]
  exact g.h
end Go.Eng.Sy
namespace Go.Eng.Sy
open Go Go.Eng Go.Proofs
theorem ze9 {l:List St}{d:Nat}(h:yo l d=true):∀ s ∈ l,StI s d:=by
 rw [kj,List.all_eq_true] at h
 exact fun s hs=>(Zq d s).1 (h s hs)
theorem refPrT_w {h:Heap}{q:Nat}{H:Int}{d r t:Value}{l:List Tsk}(gq:h.get q=some (.blk [.int .i64 H,d,r,t] true)) (hv:TssV h t l) (hle:l.length≤140737488355328) (hok:∀ d ∈ l,jk d=true){l0:List UInt8}(hlen:l0.length + (l.map yl).flatten.length≤ka){N:Nat}{vars:List Nat}{x0 x2 x3 x4 x6 x7 x9 x10:Value}(RQ:AExit→List Value→Heap→Prop)
  (hq:∀ h' y9 y10,h.le h' → RQ (.exit 4) [x0,.pointer (some ⟨q,0,none⟩),x2,x3,x4,str (l0++(l.map yl).flatten),x6,x7,.int .i64 (l.length:Int),y9,y10] h') :
  LoopW Tryz.prog N vars zd9 [x0,.pointer (some ⟨q,0,none⟩),x2,x3,x4,str l0,x6,x7,.int .i64 0,x9,x10] h RQ:=by
 replace hq:=Hid.mk hq
 refine LoopW.upto l.length (fun i e h2=>h.le h2 ∧ ∃ y9 y10,e=[x0,.pointer (some ⟨q,0,none⟩),x2,x3,x4,str (l0++((l.map yl).take i).flatten),x6,x7,.int .i64 (i:Int),y9,y10]) ?_ (Nat.zero_le _) ⟨.refl h,x9,x10,by simp⟩
 rintro i _ h2 R2 hi ⟨hl2,y9,y10,rfl⟩ hR
 have gq2:=hl2.get gq
 have hln:=(hv.mono hl2).len
 delta zd9
 by_cases hlt:i < l.length
 case neg =>
  have hlt' : ¬ (i:Int) < l.length:=by omega
  have hi2:i=l.length:=by omega
  subst hi2
  have g:=hq.h h2 y9 y10 hl2
  rw [List.take_of_length_le (by simp)]
  replace g:=Hid.mk g
  clear hR hq hlen hl2 hv hok
  simp only [za,aR,zf,zg, *]
  exact g.h
 have hlt' : (i:Int) < l.length:=by omega
 obtain ⟨s,hd⟩:∃ d,l[i]? = some d:=⟨_,List.getElem?_eq_getElem hlt⟩
 have hok1:=hok s (List.mem_of_getElem? hd)
 obtain ⟨id,off,cells,own,u,e1,e2,e3,hu⟩:=TssV.elem (hv.mono hl2) hd
 have hft:=vk (map_get yl hd)
 obtain ⟨nm,hb,hart',prio',line',body⟩:=s
 have hu:StsV h2 u body:=hu
 have e3:qk true off 6 cells=some (tsV nm hb hart' prio' line' u):=e3
 simp only [jk,Bool.and_eq_true,decide_eq_true_eq] at hok1
 have hwb:=hok1.2
 replace hok1:=hok1.1
 have hl7:line' ≤ 7:=by have:=hok1.2.2;split at this<;>omega
 obtain ⟨hart,rfl⟩:∃ k:Nat,hart' = (k:Int):=⟨hart'.toNat,by omega⟩
 obtain ⟨prio,rfl⟩:∃ k:Nat,prio' = (k:Int):=⟨prio'.toNat,by omega⟩
 obtain ⟨line,rfl⟩:∃ k:Nat,line' = (k:Int):=⟨line'.toNat,by omega⟩
 replace hok1:hart≤3∧prio≤7∧line≤7:=by omega
 have hw:IntKind.i64.wrap ((i:Int) + 1)=((i + 1:Nat):Int):=by rw [z6 (by omega) (by omega)];rfl
 have hft2:=qy (l.map yl) (i + 1)
 rw [hft,List.length_append] at hft2
 have o1:=hu.one
 have st:=st_ts6 h2 nm hb hart prio line o1
 obtain ⟨p2,h3,ep2,eh3,gp2,lh3⟩:=zo h2 [str nm,.bool hb,.int .i64 hart,.int .i64 prio,.int .i64 line,u]
 rw [eh3,ep2] at st
 have hu3:=hu.mono lh3
 have gq3:=lh3.get gq2
 have l03:=hl2.trans lh3
 have hL:([32]++nm++[32]++yj hart++[32]++yj prio).length≤ka:=by
  have:([32]++nm++[32]++yj hart++[32]++yj prio).length≤(yl ⟨nm,hb,hart,prio,line,body⟩).length:=by
   cases hb<;>simp [yl,Qe,yu,zm]<;>omega
  simp only [ka] at hlen ⊢;omega
 simp only [ka] at hL
 have k1:=zt (a:=[32]) (b:=nm) (by simp only [List.length_append] at hL ⊢;omega)
 have k2:=zt (a:=[32]++nm) (b:=[32]) (by simp only [List.length_append] at hL ⊢;omega)
 have k3:=zt (a:=[32]++nm++[32]) (b:=yj hart) (by simp only [List.length_append] at hL ⊢;omega)
 have k4:=zt (a:=[32]++nm++[32]++yj hart) (b:=[32]) (by simp only [List.length_append] at hL ⊢;omega)
 have k5:=zt (a:=[32]++nm++[32]++yj hart++[32]) (b:=yj prio) (by simp only [List.length_append] at hL ⊢;omega)
 clear hL hd hu lh3 hl2 hv hok
 replace hft:=zb hft;replace hft2:=zb hft2;replace hlen:=zb hlen;replace hu3:=zb hu3;replace l03:=zb l03;replace hok1:=zb hok1;replace hwb:=zb hwb
 simp only [za,aR,aW,zf,zg, *]
 refine wt hart (by have:=hok1.h;omega) h3 _ fun h4 l4=>jr l4.ext ?_
 have gp4:=l4.get gp2
 replace l4:=zb l4
 simp only [za,aR, *]
 refine wt prio (by have:=hok1.h;omega) h4 _ fun h5 l5=>jr l5.ext ?_
 have gp5:=l5.get gp4
 have hu5:=hu3.h.mono (l4.h.trans l5)
 have l05:=l03.h.trans (l4.h.trans l5)
 clear gp4 gp2 gq3 gq2 e2 hu3 l03 l4 l5
 replace hft:=hft.h
 replace hft2:=hft2.h
 replace hlen:=hlen.h
 replace hu5:=zb hu5;replace l05:=zb l05
 cases hb with
 | true =>
   have hpd:yl ⟨nm,true,hart,prio,line,body⟩=[104,97,110,100,108,101,114]++([32]++nm++[32]++yj hart++[32]++yj prio)++[32]++yj line++[32,123,10]++zj 1 body++[125,10]:=by simp [yl,Qe,yu,zm]
   rw [hpd] at hft hft2
   have hL:((l0++((l.map yl).take i).flatten)++([104,97,110,100,108,101,114]++([32]++nm++[32]++yj hart++[32]++yj prio)++[32]++yj line++[32,123,10]++zj 1 body++[125,10])).length≤ka:=by rw [List.length_append,List.length_append];omega
   simp only [ka] at hL
   have k10:=zt (a:=[104,97,110,100,108,101,114]) (b:=([32]++nm++[32]++yj hart++[32]++yj prio)) (by simp only [List.length_append] at hL ⊢;omega)
   have k11:=zt (a:=[104,97,110,100,108,101,114]++([32]++nm++[32]++yj hart++[32]++yj prio)) (b:=[32]) (by simp only [List.length_append] at hL ⊢;omega)
   have k12:=zt (a:=[104,97,110,100,108,101,114]++([32]++nm++[32]++yj hart++[32]++yj prio)++[32]) (b:=yj line) (by simp only [List.length_append] at hL ⊢;omega)
   have k20:=zt (a:=(l0++((l.map yl).take i).flatten)) (b:=([104,97,110,100,108,101,114]++([32]++nm++[32]++yj hart++[32]++yj prio)++[32]++yj line)) (by simp only [List.length_append] at hL ⊢;omega)
   have k21:=zt (a:=(l0++((l.map yl).take i).flatten)++([104,97,110,100,108,101,114]++([32]++nm++[32]++yj hart++[32]++yj prio)++[32]++yj line)) (b:=[32,123,10]) (by simp only [List.length_append] at hL ⊢;omega)
   have k22:=zt (a:=(l0++((l.map yl).take i).flatten)++([104,97,110,100,108,101,114]++([32]++nm++[32]++yj hart++[32]++yj prio)++[32]++yj line)++[32,123,10]) (b:=zj 1 body) (by simp only [List.length_append] at hL ⊢;omega)
   have k23:=zt (a:=(l0++((l.map yl).take i).flatten)++([104,97,110,100,108,101,114]++([32]++nm++[32]++yj hart++[32]++yj prio)++[32]++yj line)++[32,123,10]++zj 1 body) (b:=[125,10]) (by simp only [List.length_append] at hL ⊢;omega)
   have hb2:(zj 1 body).length≤ka:=by simp only [ka];simp only [List.length_append] at hL;omega
   have ef:l0++((l.map yl).take (i + 1)).flatten=l0++((l.map yl).take i).flatten++([104,97,110,100,108,101,114]++([32]++nm++[32]++yj hart++[32]++yj prio)++[32]++yj line)++[32,123,10]++zj 1 body++[125,10]:=by rw [hft];simp only [List.append_assoc]
   clear hL hft hft2 hpd
   replace ef:=zb ef;replace hb2:=zb hb2
   simp only [za,aR,zf, *]
   refine wt line (by have:=hok1.h;omega) h5 _ fun h6 l6=>?_
   have gp6:=l6.get gp5
   have hu6:=hu5.h.mono l6
   have l06:=l05.h.trans l6
   clear hu5 l05 gp5
   replace hu6:=zb hu6;replace l06:=zb l06
   simp only [za,aR,zf, *]
   refine (refOB 30).2 body (ze9 hwb.h) 1 (by omega) u h6 _ hu6.h hb2.h fun h7 l7=>?_
   have g:=hR.h [x0,.pointer (some ⟨q,0,none⟩),x2,x3,x4,str (l0++((l.map yl).take (i + 1)).flatten),x6,x7,.int .i64 ((i + 1:Nat):Int),.pointer (some ⟨p2,0,none⟩),str ([104,97,110,100,108,101,114]++([32]++nm++[32]++yj hart++[32]++yj prio)++[32]++yj line)] h7 hlt ⟨l06.h.trans l7,_,_,rfl⟩
   rw [ef.h] at g
   replace g:=Hid.mk g
   clear hR hq ef hb2 hok1 hwb l06 l7
   simp only [za,zf,zg, *]
   exact g.h
 | false =>
   have hpd:yl ⟨nm,false,hart,prio,line,body⟩=[116,97,115,107]++([32]++nm++[32]++yj hart++[32]++yj prio)++[32,123,10]++zj 1 body++[125,10]:=by simp [yl,Qe,yu,zm]
   rw [hpd] at hft hft2
   have hL:((l0++((l.map yl).take i).flatten)++([116,97,115,107]++([32]++nm++[32]++yj hart++[32]++yj prio)++[32,123,10]++zj 1 body++[125,10])).length≤ka:=by rw [List.length_append,List.length_append];omega
   simp only [ka] at hL
   have k10:=zt (a:=[116,97,115,107]) (b:=([32]++nm++[32]++yj hart++[32]++yj prio)) (by simp only [List.length_append] at hL ⊢;omega)
   have k20:=zt (a:=(l0++((l.map yl).take i).flatten)) (b:=([116,97,115,107]++([32]++nm++[32]++yj hart++[32]++yj prio))) (by simp only [List.length_append] at hL ⊢;omega)
   have k21:=zt (a:=(l0++((l.map yl).take i).flatten)++([116,97,115,107]++([32]++nm++[32]++yj hart++[32]++yj prio))) (b:=[32,123,10]) (by simp only [List.length_append] at hL ⊢;omega)
   have k22:=zt (a:=(l0++((l.map yl).take i).flatten)++([116,97,115,107]++([32]++nm++[32]++yj hart++[32]++yj prio))++[32,123,10]) (b:=zj 1 body) (by simp only [List.length_append] at hL ⊢;omega)
   have k23:=zt (a:=(l0++((l.map yl).take i).flatten)++([116,97,115,107]++([32]++nm++[32]++yj hart++[32]++yj prio))++[32,123,10]++zj 1 body) (b:=[125,10]) (by simp only [List.length_append] at hL ⊢;omega)
   have hb2:(zj 1 body).length≤ka:=by simp only [ka];simp only [List.length_append] at hL;omega
   have ef:l0++((l.map yl).take (i + 1)).flatten=l0++((l.map yl).take i).flatten++([116,97,115,107]++([32]++nm++[32]++yj hart++[32]++yj prio))++[32,123,10]++zj 1 body++[125,10]:=by rw [hft];simp only [List.append_assoc]
   clear hL hft hft2 hpd
   replace ef:=zb ef;replace hb2:=zb hb2
   simp only [za,aR,zf, *]
   refine (refOB 30).2 body (ze9 hwb.h) 1 (by omega) u h5 _ hu5.h hb2.h fun h7 l7=>?_
   have l06:=l05
   have g:=hR.h [x0,.pointer (some ⟨q,0,none⟩),x2,x3,x4,str (l0++((l.map yl).take (i + 1)).flatten),x6,x7,.int .i64 ((i + 1:Nat):Int),.pointer (some ⟨p2,0,none⟩),str ([116,97,115,107]++([32]++nm++[32]++yj hart++[32]++yj prio))] h7 hlt ⟨l06.h.trans l7,_,_,rfl⟩
   rw [ef.h] at g
   replace g:=Hid.mk g
   clear hR hq ef hb2 hok1 hwb l06 l7
   simp only [za,zf,zg, *]
   exact g.h
end Go.Eng.Sy
namespace Go.Eng.Sy
open Go Go.Eng Go.Proofs
theorem zm9 {h:Heap}{p:Prg}{x:List Value}(hx:PrC h p x) (hlen:jq p=true→(vd p).length≤ka) (Q:Value→Heap→Prop)
  (hq:∀ h',h.le h' → Q (.tuple #[str (if jq p then vd p else []),.int .i64 (if jq p then 0 else 1)]) h'):CallW Tryz.prog 10 [.agg x.toArray] h Q:=by
 have hx0:=hx
 obtain ⟨d,r,t,rfl,hd,hr,ht⟩:=hx
 have b1:=Yd (n:=p.harts) hd.one hr.one ht.one
 obtain ⟨q,h1,eq,eh1,gq,lh1⟩:=zo h [.int .i64 p.harts,d,r,t]
 have hx1:=hx0.mono lh1
 clear hx0 hd hr ht
 replace hx1:=zb hx1;replace lh1:=zb lh1;replace hlen:=zb hlen
 refine wc (k:=2) (j:=3) ok10 rfl rfl rfl fun N=>?_
 rw [show y0 c10 [prV p.harts d r t]=[prV p.harts d r t,undef,undef,undef,undef,undef,undef,undef,undef,undef,undef] from rfl]
 delta c10
 replace hq:=zb hq
 simp only [za,aR,Zt, *]
 refine K7 hx1.h _ fun h2 l2=>?_
 have gq2:=l2.get gq
 have hx2:=hx1.h.mono l2
 have l02:=lh1.h.trans l2
 clear hx1 l2 lh1 gq
 cases hrp:jq p with
 | false =>
  have g:=hq.h h2 l02
  rw [hrp] at g
  simp only [Bool.false_eq_true,if_false] at g
  replace g:=Hid.mk g
  clear hq hx2 l02 hlen
  simp only [za, *]
  exact g.h
 | true =>
  rw [hrp] at hq
  simp only [if_true] at hq
  have hlen:=hlen.h hrp
  obtain ⟨hh,hok1,hok2,hok3⟩:=Ql hrp
  obtain ⟨d',r',t',ex,hd,hr,ht⟩:=hx2
  simp only [List.cons.injEq,and_true,true_and] at ex
  obtain ⟨rfl,rfl,rfl⟩:=ex
  obtain ⟨harts,devs,ress,tasks⟩:=p
  simp only at hh hok1 hok2 hok3 hd hr ht gq2 ⊢
  obtain ⟨kn,hkn⟩:∃ k:Nat,harts=(k:Int):=⟨harts.toNat,by omega⟩
  subst hkn
  have hpp:vd ⟨(kn:Int),devs,ress,tasks⟩=[104,97,114,116,115,32]++yj kn++[10]++(devs.map qm).flatten++(ress.map qt).flatten++(tasks.map yl).flatten:=by simp [vd,yu,zm]
  rw [hpp] at hlen hq
  have hL:=hlen
  simp only [ka] at hL
  have k1:=zt (a:=[104,97,114,116,115,32]) (b:=yj kn) (by simp only [List.length_append] at hL ⊢;omega)
  have k2:=zt (a:=[104,97,114,116,115,32]++yj kn) (b:=[10]) (by simp only [List.length_append] at hL ⊢;omega)
  have hl1:([104,97,114,116,115,32]++yj kn++[10]).length + (devs.map qm).flatten.length≤ka:=by simp only [List.length_append,ka] at hL ⊢;omega
  have hl2:([104,97,114,116,115,32]++yj kn++[10]++(devs.map qm).flatten).length + (ress.map qt).flatten.length≤ka:=by simp only [List.length_append,ka] at hL ⊢;omega
  have hl3:([104,97,114,116,115,32]++yj kn++[10]++(devs.map qm).flatten++(ress.map qt).flatten).length + (tasks.map yl).flatten.length≤ka:=by simp only [List.length_append,ka] at hL ⊢;omega
  have htl:tasks.length≤140737488355328:=by obtain ⟨xs,a,c,b⟩:=ht;rw [← b.length];exact c
  clear hL hlen hpp
  replace hd:=zb hd;replace hr:=zb hr;replace ht:=zb ht;replace hok1:=zb hok1;replace hok2:=zb hok2;replace hok3:=zb hok3;replace hl1:=zb hl1;replace hl2:=zb hl2;replace hl3:=zb hl3;replace l02:=zb l02;replace hh:=zb hh;replace htl:=zb htl
  simp only [za,aR, *]
  refine wt kn (by have:=hh.h;omega) h2 _ fun h3 l3=>?_
  have gq3:=l3.get gq2
  have hd3:=hd.h.mono l3
  replace hd3:=zb hd3;replace l3:=zb l3
  simp only [za,zf, *]
  refine refPrD_w gq3 hd3.h hd3.h.2 hok1.h hl1.h _ fun h4 l4=>?_
  have gq4:=l4.get gq3
  have l24:=l3.h.trans l4
  have hr4:=hr.h.mono l24
  clear l3 l4 hd3 gq3
  replace hr4:=zb hr4;replace l24:=zb l24
  simp only [za, *]
  refine refPrR_w gq4 hr4.h hr4.h.2 hok2.h hl2.h _ fun h5 l5=>?_
  have gq5:=l5.get gq4
  have l25:=l24.h.trans l5
  have ht5:=ht.h.mono l25
  clear l24 l5 hr4 gq4
  replace ht5:=zb ht5;replace l25:=zb l25
  simp only [za, *]
  refine refPrT_w gq5 ht5.h htl.h hok3.h hl3.h _ fun h6 y9 y10 l6=>?_
  have g:=Hid.mk (hq.h h6 (l02.h.trans (l25.h.trans l6)))
  clear hq ht5 l25 l6 l02 hl1 hl2 hl3 hok1 hok2 hok3 hd hr ht
  simp only [za, *]
  exact g.h
end Go.Eng.Sy
