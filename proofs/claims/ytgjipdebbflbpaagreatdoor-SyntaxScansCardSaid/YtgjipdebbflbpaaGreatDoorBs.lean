/-
  Part of a proof of the laws of layer 06 (syntax): what each function does.
  Conditions: none.
-/
import Derived.Test.YtgjipdebbflbpaaGreatDoorBd
import Derived.Test.YtgjipdebbflbpaaGreatDoorEc
import Derived.Shelf.Pu.ToError
import Derived.Shelf.Pu.ToErrorRange
import Derived.Test.YtgjipdebbflbpaaGreatDoorC
import Derived.Shelf.Strings.OnBuilder
set_option linter.unusedSimpArgs false
set_option linter.unusedVariables false
namespace Go.Eng.Sy
open Go Go.Eng Go.Proofs
end Go.Eng.Sy
namespace Go.Eng.Sy
open Go Go.Eng Go.Proofs
end Go.Eng.Sy
namespace Go.Eng.Sy
open Go Go.Eng Go.Proofs
end Go.Eng.Sy
namespace Go.Eng.Sy
open Go Go.Eng Go.Proofs
end Go.Eng.Sy
namespace Go.Eng.Sy
open Go Go.Eng Go.Proofs
end Go.Eng.Sy
namespace Go.Eng.Sy
open Go Go.Eng Go.Proofs
def zs256:List Value:=List.replicate 256 (.bool false)
set_option maxRecDepth 20000 in
theorem c118_r0' : ze9=[⟨0,.a (.new zs256),[],none,false⟩,
   ⟨1,.p (.mov),[.c (.bool false)],none,false⟩]:=rfl
set_option maxRecDepth 20000 in
theorem c94_r5' : c94_r5=[⟨0,.p (.mov),[.v 1],none,false⟩,
   ⟨1,.call 118,[.t 0],none,false⟩,
   ⟨2,.p (.mov),[.t 0],none,false⟩,
   ⟨3,.p (.extract 0),[.t 0],none,false⟩,
   ⟨4,.p (.extract 1),[.t 1],none,false⟩,
   ⟨5,.a (.new zs256),[],none,false⟩,
   ⟨6,.w (.store 256),[.t 0,.t 2],none,false⟩,
   ⟨7,.p (.mov),[.t 2],none,false⟩]:=rfl
theorem Kv:zs256.length=256:=List.length_replicate
theorem get256 {i:Nat}(h:i < 256):zs256[i]? = some (.bool false):=by
 unfold zs256;rw [List.getElem?_replicate,if_pos h]
def blanks256:List Value:=(zs256.set 32 (.bool true)).set 9 (.bool true)
def Za (b:UInt8):Bool:=b == 32 || b == 9
theorem yc0:blanks256.length=256:=by simp [blanks256,Kv]
theorem getBl (b:UInt8):blanks256[b.toNat]? = some (.bool (Za b)):=by
 have hb:b.toNat < 256:=b.toNat_lt
 unfold blanks256 Za
 rw [List.getElem?_set]
 by_cases h9:b.toNat=9
 ·have:b=9:=by apply UInt8.toNat_inj.1;simpa using h9
  subst this
  simp [Kv]
 ·have h9' : ¬ b=9:=fun e=>h9 (by rw [e];rfl)
  rw [if_neg (fun e=>h9 e.symm),List.getElem?_set]
  by_cases h32:b.toNat=32
  ·have:b=32:=by apply UInt8.toNat_inj.1;simpa using h32
   subst this
   simp [Kv]
  ·have h32' : ¬ b=32:=fun e=>h32 (by rw [e];rfl)
   rw [if_neg (fun e=>h32 e.symm),get256 hb]
   simp [h9',h32']
theorem oneBl:blanks256.all (·.oneCell')=true:=by
 rw [List.all_eq_true]
 intro v hv
 obtain ⟨i,hi⟩:=List.mem_iff_getElem?.1 hv
 have hl:=(List.getElem?_eq_some_iff.1 hi).1
 rw [yc0] at hl
 have:=getBl (UInt8.ofNat i)
 rw [UInt8.toNat_ofNat',Nat.mod_eq_of_lt (by omega),hi] at this
 cases this;rfl
theorem part256 {cs:List Value}(h:cs.length=256):yy true 0 256 cs=some (.agg cs.toArray):=by
 have:cs.take 256=cs:=List.take_of_length_le (by omega)
 simp [yy,h,this]
theorem Wv {p:Nat}{b:UInt8}{own:Bool}{h:Heap}(hp:h.get p=some (.blk blanks256 own)) (Q:Value→Heap→Prop) (hq:Q (.bool (Za b)) h):CallW Tryz.prog 139 [.pointer (some ⟨p,0,none⟩),.int .u8 b.toNat] h Q:=by
 refine zh (k:=2) ok139 rfl rfl rfl fun N=>?_
 rw [show yj c139 [.pointer (some ⟨p,0,none⟩),.int .u8 b.toNat]=[.pointer (some ⟨p,0,none⟩),.int .u8 b.toNat,undef] from rfl]
 delta c139 qf2 qf1
 replace hq:=Hid.mk hq
 have hb:b.toNat < 256:=b.toNat_lt
 have ia:wb 256 1 [.pointer (some ⟨p,0,none⟩),.int .u8 (b.toNat:Int)]=some (.pointer (some ⟨p,b.toNat,none⟩)):=by
  simp [wb,hb]
  omega
 have g:=getBl b
 repeat' (first|simp -implicitDefEqProofs only [za,aR,aW,zb,ze,Int.reduceBEq,Int.reduceBNe,Nat.reduceBEq,Int.reduceLT,Int.reduceLE, *]|with_reducible (first|apply kcd|apply kgd|apply kci|apply kgi)<;>intro hc)
 exact hq.h
end Go.Eng.Sy
namespace Go.Eng.Sy
open Go Go.Eng Go.Proofs
theorem J9 (h:Heap) (Q:Value→Heap→Prop) (hq:∀ h',h.le h' → Q (.tuple #[.agg blanks256.toArray,.bool true]) h'):CallW Tryz.prog 118 [str [32,9]] h Q:=by
 refine Jv (k:=1) (agg:=true) (size:=256) (j:=2) ok118 rfl rfl rfl fun N=>?_
 rw [show yj c118 [str [32,9]]=[str [32,9],undef,undef,undef,undef] from rfl]
 delta c118 ze8 ze7
 rw [c118_r0']
 replace hq:=Hid.mk hq
 obtain ⟨p,hp⟩:∃ x,h.next=x:=⟨_,rfl⟩
 obtain ⟨h1,hh1⟩:∃ x,h.alloc (.blk zs256 true)=x:=⟨_,rfl⟩
 have hl1:h.le h1:=by rw [← hh1];exact (Heap.le.refl _).alloc _
 have g1:h1.get p=some (.blk zs256 true):=by rw [← hh1,← hp];exact Heap.get_alloc_same _ _
 repeat' (first|simp -implicitDefEqProofs only [za,aR,aW,zb,ze,Int.reduceBEq,Int.reduceBNe,Nat.reduceBEq,Int.reduceLT,Int.reduceLE, *]|with_reducible (first|apply kcd|apply kgd|apply kci|apply kgi)<;>intro hc)
 have hpn:h.next≤p:=by omega
 have ln:vd [str [32,9]]=some (.int .i64 2):=yu [32,9]
 have i0:vf [str [32,9],.int .i64 0]=some (.int .u8 32):=zb1 (l:=[32,9]) (i:=0) rfl .i64
 have i1:vf [str [32,9],.int .i64 1]=some (.int .u8 9):=zb1 (l:=[32,9]) (i:=1) rfl .i64
 have a0:wb 256 1 [.pointer (some ⟨p,0,none⟩),.int .u8 32]=some (.pointer (some ⟨p,32,none⟩)):=rfl
 have a1:wb 256 1 [.pointer (some ⟨p,0,none⟩),.int .u8 9]=some (.pointer (some ⟨p,9,none⟩)):=rfl
 have s0:=Ql (z:=true) (off:=32) g1 (by rw [Kv];omega)
 obtain ⟨h2,hh2⟩:∃ x,h1.set p (.blk (zs256.set 32 (.bool true)) true)=x:=⟨_,rfl⟩
 have g2:h2.get p=some (.blk (zs256.set 32 (.bool true)) true):=by rw [← hh2];exact Heap.set_getS _ _ _ (by rw [g1];rfl)
 have hl2:h.le h2:=by rw [← hh2];exact hl1.set hpn _
 rw [hh2] at s0
 have s1:=Ql (z:=true) (off:=9) g2 (by rw [List.length_set,Kv];omega)
 obtain ⟨h3,hh3⟩:∃ x,h2.set p (.blk blanks256 true)=x:=⟨_,rfl⟩
 rw [show ((zs256.set 32 (.bool true)).set 9 (.bool true))=blanks256 from rfl,hh3] at s1
 have g3:h3.get p=some (.blk blanks256 true):=by rw [← hh3];exact Heap.set_getS _ _ _ (by rw [g2];rfl)
 have hl3:h.le h3:=by rw [← hh3];exact hl2.set hpn _
 have pt:=part256 yc0
 have s3:zt 256 h3 [.pointer (some ⟨p,0,none⟩),.agg blanks256.toArray]=some (undef,h3.set p (.blk blanks256 true)):=je g3 rfl yc0 yc0 oneBl
 obtain ⟨h4,hh4⟩:∃ x,h3.set p (.blk blanks256 true)=x:=⟨_,rfl⟩
 rw [hh4] at s3
 have g4:h4.get p=some (.blk blanks256 true):=by rw [← hh4];exact Heap.set_getS _ _ _ (by rw [g3];rfl)
 have hl4:h.le h4:=by rw [← hh4];exact hl3.set hpn _
 clear hp hh1 hh2 hh3 hh4
 have c0:¬ (128:Int)≤32:=by decide
 have c1:¬ (128:Int)≤9:=by decide
 have c2:(0:Int) < 2:=by decide
 have c3:(1:Int) < 2:=by decide
 have c4:¬ (2:Int) < 2:=by decide
 have w1:IntKind.i64.wrap (0 + 1)=1:=by decide
 have w2:IntKind.i64.wrap (1 + 1)=2:=by decide
 refine LoopW.round ?_
 delta qk4 ze9 ze8 qk3 qk2 qk1 qk0 qj9 qj8 ze7
 repeat' (first|simp -implicitDefEqProofs only [za,aR,aW,zb,ze,Int.reduceBEq,Int.reduceBNe,Nat.reduceBEq,Int.reduceLT,Int.reduceLE, *]|with_reducible (first|apply kcd|apply kgd|apply kci|apply kgi)<;>intro hc)
 refine LoopW.round ?_
 repeat' (first|simp -implicitDefEqProofs only [za,aR,aW,zb,ze,Int.reduceBEq,Int.reduceBNe,Nat.reduceBEq,Int.reduceLT,Int.reduceLE, *]|with_reducible (first|apply kcd|apply kgd|apply kci|apply kgi)<;>intro hc)
 refine LoopW.round ?_
 repeat' (first|simp -implicitDefEqProofs only [za,aR,aW,zb,ze,Int.reduceBEq,Int.reduceBNe,Nat.reduceBEq,Int.reduceLT,Int.reduceLE, *]|with_reducible (first|apply kcd|apply kgd|apply kci|apply kgi)<;>intro hc)
 exact hq.h _ hl4
end Go.Eng.Sy
namespace Go.Eng.Sy
open Go Go.Eng Go.Proofs
theorem Kc {p:UInt8→Bool}{l:List UInt8}{i:Nat}(h:l.dropWhile p=(l.drop i).dropWhile p){b:UInt8}(hb:l[i]? = some b):(p b=true→l.dropWhile p=(l.drop (i + 1)).dropWhile p)∧(p b=false→l.dropWhile p=l.drop i):=by
 have hd:l.drop i=b::l.drop (i + 1):=by
  have hi:=(List.getElem?_eq_some_iff.1 hb)
  rw [← hi.2];exact List.drop_eq_getElem_cons hi.1
 rw [h,hd]
 constructor
 ·intro hp;rw [List.dropWhile_cons,if_pos hp]
 ·intro hp;rw [List.dropWhile_cons,if_neg (by simp [hp])]
theorem Qn {l:List UInt8}(hl:l.length≤1000000000){p:Nat}{own:Bool}{h:Heap}(hp:h.get p=some (.blk blanks256 own)) (Q:Value→Heap→Prop) (hq:Q (str (l.dropWhile Za)) h):CallW Tryz.prog 119 [str l,.pointer (some ⟨p,0,none⟩)] h Q:=by
 refine zh (k:=2) ok119 rfl rfl rfl fun N=>?_
 rw [show yj c119 [str l,.pointer (some ⟨p,0,none⟩)]=[str l,.pointer (some ⟨p,0,none⟩),undef] from rfl]
 delta c119 ze6 ze5 ze4 ze3 ze2
 replace hq:=Hid.mk hq
 repeat' (first|simp -implicitDefEqProofs only [za,aR,aW,zb,ze,Int.reduceBEq,Int.reduceBNe,Nat.reduceBEq,Int.reduceLT,Int.reduceLE, *]|with_reducible (first|apply kcd|apply kgd|apply kci|apply kgi)<;>intro hc)
 refine LoopW.upto l.length (fun i e h1=>h1=h∧l.dropWhile Za=(l.drop i).dropWhile Za∧e=[str (l.drop i),.pointer (some ⟨p,0,none⟩),.string ⟨#[]⟩]) ?_ (Nat.zero_le _) ⟨rfl,by simp,by simp⟩
 rintro i _ h1 R hi ⟨rfl,hpre,rfl⟩ hR
 replace hpre:=Hid.mk hpre
 delta qj7 ze6 ze5 ze4 ze3 ze2
 obtain ⟨m,hm⟩:∃ m,l.drop i=m:=⟨_,rfl⟩
 have ln:vd [str m]=some (.int .i64 m.length):=yu m
 by_cases hlt:i < l.length
 case neg =>
  have hmn:m=[]:=by rw [← hm];exact List.drop_eq_nil_of_le (by omega)
  have hlt' : ¬ (0:Int) < m.length:=by rw [hmn];simp
  have hd:l.dropWhile Za=m:=by rw [hpre.h,hm,hmn];rfl
  rw [hm]
  rw [hd] at hq
  replace hd:=Hid.mk hd
  replace hmn:=Hid.mk hmn
  clear hm
  repeat' (first|simp -implicitDefEqProofs only [za,aR,aW,zb,ze,Int.reduceBEq,Int.reduceBNe,Nat.reduceBEq,Int.reduceLT,Int.reduceLE, *]|with_reducible (first|apply kcd|apply kgd|apply kci|apply kgi)<;>intro hc)
  exact hq.h
 case pos =>
  have hml:m.length=l.length - i:=by rw [← hm];simp
  have hlt' : (0:Int) < m.length:=by omega
  obtain ⟨b,hb⟩:∃ b,l[i]? = some b:=⟨_,List.getElem?_eq_getElem hlt⟩
  have hb0:m[0]? = some b:=by rw [← hm,List.getElem?_drop];simpa using hb
  have ix:vf [str m,.int .i64 0]=some (.int .u8 b.toNat):=zb1 hb0 .i64
  have st:=Kc hpre.h hb
  have ct:qb true false [str m,.int .i64 1]=some (str (l.drop (i + 1))):=by
   have:=vp (l:=m) (n:=1) (by omega)
   rw [show m.drop 1=l.drop (i + 1) by rw [← hm,List.drop_drop]] at this
   exact this
  rw [hm]
  replace st:=Hid.mk st
  replace hb0:=Hid.mk hb0
  replace hb:=Hid.mk hb
  have hm':=Hid.mk hm
  replace hml:=Hid.mk hml
  clear hm
  repeat' (first|simp -implicitDefEqProofs only [za,aR,aW,zb,ze,Int.reduceBEq,Int.reduceBNe,Nat.reduceBEq,Int.reduceLT,Int.reduceLE, *]|with_reducible (first|apply kcd|apply kgd|apply kci|apply kgi)<;>intro hc)
  refine Wv hp _ ?_
  cases hbl:Za b with
  | true =>
   repeat' (first|simp -implicitDefEqProofs only [za,aR,aW,zb,ze,Int.reduceBEq,Int.reduceBNe,Nat.reduceBEq,Int.reduceLT,Int.reduceLE, *]|with_reducible (first|apply kcd|apply kgd|apply kci|apply kgi)<;>intro hc)
   exact hR.h _ _ hlt ⟨rfl,st.h.1 hbl,rfl⟩
  | false =>
   have hd:=st.h.2 hbl
   rw [hm'.h] at hd
   rw [hd] at hq
   replace hd:=Hid.mk hd
   repeat' (first|simp -implicitDefEqProofs only [za,aR,aW,zb,ze,Int.reduceBEq,Int.reduceBNe,Nat.reduceBEq,Int.reduceLT,Int.reduceLE, *]|with_reducible (first|apply kcd|apply kgd|apply kci|apply kgi)<;>intro hc)
   exact hq.h
theorem zq3 {l:List UInt8}(hl:l.length≤1000000000){h:Heap}(Q:Value→Heap→Prop) (hq:∀ h',h.le h' → Q (str (l.dropWhile Za)) h'):CallW Tryz.prog 94 [str l,str [32,9]] h Q:=by
 refine zh (k:=2) ok94 rfl rfl rfl fun N=>?_
 rw [show yj c94 [str l,str [32,9]]=[str l,str [32,9],undef,undef,undef] from rfl]
 delta c94 c94_r0 c94_r1 c94_r2 c94_r3 c94_r4 c94_r6 c94_r7 c94_r8
 rw [c94_r5']
 replace hq:=Hid.mk hq
 have e0:(([32,9]:List UInt8) == [])=false:=rfl
 have ln:vd [str [32,9]]=some (.int .i64 2):=yu [32,9]
 have e1:((2:Int) == 1)=false:=rfl
 cases hl0:(l == []) with
 | true =>
  have hll:l=[]:=by simpa using hl0
  subst hll
  repeat' (first|simp -implicitDefEqProofs only [za,aR,aW,zb,ze,Int.reduceBEq,Int.reduceBNe,Nat.reduceBEq,Int.reduceLT,Int.reduceLE,J7, *]|with_reducible (first|apply kcd|apply kgd|apply kci|apply kgi)<;>intro hc)
  exact hq.h _ (Heap.le.refl _)
 | false =>
  repeat' (first|simp -implicitDefEqProofs only [za,aR,aW,zb,ze,Int.reduceBEq,Int.reduceBNe,Nat.reduceBEq,Int.reduceLT,Int.reduceLE,J7, *]|with_reducible (first|apply kcd|apply kgd|apply kci|apply kgi)<;>intro hc)
  refine J9 h _ fun h1 hl1=>?_
  obtain ⟨p,hp⟩:∃ x,h1.next=x:=⟨_,rfl⟩
  have st:zt 256 (h1.alloc (.blk zs256 true)) [.pointer (some ⟨p,0,none⟩),.agg blanks256.toArray]=some (undef,h1.alloc (.blk blanks256 true)):=by
   rw [← hp];exact zp rfl yc0 Kv oneBl
  obtain ⟨h2,hh2⟩:∃ x,h1.alloc (.blk blanks256 true)=x:=⟨_,rfl⟩
  have hl2:h1.le h2:=by rw [← hh2];exact (Heap.le.refl _).alloc _
  have g2:h2.get p=some (.blk blanks256 true):=by rw [← hh2,← hp];exact Heap.get_alloc_same _ _
  rw [hh2] at st
  repeat' (first|simp -implicitDefEqProofs only [za,aR,aW,zb,ze,Int.reduceBEq,Int.reduceBNe,Nat.reduceBEq,Int.reduceLT,Int.reduceLE,pExtract, *]|with_reducible (first|apply kcd|apply kgd|apply kci|apply kgi)<;>intro hc)
  refine Qn hl g2 _ ?_
  have g:=hq.h h2 (hl1.trans hl2)
  obtain ⟨m,hm⟩:∃ m,l.dropWhile Za=m:=⟨_,rfl⟩
  rw [hm] at g ⊢
  replace g:=Hid.mk g
  clear hm
  repeat' (first|simp -implicitDefEqProofs only [za,aR,aW,zb,ze,Int.reduceBEq,Int.reduceBNe,Nat.reduceBEq,Int.reduceLT,Int.reduceLE, *]|with_reducible (first|apply kcd|apply kgd|apply kci|apply kgi)<;>intro hc)
  exact g.h
end Go.Eng.Sy
namespace Go.Eng.Sy
open Go Go.Eng Go.Proofs
def skip:Bool→List UInt8→Int→List UInt8 × Int
 | _,[],n=>([],n)
 | true,b::r,n=>if b=10 then skip false r (n + 1) else skip true r n
 | false,b::r,n=>if Za b then skip false r n else if b=10 then skip false r (n + 1) else if b=35 then skip true r n else (b::r,n)
theorem zx4:∀ (l:List UInt8) (n:Int),skip false l n=skip false (l.dropWhile Za) n
 | [],n=>rfl
 | b::r,n=>by
  cases hb:Za b with
  | true=>rw [List.dropWhile_cons,if_pos hb,← zx4 r n];simp [skip,hb]
  | false=>rw [List.dropWhile_cons,if_neg (by simp [hb])]
theorem zi1:∀ (l:List UInt8) (n:Int),skip true l n=skip false (l.dropWhile (· != 10)) n
 | [],n=>rfl
 | b::r,n=>by
  by_cases hb:b=10
  ·subst hb
   rw [List.dropWhile_cons,if_neg (by decide)]
   simp [skip,Za]
  ·rw [List.dropWhile_cons,if_pos (by simpa using hb),← zi1 r n];simp [skip,hb]
theorem zk0 (c:UInt8):∀ l:List UInt8,(Lib.indexByte l c < 0→l.dropWhile (· != c)=[])∧(¬ Lib.indexByte l c < 0 → ∃ k:Nat,Lib.indexByte l c=k∧k≤l.length∧l.drop k=l.dropWhile (· != c))
 | []=>⟨fun _=>rfl,fun h=>by simp [Lib.indexByte] at h⟩
 | b::r=>by
  obtain ⟨i1,i2⟩:=zk0 c r
  unfold Lib.indexByte
  cases hb:(b == c) with
  | true =>
   have:b=c:=by simpa using hb
   subst this
   simp only [if_true]
   refine ⟨fun h=>by omega,fun _=>⟨0,rfl,Nat.zero_le _,?_⟩⟩
   rw [List.dropWhile_cons,if_neg (by simp)];rfl
  | false =>
   have hne:(b != c)=true:=by simp [bne,hb]
   rw [List.dropWhile_cons,if_pos hne]
   have hge:=Lib.indexByte_ge r c
   by_cases hm:Lib.indexByte r c = -1
   ·have:(Lib.indexByte r c == -1)=true:=by simpa using hm
    simp only [this,if_true,Bool.false_eq_true,if_false]
    exact ⟨fun _=>i1 (by omega),fun h=>by omega⟩
   ·have:(Lib.indexByte r c == -1)=false:=by simpa using hm
    simp only [this,Bool.false_eq_true,if_false]
    refine ⟨fun h=>by omega,fun _=>?_⟩
    obtain ⟨k,h1,h2,h3⟩:=i2 (by omega)
    exact ⟨k + 1,by rw [h1];rfl,by simp;omega,by simpa using h3⟩
theorem qt:∀ (c:Bool) (l:List UInt8) (n:Int),(skip c l n).1.length≤l.length∧n≤(skip c l n).2∧(skip c l n).2≤n + l.length
 | _,[],n=>by simp [skip]
 | true,b::r,n=>by
  unfold skip
  split
  ·have:=qt false r (n + 1);simp only [List.length_cons];omega
  ·have:=qt true r n;simp only [List.length_cons];omega
 | false,b::r,n=>by
  unfold skip
  split
  ·have:=qt false r n;simp only [List.length_cons];omega
  ·split
   ·have:=qt false r (n + 1);simp only [List.length_cons];omega
   ·split
    ·have:=qt true r n;simp only [List.length_cons];omega
    ·simp only [List.length_cons];omega
end Go.Eng.Sy
namespace Go.Eng.Sy
open Go Go.Eng Go.Proofs
theorem zx3 {r:List UInt8}(n:Int):skip false (35::r) n=skip true r n:=by simp [skip,Za]
theorem Qx {r:List UInt8}(n:Int):skip false (10::r) n=skip false r (n + 1):=by simp [skip,Za]
theorem Qw {l:List UInt8}(n:Int) (h1:∀ b r,l=b::r→Za b=false∧b≠35∧b≠10):skip false l n=(l,n):=by
 cases l with
 | nil=>rfl
 | cons b r =>
  obtain ⟨a,b',c⟩:=h1 b r rfl
  simp [skip,a,b',c]
theorem zb6 {p:UInt8→Bool}:∀ {l:List UInt8}{b:UInt8}{r:List UInt8},l.dropWhile p=b::r→p b=false
 | [],b,r,h=>by simp at h
 | x::l,b,r,h=>by
  rw [List.dropWhile_cons] at h
  split at h
  ·exact zb6 h
  ·rename_i hx;cases h;simpa using hx
theorem dw_len {p:UInt8→Bool}(l:List UInt8):(l.dropWhile p).length≤l.length:=by
 have:=(List.dropWhile_suffix p (l:=l)).length_le
 exact this
set_option maxHeartbeats 1000000 in
theorem pass_c {l:List UInt8}{n:Int}(hl:l.length≤1000000) (hn:0≤n∧n≤1000000){p:Nat}{h:Heap}(hp:h.get p=some (.blk [str l,.int .i64 n] true)) (Q:Value→Heap→Prop)
  (hq:∀ h',h.leBut p h' → h'.get p=some (.blk [str (skip false l n).1,.int .i64 (skip false l n).2] true)→Q (.tuple #[]) h'):CallW Tryz.prog 56 [.pointer (some ⟨p,0,none⟩)] h Q:=by
 refine uf ok56 rfl rfl rfl fun N=>?_
 rw [show yj c56 [.pointer (some ⟨p,0,none⟩)]=[.pointer (some ⟨p,0,none⟩),undef] from rfl]
 delta c56 yv3 yv2 yv1 yv0 yu9 yu8 yu7 yu6 yu5
 replace hq:=Hid.mk hq
 repeat' (first|simp -implicitDefEqProofs only [za,aR,aW,zb,ze,Int.reduceBEq,Int.reduceBNe,Nat.reduceBEq,Int.reduceLT,Int.reduceLE, *]|with_reducible (first|apply kcd|apply kgd|apply kci|apply kgi)<;>intro hc)
 have hsl:=qt false l n
 replace hsl:=Hid.mk hsl
 refine LoopW.down (fun k e h1=>∃ (m:List UInt8) (z:Int) (x1:Value),m.length=k∧h.leBut p h1∧h1.get p=some (.blk [str m,.int .i64 z] true)∧skip false l n=skip false m z∧0≤z∧z + m.length≤n + l.length∧e=[.pointer (some ⟨p,0,none⟩),x1]) ?_ (m:=l.length) ⟨l,n,_,rfl,Heap.leBut.refl _ _,hp,rfl,hn.1,Int.le_refl _,rfl⟩
 rintro k _ h1 R ⟨m,z,x1,hmk,hb1,g1,hsk,hz0,hzn,rfl⟩ hR
 clear hp
 have hfin:∀ h' m',h.leBut p h' → h'.get p=some (.blk [str m',.int .i64 z] true)→skip false l n=(m',z)→Q (.tuple #[]) h':=fun h' m' hb hg hs=>by
  refine hq.h h' hb ?_
  rw [hs];exact hg
 replace hfin:=Hid.mk hfin
 clear hq
 have hml:m.length≤2000000:=by omega
 replace hml:=Hid.mk hml
 replace hsk:=Hid.mk hsk
 replace hzn:=Hid.mk hzn
 replace hmk:=Hid.mk hmk
 replace hb1:=Hid.mk hb1
 delta c56_l9 yv3 yv2 yv1 yv0 yu9 yu8 yu7 yu6 yu5
 repeat' (first|simp -implicitDefEqProofs only [za,aR,aW,zb,ze,Int.reduceBEq,Int.reduceBNe,Nat.reduceBEq,Int.reduceLT,Int.reduceLE, *]|with_reducible (first|apply kcd|apply kgd|apply kci|apply kgi)<;>intro hc)
 refine zq3 (by have:=hml.h;omega) _ fun h2 hl2=>?_
 have g2:=hl2.get g1
 obtain ⟨m1,hm1⟩:∃ x,m.dropWhile Za=x:=⟨_,rfl⟩
 rw [hm1]
 have s2:=zo (v:=str m1) (off:=0) g2 (by simp) rfl rfl
 obtain ⟨h3,hh3⟩:∃ x,h2.set p (.blk ([str m,.int .i64 z].set 0 (str m1)) true)=x:=⟨_,rfl⟩
 rw [hh3] at s2
 have g3:h3.get p=some (.blk [str m1,.int .i64 z] true):=by rw [← hh3];exact Heap.set_getS _ _ _ (by rw [g2];rfl)
 have hb3:h1.leBut p h3:=(hl2.but p).trans (by rw [← hh3];exact Heap.leBut.set _ _ _)
 replace hh3:=Hid.mk hh3
 replace hb3:=Hid.mk hb3
 replace hm1:=Hid.mk hm1
 clear g1 g2
 repeat' (first|simp -implicitDefEqProofs only [za,aR,aW,zb,ze,Int.reduceBEq,Int.reduceBNe,Nat.reduceBEq,Int.reduceLT,Int.reduceLE, *]|with_reducible (first|apply kcd|apply kgd|apply kci|apply kgi)<;>intro hc)
 have hsk1:skip false l n=skip false m1 z:=by rw [hsk.h,zx4,hm1.h]
 have hm1l:m1.length≤m.length:=by rw [← hm1.h];exact dw_len _
 have hm1b:∀ b r,m1=b::r→Za b=false:=fun b r e=>zb6 (hm1.h.trans e)
 replace hsk1:=Hid.mk hsk1
 replace hm1l:=Hid.mk hm1l
 replace hm1b:=Hid.mk hm1b
 refine yz _ _ ?_
 cases hph:([35]:List UInt8).isPrefixOf m1 with
 | false =>
  have hhd:∀ b r,m1=b::r→Za b=false∧b≠35:=fun b r e=>⟨hm1b.h b r e,fun e2=>by
   rw [e,e2] at hph
   simp [List.isPrefixOf] at hph⟩
  replace hhd:=Hid.mk hhd
  have hsk1l:=hm1l
  repeat' (first|simp -implicitDefEqProofs only [za,aR,aW,zb,ze,Int.reduceBEq,Int.reduceBNe,Nat.reduceBEq,Int.reduceLT,Int.reduceLE, *]|with_reducible (first|apply kcd|apply kgd|apply kci|apply kgi)<;>intro hc)
  refine yz _ _ ?_
  cases hp10:([10]:List UInt8).isPrefixOf m1 with
  | false =>
   have hst:skip false l n=(m1,z):=by
    rw [hsk1.h]
    refine Qw z fun b r e=>⟨(hhd.h b r e).1,(hhd.h b r e).2,fun e2=>?_⟩
    rw [e,e2] at hp10
    simp [List.isPrefixOf] at hp10
   replace hst:=Hid.mk hst
   repeat' (first|simp -implicitDefEqProofs only [za,aR,aW,zb,ze,Int.reduceBEq,Int.reduceBNe,Nat.reduceBEq,Int.reduceLT,Int.reduceLE, *]|with_reducible (first|apply kcd|apply kgd|apply kci|apply kgi)<;>intro hc)
   exact hfin.h _ m1 (hb1.h.trans hb3.h) g3 hst.h
  | true =>
   obtain ⟨r,hr⟩:∃ r,m1=10::r:=by
    obtain ⟨t,ht⟩:=List.isPrefixOf_iff_prefix.1 hp10
    exact ⟨t,by rw [← ht];rfl⟩
   have ct:qb true false [str m1,.int .i64 1]=some (str r):=by
    have:=vp (l:=m1) (n:=1) (by rw [hr];simp)
    rw [show m1.drop 1=r by rw [hr];rfl] at this
    exact this
   have t5:=zo (v:=str r) (off:=0) g3 (by simp) rfl rfl
   obtain ⟨h5,hh5⟩:∃ x,h3.set p (.blk ([str m1,.int .i64 z].set 0 (str r)) true)=x:=⟨_,rfl⟩
   rw [hh5] at t5
   have g5:h5.get p=some (.blk [str r,.int .i64 z] true):=by rw [← hh5];exact Heap.set_getS _ _ _ (by rw [g3];rfl)
   have hlr:r.length + 1≤m.length:=by
    have:=hsk1l.h
    rw [hr] at this
    simpa using this
   have hwz:IntKind.i64.wrap (z + 1)=z + 1:=zu (by omega) (by have:=hzn.h;omega)
   have t6:=zo (v:=.int .i64 (z + 1)) (off:=1) g5 (by simp) rfl rfl
   obtain ⟨h6,hh6⟩:∃ x,h5.set p (.blk ([str r,.int .i64 z].set 1 (.int .i64 (z + 1))) true)=x:=⟨_,rfl⟩
   rw [hh6] at t6
   have g6:h6.get p=some (.blk [str r,.int .i64 (z + 1)] true):=by rw [← hh6];exact Heap.set_getS _ _ _ (by rw [g5];rfl)
   have hb5:h3.leBut p h5:=by rw [← hh5];exact Heap.leBut.set _ _ _
   have hb56:h5.leBut p h6:=by rw [← hh6];exact Heap.leBut.set _ _ _
   have hb6:h.leBut p h6:=((hb1.h.trans hb3.h).trans hb5).trans hb56
   clear hb5 hb56
   have hsk6:skip false l n=skip false r (z + 1):=by rw [hsk1.h,hr,Qx]
   replace hh5:=Hid.mk hh5
   replace hh6:=Hid.mk hh6
   replace hb6:=Hid.mk hb6
   replace hsk6:=Hid.mk hsk6
   replace hr:=Hid.mk hr
   replace hlr:=Hid.mk hlr
   repeat' (first|simp -implicitDefEqProofs only [za,aR,aW,zb,ze,Int.reduceBEq,Int.reduceBNe,Nat.reduceBEq,Int.reduceLT,Int.reduceLE, *]|with_reducible (first|apply kcd|apply kgd|apply kci|apply kgi)<;>intro hc)
   exact hR.h r.length _ _ (by have:=hlr.h;have:=hmk.h;omega) ⟨r,z + 1,_,rfl,hb6.h,g6,hsk6.h,by omega,by have:=hlr.h;have:=hzn.h;omega,rfl⟩
 | true =>
  obtain ⟨r0,hr0⟩:∃ r,m1=35::r:=by
   obtain ⟨t,ht⟩:=List.isPrefixOf_iff_prefix.1 hph
   exact ⟨t,by rw [← ht];rfl⟩
  obtain ⟨m2,hm2⟩:∃ x,m1.dropWhile (· != 10)=x:=⟨_,rfl⟩
  have hsk2:skip false l n=skip false m2 z:=by
   rw [hsk1.h,hr0,zx3,zi1,← hm2,hr0,List.dropWhile_cons,if_pos (by decide)]
  have hsk2l:m2.length≤m.length:=by
   have:=dw_len (p:=(· != 10)) m1
   rw [hm2] at this
   exact Nat.le_trans this hm1l.h
  have hhd:∀ b r,m2=b::r→Za b=false∧b≠35:=fun b r e=>by
   have h0:=zb6 (hm2.trans e)
   have:b=10:=by simpa using h0
   subst this;decide
  obtain ⟨ix1,ix2⟩:=zk0 10 m1
  rw [hm2] at ix1 ix2
  have ln1:vd [str m1]=some (.int .i64 m1.length):=yu m1
  have t4:=zo (v:=str m2) (off:=0) g3 (by simp) rfl rfl
  obtain ⟨h4,hh4⟩:∃ x,h3.set p (.blk ([str m1,.int .i64 z].set 0 (str m2)) true)=x:=⟨_,rfl⟩
  rw [hh4] at t4
  have g4:h4.get p=some (.blk [str m2,.int .i64 z] true):=by rw [← hh4];exact Heap.set_getS _ _ _ (by rw [g3];rfl)
  have hb4:h1.leBut p h4:=hb3.h.trans (by rw [← hh4];exact Heap.leBut.set _ _ _)
  replace hh4:=Hid.mk hh4
  replace hb4:=Hid.mk hb4
  replace hsk2:=Hid.mk hsk2
  replace hsk2l:=Hid.mk hsk2l
  replace hhd:=Hid.mk hhd
  replace hr0:=Hid.mk hr0
  replace hm2:=Hid.mk hm2
  replace ix1:=Hid.mk ix1
  replace ix2:=Hid.mk ix2
  repeat' (first|simp -implicitDefEqProofs only [za,aR,aW,zb,ze,Int.reduceBEq,Int.reduceBNe,Nat.reduceBEq,Int.reduceLT,Int.reduceLE, *]|with_reducible (first|apply kcd|apply kgd|apply kci|apply kgi)<;>intro hc)
  refine zb0 _ _ _ ?_
  rw [show (10:Int).toNat.toUInt8=10 from rfl]
  by_cases hneg:Lib.indexByte m1 10 < 0
  ·have ct:qb true false [str m1,.int .i64 (m1.length:Int)]=some (str m2):=by
    have:=vp (l:=m1) (n:=m1.length) (Nat.le_refl _)
    rw [List.drop_length] at this
    rw [ix1.h hneg]
    exact this
   repeat' (first|simp -implicitDefEqProofs only [za,aR,aW,zb,ze,Int.reduceBEq,Int.reduceBNe,Nat.reduceBEq,Int.reduceLT,Int.reduceLE, *]|with_reducible (first|apply kcd|apply kgd|apply kci|apply kgi)<;>intro hc)
   refine yz _ _ ?_
   cases hp10:([10]:List UInt8).isPrefixOf m2 with
   | false =>
    have hst:skip false l n=(m2,z):=by
     rw [hsk2.h]
     refine Qw z fun b r e=>⟨(hhd.h b r e).1,(hhd.h b r e).2,fun e2=>?_⟩
     rw [e,e2] at hp10
     simp [List.isPrefixOf] at hp10
    replace hst:=Hid.mk hst
    repeat' (first|simp -implicitDefEqProofs only [za,aR,aW,zb,ze,Int.reduceBEq,Int.reduceBNe,Nat.reduceBEq,Int.reduceLT,Int.reduceLE, *]|with_reducible (first|apply kcd|apply kgd|apply kci|apply kgi)<;>intro hc)
    exact hfin.h _ m2 (hb1.h.trans hb4.h) g4 hst.h
   | true =>
    obtain ⟨r,hr⟩:∃ r,m2=10::r:=by
     obtain ⟨t,ht⟩:=List.isPrefixOf_iff_prefix.1 hp10
     exact ⟨t,by rw [← ht];rfl⟩
    have ct:qb true false [str m2,.int .i64 1]=some (str r):=by
     have:=vp (l:=m2) (n:=1) (by rw [hr];simp)
     rw [show m2.drop 1=r by rw [hr];rfl] at this
     exact this
    have t5:=zo (v:=str r) (off:=0) g4 (by simp) rfl rfl
    obtain ⟨h5,hh5⟩:∃ x,h4.set p (.blk ([str m2,.int .i64 z].set 0 (str r)) true)=x:=⟨_,rfl⟩
    rw [hh5] at t5
    have g5:h5.get p=some (.blk [str r,.int .i64 z] true):=by rw [← hh5];exact Heap.set_getS _ _ _ (by rw [g4];rfl)
    have hlr:r.length + 1≤m.length:=by
     have:=hsk2l.h
     rw [hr] at this
     simpa using this
    have hwz:IntKind.i64.wrap (z + 1)=z + 1:=zu (by omega) (by have:=hzn.h;omega)
    have t6:=zo (v:=.int .i64 (z + 1)) (off:=1) g5 (by simp) rfl rfl
    obtain ⟨h6,hh6⟩:∃ x,h5.set p (.blk ([str r,.int .i64 z].set 1 (.int .i64 (z + 1))) true)=x:=⟨_,rfl⟩
    rw [hh6] at t6
    have g6:h6.get p=some (.blk [str r,.int .i64 (z + 1)] true):=by rw [← hh6];exact Heap.set_getS _ _ _ (by rw [g5];rfl)
    have hb5:h4.leBut p h5:=by rw [← hh5];exact Heap.leBut.set _ _ _
    have hb56:h5.leBut p h6:=by rw [← hh6];exact Heap.leBut.set _ _ _
    have hb6:h.leBut p h6:=((hb1.h.trans hb4.h).trans hb5).trans hb56
    clear hb5 hb56
    have hsk6:skip false l n=skip false r (z + 1):=by rw [hsk2.h,hr,Qx]
    replace hh5:=Hid.mk hh5
    replace hh6:=Hid.mk hh6
    replace hb6:=Hid.mk hb6
    replace hsk6:=Hid.mk hsk6
    replace hr:=Hid.mk hr
    replace hlr:=Hid.mk hlr
    repeat' (first|simp -implicitDefEqProofs only [za,aR,aW,zb,ze,Int.reduceBEq,Int.reduceBNe,Nat.reduceBEq,Int.reduceLT,Int.reduceLE, *]|with_reducible (first|apply kcd|apply kgd|apply kci|apply kgi)<;>intro hc)
    exact hR.h r.length _ _ (by have:=hlr.h;have:=hmk.h;omega) ⟨r,z + 1,_,rfl,hb6.h,g6,hsk6.h,by omega,by have:=hlr.h;have:=hzn.h;omega,rfl⟩
  ·obtain ⟨k,hk1,hk2,hk3⟩:=ix2.h hneg
   rw [hk1] at hneg ⊢
   have ct:qb true false [str m1,.int .i64 (k:Int)]=some (str m2):=by
    have:=vp (l:=m1) (n:=k) hk2
    rw [hk3] at this
    exact this
   clear hk1 hk3
   repeat' (first|simp -implicitDefEqProofs only [za,aR,aW,zb,ze,Int.reduceBEq,Int.reduceBNe,Nat.reduceBEq,Int.reduceLT,Int.reduceLE, *]|with_reducible (first|apply kcd|apply kgd|apply kci|apply kgi)<;>intro hc)
   refine yz _ _ ?_
   cases hp10:([10]:List UInt8).isPrefixOf m2 with
   | false =>
    have hst:skip false l n=(m2,z):=by
     rw [hsk2.h]
     refine Qw z fun b r e=>⟨(hhd.h b r e).1,(hhd.h b r e).2,fun e2=>?_⟩
     rw [e,e2] at hp10
     simp [List.isPrefixOf] at hp10
    replace hst:=Hid.mk hst
    repeat' (first|simp -implicitDefEqProofs only [za,aR,aW,zb,ze,Int.reduceBEq,Int.reduceBNe,Nat.reduceBEq,Int.reduceLT,Int.reduceLE, *]|with_reducible (first|apply kcd|apply kgd|apply kci|apply kgi)<;>intro hc)
    exact hfin.h _ m2 (hb1.h.trans hb4.h) g4 hst.h
   | true =>
    obtain ⟨r,hr⟩:∃ r,m2=10::r:=by
     obtain ⟨t,ht⟩:=List.isPrefixOf_iff_prefix.1 hp10
     exact ⟨t,by rw [← ht];rfl⟩
    have ct:qb true false [str m2,.int .i64 1]=some (str r):=by
     have:=vp (l:=m2) (n:=1) (by rw [hr];simp)
     rw [show m2.drop 1=r by rw [hr];rfl] at this
     exact this
    have t5:=zo (v:=str r) (off:=0) g4 (by simp) rfl rfl
    obtain ⟨h5,hh5⟩:∃ x,h4.set p (.blk ([str m2,.int .i64 z].set 0 (str r)) true)=x:=⟨_,rfl⟩
    rw [hh5] at t5
    have g5:h5.get p=some (.blk [str r,.int .i64 z] true):=by rw [← hh5];exact Heap.set_getS _ _ _ (by rw [g4];rfl)
    have hlr:r.length + 1≤m.length:=by
     have:=hsk2l.h
     rw [hr] at this
     simpa using this
    have hwz:IntKind.i64.wrap (z + 1)=z + 1:=zu (by omega) (by have:=hzn.h;omega)
    have t6:=zo (v:=.int .i64 (z + 1)) (off:=1) g5 (by simp) rfl rfl
    obtain ⟨h6,hh6⟩:∃ x,h5.set p (.blk ([str r,.int .i64 z].set 1 (.int .i64 (z + 1))) true)=x:=⟨_,rfl⟩
    rw [hh6] at t6
    have g6:h6.get p=some (.blk [str r,.int .i64 (z + 1)] true):=by rw [← hh6];exact Heap.set_getS _ _ _ (by rw [g5];rfl)
    have hb5:h4.leBut p h5:=by rw [← hh5];exact Heap.leBut.set _ _ _
    have hb56:h5.leBut p h6:=by rw [← hh6];exact Heap.leBut.set _ _ _
    have hb6:h.leBut p h6:=((hb1.h.trans hb4.h).trans hb5).trans hb56
    clear hb5 hb56
    have hsk6:skip false l n=skip false r (z + 1):=by rw [hsk2.h,hr,Qx]
    replace hh5:=Hid.mk hh5
    replace hh6:=Hid.mk hh6
    replace hb6:=Hid.mk hb6
    replace hsk6:=Hid.mk hsk6
    replace hr:=Hid.mk hr
    replace hlr:=Hid.mk hlr
    repeat' (first|simp -implicitDefEqProofs only [za,aR,aW,zb,ze,Int.reduceBEq,Int.reduceBNe,Nat.reduceBEq,Int.reduceLT,Int.reduceLE, *]|with_reducible (first|apply kcd|apply kgd|apply kci|apply kgi)<;>intro hc)
    exact hR.h r.length _ _ (by have:=hlr.h;have:=hmk.h;omega) ⟨r,z + 1,_,rfl,hb6.h,g6,hsk6.h,by omega,by have:=hlr.h;have:=hzn.h;omega,rfl⟩
end Go.Eng.Sy
namespace Go.Eng.Sy
open Go Go.Eng Go.Proofs
def uk (p l:List UInt8):List UInt8 × Bool:=if p.isPrefixOf l then (l.drop p.length,true) else (l,false)
theorem zb8 {l p:List UInt8}(h:Heap) (Q:Value→Heap→Prop) (hq:Q (.tuple #[str (uk p l).1,.bool (uk p l).2]) h):CallW Tryz.prog 122 [str l,str p] h Q:=by
 refine ja (k:=2) (j:=3) ok122 rfl rfl rfl fun N=>?_
 rw [show yj c122 [str l,str p]=[str l,str p,undef,undef] from rfl]
 delta c122 qj4 qj3
 replace hq:=Hid.mk hq
 repeat' (first|simp -implicitDefEqProofs only [za,aR,aW,zb,ze,Int.reduceBEq,Int.reduceBNe,Nat.reduceBEq,Int.reduceLT,Int.reduceLE, *]|with_reducible (first|apply kcd|apply kgd|apply kci|apply kgi)<;>intro hc)
 refine ja (k:=2) (j:=3) ok143 rfl rfl rfl fun N=>?_
 rw [show yj c143 [str l,str p]=[str l,str p,undef,undef] from rfl]
 delta c143 qf0 qe9 qe8 qe7
 replace hq:=Hid.mk hq
 repeat' (first|simp -implicitDefEqProofs only [za,aR,aW,zb,ze,Int.reduceBEq,Int.reduceBNe,Nat.reduceBEq,Int.reduceLT,Int.reduceLE, *]|with_reducible (first|apply kcd|apply kgd|apply kci|apply kgi)<;>intro hc)
 refine Yp h _ ?_
 replace hq:=hq.h
 cases hp:p.isPrefixOf l with
 | true =>
  have hc:uk p l=(l.drop p.length,true):=by simp [uk,hp]
  have hle:=(List.isPrefixOf_iff_prefix.1 hp).length_le
  have ct:=vp hle
  rw [hc] at hq
  replace hc:=Hid.mk hc
  repeat' (first|simp -implicitDefEqProofs only [za,aR,aW,zb,ze,Int.reduceBEq,Int.reduceBNe,Nat.reduceBEq,Int.reduceLT,Int.reduceLE,yu,pExtract, *]|with_reducible (first|apply kcd|apply kgd|apply kci|apply kgi)<;>intro hc)
  exact hq.h
 | false =>
  have hc:uk p l=(l,false):=by simp [uk,hp]
  rw [hc] at hq
  replace hc:=Hid.mk hc
  repeat' (first|simp -implicitDefEqProofs only [za,aR,aW,zb,ze,Int.reduceBEq,Int.reduceBNe,Nat.reduceBEq,Int.reduceLT,Int.reduceLE,yu,pExtract, *]|with_reducible (first|apply kcd|apply kgd|apply kci|apply kgi)<;>intro hc)
  exact hq.h
structure Tok where
 kind:Int
 text:List UInt8
 n:Int
 line:Int
def Tok.cells (t:Tok):List Value:=[.int .i64 t.kind,str t.text,.int .i64 t.n,.int .i64 t.line]
def Tok.val (t:Tok):Value:=.agg #[.int .i64 t.kind,str t.text,.int .i64 t.n,.int .i64 t.line]
end Go.Eng.Sy
namespace Go.Eng.Sy
open Go Go.Eng Go.Proofs
theorem Tok.box (t:Tok):Vl [t.val]=some (t.cells,fun id=>.pointer (some ⟨id,0,none⟩)):=by simp [Vl,Tok.val,Tok.cells,Value.cells,Value.oneCell']
theorem Zm (a c d:Int) (b:List UInt8):yy true 0 4 [.int .i64 a,str b,.int .i64 c,.int .i64 d]=some (Tok.val ⟨a,b,c,d⟩):=by simp [yy,Tok.val]
set_option maxHeartbeats 1000000 in
theorem take_c {l:List UInt8}{n:Int}{t:Tok}(hpre:t.text.length≤l.length){p:Nat}{h:Heap}(hp:h.get p=some (.blk [str l,.int .i64 n] true)) (Q:Value→Heap→Prop)
  (hq:∀ h',h.leBut p h' → h'.get p=some (.blk [str (l.drop t.text.length),.int .i64 n] true)→Q (Tok.val { t with line:=n }) h'):CallW Tryz.prog 59 [.pointer (some ⟨p,0,none⟩),t.val] h Q:=by
 obtain ⟨q,hqq⟩:∃ x,h.next=x:=⟨_,rfl⟩
 have hpq:p < q:=by rw [← hqq];exact Heap.lt_of_get hp
 have bx:=t.box
 obtain ⟨h1,hh1⟩:∃ x,h.alloc (.blk t.cells true)=x:=⟨_,rfl⟩
 have hn1:h1.next=q + 1:=by rw [← hh1,Heap.next_alloc,hqq]
 obtain ⟨h2,hh2⟩:∃ x,h1.alloc (.blk [.int .i64 0,.string ⟨#[]⟩,.int .i64 0,.int .i64 0] true)=x:=⟨_,rfl⟩
 have l1:h.le h1:=by rw [← hh1];exact (Heap.le.refl _).alloc _
 have l2:h1.le h2:=by rw [← hh2];exact (Heap.le.refl _).alloc _
 have gp2:=l2.get (l1.get hp)
 have gq2:h2.get q=some (.blk t.cells true):=l2.get (by rw [← hh1,← hqq];exact Heap.get_alloc_same _ _)
 have gr2:h2.get (q + 1)=some (.blk [.int .i64 0,.string ⟨#[]⟩,.int .i64 0,.int .i64 0] true):=by rw [← hh2,← hn1];exact Heap.get_alloc_same _ _
 refine Qb (k:=3) (agg:=true) (size:=4) ok59 rfl rfl rfl fun N=>?_
 rw [show yj c59 [.pointer (some ⟨p,0,none⟩),t.val]=[.pointer (some ⟨p,0,none⟩),t.val,undef,undef] from rfl]
 delta c59 c59_r0 c59_r1 c59_r2 c59_r3
 replace hq:=Hid.mk hq
 have s2:=Z4 (k:=.i64) (z:=n) (off:=3) gq2 (by simp [Tok.cells])
 obtain ⟨h3,hh3⟩:∃ x,h2.set q (.blk (t.cells.set 3 (.int .i64 n)) true)=x:=⟨_,rfl⟩
 rw [hh3] at s2
 have gq3:h3.get q=some (.blk [.int .i64 t.kind,str t.text,.int .i64 t.n,.int .i64 n] true):=by rw [← hh3];exact Heap.set_getS _ _ _ (by rw [gq2];rfl)
 have gp3:h3.get p=some (.blk [str l,.int .i64 n] true):=by rw [← hh3,Heap.set_getE _ _ _ _ (by simp;omega)];exact gp2
 have gr3:h3.get (q + 1)=some (.blk [.int .i64 0,.string ⟨#[]⟩,.int .i64 0,.int .i64 0] true):=by rw [← hh3,Heap.set_getE _ _ _ _ (by simp)];exact gr2
 have ct:=vp hpre
 have s4:=zo (v:=str (l.drop t.text.length)) (off:=0) gp3 (by simp) rfl rfl
 obtain ⟨h4,hh4⟩:∃ x,h3.set p (.blk ([str l,.int .i64 n].set 0 (str (l.drop t.text.length))) true)=x:=⟨_,rfl⟩
 rw [hh4] at s4
 have gp4:h4.get p=some (.blk [str (l.drop t.text.length),.int .i64 n] true):=by rw [← hh4];exact Heap.set_getS _ _ _ (by rw [gp3];rfl)
 have gq4:h4.get q=some (.blk [.int .i64 t.kind,str t.text,.int .i64 t.n,.int .i64 n] true):=by rw [← hh4,Heap.set_getE _ _ _ _ (by simp;omega)];exact gq3
 have gr4:h4.get (q + 1)=some (.blk [.int .i64 0,.string ⟨#[]⟩,.int .i64 0,.int .i64 0] true):=by rw [← hh4,Heap.set_getE _ _ _ _ (by simp;omega)];exact gr3
 have s5:zt 4 h4 [.pointer (some ⟨q + 1,0,none⟩),Tok.val { t with line:=n }]=some (undef,h4.set (q + 1) (.blk (Tok.cells { t with line:=n }) true)):=je gr4 rfl rfl rfl rfl
 obtain ⟨h5,hh5⟩:∃ x,h4.set (q + 1) (.blk (Tok.cells { t with line:=n }) true)=x:=⟨_,rfl⟩
 rw [hh5] at s5
 have gr5:h5.get (q + 1)=some (.blk [.int .i64 t.kind,str t.text,.int .i64 t.n,.int .i64 n] true):=by rw [← hh5];exact Heap.set_getS _ _ _ (by rw [gr4];rfl)
 have gp5:h5.get p=some (.blk [str (l.drop t.text.length),.int .i64 n] true):=by rw [← hh5,Heap.set_getE _ _ _ _ (by simp;omega)];exact gp4
 have pt:=Zm t.kind t.n n t.text
 have lb:h.leBut p h5:=by
  refine ⟨fun j hj hs=>?_,?_⟩
  ·obtain ⟨o,ho⟩:=Option.isSome_iff_exists.1 hs
   have hlt:=Heap.lt_of_get ho
   rw [← hh5,Heap.set_getE _ _ _ _ (by simp;omega),← hh4,Heap.set_getE _ _ _ _ (by simpa using hj),← hh3,Heap.set_getE _ _ _ _ (by simp;omega)]
   exact (l1.trans l2).getE j hs
  ·rw [← hh5,← hh4,← hh3]
   exact (l1.trans l2).next
 replace hh3:=Hid.mk hh3
 replace hh4:=Hid.mk hh4
 replace hh5:=Hid.mk hh5
 clear gr2
 have fin:=hq.h h5 lb gp5
 replace fin:=Hid.mk fin
 clear hq
 repeat' (first|simp -implicitDefEqProofs only [za,aR,aW,zb,ze,Int.reduceBEq,Int.reduceBNe,Nat.reduceBEq,Int.reduceLT,Int.reduceLE,yu,Wa,Q3, *]|with_reducible (first|apply kcd|apply kgd|apply kci|apply kgi)<;>intro hc)
 exact fin.h
end Go.Eng.Sy
namespace Go.Proofs
open Go.Shelf
def V8:Go.Shelf.Ren:=⟨fun | 17=>145 | 21=>158 | 22=>159 | 23=>160 | 24=>161 | 25=>171 | 27=>28 | 26=>172 | 28=>68 | 29=>104 | 30=>131 | 31=>132 | 32=>133 | 33=>134 | 35=>150 | 34=>149 | 36=>151 | 37=>152 | 38=>153 | 39=>166 | 40=>167 | n=>n,fun | 9=>9 | 3=>3 | 24=>114 | 34=>198 | 4=>4 | 39=>200 | 44=>214 | 37=>73 | 0=>0 | 47=>120 | 50=>224 | 48=>222 | 2=>2 | 52=>173 | 22=>163 | 5=>5 | 55=>176 | 59=>193 | 60=>153 | 20=>20 | 61=>194 | 36=>140 | 65=>220 | 66=>221 | 67=>82 | n=>n,fun | 0=>4 | 1=>5 | 2=>0 | 3=>7 | 4=>8 | n=>n⟩
theorem zj7:Go.Proofs.LaysPu.n17 Tryz.prog V8 where
 mixed:=by kernel_rfl
 f17:=Tryz.func145.trans (congrArg some (by kernel_rfl))
 f21:=Tryz.func158.trans (congrArg some (by kernel_rfl))
 f22:=Tryz.func159.trans (congrArg some (by kernel_rfl))
 f23:=Tryz.func160.trans (congrArg some (by kernel_rfl))
 f24:=Tryz.func161.trans (congrArg some (by kernel_rfl))
 f25:=Tryz.func171.trans (congrArg some (by kernel_rfl))
 f26:=Tryz.func172.trans (congrArg some (by kernel_rfl))
 f27:=Tryz.func28.trans (congrArg some (by kernel_rfl))
 f28:=Tryz.func68.trans (congrArg some (by kernel_rfl))
 f29:=Tryz.func104.trans (congrArg some (by kernel_rfl))
 f30:=Tryz.func131.trans (congrArg some (by kernel_rfl))
 f31:=Tryz.func132.trans (congrArg some (by kernel_rfl))
 f32:=Tryz.func133.trans (congrArg some (by kernel_rfl))
 f33:=Tryz.func134.trans (congrArg some (by kernel_rfl))
 f34:=Tryz.func149.trans (congrArg some (by kernel_rfl))
 f35:=Tryz.func150.trans (congrArg some (by kernel_rfl))
 f36:=Tryz.func151.trans (congrArg some (by kernel_rfl))
 f37:=Tryz.func152.trans (congrArg some (by kernel_rfl))
 f38:=Tryz.func153.trans (congrArg some (by kernel_rfl))
 f39:=Tryz.func166.trans (congrArg some (by kernel_rfl))
 f40:=Tryz.func167.trans (congrArg some (by kernel_rfl))
 t0:=Tryz.underlying0
 a0:=Tryz.isAgg0
 z0:=Tryz.sizeOf0
 v0:=Tryz.zeroValue0
 i0:=by kernel_rfl
 t2:=Tryz.underlying2
 a2:=Tryz.isAgg2
 z2:=Tryz.sizeOf2
 v2:=Tryz.zeroValue2
 i2:=by kernel_rfl
 t3:=Tryz.underlying3
 a3:=Tryz.isAgg3
 z3:=Tryz.sizeOf3
 v3:=Tryz.zeroValue3
 i3:=by kernel_rfl
 t4:=Tryz.underlying4
 a4:=Tryz.isAgg4
 z4:=Tryz.sizeOf4
 v4:=Tryz.zeroValue4
 i4:=by kernel_rfl
 t5:=Tryz.underlying5
 a5:=Tryz.isAgg5
 z5:=Tryz.sizeOf5
 v5:=Tryz.zeroValue5
 i5:=by kernel_rfl
 t9:=Tryz.underlying9
 a9:=Tryz.isAgg9
 z9:=Tryz.sizeOf9
 v9:=Tryz.zeroValue9
 i9:=by kernel_rfl
 t20:=Tryz.underlying20
 a20:=Tryz.isAgg20
 z20:=Tryz.sizeOf20
 v20:=Tryz.zeroValue20
 i20:=by kernel_rfl
 t22:=Tryz.underlying163
 a22:=Tryz.isAgg163
 z22:=Tryz.sizeOf163
 v22:=Tryz.zeroValue163
 i22:=by kernel_rfl
 t24:=Tryz.underlying114
 a24:=Tryz.isAgg114
 z24:=Tryz.sizeOf114
 v24:=Tryz.zeroValue114
 i24:=by kernel_rfl
 t34:=Tryz.underlying198
 a34:=Tryz.isAgg198
 z34:=Tryz.sizeOf198
 v34:=Tryz.zeroValue198
 i34:=by kernel_rfl
 c34:=by kernel_rfl
 t36:=Tryz.underlying140
 a36:=Tryz.isAgg140
 z36:=Tryz.sizeOf140
 v36:=Tryz.zeroValue140
 i36:=by kernel_rfl
 t37:=Tryz.underlying73
 a37:=Tryz.isAgg73
 z37:=Tryz.sizeOf73
 v37:=Tryz.zeroValue73
 i37:=by kernel_rfl
 t39:=Tryz.underlying200
 a39:=Tryz.isAgg200
 z39:=Tryz.sizeOf200
 v39:=Tryz.zeroValue200
 i39:=by kernel_rfl
 t44:=Tryz.underlying214
 a44:=Tryz.isAgg214
 z44:=Tryz.sizeOf214
 v44:=Tryz.zeroValue214
 i44:=by kernel_rfl
 t47:=Tryz.underlying120
 a47:=Tryz.isAgg120
 z47:=Tryz.sizeOf120
 v47:=Tryz.zeroValue120
 i47:=by kernel_rfl
 t48:=Tryz.underlying222
 a48:=Tryz.isAgg222
 z48:=Tryz.sizeOf222
 v48:=Tryz.zeroValue222
 i48:=by kernel_rfl
 t50:=Tryz.underlying224
 a50:=Tryz.isAgg224
 z50:=Tryz.sizeOf224
 v50:=Tryz.zeroValue224
 i50:=by kernel_rfl
 t52:=Tryz.underlying173
 a52:=Tryz.isAgg173
 z52:=Tryz.sizeOf173
 v52:=Tryz.zeroValue173
 i52:=by kernel_rfl
 t55:=Tryz.underlying176
 a55:=Tryz.isAgg176
 z55:=Tryz.sizeOf176
 v55:=Tryz.zeroValue176
 i55:=by kernel_rfl
 t59:=Tryz.underlying193
 a59:=Tryz.isAgg193
 z59:=Tryz.sizeOf193
 v59:=Tryz.zeroValue193
 i59:=by kernel_rfl
 t60:=Tryz.underlying153
 a60:=Tryz.isAgg153
 z60:=Tryz.sizeOf153
 v60:=Tryz.zeroValue153
 i60:=by kernel_rfl
 t61:=Tryz.underlying194
 a61:=Tryz.isAgg194
 z61:=Tryz.sizeOf194
 t65:=Tryz.underlying220
 a65:=Tryz.isAgg220
 z65:=Tryz.sizeOf220
 v65:=Tryz.zeroValue220
 i65:=by kernel_rfl
 t66:=Tryz.underlying221
 a66:=Tryz.isAgg221
 z66:=Tryz.sizeOf221
 v66:=Tryz.zeroValue221
 i66:=by kernel_rfl
 t67:=Tryz.underlying82
 a67:=Tryz.isAgg82
 z67:=Tryz.sizeOf82
 v67:=Tryz.zeroValue82
 i67:=by kernel_rfl
 g0:=by kernel_rfl
 m0:=by kernel_rfl
 g1:=by kernel_rfl
 m1:=by kernel_rfl
 g2:=by kernel_rfl
 m2:=by kernel_rfl
 g3:=by kernel_rfl
 m3:=by kernel_rfl
 g4:=by kernel_rfl
 m4:=by kernel_rfl
end Go.Proofs
namespace Go.Eng.Sy
open Go Go.Eng Go.Proofs
theorem zw4 {n:Int}(hn:n=1∨n=2) (l:List UInt8) (hl:l.length≤140737488355328) (fnm:ByteArray) (b k:Int) (h:Heap) :
  CallT Tryz.prog 145 [.string fnm,.string ⟨l.toArray⟩,.int .i64 b,.int .i64 k,.iface 198 (.int .i64 n)] h (.iface 200 (.pointer (some ⟨h.next,0,none⟩))) (h.alloc .dead):=by
 refine ⟨enters_of Tryz.func145 (by kernel_rfl) rfl,Heap.step_alloc h _,fun base G ρ w args' hG hfr hS hargs=>?_⟩
 obtain ⟨rfl⟩:args' = [.string fnm,.string ⟨l.toArray⟩,.int .i64 b,.int .i64 k,.iface 198 (.int .i64 n)]:=by
  cases hargs with | cons v1 v1' r1 r1' h1 hr1 =>
  cases hr1 with | cons v2 v2' r2 r2' h2 hr2 =>
  cases hr2 with | cons v3 v3' r3 r3' h3 hr3 =>
  cases hr3 with | cons v4 v4' r4 r4' h4 hr4 =>
  cases hr4 with | cons v5 v5' r5 r5' h5 hr5 =>
  cases hr5
  rw [VR.plain_inv rfl h1,VR.plain_inv rfl h2,VR.plain_inv rfl h3,VR.plain_inv rfl h4,VR.plain_inv rfl h5]
 have hsz:(ByteArray.mk l.toArray).size≤281474976710656:=by
  have:(ByteArray.mk l.toArray).size=l.length:=by simp [ByteArray.size]
  omega
 have key:Calls Tryz.prog 145 [.string fnm,.string ⟨l.toArray⟩,.int .i64 b,.int .i64 k,.iface 198 (.int .i64 n)].toArray w fun e w'=>∃ N ev,e = .returned (.iface 200 (.pointer (some ⟨N,0,none⟩)))∧w.heap.size≤N∧w'.heap[N]? = some (.cells #[.string fnm,.string ⟨l.toArray⟩,ev] 214 (0,0))∧RowKit.Below w.heap.size w w':=by
  rcases hn with rfl | rfl
  ·obtain ⟨_,te,pe,he⟩:=hS.glob.1 5 (by simp [Zt])
   exact (AnyPu.strconv_toError_range zj7 fnm ⟨l.toArray⟩ b k (.iface te pe) w hsz he (.inr ⟨_,_,rfl⟩)).mono fun e w' ⟨N,h1,h2,h3,h4⟩=>⟨N,_,h1,h2,h3,h4⟩
  ·obtain ⟨_,te,pe,he⟩:=hS.glob.1 4 (by simp [Zt])
   exact (AnyPu.strconv_toError_syntax zj7 fnm ⟨l.toArray⟩ b k (.iface te pe) w hsz he (.inr ⟨_,_,rfl⟩)).mono fun e w' ⟨N,h1,h2,h3,h4⟩=>⟨N,_,h1,h2,h3,h4⟩
 refine key.mono fun e w' ⟨N,ev,he,hN,hc,hb⟩=>?_
 have hid:ρ h.next=none:=hfr h.next (Nat.le_refl _) (by simp)
 have hNlt:N < w'.heap.size:=(Array.getElem?_eq_some_iff.1 hc).1
 refine ⟨_,ρ.put h.next ⟨N,0,3⟩,he,⟨by simpa using Agree.put ρ h.next ⟨N,0,3⟩,?_,?_,?_⟩⟩
 ·refine .iface _ _ _ ?_
  have:=VR.ptr (ρ:=ρ.put h.next ⟨N,0,3⟩) h.next 0 ⟨N,0,3⟩ (by simp [Ren.put])
  simpa using this
 ·exact Sim.congr (hS.alloc h.next .dead ⟨N,0,3⟩ hid hN hNlt (fun b hb'=>hb.block b hb') hb.size trivial) (jh hG _)
 ·have hbase:=hS.size
  refine ⟨hb.size,fun b hb'=>hb.block b (by omega),hb.tape,hb.os,hb.output,fun a ha=>?_⟩
  unfold World.frozen?
  rw [hb.block a.block (by omega)]
theorem zw5 {n:Int}(hn:n=1∨n=2){l:List UInt8}(hl:l.length≤140737488355328){fnm:ByteArray}{b k:Int}{h:Heap}(Q:Value→Heap→Prop) (hq:∀ id h',h.le h' → Q (.iface 200 (.pointer (some ⟨id,0,none⟩))) h') :
  CallW Tryz.prog 145 [.string fnm,.string ⟨l.toArray⟩,.int .i64 b,.int .i64 k,.iface 198 (.int .i64 n)] h Q :=
 ⟨_,_,zw4 hn l hl fnm b k h,hq _ _ ((Heap.le.refl h).alloc _)⟩
end Go.Eng.Sy
namespace Go.Eng.Sy
open Go Go.Eng Go.Proofs
def low (b:UInt8):UInt8:=b ||| 32
def dig (b:UInt8):Option Nat:=if 48≤b.toNat∧b.toNat≤57 then some (b.toNat - 48) else if 97≤(low b).toNat∧(low b).toNat≤122 then some ((low b).toNat - 87) else none
def j6 (base:Nat):List UInt8→Nat→Option Nat
 | [],n=>some n
 | b::r,n=>match dig b with
  | none=>none
  | some d=>if base≤d then none else if 4294967295 < n * base + d then none else j6 base r (n * base + d)
def j5 (base:Nat) (l:List UInt8):Option Nat:=match l with | []=>none | _=>j6 base l 0
theorem zw0 (b:UInt8):b.toNat < 256:=b.toNat_lt
set_option maxRecDepth 20000 in
theorem low_eq:∀ n:Fin 256,IntKind.u8.wrap ((BitVec.ofInt 8 (n.val:Int) ||| BitVec.ofInt 8 32).toNat:Int)=((low (UInt8.ofNat n.val)).toNat:Int):=by decide
theorem y3 (b:UInt8) (h:Heap) (Q:Value→Heap→Prop) (hq:Q (.int .u8 (low b).toNat) h):CallW Tryz.prog 156 [.int .u8 b.toNat] h Q:=by
 refine zh (k:=1) ok156 rfl rfl rfl fun N=>?_
 rw [show yj c156 [.int .u8 b.toNat]=[.int .u8 b.toNat,undef] from rfl]
 delta c156 qd6 qd5
 replace hq:=Hid.mk hq
 have e:=low_eq ⟨b.toNat,zw0 b⟩
 simp only [UInt8.ofNat_toNat] at e
 have e' : ((IntKind.u8.wrap ((BitVec.ofInt IntKind.u8.bits (b.toNat:Int) ||| BitVec.ofInt IntKind.u8.bits 32).toNat:Int)):Int)=((low b).toNat:Int):=e
 clear e
 repeat' (first|simp -implicitDefEqProofs only [za,aR,aW,zb,ze,Int.reduceBEq,Int.reduceBNe,Nat.reduceBEq,Int.reduceLT,Int.reduceLE, *]|with_reducible (first|apply kcd|apply kgd|apply kci|apply kgi)<;>intro hc)
 exact hq.h
end Go.Eng.Sy
namespace Go.Eng.Sy
open Go Go.Eng Go.Proofs
theorem zq4 (h:Heap) (l:List UInt8):aW .strBytes [.string ⟨l.toArray⟩] h=some (.slice (some ⟨h.next,0,none⟩) l.length 1,h.alloc (.blk (l.map fun b=>.int .u8 b.toNat) false)):=by
 simp [aW,ByteArray.size]
theorem shl32:zp6 .shl .u64 1 32=some (.int .u64 4294967296):=by rfl
theorem sub32:IntKind.u64.wrap (4294967296 - 1)=4294967295:=by rfl
def ParseQ (base:Nat) (l:List UInt8) (h:Heap) (Q:Value→Heap→Prop):Prop :=
 ∀ h',h.le h' → (∀ n,j5 base l=some n→Q (.tuple #[.int .u64 n,.nilIface]) h')∧(j5 base l=none → ∀ (x e:Int),(e=1∨e=2)→Q (.tuple #[.int .u64 x,.iface 198 (.int .i64 e)]) h')
theorem zr8 {base:Nat}(hb:base=10∨base=16){cut:Int}(hcut:4294967296≤cut){l:List UInt8}(hl:l.length≤140737488355328) (hne:l≠[]){N p:Nat}{h h0:Heap}(hp:h.get p=some (.blk (l.map fun b=>.int .u8 b.toNat) false)) (hle:h0.le h)
  {Q:Value→Heap→Prop}(hq:ParseQ base l h0 Q){x3 x4 x11 x12 x13 x18:Value}{Q' : AExit→List Value→Heap→Prop}
  (hQ1:∀ e h1 n,h0.le h1→j5 base l=some n→(∃ x11 x12 x13 x18,e=[str l,.int .i64 base,.int .i64 32,x3,x4,.bool false,str l,.int .u64 cut,.int .u64 4294967295,.bool false,.int .u64 n,x11,x12,x13,.int .i64 base,.slice (some ⟨p,0,none⟩) l.length 1,.int .i64 l.length,.int .i64 l.length,x18])→Q' (.exit 3) e h1)
  (hQ2:∀ e h1 (x z:Int),h0.le h1→j5 base l=none→(z=1∨z=2)→e[3]? = some (.int .u64 x)→e[4]? = some (.iface 198 (.int .i64 z))→Q' .ret e h1) :
  LoopW Tryz.prog N c144.vars Qf [str l,.int .i64 base,.int .i64 32,x3,x4,.bool false,str l,.int .u64 cut,.int .u64 4294967295,.bool false,.int .u64 0,x11,x12,x13,.int .i64 base,.slice (some ⟨p,0,none⟩) l.length 1,.int .i64 l.length,.int .i64 0,x18] h Q':=by
 have hpu:j5 base l=j6 base l 0:=by cases l with | nil=>exact absurd rfl hne | cons=>rfl
 have hb2:(base:Int)≤16∧0≤(base:Int):=by omega
 have hwb:IntKind.u64.wrap (base:Int)=base:=za0 (by omega) (by omega)
 have hwb8:IntKind.u8.wrap (base:Int)=base:=zv4 (by omega) (by omega)
 replace hQ1:=Hid.mk hQ1
 replace hQ2:=Hid.mk hQ2
 replace hq:=Hid.mk hq
 replace hpu:=Hid.mk hpu
 refine LoopW.upto l.length (fun i e h1=>h.le h1 ∧ ∃ n:Nat,n≤4294967295∧j6 base l 0=j6 base (l.drop i) n ∧ ∃ x11 x12 x13 x18,e=[str l,.int .i64 base,.int .i64 32,x3,x4,.bool false,str l,.int .u64 cut,.int .u64 4294967295,.bool false,.int .u64 n,x11,x12,x13,.int .i64 base,.slice (some ⟨p,0,none⟩) l.length 1,.int .i64 l.length,.int .i64 i,x18]) ?_ (Nat.zero_le _) ⟨Heap.le.refl _,0,by omega,rfl,_,_,_,_,rfl⟩
 rintro i _ h1 R hi ⟨hl1,n,hn,hpar,x11,x12,x13,x18,rfl⟩ hR
 replace hpar:=Hid.mk hpar
 delta Qf Vg Vf Ve Vd Vc Vb Va W9 W8 W7 W6 W5 W4 W3 W1 W0 Wz Wy Wx Ww
 have hp1:=hl1.get hp
 have le1:=Hid.mk (hle.trans hl1)
 by_cases hlt:i < l.length
 case neg =>
  have hlt' : ¬ (i:Int) < l.length:=by omega
  have hii:l.length=i:=by omega
  have g:=hQ1.h [str l,.int .i64 base,.int .i64 32,x3,x4,.bool false,str l,.int .u64 cut,.int .u64 4294967295,.bool false,.int .u64 n,x11,x12,x13,.int .i64 base,.slice (some ⟨p,0,none⟩) l.length 1,.int .i64 l.length,.int .i64 i,.bool false] h1 n le1.h (by rw [hpu.h,hpar.h,List.drop_of_length_le (by omega)];rfl) ⟨x11,x12,x13,_,by rw [hii]⟩
  replace g:=Hid.mk g
  clear hii
  repeat' (first|simp -implicitDefEqProofs only [za,aR,aW,zb,ze,Int.reduceBEq,Int.reduceBNe,Nat.reduceBEq,Int.reduceLT,Int.reduceLE, *]|with_reducible (first|apply kcd|apply kgd|apply kci|apply kgi)<;>intro hc)
  exact g.h
 case pos =>
  have hlt' : (i:Int) < l.length:=by omega
  have hwj:IntKind.i64.wrap ((i:Int) + 1)=((i + 1:Nat):Int):=by rw [zu (by omega) (by omega)];rfl
  obtain ⟨b,hb'⟩:∃ b,l[i]? = some b:=⟨_,List.getElem?_eq_getElem hlt⟩
  have hdr:l.drop i=b::l.drop (i + 1):=by
   rw [List.drop_eq_getElem_cons hlt]
   congr 1
   exact (List.getElem?_eq_some_iff.1 hb').2
  have hpar' : j6 base l 0=j6 base (b::l.drop (i + 1)) n:=by rw [hpar.h,hdr]
  clear hdr
  have ia:yi 1 [.slice (some ⟨p,0,none⟩) l.length 1,.int .i64 (i:Int)]=some (.pointer (some ⟨p,i,none⟩)):=by simp [yi,hlt]
  have gl:(l.map fun b=>Value.int .u8 b.toNat)[i]? = some (.int .u8 b.toNat):=by simp [hb']
  have hbl:=zw0 b
  have hno95:∀ c:Bool,(if c then false else false)=false:=by intro c;cases c<;>rfl
  clear hb'
  cases hd:dig b with
  | none =>
   have hnone:j5 base l=none:=by rw [hpu.h,hpar'];simp [j6,hd]
   have g:∀ e,e[3]? = some (.int .u64 0)→e[4]? = some (.iface 198 (.int .i64 2))→Q' .ret e h1:=fun e e3 e4=>hQ2.h e h1 0 2 le1.h hnone (.inr rfl) e3 e4
   replace g:=Hid.mk g
   have hd' : ¬ (48≤b.toNat∧b.toNat≤57) ∧ ¬ (97≤(low b).toNat∧(low b).toNat≤122):=by
    unfold dig at hd
    by_cases hA:48≤b.toNat∧b.toNat≤57
    ·rw [if_pos hA] at hd;cases hd
    ·rw [if_neg hA] at hd
     by_cases hB:97≤(low b).toNat∧(low b).toNat≤122
     ·rw [if_pos hB] at hd;cases hd
     ·exact ⟨hA,hB⟩
   replace hd':=Hid.mk hd'
   clear hd hpar' hpar
   by_cases h48:(48:Int)≤(b.toNat:Int)<;>by_cases h57:(b.toNat:Int)≤57<;>by_cases h97:(97:Int)≤((low b).toNat:Int)<;>by_cases h122:((low b).toNat:Int)≤122
   all_goals first
    | (exfalso;have:=hd'.h;omega)
    | (
     cases h95:((b.toNat:Int) == 95)
     all_goals
      repeat' (first|simp -implicitDefEqProofs only [za,aR,aW,zb,ze,Int.reduceBEq,Int.reduceBNe,Nat.reduceBEq,Int.reduceLT,Int.reduceLE,ym, *]|with_reducible (first|apply kcd|apply kgd|apply kci|apply kgi)<;>intro hc)
      refine y3 b _ _ ?_
      repeat' (first|simp -implicitDefEqProofs only [za,aR,aW,zb,ze,Int.reduceBEq,Int.reduceBNe,Nat.reduceBEq,Int.reduceLT,Int.reduceLE,ym, *]|with_reducible (first|apply kcd|apply kgd|apply kci|apply kgi)<;>intro hc)
      first
       | exact g.h _ rfl rfl
       | (
        refine y3 b _ _ ?_
        repeat' (first|simp -implicitDefEqProofs only [za,aR,aW,zb,ze,Int.reduceBEq,Int.reduceBNe,Nat.reduceBEq,Int.reduceLT,Int.reduceLE,ym, *]|with_reducible (first|apply kcd|apply kgd|apply kci|apply kgi)<;>intro hc)
        exact g.h _ rfl rfl))
  | some d =>
   have hd' : (48≤b.toNat∧b.toNat≤57∧d=b.toNat - 48)∨(¬ (48≤b.toNat∧b.toNat≤57)∧97≤(low b).toNat∧(low b).toNat≤122∧d=(low b).toNat - 87):=by
    unfold dig at hd
    by_cases hA:48≤b.toNat∧b.toNat≤57
    ·rw [if_pos hA] at hd;cases hd;exact .inl ⟨hA.1,hA.2,rfl⟩
    ·rw [if_neg hA] at hd
     by_cases hB:97≤(low b).toNat∧(low b).toNat≤122
     ·rw [if_pos hB] at hd;cases hd;exact .inr ⟨hA,hB.1,hB.2,rfl⟩
     ·rw [if_neg hB] at hd;cases hd
   have hd35:d≤35:=by omega
   have hw64:IntKind.u64.wrap (d:Int)=d:=za0 (by omega) (by omega)
   have hnb:n * base≤4294967295 * 16:=Nat.mul_le_mul hn (by omega)
   have hmul:IntKind.u64.wrap ((n:Int) * (base:Int))=((n * base:Nat):Int):=by
    rw [← Int.natCast_mul];exact za0 (by omega) (by omega)
   have hsum:IntKind.u64.wrap (((n * base:Nat):Int) + (d:Int))=((n * base + d:Nat):Int):=by
    rw [← Int.natCast_add];exact za0 (by omega) (by omega)
   have hcn:¬ cut≤(n:Int):=by omega
   have hsl:¬ ((n * base + d:Nat):Int) < ((n * base:Nat):Int):=by omega
   have g2:base≤d → ∀ e,e[3]? = some (.int .u64 0)→e[4]? = some (.iface 198 (.int .i64 2))→Q' .ret e h1:=fun hbd e e3 e4=>hQ2.h e h1 0 2 le1.h (by rw [hpu.h,hpar'];simp [j6,hd,hbd]) (.inr rfl) e3 e4
   have g1:¬ base≤d→4294967295 < n * base + d → ∀ e,e[3]? = some (.int .u64 4294967295)→e[4]? = some (.iface 198 (.int .i64 1))→Q' .ret e h1:=fun hbd hgt e e3 e4=>hQ2.h e h1 4294967295 1 le1.h (by rw [hpu.h,hpar'];simp [j6,hd,hbd,hgt]) (.inl rfl) e3 e4
   have g0:¬ base≤d → ¬ 4294967295 < n * base + d→j6 base l 0=j6 base (l.drop (i + 1)) (n * base + d):=fun hbd hgt=>by rw [hpar'];simp only [j6,hd];rw [if_neg hbd,if_neg hgt]
   replace g2:=Hid.mk g2
   replace g1:=Hid.mk g1
   replace g0:=Hid.mk g0
   replace hsum:=Hid.mk hsum
   replace hmul:=Hid.mk hmul
   clear hd hpar' hpar hnb
   have hA:48≤b.toNat→b.toNat≤57→d=b.toNat - 48→IntKind.u8.wrap ((b.toNat:Int) - 48)=(d:Int):=fun h1 h2 e=>by
    rw [zv4 (by omega) (by omega)];omega
   have hB:97≤(low b).toNat→(low b).toNat≤122→d=(low b).toNat - 87→IntKind.u8.wrap (((low b).toNat:Int) - 97)=((low b).toNat:Int) - 97∧IntKind.u8.wrap (((low b).toNat:Int) - 97 + 10)=(d:Int):=fun h1 h2 e=>by
    rw [zv4 (by omega) (by omega),zv4 (by omega) (by omega)];omega
   by_cases hbd:base≤d
   ·have hbd' : (base:Int)≤(d:Int):=by omega
    have g:=g2.h hbd
    replace g:=Hid.mk g
    rcases hd' with ⟨hd1,hd2,hd3⟩ | ⟨hd1,hd2,hd3,hd4⟩
    ·have ha:=hA hd1 hd2 hd3
     have h48:(48:Int)≤(b.toNat:Int):=by omega
     have h57:(b.toNat:Int)≤57:=by omega
     clear hd3
     cases h95:((b.toNat:Int) == 95)
     all_goals
      repeat' (first|simp -implicitDefEqProofs only [za,aR,aW,zb,ze,Int.reduceBEq,Int.reduceBNe,Nat.reduceBEq,Int.reduceLT,Int.reduceLE,ym, *]|with_reducible (first|apply kcd|apply kgd|apply kci|apply kgi)<;>intro hc)
      exact g.h _ rfl rfl
    ·obtain ⟨hb1,hb2⟩:=hB hd2 hd3 hd4
     have h97:(97:Int)≤((low b).toNat:Int):=by omega
     have h122:((low b).toNat:Int)≤122:=by omega
     by_cases h48:(48:Int)≤(b.toNat:Int)
     ·have h57:¬ (b.toNat:Int)≤57:=by omega
      clear hd4
      cases h95:((b.toNat:Int) == 95)
      all_goals
       repeat' (first|simp -implicitDefEqProofs only [za,aR,aW,zb,ze,Int.reduceBEq,Int.reduceBNe,Nat.reduceBEq,Int.reduceLT,Int.reduceLE,ym, *]|with_reducible (first|apply kcd|apply kgd|apply kci|apply kgi)<;>intro hc)
       refine y3 b _ _ ?_
       repeat' (first|simp -implicitDefEqProofs only [za,aR,aW,zb,ze,Int.reduceBEq,Int.reduceBNe,Nat.reduceBEq,Int.reduceLT,Int.reduceLE,ym, *]|with_reducible (first|apply kcd|apply kgd|apply kci|apply kgi)<;>intro hc)
       refine y3 b _ _ ?_
       repeat' (first|simp -implicitDefEqProofs only [za,aR,aW,zb,ze,Int.reduceBEq,Int.reduceBNe,Nat.reduceBEq,Int.reduceLT,Int.reduceLE,ym, *]|with_reducible (first|apply kcd|apply kgd|apply kci|apply kgi)<;>intro hc)
       refine y3 b _ _ ?_
       repeat' (first|simp -implicitDefEqProofs only [za,aR,aW,zb,ze,Int.reduceBEq,Int.reduceBNe,Nat.reduceBEq,Int.reduceLT,Int.reduceLE,ym, *]|with_reducible (first|apply kcd|apply kgd|apply kci|apply kgi)<;>intro hc)
       exact g.h _ rfl rfl
     ·clear hd4
      cases h95:((b.toNat:Int) == 95)
      all_goals
       repeat' (first|simp -implicitDefEqProofs only [za,aR,aW,zb,ze,Int.reduceBEq,Int.reduceBNe,Nat.reduceBEq,Int.reduceLT,Int.reduceLE,ym, *]|with_reducible (first|apply kcd|apply kgd|apply kci|apply kgi)<;>intro hc)
       refine y3 b _ _ ?_
       repeat' (first|simp -implicitDefEqProofs only [za,aR,aW,zb,ze,Int.reduceBEq,Int.reduceBNe,Nat.reduceBEq,Int.reduceLT,Int.reduceLE,ym, *]|with_reducible (first|apply kcd|apply kgd|apply kci|apply kgi)<;>intro hc)
       refine y3 b _ _ ?_
       repeat' (first|simp -implicitDefEqProofs only [za,aR,aW,zb,ze,Int.reduceBEq,Int.reduceBNe,Nat.reduceBEq,Int.reduceLT,Int.reduceLE,ym, *]|with_reducible (first|apply kcd|apply kgd|apply kci|apply kgi)<;>intro hc)
       refine y3 b _ _ ?_
       repeat' (first|simp -implicitDefEqProofs only [za,aR,aW,zb,ze,Int.reduceBEq,Int.reduceBNe,Nat.reduceBEq,Int.reduceLT,Int.reduceLE,ym, *]|with_reducible (first|apply kcd|apply kgd|apply kci|apply kgi)<;>intro hc)
       exact g.h _ rfl rfl
   ·have hbd' : ¬ (base:Int)≤(d:Int):=by omega
    have hm:=hmul.h
    have hs:=hsum.h
    by_cases hgt:4294967295 < n * base + d
    ·have hgt' : (4294967295:Int) < ((n * base + d:Nat):Int):=by omega
     have g:=g1.h hbd hgt
     replace g:=Hid.mk g
     rcases hd' with ⟨hd1,hd2,hd3⟩ | ⟨hd1,hd2,hd3,hd4⟩
     ·have ha:=hA hd1 hd2 hd3
      have h48:(48:Int)≤(b.toNat:Int):=by omega
      have h57:(b.toNat:Int)≤57:=by omega
      clear hd3
      cases h95:((b.toNat:Int) == 95)
      all_goals
       repeat' (first|simp -implicitDefEqProofs only [za,aR,aW,zb,ze,Int.reduceBEq,Int.reduceBNe,Nat.reduceBEq,Int.reduceLT,Int.reduceLE,ym, *]|with_reducible (first|apply kcd|apply kgd|apply kci|apply kgi)<;>intro hc)
       exact g.h _ rfl rfl
     ·obtain ⟨hb1,hb2⟩:=hB hd2 hd3 hd4
      have h97:(97:Int)≤((low b).toNat:Int):=by omega
      have h122:((low b).toNat:Int)≤122:=by omega
      by_cases h48:(48:Int)≤(b.toNat:Int)
      ·have h57:¬ (b.toNat:Int)≤57:=by omega
       clear hd4
       cases h95:((b.toNat:Int) == 95)
       all_goals
        repeat' (first|simp -implicitDefEqProofs only [za,aR,aW,zb,ze,Int.reduceBEq,Int.reduceBNe,Nat.reduceBEq,Int.reduceLT,Int.reduceLE,ym, *]|with_reducible (first|apply kcd|apply kgd|apply kci|apply kgi)<;>intro hc)
        refine y3 b _ _ ?_
        repeat' (first|simp -implicitDefEqProofs only [za,aR,aW,zb,ze,Int.reduceBEq,Int.reduceBNe,Nat.reduceBEq,Int.reduceLT,Int.reduceLE,ym, *]|with_reducible (first|apply kcd|apply kgd|apply kci|apply kgi)<;>intro hc)
        refine y3 b _ _ ?_
        repeat' (first|simp -implicitDefEqProofs only [za,aR,aW,zb,ze,Int.reduceBEq,Int.reduceBNe,Nat.reduceBEq,Int.reduceLT,Int.reduceLE,ym, *]|with_reducible (first|apply kcd|apply kgd|apply kci|apply kgi)<;>intro hc)
        refine y3 b _ _ ?_
        repeat' (first|simp -implicitDefEqProofs only [za,aR,aW,zb,ze,Int.reduceBEq,Int.reduceBNe,Nat.reduceBEq,Int.reduceLT,Int.reduceLE,ym, *]|with_reducible (first|apply kcd|apply kgd|apply kci|apply kgi)<;>intro hc)
        exact g.h _ rfl rfl
      ·clear hd4
       cases h95:((b.toNat:Int) == 95)
       all_goals
        repeat' (first|simp -implicitDefEqProofs only [za,aR,aW,zb,ze,Int.reduceBEq,Int.reduceBNe,Nat.reduceBEq,Int.reduceLT,Int.reduceLE,ym, *]|with_reducible (first|apply kcd|apply kgd|apply kci|apply kgi)<;>intro hc)
        refine y3 b _ _ ?_
        repeat' (first|simp -implicitDefEqProofs only [za,aR,aW,zb,ze,Int.reduceBEq,Int.reduceBNe,Nat.reduceBEq,Int.reduceLT,Int.reduceLE,ym, *]|with_reducible (first|apply kcd|apply kgd|apply kci|apply kgi)<;>intro hc)
        refine y3 b _ _ ?_
        repeat' (first|simp -implicitDefEqProofs only [za,aR,aW,zb,ze,Int.reduceBEq,Int.reduceBNe,Nat.reduceBEq,Int.reduceLT,Int.reduceLE,ym, *]|with_reducible (first|apply kcd|apply kgd|apply kci|apply kgi)<;>intro hc)
        refine y3 b _ _ ?_
        repeat' (first|simp -implicitDefEqProofs only [za,aR,aW,zb,ze,Int.reduceBEq,Int.reduceBNe,Nat.reduceBEq,Int.reduceLT,Int.reduceLE,ym, *]|with_reducible (first|apply kcd|apply kgd|apply kci|apply kgi)<;>intro hc)
        exact g.h _ rfl rfl
    ·have hgt' : ¬ (4294967295:Int) < ((n * base + d:Nat):Int):=by omega
     have g:=g0.h hbd hgt
     replace g:=Hid.mk g
     have hn' : n * base + d≤4294967295:=by omega
     rcases hd' with ⟨hd1,hd2,hd3⟩ | ⟨hd1,hd2,hd3,hd4⟩
     ·have ha:=hA hd1 hd2 hd3
      have h48:(48:Int)≤(b.toNat:Int):=by omega
      have h57:(b.toNat:Int)≤57:=by omega
      clear hd3
      cases h95:((b.toNat:Int) == 95)
      all_goals
       repeat' (first|simp -implicitDefEqProofs only [za,aR,aW,zb,ze,Int.reduceBEq,Int.reduceBNe,Nat.reduceBEq,Int.reduceLT,Int.reduceLE,ym, *]|with_reducible (first|apply kcd|apply kgd|apply kci|apply kgi)<;>intro hc)
       exact hR.h _ _ hlt ⟨hl1,_,hn',g.h,_,_,_,_,rfl⟩
     ·obtain ⟨hb1,hb2⟩:=hB hd2 hd3 hd4
      have h97:(97:Int)≤((low b).toNat:Int):=by omega
      have h122:((low b).toNat:Int)≤122:=by omega
      by_cases h48:(48:Int)≤(b.toNat:Int)
      ·have h57:¬ (b.toNat:Int)≤57:=by omega
       clear hd4
       cases h95:((b.toNat:Int) == 95)
       all_goals
        repeat' (first|simp -implicitDefEqProofs only [za,aR,aW,zb,ze,Int.reduceBEq,Int.reduceBNe,Nat.reduceBEq,Int.reduceLT,Int.reduceLE,ym, *]|with_reducible (first|apply kcd|apply kgd|apply kci|apply kgi)<;>intro hc)
        refine y3 b _ _ ?_
        repeat' (first|simp -implicitDefEqProofs only [za,aR,aW,zb,ze,Int.reduceBEq,Int.reduceBNe,Nat.reduceBEq,Int.reduceLT,Int.reduceLE,ym, *]|with_reducible (first|apply kcd|apply kgd|apply kci|apply kgi)<;>intro hc)
        refine y3 b _ _ ?_
        repeat' (first|simp -implicitDefEqProofs only [za,aR,aW,zb,ze,Int.reduceBEq,Int.reduceBNe,Nat.reduceBEq,Int.reduceLT,Int.reduceLE,ym, *]|with_reducible (first|apply kcd|apply kgd|apply kci|apply kgi)<;>intro hc)
        refine y3 b _ _ ?_
        repeat' (first|simp -implicitDefEqProofs only [za,aR,aW,zb,ze,Int.reduceBEq,Int.reduceBNe,Nat.reduceBEq,Int.reduceLT,Int.reduceLE,ym, *]|with_reducible (first|apply kcd|apply kgd|apply kci|apply kgi)<;>intro hc)
        exact hR.h _ _ hlt ⟨hl1,_,hn',g.h,_,_,_,_,rfl⟩
      ·clear hd4
       cases h95:((b.toNat:Int) == 95)
       all_goals
        repeat' (first|simp -implicitDefEqProofs only [za,aR,aW,zb,ze,Int.reduceBEq,Int.reduceBNe,Nat.reduceBEq,Int.reduceLT,Int.reduceLE,ym, *]|with_reducible (first|apply kcd|apply kgd|apply kci|apply kgi)<;>intro hc)
        refine y3 b _ _ ?_
        repeat' (first|simp -implicitDefEqProofs only [za,aR,aW,zb,ze,Int.reduceBEq,Int.reduceBNe,Nat.reduceBEq,Int.reduceLT,Int.reduceLE,ym, *]|with_reducible (first|apply kcd|apply kgd|apply kci|apply kgi)<;>intro hc)
        refine y3 b _ _ ?_
        repeat' (first|simp -implicitDefEqProofs only [za,aR,aW,zb,ze,Int.reduceBEq,Int.reduceBNe,Nat.reduceBEq,Int.reduceLT,Int.reduceLE,ym, *]|with_reducible (first|apply kcd|apply kgd|apply kci|apply kgi)<;>intro hc)
        refine y3 b _ _ ?_
        repeat' (first|simp -implicitDefEqProofs only [za,aR,aW,zb,ze,Int.reduceBEq,Int.reduceBNe,Nat.reduceBEq,Int.reduceLT,Int.reduceLE,ym, *]|with_reducible (first|apply kcd|apply kgd|apply kci|apply kgi)<;>intro hc)
        exact hR.h _ _ hlt ⟨hl1,_,hn',g.h,_,_,_,_,rfl⟩
end Go.Eng.Sy
namespace Go.Proofs
open Go.Shelf
def lays159_ren:Go.Shelf.Ren:=⟨fun | 159=>124 | 165=>102 | 166=>65 | 167=>67 | 169=>31 | 230=>146 | 204=>147 | 240=>100 | 241=>130 | 197=>140 | 118=>162 | 168=>163 | 270=>164 | 262=>165 | 276=>127 | 277=>148 | 260=>154 | 242=>173 | 313=>174 | 278=>175 | 274=>176 | 275=>177 | n=>n,fun | 9=>9 | 4=>4 | 3=>3 | 5=>5 | 72=>75 | 0=>0 | 76=>115 | 75=>114 | 107=>190 | 70=>72 | 20=>20 | 37=>73 | 127=>120 | 21=>21 | 105=>185 | 164=>167 | 162=>219 | 203=>217 | 119=>207 | 46=>140 | 139=>210 | 138=>209 | 51=>153 | 160=>225 | 208=>231 | 206=>229 | 80=>82 | n=>n,fun | 13=>6 | 3=>2 | 4=>3 | n=>n⟩
theorem lays159:Go.Proofs.Lays.n159 Tryz.prog lays159_ren where
 mixed:=by kernel_rfl
 f118:=Tryz.func162.trans (congrArg some (by kernel_rfl))
 f159:=Tryz.func124.trans (congrArg some (by kernel_rfl))
 f165:=Tryz.func102.trans (congrArg some (by kernel_rfl))
 f166:=Tryz.func65.trans (congrArg some (by kernel_rfl))
 f167:=Tryz.func67.trans (congrArg some (by kernel_rfl))
 f168:=Tryz.func163.trans (congrArg some (by kernel_rfl))
 f169:=Tryz.func31.trans (congrArg some (by kernel_rfl))
 f197:=Tryz.func140.trans (congrArg some (by kernel_rfl))
 f204:=Tryz.func147.trans (congrArg some (by kernel_rfl))
 f230:=Tryz.func146.trans (congrArg some (by kernel_rfl))
 f240:=Tryz.func100.trans (congrArg some (by kernel_rfl))
 f241:=Tryz.func130.trans (congrArg some (by kernel_rfl))
 f242:=Tryz.func173.trans (congrArg some (by kernel_rfl))
 f260:=Tryz.func154.trans (congrArg some (by kernel_rfl))
 f262:=Tryz.func165.trans (congrArg some (by kernel_rfl))
 f270:=Tryz.func164.trans (congrArg some (by kernel_rfl))
 f274:=Tryz.func176.trans (congrArg some (by kernel_rfl))
 f275:=Tryz.func177.trans (congrArg some (by kernel_rfl))
 f276:=Tryz.func127.trans (congrArg some (by kernel_rfl))
 f277:=Tryz.func148.trans (congrArg some (by kernel_rfl))
 f278:=Tryz.func175.trans (congrArg some (by kernel_rfl))
 f313:=Tryz.func174.trans (congrArg some (by kernel_rfl))
 t0:=Tryz.underlying0
 a0:=Tryz.isAgg0
 z0:=Tryz.sizeOf0
 v0:=Tryz.zeroValue0
 t3:=Tryz.underlying3
 a3:=Tryz.isAgg3
 z3:=Tryz.sizeOf3
 v3:=Tryz.zeroValue3
 t4:=Tryz.underlying4
 a4:=Tryz.isAgg4
 z4:=Tryz.sizeOf4
 v4:=Tryz.zeroValue4
 t5:=Tryz.underlying5
 a5:=Tryz.isAgg5
 z5:=Tryz.sizeOf5
 v5:=Tryz.zeroValue5
 t9:=Tryz.underlying9
 a9:=Tryz.isAgg9
 z9:=Tryz.sizeOf9
 v9:=Tryz.zeroValue9
 t20:=Tryz.underlying20
 a20:=Tryz.isAgg20
 z20:=Tryz.sizeOf20
 v20:=Tryz.zeroValue20
 t21:=Tryz.underlying21
 a21:=Tryz.isAgg21
 z21:=Tryz.sizeOf21
 v21:=Tryz.zeroValue21
 t37:=Tryz.underlying73
 a37:=Tryz.isAgg73
 z37:=Tryz.sizeOf73
 v37:=Tryz.zeroValue73
 t46:=Tryz.underlying140
 a46:=Tryz.isAgg140
 z46:=Tryz.sizeOf140
 v46:=Tryz.zeroValue140
 t51:=Tryz.underlying153
 a51:=Tryz.isAgg153
 z51:=Tryz.sizeOf153
 v51:=Tryz.zeroValue153
 t70:=Tryz.underlying72
 a70:=Tryz.isAgg72
 z70:=Tryz.sizeOf72
 v70:=Tryz.zeroValue72
 t72:=Tryz.underlying75
 a72:=Tryz.isAgg75
 z72:=Tryz.sizeOf75
 v72:=Tryz.zeroValue75
 t75:=Tryz.underlying114
 a75:=Tryz.isAgg114
 z75:=Tryz.sizeOf114
 v75:=Tryz.zeroValue114
 t76:=Tryz.underlying115
 a76:=Tryz.isAgg115
 z76:=Tryz.sizeOf115
 v76:=Tryz.zeroValue115
 t105:=Tryz.underlying185
 a105:=Tryz.isAgg185
 z105:=Tryz.sizeOf185
 v105:=Tryz.zeroValue185
 t107:=Tryz.underlying190
 a107:=Tryz.isAgg190
 z107:=Tryz.sizeOf190
 v107:=Tryz.zeroValue190
 t119:=Tryz.underlying207
 a119:=Tryz.isAgg207
 z119:=Tryz.sizeOf207
 t127:=Tryz.underlying120
 a127:=Tryz.isAgg120
 z127:=Tryz.sizeOf120
 v127:=Tryz.zeroValue120
 t138:=Tryz.underlying209
 a138:=Tryz.isAgg209
 z138:=Tryz.sizeOf209
 v138:=Tryz.zeroValue209
 t139:=Tryz.underlying210
 a139:=Tryz.isAgg210
 z139:=Tryz.sizeOf210
 v139:=Tryz.zeroValue210
 t160:=Tryz.underlying225
 a160:=Tryz.isAgg225
 z160:=Tryz.sizeOf225
 v160:=Tryz.zeroValue225
 t162:=Tryz.underlying219
 a162:=Tryz.isAgg219
 z162:=Tryz.sizeOf219
 v162:=Tryz.zeroValue219
 t164:=Tryz.underlying167
 a164:=Tryz.isAgg167
 z164:=Tryz.sizeOf167
 v164:=Tryz.zeroValue167
 t203:=Tryz.underlying217
 a203:=Tryz.isAgg217
 z203:=Tryz.sizeOf217
 v203:=Tryz.zeroValue217
 t206:=Tryz.underlying229
 a206:=Tryz.isAgg229
 z206:=Tryz.sizeOf229
 v206:=Tryz.zeroValue229
 t208:=Tryz.underlying231
 a208:=Tryz.isAgg231
 z208:=Tryz.sizeOf231
 v208:=Tryz.zeroValue231
 g3:=by kernel_rfl
 g4:=by kernel_rfl
 g13:=by kernel_rfl
theorem zu5:Builder.Extra Tryz.prog lays159_ren where
 sizeBuilder:=by kernel_rfl
 liesBuilder:=by kernel_rfl
 t5:=Tryz.underlying5
 a5:=Tryz.isAgg5
 z5:=Tryz.sizeOf5
 v5:=Tryz.zeroValue5
 infoByte:=by kernel_rfl
 cellsByte:=by kernel_rfl
 sizeByte:=by kernel_rfl
 neB5:=by decide
end Go.Proofs
namespace Go.Eng.Sy
open Go Go.Eng Go.Proofs
theorem Qo {l:List UInt8}(hl:l.length≤140737488355328) (ha:∀ b ∈ l,b.toNat < 128){h:Heap}(Q:Value→Heap→Prop) (hq:Q (.string ⟨(Lib.toLowerA l).toArray⟩) h):CallW Tryz.prog 124 [.string ⟨l.toArray⟩] h Q:=by
 refine ⟨_,_,CallT.of_below (enters_of Tryz.func124 (by kernel_rfl) rfl) (by simp [Value.plain]) rfl fun base w _=>?_,hq⟩
 have:=Any.strings_ToLower_ascii lays159 zu5 ⟨l.toArray⟩ w (by simpa [ByteArray.size] using hl) (fun j b hb=>ha b (by simpa using List.mem_of_getElem? hb))
 have e:lays159_ren.f 159=124:=rfl
 rw [e] at this
 simpa using this
end Go.Eng.Sy
namespace Go.Eng.Sy
open Go Go.Eng Go.Proofs
theorem Jl (t:TypeId) (v:Value) (neg:Bool):ya0 3 neg [.iface t v]=some (.bool (if neg then !false else false)):=by simp [ya0,U5]
theorem jr (neg:Bool):ya0 3 neg [.nilIface]=some (.bool (if neg then !true else true)):=by simp [ya0,U5]
theorem z8 (a b:Value):pExtract 0 [.tuple #[a,b]]=some a:=rfl
theorem z7 (a b:Value):pExtract 1 [.tuple #[a,b]]=some b:=rfl
theorem parse_c {base:Nat}(hb:base=10∨base=16){l:List UInt8}(hl:l.length≤140737488355328) (h:Heap) (Q:Value→Heap→Prop) (hq:ParseQ base l h Q):CallW Tryz.prog 144 [str l,.int .i64 base,.int .i64 32] h Q:=by
 refine ja (k:=3) (j:=4) ok144 rfl rfl rfl fun N=>?_
 rw [show yj c144 [str l,.int .i64 base,.int .i64 32]=[str l,.int .i64 base,.int .i64 32,undef,undef,undef,undef,undef,undef,undef,undef,undef,undef,undef,undef,undef,undef,undef,undef] from rfl]
 delta c144 qe6 qe5 qe4 qe3 qe2 qe1 qe0 qd9 qd8 qd7 zn0 zm9 zm8 zm7 zm6 zm5 zm4 zm3 zm2 zm1 zm0 zl9 zl8 zl7 zl6 zl5 zl4 zl3 zl2 zl1 zl0 zk9 zk8 zk7 zk6 zk5 Vg Vf Ve Vd Vc Vb Va W9 W8 W7 W6 W5 W4 W3 W1 W0 Wz Wy Wx Ww Qe Qd Qc
 replace hq:=Hid.mk hq
 cases l with
 | nil =>
  have g:=(hq.h h (Heap.le.refl h)).2 rfl 0 2 (.inr rfl)
  replace g:=Hid.mk g
  repeat' (first|simp -implicitDefEqProofs only [za,aR,aW,zb,ze,Int.reduceBEq,Int.reduceBNe,Nat.reduceBEq,Int.reduceLT,Int.reduceLE,J7,ym, *]|with_reducible (first|apply kcd|apply kgd|apply kci|apply kgi)<;>intro hc)
  exact g.h
 | cons b r =>
  obtain ⟨l,hl'⟩:∃ l,b::r=l:=⟨_,rfl⟩
  have hne:l≠[]:=by rw [← hl'];simp
  have hne' : (l == [])=false:=by rw [← hl'];rfl
  rw [hl'] at hq hl ⊢
  clear hl'
  have hb0:((base:Int) == 0)=false:=by rcases hb with rfl | rfl<;>rfl
  have hb1:(2:Int)≤(base:Int):=by rcases hb with rfl | rfl<;>decide
  have hb2:(base:Int)≤36:=by rcases hb with rfl | rfl<;>decide
  obtain ⟨p,hpp⟩:∃ x,h.next=x:=⟨_,rfl⟩
  have sb:=zq4 h l
  obtain ⟨h1,hh1⟩:∃ x,h.alloc (.blk (l.map fun b=>.int .u8 b.toNat) false)=x:=⟨_,rfl⟩
  rw [hpp,hh1] at sb
  have gp:h1.get p=some (.blk (l.map fun b=>.int .u8 b.toNat) false):=by rw [← hh1,← hpp];exact Heap.get_alloc_same _ _
  have l1:h.le h1:=by rw [← hh1];exact (Heap.le.refl _).alloc _
  replace hpp:=Hid.mk hpp
  replace hh1:=Hid.mk hh1
  have fin:∀ (cut:Int),4294967296≤cut → ∀ x3 x4 x11 x12 x13 x18,LoopW Tryz.prog N c144.vars Qf [str l,.int .i64 base,.int .i64 32,x3,x4,.bool false,str l,.int .u64 cut,.int .u64 4294967295,.bool false,.int .u64 0,x11,x12,x13,.int .i64 base,.slice (some ⟨p,0,none⟩) l.length 1,.int .i64 l.length,.int .i64 0,x18] h1
    (ul 3 (Qp (W Tryz.prog N c144.vars (.seq (.rcond Qe [] 0 (.seq (.reg Qd [(3,1),(4,0)]) .ret) .skip) (.seq (.reg Qc [(3,1),(4,0)]) .ret)) (ret2 3 4 Q)) (ret2 3 4 Q))):=by
   intro cut hcut x3 x4 x11 x12 x13 x18
   refine zr8 hb hcut hl hne gp l1 hq.h ?_ ?_
   ·rintro e h2 n hl2 hn ⟨x11,x12,x13,x18,rfl⟩
    have g:=(hq.h h2 hl2).1 n hn
    replace g:=Hid.mk g
    clear hq gp hn
    delta Qe Qd Qc
    repeat' (first|simp -implicitDefEqProofs only [za,aR,aW,zb,ze,Int.reduceBEq,Int.reduceBNe,Nat.reduceBEq,Int.reduceLT,Int.reduceLE, *]|with_reducible (first|apply kcd|apply kgd|apply kci|apply kgi)<;>intro hc)
    exact g.h
   ·intro e h2 x z hl2 hn hz e3 e4
    have g:=(hq.h h2 hl2).2 hn x z hz
    replace g:=Hid.mk g
    clear hq gp hn
    repeat' (first|simp -implicitDefEqProofs only [za,aR,aW,zb,ze,Int.reduceBEq,Int.reduceBNe,Nat.reduceBEq,Int.reduceLT,Int.reduceLE, *]|with_reducible (first|apply kcd|apply kgd|apply kci|apply kgi)<;>intro hc)
    exact g.h
  delta c144 at fin
  simp only at fin
  replace fin:=Hid.mk fin
  have w32:IntKind.u64.wrap 32=32:=by rfl
  have n1:((32:Int) == 0)=false:=rfl
  have n2:¬ (32:Int) < 0:=by decide
  have n3:¬ (64:Int) < 32:=by decide
  clear hq
  cases h10:((base:Int) == 10) with
  | true =>
   repeat' (first|simp -implicitDefEqProofs only [za,aR,zb,ze,Int.reduceBEq,Int.reduceBNe,Nat.reduceBEq,Int.reduceLT,Int.reduceLE,ve,J7,shl32,sub32,Vj, *]|with_reducible (first|apply kcd|apply kgd|apply kci|apply kgi)<;>intro hc)
   exact fin.h 1844674407370955162 (by decide) _ _ _ _ _ _
  | false =>
   have h16:((base:Int) == 16)=true:=by
    rcases hb with rfl | rfl
    ·cases h10
    ·rfl
   repeat' (first|simp -implicitDefEqProofs only [za,aR,zb,ze,Int.reduceBEq,Int.reduceBNe,Nat.reduceBEq,Int.reduceLT,Int.reduceLE,ve,J7,shl32,sub32,Vj, *]|with_reducible (first|apply kcd|apply kgd|apply kci|apply kgi)<;>intro hc)
   exact fin.h 1152921504606846976 (by decide) _ _ _ _ _ _
end Go.Eng.Sy
namespace Go.Eng.Sy
open Go Go.Eng Go.Proofs
def NumQ (base:Nat) (l:List UInt8) (h:Heap) (Q:Value→Heap→Prop):Prop :=
 ∀ h',h.le h' → (∀ n,j5 base l=some n→Q (.tuple #[.int .u64 n,.nilIface]) h')∧(j5 base l=none → ∀ (x:Int) (id:Nat),Q (.tuple #[.int .u64 x,.iface 200 (.pointer (some ⟨id,0,none⟩))]) h')
theorem Q8 {base:Nat}(hb:base=10∨base=16){l:List UInt8}(hl:l.length≤140737488355328) (h:Heap) (Q:Value→Heap→Prop) (hq:NumQ base l h Q):CallW Tryz.prog 123 [str l,.int .i64 base,.int .i64 32] h Q:=by
 refine ja (k:=3) (j:=4) ok123 rfl rfl rfl fun N=>?_
 rw [show yj c123 [str l,.int .i64 base,.int .i64 32]=[str l,.int .i64 base,.int .i64 32,undef,undef,undef,undef] from rfl]
 delta c123 qj2 qj1 qj0 qi9 qi8
 replace hq:=Hid.mk hq
 repeat' (first|simp -implicitDefEqProofs only [za,aR,aW,zb,ze,Int.reduceBEq,Int.reduceBNe,Nat.reduceBEq,Int.reduceLT,Int.reduceLE, *]|with_reducible (first|apply kcd|apply kgd|apply kci|apply kgi)<;>intro hc)
 refine parse_c hb hl h _ fun h1 l1=>⟨fun n hn=>?_,fun hn x e he=>?_⟩
 ·have g:=(hq.h h1 l1).1 n hn
  replace g:=Hid.mk g
  clear hq hn
  repeat' (first|simp -implicitDefEqProofs only [za,aR,aW,zb,ze,Int.reduceBEq,Int.reduceBNe,Nat.reduceBEq,Int.reduceLT,Int.reduceLE,z8,z7,jr, *]|with_reducible (first|apply kcd|apply kgd|apply kci|apply kgi)<;>intro hc)
  exact g.h
 ·replace hn:=Hid.mk hn
  replace l1:=Hid.mk l1
  repeat' (first|simp -implicitDefEqProofs only [za,aR,aW,zb,ze,Int.reduceBEq,Int.reduceBNe,Nat.reduceBEq,Int.reduceLT,Int.reduceLE,z8,z7,Jl, *]|with_reducible (first|apply kcd|apply kgd|apply kci|apply kgi)<;>intro hc)
  refine zw5 he (by omega) _ fun id h2 l2=>?_
  repeat' (first|simp -implicitDefEqProofs only [za,aR,aW,zb,ze,Int.reduceBEq,Int.reduceBNe,Nat.reduceBEq,Int.reduceLT,Int.reduceLE, *]|with_reducible (first|apply kcd|apply kgd|apply kci|apply kgi)<;>intro hc)
  exact (hq.h h2 (l1.h.trans l2)).2 hn.h x id
theorem zj2 {base:Nat}:∀ {l:List UInt8}{n m:Nat},n≤4294967295→j6 base l n=some m→m≤4294967295
 | [],n,m,hn,h=>by simp only [j6,Option.some.injEq] at h;omega
 | b::r,n,m,hn,h=>by
  unfold j6 at h
  split at h
  ·cases h
  ·split at h
   ·cases h
   ·split at h
    ·cases h
    ·exact zj2 (by omega) h
theorem V6 {base:Nat}{l:List UInt8}{m:Nat}(h:j5 base l=some m):m≤4294967295:=by
 unfold j5 at h
 split at h
 ·cases h
 ·exact zj2 (by omega) h
set_option maxRecDepth 20000 in
theorem low_asc:∀ n:Fin 256,97≤(low (UInt8.ofNat n.val)).toNat→(low (UInt8.ofNat n.val)).toNat≤122→n.val < 128:=by decide
theorem dig_asc {b:UInt8}{d:Nat}(h:dig b=some d):b.toNat < 128:=by
 unfold dig at h
 split at h
 ·omega
 ·split at h
  ·rename_i h2
   have:=low_asc ⟨b.toNat,zw0 b⟩
   simp only [UInt8.ofNat_toNat] at this
   exact this h2.1 h2.2
  ·cases h
theorem V4 {base:Nat}:∀ {l:List UInt8}{n m:Nat},j6 base l n=some m → ∀ b ∈ l,b.toNat < 128
 | [],n,m,h=>by simp
 | b::r,n,m,h=>by
  unfold j6 at h
  split at h
  ·cases h
  ·rename_i d hd
   split at h
   ·cases h
   ·split at h
    ·cases h
    ·intro c hc
     rcases List.mem_cons.1 hc with rfl | hc
     ·exact dig_asc hd
     ·exact V4 h c hc
theorem Kq {base:Nat}{l:List UInt8}{m:Nat}(h:j5 base l=some m):∀ b ∈ l,b.toNat < 128:=by
 unfold j5 at h
 split at h
 ·cases h
 ·exact V4 h
def ye0 (l:List UInt8):List UInt8 × Nat:=if [48,120].isPrefixOf l then (l.drop 2,16) else (l,10)
def zj4 (l:List UInt8):Bool:=(ye0 l).2 == 10 && (decide (1 < l.length) && l.head? == some 48)
def ke (l:List UInt8):Option Nat:=match j5 (ye0 l).2 (ye0 l).1 with
 | none=>none
 | some n=>if 10 < l.length || zj4 l || !(Lib.toLowerA (ye0 l).1 == (ye0 l).1) then none else some n
theorem number_c {l:List UInt8}(hl:l.length≤140737488355328) (h:Heap) (Q:Value→Heap→Prop) (hq:∀ h',h.le h' → Q (.tuple #[.int .i64 ((ke l).getD 0),.bool (ke l).isSome]) h'):CallW Tryz.prog 97 [str l] h Q:=by
 refine ja (k:=1) (j:=2) ok97 rfl rfl rfl fun N=>?_
 rw [show yj c97 [str l]=[str l,undef,undef,undef,undef,undef,undef,undef,undef,undef] from rfl]
 delta c97 c97_r0 c97_r1 c97_r2 c97_r3 c97_r4 c97_r5 c97_r6 c97_r7 c97_r8 c97_r9
 replace hq:=Hid.mk hq
 repeat' (first|simp -implicitDefEqProofs only [za,aR,aW,zb,ze,Int.reduceBEq,Int.reduceBNe,Nat.reduceBEq,Int.reduceLT,Int.reduceLE, *]|with_reducible (first|apply kcd|apply kgd|apply kci|apply kgi)<;>intro hc)
 refine zb8 h _ ?_
 have bad:∀ h',h.le h' → ke l=none→Q (.tuple #[.int .i64 0,.bool false]) h':=fun h' hl e=>by have:=hq.h h' hl;rw [e] at this;exact this
 have good:∀ h' n,h.le h' → ke l=some n→Q (.tuple #[.int .i64 (n:Int),.bool true]) h':=fun h' n hl e=>by have:=hq.h h' hl;rw [e] at this;exact this
 replace bad:=Hid.mk bad
 replace good:=Hid.mk good
 clear hq
 cases hp:[48,120].isPrefixOf l with
 | true =>
  have hc:uk [48,120] l=(l.drop 2,true):=by unfold uk;rw [if_pos hp];rfl
  have hnu:ke l=match j5 16 (l.drop 2) with | none=>none | some n=>if 10 < l.length || false || !(Lib.toLowerA (l.drop 2) == l.drop 2) then none else some n:=by
   have hd:ye0 l=(l.drop 2,16):=by unfold ye0;rw [if_pos hp]
   unfold ke zj4;rw [hd];rfl
  rw [hc]
  replace hnu:=Hid.mk hnu
  obtain ⟨d,hd⟩:∃ d,l.drop 2=d:=⟨_,rfl⟩
  rw [hd] at hnu ⊢
  have hdl:d.length≤140737488355328:=by rw [← hd];simp;omega
  clear hc hp hd
  repeat' (first|simp -implicitDefEqProofs only [za,aR,aW,zb,ze,Int.reduceBEq,Int.reduceBNe,Nat.reduceBEq,Int.reduceLT,Int.reduceLE,z8,z7, *]|with_reducible (first|apply kcd|apply kgd|apply kci|apply kgi)<;>intro hc)
  refine Q8 (base:=16) (.inr rfl) hdl h _ fun h1 l1=>⟨fun n hn=>?_,fun hn x id=>?_⟩
  ·have hle:=V6 hn
   have hasc:=Hid.mk (Kq hn)
   have hw:IntKind.i64.wrap (n:Int)=n:=zu (by omega) (by omega)
   rw [hn] at hnu
   replace l1:=Hid.mk l1
   clear hn
   have e16:((16:Int) == 10)=false:=rfl
   by_cases h10:(10:Int) < l.length
   ·have g:=bad.h h1 l1.h (by rw [hnu.h];simp;omega)
    replace g:=Hid.mk g
    repeat' (first|simp -implicitDefEqProofs only [za,aR,aW,zb,ze,Int.reduceBEq,Int.reduceBNe,Nat.reduceBEq,Int.reduceLT,Int.reduceLE,z8,z7,jr,yu, *]|with_reducible (first|apply kcd|apply kgd|apply kci|apply kgi)<;>intro hc)
    exact g.h
   ·repeat' (first|simp -implicitDefEqProofs only [za,aR,aW,zb,ze,Int.reduceBEq,Int.reduceBNe,Nat.reduceBEq,Int.reduceLT,Int.reduceLE,z8,z7,jr,yu, *]|with_reducible (first|apply kcd|apply kgd|apply kci|apply kgi)<;>intro hc)
    refine Qo (by omega) hasc.h _ ?_
    cases ht:(Lib.toLowerA d == d) with
    | true =>
     have g:=good.h h1 n l1.h (by rw [hnu.h,ht];simp;omega)
     replace g:=Hid.mk g
     repeat' (first|simp -implicitDefEqProofs only [za,aR,aW,zb,ze,Int.reduceBEq,Int.reduceBNe,Nat.reduceBEq,Int.reduceLT,Int.reduceLE,z8,z7,jr,yu,zj5, *]|with_reducible (first|apply kcd|apply kgd|apply kci|apply kgi)<;>intro hc)
     exact g.h
    | false =>
     have g:=bad.h h1 l1.h (by rw [hnu.h,ht];simp)
     replace g:=Hid.mk g
     repeat' (first|simp -implicitDefEqProofs only [za,aR,aW,zb,ze,Int.reduceBEq,Int.reduceBNe,Nat.reduceBEq,Int.reduceLT,Int.reduceLE,z8,z7,jr,yu,zj5, *]|with_reducible (first|apply kcd|apply kgd|apply kci|apply kgi)<;>intro hc)
     exact g.h
  ·rw [hn] at hnu
   have g:=bad.h h1 l1 hnu.h
   replace g:=Hid.mk g
   clear hn l1
   have e16:((16:Int) == 10)=false:=rfl
   repeat' (first|simp -implicitDefEqProofs only [za,aR,aW,zb,ze,Int.reduceBEq,Int.reduceBNe,Nat.reduceBEq,Int.reduceLT,Int.reduceLE,z8,z7,Jl,yu, *]|with_reducible (first|apply kcd|apply kgd|apply kci|apply kgi)<;>intro hc)
   exact g.h
 | false =>
  have hc:uk [48,120] l=(l,false):=by unfold uk;rw [if_neg (by rw [hp];simp)]
  have hnu:ke l=match j5 10 l with | none=>none | some n=>if 10 < l.length || (decide (1 < l.length) && l.head? == some 48) || !(Lib.toLowerA l == l) then none else some n:=by
   have hd:ye0 l=(l,10):=by unfold ye0;rw [if_neg (by rw [hp];simp)]
   unfold ke zj4;rw [hd];rfl
  rw [hc]
  replace hnu:=Hid.mk hnu
  clear hc hp
  have e10:((10:Int) == 10)=true:=rfl
  repeat' (first|simp -implicitDefEqProofs only [za,aR,aW,zb,ze,Int.reduceBEq,Int.reduceBNe,Nat.reduceBEq,Int.reduceLT,Int.reduceLE,z8,z7, *]|with_reducible (first|apply kcd|apply kgd|apply kci|apply kgi)<;>intro hc)
  refine Q8 (base:=10) (.inl rfl) hl h _ fun h1 l1=>⟨fun n hn=>?_,fun hn x id=>?_⟩
  ·have hle:=V6 hn
   have hasc:=Hid.mk (Kq hn)
   have hw:IntKind.i64.wrap (n:Int)=n:=zu (by omega) (by omega)
   rw [hn] at hnu
   replace l1:=Hid.mk l1
   cases l with
   | nil=>simp [j5] at hn
   | cons b0 r =>
   obtain ⟨l,hl'⟩:∃ l,b0::r=l:=⟨_,rfl⟩
   have hb:l[0]? = some b0:=by rw [← hl'];rfl
   have hh:l.head? = some b0:=by rw [← hl'];rfl
   rw [hl'] at hnu bad good hl hasc ⊢
   rw [hh] at hnu
   have ix:=zb1 hb .i64
   rw [Int.ofNat_zero] at ix
   clear hn hl' hb hh
   have h48:(some b0 == some (48:UInt8))=((b0.toNat:Int) == 48):=by
    rw [Bool.eq_iff_iff]
    simp only [beq_iff_eq,Option.some.injEq]
    constructor
    ·rintro rfl;rfl
    ·intro e;apply UInt8.toNat_inj.1;simp;omega
   rw [h48] at hnu
   clear h48
   by_cases h1' : (1:Int) < l.length
   ·cases h48:((b0.toNat:Int) == 48) with
    | true =>
     have g:=bad.h h1 l1.h (by rw [hnu.h,h48];simp;omega)
     replace g:=Hid.mk g
     by_cases h10:(10:Int) < l.length
     ·repeat' (first|simp -implicitDefEqProofs only [za,aR,aW,zb,ze,Int.reduceBEq,Int.reduceBNe,Nat.reduceBEq,Int.reduceLT,Int.reduceLE,z8,z7,jr,yu, *]|with_reducible (first|apply kcd|apply kgd|apply kci|apply kgi)<;>intro hc)
      exact g.h
     ·repeat' (first|simp -implicitDefEqProofs only [za,aR,aW,zb,ze,Int.reduceBEq,Int.reduceBNe,Nat.reduceBEq,Int.reduceLT,Int.reduceLE,z8,z7,jr,yu, *]|with_reducible (first|apply kcd|apply kgd|apply kci|apply kgi)<;>intro hc)
      exact g.h
    | false =>
     by_cases h10:(10:Int) < l.length
     ·have g:=bad.h h1 l1.h (by rw [hnu.h];simp;omega)
      replace g:=Hid.mk g
      repeat' (first|simp -implicitDefEqProofs only [za,aR,aW,zb,ze,Int.reduceBEq,Int.reduceBNe,Nat.reduceBEq,Int.reduceLT,Int.reduceLE,z8,z7,jr,yu, *]|with_reducible (first|apply kcd|apply kgd|apply kci|apply kgi)<;>intro hc)
      exact g.h
     ·repeat' (first|simp -implicitDefEqProofs only [za,aR,aW,zb,ze,Int.reduceBEq,Int.reduceBNe,Nat.reduceBEq,Int.reduceLT,Int.reduceLE,z8,z7,jr,yu, *]|with_reducible (first|apply kcd|apply kgd|apply kci|apply kgi)<;>intro hc)
      refine Qo (by omega) hasc.h _ ?_
      cases ht:(Lib.toLowerA l == l) with
      | true =>
       have g:=good.h h1 n l1.h (by rw [hnu.h,ht,h48];simp;omega)
       replace g:=Hid.mk g
       repeat' (first|simp -implicitDefEqProofs only [za,aR,aW,zb,ze,Int.reduceBEq,Int.reduceBNe,Nat.reduceBEq,Int.reduceLT,Int.reduceLE,z8,z7,jr,yu,zj5, *]|with_reducible (first|apply kcd|apply kgd|apply kci|apply kgi)<;>intro hc)
       exact g.h
      | false =>
       have g:=bad.h h1 l1.h (by rw [hnu.h,ht];simp)
       replace g:=Hid.mk g
       repeat' (first|simp -implicitDefEqProofs only [za,aR,aW,zb,ze,Int.reduceBEq,Int.reduceBNe,Nat.reduceBEq,Int.reduceLT,Int.reduceLE,z8,z7,jr,yu,zj5, *]|with_reducible (first|apply kcd|apply kgd|apply kci|apply kgi)<;>intro hc)
       exact g.h
   ·have h10:¬ (10:Int) < l.length:=by omega
    repeat' (first|simp -implicitDefEqProofs only [za,aR,aW,zb,ze,Int.reduceBEq,Int.reduceBNe,Nat.reduceBEq,Int.reduceLT,Int.reduceLE,z8,z7,jr,yu, *]|with_reducible (first|apply kcd|apply kgd|apply kci|apply kgi)<;>intro hc)
    refine Qo (by omega) hasc.h _ ?_
    cases ht:(Lib.toLowerA l == l) with
    | true =>
     have g:=good.h h1 n l1.h (by rw [hnu.h,ht];simp;omega)
     replace g:=Hid.mk g
     repeat' (first|simp -implicitDefEqProofs only [za,aR,aW,zb,ze,Int.reduceBEq,Int.reduceBNe,Nat.reduceBEq,Int.reduceLT,Int.reduceLE,z8,z7,jr,yu,zj5, *]|with_reducible (first|apply kcd|apply kgd|apply kci|apply kgi)<;>intro hc)
     exact g.h
    | false =>
     have g:=bad.h h1 l1.h (by rw [hnu.h,ht];simp)
     replace g:=Hid.mk g
     repeat' (first|simp -implicitDefEqProofs only [za,aR,aW,zb,ze,Int.reduceBEq,Int.reduceBNe,Nat.reduceBEq,Int.reduceLT,Int.reduceLE,z8,z7,jr,yu,zj5, *]|with_reducible (first|apply kcd|apply kgd|apply kci|apply kgi)<;>intro hc)
     exact g.h
  ·rw [hn] at hnu
   have g:=bad.h h1 l1 hnu.h
   replace g:=Hid.mk g
   clear hn l1
   cases l with
   | nil =>
    have e:¬ (1:Int) < (([]:List UInt8).length:Int):=by decide
    repeat' (first|simp -implicitDefEqProofs only [za,aR,aW,zb,ze,Int.reduceBEq,Int.reduceBNe,Nat.reduceBEq,Int.reduceLT,Int.reduceLE,z8,z7,Jl,yu, *]|with_reducible (first|apply kcd|apply kgd|apply kci|apply kgi)<;>intro hc)
    exact g.h
   | cons b0 r =>
   obtain ⟨l,hl'⟩:∃ l,b0::r=l:=⟨_,rfl⟩
   have hb:l[0]? = some b0:=by rw [← hl'];rfl
   rw [hl']
   have ix:=zb1 hb .i64
   rw [Int.ofNat_zero] at ix
   clear hl' hb hnu bad good
   by_cases h1' : (1:Int) < l.length
   ·cases h48:((b0.toNat:Int) == 48)
    all_goals
     repeat' (first|simp -implicitDefEqProofs only [za,aR,aW,zb,ze,Int.reduceBEq,Int.reduceBNe,Nat.reduceBEq,Int.reduceLT,Int.reduceLE,z8,z7,Jl,yu, *]|with_reducible (first|apply kcd|apply kgd|apply kci|apply kgi)<;>intro hc)
     exact g.h
   ·repeat' (first|simp -implicitDefEqProofs only [za,aR,aW,zb,ze,Int.reduceBEq,Int.reduceBNe,Nat.reduceBEq,Int.reduceLT,Int.reduceLE,z8,z7,Jl,yu, *]|with_reducible (first|apply kcd|apply kgd|apply kci|apply kgi)<;>intro hc)
    exact g.h
end Go.Eng.Sy
namespace Go.Eng.Sy
open Go Go.Eng Go.Proofs
def Ye (l:List UInt8):Tok × Bool :=
 if wr l then (⟨2,l,0,0⟩,true) else if zk l then (⟨1,l,0,0⟩,true) else (⟨3,l,(ke l).getD 0,0⟩,(ke l).isSome)
theorem qo0 (k:Int) (l:List UInt8):yg [.int .i64 0,.string ⟨#[]⟩,.int .i64 0,.int .i64 0] [(0,1),(1,1)] [.int .i64 k,str l]=some (Tok.val ⟨k,l,0,0⟩):=by rfl
theorem build3 (k n:Int) (l:List UInt8):yg [.int .i64 0,.string ⟨#[]⟩,.int .i64 0,.int .i64 0] [(0,1),(1,1),(2,1)] [.int .i64 k,str l,.int .i64 n]=some (Tok.val ⟨k,l,n,0⟩):=by rfl
theorem one_c {l:List UInt8}(hl:l.length≤140737488355328) (h:Heap) (Q:Value→Heap→Prop) (hq:∀ h',h.le h' → Q (.tuple #[(Ye l).1.val,.bool (Ye l).2]) h'):CallW Tryz.prog 58 [str l] h Q:=by
 refine Jv (k:=1) (agg:=true) (size:=4) (j:=2) ok58 rfl rfl rfl fun N=>?_
 rw [show yj c58 [str l]=[str l,undef,undef,undef,undef] from rfl]
 delta c58 c58_r0 c58_r1 c58_r2 c58_r3 c58_r4 c58_r5 c58_r6
 replace hq:=Hid.mk hq
 obtain ⟨p,hpp⟩:∃ x,h.next=x:=⟨_,rfl⟩
 obtain ⟨h1,hh1⟩:∃ x,h.alloc (.blk [.int .i64 0,.string ⟨#[]⟩,.int .i64 0,.int .i64 0] true)=x:=⟨_,rfl⟩
 have g1:h1.get p=some (.blk [.int .i64 0,.string ⟨#[]⟩,.int .i64 0,.int .i64 0] true):=by rw [← hh1,← hpp];exact Heap.get_alloc_same _ _
 have l1:h.le h1:=by rw [← hh1];exact (Heap.le.refl _).alloc _
 -- the end: the cell is written
 have fin:∀ (h2:Heap) (t:Tok),h1.le h2→(Ye l).1=t→(zt 4 h2 [.pointer (some ⟨p,0,none⟩),t.val]=some (undef,h2.set p (.blk t.cells true)))∧(h2.set p (.blk t.cells true)).get p=some (.blk [.int .i64 t.kind,str t.text,.int .i64 t.n,.int .i64 t.line] true)∧Q (.tuple #[t.val,.bool (Ye l).2]) (h2.set p (.blk t.cells true)):=by
  intro h2 t hl2 ht
  have g2:=hl2.get g1
  refine ⟨je g2 rfl rfl rfl rfl,Heap.set_getS _ _ _ (by rw [g2];rfl),?_⟩
  rw [← ht]
  exact hq.h _ ((l1.trans hl2).set (by omega) _)
 replace fin:=Hid.mk fin
 clear hq
 repeat' (first|simp -implicitDefEqProofs only [za,aR,aW,zb,ze,Int.reduceBEq,Int.reduceBNe,Nat.reduceBEq,Int.reduceLT,Int.reduceLE, *]|with_reducible (first|apply kcd|apply kgd|apply kci|apply kgi)<;>intro hc)
 refine word_c h1 _ fun h2 l2=>?_
 cases hw:wr l with
 | true =>
  obtain ⟨f1,f2,f3⟩:=fin.h h2 ⟨2,l,0,0⟩ l2 (by simp [Ye,hw])
  rw [show (Ye l).2=true by simp [Ye,hw]] at f3
  replace f3:=Hid.mk f3
  obtain ⟨h3,hh3⟩:∃ x,h2.set p (.blk (Tok.cells ⟨2,l,0,0⟩) true)=x:=⟨_,rfl⟩
  rw [hh3] at f1 f2 f3
  replace hh3:=Hid.mk hh3
  have pt:=Zm 2 0 0 l
  clear l2 l1 g1
  repeat' (first|simp -implicitDefEqProofs only [za,aR,aW,zb,ze,Int.reduceBEq,Int.reduceBNe,Nat.reduceBEq,Int.reduceLT,Int.reduceLE,qo0,wz,xz,Qq, *]|with_reducible (first|apply kcd|apply kgd|apply kci|apply kgi)<;>intro hc)
  exact f3.h
 | false =>
 repeat' (first|simp -implicitDefEqProofs only [za,aR,aW,zb,ze,Int.reduceBEq,Int.reduceBNe,Nat.reduceBEq,Int.reduceLT,Int.reduceLE, *]|with_reducible (first|apply kcd|apply kgd|apply kci|apply kgi)<;>intro hc)
 refine ui h2 _ fun h3 l3=>?_
 replace l3:=l2.trans l3
 clear l2
 cases hn:zk l with
 | true =>
  obtain ⟨f1,f2,f3⟩:=fin.h h3 ⟨1,l,0,0⟩ l3 (by simp [Ye,hw,hn])
  rw [show (Ye l).2=true by simp [Ye,hw,hn]] at f3
  replace f3:=Hid.mk f3
  obtain ⟨h4,hh3⟩:∃ x,h3.set p (.blk (Tok.cells ⟨1,l,0,0⟩) true)=x:=⟨_,rfl⟩
  rw [hh3] at f1 f2 f3
  replace hh3:=Hid.mk hh3
  have pt:=Zm 1 0 0 l
  clear l3 l1 g1
  repeat' (first|simp -implicitDefEqProofs only [za,aR,aW,zb,ze,Int.reduceBEq,Int.reduceBNe,Nat.reduceBEq,Int.reduceLT,Int.reduceLE,qo0,wz,xz,Qq, *]|with_reducible (first|apply kcd|apply kgd|apply kci|apply kgi)<;>intro hc)
  exact f3.h
 | false =>
 repeat' (first|simp -implicitDefEqProofs only [za,aR,aW,zb,ze,Int.reduceBEq,Int.reduceBNe,Nat.reduceBEq,Int.reduceLT,Int.reduceLE, *]|with_reducible (first|apply kcd|apply kgd|apply kci|apply kgi)<;>intro hc)
 refine number_c hl h3 _ fun h4 l4=>?_
 replace l4:=l3.trans l4
 clear l3
 have o2:(Ye l).2=(ke l).isSome:=by simp [Ye,hw,hn]
 have o1:(Ye l).1=⟨3,l,(ke l).getD 0,0⟩:=by simp [Ye,hw,hn]
 obtain ⟨z,hz⟩:∃ z:Int,(((ke l).getD 0:Nat):Int)=z:=⟨_,rfl⟩
 obtain ⟨bb,hbb⟩:∃ b,(ke l).isSome=b:=⟨_,rfl⟩
 rw [hz] at o1 ⊢
 rw [hbb] at o2 ⊢
 clear hz hbb
 obtain ⟨f1,f2,f3⟩:=fin.h h4 ⟨3,l,z,0⟩ l4 o1
 rw [o2] at f3
 replace f3:=Hid.mk f3
 obtain ⟨h5,hh3⟩:∃ x,h4.set p (.blk (Tok.cells ⟨3,l,z,0⟩) true)=x:=⟨_,rfl⟩
 rw [hh3] at f1 f2 f3
 replace hh3:=Hid.mk hh3
 have pt:=Zm 3 z 0 l
 clear l4 l1 g1 o1 o2
 repeat' (first|simp -implicitDefEqProofs only [za,aR,aW,zb,ze,Int.reduceBEq,Int.reduceBNe,Nat.reduceBEq,Int.reduceLT,Int.reduceLE,build3,wz,xz,Qq,z8,z7, *]|with_reducible (first|apply kcd|apply kgd|apply kci|apply kgi)<;>intro hc)
 exact f3.h
end Go.Eng.Sy
namespace Go.Eng
open Go
theorem OwnS.but {h0 h h' : Heap}{s:Nat}{v:Value}{xs:List (List Value)}{p:Nat}(ha:OwnS h0 h s v xs) (hno:Go.Eng.notOf v p) (hb:h.leBut p h'):OwnS h0 h' s v xs :=
 ha.get fun id hv hs=>hb.get id (fun e=>hno _ _ (e ▸ hv)) hs
theorem SlV.but {h h' : Heap}{s:Nat}{v:Value}{xs:List (List Value)}{p:Nat}(ha:SlV h s v xs) (hno:∀ off n c,v ≠ .slice (some ⟨p,off,none⟩) n c) (hb:h.leBut p h'):SlV h' s v xs:=by
 rcases ha with ha | ⟨id,off,hv,ha⟩
 ·exact .inl ha
 ·refine .inr ⟨id,off,hv,ha.imp (fun e=>e) fun ⟨c,o,hg,hx⟩=>⟨c,o,?_,hx⟩⟩
  rw [hb.get id (fun e=>hno _ _ _ (e ▸ hv)) (by rw [hg];rfl)];exact hg
end Go.Eng
namespace Go.Eng.Sy
open Go Go.Eng Go.Proofs
abbrev Toks (h0 h:Heap) (v:Value) (ts:List Tok):Prop:=OwnS h0 h 4 v (ts.map Tok.cells)
theorem Yg (t:Tok):yd [.int .i64 0,.string ⟨#[]⟩,.int .i64 0,.int .i64 0] [(0,4)] 1 4 [t.val]=some (t.cells,fun id=>.slice (some ⟨id,0,none⟩) 1 4):=qq rfl rfl rfl rfl
theorem uq {h0 h:Heap}{v:Value}{ts:List Tok}(ha:Toks h0 h v ts) (hle:h0.le h) (hl:ts.length≤1000000) (t:Tok) :
  ∃ v' h',jb 4 40 (h.alloc (.blk t.cells true)) [v,.slice (some ⟨h.next,0,none⟩) 1 4]=some (v',h')∧Toks h0 h' v' (ts++[t])∧h0.le h' ∧ (∀ i,(h.get i).isSome=true→notOf v i→h'.get i=h.get i)∧(∀ i,(h.get i).isSome=true→notOf v' i)∧h.next≤h'.next:=by
 have:=OwnS.append1 ha hle (x:=t.cells) rfl (by omega) (b:=40) (by simp;omega) (by simp;omega)
 unfold Toks
 rw [List.map_append]
 exact this
theorem zz4 {g l:List UInt8}(h:g.isPrefixOf l=true):g.length≤l.length:=(List.isPrefixOf_iff_prefix.1 h).length_le
theorem zx5 {l:List UInt8}{m:Int}{p N:Nat}{h0 h:Heap}(hp:h.get p=some (.blk [str l,.int .i64 m] true)) (hp0:h0.next≤p){sv:Value}(hs:Strs h sv signsL){out:Value}{ts:List Tok}(ho:Toks h0 h out ts) (hno:notOf out p) (hle:h0.le h) (hts:ts.length≤1000000)
  {v0 v1 v2 v3 x6 x7 x8 x9 x13:Value}{Q' : AExit→List Value→Heap→Prop}
  (hQ1:signsL.find? (·.isPrefixOf l)=none → ∀ x9 x12 x13,Q' (.exit 2) [v0,v1,v2,v3,.pointer (some ⟨p,0,none⟩),out,x6,x7,x8,x9,sv,.int .i64 25,x12,x13] h)
  (hQ2:∀ g out' h' x9 x12 x13,signsL.find? (·.isPrefixOf l)=some g→Toks h0 h' out' (ts++[⟨4,g,0,m⟩])→notOf out' p→h'.get p=some (.blk [str (l.drop g.length),.int .i64 m] true)→h0.le h' →
   Q' (.exit 1) [v0,v1,v2,v3,.pointer (some ⟨p,0,none⟩),out',x6,x7,x8,x9,sv,.int .i64 25,x12,x13] h') :
  LoopW Tryz.prog N c22.vars zc5 [v0,v1,v2,v3,.pointer (some ⟨p,0,none⟩),out,x6,x7,x8,x9,sv,.int .i64 25,.int .i64 0,x13] h Q':=by
 replace hQ1:=Hid.mk hQ1
 replace hQ2:=Hid.mk hQ2
 refine LoopW.upto 25 (fun i e h1=>h1=h∧(signsL.take i).find? (·.isPrefixOf l)=none ∧ ∃ x9 x13,e=[v0,v1,v2,v3,.pointer (some ⟨p,0,none⟩),out,x6,x7,x8,x9,sv,.int .i64 25,.int .i64 i,x13]) ?_ (Nat.zero_le _) ⟨rfl,rfl,_,_,rfl⟩
 rintro i _ _ R hi ⟨rfl,hpre,x9,x13,rfl⟩ hR
 replace hpre:=Hid.mk hpre
 delta zc5 qc4 qc3 qc2 qc1 qc0
 by_cases hlt:i < 25
 case neg =>
  have hlt' : ¬ (i:Int) < 25:=by omega
  have hii:i=25:=by omega
  have g:=hQ1.h (by have:=hpre.h;rw [hii] at this;exact this) x9 (.int .i64 i) (.bool false)
  replace g:=Hid.mk g
  clear hii
  repeat' (first|simp -implicitDefEqProofs only [za,aR,aW,zb,ze,Int.reduceBEq,Int.reduceBNe,Nat.reduceBEq,Int.reduceLT,Int.reduceLE, *]|with_reducible (first|apply kcd|apply kgd|apply kci|apply kgi)<;>intro hc)
  exact g.h
 case pos =>
  have hlt' : (i:Int) < 25:=by omega
  have hwj:IntKind.i64.wrap ((i:Int) + 1)=((i + 1:Nat):Int):=by rw [zu (by omega) (by omega)];rfl
  obtain ⟨g,hg⟩:∃ g,signsL[i]? = some g:=⟨_,List.getElem?_eq_getElem (show i < signsL.length from hlt)⟩
  obtain ⟨id,off,cells,own,e1,e2,e3,_⟩:=hs.elem hg
  replace hg:=Hid.mk hg
  replace hs:=Hid.mk hs
  replace ho:=Hid.mk ho
  replace hno:=Hid.mk hno
  repeat' (first|simp -implicitDefEqProofs only [za,aR,aW,zb,ze,Int.reduceBEq,Int.reduceBNe,Nat.reduceBEq,Int.reduceLT,Int.reduceLE, *]|with_reducible (first|apply kcd|apply kgd|apply kci|apply kgi)<;>intro hc)
  refine yz _ _ ?_
  cases hpf:g.isPrefixOf l with
  | false =>
   have hnx:(signsL.take (i + 1)).find? (·.isPrefixOf l)=none:=by
    rw [List.take_add_one,hg.h,List.find?_append,hpre.h]
    simp [hpf]
   replace hnx:=Hid.mk hnx
   clear hpf
   repeat' (first|simp -implicitDefEqProofs only [za,aR,aW,zb,ze,Int.reduceBEq,Int.reduceBNe,Nat.reduceBEq,Int.reduceLT,Int.reduceLE, *]|with_reducible (first|apply kcd|apply kgd|apply kci|apply kgi)<;>intro hc)
   exact hR.h _ _ hlt ⟨rfl,hnx.h,_,_,rfl⟩
  | true =>
   have hfi:signsL.find? (·.isPrefixOf l)=some g:=by
    rw [← List.take_append_drop i signsL,List.find?_append,hpre.h]
    have:signsL.drop i=g::signsL.drop (i + 1):=by
     rw [List.drop_eq_getElem_cons (show i < signsL.length from hlt)]
     congr 1
     exact (List.getElem?_eq_some_iff.1 hg.h).2
    rw [this]
    simp [hpf]
   have hgl:=zz4 hpf
   clear hpf
   replace hfi:=Hid.mk hfi
   repeat' (first|simp -implicitDefEqProofs only [za,aR,aW,zb,ze,Int.reduceBEq,Int.reduceBNe,Nat.reduceBEq,Int.reduceLT,Int.reduceLE,qo0, *]|with_reducible (first|apply kcd|apply kgd|apply kci|apply kgi)<;>intro hc)
   refine take_c (t:=⟨4,g,0,0⟩) hgl hp _ fun h1 l1 gp1=>?_
   have ho1:=ho.h.but hno.h l1
   have hle1:=Heap.leBut.le hle hp0 l1
   obtain ⟨v',h2,a1,a2,a3,a4,a5,a6⟩:=uq ho1 hle1 hts ⟨4,g,0,m⟩
   have gp2:h2.get p=some (.blk [str (l.drop g.length),.int .i64 m] true):=by rw [a4 p (by rw [gp1];rfl) hno.h];exact gp1
   have fin:=fun x9 x12 x13=>hQ2.h g v' h2 x9 x12 x13 hfi.h a2 (a5 p (by rw [gp1];rfl)) gp2 a3
   have bt:=Yg ⟨4,g,0,m⟩
   replace fin:=Hid.mk fin
   clear a2 a3 a4 a5 a6 gp2 gp1 l1 ho1 hle1
   repeat' (first|simp -implicitDefEqProofs only [za,aR,aW,zb,ze,Int.reduceBEq,Int.reduceBNe,Nat.reduceBEq,Int.reduceLT,Int.reduceLE, *]|with_reducible (first|apply kcd|apply kgd|apply kci|apply kgi)<;>intro hc)
   exact fin.h _ _ _
end Go.Eng.Sy
namespace Go.Eng.Sy
open Go Go.Eng Go.Proofs
def qe:Nat→List UInt8→Int→List Tok × Int × Bool
 | 0,_,m=>([],m,true)
 | _ + 1,[],m=>([],m,true)
 | k + 1,b::r,m =>
  if 0 < ju (b::r) then
   if (Ye ((b::r).take (ju (b::r)))).2 then
    ({ (Ye ((b::r).take (ju (b::r)))).1 with line:=m }::(qe k (skip false ((b::r).drop (ju (b::r))) m).1 (skip false ((b::r).drop (ju (b::r))) m).2).1,
     (qe k (skip false ((b::r).drop (ju (b::r))) m).1 (skip false ((b::r).drop (ju (b::r))) m).2).2)
   else ([],m,false)
  else match signsL.find? (·.isPrefixOf (b::r)) with
   | some g=>(⟨4,g,0,m⟩::(qe k (skip false ((b::r).drop g.length) m).1 (skip false ((b::r).drop g.length) m).2).1,
     (qe k (skip false ((b::r).drop g.length) m).1 (skip false ((b::r).drop g.length) m).2).2)
   | none=>([],m,false)
def wy (l:List UInt8):List Tok × Int × Bool:=qe (l.length + 1) (skip false l 1).1 (skip false l 1).2
theorem ya4 (l:List UInt8):(Ye l).1.text=l:=by
 unfold Ye;split
 ·rfl
 ·split<;>rfl
theorem wj:∀ (c:Bool) (l:List UInt8) (n:Int),(skip c l n).2 + (skip c l n).1.length≤n + l.length
 | _,[],n=>by simp [skip]
 | true,b::r,n=>by
  unfold skip
  split
  ·have:=wj false r (n + 1);simp only [List.length_cons];omega
  ·have:=wj true r n;simp only [List.length_cons];omega
 | false,b::r,n=>by
  unfold skip
  split
  ·have:=wj false r n;simp only [List.length_cons];omega
  ·split
   ·have:=wj false r (n + 1);simp only [List.length_cons];omega
   ·split
    ·have:=wj true r n;simp only [List.length_cons];omega
    ·simp only [List.length_cons];omega
theorem Zj {g:List UInt8}{l:List UInt8}(h:signsL.find? (·.isPrefixOf l)=some g):0 < g.length∧g.length≤l.length:=by
 have h1:=List.mem_of_find?_eq_some h
 have h2:=List.find?_some h
 refine ⟨?_,zz4 h2⟩
 have:∀ g ∈ signsL,0 < g.length:=by decide
 exact this g h1
theorem Vy {p N:Nat}{h0:Heap}(hp0:h0.next≤p){v0 v1 v2 v3:Value}{Q' : AExit→List Value→Heap→Prop}:∀ (k:Nat){l:List UInt8}{m:Int}{h:Heap}{out:Value}{ts:List Tok}{x6 x7 x8 x9 x10 x11 x12 x13:Value},
  l.length < k→h.get p=some (.blk [str l,.int .i64 m] true)→Toks h0 h out ts→notOf out p→h0.le h→ts.length + l.length≤1000000→0≤m→m + l.length≤1000000 →
  (∀ out' h' x6 x7 x8 x9 x10 x11 x12 x13,(qe k l m).2.2=true→Toks h0 h' out' (ts++(qe k l m).1)→notOf out' p→h'.get p=some (.blk [str [],.int .i64 (qe k l m).2.1] true)→h0.le h' →
   Q' (.exit 0) [v0,v1,v2,v3,.pointer (some ⟨p,0,none⟩),out',x6,x7,x8,x9,x10,x11,x12,x13] h') →
  (∀ e' h',(qe k l m).2.2=false→h0.le h' → e'[1]? = some (.slice none 0 0)→e'[2]? = some (.int .i64 50)→e'[3]? = some (.int .i64 (qe k l m).2.1)→Q' .ret e' h') →
  LoopW Tryz.prog N c22.vars Jw [v0,v1,v2,v3,.pointer (some ⟨p,0,none⟩),out,x6,x7,x8,x9,x10,x11,x12,x13] h Q'
 | 0,l,m,h,out,ts,_,_,_,_,_,_,_,_,hk,_,_,_,_,_,_,_,_,_=>by omega
 | k + 1,[],m,h,out,ts,x6,x7,x8,x9,x10,x11,x12,x13,hk,hp,ho,hno,hle,hts,hm,hml,hQ1,hQ2=>by
  refine LoopW.round ?_
  have g:=hQ1 out h x6 x7 x8 x9 x10 x11 x12 x13 rfl (by simpa [qe] using ho) hno hp hle
  replace g:=Hid.mk g
  clear hQ1 hQ2
  replace ho:=Hid.mk ho
  replace hno:=Hid.mk hno
  delta Jw qb6
  repeat' (first|simp -implicitDefEqProofs only [za,aR,aW,zb,ze,Int.reduceBEq,Int.reduceBNe,Nat.reduceBEq,Int.reduceLT,Int.reduceLE,zj5, *]|with_reducible (first|apply kcd|apply kgd|apply kci|apply kgi)<;>intro hc)
  exact g.h
 | k + 1,b::r,m,h,out,ts,x6,x7,x8,x9,x10,x11,x12,x13,hk,hp,ho,hno,hle,hts,hm,hml,hQ1,hQ2=>by
  obtain ⟨l,hl⟩:∃ l,b::r=l:=⟨_,rfl⟩
  have hne:(l == [])=false:=by rw [← hl];rfl
  have hsp:qe (k + 1) l m=if 0 < ju l then
   if (Ye (l.take (ju l))).2 then
    ({ (Ye (l.take (ju l))).1 with line:=m }::(qe k (skip false (l.drop (ju l)) m).1 (skip false (l.drop (ju l)) m).2).1,
     (qe k (skip false (l.drop (ju l)) m).1 (skip false (l.drop (ju l)) m).2).2)
   else ([],m,false)
  else match signsL.find? (·.isPrefixOf l) with
   | some g=>(⟨4,g,0,m⟩::(qe k (skip false (l.drop g.length) m).1 (skip false (l.drop g.length) m).2).1,
     (qe k (skip false (l.drop g.length) m).1 (skip false (l.drop g.length) m).2).2)
   | none=>([],m,false):=by rw [← hl];rfl
  rw [hl] at hk hp hts hml hQ1 hQ2
  clear hl
  refine LoopW.round ?_
  -- behind a token: what is no token's is passed wk, and on
  have tail:∀ (t:Tok) (w:Nat) (out' : Value) (h' : Heap) (x6 x7 x8 x9 x10 x11 x12 x13:Value),0 < w→w≤l.length →
    qe (k + 1) l m=(t::(qe k (skip false (l.drop w) m).1 (skip false (l.drop w) m).2).1,(qe k (skip false (l.drop w) m).1 (skip false (l.drop w) m).2).2) →
    Toks h0 h' out' (ts++[t])→notOf out' p→h'.get p=some (.blk [str (l.drop w),.int .i64 m] true)→h0.le h' →
    CallW Tryz.prog 56 [.pointer (some ⟨p,0,none⟩)] h' fun _ h2=>LoopW Tryz.prog N c22.vars Jw [v0,v1,v2,v3,.pointer (some ⟨p,0,none⟩),out',x6,x7,x8,x9,x10,x11,x12,x13] h2 Q':=by
   intro t w out' h' x6 x7 x8 x9 x10 x11 x12 x13 hw0 hwl hs ho' hno' hp' hle'
   have hdl:(l.drop w).length=l.length - w:=by simp
   refine pass_c (by omega) ⟨hm,by omega⟩ hp' _ fun h2 l2 gp2=>?_
   have hsl:=qt false (l.drop w) m
   have hss:=wj false (l.drop w) m
   rw [hs] at hQ1 hQ2
   refine Vy hp0 k (by omega) gp2 (ho'.but hno' l2) hno' (Heap.leBut.le hle' hp0 l2) (by simp;omega) (by omega) (by omega) ?_ ?_
   ·intro out3 h3 y6 y7 y8 y9 y10 y11 y12 y13 c1 c2 c3 c4 c5
    exact hQ1 out3 h3 y6 y7 y8 y9 y10 y11 y12 y13 c1 (by simpa using c2) c3 c4 c5
   ·exact hQ2
  replace tail:=Hid.mk tail
  replace hQ1:=Hid.mk hQ1
  replace hQ2:=Hid.mk hQ2
  replace ho:=Hid.mk ho
  replace hno:=Hid.mk hno
  replace hsp:=Hid.mk hsp
  replace hle:=Hid.mk hle
  delta Jw qb6 c22_r7 c22_r8 c22_r9 qc8 qc7 qc6 qc5 qb9 qb8
  repeat' (first|simp -implicitDefEqProofs only [za,aR,aW,zb,ze,Int.reduceBEq,Int.reduceBNe,Nat.reduceBEq,Int.reduceLT,Int.reduceLE,zj5, *]|with_reducible (first|apply kcd|apply kgd|apply kci|apply kgi)<;>intro hc)
  refine run_c (by omega) h _ fun h1 l1=>?_
  have gp1:=l1.get hp
  have ho1:=Hid.mk (ho.h.mono l1)
  have hle1:=Hid.mk (hle.h.trans l1)
  by_cases hr:0 < ju l
  ·have hr' : (0:Int) < (ju l:Int):=by omega
   have hrl:=X8 l
   have ct:=zb9 hrl
   obtain ⟨t,ht⟩:∃ x,Ye (l.take (ju l))=x:=⟨_,rfl⟩
   have htx:t.1.text.length=ju l:=by rw [← ht,ya4];simp;omega
   have hsp2:=hsp.h
   rw [if_pos hr,ht] at hsp2
   replace hsp2:=Hid.mk hsp2
   repeat' (first|simp -implicitDefEqProofs only [za,aR,aW,zb,ze,Int.reduceBEq,Int.reduceBNe,Nat.reduceBEq,Int.reduceLT,Int.reduceLE, *]|with_reducible (first|apply kcd|apply kgd|apply kci|apply kgi)<;>intro hc)
   refine one_c (by simp;omega) h1 _ fun h2 l2=>?_
   rw [ht]
   obtain ⟨t,ok⟩:=t
   simp only at htx hsp2 ⊢
   have gp2:=l2.get gp1
   have ho2:=ho1.h.mono l2
   have hle2:=hle1.h.trans l2
   obtain ⟨q,hqq⟩:∃ x,h2.next=x:=⟨_,rfl⟩
   have hpq:p < q:=by rw [← hqq];exact Heap.lt_of_get gp2
   have st:=zp (h:=h2) (size:=4) (zs:=[.int .i64 0,.string ⟨#[]⟩,.int .i64 0,.int .i64 0]) (v:=t.val) rfl rfl rfl rfl
   obtain ⟨h3,hh3⟩:∃ x,h2.alloc (.blk t.cells true)=x:=⟨_,rfl⟩
   have l3:h2.le h3:=by rw [← hh3];exact (Heap.le.refl _).alloc _
   have gq3:h3.get q=some (.blk [.int .i64 t.kind,str t.text,.int .i64 t.n,.int .i64 t.line] true):=by rw [← hh3,← hqq];exact Heap.get_alloc_same _ _
   have st' : zt 4 (h2.alloc (.blk [.int .i64 0,.string ⟨#[]⟩,.int .i64 0,.int .i64 0] true)) [.pointer (some ⟨q,0,none⟩),t.val]=some (undef,h3):=by rw [← hh3,← hqq];exact st
   have gp3:=l3.get gp2
   have ho3:=Hid.mk (ho2.mono l3)
   have hle3:=Hid.mk (hle2.trans l3)
   clear st ho2 hle2 l3 l2 l1 ho1 hle1 ht
   replace hh3:=Hid.mk hh3
   cases ok with
   | false =>
    have g:=fun e' a b c=>hQ2.h e' h3 (by rw [hsp2.h];rfl) hle3.h a b c
    rw [hsp2.h] at g
    replace g:=Hid.mk g
    repeat' (first|simp -implicitDefEqProofs only [za,aR,aW,zb,ze,Int.reduceBEq,Int.reduceBNe,Nat.reduceBEq,Int.reduceLT,Int.reduceLE,z8,z7, *]|with_reducible (first|apply kcd|apply kgd|apply kci|apply kgi)<;>intro hc)
    exact g.h _ rfl rfl rfl
   | true =>
    have pt:=Zm t.kind t.n t.line t.text
    repeat' (first|simp -implicitDefEqProofs only [za,aR,aW,zb,ze,Int.reduceBEq,Int.reduceBNe,Nat.reduceBEq,Int.reduceLT,Int.reduceLE,z8,z7, *]|with_reducible (first|apply kcd|apply kgd|apply kci|apply kgi)<;>intro hc)
    refine take_c (t:=t) (by omega) gp3 _ fun h4 l4 gp4=>?_
    rw [htx] at gp4
    have ho4:=ho3.h.but hno.h l4
    have hle4:=Heap.leBut.le hle3.h hp0 l4
    obtain ⟨v',h5,a1,a2,a3,a4,a5,a6⟩:=uq ho4 hle4 (by omega) { t with line:=m }
    have gp5:h5.get p=some (.blk [str (l.drop (ju l)),.int .i64 m] true):=by rw [a4 p (by rw [gp4];rfl) hno.h];exact gp4
    have tl:=fun x6 x7 x8 x9 x10 x11 x12 x13=>tail.h { t with line:=m } (ju l) v' h5 x6 x7 x8 x9 x10 x11 x12 x13 hr hrl (by rw [hsp2.h,if_pos rfl]) a2 (a5 p (by rw [gp4];rfl)) gp5 a3
    have bt:=Yg { t with line:=m }
    replace tl:=Hid.mk tl
    clear a2 a3 a4 a5 a6 gp5 gp4 l4 ho4 hle4
    repeat' (first|simp -implicitDefEqProofs only [za,aR,aW,zb,ze,Int.reduceBEq,Int.reduceBNe,Nat.reduceBEq,Int.reduceLT,Int.reduceLE, *]|with_reducible (first|apply kcd|apply kgd|apply kci|apply kgi)<;>intro hc)
    refine (tl.h (.int .i64 (ju l)) (.pointer (some ⟨q,0,none⟩)) (.bool true) x9 x10 x11 x12 x13).mono fun _ h6 _ hL=>?_
    repeat' (first|simp -implicitDefEqProofs only [za,aR,aW,zb,ze,Int.reduceBEq,Int.reduceBNe,Nat.reduceBEq,Int.reduceLT,Int.reduceLE, *]|with_reducible (first|apply kcd|apply kgd|apply kci|apply kgi)<;>intro hc)
    exact hL
  ·have hr' : ¬ (0:Int) < (ju l:Int):=by omega
   have hsp2:=hsp.h
   rw [if_neg hr] at hsp2
   replace hsp2:=Hid.mk hsp2
   repeat' (first|simp -implicitDefEqProofs only [za,aR,aW,zb,ze,Int.reduceBEq,Int.reduceBNe,Nat.reduceBEq,Int.reduceLT,Int.reduceLE, *]|with_reducible (first|apply kcd|apply kgd|apply kci|apply kgi)<;>intro hc)
   refine signs_c h1 _ fun sv h2 hs l2=>?_
   have gp2:=l2.get gp1
   have ho2:=ho1.h.mono l2
   have hle2:=hle1.h.trans l2
   have hlen:=hs.len
   have hsl:(signsL.length:Int)=25:=rfl
   rw [hsl] at hlen
   clear hsl
   replace hs:=Hid.mk hs
   replace ho2:=Hid.mk ho2
   replace hle2:=Hid.mk hle2
   repeat' (first|simp -implicitDefEqProofs only [za,aR,aW,zb,ze,Int.reduceBEq,Int.reduceBNe,Nat.reduceBEq,Int.reduceLT,Int.reduceLE, *]|with_reducible (first|apply kcd|apply kgd|apply kci|apply kgi)<;>intro hc)
   refine zx5 gp2 hp0 hs.h ho2.h hno.h hle2.h (by omega) ?_ ?_
   ·intro hf x9 x12 x13
    have hsp3:=hsp2.h
    rw [hf] at hsp3
    simp only at hsp3
    have g:=fun e' a b c=>hQ2.h e' h2 (by rw [hsp3]) hle2.h a b c
    rw [hsp3] at g
    replace g:=Hid.mk g
    clear hsp3 hf
    repeat' (first|simp -implicitDefEqProofs only [za,aR,aW,zb,ze,Int.reduceBEq,Int.reduceBNe,Nat.reduceBEq,Int.reduceLT,Int.reduceLE, *]|with_reducible (first|apply kcd|apply kgd|apply kci|apply kgi)<;>intro hc)
    exact g.h _ rfl rfl rfl
   ·intro g out' h3 x9 x12 x13 hf c1 c2 c3 c4
    have hsp3:=hsp2.h
    rw [hf] at hsp3
    simp only at hsp3
    obtain ⟨hg0,hgl⟩:=Zj hf
    have tl:=fun x6 x7 x8 x9 x10 x11 x12 x13=>tail.h ⟨4,g,0,m⟩ g.length out' h3 x6 x7 x8 x9 x10 x11 x12 x13 hg0 hgl hsp3 c1 c2 c3 c4
    replace tl:=Hid.mk tl
    clear hsp3 hf c1 c2 c3 c4
    repeat' (first|simp -implicitDefEqProofs only [za,aR,aW,zb,ze,Int.reduceBEq,Int.reduceBNe,Nat.reduceBEq,Int.reduceLT,Int.reduceLE, *]|with_reducible (first|apply kcd|apply kgd|apply kci|apply kgi)<;>intro hc)
    refine (tl.h (.int .i64 (ju l)) x7 x8 x9 sv (.int .i64 25) x12 x13).mono fun _ h6 _ hL=>?_
    repeat' (first|simp -implicitDefEqProofs only [za,aR,aW,zb,ze,Int.reduceBEq,Int.reduceBNe,Nat.reduceBEq,Int.reduceLT,Int.reduceLE, *]|with_reducible (first|apply kcd|apply kgd|apply kci|apply kgi)<;>intro hc)
    exact hL
end Go.Eng.Sy
namespace Go.Eng.Sy
open Go Go.Eng Go.Proofs
def yd9 (m:Int):Tok:=⟨5,[],0,m⟩
def Q1 (l:List UInt8):List Tok × Int × Int :=
 if 20000 < l.length then ([],2,0) else if (wy l).2.2 then ((wy l).1++[yd9 (wy l).2.1],0,0) else ([],50,(wy l).2.1)
theorem build5 (k m:Int):yg [.int .i64 0,.string ⟨#[]⟩,.int .i64 0,.int .i64 0] [(0,1),(3,1)] [.int .i64 5,.int .i64 m]=some (Tok.val ⟨5,[],0,m⟩):=by rfl
theorem Zl:∀ (k:Nat) (l:List UInt8) (m:Int),(qe k l m).1.length≤l.length
 | 0,l,m=>by simp [qe]
 | k + 1,[],m=>by simp [qe]
 | k + 1,b::r,m=>by
  unfold qe
  split
  ·split
   ·have h1:=Zl k (skip false ((b::r).drop (ju (b::r))) m).1 (skip false ((b::r).drop (ju (b::r))) m).2
    have h2:=qt false ((b::r).drop (ju (b::r))) m
    have h3:((b::r).drop (ju (b::r))).length=(b::r).length - ju (b::r):=by simp
    have h4:=X8 (b::r)
    simp only [List.length_cons] at *
    omega
   ·simp
  ·split
   ·rename_i g hg
    have h1:=Zl k (skip false ((b::r).drop g.length) m).1 (skip false ((b::r).drop g.length) m).2
    have h2:=qt false ((b::r).drop g.length) m
    have h3:((b::r).drop g.length).length=(b::r).length - g.length:=by simp
    have h4:=Zj hg
    simp only [List.length_cons] at *
    omega
   ·simp
theorem Scan_c {l:List UInt8}{h0:Heap}(h:Heap) (hle:h0.le h) (Q:Value→Heap→Prop)
  (hq:∀ v h',Toks h0 h' v (Q1 l).1→h0.le h' → Q (.tuple #[v,.int .i64 (Q1 l).2.1,.int .i64 (Q1 l).2.2]) h'):CallW Tryz.prog 22 [str l] h Q:=by
 refine call_of3 (k:=1) (j:=2) (i:=3) ok22 rfl rfl rfl fun N=>?_
 rw [show yj c22 [str l]=[str l,undef,undef,undef,undef,undef,undef,undef,undef,undef,undef,undef,undef,undef] from rfl]
 delta c22 c22_r0 c22_r1 c22_r2 c22_r3 c22_r4 c22_r5 qb7
 replace hq:=Hid.mk hq
 by_cases hbig:20000 < l.length
 ·have hbig' : (20000:Int) < (l.length:Int):=by omega
  have g:=hq.h (.slice none 0 0) h (by unfold Q1;rw [if_pos hbig];exact .nil _ _ _) hle
  have hr:Q1 l=([],2,0):=by unfold Q1;rw [if_pos hbig]
  rw [hr] at g
  replace g:=Hid.mk g
  clear hbig
  repeat' (first|simp -implicitDefEqProofs only [za,aR,aW,zb,ze,Int.reduceBEq,Int.reduceBNe,Nat.reduceBEq,Int.reduceLT,Int.reduceLE,zh2,zh3,yu,Wb,Z8, *]|with_reducible (first|apply kcd|apply kgd|apply kci|apply kgi)<;>intro hc)
  exact g.h
 ·have hbig' : ¬ (20000:Int) < (l.length:Int):=by omega
  have hr:Q1 l=if (wy l).2.2 then ((wy l).1++[yd9 (wy l).2.1],0,0) else ([],50,(wy l).2.1):=by unfold Q1;rw [if_neg hbig]
  replace hr:=Hid.mk hr
  obtain ⟨p,hpp⟩:∃ x,h.next=x:=⟨_,rfl⟩
  have bx:Vl [.agg #[str l,.int .i64 1]]=some ([str l,.int .i64 1],fun id=>.pointer (some ⟨id,0,none⟩)):=by simp [Vl,Value.cells,Value.oneCell']
  have bl:yg [.string ⟨#[]⟩,.int .i64 0] [(0,1),(1,1)] [str l,.int .i64 1]=some (.agg #[str l,.int .i64 1]):=rfl
  obtain ⟨h1,hh1⟩:∃ x,h.alloc (.blk [str l,.int .i64 1] true)=x:=⟨_,rfl⟩
  have g1:h1.get p=some (.blk [str l,.int .i64 1] true):=by rw [← hh1,← hpp];exact Heap.get_alloc_same _ _
  have l1:h0.le h1:=by rw [← hh1];exact hle.alloc _
  have hp0:h0.next≤p:=by rw [← hpp];exact hle.next
  replace l1:=Hid.mk l1
  repeat' (first|simp -implicitDefEqProofs only [za,aR,aW,zb,ze,Int.reduceBEq,Int.reduceBNe,Nat.reduceBEq,Int.reduceLT,Int.reduceLE,zh2,zh3,yu, *]|with_reducible (first|apply kcd|apply kgd|apply kci|apply kgi)<;>intro hc)
  refine pass_c (by omega) ⟨by omega,by omega⟩ g1 _ fun h2 l2 gp2=>?_
  have hle2:=Heap.leBut.le l1.h hp0 l2
  have hsl:=qt false l 1
  have hss:=wj false l 1
  have he:wy l=qe (l.length + 1) (skip false l 1).1 (skip false l 1).2:=rfl
  obtain ⟨l2',m2,hs2⟩:∃ a b,skip false l 1=(a,b):=⟨_,_,rfl⟩
  rw [hs2] at gp2 hsl hss he
  simp only at gp2 hsl hss he
  clear hs2 l2
  replace hle2:=Hid.mk hle2
  repeat' (first|simp -implicitDefEqProofs only [za,aR,aW,zb,ze,Int.reduceBEq,Int.reduceBNe,Nat.reduceBEq,Int.reduceLT,Int.reduceLE,zh2,zh3,yu, *]|with_reducible (first|apply kcd|apply kgd|apply kci|apply kgi)<;>intro hc)
  refine Vy hp0 (l.length + 1) (by omega) gp2 (ts:=[]) (.nil h0 h2 4) (fun n s e=>by cases e) hle2.h (by simp;omega) (by omega) (by omega) ?_ ?_
  ·intro out' h3 x6 x7 x8 x9 x10 x11 x12 x13 c1 c2 c3 c4 c5
   rw [← he] at c1 c2 c4
   obtain ⟨v',h5,a1,a2,a3,a4,a5,a6⟩:=uq c2 c5 (by have:=Zl (l.length + 1) l2' m2;rw [← he] at this;simp;omega) (yd9 (wy l).2.1)
   have hr2:=hr.h
   rw [c1,if_pos rfl] at hr2
   have g:=hq.h v' h5 (by rw [hr2];simpa using a2) a3
   rw [hr2] at g
   replace g:=Hid.mk g
   have bt:=Yg (yd9 (wy l).2.1)
   obtain ⟨m3,hm3⟩:∃ x,(wy l).2.1=x:=⟨_,rfl⟩
   rw [hm3] at a1 bt c4
   have b5:=build5 0 m3
   have hen:yd9 m3=⟨5,[],0,m3⟩:=rfl
   rw [hen] at a1 bt
   clear a2 a3 a4 a5 a6 c1 c2 c3 c5 hr2 he hen
   repeat' (first|simp -implicitDefEqProofs only [za,aR,aW,zb,ze,Int.reduceBEq,Int.reduceBNe,Nat.reduceBEq,Int.reduceLT,Int.reduceLE,Wb,Z8, *]|with_reducible (first|apply kcd|apply kgd|apply kci|apply kgi)<;>intro hc)
   exact g.h
  ·intro e' h3 c1 c2 c3 c4 c5
   rw [← he] at c1 c5
   have hr2:=hr.h
   rw [c1,if_neg (by simp)] at hr2
   have g:=hq.h (.slice none 0 0) h3 (by rw [hr2];exact .nil _ _ _) c2
   rw [hr2] at g
   replace g:=Hid.mk g
   clear c1 hr2 he c2
   repeat' (first|simp -implicitDefEqProofs only [za,aR,aW,zb,ze,Int.reduceBEq,Int.reduceBNe,Nat.reduceBEq,Int.reduceLT,Int.reduceLE,Wb,Z8, *]|with_reducible (first|apply kcd|apply kgd|apply kci|apply kgi)<;>intro hc)
   exact g.h
end Go.Eng.Sy
