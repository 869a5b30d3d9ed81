/-
  Part of a proof of the laws of layer 06 (syntax): what each function does.
  Conditions: none.
-/
import Derived.Lib.SmallJoins
import Derived.Lib.Strings
import Derived.Test.YtgjipdebbflbpaaGreatDoorEc
import Derived.Test.YtgjipdebbflbpaaGreatDoorC
set_option linter.unusedSimpArgs false
set_option linter.unusedVariables false
namespace Go.Eng
open Go
theorem za2 (l:List UInt8):(ByteArray.mk l.toArray).toList=l:=by
 simp
theorem ba_eq {x:ByteArray}{l:List UInt8}(h:x.data.toList=l):x=⟨l.toArray⟩:=by
 subst h;cases x;rfl
theorem zp6 (l:List UInt8) (a b:Nat):(ByteArray.mk l.toArray).extract a b=⟨((l.drop a).take (b - a)).toArray⟩:=by
 apply ba_eq
 simp
theorem Yh (l:List UInt8):X5 [.string ⟨l.toArray⟩]=some (.int .i64 l.length):=by
 simp [X5,ByteArray.size]
theorem idx_S {l:List UInt8}{i:Nat}{b:UInt8}(h:l[i]? = some b) (k:IntKind):Ju [.string ⟨l.toArray⟩,.int k (i:Int)]=some (.int .u8 b.toNat):=by
 have hi:=(List.getElem?_eq_some_iff.1 h)
 have:(ByteArray.mk l.toArray)[i]? = some b:=by
  obtain ⟨h1,h2⟩:=hi
  have h3:i < (ByteArray.mk l.toArray).size:=by simpa [ByteArray.size] using h1
  rw [getElem?_pos (ByteArray.mk l.toArray) i h3]
  simp [ByteArray.getElem_eq_getElem_data,h2]
 simp [Ju,this]
theorem Ja (a b:List UInt8):zq3 .eql ⟨a.toArray⟩ ⟨b.toArray⟩=some (.bool (a == b)):=by
 simp [zq3,za2]
theorem zb0 (a b:List UInt8):zq3 .neq ⟨a.toArray⟩ ⟨b.toArray⟩=some (.bool !(a == b)):=by
 simp [zq3,za2]
theorem zt {a b:List UInt8}(h:(a.length + b.length:Nat)≤9223372036854775807):zq3 .add ⟨a.toArray⟩ ⟨b.toArray⟩=some (.string ⟨(a++b).toArray⟩):=by
 have:(ByteArray.mk a.toArray).size + (ByteArray.mk b.toArray).size≤9223372036854775807:=by simpa [ByteArray.size] using h
 simp only [zq3,this,if_true]
 rw [ba_eq (x:=ByteArray.mk a.toArray++ByteArray.mk b.toArray) (l:=a++b) (by simp)]
theorem zy7 {l:List UInt8}{n:Nat}(h:n≤l.length):Yw false true [.string ⟨l.toArray⟩,.int .i64 (n:Int)]=some (.string ⟨(l.take n).toArray⟩):=by
 have h2:n≤(ByteArray.mk l.toArray).size:=by simpa [ByteArray.size] using h
 simp [Yw,zb2,h2,zp6]
end Go.Eng
namespace Go.Eng.Sy
open Go Go.Eng Go.Proofs
def nmZ (z:Int):Bool:=(decide (97≤z) && decide (z≤122)) || (decide (65≤z) && decide (z≤90)) || (z == 95) || (decide (48≤z) && decide (z≤57))
def nm (b:UInt8):Bool:=nmZ b.toNat
theorem part_c (z:Int) (h:Heap) (Q:Value→Heap→Prop) (hq:Q (.bool (nmZ z)) h):CallW Tryz.prog 96 [.int .u8 z] h Q:=by
 refine zi (k:=1) ok96 rfl rfl rfl fun N=>?_
 rw [show y0 c96 [.int .u8 z]=[.int .u8 z,undef] from rfl]
 delta c96
 replace hq:=zb hq
 have go:∀ b,nmZ z=b→Q (.bool b) h:=fun b hb=>by rw [← hb];exact hq.h
 replace go:=Hid.mk go
 clear hq
 by_cases h1:97≤z<;>by_cases h2:z≤122
 ·simp only [za,zf,zg, *]
  exact go.h _ (by simp [nmZ,h1,h2])
 all_goals by_cases h3:65≤z<;>by_cases h4:z≤90
 all_goals cases h5:(z == 95)
 all_goals by_cases h6:48≤z<;>by_cases h7:z≤57
 all_goals first
  | (exfalso;omega)
  | (
    simp only [za,zf,zg, *]
    exact go.h _ (by simp only [nmZ,h1,h2,h3,h4,h5,h6,h7];rfl))
end Go.Eng.Sy
namespace Go.Eng.Sy
open Go Go.Eng Go.Proofs
theorem z6 {z:Int}(h1 : -9223372036854775808≤z) (h2:z≤9223372036854775807):IntKind.i64.wrap z=z:=by
 rw [IntKind.wrap_i64];omega
abbrev str (l:List UInt8):Value:=.string ⟨l.toArray⟩
theorem zr4 {p:UInt8→Bool}:∀ {l:List UInt8}{i:Nat}{b:UInt8},i≤(l.takeWhile p).length→l[i]? = some b→(p b=true→i + 1≤(l.takeWhile p).length)∧(p b=false→(l.takeWhile p).length=i)
 | [],i,b,h,hb=>by simp at hb
 | x::l,0,b,h,hb=>by
  simp at hb;subst hb
  constructor
  ·intro hp;simp [List.takeWhile_cons,hp]
  ·intro hp;simp [List.takeWhile_cons,hp]
 | x::l,i + 1,b,h,hb=>by
  cases hx:p x with
  | false=>simp [List.takeWhile_cons,hx] at h
  | true =>
   have:=zr4 (p:=p) (l:=l) (i:=i) (b:=b) (by simpa [List.takeWhile_cons,hx] using h) (by simpa using hb)
   constructor
   ·intro hp;have:=this.1 hp;simp [List.takeWhile_cons,hx];omega
   ·intro hp;have:=this.2 hp;simp [List.takeWhile_cons,hx];omega
def Kp (l:List UInt8):Nat:=(l.takeWhile nm).length
theorem runN_le (l:List UInt8):Kp l≤l.length:=by
 have:=(List.takeWhile_prefix (p:=nm) (l:=l)).length_le
 exact this
theorem run_c {l:List UInt8}(hl:l.length≤1000000000) (h:Heap) (Q:Value→Heap→Prop) (hq:∀ h',h.le h' → Q (.int .i64 (Kp l)) h'):CallW Tryz.prog 57 [str l] h Q:=by
 refine zi (k:=1) ok57 rfl rfl rfl fun N=>?_
 rw [show y0 c57 [str l]=[str l,undef,undef,undef,undef,undef] from rfl]
 delta c57
 replace hq:=zb hq
 simp only [za,Yh, *]
 refine LoopW.upto l.length (fun i e h1=>h.le h1∧i≤Kp l ∧ ∃ x2 x5,e=[str l,.int .i64 0,x2,.int .i64 l.length,.int .i64 i,x5]) ?_ (Nat.zero_le _) ⟨Heap.le.refl _,Nat.zero_le _,_,_,rfl⟩
 rintro i _ h1 R hi ⟨hl1,hpre,x2,x5,rfl⟩ hR
 replace hpre:=Hid.mk hpre
 delta c57_l7
 by_cases hlt:i < l.length
 case neg =>
  have hlt' : ¬ (i:Int) < l.length:=by omega
  have hii:l.length=Kp l:=by
   have:=runN_le l
   have:=hpre.h
   omega
  replace hii:=Hid.mk hii
  simp only [za,zf,zg,Yh, *]
  have:=hq.h _ hl1
  rw [← hii.h] at this
  exact this
 case pos =>
  have hlt' : (i:Int) < l.length:=by omega
  have hwj:IntKind.i64.wrap ((i:Int) + 1)=((i + 1:Nat):Int):=by rw [z6 (by omega) (by omega)];rfl
  obtain ⟨b,hb⟩:∃ b,l[i]? = some b:=⟨_,List.getElem?_eq_getElem hlt⟩
  have st:=zr4 (p:=nm) hpre.h hb
  replace st:=Hid.mk st
  have ix:=idx_S hb .i64
  simp only [za,zf,zg, *]
  refine part_c _ _ _ ?_
  cases hp:nmZ b.toNat with
  | true =>
   simp only [za,zf,zg, *]
   exact hR.h _ _ hlt ⟨hl1,st.h.1 hp,_,_,rfl⟩
  | false =>
   have:=st.h.2 hp
   simp only [za, *]
   have h2:=hq.h _ hl1
   rw [show Kp l=i from this] at h2
   exact h2
end Go.Eng.Sy
namespace Go.Eng.Sy
open Go Go.Eng Go.Proofs
def Strs (h:Heap) (v:Value) (l:List (List UInt8)):Prop:=SlV h 1 v (l.map fun s=>[str s])
theorem Strs.mono {h h' : Heap}(hl:h.le h'){v:Value}{l:List (List UInt8)}(ha:Strs h v l):Strs h' v l:=SlV.mono hl ha
theorem Strs.len {h:Heap}{v:Value}{l:List (List UInt8)}(ha:Strs h v l):Yb [v]=some (.int .i64 l.length):=by simpa using SlV.len ha
theorem Strs.elem {h:Heap}{v:Value}{l:List (List UInt8)}(ha:Strs h v l){i:Nat}{s:List UInt8}(hi:l[i]? = some s) :
  ∃ id off cells own,yx 1 [v,.int .i64 i]=some (.pointer (some ⟨id,off,none⟩))∧h.get id=some (.blk cells own)∧cells[off]? = some (str s)∧True:=by
 obtain ⟨id,off,cells,own,h1,h2,h3,h4⟩:=SlV.elem ha (i:=i) (x:=[str s]) (by simp [hi])
 exact ⟨id,off,cells,own,h1,h2,by simpa using h4 0 (by omega),trivial⟩
theorem index_c {v:Value}{l:List (List UInt8)}(hl:l.length≤1000000) (s:List UInt8){h:Heap}(hv:Strs h v l) (Q:Value→Heap→Prop)
  (hq:∀ (z:Int) h',(decide (0≤z)=l.contains s)→h.le h' → Q (.int .i64 z) h'):CallW Tryz.prog 135 [v,str s] h Q:=by
 refine zi (k:=2) ok135 rfl rfl rfl fun N=>?_
 rw [show y0 c135 [v,str s]=[v,str s,undef,undef,undef,undef,undef] from rfl]
 delta c135
 replace hq:=zb hq
 simp only [za,hv.len, *]
 refine LoopW.upto l.length (fun i e h1=>h.le h1∧(l.take i).contains s=false ∧ ∃ x2 x5,e=[v,str s,.int .i64 0,x2,.int .i64 l.length,.int .i64 i,x5]) ?_ (Nat.zero_le _) ⟨Heap.le.refl _,by simp,_,_,rfl⟩
 rintro i _ h1 R hi ⟨hl1,hpre,x2,x5,rfl⟩ hR
 replace hpre:=Hid.mk hpre
 have sv1:=hv.mono hl1
 delta yb6
 by_cases hlt:i < l.length
 case neg =>
  have hlt' : ¬ (i:Int) < l.length:=by omega
  have hii:i=l.length:=by omega
  have hno:l.contains s=false:=by
   have:=hpre.h
   rwa [hii,List.take_length] at this
  replace hno:=Hid.mk hno
  replace hii:=Hid.mk hii
  simp only [za,zf,zg, *]
  exact hq.h _ _ (by rw [hno.h];rfl) hl1
 case pos =>
  have hlt' : (i:Int) < l.length:=by omega
  have hwj:IntKind.i64.wrap ((i:Int) + 1)=((i + 1:Nat):Int):=by rw [z6 (by omega) (by omega)];rfl
  obtain ⟨b,hb⟩:∃ b,l[i]? = some b:=⟨_,List.getElem?_eq_getElem hlt⟩
  obtain ⟨id,off,cells,own,e1,e2,e3,_⟩:=sv1.elem hb
  replace hb:=Hid.mk hb
  cases hs:(s == b) with
  | true =>
   have hsb:s=b:=by simpa using hs
   have hin:l.contains s=true:=by
    rw [hsb]
    simpa using List.mem_of_getElem? hb.h
   replace hsb:=Hid.mk hsb
   replace hin:=Hid.mk hin
   simp only [za,aR,zf,zg,Ja, *]
   exact hq.h _ _ (by rw [hin.h];simp) hl1
  | false =>
   have hnx:(l.take (i + 1)).contains s=false:=by
    have h1:=hpre.h
    rw [List.take_add_one,hb.h]
    have h2:s≠b:=by simpa using hs
    simp at h1 ⊢
    exact ⟨h1,h2⟩
   replace hnx:=Hid.mk hnx
   simp only [za,aR,zf,zg,Ja, *]
   exact hR.h _ _ hlt ⟨hl1,hnx.h,_,_,rfl⟩
theorem zp2 {v:Value}{l:List (List UInt8)}(hl:l.length≤1000000) (s:List UInt8){h:Heap}(hv:Strs h v l) (Q:Value→Heap→Prop)
  (hq:∀ h',h.le h' → Q (.bool (l.contains s)) h'):CallW Tryz.prog 106 [v,str s] h Q:=by
 refine zi (k:=2) ok106 rfl rfl rfl fun N=>?_
 rw [show y0 c106 [v,str s]=[v,str s,undef] from rfl]
 delta c106
 replace hq:=zb hq
 simp only [za, *]
 refine index_c hl s hv _ fun z h1 hz hl1=>?_
 have go:∀ b,b=l.contains s→Q (.bool b) h1:=fun b hb=>by rw [hb];exact hq.h _ hl1
 replace go:=Hid.mk go
 by_cases h0:0≤z
 ·rw [decide_eq_true h0] at hz
  replace hz:=Hid.mk hz
  simp only [za,zf,zg, *]
  exact go.h _ hz.h
 ·rw [decide_eq_false h0] at hz
  replace hz:=Hid.mk hz
  simp only [za,zf,zg, *]
  exact go.h _ hz.h
end Go.Eng.Sy
namespace Go.Eng.Sy
open Go Go.Eng Go.Proofs
theorem Xl:∀ (vs done rest:List Value) (k:Nat),done.length=k→rest.length=vs.length→(∀ v ∈ vs,v.cells.toList=[v]∧v.oneCell' = true) →
  Zo (done++rest) (((List.range' k vs.length).map fun i=>(i,1)).zip vs)=some (done++vs)
 | [],done,rest,k,_,hr,_=>by
  have:rest=[]:=List.length_eq_zero_iff.1 (by simpa using hr)
  subst this;simp [Zo]
 | v::vs,done,r::rest,k,hd,hr,h1=>by
  obtain ⟨a,b⟩:=h1 v (by simp)
  have ih:=Xl vs (done++[v]) rest (k + 1) (by simp [hd]) (by simpa using hr) fun x hx=>h1 x (by simp [hx])
  simp only [List.length_cons,List.range'_succ,List.map_cons,List.zip_cons_cons,Zo,a]
  rw [if_pos ⟨rfl,by simp;omega,by simp [b]⟩]
  have e1:(done++r::rest).take k=done:=by rw [← hd];simp
  have e2:(done++r::rest).drop (k + 1)=rest:=by rw [← hd,← List.drop_drop];simp
  rw [e1,e2]
  simpa using ih
 | v::vs,done,[],k,hd,hr,h1=>by simp at hr
theorem y5 {zs vs:List Value}{parts:List (Nat × Nat)}{n:Nat}(hp:parts=(List.range' 0 vs.length).map fun i=>(i,1)) (hz:zs.length=vs.length) (hn:n=vs.length) (h1:∀ v ∈ vs,v.cells.toList=[v]∧v.oneCell' = true) :
  yi zs parts n 1 vs=some (vs,fun id=>.slice (some ⟨id,0,none⟩) n 1):=by
 have:=Xl vs [] zs 0 rfl hz h1
 subst hp
 simp only [yi,List.length_map,List.length_range',if_true]
 rw [show zs=[]++zs from rfl,this]
 rfl
theorem wp (h:Heap) (l:List (List UInt8)){n:Nat}{cells:List Value}(hn:n=l.length) (hc:cells=l.map str):Strs (h.alloc (.blk cells true)) (.slice (some ⟨h.next,0,none⟩) n 1) l:=by
 subst hn;subst hc
 refine .inr ⟨h.next,0,by simp,.inr ⟨_,_,Heap.get_alloc_same _ _,fun j x hj=>?_⟩⟩
 have hx:∀ x ∈ (l.map fun s=>[str s]),x.length=1:=by simp
 obtain ⟨h1,h2⟩:=ql hx j x hj
 have hf:(l.map fun s=>[str s]).flatten=l.map str:=by
  clear h1 h2 hx hj
  induction l with
  | nil=>rfl
  | cons a l ih=>simp [ih]
 rw [hf] at h1 h2
 exact ⟨hx x (List.mem_of_getElem? hj),by simpa using h1,by simpa using h2⟩
def wordsL:List (List UInt8):=[[104,97,114,116,115],[100,101,118,105,99,101],[117,97,114,116],[116,105,109,101,114],[103,112,105,111],[114,101,115,111,117,114,99,101],[116,97,115,107],[104,97,110,100,108,101,114],[108,111,99,107],[105,102],[101,108,115,101],[114,101,112,101,97,116],[104,97,108,116]]
theorem za1:yi [.string ⟨#[]⟩,.string ⟨#[]⟩,.string ⟨#[]⟩,.string ⟨#[]⟩,.string ⟨#[]⟩,.string ⟨#[]⟩,.string ⟨#[]⟩,.string ⟨#[]⟩,.string ⟨#[]⟩,.string ⟨#[]⟩,.string ⟨#[]⟩,.string ⟨#[]⟩,.string ⟨#[]⟩] [(0,1),(1,1),(2,1),(3,1),(4,1),(5,1),(6,1),(7,1),(8,1),(9,1),(10,1),(11,1),(12,1)] 13 1 [.string ⟨#[104,97,114,116,115]⟩,.string ⟨#[100,101,118,105,99,101]⟩,.string ⟨#[117,97,114,116]⟩,.string ⟨#[116,105,109,101,114]⟩,.string ⟨#[103,112,105,111]⟩,.string ⟨#[114,101,115,111,117,114,99,101]⟩,.string ⟨#[116,97,115,107]⟩,.string ⟨#[104,97,110,100,108,101,114]⟩,.string ⟨#[108,111,99,107]⟩,.string ⟨#[105,102]⟩,.string ⟨#[101,108,115,101]⟩,.string ⟨#[114,101,112,101,97,116]⟩,.string ⟨#[104,97,108,116]⟩]=some ([.string ⟨#[104,97,114,116,115]⟩,.string ⟨#[100,101,118,105,99,101]⟩,.string ⟨#[117,97,114,116]⟩,.string ⟨#[116,105,109,101,114]⟩,.string ⟨#[103,112,105,111]⟩,.string ⟨#[114,101,115,111,117,114,99,101]⟩,.string ⟨#[116,97,115,107]⟩,.string ⟨#[104,97,110,100,108,101,114]⟩,.string ⟨#[108,111,99,107]⟩,.string ⟨#[105,102]⟩,.string ⟨#[101,108,115,101]⟩,.string ⟨#[114,101,112,101,97,116]⟩,.string ⟨#[104,97,108,116]⟩],fun id=>.slice (some ⟨id,0,none⟩) 13 1):=y5 rfl rfl rfl (by simp [Value.cells,Value.oneCell'])
theorem words_c (h:Heap) (Q:Value→Heap→Prop) (hq:∀ v h',Strs h' v wordsL→h.le h' → Q v h'):CallW Tryz.prog 107 [] h Q:=by
 refine zi (k:=0) ok107 rfl rfl rfl fun N=>?_
 rw [show y0 c107 []=[undef] from rfl]
 delta c107
 replace hq:=zb hq
 simp only [za,za1, *]
 exact hq.h _ _ (wp h wordsL rfl rfl) ((Heap.le.refl h).alloc _)
def Zw (l:List UInt8):Bool:=wordsL.contains l
theorem word_c {l:List UInt8}(h:Heap) (Q:Value→Heap→Prop) (hq:∀ h',h.le h' → Q (.bool (Zw l)) h'):CallW Tryz.prog 71 [str l] h Q:=by
 refine zi (k:=1) ok71 rfl rfl rfl fun N=>?_
 rw [show y0 c71 [str l]=[str l,undef] from rfl]
 delta c71
 replace hq:=zb hq
 simp only [za, *]
 refine words_c h _ fun v h1 sv hl1=>?_
 simp only [za, *]
 refine zp2 (by decide) l sv _ fun h2 hl2=>?_
 have:=hq.h _ (hl1.trans hl2)
 replace this:=Hid.mk this
 simp only [za, *]
 exact this.h
end Go.Eng.Sy
namespace Go.Eng.Sy
open Go Go.Eng Go.Proofs
def zp (l:List UInt8):Bool:=match l with
 | []=>false
 | b::r=>decide ((b::r).length≤20) && (Kp (b::r) == (b::r).length) && decide (57 < (b.toNat:Int)) && !Zw (b::r)
theorem Yz {l:List UInt8}(h:Heap) (Q:Value→Heap→Prop) (hq:∀ h',h.le h' → Q (.bool (zp l)) h'):CallW Tryz.prog 35 [str l] h Q:=by
 refine zi (k:=1) ok35 rfl rfl rfl fun N=>?_
 rw [show y0 c35 [str l]=[str l,undef] from rfl]
 delta c35
 replace hq:=zb hq
 cases l with
 | nil =>
  have:zp []=false:=rfl
  simp only [za,zf,zb0, *]
  have:=hq.h h (Heap.le.refl h)
  exact this
 | cons b r =>
  obtain ⟨l,hl⟩:∃ l,b::r=l:=⟨_,rfl⟩
  have hb:l[0]? = some b:=by rw [← hl];rfl
  have ix:=idx_S hb .i64
  rw [Int.ofNat_zero] at ix
  have hne:(l == [])=false:=by rw [← hl];rfl
  have hsp:zp l=(decide (l.length≤20) && (Kp l == l.length) && decide (57 < (b.toNat:Int)) && !Zw l):=by rw [← hl];rfl
  rw [hl] at hq ⊢
  clear hl hb
  have go:∀ h' c,h.le h' → c=zp l→Q (.bool c) h':=fun h' c hl e=>by rw [e];exact hq.h _ hl
  rw [hsp] at go
  replace go:=Hid.mk go
  clear hsp hq
  by_cases h20:(l.length:Int)≤20
  ·have h20' : l.length≤20:=by omega
   simp only [za,zf,zg,zb0,Yh, *]
   refine run_c (by omega) h _ fun h1 hl1=>?_
   have hrr:(Kp l == l.length)=((Kp l:Int) == (l.length:Int)):=by
    rw [Bool.eq_iff_iff];simp only [beq_iff_eq];omega
   cases hr:((Kp l:Int) == (l.length:Int)) with
   | false =>
    have g:=go.h h1 false hl1 (by rw [hrr,hr];simp)
    replace g:=Hid.mk g
    clear hrr
    simp only [za,zf,zg,Yh, *]
    exact g.h
   | true =>
    by_cases h57:(57:Int) < (b.toNat:Int)
    ·replace hrr:=Hid.mk hrr
     simp only [za,zf,zg,Yh, *]
     refine word_c h1 _ fun h2 hl2=>?_
     have g:=go.h h2 (!Zw l) (hl1.trans hl2) (by rw [hrr.h,hr,decide_eq_true h57,decide_eq_true h20'];simp)
     replace g:=Hid.mk g
     simp only [za, *]
     exact g.h
    ·have g:=go.h h1 false hl1 (by rw [decide_eq_false h57];simp)
     replace g:=Hid.mk g
     clear hrr
     simp only [za,zf,zg,Yh, *]
     exact g.h
  ·have g:=go.h h false (Heap.le.refl h) (by rw [decide_eq_false (by omega:¬ l.length≤20)];simp)
   replace g:=Hid.mk g
   simp only [za,zf,zg,zb0,Yh, *]
   exact g.h
end Go.Eng.Sy
namespace Go.Eng.Sy
open Go Go.Eng Go.Proofs
theorem U0 {l p:List UInt8}(h:Heap) (Q:Value→Heap→Prop) (hq:Q (.bool (p.isPrefixOf l)) h):CallW Tryz.prog 98 [str l,str p] h Q:=by
 refine zi (k:=2) ok98 rfl rfl rfl fun N=>?_
 rw [show y0 c98 [str l,str p]=[str l,str p,undef] from rfl]
 delta c98
 replace hq:=zb hq
 have go:∀ b,b=p.isPrefixOf l→Q (.bool b) h:=fun b hb=>by rw [hb];exact hq.h
 replace go:=Hid.mk go
 clear hq
 by_cases hl:(p.length:Int)≤l.length
 ·have ct:=zy7 (l:=l) (n:=p.length) (by omega)
  have g:=go.h ((l.take p.length) == p) (by
   rw [Bool.eq_iff_iff,beq_iff_eq,List.isPrefixOf_iff_prefix,List.prefix_iff_eq_take]
   exact eq_comm)
  replace g:=Hid.mk g
  simp only [za,zf,zg,Yh,Ja, *]
  exact g.h
 ·have g:=go.h false (by
   cases hp:p.isPrefixOf l with
   | false=>rfl
   | true =>
    have:=(List.isPrefixOf_iff_prefix.1 hp).length_le
    omega)
  replace g:=Hid.mk g
  simp only [za,zf,zg,Yh, *]
  exact g.h
theorem vh {l p:List UInt8}(h:Heap) (Q:Value→Heap→Prop) (hq:Q (.bool (p.isPrefixOf l)) h):CallW Tryz.prog 61 [str l,str p] h Q:=by
 refine zi (k:=2) ok61 rfl rfl rfl fun N=>?_
 rw [show y0 c61 [str l,str p]=[str l,str p,undef] from rfl]
 delta c61
 replace hq:=zb hq
 simp only [za, *]
 refine U0 h _ ?_
 obtain ⟨b,hb⟩:∃ b,p.isPrefixOf l=b:=⟨_,rfl⟩
 rw [hb] at hq ⊢
 clear hb
 simp only [za, *]
 exact hq.h
end Go.Eng.Sy
namespace Go.Eng.Sy
open Go Go.Eng Go.Proofs
theorem wrap8 {z:Int}(h1:0≤z) (h2:z≤255):IntKind.u8.wrap z=z:=by
 rw [IntKind.wrap_u8];omega
def namesL:List (List UInt8):=[[120],[121],[110],[95,97],[66,50],[105,102,115],[104,97,114,116],[108,111,99,107,49],[88,95,121,95,90],[72,97,108,116]]
theorem Qt:yi [.string ⟨#[]⟩,.string ⟨#[]⟩,.string ⟨#[]⟩,.string ⟨#[]⟩,.string ⟨#[]⟩,.string ⟨#[]⟩,.string ⟨#[]⟩,.string ⟨#[]⟩,.string ⟨#[]⟩,.string ⟨#[]⟩] [(0,1),(1,1),(2,1),(3,1),(4,1),(5,1),(6,1),(7,1),(8,1),(9,1)] 10 1 [.string ⟨#[120]⟩,.string ⟨#[121]⟩,.string ⟨#[110]⟩,.string ⟨#[95,97]⟩,.string ⟨#[66,50]⟩,.string ⟨#[105,102,115]⟩,.string ⟨#[104,97,114,116]⟩,.string ⟨#[108,111,99,107,49]⟩,.string ⟨#[88,95,121,95,90]⟩,.string ⟨#[72,97,108,116]⟩]=some ([.string ⟨#[120]⟩,.string ⟨#[121]⟩,.string ⟨#[110]⟩,.string ⟨#[95,97]⟩,.string ⟨#[66,50]⟩,.string ⟨#[105,102,115]⟩,.string ⟨#[104,97,114,116]⟩,.string ⟨#[108,111,99,107,49]⟩,.string ⟨#[88,95,121,95,90]⟩,.string ⟨#[72,97,108,116]⟩],fun id=>.slice (some ⟨id,0,none⟩) 10 1):=y5 rfl rfl rfl (by simp [Value.cells,Value.oneCell'])
def namesV:List Value:=[.string ⟨#[120]⟩,.string ⟨#[121]⟩,.string ⟨#[110]⟩,.string ⟨#[95,97]⟩,.string ⟨#[66,50]⟩,.string ⟨#[105,102,115]⟩,.string ⟨#[104,97,114,116]⟩,.string ⟨#[108,111,99,107,49]⟩,.string ⟨#[88,95,121,95,90]⟩,.string ⟨#[72,97,108,116]⟩]
theorem V9 : yi [.string ⟨#[]⟩,.string ⟨#[]⟩,.string ⟨#[]⟩,.string ⟨#[]⟩,.string ⟨#[]⟩,.string ⟨#[]⟩,.string ⟨#[]⟩,.string ⟨#[]⟩,.string ⟨#[]⟩,.string ⟨#[]⟩,.string ⟨#[]⟩,.string ⟨#[]⟩,.string ⟨#[]⟩] [(0,1),(1,1),(2,1),(3,1),(4,1),(5,1),(6,1),(7,1),(8,1),(9,1),(10,1),(11,1),(12,1)] 13 1 [.string ⟨#[104,97,114,116,115]⟩,.string ⟨#[100,101,118,105,99,101]⟩,.string ⟨#[117,97,114,116]⟩,.string ⟨#[116,105,109,101,114]⟩,.string ⟨#[103,112,105,111]⟩,.string ⟨#[114,101,115,111,117,114,99,101]⟩,.string ⟨#[116,97,115,107]⟩,.string ⟨#[104,97,110,100,108,101,114]⟩,.string ⟨#[108,111,99,107]⟩,.string ⟨#[105,102]⟩,.string ⟨#[101,108,115,101]⟩,.string ⟨#[114,101,112,101,97,116]⟩,.string ⟨#[104,97,108,116]⟩]=some ([.string ⟨#[104,97,114,116,115]⟩,.string ⟨#[100,101,118,105,99,101]⟩,.string ⟨#[117,97,114,116]⟩,.string ⟨#[116,105,109,101,114]⟩,.string ⟨#[103,112,105,111]⟩,.string ⟨#[114,101,115,111,117,114,99,101]⟩,.string ⟨#[116,97,115,107]⟩,.string ⟨#[104,97,110,100,108,101,114]⟩,.string ⟨#[108,111,99,107]⟩,.string ⟨#[105,102]⟩,.string ⟨#[101,108,115,101]⟩,.string ⟨#[114,101,112,101,97,116]⟩,.string ⟨#[104,97,108,116]⟩],fun id=>.slice (some ⟨id,0,none⟩) 13 1):=y5 rfl rfl rfl (by simp [Value.cells,Value.oneCell'])
example:wordsL=[[104,97,114,116,115],[100,101,118,105,99,101],[117,97,114,116],[116,105,109,101,114],[103,112,105,111],[114,101,115,111,117,114,99,101],[116,97,115,107],[104,97,110,100,108,101,114],[108,111,99,107],[105,102],[101,108,115,101],[114,101,112,101,97,116],[104,97,108,116]]:=rfl
def pick (c n:Int):Int:=(if c < 0 then IntKind.i64.wrap (0 - IntKind.i64.wrap (c + 1)) else c).tmod n
def inI (z:Int):Prop:=-9223372036854775808≤z∧z≤9223372036854775807
theorem zn5 {c n:Int}(hc:inI c) (hn:0 < n):0≤pick c n∧pick c n < n:=by
 unfold pick inI at *
 split
 ·rw [z6 (z:=c + 1) (by omega) (by omega),z6 (by omega) (by omega)]
  exact ⟨Int.tmod_nonneg _ (by omega),Int.tmod_lt_of_pos _ hn⟩
 ·exact ⟨Int.tmod_nonneg _ (by omega),Int.tmod_lt_of_pos _ hn⟩
theorem pick_c (c n:Int) (hn:n≠0) (h:Heap) (Q:Value→Heap→Prop) (hq:Q (.int .i64 (pick c n)) h):CallW Tryz.prog 125 [.int .i64 c,.int .i64 n] h Q:=by
 refine zi (k:=2) ok125 rfl rfl rfl fun N=>?_
 rw [show y0 c125 [.int .i64 c,.int .i64 n]=[.int .i64 c,.int .i64 n,undef] from rfl]
 delta c125
 replace hq:=zb hq
 have hq1:c < 0→Q (.int .i64 ((IntKind.i64.wrap (0 - IntKind.i64.wrap (c + 1))).tmod n)) h:=fun hc=>by have:=hq.h;rwa [pick,if_pos hc] at this
 have hq2:¬ c < 0→Q (.int .i64 (c.tmod n)) h:=fun hc=>by have:=hq.h;rwa [pick,if_neg hc] at this
 replace hq1:=Hid.mk hq1
 replace hq2:=Hid.mk hq2
 repeat' (first | simp only [za,zf,zg, *] | with_reducible (first | refine kcd ?_ ?_ | refine kgd ?_ ?_ | refine kci ?_ ?_ | refine kgi ?_ ?_)<;>intro hc)
 ·exact hq1.h (by assumption)
 ·exact hq2.h (by assumption)
def Ut (c:Int) (n:Nat):Nat:=(pick c n).toNat
theorem X4 {c:Int}(hc:inI c){n:Nat}(hn:0 < n):Ut c n < n∧((Ut c n:Nat):Int)=pick c n:=by
 have:=zn5 (n:=(n:Int)) hc (by omega)
 unfold Ut;omega
def yj (n:Nat):List UInt8:=if 10≤n then yj (n / 10)++[UInt8.ofNat (48 + n % 10)] else [UInt8.ofNat (48 + n % 10)]
theorem xz:∀ (k n:Nat),n < 10 ^ (k + 1)→(yj n).length≤k + 1
 | 0,n,h=>by unfold yj;split<;>simp;omega
 | k + 1,n,h=>by
  unfold yj
  split
  ·have:=xz k (n / 10) (by rw [Nat.pow_succ] at h;omega)
   simp;omega
  ·simp
theorem zh3 (n:Nat):(IntKind.u8.wrap (48 + ((n:Int).tmod 10)))=((UInt8.ofNat (48 + n % 10)).toNat:Int):=by
 have h1:(n:Int).tmod 10=((n % 10:Nat):Int):=by
  rw [Int.tmod_eq_emod_of_nonneg (by omega)];omega
 rw [h1,wrap8 (by omega) (by omega)]
 simp
 omega
theorem za0 {h:Heap}{id:Nat}{b:UInt8}{o:Bool}(hg:h.get id=some (.blk [.int .u8 b.toNat] o)):aR .bytesStr [.slice (some ⟨id,0,none⟩) 1 1] h.get=some (str [b]):=by
 simp [aR,hg,Kf]
theorem zy6 (n:Nat):∀ (hn:n≤9223372036854775807) (h:Heap) (Q:Value→Heap→Prop),(∀ h',h.le h' → Q (str (yj n)) h')→CallW Tryz.prog 126 [.int .i64 n] h Q:=by
 induction n using Nat.strongRecOn with
 | _ n ih =>
 intro hn h Q hq
 have hb:=zh3 n
 have h48:IntKind.i64.wrap (48 + (n:Int).tmod 10)=48 + (n:Int).tmod 10:=by
  have h1:(n:Int).tmod 10=((n % 10:Nat):Int):=by
   rw [Int.tmod_eq_emod_of_nonneg (by omega)];omega
  rw [h1];exact z6 (by omega) (by omega)
 refine zi (k:=1) ok126 rfl rfl rfl fun N=>?_
 rw [show y0 c126 [.int .i64 n]=[.int .i64 n,undef,undef] from rfl]
 delta c126
 replace hq:=zb hq
 obtain ⟨q,hqq⟩:∃ x,h.next=x:=⟨_,rfl⟩
 have bs:yi [.int .u8 0] [(0,1)] 1 1 [.int .u8 ((UInt8.ofNat (48 + n % 10)).toNat:Int)]=some ([.int .u8 ((UInt8.ofNat (48 + n % 10)).toNat:Int)],fun id=>.slice (some ⟨id,0,none⟩) 1 1):=jv rfl rfl rfl rfl
 obtain ⟨h1,hh1⟩:∃ x,h.alloc (.blk [.int .u8 ((UInt8.ofNat (48 + n % 10)).toNat:Int)] true)=x:=⟨_,rfl⟩
 have g1:h1.get q=some (.blk [.int .u8 ((UInt8.ofNat (48 + n % 10)).toNat:Int)] true):=by rw [← hh1,← hqq];exact Heap.get_alloc_same _ _
 have l1:h.le h1:=by rw [← hh1];exact (Heap.le.refl _).alloc _
 have b1:=za0 g1
 have hq' : ∀ h',h1.le h' → Q (str (yj n)) h':=fun h' hl=>hq.h h' (l1.trans hl)
 replace hq':=Hid.mk hq'
 clear hq l1
 have hun:yj n=if 10≤n then yj (n / 10)++[UInt8.ofNat (48 + n % 10)] else [UInt8.ofNat (48 + n % 10)]:=by rw [yj]
 have h100:¬ (10:Int)=0:=by decide
 by_cases h10:10≤n
 ·have h10' : (10:Int)≤(n:Int):=by omega
  rw [if_pos h10] at hun
  have hdv:IntKind.i64.wrap ((n:Int).tdiv 10)=((n / 10:Nat):Int):=by
   rw [Int.tdiv_eq_ediv_of_nonneg (by omega),z6 (by omega) (by omega)];omega
  replace ih:=Hid.mk ih
  replace hun:=Hid.mk hun
  simp only [za,zf,zg, *]
  refine ih.h (n / 10) (by omega) (by omega) h1 _ fun h2 l2=>?_
  have hlen:=xz 18 (n / 10) (by omega)
  have ct:=zt (a:=yj (n / 10)) (b:=[UInt8.ofNat (48 + n % 10)]) (by simp;omega)
  have g:=hq'.h h2 l2
  rw [hun.h] at g
  replace g:=Hid.mk g
  clear l2
  simp only [za,zf, *]
  exact g.h
 ·have h10' : ¬ (10:Int)≤(n:Int):=by omega
  rw [if_neg h10] at hun
  have g:=hq'.h h1 (Heap.le.refl _)
  rw [hun] at g
  replace g:=Hid.mk g
  clear hun ih
  simp only [za,zf,zg, *]
  exact g.h
end Go.Eng.Sy
namespace Go.Eng.Sy
open Go Go.Eng Go.Proofs
abbrev Ints (h:Heap) (v:Value) (l:List Int):Prop:=SlV h 1 v (l.map fun z=>[.int .i64 z])
theorem Ints.len {h:Heap}{v:Value}{l:List Int}(hv:Ints h v l):Yb [v]=some (.int .i64 l.length):=by have:=SlV.len hv;simpa using this
theorem Ints.elem {h:Heap}{v:Value}{l:List Int}(hv:Ints h v l){i:Nat}{z:Int}(hi:l[i]? = some z) :
  ∃ id off cells own,yx 1 [v,.int .i64 i]=some (.pointer (some ⟨id,off,none⟩))∧h.get id=some (.blk cells own)∧cells[off]? = some (.int .i64 z):=by
 obtain ⟨id,off,cells,own,h1,h2,h3,h4⟩:=SlV.elem hv (i:=i) (x:=[.int .i64 z]) (by simp [hi])
 exact ⟨id,off,cells,own,h1,h2,by have:=h4 0 (by omega);rwa [Nat.add_zero] at this⟩
def varK (k:Nat):List UInt8:=if 10≤k then namesL.getD (k % 10) []++yj k else namesL.getD (k % 10) []
def varL (n:Int):List UInt8:=varK (Ut n 300)
theorem zv6:∀ j:Fin 10,(namesL.getD j.val []).length≤10:=by decide
theorem getD_some {α:Type}{l:List α}{i:Nat}(h:i < l.length) (d:α):l[i]? = some (l.getD i d):=by
 simp [List.getElem?_eq_getElem h]
theorem var_c {n:Int}(hn:inI n) (h:Heap) (Q:Value→Heap→Prop) (hq:∀ h',h.le h' → Q (str (varL n)) h'):CallW Tryz.prog 99 [.int .i64 n] h Q:=by
 obtain ⟨hlt,hpk⟩:=X4 hn (n:=300) (by omega)
 have hvl:varL n=varK (Ut n 300):=rfl
 rw [hvl] at hq
 clear hvl
 obtain ⟨k,hk⟩:∃ k,Ut n 300=k:=⟨_,rfl⟩
 rw [hk] at hlt hpk hq
 have hk10:(k:Int).tmod 10=((k % 10:Nat):Int):=by
  rw [Int.tmod_eq_emod_of_nonneg (by omega)];omega
 refine zi (k:=1) ok99 rfl rfl rfl fun N=>?_
 rw [show y0 c99 [.int .i64 n]=[.int .i64 n,undef,undef,undef] from rfl]
 delta c99
 replace hq:=zb hq
 simp only [za, *]
 refine pick_c _ 300 (by decide) h _ ?_
 have hpk' : pick n 300=(k:Int):=hpk.symm
 rw [hpk']
 clear hpk hpk' hk
 have sv:=wp h namesL (n:=10) (cells:=namesV) rfl rfl
 obtain ⟨q,hqq⟩:∃ x,h.next=x:=⟨_,rfl⟩
 obtain ⟨h1,hh1⟩:∃ x,h.alloc (.blk namesV true)=x:=⟨_,rfl⟩
 have l1:h.le h1:=by rw [← hh1];exact (Heap.le.refl _).alloc _
 rw [hqq,hh1] at sv
 have hj:k % 10 < 10:=Nat.mod_lt _ (by omega)
 have gx:=getD_some (l:=namesL) (i:=k % 10) hj []
 have nl:=zv6 ⟨k % 10,hj⟩
 obtain ⟨id,off,cells,own,e1,e2,e3,_⟩:=sv.elem gx
 have hun:varK k=if 10≤k then namesL.getD (k % 10) []++yj k else namesL.getD (k % 10) []:=rfl
 simp only at nl
 obtain ⟨x,hx⟩:∃ x,namesL.getD (k % 10) []=x:=⟨_,rfl⟩
 rw [hx] at hun nl e3
 clear gx sv hx
 replace hun:=Hid.mk hun
 have h100:¬ (10:Int)=0:=by decide
 have hh1' : h.alloc (.blk [.string ⟨#[120]⟩,.string ⟨#[121]⟩,.string ⟨#[110]⟩,.string ⟨#[95,97]⟩,.string ⟨#[66,50]⟩,.string ⟨#[105,102,115]⟩,.string ⟨#[104,97,114,116]⟩,.string ⟨#[108,111,99,107,49]⟩,.string ⟨#[88,95,121,95,90]⟩,.string ⟨#[72,97,108,116]⟩] true)=h1:=hh1
 clear hh1
 by_cases h10:10≤k
 ·have h10' : (10:Int)≤(k:Int):=by omega
  have hlen:=xz 18 k (by omega)
  have ct:=zt (a:=x) (b:=yj k) (by omega)
  simp only [za,aR,zf,zg,Qt, *]
  refine zy6 k (by omega) h1 _ fun h2 l2=>?_
  have g:=hq.h h2 (l1.trans l2)
  rw [hun.h,if_pos h10] at g
  replace g:=Hid.mk g
  clear l2
  simp only [za,zf, *]
  exact g.h
 ·have h10' : ¬ (10:Int)≤(k:Int):=by omega
  have g:=hq.h h1 l1
  rw [hun.h,if_neg h10] at g
  replace g:=Hid.mk g
  clear l1
  simp only [za,aR,zf,zg,Qt, *]
  exact g.h
end Go.Eng.Sy
namespace Go.Eng.Sy
open Go Go.Eng Go.Proofs
theorem zw9 {slots:List Slot}{i n c:Nat}{isNil:Bool}{s:Slot}(hs:slots[i]? = some s){xs:List (List Value)}(hn:xs.length=n) (hx:∀ x ∈ xs,x.length=c) (hnil:isNil=true→n=0)
  (hblk:isNil=false → ∃ loc,s=some (.blk xs.flatten false,loc)):SlV (Zy slots) c (Ya i n c isNil) xs:=by
 subst hn
 cases isNil with
 | true=>exact .inl ⟨rfl,List.length_eq_zero_iff.1 (hnil rfl)⟩
 | false =>
  obtain ⟨loc,rfl⟩:=hblk rfl
  refine .inr ⟨i,0,rfl,.inr ⟨_,_,by simp only [Zy,hs];rfl,fun j x hj=>?_⟩⟩
  obtain ⟨h1,h2⟩:=ql hx j x hj
  exact ⟨hx x (List.mem_of_getElem? hj),by omega,by simpa using h2⟩
theorem wf_in {z:Int}(h:(Lit.int .i64 z).wf=true):inI z:=by
 simp [Lit.wf,IntKind.min,IntKind.max,IntKind.signed,IntKind.bits] at h
 exact ⟨by omega,by omega⟩
theorem zx7 (l:List Int):(l.map fun z=>[Value.int .i64 z]).flatten=l.map (.int .i64):=by
 induction l with
 | nil=>rfl
 | cons a l ih=>simp [ih]
theorem zc4 {slots:List Slot}{i n:Nat}{isNil:Bool}{s:Slot}(hs:slots[i]? = some s){l:List Int}(hl:l.length=n * 1) (hnil:isNil=true→n=0)
  (hblk:isNil=false → ∃ loc,s=some (.blk (l.map (.int .i64)) false,loc)):Ints (Zy slots) (Ya i n 1 isNil) l:=by
 refine zw9 hs (by simp;omega) ?_ hnil (by rw [zx7];exact hblk)
 intro x hx
 obtain ⟨z,_,rfl⟩:=List.mem_map.1 hx
 rfl
end Go.Eng.Sy
namespace Go.Eng.Sy
open Go Go.Eng Go.Proofs
inductive Ex where
 | mk (kind op n:Int) (name:List UInt8) (args:List Ex)
inductive St where
 | mk (kind:Int) (name src:List UInt8) (n:Int) (args:List Ex) (thn els:List St)
def Ex.kind:Ex→Int | .mk k _ _ _ _=>k
def Ex.op:Ex→Int | .mk _ o _ _ _=>o
def Ex.n:Ex→Int | .mk _ _ n _ _=>n
def Ex.name:Ex→List UInt8 | .mk _ _ _ m _=>m
def Ex.args:Ex→List Ex | .mk _ _ _ _ a=>a
def St.kind:St→Int | .mk k _ _ _ _ _ _=>k
def St.name:St→List UInt8 | .mk _ m _ _ _ _ _=>m
def St.src:St→List UInt8 | .mk _ _ m _ _ _ _=>m
def St.n:St→Int | .mk _ _ _ n _ _ _=>n
def St.args:St→List Ex | .mk _ _ _ _ a _ _=>a
def St.thn:St→List St | .mk _ _ _ _ _ t _=>t
def St.els:St→List St | .mk _ _ _ _ _ _ e=>e
mutual
def ExC (h:Heap):Ex→List Value→Prop
 | .mk k o n m args,x=>∃ v xs,x=[.int .i64 k,.int .i64 o,.int .i64 n,str m,v]∧SlV h 5 v xs∧xs.length≤140737488355328∧ExCs h args xs
def ExCs (h:Heap):List Ex→List (List Value)→Prop
 | [],xs=>xs=[]
 | e::r,xs=>∃ x xr,xs=x::xr∧ExC h e x∧ExCs h r xr
end
mutual
def StC (h:Heap):St→List Value→Prop
 | .mk k m f n args thn els,x=>∃ v xs u ys w zs,x=[.int .i64 k,str m,str f,.int .i64 n,v,u,w]∧(SlV h 5 v xs∧xs.length≤140737488355328∧ExCs h args xs)∧(SlV h 7 u ys∧ys.length≤140737488355328∧StCs h thn ys)∧SlV h 7 w zs∧zs.length≤140737488355328∧StCs h els zs
def StCs (h:Heap):List St→List (List Value)→Prop
 | [],xs=>xs=[]
 | e::r,xs=>∃ x xr,xs=x::xr∧StC h e x∧StCs h r xr
end
def ExsV (h:Heap) (v:Value) (l:List Ex):Prop:=∃ xs,SlV h 5 v xs∧xs.length≤140737488355328∧ExCs h l xs
def StsV (h:Heap) (v:Value) (l:List St):Prop:=∃ xs,SlV h 7 v xs∧xs.length≤140737488355328∧StCs h l xs
mutual
theorem ExC.mono {h h' : Heap}(hl:h.le h'):∀ {e:Ex}{x:List Value},ExC h e x→ExC h' e x
 | .mk _ _ _ _ _,_,⟨v,xs,h1,h2,hb,h3⟩=>⟨v,xs,h1,h2.mono hl,hb,ExCs.mono hl h3⟩
theorem ExCs.mono {h h' : Heap}(hl:h.le h'):∀ {l:List Ex}{xs:List (List Value)},ExCs h l xs→ExCs h' l xs
 | [],_,hx=>hx
 | _::_,_,⟨x,xr,h1,h2,h3⟩=>⟨x,xr,h1,ExC.mono hl h2,ExCs.mono hl h3⟩
end
mutual
theorem StC.mono {h h' : Heap}(hl:h.le h'):∀ {e:St}{x:List Value},StC h e x→StC h' e x
 | .mk _ _ _ _ _ _ _,_,⟨v,xs,u,ys,w,zs,h1,h2,h3,h4,h5⟩=>⟨v,xs,u,ys,w,zs,h1,⟨h2.1.mono hl,h2.2.1,ExCs.mono hl h2.2.2⟩,⟨h3.1.mono hl,h3.2.1,StCs.mono hl h3.2.2⟩,h4.mono hl,h5.1,StCs.mono hl h5.2⟩
theorem StCs.mono {h h' : Heap}(hl:h.le h'):∀ {l:List St}{xs:List (List Value)},StCs h l xs→StCs h' l xs
 | [],_,hx=>hx
 | _::_,_,⟨x,xr,h1,h2,h3⟩=>⟨x,xr,h1,StC.mono hl h2,StCs.mono hl h3⟩
end
theorem ExsV.mono {h h' : Heap}(hl:h.le h'){v:Value}{l:List Ex}(hv:ExsV h v l):ExsV h' v l:=let ⟨xs,a,c,b⟩:=hv;⟨xs,a.mono hl,c,b.mono hl⟩
theorem StsV.mono {h h' : Heap}(hl:h.le h'){v:Value}{l:List St}(hv:StsV h v l):StsV h' v l:=let ⟨xs,a,c,b⟩:=hv;⟨xs,a.mono hl,c,b.mono hl⟩
theorem ExCs.length {h:Heap}:∀ {l:List Ex}{xs:List (List Value)},ExCs h l xs→xs.length=l.length
 | [],_,hx=>by rw [show _=[] from hx];rfl
 | _::_,_,⟨x,xr,h1,h2,h3⟩=>by rw [h1];simp [ExCs.length h3]
theorem StCs.length {h:Heap}:∀ {l:List St}{xs:List (List Value)},StCs h l xs→xs.length=l.length
 | [],_,hx=>by rw [show _=[] from hx];rfl
 | _::_,_,⟨x,xr,h1,h2,h3⟩=>by rw [h1];simp [StCs.length h3]
theorem ExCs.get {h:Heap}:∀ {l:List Ex}{xs:List (List Value)},ExCs h l xs → ∀ (i:Nat) e,l[i]? = some e → ∃ x,xs[i]? = some x∧ExC h e x
 | [],_,_,i,e,hi=>by simp at hi
 | a::r,_,⟨x,xr,h1,h2,h3⟩,0,e,hi=>by simp at hi;subst hi;exact ⟨x,by rw [h1];rfl,h2⟩
 | a::r,_,⟨x,xr,h1,h2,h3⟩,i + 1,e,hi=>by
  obtain ⟨y,h4,h5⟩:=ExCs.get h3 i e (by simpa using hi)
  exact ⟨y,by rw [h1];simpa using h4,h5⟩
theorem StCs.get {h:Heap}:∀ {l:List St}{xs:List (List Value)},StCs h l xs → ∀ (i:Nat) e,l[i]? = some e → ∃ x,xs[i]? = some x∧StC h e x
 | [],_,_,i,e,hi=>by simp at hi
 | a::r,_,⟨x,xr,h1,h2,h3⟩,0,e,hi=>by simp at hi;subst hi;exact ⟨x,by rw [h1];rfl,h2⟩
 | a::r,_,⟨x,xr,h1,h2,h3⟩,i + 1,e,hi=>by
  obtain ⟨y,h4,h5⟩:=StCs.get h3 i e (by simpa using hi)
  exact ⟨y,by rw [h1];simpa using h4,h5⟩
theorem ExC.cells {h:Heap}{e:Ex}{x:List Value}(hx:ExC h e x):∃ v,x=[.int .i64 e.kind,.int .i64 e.op,.int .i64 e.n,str e.name,v]∧ExsV h v e.args:=by
 cases e;obtain ⟨v,xs,h1,h2,h3⟩:=hx;exact ⟨v,h1,xs,h2,h3⟩
theorem StC.cells {h:Heap}{e:St}{x:List Value}(hx:StC h e x):∃ v u w,x=[.int .i64 e.kind,str e.name,str e.src,.int .i64 e.n,v,u,w]∧ExsV h v e.args∧StsV h u e.thn∧StsV h w e.els:=by
 cases e;obtain ⟨v,xs,u,ys,w,zs,h1,h2,h3,h4⟩:=hx;exact ⟨v,u,w,h1,⟨xs,h2⟩,⟨ys,h3⟩,⟨zs,h4⟩⟩
theorem ExC.of {h:Heap}{k o n:Int}{m:List UInt8}{v:Value}{l:List Ex}(hv:ExsV h v l):ExC h (.mk k o n m l) [.int .i64 k,.int .i64 o,.int .i64 n,str m,v]:=let ⟨xs,a,b⟩:=hv;⟨v,xs,rfl,a,b⟩
theorem StC.of {h:Heap}{k n:Int}{m f:List UInt8}{v u w:Value}{l:List Ex}{a b:List St}(hv:ExsV h v l) (hu:StsV h u a) (hw:StsV h w b):StC h (.mk k m f n l a b) [.int .i64 k,str m,str f,.int .i64 n,v,u,w] :=
 let ⟨xs,a1,b1⟩:=hv;let ⟨ys,a2,b2⟩:=hu;let ⟨zs,a3,b3⟩:=hw;⟨v,xs,u,ys,w,zs,rfl,⟨a1,b1⟩,⟨a2,b2⟩,a3,b3⟩
theorem ExsV.nil (h:Heap):ExsV h (.slice none 0 0) []:=⟨[],.inl ⟨rfl,rfl⟩,by simp,rfl⟩
theorem StsV.nil (h:Heap):StsV h (.slice none 0 0) []:=⟨[],.inl ⟨rfl,rfl⟩,by simp,rfl⟩
theorem ExsV.len {h:Heap}{v:Value}{l:List Ex}(hv:ExsV h v l):Yb [v]=some (.int .i64 l.length):=by
 obtain ⟨xs,a,c,b⟩:=hv;rw [a.len,b.length]
theorem StsV.len {h:Heap}{v:Value}{l:List St}(hv:StsV h v l):Yb [v]=some (.int .i64 l.length):=by
 obtain ⟨xs,a,c,b⟩:=hv;rw [a.len,b.length]
theorem ExsV.le {h:Heap}{v:Value}{l:List Ex}(hv:ExsV h v l):l.length≤140737488355328:=by
 obtain ⟨xs,a,c,b⟩:=hv;rw [← b.length];exact c
theorem StsV.le {h:Heap}{v:Value}{l:List St}(hv:StsV h v l):l.length≤140737488355328:=by
 obtain ⟨xs,a,c,b⟩:=hv;rw [← b.length];exact c
theorem ExsV.elem {h:Heap}{v:Value}{l:List Ex}(hv:ExsV h v l){i:Nat}{e:Ex}(hi:l[i]? = some e) :
  ∃ id off cells own x,yx 5 [v,.int .i64 i]=some (.pointer (some ⟨id,off,none⟩))∧h.get id=some (.blk cells own)∧qk true off 5 cells=some (.agg x.toArray)∧ExC h e x ∧ ∀ j,j < 5→cells[off + j]? = x[j]?:=by
 obtain ⟨xs,a,c,b⟩:=hv
 obtain ⟨x,h1,h2⟩:=b.get i e hi
 obtain ⟨id,off,cells,own,g1,g2,g3,g4⟩:=a.elem h1
 exact ⟨id,off,cells,own,x,g1,g2,g3,h2,g4⟩
theorem StsV.elem {h:Heap}{v:Value}{l:List St}(hv:StsV h v l){i:Nat}{e:St}(hi:l[i]? = some e) :
  ∃ id off cells own x,yx 7 [v,.int .i64 i]=some (.pointer (some ⟨id,off,none⟩))∧h.get id=some (.blk cells own)∧qk true off 7 cells=some (.agg x.toArray)∧StC h e x ∧ ∀ j,j < 7→cells[off + j]? = x[j]?:=by
 obtain ⟨xs,a,c,b⟩:=hv
 obtain ⟨x,h1,h2⟩:=b.get i e hi
 obtain ⟨id,off,cells,own,g1,g2,g3,g4⟩:=a.elem h1
 exact ⟨id,off,cells,own,x,g1,g2,g3,h2,g4⟩
def z7 (op:Int):Nat :=
 if op=7 then 1 else if op=8 then 2 else if op=6 then 3 else if op=13∨op=14 then 4 else if op=11∨op=12 then 5 else if op=9∨op=10 then 6 else if op=1∨op=2 then 7 else if op=3∨op=4∨op=5 then 8 else 0
end Go.Eng.Sy
namespace Go.Eng.Sy
open Go Go.Eng Go.Proofs
theorem wI (n:Nat) (hn:n < 9223372036854775807):IntKind.i64.wrap ((n:Int) + 1)=((n + 1:Nat):Int):=by rw [z6 (by omega) (by omega)];rfl
theorem w1:IntKind.i64.wrap (0 + 1)=1:=wI 0 (by omega)
theorem w2:IntKind.i64.wrap (1 + 1)=2:=wI 1 (by omega)
theorem w3:IntKind.i64.wrap (2 + 1)=3:=wI 2 (by omega)
theorem w4:IntKind.i64.wrap (3 + 1)=4:=wI 3 (by omega)
theorem w5:IntKind.i64.wrap (4 + 1)=5:=wI 4 (by omega)
theorem w6:IntKind.i64.wrap (5 + 1)=6:=wI 5 (by omega)
theorem w7:IntKind.i64.wrap (6 + 1)=7:=wI 6 (by omega)
theorem w8:IntKind.i64.wrap (7 + 1)=8:=wI 7 (by omega)
set_option maxHeartbeats 2000000 in
theorem J1 (op:Int) (h:Heap) (Q:Value→Heap→Prop) (hq:Q (.int .i64 (z7 op)) h):CallW Tryz.prog 89 [.int .i64 op] h Q:=by
 refine zi (k:=1) ok89 rfl rfl rfl fun N=>?_
 rw [show y0 c89 [.int .i64 op]=[.int .i64 op,undef,undef,undef,undef,undef,undef,undef] from rfl]
 delta c89
 replace hq:=zb hq
 by_cases hc:1≤op∧op≤14
 ·have hc:op=1∨op=2∨op=3∨op=4∨op=5∨op=6∨op=7∨op=8∨op=9∨op=10∨op=11∨op=12∨op=13∨op=14:=by omega
  rcases hc with rfl | rfl | rfl | rfl | rfl | rfl | rfl | rfl | rfl | rfl | rfl | rfl | rfl | rfl
  all_goals
   have g:=hq.h
   clear hq
   simp [z7] at g
   replace g:=Hid.mk g
   simp only [za,zf,zg,Int.reduceBEq,Nat.reduceBEq,w1,w2,w3,w4,w5,w6,w7,w8, *]
   exact g.h
 ·have g:=hq.h
  clear hq
  have e0:z7 op=0:=by unfold z7;(repeat' split)<;>first | rfl | omega
  rw [e0] at g
  replace g:=Hid.mk g
  have n1:(op == 1)=false:=by simp;omega
  have n2:(op == 2)=false:=by simp;omega
  have n3:(op == 3)=false:=by simp;omega
  have n4:(op == 4)=false:=by simp;omega
  have n5:(op == 5)=false:=by simp;omega
  have n6:(op == 6)=false:=by simp;omega
  have n7:(op == 7)=false:=by simp;omega
  have n8:(op == 8)=false:=by simp;omega
  have n9:(op == 9)=false:=by simp;omega
  have n10:(op == 10)=false:=by simp;omega
  have n11:(op == 11)=false:=by simp;omega
  have n12:(op == 12)=false:=by simp;omega
  have n13:(op == 13)=false:=by simp;omega
  have n14:(op == 14)=false:=by simp;omega
  simp only [za,zf,zg,Nat.reduceBEq, *]
  exact g.h
end Go.Eng.Sy
namespace Go.Eng.Sy
open Go Go.Eng Go.Proofs
def opsL:List (List UInt8):=[[],[43],[45],[42],[47],[37],[38],[124],[94],[60,60],[62,62],[60],[60,46],[61,61],[33,61],[45],[33],[126]]
def ky (op:Int):List UInt8:=if 1≤op∧op≤17 then opsL.getD op.toNat [] else []
theorem zp5:yi [.string ⟨#[]⟩,.string ⟨#[]⟩,.string ⟨#[]⟩,.string ⟨#[]⟩,.string ⟨#[]⟩,.string ⟨#[]⟩,.string ⟨#[]⟩,.string ⟨#[]⟩,.string ⟨#[]⟩,.string ⟨#[]⟩,.string ⟨#[]⟩,.string ⟨#[]⟩,.string ⟨#[]⟩,.string ⟨#[]⟩,.string ⟨#[]⟩,.string ⟨#[]⟩,.string ⟨#[]⟩,.string ⟨#[]⟩] [(1,1),(2,1),(3,1),(4,1),(5,1),(6,1),(7,1),(8,1),(9,1),(10,1),(11,1),(12,1),(13,1),(14,1),(15,1),(16,1),(17,1)] 18 1 [.string ⟨#[43]⟩,.string ⟨#[45]⟩,.string ⟨#[42]⟩,.string ⟨#[47]⟩,.string ⟨#[37]⟩,.string ⟨#[38]⟩,.string ⟨#[124]⟩,.string ⟨#[94]⟩,.string ⟨#[60,60]⟩,.string ⟨#[62,62]⟩,.string ⟨#[60]⟩,.string ⟨#[60,46]⟩,.string ⟨#[61,61]⟩,.string ⟨#[33,61]⟩,.string ⟨#[45]⟩,.string ⟨#[33]⟩,.string ⟨#[126]⟩]=some ([.string ⟨#[]⟩,.string ⟨#[43]⟩,.string ⟨#[45]⟩,.string ⟨#[42]⟩,.string ⟨#[47]⟩,.string ⟨#[37]⟩,.string ⟨#[38]⟩,.string ⟨#[124]⟩,.string ⟨#[94]⟩,.string ⟨#[60,60]⟩,.string ⟨#[62,62]⟩,.string ⟨#[60]⟩,.string ⟨#[60,46]⟩,.string ⟨#[61,61]⟩,.string ⟨#[33,61]⟩,.string ⟨#[45]⟩,.string ⟨#[33]⟩,.string ⟨#[126]⟩],fun id=>.slice (some ⟨id,0,none⟩) 18 1):=rfl
theorem ops_c (h:Heap) (Q:Value→Heap→Prop) (hq:∀ v h',Strs h' v opsL→h.le h' → Q v h'):CallW Tryz.prog 115 [] h Q:=by
 refine zi (k:=0) ok115 rfl rfl rfl fun N=>?_
 rw [show y0 c115 []=[undef] from rfl]
 delta c115
 replace hq:=zb hq
 simp only [za,zp5, *]
 exact hq.h _ _ (wp h opsL rfl rfl) ((Heap.le.refl h).alloc _)
theorem sign_c (op:Int) (h:Heap) (Q:Value→Heap→Prop) (hq:∀ h',h.le h' → Q (.tuple #[str (ky op),.bool (decide (1≤op∧op≤17))]) h'):CallW Tryz.prog 87 [.int .i64 op] h Q:=by
 refine wc (k:=1) (j:=2) ok87 rfl rfl rfl fun N=>?_
 rw [show y0 c87 [.int .i64 op]=[.int .i64 op,undef,undef,undef] from rfl]
 delta c87
 replace hq:=zb hq
 simp only [za, *]
 refine ops_c h _ fun v h1 sv hl1=>?_
 have ln:=sv.len
 have e18:(opsL.length:Int)=18:=rfl
 rw [e18] at ln
 by_cases hop:1≤op∧op≤17
 ·obtain ⟨n,rfl⟩:∃ n:Nat,op=n:=⟨op.toNat,by omega⟩
  have gx:=getD_some (l:=opsL) (i:=n) (by show n < 18;omega) []
  obtain ⟨id,off,cells,own,e1,e2,e3,_⟩:=sv.elem gx
  have g:=hq.h h1 hl1
  have es:ky (n:Int)=opsL.getD n []:=by unfold ky;rw [if_pos hop];rfl
  rw [es,decide_eq_true hop] at g
  replace g:=Hid.mk g
  have n1:¬ (n:Int) < 1:=by omega
  have n2:¬ (18:Int)≤(n:Int):=by omega
  clear gx sv hl1 hop
  simp only [za,aR,zf,zg, *]
  exact g.h
 ·have g:=hq.h h1 hl1
  have es:ky op=[]:=by unfold ky;rw [if_neg hop]
  rw [es,decide_eq_false hop] at g
  replace g:=Hid.mk g
  clear sv hl1
  by_cases n1:op < 1
  ·simp only [za,zf,zg, *]
   exact g.h
  ·have n2:18≤op:=by omega
   simp only [za,zf,zg, *]
   exact g.h
end Go.Eng.Sy
namespace Go.Eng.Sy
open Go Go.Eng Go.Proofs
theorem SlV.one {h:Heap}{s:Nat}{v:Value}{xs:List (List Value)}(hv:SlV h s v xs):v.oneCell' = true:=by
 rcases hv with ⟨rfl,_⟩ | ⟨id,off,rfl,_⟩<;>rfl
theorem ExsV.one {h:Heap}{v:Value}{l:List Ex}(hv:ExsV h v l):v.oneCell' = true:=hv.elim fun _ a=>SlV.one a.1
theorem StsV.one {h:Heap}{v:Value}{l:List St}(hv:StsV h v l):v.oneCell' = true:=hv.elim fun _ a=>SlV.one a.1
abbrev exV (k o n:Int) (m:List UInt8) (v:Value):Value:=.agg #[.int .i64 k,.int .i64 o,.int .i64 n,str m,v]
abbrev stV (k:Int) (m f:List UInt8) (n:Int) (v u w:Value):Value:=.agg #[.int .i64 k,str m,str f,.int .i64 n,v,u,w]
theorem vo {k o n:Int}{m:List UInt8}{v:Value}(hv:v.oneCell' = true):ze6 [exV k o n m v]=some ([.int .i64 k,.int .i64 o,.int .i64 n,str m,v],fun id=>.pointer (some ⟨id,0,none⟩)):=by
 simpa [ze6,Value.cells,Value.oneCell'] using hv
theorem Qu {k n:Int}{m f:List UInt8}{v u w:Value}(hv:v.oneCell' = true) (hu:u.oneCell' = true) (hw:w.oneCell' = true) :
  ze6 [stV k m f n v u w]=some ([.int .i64 k,str m,str f,.int .i64 n,v,u,w],fun id=>.pointer (some ⟨id,0,none⟩)):=by
 simpa [ze6,Value.cells,Value.oneCell'] using ⟨hv,hu,hw⟩
theorem ExC.val {h:Heap}{e:Ex}{x:List Value}(hx:ExC h e x):∃ v,Value.agg x.toArray=exV e.kind e.op e.n e.name v∧ExsV h v e.args:=by
 obtain ⟨v,rfl,hv⟩:=hx.cells;exact ⟨v,rfl,hv⟩
theorem StC.val {h:Heap}{e:St}{x:List Value}(hx:StC h e x):∃ v u w,Value.agg x.toArray=stV e.kind e.name e.src e.n v u w∧ExsV h v e.args∧StsV h u e.thn∧StsV h w e.els:=by
 obtain ⟨v,u,w,rfl,hv⟩:=hx.cells;exact ⟨v,u,w,rfl,hv⟩
def Yc (k o n:Int) (m:List UInt8) (k' o' n' : Int) (m' : List UInt8):Bool:=k == k' && o == o' && n == n' && m == m'
theorem wv {k o n k' o' n' : Int}{m m' : List UInt8}{v v' : Value}(hv:v.oneCell' = true) (hv' : v'.oneCell' = true) (h:Heap) (Q:Value→Heap→Prop) (hq:∀ h',h.le h' → Q (.bool (Yc k o n m k' o' n' m')) h') :
  CallW Tryz.prog 114 [exV k o n m v,exV k' o' n' m' v'] h Q:=by
 have b1:=vo (k:=k) (o:=o) (n:=n) (m:=m) hv
 have b2:=vo (k:=k') (o:=o') (n:=n') (m:=m') hv'
 replace hq:=hq _ (((Heap.le.refl h).alloc (.blk [.int .i64 k,.int .i64 o,.int .i64 n,str m,v] true)).alloc (.blk [.int .i64 k',.int .i64 o',.int .i64 n',str m',v'] true))
 refine zi (k:=4) ok114 rfl rfl rfl fun N=>?_
 rw [show y0 c114 [exV k o n m v,exV k' o' n' m' v']=[exV k o n m v,exV k' o' n' m' v',undef,undef,undef] from rfl]
 delta c114
 replace hq:=zb hq
 unfold Yc at hq
 have es:=Ja m m'
 cases c1:k == k' <;> simp only [c1,Bool.false_and,Bool.true_and] at hq
 ·simp only [za,aR,zf,zg, *]
  exact hq.h
 cases c2:o == o' <;> simp only [c2,Bool.false_and,Bool.true_and] at hq
 ·simp only [za,aR,zf,zg, *]
  exact hq.h
 cases c3:n == n' <;> simp only [c3,Bool.false_and,Bool.true_and] at hq
 ·simp only [za,aR,zf,zg, *]
  exact hq.h
 simp only [za,aR,zf,zg, *]
 exact hq.h
end Go.Eng.Sy
namespace Go.Eng.Sy
open Go Go.Eng Go.Proofs
theorem zn (a b c d e:Value):qk true 0 5 [a,b,c,d,e]=some (.agg #[a,b,c,d,e]):=rfl
theorem jm (a b c d e f g:Value):qk true 0 7 [a,b,c,d,e,f,g]=some (.agg #[a,b,c,d,e,f,g]):=rfl
theorem Yg {h:Heap}{cells:List Value}{off:Nat}{v:Value}(ho:off < cells.length) (hv:v.cells.toList=[v]) (h1:v.oneCell' = true) :
  yh 1 (h.alloc (.blk cells true)) [.pointer (some ⟨h.next,off,none⟩),v]=some (undef,h.alloc (.blk (cells.set off v) true)):=by
 rw [zx (Heap.get_alloc_same _ _) ho hv h1,Heap.set_alloc]
theorem build_ex (k:Int):yy [.int .i64 0,.int .i64 0,.int .i64 0,.string ⟨#[]⟩,.slice none 0 0] [(0,1)] [.int .i64 k]=some (exV k 0 0 [] (.slice none 0 0)):=rfl
theorem store_ex (h:Heap) (k:Int):yh 5 (h.alloc (.blk [.int .i64 0,.int .i64 0,.int .i64 0,.string ⟨#[]⟩,.slice none 0 0] true)) [.pointer (some ⟨h.next,0,none⟩),exV k 0 0 [] (.slice none 0 0)] =
  some (undef,h.alloc (.blk [.int .i64 k,.int .i64 0,.int .i64 0,str [],.slice none 0 0] true)):=zy rfl rfl rfl rfl
def vp (k:Int):Nat:=if k=3∨k=5 then 1 else if k=4 then 2 else 0
def zu (k o n:Int) (m:List UInt8):Bool :=
 if k=1 then decide (0≤n∧n < 4294967296) && o == 0 && m == []
 else if k=2 then zp m && o == 0 && n == 0
 else if k=3 then decide (15≤o∧o≤17) && n == 0 && m == []
 else if k=4 then decide (0 < z7 o) && n == 0 && m == []
 else if k=5 then zp m && o == 0 && n == 0
 else false
theorem u32_id (n:Int):(n == IntKind.i64.wrap (IntKind.u32.wrap n))=decide (0≤n∧n < 4294967296):=by
 have h1:IntKind.u32.wrap n=n % 4294967296:=IntKind.wrap_u32 n
 have h2:0≤n % 4294967296∧n % 4294967296 < 4294967296:=⟨Int.emod_nonneg _ (by decide),Int.emod_lt_of_pos _ (by decide)⟩
 rw [h1,z6 (by omega) (by omega)]
 by_cases hc:0≤n∧n < 4294967296
 ·have:n % 4294967296=n:=Int.emod_eq_of_lt hc.1 hc.2
  simp [this,hc]
 ·have:¬ n=n % 4294967296:=by omega
  simp [this,hc]
end Go.Eng.Sy
namespace Go.Eng.Sy
open Go Go.Eng Go.Proofs
theorem Heap.al2 (h:Heap) (a b:AObj):((h.alloc a).alloc b).get h.next=some a:=by
 rw [Heap.get_alloc_lt (by simp)];exact Heap.get_alloc_same _ _
theorem Jx:(Value.slice none 0 0).oneCell' = true:=rfl
theorem st_1 (h:Heap) (a b c d e:Value) (o:Int):yh 1 (h.alloc (.blk [a,b,c,d,e] true)) [.pointer (some ⟨h.next,1,none⟩),.int .i64 o]=some (undef,h.alloc (.blk [a,.int .i64 o,c,d,e] true)):=Yg (by simp) rfl rfl
theorem st_2 (h:Heap) (a b c d e:Value) (o:Int):yh 1 (h.alloc (.blk [a,b,c,d,e] true)) [.pointer (some ⟨h.next,2,none⟩),.int .i64 o]=some (undef,h.alloc (.blk [a,b,.int .i64 o,d,e] true)):=Yg (by simp) rfl rfl
theorem st_3 (h:Heap) (a b c d e:Value) (m:List UInt8):yh 1 (h.alloc (.blk [a,b,c,d,e] true)) [.pointer (some ⟨h.next,3,none⟩),str m]=some (undef,h.alloc (.blk [a,b,c,str m,e] true)):=Yg (by simp) rfl rfl
set_option maxHeartbeats 2000000 in
theorem shape_c {k o n:Int}{m:List UInt8}{v:Value}(hv:v.oneCell' = true) (h:Heap) (Q:Value→Heap→Prop)
  (hq:∀ h',h.le h' → Q (.tuple #[.int .i64 (vp k),.bool (zu k o n m)]) h') :
  CallW Tryz.prog 86 [exV k o n m v] h Q:=by
 have b1:=vo (k:=k) (o:=o) (n:=n) (m:=m) hv
 have l2:∀ c d:AObj,h.le ((h.alloc c).alloc d):=fun c d=>((Heap.le.refl h).alloc _).alloc _
 replace l2:=Hid.mk l2
 refine wc (k:=2) (j:=3) ok86 rfl rfl rfl fun N=>?_
 rw [show y0 c86 [exV k o n m v]=[exV k o n m v,undef,undef,undef,undef,undef] from rfl]
 delta c86
 replace hq:=zb hq
 have bx:=build_ex k
 have sx:=store_ex (h.alloc (.blk [.int .i64 k,.int .i64 o,.int .i64 n,str m,v] true)) k
 by_cases k1:k=1
 ·subst k1
  have u:=u32_id n
  by_cases hN:0≤n∧n < 4294967296
  ·rw [decide_eq_true hN] at u
   have es:zu 1 o n m=Yc 1 o n m 1 0 n []:=by simp [zu,Yc,hN]
   rw [es] at hq
   clear es
   simp only [za,aR,aW,zf,zg,zn,st_2, *]
   refine wv hv Jx _ _ fun h2 hl=>?_
   have g:=hq.h h2 ((l2.h _ _).trans hl)
   replace g:=Hid.mk g
   simp only [za, *]
   exact g.h
  ·rw [decide_eq_false hN] at u
   have es:zu 1 o n m=false:=by simp [zu,hN]
   rw [es] at hq
   clear es
   simp only [za,aR,aW,zf,zg,st_2, *]
   exact hq.h _ (l2.h _ _)
 by_cases k2:k=2
 ·subst k2
  cases hN:zp m with
  | true =>
   have es:zu 2 o n m=Yc 2 o n m 2 0 0 m:=by simp [zu,Yc,hN]
   rw [es] at hq
   clear es
   simp only [za,aR,aW,zf,zg,Int.reduceBEq,st_3, *]
   refine Yz _ _ fun h2 hl=>?_
   have g1:=hl.get (Heap.al2 h (.blk [.int .i64 2,.int .i64 o,.int .i64 n,str m,v] true) (.blk [.int .i64 2,.int .i64 0,.int .i64 0,str m,.slice none 0 0] true))
   have g2:=hl.get (Heap.get_alloc_same (h.alloc (.blk [.int .i64 2,.int .i64 o,.int .i64 n,str m,v] true)) (.blk [.int .i64 2,.int .i64 0,.int .i64 0,str m,.slice none 0 0] true))
   replace hl:=Hid.mk hl
   simp only [za,aR,zn, *]
   refine wv hv Jx _ _ fun h3 hl3=>?_
   have g:=hq.h h3 ((l2.h _ _).trans (hl.h.trans hl3))
   replace g:=Hid.mk g
   clear g1 g2
   simp only [za, *]
   exact g.h
  | false =>
   have es:zu 2 o n m=false:=by simp [zu,hN]
   rw [es] at hq
   clear es
   simp only [za,aR,aW,zf,zg,Int.reduceBEq,st_3, *]
   refine Yz _ _ fun h2 hl=>?_
   replace hl:=Hid.mk hl
   simp only [za, *]
   exact hq.h _ ((l2.h _ _).trans hl.h)
 by_cases k3:k=3
 ·subst k3
  by_cases hO:15≤o∧o≤17
  ·have es:zu 3 o n m=Yc 3 o n m 3 o 0 []:=by simp [zu,Yc,hO]
   rw [es] at hq
   clear es
   have ho:o=15∨o=16∨o=17:=by omega
   clear hO
   rcases ho with rfl | rfl | rfl
   all_goals
    simp only [za,aR,aW,zf,zg,Int.reduceBEq,zn,st_1, *]
    refine wv hv Jx _ _ fun h3 hl3=>?_
    have g:=hq.h h3 ((l2.h _ _).trans hl3)
    replace g:=Hid.mk g
    simp only [za, *]
    exact g.h
  ·have es:zu 3 o n m=false:=by simp [zu,hO]
   rw [es] at hq
   clear es
   have n1:(o == 15)=false:=by simp;omega
   have n2:(o == 16)=false:=by simp;omega
   have n3:(o == 17)=false:=by simp;omega
   clear hO
   simp only [za,aR,aW,zf,zg,Int.reduceBEq,st_1, *]
   exact hq.h _ (l2.h _ _)
 by_cases k4:k=4
 ·subst k4
  have lv:((0:Int) < (z7 o:Int))=(0 < z7 o):=by simp
  by_cases hO:0 < z7 o
  ·have es:zu 4 o n m=Yc 4 o n m 4 o 0 []:=by simp [zu,Yc,hO]
   rw [es] at hq
   clear es
   simp only [za,aR,aW,zf,zg,Int.reduceBEq,st_1, *]
   refine J1 o _ _ ?_
   simp only [za,aR,zf,zg,zn, *]
   refine wv hv Jx _ _ fun h3 hl3=>?_
   have g:=hq.h h3 ((l2.h _ _).trans hl3)
   replace g:=Hid.mk g
   simp only [za, *]
   exact g.h
  ·have es:zu 4 o n m=false:=by simp [zu,hO]
   rw [es] at hq
   clear es
   simp only [za,aR,aW,zf,zg,Int.reduceBEq,st_1, *]
   refine J1 o _ _ ?_
   simp only [za,zf,zg, *]
   exact hq.h _ (l2.h _ _)
 by_cases k5:k=5
 ·subst k5
  cases hN:zp m with
  | true =>
   have es:zu 5 o n m=Yc 5 o n m 5 0 0 m:=by simp [zu,Yc,hN]
   rw [es] at hq
   clear es
   simp only [za,aR,aW,zf,zg,Int.reduceBEq,st_3, *]
   refine Yz _ _ fun h2 hl=>?_
   have g1:=hl.get (Heap.al2 h (.blk [.int .i64 5,.int .i64 o,.int .i64 n,str m,v] true) (.blk [.int .i64 5,.int .i64 0,.int .i64 0,str m,.slice none 0 0] true))
   have g2:=hl.get (Heap.get_alloc_same (h.alloc (.blk [.int .i64 5,.int .i64 o,.int .i64 n,str m,v] true)) (.blk [.int .i64 5,.int .i64 0,.int .i64 0,str m,.slice none 0 0] true))
   replace hl:=Hid.mk hl
   simp only [za,aR,zn, *]
   refine wv hv Jx _ _ fun h3 hl3=>?_
   have g:=hq.h h3 ((l2.h _ _).trans (hl.h.trans hl3))
   replace g:=Hid.mk g
   clear g1 g2
   simp only [za, *]
   exact g.h
  | false =>
   have es:zu 5 o n m=false:=by simp [zu,hN]
   rw [es] at hq
   clear es
   simp only [za,aR,aW,zf,zg,Int.reduceBEq,st_3, *]
   refine Yz _ _ fun h2 hl=>?_
   replace hl:=Hid.mk hl
   simp only [za, *]
   exact hq.h _ ((l2.h _ _).trans hl.h)
 have es:zu k o n m=false:=by simp [zu,k1,k2,k3,k4,k5]
 have em:vp k=0:=by simp [vp,k3,k4,k5]
 rw [es,em] at hq
 have n1:(k == 1)=false:=by simpa using k1
 have n2:(k == 2)=false:=by simpa using k2
 have n3:(k == 3)=false:=by simpa using k3
 have n4:(k == 4)=false:=by simpa using k4
 have n5:(k == 5)=false:=by simpa using k5
 clear es em k1 k2 k3 k4 k5
 simp only [za,aR,aW,zf,zg, *]
 exact hq.h _ (l2.h _ _)
end Go.Eng.Sy
namespace Go.Eng.Sy
open Go Go.Eng Go.Proofs
theorem We {T:Type}{v fv:Value}{l:List T}{xs:List (List Value)}{p:T→Bool}{h:Heap}(hv:SlV h 5 v xs) (hx:xs.length=l.length) (hl63:l.length≤140737488355328)
  (hf:∀ (i:Nat) e x,l[i]? = some e→xs[i]? = some x → ∀ h1 Q,h.le h1→(∀ v h',v = .bool (p e)→h1.le h' → Q v h')→Ue Tryz.prog fv [.agg x.toArray] h1 Q) (Q:Value→Heap→Prop)
  (hq:∀ v h',v = .int .i64 (match l.findIdx? p with | some i=>(i:Int) | none=>-1)→h.le h' → Q v h'):CallW Tryz.prog 113 [v,fv] h Q:=by
 refine zi (k:=2) ok113 rfl rfl rfl fun N=>?_
 rw [show y0 c113 [v,fv]=[v,fv,undef,undef,undef,undef,undef] from rfl]
 delta c113
 replace hq:=zb hq
 have hln:=hv.len
 rw [hx] at hln
 simp only [za, *]
 refine LoopW.upto l.length (fun i e h1=>h.le h1∧(∀ j e,j < i→l[j]? = some e→p e=false) ∧ ∃ x3 x6,e=[v,fv,.int .i64 0,x3,.int .i64 l.length,.int .i64 i,x6]) ?_ (Nat.zero_le _) ⟨Heap.le.refl h,by intro j e hj;omega,_,_,rfl⟩
 rintro i _ h1 R hi ⟨hl1,hp,x3,x6,rfl⟩ hR
 delta yb8
 by_cases hlt:i < l.length
 ·have hlt' : (i:Int) < l.length:=by omega
  obtain ⟨e,he⟩:∃ e,l[i]? = some e:=⟨_,List.getElem?_eq_getElem hlt⟩
  obtain ⟨x,hxi⟩:∃ x,xs[i]? = some x:=⟨_,List.getElem?_eq_getElem (by omega)⟩
  obtain ⟨id,off,cells,own,e1,e2,e3,_⟩:=(hv.mono hl1).elem hxi
  have hff:=hf i e x he hxi
  replace hff:=Hid.mk hff
  have hw:IntKind.i64.wrap ((i:Int) + 1)=((i + 1:Nat):Int):=by rw [z6 (by omega) (by omega)];rfl
  simp only [za,aR,zf,zg, *]
  refine hff.h h1 _ hl1 fun v2 h2 hv2 hl2=>?_
  subst hv2
  cases hpe:p e with
  | true =>
   simp only [za, *]
   refine hq.h _ _ ?_ (hl1.trans hl2)
   have:l.findIdx? p=some i:=by
    rw [List.findIdx?_eq_some_iff_getElem]
    refine ⟨hlt,by rw [List.getElem?_eq_getElem hlt] at he;cases he;exact hpe,fun j hj=>?_⟩
    have:=hp j l[j] hj (List.getElem?_eq_getElem _)
    simp [this]
   rw [this]
  | false =>
   simp only [za,zf,zg, *]
   refine hR.h _ _ hlt ⟨hl1.trans hl2,fun j e' hj hje=>?_,_,_,rfl⟩
   by_cases hji:j=i
   ·subst hji;rw [he] at hje;cases hje;exact hpe
   ·exact hp j e' (by omega) hje
 ·have hlt' : ¬ (i:Int) < l.length:=by omega
  have hnone:l.findIdx? p=none:=by
   rw [List.findIdx?_eq_none_iff]
   intro e he
   obtain ⟨j,hj⟩:=List.mem_iff_getElem?.1 he
   exact hp j e (by have:=(List.getElem?_eq_some_iff.1 hj).1;omega) hj
  simp only [za,zf,zg, *]
  exact hq.h _ _ (by rw [hnone]) hl1
theorem Q1 {T:Type}{v fv:Value}{l:List T}{xs:List (List Value)}{p:T→Bool}{h:Heap}(hv:SlV h 5 v xs) (hx:xs.length=l.length) (hl63:l.length≤140737488355328)
  (hf:∀ (i:Nat) e x,l[i]? = some e→xs[i]? = some x → ∀ h1 Q,h.le h1→(∀ v h',v = .bool (p e)→h1.le h' → Q v h')→Ue Tryz.prog fv [.agg x.toArray] h1 Q) (Q:Value→Heap→Prop)
  (hq:∀ v h',v = .bool (l.any p)→h.le h' → Q v h'):CallW Tryz.prog 84 [v,fv] h Q:=by
 refine zi (k:=2) ok84 rfl rfl rfl fun N=>?_
 rw [show y0 c84 [v,fv]=[v,fv,undef] from rfl]
 delta c84
 replace hq:=zb hq
 simp only [za, *]
 refine We hv hx hl63 hf _ fun v h' hv' hl'=>?_
 subst hv'
 simp only [za,zf,zg, *]
 refine hq.h _ _ ?_ hl'
 cases hx:l.findIdx? p with
 | none =>
  have:=List.findIdx?_eq_none_iff.1 hx
  have hn:l.any p=false:=by simpa [List.any_eq_false] using this
  simp [hn]
 | some i =>
  have:=List.findIdx?_eq_some_iff_getElem.1 hx
  have hn:l.any p=true:=List.any_eq_true.2 ⟨_,List.getElem_mem this.1,this.2.1⟩
  simp [hn]
theorem Wc {T:Type}{v fv:Value}{l:List T}{xs:List (List Value)}{p:T→Bool}{h:Heap}(hv:SlV h 7 v xs) (hx:xs.length=l.length) (hl63:l.length≤140737488355328)
  (hf:∀ (i:Nat) e x,l[i]? = some e→xs[i]? = some x → ∀ h1 Q,h.le h1→(∀ v h',v = .bool (p e)→h1.le h' → Q v h')→Ue Tryz.prog fv [.agg x.toArray] h1 Q) (Q:Value→Heap→Prop)
  (hq:∀ v h',v = .int .i64 (match l.findIdx? p with | some i=>(i:Int) | none=>-1)→h.le h' → Q v h'):CallW Tryz.prog 136 [v,fv] h Q:=by
 refine zi (k:=2) ok136 rfl rfl rfl fun N=>?_
 rw [show y0 c136 [v,fv]=[v,fv,undef,undef,undef,undef,undef] from rfl]
 delta c136
 replace hq:=zb hq
 have hln:=hv.len
 rw [hx] at hln
 simp only [za, *]
 refine LoopW.upto l.length (fun i e h1=>h.le h1∧(∀ j e,j < i→l[j]? = some e→p e=false) ∧ ∃ x3 x6,e=[v,fv,.int .i64 0,x3,.int .i64 l.length,.int .i64 i,x6]) ?_ (Nat.zero_le _) ⟨Heap.le.refl h,by intro j e hj;omega,_,_,rfl⟩
 rintro i _ h1 R hi ⟨hl1,hp,x3,x6,rfl⟩ hR
 delta yb5
 by_cases hlt:i < l.length
 ·have hlt' : (i:Int) < l.length:=by omega
  obtain ⟨e,he⟩:∃ e,l[i]? = some e:=⟨_,List.getElem?_eq_getElem hlt⟩
  obtain ⟨x,hxi⟩:∃ x,xs[i]? = some x:=⟨_,List.getElem?_eq_getElem (by omega)⟩
  obtain ⟨id,off,cells,own,e1,e2,e3,_⟩:=(hv.mono hl1).elem hxi
  have hff:=hf i e x he hxi
  replace hff:=Hid.mk hff
  have hw:IntKind.i64.wrap ((i:Int) + 1)=((i + 1:Nat):Int):=by rw [z6 (by omega) (by omega)];rfl
  simp only [za,aR,zf,zg, *]
  refine hff.h h1 _ hl1 fun v2 h2 hv2 hl2=>?_
  subst hv2
  cases hpe:p e with
  | true =>
   simp only [za, *]
   refine hq.h _ _ ?_ (hl1.trans hl2)
   have:l.findIdx? p=some i:=by
    rw [List.findIdx?_eq_some_iff_getElem]
    refine ⟨hlt,by rw [List.getElem?_eq_getElem hlt] at he;cases he;exact hpe,fun j hj=>?_⟩
    have:=hp j l[j] hj (List.getElem?_eq_getElem _)
    simp [this]
   rw [this]
  | false =>
   simp only [za,zf,zg, *]
   refine hR.h _ _ hlt ⟨hl1.trans hl2,fun j e' hj hje=>?_,_,_,rfl⟩
   by_cases hji:j=i
   ·subst hji;rw [he] at hje;cases hje;exact hpe
   ·exact hp j e' (by omega) hje
 ·have hlt' : ¬ (i:Int) < l.length:=by omega
  have hnone:l.findIdx? p=none:=by
   rw [List.findIdx?_eq_none_iff]
   intro e he
   obtain ⟨j,hj⟩:=List.mem_iff_getElem?.1 he
   exact hp j e (by have:=(List.getElem?_eq_some_iff.1 hj).1;omega) hj
  simp only [za,zf,zg, *]
  exact hq.h _ _ (by rw [hnone]) hl1
theorem Qz {T:Type}{v fv:Value}{l:List T}{xs:List (List Value)}{p:T→Bool}{h:Heap}(hv:SlV h 7 v xs) (hx:xs.length=l.length) (hl63:l.length≤140737488355328)
  (hf:∀ (i:Nat) e x,l[i]? = some e→xs[i]? = some x → ∀ h1 Q,h.le h1→(∀ v h',v = .bool (p e)→h1.le h' → Q v h')→Ue Tryz.prog fv [.agg x.toArray] h1 Q) (Q:Value→Heap→Prop)
  (hq:∀ v h',v = .bool (l.any p)→h.le h' → Q v h'):CallW Tryz.prog 108 [v,fv] h Q:=by
 refine zi (k:=2) ok108 rfl rfl rfl fun N=>?_
 rw [show y0 c108 [v,fv]=[v,fv,undef] from rfl]
 delta c108
 replace hq:=zb hq
 simp only [za, *]
 refine Wc hv hx hl63 hf _ fun v h' hv' hl'=>?_
 subst hv'
 simp only [za,zf,zg, *]
 refine hq.h _ _ ?_ hl'
 cases hx:l.findIdx? p with
 | none =>
  have:=List.findIdx?_eq_none_iff.1 hx
  have hn:l.any p=false:=by simpa [List.any_eq_false] using this
  simp [hn]
 | some i =>
  have:=List.findIdx?_eq_some_iff_getElem.1 hx
  have hn:l.any p=true:=List.any_eq_true.2 ⟨_,List.getElem_mem this.1,this.2.1⟩
  simp [hn]
theorem Wf {T:Type}{v fv:Value}{l:List T}{xs:List (List Value)}{p:T→Bool}{h:Heap}(hv:SlV h 2 v xs) (hx:xs.length=l.length) (hl63:l.length≤140737488355328)
  (hf:∀ (i:Nat) e x,l[i]? = some e→xs[i]? = some x → ∀ h1 Q,h.le h1→(∀ v h',v = .bool (p e)→h1.le h' → Q v h')→Ue Tryz.prog fv [.agg x.toArray] h1 Q) (Q:Value→Heap→Prop)
  (hq:∀ v h',v = .int .i64 (match l.findIdx? p with | some i=>(i:Int) | none=>-1)→h.le h' → Q v h'):CallW Tryz.prog 73 [v,fv] h Q:=by
 refine zi (k:=2) ok73 rfl rfl rfl fun N=>?_
 rw [show y0 c73 [v,fv]=[v,fv,undef,undef,undef,undef,undef] from rfl]
 delta c73
 replace hq:=zb hq
 have hln:=hv.len
 rw [hx] at hln
 simp only [za, *]
 refine LoopW.upto l.length (fun i e h1=>h.le h1∧(∀ j e,j < i→l[j]? = some e→p e=false) ∧ ∃ x3 x6,e=[v,fv,.int .i64 0,x3,.int .i64 l.length,.int .i64 i,x6]) ?_ (Nat.zero_le _) ⟨Heap.le.refl h,by intro j e hj;omega,_,_,rfl⟩
 rintro i _ h1 R hi ⟨hl1,hp,x3,x6,rfl⟩ hR
 delta c73_l7
 by_cases hlt:i < l.length
 ·have hlt' : (i:Int) < l.length:=by omega
  obtain ⟨e,he⟩:∃ e,l[i]? = some e:=⟨_,List.getElem?_eq_getElem hlt⟩
  obtain ⟨x,hxi⟩:∃ x,xs[i]? = some x:=⟨_,List.getElem?_eq_getElem (by omega)⟩
  obtain ⟨id,off,cells,own,e1,e2,e3,_⟩:=(hv.mono hl1).elem hxi
  have hff:=hf i e x he hxi
  replace hff:=Hid.mk hff
  have hw:IntKind.i64.wrap ((i:Int) + 1)=((i + 1:Nat):Int):=by rw [z6 (by omega) (by omega)];rfl
  simp only [za,aR,zf,zg, *]
  refine hff.h h1 _ hl1 fun v2 h2 hv2 hl2=>?_
  subst hv2
  cases hpe:p e with
  | true =>
   simp only [za, *]
   refine hq.h _ _ ?_ (hl1.trans hl2)
   have:l.findIdx? p=some i:=by
    rw [List.findIdx?_eq_some_iff_getElem]
    refine ⟨hlt,by rw [List.getElem?_eq_getElem hlt] at he;cases he;exact hpe,fun j hj=>?_⟩
    have:=hp j l[j] hj (List.getElem?_eq_getElem _)
    simp [this]
   rw [this]
  | false =>
   simp only [za,zf,zg, *]
   refine hR.h _ _ hlt ⟨hl1.trans hl2,fun j e' hj hje=>?_,_,_,rfl⟩
   by_cases hji:j=i
   ·subst hji;rw [he] at hje;cases hje;exact hpe
   ·exact hp j e' (by omega) hje
 ·have hlt' : ¬ (i:Int) < l.length:=by omega
  have hnone:l.findIdx? p=none:=by
   rw [List.findIdx?_eq_none_iff]
   intro e he
   obtain ⟨j,hj⟩:=List.mem_iff_getElem?.1 he
   exact hp j e (by have:=(List.getElem?_eq_some_iff.1 hj).1;omega) hj
  simp only [za,zf,zg, *]
  exact hq.h _ _ (by rw [hnone]) hl1
theorem Q3 {T:Type}{v fv:Value}{l:List T}{xs:List (List Value)}{p:T→Bool}{h:Heap}(hv:SlV h 2 v xs) (hx:xs.length=l.length) (hl63:l.length≤140737488355328)
  (hf:∀ (i:Nat) e x,l[i]? = some e→xs[i]? = some x → ∀ h1 Q,h.le h1→(∀ v h',v = .bool (p e)→h1.le h' → Q v h')→Ue Tryz.prog fv [.agg x.toArray] h1 Q) (Q:Value→Heap→Prop)
  (hq:∀ v h',v = .bool (l.any p)→h.le h' → Q v h'):CallW Tryz.prog 40 [v,fv] h Q:=by
 refine zi (k:=2) ok40 rfl rfl rfl fun N=>?_
 rw [show y0 c40 [v,fv]=[v,fv,undef] from rfl]
 delta c40
 replace hq:=zb hq
 simp only [za, *]
 refine Wf hv hx hl63 hf _ fun v h' hv' hl'=>?_
 subst hv'
 simp only [za,zf,zg, *]
 refine hq.h _ _ ?_ hl'
 cases hx:l.findIdx? p with
 | none =>
  have:=List.findIdx?_eq_none_iff.1 hx
  have hn:l.any p=false:=by simpa [List.any_eq_false] using this
  simp [hn]
 | some i =>
  have:=List.findIdx?_eq_some_iff_getElem.1 hx
  have hn:l.any p=true:=List.any_eq_true.2 ⟨_,List.getElem_mem this.1,this.2.1⟩
  simp [hn]
theorem Wd {T:Type}{v fv:Value}{l:List T}{xs:List (List Value)}{p:T→Bool}{h:Heap}(hv:SlV h 2 v xs) (hx:xs.length=l.length) (hl63:l.length≤140737488355328)
  (hf:∀ (i:Nat) e x,l[i]? = some e→xs[i]? = some x → ∀ h1 Q,h.le h1→(∀ v h',v = .bool (p e)→h1.le h' → Q v h')→Ue Tryz.prog fv [.agg x.toArray] h1 Q) (Q:Value→Heap→Prop)
  (hq:∀ v h',v = .int .i64 (match l.findIdx? p with | some i=>(i:Int) | none=>-1)→h.le h' → Q v h'):CallW Tryz.prog 74 [v,fv] h Q:=by
 refine zi (k:=2) ok74 rfl rfl rfl fun N=>?_
 rw [show y0 c74 [v,fv]=[v,fv,undef,undef,undef,undef,undef] from rfl]
 delta c74
 replace hq:=zb hq
 have hln:=hv.len
 rw [hx] at hln
 simp only [za, *]
 refine LoopW.upto l.length (fun i e h1=>h.le h1∧(∀ j e,j < i→l[j]? = some e→p e=false) ∧ ∃ x3 x6,e=[v,fv,.int .i64 0,x3,.int .i64 l.length,.int .i64 i,x6]) ?_ (Nat.zero_le _) ⟨Heap.le.refl h,by intro j e hj;omega,_,_,rfl⟩
 rintro i _ h1 R hi ⟨hl1,hp,x3,x6,rfl⟩ hR
 delta c74_l7
 by_cases hlt:i < l.length
 ·have hlt' : (i:Int) < l.length:=by omega
  obtain ⟨e,he⟩:∃ e,l[i]? = some e:=⟨_,List.getElem?_eq_getElem hlt⟩
  obtain ⟨x,hxi⟩:∃ x,xs[i]? = some x:=⟨_,List.getElem?_eq_getElem (by omega)⟩
  obtain ⟨id,off,cells,own,e1,e2,e3,_⟩:=(hv.mono hl1).elem hxi
  have hff:=hf i e x he hxi
  replace hff:=Hid.mk hff
  have hw:IntKind.i64.wrap ((i:Int) + 1)=((i + 1:Nat):Int):=by rw [z6 (by omega) (by omega)];rfl
  simp only [za,aR,zf,zg, *]
  refine hff.h h1 _ hl1 fun v2 h2 hv2 hl2=>?_
  subst hv2
  cases hpe:p e with
  | true =>
   simp only [za, *]
   refine hq.h _ _ ?_ (hl1.trans hl2)
   have:l.findIdx? p=some i:=by
    rw [List.findIdx?_eq_some_iff_getElem]
    refine ⟨hlt,by rw [List.getElem?_eq_getElem hlt] at he;cases he;exact hpe,fun j hj=>?_⟩
    have:=hp j l[j] hj (List.getElem?_eq_getElem _)
    simp [this]
   rw [this]
  | false =>
   simp only [za,zf,zg, *]
   refine hR.h _ _ hlt ⟨hl1.trans hl2,fun j e' hj hje=>?_,_,_,rfl⟩
   by_cases hji:j=i
   ·subst hji;rw [he] at hje;cases hje;exact hpe
   ·exact hp j e' (by omega) hje
 ·have hlt' : ¬ (i:Int) < l.length:=by omega
  have hnone:l.findIdx? p=none:=by
   rw [List.findIdx?_eq_none_iff]
   intro e he
   obtain ⟨j,hj⟩:=List.mem_iff_getElem?.1 he
   exact hp j e (by have:=(List.getElem?_eq_some_iff.1 hj).1;omega) hj
  simp only [za,zf,zg, *]
  exact hq.h _ _ (by rw [hnone]) hl1
theorem Q0 {T:Type}{v fv:Value}{l:List T}{xs:List (List Value)}{p:T→Bool}{h:Heap}(hv:SlV h 2 v xs) (hx:xs.length=l.length) (hl63:l.length≤140737488355328)
  (hf:∀ (i:Nat) e x,l[i]? = some e→xs[i]? = some x → ∀ h1 Q,h.le h1→(∀ v h',v = .bool (p e)→h1.le h' → Q v h')→Ue Tryz.prog fv [.agg x.toArray] h1 Q) (Q:Value→Heap→Prop)
  (hq:∀ v h',v = .bool (l.any p)→h.le h' → Q v h'):CallW Tryz.prog 41 [v,fv] h Q:=by
 refine zi (k:=2) ok41 rfl rfl rfl fun N=>?_
 rw [show y0 c41 [v,fv]=[v,fv,undef] from rfl]
 delta c41
 replace hq:=zb hq
 simp only [za, *]
 refine Wd hv hx hl63 hf _ fun v h' hv' hl'=>?_
 subst hv'
 simp only [za,zf,zg, *]
 refine hq.h _ _ ?_ hl'
 cases hx:l.findIdx? p with
 | none =>
  have:=List.findIdx?_eq_none_iff.1 hx
  have hn:l.any p=false:=by simpa [List.any_eq_false] using this
  simp [hn]
 | some i =>
  have:=List.findIdx?_eq_some_iff_getElem.1 hx
  have hn:l.any p=true:=List.any_eq_true.2 ⟨_,List.getElem_mem this.1,this.2.1⟩
  simp [hn]
theorem Wb {T:Type}{v fv:Value}{l:List T}{xs:List (List Value)}{p:T→Bool}{h:Heap}(hv:SlV h 6 v xs) (hx:xs.length=l.length) (hl63:l.length≤140737488355328)
  (hf:∀ (i:Nat) e x,l[i]? = some e→xs[i]? = some x → ∀ h1 Q,h.le h1→(∀ v h',v = .bool (p e)→h1.le h' → Q v h')→Ue Tryz.prog fv [.agg x.toArray] h1 Q) (Q:Value→Heap→Prop)
  (hq:∀ v h',v = .int .i64 (match l.findIdx? p with | some i=>(i:Int) | none=>-1)→h.le h' → Q v h'):CallW Tryz.prog 75 [v,fv] h Q:=by
 refine zi (k:=2) ok75 rfl rfl rfl fun N=>?_
 rw [show y0 c75 [v,fv]=[v,fv,undef,undef,undef,undef,undef] from rfl]
 delta c75
 replace hq:=zb hq
 have hln:=hv.len
 rw [hx] at hln
 simp only [za, *]
 refine LoopW.upto l.length (fun i e h1=>h.le h1∧(∀ j e,j < i→l[j]? = some e→p e=false) ∧ ∃ x3 x6,e=[v,fv,.int .i64 0,x3,.int .i64 l.length,.int .i64 i,x6]) ?_ (Nat.zero_le _) ⟨Heap.le.refl h,by intro j e hj;omega,_,_,rfl⟩
 rintro i _ h1 R hi ⟨hl1,hp,x3,x6,rfl⟩ hR
 delta c75_l7
 by_cases hlt:i < l.length
 ·have hlt' : (i:Int) < l.length:=by omega
  obtain ⟨e,he⟩:∃ e,l[i]? = some e:=⟨_,List.getElem?_eq_getElem hlt⟩
  obtain ⟨x,hxi⟩:∃ x,xs[i]? = some x:=⟨_,List.getElem?_eq_getElem (by omega)⟩
  obtain ⟨id,off,cells,own,e1,e2,e3,_⟩:=(hv.mono hl1).elem hxi
  have hff:=hf i e x he hxi
  replace hff:=Hid.mk hff
  have hw:IntKind.i64.wrap ((i:Int) + 1)=((i + 1:Nat):Int):=by rw [z6 (by omega) (by omega)];rfl
  simp only [za,aR,zf,zg, *]
  refine hff.h h1 _ hl1 fun v2 h2 hv2 hl2=>?_
  subst hv2
  cases hpe:p e with
  | true =>
   simp only [za, *]
   refine hq.h _ _ ?_ (hl1.trans hl2)
   have:l.findIdx? p=some i:=by
    rw [List.findIdx?_eq_some_iff_getElem]
    refine ⟨hlt,by rw [List.getElem?_eq_getElem hlt] at he;cases he;exact hpe,fun j hj=>?_⟩
    have:=hp j l[j] hj (List.getElem?_eq_getElem _)
    simp [this]
   rw [this]
  | false =>
   simp only [za,zf,zg, *]
   refine hR.h _ _ hlt ⟨hl1.trans hl2,fun j e' hj hje=>?_,_,_,rfl⟩
   by_cases hji:j=i
   ·subst hji;rw [he] at hje;cases hje;exact hpe
   ·exact hp j e' (by omega) hje
 ·have hlt' : ¬ (i:Int) < l.length:=by omega
  have hnone:l.findIdx? p=none:=by
   rw [List.findIdx?_eq_none_iff]
   intro e he
   obtain ⟨j,hj⟩:=List.mem_iff_getElem?.1 he
   exact hp j e (by have:=(List.getElem?_eq_some_iff.1 hj).1;omega) hj
  simp only [za,zf,zg, *]
  exact hq.h _ _ (by rw [hnone]) hl1
theorem Qy {T:Type}{v fv:Value}{l:List T}{xs:List (List Value)}{p:T→Bool}{h:Heap}(hv:SlV h 6 v xs) (hx:xs.length=l.length) (hl63:l.length≤140737488355328)
  (hf:∀ (i:Nat) e x,l[i]? = some e→xs[i]? = some x → ∀ h1 Q,h.le h1→(∀ v h',v = .bool (p e)→h1.le h' → Q v h')→Ue Tryz.prog fv [.agg x.toArray] h1 Q) (Q:Value→Heap→Prop)
  (hq:∀ v h',v = .bool (l.any p)→h.le h' → Q v h'):CallW Tryz.prog 42 [v,fv] h Q:=by
 refine zi (k:=2) ok42 rfl rfl rfl fun N=>?_
 rw [show y0 c42 [v,fv]=[v,fv,undef] from rfl]
 delta c42
 replace hq:=zb hq
 simp only [za, *]
 refine Wb hv hx hl63 hf _ fun v h' hv' hl'=>?_
 subst hv'
 simp only [za,zf,zg, *]
 refine hq.h _ _ ?_ hl'
 cases hx:l.findIdx? p with
 | none =>
  have:=List.findIdx?_eq_none_iff.1 hx
  have hn:l.any p=false:=by simpa [List.any_eq_false] using this
  simp [hn]
 | some i =>
  have:=List.findIdx?_eq_some_iff_getElem.1 hx
  have hn:l.any p=true:=List.any_eq_true.2 ⟨_,List.getElem_mem this.1,this.2.1⟩
  simp [hn]
mutual
def yg:Ex→Nat→Bool
 | .mk _ _ _ _ _,0=>false
 | .mk k o n m args,d + 1=>zu k o n m && args.length == vp k && yd args d
def yd:List Ex→Nat→Bool
 | [],_=>true
 | e::r,d=>yg e d && yd r d
end
theorem xt:∀ (l:List Ex) (d:Nat),yd l d=l.all fun e=>yg e d
 | [],_=>by simp [yd]
 | e::r,d=>by simp [yd,xt r d]
end Go.Eng.Sy
namespace Go.Eng.Sy
open Go Go.Eng Go.Proofs
theorem right1_c {d:Nat}(hd:d≤1000) (ih:∀ d',d=d' + 1 → ∀ (l:List Ex) (v:Value) (h:Heap) (Q:Value→Heap→Prop),ExsV h v l→(∀ h',h.le h' → Q (.bool (yd l d')) h')→CallW Tryz.prog 52 [v,.int .i64 (d' : Int)] h Q)
  {h:Heap}{p:Nat}{e:Ex}{x:List Value}(hp:h.get p=some (.blk [.int .i64 (d:Int)] true)) (hx:ExC h e x) (Q:Value→Heap→Prop) (hq:∀ h',h.le h' → Q (.bool (!yg e d)) h') :
  CallW Tryz.prog 85 [.agg x.toArray,.pointer (some ⟨p,0,none⟩)] h Q:=by
 obtain ⟨v,hval,hargs⟩:=hx.val
 rw [hval]
 cases e with
 | mk k o n m args =>
 simp only [Ex.kind,Ex.op,Ex.n,Ex.name,Ex.args] at hargs ⊢
 clear hval hx
 have b1:=vo (k:=k) (o:=o) (n:=n) (m:=m) hargs.one
 have l1:=(Heap.le.refl h).alloc (.blk [.int .i64 k,.int .i64 o,.int .i64 n,str m,v] true)
 have gp:=l1.get hp
 clear hp
 replace l1:=Hid.mk l1
 replace ih:=Hid.mk ih
 replace hargs:=Hid.mk hargs
 refine zi (k:=3) ok85 rfl rfl rfl fun N=>?_
 rw [show y0 c85 [exV k o n m v,.pointer (some ⟨p,0,none⟩)]=[exV k o n m v,.pointer (some ⟨p,0,none⟩),undef,undef,undef,undef] from rfl]
 delta c85
 replace hq:=zb hq
 simp only [za,aR,zn, *]
 refine shape_c hargs.h.one _ _ fun h2 hl=>?_
 have g1:=hl.get (Heap.get_alloc_same h (.blk [.int .i64 k,.int .i64 o,.int .i64 n,str m,v] true))
 have g2:=hl.get gp
 have ha2:=hargs.h.mono (l1.h.trans hl)
 have hq2:=fun h' (l3:h2.le h')=>hq.h h' ((l1.h.trans hl).trans l3)
 clear hq gp l1 hl b1
 replace hq2:=Hid.mk hq2
 have ln:=ha2.len
 have hle:=ha2.le
 cases d with
 | zero =>
  have g:=hq2.h h2 (Heap.le.refl _)
  simp only [yg,Bool.not_false] at g
  replace g:=Hid.mk g
  clear hq2
  replace ha2:=Hid.mk ha2
  have z0:((0:Nat):Int)=0:=rfl
  rw [z0] at g2
  clear z0
  simp only [za,aR,zf,zg,Int.reduceLT, *]
  exact g.h
 | succ d' =>
  have n1:¬ ((d' + 1:Nat):Int) < 1:=by omega
  cases hs:zu k o n m with
  | false =>
   have g:=hq2.h h2 (Heap.le.refl _)
   simp only [yg,hs,Bool.false_and,Bool.not_false] at g
   replace g:=Hid.mk g
   clear hq2
   replace ha2:=Hid.mk ha2
   simp only [za,aR,zf,zg, *]
   exact g.h
  | true =>
   by_cases hm:args.length=vp k
   ·have hm1:((args.length:Int) != (vp k:Int))=false:=by simp [hm]
    have hw:IntKind.i64.wrap (((d' + 1:Nat):Int) - 1)=(d' : Int):=by rw [z6 (by omega) (by omega)];omega
    have hih:=ih.h d' rfl args v h2
    have hq3:=fun h' (l3:h2.le h')=>hq2.h h' l3
    have er:yg (.mk k o n m args) (d' + 1)=yd args d':=by simp [yg,hs,hm]
    rw [er] at hq3
    clear hq2 ih er
    replace hq3:=Hid.mk hq3
    replace hih:=Hid.mk hih
    replace ha2:=Hid.mk ha2
    simp only [za,aR,zf,zg, *]
    refine hih.h _ ha2.h fun h3 hl3=>?_
    have g:=hq3.h h3 hl3
    replace g:=Hid.mk g
    clear hl3
    simp only [za, *]
    exact g.h
   ·have hm1:((args.length:Int) != (vp k:Int))=true:=by
     simp only [bne_iff_ne,ne_eq];omega
    have g:=hq2.h h2 (Heap.le.refl _)
    have hm2:(args.length == vp k)=false:=by simpa using hm
    simp only [yg,hs,hm2,Bool.true_and,Bool.false_and,Bool.not_false] at g
    replace g:=Hid.mk g
    clear hq2
    replace ha2:=Hid.mk ha2
    simp only [za,aR,zf,zg, *]
    exact g.h
theorem zf8 {d:Nat}(hd:d≤1000) (ih:∀ d',d=d' + 1 → ∀ (l:List Ex) (v:Value) (h:Heap) (Q:Value→Heap→Prop),ExsV h v l→(∀ h',h.le h' → Q (.bool (yd l d')) h')→CallW Tryz.prog 52 [v,.int .i64 (d' : Int)] h Q)
  (l:List Ex) (v:Value) (h:Heap) (Q:Value→Heap→Prop) (hv:ExsV h v l) (hq:∀ h',h.le h' → Q (.bool (yd l d)) h'):CallW Tryz.prog 52 [v,.int .i64 (d:Int)] h Q:=by
 replace ih:=Hid.mk ih
 obtain ⟨xs,hsl,hb,hxs⟩:=hv
 have hlen:=hxs.length
 refine zi (k:=3) ok52 rfl rfl rfl fun N=>?_
 rw [show y0 c52 [v,.int .i64 (d:Int)]=[v,.int .i64 (d:Int),undef,undef] from rfl]
 delta c52
 replace hq:=zb hq
 have bx:=zl5 .i64 (d:Int)
 have l1:=(Heap.le.refl h).alloc (.blk [.int .i64 (d:Int)] true)
 have gp:=Heap.get_alloc_same h (.blk [.int .i64 (d:Int)] true)
 obtain ⟨p,hp⟩:∃ p,h.next=p:=⟨_,rfl⟩
 obtain ⟨h1,hh1⟩:∃ h1,h.alloc (.blk [.int .i64 (d:Int)] true)=h1:=⟨_,rfl⟩
 rw [hh1,hp] at gp
 rw [hh1] at l1
 replace hsl:=Hid.mk hsl
 replace l1:=Hid.mk l1
 replace hxs:=Hid.mk hxs
 replace gp:=Hid.mk gp
 simp only [za, *]
 refine Q1 (p:=fun e=>!yg e d) (hsl.h.mono l1.h) hlen (by omega) (fun i e x he hx h2 Q2 hl2 hq2=>?_) _ fun v2 h2 hv2 hl2=>?_
 ·refine CallW.val (first:=#[]) (captured:=#[.pointer (some ⟨p,0,none⟩)]) ?_
  obtain ⟨x',hx',hex⟩:=hxs.h.get i e he
  rw [hx] at hx';cases hx'
  exact right1_c hd ih.h (hl2.get gp.h) (hex.mono (l1.h.trans hl2)) Q2 fun h' hl'=>hq2 _ _ rfl hl'
 ·subst hv2
  have g:=hq.h h2 (l1.h.trans hl2)
  have ea:(!(l.any fun e=>!yg e d))=yd l d:=by rw [xt,List.all_eq_not_any_not]
  rw [← ea] at g
  replace g:=Hid.mk g
  clear hl2 ea
  simp only [za, *]
  exact g.h
theorem zs6:∀ (d:Nat),d≤1000 → ∀ (l:List Ex) (v:Value) (h:Heap) (Q:Value→Heap→Prop),ExsV h v l→(∀ h',h.le h' → Q (.bool (yd l d)) h')→CallW Tryz.prog 52 [v,.int .i64 (d:Int)] h Q:=by
 intro d
 induction d with
 | zero=>intro hd;exact zf8 hd fun d' hd'=>by omega
 | succ d ih=>intro hd;exact zf8 hd fun d' hd'=>by cases hd';exact ih (by omega)
end Go.Eng.Sy
namespace Go.Eng.Sy
open Go Go.Eng Go.Proofs
def wq (k:Int):Bool:=decide (1≤k∧k≤5)
def Q9 (k:Int):Bool:=decide (k=2)
def wr (k:Int):Int:=if k=2∨k=3 then 3 else if k=7 then 20 else 0
def wk (k:Int):Nat:=if k=1∨k=3∨k=6 then 1 else if k=4 then 2 else 0
def xd (k:Int):Bool:=decide (k=5∨k=6∨k=7)
def xh (k:Int):Bool:=decide (k=6)
def xe (k:Int):Bool:=decide (1≤k∧k≤8)
abbrev Wh (a b:Bool) (mo ar:Int) (t e:Bool):Value:=.agg #[.bool a,.bool b,.int .i64 mo,.int .i64 ar,.bool t,.bool e]
theorem K0 (h:Heap) (a b:Bool) (mo ar:Int) (t e:Bool):yh 6 (h.alloc (.blk [.bool false,.bool false,.int .i64 0,.int .i64 0,.bool false,.bool false] true)) [.pointer (some ⟨h.next,0,none⟩),Wh a b mo ar t e] =
  some (undef,h.alloc (.blk [.bool a,.bool b,.int .i64 mo,.int .i64 ar,.bool t,.bool e] true)):=zy rfl rfl rfl rfl
theorem K9 (a b c d e f:Value):qk true 0 6 [a,b,c,d,e,f]=some (.agg #[a,b,c,d,e,f]):=rfl
abbrev zF:List Value:=[.bool false,.bool false,.int .i64 0,.int .i64 0,.bool false,.bool false]
theorem bf1 (n:Int):yy zF [(0,1),(3,1)] [.bool true,.int .i64 n]=some (Wh true false 0 n false false):=rfl
theorem bf2:yy zF [(0,1),(1,1),(2,1)] [.bool true,.bool true,.int .i64 3]=some (Wh true true 3 0 false false):=rfl
theorem bf3:yy zF [(0,1),(2,1),(3,1)] [.bool true,.int .i64 3,.int .i64 1]=some (Wh true false 3 1 false false):=rfl
theorem bf5:yy zF [(0,1),(4,1)] [.bool true,.bool true]=some (Wh true false 0 0 true false):=rfl
theorem bf6:yy zF [(3,1),(4,1),(5,1)] [.int .i64 1,.bool true,.bool true]=some (Wh false false 0 1 true true):=rfl
theorem bf7:yy zF [(2,1),(4,1)] [.int .i64 20,.bool true]=some (Wh false false 20 0 true false):=rfl
theorem bf8:yy zF [] []=some (Wh false false 0 0 false false):=rfl
set_option maxHeartbeats 1000000 in
theorem formOf_c (k:Int) (h:Heap) (Q:Value→Heap→Prop) (hq:∀ h',h.le h' → Q (.tuple #[Wh (wq k) (Q9 k) (wr k) (wk k) (xd k) (xh k),.bool (xe k)]) h') :
  CallW Tryz.prog 137 [.int .i64 k] h Q:=by
 have l1:∀ c:AObj,h.le (h.alloc c):=fun c=>(Heap.le.refl h).alloc _
 replace hq:=hq (h.alloc (.blk [.bool (wq k),.bool (Q9 k),.int .i64 (wr k),.int .i64 (wk k),.bool (xd k),.bool (xh k)] true)) (l1 _)
 clear l1
 refine zz0 (k:=1) (agg:=true) (size:=6) (j:=2) ok137 rfl rfl rfl fun N=>?_
 rw [show y0 c137 [.int .i64 k]=[.int .i64 k,undef,undef,undef] from rfl]
 delta c137
 replace hq:=zb hq
 have sf:=K0 h
 have e1:=bf1 1
 have e1':=bf1 2
 have e2:=bf2
 have e3:=bf3
 have e5:=bf5
 have e6:=bf6
 have e7:=bf7
 have e8:=bf8
 by_cases hk:1≤k∧k≤8
 ·have hk:k=1∨k=2∨k=3∨k=4∨k=5∨k=6∨k=7∨k=8:=by omega
  rcases hk with rfl | rfl | rfl | rfl | rfl | rfl | rfl | rfl
  all_goals
   have g:=hq.h
   clear hq
   simp [wq,Q9,wr,wk,xd,xh,xe] at g
   replace g:=Hid.mk g
   simp only [za,aR,aW,zf,zg,Int.reduceBEq,K9, *]
   exact g.h
 ·have g:=hq.h
  clear hq
  have n1:(k == 1)=false:=by simp;omega
  have n2:(k == 2)=false:=by simp;omega
  have n3:(k == 3)=false:=by simp;omega
  have n4:(k == 4)=false:=by simp;omega
  have n5:(k == 5)=false:=by simp;omega
  have n6:(k == 6)=false:=by simp;omega
  have n7:(k == 7)=false:=by simp;omega
  have n8:(k == 8)=false:=by simp;omega
  have f1:wq k=false:=by unfold wq;simp;omega
  have f2:Q9 k=false:=by unfold Q9;simp;omega
  have f3:wr k=0:=by unfold wr;rw [if_neg (by omega),if_neg (by omega)]
  have f4:wk k=0:=by unfold wk;rw [if_neg (by omega),if_neg (by omega)]
  have f5:xd k=false:=by unfold xd;simp;omega
  have f6:xh k=false:=by unfold xh;simp;omega
  have f7:xe k=false:=by unfold xe;simp;omega
  rw [f1,f2,f3,f4,f5,f6,f7] at g
  replace g:=Hid.mk g
  clear hk f1 f2 f3 f4 f5 f6 f7
  simp only [za,aR,aW,zf,zg,K9, *]
  exact g.h
def jz (m:List UInt8) (b:Bool):Bool:=if b then zp m else m == []
theorem zv7 {m:List UInt8}(b:Bool) (h:Heap) (Q:Value→Heap→Prop) (hq:∀ h',h.le h' → Q (.bool (jz m b)) h'):CallW Tryz.prog 138 [str m,.bool b] h Q:=by
 refine zi (k:=2) ok138 rfl rfl rfl fun N=>?_
 rw [show y0 c138 [str m,.bool b]=[str m,.bool b,undef] from rfl]
 delta c138
 replace hq:=zb hq
 cases b with
 | true =>
  simp only [za, *]
  refine Yz _ _ fun h2 hl=>?_
  have g:=hq.h h2 hl
  have e:jz m true=zp m:=rfl
  rw [e] at g
  replace g:=Hid.mk g
  clear hl
  simp only [za, *]
  exact g.h
 | false =>
  have g:=hq.h h (Heap.le.refl h)
  have e:jz m false=(m == []):=rfl
  rw [e] at g
  replace g:=Hid.mk g
  have es:=Ja m []
  simp only [za,zf, *]
  exact g.h
theorem wo (n a b:Int) (h:Heap) (Q:Value→Heap→Prop) (hq:Q (.bool (decide (a≤n∧n≤b))) h):CallW Tryz.prog 36 [.int .i64 n,.int .i64 a,.int .i64 b] h Q:=by
 refine zi (k:=3) ok36 rfl rfl rfl fun N=>?_
 rw [show y0 c36 [.int .i64 n,.int .i64 a,.int .i64 b]=[.int .i64 n,.int .i64 a,.int .i64 b,undef] from rfl]
 delta c36
 replace hq:=zb hq
 have g:=hq.h
 clear hq
 by_cases h1:a≤n
 ·have e:decide (a≤n∧n≤b)=decide (n≤b):=by simp [h1]
  rw [e] at g
  replace g:=Hid.mk g
  clear e
  simp only [za,zf,zg, *]
  exact g.h
 ·have e:decide (a≤n∧n≤b)=false:=by simp [h1]
  rw [e] at g
  replace g:=Hid.mk g
  clear e
  simp only [za,zf,zg, *]
  exact g.h
end Go.Eng.Sy
namespace Go.Eng.Sy
open Go Go.Eng Go.Proofs
mutual
def kb:St→Nat→Bool
 | .mk _ _ _ _ _ _ _,0=>false
 | .mk k m f n args thn els,d + 1=>xe k && jz m (wq k) && jz f (Q9 k) && decide (0≤n) && decide (n≤wr k) && args.length == wk k && yd args 30 && (xd k || thn.length == 0) && (xh k || els.length == 0) && yo thn d && yo els d
def yo:List St→Nat→Bool
 | [],_=>true
 | s::r,d=>kb s d && yo r d
end
theorem kj:∀ (l:List St) (d:Nat),yo l d=l.all fun e=>kb e d
 | [],_=>by simp [yo]
 | e::r,d=>by simp [yo,kj r d]
def AllC (d:Nat):Prop:=∀ (l:List St) (v:Value) (h:Heap) (Q:Value→Heap→Prop),StsV h v l→(∀ h',h.le h' → Q (.bool (yo l d)) h')→CallW Tryz.prog 72 [v,.int .i64 (d:Int)] h Q
theorem len0 (n:Nat):((n:Int) == 0)=(n == 0):=by
 cases n with
 | zero=>rfl
 | succ n=>simp;omega
set_option maxHeartbeats 4000000 in
theorem well_of {d:Nat}(hd:d≤1000) (ih:∀ d',d=d' + 1→AllC d'){h:Heap}{e:St}{x:List Value}(hx:StC h e x) (Q:Value→Heap→Prop) (hq:∀ h',h.le h' → Q (.bool (kb e d)) h') :
  CallW Tryz.prog 110 [.agg x.toArray,.int .i64 (d:Int)] h Q:=by
 obtain ⟨v,u,w,hval,hargs,hthn,hels⟩:=hx.val
 rw [hval]
 cases e with
 | mk k m f n args thn els =>
 simp only [St.kind,St.name,St.src,St.n,St.args,St.thn,St.els] at hargs hthn hels ⊢
 clear hval hx
 have b1:=Qu (k:=k) (m:=m) (f:=f) (n:=n) hargs.one hthn.one hels.one
 have l1:=(Heap.le.refl h).alloc (.blk [.int .i64 k,str m,str f,.int .i64 n,v,u,w] true)
 replace l1:=Hid.mk l1
 replace ih:=Hid.mk ih
 replace hargs:=Hid.mk hargs
 replace hthn:=Hid.mk hthn
 replace hels:=Hid.mk hels
 refine zi (k:=3) ok110 rfl rfl rfl fun N=>?_
 rw [show y0 c110 [stV k m f n v u w,.int .i64 (d:Int)]=[stV k m f n v u w,.int .i64 (d:Int),undef,undef,undef,undef] from rfl]
 delta c110
 replace hq:=zb hq
 simp only [za,aR, *]
 refine formOf_c k _ _ fun h2 hl=>?_
 have gp2:=hl.get (Heap.get_alloc_same h (.blk [.int .i64 k,str m,str f,.int .i64 n,v,u,w] true))
 have l3:=hl.alloc (.blk [.bool (wq k),.bool (Q9 k),.int .i64 (wr k),.int .i64 (wk k),.bool (xd k),.bool (xh k)] true)
 have gp3:=((Heap.le.refl h2).alloc (.blk [.bool (wq k),.bool (Q9 k),.int .i64 (wr k),.int .i64 (wk k),.bool (xd k),.bool (xh k)] true)).get gp2
 have gq3:=Heap.get_alloc_same h2 (.blk [.bool (wq k),.bool (Q9 k),.int .i64 (wr k),.int .i64 (wk k),.bool (xd k),.bool (xh k)] true)
 have sf:=K0 h2 (wq k) (Q9 k) (wr k) (wk k) (xd k) (xh k)
 obtain ⟨p,hp⟩:∃ p,h.next=p:=⟨_,rfl⟩
 rw [hp] at gp2 gp3
 obtain ⟨q,hqn⟩:∃ q,h2.next=q:=⟨_,rfl⟩
 obtain ⟨h3,hh3⟩:∃ h3,h2.alloc (.blk [.bool (wq k),.bool (Q9 k),.int .i64 (wr k),.int .i64 (wk k),.bool (xd k),.bool (xh k)] true)=h3:=⟨_,rfl⟩
 rw [hh3] at gp3 gq3 l3 sf
 rw [hqn] at gq3 sf
 have l3:=Hid.mk (l1.h.trans l3)
 clear hl b1 l1 gp2
 have la:=hargs.h.len
 have lt:=hthn.h.len
 have le:=hels.h.len
 have z1:=len0 thn.length
 have z2:=len0 els.length
 cases c1:xe k with
 | false =>
  have g:=hq.h h3 l3.h
  have ew:kb (.mk k m f n args thn els) d=false:=by cases d<;>simp [kb,c1]
  rw [ew] at g
  clear hq
  replace g:=Hid.mk g
  simp only [za,aW, *]
  exact g.h
 | true =>
 cases d with
 | zero =>
  have g:=hq.h h3 l3.h
  have ew:kb (.mk k m f n args thn els) 0=false:=by simp [kb]
  rw [ew] at g
  clear hq
  replace g:=Hid.mk g
  have z0:((0:Nat):Int)=0:=rfl
  simp only [za,aW,zf,zg,Int.reduceLT, *]
  exact g.h
 | succ d' =>
 have ew:kb (.mk k m f n args thn els) (d' + 1)=(xe k && jz m (wq k) && jz f (Q9 k) && decide (0≤n) && decide (n≤wr k) && args.length == wk k && yd args 30 && (xd k || thn.length == 0) && (xh k || els.length == 0) && yo thn d' && yo els d'):=by simp [kb]
 rw [ew,c1] at hq
 clear ew
 have hih:=ih.h d' rfl
 clear ih
 replace hih:=Hid.mk hih
 have dp:(0:Int) < ((d' + 1:Nat):Int):=by omega
 have hw:IntKind.i64.wrap (((d' + 1:Nat):Int) - 1)=(d' : Int):=by rw [z6 (by omega) (by omega)];omega
 simp only [za,aR,aW,zf,zg, *]
 refine zv7 _ _ _ fun h4 lj=>?_
 have gp4:=lj.get gp3
 have gq4:=lj.get gq3
 have l4:=Hid.mk (l3.h.trans lj)
 clear lj gp3 gq3 l3 sf hh3 hqn hp
 cases c2:jz m (wq k) with
 | false =>
  have g:=hq.h h4 l4.h
  simp only [Bool.true_and,Bool.false_and,Bool.and_true,Bool.and_false,Bool.true_or,Bool.false_or,c1,c2] at g
  clear hq
  replace g:=Hid.mk g
  simp only [za, *]
  exact g.h
 | true =>
 simp only [za,aR, *]
 refine zv7 _ _ _ fun h5 lj=>?_
 have gp5:=lj.get gp4
 have gq5:=lj.get gq4
 have l5:=Hid.mk (l4.h.trans lj)
 clear lj gp4 gq4 l4
 cases c3:jz f (Q9 k) with
 | false =>
  have g:=hq.h h5 l5.h
  simp only [Bool.true_and,Bool.false_and,Bool.and_true,Bool.and_false,Bool.true_or,Bool.false_or,c1,c2,c3] at g
  clear hq
  replace g:=Hid.mk g
  simp only [za, *]
  exact g.h
 | true =>
 by_cases c4:0≤n
 case neg =>
  have c4f:=decide_eq_false c4
  have g:=hq.h h5 l5.h
  simp only [Bool.true_and,Bool.false_and,Bool.and_true,Bool.and_false,Bool.true_or,Bool.false_or,c1,c2,c3,c4f] at g
  clear hq
  replace g:=Hid.mk g
  simp only [za,aR,zf,zg, *]
  exact g.h
 have c4t:=decide_eq_true c4
 by_cases c5:n≤wr k
 case neg =>
  have c5f:=decide_eq_false c5
  have g:=hq.h h5 l5.h
  simp only [Bool.true_and,Bool.false_and,Bool.and_true,Bool.and_false,Bool.true_or,Bool.false_or,c1,c2,c3,c4t,c5f] at g
  clear hq
  replace g:=Hid.mk g
  simp only [za,aR,zf,zg, *]
  exact g.h
 have c5t:=decide_eq_true c5
 have le6:((args.length:Int) == (wk k:Int))=(args.length == wk k):=by
  rw [Bool.eq_iff_iff];simp;omega
 cases c6:args.length == wk k with
 | false =>
  rw [c6] at le6
  have g:=hq.h h5 l5.h
  simp only [Bool.true_and,Bool.false_and,Bool.and_true,Bool.and_false,Bool.true_or,Bool.false_or,c1,c2,c3,c4t,c5t,c6] at g
  clear hq
  replace g:=Hid.mk g
  simp only [za,aR,zf,zg, *]
  exact g.h
 | true =>
 rw [c6] at le6
 simp only [za,aR,zf,zg, *]
 refine zs6 30 (by omega) args v _ _ (hargs.h.mono l5.h) fun h6 lj=>?_
 have gp6:=lj.get gp5
 have gq6:=lj.get gq5
 have l6:=Hid.mk (l5.h.trans lj)
 clear lj gp5 gq5 l5
 cases c7:yd args 30 with
 | false =>
  have g:=hq.h h6 l6.h
  simp only [Bool.true_and,Bool.false_and,Bool.and_true,Bool.and_false,Bool.true_or,Bool.false_or,c1,c2,c3,c4t,c5t,c6,c7] at g
  clear hq
  replace g:=Hid.mk g
  simp only [za, *]
  exact g.h
 | true =>
 cases c8:(xd k || thn.length == 0) with
 | false =>
  have c8a:xd k=false:=by cases hf:xd k<;>simp_all
  have c8b:(thn.length == 0)=false:=by cases hf:(thn.length == 0)<;>simp_all
  rw [c8b] at z1
  have g:=hq.h h6 l6.h
  simp only [Bool.true_and,Bool.false_and,Bool.and_true,Bool.and_false,Bool.true_or,Bool.false_or,c1,c2,c3,c4t,c5t,c6,c7,c8] at g
  clear hq
  replace g:=Hid.mk g
  simp only [za,aR,zf,zg, *]
  exact g.h
 | true =>
 cases c9:(xh k || els.length == 0) with
 | false =>
  have c9a:xh k=false:=by cases hf:xh k<;>simp_all
  have c9b:(els.length == 0)=false:=by cases hf:(els.length == 0)<;>simp_all
  rw [c9b] at z2
  have g:=hq.h h6 l6.h
  simp only [Bool.true_and,Bool.false_and,Bool.and_true,Bool.and_false,c1,c2,c3,c4t,c5t,c6,c7,c8,c9] at g
  clear hq
  replace g:=Hid.mk g
  cases c8a:xd k with
  | true =>
   rw [c8a] at gq6
   simp only [za,aR,zf,zg, *]
   exact g.h
  | false =>
   rw [c8a,Bool.false_or] at c8
   rw [c8] at z1
   rw [c8a] at gq6
   simp only [za,aR,zf,zg, *]
   exact g.h
 | true =>
 have hgo:CallW Tryz.prog 72 [u,.int .i64 (d' : Int)] h6 (fun r h'=>True)→True:=fun _=>trivial
 clear hgo
 replace hq:=fun h' l=>hq.h h' l
 simp only [Bool.true_and,Bool.false_and,Bool.and_true,Bool.and_false,c1,c2,c3,c4t,c5t,c6,c7,c8,c9] at hq
 replace hq:=Hid.mk hq
 cases c8a:xd k with
 | true =>
  rw [c8a] at gq6
  cases c9a:xh k with
  | true =>
   rw [c9a] at gq6
   clear c8 c9
   simp only [za,aR,zf,zg, *]
   refine hih.h thn u _ _ (hthn.h.mono l6.h) fun hA lj=>?_
   have gpA:=lj.get gp6
   have gqA:=lj.get gq6
   have lA:=Hid.mk (l6.h.trans lj)
   clear lj gp6 gq6 l6
   cases c10:yo thn d' with
   | false =>
    have g:=hq.h hA lA.h
    simp only [c10,Bool.false_and] at g
    clear hq
    replace g:=Hid.mk g
    simp only [za, *]
    exact g.h
   | true =>
    simp only [za,aR,zf,zg, *]
    refine hih.h els w _ _ (hels.h.mono lA.h) fun hB lk=>?_
    have g:=hq.h hB (lA.h.trans lk)
    simp only [c10,Bool.true_and] at g
    clear hq lk
    replace g:=Hid.mk g
    simp only [za, *]
    exact g.h
  | false =>
   rw [c9a] at gq6
   rw [c9a,Bool.false_or] at c9
   rw [c9] at z2
   clear c8 c9
   simp only [za,aR,zf,zg, *]
   refine hih.h thn u _ _ (hthn.h.mono l6.h) fun hA lj=>?_
   have gpA:=lj.get gp6
   have gqA:=lj.get gq6
   have lA:=Hid.mk (l6.h.trans lj)
   clear lj gp6 gq6 l6
   cases c10:yo thn d' with
   | false =>
    have g:=hq.h hA lA.h
    simp only [c10,Bool.false_and] at g
    clear hq
    replace g:=Hid.mk g
    simp only [za, *]
    exact g.h
   | true =>
    simp only [za,aR,zf,zg, *]
    refine hih.h els w _ _ (hels.h.mono lA.h) fun hB lk=>?_
    have g:=hq.h hB (lA.h.trans lk)
    simp only [c10,Bool.true_and] at g
    clear hq lk
    replace g:=Hid.mk g
    simp only [za, *]
    exact g.h
 | false =>
  rw [c8a] at gq6
  cases c9a:xh k with
  | true =>
   rw [c9a] at gq6
   rw [c8a,Bool.false_or] at c8
   rw [c8] at z1
   clear c8 c9
   simp only [za,aR,zf,zg, *]
   refine hih.h thn u _ _ (hthn.h.mono l6.h) fun hA lj=>?_
   have gpA:=lj.get gp6
   have gqA:=lj.get gq6
   have lA:=Hid.mk (l6.h.trans lj)
   clear lj gp6 gq6 l6
   cases c10:yo thn d' with
   | false =>
    have g:=hq.h hA lA.h
    simp only [c10,Bool.false_and] at g
    clear hq
    replace g:=Hid.mk g
    simp only [za, *]
    exact g.h
   | true =>
    simp only [za,aR,zf,zg, *]
    refine hih.h els w _ _ (hels.h.mono lA.h) fun hB lk=>?_
    have g:=hq.h hB (lA.h.trans lk)
    simp only [c10,Bool.true_and] at g
    clear hq lk
    replace g:=Hid.mk g
    simp only [za, *]
    exact g.h
  | false =>
   rw [c9a] at gq6
   rw [c8a,Bool.false_or] at c8
   rw [c8] at z1
   rw [c9a,Bool.false_or] at c9
   rw [c9] at z2
   clear c8 c9
   simp only [za,aR,zf,zg, *]
   refine hih.h thn u _ _ (hthn.h.mono l6.h) fun hA lj=>?_
   have gpA:=lj.get gp6
   have gqA:=lj.get gq6
   have lA:=Hid.mk (l6.h.trans lj)
   clear lj gp6 gq6 l6
   cases c10:yo thn d' with
   | false =>
    have g:=hq.h hA lA.h
    simp only [c10,Bool.false_and] at g
    clear hq
    replace g:=Hid.mk g
    simp only [za, *]
    exact g.h
   | true =>
    simp only [za,aR,zf,zg, *]
    refine hih.h els w _ _ (hels.h.mono lA.h) fun hB lk=>?_
    have g:=hq.h hB (lA.h.trans lk)
    simp only [c10,Bool.true_and] at g
    clear hq lk
    replace g:=Hid.mk g
    simp only [za, *]
    exact g.h
end Go.Eng.Sy
namespace Go.Eng.Sy
open Go Go.Eng Go.Proofs
theorem all1_c {d:Nat}(hd:d≤1000) (ih:∀ d',d=d' + 1→AllC d'){h:Heap}{p:Nat}{e:St}{x:List Value}(hp:h.get p=some (.blk [.int .i64 (d:Int)] true)) (hx:StC h e x)
  (Q:Value→Heap→Prop) (hq:∀ h',h.le h' → Q (.bool (!kb e d)) h'):CallW Tryz.prog 109 [.agg x.toArray,.pointer (some ⟨p,0,none⟩)] h Q:=by
 replace ih:=Hid.mk ih
 have hx0:=hx
 obtain ⟨v,u,w,hval,hargs,hthn,hels⟩:=hx.cells
 subst hval
 have b1:=Qu (k:=e.kind) (m:=e.name) (f:=e.src) (n:=e.n) hargs.one hthn.one hels.one
 have l1:=(Heap.le.refl h).alloc (.blk [.int .i64 e.kind,str e.name,str e.src,.int .i64 e.n,v,u,w] true)
 have gp:=l1.get hp
 have hx1:=hx0.mono l1
 replace l1:=Hid.mk l1
 replace hx1:=Hid.mk hx1
 clear hx hx0 hp hargs hthn hels
 refine zi (k:=3) ok109 rfl rfl rfl fun N=>?_
 rw [show y0 c109 [stV e.kind e.name e.src e.n v u w,.pointer (some ⟨p,0,none⟩)]=[stV e.kind e.name e.src e.n v u w,.pointer (some ⟨p,0,none⟩),undef,undef] from rfl]
 delta c109
 replace hq:=zb hq
 simp only [za,aR,jm, *]
 refine well_of hd ih.h hx1.h _ fun h2 hl=>?_
 have g:=hq.h h2 (l1.h.trans hl)
 replace g:=Hid.mk g
 clear hl
 simp only [za, *]
 exact g.h
theorem all_of {d:Nat}(hd:d≤1000) (ih:∀ d',d=d' + 1→AllC d'):AllC d:=by
 intro l v h Q hv hq
 replace ih:=Hid.mk ih
 obtain ⟨xs,hsl,hb,hxs⟩:=hv
 have hlen:=hxs.length
 refine zi (k:=3) ok72 rfl rfl rfl fun N=>?_
 rw [show y0 c72 [v,.int .i64 (d:Int)]=[v,.int .i64 (d:Int),undef,undef] from rfl]
 delta c72
 replace hq:=zb hq
 have bx:=zl5 .i64 (d:Int)
 have l1:=(Heap.le.refl h).alloc (.blk [.int .i64 (d:Int)] true)
 have gp:=Heap.get_alloc_same h (.blk [.int .i64 (d:Int)] true)
 obtain ⟨p,hp⟩:∃ p,h.next=p:=⟨_,rfl⟩
 obtain ⟨h1,hh1⟩:∃ h1,h.alloc (.blk [.int .i64 (d:Int)] true)=h1:=⟨_,rfl⟩
 rw [hh1,hp] at gp
 rw [hh1] at l1
 replace hsl:=Hid.mk hsl
 replace l1:=Hid.mk l1
 replace hxs:=Hid.mk hxs
 replace gp:=Hid.mk gp
 simp only [za, *]
 refine Qz (p:=fun e=>!kb e d) (hsl.h.mono l1.h) hlen (by omega) (fun i e x he hx h2 Q2 hl2 hq2=>?_) _ fun v2 h2 hv2 hl2=>?_
 ·refine CallW.val (first:=#[]) (captured:=#[.pointer (some ⟨p,0,none⟩)]) ?_
  obtain ⟨x',hx',hex⟩:=hxs.h.get i e he
  rw [hx] at hx';cases hx'
  exact all1_c hd ih.h (hl2.get gp.h) (hex.mono (l1.h.trans hl2)) Q2 fun h' hl'=>hq2 _ _ rfl hl'
 ·subst hv2
  have g:=hq.h h2 (l1.h.trans hl2)
  have ea:(!(l.any fun e=>!kb e d))=yo l d:=by rw [kj,List.all_eq_not_any_not]
  rw [← ea] at g
  replace g:=Hid.mk g
  clear hl2 ea
  simp only [za, *]
  exact g.h
theorem all_c:∀ (d:Nat),d≤1000→AllC d:=by
 intro d
 induction d with
 | zero=>intro hd;exact all_of hd fun d' hd'=>by omega
 | succ d ih=>intro hd;exact all_of hd fun d' hd'=>by cases hd';exact ih (by omega)
end Go.Eng.Sy
