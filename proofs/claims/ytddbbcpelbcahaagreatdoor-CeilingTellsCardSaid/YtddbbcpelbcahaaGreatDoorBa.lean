/-
  Part of a proof of the laws of layer 09 (ceiling): what each function does.
  Conditions: none.
-/
import Derived.Lib.SmallJoins
import Derived.Lib.Strings
import Derived.Test.YtddbbcpelbcahaaGreatDoorEc
import Derived.Test.YtddbbcpelbcahaaGreatDoorC
set_option linter.unusedSimpArgs false
set_option linter.unusedVariables false
namespace Go.Eng
open Go
theorem zq6 (l:lBq):(ByteArray.mk l.toArray).toList=l:=by
 simp
theorem ba_eq {x:ByteArray}{l:lBq}(h:x.data.toList=l):x=⟨l.toArray⟩:=by
 subst h;cases x;rfl
theorem yi3 (l:lBq) (a b:Nat):(ByteArray.mk l.toArray).extract a b=⟨((l.drop a).take (b - a)).toArray⟩:=by
 apply ba_eq;simp
theorem Jl (l:lBq):Wo [.string ⟨l.toArray⟩]=some (iI l.length):=by
 simp [Wo,ByteArray.size]
theorem idx_S {l:lBq}{i:Nat}{b:UInt8}(h:l[i]? = some b) (k:IntKind):Wp [.string ⟨l.toArray⟩,.int k (i:Int)]=some (.int .u8 b.toNat):=by
 have hi:=(List.getElem?_eq_some_iff.1 h);have:(ByteArray.mk l.toArray)[i]? = some b:=by
  obtain ⟨h1,h2⟩:=hi;have h3:i < (ByteArray.mk l.toArray).size:=by simpa [ByteArray.size] using h1
  rw [getElem?_pos (ByteArray.mk l.toArray) i h3];simp [ByteArray.getElem_eq_getElem_data,h2]
 simp [Wp,this]
theorem Jp (a b:lBq):yj7 .eql ⟨a.toArray⟩ ⟨b.toArray⟩=some (.bool (a == b)):=by
 simp [yj7,zq6]
theorem ne_S (a b:lBq):yj7 .neq ⟨a.toArray⟩ ⟨b.toArray⟩=some (.bool !(a == b)):=by
 simp [yj7,zq6]
theorem cat_S {a b:lBq}(h:(a.length + b.length:Nat)≤9223372036854775807):yj7 .add ⟨a.toArray⟩ ⟨b.toArray⟩=some (.string ⟨(a++b).toArray⟩):=by
 have:(ByteArray.mk a.toArray).size + (ByteArray.mk b.toArray).size≤9223372036854775807:=by simpa [ByteArray.size] using h
 simp only [yj7,this,if_true];rw [ba_eq (x:=ByteArray.mk a.toArray++ByteArray.mk b.toArray) (l:=a++b) (by simp)]
theorem cutHi_S {l:lBq}{n:Nat}(h:n≤l.length):Z1 false true [.string ⟨l.toArray⟩,iI (n:Int)]=some (.string ⟨(l.take n).toArray⟩):=by
 have h2:n≤(ByteArray.mk l.toArray).size:=by simpa [ByteArray.size] using h
 simp [Z1,Uh,h2,yi3]
end Go.Eng
namespace Go.Eng.Sy
open Go Go.Eng Go.Proofs
def nmZ (z:Int):Bool:=(decide (97≤z) && decide (z≤122)) || (decide (65≤z) && decide (z≤90)) || (z == 95) || (decide (48≤z) && decide (z≤57))
def nm (b:UInt8):Bool:=nmZ b.toNat
theorem part_c (z:Int) (h:Heap) (Q:vPq) (hq:Q (.bool (nmZ z)) h):CallW Tryz.prog 135 [.int .u8 z] h Q:=by
 refine zg (k:=1) ok135 rfl rfl rfl fun N=>?_;rw [Yo c135 kv rfl];delta c135;replace hq:=za hq;have go:∀ b,nmZ z=b→Q (.bool b) h:=fun b hb=>by rw [← hb];exact hq.h
 replace go:=Hid.mk go;clear hq;by_cases h1:97≤z<;>by_cases h2:z≤122
 ·simp only [zb,ze,zf, *];exact go.h _ (by simp [nmZ,h1,h2])
 all_goals by_cases h3:65≤z<;>by_cases h4:z≤90
 all_goals cases h5:(z == 95)
 all_goals by_cases h6:48≤z<;>by_cases h7:z≤57
 all_goals first
  | (exfalso;omega)
  | (
    simp only [zb,ze,zf, *];exact go.h _ (by simp only [nmZ,h1,h2,h3,h4,h5,h6,h7];rfl))
theorem zn {z:Int}(h1 : -9223372036854775808≤z) (h2:z≤9223372036854775807):IntKind.i64.wrap z=z:=by
 rw [IntKind.wrap_i64];omega
abbrev str (l:lBq):Value:=.string ⟨l.toArray⟩
theorem yk5 {p:UInt8→Bool}:∀ {l:lBq}{i:Nat}{b:UInt8},i≤(l.takeWhile p).length→l[i]? = some b→(p b=true→i + 1≤(l.takeWhile p).length)∧(p b=false→(l.takeWhile p).length=i)
 | [],i,b,h,hb=>by simp at hb
 | x::l,0,b,h,hb=>by
  simp at hb;subst hb;constructor
  ·intro hp;simp [List.takeWhile_cons,hp]
  ·intro hp;simp [List.takeWhile_cons,hp]
 | x::l,i + 1,b,h,hb=>by
  cases hx:p x with
  | false=>simp [List.takeWhile_cons,hx] at h
  | true =>
   have:=yk5 (p:=p) (l:=l) (i:=i) (b:=b) (by simpa [List.takeWhile_cons,hx] using h) (by simpa using hb);constructor
   ·intro hp;have:=this.1 hp;simp [List.takeWhile_cons,hx];omega
   ·intro hp;have:=this.2 hp;simp [List.takeWhile_cons,hx];omega
def Kh (l:lBq):Nat:=(l.takeWhile nm).length
theorem runN_le (l:lBq):Kh l≤l.length:=by
 have:=(List.takeWhile_prefix (p:=nm) (l:=l)).length_le;exact this
theorem run_c {l:lBq}(hl:l.length≤1000000000) (h:Heap) (Q:vPq) (hq:∀ h',h.le h' → Q (iI (Kh l)) h'):CallW Tryz.prog 99 [str l] h Q:=by
 refine zg (k:=1) ok99 rfl rfl rfl fun N=>?_;rw [Yo c99 J4 rfl];delta c99;replace hq:=za hq;simp only [zb,Jl, *];refine LoopW.upto l.length (fun i e h1=>h.le h1∧i≤Kh l ∧ ∃ x2 x5,e=[str l,iI 0,x2,iI l.length,iI i,x5]) ?_ (Nat.zero_le _) ⟨Heap.le.refl _,Nat.zero_le _,_,_,rfl⟩;rintro i _ h1 R hi ⟨hl1,hpre,x2,x5,rfl⟩ hR;replace hpre:=Hid.mk hpre;delta c99_l7;by_cases hlt:i < l.length
 case neg =>
  have hlt' : ¬ (i:Int) < l.length:=by omega
  have hii:l.length=Kh l:=by
   have:=runN_le l;have:=hpre.h;omega
  replace hii:=Hid.mk hii;simp only [zb,ze,zf,Jl, *];have:=hq.h _ hl1;rw [← hii.h] at this;exact this
 case pos =>
  have hlt' : (i:Int) < l.length:=by omega
  have hwj:IntKind.i64.wrap ((i:Int) + 1)=((i + 1:Nat):Int):=by rw [zn (by omega) (by omega)];rfl
  obtain ⟨b,hb⟩:∃ b,l[i]? = some b:=⟨_,List.getElem?_eq_getElem hlt⟩;have st:=yk5 (p:=nm) hpre.h hb;replace st:=Hid.mk st;have ix:=idx_S hb .i64;simp only [zb,ze,zf, *];refine part_c _ _ _ ?_;cases hp:nmZ b.toNat with
  | true =>
   simp only [zb,ze,zf, *];exact hR.h _ _ hlt ⟨hl1,st.h.1 hp,_,_,rfl⟩
  | false =>
   have:=st.h.2 hp;simp only [zb, *];have h2:=hq.h _ hl1;rw [show Kh l=i from this] at h2;exact h2
def Strs (h:Heap) (v:Value) (l:List (lBq)):Prop:=SlV h 1 v (l.map fun s=>[str s])
theorem Strs.mono {h h' : Heap}(hl:h.le h'){v:Value}{l:List (lBq)}(ha:Strs h v l):Strs h' v l:=SlV.mono hl ha
theorem Strs.len {h:Heap}{v:Value}{l:List (lBq)}(ha:Strs h v l):ua [v]=some (iI l.length):=by simpa using SlV.len ha
theorem Strs.elem {h:Heap}{v:Value}{l:List (lBq)}(ha:Strs h v l){i:Nat}{s:lBq}(hi:l[i]? = some s) :
  ∃ id off cells own,zp 1 [v,iI i]=some (pT id off)∧h.get id=some (.blk cells own)∧cells[off]? = some (str s)∧True:=by
 obtain ⟨id,off,cells,own,h1,h2,h3,h4⟩:=SlV.elem ha (i:=i) (x:=[str s]) (by simp [hi]);exact ⟨id,off,cells,own,h1,h2,by simpa using h4 0 (by omega),trivial⟩
theorem index_c {v:Value}{l:List (lBq)}(hl:l.length≤1000000) (s:lBq){h:Heap}(hv:Strs h v l) (Q:vPq)
  (hq:∀ (z:Int) h',(decide (0≤z)=l.contains s)→h.le h' → Q (iI z) h'):CallW Tryz.prog 169 [v,str s] h Q:=by
 refine zg (k:=2) ok169 rfl rfl rfl fun N=>?_;rw [wn c169 J4 rfl];delta c169;replace hq:=za hq;simp only [zb,hv.len, *];refine LoopW.upto l.length (fun i e h1=>h.le h1∧(l.take i).contains s=false ∧ ∃ x2 x5,e=[v,str s,iI 0,x2,iI l.length,iI i,x5]) ?_ (Nat.zero_le _) ⟨Heap.le.refl _,by simp,_,_,rfl⟩;rintro i _ h1 R hi ⟨hl1,hpre,x2,x5,rfl⟩ hR;replace hpre:=Hid.mk hpre;have sv1:=hv.mono hl1;delta yz5;by_cases hlt:i < l.length
 case neg =>
  have hlt' : ¬ (i:Int) < l.length:=by omega
  have hii:i=l.length:=by omega
  have hno:l.contains s=false:=by
   have:=hpre.h
   rwa [hii,List.take_length] at this
  replace hno:=Hid.mk hno;replace hii:=Hid.mk hii;simp only [zb,ze,zf, *];exact hq.h _ _ (by rw [hno.h];rfl) hl1
 case pos =>
  have hlt' : (i:Int) < l.length:=by omega
  have hwj:IntKind.i64.wrap ((i:Int) + 1)=((i + 1:Nat):Int):=by rw [zn (by omega) (by omega)];rfl
  obtain ⟨b,hb⟩:∃ b,l[i]? = some b:=⟨_,List.getElem?_eq_getElem hlt⟩;obtain ⟨id,off,cells,own,e1,e2,e3,_⟩:=sv1.elem hb;replace hb:=Hid.mk hb;cases hs:(s == b) with
  | true =>
   have hsb:s=b:=by simpa using hs
   have hin:l.contains s=true:=by
    rw [hsb];simpa using List.mem_of_getElem? hb.h
   replace hsb:=Hid.mk hsb;replace hin:=Hid.mk hin;simp only [zb,aR,ze,zf,Jp, *];exact hq.h _ _ (by rw [hin.h];simp) hl1
  | false =>
   have hnx:(l.take (i + 1)).contains s=false:=by
    have h1:=hpre.h;rw [List.take_add_one,hb.h];have h2:s≠b:=by simpa using hs
    simp at h1 ⊢;exact ⟨h1,h2⟩
   replace hnx:=Hid.mk hnx;simp only [zb,aR,ze,zf,Jp, *];exact hR.h _ _ hlt ⟨hl1,hnx.h,_,_,rfl⟩
theorem za5 {v:Value}{l:List (lBq)}(hl:l.length≤1000000) (s:lBq){h:Heap}(hv:Strs h v l) (Q:vPq)
  (hq:∀ h',h.le h' → Q (.bool (l.contains s)) h'):CallW Tryz.prog 140 [v,str s] h Q:=by
 refine zg (k:=2) ok140 rfl rfl rfl fun N=>?_;rw [wn c140 kv rfl];delta c140;replace hq:=za hq;simp only [zb, *];refine index_c hl s hv _ fun z h1 hz hl1=>?_;have go:∀ b,b=l.contains s→Q (.bool b) h1:=fun b hb=>by rw [hb];exact hq.h _ hl1
 replace go:=Hid.mk go;by_cases h0:0≤z
 ·rw [decide_eq_true h0] at hz;replace hz:=Hid.mk hz;simp only [zb,ze,zf, *];exact go.h _ hz.h
 ·rw [decide_eq_false h0] at hz;replace hz:=Hid.mk hz;simp only [zb,ze,zf, *];exact go.h _ hz.h
theorem za4:∀ (vs done rest:lVq) (k:Nat),done.length=k→rest.length=vs.length→(∀ v ∈ vs,v.cells.toList=[v]∧v.oneCell' = true) →
  Zj (done++rest) (((List.range' k vs.length).map fun i=>(i,1)).zip vs)=some (done++vs)
 | [],done,rest,k,_,hr,_=>by
  have:rest=[]:=List.length_eq_zero_iff.1 (by simpa using hr);subst this;simp [Zj]
 | v::vs,done,r::rest,k,hd,hr,h1=>by
  obtain ⟨a,b⟩:=h1 v (by simp);have ih:=za4 vs (done++[v]) rest (k + 1) (by simp [hd]) (by simpa using hr) fun x hx=>h1 x (by simp [hx]);simp only [List.length_cons,List.range'_succ,List.map_cons,List.zip_cons_cons,Zj,a];rw [if_pos ⟨rfl,by simp;omega,by simp [b]⟩];have e1:(done++r::rest).take k=done:=by rw [← hd];simp
  have e2:(done++r::rest).drop (k + 1)=rest:=by rw [← hd,← List.drop_drop];simp
  rw [e1,e2];simpa using ih
 | v::vs,done,[],k,hd,hr,h1=>by simp at hr
theorem ql {zs vs:lVq}{parts:List (Nat × Nat)}{n:Nat}(hp:parts=(List.range' 0 vs.length).map fun i=>(i,1)) (hz:zs.length=vs.length) (hn:n=vs.length) (h1:∀ v ∈ vs,v.cells.toList=[v]∧v.oneCell' = true) :
  yj zs parts n 1 vs=some (vs,fun id=>.slice (some ⟨id,0,none⟩) n 1):=by
 have:=za4 vs [] zs 0 rfl hz h1;subst hp;simp only [yj,List.length_map,List.length_range',if_true];rw [show zs=[]++zs from rfl,this];rfl
theorem Kf (h:Heap) (l:List (lBq)){n:Nat}{cells:lVq}(hn:n=l.length) (hc:cells=l.map str):Strs (h.alloc (.blk cells true)) (.slice (some ⟨h.next,0,none⟩) n 1) l:=by
 subst hn;subst hc;refine .inr ⟨h.next,0,by simp,.inr ⟨_,_,Heap.get_alloc_same _ _,fun j x hj=>?_⟩⟩;have hx:∀ x ∈ (l.map fun s=>[str s]),x.length=1:=by simp
 obtain ⟨h1,h2⟩:=yw hx j x hj;have hf:(l.map fun s=>[str s]).flatten=l.map str:=by
  clear h1 h2 hx hj;induction l with
  | nil=>rfl
  | cons a l ih=>simp [ih]
 rw [hf] at h1 h2;exact ⟨hx x (List.mem_of_getElem? hj),by simpa using h1,by simpa using h2⟩
def wordsL:List (lBq):=[[104,97,114,116,115],[100,101,118,105,99,101],[117,97,114,116],[116,105,109,101,114],[103,112,105,111],[114,101,115,111,117,114,99,101],[116,97,115,107],[104,97,110,100,108,101,114],[108,111,99,107],[105,102],[101,108,115,101],[114,101,112,101,97,116],[104,97,108,116]]
theorem zq2:yj [s0q,s0q,s0q,s0q,s0q,s0q,s0q,s0q,s0q,s0q,s0q,s0q,s0q] [(0,1),(1,1),(2,1),(3,1),(4,1),(5,1),(6,1),(7,1),(8,1),(9,1),(10,1),(11,1),(12,1)] 13 1 [.string ⟨#[104,97,114,116,115]⟩,.string ⟨#[100,101,118,105,99,101]⟩,.string ⟨#[117,97,114,116]⟩,.string ⟨#[116,105,109,101,114]⟩,.string ⟨#[103,112,105,111]⟩,.string ⟨#[114,101,115,111,117,114,99,101]⟩,.string ⟨#[116,97,115,107]⟩,.string ⟨#[104,97,110,100,108,101,114]⟩,.string ⟨#[108,111,99,107]⟩,.string ⟨#[105,102]⟩,.string ⟨#[101,108,115,101]⟩,.string ⟨#[114,101,112,101,97,116]⟩,.string ⟨#[104,97,108,116]⟩]=some ([.string ⟨#[104,97,114,116,115]⟩,.string ⟨#[100,101,118,105,99,101]⟩,.string ⟨#[117,97,114,116]⟩,.string ⟨#[116,105,109,101,114]⟩,.string ⟨#[103,112,105,111]⟩,.string ⟨#[114,101,115,111,117,114,99,101]⟩,.string ⟨#[116,97,115,107]⟩,.string ⟨#[104,97,110,100,108,101,114]⟩,.string ⟨#[108,111,99,107]⟩,.string ⟨#[105,102]⟩,.string ⟨#[101,108,115,101]⟩,.string ⟨#[114,101,112,101,97,116]⟩,.string ⟨#[104,97,108,116]⟩],fun id=>.slice (some ⟨id,0,none⟩) 13 1):=ql rfl rfl rfl (by simp [Value.cells,Value.oneCell'])
theorem words_c (h:Heap) (Q:vPq) (hq:∀ v h',Strs h' v wordsL→h.le h' → Q v h'):CallW Tryz.prog 141 [] h Q:=by
 refine zg (k:=0) ok141 rfl rfl rfl fun N=>?_;rw [ev0q c141 kv rfl];delta c141;replace hq:=za hq;simp only [zb,zq2, *];exact hq.h _ _ (Kf h wordsL rfl rfl) ((Heap.le.refl h).alloc _)
def Zf (l:lBq):Bool:=wordsL.contains l
theorem word_c {l:lBq}(h:Heap) (Q:vPq) (hq:∀ h',h.le h' → Q (.bool (Zf l)) h'):CallW Tryz.prog 106 [str l] h Q:=by
 refine zg (k:=1) ok106 rfl rfl rfl fun N=>?_;rw [Yo c106 kv rfl];delta c106;replace hq:=za hq;simp only [zb, *];refine words_c h _ fun v h1 sv hl1=>?_;simp only [zb, *];refine za5 (by decide) l sv _ fun h2 hl2=>?_;have:=hq.h _ (hl1.trans hl2);replace this:=Hid.mk this;simp only [zb, *];exact this.h
def zo (l:lBq):Bool:=match l with
 | []=>false
 | b::r=>decide ((b::r).length≤20) && (Kh (b::r) == (b::r).length) && decide (57 < (b.toNat:Int)) && !Zf (b::r)
theorem Yp {l:lBq}(h:Heap) (Q:vPq) (hq:∀ h',h.le h' → Q (.bool (zo l)) h'):CallW Tryz.prog 66 [str l] h Q:=by
 refine zg (k:=1) ok66 rfl rfl rfl fun N=>?_;rw [Yo c66 kv rfl];delta c66;replace hq:=za hq;cases l with
 | nil =>
  have:zo []=false:=rfl;simp only [zb,ze,ne_S, *];have:=hq.h h (Heap.le.refl h);exact this
 | cons b r =>
  obtain ⟨l,hl⟩:∃ l,b::r=l:=⟨_,rfl⟩;have hb:l[0]? = some b:=by rw [← hl];rfl
  have ix:=idx_S hb .i64;rw [Int.ofNat_zero] at ix;have hne:(l == [])=false:=by rw [← hl];rfl
  have hsp:zo l=(decide (l.length≤20) && (Kh l == l.length) && decide (57 < (b.toNat:Int)) && !Zf l):=by rw [← hl];rfl
  rw [hl] at hq ⊢;clear hl hb;have go:∀ h' c,h.le h' → c=zo l→Q (.bool c) h':=fun h' c hl e=>by rw [e];exact hq.h _ hl
  rw [hsp] at go;replace go:=Hid.mk go;clear hsp hq;by_cases h20:(l.length:Int)≤20
  ·have h20' : l.length≤20:=by omega
   simp only [zb,ze,zf,ne_S,Jl, *];refine run_c (by omega) h _ fun h1 hl1=>?_;have hrr:(Kh l == l.length)=((Kh l:Int) == (l.length:Int)):=by
    rw [Bool.eq_iff_iff];simp only [beq_iff_eq];omega
   cases hr:((Kh l:Int) == (l.length:Int)) with
   | false =>
    have g:=go.h h1 false hl1 (by rw [hrr,hr];simp);replace g:=Hid.mk g;clear hrr;simp only [zb,ze,zf,Jl, *];exact g.h
   | true =>
    by_cases h57:(57:Int) < (b.toNat:Int)
    ·replace hrr:=Hid.mk hrr;simp only [zb,ze,zf,Jl, *];refine word_c h1 _ fun h2 hl2=>?_;have g:=go.h h2 (!Zf l) (hl1.trans hl2) (by rw [hrr.h,hr,decide_eq_true h57,decide_eq_true h20'];simp);replace g:=Hid.mk g;simp only [zb, *];exact g.h
    ·have g:=go.h h1 false hl1 (by rw [decide_eq_false h57];simp);replace g:=Hid.mk g;clear hrr;simp only [zb,ze,zf,Jl, *];exact g.h
  ·have g:=go.h h false (Heap.le.refl h) (by rw [decide_eq_false (by omega:¬ l.length≤20)];simp);replace g:=Hid.mk g;simp only [zb,ze,zf,ne_S,Jl, *];exact g.h
theorem zn4 {l p:lBq}(h:Heap) (Q:vPq) (hq:Q (.bool (p.isPrefixOf l)) h):CallW Tryz.prog 137 [str l,str p] h Q:=by
 refine zg (k:=2) ok137 rfl rfl rfl fun N=>?_;rw [wn c137 kv rfl];delta c137;replace hq:=za hq;have go:∀ b,b=p.isPrefixOf l→Q (.bool b) h:=fun b hb=>by rw [hb];exact hq.h
 replace go:=Hid.mk go;clear hq;by_cases hl:(p.length:Int)≤l.length
 ·have ct:=cutHi_S (l:=l) (n:=p.length) (by omega);have g:=go.h ((l.take p.length) == p) (by
   rw [Bool.eq_iff_iff,beq_iff_eq,List.isPrefixOf_iff_prefix,List.prefix_iff_eq_take];exact eq_comm)
  replace g:=Hid.mk g;simp only [zb,ze,zf,Jl,Jp, *];exact g.h
 ·have g:=go.h false (by
   cases hp:p.isPrefixOf l with
   | false=>rfl
   | true =>
    have:=(List.isPrefixOf_iff_prefix.1 hp).length_le;omega)
  replace g:=Hid.mk g;simp only [zb,ze,zf,Jl, *];exact g.h
theorem zu0 {l p:lBq}(h:Heap) (Q:vPq) (hq:Q (.bool (p.isPrefixOf l)) h):CallW Tryz.prog 103 [str l,str p] h Q:=by
 refine zg (k:=2) ok103 rfl rfl rfl fun N=>?_;rw [wn c103 kv rfl];delta c103;replace hq:=za hq;simp only [zb, *];refine zn4 h _ ?_;obtain ⟨b,hb⟩:∃ b,p.isPrefixOf l=b:=⟨_,rfl⟩;rw [hb] at hq ⊢;clear hb;simp only [zb, *];exact hq.h
theorem wrap8 {z:Int}(h1:0≤z) (h2:z≤255):IntKind.u8.wrap z=z:=by
 rw [IntKind.wrap_u8];omega
def namesL:List (lBq):=[[120],[121],[110],[95,97],[66,50],[105,102,115],[104,97,114,116],[108,111,99,107,49],[88,95,121,95,90],[72,97,108,116]]
theorem J1:yj [s0q,s0q,s0q,s0q,s0q,s0q,s0q,s0q,s0q,s0q] [(0,1),(1,1),(2,1),(3,1),(4,1),(5,1),(6,1),(7,1),(8,1),(9,1)] 10 1 [.string ⟨#[120]⟩,.string ⟨#[121]⟩,.string ⟨#[110]⟩,.string ⟨#[95,97]⟩,.string ⟨#[66,50]⟩,.string ⟨#[105,102,115]⟩,.string ⟨#[104,97,114,116]⟩,.string ⟨#[108,111,99,107,49]⟩,.string ⟨#[88,95,121,95,90]⟩,.string ⟨#[72,97,108,116]⟩]=some ([.string ⟨#[120]⟩,.string ⟨#[121]⟩,.string ⟨#[110]⟩,.string ⟨#[95,97]⟩,.string ⟨#[66,50]⟩,.string ⟨#[105,102,115]⟩,.string ⟨#[104,97,114,116]⟩,.string ⟨#[108,111,99,107,49]⟩,.string ⟨#[88,95,121,95,90]⟩,.string ⟨#[72,97,108,116]⟩],fun id=>.slice (some ⟨id,0,none⟩) 10 1):=ql rfl rfl rfl (by simp [Value.cells,Value.oneCell'])
def namesV:lVq:=[.string ⟨#[120]⟩,.string ⟨#[121]⟩,.string ⟨#[110]⟩,.string ⟨#[95,97]⟩,.string ⟨#[66,50]⟩,.string ⟨#[105,102,115]⟩,.string ⟨#[104,97,114,116]⟩,.string ⟨#[108,111,99,107,49]⟩,.string ⟨#[88,95,121,95,90]⟩,.string ⟨#[72,97,108,116]⟩]
theorem zj4 : yj [s0q,s0q,s0q,s0q,s0q,s0q,s0q,s0q,s0q,s0q,s0q,s0q,s0q] [(0,1),(1,1),(2,1),(3,1),(4,1),(5,1),(6,1),(7,1),(8,1),(9,1),(10,1),(11,1),(12,1)] 13 1 [.string ⟨#[104,97,114,116,115]⟩,.string ⟨#[100,101,118,105,99,101]⟩,.string ⟨#[117,97,114,116]⟩,.string ⟨#[116,105,109,101,114]⟩,.string ⟨#[103,112,105,111]⟩,.string ⟨#[114,101,115,111,117,114,99,101]⟩,.string ⟨#[116,97,115,107]⟩,.string ⟨#[104,97,110,100,108,101,114]⟩,.string ⟨#[108,111,99,107]⟩,.string ⟨#[105,102]⟩,.string ⟨#[101,108,115,101]⟩,.string ⟨#[114,101,112,101,97,116]⟩,.string ⟨#[104,97,108,116]⟩]=some ([.string ⟨#[104,97,114,116,115]⟩,.string ⟨#[100,101,118,105,99,101]⟩,.string ⟨#[117,97,114,116]⟩,.string ⟨#[116,105,109,101,114]⟩,.string ⟨#[103,112,105,111]⟩,.string ⟨#[114,101,115,111,117,114,99,101]⟩,.string ⟨#[116,97,115,107]⟩,.string ⟨#[104,97,110,100,108,101,114]⟩,.string ⟨#[108,111,99,107]⟩,.string ⟨#[105,102]⟩,.string ⟨#[101,108,115,101]⟩,.string ⟨#[114,101,112,101,97,116]⟩,.string ⟨#[104,97,108,116]⟩],fun id=>.slice (some ⟨id,0,none⟩) 13 1):=ql rfl rfl rfl (by simp [Value.cells,Value.oneCell'])
example:wordsL=[[104,97,114,116,115],[100,101,118,105,99,101],[117,97,114,116],[116,105,109,101,114],[103,112,105,111],[114,101,115,111,117,114,99,101],[116,97,115,107],[104,97,110,100,108,101,114],[108,111,99,107],[105,102],[101,108,115,101],[114,101,112,101,97,116],[104,97,108,116]]:=rfl
def pick (c n:Int):Int:=(if c < 0 then IntKind.i64.wrap (0 - IntKind.i64.wrap (c + 1)) else c).tmod n
def inI (z:Int):Prop:=-9223372036854775808≤z∧z≤9223372036854775807
theorem yf4 {c n:Int}(hc:inI c) (hn:0 < n):0≤pick c n∧pick c n < n:=by
 unfold pick inI at *;split
 ·rw [zn (z:=c + 1) (by omega) (by omega),zn (by omega) (by omega)];exact ⟨Int.tmod_nonneg _ (by omega),Int.tmod_lt_of_pos _ hn⟩
 ·exact ⟨Int.tmod_nonneg _ (by omega),Int.tmod_lt_of_pos _ hn⟩
theorem pick_c (c n:Int) (hn:n≠0) (h:Heap) (Q:vPq) (hq:Q (iI (pick c n)) h):CallW Tryz.prog 110 [iI c,iI n] h Q:=by
 refine zg (k:=2) ok110 rfl rfl rfl fun N=>?_;rw [wn c110 kv rfl];delta c110;replace hq:=za hq;have hq1:c < 0→Q (iI ((IntKind.i64.wrap (0 - IntKind.i64.wrap (c + 1))).tmod n)) h:=fun hc=>by have:=hq.h;rwa [pick,if_pos hc] at this
 have hq2:¬ c < 0→Q (iI (c.tmod n)) h:=fun hc=>by have:=hq.h;rwa [pick,if_neg hc] at this
 replace hq1:=Hid.mk hq1;replace hq2:=Hid.mk hq2;repeat' (first | simp only [zb,ze,zf, *] | with_reducible (first | refine kcd ?_ ?_ | refine kgd ?_ ?_ | refine kci ?_ ?_ | refine kgi ?_ ?_)<;>intro hc)
 ·exact hq1.h (by assumption)
 ·exact hq2.h (by assumption)
def zl5 (c:Int) (n:Nat):Nat:=(pick c n).toNat
theorem zd0 {c:Int}(hc:inI c){n:Nat}(hn:0 < n):zl5 c n < n∧((zl5 c n:Nat):Int)=pick c n:=by
 have:=yf4 (n:=(n:Int)) hc (by omega);unfold zl5;omega
def zr2 (n:Nat):lBq:=if 10≤n then zr2 (n / 10)++[UInt8.ofNat (48 + n % 10)] else [UInt8.ofNat (48 + n % 10)]
theorem zf5:∀ (k n:Nat),n < 10 ^ (k + 1)→(zr2 n).length≤k + 1
 | 0,n,h=>by unfold zr2;split<;>simp;omega
 | k + 1,n,h=>by
  unfold zr2;split
  ·have:=zf5 k (n / 10) (by rw [Nat.pow_succ] at h;omega);simp;omega
  ·simp
theorem dec_byte (n:Nat):(IntKind.u8.wrap (48 + ((n:Int).tmod 10)))=((UInt8.ofNat (48 + n % 10)).toNat:Int):=by
 have h1:(n:Int).tmod 10=((n % 10:Nat):Int):=by
  rw [Int.tmod_eq_emod_of_nonneg (by omega)];omega
 rw [h1,wrap8 (by omega) (by omega)];simp;omega
theorem qa9 {h:Heap}{id:Nat}{b:UInt8}{o:Bool}(hg:h.get id=some (.blk [.int .u8 b.toNat] o)):aR .bytesStr [.slice (some ⟨id,0,none⟩) 1 1] h.get=some (str [b]):=by
 simp [aR,hg,V6]
theorem yv0 (n:Nat):∀ (hn:n≤9223372036854775807) (h:Heap) (Q:vPq),(∀ h',h.le h' → Q (str (zr2 n)) h')→CallW Tryz.prog 111 [iI n] h Q:=by
 induction n using Nat.strongRecOn with
 | _ n ih =>
 intro hn h Q hq;have hb:=dec_byte n;have h48:IntKind.i64.wrap (48 + (n:Int).tmod 10)=48 + (n:Int).tmod 10:=by
  have h1:(n:Int).tmod 10=((n % 10:Nat):Int):=by
   rw [Int.tmod_eq_emod_of_nonneg (by omega)];omega
  rw [h1];exact zn (by omega) (by omega)
 refine zg (k:=1) ok111 rfl rfl rfl fun N=>?_;rw [Yo c111 Zm rfl];delta c111;replace hq:=za hq;obtain ⟨q,hqq⟩:∃ x,h.next=x:=⟨_,rfl⟩;have bs:yj [.int .u8 0] [(0,1)] 1 1 [.int .u8 ((UInt8.ofNat (48 + n % 10)).toNat:Int)]=some ([.int .u8 ((UInt8.ofNat (48 + n % 10)).toNat:Int)],fun id=>.slice (some ⟨id,0,none⟩) 1 1):=ui rfl rfl rfl rfl;obtain ⟨h1,hh1⟩:∃ x,h.alloc (.blk [.int .u8 ((UInt8.ofNat (48 + n % 10)).toNat:Int)] true)=x:=⟨_,rfl⟩;have g1:h1.get q=some (.blk [.int .u8 ((UInt8.ofNat (48 + n % 10)).toNat:Int)] true):=by rw [← hh1,← hqq];exact Heap.get_alloc_same _ _
 have l1:h.le h1:=by rw [← hh1];exact (Heap.le.refl _).alloc _
 have b1:=qa9 g1;have hq' : ∀ h',h1.le h' → Q (str (zr2 n)) h':=fun h' hl=>hq.h h' (l1.trans hl);replace hq':=Hid.mk hq';clear hq l1;have hun:zr2 n=if 10≤n then zr2 (n / 10)++[UInt8.ofNat (48 + n % 10)] else [UInt8.ofNat (48 + n % 10)]:=by rw [zr2]
 have h100:¬ (10:Int)=0:=by decide
 by_cases h10:10≤n
 ·have h10' : (10:Int)≤(n:Int):=by omega
  rw [if_pos h10] at hun;have hdv:IntKind.i64.wrap ((n:Int).tdiv 10)=((n / 10:Nat):Int):=by
   rw [Int.tdiv_eq_ediv_of_nonneg (by omega),zn (by omega) (by omega)];omega
  replace ih:=Hid.mk ih;replace hun:=Hid.mk hun;simp only [zb,ze,zf, *];refine ih.h (n / 10) (by omega) (by omega) h1 _ fun h2 l2=>?_;have hlen:=zf5 18 (n / 10) (by omega);have ct:=cat_S (a:=zr2 (n / 10)) (b:=[UInt8.ofNat (48 + n % 10)]) (by simp;omega);have g:=hq'.h h2 l2;rw [hun.h] at g;replace g:=Hid.mk g;clear l2;simp only [zb,ze, *];exact g.h
 ·have h10' : ¬ (10:Int)≤(n:Int):=by omega
  rw [if_neg h10] at hun;have g:=hq'.h h1 (Heap.le.refl _);rw [hun] at g;replace g:=Hid.mk g;clear hun ih;simp only [zb,ze,zf, *];exact g.h
abbrev Ints (h:Heap) (v:Value) (l:List Int):Prop:=SlV h 1 v (l.map fun z=>[iI z])
theorem Ints.len {h:Heap}{v:Value}{l:List Int}(hv:Ints h v l):ua [v]=some (iI l.length):=by have:=SlV.len hv;simpa using this
theorem Ints.elem {h:Heap}{v:Value}{l:List Int}(hv:Ints h v l){i:Nat}{z:Int}(hi:l[i]? = some z) :
  ∃ id off cells own,zp 1 [v,iI i]=some (pT id off)∧h.get id=some (.blk cells own)∧cells[off]? = some (iI z):=by
 obtain ⟨id,off,cells,own,h1,h2,h3,h4⟩:=SlV.elem hv (i:=i) (x:=[iI z]) (by simp [hi]);exact ⟨id,off,cells,own,h1,h2,by have:=h4 0 (by omega);rwa [Nat.add_zero] at this⟩
def varK (k:Nat):lBq:=if 10≤k then namesL.getD (k % 10) []++zr2 k else namesL.getD (k % 10) []
def varL (n:Int):lBq:=varK (zl5 n 300)
theorem yp5:∀ j:Fin 10,(namesL.getD j.val []).length≤10:=by decide
theorem getD_some {α:Type}{l:List α}{i:Nat}(h:i < l.length) (d:α):l[i]? = some (l.getD i d):=by
 simp [List.getElem?_eq_getElem h]
theorem var_c {n:Int}(hn:inI n) (h:Heap) (Q:vPq) (hq:∀ h',h.le h' → Q (str (varL n)) h'):CallW Tryz.prog 74 [iI n] h Q:=by
 obtain ⟨hlt,hpk⟩:=zd0 hn (n:=300) (by omega);have hvl:varL n=varK (zl5 n 300):=rfl;rw [hvl] at hq;clear hvl;obtain ⟨k,hk⟩:∃ k,zl5 n 300=k:=⟨_,rfl⟩;rw [hk] at hlt hpk hq;have hk10:(k:Int).tmod 10=((k % 10:Nat):Int):=by
  rw [Int.tmod_eq_emod_of_nonneg (by omega)];omega
 refine zg (k:=1) ok74 rfl rfl rfl fun N=>?_;rw [Yo c74 u0 rfl];delta c74;replace hq:=za hq;simp only [zb, *];refine pick_c _ 300 (by decide) h _ ?_;have hpk' : pick n 300=(k:Int):=hpk.symm;rw [hpk'];clear hpk hpk' hk;have sv:=Kf h namesL (n:=10) (cells:=namesV) rfl rfl;obtain ⟨q,hqq⟩:∃ x,h.next=x:=⟨_,rfl⟩;obtain ⟨h1,hh1⟩:∃ x,h.alloc (.blk namesV true)=x:=⟨_,rfl⟩;have l1:h.le h1:=by rw [← hh1];exact (Heap.le.refl _).alloc _
 rw [hqq,hh1] at sv;have hj:k % 10 < 10:=Nat.mod_lt _ (by omega);have gx:=getD_some (l:=namesL) (i:=k % 10) hj [];have nl:=yp5 ⟨k % 10,hj⟩;obtain ⟨id,off,cells,own,e1,e2,e3,_⟩:=sv.elem gx;have hun:varK k=if 10≤k then namesL.getD (k % 10) []++zr2 k else namesL.getD (k % 10) []:=rfl
 simp only at nl;obtain ⟨x,hx⟩:∃ x,namesL.getD (k % 10) []=x:=⟨_,rfl⟩;rw [hx] at hun nl e3;clear gx sv hx;replace hun:=Hid.mk hun;have h100:¬ (10:Int)=0:=by decide
 have hh1' : h.alloc (.blk [.string ⟨#[120]⟩,.string ⟨#[121]⟩,.string ⟨#[110]⟩,.string ⟨#[95,97]⟩,.string ⟨#[66,50]⟩,.string ⟨#[105,102,115]⟩,.string ⟨#[104,97,114,116]⟩,.string ⟨#[108,111,99,107,49]⟩,.string ⟨#[88,95,121,95,90]⟩,.string ⟨#[72,97,108,116]⟩] true)=h1:=hh1;clear hh1;by_cases h10:10≤k
 ·have h10' : (10:Int)≤(k:Int):=by omega
  have hlen:=zf5 18 k (by omega);have ct:=cat_S (a:=x) (b:=zr2 k) (by omega);simp only [zb,aR,ze,zf,J1, *];refine yv0 k (by omega) h1 _ fun h2 l2=>?_;have g:=hq.h h2 (l1.trans l2);rw [hun.h,if_pos h10] at g;replace g:=Hid.mk g;clear l2;simp only [zb,ze, *];exact g.h
 ·have h10' : ¬ (10:Int)≤(k:Int):=by omega
  have g:=hq.h h1 l1;rw [hun.h,if_neg h10] at g;replace g:=Hid.mk g;clear l1;simp only [zb,aR,ze,zf,J1, *];exact g.h
theorem ys2 {slots:List Slot}{i n c:Nat}{isNil:Bool}{s:Slot}(hs:slots[i]? = some s){xs:List (lVq)}(hn:xs.length=n) (hx:∀ x ∈ xs,x.length=c) (hnil:isNil=true→n=0)
  (hblk:isNil=false → ∃ loc,s=some (.blk xs.flatten false,loc)):SlV (Z8 slots) c (Yn i n c isNil) xs:=by
 subst hn;cases isNil with
 | true=>exact .inl ⟨rfl,List.length_eq_zero_iff.1 (hnil rfl)⟩
 | false =>
  obtain ⟨loc,rfl⟩:=hblk rfl;refine .inr ⟨i,0,rfl,.inr ⟨_,_,by simp only [Z8,hs];rfl,fun j x hj=>?_⟩⟩;obtain ⟨h1,h2⟩:=yw hx j x hj;exact ⟨hx x (List.mem_of_getElem? hj),by omega,by simpa using h2⟩
theorem wf_in {z:Int}(h:(Lit.int .i64 z).wf=true):inI z:=by
 simp [Lit.wf,IntKind.min,IntKind.max,IntKind.signed,IntKind.bits] at h;exact ⟨by omega,by omega⟩
theorem yt2 (l:List Int):(l.map fun z=>[Value.int .i64 z]).flatten=l.map (.int .i64):=by
 induction l with
 | nil=>rfl
 | cons a l ih=>simp [ih]
theorem zt6 {slots:List Slot}{i n:Nat}{isNil:Bool}{s:Slot}(hs:slots[i]? = some s){l:List Int}(hl:l.length=n * 1) (hnil:isNil=true→n=0)
  (hblk:isNil=false → ∃ loc,s=some (.blk (l.map (.int .i64)) false,loc)):Ints (Z8 slots) (Yn i n 1 isNil) l:=by
 refine ys2 hs (by simp;omega) ?_ hnil (by rw [yt2];exact hblk);intro x hx;obtain ⟨z,_,rfl⟩:=List.mem_map.1 hx;rfl
inductive Ex where
 | mk (kind op n:Int) (name:lBq) (args:List Ex)
inductive St where
 | mk (kind:Int) (name src:lBq) (n:Int) (args:List Ex) (thn els:List St)
def Ex.kind:Ex→Int | .mk k _ _ _ _=>k
def Ex.op:Ex→Int | .mk _ o _ _ _=>o
def Ex.n:Ex→Int | .mk _ _ n _ _=>n
def Ex.name:Ex→lBq | .mk _ _ _ m _=>m
def Ex.args:Ex→List Ex | .mk _ _ _ _ a=>a
def St.kind:St→Int | .mk k _ _ _ _ _ _=>k
def St.name:St→lBq | .mk _ m _ _ _ _ _=>m
def St.src:St→lBq | .mk _ _ m _ _ _ _=>m
def St.n:St→Int | .mk _ _ _ n _ _ _=>n
def St.args:St→List Ex | .mk _ _ _ _ a _ _=>a
def St.thn:St→List St | .mk _ _ _ _ _ t _=>t
def St.els:St→List St | .mk _ _ _ _ _ _ e=>e
mutual
def ExC (h:Heap):Ex→lVq→Prop
 | .mk k o n m args,x=>∃ v xs,x=[iI k,iI o,iI n,str m,v]∧SlV h 5 v xs∧xs.length≤140737488355328∧ExCs h args xs
def ExCs (h:Heap):List Ex→List (lVq)→Prop
 | [],xs=>xs=[]
 | e::r,xs=>∃ x xr,xs=x::xr∧ExC h e x∧ExCs h r xr
end
mutual
def StC (h:Heap):St→lVq→Prop
 | .mk k m f n args thn els,x=>∃ v xs u ys w zs,x=[iI k,str m,str f,iI n,v,u,w]∧(SlV h 5 v xs∧xs.length≤140737488355328∧ExCs h args xs)∧(SlV h 7 u ys∧ys.length≤140737488355328∧StCs h thn ys)∧SlV h 7 w zs∧zs.length≤140737488355328∧StCs h els zs
def StCs (h:Heap):List St→List (lVq)→Prop
 | [],xs=>xs=[]
 | e::r,xs=>∃ x xr,xs=x::xr∧StC h e x∧StCs h r xr
end
def ExsV (h:Heap) (v:Value) (l:List Ex):Prop:=∃ xs,SlV h 5 v xs∧xs.length≤140737488355328∧ExCs h l xs
def StsV (h:Heap) (v:Value) (l:List St):Prop:=∃ xs,SlV h 7 v xs∧xs.length≤140737488355328∧StCs h l xs
mutual
theorem ExC.mono {h h' : Heap}(hl:h.le h'):∀ {e:Ex}{x:lVq},ExC h e x→ExC h' e x
 | .mk _ _ _ _ _,_,⟨v,xs,h1,h2,hb,h3⟩=>⟨v,xs,h1,h2.mono hl,hb,ExCs.mono hl h3⟩
theorem ExCs.mono {h h' : Heap}(hl:h.le h'):∀ {l:List Ex}{xs:List (lVq)},ExCs h l xs→ExCs h' l xs
 | [],_,hx=>hx
 | _::_,_,⟨x,xr,h1,h2,h3⟩=>⟨x,xr,h1,ExC.mono hl h2,ExCs.mono hl h3⟩
end
mutual
theorem StC.mono {h h' : Heap}(hl:h.le h'):∀ {e:St}{x:lVq},StC h e x→StC h' e x
 | .mk _ _ _ _ _ _ _,_,⟨v,xs,u,ys,w,zs,h1,h2,h3,h4,h5⟩=>⟨v,xs,u,ys,w,zs,h1,⟨h2.1.mono hl,h2.2.1,ExCs.mono hl h2.2.2⟩,⟨h3.1.mono hl,h3.2.1,StCs.mono hl h3.2.2⟩,h4.mono hl,h5.1,StCs.mono hl h5.2⟩
theorem StCs.mono {h h' : Heap}(hl:h.le h'):∀ {l:List St}{xs:List (lVq)},StCs h l xs→StCs h' l xs
 | [],_,hx=>hx
 | _::_,_,⟨x,xr,h1,h2,h3⟩=>⟨x,xr,h1,StC.mono hl h2,StCs.mono hl h3⟩
end
theorem ExsV.mono {h h' : Heap}(hl:h.le h'){v:Value}{l:List Ex}(hv:ExsV h v l):ExsV h' v l:=let ⟨xs,a,c,b⟩:=hv;⟨xs,a.mono hl,c,b.mono hl⟩
theorem StsV.mono {h h' : Heap}(hl:h.le h'){v:Value}{l:List St}(hv:StsV h v l):StsV h' v l:=let ⟨xs,a,c,b⟩:=hv;⟨xs,a.mono hl,c,b.mono hl⟩
theorem ExCs.length {h:Heap}:∀ {l:List Ex}{xs:List (lVq)},ExCs h l xs→xs.length=l.length
 | [],_,hx=>by rw [show _=[] from hx];rfl
 | _::_,_,⟨x,xr,h1,h2,h3⟩=>by rw [h1];simp [ExCs.length h3]
theorem StCs.length {h:Heap}:∀ {l:List St}{xs:List (lVq)},StCs h l xs→xs.length=l.length
 | [],_,hx=>by rw [show _=[] from hx];rfl
 | _::_,_,⟨x,xr,h1,h2,h3⟩=>by rw [h1];simp [StCs.length h3]
theorem ExCs.get {h:Heap}:∀ {l:List Ex}{xs:List (lVq)},ExCs h l xs → ∀ (i:Nat) e,l[i]? = some e → ∃ x,xs[i]? = some x∧ExC h e x
 | [],_,_,i,e,hi=>by simp at hi
 | a::r,_,⟨x,xr,h1,h2,h3⟩,0,e,hi=>by simp at hi;subst hi;exact ⟨x,by rw [h1];rfl,h2⟩
 | a::r,_,⟨x,xr,h1,h2,h3⟩,i + 1,e,hi=>by
  obtain ⟨y,h4,h5⟩:=ExCs.get h3 i e (by simpa using hi);exact ⟨y,by rw [h1];simpa using h4,h5⟩
theorem StCs.get {h:Heap}:∀ {l:List St}{xs:List (lVq)},StCs h l xs → ∀ (i:Nat) e,l[i]? = some e → ∃ x,xs[i]? = some x∧StC h e x
 | [],_,_,i,e,hi=>by simp at hi
 | a::r,_,⟨x,xr,h1,h2,h3⟩,0,e,hi=>by simp at hi;subst hi;exact ⟨x,by rw [h1];rfl,h2⟩
 | a::r,_,⟨x,xr,h1,h2,h3⟩,i + 1,e,hi=>by
  obtain ⟨y,h4,h5⟩:=StCs.get h3 i e (by simpa using hi);exact ⟨y,by rw [h1];simpa using h4,h5⟩
theorem ExC.cells {h:Heap}{e:Ex}{x:lVq}(hx:ExC h e x):∃ v,x=[iI e.kind,iI e.op,iI e.n,str e.name,v]∧ExsV h v e.args:=by
 cases e;obtain ⟨v,xs,h1,h2,h3⟩:=hx;exact ⟨v,h1,xs,h2,h3⟩
theorem StC.cells {h:Heap}{e:St}{x:lVq}(hx:StC h e x):∃ v u w,x=[iI e.kind,str e.name,str e.src,iI e.n,v,u,w]∧ExsV h v e.args∧StsV h u e.thn∧StsV h w e.els:=by
 cases e;obtain ⟨v,xs,u,ys,w,zs,h1,h2,h3,h4⟩:=hx;exact ⟨v,u,w,h1,⟨xs,h2⟩,⟨ys,h3⟩,⟨zs,h4⟩⟩
theorem ExsV.len {h:Heap}{v:Value}{l:List Ex}(hv:ExsV h v l):ua [v]=some (iI l.length):=by
 obtain ⟨xs,a,c,b⟩:=hv;rw [a.len,b.length]
theorem StsV.len {h:Heap}{v:Value}{l:List St}(hv:StsV h v l):ua [v]=some (iI l.length):=by
 obtain ⟨xs,a,c,b⟩:=hv;rw [a.len,b.length]
theorem ExsV.le {h:Heap}{v:Value}{l:List Ex}(hv:ExsV h v l):l.length≤140737488355328:=by
 obtain ⟨xs,a,c,b⟩:=hv;rw [← b.length];exact c
theorem StsV.le {h:Heap}{v:Value}{l:List St}(hv:StsV h v l):l.length≤140737488355328:=by
 obtain ⟨xs,a,c,b⟩:=hv;rw [← b.length];exact c
theorem ExsV.elem {h:Heap}{v:Value}{l:List Ex}(hv:ExsV h v l){i:Nat}{e:Ex}(hi:l[i]? = some e) :
  ∃ id off cells own x,zp 5 [v,iI i]=some (pT id off)∧h.get id=some (.blk cells own)∧qu true off 5 cells=some (.agg x.toArray)∧ExC h e x ∧ ∀ j,j < 5→cells[off + j]? = x[j]?:=by
 obtain ⟨xs,a,c,b⟩:=hv;obtain ⟨x,h1,h2⟩:=b.get i e hi;obtain ⟨id,off,cells,own,g1,g2,g3,g4⟩:=a.elem h1;exact ⟨id,off,cells,own,x,g1,g2,g3,h2,g4⟩
theorem StsV.elem {h:Heap}{v:Value}{l:List St}(hv:StsV h v l){i:Nat}{e:St}(hi:l[i]? = some e) :
  ∃ id off cells own x,zp 7 [v,iI i]=some (pT id off)∧h.get id=some (.blk cells own)∧qu true off 7 cells=some (.agg x.toArray)∧StC h e x ∧ ∀ j,j < 7→cells[off + j]? = x[j]?:=by
 obtain ⟨xs,a,c,b⟩:=hv;obtain ⟨x,h1,h2⟩:=b.get i e hi;obtain ⟨id,off,cells,own,g1,g2,g3,g4⟩:=a.elem h1;exact ⟨id,off,cells,own,x,g1,g2,g3,h2,g4⟩
def jv (op:Int):Nat :=
 if op=7 then 1 else if op=8 then 2 else if op=6 then 3 else if op=13∨op=14 then 4 else if op=11∨op=12 then 5 else if op=9∨op=10 then 6 else if op=1∨op=2 then 7 else if op=3∨op=4∨op=5 then 8 else 0
theorem wI (n:Nat) (hn:n < 9223372036854775807):IntKind.i64.wrap ((n:Int) + 1)=((n + 1:Nat):Int):=by rw [zn (by omega) (by omega)];rfl
theorem w1:IntKind.i64.wrap (0 + 1)=1:=wI 0 (by omega)
theorem w2:IntKind.i64.wrap (1 + 1)=2:=wI 1 (by omega)
theorem w3:IntKind.i64.wrap (2 + 1)=3:=wI 2 (by omega)
theorem w4:IntKind.i64.wrap (3 + 1)=4:=wI 3 (by omega)
theorem w5:IntKind.i64.wrap (4 + 1)=5:=wI 4 (by omega)
theorem w6:IntKind.i64.wrap (5 + 1)=6:=wI 5 (by omega)
theorem w7:IntKind.i64.wrap (6 + 1)=7:=wI 6 (by omega)
theorem w8:IntKind.i64.wrap (7 + 1)=8:=wI 7 (by omega)
set_option maxHeartbeats 2000000 in
theorem yq8 (op:Int) (h:Heap) (Q:vPq) (hq:Q (iI (jv op)) h):CallW Tryz.prog 211 [iI op] h Q:=by
 refine zg (k:=1) ok211 rfl rfl rfl fun N=>?_;rw [Yo c211 yd9 rfl];delta c211;replace hq:=za hq;by_cases hc:1≤op∧op≤14
 ·have hc:op=1∨op=2∨op=3∨op=4∨op=5∨op=6∨op=7∨op=8∨op=9∨op=10∨op=11∨op=12∨op=13∨op=14:=by omega
  rcases hc with rfl | rfl | rfl | rfl | rfl | rfl | rfl | rfl | rfl | rfl | rfl | rfl | rfl | rfl
  all_goals
   have g:=hq.h;clear hq;simp [jv] at g;replace g:=Hid.mk g;simp only [zb,ze,zf,Int.reduceBEq,Nat.reduceBEq,w1,w2,w3,w4,w5,w6,w7,w8, *];exact g.h
 ·have g:=hq.h;clear hq;have e0:jv op=0:=by unfold jv;(repeat' split)<;>first | rfl | omega
  rw [e0] at g;replace g:=Hid.mk g;have n1:(op == 1)=false:=by simp;omega
  have n2:(op == 2)=false:=by simp;omega
  have n3:(op == 3)=false:=by simp;omega
  have n4:(op == 4)=false:=by simp;omega
  have n5:(op == 5)=false:=by simp;omega
  have n6:(op == 6)=false:=by simp;omega
  have n7:(op == 7)=false:=by simp;omega
  have n8:(op == 8)=false:=by simp;omega
  have n9:(op == 9)=false:=by simp;omega
  have n10:(op == 10)=false:=by simp;omega
  have n11:(op == 11)=false:=by simp;omega
  have n12:(op == 12)=false:=by simp;omega
  have n13:(op == 13)=false:=by simp;omega
  have n14:(op == 14)=false:=by simp;omega
  simp only [zb,ze,zf,Nat.reduceBEq, *];exact g.h
theorem SlV.one {h:Heap}{s:Nat}{v:Value}{xs:List (lVq)}(hv:SlV h s v xs):v.oneCell' = true:=by
 rcases hv with ⟨rfl,_⟩ | ⟨id,off,rfl,_⟩<;>rfl
theorem ExsV.one {h:Heap}{v:Value}{l:List Ex}(hv:ExsV h v l):v.oneCell' = true:=hv.elim fun _ a=>SlV.one a.1
theorem StsV.one {h:Heap}{v:Value}{l:List St}(hv:StsV h v l):v.oneCell' = true:=hv.elim fun _ a=>SlV.one a.1
abbrev exV (k o n:Int) (m:lBq) (v:Value):Value:=.agg #[iI k,iI o,iI n,str m,v]
abbrev stV (k:Int) (m f:lBq) (n:Int) (v u w:Value):Value:=.agg #[iI k,str m,str f,iI n,v,u,w]
theorem J2 {k o n:Int}{m:lBq}{v:Value}(hv:v.oneCell' = true):Je [exV k o n m v]=some ([iI k,iI o,iI n,str m,v],fun id=>(pT id 0)):=by
 simpa [Je,Value.cells,Value.oneCell'] using hv
theorem qb1 {k n:Int}{m f:lBq}{v u w:Value}(hv:v.oneCell' = true) (hu:u.oneCell' = true) (hw:w.oneCell' = true) :
  Je [stV k m f n v u w]=some ([iI k,str m,str f,iI n,v,u,w],fun id=>(pT id 0)):=by
 simpa [Je,Value.cells,Value.oneCell'] using ⟨hv,hu,hw⟩
theorem ExC.val {h:Heap}{e:Ex}{x:lVq}(hx:ExC h e x):∃ v,Value.agg x.toArray=exV e.kind e.op e.n e.name v∧ExsV h v e.args:=by
 obtain ⟨v,rfl,hv⟩:=hx.cells;exact ⟨v,rfl,hv⟩
theorem StC.val {h:Heap}{e:St}{x:lVq}(hx:StC h e x):∃ v u w,Value.agg x.toArray=stV e.kind e.name e.src e.n v u w∧ExsV h v e.args∧StsV h u e.thn∧StsV h w e.els:=by
 obtain ⟨v,u,w,rfl,hv⟩:=hx.cells;exact ⟨v,u,w,rfl,hv⟩
def J7 (k o n:Int) (m:lBq) (k' o' n' : Int) (m' : lBq):Bool:=k == k' && o == o' && n == n' && m == m'
theorem Za {k o n k' o' n' : Int}{m m' : lBq}{v v' : Value}(hv:v.oneCell' = true) (hv' : v'.oneCell' = true) (h:Heap) (Q:vPq) (hq:∀ h',h.le h' → Q (.bool (J7 k o n m k' o' n' m')) h') :
  CallW Tryz.prog 213 [exV k o n m v,exV k' o' n' m' v'] h Q:=by
 have b1:=J2 (k:=k) (o:=o) (n:=n) (m:=m) hv;have b2:=J2 (k:=k') (o:=o') (n:=n') (m:=m') hv';replace hq:=hq _ (((Heap.le.refl h).alloc (.blk [iI k,iI o,iI n,str m,v] true)).alloc (.blk [iI k',iI o',iI n',str m',v'] true));refine zg (k:=4) ok213 rfl rfl rfl fun N=>?_;rw [wn c213 u0 rfl];delta c213;replace hq:=za hq;unfold J7 at hq;have es:=Jp m m';cases c1:k == k' <;> simp only [c1,Bool.false_and,Bool.true_and] at hq
 ·simp only [zb,aR,ze,zf, *];exact hq.h
 cases c2:o == o' <;> simp only [c2,Bool.false_and,Bool.true_and] at hq
 ·simp only [zb,aR,ze,zf, *];exact hq.h
 cases c3:n == n' <;> simp only [c3,Bool.false_and,Bool.true_and] at hq
 ·simp only [zb,aR,ze,zf, *];exact hq.h
 simp only [zb,aR,ze,zf, *];exact hq.h
theorem zu (a b c d e:Value):qu true 0 5 [a,b,c,d,e]=some (.agg #[a,b,c,d,e]):=rfl
theorem qv (a b c d e f g:Value):qu true 0 7 [a,b,c,d,e,f,g]=some (.agg #[a,b,c,d,e,f,g]):=rfl
theorem Yt {h:Heap}{cells:lVq}{off:Nat}{v:Value}(ho:off < cells.length) (hv:v.cells.toList=[v]) (h1:v.oneCell' = true) :
  zt 1 (h.alloc (.blk cells true)) [pT h.next off,v]=some (udq,h.alloc (.blk (cells.set off v) true)):=by
 rw [z6 (Heap.get_alloc_same _ _) ho hv h1,Heap.set_alloc]
theorem build_ex (k:Int):yo [iI 0,iI 0,iI 0,s0q,nSq] [(0,1)] [iI k]=some (exV k 0 0 [] nSq):=rfl
theorem store_ex (h:Heap) (k:Int):zt 5 (h.alloc (.blk [iI 0,iI 0,iI 0,s0q,nSq] true)) [pT h.next 0,exV k 0 0 [] nSq] =
  some (udq,h.alloc (.blk [iI k,iI 0,iI 0,str [],nSq] true)):=zx rfl rfl rfl rfl
def uk (k:Int):Nat:=if k=3∨k=5 then 1 else if k=4 then 2 else 0
def zr (k o n:Int) (m:lBq):Bool :=
 if k=1 then decide (0≤n∧n < 4294967296) && o == 0 && m == []
 else if k=2 then zo m && o == 0 && n == 0
 else if k=3 then decide (15≤o∧o≤17) && n == 0 && m == []
 else if k=4 then decide (0 < jv o) && n == 0 && m == []
 else if k=5 then zo m && o == 0 && n == 0
 else false
theorem u32_id (n:Int):(n == IntKind.i64.wrap (IntKind.u32.wrap n))=decide (0≤n∧n < 4294967296):=by
 have h1:IntKind.u32.wrap n=n % 4294967296:=IntKind.wrap_u32 n;have h2:0≤n % 4294967296∧n % 4294967296 < 4294967296:=⟨Int.emod_nonneg _ (by decide),Int.emod_lt_of_pos _ (by decide)⟩;rw [h1,zn (by omega) (by omega)];by_cases hc:0≤n∧n < 4294967296
 ·have:n % 4294967296=n:=Int.emod_eq_of_lt hc.1 hc.2;simp [this,hc]
 ·have:¬ n=n % 4294967296:=by omega
  simp [this,hc]
theorem Heap.al2 (h:Heap) (a b:AObj):((h.alloc a).alloc b).get h.next=some a:=by
 rw [Heap.get_alloc_lt (by simp)];exact Heap.get_alloc_same _ _
theorem Wt:(Value.slice none 0 0).oneCell' = true:=rfl
theorem st_1 (h:Heap) (a b c d e:Value) (o:Int):zt 1 (h.alloc (.blk [a,b,c,d,e] true)) [pT h.next 1,iI o]=some (udq,h.alloc (.blk [a,iI o,c,d,e] true)):=Yt (by simp) rfl rfl
theorem st_2 (h:Heap) (a b c d e:Value) (o:Int):zt 1 (h.alloc (.blk [a,b,c,d,e] true)) [pT h.next 2,iI o]=some (udq,h.alloc (.blk [a,b,iI o,d,e] true)):=Yt (by simp) rfl rfl
theorem st_3 (h:Heap) (a b c d e:Value) (m:lBq):zt 1 (h.alloc (.blk [a,b,c,d,e] true)) [pT h.next 3,str m]=some (udq,h.alloc (.blk [a,b,c,str m,e] true)):=Yt (by simp) rfl rfl
set_option maxHeartbeats 2000000 in
theorem shape_c {k o n:Int}{m:lBq}{v:Value}(hv:v.oneCell' = true) (h:Heap) (Q:vPq)
  (hq:∀ h',h.le h' → Q (.tuple #[iI (uk k),.bool (zr k o n m)]) h') :
  CallW Tryz.prog 193 [exV k o n m v] h Q:=by
 have b1:=J2 (k:=k) (o:=o) (n:=n) (m:=m) hv;have l2:∀ c d:AObj,h.le ((h.alloc c).alloc d):=fun c d=>((Heap.le.refl h).alloc _).alloc _;replace l2:=Hid.mk l2;refine yc1 (k:=2) (j:=3) ok193 rfl rfl rfl fun N=>?_;rw [Yo c193 J4 rfl];delta c193;replace hq:=za hq;have bx:=build_ex k;have sx:=store_ex (h.alloc (.blk [iI k,iI o,iI n,str m,v] true)) k;by_cases k1:k=1
 ·subst k1;have u:=u32_id n;by_cases hN:0≤n∧n < 4294967296
  ·rw [decide_eq_true hN] at u;have es:zr 1 o n m=J7 1 o n m 1 0 n []:=by simp [zr,J7,hN]
   rw [es] at hq;clear es;simp only [zb,aR,aW,ze,zf,zu,st_2, *];refine Za hv Wt _ _ fun h2 hl=>?_;have g:=hq.h h2 ((l2.h _ _).trans hl);replace g:=Hid.mk g;simp only [zb, *];exact g.h
  ·rw [decide_eq_false hN] at u;have es:zr 1 o n m=false:=by simp [zr,hN]
   rw [es] at hq;clear es;simp only [zb,aR,aW,ze,zf,st_2, *];exact hq.h _ (l2.h _ _)
 by_cases k2:k=2
 ·subst k2;cases hN:zo m with
  | true =>
   have es:zr 2 o n m=J7 2 o n m 2 0 0 m:=by simp [zr,J7,hN]
   rw [es] at hq;clear es;simp only [zb,aR,aW,ze,zf,Int.reduceBEq,st_3, *];refine Yp _ _ fun h2 hl=>?_;have g1:=hl.get (Heap.al2 h (.blk [iI 2,iI o,iI n,str m,v] true) (.blk [iI 2,iI 0,iI 0,str m,nSq] true));have g2:=hl.get (Heap.get_alloc_same (h.alloc (.blk [iI 2,iI o,iI n,str m,v] true)) (.blk [iI 2,iI 0,iI 0,str m,nSq] true));replace hl:=Hid.mk hl;simp only [zb,aR,zu, *];refine Za hv Wt _ _ fun h3 hl3=>?_;have g:=hq.h h3 ((l2.h _ _).trans (hl.h.trans hl3));replace g:=Hid.mk g;clear g1 g2;simp only [zb, *];exact g.h
  | false =>
   have es:zr 2 o n m=false:=by simp [zr,hN]
   rw [es] at hq;clear es;simp only [zb,aR,aW,ze,zf,Int.reduceBEq,st_3, *];refine Yp _ _ fun h2 hl=>?_;replace hl:=Hid.mk hl;simp only [zb, *];exact hq.h _ ((l2.h _ _).trans hl.h)
 by_cases k3:k=3
 ·subst k3;by_cases hO:15≤o∧o≤17
  ·have es:zr 3 o n m=J7 3 o n m 3 o 0 []:=by simp [zr,J7,hO]
   rw [es] at hq;clear es;have ho:o=15∨o=16∨o=17:=by omega
   clear hO;rcases ho with rfl | rfl | rfl
   all_goals
    simp only [zb,aR,aW,ze,zf,Int.reduceBEq,zu,st_1, *];refine Za hv Wt _ _ fun h3 hl3=>?_;have g:=hq.h h3 ((l2.h _ _).trans hl3);replace g:=Hid.mk g;simp only [zb, *];exact g.h
  ·have es:zr 3 o n m=false:=by simp [zr,hO]
   rw [es] at hq;clear es;have n1:(o == 15)=false:=by simp;omega
   have n2:(o == 16)=false:=by simp;omega
   have n3:(o == 17)=false:=by simp;omega
   clear hO;simp only [zb,aR,aW,ze,zf,Int.reduceBEq,st_1, *];exact hq.h _ (l2.h _ _)
 by_cases k4:k=4
 ·subst k4;have lv:((0:Int) < (jv o:Int))=(0 < jv o):=by simp
  by_cases hO:0 < jv o
  ·have es:zr 4 o n m=J7 4 o n m 4 o 0 []:=by simp [zr,J7,hO]
   rw [es] at hq;clear es;simp only [zb,aR,aW,ze,zf,Int.reduceBEq,st_1, *];refine yq8 o _ _ ?_;simp only [zb,aR,ze,zf,zu, *];refine Za hv Wt _ _ fun h3 hl3=>?_;have g:=hq.h h3 ((l2.h _ _).trans hl3);replace g:=Hid.mk g;simp only [zb, *];exact g.h
  ·have es:zr 4 o n m=false:=by simp [zr,hO]
   rw [es] at hq;clear es;simp only [zb,aR,aW,ze,zf,Int.reduceBEq,st_1, *];refine yq8 o _ _ ?_;simp only [zb,ze,zf, *];exact hq.h _ (l2.h _ _)
 by_cases k5:k=5
 ·subst k5;cases hN:zo m with
  | true =>
   have es:zr 5 o n m=J7 5 o n m 5 0 0 m:=by simp [zr,J7,hN]
   rw [es] at hq;clear es;simp only [zb,aR,aW,ze,zf,Int.reduceBEq,st_3, *];refine Yp _ _ fun h2 hl=>?_;have g1:=hl.get (Heap.al2 h (.blk [iI 5,iI o,iI n,str m,v] true) (.blk [iI 5,iI 0,iI 0,str m,nSq] true));have g2:=hl.get (Heap.get_alloc_same (h.alloc (.blk [iI 5,iI o,iI n,str m,v] true)) (.blk [iI 5,iI 0,iI 0,str m,nSq] true));replace hl:=Hid.mk hl;simp only [zb,aR,zu, *];refine Za hv Wt _ _ fun h3 hl3=>?_;have g:=hq.h h3 ((l2.h _ _).trans (hl.h.trans hl3));replace g:=Hid.mk g;clear g1 g2;simp only [zb, *];exact g.h
  | false =>
   have es:zr 5 o n m=false:=by simp [zr,hN]
   rw [es] at hq;clear es;simp only [zb,aR,aW,ze,zf,Int.reduceBEq,st_3, *];refine Yp _ _ fun h2 hl=>?_;replace hl:=Hid.mk hl;simp only [zb, *];exact hq.h _ ((l2.h _ _).trans hl.h)
 have es:zr k o n m=false:=by simp [zr,k1,k2,k3,k4,k5]
 have em:uk k=0:=by simp [uk,k3,k4,k5]
 rw [es,em] at hq;have n1:(k == 1)=false:=by simpa using k1
 have n2:(k == 2)=false:=by simpa using k2
 have n3:(k == 3)=false:=by simpa using k3
 have n4:(k == 4)=false:=by simpa using k4
 have n5:(k == 5)=false:=by simpa using k5
 clear es em k1 k2 k3 k4 k5;simp only [zb,aR,aW,ze,zf, *];exact hq.h _ (l2.h _ _)
theorem ze3 {T:Type}{v fv:Value}{l:List T}{xs:List (lVq)}{p:T→Bool}{h:Heap}(hv:SlV h 5 v xs) (hx:xs.length=l.length) (hl63:l.length≤140737488355328)
  (hf:∀ (i:Nat) e x,l[i]? = some e→xs[i]? = some x → ∀ h1 Q,h.le h1→(∀ v h',v = .bool (p e)→h1.le h' → Q v h')→ValW Tryz.prog fv [.agg x.toArray] h1 Q) (Q:vPq)
  (hq:∀ v h',v = iI (match l.findIdx? p with | some i=>(i:Int) | none=>-1)→h.le h' → Q v h'):CallW Tryz.prog 212 [v,fv] h Q:=by
 refine zg (k:=2) ok212 rfl rfl rfl fun N=>?_;rw [wn c212 J4 rfl];delta c212;replace hq:=za hq;have hln:=hv.len;rw [hx] at hln;simp only [zb, *];refine LoopW.upto l.length (fun i e h1=>h.le h1∧(∀ j e,j < i→l[j]? = some e→p e=false) ∧ ∃ x3 x6,e=[v,fv,iI 0,x3,iI l.length,iI i,x6]) ?_ (Nat.zero_le _) ⟨Heap.le.refl h,by intro j e hj;omega,_,_,rfl⟩;rintro i _ h1 R hi ⟨hl1,hp,x3,x6,rfl⟩ hR;delta yy7;by_cases hlt:i < l.length
 ·have hlt' : (i:Int) < l.length:=by omega
  obtain ⟨e,he⟩:∃ e,l[i]? = some e:=⟨_,List.getElem?_eq_getElem hlt⟩;obtain ⟨x,hxi⟩:∃ x,xs[i]? = some x:=⟨_,List.getElem?_eq_getElem (by omega)⟩;obtain ⟨id,off,cells,own,e1,e2,e3,_⟩:=(hv.mono hl1).elem hxi;have hff:=hf i e x he hxi;replace hff:=Hid.mk hff;have hw:IntKind.i64.wrap ((i:Int) + 1)=((i + 1:Nat):Int):=by rw [zn (by omega) (by omega)];rfl
  simp only [zb,aR,ze,zf, *];refine hff.h h1 _ hl1 fun v2 h2 hv2 hl2=>?_;subst hv2;cases hpe:p e with
  | true =>
   simp only [zb, *];refine hq.h _ _ ?_ (hl1.trans hl2);have:l.findIdx? p=some i:=by
    rw [List.findIdx?_eq_some_iff_getElem];refine ⟨hlt,by rw [List.getElem?_eq_getElem hlt] at he;cases he;exact hpe,fun j hj=>?_⟩;have:=hp j l[j] hj (List.getElem?_eq_getElem _);simp [this]
   rw [this]
  | false =>
   simp only [zb,ze,zf, *];refine hR.h _ _ hlt ⟨hl1.trans hl2,fun j e' hj hje=>?_,_,_,rfl⟩;by_cases hji:j=i
   ·subst hji;rw [he] at hje;cases hje;exact hpe
   ·exact hp j e' (by omega) hje
 ·have hlt' : ¬ (i:Int) < l.length:=by omega
  have hnone:l.findIdx? p=none:=by
   rw [List.findIdx?_eq_none_iff];intro e he;obtain ⟨j,hj⟩:=List.mem_iff_getElem?.1 he;exact hp j e (by have:=(List.getElem?_eq_some_iff.1 hj).1;omega) hj
  simp only [zb,ze,zf, *];exact hq.h _ _ (by rw [hnone]) hl1
theorem Kb {T:Type}{v fv:Value}{l:List T}{xs:List (lVq)}{p:T→Bool}{h:Heap}(hv:SlV h 5 v xs) (hx:xs.length=l.length) (hl63:l.length≤140737488355328)
  (hf:∀ (i:Nat) e x,l[i]? = some e→xs[i]? = some x → ∀ h1 Q,h.le h1→(∀ v h',v = .bool (p e)→h1.le h' → Q v h')→ValW Tryz.prog fv [.agg x.toArray] h1 Q) (Q:vPq)
  (hq:∀ v h',v = .bool (l.any p)→h.le h' → Q v h'):CallW Tryz.prog 191 [v,fv] h Q:=by
 refine zg (k:=2) ok191 rfl rfl rfl fun N=>?_;rw [wn c191 kv rfl];delta c191;replace hq:=za hq;simp only [zb, *];refine ze3 hv hx hl63 hf _ fun v h' hv' hl'=>?_;subst hv';simp only [zb,ze,zf, *];refine hq.h _ _ ?_ hl';cases hx:l.findIdx? p with
 | none =>
  have:=List.findIdx?_eq_none_iff.1 hx;have hn:l.any p=false:=by simpa [List.any_eq_false] using this
  simp [hn]
 | some i =>
  have:=List.findIdx?_eq_some_iff_getElem.1 hx;have hn:l.any p=true:=List.any_eq_true.2 ⟨_,List.getElem_mem this.1,this.2.1⟩;simp [hn]
theorem ze2 {T:Type}{v fv:Value}{l:List T}{xs:List (lVq)}{p:T→Bool}{h:Heap}(hv:SlV h 7 v xs) (hx:xs.length=l.length) (hl63:l.length≤140737488355328)
  (hf:∀ (i:Nat) e x,l[i]? = some e→xs[i]? = some x → ∀ h1 Q,h.le h1→(∀ v h',v = .bool (p e)→h1.le h' → Q v h')→ValW Tryz.prog fv [.agg x.toArray] h1 Q) (Q:vPq)
  (hq:∀ v h',v = iI (match l.findIdx? p with | some i=>(i:Int) | none=>-1)→h.le h' → Q v h'):CallW Tryz.prog 170 [v,fv] h Q:=by
 refine zg (k:=2) ok170 rfl rfl rfl fun N=>?_;rw [wn c170 J4 rfl];delta c170;replace hq:=za hq;have hln:=hv.len;rw [hx] at hln;simp only [zb, *];refine LoopW.upto l.length (fun i e h1=>h.le h1∧(∀ j e,j < i→l[j]? = some e→p e=false) ∧ ∃ x3 x6,e=[v,fv,iI 0,x3,iI l.length,iI i,x6]) ?_ (Nat.zero_le _) ⟨Heap.le.refl h,by intro j e hj;omega,_,_,rfl⟩;rintro i _ h1 R hi ⟨hl1,hp,x3,x6,rfl⟩ hR;delta yz3;by_cases hlt:i < l.length
 ·have hlt' : (i:Int) < l.length:=by omega
  obtain ⟨e,he⟩:∃ e,l[i]? = some e:=⟨_,List.getElem?_eq_getElem hlt⟩;obtain ⟨x,hxi⟩:∃ x,xs[i]? = some x:=⟨_,List.getElem?_eq_getElem (by omega)⟩;obtain ⟨id,off,cells,own,e1,e2,e3,_⟩:=(hv.mono hl1).elem hxi;have hff:=hf i e x he hxi;replace hff:=Hid.mk hff;have hw:IntKind.i64.wrap ((i:Int) + 1)=((i + 1:Nat):Int):=by rw [zn (by omega) (by omega)];rfl
  simp only [zb,aR,ze,zf, *];refine hff.h h1 _ hl1 fun v2 h2 hv2 hl2=>?_;subst hv2;cases hpe:p e with
  | true =>
   simp only [zb, *];refine hq.h _ _ ?_ (hl1.trans hl2);have:l.findIdx? p=some i:=by
    rw [List.findIdx?_eq_some_iff_getElem];refine ⟨hlt,by rw [List.getElem?_eq_getElem hlt] at he;cases he;exact hpe,fun j hj=>?_⟩;have:=hp j l[j] hj (List.getElem?_eq_getElem _);simp [this]
   rw [this]
  | false =>
   simp only [zb,ze,zf, *];refine hR.h _ _ hlt ⟨hl1.trans hl2,fun j e' hj hje=>?_,_,_,rfl⟩;by_cases hji:j=i
   ·subst hji;rw [he] at hje;cases hje;exact hpe
   ·exact hp j e' (by omega) hje
 ·have hlt' : ¬ (i:Int) < l.length:=by omega
  have hnone:l.findIdx? p=none:=by
   rw [List.findIdx?_eq_none_iff];intro e he;obtain ⟨j,hj⟩:=List.mem_iff_getElem?.1 he;exact hp j e (by have:=(List.getElem?_eq_some_iff.1 hj).1;omega) hj
  simp only [zb,ze,zf, *];exact hq.h _ _ (by rw [hnone]) hl1
theorem J9 {T:Type}{v fv:Value}{l:List T}{xs:List (lVq)}{p:T→Bool}{h:Heap}(hv:SlV h 7 v xs) (hx:xs.length=l.length) (hl63:l.length≤140737488355328)
  (hf:∀ (i:Nat) e x,l[i]? = some e→xs[i]? = some x → ∀ h1 Q,h.le h1→(∀ v h',v = .bool (p e)→h1.le h' → Q v h')→ValW Tryz.prog fv [.agg x.toArray] h1 Q) (Q:vPq)
  (hq:∀ v h',v = .bool (l.any p)→h.le h' → Q v h'):CallW Tryz.prog 142 [v,fv] h Q:=by
 refine zg (k:=2) ok142 rfl rfl rfl fun N=>?_;rw [wn c142 kv rfl];delta c142;replace hq:=za hq;simp only [zb, *];refine ze2 hv hx hl63 hf _ fun v h' hv' hl'=>?_;subst hv';simp only [zb,ze,zf, *];refine hq.h _ _ ?_ hl';cases hx:l.findIdx? p with
 | none =>
  have:=List.findIdx?_eq_none_iff.1 hx;have hn:l.any p=false:=by simpa [List.any_eq_false] using this
  simp [hn]
 | some i =>
  have:=List.findIdx?_eq_some_iff_getElem.1 hx;have hn:l.any p=true:=List.any_eq_true.2 ⟨_,List.getElem_mem this.1,this.2.1⟩;simp [hn]
theorem Ql {T:Type}{v fv:Value}{l:List T}{xs:List (lVq)}{p:T→Bool}{h:Heap}(hv:SlV h 2 v xs) (hx:xs.length=l.length) (hl63:l.length≤140737488355328)
  (hf:∀ (i:Nat) e x,l[i]? = some e→xs[i]? = some x → ∀ h1 Q,h.le h1→(∀ v h',v = .bool (p e)→h1.le h' → Q v h')→ValW Tryz.prog fv [.agg x.toArray] h1 Q) (Q:vPq)
  (hq:∀ v h',v = iI (match l.findIdx? p with | some i=>(i:Int) | none=>-1)→h.le h' → Q v h'):CallW Tryz.prog 108 [v,fv] h Q:=by
 refine zg (k:=2) ok108 rfl rfl rfl fun N=>?_;rw [wn c108 J4 rfl];delta c108;replace hq:=za hq;have hln:=hv.len;rw [hx] at hln;simp only [zb, *];refine LoopW.upto l.length (fun i e h1=>h.le h1∧(∀ j e,j < i→l[j]? = some e→p e=false) ∧ ∃ x3 x6,e=[v,fv,iI 0,x3,iI l.length,iI i,x6]) ?_ (Nat.zero_le _) ⟨Heap.le.refl h,by intro j e hj;omega,_,_,rfl⟩;rintro i _ h1 R hi ⟨hl1,hp,x3,x6,rfl⟩ hR;delta qa8;by_cases hlt:i < l.length
 ·have hlt' : (i:Int) < l.length:=by omega
  obtain ⟨e,he⟩:∃ e,l[i]? = some e:=⟨_,List.getElem?_eq_getElem hlt⟩;obtain ⟨x,hxi⟩:∃ x,xs[i]? = some x:=⟨_,List.getElem?_eq_getElem (by omega)⟩;obtain ⟨id,off,cells,own,e1,e2,e3,_⟩:=(hv.mono hl1).elem hxi;have hff:=hf i e x he hxi;replace hff:=Hid.mk hff;have hw:IntKind.i64.wrap ((i:Int) + 1)=((i + 1:Nat):Int):=by rw [zn (by omega) (by omega)];rfl
  simp only [zb,aR,ze,zf, *];refine hff.h h1 _ hl1 fun v2 h2 hv2 hl2=>?_;subst hv2;cases hpe:p e with
  | true =>
   simp only [zb, *];refine hq.h _ _ ?_ (hl1.trans hl2);have:l.findIdx? p=some i:=by
    rw [List.findIdx?_eq_some_iff_getElem];refine ⟨hlt,by rw [List.getElem?_eq_getElem hlt] at he;cases he;exact hpe,fun j hj=>?_⟩;have:=hp j l[j] hj (List.getElem?_eq_getElem _);simp [this]
   rw [this]
  | false =>
   simp only [zb,ze,zf, *];refine hR.h _ _ hlt ⟨hl1.trans hl2,fun j e' hj hje=>?_,_,_,rfl⟩;by_cases hji:j=i
   ·subst hji;rw [he] at hje;cases hje;exact hpe
   ·exact hp j e' (by omega) hje
 ·have hlt' : ¬ (i:Int) < l.length:=by omega
  have hnone:l.findIdx? p=none:=by
   rw [List.findIdx?_eq_none_iff];intro e he;obtain ⟨j,hj⟩:=List.mem_iff_getElem?.1 he;exact hp j e (by have:=(List.getElem?_eq_some_iff.1 hj).1;omega) hj
  simp only [zb,ze,zf, *];exact hq.h _ _ (by rw [hnone]) hl1
theorem Kc {T:Type}{v fv:Value}{l:List T}{xs:List (lVq)}{p:T→Bool}{h:Heap}(hv:SlV h 2 v xs) (hx:xs.length=l.length) (hl63:l.length≤140737488355328)
  (hf:∀ (i:Nat) e x,l[i]? = some e→xs[i]? = some x → ∀ h1 Q,h.le h1→(∀ v h',v = .bool (p e)→h1.le h' → Q v h')→ValW Tryz.prog fv [.agg x.toArray] h1 Q) (Q:vPq)
  (hq:∀ v h',v = .bool (l.any p)→h.le h' → Q v h'):CallW Tryz.prog 71 [v,fv] h Q:=by
 refine zg (k:=2) ok71 rfl rfl rfl fun N=>?_;rw [wn c71 kv rfl];delta c71;replace hq:=za hq;simp only [zb, *];refine Ql hv hx hl63 hf _ fun v h' hv' hl'=>?_;subst hv';simp only [zb,ze,zf, *];refine hq.h _ _ ?_ hl';cases hx:l.findIdx? p with
 | none =>
  have:=List.findIdx?_eq_none_iff.1 hx;have hn:l.any p=false:=by simpa [List.any_eq_false] using this
  simp [hn]
 | some i =>
  have:=List.findIdx?_eq_some_iff_getElem.1 hx;have hn:l.any p=true:=List.any_eq_true.2 ⟨_,List.getElem_mem this.1,this.2.1⟩;simp [hn]
theorem Qk {T:Type}{v fv:Value}{l:List T}{xs:List (lVq)}{p:T→Bool}{h:Heap}(hv:SlV h 2 v xs) (hx:xs.length=l.length) (hl63:l.length≤140737488355328)
  (hf:∀ (i:Nat) e x,l[i]? = some e→xs[i]? = some x → ∀ h1 Q,h.le h1→(∀ v h',v = .bool (p e)→h1.le h' → Q v h')→ValW Tryz.prog fv [.agg x.toArray] h1 Q) (Q:vPq)
  (hq:∀ v h',v = iI (match l.findIdx? p with | some i=>(i:Int) | none=>-1)→h.le h' → Q v h'):CallW Tryz.prog 79 [v,fv] h Q:=by
 refine zg (k:=2) ok79 rfl rfl rfl fun N=>?_;rw [wn c79 J4 rfl];delta c79;replace hq:=za hq;have hln:=hv.len;rw [hx] at hln;simp only [zb, *];refine LoopW.upto l.length (fun i e h1=>h.le h1∧(∀ j e,j < i→l[j]? = some e→p e=false) ∧ ∃ x3 x6,e=[v,fv,iI 0,x3,iI l.length,iI i,x6]) ?_ (Nat.zero_le _) ⟨Heap.le.refl h,by intro j e hj;omega,_,_,rfl⟩;rintro i _ h1 R hi ⟨hl1,hp,x3,x6,rfl⟩ hR;delta c79_l7;by_cases hlt:i < l.length
 ·have hlt' : (i:Int) < l.length:=by omega
  obtain ⟨e,he⟩:∃ e,l[i]? = some e:=⟨_,List.getElem?_eq_getElem hlt⟩;obtain ⟨x,hxi⟩:∃ x,xs[i]? = some x:=⟨_,List.getElem?_eq_getElem (by omega)⟩;obtain ⟨id,off,cells,own,e1,e2,e3,_⟩:=(hv.mono hl1).elem hxi;have hff:=hf i e x he hxi;replace hff:=Hid.mk hff;have hw:IntKind.i64.wrap ((i:Int) + 1)=((i + 1:Nat):Int):=by rw [zn (by omega) (by omega)];rfl
  simp only [zb,aR,ze,zf, *];refine hff.h h1 _ hl1 fun v2 h2 hv2 hl2=>?_;subst hv2;cases hpe:p e with
  | true =>
   simp only [zb, *];refine hq.h _ _ ?_ (hl1.trans hl2);have:l.findIdx? p=some i:=by
    rw [List.findIdx?_eq_some_iff_getElem];refine ⟨hlt,by rw [List.getElem?_eq_getElem hlt] at he;cases he;exact hpe,fun j hj=>?_⟩;have:=hp j l[j] hj (List.getElem?_eq_getElem _);simp [this]
   rw [this]
  | false =>
   simp only [zb,ze,zf, *];refine hR.h _ _ hlt ⟨hl1.trans hl2,fun j e' hj hje=>?_,_,_,rfl⟩;by_cases hji:j=i
   ·subst hji;rw [he] at hje;cases hje;exact hpe
   ·exact hp j e' (by omega) hje
 ·have hlt' : ¬ (i:Int) < l.length:=by omega
  have hnone:l.findIdx? p=none:=by
   rw [List.findIdx?_eq_none_iff];intro e he;obtain ⟨j,hj⟩:=List.mem_iff_getElem?.1 he;exact hp j e (by have:=(List.getElem?_eq_some_iff.1 hj).1;omega) hj
  simp only [zb,ze,zf, *];exact hq.h _ _ (by rw [hnone]) hl1
theorem Ka {T:Type}{v fv:Value}{l:List T}{xs:List (lVq)}{p:T→Bool}{h:Heap}(hv:SlV h 2 v xs) (hx:xs.length=l.length) (hl63:l.length≤140737488355328)
  (hf:∀ (i:Nat) e x,l[i]? = some e→xs[i]? = some x → ∀ h1 Q,h.le h1→(∀ v h',v = .bool (p e)→h1.le h' → Q v h')→ValW Tryz.prog fv [.agg x.toArray] h1 Q) (Q:vPq)
  (hq:∀ v h',v = .bool (l.any p)→h.le h' → Q v h'):CallW Tryz.prog 72 [v,fv] h Q:=by
 refine zg (k:=2) ok72 rfl rfl rfl fun N=>?_;rw [wn c72 kv rfl];delta c72;replace hq:=za hq;simp only [zb, *];refine Qk hv hx hl63 hf _ fun v h' hv' hl'=>?_;subst hv';simp only [zb,ze,zf, *];refine hq.h _ _ ?_ hl';cases hx:l.findIdx? p with
 | none =>
  have:=List.findIdx?_eq_none_iff.1 hx;have hn:l.any p=false:=by simpa [List.any_eq_false] using this
  simp [hn]
 | some i =>
  have:=List.findIdx?_eq_some_iff_getElem.1 hx;have hn:l.any p=true:=List.any_eq_true.2 ⟨_,List.getElem_mem this.1,this.2.1⟩;simp [hn]
theorem ze1 {T:Type}{v fv:Value}{l:List T}{xs:List (lVq)}{p:T→Bool}{h:Heap}(hv:SlV h 6 v xs) (hx:xs.length=l.length) (hl63:l.length≤140737488355328)
  (hf:∀ (i:Nat) e x,l[i]? = some e→xs[i]? = some x → ∀ h1 Q,h.le h1→(∀ v h',v = .bool (p e)→h1.le h' → Q v h')→ValW Tryz.prog fv [.agg x.toArray] h1 Q) (Q:vPq)
  (hq:∀ v h',v = iI (match l.findIdx? p with | some i=>(i:Int) | none=>-1)→h.le h' → Q v h'):CallW Tryz.prog 109 [v,fv] h Q:=by
 refine zg (k:=2) ok109 rfl rfl rfl fun N=>?_;rw [wn c109 J4 rfl];delta c109;replace hq:=za hq;have hln:=hv.len;rw [hx] at hln;simp only [zb, *];refine LoopW.upto l.length (fun i e h1=>h.le h1∧(∀ j e,j < i→l[j]? = some e→p e=false) ∧ ∃ x3 x6,e=[v,fv,iI 0,x3,iI l.length,iI i,x6]) ?_ (Nat.zero_le _) ⟨Heap.le.refl h,by intro j e hj;omega,_,_,rfl⟩;rintro i _ h1 R hi ⟨hl1,hp,x3,x6,rfl⟩ hR;delta qa7;by_cases hlt:i < l.length
 ·have hlt' : (i:Int) < l.length:=by omega
  obtain ⟨e,he⟩:∃ e,l[i]? = some e:=⟨_,List.getElem?_eq_getElem hlt⟩;obtain ⟨x,hxi⟩:∃ x,xs[i]? = some x:=⟨_,List.getElem?_eq_getElem (by omega)⟩;obtain ⟨id,off,cells,own,e1,e2,e3,_⟩:=(hv.mono hl1).elem hxi;have hff:=hf i e x he hxi;replace hff:=Hid.mk hff;have hw:IntKind.i64.wrap ((i:Int) + 1)=((i + 1:Nat):Int):=by rw [zn (by omega) (by omega)];rfl
  simp only [zb,aR,ze,zf, *];refine hff.h h1 _ hl1 fun v2 h2 hv2 hl2=>?_;subst hv2;cases hpe:p e with
  | true =>
   simp only [zb, *];refine hq.h _ _ ?_ (hl1.trans hl2);have:l.findIdx? p=some i:=by
    rw [List.findIdx?_eq_some_iff_getElem];refine ⟨hlt,by rw [List.getElem?_eq_getElem hlt] at he;cases he;exact hpe,fun j hj=>?_⟩;have:=hp j l[j] hj (List.getElem?_eq_getElem _);simp [this]
   rw [this]
  | false =>
   simp only [zb,ze,zf, *];refine hR.h _ _ hlt ⟨hl1.trans hl2,fun j e' hj hje=>?_,_,_,rfl⟩;by_cases hji:j=i
   ·subst hji;rw [he] at hje;cases hje;exact hpe
   ·exact hp j e' (by omega) hje
 ·have hlt' : ¬ (i:Int) < l.length:=by omega
  have hnone:l.findIdx? p=none:=by
   rw [List.findIdx?_eq_none_iff];intro e he;obtain ⟨j,hj⟩:=List.mem_iff_getElem?.1 he;exact hp j e (by have:=(List.getElem?_eq_some_iff.1 hj).1;omega) hj
  simp only [zb,ze,zf, *];exact hq.h _ _ (by rw [hnone]) hl1
theorem kj {T:Type}{v fv:Value}{l:List T}{xs:List (lVq)}{p:T→Bool}{h:Heap}(hv:SlV h 6 v xs) (hx:xs.length=l.length) (hl63:l.length≤140737488355328)
  (hf:∀ (i:Nat) e x,l[i]? = some e→xs[i]? = some x → ∀ h1 Q,h.le h1→(∀ v h',v = .bool (p e)→h1.le h' → Q v h')→ValW Tryz.prog fv [.agg x.toArray] h1 Q) (Q:vPq)
  (hq:∀ v h',v = .bool (l.any p)→h.le h' → Q v h'):CallW Tryz.prog 73 [v,fv] h Q:=by
 refine zg (k:=2) ok73 rfl rfl rfl fun N=>?_;rw [wn c73 kv rfl];delta c73;replace hq:=za hq;simp only [zb, *];refine ze1 hv hx hl63 hf _ fun v h' hv' hl'=>?_;subst hv';simp only [zb,ze,zf, *];refine hq.h _ _ ?_ hl';cases hx:l.findIdx? p with
 | none =>
  have:=List.findIdx?_eq_none_iff.1 hx;have hn:l.any p=false:=by simpa [List.any_eq_false] using this
  simp [hn]
 | some i =>
  have:=List.findIdx?_eq_some_iff_getElem.1 hx;have hn:l.any p=true:=List.any_eq_true.2 ⟨_,List.getElem_mem this.1,this.2.1⟩;simp [hn]
mutual
def yg:Ex→Nat→Bool
 | .mk _ _ _ _ _,0=>false
 | .mk k o n m args,d + 1=>zr k o n m && args.length == uk k && z7 args d
def z7:List Ex→Nat→Bool
 | [],_=>true
 | e::r,d=>yg e d && z7 r d
end
theorem wr:∀ (l:List Ex) (d:Nat),z7 l d=l.all fun e=>yg e d
 | [],_=>by simp [z7]
 | e::r,d=>by simp [z7,wr r d]
theorem right1_c {d:Nat}(hd:d≤1000) (ih:∀ d',d=d' + 1 → ∀ (l:List Ex) (v:Value) (h:Heap) (Q:vPq),ExsV h v l→(∀ h',h.le h' → Q (.bool (z7 l d')) h')→CallW Tryz.prog 173 [v,iI (d' : Int)] h Q)
  {h:Heap}{p:Nat}{e:Ex}{x:lVq}(hp:h.get p=some (.blk [iI (d:Int)] true)) (hx:ExC h e x) (Q:vPq) (hq:∀ h',h.le h' → Q (.bool (!yg e d)) h') :
  CallW Tryz.prog 192 [.agg x.toArray,pT p 0] h Q:=by
 obtain ⟨v,hval,hargs⟩:=hx.val;rw [hval];cases e with
 | mk k o n m args =>
 simp only [Ex.kind,Ex.op,Ex.n,Ex.name,Ex.args] at hargs ⊢;clear hval hx;have b1:=J2 (k:=k) (o:=o) (n:=n) (m:=m) hargs.one;have l1:=(Heap.le.refl h).alloc (.blk [iI k,iI o,iI n,str m,v] true);have gp:=l1.get hp;clear hp;replace l1:=Hid.mk l1;replace ih:=Hid.mk ih;replace hargs:=Hid.mk hargs;refine zg (k:=3) ok192 rfl rfl rfl fun N=>?_;rw [wn c192 Ub rfl];delta c192;replace hq:=za hq;simp only [zb,aR,zu, *];refine shape_c hargs.h.one _ _ fun h2 hl=>?_;have g1:=hl.get (Heap.get_alloc_same h (.blk [iI k,iI o,iI n,str m,v] true));have g2:=hl.get gp;have ha2:=hargs.h.mono (l1.h.trans hl);have hq2:=fun h' (l3:h2.le h')=>hq.h h' ((l1.h.trans hl).trans l3);clear hq gp l1 hl b1;replace hq2:=Hid.mk hq2;have ln:=ha2.len;have hle:=ha2.le;cases d with
 | zero =>
  have g:=hq2.h h2 (Heap.le.refl _);simp only [yg,Bool.not_false] at g;replace g:=Hid.mk g;clear hq2;replace ha2:=Hid.mk ha2;have z0:((0:Nat):Int)=0:=rfl;rw [z0] at g2;clear z0;simp only [zb,aR,ze,zf,Int.reduceLT, *];exact g.h
 | succ d' =>
  have n1:¬ ((d' + 1:Nat):Int) < 1:=by omega
  cases hs:zr k o n m with
  | false =>
   have g:=hq2.h h2 (Heap.le.refl _);simp only [yg,hs,Bool.false_and,Bool.not_false] at g;replace g:=Hid.mk g;clear hq2;replace ha2:=Hid.mk ha2;simp only [zb,aR,ze,zf, *];exact g.h
  | true =>
   by_cases hm:args.length=uk k
   ·have hm1:((args.length:Int) != (uk k:Int))=false:=by simp [hm]
    have hw:IntKind.i64.wrap (((d' + 1:Nat):Int) - 1)=(d' : Int):=by rw [zn (by omega) (by omega)];omega
    have hih:=ih.h d' rfl args v h2;have hq3:=fun h' (l3:h2.le h')=>hq2.h h' l3;have er:yg (.mk k o n m args) (d' + 1)=z7 args d':=by simp [yg,hs,hm]
    rw [er] at hq3;clear hq2 ih er;replace hq3:=Hid.mk hq3;replace hih:=Hid.mk hih;replace ha2:=Hid.mk ha2;simp only [zb,aR,ze,zf, *];refine hih.h _ ha2.h fun h3 hl3=>?_;have g:=hq3.h h3 hl3;replace g:=Hid.mk g;clear hl3;simp only [zb, *];exact g.h
   ·have hm1:((args.length:Int) != (uk k:Int))=true:=by
     simp only [bne_iff_ne,ne_eq];omega
    have g:=hq2.h h2 (Heap.le.refl _);have hm2:(args.length == uk k)=false:=by simpa using hm
    simp only [yg,hs,hm2,Bool.true_and,Bool.false_and,Bool.not_false] at g;replace g:=Hid.mk g;clear hq2;replace ha2:=Hid.mk ha2;simp only [zb,aR,ze,zf, *];exact g.h
theorem zy6 {d:Nat}(hd:d≤1000) (ih:∀ d',d=d' + 1 → ∀ (l:List Ex) (v:Value) (h:Heap) (Q:vPq),ExsV h v l→(∀ h',h.le h' → Q (.bool (z7 l d')) h')→CallW Tryz.prog 173 [v,iI (d' : Int)] h Q)
  (l:List Ex) (v:Value) (h:Heap) (Q:vPq) (hv:ExsV h v l) (hq:∀ h',h.le h' → Q (.bool (z7 l d)) h'):CallW Tryz.prog 173 [v,iI (d:Int)] h Q:=by
 replace ih:=Hid.mk ih;obtain ⟨xs,hsl,hb,hxs⟩:=hv;have hlen:=hxs.length;refine zg (k:=3) ok173 rfl rfl rfl fun N=>?_;rw [wn c173 Zm rfl];delta c173;replace hq:=za hq;have bx:=yd4 .i64 (d:Int);have l1:=(Heap.le.refl h).alloc (.blk [iI (d:Int)] true);have gp:=Heap.get_alloc_same h (.blk [iI (d:Int)] true);obtain ⟨p,hp⟩:∃ p,h.next=p:=⟨_,rfl⟩;obtain ⟨h1,hh1⟩:∃ h1,h.alloc (.blk [iI (d:Int)] true)=h1:=⟨_,rfl⟩;rw [hh1,hp] at gp;rw [hh1] at l1;replace hsl:=Hid.mk hsl;replace l1:=Hid.mk l1;replace hxs:=Hid.mk hxs;replace gp:=Hid.mk gp;simp only [zb, *];refine Kb (p:=fun e=>!yg e d) (hsl.h.mono l1.h) hlen (by omega) (fun i e x he hx h2 Q2 hl2 hq2=>?_) _ fun v2 h2 hv2 hl2=>?_
 ·refine CallW.val (first:=#[]) (captured:=#[pT p 0]) ?_;obtain ⟨x',hx',hex⟩:=hxs.h.get i e he;rw [hx] at hx';cases hx';exact right1_c hd ih.h (hl2.get gp.h) (hex.mono (l1.h.trans hl2)) Q2 fun h' hl'=>hq2 _ _ rfl hl'
 ·subst hv2;have g:=hq.h h2 (l1.h.trans hl2);have ea:(!(l.any fun e=>!yg e d))=z7 l d:=by rw [wr,List.all_eq_not_any_not]
  rw [← ea] at g;replace g:=Hid.mk g;clear hl2 ea;simp only [zb, *];exact g.h
theorem right_c:∀ (d:Nat),d≤1000 → ∀ (l:List Ex) (v:Value) (h:Heap) (Q:vPq),ExsV h v l→(∀ h',h.le h' → Q (.bool (z7 l d)) h')→CallW Tryz.prog 173 [v,iI (d:Int)] h Q:=by
 intro d;induction d with
 | zero=>intro hd;exact zy6 hd fun d' hd'=>by omega
 | succ d ih=>intro hd;exact zy6 hd fun d' hd'=>by cases hd';exact ih (by omega)
def vm (k:Int):Bool:=decide (1≤k∧k≤5)
def Km (k:Int):Bool:=decide (k=2)
def vp (k:Int):Int:=if k=2∨k=3 then 3 else if k=7 then 20 else 0
def vd (k:Int):Nat:=if k=1∨k=3∨k=6 then 1 else if k=4 then 2 else 0
def ky (k:Int):Bool:=decide (k=5∨k=6∨k=7)
def wm (k:Int):Bool:=decide (k=6)
def kz (k:Int):Bool:=decide (1≤k∧k≤8)
abbrev ze5 (a b:Bool) (mo ar:Int) (t e:Bool):Value:=.agg #[.bool a,.bool b,iI mo,iI ar,.bool t,.bool e]
theorem Up (h:Heap) (a b:Bool) (mo ar:Int) (t e:Bool):zt 6 (h.alloc (.blk [.bool false,.bool false,iI 0,iI 0,.bool false,.bool false] true)) [pT h.next 0,ze5 a b mo ar t e] =
  some (udq,h.alloc (.blk [.bool a,.bool b,iI mo,iI ar,.bool t,.bool e] true)):=zx rfl rfl rfl rfl
theorem zl6 (a b c d e f:Value):qu true 0 6 [a,b,c,d,e,f]=some (.agg #[a,b,c,d,e,f]):=rfl
abbrev zF:lVq:=[.bool false,.bool false,iI 0,iI 0,.bool false,.bool false]
theorem bf1 (n:Int):yo zF [(0,1),(3,1)] [.bool true,iI n]=some (ze5 true false 0 n false false):=rfl
theorem bf2:yo zF [(0,1),(1,1),(2,1)] [.bool true,.bool true,iI 3]=some (ze5 true true 3 0 false false):=rfl
theorem bf3:yo zF [(0,1),(2,1),(3,1)] [.bool true,iI 3,iI 1]=some (ze5 true false 3 1 false false):=rfl
theorem bf5:yo zF [(0,1),(4,1)] [.bool true,.bool true]=some (ze5 true false 0 0 true false):=rfl
theorem bf6:yo zF [(3,1),(4,1),(5,1)] [iI 1,.bool true,.bool true]=some (ze5 false false 0 1 true true):=rfl
theorem bf7:yo zF [(2,1),(4,1)] [iI 20,.bool true]=some (ze5 false false 20 0 true false):=rfl
theorem bf8:yo zF [] []=some (ze5 false false 0 0 false false):=rfl
set_option maxHeartbeats 1000000 in
theorem formOf_c (k:Int) (h:Heap) (Q:vPq) (hq:∀ h',h.le h' → Q (.tuple #[ze5 (vm k) (Km k) (vp k) (vd k) (ky k) (wm k),.bool (kz k)]) h') :
  CallW Tryz.prog 171 [iI k] h Q:=by
 have l1:∀ c:AObj,h.le (h.alloc c):=fun c=>(Heap.le.refl h).alloc _;replace hq:=hq (h.alloc (.blk [.bool (vm k),.bool (Km k),iI (vp k),iI (vd k),.bool (ky k),.bool (wm k)] true)) (l1 _);clear l1;refine yw3 (k:=1) (agg:=true) (size:=6) (j:=2) ok171 rfl rfl rfl fun N=>?_;rw [Yo c171 u0 rfl];delta c171;replace hq:=za hq;have sf:=Up h;have e1:=bf1 1;have e1':=bf1 2;have e2:=bf2;have e3:=bf3;have e5:=bf5;have e6:=bf6;have e7:=bf7;have e8:=bf8;by_cases hk:1≤k∧k≤8
 ·have hk:k=1∨k=2∨k=3∨k=4∨k=5∨k=6∨k=7∨k=8:=by omega
  rcases hk with rfl | rfl | rfl | rfl | rfl | rfl | rfl | rfl
  all_goals
   have g:=hq.h;clear hq;simp [vm,Km,vp,vd,ky,wm,kz] at g;replace g:=Hid.mk g;simp only [zb,aR,aW,ze,zf,Int.reduceBEq,zl6, *];exact g.h
 ·have g:=hq.h;clear hq;have n1:(k == 1)=false:=by simp;omega
  have n2:(k == 2)=false:=by simp;omega
  have n3:(k == 3)=false:=by simp;omega
  have n4:(k == 4)=false:=by simp;omega
  have n5:(k == 5)=false:=by simp;omega
  have n6:(k == 6)=false:=by simp;omega
  have n7:(k == 7)=false:=by simp;omega
  have n8:(k == 8)=false:=by simp;omega
  have f1:vm k=false:=by unfold vm;simp;omega
  have f2:Km k=false:=by unfold Km;simp;omega
  have f3:vp k=0:=by unfold vp;rw [if_neg (by omega),if_neg (by omega)]
  have f4:vd k=0:=by unfold vd;rw [if_neg (by omega),if_neg (by omega)]
  have f5:ky k=false:=by unfold ky;simp;omega
  have f6:wm k=false:=by unfold wm;simp;omega
  have f7:kz k=false:=by unfold kz;simp;omega
  rw [f1,f2,f3,f4,f5,f6,f7] at g;replace g:=Hid.mk g;clear hk f1 f2 f3 f4 f5 f6 f7;simp only [zb,aR,aW,ze,zf,zl6, *];exact g.h
def ke (m:lBq) (b:Bool):Bool:=if b then zo m else m == []
theorem yp6 {m:lBq}(b:Bool) (h:Heap) (Q:vPq) (hq:∀ h',h.le h' → Q (.bool (ke m b)) h'):CallW Tryz.prog 172 [str m,.bool b] h Q:=by
 refine zg (k:=2) ok172 rfl rfl rfl fun N=>?_;rw [wn c172 kv rfl];delta c172;replace hq:=za hq;cases b with
 | true =>
  simp only [zb, *];refine Yp _ _ fun h2 hl=>?_;have g:=hq.h h2 hl;have e:ke m true=zo m:=rfl;rw [e] at g;replace g:=Hid.mk g;clear hl;simp only [zb, *];exact g.h
 | false =>
  have g:=hq.h h (Heap.le.refl h);have e:ke m false=(m == []):=rfl;rw [e] at g;replace g:=Hid.mk g;have es:=Jp m [];simp only [zb,ze, *];exact g.h
theorem vg (n a b:Int) (h:Heap) (Q:vPq) (hq:Q (.bool (decide (a≤n∧n≤b))) h):CallW Tryz.prog 67 [iI n,iI a,iI b] h Q:=by
 refine zg (k:=3) ok67 rfl rfl rfl fun N=>?_;rw [zj7 c67 kv rfl];delta c67;replace hq:=za hq;have g:=hq.h;clear hq;by_cases h1:a≤n
 ·have e:decide (a≤n∧n≤b)=decide (n≤b):=by simp [h1]
  rw [e] at g;replace g:=Hid.mk g;clear e;simp only [zb,ze,zf, *];exact g.h
 ·have e:decide (a≤n∧n≤b)=false:=by simp [h1]
  rw [e] at g;replace g:=Hid.mk g;clear e;simp only [zb,ze,zf, *];exact g.h
mutual
def kg:St→Nat→Bool
 | .mk _ _ _ _ _ _ _,0=>false
 | .mk k m f n args thn els,d + 1=>kz k && ke m (vm k) && ke f (Km k) && decide (0≤n) && decide (n≤vp k) && args.length == vd k && z7 args 30 && (ky k || thn.length == 0) && (wm k || els.length == 0) && yk thn d && yk els d
def yk:List St→Nat→Bool
 | [],_=>true
 | s::r,d=>kg s d && yk r d
end
theorem vr:∀ (l:List St) (d:Nat),yk l d=l.all fun e=>kg e d
 | [],_=>by simp [yk]
 | e::r,d=>by simp [yk,vr r d]
def AllC (d:Nat):Prop:=∀ (l:List St) (v:Value) (h:Heap) (Q:vPq),StsV h v l→(∀ h',h.le h' → Q (.bool (yk l d)) h')→CallW Tryz.prog 107 [v,iI (d:Int)] h Q
theorem len0 (n:Nat):((n:Int) == 0)=(n == 0):=by
 cases n with
 | zero=>rfl
 | succ n=>simp;omega
set_option maxHeartbeats 4000000 in
theorem well_of {d:Nat}(hd:d≤1000) (ih:∀ d',d=d' + 1→AllC d'){h:Heap}{e:St}{x:lVq}(hx:StC h e x) (Q:vPq) (hq:∀ h',h.le h' → Q (.bool (kg e d)) h') :
  CallW Tryz.prog 144 [.agg x.toArray,iI (d:Int)] h Q:=by
 obtain ⟨v,u,w,hval,hargs,hthn,hels⟩:=hx.val;rw [hval];cases e with
 | mk k m f n args thn els =>
 simp only [St.kind,St.name,St.src,St.n,St.args,St.thn,St.els] at hargs hthn hels ⊢;clear hval hx;have b1:=qb1 (k:=k) (m:=m) (f:=f) (n:=n) hargs.one hthn.one hels.one;have l1:=(Heap.le.refl h).alloc (.blk [iI k,str m,str f,iI n,v,u,w] true);replace l1:=Hid.mk l1;replace ih:=Hid.mk ih;replace hargs:=Hid.mk hargs;replace hthn:=Hid.mk hthn;replace hels:=Hid.mk hels;refine zg (k:=3) ok144 rfl rfl rfl fun N=>?_;rw [wn c144 Ub rfl];delta c144;replace hq:=za hq;simp only [zb,aR, *];refine formOf_c k _ _ fun h2 hl=>?_;have gp2:=hl.get (Heap.get_alloc_same h (.blk [iI k,str m,str f,iI n,v,u,w] true));have l3:=hl.alloc (.blk [.bool (vm k),.bool (Km k),iI (vp k),iI (vd k),.bool (ky k),.bool (wm k)] true);have gp3:=((Heap.le.refl h2).alloc (.blk [.bool (vm k),.bool (Km k),iI (vp k),iI (vd k),.bool (ky k),.bool (wm k)] true)).get gp2;have gq3:=Heap.get_alloc_same h2 (.blk [.bool (vm k),.bool (Km k),iI (vp k),iI (vd k),.bool (ky k),.bool (wm k)] true);have sf:=Up h2 (vm k) (Km k) (vp k) (vd k) (ky k) (wm k);obtain ⟨p,hp⟩:∃ p,h.next=p:=⟨_,rfl⟩;rw [hp] at gp2 gp3;obtain ⟨q,hqn⟩:∃ q,h2.next=q:=⟨_,rfl⟩;obtain ⟨h3,hh3⟩:∃ h3,h2.alloc (.blk [.bool (vm k),.bool (Km k),iI (vp k),iI (vd k),.bool (ky k),.bool (wm k)] true)=h3:=⟨_,rfl⟩;rw [hh3] at gp3 gq3 l3 sf;rw [hqn] at gq3 sf;have l3:=Hid.mk (l1.h.trans l3);clear hl b1 l1 gp2;have la:=hargs.h.len;have lt:=hthn.h.len;have le:=hels.h.len;have z1:=len0 thn.length;have z2:=len0 els.length;cases c1:kz k with
 | false =>
  have g:=hq.h h3 l3.h;have ew:kg (.mk k m f n args thn els) d=false:=by cases d<;>simp [kg,c1]
  rw [ew] at g;clear hq;replace g:=Hid.mk g;simp only [zb,aW, *];exact g.h
 | true =>
 cases d with
 | zero =>
  have g:=hq.h h3 l3.h;have ew:kg (.mk k m f n args thn els) 0=false:=by simp [kg]
  rw [ew] at g;clear hq;replace g:=Hid.mk g;have z0:((0:Nat):Int)=0:=rfl;simp only [zb,aW,ze,zf,Int.reduceLT, *];exact g.h
 | succ d' =>
 have ew:kg (.mk k m f n args thn els) (d' + 1)=(kz k && ke m (vm k) && ke f (Km k) && decide (0≤n) && decide (n≤vp k) && args.length == vd k && z7 args 30 && (ky k || thn.length == 0) && (wm k || els.length == 0) && yk thn d' && yk els d'):=by simp [kg]
 rw [ew,c1] at hq;clear ew;have hih:=ih.h d' rfl;clear ih;replace hih:=Hid.mk hih;have dp:(0:Int) < ((d' + 1:Nat):Int):=by omega
 have hw:IntKind.i64.wrap (((d' + 1:Nat):Int) - 1)=(d' : Int):=by rw [zn (by omega) (by omega)];omega
 simp only [zb,aR,aW,ze,zf, *];refine yp6 _ _ _ fun h4 lj=>?_;have gp4:=lj.get gp3;have gq4:=lj.get gq3;have l4:=Hid.mk (l3.h.trans lj);clear lj gp3 gq3 l3 sf hh3 hqn hp;cases c2:ke m (vm k) with
 | false =>
  have g:=hq.h h4 l4.h;simp only [Bool.true_and,Bool.false_and,Bool.and_true,Bool.and_false,Bool.true_or,Bool.false_or,c1,c2] at g;clear hq;replace g:=Hid.mk g;simp only [zb, *];exact g.h
 | true =>
 simp only [zb,aR, *];refine yp6 _ _ _ fun h5 lj=>?_;have gp5:=lj.get gp4;have gq5:=lj.get gq4;have l5:=Hid.mk (l4.h.trans lj);clear lj gp4 gq4 l4;cases c3:ke f (Km k) with
 | false =>
  have g:=hq.h h5 l5.h;simp only [Bool.true_and,Bool.false_and,Bool.and_true,Bool.and_false,Bool.true_or,Bool.false_or,c1,c2,c3] at g;clear hq;replace g:=Hid.mk g;simp only [zb, *];exact g.h
 | true =>
 by_cases c4:0≤n
 case neg =>
  have c4f:=decide_eq_false c4;have g:=hq.h h5 l5.h;simp only [Bool.true_and,Bool.false_and,Bool.and_true,Bool.and_false,Bool.true_or,Bool.false_or,c1,c2,c3,c4f] at g;clear hq;replace g:=Hid.mk g;simp only [zb,aR,ze,zf, *];exact g.h
 have c4t:=decide_eq_true c4;by_cases c5:n≤vp k
 case neg =>
  have c5f:=decide_eq_false c5;have g:=hq.h h5 l5.h;simp only [Bool.true_and,Bool.false_and,Bool.and_true,Bool.and_false,Bool.true_or,Bool.false_or,c1,c2,c3,c4t,c5f] at g;clear hq;replace g:=Hid.mk g;simp only [zb,aR,ze,zf, *];exact g.h
 have c5t:=decide_eq_true c5;have le6:((args.length:Int) == (vd k:Int))=(args.length == vd k):=by
  rw [Bool.eq_iff_iff];simp;omega
 cases c6:args.length == vd k with
 | false =>
  rw [c6] at le6;have g:=hq.h h5 l5.h;simp only [Bool.true_and,Bool.false_and,Bool.and_true,Bool.and_false,Bool.true_or,Bool.false_or,c1,c2,c3,c4t,c5t,c6] at g;clear hq;replace g:=Hid.mk g;simp only [zb,aR,ze,zf, *];exact g.h
 | true =>
 rw [c6] at le6;simp only [zb,aR,ze,zf, *];refine right_c 30 (by omega) args v _ _ (hargs.h.mono l5.h) fun h6 lj=>?_;have gp6:=lj.get gp5;have gq6:=lj.get gq5;have l6:=Hid.mk (l5.h.trans lj);clear lj gp5 gq5 l5;cases c7:z7 args 30 with
 | false =>
  have g:=hq.h h6 l6.h;simp only [Bool.true_and,Bool.false_and,Bool.and_true,Bool.and_false,Bool.true_or,Bool.false_or,c1,c2,c3,c4t,c5t,c6,c7] at g;clear hq;replace g:=Hid.mk g;simp only [zb, *];exact g.h
 | true =>
 cases c8:(ky k || thn.length == 0) with
 | false =>
  have c8a:ky k=false:=by cases hf:ky k<;>simp_all
  have c8b:(thn.length == 0)=false:=by cases hf:(thn.length == 0)<;>simp_all
  rw [c8b] at z1;have g:=hq.h h6 l6.h;simp only [Bool.true_and,Bool.false_and,Bool.and_true,Bool.and_false,Bool.true_or,Bool.false_or,c1,c2,c3,c4t,c5t,c6,c7,c8] at g;clear hq;replace g:=Hid.mk g;simp only [zb,aR,ze,zf, *];exact g.h
 | true =>
 cases c9:(wm k || els.length == 0) with
 | false =>
  have c9a:wm k=false:=by cases hf:wm k<;>simp_all
  have c9b:(els.length == 0)=false:=by cases hf:(els.length == 0)<;>simp_all
  rw [c9b] at z2;have g:=hq.h h6 l6.h;simp only [Bool.true_and,Bool.false_and,Bool.and_true,Bool.and_false,c1,c2,c3,c4t,c5t,c6,c7,c8,c9] at g;clear hq;replace g:=Hid.mk g;cases c8a:ky k with
  | true =>
   rw [c8a] at gq6;simp only [zb,aR,ze,zf, *];exact g.h
  | false =>
   rw [c8a,Bool.false_or] at c8;rw [c8] at z1;rw [c8a] at gq6;simp only [zb,aR,ze,zf, *];exact g.h
 | true =>
 have hgo:CallW Tryz.prog 107 [u,iI (d' : Int)] h6 (fun r h'=>True)→True:=fun _=>trivial;clear hgo;replace hq:=fun h' l=>hq.h h' l;simp only [Bool.true_and,Bool.false_and,Bool.and_true,Bool.and_false,c1,c2,c3,c4t,c5t,c6,c7,c8,c9] at hq;replace hq:=Hid.mk hq;cases c8a:ky k with
 | true =>
  rw [c8a] at gq6;cases c9a:wm k with
  | true =>
   rw [c9a] at gq6;clear c8 c9;simp only [zb,aR,ze,zf, *];refine hih.h thn u _ _ (hthn.h.mono l6.h) fun hA lj=>?_;have gpA:=lj.get gp6;have gqA:=lj.get gq6;have lA:=Hid.mk (l6.h.trans lj);clear lj gp6 gq6 l6;cases c10:yk thn d' with
   | false =>
    have g:=hq.h hA lA.h;simp only [c10,Bool.false_and] at g;clear hq;replace g:=Hid.mk g;simp only [zb, *];exact g.h
   | true =>
    simp only [zb,aR,ze,zf, *];refine hih.h els w _ _ (hels.h.mono lA.h) fun hB lk=>?_;have g:=hq.h hB (lA.h.trans lk);simp only [c10,Bool.true_and] at g;clear hq lk;replace g:=Hid.mk g;simp only [zb, *];exact g.h
  | false =>
   rw [c9a] at gq6;rw [c9a,Bool.false_or] at c9;rw [c9] at z2;clear c8 c9;simp only [zb,aR,ze,zf, *];refine hih.h thn u _ _ (hthn.h.mono l6.h) fun hA lj=>?_;have gpA:=lj.get gp6;have gqA:=lj.get gq6;have lA:=Hid.mk (l6.h.trans lj);clear lj gp6 gq6 l6;cases c10:yk thn d' with
   | false =>
    have g:=hq.h hA lA.h;simp only [c10,Bool.false_and] at g;clear hq;replace g:=Hid.mk g;simp only [zb, *];exact g.h
   | true =>
    simp only [zb,aR,ze,zf, *];refine hih.h els w _ _ (hels.h.mono lA.h) fun hB lk=>?_;have g:=hq.h hB (lA.h.trans lk);simp only [c10,Bool.true_and] at g;clear hq lk;replace g:=Hid.mk g;simp only [zb, *];exact g.h
 | false =>
  rw [c8a] at gq6;cases c9a:wm k with
  | true =>
   rw [c9a] at gq6;rw [c8a,Bool.false_or] at c8;rw [c8] at z1;clear c8 c9;simp only [zb,aR,ze,zf, *];refine hih.h thn u _ _ (hthn.h.mono l6.h) fun hA lj=>?_;have gpA:=lj.get gp6;have gqA:=lj.get gq6;have lA:=Hid.mk (l6.h.trans lj);clear lj gp6 gq6 l6;cases c10:yk thn d' with
   | false =>
    have g:=hq.h hA lA.h;simp only [c10,Bool.false_and] at g;clear hq;replace g:=Hid.mk g;simp only [zb, *];exact g.h
   | true =>
    simp only [zb,aR,ze,zf, *];refine hih.h els w _ _ (hels.h.mono lA.h) fun hB lk=>?_;have g:=hq.h hB (lA.h.trans lk);simp only [c10,Bool.true_and] at g;clear hq lk;replace g:=Hid.mk g;simp only [zb, *];exact g.h
  | false =>
   rw [c9a] at gq6;rw [c8a,Bool.false_or] at c8;rw [c8] at z1;rw [c9a,Bool.false_or] at c9;rw [c9] at z2;clear c8 c9;simp only [zb,aR,ze,zf, *];refine hih.h thn u _ _ (hthn.h.mono l6.h) fun hA lj=>?_;have gpA:=lj.get gp6;have gqA:=lj.get gq6;have lA:=Hid.mk (l6.h.trans lj);clear lj gp6 gq6 l6;cases c10:yk thn d' with
   | false =>
    have g:=hq.h hA lA.h;simp only [c10,Bool.false_and] at g;clear hq;replace g:=Hid.mk g;simp only [zb, *];exact g.h
   | true =>
    simp only [zb,aR,ze,zf, *];refine hih.h els w _ _ (hels.h.mono lA.h) fun hB lk=>?_;have g:=hq.h hB (lA.h.trans lk);simp only [c10,Bool.true_and] at g;clear hq lk;replace g:=Hid.mk g;simp only [zb, *];exact g.h
theorem all1_c {d:Nat}(hd:d≤1000) (ih:∀ d',d=d' + 1→AllC d'){h:Heap}{p:Nat}{e:St}{x:lVq}(hp:h.get p=some (.blk [iI (d:Int)] true)) (hx:StC h e x)
  (Q:vPq) (hq:∀ h',h.le h' → Q (.bool (!kg e d)) h'):CallW Tryz.prog 143 [.agg x.toArray,pT p 0] h Q:=by
 replace ih:=Hid.mk ih;have hx0:=hx;obtain ⟨v,u,w,hval,hargs,hthn,hels⟩:=hx.cells;subst hval;have b1:=qb1 (k:=e.kind) (m:=e.name) (f:=e.src) (n:=e.n) hargs.one hthn.one hels.one;have l1:=(Heap.le.refl h).alloc (.blk [iI e.kind,str e.name,str e.src,iI e.n,v,u,w] true);have gp:=l1.get hp;have hx1:=hx0.mono l1;replace l1:=Hid.mk l1;replace hx1:=Hid.mk hx1;clear hx hx0 hp hargs hthn hels;refine zg (k:=3) ok143 rfl rfl rfl fun N=>?_;rw [wn c143 Zm rfl];delta c143;replace hq:=za hq;simp only [zb,aR,qv, *];refine well_of hd ih.h hx1.h _ fun h2 hl=>?_;have g:=hq.h h2 (l1.h.trans hl);replace g:=Hid.mk g;clear hl;simp only [zb, *];exact g.h
theorem all_of {d:Nat}(hd:d≤1000) (ih:∀ d',d=d' + 1→AllC d'):AllC d:=by
 intro l v h Q hv hq;replace ih:=Hid.mk ih;obtain ⟨xs,hsl,hb,hxs⟩:=hv;have hlen:=hxs.length;refine zg (k:=3) ok107 rfl rfl rfl fun N=>?_;rw [wn c107 Zm rfl];delta c107;replace hq:=za hq;have bx:=yd4 .i64 (d:Int);have l1:=(Heap.le.refl h).alloc (.blk [iI (d:Int)] true);have gp:=Heap.get_alloc_same h (.blk [iI (d:Int)] true);obtain ⟨p,hp⟩:∃ p,h.next=p:=⟨_,rfl⟩;obtain ⟨h1,hh1⟩:∃ h1,h.alloc (.blk [iI (d:Int)] true)=h1:=⟨_,rfl⟩;rw [hh1,hp] at gp;rw [hh1] at l1;replace hsl:=Hid.mk hsl;replace l1:=Hid.mk l1;replace hxs:=Hid.mk hxs;replace gp:=Hid.mk gp;simp only [zb, *];refine J9 (p:=fun e=>!kg e d) (hsl.h.mono l1.h) hlen (by omega) (fun i e x he hx h2 Q2 hl2 hq2=>?_) _ fun v2 h2 hv2 hl2=>?_
 ·refine CallW.val (first:=#[]) (captured:=#[pT p 0]) ?_;obtain ⟨x',hx',hex⟩:=hxs.h.get i e he;rw [hx] at hx';cases hx';exact all1_c hd ih.h (hl2.get gp.h) (hex.mono (l1.h.trans hl2)) Q2 fun h' hl'=>hq2 _ _ rfl hl'
 ·subst hv2;have g:=hq.h h2 (l1.h.trans hl2);have ea:(!(l.any fun e=>!kg e d))=yk l d:=by rw [vr,List.all_eq_not_any_not]
  rw [← ea] at g;replace g:=Hid.mk g;clear hl2 ea;simp only [zb, *];exact g.h
theorem all_c:∀ (d:Nat),d≤1000→AllC d:=by
 intro d;induction d with
 | zero=>intro hd;exact all_of hd fun d' hd'=>by omega
 | succ d ih=>intro hd;exact all_of hd fun d' hd'=>by cases hd';exact ih (by omega)
structure Tsk where
 name:lBq
 handler:Bool
 hart:Int
 prio:Int
 line:Int
 body:List St
structure Nm where
 name:lBq
 n:Int
structure Prg where
 harts:Int
 devs:List Nm
 ress:List Nm
 tasks:List Tsk
def TsC (h:Heap) (t:Tsk) (x:lVq):Prop:=∃ v,x=[str t.name,.bool t.handler,iI t.hart,iI t.prio,iI t.line,v]∧StsV h v t.body
def TsCs (h:Heap):List Tsk→List (lVq)→Prop
 | [],xs=>xs=[]
 | e::r,xs=>∃ x xr,xs=x::xr∧TsC h e x∧TsCs h r xr
def TssV (h:Heap) (v:Value) (l:List Tsk):Prop:=∃ xs,SlV h 6 v xs∧xs.length≤140737488355328∧TsCs h l xs
def NmsV (h:Heap) (v:Value) (l:List Nm):Prop:=SlV h 2 v (l.map fun d=>[str d.name,iI d.n])∧l.length≤140737488355328
def PrC (h:Heap) (p:Prg) (x:lVq):Prop:=∃ d r t,x=[iI p.harts,d,r,t]∧NmsV h d p.devs∧NmsV h r p.ress∧TssV h t p.tasks
theorem TsC.mono {h h' : Heap}(hl:h.le h'){t:Tsk}{x:lVq}(hx:TsC h t x):TsC h' t x:=let ⟨v,a,b⟩:=hx;⟨v,a,b.mono hl⟩
theorem TsCs.mono {h h' : Heap}(hl:h.le h'):∀ {l:List Tsk}{xs:List (lVq)},TsCs h l xs→TsCs h' l xs
 | [],_,hx=>hx
 | _::_,_,⟨x,xr,h1,h2,h3⟩=>⟨x,xr,h1,h2.mono hl,TsCs.mono hl h3⟩
theorem TssV.mono {h h' : Heap}(hl:h.le h'){v:Value}{l:List Tsk}(hv:TssV h v l):TssV h' v l:=let ⟨xs,a,c,b⟩:=hv;⟨xs,a.mono hl,c,b.mono hl⟩
theorem NmsV.mono {h h' : Heap}(hl:h.le h'){v:Value}{l:List Nm}(hv:NmsV h v l):NmsV h' v l:=⟨hv.1.mono hl,hv.2⟩
theorem PrC.mono {h h' : Heap}(hl:h.le h'){p:Prg}{x:lVq}(hx:PrC h p x):PrC h' p x:=let ⟨d,r,t,a,b,c,e⟩:=hx;⟨d,r,t,a,b.mono hl,c.mono hl,e.mono hl⟩
theorem TsCs.length {h:Heap}:∀ {l:List Tsk}{xs:List (lVq)},TsCs h l xs→xs.length=l.length
 | [],_,hx=>by rw [show _=[] from hx];rfl
 | _::_,_,⟨x,xr,h1,h2,h3⟩=>by rw [h1];simp [TsCs.length h3]
theorem TsCs.get {h:Heap}:∀ {l:List Tsk}{xs:List (lVq)},TsCs h l xs → ∀ (i:Nat) e,l[i]? = some e → ∃ x,xs[i]? = some x∧TsC h e x
 | [],_,_,i,e,hi=>by simp at hi
 | a::r,_,⟨x,xr,h1,h2,h3⟩,0,e,hi=>by simp at hi;subst hi;exact ⟨x,by rw [h1];rfl,h2⟩
 | a::r,_,⟨x,xr,h1,h2,h3⟩,i + 1,e,hi=>by
  obtain ⟨y,h4,h5⟩:=TsCs.get h3 i e (by simpa using hi);exact ⟨y,by rw [h1];simpa using h4,h5⟩
theorem TssV.len {h:Heap}{v:Value}{l:List Tsk}(hv:TssV h v l):ua [v]=some (iI l.length):=by
 obtain ⟨xs,a,c,b⟩:=hv;rw [a.len,b.length]
theorem NmsV.len {h:Heap}{v:Value}{l:List Nm}(hv:NmsV h v l):ua [v]=some (iI l.length):=by
 rw [hv.1.len];simp
theorem TssV.one {h:Heap}{v:Value}{l:List Tsk}(hv:TssV h v l):v.oneCell' = true:=hv.elim fun _ a=>SlV.one a.1
theorem NmsV.one {h:Heap}{v:Value}{l:List Nm}(hv:NmsV h v l):v.oneCell' = true:=SlV.one hv.1
def Zr (d:Nm):Bool:=zo d.name && decide (1≤d.n∧d.n≤3)
def Zo (d:Nm):Bool:=zo d.name && decide (1≤d.n∧d.n≤8)
def js (t:Tsk):Bool:=zo t.name && decide (0≤t.hart∧t.hart≤3) && decide (1≤t.prio∧t.prio≤7) && decide (0≤t.line∧t.line≤(if t.handler then 7 else 0)) && yk t.body 30
def ki (p:Prg):Bool:=decide (1≤p.harts∧p.harts≤4) && decide (p.devs.length≤8) && decide (p.ress.length≤8) && decide (p.tasks.length≤16) && p.devs.all Zr && p.ress.all Zo && p.tasks.all js
abbrev tsV (m:lBq) (b:Bool) (a p l:Int) (v:Value):Value:=.agg #[str m,.bool b,iI a,iI p,iI l,v]
theorem zq4 {m:lBq}{b:Bool}{a p l:Int}{v:Value}(hv:v.oneCell' = true):Je [tsV m b a p l v]=some ([str m,.bool b,iI a,iI p,iI l,v],fun id=>(pT id 0)):=by
 simpa [Je,Value.cells,Value.oneCell'] using hv
set_option maxHeartbeats 2000000 in
theorem task_c {h:Heap}{t:Tsk}{x:lVq}(hx:TsC h t x) (Q:vPq) (hq:∀ h',h.le h' → Q (.bool (js t)) h'):CallW Tryz.prog 70 [.agg x.toArray] h Q:=by
 obtain ⟨v,rfl,hv⟩:=hx;obtain ⟨m,b,a,p,l,body⟩:=t;simp only at hv ⊢;have b1:=zq4 (m:=m) (b:=b) (a:=a) (p:=p) (l:=l) hv.one;have l1:=(Heap.le.refl h).alloc (.blk [str m,.bool b,iI a,iI p,iI l,v] true);replace l1:=Hid.mk l1;replace hv:=Hid.mk hv;refine zg (k:=2) ok70 rfl rfl rfl fun N=>?_;rw [Yo c70 u0 rfl];delta c70;replace hq:=za hq;have ew:js ⟨m,b,a,p,l,body⟩=(zo m && decide (0≤a∧a≤3) && decide (1≤p∧p≤7) && decide (0≤l∧l≤(if b then 7 else 0)) && yk body 30):=rfl;rw [ew] at hq;clear ew;obtain ⟨most,hm⟩:∃ z:Int,(if b=true then 7 else 0:Int)=z:=⟨_,rfl⟩;rw [hm] at hq;cases b with
 | true =>
  simp only [if_true] at hm;subst hm;simp only [zb,aR, *];refine Yp _ _ fun h2 hl=>?_;have gp:=hl.get (Heap.get_alloc_same h (.blk [str m,.bool true,iI a,iI p,iI l,v] true));have l2:=Hid.mk (l1.h.trans hl);clear hl l1 b1;cases c1:zo m with
  | false =>
   have g:=hq.h h2 l2.h;simp only [Bool.true_and,Bool.false_and,Bool.and_true,Bool.and_false,c1] at g;clear hq;replace g:=Hid.mk g;simp only [zb, *];exact g.h
  | true =>
  simp only [zb,aR, *];refine vg _ _ _ _ _ ?_;cases c2:decide (0≤a∧a≤3) with
  | false =>
   have g:=hq.h h2 l2.h;simp only [Bool.true_and,Bool.false_and,Bool.and_true,Bool.and_false,c1,c2] at g;clear hq;replace g:=Hid.mk g;simp only [zb, *];exact g.h
  | true =>
  simp only [zb,aR, *];refine vg _ _ _ _ _ ?_;cases c3:decide (1≤p∧p≤7) with
  | false =>
   have g:=hq.h h2 l2.h;simp only [Bool.true_and,Bool.false_and,Bool.and_true,Bool.and_false,c1,c2,c3] at g;clear hq;replace g:=Hid.mk g;simp only [zb, *];exact g.h
  | true =>
  simp only [zb,aR, *];refine vg _ _ _ _ _ ?_;cases c4:decide (0≤l∧l≤7) with
  | false =>
   have g:=hq.h h2 l2.h;simp only [Bool.true_and,Bool.false_and,Bool.and_true,Bool.and_false,c1,c2,c3,c4] at g;clear hq;replace g:=Hid.mk g;simp only [zb, *];exact g.h
  | true =>
  simp only [zb,aR, *];refine all_c 30 (by omega) body v _ _ (hv.h.mono l2.h) fun h3 l3=>?_;have g:=hq.h h3 (l2.h.trans l3);simp only [Bool.true_and,c1,c2,c3,c4] at g;clear hq l3;replace g:=Hid.mk g;simp only [zb, *];exact g.h
 | false =>
  simp only [Bool.false_eq_true,if_false] at hm;subst hm;simp only [zb,aR, *];refine Yp _ _ fun h2 hl=>?_;have gp:=hl.get (Heap.get_alloc_same h (.blk [str m,.bool false,iI a,iI p,iI l,v] true));have l2:=Hid.mk (l1.h.trans hl);clear hl l1 b1;cases c1:zo m with
  | false =>
   have g:=hq.h h2 l2.h;simp only [Bool.true_and,Bool.false_and,Bool.and_true,Bool.and_false,c1] at g;clear hq;replace g:=Hid.mk g;simp only [zb, *];exact g.h
  | true =>
  simp only [zb,aR, *];refine vg _ _ _ _ _ ?_;cases c2:decide (0≤a∧a≤3) with
  | false =>
   have g:=hq.h h2 l2.h;simp only [Bool.true_and,Bool.false_and,Bool.and_true,Bool.and_false,c1,c2] at g;clear hq;replace g:=Hid.mk g;simp only [zb, *];exact g.h
  | true =>
  simp only [zb,aR, *];refine vg _ _ _ _ _ ?_;cases c3:decide (1≤p∧p≤7) with
  | false =>
   have g:=hq.h h2 l2.h;simp only [Bool.true_and,Bool.false_and,Bool.and_true,Bool.and_false,c1,c2,c3] at g;clear hq;replace g:=Hid.mk g;simp only [zb, *];exact g.h
  | true =>
  simp only [zb,aR, *];refine vg _ _ _ _ _ ?_;cases c4:decide (0≤l∧l≤0) with
  | false =>
   have g:=hq.h h2 l2.h;simp only [Bool.true_and,Bool.false_and,Bool.and_true,Bool.and_false,c1,c2,c3,c4] at g;clear hq;replace g:=Hid.mk g;simp only [zb, *];exact g.h
  | true =>
  simp only [zb,aR, *];refine all_c 30 (by omega) body v _ _ (hv.h.mono l2.h) fun h3 l3=>?_;have g:=hq.h h3 (l2.h.trans l3);simp only [Bool.true_and,c1,c2,c3,c4] at g;clear hq l3;replace g:=Hid.mk g;simp only [zb, *];exact g.h
abbrev nmV (m:lBq) (k:Int):Value:=.agg #[str m,iI k]
theorem yc8 (m:lBq) (k:Int):Je [nmV m k]=some ([str m,iI k],fun id=>(pT id 0)):=rfl
theorem dev1_c (d:Nm) (h:Heap) (Q:vPq) (hq:∀ h',h.le h' → Q (.bool (!Zr d)) h'):CallW Tryz.prog 65 [.agg #[str d.name,iI d.n]] h Q:=by
 obtain ⟨m,k⟩:=d;have b1:=yc8 m k;have l1:=(Heap.le.refl h).alloc (.blk [str m,iI k] true);replace l1:=Hid.mk l1;refine zg (k:=2) ok65 rfl rfl rfl fun N=>?_;rw [Yo c65 Zm rfl];delta c65;replace hq:=za hq;have ew:Zr ⟨m,k⟩=(zo m && decide (1≤k∧k≤3)):=rfl;rw [ew] at hq;clear ew;simp only [zb,aR, *];refine Yp _ _ fun h2 hl=>?_;have gp:=hl.get (Heap.get_alloc_same h (.blk [str m,iI k] true));have g:=hq.h h2 (l1.h.trans hl);clear hq hl l1 b1;cases c1:zo m with
 | false =>
  simp only [c1,Bool.false_and,Bool.not_false] at g;replace g:=Hid.mk g;simp only [zb, *];exact g.h
 | true =>
  simp only [c1,Bool.true_and] at g;replace g:=Hid.mk g;simp only [zb,aR, *];refine vg _ _ _ _ _ ?_;simp only [zb, *];exact g.h
theorem res1_c (d:Nm) (h:Heap) (Q:vPq) (hq:∀ h',h.le h' → Q (.bool (!Zo d)) h'):CallW Tryz.prog 68 [.agg #[str d.name,iI d.n]] h Q:=by
 obtain ⟨m,k⟩:=d;have b1:=yc8 m k;have l1:=(Heap.le.refl h).alloc (.blk [str m,iI k] true);replace l1:=Hid.mk l1;refine zg (k:=2) ok68 rfl rfl rfl fun N=>?_;rw [Yo c68 Zm rfl];delta c68;replace hq:=za hq;have ew:Zo ⟨m,k⟩=(zo m && decide (1≤k∧k≤8)):=rfl;rw [ew] at hq;clear ew;simp only [zb,aR, *];refine Yp _ _ fun h2 hl=>?_;have gp:=hl.get (Heap.get_alloc_same h (.blk [str m,iI k] true));have g:=hq.h h2 (l1.h.trans hl);clear hq hl l1 b1;cases c1:zo m with
 | false =>
  simp only [c1,Bool.false_and,Bool.not_false] at g;replace g:=Hid.mk g;simp only [zb, *];exact g.h
 | true =>
  simp only [c1,Bool.true_and] at g;replace g:=Hid.mk g;simp only [zb,aR, *];refine vg _ _ _ _ _ ?_;simp only [zb, *];exact g.h
theorem task1_c {t:Tsk}{x:lVq}{h:Heap}(hx:TsC h t x) (Q:vPq) (hq:∀ h',h.le h' → Q (.bool (!js t)) h'):CallW Tryz.prog 69 [.agg x.toArray] h Q:=by
 have hx0:=hx;obtain ⟨v,rfl,hv⟩:=hx;have b1:=zq4 (m:=t.name) (b:=t.handler) (a:=t.hart) (p:=t.prio) (l:=t.line) hv.one;have l1:=(Heap.le.refl h).alloc (.blk [str t.name,.bool t.handler,iI t.hart,iI t.prio,iI t.line,v] true);have hx1:=hx0.mono l1;replace l1:=Hid.mk l1;replace hx1:=Hid.mk hx1;clear hx0 hv;refine zg (k:=2) ok69 rfl rfl rfl fun N=>?_;rw [Yo c69 Zm rfl];delta c69;replace hq:=za hq;simp only [zb,aR,zl6, *];refine task_c hx1.h _ fun h2 hl=>?_;have g:=hq.h h2 (l1.h.trans hl);clear hl;replace g:=Hid.mk g;simp only [zb, *];exact g.h
abbrev prV (n:Int) (d r t:Value):Value:=.agg #[iI n,d,r,t]
theorem yy {n:Int}{d r t:Value}(h1:d.oneCell' = true) (h2:r.oneCell' = true) (h3:t.oneCell' = true):Je [prV n d r t]=some ([iI n,d,r,t],fun id=>(pT id 0)):=by
 simpa [Je,Value.cells,Value.oneCell'] using ⟨h1,h2,h3⟩
theorem zx2 {α:Type}(l:List α) (p:α→Bool):(!(l.any fun e=>!p e))=l.all p:=by rw [List.all_eq_not_any_not]
theorem zd4 {l:List Nm}{i:Nat}{e:Nm}{x:lVq}(he:l[i]? = some e) (hx:(l.map fun d=>[str d.name,Value.int .i64 d.n])[i]? = some x):x=[str e.name,iI e.n]:=by
 simp [he] at hx;exact hx.symm
set_option maxHeartbeats 2000000 in
theorem Right_c {h:Heap}{p:Prg}{x:lVq}(hx:PrC h p x) (Q:vPq) (hq:∀ h',h.le h' → Q (.bool (ki p)) h'):CallW Tryz.prog 44 [.agg x.toArray] h Q:=by
 obtain ⟨d,r,t,rfl,hd,hr,ht⟩:=hx;obtain ⟨n,devs,ress,tasks⟩:=p;simp only at hd hr ht ⊢;have b1:=yy (n:=n) hd.one hr.one ht.one;have l1:=(Heap.le.refl h).alloc (.blk [iI n,d,r,t] true);have gp:=Heap.get_alloc_same h (.blk [iI n,d,r,t] true);obtain ⟨q,hqn⟩:∃ q,h.next=q:=⟨_,rfl⟩;obtain ⟨h1,hh1⟩:∃ h1,h.alloc (.blk [iI n,d,r,t] true)=h1:=⟨_,rfl⟩;rw [hh1,hqn] at gp;rw [hh1] at l1;replace l1:=Hid.mk l1;have ld:=hd.len;have lr:=hr.len;obtain ⟨ts,hts,htb,htc⟩:=ht;have lt:=hts.len;rw [htc.length] at lt;have hlt:=htc.length;replace hd:=Hid.mk hd;replace hr:=Hid.mk hr;replace hts:=Hid.mk hts;replace htc:=Hid.mk htc;refine zg (k:=2) ok44 rfl rfl rfl fun N=>?_;rw [Yo c44 J4 rfl];delta c44;replace hq:=za hq;have ew:ki ⟨n,devs,ress,tasks⟩=(decide (1≤n∧n≤4) && decide (devs.length≤8) && decide (ress.length≤8) && decide (tasks.length≤16) && devs.all Zr && ress.all Zo && tasks.all js):=rfl;rw [ew] at hq;clear ew;simp only [zb,aR, *];refine vg _ _ _ _ _ ?_;clear hh1 hqn b1;cases c1:decide (1≤n∧n≤4) with
 | false =>
  have g:=hq.h h1 l1.h;simp only [Bool.true_and,Bool.false_and,Bool.and_true,Bool.and_false,Bool.not_true,Bool.not_false,c1] at g;clear hq;replace g:=Hid.mk g;simp only [zb, *];exact g.h
 | true =>
 by_cases c2:devs.length≤8
 case neg =>
  have c2n:¬ (devs.length:Int)≤8:=by omega
  have c2f:=decide_eq_false c2;have g:=hq.h h1 l1.h;simp only [Bool.true_and,Bool.false_and,Bool.and_true,Bool.and_false,Bool.not_true,Bool.not_false,c1,c2f] at g;clear hq;replace g:=Hid.mk g;simp only [zb,aR,ze,zf, *];exact g.h
 have c2n:(devs.length:Int)≤8:=by omega
 have c2t:=decide_eq_true c2;by_cases c3:ress.length≤8
 case neg =>
  have c3n:¬ (ress.length:Int)≤8:=by omega
  have c3f:=decide_eq_false c3;have g:=hq.h h1 l1.h;simp only [Bool.true_and,Bool.false_and,Bool.and_true,Bool.and_false,Bool.not_true,Bool.not_false,c1,c2t,c3f] at g;clear hq;replace g:=Hid.mk g;simp only [zb,aR,ze,zf, *];exact g.h
 have c3n:(ress.length:Int)≤8:=by omega
 have c3t:=decide_eq_true c3;by_cases c4:tasks.length≤16
 case neg =>
  have c4n:¬ (tasks.length:Int)≤16:=by omega
  have c4f:=decide_eq_false c4;have g:=hq.h h1 l1.h;simp only [Bool.true_and,Bool.false_and,Bool.and_true,Bool.and_false,Bool.not_true,Bool.not_false,c1,c2t,c3t,c4f] at g;clear hq;replace g:=Hid.mk g;simp only [zb,aR,ze,zf, *];exact g.h
 have c4n:(tasks.length:Int)≤16:=by omega
 have c4t:=decide_eq_true c4;simp only [zb,aR,ze,zf, *];refine Kc (p:=fun e=>!Zr e) (hd.h.mono l1.h).1 (by simp) hd.h.2 (fun i e x he hx h2 Q2 hl2 hq2=>?_) _ fun v2 h2 hv2 hl2=>?_
 ·refine CallW.val (first:=#[]) (captured:=#[]) ?_;obtain rfl:=zd4 he hx;exact dev1_c e h2 Q2 fun h' hl'=>hq2 _ _ rfl hl'
 subst hv2;have gp2:=hl2.get gp;have l2:=Hid.mk (l1.h.trans hl2);clear gp l1 hl2;have ea:=zx2 devs Zr;cases c5:devs.all Zr with
 | false =>
  rw [c5] at ea;have g:=hq.h h2 l2.h;simp only [Bool.true_and,Bool.false_and,Bool.and_true,Bool.and_false,Bool.not_true,Bool.not_false,c1,c2t,c3t,c4t,c5] at g;clear hq;replace g:=Hid.mk g;simp only [zb, *];exact g.h
 | true =>
 rw [c5] at ea;simp only [zb,aR, *];refine Ka (p:=fun e=>!Zo e) (hr.h.mono l2.h).1 (by simp) hr.h.2 (fun i e x he hx h2 Q2 hl2 hq2=>?_) _ fun v2 h3 hv2 hl2=>?_
 ·refine CallW.val (first:=#[]) (captured:=#[]) ?_;obtain rfl:=zd4 he hx;exact res1_c e h2 Q2 fun h' hl'=>hq2 _ _ rfl hl'
 subst hv2;have gp3:=hl2.get gp2;have l3:=Hid.mk (l2.h.trans hl2);clear gp2 l2 hl2 ea;have ea:=zx2 ress Zo;cases c6:ress.all Zo with
 | false =>
  rw [c6] at ea;have g:=hq.h h3 l3.h;simp only [Bool.true_and,Bool.false_and,Bool.and_true,Bool.and_false,Bool.not_true,Bool.not_false,c1,c2t,c3t,c4t,c5,c6] at g;clear hq;replace g:=Hid.mk g;simp only [zb, *];exact g.h
 | true =>
 rw [c6] at ea;simp only [zb,aR, *];refine kj (p:=fun e=>!js e) (hts.h.mono l3.h) hlt (by omega) (fun i e x he hx h2 Q2 hl2 hq2=>?_) _ fun v2 h4 hv2 hl2=>?_
 ·refine CallW.val (first:=#[]) (captured:=#[]) ?_;obtain ⟨x',hx',hex⟩:=htc.h.get i e he;rw [hx] at hx';cases hx';exact task1_c (hex.mono (l3.h.trans hl2)) Q2 fun h' hl'=>hq2 _ _ rfl hl'
 subst hv2;clear ea;have ea:=zx2 tasks js;have g:=hq.h h4 (l3.h.trans hl2);simp only [Bool.true_and,c1,c2t,c3t,c4t,c5,c6] at g;rw [← ea] at g;clear hq hl2 ea;replace g:=Hid.mk g;simp only [zb, *];exact g.h
theorem bs_1 (a:lBq):yj [s0q] [(0,1)] 1 1 [str a]=some ([str a],fun id=>.slice (some ⟨id,0,none⟩) 1 1):=ql rfl rfl rfl (by simp [Value.cells,Value.oneCell'])
theorem bs_2 (a b:lBq):yj [s0q,s0q] [(0,1),(1,1)] 2 1 [str a,str b]=some ([str a,str b],fun id=>.slice (some ⟨id,0,none⟩) 2 1):=ql rfl rfl rfl (by simp [Value.cells,Value.oneCell'])
theorem bs_3 (a b c:lBq):yj [s0q,s0q,s0q] [(0,1),(1,1),(2,1)] 3 1 [str a,str b,str c]=some ([str a,str b,str c],fun id=>.slice (some ⟨id,0,none⟩) 3 1):=ql rfl rfl rfl (by simp [Value.cells,Value.oneCell'])
theorem zk2 (h:Heap) (m:lBq) (k:Int):zt 2 (h.alloc (.blk [s0q,iI 0] true)) [pT h.next 0,nmV m k]=some (udq,h.alloc (.blk [str m,iI k] true)):=zx rfl rfl rfl (by simp [Value.oneCell'])
theorem yb (a b c d:Value):qu true 0 4 [a,b,c,d]=some (.agg #[a,b,c,d]):=rfl
theorem U6 {o:Int}:0 < jv o↔1≤o∧o≤14:=by
 unfold jv
 (repeat' split)<;>omega
inductive ExI:Ex→Nat→Prop
 | num (n:Nat) (d:Nat) (h:n < 4294967296):ExI (.mk 1 0 n [] []) (d + 1)
 | var (m:lBq) (d:Nat) (h:zo m=true):ExI (.mk 2 0 0 m []) (d + 1)
 | one (o:Int) (a:Ex) (d:Nat) (h:15≤o∧o≤17) (ha:ExI a d):ExI (.mk 3 o 0 [] [a]) (d + 1)
 | two (o:Int) (a b:Ex) (d:Nat) (h:1≤o∧o≤14) (ha:ExI a d) (hb:ExI b d):ExI (.mk 4 o 0 [] [a,b]) (d + 1)
 | idx (m:lBq) (a:Ex) (d:Nat) (h:zo m=true) (ha:ExI a d):ExI (.mk 5 0 0 m [a]) (d + 1)
theorem jn:∀ (d:Nat) (e:Ex),yg e d=true↔ExI e d
 | 0,.mk k o n m args=>by
  constructor
  ·intro h;simp [yg] at h
  ·intro h;cases h
 | d + 1,.mk k o n m args=>by
  constructor
  ·intro h;simp only [yg,Bool.and_eq_true,beq_iff_eq,wr,List.all_eq_true] at h;obtain ⟨⟨h1,h2⟩,h3⟩:=h;unfold zr at h1;unfold uk at h2;by_cases k1:k=1
   ·subst k1;simp only [if_true,Bool.and_eq_true,decide_eq_true_eq,beq_iff_eq] at h1;obtain ⟨⟨hn,rfl⟩,rfl⟩:=h1;obtain rfl:args=[]:=by simpa using h2
    obtain ⟨n,rfl⟩:∃ n' : Nat,n=n':=⟨n.toNat,by omega⟩;exact .num n d (by omega)
   by_cases k2:k=2
   ·subst k2;simp at h1 h2;obtain ⟨⟨h1,rfl⟩,rfl⟩:=h1;subst h2;exact .var m d h1
   by_cases k3:k=3
   ·subst k3;simp at h1 h2;obtain ⟨⟨h1,rfl⟩,rfl⟩:=h1;obtain ⟨a,rfl⟩:∃ a,args=[a]:=by
     match args,h2 with
     | [a],_=>exact ⟨a,rfl⟩
    exact .one o a d h1 ((jn d a).1 (h3 a (by simp)))
   by_cases k4:k=4
   ·subst k4;simp at h1 h2;obtain ⟨⟨h1,rfl⟩,rfl⟩:=h1;obtain ⟨a,b,rfl⟩:∃ a b,args=[a,b]:=by
     match args,h2 with
     | [a,b],_=>exact ⟨a,b,rfl⟩
    exact .two o a b d (U6.1 h1) ((jn d a).1 (h3 a (by simp))) ((jn d b).1 (h3 b (by simp)))
   by_cases k5:k=5
   ·subst k5;simp at h1 h2;obtain ⟨⟨h1,rfl⟩,rfl⟩:=h1;obtain ⟨a,rfl⟩:∃ a,args=[a]:=by
     match args,h2 with
     | [a],_=>exact ⟨a,rfl⟩
    exact .idx m a d h1 ((jn d a).1 (h3 a (by simp)))
   simp [k1,k2,k3,k4,k5] at h1
  ·intro h;cases h with
   | num n d h=>simp [yg,zr,uk,z7];omega
   | var m d h=>simp [yg,zr,uk,z7,h]
   | one o a d h ha=>simp [yg,zr,uk,z7,h,(jn d a).2 ha]
   | two o a b d h ha hb=>simp [yg,zr,uk,z7,U6.2 h,(jn d a).2 ha,(jn d b).2 hb]
   | idx m a d h ha=>simp [yg,zr,uk,z7,h,(jn d a).2 ha]
inductive StI:St→Nat→Prop
 | set (m:lBq) (a:Ex) (d:Nat) (h:zo m=true) (ha:ExI a 30):StI (.mk 1 m [] 0 [a] [] []) (d + 1)
 | get (m f:lBq) (n:Nat) (d:Nat) (h:zo m=true) (hf:zo f=true) (hn:n≤3):StI (.mk 2 m f n [] [] []) (d + 1)
 | put (m:lBq) (n:Nat) (a:Ex) (d:Nat) (h:zo m=true) (hn:n≤3) (ha:ExI a 30):StI (.mk 3 m [] n [a] [] []) (d + 1)
 | store (m:lBq) (a b:Ex) (d:Nat) (h:zo m=true) (ha:ExI a 30) (hb:ExI b 30):StI (.mk 4 m [] 0 [a,b] [] []) (d + 1)
 | lock (m:lBq) (thn:List St) (d:Nat) (h:zo m=true) (ht:∀ s ∈ thn,StI s d):StI (.mk 5 m [] 0 [] thn []) (d + 1)
 | cond (a:Ex) (thn els:List St) (d:Nat) (ha:ExI a 30) (ht:∀ s ∈ thn,StI s d) (he:∀ s ∈ els,StI s d):StI (.mk 6 [] [] 0 [a] thn els) (d + 1)
 | rep (n:Nat) (thn:List St) (d:Nat) (hn:n≤20) (ht:∀ s ∈ thn,StI s d):StI (.mk 7 [] [] n [] thn []) (d + 1)
 | halt (d:Nat):StI (.mk 8 [] [] 0 [] [] []) (d + 1)
theorem Yd {a:Ex}{d:Nat}:z7 [a] d=true↔ExI a d:=by simp [z7,jn]
theorem zc7 {a b:Ex}{d:Nat}:z7 [a,b] d=true↔ExI a d∧ExI b d:=by simp [z7,jn]
theorem X8:∀ (d:Nat) (s:St),kg s d=true↔StI s d
 | 0,.mk k m f n args thn els=>by
  constructor
  ·intro h;simp [kg] at h
  ·intro h;cases h
 | d + 1,.mk k m f n args thn els=>by
  have hall:∀ l:List St,yk l d=true ↔ ∀ s ∈ l,StI s d:=fun l=>by
   rw [vr,List.all_eq_true];exact ⟨fun h s hs=>(X8 d s).1 (h s hs),fun h s hs=>(X8 d s).2 (h s hs)⟩
  constructor
  ·intro h;simp only [kg,Bool.and_eq_true,hall,decide_eq_true_eq,beq_iff_eq] at h;obtain ⟨⟨⟨⟨⟨⟨⟨⟨⟨⟨h1,h2⟩,h3⟩,h4⟩,h5⟩,h6⟩,h7⟩,h8⟩,h9⟩,ht⟩,he⟩:=h;obtain ⟨n,rfl⟩:∃ n' : Nat,n=n':=⟨n.toNat,by omega⟩;have hk:k=1∨k=2∨k=3∨k=4∨k=5∨k=6∨k=7∨k=8:=by simp [kz] at h1;omega
   rcases hk with rfl | rfl | rfl | rfl | rfl | rfl | rfl | rfl
   all_goals simp [ke,vm,Km,vp,vd,ky,wm] at h2 h3 h5 h6 h8 h9
   ·subst h3 h5 h8 h9
    match args,h6 with
    | [a],_=>exact .set m a d h2 (Yd.1 h7)
   ·subst h6 h8 h9;exact .get m f n d h2 h3 (by omega)
   ·subst h3 h8 h9
    match args,h6 with
    | [a],_=>exact .put m n a d h2 (by omega) (Yd.1 h7)
   ·subst h3 h5 h8 h9
    match args,h6 with
    | [a,b],_=>exact .store m a b d h2 (zc7.1 h7).1 (zc7.1 h7).2
   ·subst h3 h5 h6 h9;exact .lock m thn d h2 ht
   ·subst h2 h3 h5
    match args,h6 with
    | [a],_=>exact .cond a thn els d (Yd.1 h7) ht he
   ·subst h2 h3 h6 h9;exact .rep n thn d (by omega) ht
   ·subst h2 h3 h5 h6 h8 h9;exact .halt d
  ·intro h;cases h with
   | set m a d h ha=>simp [kg,kz,ke,vm,Km,vp,vd,ky,wm,h,Yd.2 ha,yk]
   | get m f n d h hf hn=>simp [kg,kz,ke,vm,Km,vp,vd,ky,wm,h,hf,z7,yk];omega
   | put m n a d h hn ha=>simp [kg,kz,ke,vm,Km,vp,vd,ky,wm,h,Yd.2 ha,yk];omega
   | store m a b d h ha hb=>simp [kg,kz,ke,vm,Km,vp,vd,ky,wm,h,zc7.2 ⟨ha,hb⟩,yk]
   | lock m thn d h ht=>simp [kg,kz,ke,vm,Km,vp,vd,ky,wm,h,z7,(hall thn).2 ht,yk]
   | cond a thn els d ha ht he=>simp [kg,kz,ke,vm,Km,vp,vd,ky,wm,Yd.2 ha,(hall thn).2 ht,(hall els).2 he]
   | rep n thn d hn ht=>simp [kg,kz,ke,vm,Km,vp,vd,ky,wm,z7,(hall thn).2 ht,yk];omega
   | halt d=>simp [kg,kz,ke,vm,Km,vp,vd,ky,wm,z7,yk]
structure Nm.ok (d:Nm):Prop where
 n:inI d.n
 name:d.name.length≤1000000000
structure Prg.ok (p:Prg):Prop where
 devs:∀ d ∈ p.devs,d.ok
 ress:∀ d ∈ p.ress,d.ok
end Go.Eng.Sy
