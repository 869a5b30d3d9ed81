/-
  Part of a proof of the laws of layer 07 (reader): what each function does.
  Conditions: none.
-/
import Derived.Lib.SmallJoins
import Derived.Lib.Strings
import Derived.Test.YtjbjpooafphpnaaGreatDoorEc
import Derived.Test.YtjbjpooafphpnaaGreatDoorC
set_option linter.unusedSimpArgs false
set_option linter.unusedVariables false
namespace Go.Eng
open Go
theorem WJ(l:aD):(ByteArray.mk l.toArray).toList=l:=by
 simp
theorem WH{x:ByteArray}{l:aD}(h:x.data.toList=l):x=⟨l.toArray⟩:=by
 subst h;cases x;rfl
theorem WI(l:aD)(a b:Nat):(ByteArray.mk l.toArray).extract a b=⟨((l.drop a).take (b-a)).toArray⟩:=by
 apply WH;simp
theorem ja(l:aD):vQ [.string ⟨l.toArray⟩]=some (I l.length):=by
 simp[vQ,ByteArray.size]
theorem xl{l:aD}{i:Nat}{b:UInt8}(h:l[i]?=some b)(k:IntKind):zT [.string ⟨l.toArray⟩,.int k (i:Int)]=some (.int .u8 b.toNat):=by
 have au:=(j2.1 h);have:(ByteArray.mk l.toArray)[i]?=some b:=by
  obtain⟨A,S⟩:=au;have ae:i<(ByteArray.mk l.toArray).size:=by simpa[ByteArray.size] using A
  rw[getElem?_pos (ByteArray.mk l.toArray) i ae];simp[ByteArray.getElem_eq_getElem_data,S]
 simp[zT,this]
theorem iz(a b:aD):uU .eql ⟨a.toArray⟩ ⟨b.toArray⟩=some (.bool (a==b)):=by
 simp[uU,WJ]
theorem mq(a b:aD):uU .neq ⟨a.toArray⟩ ⟨b.toArray⟩=some (.bool !(a==b)):=by
 simp[uU,WJ]
theorem cf{a b:aD}(h:(a.length+b.length:Nat)≤9223372036854775807):uU .add ⟨a.toArray⟩ ⟨b.toArray⟩=some (.string ⟨(a++b).toArray⟩):=by
 have:(ByteArray.mk a.toArray).size+(ByteArray.mk b.toArray).size≤9223372036854775807:=by simpa[ByteArray.size] using h
 simp only[uU,this,if_true];rw[WH (x:=ByteArray.mk a.toArray++ByteArray.mk b.toArray) (l:=a++b) (by simp)]
theorem QW{l:aD}{n:Nat}(h:n≤l.length):tr false true [.string ⟨l.toArray⟩,I (n:Int)]=some (.string ⟨(l.take n).toArray⟩):=by
 have S:n≤(ByteArray.mk l.toArray).size:=by simpa[ByteArray.size] using h
 simp[tr,oD,S,WI]
theorem ys{l:aD}{n:Nat}(h:n≤l.length):tr true false [.string ⟨l.toArray⟩,I (n:Int)]=some (.string ⟨(l.drop n).toArray⟩):=by
 have S:n≤(ByteArray.mk l.toArray).size:=by simpa[ByteArray.size] using h
 have ae:(ByteArray.mk l.toArray).size=l.length:=by simp[ByteArray.size]
 have aB:(l.drop n).take (l.length-n)=l.drop n:=Lt (by simp);simp[tr,oD,S,WI,ae,aB,h]
theorem akT{l:aD}{m n:Nat}(hm:m≤n)(h:n≤l.length):tr true true [.string ⟨l.toArray⟩,I (m:Int),I (n:Int)]=some (.string ⟨((l.take n).drop m).toArray⟩):=by
 have S:n≤(ByteArray.mk l.toArray).size:=by simpa[ByteArray.size] using h
 have aB:(l.drop m).take (n-m)=(l.take n).drop m:=by rw[List.drop_take]
 simp[tr,oD,S,hm,WI,aB]
end Go.Eng
namespace Go.Eng.Sy
open Go Go.Eng Go.Proofs
def BP(z:Int):Bool:=(decide (97≤z) && decide (z≤122)) || (decide (65≤z) && decide (z≤90)) || (z==95) || (decide (48≤z) && decide (z≤57))
def nm(b:UInt8):Bool:=BP b.toNat
theorem aol(z:Int)(h:J)(Q:aT)(L:Q (.bool (BP z)) h):bj Tryz.prog 129 [.int .u8 z] h Q:=by
 refine c7 (k:=1) am3 rfl rfl rfl fun N=>?_;rw[gE Ob iL rfl];delta Ob;replace L:=U L;have go:∀ b,BP z=b→Q (.bool b) h:=fun b T=>by rw[← T];exact L.h
 replace go:=Hid.mk go;clear L;by_cases A:97≤z<;>by_cases S:z≤122
 ·simp only[aa,av,ay, *];exact go.h _ (by simp[BP,A,S])
 all_goals by_cases ae:65≤z<;>by_cases aB:z≤90
 all_goals cases aG:(z==95)
 all_goals by_cases a1:48≤z<;>by_cases bN:z≤57
 all_goals first
  |(exfalso;omega)
  |(
    simp only[aa,av,ay, *];exact go.h _ (by simp only[BP,A,S,ae,aB,aG,a1,bN];rfl))
theorem cZ{z:Int}(A : -9223372036854775808≤z)(S:z≤9223372036854775807):IntKind.i64.wrap z=z:=by
 rw[IntKind.wrap_i64];omega
abbrev str(l:aD):Value:=.string ⟨l.toArray⟩
theorem aea{p:UInt8→Bool}:∀ {l:aD}{i:Nat}{b:UInt8},i≤(l.takeWhile p).length→l[i]?=some b→(p b=true→i+1≤(l.takeWhile p).length)∧(p b=false→(l.takeWhile p).length=i)
 |[],i,b,h,T=>by simp at T
 |x::l,0,b,h,T=>by
  simp at T;subst T;constructor
  ·intro hp;simp[O9,hp]
  ·intro hp;simp[O9,hp]
 |x::l,i+1,b,h,T=>by
  cases af:p x with
  |false=>simp[O9,af]at h
  |true =>
   have:=aea (p:=p) (l:=l) (i:=i) (b:=b) (by simpa[O9,af] using h) (by simpa using T);constructor
   ·intro hp;have:=this.1 hp;simp[O9,af];omega
   ·intro hp;have:=this.2 hp;simp[O9,af];omega
def runN(l:aD):Nat:=(l.takeWhile nm).length
theorem MA(l:aD):runN l≤l.length:=by
 have:=(List.takeWhile_prefix (p:=nm) (l:=l)).length_le;exact this
theorem ad8{l:aD}(ag:l.length≤1000000000)(h:J)(Q:aT)(L:∀ D,h.le D→Q (I (runN l)) D):bj Tryz.prog 96 [str l] h Q:=by
 refine c7 (k:=1) anM rfl rfl rfl fun N=>?_;rw[gE QC qj rfl];delta QC;replace L:=U L;simp only[aa,ja, *];refine ch.upto l.length (fun i e A=>h.le A∧i≤runN l∧∃ ej x5,e=[str l,I 0,ej,I l.length,I i,x5]) ?_ (lj _) ⟨J.le.refl _,lj _,_,_,rfl⟩;rintro i _ A R au ⟨bF,gx,ej,x5,rfl⟩ aN;replace gx:=Hid.mk gx;delta XC;by_cases aV:i<l.length
 case neg =>
  have dm:¬(i:Int)<l.length:=by omega
  have sn:l.length=runN l:=by
   have:=MA l;have:=gx.h;omega
  replace sn:=Hid.mk sn;simp only[aa,av,ay,ja, *];have:=L.h _ bF;rw[← sn.h]at this;exact this
 case pos =>
  have dm:(i:Int)<l.length:=by omega
  have DD:IntKind.i64.wrap ((i:Int)+1)=((i+1:Nat):Int):=by rw[cZ (by omega) (by omega)];rfl
  obtain⟨b,T⟩:∃ b,l[i]?=some b:=⟨_,hi aV⟩;have bu:=aea (p:=nm) gx.h T;replace bu:=Hid.mk bu;have oP:=xl T .i64;simp only[aa,av,ay, *];refine aol _ _ _ ?_;cases hp:BP b.toNat with
  |true =>
   simp only[aa,av,ay, *];exact aN.h _ _ aV ⟨bF,bu.h.1 hp,_,_,rfl⟩
  |false =>
   have:=bu.h.2 hp;simp only[aa, *];have S:=L.h _ bF;rw[show runN l=i from this]at S;exact S
def ng(h:J)(v:Value)(l:List (aD)):Prop:=cT h 1 v (l.map fun s=>[str s])
theorem ng.mono{h D:J}(ag:h.le D){v:Value}{l:List (aD)}(ai:ng h v l):ng D v l:=cT.mono ag ai
theorem ng.len{h:J}{v:Value}{l:List (aD)}(ai:ng h v l):pD [v]=some (I l.length):=by simpa using cT.len ai
theorem ng.elem{h:J}{v:Value}{l:List (aD)}(ai:ng h v l){i:Nat}{s:aD}(au:l[i]?=some s) :
  ∃ id off cells own,oU 1 [v,I i]=some (aH id off)∧h.get id=some (.aq cells own)∧cells[off]?=some (str s)∧True:=by
 obtain⟨id,off,cells,own,A,S,ae,aB⟩:=cT.elem ai (i:=i) (x:=[str s]) (by simp[au]);exact⟨id,off,cells,own,A,S,by simpa using aB 0 (by omega),trivial⟩
theorem akp{v:Value}{l:List (aD)}(ag:l.length≤1000000)(s:aD){h:J}(ad:ng h v l)(Q:aT)
  (L:∀(z:Int) D,(decide (0≤z)=l.contains s)→h.le D→Q (I z) D):bj Tryz.prog 151 [v,str s] h Q:=by
 refine c7 (k:=2) amk rfl rfl rfl fun N=>?_;rw[eJ Ov qj rfl];delta Ov;replace L:=U L;simp only[aa,ad.len, *];refine ch.upto l.length (fun i e A=>h.le A∧(l.take i).contains s=false∧∃ ej x5,e=[v,str s,I 0,ej,I l.length,I i,x5]) ?_ (lj _) ⟨J.le.refl _,by simp,_,_,rfl⟩;rintro i _ A R au ⟨bF,gx,ej,x5,rfl⟩ aN;replace gx:=Hid.mk gx;have aqz:=ad.mono bF;delta Xi;by_cases aV:i<l.length
 case neg =>
  have dm:¬(i:Int)<l.length:=by omega
  have sn:i=l.length:=by omega
  have b8:l.contains s=false:=by
   have:=gx.h
   rwa[sn,NU]at this
  replace b8:=Hid.mk b8;replace sn:=Hid.mk sn;simp only[aa,av,ay, *];exact L.h _ _ (by rw[b8.h];rfl) bF
 case pos =>
  have dm:(i:Int)<l.length:=by omega
  have DD:IntKind.i64.wrap ((i:Int)+1)=((i+1:Nat):Int):=by rw[cZ (by omega) (by omega)];rfl
  obtain⟨b,T⟩:∃ b,l[i]?=some b:=⟨_,hi aV⟩;obtain⟨id,off,cells,own,az,aL,bq,_⟩:=aqz.elem T;replace T:=Hid.mk T;cases ak:(s==b) with
  |true =>
   have SQ:s=b:=by simpa using ak
   have lp:l.contains s=true:=by
    rw[SQ];simpa using List.mem_of_getElem? T.h
   replace SQ:=Hid.mk SQ;replace lp:=Hid.mk lp;simp only[aa,aw,av,ay,iz, *];exact L.h _ _ (by rw[lp.h];simp) bF
  |false =>
   have ik:(l.take (i+1)).contains s=false:=by
    have A:=gx.h;rw[G5,T.h];have S:s≠b:=by simpa using ak
    simp at A ⊢;exact⟨A,S⟩
   replace ik:=Hid.mk ik;simp only[aa,aw,av,ay,iz, *];exact aN.h _ _ aV ⟨bF,ik.h,_,_,rfl⟩
theorem agU{v:Value}{l:List (aD)}(ag:l.length≤1000000)(s:aD){h:J}(ad:ng h v l)(Q:aT)
  (L:∀ D,h.le D→Q (.bool (l.contains s)) D):bj Tryz.prog 130 [v,str s] h Q:=by
 refine c7 (k:=2) am4 rfl rfl rfl fun N=>?_;rw[eJ Oc iL rfl];delta Oc;replace L:=U L;simp only[aa, *];refine akp ag s ad _ fun z A bp bF=>?_;have go:∀ b,b=l.contains s→Q (.bool b) A:=fun b T=>by rw[T];exact L.h _ bF
 replace go:=Hid.mk go;by_cases h0:0≤z
 ·rw[decide_eq_true h0]at bp;replace bp:=Hid.mk bp;simp only[aa,av,ay, *];exact go.h _ bp.h
 ·rw[decide_eq_false h0]at bp;replace bp:=Hid.mk bp;simp only[aa,av,ay, *];exact go.h _ bp.h
theorem Yv:∀(vs done rest:ar) (k:Nat),done.length=k→rest.length=vs.length→(∀ v∈vs,v.cells.toList=[v]∧v.oneCell'=true) →
  pe (done++rest) (((List.range' k vs.length).map fun i=>(i,1)).zip vs)=some (done++vs)
 |[],done,rest,k,_,hr,_=>by
  have:rest=[]:=List.length_eq_zero_iff.1 (by simpa using hr);subst this;simp[pe]
 |v::vs,done,r::rest,k,hd,hr,A=>by
  obtain⟨a,b⟩:=A v (by simp);have ih:=Yv vs (done++[v]) rest (k+1) (by simp[hd]) (by simpa using hr) fun x af=>A x (by simp[af]);simp only[hR,List.range'_succ,Fx,List.zip_cons_cons,pe,a];rw[if_pos ⟨rfl,by simp;omega,by simp[b]⟩];have az:(done++r::rest).take k=done:=by rw[← hd];simp
  have aL:(done++r::rest).drop (k+1)=rest:=by rw[← hd,← List.drop_drop];simp
  rw[az,aL];simpa using ih
 |v::vs,done,[],k,hd,hr,A=>by simp at hr
theorem rq{zs vs:ar}{parts:List (Nat × Nat)}{n:Nat}(hp:parts=(List.range' 0 vs.length).map fun i=>(i,1))(bp:zs.length=vs.length)(hn:n=vs.length)(A:∀ v∈vs,v.cells.toList=[v]∧v.oneCell'=true) :
  ie zs parts n 1 vs=some (vs,fun id=>.slice (some ⟨id,0,none⟩) n 1):=by
 have:=Yv vs [] zs 0 rfl bp A;subst hp;simp only[ie,List.length_map,List.length_range',if_true];rw[show zs=[]++zs from rfl,this];rfl
theorem vZ(h:J)(l:List (aD)){n:Nat}{cells:ar}(hn:n=l.length)(aj:cells=l.map str):ng (h.alloc (.aq cells true)) (.slice (some ⟨h.next,0,none⟩) n 1) l:=by
 subst hn;subst aj;refine .inr ⟨h.next,0,by simp,.inr ⟨_,_,J.hy _ _,fun j x bn=>?_⟩⟩;have af:∀ x∈(l.map fun s=>[str s]),x.length=1:=by simp
 obtain⟨A,S⟩:=CX af j x bn;have aZ:(l.map fun s=>[str s]).flatten=l.map str:=by
  clear A S af bn;induction l with
  |nil=>rfl
  |cons a l ih=>simp[ih]
 rw[aZ]at A S;exact⟨af x (List.mem_of_getElem? bn),by simpa using A,by simpa using S⟩
def rj:List (aD):=[[104,97,114,116,115],[100,101,118,105,99,101],[117,97,114,116],[116,105,109,101,114],[103,112,105,111],[114,101,115,111,117,114,99,101],[116,97,115,107],[104,97,110,100,108,101,114],[108,111,99,107],[105,102],[101,108,115,101],[114,101,112,101,97,116],[104,97,108,116]]
theorem ag9:ie [aI,aI,aI,aI,aI,aI,aI,aI,aI,aI,aI,aI,aI] [(0,1),(1,1),(2,1),(3,1),(4,1),(5,1),(6,1),(7,1),(8,1),(9,1),(10,1),(11,1),(12,1)] 13 1 [.string ⟨#[104,97,114,116,115]⟩,.string ⟨#[100,101,118,105,99,101]⟩,.string ⟨#[117,97,114,116]⟩,.string ⟨#[116,105,109,101,114]⟩,.string ⟨#[103,112,105,111]⟩,.string ⟨#[114,101,115,111,117,114,99,101]⟩,.string ⟨#[116,97,115,107]⟩,.string ⟨#[104,97,110,100,108,101,114]⟩,.string ⟨#[108,111,99,107]⟩,.string ⟨#[105,102]⟩,.string ⟨#[101,108,115,101]⟩,.string ⟨#[114,101,112,101,97,116]⟩,.string ⟨#[104,97,108,116]⟩]=some ([.string ⟨#[104,97,114,116,115]⟩,.string ⟨#[100,101,118,105,99,101]⟩,.string ⟨#[117,97,114,116]⟩,.string ⟨#[116,105,109,101,114]⟩,.string ⟨#[103,112,105,111]⟩,.string ⟨#[114,101,115,111,117,114,99,101]⟩,.string ⟨#[116,97,115,107]⟩,.string ⟨#[104,97,110,100,108,101,114]⟩,.string ⟨#[108,111,99,107]⟩,.string ⟨#[105,102]⟩,.string ⟨#[101,108,115,101]⟩,.string ⟨#[114,101,112,101,97,116]⟩,.string ⟨#[104,97,108,116]⟩],fun id=>.slice (some ⟨id,0,none⟩) 13 1):=rq rfl rfl rfl (by simp[Value.cells,Value.oneCell'])
theorem arn(h:J)(Q:aT)(L:∀ v D,ng D v rj→h.le D→Q v D):bj Tryz.prog 131 [] h Q:=by
 refine c7 (k:=0) am5 rfl rfl rfl fun N=>?_;rw[Fl Od iL rfl];delta Od;replace L:=U L;simp only[aa,ag9, *];exact L.h _ _ (vZ h rj rfl rfl) ((J.le.refl h).alloc _)
def kh:List (aD):=[[61,61],[33,61],[60,60],[62,62],[60,46],[43],[45],[42],[47],[37],[38],[124],[94],[60],[61],[33],[126],[40],[41],[123],[125],[91],[93],[59],[46]]
theorem ag8:ie [aI,aI,aI,aI,aI,aI,aI,aI,aI,aI,aI,aI,aI,aI,aI,aI,aI,aI,aI,aI,aI,aI,aI,aI,aI] [(0,1),(1,1),(2,1),(3,1),(4,1),(5,1),(6,1),(7,1),(8,1),(9,1),(10,1),(11,1),(12,1),(13,1),(14,1),(15,1),(16,1),(17,1),(18,1),(19,1),(20,1),(21,1),(22,1),(23,1),(24,1)] 25 1 [.string ⟨#[61,61]⟩,.string ⟨#[33,61]⟩,.string ⟨#[60,60]⟩,.string ⟨#[62,62]⟩,.string ⟨#[60,46]⟩,.string ⟨#[43]⟩,.string ⟨#[45]⟩,.string ⟨#[42]⟩,.string ⟨#[47]⟩,.string ⟨#[37]⟩,.string ⟨#[38]⟩,.string ⟨#[124]⟩,.string ⟨#[94]⟩,.string ⟨#[60]⟩,.string ⟨#[61]⟩,.string ⟨#[33]⟩,.string ⟨#[126]⟩,.string ⟨#[40]⟩,.string ⟨#[41]⟩,.string ⟨#[123]⟩,.string ⟨#[125]⟩,.string ⟨#[91]⟩,.string ⟨#[93]⟩,.string ⟨#[59]⟩,.string ⟨#[46]⟩]=some ([.string ⟨#[61,61]⟩,.string ⟨#[33,61]⟩,.string ⟨#[60,60]⟩,.string ⟨#[62,62]⟩,.string ⟨#[60,46]⟩,.string ⟨#[43]⟩,.string ⟨#[45]⟩,.string ⟨#[42]⟩,.string ⟨#[47]⟩,.string ⟨#[37]⟩,.string ⟨#[38]⟩,.string ⟨#[124]⟩,.string ⟨#[94]⟩,.string ⟨#[60]⟩,.string ⟨#[61]⟩,.string ⟨#[33]⟩,.string ⟨#[126]⟩,.string ⟨#[40]⟩,.string ⟨#[41]⟩,.string ⟨#[123]⟩,.string ⟨#[125]⟩,.string ⟨#[91]⟩,.string ⟨#[93]⟩,.string ⟨#[59]⟩,.string ⟨#[46]⟩],fun id=>.slice (some ⟨id,0,none⟩) 25 1):=rq rfl rfl rfl (by simp[Value.cells,Value.oneCell'])
theorem aq8(h:J)(Q:aT)(L:∀ v D,ng D v kh→h.le D→Q v D):bj Tryz.prog 113 [] h Q:=by
 refine c7 (k:=0) alQ rfl rfl rfl fun N=>?_;rw[Fl NY iL rfl];delta NY;replace L:=U L;simp only[aa,ag8, *];exact L.h _ _ (vZ h kh rfl rfl) ((J.le.refl h).alloc _)
def isWord(l:aD):Bool:=rj.contains l
theorem aeC{l:aD}(h:J)(Q:aT)(L:∀ D,h.le D→Q (.bool (isWord l)) D):bj Tryz.prog 97 [str l] h Q:=by
 refine c7 (k:=1) anN rfl rfl rfl fun N=>?_;rw[gE QD iL rfl];delta QD;replace L:=U L;simp only[aa, *];refine arn h _ fun v A ib bF=>?_;simp only[aa, *];refine agU (by decide) l ib _ fun S bC=>?_;have:=L.h _ (bF.trans bC);replace this:=Hid.mk this;simp only[aa, *];exact this.h
def de(l:aD):Bool:=match l with
 |[]=>false
 |b::r=>decide ((b::r).length≤20) && (runN (b::r)==(b::r).length) && decide (57<(b.toNat:Int)) && !isWord (b::r)
theorem vJ{l:aD}(h:J)(Q:aT)(L:∀ D,h.le D→Q (.bool (de l)) D):bj Tryz.prog 53 [str l] h Q:=by
 refine c7 (k:=1) an5 rfl rfl rfl fun N=>?_;rw[gE PP iL rfl];delta PP;replace L:=U L;cases l with
 |nil =>
  have:de []=false:=rfl;simp only[aa,av,mq, *];have:=L.h h (J.le.refl h);exact this
 |cons b r =>
  obtain⟨l,ag⟩:∃ l,b::r=l:=⟨_,rfl⟩;have T:l[0]?=some b:=by rw[← ag];rfl
  have oP:=xl T .i64;rw[Ch]at oP;have cH:(l==[])=false:=by rw[← ag];rfl
  have lX:de l=(decide (l.length≤20) && (runN l==l.length) && decide (57<(b.toNat:Int)) && !isWord l):=by rw[← ag];rfl
  rw[ag]at L ⊢;clear ag T;have go:∀ D c,h.le D→c=de l→Q (.bool c) D:=fun D c ag e=>by rw[e];exact L.h _ ag
  rw[lX]at go;replace go:=Hid.mk go;clear lX L;by_cases KV:(l.length:Int)≤20
  ·have Rt:l.length≤20:=by omega
   simp only[aa,av,ay,mq,ja, *];refine ad8 (by omega) h _ fun A bF=>?_;have sq:(runN l==l.length)=((runN l:Int)==(l.length:Int)):=by
    rw[Bool.eq_iff_iff];simp only[beq_iff_eq];omega
   cases hr:((runN l:Int)==(l.length:Int)) with
   |false =>
    have g:=go.h A false bF (by rw[sq,hr];simp);replace g:=Hid.mk g;clear sq;simp only[aa,av,ay,ja, *];exact g.h
   |true =>
    by_cases rt:(57:Int)<(b.toNat:Int)
    ·replace sq:=Hid.mk sq;simp only[aa,av,ay,ja, *];refine aeC A _ fun S bC=>?_;have g:=go.h S (!isWord l) (bF.trans bC) (by rw[sq.h,hr,decide_eq_true rt,decide_eq_true Rt];simp);replace g:=Hid.mk g;simp only[aa, *];exact g.h
    ·have g:=go.h A false bF (by rw[decide_eq_false rt];simp);replace g:=Hid.mk g;clear sq;simp only[aa,av,ay,ja, *];exact g.h
  ·have g:=go.h h false (J.le.refl h) (by rw[decide_eq_false (by omega:¬ l.length≤20)];simp);replace g:=Hid.mk g;simp only[aa,av,ay,mq,ja, *];exact g.h
theorem Y7{l p:aD}(h:J)(Q:aT)(L:Q (.bool (p.isPrefixOf l)) h):bj Tryz.prog 141 [str l,str p] h Q:=by
 refine c7 (k:=2) amg rfl rfl rfl fun N=>?_;rw[eJ Oo iL rfl];delta Oo;replace L:=U L;have go:∀ b,b=p.isPrefixOf l→Q (.bool b) h:=fun b T=>by rw[T];exact L.h
 replace go:=Hid.mk go;clear L;by_cases ag:(p.length:Int)≤l.length
 ·have qB:=QW (l:=l) (n:=p.length) (by omega);have g:=go.h ((l.take p.length)==p) (by
   rw[Bool.eq_iff_iff,beq_iff_eq,G3,List.prefix_iff_eq_take];exact eq_comm)
  replace g:=Hid.mk g;simp only[aa,av,ay,ja,iz, *];exact g.h
 ·have g:=go.h false (by
   cases hp:p.isPrefixOf l with
   |false=>rfl
   |true =>
    have:=(G3.1 hp).length_le;omega)
  replace g:=Hid.mk g;simp only[aa,av,ay,ja, *];exact g.h
theorem ve{l p:aD}(h:J)(Q:aT)(L:Q (.bool (p.isPrefixOf l)) h):bj Tryz.prog 114 [str l,str p] h Q:=by
 refine c7 (k:=2) alR rfl rfl rfl fun N=>?_;rw[eJ NZ iL rfl];delta NZ;replace L:=U L;simp only[aa, *];refine Y7 h _ ?_;obtain⟨b,T⟩:∃ b,p.isPrefixOf l=b:=⟨_,rfl⟩;rw[T]at L ⊢;clear T;simp only[aa, *];exact L.h
theorem akg(l:aD)(z:Int):Ml [.string ⟨l.toArray⟩,.int .u8 z]=some (I (Lib.indexByte l z.toNat.toUInt8)):=by simp[Ml]
theorem akj{l:aD}(z:Int)(h:J)(Q:aT)(L:Q (I (Lib.indexByte l z.toNat.toUInt8)) h):bj Tryz.prog 139 [str l,.int .u8 z] h Q:=by
 refine c7 (k:=2) amd rfl rfl rfl fun N=>?_;rw[eJ Ol iL rfl];delta Ol;replace L:=U L;obtain⟨b,T⟩:∃ b,Lib.indexByte l z.toNat.toUInt8=b:=⟨_,rfl⟩;rw[T]at L;simp only[aa, *];refine c7 (k:=2) amq rfl rfl rfl fun N=>?_;rw[eJ OC iL rfl];delta OC;replace L:=U L;replace L:=L.h;have oP:=akg l z;rw[T]at oP;simp only[aa, *];exact L.h
theorem Ip{z:Int}(A:0≤z)(S:z≤255):IntKind.u8.wrap z=z:=by
 rw[IntKind.wrap_u8];omega
def vK:List (aD):=[[120],[121],[110],[95,97],[66,50],[105,102,115],[104,97,114,116],[108,111,99,107,49],[88,95,121,95,90],[72,97,108,116]]
theorem W0:ie [aI,aI,aI,aI,aI,aI,aI,aI,aI,aI] [(0,1),(1,1),(2,1),(3,1),(4,1),(5,1),(6,1),(7,1),(8,1),(9,1)] 10 1 [.string ⟨#[120]⟩,.string ⟨#[121]⟩,.string ⟨#[110]⟩,.string ⟨#[95,97]⟩,.string ⟨#[66,50]⟩,.string ⟨#[105,102,115]⟩,.string ⟨#[104,97,114,116]⟩,.string ⟨#[108,111,99,107,49]⟩,.string ⟨#[88,95,121,95,90]⟩,.string ⟨#[72,97,108,116]⟩]=some ([.string ⟨#[120]⟩,.string ⟨#[121]⟩,.string ⟨#[110]⟩,.string ⟨#[95,97]⟩,.string ⟨#[66,50]⟩,.string ⟨#[105,102,115]⟩,.string ⟨#[104,97,114,116]⟩,.string ⟨#[108,111,99,107,49]⟩,.string ⟨#[88,95,121,95,90]⟩,.string ⟨#[72,97,108,116]⟩],fun id=>.slice (some ⟨id,0,none⟩) 10 1):=rq rfl rfl rfl (by simp[Value.cells,Value.oneCell'])
def abo:ar:=[.string ⟨#[120]⟩,.string ⟨#[121]⟩,.string ⟨#[110]⟩,.string ⟨#[95,97]⟩,.string ⟨#[66,50]⟩,.string ⟨#[105,102,115]⟩,.string ⟨#[104,97,114,116]⟩,.string ⟨#[108,111,99,107,49]⟩,.string ⟨#[88,95,121,95,90]⟩,.string ⟨#[72,97,108,116]⟩]
theorem aga:ie [aI,aI,aI,aI,aI,aI,aI,aI,aI,aI,aI,aI,aI] [(0,1),(1,1),(2,1),(3,1),(4,1),(5,1),(6,1),(7,1),(8,1),(9,1),(10,1),(11,1),(12,1)] 13 1 [.string ⟨#[104,97,114,116,115]⟩,.string ⟨#[100,101,118,105,99,101]⟩,.string ⟨#[117,97,114,116]⟩,.string ⟨#[116,105,109,101,114]⟩,.string ⟨#[103,112,105,111]⟩,.string ⟨#[114,101,115,111,117,114,99,101]⟩,.string ⟨#[116,97,115,107]⟩,.string ⟨#[104,97,110,100,108,101,114]⟩,.string ⟨#[108,111,99,107]⟩,.string ⟨#[105,102]⟩,.string ⟨#[101,108,115,101]⟩,.string ⟨#[114,101,112,101,97,116]⟩,.string ⟨#[104,97,108,116]⟩]=some ([.string ⟨#[104,97,114,116,115]⟩,.string ⟨#[100,101,118,105,99,101]⟩,.string ⟨#[117,97,114,116]⟩,.string ⟨#[116,105,109,101,114]⟩,.string ⟨#[103,112,105,111]⟩,.string ⟨#[114,101,115,111,117,114,99,101]⟩,.string ⟨#[116,97,115,107]⟩,.string ⟨#[104,97,110,100,108,101,114]⟩,.string ⟨#[108,111,99,107]⟩,.string ⟨#[105,102]⟩,.string ⟨#[101,108,115,101]⟩,.string ⟨#[114,101,112,101,97,116]⟩,.string ⟨#[104,97,108,116]⟩],fun id=>.slice (some ⟨id,0,none⟩) 13 1):=rq rfl rfl rfl (by simp[Value.cells,Value.oneCell'])
example:rj=[[104,97,114,116,115],[100,101,118,105,99,101],[117,97,114,116],[116,105,109,101,114],[103,112,105,111],[114,101,115,111,117,114,99,101],[116,97,115,107],[104,97,110,100,108,101,114],[108,111,99,107],[105,102],[101,108,115,101],[114,101,112,101,97,116],[104,97,108,116]]:=rfl
theorem akG:ie [aI,aI,aI,aI,aI,aI,aI,aI,aI,aI,aI,aI,aI,aI,aI,aI,aI,aI,aI,aI,aI,aI,aI,aI,aI] [(0,1),(1,1),(2,1),(3,1),(4,1),(5,1),(6,1),(7,1),(8,1),(9,1),(10,1),(11,1),(12,1),(13,1),(14,1),(15,1),(16,1),(17,1),(18,1),(19,1),(20,1),(21,1),(22,1),(23,1),(24,1)] 25 1 [.string ⟨#[61,61]⟩,.string ⟨#[33,61]⟩,.string ⟨#[60,60]⟩,.string ⟨#[62,62]⟩,.string ⟨#[60,46]⟩,.string ⟨#[43]⟩,.string ⟨#[45]⟩,.string ⟨#[42]⟩,.string ⟨#[47]⟩,.string ⟨#[37]⟩,.string ⟨#[38]⟩,.string ⟨#[124]⟩,.string ⟨#[94]⟩,.string ⟨#[60]⟩,.string ⟨#[61]⟩,.string ⟨#[33]⟩,.string ⟨#[126]⟩,.string ⟨#[40]⟩,.string ⟨#[41]⟩,.string ⟨#[123]⟩,.string ⟨#[125]⟩,.string ⟨#[91]⟩,.string ⟨#[93]⟩,.string ⟨#[59]⟩,.string ⟨#[46]⟩]=some ([.string ⟨#[61,61]⟩,.string ⟨#[33,61]⟩,.string ⟨#[60,60]⟩,.string ⟨#[62,62]⟩,.string ⟨#[60,46]⟩,.string ⟨#[43]⟩,.string ⟨#[45]⟩,.string ⟨#[42]⟩,.string ⟨#[47]⟩,.string ⟨#[37]⟩,.string ⟨#[38]⟩,.string ⟨#[124]⟩,.string ⟨#[94]⟩,.string ⟨#[60]⟩,.string ⟨#[61]⟩,.string ⟨#[33]⟩,.string ⟨#[126]⟩,.string ⟨#[40]⟩,.string ⟨#[41]⟩,.string ⟨#[123]⟩,.string ⟨#[125]⟩,.string ⟨#[91]⟩,.string ⟨#[93]⟩,.string ⟨#[59]⟩,.string ⟨#[46]⟩],fun id=>.slice (some ⟨id,0,none⟩) 25 1):=rq rfl rfl rfl (by simp[Value.cells,Value.oneCell'])
example:kh=[[61,61],[33,61],[60,60],[62,62],[60,46],[43],[45],[42],[47],[37],[38],[124],[94],[60],[61],[33],[126],[40],[41],[123],[125],[91],[93],[59],[46]]:=rfl
def pick(c n:Int):Int:=(if c<0 then IntKind.i64.wrap (0-IntKind.i64.wrap (c+1)) else c).tmod n
def nO(z:Int):Prop:=-9223372036854775808≤z∧z≤9223372036854775807
theorem aop{c n:Int}(aj:nO c)(hn:0<n):0≤pick c n∧pick c n<n:=by
 unfold pick nO at *;split
 ·rw[cZ (z:=c+1) (by omega) (by omega),cZ (by omega) (by omega)];exact⟨Int.tmod_nonneg _ (by omega),Int.tmod_lt_of_pos _ hn⟩
 ·exact⟨Int.tmod_nonneg _ (by omega),Int.tmod_lt_of_pos _ hn⟩
theorem aoo(c n:Int)(hn:n≠0)(h:J)(Q:aT)(L:Q (I (pick c n)) h):bj Tryz.prog 136 [I c,I n] h Q:=by
 refine c7 (k:=2) ama rfl rfl rfl fun N=>?_;rw[eJ Oi iL rfl];delta Oi;replace L:=U L;have dw:c<0→Q (I ((IntKind.i64.wrap (0-IntKind.i64.wrap (c+1))).tmod n)) h:=fun aj=>by have:=L.h;rwa[pick,if_pos aj]at this
 have cN:¬ c<0→Q (I (c.tmod n)) h:=fun aj=>by have:=L.h;rwa[pick,if_neg aj]at this
 replace dw:=Hid.mk dw;replace cN:=Hid.mk cN;repeat' (first|simp only[aa,av,ay, *]|with_reducible (first|refine aap ?_ ?_|refine aaw ?_ ?_|refine aaq ?_ ?_|refine aax ?_ ?_)<;>intro aj)
 ·exact dw.h (by assumption)
 ·exact cN.h (by assumption)
def zV(c:Int)(n:Nat):Nat:=(pick c n).toNat
theorem Uy{c:Int}(aj:nO c){n:Nat}(hn:0<n):zV c n<n∧((zV c n:Nat):Int)=pick c n:=by
 have:=aop (n:=(n:Int)) aj (by omega);unfold zV;omega
def bs(n:Nat):aD:=if 10≤n then bs (n / 10)++[UInt8.ofNat (48+n % 10)] else[UInt8.ofNat (48+n % 10)]
theorem N7:∀(k n:Nat),n<10 ^ (k+1)→(bs n).length≤k+1
 |0,n,h=>by unfold bs;split<;>simp;omega
 |k+1,n,h=>by
  unfold bs;split
  ·have:=N7 k (n / 10) (by rw[Nat.pow_succ]at h;omega);simp;omega
  ·simp
theorem X2(n:Nat):(IntKind.u8.wrap (48+((n:Int).tmod 10)))=((UInt8.ofNat (48+n % 10)).toNat:Int):=by
 have A:(n:Int).tmod 10=((n % 10:Nat):Int):=by
  rw[Int.tmod_eq_emod_of_nonneg (by omega)];omega
 rw[A,Ip (by omega) (by omega)];simp;omega
theorem W5{h:J}{id:Nat}{b:UInt8}{o:Bool}(aA:h.get id=some (.aq [.int .u8 b.toNat] o)):aw .Aq [.slice (some ⟨id,0,none⟩) 1 1] h.get=some (str [b]):=by
 simp[aw,aA,Ao]
theorem ah2(n:Nat):∀(hn:n≤9223372036854775807) (h:J) (Q:aT),(∀ D,h.le D→Q (str (bs n)) D)→bj Tryz.prog 137 [I n] h Q:=by
 induction n using Nat.strongRecOn with
 |_ n ih =>
 intro hn h Q L;have T:=X2 n;have qI:IntKind.i64.wrap (48+(n:Int).tmod 10)=48+(n:Int).tmod 10:=by
  have A:(n:Int).tmod 10=((n % 10:Nat):Int):=by
   rw[Int.tmod_eq_emod_of_nonneg (by omega)];omega
  rw[A];exact cZ (by omega) (by omega)
 refine c7 (k:=1) amb rfl rfl rfl fun N=>?_;rw[gE Oj mY rfl];delta Oj;replace L:=U L;obtain⟨q,qU⟩:∃ x,h.next=x:=⟨_,rfl⟩;have wn:ie [.int .u8 0] [(0,1)] 1 1 [.int .u8 ((UInt8.ofNat (48+n % 10)).toNat:Int)]=some ([.int .u8 ((UInt8.ofNat (48+n % 10)).toNat:Int)],fun id=>.slice (some ⟨id,0,none⟩) 1 1):=uT rfl rfl rfl rfl;obtain⟨A,hh⟩:∃ x,h.alloc (.aq [.int .u8 ((UInt8.ofNat (48+n % 10)).toNat:Int)] true)=x:=⟨_,rfl⟩;have g1:A.get q=some (.aq [.int .u8 ((UInt8.ofNat (48+n % 10)).toNat:Int)] true):=by rw[← hh,← qU];exact J.hy _ _
 have l1:h.le A:=by rw[← hh];exact(J.le.refl _).alloc _
 have dJ:=W5 g1;have kO:∀ D,A.le D→Q (str (bs n)) D:=fun D ag=>L.h D (l1.trans ag);replace kO:=Hid.mk kO;clear L l1;have cF:bs n=if 10≤n then bs (n / 10)++[UInt8.ofNat (48+n % 10)] else[UInt8.ofNat (48+n % 10)]:=by rw[bs]
 have YU:¬(10:Int)=0:=by decide
 by_cases lk:10≤n
 ·have FN:(10:Int)≤(n:Int):=by omega
  rw[if_pos lk]at cF;have K0:IntKind.i64.wrap ((n:Int).tdiv 10)=((n / 10:Nat):Int):=by
   rw[Int.tdiv_eq_ediv_of_nonneg (by omega),cZ (by omega) (by omega)];omega
  replace ih:=Hid.mk ih;replace cF:=Hid.mk cF;simp only[aa,av,ay, *];refine ih.h (n / 10) (by omega) (by omega) A _ fun S l2=>?_;have aR:=N7 18 (n / 10) (by omega);have qB:=cf (a:=bs (n / 10)) (b:=[UInt8.ofNat (48+n % 10)]) (by simp;omega);have g:=kO.h S l2;rw[cF.h]at g;replace g:=Hid.mk g;clear l2;simp only[aa,av, *];exact g.h
 ·have FN:¬(10:Int)≤(n:Int):=by omega
  rw[if_neg lk]at cF;have g:=kO.h A (J.le.refl _);rw[cF]at g;replace g:=Hid.mk g;clear cF ih;simp only[aa,av,ay, *];exact g.h
abbrev nc(h:J)(v:Value)(l:List Int):Prop:=cT h 1 v (l.map fun z=>[I z])
theorem nc.len{h:J}{v:Value}{l:List Int}(ad:nc h v l):pD [v]=some (I l.length):=by have:=cT.len ad;simpa using this
theorem nc.elem{h:J}{v:Value}{l:List Int}(ad:nc h v l){i:Nat}{z:Int}(au:l[i]?=some z) :
  ∃ id off cells own,oU 1 [v,I i]=some (aH id off)∧h.get id=some (.aq cells own)∧cells[off]?=some (I z):=by
 obtain⟨id,off,cells,own,A,S,ae,aB⟩:=cT.elem ad (i:=i) (x:=[I z]) (by simp[au]);exact⟨id,off,cells,own,A,S,by have:=aB 0 (by omega);rwa[Gr]at this⟩
def Ex(k:Nat):aD:=if 10≤k then vK.getD (k % 10) []++bs k else vK.getD (k % 10) []
def Il(n:Int):aD:=Ex (zV n 300)
theorem alk:∀ j:Fin 10,(vK.getD j.val []).length≤10:=by decide
theorem getD_some{c1:Type}{l:List c1}{i:Nat}(h:i<l.length)(d:c1):l[i]?=some (l.getD i d):=by
 simp[hi h]
theorem aej{n:Int}(hn:nO n)(h:J)(Q:aT)(L:∀ D,h.le D→Q (str (Il n)) D):bj Tryz.prog 106 [I n] h Q:=by
 obtain⟨aV,GQ⟩:=Uy hn (n:=300) (by omega);have qX:Il n=Ex (zV n 300):=rfl;rw[qX]at L;clear qX;obtain⟨k,ab⟩:∃ k,zV n 300=k:=⟨_,rfl⟩;rw[ab]at aV GQ L;have Zn:(k:Int).tmod 10=((k % 10:Nat):Int):=by
  rw[Int.tmod_eq_emod_of_nonneg (by omega)];omega
 refine c7 (k:=1) alI rfl rfl rfl fun N=>?_;rw[gE NQ mZ rfl];delta NQ;replace L:=U L;simp only[aa, *];refine aoo _ 300 (by decide) h _ ?_;have ZH:pick n 300=(k:Int):=GQ.symm;rw[ZH];clear GQ ZH ab;have ib:=vZ h vK (n:=10) (cells:=abo) rfl rfl;obtain⟨q,qU⟩:∃ x,h.next=x:=⟨_,rfl⟩;obtain⟨A,hh⟩:∃ x,h.alloc (.aq abo true)=x:=⟨_,rfl⟩;have l1:h.le A:=by rw[← hh];exact(J.le.refl _).alloc _
 rw[qU,hh]at ib;have bn:k % 10<10:=Nat.mod_lt _ (by omega);have FM:=getD_some (l:=vK) (i:=k % 10) bn [];have abs:=alk ⟨k % 10,bn⟩;obtain⟨id,off,cells,own,az,aL,bq,_⟩:=ib.elem FM;have cF:Ex k=if 10≤k then vK.getD (k % 10) []++bs k else vK.getD (k % 10) []:=rfl
 simp only at abs;obtain⟨x,af⟩:∃ x,vK.getD (k % 10) []=x:=⟨_,rfl⟩;rw[af]at cF abs bq;clear FM ib af;replace cF:=Hid.mk cF;have YU:¬(10:Int)=0:=by decide
 have asv:h.alloc (.aq [.string ⟨#[120]⟩,.string ⟨#[121]⟩,.string ⟨#[110]⟩,.string ⟨#[95,97]⟩,.string ⟨#[66,50]⟩,.string ⟨#[105,102,115]⟩,.string ⟨#[104,97,114,116]⟩,.string ⟨#[108,111,99,107,49]⟩,.string ⟨#[88,95,121,95,90]⟩,.string ⟨#[72,97,108,116]⟩] true)=A:=hh;clear hh;by_cases lk:10≤k
 ·have FN:(10:Int)≤(k:Int):=by omega
  have aR:=N7 18 k (by omega);have qB:=cf (a:=x) (b:=bs k) (by omega);simp only[aa,aw,av,ay,W0, *];refine ah2 k (by omega) A _ fun S l2=>?_;have g:=L.h S (l1.trans l2);rw[cF.h,if_pos lk]at g;replace g:=Hid.mk g;clear l2;simp only[aa,av, *];exact g.h
 ·have FN:¬(10:Int)≤(k:Int):=by omega
  have g:=L.h A l1;rw[cF.h,if_neg lk]at g;replace g:=Hid.mk g;clear l1;simp only[aa,aw,av,ay,W0, *];exact g.h
theorem aj1{slots:List uS}{i n c:Nat}{isNil:Bool}{s:uS}(ak:slots[i]?=some s){xs:List (ar)}(hn:xs.length=n)(af:∀ x∈xs,x.length=c)(Be:isNil=true→n=0)
  (RT:isNil=false→∃ hC,s=some (.aq xs.flatten false,hC)):cT (ua slots) c (IS i n c isNil) xs:=by
 subst hn;cases isNil with
 |true=>exact .inl ⟨rfl,List.length_eq_zero_iff.1 (Be rfl)⟩
 |false =>
  obtain⟨hC,rfl⟩:=RT rfl;refine .inr ⟨i,0,rfl,.inr ⟨_,_,by simp only[ua,ak];rfl,fun j x bn=>?_⟩⟩;obtain⟨A,S⟩:=CX af j x bn;exact⟨af x (List.mem_of_getElem? bn),by omega,by simpa using S⟩
theorem ari{z:Int}(h:(Lit.int .i64 z).wf=true):nO z:=by
 simp[Lit.wf,IntKind.min,IntKind.max,IntKind.signed,IntKind.bits]at h;exact⟨by omega,by omega⟩
theorem ahZ(l:List Int):(l.map fun z=>[Value.int .i64 z]).flatten=l.map (.int .i64):=by
 induction l with
 |nil=>rfl
 |cons a l ih=>simp[ih]
theorem akq{slots:List uS}{i n:Nat}{isNil:Bool}{s:uS}(ak:slots[i]?=some s){l:List Int}(ag:l.length=n*1)(Be:isNil=true→n=0)
  (RT:isNil=false→∃ hC,s=some (.aq (l.map (.int .i64)) false,hC)):nc (ua slots) (IS i n 1 isNil) l:=by
 refine aj1 ak (by simp;omega) ?_ Be (by rw[ahZ];exact RT);intro x af;obtain⟨z,_,rfl⟩:=Is.1 af;rfl
inductive aX where
 |mk (kind op n:Int) (name:aD) (args:List aX)
inductive aP where
 |mk (kind:Int) (name src:aD) (n:Int) (args:List aX) (aU bz:List aP)
def aX.kind:aX→Int|.mk k _ _ _ _=>k
def aX.op:aX→Int|.mk _ o _ _ _=>o
def aX.n:aX→Int|.mk _ _ n _ _=>n
def aX.name:aX→aD|.mk _ _ _ m _=>m
def aX.args:aX→List aX|.mk _ _ _ _ a=>a
def aP.kind:aP→Int|.mk k _ _ _ _ _ _=>k
def aP.name:aP→aD|.mk _ m _ _ _ _ _=>m
def aP.src:aP→aD|.mk _ _ m _ _ _ _=>m
def aP.n:aP→Int|.mk _ _ _ n _ _ _=>n
def aP.args:aP→List aX|.mk _ _ _ _ a _ _=>a
def aP.aU:aP→List aP|.mk _ _ _ _ _ t _=>t
def aP.bz:aP→List aP|.mk _ _ _ _ _ _ e=>e
mutual
def iN(h:J):aX→ar→Prop
 |.mk k o n m args,x=>∃ v xs,x=[I k,I o,I n,str m,v]∧cT h 5 v xs∧xs.length≤140737488355328∧kY h args xs
def kY(h:J):List aX→List (ar)→Prop
 |[],xs=>xs=[]
 |e::r,xs=>∃ x fJ,xs=x::fJ∧iN h e x∧kY h r fJ
end
mutual
def lI(h:J):aP→ar→Prop
 |.mk k m f n args aU bz,x=>∃ v xs u c4 w zs,x=[I k,str m,str f,I n,v,u,w]∧(cT h 5 v xs∧xs.length≤140737488355328∧kY h args xs)∧(cT h 7 u c4∧c4.length≤140737488355328∧kZ h aU c4)∧cT h 7 w zs∧zs.length≤140737488355328∧kZ h bz zs
def kZ(h:J):List aP→List (ar)→Prop
 |[],xs=>xs=[]
 |e::r,xs=>∃ x fJ,xs=x::fJ∧lI h e x∧kZ h r fJ
end
def iv(h:J)(v:Value)(l:List aX):Prop:=∃ xs,cT h 5 v xs∧xs.length≤140737488355328∧kY h l xs
def hO(h:J)(v:Value)(l:List aP):Prop:=∃ xs,cT h 7 v xs∧xs.length≤140737488355328∧kZ h l xs
mutual
theorem iN.mono{h D:J}(ag:h.le D):∀ {e:aX}{x:ar},iN h e x→iN D e x
 |.mk _ _ _ _ _,_,⟨v,xs,A,S,T,ae⟩=>⟨v,xs,A,S.mono ag,T,kY.mono ag ae⟩
theorem kY.mono{h D:J}(ag:h.le D):∀ {l:List aX}{xs:List (ar)},kY h l xs→kY D l xs
 |[],_,af=>af
 |_::_,_,⟨x,fJ,A,S,ae⟩=>⟨x,fJ,A,iN.mono ag S,kY.mono ag ae⟩
end
mutual
theorem lI.mono{h D:J}(ag:h.le D):∀ {e:aP}{x:ar},lI h e x→lI D e x
 |.mk _ _ _ _ _ _ _,_,⟨v,xs,u,c4,w,zs,A,S,ae,aB,aG⟩=>⟨v,xs,u,c4,w,zs,A,⟨S.1.mono ag,S.2.1,kY.mono ag S.2.2⟩,⟨ae.1.mono ag,ae.2.1,kZ.mono ag ae.2.2⟩,aB.mono ag,aG.1,kZ.mono ag aG.2⟩
theorem kZ.mono{h D:J}(ag:h.le D):∀ {l:List aP}{xs:List (ar)},kZ h l xs→kZ D l xs
 |[],_,af=>af
 |_::_,_,⟨x,fJ,A,S,ae⟩=>⟨x,fJ,A,lI.mono ag S,kZ.mono ag ae⟩
end
theorem iv.mono{h D:J}(ag:h.le D){v:Value}{l:List aX}(ad:iv h v l):iv D v l:=let ⟨xs,a,c,b⟩:=ad;⟨xs,a.mono ag,c,b.mono ag⟩
theorem hO.mono{h D:J}(ag:h.le D){v:Value}{l:List aP}(ad:hO h v l):hO D v l:=let ⟨xs,a,c,b⟩:=ad;⟨xs,a.mono ag,c,b.mono ag⟩
theorem kY.length{h:J}:∀ {l:List aX}{xs:List (ar)},kY h l xs→xs.length=l.length
 |[],_,af=>by rw[show _=[] from af];rfl
 |_::_,_,⟨x,fJ,A,S,ae⟩=>by rw[A];simp[kY.length ae]
theorem kZ.length{h:J}:∀ {l:List aP}{xs:List (ar)},kZ h l xs→xs.length=l.length
 |[],_,af=>by rw[show _=[] from af];rfl
 |_::_,_,⟨x,fJ,A,S,ae⟩=>by rw[A];simp[kZ.length ae]
theorem kY.get{h:J}:∀ {l:List aX}{xs:List (ar)},kY h l xs→∀(i:Nat) e,l[i]?=some e→∃ x,xs[i]?=some x∧iN h e x
 |[],_,_,i,e,au=>by simp at au
 |a::r,_,⟨x,fJ,A,S,ae⟩,0,e,au=>by simp at au;subst au;exact⟨x,by rw[A];rfl,S⟩
 |a::r,_,⟨x,fJ,A,S,ae⟩,i+1,e,au=>by
  obtain⟨y,aB,aG⟩:=kY.get ae i e (by simpa using au);exact⟨y,by rw[A];simpa using aB,aG⟩
theorem kZ.get{h:J}:∀ {l:List aP}{xs:List (ar)},kZ h l xs→∀(i:Nat) e,l[i]?=some e→∃ x,xs[i]?=some x∧lI h e x
 |[],_,_,i,e,au=>by simp at au
 |a::r,_,⟨x,fJ,A,S,ae⟩,0,e,au=>by simp at au;subst au;exact⟨x,by rw[A];rfl,S⟩
 |a::r,_,⟨x,fJ,A,S,ae⟩,i+1,e,au=>by
  obtain⟨y,aB,aG⟩:=kZ.get ae i e (by simpa using au);exact⟨y,by rw[A];simpa using aB,aG⟩
theorem iN.cells{h:J}{e:aX}{x:ar}(af:iN h e x):∃ v,x=[I e.kind,I e.op,I e.n,str e.name,v]∧iv h v e.args:=by
 cases e;obtain⟨v,xs,A,S,ae⟩:=af;exact⟨v,A,xs,S,ae⟩
theorem lI.cells{h:J}{e:aP}{x:ar}(af:lI h e x):∃ v u w,x=[I e.kind,str e.name,str e.src,I e.n,v,u,w]∧iv h v e.args∧hO h u e.aU∧hO h w e.bz:=by
 cases e;obtain⟨v,xs,u,c4,w,zs,A,S,ae,aB⟩:=af;exact⟨v,u,w,A,⟨xs,S⟩,⟨c4,ae⟩,⟨zs,aB⟩⟩
theorem iN.of{h:J}{k o n:Int}{m:aD}{v:Value}{l:List aX}(ad:iv h v l):iN h (.mk k o n m l) [I k,I o,I n,str m,v]:=let ⟨xs,a,b⟩:=ad;⟨v,xs,rfl,a,b⟩
theorem iv.nil(h:J):iv h bx []:=⟨[],.inl ⟨rfl,rfl⟩,by simp,rfl⟩
theorem iv.len{h:J}{v:Value}{l:List aX}(ad:iv h v l):pD [v]=some (I l.length):=by
 obtain⟨xs,a,c,b⟩:=ad;rw[a.len,b.length]
theorem hO.len{h:J}{v:Value}{l:List aP}(ad:hO h v l):pD [v]=some (I l.length):=by
 obtain⟨xs,a,c,b⟩:=ad;rw[a.len,b.length]
theorem iv.le{h:J}{v:Value}{l:List aX}(ad:iv h v l):l.length≤140737488355328:=by
 obtain⟨xs,a,c,b⟩:=ad;rw[← b.length];exact c
theorem hO.le{h:J}{v:Value}{l:List aP}(ad:hO h v l):l.length≤140737488355328:=by
 obtain⟨xs,a,c,b⟩:=ad;rw[← b.length];exact c
theorem iv.elem{h:J}{v:Value}{l:List aX}(ad:iv h v l){i:Nat}{e:aX}(au:l[i]?=some e) :
  ∃ id off cells own x,oU 5 [v,I i]=some (aH id off)∧h.get id=some (.aq cells own)∧gI true off 5 cells=some (.agg x.toArray)∧iN h e x∧∀ j,j<5→cells[off+j]?=x[j]?:=by
 obtain⟨xs,a,c,b⟩:=ad;obtain⟨x,A,S⟩:=b.get i e au;obtain⟨id,off,cells,own,g1,g2,g3,g4⟩:=a.elem A;exact⟨id,off,cells,own,x,g1,g2,g3,S,g4⟩
theorem hO.elem{h:J}{v:Value}{l:List aP}(ad:hO h v l){i:Nat}{e:aP}(au:l[i]?=some e) :
  ∃ id off cells own x,oU 7 [v,I i]=some (aH id off)∧h.get id=some (.aq cells own)∧gI true off 7 cells=some (.agg x.toArray)∧lI h e x∧∀ j,j<7→cells[off+j]?=x[j]?:=by
 obtain⟨xs,a,c,b⟩:=ad;obtain⟨x,A,S⟩:=b.get i e au;obtain⟨id,off,cells,own,g1,g2,g3,g4⟩:=a.elem A;exact⟨id,off,cells,own,x,g1,g2,g3,S,g4⟩
def cy(op:Int):Nat :=
 if op=7 then 1 else if op=8 then 2 else if op=6 then 3 else if op=13∨op=14 then 4 else if op=11∨op=12 then 5 else if op=9∨op=10 then 6 else if op=1∨op=2 then 7 else if op=3∨op=4∨op=5 then 8 else 0
theorem wa(n:Nat)(hn:n<9223372036854775807):IntKind.i64.wrap ((n:Int)+1)=((n+1:Nat):Int):=by rw[cZ (by omega) (by omega)];rfl
theorem er:IntKind.i64.wrap (0+1)=1:=wa 0 (by omega)
theorem dd:IntKind.i64.wrap (1+1)=2:=wa 1 (by omega)
theorem sR:IntKind.i64.wrap (2+1)=3:=wa 2 (by omega)
theorem Cj:IntKind.i64.wrap (3+1)=4:=wa 3 (by omega)
theorem Io:IntKind.i64.wrap (4+1)=5:=wa 4 (by omega)
theorem ri:IntKind.i64.wrap (5+1)=6:=wa 5 (by omega)
theorem arb:IntKind.i64.wrap (6+1)=7:=wa 6 (by omega)
theorem arc:IntKind.i64.wrap (7+1)=8:=wa 7 (by omega)
set_option maxHeartbeats 2000000 in
theorem DP(op:Int)(h:J)(Q:aT)(L:Q (I (cy op)) h):bj Tryz.prog 69 [I op] h Q:=by
 refine c7 (k:=1) anm rfl rfl rfl fun N=>?_;rw[gE P6 Vv rfl];delta P6;replace L:=U L;by_cases aj:1≤op∧op≤14
 ·have aj:op=1∨op=2∨op=3∨op=4∨op=5∨op=6∨op=7∨op=8∨op=9∨op=10∨op=11∨op=12∨op=13∨op=14:=by omega
  rcases aj with rfl|rfl|rfl|rfl|rfl|rfl|rfl|rfl|rfl|rfl|rfl|rfl|rfl|rfl
  all_goals
   have g:=L.h;clear L;simp[cy]at g;replace g:=Hid.mk g;simp only[aa,av,ay,Int.reduceBEq,Nat.reduceBEq,er,dd,sR,Cj,Io,ri,arb,arc, *];exact g.h
 ·have g:=L.h;clear L;have eI:cy op=0:=by unfold cy;(repeat' split)<;>first|rfl|omega
  rw[eI]at g;replace g:=Hid.mk g;have hD:(op==1)=false:=by simp;omega
  have h9:(op==2)=false:=by simp;omega
  have rN:(op==3)=false:=by simp;omega
  have L6:(op==4)=false:=by simp;omega
  have p9:(op==5)=false:=by simp;omega
  have abl:(op==6)=false:=by simp;omega
  have rO:(op==7)=false:=by simp;omega
  have abm:(op==8)=false:=by simp;omega
  have Ub:(op==9)=false:=by simp;omega
  have ata:(op==10)=false:=by simp;omega
  have atb:(op==11)=false:=by simp;omega
  have atc:(op==12)=false:=by simp;omega
  have atd:(op==13)=false:=by simp;omega
  have n14:(op==14)=false:=by simp;omega
  simp only[aa,av,ay,Nat.reduceBEq, *];exact g.h
def opsL:List (aD):=[[],[43],[45],[42],[47],[37],[38],[124],[94],[60,60],[62,62],[60],[60,46],[61,61],[33,61],[45],[33],[126]]
def eU(op:Int):aD:=if 1≤op∧op≤17 then opsL.getD op.toNat [] else[]
theorem ag7:ie [aI,aI,aI,aI,aI,aI,aI,aI,aI,aI,aI,aI,aI,aI,aI,aI,aI,aI] [(1,1),(2,1),(3,1),(4,1),(5,1),(6,1),(7,1),(8,1),(9,1),(10,1),(11,1),(12,1),(13,1),(14,1),(15,1),(16,1),(17,1)] 18 1 [.string ⟨#[43]⟩,.string ⟨#[45]⟩,.string ⟨#[42]⟩,.string ⟨#[47]⟩,.string ⟨#[37]⟩,.string ⟨#[38]⟩,.string ⟨#[124]⟩,.string ⟨#[94]⟩,.string ⟨#[60,60]⟩,.string ⟨#[62,62]⟩,.string ⟨#[60]⟩,.string ⟨#[60,46]⟩,.string ⟨#[61,61]⟩,.string ⟨#[33,61]⟩,.string ⟨#[45]⟩,.string ⟨#[33]⟩,.string ⟨#[126]⟩]=some ([aI,.string ⟨#[43]⟩,.string ⟨#[45]⟩,.string ⟨#[42]⟩,.string ⟨#[47]⟩,.string ⟨#[37]⟩,.string ⟨#[38]⟩,.string ⟨#[124]⟩,.string ⟨#[94]⟩,.string ⟨#[60,60]⟩,.string ⟨#[62,62]⟩,.string ⟨#[60]⟩,.string ⟨#[60,46]⟩,.string ⟨#[61,61]⟩,.string ⟨#[33,61]⟩,.string ⟨#[45]⟩,.string ⟨#[33]⟩,.string ⟨#[126]⟩],fun id=>.slice (some ⟨id,0,none⟩) 18 1):=rfl
theorem anW(h:J)(Q:aT)(L:∀ v D,ng D v opsL→h.le D→Q v D):bj Tryz.prog 109 [] h Q:=by
 refine c7 (k:=0) alL rfl rfl rfl fun N=>?_;rw[Fl NT iL rfl];delta NT;replace L:=U L;simp only[aa,ag7, *];exact L.h _ _ (vZ h opsL rfl rfl) ((J.le.refl h).alloc _)
theorem U4(op:Int)(h:J)(Q:aT)(L:∀ D,h.le D→Q (.tuple #[str (eU op),.bool (decide (1≤op∧op≤17))]) D):bj Tryz.prog 67 [I op] h Q:=by
 refine qw (k:=1) (j:=2) ank rfl rfl rfl fun N=>?_;rw[gE P4 mZ rfl];delta P4;replace L:=U L;simp only[aa, *];refine anW h _ fun v A ib bF=>?_;have kf:=ib.len;have ahp:(opsL.length:Int)=18:=rfl;rw[ahp]at kf;by_cases nn:1≤op∧op≤17
 ·obtain⟨n,rfl⟩:∃ n:Nat,op=n:=⟨op.toNat,by omega⟩;have FM:=getD_some (l:=opsL) (i:=n) (by show n<18;omega) [];obtain⟨id,off,cells,own,az,aL,bq,_⟩:=ib.elem FM;have g:=L.h A bF;have es:eU (n:Int)=opsL.getD n []:=by unfold eU;rw[if_pos nn];rfl
  rw[es,decide_eq_true nn]at g;replace g:=Hid.mk g;have hD:¬(n:Int)<1:=by omega
  have h9:¬(18:Int)≤(n:Int):=by omega
  clear FM ib bF nn;simp only[aa,aw,av,ay, *];exact g.h
 ·have g:=L.h A bF;have es:eU op=[]:=by unfold eU;rw[if_neg nn]
  rw[es,decide_eq_false nn]at g;replace g:=Hid.mk g;clear ib bF;by_cases hD:op<1
  ·simp only[aa,av,ay, *];exact g.h
  ·have h9:18≤op:=by omega
   simp only[aa,av,ay, *];exact g.h
theorem cT.one{h:J}{s:Nat}{v:Value}{xs:List (ar)}(ad:cT h s v xs):v.oneCell'=true:=by
 rcases ad with⟨rfl,_⟩|⟨id,off,rfl,_⟩<;>rfl
theorem iv.one{h:J}{v:Value}{l:List aX}(ad:iv h v l):v.oneCell'=true:=ad.elim fun _ a=>cT.one a.1
theorem hO.one{h:J}{v:Value}{l:List aP}(ad:hO h v l):v.oneCell'=true:=ad.elim fun _ a=>cT.one a.1
abbrev ko(k o n:Int)(m:aD)(v:Value):Value:=.agg #[I k,I o,I n,str m,v]
abbrev kw(k:Int)(m f:aD)(n:Int)(v u w:Value):Value:=.agg #[I k,str m,str f,I n,v,u,w]
theorem qu{k o n:Int}{m:aD}{v:Value}(ad:v.oneCell'=true):nB [ko k o n m v]=some ([I k,I o,I n,str m,v],fun id=>(aH id 0)):=by
 simpa[nB,Value.cells,Value.oneCell'] using ad
theorem yk{k n:Int}{m f:aD}{v u w:Value}(ad:v.oneCell'=true)(hu:u.oneCell'=true)(ax:w.oneCell'=true) :
  nB [kw k m f n v u w]=some ([I k,str m,str f,I n,v,u,w],fun id=>(aH id 0)):=by
 simpa[nB,Value.cells,Value.oneCell'] using⟨ad,hu,ax⟩
theorem iN.val{h:J}{e:aX}{x:ar}(af:iN h e x):∃ v,Value.agg x.toArray=ko e.kind e.op e.n e.name v∧iv h v e.args:=by
 obtain⟨v,rfl,ad⟩:=af.cells;exact⟨v,rfl,ad⟩
theorem lI.val{h:J}{e:aP}{x:ar}(af:lI h e x):∃ v u w,Value.agg x.toArray=kw e.kind e.name e.src e.n v u w∧iv h v e.args∧hO h u e.aU∧hO h w e.bz:=by
 obtain⟨v,u,w,rfl,ad⟩:=af.cells;exact⟨v,u,w,rfl,ad⟩
def p1(k o n:Int)(m:aD)(hY gl oq:Int)(m':aD):Bool:=k==hY && o==gl && n==oq && m==m'
theorem Em{k o n hY gl oq:Int}{m m':aD}{v v':Value}(ad:v.oneCell'=true)(fV:v'.oneCell'=true)(h:J)(Q:aT)(L:∀ D,h.le D→Q (.bool (p1 k o n m hY gl oq m')) D) :
  bj Tryz.prog 108 [ko k o n m v,ko hY gl oq m' v'] h Q:=by
 have dJ:=qu (k:=k) (o:=o) (n:=n) (m:=m) ad;have kB:=qu (k:=hY) (o:=gl) (n:=oq) (m:=m') fV;replace L:=L _ (((J.le.refl h).alloc (.aq [I k,I o,I n,str m,v] true)).alloc (.aq [I hY,I gl,I oq,str m',v'] true));refine c7 (k:=4) alK rfl rfl rfl fun N=>?_;rw[eJ NS mZ rfl];delta NS;replace L:=U L;unfold p1 at L;have es:=iz m m';cases bk:k==hY<;>simp only[bk,mb,kx]at L
 ·simp only[aa,aw,av,ay, *];exact L.h
 cases bJ:o==gl<;>simp only[bJ,mb,kx]at L
 ·simp only[aa,aw,av,ay, *];exact L.h
 cases dl:n==oq<;>simp only[dl,mb,kx]at L
 ·simp only[aa,aw,av,ay, *];exact L.h
 simp only[aa,aw,av,ay, *];exact L.h
theorem dt(a b c d e:Value):gI true 0 5 [a,b,c,d,e]=some (.agg #[a,b,c,d,e]):=rfl
theorem jX(a b c d e f g:Value):gI true 0 7 [a,b,c,d,e,f,g]=some (.agg #[a,b,c,d,e,f,g]):=rfl
theorem VD{h:J}{cells:ar}{off:Nat}{v:Value}(ah:off<cells.length)(ad:v.cells.toList=[v])(A:v.oneCell'=true) :
  cz 1 (h.alloc (.aq cells true)) [aH h.next off,v]=some (b0,h.alloc (.aq (cells.set off v) true)):=by
 rw[iU (J.hy _ _) ah ad A,J.adp]
theorem agd(k:Int):gQ [I 0,I 0,I 0,aI,bx] [(0,1)] [I k]=some (ko k 0 0 [] bx):=rfl
theorem aqs(h:J)(k:Int):cz 5 (h.alloc (.aq [I 0,I 0,I 0,aI,bx] true)) [aH h.next 0,ko k 0 0 [] bx] =
  some (b0,h.alloc (.aq [I k,I 0,I 0,str [],bx] true)):=kk rfl rfl rfl rfl
def mN(k:Int):Nat:=if k=3∨k=5 then 1 else if k=4 then 2 else 0
def fX(k o n:Int)(m:aD):Bool :=
 if k=1 then decide (0≤n∧n<4294967296) && o==0 && m==[]
 else if k=2 then de m && o==0 && n==0
 else if k=3 then decide (15≤o∧o≤17) && n==0 && m==[]
 else if k=4 then decide (0<cy o) && n==0 && m==[]
 else if k=5 then de m && o==0 && n==0
 else false
theorem aqW(n:Int):(n==IntKind.i64.wrap (IntKind.u32.wrap n))=decide (0≤n∧n<4294967296):=by
 have A:IntKind.u32.wrap n=n % 4294967296:=IntKind.wrap_u32 n;have S:0≤n % 4294967296∧n % 4294967296<4294967296:=⟨Int.emod_nonneg _ (by decide),Int.emod_lt_of_pos _ (by decide)⟩;rw[A,cZ (by omega) (by omega)];by_cases aj:0≤n∧n<4294967296
 ·have:n % 4294967296=n:=Int.emod_eq_of_lt aj.1 aj.2;simp[this,aj]
 ·have:¬ n=n % 4294967296:=by omega
  simp[this,aj]
theorem J.Wp(h:J)(a b:bQ):((h.alloc a).alloc b).get h.next=some a:=by
 rw[J.oH (by simp)];exact J.hy _ _
theorem HM:(Value.slice none 0 0).oneCell'=true:=rfl
theorem ML(h:J)(a b c d e:Value)(o:Int):cz 1 (h.alloc (.aq [a,b,c,d,e] true)) [aH h.next 1,I o]=some (b0,h.alloc (.aq [a,I o,c,d,e] true)):=VD (by simp) rfl rfl
theorem adC(h:J)(a b c d e:Value)(o:Int):cz 1 (h.alloc (.aq [a,b,c,d,e] true)) [aH h.next 2,I o]=some (b0,h.alloc (.aq [a,b,I o,d,e] true)):=VD (by simp) rfl rfl
theorem MM(h:J)(a b c d e:Value)(m:aD):cz 1 (h.alloc (.aq [a,b,c,d,e] true)) [aH h.next 3,str m]=some (b0,h.alloc (.aq [a,b,c,str m,e] true)):=VD (by simp) rfl rfl
set_option maxHeartbeats 2000000 in
theorem aq4{k o n:Int}{m:aD}{v:Value}(ad:v.oneCell'=true)(h:J)(Q:aT)
  (L:∀ D,h.le D→Q (.tuple #[I (mN k),.bool (fX k o n m)]) D) :
  bj Tryz.prog 66 [ko k o n m v] h Q:=by
 have dJ:=qu (k:=k) (o:=o) (n:=n) (m:=m) ad;have l2:∀ c d:bQ,h.le ((h.alloc c).alloc d):=fun c d=>((J.le.refl h).alloc _).alloc _;replace l2:=Hid.mk l2;refine qw (k:=2) (j:=3) anj rfl rfl rfl fun N=>?_;rw[gE P3 qj rfl];delta P3;replace L:=U L;have sX:=agd k;have atE:=aqs (h.alloc (.aq [I k,I o,I n,str m,v] true)) k;by_cases ck:k=1
 ·subst ck;have u:=aqW n;by_cases bH:0≤n∧n<4294967296
  ·rw[decide_eq_true bH]at u;have es:fX 1 o n m=p1 1 o n m 1 0 n []:=by simp[fX,p1,bH]
   rw[es]at L;clear es;simp only[aa,aw,bh,av,ay,dt,adC, *];refine Em ad HM _ _ fun S ag=>?_;have g:=L.h S ((l2.h _ _).trans ag);replace g:=Hid.mk g;simp only[aa, *];exact g.h
  ·rw[decide_eq_false bH]at u;have es:fX 1 o n m=false:=by simp[fX,bH]
   rw[es]at L;clear es;simp only[aa,aw,bh,av,ay,adC, *];exact L.h _ (l2.h _ _)
 by_cases cm:k=2
 ·subst cm;cases bH:de m with
  |true =>
   have es:fX 2 o n m=p1 2 o n m 2 0 0 m:=by simp[fX,p1,bH]
   rw[es]at L;clear es;simp only[aa,aw,bh,av,ay,Int.reduceBEq,MM, *];refine vJ _ _ fun S ag=>?_;have g1:=ag.get (J.Wp h (.aq [I 2,I o,I n,str m,v] true) (.aq [I 2,I 0,I 0,str m,bx] true));have g2:=ag.get (J.hy (h.alloc (.aq [I 2,I o,I n,str m,v] true)) (.aq [I 2,I 0,I 0,str m,bx] true));replace ag:=Hid.mk ag;simp only[aa,aw,dt, *];refine Em ad HM _ _ fun ae gP=>?_;have g:=L.h ae ((l2.h _ _).trans (ag.h.trans gP));replace g:=Hid.mk g;clear g1 g2;simp only[aa, *];exact g.h
  |false =>
   have es:fX 2 o n m=false:=by simp[fX,bH]
   rw[es]at L;clear es;simp only[aa,aw,bh,av,ay,Int.reduceBEq,MM, *];refine vJ _ _ fun S ag=>?_;replace ag:=Hid.mk ag;simp only[aa, *];exact L.h _ ((l2.h _ _).trans ag.h)
 by_cases cb:k=3
 ·subst cb;by_cases AT:15≤o∧o≤17
  ·have es:fX 3 o n m=p1 3 o n m 3 o 0 []:=by simp[fX,p1,AT]
   rw[es]at L;clear es;have ah:o=15∨o=16∨o=17:=by omega
   clear AT;rcases ah with rfl|rfl|rfl
   all_goals
    simp only[aa,aw,bh,av,ay,Int.reduceBEq,dt,ML, *];refine Em ad HM _ _ fun ae gP=>?_;have g:=L.h ae ((l2.h _ _).trans gP);replace g:=Hid.mk g;simp only[aa, *];exact g.h
  ·have es:fX 3 o n m=false:=by simp[fX,AT]
   rw[es]at L;clear es;have hD:(o==15)=false:=by simp;omega
   have h9:(o==16)=false:=by simp;omega
   have rN:(o==17)=false:=by simp;omega
   clear AT;simp only[aa,aw,bh,av,ay,Int.reduceBEq,ML, *];exact L.h _ (l2.h _ _)
 by_cases eC:k=4
 ·subst eC;have lz:((0:Int)<(cy o:Int))=(0<cy o):=by simp
  by_cases AT:0<cy o
  ·have es:fX 4 o n m=p1 4 o n m 4 o 0 []:=by simp[fX,p1,AT]
   rw[es]at L;clear es;simp only[aa,aw,bh,av,ay,Int.reduceBEq,ML, *];refine DP o _ _ ?_;simp only[aa,aw,av,ay,dt, *];refine Em ad HM _ _ fun ae gP=>?_;have g:=L.h ae ((l2.h _ _).trans gP);replace g:=Hid.mk g;simp only[aa, *];exact g.h
  ·have es:fX 4 o n m=false:=by simp[fX,AT]
   rw[es]at L;clear es;simp only[aa,aw,bh,av,ay,Int.reduceBEq,ML, *];refine DP o _ _ ?_;simp only[aa,av,ay, *];exact L.h _ (l2.h _ _)
 by_cases dG:k=5
 ·subst dG;cases bH:de m with
  |true =>
   have es:fX 5 o n m=p1 5 o n m 5 0 0 m:=by simp[fX,p1,bH]
   rw[es]at L;clear es;simp only[aa,aw,bh,av,ay,Int.reduceBEq,MM, *];refine vJ _ _ fun S ag=>?_;have g1:=ag.get (J.Wp h (.aq [I 5,I o,I n,str m,v] true) (.aq [I 5,I 0,I 0,str m,bx] true));have g2:=ag.get (J.hy (h.alloc (.aq [I 5,I o,I n,str m,v] true)) (.aq [I 5,I 0,I 0,str m,bx] true));replace ag:=Hid.mk ag;simp only[aa,aw,dt, *];refine Em ad HM _ _ fun ae gP=>?_;have g:=L.h ae ((l2.h _ _).trans (ag.h.trans gP));replace g:=Hid.mk g;clear g1 g2;simp only[aa, *];exact g.h
  |false =>
   have es:fX 5 o n m=false:=by simp[fX,bH]
   rw[es]at L;clear es;simp only[aa,aw,bh,av,ay,Int.reduceBEq,MM, *];refine vJ _ _ fun S ag=>?_;replace ag:=Hid.mk ag;simp only[aa, *];exact L.h _ ((l2.h _ _).trans ag.h)
 have es:fX k o n m=false:=by simp[fX,ck,cm,cb,eC,dG]
 have Yj:mN k=0:=by simp[mN,cb,eC,dG]
 rw[es,Yj]at L;have hD:(k==1)=false:=by simpa using ck
 have h9:(k==2)=false:=by simpa using cm
 have rN:(k==3)=false:=by simpa using cb
 have L6:(k==4)=false:=by simpa using eC
 have p9:(k==5)=false:=by simpa using dG
 clear es Yj ck cm cb eC dG;simp only[aa,aw,bh,av,ay, *];exact L.h _ (l2.h _ _)
theorem akl{gT:Type}{v du:Value}{l:List gT}{xs:List (ar)}{p:gT→Bool}{h:J}(ad:cT h 5 v xs)(af:xs.length=l.length)(po:l.length≤140737488355328)
  (aZ:∀(i:Nat) e x,l[i]?=some e→xs[i]?=some x→∀ A Q,h.le A→(∀ v D,v=.bool (p e)→A.le D→Q v D)→oC Tryz.prog du [.agg x.toArray] A Q) (Q:aT)
  (L:∀ v D,v=I (match l.findIdx? p with|some i=>(i:Int)|none=>-1)→h.le D→Q v D):bj Tryz.prog 107 [v,du] h Q:=by
 refine c7 (k:=2) alJ rfl rfl rfl fun N=>?_;rw[eJ NR qj rfl];delta NR;replace L:=U L;have iQ:=ad.len;rw[af]at iQ;simp only[aa, *];refine ch.upto l.length (fun i e A=>h.le A∧(∀ j e,j<i→l[j]?=some e→p e=false)∧∃ x3 x6,e=[v,du,I 0,x3,I l.length,I i,x6]) ?_ (lj _) ⟨J.le.refl h,by intro j e bn;omega,_,_,rfl⟩;rintro i _ A R au ⟨bF,hp,x3,x6,rfl⟩ aN;delta Xb;by_cases aV:i<l.length
 ·have dm:(i:Int)<l.length:=by omega
  obtain⟨e,aK⟩:∃ e,l[i]?=some e:=⟨_,hi aV⟩;obtain⟨x,kd⟩:∃ x,xs[i]?=some x:=⟨_,hi (by omega)⟩;obtain⟨id,off,cells,own,az,aL,bq,_⟩:=(ad.mono bF).elem kd;have jG:=aZ i e x aK kd;replace jG:=Hid.mk jG;have ax:IntKind.i64.wrap ((i:Int)+1)=((i+1:Nat):Int):=by rw[cZ (by omega) (by omega)];rfl
  simp only[aa,aw,av,ay, *];refine jG.h A _ bF fun v2 S fD bC=>?_;subst fD;cases lb:p e with
  |true =>
   simp only[aa, *];refine L.h _ _ ?_ (bF.trans bC);have:l.findIdx? p=some i:=by
    rw[H7];refine⟨aV,by rw[hi aV]at aK;cases aK;exact lb,fun j bn=>?_⟩;have:=hp j l[j] bn (hi _);simp[this]
   rw[this]
  |false =>
   simp only[aa,av,ay, *];refine aN.h _ _ aV ⟨bF.trans bC,fun j cA bn kL=>?_,_,_,rfl⟩;by_cases qP:j=i
   ·subst qP;rw[aK]at kL;cases kL;exact lb
   ·exact hp j cA (by omega) kL
 ·have dm:¬(i:Int)<l.length:=by omega
  have ue:l.findIdx? p=none:=by
   rw[HX];intro e aK;obtain⟨j,bn⟩:=Gm.1 aK;exact hp j e (by have:=(j2.1 bn).1;omega) bn
  simp only[aa,av,ay, *];exact L.h _ _ (by rw[ue]) bF
theorem agQ{gT:Type}{v du:Value}{l:List gT}{xs:List (ar)}{p:gT→Bool}{h:J}(ad:cT h 5 v xs)(af:xs.length=l.length)(po:l.length≤140737488355328)
  (aZ:∀(i:Nat) e x,l[i]?=some e→xs[i]?=some x→∀ A Q,h.le A→(∀ v D,v=.bool (p e)→A.le D→Q v D)→oC Tryz.prog du [.agg x.toArray] A Q) (Q:aT)
  (L:∀ v D,v=.bool (l.any p)→h.le D→Q v D):bj Tryz.prog 64 [v,du] h Q:=by
 refine c7 (k:=2) anh rfl rfl rfl fun N=>?_;rw[eJ P1 iL rfl];delta P1;replace L:=U L;simp only[aa, *];refine akl ad af po aZ _ fun v D fV cW=>?_;subst fV;simp only[aa,av,ay, *];refine L.h _ _ ?_ cW;cases af:l.findIdx? p with
 |none =>
  have:=HX.1 af;have hn:l.any p=false:=by simpa[List.any_eq_false] using this
  simp[hn]
 |some i =>
  have:=H7.1 af;have hn:l.any p=true:=Nk.2 ⟨_,Lr this.1,this.2.1⟩;simp[hn]
theorem akn{gT:Type}{v du:Value}{l:List gT}{xs:List (ar)}{p:gT→Bool}{h:J}(ad:cT h 7 v xs)(af:xs.length=l.length)(po:l.length≤140737488355328)
  (aZ:∀(i:Nat) e x,l[i]?=some e→xs[i]?=some x→∀ A Q,h.le A→(∀ v D,v=.bool (p e)→A.le D→Q v D)→oC Tryz.prog du [.agg x.toArray] A Q) (Q:aT)
  (L:∀ v D,v=I (match l.findIdx? p with|some i=>(i:Int)|none=>-1)→h.le D→Q v D):bj Tryz.prog 152 [v,du] h Q:=by
 refine c7 (k:=2) aml rfl rfl rfl fun N=>?_;rw[eJ Ow qj rfl];delta Ow;replace L:=U L;have iQ:=ad.len;rw[af]at iQ;simp only[aa, *];refine ch.upto l.length (fun i e A=>h.le A∧(∀ j e,j<i→l[j]?=some e→p e=false)∧∃ x3 x6,e=[v,du,I 0,x3,I l.length,I i,x6]) ?_ (lj _) ⟨J.le.refl h,by intro j e bn;omega,_,_,rfl⟩;rintro i _ A R au ⟨bF,hp,x3,x6,rfl⟩ aN;delta Xj;by_cases aV:i<l.length
 ·have dm:(i:Int)<l.length:=by omega
  obtain⟨e,aK⟩:∃ e,l[i]?=some e:=⟨_,hi aV⟩;obtain⟨x,kd⟩:∃ x,xs[i]?=some x:=⟨_,hi (by omega)⟩;obtain⟨id,off,cells,own,az,aL,bq,_⟩:=(ad.mono bF).elem kd;have jG:=aZ i e x aK kd;replace jG:=Hid.mk jG;have ax:IntKind.i64.wrap ((i:Int)+1)=((i+1:Nat):Int):=by rw[cZ (by omega) (by omega)];rfl
  simp only[aa,aw,av,ay, *];refine jG.h A _ bF fun v2 S fD bC=>?_;subst fD;cases lb:p e with
  |true =>
   simp only[aa, *];refine L.h _ _ ?_ (bF.trans bC);have:l.findIdx? p=some i:=by
    rw[H7];refine⟨aV,by rw[hi aV]at aK;cases aK;exact lb,fun j bn=>?_⟩;have:=hp j l[j] bn (hi _);simp[this]
   rw[this]
  |false =>
   simp only[aa,av,ay, *];refine aN.h _ _ aV ⟨bF.trans bC,fun j cA bn kL=>?_,_,_,rfl⟩;by_cases qP:j=i
   ·subst qP;rw[aK]at kL;cases kL;exact lb
   ·exact hp j cA (by omega) kL
 ·have dm:¬(i:Int)<l.length:=by omega
  have ue:l.findIdx? p=none:=by
   rw[HX];intro e aK;obtain⟨j,bn⟩:=Gm.1 aK;exact hp j e (by have:=(j2.1 bn).1;omega) bn
  simp only[aa,av,ay, *];exact L.h _ _ (by rw[ue]) bF
theorem agS{gT:Type}{v du:Value}{l:List gT}{xs:List (ar)}{p:gT→Bool}{h:J}(ad:cT h 7 v xs)(af:xs.length=l.length)(po:l.length≤140737488355328)
  (aZ:∀(i:Nat) e x,l[i]?=some e→xs[i]?=some x→∀ A Q,h.le A→(∀ v D,v=.bool (p e)→A.le D→Q v D)→oC Tryz.prog du [.agg x.toArray] A Q) (Q:aT)
  (L:∀ v D,v=.bool (l.any p)→h.le D→Q v D):bj Tryz.prog 132 [v,du] h Q:=by
 refine c7 (k:=2) am6 rfl rfl rfl fun N=>?_;rw[eJ Oe iL rfl];delta Oe;replace L:=U L;simp only[aa, *];refine akn ad af po aZ _ fun v D fV cW=>?_;subst fV;simp only[aa,av,ay, *];refine L.h _ _ ?_ cW;cases af:l.findIdx? p with
 |none =>
  have:=HX.1 af;have hn:l.any p=false:=by simpa[List.any_eq_false] using this
  simp[hn]
 |some i =>
  have:=H7.1 af;have hn:l.any p=true:=Nk.2 ⟨_,Lr this.1,this.2.1⟩;simp[hn]
theorem akk{gT:Type}{v du:Value}{l:List gT}{xs:List (ar)}{p:gT→Bool}{h:J}(ad:cT h 2 v xs)(af:xs.length=l.length)(po:l.length≤140737488355328)
  (aZ:∀(i:Nat) e x,l[i]?=some e→xs[i]?=some x→∀ A Q,h.le A→(∀ v D,v=.bool (p e)→A.le D→Q v D)→oC Tryz.prog du [.agg x.toArray] A Q) (Q:aT)
  (L:∀ v D,v=I (match l.findIdx? p with|some i=>(i:Int)|none=>-1)→h.le D→Q v D):bj Tryz.prog 99 [v,du] h Q:=by
 refine c7 (k:=2) anP rfl rfl rfl fun N=>?_;rw[eJ QF qj rfl];delta QF;replace L:=U L;have iQ:=ad.len;rw[af]at iQ;simp only[aa, *];refine ch.upto l.length (fun i e A=>h.le A∧(∀ j e,j<i→l[j]?=some e→p e=false)∧∃ x3 x6,e=[v,du,I 0,x3,I l.length,I i,x6]) ?_ (lj _) ⟨J.le.refl h,by intro j e bn;omega,_,_,rfl⟩;rintro i _ A R au ⟨bF,hp,x3,x6,rfl⟩ aN;delta XD;by_cases aV:i<l.length
 ·have dm:(i:Int)<l.length:=by omega
  obtain⟨e,aK⟩:∃ e,l[i]?=some e:=⟨_,hi aV⟩;obtain⟨x,kd⟩:∃ x,xs[i]?=some x:=⟨_,hi (by omega)⟩;obtain⟨id,off,cells,own,az,aL,bq,_⟩:=(ad.mono bF).elem kd;have jG:=aZ i e x aK kd;replace jG:=Hid.mk jG;have ax:IntKind.i64.wrap ((i:Int)+1)=((i+1:Nat):Int):=by rw[cZ (by omega) (by omega)];rfl
  simp only[aa,aw,av,ay, *];refine jG.h A _ bF fun v2 S fD bC=>?_;subst fD;cases lb:p e with
  |true =>
   simp only[aa, *];refine L.h _ _ ?_ (bF.trans bC);have:l.findIdx? p=some i:=by
    rw[H7];refine⟨aV,by rw[hi aV]at aK;cases aK;exact lb,fun j bn=>?_⟩;have:=hp j l[j] bn (hi _);simp[this]
   rw[this]
  |false =>
   simp only[aa,av,ay, *];refine aN.h _ _ aV ⟨bF.trans bC,fun j cA bn kL=>?_,_,_,rfl⟩;by_cases qP:j=i
   ·subst qP;rw[aK]at kL;cases kL;exact lb
   ·exact hp j cA (by omega) kL
 ·have dm:¬(i:Int)<l.length:=by omega
  have ue:l.findIdx? p=none:=by
   rw[HX];intro e aK;obtain⟨j,bn⟩:=Gm.1 aK;exact hp j e (by have:=(j2.1 bn).1;omega) bn
  simp only[aa,av,ay, *];exact L.h _ _ (by rw[ue]) bF
theorem agP{gT:Type}{v du:Value}{l:List gT}{xs:List (ar)}{p:gT→Bool}{h:J}(ad:cT h 2 v xs)(af:xs.length=l.length)(po:l.length≤140737488355328)
  (aZ:∀(i:Nat) e x,l[i]?=some e→xs[i]?=some x→∀ A Q,h.le A→(∀ v D,v=.bool (p e)→A.le D→Q v D)→oC Tryz.prog du [.agg x.toArray] A Q) (Q:aT)
  (L:∀ v D,v=.bool (l.any p)→h.le D→Q v D):bj Tryz.prog 58 [v,du] h Q:=by
 refine c7 (k:=2) ana rfl rfl rfl fun N=>?_;rw[eJ PV iL rfl];delta PV;replace L:=U L;simp only[aa, *];refine akk ad af po aZ _ fun v D fV cW=>?_;subst fV;simp only[aa,av,ay, *];refine L.h _ _ ?_ cW;cases af:l.findIdx? p with
 |none =>
  have:=HX.1 af;have hn:l.any p=false:=by simpa[List.any_eq_false] using this
  simp[hn]
 |some i =>
  have:=H7.1 af;have hn:l.any p=true:=Nk.2 ⟨_,Lr this.1,this.2.1⟩;simp[hn]
theorem akm{gT:Type}{v du:Value}{l:List gT}{xs:List (ar)}{p:gT→Bool}{h:J}(ad:cT h 2 v xs)(af:xs.length=l.length)(po:l.length≤140737488355328)
  (aZ:∀(i:Nat) e x,l[i]?=some e→xs[i]?=some x→∀ A Q,h.le A→(∀ v D,v=.bool (p e)→A.le D→Q v D)→oC Tryz.prog du [.agg x.toArray] A Q) (Q:aT)
  (L:∀ v D,v=I (match l.findIdx? p with|some i=>(i:Int)|none=>-1)→h.le D→Q v D):bj Tryz.prog 100 [v,du] h Q:=by
 refine c7 (k:=2) alC rfl rfl rfl fun N=>?_;rw[eJ NK qj rfl];delta NK;replace L:=U L;have iQ:=ad.len;rw[af]at iQ;simp only[aa, *];refine ch.upto l.length (fun i e A=>h.le A∧(∀ j e,j<i→l[j]?=some e→p e=false)∧∃ x3 x6,e=[v,du,I 0,x3,I l.length,I i,x6]) ?_ (lj _) ⟨J.le.refl h,by intro j e bn;omega,_,_,rfl⟩;rintro i _ A R au ⟨bF,hp,x3,x6,rfl⟩ aN;delta W8;by_cases aV:i<l.length
 ·have dm:(i:Int)<l.length:=by omega
  obtain⟨e,aK⟩:∃ e,l[i]?=some e:=⟨_,hi aV⟩;obtain⟨x,kd⟩:∃ x,xs[i]?=some x:=⟨_,hi (by omega)⟩;obtain⟨id,off,cells,own,az,aL,bq,_⟩:=(ad.mono bF).elem kd;have jG:=aZ i e x aK kd;replace jG:=Hid.mk jG;have ax:IntKind.i64.wrap ((i:Int)+1)=((i+1:Nat):Int):=by rw[cZ (by omega) (by omega)];rfl
  simp only[aa,aw,av,ay, *];refine jG.h A _ bF fun v2 S fD bC=>?_;subst fD;cases lb:p e with
  |true =>
   simp only[aa, *];refine L.h _ _ ?_ (bF.trans bC);have:l.findIdx? p=some i:=by
    rw[H7];refine⟨aV,by rw[hi aV]at aK;cases aK;exact lb,fun j bn=>?_⟩;have:=hp j l[j] bn (hi _);simp[this]
   rw[this]
  |false =>
   simp only[aa,av,ay, *];refine aN.h _ _ aV ⟨bF.trans bC,fun j cA bn kL=>?_,_,_,rfl⟩;by_cases qP:j=i
   ·subst qP;rw[aK]at kL;cases kL;exact lb
   ·exact hp j cA (by omega) kL
 ·have dm:¬(i:Int)<l.length:=by omega
  have ue:l.findIdx? p=none:=by
   rw[HX];intro e aK;obtain⟨j,bn⟩:=Gm.1 aK;exact hp j e (by have:=(j2.1 bn).1;omega) bn
  simp only[aa,av,ay, *];exact L.h _ _ (by rw[ue]) bF
theorem agR{gT:Type}{v du:Value}{l:List gT}{xs:List (ar)}{p:gT→Bool}{h:J}(ad:cT h 2 v xs)(af:xs.length=l.length)(po:l.length≤140737488355328)
  (aZ:∀(i:Nat) e x,l[i]?=some e→xs[i]?=some x→∀ A Q,h.le A→(∀ v D,v=.bool (p e)→A.le D→Q v D)→oC Tryz.prog du [.agg x.toArray] A Q) (Q:aT)
  (L:∀ v D,v=.bool (l.any p)→h.le D→Q v D):bj Tryz.prog 59 [v,du] h Q:=by
 refine c7 (k:=2) anb rfl rfl rfl fun N=>?_;rw[eJ PW iL rfl];delta PW;replace L:=U L;simp only[aa, *];refine akm ad af po aZ _ fun v D fV cW=>?_;subst fV;simp only[aa,av,ay, *];refine L.h _ _ ?_ cW;cases af:l.findIdx? p with
 |none =>
  have:=HX.1 af;have hn:l.any p=false:=by simpa[List.any_eq_false] using this
  simp[hn]
 |some i =>
  have:=H7.1 af;have hn:l.any p=true:=Nk.2 ⟨_,Lr this.1,this.2.1⟩;simp[hn]
theorem ako{gT:Type}{v du:Value}{l:List gT}{xs:List (ar)}{p:gT→Bool}{h:J}(ad:cT h 6 v xs)(af:xs.length=l.length)(po:l.length≤140737488355328)
  (aZ:∀(i:Nat) e x,l[i]?=some e→xs[i]?=some x→∀ A Q,h.le A→(∀ v D,v=.bool (p e)→A.le D→Q v D)→oC Tryz.prog du [.agg x.toArray] A Q) (Q:aT)
  (L:∀ v D,v=I (match l.findIdx? p with|some i=>(i:Int)|none=>-1)→h.le D→Q v D):bj Tryz.prog 101 [v,du] h Q:=by
 refine c7 (k:=2) alD rfl rfl rfl fun N=>?_;rw[eJ NL qj rfl];delta NL;replace L:=U L;have iQ:=ad.len;rw[af]at iQ;simp only[aa, *];refine ch.upto l.length (fun i e A=>h.le A∧(∀ j e,j<i→l[j]?=some e→p e=false)∧∃ x3 x6,e=[v,du,I 0,x3,I l.length,I i,x6]) ?_ (lj _) ⟨J.le.refl h,by intro j e bn;omega,_,_,rfl⟩;rintro i _ A R au ⟨bF,hp,x3,x6,rfl⟩ aN;delta W9;by_cases aV:i<l.length
 ·have dm:(i:Int)<l.length:=by omega
  obtain⟨e,aK⟩:∃ e,l[i]?=some e:=⟨_,hi aV⟩;obtain⟨x,kd⟩:∃ x,xs[i]?=some x:=⟨_,hi (by omega)⟩;obtain⟨id,off,cells,own,az,aL,bq,_⟩:=(ad.mono bF).elem kd;have jG:=aZ i e x aK kd;replace jG:=Hid.mk jG;have ax:IntKind.i64.wrap ((i:Int)+1)=((i+1:Nat):Int):=by rw[cZ (by omega) (by omega)];rfl
  simp only[aa,aw,av,ay, *];refine jG.h A _ bF fun v2 S fD bC=>?_;subst fD;cases lb:p e with
  |true =>
   simp only[aa, *];refine L.h _ _ ?_ (bF.trans bC);have:l.findIdx? p=some i:=by
    rw[H7];refine⟨aV,by rw[hi aV]at aK;cases aK;exact lb,fun j bn=>?_⟩;have:=hp j l[j] bn (hi _);simp[this]
   rw[this]
  |false =>
   simp only[aa,av,ay, *];refine aN.h _ _ aV ⟨bF.trans bC,fun j cA bn kL=>?_,_,_,rfl⟩;by_cases qP:j=i
   ·subst qP;rw[aK]at kL;cases kL;exact lb
   ·exact hp j cA (by omega) kL
 ·have dm:¬(i:Int)<l.length:=by omega
  have ue:l.findIdx? p=none:=by
   rw[HX];intro e aK;obtain⟨j,bn⟩:=Gm.1 aK;exact hp j e (by have:=(j2.1 bn).1;omega) bn
  simp only[aa,av,ay, *];exact L.h _ _ (by rw[ue]) bF
theorem agT{gT:Type}{v du:Value}{l:List gT}{xs:List (ar)}{p:gT→Bool}{h:J}(ad:cT h 6 v xs)(af:xs.length=l.length)(po:l.length≤140737488355328)
  (aZ:∀(i:Nat) e x,l[i]?=some e→xs[i]?=some x→∀ A Q,h.le A→(∀ v D,v=.bool (p e)→A.le D→Q v D)→oC Tryz.prog du [.agg x.toArray] A Q) (Q:aT)
  (L:∀ v D,v=.bool (l.any p)→h.le D→Q v D):bj Tryz.prog 60 [v,du] h Q:=by
 refine c7 (k:=2) anc rfl rfl rfl fun N=>?_;rw[eJ PX iL rfl];delta PX;replace L:=U L;simp only[aa, *];refine ako ad af po aZ _ fun v D fV cW=>?_;subst fV;simp only[aa,av,ay, *];refine L.h _ _ ?_ cW;cases af:l.findIdx? p with
 |none =>
  have:=HX.1 af;have hn:l.any p=false:=by simpa[List.any_eq_false] using this
  simp[hn]
 |some i =>
  have:=H7.1 af;have hn:l.any p=true:=Nk.2 ⟨_,Lr this.1,this.2.1⟩;simp[hn]
mutual
def fu:aX→Nat→Bool
 |.mk _ _ _ _ _,0=>false
 |.mk k o n m args,d+1=>fX k o n m && args.length==mN k && hv args d
def hv:List aX→Nat→Bool
 |[],_=>true
 |e::r,d=>fu e d && hv r d
end
theorem El:∀(l:List aX) (d:Nat),hv l d=l.all fun e=>fu e d
 |[],_=>by simp[hv]
 |e::r,d=>by simp[hv,El r d]
theorem apD{d:Nat}(hd:d≤1000)(ih:∀ bW,d=bW+1→∀(l:List aX) (v:Value) (h:J) (Q:aT),iv h v l→(∀ D,h.le D→Q (.bool (hv l bW)) D)→bj Tryz.prog 26 [v,I (bW:Int)] h Q)
  {h:J}{p:Nat}{e:aX}{x:ar}(hp:h.get p=some (.aq [I (d:Int)] true)) (af:iN h e x) (Q:aT) (L:∀ D,h.le D→Q (.bool (!fu e d)) D) :
  bj Tryz.prog 65 [.agg x.toArray,aH p 0] h Q:=by
 obtain⟨v,oM,ct⟩:=af.val;rw[oM];cases e with
 |mk k o n m args =>
 simp only[aX.kind,aX.op,aX.n,aX.name,aX.args]at ct ⊢;clear oM af;have dJ:=qu (k:=k) (o:=o) (n:=n) (m:=m) ct.one;have l1:=(J.le.refl h).alloc (.aq [I k,I o,I n,str m,v] true);have ep:=l1.get hp;clear hp;replace l1:=Hid.mk l1;replace ih:=Hid.mk ih;replace ct:=Hid.mk ct;refine c7 (k:=3) ani rfl rfl rfl fun N=>?_;rw[eJ P2 uO rfl];delta P2;replace L:=U L;simp only[aa,aw,dt, *];refine aq4 ct.h.one _ _ fun S ag=>?_;have g1:=ag.get (J.hy h (.aq [I k,I o,I n,str m,v] true));have g2:=ag.get ep;have ji:=ct.h.mono (l1.h.trans ag);have cN:=fun D (aE:S.le D)=>L.h D ((l1.h.trans ag).trans aE);clear L ep l1 ag dJ;replace cN:=Hid.mk cN;have kf:=ji.len;have bX:=ji.le;cases d with
 |zero =>
  have g:=cN.h S (J.le.refl _);simp only[fu,Cg]at g;replace g:=Hid.mk g;clear cN;replace ji:=Hid.mk ji;have z0:((0:Nat):Int)=0:=rfl;rw[z0]at g2;clear z0;simp only[aa,aw,av,ay,Int.reduceLT, *];exact g.h
 |succ bW =>
  have hD:¬((bW+1:Nat):Int)<1:=by omega
  cases ak:fX k o n m with
  |false =>
   have g:=cN.h S (J.le.refl _);simp only[fu,ak,mb,Cg]at g;replace g:=Hid.mk g;clear cN;replace ji:=Hid.mk ji;simp only[aa,aw,av,ay, *];exact g.h
  |true =>
   by_cases hm:args.length=mN k
   ·have pq:((args.length:Int) != (mN k:Int))=false:=by simp[hm]
    have ax:IntKind.i64.wrap (((bW+1:Nat):Int)-1)=(bW:Int):=by rw[cZ (by omega) (by omega)];omega
    have hI:=ih.h bW rfl args v S;have oJ:=fun D (aE:S.le D)=>cN.h D aE;have AE:fu (.mk k o n m args) (bW+1)=hv args bW:=by simp[fu,ak,hm]
    rw[AE]at oJ;clear cN ih AE;replace oJ:=Hid.mk oJ;replace hI:=Hid.mk hI;replace ji:=Hid.mk ji;simp only[aa,aw,av,ay, *];refine hI.h _ ji.h fun ae gP=>?_;have g:=oJ.h ae gP;replace g:=Hid.mk g;clear gP;simp only[aa, *];exact g.h
   ·have pq:((args.length:Int) != (mN k:Int))=true:=by
     simp only[bne_iff_ne,ne_eq];omega
    have g:=cN.h S (J.le.refl _);have oh:(args.length==mN k)=false:=by simpa using hm
    simp only[fu,ak,oh,kx,mb,Cg]at g;replace g:=Hid.mk g;clear cN;replace ji:=Hid.mk ji;simp only[aa,aw,av,ay, *];exact g.h
theorem ad3{d:Nat}(hd:d≤1000)(ih:∀ bW,d=bW+1→∀(l:List aX) (v:Value) (h:J) (Q:aT),iv h v l→(∀ D,h.le D→Q (.bool (hv l bW)) D)→bj Tryz.prog 26 [v,I (bW:Int)] h Q)
  (l:List aX) (v:Value) (h:J) (Q:aT) (ad:iv h v l) (L:∀ D,h.le D→Q (.bool (hv l d)) D):bj Tryz.prog 26 [v,I (d:Int)] h Q:=by
 replace ih:=Hid.mk ih;obtain⟨xs,ka,T,iY⟩:=ad;have aR:=iY.length;refine c7 (k:=3) amI rfl rfl rfl fun N=>?_;rw[eJ Pl mY rfl];delta Pl;replace L:=U L;have sX:=Wc .i64 (d:Int);have l1:=(J.le.refl h).alloc (.aq [I (d:Int)] true);have ep:=J.hy h (.aq [I (d:Int)] true);obtain⟨p,hp⟩:∃ p,h.next=p:=⟨_,rfl⟩;obtain⟨A,hh⟩:∃ A,h.alloc (.aq [I (d:Int)] true)=A:=⟨_,rfl⟩;rw[hh,hp]at ep;rw[hh]at l1;replace ka:=Hid.mk ka;replace l1:=Hid.mk l1;replace iY:=Hid.mk iY;replace ep:=Hid.mk ep;simp only[aa, *];refine agQ (p:=fun e=>!fu e d) (ka.h.mono l1.h) aR (by omega) (fun i e x aK af S wl bC cN=>?_) _ fun v2 S fD bC=>?_
 ·refine bj.val (first:=#[]) (captured:=#[aH p 0]) ?_;obtain⟨hZ,gG,dr⟩:=iY.h.get i e aK;rw[af]at gG;cases gG;exact apD hd ih.h (bC.get ep.h) (dr.mono (l1.h.trans bC)) wl fun D cW=>cN _ _ rfl cW
 ·subst fD;have g:=L.h S (l1.h.trans bC);have c8:(!(l.any fun e=>!fu e d))=hv l d:=by rw[El,List.all_eq_not_any_not]
  rw[← c8]at g;replace g:=Hid.mk g;clear bC c8;simp only[aa, *];exact g.h
theorem ad2:∀(d:Nat),d≤1000→∀(l:List aX) (v:Value) (h:J) (Q:aT),iv h v l→(∀ D,h.le D→Q (.bool (hv l d)) D)→bj Tryz.prog 26 [v,I (d:Int)] h Q:=by
 intro d;induction d with
 |zero=>intro hd;exact ad3 hd fun bW hB=>by omega
 |succ d ih=>intro hd;exact ad3 hd fun bW hB=>by cases hB;exact ih (by omega)
def lM(k:Int):Bool:=decide (1≤k∧k≤5)
def lN(k:Int):Bool:=decide (k=2)
def lL(k:Int):Int:=if k=2∨k=3 then 3 else if k=7 then 20 else 0
def k1(k:Int):Nat:=if k=1∨k=3∨k=6 then 1 else if k=4 then 2 else 0
def j5(k:Int):Bool:=decide (k=5∨k=6∨k=7)
def kp(k:Int):Bool:=decide (k=6)
def oa(k:Int):Bool:=decide (1≤k∧k≤8)
abbrev wN(a b:Bool)(L5 IY:Int)(t e:Bool):Value:=.agg #[.bool a,.bool b,I L5,I IY,.bool t,.bool e]
theorem adP(h:J)(a b:Bool)(L5 IY:Int)(t e:Bool):cz 6 (h.alloc (.aq [.bool false,.bool false,I 0,I 0,.bool false,.bool false] true)) [aH h.next 0,wN a b L5 IY t e] =
  some (b0,h.alloc (.aq [.bool a,.bool b,I L5,I IY,.bool t,.bool e] true)):=kk rfl rfl rfl rfl
theorem Mo(a b c d e f:Value):gI true 0 6 [a,b,c,d,e,f]=some (.agg #[a,b,c,d,e,f]):=rfl
abbrev Co:ar:=[.bool false,.bool false,I 0,I 0,.bool false,.bool false]
theorem WK(n:Int):gQ Co [(0,1),(3,1)] [.bool true,I n]=some (wN true false 0 n false false):=rfl
theorem afO:gQ Co [(0,1),(1,1),(2,1)] [.bool true,.bool true,I 3]=some (wN true true 3 0 false false):=rfl
theorem afP:gQ Co [(0,1),(2,1),(3,1)] [.bool true,I 3,I 1]=some (wN true false 3 1 false false):=rfl
theorem afQ:gQ Co [(0,1),(4,1)] [.bool true,.bool true]=some (wN true false 0 0 true false):=rfl
theorem afR:gQ Co [(3,1),(4,1),(5,1)] [I 1,.bool true,.bool true]=some (wN false false 0 1 true true):=rfl
theorem afS:gQ Co [(2,1),(4,1)] [I 20,.bool true]=some (wN false false 20 0 true false):=rfl
theorem afT:gQ Co [] []=some (wN false false 0 0 false false):=rfl
set_option maxHeartbeats 1000000 in
theorem ai2(k:Int)(h:J)(Q:aT)(L:∀ D,h.le D→Q (.tuple #[wN (lM k) (lN k) (lL k) (k1 k) (j5 k) (kp k),.bool (oa k)]) D) :
  bj Tryz.prog 153 [I k] h Q:=by
 have l1:∀ c:bQ,h.le (h.alloc c):=fun c=>(J.le.refl h).alloc _;replace L:=L (h.alloc (.aq [.bool (lM k),.bool (lN k),I (lL k),I (k1 k),.bool (j5 k),.bool (kp k)] true)) (l1 _);clear l1;refine QJ (k:=1) (agg:=true) (size:=6) (j:=2) amm rfl rfl rfl fun N=>?_;rw[gE Ox mZ rfl];delta Ox;replace L:=U L;have MF:=adP h;have az:=WK 1;have arT:=WK 2;have aL:=afO;have bq:=afP;have h2:=afQ;have hH:=afR;have e7:=afS;have e8:=afT;by_cases ab:1≤k∧k≤8
 ·have ab:k=1∨k=2∨k=3∨k=4∨k=5∨k=6∨k=7∨k=8:=by omega
  rcases ab with rfl|rfl|rfl|rfl|rfl|rfl|rfl|rfl
  all_goals
   have g:=L.h;clear L;simp[lM,lN,lL,k1,j5,kp,oa]at g;replace g:=Hid.mk g;simp only[aa,aw,bh,av,ay,Int.reduceBEq,Mo, *];exact g.h
 ·have g:=L.h;clear L;have hD:(k==1)=false:=by simp;omega
  have h9:(k==2)=false:=by simp;omega
  have rN:(k==3)=false:=by simp;omega
  have L6:(k==4)=false:=by simp;omega
  have p9:(k==5)=false:=by simp;omega
  have abl:(k==6)=false:=by simp;omega
  have rO:(k==7)=false:=by simp;omega
  have abm:(k==8)=false:=by simp;omega
  have f1:lM k=false:=by unfold lM;simp;omega
  have f2:lN k=false:=by unfold lN;simp;omega
  have f3:lL k=0:=by unfold lL;rw[if_neg (by omega),if_neg (by omega)]
  have f4:k1 k=0:=by unfold k1;rw[if_neg (by omega),if_neg (by omega)]
  have f5:j5 k=false:=by unfold j5;simp;omega
  have f6:kp k=false:=by unfold kp;simp;omega
  have f7:oa k=false:=by unfold oa;simp;omega
  rw[f1,f2,f3,f4,f5,f6,f7]at g;replace g:=Hid.mk g;clear ab f1 f2 f3 f4 f5 f6 f7;simp only[aa,aw,bh,av,ay,Mo, *];exact g.h
def mO(m:aD)(b:Bool):Bool:=if b then de m else m==[]
theorem abn{m:aD}(b:Bool)(h:J)(Q:aT)(L:∀ D,h.le D→Q (.bool (mO m b)) D):bj Tryz.prog 154 [str m,.bool b] h Q:=by
 refine c7 (k:=2) amn rfl rfl rfl fun N=>?_;rw[eJ Oy iL rfl];delta Oy;replace L:=U L;cases b with
 |true =>
  simp only[aa, *];refine vJ _ _ fun S ag=>?_;have g:=L.h S ag;have e:mO m true=de m:=rfl;rw[e]at g;replace g:=Hid.mk g;clear ag;simp only[aa, *];exact g.h
 |false =>
  have g:=L.h h (J.le.refl h);have e:mO m false=(m==[]):=rfl;rw[e]at g;replace g:=Hid.mk g;have es:=iz m [];simp only[aa,av, *];exact g.h
theorem xT(n a b:Int)(h:J)(Q:aT)(L:Q (.bool (decide (a≤n∧n≤b))) h):bj Tryz.prog 54 [I n,I a,I b] h Q:=by
 refine c7 (k:=3) an6 rfl rfl rfl fun N=>?_;rw[s3 PQ iL rfl];delta PQ;replace L:=U L;have g:=L.h;clear L;by_cases A:a≤n
 ·have e:decide (a≤n∧n≤b)=decide (n≤b):=by simp[A]
  rw[e]at g;replace g:=Hid.mk g;clear e;simp only[aa,av,ay, *];exact g.h
 ·have e:decide (a≤n∧n≤b)=false:=by simp[A]
  rw[e]at g;replace g:=Hid.mk g;clear e;simp only[aa,av,ay, *];exact g.h
mutual
def je:aP→Nat→Bool
 |.mk _ _ _ _ _ _ _,0=>false
 |.mk k m f n args aU bz,d+1=>oa k && mO m (lM k) && mO f (lN k) && decide (0≤n) && decide (n≤lL k) && args.length==k1 k && hv args 30 && (j5 k || aU.length==0) && (kp k || bz.length==0) && hx aU d && hx bz d
def hx:List aP→Nat→Bool
 |[],_=>true
 |s::r,d=>je s d && hx r d
end
theorem we:∀(l:List aP) (d:Nat),hx l d=l.all fun e=>je e d
 |[],_=>by simp[hx]
 |e::r,d=>by simp[hx,we r d]
def EC(d:Nat):Prop:=∀(l:List aP) (v:Value) (h:J) (Q:aT),hO h v l→(∀ D,h.le D→Q (.bool (hx l d)) D)→bj Tryz.prog 98 [v,I (d:Int)] h Q
theorem aaQ(n:Nat):((n:Int)==0)=(n==0):=by
 cases n with
 |zero=>rfl
 |succ n=>simp;omega
set_option maxHeartbeats 4000000 in
theorem arh{d:Nat}(hd:d≤1000)(ih:∀ bW,d=bW+1→EC bW){h:J}{e:aP}{x:ar}(af:lI h e x)(Q:aT)(L:∀ D,h.le D→Q (.bool (je e d)) D) :
  bj Tryz.prog 134 [.agg x.toArray,I (d:Int)] h Q:=by
 obtain⟨v,u,w,oM,ct,jT,k7⟩:=af.val;rw[oM];cases e with
 |mk k m f n args aU bz =>
 simp only[aP.kind,aP.name,aP.src,aP.n,aP.args,aP.aU,aP.bz]at ct jT k7 ⊢;clear oM af;have dJ:=yk (k:=k) (m:=m) (f:=f) (n:=n) ct.one jT.one k7.one;have l1:=(J.le.refl h).alloc (.aq [I k,str m,str f,I n,v,u,w] true);replace l1:=Hid.mk l1;replace ih:=Hid.mk ih;replace ct:=Hid.mk ct;replace jT:=Hid.mk jT;replace k7:=Hid.mk k7;refine c7 (k:=3) am8 rfl rfl rfl fun N=>?_;rw[eJ Og uO rfl];delta Og;replace L:=U L;simp only[aa,aw, *];refine ai2 k _ _ fun S ag=>?_;have dV:=ag.get (J.hy h (.aq [I k,str m,str f,I n,v,u,w] true));have aE:=ag.alloc (.aq [.bool (lM k),.bool (lN k),I (lL k),I (k1 k),.bool (j5 k),.bool (kp k)] true);have hz:=((J.le.refl S).alloc (.aq [.bool (lM k),.bool (lN k),I (lL k),I (k1 k),.bool (j5 k),.bool (kp k)] true)).get dV;have hT:=J.hy S (.aq [.bool (lM k),.bool (lN k),I (lL k),I (k1 k),.bool (j5 k),.bool (kp k)] true);have MF:=adP S (lM k) (lN k) (lL k) (k1 k) (j5 k) (kp k);obtain⟨p,hp⟩:∃ p,h.next=p:=⟨_,rfl⟩;rw[hp]at dV hz;obtain⟨q,gb⟩:∃ q,S.next=q:=⟨_,rfl⟩;obtain⟨ae,gX⟩:∃ ae,S.alloc (.aq [.bool (lM k),.bool (lN k),I (lL k),I (k1 k),.bool (j5 k),.bool (kp k)] true)=ae:=⟨_,rfl⟩;rw[gX]at hz hT aE MF;rw[gb]at hT MF;have aE:=Hid.mk (l1.h.trans aE);clear ag dJ l1 dV;have mM:=ct.h.len;have lt:=jT.h.len;have le:=k7.h.len;have wi:=aaQ aU.length;have z2:=aaQ bz.length;cases bk:oa k with
 |false =>
  have g:=L.h ae aE.h;have hS:je (.mk k m f n args aU bz) d=false:=by cases d<;>simp[je,bk]
  rw[hS]at g;clear L;replace g:=Hid.mk g;simp only[aa,bh, *];exact g.h
 |true =>
 cases d with
 |zero =>
  have g:=L.h ae aE.h;have hS:je (.mk k m f n args aU bz) 0=false:=by simp[je]
  rw[hS]at g;clear L;replace g:=Hid.mk g;have z0:((0:Nat):Int)=0:=rfl;simp only[aa,bh,av,ay,Int.reduceLT, *];exact g.h
 |succ bW =>
 have hS:je (.mk k m f n args aU bz) (bW+1)=(oa k && mO m (lM k) && mO f (lN k) && decide (0≤n) && decide (n≤lL k) && args.length==k1 k && hv args 30 && (j5 k || aU.length==0) && (kp k || bz.length==0) && hx aU bW && hx bz bW):=by simp[je]
 rw[hS,bk]at L;clear hS;have hI:=ih.h bW rfl;clear ih;replace hI:=Hid.mk hI;have arP:(0:Int)<((bW+1:Nat):Int):=by omega
 have ax:IntKind.i64.wrap (((bW+1:Nat):Int)-1)=(bW:Int):=by rw[cZ (by omega) (by omega)];omega
 simp only[aa,aw,bh,av,ay, *];refine abn _ _ _ fun aB hl=>?_;have hf:=hl.get hz;have qH:=hl.get hT;have aO:=Hid.mk (aE.h.trans hl);clear hl hz hT aE MF gX gb hp;cases bJ:mO m (lM k) with
 |false =>
  have g:=L.h aB aO.h;simp only[kx,mb,r9,uG,Bool.true_or,yA,bk,bJ]at g;clear L;replace g:=Hid.mk g;simp only[aa, *];exact g.h
 |true =>
 simp only[aa,aw, *];refine abn _ _ _ fun aG hl=>?_;have h4:=hl.get hf;have wU:=hl.get qH;have bc:=Hid.mk (aO.h.trans hl);clear hl hf qH aO;cases dl:mO f (lN k) with
 |false =>
  have g:=L.h aG bc.h;simp only[kx,mb,r9,uG,Bool.true_or,yA,bk,bJ,dl]at g;clear L;replace g:=Hid.mk g;simp only[aa, *];exact g.h
 |true =>
 by_cases fa:0≤n
 case neg =>
  have PL:=decide_eq_false fa;have g:=L.h aG bc.h;simp only[kx,mb,r9,uG,Bool.true_or,yA,bk,bJ,dl,PL]at g;clear L;replace g:=Hid.mk g;simp only[aa,aw,av,ay, *];exact g.h
 have uX:=decide_eq_true fa;by_cases p8:n≤lL k
 case neg =>
  have agv:=decide_eq_false p8;have g:=L.h aG bc.h;simp only[kx,mb,r9,uG,Bool.true_or,yA,bk,bJ,dl,uX,agv]at g;clear L;replace g:=Hid.mk g;simp only[aa,aw,av,ay, *];exact g.h
 have E2:=decide_eq_true p8;have aaP:((args.length:Int)==(k1 k:Int))=(args.length==k1 k):=by
  rw[Bool.eq_iff_iff];simp;omega
 cases pb:args.length==k1 k with
 |false =>
  rw[pb]at aaP;have g:=L.h aG bc.h;simp only[kx,mb,r9,uG,Bool.true_or,yA,bk,bJ,dl,uX,E2,pb]at g;clear L;replace g:=Hid.mk g;simp only[aa,aw,av,ay, *];exact g.h
 |true =>
 rw[pb]at aaP;simp only[aa,aw,av,ay, *];refine ad2 30 (by omega) args v _ _ (ct.h.mono bc.h) fun a1 hl=>?_;have nj:=hl.get h4;have lO:=hl.get wU;have aY:=Hid.mk (bc.h.trans hl);clear hl h4 wU bc;cases PM:hv args 30 with
 |false =>
  have g:=L.h a1 aY.h;simp only[kx,mb,r9,uG,Bool.true_or,yA,bk,bJ,dl,uX,E2,pb,PM]at g;clear L;replace g:=Hid.mk g;simp only[aa, *];exact g.h
 |true =>
 cases qZ:(j5 k || aU.length==0) with
 |false =>
  have ws:j5 k=false:=by cases aZ:j5 k<;>simp_all
  have agw:(aU.length==0)=false:=by cases aZ:(aU.length==0)<;>simp_all
  rw[agw]at wi;have g:=L.h a1 aY.h;simp only[kx,mb,r9,uG,Bool.true_or,yA,bk,bJ,dl,uX,E2,pb,PM,qZ]at g;clear L;replace g:=Hid.mk g;simp only[aa,aw,av,ay, *];exact g.h
 |true =>
 cases uY:(kp k || bz.length==0) with
 |false =>
  have yo:kp k=false:=by cases aZ:kp k<;>simp_all
  have agy:(bz.length==0)=false:=by cases aZ:(bz.length==0)<;>simp_all
  rw[agy]at z2;have g:=L.h a1 aY.h;simp only[kx,mb,r9,uG,bk,bJ,dl,uX,E2,pb,PM,qZ,uY]at g;clear L;replace g:=Hid.mk g;cases ws:j5 k with
  |true =>
   rw[ws]at lO;simp only[aa,aw,av,ay, *];exact g.h
  |false =>
   rw[ws,yA]at qZ;rw[qZ]at wi;rw[ws]at lO;simp only[aa,aw,av,ay, *];exact g.h
 |true =>
 have Gh:bj Tryz.prog 98 [u,I (bW:Int)] a1 (fun r D=>True)→True:=fun _=>trivial;clear Gh;replace L:=fun D l=>L.h D l;simp only[kx,mb,r9,uG,bk,bJ,dl,uX,E2,pb,PM,qZ,uY]at L;replace L:=Hid.mk L;cases ws:j5 k with
 |true =>
  rw[ws]at lO;cases yo:kp k with
  |true =>
   rw[yo]at lO;clear qZ uY;simp only[aa,aw,av,ay, *];refine hI.h aU u _ _ (jT.h.mono aY.h) fun dW hl=>?_;have wR:=hl.get nj;have Rq:=hl.get lO;have lc:=Hid.mk (aY.h.trans hl);clear hl nj lO aY;cases qv:hx aU bW with
   |false =>
    have g:=L.h dW lc.h;simp only[qv,mb]at g;clear L;replace g:=Hid.mk g;simp only[aa, *];exact g.h
   |true =>
    simp only[aa,aw,av,ay, *];refine hI.h bz w _ _ (k7.h.mono lc.h) fun cM uw=>?_;have g:=L.h cM (lc.h.trans uw);simp only[qv,kx]at g;clear L uw;replace g:=Hid.mk g;simp only[aa, *];exact g.h
  |false =>
   rw[yo]at lO;rw[yo,yA]at uY;rw[uY]at z2;clear qZ uY;simp only[aa,aw,av,ay, *];refine hI.h aU u _ _ (jT.h.mono aY.h) fun dW hl=>?_;have wR:=hl.get nj;have Rq:=hl.get lO;have lc:=Hid.mk (aY.h.trans hl);clear hl nj lO aY;cases qv:hx aU bW with
   |false =>
    have g:=L.h dW lc.h;simp only[qv,mb]at g;clear L;replace g:=Hid.mk g;simp only[aa, *];exact g.h
   |true =>
    simp only[aa,aw,av,ay, *];refine hI.h bz w _ _ (k7.h.mono lc.h) fun cM uw=>?_;have g:=L.h cM (lc.h.trans uw);simp only[qv,kx]at g;clear L uw;replace g:=Hid.mk g;simp only[aa, *];exact g.h
 |false =>
  rw[ws]at lO;cases yo:kp k with
  |true =>
   rw[yo]at lO;rw[ws,yA]at qZ;rw[qZ]at wi;clear qZ uY;simp only[aa,aw,av,ay, *];refine hI.h aU u _ _ (jT.h.mono aY.h) fun dW hl=>?_;have wR:=hl.get nj;have Rq:=hl.get lO;have lc:=Hid.mk (aY.h.trans hl);clear hl nj lO aY;cases qv:hx aU bW with
   |false =>
    have g:=L.h dW lc.h;simp only[qv,mb]at g;clear L;replace g:=Hid.mk g;simp only[aa, *];exact g.h
   |true =>
    simp only[aa,aw,av,ay, *];refine hI.h bz w _ _ (k7.h.mono lc.h) fun cM uw=>?_;have g:=L.h cM (lc.h.trans uw);simp only[qv,kx]at g;clear L uw;replace g:=Hid.mk g;simp only[aa, *];exact g.h
  |false =>
   rw[yo]at lO;rw[ws,yA]at qZ;rw[qZ]at wi;rw[yo,yA]at uY;rw[uY]at z2;clear qZ uY;simp only[aa,aw,av,ay, *];refine hI.h aU u _ _ (jT.h.mono aY.h) fun dW hl=>?_;have wR:=hl.get nj;have Rq:=hl.get lO;have lc:=Hid.mk (aY.h.trans hl);clear hl nj lO aY;cases qv:hx aU bW with
   |false =>
    have g:=L.h dW lc.h;simp only[qv,mb]at g;clear L;replace g:=Hid.mk g;simp only[aa, *];exact g.h
   |true =>
    simp only[aa,aw,av,ay, *];refine hI.h bz w _ _ (k7.h.mono lc.h) fun cM uw=>?_;have g:=L.h cM (lc.h.trans uw);simp only[qv,kx]at g;clear L uw;replace g:=Hid.mk g;simp only[aa, *];exact g.h
theorem afj{d:Nat}(hd:d≤1000)(ih:∀ bW,d=bW+1→EC bW){h:J}{p:Nat}{e:aP}{x:ar}(hp:h.get p=some (.aq [I (d:Int)] true))(af:lI h e x)
  (Q:aT) (L:∀ D,h.le D→Q (.bool (!je e d)) D):bj Tryz.prog 133 [.agg x.toArray,aH p 0] h Q:=by
 replace ih:=Hid.mk ih;have ht:=af;obtain⟨v,u,w,oM,ct,jT,k7⟩:=af.cells;subst oM;have dJ:=yk (k:=e.kind) (m:=e.name) (f:=e.src) (n:=e.n) ct.one jT.one k7.one;have l1:=(J.le.refl h).alloc (.aq [I e.kind,str e.name,str e.src,I e.n,v,u,w] true);have ep:=l1.get hp;have eK:=ht.mono l1;replace l1:=Hid.mk l1;replace eK:=Hid.mk eK;clear af ht hp ct jT k7;refine c7 (k:=3) am7 rfl rfl rfl fun N=>?_;rw[eJ Of mY rfl];delta Of;replace L:=U L;simp only[aa,aw,jX, *];refine arh hd ih.h eK.h _ fun S ag=>?_;have g:=L.h S (l1.h.trans ag);replace g:=Hid.mk g;clear ag;simp only[aa, *];exact g.h
theorem Wr{d:Nat}(hd:d≤1000)(ih:∀ bW,d=bW+1→EC bW):EC d:=by
 intro l v h Q ad L;replace ih:=Hid.mk ih;obtain⟨xs,ka,T,iY⟩:=ad;have aR:=iY.length;refine c7 (k:=3) anO rfl rfl rfl fun N=>?_;rw[eJ QE mY rfl];delta QE;replace L:=U L;have sX:=Wc .i64 (d:Int);have l1:=(J.le.refl h).alloc (.aq [I (d:Int)] true);have ep:=J.hy h (.aq [I (d:Int)] true);obtain⟨p,hp⟩:∃ p,h.next=p:=⟨_,rfl⟩;obtain⟨A,hh⟩:∃ A,h.alloc (.aq [I (d:Int)] true)=A:=⟨_,rfl⟩;rw[hh,hp]at ep;rw[hh]at l1;replace ka:=Hid.mk ka;replace l1:=Hid.mk l1;replace iY:=Hid.mk iY;replace ep:=Hid.mk ep;simp only[aa, *];refine agS (p:=fun e=>!je e d) (ka.h.mono l1.h) aR (by omega) (fun i e x aK af S wl bC cN=>?_) _ fun v2 S fD bC=>?_
 ·refine bj.val (first:=#[]) (captured:=#[aH p 0]) ?_;obtain⟨hZ,gG,dr⟩:=iY.h.get i e aK;rw[af]at gG;cases gG;exact afj hd ih.h (bC.get ep.h) (dr.mono (l1.h.trans bC)) wl fun D cW=>cN _ _ rfl cW
 ·subst fD;have g:=L.h S (l1.h.trans bC);have c8:(!(l.any fun e=>!je e d))=hx l d:=by rw[we,List.all_eq_not_any_not]
  rw[← c8]at g;replace g:=Hid.mk g;clear bC c8;simp only[aa, *];exact g.h
theorem Wq:∀(d:Nat),d≤1000→EC d:=by
 intro d;induction d with
 |zero=>intro hd;exact Wr hd fun bW hB=>by omega
 |succ d ih=>intro hd;exact Wr hd fun bW hB=>by cases hB;exact ih (by omega)
end Go.Eng.Sy
