/-
  Part of a proof of the laws of layer 07 (reader): an order-free machine for the code, and that it is sound.
  Conditions: none.
-/
import Derived.Test.YtjbjpooafphpnaaGreatDoorEa
import Derived.Scope
import Derived.LoopNIn
import Derived.RangeFuncLeaves
import Derived.RangeFuncRecord
import Derived.RangeFuncIn
namespace Go.Eng
open Go
variable {P:Program}{al:Ren}{ev:Operand→Value}
structure Src(P:Program)(size:Nat)(x:Value)(w:World)(n:Nat)(fG:ar):Prop where
 len:∀ dd,(Builtin.lenOf x).run P dd=.ok n dd
 cells:∀ dd:World,dd.heap=w.heap→(Builtin.firstCells size n x).run P dd=.ok fG.toArray dd
theorem adz{size:Nat}(iD:0<size){h:J}{x hZ:Value}{fG:ar}(ak:rZ size h x=some fG)(af:bL al x hZ){base:Nat}{G:Nat→Option bQ}{w:World}(aM:b1 base G al w)(bv:h.hX G) :
  ∃ n mQ,Src P size hZ w n mQ∧be al fG mQ∧fG.length=n*size∧(∀ c∈fG,c.oneCell'=true):=by
 unfold rZ at ak;split at ak<;>first|(cases ak;done)|skip
 ·cases ak
  have e:=af.BO;subst e;exact⟨0,[],⟨fun dd=>by simp[Builtin.lenOf],fun dd _=>by simp[Builtin.firstCells]⟩,.nil,by simp,by simp⟩
 ·rename_i id o n s;split at ak<;>first|(cases ak;done)|skip
  rename_i pu;subst pu;obtain⟨l,eW,cap,ag,e,vt,nl⟩:=af.vX;subst e;split at ak
  ·rename_i hn;subst hn;cases ak;exact⟨0,[],⟨fun dd=>by simp[Builtin.lenOf],fun dd _=>by simp[Builtin.firstCells,loadCells,loadCellsFrom]⟩,.nil,by simp,by simp⟩
  ·rename_i hn;split at ak<;>first|(cases ak;done)|skip
   rename_i cells own k5;split at ak<;>first|(cases ak;done)|skip
   rename_i bX;cases ak;rcases nl with⟨rfl,rz⟩|⟨h0,_⟩
   ·obtain⟨cs,el,fz,A,S,ae,aB,aG,a1⟩:=wA (aM.obj id _ l (bv id _ k5) ag);have T:(o+l.dB)+n*s≤cs.size:=by omega
    refine⟨n,(cs.toList.drop (o+l.dB)).take (n*s),⟨fun dd=>by simp[Builtin.lenOf],fun dd iE=>?_⟩,?_,by simp;omega,fun c aj=>aG c (List.mem_of_mem_drop (List.mem_of_mem_take aj))⟩
    ·simp only[Builtin.firstCells];exact DU (by rw[iE];exact A) T
    ·have bN:=(aB.drop o).take (n*s);have:((((cs.toList.drop l.dB).take cells.length).drop o).take (n*s))=(cs.toList.drop (o+l.dB)).take (n*s):=by
      rw[List.drop_take,List.drop_drop,List.take_take];rw[Nat.min_eq_left (by omega),Nat.add_comm l.dB o]
     rw[this]at bN;exact bN
   ·exact absurd h0 hn
 ·rename_i b;split at ak<;>first|(cases ak;done)|skip
  rename_i A;subst A;cases ak;have e:=af.str;subst e;refine⟨b.size,_,⟨fun dd=>by simp[Builtin.lenOf],fun dd _=>?_⟩,be.plain (fun v ad=>?_),by simp,fun c aj=>?_⟩
  ·simp[Builtin.firstCells,← Lz]
  ·obtain⟨x,_,rfl⟩:=Is.1 ad;rfl
  ·obtain⟨x,_,rfl⟩:=Is.1 aj;rfl
theorem IX{t u ty e:TypeId}{s:Nat}(aC:P.underlying t=some (.slice e))(hu:(∃ f,P.underlying u=some (.slice f))∨P.underlying u=some .string)(ak:gJ P e=some s)
  {x:Value}{w:World}{n:Nat}{fG:ar}(af:Src P s x w n fG) (p:Option Addr) (fc jb:Nat) (hr:fc+n≤jb) :
  (Builtin.append_ #[t,u] ty #[.slice p fc jb,x]).run P w=(match p with
   |some a=>((storeCells (a.add (fc*s)) fG).run P w).andThen fun _ w'=>.ok (.slice (some a) (fc+n) jb) w'
   |none=>.ok (.slice none (fc+n) jb) w):=by
 have aj:=af.cells w rfl;rcases hu with⟨f,hu⟩|hu<;>cases p<;>simp[Builtin.append_,run_underlying aC,run_underlying hu,oX ak,af.len,hr,aj]
theorem Ww{t u ty e:TypeId}{s b:Nat}(aC:P.underlying t=some (.slice e))(hu:(∃ f,P.underlying u=some (.slice f))∨P.underlying u=some .string)(ak:gJ P e=some s)(T:Ap P e=some b)
  {eL:Value}(bp:∀ w,(zeroValue e).run P w=.ok eL w)
  {x:Value}{w:World}{n:Nat}{fG:ar}(af:Src P s x w n fG) (p:Option Addr) (fc jb:Nat) (nS:ar) (ah:(Builtin.firstCells s fc (.slice p fc jb)).run P w.drew=.ok nS.toArray w.drew)
  (aA:jb<fc+n) (tV:fc+n≤9223372036854775807) (rz:Builtin.nextslicecap (fc+n) jb*b≤281474976710656) :
  (Builtin.append_ #[t,u] ty #[.slice p fc jb,x]).run P w =
   .ok (.slice (some ⟨w.heap.size,0,none⟩) (fc+n) (grownCap w (fc+n) jb e))
    (w.drew.alloc (.cells (nS.toArray++fG.toArray++Builtin.zeroCells eL.cells (grownCap w (fc+n) jb e-(fc+n))) e)):=by
 have aj:=af.cells w.drew rfl;have hn:¬(fc+n≤jb):=by omega
 have aim:¬(9223372036854775807<((fc:Int)+(n:Int))):=by omega
 have ail:¬(281474976710656<Builtin.nextslicecap (fc+n) jb*b):=by omega
 have ij:∃ i,P.info? e=some i∧i.bytes=b:=by
  unfold Ap at T;cases au:P.info? e with
  |none=>rw[au]at T;cases T
  |some i=>rw[au]at T;cases T;exact⟨i,rfl,rfl⟩
 obtain⟨i,au,ajd⟩:=ij;subst ajd;have ak4:∀ w,(typeInfo e).run P w=.ok i w:=fun w=>by simp[typeInfo,au]
 rcases hu with⟨f,hu⟩|hu <;>
  (
   simp[Builtin.append_,run_underlying aC,run_underlying hu,oX ak,af.len,hn,aim,ail,ak4,Question.forced,ah,aj,bp,newRow,grownCap]
   congr 2
   apply Array.ext';simp[wB])
theorem Ya{a n s:Nat}(ak:0<s)(h:a=n*s):a / s=n:=by rw[h];exact Nat.mul_div_cancel _ ak
theorem afs{t u ty e:TypeId}{xs o2:Operand}{s b:Nat}{z:ar}(aC:P.underlying t=some (.slice e))(hu:(∃ f,P.underlying u=some (.slice f))∨P.underlying u=some .string)
  (ak:gJ P e=some s) (T:Ap P e=some b) (bp:oz P e=some z) (pl:z.length=s) (lu:0<s)
  {vs:ar}(ad:be al vs ([xs,o2].map ev)){base:Nat}{G:Nat→Option bQ}{w:World}(aM:b1 base G al w){h D:J}(bv:h.hX G)
  {v:Value}(ax:o1 s b h vs=some (v,D)) (bZ:jf al h.next D.next) :
  ∃ v' bd w',(Builtin.append_ #[t,u] ty #[ev xs,ev o2]).run P w=.ok v' w'∧lh base G al w h D v v' bd w':=by
 obtain⟨a,x,rfl,ai,af⟩:=be.mW ad;obtain⟨eL,xi,ur,vC,zo⟩:=wj bp;have us:eL.cells.size=s:=by rw[← pl,← ur];simp
 simp only[o1]at ax;split at ax<;>first|(cases ax;done)|skip
 rename_i fG SA;obtain⟨n,mQ,lv,il,aR,oI⟩:=adz (P:=P) lu SA af aM bv;have qQ:mQ.length=n*s:=by rw[← il.length];exact aR
 have ta:=Ya lu aR
 -- a new block
 have C2:∀(p:Option Addr) (fc jb:Nat) (nS jV:ar) (h0:J),ev xs=.slice p fc jb→(Builtin.firstCells s fc (.slice p fc jb)).run P w.drew=.ok jV.toArray w.drew →
   be al nS jV→(∀ c∈nS,c.oneCell'=true)→nS.length=fc*s→jb<fc+n→fc+n≤9223372036854775807→(fc+n)*b≤140737488355328→h0.next=h.next →
   ∀ eH:Nat→Option bQ,b1 base eH al w→(∀ id,over (h0.alloc (.aq (nS++fG) true)) G id=fS eH h.next (.aq (nS++fG) true) id)→jf al h.next (h.next+1) →
   ∃ v' bd w',(Builtin.append_ #[t,u] ty #[ev xs,ev o2]).run P w=.ok v' w'∧lh base G al w h (h0.alloc (.aq (nS++fG) true)) (.slice (some ⟨h.next,0,none⟩) (fc+n) s) v' bd w':=by
  intro p fc jb nS jV h0 hp gF hV Bg GM tZ tV s8 j9 eH F1 kN R7;have Ga:=grownCap_ge w (fc+n) jb e;have e4:=Ww (P:=P) (ty:=ty) aC hu ak T xi lv p fc jb jV gF tZ tV (growslice_fits tZ s8);rw[← hp]at e4;have cQ:al h.next=none:=R7 _ (br _) (by omega);let cs:Array Value:=jV.toArray++mQ.toArray++Builtin.zeroCells eL.cells (grownCap w (fc+n) jb e-(fc+n));have hA:cs.size=grownCap w (fc+n) jb e*s:=by
   have az:jV.length=fc*s:=by rw[← hV.length];exact GM
   simp only[cs,Array.size_append,List.size_toArray,size_zeroCells,us,az,qQ,← Nat.add_mul]
   congr 1;omega
  have iC:=HK (F1.heap (w':=w.drew) rfl) cQ (cells:=nS++fG) (cs:=cs) e (by rw[hA,ap,GM,aR,← Nat.add_mul];exact HA _ Ga) (fun i v ad=>by
   obtain⟨v',A,S⟩:=(hV.append il).get i v ad;refine⟨v',?_,S,?_⟩
   ·have au:=(j2.1 A).1;have:cs=(jV++mQ).toArray++Builtin.zeroCells eL.cells (grownCap w (fc+n) jb e-(fc+n)):=by
     apply Array.ext';simp[cs]
    rw[this,Pf (by simpa using au)];simpa using A
   ·have hm:=List.mem_of_getElem? ad;rcases Aa.1 hm with hm|hm
    ·exact Bg v hm
    ·exact oI v hm)
  refine⟨_,_,_,e4,?_,?_,b1.congr iC.1 kN,?_⟩
  ·simp only[J.zN,j9];exact fj.put _ _ _
  ·exact .slice h.next 0 0 (fc+n) s _ ⟨w.heap.size,0,cs.size⟩ (by simp[Ren.put]) Ga (.inl ⟨rfl,by simp[hA]⟩)
  ·exact⟨iC.2.size,iC.2.low,iC.2.tape,iC.2.os,iC.2.output,iC.2.CZ⟩
 split at ax
 ·rename_i zn;have hn:n=0:=by
   have:n*s=0:=by rw[← aR];exact zn
   rcases Nat.mul_eq_zero.1 this with h|h<;>omega
  subst hn;have cH:mQ=[]:=List.eq_nil_of_length_eq_zero (by simpa using qQ);subst cH;split at ax<;>first|(cases ax;done)|skip
  rename_i p k c;cases ax;have hJ:∃ pC fl,ev xs=.slice pC k fl∧k≤fl:=by
   generalize ev xs=y at *;cases ai with
   |same _ h =>
    cases p with
    |none=>unfold Value.plain at h;split at h<;>first|(rename_i az;cases az;exact⟨_,_,rfl,br _⟩)|(rename_i az;cases az)|cases h
    |some p=>simp[Value.plain]at h
   |slice id off eW len s cap l h ag ah=>exact⟨_,_,rfl,ag⟩
   |clip=>exact⟨_,_,rfl,br _⟩
  obtain⟨pC,fl,az,Sd⟩:=hJ;have e4:=IX (P:=P) (ty:=ty) aC hu ak lv pC k fl (by omega);refine⟨ev xs,al,w,?_,fj.refl _ _ _,ai,b1.congr aM (over_self bv),gi.refl _ _⟩;rw[az,e4];cases pC<;>simp[storeCells]
 ·rename_i cH;have hn:0<n:=Nat.pos_of_ne_zero fun e=>cH (by rw[aR,e];simp);split at ax<;>first|(cases ax;done)|skip
  ·split at ax<;>first|(cases ax;done)|skip
   rename_i jF;rw[ta]at jF ax;cases ax;have az:=ai.BO;have:=C2 none 0 0 [] [] h az (by simp[Builtin.firstCells]) .nil (by simp) (by simp) (by omega) (by omega) (by simpa using jF.1) rfl G aM (zQ bv _) bZ;simpa using this
  ·rename_i id o m k a8;split at ax<;>first|(cases ax;done)|skip
   rename_i cells own k5;split at ax<;>first|(cases ax;done)|skip
   rename_i jF;obtain⟨rfl,eY,s8,tV⟩:=jF;rw[ta]at s8 tV ax;cases ax;obtain⟨l,eW,ag,az,nl⟩:=ai.agG;have k3:=bv id _ k5;obtain⟨cs,el,fz,A,S,ae,aB,aG,a1⟩:=wA (aM.obj id _ l k3 ag);have ajp:((cells.drop o).take (k*a8)).length=k*a8:=by rw[List.length_take,List.length_drop];omega
   have gF:∃ jV,(Builtin.firstCells a8 k (.slice (some ⟨l.b,eW,none⟩) k k)).run P w.drew=.ok (List.toArray jV) w.drew∧be al ((cells.drop o).take (k*a8)) jV:=by
    rcases nl with⟨rfl,rz⟩|rfl
    ·refine⟨((cs.toList.drop l.dB).drop o).take (k*a8),?_,?_⟩
     ·simp only[Builtin.firstCells];have:=DU (P:=P) (w:=w.drew) (b:=l.b) (o:=o+l.dB) (n:=k*a8) (cs:=cs) (el:=el) (fz:=fz) A (by omega);rw[this,List.drop_drop,Nat.add_comm l.dB o]
     ·have bN:=(aB.drop o).take (k*a8);rw[List.drop_take,List.take_take]at bN;rw[show min (k*a8) (cells.length-o)=k*a8 by omega]at bN;exact bN
    ·exact⟨[],by simp[Builtin.firstCells,loadCells,loadCellsFrom],by simpa using be.nil⟩
   obtain⟨jV,gF,hV⟩:=gF;exact C2 (some ⟨l.b,eW,none⟩) k k _ jV h az gF hV (fun c aj=>aG c (List.mem_of_mem_drop (List.mem_of_mem_take aj))) ajp (by omega) (by omega) s8 rfl G aM (zQ bv _) bZ
  ·rename_i id k a8;split at ax<;>first|(cases ax;done)|skip
   rename_i cells k5;split at ax<;>first|(cases ax;done)|skip
   rename_i jF;obtain⟨rfl,eY,s8,tV⟩:=jF;rw[ta]at s8 tV ax;cases ax;obtain⟨l,eW,cap,ag,az,Sd,nl⟩:=ai.vX;have k3:=bv id _ k5;have qS:=aM.obj id _ l k3 ag;obtain⟨cs,el,fz,A,S,ae,aB,aG,a1⟩:=wA qS;obtain⟨hJ,Dg,qL⟩:=a1 rfl
   try cases Dg
   have aV:=J.bY k5;have cQ:al h.next=none:=bZ _ (br _) (by simp);have kN:∀ o:bQ,∀ i,over ((h.set id .dead).alloc o) G i=fS (fS G id .dead) h.next o i:=fun o i=>by
    have:=over_self bv i;unfold over fS at *;rw[J.tR,J.qG];simp only[J.HL];by_cases aL:i=h.next
    ·simp[aL]
    ·by_cases bq:i=id
     ·subst bq;simp[aL,aV]
     ·simp[aL,bq,this]
   by_cases Bl:k+n≤cap
   · -- in place
    rcases nl with⟨rfl,rz⟩|⟨_,pZ⟩
    case inr=>omega
    rw[hJ]at az rz ae aB;simp only[zS,List.drop_zero,Gr]at az rz ae aB;have Sf:(k+n)*a8≤cap*a8:=HA _ Bl;rw[Nat.add_mul]at Sf;have SE:∀ c∈mQ,c.oneCell'=true:=fun c aj=>by
     obtain⟨i,au⟩:=Gm.1 aj;have lo:i<fG.length:=by rw[il.length];exact(j2.1 au).1
     obtain⟨fl,j8,hr⟩:=il.get i _ (hi lo);rw[au]at j8;cases j8;rw[bL.Up hr];exact oI _ (Lr lo)
    have dS:=run_storeCells_at P l.b (k*a8) el mQ 0 cs w A (by rw[qQ];omega) SE;have e4:=IX (P:=P) (ty:=ty) aC hu ak lv (some ⟨l.b,0,none⟩) k cap Bl;simp only[Addr.wx,zS,Gr]at e4 dS;rw[dS]at e4;let new:Array Value:=(cs.toList.take (k*a8)++mQ++cs.toList.drop (k*a8+mQ.length)).toArray;have c9:new.size=cs.size:=by simp[new];omega
    refine⟨_,al.put h.next l,w.setRow l.b new,by rw[az];exact e4,by simp only[J.zN,J.HL];exact fj.put _ _ _,?_,?_,?_⟩
    ·exact .slice h.next 0 0 (k+n) a8 cap l (by simp[Ren.put]) Bl (.inl ⟨by simp[hJ],by rw[hJ];omega⟩)
    ·refine b1.congr (aM.move id h.next _ (.aq (cells++fG) true) l k3 ag cQ rfl (setRow_size _ _ _) (fun b T=>setRow_other w l.b b _ T) ?_) (kN _);refine⟨new,el,(0,0),setRow_heap w l.b cs _ el _ A,by rw[c9];exact S,by rw[hJ,c9,ap,eY,aR];omega,fun i v ad=>?_,fun _=>⟨hJ,rfl,qL⟩⟩;rw[hJ,zS];have SN:be al (cells++fG) (cs.toList.take cells.length++mQ):=aB.append il;obtain⟨v',fV,hr⟩:=SN.get i v ad;refine⟨v',?_,bL.mono (Ren.vG cQ l) hr,?_⟩
     ·have au:=(j2.1 fV).1;simp only[new,List.getElem?_toArray];rw[eY]at fV;rw[PF (by simp at au ⊢;omega)];exact fV
     ·rcases Aa.1 (List.mem_of_getElem? ad) with hm|hm
      ·exact aG v hm
      ·exact oI v hm
    ·exact⟨by simp,fun b T=>setRow_other w l.b b _ (by omega),rfl,rfl,rfl,fun a _=>Fw w l.b _ a⟩
   · -- a new block
    have gF:∃ jV,(Builtin.firstCells a8 k (.slice (some ⟨l.b,eW,none⟩) k cap)).run P w.drew=.ok (List.toArray jV) w.drew∧be al cells jV:=by
     rcases nl with⟨rfl,rz⟩|⟨rfl,_⟩
     ·rw[hJ]at ae aB rz ⊢;simp only[zS,List.drop_zero,Gr]at ae aB rz ⊢;refine⟨cs.toList.take cells.length,?_,aB⟩;simp only[Builtin.firstCells];have:=DU (P:=P) (w:=w.drew) (b:=l.b) (o:=0) (n:=k*a8) (cs:=cs) (el:=el) (fz:=(0,0)) A (by omega);rw[this,eY];simp
     ·have:cells=[]:=List.eq_nil_of_length_eq_zero (by simpa using eY);subst this;exact⟨[],by simp[Builtin.firstCells,loadCells,loadCellsFrom],.nil⟩
    obtain⟨jV,gF,hV⟩:=gF;exact C2 (some ⟨l.b,eW,none⟩) k cap cells jV (h.set id .dead) az gF hV aG eY (by omega) (by omega) s8 rfl _ (aM.kill id (by rw[k3];rfl)) (kN _) bZ
theorem Uf{base:Nat}{G:Nat→Option bQ}{w:World}(aM:b1 base G al w){id:Nat}(cQ:al id=none){cells:ar}{cs:Array Value}(el:TypeId)(hn:cells.length≤cs.size)
  (aj:∀(i:Nat) v,cells[i]?=some v→∃ v',cs[i]?=some v'∧bL al v v'∧v.oneCell'=true) (li:Bool:=false) (aZ:li=true→cells.length=cs.size:=by intro h;cases h) :
  b1 base (fS G id (.gg cells el li)) (al.put id ⟨w.heap.size,0,cs.size⟩) (w.alloc (.cells cs el))∧gi base w (w.alloc (.cells cs el)):=by
 have bX:=Ren.vG cQ ⟨w.heap.size,0,cs.size⟩;refine⟨aM.alloc id _ ⟨w.heap.size,0,cs.size⟩ cQ (br _) (by simp) (fun b T=>heap_alloc_old w _ b T) (by simp) ?_,⟨by simp,fun b T=>heap_alloc_old w _ b (BS T aM.size),rfl,rfl,rfl,fun a _=>Fv w _ (.inl ⟨_,_,rfl⟩) a⟩⟩;refine⟨cs,heap_alloc_new w _,rfl,hn,fun i v ad=>?_,aZ,rfl,aM.size⟩;obtain⟨v',a,b,c⟩:=aj i v ad;exact⟨v',a,bL.mono bX b,c⟩
theorem afr{t u ty e:TypeId}{xs o2:Operand}{s b:Nat}{z:ar}(aC:P.underlying t=some (.slice e))(hu:(∃ f,P.underlying u=some (.slice f))∨P.underlying u=some .string)
  (ak:gJ P e=some s) (T:Ap P e=some b) (bp:oz P e=some z) (pl:z.length=s) (lu:0<s)
  {vs:ar}(ad:be al vs ([xs,o2].map ev)){base:Nat}{G:Nat→Option bQ}{w:World}(aM:b1 base G al w){h D:J}(bv:h.hX G)
  {v:Value}(ax:Ag e s b h vs=some (v,D)) (bZ:jf al h.next D.next) :
  ∃ v' bd w',(Builtin.append_ #[t,u] ty #[ev xs,ev o2]).run P w=.ok v' w'∧lh base G al w h D v v' bd w':=by
 obtain⟨a,x,rfl,ai,af⟩:=be.mW ad;obtain⟨eL,xi,ur,vC,zo⟩:=wj bp;have us:eL.cells.size=s:=by rw[← pl,← ur];simp
 simp only[Ag]at ax;split at ax<;>first|(cases ax;done)|skip
 rename_i fG SA;obtain⟨n,mQ,lv,il,aR,oI⟩:=adz (P:=P) lu SA af aM bv;have qQ:mQ.length=n*s:=by rw[← il.length];exact aR
 have ta:=Ya lu aR
 -- a new block
 have C2:∀(p:Option Addr) (fc jb:Nat) (nS jV:ar) (h0:J),ev xs=.slice p fc jb→(Builtin.firstCells s fc (.slice p fc jb)).run P w.drew=.ok jV.toArray w.drew →
   be al nS jV→(∀ c∈nS,c.oneCell'=true)→nS.length=fc*s→jb<fc+n→fc+n≤9223372036854775807→(fc+n)*b≤140737488355328→h0.next=h.next →
   ∀ eH:Nat→Option bQ,b1 base eH al w→(∀ id,over (h0.alloc (.gg (nS++fG) e false)) G id=fS eH h.next (.gg (nS++fG) e false) id)→jf al h.next (h.next+1) →
   ∃ v' bd w',(Builtin.append_ #[t,u] ty #[ev xs,ev o2]).run P w=.ok v' w'∧lh base G al w h (h0.alloc (.gg (nS++fG) e false)) (.slice (some ⟨h.next,0,none⟩) (fc+n) s) v' bd w':=by
  intro p fc jb nS jV h0 hp gF hV Bg GM tZ tV s8 j9 eH F1 kN R7;have Ga:=grownCap_ge w (fc+n) jb e;have e4:=Ww (P:=P) (ty:=ty) aC hu ak T xi lv p fc jb jV gF tZ tV (growslice_fits tZ s8);rw[← hp]at e4;have cQ:al h.next=none:=R7 _ (br _) (by omega);let cs:Array Value:=jV.toArray++mQ.toArray++Builtin.zeroCells eL.cells (grownCap w (fc+n) jb e-(fc+n));have hA:cs.size=grownCap w (fc+n) jb e*s:=by
   have az:jV.length=fc*s:=by rw[← hV.length];exact GM
   simp only[cs,Array.size_append,List.size_toArray,size_zeroCells,us,az,qQ,← Nat.add_mul]
   congr 1;omega
  have iC:=Uf (F1.heap (w':=w.drew) rfl) cQ (cells:=nS++fG) (cs:=cs) e (by rw[hA,ap,GM,aR,← Nat.add_mul];exact HA _ Ga) (fun i v ad=>by
   obtain⟨v',A,S⟩:=(hV.append il).get i v ad;refine⟨v',?_,S,?_⟩
   ·have au:=(j2.1 A).1;have:cs=(jV++mQ).toArray++Builtin.zeroCells eL.cells (grownCap w (fc+n) jb e-(fc+n)):=by
     apply Array.ext';simp[cs]
    rw[this,Pf (by simpa using au)];simpa using A
   ·have hm:=List.mem_of_getElem? ad;rcases Aa.1 hm with hm|hm
    ·exact Bg v hm
    ·exact oI v hm)
  refine⟨_,_,_,e4,?_,?_,b1.congr iC.1 kN,?_⟩
  ·simp only[J.zN,j9];exact fj.put _ _ _
  ·exact .slice h.next 0 0 (fc+n) s _ ⟨w.heap.size,0,cs.size⟩ (by simp[Ren.put]) Ga (.inl ⟨rfl,by simp[hA]⟩)
  ·exact⟨iC.2.size,iC.2.low,iC.2.tape,iC.2.os,iC.2.output,iC.2.CZ⟩
 split at ax
 ·rename_i zn;have hn:n=0:=by
   have:n*s=0:=by rw[← aR];exact zn
   rcases Nat.mul_eq_zero.1 this with h|h<;>omega
  subst hn;have cH:mQ=[]:=List.eq_nil_of_length_eq_zero (by simpa using qQ);subst cH;split at ax<;>first|(cases ax;done)|skip
  rename_i p k c;cases ax;have hJ:∃ pC fl,ev xs=.slice pC k fl∧k≤fl:=by
   generalize ev xs=y at *;cases ai with
   |same _ h =>
    cases p with
    |none=>unfold Value.plain at h;split at h<;>first|(rename_i az;cases az;exact⟨_,_,rfl,br _⟩)|(rename_i az;cases az)|cases h
    |some p=>simp[Value.plain]at h
   |slice id off eW len s cap l h ag ah=>exact⟨_,_,rfl,ag⟩
   |clip=>exact⟨_,_,rfl,br _⟩
  obtain⟨pC,fl,az,Sd⟩:=hJ;have e4:=IX (P:=P) (ty:=ty) aC hu ak lv pC k fl (by omega);refine⟨ev xs,al,w,?_,fj.refl _ _ _,ai,b1.congr aM (over_self bv),gi.refl _ _⟩;rw[az,e4];cases pC<;>simp[storeCells]
 ·rename_i cH;have hn:0<n:=Nat.pos_of_ne_zero fun e=>cH (by rw[aR,e];simp);split at ax<;>first|(cases ax;done)|skip
  ·split at ax<;>first|(cases ax;done)|skip
   rename_i jF;rw[ta]at jF ax;cases ax;have az:=ai.BO;have:=C2 none 0 0 [] [] h az (by simp[Builtin.firstCells]) .nil (by simp) (by simp) (by omega) (by omega) (by simpa using jF.1) rfl G aM (zQ bv _) bZ;simpa using this
  ·rename_i id k a8;split at ax<;>first|(cases ax;done)|skip
   rename_i cells Yh as5 k5;split at ax<;>first|(cases ax;done)|skip
   rename_i jF;obtain⟨rfl,rfl,eY,s8,tV⟩:=jF;rw[ta]at s8 tV ax;cases ax;obtain⟨l,eW,cap,ag,az,Sd,nl⟩:=ai.vX;have k3:=bv id _ k5;have qS:=aM.obj id _ l k3 ag;have ajC:=qS;obtain⟨Kj,ck,_,_,_,_,_,_⟩:=ajC;obtain⟨cs,el,fz,A,S,ae,aB,aG,a1⟩:=wA (MT qS);have cm:=ck;rw[A]at cm;obtain⟨rfl,rfl,rfl⟩:cs=Kj∧el=Yh∧fz=(0,0):=by simpa using cm
   clear cm;obtain⟨hJ,Dg,qL⟩:=a1 rfl
   try cases Dg
   have aV:=J.bY k5;have cQ:al h.next=none:=bZ _ (br _) (by simp);have kN:∀ o:bQ,∀ i,over ((h.set id .dead).alloc o) G i=fS (fS G id .dead) h.next o i:=fun o i=>by
    have:=over_self bv i;unfold over fS at *;rw[J.tR,J.qG];simp only[J.HL];by_cases aL:i=h.next
    ·simp[aL]
    ·by_cases bq:i=id
     ·subst bq;simp[aL,aV]
     ·simp[aL,bq,this]
   by_cases Bl:k+n≤cap
   · -- in place
    rcases nl with⟨rfl,rz⟩|⟨_,pZ⟩
    case inr=>omega
    rw[hJ]at az rz ae aB;simp only[zS,List.drop_zero,Gr]at az rz ae aB;have Sf:(k+n)*a8≤cap*a8:=HA _ Bl;rw[Nat.add_mul]at Sf;have SE:∀ c∈mQ,c.oneCell'=true:=fun c aj=>by
     obtain⟨i,au⟩:=Gm.1 aj;have lo:i<fG.length:=by rw[il.length];exact(j2.1 au).1
     obtain⟨fl,j8,hr⟩:=il.get i _ (hi lo);rw[au]at j8;cases j8;rw[bL.Up hr];exact oI _ (Lr lo)
    have dS:=run_storeCells_at P l.b (k*a8) el mQ 0 cs w A (by rw[qQ];omega) SE;have e4:=IX (P:=P) (ty:=ty) aC hu ak lv (some ⟨l.b,0,none⟩) k cap Bl;simp only[Addr.wx,zS,Gr]at e4 dS;rw[dS]at e4;let new:Array Value:=(cs.toList.take (k*a8)++mQ++cs.toList.drop (k*a8+mQ.length)).toArray;have c9:new.size=cs.size:=by simp[new];omega
    refine⟨_,al.put h.next l,w.setRow l.b new,by rw[az];exact e4,by simp only[J.zN,J.HL];exact fj.put _ _ _,?_,?_,?_⟩
    ·exact .slice h.next 0 0 (k+n) a8 cap l (by simp[Ren.put]) Bl (.inl ⟨by simp[hJ],by rw[hJ];omega⟩)
    ·refine b1.congr (aM.move id h.next _ (.gg (cells++fG) el false) l k3 ag cQ rfl (setRow_size _ _ _) (fun b T=>setRow_other w l.b b _ T) (WN (cs:=new) ?_ (setRow_heap w l.b cs _ el _ A) (fun aZ=>by cases aZ))) (kN _);refine⟨new,el,(0,0),setRow_heap w l.b cs _ el _ A,by rw[c9];exact S,by rw[hJ,c9,ap,eY,aR];omega,fun i v ad=>?_,fun _=>⟨hJ,rfl,qL⟩⟩;rw[hJ,zS];have SN:be al (cells++fG) (cs.toList.take cells.length++mQ):=aB.append il;obtain⟨v',fV,hr⟩:=SN.get i v ad;refine⟨v',?_,bL.mono (Ren.vG cQ l) hr,?_⟩
     ·have au:=(j2.1 fV).1;simp only[new,List.getElem?_toArray];rw[eY]at fV;rw[PF (by simp at au ⊢;omega)];exact fV
     ·rcases Aa.1 (List.mem_of_getElem? ad) with hm|hm
      ·exact aG v hm
      ·exact oI v hm
    ·exact⟨by simp,fun b T=>setRow_other w l.b b _ (by omega),rfl,rfl,rfl,fun a _=>Fw w l.b _ a⟩
   · -- a new block
    have gF:∃ jV,(Builtin.firstCells a8 k (.slice (some ⟨l.b,eW,none⟩) k cap)).run P w.drew=.ok (List.toArray jV) w.drew∧be al cells jV:=by
     rcases nl with⟨rfl,rz⟩|⟨rfl,_⟩
     ·rw[hJ]at ae aB rz ⊢;simp only[zS,List.drop_zero,Gr]at ae aB rz ⊢;refine⟨cs.toList.take cells.length,?_,aB⟩;simp only[Builtin.firstCells];have:=DU (P:=P) (w:=w.drew) (b:=l.b) (o:=0) (n:=k*a8) (cs:=cs) (el:=el) (fz:=(0,0)) A (by omega);rw[this,eY];simp
     ·have:cells=[]:=List.eq_nil_of_length_eq_zero (by simpa using eY);subst this;exact⟨[],by simp[Builtin.firstCells,loadCells,loadCellsFrom],.nil⟩
    obtain⟨jV,gF,hV⟩:=gF;exact C2 (some ⟨l.b,eW,none⟩) k cap cells jV (h.set id .dead) az gF hV aG eY (by omega) (by omega) s8 rfl _ (aM.kill id (by rw[k3];rfl)) (kN _) bZ
theorem W7:∀ {cs:ar}{l:aD},yn cs=some l→cs=l.map fun b=>Value.int .u8 b.toNat
 |[],l,h=>by cases h;rfl
 |c::r,l,h=>by
  unfold yn at h;split at h<;>first|(rename_i dK;cases dK;done)|(cases h;done)|skip
  rename_i n dL dK;cases dK;split at h<;>first|(cases h;done)|skip
  rename_i hn;cases hr:yn r with
  |none=>rw[hr]at h;cases h
  |some m =>
   rw[hr]at h;cases h;rw[W7 hr];obtain⟨k,rfl⟩:∃ k:Nat,n=k:=⟨n.toNat,by omega⟩;have ab:k<256:=by omega
   simp[Nat.mod_eq_of_lt ab]
theorem be.aeb{al:Ren}:∀ {l:aD}{m:ar},be al (l.map fun b=>Value.int .u8 b.toNat) m→m=l.map fun b=>Value.int .u8 b.toNat
 |[],m,h=>by cases h;rfl
 |b::l,m,h=>by
  cases h with
  |cons _ _ _ _ h hr=>rw[h.int,be.aeb hr];rfl
theorem ai3{w:World}{g n:Nat}{a:Addr}(h:a.block≠g):(w.freeze ⟨g,0,none⟩ n).frozen? a=w.frozen? a:=by
 have cp:(w.freeze ⟨g,0,none⟩ n).heap[a.block]?=w.heap[a.block]?:=by
  unfold World.freeze;split
  ·rfl
  ·simp only[Array.getElem?_modify];rw[if_neg (fun e=>h e.symm)]
 simp only[World.frozen?,cp]
theorem ar5{qd it ty e:TypeId}{hw Ai:Operand}(hp:P.underlying qd=some (.pointer e))(aj:P.cellsOf e=1){vs:ar}(ad:be al vs ([hw,Ai].map ev)){base:Nat}{G:Nat→Option bQ}{w:World}(aM:b1 base G al w)
  {h D:J}(bv:h.hX G){v:Value}(ax:Ck e h vs=some (v,D)) :
  ∃ v' w',(Builtin.unsafeString_ #[qd,it] ty #[ev hw,ev Ai]).run P w=.ok v' w'∧lh base G al w h D v v' al w':=by
 obtain⟨a,x,rfl,ai,af⟩:=be.mW ad;unfold Ck at ax;split at ax<;>first|(cases ax;done)|skip
 ·rename_i dK;cases dK;cases ax;have az:ev hw=.pointer none:=by
   generalize ev hw=z at *;cases ai with
   |same _ h=>rfl
  have aL:=af.int;refine⟨_,w,?_,fj.refl _ _ _,.same _ rfl,b1.congr aM (over_self bv),gi.refl _ _⟩;rw[az,aL];have dR:Builtin.unsafeString_ #[qd,it] ty #[.pointer none,.int .i64 0] =
    (do
     let n ← asInt (.int .i64 0)
     if n < 0 then runtimePanic (.error "unsafe.String: len out of range")
     if n > IntKind.i64.max then unsupported (.unsafePointer "String: a length above the largest int")
     if n=0 then pure (.string .empty)
     else runtimePanic (.error "unsafe.String: ptr is nil and len is not zero")) := rfl
  rw[dR];have aju:IntKind.i64.max=9223372036854775807:=rfl;simp[asInt,asIntOf,aju]
 ·rename_i id n dK;cases dK;split at ax<;>first|(cases ax;done)|skip
  rename_i cells cA li k5;split at ax<;>first|(cases ax;done)|skip
  rename_i jF;obtain⟨rfl,j9,SB,tV⟩:=jF;cases T:yn (cells.take n.toNat) with
  |none=>rw[T]at ax;cases ax
  |some l =>
   rw[T]at ax;cases ax;have k3:=bv id _ k5;obtain⟨fs,ag,az⟩:=ai.sI;have aL:=af.int;have qS:=aM.obj id _ fs k3 ag;obtain⟨cs,g1,g2,g3,g4,_,g6,g7⟩:=qS;obtain⟨XW,arZ,as7,ck,_,cb,eC,_,_⟩:=wA (MT (aM.obj id _ fs k3 ag));rw[g1]at ck;cases ck;rw[g6]at cb eC az;simp only[zS,List.drop_zero,Gr]at cb eC az;have hA:=W7 T;have A:=eC.take n.toNat;rw[hA,List.take_take]at A;have S:=A.aeb;have Gy:l.length=n.toNat:=by
    have:=congrArg List.length hA;simp at this;omega
   have eY:∀ j y,l[j]?=some y→w.cell? ((⟨fs.b,0,none⟩:Addr).add j)=some (.int .u8 y.toNat):=fun j y bn=>by
    rw[Addr.wx,cell_of_row w fs.b _ cs _ _ g1];have asz:j<n.toNat:=by rw[← Gy];exact(j2.1 bn).1
    have:=congrArg (·[j]?) S;simp only[NA,bn,N6]at this;rw[PI (by omega)]at this;simpa using this
   have e4:=Lib.run_unsafeString_row (P:=P) w qd it ty cA hp aj fs.b cs.size (by simp[World.shape?,g1]) l (fun h=>by rw[h]at Gy;simp at Gy;omega) (by omega) (by omega) eY;have Zy:(l.length:Int)=n:=by omega
   refine⟨_,w.freeze ⟨fs.b,0,none⟩ l.length,?_,fj.refl _ _ _,.same _ rfl,?_,?_⟩
   ·rw[az,aL,← Zy];exact e4
   ·refine b1.congr (aM.write id _ .dead fs k3 ag rfl ?_ (fun b T=>?_) trivial) (D5 bv k5 _)
    ·unfold World.freeze;split<;>simp
    ·unfold World.freeze;split
     ·rfl
     ·simp only[Array.getElem?_modify];rw[if_neg (fun e=>T e.symm)]
   ·refine⟨?_,fun b T=>?_,?_,?_,?_,fun a ai=>ai3 (by omega)⟩
    ·unfold World.freeze;split<;>simp
    ·unfold World.freeze;split
     ·rfl
     ·simp only[Array.getElem?_modify];rw[if_neg (by omega)]
    all_goals (unfold World.freeze;split<;>rfl)
end Go.Eng
namespace Go.Eng
open Go
variable {P:Program}
inductive Arg where
 |t (d:Nat)|v (k:Nat)|c (x:Value)|f (i:FuncId)
 deriving Inhabited
def Arg.ev(ts env:ar):Arg→Option Value
 |.t d=>ts[d]?
 |.v k=>env[k]?
 |.c x=>some x
 |.f i=>some (.func (.func i) #[] #[])
def kE(ts env:ar):List Arg→Option (ar)
 |[]=>some []
 |s::r=>match s.ev ts env,kE ts env r with
  |some x,some l=>some (x::l)
  |_,_=>none
structure aF where
 j:Nat
 k:K
 args:List Arg
 g:Option (Nat × Bool)
 q:Bool
 deriving Inhabited
def K.cD:K→Bool
 |.w _|.call _|.rr|.tt=>true
 |_=>false
def K.dF:K→Bool
 |.r _=>true
 |_=>false
def hG(cI:Option Nat):Fence:={ Fence.wide with round:=cI }
def IM(P:Program)(du:Value)(args:ar)(h:J)(v:Value)(D:J):Prop :=
 h.step D∧∀(base:Nat) (G:Nat→Option bQ) (al:Ren) (w:World) (s2:Value) (gq:ar),h.hX G→jf al h.next D.next→b1 base G al w→bL al du s2→be al args gq →
  ∀(cI:Option Nat) (o:Oper) (a:Act) (next:Act→World→Prop) (Q:Exit→Act→World→Prop),(∀ v' bd w',lh base G al w h D v v' bd w'→next (a.put o.dst v') w') →
   o.uponIn (hG cI) 0 P a next Q ((do let d ← Deferred.ofValue s2 gq.toArray;invoke d.target d.args:Sem Next).run P w)
def Enters(P:Program)(f:FuncId):Prop:=∀ args w,(callFunc f args).run P w=.ok (.enter f args) w
def my(P:Program)(f:FuncId)(args:ar)(h:J)(v:Value)(D:J):Prop :=
 Enters P f∧h.step D∧∀(base:Nat) (G:Nat→Option bQ) (al:Ren) (w:World) (gq:ar),h.hX G→jf al h.next D.next→b1 base G al w→be al args gq →
  Calls P f gq.toArray w fun e w'=>∃ v' bd,e=.returned v'∧lh base G al w h D v v' bd w'
theorem my.val{f:FuncId}{first captured:Array Value}{args:ar}{h D:J}{v:Value}(aj:my P f (first.toList++args++captured.toList) h v D):IM P (.func (.func f) first captured) args h v D:=by
 refine⟨aj.2.1,fun base G al w s2 gq bv bZ aM A6 ct cI o a next Q hn=>?_⟩;obtain⟨a',fl,rfl,ai,A2⟩:=A6.KE;have F9:=aj.2.2 base G al w (a'++gq++fl) bv bZ aM ((ai.append ct).append A2);have e4:((do let d ← Deferred.ofValue (.func (.func f) a'.toArray fl.toArray) gq.toArray;invoke d.target d.args:Sem Next).run P w)=.ok (.enter f (a'++gq++fl).toArray) w:=by
  simp only[Deferred.ofValue,Sem.run_bind,Sem.run_pure,Result.andThen_ok,invoke];rw[aj.1];simp
 rw[e4,Oper.uponIn_enter];refine⟨fun hd=>by simp[hG,Fence.wide]at hd,?_⟩;have S:CallsIn Fence.wide (0-1) P f (a'++gq++fl).toArray w (fun e w'=>∃ v' bd,e=.returned v'∧lh base G al w h D v v' bd w'):=callsIn_wide.2 F9;have ae:CallsIn (hG cI) (0-1) P f (a'++gq++fl).toArray w (fun e w'=>∃ v' bd,e=.returned v'∧lh base G al w h D v v' bd w'):=S;refine ae.mono fun e VB aK=>?_;obtain⟨v',bd,rfl,c6⟩:=aK;exact hn v' bd VB c6
def x1(P:Program)(k:K)(vs:ar)(h:J)(v:Value)(D:J):Prop :=
 match k with
 |.p k=>cr k vs=some v∧D=h
 |.r k=>aw k vs h.get=some v∧D=h
 |.a k=>∃ cells mk,o7 k vs=some (cells,mk)∧v=mk h.next∧D=h.alloc (.aq cells true)
 |.w k=>bh k vs h=some (v,D)
 |.call f=>my P f vs h v D
 |.rr=>match vs with|du::args=>IM P du args h v D|[]=>False
 |.tt=>False
def oy(g:Option (Nat × Bool))(ts:ar):Option Bool :=
 match g with
 |none=>some true
 |some (d,pI)=>(ts[d]?).map fun x=>match x with|.bool b=>b==pI|_=>false
def J.Fm(bb:List Nat)(h D:J):Prop:=∀ id o,id ∉ bb→h.get id=some o→D.get id=some o∨D.get id=some .dead
def Nz:ar→Option Nat
 |.pointer (some a)::_=>some a.block
 |.slice (some a) _ _::_=>some a.block
 |.map (some id)::_=>some id
 |_=>none
def vP(bb:List Nat)(vs:ar):Prop:=∀ id,Nz vs=some id→id ∉ bb
def pL(P:Program)(s:aF)(bb:List Nat)(ts env:ar)(h:J)(v:Value)(D:J)(ha:List Nat):Prop :=
 ∃ wb,oy s.g ts=some wb∧(∀ i∈bb,i∈ha) ∧
  if wb then ∃ vs,kE ts env s.args=some vs∧x1 P s.k vs h v D∧(s.q=true→h.Fm ha D)∧(s.k.dF=true→vP bb vs)
  else v=undef∧D=h
def sU(P:Program):List aF→List Nat→ar→ar→J→ar→J→Prop
 |[],_,ts,_,h,lG,D=>lG=ts∧D=h
 |s::r,bb,ts,env,h,lG,D=>∃ v A o5,pL P s bb ts env h v A o5∧sU P r o5 (v::ts) env A lG D
theorem J.step.refl(h:J):h.step h:=⟨br _,fun _ h=>h,fun _ _ h=>h,fun _ h=>h⟩
theorem J.step.trans{a b c:J}(h:a.step b)(D:b.step c):a.step c :=
 ⟨rI h.next D.next,fun id cQ=>D.gC id (h.gC id cQ),fun id ag hn=>D.back id (BS ag h.next) (h.back id ag hn),fun id hd=>D.k0 id (h.k0 id hd)⟩
theorem J.r0(h:J)(o:bQ):h.step (h.alloc o) :=
 ⟨by simp,fun id cQ=>by rw[J.tR];split<;>simp_all,fun id ag hn=>by rw[J.oH ag];exact hn,fun id hd=>by rw[J.oH (J.bY hd)];exact hd⟩
theorem J.xK{h:J}{i:Nat}{hE:bQ}(au:h.get i=some hE)(o:bQ)(cH:hE≠.k0):h.step (h.set i o) :=
 ⟨by simp,fun id cQ=>by rw[J.qG];split<;>simp_all,fun id ag hn=>by
  rw[J.qG];have:¬(id=i∧i<h.next):=fun e=>by rw[e.1,au]at hn;cases hn
  rw[if_neg this];exact hn,fun id hd=>by
  rw[J.qG];have:¬(id=i∧i<h.next):=fun e=>by rw[e.1,au]at hd;cases hd;exact cH rfl
  rw[if_neg this];exact hd⟩
theorem afd{k:CA}{vs:ar}{h D:J}{v:Value}(ax:bh k vs h=some (v,D)):h.step D:=by
 cases k with
 |store size =>
  simp only[bh]at ax;unfold cz at ax;split at ax<;>first|(cases ax;done)|skip
  split at ax<;>first|(cases ax;done)|skip
  all_goals
   rename_i aj;split at ax<;>first|(cases ax;done)|skip
   cases ax
   exact J.xK aj _ (by simp)
 |append size bytes =>
  simp only[bh]at ax;unfold o1 at ax;split at ax<;>first|(cases ax;done)|skip
  split at ax<;>first|(cases ax;done)|skip
  split at ax
  ·split at ax<;>first|(cases ax;done)|skip
   cases ax;exact J.step.refl _
  ·split at ax<;>first|(cases ax;done)|skip
   ·split at ax<;>first|(cases ax;done)|skip
    cases ax;exact J.r0 _ _
   ·split at ax<;>first|(cases ax;done)|skip
    split at ax<;>first|(cases ax;done)|skip
    cases ax;exact J.r0 _ _
   ·split at ax<;>first|(cases ax;done)|skip
    rename_i aj;split at ax<;>first|(cases ax;done)|skip
    cases ax
    exact(J.xK aj _ (by simp)).trans (J.r0 _ _)
 |mkMap =>
  cases vs with
  |nil=>simp only[bh]at ax;cases ax;exact J.r0 _ _
  |cons=>simp[bh]at ax
 |T2 fm =>
  simp only[bh]at ax;unfold M0 at ax;split at ax<;>first|(cases ax;done)|skip
  split at ax<;>first|(cases ax;done)|skip
  rename_i aj;split at ax<;>first|(cases ax;done)|skip
  cases ax
  exact J.xK aj _ (by simp)
 |QO s z =>
  simp only[bh]at ax;unfold MZ at ax;split at ax<;>first|(cases ax;done)|skip
  ·cases ax;exact J.step.refl _
  ·split at ax<;>first|(cases ax;done)|skip
   rename_i aj;split at ax<;>first|(cases ax;done)|skip
   cases ax
   exact J.xK aj _ (by simp)
 |Es =>
  simp only[bh]at ax;split at ax<;>first|(cases ax;done)|contradiction|skip
  cases ax
  exact J.r0 _ _
 |Ue e cells =>
  cases vs with
  |nil=>simp only[bh]at ax;cases ax;exact J.r0 _ _
  |cons=>simp[bh]at ax
 |EX e =>
  cases vs with
  |nil=>simp[bh]at ax
  |cons v r=>cases r with
   |nil =>
    simp only[bh]at ax;split at ax<;>first|(cases ax;done)|skip
    cases ax;exact J.r0 _ _
   |cons=>simp[bh]at ax
 |EQ e bytes =>
  simp only[bh]at ax;unfold Ag at ax;split at ax<;>first|(cases ax;done)|skip
  split at ax<;>first|(cases ax;done)|skip
  split at ax
  ·split at ax<;>first|(cases ax;done)|skip
   cases ax;exact J.step.refl _
  ·split at ax<;>first|(cases ax;done)|skip
   ·split at ax<;>first|(cases ax;done)|skip
    cases ax;exact J.r0 _ _
   ·split at ax<;>first|(cases ax;done)|skip
    rename_i aj;split at ax<;>first|(cases ax;done)|skip
    cases ax
    exact(J.xK aj _ (by simp)).trans (J.r0 _ _)
 |MX e =>
  simp only[bh]at ax;unfold Ck at ax;split at ax<;>first|(cases ax;done)|skip
  ·cases ax;exact J.step.refl _
  ·split at ax<;>first|(cases ax;done)|skip
   rename_i aj;split at ax<;>first|(cases ax;done)|skip
   obtain⟨l,_,aK⟩:=Option.map_eq_some_iff.1 ax;cases aK;exact J.xK aj _ (by simp)
theorem x1.step{k:K}{vs:ar}{h D:J}{v:Value}(ai:x1 P k vs h v D):h.step D:=by
 unfold x1 at ai;split at ai
 ·rw[ai.2];exact J.step.refl _
 ·rw[ai.2];exact J.step.refl _
 ·obtain⟨cells,mk,_,_,rfl⟩:=ai;exact J.r0 _ _
 ·exact afd ai
 ·exact ai.2.1
 ·split at ai
  ·exact ai.1
  ·exact ai.elim
 ·exact ai.elim
theorem pL.step{s:aF}{bb ha:List Nat}{ts env:ar}{h D:J}{v:Value}(ah:pL P s bb ts env h v D ha):h.step D:=by
 obtain⟨wb,_,_,hd⟩:=ah;split at hd
 ·obtain⟨vs,_,ai,_⟩:=hd;exact ai.step
 ·rw[hd.2];exact J.step.refl _
theorem sU.step:∀ {l:List aF}{bb:List Nat}{ts env:ar}{h D:J}{lG:ar},sU P l bb ts env h lG D→h.step D
 |[],_,_,_,_,_,_,h=>by rw[h.2];exact J.step.refl _
 |_::_,_,_,_,_,_,_,⟨_,_,_,ah,hr⟩=>ah.step.trans (sU.step hr)
end Go.Eng
namespace Go.Eng
open Go
variable {P:Program}
def ED(aQ:Array Oper)(a6:List aF)(vars:List Nat)(bI:Nat→List Nat)(p j:Nat)(x:Operand)(r:Arg):Prop :=
 match x,r with
 |.tmp t,.t d=>d<p∧∃ s o,a6[p-1-d]?=some s∧aQ[s.j]?=some o∧o.dst=some t∧s.j∈bI j
 |.tmp t,.v k=>vars[k]?=some t∧∀(i:Nat) o,aQ[i]?=some o→o.dst=some t→i=j∨j∈bI i
 |.const v,.c v'=>v=v'∧Value.plain v=true
 |.func f,.f oF=>f=oF
 |_,_=>False
def EH(aQ:Array Oper)(a6:List aF)(bI:Nat→List Nat)(p j:Nat)(g:Option (Nat × Bool))(r:Option (Nat × Bool)):Prop :=
 match g,r with
 |none,none=>True
 |some (j6,pI),some (d,aem)=>pI=aem∧d<p∧∃ s o t,a6[p-1-d]?=some s∧s.j=j6∧aQ[j6]?=some o∧o.dst=some t∧j6∈bI j
 |_,_=>False
inductive n1{c1 l5:Type}(R:c1→l5→Prop):List c1→List l5→Prop
 |nil:n1 R [] []
 |cons {a b l m}:R a b→n1 R l m→n1 R (a::l) (b::m)
structure II(P:Program)(N:Nat)(vars:List Nat)(aQ:Array Oper)(a6:List aF)(bI:Nat→List Nat):Prop where
 len:a6.length=aQ.size
 lt:∀(p:Nat) s,a6[p]?=some s→s.j<aQ.size
 place:∀ j,j<aQ.size→∃(p:Nat) (s:aF),a6[p]?=some s∧s.j=j
 inj:∀(p q:Nat) s a8,a6[p]?=some s→a6[q]?=some a8→s.j=a8.j→p=q
 dst:∀(i k:Nat) hE ok d,aQ[i]?=some hE→aQ[k]?=some ok→hE.dst=some d→ok.dst=some d→i=k
 ahj:∀(i:Nat) hE d,aQ[i]?=some hE→hE.dst=some d→d<N
 kind:∀(p:Nat) s o,a6[p]?=some s→aQ[s.j]?=some o→∃ xs,kindOf P o.op=some (s.k,xs)∧n1 (ED aQ a6 vars bI p s.j) xs s.args
 guard:∀(p:Nat) s o,a6[p]?=some s→aQ[s.j]?=some o→EH aQ a6 bI p s.j o.guard s.g
 Fe:∀(p q:Nat) s a8,a6[p]?=some s→s.k.cD=true→q<p→a6[q]?=some a8→a8.j∈bI s.j
 rd:∀(p q:Nat) s a8,a6[p]?=some s→s.k.dF=true→q<p→a6[q]?=some a8→a8.k.cD=true→a8.j∈bI s.j∨a8.q=true
def gK(vq:Nat→Value):Nat→ar
 |0=>[]
 |p+1=>vq p::gK vq p
theorem Ig(vq:Nat→Value):∀(p d:Nat),d<p→(gK vq p)[d]?=some (vq (p-1-d))
 |0,d,h=>by omega
 |p+1,0,_=>by simp[gK]
 |p+1,d+1,h=>by
  simp only[gK,List.getElem?_cons_succ];rw[Ig vq p d (by omega)]
  congr 2;omega
theorem v8{vq vq':Nat→Value}:∀(p:Nat),(∀ i,i<p→vq' i=vq i)→gK vq' p=gK vq p
 |0,_=>rfl
 |p+1,h=>by simp only[gK];rw[h p (by omega),v8 p fun i au=>h i (by omega)]
def IC(P:Program)(fP:Nat→Prop)(p:Nat)(s:aF)(bb:List Nat)(ts env:ar)(h:J)(v:Value)(D:J)(ha:List Nat):Prop :=
 (fP p∧pL P s bb ts env h v D ha)∨(¬ fP p∧h.step D∧h.ext D∧(s.k.cD=false→D=h)∧ha=bb)
def af5(P:Program)(a6:List aF)(env:ar)(ak:Nat→J)(vq:Nat→Value)(fP:Nat→Prop):Prop :=
 ∃ bG:Nat→List Nat,∀(p:Nat) s,a6[p]?=some s→IC P fP p s (bG p) (gK vq p) env (ak p) (vq p) (ak (p+1)) (bG (p+1))
theorem ad5{env:ar}:∀(l:List aF) (bb:List Nat) (k:Nat) (vq:Nat→Value) (h D:J) (lG:ar),sU P l bb (gK vq k) env h lG D →
  ∃(ak:Nat→J) (vq':Nat→Value) (bG:Nat→List Nat),(∀ i,i<k→vq' i=vq i)∧ak k=h∧ak (k+l.length)=D∧lG=gK vq' (k+l.length)∧bG k=bb ∧
   ∀(i:Nat) s,l[i]?=some s→pL P s (bG (k+i)) (gK vq' (k+i)) env (ak (k+i)) (vq' (k+i)) (ak (k+i+1)) (bG (k+i+1))
 |[],bb,k,vq,h,D,lG,hr=>⟨fun _=>h,vq,fun _=>bb,fun _ _=>rfl,rfl,hr.2.symm,by simpa using hr.1,rfl,fun i s ak=>by simp at ak⟩
 |s::r,bb,k,vq,h,D,lG,hr=>by
  obtain⟨v,A,o5,ah,hr⟩:=hr;let mv:Nat→Value:=fun i=>if i=k then v else vq i
  have az:gK mv (k+1)=v::gK vq k:=by
   simp only[gK,mv,if_true];rw[v8 (vq:=vq) (vq':=mv) k fun i au=>by simp[mv];omega]
  rw[← az]at hr;obtain⟨ak,vq',bG,ad,S,ae,aB,hd,aG⟩:=ad5 r o5 (k+1) mv A D lG hr;have Hb:vq' k=v:=by rw[ad k (by omega)];simp[mv]
  have qX:∀ i,i<k→vq' i=vq i:=fun i au=>by rw[ad i (by omega)];simp[mv];omega
  refine⟨fun i=>if i=k then h else ak i,vq',fun i=>if i=k then bb else bG i,qX,by simp,?_,?_,by simp,fun i a8 au=>?_⟩
  ·have:k+(s::r).length≠k:=by simp
   simp only[this,if_false];rw[← ae];congr 1;simp;omega
  ·rw[aB];congr 1;simp;omega
  ·cases i with
   |zero =>
    simp at au;subst au;have:k+0+1≠k:=by omega
    simp only[Gr,if_true,Hb];rw[v8 k qX,if_neg (by omega),if_neg (by omega),S,hd];exact ah
   |succ i =>
    have:=aG i a8 (by simpa using au);have aL:k+1+i=k+(i+1):=by omega
    rw[aL]at this;have hD:¬(k+(i+1)=k):=by omega
    have h9:¬(k+(i+1)+1=k):=by omega
    simp only[hD,h9,if_false];exact this
end Go.Eng
namespace Go.Eng
open Go
variable {P:Program}
section region
variable (aQ:Array Oper) (a6:List aF) (ak:Nat→J) (vq:Nat→Value) (env:ar) (vars:List Nat) (N:Nat)
variable (base:Nat) (eH:Nat→Option bQ) (fv:Ren) (eF:World) (a0:Act)
def aeW(ce:Nat→Prop)(b:Nat)(id:Nat)(o:bQ):Prop :=
 ∃(p:Nat) (s:aF),b≤p∧a6[p]?=some s∧ce s.j∧(ak p).next=id∧id<(ak (p+1)).next∧(ak (p+1)).get id=some o
def VO(ce:Nat→Prop)(b:Nat)(id:Nat)(o:bQ):Prop :=
 (ak b).get id=some o∨aeW a6 ak ce b id o∨((ak b).get id=none∧(id<(ak 0).next∨(ak a6.length).next≤id)∧eH id=some o)
structure sT(ce:Nat→Prop)(a:Act)(w:World)(b:Nat)(G:Nat→Option bQ)(al:Ren):Prop where
 ble:b≤a6.length
 r6:∀(p:Nat) s,a6[p]?=some s→s.k.cD=true→(ce s.j↔p<b)
 wz:∀(p:Nat) s,p<b→a6[p]?=some s→ce s.j
 ob:∀ id o,G id=some o↔VO a6 ak eH ce b id o
 agree:fj fv al (ak 0).next (ak a6.length).next
 fI:b1 base G al w
 step:gi base eF w
 size:a.tmps.size=N
 defers:a.defers=a0.defers
 tmps:∀(p:Nat) s o d,a6[p]?=some s→aQ[s.j]?=some o→o.dst=some d→ce s.j→∃ v',a.tmps[d]?=some v'∧bL al (vq p) v'
 vars:∀(k t:Nat) v,vars[k]?=some t→env[k]?=some v→(∀(i:Nat) o,aQ[i]?=some o→o.dst=some t→¬ ce i)→∃ v',a.tmps[t]?=some v'∧bL al v v'
def Inv(ce:Nat→Prop)(a:Act)(w:World):Prop:=∃ b G al,sT aQ a6 ak vq env vars N base eH fv eF a0 ce a w b G al
end region
structure h1(P:Program)(aQ:Array Oper)(a6:List aF)(bI:Nat→List Nat)(ak:Nat→J)(vq:Nat→Value)(env:ar)(vars:List Nat)(N:Nat)(base:Nat)(eH:Nat→Option bQ)(fv:Ren)(eF:World)(fP:Nat→Prop):Prop where
 ok:II P N vars aQ a6 bI
 run:af5 P a6 env ak vq fP
 hX:(ak 0).hX eH
 fresh:jf fv (ak 0).next (ak a6.length).next
 fI:b1 base eH fv eF
section
variable {aQ:Array Oper}{a6:List aF}{bI:Nat→List Nat}{ak:Nat→J}{vq:Nat→Value}{env:ar}{vars:List Nat}{N:Nat}{base:Nat}{eH:Nat→Option bQ}{fv:Ren}{eF:World}{a0:Act}
variable {fP:Nat→Prop}(C:h1 P aQ a6 bI ak vq env vars N base eH fv eF fP)
include C
theorem h1.Vc{p:Nat}(hp:p<a6.length):(ak p).step (ak (p+1)) :=
 C.run.elim fun _ hr=>(hr p a6[p] (hi hp)).elim (fun h=>h.2.step) fun h=>h.2.1
theorem h1.mono:∀ {p q:Nat},p≤q→q≤a6.length→(ak p).step (ak q):=by
 intro p q zf L;induction q with
 |zero =>
  obtain rfl:p=0:=by omega
  exact J.step.refl _
 |succ q ih =>
  by_cases e:p=q+1
  ·subst e;exact J.step.refl _
  ·exact(ih (by omega) (by omega)).trans (C.Vc (by omega))
theorem h1.calm{p:Nat}{s:aF}(hp:a6[p]?=some s)(aK:s.k.cD=false) :
  ak (p+1)=ak p∨∃ cells,ak (p+1)=(ak p).alloc (.aq cells true):=by
 obtain⟨bG,e4⟩:=C.run;rcases e4 p s hp with⟨_,wb,_,_,hd⟩|⟨_,_,_,hd,_⟩
 rotate_left
 ·exact .inl (hd aK)
 split at hd
 ·obtain⟨vs,_,ai,_⟩:=hd;unfold x1 at ai;split at ai
  ·exact .inl ai.2
  ·exact .inl ai.2
  ·obtain⟨cells,mk,_,_,h⟩:=ai;exact .inr ⟨cells,h⟩
  ·rename_i ab;rw[ab]at aK;simp[K.cD]at aK
  ·rename_i ab;rw[ab]at aK;simp[K.cD]at aK
  ·rename_i ab;rw[ab]at aK;simp[K.cD]at aK
  ·exact ai.elim
 ·exact .inl hd.2
theorem h1.Hj{ce:Nat→Prop}{a:Act}{w:World}{b:Nat}{G:Nat→Option bQ}{al:Ren}(bi:sT aQ a6 ak vq env vars N base eH fv eF a0 ce a w b G al) :
  ∀ {p:Nat},b≤p→p≤a6.length→(∀(q:Nat) s,b≤q→q<p→a6[q]?=some s→ce s.j∧s.k.cD=false)→(ak p).hX G:=by
 intro p mh hp gs;induction p with
 |zero =>
  obtain rfl:b=0:=by omega
  exact fun id o h=>(bi.ob id o).2 (.inl h)
 |succ p ih =>
  by_cases e:b=p+1
  ·subst e;exact fun id o h=>(bi.ob id o).2 (.inl h)
  ·have ih:=ih (by omega) (by omega) fun q s A S ae=>gs q s A (by omega) ae;have aA:=hi (show p<a6.length by omega);obtain⟨aM,iP⟩:=gs p _ (by omega) (by omega) aA;intro id o h;rcases C.calm aA iP with aj|⟨cells,aj⟩
   ·rw[aj]at h;exact ih id o h
   ·by_cases aL:id=(ak p).next
    ·exact(bi.ob id o).2 (.inr (.inl ⟨p,_,by omega,aA,aM,aL.symm,by rw[aj,aL];simp,h⟩))
    ·rw[aj,J.tR,if_neg aL]at h;exact ih id o h
theorem h1.KD{ce:Nat→Prop}{a:Act}{w:World}{b:Nat}{G:Nat→Option bQ}{al:Ren}(bi:sT aQ a6 ak vq env vars N base eH fv eF a0 ce a w b G al)
  {p:Nat}{s:aF}(hp:a6[p]?=some s) (mh:b≤p) (hn:¬ ce s.j):jf al (ak p).next (ak (p+1)).next:=by
 intro id A S;have aV:p<a6.length:=(j2.1 hp).1;have aiy:G id=none:=by
  cases bv:G id with
  |none=>rfl
  |some o =>
   exfalso;rcases(bi.ob id o).1 bv with h|⟨q,a8,mi,L,aM,cQ,y9,_⟩|⟨_,h,_⟩
   ·have:=J.bY h;have:=(C.mono mh (by omega)).next;omega
   ·have asN:q<a6.length:=(j2.1 L).1;rcases Nat.lt_trichotomy q p with h|h|h
    ·have:=(C.mono (show q+1≤p by omega) (by omega)).next;omega
    ·subst h;rw[hp]at L;cases L;exact hn aM
    ·have:=(C.mono (show p+1≤q by omega) (by omega)).next;omega
   ·have dP:=(C.mono (lj p) (by omega)).next;have a2:=(C.mono (show p+1≤a6.length by omega) (br _)).next;omega
 have:=bi.fI.gC id;rw[aiy]at this;cases hr:al id with
 |none=>rfl
 |some l=>rw[hr]at this;simp at this
omit C in
theorem h1.args{ce:Nat→Prop}{a:Act}{w:World}{b:Nat}{G:Nat→Option bQ}{al:Ren}(bi:sT aQ a6 ak vq env vars N base eH fv eF a0 ce a w b G al)
  {p:Nat}{j:Nat}(hn:¬ ce j) (fU:∀ i∈bI j,ce i) (eY:∀ i,ce i→∀ k∈bI i,ce k):∀ {xs:List Operand}{b3:List Arg},n1 (ED aQ a6 vars bI p j) xs b3→∀ {vs:ar},kE (gK vq p) env b3=some vs→be al vs (xs.map a.eval)
 |_,_,.nil,vs,h=>by cases h;exact .nil
 |x::xs,r::b3,.cons af hr,vs,h=>by
  simp only[kE]at h;split at h<;>first|(cases h;done)|skip
  rename_i v l ad ag;cases h;refine .cons _ _ _ _ ?_ (h1.args bi hn fU eY hr ag);unfold ED at af;split at af
  ·rename_i t d;obtain⟨hd,s,o,A,S,ae,aB⟩:=af;simp only[Arg.ev]at ad;rw[Ig vq p d hd]at ad;cases ad;obtain⟨v',aG,a1⟩:=bi.tmps _ s o t A S ae (fU _ aB);simp only[Act.eval];have:a.tmps.getD t undef=v':=by simp[lF,aG]
   rw[this];exact a1
  ·rename_i t k;obtain⟨A,S⟩:=af;simp only[Arg.ev]at ad;obtain⟨v',aG,a1⟩:=bi.vars k t v A ad fun i o au ah aM=>by
    rcases S i o au ah with rfl|h
    ·exact hn aM
    ·exact hn (eY i aM j h)
   simp only[Act.eval];have:a.tmps.getD t undef=v':=by simp[lF,aG]
   rw[this];exact a1
  ·obtain⟨rfl,S⟩:=af;simp only[Arg.ev]at ad;cases ad;exact .same _ S
  ·subst af;simp only[Arg.ev]at ad;cases ad;exact .func _ [] [] [] [] .nil .nil
  ·exact af.elim
omit C in
theorem h1.wanted{ce:Nat→Prop}{a:Act}{w:World}{b:Nat}{G:Nat→Option bQ}{al:Ren}(bi:sT aQ a6 ak vq env vars N base eH fv eF a0 ce a w b G al)
  {p j:Nat}(fU:∀ i∈bI j,ce i){o:Oper}{g:Option (Nat × Bool)}(aA:EH aQ a6 bI p j o.guard g){wb:Bool}(ax:oy g (gK vq p)=some wb):Region.wanted o (yielded aQ a.tmps)=wb:=by
 unfold EH at aA;split at aA
 ·rename_i Sa;simp only[oy]at ax;cases ax;simp[Region.wanted,Sa]
 ·rename_i j6 pI d aem Sa;obtain⟨rfl,hd,s,gl,t,A,rfl,S,ae,aB⟩:=aA;simp only[oy]at ax;rw[Ig vq p d hd]at ax;simp at ax;obtain⟨v',aG,a1⟩:=bi.tmps _ s gl t A S ae (fU _ aB);simp only[Region.wanted,Sa,yielded,S,Option.bind_some,ae,aG];generalize vq (p-1-d)=x at *;rw[← ax];cases a1
  case same hpl=>cases v'<;>simp
  all_goals simp
 ·exact aA.elim
end
end Go.Eng
namespace Go.Eng
open Go
variable {P:Program}
theorem Act.qe{a:Act}{dst:Option Tmp}{v:Value}{d:Nat}(h:dst≠some d):(a.put dst v).tmps[d]?=a.tmps[d]?:=by
 cases dst with
 |none=>rfl
 |some t =>
  have:t≠d:=fun e=>h (by rw[e]);simp[Act.put,Array.getElem?_setIfInBounds_ne this]
theorem Act.zW{a:Act}{d:Nat}{v:Value}(h:d<a.tmps.size):(a.put (some d) v).tmps[d]?=some v:=by
 simp[Act.put,h]
theorem Act.zX(a:Act)(dst:Option Tmp)(v:Value):(a.put dst v).tmps.size=a.tmps.size:=by
 cases dst<;>simp[Act.put]
theorem Act.B1(a:Act)(dst:Option Tmp)(v:Value):(a.put dst v).defers=a.defers:=by
 cases dst<;>simp[Act.put]
section
variable {aQ:Array Oper}{a6:List aF}{bI:Nat→List Nat}{ak:Nat→J}{vq:Nat→Value}{env:ar}{vars:List Nat}{N:Nat}{base:Nat}{eH:Nat→Option bQ}{fv:Ren}{eF:World}{a0:Act}
variable {fP:Nat→Prop}(C:h1 P aQ a6 bI ak vq env vars N base eH fv eF fP)
include C
theorem h1.put{ce:Nat→Prop}{a:Act}{w:World}{b:Nat}{G:Nat→Option bQ}{al:Ren}(bi:sT aQ a6 ak vq env vars N base eH fv eF a0 ce a w b G al)
  {p:Nat}{s:aF}(hp:a6[p]?=some s){o:Oper}(ah:aQ[s.j]?=some o){b':Nat}{qo:Nat→Option bQ}{bd:Ren}{w':World}{v':Value}
  (T:b'≤a6.length) (aiJ:∀(q:Nat) a8,a6[q]?=some a8→a8.k.cD=true→((ce a8.j∨a8.j=s.j)↔q<b')) (aiK:∀(q:Nat) a8,q<b'→a6[q]?=some a8→ce a8.j∨a8.j=s.j)
  (aA:∀ id o,qo id=some o↔VO a6 ak eH (fun i=>ce i∨i=s.j) b' id o) (A0:fj fv bd (ak 0).next (ak a6.length).next) (bX:al.le bd) (iC:b1 base qo bd w') (dS:gi base w w') (ad:bL bd (vq p) v') :
  sT aQ a6 ak vq env vars N base eH fv eF a0 (fun i=>ce i∨i=s.j) (a.put o.dst v') w' b' qo bd where
 ble:=T
 r6:=aiJ
 wz:=aiK
 ob:=aA
 agree:=A0
 fI:=iC
 step:=bi.step.trans dS
 size:=by rw[Act.zX];exact bi.size
 defers:=by rw[Act.B1];exact bi.defers
 tmps:=fun q a8 gl d L lU hd aM=>by
  by_cases e:a8.j=s.j
  ·obtain rfl:=C.ok.inj q p a8 s L hp e;rw[hp]at L;cases L;rw[ah]at lU;cases lU;rw[hd];exact⟨v',Act.zW (by rw[bi.size];exact C.ok.ahj _ _ _ ah hd),ad⟩
  ·obtain⟨Vw,A,S⟩:=bi.tmps q a8 gl d L lU hd (aM.resolve_right e);refine⟨Vw,?_,bL.mono bX S⟩;rw[Act.qe fun GJ=>e (C.ok.dst _ _ _ _ _ lU ah hd GJ)];exact A
 vars:=fun k t v ab ajl b8=>by
  obtain⟨Vw,A,S⟩:=bi.vars k t v ab ajl fun i hE au ajD aM=>b8 i hE au ajD (.inl aM);refine⟨Vw,?_,bL.mono bX S⟩;rw[Act.qe fun GJ=>b8 _ _ ah GJ (.inr rfl)];exact A
theorem h1.same{ce:Nat→Prop}{a:Act}{w:World}{b:Nat}{G:Nat→Option bQ}{al:Ren}(bi:sT aQ a6 ak vq env vars N base eH fv eF a0 ce a w b G al)
  {p:Nat}{s:aF}(hp:a6[p]?=some s) (fU:∀ i∈bI s.j,ce i) (hn:¬ ce s.j){o:Oper}(ah:aQ[s.j]?=some o) (cp:ak (p+1)=ak p){v':Value}(ad:bL al (vq p) v') :
  Inv aQ a6 ak vq env vars N base eH fv eF a0 (fun i=>ce i∨i=s.j) (a.put o.dst v') w:=by
 have ze:p<a6.length:=(j2.1 hp).1;have mh:b≤p:=by
  rcases Dj p b with h|h
  ·exact absurd (bi.wz p s h hp) hn
  ·exact h
 by_cases aK:s.k.cD=true
 · -- an arV that is not arI out: all ahead of it vd XP up
  have gs:∀(q:Nat) a8,q<p→a6[q]?=some a8→ce a8.j:=fun q a8 L eh=>fU _ (C.ok.Fe p q s a8 hp aK L eh);have RL:∀(q:Nat) a8,b≤q→q<p→a6[q]?=some a8→ce a8.j∧a8.k.cD=false:=fun q a8 A S ae=>⟨gs q a8 S ae,by
   cases iP:a8.k.cD with
   |false=>rfl
   |true=>exact absurd ((bi.r6 q a8 ae iP).1 (gs q a8 S ae)) (by omega)⟩
  have vj:=C.Hj bi mh (by omega) RL;refine⟨p+1,G,al,C.put bi hp ah (by omega) (fun q a8 L iP=>?_) (fun q a8 L eh=>?_) (fun id sG=>?_) bi.agree (Ren.le_refl _) bi.fI (gi.refl _ _) ad⟩
  ·constructor
   ·rintro(h|h)
    ·have:=(bi.r6 q a8 L iP).1 h;omega
    ·have:=C.ok.inj q p a8 s L hp h;omega
   ·intro h;by_cases e:q=p
    ·subst e;rw[hp]at L;cases L;exact .inr rfl
    ·exact .inl (gs q a8 (by omega) L)
  ·by_cases e:q=p
   ·subst e;rw[hp]at eh;cases eh;exact .inr rfl
   ·exact .inl (gs q a8 (by omega) eh)
  ·rw[bi.ob];constructor
   ·rintro(h|⟨q,a8,mi,L,aM,A,S,ae⟩|⟨A,S,ae⟩)
    ·left;have aA:=(bi.ob id sG).2 (.inl h);have hd:=(C.mono mh (by omega)).gC id (by rw[h];rfl);cases af:(ak p).get id with
     |none=>rw[af]at hd;simp at hd
     |some cP=>rw[cp,af];have:=vj id cP af;rw[aA]at this;exact this.symm
    ·by_cases ls:q<p
     ·left;have aA:=(bi.ob id sG).2 (.inr (.inl ⟨q,a8,mi,L,aM,A,S,ae⟩));have hd:=(C.mono (show q+1≤p by omega) (by omega)).gC id (by rw[ae];rfl);cases af:(ak p).get id with
      |none=>rw[af]at hd;simp at hd
      |some cP=>rw[cp,af];have:=vj id cP af;rw[aA]at this;exact this.symm
     ·by_cases e:q=p
      ·subst e;rw[hp]at L;cases L;exact absurd aM hn
      ·exact .inr (.inl ⟨q,a8,by omega,L,.inl aM,A,S,ae⟩)
    ·right;right;refine⟨?_,S,ae⟩;rw[cp];cases af:(ak p).get id with
     |none=>rfl
     |some cP =>
      exfalso;have aV:=J.bY af;have hm:=(C.mono (show p≤a6.length by omega) (br _)).next;have ajr:id<(ak 0).next:=by omega
      cases h0:(ak 0).get id with
      |none=>have:=(C.mono (lj p) (by omega)).back id ajr h0;rw[af]at this;cases this
      |some gm=>have:=(C.mono (lj b) bi.ble).gC id (by rw[h0];rfl);rw[A]at this;simp at this
   ·rintro(h|⟨q,a8,mi,L,aM,A,S,ae⟩|⟨A,S,ae⟩)
    ·rw[cp]at h;exact(bi.ob id sG).1 (vj id sG h)
    ·rcases aM with aM|aM
     ·exact .inr (.inl ⟨q,a8,by omega,L,aM,A,S,ae⟩)
     ·have:=C.ok.inj q p a8 s L hp aM;omega
    ·right;right;refine⟨?_,S,ae⟩;cases af:(ak b).get id with
     |none=>rfl
     |some cP=>have:=(C.mono (show b≤p+1 by omega) (by omega)).gC id (by rw[af];rfl);rw[A]at this;simp at this
 ·have ass:s.k.cD=false:=by simpa using aK
  refine⟨b,G,al,C.put bi hp ah bi.ble (fun q a8 L iP=>?_) (fun q a8 L eh=>.inl (bi.wz q a8 L eh)) (fun id sG=>?_) bi.agree (Ren.le_refl _) bi.fI (gi.refl _ _) ad⟩
  ·constructor
   ·rintro(h|h)
    ·exact(bi.r6 q a8 L iP).1 h
    ·obtain rfl:=C.ok.inj q p a8 s L hp h;rw[hp]at L;cases L;exact absurd iP aK
   ·intro h;exact .inl ((bi.r6 q a8 L iP).2 h)
  ·rw[bi.ob];constructor
   ·rintro(h|⟨q,a8,mi,L,aM,A,S,ae⟩|h)
    ·exact .inl h
    ·exact .inr (.inl ⟨q,a8,mi,L,.inl aM,A,S,ae⟩)
    ·exact .inr (.inr h)
   ·rintro(h|⟨q,a8,mi,L,aM,A,S,ae⟩|h)
    ·exact .inl h
    ·rcases aM with aM|aM
     ·exact .inr (.inl ⟨q,a8,mi,L,aM,A,S,ae⟩)
     ·obtain rfl:=C.ok.inj q p a8 s L hp aM;rw[cp]at S;omega
    ·exact .inr (.inr h)
theorem h1.made{ce:Nat→Prop}{a:Act}{w:World}{b:Nat}{G:Nat→Option bQ}{al:Ren}(bi:sT aQ a6 ak vq env vars N base eH fv eF a0 ce a w b G al)
  {p:Nat}{s:aF}(hp:a6[p]?=some s) (hn:¬ ce s.j) (aK:s.k.cD=false){o:Oper}(ah:aQ[s.j]?=some o){cells:ar}(cp:ak (p+1)=(ak p).alloc (.aq cells true)){l:Loc}{v':Value}{w':World}
  (ad:bL (al.put (ak p).next l) (vq p) v') (aM:b1 base (fS G (ak p).next (.aq cells true)) (al.put (ak p).next l) w') (dS:gi base w w') :
  Inv aQ a6 ak vq env vars N base eH fv eF a0 (fun i=>ce i∨i=s.j) (a.put o.dst v') w':=by
 have ze:p<a6.length:=(j2.1 hp).1;have mh:b≤p:=by
  rcases Dj p b with h|h
  ·exact absurd (bi.wz p s h hp) hn
  ·exact h
 have bZ:=C.KD bi hp mh hn;have cQ:al (ak p).next=none:=bZ _ (br _) (by rw[cp];simp);have Y2:G (ak p).next=none:=by
  have:=bi.fI.gC (ak p).next;rw[cQ]at this;cases af:G (ak p).next with
  |none=>rfl
  |some _=>rw[af]at this;simp at this
 have m0:=(C.mono (lj p) (by omega)).next;have m1:=(C.mono (show p+1≤a6.length by omega) (br _)).next;rw[cp]at m1;simp only[J.zN]at m1;refine⟨b,_,_,C.put bi hp ah bi.ble (fun q a8 L iP=>?_) (fun q a8 L eh=>.inl (bi.wz q a8 L eh)) (fun id sG=>?_) (fun id y9=>?_) (Ren.vG cQ l) aM dS ad⟩
 ·constructor
  ·rintro(h|h)
   ·exact(bi.r6 q a8 L iP).1 h
   ·obtain rfl:=C.ok.inj q p a8 s L hp h;rw[hp]at L;cases L;rw[iP]at aK;cases aK
  ·intro h;exact .inl ((bi.r6 q a8 L iP).2 h)
 ·unfold fS;by_cases e:id=(ak p).next
  ·subst e;simp only[if_true];constructor
   ·intro h;cases h;exact .inr (.inl ⟨p,s,mh,hp,.inr rfl,rfl,by rw[cp];simp,by rw[cp];simp⟩)
   ·rintro(h|⟨q,a8,mi,L,aM,A,S,ae⟩|⟨A,S,ae⟩)
    ·have:=(bi.ob _ sG).2 (.inl h);rw[Y2]at this;cases this
    ·rcases aM with aM|aM
     ·have:=(bi.ob _ sG).2 (.inr (.inl ⟨q,a8,mi,L,aM,A,S,ae⟩));rw[Y2]at this;cases this
     ·obtain rfl:=C.ok.inj q p a8 s L hp aM;rw[cp]at ae;simpa using ae
    ·omega
  ·rw[if_neg e,bi.ob];constructor
   ·rintro(h|⟨q,a8,mi,L,aM,A,S,ae⟩|h)
    ·exact .inl h
    ·exact .inr (.inl ⟨q,a8,mi,L,.inl aM,A,S,ae⟩)
    ·exact .inr (.inr h)
   ·rintro(h|⟨q,a8,mi,L,aM,A,S,ae⟩|h)
    ·exact .inl h
    ·rcases aM with aM|aM
     ·exact .inr (.inl ⟨q,a8,mi,L,aM,A,S,ae⟩)
     ·obtain rfl:=C.ok.inj q p a8 s L hp aM;exact absurd A.symm e
    ·exact .inr (.inr h)
 ·have:id≠(ak p).next:=by omega
  simp only[Ren.put,this,if_false];exact bi.agree id y9
theorem h1.done{ce:Nat→Prop}{a:Act}{w:World}{b:Nat}{G:Nat→Option bQ}{al:Ren}(bi:sT aQ a6 ak vq env vars N base eH fv eF a0 ce a w b G al)
  {p:Nat}{s:aF}(hp:a6[p]?=some s) (fU:∀ i∈bI s.j,ce i) (hn:¬ ce s.j) (aK:s.k.cD=true){o:Oper}(ah:aQ[s.j]?=some o){bd:Ren}{v':Value}{w':World}
  (c6:lh base G al w (ak p) (ak (p+1)) (vq p) v' bd w') :
  Inv aQ a6 ak vq env vars N base eH fv eF a0 (fun i=>ce i∨i=s.j) (a.put o.dst v') w':=by
 have ze:p<a6.length:=(j2.1 hp).1;have mh:b≤p:=by
  rcases Dj p b with h|h
  ·exact absurd (bi.wz p s h hp) hn
  ·exact h
 have gs:∀(q:Nat) a8,q<p→a6[q]?=some a8→ce a8.j:=fun q a8 L eh=>fU _ (C.ok.Fe p q s a8 hp aK L eh);have RL:∀(q:Nat) a8,b≤q→q<p→a6[q]?=some a8→ce a8.j∧a8.k.cD=false:=fun q a8 A S ae=>⟨gs q a8 S ae,by
  cases iP:a8.k.cD with
  |false=>rfl
  |true=>exact absurd ((bi.r6 q a8 ae iP).1 (gs q a8 S ae)) (by omega)⟩
 have vj:=C.Hj bi mh (by omega) RL;have bZ:=C.KD bi hp mh hn;have m0:=(C.mono (lj p) (by omega)).next;have m1:=(C.mono (show p+1≤a6.length by omega) (br _)).next;have m2:=(C.Vc ze).next;refine⟨p+1,_,_,C.put bi hp ah (by omega) (fun q a8 L iP=>?_) (fun q a8 L eh=>?_) (fun id sG=>?_) (fun id y9=>?_) (c6.agree.le bZ) c6.fI c6.step c6.val⟩
 ·constructor
  ·rintro(h|h)
   ·have:=(bi.r6 q a8 L iP).1 h;omega
   ·have:=C.ok.inj q p a8 s L hp h;omega
  ·intro h;by_cases e:q=p
   ·subst e;rw[hp]at L;cases L;exact .inr rfl
   ·exact .inl (gs q a8 (by omega) L)
 ·by_cases e:q=p
  ·subst e;rw[hp]at eh;cases eh;exact .inr rfl
  ·exact .inl (gs q a8 (by omega) eh)
 ·unfold over;cases af:(ak (p+1)).get id with
  |some cP =>
   simp only[Option.some_or];constructor
   ·intro h;cases h;exact .inl af
   ·rintro(h|⟨q,a8,mi,L,aM,A,S,ae⟩|⟨A,S,ae⟩)
    ·rw[af]at h;exact h
    ·have:=J.bY af;have:=(C.mono mi (by have:=(j2.1 L).1;omega)).next;omega
    ·rw[af]at A;cases A
  |none =>
   simp only[Option.none_or];rw[bi.ob];have vv:(ak p).get id=none:=by
    cases bw:(ak p).get id with
    |none=>rfl
    |some cP=>have:=(C.Vc ze).gC id (by rw[bw];rfl);rw[af]at this;simp at this
   constructor
   ·rintro(h|⟨q,a8,mi,L,aM,A,S,ae⟩|⟨A,S,ae⟩)
    ·have:=(C.mono mh (by omega)).gC id (by rw[h];rfl);rw[vv]at this;simp at this
    ·by_cases ls:q<p
     ·have:=(C.mono (show q+1≤p by omega) (by omega)).gC id (by rw[ae];rfl);rw[vv]at this;simp at this
     ·by_cases e:q=p
      ·subst e;rw[hp]at L;cases L;exact absurd aM hn
      ·exact .inr (.inl ⟨q,a8,by omega,L,.inl aM,A,S,ae⟩)
    ·exact .inr (.inr ⟨af,S,ae⟩)
   ·rintro(h|⟨q,a8,mi,L,aM,A,S,ae⟩|⟨A,S,ae⟩)
    ·rw[af]at h;cases h
    ·rcases aM with aM|aM
     ·exact .inr (.inl ⟨q,a8,by omega,L,aM,A,S,ae⟩)
     ·have:=C.ok.inj q p a8 s L hp aM;omega
    ·refine .inr (.inr ⟨?_,S,ae⟩);cases bw:(ak b).get id with
     |none=>rfl
     |some cP=>have:=(C.mono mh (by omega)).gC id (by rw[bw];rfl);rw[vv]at this;simp at this
 ·rw[c6.agree id (by omega)];exact bi.agree id y9
end
end Go.Eng
namespace Go.Eng
open Go
variable {P:Program}
theorem VH{al:Ren}{ev:Operand→Value}{op:Op}{k:CA}{xs:List Operand}(ab:kindOf P op=some (.w k,xs)){vs:ar}(ad:be al vs (xs.map ev)){base:Nat}{G:Nat→Option bQ}{w:World}(aM:b1 base G al w){h D:J}(bv:h.hX G)
  {v:Value}(ax:bh k vs h=some (v,D)) (bZ:jf al h.next D.next):∃ v' bd w',Leaves P ev op w v' w'∧lh base G al w h D v v' bd w':=by
 cases op with
 |store t a x =>
  simp only[kindOf]at ab;cases ak:gJ P t with
  |none=>rw[ak]at ab;cases ab
  |some s =>
   rw[ak]at ab;cases ab;obtain⟨w',A,S⟩:=aqt ak ad aM bv ax;exact⟨_,_,w',A,S⟩
 |call c =>
  simp only[kindOf,zA]at ab;split at ab
  ·unfold zD zE at ab
   (repeat' split at ab)<;>first|(cases ab;done)|(simp at ab;done)
  ·rename_i gu;unfold zz at ab;split at ab<;>first|(cases ab;done)|skip
   rename_i xX o2 t u ct kb;have c8:c.args=#[xX,o2]:=by rw[← Lz];exact ct
   have b6:c.argTypes=#[t,u]:=by rw[← Lz];exact kb
   split at ab<;>first|(cases ab;done)|skip
   rename_i e aC;split at ab<;>first|(cases ab;done)|skip
   rename_i s b z ak T bp;split at ab<;>first|(cases ab;done)|skip
   rename_i jF;obtain⟨pl,lu,hu⟩:=jF;have st:(∃ f,P.underlying u=some (.slice f))∨P.underlying u=some .string:=by
    unfold ady at hu;split at hu
    ·rename_i f aZ;exact .inl ⟨f,aZ⟩
    ·rename_i aZ;exact .inr aZ
    ·cases hu
   split at ab
   ·rename_i jj;obtain⟨rfl,_⟩:=jj;cases ab;obtain⟨v',bd,w',A,S⟩:=afr (P:=P) (ty:=0) aC st ak T bp pl lu ad aM bv ax bZ;refine⟨v',bd,w',fun o ah=>.inl ?_,S⟩;have ae:∀ ty,(Builtin.append_ #[t,u] ty #[ev xX,ev o2])=(Builtin.append_ #[t,u] 0 #[ev xX,ev o2]):=fun ty=>rfl;simp only[execOp,ah,resolve,gu,c8,b6,Sem.run_bind,Sem.run_pure,Result.andThen_ok,invoke,builtin];rw[show(#[xX,o2]:Array Operand).map ev=#[ev xX,ev o2] by simp,ae,A];rfl
   cases ab
   obtain⟨v',bd,w',A,S⟩:=afs (P:=P) (ty:=0) aC st ak T bp pl lu ad aM bv ax bZ;refine⟨v',bd,w',fun o ah=>.inl ?_,S⟩;have ae:∀ ty,(Builtin.append_ #[t,u] ty #[ev xX,ev o2])=(Builtin.append_ #[t,u] 0 #[ev xX,ev o2]):=fun ty=>rfl;simp only[execOp,ah,resolve,gu,c8,b6,Sem.run_bind,Sem.run_pure,Result.andThen_ok,invoke,builtin];rw[show(#[xX,o2]:Array Operand).map ev=#[ev xX,ev o2] by simp,ae,A];rfl
  ·unfold sB at ab;(repeat' split at ab)<;>first|(cases ab;done)|(simp at ab;done)
  ·unfold sB at ab;(repeat' split at ab)<;>first|(cases ab;done)|(simp at ab;done)
  ·rename_i gu;unfold zB at ab;split at ab<;>first|(cases ab;done)|skip
   rename_i x0 t0 ct kb;have c8:c.args=#[x0]:=by rw[← Lz];exact ct
   have b6:c.argTypes=#[t0]:=by rw[← Lz];exact kb
   split at ab<;>first|(cases ab;done)|skip
   rename_i e aC;split at ab<;>first|(cases ab;done)|skip
   rename_i s z ak bp;split at ab<;>first|(cases ab;done)|skip
   rename_i pl;cases ab;obtain⟨w',A,h0,S⟩:=agF (P:=P) (ty:=0) aC bp pl ad aM bv ax;refine⟨.tuple #[],al,w',fun o ah=>.inl ?_,S⟩;have ae:∀ ty,(Builtin.clear_ #[t0] ty #[ev x0])=(Builtin.clear_ #[t0] 0 #[ev x0]):=fun ty=>rfl;simp only[execOp,ah,resolve,gu,c8,b6,Sem.run_bind,Sem.run_pure,Result.andThen_ok,invoke,builtin];rw[show(#[x0]:Array Operand).map ev=#[ev x0] by simp,ae,A];rfl
  ·unfold zF at ab;(repeat' split at ab)<;>first|(cases ab;done)|(simp at ab;done)
  ·rename_i gu;unfold zG at ab;split at ab<;>first|(cases ab;done)|skip
   rename_i hw Ai qd it ct kb;have c8:c.args=#[hw,Ai]:=by rw[← Lz];exact ct
   have b6:c.argTypes=#[qd,it]:=by rw[← Lz];exact kb
   split at ab<;>first|(cases ab;done)|skip
   rename_i e hp;split at ab<;>first|(cases ab;done)|skip
   rename_i k4;cases ab;obtain⟨v',w',A,S⟩:=ar5 (P:=P) (it:=it) (ty:=0) hp k4 ad aM bv ax;refine⟨v',al,w',fun o ah=>.inl ?_,S⟩;have ae:∀ ty,(Builtin.unsafeString_ #[qd,it] ty #[ev hw,ev Ai])=(Builtin.unsafeString_ #[qd,it] 0 #[ev hw,ev Ai]):=fun ty=>rfl;simp only[execOp,ah,resolve,gu,c8,b6,Sem.run_bind,Sem.run_pure,Result.andThen_ok,invoke,builtin];rw[show(#[hw,Ai]:Array Operand).map ev=#[ev hw,ev Ai] by simp,ae,A];rfl
  ·cases ab
  ·(repeat' split at ab)<;>cases ab
  ·cases ab
  ·cases ab
 |convert s d x =>
  simp only[kindOf]at ab;split at ab
  ·cases ab
  ·cases ab
  ·rename_i e A S;split at ab<;>first|(cases ab;done)|skip
   rename_i ae;cases ab;exact aqx A S ae ad aM bv ax bZ
  ·(repeat' split at ab)<;>cases ab
  ·unfold BG at ab;split at ab<;>cases ab
  ·unfold BE at ab;split at ab<;>cases ab
  ·cases ab
 |alloc e =>
  simp only[kindOf,xo]at ab;cases bp:oz P e with
  |none=>rw[bp]at ab;cases ab
  |some z =>
   rw[bp,N6]at ab;split at ab<;>first|(cases ab;done)|skip
   cases ab
   cases ad
   simp only[bh]at ax;cases ax;obtain⟨eL,A,S,ae,aB⟩:=wj bp;have cQ:al h.next=none:=bZ h.next (br _) (by simp);have iC:=Uf aM cQ e (cells:=z) (cs:=eL.cells) (by rw[← S];simp) (by
    have:=HJ (al:=al) (be.plain ae) aB;rw[← S]at this ⊢;simpa using this) true (fun _=>by rw[← S];simp)
   exact⟨.pointer (some ⟨w.heap.size,0,none⟩),_,_,fun o ah=>.inl (by simp[execOp,ah,Instr.alloc,A,newVar,newRow]),fj.put _ _ _,.ptr h.next 0 ⟨w.heap.size,0,eL.cells.size⟩ (by simp[Ren.put]),b1.congr iC.1 (zQ bv _),iC.2⟩
 |box e x =>
  simp only[kindOf]at ab;split at ab<;>first|(cases ab;done)|skip
  cases ab
  obtain⟨a,rfl,ai⟩:=be.jW ad;simp only[bh]at ax;split at ax<;>first|(cases ax;done)|skip
  rename_i gs;cases ax;have cQ:al h.next=none:=bZ h.next (br _) (by simp);have eY:=ai.cells;have iC:=Uf aM cQ e (cells:=a.cells.toList) (cs:=(ev x).cells) (by rw[eY.length];simp) (by
   have:=HJ eY (fun c aj=>nU.1 gs c aj);simpa using this) true (fun _=>by rw[eY.length];simp)
  exact⟨.pointer (some ⟨w.heap.size,0,none⟩),_,_,fun o ah=>.inl (by simp[execOp,ah,Instr.box,newVar,newRow]),fj.put _ _ _,.ptr h.next 0 ⟨w.heap.size,0,(ev x).cells.size⟩ (by simp[Ren.put]),b1.congr iC.1 (zQ bv _),iC.2⟩
 |makeMap t r =>
  simp only[kindOf]at ab;split at ab<;>first|(cases ab;done)|skip
  rename_i hr;cases ab;cases r with
  |some _=>simp at hr
  |none =>
  have sv:vs=[]:=by cases ad;rfl
  subst sv;simp only[bh]at ax;cases ax;exact ala aM bv (bZ h.next (br _) (by simp))
 |mapUpdate t m TR x =>
  simp only[kindOf]at ab;split at ab<;>first|(cases ab;done)|skip
  rename_i DL e aC;split at ab<;>first|(cases ab;done)|skip
  rename_i lS;cases ab;obtain⟨w',A,S⟩:=al4 aC lS ad aM bv ax;exact⟨_,_,w',A,S⟩
 |makeFunc fn first captured=>exfalso;cases fn<;>simp[kindOf]at ab
 |slice t x fs au mx=>exfalso;cases mx<;>simp only[kindOf,vE]at ab<;>first|(cases ab;done)|((repeat' split at ab)<;>first|(cases ab;done)|(simp at ab;done))
 |_=>exfalso;first|(cases ab;done)|(simp only[kindOf]at ab;(repeat' split at ab)<;>cases ab;done)|(simp[kindOf]at ab;done)|(simp only[kindOf,BC,uv,BF,xp]at ab;(repeat' split at ab)<;>first|(cases ab;done)|(simp at ab;done))|(simp only[kindOf,BD]at ab;(repeat' split at ab)<;>first|(cases ab;done)|(simp at ab;done))
theorem Kf{op:Op}{k:K}{xs:List Operand}(ab:kindOf P op=some (k,xs))(aj:(∃ f,k=.call f)∨k=.rr) :
  ∃(c:Call) (g:Operand) (as:List Operand),op=.call c∧c.callee=.value g∧c.args.toList=as∧((∃ f,k=.call f∧g=.func f∧xs=as)∨(k=.rr∧xs=g::as)):=by
 cases op with
 |call c =>
  simp only[kindOf,zA]at ab;split at ab
  ·exfalso;unfold zD zE at ab;(repeat' split at ab)<;>first|(cases ab;rcases aj with⟨f,aj⟩|aj<;>cases aj;done)|(cases ab;done)
  ·exfalso;unfold zz at ab;(repeat' split at ab)<;>first|(cases ab;rcases aj with⟨f,aj⟩|aj<;>cases aj;done)|(cases ab;done)|(simp at ab;done)
  ·exfalso;unfold sB at ab;(repeat' split at ab)<;>first|(cases ab;rcases aj with⟨f,aj⟩|aj<;>cases aj;done)|(cases ab;done)
  ·exfalso;unfold sB at ab;(repeat' split at ab)<;>first|(cases ab;rcases aj with⟨f,aj⟩|aj<;>cases aj;done)|(cases ab;done)
  ·exfalso;unfold zB at ab;(repeat' split at ab)<;>first|(cases ab;rcases aj with⟨f,aj⟩|aj<;>cases aj;done)|(cases ab;done)
  ·exfalso;unfold zF at ab;(repeat' split at ab)<;>first|(cases ab;rcases aj with⟨f,aj⟩|aj<;>cases aj;done)|(cases ab;done)
  ·exfalso;unfold zG at ab;(repeat' split at ab)<;>first|(cases ab;rcases aj with⟨f,aj⟩|aj<;>cases aj;done)|(cases ab;done)
  ·cases ab
  ·rename_i f gu;split at ab
   ·exfalso;split at ab<;>first|(cases ab;rcases aj with⟨f,aj⟩|aj<;>cases aj;done)|(cases ab;done)
   split at ab
   ·exfalso;split at ab<;>first|(cases ab;rcases aj with⟨f,aj⟩|aj<;>cases aj;done)|(cases ab;done)
   cases ab
   exact⟨c,_,_,rfl,gu,rfl,.inl ⟨f,rfl,rfl,rfl⟩⟩
  ·rename_i g _ gu;cases ab;exact⟨c,_,_,rfl,gu,rfl,.inr ⟨rfl,rfl⟩⟩
  ·cases ab
 |alloc e =>
  exfalso;simp only[kindOf,xo]at ab;cases bp:oz P e with
  |none=>rw[bp]at ab;cases ab
  |some z=>rw[bp,N6]at ab;split at ab<;>(cases ab;rcases aj with⟨f,aj⟩|aj<;>cases aj)
 |makeFunc fn first captured=>exfalso;cases fn<;>simp[kindOf]at ab;rcases aj with⟨f,aj⟩|aj<;>(rw[aj]at ab;simp at ab)
 |slice t x fs au mx=>exfalso;cases mx<;>simp only[kindOf,vE]at ab<;>first|(cases ab;done)|((repeat' split at ab)<;>first|(cases ab;rcases aj with⟨f,aj⟩|aj<;>cases aj;done)|(simp at ab;rcases aj with⟨f,aj⟩|aj<;>(rw[aj]at ab;simp at ab);done)|(simp at ab;done))
 |_ =>
  exfalso;first
   |(cases ab;rcases aj with⟨f,aj⟩|aj<;>cases aj;done)
   |(simp only[kindOf,BG,BE]at ab;(repeat' split at ab)<;>first|(cases ab;done)|(cases ab;rcases aj with⟨f,aj⟩|aj<;>cases aj;done))
   |(simp only[kindOf]at ab;(repeat' split at ab)<;>first|(cases ab;done)|(cases ab;rcases aj with⟨f,aj⟩|aj<;>cases aj;done)|(simp at ab;rcases aj with⟨f,aj⟩|aj<;>(rw[aj]at ab;simp at ab);done);done)
   |(simp[kindOf]at ab;done)
   |(simp[kindOf]at ab;rcases aj with⟨f,aj⟩|aj<;>(rw[aj]at ab;simp at ab);done)
   |(simp only[kindOf,BC,uv,BF,xp]at ab;(repeat' split at ab)<;>first|(cases ab;done)|(cases ab;rcases aj with⟨f,aj⟩|aj<;>cases aj;done)|(simp at ab;done))
   |(simp only[kindOf,BD]at ab;(repeat' split at ab)<;>first|(cases ab;done)|(cases ab;rcases aj with⟨f,aj⟩|aj<;>cases aj;done)|(simp at ab;done))
theorem abx{op:Op}{r:K × List Operand}(ab:kindOf P op=some r):∀ c,op≠.defer c:=by
 rintro c rfl;simp[kindOf]at ab
section
variable {aQ:Array Oper}{a6:List aF}{bI:Nat→List Nat}{ak:Nat→J}{vq:Nat→Value}{env:ar}{vars:List Nat}{N:Nat}{base:Nat}{eH:Nat→Option bQ}{fv:Ren}{eF:World}{a0:Act}
variable {fP:Nat→Prop}(C:h1 P aQ a6 bI ak vq env vars N base eH fv eF fP)
include C
omit C in
theorem ahi{bG:Nat→List Nat}(e4:∀(p:Nat) s,a6[p]?=some s→IC P fP p s (bG p) (gK vq p) env (ak p) (vq p) (ak (p+1)) (bG (p+1))){p:Nat}(hp:p≤a6.length):∀ {r:Nat},r≤p→∀ i∈bG r,i∈bG p:=by
 intro r hr;induction p with
 |zero =>
  obtain rfl:r=0:=by omega
  exact fun i h=>h
 |succ p ih =>
  by_cases e:r=p+1
  ·subst e;exact fun i h=>h
  ·intro i au;have A:=ih (by omega) (by omega) i au;rcases e4 p _ (hi (show p<a6.length by omega)) with⟨_,_,_,S,_⟩|⟨_,_,_,_,S⟩
   ·exact S i A
   ·rw[S];exact A
theorem h1.chain{bG:Nat→List Nat}(e4:∀(p:Nat) s,a6[p]?=some s→IC P fP p s (bG p) (gK vq p) env (ak p) (vq p) (ak (p+1)) (bG (p+1))){ce:Nat→Prop}{a:Act}{w:World}{b:Nat}{G:Nat→Option bQ}{al:Ren}(bi:sT aQ a6 ak vq env vars N base eH fv eF a0 ce a w b G al)
  {p:Nat}{s:aF}(hp:a6[p]?=some s) (hr:s.k.dF=true) (fU:∀ i∈bI s.j,ce i){id:Nat}(cQ:id ∉ bG p){o:bQ}{q:Nat}(mi:b≤q) (h0:(ak q).get id=some o) :
  ∀ {r:Nat},q≤r→r≤p→(ak r).get id=some o∨(ak r).get id=some .dead:=by
 have ze:p<a6.length:=(j2.1 hp).1;intro r asO ul;induction r with
 |zero =>
  obtain rfl:q=0:=by omega
  exact .inl h0
 |succ r ih =>
  by_cases e:q=r+1
  ·subst e;exact .inl h0
  ·have aA:=hi (show r<a6.length by omega);have A7:id ∉ bG (r+1):=fun h=>cQ (ahi e4 (by omega) (by omega) id h);have Zg:∀ o,(ak r).get id=some o→(ak (r+1)).get id=some o∨(ak (r+1)).get id=some .dead:=by
    cases iP:(a6[r]'(by omega)).k.cD with
    |false =>
     rcases C.calm aA iP with h|⟨cells,h⟩
     ·rw[h];exact fun o h=>.inl h
     ·rw[h];exact fun o h=>.inl (by rw[J.oH (J.bY h)];exact h)
    |true =>
     have L:(a6[r]'(by omega)).q=true:=by
      rcases C.ok.rd p r s _ hp hr (by omega) aA iP with h|h
      ·have:=(bi.r6 r _ aA iP).1 (fU _ h);omega
      ·exact h
     rcases e4 r _ aA with⟨_,wb,_,_,hd⟩|⟨_,_,hd,_⟩
     ·split at hd
      ·obtain⟨_,_,_,h,_⟩:=hd;exact fun o=>h L id o A7
      ·rw[hd.2];exact fun o h=>.inl h
     ·exact fun o h=>hd id o h
   rcases ih (by omega) (by omega) with h|h
   ·exact Zg o h
   ·rcases Zg _ h with h|h<;>exact .inr h
theorem h1.look{bG:Nat→List Nat}(e4:∀(p:Nat) s,a6[p]?=some s→IC P fP p s (bG p) (gK vq p) env (ak p) (vq p) (ak (p+1)) (bG (p+1))){ce:Nat→Prop}{a:Act}{w:World}{b:Nat}{G:Nat→Option bQ}{al:Ren}(bi:sT aQ a6 ak vq env vars N base eH fv eF a0 ce a w b G al)
  {p:Nat}{s:aF}(hp:a6[p]?=some s) (hr:s.k.dF=true) (fU:∀ i∈bI s.j,ce i) (hn:¬ ce s.j){id:Nat}(cQ:id ∉ bG p){l:Loc}(ag:al id=some l){o:bQ}(S:(ak p).get id=some o) (hd:o≠.dead):G id=some o:=by
 have ze:p<a6.length:=(j2.1 hp).1;have mh:b≤p:=by
  rcases Dj p b with h|h
  ·exact absurd (bi.wz p s h hp) hn
  ·exact h
 have Dd:=bi.fI.gC id;rw[ag]at Dd;cases bv:G id with
 |none=>rw[bv]at Dd;simp at Dd
 |some cG =>
  have fin:∀ {q:Nat},b≤q→q≤p→(ak q).get id=some cG→cG=o:=fun mi ls L=>by
   rcases C.chain e4 bi hp hr fU cQ mi L ls (br p) with h|h
   ·rw[S]at h;cases h;rfl
   ·rw[S]at h;cases h;exact absurd rfl hd
  rcases(bi.ob id cG).1 bv with h|⟨q,a8,mi,L,aM,ae,aB,aG⟩|⟨ae,aB,_⟩
  ·rw[fin (br _) mh h]
  ·by_cases ls:q<p
   ·rw[fin (show b≤q+1 by omega) (by omega) aG]
   ·have:=(C.mono (show p≤q by omega) (by have:=(j2.1 L).1;omega)).next;have:=J.bY S;omega
  ·exfalso;have aV:=J.bY S;have hm:=(C.mono (show p≤a6.length by omega) (br _)).next;cases h0:(ak 0).get id with
   |none=>have:=(C.mono (lj p) (by omega)).back id (by omega) h0;rw[S]at this;cases this
   |some gm=>have:=(C.mono (lj b) bi.ble).gC id (by rw[h0];rfl);rw[ae]at this;simp at this
theorem h1.MN{ce:Nat→Prop}{a:Act}{w:World}(bi:Inv aQ a6 ak vq env vars N base eH fv eF a0 ce a w)(eY:∀ i,ce i→∀ k∈bI i,ce k)
  {p:Nat}{s:aF}(hp:a6[p]?=some s) (hpl:fP p) (fU:∀ i∈bI s.j,ce i) (hn:¬ ce s.j) (cI:Option Nat){qp:Act→World→Prop}{Q:Exit→Act→World→Prop}
  (AQ:∀ a' w',Inv aQ a6 ak vq env vars N base eH fv eF a0 (fun i=>ce i∨i=s.j) a' w'→qp a' w'):wpOpIn (hG cI) 0 P aQ Q s.j qp a w:=by
 obtain⟨b,G,al,bi⟩:=bi;have ze:p<a6.length:=(j2.1 hp).1;have mh:b≤p:=by
  rcases Dj p b with h|h
  ·exact absurd (bi.wz p s h hp) hn
  ·exact h
 have ah:=Lo (C.ok.lt p s hp);generalize aQ[s.j]'(C.ok.lt p s hp)=o at ah;obtain⟨xs,ab,ct⟩:=C.ok.kind p s o hp ah;obtain⟨bG,e4⟩:=C.run;obtain⟨wb,zl,_,hd⟩:=((e4 p s hp).resolve_right (fun h=>h.1 hpl)).2;have ax:=h1.wanted bi fU (C.ok.guard p s o hp ah) zl;unfold wpOpIn;simp only[ah,ax];cases wb with
 |false =>
  simp only[xZ,if_false]at hd ⊢;refine⟨fun _ _=>trivial,AQ _ _ (C.same bi hp fU hn ah hd.2 ?_)⟩;rw[hd.1];exact .same _ rfl
 |true =>
  simp only[if_true]at hd ⊢;obtain⟨vs,sv,ai,L,c6⟩:=hd;have il:=h1.args bi hn fU eY ct sv;have SC:=abx ab;refine⟨fun _ _=>trivial,?_⟩;rw[Oper.semAt_eq _ _ _ SC];have R2:s.k.cD=true→(ak p).hX G:=fun aK=>C.Hj bi mh (by omega) fun q a8 A S ae=>by
   have aM:=fU _ (C.ok.Fe p q s a8 hp aK S ae);refine⟨aM,?_⟩;cases iP:a8.k.cD with
   |false=>rfl
   |true=>have:=(bi.r6 q a8 ae iP).1 aM;omega
  have bZ:=C.KD bi hp mh hn;unfold x1 at ai;split at ai
  ·rename_i k fe;rw[fe]at ab;obtain⟨v',A,S⟩:=aoL ab il (fun _=>rfl) (fun _=>rfl) ai.1;rw[S o w rfl,Oper.uponIn_value];exact AQ _ _ (C.same bi hp fU hn ah ai.2 A)
  ·rename_i k fe;rw[fe]at ab;have ajP:aw k vs G=some (vq p):=by
    obtain⟨A,_⟩:=ai;unfold aw at A ⊢;split at A<;>first|(cases A;done)|skip
    rename_i se agg size id off;have af:∃ l,al id=some l:=by
     obtain⟨hZ,_,ad⟩:=be.one il;obtain⟨l,ag,_⟩:=ad.sI;exact⟨l,ag⟩
    obtain⟨l,ag⟩:=af;split at A<;>first|(cases A;done)|skip
    ·rename_i cells own aj;rw[C.look e4 bi hp (by rw[fe];rfl) fU hn (c6 (by rw[fe];rfl) _ rfl) ag aj (by simp)];exact A
    ·rename_i cells el li aj;rw[C.look e4 bi hp (by rw[fe];rfl) fU hn (c6 (by rw[fe];rfl) _ rfl) ag aj (by simp)];exact A
    ·unfold IN at A ⊢;split at A<;>first|(cases A;done)|skip
     rename_i id key;split at A<;>first|(cases A;done)|skip
     rename_i es own aj;have af:∃ l,al id=some l:=by
      obtain⟨xV,ej,_,ad,_⟩:=be.two il;obtain⟨l,ag,_⟩:=ad.HE;exact⟨l,ag⟩
     obtain⟨l,ag⟩:=af;rw[C.look e4 bi hp (by rw[fe];rfl) fU hn (c6 (by rw[fe];rfl) _ rfl) ag aj (by simp)];exact A
    ·rename_i id;split at A<;>first|(cases A;done)|skip
     rename_i es own aj;have af:∃ l,al id=some l:=by
      obtain⟨hZ,_,ad⟩:=be.one il;obtain⟨l,ag,_⟩:=ad.HE;exact⟨l,ag⟩
     obtain⟨l,ag⟩:=af;rw[C.look e4 bi hp (by rw[fe];rfl) fU hn (c6 (by rw[fe];rfl) _ rfl) ag aj (by simp)];exact A
    ·exact A
    ·rename_i id off n iu;split at A<;>first|(cases A;done)|skip
     rename_i iD;rw[if_pos iD];split at A
     ·rename_i j9;rw[if_pos j9];exact A
     ·rename_i j9;rw[if_neg j9];split at A<;>first|(cases A;done)|skip
      rename_i cells own aj;have af:∃ l,al id=some l:=by
       obtain⟨hZ,_,ad⟩:=be.one il;obtain⟨l,_,_,ag,_⟩:=ad.vX;exact⟨l,ag⟩
      obtain⟨l,ag⟩:=af;rw[C.look e4 bi hp (by rw[fe];rfl) fU hn (c6 (by rw[fe];rfl) _ rfl) ag aj (by simp)];exact A
    ·rename_i id off;split at A<;>first|(cases A;done)|skip
     rename_i cells el li aj;have af:∃ l,al id=some l:=by
      obtain⟨hZ,_,ad⟩:=be.one il;obtain⟨l,ag,_⟩:=ad.sI;exact⟨l,ag⟩
     obtain⟨l,ag⟩:=af;rw[C.look e4 bi hp (by rw[fe];rfl) fU hn (c6 (by rw[fe];rfl) _ rfl) ag aj (by simp)];exact A
    ·rename_i KJ id off;split at A<;>first|(cases A;done)|skip
     rename_i cells el aj;have af:∃ l,al id=some l:=by
      obtain⟨hZ,_,ad⟩:=be.one il;obtain⟨l,ag,_⟩:=ad.sI;exact⟨l,ag⟩
     obtain⟨l,ag⟩:=af;rw[C.look e4 bi hp (by rw[fe];rfl) fU hn (c6 (by rw[fe];rfl) _ rfl) ag aj (by simp)];exact A
   obtain⟨v',A,S⟩:=acr ab il bi.fI ajP;rw[S o rfl,Oper.uponIn_value];exact AQ _ _ (C.same bi hp fU hn ah ai.2 A)
  ·rename_i k fe;rw[fe]at ab;obtain⟨cells,mk,A,S,ae⟩:=ai;have cQ:al (ak p).next=none:=bZ _ (br _) (by rw[ae];simp);obtain⟨l,v',w',aB,aG,a1,bN⟩:=Nt ab il bi.fI A cQ;rw[bN o rfl,Oper.uponIn_value];exact AQ _ _ (C.made bi hp hn (by rw[fe];rfl) ah ae (by rw[S];exact aB) aG a1)
  ·rename_i k fe;rw[fe]at ab;obtain⟨v',bd,w',A,S⟩:=VH ab il bi.fI (R2 (by rw[fe];rfl)) ai bZ;have pk:=AQ _ _ (C.done bi hp fU hn (by rw[fe];rfl) ah S);rcases A o rfl with h|⟨h,rfl⟩
   ·rw[h,Oper.uponIn_value];exact pk
   ·rw[h];exact pk
  ·rename_i f fe;have iP:s.k.cD=true:=by rw[fe];rfl
   obtain⟨c,g,as,nn,gu,vd,aj⟩:=Kf ab (.inl ⟨f,fe⟩);rcases aj with⟨oF,od,rfl,rfl⟩|⟨h,_⟩
   ·rw[fe]at od;cases od;have ad:IM P (.func (.func f) #[] #[]) vs (ak p) (vq p) (ak (p+1)):=my.val (by simpa using ai);have:=ad.2 base G al w (.func (.func f) #[] #[]) (c.args.toList.map a.eval) (R2 iP) bZ bi.fI (.func f [] [] [] [] .nil .nil) (by rw[vd];exact il) cI o a qp Q
     (fun v' bd w' c6=>AQ _ _ (C.done bi hp fU hn iP ah c6))
    have e:(execOp a.eval o).run P w=((do let d ← Deferred.ofValue (.func (.func f) #[] #[]) (c.args.toList.map a.eval).toArray;invoke d.target d.args:Sem Next).run P w):=by
     have az:(c.args.toList.map a.eval).toArray=c.args.map a.eval:=by apply Array.ext';simp
     simp only[execOp,nn,resolve,gu,az];rfl
    rw[e];exact this
   ·rw[fe]at h;cases h
  ·rename_i fe;have iP:s.k.cD=true:=by rw[fe];rfl
   obtain⟨c,g,as,nn,gu,vd,aj⟩:=Kf ab (.inr fe);rcases aj with⟨oF,od,_,_⟩|⟨_,rfl⟩
   ·rw[fe]at od;cases od
   ·split at ai
    ·rename_i du args;cases il with
     |cons _ s2 _ gq A6 RM =>
      have:=ai.2 base G al w (a.eval g) (c.args.toList.map a.eval) (R2 iP) bZ bi.fI A6 (by rw[vd];exact RM) cI o a qp Q
       (fun v' bd w' c6=>AQ _ _ (C.done bi hp fU hn iP ah c6))
      have e:(execOp a.eval o).run P w=((do let d ← Deferred.ofValue (a.eval g) (c.args.toList.map a.eval).toArray;invoke d.target d.args:Sem Next).run P w):=by
       have az:(c.args.toList.map a.eval).toArray=c.args.map a.eval:=by apply Array.ext';simp
       simp only[execOp,nn,resolve,gu,az]
      rw[e];exact this
    ·exact ai.elim
  ·exact ai.elim
end
end Go.Eng
namespace Go.Eng
open Go
variable {P:Program}
def Cq(aQ:Array Oper)(j i:Nat):Prop:=∃(o:Oper) (e:Edge),aQ[j]?=some o∧e∈o.after∧Region.binds .any e=true∧e.on=i
def tC(aQ:Array Oper)(bI:Nat→List Nat)(fq:Bool):Prop :=
 if fq then(∀ j i,i∈bI j→Cq aQ j i∨∃ k,Cq aQ j k∧i∈bI k)∧(∀ j i,Cq aQ j i→i<j)
 else ∀ j i,i∈bI j→i<j
structure Nf(vars:List Nat)(aQ:Array Oper)(a6:List aF)(outs:List (Nat × Nat)):Prop where
 nodup:∀(k hY t:Nat),vars[k]?=some t→vars[hY]?=some t→k=hY
 all:∀(i:Nat) o t (k:Nat),aQ[i]?=some o→o.dst=some t→vars[k]?=some t→∃(p:Nat) (s:aF),a6[p]?=some s∧s.j=i∧(k,a6.length-1-p)∈outs
 only:∀ k d,(k,d)∈outs→d<a6.length∧∃ s o t,a6[a6.length-1-d]?=some s∧aQ[s.j]?=some o∧o.dst=some t∧vars[k]?=some t
 keys:(outs.map (·.1)).Nodup
def kX(ts:ar):List (Nat × Nat)→ar→ar
 |[],e=>e
 |(k,d)::r,e=>kX ts r (e.set k (ts.getD d undef))
theorem aeg(ts:ar):∀(outs:List (Nat × Nat)) (e:ar),(kX ts outs e).length=e.length
 |[],e=>rfl
 |(k,d)::r,e=>by simp only[kX];rw[aeg];simp
theorem Ik(ts:ar)(k:Nat):∀(outs:List (Nat × Nat)) (e:ar),k ∉ outs.map (·.1)→(kX ts outs e)[k]?=e[k]?
 |[],e,_=>rfl
 |(hY,d)::r,e,h=>by
  simp only[kX];simp at h;rw[Ik ts k r _ (by simpa using h.2)];rw[List.getElem?_set_ne (by omega)]
theorem aeh(ts:ar)(k d:Nat):∀(outs:List (Nat × Nat)) (e:ar),(outs.map (·.1)).Nodup→(k,d)∈outs→k<e.length→(kX ts outs e)[k]?=some (ts.getD d undef)
 |[],e,_,h,_=>by simp at h
 |(hY,bW)::r,e,hn,h,ab=>by
  simp only[kX];simp only[Fx,List.nodup_cons]at hn;rcases oj.1 h with h|h
  ·cases h
   rw[Ik ts k r _ hn.1];simp[ab]
  ·rw[aeh ts k d r _ hn.2 h (by simpa using ab)]
section
variable {aQ:Array Oper}{a6:List aF}{bI:Nat→List Nat}{ak:Nat→J}{vq:Nat→Value}{env:ar}{vars:List Nat}{N:Nat}{base:Nat}{eH:Nat→Option bQ}{fv:Ren}{eF:World}{a0:Act}
variable {fP:Nat→Prop}(C:h1 P aQ a6 bI ak vq env vars N base eH fv eF fP)
theorem h1.start(C:h1 P aQ a6 bI ak vq env vars N base eH fv eF fP){w:World}(ax:w.heap=eF.heap∧w.tape=eF.tape∧w.os=eF.os∧w.output=eF.output)(c3:kz fv N vars env a0.tmps):Inv aQ a6 ak vq env vars N base eH fv eF a0 (fun _=>False) a0 w:=by
 refine⟨0,eH,fv,lj _,fun p s _ _=>⟨fun h=>h.elim,fun h=>by omega⟩,fun p s h _=>by omega,fun id o=>?_,fj.refl _ _ _,C.fI.heap ax.1,?_,c3.size,rfl,fun p s o d _ _ _ h=>h.elim,fun k t v ab ad _=>c3.get k t v ab ad⟩
 ·constructor
  ·intro h;cases h0:(ak 0).get id with
   |some cP=>have:=C.hX id cP h0;rw[h]at this;cases this;exact .inl h0
   |none =>
    refine .inr (.inr ⟨h0,?_,h⟩);rcases Dj id (ak 0).next with A|A
    ·exact .inl A
    ·rcases Dj id (ak a6.length).next with S|S
     ·have:=C.fI.gC id;rw[h,C.fresh id A S]at this;simp at this
     ·exact .inr S
  ·rintro(h|⟨p,s,_,_,h,_⟩|⟨_,_,h⟩)
   ·exact C.hX id o h
   ·exact h.elim
   ·exact h
 ·exact⟨by rw[ax.1];exact br _,fun b _=>by rw[ax.1],ax.2.1,ax.2.2.1,ax.2.2.2,fun a _=>by simp[World.frozen?,ax.1]⟩
theorem h1.finish(C:h1 P aQ a6 bI ak vq env vars N base eH fv eF fP){ce:Nat→Prop}{a:Act}{w:World}(bi:Inv aQ a6 ak vq env vars N base eH fv eF a0 ce a w)(gs:∀(p:Nat) s,a6[p]?=some s→ce s.j){outs:List (Nat × Nat)}(ah:Nf vars aQ a6 outs)(aR:vars.length=env.length) :
  ∃ al,fj fv al (ak 0).next (ak a6.length).next∧b1 base (over (ak a6.length) eH) al w∧gi base eF w∧a.defers=a0.defers∧kz al N vars (kX (gK vq a6.length) outs env) a.tmps ∧
   (∀(p:Nat) s o d,a6[p]?=some s→aQ[s.j]?=some o→o.dst=some d→∃ v',a.tmps[d]?=some v'∧bL al (vq p) v'):=by
 obtain⟨b,G,al,bi⟩:=bi;have vj:(ak a6.length).hX G:=C.Hj bi bi.ble (br _) fun q s A S ae=>⟨gs q s ae,by
  cases iP:s.k.cD with
  |false=>rfl
  |true=>have:=(bi.r6 q s ae iP).1 (gs q s ae);omega⟩
 have hm:=fun q (L:q≤a6.length)=>C.mono L (br _);refine⟨al,bi.agree,b1.congr bi.fI fun id=>?_,bi.step,bi.defers,⟨bi.size,by rw[aeg];exact aR,fun k t v ab ad=>?_⟩,fun p s o d A S ae=>bi.tmps p s o d A S ae (gs p s A)⟩
 ·unfold over;cases af:(ak a6.length).get id with
  |some o=>rw[vj id o af];rfl
  |none =>
   simp only[Option.none_or];have b8:∀ q,q≤a6.length→(ak q).get id=none:=fun q L=>by
    cases bw:(ak q).get id with
    |none=>rfl
    |some cP=>have:=(hm q L).gC id (by rw[bw];rfl);rw[af]at this;simp at this
   cases bv:G id with
   |some o =>
    rcases(bi.ob id o).1 bv with h|⟨q,a8,mi,L,aM,A,S,ae⟩|⟨_,_,h⟩
    ·rw[b8 b bi.ble]at h;cases h
    ·rw[b8 (q+1) (by have:=(j2.1 L).1;omega)]at ae;cases ae
    ·exact h
   |none =>
    cases h0:eH id with
    |none=>rfl
    |some o =>
     exfalso;have:G id=some o:=(bi.ob id o).2 (.inr (.inr ⟨b8 b bi.ble,by
      rcases Dj id (ak 0).next with A|A
      ·exact .inl A
      ·rcases Dj id (ak a6.length).next with S|S
       ·have:=C.fI.gC id;rw[h0,C.fresh id A S]at this;simp at this
       ·exact .inr S,h0⟩))
     rw[bv]at this;cases this
 ·by_cases ax:k∈outs.map (·.1)
  ·obtain⟨⟨hY,d⟩,fT,rfl⟩:=Is.1 ax;obtain⟨hd,s,o,mV,A,S,ae,aB⟩:=ah.only _ _ fT;rw[ab]at aB;cases aB;have rC:hY<env.length:=by rw[← aR];exact(j2.1 ab).1
   rw[aeh _ _ _ _ _ ah.keys fT rC]at ad;cases ad;obtain⟨v',aG,a1⟩:=bi.tmps _ s o t A S ae (gs _ s A);refine⟨v',aG,?_⟩;rw[List.getD_eq_getElem?_getD,Ig vq _ d hd];exact a1
  ·rw[Ik _ _ _ _ ax]at ad;refine bi.vars k t v ab ad fun i o au GJ aM=>?_;obtain⟨p,s,_,_,fT⟩:=ah.all i o t k au GJ ab;exact ax (Is.2 ⟨_,fT,rfl⟩)
theorem Inv.congr{ce Nl:Nat→Prop}(aK:∀ i,ce i↔Nl i){a:Act}{w:World}(bi:Inv aQ a6 ak vq env vars N base eH fv eF a0 ce a w):Inv aQ a6 ak vq env vars N base eH fv eF a0 Nl a w:=by
 have:ce=Nl:=funext fun i=>propext (aK i);rw[← this];exact bi
theorem Kp{listed:Array Bool}{j:Nat}{o:Oper}(ah:aQ[j]?=some o)(hr:(o.after.all fun e=>!Region.binds .any e || listed.getD e.on false)=true){i:Nat}(hd:Cq aQ j i):listed.getD i false=true:=by
 obtain⟨gl,e,A,S,ae,rfl⟩:=hd;rw[ah]at A;cases A;have:=(Array.all_eq_true'.1 hr) e S;rw[ae]at this;simpa using this
theorem T3{listed:Array Bool}{i:Nat}(h:i∈Region.ready .any aQ listed):i<aQ.size∧listed.getD i true=false∧∃ o,aQ[i]?=some o∧(o.after.all fun e=>!Region.binds .any e || listed.getD e.on false)=true:=by
 unfold Region.ready at h;obtain⟨A,S⟩:=List.mem_filter.1 h;simp only[Bool.and_eq_true,K6]at S;refine⟨CS.1 A,S.1,?_⟩;cases ah:aQ[i]? with
 |none=>rw[ah]at S;simp at S
 |some o=>rw[ah]at S;exact⟨o,rfl,by simpa using S.2⟩
theorem h1.afk(C:h1 P aQ a6 bI ak vq env vars N base eH fv eF fP)(C5:∀ p,fP p)(p3:tC aQ bI true)(cI:Option Nat){Q:Exit→Act→World→Prop}
  (dZ:∀(ce:Nat→Prop) a w,Inv aQ a6 ak vq env vars N base eH fv eF a0 ce a w→(∀(p:Nat) s,a6[p]?=some s→ce s.j)→Q .normal a w) :
  ∀(jP:Nat) (listed:Array Bool) (a:Act) (w:World),listed.size=aQ.size→listed.toList.count false=jP→(∀ i,listed.getD i false=true→∀ k∈bI i,listed.getD k false=true) →
   Inv aQ a6 ak vq env vars N base eH fv eF a0 (fun i=>listed.getD i false=true) a w→wpAnyIn (hG cI) 0 P .any aQ Q jP listed a w:=by
 simp only[tC,if_true]at p3;obtain⟨fU,aV⟩:=p3;intro jP;induction jP with
 |zero =>
  intro listed a w iD aj eY bi;have gs:∀ i,i<aQ.size→listed.getD i false=true:=fun i au=>by
   cases T:listed.getD i false with
   |true=>rfl
   |false =>
    exfalso;have:false∈listed.toList:=by
     have S:listed[i]?=some false:=by
      have rB:i<listed.size:=by omega
      rw[Lo rB];simpa[lF,rB] using T
     exact List.mem_of_getElem? (i:=i) (by simpa using S)
    have:=List.count_pos_iff.2 this;omega
  refine⟨?_,dZ _ a w bi fun p s hp=>gs _ (C.ok.lt p s hp)⟩;apply List.eq_nil_iff_forall_not_mem.2;intro i au;obtain⟨A,S,_⟩:=T3 au;have:=gs i A;have rB:i<listed.size:=by omega
  simp[lF,rB]at S this;rw[S]at this;cases this
 |succ jP ih =>
  intro listed a w iD aj eY bi;refine⟨fun Be=>?_,fun i au=>?_⟩
  · -- the dz that vd not XP up ab6 XP up
   exfalso;have dr:∃ i,i<aQ.size∧listed.getD i true=false:=by
    have:false∈listed.toList:=List.count_pos_iff.1 (by omega);obtain⟨i,au⟩:=Gm.1 this;have ef:listed[i]?=some false:=by simpa using au
    have lo:=(Ic.1 ef).1;exact⟨i,by omega,by simp[lF,ef]⟩
   have Sj:∃ i,(i<aQ.size∧listed.getD i true=false)∧∀ k,k<i→¬(k<aQ.size∧listed.getD k true=false):=by
    obtain⟨i,au⟩:=dr;induction i using Nat.strongRecOn with
    |_ i By =>
     by_cases ab:∃ k,k<i∧(k<aQ.size∧listed.getD k true=false)
     ·obtain⟨k,jj,jH⟩:=ab;exact By k jj jH
     ·exact⟨i,au,fun k jj jH=>ab ⟨k,jj,jH⟩⟩
   obtain⟨i,⟨Gj,ef⟩,Sq⟩:=Sj;have aA:=Lo Gj;have:i∈Region.ready .any aQ listed:=by
    unfold Region.ready;refine List.mem_filter.2 ⟨CS.2 Gj,?_⟩;rw[ef,aA];simp only[Cg,N6,Option.getD_some,kx];refine Array.all_eq_true'.2 fun e aK=>?_;cases T:Region.binds .any e with
    |false=>simp
    |true =>
     simp only[Fj,yA];have dm:=aV i e.on ⟨_,e,aA,aK,T,rfl⟩;have:=Sq e.on dm;have eh:e.on<listed.size:=by omega
     simp[lF,eh]at this ⊢;exact this (by omega)
   rw[Be]at this;simp at this
  ·obtain⟨A,S,o,ah,hr⟩:=T3 au;have lo:i<listed.size:=by omega
   have Gw:listed[i]?=some false:=by
    rw[Lo lo];simpa[lF,lo] using S
   obtain⟨p,s,hp,rfl⟩:=C.ok.place i A;have hn:¬(listed.getD s.j false=true):=by simp[lF,Gw]
   have Bd:∀ k∈bI s.j,listed.getD k false=true:=fun k ab=>by
    rcases fU s.j k ab with h|⟨m,h,hm⟩
    ·exact Kp ah hr h
    ·exact eY m (Kp ah hr h) k hm
   have rA:∀ k,(listed.setIfInBounds s.j true).getD k false=true↔(listed.getD k false=true∨k=s.j):=fun k=>by
    by_cases e:k=s.j
    ·subst e;simp[lF,lo]
    ·simp[lF,Array.getElem?_setIfInBounds_ne (Ne.symm e),e]
   refine C.MN bi eY hp (C5 p) Bd hn cI fun a' w' AP=>ih _ a' w' (by simpa using iD) ?_ ?_ (Inv.congr (fun k=>(rA k).symm) AP)
   ·have hA:=List.count_set (l:=listed.toList) (a:=true) (b:=false) (i:=s.j) (by simpa using lo);have R9:listed.toList[s.j]'(by simpa using lo)=false:=by
     have:=(Ic.1 Gw).2;simpa using this
    rw[R9]at hA;simp only[Array.toList_setIfInBounds];rw[hA,aj];rfl
   ·intro k ab m hm;rw[rA]at ab ⊢;rcases ab with ab|rfl
    ·exact .inl (eY k ab m hm)
    ·exact .inl (Bd m hm)
theorem h1.aqH(C:h1 P aQ a6 bI ak vq env vars N base eH fv eF fP)(C5:∀ p,fP p)(p3:tC aQ bI false)(cI:Option Nat){Q:Exit→Act→World→Prop}
  (dZ:∀(ce:Nat→Prop) a w,Inv aQ a6 ak vq env vars N base eH fv eF a0 ce a w→(∀(p:Nat) s,a6[p]?=some s→ce s.j)→Q .normal a w) :
  ∀(n k:Nat) (a:Act) (w:World),k+n=aQ.size→Inv aQ a6 ak vq env vars N base eH fv eF a0 (fun i=>i<k) a w→wpOpsIn (hG cI) 0 P aQ Q (List.range' k n) a w:=by
 simp only[tC,xZ,if_false]at p3;intro n;induction n with
 |zero =>
  intro k a w ab bi;exact dZ _ a w bi fun p s hp=>by have:=C.ok.lt p s hp;simp at ab;omega
 |succ n ih =>
  intro k a w ab bi;simp only[List.range'_succ];rw[wpOpsIn_cons];obtain⟨p,s,hp,bn⟩:=C.ok.place k (by omega);subst bn;refine C.MN bi (fun i au m hm=>by have:=p3 i m hm;omega) hp (C5 p) (fun i au=>p3 _ i au) (by omega) cI fun a' w' AP=>?_;have:=ih (s.j+1) a' w' (by omega) (Inv.congr (fun i=>by omega) AP);simpa using this
end
end Go.Eng
namespace Go.Eng
open Go
variable {P:Program}
inductive bo where
 |skip
 |aW (a6:List aF) (outs:List (Nat × Nat))
 |seq (a b:bo)
 |hK (a6:List aF) (outs:List (Nat × Nat)) (d:Nat) (a b:bo)
 |cond (x:Arg) (a b:bo)
 |block (id:Nat) (c:bo)
 |loop (c:bo)
 |exit (id:Nat)
 |ret
 |range (g:Arg) (fH:List Nat) (assign body:bo)
 |scope (c:bo)
 |label
 /-- code that is never atx -/
 |never
 deriving Inhabited
def bo.cX:bo→Bool
 |.range ..=>false
 |.seq a b=>a.cX && b.cX
 |.hK _ _ _ a b=>a.cX && b.cX
 |.cond _ a b=>a.cX && b.cX
 |.block _ c=>c.cX
 |.loop c=>c.cX
 |.scope c=>c.cX
 |_=>true
inductive dM where
 |normal|exit (id:Nat)|ret
 deriving DecidableEq
def dM.Ki:dM→Exit
 |.normal=>.normal
 |.exit id=>.exit id
 |.ret=>.ret
def lY(bI:List (List Nat)):Nat→List Nat:=fun j=>bI.getD j []
structure af4(P:Program)(N:Nat)(vars:List Nat)(aQ:Array Oper)(fq:Bool)(a6:List aF)(bI:List (List Nat))(outs:List (Nat × Nat)):Prop where
 aW:II P N vars aQ a6 (lY bI)
 order:tC aQ (lY bI) fq
 outs:Nf vars aQ a6 outs
 mixed:fq=true→P.follows .mixedOrders=true
def Am(P:Program)(N:Nat)(vars:List Nat)(aQ:Array Oper)(fq:Bool)(a6:List aF)(outs:List (Nat × Nat)):Prop:=∃ bI,af4 P N vars aQ fq a6 bI outs
def Ix(vars:List Nat):Arg→Operand→Prop
 |.v k,.tmp t=>vars[k]?=some t
 |.c v,.const v'=>v=v'∧Value.plain v=true
 |_,_=>False
def Nd(vars:List Nat):Arg→Operand→Prop
 |.v k,.tmp t=>vars[k]?=some t
 |.f f,.func oF=>f=oF
 |_,_=>False
def eD(P:Program)(N:Nat)(vars:List Nat):bo→Code→Prop
 |.skip,.skip=>True
 |.aW a6 outs,.region _ aQ fq=>Am P N vars aQ fq a6 outs
 |.seq a b,.seq x y=>eD P N vars a x∧eD P N vars b y
 |.hK a6 outs d a b,.seq (.region _ aQ fq) (.cond (.tmp t) x y) =>
  Am P N vars aQ fq a6 outs∧(d<a6.length∧∃ s o,a6[a6.length-1-d]?=some s∧aQ[s.j]?=some o∧o.dst=some t)∧eD P N vars a x∧eD P N vars b y
 |.cond x a b,.cond y hQ bl=>Ix vars x y∧eD P N vars a hQ∧eD P N vars b bl
 |.block id c,.block pw x=>id=pw∧eD P N vars c x
 |.loop c,.loop x=>eD P N vars c x
 |.exit id,.exit pw=>id=pw
 |.ret,.ret=>True
 |.scope c,.scope x=>eD P N vars c x
 |.label,.label _=>True
 |.never,_=>True
 |.range g fH a b,.rangeFunc y vS hQ bl=>Nd vars g y∧n1 (fun k t=>vars[k]?=some t) fH vS.toList∧(a.cX && b.cX)=true∧vars.Nodup∧eD P N vars a hQ∧eD P N vars b bl
 |_,_=>False
def Marks(bd:Ren)(h D:J)(bG:List Deferred):Prop :=
 ∃ lA:List Nat,lA.Nodup∧(∀ m∈lA,h.next≤m∧D.get m=some .k0)∧bG=lA.map fun m=>{ target:=.collected ((bd m).map (·.b)|>.getD 0),args:=#[] }
structure Left(iI:Bool)(base:Nat)(G:Nat→Option bQ)(al:Ren)(w:World)(a:Act)(N:Nat)(vars:List Nat)(h D:J)(mf:ar)(a':Act)(bd:Ren)(w':World):Prop where
 agree:fj al bd h.next D.next
 env:kz bd N vars mf a'.tmps
 defers:∃ bG,Marks bd h D bG∧a'.defers=bG++a.defers∧(iI=true→bG=[])
 fI:b1 base (over D G) bd w'
 step:gi base w w'
def eu(P:Program)(N:Nat)(vars:List Nat)(c:bo)(env:ar)(h:J)(x:dM)(mf:ar)(D:J):Prop :=
 h.step D∧∀ code,eD P N vars c code→∀(base:Nat) (G:Nat→Option bQ) (al:Ren) (w:World) (a:Act) (cI:Option Nat),(c.cX=false→cI=none)→h.hX G→jf al h.next D.next→b1 base G al w→kz al N vars env a.tmps →
  ∀ Q:Exit→Act→World→Prop,(∀ a' bd w',Left c.cX base G al w a N vars h D mf a' bd w'→Q x.Ki a' w')→code.wpIn (hG cI) 0 P Q a w
theorem HY{A S:J}(ak:A.step S)(G:Nat→Option bQ):∀ id,over S (over A G) id=over S G id:=fun id=>by
 unfold over;cases af:S.get id with
 |some o=>rfl
 |none =>
  cases bw:A.get id with
  |none=>rfl
  |some o=>have:=ak.gC id (by rw[bw];rfl);rw[af]at this;simp at this
theorem oO(h:J)(G:Nat→Option bQ):h.hX (over h G):=fun id o aA=>by unfold over;rw[aA];rfl
theorem jf.left{al:Ren}{a b c:Nat}(h:jf al a c)(aiL:b≤c):jf al a b:=fun id A S=>h id A (by omega)
theorem jf.right{al ky:Ren}{a b c:Nat}(h:jf al a c)(y0:a≤b)(A0:fj al ky a b):jf ky b c:=fun id A S=>by rw[A0 id (.inr A)];exact h id (by omega) S
theorem Marks.none(bd:Ren)(h D:J):Marks bd h D []:=⟨[],by simp,by simp,rfl⟩
theorem Marks.trans{ky fZ:Ren}{h A S:J}{d1 d2:List Deferred}(bT:h.step A)(b4:A.step S)(afg:fj ky fZ A.next S.next)(m1:Marks ky h A d1)(m2:Marks fZ A S d2):Marks fZ h S (d2++d1):=by
 obtain⟨l1,hD,g1,rfl⟩:=m1;obtain⟨l2,h9,g2,rfl⟩:=m2;refine⟨l2++l1,?_,?_,?_⟩
 ·rw[List.nodup_append];refine⟨h9,hD,fun a ai b T e=>?_⟩;subst e;have A:=(g2 a ai).1;have S:=J.bY (g1 a T).2;omega
 ·intro m hm;rcases Aa.1 hm with hm|hm
  ·exact⟨rI bT.next (g2 m hm).1,(g2 m hm).2⟩
  ·exact⟨(g1 m hm).1,b4.k0 m (g1 m hm).2⟩
 ·rw[Ir]
  congr 1
  apply List.map_congr_left;intro m hm;rw[afg m (.inl (J.bY (g1 m hm).2))]
theorem Left.trans{hD h9 iI:Bool}{base:Nat}{G:Nat→Option bQ}{al ky fZ:Ren}{w er dd:World}{a dP a2:Act}{N:Nat}{vars:List Nat}{h A S:J}{gD jB:ar}(bT:h.step A)(b4:A.step S)(hn:iI=true→hD=true∧h9=true)
  (l1:Left hD base G al w a N vars h A gD dP ky er) (l2:Left h9 base (over A G) ky er dP N vars A S jB a2 fZ dd):Left iI base G al w a N vars h S jB a2 fZ dd :=
 ⟨l1.agree.trans l2.agree bT.next b4.next,l2.env,by
  obtain⟨d1,m1,az,wi⟩:=l1.defers;obtain⟨d2,m2,aL,z2⟩:=l2.defers;exact⟨d2++d1,m1.trans bT b4 l2.agree m2,by rw[aL,az,wB],fun h=>by rw[wi (hn h).1,z2 (hn h).2];rfl⟩,b1.congr l2.fI fun id=>(HY b4 G id).symm,l1.step.trans l2.step⟩
theorem Left.wc{hD iI:Bool}{base:Nat}{G:Nat→Option bQ}{al ky:Ren}{w er:World}{a dP:Act}{N:Nat}{vars:List Nat}{h A:J}{gD:ar}(hn:iI=true→hD=true)
  (l1:Left hD base G al w a N vars h A gD dP ky er):Left iI base G al w a N vars h A gD dP ky er :=
 ⟨l1.agree,l1.env,let ⟨d,m,e,z⟩:=l1.defers;⟨d,m,e,fun h=>z (hn h)⟩,l1.fI,l1.step⟩
theorem HO{bd:Ren}{h D:J}{bG:List Deferred}{iI:Bool}:∃ d,Marks bd h D d∧bG=d++bG∧(iI=true→d=[]):=⟨[],Marks.none _ _ _,rfl,fun _=>rfl⟩
theorem eu.skip{N:Nat}{vars:List Nat}{env:ar}{h:J}:eu P N vars .skip env h .normal env h:=by
 refine⟨J.step.refl h,fun code aj base G al w a cI hV bv bZ aM c3 Q dZ=>?_⟩;cases code<;>simp only[eD]at aj;exact wpIn_skip (dZ a al w ⟨fj.refl _ _ _,c3,HO,b1.congr aM (over_self bv),gi.refl _ _⟩)
theorem eu.exit{N:Nat}{vars:List Nat}{env:ar}{h:J}{id:Nat}:eu P N vars (.exit id) env h (.exit id) env h:=by
 refine⟨J.step.refl h,fun code aj base G al w a cI hV bv bZ aM c3 Q dZ=>?_⟩;cases code<;>simp only[eD]at aj;subst aj;exact wpIn_exit (dZ a al w ⟨fj.refl _ _ _,c3,HO,b1.congr aM (over_self bv),gi.refl _ _⟩)
theorem eu.ret{N:Nat}{vars:List Nat}{env:ar}{h:J}:eu P N vars .ret env h .ret env h:=by
 refine⟨J.step.refl h,fun code aj base G al w a cI hV bv bZ aM c3 Q dZ=>?_⟩;cases code<;>simp only[eD]at aj;exact wpIn_ret (dZ a al w ⟨fj.refl _ _ _,c3,HO,b1.congr aM (over_self bv),gi.refl _ _⟩)
theorem Mv{N:Nat}{vars:List Nat}{aQ:Array Oper}{fq:Bool}{a6:List aF}{outs:List (Nat × Nat)}(aN:Am P N vars aQ fq a6 outs){id:Nat}{env ts:ar}{h D:J}
  (hr:sU P a6 [] [] env h ts D){base:Nat}{G:Nat→Option bQ}{al:Ren}{w:World}{a:Act}(cI:Option Nat) (bv:h.hX G) (bZ:jf al h.next D.next) (aM:b1 base G al w) (c3:kz al N vars env a.tmps){Q:Exit→Act→World→Prop}
  (dZ:∀ a' bd w',Left true base G al w a N vars h D (kX ts outs env) a' bd w' →
   (∀(d:Nat) s o t v,a6[a6.length-1-d]?=some s→d<a6.length→aQ[s.j]?=some o→o.dst=some t→ts[d]?=some v→∃ v',a'.tmps[t]?=some v'∧bL bd v v')→Q .normal a' w') :
  (Code.region id aQ fq).wpIn (hG cI) 0 P Q a w:=by
 obtain⟨bI,aN⟩:=aN;obtain⟨ak,vq,bG,_,A,S,ae,_,aB⟩:=ad5 a6 [] 0 (fun _=>undef) h D ts hr;simp only[zS]at A S ae aB;subst A;subst S;have C:h1 P aQ a6 (lY bI) ak vq env vars N base G al w (fun _=>True):=⟨aN.aW,⟨bG,fun p s hp=>.inl ⟨trivial,by simpa using aB p s hp⟩⟩,bv,bZ,aM⟩;have pk:∀(ce:Nat→Prop) dP er,Inv aQ a6 ak vq env vars N base G al w a ce dP er→(∀(p:Nat) s,a6[p]?=some s→ce s.j)→Q .normal dP er:=by
  intro ce dP er bi gs;obtain⟨bd,az,aL,bq,cV,h2,hH⟩:=C.finish bi gs aN.outs c3.len;rw[ae]at dZ;refine dZ dP bd er ⟨az,h2,⟨[],Marks.none _ _ _,cV,fun _=>rfl⟩,aL,bq⟩ fun d s o t v jl hd ah aC ad=>?_;obtain⟨v',aG,a1⟩:=hH _ s o t jl ah aC;rw[Ig vq _ d hd]at ad;cases ad;exact⟨v',aG,a1⟩
 cases fq with
 |true =>
  refine wpIn_region_any (aN.mixed rfl) ?_;refine C.afk (fun _=>trivial) aN.order cI pk aQ.size _ _ _ (by simp) (by simp) (fun i au=>?_) ?_
  ·simp[lF,ND]at au;split at au<;>simp at au
  ·refine Inv.congr (fun i=>?_) (C.start (w:={ w with drawn:=w.drawn+1 }) ⟨rfl,rfl,rfl,rfl⟩ c3);constructor
   ·exact fun h=>h.elim
   ·intro au;simp[lF,ND]at au;split at au<;>simp at au
 |false =>
  refine wpIn_region ?_;rw[List.range_eq_range'];exact C.aqH (fun _=>trivial) aN.order cI pk aQ.size 0 a w (by simp) (Inv.congr (fun i=>⟨fun h=>h.elim,fun h=>by omega⟩) (C.start (w:=w) ⟨rfl,rfl,rfl,rfl⟩ c3))
theorem eu.aW{N:Nat}{vars:List Nat}{a6:List aF}{outs:List (Nat × Nat)}{env ts:ar}{h D:J}(hr:sU P a6 [] [] env h ts D) :
  eu P N vars (.aW a6 outs) env h .normal (kX ts outs env) D:=by
 refine⟨hr.step,fun code aj base G al w a cI hV bv bZ aM c3 Q dZ=>?_⟩;cases code<;>simp only[eD]at aj;exact Mv aj hr cI bv bZ aM c3 fun a' bd w' ag _=>dZ a' bd w' ag
theorem eu.seq{N:Nat}{vars:List Nat}{bk bJ:bo}{env gD jB:ar}{h A S:J}{x:dM}(t1:eu P N vars bk env h .normal gD A)(t2:eu P N vars bJ gD A x jB S) :
  eu P N vars (.seq bk bJ) env h x jB S:=by
 refine⟨t1.1.trans t2.1,fun code aj base G al w a cI hV bv bZ aM c3 Q dZ=>?_⟩;cases code<;>simp only[eD]at aj;refine wpIn_seq (t1.2 _ aj.1 base G al w a cI (fun e=>hV (by simp[bo.cX,e])) bv (bZ.left t2.1.next) aM c3 _ fun a' bd w' ag=>?_);exact t2.2 _ aj.2 base (over A G) bd w' a' cI (fun e=>hV (by simp[bo.cX,e])) (oO _ _) (bZ.right t1.1.next ag.agree) ag.fI ag.env _ fun a2 fZ dd bC=>dZ a2 fZ dd (ag.trans t1.1 t2.1 (fun e=>by simpa[bo.cX] using e) bC)
theorem eu.ME{N:Nat}{vars:List Nat}{bk bJ:bo}{env gD:ar}{h A:J}{x:dM}(t1:eu P N vars bk env h x gD A)(af:x≠.normal) :
  eu P N vars (.seq bk bJ) env h x gD A:=by
 refine⟨t1.1,fun code aj base G al w a cI hV bv bZ aM c3 Q dZ=>?_⟩;cases code<;>simp only[eD]at aj;refine wpIn_seq (t1.2 _ aj.1 base G al w a cI (fun e=>hV (by simp[bo.cX,e])) bv bZ aM c3 _ fun a' bd w' ag=>?_);have:=dZ a' bd w' (ag.wc fun e=>by simp[bo.cX]at e;exact e.1);cases x<;>first|(exact absurd rfl af)|exact this
theorem eu.hK{N:Nat}{vars:List Nat}{a6:List aF}{outs:List (Nat × Nat)}{d:Nat}{bk bJ:bo}{env ts jB:ar}{h A S:J}{x:dM}{b:Bool}(hr:sU P a6 [] [] env h ts A)
  (hd:ts[d]?=some (.bool b)) (t2:eu P N vars (if b then bk else bJ) (kX ts outs env) A x jB S):eu P N vars (.hK a6 outs d bk bJ) env h x jB S:=by
 refine⟨hr.step.trans t2.1,fun code aj base G al w a cI hV bv bZ aM c3 Q dZ=>?_⟩;cases code<;>first|(simp only[eD]at aj;done)|skip
 rename_i wg xY;cases wg<;>first|(simp only[eD]at aj;done)|skip
 rename_i id aQ fq;cases xY<;>first|(simp only[eD]at aj;done)|skip
 rename_i n7 hQ bl;cases n7<;>first|(simp only[eD]at aj;done)|skip
 rename_i v6;simp only[eD]at aj;obtain⟨aN,⟨tb,s,o,s5,pg,tU⟩,A1,y3⟩:=aj;refine wpIn_seq (Mv aN hr cI bv (bZ.left t2.1.next) aM c3 fun a' bd w' ag SY=>?_);obtain⟨v',aB,aG⟩:=SY d s o _ _ s5 tb pg tU hd;have T:=aG.bool;subst T;have sk:a'.eval (.tmp v6)=.bool b:=by simp only[Act.eval,lF,aB];rfl
 refine wpIn_cond sk ?_;have:=t2.2 (if b then hQ else bl) (by cases b<;>first|exact A1|exact y3) base (over A G) bd w' a' cI (fun e=>hV (by cases b<;>simp_all [bo.cX])) (oO _ _) (bZ.right hr.step.next ag.agree) ag.fI ag.env Q fun a2 fZ dd bC=>dZ a2 fZ dd (ag.trans hr.step t2.1 (fun e=>⟨rfl,by cases b<;>simp_all [bo.cX]⟩) bC);exact this
theorem eu.cond{N:Nat}{vars:List Nat}{y:Arg}{bk bJ:bo}{env jB:ar}{h S:J}{x:dM}{b:Bool}(hd:y.ev [] env=some (.bool b))(t2:eu P N vars (if b then bk else bJ) env h x jB S) :
  eu P N vars (.cond y bk bJ) env h x jB S:=by
 refine⟨t2.1,fun code aj base G al w a cI hV bv bZ aM c3 Q dZ=>?_⟩;cases code<;>first|(simp only[eD]at aj;done)|skip
 rename_i n7 hQ bl;simp only[eD]at aj;obtain⟨af,A1,y3⟩:=aj;have sk:a.eval n7=.bool b:=by
  unfold Ix at af;split at af
  ·simp only[Arg.ev]at hd;obtain⟨v',aB,aG⟩:=c3.get _ _ _ af hd;have T:=aG.bool;subst T;simp only[Act.eval,lF,aB];rfl
  ·simp only[Arg.ev]at hd;cases hd;obtain⟨rfl,_⟩:=af;rfl
  ·exact af.elim
 refine wpIn_cond sk ?_;exact t2.2 (if b then hQ else bl) (by cases b<;>first|exact A1|exact y3) base G al w a cI (fun e=>hV (by cases b<;>simp_all [bo.cX])) bv bZ aM c3 Q fun a' bd w' ag=>dZ a' bd w' (ag.wc fun e=>by cases b<;>simp_all [bo.cX])
section
variable {b:Frame}{a:Act}{k:List Item}{cs:List Frame}{w:World}{Q:Exit→Act→World→Prop}{F:Fence}{n:Nat}
theorem Er{c:Code}:step P (lone (b.atR a (.code (.scope c)::k)) cs w)=.next (lone (b.atR a (.code c::.inScope c::k)) cs w) :=
 step_lone_go (by simp[stepG,stepG.exec,Frame.atR])
theorem aqp{c:Code}:step P (lone (b.atR a (.inScope c::k)) cs w)=.next (lone (b.atR a k) cs w) :=
 step_lone_go (by simp[stepG,stepG.exec,Frame.atR])
theorem aeD{c:Code}(h:c.wpIn F n P (Exit.noGoto Q) a w):(Code.scope c).wpIn F n P Q a w:=by
 intro b k cs hV T hr;have h0:(lone (b.atR a (.code (.scope c)::k)) cs w).fenced P F:=fenced_calm T hr rfl;obtain⟨e,ES,In,L,C9⟩:=h b (.inScope c::k) cs hV T hr;cases e with
 |normal=>exact⟨.normal,ES,In,L,.head h0 Er (StepsIn.trans C9 (.one (fenced_calm T hr rfl) aqp))⟩
 |exit pw =>
  have af:exitTo pw (.inScope c::k)=exitTo pw k:=by simp[exitTo]
  exact⟨.exit pw,ES,In,L,fun hY ab=>.head h0 Er (C9.1 hY (by rw[af];exact ab)),
   fun mK ab=>let ⟨akI,A,S⟩:=C9.2 mK (by rw[af];exact ab);⟨akI,A,.head h0 Er S⟩⟩
 |goto l=>exact L.elim
 |ret=>exact⟨_,ES,In,L,.of_steps (.one h0 Er) C9⟩
 |panic arL=>exact⟨_,ES,In,L,.of_steps (.one h0 Er) C9⟩
 |outgrown=>exact⟨_,ES,In,L,.of_steps (.one h0 Er) C9⟩
end
theorem eu.label{N:Nat}{vars:List Nat}{env:ar}{h:J}:eu P N vars .label env h .normal env h:=by
 refine⟨J.step.refl h,fun code aj base G al w a cI hV bv bZ aM c3 Q dZ=>?_⟩;cases code<;>simp only[eD]at aj;exact wpIn_label (dZ a al w ⟨fj.refl _ _ _,c3,HO,b1.congr aM (over_self bv),gi.refl _ _⟩)
theorem eu.scope{N:Nat}{vars:List Nat}{c:bo}{env gD:ar}{h A:J}{x:dM}(t:eu P N vars c env h x gD A) :
  eu P N vars (.scope c) env h x gD A:=by
 refine⟨t.1,fun code aj base G al w a cI hV bv bZ aM c3 Q dZ=>?_⟩;cases code<;>simp only[eD]at aj;refine aeD (t.2 _ aj base G al w a cI hV bv bZ aM c3 _ fun a' bd w' ag=>?_);have:=dZ a' bd w' ag;cases x<;>exact this
theorem eu.block{N:Nat}{vars:List Nat}{id:Nat}{c:bo}{env gD:ar}{h A:J}{x:dM}(t:eu P N vars c env h x gD A) :
  eu P N vars (.block id c) env h (if x=.exit id then .normal else x) gD A:=by
 refine⟨t.1,fun code aj base G al w a cI hV bv bZ aM c3 Q dZ=>?_⟩;cases code<;>simp only[eD]at aj;obtain⟨rfl,aj⟩:=aj;refine wpIn_block (t.2 _ aj base G al w a cI hV bv bZ aM c3 _ fun a' bd w' ag=>?_);have:=dZ a' bd w' ag;cases x with
 |normal=>exact this
 |ret=>exact this
 |exit i =>
  simp only[dM.Ki,Exit.inBlock];by_cases e:i=id
  ·subst e;rw[if_pos rfl]at this ⊢;exact this
  ·simp only[e,if_false];simpa[e,dM.Ki] using this
inductive yb(P:Program)(N:Nat)(vars:List Nat)(c:bo):Nat→ar→J→dM→ar→J→Prop
 |stop {env h x gD A}(t:eu P N vars c env h x gD A) (af:x≠.normal):yb P N vars c 1 env h x gD A
 |next {m env h gD A x jB S}(t:eu P N vars c env h .normal gD A) (r:yb P N vars c m gD A x jB S):yb P N vars c (m+1) env h x jB S
def Ak(P:Program)(N:Nat)(vars:List Nat)(c:bo)(env:ar)(h:J)(x:dM)(gD:ar)(A:J):Prop:=∃ m,yb P N vars c m env h x gD A
theorem Ak.stop{N:Nat}{vars:List Nat}{c:bo}{env h x gD A}(t:eu P N vars c env h x gD A)(af:x≠.normal):Ak P N vars c env h x gD A:=⟨1,.stop t af⟩
theorem Ak.next{N:Nat}{vars:List Nat}{c:bo}{env h gD A x jB S}(t:eu P N vars c env h .normal gD A)(r:Ak P N vars c gD A x jB S):Ak P N vars c env h x jB S :=
 let ⟨m,r⟩:=r;⟨m+1,.next t r⟩
theorem yb.step{N:Nat}{vars:List Nat}{c:bo}{m:Nat}{env gD:ar}{h A:J}{x:dM}(t:yb P N vars c m env h x gD A):h.step A:=by
 induction t with
 |stop t _=>exact t.1
 |next t _ ih=>exact t.1.trans ih
theorem yb.rounds{N:Nat}{vars:List Nat}{c:bo}{body:Code}(aj:eD P N vars c body)(base:Nat)(cI:Option Nat)(hV:c.cX=false→cI=none){m:Nat}{env gD:ar}{h A:J}{x:dM}(t:yb P N vars c m env h x gD A) :
  ∀(G:Nat→Option bQ) (al:Ren) (w:World) (a:Act),h.hX G→jf al h.next A.next→b1 base G al w→kz al N vars env a.tmps→∀ Q:Exit→Act→World→Prop,(∀ a' bd w',Left c.cX base G al w a N vars h A gD a' bd w'→Q x.Ki a' w') →
   Code.roundsIn (hG cI) 0 P body Q m a w:=by
 induction t with
 |stop t af =>
  rename_i x _ _;intro G al w a bv bZ aM c3 Q dZ;refine t.2 _ aj base G al w a cI hV bv bZ aM c3 _ fun a' bd w' ag=>?_;have:=dZ a' bd w' ag;cases x<;>first|(exact absurd rfl af)|exact this
 |next t r ih =>
  intro G al w a bv bZ aM c3 Q dZ;have bu:=r.step;refine t.2 _ aj base G al w a cI hV bv (bZ.left bu.next) aM c3 _ fun a' bd w' ag=>?_;exact ih (over _ G) bd w' a' (oO _ _) (bZ.right t.1.next ag.agree) ag.fI ag.env Q fun a2 fZ dd bC=>dZ a2 fZ dd (ag.trans t.1 bu (fun e=>⟨e,e⟩) bC)
theorem eu.loop{N:Nat}{vars:List Nat}{c:bo}{env gD:ar}{h A:J}{x:dM}(t:Ak P N vars c env h x gD A):eu P N vars (.loop c) env h x gD A:=by
 obtain⟨m,t⟩:=t;refine⟨t.step,fun code aj base G al w a cI hV bv bZ aM c3 Q dZ=>?_⟩;cases code<;>simp only[eD]at aj;exact wpIn_loop_rounds m (t.rounds aj base cI hV G al w a bv bZ aM c3 Q dZ)
end Go.Eng
namespace Go.Eng
open Go
variable {P:Program}
inductive l7 where
 |var (k:Nat)
 |cell (k:Nat) (agg:Bool) (size:Nat)
 deriving Inhabited
structure bB where
 iH:Nat
 vars:List Nat
 body:bo
 results:List l7
 deriving Inhabited
def l7.get(env:ar)(h:J):l7→Option Value
 |.var k=>env[k]?
 |.cell k agg size=>match env[k]? with
  |some p=>aw (.load agg size) [p] h.get
  |none=>none
def hF(env:ar)(h:J):List l7→Option (ar)
 |[]=>some []
 |r::b3=>match r.get env h,hF env h b3 with
  |some v,some l=>some (v::l)
  |_,_=>none
def packed:ar→Value
 |[v]=>v
 |vs=>.tuple vs.toArray
def Cx(P:Program)(vars:List Nat):ResultVar→l7→Prop
 |.tmp t,.var k=>vars[k]?=some t
 |.cell a t,.cell k agg size=>vars[k]?=some a∧xm P t=some agg∧gJ P t=some size
 |_,_=>False
structure bK(P:Program)(f:FuncId)(bm:bB):Prop where
 fn : ∃ fn code, P.funcs[f]? = some fn ∧ fn.body = some code ∧ (fn.name == "runtime.NumGoroutine") = false ∧ eD P fn.ntmps bm.vars bm.body code ∧ n1 (Cx P bm.vars) fn.results.toList bm.results ∧ bm.iH ≤ fn.ntmps ∧
  (∀(k:Nat) s,bm.vars[k]?=some s→(k<bm.iH→s=k)∧(bm.iH≤k→bm.iH≤s∧s<fn.ntmps))∧bm.iH≤bm.vars.length
theorem bK.enters{f:FuncId}{bm:bB}(h:bK P f bm):Enters P f:=by
 obtain ⟨fn,code,A,S,ae,_⟩:=h.fn;intro args w;have tU : ¬ fn.name = "runtime.NumGoroutine" := by simpa using ae
 simp[callFunc,A,tU,S]
def kn(bm:bB)(args:ar):ar:=args++List.replicate (bm.vars.length-args.length) undef
def J.Ca(n:Nat)(h:J):J where
 next:=h.next
 get:=fun id=>match h.get id with
  |some .k0=>if n≤id then some .dead else some .k0
  |o=>o
 wf:=fun id cQ=>by rw[h.wf id cQ]
def fin(iI:Bool)(n:Nat)(h:J):J:=match iI with|true=>h|false=>h.Ca n
theorem J.MR(n:Nat)(h:J)(id:Nat):(h.Ca n).get id=h.get id∨((h.Ca n).get id=some .dead∧h.get id=some .k0∧n≤id):=by
 simp only[J.Ca];split
 ·rename_i hd;split
  ·exact .inr ⟨rfl,hd,by assumption⟩
  ·exact .inl hd.symm
 ·exact .inl rfl
theorem J.aqA{n:Nat}{h:J}{id:Nat}(hd:h.get id=some .k0)(hn:n≤id):(h.Ca n).get id=some .dead:=by
 simp only[J.Ca,hd,hn,if_true]
theorem J.aqq{h A:J}(s:h.step A):h.step (A.Ca h.next):=by
 refine⟨s.next,fun id cQ=>?_,fun id ag hn=>?_,fun id hd=>?_⟩
 ·have:=s.gC id cQ;rcases A.MR h.next id with e|⟨e,_,_⟩<;>rw[e]
  ·exact this
  ·rfl
 ·have:=s.back id ag hn;rcases A.MR h.next id with e|⟨_,e,_⟩
  ·rw[e,this]
  ·rw[this]at e;cases e
 ·have s5:=s.k0 id hd;have ag:=J.bY hd;rcases A.MR h.next id with e|⟨_,_,e⟩
  ·rw[e,s5]
  ·omega
theorem b1.akB{base:Nat}{G qo:Nat→Option bQ}{al:Ren}{w:World}(h:b1 base G al w)(ab:∀ id,qo id=G id∨(qo id=some .dead∧(G id).isSome=true)):b1 base qo al w where
 gC:=fun id=>by
  rcases ab id with e|⟨e,aL⟩
  ·rw[e];exact h.gC id
  ·rw[e,← h.gC id,aL];rfl
 size:=h.size
 nJ:=h.nJ
 lE:=h.lE
 obj:=fun id o l aA ag=>by
  rcases ab id with e|⟨e,_⟩
  ·exact h.obj id o l (by rw[← e];exact aA) ag
  ·rw[e]at aA;cases aA;trivial
 inj:=fun i j hE BQ zJ hl j6 yT H1 Mz cH ah hd=>by
  rcases ab i with e|⟨e,_⟩
  ·rcases ab j with cA|⟨cA,_⟩
   ·exact h.inj i j hE BQ zJ hl (by rw[← e];exact j6) (by rw[← cA];exact yT) H1 Mz cH ah hd
   ·rw[cA]at yT;cases yT;exact absurd rfl hd
  ·rw[e]at j6;cases j6;simp[bQ.own]at ah
theorem ab5{F:Fence}{n:Nat}{fn:Func}{tmps:Array Value}{R:Ending→World→Prop}{base:Nat}{al:Ren}:∀(lA:List Nat) (G:Nat→Option bQ) (w:World),b1 base G al w→lA.Nodup→(∀ m∈lA,G m=some .k0) →
  (∀ EG dd,b1 base EG al dd→(∀ id,EG id=if id∈lA then some .dead else G id)→gi base w dd→LeavesIn F n P fn tmps R [] .returning dd) →
  LeavesInM F n P fn tmps R (lA.map fun m=>{ target:=.collected ((al m).map (·.b)|>.getD 0),args:=#[] }) .returning w
 |[],G,w,aM,_,_,pk=>pk G w aM (by simp) (gi.refl _ _)
 |m::lA,G,w,aM,hn,hd,pk=>by
  have hm:=hd m (by simp);have Dd:=aM.gC m;rw[hm]at Dd;obtain⟨l,ag⟩:=r1.1 Dd.symm;have ah:=aM.obj m _ l hm ag;have vn:=List.nodup_cons.1 hn;have aV:l.b<w.heap.size:=aM.lE m l ag;refine⟨by simp,.inl ⟨l.b,w.putObj l.b (.deferred none),by simp[ag],run_takeDeferred ah.2.2,?_⟩⟩;have RI:b1 base (fS G m .dead) al (w.putObj l.b (.deferred none)):=aM.write m _ .dead l hm ag rfl (by simp) (fun b T=>World.putObj_heap_other T) trivial;refine ab5 lA (fS G m .dead) _ RI vn.2 (fun m' Dm=>?_) fun EG dd S aA dS=>?_
  ·have:m'≠m:=fun e=>vn.1 (e ▸ Dm);simp only[fS,this,if_false];exact hd m' (by simp[Dm])
  ·refine pk EG dd S (fun id=>?_) (gi.trans ⟨by simp,fun b T=>World.putObj_heap_other (by have:=ah.2.1;omega),rfl,rfl,rfl,fun a _=>Rh ah.2.2 (by simp) (by simp) a⟩ dS);rw[aA id];by_cases e:id∈lA
   ·simp[e]
   ·by_cases aL:id=m
    ·simp[aL,fS,vn.1]
    ·simp[e,aL,fS]
def aeL(P:Program)(N:Nat)(bm:bB)(args:ar)(h:J)(v:Value)(D:J):Prop :=
 ∃ x mf vs A,eu P N bm.vars bm.body (kn bm args) h x mf A∧(x=.normal∨x=.ret)∧D=fin bm.body.cX h.next A∧hF mf D bm.results=some vs∧v=packed vs
theorem Mw{vars:List Nat}{N:Nat}{al:Ren}{env:ar}{a:Act}(c3:kz al N vars env a.tmps){base:Nat}{G:Nat→Option bQ}{w:World}(aM:b1 base G al w){h:J}(bv:h.hX G) :
  ∀ {b3:List ResultVar}{cs:List l7},n1 (Cx P vars) b3 cs→∀ {vs:ar},hF env h cs=some vs →
   ∃ gM,be al vs gM∧(b3.mapM (fun|.tmp t=>pure (a.tmps.getD t undef)|.cell p t=>do loadVar t (← asAddr (a.tmps.getD p undef)):ResultVar→Sem Value)).run P w=.ok gM w
 |_,_,.nil,vs,ad=>by cases ad;exact⟨[],.nil,by simp⟩
 |r::b3,c::cs,.cons A hr,vs,ad=>by
  simp only[hF]at ad;split at ad<;>first|(cases ad;done)|skip
  rename_i v l fr ag;cases ad;obtain⟨gM,S,ae⟩:=Mw c3 aM bv hr ag;unfold Cx at A;split at A
  ·rename_i t k;simp only[l7.get]at fr;obtain⟨v',aB,aG⟩:=c3.get k t v A fr;refine⟨v'::gM,.cons _ _ _ _ aG S,?_⟩;have:a.tmps.getD t undef=v':=by simp[lF,aB]
   simp only[List.mapM_cons,Sem.run_bind,Sem.run_pure,Result.andThen_ok,this,ae]
  ·rename_i p t k agg size;obtain⟨ab,aiH,ajU⟩:=A;simp only[l7.get]at fr;split at fr<;>first|(cases fr;done)|skip
   rename_i rU hp;obtain⟨pC,aB,aG⟩:=c3.get k p rU ab hp;have rA:a.tmps.getD p undef=pC:=by simp[lF,aB]
   have yX:aw (.load agg size) [rU] G=some v:=by
    unfold aw at fr ⊢;split at fr<;>first|(cases fr;done)|contradiction|skip
    rename_i se afi aqa id off A4 A5;cases A4;cases A5;split at fr<;>first|(cases fr;done)|skip
    all_goals
     rename_i aj;simp only[bv _ _ aj];exact fr
   let ev:Operand→Value:=fun _=>pC;have jH:kindOf P (.load t (.tmp p))=some (.r (.load agg size),[.tmp p]):=by simp[kindOf,aiH,ajU]
   obtain ⟨v',a1,bN⟩:=acr (ev:=ev) jH (.cons _ _ _ _ aG .nil) aM yX;have b7 := bN { dst := none, op := .load t (.tmp p), type := 0, pos := "", after := #[], guard := none } rfl;have pt:∃ EO,pC = .pointer (some EO):=by
    unfold aw at yX;split at yX<;>first|(cases yX;done)|contradiction|skip
    rename_i A4 A5;cases A5;obtain⟨l,_,e⟩:=aG.sI;exact⟨_,e⟩
   obtain⟨EO,rfl⟩:=pt;have dE:(loadVar t EO).run P w=.ok v' w:=by
    simp only[execOp,Instr.loadAt,ev,Instr.sureAddr,Sem.run_bind,Sem.run_pure,Result.andThen_ok]at b7;cases af:(loadVar t EO).run P w with
    |ok x dd=>rw[af]at b7;simp at b7;rw[b7.1,b7.2]
    |halt x dd=>rw[af]at b7;simp at b7
   refine⟨v'::gM,.cons _ _ _ _ a1 S,?_⟩;have ai:(asAddr (a.tmps.getD p undef)).run P w=.ok EO w:=by rw[rA];rfl
   simp only[List.mapM_cons,Sem.run_bind,Sem.run_pure,Result.andThen_ok,ai,dE,ae]
  ·exact A.elim
theorem my.abF{f:FuncId}{bm:bB}(aZ:bK P f bm){args:ar}{h D:J}{v:Value}(hn:args.length=bm.iH){fn:Func}(mj:P.funcs[f]?=some fn)(T:aeL P fn.ntmps bm args h v D):my P f args h v D:=by
 obtain⟨Rg,code,A,S,ae,aB,aG,a1,bN,b7⟩:=aZ.fn;rw[mj]at A;cases A;have A:=mj;obtain⟨x,mf,vs,cM,aC,af,rfl,kq,rfl⟩:=T;have dS:h.step (fin bm.body.cX h.next cM):=by
  cases bm.body.cX
  ·exact J.aqq aC.1
  ·exact aC.1
 have w4:(fin bm.body.cX h.next cM).next=cM.next:=by cases bm.body.cX<;>rfl
 refine⟨aZ.enters,dS,fun base G al w gq bv bZ aM ct=>?_⟩;have ag:gq.length=bm.iH:=by rw[← ct.length];exact hn
 refine callsIn_wide.1 (callsIn_of_wp_marks (n:=0) A S trivial ?_);have sy:hG none=Fence.wide:=rfl;rw[← sy];rw[w4]at bZ;refine aC.2 code aB base G al w _ none (fun _=>rfl) bv bZ aM ?_ _ fun a' bd w' ag=>?_
 ·refine⟨by simp;omega,by simp[kn];omega,fun k s v ab ad=>?_⟩;obtain⟨ai,T⟩:=bN k s ab;by_cases Gq:k<bm.iH
  ·obtain rfl:=ai Gq;simp only[kn]at ad;rw[PF (by omega)]at ad;obtain⟨v',az,aL⟩:=ct.get s v ad;refine⟨v',?_,aL⟩;rw[Pf (by simp;omega)];simpa using az
  ·obtain⟨fg,dx⟩:=T (by omega);simp only[kn]at ad;rw[List.getElem?_append_right (by omega)]at ad;have Hc:v=undef:=by
    have:=List.mem_of_getElem? ad;exact(List.mem_replicate.1 this).2
   subst Hc;refine⟨undef,?_,.same _ rfl⟩;rw[Array.getElem?_append_right (by simp;omega),ND,if_pos];simp only[List.size_toArray];omega
 ·obtain⟨bG,⟨lA,fU,Sr,vg⟩,dR,iW⟩:=ag.defers;simp only[zR]at dR;have aiZ:∀ m∈lA,over cM G m=some .k0:=fun m hm=>oO cM G m _ (Sr m hm).2;have pk:LeavesInM (hG none) 0 P fn a'.tmps (fun e w'=>∃ v' bd,e=.returned v'∧lh base G al w h (fin bm.body.cX h.next cM) (packed vs) v' bd w') a'.defers .returning w':=by
   rw[dR,vg];refine ab5 lA (over cM G) w' ag.fI fU aiZ fun EG dd RI yX ajZ=>?_;have C7:b1 base (over (fin bm.body.cX h.next cM) G) bd dd:=by
    refine RI.akB fun id=>?_;cases ajz:bm.body.cX with
    |true =>
     have bp:=iW ajz;rw[vg]at bp;have DG:lA=[]:=by simpa using bp
     left;rw[yX id,DG];simp[fin]
    |false =>
     simp only[fin];by_cases hm:id∈lA
     ·left;rw[yX id,if_pos hm];unfold over;rw[J.aqA (Sr id hm).2 (Sr id hm).1];rfl
     ·rw[yX id,if_neg hm];rcases cM.MR h.next id with e|⟨e,aL,_⟩
      ·left;unfold over;rw[e]
      ·right;unfold over;rw[e,aL];exact⟨rfl,rfl⟩
   have Ge:kz bd fn.ntmps bm.vars mf a'.tmps:=ag.env;obtain⟨gM,az,aL⟩:=Mw (P:=P) Ge C7 (oO (fin bm.body.cX h.next cM) G) aG kq;have e4:(results fn a'.tmps).run P dd=.ok (packed gM) dd:=by
    unfold results;rw[Array.mapM_eq_mapM_toList];simp only[Sem.run_bind,Sem.run_map]
    erw[aL]
    simp only[Result.andThen_ok];cases gM with
    |nil=>rfl
    |cons x r=>cases r with
     |nil=>rfl
     |cons y r=>simp[packed]
   have ak7:bL bd (packed vs) (packed gM):=by
    cases az with
    |nil=>exact .tuple [] [] .nil
    |cons x hZ r dL af hr=>cases hr with
     |nil=>exact af
     |cons y Cn bM acf bw hr=>exact .tuple _ _ (.cons _ _ _ _ af (.cons _ _ _ _ bw hr))
   have A0:fj al bd h.next (fin bm.body.cX h.next cM).next:=by rw[w4];exact ag.agree
   exact⟨packed gM,e4,packed gM,bd,rfl,⟨A0,ak7,C7,ag.step.trans ajZ⟩⟩
  rcases af with rfl|rfl<;>exact pk
end Go.Eng
namespace Go.Eng
open Go
def Ay(aQ:Array Oper)(j:Nat):List Nat :=
 match aQ[j]? with
 |some o=>o.after.toList.filterMap fun e=>if Region.binds .any e then some e.on else none
 |none=>[]
def IU(l:List Nat):List Nat→List Nat
 |[]=>l
 |x::r=>IU (if l.contains x then l else l++[x]) r
def aln(aQ:Array Oper):List (List Nat) :=
 (List.range aQ.size).foldl (fun IT j=>IT++[IU [] (Ay aQ j++(Ay aQ j).flatMap fun i=>IT.getD i [])]) []
def alo(aQ:Array Oper):List (List Nat):=(List.range aQ.size).map List.range
def Mg(aQ:Array Oper)(bI:List (List Nat))(fq:Bool):Bool :=
 if fq then((List.range bI.length).all fun j=>(lY bI j).all fun i=>(Ay aQ j).contains i || (Ay aQ j).any fun k=>(lY bI k).contains i) && ((List.range aQ.size).all fun j=>(Ay aQ j).all (decide <| · < j))
 else(List.range bI.length).all fun j=>(lY bI j).all (decide <| · < j)
def akr(P:Program)(op:Op):Bool:=match kindOf P op with|some (k,_)=>k.cD|none=>false
def aor(P:Program)(aQ:Array Oper)(bI:List (List Nat)):List Nat :=
 let es:=(List.range aQ.size).filter fun j=>match aQ[j]? with|some o=>akr P o.op|none=>false
 let head:=es.foldl (fun IT e=>IU IT ((List.range aQ.size).filter fun i=>i==e || (lY bI e).contains i)) []
 IU head (List.range aQ.size)
def nodupB:List Nat→Bool
 |[]=>true
 |x::r=>!r.contains x && nodupB r
def yw:List (Option Nat)→Bool
 |[]=>true
 |none::r=>yw r
 |some d::r=>!r.contains (some d) && yw r
def zq(t:Nat):List Nat→Nat→Option Nat
 |[],_=>none
 |x::r,i=>if x==t then some i else zq t r (i+1)
def adT(aQ:Array Oper)(ei:List Nat)(bI:List (List Nat))(p j t d:Nat):Bool :=
 decide (d<p) && match ei[p-1-d]? with
 |some i=>(match aQ[i]? with|some o=>o.dst==some t|none=>false) && (lY bI j).contains i
 |none=>false
def aei(aQ:Array Oper)(vars:List Nat)(bI:List (List Nat))(j t k:Nat):Bool :=
 vars[k]?==some t && (List.range aQ.size).all fun i=>match aQ[i]? with|some o=>o.dst != some t || i==j || (lY bI i).contains j|none=>true
def writer(aQ:Array Oper)(ei:List Nat)(t:Nat):Option Nat:=(List.range ei.length).find? fun q=>match ei[q]? with|some i=>(match aQ[i]? with|some o=>o.dst==some t|none=>false)|none=>false
def T4(aQ:Array Oper)(ei:List Nat)(vars:List Nat)(bI:List (List Nat))(p j:Nat):Operand→Option Arg
 |.tmp t =>
  let d:=p-1-(writer aQ ei t).getD p
  if adT aQ ei bI p j t d then some (.t d) else
  match zq t vars 0 with
  |some k=>if aei aQ vars bI j t k then some (.v k) else none
  |none=>none
 |.const v=>if Value.plain v then some (.c v) else none
 |.func f=>some (.f f)
 |.global _=>none
def DY(aQ:Array Oper)(ei:List Nat)(vars:List Nat)(bI:List (List Nat))(p j:Nat):List Operand→Option (List Arg)
 |[]=>some []
 |x::r=>match T4 aQ ei vars bI p j x,DY aQ ei vars bI p j r with
  |some a,some l=>some (a::l)
  |_,_=>none
def L2(aQ:Array Oper)(ei:List Nat)(bI:List (List Nat))(p j:Nat):Option (Nat × Bool)→Option (Option (Nat × Bool))
 |none=>some none
 |some (j6,pI) =>
  match aQ[j6]? with
  |some o=>match o.dst with
   |some t =>
    let d:=p-1-(zq j6 ei 0).getD p
    if decide (d<p) && ei[p-1-d]?==some j6 && (lY bI j).contains j6 && t==t then some (some (d,pI)) else none
   |none=>none
  |none=>none
def XV(P:Program)(aQ:Array Oper)(ei:List Nat)(bI:List (List Nat))(p j:Nat):Bool :=
 (ei.drop (p+1)).any fun l=>(match aQ[l]? with|some o=>(match kindOf P o.op with|some (k,_)=>k.dF|none=>false)|none=>false) && !(lY bI l).contains j
def tm(P:Program)(aQ:Array Oper)(xD:List Nat)(vars:List Nat)(bI:List (List Nat)):Nat→List Nat→Option (List aF)
 |_,[]=>some []
 |p,j::r =>
  match aQ[j]? with
  |some o=>match kindOf P o.op with
   |some (k,xs)=>match DY aQ xD vars bI p j xs,L2 aQ xD bI p j o.guard,tm P aQ xD vars bI (p+1) r with
    |some args,some g,some l=>some ({ j,k,args,g,q:=k.cD && XV P aQ xD bI p j }::l)
    |_,_,_=>none
   |none=>none
  |none=>none
def ahr(a6:List aF)(bI:List (List Nat)):Bool :=
 (List.range a6.length).all fun p=>match a6[p]? with
  |some s=>!s.k.cD || (a6.take p).all fun a8=>(lY bI s.j).contains a8.j
  |none=>true
def H8(a6:List aF)(bI:List (List Nat)):Bool :=
 (List.range a6.length).all fun p=>match a6[p]? with
  |some s=>!s.k.dF || (a6.take p).all fun a8=>!a8.k.cD || (lY bI s.j).contains a8.j || a8.q
  |none=>true
def Mu(N:Nat)(aQ:Array Oper)(ei:List Nat)(a6:List aF)(bI:List (List Nat)):Bool :=
 ei.length==aQ.size && ei.all (decide <| · < aQ.size) && ((List.range aQ.size).all fun j=>ei.contains j) && nodupB ei && yw (aQ.toList.map (·.dst)) &&
  (aQ.toList.all fun o=>match o.dst with|some d=>decide (d<N)|none=>true) && ahr a6 bI && H8 a6 bI
def T8(aQ:Array Oper)(ei:List Nat)(vars:List Nat):List (Nat × Nat) :=
 (List.range vars.length).filterMap fun k=>match vars[k]? with
  |some t=>(writer aQ ei t).map fun q=>(k,ei.length-1-q)
  |none=>none
def Mh(aQ:Array Oper)(ei:List Nat)(vars:List Nat)(outs:List (Nat × Nat)):Bool :=
 nodupB vars &&
 ((
  List.range aQ.size).all fun i=>match aQ[i]? with
  |some o=>(match o.dst with
   |some t=>(List.range vars.length).all fun k=>vars[k]? != some t || (List.range ei.length).any fun p=>ei[p]?==some i && outs.contains (k,ei.length-1-p)
   |none=>true)
  |none=>true) &&
 (outs.all fun(k,d)=>decide (d<ei.length) && match ei[ei.length-1-d]? with
  |some i=>(match aQ[i]? with|some o=>(match o.dst with|some t=>vars[k]?==some t|none=>false)|none=>false)
  |none=>false) &&
 nodupB (outs.map (·.1))
def QS(P:Program)(N:Nat)(vars:List Nat)(aQ:Array Oper)(fq:Bool):Option (List aF × List (Nat × Nat)) :=
 let bI:=if fq then aln aQ else alo aQ
 let ei:=if fq then aor P aQ bI else List.range aQ.size
 match tm P aQ ei vars bI 0 ei with
 |some a6 =>
  let outs:=T8 aQ ei vars
  if Mu N aQ ei a6 bI && Mg aQ bI fq && Mh aQ ei vars outs && (!fq || P.follows .mixedOrders) then some (a6,outs) else none
 |none=>none
def acj:Code→Code→Option (Array Oper × Bool × Tmp × Code × Code)
 |.region _ aQ fq,.cond (.tmp t) x y=>some (aQ,fq,t,x,y)
 |_,_=>none
def abf(vars:List Nat):Operand→Option Arg
 |.tmp t=>match zq t vars 0 with|some k=>if vars[k]?==some t then some (.v k) else none|none=>none
 |.const v=>if Value.plain v then some (.c v) else none
 |_=>none
def D0(vars:List Nat)(t:Nat):Option Nat:=match(List.range vars.length).find? fun k=>vars[k]?==some t with
 |some k=>if vars[k]?=some t then some k else none
 |none=>none
def T6(vars:List Nat):Operand→Option Arg
 |.tmp t=>(D0 vars t).map .v
 |.func f=>some (.f f)
 |_=>none
def HG(vars:List Nat):List Nat→Option (List Nat)
 |[]=>some []
 |t::r=>match D0 vars t,HG vars r with
  |some k,some l=>some (k::l)
  |_,_=>none
def mE(P:Program)(N:Nat)(vars:List Nat):Nat→Code→Option bo
 |0,_=>none
 |jP+1,c =>
  match c with
  |.skip=>some .skip
  |.region _ aQ fq=>match QS P N vars aQ fq with
   |some (s,o)=>some (.aW s o)
   |none=>some .never
  |.refuse _=>some .never
  |.seq x y =>
   match acj x y with
   |some (aQ,fq,t,a,b) =>
    match QS P N vars aQ fq,mE P N vars jP a,mE P N vars jP b with
    |some (s,o),some hQ,some bl =>
     match(List.range s.length).find? fun d=>match s[s.length-1-d]? with|some UV=>(match aQ[UV.j]? with|some op=>op.dst==some t|none=>false)|none=>false with
     |some d=>some (.hK s o d hQ bl)
     |none=>none
    |_,_,_=>none
   |none =>
    match mE P N vars jP x,mE P N vars jP y with
    |some a,some b=>some (.seq a b)
    |_,_=>none
  |.cond y a b =>
   match abf vars y,mE P N vars jP a,mE P N vars jP b with
   |some x,some hQ,some bl=>some (.cond x hQ bl)
   |_,_,_=>none
  |.block id x=>(mE P N vars jP x).map fun a=>.block id a
  |.loop x=>(mE P N vars jP x).map fun a=>.loop a
  |.exit id=>some (.exit id)
  |.ret=>some .ret
  |.scope x=>(mE P N vars jP x).map fun a=>.scope a
  |.label _=>some .label
  |.rangeFunc g vS a b =>
   match T6 vars g,HG vars vS.toList,mE P N vars jP a,mE P N vars jP b with
   |some x,some fH,some hQ,some bl=>if vars.Nodup∧(hQ.cX && bl.cX)=true then some (.range x fH hQ bl) else none
   |_,_,_,_=>none
  |_=>none
variable {P:Program}
theorem QY{aQ:Array Oper}{j i:Nat}:i∈Ay aQ j↔Cq aQ j i:=by
 unfold Ay Cq;cases ah:aQ[j]? with
 |none=>simp
 |some o =>
  simp only[List.mem_filterMap,Array.mem_toList_iff];constructor
  ·rintro⟨e,aK,h⟩;split at h
   ·rename_i T;cases h;exact⟨o,e,rfl,aK,T,rfl⟩
   ·cases h
  ·rintro⟨gl,e,A,aK,T,rfl⟩;cases A;exact⟨e,aK,by simp[T]⟩
theorem abp{bI:List (List Nat)}{j i:Nat}(h:i∈lY bI j):j<bI.length:=by
 unfold lY at h;rcases Dj j bI.length with A|A
 ·exact A
 ·rw[List.getD_eq_getElem?_getD,PH A]at h;simp at h
theorem anX{aQ:Array Oper}{bI:List (List Nat)}{fq:Bool}(h:Mg aQ bI fq=true):tC aQ (lY bI) fq:=by
 unfold Mg at h;unfold tC;cases fq with
 |true =>
  simp only[if_true,Bool.and_eq_true]at h ⊢;obtain⟨A,S⟩:=h;refine⟨fun j i au=>?_,fun j i hd=>?_⟩
  ·have:=nU.1 (nU.1 A j (CS.2 (abp au))) i au;simp only[Ln,List.contains_iff_mem,Nk]at this;rcases this with h|⟨k,ab,h⟩
   ·exact .inl (QY.1 h)
   ·exact .inr ⟨k,QY.1 ab,h⟩
  ·have bn:j<aQ.size:=by
    obtain⟨o,e,ah,_⟩:=hd;exact(Ic.1 ah).1
   have:=nU.1 (nU.1 S j (CS.2 bn)) i (QY.2 hd);simpa using this
 |false =>
  simp only[xZ,if_false]at h ⊢;intro j i au;have:=nU.1 (nU.1 h j (CS.2 (abp au))) i au;simpa using this
theorem L4{aQ:Array Oper}{xD vars:List Nat}{bI:List (List Nat)}:∀ {r:List Nat}{p:Nat}{l:List aF},tm P aQ xD vars bI p r=some l→l.length=r.length ∧
  ∀(i:Nat) s,l[i]?=some s→r[i]?=some s.j∧∃ o xs,aQ[s.j]?=some o∧kindOf P o.op=some (s.k,xs)∧DY aQ xD vars bI (p+i) s.j xs=some s.args∧L2 aQ xD bI (p+i) s.j o.guard=some s.g∧s.q=(s.k.cD && XV P aQ xD bI (p+i) s.j)
 |[],p,l,h=>by simp[tm]at h;subst h;simp
 |j::r,p,l,h=>by
  simp only[tm]at h;split at h<;>first|(cases h;done)|skip
  rename_i o ah;split at h<;>first|(cases h;done)|skip
  rename_i k xs ab;split at h<;>first|(cases h;done)|skip
  rename_i args g df ai aA ag;cases h;obtain⟨A,S⟩:=L4 ag;refine⟨by simp[A],fun i s ak=>?_⟩;cases i with
  |zero=>simp at ak;subst ak;exact⟨by simp,o,xs,ah,ab,ai,aA,rfl⟩
  |succ i =>
   have:=S i s (by simpa using ak);have e:p+1+i=p+(i+1):=by omega
   rw[e]at this;simpa using this
theorem Mc:∀ {l:List Nat},nodupB l=true→l.Nodup
 |[],_=>List.nodup_nil
 |x::r,h=>by
  simp only[nodupB,Bool.and_eq_true,K6,List.contains_eq_mem,decide_eq_false_iff_not]at h;exact List.nodup_cons.2 ⟨h.1,Mc h.2⟩
theorem Uj:∀ {l:List Nat},l.Nodup→∀(p q x:Nat),l[p]?=some x→l[q]?=some x→p=q
 |[],_,p,q,x,h,_=>by simp at h
 |y::r,hn,0,0,x,_,_=>rfl
 |y::r,hn,0,q+1,x,A,S=>by
  simp at A;subst A;exact absurd (List.mem_of_getElem? (by simpa using S)) (List.nodup_cons.1 hn).1
 |y::r,hn,p+1,0,x,A,S=>by
  simp at S;subst S;exact absurd (List.mem_of_getElem? (by simpa using A)) (List.nodup_cons.1 hn).1
 |y::r,hn,p+1,q+1,x,A,S=>by
  rw[Uj (List.nodup_cons.1 hn).2 p q x (by simpa using A) (by simpa using S)]
theorem QZ:∀ {l:List (Option Nat)},yw l=true→∀(p q d:Nat),l[p]?=some (some d)→l[q]?=some (some d)→p=q
 |[],_,p,q,d,h,_=>by simp at h
 |none::r,hn,0,q,d,A,_=>by simp at A
 |none::r,hn,p+1,0,d,_,S=>by simp at S
 |none::r,hn,p+1,q+1,d,A,S=>by
  rw[QZ (l:=r) (by simpa[yw] using hn) p q d (by simpa using A) (by simpa using S)]
 |some y::r,hn,0,0,d,_,_=>rfl
 |some y::r,hn,0,q+1,d,A,S=>by
  simp at A;subst A;simp only[yw,Bool.and_eq_true,K6,List.contains_eq_mem,decide_eq_false_iff_not]at hn;exact absurd (List.mem_of_getElem? (by simpa using S)) hn.1
 |some y::r,hn,p+1,0,d,A,S=>by
  simp at S;subst S;simp only[yw,Bool.and_eq_true,K6,List.contains_eq_mem,decide_eq_false_iff_not]at hn;exact absurd (List.mem_of_getElem? (by simpa using A)) hn.1
 |some y::r,hn,p+1,q+1,d,A,S=>by
  simp only[yw,Bool.and_eq_true]at hn;rw[QZ (l:=r) hn.2 p q d (by simpa using A) (by simpa using S)]
section
variable {aQ:Array Oper}{ei vars:List Nat}{bI:List (List Nat)}{a6:List aF}{N:Nat}
theorem H5(h:tm P aQ ei vars bI 0 ei=some a6)(p:Nat):(a6[p]?).map (·.j)=ei[p]?:=by
 obtain⟨ag,aA⟩:=L4 h;cases ak:a6[p]? with
 |some s=>simp[(aA p s ak).1]
 |none =>
  have:ei.length≤p:=by rw[← ag];exact List.getElem?_eq_none_iff.1 ak
  simp[PH this]
theorem afw(h:tm P aQ ei vars bI 0 ei=some a6){p j:Nat}{x:Operand}{r:Arg}(ai:T4 aQ ei vars bI p j x=some r):ED aQ a6 vars (lY bI) p j x r:=by
 unfold T4 at ai;split at ai
 ·rename_i t;simp only at ai;split at ai
  ·rename_i aC;cases ai;unfold adT at aC;simp only[Bool.and_eq_true,decide_eq_true_eq]at aC;obtain⟨hd,aC⟩:=aC;refine⟨hd,?_⟩;split at aC<;>first|(cases aC;done)|skip
   rename_i i au;simp only[Bool.and_eq_true,List.contains_iff_mem]at aC;obtain⟨aC,hn⟩:=aC;split at aC<;>first|(cases aC;done)|skip
   rename_i o ah;have hp:=H5 h (p-1-(p-1-(writer aQ ei t).getD p));rw[au]at hp;cases ak:a6[p-1-(p-1-(writer aQ ei t).getD p)]? with
   |none=>rw[ak]at hp;cases hp
   |some s =>
    rw[ak]at hp;simp at hp;subst hp;exact⟨s,o,rfl,ah,by simpa using aC,hn⟩
  ·split at ai<;>first|(cases ai;done)|skip
   split at ai<;>first|(cases ai;done)|skip
   rename_i ad;cases ai;unfold aei at ad;simp only[Bool.and_eq_true,beq_iff_eq]at ad;refine⟨ad.1,fun i o au hd=>?_⟩;have:=nU.1 ad.2 i (CS.2 (Ic.1 au).1);rw[au]at this;simp[hd]at this;exact this
 ·split at ai<;>first|(cases ai;done)|skip
  rename_i hp;cases ai;exact⟨rfl,hp⟩
 ·cases ai;exact rfl
 ·cases ai
theorem Wx(h:tm P aQ ei vars bI 0 ei=some a6){p j:Nat}:∀ {xs:List Operand}{b3:List Arg},DY aQ ei vars bI p j xs=some b3→n1 (ED aQ a6 vars (lY bI) p j) xs b3
 |[],b3,ai=>by simp[DY]at ai;subst ai;exact .nil
 |x::xs,b3,ai=>by
  simp only[DY]at ai;split at ai<;>first|(cases ai;done)|skip
  rename_i a l A S;cases ai;exact .cons (afw h A) (Wx h S)
theorem aif(h:tm P aQ ei vars bI 0 ei=some a6){p j:Nat}{g r:Option (Nat × Bool)}(aA:L2 aQ ei bI p j g=some r):EH aQ a6 (lY bI) p j g r:=by
 unfold L2 at aA;split at aA
 ·cases aA;trivial
 ·rename_i j6 pI;split at aA<;>first|(cases aA;done)|skip
  rename_i o ah;split at aA<;>first|(cases aA;done)|skip
  rename_i t aC;simp only at aA;split at aA<;>first|(cases aA;done)|skip
  rename_i aj;cases aA;simp only[Bool.and_eq_true,decide_eq_true_eq,beq_iff_eq,List.contains_iff_mem]at aj;obtain⟨⟨⟨hd,au⟩,hn⟩,_⟩:=aj;refine⟨rfl,hd,?_⟩;have hp:=H5 h (p-1-(p-1-(zq j6 ei 0).getD p));rw[au]at hp;cases ak:a6[p-1-(p-1-(zq j6 ei 0).getD p)]? with
  |none=>rw[ak]at hp;cases hp
  |some s =>
   rw[ak]at hp;exact⟨s,o,t,rfl,by simpa using hp,ah,aC,hn⟩
theorem apx(h:tm P aQ ei vars bI 0 ei=some a6)(T:Mu N aQ ei a6 bI=true):II P N vars aQ a6 (lY bI):=by
 unfold Mu at T;simp only[Bool.and_eq_true]at T;obtain⟨⟨⟨⟨⟨⟨⟨A,S⟩,ae⟩,aB⟩,aG⟩,a1⟩,bN⟩,b7⟩:=T;obtain⟨ag,aA⟩:=L4 h;have bn:∀(p:Nat) s,a6[p]?=some s→ei[p]?=some s.j:=fun p s hp=>(aA p s hp).1;refine⟨by rw[ag];simpa using A,fun p s hp=>?_,fun j aji=>?_,fun p q s a8 hp L aK=>?_,fun i k hE ok d au ab hd hB=>?_,fun i hE d au hd=>?_,fun p s o hp ah=>?_,fun p s o hp ah=>?_,fun p q s a8 hp aK L eh=>?_,fun p q s a8 hp hr L eh aK=>?_⟩
 ·have:=nU.1 S s.j (List.mem_of_getElem? (bn p s hp));simpa using this
 ·have:=nU.1 ae j (CS.2 aji);obtain⟨p,hp⟩:=Gm.1 (List.contains_iff_mem.1 this);have:=H5 h p;rw[hp]at this;cases ak:a6[p]? with
  |none=>rw[ak]at this;cases this
  |some s=>rw[ak]at this;exact⟨p,s,ak,by simpa using this⟩
 ·exact Uj (Mc aB) p q s.j (bn p s hp) (by rw[aK];exact bn q a8 L)
 ·refine QZ aG i k d ?_ ?_
  ·simp[au,hd]
  ·simp[ab,hB]
 ·have:=nU.1 a1 hE (by simpa using Array.mem_of_getElem? au);rw[hd]at this;simpa using this
 ·obtain⟨_,gl,xs,lU,ab,ai,_⟩:=aA p s hp;rw[ah]at lU;cases lU;rw[zS]at ai;exact⟨xs,ab,Wx h ai⟩
 ·obtain⟨_,gl,xs,lU,_,_,y8,_⟩:=aA p s hp;rw[ah]at lU;cases lU;rw[zS]at y8;exact aif h y8
 ·have hpl:=(j2.1 hp).1;have:=nU.1 bN p (CS.2 hpl);rw[hp]at this;simp only[aK,Fj,yA]at this;have:=nU.1 this a8 (List.mem_of_getElem? (i:=q) (by rw[PI L];exact eh));simpa using this
 ·have hpl:=(j2.1 hp).1;have:=nU.1 b7 p (CS.2 hpl);rw[hp]at this;simp only[hr,Fj,yA]at this;have:=nU.1 this a8 (List.mem_of_getElem? (i:=q) (by rw[PI L];exact eh));simp only[aK,Fj,yA,Ln]at this;rcases this with h|h
  ·exact .inl (by simpa using h)
  ·exact .inr h
theorem anZ(h:tm P aQ ei vars bI 0 ei=some a6){outs:List (Nat × Nat)}(T:Mh aQ ei vars outs=true):Nf vars aQ a6 outs:=by
 unfold Mh at T;simp only[Bool.and_eq_true]at T;obtain⟨⟨⟨A,S⟩,ae⟩,aB⟩:=T;obtain⟨ag,aA⟩:=L4 h;refine⟨fun k hY t ab Gn=>Uj (Mc A) k hY t ab Gn,fun i o t k au hd ab=>?_,fun k d hm=>?_,Mc aB⟩
 ·have:=nU.1 S i (CS.2 (Ic.1 au).1);rw[au]at this;simp only[hd]at this;have:=nU.1 this k (CS.2 (j2.1 ab).1);simp only[ab,bne_self_eq_false,yA,Nk,Bool.and_eq_true,beq_iff_eq,List.contains_iff_mem]at this;obtain⟨p,_,hp,hm⟩:=this;have hpl:=H5 h p;rw[hp]at hpl;cases ak:a6[p]? with
  |none=>rw[ak]at hpl;cases hpl
  |some s=>rw[ak]at hpl;exact⟨p,s,ak,by simpa using hpl,by rw[ag];exact hm⟩
 ·have:=nU.1 ae (k,d) hm;simp only[Bool.and_eq_true,decide_eq_true_eq]at this;obtain⟨hd,aG⟩:=this;rw[ag];refine⟨hd,?_⟩;split at aG<;>first|(cases aG;done)|skip
  rename_i i au;split at aG<;>first|(cases aG;done)|skip
  rename_i o ah;split at aG<;>first|(cases aG;done)|skip
  rename_i t aC;have hpl:=H5 h (ei.length-1-d);rw[au]at hpl;cases ak:a6[ei.length-1-d]? with
  |none=>rw[ak]at hpl;cases hpl
  |some s =>
   rw[ak]at hpl;simp at hpl;subst hpl;exact⟨s,o,t,rfl,ah,aC,by simpa using aG⟩
end
theorem XR{N:Nat}{vars:List Nat}{aQ:Array Oper}{fq:Bool}{a6:List aF}{outs:List (Nat × Nat)}(h:QS P N vars aQ fq=some (a6,outs)):Am P N vars aQ fq a6 outs:=by
 have key:∀(D1:List (List Nat)) (ei:List Nat),(match tm P aQ ei vars D1 0 ei with
   |some a6=>if Mu N aQ ei a6 D1 && Mg aQ D1 fq && Mh aQ ei vars (T8 aQ ei vars) && (!fq || P.follows .mixedOrders) then some (a6,T8 aQ ei vars) else none
   |none=>none)=some (a6,outs)→Am P N vars aQ fq a6 outs:=by
  intro D1 ei h;split at h<;>first|(cases h;done)|skip
  rename_i atB ak;split at h<;>first|(cases h;done)|skip
  rename_i aj;cases h;simp only[Bool.and_eq_true]at aj;obtain⟨⟨⟨A,S⟩,ae⟩,aB⟩:=aj;exact⟨D1,apx ak A,anX S,anZ ak ae,fun hd=>by subst hd;simpa using aB⟩
 exact key _ _ h
theorem Ua{vars:List Nat}{t k:Nat}(h:D0 vars t=some k):vars[k]?=some t:=by
 unfold D0 at h;split at h<;>first|(cases h;done)|skip
 split at h<;>first|(cases h;done)|skip
 cases h
 assumption
theorem al8{vars:List Nat}{g:Operand}{x:Arg}(h:T6 vars g=some x):Nd vars x g:=by
 unfold T6 at h;split at h
 ·rename_i t;cases ab:D0 vars t with
  |none=>rw[ab]at h;cases h
  |some k=>rw[ab]at h;cases h;exact Ua ab
 ·cases h;rfl
 ·cases h
theorem abg{vars:List Nat}:∀ {ts ke:List Nat},HG vars ts=some ke→n1 (fun k t=>vars[k]?=some t) ke ts
 |[],ke,h=>by simp[HG]at h;subst h;exact .nil
 |t::r,ke,h=>by
  simp only[HG]at h;split at h<;>first|(cases h;done)|skip
  rename_i k l ab ag;cases h;exact .cons (Ua ab) (abg ag)
theorem qA{N:Nat}{vars:List Nat}:∀ {jP:Nat}{c:Code}{QM:bo},mE P N vars jP c=some QM→eD P N vars QM c
 |0,_,_,h=>by simp[mE]at h
 |jP+1,c,QM,h=>by
  simp only[mE]at h;split at h
  ·cases h;trivial
  ·rename_i id aQ fq;split at h
   ·rename_i s o hr;cases h;exact XR hr
   ·cases h;simp[eD]
  ·cases h;simp[eD]
  ·rename_i x y;split at h
   ·rename_i aQ fq t a b Lm;unfold acj at Lm;split at Lm<;>first|(cases Lm;done)|skip
    cases Lm
    split at h<;>first|(cases h;done)|skip
    rename_i s o hQ bl hr ai T;split at h<;>first|(cases h;done)|skip
    rename_i d hd;cases h;have aZ:=List.find?_some hd;have hm:=List.mem_of_find?_eq_some hd;refine⟨XR hr,⟨CS.1 hm,?_⟩,qA ai,qA T⟩;split at aZ<;>first|(cases aZ;done)|skip
    rename_i UV ajW;split at aZ<;>first|(cases aZ;done)|skip
    rename_i op nn;exact⟨UV,op,ajW,nn,by simpa using aZ⟩
   ·split at h<;>first|(cases h;done)|skip
    rename_i a b ai T;cases h;exact⟨qA ai,qA T⟩
  ·rename_i y a b;split at h<;>first|(cases h;done)|skip
   rename_i x hQ bl af ai T;cases h;refine⟨?_,qA ai,qA T⟩;unfold abf at af;split at af
   ·split at af<;>first|(cases af;done)|skip
    split at af<;>first|(cases af;done)|skip
    rename_i ad;cases af;simpa[Ix] using ad
   ·split at af<;>first|(cases af;done)|skip
    rename_i hp;cases af;exact⟨rfl,hp⟩
   ·cases af
  ·rename_i id x;cases ai:mE P N vars jP x with
   |none=>rw[ai]at h;cases h
   |some a=>rw[ai]at h;cases h;exact⟨rfl,qA ai⟩
  ·rename_i x;cases ai:mE P N vars jP x with
   |none=>rw[ai]at h;cases h
   |some a =>
    rw[ai]at h;cases h;have:=qA ai;simpa[eD] using this
  ·cases h;exact rfl
  ·cases h;trivial
  ·rename_i x;cases ai:mE P N vars jP x with
   |none=>rw[ai]at h;cases h
   |some a =>
    rw[ai]at h;cases h;have:=qA ai;simpa[eD] using this
  ·cases h;trivial
  ·split at h<;>first|(cases h;done)|skip
   rename_i x fH hQ bl af hp ai T;split at h<;>first|(cases h;done)|skip
   rename_i hn;cases h;exact⟨al8 af,abg hp,hn.2,hn.1,qA ai,qA T⟩
  ·cases h
def abh(P:Program)(vars:List Nat):ResultVar→Option l7
 |.tmp t=>match zq t vars 0 with|some k=>if vars[k]?==some t then some (.var k) else none|none=>none
 |.cell a t=>match zq a vars 0,xm P t,gJ P t with
  |some k,some g,some s=>if vars[k]?==some a then some (.cell k g s) else none
  |_,_,_=>none
def DZ(P:Program)(vars:List Nat):List ResultVar→Option (List l7)
 |[]=>some []
 |r::b3=>match abh P vars r,DZ P vars b3 with
  |some a,some l=>some (a::l)
  |_,_=>none
def MY(na N:Nat)(vars:List Nat):Bool :=
 decide (na≤N) && decide (na≤vars.length) && (List.range vars.length).all fun k=>match vars[k]? with
  |some s=>(decide (na≤k) || s==k) && (decide (k<na) || (decide (na≤s) && decide (s<N)))
  |none=>true
def QR(P:Program)(f:FuncId)(na:Nat)(vars:List Nat):Option bB :=
 match P.funcs[f]? with
 |some fn =>
  match fn.body with
  |some code =>
   if !(fn.name == "runtime.NumGoroutine") && MY na fn.ntmps vars then
    match mE P fn.ntmps vars 4000 code,DZ P vars fn.results.toList with
    |some body,some results=>some { iH:=na,vars,body,results }
    |_,_=>none
   else none
  |none=>none
 |none=>none
theorem T9{vars:List Nat}:∀ {b3:List ResultVar}{cs:List l7},DZ P vars b3=some cs→n1 (Cx P vars) b3 cs
 |[],cs,h=>by simp[DZ]at h;subst h;exact .nil
 |r::b3,cs,h=>by
  simp only[DZ]at h;split at h<;>first|(cases h;done)|skip
  rename_i a l A S;cases h;refine .cons ?_ (T9 S);unfold abh at A;split at A
  ·split at A<;>first|(cases A;done)|skip
   split at A<;>first|(cases A;done)|skip
   rename_i ad;cases A;simpa[Cx] using ad
  ·split at A<;>first|(cases A;done)|skip
   rename_i k g s _ aA ak;split at A<;>first|(cases A;done)|skip
   rename_i ad;cases A;exact⟨by simpa using ad,aA,ak⟩
theorem agM{f:FuncId}{na:Nat}{vars:List Nat}{bm:bB}(h:QR P f na vars=some bm):bK P f bm:=by
 unfold QR at h;split at h<;>first|(cases h;done)|skip
 rename_i fn mj;split at h<;>first|(cases h;done)|skip
 rename_i code Dc;split at h<;>first|(cases h;done)|skip
 rename_i aj;split at h<;>first|(cases h;done)|skip
 rename_i body results T hr;cases h;simp only[Bool.and_eq_true,K6]at aj;obtain⟨Do,ad⟩:=aj;unfold MY at ad;simp only[Bool.and_eq_true,decide_eq_true_eq]at ad;obtain⟨⟨A,S⟩,ae⟩:=ad;refine⟨fn,code,mj,Dc,Do,qA T,T9 hr,A,fun k s ab=>?_,S⟩;have:=nU.1 ae k (CS.2 (j2.1 ab).1);have Gn:vars[k]?=some s:=ab;simp only[Gn,Bool.and_eq_true,Ln,decide_eq_true_eq,beq_iff_eq]at this;show(k<na→s=k)∧(na≤k→na≤s∧s<fn.ntmps);omega
end Go.Eng
namespace Go.Eng
open Go
variable {P:Program}
def Mf(P:Program)(N:Nat)(vars fH:List Nat)(hQ bl:bo):Array Tmp→Code→Code→Prop:=fun vS x y=>n1 (fun k t=>vars[k]?=some t) fH vS.toList∧eD P N vars hQ x∧eD P N vars bl y
def LU:dM→Option Code
 |.normal=>none
 |.exit id=>some (.exit id)
 |.ret=>some .ret
theorem akY{base:Nat}{al:Ren}{w:World}{l:Loc}{env:ar}{vars:List Nat}{N:Nat}{ok:Array Tmp→Code→Code→Prop}{bu:LoopState}{D9:Option Code}(h:nA base al w l (.loop env vars N ok bu D9)) :
  l.dB=0∧base≤l.b∧∃ r:Loop,w.heap[l.b]?=some (.loop r)∧r.state=bu∧r.pending=D9∧ok r.params r.assign r.body∧kz al N vars env r.tmps:=h
def vU(P:Program)(N:Nat)(vars fH:List Nat)(hQ bl:bo)(env:ar)(h:J):J:=(h.alloc .k0).alloc (.loop env vars N (Mf P N vars fH hQ bl) .ready none)
theorem eu.range{N:Nat}{vars:List Nat}{g:Arg}{fH:List Nat}{hQ bl:bo}{env:ar}{h S:J}{f:FuncId}{first cap:Array Value}{v:Value}{bu:LoopState}{x:dM}(aA:g.ev [] env=some (.func (.func f) first cap))
  (aj:my P f (first.toList++[.func (.yield (h.next+1)) #[] #[]]++cap.toList) (vU P N vars fH hQ bl env h) v S)
  (bg:S.get (h.next+1)=some (.loop env vars N (Mf P N vars fH hQ bl) bu (LU x))) (dS:bu≠.busy) :
  eu P N vars (.range g fH hQ bl) env h x env (S.set (h.next+1) .dead):=by
 have sK:h.step (vU P N vars fH hQ bl env h):=(J.r0 _ _).trans (J.r0 _ _);have bT:=J.xK bg .dead (by simp);refine⟨(sK.trans aj.2.1).trans bT,fun code Dc base G al w a cI hV bv bZ aM c3 Q dZ=>?_⟩;obtain rfl:=hV rfl;cases code<;>simp only[eD]at Dc;rename_i y vS xV wg;obtain⟨Gf,ajK,iW,fU,RZ,aiW⟩:=Dc;have w4:(vU P N vars fH hQ bl env h).next=h.next+2:=rfl;have bX:h.next+2≤S.next:=by have:=aj.2.1.next;rw[w4]at this;exact this
 have ub:jf al h.next S.next:=bZ;let dD:Loc:=⟨w.heap.size,0,0⟩;let l1:Loc:=⟨w.heap.size+1,0,0⟩;let ky:Ren:=(al.put h.next dD).put (h.next+1) l1;have aa2:al h.next=none:=ub _ (br _) (by omega);have aa3:(al.put h.next dD) (h.next+1)=none:=by
  simp only[Ren.put,show ¬(h.next+1=h.next) by omega,if_false];exact ub _ (by omega) (by omega)
 have Lb:=Ren.vG aa2 dD;have so:=Ren.vG aa3 l1
 -- the as6 atQ
 obtain⟨s2,sk,Bq⟩:∃ s2,a.eval y=s2∧bL al (.func (.func f) first cap) s2:=by
  unfold Nd at Gf;split at Gf
  ·simp only[Arg.ev]at aA;obtain⟨v',aB,aG⟩:=c3.get _ _ _ Gf aA;exact⟨v',by simp only[Act.eval,lF,aB];rfl,aG⟩
  ·subst Gf;simp only[Arg.ev]at aA;cases aA;exact⟨_,rfl,.func f [] [] [] [] .nil .nil⟩
  ·exact Gf.elim
 obtain⟨a',fl,rfl,aj6,tZ⟩:=Bq.KE;refine wpIn_rangeFunc fun fn _=>?_;let eF:=w.alloc (.deferred (some []));let er:=eF.alloc (.loop { state:=.ready,pending:=none,fn,tmps:=a.tmps,params:=vS,assign:=xV,body:=wg,defers:=w.heap.size });have Zz:∀ b,b<w.heap.size→eF.heap[b]?=w.heap[b]?:=fun b T=>heap_alloc_old w _ b T;have ZA:∀ b,b<eF.heap.size→er.heap[b]?=eF.heap[b]?:=fun b T=>heap_alloc_old eF _ b T;have SV:eF.heap.size=w.heap.size+1:=by simp[eF]
 have ak2:er.heap.size=w.heap.size+2:=by simp[er,eF]
 have F1:b1 base (fS G h.next .k0) (al.put h.next dD) eF:=by
  refine aM.alloc h.next .k0 dD aa2 (br _) (by simp[SV,dD]) Zz (by omega) ⟨rfl,aM.size,?_⟩;exact heap_alloc_new w _
 have aiC:b1 base (fS (fS G h.next .k0) (h.next+1) (.loop env vars N (Mf P N vars fH hQ bl) .ready none)) ky er:=by
  refine F1.alloc (h.next+1) _ l1 aa3 (by simp[SV,l1]) (by simp[ak2,l1]) ZA (by omega) ⟨rfl,by have:=aM.size;simp[l1];omega,{ state:=.ready,pending:=none,fn,tmps:=a.tmps,params:=vS,assign:=xV,body:=wg,defers:=w.heap.size },?_,rfl,rfl,⟨ajK,RZ,aiW⟩,(c3.mono Lb).mono so⟩;have:=heap_alloc_new eF (.loop { state:=.ready,pending:=none,fn,tmps:=a.tmps,params:=vS,assign:=xV,body:=wg,defers:=w.heap.size });rw[SV]at this;exact this
 have ajY:gi base w er:=⟨by omega,fun b T=>by have:=aM.size;rw[ZA b (by omega),Zz b (by omega)],rfl,rfl,rfl,fun a _=>(Fv eF _ (.inr (by simp)) a).trans (Fv w _ (.inr (by simp)) a)⟩;have aiE:b1 base (over (vU P N vars fH hQ bl env h) G) ky er:=by
  refine b1.congr aiC fun id=>?_;have eI:=over_self bv id;unfold over fS at *;simp only[vU,J.tR,J.zN];by_cases az:id=h.next+1
  ·simp[az]
  ·by_cases aL:id=h.next
   ·simp[aL]
   ·simp[az,aL,eI]
 have RJ:fj al ky h.next (h.next+2):=fun id cQ=>by
  simp only[ky,Ren.put,show ¬ id=h.next+1 by omega,show ¬ id=h.next by omega,if_false]
 have ct:be ky (first.toList++[.func (.yield (h.next+1)) #[] #[]]++cap.toList) (a'++[.func (.yield (w.heap.size+1)) #[] #[]]++fl) :=
  ((aj6.mono (Ren.le_trans Lb so)).append (.cons _ _ _ _ (.yield (h.next+1) l1 (by simp[Ren.put])) .nil)).append (tZ.mono (Ren.le_trans Lb so))
 have F9:=aj.2.2 base (over (vU P N vars fH hQ bl env h) G) ky er _ (oO _ _) (by rw[w4];exact ub.right (by omega) RJ) aiE ct;refine⟨w.heap.size+1,[{ target:=.collected w.heap.size,args:=#[] }],er,{ target:=.fn (.func f) fl.toArray,args:=a'.toArray++#[.func (.yield (w.heap.size+1)) #[] #[]] },er,f,(a'++[Value.func (.yield (w.heap.size+1)) #[] #[]]++fl).toArray,er,run_enterLoop_outer fn a.tmps vS xV wg,?_,fun _ _=>trivial,?_,fun hd=>by simp[hG,Fence.wide]at hd,?_⟩
 ·have aiU:a.eval (.const (.func (.yield (w.heap.size+1)) #[] #[]))=.func (.yield (w.heap.size+1)) #[] #[]:=rfl;simp[resolve,sk,Deferred.ofValue,aiU]
 ·simp[invoke,aj.1 _ er]
 ·have aiV:CallsIn Fence.wide (0-1) P f (a'++[Value.func (.yield (w.heap.size+1)) #[] #[]]++fl).toArray er _:=callsIn_wide.2 F9;refine CallsIn.mono (show CallsIn (hG none) (0-1) P f _ er _ from aiV) fun e sR aK=>?_;obtain⟨v',fZ,rfl,c6⟩:=aK;have bC:fZ (h.next+1)=some l1:=by rw[c6.agree _ (.inl (by rw[w4];omega))];simp[ky,Ren.put]
  have h5:fZ h.next=some dD:=by rw[c6.agree _ (.inl (by rw[w4];omega))];simp[ky,Ren.put]
  obtain⟨_,fg,r,cm,cb,eC,dG,ol⟩:=akY (c6.fI.obj (h.next+1) _ l1 (oO S _ _ _ bg) bC);have aiO:r.state≠.busy:=by rw[cb];exact dS
  have Df:(Instr.endLoop (w.heap.size+1)).run P sR=.ok (LU x) (sR.putObj (w.heap.size+1) (.loop { r with state:=.exhausted })):=by
   rw[← eC];exact run_endLoop (P:=P) cm aiO
  have C8:b1 base (over (S.set (h.next+1) .dead) G) fZ (sR.putObj (w.heap.size+1) (.loop { r with state:=.exhausted })):=by
   refine b1.congr (c6.fI.write (h.next+1) _ .dead l1 (oO S _ _ _ bg) bC rfl (by simp) (fun b T=>World.putObj_heap_other T) trivial) fun id=>?_;unfold over fS;rw[J.qG];by_cases e:id=h.next+1
   ·simp[e,J.bY bg]
   ·simp only[e,false_and,if_false];cases aA:S.get id with
    |some o=>rfl
    |none =>
     have hD:(vU P N vars fH hQ bl env h).get id=none:=by
      cases L:(vU P N vars fH hQ bl env h).get id with
      |none=>rfl
      |some o=>have:=aj.2.1.gC id (by rw[L];rfl);rw[aA]at this;cases this
     rw[hD];rfl
  have Sk:Left (bo.range g fH hQ bl).cX base G al w a N vars h (S.set (h.next+1) .dead) env { a with defers:=[{ target:=.collected w.heap.size,args:=#[] }]++a.defers } fZ (sR.putObj (w.heap.size+1) (.loop { r with state:=.exhausted })):=by
   refine⟨?_,?_,⟨[{ target:=.collected w.heap.size,args:=#[] }],⟨[h.next],by simp,fun m hm=>?_,?_⟩,rfl,fun e=>by simp[bo.cX]at e⟩,C8,(ajY.trans c6.step).trans ⟨by simp,fun b T=>World.putObj_heap_other (by have:base≤w.heap.size+1:=fg;omega),rfl,rfl,rfl,fun a _=>Rh cm (by simp) (by simp) a⟩⟩
   ·exact RJ.trans (show fj ky fZ (h.next+2) S.next from c6.agree) (by omega) bX
   ·have pp:ky.le fZ:=c6.agree.le (by rw[w4];exact ub.right (by omega) RJ);exact((c3.mono Lb).mono so).mono pp
   ·have:m=h.next:=by simpa using hm
    subst this;refine⟨br _,bT.k0 _ (aj.2.1.k0 _ ?_)⟩;simp[vU,J.tR]
   ·simp[h5,dD]
  refine⟨LU x,_,Df,?_⟩;cases x with
  |normal=>exact dZ _ fZ _ Sk
  |ret=>exact wpIn_ret (dZ _ fZ _ Sk)
  |exit id=>exact wpIn_exit (dZ _ fZ _ Sk)
end Go.Eng
