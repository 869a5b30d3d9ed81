/-
  Part of a proof of the laws of layer 07 (reader): what each function does.
  Conditions: none.
-/
import Derived.Test.YtjbjpooafphpnaaGreatDoorBd
import Derived.Test.YtjbjpooafphpnaaGreatDoorEc
import Derived.Shelf.Pu.ToError
import Derived.Shelf.Pu.ToErrorRange
import Derived.Test.YtjbjpooafphpnaaGreatDoorC
import Derived.Shelf.Strings.OnBuilder
set_option linter.unusedSimpArgs false
set_option linter.unusedVariables false
namespace Go.Eng.Sy
open Go Go.Eng Go.Proofs
abbrev fQ(id:Nat):Value:=(aH id 0)
abbrev uP:ar:=[I 0,I 0,I 0,aI,bx]
theorem Ib(h:J){e:aX}{y:ar}(bw:iN h e y):cz 5 (h.alloc (.aq uP true)) [aH h.next 0,.agg y.toArray]=some (b0,h.alloc (.aq y true)):=by
 obtain⟨v,rfl,ad⟩:=bw.cells;exact kk rfl rfl rfl (by simpa[Value.oneCell'] using ad.one)
theorem aek{h:J}{q:Nat}{cells:ar}(aA:h.get q=some (.aq cells true)){y:ar}(ag:cells.length=y.length)(A:y.all (·.oneCell')=true):cz y.length h [aH q 0,.agg y.toArray]=some (b0,h.set q (.aq y true)):=by
 have hd:cells.drop y.length=[]:=Pg (by omega);have aj:(Value.agg y.toArray).cells.toList=y:=rfl;simp only[cz,aA,aj];rw[if_pos ⟨trivial,by omega,A⟩];simp[hd]
def tA:ar:=List.replicate 256 (.bool false)
set_option maxRecDepth 20000 in
theorem ago:OA=[⟨0,.a (.new tA),[],none,false⟩,
   ⟨1,.p (.jK),[.c (.bool false)],none,false⟩]:=rfl
set_option maxRecDepth 20000 in
theorem agn:Xh=[⟨0,.p (.jK),[.v 1],none,false⟩,
   ⟨1,.call 156,[.t 0],none,false⟩,
   ⟨2,.p (.jK),[.t 0],none,false⟩,
   ⟨3,.p (.extract 0),[.t 0],none,false⟩,
   ⟨4,.p (.extract 1),[.t 1],none,false⟩,
   ⟨5,.a (.new tA),[],none,false⟩,
   ⟨6,.w (.store 256),[.t 0,.t 2],none,false⟩,
   ⟨7,.p (.jK),[.t 2],none,false⟩]:=rfl
theorem DO:tA.length=256:=List.length_replicate
theorem ai9{i:Nat}(h:i<256):tA[i]?=some (.bool false):=by
 unfold tA;rw[List.getElem?_replicate,if_pos h]
def n2:ar:=(tA.set 32 (.bool true)).set 9 (.bool true)
def jJ(b:UInt8):Bool:=b==32 || b==9
theorem Hv:n2.length=256:=by simp[n2,DO]
theorem YD(b:UInt8):n2[b.toNat]?=some (.bool (jJ b)):=by
 have T:b.toNat<256:=b.toNat_lt;unfold n2 jJ;rw[List.getElem?_set];by_cases dE:b.toNat=9
 ·have:b=9:=by apply UInt8.toNat_inj.1;simpa using dE
  subst this;simp[DO]
 ·have aio:¬ b=9:=fun e=>dE (by rw[e];rfl);rw[if_neg (fun e=>dE e.symm),List.getElem?_set];by_cases Ru:b.toNat=32
  ·have:b=32:=by apply UInt8.toNat_inj.1;simpa using Ru
   subst this;simp[DO]
  ·have aik:¬ b=32:=fun e=>Ru (by rw[e];rfl);rw[if_neg (fun e=>Ru e.symm),ai9 T];simp[aio,aik]
theorem abI:n2.all (·.oneCell')=true:=by
 rw[nU];intro v ad;obtain⟨i,au⟩:=Gm.1 ad;have ag:=(j2.1 au).1;rw[Hv]at ag;have:=YD (UInt8.ofNat i);rw[UInt8.toNat_ofNat',Nat.mod_eq_of_lt (by omega),au]at this;cases this;rfl
theorem aoj{cs:ar}(h:cs.length=256):gI true 0 256 cs=some (.agg cs.toArray):=by
 have:cs.take 256=cs:=Lt (by omega);simp[gI,h,this]
theorem agO{p:Nat}{b:UInt8}{own:Bool}{h:J}(hp:h.get p=some (.aq n2 own))(Q:aT)(L:Q (.bool (jJ b)) h):bj Tryz.prog 171 [aH p 0,.int .u8 b.toNat] h Q:=by
 refine c7 (k:=2) amx rfl rfl rfl fun N=>?_;rw[eJ OX iL rfl];delta OX;replace L:=U L;have T:b.toNat<256:=b.toNat_lt;have akf:D7 256 1 [aH p 0,.int .u8 (b.toNat:Int)]=some (aH p b.toNat):=by
  simp[D7,T];omega
 have g:=YD b;simp only[aa,aw, *];exact L.h
theorem al3(h:J)(Q:aT)(L:∀ D,h.le D→Q (.tuple #[.agg n2.toArray,.bool true]) D):bj Tryz.prog 156 [str [32,9]] h Q:=by
 refine QJ (k:=1) (agg:=true) (size:=256) (j:=2) amo rfl rfl rfl fun N=>?_;rw[gE Oz uO rfl];delta Oz;rw[ago];replace L:=Hid.mk L;obtain⟨p,hp⟩:∃ x,h.next=x:=⟨_,rfl⟩;obtain⟨A,hh⟩:∃ x,h.alloc (.aq tA true)=x:=⟨_,rfl⟩;have bF:h.le A:=by rw[← hh];exact(J.le.refl _).alloc _
 have g1:A.get p=some (.aq tA true):=by rw[← hh,← hp];exact J.hy _ _
 simp only[aa, *];have vv:h.next≤p:=by omega
 have kf:vQ [str [32,9]]=some (I 2):=ja [32,9];have i0:zT [str [32,9],I 0]=some (.int .u8 32):=xl (l:=[32,9]) (i:=0) rfl .i64;have i1:zT [str [32,9],I 1]=some (.int .u8 9):=xl (l:=[32,9]) (i:=1) rfl .i64;have a0:D7 256 1 [aH p 0,.int .u8 32]=some (aH p 32):=rfl;have dP:D7 256 1 [aH p 0,.int .u8 9]=some (aH p 9):=rfl;have sK:=ael (z:=true) (off:=32) g1 (by rw[DO];omega);obtain⟨S,mI⟩:∃ x,A.set p (.aq (tA.set 32 (.bool true)) true)=x:=⟨_,rfl⟩;have g2:S.get p=some (.aq (tA.set 32 (.bool true)) true):=by rw[← mI];exact J.gz _ _ _ (by rw[g1];rfl)
 have bC:h.le S:=by rw[← mI];exact bF.set vv _
 rw[mI]at sK;have bT:=ael (z:=true) (off:=9) g2 (by rw[List.length_set,DO];omega);obtain⟨ae,gX⟩:∃ x,S.set p (.aq n2 true)=x:=⟨_,rfl⟩;rw[show((tA.set 32 (.bool true)).set 9 (.bool true))=n2 from rfl,gX]at bT;have g3:ae.get p=some (.aq n2 true):=by rw[← gX];exact J.gz _ _ _ (by rw[g2];rfl)
 have gP:h.le ae:=by rw[← gX];exact bC.set vv _
 have qd:=aoj Hv;have eg:cz 256 ae [aH p 0,.agg n2.toArray]=some (b0,ae.set p (.aq n2 true)):=nZ g3 rfl Hv Hv abI;obtain⟨aB,og⟩:∃ x,ae.set p (.aq n2 true)=x:=⟨_,rfl⟩;rw[og]at eg;have g4:aB.get p=some (.aq n2 true):=by rw[← og];exact J.gz _ _ _ (by rw[g3];rfl)
 have Gt:h.le aB:=by rw[← og];exact gP.set vv _
 clear hp hh mI gX og;have l9:¬(128:Int)≤32:=by decide
 have bk:¬(128:Int)≤9:=by decide
 have bJ:(0:Int)<2:=by decide
 have dl:(1:Int)<2:=by decide
 have fa:¬(2:Int)<2:=by decide
 have er:IntKind.i64.wrap (0+1)=1:=by decide
 have dd:IntKind.i64.wrap (1+1)=2:=by decide
 refine ch.round ?_;delta Xk OA;simp only[aa,bh,av,ay, *];refine ch.round ?_;simp only[aa,bh,av,ay, *];refine ch.round ?_;simp only[aa,aw,bh,av,ay, *];exact L.h _ Gt
theorem ahk{p:UInt8→Bool}{l:aD}{i:Nat}(h:l.dropWhile p=(l.drop i).dropWhile p){b:UInt8}(T:l[i]?=some b):(p b=true→l.dropWhile p=(l.drop (i+1)).dropWhile p)∧(p b=false→l.dropWhile p=l.drop i):=by
 have hd:l.drop i=b::l.drop (i+1):=by
  have au:=(j2.1 T);rw[← au.2];exact Np au.1
 rw[h,hd];constructor
 ·intro hp;rw[Ci,if_pos hp]
 ·intro hp;rw[Ci,if_neg (by simp[hp])]
theorem aqR{l:aD}(ag:l.length≤1000000000){p:Nat}{own:Bool}{h:J}(hp:h.get p=some (.aq n2 own))(Q:aT)(L:Q (str (l.dropWhile jJ)) h):bj Tryz.prog 157 [str l,aH p 0] h Q:=by
 refine c7 (k:=2) amp rfl rfl rfl fun N=>?_;rw[eJ OB iL rfl];delta OB;replace L:=U L;simp only[aa, *];refine ch.upto l.length (fun i e A=>A=h∧l.dropWhile jJ=(l.drop i).dropWhile jJ∧e=[str (l.drop i),aH p 0,aI]) ?_ (lj _) ⟨rfl,by simp,by simp⟩;rintro i _ A R au ⟨rfl,gx,rfl⟩ aN;replace gx:=Hid.mk gx;delta Xl;obtain⟨m,hm⟩:∃ m,l.drop i=m:=⟨_,rfl⟩;have kf:vQ [str m]=some (I m.length):=ja m;by_cases aV:i<l.length
 case neg =>
  have Ld:m=[]:=by rw[← hm];exact Pg (by omega)
  have dm:¬(0:Int)<m.length:=by rw[Ld];simp
  have hd:l.dropWhile jJ=m:=by rw[gx.h,hm,Ld];rfl
  rw[hm];rw[hd]at L;replace hd:=Hid.mk hd;replace Ld:=Hid.mk Ld;clear hm;simp only[aa,av,ay, *];exact L.h
 case pos =>
  have rD:m.length=l.length-i:=by rw[← hm];simp
  have dm:(0:Int)<m.length:=by omega
  obtain⟨b,T⟩:∃ b,l[i]?=some b:=⟨_,hi aV⟩;have mG:m[0]?=some b:=by rw[← hm,Nu];simpa using T
  have oP:zT [str m,I 0]=some (.int .u8 b.toNat):=xl mG .i64;have bu:=ahk gx.h T;have qB:tr true false [str m,I 1]=some (str (l.drop (i+1))):=by
   have:=ys (l:=m) (n:=1) (by omega);rw[show m.drop 1=l.drop (i+1) by rw[← hm,List.drop_drop]]at this;exact this
  rw[hm];replace bu:=Hid.mk bu;replace mG:=Hid.mk mG;replace T:=Hid.mk T;have Dm:=Hid.mk hm;replace rD:=Hid.mk rD;clear hm;simp only[aa,av,ay, *];refine agO hp _ ?_;cases RS:jJ b with
  |true =>
   simp only[aa, *];exact aN.h _ _ aV ⟨rfl,bu.h.1 RS,rfl⟩
  |false =>
   have hd:=bu.h.2 RS;rw[Dm.h]at hd;rw[hd]at L;replace hd:=Hid.mk hd;simp only[aa,Nat.reduceBEq, *];exact L.h
theorem aqS{l:aD}(ag:l.length≤1000000000){h:J}(Q:aT)(L:∀ D,h.le D→Q (str (l.dropWhile jJ)) D):bj Tryz.prog 138 [str l,str [32,9]] h Q:=by
 refine c7 (k:=2) amc rfl rfl rfl fun N=>?_;rw[eJ Ok mZ rfl];delta Ok;rw[agn];replace L:=Hid.mk L;have eI:(([32,9]:aD)==[])=false:=rfl;have kf:vQ [str [32,9]]=some (I 2):=ja [32,9];have az:((2:Int)==1)=false:=rfl;cases vl:(l==[]) with
 |true =>
  have Gy:l=[]:=by simpa using vl
  subst Gy;simp only[aa,av,iz, *];exact L.h _ (J.le.refl _)
 |false =>
  simp only[aa,av,ay,iz, *];refine al3 h _ fun A bF=>?_;obtain⟨p,hp⟩:∃ x,A.next=x:=⟨_,rfl⟩;have bu:cz 256 (A.alloc (.aq tA true)) [aH p 0,.agg n2.toArray]=some (b0,A.alloc (.aq n2 true)):=by
   rw[← hp];exact kk rfl Hv DO abI
  obtain⟨S,mI⟩:∃ x,A.alloc (.aq n2 true)=x:=⟨_,rfl⟩;have bC:A.le S:=by rw[← mI];exact(J.le.refl _).alloc _
  have g2:S.get p=some (.aq n2 true):=by rw[← mI,← hp];exact J.hy _ _
  rw[mI]at bu;simp only[aa,bh,BW, *];refine aqR ag g2 _ ?_;have g:=L.h S (bF.trans bC);obtain⟨m,hm⟩:∃ m,l.dropWhile jJ=m:=⟨_,rfl⟩;rw[hm]at g ⊢;replace g:=Hid.mk g;clear hm;simp only[aa, *];exact g.h
def skip:Bool→aD→Int→aD × Int
 |_,[],n=>([],n)
 |true,b::r,n=>if b=10 then skip false r (n+1) else skip true r n
 |false,b::r,n=>if jJ b then skip false r n else if b=10 then skip false r (n+1) else if b=35 then skip true r n else(b::r,n)
theorem adu:∀(l:aD) (n:Int),skip false l n=skip false (l.dropWhile jJ) n
 |[],n=>rfl
 |b::r,n=>by
  cases T:jJ b with
  |true=>rw[Ci,if_pos T,← adu r n];simp[skip,T]
  |false=>rw[Ci,if_neg (by simp[T])]
theorem adv:∀(l:aD) (n:Int),skip true l n=skip false (l.dropWhile (· != 10)) n
 |[],n=>rfl
 |b::r,n=>by
  by_cases T:b=10
  ·subst T;rw[Ci,if_neg (by decide)];simp[skip,jJ]
  ·rw[Ci,if_pos (by simpa using T),← adv r n];simp[skip,T]
theorem aa5(c:UInt8):∀ l:aD,(Lib.indexByte l c<0→l.dropWhile (· != c)=[])∧(¬ Lib.indexByte l c<0→∃ k:Nat,Lib.indexByte l c=k∧k≤l.length∧l.drop k=l.dropWhile (· != c))
 |[]=>⟨fun _=>rfl,fun h=>by simp[Lib.indexByte]at h⟩
 |b::r=>by
  obtain⟨i1,i2⟩:=aa5 c r;unfold Lib.indexByte;cases T:(b==c) with
  |true =>
   have:b=c:=by simpa using T
   subst this;simp only[if_true];refine⟨fun h=>by omega,fun _=>⟨0,rfl,lj _,?_⟩⟩;rw[Ci,if_neg (by simp)];rfl
  |false =>
   have cH:(b != c)=true:=by simp[bne,T]
   rw[Ci,if_pos cH];have oe:=Lib.indexByte_ge r c;by_cases hm:Lib.indexByte r c = -1
   ·have:(Lib.indexByte r c == -1)=true:=by simpa using hm
    simp only[this,if_true,xZ,if_false];exact⟨fun _=>i1 (by omega),fun h=>by omega⟩
   ·have:(Lib.indexByte r c == -1)=false:=by simpa using hm
    simp only[this,xZ,if_false];refine⟨fun h=>by omega,fun _=>?_⟩;obtain⟨k,A,S,ae⟩:=i2 (by omega);exact⟨k+1,by rw[A];rfl,by simp;omega,by simpa using ae⟩
theorem sL:∀(c:Bool) (l:aD) (n:Int),(skip c l n).1.length≤l.length∧n≤(skip c l n).2∧(skip c l n).2≤n+l.length
 |_,[],n=>by simp[skip]
 |true,b::r,n=>by
  unfold skip;split
  ·have:=sL false r (n+1);simp only[hR];omega
  ·have:=sL true r n;simp only[hR];omega
 |false,b::r,n=>by
  unfold skip;split
  ·have:=sL false r n;simp only[hR];omega
  ·split
   ·have:=sL false r (n+1);simp only[hR];omega
   ·split
    ·have:=sL true r n;simp only[hR];omega
    ·simp only[hR];omega
theorem aqb{r:aD}(n:Int):skip false (35::r) n=skip true r n:=by simp[skip,jJ]
theorem U5{r:aD}(n:Int):skip false (10::r) n=skip false r (n+1):=by simp[skip,jJ]
theorem U6{l:aD}(n:Int)(A:∀ b r,l=b::r→jJ b=false∧b≠35∧b≠10):skip false l n=(l,n):=by
 cases l with
 |nil=>rfl
 |cons b r =>
  obtain⟨a,b',c⟩:=A b r rfl;simp[skip,a,b',c]
theorem Q0{p:UInt8→Bool}:∀ {l:aD}{b:UInt8}{r:aD},l.dropWhile p=b::r→p b=false
 |[],b,r,h=>by simp at h
 |x::l,b,r,h=>by
  rw[Ci]at h;split at h
  ·exact Q0 h
  ·rename_i af;cases h;simpa using af
theorem Yc{p:UInt8→Bool}(l:aD):(l.dropWhile p).length≤l.length:=by
 have:=(List.dropWhile_suffix p (l:=l)).length_le;exact this
set_option maxHeartbeats 1000000 in
theorem ac7{l:aD}{n:Int}(ag:l.length≤1000000)(hn:0≤n∧n≤1000000){p:Nat}{h:J}(hp:h.get p=some (.aq [str l,I n] true))(Q:aT)
  (L:∀ D,h.b2 p D→D.get p=some (.aq [str (skip false l n).1,I (skip false l n).2] true)→Q (.tuple #[]) D):bj Tryz.prog 110 [aH p 0] h Q:=by
 refine CE alN rfl rfl rfl fun N=>?_;rw[gE NV iL rfl];delta NV;replace L:=U L;simp only[aa, *];have ka:=sL false l n;replace ka:=Hid.mk ka;refine ch.down (fun k e A=>∃(m:aD) (z:Int) (xV:Value),m.length=k∧h.b2 p A∧A.get p=some (.aq [str m,I z] true)∧skip false l n=skip false m z∧0≤z∧z+m.length≤n+l.length∧e=[aH p 0,xV]) ?_ (m:=l.length) ⟨l,n,_,rfl,J.b2.refl _ _,hp,rfl,hn.1,Int.le_refl _,rfl⟩;rintro k _ A R ⟨m,z,xV,GC,fg,g1,SR,zn,zp,rfl⟩ aN;clear hp;have pk:∀ D m',h.b2 p D→D.get p=some (.aq [str m',I z] true)→skip false l n=(m',z)→Q (.tuple #[]) D:=fun D m' T aA ak=>by
  refine L.h D T ?_;rw[ak];exact aA
 replace pk:=Hid.mk pk;clear L;have rD:m.length≤2000000:=by omega
 replace rD:=Hid.mk rD;replace SR:=Hid.mk SR;replace zp:=Hid.mk zp;replace GC:=Hid.mk GC;replace fg:=Hid.mk fg;delta Xc;simp only[aa,aw, *];refine aqS (by have:=rD.h;omega) _ fun S bC=>?_;have g2:=bC.get g1;obtain⟨m1,pq⟩:∃ x,m.dropWhile jJ=x:=⟨_,rfl⟩;rw[pq];have b4:=iU (v:=str m1) (off:=0) g2 (by simp) rfl rfl;obtain⟨ae,gX⟩:∃ x,S.set p (.aq ([str m,I z].set 0 (str m1)) true)=x:=⟨_,rfl⟩;rw[gX]at b4;have g3:ae.get p=some (.aq [str m1,I z] true):=by rw[← gX];exact J.gz _ _ _ (by rw[g2];rfl)
 have gW:A.b2 p ae:=(bC.eA p).trans (by rw[← gX];exact J.b2.set _ _ _);replace gX:=Hid.mk gX;replace gW:=Hid.mk gW;replace pq:=Hid.mk pq;clear g1 g2;simp only[aa,aw,bh, *];have G1:skip false l n=skip false m1 z:=by rw[SR.h,adu,pq.h]
 have Lc:m1.length≤m.length:=by rw[← pq.h];exact Yc _
 have So:∀ b r,m1=b::r→jJ b=false:=fun b r e=>Q0 (pq.h.trans e);replace G1:=Hid.mk G1;replace Lc:=Hid.mk Lc;replace So:=Hid.mk So;refine ve _ _ ?_;cases SH:([35]:aD).isPrefixOf m1 with
 |false =>
  have sl:∀ b r,m1=b::r→jJ b=false∧b≠35:=fun b r e=>⟨So.h b r e,fun aL=>by
   rw[e,aL]at SH;simp[List.isPrefixOf]at SH⟩
  replace sl:=Hid.mk sl;have ajV:=Lc;simp only[aa,aw, *];refine ve _ _ ?_;cases uh:([10]:aD).isPrefixOf m1 with
  |false =>
   have dS:skip false l n=(m1,z):=by
    rw[G1.h];refine U6 z fun b r e=>⟨(sl.h b r e).1,(sl.h b r e).2,fun aL=>?_⟩;rw[e,aL]at uh;simp[List.isPrefixOf]at uh
   replace dS:=Hid.mk dS;simp only[aa, *];exact pk.h _ m1 (fg.h.trans gW.h) g3 dS.h
  |true =>
   obtain⟨r,hr⟩:∃ r,m1=10::r:=by
    obtain⟨t,aC⟩:=G3.1 uh;exact⟨t,by rw[← aC];rfl⟩
   have qB:tr true false [str m1,I 1]=some (str r):=by
    have:=ys (l:=m1) (n:=1) (by rw[hr];simp);rw[show m1.drop 1=r by rw[hr];rfl]at this;exact this
   have t5:=iU (v:=str r) (off:=0) g3 (by simp) rfl rfl;obtain⟨aG,ln⟩:∃ x,ae.set p (.aq ([str m1,I z].set 0 (str r)) true)=x:=⟨_,rfl⟩;rw[ln]at t5;have g5:aG.get p=some (.aq [str r,I z] true):=by rw[← ln];exact J.gz _ _ _ (by rw[g3];rfl)
   have lq:r.length+1≤m.length:=by
    have:=ajV.h;rw[hr]at this;simpa using this
   have Z5:IntKind.i64.wrap (z+1)=z+1:=cZ (by omega) (by have:=zp.h;omega);have t6:=iU (v:=I (z+1)) (off:=1) g5 (by simp) rfl rfl;obtain⟨a1,pm⟩:∃ x,aG.set p (.aq ([str r,I z].set 1 (I (z+1))) true)=x:=⟨_,rfl⟩;rw[pm]at t6;have g6:a1.get p=some (.aq [str r,I (z+1)] true):=by rw[← pm];exact J.gz _ _ _ (by rw[g5];rfl)
   have iB:ae.b2 p aG:=by rw[← ln];exact J.b2.set _ _ _
   have y1:aG.b2 p a1:=by rw[← pm];exact J.b2.set _ _ _
   have kJ:h.b2 p a1:=((fg.h.trans gW.h).trans iB).trans y1;clear iB y1;have uo:skip false l n=skip false r (z+1):=by rw[G1.h,hr,U5]
   replace ln:=Hid.mk ln;replace pm:=Hid.mk pm;replace kJ:=Hid.mk kJ;replace uo:=Hid.mk uo;replace hr:=Hid.mk hr;replace lq:=Hid.mk lq;simp only[aa,aw,bh,av,ay, *];exact aN.h r.length _ _ (by have:=lq.h;have:=GC.h;omega) ⟨r,z+1,_,rfl,kJ.h,g6,uo.h,by omega,by have:=lq.h;have:=zp.h;omega,rfl⟩
 |true =>
  obtain⟨Ee,Ll⟩:∃ r,m1=35::r:=by
   obtain⟨t,aC⟩:=G3.1 SH;exact⟨t,by rw[← aC];rfl⟩
  obtain⟨m2,oh⟩:∃ x,m1.dropWhile (· != 10)=x:=⟨_,rfl⟩;have Dx:skip false l n=skip false m2 z:=by
   rw[G1.h,Ll,aqb,adv,← oh,Ll,Ci,if_pos (by decide)]
  have Lp:m2.length≤m.length:=by
   have:=Yc (p:=(· != 10)) m1;rw[oh]at this;exact rI this Lc.h
  have sl:∀ b r,m2=b::r→jJ b=false∧b≠35:=fun b r e=>by
   have h0:=Q0 (oh.trans e);have:b=10:=by simpa using h0
   subst this;decide
  obtain⟨LQ,LR⟩:=aa5 10 m1;rw[oh]at LQ LR;have akV:vQ [str m1]=some (I m1.length):=ja m1;have t4:=iU (v:=str m2) (off:=0) g3 (by simp) rfl rfl;obtain⟨aB,og⟩:∃ x,ae.set p (.aq ([str m1,I z].set 0 (str m2)) true)=x:=⟨_,rfl⟩;rw[og]at t4;have g4:aB.get p=some (.aq [str m2,I z] true):=by rw[← og];exact J.gz _ _ _ (by rw[g3];rfl)
  have dy:A.b2 p aB:=gW.h.trans (by rw[← og];exact J.b2.set _ _ _);replace og:=Hid.mk og;replace dy:=Hid.mk dy;replace Dx:=Hid.mk Dx;replace Lp:=Hid.mk Lp;replace sl:=Hid.mk sl;replace Ll:=Hid.mk Ll;replace oh:=Hid.mk oh;replace LQ:=Hid.mk LQ;replace LR:=Hid.mk LR;simp only[aa,aw, *];refine akj _ _ _ ?_;rw[show(10:Int).toNat.toUInt8=10 from rfl];by_cases Sz:Lib.indexByte m1 10<0
  ·have qB:tr true false [str m1,I (m1.length:Int)]=some (str m2):=by
    have:=ys (l:=m1) (n:=m1.length) (br _);rw[List.drop_length]at this;rw[LQ.h Sz];exact this
   simp only[aa,aw,bh,av,ay, *];refine ve _ _ ?_;cases uh:([10]:aD).isPrefixOf m2 with
   |false =>
    have dS:skip false l n=(m2,z):=by
     rw[Dx.h];refine U6 z fun b r e=>⟨(sl.h b r e).1,(sl.h b r e).2,fun aL=>?_⟩;rw[e,aL]at uh;simp[List.isPrefixOf]at uh
    replace dS:=Hid.mk dS;simp only[aa, *];exact pk.h _ m2 (fg.h.trans dy.h) g4 dS.h
   |true =>
    obtain⟨r,hr⟩:∃ r,m2=10::r:=by
     obtain⟨t,aC⟩:=G3.1 uh;exact⟨t,by rw[← aC];rfl⟩
    have qB:tr true false [str m2,I 1]=some (str r):=by
     have:=ys (l:=m2) (n:=1) (by rw[hr];simp);rw[show m2.drop 1=r by rw[hr];rfl]at this;exact this
    have t5:=iU (v:=str r) (off:=0) g4 (by simp) rfl rfl;obtain⟨aG,ln⟩:∃ x,aB.set p (.aq ([str m2,I z].set 0 (str r)) true)=x:=⟨_,rfl⟩;rw[ln]at t5;have g5:aG.get p=some (.aq [str r,I z] true):=by rw[← ln];exact J.gz _ _ _ (by rw[g4];rfl)
    have lq:r.length+1≤m.length:=by
     have:=Lp.h;rw[hr]at this;simpa using this
    have Z5:IntKind.i64.wrap (z+1)=z+1:=cZ (by omega) (by have:=zp.h;omega);have t6:=iU (v:=I (z+1)) (off:=1) g5 (by simp) rfl rfl;obtain⟨a1,pm⟩:∃ x,aG.set p (.aq ([str r,I z].set 1 (I (z+1))) true)=x:=⟨_,rfl⟩;rw[pm]at t6;have g6:a1.get p=some (.aq [str r,I (z+1)] true):=by rw[← pm];exact J.gz _ _ _ (by rw[g5];rfl)
    have iB:aB.b2 p aG:=by rw[← ln];exact J.b2.set _ _ _
    have y1:aG.b2 p a1:=by rw[← pm];exact J.b2.set _ _ _
    have kJ:h.b2 p a1:=((fg.h.trans dy.h).trans iB).trans y1;clear iB y1;have uo:skip false l n=skip false r (z+1):=by rw[Dx.h,hr,U5]
    replace ln:=Hid.mk ln;replace pm:=Hid.mk pm;replace kJ:=Hid.mk kJ;replace uo:=Hid.mk uo;replace hr:=Hid.mk hr;replace lq:=Hid.mk lq;simp only[aa,aw,bh,av,ay, *];exact aN.h r.length _ _ (by have:=lq.h;have:=GC.h;omega) ⟨r,z+1,_,rfl,kJ.h,g6,uo.h,by omega,by have:=lq.h;have:=zp.h;omega,rfl⟩
  ·obtain⟨k,jj,jH,nL⟩:=LR.h Sz;rw[jj]at Sz ⊢;have qB:tr true false [str m1,I (k:Int)]=some (str m2):=by
    have:=ys (l:=m1) (n:=k) jH;rw[nL]at this;exact this
   clear jj nL;simp only[aa,aw,bh,av,ay, *];refine ve _ _ ?_;cases uh:([10]:aD).isPrefixOf m2 with
   |false =>
    have dS:skip false l n=(m2,z):=by
     rw[Dx.h];refine U6 z fun b r e=>⟨(sl.h b r e).1,(sl.h b r e).2,fun aL=>?_⟩;rw[e,aL]at uh;simp[List.isPrefixOf]at uh
    replace dS:=Hid.mk dS;simp only[aa, *];exact pk.h _ m2 (fg.h.trans dy.h) g4 dS.h
   |true =>
    obtain⟨r,hr⟩:∃ r,m2=10::r:=by
     obtain⟨t,aC⟩:=G3.1 uh;exact⟨t,by rw[← aC];rfl⟩
    have qB:tr true false [str m2,I 1]=some (str r):=by
     have:=ys (l:=m2) (n:=1) (by rw[hr];simp);rw[show m2.drop 1=r by rw[hr];rfl]at this;exact this
    have t5:=iU (v:=str r) (off:=0) g4 (by simp) rfl rfl;obtain⟨aG,ln⟩:∃ x,aB.set p (.aq ([str m2,I z].set 0 (str r)) true)=x:=⟨_,rfl⟩;rw[ln]at t5;have g5:aG.get p=some (.aq [str r,I z] true):=by rw[← ln];exact J.gz _ _ _ (by rw[g4];rfl)
    have lq:r.length+1≤m.length:=by
     have:=Lp.h;rw[hr]at this;simpa using this
    have Z5:IntKind.i64.wrap (z+1)=z+1:=cZ (by omega) (by have:=zp.h;omega);have t6:=iU (v:=I (z+1)) (off:=1) g5 (by simp) rfl rfl;obtain⟨a1,pm⟩:∃ x,aG.set p (.aq ([str r,I z].set 1 (I (z+1))) true)=x:=⟨_,rfl⟩;rw[pm]at t6;have g6:a1.get p=some (.aq [str r,I (z+1)] true):=by rw[← pm];exact J.gz _ _ _ (by rw[g5];rfl)
    have iB:aB.b2 p aG:=by rw[← ln];exact J.b2.set _ _ _
    have y1:aG.b2 p a1:=by rw[← pm];exact J.b2.set _ _ _
    have kJ:h.b2 p a1:=((fg.h.trans dy.h).trans iB).trans y1;clear iB y1;have uo:skip false l n=skip false r (z+1):=by rw[Dx.h,hr,U5]
    replace ln:=Hid.mk ln;replace pm:=Hid.mk pm;replace kJ:=Hid.mk kJ;replace uo:=Hid.mk uo;replace hr:=Hid.mk hr;replace lq:=Hid.mk lq;simp only[aa,aw,bh,av,ay, *];exact aN.h r.length _ _ (by have:=lq.h;have:=GC.h;omega) ⟨r,z+1,_,rfl,kJ.h,g6,uo.h,by omega,by have:=lq.h;have:=zp.h;omega,rfl⟩
def uZ(p l:aD):aD × Bool:=if p.isPrefixOf l then(l.drop p.length,true) else(l,false)
theorem agW{l p:aD}(h:J)(Q:aT)(L:Q (.tuple #[str (uZ p l).1,.bool (uZ p l).2]) h):bj Tryz.prog 160 [str l,str p] h Q:=by
 refine qw (k:=2) (j:=3) ams rfl rfl rfl fun N=>?_;rw[eJ OE mY rfl];delta OE;replace L:=U L;simp only[aa, *];refine qw (k:=2) (j:=3) amy rfl rfl rfl fun N=>?_;rw[eJ OY mY rfl];delta OY;replace L:=U L;simp only[aa, *];refine Y7 h _ ?_;replace L:=L.h;cases hp:p.isPrefixOf l with
 |true =>
  have aj:uZ p l=(l.drop p.length,true):=by simp[uZ,hp]
  have bX:=(G3.1 hp).length_le;have qB:=ys bX;rw[aj]at L;replace aj:=Hid.mk aj;simp only[aa,ja,BW, *];exact L.h
 |false =>
  have aj:uZ p l=(l,false):=by simp[uZ,hp]
  rw[aj]at L;replace aj:=Hid.mk aj;simp only[aa,BW, *];exact L.h
structure Tok where
 kind:Int
 text:aD
 n:Int
 line:Int
def Tok.cells(t:Tok):ar:=[I t.kind,str t.text,I t.n,I t.line]
def Tok.val(t:Tok):Value:=.agg #[I t.kind,str t.text,I t.n,I t.line]
theorem Tok.box(t:Tok):nB [t.val]=some (t.cells,fun id=>(aH id 0)):=by simp[nB,Tok.val,Tok.cells,Value.cells,Value.oneCell']
theorem H4(a c d:Int)(b:aD):gI true 0 4 [I a,str b,I c,I d]=some (Tok.val ⟨a,b,c,d⟩):=by simp[gI,Tok.val]
set_option maxHeartbeats 1000000 in
theorem adV{l:aD}{n:Int}{t:Tok}(gx:t.text.length≤l.length){p:Nat}{h:J}(hp:h.get p=some (.aq [str l,I n] true))(Q:aT)
  (L:∀ D,h.b2 p D→D.get p=some (.aq [str (l.drop t.text.length),I n] true)→Q (Tok.val { t with line:=n }) D):bj Tryz.prog 112 [aH p 0,t.val] h Q:=by
 obtain⟨q,qU⟩:∃ x,h.next=x:=⟨_,rfl⟩;have zf:p<q:=by rw[← qU];exact J.bY hp
 have sX:=t.box;obtain⟨A,hh⟩:∃ x,h.alloc (.aq t.cells true)=x:=⟨_,rfl⟩;have h6:A.next=q+1:=by rw[← hh,J.zN,qU]
 obtain⟨S,mI⟩:∃ x,A.alloc (.aq [I 0,aI,I 0,I 0] true)=x:=⟨_,rfl⟩;have l1:h.le A:=by rw[← hh];exact(J.le.refl _).alloc _
 have l2:A.le S:=by rw[← mI];exact(J.le.refl _).alloc _
 have dV:=l2.get (l1.get hp);have eE:S.get q=some (.aq t.cells true):=l2.get (by rw[← hh,← qU];exact J.hy _ _);have YL:S.get (q+1)=some (.aq [I 0,aI,I 0,I 0] true):=by rw[← mI,← h6];exact J.hy _ _
 refine E5 (k:=3) (agg:=true) (size:=4) alP rfl rfl rfl fun N=>?_;rw[eJ NX mY rfl];delta NX;replace L:=Hid.mk L;have b4:=VC (k:=.i64) (z:=n) (off:=3) eE (by simp[Tok.cells]);obtain⟨ae,gX⟩:∃ x,S.set q (.aq (t.cells.set 3 (I n)) true)=x:=⟨_,rfl⟩;rw[gX]at b4;have hT:ae.get q=some (.aq [I t.kind,str t.text,I t.n,I n] true):=by rw[← gX];exact J.gz _ _ _ (by rw[eE];rfl)
 have hz:ae.get p=some (.aq [str l,I n] true):=by rw[← gX,J.dT _ _ _ _ (by simp;omega)];exact dV
 have aie:ae.get (q+1)=some (.aq [I 0,aI,I 0,I 0] true):=by rw[← gX,J.dT _ _ _ _ (by simp)];exact YL
 have qB:=ys gx;have kU:=iU (v:=str (l.drop t.text.length)) (off:=0) hz (by simp) rfl rfl;obtain⟨aB,og⟩:∃ x,ae.set p (.aq ([str l,I n].set 0 (str (l.drop t.text.length))) true)=x:=⟨_,rfl⟩;rw[og]at kU;have hf:aB.get p=some (.aq [str (l.drop t.text.length),I n] true):=by rw[← og];exact J.gz _ _ _ (by rw[hz];rfl)
 have qH:aB.get q=some (.aq [I t.kind,str t.text,I t.n,I n] true):=by rw[← og,J.dT _ _ _ _ (by simp;omega)];exact hT
 have YM:aB.get (q+1)=some (.aq [I 0,aI,I 0,I 0] true):=by rw[← og,J.dT _ _ _ _ (by simp;omega)];exact aie
 have apI:cz 4 aB [aH (q+1) 0,Tok.val { t with line:=n }]=some (b0,aB.set (q+1) (.aq (Tok.cells { t with line:=n }) true)):=nZ YM rfl rfl rfl rfl;obtain⟨aG,ln⟩:∃ x,aB.set (q+1) (.aq (Tok.cells { t with line:=n }) true)=x:=⟨_,rfl⟩;rw[ln]at apI;have asf:aG.get (q+1)=some (.aq [I t.kind,str t.text,I t.n,I n] true):=by rw[← ln];exact J.gz _ _ _ (by rw[YM];rfl)
 have h4:aG.get p=some (.aq [str (l.drop t.text.length),I n] true):=by rw[← ln,J.dT _ _ _ _ (by simp;omega)];exact hf
 have qd:=H4 t.kind t.n n t.text;have nQ:h.b2 p aG:=by
  refine⟨fun j bn ak=>?_,?_⟩
  ·obtain⟨o,ah⟩:=r1.1 ak;have aV:=J.bY ah;rw[← ln,J.dT _ _ _ _ (by simp;omega),← og,J.dT _ _ _ _ (by simpa using bn),← gX,J.dT _ _ _ _ (by simp;omega)];exact(l1.trans l2).pf j ak
  ·rw[← ln,← og,← gX];exact(l1.trans l2).next
 replace gX:=Hid.mk gX;replace og:=Hid.mk og;replace ln:=Hid.mk ln;clear YL;have fin:=L.h aG nQ h4;replace fin:=Hid.mk fin;clear L;simp only[aa,aw,bh,ja, *];exact fin.h
end Go.Eng.Sy
namespace Go.Proofs
open Go.Shelf
def akL:Go.Shelf.Ren:=⟨fun|17=>177|21=>186|22=>187|23=>188|24=>189|25=>197|27=>43|26=>198|28=>92|29=>125|30=>147|31=>148|32=>149|33=>150|35=>167|34=>166|36=>168|37=>169|38=>170|39=>180|40=>181|n=>n,fun|9=>9|3=>3|24=>136|34=>221|4=>4|39=>223|44=>238|37=>88|0=>0|47=>142|50=>246|48=>244|2=>2|52=>184|22=>181|5=>5|55=>187|59=>209|60=>151|20=>20|61=>210|36=>164|65=>229|66=>230|67=>96|n=>n,fun|0=>6|1=>7|2=>0|3=>2|4=>3|n=>n⟩
theorem aaL:Go.Proofs.LaysPu.n17 Tryz.prog akL where
 mixed:=by kernel_rfl
 f17:=Tryz.func177.trans (congrArg some (by kernel_rfl))
 f21:=Tryz.func186.trans (congrArg some (by kernel_rfl))
 f22:=Tryz.func187.trans (congrArg some (by kernel_rfl))
 f23:=Tryz.func188.trans (congrArg some (by kernel_rfl))
 f24:=Tryz.func189.trans (congrArg some (by kernel_rfl))
 f25:=Tryz.func197.trans (congrArg some (by kernel_rfl))
 f26:=Tryz.func198.trans (congrArg some (by kernel_rfl))
 f27:=Tryz.func43.trans (congrArg some (by kernel_rfl))
 f28:=Tryz.func92.trans (congrArg some (by kernel_rfl))
 f29:=Tryz.func125.trans (congrArg some (by kernel_rfl))
 f30:=Tryz.func147.trans (congrArg some (by kernel_rfl))
 f31:=Tryz.func148.trans (congrArg some (by kernel_rfl))
 f32:=Tryz.func149.trans (congrArg some (by kernel_rfl))
 f33:=Tryz.func150.trans (congrArg some (by kernel_rfl))
 f34:=Tryz.func166.trans (congrArg some (by kernel_rfl))
 f35:=Tryz.func167.trans (congrArg some (by kernel_rfl))
 f36:=Tryz.func168.trans (congrArg some (by kernel_rfl))
 f37:=Tryz.func169.trans (congrArg some (by kernel_rfl))
 f38:=Tryz.func170.trans (congrArg some (by kernel_rfl))
 f39:=Tryz.func180.trans (congrArg some (by kernel_rfl))
 f40:=Tryz.func181.trans (congrArg some (by kernel_rfl))
 t0:=Tryz.underlying0
 a0:=Tryz.isAgg0
 z0:=Tryz.sizeOf0
 v0:=Tryz.zeroValue0
 i0:=by kernel_rfl
 t2:=Tryz.underlying2
 a2:=Tryz.isAgg2
 z2:=Tryz.sizeOf2
 v2:=Tryz.zeroValue2
 i2:=by kernel_rfl
 t3:=Tryz.underlying3
 a3:=Tryz.isAgg3
 z3:=Tryz.sizeOf3
 v3:=Tryz.zeroValue3
 i3:=by kernel_rfl
 t4:=Tryz.underlying4
 a4:=Tryz.isAgg4
 z4:=Tryz.sizeOf4
 v4:=Tryz.zeroValue4
 i4:=by kernel_rfl
 t5:=Tryz.underlying5
 a5:=Tryz.isAgg5
 z5:=Tryz.sizeOf5
 v5:=Tryz.zeroValue5
 i5:=by kernel_rfl
 t9:=Tryz.underlying9
 a9:=Tryz.isAgg9
 z9:=Tryz.sizeOf9
 v9:=Tryz.zeroValue9
 i9:=by kernel_rfl
 t20:=Tryz.underlying20
 a20:=Tryz.isAgg20
 z20:=Tryz.sizeOf20
 v20:=Tryz.zeroValue20
 i20:=by kernel_rfl
 t22:=Tryz.underlying181
 a22:=Tryz.isAgg181
 z22:=Tryz.sizeOf181
 v22:=Tryz.zeroValue181
 i22:=by kernel_rfl
 t24:=Tryz.underlying136
 a24:=Tryz.isAgg136
 z24:=Tryz.sizeOf136
 v24:=Tryz.zeroValue136
 i24:=by kernel_rfl
 t34:=Tryz.underlying221
 a34:=Tryz.isAgg221
 z34:=Tryz.sizeOf221
 v34:=Tryz.zeroValue221
 i34:=by kernel_rfl
 c34:=by kernel_rfl
 t36:=Tryz.underlying164
 a36:=Tryz.isAgg164
 z36:=Tryz.sizeOf164
 v36:=Tryz.zeroValue164
 i36:=by kernel_rfl
 t37:=Tryz.underlying88
 a37:=Tryz.isAgg88
 z37:=Tryz.sizeOf88
 v37:=Tryz.zeroValue88
 i37:=by kernel_rfl
 t39:=Tryz.underlying223
 a39:=Tryz.isAgg223
 z39:=Tryz.sizeOf223
 v39:=Tryz.zeroValue223
 i39:=by kernel_rfl
 t44:=Tryz.underlying238
 a44:=Tryz.isAgg238
 z44:=Tryz.sizeOf238
 v44:=Tryz.zeroValue238
 i44:=by kernel_rfl
 t47:=Tryz.underlying142
 a47:=Tryz.isAgg142
 z47:=Tryz.sizeOf142
 v47:=Tryz.zeroValue142
 i47:=by kernel_rfl
 t48:=Tryz.underlying244
 a48:=Tryz.isAgg244
 z48:=Tryz.sizeOf244
 v48:=Tryz.zeroValue244
 i48:=by kernel_rfl
 t50:=Tryz.underlying246
 a50:=Tryz.isAgg246
 z50:=Tryz.sizeOf246
 v50:=Tryz.zeroValue246
 i50:=by kernel_rfl
 t52:=Tryz.underlying184
 a52:=Tryz.isAgg184
 z52:=Tryz.sizeOf184
 v52:=Tryz.zeroValue184
 i52:=by kernel_rfl
 t55:=Tryz.underlying187
 a55:=Tryz.isAgg187
 z55:=Tryz.sizeOf187
 v55:=Tryz.zeroValue187
 i55:=by kernel_rfl
 t59:=Tryz.underlying209
 a59:=Tryz.isAgg209
 z59:=Tryz.sizeOf209
 v59:=Tryz.zeroValue209
 i59:=by kernel_rfl
 t60:=Tryz.underlying151
 a60:=Tryz.isAgg151
 z60:=Tryz.sizeOf151
 v60:=Tryz.zeroValue151
 i60:=by kernel_rfl
 t61:=Tryz.underlying210
 a61:=Tryz.isAgg210
 z61:=Tryz.sizeOf210
 t65:=Tryz.underlying229
 a65:=Tryz.isAgg229
 z65:=Tryz.sizeOf229
 v65:=Tryz.zeroValue229
 i65:=by kernel_rfl
 t66:=Tryz.underlying230
 a66:=Tryz.isAgg230
 z66:=Tryz.sizeOf230
 v66:=Tryz.zeroValue230
 i66:=by kernel_rfl
 t67:=Tryz.underlying96
 a67:=Tryz.isAgg96
 z67:=Tryz.sizeOf96
 v67:=Tryz.zeroValue96
 i67:=by kernel_rfl
 g0:=by kernel_rfl
 m0:=by kernel_rfl
 g1:=by kernel_rfl
 m1:=by kernel_rfl
 g2:=by kernel_rfl
 m2:=by kernel_rfl
 g3:=by kernel_rfl
 m3:=by kernel_rfl
 g4:=by kernel_rfl
 m4:=by kernel_rfl
end Go.Proofs
namespace Go.Eng.Sy
open Go Go.Eng Go.Proofs
theorem aqM{n:Int}(hn:n=1∨n=2)(l:aD)(ag:l.length≤140737488355328)(wM:ByteArray)(b k:Int)(h:J) :
  my Tryz.prog 177 [.string wM,.string ⟨l.toArray⟩,I b,I k,.iface 221 (I n)] h (.iface 223 (aH h.next 0)) (h.alloc .dead):=by
 refine⟨enters_of Tryz.func177 (by kernel_rfl) rfl,J.r0 h _,fun base G al w gq bv bZ aM ct=>?_⟩;obtain⟨rfl⟩:gq=[.string wM,.string ⟨l.toArray⟩,I b,I k,.iface 221 (I n)]:=by
  cases ct with|cons iT atL cn Ms A iX =>
  cases iX with|cons v2 atM bM acf S fO =>
  cases fO with|cons v3 atN cE atu ae lW =>
  cases lW with|cons v4 atO eb atv aB p5 =>
  cases p5 with|cons v5 atP gn atw aG uk =>
  cases uk
  rw[bL.rT rfl A,bL.rT rfl S,bL.rT rfl ae,bL.rT rfl aB,bL.rT rfl aG]
 have iD:(ByteArray.mk l.toArray).size≤281474976710656:=by
  have:(ByteArray.mk l.toArray).size=l.length:=by simp[ByteArray.size]
  omega
 have key:Calls Tryz.prog 177 [.string wM,.string ⟨l.toArray⟩,I b,I k,.iface 221 (I n)].toArray w fun e w'=>∃ N ev,e=.returned (.iface 223 (aH N 0))∧w.heap.size≤N∧w'.heap[N]?=some (.cells #[.string wM,.string ⟨l.toArray⟩,ev] 238 (0,0))∧RowKit.Below w.heap.size w w':=by
  rcases hn with rfl|rfl
  ·obtain⟨_,xL,xC,aK⟩:=aM.nJ.1 7 (by simp[LK]);exact(AnyPu.strconv_toError_range aaL wM ⟨l.toArray⟩ b k (.iface xL xC) w iD aK (.inr ⟨_,_,rfl⟩)).mono fun e w' ⟨N,A,S,ae,aB⟩=>⟨N,_,A,S,ae,aB⟩
  ·obtain⟨_,xL,xC,aK⟩:=aM.nJ.1 6 (by simp[LK]);exact(AnyPu.strconv_toError_syntax aaL wM ⟨l.toArray⟩ b k (.iface xL xC) w iD aK (.inr ⟨_,_,rfl⟩)).mono fun e w' ⟨N,A,S,ae,aB⟩=>⟨N,_,A,S,ae,aB⟩
 refine key.mono fun e w' ⟨N,ev,aK,bH,aj,T⟩=>?_;have cQ:al h.next=none:=bZ h.next (br _) (by simp);have aiA:N<w'.heap.size:=(Ic.1 aj).1;refine⟨_,al.put h.next ⟨N,0,3⟩,aK,⟨by simpa using fj.put al h.next ⟨N,0,3⟩,?_,?_,?_⟩⟩
 ·refine .iface _ _ _ ?_;have:=bL.ptr (al:=al.put h.next ⟨N,0,3⟩) h.next 0 ⟨N,0,3⟩ (by simp[Ren.put]);simpa using this
 ·exact b1.congr (aM.alloc h.next .dead ⟨N,0,3⟩ cQ bH aiA (fun b pY=>T.block b pY) T.size trivial) (zQ bv _)
 ·have qL:=aM.size;refine⟨T.size,fun b pY=>T.block b (by omega),T.tape,T.os,T.output,fun a ai=>?_⟩;unfold World.frozen?;rw[T.block a.block (by omega)]
theorem aqL{n:Int}(hn:n=1∨n=2){l:aD}(ag:l.length≤140737488355328){wM:ByteArray}{b k:Int}{h:J}(Q:aT)(L:∀ id D,h.le D→Q (.iface 223 (aH id 0)) D) :
  bj Tryz.prog 177 [.string wM,.string ⟨l.toArray⟩,I b,I k,.iface 221 (I n)] h Q :=
 ⟨_,_,aqM hn l ag wM b k h,L _ _ ((J.le.refl h).alloc _)⟩
def low(b:UInt8):UInt8:=b ||| 32
def yu(b:UInt8):Option Nat:=if 48≤b.toNat∧b.toNat≤57 then some (b.toNat-48) else if 97≤(low b).toNat∧(low b).toNat≤122 then some ((low b).toNat-87) else none
def parse(base:Nat):aD→Nat→Option Nat
 |[],n=>some n
 |b::r,n=>match yu b with
  |none=>none
  |some d=>if base≤d then none else if 4294967295<n*base+d then none else parse base r (n*base+d)
def pG(base:Nat)(l:aD):Option Nat:=match l with|[]=>none|_=>parse base l 0
theorem Ew(b:UInt8):b.toNat<256:=b.toNat_lt
set_option maxRecDepth 20000 in
theorem al0:∀ n:Fin 256,IntKind.u8.wrap ((BitVec.ofInt 8 (n.val:Int) ||| BitVec.ofInt 8 32).toNat:Int)=((low (UInt8.ofNat n.val)).toNat:Int):=by decide
theorem nR(b:UInt8)(h:J)(Q:aT)(L:Q (.int .u8 (low b).toNat) h):bj Tryz.prog 184 [.int .u8 b.toNat] h Q:=by
 refine c7 (k:=1) amB rfl rfl rfl fun N=>?_;rw[gE O4 iL rfl];delta O4;replace L:=U L;have e:=al0 ⟨b.toNat,Ew b⟩;simp only[UInt8.ofNat_toNat]at e;have cA:((IntKind.u8.wrap ((BitVec.ofInt IntKind.u8.bits (b.toNat:Int) ||| BitVec.ofInt IntKind.u8.bits 32).toNat:Int)):Int)=((low b).toNat:Int):=e;clear e;simp only[aa,av,ay, *];exact L.h
theorem aqw(h:J)(l:aD):bh .Es [.string ⟨l.toArray⟩] h=some (.slice (some ⟨h.next,0,none⟩) l.length 1,h.alloc (.aq (l.map fun b=>.int .u8 b.toNat) false)):=by
 simp[bh,ByteArray.size]
theorem ads:IR .shl .u64 1 32=some (.int .u64 4294967296):=by rfl
theorem adR:IntKind.u64.wrap (4294967296-1)=4294967295:=by rfl
def VQ(base:Nat)(l:aD)(h:J)(Q:aT):Prop :=
 ∀ D,h.le D→(∀ n,pG base l=some n→Q (.tuple #[.int .u64 n,.nilIface]) D)∧(pG base l=none→∀(x e:Int),(e=1∨e=2)→Q (.tuple #[.int .u64 x,.iface 221 (I e)]) D)
theorem aog{base:Nat}(T:base=10∨base=16){s0:Int}(w1:4294967296≤s0){l:aD}(ag:l.length≤140737488355328)(cH:l≠[]){N p:Nat}{h h0:J}(hp:h.get p=some (.aq (l.map fun b=>.int .u8 b.toNat) false))(bX:h0.le h)
  {Q:aT}(L:VQ base l h0 Q){x3 ek x11 x12 x13 wd:Value}{gA:dM→ar→J→Prop}
  (pX:∀ e A n,h0.le A→pG base l=some n→(∃ x11 x12 x13 wd,e=[str l,I base,I 32,x3,ek,.bool false,str l,.int .u64 s0,.int .u64 4294967295,.bool false,.int .u64 n,x11,x12,x13,I base,.slice (some ⟨p,0,none⟩) l.length 1,I l.length,I l.length,wd])→gA (.exit 3) e A)
  (oc:∀ e A (x z:Int),h0.le A→pG base l=none→(z=1∨z=2)→e[3]?=some (.int .u64 x)→e[4]?=some (.iface 221 (I z))→gA .ret e A) :
  ch Tryz.prog N Ar.vars Ka [str l,I base,I 32,x3,ek,.bool false,str l,.int .u64 s0,.int .u64 4294967295,.bool false,.int .u64 0,x11,x12,x13,I base,.slice (some ⟨p,0,none⟩) l.length 1,I l.length,I 0,wd] h gA:=by
 have Dw:pG base l=parse base l 0:=by cases l with|nil=>exact absurd rfl cH|cons=>rfl
 have dx:(base:Int)≤16∧0≤(base:Int):=by omega
 have sx:IntKind.u64.wrap (base:Int)=base:=Cm (by omega) (by omega);have asV:IntKind.u8.wrap (base:Int)=base:=Ip (by omega) (by omega);replace pX:=Hid.mk pX;replace oc:=Hid.mk oc;replace L:=Hid.mk L;replace Dw:=Hid.mk Dw;refine ch.upto l.length (fun i e A=>h.le A∧∃ n:Nat,n≤4294967295∧parse base l 0=parse base (l.drop i) n∧∃ x11 x12 x13 wd,e=[str l,I base,I 32,x3,ek,.bool false,str l,.int .u64 s0,.int .u64 4294967295,.bool false,.int .u64 n,x11,x12,x13,I base,.slice (some ⟨p,0,none⟩) l.length 1,I l.length,I i,wd]) ?_ (lj _) ⟨J.le.refl _,0,by omega,rfl,_,_,_,_,rfl⟩;rintro i _ A R au ⟨bF,n,hn,Dt,x11,x12,x13,wd,rfl⟩ aN;replace Dt:=Hid.mk Dt;delta Ka;have mJ:=bF.get hp;have LY:=Hid.mk (bX.trans bF);by_cases aV:i<l.length
 case neg =>
  have dm:¬(i:Int)<l.length:=by omega
  have sn:l.length=i:=by omega
  have g:=pX.h [str l,I base,I 32,x3,ek,.bool false,str l,.int .u64 s0,.int .u64 4294967295,.bool false,.int .u64 n,x11,x12,x13,I base,.slice (some ⟨p,0,none⟩) l.length 1,I l.length,I i,.bool false] A n LY.h (by rw[Dw.h,Dt.h,PE (by omega)];rfl) ⟨x11,x12,x13,_,by rw[sn]⟩;replace g:=Hid.mk g;clear sn;simp only[aa,av,ay, *];exact g.h
 case pos =>
  have dm:(i:Int)<l.length:=by omega
  have DD:IntKind.i64.wrap ((i:Int)+1)=((i+1:Nat):Int):=by rw[cZ (by omega) (by omega)];rfl
  obtain⟨b,pY⟩:∃ b,l[i]?=some b:=⟨_,hi aV⟩;have Zc:l.drop i=b::l.drop (i+1):=by
   rw[Np aV]
   congr 1
   exact(j2.1 pY).2
  have Du:parse base l 0=parse base (b::l.drop (i+1)) n:=by rw[Dt.h,Zc]
  clear Zc;have akf:oU 1 [.slice (some ⟨p,0,none⟩) l.length 1,I (i:Int)]=some (aH p i):=by simp[oU,aV]
  have asd:(l.map fun b=>Value.int .u8 b.toNat)[i]?=some (.int .u8 b.toNat):=by simp[pY]
  have RS:=Ew b;have asJ:∀ c:Bool,(if c then false else false)=false:=by intro c;cases c<;>rfl
  clear pY;cases hd:yu b with
  |none =>
   have ue:pG base l=none:=by rw[Dw.h,Du];simp[parse,hd]
   have g:∀ e,e[3]?=some (.int .u64 0)→e[4]?=some (.iface 221 (I 2))→gA .ret e A:=fun e bq cV=>oc.h e A 0 2 LY.h ue (.inr rfl) bq cV;replace g:=Hid.mk g;have hB:¬(48≤b.toNat∧b.toNat≤57)∧¬(97≤(low b).toNat∧(low b).toNat≤122):=by
    unfold yu at hd;by_cases dW:48≤b.toNat∧b.toNat≤57
    ·rw[if_pos dW]at hd;cases hd
    ·rw[if_neg dW]at hd;by_cases cM:97≤(low b).toNat∧(low b).toNat≤122
     ·rw[if_pos cM]at hd;cases hd
     ·exact⟨dW,cM⟩
   replace hB:=Hid.mk hB;clear hd Du Dt;by_cases qI:(48:Int)≤(b.toNat:Int)<;>by_cases rt:(b.toNat:Int)≤57<;>by_cases Rv:(97:Int)≤((low b).toNat:Int)<;>by_cases Rs:((low b).toNat:Int)≤122;all_goals first
    |(exfalso;have:=hB.h;omega)
    |(
     cases wZ:((b.toNat:Int)==95)
     all_goals
      simp only[aa,aw,av,ay, *];refine nR b _ _ ?_;simp only[aa,av,ay, *];first
       |exact g.h _ rfl rfl
       |(
        refine nR b _ _ ?_;simp only[aa,av,ay, *];exact g.h _ rfl rfl))
  |some d =>
   have hB:(48≤b.toNat∧b.toNat≤57∧d=b.toNat-48)∨(¬(48≤b.toNat∧b.toNat≤57)∧97≤(low b).toNat∧(low b).toNat≤122∧d=(low b).toNat-87):=by
    unfold yu at hd;by_cases dW:48≤b.toNat∧b.toNat≤57
    ·rw[if_pos dW]at hd;cases hd;exact .inl ⟨dW.1,dW.2,rfl⟩
    ·rw[if_neg dW]at hd;by_cases cM:97≤(low b).toNat∧(low b).toNat≤122
     ·rw[if_pos cM]at hd;cases hd;exact .inr ⟨dW,cM.1,cM.2,rfl⟩
     ·rw[if_neg cM]at hd;cases hd
   have asr:d≤35:=by omega
   have asU:IntKind.u64.wrap (d:Int)=d:=Cm (by omega) (by omega);have vr:n*base≤4294967295*16:=Nat.mul_le_mul hn (by omega);have Ss:IntKind.u64.wrap ((n:Int)*(base:Int))=((n*base:Nat):Int):=by
    rw[← Int.natCast_mul];exact Cm (by omega) (by omega)
   have SU:IntKind.u64.wrap (((n*base:Nat):Int)+(d:Int))=((n*base+d:Nat):Int):=by
    rw[← Int.natCast_add];exact Cm (by omega) (by omega)
   have y5:¬ s0≤(n:Int):=by omega
   have ka:¬((n*base+d:Nat):Int)<((n*base:Nat):Int):=by omega
   have g2:base≤d→∀ e,e[3]?=some (.int .u64 0)→e[4]?=some (.iface 221 (I 2))→gA .ret e A:=fun tW e bq cV=>oc.h e A 0 2 LY.h (by rw[Dw.h,Du];simp[parse,hd,tW]) (.inr rfl) bq cV;have g1:¬ base≤d→4294967295<n*base+d→∀ e,e[3]?=some (.int .u64 4294967295)→e[4]?=some (.iface 221 (I 1))→gA .ret e A:=fun tW ml e bq cV=>oc.h e A 4294967295 1 LY.h (by rw[Dw.h,Du];simp[parse,hd,tW,ml]) (.inl rfl) bq cV;have g0:¬ base≤d→¬ 4294967295<n*base+d→parse base l 0=parse base (l.drop (i+1)) (n*base+d):=fun tW ml=>by rw[Du];simp only[parse,hd];rw[if_neg tW,if_neg ml]
   replace g2:=Hid.mk g2;replace g1:=Hid.mk g1;replace g0:=Hid.mk g0;replace SU:=Hid.mk SU;replace Ss:=Hid.mk Ss;clear hd Du Dt vr;have dW:48≤b.toNat→b.toNat≤57→d=b.toNat-48→IntKind.u8.wrap ((b.toNat:Int)-48)=(d:Int):=fun A S e=>by
    rw[Ip (by omega) (by omega)];omega
   have cM:97≤(low b).toNat→(low b).toNat≤122→d=(low b).toNat-87→IntKind.u8.wrap (((low b).toNat:Int)-97)=((low b).toNat:Int)-97∧IntKind.u8.wrap (((low b).toNat:Int)-97+10)=(d:Int):=fun A S e=>by
    rw[Ip (by omega) (by omega),Ip (by omega) (by omega)];omega
   by_cases tW:base≤d
   ·have aiM:(base:Int)≤(d:Int):=by omega
    have g:=g2.h tW;replace g:=Hid.mk g;rcases hB with⟨fd,h5,lm⟩|⟨fd,h5,lm,pj⟩
    ·have ai:=dW fd h5 lm;have qI:(48:Int)≤(b.toNat:Int):=by omega
     have rt:(b.toNat:Int)≤57:=by omega
     clear lm;cases wZ:((b.toNat:Int)==95);all_goals
      simp only[aa,aw,av,ay, *];exact g.h _ rfl rfl
    ·obtain⟨fg,dx⟩:=cM h5 lm pj;have Rv:(97:Int)≤((low b).toNat:Int):=by omega
     have Rs:((low b).toNat:Int)≤122:=by omega
     by_cases qI:(48:Int)≤(b.toNat:Int)
     ·have rt:¬(b.toNat:Int)≤57:=by omega
      clear pj;cases wZ:((b.toNat:Int)==95);all_goals
       simp only[aa,aw,av,ay, *];refine nR b _ _ ?_;simp only[aa,av,ay, *];refine nR b _ _ ?_;simp only[aa,av,ay, *];refine nR b _ _ ?_;simp only[aa,av,ay, *];exact g.h _ rfl rfl
     ·clear pj;cases wZ:((b.toNat:Int)==95);all_goals
       simp only[aa,aw,av,ay, *];refine nR b _ _ ?_;simp only[aa,av,ay, *];refine nR b _ _ ?_;simp only[aa,av,ay, *];refine nR b _ _ ?_;simp only[aa,av,ay, *];exact g.h _ rfl rfl
   ·have aiM:¬(base:Int)≤(d:Int):=by omega
    have hm:=Ss.h;have ak:=SU.h;by_cases ml:4294967295<n*base+d
    ·have aja:(4294967295:Int)<((n*base+d:Nat):Int):=by omega
     have g:=g1.h tW ml;replace g:=Hid.mk g;rcases hB with⟨fd,h5,lm⟩|⟨fd,h5,lm,pj⟩
     ·have ai:=dW fd h5 lm;have qI:(48:Int)≤(b.toNat:Int):=by omega
      have rt:(b.toNat:Int)≤57:=by omega
      clear lm;cases wZ:((b.toNat:Int)==95);all_goals
       simp only[aa,aw,av,ay, *];exact g.h _ rfl rfl
     ·obtain⟨fg,dx⟩:=cM h5 lm pj;have Rv:(97:Int)≤((low b).toNat:Int):=by omega
      have Rs:((low b).toNat:Int)≤122:=by omega
      by_cases qI:(48:Int)≤(b.toNat:Int)
      ·have rt:¬(b.toNat:Int)≤57:=by omega
       clear pj;cases wZ:((b.toNat:Int)==95);all_goals
        simp only[aa,aw,av,ay, *];refine nR b _ _ ?_;simp only[aa,av,ay, *];refine nR b _ _ ?_;simp only[aa,av,ay, *];refine nR b _ _ ?_;simp only[aa,av,ay, *];exact g.h _ rfl rfl
      ·clear pj;cases wZ:((b.toNat:Int)==95);all_goals
        simp only[aa,aw,av,ay, *];refine nR b _ _ ?_;simp only[aa,av,ay, *];refine nR b _ _ ?_;simp only[aa,av,ay, *];refine nR b _ _ ?_;simp only[aa,av,ay, *];exact g.h _ rfl rfl
    ·have aja:¬(4294967295:Int)<((n*base+d:Nat):Int):=by omega
     have g:=g0.h tW ml;replace g:=Hid.mk g;have vn:n*base+d≤4294967295:=by omega
     rcases hB with⟨fd,h5,lm⟩|⟨fd,h5,lm,pj⟩
     ·have ai:=dW fd h5 lm;have qI:(48:Int)≤(b.toNat:Int):=by omega
      have rt:(b.toNat:Int)≤57:=by omega
      clear lm;cases wZ:((b.toNat:Int)==95);all_goals
       simp only[aa,aw,av,ay, *];exact aN.h _ _ aV ⟨bF,_,vn,g.h,_,_,_,_,rfl⟩
     ·obtain⟨fg,dx⟩:=cM h5 lm pj;have Rv:(97:Int)≤((low b).toNat:Int):=by omega
      have Rs:((low b).toNat:Int)≤122:=by omega
      by_cases qI:(48:Int)≤(b.toNat:Int)
      ·have rt:¬(b.toNat:Int)≤57:=by omega
       clear pj;cases wZ:((b.toNat:Int)==95);all_goals
        simp only[aa,aw,av,ay, *];refine nR b _ _ ?_;simp only[aa,av,ay, *];refine nR b _ _ ?_;simp only[aa,av,ay, *];refine nR b _ _ ?_;simp only[aa,av,ay, *];exact aN.h _ _ aV ⟨bF,_,vn,g.h,_,_,_,_,rfl⟩
      ·clear pj;cases wZ:((b.toNat:Int)==95);all_goals
        simp only[aa,aw,av,ay, *];refine nR b _ _ ?_;simp only[aa,av,ay, *];refine nR b _ _ ?_;simp only[aa,av,ay, *];refine nR b _ _ ?_;simp only[aa,av,ay, *];exact aN.h _ _ aV ⟨bF,_,vn,g.h,_,_,_,_,rfl⟩
end Go.Eng.Sy
namespace Go.Proofs
open Go.Shelf
def TU:Go.Shelf.Ren:=⟨fun|159=>162|165=>123|166=>89|167=>91|169=>46|230=>178|204=>179|240=>121|241=>146|197=>172|118=>190|168=>191|270=>192|262=>193|276=>143|277=>165|260=>182|242=>199|313=>200|278=>201|274=>202|275=>203|n=>n,fun|9=>9|4=>4|3=>3|5=>5|72=>90|0=>0|76=>137|75=>136|107=>218|70=>87|20=>20|37=>88|127=>142|21=>21|105=>213|164=>177|162=>243|203=>241|119=>231|46=>164|139=>234|138=>233|51=>151|160=>247|208=>253|206=>251|80=>96|n=>n,fun|13=>8|3=>4|4=>5|n=>n⟩
theorem akJ:Go.Proofs.Lays.n159 Tryz.prog TU where
 mixed:=by kernel_rfl
 f118:=Tryz.func190.trans (congrArg some (by kernel_rfl))
 f159:=Tryz.func162.trans (congrArg some (by kernel_rfl))
 f165:=Tryz.func123.trans (congrArg some (by kernel_rfl))
 f166:=Tryz.func89.trans (congrArg some (by kernel_rfl))
 f167:=Tryz.func91.trans (congrArg some (by kernel_rfl))
 f168:=Tryz.func191.trans (congrArg some (by kernel_rfl))
 f169:=Tryz.func46.trans (congrArg some (by kernel_rfl))
 f197:=Tryz.func172.trans (congrArg some (by kernel_rfl))
 f204:=Tryz.func179.trans (congrArg some (by kernel_rfl))
 f230:=Tryz.func178.trans (congrArg some (by kernel_rfl))
 f240:=Tryz.func121.trans (congrArg some (by kernel_rfl))
 f241:=Tryz.func146.trans (congrArg some (by kernel_rfl))
 f242:=Tryz.func199.trans (congrArg some (by kernel_rfl))
 f260:=Tryz.func182.trans (congrArg some (by kernel_rfl))
 f262:=Tryz.func193.trans (congrArg some (by kernel_rfl))
 f270:=Tryz.func192.trans (congrArg some (by kernel_rfl))
 f274:=Tryz.func202.trans (congrArg some (by kernel_rfl))
 f275:=Tryz.func203.trans (congrArg some (by kernel_rfl))
 f276:=Tryz.func143.trans (congrArg some (by kernel_rfl))
 f277:=Tryz.func165.trans (congrArg some (by kernel_rfl))
 f278:=Tryz.func201.trans (congrArg some (by kernel_rfl))
 f313:=Tryz.func200.trans (congrArg some (by kernel_rfl))
 t0:=Tryz.underlying0
 a0:=Tryz.isAgg0
 z0:=Tryz.sizeOf0
 v0:=Tryz.zeroValue0
 t3:=Tryz.underlying3
 a3:=Tryz.isAgg3
 z3:=Tryz.sizeOf3
 v3:=Tryz.zeroValue3
 t4:=Tryz.underlying4
 a4:=Tryz.isAgg4
 z4:=Tryz.sizeOf4
 v4:=Tryz.zeroValue4
 t5:=Tryz.underlying5
 a5:=Tryz.isAgg5
 z5:=Tryz.sizeOf5
 v5:=Tryz.zeroValue5
 t9:=Tryz.underlying9
 a9:=Tryz.isAgg9
 z9:=Tryz.sizeOf9
 v9:=Tryz.zeroValue9
 t20:=Tryz.underlying20
 a20:=Tryz.isAgg20
 z20:=Tryz.sizeOf20
 v20:=Tryz.zeroValue20
 t21:=Tryz.underlying21
 a21:=Tryz.isAgg21
 z21:=Tryz.sizeOf21
 v21:=Tryz.zeroValue21
 t37:=Tryz.underlying88
 a37:=Tryz.isAgg88
 z37:=Tryz.sizeOf88
 v37:=Tryz.zeroValue88
 t46:=Tryz.underlying164
 a46:=Tryz.isAgg164
 z46:=Tryz.sizeOf164
 v46:=Tryz.zeroValue164
 t51:=Tryz.underlying151
 a51:=Tryz.isAgg151
 z51:=Tryz.sizeOf151
 v51:=Tryz.zeroValue151
 t70:=Tryz.underlying87
 a70:=Tryz.isAgg87
 z70:=Tryz.sizeOf87
 v70:=Tryz.zeroValue87
 t72:=Tryz.underlying90
 a72:=Tryz.isAgg90
 z72:=Tryz.sizeOf90
 v72:=Tryz.zeroValue90
 t75:=Tryz.underlying136
 a75:=Tryz.isAgg136
 z75:=Tryz.sizeOf136
 v75:=Tryz.zeroValue136
 t76:=Tryz.underlying137
 a76:=Tryz.isAgg137
 z76:=Tryz.sizeOf137
 v76:=Tryz.zeroValue137
 t105:=Tryz.underlying213
 a105:=Tryz.isAgg213
 z105:=Tryz.sizeOf213
 v105:=Tryz.zeroValue213
 t107:=Tryz.underlying218
 a107:=Tryz.isAgg218
 z107:=Tryz.sizeOf218
 v107:=Tryz.zeroValue218
 t119:=Tryz.underlying231
 a119:=Tryz.isAgg231
 z119:=Tryz.sizeOf231
 t127:=Tryz.underlying142
 a127:=Tryz.isAgg142
 z127:=Tryz.sizeOf142
 v127:=Tryz.zeroValue142
 t138:=Tryz.underlying233
 a138:=Tryz.isAgg233
 z138:=Tryz.sizeOf233
 v138:=Tryz.zeroValue233
 t139:=Tryz.underlying234
 a139:=Tryz.isAgg234
 z139:=Tryz.sizeOf234
 v139:=Tryz.zeroValue234
 t160:=Tryz.underlying247
 a160:=Tryz.isAgg247
 z160:=Tryz.sizeOf247
 v160:=Tryz.zeroValue247
 t162:=Tryz.underlying243
 a162:=Tryz.isAgg243
 z162:=Tryz.sizeOf243
 v162:=Tryz.zeroValue243
 t164:=Tryz.underlying177
 a164:=Tryz.isAgg177
 z164:=Tryz.sizeOf177
 v164:=Tryz.zeroValue177
 t203:=Tryz.underlying241
 a203:=Tryz.isAgg241
 z203:=Tryz.sizeOf241
 v203:=Tryz.zeroValue241
 t206:=Tryz.underlying251
 a206:=Tryz.isAgg251
 z206:=Tryz.sizeOf251
 v206:=Tryz.zeroValue251
 t208:=Tryz.underlying253
 a208:=Tryz.isAgg253
 z208:=Tryz.sizeOf253
 v208:=Tryz.zeroValue253
 g3:=by kernel_rfl
 g4:=by kernel_rfl
 g13:=by kernel_rfl
theorem agi:Builder.Extra Tryz.prog TU where
 sizeBuilder:=by kernel_rfl
 liesBuilder:=by kernel_rfl
 t5:=Tryz.underlying5
 a5:=Tryz.isAgg5
 z5:=Tryz.sizeOf5
 v5:=Tryz.zeroValue5
 infoByte:=by kernel_rfl
 cellsByte:=by kernel_rfl
 sizeByte:=by kernel_rfl
 neB5:=by decide
end Go.Proofs
namespace Go.Eng.Sy
open Go Go.Eng Go.Proofs
theorem Vr{l:aD}(ag:l.length≤140737488355328)(ai:∀ b∈l,b.toNat<128){h:J}(Q:aT)(L:Q (.string ⟨(Lib.toLowerA l).toArray⟩) h):bj Tryz.prog 162 [.string ⟨l.toArray⟩] h Q:=by
 refine⟨_,_,my.abE (enters_of Tryz.func162 (by kernel_rfl) rfl) (by simp[Value.plain]) rfl fun base w _=>?_,L⟩;have:=Any.strings_ToLower_ascii akJ agi ⟨l.toArray⟩ w (by simpa[ByteArray.size] using ag) (fun j b T=>ai b (by simpa using List.mem_of_getElem? T));have e:TU.f 159=162:=rfl;rw[e]at this;simpa using this
theorem Hk(t:TypeId)(v:Value)(neg:Bool):uI 3 neg [.iface t v]=some (.bool (if neg then !false else false)):=by simp[uI,o8]
theorem zw(neg:Bool):uI 3 neg [.nilIface]=some (.bool (if neg then !true else true)):=by simp[uI,o8]
theorem aoe{base:Nat}(T:base=10∨base=16){l:aD}(ag:l.length≤140737488355328)(h:J)(Q:aT)(L:VQ base l h Q):bj Tryz.prog 176 [str l,I base,I 32] h Q:=by
 refine qw (k:=3) (j:=4) amz rfl rfl rfl fun N=>?_;rw[s3 Ar ar3 rfl];delta Ar Kb Kc Kd;replace L:=U L;cases l with
 |nil =>
  have g:=(L.h h (J.le.refl h)).2 rfl 0 2 (.inr rfl);replace g:=Hid.mk g;simp only[aa,av,iz, *];exact g.h
 |cons b r =>
  obtain⟨l,cW⟩:∃ l,b::r=l:=⟨_,rfl⟩;have cH:l≠[]:=by rw[← cW];simp
  have asH:(l==[])=false:=by rw[← cW];rfl
  rw[cW]at L ag ⊢;clear cW;have mG:((base:Int)==0)=false:=by rcases T with rfl|rfl<;>rfl
  have fg:(2:Int)≤(base:Int):=by rcases T with rfl|rfl<;>decide
  have dx:(base:Int)≤36:=by rcases T with rfl|rfl<;>decide
  obtain⟨p,pt⟩:∃ x,h.next=x:=⟨_,rfl⟩;have apS:=aqw h l;obtain⟨A,hh⟩:∃ x,h.alloc (.aq (l.map fun b=>.int .u8 b.toNat) false)=x:=⟨_,rfl⟩;rw[pt,hh]at apS;have ep:A.get p=some (.aq (l.map fun b=>.int .u8 b.toNat) false):=by rw[← hh,← pt];exact J.hy _ _
  have l1:h.le A:=by rw[← hh];exact(J.le.refl _).alloc _
  replace pt:=Hid.mk pt;replace hh:=Hid.mk hh;have fin:∀(s0:Int),4294967296≤s0→∀ x3 ek x11 x12 x13 wd,ch Tryz.prog N Ar.vars Ka [str l,I base,I 32,x3,ek,.bool false,str l,.int .u64 s0,.int .u64 4294967295,.bool false,.int .u64 0,x11,x12,x13,I base,.slice (some ⟨p,0,none⟩) l.length 1,I l.length,I 0,wd] A
    (sW 3 (rh (W Tryz.prog N Ar.vars (.seq (.hK Kb [] 0 (.seq (.aW Kc [(3,1),(4,0)]) .ret) .skip) (.seq (.aW Kd [(3,1),(4,0)]) .ret)) (My 3 4 Q)) (My 3 4 Q))):=by
   intro s0 w1 x3 ek x11 x12 x13 wd;refine aog T w1 ag cH ep l1 L.h ?_ ?_
   ·rintro e S n bC hn ⟨x11,x12,x13,wd,rfl⟩;have g:=(L.h S bC).1 n hn;replace g:=Hid.mk g;clear L ep hn;delta Kb Kc Kd;simp only[aa, *];exact g.h
   ·intro e S x z bC hn bp bq cV;have g:=(L.h S bC).2 hn x z bp;replace g:=Hid.mk g;clear L ep hn;simp only[aa, *];exact g.h
  delta Ar at fin;simp only at fin;replace fin:=Hid.mk fin;have atV:IntKind.u64.wrap 32=32:=by rfl
  have hD:((32:Int)==0)=false:=rfl;have h9:¬(32:Int)<0:=by decide
  have rN:¬(64:Int)<32:=by decide
  clear L;cases lk:((base:Int)==10) with
  |true =>
   simp only[aa,av,ay,pD,iz,ads,adR, *];exact fin.h 1844674407370955162 (by decide) _ _ _ _ _ _
  |false =>
   have YV:((base:Int)==16)=true:=by
    rcases T with rfl|rfl
    ·cases lk
    ·rfl
   simp only[aa,av,ay,pD,iz,ads,adR, *];exact fin.h 1152921504606846976 (by decide) _ _ _ _ _ _
def aeY(base:Nat)(l:aD)(h:J)(Q:aT):Prop :=
 ∀ D,h.le D→(∀ n,pG base l=some n→Q (.tuple #[.int .u64 n,.nilIface]) D)∧(pG base l=none→∀(x:Int) (id:Nat),Q (.tuple #[.int .u64 x,.iface 223 (aH id 0)]) D)
theorem abZ{base:Nat}(T:base=10∨base=16){l:aD}(ag:l.length≤140737488355328)(h:J)(Q:aT)(L:aeY base l h Q):bj Tryz.prog 161 [str l,I base,I 32] h Q:=by
 refine qw (k:=3) (j:=4) amt rfl rfl rfl fun N=>?_;rw[s3 OF uO rfl];delta OF;replace L:=U L;simp only[aa, *];refine aoe T ag h _ fun A l1=>⟨fun n hn=>?_,fun hn x e aK=>?_⟩
 ·have g:=(L.h A l1).1 n hn;replace g:=Hid.mk g;clear L hn;simp only[aa,zw, *];exact g.h
 ·replace hn:=Hid.mk hn;replace l1:=Hid.mk l1;simp only[aa,Hk, *];refine aqL aK (by omega) _ fun id S l2=>?_;simp only[aa, *];exact(L.h S (l1.h.trans l2)).2 hn.h x id
theorem ac2{base:Nat}:∀ {l:aD}{n m:Nat},n≤4294967295→parse base l n=some m→m≤4294967295
 |[],n,m,hn,h=>by simp only[parse,Option.some.injEq]at h;omega
 |b::r,n,m,hn,h=>by
  unfold parse at h;split at h
  ·cases h
  ·split at h
   ·cases h
   ·split at h
    ·cases h
    ·exact ac2 (by omega) h
theorem abY{base:Nat}{l:aD}{m:Nat}(h:pG base l=some m):m≤4294967295:=by
 unfold pG at h;split at h
 ·cases h
 ·exact ac2 (by omega) h
set_option maxRecDepth 20000 in
theorem akZ:∀ n:Fin 256,97≤(low (UInt8.ofNat n.val)).toNat→(low (UInt8.ofNat n.val)).toNat≤122→n.val<128:=by decide
theorem ahe{b:UInt8}{d:Nat}(h:yu b=some d):b.toNat<128:=by
 unfold yu at h;split at h
 ·omega
 ·split at h
  ·rename_i S;have:=akZ ⟨b.toNat,Ew b⟩;simp only[UInt8.ofNat_toNat]at this;exact this S.1 S.2
  ·cases h
theorem ac1{base:Nat}:∀ {l:aD}{n m:Nat},parse base l n=some m→∀ b∈l,b.toNat<128
 |[],n,m,h=>by simp
 |b::r,n,m,h=>by
  unfold parse at h;split at h
  ·cases h
  ·rename_i d hd;split at h
   ·cases h
   ·split at h
    ·cases h
    ·intro c aj;rcases oj.1 aj with rfl|aj
     ·exact ahe hd
     ·exact ac1 h c aj
theorem abX{base:Nat}{l:aD}{m:Nat}(h:pG base l=some m):∀ b∈l,b.toNat<128:=by
 unfold pG at h;split at h
 ·cases h
 ·exact ac1 h
def tL(l:aD):aD × Nat:=if[48,120].isPrefixOf l then(l.drop 2,16) else(l,10)
def Md(l:aD):Bool:=(tL l).2==10 && (decide (1<l.length) && l.head?==some 48)
def number(l:aD):Option Nat:=match pG (tL l).2 (tL l).1 with
 |none=>none
 |some n=>if 10<l.length || Md l || !(Lib.toLowerA (tL l).1==(tL l).1) then none else some n
theorem alv{l:aD}(ag:l.length≤140737488355328)(h:J)(Q:aT)(L:∀ D,h.le D→Q (.tuple #[I ((number l).getD 0),.bool (number l).isSome]) D):bj Tryz.prog 140 [str l] h Q:=by
 refine qw (k:=1) (j:=2) amf rfl rfl rfl fun N=>?_;rw[gE On aef rfl];delta On;replace L:=U L;simp only[aa, *];refine agW h _ ?_;have bad:∀ D,h.le D→number l=none→Q (.tuple #[I 0,.bool false]) D:=fun D ag e=>by have:=L.h D ag;rw[e]at this;exact this
 have fm:∀ D n,h.le D→number l=some n→Q (.tuple #[I (n:Int),.bool true]) D:=fun D n ag e=>by have:=L.h D ag;rw[e]at this;exact this
 replace bad:=Hid.mk bad;replace fm:=Hid.mk fm;clear L;cases hp:[48,120].isPrefixOf l with
 |true =>
  have aj:uZ [48,120] l=(l.drop 2,true):=by unfold uZ;rw[if_pos hp];rfl
  have lr:number l=match pG 16 (l.drop 2) with|none=>none|some n=>if 10<l.length || false || !(Lib.toLowerA (l.drop 2)==l.drop 2) then none else some n:=by
   have hd:tL l=(l.drop 2,16):=by unfold tL;rw[if_pos hp]
   unfold number Md;rw[hd];rfl
  rw[aj];replace lr:=Hid.mk lr;obtain⟨d,hd⟩:∃ d,l.drop 2=d:=⟨_,rfl⟩;rw[hd]at lr ⊢;have tb:d.length≤140737488355328:=by rw[← hd];simp;omega
  clear aj hp hd;simp only[aa, *];refine abZ (base:=16) (.inr rfl) tb h _ fun A l1=>⟨fun n hn=>?_,fun hn x id=>?_⟩
  ·have bX:=abY hn;have F8:=Hid.mk (abX hn);have ax:IntKind.i64.wrap (n:Int)=n:=cZ (by omega) (by omega);rw[hn]at lr;replace l1:=Hid.mk l1;clear hn;have aho:((16:Int)==10)=false:=rfl;by_cases lk:(10:Int)<l.length
   ·have g:=bad.h A l1.h (by rw[lr.h];simp;omega);replace g:=Hid.mk g;simp only[aa,av,ay,zw,ja, *];exact g.h
   ·simp only[aa,av,ay,zw,ja, *];refine Vr (by omega) F8.h _ ?_;cases aC:(Lib.toLowerA d==d) with
    |true =>
     have g:=fm.h A n l1.h (by rw[lr.h,aC];simp;omega);replace g:=Hid.mk g;simp only[aa,av,mq, *];exact g.h
    |false =>
     have g:=bad.h A l1.h (by rw[lr.h,aC];simp);replace g:=Hid.mk g;simp only[aa,av,mq, *];exact g.h
  ·rw[hn]at lr;have g:=bad.h A l1 lr.h;replace g:=Hid.mk g;clear hn l1;have aho:((16:Int)==10)=false:=rfl;simp only[aa,av,ay,Hk, *];exact g.h
 |false =>
  have aj:uZ [48,120] l=(l,false):=by unfold uZ;rw[if_neg (by rw[hp];simp)]
  have lr:number l=match pG 10 l with|none=>none|some n=>if 10<l.length || (decide (1<l.length) && l.head?==some 48) || !(Lib.toLowerA l==l) then none else some n:=by
   have hd:tL l=(l,10):=by unfold tL;rw[if_neg (by rw[hp];simp)]
   unfold number Md;rw[hd];rfl
  rw[aj];replace lr:=Hid.mk lr;clear aj hp;have Fb:((10:Int)==10)=true:=rfl;simp only[aa, *];refine abZ (base:=10) (.inl rfl) ag h _ fun A l1=>⟨fun n hn=>?_,fun hn x id=>?_⟩
  ·have bX:=abY hn;have F8:=Hid.mk (abX hn);have ax:IntKind.i64.wrap (n:Int)=n:=cZ (by omega) (by omega);rw[hn]at lr;replace l1:=Hid.mk l1;cases l with
   |nil=>simp[pG]at hn
   |cons r5 r =>
   obtain⟨l,cW⟩:∃ l,r5::r=l:=⟨_,rfl⟩;have T:l[0]?=some r5:=by rw[← cW];rfl
   have cp:l.head?=some r5:=by rw[← cW];rfl
   rw[cW]at lr bad fm ag F8 ⊢;rw[cp]at lr;have oP:=xl T .i64;rw[Ch]at oP;clear hn cW T cp;have qI:(some r5==some (48:UInt8))=((r5.toNat:Int)==48):=by
    rw[Bool.eq_iff_iff];simp only[beq_iff_eq,Option.some.injEq];constructor
    ·rintro rfl;rfl
    ·intro e;apply UInt8.toNat_inj.1;simp;omega
   rw[qI]at lr;clear qI;by_cases s5:(1:Int)<l.length
   ·cases qI:((r5.toNat:Int)==48) with
    |true =>
     have g:=bad.h A l1.h (by rw[lr.h,qI];simp;omega);replace g:=Hid.mk g;by_cases lk:(10:Int)<l.length
     ·simp only[aa,av,ay,zw,ja, *];exact g.h
     ·simp only[aa,av,ay,zw,ja, *];exact g.h
    |false =>
     by_cases lk:(10:Int)<l.length
     ·have g:=bad.h A l1.h (by rw[lr.h];simp;omega);replace g:=Hid.mk g;simp only[aa,av,ay,zw,ja, *];exact g.h
     ·simp only[aa,av,ay,zw,ja, *];refine Vr (by omega) F8.h _ ?_;cases aC:(Lib.toLowerA l==l) with
      |true =>
       have g:=fm.h A n l1.h (by rw[lr.h,aC,qI];simp;omega);replace g:=Hid.mk g;simp only[aa,av,mq, *];exact g.h
      |false =>
       have g:=bad.h A l1.h (by rw[lr.h,aC];simp);replace g:=Hid.mk g;simp only[aa,av,mq, *];exact g.h
   ·have lk:¬(10:Int)<l.length:=by omega
    simp only[aa,av,ay,zw,ja, *];refine Vr (by omega) F8.h _ ?_;cases aC:(Lib.toLowerA l==l) with
    |true =>
     have g:=fm.h A n l1.h (by rw[lr.h,aC];simp;omega);replace g:=Hid.mk g;simp only[aa,av,mq, *];exact g.h
    |false =>
     have g:=bad.h A l1.h (by rw[lr.h,aC];simp);replace g:=Hid.mk g;simp only[aa,av,mq, *];exact g.h
  ·rw[hn]at lr;have g:=bad.h A l1 lr.h;replace g:=Hid.mk g;clear hn l1;cases l with
   |nil =>
    have e:¬(1:Int)<(([]:aD).length:Int):=by decide
    simp only[aa,av,ay,Hk,ja, *];exact g.h
   |cons r5 r =>
   obtain⟨l,cW⟩:∃ l,r5::r=l:=⟨_,rfl⟩;have T:l[0]?=some r5:=by rw[← cW];rfl
   rw[cW];have oP:=xl T .i64;rw[Ch]at oP;clear cW T lr bad fm;by_cases s5:(1:Int)<l.length
   ·cases qI:((r5.toNat:Int)==48)
    all_goals
     simp only[aa,av,ay,Hk,ja, *];exact g.h
   ·simp only[aa,av,ay,Hk,ja, *];exact g.h
def kR(l:aD):Tok × Bool :=
 if isWord l then(⟨2,l,0,0⟩,true) else if de l then(⟨1,l,0,0⟩,true) else(⟨3,l,(number l).getD 0,0⟩,(number l).isSome)
theorem NH(k:Int)(l:aD):gQ [I 0,aI,I 0,I 0] [(0,1),(1,1)] [I k,str l]=some (Tok.val ⟨k,l,0,0⟩):=by rfl
theorem agb(k n:Int)(l:aD):gQ [I 0,aI,I 0,I 0] [(0,1),(1,1),(2,1)] [I k,str l,I n]=some (Tok.val ⟨k,l,n,0⟩):=by rfl
theorem anS{l:aD}(ag:l.length≤140737488355328)(h:J)(Q:aT)(L:∀ D,h.le D→Q (.tuple #[(kR l).1.val,.bool (kR l).2]) D):bj Tryz.prog 111 [str l] h Q:=by
 refine QJ (k:=1) (agg:=true) (size:=4) (j:=2) alO rfl rfl rfl fun N=>?_;rw[gE NW uO rfl];delta NW;replace L:=U L;obtain⟨p,pt⟩:∃ x,h.next=x:=⟨_,rfl⟩;obtain⟨A,hh⟩:∃ x,h.alloc (.aq [I 0,aI,I 0,I 0] true)=x:=⟨_,rfl⟩;have g1:A.get p=some (.aq [I 0,aI,I 0,I 0] true):=by rw[← hh,← pt];exact J.hy _ _
 have l1:h.le A:=by rw[← hh];exact(J.le.refl _).alloc _
 -- the end: the cell is written
 have fin:∀(S:J) (t:Tok),A.le S→(kR l).1=t→(cz 4 S [aH p 0,t.val]=some (b0,S.set p (.aq t.cells true)))∧(S.set p (.aq t.cells true)).get p=some (.aq [I t.kind,str t.text,I t.n,I t.line] true)∧Q (.tuple #[t.val,.bool (kR l).2]) (S.set p (.aq t.cells true)):=by
  intro S t bC aC;have g2:=bC.get g1;refine⟨nZ g2 rfl rfl rfl rfl,J.gz _ _ _ (by rw[g2];rfl),?_⟩;rw[← aC];exact L.h _ ((l1.trans bC).set (by omega) _)
 replace fin:=Hid.mk fin;clear L;simp only[aa, *];refine aeC A _ fun S l2=>?_;cases ax:isWord l with
 |true =>
  obtain⟨f1,f2,f3⟩:=fin.h S ⟨2,l,0,0⟩ l2 (by simp[kR,ax]);rw[show(kR l).2=true by simp[kR,ax]]at f3;replace f3:=Hid.mk f3;obtain⟨ae,gX⟩:∃ x,S.set p (.aq (Tok.cells ⟨2,l,0,0⟩) true)=x:=⟨_,rfl⟩;rw[gX]at f1 f2 f3;replace gX:=Hid.mk gX;have qd:=H4 2 0 0 l;clear l2 l1 g1;simp only[aa,aw,bh,NH,uN, *];exact f3.h
 |false =>
 simp only[aa, *];refine vJ S _ fun ae aE=>?_;replace aE:=l2.trans aE;clear l2;cases hn:de l with
 |true =>
  obtain⟨f1,f2,f3⟩:=fin.h ae ⟨1,l,0,0⟩ aE (by simp[kR,ax,hn]);rw[show(kR l).2=true by simp[kR,ax,hn]]at f3;replace f3:=Hid.mk f3;obtain⟨aB,gX⟩:∃ x,ae.set p (.aq (Tok.cells ⟨1,l,0,0⟩) true)=x:=⟨_,rfl⟩;rw[gX]at f1 f2 f3;replace gX:=Hid.mk gX;have qd:=H4 1 0 0 l;clear aE l1 g1;simp only[aa,aw,bh,NH,uN, *];exact f3.h
 |false =>
 simp only[aa, *];refine alv ag ae _ fun aB aO=>?_;replace aO:=aE.trans aO;clear aE;have cP:(kR l).2=(number l).isSome:=by simp[kR,ax,hn]
 have cG:(kR l).1=⟨3,l,(number l).getD 0,0⟩:=by simp[kR,ax,hn]
 obtain⟨z,bp⟩:∃ z:Int,(((number l).getD 0:Nat):Int)=z:=⟨_,rfl⟩;obtain⟨mA,Da⟩:∃ b,(number l).isSome=b:=⟨_,rfl⟩;rw[bp]at cG ⊢;rw[Da]at cP ⊢;clear bp Da;obtain⟨f1,f2,f3⟩:=fin.h aB ⟨3,l,z,0⟩ aO cG;rw[cP]at f3;replace f3:=Hid.mk f3;obtain⟨aG,gX⟩:∃ x,aB.set p (.aq (Tok.cells ⟨3,l,z,0⟩) true)=x:=⟨_,rfl⟩;rw[gX]at f1 f2 f3;replace gX:=Hid.mk gX;have qd:=H4 3 z 0 l;clear aO l1 g1 cG cP;simp only[aa,aw,bh,agb,uN, *];exact f3.h
end Go.Eng.Sy
namespace Go.Eng
open Go
theorem cL.eA{h0 h D:J}{s:Nat}{v:Value}{xs:List (ar)}{p:Nat}(ai:cL h0 h s v xs)(b8:Go.Eng.da v p)(T:h.b2 p D):cL h0 D s v xs :=
 ai.get fun id ad ak=>T.get id (fun e=>b8 _ _ (e ▸ ad)) ak
end Go.Eng
namespace Go.Eng.Sy
open Go Go.Eng Go.Proofs
abbrev wu(h0 h:J)(v:Value)(ts:List Tok):Prop:=cL h0 h 4 v (ts.map Tok.cells)
theorem NG(t:Tok):ie [I 0,aI,I 0,I 0] [(0,4)] 1 4 [t.val]=some (t.cells,fun id=>.slice (some ⟨id,0,none⟩) 1 4):=uT rfl rfl rfl rfl
theorem Vs{h0 h:J}{v:Value}{ts:List Tok}(ai:wu h0 h v ts)(bX:h0.le h)(ag:ts.length≤1000000)(t:Tok) :
  ∃ v' D,o1 4 40 (h.alloc (.aq t.cells true)) [v,.slice (some ⟨h.next,0,none⟩) 1 4]=some (v',D)∧wu h0 D v' (ts++[t])∧h0.le D∧(∀ i,(h.get i).isSome=true→da v i→D.get i=h.get i)∧(∀ i,(h.get i).isSome=true→da v' i)∧h.next≤D.next:=by
 have:=cL.yh ai bX (x:=t.cells) rfl (by omega) (b:=40) (by simp;omega) (by simp;omega);unfold wu;rw[Ir];exact this
theorem ac9{g l:aD}(h:g.isPrefixOf l=true):g.length≤l.length:=(G3.1 h).length_le
theorem aq7{l:aD}{m:Int}{p N:Nat}{h0 h:J}(hp:h.get p=some (.aq [str l,I m] true))(jk:h0.next≤p){ib:Value}(ak:ng h ib kh){out:Value}{ts:List Tok}(ah:wu h0 h out ts)(b8:da out p)(bX:h0.le h)(kb:ts.length≤1000000)
  {v0 iT v2 v3 x6 x7 x8 x9 x13:Value}{gA:dM→ar→J→Prop}
  (pX:kh.find? (·.isPrefixOf l)=none→∀ x9 x12 x13,gA (.exit 2) [v0,iT,v2,v3,aH p 0,out,x6,x7,x8,x9,ib,I 25,x12,x13] h)
  (oc:∀ g ra D x9 x12 x13,kh.find? (·.isPrefixOf l)=some g→wu h0 D ra (ts++[⟨4,g,0,m⟩])→da ra p→D.get p=some (.aq [str (l.drop g.length),I m] true)→h0.le D →
   gA (.exit 1) [v0,iT,v2,v3,aH p 0,ra,x6,x7,x8,x9,ib,I 25,x12,x13] D) :
  ch Tryz.prog N CD.vars P7 [v0,iT,v2,v3,aH p 0,out,x6,x7,x8,x9,ib,I 25,I 0,x13] h gA:=by
 replace pX:=Hid.mk pX;replace oc:=Hid.mk oc;refine ch.upto 25 (fun i e A=>A=h∧(kh.take i).find? (·.isPrefixOf l)=none∧∃ x9 x13,e=[v0,iT,v2,v3,aH p 0,out,x6,x7,x8,x9,ib,I 25,I i,x13]) ?_ (lj _) ⟨rfl,rfl,_,_,rfl⟩;rintro i _ _ R au ⟨rfl,gx,x9,x13,rfl⟩ aN;replace gx:=Hid.mk gx;delta P7;by_cases aV:i<25
 case neg =>
  have dm:¬(i:Int)<25:=by omega
  have sn:i=25:=by omega
  have g:=pX.h (by have:=gx.h;rw[sn]at this;exact this) x9 (I i) (.bool false);replace g:=Hid.mk g;clear sn;simp only[aa,av,ay, *];exact g.h
 case pos =>
  have dm:(i:Int)<25:=by omega
  have DD:IntKind.i64.wrap ((i:Int)+1)=((i+1:Nat):Int):=by rw[cZ (by omega) (by omega)];rfl
  obtain⟨g,aA⟩:∃ g,kh[i]?=some g:=⟨_,hi (show i<kh.length from aV)⟩;obtain⟨id,off,cells,own,az,aL,bq,_⟩:=ak.elem aA;replace aA:=Hid.mk aA;replace ak:=Hid.mk ak;replace ah:=Hid.mk ah;replace b8:=Hid.mk b8;simp only[aa,aw,av,ay, *];refine ve _ _ ?_;cases GP:g.isPrefixOf l with
  |false =>
   have ik:(kh.take (i+1)).find? (·.isPrefixOf l)=none:=by
    rw[G5,aA.h,List.find?_append,gx.h];simp[GP]
   replace ik:=Hid.mk ik;clear GP;simp only[aa,av,ay, *];exact aN.h _ _ aV ⟨rfl,ik.h,_,_,rfl⟩
  |true =>
   have R5:kh.find? (·.isPrefixOf l)=some g:=by
    rw[← PJ i kh,List.find?_append,gx.h];have:kh.drop i=g::kh.drop (i+1):=by
     rw[Np (show i<kh.length from aV)]
     congr 1
     exact(j2.1 aA.h).2
    rw[this];simp[GP]
   have Dh:=ac9 GP;clear GP;replace R5:=Hid.mk R5;simp only[aa,NH, *];refine adV (t:=⟨4,g,0,0⟩) Dh hp _ fun A l1 fA=>?_;have jS:=ah.h.eA b8.h l1;have so:=J.b2.le bX jk l1;obtain⟨v',S,dP,a2,a3,a4,a5,yg⟩:=Vs jS so kb ⟨4,g,0,m⟩;have dV:S.get p=some (.aq [str (l.drop g.length),I m] true):=by rw[a4 p (by rw[fA];rfl) b8.h];exact fA
   have fin:=fun x9 x12 x13=>oc.h g v' S x9 x12 x13 R5.h a2 (a5 p (by rw[fA];rfl)) dV a3;have I7:=NG ⟨4,g,0,m⟩;replace fin:=Hid.mk fin;clear a2 a3 a4 a5 yg dV fA l1 jS so;simp only[aa,bh,Nat.reduceBEq, *];exact fin.h _ _ _
def ia:Nat→aD→Int→List Tok × Int × Bool
 |0,_,m=>([],m,true)
 |_+1,[],m=>([],m,true)
 |k+1,b::r,m =>
  if 0<runN (b::r) then
   if(kR ((b::r).take (runN (b::r)))).2 then
    ({ (kR ((b::r).take (runN (b::r)))).1 with line:=m }::(ia k (skip false ((b::r).drop (runN (b::r))) m).1 (skip false ((b::r).drop (runN (b::r))) m).2).1,
     (ia k (skip false ((b::r).drop (runN (b::r))) m).1 (skip false ((b::r).drop (runN (b::r))) m).2).2)
   else([],m,false)
  else match kh.find? (·.isPrefixOf (b::r)) with
   |some g=>(⟨4,g,0,m⟩::(ia k (skip false ((b::r).drop g.length) m).1 (skip false ((b::r).drop g.length) m).2).1,
     (ia k (skip false ((b::r).drop g.length) m).1 (skip false ((b::r).drop g.length) m).2).2)
   |none=>([],m,false)
def rY(l:aD):List Tok × Int × Bool:=ia (l.length+1) (skip false l 1).1 (skip false l 1).2
theorem anR(l:aD):(kR l).1.text=l:=by
 unfold kR;split
 ·rfl
 ·split<;>rfl
theorem B8:∀(c:Bool) (l:aD) (n:Int),(skip c l n).2+(skip c l n).1.length≤n+l.length
 |_,[],n=>by simp[skip]
 |true,b::r,n=>by
  unfold skip;split
  ·have:=B8 false r (n+1);simp only[hR];omega
  ·have:=B8 true r n;simp only[hR];omega
 |false,b::r,n=>by
  unfold skip;split
  ·have:=B8 false r n;simp only[hR];omega
  ·split
   ·have:=B8 false r (n+1);simp only[hR];omega
   ·split
    ·have:=B8 true r n;simp only[hR];omega
    ·simp only[hR];omega
theorem MG{g:aD}{l:aD}(h:kh.find? (·.isPrefixOf l)=some g):0<g.length∧g.length≤l.length:=by
 have A:=List.mem_of_find?_eq_some h;have S:=List.find?_some h;refine⟨?_,ac9 S⟩;have:∀ g∈kh,0<g.length:=by decide
 exact this g A
theorem adi{p N:Nat}{h0:J}(jk:h0.next≤p){v0 iT v2 v3:Value}{gA:dM→ar→J→Prop}:∀(k:Nat){l:aD}{m:Int}{h:J}{out:Value}{ts:List Tok}{x6 x7 x8 x9 x10 x11 x12 x13:Value},
  l.length<k→h.get p=some (.aq [str l,I m] true)→wu h0 h out ts→da out p→h0.le h→ts.length+l.length≤1000000→0≤m→m+l.length≤1000000 →
  (∀ ra D x6 x7 x8 x9 x10 x11 x12 x13,(ia k l m).2.2=true→wu h0 D ra (ts++(ia k l m).1)→da ra p→D.get p=some (.aq [str [],I (ia k l m).2.1] true)→h0.le D →
   gA (.exit 0) [v0,iT,v2,v3,aH p 0,ra,x6,x7,x8,x9,x10,x11,x12,x13] D) →
  (∀ cA D,(ia k l m).2.2=false→h0.le D→cA[1]?=some bx→cA[2]?=some (I 50)→cA[3]?=some (I (ia k l m).2.1)→gA .ret cA D) →
  ch Tryz.prog N CD.vars E3 [v0,iT,v2,v3,aH p 0,out,x6,x7,x8,x9,x10,x11,x12,x13] h gA
 |0,l,m,h,out,ts,_,_,_,_,_,_,_,_,ab,_,_,_,_,_,_,_,_,_=>by omega
 |k+1,[],m,h,out,ts,x6,x7,x8,x9,x10,x11,x12,x13,ab,hp,ah,b8,bX,kb,hm,rD,pX,oc=>by
  refine ch.round ?_;have g:=pX out h x6 x7 x8 x9 x10 x11 x12 x13 rfl (by simpa[ia] using ah) b8 hp bX;replace g:=Hid.mk g;clear pX oc;replace ah:=Hid.mk ah;replace b8:=Hid.mk b8;delta E3;simp only[aa,aw,av,mq, *];exact g.h
 |k+1,b::r,m,h,out,ts,x6,x7,x8,x9,x10,x11,x12,x13,ab,hp,ah,b8,bX,kb,hm,rD,pX,oc=>by
  obtain⟨l,ag⟩:∃ l,b::r=l:=⟨_,rfl⟩;have cH:(l==[])=false:=by rw[← ag];rfl
  have lX:ia (k+1) l m=if 0<runN l then
   if(kR (l.take (runN l))).2 then
    ({ (kR (l.take (runN l))).1 with line:=m }::(ia k (skip false (l.drop (runN l)) m).1 (skip false (l.drop (runN l)) m).2).1,
     (ia k (skip false (l.drop (runN l)) m).1 (skip false (l.drop (runN l)) m).2).2)
   else([],m,false)
  else match kh.find? (·.isPrefixOf l) with
   |some g=>(⟨4,g,0,m⟩::(ia k (skip false (l.drop g.length) m).1 (skip false (l.drop g.length) m).2).1,
     (ia k (skip false (l.drop g.length) m).1 (skip false (l.drop g.length) m).2).2)
   |none=>([],m,false):=by rw[← ag];rfl
  rw[ag]at ab hp kb rD pX oc;clear ag;refine ch.round ?_
  -- arE a aqQ: what is cO atH is atq over, and atl
  have tail:∀(t:Tok) (w:Nat) (ra:Value) (D:J) (x6 x7 x8 x9 x10 x11 x12 x13:Value),0<w→w≤l.length →
    ia (k+1) l m=(t::(ia k (skip false (l.drop w) m).1 (skip false (l.drop w) m).2).1,(ia k (skip false (l.drop w) m).1 (skip false (l.drop w) m).2).2) →
    wu h0 D ra (ts++[t])→da ra p→D.get p=some (.aq [str (l.drop w),I m] true)→h0.le D →
    bj Tryz.prog 110 [aH p 0] D fun _ S=>ch Tryz.prog N CD.vars E3 [v0,iT,v2,v3,aH p 0,ra,x6,x7,x8,x9,x10,x11,x12,x13] S gA:=by
   intro t w ra D x6 x7 x8 x9 x10 x11 x12 x13 Z0 Bs ak lU Dq oi ajo;have tb:(l.drop w).length=l.length-w:=by simp
   refine ac7 (by omega) ⟨hm,by omega⟩ oi _ fun S l2 dV=>?_;have ka:=sL false (l.drop w) m;have pu:=B8 false (l.drop w) m;rw[ak]at pX oc;refine adi jk k (by omega) dV (lU.eA Dq l2) Dq (J.b2.le ajo jk l2) (by simp;omega) (by omega) (by omega) ?_ ?_
   ·intro anY ae ic sS l4 rl rk arr ars art bk bJ dl fa p8;exact pX anY ae ic sS l4 rl rk arr ars art bk (by simpa using bJ) dl fa p8
   ·exact oc
  replace tail:=Hid.mk tail;replace pX:=Hid.mk pX;replace oc:=Hid.mk oc;replace ah:=Hid.mk ah;replace b8:=Hid.mk b8;replace lX:=Hid.mk lX;replace bX:=Hid.mk bX;delta E3;simp only[aa,aw,av,mq, *];refine ad8 (by omega) h _ fun A l1=>?_;have fA:=l1.get hp;have jS:=Hid.mk (ah.h.mono l1);have so:=Hid.mk (bX.h.trans l1);by_cases hr:0<runN l
  ·have mK:(0:Int)<(runN l:Int):=by omega
   have zh:=MA l;have qB:=QW zh;obtain⟨t,aC⟩:∃ x,kR (l.take (runN l))=x:=⟨_,rfl⟩;have ZV:t.1.text.length=runN l:=by rw[← aC,anR];simp;omega
   have ss:=lX.h;rw[if_pos hr,aC]at ss;replace ss:=Hid.mk ss;simp only[aa,aw,av,ay, *];refine anS (by simp;omega) A _ fun S l2=>?_;rw[aC];obtain⟨t,ok⟩:=t;simp only at ZV ss ⊢;have dV:=l2.get fA;have ew:=jS.h.mono l2;have pp:=so.h.trans l2;obtain⟨q,qU⟩:∃ x,S.next=x:=⟨_,rfl⟩;have zf:p<q:=by rw[← qU];exact J.bY dV
   have bu:=kk (h:=S) (size:=4) (zs:=[I 0,aI,I 0,I 0]) (v:=t.val) rfl rfl rfl rfl;obtain⟨ae,gX⟩:∃ x,S.alloc (.aq t.cells true)=x:=⟨_,rfl⟩;have aE:S.le ae:=by rw[← gX];exact(J.le.refl _).alloc _
   have hT:ae.get q=some (.aq [I t.kind,str t.text,I t.n,I t.line] true):=by rw[← gX,← qU];exact J.hy _ _
   have atD:cz 4 (S.alloc (.aq [I 0,aI,I 0,I 0] true)) [aH q 0,t.val]=some (b0,ae):=by rw[← gX,← qU];exact bu
   have hz:=aE.get dV;have fb:=Hid.mk (ew.mono aE);have Zo:=Hid.mk (pp.trans aE);clear bu ew pp aE l2 l1 jS so aC;replace gX:=Hid.mk gX;cases ok with
   |false =>
    have g:=fun cA a b c=>oc.h cA ae (by rw[ss.h];rfl) Zo.h a b c;rw[ss.h]at g;replace g:=Hid.mk g;simp only[aa,aw,bh, *];exact g.h _ rfl rfl rfl
   |true =>
    have qd:=H4 t.kind t.n t.line t.text;simp only[aa,aw,bh, *];refine adV (t:=t) (by omega) hz _ fun aB aO hf=>?_;rw[ZV]at hf;have kM:=fb.h.eA b8.h aO;have Zp:=J.b2.le Zo.h jk aO;obtain⟨v',aG,dP,a2,a3,a4,a5,yg⟩:=Vs kM Zp (by omega) { t with line:=m };have h4:aG.get p=some (.aq [str (l.drop (runN l)),I m] true):=by rw[a4 p (by rw[hf];rfl) b8.h];exact hf
    have hb:=fun x6 x7 x8 x9 x10 x11 x12 x13=>tail.h { t with line:=m } (runN l) v' aG x6 x7 x8 x9 x10 x11 x12 x13 hr zh (by rw[ss.h,if_pos rfl]) a2 (a5 p (by rw[hf];rfl)) h4 a3;have I7:=NG { t with line:=m };replace hb:=Hid.mk hb;clear a2 a3 a4 a5 yg h4 hf aO kM Zp;simp only[aa,bh, *];refine(hb.h (I (runN l)) (aH q 0) (.bool true) x9 x10 x11 x12 x13).mono fun _ a1 _ bg=>?_;simp only[aa, *];exact bg
  ·have mK:¬(0:Int)<(runN l:Int):=by omega
   have ss:=lX.h;rw[if_neg hr]at ss;replace ss:=Hid.mk ss;simp only[aa,av,ay, *];refine aq8 A _ fun ib S ak l2=>?_;have dV:=l2.get fA;have ew:=jS.h.mono l2;have pp:=so.h.trans l2;have aR:=ak.len;have ka:(kh.length:Int)=25:=rfl;rw[ka]at aR;clear ka;replace ak:=Hid.mk ak;replace ew:=Hid.mk ew;replace pp:=Hid.mk pp;simp only[aa, *];refine aq7 dV jk ak.h ew.h b8.h pp.h (by omega) ?_ ?_
   ·intro aZ x9 x12 x13;have vA:=ss.h;rw[aZ]at vA;simp only at vA;have g:=fun cA a b c=>oc.h cA S (by rw[vA]) pp.h a b c;rw[vA]at g;replace g:=Hid.mk g;clear vA aZ;simp only[aa,aw, *];exact g.h _ rfl rfl rfl
   ·intro g ra ae x9 x12 x13 aZ bk bJ dl fa;have vA:=ss.h;rw[aZ]at vA;simp only at vA;obtain⟨K7,Dh⟩:=MG aZ;have hb:=fun x6 x7 x8 x9 x10 x11 x12 x13=>tail.h ⟨4,g,0,m⟩ g.length ra ae x6 x7 x8 x9 x10 x11 x12 x13 K7 Dh vA bk bJ dl fa;replace hb:=Hid.mk hb;clear vA aZ bk bJ dl fa;simp only[aa,Nat.reduceBEq, *];refine(hb.h (I (runN l)) x7 x8 x9 ib (I 25) x12 x13).mono fun _ a1 _ bg=>?_;simp only[aa, *];exact bg
def me(m:Int):Tok:=⟨5,[],0,m⟩
def jc(l:aD):List Tok × Int × Int :=
 if 20000<l.length then([],2,0) else if(rY l).2.2 then((rY l).1++[me (rY l).2.1],0,0) else([],50,(rY l).2.1)
theorem agc(k m:Int):gQ [I 0,aI,I 0,I 0] [(0,1),(3,1)] [I 5,I m]=some (Tok.val ⟨5,[],0,m⟩):=by rfl
theorem MC:∀(k:Nat) (l:aD) (m:Int),(ia k l m).1.length≤l.length
 |0,l,m=>by simp[ia]
 |k+1,[],m=>by simp[ia]
 |k+1,b::r,m=>by
  unfold ia;split
  ·split
   ·have A:=MC k (skip false ((b::r).drop (runN (b::r))) m).1 (skip false ((b::r).drop (runN (b::r))) m).2;have S:=sL false ((b::r).drop (runN (b::r))) m;have ae:((b::r).drop (runN (b::r))).length=(b::r).length-runN (b::r):=by simp
    have aB:=MA (b::r);simp only[hR]at *;omega
   ·simp
  ·split
   ·rename_i g aA;have A:=MC k (skip false ((b::r).drop g.length) m).1 (skip false ((b::r).drop g.length) m).2;have S:=sL false ((b::r).drop g.length) m;have ae:((b::r).drop g.length).length=(b::r).length-g.length:=by simp
    have aB:=MG aA;simp only[hR]at *;omega
   ·simp
theorem af7{l:aD}{h0:J}(h:J)(bX:h0.le h)(Q:aT)
  (L:∀ v D,wu h0 D v (jc l).1→h0.le D→Q (.tuple #[v,I (jc l).2.1,I (jc l).2.2]) D):bj Tryz.prog 70 [str l] h Q:=by
 refine agz (k:=1) (j:=2) (i:=3) ano rfl rfl rfl fun N=>?_;rw[gE CD ar2 rfl];delta CD;replace L:=Hid.mk L;by_cases y2:20000<l.length
 ·have RR:(20000:Int)<(l.length:Int):=by omega
  have g:=L.h bx h (by unfold jc;rw[if_pos y2];exact .nil _ _ _) bX;have hr:jc l=([],2,0):=by unfold jc;rw[if_pos y2]
  rw[hr]at g;replace g:=Hid.mk g;clear y2;simp only[aa,av,ay,V8,ja,UO,xN, *];exact g.h
 ·have RR:¬(20000:Int)<(l.length:Int):=by omega
  have hr:jc l=if(rY l).2.2 then((rY l).1++[me (rY l).2.1],0,0) else([],50,(rY l).2.1):=by unfold jc;rw[if_neg y2]
  replace hr:=Hid.mk hr;obtain⟨p,pt⟩:∃ x,h.next=x:=⟨_,rfl⟩;have sX:nB [.agg #[str l,I 1]]=some ([str l,I 1],fun id=>(aH id 0)):=by simp[nB,Value.cells,Value.oneCell']
  have arF:gQ [aI,I 0] [(0,1),(1,1)] [str l,I 1]=some (.agg #[str l,I 1]):=rfl;obtain⟨A,hh⟩:∃ x,h.alloc (.aq [str l,I 1] true)=x:=⟨_,rfl⟩;have g1:A.get p=some (.aq [str l,I 1] true):=by rw[← hh,← pt];exact J.hy _ _
  have l1:h0.le A:=by rw[← hh];exact bX.alloc _
  have jk:h0.next≤p:=by rw[← pt];exact bX.next
  replace l1:=Hid.mk l1;simp only[aa,av,ay,V8,af9,ja, *];refine ac7 (by omega) ⟨by omega,by omega⟩ g1 _ fun S l2 dV=>?_;have pp:=J.b2.le l1.h jk l2;have ka:=sL false l 1;have pu:=B8 false l 1;have aK:rY l=ia (l.length+1) (skip false l 1).1 (skip false l 1).2:=rfl;obtain⟨BH,m2,e5⟩:∃ a b,skip false l 1=(a,b):=⟨_,_,rfl⟩;rw[e5]at dV ka pu aK;simp only at dV ka pu aK;clear e5 l2;replace pp:=Hid.mk pp;simp only[aa, *];refine adi jk (l.length+1) (by omega) dV (ts:=[]) (.nil h0 S 4) (fun n s e=>by cases e) pp.h (by simp;omega) (by omega) (by omega) ?_ ?_
  ·intro ra ae x6 x7 x8 x9 x10 x11 x12 x13 bk bJ dl fa p8;rw[← aK]at bk bJ fa;obtain⟨v',aG,dP,a2,a3,a4,a5,yg⟩:=Vs bJ p8 (by have:=MC (l.length+1) BH m2;rw[← aK]at this;simp;omega) (me (rY l).2.1);have fO:=hr.h;rw[bk,if_pos rfl]at fO;have g:=L.h v' aG (by rw[fO];simpa using a2) a3;rw[fO]at g;replace g:=Hid.mk g;have I7:=NG (me (rY l).2.1);obtain⟨m3,Sp⟩:∃ x,(rY l).2.1=x:=⟨_,rfl⟩;rw[Sp]at dP I7 fa;have arC:=agc 0 m3;have Zf:me m3=⟨5,[],0,m3⟩:=rfl;rw[Zf]at dP I7;clear a2 a3 a4 a5 yg bk bJ dl p8 fO aK Zf;simp only[aa,aw,bh,UO,xN, *];exact g.h
  ·intro cA ae bk bJ dl fa p8;rw[← aK]at bk p8;have fO:=hr.h;rw[bk,if_neg (by simp)]at fO;have g:=L.h bx ae (by rw[fO];exact .nil _ _ _) bJ;rw[fO]at g;replace g:=Hid.mk g;clear bk fO aK bJ;simp only[aa,UO,xN, *];exact g.h
end Go.Eng.Sy
