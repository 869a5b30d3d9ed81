/-
  Part of a proof of the laws of layer 07 (reader): the laws.
  Conditions: none.
-/
import Derived.Test.YtjbjpooafphpnaaGreatDoorM8
import Derived.Test.YtjbjpooafphpnaaGreatDoorEc
import Derived.Test.YtjbjpooafphpnaaGreatDoorProg
import Derived.KernelRfl
set_option linter.unusedSimpArgs false
set_option linter.unusedVariables false
namespace Go.Eng.Sy
open Go Go.Eng Go.Proofs
def z7(base:Nat)(b:UInt8):Option Nat:=if rJ b then some (b.toNat-48) else if base=16∧97≤b.toNat∧b.toNat≤102 then some (b.toNat-87) else none
def vm(base:Nat):aD→Nat→Option Nat
 |[],n=>some n
 |b::r,n=>match z7 base b with|none=>none|some d=>vm base r (base*n+d)
def QQ(l:aD):Option Nat :=
 let v:=if 2<l.length∧l.length≤10∧l.take 2=[48,120] then vm 16 (l.drop 2) 0
  else if l.length=1∨(1<l.length∧l.length≤10∧l.head?≠some 48) then vm 10 l 0 else none
 v.bind fun n=>if n<4294967296 then some n else none
theorem am0(base:Nat)(T:base=10∨base=16)(b:UInt8)(h:Lib.lowerB b=b):z7 base b=(yu b).bind fun d=>if d<base then some d else none:=by
 have:∀ n:Fin 256,Lib.lowerB (UInt8.ofNat n.val)=UInt8.ofNat n.val→z7 10 (UInt8.ofNat n.val)=((yu (UInt8.ofNat n.val)).bind fun d=>if d<10 then some d else none)∧z7 16 (UInt8.ofNat n.val)=((yu (UInt8.ofNat n.val)).bind fun d=>if d<16 then some d else none):=by decide +kernel
 have:=this ⟨b.toNat,Ew b⟩;simp only[UInt8.ofNat_toNat]at this;rcases T with rfl|rfl
 ·exact(this h).1
 ·exact(this h).2
theorem am1(base:Nat)(b:UInt8)(h:Lib.lowerB b≠b):z7 base b=none:=by
 have:∀ n:Fin 256,Lib.lowerB (UInt8.ofNat n.val)≠UInt8.ofNat n.val→rJ (UInt8.ofNat n.val)=false∧¬(97≤(UInt8.ofNat n.val).toNat):=by decide +kernel
 have:=this ⟨b.toNat,Ew b⟩;simp only[UInt8.ofNat_toNat]at this;obtain⟨A,S⟩:=this h;unfold z7;rw[A,if_neg (by simp),if_neg (by omega)]
theorem ahL{base:Nat}(T:1≤base):∀ {l:aD}{n m:Nat},vm base l n=some m→n≤m
 |[],n,m,h=>by simp only[vm,Option.some.injEq]at h;omega
 |b::r,n,m,h=>by
  unfold vm at h;split at h
  ·cases h
  ·rename_i d hd;have:=ahL T h;have:n≤base*n:=Nat.le_mul_of_pos_left n (by omega);omega
theorem afm{base:Nat}(T:base=10∨base=16):∀ {l:aD}{n:Nat},n≤4294967295→(∀ b∈l,Lib.lowerB b=b)→parse base l n=(vm base l n).bind fun m=>if m<4294967296 then some m else none
 |[],n,hn,_=>by
  simp only[parse,vm,Option.bind_some];rw[if_pos (by omega)]
 |b::r,n,hn,h=>by
  unfold parse vm;rw[am0 base T b (h b (by simp))];cases hd:yu b with
  |none=>rfl
  |some d =>
   simp only[Option.bind_some];by_cases aV:d<base
   ·rw[if_neg (by omega),if_pos aV];simp only;rw[Nat.mul_comm n base];by_cases y2:4294967295<base*n+d
    ·rw[if_pos y2];cases ad:vm base r (base*n+d) with
     |none=>rfl
     |some m =>
      have:=ahL (by omega) ad;simp only[Option.bind_some];rw[if_neg (by omega)]
    ·rw[if_neg y2];exact afm T (by omega) fun c aj=>h c (by simp[aj])
   ·rw[if_pos (by omega),if_neg aV];rfl
theorem aih{base:Nat}:∀ {l:aD}{n:Nat},(∃ b∈l,Lib.lowerB b≠b)→vm base l n=none
 |[],n,h=>by obtain⟨b,T,_⟩:=h;cases T
 |b::r,n,h=>by
  unfold vm;obtain⟨c,aj,eY⟩:=h;rcases oj.1 aj with rfl|aj
  ·rw[am1 base c eY]
  ·split
   ·rfl
   ·exact aih ⟨c,aj,eY⟩
theorem apc{l:aD}(h:(Lib.toLowerA l==l)=false):∃ b∈l,Lib.lowerB b≠b:=by
 apply Classical.byContradiction;intro hn;have:∀ b∈l,Lib.lowerB b=b:=fun b T=>Classical.byContradiction fun cH=>hn ⟨b,T,cH⟩;rw[al1 this]at h;simp at h
theorem apb{l:aD}(h:(Lib.toLowerA l==l)=true):∀ b∈l,Lib.lowerB b=b:=by
 have h:Lib.toLowerA l=l:=by simpa using h
 intro b T;obtain⟨i,au⟩:=Gm.1 T;have A:(Lib.toLowerA l)[i]?=some (Lib.lowerB b):=by unfold Lib.toLowerA;rw[NA,au];rfl
 rw[h,au]at A;exact(Option.some.inj A).symm
theorem af8{base:Nat}(T:base=10∨base=16)(l:aD):(match parse base l 0 with|none=>none|some n=>if(Lib.toLowerA l==l)=true then some n else none)=(vm base l 0).bind fun m=>if m<4294967296 then some m else none:=by
 cases ag:(Lib.toLowerA l==l) with
 |true =>
  rw[← afm T (by omega) (apb ag)];cases parse base l 0<;>rfl
 |false =>
  rw[aih (apc ag)];cases parse base l 0<;>rfl
theorem afu{l:aD}:([48,120].isPrefixOf l=true)↔(2≤l.length∧l.take 2=[48,120]):=by
 rw[G3,List.prefix_iff_eq_take];constructor
 ·intro h;have A:l.take 2=[48,120]:=h.symm;refine⟨?_,A⟩;have:=congrArg List.length A;simp at this;omega
 ·rintro⟨_,h⟩;exact h.symm
theorem apr(l:aD):number l=QQ l:=by
 by_cases hp:[48,120].isPrefixOf l=true
 ·obtain⟨S,aC⟩:=afu.1 hp;have hd:tL l=(l.drop 2,16):=by unfold tL;rw[if_pos hp]
  have anK:l.head?=some 48:=by
   cases l with
   |nil=>simp at S
   |cons b r =>
    simp at aC;simp[aC.1]
  unfold number Md QQ;rw[hd];simp only;by_cases ae:2<l.length∧l.length≤10
  ·rw[if_pos ⟨ae.1,ae.2,aC⟩,← af8 (.inr rfl)];have cH:l.drop 2≠[]:=by
    intro e;have:=congrArg List.length e;simp at this;omega
   rw[aod cH];cases parse 16 (l.drop 2) 0 with
   |none=>rfl
   |some n =>
    simp only;have:¬ 10<l.length:=by omega
    cases (Lib.toLowerA (l.drop 2)==l.drop 2)<;>simp[this]
  ·rw[if_neg (fun h=>ae ⟨h.1,h.2.1⟩),if_neg]
   ·simp only[Option.bind_none];by_cases lk:10<l.length
    ·split
     ·rfl
     ·simp[lk]
    ·have:l.drop 2=[]:=PE (by omega);rw[this];rfl
   ·rw[anK];simp;omega
 ·have hd:tL l=(l,10):=by unfold tL;rw[if_neg hp]
  have ao1:¬(2<l.length∧l.length≤10∧l.take 2=[48,120]):=fun h=>hp (afu.2 ⟨by omega,h.2.2⟩);unfold number Md QQ;rw[hd];simp only;rw[if_neg ao1];cases l with
  |nil=>rfl
  |cons b r =>
   rw[aod (by simp)];by_cases aj:(b::r).length=1∨(1<(b::r).length∧(b::r).length≤10∧(b::r).head?≠some 48)
   ·rw[if_pos aj,← af8 (.inl rfl)];cases parse 10 (b::r) 0 with
    |none=>rfl
    |some n =>
     simp only;have lk:¬ 10<(b::r).length:=by rcases aj with h|h<;>omega
     have b8:((10:Nat)==10 && (decide (1<(b::r).length) && (b::r).head?==some 48))=false:=by
      rcases aj with h|h
      ·rw[h];simp
      ·have:=h.2.2;simp only[List.head?_cons]at this ⊢;simp;intro _ e;exact this (by rw[e])
     rw[b8];cases (Lib.toLowerA (b::r)==b::r)<;>simp only[decide_eq_false lk]<;>rfl
   ·rw[if_neg aj];simp only[Option.bind_none];cases parse 10 (b::r) 0 with
    |none=>rfl
    |some n =>
     simp only;rw[if_pos];by_cases lk:10<(b::r).length
     ·rw[decide_eq_true lk];rfl
     ·have A:1<(b::r).length:=by
       have:0<(b::r).length:=by simp
       omega
      have qI:(b::r).head?=some 48:=Classical.byContradiction fun h=>aj (.inr ⟨A,by omega,h⟩);rw[qI,decide_eq_true A];simp
theorem ag0:∀(l:aD) (m:Int),skip true l m=skip false (l.dropWhile (· != 10)) m
 |[],m=>rfl
 |b::r,m=>by
  by_cases T:b=10
  ·subst T;rw[Ci,if_neg (by decide)];simp[skip,jJ]
  ·rw[Ci,if_pos (by simpa using T),← ag0 r m];simp[skip,T]
theorem aaa(p:UInt8→Bool)(l:aD):(l.dropWhile p).length≤l.length:=by
 induction l with
 |nil=>simp
 |cons b r ih=>rw[Ci];split<;>simp<;>omega
theorem aru(r:aD)(m:Int):dc (35::r) m=dc ((35::r).dropWhile (· != 10)) m:=by
 rw[Ci,if_pos (by decide)];refine adh ?_ (rI (aaa _ _) (by simp));rw[← ag0];simp[skip,jJ]
theorem arW{b:UInt8}{r:aD}(m:Int)(h:jJ b=false∧b≠10∧b≠35)(hr:0<runN (b::r))(ab:(kR ((b::r).take (runN (b::r)))).2=false):dc (b::r) m=([],m,false):=by
 rw[adf m h,ia,if_pos hr,if_neg (by rw[ab];simp)]
theorem arG{b:UInt8}{r:aD}(m:Int)(h:jJ b=false∧b≠10∧b≠35)(hr:runN (b::r)=0)(aA:kh.find? (·.isPrefixOf (b::r))=none):dc (b::r) m=([],m,false):=by
 rw[adf m h,ia,if_neg (by omega),aA]
def GX:Option Nat→Int|some n=>n|none=>-1
theorem XB{base:Nat}(T:base=10∨base=16){l:aD}(ag:l.length≤10)(h:J)(Q:aT)(L:Q (I (GX (vm base l 0))) h):bj Tryz.prog 120 [str l,I base] h Q:=by
 refine c7 (k:=2) apu rfl rfl rfl fun N=>?_;rw[eJ Uw uO rfl];delta Uw;replace L:=U L;have an2:base≤16:=by omega
 obtain⟨OD,an3⟩:∃ c,((base:Int)==16)=c:=⟨_,rfl⟩;have aiL:(OD=true↔base=16):=by rw[← an3];simp;omega
 simp only[aa, *];refine ch.upto l.length (fun i e D=>D=h∧∃ n x,vm base l 0=vm base (l.drop i) n∧n<16 ^ i∧e=[str l,I base,I 0,I (n:Nat),I i,x]) ?_ (lj _) ⟨rfl,0,_,rfl,by simp,rfl⟩;rintro i _ S R au ⟨rfl,n,x,ad,hn,rfl⟩ aN;replace ad:=Hid.mk ad;delta YH;by_cases aV:i<l.length
 case neg =>
  have dm:¬(i:Int)<(l.length:Int):=by omega
  have g:=L.h;rw[ad.h,PE (by omega)]at g;have g:Q (I (n:Int)) _:=g;replace g:=Hid.mk g;clear hn;simp only[aa,av,ay,ja, *];exact g.h
 case pos =>
  have dm:(i:Int)<(l.length:Int):=by omega
  have DD:IntKind.i64.wrap ((i:Int)+1)=((i+1:Nat):Int):=by rw[cZ (by omega) (by omega)];rfl
  obtain⟨b,Da⟩:∃ b,l[i]?=some b:=⟨_,hi aV⟩;have Zc:l.drop i=b::l.drop (i+1):=by
   rw[Np aV]
   congr 1
   exact(j2.1 Da).2
  have oP:=xl Da .i64;have RS:=Ew b;have hp:16 ^ i≤16 ^ 9:=Nat.pow_le_pow_right (by omega) (by omega);have la:16 ^ (i+1)=16 ^ i*16:=Nat.pow_succ ..;have SD:(16:Nat) ^ 9=68719476736:=by decide
  -- the awi next
  have jU:∀ d,z7 base b=some d→d<16→∀ x,IntKind.i64.wrap ((base:Int)*(n:Int))=((base*n:Nat):Int)∧IntKind.i64.wrap (((base*n:Nat):Int)+(d:Int))=((base*n+d:Nat):Int)∧R [str l,I base,I 0,I ((base*n+d:Nat):Int),I ((i+1:Nat):Int),x] S:=by
   intro d hd atJ x;have A:base*n≤16*n:=HA _ an2;refine⟨by rw[← Int.natCast_mul];exact cZ (by omega) (by omega),by rw[← Int.natCast_add];exact cZ (by omega) (by omega),?_⟩;refine aN.h _ _ aV ⟨rfl,base*n+d,x,?_,by omega,rfl⟩;rw[ad.h,Zc];simp only[vm,hd]
  have bad:z7 base b=none→Q (I (-1)) S:=by
   intro hd;have g:=L.h;rw[ad.h,Zc]at g;simp only[vm,hd]at g;exact g
  replace jU:=Hid.mk jU;replace bad:=Hid.mk bad;replace Zc:=Hid.mk Zc;clear hp la SD hn Da;have az:((-1:Int)<0)=True:=by simp
  simp only[aa,av,ay,ja, *];refine X9 b _ _ ?_;cases y6:rJ b with
  |true =>
   have anJ:48≤b.toNat∧b.toNat≤57:=by unfold rJ at y6;simpa using y6
   have K0:z7 base b=some (b.toNat-48):=by unfold z7;rw[y6];rfl
   obtain⟨er,dd,_⟩:=jU.h _ K0 (by omega) b0;have r:=fun x=>(jU.h _ K0 (by omega) x).2.2;obtain⟨d,hd⟩:∃ d,b.toNat-48=d:=⟨_,rfl⟩;rw[hd]at dd r;have bT:IntKind.u8.wrap ((b.toNat:Int)-48)=(d:Int):=by rw[Ip (by omega) (by omega)];omega
   have b4:IntKind.i64.wrap (d:Int)=(d:Int):=cZ (by omega) (by omega);have eg:¬(d:Int)<0:=by omega
   have kU:¬(97:Int)≤(b.toNat:Int):=by omega
   replace r:=Hid.mk r;clear anJ K0 y6 hd aiL;cases OD;all_goals
    simp only[aa,av,ay, *];exact r.h _
  |false =>
   cases OD with
   |false =>
    have K0:z7 base b=none:=by
     unfold z7;rw[y6,if_neg (by simp),if_neg];rintro⟨A,_⟩;exact absurd (aiL.2 A) (by simp)
    have g:=bad.h K0;replace g:=Hid.mk g;clear K0 y6 aiL;simp only[aa,av,ay, *];exact g.h
   |true =>
    have SM:=aiL.1 rfl;by_cases Rv:97≤b.toNat
    ·have amZ:(97:Int)≤(b.toNat:Int):=by omega
     by_cases VZ:b.toNat≤102
     ·have amY:(b.toNat:Int)≤102:=by omega
      have K0:z7 base b=some (b.toNat-87):=by unfold z7;rw[y6,if_neg (by simp),if_pos ⟨SM,Rv,VZ⟩]
      obtain⟨er,dd,_⟩:=jU.h _ K0 (by omega) b0;have r:=fun x=>(jU.h _ K0 (by omega) x).2.2;obtain⟨d,hd⟩:∃ d,b.toNat-87=d:=⟨_,rfl⟩;rw[hd]at dd r;have bT:IntKind.u8.wrap ((b.toNat:Int)-97)=(b.toNat:Int)-97:=Ip (by omega) (by omega);have b4:IntKind.i64.wrap ((b.toNat:Int)-97)=(b.toNat:Int)-97:=cZ (by omega) (by omega);have axM:IntKind.i64.wrap ((b.toNat:Int)-97+10)=(d:Int):=by rw[cZ (by omega) (by omega)];omega
      have eg:¬(d:Int)<0:=by omega
      replace r:=Hid.mk r;clear K0 y6 hd aiL Rv VZ SM T;simp only[aa,av,ay, *];exact r.h _
     ·have amY:¬(b.toNat:Int)≤102:=by omega
      have K0:z7 base b=none:=by unfold z7;rw[y6,if_neg (by simp),if_neg (by omega)]
      have g:=bad.h K0;replace g:=Hid.mk g;clear K0 y6 aiL Rv VZ SM T;simp only[aa,av,ay, *];exact g.h
    ·have amZ:¬(97:Int)≤(b.toNat:Int):=by omega
     have K0:z7 base b=none:=by unfold z7;rw[y6,if_neg (by simp),if_neg (by omega)]
     have g:=bad.h K0;replace g:=Hid.mk g;clear K0 y6 aiL Rv SM T;simp only[aa,av,ay, *];exact g.h
theorem aqg{l:aD}(h:J)(Q:aT)(L:Q (.tuple #[I ((number l).getD 0),.bool (number l).isSome]) h):bj Tryz.prog 88 [str l] h Q:=by
 rw[apr]at L;have dR:QQ l=(if 2<l.length∧l.length≤10∧l.take 2=[48,120] then vm 16 (l.drop 2) 0
  else if l.length=1∨(1<l.length∧l.length≤10∧l.head?≠some 48) then vm 10 l 0 else none).bind fun n=>if n<4294967296 then some n else none:=rfl
 refine qw (k:=1) (j:=2) apM rfl rfl rfl fun N=>?_;rw[gE PN mZ rfl];delta PN Q5 Rf RO;replace L:=U L
 -- what is arE the two axi
 have tail:∀ v:Option Nat,QQ l=(v.bind fun n=>if n<4294967296 then some n else none)→(GX v<0→Q (.tuple #[I 0,.bool false]) h)∧(¬ GX v<0→4294967296≤GX v→Q (.tuple #[I 0,.bool false]) h)∧(¬ GX v<0→¬ 4294967296≤GX v→Q (.tuple #[I (GX v),.bool true]) h):=by
  intro v ad;have g:=L.h;cases v with
  |none=>rw[ad]at g;exact⟨fun _=>g,fun h=>absurd (by decide) h,fun h=>absurd (by decide) h⟩
  |some n =>
   rw[ad]at g;refine⟨fun h=>?_,fun _ h=>?_,fun _ h=>?_⟩
   ·simp only[GX]at h;omega
   ·simp only[GX]at h;simp only[Option.bind_some]at g;rw[if_neg (by omega)]at g;exact g
   ·simp only[GX]at h ⊢;simp only[Option.bind_some]at g;rw[if_pos (by omega)]at g;exact g
 replace tail:=Hid.mk tail;replace dR:=Hid.mk dR;clear L;have ate:((-1:Int)<0)=True:=by simp
 -- the first asY: 0x
 have first:(2<l.length∧l.length≤10∧l.take 2=[48,120])∨¬(2<l.length∧l.length≤10∧l.take 2=[48,120]):=Classical.em _
 rcases first with aZ|aZ
 ·obtain⟨f1,f2,f3⟩:=aZ;have hd:=dR.h;rw[if_pos ⟨f1,f2,f3⟩]at hd;obtain⟨t1,t2,t3⟩:=tail.h _ hd;obtain⟨z,bp⟩:∃ z,GX (vm 16 (l.drop 2) 0)=z:=⟨_,rfl⟩;rw[bp]at t1 t2 t3;replace t1:=Hid.mk t1;replace t2:=Hid.mk t2;replace t3:=Hid.mk t3;have g1:(2:Int)<(l.length:Int):=by omega
  have g2:(l.length:Int)≤10:=by omega
  have qB:tr false true [.string ⟨l.toArray⟩,I 2]=some (.string ⟨([48,120]:aD).toArray⟩):=by rw[← f3];exact QW (l:=l) (n:=2) (by omega)
  have QU:tr true false [.string ⟨l.toArray⟩,I 2]=some (.string ⟨(l.drop 2).toArray⟩):=ys (l:=l) (n:=2) (by omega);have az:(([48,120]:aD)==[48,120])=true:=rfl;have aL:=iz [48,120] [48,120];rw[az]at aL;clear hd f1 f2 f3;simp only[aa,av,ay,ja, *];refine XB (base:=16) (.inr rfl) (by simp;omega) h _ ?_;rw[bp];by_cases wi:z<0
  ·have g:=t1.h wi;replace g:=Hid.mk g;simp only[aa,av,ay, *];exact g.h
  ·by_cases z2:4294967296≤z
   ·have g:=t2.h wi z2;replace g:=Hid.mk g;simp only[aa,av,ay, *];exact g.h
   ·have g:=t3.h wi z2;replace g:=Hid.mk g;simp only[aa,av,ay, *];exact g.h
 ·have hd:=dR.h;rw[if_neg aZ]at hd
  -- the Pe asY
  have Pe:W Tryz.prog N PN.vars (.hK Vp [] 0 (.aW Vu [(3,0)]) .skip) (sW 0 (rh (W Tryz.prog N PN.vars (.seq (.hK Q5 [] 0 (.seq (.aW Rf [(1,1),(2,0)]) .ret) .skip) (.seq (.aW RO [(1,1),(2,0)]) .ret)) (My 1 2 Q)) (My 1 2 Q))) [str l,I 0,.bool false,I (-1)] h:=by
   delta Vp Vu Q5 Rf RO;by_cases ak:l.length=1∨(1<l.length∧l.length≤10∧l.head?≠some 48)
   ·rw[if_pos ak]at hd;obtain⟨t1,t2,t3⟩:=tail.h _ hd;obtain⟨z,bp⟩:∃ z,GX (vm 10 l 0)=z:=⟨_,rfl⟩;rw[bp]at t1 t2 t3;replace t1:=Hid.mk t1;replace t2:=Hid.mk t2;replace t3:=Hid.mk t3;have aaI:l.length≤10:=by rcases ak with h|h<;>omega
    have after:∀(gA:dM→ar→J→Prop),True:=fun _=>trivial;clear after;rcases ak with A|⟨A,S,ae⟩
    ·have ck:((l.length:Int)==1)=true:=by simp;omega
     clear hd aZ A;simp only[aa,av,ay,ja, *];refine XB (base:=10) (.inl rfl) aaI h _ ?_;rw[bp];by_cases wi:z<0
     ·have g:=t1.h wi;replace g:=Hid.mk g;simp only[aa,av,ay, *];exact g.h
     ·by_cases z2:4294967296≤z
      ·have g:=t2.h wi z2;replace g:=Hid.mk g;simp only[aa,av,ay, *];exact g.h
      ·have g:=t3.h wi z2;replace g:=Hid.mk g;simp only[aa,av,ay, *];exact g.h
    ·have ck:((l.length:Int)==1)=false:=by simp;omega
     have cm:(1:Int)<(l.length:Int):=by omega
     have cb:(l.length:Int)≤10:=by omega
     obtain⟨b,T⟩:∃ b,l[0]?=some b:=⟨_,hi (by omega)⟩;have oP:=xl T .i64;rw[Ch]at oP;have eC:((b.toNat:Int) != 48)=true:=by
      simp;intro e;apply ae;rw[List.head?_eq_getElem?,T]
      congr 1
      apply UInt8.toNat_inj.1;simp;omega
     clear hd aZ A S ae T;simp only[aa,av,ay,ja, *];refine XB (base:=10) (.inl rfl) aaI h _ ?_;rw[bp];by_cases wi:z<0
     ·have g:=t1.h wi;replace g:=Hid.mk g;simp only[aa,av,ay, *];exact g.h
     ·by_cases z2:4294967296≤z
      ·have g:=t2.h wi z2;replace g:=Hid.mk g;simp only[aa,av,ay, *];exact g.h
      ·have g:=t3.h wi z2;replace g:=Hid.mk g;simp only[aa,av,ay, *];exact g.h
   ·rw[if_neg ak]at hd;have g:=(tail.h none hd).1 (by decide);replace g:=Hid.mk g;have ck:((l.length:Int)==1)=false:=by simp;omega
    by_cases A:1<l.length
    ·have cm:(1:Int)<(l.length:Int):=by omega
     by_cases S:l.length≤10
     ·have cb:(l.length:Int)≤10:=by omega
      have qI:l.head?=some 48:=Classical.byContradiction fun cp=>ak (.inr ⟨A,S,cp⟩);have T:l[0]?=some 48:=by rw[← List.head?_eq_getElem?];exact qI
      have oP:zT [.string ⟨l.toArray⟩,I 0]=some (.int .u8 48):=xl T .i64;have eC:((48:Int) != 48)=false:=rfl;clear ak hd aZ A S qI T;simp only[aa,av,ay,ja, *];exact g.h
     ·have cb:¬(l.length:Int)≤10:=by omega
      clear ak hd aZ A S;simp only[aa,av,ay,ja, *];exact g.h
    ·have cm:¬(1:Int)<(l.length:Int):=by omega
     clear ak hd aZ A;simp only[aa,av,ay,ja, *];exact g.h
  replace Pe:=Hid.mk Pe;simp only[aa, *];by_cases A:2<l.length
  ·have g1:(2:Int)<(l.length:Int):=by omega
   by_cases S:l.length≤10
   ·have g2:(l.length:Int)≤10:=by omega
    have ae:¬ l.take 2=[48,120]:=fun e=>aZ ⟨A,S,e⟩;have qB:tr false true [.string ⟨l.toArray⟩,I 2]=some (.string ⟨(l.take 2).toArray⟩):=QW (l:=l) (n:=2) (by omega);have aL:uU .eql ⟨(l.take 2).toArray⟩ ⟨#[48,120]⟩=some (.bool false):=by
     have:=iz (l.take 2) [48,120];rw[show(l.take 2==[48,120])=false by simpa using ae]at this;exact this
    clear hd aZ A S ae;simp only[aa,av,ay,ja, *];exact Pe.h
   ·have g2:¬(l.length:Int)≤10:=by omega
    clear hd aZ A S;simp only[aa,av,ay,ja, *];exact Pe.h
  ·have g1:¬(2:Int)<(l.length:Int):=by omega
   clear hd aZ A;simp only[aa,av,ay,ja, *];exact Pe.h
def K2(l:aD):Tok:=if(kR l).2 then(kR l).1 else⟨0,[],0,0⟩
theorem akH:gQ [I 0,aI,I 0,I 0] [] []=some (Tok.val ⟨0,[],0,0⟩):=by rfl
theorem aqr{l:aD}(h:J)(Q:aT)(L:∀ D,h.le D→Q (K2 l).val D):bj Tryz.prog 40 [str l] h Q:=by
 refine E5 (k:=1) (agg:=true) (size:=4) apJ rfl rfl rfl fun N=>?_;rw[gE U3 qj rfl];delta U3;obtain⟨p,pt⟩:∃ x,h.next=x:=⟨_,rfl⟩;obtain⟨A,hh⟩:∃ x,h.alloc (.aq [I 0,aI,I 0,I 0] true)=x:=⟨_,rfl⟩;have g1:A.get p=some (.aq [I 0,aI,I 0,I 0] true):=by rw[← hh,← pt];exact J.hy _ _
 have l1:h.le A:=by rw[← hh];exact(J.le.refl _).alloc _
 have fin:∀(S:J) (t:Tok),A.le S→K2 l=t→(cz 4 S [aH p 0,t.val]=some (b0,S.set p (.aq t.cells true)))∧(S.set p (.aq t.cells true)).get p=some (.aq [I t.kind,str t.text,I t.n,I t.line] true)∧Q t.val (S.set p (.aq t.cells true)):=by
  intro S t bC aC;have g2:=bC.get g1;refine⟨nZ g2 rfl rfl rfl rfl,J.gz _ _ _ (by rw[g2];rfl),?_⟩;rw[← aC];exact L _ ((l1.trans bC).set (by omega) _)
 replace fin:=Hid.mk fin;clear L;simp only[aa, *];refine apw A _ fun S l2=>?_;cases ax:isWord l with
 |true =>
  obtain⟨f1,f2,f3⟩:=fin.h S ⟨2,l,0,0⟩ l2 (by simp[K2,kR,ax]);replace f3:=Hid.mk f3;obtain⟨ae,gX⟩:∃ x,S.set p (.aq (Tok.cells ⟨2,l,0,0⟩) true)=x:=⟨_,rfl⟩;rw[gX]at f1 f2 f3;replace gX:=Hid.mk gX;have qd:=H4 2 0 0 l;clear l2 l1 g1;simp only[aa,aw,bh,NH, *];exact f3.h
 |false =>
 simp only[aa, *];refine Eh S _ fun ae aE=>?_;replace aE:=l2.trans aE;clear l2;cases hn:de l with
 |true =>
  obtain⟨f1,f2,f3⟩:=fin.h ae ⟨1,l,0,0⟩ aE (by simp[K2,kR,ax,hn]);replace f3:=Hid.mk f3;obtain⟨aB,gX⟩:∃ x,ae.set p (.aq (Tok.cells ⟨1,l,0,0⟩) true)=x:=⟨_,rfl⟩;rw[gX]at f1 f2 f3;replace gX:=Hid.mk gX;have qd:=H4 1 0 0 l;clear aE l1 g1;simp only[aa,aw,bh,NH, *];exact f3.h
 |false =>
 simp only[aa, *];refine aqg ae _ ?_;cases lr:number l with
 |some n =>
  obtain⟨f1,f2,f3⟩:=fin.h ae ⟨3,l,n,0⟩ aE (by simp[K2,kR,ax,hn,lr]);replace f3:=Hid.mk f3;obtain⟨aB,gX⟩:∃ x,ae.set p (.aq (Tok.cells ⟨3,l,n,0⟩) true)=x:=⟨_,rfl⟩;rw[gX]at f1 f2 f3;replace gX:=Hid.mk gX;have qd:=H4 3 n 0 l;simp only[Option.getD_some,Option.isSome_some];clear aE l1 g1;simp only[aa,aw,bh,agb, *];exact f3.h
 |none =>
  obtain⟨f1,f2,f3⟩:=fin.h ae ⟨0,[],0,0⟩ aE (by simp[K2,kR,ax,hn,lr]);replace f3:=Hid.mk f3;obtain⟨aB,gX⟩:∃ x,ae.set p (.aq (Tok.cells ⟨0,[],0,0⟩) true)=x:=⟨_,rfl⟩;rw[gX]at f1 f2 f3;replace gX:=Hid.mk gX;have qd:=H4 0 0 0 [];simp only[Option.getD_none,Option.isSome_none];clear aE l1 g1;simp only[aa,aw,bh,akH, *];exact f3.h
def K3(l:aD):aD:=(kh.find? (·.isPrefixOf l)).getD []
theorem aqD{l:aD}(h:J)(Q:aT)(L:∀ D,h.le D→Q (str (K3 l)) D):bj Tryz.prog 41 [str l] h Q:=by
 refine c7 (k:=1) apK rfl rfl rfl fun N=>?_;rw[gE Vh mZ rfl];delta Vh;replace L:=U L;have et:=vZ h kh (n:=25) (cells:=[.string ⟨#[61,61]⟩,.string ⟨#[33,61]⟩,.string ⟨#[60,60]⟩,.string ⟨#[62,62]⟩,.string ⟨#[60,46]⟩,.string ⟨#[43]⟩,.string ⟨#[45]⟩,.string ⟨#[42]⟩,.string ⟨#[47]⟩,.string ⟨#[37]⟩,.string ⟨#[38]⟩,.string ⟨#[124]⟩,.string ⟨#[94]⟩,.string ⟨#[60]⟩,.string ⟨#[61]⟩,.string ⟨#[33]⟩,.string ⟨#[126]⟩,.string ⟨#[40]⟩,.string ⟨#[41]⟩,.string ⟨#[123]⟩,.string ⟨#[125]⟩,.string ⟨#[91]⟩,.string ⟨#[93]⟩,.string ⟨#[59]⟩,.string ⟨#[46]⟩]) rfl rfl;obtain⟨q,qU⟩:∃ x,h.next=x:=⟨_,rfl⟩;obtain⟨A,hh⟩:∃ x,h.alloc (.aq [.string ⟨#[61,61]⟩,.string ⟨#[33,61]⟩,.string ⟨#[60,60]⟩,.string ⟨#[62,62]⟩,.string ⟨#[60,46]⟩,.string ⟨#[43]⟩,.string ⟨#[45]⟩,.string ⟨#[42]⟩,.string ⟨#[47]⟩,.string ⟨#[37]⟩,.string ⟨#[38]⟩,.string ⟨#[124]⟩,.string ⟨#[94]⟩,.string ⟨#[60]⟩,.string ⟨#[61]⟩,.string ⟨#[33]⟩,.string ⟨#[126]⟩,.string ⟨#[40]⟩,.string ⟨#[41]⟩,.string ⟨#[123]⟩,.string ⟨#[125]⟩,.string ⟨#[91]⟩,.string ⟨#[93]⟩,.string ⟨#[59]⟩,.string ⟨#[46]⟩] true)=x:=⟨_,rfl⟩;have l1:h.le A:=by rw[← hh];exact(J.le.refl _).alloc _
 rw[qU,hh]at et;have g:=L.h A l1;replace g:=Hid.mk g;replace et:=Hid.mk et;have jq:pD [.slice (some ⟨q,0,none⟩) 25 1]=some (I 25):=rfl;clear L l1;simp only[aa,akG, *];refine ch.upto 25 (fun i e D=>D=A∧(kh.take i).find? (·.isPrefixOf l)=none∧e=[str l,aI,.slice (some ⟨q,0,none⟩) 25 1,I i]) ?_ (lj _) ⟨rfl,rfl,rfl⟩;rintro i _ S R au ⟨rfl,gx,rfl⟩ aN;replace gx:=Hid.mk gx;delta YI;by_cases aV:i<25
 case neg =>
  have dm:¬(i:Int)<25:=by omega
  have ax:K3 l=[]:=by
   have:=gx.h;rw[Lt (show kh.length≤i by show 25≤i;omega)]at this;unfold K3;rw[this];rfl
  rw[ax]at g;simp only[aa,av,ay, *];exact g.h
 case pos =>
  have dm:(i:Int)<25:=by omega
  have DD:IntKind.i64.wrap ((i:Int)+1)=((i+1:Nat):Int):=by rw[cZ (by omega) (by omega)];rfl
  obtain⟨w,ax⟩:∃ w,kh[i]?=some w:=⟨_,hi (show i<kh.length from aV)⟩;obtain⟨id,off,cells,own,az,aL,bq,_⟩:=et.h.elem ax;cases ak:w.isPrefixOf l with
  |true =>
   have lp:K3 l=w:=by
    unfold K3;have R5:kh.find? (·.isPrefixOf l)=some w:=by
     rw[← PJ i kh,List.find?_append,gx.h];have:kh.drop i=w::kh.drop (i+1):=by
      rw[Np (show i<kh.length from aV)]
      congr 1
      exact(j2.1 ax).2
     rw[this];simp[ak]
    rw[R5];rfl
   rw[lp]at g;have bX:=ac9 ak;have ajo:(w.length:Int)≤(l.length:Int):=by omega
   have qB:=QW bX;have rH:(l.take w.length==w)=true:=by
    have:=List.prefix_iff_eq_take.1 (G3.1 ak);rw[← this];simp
   replace ax:=Hid.mk ax;clear lp ak bX;simp only[aa,aw,av,ay,iz,ja, *];exact g.h
  |false =>
   have ik:(kh.take (i+1)).find? (·.isPrefixOf l)=none:=by
    rw[G5,ax,List.find?_append,gx.h];simp[ak]
   replace ax:=Hid.mk ax;replace ik:=Hid.mk ik;by_cases bX:w.length≤l.length
   ·have ajo:(w.length:Int)≤(l.length:Int):=by omega
    have qB:=QW bX;have rH:(l.take w.length==w)=false:=by
     cases h:(l.take w.length==w) with
     |false=>rfl
     |true =>
      have h:l.take w.length=w:=by simpa using h
      have:=G3.2 (List.prefix_iff_eq_take.2 h.symm);rw[ak]at this;cases this
    clear ak bX;simp only[aa,aw,av,ay,iz,ja, *];exact aN.h _ _ aV ⟨rfl,ik.h,rfl⟩
   ·have ajo:¬(w.length:Int)≤(l.length:Int):=by omega
    clear ak bX;simp only[aa,aw,av,ay,ja, *];exact aN.h _ _ aV ⟨rfl,ik.h,rfl⟩
theorem an1{l:aD}(ag:l.length≤20000){N i0:Nat}(WT:i0≤l.length){h:J}{az aL bq cV h2 e7 e8 e9:Value}{gA:dM→ar→J→Prop}
  (dZ:∀ j,i0≤j→j≤l.length→l.drop j=(l.drop i0).dropWhile (· != 10)→gA (.exit 5) [str l,az,aL,bq,cV,h2,I (j:Nat),e7,e8,e9] h) :
  ch Tryz.prog N LW.vars Ux [str l,az,aL,bq,cV,h2,I (i0:Nat),e7,e8,e9] h gA:=by
 replace dZ:=Hid.mk dZ;refine ch.upto l.length (fun i e D=>D=h∧i0≤i∧(l.drop i0).dropWhile (· != 10)=(l.drop i).dropWhile (· != 10)∧e=[str l,az,aL,bq,cV,h2,I (i:Nat),e7,e8,e9]) ?_ WT ⟨rfl,br _,rfl,rfl⟩;rintro i _ S R au ⟨rfl,h0,hd,rfl⟩ aN;replace hd:=Hid.mk hd;delta Ux;by_cases aV:i<l.length
 case neg =>
  have dm:¬(i:Int)<(l.length:Int):=by omega
  have g:=dZ.h i h0 au (by rw[hd.h,PE (by omega)];rfl);replace g:=Hid.mk g;repeat' (first|simp only[aa,aw,bh,av,ay,Int.reduceBEq,Int.reduceBNe,Nat.reduceBEq,Int.reduceLT,Int.reduceLE,ja, *]|with_reducible (first|refine aap ?_ ?_|refine aaw ?_ ?_|refine aaq ?_ ?_|refine aax ?_ ?_)<;>intro aj)
  exact g.h
 case pos =>
  have dm:(i:Int)<(l.length:Int):=by omega
  have DD:IntKind.i64.wrap ((i:Int)+1)=((i+1:Nat):Int):=by rw[cZ (by omega) (by omega)];rfl
  obtain⟨b,T⟩:∃ b,l[i]?=some b:=⟨_,hi aV⟩;have Zc:l.drop i=b::l.drop (i+1):=by
   rw[Np aV]
   congr 1
   exact(j2.1 T).2
  have oP:=xl T .i64;have Oa:(l.drop i).dropWhile (· != 10)=if b=10 then l.drop i else(l.drop (i+1)).dropWhile (· != 10):=by
   rw[Zc,Ci];by_cases lk:b=10
   ·rw[if_neg (by simp[lk]),if_pos lk]
   ·rw[if_pos (by simpa using lk),if_neg lk]
  clear Zc T;cases lk:((b.toNat:Int) != 10) with
  |true =>
   have cH:¬ b=10:=by rintro rfl;cases lk
   rw[if_neg cH]at Oa;replace Oa:=Hid.mk Oa;clear cH;repeat' (first|simp only[aa,aw,bh,av,ay,Int.reduceBEq,Int.reduceBNe,Nat.reduceBEq,Int.reduceLT,Int.reduceLE,ja, *]|with_reducible (first|refine aap ?_ ?_|refine aaw ?_ ?_|refine aaq ?_ ?_|refine aax ?_ ?_)<;>intro aj)
   exact aN.h _ _ aV ⟨rfl,by omega,by rw[hd.h,Oa.h],rfl⟩
  |false =>
   have aK:b=10:=by apply UInt8.toNat_inj.1;simp;simp at lk;omega
   rw[if_pos aK]at Oa;have g:=dZ.h i h0 au (by rw[hd.h,Oa]);replace g:=Hid.mk g;clear aK Oa;repeat' (first|simp only[aa,aw,bh,av,ay,Int.reduceBEq,Int.reduceBNe,Nat.reduceBEq,Int.reduceLT,Int.reduceLE,ja, *]|with_reducible (first|refine aap ?_ ?_|refine aaw ?_ ?_|refine aaq ?_ ?_|refine aax ?_ ?_)<;>intro aj)
   exact g.h
theorem ard{l:aD}{i:Nat}{b:UInt8}(h:l[i]?=some b):runN (l.drop i)=if nm b then runN (l.drop (i+1))+1 else 0:=by
 have aV:=(j2.1 h).1;have Zc:l.drop i=b::l.drop (i+1):=by
  rw[Np aV]
  congr 1
  exact(j2.1 h).2
 rw[Zc,sJ]
theorem are{l:aD}(ag:l.length≤20000){N i0:Nat}(WT:i0≤l.length){h:J}{az aL bq cV h2 hH e7 e9:Value}{gA:dM→ar→J→Prop}
  (dZ:gA (.exit 3) [str l,az,aL,bq,cV,h2,hH,e7,I ((i0+runN (l.drop i0):Nat):Int),e9] h) :
  ch Tryz.prog N LW.vars UH [str l,az,aL,bq,cV,h2,hH,e7,I (i0:Nat),e9] h gA:=by
 replace dZ:=Hid.mk dZ;refine ch.upto l.length (fun i e D=>D=h∧i0≤i∧i0+runN (l.drop i0)=i+runN (l.drop i)∧e=[str l,az,aL,bq,cV,h2,hH,e7,I (i:Nat),e9]) ?_ WT ⟨rfl,br _,rfl,rfl⟩;rintro i _ S R au ⟨rfl,h0,hd,rfl⟩ aN;replace hd:=Hid.mk hd;delta UH;by_cases aV:i<l.length
 case neg =>
  have dm:¬(i:Int)<(l.length:Int):=by omega
  have g:=dZ.h;rw[hd.h,PE (by omega)]at g;have g:gA (.exit 3) [str l,az,aL,bq,cV,h2,hH,e7,I (i:Int),e9] _:=g;replace g:=Hid.mk g;repeat' (first|simp only[aa,aw,bh,av,ay,Int.reduceBEq,Int.reduceBNe,Nat.reduceBEq,Int.reduceLT,Int.reduceLE,ja, *]|with_reducible (first|refine aap ?_ ?_|refine aaw ?_ ?_|refine aaq ?_ ?_|refine aax ?_ ?_)<;>intro aj)
  exact g.h
 case pos =>
  have dm:(i:Int)<(l.length:Int):=by omega
  have DD:IntKind.i64.wrap ((i:Int)+1)=((i+1:Nat):Int):=by rw[cZ (by omega) (by omega)];rfl
  obtain⟨b,T⟩:∃ b,l[i]?=some b:=⟨_,hi aV⟩;have GU:=ard T;rw[als]at GU;have oP:=xl T .i64;have tn:(DX b.toNat || rJ b)=true→R [str l,az,aL,bq,cV,h2,hH,e7,I ((i+1:Nat):Int),e9] S:=fun hn=>aN.h _ _ aV ⟨rfl,by omega,by rw[hd.h,GU,if_pos hn];omega,rfl⟩;have stop:(DX b.toNat || rJ b)=false→gA (.exit 3) [str l,az,aL,bq,cV,h2,hH,e7,I (i:Int),e9] S:=fun hn=>by
   have g:=dZ.h;rw[hd.h,GU,hn,if_neg (by simp)]at g;exact g
  replace tn:=Hid.mk tn;replace stop:=Hid.mk stop;clear GU T;repeat' (first|simp only[aa,aw,bh,av,ay,Int.reduceBEq,Int.reduceBNe,Nat.reduceBEq,Int.reduceLT,Int.reduceLE,ja, *]|with_reducible (first|refine aap ?_ ?_|refine aaw ?_ ?_|refine aaq ?_ ?_|refine aax ?_ ?_)<;>intro aj)
  refine akQ b _ _ ?_;cases A:DX b.toNat with
  |true =>
   have g:=tn.h (by rw[A];rfl);replace g:=Hid.mk g;repeat' (first|simp only[aa,aw,bh,av,ay,Int.reduceBEq,Int.reduceBNe,Nat.reduceBEq,Int.reduceLT,Int.reduceLE,ja, *]|with_reducible (first|refine aap ?_ ?_|refine aaw ?_ ?_|refine aaq ?_ ?_|refine aax ?_ ?_)<;>intro aj)
   exact g.h
  |false =>
   repeat' (first|simp only[aa,aw,bh,av,ay,Int.reduceBEq,Int.reduceBNe,Nat.reduceBEq,Int.reduceLT,Int.reduceLE,ja, *]|with_reducible (first|refine aap ?_ ?_|refine aaw ?_ ?_|refine aaq ?_ ?_|refine aax ?_ ?_)<;>intro aj)
   refine X9 b _ _ ?_;cases S:rJ b with
   |true =>
    have g:=tn.h (by rw[A,S];rfl);replace g:=Hid.mk g;repeat' (first|simp only[aa,aw,bh,av,ay,Int.reduceBEq,Int.reduceBNe,Nat.reduceBEq,Int.reduceLT,Int.reduceLE,ja, *]|with_reducible (first|refine aap ?_ ?_|refine aaw ?_ ?_|refine aaq ?_ ?_|refine aax ?_ ?_)<;>intro aj)
    exact g.h
   |false =>
    have g:=stop.h (by rw[A,S];rfl);replace g:=Hid.mk g;repeat' (first|simp only[aa,aw,bh,av,ay,Int.reduceBEq,Int.reduceBNe,Nat.reduceBEq,Int.reduceLT,Int.reduceLE,ja, *]|with_reducible (first|refine aap ?_ ?_|refine aaw ?_ ?_|refine aaq ?_ ?_|refine aax ?_ ?_)<;>intro aj)
    exact g.h
theorem aqy{l:aD}(ag:l.length≤20000){N:Nat}{h0:J}{az aL bq:Value}{gA:dM→ar→J→Prop}
  (pX:∀ D out e7 e8 e9,(dc l 1).2.2=true→h0.le D→wu h0 D out (dc l 1).1→gA (.exit 0) [str l,az,aL,bq,out,I (dc l 1).2.1,I l.length,e7,e8,e9] D)
  (oc:∀ cA D,(dc l 1).2.2=false→h0.le D→cA[1]?=some bx→cA[2]?=some (I 50)→cA[3]?=some (I (dc l 1).2.1)→gA .ret cA D) :
  ∀(n:Nat){i:Nat}{m:Int}{ts:List Tok}{h:J}{out e7 e8 e9:Value},l.length-i≤n→i≤l.length→h0.le h→wu h0 h out ts→1≤m→m≤1+i→ts.length≤i →
   dc l 1=(ts++(dc (l.drop i) m).1,(dc (l.drop i) m).2) →
   ch Tryz.prog N LW.vars Pa [str l,az,aL,bq,out,I m,I (i:Nat),e7,e8,e9] h gA:=by
 replace pX:=Hid.mk pX;replace oc:=Hid.mk oc;intro n;induction n with
 |zero =>
  intro i m ts h out e7 e8 e9 hn au bX Ho hm aaJ kb sr;refine ch.round ?_;have sn:i=l.length:=by omega
  rw[PE (by omega),adg,zR]at sr;have g:=pX.h h out e7 e8 e9 (by rw[sr]) bX (by rw[sr];exact Ho);rw[sr]at g;have aV:¬(i:Int)<(l.length:Int):=by omega
  rw[← sn]at g;replace g:=Hid.mk g;delta Pa;clear Ho bX sn;simp only[aa,av,ay,ja, *];exact g.h
 |succ n ih =>
  intro i m ts h out e7 e8 e9 hn au bX Ho hm aaJ kb sr;by_cases sn:i=l.length
  ·exact ih (by omega) au bX Ho hm aaJ kb sr
  refine ch.round ?_;have aV:i<l.length:=by omega
  have dm:(i:Int)<(l.length:Int):=by omega
  obtain⟨b,T⟩:∃ b,l[i]?=some b:=⟨_,hi aV⟩;have Zc:l.drop i=b::l.drop (i+1):=by
   rw[Np aV]
   congr 1
   exact(j2.1 T).2
  have oP:=xl T .i64;have aup:IntKind.i64.wrap ((i:Int)+1)=((i+1:Nat):Int):=by rw[cZ (by omega) (by omega)];rfl
  have asW:IntKind.i64.wrap (m+1)=m+1:=cZ (by omega) (by omega);replace ih:=Hid.mk @ih;replace Ho:=Hid.mk Ho;replace bX:=Hid.mk bX;replace sr:=Hid.mk sr;replace Zc:=Hid.mk Zc;delta Pa;clear T sn;by_cases lk:b=10
  ·have ck:((b.toNat:Int)==10)=true:=by subst lk;rfl
   have g:=ih.h (i:=i+1) (m:=m+1) (ts:=ts) (h:=h) (out:=out) (e7:=.int .u8 b.toNat) (e8:=e8) (e9:=e9) (by omega) (by omega) bX.h Ho.h (by omega) (by omega) (by omega) (by rw[sr.h,Zc.h,lk,apV]);replace g:=Hid.mk g;clear lk;simp only[aa,av,ay,ja, *];exact g.h
  have ck:((b.toNat:Int)==10)=false:=by
   cases h:((b.toNat:Int)==10) with
   |false=>rfl
   |true=>exact absurd (by apply UInt8.toNat_inj.1;simp;simp at h;omega) lk
  by_cases RS:jJ b=true
  ·have g:=ih.h (i:=i+1) (m:=m) (ts:=ts) (h:=h) (out:=out) (e7:=.int .u8 b.toNat) (e8:=e8) (e9:=e9) (by omega) (by omega) bX.h Ho.h (by omega) (by omega) (by omega) (by rw[sr.h,Zc.h,MD RS]);replace g:=Hid.mk g;have WU:b=32∨b=9:=by unfold jJ at RS;simpa using RS
   by_cases Ru:b=32
   ·have cm:((b.toNat:Int)==32)=true:=by subst Ru;rfl
    clear lk RS WU Ru;simp only[aa,av,ay,ja, *];exact g.h
   ·have cm:((b.toNat:Int)==32)=false:=by
     cases h:((b.toNat:Int)==32) with
     |false=>rfl
     |true=>exact absurd (by apply UInt8.toNat_inj.1;simp;simp at h;omega) Ru
    have cb:((b.toNat:Int)==9)=true:=by
     rcases WU with h|h
     ·exact absurd h Ru
     ·subst h;rfl
    clear lk RS WU Ru;simp only[aa,av,ay,ja, *];exact g.h
  have cm:((b.toNat:Int)==32)=false:=by
   cases h:((b.toNat:Int)==32) with
   |false=>rfl
   |true=>exact absurd (by rw[show b=32 by apply UInt8.toNat_inj.1;simp;simp at h;omega];rfl) RS
  have cb:((b.toNat:Int)==9)=false:=by
   cases h:((b.toNat:Int)==9) with
   |false=>rfl
   |true=>exact absurd (by rw[show b=9 by apply UInt8.toNat_inj.1;simp;simp at h;omega];rfl) RS
  by_cases N9:b=35
  ·have eC:((b.toNat:Int)==35)=true:=by subst N9;rfl
   have g:=fun j (asy:i≤j) (asz:j≤l.length) (bn:l.drop j=(l.drop i).dropWhile (· != 10))=>ih.h (i:=j) (m:=m) (ts:=ts) (h:=h) (out:=out) (e7:=.int .u8 b.toNat) (e8:=e8) (e9:=e9);have se:∀ j,i≤j→j≤l.length→l.drop j=(l.drop i).dropWhile (· != 10)→ch Tryz.prog N LW.vars Pa [str l,az,aL,bq,out,I m,I (j:Nat),.int .u8 b.toNat,e8,e9] h gA:=by
    intro j asy asz bn;have qP:i<j:=by
     rcases Dj i j with h|h
     ·exact h
     ·exfalso;have S:(l.drop j).length=l.length-j:=by simp
      have ae:((l.drop i).dropWhile (· != 10)).length≤l.length-(i+1):=by
       rw[Zc.h,N9,Ci,if_pos (by decide)];have:=aaa (· != (10:UInt8)) (l.drop (i+1));rw[List.length_drop]at this;exact this
      rw[bn]at S;omega
    exact ih.h (by omega) asz bX.h Ho.h hm (by omega) (by omega) (by rw[sr.h,bn,Zc.h,N9,← aru])
   replace se:=Hid.mk se;clear g lk RS N9;simp only[aa,av,ay,ja, *];refine an1 ag au ?_;intro j asy asz bn;have g:=se.h j asy asz bn;replace g:=Hid.mk g;clear bn;simp only[aa, *];exact g.h
  have eC:((b.toNat:Int)==35)=false:=by
   cases h:((b.toNat:Int)==35) with
   |false=>rfl
   |true=>exact absurd (by apply UInt8.toNat_inj.1;simp;simp at h;omega) N9
  have Pb:jJ b=false∧b≠10∧b≠35:=⟨by simpa using RS,lk,N9⟩;obtain⟨w,ax⟩:∃ w,runN (l.drop i)=w:=⟨_,rfl⟩;have Bs:w≤l.length-i:=by have:=MA (l.drop i);simp at this;omega
  have av9:((i+w:Nat):Int)=((i+w:Nat):Int):=rfl;have qB:tr true true [.string ⟨l.toArray⟩,I (i:Int),I ((i+w:Nat):Int)]=some (.string ⟨((l.drop i).take w).toArray⟩):=by
   have:=akT (l:=l) (m:=i) (n:=i+w) (by omega) (by omega);rw[List.drop_take,show i+w-i=w by omega]at this;exact this
  -- a aqQ is at6
  have tail:∀(t:Tok) (k:Nat) (ae:J) (q:Nat) (e7 e8:Value),0<k→i+k≤l.length→t.text.length=k→dc (l.drop i) m=({ t with line:=m }::(dc (l.drop (i+k)) m).1,(dc (l.drop (i+k)) m).2) →
    h.le ae→h.next≤q→ae.get q=some (.aq t.cells true) →
    ∃ aB,cz 1 ae [aH q 3,I m]=some (b0,aB)∧aB.get q=some (.aq [I t.kind,str t.text,I t.n,I m] true) ∧
     ∃ v' aG,o1 4 40 (aB.alloc (.aq (Tok.cells { t with line:=m }) true)) [out,.slice (some ⟨aB.next,0,none⟩) 1 4]=some (v',aG)∧aG.get q=some (.aq [I t.kind,str t.text,I t.n,I m] true) ∧
      ch Tryz.prog N LW.vars Pa [str l,az,aL,bq,v',I m,I ((i+k:Nat):Int),e7,e8,aH q 0] aG gA:=by
   intro t k ae q e7 e8 atU rC vB ak aE L dY;have bu:=VC (k:=.i64) (z:=m) (off:=3) dY (by simp[Tok.cells]);refine⟨_,bu,?_,?_⟩
   ·exact J.gz _ _ _ (by rw[dY];rfl)
   obtain⟨aB,og⟩:∃ x,ae.set q (.aq (t.cells.set 3 (I m)) true)=x:=⟨_,rfl⟩;rw[og];have qH:aB.get q=some (.aq [I t.kind,str t.text,I t.n,I m] true):=by rw[← og];exact J.gz _ _ _ (by rw[dY];rfl)
   have aO:h.le aB:=by rw[← og];exact aE.set L _
   have b8:da out q:=by
    intro n s e;rcases Ho.h with⟨ah,_⟩|⟨id,ah,_,aA,_⟩
    ·rw[ah]at e;cases e
    ·rw[ah]at e;cases e;have:=J.bY aA;omega
   obtain⟨v',aG,dJ,kB,qt,afC,_⟩:=Vs (Ho.h.mono aO) (bX.h.trans aO) (by omega) { t with line:=m };refine⟨v',aG,dJ,?_,?_⟩
   ·rw[afC q (by rw[qH];rfl) b8];exact qH
   ·exact ih.h (by omega) rC qt kB hm (by omega) (by simp;omega) (by rw[sr.h,ak];simp)
  have bad:∀ ae,h.le ae→dc (l.drop i) m=([],m,false)→∀ cA,cA[1]?=some bx→cA[2]?=some (I 50)→cA[3]?=some (I m)→gA .ret cA ae:=by
   intro ae aE ak cA bk bJ dl;have ax:=sr.h;rw[ak]at ax;exact oc.h cA ae (by rw[ax]) (bX.h.trans aE) bk bJ (by rw[ax];exact dl)
  replace tail:=Hid.mk tail;replace bad:=Hid.mk bad;have tb:=Zc.h;replace tb:=Hid.mk tb;clear lk N9 RS;replace Pb:=Hid.mk Pb;simp only[aa,av,ay,ja, *];refine are ag au ?_;rw[ax];simp only[aa, *];refine aqr h _ fun A l1=>?_;obtain⟨q,qU⟩:∃ x,A.next=x:=⟨_,rfl⟩;obtain⟨t,aC⟩:∃ t,K2 ((l.drop i).take w)=t:=⟨_,rfl⟩;rw[aC];have bu:=kk (h:=A) (size:=4) (zs:=[I 0,aI,I 0,I 0]) (v:=t.val) rfl rfl rfl rfl;obtain⟨S,mI⟩:∃ x,A.alloc (.aq t.cells true)=x:=⟨_,rfl⟩;have l2:A.le S:=by rw[← mI];exact(J.le.refl _).alloc _
  have eE:S.get q=some (.aq [I t.kind,str t.text,I t.n,I t.line] true):=by rw[← mI,← qU];exact J.hy _ _
  replace bu:cz 4 (A.alloc (.aq [I 0,aI,I 0,I 0] true)) [aH q 0,t.val]=some (b0,S):=by rw[← mI,← qU];exact bu
  have qT:h.next≤q:=by rw[← qU];exact l1.next
  have mn:=l1.trans l2;replace mI:=Hid.mk mI;replace ax:=Hid.mk ax;by_cases Z0:w=0
  ·have ap1:(((i+w:Nat):Int)==(i:Int))=true:=by simp;omega
   have QU:=ys (l:=l) (n:=i) au;have Ll:runN (b::l.drop (i+1))=0:=by rw[← tb.h,ax.h,Z0]
   replace Ll:=Hid.mk Ll;clear aC Z0 l1 l2;replace mn:=Hid.mk mn;simp only[aa,bh,av,ay, *];refine aqD S _ fun ae aE=>?_;have hT:=aE.get eE;have om:=mn.h.trans aE;cases aZ:kh.find? (·.isPrefixOf (l.drop i)) with
   |none =>
    have G0:K3 (l.drop i)=[]:=by unfold K3;rw[aZ];rfl
    rw[G0];have MJ:cz 4 ae [aH q 0,Tok.val ⟨4,[],0,0⟩]=some (b0,ae.set q (.aq (Tok.cells ⟨4,[],0,0⟩) true)):=nZ hT rfl rfl rfl rfl;obtain⟨aB,og⟩:∃ x,ae.set q (.aq (Tok.cells ⟨4,[],0,0⟩) true)=x:=⟨_,rfl⟩;rw[og]at MJ;have qH:aB.get q=some (.aq [I 4,str [],I 0,I 0] true):=by rw[← og];exact J.gz _ _ _ (by rw[hT];rfl)
    have xr:h.le aB:=by rw[← og];exact om.set qT _
    have g:=bad.h aB xr (by rw[tb.h]at aZ ⊢;exact arG m Pb.h Ll.h aZ);replace g:=Hid.mk g;have kB:=NH 4 [];have eI:(([]:aD)==[])=true:=rfl;replace og:=Hid.mk og;clear aZ G0 om xr aE;simp only[aa,aw,bh,av,iz, *];exact g.h _ rfl rfl rfl
   |some s =>
    obtain⟨sK,bT⟩:=MG aZ;have ka:(l.drop i).length=l.length-i:=by simp
    have G0:K3 (l.drop i)=s:=by unfold K3;rw[aZ];rfl
    rw[G0];have MJ:cz 4 ae [aH q 0,Tok.val ⟨4,s,0,0⟩]=some (b0,ae.set q (.aq (Tok.cells ⟨4,s,0,0⟩) true)):=nZ hT rfl rfl rfl rfl;obtain⟨aB,og⟩:∃ x,ae.set q (.aq (Tok.cells ⟨4,s,0,0⟩) true)=x:=⟨_,rfl⟩;rw[og]at MJ;have qH:aB.get q=some (.aq (Tok.cells ⟨4,s,0,0⟩) true):=by rw[← og];exact J.gz _ _ _ (by rw[hT];rfl)
    have atr:aB.get q=some (.aq [I 4,str s,I 0,I 0] true):=qH;have xr:h.le aB:=by rw[← og];exact om.set qT _
    obtain⟨aG,dP,a2,v',a1,a3,a4,a5⟩:=tail.h ⟨4,s,0,0⟩ s.length aB q (.int .u8 b.toNat) (I ((i+w:Nat):Int)) sK (by omega) rfl (by
     have:=apW m Pb.h Ll.h (g:=s) (by rw[← tb.h];exact aZ);rw[← tb.h]at this;rw[this,List.drop_drop]) xr qT qH
    have kB:=NH 4 s;have qd:=H4 4 0 m s;have I7:=NG ⟨4,s,0,m⟩;have cH:(s==[])=false:=by cases s with|nil=>simp at sK|cons=>rfl
    have S8:IntKind.i64.wrap ((i:Int)+(s.length:Int))=((i+s.length:Nat):Int):=by rw[← Int.natCast_add];exact cZ (by omega) (by omega)
    replace og:=Hid.mk og;replace a5:=Hid.mk a5;clear aZ G0 om xr aE qH;simp only[aa,aw,bh,av,ay,ja,iz, *];exact a5.h
  ·have ap1:(((i+w:Nat):Int)==(i:Int))=false:=by simp;omega
   have Pc:runN (b::l.drop (i+1))=w:=by rw[← tb.h,ax.h]
   cases oI:(kR ((l.drop i).take w)).2 with
   |false =>
    have aoi:t=⟨0,[],0,0⟩:=by rw[← aC];unfold K2;rw[oI];rfl
    subst aoi;have g:=bad.h S mn (by rw[tb.h]at oI ⊢;exact arW m Pb.h (by omega) (by rw[Pc];exact oI));replace g:=Hid.mk g;have eI:(([]:aD)==[])=true:=rfl;clear aC oI Pc Z0 l1 l2 mn;simp only[aa,aw,bh,av,ay,iz, *];exact g.h _ rfl rfl rfl
   |true =>
    have Xg:t=(kR ((l.drop i).take w)).1:=by rw[← aC];unfold K2;rw[oI];rfl
    have vB:t.text.length=w:=by rw[Xg,anR];simp;omega
    obtain⟨aG,dP,a2,v',a1,a3,a4,a5⟩:=tail.h t w S q (.int .u8 b.toNat) (I ((i+w:Nat):Int)) (by omega) (by omega) vB (by
     have:=apX (r:=l.drop (i+1)) m Pb.h (by rw[Pc];omega) (by rw[Pc,← tb.h];exact oI);rw[Pc,← tb.h]at this;rw[this,List.drop_drop,Xg]) mn qT eE
    have qd:=H4 t.kind t.n m t.text;have I7:=NG ⟨t.kind,t.text,t.n,m⟩;have cH:(t.text==[])=false:=by
     cases ZV:t.text with
     |nil=>rw[ZV]at vB;simp at vB;omega
     |cons=>rfl
    have S8:IntKind.i64.wrap ((i:Int)+(t.text.length:Int))=((i+w:Nat):Int):=by rw[vB,← Int.natCast_add];exact cZ (by omega) (by omega)
    replace a5:=Hid.mk a5;clear aC oI Pc Z0 l1 l2 mn Xg vB;simp only[aa,aw,bh,av,ay,ja,iz, *];exact a5.h
theorem aqu{l:aD}{h0:J}(h:J)(bX:h0.le h)(Q:aT)
  (L:∀ v D,wu h0 D v (jc l).1→h0.le D→Q (.tuple #[v,I (jc l).2.1,I (jc l).2.2]) D):bj Tryz.prog 19 [str l] h Q:=by
 refine agz (k:=1) (j:=2) (i:=3) apy rfl rfl rfl fun N=>?_;rw[gE LW aef rfl];delta LW;replace L:=Hid.mk L;by_cases y2:20000<l.length
 ·have RR:(20000:Int)<(l.length:Int):=by omega
  have g:=L.h bx h (by unfold jc;rw[if_pos y2];exact .nil _ _ _) bX;have hr:jc l=([],2,0):=by unfold jc;rw[if_pos y2]
  rw[hr]at g;replace g:=Hid.mk g;clear y2;simp only[aa,av,ay,ja,UO,xN, *];exact g.h
 ·have RR:¬(20000:Int)<(l.length:Int):=by omega
  have hr:jc l=if(dc l 1).2.2 then((dc l 1).1++[me (dc l 1).2.1],0,0) else([],50,(dc l 1).2.1):=by unfold jc;rw[if_neg y2];rfl
  replace hr:=Hid.mk hr;have LX:=Hid.mk bX;simp only[aa,av,ay,ja, *];refine aqy (l:=l) (by omega) ?_ ?_ l.length (i:=0) (m:=1) (ts:=[]) (by omega) (by omega) LX.h (.nil _ _ _) (by omega) (by omega) (by simp) (by simp)
  ·intro D out e7 e8 e9 bk bJ dl;have aR:=MC (l.length+1) (skip false l 1).1 (skip false l 1).2;have SR:=sL false l 1;have kb:(dc l 1).1.length≤20000:=by unfold dc;omega
   obtain⟨v',aG,dP,a2,a3,a4,a5,yg⟩:=Vs dl bJ (by omega) (me (dc l 1).2.1);have fO:=hr.h;rw[bk,if_pos rfl]at fO;have g:=L.h v' aG (by rw[fO];exact a2) a3;rw[fO]at g;replace g:=Hid.mk g;have I7:=NG (me (dc l 1).2.1);obtain⟨m3,Sp⟩:∃ x,(dc l 1).2.1=x:=⟨_,rfl⟩;rw[Sp]at dP I7 ⊢;have arC:=agc 0 m3;have Zf:me m3=⟨5,[],0,m3⟩:=rfl;rw[Zf]at dP I7;clear a2 a3 a4 a5 yg bk bJ dl fO Zf Sp aR SR kb;simp only[aa,bh,UO,xN, *];exact g.h
  ·intro cA D bk bJ dl fa p8;have fO:=hr.h;rw[bk,if_neg (by simp)]at fO;have g:=L.h bx D (by rw[fO];exact .nil _ _ _) bJ;rw[fO]at g;replace g:=Hid.mk g;clear bk fO bJ;simp only[aa,UO,xN, *];exact g.h
def KF(t:Tok):Tok:={ t with line:=0 }
def kv(l df:List Tok):Prop:=l.map KF=df.map KF
theorem kv.tail{l df:List Tok}(h:kv l df):kv l.tail df.tail:=by
 unfold kv at *;rw[List.map_tail,List.map_tail,h]
theorem kv.len{l df:List Tok}(h:kv l df):l.length=df.length:=by
 have:=congrArg List.length h;simpa using this
theorem kv.hd{l df:List Tok}(h:kv l df):KF (hd l)=KF (hd df):=by
 unfold kv at h;cases l with
 |nil=>cases df with
  |nil=>rfl
  |cons=>simp at h
 |cons t r=>cases df with
  |nil=>simp at h
  |cons mV dL=>simp at h;exact h.1
theorem aiz(s:aD)(t:Tok):dk s (KF t)=dk s t:=rfl
theorem kv.dk{l df:List Tok}(h:kv l df)(s:aD):dk s (Sy.hd df)=dk s (Sy.hd l):=by
 rw[← aiz s (Sy.hd df),← h.hd,aiz]
theorem kv.kind{l df:List Tok}(h:kv l df):(Sy.hd df).kind=(Sy.hd l).kind:=(congrArg Tok.kind h.hd).symm
theorem kv.text{l df:List Tok}(h:kv l df):(Sy.hd df).text=(Sy.hd l).text:=(congrArg Tok.text h.hd).symm
theorem kv.n{l df:List Tok}(h:kv l df):(Sy.hd df).n=(Sy.hd l).n:=(congrArg Tok.n h.hd).symm
theorem kv.bin{l df:List Tok}(h:kv l df):binOp (Sy.hd df)=binOp (Sy.hd l):=by
 unfold binOp;simp only[h.dk]
theorem kv.un{l df:List Tok}(h:kv l df):unOp (Sy.hd df)=unOp (Sy.hd l):=by
 unfold unOp;simp only[h.dk]
def pK{c1:Type}(x y:PR c1):Prop:=∀ a r,x=.ok a r→∃ dL,y=.ok a dL∧kv r dL
theorem pK.ok{c1:Type}{a:c1}{r dL:List Tok}(h:kv r dL):pK (.ok a r:PR c1) (.ok a dL):=fun b s e=>by cases e;exact⟨dL,rfl,h⟩
theorem pK.bad{c1:Type}{e m:Int}{y:PR c1}:pK (.bad e m:PR c1) y:=fun b s e=>by cases e
theorem pK.out{c1:Type}{y:PR c1}:pK (.out:PR c1) y:=fun b s e=>by cases e
theorem pK.bind{c1 l5:Type}{x y:PR c1}{g HI:c1→List Tok→PR l5}(h:pK x y)(aA:∀ a r dL,kv r dL→pK (g a r) (HI a dL)):pK (x.bind g) (y.bind HI):=by
 cases x with
 |ok a r =>
  obtain⟨dL,e,hr⟩:=h a r rfl;rw[e];exact aA a r dL hr
 |bad e m=>exact .bad
 |out=>exact .out
theorem Ht{s:aD}{l df:List Tok}(h:kv l df):pK (mP s l) (mP s df):=by
 unfold mP;rw[h.dk];split
 ·exact .ok h.tail
 ·exact .bad
theorem Fg{l5:Type}{k:Int}{l df:List Tok}{g HI:Tok→List Tok→PR l5}(h:kv l df)(aA:∀ r dL,kv r dL→pK (g (hd l) r) (HI (hd df) dL)):pK ((im k l).bind g) ((im k df).bind HI):=by
 unfold im;rw[h.kind];split
 ·show pK (g _ _) (HI _ _);refine aA _ _ ?_;split
  ·exact h
  ·exact h.tail
 ·exact .bad
theorem T0:∀ f:Nat,(∀ deep l df,kv l df→pK (nT f deep l) (nT f deep df))∧(∀ dz deep l df,kv l df→pK (lB f dz deep l) (lB f dz deep df))∧(∀ x dz deep l df,kv l df→pK (qc f x dz deep l) (qc f x dz deep df))
 |0=>⟨fun _ _ _ _=>(by rw[nT];exact .out),fun _ _ _ _ _=>(by rw[lB];exact .out),fun _ _ _ _ _ _=>(by rw[qc];exact .out)⟩
 |f+1=>by
  obtain⟨A,S,ae⟩:=T0 f;refine⟨fun deep l df h=>?_,fun dz deep l df h=>?_,fun x dz deep l df h=>?_⟩
  ·rw[nT,nT];simp only[h.un,h.dk,h.kind,h.n,h.text,h.tail.dk];split
   ·exact .bad
   split
   ·exact(A _ _ _ h.tail).bind fun a r dL hr=>.ok hr
   split
   ·exact(S _ _ _ _ h.tail).bind fun a r dL hr=>(Ht hr).bind fun _ _ _ hr=>.ok hr
   split
   ·exact .ok h.tail
   split
   ·exact .bad
   split
   ·exact(S _ _ _ _ h.tail.tail).bind fun a r dL hr=>(Ht hr).bind fun _ _ _ hr=>.ok hr
   ·exact .ok h.tail
  ·rw[lB,lB];exact(A _ _ _ h).bind fun a r dL hr=>ae _ _ _ _ _ hr
  ·rw[qc,qc];simp only[h.bin];split
   ·exact .ok h
   ·exact(S _ _ _ _ h.tail).bind fun a r dL hr=>ae _ _ _ _ _ hr
theorem XN{f deep:Nat}{k n:Int}{m:aD}{xs:List aX}{l df:List Tok}(h:kv l df):pK (tq f deep k m n xs l) (tq f deep k m n xs df):=by
 unfold tq;refine(Ht h).bind fun _ r dL hr=>?_;simp only[hr.kind,hr.tail.text];split
 ·refine Fg hr fun s a8 ak=>(Ht ak).bind fun _ u qi hu=>?_;rw[← hr.text];refine Fg hu fun v v' ad=>?_;rw[← hu.n];exact .ok ad
 ·exact((T0 f).2.1 _ _ _ _ hr).bind fun a s a8 ak=>.ok ak
theorem apq{f deep:Nat}{m:aD}{l df:List Tok}(h:kv l df):pK (uH f deep m l) (uH f deep m df):=by
 unfold uH;simp only[h.dk];split
 ·refine Fg h.tail fun r dL hr=>?_;rw[← h.tail.n];exact XN hr
 split
 ·exact((T0 f).2.1 _ _ _ _ h.tail).bind fun a s a8 ak=>(Ht ak).bind fun _ u qi hu=>XN hu
 ·exact XN h
theorem XX:∀ f:Nat,(∀ deep l df,kv l df→pK (pE f deep l) (pE f deep df))∧(∀ deep l df,kv l df→pK (jL f deep l) (jL f deep df))∧(∀ deep l df,kv l df→pK (pF f deep l) (pF f deep df))
 |0=>⟨fun _ _ _ _=>(by rw[pE];exact .out),fun _ _ _ _=>(by rw[jL];exact .out),fun _ _ _ _=>(by rw[pF];exact .out)⟩
 |f+1=>by
  obtain⟨A,S,ae⟩:=XX f;refine⟨fun deep l df h=>?_,fun deep l df h=>?_,fun deep l df h=>?_⟩
  ·rw[pE,pE];simp only[h.dk];split
   ·refine(Ht h.tail).bind fun _ r dL hr=>((T0 f).2.1 _ _ _ _ hr).bind fun e r dL hr=>(Ht hr).bind fun _ r dL hr=>(S _ _ _ hr).bind fun t r dL hr=>?_;simp only[hr.dk];split
    ·exact(S _ _ _ hr.tail).bind fun x r dL hr=>.ok hr
    ·exact .ok hr
   split
   ·refine Fg h.tail fun r dL hr=>?_;rw[← h.tail.text];exact(S _ _ _ hr).bind fun x r dL hr=>.ok hr
   split
   ·refine Fg h.tail fun r dL hr=>?_;rw[← h.tail.n];exact(S _ _ _ hr).bind fun x r dL hr=>.ok hr
   split
   ·exact(Ht h.tail).bind fun _ r dL hr=>.ok hr
   ·refine Fg h fun r dL hr=>?_;rw[← h.text];exact(apq hr).bind fun s r dL hr=>(Ht hr).bind fun _ r dL hr=>.ok hr
  ·rw[jL,jL];refine(Ht h).bind fun _ r dL hr=>?_;split
   ·exact .bad
   ·exact ae _ _ _ hr
  ·rw[pF,pF];simp only[h.dk];split
   ·exact .ok h.tail
   ·exact(A _ _ _ h).bind fun s r dL hr=>(ae _ _ _ hr).bind fun et r dL hr=>.ok hr
theorem alY{l df:List Tok}(h:kv l df):pK (BU l) (BU df):=by
 refine Fg h fun r dL hr=>?_;rw[← h.text];simp only[hr.dk];split
 ·exact .ok hr.tail
 split
 ·exact .ok hr.tail
 split
 ·exact .ok hr.tail
 ·exact .bad
theorem ZZ:∀(f:Nat) (l df:List Tok),kv l df→pK (oT f l) (oT f df)
 |0,_,_,_=>by rw[oT];exact .out
 |f+1,l,df,h=>by
  rw[oT,oT];simp only[h.dk];split
  ·exact(alY h.tail).bind fun d r dL hr=>(ZZ f _ _ hr).bind fun bG r dL hr=>.ok hr
  ·exact .ok h
theorem afZ:∀(f:Nat) (l df:List Tok),kv l df→pK (mS f l) (mS f df)
 |0,_,_,_=>by rw[mS];exact .out
 |f+1,l,df,h=>by
  rw[mS,mS];simp only[h.dk];split
  ·refine Fg h.tail fun r dL hr=>?_;rw[← h.tail.text];refine Fg hr fun s a8 ak=>?_;rw[← hr.n];exact(afZ f _ _ ak).bind fun bG r dL hr=>.ok hr
  ·exact .ok h
theorem ahI{f:Nat}{b:Bool}{l df:List Tok}(h:kv l df):pK (vR f b l) (vR f b df):=by
 unfold vR;refine Fg h fun r dL hr=>?_;rw[← h.text];refine Fg hr fun s a8 ak=>?_;rw[← hr.n];refine Fg ak fun u qi hu=>?_;rw[← ak.n];split
 ·refine Fg hu fun v v' ad=>?_;rw[← hu.n];exact((XX f).2.1 _ _ _ ad).bind fun x r dL hr=>.ok hr
 ·exact((XX f).2.1 _ _ _ hu).bind fun x r dL hr=>.ok hr
theorem Yu:∀(f:Nat) (l df:List Tok),kv l df→pK (nu f l) (nu f df)
 |0,_,_,_=>by rw[nu];exact .out
 |f+1,l,df,h=>by
  rw[nu,nu];simp only[h.dk];split
  ·exact(ahI h.tail).bind fun t r dL hr=>(Yu f _ _ hr).bind fun ts r dL hr=>.ok hr
  split
  ·exact(ahI h.tail).bind fun t r dL hr=>(Yu f _ _ hr).bind fun ts r dL hr=>.ok hr
  ·exact .ok h
theorem apU{f:Nat}{l df:List Tok}(h:kv l df):pK (BX f l) (BX f df):=by
 unfold BX;refine(Ht h).bind fun _ r dL hr=>Fg hr fun s a8 ak=>?_;rw[← hr.n];exact(ZZ f _ _ ak).bind fun bG r dL hr=>(afZ f _ _ hr).bind fun b3 r dL hr=>(Yu f _ _ hr).bind fun ts r dL hr=>.ok hr
def Ur(b:Nat):aD:=if b=0 then[32] else if b=1 then[10] else if b=2 then[9,9] else[32,35,32,120,59,10]
def rP(b:Nat→Nat):Nat→List Tok→aD
 |_,[]=>[]
 |i,t::r=>t.text++Ur (b i)++rP b (i+1) r
inductive DQ:Tok→Prop
 |name (s:aD) (m:Int) (h:de s=true):DQ (fY s m)
 |word (s:aD) (m:Int) (h:s∈rj):DQ (l3 s m)
 |num (n:Nat) (m:Int) (h:n<4294967296):DQ (kV n m)
 |sign (s:aD) (m:Int) (h:s∈kh):DQ (bD s m)
theorem as4{t:Tok}(h:DQ t){l:aD}(ag:del l)(m:Int):dc (t.text++l) m=fL [{ t with line:=m }] (dc l m):=by
 cases h with
 |name s m' h=>exact UZ h ag.1 m
 |word s m' h=>exact apY h ag.1 m
 |num n m' h=>exact adj h ag.1 m
 |sign s m' h=>exact B5 h ag.2 m
theorem adU(b:Nat→Nat):∀(ts:List Tok) (j i:Nat) (t:Tok),ts[i]?=some t→rP b j (ts.take (i+1))=rP b j (ts.take i)++(t.text++Ur (b (j+i)))
 |[],j,i,t,h=>by simp at h
 |x::r,j,0,t,h=>by
  simp at h;subst h;simp[rP]
 |x::r,j,i+1,t,h=>by
  have ih:=adU b r (j+1) i t (by simpa using h);simp only[List.take_succ_cons,rP];rw[ih];simp[Nat.add_assoc,Nat.add_comm 1 i]
theorem QV{e:aX}{d:Nat}(h:e1 e d)(m:Int):∀ t∈fo m e,DQ t:=by
 have O8:∀(e:aX) (k:Nat) (s:List Tok),(∀ t∈s,DQ t)→∀ t∈pJ m e k s,DQ t:=fun e k s ak t aC=>by
  unfold pJ at aC;split at aC
  ·simp only[oj,Aa,BR,or_false]at aC;rcases aC with rfl|aC|rfl
   ·exact .sign _ _ (by decide)
   ·exact ak t aC
   ·exact .sign _ _ (by decide)
  ·exact ak t aC
 induction h with
 |num n d h=>intro t aC;rw[Iw.1 aC];exact .num _ _ h
 |var s d h=>intro t aC;rw[Iw.1 aC];exact .name _ _ h
 |one o a d h ai ih =>
  intro t aC;rcases oj.1 aC with rfl|aC
  ·exact .sign _ _ (adt o (by omega))
  ·exact O8 a 9 _ ih t aC
 |two o a b d h ai T zu DI =>
  intro t aC;rcases Aa.1 (show t∈pJ m a (cy o) (fo m a)++bD (eU o) m::pJ m b (cy o+1) (fo m b) from aC) with aC|aC
  ·exact O8 a _ _ zu t aC
  ·rcases oj.1 aC with rfl|aC
   ·exact .sign _ _ (adt o (by omega))
   ·exact O8 b _ _ DI t aC
 |idx s a d h ai ih =>
  intro t aC;have aC:t∈fY s m::bD [91] m::(fo m a++[bD [93] m]):=aC;simp only[oj,Aa,BR,or_false]at aC;rcases aC with rfl|rfl|aC|rfl
  ·exact .name _ _ h
  ·exact .sign _ _ (by decide)
  ·exact ih t aC
  ·exact .sign _ _ (by decide)
def mg(l:List Tok):Prop:=∀ t∈l,DQ t
theorem mg.nil:mg []:=fun t h=>by cases h
theorem mg.cons{t:Tok}{l:List Tok}(h:DQ t)(ag:mg l):mg (t::l):=fun x af=>by
 rcases oj.1 af with rfl|af
 ·exact h
 ·exact ag x af
theorem mg.Cd{a b:List Tok}(h:mg a)(ag:mg b):mg (a++b):=fun x af=>by
 rcases Aa.1 af with af|af
 ·exact h x af
 ·exact ag x af
theorem vh{s:aD}(m:Int)(h:s∈kh):DQ (bD s m):=.sign s m h
theorem Hg{s:aD}(m:Int)(h:s∈rj):DQ (l3 s m):=.word s m h
theorem XY{m:Int}:∀ {l:List aP},(∀ s∈l,∀ m,mg (sO m s))→∀ m,mg (ki m l)
 |[],_,m=>mg.nil
 |a::r,h,m=>(h a (by simp) m).Cd (XY (m:=0) (fun s ak=>h s (by simp[ak])) _)
theorem Us{m:Int}{head nw el:List Tok}{a b:Nat}{tn:Bool}(A:mg head)(S:mg nw)(ae:mg el):mg (yl m head nw a el b tn):=by
 unfold yl;refine A.Cd (.cons (vh _ (by decide)) (S.Cd (mg.Cd ?_ (.cons (vh _ (by decide)) .nil))));split
 ·exact .cons (vh _ (by decide)) (.cons (Hg _ (by decide)) (.cons (vh _ (by decide)) ae))
 ·exact .nil
theorem ahJ:∀(d:Nat) (s:aP),jx s d→∀ m,mg (sO m s)
 |0,s,h,m=>by cases h
 |d+1,s,h,m=>by
  have sub:∀ {l:List aP},(∀ s∈l,jx s d)→∀ m,mg (ki m l):=fun {l} ak=>XY (m:=0) fun s h m=>ahJ d s (ak s h) m;cases h with
  |set s a _ h ai=>exact .cons (.name _ _ h) (.cons (vh _ (by decide)) (mg.Cd (QV ai m) (.cons (vh _ (by decide)) .nil)))
  |get s f n _ h aZ hn=>exact .cons (.name _ _ h) (.cons (vh _ (by decide)) (.cons (.name _ _ aZ) (.cons (vh _ (by decide)) (.cons (.num _ _ (by omega)) (.cons (vh _ (by decide)) .nil)))))
  |put s n a _ h hn ai=>exact .cons (.name _ _ h) (.cons (vh _ (by decide)) (.cons (.num _ _ (by omega)) (.cons (vh _ (by decide)) (mg.Cd (QV ai m) (.cons (vh _ (by decide)) .nil)))))
  |store s a b _ h ai T=>exact .cons (.name _ _ h) (.cons (vh _ (by decide)) (mg.Cd (QV ai m) (.cons (vh _ (by decide)) (.cons (vh _ (by decide)) (mg.Cd (QV T m) (.cons (vh _ (by decide)) .nil))))))
  |lock s aU _ h aC=>exact Us (.cons (Hg _ (by decide)) (.cons (.name _ _ h) .nil)) (sub aC _) .nil
  |cond a aU bz _ ai aC aK=>exact Us (.cons (Hg _ (by decide)) (.cons (vh _ (by decide)) (mg.Cd (QV ai m) (.cons (vh _ (by decide)) .nil)))) (sub aC _) (sub aK _)
  |rW n aU _ hn aC=>exact Us (.cons (Hg _ (by decide)) (.cons (.num _ _ (by omega)) .nil)) (sub aC _) .nil
  |halt=>exact .cons (Hg _ (by decide)) (.cons (vh _ (by decide)) .nil)
theorem as8{p:gS}(hp:mT p=true):mg (Et p):=by
 obtain⟨cp,S,ae,aB⟩:=UQ hp;have KJ:∀(bG:List Nm),(∀ d∈bG,jO d=true)→∀ m,mg (xO m bG):=by
  intro bG;induction bG with
  |nil=>intro _ m;exact .nil
  |cons d r ih =>
   intro h m;have:=h d (by simp);simp only[jO,Bool.and_eq_true,decide_eq_true_eq]at this;exact mg.Cd (.cons (Hg _ (by decide)) (.cons (.name _ _ this.1) (.cons (Hg _ (akE _ this.2)) .nil))) (ih (fun x af=>h x (by simp[af])) _)
 have YK:∀(bG:List Nm),(∀ d∈bG,jY d=true)→∀ m,mg (v7 m bG):=by
  intro bG;induction bG with
  |nil=>intro _ m;exact .nil
  |cons d r ih =>
   intro h m;have:=h d (by simp);simp only[jY,Bool.and_eq_true,decide_eq_true_eq]at this;exact mg.Cd (.cons (Hg _ (by decide)) (.cons (.name _ _ this.1) (.cons (.num _ _ (by omega)) .nil))) (ih (fun x af=>h x (by simp[af])) _)
 have amX:∀(bG:List dO),(∀ d∈bG,js d=true)→∀ m,mg (nX m bG):=by
  intro bG;induction bG with
  |nil=>intro _ m;exact .nil
  |cons d r ih =>
   intro h m;obtain⟨cd,cS,tu,Ec,acc⟩:=agX (h d (by simp));refine mg.Cd (mg.Cd ?_ (mg.Cd (XY (m:=0) (fun s ak m=>ahJ 30 s (acc s ak) m) _) (.cons (vh _ (by decide)) .nil))) (ih (fun x af=>h x (by simp[af])) _);unfold Gc;cases d.ga with
   |true=>exact .cons (Hg _ (by decide)) (.cons (.name _ _ cd) (.cons (.num _ _ (by omega)) (.cons (.num _ _ (by omega)) (.cons (.num _ _ (by omega)) (.cons (vh _ (by decide)) .nil)))))
   |false=>exact .cons (Hg _ (by decide)) (.cons (.name _ _ cd) (.cons (.num _ _ (by omega)) (.cons (.num _ _ (by omega)) (.cons (vh _ (by decide)) .nil))))
 exact .cons (Hg _ (by decide)) (.cons (.num _ _ (by omega)) (mg.Cd (KJ _ S _) (mg.Cd (YK _ ae _) (amX _ aB _))))
theorem as9{p:gS}(A:mT p=true)(ag:(lZ p).length≤20000):(Et p).length≤20000:=by
 obtain⟨cp,S,ae,aB⟩:=UQ A;have ak:=apZ (p:=p) (by omega) S ae aB;have ck:=MC ((lZ p).length+1) (skip false (lZ p) 1).1 (skip false (lZ p) 1).2;have cm:=sL false (lZ p) 1;unfold dc at ak;rw[ak]at ck;simp only at ck;omega
end Go.Eng.Sy
