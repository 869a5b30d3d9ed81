/-
  Part of a proof of the laws of layer 07 (reader): what each function does.
  Conditions: none.
-/
import Derived.Test.YtjbjpooafphpnaaGreatDoorBc
set_option linter.unusedSimpArgs false
set_option linter.unusedVariables false
namespace Go.Eng
open Go
abbrev Row:=Value × Nat × List (ar)
def xJ(v w:Value):Prop:=∀ id n s,v=.slice (some ⟨id,0,none⟩) n s→da w id
structure Rows(n:Nat)(h:J)(l:List Row):Prop where
 own:∀ r∈l,cL (km n) h r.2.1 r.1 r.2.2
 sep:l.Pairwise fun a b=>xJ a.1 b.1∧xJ b.1 a.1
theorem cL.EW{n:Nat}{h:J}{s:Nat}{v:Value}{xs:List (ar)}(ai:cL (km n) h s v xs):∀ id m t,v=.slice (some ⟨id,0,none⟩) m t→n≤id∧(h.get id).isSome=true:=fun id m t e=>by
 rcases ai with⟨rfl,_⟩|⟨pw,rfl,A,aA,_⟩
 ·cases e
 ·cases e;exact⟨A,by rw[aA];rfl⟩
theorem cL.Uk{n:Nat}{h:J}{s:Nat}{v:Value}{xs:List (ar)}(ai:cL (km n) h s v xs){i:Nat}(au:h.next≤i):Go.Eng.da v i:=fun m t e=>by
 obtain⟨_,S⟩:=ai.EW i m t e;obtain⟨o,ah⟩:=r1.1 S;have:=J.bY ah;omega
theorem Rows.bP{n:Nat}{h D:J}{l:List Row}(aN:Rows n h l)(ab:∀ i,n≤i→(h.get i).isSome=true→D.get i=h.get i):Rows n D l :=
 ⟨fun r hr=>(aN.own r hr).get fun id ad ak=>ab id ((aN.own r hr).EW id _ _ ad).1 ak,aN.sep⟩
theorem Rows.push{n:Nat}{h:J}{l1 l2:List Row}{v:Value}{s:Nat}{xs:List (ar)}(aN:Rows n h (l1++(v,s,xs)::l2))(hn:n≤h.next){x:ar}(af:x.length=s)(ak:0<s){b:Nat}(T:(xs.length+1)*b≤140737488355328)(dx:xs.length+1≤9223372036854775807) :
  ∃ v' D,o1 s b (h.alloc (.aq x true)) [v,.slice (some ⟨h.next,0,none⟩) 1 s]=some (v',D)∧Rows n D (l1++(v',s,xs++[x])::l2)∧(∀ i,(h.get i).isSome=true→da v i→D.get i=h.get i)∧(∀ i,(h.get i).isSome=true→da v' i)∧h.next≤D.next:=by
 have ad:=aN.own (v,s,xs) (by simp);obtain⟨v',D,qr,ah,_,ck,cm,jU⟩:=ad.yh (AB hn) af ak T dx;have Bn:=List.pairwise_append.1 aN.sep;have ZR:=List.pairwise_cons.1 Bn.2.1;have bP:∀ r,r∈l1∨r∈l2→cL (km n) D r.2.1 r.1 r.2.2:=fun r hr=>by
  have mK:r∈l1++(v,s,xs)::l2:=by rcases hr with hr|hr<;>simp[hr]
  have G2:xJ r.1 v:=by
   rcases hr with hr|hr
   ·exact(Bn.2.2 r hr (v,s,xs) (by simp)).1
   ·exact(ZR.1 r hr).2
  exact(aN.own r mK).get fun id fD e5=>ck id e5 (G2 id _ _ fD)
 have EP:∀ r,r∈l1∨r∈l2→xJ r.1 v'∧xJ v' r.1:=fun r hr=>by
  have mK:r∈l1++(v,s,xs)::l2:=by rcases hr with hr|hr<;>simp[hr]
  have A:xJ r.1 v':=fun id m t e=>cm id ((aN.own r mK).EW id m t e).2;refine⟨A,fun id m t e m' mV cA=>?_⟩;exact A id m' mV cA m t e
 refine⟨v',D,qr,⟨fun r hr=>?_,?_⟩,ck,cm,jU⟩
 ·rcases Aa.1 hr with hr|hr
  ·exact bP r (.inl hr)
  ·rcases oj.1 hr with rfl|hr
   ·exact ah
   ·exact bP r (.inr hr)
 ·refine List.pairwise_append.2 ⟨Bn.1,List.pairwise_cons.2 ⟨fun r hr=>?_,ZR.2⟩,fun a ai b T=>?_⟩
  ·have:=EP r (.inr hr);exact⟨this.2,this.1⟩
  ·rcases oj.1 T with rfl|T
   ·exact EP a (.inl ai)
   ·exact Bn.2.2 a ai b (by simp[T])
theorem Rows.da{n:Nat}{h:J}{l:List Row}(aN:Rows n h l){r:Row}(hr:r∈l){i:Nat}(au:i<n∨h.next≤i):Go.Eng.da r.1 i:=by
 rcases au with au|au
 ·exact cL.da (aN.own r hr) au
 ·exact cL.Uk (aN.own r hr) au
end Go.Eng
namespace Go.Eng.Sy
open Go Go.Eng Go.Proofs
theorem cL.e6{n:Nat}{h:J}{s:Nat}{v:Value}{xs:List (ar)}(ai:cL (km n) h s v xs):gN v:=(cL.oY ai).e6
def kD:List (aD):=[[100],[101],[102]]
def kT:List (aD):=[[114,97],[114,98]]
def Ev:List (aD):=[[116,97],[116,98],[116,99]]
def Dp:List (aD):=[[104,97],[104,98],[104,99]]
def fW(kt:List (aD))(m:Nat):Nat→Nat→List Int→List Nm × List Int
 |0,_,s=>([],s)
 |k+1,j,s=>(⟨kt.getD j [],(1+(bf s m).1:Nat)⟩::(fW kt m k (j+1) (bf s m).2).1,(fW kt m k (j+1) (bf s m).2).2)
def kW(c:fk):Nat→Nat→List Int→List dO × List Int
 |0,_,s=>([],s)
 |k+1,j,s =>
  let n:=bf s 3;let b:=ow 3 c n.2
  (⟨Ev.getD j [],false,j,(1+n.1:Nat),0,b.1⟩::(kW c k (j+1) b.2).1,(kW c k (j+1) b.2).2)
def k9(c:fk)(bS:Nat):Nat→Nat→List Int→List dO × List Int
 |0,_,s=>([],s)
 |k+1,j,s =>
  let a:=bf s bS;let n:=bf a.2 4;let l:=bf n.2 2;let b:=ow 2 c l.2
  (⟨Dp.getD j [],true,a.1,(4+n.1:Nat),(j+l.1*4:Nat),b.1⟩::(k9 c bS k (j+1) b.2).1,(k9 c bS k (j+1) b.2).2)
theorem Uh(kt:List (aD))(m:Nat):∀(k j:Nat) (s:List Int),fW kt m (k+1) j s=((fW kt m k j s).1++[⟨kt.getD (j+k) [],(1+(bf (fW kt m k j s).2 m).1:Nat)⟩],(bf (fW kt m k j s).2 m).2)
 |0,j,s=>rfl
 |k+1,j,s=>by
  have:=Uh kt m k (j+1) (bf s m).2;rw[fW,this,show j+1+k=j+(k+1) by omega];rfl
theorem ae9(c:fk):∀(k j:Nat) (s:List Int),kW c (k+1) j s=((kW c k j s).1++[⟨Ev.getD (j+k) [],false,(j+k:Nat),(1+(bf (kW c k j s).2 3).1:Nat),0,(ow 3 c (bf (kW c k j s).2 3).2).1⟩],(ow 3 c (bf (kW c k j s).2 3).2).2)
 |0,j,s=>rfl
 |k+1,j,s=>by
  have:=ae9 c k (j+1) (ow 3 c (bf s 3).2).2;rw[kW];simp only[this,show j+1+k=j+(k+1) by omega];rfl
theorem Zx(c:fk)(H:Nat):∀(k j:Nat) (s:List Int),k9 c H (k+1) j s =
  (
   let a:=bf (k9 c H k j s).2 H;let n:=bf a.2 4;let l:=bf n.2 2;let b:=ow 2 c l.2
   ((k9 c H k j s).1++[⟨Dp.getD (j+k) [],true,a.1,(4+n.1:Nat),(j+k+l.1*4:Nat),b.1⟩],b.2))
 |0,j,s=>rfl
 |k+1,j,s=>by
  have:=Zx c H k (j+1) (ow 2 c (bf (bf (bf s H).2 4).2 2).2).2;rw[k9];simp only[this,show j+1+k=j+(k+1) by omega];rfl
theorem q4(kt:List (aD))(m:Nat):∀(k j:Nat) (s:List Int),(fW kt m k j s).1.length=k
 |0,_,_=>rfl
 |k+1,j,s=>by simp[fW,q4 kt m k]
theorem MU(c:fk):∀(k j:Nat) (s:List Int),(kW c k j s).1.length=k
 |0,_,_=>rfl
 |k+1,j,s=>by simp[kW,MU c k]
theorem GG(c:fk)(H:Nat):∀(k j:Nat) (s:List Int),(k9 c H k j s).1.length=k
 |0,_,_=>rfl
 |k+1,j,s=>by simp[k9,GG c H k]
def Ea(raw:List Int)(all:Bool):gS :=
 let sK:=raw.take 400;let a:=bf sK 3;let bI:=bf a.2 3;let bG:=fW kD 3 (bI.1+1) 0 bI.2;let iI:=bf bG.2 3;let b3:=fW kT 8 iI.1 0 iI.2;let c:fk:=⟨bG.1.map (·.name),b3.1.map (·.name),0,[],all⟩;let ts:=kW c (1+a.1) 0 b3.2;let q3:=bf ts.2 4;let ak:=k9 c (1+a.1) q3.1 0 q3.2
 ⟨(1+a.1:Nat),bG.1,b3.1,ts.1++ak.1⟩
def tF(B:Nat→Prop)(h:J)(t:dO)(x:ar):Prop:=∃ v,x=[str t.name,.bool t.ga,I t.cB,I t.prio,I t.line,v]∧dN B h v t.body
def gp(B:Nat→Prop)(h:J):List dO→List (ar)→Prop
 |[],xs=>xs=[]
 |e::r,xs=>∃ x fJ,xs=x::fJ∧tF B h e x∧gp B h r fJ
theorem tF.to{B B':Nat→Prop}{h D:J}(ab:J.cg B B' h D){t:dO}{x:ar}(af:tF B h t x):tF B' D t x:=let ⟨v,a,b⟩:=af;⟨v,a,b.to ab⟩
theorem gp.to{B B':Nat→Prop}{h D:J}(ab:J.cg B B' h D):∀ {l:List dO}{xs:List (ar)},gp B h l xs→gp B' D l xs
 |[],_,af=>af
 |_::_,_,⟨x,fJ,A,S,ae⟩=>⟨x,fJ,A,S.to ab,gp.to ab ae⟩
theorem gp.length{B:Nat→Prop}{h:J}:∀ {l:List dO}{xs:List (ar)},gp B h l xs→xs.length=l.length
 |[],_,af=>by rw[show _=[] from af];rfl
 |_::_,_,⟨x,fJ,A,S,ae⟩=>by rw[A];simp[gp.length ae]
theorem gp.snoc{B:Nat→Prop}{h:J}{e:dO}{x:ar}(af:tF B h e x):∀ {l:List dO}{xs:List (ar)},gp B h l xs→gp B h (l++[e]) (xs++[x])
 |[],_,h0=>by rw[show _=[] from h0];exact⟨x,[],rfl,af,rfl⟩
 |_::_,_,⟨y,Aj,A,S,ae⟩=>by rw[A];exact⟨y,Aj++[x],rfl,S,gp.snoc af ae⟩
theorem gp.plain{B:Nat→Prop}{h:J}:∀ {l:List dO}{xs:List (ar)},gp B h l xs→oB h l xs
 |[],_,af=>af
 |_::_,_,⟨x,fJ,A,⟨v,S,aB⟩,ae⟩=>⟨x,fJ,A,⟨v,S,aB.plain⟩,gp.plain ae⟩
def fK(n:Nat)(vs:ar)(id:Nat):Prop:=n≤id∧∀ v∈vs,da v id
abbrev eT(d:Nm):ar:=[str d.name,I d.n]
structure l6(n p cR cc cj:Nat)(all:Bool)(h:J)(bS:Nat)(cw:List Nm)(dn:List (aD))(cY:List Nm)(rn:List (aD))(db:List dO)(raw:List Int):Prop where
 src:Src h p raw
 cR:h.get cR=some (.aq [I 0,aJ,aJ,aJ] true)
 rows:∃ dv eM rv e3 ca xs,h.get cc=some (.aq [I (bS:Int),dv,rv,ca] true)∧h.get cj=some (.aq [eM,e3,I 0,aJ,.bool all] true) ∧
  Rows n h [(dv,2,cw.map eT),(eM,1,dn.map fun s=>[str s]),(rv,2,cY.map eT),(e3,1,rn.map fun s=>[str s]),(ca,6,xs)]∧gp (fK n [dv,eM,rv,e3,ca]) h db xs
def Cu(n p cR cc cj:Nat):Prop:=p<cc∧p<cj∧p<n∧cR<p∧cc<cj∧cj<n∧cc<n
structure nd(n p cc cj:Nat)(h D:J):Prop where
 bP:∀ i,i<n→i≠p→i≠cc→i≠cj→(h.get i).isSome=true→D.get i=h.get i
 next:h.next≤D.next
theorem nd.refl(n p cc cj:Nat)(h:J):nd n p cc cj h h:=⟨fun _ _ _ _ _ _=>rfl,br _⟩
theorem nd.trans{n p cc cj:Nat}{a b c:J}(A:nd n p cc cj a b)(S:nd n p cc cj b c):nd n p cc cj a c :=
 ⟨fun i dP a2 a3 a4 ak=>by rw[S.bP i dP a2 a3 a4 (by rw[A.bP i dP a2 a3 a4 ak];exact ak),A.bP i dP a2 a3 a4 ak],rI A.next S.next⟩
theorem W2(m:aD)(k:Int):gQ [aI,I 0] [(0,1),(1,1)] [str m,I k]=some (ks m k):=rfl
theorem iw.elem{B:Nat→Prop}{h:J}{v:Value}{l:List (aD)}(ad:iw B h v l){i:Nat}{s:aD}(au:l[i]?=some s) :
  ∃ id off cells own,oU 1 [v,I i]=some (aH id off)∧h.get id=some (.aq cells own)∧cells[off]?=some (str s)∧B id:=by
 have hp:=iw.plain ad;obtain⟨id,off,cells,own,az,aL,bq,_⟩:=hp.elem au;refine⟨id,off,cells,own,az,aL,bq,?_⟩;rcases ad with⟨rfl,af⟩|⟨pw,eW,rfl,af⟩
 ·cases l with
  |nil=>simp at au
  |cons=>simp at af
 ·rcases af with af|⟨T,_⟩
  ·cases l with
   |nil=>simp at au
   |cons=>simp at af
  ·have aV:=(j2.1 au).1;have:id=pw:=by
    simp[oU,aV]at az;exact az.1.symm
   rw[this];exact T
theorem gN.cell{v:Value}(h:gN v):v.cells.toList=[v]∧v.oneCell'=true:=by obtain⟨_,_,_,rfl⟩:=h;exact⟨rfl,rfl⟩
theorem Rows.e6{n:Nat}{h:J}{l1 l2:List Row}{v:Value}{s:Nat}{xs:List (ar)}(aN:Rows n h (l1++(v,s,xs)::l2)):gN v:=cL.e6 (aN.own (v,s,xs) (by simp))
theorem Src.low{h D:J}{p:Nat}{raw:List Int}(ak:Src h p raw)(ab:∀ i,i≤p→(h.get i).isSome=true→D.get i=h.get i):Src D p raw:=by
 obtain⟨v,A,S,ae⟩:=ak;exact⟨v,by rw[ab p (br _) (by rw[A];rfl)];exact A,dH.to (fun id cs own T aA=>⟨T,by rw[ab id (Nat.le_of_lt T) (by rw[aA];rfl)];exact aA⟩) S,ae⟩
theorem ah8:∀ j:Fin 3,(kD.getD j.val []).length≤20:=by decide
theorem apA:∀ j:Fin 2,(kT.getD j.val []).length≤20:=by decide
theorem I6(m:aD)(k:Int):ie [aI,I 0] [(0,2)] 1 2 [ks m k]=some ([str m,I k],fun id=>.slice (some ⟨id,0,none⟩) 1 2):=uT rfl rfl rfl rfl
set_option maxHeartbeats 1000000 in
theorem aoB{n p cR cc cj:Nat}{all:Bool}{bS:Nat}(hd:Cu n p cR cc cj){aM:J}(hn:n≤aM.next){cw cY:List Nm}{dn rn:List (aD)}{db:List dO}{raw:List Int}(ll:l6 n p cR cc cj all aM bS cw dn cY rn db raw)(h0:cw=[])(KT:dn=[]){k:Nat}(ab:k+0≤3){N:Nat}{vars:List Nat}{rc u6 u7 u8 gL ju mX kj:Value}(R:dM→ar→J→Prop)
  (L:∀ D u6 u7 u8 gL,l6 n p cR cc cj all D bS (fW kD 3 k 0 raw).1 ((fW kD 3 k 0 raw).1.map (·.name)) cY rn db (fW kD 3 k 0 raw).2→nd n p cc cj aM D→R (.exit 0) [rc,.bool all,aH cR 0,aH p 0,aH cc 0,aH cj 0,u6,u7,u8,gL,ju,mX,kj] D) :
  ch Tryz.prog N vars OZ [rc,.bool all,aH cR 0,aH p 0,aH cc 0,aH cj 0,I ((k:Int)-1),u7,u8,gL,ju,mX,kj] aM R:=by
 subst h0;subst KT;refine ch.down (fun m e A=>∃ j u6 u7 u8 gL,j+m=k∧e=[rc,.bool all,aH cR 0,aH p 0,aH cc 0,aH cj 0,I ((m:Int)-1),u7,u8,gL,ju,mX,kj]∧l6 n p cR cc cj all A bS (fW kD 3 j 0 raw).1 ((fW kD 3 j 0 raw).1.map (·.name)) cY rn db (fW kD 3 j 0 raw).2∧nd n p cc cj aM A) ?_ (m:=k) ⟨0,b0,_,_,_,by omega,rfl,ll,.refl _ _ _ _ _⟩;clear ll;rintro m _ A Nh ⟨j,u6,u7,u8,gL,bn,rfl,ll,bg⟩ aN;obtain⟨ak,kH,dv,eM,rv,e3,ca,xs,ep,oG,nK,ig⟩:=ll;have h6:=rI hn bg.next;delta OZ;replace ak:=U ak;replace nK:=U nK;replace ig:=U ig;replace bg:=U bg;replace bn:=U bn;replace hd:=U hd;replace h6:=U h6;replace L:=U L;replace ab:=U ab;cases m with
 |zero =>
  have z:¬(0:Int)≤((0:Nat):Int)-1:=by decide
  have A9:j=k:=by have:=bn.h;omega
  subst A9;have g:=fun a b c d=>L.h A a b c d ⟨ak.h,kH,dv,eM,rv,e3,ca,xs,ep,oG,nK.h,ig.h⟩ bg.h;replace g:=Hid.mk g;clear aN L kH ep oG;simp only[aa,av,ay, *];exact g.h _ _ _ _
 |succ m =>
  have z:(0:Int)≤((m+1:Nat):Int)-1:=by omega
  have ax:IntKind.i64.wrap ((((m+1:Nat):Int)-1)-1)=(m:Int)-1:=by have:=bn.h;have:=ab.h;rw[cZ (by omega) (by omega)];omega
  obtain⟨d1,d2,d3,d4,d5,d6,d7⟩:=hd.h;simp only[aa,av,ay, *];refine jr (n:=3) ak.h (by omega) (by omega) _ fun S l2 _ e5=>jt l2 ?_;have ps:∀ i,n≤i→i≠p:=fun i au=>by omega
  have dV:=l2.bP (i:=cc) (by omega) ep;have yR:=l2.bP (i:=cj) (by omega) oG;have qJ:=nK.h.bP fun i au dj=>l2.get i (ps i au) dj;have AY:gp (fK n [dv,eM,rv,e3,ca]) S db xs:=ig.h.to (l2.cg fun id T=>⟨ps id T.1,T⟩);have k8:n≤S.next:=by have:=l2.next;have:=h6.h;omega
  have aV:=nq ak.h.in (n:=3) (by omega);obtain⟨fE,lS⟩:∃ a,(bf (fW kD 3 j 0 raw).2 3).1=a:=⟨_,rfl⟩;rw[lS]at aV;rw[lS];have S8:IntKind.i64.wrap (1+(fE:Int))=((1+fE:Nat):Int):=by rw[cZ (by omega) (by omega)];omega
  have fi:=ym [100] [101] [102];obtain⟨tu,ae,yJ,jA,hT,dq⟩:=b9 S [str [100],str [101],str [102]];have qV:=B9 (B:=(· ≠ p)) S kD (by have:=e5.lt;show S.next≠p;omega) (n:=3) (cells:=[str [100],str [101],str [102]]) rfl rfl;rw[jA,yJ]at qV;have hz:=dq.get dV;have yS:=dq.get yR;have s6:=qJ.bP fun i au dj=>dq.pf i dj;have yY:gp (fK n [dv,eM,rv,e3,ca]) ae db xs:=AY.to (dq.cg fun id T=>T);have ud:j<3:=by have:=bn.h;have:=ab.h;omega
  obtain⟨sA,off,cells,own,az,aL,bq,uc⟩:=iw.elem qV (getD_some (l:=kD) (i:=j) ud []);obtain⟨nm,lT⟩:∃ a,kD.getD j []=a:=⟨_,rfl⟩;rw[lT]at bq;have ajy:nm.length≤20:=by rw[← lT];exact ah8 ⟨j,ud⟩
  have akM:pD [dv]=some (I (j:Int)):=by
   have:=cT.len (cL.vW (s6.own (dv,2,(fW kD 3 j 0 raw).1.map eT) (by simp)));simpa[q4] using this
  have iu:=MP ae nm ((1+fE:Nat):Int);have I3:=W2 nm ((1+fE:Nat):Int);obtain⟨xE,aB,Ra,nI,FL,eO⟩:=b9 ae [str nm,I ((1+fE:Nat):Int)];rw[nI,Ra]at iu;have hf:=eO.get hz;have tQ:=eO.get yS;have qK:=s6.bP fun i au dj=>eO.pf i dj;have pi:gp (fK n [dv,eM,rv,e3,ca]) aB db xs:=yY.to (eO.cg fun id T=>T);have gY:n≤aB.next:=by have:=dq.next;have:=eO.next;omega
  obtain⟨fR,aG,afo,ph,dG,p9,HR⟩:=Rows.push (l1:=[]) (l2:=_) qK gY (x:=[str nm,I ((1+fE:Nat):Int)]) rfl (by omega) (b:=24) (by simp[q4];have:=bn.h;have:=ab.h;omega) (by simp[q4];have:=bn.h;have:=ab.h;omega);have ux:∀ i,i<n→i≠p→(A.get i).isSome=true→aB.get i=A.get i:=fun i _ au dj=>by
   have az:=l2.get i au dj;have aL:(S.get i).isSome=true:=by rw[az];exact dj
   have bq:=dq.pf i aL;rw[eO.pf i (by rw[bq];exact aL),bq,az]
  have uC:∀ i,i<n→da dv i:=fun i au=>qK.da (r:=(dv,2,(fW kD 3 j 0 raw).1.map eT)) (by simp) (.inl au);have h4:aG.get cc=_:=(dG cc (by rw[hf];rfl) (uC cc d7)).trans hf;have Fr:aG.get cj=_:=(dG cj (by rw[tQ];rfl) (uC cj d6)).trans tQ;have Rm:aG.get xE=_:=(dG xE (by rw[FL];rfl) (s6.da (r:=(dv,2,(fW kD 3 j 0 raw).1.map eT)) (by simp) (.inr (by omega)))).trans FL;have eB:=(e5.le dq).le eO;have ds:=eB.low fun i au dj=>dG i dj (uC i (by omega));have F2:gp (fK n [fR,eM,rv,e3,ca]) aG db xs:=pi.to fun id cs own T aA=>⟨⟨T.1,fun v ad=>by
   have af:=p9 id (by rw[aA];rfl);have bw:=T.2;simp only[oj,BR,or_false]at ad bw;rcases ad with rfl|rfl|rfl|rfl|rfl<;>first|exact af|exact bw _ (by simp)⟩,by
   rw[dG id (by rw[aA];rfl) (T.2 _ (by simp))];exact aA⟩
  obtain⟨At,Au⟩:=(Rows.e6 (l1:=[]) ph).cell;have vY:=iU (off:=1) h4 (by simp) At Au;obtain⟨a1,iV⟩:∃ nx,aG.set cc (.aq ([I (bS:Int),dv,rv,ca].set 1 fR) true)=nx:=⟨_,rfl⟩;rw[iV]at vY;have pH:∀ i,i≠cc→a1.get i=aG.get i:=fun i au=>by rw[← iV];exact J.dT _ _ _ _ (by simpa using au)
  have nj:a1.get cc=some (.aq ([I (bS:Int),dv,rv,ca].set 1 fR) true):=by rw[← iV];exact J.gz _ _ _ (by rw[h4];rfl)
  have AK:=(pH cj (by omega)).trans Fr;have ajL:n≤xE:=by have:=dq.next;omega
  have ai8:=(pH xE (by omega)).trans Rm;have cC:=ds.low fun i au _=>pH i (by omega);have vc:=ph.bP fun i au _=>pH i (by omega);have yZ:gp (fK n [fR,eM,rv,e3,ca]) a1 db xs:=F2.to fun id cs own T aA=>⟨T,by rw[pH id (by have:=T.1;omega)];exact aA⟩;have h7:n≤a1.next:=by rw[← iV];show n≤aG.next;omega
  have Ae:=I6 nm ((1+fE:Nat):Int);have aqY:=uW nm;obtain⟨eX,bN,afp,AW,iF,rO,D4⟩:=Rows.push (l1:=[(fR,2,_)]) (l2:=_) vc h7 (x:=[str nm]) rfl (by omega) (b:=16) (by simp[q4];have:=bn.h;have:=ab.h;omega) (by simp[q4];have:=bn.h;have:=ab.h;omega);have uD:∀ i,i<n→da eM i:=fun i au=>vc.da (r:=(eM,1,((fW kD 3 j 0 raw).1.map (·.name)).map fun s=>[str s])) (by simp) (.inl au);have FH:=(iF cc (by rw[nj];rfl) (uD cc d7)).trans nj;have va:=(iF cj (by rw[AK];rfl) (uD cj d6)).trans AK;have di:=cC.low fun i au dj=>iF i dj (uD i (by omega));have F3:gp (fK n [fR,eX,rv,e3,ca]) bN db xs:=yZ.to fun id cs own T aA=>⟨⟨T.1,fun v ad=>by
   have af:=rO id (by rw[aA];rfl);have bw:=T.2;simp only[oj,BR,or_false]at ad bw;rcases ad with rfl|rfl|rfl|rfl|rfl<;>first|exact af|exact bw _ (by simp)⟩,by
   rw[iF id (by rw[aA];rfl) (T.2 _ (by simp))];exact aA⟩
  obtain⟨QK,QL⟩:=(Rows.e6 (l1:=[(fR,2,_)]) AW).cell;have tw:=iU (off:=0) va (by simp) QK QL;obtain⟨b7,qE⟩:∃ nx,bN.set cj (.aq ([eM,e3,I 0,aJ,.bool all].set 0 eX) true)=nx:=⟨_,rfl⟩;rw[qE]at tw;have sM:∀ i,i≠cj→b7.get i=bN.get i:=fun i au=>by rw[← qE];exact J.dT _ _ _ _ (by simpa using au)
  have AL:b7.get cj=some (.aq ([eM,e3,I 0,aJ,.bool all].set 0 eX) true):=by rw[← qE];exact J.gz _ _ _ (by rw[va];rfl)
  have yU:=(sM cc (by omega)).trans FH;have hW:=di.low fun i au _=>sM i (by omega);have FZ:=AW.bP fun i au _=>sM i (by omega);have F4:gp (fK n [fR,eX,rv,e3,ca]) b7 db xs:=F3.to fun id cs own T aA=>⟨T,by rw[sM id (by have:=T.1;omega)];exact aA⟩;have BL:nd n p cc cj A b7:=⟨fun i au a b c dj=>by
   have cV:=ux i au a dj;have kU:(aB.get i).isSome=true:=by rw[cV];exact dj
   have h2:=dG i kU (uC i au);have hH:=(pH i b).trans h2;have UU:(a1.get i).isSome=true:=by rw[hH];exact kU
   rw[sM i c,iF i UU (uD i au),hH,cV],by
   rw[← qE];show A.next≤bN.next;have hH:a1.next=aG.next:=by rw[← iV];rfl
   have:=l2.next;have:=dq.next;have:=eO.next;omega⟩
  have FJ:=(BL.bP cR (by omega) (by omega) (by omega) (by omega) (by rw[kH];rfl)).trans kH;have nN:=Uh kD 3 j 0 raw;rw[zS,lT,lS]at nN;have sj:l6 n p cR cc cj all b7 bS (fW kD 3 (j+1) 0 raw).1 ((fW kD 3 (j+1) 0 raw).1.map (·.name)) cY rn db (fW kD 3 (j+1) 0 raw).2:=by
   rw[nN];simp only[Ir,Fx,List.map_nil];exact⟨hW,FJ,fR,eX,rv,e3,ca,xs,yU,AL,by simpa using FZ,F4⟩
  have si:=bg.h.trans BL;have Q1:(cc==p)=false:=by simp;omega
  have Q3:(sA==p)=false:=by have A:sA≠p:=uc;simpa using A
  clear uc;have aoq:gI true 0 2 [str nm,I ((1+fE:Nat):Int)]=some (ks nm ((1+fE:Nat):Int)):=rfl;clear BL ux F4 FZ hW F3 AW di yZ vc cC F2 ph ds eB pi qK yY s6 AY qJ e5 l2 dq eO uC uD dG iF p9 rO pH sM nN qV ps iV qE yU AL FJ lT lS;replace sj:=U sj;replace si:=U si;simp only[aa,aw,bh,av,ay, *];exact aN.h m _ _ (by omega) ⟨j+1,b0,_,_,_,by have:=bn.h;omega,rfl,sj.h,si.h⟩
set_option maxHeartbeats 1000000 in
theorem aoE{n p cR cc cj:Nat}{all:Bool}{bS:Nat}(hd:Cu n p cR cc cj){aM:J}(hn:n≤aM.next){cw cY:List Nm}{dn rn:List (aD)}{db:List dO}{raw:List Int}(ll:l6 n p cR cc cj all aM bS cw dn cY rn db raw)(h0:cY=[])(KT:rn=[]){k:Nat}(ab:k+0≤2){N:Nat}{vars:List Nat}{rc u6 u7 u8 gL ju mX kj:Value}(R:dM→ar→J→Prop)
  (L:∀ D u6 u7 u8 gL,l6 n p cR cc cj all D bS cw dn (fW kT 8 k 0 raw).1 ((fW kT 8 k 0 raw).1.map (·.name)) db (fW kT 8 k 0 raw).2→nd n p cc cj aM D→R (.exit 2) [rc,.bool all,aH cR 0,aH p 0,aH cc 0,aH cj 0,u6,u7,u8,gL,ju,mX,kj] D) :
  ch Tryz.prog N vars O0 [rc,.bool all,aH cR 0,aH p 0,aH cc 0,aH cj 0,u6,u7,I (k:Int),gL,ju,mX,kj] aM R:=by
 subst h0;subst KT;refine ch.down (fun m e A=>∃ j u6 u7 u8 gL,j+m=k∧e=[rc,.bool all,aH cR 0,aH p 0,aH cc 0,aH cj 0,u6,u7,I (m:Int),gL,ju,mX,kj]∧l6 n p cR cc cj all A bS cw dn (fW kT 8 j 0 raw).1 ((fW kT 8 j 0 raw).1.map (·.name)) db (fW kT 8 j 0 raw).2∧nd n p cc cj aM A) ?_ (m:=k) ⟨0,_,_,b0,_,by omega,rfl,ll,.refl _ _ _ _ _⟩;clear ll;rintro m _ A Nh ⟨j,u6,u7,u8,gL,bn,rfl,ll,bg⟩ aN;obtain⟨ak,kH,dv,eM,rv,e3,ca,xs,ep,oG,nK,ig⟩:=ll;have h6:=rI hn bg.next;delta O0;replace ak:=U ak;replace nK:=U nK;replace ig:=U ig;replace bg:=U bg;replace bn:=U bn;replace hd:=U hd;replace h6:=U h6;replace L:=U L;replace ab:=U ab;cases m with
 |zero =>
  have z:¬(0:Int)<((0:Nat):Int):=by decide
  have A9:j=k:=by have:=bn.h;omega
  subst A9;have g:=fun a b c d=>L.h A a b c d ⟨ak.h,kH,dv,eM,rv,e3,ca,xs,ep,oG,nK.h,ig.h⟩ bg.h;replace g:=Hid.mk g;clear aN L kH ep oG;simp only[aa,av,ay, *];exact g.h _ _ _ _
 |succ m =>
  have z:(0:Int)<((m+1:Nat):Int):=by omega
  have ax:IntKind.i64.wrap (((m+1:Nat):Int)-1)=(m:Int):=by have:=bn.h;have:=ab.h;rw[cZ (by omega) (by omega)];omega
  obtain⟨d1,d2,d3,d4,d5,d6,d7⟩:=hd.h;simp only[aa,av,ay, *];refine jr (n:=8) ak.h (by omega) (by omega) _ fun S l2 _ e5=>jt l2 ?_;have ps:∀ i,n≤i→i≠p:=fun i au=>by omega
  have dV:=l2.bP (i:=cc) (by omega) ep;have yR:=l2.bP (i:=cj) (by omega) oG;have qJ:=nK.h.bP fun i au dj=>l2.get i (ps i au) dj;have AY:gp (fK n [dv,eM,rv,e3,ca]) S db xs:=ig.h.to (l2.cg fun id T=>⟨ps id T.1,T⟩);have k8:n≤S.next:=by have:=l2.next;have:=h6.h;omega
  have aV:=nq ak.h.in (n:=8) (by omega);obtain⟨fE,lS⟩:∃ a,(bf (fW kT 8 j 0 raw).2 8).1=a:=⟨_,rfl⟩;rw[lS]at aV;rw[lS];have S8:IntKind.i64.wrap (1+(fE:Int))=((1+fE:Nat):Int):=by rw[cZ (by omega) (by omega)];omega
  have fi:=NC [114,97] [114,98];obtain⟨tu,ae,yJ,jA,hT,dq⟩:=b9 S [str [114,97],str [114,98]];have qV:=B9 (B:=(· ≠ p)) S kT (by have:=e5.lt;show S.next≠p;omega) (n:=2) (cells:=[str [114,97],str [114,98]]) rfl rfl;rw[jA,yJ]at qV;have hz:=dq.get dV;have yS:=dq.get yR;have s6:=qJ.bP fun i au dj=>dq.pf i dj;have yY:gp (fK n [dv,eM,rv,e3,ca]) ae db xs:=AY.to (dq.cg fun id T=>T);have ud:j<2:=by have:=bn.h;have:=ab.h;omega
  obtain⟨sA,off,cells,own,az,aL,bq,uc⟩:=iw.elem qV (getD_some (l:=kT) (i:=j) ud []);obtain⟨nm,lT⟩:∃ a,kT.getD j []=a:=⟨_,rfl⟩;rw[lT]at bq;have ajy:nm.length≤20:=by rw[← lT];exact apA ⟨j,ud⟩
  have akM:pD [rv]=some (I (j:Int)):=by
   have:=cT.len (cL.vW (s6.own (rv,2,(fW kT 8 j 0 raw).1.map eT) (by simp)));simpa[q4] using this
  have iu:=MP ae nm ((1+fE:Nat):Int);have I3:=W2 nm ((1+fE:Nat):Int);obtain⟨xE,aB,Ra,nI,FL,eO⟩:=b9 ae [str nm,I ((1+fE:Nat):Int)];rw[nI,Ra]at iu;have hf:=eO.get hz;have tQ:=eO.get yS;have qK:=s6.bP fun i au dj=>eO.pf i dj;have pi:gp (fK n [dv,eM,rv,e3,ca]) aB db xs:=yY.to (eO.cg fun id T=>T);have gY:n≤aB.next:=by have:=dq.next;have:=eO.next;omega
  obtain⟨fR,aG,afo,ph,dG,p9,HR⟩:=Rows.push (l1:=[(dv,2,cw.map eT),(eM,1,dn.map fun s=>[str s])]) (l2:=_) qK gY (x:=[str nm,I ((1+fE:Nat):Int)]) rfl (by omega) (b:=24) (by simp[q4];have:=bn.h;have:=ab.h;omega) (by simp[q4];have:=bn.h;have:=ab.h;omega);have ux:∀ i,i<n→i≠p→(A.get i).isSome=true→aB.get i=A.get i:=fun i _ au dj=>by
   have az:=l2.get i au dj;have aL:(S.get i).isSome=true:=by rw[az];exact dj
   have bq:=dq.pf i aL;rw[eO.pf i (by rw[bq];exact aL),bq,az]
  have uC:∀ i,i<n→da rv i:=fun i au=>qK.da (r:=(rv,2,(fW kT 8 j 0 raw).1.map eT)) (by simp) (.inl au);have h4:aG.get cc=_:=(dG cc (by rw[hf];rfl) (uC cc d7)).trans hf;have Fr:aG.get cj=_:=(dG cj (by rw[tQ];rfl) (uC cj d6)).trans tQ;have Rm:aG.get xE=_:=(dG xE (by rw[FL];rfl) (s6.da (r:=(rv,2,(fW kT 8 j 0 raw).1.map eT)) (by simp) (.inr (by omega)))).trans FL;have eB:=(e5.le dq).le eO;have ds:=eB.low fun i au dj=>dG i dj (uC i (by omega));have F2:gp (fK n [dv,eM,fR,e3,ca]) aG db xs:=pi.to fun id cs own T aA=>⟨⟨T.1,fun v ad=>by
   have af:=p9 id (by rw[aA];rfl);have bw:=T.2;simp only[oj,BR,or_false]at ad bw;rcases ad with rfl|rfl|rfl|rfl|rfl<;>first|exact af|exact bw _ (by simp)⟩,by
   rw[dG id (by rw[aA];rfl) (T.2 _ (by simp))];exact aA⟩
  obtain⟨At,Au⟩:=(Rows.e6 (l1:=[(dv,2,cw.map eT),(eM,1,dn.map fun s=>[str s])]) ph).cell;have vY:=iU (off:=2) h4 (by simp) At Au;obtain⟨a1,iV⟩:∃ nx,aG.set cc (.aq ([I (bS:Int),dv,rv,ca].set 2 fR) true)=nx:=⟨_,rfl⟩;rw[iV]at vY;have pH:∀ i,i≠cc→a1.get i=aG.get i:=fun i au=>by rw[← iV];exact J.dT _ _ _ _ (by simpa using au)
  have nj:a1.get cc=some (.aq ([I (bS:Int),dv,rv,ca].set 2 fR) true):=by rw[← iV];exact J.gz _ _ _ (by rw[h4];rfl)
  have AK:=(pH cj (by omega)).trans Fr;have ajL:n≤xE:=by have:=dq.next;omega
  have ai8:=(pH xE (by omega)).trans Rm;have cC:=ds.low fun i au _=>pH i (by omega);have vc:=ph.bP fun i au _=>pH i (by omega);have yZ:gp (fK n [dv,eM,fR,e3,ca]) a1 db xs:=F2.to fun id cs own T aA=>⟨T,by rw[pH id (by have:=T.1;omega)];exact aA⟩;have h7:n≤a1.next:=by rw[← iV];show n≤aG.next;omega
  have Ae:=I6 nm ((1+fE:Nat):Int);have aqY:=uW nm;obtain⟨eX,bN,afp,AW,iF,rO,D4⟩:=Rows.push (l1:=[(dv,2,cw.map eT),(eM,1,dn.map fun s=>[str s]),(fR,2,_)]) (l2:=_) vc h7 (x:=[str nm]) rfl (by omega) (b:=16) (by simp[q4];have:=bn.h;have:=ab.h;omega) (by simp[q4];have:=bn.h;have:=ab.h;omega);have uD:∀ i,i<n→da e3 i:=fun i au=>vc.da (r:=(e3,1,((fW kT 8 j 0 raw).1.map (·.name)).map fun s=>[str s])) (by simp) (.inl au);have FH:=(iF cc (by rw[nj];rfl) (uD cc d7)).trans nj;have va:=(iF cj (by rw[AK];rfl) (uD cj d6)).trans AK;have di:=cC.low fun i au dj=>iF i dj (uD i (by omega));have F3:gp (fK n [dv,eM,fR,eX,ca]) bN db xs:=yZ.to fun id cs own T aA=>⟨⟨T.1,fun v ad=>by
   have af:=rO id (by rw[aA];rfl);have bw:=T.2;simp only[oj,BR,or_false]at ad bw;rcases ad with rfl|rfl|rfl|rfl|rfl<;>first|exact af|exact bw _ (by simp)⟩,by
   rw[iF id (by rw[aA];rfl) (T.2 _ (by simp))];exact aA⟩
  obtain⟨QK,QL⟩:=(Rows.e6 (l1:=[(dv,2,cw.map eT),(eM,1,dn.map fun s=>[str s]),(fR,2,_)]) AW).cell;have tw:=iU (off:=1) va (by simp) QK QL;obtain⟨b7,qE⟩:∃ nx,bN.set cj (.aq ([eM,e3,I 0,aJ,.bool all].set 1 eX) true)=nx:=⟨_,rfl⟩;rw[qE]at tw;have sM:∀ i,i≠cj→b7.get i=bN.get i:=fun i au=>by rw[← qE];exact J.dT _ _ _ _ (by simpa using au)
  have AL:b7.get cj=some (.aq ([eM,e3,I 0,aJ,.bool all].set 1 eX) true):=by rw[← qE];exact J.gz _ _ _ (by rw[va];rfl)
  have yU:=(sM cc (by omega)).trans FH;have hW:=di.low fun i au _=>sM i (by omega);have FZ:=AW.bP fun i au _=>sM i (by omega);have F4:gp (fK n [dv,eM,fR,eX,ca]) b7 db xs:=F3.to fun id cs own T aA=>⟨T,by rw[sM id (by have:=T.1;omega)];exact aA⟩;have BL:nd n p cc cj A b7:=⟨fun i au a b c dj=>by
   have cV:=ux i au a dj;have kU:(aB.get i).isSome=true:=by rw[cV];exact dj
   have h2:=dG i kU (uC i au);have hH:=(pH i b).trans h2;have UU:(a1.get i).isSome=true:=by rw[hH];exact kU
   rw[sM i c,iF i UU (uD i au),hH,cV],by
   rw[← qE];show A.next≤bN.next;have hH:a1.next=aG.next:=by rw[← iV];rfl
   have:=l2.next;have:=dq.next;have:=eO.next;omega⟩
  have FJ:=(BL.bP cR (by omega) (by omega) (by omega) (by omega) (by rw[kH];rfl)).trans kH;have nN:=Uh kT 8 j 0 raw;rw[zS,lT,lS]at nN;have sj:l6 n p cR cc cj all b7 bS cw dn (fW kT 8 (j+1) 0 raw).1 ((fW kT 8 (j+1) 0 raw).1.map (·.name)) db (fW kT 8 (j+1) 0 raw).2:=by
   rw[nN];simp only[Ir,Fx,List.map_nil];exact⟨hW,FJ,dv,eM,fR,eX,ca,xs,yU,AL,by simpa using FZ,F4⟩
  have si:=bg.h.trans BL;have Q1:(cc==p)=false:=by simp;omega
  have Q3:(sA==p)=false:=by have A:sA≠p:=uc;simpa using A
  clear uc;have aoq:gI true 0 2 [str nm,I ((1+fE:Nat):Int)]=some (ks nm ((1+fE:Nat):Int)):=rfl;clear BL ux F4 FZ hW F3 AW di yZ vc cC F2 ph ds eB pi qK yY s6 AY qJ e5 l2 dq eO uC uD dG iF p9 rO pH sM nN qV ps iV qE yU AL FJ lT lS;replace sj:=U sj;replace si:=U si;simp only[aa,aw,bh,av,ay, *];exact aN.h m _ _ (by omega) ⟨j+1,_,_,b0,_,by have:=bn.h;omega,rfl,sj.h,si.h⟩
theorem agf(m:aD)(a p:Int){v:Value}(ad:gN v):gQ [aI,.bool false,I 0,I 0,I 0,bx] [(0,1),(2,1),(3,1),(5,1)] [str m,I a,I p,v]=some (tz m false a p 0 v):=by
 obtain⟨_,_,_,rfl⟩:=ad;rfl
theorem agh(m:aD)(a p l:Int){v:Value}(ad:gN v):gQ [aI,.bool false,I 0,I 0,I 0,bx] [(0,1),(1,1),(2,1),(3,1),(4,1),(5,1)] [str m,.bool true,I a,I p,I l,v]=some (tz m true a p l v):=by
 obtain⟨_,_,_,rfl⟩:=ad;rfl
theorem WZ{m:aD}{b:Bool}{a p l:Int}{v:Value}(ad:gN v):ie [aI,.bool false,I 0,I 0,I 0,bx] [(0,6)] 1 6 [tz m b a p l v]=some ([str m,.bool b,I a,I p,I l,v],fun id=>.slice (some ⟨id,0,none⟩) 1 6):=by
 obtain⟨_,_,_,rfl⟩:=ad;exact uT rfl rfl rfl rfl
theorem adm{n p:Nat}(hp:p<n){h:J}{l:List Row}(aN:Rows n h l){dv rv:Value}{dn rn:List (aD)}(A:(dv,1,dn.map fun s=>[str s])∈l)(S:(rv,1,rn.map fun s=>[str s])∈l)(dJ:dn.length≤100)(kB:rn.length≤100)(all:Bool) :
  o6 p h ⟨dn,rn,0,[],all⟩ [dv,rv,I 0,aJ,.bool all] :=
 ⟨dv,rv,aJ,rfl,dH.to (J.jd fun id T=>by have A:n≤id:=T;show id≠p;omega) (cL.oY (aN.own _ A)),dH.to (J.jd fun id T=>by have A:n≤id:=T;show id≠p;omega) (cL.oY (aN.own _ S)),dH.nil _ _ _,dJ,kB,by simp,by simp⟩
set_option maxHeartbeats 1000000 in
theorem aoF{n p cR cc cj:Nat}{all:Bool}{bS:Nat}(hd:Cu n p cR cc cj){aM:J}(hn:n≤aM.next){cw cY:List Nm}{dn rn:List (aD)}(iy:dn.length≤100)(ni:rn.length≤100){raw:List Int}(ll:l6 n p cR cc cj all aM bS cw dn cY rn [] raw)(ab:bS≤3){N:Nat}{vars:List Nat}{rc u6 u7 u8 gL mX kj:Value}(R:dM→ar→J→Prop)
  (L:∀ D ju,l6 n p cR cc cj all D bS cw dn cY rn (kW ⟨dn,rn,0,[],all⟩ bS 0 raw).1 (kW ⟨dn,rn,0,[],all⟩ bS 0 raw).2→nd n p cc cj aM D→R (.exit 4) [rc,.bool all,aH cR 0,aH p 0,aH cc 0,aH cj 0,u6,u7,u8,gL,ju,mX,kj] D) :
  ch Tryz.prog N vars O1 [rc,.bool all,aH cR 0,aH p 0,aH cc 0,aH cj 0,u6,u7,u8,gL,I 0,mX,kj] aM R:=by
 refine ch.upto bS (fun j e A=>e=[rc,.bool all,aH cR 0,aH p 0,aH cc 0,aH cj 0,u6,u7,u8,gL,I (j:Int),mX,kj]∧l6 n p cR cc cj all A bS cw dn cY rn (kW ⟨dn,rn,0,[],all⟩ j 0 raw).1 (kW ⟨dn,rn,0,[],all⟩ j 0 raw).2∧nd n p cc cj aM A) ?_ (lj _) ⟨rfl,ll,.refl _ _ _ _ _⟩;clear ll;rintro j _ A Nh bn ⟨rfl,ll,bg⟩ aN;obtain⟨c,aj⟩:∃ c:fk,(⟨dn,rn,0,[],all⟩:fk)=c:=⟨_,rfl⟩;rw[aj]at ll aN L;obtain⟨ak,kH,dv,eM,rv,e3,ca,xs,ep,oG,nK,ig⟩:=ll;have h6:=rI hn bg.next;delta O1;replace ak:=U ak;replace nK:=U nK;replace ig:=U ig;replace bg:=U bg;replace hd:=U hd;replace h6:=U h6;replace L:=U L;replace ab:=U ab;by_cases aV:j<bS
 ·have dm:(j:Int)<(bS:Int):=by omega
  have ax:IntKind.i64.wrap ((j:Int)+1)=((j+1:Nat):Int):=by have:=ab.h;rw[cZ (by omega) (by omega)];rfl
  obtain⟨d1,d2,d3,d4,d5,d6,d7⟩:=hd.h;simp only[aa,aw,av,ay, *];refine jr (n:=3) ak.h (by omega) (by omega) _ fun S l2 _ e5=>jt l2 ?_;have ps:∀ i,n≤i→i≠p:=fun i au=>by omega
  have dV:=l2.bP (i:=cc) (by omega) ep;have yR:=l2.bP (i:=cj) (by omega) oG;have qJ:=nK.h.bP fun i au dj=>l2.get i (ps i au) dj;have k8:n≤S.next:=by have:=l2.next;have:=h6.h;omega
  have td:=nq ak.h.in (n:=3) (by omega);obtain⟨fE,lS⟩:∃ a,(bf (kW c j 0 raw).2 3).1=a:=⟨_,rfl⟩;obtain⟨bM,fO⟩:∃ a,(bf (kW c j 0 raw).2 3).2=a:=⟨_,rfl⟩;rw[fO]at e5;rw[lS]at td;rw[lS];have S8:IntKind.i64.wrap (1+(fE:Int))=((1+fE:Nat):Int):=by rw[cZ (by omega) (by omega)];omega
  have Q1:(cc==p)=false:=by simp;omega
  have Q3:(cj==p)=false:=by simp;omega
  have sr:=adm d3 qJ (dv:=eM) (rv:=e3) (dn:=dn) (rn:=rn) (by simp) (by simp) iy ni all;rw[aj]at sr;replace e5:=U e5;replace sr:=U sr;replace l2:=U l2;replace qJ:=U qJ;replace k8:=U k8;simp only[aa,aw,dt, *];refine Ve 3 c (by rw[← aj];simp) bM S p _ _ e5.h sr.h fun ae eX aE fC su=>jt aE ?_;have om:=l2.h.trans aE;have hz:=aE.bP (i:=cc) (by omega) dV;have yS:=aE.bP (i:=cj) (by omega) yR;have s6:=qJ.h.bP fun i au dj=>aE.get i (ps i au) dj;have yY:gp (fK n [dv,eM,rv,e3,ca]) ae _ xs:=ig.h.to (om.cg fun id T=>⟨ps id T.1,T⟩);have YY:dN (fK n [dv,eM,rv,e3,ca]) ae eX _:=su.to (J.jd fun id T=>by
   have A:S.next≤id:=T;refine⟨by have:=k8.h;omega,fun v ad=>?_⟩;simp only[oj,BR,or_false]at ad;rcases ad with rfl|rfl|rfl|rfl|rfl
   ·exact qJ.h.da (r:=(_,2,cw.map eT)) (by simp) (.inr A)
   ·exact qJ.h.da (r:=(_,1,dn.map fun s=>[str s])) (by simp) (.inr A)
   ·exact qJ.h.da (r:=(_,2,cY.map eT)) (by simp) (.inr A)
   ·exact qJ.h.da (r:=(_,1,rn.map fun s=>[str s])) (by simp) (.inr A)
   ·exact qJ.h.da (r:=(_,6,xs)) (by simp) (.inr A))
  have fi:=ym [116,97] [116,98] [116,99];obtain⟨Ec,aB,AD,nI,qH,eO⟩:=b9 ae [str [116,97],str [116,98],str [116,99]];have qV:=B9 (B:=(· ≠ p)) ae Ev (by have:=fC.lt;show ae.next≠p;omega) (n:=3) (cells:=[str [116,97],str [116,98],str [116,99]]) rfl rfl;rw[nI,AD]at qV;have ud:j<3:=by have:=ab.h;omega
  obtain⟨sA,off,cells,own,az,aL,bq,uc⟩:=iw.elem qV (getD_some (l:=Ev) (i:=j) ud []);have ahq:(sA==p)=false:=by have A:sA≠p:=uc;simpa using A
  clear uc;obtain⟨nm,lT⟩:∃ a,Ev.getD j []=a:=⟨_,rfl⟩;rw[lT]at bq;have hf:=eO.get hz;have tQ:=eO.get yS;have qK:=s6.bP fun i au dj=>eO.pf i dj;have pi:gp (fK n [dv,eM,rv,e3,ca]) aB _ xs:=yY.to (eO.cg fun id T=>T);have sf:=YY.to (B':=fK n [dv,eM,rv,e3,ca]) (eO.cg fun id T=>T);have eB:=fC.le eO;have gY:n≤aB.next:=by have:=aE.next;have:=eO.next;have:=k8.h;omega
  have ux:∀ i,i<n→i≠p→(A.get i).isSome=true→aB.get i=A.get i:=fun i _ au dj=>by
   have az:=om.get i au dj;rw[eO.pf i (by rw[az];exact dj),az]
  obtain⟨gh,rH⟩:∃ gh:dO,(⟨nm,false,(j:Int),((1+fE:Nat):Int),0,(ow 3 c bM).1⟩:dO)=gh:=⟨_,rfl⟩;obtain⟨Ad,w9⟩:∃ a,(kW c j 0 raw).1=a:=⟨_,rfl⟩;have vB:Ad.length=j:=by rw[← w9];exact MU c j 0 raw
  rw[w9]at pi;have sf:dN (fK n [dv,eM,rv,e3,ca]) aB eX gh.body:=by rw[← rH];exact sf
  have fg:=agf nm (j:Int) ((1+fE:Nat):Int) sf.e6;have dx:=WZ (m:=nm) (b:=false) (a:=(j:Int)) (p:=((1+fE:Nat):Int)) (l:=0) sf.e6;have ajA:A.next≤aB.next:=by have:=om.next;have:=eO.next;omega
  have GH:gp (fK n [dv,eM,rv,e3,ca]) aB (Ad++[gh]) (xs++[[str gh.name,.bool gh.ga,I gh.cB,I gh.prio,I gh.line,eX]]):=gp.snoc ⟨eX,rfl,sf⟩ pi;obtain⟨fR,dW,An,AX,px,HH,zO⟩:=Rows.push (l1:=[(dv,2,cw.map eT),(eM,1,dn.map fun s=>[str s]),(rv,2,cY.map eT),(e3,1,rn.map fun s=>[str s])]) (l2:=[]) qK gY (x:=[str gh.name,.bool gh.ga,I gh.cB,I gh.prio,I gh.line,eX]) rfl (by omega) (b:=72) (by rw[pi.length];omega) (by rw[pi.length];omega);have q2:∀ i,i<n→da ca i:=fun i au=>qK.da (r:=(ca,6,xs)) (by simp) (.inl au);have wR:=(px cc (by rw[hf];rfl) (q2 cc d7)).trans hf;have Rl:=(px cj (by rw[tQ];rfl) (q2 cj d6)).trans tQ;have GY:=eB.low fun i au dj=>px i dj (q2 i (by omega));have F5:gp (fK n [dv,eM,rv,e3,fR]) dW (Ad++[gh]) (xs++[[str gh.name,.bool gh.ga,I gh.cB,I gh.prio,I gh.line,eX]]):=GH.to fun id cs own T aA=>⟨⟨T.1,fun v ad=>by
   have af:=HH id (by rw[aA];rfl);have bw:=T.2;simp only[oj,BR,or_false]at ad bw;rcases ad with rfl|rfl|rfl|rfl|rfl<;>first|exact af|exact bw _ (by simp)⟩,by
   rw[px id (by rw[aA];rfl) (T.2 _ (by simp))];exact aA⟩
  obtain⟨At,Au⟩:=(Rows.e6 (l1:=[(dv,2,cw.map eT),(eM,1,dn.map fun s=>[str s]),(rv,2,cY.map eT),(e3,1,rn.map fun s=>[str s])]) AX).cell;have U8:=iU (off:=3) wR (by simp) At Au;obtain⟨rx,ro⟩:∃ nx,dW.set cc (.aq ([I (bS:Int),dv,rv,ca].set 3 fR) true)=nx:=⟨_,rfl⟩;rw[ro]at U8;have sN:∀ i,i≠cc→rx.get i=dW.get i:=fun i au=>by rw[← ro];exact J.dT _ _ _ _ (by simpa using au)
  have FI:rx.get cc=some (.aq ([I (bS:Int),dv,rv,ca].set 3 fR) true):=by rw[← ro];exact J.gz _ _ _ (by rw[wR];rfl)
  have FC:=(sN cj (by omega)).trans Rl;have GZ:=GY.low fun i au _=>sN i (by omega);have F0:=AX.bP fun i au _=>sN i (by omega);have F6:gp (fK n [dv,eM,rv,e3,fR]) rx _ _:=F5.to fun id cs own T aA=>⟨T,by rw[sN id (by have:=T.1;omega)];exact aA⟩;have BM:nd n p cc cj A rx:=⟨fun i au a b c dj=>by
   have cV:=ux i au a dj;rw[sN i b,px i (by rw[cV];exact dj) (q2 i au),cV],by
   rw[← ro];show A.next≤dW.next;omega⟩
  have AN:=(BM.bP cR (by omega) (by omega) (by omega) (by omega) (by rw[kH];rfl)).trans kH;have nN:=ae9 c j 0 raw;rw[zS,lT,lS,fO,w9,rH]at nN;have AV:l6 n p cR cc cj all rx bS cw dn cY rn (kW c (j+1) 0 raw).1 (kW c (j+1) 0 raw).2:=by
   rw[nN];exact⟨GZ,AN,dv,eM,rv,e3,fR,_,FI,FC,by simpa using F0,F6⟩
  have AS:=bg.h.trans BM;have afq:o1 6 72 (aB.alloc (.aq [str nm,.bool false,I (j:Int),I ((1+fE:Nat):Int),I 0,eX] true)) [ca,.slice (some ⟨aB.next,0,none⟩) 1 6]=some (fR,dW):=by
   rw[← rH]at An;exact An
  clear ux BM F6 F0 GZ F5 AX GY GH sf pi qK eB YY yY s6 fC su aE om eO q2 px HH sN nN qV ps ro FI FC AN lT lS rH w9 An;replace AV:=U AV;replace AS:=U AS;simp only[aa,aw,bh,av,ay, *];exact aN.h _ _ aV ⟨rfl,AV.h,AS.h⟩
 ·have dm:¬(j:Int)<(bS:Int):=by omega
  have A9:j=bS:=by omega
  subst A9;have g:=fun a=>L.h A a ⟨ak.h,kH,dv,eM,rv,e3,ca,xs,ep,oG,nK.h,ig.h⟩ bg.h;replace g:=Hid.mk g;clear aN L kH oG;simp only[aa,aw,av,ay, *];exact g.h _
set_option maxHeartbeats 1000000 in
theorem aoC{n p cR cc cj:Nat}{all:Bool}{bS:Nat}(hd:Cu n p cR cc cj){aM:J}(hn:n≤aM.next){cw cY:List Nm}{dn rn:List (aD)}(iy:dn.length≤100)(ni:rn.length≤100){tx:List dO}{raw:List Int}(ll:l6 n p cR cc cj all aM bS cw dn cY rn tx raw)(ab:1≤bS∧bS≤3)(Lq:tx.length=bS){k:Nat}(nL:k≤3){N:Nat}{vars:List Nat}{rc u6 u7 u8 gL ju kj:Value}(R:dM→ar→J→Prop)
  (L:∀ D mX kj,l6 n p cR cc cj all D bS cw dn cY rn (tx++(k9 ⟨dn,rn,0,[],all⟩ bS k 0 raw).1) (k9 ⟨dn,rn,0,[],all⟩ bS k 0 raw).2→nd n p cc cj aM D→R (.exit 6) [rc,.bool all,aH cR 0,aH p 0,aH cc 0,aH cj 0,u6,u7,u8,gL,ju,mX,kj] D) :
  ch Tryz.prog N vars O2 [rc,.bool all,aH cR 0,aH p 0,aH cc 0,aH cj 0,u6,u7,u8,gL,ju,I (k:Int),kj] aM R:=by
 refine ch.down (fun m e A=>∃ j kj,j+m=k∧e=[rc,.bool all,aH cR 0,aH p 0,aH cc 0,aH cj 0,u6,u7,u8,gL,ju,I (m:Int),kj]∧l6 n p cR cc cj all A bS cw dn cY rn (tx++(k9 ⟨dn,rn,0,[],all⟩ bS j 0 raw).1) (k9 ⟨dn,rn,0,[],all⟩ bS j 0 raw).2∧nd n p cc cj aM A) ?_ (m:=k) ⟨0,_,by omega,rfl,by simpa[k9] using ll,.refl _ _ _ _ _⟩;clear ll;rintro m _ A Nh ⟨j,kj,bn,rfl,ll,bg⟩ aN;obtain⟨c,aj⟩:∃ c:fk,(⟨dn,rn,0,[],all⟩:fk)=c:=⟨_,rfl⟩;rw[aj]at ll aN L;obtain⟨ak,kH,dv,eM,rv,e3,ca,xs,ep,oG,nK,ig⟩:=ll;have h6:=rI hn bg.next;delta O2;replace ak:=U ak;replace nK:=U nK;replace ig:=U ig;replace bg:=U bg;replace hd:=U hd;replace h6:=U h6;replace L:=U L;replace ab:=U ab;replace bn:=U bn;cases m with
 |zero =>
  have z:¬(0:Int)<((0:Nat):Int):=by decide
  have A9:j=k:=by have:=bn.h;omega
  subst A9;have g:=fun a b=>L.h A a b ⟨ak.h,kH,dv,eM,rv,e3,ca,xs,ep,oG,nK.h,ig.h⟩ bg.h;replace g:=Hid.mk g;clear aN L kH oG ep;simp only[aa,av,ay, *];exact g.h _ _
 |succ m =>
  have z:(0:Int)<((m+1:Nat):Int):=by omega
  have ax:IntKind.i64.wrap (((m+1:Nat):Int)-1)=(m:Int):=by have:=bn.h;rw[cZ (by omega) (by omega)];omega
  obtain⟨d1,d2,d3,d4,d5,d6,d7⟩:=hd.h;have xd:xs.length=bS+j:=by rw[ig.h.length,ap,GG,Lq]
  have at8:pD [ca]=some (I ((bS+j:Nat):Int)):=by
   have:=cT.len (cL.vW (nK.h.own (ca,6,xs) (by simp)));rw[xd]at this;exact this
  have DD:IntKind.i64.wrap (((bS+j:Nat):Int)-(bS:Int))=(j:Int):=by have:=ab.h;have:=bn.h;rw[cZ (by omega) (by omega)];omega
  have Q1:(cc==p)=false:=by simp;omega
  have Q3:(cj==p)=false:=by simp;omega
  simp only[aa,aw,av,ay, *];refine jr (n:=bS) ak.h (by have:=ab.h;omega) (by have:=ab.h;omega) _ fun S l2 _ e5=>jt l2 ?_;have dV:=l2.bP (i:=cc) (by omega) ep;have yR:=l2.bP (i:=cj) (by omega) oG;have Zs:=nq ak.h.in (n:=bS) (by have:=ab.h;omega);obtain⟨ai,K8⟩:∃ a,(bf (k9 c bS j 0 raw).2 bS).1=a:=⟨_,rfl⟩;obtain⟨bM,fO⟩:∃ a,(bf (k9 c bS j 0 raw).2 bS).2=a:=⟨_,rfl⟩;rw[fO]at e5;rw[K8]at Zs;rw[K8];replace e5:=U e5;replace l2:=U l2;simp only[aa, *];refine jr (n:=4) e5.h (by omega) (by omega) _ fun ae aE _ fC=>jt aE ?_;have hz:=aE.bP (i:=cc) (by omega) dV;have yS:=aE.bP (i:=cj) (by omega) yR;have zb:=nq e5.h.in (n:=4) (by omega);obtain⟨fE,lS⟩:∃ a,(bf bM 4).1=a:=⟨_,rfl⟩;obtain⟨cE,lW⟩:∃ a,(bf bM 4).2=a:=⟨_,rfl⟩;rw[lW]at fC;rw[lS]at zb;rw[lS];have aE:=l2.h.trans aE;replace fC:=U fC;replace aE:=U aE;simp only[aa, *];refine jr (n:=2) fC.h (by omega) (by omega) _ fun aG bc _ ds=>jt bc ?_;have h4:=bc.bP (i:=cc) (by omega) hz;have Fr:=bc.bP (i:=cj) (by omega) yS;have td:=nq fC.h.in (n:=2) (by omega);obtain⟨kr,w3⟩:∃ a,(bf cE 2).1=a:=⟨_,rfl⟩;obtain⟨gn,uk⟩:∃ a,(bf cE 2).2=a:=⟨_,rfl⟩;rw[uk]at ds;rw[w3]at td;rw[w3];have bc:=aE.h.trans bc;have S8:IntKind.i64.wrap (4+(fE:Int))=((4+fE:Nat):Int):=by rw[cZ (by omega) (by omega)];omega
  have Bs:IntKind.i64.wrap ((kr:Int)*4)=((kr*4:Nat):Int):=by rw[cZ (by omega) (by omega)];omega
  have asW:IntKind.i64.wrap ((j:Int)+((kr*4:Nat):Int))=((j+kr*4:Nat):Int):=by have:=bn.h;rw[cZ (by omega) (by omega)];omega
  have ps:∀ i,n≤i→i≠p:=fun i au=>by omega
  have ph:=nK.h.bP fun i au dj=>bc.get i (ps i au) dj;have jI:n≤aG.next:=by have:=bc.next;have:=h6.h;omega
  have sr:=adm d3 ph (dv:=eM) (rv:=e3) (dn:=dn) (rn:=rn) (by simp) (by simp) iy ni all;rw[aj]at sr;replace ds:=U ds;replace sr:=U sr;replace bc:=U bc;replace ph:=U ph;replace jI:=U jI;clear dV hz yR yS;simp only[aa,aw,dt, *];refine Ve 2 c (by rw[← aj];simp) gn aG p _ _ ds.h sr.h fun a1 eX aY cC su=>jt aY ?_;have LV:=bc.h.trans aY;have nj:=aY.bP (i:=cc) (by omega) h4;have AK:=aY.bP (i:=cj) (by omega) Fr;have vc:=ph.h.bP fun i au dj=>aY.get i (ps i au) dj;have yZ:gp (fK n [dv,eM,rv,e3,ca]) a1 _ xs:=ig.h.to (LV.cg fun id T=>⟨ps id T.1,T⟩);have YZ:dN (fK n [dv,eM,rv,e3,ca]) a1 eX _:=su.to (J.jd fun id T=>by
   have A:aG.next≤id:=T;refine⟨by have:=jI.h;omega,fun v ad=>?_⟩;simp only[oj,BR,or_false]at ad;rcases ad with rfl|rfl|rfl|rfl|rfl
   ·exact ph.h.da (r:=(_,2,cw.map eT)) (by simp) (.inr A)
   ·exact ph.h.da (r:=(_,1,dn.map fun s=>[str s])) (by simp) (.inr A)
   ·exact ph.h.da (r:=(_,2,cY.map eT)) (by simp) (.inr A)
   ·exact ph.h.da (r:=(_,1,rn.map fun s=>[str s])) (by simp) (.inr A)
   ·exact ph.h.da (r:=(_,6,xs)) (by simp) (.inr A))
  have fi:=ym [104,97] [104,98] [104,99];obtain⟨Ec,aB,AD,nI,qH,eO⟩:=b9 a1 [str [104,97],str [104,98],str [104,99]];have qV:=B9 (B:=(· ≠ p)) a1 Dp (by have:=cC.lt;show a1.next≠p;omega) (n:=3) (cells:=[str [104,97],str [104,98],str [104,99]]) rfl rfl;rw[nI,AD]at qV;have ud:j<3:=by have:=bn.h;omega
  obtain⟨sA,off,cells,own,az,aL,bq,uc⟩:=iw.elem qV (getD_some (l:=Dp) (i:=j) ud []);have ahq:(sA==p)=false:=by have A:sA≠p:=uc;simpa using A
  clear uc;obtain⟨nm,lT⟩:∃ a,Dp.getD j []=a:=⟨_,rfl⟩;rw[lT]at bq;have hf:=eO.get nj;have tQ:=eO.get AK;have qK:=vc.bP fun i au dj=>eO.pf i dj;have pi:gp (fK n [dv,eM,rv,e3,ca]) aB _ xs:=yZ.to (eO.cg fun id T=>T);have sf:=YZ.to (B':=fK n [dv,eM,rv,e3,ca]) (eO.cg fun id T=>T);have eB:=cC.le eO;have gY:n≤aB.next:=by have:=aY.next;have:=eO.next;have:=jI.h;omega
  have ux:∀ i,i<n→i≠p→(A.get i).isSome=true→aB.get i=A.get i:=fun i _ au dj=>by
   have az:=LV.get i au dj;rw[eO.pf i (by rw[az];exact dj),az]
  obtain⟨gh,rH⟩:∃ gh:dO,(⟨nm,true,(ai:Int),((4+fE:Nat):Int),((j+kr*4:Nat):Int),(ow 2 c gn).1⟩:dO)=gh:=⟨_,rfl⟩;obtain⟨Ad,w9⟩:∃ a,tx++(k9 c bS j 0 raw).1=a:=⟨_,rfl⟩;have vB:Ad.length=bS+j:=by rw[← w9,ap,GG,Lq]
  have asR:Ad.length≤6:=by have:=ab.h;have:=bn.h;omega
  rw[w9]at pi;have sf:dN (fK n [dv,eM,rv,e3,ca]) aB eX gh.body:=by rw[← rH];exact sf
  have fg:=agh nm (ai:Int) ((4+fE:Nat):Int) ((j+kr*4:Nat):Int) sf.e6;have dx:=WZ (m:=nm) (b:=true) (a:=(ai:Int)) (p:=((4+fE:Nat):Int)) (l:=((j+kr*4:Nat):Int)) sf.e6;have ajA:A.next≤aB.next:=by have:=LV.next;have:=eO.next;omega
  have GH:gp (fK n [dv,eM,rv,e3,ca]) aB (Ad++[gh]) (xs++[[str gh.name,.bool gh.ga,I gh.cB,I gh.prio,I gh.line,eX]]):=gp.snoc ⟨eX,rfl,sf⟩ pi;obtain⟨fR,dW,An,AX,px,HH,zO⟩:=Rows.push (l1:=[(dv,2,cw.map eT),(eM,1,dn.map fun s=>[str s]),(rv,2,cY.map eT),(e3,1,rn.map fun s=>[str s])]) (l2:=[]) qK gY (x:=[str gh.name,.bool gh.ga,I gh.cB,I gh.prio,I gh.line,eX]) rfl (by omega) (b:=72) (by rw[pi.length];omega) (by rw[pi.length];omega);have q2:∀ i,i<n→da ca i:=fun i au=>qK.da (r:=(ca,6,xs)) (by simp) (.inl au);have wR:=(px cc (by rw[hf];rfl) (q2 cc d7)).trans hf;have Rl:=(px cj (by rw[tQ];rfl) (q2 cj d6)).trans tQ;have GY:=eB.low fun i au dj=>px i dj (q2 i (by omega));have F5:gp (fK n [dv,eM,rv,e3,fR]) dW (Ad++[gh]) (xs++[[str gh.name,.bool gh.ga,I gh.cB,I gh.prio,I gh.line,eX]]):=GH.to fun id cs own T aA=>⟨⟨T.1,fun v ad=>by
   have af:=HH id (by rw[aA];rfl);have bw:=T.2;simp only[oj,BR,or_false]at ad bw;rcases ad with rfl|rfl|rfl|rfl|rfl<;>first|exact af|exact bw _ (by simp)⟩,by
   rw[px id (by rw[aA];rfl) (T.2 _ (by simp))];exact aA⟩
  obtain⟨At,Au⟩:=(Rows.e6 (l1:=[(dv,2,cw.map eT),(eM,1,dn.map fun s=>[str s]),(rv,2,cY.map eT),(e3,1,rn.map fun s=>[str s])]) AX).cell;have U8:=iU (off:=3) wR (by simp) At Au;obtain⟨rx,ro⟩:∃ nx,dW.set cc (.aq ([I (bS:Int),dv,rv,ca].set 3 fR) true)=nx:=⟨_,rfl⟩;rw[ro]at U8;have sN:∀ i,i≠cc→rx.get i=dW.get i:=fun i au=>by rw[← ro];exact J.dT _ _ _ _ (by simpa using au)
  have FI:rx.get cc=some (.aq ([I (bS:Int),dv,rv,ca].set 3 fR) true):=by rw[← ro];exact J.gz _ _ _ (by rw[wR];rfl)
  have FC:=(sN cj (by omega)).trans Rl;have GZ:=GY.low fun i au _=>sN i (by omega);have F0:=AX.bP fun i au _=>sN i (by omega);have F6:gp (fK n [dv,eM,rv,e3,fR]) rx _ _:=F5.to fun id cs own T aA=>⟨T,by rw[sN id (by have:=T.1;omega)];exact aA⟩;have BM:nd n p cc cj A rx:=⟨fun i au a b c dj=>by
   have cV:=ux i au a dj;rw[sN i b,px i (by rw[cV];exact dj) (q2 i au),cV],by
   rw[← ro];show A.next≤dW.next;omega⟩
  have AN:=(BM.bP cR (by omega) (by omega) (by omega) (by omega) (by rw[kH];rfl)).trans kH;have nN:=Zx c bS j 0 raw;simp only[zS,lT,K8,fO,lS,lW,w3,uk]at nN;rw[rH]at nN;have AV:l6 n p cR cc cj all rx bS cw dn cY rn (tx++(k9 c bS (j+1) 0 raw).1) (k9 c bS (j+1) 0 raw).2:=by
   rw[nN];show l6 n p cR cc cj all rx bS cw dn cY rn (tx++((k9 c bS j 0 raw).1++[gh])) (ow 2 c gn).2;rw[← wB,w9];exact⟨GZ,AN,dv,eM,rv,e3,fR,_,FI,FC,by simpa using F0,F6⟩
  have AS:=bg.h.trans BM;have afq:o1 6 72 (aB.alloc (.aq [str nm,.bool true,I (ai:Int),I ((4+fE:Nat):Int),I ((j+kr*4:Nat):Int),eX] true)) [ca,.slice (some ⟨aB.next,0,none⟩) 1 6]=some (fR,dW):=by
   rw[← rH]at An;exact An
  clear ux BM F6 F0 GZ F5 AX GY GH sf pi qK eB YZ yZ vc cC su aY LV eO q2 px HH sN nN qV ps ro FI FC AN lT lS rH w9 An w3 K8 fO lW uk;replace AV:=U AV;replace AS:=U AS;simp only[aa,aw,bh,av,ay, *];exact aN.h m _ _ (by omega) ⟨j+1,_,by have:=bn.h;omega,rfl,AV.h,AS.h⟩
theorem X0{G gT:Prop}(h:G→gT)(g:G):gT:=h g
abbrev M2:ar:=[I 0,bx,bx,bx]
theorem afI(a:Int):gQ M2 [(0,1)] [I a]=some (.agg #[I a,aJ,aJ,aJ]):=rfl
theorem afD(b:Bool):gQ [bx,bx,I 0,bx,.bool false] [(4,1)] [.bool b]=some (.agg #[aJ,aJ,I 0,aJ,.bool b]):=rfl
theorem WE{v:Value}(ad:gN v):gQ [bx] [(0,1)] [v]=some (.agg #[v]):=by obtain⟨_,_,_,rfl⟩:=ad;rfl
theorem WW{v:Value}(ad:gN v):nB [.agg #[v]]=some ([v],fun id=>(aH id 0)):=by obtain⟨_,_,_,rfl⟩:=ad;rfl
theorem aqi(h:J)(a:Int):cz 4 (h.alloc (.aq M2 true)) [aH h.next 0,.agg #[I a,aJ,aJ,aJ]]=some (b0,h.alloc (.aq [I a,aJ,aJ,aJ] true)):=kk rfl rfl rfl rfl
theorem aqh(h:J)(b:Bool):cz 5 (h.alloc (.aq [bx,bx,I 0,bx,.bool false] true)) [aH h.next 0,.agg #[aJ,aJ,I 0,aJ,.bool b]]=some (b0,h.alloc (.aq [aJ,aJ,I 0,aJ,.bool b] true)):=kk rfl rfl rfl rfl
theorem cT.e6{h:J}{s:Nat}{v:Value}{xs:List (ar)}(ad:cT h s v xs):gN v:=by
 rcases ad with⟨rfl,_⟩|⟨id,off,rfl,_⟩<;>exact⟨_,_,_,rfl⟩
theorem cT.below{h:J}{s:Nat}{v:Value}{xs:List (ar)}(ad:cT h s v xs):dH (· < h.next) h s v xs:=by
 rcases ad with ad|⟨id,off,ad,af⟩
 ·exact .inl ad
 ·refine .inr ⟨id,off,ad,af.imp (fun e=>e) fun ai=>⟨?_,ai⟩⟩;obtain⟨_,_,aA,_⟩:=ai;exact J.bY aA
theorem ad4{n:Nat}{h:J}{l:List Row}(aN:Rows n h l){r:Row}(hr:r∈l){t:Value}(aC:xJ r.1 t):dH (fK n [t]) h r.2.1 r.1 r.2.2:=by
 rcases cL.oY (aN.own r hr) with A|⟨id,off,e,af⟩
 ·exact .inl A
 ·refine .inr ⟨id,off,e,af.imp (fun e=>e) fun⟨T,ai⟩=>⟨⟨T,fun v ad=>?_⟩,ai⟩⟩;rw[Iw.1 ad];rcases aN.own r hr with⟨aL,_⟩|⟨pw,aL,_⟩
  ·rw[aL]at e;cases e
  ·have bq:=aL.symm.trans e;cases bq;exact aC id _ _ aL
structure Made(n:Nat)(h:J)(g:gS)(d r t:Value)(xs:List (ar)):Prop where
 hd:dH (fK n [t]) h 2 d (g.c2.map eT)
 hr:dH (fK n [t]) h 2 r (g.cv.map eT)
 aC:cL (km n) h 6 t xs
 kb:gp (fK n [t]) h g.db xs
 cw:g.c2.length≤140737488355328
 cY:g.cv.length≤140737488355328
 hb:xs.length≤140737488355328
theorem Made.Mr{n:Nat}{h:J}{g:gS}{d r t:Value}{xs:List (ar)}(hm:Made n h g d r t xs):pM h g [I g.bS,d,r,t] :=
 ⟨d,r,t,rfl,⟨hm.hd.plain,hm.cw⟩,⟨hm.hr.plain,hm.cY⟩,xs,hm.aC.vW,hm.hb,hm.kb.plain⟩
theorem Made.to{n:Nat}{h D:J}{g:gS}{d r t:Value}{xs:List (ar)}(hm:Made n h g d r t xs)(ab:∀ i,n≤i→(h.get i).isSome=true→D.get i=h.get i):Made n D g d r t xs:=by
 have T:J.cg (fK n [t]) (fK n [t]) h D:=fun id cs own T aA=>⟨T,by rw[ab id T.1 (by rw[aA];rfl)];exact aA⟩;exact⟨hm.hd.to T,hm.hr.to T,hm.aC.get fun id ad ak=>ab id (hm.aC.EW id _ _ ad).1 ak,hm.kb.to T,hm.cw,hm.cY,hm.hb⟩
theorem Made.wc{n m:Nat}{h:J}{g:gS}{d r t:Value}{xs:List (ar)}(hm:Made n h g d r t xs)(hn:m≤n):Made m h g d r t xs:=by
 have T:J.cg (fK n [t]) (fK m [t]) h h:=J.jd fun id T=>⟨rI hn T.1,T.2⟩;exact⟨hm.hd.to T,hm.hr.to T,hm.aC.wc hn,hm.kb.to T,hm.cw,hm.cY,hm.hb⟩
theorem l6.made{n p cR cc cj:Nat}{all:Bool}{h:J}{bS:Nat}{cw:List Nm}{dn:List (aD)}{cY:List Nm}{rn:List (aD)}{db:List dO}{raw:List Int}(ll:l6 n p cR cc cj all h bS cw dn cY rn db raw)(dJ:cw.length≤3)(kB:cY.length≤2)(qt:db.length≤6) :
  ∃ d r t xs,h.get cc=some (.aq [I (bS:Int),d,r,t] true)∧Made n h ⟨(bS:Int),cw,cY,db⟩ d r t xs:=by
 obtain⟨ak,_,dv,eM,rv,e3,ca,xs,ep,oG,aN,ig⟩:=ll;have af:=ig.length;have Bn:=(List.pairwise_append (l₁:=[(dv,2,cw.map eT),(eM,1,dn.map fun s=>[str s]),(rv,2,cY.map eT),(e3,1,rn.map fun s=>[str s])]) (l₂:=[(ca,6,xs)])).1 aN.sep;have bT:=(Bn.2.2 (dv,2,cw.map eT) (by simp) (ca,6,xs) (by simp)).1;have b4:=(Bn.2.2 (rv,2,cY.map eT) (by simp) (ca,6,xs) (by simp)).1;have AY:gp (fK n [ca]) h db xs:=ig.to (J.jd fun id T=>⟨T.1,fun v ad=>by rw[Iw.1 ad];exact T.2 ca (by simp)⟩);exact⟨dv,rv,ca,xs,ep,ad4 aN (r:=(dv,2,cw.map eT)) (by simp) bT,ad4 aN (r:=(rv,2,cY.map eT)) (by simp) b4,aN.own (ca,6,xs) (by simp),AY,by show cw.length≤_;omega,by show cY.length≤_;omega,by omega⟩
theorem l6.step{n p cR cc cj:Nat}(hd:Cu n p cR cc cj){all:Bool}{h D:J}{bS:Nat}{cw:List Nm}{dn:List (aD)}{cY:List Nm}{rn:List (aD)}{db:List dO}{raw aci:List Int}(ll:l6 n p cR cc cj all h bS cw dn cY rn db raw)(ag:h.b2 p D)(ak:Src D p aci):l6 n p cR cc cj all D bS cw dn cY rn db aci:=by
 obtain⟨d1,d2,d3,d4,d5,d6,d7⟩:=hd;obtain⟨_,dY,dv,eM,rv,e3,ca,xs,ep,oG,aN,ig⟩:=ll;exact⟨ak,ag.bP (by omega) dY,dv,eM,rv,e3,ca,xs,ag.bP (by omega) ep,ag.bP (by omega) oG,aN.bP fun i au dj=>ag.get i (by omega) dj,ig.to (ag.cg fun id T=>⟨by have:=T.1;omega,T⟩)⟩
theorem nd.Uo{n p cc cj:Nat}{h D:J}(ag:h.b2 p D):nd n p cc cj h D:=⟨fun i _ hp _ _ ak=>ag.get i hp ak,ag.next⟩
set_option maxHeartbeats 1000000 in
theorem af2{h:J}{v:Value}{raw:List Int}(ad:nc h v raw)(lp:∀ z∈raw,nO z)(all:Bool)(Q:aT)
  (L:∀ D d r t xs,h.le D→Made h.next D (Ea raw all) d r t xs→Q (.agg #[I (Ea raw all).bS,d,r,t]) D):bj Tryz.prog 17 [v,.bool all] h Q:=by
 obtain⟨cR,A,Fh,gO,kH,bt⟩:=b9 h M2;obtain⟨v',fV,vf⟩:∃ v',nc A v' (raw.take 400)∧((400:Int)<(raw.length:Int)∧rR 1 false true [v,I 400]=some v'∨¬(400:Int)<(raw.length:Int)∧v'=v):=by
  by_cases ag:400<raw.length
  ·obtain⟨w,az,aL⟩:=cT.ac3 ad (b:=400) (by simp;omega);refine⟨w,?_,.inl ⟨by omega,az⟩⟩;rw[← List.map_take]at aL;exact cT.mono bt aL
  ·refine⟨v,?_,.inr ⟨by omega,rfl⟩⟩;rw[Lt (by omega)];exact cT.mono bt ad
 have lz:=nc.len ad;have pv:=cT.e6 fV;have Ae:=WE pv;have sX:=WW pv;have Gl:∀ z∈raw.take 400,nO z:=fun z bp=>lp z (List.mem_of_mem_take bp);have qQ:(raw.take 400).length≤1000:=by rw[List.length_take];omega
 obtain⟨p,S,gr,jz,ep,dh⟩:=b9 A [v'];have lv:Src S p (raw.take 400):=⟨v',ep,by
  have ae:=cT.below fV;exact ae.to (dh.cg fun id T=>by rw[← gr];exact T),Gl,qQ⟩
 obtain⟨UG,p5⟩:∃ eb,raw.take 400=eb:=⟨_,rfl⟩;have Dh:Ea raw all=(let sK:=UG
 let a:=bf sK 3;let bI:=bf a.2 3;let bG:=fW kD 3 (bI.1+1) 0 bI.2;let iI:=bf bG.2 3;let b3:=fW kT 8 iI.1 0 iI.2;let c:fk:=⟨bG.1.map (·.name),b3.1.map (·.name),0,[],all⟩;let ts:=kW c (1+a.1) 0 b3.2;let q3:=bf ts.2 4;let ak:=k9 c (1+a.1) q3.1 0 q3.2
 ⟨(1+a.1:Nat),bG.1,b3.1,ts.1++ak.1⟩):=by rw[← p5];rfl
 rw[Dh]at L;rw[p5]at lv;have eE:=dh.get kH;have tg:=J.bY kH;rw[gr]at tg;have w6:h.next=cR:=Fh;clear ad lp Gl qQ fV Dh p5 ep;replace lv:=U lv;replace bt:=U bt;replace dh:=U dh;replace eE:=U eE;replace tg:=U tg;replace w6:=U w6;replace vf:=U vf;replace pv:=U pv;refine E5 (k:=2) (agg:=true) (size:=4) amw rfl rfl rfl fun N=>?_;rw[eJ OW aed rfl];delta OW;replace L:=U L;refine X0 (G:=?G) ?b ?main
 case b =>
  intro main;rcases vf.h with⟨z,e⟩|⟨z,rfl⟩
  ·simp only[aa,av,ay, *];first|done|exact main
  ·simp only[aa,av,ay, *];first|done|exact main
 case main =>
  clear vf lz Ae sX kH gO jz Fh gr;refine jr (n:=3) lv.h (by omega) (by omega) _ fun ae aE _ fC=>?_;have td:=nq lv.h.in (n:=3) (by omega);have hT:=aE.bP (i:=cR) (by have:=tg.h;omega) eE.h;obtain⟨a,ai⟩:∃ a,(bf UG 3).1=a:=⟨_,rfl⟩;obtain⟨cE,lW⟩:∃ a,(bf UG 3).2=a:=⟨_,rfl⟩;simp only[ai,lW]at L;rw[ai]at td;rw[lW]at fC;rw[ai];have ax:IntKind.i64.wrap (1+(a:Int))=((1+a:Nat):Int):=by rw[cZ (by omega) (by omega)];omega
  obtain⟨hn,vi⟩:∃ k,1+a=k:=⟨_,rfl⟩;rw[vi]at ax;simp only[vi]at L;have Ae:=afI (hn:Int);have atK:=afD all;have nL:1≤hn∧hn≤3:=by omega
  have iu:=aqi ae (hn:Int);obtain⟨cc,aB,ahG,nI,Rr,eO⟩:=b9 ae [I (hn:Int),aJ,aJ,aJ];rw[nI,ahG]at iu;have Vi:=aqh aB all;obtain⟨cj,aG,ahF,qD,FK,iG⟩:=b9 aB [aJ,aJ,I 0,aJ,.bool all];rw[qD,ahF]at Vi;have BI:S.b2 p aG:=(aE.trans (eO.eA p)).trans (iG.eA p);have ds:=(fC.le eO).le iG;have h4:=iG.get Rr;have wU:=iG.get (eO.get hT);have az:=fC.lt;have aL:=eO.next;have bq:=J.bY Rr;have cV:=J.bY FK;obtain⟨n,jI⟩:∃ n,aG.next=n:=⟨_,rfl⟩;have hd:Cu n p cR cc cj:=⟨by omega,by omega,by omega,tg.h,by omega,by omega,by omega⟩;have KY:l6 n p cR cc cj all aG hn [] [] [] [] [] cE:=⟨ds,wU,aJ,aJ,aJ,aJ,aJ,[],h4,FK,⟨fun r hr=>by
   simp only[oj,BR,or_false]at hr;rcases hr with rfl|rfl|rfl|rfl|rfl<;>exact cL.nil _ _ _,by simp[xJ]⟩,rfl⟩
  have FQ:h.b2 p aG:=J.b2.of_le (bt.h.trans dh.h) BI;replace hd:=U hd;replace KY:=U KY;replace FQ:=U FQ;replace ds:=U ds;replace h4:=U h4;replace FK:=U FK;replace td:=U td;replace nL:=U nL;replace jI:=U jI;clear fC Rr hT aE eO iG lv aL ai lW vi;simp only[aa,bh,av,ay, *];refine jr (n:=3) ds.h (by omega) (by omega) _ fun a1 aY _ cC=>?_;have Ba:=nq ds.h.in (n:=3) (by omega);have FW:=KY.h.step hd.h aY cC;have FT:nd n p cc cj aG a1:=.Uo aY;obtain⟨bI,fU⟩:∃ a,(bf cE 3).1=a:=⟨_,rfl⟩;obtain⟨ku,SK⟩:∃ a,(bf cE 3).2=a:=⟨_,rfl⟩;simp only[fU,SK]at L;rw[fU]at Ba;rw[SK]at FW;rw[fU];clear fU SK cC aY KY ds h4 FK wU eE;have h7:n≤a1.next:=by have:=FT.next;have:=jI.h;omega
  replace FW:=U FW;replace FT:=U FT;replace Ba:=U Ba;replace h7:=U h7;obtain⟨alx,ajB⟩:∃ z:Int,(bI:Int)=z:=⟨_,rfl⟩;rw[ajB];simp only[aa, *];obtain rfl:alx=((bI+1:Nat):Int)-1:=by omega
  refine aoB (u6:=b0) hd.h h7.h FW.h rfl rfl (k:=bI+1) (by have:=Ba.h;omega) _ fun bN u6 u7 u8 gL C6 C4=>?_;obtain⟨bG,vg⟩:∃ a,(fW kD 3 (bI+1) 0 ku).1=a:=⟨_,rfl⟩;obtain⟨l0,ZN⟩:∃ a,(fW kD 3 (bI+1) 0 ku).2=a:=⟨_,rfl⟩;have tb:bG.length≤3:=by rw[← vg,q4];have:=Ba.h;omega
  simp only[vg,ZN]at L C6;clear vg ZN;have C4:=FT.h.trans C4;have di:=C6.src;clear FW FT Ba h7;replace C6:=U C6;replace C4:=U C4;replace di:=U di;simp only[aa, *];refine jr (n:=3) di.h (by omega) (by omega) _ fun b7 cq _ hW=>?_;have Dl:=nq di.h.in (n:=3) (by omega);have sj:=C6.h.step hd.h cq hW;have si:=C4.h.trans (.Uo cq);obtain⟨iI,iW⟩:∃ a,(bf l0 3).1=a:=⟨_,rfl⟩;obtain⟨ov,SL⟩:∃ a,(bf l0 3).2=a:=⟨_,rfl⟩;simp only[iW,SL]at L;rw[iW]at Dl;rw[SL]at sj;rw[iW];have qR:n≤b7.next:=by have:=si.next;have:=jI.h;omega
  clear iW SL hW cq C6 C4 di;replace sj:=U sj;replace si:=U si;replace Dl:=U Dl;replace qR:=U qR;simp only[aa, *];refine aoE (u8:=b0) hd.h qR.h sj.h rfl rfl (k:=iI) (by have:=Dl.h;omega) _ fun dE u6 u7 u8 gL FX AR=>?_;obtain⟨b3,vz⟩:∃ a,(fW kT 8 iI 0 ov).1=a:=⟨_,rfl⟩;obtain⟨Ef,ZO⟩:∃ a,(fW kT 8 iI 0 ov).2=a:=⟨_,rfl⟩;have zh:b3.length≤2:=by rw[← vz,q4];have:=Dl.h;omega
  simp only[vz,ZO]at L FX;clear vz ZO;have AR:=si.h.trans AR;have vp:n≤dE.next:=by have:=AR.next;have:=jI.h;omega
  clear sj si Dl qR;replace FX:=U FX;replace AR:=U AR;replace vp:=U vp;replace tb:=U tb;replace zh:=U zh;simp only[aa, *];refine aoF hd.h vp.h (by have:=tb.h;simpa using(by omega:bG.length≤100)) (by have:=zh.h;simpa using(by omega:b3.length≤100)) FX.h nL.h.2 _ fun lk ju AU C3=>?_;obtain⟨c,aj⟩:∃ c:fk,(⟨bG.map (·.name),b3.map (·.name),0,[],all⟩:fk)=c:=⟨_,rfl⟩;rw[aj]at AU;obtain⟨ts,kb⟩:∃ a,(kW c hn 0 Ef).1=a:=⟨_,rfl⟩;obtain⟨ace,ZL⟩:∃ a,(kW c hn 0 Ef).2=a:=⟨_,rfl⟩;have vB:ts.length=hn:=by rw[← kb,MU]
  simp only[aj,kb,ZL]at L AU;clear kb ZL;have C3:=AR.h.trans C3;have GW:=AU.src;clear FX AR vp;replace AU:=U AU;replace C3:=U C3;replace GW:=U GW;replace vB:=U vB;replace aj:=U aj;simp only[aa, *];refine jr (n:=4) GW.h (by omega) (by omega) _ fun pU TT _ ZQ=>?_;have Gz:=nq GW.h.in (n:=4) (by omega);have FU:=AU.h.step hd.h TT ZQ;have FR:=C3.h.trans (.Uo TT);obtain⟨q3,Lg⟩:∃ a,(bf ace 4).1=a:=⟨_,rfl⟩;obtain⟨aoS,SJ⟩:∃ a,(bf ace 4).2=a:=⟨_,rfl⟩;simp only[Lg,SJ]at L;rw[Lg]at Gz;rw[SJ]at FU;rw[Lg];have Su:n≤pU.next:=by have:=FR.next;have:=jI.h;omega
  clear Lg SJ ZQ TT AU C3 GW;replace FU:=U FU;replace FR:=U FR;replace Gz:=U Gz;replace Su:=U Su;simp only[aa, *];refine aoC hd.h Su.h (dn:=bG.map (·.name)) (rn:=b3.map (·.name)) (by have:=tb.h;simp;omega) (by have:=zh.h;simp;omega) FU.h nL.h vB.h (k:=q3) (by have:=Gz.h;omega) _ fun hj mX kj FV r7=>?_;rw[aj.h]at FV;obtain⟨eh,Zl⟩:∃ a,(k9 c hn q3 0 aoS).1=a:=⟨_,rfl⟩;have asx:eh.length≤3:=by rw[← Zl,GG];have:=Gz.h;omega
  simp only[Zl]at L FV;have r7:=FR.h.trans r7;obtain⟨d,r,t,xs,ase,hm⟩:=FV.made tb.h zh.h (by rw[ap,vB.h];have:=nL.h;omega);have YJ:=FV.cR;have hB:=hd.h;obtain⟨d1,d2,d3,d4,d5,d6,d7⟩:=hB;have Sh:h.le (hj.set cR (.aq [I (hn:Int),d,r,t] true)):=⟨fun i o ah=>by
   have au:=J.bY ah;have eI:i<cR:=by have:=w6.h;omega
   rw[J.dT _ _ _ _ (by simp;omega)];have az:=FQ.h.bP (i:=i) (by omega) ah;rw[r7.bP i (by omega) (by omega) (by omega) (by omega) (by rw[az];rfl)];exact az,by have:=FQ.h.next;have:=r7.next;show h.next≤hj.next;omega⟩
  have Dn:Made n (hj.set cR (.aq [I (hn:Int),d,r,t] true)) _ d r t xs:=hm.to fun i au _=>J.dT _ _ _ _ (by simp;omega);have b8:n ≥ h.next:=by have:=w6.h;omega
  have aqv:cz 4 hj [aH cR 0,.agg #[I (hn:Int),d,r,t]]=some (b0,hj.set cR (.aq [I (hn:Int),d,r,t] true)):=nZ YJ rfl rfl rfl (by simpa[Value.oneCell'] using⟨cT.one Dn.hd.plain,cT.one Dn.hr.plain,cT.one Dn.aC.vW⟩);have AN:(hj.set cR (.aq [I (hn:Int),d,r,t] true)).get cR=_:=J.gz _ _ _ (by rw[YJ];rfl);obtain⟨rx,ro⟩:∃ a,hj.set cR (.aq [I (hn:Int),d,r,t] true)=a:=⟨_,rfl⟩;rw[ro]at Sh Dn aqv AN;have g:=L.h rx d r t xs Sh (Dn.wc b8);replace g:=Hid.mk g;clear L FU FR FV r7 hm Sh Dn b8 ro FQ;simp only[aa,aw,bh,rS, *];exact g.h
end Go.Eng.Sy
namespace Go.Eng
open Go
end Go.Eng
namespace Go.Eng.Sy
open Go Go.Eng Go.Proofs
theorem nr(s:List Int){n:Nat}(hn:0<n):(bf s n).1<n:=by
 cases s with
 |nil=>exact hn
 |cons z r =>
  show(pick z n).toNat<n;have:pick z n<(n:Int):=Int.tmod_lt_of_pos _ (by omega);omega
theorem adL(d:Nat)(c:fk)(s:List Int):(ow d c s).1.length<4:=by
 rw[adK,MO];exact nr s (by omega)
def Kk:Nat→Nat→aD
 |0,n=>[UInt8.ofNat (48+n % 10)]
 |f+1,n=>if 10≤n then Kk f (n / 10)++[UInt8.ofNat (48+n % 10)] else[UInt8.ofNat (48+n % 10)]
theorem X1:∀(f n:Nat),n<10 ^ (f+1)→bs n=Kk f n
 |0,n,h=>by rw[bs,if_neg (by omega)];rfl
 |f+1,n,h=>by
  rw[bs,Kk];split
  ·rw[X1 f (n / 10) (by rw[Nat.pow_succ]at h;omega)]
  ·rfl
def VA(k:Nat):aD:=if 10≤k then vK.getD (k % 10) []++Kk 2 k else vK.getD (k % 10) []
theorem ar8:(List.range 300).all (fun k=>de (VA k))=true:=by kernel_rfl
theorem ar9{k:Nat}(ab:k<300):de (Ex k)=true:=by
 have aK:Ex k=VA k:=by unfold Ex VA;rw[X1 2 k (by omega)]
 rw[aK];exact nU.1 ar8 k (CS.2 ab)
theorem ara(n:Int):de (Il n)=true:=ar9 (by
 show(pick n 300).toNat<300;have:pick n 300<300:=Int.tmod_lt_of_pos _ (by omega);omega)
theorem zM{any:Bool}{s:List Int}{l:List (aD)}(ag:∀ m∈l,de m=true):de (eZ any s l).1=true:=by
 unfold eZ;split
 ·exact ara _
 ·rename_i h;simp only[Ln,beq_iff_eq,not_or]at h;have:=nr s (n:=l.length) (by omega);show de (l.getD (bf s l.length).1 [])=true;rw[List.getD_eq_getElem?_getD,hi this];exact ag _ (Lr _)
structure fk.fm(c:fk):Prop where
 c2:∀ m∈c.c2,de m=true
 cv:∀ m∈c.cv,de m=true
 held:∀ m∈c.held,de m=true
theorem VI:∀ m∈qm,de m=true:=by decide
theorem aby(s:List Int)(d:Nat):e1 (xx s).1 (d+1):=by
 refine .num _ d ?_;have A:=nr s (n:=10) (by omega);have S:=nr (bf s 10).2 (n:=300) (by omega);have ae:=nr (bf (bf s 10).2 300).2 (n:=4294967296) (by omega);have aB:=nr (bf (bf (bf s 10).2 300).2 4294967296).2 (n:=3) (by omega);generalize (bf (bf (bf (bf s 10).2 300).2 4294967296).2 3).1=k at *
 match k,aB with
 |0,_=>show(bf s 10).1<_;omega
 |1,_=>show(bf (bf s 10).2 300).1<_;omega
 |2,_=>exact ae
theorem CL{c:fk}(aj:c.fm):∀(d:Nat) (s:List Int),e1 (eG c d s).1 (d+1)
 |0,s=>aby _ _
 |d+1,s=>by
  unfold eG;dsimp only;split
  ·exact aby _ _
  ·split
   ·exact .var _ _ (zM VI)
   ·split
    ·exact .one _ _ _ (by have:=nr (bf s 8).2 (n:=3) (by omega);omega) (CL aj d _)
    ·split
     ·exact .idx _ _ _ (zM aj.held) (CL aj d _)
     ·exact .two _ _ _ _ (by have:=nr (bf s 8).2 (n:=14) (by omega);omega) (CL aj d _) (CL aj d _)
theorem e1.mono:∀ {d bW:Nat}{e:aX},e1 e d→d≤bW→e1 e bW
 |d,0,e,h,hd=>by cases h<;>omega
 |d,bW+1,e,h,hd=>by
  cases h with
  |num n d h=>exact .num n bW h
  |var m d h=>exact .var m bW h
  |one o a d h ai=>exact .one o a bW h (e1.mono ai (by omega))
  |two o a b d h ai T=>exact .two o a b bW h (e1.mono ai (by omega)) (e1.mono T (by omega))
  |idx m a d h ai=>exact .idx m a bW h (e1.mono ai (by omega))
inductive jw:aP→Nat→Prop
 |set (m:aD) (a:aX) (d:Nat) (h:de m=true) (ai:e1 a 5):jw (.mk 1 m [] 0 [a] [] []) (d+1)
 |get (m f:aD) (n:Nat) (d:Nat) (h:de m=true) (aZ:de f=true) (hn:n≤3):jw (.mk 2 m f n [] [] []) (d+1)
 |put (m:aD) (n:Nat) (a:aX) (d:Nat) (h:de m=true) (hn:n≤3) (ai:e1 a 5):jw (.mk 3 m [] n [a] [] []) (d+1)
 |store (m:aD) (a b:aX) (d:Nat) (h:de m=true) (ai:e1 a 5) (T:e1 b 5):jw (.mk 4 m [] 0 [a,b] [] []) (d+1)
 |lock (m:aD) (aU:List aP) (d:Nat) (h:de m=true) (ag:aU.length≤3) (aC:∀ s∈aU,jw s d):jw (.mk 5 m [] 0 [] aU []) (d+1)
 |cond (a:aX) (aU bz:List aP) (d:Nat) (ai:e1 a 5) (ag:aU.length≤3) (cW:bz.length≤3) (aC:∀ s∈aU,jw s d) (aK:∀ s∈bz,jw s d):jw (.mk 6 [] [] 0 [a] aU bz) (d+1)
 |rW (n:Nat) (aU:List aP) (d:Nat) (hn:n≤20) (ag:aU.length≤3) (aC:∀ s∈aU,jw s d):jw (.mk 7 [] [] n [] aU []) (d+1)
 |halt (d:Nat):jw (.mk 8 [] [] 0 [] [] []) (d+1)
theorem jw.right:∀ {d bW:Nat}{s:aP},jw s d→d≤bW→jx s bW
 |d,0,s,h,hd=>by cases h<;>omega
 |d,bW+1,s,h,hd=>by
  have m5:∀ {a:aX},e1 a 5→e1 a 30:=fun h=>h.mono (by omega);cases h with
  |set m a d h ai=>exact .set m a bW h (m5 ai)
  |get m f n d h aZ hn=>exact .get m f n bW h aZ hn
  |put m n a d h hn ai=>exact .put m n a bW h hn (m5 ai)
  |store m a b d h ai T=>exact .store m a b bW h (m5 ai) (m5 T)
  |lock m aU d h ag aC=>exact .lock m aU bW h fun s ak=>jw.right (aC s ak) (by omega)
  |cond a aU bz d ai ag cW aC aK=>exact .cond a aU bz bW (m5 ai) (fun s ak=>jw.right (aC s ak) (by omega)) fun s ak=>jw.right (aK s ak) (by omega)
  |rW n aU d hn ag aC=>exact .rW n aU bW hn fun s ak=>jw.right (aC s ak) (by omega)
  |halt d=>exact .halt bW
theorem akW{c:fk}(aj:c.fm){s:List Int}(h:c.any=true∨c.free<c.cv.length):de (pA c s).1=true:=by
 unfold pA;split
 ·exact zM aj.cv
 ·rename_i hn;have aZ:c.free<c.cv.length:=by rcases h with h|h;exact absurd h hn;exact h
  have:=nr (eZ false s c.cv).2 (n:=c.cv.length-c.free) (by omega);show de (c.cv.getD (c.free+(bf (eZ false s c.cv).2 (c.cv.length-c.free)).1) [])=true;rw[List.getD_eq_getElem?_getD,hi (by omega)];exact aj.cv _ (Lr _)
theorem fk.fm.ly{c:fk}(aj:c.fm){r:aD}(hr:de r=true)(f:Nat):(ly c r f).fm:=⟨aj.c2,aj.cv,fun m hm=>by
 rcases Aa.1 hm with hm|hm
 ·exact aj.held m hm
 ·rw[Iw.1 hm];exact hr⟩
theorem Vg{one:List Int→aP × List Int}{P:aP→Prop}(A:∀ s,P (one s).1):∀(n:Nat) (s:List Int),∀ x∈(mu one n s).1,P x
 |0,s,x,af=>by simp[mu]at af
 |n+1,s,x,af=>by
  simp only[mu,oj]at af;rcases af with rfl|af
  ·exact A s
  ·exact Vg A n _ x af
theorem adG{d:Nat}{c:fk}(aj:c.fm){rec:Option (fk→List Int→List aP × List Int)}(hr:∀ f,rec=some f→∀ c:fk,c.fm→∀ s,(f c s).1.length≤3∧∀ x∈(f c s).1,jw x d){hC:aD}(ag:de hC=true)(k:Nat)(s:List Int):jw (rf rec c hC k s).1 (d+1):=by
 have ex:∀(e:Nat) (s:List Int),e≤4→e1 (eG c e s).1 5:=fun e s aK=>(CL aj e s).mono (by omega);unfold rf;split
 ·exact .get _ _ _ _ ag (zM aj.c2) (by have:=nr (eZ c.any s c.c2).2 (n:=4) (by omega);omega)
 ·split
  ·exact .put _ _ _ _ (zM aj.c2) (by have:=nr (eZ c.any s c.c2).2 (n:=4) (by omega);omega) (ex _ _ (by omega))
  ·split
   ·exact .store _ _ _ _ (zM aj.held) (ex _ _ (by omega)) (ex _ _ (by omega))
   ·split
    ·exact .halt _
    ·split
     ·exact .set _ _ _ ag (ex _ _ (by omega))
     ·rename_i ap6;split
      ·rename_i aG;have hn:=akW aj (s:=s) aG.2;obtain⟨a,b⟩:=hr _ rfl (ly c (pA c s).1 (pA c s).2.1) (aj.ly hn _) (pA c s).2.2;exact .lock _ _ _ hn a b
      ·split
       ·obtain⟨a,b⟩:=hr _ rfl c aj (eG c 3 s).2;obtain⟨a',b'⟩:=hr _ rfl c aj (ap6 c (eG c 3 s).2).2;exact .cond _ _ _ _ (ex _ _ (by omega)) a a' b b'
       ·split
        ·obtain⟨a,b⟩:=hr _ rfl c aj (bf s 5).2;exact .rW _ _ _ (by have:=nr s (n:=5) (by omega);omega) a b
        ·exact .set _ _ _ ag (ex _ _ (by omega))
theorem Vf:∀(d:Nat) (c:fk),c.fm→∀ s,(ow d c s).1.length≤3∧∀ x∈(ow d c s).1,jw x (d+1)
 |0,c,aj,s=>⟨by have:=adL 0 c s;omega,Vg (fun s=>adG aj (fun f h=>by cases h) (zM VI) _ _) _ _⟩
 |d+1,c,aj,s=>⟨by have:=adL (d+1) c s;omega,Vg (fun s=>adG aj (fun f h c aj s=>by cases h;exact Vf d c aj s) (zM VI) _ _) _ _⟩
theorem Ug(kt:List (aD))(m:Nat)(hm:0<m):∀(k j:Nat) (s:List Int) (d:Nm),d∈(fW kt m k j s).1→∃ i,j≤i∧i<j+k∧d.name=kt.getD i []∧1≤d.n∧d.n≤m
 |0,j,s,d,h=>by simp[fW]at h
 |k+1,j,s,d,h=>by
  simp only[fW,oj]at h;rcases h with rfl|h
  ·refine⟨j,by omega,by omega,rfl,?_,?_⟩
   ·show(1:Int)≤((1+(bf s m).1:Nat):Int);omega
   ·have:=nr s hm;show((1+(bf s m).1:Nat):Int)≤m;omega
  ·obtain⟨i,a,b,c⟩:=Ug kt m hm k (j+1) _ d h;exact⟨i,by omega,by omega,c⟩
structure dO.fm(t:dO):Prop where
 name:de t.name=true
 cB:0≤t.cB∧t.cB≤3
 prio:1≤t.prio∧t.prio≤7
 line:0≤t.line∧t.line≤(if t.ga then 7 else 0)
 len:t.body.length≤3
 body:∀ s∈t.body,jw s 4
theorem jw.mono:∀ {d bW:Nat}{s:aP},jw s d→d≤bW→jw s bW
 |d,0,s,h,hd=>by cases h<;>omega
 |d,bW+1,s,h,hd=>by
  cases h with
  |set m a d h ai=>exact .set m a bW h ai
  |get m f n d h aZ hn=>exact .get m f n bW h aZ hn
  |put m n a d h hn ai=>exact .put m n a bW h hn ai
  |store m a b d h ai T=>exact .store m a b bW h ai T
  |lock m aU d h ag aC=>exact .lock m aU bW h ag fun s ak=>jw.mono (aC s ak) (by omega)
  |cond a aU bz d ai ag cW aC aK=>exact .cond a aU bz bW ai ag cW (fun s ak=>jw.mono (aC s ak) (by omega)) fun s ak=>jw.mono (aK s ak) (by omega)
  |rW n aU d hn ag aC=>exact .rW n aU bW hn ag fun s ak=>jw.mono (aC s ak) (by omega)
  |halt d=>exact .halt bW
theorem aqT:∀ j:Fin 3,de (Ev.getD j.val [])=true:=by decide
theorem ajv:∀ j:Fin 3,de (Dp.getD j.val [])=true:=by decide
theorem ah9:∀ j:Fin 3,de (kD.getD j.val [])=true:=by decide
theorem apB:∀ j:Fin 2,de (kT.getD j.val [])=true:=by decide
theorem ae8{c:fk}(aj:c.fm):∀(k j:Nat),j+k≤3→∀(s:List Int),∀ t∈(kW c k j s).1,t.fm
 |0,j,_,s,t,h=>by simp[kW]at h
 |k+1,j,bn,s,t,h=>by
  simp only[kW,oj]at h;rcases h with rfl|h
  ·have A:=nr s (n:=3) (by omega);obtain⟨a,b⟩:=Vf 3 c aj (bf s 3).2;exact⟨aqT ⟨j,by omega⟩,by show(0:Int)≤(j:Int)∧(j:Int)≤3;omega,by show(1:Int)≤((1+(bf s 3).1:Nat):Int)∧((1+(bf s 3).1:Nat):Int)≤7;omega,by show(0:Int)≤0∧(0:Int)≤0;omega,a,b⟩
  ·exact ae8 aj k (j+1) (by omega) _ t h
theorem Zw{c:fk}(aj:c.fm){H:Nat}(sh:1≤H∧H≤3):∀(k j:Nat),j+k≤3→∀(s:List Int),∀ t∈(k9 c H k j s).1,t.fm
 |0,j,_,s,t,h=>by simp[k9]at h
 |k+1,j,bn,s,t,h=>by
  simp only[k9,oj]at h;rcases h with rfl|h
  ·have A:=nr s (n:=H) (by omega);have S:=nr (bf s H).2 (n:=4) (by omega);have ae:=nr (bf (bf s H).2 4).2 (n:=2) (by omega);obtain⟨a,b⟩:=Vf 2 c aj (bf (bf (bf s H).2 4).2 2).2;exact⟨ajv ⟨j,by omega⟩,by show(0:Int)≤((bf s H).1:Int)∧((bf s H).1:Int)≤3;omega,by show(1:Int)≤((4+(bf (bf s H).2 4).1:Nat):Int)∧((4+(bf (bf s H).2 4).1:Nat):Int)≤7;omega,
    by show(0:Int)≤((j+(bf (bf (bf s H).2 4).2 2).1*4:Nat):Int)∧((j+(bf (bf (bf s H).2 4).2 2).1*4:Nat):Int)≤7;omega,a,fun x af=>(b x af).mono (by omega)⟩
  ·exact Zw aj sh k (j+1) (by omega) _ t h
structure gS.fm(g:gS):Prop where
 bS:1≤g.bS∧g.bS≤3
 c2:∀ d∈g.c2,de d.name=true∧1≤d.n∧d.n≤3
 cv:∀ d∈g.cv,de d.name=true∧1≤d.n∧d.n≤8
 db:∀ t∈g.db,t.fm
 cw:g.c2.length≤3
 cY:g.cv.length≤2
 hb:1≤g.db.length∧g.db.length≤6
theorem aoD(raw:List Int)(all:Bool):(Ea raw all).fm:=by
 unfold Ea;dsimp only;have A:=nr (raw.take 400) (n:=3) (by omega);generalize bf (raw.take 400) 3=a at *;have S:=nr a.2 (n:=3) (by omega);generalize bf a.2 3=bI at *;have ae:=Ug kD 3 (by omega) (bI.1+1) 0 bI.2;have asj:=q4 kD 3 (bI.1+1) 0 bI.2;generalize fW kD 3 (bI.1+1) 0 bI.2=bG at *;have aB:=nr bG.2 (n:=3) (by omega);generalize bf bG.2 3=iI at *;have aG:=Ug kT 8 (by omega) iI.1 0 iI.2;have asm:=q4 kT 8 iI.1 0 iI.2;generalize fW kT 8 iI.1 0 iI.2=b3 at *;have KJ:∀ d∈bG.1,de d.name=true∧1≤d.n∧d.n≤3:=fun d hd=>by
  obtain⟨i,_,b,c,e⟩:=ae d hd;exact⟨by rw[c];exact ah9 ⟨i,by omega⟩,e⟩
 have YK:∀ d∈b3.1,de d.name=true∧1≤d.n∧d.n≤8:=fun d hd=>by
  obtain⟨i,_,b,c,e⟩:=aG d hd;exact⟨by rw[c];exact apB ⟨i,by omega⟩,e⟩
 have aj:fk.fm ⟨bG.1.map (·.name),b3.1.map (·.name),0,[],all⟩:=⟨fun m hm=>by
  obtain⟨d,hd,rfl⟩:=Is.1 hm;exact(KJ d hd).1,fun m hm=>by
  obtain⟨d,hd,rfl⟩:=Is.1 hm;exact(YK d hd).1,fun m hm=>by simp at hm⟩
 generalize (⟨bG.1.map (·.name),b3.1.map (·.name),0,[],all⟩:fk)=c at *;have a1:=ae8 aj (1+a.1) 0 (by omega) b3.2;have asn:=MU c (1+a.1) 0 b3.2;generalize kW c (1+a.1) 0 b3.2=ts at *;have bN:=nr ts.2 (n:=4) (by omega);generalize bf ts.2 4=q3 at *;have b7:=Zw aj (H:=1+a.1) (by omega) q3.1 0 (by omega) q3.2;have aso:=GG c (1+a.1) q3.1 0 q3.2;generalize k9 c (1+a.1) q3.1 0 q3.2=ak at *;refine⟨by show(1:Int)≤((1+a.1:Nat):Int)∧((1+a.1:Nat):Int)≤3;omega,KJ,YK,fun t aC=>?_,by show bG.1.length≤3;omega,by show b3.1.length≤2;omega,?_⟩
 ·rcases Aa.1 aC with aC|aC
  ·exact a1 t aC
  ·exact b7 t aC
 ·show 1≤(ts.1++ak.1).length∧(ts.1++ak.1).length≤6;rw[ap];omega
theorem gS.fm.right{g:gS}(aA:g.fm):mT g=true:=by
 have A:=aA.bS;have S:=aA.cw;have ae:=aA.cY;have aB:=aA.hb;simp only[mT,Bool.and_eq_true,decide_eq_true_eq,nU];refine⟨⟨⟨⟨⟨⟨by omega,by omega⟩,by omega⟩,by omega⟩,fun d hd=>?_⟩,fun d hd=>?_⟩,fun t aC=>?_⟩
 ·have:=aA.c2 d hd;simp only[jO,Bool.and_eq_true,decide_eq_true_eq];exact⟨this.1,this.2⟩
 ·have:=aA.cv d hd;simp only[jY,Bool.and_eq_true,decide_eq_true_eq];exact⟨this.1,this.2⟩
 ·have aC:=aA.db t aC;simp only[js,Bool.and_eq_true,decide_eq_true_eq,we,nU];exact⟨⟨⟨⟨aC.name,aC.cB⟩,aC.prio⟩,aC.line⟩,fun s ak=>(Cl 30 s).2 ((aC.body s ak).right (by omega))⟩
theorem aqj(h:J)(a:Int){d r t:Value}(hd:gN d)(hr:gN r)(aC:gN t):cz 4 (h.alloc (.aq M2 true)) [aH h.next 0,.agg #[I a,d,r,t]]=some (b0,h.alloc (.aq [I a,d,r,t] true)):=by
 obtain⟨_,_,_,rfl⟩:=hd;obtain⟨_,_,_,rfl⟩:=hr;obtain⟨_,_,_,rfl⟩:=aC;exact kk rfl rfl rfl rfl
theorem Made.e6{n:Nat}{h:J}{g:gS}{d r t:Value}{xs:List (ar)}(hm:Made n h g d r t xs):gN d∧gN r∧gN t:=⟨cT.e6 hm.hd.plain,cT.e6 hm.hr.plain,cT.e6 hm.aC.vW⟩
theorem UA{t K:Nat}:∀ {l:List aP},(∀ s∈l,(gy t s).length≤K)→(cJ t l).length≤l.length*K
 |[],_=>by simp[cJ]
 |a::r,h=>by
  have A:=h a (by simp);have S:=UA (l:=r) fun s ak=>h s (by simp[ak]);simp only[cJ,ap,hR,IQ];omega
theorem yt{n:Nat}(h:n<4294967296):(bs n).length≤10:=N7 9 n (by omega)
theorem aca:∀(d:Nat) (s:aP),jw s d→∀ t,t+d≤10→(gy t s).length≤3000*7 ^ d
 |0,s,h,t,_=>by cases h
 |d+1,s,h,t,aC=>by
  have h2:∀ {a:aX},e1 a 5→(bU a).length≤930:=fun h=>by have:=Vo h;omega
  have sub:∀ {l:List aP},l.length≤3→(∀ s∈l,jw s d)→(cJ (t+1) l).length≤3*(3000*7 ^ d):=fun {l} ag ak=>by
   refine rI (UA fun s h=>aca d s (ak s h) (t+1) (by omega)) ?_;exact HA _ ag
  have hp:1≤7 ^ d:=Nat.one_le_pow _ _ (by omega);rw[Nat.pow_succ];cases h with
  |set m a d h ai =>
   have:=qY h;have:=h2 ai;simp[gy,oR,dA,bR,pa];omega
  |get m f n d h aZ hn =>
   have:=qY h;have:=qY aZ;have:=yt (n:=n) (by omega);simp[gy,oR,dA,bR];omega
  |put m n a d h hn ai =>
   have:=qY h;have:=h2 ai;have:=yt (n:=n) (by omega);simp[gy,oR,dA,bR,pa];omega
  |store m a b d h ai T =>
   have:=qY h;have:=h2 ai;have:=h2 T;simp[gy,oR,dA,bR,pa,wy];omega
  |lock m aU d h ag ak =>
   have:=qY h;have:=sub ag ak;simp[gy,oR,dA,bR,kC,cJ];omega
  |cond a aU bz d ai ag cW ak eh =>
   have:=h2 ai;have:=sub ag ak;have:=sub cW eh;simp[gy,oR,dA,bR,kC,pa];split<;>simp<;>omega
  |rW n aU d hn ag ak =>
   have:=yt (n:=n) (by omega);have:=sub ag ak;simp[gy,oR,dA,bR,kC,cJ];omega
  |halt d=>simp[gy,oR,dA,bR];omega
theorem tP{c1:Type}{K:Nat}{f:c1→aD}:∀ {l:List c1},(∀ x∈l,(f x).length≤K)→((l.map f).flatten).length≤l.length*K
 |[],_=>by simp
 |a::r,h=>by
  have A:=h a (by simp);have S:=tP (l:=r) (f:=f) fun s ak=>h s (by simp[ak]);simp only[Fx,z8,ap,hR,IQ];omega
theorem aoy{t:dO}(aC:t.fm):(fh t).length≤30000000:=by
 have A:=qY aC.name;have S:=aC.cB;have ae:=aC.prio;have aB:t.line≤7:=by have:=aC.line.2;split at this<;>omega
 have aG:=UA (t:=1) fun s ak=>aca 4 s (aC.body s ak) 1 (by omega);have a1:=aC.len;have d1:=yt (n:=t.cB.toNat) (by omega);have d2:=yt (n:=t.prio.toNat) (by omega);have d3:=yt (n:=t.line.toNat) (by omega);have bN:t.body.length*(3000*7 ^ 4)≤3*(3000*7 ^ 4):=HA _ a1;unfold fh;split<;>simp[dA,bR,qN]<;>omega
theorem akC:∀ k:Fin 4,(sC.getD k.val []).length≤10:=by decide
theorem aow{g:gS}(aA:g.fm):(lZ g).length≤ez:=by
 have A:=aA.bS;have S:∀ d∈g.c2,(ir d).length≤100:=fun d hd=>by
  obtain⟨a,b,c⟩:=aA.c2 d hd;have:=qY a;have:=akC ⟨d.n.toNat,by omega⟩;simp[ir,dA,bR]at *;omega
 have ae:∀ d∈g.cv,(iR d).length≤100:=fun d hd=>by
  obtain⟨a,b,c⟩:=aA.cv d hd;have:=qY a;have:=yt (n:=d.n.toNat) (by omega);simp[iR,dA,bR];omega
 have f1:=tP S;have f2:=tP ae;have f3:=tP (f:=fh) fun t aC=>aoy (aA.db t aC);have l1:=aA.cw;have l2:=aA.cY;have aE:=aA.hb.2;have d1:=yt (n:=g.bS.toNat) (by omega);have m1:g.c2.length*100≤3*100:=HA _ l1;have m2:g.cv.length*100≤2*100:=HA _ l2;have m3:g.db.length*30000000≤6*30000000:=HA _ aE;unfold lZ ez;simp only[ap];have:(dA 0 [[104,97,114,116,115,32],bs g.bS.toNat]).length≤30:=by simp[dA,bR];omega
 omega
end Go.Eng.Sy
