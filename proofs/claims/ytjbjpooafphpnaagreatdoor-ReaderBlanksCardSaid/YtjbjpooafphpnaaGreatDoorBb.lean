/-
  Part of a proof of the laws of layer 07 (reader): what each function does.
  Conditions: none.
-/
import Derived.Test.YtjbjpooafphpnaaGreatDoorBa
import Derived.Shelf.Strconv.Itoa3
import Derived.Test.YtjbjpooafphpnaaGreatDoorEc
set_option linter.unusedSimpArgs false
set_option linter.unusedVariables false
namespace Go.Eng.Sy
open Go Go.Eng Go.Proofs
structure dO where
 name:aD
 ga:Bool
 cB:Int
 prio:Int
 line:Int
 body:List aP
structure Nm where
 name:aD
 n:Int
structure gS where
 bS:Int
 c2:List Nm
 cv:List Nm
 db:List dO
def wv(h:J)(t:dO)(x:ar):Prop:=∃ v,x=[str t.name,.bool t.ga,I t.cB,I t.prio,I t.line,v]∧hO h v t.body
def oB(h:J):List dO→List (ar)→Prop
 |[],xs=>xs=[]
 |e::r,xs=>∃ x fJ,xs=x::fJ∧wv h e x∧oB h r fJ
def mz(h:J)(v:Value)(l:List dO):Prop:=∃ xs,cT h 6 v xs∧xs.length≤140737488355328∧oB h l xs
def kl(h:J)(v:Value)(l:List Nm):Prop:=cT h 2 v (l.map fun d=>[str d.name,I d.n])∧l.length≤140737488355328
def pM(h:J)(p:gS)(x:ar):Prop:=∃ d r t,x=[I p.bS,d,r,t]∧kl h d p.c2∧kl h r p.cv∧mz h t p.db
theorem wv.mono{h D:J}(ag:h.le D){t:dO}{x:ar}(af:wv h t x):wv D t x:=let ⟨v,a,b⟩:=af;⟨v,a,b.mono ag⟩
theorem oB.mono{h D:J}(ag:h.le D):∀ {l:List dO}{xs:List (ar)},oB h l xs→oB D l xs
 |[],_,af=>af
 |_::_,_,⟨x,fJ,A,S,ae⟩=>⟨x,fJ,A,S.mono ag,oB.mono ag ae⟩
theorem mz.mono{h D:J}(ag:h.le D){v:Value}{l:List dO}(ad:mz h v l):mz D v l:=let ⟨xs,a,c,b⟩:=ad;⟨xs,a.mono ag,c,b.mono ag⟩
theorem kl.mono{h D:J}(ag:h.le D){v:Value}{l:List Nm}(ad:kl h v l):kl D v l:=⟨ad.1.mono ag,ad.2⟩
theorem pM.mono{h D:J}(ag:h.le D){p:gS}{x:ar}(af:pM h p x):pM D p x:=let ⟨d,r,t,a,b,c,e⟩:=af;⟨d,r,t,a,b.mono ag,c.mono ag,e.mono ag⟩
theorem oB.length{h:J}:∀ {l:List dO}{xs:List (ar)},oB h l xs→xs.length=l.length
 |[],_,af=>by rw[show _=[] from af];rfl
 |_::_,_,⟨x,fJ,A,S,ae⟩=>by rw[A];simp[oB.length ae]
theorem oB.get{h:J}:∀ {l:List dO}{xs:List (ar)},oB h l xs→∀(i:Nat) e,l[i]?=some e→∃ x,xs[i]?=some x∧wv h e x
 |[],_,_,i,e,au=>by simp at au
 |a::r,_,⟨x,fJ,A,S,ae⟩,0,e,au=>by simp at au;subst au;exact⟨x,by rw[A];rfl,S⟩
 |a::r,_,⟨x,fJ,A,S,ae⟩,i+1,e,au=>by
  obtain⟨y,aB,aG⟩:=oB.get ae i e (by simpa using au);exact⟨y,by rw[A];simpa using aB,aG⟩
theorem mz.len{h:J}{v:Value}{l:List dO}(ad:mz h v l):pD [v]=some (I l.length):=by
 obtain⟨xs,a,c,b⟩:=ad;rw[a.len,b.length]
theorem kl.len{h:J}{v:Value}{l:List Nm}(ad:kl h v l):pD [v]=some (I l.length):=by
 rw[ad.1.len];simp
theorem mz.one{h:J}{v:Value}{l:List dO}(ad:mz h v l):v.oneCell'=true:=ad.elim fun _ a=>cT.one a.1
theorem kl.one{h:J}{v:Value}{l:List Nm}(ad:kl h v l):v.oneCell'=true:=cT.one ad.1
def jO(d:Nm):Bool:=de d.name && decide (1≤d.n∧d.n≤3)
def jY(d:Nm):Bool:=de d.name && decide (1≤d.n∧d.n≤8)
def js(t:dO):Bool:=de t.name && decide (0≤t.cB∧t.cB≤3) && decide (1≤t.prio∧t.prio≤7) && decide (0≤t.line∧t.line≤(if t.ga then 7 else 0)) && hx t.body 30
def mT(p:gS):Bool:=decide (1≤p.bS∧p.bS≤4) && decide (p.c2.length≤8) && decide (p.cv.length≤8) && decide (p.db.length≤16) && p.c2.all jO && p.cv.all jY && p.db.all js
abbrev tz(m:aD)(b:Bool)(a p l:Int)(v:Value):Value:=.agg #[str m,.bool b,I a,I p,I l,v]
theorem I5{m:aD}{b:Bool}{a p l:Int}{v:Value}(ad:v.oneCell'=true):nB [tz m b a p l v]=some ([str m,.bool b,I a,I p,I l,v],fun id=>(aH id 0)):=by
 simpa[nB,Value.cells,Value.oneCell'] using ad
set_option maxHeartbeats 2000000 in
theorem aqE{h:J}{t:dO}{x:ar}(af:wv h t x)(Q:aT)(L:∀ D,h.le D→Q (.bool (js t)) D):bj Tryz.prog 57 [.agg x.toArray] h Q:=by
 obtain⟨v,rfl,ad⟩:=af;obtain⟨m,b,a,p,l,body⟩:=t;simp only at ad ⊢;have dJ:=I5 (m:=m) (b:=b) (a:=a) (p:=p) (l:=l) ad.one;have l1:=(J.le.refl h).alloc (.aq [str m,.bool b,I a,I p,I l,v] true);replace l1:=Hid.mk l1;replace ad:=Hid.mk ad;refine c7 (k:=2) an9 rfl rfl rfl fun N=>?_;rw[gE PU mZ rfl];delta PU;replace L:=U L;have hS:js ⟨m,b,a,p,l,body⟩=(de m && decide (0≤a∧a≤3) && decide (1≤p∧p≤7) && decide (0≤l∧l≤(if b then 7 else 0)) && hx body 30):=rfl;rw[hS]at L;clear hS;obtain⟨zL,hm⟩:∃ z:Int,(if b=true then 7 else 0:Int)=z:=⟨_,rfl⟩;rw[hm]at L;cases b with
 |true =>
  simp only[if_true]at hm;subst hm;simp only[aa,aw, *];refine vJ _ _ fun S ag=>?_;have ep:=ag.get (J.hy h (.aq [str m,.bool true,I a,I p,I l,v] true));have l2:=Hid.mk (l1.h.trans ag);clear ag l1 dJ;cases bk:de m with
  |false =>
   have g:=L.h S l2.h;simp only[pB,tG,HI,Ho,bk]at g;clear L;replace g:=Hid.mk g;simp only[aa, *];exact g.h
  |true =>
  simp only[aa,aw, *];refine xT _ _ _ _ _ ?_;cases bJ:decide (0≤a∧a≤3) with
  |false =>
   have g:=L.h S l2.h;simp only[pB,tG,HI,Ho,bk,bJ]at g;clear L;replace g:=Hid.mk g;simp only[aa, *];exact g.h
  |true =>
  simp only[aa,aw, *];refine xT _ _ _ _ _ ?_;cases dl:decide (1≤p∧p≤7) with
  |false =>
   have g:=L.h S l2.h;simp only[pB,tG,HI,Ho,bk,bJ,dl]at g;clear L;replace g:=Hid.mk g;simp only[aa, *];exact g.h
  |true =>
  simp only[aa,aw, *];refine xT _ _ _ _ _ ?_;cases fa:decide (0≤l∧l≤7) with
  |false =>
   have g:=L.h S l2.h;simp only[pB,tG,HI,Ho,bk,bJ,dl,fa]at g;clear L;replace g:=Hid.mk g;simp only[aa, *];exact g.h
  |true =>
  simp only[aa,aw, *];refine Wq 30 (by omega) body v _ _ (ad.h.mono l2.h) fun ae aE=>?_;have g:=L.h ae (l2.h.trans aE);simp only[pB,bk,bJ,dl,fa]at g;clear L aE;replace g:=Hid.mk g;simp only[aa, *];exact g.h
 |false =>
  simp only[LZ,if_false]at hm;subst hm;simp only[aa,aw, *];refine vJ _ _ fun S ag=>?_;have ep:=ag.get (J.hy h (.aq [str m,.bool false,I a,I p,I l,v] true));have l2:=Hid.mk (l1.h.trans ag);clear ag l1 dJ;cases bk:de m with
  |false =>
   have g:=L.h S l2.h;simp only[pB,tG,HI,Ho,bk]at g;clear L;replace g:=Hid.mk g;simp only[aa, *];exact g.h
  |true =>
  simp only[aa,aw, *];refine xT _ _ _ _ _ ?_;cases bJ:decide (0≤a∧a≤3) with
  |false =>
   have g:=L.h S l2.h;simp only[pB,tG,HI,Ho,bk,bJ]at g;clear L;replace g:=Hid.mk g;simp only[aa, *];exact g.h
  |true =>
  simp only[aa,aw, *];refine xT _ _ _ _ _ ?_;cases dl:decide (1≤p∧p≤7) with
  |false =>
   have g:=L.h S l2.h;simp only[pB,tG,HI,Ho,bk,bJ,dl]at g;clear L;replace g:=Hid.mk g;simp only[aa, *];exact g.h
  |true =>
  simp only[aa,aw, *];refine xT _ _ _ _ _ ?_;cases fa:decide (0≤l∧l≤0) with
  |false =>
   have g:=L.h S l2.h;simp only[pB,tG,HI,Ho,bk,bJ,dl,fa]at g;clear L;replace g:=Hid.mk g;simp only[aa, *];exact g.h
  |true =>
  simp only[aa,aw, *];refine Wq 30 (by omega) body v _ _ (ad.h.mono l2.h) fun ae aE=>?_;have g:=L.h ae (l2.h.trans aE);simp only[pB,bk,bJ,dl,fa]at g;clear L aE;replace g:=Hid.mk g;simp only[aa, *];exact g.h
abbrev ks(m:aD)(k:Int):Value:=.agg #[str m,I k]
theorem WV(m:aD)(k:Int):nB [ks m k]=some ([str m,I k],fun id=>(aH id 0)):=rfl
theorem ah5(d:Nm)(h:J)(Q:aT)(L:∀ D,h.le D→Q (.bool (!jO d)) D):bj Tryz.prog 52 [.agg #[str d.name,I d.n]] h Q:=by
 obtain⟨m,k⟩:=d;have dJ:=WV m k;have l1:=(J.le.refl h).alloc (.aq [str m,I k] true);replace l1:=Hid.mk l1;refine c7 (k:=2) an4 rfl rfl rfl fun N=>?_;rw[gE PO mY rfl];delta PO;replace L:=U L;have hS:jO ⟨m,k⟩=(de m && decide (1≤k∧k≤3)):=rfl;rw[hS]at L;clear hS;simp only[aa,aw, *];refine vJ _ _ fun S ag=>?_;have ep:=ag.get (J.hy h (.aq [str m,I k] true));have g:=L.h S (l1.h.trans ag);clear L ag l1 dJ;cases bk:de m with
 |false =>
  simp only[bk,tG,TZ]at g;replace g:=Hid.mk g;simp only[aa, *];exact g.h
 |true =>
  simp only[bk,pB]at g;replace g:=Hid.mk g;simp only[aa,aw, *];refine xT _ _ _ _ _ ?_;simp only[aa, *];exact g.h
theorem apz(d:Nm)(h:J)(Q:aT)(L:∀ D,h.le D→Q (.bool (!jY d)) D):bj Tryz.prog 55 [.agg #[str d.name,I d.n]] h Q:=by
 obtain⟨m,k⟩:=d;have dJ:=WV m k;have l1:=(J.le.refl h).alloc (.aq [str m,I k] true);replace l1:=Hid.mk l1;refine c7 (k:=2) an7 rfl rfl rfl fun N=>?_;rw[gE PS mY rfl];delta PS;replace L:=U L;have hS:jY ⟨m,k⟩=(de m && decide (1≤k∧k≤8)):=rfl;rw[hS]at L;clear hS;simp only[aa,aw, *];refine vJ _ _ fun S ag=>?_;have ep:=ag.get (J.hy h (.aq [str m,I k] true));have g:=L.h S (l1.h.trans ag);clear L ag l1 dJ;cases bk:de m with
 |false =>
  simp only[bk,tG,TZ]at g;replace g:=Hid.mk g;simp only[aa, *];exact g.h
 |true =>
  simp only[bk,pB]at g;replace g:=Hid.mk g;simp only[aa,aw, *];refine xT _ _ _ _ _ ?_;simp only[aa, *];exact g.h
theorem aqC{t:dO}{x:ar}{h:J}(af:wv h t x)(Q:aT)(L:∀ D,h.le D→Q (.bool (!js t)) D):bj Tryz.prog 56 [.agg x.toArray] h Q:=by
 have ht:=af;obtain⟨v,rfl,ad⟩:=af;have dJ:=I5 (m:=t.name) (b:=t.ga) (a:=t.cB) (p:=t.prio) (l:=t.line) ad.one;have l1:=(J.le.refl h).alloc (.aq [str t.name,.bool t.ga,I t.cB,I t.prio,I t.line,v] true);have eK:=ht.mono l1;replace l1:=Hid.mk l1;replace eK:=Hid.mk eK;clear ht ad;refine c7 (k:=2) an8 rfl rfl rfl fun N=>?_;rw[gE PT mY rfl];delta PT;replace L:=U L;simp only[aa,aw,Mo, *];refine aqE eK.h _ fun S ag=>?_;have g:=L.h S (l1.h.trans ag);clear ag;replace g:=Hid.mk g;simp only[aa, *];exact g.h
abbrev aot(n:Int)(d r t:Value):Value:=.agg #[I n,d,r,t]
theorem yj{n:Int}{d r t:Value}(A:d.oneCell'=true)(S:r.oneCell'=true)(ae:t.oneCell'=true):nB [aot n d r t]=some ([I n,d,r,t],fun id=>(aH id 0)):=by
 simpa[nB,Value.cells,Value.oneCell'] using⟨A,S,ae⟩
theorem Nv{c1:Type}(l:List c1)(p:c1→Bool):(!(l.any fun e=>!p e))=l.all p:=by rw[List.all_eq_not_any_not]
theorem abu{l:List Nm}{i:Nat}{e:Nm}{x:ar}(aK:l[i]?=some e)(af:(l.map fun d=>[str d.name,Value.int .i64 d.n])[i]?=some x):x=[str e.name,I e.n]:=by
 simp[aK]at af;exact af.symm
set_option maxHeartbeats 2000000 in
theorem VX{h:J}{p:gS}{x:ar}(af:pM h p x)(Q:aT)(L:∀ D,h.le D→Q (.bool (mT p)) D):bj Tryz.prog 23 [.agg x.toArray] h Q:=by
 obtain⟨d,r,t,rfl,hd,hr,aC⟩:=af;obtain⟨n,c2,cv,db⟩:=p;simp only at hd hr aC ⊢;have dJ:=yj (n:=n) hd.one hr.one aC.one;have l1:=(J.le.refl h).alloc (.aq [I n,d,r,t] true);have ep:=J.hy h (.aq [I n,d,r,t] true);obtain⟨q,gb⟩:∃ q,h.next=q:=⟨_,rfl⟩;obtain⟨A,hh⟩:∃ A,h.alloc (.aq [I n,d,r,t] true)=A:=⟨_,rfl⟩;rw[hh,gb]at ep;rw[hh]at l1;replace l1:=Hid.mk l1;have kr:=hd.len;have at7:=hr.len;obtain⟨ts,kb,SW,G4⟩:=aC;have lt:=kb.len;rw[G4.length]at lt;have aV:=G4.length;replace hd:=Hid.mk hd;replace hr:=Hid.mk hr;replace kb:=Hid.mk kb;replace G4:=Hid.mk G4;refine c7 (k:=2) amF rfl rfl rfl fun N=>?_;rw[gE Ph qj rfl];delta Ph;replace L:=U L;have hS:mT ⟨n,c2,cv,db⟩=(decide (1≤n∧n≤4) && decide (c2.length≤8) && decide (cv.length≤8) && decide (db.length≤16) && c2.all jO && cv.all jY && db.all js):=rfl;rw[hS]at L;clear hS;simp only[aa,aw, *];refine xT _ _ _ _ _ ?_;clear hh gb dJ;cases bk:decide (1≤n∧n≤4) with
 |false =>
  have g:=L.h A l1.h;simp only[pB,tG,HI,Ho,Xv,TZ,bk]at g;clear L;replace g:=Hid.mk g;simp only[aa, *];exact g.h
 |true =>
 by_cases bJ:c2.length≤8
 case neg =>
  have agq:¬(c2.length:Int)≤8:=by omega
  have agp:=decide_eq_false bJ;have g:=L.h A l1.h;simp only[pB,tG,HI,Ho,Xv,TZ,bk,agp]at g;clear L;replace g:=Hid.mk g;simp only[aa,aw,av,ay, *];exact g.h
 have agq:(c2.length:Int)≤8:=by omega
 have E1:=decide_eq_true bJ;by_cases dl:cv.length≤8
 case neg =>
  have agt:¬(cv.length:Int)≤8:=by omega
  have ags:=decide_eq_false dl;have g:=L.h A l1.h;simp only[pB,tG,HI,Ho,Xv,TZ,bk,E1,ags]at g;clear L;replace g:=Hid.mk g;simp only[aa,aw,av,ay, *];exact g.h
 have agt:(cv.length:Int)≤8:=by omega
 have Ke:=decide_eq_true dl;by_cases fa:db.length≤16
 case neg =>
  have agu:¬(db.length:Int)≤16:=by omega
  have PL:=decide_eq_false fa;have g:=L.h A l1.h;simp only[pB,tG,HI,Ho,Xv,TZ,bk,E1,Ke,PL]at g;clear L;replace g:=Hid.mk g;simp only[aa,aw,av,ay, *];exact g.h
 have agu:(db.length:Int)≤16:=by omega
 have uX:=decide_eq_true fa;simp only[aa,aw,av,ay, *];refine agP (p:=fun e=>!jO e) (hd.h.mono l1.h).1 (by simp) hd.h.2 (fun i e x aK af S wl bC cN=>?_) _ fun v2 S fD bC=>?_
 ·refine bj.val (first:=#[]) (captured:=#[]) ?_;obtain rfl:=abu aK af;exact ah5 e S wl fun D cW=>cN _ _ rfl cW
 subst fD;have dV:=bC.get ep;have l2:=Hid.mk (l1.h.trans bC);clear ep l1 bC;have c8:=Nv c2 jO;cases j2:c2.all jO with
 |false =>
  rw[j2]at c8;have g:=L.h S l2.h;simp only[pB,tG,HI,Ho,Xv,TZ,bk,E1,Ke,uX,j2]at g;clear L;replace g:=Hid.mk g;simp only[aa, *];exact g.h
 |true =>
 rw[j2]at c8;simp only[aa,aw, *];refine agR (p:=fun e=>!jY e) (hr.h.mono l2.h).1 (by simp) hr.h.2 (fun i e x aK af S wl bC cN=>?_) _ fun v2 ae fD bC=>?_
 ·refine bj.val (first:=#[]) (captured:=#[]) ?_;obtain rfl:=abu aK af;exact apz e S wl fun D cW=>cN _ _ rfl cW
 subst fD;have hz:=bC.get dV;have aE:=Hid.mk (l2.h.trans bC);clear dV l2 bC c8;have c8:=Nv cv jY;cases pb:cv.all jY with
 |false =>
  rw[pb]at c8;have g:=L.h ae aE.h;simp only[pB,tG,HI,Ho,Xv,TZ,bk,E1,Ke,uX,j2,pb]at g;clear L;replace g:=Hid.mk g;simp only[aa, *];exact g.h
 |true =>
 rw[pb]at c8;simp only[aa,aw, *];refine agT (p:=fun e=>!js e) (kb.h.mono aE.h) aV (by omega) (fun i e x aK af S wl bC cN=>?_) _ fun v2 aB fD bC=>?_
 ·refine bj.val (first:=#[]) (captured:=#[]) ?_;obtain⟨hZ,gG,dr⟩:=G4.h.get i e aK;rw[af]at gG;cases gG;exact aqC (dr.mono (aE.h.trans bC)) wl fun D cW=>cN _ _ rfl cW
 subst fD;clear c8;have c8:=Nv db js;have g:=L.h aB (aE.h.trans bC);simp only[pB,bk,E1,Ke,uX,j2,pb]at g;rw[← c8]at g;clear L bC c8;replace g:=Hid.mk g;simp only[aa, *];exact g.h
mutual
def E6:aX→Nat
 |.mk _ _ _ _ args=>1+r9 args
def r9:List aX→Nat
 |[]=>0
 |e::r=>E6 e+r9 r
end
mutual
def E7:aP→Nat
 |.mk _ _ _ _ args aU bz=>1+r9 args+qz aU+qz bz
def qz:List aP→Nat
 |[]=>0
 |s::r=>E7 s+qz r
end
theorem XL(e:aX):E6 e=1+r9 e.args:=by cases e;simp[E6,aX.args]
theorem XM(e:aP):E7 e=1+r9 e.args+qz e.aU+qz e.bz:=by cases e;simp[E7,aP.args,aP.aU,aP.bz]
theorem QP:∀ {l:List aX}{i:Nat}{e:aX},l[i]?=some e→E6 e≤r9 l
 |[],i,e,h=>by simp at h
 |a::r,0,e,h=>by simp at h;subst h;simp[r9]
 |a::r,i+1,e,h=>by have:=QP (l:=r) (i:=i) (by simpa using h);simp[r9];omega
theorem QQ:∀ {l:List aP}{i:Nat}{e:aP},l[i]?=some e→E7 e≤qz l
 |[],i,e,h=>by simp at h
 |a::r,0,e,h=>by simp at h;subst h;simp[qz]
 |a::r,i+1,e,h=>by have:=QQ (l:=r) (i:=i) (by simpa using h);simp[qz];omega
theorem aqu(h:J)(k n:Int)(m f:aD){v u w:Value}(ad:v.oneCell'=true)(hu:u.oneCell'=true)(ax:w.oneCell'=true):cz 7 (h.alloc (.aq [I 0,aI,aI,I 0,bx,bx,bx] true)) [aH h.next 0,kw k m f n v u w] =
  some (b0,h.alloc (.aq [I k,str m,str f,I n,v,u,w] true)):=kk rfl rfl rfl (by simpa[Value.oneCell'] using⟨ad,hu,ax⟩)
theorem mz.elem{h:J}{v:Value}{l:List dO}(ad:mz h v l){i:Nat}{e:dO}(au:l[i]?=some e) :
  ∃ id off cells own u,oU 6 [v,I i]=some (aH id off)∧h.get id=some (.aq cells own)∧gI true off 6 cells=some (tz e.name e.ga e.cB e.prio e.line u)∧hO h u e.body:=by
 obtain⟨xs,a,c,b⟩:=ad;obtain⟨x,A,u,rfl,S⟩:=b.get i e au;obtain⟨id,off,cells,own,g1,g2,g3,g4⟩:=a.elem A;exact⟨id,off,cells,own,u,g1,g2,g3,S⟩
theorem mz.le{h:J}{v:Value}{l:List dO}(ad:mz h v l):l.length≤140737488355328:=by
 obtain⟨xs,a,c,b⟩:=ad;rw[← b.length];exact c
theorem Vh(h:J)(m:aD)(b:Bool)(a p l:Int){v:Value}(ad:v.oneCell'=true):cz 6 (h.alloc (.aq [aI,.bool false,I 0,I 0,I 0,bx] true)) [aH h.next 0,tz m b a p l v] =
  some (b0,h.alloc (.aq [str m,.bool b,I a,I p,I l,v] true)):=kk rfl rfl rfl (by simpa[Value.oneCell'] using ad)
end Go.Eng.Sy
namespace Go.Proofs
open Go.Shelf
def aaK:Go.Shelf.Ren:=⟨fun|171=>43|243=>92|246=>125|283=>147|284=>148|285=>149|286=>150|129=>167|317=>166|318=>168|319=>169|320=>170|337=>180|338=>181|n=>n,fun|3=>3|9=>9|2=>2|4=>4|171=>184|0=>0|53=>181|37=>88|5=>5|173=>187|212=>209|51=>151|20=>20|213=>210|46=>164|232=>229|233=>230|n=>n,fun|17=>0|18=>2|19=>3|n=>n⟩
theorem akK:Go.Proofs.LaysM.n171 Tryz.prog aaK where
 mixed:=by kernel_rfl
 f129:=Tryz.func167.trans (congrArg some (by kernel_rfl))
 f171:=Tryz.func43.trans (congrArg some (by kernel_rfl))
 f243:=Tryz.func92.trans (congrArg some (by kernel_rfl))
 f246:=Tryz.func125.trans (congrArg some (by kernel_rfl))
 f283:=Tryz.func147.trans (congrArg some (by kernel_rfl))
 f284:=Tryz.func148.trans (congrArg some (by kernel_rfl))
 f285:=Tryz.func149.trans (congrArg some (by kernel_rfl))
 f286:=Tryz.func150.trans (congrArg some (by kernel_rfl))
 f317:=Tryz.func166.trans (congrArg some (by kernel_rfl))
 f318:=Tryz.func168.trans (congrArg some (by kernel_rfl))
 f319:=Tryz.func169.trans (congrArg some (by kernel_rfl))
 f320:=Tryz.func170.trans (congrArg some (by kernel_rfl))
 f337:=Tryz.func180.trans (congrArg some (by kernel_rfl))
 f338:=Tryz.func181.trans (congrArg some (by kernel_rfl))
 t0:=Tryz.underlying0
 a0:=Tryz.isAgg0
 z0:=Tryz.sizeOf0
 v0:=Tryz.zeroValue0
 t2:=Tryz.underlying2
 a2:=Tryz.isAgg2
 z2:=Tryz.sizeOf2
 v2:=Tryz.zeroValue2
 t3:=Tryz.underlying3
 a3:=Tryz.isAgg3
 z3:=Tryz.sizeOf3
 v3:=Tryz.zeroValue3
 t4:=Tryz.underlying4
 a4:=Tryz.isAgg4
 z4:=Tryz.sizeOf4
 v4:=Tryz.zeroValue4
 t5:=Tryz.underlying5
 a5:=Tryz.isAgg5
 z5:=Tryz.sizeOf5
 v5:=Tryz.zeroValue5
 t9:=Tryz.underlying9
 a9:=Tryz.isAgg9
 z9:=Tryz.sizeOf9
 v9:=Tryz.zeroValue9
 t20:=Tryz.underlying20
 a20:=Tryz.isAgg20
 z20:=Tryz.sizeOf20
 v20:=Tryz.zeroValue20
 t37:=Tryz.underlying88
 a37:=Tryz.isAgg88
 z37:=Tryz.sizeOf88
 v37:=Tryz.zeroValue88
 t46:=Tryz.underlying164
 a46:=Tryz.isAgg164
 z46:=Tryz.sizeOf164
 v46:=Tryz.zeroValue164
 t51:=Tryz.underlying151
 a51:=Tryz.isAgg151
 z51:=Tryz.sizeOf151
 v51:=Tryz.zeroValue151
 t53:=Tryz.underlying181
 a53:=Tryz.isAgg181
 z53:=Tryz.sizeOf181
 v53:=Tryz.zeroValue181
 t171:=Tryz.underlying184
 a171:=Tryz.isAgg184
 z171:=Tryz.sizeOf184
 v171:=Tryz.zeroValue184
 t173:=Tryz.underlying187
 a173:=Tryz.isAgg187
 z173:=Tryz.sizeOf187
 v173:=Tryz.zeroValue187
 t212:=Tryz.underlying209
 a212:=Tryz.isAgg209
 z212:=Tryz.sizeOf209
 v212:=Tryz.zeroValue209
 t213:=Tryz.underlying210
 a213:=Tryz.isAgg210
 z213:=Tryz.sizeOf210
 t232:=Tryz.underlying229
 a232:=Tryz.isAgg229
 z232:=Tryz.sizeOf229
 v232:=Tryz.zeroValue229
 t233:=Tryz.underlying230
 a233:=Tryz.isAgg230
 z233:=Tryz.sizeOf230
 v233:=Tryz.zeroValue230
 g17:=by kernel_rfl
 g18:=by kernel_rfl
 g19:=by kernel_rfl
 i0:=by kernel_rfl
 i2:=by kernel_rfl
 i3:=by kernel_rfl
 i4:=by kernel_rfl
 i5:=by kernel_rfl
 i9:=by kernel_rfl
 i20:=by kernel_rfl
 i37:=by kernel_rfl
 i46:=by kernel_rfl
 i51:=by kernel_rfl
 i53:=by kernel_rfl
 i171:=by kernel_rfl
 i173:=by kernel_rfl
 i212:=by kernel_rfl
 i232:=by kernel_rfl
 i233:=by kernel_rfl
 m17:=by kernel_rfl
 m18:=by kernel_rfl
 m19:=by kernel_rfl
end Go.Proofs
namespace Go.Eng.Sy
open Go Go.Eng Go.Proofs
theorem ah0:∀(n:Nat),Lib.decDigits n=bs n:=by
 intro n;induction n using Nat.strongRecOn with
 |_ n ih =>
 rw[Lib.decDigits,bs];by_cases h:n<10
 ·rw[dif_pos h,if_neg (by omega),Nat.mod_eq_of_lt h]
 ·rw[dif_neg h,if_pos (by omega),ih _ (by omega)]
theorem BB{n:Int}(h0:0≤n)(A:n≤9223372036854775807){h:J}(Q:aT)(L:Q (str (bs n.toNat)) h):bj Tryz.prog 43 [I n] h Q:=by
 refine ⟨_,_,my.abE (enters_of Tryz.func43 (by kernel_rfl) rfl) (by simp [Value.plain]) rfl fun base w aA=>?_,L⟩;obtain ⟨_,el,fz,aC⟩:=aA.2 (0,Lib.pow10Tab.map fun z=>Value.int .u64 z) (by simp [Vj]);have ak3 : Lib.TabIs Tryz.prog w "internal/strconv.uint64pow10" .u64 Lib.pow10Tab := by
  unfold Lib.TabIs World.var?;rw [show (Tryz.prog).globalNamed "internal/strconv.uint64pow10" = some 0 by kernel_rfl];simp only [Option.bind_some,aC]
 have:=Any.strconv_Itoa akK n (by omega) A w ak3;have e:aaK.f 171=43:=rfl;rw[e]at this;refine this.mono fun e w' ⟨aK,k,os,ax⟩=>⟨?_,?_⟩
 ·rw[aK,Lib.itoa,if_neg (by omega),ah0]
 ·subst ax;refine⟨rfl,rfl,rfl,?_,fun b T=>?_⟩
  ·simp[Go.Sort.grow,World.drewN]
  ·simp[Go.Sort.grow,World.drewN,aru T]
def nb(e:aX)(dz:Nat)(s:aD):aD:=if e.kind=4∧cy e.op<dz then 40::(s++[41]) else s
def sE(k o n:Int)(m:aD)(ts:List (aX × aD)):aD :=
 if k=1 then bs n.toNat
 else if k=5 then match ts with|a::_=>m++91::(a.2++[93])|[]=>[]
 else if k=3 then match ts with|a::_=>eU o++nb a.1 9 a.2|[]=>[]
 else if k=4 then match ts with|a::b::_=>nb a.1 (cy o) a.2++32::(eU o++32::nb b.1 (cy o+1) b.2)|_=>[]
 else m
mutual
def bU:aX→aD
 |.mk k o n m args=>sE k o n m (xM args)
def xM:List aX→List (aX × aD)
 |[]=>[]
 |e::r=>(e,bU e)::xM r
end
def iJ(e:aX)(dz:Nat):aD:=nb e dz (bU e)
theorem xU(e:aX)(l:Nat)(s:aD):(nb e l s).length≤s.length+2:=by
 unfold nb;split<;>simp
theorem Eo(o:Int):(eU o).length≤2:=by
 unfold eU;split
 ·rename_i h;have:o=1∨o=2∨o=3∨o=4∨o=5∨o=6∨o=7∨o=8∨o=9∨o=10∨o=11∨o=12∨o=13∨o=14∨o=15∨o=16∨o=17:=by omega
  rcases this with rfl|rfl|rfl|rfl|rfl|rfl|rfl|rfl|rfl|rfl|rfl|rfl|rfl|rfl|rfl|rfl|rfl<;>decide
 ·simp
theorem qY{m:aD}(h:de m=true):m.length≤20:=by
 unfold de at h;split at h
 ·cases h
 ·simp only[Bool.and_eq_true,decide_eq_true_eq]at h;exact h.1.1.1
inductive e1:aX→Nat→Prop
 |num (n:Nat) (d:Nat) (h:n<4294967296):e1 (.mk 1 0 n [] []) (d+1)
 |var (m:aD) (d:Nat) (h:de m=true):e1 (.mk 2 0 0 m []) (d+1)
 |one (o:Int) (a:aX) (d:Nat) (h:15≤o∧o≤17) (ai:e1 a d):e1 (.mk 3 o 0 [] [a]) (d+1)
 |two (o:Int) (a b:aX) (d:Nat) (h:1≤o∧o≤14) (ai:e1 a d) (T:e1 b d):e1 (.mk 4 o 0 [] [a,b]) (d+1)
 |idx (m:aD) (a:aX) (d:Nat) (h:de m=true) (ai:e1 a d):e1 (.mk 5 0 0 m [a]) (d+1)
theorem Hy{o:Int}:0<cy o↔1≤o∧o≤14:=by
 unfold cy
 (repeat' split)<;>omega
theorem TY(o:Int):cy o≤8:=by
 unfold cy
 (repeat' split)<;>omega
theorem rX:∀(d:Nat) (e:aX),fu e d=true↔e1 e d
 |0,.mk k o n m args=>by
  constructor
  ·intro h;simp[fu]at h
  ·intro h;cases h
 |d+1,.mk k o n m args=>by
  constructor
  ·intro h;simp only[fu,Bool.and_eq_true,beq_iff_eq,El,u7]at h;obtain⟨⟨A,S⟩,ae⟩:=h;unfold fX at A;unfold mN at S;by_cases ck:k=1
   ·subst ck;simp only[if_true,Bool.and_eq_true,decide_eq_true_eq,beq_iff_eq]at A;obtain⟨⟨hn,rfl⟩,rfl⟩:=A;obtain rfl:args=[]:=by simpa using S
    obtain⟨n,rfl⟩:∃ oq:Nat,n=oq:=⟨n.toNat,by omega⟩;exact .num n d (by omega)
   by_cases cm:k=2
   ·subst cm;simp at A S;obtain⟨⟨A,rfl⟩,rfl⟩:=A;subst S;exact .var m d A
   by_cases cb:k=3
   ·subst cb;simp at A S;obtain⟨⟨A,rfl⟩,rfl⟩:=A;obtain⟨a,rfl⟩:∃ a,args=[a]:=by
     match args,S with
     |[a],_=>exact⟨a,rfl⟩
    exact .one o a d A ((rX d a).1 (ae a (by simp)))
   by_cases eC:k=4
   ·subst eC;simp at A S;obtain⟨⟨A,rfl⟩,rfl⟩:=A;obtain⟨a,b,rfl⟩:∃ a b,args=[a,b]:=by
     match args,S with
     |[a,b],_=>exact⟨a,b,rfl⟩
    exact .two o a b d (Hy.1 A) ((rX d a).1 (ae a (by simp))) ((rX d b).1 (ae b (by simp)))
   by_cases dG:k=5
   ·subst dG;simp at A S;obtain⟨⟨A,rfl⟩,rfl⟩:=A;obtain⟨a,rfl⟩:∃ a,args=[a]:=by
     match args,S with
     |[a],_=>exact⟨a,rfl⟩
    exact .idx m a d A ((rX d a).1 (ae a (by simp)))
   simp[ck,cm,cb,eC,dG]at A
  ·intro h;cases h with
   |num n d h=>simp[fu,fX,mN,hv];omega
   |var m d h=>simp[fu,fX,mN,hv,h]
   |one o a d h ai=>simp[fu,fX,mN,hv,h,(rX d a).2 ai]
   |two o a b d h ai T=>simp[fu,fX,mN,hv,Hy.2 h,(rX d a).2 ai,(rX d b).2 T]
   |idx m a d h ai=>simp[fu,fX,mN,hv,h,(rX d a).2 ai]
theorem Vo{e:aX}{d:Nat}(h:e1 e d):(bU e).length+30≤30*2 ^ d:=by
 induction h with
 |num n d h =>
  have:=u2 9 n (by omega);have:=Nat.one_le_two_pow (n:=d);simp only[bU,sE,if_true,Int.toNat_natCast,Nat.pow_succ];omega
 |var m d h =>
  have:=qY h;have:=Nat.one_le_two_pow (n:=d);simp only[bU,sE,Nat.pow_succ];simp;omega
 |one o a d h ai ih =>
  have A:=Eo o;have S:=xU a 9 (bU a);simp only[bU,xM,sE,Nat.pow_succ];simp;omega
 |two o a b d h ai T zu DI =>
  have A:=Eo o;have S:=xU a (cy o) (bU a);have ae:=xU b (cy o+1) (bU b);simp only[bU,xM,sE,Nat.pow_succ];simp;omega
 |idx m a d h ai ih =>
  have:=qY h;simp only[bU,xM,sE,Nat.pow_succ];simp;omega
theorem uM{e:aX}{d:Nat}(h:e1 e d)(hd:d≤30):(bU e).length≤32212254720:=by
 have A:=Vo h;have:2 ^ d≤2 ^ 30:=Nat.pow_le_pow_right (by omega) hd;omega
def IJ(d:Nat):Prop:=∀(e:aX),e1 e d→∀(x:ar) (h:J) (Q:aT),iN h e x→(∀ D,h.le D→Q (str (bU e)) D)→bj Tryz.prog 27 [.agg x.toArray] h Q
def aeZ(d:Nat):Prop:=∀(e:aX),e1 e d→∀(dz:Nat) (x:ar) (h:J) (Q:aT),iN h e x→(∀ D,h.le D→Q (str (iJ e dz)) D)→bj Tryz.prog 68 [.agg x.toArray,I (dz:Int)] h Q
theorem aom{d:Nat}(hd:d≤30)(ih:IJ d):aeZ d:=by
 intro e aK dz x h Q af L;have aR:=uM aK hd;have Bz:=ih e aK;have ht:=af;obtain⟨v,rfl,ct⟩:=af.cells;have dJ:=qu (k:=e.kind) (o:=e.op) (n:=e.n) (m:=e.name) ct.one;obtain⟨p,h0,gr,yG,ep,h8⟩:=b9 h [I e.kind,I e.op,I e.n,str e.name,v];have eK:=ht.mono h8;clear ct af ht;replace Bz:=U Bz;replace eK:=U eK;replace h8:=U h8;refine c7 (k:=3) anl rfl rfl rfl fun N=>?_;rw[eJ P5 mZ rfl];delta P5;replace L:=U L;simp only[aa,aw,dt, *];refine Bz.h _ _ _ eK.h fun A l1=>?_;have fA:=l1.get ep;have g:=L.h A (h8.h.trans l1);clear L l1 dJ;unfold iJ nb at g;by_cases eC:e.kind=4
 ·by_cases ag:cy e.op<dz
  ·rw[if_pos ⟨eC,ag⟩]at g;have cW:(cy e.op:Int)<(dz:Int):=by omega
   have bk:=cf (a:=[40]) (b:=bU e) (by simp;omega);have bJ:=cf (a:=[40]++bU e) (b:=[41]) (by simp;omega);have az:(40::(bU e++[41]):aD)=[40]++bU e++[41]:=by simp
   rw[az]at g;clear az;replace g:=Hid.mk g;have Hl:(e.kind==4)=true:=by simpa using eC
   clear eC;simp only[aa,aw,av,ay, *];refine DP e.op _ _ ?_;simp only[aa,av,ay, *];exact g.h
  ·rw[if_neg (by omega)]at g;have cW:¬(cy e.op:Int)<(dz:Int):=by omega
   replace g:=Hid.mk g;have Hl:(e.kind==4)=true:=by simpa using eC
   clear eC;simp only[aa,aw,av,ay, *];refine DP e.op _ _ ?_;simp only[aa,av,ay, *];exact g.h
 ·rw[if_neg (by omega)]at g;replace g:=Hid.mk g;have Hl:(e.kind==4)=false:=by simpa using eC
  clear eC;simp only[aa,aw,av,ay, *];exact g.h
theorem aqJ{d:Nat}(hd:d+1≤30)(ih:IJ d):IJ (d+1):=by
 intro e aK x h Q af L;have ut:=aom (by omega) ih;have ht:=af;obtain⟨v,rfl,ct⟩:=af.cells;have dJ:=qu (k:=e.kind) (o:=e.op) (n:=e.n) (m:=e.name) ct.one;obtain⟨p,h0,gr,yG,ep,h8⟩:=b9 h [I e.kind,I e.op,I e.n,str e.name,v];have jR:=ct.mono h8;clear ct af ht;replace ih:=U ih;replace ut:=U ut;replace jR:=U jR;replace h8:=U h8;refine c7 (k:=2) amJ rfl rfl rfl fun N=>?_;rw[gE Pm qj rfl];delta Pm;replace L:=U L;simp only[aa,aw, *];refine U4 _ _ _ fun A l1=>?_;have fA:=l1.get ep;have ji:=jR.h.mono l1;have cN:=fun D (l2:A.le D)=>L.h D ((h8.h.trans l1).trans l2);clear L ep dJ yG gr jR h8 l1;replace ji:=U ji;replace cN:=U cN;cases aK with
 |num n d h =>
  have g:=cN.h A (J.le.refl A);simp only[bU,sE,if_true]at g;simp only[aX.kind,aX.op,aX.n,aX.name,aX.args]at *;replace g:=Hid.mk g;simp only[aa,aw,av,ay,Int.reduceLE, *];refine BB (by omega) (by omega) _ ?_;simp only[aa, *];exact g.h
 |var m d h =>
  have g:=cN.h A (J.le.refl A);have az:bU (.mk 2 0 0 m [])=m:=rfl;rw[az]at g;simp only[aX.kind,aX.op,aX.n,aX.name,aX.args]at *;replace g:=Hid.mk g;simp only[aa,aw,av,ay,Int.reduceBEq,Int.reduceLE, *];exact g.h
 |one o a d h bi =>
  have az:bU (.mk 3 o 0 [] [a])=eU o++iJ a 9:=rfl;rw[az]at cN;simp only[aX.kind,aX.op,aX.n,aX.name,aX.args]at *;obtain⟨id,off,cells,own,y,az,aL,bq,dr,_⟩:=ji.h.elem (i:=0) (e:=a) rfl;have ax:=xU a 9 (bU a);have ag:=uM bi (by omega);have ak:=Eo o;have bk:=cf (a:=eU o) (b:=iJ a 9) (by unfold iJ;omega);clear ax ag ak;replace dr:=U dr;rw[Pd]at az;have zy:(9:Int)=((9:Nat):Int):=rfl;simp only[aa,aw,av,ay,Int.reduceBEq, *];refine ut.h _ bi _ _ _ _ dr.h fun S l2=>?_;have g:=cN.h S l2;replace g:=Hid.mk g;clear l2;simp only[aa,av, *];exact g.h
 |two o a b d h bi FP =>
  have az:bU (.mk 4 o 0 [] [a,b])=iJ a (cy o)++[32]++eU o++[32]++iJ b (cy o+1):=by simp[bU,xM,sE,iJ]
  rw[az]at cN;simp only[aX.kind,aX.op,aX.n,aX.name,aX.args]at *;have ax:=xU a (cy o) (bU a);have iE:=xU b (cy o+1) (bU b);have ag:=uM bi (by omega);have bC:=uM FP (by omega);have ak:=Eo o;have bk:=cf (a:=iJ a (cy o)) (b:=[32]) (by unfold iJ;simp;omega);have bJ:=cf (a:=iJ a (cy o)++[32]) (b:=eU o) (by unfold iJ;simp;omega);have dl:=cf (a:=iJ a (cy o)++[32]++eU o) (b:=[32]) (by unfold iJ;simp;omega);have fa:=cf (a:=iJ a (cy o)++[32]++eU o++[32]) (b:=iJ b (cy o+1)) (by unfold iJ;simp;omega);clear ax ag ak iE bC;have ajs:=wa (cy o) (by have:=TY o;omega);obtain⟨id,off,cells,own,y,az,aL,bq,dr,_⟩:=ji.h.elem (i:=0) (e:=a) rfl;rw[Pd]at az;replace dr:=U dr;simp only[aa,aw,av,ay,Int.reduceBEq, *];refine DP o _ _ ?_;simp only[aa,aw, *];refine ut.h _ bi _ _ _ _ dr.h fun S l2=>lg l2.ext ?_;have dV:=l2.get fA;obtain⟨sz,q9,qy,rb,xY,f1,f2,f3,p2,_⟩:=(ji.h.mono l2).elem (i:=1) (e:=b) rfl;have oJ:=fun D (aE:S.le D)=>cN.h D (l2.trans aE);rw[show((1:Nat):Int)=1 from rfl]at f1;clear cN l2 az aL bq dr;replace p2:=U p2;replace oJ:=U oJ;simp only[aa,aw,av,ay, *];refine ut.h _ FP _ _ _ _ p2.h fun ae aE=>?_;have g:=oJ.h ae aE;replace g:=Hid.mk g;clear aE;simp only[aa,av, *];exact g.h
 |idx m a d h bi =>
  have az:bU (.mk 5 0 0 m [a])=m++[91]++bU a++[93]:=by simp[bU,xM,sE]
  rw[az]at cN;simp only[aX.kind,aX.op,aX.n,aX.name,aX.args]at *;obtain⟨id,off,cells,own,y,az,aL,bq,dr,_⟩:=ji.h.elem (i:=0) (e:=a) rfl;have ag:=uM bi (by omega);have ak:=qY h;have bk:=cf (a:=m) (b:=[91]) (by simp;omega);have bJ:=cf (a:=m++[91]) (b:=bU a) (by simp;omega);have dl:=cf (a:=m++[91]++bU a) (b:=[93]) (by simp;omega);clear ag ak;replace dr:=U dr;rw[Pd]at az;simp only[aa,aw,av,ay,Int.reduceBEq,Int.reduceLE, *];refine ih.h a bi _ _ _ dr.h fun S l2=>lg l2.ext ?_;have dV:=l2.get fA;have g:=cN.h S l2;replace g:=Hid.mk g;clear l2;simp only[aa,aw,av, *];exact g.h
theorem Cb:∀(d:Nat),d≤30→IJ d
 |0,_=>fun e aK=>by cases aK
 |d+1,hd=>aqJ hd (Cb d (by omega))
theorem Cm{z:Int}(A:0≤z)(S:z≤18446744073709551615):IntKind.u64.wrap z=z:=by
 rw[IntKind.wrap_u64];omega
theorem Nu(n:Nat)(h:n<4294967296):av .and (.int .u64 (n:Int)) (.int .u64 4294967295)=some (.int .u64 (n:Int)):=by
 have:(BitVec.ofInt 64 (n:Int) &&& BitVec.ofInt 64 4294967295).toNat=n:=by
  rw[BitVec.toNat_and,BitVec.toNat_ofInt,BitVec.toNat_ofInt];have az:((n:Int) % (2 ^ 64:Nat)).toNat=n:=by omega
  have aL:((4294967295:Int) % (2 ^ 64:Nat)).toNat=2 ^ 32-1:=by decide
  rw[az,aL,Nat.and_two_pow_sub_one_eq_mod];omega
 have e:av .and (.int .u64 (n:Int)) (.int .u64 4294967295)=some (.int .u64 (IntKind.u64.wrap ((BitVec.ofInt 64 (n:Int) &&& BitVec.ofInt 64 4294967295).toNat:Nat))):=rfl;rw[e,this,Cm (by omega) (by omega)]
theorem U3(n:Nat)(h:n<4294967296):av .shr (.int .u64 (n:Int)) (.int .u64 32)=some (.int .u64 0):=by
 have:(n:Int).fdiv 4294967296=0:=by
  rw[Int.fdiv_eq_ediv_of_nonneg _ (by decide)];omega
 have e:av .shr (.int .u64 (n:Int)) (.int .u64 32)=some (.int .u64 ((n:Int).fdiv 4294967296)):=rfl;rw[e,this]
theorem abk(n:Nat)(h:n<4294967296):av .mul (.int .u64 1) (.int .u64 (n:Int))=some (.int .u64 (n:Int)):=by
 simp only[av,ay,if_true,Int.one_mul];rw[Cm (by omega) (by omega)]
theorem abj(n:Int):av .mul (.int .u64 0) (.int .u64 n)=some (.int .u64 0):=by
 simp only[av,ay,if_true,Int.zero_mul];rfl
theorem alc(n:Nat)(hn:n<4294967296)(h:J)(Q:aT)(L:Q (.tuple #[.int .u64 0,.int .u64 (n:Int)]) h):bj Tryz.prog 145 [.int .u64 1,.int .u64 (n:Int)] h Q:=by
 refine qw (k:=2) (j:=3) ami rfl rfl rfl fun N=>?_;rw[eJ Ot Ij rfl];delta Ot;replace L:=U L;have dP:=Nu 1 (by omega);have a2:=Nu n hn;have a3:=Nu 0 (by omega);have bT:=U3 1 (by omega);have b4:=U3 n hn;have eg:=U3 0 (by omega);have m1:=abk n hn;have m2:=abj (n:Int);have m3:=abk 0 (by omega);have m4:=abj 0;have bA:av .add (.int .u64 0) (.int .u64 0)=some (.int .u64 0):=rfl;rw[show((1:Nat):Int)=1 from rfl]at dP bT;rw[show((0:Nat):Int)=0 from rfl]at a3 eg m3;simp only[aa, *];exact L.h
theorem ald(n:Nat)(hn:n<4294967296)(h:J)(Q:aT)(L:Q (.tuple #[.int .u64 0,.int .u64 (n:Int)]) h):bj Tryz.prog 122 [.int .u64 1,.int .u64 (n:Int)] h Q:=by
 refine qw (k:=2) (j:=3) alZ rfl rfl rfl fun N=>?_;rw[eJ N7 aee rfl];delta N7;replace L:=U L;simp only[aa, *];refine alc n hn _ _ ?_;simp only[aa, *];exact L.h
def bR(n:Nat):aD:=List.replicate n 9
theorem apy{n:Nat}(hn:n≤60){h:J}(Q:aT)(L:Q (str (bR n)) h):bj Tryz.prog 90 [str [9],I (n:Int)] h Q:=by
 refine c7 (k:=2) anH rfl rfl rfl fun N=>?_;rw[eJ Qx Ij rfl];delta Qx;replace L:=U L;by_cases n0:n=0
 ·subst n0;have z0:((0:Nat):Int)=0:=rfl;simp only[aa,av,ay, *];exact L.h
 by_cases hD:n=1
 ·subst hD;have z0:((1:Nat):Int)=1:=rfl;simp only[aa,av,ay,Int.reduceBEq, *];exact L.h
 have l9:((n:Int)==0)=false:=by simpa using n0
 have bk:((n:Int)==1)=false:=by simp;omega
 have bJ:¬(n:Int)<0:=by omega
 have nY:IntKind.u64.wrap (n:Int)=(n:Int):=Cm (by omega) (by omega);have dw:IntKind.u64.wrap (([9]:aD).length:Int)=1:=rfl;have l1:=ja [9];have dl:¬(9223372036854775807:Int)<(n:Int):=by omega
 have er:IntKind.i64.wrap (n:Int)=(n:Int):=cZ (by omega) (by omega);have i0:zT [str [9],I 0]=some (.int .u8 9):=rfl;have fa:(n:Int)≤64:=by omega
 have w1:=QW (l:=bR 64) (n:=n) (by simp[bR];omega);have aC:(bR 64).take n=bR n:=by rw[bR,bR,List.take_replicate,Nat.min_eq_left (by omega)]
 rw[aC]at w1;have b6:bR 64=[9,9,9,9,9,9,9,9,9,9,9,9,9,9,9,9,9,9,9,9,9,9,9,9,9,9,9,9,9,9,9,9,9,9,9,9,9,9,9,9,9,9,9,9,9,9,9,9,9,9,9,9,9,9,9,9,9,9,9,9,9,9,9,9]:=rfl;have asC:(([9]:aD).length:Int)=1:=rfl;have gx:List.isPrefixOf [9] (bR 64)=true:=by decide
 have cd:List.isPrefixOf [9] (List.replicate 128 (32:UInt8))=false:=by decide
 have cS:List.isPrefixOf [9] (List.replicate 128 (45:UInt8))=false:=by decide
 have tu:List.isPrefixOf [9] (List.replicate 64 (48:UInt8))=false:=by decide
 have Ec:List.isPrefixOf [9] (List.replicate 128 (61:UInt8))=false:=by decide
 have j2:(n:Int)≤128:=by omega
 replace hn:=Hid.mk hn;replace w1:=Hid.mk w1;clear n0 hD aC;simp only[aa,av,ay, *];refine ald n (by have:=hn.h;omega) _ _ ?_;simp only[aa,av,ay,Int.reduceBEq,Int.reduceLT, *];refine ve (l:=List.replicate 128 32) (p:=[9]) _ _ ?_;rw[cd];simp only[aa,av,ay, *];refine ve (l:=List.replicate 128 45) (p:=[9]) _ _ ?_;rw[cS];simp only[aa,av,ay, *];refine ve (l:=List.replicate 64 48) (p:=[9]) _ _ ?_;rw[tu];simp only[aa,av,ay, *];refine ve (l:=List.replicate 128 61) (p:=[9]) _ _ ?_;rw[Ec];simp only[aa,av,ay, *];refine ve (l:=bR 64) (p:=[9]) _ _ ?_;rw[gx];have w1:=w1.h;rw[b6]at w1;simp only[aa, *];exact L.h
end Go.Eng.Sy
namespace Go.Eng
open Go
structure J.hi(h D:J):Prop where
 aq:∀ id cells own,h.get id=some (.aq cells own)→D.get id=some (.aq cells own)
 next:h.next≤D.next
theorem J.le.B{h D:J}(ag:h.le D):h.hi D:=⟨fun _ _ _ g=>ag.get g,ag.next⟩
theorem J.hi.refl(h:J):h.hi h:=⟨fun _ _ _ g=>g,kx _⟩
theorem J.hi.trans{a b c:J}(h:a.hi b)(D:b.hi c):a.hi c:=⟨fun id cs o g=>D.aq id cs o (h.aq id cs o g),LA h.next D.next⟩
theorem J.hi.get{h D:J}(ag:h.hi D){id:Nat}{cells:ar}{own:Bool}(g:h.get id=some (.aq cells own)):D.get id=some (.aq cells own):=ag.aq _ _ _ g
theorem x2.ha{h D:J}(ag:h.hi D){id off s:Nat}{xs:List (ar)}(ai:x2 h id off s xs):x2 D id off s xs :=
 let ⟨c,o,aA,af⟩:=ai;⟨c,o,ag.get aA,af⟩
theorem cT.ha{h D:J}(ag:h.hi D){s:Nat}{v:Value}{xs:List (ar)}(ai:cT h s v xs):cT D s v xs:=by
 rcases ai with ai|⟨id,off,ad,ai⟩
 ·exact .inl ai
 ·exact .inr ⟨id,off,ad,ai.imp (fun e=>e) (·.ha ag)⟩
end Go.Eng
namespace Go.Eng.Sy
open Go Go.Eng Go.Proofs
theorem ng.ha{h D:J}(ag:h.hi D){v:Value}{l:List (aD)}(ai:ng h v l):ng D v l:=cT.ha ag ai
mutual
theorem iN.ha{h D:J}(ag:h.hi D):∀ {e:aX}{x:ar},iN h e x→iN D e x
 |.mk _ _ _ _ _,_,⟨v,xs,A,S,T,ae⟩=>⟨v,xs,A,S.ha ag,T,kY.ha ag ae⟩
theorem kY.ha{h D:J}(ag:h.hi D):∀ {l:List aX}{xs:List (ar)},kY h l xs→kY D l xs
 |[],_,af=>af
 |_::_,_,⟨x,fJ,A,S,ae⟩=>⟨x,fJ,A,iN.ha ag S,kY.ha ag ae⟩
end
mutual
theorem lI.ha{h D:J}(ag:h.hi D):∀ {e:aP}{x:ar},lI h e x→lI D e x
 |.mk _ _ _ _ _ _ _,_,⟨v,xs,u,c4,w,zs,A,S,ae,aB,aG⟩=>⟨v,xs,u,c4,w,zs,A,⟨S.1.ha ag,S.2.1,kY.ha ag S.2.2⟩,⟨ae.1.ha ag,ae.2.1,kZ.ha ag ae.2.2⟩,aB.ha ag,aG.1,kZ.ha ag aG.2⟩
theorem kZ.ha{h D:J}(ag:h.hi D):∀ {l:List aP}{xs:List (ar)},kZ h l xs→kZ D l xs
 |[],_,af=>af
 |_::_,_,⟨x,fJ,A,S,ae⟩=>⟨x,fJ,A,lI.ha ag S,kZ.ha ag ae⟩
end
theorem hO.ha{h D:J}(ag:h.hi D){v:Value}{l:List aP}(ad:hO h v l):hO D v l:=let ⟨xs,a,c,b⟩:=ad;⟨xs,a.ha ag,c,b.ha ag⟩
abbrev nU:TypeId:=92
def nF(l:aD):ar:=l.map fun b=>.int .u8 b.toNat
theorem agl(a b:aD):nF (a++b)=nF a++nF b:=by simp[nF]
theorem E0(a:aD):(nF a).length=a.length:=by simp[nF]
theorem W6:∀(l:aD),yn (nF l)=some l
 |[]=>rfl
 |b::l=>by
  have A:=UInt8.toNat_lt b;have S:(0:Int)≤(b.toNat:Int)∧(b.toNat:Int)<256:=by omega
  have ih:=W6 l;simp only[nF]at ih;simp only[nF,Xm,yn,S,if_true,ih,afn,Int.toNat_natCast,UInt8.ofNat_toNat,and_self]
def r1(n:Nat)(h:J)(p:Nat)(v:Value)(l:aD):Prop :=
 (v=bx∧l=[])∨∃ q,n≤q∧(q≠p∧l≠[])∧v=.slice (some ⟨q,0,none⟩) l.length 1∧h.get q=some (.gg (nF l) 5 false)
structure gz(h0 h:J)(p:Nat)(l:aD)(jZ:Int):Prop where
 le:h0.le h
 own:h0.next≤p
 cells:∃ a v,(a=.pointer none∨a=(aH p 0))∧h.get p=some (.gg [a,v,I jZ] nU true)∧r1 h0.next h p v l
theorem r1.mono{n:Nat}{h D:J}(ag:h.le D){p:Nat}{v:Value}{l:aD}(ad:r1 n h p v l):r1 n D p v l:=by
 rcases ad with ad|⟨q,a,b,c,d⟩
 ·exact .inl ad
 ·exact .inr ⟨q,a,b,c,ag.get d⟩
theorem gz.mono{h0 h D:J}(ag:h.le D){p:Nat}{l:aD}{jZ:Int}(T:gz h0 h p l jZ):gz h0 D p l jZ :=
 ⟨T.le.trans ag,T.own,let ⟨a,v,A,S,ae⟩:=T.cells;⟨a,v,A,ag.get S,ae.mono ag⟩⟩
theorem r1.one{n:Nat}{h:J}{p:Nat}{v:Value}{l:aD}(ad:r1 n h p v l):v.oneCell'=true∧v.cells.toList=[v]:=by
 rcases ad with⟨rfl,_⟩|⟨q,_,_,rfl,_⟩<;>exact⟨rfl,rfl⟩
theorem gz.set{h0 h:J}{p:Nat}{x:Value}{cs:ar}(bX:h0.le h)(hU:h0.next≤p)(aA:h.get p=some (.gg cs nU true))(cs':ar):h0.le (h.set p (.gg cs' nU true))∧h.hi (h.set p (.gg cs' nU true)):=by
 refine⟨bX.set hU _,fun id cells own g=>?_,kx _⟩;rw[J.dT,g];have:id≠p:=fun e=>by subst e;rw[aA]at g;cases g
 simpa using this
theorem VE{h:J}{id off:Nat}{cells:ar}{e:TypeId}{li:Bool}{v:Value}(aA:h.get id=some (.gg cells e li))(ah:off<cells.length)(ad:v.cells.toList=[v])(A:v.oneCell'=true) :
  cz 1 h [aH id off,v]=some (b0,h.set id (.gg (cells.set off v) e li)):=by
 simp only[cz,aA,ad];rw[if_pos ⟨rfl,by omega,by simp[A]⟩,List.set_eq_take_append_cons_drop,if_pos ah];simp
theorem r1.append{n:Nat}{h:J}{p:Nat}{v:Value}{l s:aD}(ad:r1 n h p v l)(hn:n≤h.next)(hp:(h.get p).isSome=true){x:Value}(af:rZ 1 h x=some (nF s))(T:l.length+s.length≤140737488355328) :
  ∃ v' D,Ag 5 1 1 h [v,x]=some (v',D)∧r1 n D p v' (l++s)∧D.get p=h.get p∧h.hi D∧∀ h0:J,h0.next=n→h0.le h→h0.le D:=by
 obtain⟨op,nn⟩:=Ic.1 hp;have hpl:=J.bY nn;by_cases ak:s=[]
 ·subst ak;refine⟨v,h,?_,by simpa using ad,rfl,.refl _,fun _ _ h=>h⟩;obtain⟨a,b,c,rfl⟩:∃ a b c,v=.slice a b c:=by
   rcases ad with⟨rfl,_⟩|⟨q,_,_,rfl,_⟩<;>exact⟨_,_,_,rfl⟩
  simp only[Ag,af];rfl
 ·have cH:(nF s).length≠0:=by
   rw[E0];intro e;exact ak (List.length_eq_zero_iff.1 e)
  rcases ad with⟨rfl,rfl⟩|⟨q,A,S,rfl,ae⟩
  ·refine⟨.slice (some ⟨h.next,0,none⟩) s.length 1,h.alloc (.gg (nF s) 5 false),?_,.inr ⟨h.next,hn,⟨by omega,by simpa using ak⟩,by simp,by simp⟩,J.sV _ _ _ hp,((J.le.refl h).alloc _).B,fun h0 _ ag=>ag.alloc _⟩;simp only[Ag,af];rw[if_neg cH,E0,if_pos (by simp at T;constructor<;>omega)];simp
  ·have ajM:=J.bY ae;have GQ:((h.set q .dead).alloc (.gg (nF (l++s)) 5 false)).get p=h.get p:=by
    have az:(h.set q .dead).get p=h.get p:=J.dT _ _ _ _ (by simpa using fun e=>S.1 e.symm);rw[J.sV _ _ _ (by rw[az];exact hp),az]
   refine⟨.slice (some ⟨h.next,0,none⟩) (l++s).length 1,(h.set q .dead).alloc (.gg (nF (l++s)) 5 false),?_,.inr ⟨h.next,hn,⟨by omega,by simp[ak]⟩,rfl,J.hy (h.set q .dead) _⟩,GQ,⟨fun id cells own g=>?_,by simp⟩,fun h0 e ag=>(ag.set (by omega) _).alloc _⟩
   ·simp only[Ag,af,ae];rw[if_neg cH];simp only[E0,Nat.div_one,Nat.mul_one,true_and];rw[if_pos (by constructor<;>omega)];simp[agl]
   ·have cQ:id≠q:=fun e=>by subst e;rw[ae]at g;cases g
    have az:(h.set q .dead).get id=h.get id:=J.dT _ _ _ _ (by simpa using cQ);rw[J.sV _ _ _ (by rw[az,g];rfl),az,g]
theorem akT:DR Tryz.prog 90 nU 3 0=true:=by kernel_rfl
theorem XU{h0 h:J}{p:Nat}{a v:Value}{l:aD}{jZ:Int}(bX:h0.le h)(hU:h0.next≤p)(ai:a=.pointer none∨a=(aH p 0))(aA:h.get p=some (.gg [a,v,I jZ] nU true))(ad:r1 h0.next h p v l)
  (Q:aT) (L:∀ D,h0.le D→h.hi D→D.get p=some (.gg [aH p 0,v,I jZ] nU true)→r1 h0.next D p v l→Q (.tuple #[]) D):bj Tryz.prog 121 [aH p 0] h Q:=by
 refine CE alY rfl rfl rfl fun N=>?_;rw[show kn N6 [aH p 0]=[aH p 0] from rfl];delta N6;replace L:=U L;rcases ai with rfl|rfl
 ·have bu:=VE (off:=0) (v:=(aH p 0)) aA (by simp) rfl rfl;have ak:=gz.set (x:=v) bX hU aA ([Value.pointer none,v,I jZ].set 0 (aH p 0));have Zj:=J.mb h (.gg ([Value.pointer none,v,I jZ].set 0 (aH p 0)) nU true) p (by rw[aA];rfl);have fD:r1 h0.next (h.set p (.gg ([Value.pointer none,v,I jZ].set 0 (aH p 0)) nU true)) p v l:=by
   rcases ad with ad|⟨q,a,b,c,d⟩
   ·exact .inl ad
   ·exact .inr ⟨q,a,b,c,by rw[J.dT _ _ _ _ (by simpa using b.1)];exact d⟩
  have g:=L.h _ ak.1 ak.2 Zj fD;have atJ:aw .Ie [aH p 0] h.get=some (aH p 0):=by simp[aw,aA]
  have atm:aw (.HV (DR Tryz.prog 90)) [aH p 0] h.get=some (aH p 0):=by simp[aw,aA,akT]
  clear ak Zj fD ad L bX hU;replace g:=Hid.mk g;simp only[aa,bh,IQ,LW,uI,o8,afn,Option.isNone_none, *];exact g.h
 ·have g:=L.h h bX (.refl _) aA ad;have eI:Mj true [aH p 0,aH p 0]=some (.bool false):=by simp[Mj]
  clear ad L bX hU;replace g:=Hid.mk g;simp only[aa,aw,uI,o8,afn,Option.isNone_some, *];exact g.h
theorem aqg(h:J)(s:aD):rZ 1 h (str s)=some (nF s):=by simp[rZ,nF]
theorem gz.put{h0 A S:J}{p:Nat}{v v':Value}{l:aD}{jZ:Int}(bX:h0.le S)(hU:h0.next≤p)(aA:S.get p=some (.gg [aH p 0,v,I jZ] nU true))(cM:A.hi S)(ad:r1 h0.next S p v' l) :
  cz 1 S [aH p 1,v']=some (b0,S.set p (.gg [aH p 0,v',I jZ] nU true)) ∧
  gz h0 (S.set p (.gg [aH p 0,v',I jZ] nU true)) p l jZ∧A.hi (S.set p (.gg [aH p 0,v',I jZ] nU true)):=by
 obtain⟨cG,cP⟩:=ad.one;have ak:=gz.set (x:=v) bX hU aA [aH p 0,v',I jZ];refine⟨VE (off:=1) aA (by simp) cP cG,⟨ak.1,hU,_,v',.inr rfl,J.mb _ _ _ (by rw[aA];rfl),?_⟩,cM.trans ak.2⟩;rcases ad with ad|⟨q,a,b,c,d⟩
 ·exact .inl ad
 ·exact .inr ⟨q,a,b,c,by rw[J.dT _ _ _ _ (by simpa using b.1)];exact d⟩
theorem aeG{h0 h:J}{p:Nat}{l s:aD}{jZ:Int}(T:gz h0 h p l jZ)(aR:l.length+s.length≤140737488355328)(Q:aT)
  (L:∀ v D,gz h0 D p (l++s) jZ→h.hi D→Q v D):bj Tryz.prog 89 [aH p 0,str s] h Q:=by
 obtain⟨bX,hU,a,v,ai,aA,ad⟩:=T;replace ai:=U ai;refine qw (k:=2) (j:=3) anG rfl rfl rfl fun N=>?_;rw[eJ Qw mY rfl];delta Qw;replace L:=U L;simp only[aa, *];refine XU bX hU ai.h aA ad _ fun A l1 Hr g1 fr=>?_;obtain⟨v',S,qr,fD,gr,Hs,l2⟩:=fr.append l1.next (by rw[g1];rfl) (aqg A s) aR;have BH:=l2 h0 rfl l1;rw[g1]at gr;obtain⟨bu,iy,Ht⟩:=gz.put BH hU gr (Hr.trans Hs) fD;have g:=fun v=>L.h v _ iy Ht;clear L bX hU ai aA ad l1 Hr fr fD Hs l2 BH iy Ht;replace g:=Hid.mk g;simp only[aa,aw,bh,ja, *];exact g.h _
theorem arp{h0 h:J}{p:Nat}{l:aD}{c:UInt8}{jZ:Int}(T:gz h0 h p l jZ)(aR:l.length+1≤140737488355328)(Q:aT)
  (L:∀ v D,gz h0 D p (l++[c]) jZ→h.hi D→Q v D):bj Tryz.prog 91 [aH p 0,.int .u8 c.toNat] h Q:=by
 obtain⟨bX,hU,a,v,ai,aA,ad⟩:=T;replace ai:=U ai;refine c7 (k:=2) anI rfl rfl rfl fun N=>?_;rw[eJ Qy iL rfl];delta Qy;replace L:=U L;simp only[aa, *];refine XU bX hU ai.h aA ad _ fun A l1 Hr g1 fr=>?_;have wn:ie [.int .u8 0] [(0,1)] 1 1 [.int .u8 c.toNat]=some ([.int .u8 c.toNat],fun id=>.slice (some ⟨id,0,none⟩) 1 1):=uT rfl rfl rfl rfl;obtain⟨q,ji,mg,arY,dY,DQ⟩:=b9 A [.int .u8 c.toNat];have KF:=DQ.get g1;obtain⟨v',S,qr,fD,gr,Hs,l2⟩:=(fr.mono DQ).append (x:=.slice (some ⟨q,0,none⟩) 1 1) (s:=[c]) (l1.trans DQ).next (by rw[KF];rfl) (by simp[rZ,dY,nF]) (by simpa using aR);have BH:=l2 h0 rfl (l1.trans DQ);rw[KF]at gr;obtain⟨bu,iy,Ht⟩:=gz.put BH hU gr (Hr.trans (DQ.B.trans Hs)) fD;have g:=fun v=>L.h v _ iy Ht;clear L bX hU ai aA ad l1 Hr fr fD Hs l2 BH iy Ht DQ dY;replace g:=Hid.mk g;simp only[aa,aw,bh, *];exact g.h _
theorem aqy{h0 h:J}{p:Nat}{l:aD}{jZ:Int}(T:gz h0 h p l jZ)(aR:l.length≤140737488355328)(Q:aT)
  (L:∀ D,h0.le D→h.hi D→Q (str l) D):bj Tryz.prog 46 [aH p 0] h Q:=by
 obtain⟨bX,hU,a,v,ai,aA,ad⟩:=T;refine c7 (k:=1) amY rfl rfl rfl fun N=>?_;rw[gE PH iL rfl];delta PH;replace L:=U L;rcases ad with⟨rfl,rfl⟩|⟨q,A,S,rfl,ae⟩
 ·have az:Ck 5 h [.pointer none,I 0]=some (aI,h):=rfl;have aL:H0 [bx]=some (.pointer none):=rfl;have g:=L.h h bX (.refl _);have z0:((0:Nat):Int)=0:=rfl;clear L bX hU ai;replace g:=Hid.mk g;simp only[aa,aw,bh,pD, *];exact g.h
 ·obtain⟨S,vl⟩:=S;have ajJ:0<l.length:=List.length_pos_iff.2 vl;have aL:H0 [.slice (some ⟨q,0,none⟩) l.length 1]=some (aH q 0):=by simp[H0,ajJ]
  have az:Ck 5 h [aH q 0,I (l.length:Int)]=some (str l,h.set q .dead):=by
   have:(nF l).take (l.length:Int).toNat=nF l:=Yq (by simp[E0]);simp only[Ck,ae,E0,true_and];rw[if_pos (by omega),this,W6];rfl
  have g:=L.h (h.set q .dead) (bX.set A _) ⟨fun id cells own g=>by
   rw[J.dT,g];have:id≠q:=fun e=>by subst e;rw[ae]at g;cases g
   simpa using this,kx _⟩
  clear L bX hU ai;replace g:=Hid.mk g;simp only[aa,aw,bh,pD, *];exact g.h
def dA(n:Nat)(jq:List (aD)):aD:=bR n++jq.flatten++[10]
theorem AG{jq:List (aD)}{i:Nat}{s:aD}(h:jq[i]?=some s):(jq.take (i+1)).flatten=(jq.take i).flatten++s:=by
 rw[T0,h];simp
theorem yN(jq:List (aD))(i:Nat):(jq.take i).flatten.length≤jq.flatten.length:=by
 have h:=congrArg List.flatten (List.take_append_drop i jq);rw[List.flatten_append]at h;rw[← h,gj];omega
theorem gz.jZ{h0 h:J}{p:Nat}{l:aD}{jZ:Int}(T:gz h0 h p l jZ):∃ a v,h.get p=some (.gg [a,v,I jZ] nU true):=let ⟨a,v,_,S,_⟩:=T.cells;⟨a,v,S⟩
theorem akU{h0 h:J}{p n:Nat}(hn:n≤60){l:aD}(T:gz h0 h p l n){v:Value}{jq:List (aD)}(ad:ng h v jq)(ag:jq.length≤1000)(aR:(l++dA n jq).length≤140737488355328)(Q:aT)
  (L:∀ D,gz h0 D p (l++dA n jq) n→h.hi D→Q (.tuple #[]) D):bj Tryz.prog 42 [aH p 0,v] h Q:=by
 obtain⟨a,b,aA⟩:=T.jZ;have iQ:=ad.len;replace T:=U T;replace ad:=U ad;unfold dA at aR;simp only[gj,List.length_singleton]at aR;refine CE amV rfl rfl rfl fun N=>?_;rw[eJ PE qj rfl];delta PE;replace L:=U L;simp only[aa,IQ,LW, *];refine apy hn _ ?_;simp only[aa, *];refine aeG T.h (by omega) _ fun u A fg l1=>?_;clear aA;have fg:=Hid.mk fg;have l1:=Hid.mk l1;simp only[aa, *];refine ch.upto jq.length (fun i e A=>h.hi A∧gz h0 A p (l++bR n++(jq.take i).flatten) n∧∃ ej x6,e=[aH p 0,v,ej,v,I jq.length,I i,x6]) ?_ (pc _) ⟨l1.h,by simpa using fg.h,_,_,rfl⟩;rintro i _ A R au ⟨bF,ij,ej,x6,rfl⟩ aN;have gv:=yN jq i;delta Xq;by_cases aV:i<jq.length
 ·have dm:(i:Int)<jq.length:=by omega
  obtain⟨s,ak⟩:∃ s,jq[i]?=some s:=⟨_,l8 aV⟩;obtain⟨id,off,cells,own,az,aL,bq,_⟩:=(ad.h.ha bF).elem ak;have ax:IntKind.i64.wrap ((i:Int)+1)=((i+1:Nat):Int):=by rw[cZ (by omega) (by omega)];rfl
  have kK:=AG ak;have K6:=yN jq (i+1);rw[kK,gj]at K6;replace ak:=U ak;replace ij:=U ij;replace bF:=U bF;replace kK:=U kK;replace gv:=U gv;replace K6:=U K6;replace aR:=U aR;simp only[aa,aw,av,ay, *];refine aeG ij.h (by have:=aR.h;have:=K6.h;simp only[gj];omega) _ fun u S dx l2=>?_;have dx:=Hid.mk dx;have l2:=Hid.mk (bF.h.trans l2);simp only[aa,av,ay, *];exact aN.h _ _ aV ⟨l2.h,by rw[kK.h,← Lz];exact dx.h,_,_,rfl⟩
 ·have dm:¬(i:Int)<jq.length:=by omega
  have ef:i=jq.length:=by omega
  subst ef;rw[T1]at ij;replace ij:=U ij;replace bF:=U bF;replace aR:=U aR;clear aN gv;simp only[aa,av,ay, *];refine arp (c:=10) ij.h (by have:=aR.h;simp only[gj];omega) _ fun u S dx l2=>?_;have g:=L.h S (by unfold dA;simpa using dx) (bF.h.trans l2);replace g:=Hid.mk g;clear dx l2;simp only[aa, *];exact g.h
inductive jx:aP→Nat→Prop
 |set (m:aD) (a:aX) (d:Nat) (h:de m=true) (ai:e1 a 30):jx (.mk 1 m [] 0 [a] [] []) (d+1)
 |get (m f:aD) (n:Nat) (d:Nat) (h:de m=true) (aZ:de f=true) (hn:n≤3):jx (.mk 2 m f n [] [] []) (d+1)
 |put (m:aD) (n:Nat) (a:aX) (d:Nat) (h:de m=true) (hn:n≤3) (ai:e1 a 30):jx (.mk 3 m [] n [a] [] []) (d+1)
 |store (m:aD) (a b:aX) (d:Nat) (h:de m=true) (ai:e1 a 30) (T:e1 b 30):jx (.mk 4 m [] 0 [a,b] [] []) (d+1)
 |lock (m:aD) (aU:List aP) (d:Nat) (h:de m=true) (aC:∀ s∈aU,jx s d):jx (.mk 5 m [] 0 [] aU []) (d+1)
 |cond (a:aX) (aU bz:List aP) (d:Nat) (ai:e1 a 30) (aC:∀ s∈aU,jx s d) (aK:∀ s∈bz,jx s d):jx (.mk 6 [] [] 0 [a] aU bz) (d+1)
 |rW (n:Nat) (aU:List aP) (d:Nat) (hn:n≤20) (aC:∀ s∈aU,jx s d):jx (.mk 7 [] [] n [] aU []) (d+1)
 |halt (d:Nat):jx (.mk 8 [] [] 0 [] [] []) (d+1)
theorem Ek{a:aX}{d:Nat}:hv [a] d=true↔e1 a d:=by simp[hv,rX]
theorem UP{a b:aX}{d:Nat}:hv [a,b] d=true↔e1 a d∧e1 b d:=by simp[hv,rX]
theorem Cl:∀(d:Nat) (s:aP),je s d=true↔jx s d
 |0,.mk k m f n args aU bz=>by
  constructor
  ·intro h;simp[je]at h
  ·intro h;cases h
 |d+1,.mk k m f n args aU bz=>by
  have gs:∀ l:List aP,hx l d=true↔∀ s∈l,jx s d:=fun l=>by
   rw[we,u7];exact⟨fun h s ak=>(Cl d s).1 (h s ak),fun h s ak=>(Cl d s).2 (h s ak)⟩
  constructor
  ·intro h;simp only[je,Bool.and_eq_true,gs,decide_eq_true_eq,beq_iff_eq]at h;obtain⟨⟨⟨⟨⟨⟨⟨⟨⟨⟨A,S⟩,ae⟩,aB⟩,aG⟩,a1⟩,bN⟩,b7⟩,dE⟩,aC⟩,aK⟩:=h;obtain⟨n,rfl⟩:∃ oq:Nat,n=oq:=⟨n.toNat,by omega⟩;have ab:k=1∨k=2∨k=3∨k=4∨k=5∨k=6∨k=7∨k=8:=by simp[oa]at A;omega
   rcases ab with rfl|rfl|rfl|rfl|rfl|rfl|rfl|rfl
   all_goals simp[mO,lM,lN,lL,k1,j5,kp]at S ae aG a1 b7 dE
   ·subst ae aG b7 dE
    match args,a1 with
    |[a],_=>exact .set m a d S (Ek.1 bN)
   ·subst a1 b7 dE;exact .get m f n d S ae (by omega)
   ·subst ae b7 dE
    match args,a1 with
    |[a],_=>exact .put m n a d S (by omega) (Ek.1 bN)
   ·subst ae aG b7 dE
    match args,a1 with
    |[a,b],_=>exact .store m a b d S (UP.1 bN).1 (UP.1 bN).2
   ·subst ae aG a1 dE;exact .lock m aU d S aC
   ·subst S ae aG
    match args,a1 with
    |[a],_=>exact .cond a aU bz d (Ek.1 bN) aC aK
   ·subst S ae a1 dE;exact .rW n aU d (by omega) aC
   ·subst S ae aG a1 b7 dE;exact .halt d
  ·intro h;cases h with
   |set m a d h ai=>simp[je,oa,mO,lM,lN,lL,k1,j5,kp,h,Ek.2 ai,hx]
   |get m f n d h aZ hn=>simp[je,oa,mO,lM,lN,lL,k1,j5,kp,h,aZ,hv,hx];omega
   |put m n a d h hn ai=>simp[je,oa,mO,lM,lN,lL,k1,j5,kp,h,Ek.2 ai,hx];omega
   |store m a b d h ai T=>simp[je,oa,mO,lM,lN,lL,k1,j5,kp,h,UP.2 ⟨ai,T⟩,hx]
   |lock m aU d h aC=>simp[je,oa,mO,lM,lN,lL,k1,j5,kp,h,hv,(gs aU).2 aC,hx]
   |cond a aU bz d ai aC aK=>simp[je,oa,mO,lM,lN,lL,k1,j5,kp,Ek.2 ai,(gs aU).2 aC,(gs bz).2 aK]
   |rW n aU d hn aC=>simp[je,oa,mO,lM,lN,lL,k1,j5,kp,hv,(gs aU).2 aC,hx];omega
   |halt d=>simp[je,oa,mO,lM,lN,lL,k1,j5,kp,hv,hx]
def kC(t:Nat)(head nw el:aD)(tn:Bool):aD:=dA t [head,[32,123]]++nw++(if tn then dA t [[125,32,101,108,115,101,32,123]]++el else[])++dA t [[125]]
def pa(ts:List (aD)):aD:=ts.getD 0 []
def wy(ts:List (aD)):aD:=ts.getD 1 []
def oR(t:Nat)(k:Int)(m f:aD)(n:Int)(ts:List (aD))(nw el:aD)(tn:Bool):aD :=
 if k=1 then dA t [m,[32,61,32],pa ts,[59]]
 else if k=2 then dA t [m,[32,61,32],f,[46],bs n.toNat,[59]]
 else if k=3 then dA t [m,[46],bs n.toNat,[32,61,32],pa ts,[59]]
 else if k=4 then dA t [m,[91],pa ts,[93,32,61,32],wy ts,[59]]
 else if k=8 then dA t [[104,97,108,116,59]]
 else if k=5 then kC t ([108,111,99,107,32]++m) nw el tn
 else if k=7 then kC t ([114,101,112,101,97,116,32]++bs n.toNat) nw el tn
 else if k=6 then kC t ([105,102,32,40]++pa ts++[41]) nw el tn
 else[]
mutual
def gy:Nat→aP→aD
 |t,.mk k m f n args aU bz=>oR t k m f n (args.map bU) (cJ (t+1) aU) (cJ (t+1) bz) (!bz.isEmpty)
def cJ:Nat→List aP→aD
 |_,[]=>[]
 |t,s::r=>gy t s++cJ t r
end
theorem UB:∀(t:Nat) (l:List aP) (i:Nat) (s:aP),l[i]?=some s→cJ t (l.take (i+1))=cJ t (l.take i)++gy t s
 |_,[],i,s,h=>by simp at h
 |t,a::r,0,s,h=>by simp at h;subst h;simp[cJ]
 |t,a::r,i+1,s,h=>by have:=UB t r i s (by simpa using h);simp only[List.take_succ_cons,cJ,this,Lz]
theorem acb:∀(t:Nat) (a b:List aP),cJ t (a++b)=cJ t a++cJ t b
 |_,[],_=>rfl
 |t,x::a,b=>by simp only[af3,cJ,acb t a b,Lz]
theorem UC(t:Nat)(l:List aP)(i:Nat):(cJ t (l.take i)).length≤(cJ t l).length:=by
 have h:=congrArg (cJ t) (List.take_append_drop i l);rw[acb]at h;rw[← h,gj];omega
theorem gz.adU{h0 h:J}{p:Nat}{l:aD}{t:Int}(T:gz h0 h p l t)(mV:Int) :
  ∃ a v D,h.get p=some (.gg [a,v,I t] nU true)∧cz 1 h [aH p 2,I mV]=some (b0,D)∧gz h0 D p l mV∧h.hi D:=by
 obtain⟨bX,hU,a,v,ai,aA,ad⟩:=T;have ak:=gz.set (x:=v) bX hU aA [a,v,I mV];refine⟨a,v,_,aA,VE (off:=2) aA (by simp) rfl rfl,⟨ak.1,hU,a,v,ai,J.mb _ _ _ (by rw[aA];rfl),?_⟩,ak.2⟩;rcases ad with ad|⟨q,a,b,c,d⟩
 ·exact .inl ad
 ·exact .inr ⟨q,a,b,c,by rw[J.dT _ _ _ _ (by simpa using b.1)];exact d⟩
abbrev ez:Nat:=140737488355328
def Np(d:Nat):Prop:=∀(s:aP),jx s d→∀(t:Nat),t+d≤50→∀(x:ar) (h0 h:J) (p:Nat) (l:aD) (Q:aT),gz h0 h p l t→lI h s x→(l++gy t s).length≤ez →
 (∀ D,gz h0 D p (l++gy t s) t→h.hi D→Q (.tuple #[]) D)→bj Tryz.prog 93 [aH p 0,.agg x.toArray] h Q
def Iw(d:Nat):Prop:=∀(et:List aP),(∀ s∈et,jx s d)→∀(t:Nat),t+1+d≤50→∀(v:Value) (h0 h:J) (p:Nat) (l:aD) (Q:aT),gz h0 h p l t→hO h v et→(l++cJ (t+1) et).length≤ez →
 (∀ D,gz h0 D p (l++cJ (t+1) et) t→h.hi D→Q (.tuple #[]) D)→bj Tryz.prog 45 [aH p 0,v] h Q
theorem WU{d:Nat}(ih:Np d):Iw d:=by
 intro et pu t aC v h0 h p l Q T ad aR L;have sw:IntKind.i64.wrap ((t:Int)+1)=((t+1:Nat):Int):=by rw[cZ (by omega) (by omega)];rfl
 have iE:IntKind.i64.wrap (((t+1:Nat):Int)-1)=(t:Int):=by rw[cZ (by omega) (by omega)];omega
 obtain⟨a,b,A,aA,bu,fg,l1⟩:=T.adU ((t+1:Nat):Int);have iQ:=ad.len;have bX:=ad.le;clear T;replace ih:=U ih;replace pu:=U pu;replace fg:=U fg;replace l1:=U l1;replace ad:=U ad;replace aR:=U aR;replace iE:=U iE;refine CE amX rfl rfl rfl fun N=>?_;rw[eJ PG qj rfl];delta PG;replace L:=U L;simp only[aa,bh,av,ay,IQ,LW, *];clear aA bu;refine ch.upto et.length (fun i e S=>h.hi S∧gz h0 S p (l++cJ (t+1) (et.take i)) ((t+1:Nat):Int)∧∃ ej x6,e=[aH p 0,v,ej,v,I et.length,I i,x6]) ?_ (pc _) ⟨l1.h,by simpa[cJ] using fg.h,_,_,rfl⟩;rintro i _ S R au ⟨bC,ij,ej,x6,rfl⟩ aN;have gv:=UC (t+1) et i;delta Xr;by_cases aV:i<et.length
 ·have dm:(i:Int)<et.length:=by omega
  obtain⟨s,ak⟩:∃ s,et[i]?=some s:=⟨_,l8 aV⟩;have Bm:=pu.h s (List.mem_of_getElem? ak);obtain⟨id,off,cells,own,x,az,aL,bq,af,_⟩:=(ad.h.ha bC).elem ak;have ht:=af;obtain⟨iT,v2,v3,oM,ct,jT,k7⟩:=af.cells;subst oM;have iu:=aqu S s.kind s.n s.name s.src ct.one jT.one k7.one;have ax:IntKind.i64.wrap ((i:Int)+1)=((i+1:Nat):Int):=by rw[cZ (by omega) (by omega)];rfl
  have vw:=UB (t+1) et i s ak;have gw:=UC (t+1) et (i+1);rw[vw,gj]at gw;obtain⟨q,ae,mg,jA,dY,dq⟩:=b9 S [I s.kind,str s.name,str s.src,I s.n,iT,v2,v3];rw[jA,mg]at iu;have gc:=ht.mono dq;have gW:=ij.mono dq;have aE:=bC.trans dq.B;clear af ht ct jT k7 ij;replace gc:=U gc;replace gW:=U gW;replace aE:=U aE;replace ak:=U ak;replace Bm:=U Bm;replace vw:=U vw;replace gv:=U gv;replace gw:=U gw;replace dq:=U dq;replace bC:=U bC;simp only[aa,aw,bh,av,ay,jX, *];refine ih.h s Bm.h (t+1) (by omega) _ h0 ae p _ _ gW.h gc.h (by have az:=aR.h;have aL:=gw.h;simp only[gj,ez]at az aL ⊢;omega) fun aB dy aO=>?_;have dy:=Hid.mk dy;have aO:=Hid.mk (aE.h.trans aO);simp only[aa,av,ay, *];exact aN.h _ _ aV ⟨aO.h,by rw[vw.h,← Lz];exact dy.h,_,_,rfl⟩
 ·have dm:¬(i:Int)<et.length:=by omega
  have ef:i=et.length:=by omega
  subst ef;rw[T1]at ij;obtain⟨a2,kB,ae,asu,MJ,gW,aE⟩:=ij.adU (t:Int);have g:=L.h ae gW (bC.trans aE);have iE:=iE.h;clear aN gv ij bC gW aE L;replace g:=Hid.mk g;simp only[aa,bh,av,ay,IQ,LW, *];exact g.h
theorem uW(a:aD):ie [aI] [(0,1)] 1 1 [str a]=some ([str a],fun id=>.slice (some ⟨id,0,none⟩) 1 1):=rq rfl rfl rfl (by simp[Value.cells,Value.oneCell'])
theorem NC(a b:aD):ie [aI,aI] [(0,1),(1,1)] 2 1 [str a,str b]=some ([str a,str b],fun id=>.slice (some ⟨id,0,none⟩) 2 1):=rq rfl rfl rfl (by simp[Value.cells,Value.oneCell'])
theorem ym(a b c:aD):ie [aI,aI,aI] [(0,1),(1,1),(2,1)] 3 1 [str a,str b,str c]=some ([str a,str b,str c],fun id=>.slice (some ⟨id,0,none⟩) 3 1):=rq rfl rfl rfl (by simp[Value.cells,Value.oneCell'])
theorem ND(a b c d:aD):ie [aI,aI,aI,aI] [(0,1),(1,1),(2,1),(3,1)] 4 1 [str a,str b,str c,str d]=some ([str a,str b,str c,str d],fun id=>.slice (some ⟨id,0,none⟩) 4 1):=rq rfl rfl rfl (by simp[Value.cells,Value.oneCell'])
theorem ag0(a b c d e:aD):ie [aI,aI,aI,aI,aI] [(0,1),(1,1),(2,1),(3,1),(4,1)] 5 1 [str a,str b,str c,str d,str e]=some ([str a,str b,str c,str d,str e],fun id=>.slice (some ⟨id,0,none⟩) 5 1):=rq rfl rfl rfl (by simp[Value.cells,Value.oneCell'])
theorem NE(a b c d e f:aD):ie [aI,aI,aI,aI,aI,aI] [(0,1),(1,1),(2,1),(3,1),(4,1),(5,1)] 6 1 [str a,str b,str c,str d,str e,str f]=some ([str a,str b,str c,str d,str e,str f],fun id=>.slice (some ⟨id,0,none⟩) 6 1):=rq rfl rfl rfl (by simp[Value.cells,Value.oneCell'])
theorem p8{h0 h:J}{p n:Nat}(hn:n≤60){l:aD}(T:gz h0 h p l n)(jq:List (aD)){cells:ar}{k:Nat}(aj:cells=jq.map str)(ab:k=jq.length)(ag:jq.length≤1000)(aR:(l++dA n jq).length≤ez)(Q:aT)
  (L:∀ D,gz h0 D p (l++dA n jq) n→h.hi D→Q (.tuple #[]) D):bj Tryz.prog 42 [aH p 0,.slice (some ⟨h.next,0,none⟩) k 1] (h.alloc (.aq cells true)) Q:=by
 have l1:=(J.le.refl h).alloc (.aq cells true);exact akU hn (T.mono l1) (vZ h jq ab aj) ag aR Q fun D pY BJ=>L D pY (l1.B.trans BJ)
theorem NA{d:Nat}(lx:Iw d){k n:Int}{m f:aD}{args:List aX}{aU bz:List aP}(aC:∀ s∈aU,jx s d)(aK:∀ s∈bz,jx s d){t:Nat}(SX:t+1+d≤50){x:ar}{h0 h:J}{p:Nat}{l head:aD}(T:gz h0 h p l t)(af:lI h (.mk k m f n args aU bz) x)
  (aR:(l++kC t head (cJ (t+1) aU) (cJ (t+1) bz) (!bz.isEmpty)).length≤ez) (Q:aT)
  (L:∀ D,gz h0 D p (l++kC t head (cJ (t+1) aU) (cJ (t+1) bz) (!bz.isEmpty)) t→h.hi D→Q (.tuple #[]) D):bj Tryz.prog 126 [aH p 0,.agg x.toArray,str head] h Q:=by
 obtain⟨iT,v2,v3,rfl,ct,jT,k7⟩:=af.cells;simp only[aP.kind,aP.name,aP.src,aP.n,aP.args,aP.aU,aP.bz]at ct jT k7 ⊢;have dJ:=yk (k:=k) (m:=m) (f:=f) (n:=n) ct.one jT.one k7.one;obtain⟨q,A,mg,gO,dY,bt⟩:=b9 h [I k,str m,str f,I n,iT,v2,v3];have fg:=T.mono bt;have rF:=jT.mono bt;have K1:=k7.mono bt;have at6:=k7.len;unfold kC at aR;simp only[gj]at aR;have dw:=NC head [32,123];have nY:=uW [125];have sP:=uW [125,32,101,108,115,101,32,123];clear ct jT k7 af T;replace lx:=U lx;replace aC:=U aC;replace aK:=U aK;replace fg:=U fg;replace rF:=U rF;replace K1:=U K1;replace bt:=U bt;replace aR:=U aR;refine CE am0 rfl rfl rfl fun N=>?_;rw[s3 N8 iL rfl];delta N8;replace L:=U L;simp only[aa, *];refine p8 (by omega) fg.h [head,[32,123]] rfl rfl (by simp) (by have az:=aR.h;simp only[gj,ez]at az ⊢;omega) _ fun S dx l2=>?_;have g2:=l2.get dY;have rG:=rF.h.ha l2;have tc:=K1.h.ha l2;have l2:=bt.h.B.trans l2;clear rF K1 fg dY bt mg gO;replace rG:=U rG;replace tc:=U tc;replace dx:=U dx;replace l2:=U l2;simp only[aa,aw, *];refine lx.h aU aC.h t SX v2 h0 S p _ _ dx.h rG.h (by have az:=aR.h;simp only[gj,ez]at az ⊢;omega) fun ae gW aE=>?_;have g3:=aE.get g2;have K2:=tc.h.ha aE;have aE:=l2.h.trans aE;clear rG tc dx g2 l2;replace K2:=U K2;replace gW:=U gW;replace aE:=U aE;cases bz with
 |nil =>
  have z:¬(0:Int)<(([]:List aP).length:Int):=by simp
  simp only[aa,aw,av,ay, *];refine p8 (by omega) gW.h [[125]] rfl rfl (by simp) (by have az:=aR.h;simp at az ⊢;simp only[ez]at az ⊢;omega) _ fun aB dy aO=>?_;have g:=L.h aB (by simpa[kC] using dy) (aE.h.trans aO);replace g:=Hid.mk g;clear dy aO;simp only[aa, *];exact g.h
 |cons s r =>
  have z:(0:Int)<((s::r).length:Int):=by simp only[HA];omega
  simp only[aa,aw,av,ay, *];refine p8 (by omega) gW.h [[125,32,101,108,115,101,32,123]] rfl rfl (by simp) (by have az:=aR.h;simp at az ⊢;simp only[ez]at az ⊢;omega) _ fun aB dy aO=>?_;have g4:=aO.get g3;have K3:=K2.h.ha aO;have aO:=aE.h.trans aO;clear K2 gW g3 aE;replace K3:=U K3;replace dy:=U dy;replace aO:=U aO;simp only[aa,aw, *];refine lx.h (s::r) aK.h t SX v3 h0 aB p _ _ dy.h K3.h (by have az:=aR.h;simp at az ⊢;simp only[ez]at az ⊢;omega) fun aG iB bc=>?_;have bc:=aO.h.trans bc;clear K3 dy g4 aO;replace iB:=U iB;replace bc:=U bc;simp only[aa, *];refine p8 (by omega) iB.h [[125]] rfl rfl (by simp) (by have az:=aR.h;simp at az ⊢;simp only[ez]at az ⊢;omega) _ fun a1 kJ aY=>?_;have g:=L.h a1 (by simpa[kC] using kJ) (bc.h.trans aY);replace g:=Hid.mk g;clear kJ aY;simp only[aa, *];exact g.h
theorem aqr{d:Nat}(lx:Iw d):Np (d+1):=by
 intro s ak t SX x h0 h p l Q T af aR L;have ht:=af;obtain⟨iT,v2,v3,rfl,ct,jT,k7⟩:=af.cells;have dJ:=yk (k:=s.kind) (m:=s.name) (f:=s.src) (n:=s.n) ct.one jT.one k7.one;obtain⟨q,A,mg,gO,dY,bt⟩:=b9 h [I s.kind,str s.name,str s.src,I s.n,iT,v2,v3];have fg:=T.mono bt;have jR:=ct.mono bt;have eK:=ht.mono bt;clear ct jT k7 af T ht;replace lx:=U lx;replace fg:=U fg;replace jR:=U jR;replace bt:=U bt;replace aR:=U aR;replace eK:=U eK;have j9:0≤s.n∧s.n≤20:=by cases ak<;>simp[aP.n]<;>omega
 replace j9:=U j9;refine CE anJ rfl rfl rfl fun N=>?_;rw[eJ Qz mZ rfl];delta Qz;replace L:=U L;simp only[aa,aw, *];refine BB j9.h.1 (by have:=j9.h.2;omega) _ ?_;cases ak with
 |set m a d h ai =>
  simp only[aP.kind,aP.name,aP.src,aP.n,aP.args,aP.aU,aP.bz]at *;obtain⟨id,off,cells,own,y,az,aL,bq,dr,_⟩:=jR.h.elem (i:=0) (e:=a) rfl;rw[Pd]at az;have u:=ND m [32,61,32] (bU a) [59];have hp:gy t (.mk 1 m [] 0 [a] [] [])=dA t [m,[32,61,32],bU a,[59]]:=rfl;rw[hp]at L aR;replace dr:=U dr;simp only[aa,aw,av,ay, *];refine Cb 30 (by omega) a ai _ _ _ dr.h fun S l2=>lg l2.ext ?_;have g2:=l2.get dY;have dx:=fg.h.mono l2;have aE:=bt.h.trans l2;clear fg jR eK az aL bq dr bt l2 dY;replace dx:=U dx;replace aE:=U aE;simp only[aa,aw, *];refine p8 (by omega) dx.h _ rfl rfl (by simp) aR.h _ fun aB dy aO=>?_;have g:=L.h aB dy (aE.h.B.trans aO);replace g:=Hid.mk g;clear dy aO;simp only[aa, *];exact g.h
 |get m f n d h aZ hn =>
  simp only[aP.kind,aP.name,aP.src,aP.n,aP.args,aP.aU,aP.bz]at *;have u:=NE m [32,61,32] f [46] (bs (n:Int).toNat) [59];have hp:gy t (.mk 2 m f n [] [] [])=dA t [m,[32,61,32],f,[46],bs (n:Int).toNat,[59]]:=rfl;rw[hp]at L aR;clear eK jR;simp only[aa,aw,av,ay,Int.reduceBEq, *];refine p8 (by omega) fg.h _ rfl rfl (by simp) aR.h _ fun aB dy aO=>?_;have g:=L.h aB dy (bt.h.B.trans aO);replace g:=Hid.mk g;clear dy aO;simp only[aa, *];exact g.h
 |put m n a d h hn ai =>
  simp only[aP.kind,aP.name,aP.src,aP.n,aP.args,aP.aU,aP.bz]at *;obtain⟨id,off,cells,own,y,az,aL,bq,dr,_⟩:=jR.h.elem (i:=0) (e:=a) rfl;rw[Pd]at az;have u:=NE m [46] (bs (n:Int).toNat) [32,61,32] (bU a) [59];have hp:gy t (.mk 3 m [] n [a] [] [])=dA t [m,[46],bs (n:Int).toNat,[32,61,32],bU a,[59]]:=rfl;rw[hp]at L aR;replace dr:=U dr;simp only[aa,aw,av,ay,Int.reduceBEq, *];refine Cb 30 (by omega) a ai _ _ _ dr.h fun S l2=>lg l2.ext ?_;have g2:=l2.get dY;have dx:=fg.h.mono l2;have aE:=bt.h.trans l2;clear fg jR eK az aL bq dr bt l2 dY;replace dx:=U dx;replace aE:=U aE;simp only[aa,aw, *];refine p8 (by omega) dx.h _ rfl rfl (by simp) aR.h _ fun aB dy aO=>?_;have g:=L.h aB dy (aE.h.B.trans aO);replace g:=Hid.mk g;clear dy aO;simp only[aa, *];exact g.h
 |store m a b d h ai T =>
  simp only[aP.kind,aP.name,aP.src,aP.n,aP.args,aP.aU,aP.bz]at *;obtain⟨id,off,cells,own,y,az,aL,bq,dr,_⟩:=jR.h.elem (i:=0) (e:=a) rfl;rw[Pd]at az;have u:=NE m [91] (bU a) [93,32,61,32] (bU b) [59];have hp:gy t (.mk 4 m [] 0 [a,b] [] [])=dA t [m,[91],bU a,[93,32,61,32],bU b,[59]]:=rfl;rw[hp]at L aR;replace dr:=U dr;simp only[aa,aw,av,ay,Int.reduceBEq, *];refine Cb 30 (by omega) a ai _ _ _ dr.h fun S l2=>lg l2.ext ?_;have g2:=l2.get dY;have dx:=fg.h.mono l2;obtain⟨sz,q9,qy,rb,xY,f1,f2,f3,p2,_⟩:=(jR.h.mono l2).elem (i:=1) (e:=b) rfl;rw[show((1:Nat):Int)=1 from rfl]at f1;have aE:=bt.h.trans l2;clear fg jR eK az aL bq dr bt l2 dY;replace dx:=U dx;replace aE:=U aE;replace p2:=U p2;simp only[aa,aw, *];refine Cb 30 (by omega) b T _ _ _ p2.h fun ae aO=>lg aO.ext ?_;have g3:=aO.get g2;have gW:=dx.h.mono aO;have aO:=aE.h.trans aO;clear dx f1 f2 f3 p2 aE g2;replace gW:=U gW;replace aO:=U aO;simp only[aa,aw, *];refine p8 (by omega) gW.h _ rfl rfl (by simp) aR.h _ fun aB dy bc=>?_;have g:=L.h aB dy (aO.h.B.trans bc);replace g:=Hid.mk g;clear dy bc;simp only[aa, *];exact g.h
 |halt d =>
  simp only[aP.kind,aP.name,aP.src,aP.n,aP.args,aP.aU,aP.bz]at *;have u:=uW [104,97,108,116,59];have hp:gy t (.mk 8 [] [] 0 [] [] [])=dA t [[104,97,108,116,59]]:=rfl;rw[hp]at L aR;clear eK jR;simp only[aa,aw,av,ay,Int.reduceBEq, *];refine p8 (by omega) fg.h _ rfl rfl (by simp) aR.h _ fun aB dy aO=>?_;have g:=L.h aB dy (bt.h.B.trans aO);replace g:=Hid.mk g;clear dy aO;simp only[aa, *];exact g.h
 |lock m aU d h aC =>
  have hm:=qY h;have qB:=cf (a:=[108,111,99,107,32]) (b:=m) (by simp;omega);have hp:gy t (.mk 5 m [] 0 [] aU [])=kC t ([108,111,99,107,32]++m) (cJ (t+1) aU) (cJ (t+1) []) false:=rfl;rw[hp]at L aR;simp only[aP.kind,aP.name,aP.src,aP.n,aP.args,aP.aU,aP.bz]at *;clear jR hm;simp only[aa,aw,av,ay,Int.reduceBEq,jX, *];refine NA lx.h aC (by simp) (by omega) fg.h eK.h aR.h _ fun aB dy aO=>?_;have g:=L.h aB dy (bt.h.B.trans aO);replace g:=Hid.mk g;clear dy aO;simp only[aa, *];exact g.h
 |rW n aU d hn aC =>
  have hm:=u2 2 n (by omega);have qB:=cf (a:=[114,101,112,101,97,116,32]) (b:=bs (n:Int).toNat) (by simp at hm ⊢;omega);have hp:gy t (.mk 7 [] [] n [] aU [])=kC t ([114,101,112,101,97,116,32]++bs (n:Int).toNat) (cJ (t+1) aU) (cJ (t+1) []) false:=rfl;rw[hp]at L aR;simp only[aP.kind,aP.name,aP.src,aP.n,aP.args,aP.aU,aP.bz]at *;clear jR hm;simp only[aa,aw,av,ay,Int.reduceBEq,jX, *];refine NA lx.h aC (by simp) (by omega) fg.h eK.h aR.h _ fun aB dy aO=>?_;have g:=L.h aB dy (bt.h.B.trans aO);replace g:=Hid.mk g;clear dy aO;simp only[aa, *];exact g.h
 |cond a aU bz d ai aC aK =>
  have hm:=uM ai (by omega);have qB:=cf (a:=[105,102,32,40]) (b:=bU a) (by simp;omega);have QU:=cf (a:=[105,102,32,40]++bU a) (b:=[41]) (by simp;omega);have hp:gy t (.mk 6 [] [] 0 [a] aU bz)=kC t ([105,102,32,40]++bU a++[41]) (cJ (t+1) aU) (cJ (t+1) bz) (!bz.isEmpty):=rfl;rw[hp]at L aR;simp only[aP.kind,aP.name,aP.src,aP.n,aP.args,aP.aU,aP.bz]at *;obtain⟨id,off,cells,own,y,az,aL,bq,dr,_⟩:=jR.h.elem (i:=0) (e:=a) rfl;rw[Pd]at az;clear jR hm;replace dr:=U dr;simp only[aa,aw,av,ay,Int.reduceBEq, *];refine Cb 30 (by omega) a ai _ _ _ dr.h fun S l2=>lg l2.ext ?_;have g2:=l2.get dY;have dx:=fg.h.mono l2;have gZ:=eK.h.mono l2;have aE:=bt.h.trans l2;clear fg eK az aL bq dr bt l2 dY;replace dx:=U dx;replace aE:=U aE;replace gZ:=U gZ;simp only[aa,aw,av,jX, *];refine NA lx.h aC aK (by omega) dx.h gZ.h aR.h _ fun aB dy aO=>?_;have g:=L.h aB dy (aE.h.B.trans aO);replace g:=Hid.mk g;clear dy aO;simp only[aa, *];exact g.h
theorem adJ:∀(d:Nat),d≤45→Np d
 |0,_=>fun s ak=>by cases ak
 |d+1,hd=>aqr (WU (adJ d (by omega)))
theorem WT(d:Nat)(hd:d≤45):Iw d:=WU (adJ d hd)
def sC:List (aD):=[[],[117,97,114,116],[116,105,109,101,114],[103,112,105,111]]
def ir(d:Nm):aD:=dA 0 [[100,101,118,105,99,101,32],d.name,[32],sC.getD d.n.toNat []]
def iR(d:Nm):aD:=dA 0 [[114,101,115,111,117,114,99,101,32],d.name,[32],bs d.n.toNat]
def qN(t:dO):aD:=[32]++t.name++[32]++bs t.cB.toNat++[32]++bs t.prio.toNat
def fh(t:dO):aD:=(if t.ga then dA 0 [[104,97,110,100,108,101,114],qN t,[32],bs t.line.toNat,[32,123]] else dA 0 [[116,97,115,107],qN t,[32,123]])++cJ 1 t.body++dA 0 [[125]]
def lZ(p:gS):aD:=dA 0 [[104,97,114,116,115,32],bs p.bS.toNat]++(p.c2.map ir).flatten++(p.cv.map iR).flatten++(p.db.map fh).flatten
theorem ag2:ie [aI,aI,aI,aI] [(0,1),(1,1),(2,1),(3,1)] 4 1 [aI,.string ⟨#[117,97,114,116]⟩,.string ⟨#[116,105,109,101,114]⟩,.string ⟨#[103,112,105,111]⟩]=some ([aI,.string ⟨#[117,97,114,116]⟩,.string ⟨#[116,105,109,101,114]⟩,.string ⟨#[103,112,105,111]⟩],fun id=>.slice (some ⟨id,0,none⟩) 4 1):=rq rfl rfl rfl (by simp[Value.cells,Value.oneCell'])
theorem akD(h:J)(Q:aT)(L:∀ v D,ng D v sC→h.le D→Q v D):bj Tryz.prog 44 [] h Q:=by
 refine c7 (k:=0) amW rfl rfl rfl fun N=>?_;rw[Fl PF iL rfl];delta PF;replace L:=U L;simp only[aa,ag2, *];exact L.h _ _ (vZ h sC rfl rfl) ((J.le.refl h).alloc _)
theorem MP(h:J)(m:aD)(k:Int):cz 2 (h.alloc (.aq [aI,I 0] true)) [aH h.next 0,ks m k]=some (b0,h.alloc (.aq [str m,I k] true)):=kk rfl rfl rfl (by simp[Value.oneCell'])
theorem kl.elem{h:J}{v:Value}{l:List Nm}(ad:kl h v l){i:Nat}{e:Nm}(au:l[i]?=some e) :
  ∃ id off cells own,oU 2 [v,I i]=some (aH id off)∧h.get id=some (.aq cells own)∧gI true off 2 cells=some (ks e.name e.n):=by
 obtain⟨id,off,cells,own,A,S,ae,aB⟩:=cT.elem ad.1 (i:=i) (x:=[str e.name,I e.n]) (by simp[au]);exact⟨id,off,cells,own,A,S,ae⟩
theorem kl.ha{h D:J}(ag:h.hi D){v:Value}{l:List Nm}(ad:kl h v l):kl D v l:=⟨ad.1.ha ag,ad.2⟩
theorem mz.ha{h D:J}(ag:h.hi D){v:Value}{l:List dO}(ad:mz h v l):mz D v l:=by
 obtain⟨xs,az,aL,bq⟩:=ad;refine⟨xs,az.ha ag,aL,?_⟩;have key:∀ {l:List dO}{xs:List (ar)},oB h l xs→oB D l xs:=by
  intro l;induction l with
  |nil=>exact fun h=>h
  |cons a r ih=>exact fun⟨x,fJ,A,⟨v,S,ae⟩,aB⟩=>⟨x,fJ,A,⟨v,S,ae.ha ag⟩,ih aB⟩
 exact key bq
theorem vI{c1 l5:Type}{l:List c1}{i:Nat}{e:c1}(f:c1→l5)(h:l[i]?=some e):(l.map f)[i]?=some (f e):=by simp[h]
theorem aov{q:Nat}{h0 h:J}{w:Nat}{dD:aD}(mG:gz h0 h w dD 0){v:Value}{l:List Nm}(ad:kl h v l)(c6:∀ d∈l,jO d=true)(aR:dD.length+(l.map ir).flatten.length≤ez){N:Nat}{vars:List Nat}{rU ej x3 ZT u6 Fj u8 kj Cd Ce Cf xP Cg Ch Ci xQ:Value}(R:dM→ar→J→Prop)
  (L:∀ D x5 x11 x12,gz h0 D w (dD++(l.map ir).flatten) 0→h.hi D→R (.exit 0) [rU,aH q 0,ej,x3,aH w 0,x5,u6,Fj,u8,v,I l.length,x11,x12,Cd,Ce,Cf,xP,Cg,Ch,Ci,xQ] D) :
  ch Tryz.prog N vars O9 [rU,aH q 0,ej,x3,aH w 0,ZT,u6,Fj,u8,v,I l.length,I 0,kj,Cd,Ce,Cf,xP,Cg,Ch,Ci,xQ] h R:=by
 have bX:=ad.2;refine ch.upto l.length (fun i e S=>h.hi S∧gz h0 S w (dD++((l.map ir).take i).flatten) 0∧∃ x5 x12,e=[rU,aH q 0,ej,x3,aH w 0,x5,u6,Fj,u8,v,I l.length,I i,x12,Cd,Ce,Cf,xP,Cg,Ch,Ci,xQ]) ?_ (pc _) ⟨.refl h,by simpa using mG,_,_,rfl⟩;rintro i _ S EJ au ⟨bC,ij,x5,x12,rfl⟩ aN;delta O9;replace L:=Hid.mk L;by_cases aV:i<l.length
 ·have dm:(i:Int)<l.length:=by omega
  obtain⟨d,hd⟩:∃ d,l[i]?=some d:=⟨_,l8 aV⟩;have fN:=c6 d (List.mem_of_getElem? hd);simp only[jO,Bool.and_eq_true,decide_eq_true_eq]at fN;obtain⟨id,off,cells,own,az,aL,bq⟩:=(ad.ha bC).elem hd;have iu:=MP S d.name d.n;have ax:IntKind.i64.wrap ((i:Int)+1)=((i+1:Nat):Int):=by rw[cZ (by omega) (by omega)];rfl
  have gv:=AG (vI ir hd);have gw:=yN (l.map ir) (i+1);rw[gv,gj]at gw;obtain⟨Ux,ae,Fg,jA,wS,dq⟩:=b9 S [str d.name,I d.n];rw[jA,Fg]at iu;have gW:=ij.mono dq;have aE:=bC.trans dq.B;clear ij mG;replace gW:=U gW;replace aE:=U aE;replace hd:=U hd;replace fN:=U fN;replace gv:=U gv;replace gw:=U gw;replace aR:=U aR;replace bC:=U bC;replace ad:=U ad;simp only[aa,aw,bh,av,ay, *];refine akD _ _ fun at5 aB ab aO=>lg aO.ext ?_;have hf:=aO.get wS;obtain⟨iq,pn⟩:∃ k:Nat,d.n=k:=⟨d.n.toNat,by have:=fN.h;omega⟩;have lS:sC[iq]?=some (sC.getD iq []):=getD_some (by have:=fN.h;show iq<4;omega) [];obtain⟨sz,q9,qy,rb,f1,f2,f3,_⟩:=ab.elem lS;have dy:=gW.h.mono aO;have aO:=aE.h.trans aO.B;rw[pn]at hf;have u:=ND [100,101,118,105,99,101,32] d.name [32] (sC.getD iq []);have pr:ir d=dA 0 [[100,101,118,105,99,101,32],d.name,[32],sC.getD iq []]:=by rw[ir,pn];rfl
  rw[pr]at gv gw;clear gW aE wS lS ab pn pr dq;replace dy:=U dy;replace aO:=U aO;have z0:((0:Nat):Int)=0:=rfl;simp only[aa,aw, *];refine p8 (n:=0) (by omega) dy.h [[100,101,118,105,99,101,32],d.name,[32],sC.getD iq []] rfl rfl (by simp) (by have az:=aR.h;have aL:=gw.h;simp only[gj,ez]at az aL ⊢;omega) _ fun aG iB bc=>?_;have bc:=aO.h.trans bc;clear dy aO;replace iB:=U iB;replace bc:=U bc;simp only[aa,av,ay, *];exact aN.h _ _ aV ⟨bc.h,by rw[gv.h,← Lz];exact iB.h,_,_,rfl⟩
 ·have dm:¬(i:Int)<l.length:=by omega
  have ef:i=l.length:=by omega
  subst ef;rw[Yq (by simp)]at ij;have g:=fun a b c=>L.h S a b c ij bC;replace g:=Hid.mk g;clear aN L ij mG aR;simp only[aa,av,ay, *];exact g.h _ _ _
theorem aox{q:Nat}{h0 h:J}{w:Nat}{dD:aD}(mG:gz h0 h w dD 0){v:Value}{l:List Nm}(ad:kl h v l)(c6:∀ d∈l,jY d=true)(aR:dD.length+(l.map iR).flatten.length≤ez){N:Nat}{vars:List Nat}{rU ej x3 ZT u6 Fj u8 gL ju mX kj xP Cg Ch Ci xQ:Value}(R:dM→ar→J→Prop)
  (L:∀ D x6 aeH Ir,gz h0 D w (dD++(l.map iR).flatten) 0→h.hi D→R (.exit 2) [rU,aH q 0,ej,x3,aH w 0,ZT,x6,Fj,u8,gL,ju,mX,kj,v,I l.length,aeH,Ir,Cg,Ch,Ci,xQ] D) :
  ch Tryz.prog N vars Pa [rU,aH q 0,ej,x3,aH w 0,ZT,u6,Fj,u8,gL,ju,mX,kj,v,I l.length,I 0,xP,Cg,Ch,Ci,xQ] h R:=by
 have bX:=ad.2;refine ch.upto l.length (fun i e S=>h.hi S∧gz h0 S w (dD++((l.map iR).take i).flatten) 0∧∃ x6 Ir,e=[rU,aH q 0,ej,x3,aH w 0,ZT,x6,Fj,u8,gL,ju,mX,kj,v,I l.length,I i,Ir,Cg,Ch,Ci,xQ]) ?_ (pc _) ⟨.refl h,by simpa using mG,_,_,rfl⟩;rintro i _ S EJ au ⟨bC,ij,x6,Ir,rfl⟩ aN;delta Pa;replace L:=Hid.mk L;by_cases aV:i<l.length
 ·have dm:(i:Int)<l.length:=by omega
  obtain⟨d,hd⟩:∃ d,l[i]?=some d:=⟨_,l8 aV⟩;have fN:=c6 d (List.mem_of_getElem? hd);simp only[jY,Bool.and_eq_true,decide_eq_true_eq]at fN;obtain⟨id,off,cells,own,az,aL,bq⟩:=(ad.ha bC).elem hd;have iu:=MP S d.name d.n;have ax:IntKind.i64.wrap ((i:Int)+1)=((i+1:Nat):Int):=by rw[cZ (by omega) (by omega)];rfl
  have gv:=AG (vI iR hd);have gw:=yN (l.map iR) (i+1);rw[gv,gj]at gw;obtain⟨Ux,ae,Fg,jA,wS,dq⟩:=b9 S [str d.name,I d.n];rw[jA,Fg]at iu;have gW:=ij.mono dq;have aE:=bC.trans dq.B;clear ij mG;replace gW:=U gW;replace aE:=U aE;replace hd:=U hd;replace fN:=U fN;replace gv:=U gv;replace gw:=U gw;replace aR:=U aR;replace bC:=U bC;replace ad:=U ad;simp only[aa,aw,bh,av,ay, *];refine BB (by have:=fN.h;omega) (by have:=fN.h;omega) _ ?_;refine lg (J.le.refl _).ext ?_;have u:=ND [114,101,115,111,117,114,99,101,32] d.name [32] (bs d.n.toNat);have pr:iR d=dA 0 [[114,101,115,111,117,114,99,101,32],d.name,[32],bs d.n.toNat]:=rfl;rw[pr]at gv gw;have dy:=gW.h;have aO:=aE.h;clear gW aE pr dq;replace dy:=U dy;replace aO:=U aO;have z0:((0:Nat):Int)=0:=rfl;simp only[aa,aw, *];refine p8 (n:=0) (by omega) dy.h [[114,101,115,111,117,114,99,101,32],d.name,[32],bs d.n.toNat] rfl rfl (by simp) (by have az:=aR.h;have aL:=gw.h;simp only[gj,ez]at az aL ⊢;omega) _ fun aG iB bc=>?_;have bc:=aO.h.trans bc;clear dy aO;replace iB:=U iB;replace bc:=U bc;simp only[aa,av,ay, *];exact aN.h _ _ aV ⟨bc.h,by rw[gv.h,← Lz];exact iB.h,_,_,rfl⟩
 ·have dm:¬(i:Int)<l.length:=by omega
  have ef:i=l.length:=by omega
  subst ef;rw[Yq (by simp)]at ij;have g:=fun a b c=>L.h S a b c ij bC;replace g:=Hid.mk g;clear aN L ij mG aR;simp only[aa,av,ay, *];exact g.h _ _ _
structure af8(t:dO):Prop where
 name:de t.name=true
 cB:0≤t.cB∧t.cB≤3
 prio:1≤t.prio∧t.prio≤7
 line:0≤t.line∧t.line≤7
 body:∀ s∈t.body,jx s 30
theorem aqD{t:dO}(h:js t=true):af8 t:=by
 simp only[js,Bool.and_eq_true,decide_eq_true_eq,we,u7]at h;obtain⟨⟨⟨⟨A,S⟩,ae⟩,aB⟩,aG⟩:=h;exact⟨A,S,ae,by split at aB<;>omega,fun s ak=>(Cl 30 s).1 (aG s ak)⟩
theorem aoz{q:Nat}{h0 h:J}{w:Nat}{dD:aD}(mG:gz h0 h w dD 0){v:Value}{l:List dO}(ad:mz h v l)(c6:∀ d∈l,js d=true)(aR:dD.length+(l.map fh).flatten.length≤ez){N:Nat}{vars:List Nat}{rU ej x3 ZT u6 Fj u8 gL ju mX kj Cd Ce Cf xP xQ:Value}(R:dM→ar→J→Prop)
  (L:∀ D x7 x8 aeI Is,gz h0 D w (dD++(l.map fh).flatten) 0→h.hi D→R (.exit 4) [rU,aH q 0,ej,x3,aH w 0,ZT,u6,x7,x8,gL,ju,mX,kj,Cd,Ce,Cf,xP,v,I l.length,aeI,Is] D) :
  ch Tryz.prog N vars Pb [rU,aH q 0,ej,x3,aH w 0,ZT,u6,Fj,u8,gL,ju,mX,kj,Cd,Ce,Cf,xP,v,I l.length,I 0,xQ] h R:=by
 have bX:=ad.le;refine ch.upto l.length (fun i e S=>h.hi S∧gz h0 S w (dD++((l.map fh).take i).flatten) 0∧∃ x7 x8 Is,e=[rU,aH q 0,ej,x3,aH w 0,ZT,u6,x7,x8,gL,ju,mX,kj,Cd,Ce,Cf,xP,v,I l.length,I i,Is]) ?_ (pc _) ⟨.refl h,by simpa using mG,_,_,_,rfl⟩;rintro i _ S EJ au ⟨bC,ij,x7,x8,Is,rfl⟩ aN;delta Pb;replace L:=Hid.mk L;by_cases aV:i<l.length
 ·have dm:(i:Int)<l.length:=by omega
  obtain⟨t,hd⟩:∃ d,l[i]?=some d:=⟨_,l8 aV⟩;have fN:=aqD (c6 t (List.mem_of_getElem? hd));obtain⟨id,off,cells,own,u,az,aL,bq,RU⟩:=(ad.ha bC).elem hd;have iu:=Vh S t.name t.ga t.cB t.prio t.line RU.one;have ax:IntKind.i64.wrap ((i:Int)+1)=((i+1:Nat):Int):=by rw[cZ (by omega) (by omega)];rfl
  have gv:=AG (vI fh hd);have gw:=yN (l.map fh) (i+1);rw[gv,gj]at gw;obtain⟨Ux,ae,Fg,jA,wS,dq⟩:=b9 S [str t.name,.bool t.ga,I t.cB,I t.prio,I t.line,u];rw[jA,Fg]at iu;have gW:=ij.mono dq;have Hg:=RU.mono dq;have aE:=bC.trans dq.B;have hD:=qY fN.name;have h9:=u2 2 t.cB.toNat (by have:=fN.cB;omega);have rN:=u2 2 t.prio.toNat (by have:=fN.prio;omega);have XX:=cf (a:=[32]) (b:=t.name) (by simp;omega);have QU:=cf (a:=[32]++t.name) (b:=[32]) (by simp;omega);have XY:=cf (a:=[32]++t.name++[32]) (b:=bs t.cB.toNat) (by simp;omega);have XZ:=cf (a:=[32]++t.name++[32]++bs t.cB.toNat) (b:=[32]) (by simp;omega);have QV:=cf (a:=[32]++t.name++[32]++bs t.cB.toNat++[32]) (b:=bs t.prio.toNat) (by simp;omega);have cp:[32]++t.name++[32]++bs t.cB.toNat++[32]++bs t.prio.toNat=qN t:=rfl;rw[cp]at QV;clear ij mG RU hD h9 rN cp;replace gW:=U gW;replace Hg:=U Hg;replace aE:=U aE;replace hd:=U hd;replace fN:=U fN;replace gv:=U gv;replace gw:=U gw;replace aR:=U aR;replace bC:=U bC;replace ad:=U ad;have z0:((0:Nat):Int)=0:=rfl;simp only[aa,aw,bh,av,ay, *];refine BB fN.h.cB.1 (by have:=fN.h.cB;omega) _ (lg (J.le.refl _).ext ?_);simp only[aa,aw, *];refine BB (by have:=fN.h.prio;omega) (by have:=fN.h.prio;omega) _ (lg (J.le.refl _).ext ?_);clear iu;have oL:∀ aB hd,ae.hi aB→hd=(if t.ga then dA 0 [[104,97,110,100,108,101,114],qN t,[32],bs t.line.toNat,[32,123]] else dA 0 [[116,97,115,107],qN t,[32,123]])→gz h0 aB w (dD++((l.map fh).take i).flatten++hd) 0 →
    (dD++((l.map fh).take i).flatten++hd++cJ 1 t.body++dA 0 [[125]]).length≤ez∧h.hi aB∧aB.get Ux=some (.aq [str t.name,.bool t.ga,I t.cB,I t.prio,I t.line,u] true)∧hO aB u t.body:=by
   intro aB hd Gt sl dy;have az:=aR.h;have aL:=gw.h;refine⟨?_,aE.h.trans Gt,Gt.get wS,Hg.h.ha Gt⟩;rw[fh,← sl]at aL;simp only[gj,ez]at az aL ⊢;omega
  replace oL:=U oL;cases vi:t.ga with
  |true =>
   rw[vi]at wS oL;simp only[if_true]at oL;have Vu:=ag0 [104,97,110,100,108,101,114] (qN t) [32] (bs t.line.toNat) [32,123];simp only[aa,aw,av, *];refine BB fN.h.line.1 (by have:=fN.h.line;omega) _ ?_;simp only[aa, *];refine p8 (n:=0) (by omega) gW.h [[104,97,110,100,108,101,114],qN t,[32],bs t.line.toNat,[32,123]] rfl rfl (by simp) (by have az:=aR.h;have aL:=gw.h;simp only[fh,vi,if_true,gj,ez]at az aL ⊢;omega) _ fun aB dy aO=>?_;obtain⟨cn,bM,cE,eb⟩:=oL.h aB _ aO rfl dy;clear oL gW Hg aE wS aO Vu XX QU XY XZ QV;replace cn:=U cn;replace bM:=U bM;replace eb:=U eb;replace dy:=U dy;simp only[aa,aw, *];refine WT 30 (by omega) t.body fN.h.body 0 (by omega) u h0 aB w _ _ dy.h eb.h (by have az:=cn.h;simp only[gj,ez,NU]at az ⊢;omega) fun aG iB bc=>?_;have nY:=uW [125];have bc:=bM.h.trans bc;clear cE eb bM dy;replace bc:=U bc;replace iB:=U iB;simp only[aa, *];refine p8 (n:=0) (by omega) iB.h _ rfl rfl (by simp) cn.h _ fun a1 kJ aY=>?_;have aY:=bc.h.trans aY;clear iB bc;replace aY:=U aY;replace kJ:=U kJ;simp only[aa,av,ay, *];refine aN.h _ _ aV ⟨aY.h,?_,_,_,_,rfl⟩;rw[gv.h,fh,vi];simpa using kJ.h
  |false =>
   rw[vi]at wS oL;simp only[LZ,if_false]at oL;have Vu:=ym [116,97,115,107] (qN t) [32,123];simp only[aa,aw,av, *];refine p8 (n:=0) (by omega) gW.h [[116,97,115,107],qN t,[32,123]] rfl rfl (by simp) (by have az:=aR.h;have aL:=gw.h;simp only[fh,vi,LZ,if_false,gj,ez]at az aL ⊢;omega) _ fun aB dy aO=>?_;obtain⟨cn,bM,cE,eb⟩:=oL.h aB _ aO rfl dy;clear oL gW Hg aE wS aO Vu XX QU XY XZ QV;replace cn:=U cn;replace bM:=U bM;replace eb:=U eb;replace dy:=U dy;simp only[aa,aw, *];refine WT 30 (by omega) t.body fN.h.body 0 (by omega) u h0 aB w _ _ dy.h eb.h (by have az:=cn.h;simp only[gj,ez,NU]at az ⊢;omega) fun aG iB bc=>?_;have nY:=uW [125];have bc:=bM.h.trans bc;clear cE eb bM dy;replace bc:=U bc;replace iB:=U iB;simp only[aa, *];refine p8 (n:=0) (by omega) iB.h _ rfl rfl (by simp) cn.h _ fun a1 kJ aY=>?_;have aY:=bc.h.trans aY;clear iB bc;replace aY:=U aY;replace kJ:=U kJ;simp only[aa,av,ay, *];refine aN.h _ _ aV ⟨aY.h,?_,_,_,_,rfl⟩;rw[gv.h,fh,vi];simpa using kJ.h
 ·have dm:¬(i:Int)<l.length:=by omega
  have ef:i=l.length:=by omega
  subst ef;rw[Yq (by simp)]at ij;have g:=fun a b c d=>L.h S a b c d ij bC;replace g:=Hid.mk g;clear aN L ij mG aR;simp only[aa,av,ay, *];exact g.h _ _ _ _
theorem afZ(h:J):bh (.EX nU) [.agg #[.pointer none,bx,I 0]] h=some ((aH h.next 0),h.alloc (.gg [.pointer none,bx,I 0] nU true)):=rfl
theorem gz.fresh(h:J):gz h (h.alloc (.gg [.pointer none,bx,I 0] nU true)) h.next [] 0 :=
 ⟨(J.le.refl h).alloc _,kx _,_,_,.inl rfl,J.hy _ _,.inl ⟨rfl,rfl⟩⟩
theorem rS(a b c d:Value):gI true 0 4 [a,b,c,d]=some (.agg #[a,b,c,d]):=rfl
theorem UQ{p:gS}(h:mT p=true):(1≤p.bS∧p.bS≤4)∧(∀ d∈p.c2,jO d=true)∧(∀ d∈p.cv,jY d=true)∧(∀ d∈p.db,js d=true):=by
 simp only[mT,Bool.and_eq_true,decide_eq_true_eq,u7]at h;exact⟨h.1.1.1.1.1.1,h.1.1.2,h.1.2,h.2⟩
theorem af1{h:J}{p:gS}{x:ar}(af:pM h p x)(aR:mT p=true→(lZ p).length≤ez)(Q:aT)
  (L:∀ D,h.le D→Q (.tuple #[str (if mT p then lZ p else[]),I (if mT p then 0 else 1)]) D):bj Tryz.prog 20 [.agg x.toArray] h Q:=by
 have ht:=af;obtain⟨d,r,t,rfl,hd,hr,aC⟩:=af;have dJ:=yj (n:=p.bS) hd.one hr.one aC.one;obtain⟨q,A,mg,gO,dY,bt⟩:=b9 h [I p.bS,d,r,t];have eK:=ht.mono bt;have fd:=hd.mono bt;have iX:=hr.mono bt;have rF:=aC.mono bt;clear hd hr aC ht;replace eK:=U eK;replace fd:=U fd;replace iX:=U iX;replace rF:=U rF;replace bt:=U bt;replace aR:=U aR;refine qw (k:=2) (j:=3) amC rfl rfl rfl fun N=>?_;rw[gE O8 ar4 rfl];delta O8;replace L:=U L;simp only[aa,aw,rS, *];refine VX eK.h _ fun S l2=>?_;have g2:=l2.get dY;have h5:=fd.h.mono l2;have fO:=iX.h.mono l2;have rG:=rF.h.mono l2;have l2:=bt.h.trans l2;clear eK fd iX rF bt dJ gO dY mg;cases c6:mT p with
 |false =>
  have g:=L.h S l2;rw[c6]at g;simp only[LZ,if_false]at g;replace g:=Hid.mk g;clear L aR h5 fO rG l2;simp only[aa, *];exact g.h
 |true =>
  have aR:=aR.h c6;rw[c6]at L;simp only[if_true]at L;obtain⟨ck,cm,cb,eC⟩:=UQ c6;have I1:gQ [.pointer none,bx,I 0] [] []=some (.agg #[.pointer none,bx,I 0]):=rfl;have sX:=afZ S;have T:=gz.fresh S;have aE:=(J.le.refl S).alloc (.gg [.pointer none,bx,I 0] nU true);obtain⟨w,ax⟩:∃ w,S.next=w:=⟨_,rfl⟩;obtain⟨ae,gX⟩:∃ ae,S.alloc (.gg [.pointer none,bx,I 0] nU true)=ae:=⟨_,rfl⟩;rw[gX,ax]at sX T;rw[gX]at aE;have g3:=aE.get g2;have lm:=h5.mono aE;have lW:=fO.mono aE;have w7:=rG.mono aE;have Uw:=l2;unfold lZ at aR;simp only[gj,ez]at aR;clear gX ax h5 fO rG aE g2 l2;replace T:=U T;replace lm:=U lm;replace lW:=U lW;replace w7:=U w7;replace aR:=U aR;replace c6:=U c6;replace ck:=U ck;replace cm:=U cm;replace cb:=U cb;replace eC:=U eC;replace Uw:=U Uw;simp only[aa,aw, *];refine BB (by have:=ck.h;omega) (by have:=ck.h;omega) _ ?_;have u:=NC [104,97,114,116,115,32] (bs p.bS.toNat);have z0:((0:Nat):Int)=0:=rfl;simp only[aa, *];refine p8 (n:=0) (by omega) T.h [[104,97,114,116,115,32],bs p.bS.toNat] rfl rfl (by simp) (by have:=aR.h;simp only[aab,ez];omega) _ fun aB dy aO=>?_;have g4:=aO.get g3;have pj:=lm.h.ha aO;have p5:=lW.h.ha aO;have Lr:=w7.h.ha aO;have kf:=pj.len;clear T lm lW w7 g3 aO sX u;replace dy:=U dy;replace pj:=U pj;replace p5:=U p5;replace Lr:=U Lr;simp only[aa,aw, *];refine aov dy.h pj.h cm.h (by have:=aR.h;simp only[aab,ez];omega) _ fun aG x5 x11 x12 iB bc=>?_;have g5:=bc.get g4;have uk:=p5.h.ha bc;have w8:=Lr.h.ha bc;have aaW:=uk.len;clear dy pj p5 Lr g4 bc kf;replace iB:=U iB;replace uk:=U uk;replace w8:=U w8;simp only[aa,aw, *];refine aox iB.h uk.h cb.h (by have:=aR.h;simp only[aab,gj,ez];omega) _ fun a1 x6 aeH Ir kJ aY=>?_;have g6:=aY.get g5;have G3:=w8.h.ha aY;have aaX:=G3.len;clear iB uk w8 g5 aY aaW;replace kJ:=U kJ;replace G3:=U G3;simp only[aa,aw, *];refine aoz kJ.h G3.h eC.h (by have:=aR.h;simp only[aab,gj,ez];omega) _ fun bN x7 x8 aeI Is RO bE=>?_;clear kJ G3 g6 bE aaX;replace RO:=U RO;simp only[aa, *];refine aqy RO.h (by have:=aR.h;simp only[aab,gj,ez];omega) _ fun b7 cq _=>?_;have g:=L.h b7 (Uw.h.trans cq);have pt:[]++dA 0 [[104,97,114,116,115,32],bs p.bS.toNat]++(p.c2.map ir).flatten++(p.cv.map iR).flatten++(p.db.map fh).flatten=lZ p:=by rw[lZ,aab]
  rw[pt];replace g:=Hid.mk g;clear cq pt aR;simp only[aa, *];exact g.h
theorem ahI{gT:Type}{v w du:Value}{l m:List gT}{xs c4:List (ar)}{p:gT→gT→Bool}{h:J}(ad:cT h 5 v xs)(ax:cT h 5 w c4)(af:xs.length=l.length)(bw:c4.length=m.length)(po:l.length≤140737488355328)(Zu:m.length≤140737488355328)
  (rP:∀ x∈xs,x.length=5∧x.all (·.oneCell')=true) (rQ:∀ x∈c4,x.length=5∧x.all (·.oneCell')=true)
  (aZ:∀(i:Nat) e f x y,l[i]?=some e→m[i]?=some f→xs[i]?=some x→c4[i]?=some y→∀ A Q,h.le A→(∀ v D,v=.bool (p e f)→A.le D→Q v D)→oC Tryz.prog du [.agg x.toArray,.agg y.toArray] A Q) (Q:aT)
  (L:∀ u D,u=.bool (l.length==m.length && (l.zip m).all fun e=>p e.1 e.2)→h.le D→Q u D):bj Tryz.prog 127 [v,w,du] h Q:=by
 refine c7 (k:=3) am1 rfl rfl rfl fun N=>?_;rw[s3 N9 MW rfl];delta N9;replace L:=U L;have iQ:=ad.len;have vm:=ax.len;rw[af]at iQ;rw[bw]at vm;by_cases aR:l.length=m.length
 case neg =>
  have c:((l.length:Int) != (m.length:Int))=true:=by simp;omega
  have g:=L.h (.bool false) h (by simp[aR]) (.refl h);replace g:=Hid.mk g;replace aZ:=Hid.mk aZ;clear ad ax rP rQ L;simp only[aa,av,ay, *];exact g.h
 have c:((l.length:Int) != (m.length:Int))=false:=by simp[aR]
 replace aR:=Hid.mk aR;replace aZ:=Hid.mk aZ;replace rP:=Hid.mk rP;replace rQ:=Hid.mk rQ;simp only[aa,av,ay, *];refine ch.upto l.length (fun i e A=>h.le A∧(∀ j e f,j<i→l[j]?=some e→m[j]?=some f→p e f=true)∧∃ ek x5 x6 x10,e=[v,w,du,.bool false,ek,x5,x6,v,I l.length,I i,x10]) ?_ (pc _) ⟨J.le.refl h,by intro j e f bn;omega,_,_,_,_,rfl⟩;rintro i _ A R au ⟨bF,hp,ek,x5,x6,x10,rfl⟩ aN;delta Xg;by_cases aV:i<l.length
 ·have dm:(i:Int)<l.length:=by omega
  obtain⟨e,aK⟩:∃ e,l[i]?=some e:=⟨_,l8 aV⟩;obtain⟨f,pl⟩:∃ e,m[i]?=some e:=⟨_,l8 (by have:=aR.h;omega)⟩;obtain⟨x,kd⟩:∃ x,xs[i]?=some x:=⟨_,l8 (by omega)⟩;obtain⟨y,rI⟩:∃ x,c4[i]?=some x:=⟨_,l8 (by have:=aR.h;omega)⟩;obtain⟨uF,zR⟩:=rP.h x (List.mem_of_getElem? kd);obtain⟨uG,zS⟩:=rQ.h y (List.mem_of_getElem? rI);obtain⟨id,off,cells,own,az,aL,bq,_⟩:=(ad.mono bF).elem kd;have bT:=kk (h:=A) (v:=.agg x.toArray) (zs:=[I 0,I 0,I 0,aI,bx]) (cs:=x) rfl uF rfl zR;obtain⟨cd,S,tO,jz,iA,dh⟩:=b9 A x;rw[jz,tO]at bT;have l2:=bF.trans dh;obtain⟨sz,q9,qy,rb,f1,f2,f3,_⟩:=(ax.mono l2).elem rI;have b4:=kk (h:=S) (v:=.agg y.toArray) (zs:=[I 0,I 0,I 0,aI,bx]) (cs:=y) rfl uG rfl zS;obtain⟨cS,ae,u4,jA,eE,dq⟩:=b9 S y;rw[jA,u4]at b4;have wT:=dq.get iA;have aE:=l2.trans dq;have bA:gI true 0 5 x=some (.agg x.toArray):=by simp[gI,← uF]
  have bO:gI true 0 5 y=some (.agg y.toArray):=by simp[gI,← uG]
  have jG:=aZ.h i e f x y aK pl kd rI;replace jG:=Hid.mk jG;have mL:IntKind.i64.wrap ((i:Int)+1)=((i+1:Nat):Int):=by rw[cZ (by omega) (by omega)];rfl
  replace hp:=Hid.mk hp;replace aK:=Hid.mk aK;replace pl:=Hid.mk pl;clear iA kd rI uF uG zR zS ad ax dh dq;replace aE:=Hid.mk aE;replace l2:=Hid.mk l2;replace bF:=Hid.mk bF;simp only[aa,aw,bh,av,ay, *];refine jG.h ae _ aE.h fun v2 aB fD aO=>?_;subst fD;cases lb:p e f with
  |true =>
   have aO:=Hid.mk (aE.h.trans aO);simp only[aa,av,ay, *];refine aN.h _ _ aV ⟨aO.h,fun j cA oF bn kL Gm=>?_,_,_,_,_,rfl⟩;by_cases qP:j=i
   ·subst qP;have:=aK.h;have:=pl.h
    simp_all
   ·exact hp.h j cA oF (by omega) kL Gm
  |false =>
   have g:=L.h (.bool false) aB (by
    have:(l.zip m).all (fun e=>p e.1 e.2)=false:=by
     rw[aoi];refine⟨(e,f),List.mem_of_getElem? (i:=i) ?_,by simp[lb]⟩;rw[as8];exact⟨aK.h,pl.h⟩
    rw[this,Ho]) (aE.h.trans aO)
   replace g:=Hid.mk g;clear aN L aO;simp only[aa, *];exact g.h
 ·have dm:¬(i:Int)<l.length:=by omega
  have g:=L.h (.bool true) A (by
   have:(l.zip m).all (fun e=>p e.1 e.2)=true:=by
    rw[u7];intro e aK;obtain⟨j,bn⟩:=SM.1 aK;rw[as8]at bn;exact hp j e.1 e.2 (by have:=(pK.1 bn.1).1;omega) bn.1 bn.2
   rw[this,HI,aR.h];simp) bF
  replace g:=Hid.mk g;clear aN L;replace hp:=Hid.mk hp;simp only[aa,av,ay, *];exact g.h
theorem ahJ{gT:Type}{v w du:Value}{l m:List gT}{xs c4:List (ar)}{p:gT→gT→Bool}{h:J}(ad:cT h 7 v xs)(ax:cT h 7 w c4)(af:xs.length=l.length)(bw:c4.length=m.length)(po:l.length≤140737488355328)(Zu:m.length≤140737488355328)
  (rP:∀ x∈xs,x.length=7∧x.all (·.oneCell')=true) (rQ:∀ x∈c4,x.length=7∧x.all (·.oneCell')=true)
  (aZ:∀(i:Nat) e f x y,l[i]?=some e→m[i]?=some f→xs[i]?=some x→c4[i]?=some y→∀ A Q,h.le A→(∀ v D,v=.bool (p e f)→A.le D→Q v D)→oC Tryz.prog du [.agg x.toArray,.agg y.toArray] A Q) (Q:aT)
  (L:∀ u D,u=.bool (l.length==m.length && (l.zip m).all fun e=>p e.1 e.2)→h.le D→Q u D):bj Tryz.prog 94 [v,w,du] h Q:=by
 refine c7 (k:=3) anK rfl rfl rfl fun N=>?_;rw[s3 QA MW rfl];delta QA;replace L:=U L;have iQ:=ad.len;have vm:=ax.len;rw[af]at iQ;rw[bw]at vm;by_cases aR:l.length=m.length
 case neg =>
  have c:((l.length:Int) != (m.length:Int))=true:=by simp;omega
  have g:=L.h (.bool false) h (by simp[aR]) (.refl h);replace g:=Hid.mk g;replace aZ:=Hid.mk aZ;clear ad ax rP rQ L;simp only[aa,av,ay, *];exact g.h
 have c:((l.length:Int) != (m.length:Int))=false:=by simp[aR]
 replace aR:=Hid.mk aR;replace aZ:=Hid.mk aZ;replace rP:=Hid.mk rP;replace rQ:=Hid.mk rQ;simp only[aa,av,ay, *];refine ch.upto l.length (fun i e A=>h.le A∧(∀ j e f,j<i→l[j]?=some e→m[j]?=some f→p e f=true)∧∃ ek x5 x6 x10,e=[v,w,du,.bool false,ek,x5,x6,v,I l.length,I i,x10]) ?_ (pc _) ⟨J.le.refl h,by intro j e f bn;omega,_,_,_,_,rfl⟩;rintro i _ A R au ⟨bF,hp,ek,x5,x6,x10,rfl⟩ aN;delta XB;by_cases aV:i<l.length
 ·have dm:(i:Int)<l.length:=by omega
  obtain⟨e,aK⟩:∃ e,l[i]?=some e:=⟨_,l8 aV⟩;obtain⟨f,pl⟩:∃ e,m[i]?=some e:=⟨_,l8 (by have:=aR.h;omega)⟩;obtain⟨x,kd⟩:∃ x,xs[i]?=some x:=⟨_,l8 (by omega)⟩;obtain⟨y,rI⟩:∃ x,c4[i]?=some x:=⟨_,l8 (by have:=aR.h;omega)⟩;obtain⟨uF,zR⟩:=rP.h x (List.mem_of_getElem? kd);obtain⟨uG,zS⟩:=rQ.h y (List.mem_of_getElem? rI);obtain⟨id,off,cells,own,az,aL,bq,_⟩:=(ad.mono bF).elem kd;have bT:=kk (h:=A) (v:=.agg x.toArray) (zs:=[I 0,aI,aI,I 0,bx,bx,bx]) (cs:=x) rfl uF rfl zR;obtain⟨cd,S,tO,jz,iA,dh⟩:=b9 A x;rw[jz,tO]at bT;have l2:=bF.trans dh;obtain⟨sz,q9,qy,rb,f1,f2,f3,_⟩:=(ax.mono l2).elem rI;have b4:=kk (h:=S) (v:=.agg y.toArray) (zs:=[I 0,aI,aI,I 0,bx,bx,bx]) (cs:=y) rfl uG rfl zS;obtain⟨cS,ae,u4,jA,eE,dq⟩:=b9 S y;rw[jA,u4]at b4;have wT:=dq.get iA;have aE:=l2.trans dq;have bA:gI true 0 7 x=some (.agg x.toArray):=by simp[gI,← uF]
  have bO:gI true 0 7 y=some (.agg y.toArray):=by simp[gI,← uG]
  have jG:=aZ.h i e f x y aK pl kd rI;replace jG:=Hid.mk jG;have mL:IntKind.i64.wrap ((i:Int)+1)=((i+1:Nat):Int):=by rw[cZ (by omega) (by omega)];rfl
  replace hp:=Hid.mk hp;replace aK:=Hid.mk aK;replace pl:=Hid.mk pl;clear iA kd rI uF uG zR zS ad ax dh dq;replace aE:=Hid.mk aE;replace l2:=Hid.mk l2;replace bF:=Hid.mk bF;simp only[aa,aw,bh,av,ay, *];refine jG.h ae _ aE.h fun v2 aB fD aO=>?_;subst fD;cases lb:p e f with
  |true =>
   have aO:=Hid.mk (aE.h.trans aO);simp only[aa,av,ay, *];refine aN.h _ _ aV ⟨aO.h,fun j cA oF bn kL Gm=>?_,_,_,_,_,rfl⟩;by_cases qP:j=i
   ·subst qP;have:=aK.h;have:=pl.h
    simp_all
   ·exact hp.h j cA oF (by omega) kL Gm
  |false =>
   have g:=L.h (.bool false) aB (by
    have:(l.zip m).all (fun e=>p e.1 e.2)=false:=by
     rw[aoi];refine⟨(e,f),List.mem_of_getElem? (i:=i) ?_,by simp[lb]⟩;rw[as8];exact⟨aK.h,pl.h⟩
    rw[this,Ho]) (aE.h.trans aO)
   replace g:=Hid.mk g;clear aN L aO;simp only[aa, *];exact g.h
 ·have dm:¬(i:Int)<l.length:=by omega
  have g:=L.h (.bool true) A (by
   have:(l.zip m).all (fun e=>p e.1 e.2)=true:=by
    rw[u7];intro e aK;obtain⟨j,bn⟩:=SM.1 aK;rw[as8]at bn;exact hp j e.1 e.2 (by have:=(pK.1 bn.1).1;omega) bn.1 bn.2
   rw[this,HI,aR.h];simp) bF
  replace g:=Hid.mk g;clear aN L;replace hp:=Hid.mk hp;simp only[aa,av,ay, *];exact g.h
theorem ahK{gT:Type}{v w du:Value}{l m:List gT}{xs c4:List (ar)}{p:gT→gT→Bool}{h:J}(ad:cT h 6 v xs)(ax:cT h 6 w c4)(af:xs.length=l.length)(bw:c4.length=m.length)(po:l.length≤140737488355328)(Zu:m.length≤140737488355328)
  (rP:∀ x∈xs,x.length=6∧x.all (·.oneCell')=true) (rQ:∀ x∈c4,x.length=6∧x.all (·.oneCell')=true)
  (aZ:∀(i:Nat) e f x y,l[i]?=some e→m[i]?=some f→xs[i]?=some x→c4[i]?=some y→∀ A Q,h.le A→(∀ v D,v=.bool (p e f)→A.le D→Q v D)→oC Tryz.prog du [.agg x.toArray,.agg y.toArray] A Q) (Q:aT)
  (L:∀ u D,u=.bool (l.length==m.length && (l.zip m).all fun e=>p e.1 e.2)→h.le D→Q u D):bj Tryz.prog 49 [v,w,du] h Q:=by
 refine c7 (k:=3) an1 rfl rfl rfl fun N=>?_;rw[s3 PK MW rfl];delta PK;replace L:=U L;have iQ:=ad.len;have vm:=ax.len;rw[af]at iQ;rw[bw]at vm;by_cases aR:l.length=m.length
 case neg =>
  have c:((l.length:Int) != (m.length:Int))=true:=by simp;omega
  have g:=L.h (.bool false) h (by simp[aR]) (.refl h);replace g:=Hid.mk g;replace aZ:=Hid.mk aZ;clear ad ax rP rQ L;simp only[aa,av,ay, *];exact g.h
 have c:((l.length:Int) != (m.length:Int))=false:=by simp[aR]
 replace aR:=Hid.mk aR;replace aZ:=Hid.mk aZ;replace rP:=Hid.mk rP;replace rQ:=Hid.mk rQ;simp only[aa,av,ay, *];refine ch.upto l.length (fun i e A=>h.le A∧(∀ j e f,j<i→l[j]?=some e→m[j]?=some f→p e f=true)∧∃ ek x5 x6 x10,e=[v,w,du,.bool false,ek,x5,x6,v,I l.length,I i,x10]) ?_ (pc _) ⟨J.le.refl h,by intro j e f bn;omega,_,_,_,_,rfl⟩;rintro i _ A R au ⟨bF,hp,ek,x5,x6,x10,rfl⟩ aN;delta Xu;by_cases aV:i<l.length
 ·have dm:(i:Int)<l.length:=by omega
  obtain⟨e,aK⟩:∃ e,l[i]?=some e:=⟨_,l8 aV⟩;obtain⟨f,pl⟩:∃ e,m[i]?=some e:=⟨_,l8 (by have:=aR.h;omega)⟩;obtain⟨x,kd⟩:∃ x,xs[i]?=some x:=⟨_,l8 (by omega)⟩;obtain⟨y,rI⟩:∃ x,c4[i]?=some x:=⟨_,l8 (by have:=aR.h;omega)⟩;obtain⟨uF,zR⟩:=rP.h x (List.mem_of_getElem? kd);obtain⟨uG,zS⟩:=rQ.h y (List.mem_of_getElem? rI);obtain⟨id,off,cells,own,az,aL,bq,_⟩:=(ad.mono bF).elem kd;have bT:=kk (h:=A) (v:=.agg x.toArray) (zs:=[aI,.bool false,I 0,I 0,I 0,bx]) (cs:=x) rfl uF rfl zR;obtain⟨cd,S,tO,jz,iA,dh⟩:=b9 A x;rw[jz,tO]at bT;have l2:=bF.trans dh;obtain⟨sz,q9,qy,rb,f1,f2,f3,_⟩:=(ax.mono l2).elem rI;have b4:=kk (h:=S) (v:=.agg y.toArray) (zs:=[aI,.bool false,I 0,I 0,I 0,bx]) (cs:=y) rfl uG rfl zS;obtain⟨cS,ae,u4,jA,eE,dq⟩:=b9 S y;rw[jA,u4]at b4;have wT:=dq.get iA;have aE:=l2.trans dq;have bA:gI true 0 6 x=some (.agg x.toArray):=by simp[gI,← uF]
  have bO:gI true 0 6 y=some (.agg y.toArray):=by simp[gI,← uG]
  have jG:=aZ.h i e f x y aK pl kd rI;replace jG:=Hid.mk jG;have mL:IntKind.i64.wrap ((i:Int)+1)=((i+1:Nat):Int):=by rw[cZ (by omega) (by omega)];rfl
  replace hp:=Hid.mk hp;replace aK:=Hid.mk aK;replace pl:=Hid.mk pl;clear iA kd rI uF uG zR zS ad ax dh dq;replace aE:=Hid.mk aE;replace l2:=Hid.mk l2;replace bF:=Hid.mk bF;simp only[aa,aw,bh,av,ay, *];refine jG.h ae _ aE.h fun v2 aB fD aO=>?_;subst fD;cases lb:p e f with
  |true =>
   have aO:=Hid.mk (aE.h.trans aO);simp only[aa,av,ay, *];refine aN.h _ _ aV ⟨aO.h,fun j cA oF bn kL Gm=>?_,_,_,_,_,rfl⟩;by_cases qP:j=i
   ·subst qP;have:=aK.h;have:=pl.h
    simp_all
   ·exact hp.h j cA oF (by omega) kL Gm
  |false =>
   have g:=L.h (.bool false) aB (by
    have:(l.zip m).all (fun e=>p e.1 e.2)=false:=by
     rw[aoi];refine⟨(e,f),List.mem_of_getElem? (i:=i) ?_,by simp[lb]⟩;rw[as8];exact⟨aK.h,pl.h⟩
    rw[this,Ho]) (aE.h.trans aO)
   replace g:=Hid.mk g;clear aN L aO;simp only[aa, *];exact g.h
 ·have dm:¬(i:Int)<l.length:=by omega
  have g:=L.h (.bool true) A (by
   have:(l.zip m).all (fun e=>p e.1 e.2)=true:=by
    rw[u7];intro e aK;obtain⟨j,bn⟩:=SM.1 aK;rw[as8]at bn;exact hp j e.1 e.2 (by have:=(pK.1 bn.1).1;omega) bn.1 bn.2
   rw[this,HI,aR.h];simp) bF
  replace g:=Hid.mk g;clear aN L;replace hp:=Hid.mk hp;simp only[aa,av,ay, *];exact g.h
theorem NF(k o n:Int)(m:aD){v:Value}(ad:v.oneCell'=true):ie [I 0,I 0,I 0,aI,bx] [(0,5)] 1 5 [ko k o n m v]=some ([I k,I o,I n,str m,v],fun id=>.slice (some ⟨id,0,none⟩) 1 5) :=
 uT rfl rfl rfl (by simpa[Value.oneCell'] using ad)
theorem VN{h:J}{e:aX}{x:ar}(af:iN h e x)(Q:aT)
  (L:∀ D,h.le D→Q (.tuple #[str (if fu e 30 then bU e else[]),I (if fu e 30 then 0 else 1)]) D):bj Tryz.prog 12 [.agg x.toArray] h Q:=by
 have ht:=af;obtain⟨v,rfl,ct⟩:=af.cells;have dJ:=qu (k:=e.kind) (o:=e.op) (n:=e.n) (m:=e.name) ct.one;have kB:=NF e.kind e.op e.n e.name ct.one;obtain⟨p,h0,gr,yG,ep,h8⟩:=b9 h [I e.kind,I e.op,I e.n,str e.name,v];have eK:=ht.mono h8;obtain⟨bA,A,qF,gO,fA,bt⟩:=b9 h0 [I e.kind,I e.op,I e.n,str e.name,v];have gZ:=eK.mono bt;have Rn:=bt.get ep;have fr:iv A (.slice (some ⟨bA,0,none⟩) 1 5) [e]:=by
  refine⟨[[I e.kind,I e.op,I e.n,str e.name,v]],.inr ⟨bA,0,rfl,.inr ⟨_,_,fA,fun i x af=>?_⟩⟩,by simp,?_⟩
  ·have au:i=0:=by
    have:=(pK.1 af).1;simp at this;exact this
   subst au;simp at af;subst af;simp
  ·exact⟨_,_,rfl,gZ,rfl⟩
 have l2:=h8.trans bt;clear af ht eK ct h8 bt fA;replace fr:=U fr;replace gZ:=U gZ;replace l2:=U l2;refine qw (k:=2) (j:=3) alX rfl rfl rfl fun N=>?_;rw[gE N5 mZ rfl];delta N5;replace L:=U L;have at1:(30:Int)=((30:Nat):Int):=rfl;simp only[aa,aw,dt, *];refine ad2 30 (by omega) [e] _ _ _ fr.h fun S aE=>?_;have dV:=aE.get Rn;have gc:=gZ.h.mono aE;have aE:=l2.h.trans aE;have AE:hv [e] 30=fu e 30:=by simp[hv]
 rw[AE];clear fr gZ l2 Rn;cases hr:fu e 30 with
 |false =>
  have g:=L.h S aE;rw[hr]at g;simp only[LZ,if_false]at g;replace g:=Hid.mk g;clear L gc aE;simp only[aa, *];exact g.h
 |true =>
  rw[hr]at L;simp only[if_true]at L;replace gc:=U gc;replace aE:=U aE;simp only[aa,aw,dt, *];refine Cb 30 (by omega) e ((rX 30 e).1 hr) _ _ _ gc.h fun aB aO=>?_;have g:=L.h aB (aE.h.trans aO);replace g:=Hid.mk g;clear aO;simp only[aa, *];exact g.h
mutual
def z6:aX→aX→Bool
 |.mk k o n m args,.mk hY gl oq m' gq=>p1 k o n m hY gl oq m' && lF args gq
def lF:List aX→List aX→Bool
 |[],[]=>true
 |a::r,b::s=>z6 a b && lF r s
 |[],_::_=>false
 |_::_,[]=>false
end
mutual
theorem apJ:∀(a b:aX),z6 a b=true↔a=b
 |.mk k o n m args,.mk hY gl oq m' gq=>by
  simp[z6,p1,z7 args gq,and_assoc]
theorem z7:∀(a b:List aX),lF a b=true↔a=b
 |[],[]=>by simp[lF]
 |a::r,b::s=>by simp[lF,apJ a b,z7 r s]
 |[],_::_=>by simp[lF]
 |_::_,[]=>by simp[lF]
end
theorem ad9:∀(l m:List aX),(l.length==m.length && (l.zip m).all fun e=>z6 e.1 e.2)=lF l m
 |[],[]=>by simp[lF]
 |a::r,b::s=>by
  have:=ad9 r s;simp only[lF,← this,List.zip_cons_cons,List.all_cons,HA];cases h:z6 a b<;>simp[h]
 |[],_::_=>by simp[lF]
 |_::_,[]=>by simp[lF]
theorem kY.ea{h:J}:∀ {l:List aX}{xs:List (ar)},kY h l xs→∀ x∈xs,x.length=5∧x.all (·.oneCell')=true
 |[],_,af,x,hm=>by rw[show _=[] from af]at hm;cases hm
 |e::r,_,⟨y,Aj,rfl,S,ae⟩,x,hm=>by
  rcases Dj.1 hm with rfl|hm
  ·obtain⟨v,rfl,ad⟩:=S.cells;exact⟨rfl,by simpa[Value.oneCell'] using ad.one⟩
  ·exact kY.ea ae x hm
theorem kZ.ea{h:J}:∀ {l:List aP}{xs:List (ar)},kZ h l xs→∀ x∈xs,x.length=7∧x.all (·.oneCell')=true
 |[],_,af,x,hm=>by rw[show _=[] from af]at hm;cases hm
 |e::r,_,⟨y,Aj,rfl,S,ae⟩,x,hm=>by
  rcases Dj.1 hm with rfl|hm
  ·obtain⟨v,u,w,rfl,ad,hu,ax⟩:=S.cells;exact⟨rfl,by simpa[Value.oneCell'] using⟨ad.one,hu.one,ax.one⟩⟩
  ·exact kZ.ea ae x hm
theorem oB.ea{h:J}:∀ {l:List dO}{xs:List (ar)},oB h l xs→∀ x∈xs,x.length=6∧x.all (·.oneCell')=true
 |[],_,af,x,hm=>by rw[show _=[] from af]at hm;cases hm
 |e::r,_,⟨y,Aj,rfl,S,ae⟩,x,hm=>by
  rcases Dj.1 hm with rfl|hm
  ·obtain⟨v,rfl,ad⟩:=S;exact⟨rfl,by simpa[Value.oneCell'] using ad.one⟩
  ·exact oB.ea ae x hm
def VY(M:Nat):Prop:=∀(l m:List aX),r9 l≤M→∀(v w:Value) (h:J) (Q:aT),iv h v l→iv h w m→(∀ D,h.le D→Q (.bool (lF l m)) D)→bj Tryz.prog 127 [v,w,.func (.func 128) #[] #[]] h Q
theorem apK{M:Nat}(ih:∀ qq,qq<M→VY qq){a b:aX}(ai:E6 a≤M){x y:ar}{h:J}(af:iN h a x)(bw:iN h b y)(Q:aT)(L:∀ D,h.le D→Q (.bool (z6 a b)) D) :
  bj Tryz.prog 128 [.agg x.toArray,.agg y.toArray] h Q:=by
 obtain⟨v,rfl,ad⟩:=af.cells;obtain⟨w,rfl,ax⟩:=bw.cells;have dJ:=qu (k:=a.kind) (o:=a.op) (n:=a.n) (m:=a.name) ad.one;have kB:=qu (k:=b.kind) (o:=b.op) (n:=b.n) (m:=b.name) ax.one;have Ur:=ad.one;have Us:=ax.one;obtain⟨bA,A,qF,gO,fA,bt⟩:=b9 h [I a.kind,I a.op,I a.n,str a.name,v];obtain⟨bO,S,lK,jz,dV,dh⟩:=b9 A [I b.kind,I b.op,I b.n,str b.name,w];have j7:=dh.get fA;have l2:=bt.trans dh;have fD:=ad.mono l2;have iE:=ax.mono l2;have hI:=ih (r9 a.args) (by have:=XL a;omega) a.args b.args (kx _);have es:z6 a b=(p1 a.kind a.op a.n a.name b.kind b.op b.n b.name && lF a.args b.args):=by
  cases a;cases b;rfl
 rw[es]at L;clear af bw ad ax bt dh fA ih es;replace fD:=U fD;replace iE:=U iE;replace l2:=U l2;replace hI:=U hI;replace Ur:=U Ur;replace Us:=U Us;refine c7 (k:=4) am2 rfl rfl rfl fun N=>?_;rw[eJ Oa mZ rfl];delta Oa;replace L:=U L;simp only[aa,aw,dt, *];refine Em Ur.h Us.h _ _ fun ae aE=>?_;have g1:=aE.get j7;have g2:=aE.get dV;have G7:=fD.h.mono aE;have Hd:=iE.h.mono aE;have aE:=l2.h.trans aE;clear fD iE l2 j7 dV;cases cp:p1 a.kind a.op a.n a.name b.kind b.op b.n b.name with
 |false =>
  have g:=L.h ae aE;rw[cp,tG]at g;replace g:=Hid.mk g;clear L aE hI;simp only[aa, *];exact g.h
 |true =>
  rw[cp,pB]at L;replace G7:=U G7;replace Hd:=U Hd;replace aE:=U aE;simp only[aa,aw, *];refine hI.h v w ae _ G7.h Hd.h fun aB aO=>?_;have g:=L.h aB (aE.h.trans aO);replace g:=Hid.mk g;clear aO;simp only[aa, *];exact g.h
theorem apL:∀ M,VY M:=by
 intro M;induction M using Nat.strongRecOn with
 |_ M ih =>
 intro l m lP v w h Q ad ax L;obtain⟨xs,A,S,ae⟩:=ad;obtain⟨c4,ck,cm,cb⟩:=ax;refine ahI (p:=z6) A ck ae.length cb.length (by rw[← ae.length];exact S) (by rw[← cb.length];exact cm) ae.ea cb.ea (fun i e f x y aK aZ af bw D gA ag kO=>?_) Q fun u D hu ag=>?_
 ·refine bj.val (first:=#[]) (captured:=#[]) ?_;obtain⟨hZ,gG,dr⟩:=ae.get i e aK;obtain⟨Cn,ti,y7⟩:=cb.get i f aZ;rw[af]at gG;cases gG;rw[bw]at ti;cases ti;exact apK (M:=r9 l) (fun qq aiz=>ih qq (by omega)) (QP aK) (dr.mono ag) (y7.mono ag) gA fun YS Gs=>kO _ _ rfl Gs
 ·subst hu;rw[ad9];exact L D ag
def vh(k:Int)(m f:aD)(n:Int)(hY:Int)(m' oF:aD)(oq:Int):Bool:=k==hY && m==m' && f==oF && n==oq
mutual
def z8:aP→aP→Bool
 |.mk k m f n args aU bz,.mk hY m' oF oq gq Vp Q5=>vh k m f n hY m' oF oq && lF args gq && kv aU Vp && kv bz Q5
def kv:List aP→List aP→Bool
 |[],[]=>true
 |a::r,b::s=>z8 a b && kv r s
 |[],_::_=>false
 |_::_,[]=>false
end
mutual
theorem apN:∀(a b:aP),z8 a b=true↔a=b
 |.mk k m f n args aU bz,.mk hY m' oF oq gq Vp Q5=>by
  simp[z8,vh,z7,Aa aU Vp,Aa bz Q5,and_assoc]
theorem Aa:∀(a b:List aP),kv a b=true↔a=b
 |[],[]=>by simp[kv]
 |a::r,b::s=>by simp[kv,apN a b,Aa r s]
 |[],_::_=>by simp[kv]
 |_::_,[]=>by simp[kv]
end
theorem ada:∀(l m:List aP),(l.length==m.length && (l.zip m).all fun e=>z8 e.1 e.2)=kv l m
 |[],[]=>by simp[kv]
 |a::r,b::s=>by
  have:=ada r s;simp only[kv,← this,List.zip_cons_cons,List.all_cons,HA];cases h:z8 a b<;>simp[h]
 |[],_::_=>by simp[kv]
 |_::_,[]=>by simp[kv]
def VZ(M:Nat):Prop:=∀(l m:List aP),qz l≤M→∀(v w:Value) (h:J) (Q:aT),hO h v l→hO h w m→(∀ D,h.le D→Q (.bool (kv l m)) D)→bj Tryz.prog 94 [v,w,.func (.func 95) #[] #[]] h Q
theorem apO{M:Nat}(ih:∀ qq,qq<M→VZ qq){a b:aP}(ai:E7 a≤M){x y:ar}{h:J}(af:lI h a x)(bw:lI h b y)(Q:aT)(L:∀ D,h.le D→Q (.bool (z8 a b)) D) :
  bj Tryz.prog 95 [.agg x.toArray,.agg y.toArray] h Q:=by
 obtain⟨v,u,s,rfl,ad,hu,ak⟩:=af.cells;obtain⟨w,qi,a8,rfl,ax,st,eh⟩:=bw.cells;have dJ:=yk (k:=a.kind) (m:=a.name) (f:=a.src) (n:=a.n) ad.one hu.one ak.one;have kB:=yk (k:=b.kind) (m:=b.name) (f:=b.src) (n:=b.n) ax.one st.one eh.one;obtain⟨bA,A,qF,gO,fA,bt⟩:=b9 h [I a.kind,str a.name,str a.src,I a.n,v,u,s];obtain⟨bO,S,lK,jz,dV,dh⟩:=b9 A [I b.kind,str b.name,str b.src,I b.n,w,qi,a8];have j7:=dh.get fA;have l2:=bt.trans dh;have fD:=ad.mono l2;have iE:=ax.mono l2;have xa:=hu.mono l2;have Lt:=st.mono l2;have e5:=ak.mono l2;have Ln:=eh.mono l2;have aiQ:=XM a;have Te:=ih (qz a.aU) (by omega) a.aU b.aU (kx _);have By:=ih (qz a.bz) (by omega) a.bz b.bz (kx _);have es:z8 a b=(vh a.kind a.name a.src a.n b.kind b.name b.src b.n && lF a.args b.args && kv a.aU b.aU && kv a.bz b.bz):=by
  cases a;cases b;rfl
 rw[es]at L;clear af bw ad ax hu st ak eh bt dh fA ih es aiQ;replace fD:=U fD;replace iE:=U iE;replace xa:=U xa;replace Lt:=U Lt;replace e5:=U e5;replace Ln:=U Ln;replace l2:=U l2;replace Te:=U Te;replace By:=U By;refine c7 (k:=4) anL rfl rfl rfl fun N=>?_;rw[eJ QB mZ rfl];delta QB;replace L:=U L;have cd:=iz a.name b.name;have cS:=iz a.src b.src;have lj:vh a.kind a.name a.src a.n b.kind b.name b.src b.n=false→Q (.bool false) S:=fun e=>by
  have g:=L.h S l2.h
  rwa[e,tG,tG,tG]at g
 replace lj:=Hid.mk lj;cases bk:(a.kind==b.kind) with
 |false =>
  have g:=lj.h (by simp[vh,bk]);replace g:=Hid.mk g;clear lj L;simp only[aa,aw,av,ay, *];exact g.h
 |true =>
 cases bJ:(a.name==b.name) with
 |false =>
  have g:=lj.h (by simp[vh,bJ]);replace g:=Hid.mk g;clear lj L;simp only[aa,aw,av,ay, *];exact g.h
 |true =>
 cases dl:(a.src==b.src) with
 |false =>
  have g:=lj.h (by simp[vh,dl]);replace g:=Hid.mk g;clear lj L;simp only[aa,aw,av,ay, *];exact g.h
 |true =>
 cases fa:(a.n==b.n) with
 |false =>
  have g:=lj.h (by simp[vh,fa]);replace g:=Hid.mk g;clear lj L;simp only[aa,aw,av,ay, *];exact g.h
 |true =>
  have Yf:vh a.kind a.name a.src a.n b.kind b.name b.src b.n=true:=by simp[vh,bk,bJ,dl,fa]
  rw[Yf,pB]at L;clear lj Yf;simp only[aa,aw,av,ay, *];refine apL _ a.args b.args (kx _) v w S _ fD.h iE.h fun ae aE=>?_;have g1:=aE.get j7;have g2:=aE.get dV;have qW:=xa.h.mono aE;have G5:=Lt.h.mono aE;have fC:=e5.h.mono aE;have GX:=Ln.h.mono aE;have aE:=l2.h.trans aE;clear j7 dV xa Lt e5 Ln fD iE l2;cases j2:lF a.args b.args with
  |false =>
   have g:=L.h ae aE;rw[j2,tG,tG]at g;replace g:=Hid.mk g;clear L aE qW G5 fC GX;simp only[aa, *];exact g.h
  |true =>
  rw[j2,pB]at L;replace qW:=U qW;replace G5:=U G5;replace fC:=U fC;replace GX:=U GX;replace aE:=U aE;simp only[aa,aw, *];refine Te.h u qi ae _ qW.h G5.h fun aB aO=>?_;have g3:=aO.get g1;have g4:=aO.get g2;have eB:=fC.h.mono aO;have Lo:=GX.h.mono aO;have aO:=aE.h.trans aO;clear g1 g2 qW G5 fC GX aE;cases pb:kv a.aU b.aU with
  |false =>
   have g:=L.h aB aO;rw[pb,tG]at g;replace g:=Hid.mk g;clear L aO eB Lo;simp only[aa, *];exact g.h
  |true =>
  rw[pb,pB]at L;replace eB:=U eB;replace Lo:=U Lo;replace aO:=U aO;simp only[aa,aw, *];refine By.h s a8 aB _ eB.h Lo.h fun aG bc=>?_;have g:=L.h aG (aO.h.trans bc);replace g:=Hid.mk g;clear L bc;simp only[aa, *];exact g.h
theorem apP:∀ M,VZ M:=by
 intro M;induction M using Nat.strongRecOn with
 |_ M ih =>
 intro l m lP v w h Q ad ax L;obtain⟨xs,A,S,ae⟩:=ad;obtain⟨c4,ck,cm,cb⟩:=ax;refine ahJ (p:=z8) A ck ae.length cb.length (by rw[← ae.length];exact S) (by rw[← cb.length];exact cm) ae.ea cb.ea (fun i e f x y aK aZ af bw D gA ag kO=>?_) Q fun u D hu ag=>?_
 ·refine bj.val (first:=#[]) (captured:=#[]) ?_;obtain⟨hZ,gG,dr⟩:=ae.get i e aK;obtain⟨Cn,ti,y7⟩:=cb.get i f aZ;rw[af]at gG;cases gG;rw[bw]at ti;cases ti;exact apO (M:=qz l) (fun qq aiz=>ih qq (by omega)) (QQ aK) (dr.mono ag) (y7.mono ag) gA fun YS Gs=>kO _ _ rfl Gs
 ·subst hu;rw[ada];exact L D ag
structure Nm.ok(d:Nm):Prop where
 n:nO d.n
 name:d.name.length≤1000000000
theorem aeo{z:Int}(h:nO z):(Lit.int .i64 z).wf=true:=by
 unfold nO at h;simp[Lit.wf,IntKind.min,IntKind.max,IntKind.signed,IntKind.bits];omega
theorem rN:(Tryz.prog).cellsOf 3=1:=by kernel_rfl
theorem Ub:(Tryz.prog).cellsOf 9=1:=by kernel_rfl
theorem fi:(Tryz.prog).underlying 3=some (.int .i64):=by kernel_rfl
theorem gL:(Tryz.prog).underlying 9=some .string:=by kernel_rfl
def Nm.beq(a b:Nm):Bool:=(a.name==b.name) && decide (a.n=b.n)
theorem Nm.beq_iff(a b:Nm):a.beq b=true↔a=b:=by
 cases a;cases b
 simp[Nm.beq]
theorem Yz(a b:Nm):ry (ks a.name a.n) (ks b.name b.n)=a.beq b:=by
 simp[ry,Aw,yp,Nm.beq]
theorem aft : (#[{ name := "Name", type := 9, offset := 0, embedded := false, tag := "", pkgPath := "", byteOffset := 0 },
    { name := "Kind", type := 3, offset := 1, embedded := false, tag := "", pkgPath := "", byteOffset := 16 }] : Array Field).all (·.name != "_") = true := by kernel_rfl
theorem akG:(Tryz.prog).keyType 74=true:=by kernel_rfl
theorem XN:(Tryz.prog).cellsOf 74=2:=by kernel_rfl
theorem YH{d:Nm}(h:d.ok):mm Tryz.prog 74 (ks d.name d.n)=true:=by
 have er:=aeo h.n;have Cj:(ByteArray.mk d.name.toArray).size≤maxLen:=by
  have:=h.name;have:(ByteArray.mk d.name.toArray).size=d.name.length:=by simp[ByteArray.size]
  unfold maxLen;omega
 have ak:∃ n,(Tryz.prog).types.size=n+2:=by
  have:2≤(Tryz.prog).types.size:=by decide +kernel
  exact⟨(Tryz.prog).types.size-2,by omega⟩
 obtain⟨n,hn⟩:=ak;have Rf:sc (ks d.name d.n)=true:=rfl;simp only[mm,Rf,pB,keyOf,Tryz.underlying74,akG];have R6:Value.formed Tryz.prog 74 (ks d.name d.n)=true:=by simp only[Value.formed,Tryz.underlying74,XN];rfl
 simp only[R6,HI,if_true,hn];have rC:(Tryz.prog).keyLits (n+2+1) 74 (ks d.name d.n).cells.toList=some [.string d.name,.int .i64 d.n]:=by
  simp only[Program.keyLits,Tryz.underlying74,XN,aft,Value.cells,List.mapM_cons,List.mapM_nil,fi,rN,gL,Ub];simp[Program.keyLits,fi,gL,er,Cj]
 simp[rC]
theorem Yo{a b:Nm}(ai:a.ok)(T:b.ok)(neg:Bool):BV (mm Tryz.prog 74) neg [ks a.name a.n,ks b.name b.n]=some (.bool (if neg then !a.beq b else a.beq b)):=by
 simp only[BV,YH ai,YH T,Yz];rfl
theorem ahH{v w:Value}{l m:List Nm}{h:J}(ad:kl h v l)(ax:kl h w m)(BR:∀ d∈l,d.ok)(BS:∀ d∈m,d.ok)(Q:aT)(L:∀ b:Bool,(b=true↔l=m)→Q (.bool b) h):bj Tryz.prog 47 [v,w] h Q:=by
 refine c7 (k:=2) amZ rfl rfl rfl fun N=>?_;rw[eJ PI qj rfl];delta PI;replace L:=U L;have iQ:=ad.len;have vm:=ax.len;have bX:=ad.2;by_cases aR:l.length=m.length
 case neg =>
  have c:((l.length:Int) != (m.length:Int))=true:=by simp;omega
  have g:=L.h false (by simp;intro e;exact aR (by rw[e]));replace g:=Hid.mk g;clear ad ax L;simp only[aa,av,ay, *];exact g.h
 have c:((l.length:Int) != (m.length:Int))=false:=by simp[aR]
 replace aR:=Hid.mk aR;replace ad:=Hid.mk ad;replace ax:=Hid.mk ax;simp only[aa,av,ay, *];refine ch.upto l.length (fun i e A=>A=h∧l.take i=m.take i∧∃ ej x3 x6,e=[v,w,ej,x3,I l.length,I i,x6]) ?_ (pc _) ⟨rfl,by simp,_,_,_,rfl⟩;rintro i _ A R au ⟨rfl,hp,ej,x3,x6,rfl⟩ aN;delta Xs;replace hp:=Hid.mk hp;by_cases aV:i<l.length
 ·have dm:(i:Int)<l.length:=by omega
  obtain⟨d,hd⟩:∃ e,l[i]?=some e:=⟨_,l8 aV⟩;obtain⟨e,aK⟩:∃ e,m[i]?=some e:=⟨_,l8 (by have:=aR.h;omega)⟩;obtain⟨id,off,cells,own,az,aL,bq⟩:=ad.h.elem hd;obtain⟨sz,q9,qy,rb,f1,f2,f3⟩:=ax.h.elem aK;have mF:=Yo (BR d (List.mem_of_getElem? hd)) (BS e (List.mem_of_getElem? aK)) true;simp only[if_true]at mF;have mL:IntKind.i64.wrap ((i:Int)+1)=((i+1:Nat):Int):=by rw[cZ (by omega) (by omega)];rfl
  replace hd:=U hd;replace aK:=U aK;cases T:d.beq e with
  |true =>
   rw[T]at mF;simp only[aa,aw,av,ay, *];refine aN.h _ _ aV ⟨rfl,?_,_,_,_,rfl⟩;rw[T0,T0,hp.h,hd.h,aK.h,(Nm.beq_iff d e).1 T]
  |false =>
   rw[T]at mF;have g:=L.h false (by
    simp only[LZ,false_iff];intro cA;subst cA;have:=hd.h.symm.trans aK.h;cases this;rw[(Nm.beq_iff d d).2 rfl]at T;cases T)
   replace g:=Hid.mk g;clear aN L;simp only[aa,aw,av,ay, *];exact g.h
 ·have dm:¬(i:Int)<l.length:=by omega
  have ef:i=l.length:=by omega
  have g:=L.h true (by
   simp only[true_iff];have A:=hp.h;rw[ef,T1,aR.h,T1]at A;exact A)
  replace g:=Hid.mk g;replace ef:=Hid.mk ef;clear aN L;simp only[aa,av,ay, *];exact g.h
theorem afu : (#[{ name := "Name", type := 9, offset := 0, embedded := false, tag := "", pkgPath := "", byteOffset := 0 },
    { name := "Words", type := 3, offset := 1, embedded := false, tag := "", pkgPath := "", byteOffset := 16 }] : Array Field).all (·.name != "_") = true := by kernel_rfl
theorem akH:(Tryz.prog).keyType 76=true:=by kernel_rfl
theorem XO:(Tryz.prog).cellsOf 76=2:=by kernel_rfl
theorem YI{d:Nm}(h:d.ok):mm Tryz.prog 76 (ks d.name d.n)=true:=by
 have er:=aeo h.n;have Cj:(ByteArray.mk d.name.toArray).size≤maxLen:=by
  have:=h.name;have:(ByteArray.mk d.name.toArray).size=d.name.length:=by simp[ByteArray.size]
  unfold maxLen;omega
 have ak:∃ n,(Tryz.prog).types.size=n+2:=by
  have:2≤(Tryz.prog).types.size:=by decide +kernel
  exact⟨(Tryz.prog).types.size-2,by omega⟩
 obtain⟨n,hn⟩:=ak;have Rf:sc (ks d.name d.n)=true:=rfl;simp only[mm,Rf,pB,keyOf,Tryz.underlying76,akH];have R6:Value.formed Tryz.prog 76 (ks d.name d.n)=true:=by simp only[Value.formed,Tryz.underlying76,XO];rfl
 simp only[R6,HI,if_true,hn];have rC:(Tryz.prog).keyLits (n+2+1) 76 (ks d.name d.n).cells.toList=some [.string d.name,.int .i64 d.n]:=by
  simp only[Program.keyLits,Tryz.underlying76,XO,afu,Value.cells,List.mapM_cons,List.mapM_nil,fi,rN,gL,Ub];simp[Program.keyLits,fi,gL,er,Cj]
 simp[rC]
theorem Yp{a b:Nm}(ai:a.ok)(T:b.ok)(neg:Bool):BV (mm Tryz.prog 76) neg [ks a.name a.n,ks b.name b.n]=some (.bool (if neg then !a.beq b else a.beq b)):=by
 simp only[BV,YI ai,YI T,Yz];rfl
theorem ahL{v w:Value}{l m:List Nm}{h:J}(ad:kl h v l)(ax:kl h w m)(BR:∀ d∈l,d.ok)(BS:∀ d∈m,d.ok)(Q:aT)(L:∀ b:Bool,(b=true↔l=m)→Q (.bool b) h):bj Tryz.prog 48 [v,w] h Q:=by
 refine c7 (k:=2) an0 rfl rfl rfl fun N=>?_;rw[eJ PJ qj rfl];delta PJ;replace L:=U L;have iQ:=ad.len;have vm:=ax.len;have bX:=ad.2;by_cases aR:l.length=m.length
 case neg =>
  have c:((l.length:Int) != (m.length:Int))=true:=by simp;omega
  have g:=L.h false (by simp;intro e;exact aR (by rw[e]));replace g:=Hid.mk g;clear ad ax L;simp only[aa,av,ay, *];exact g.h
 have c:((l.length:Int) != (m.length:Int))=false:=by simp[aR]
 replace aR:=Hid.mk aR;replace ad:=Hid.mk ad;replace ax:=Hid.mk ax;simp only[aa,av,ay, *];refine ch.upto l.length (fun i e A=>A=h∧l.take i=m.take i∧∃ ej x3 x6,e=[v,w,ej,x3,I l.length,I i,x6]) ?_ (pc _) ⟨rfl,by simp,_,_,_,rfl⟩;rintro i _ A R au ⟨rfl,hp,ej,x3,x6,rfl⟩ aN;delta Xt;replace hp:=Hid.mk hp;by_cases aV:i<l.length
 ·have dm:(i:Int)<l.length:=by omega
  obtain⟨d,hd⟩:∃ e,l[i]?=some e:=⟨_,l8 aV⟩;obtain⟨e,aK⟩:∃ e,m[i]?=some e:=⟨_,l8 (by have:=aR.h;omega)⟩;obtain⟨id,off,cells,own,az,aL,bq⟩:=ad.h.elem hd;obtain⟨sz,q9,qy,rb,f1,f2,f3⟩:=ax.h.elem aK;have mF:=Yp (BR d (List.mem_of_getElem? hd)) (BS e (List.mem_of_getElem? aK)) true;simp only[if_true]at mF;have mL:IntKind.i64.wrap ((i:Int)+1)=((i+1:Nat):Int):=by rw[cZ (by omega) (by omega)];rfl
  replace hd:=U hd;replace aK:=U aK;cases T:d.beq e with
  |true =>
   rw[T]at mF;simp only[aa,aw,av,ay, *];refine aN.h _ _ aV ⟨rfl,?_,_,_,_,rfl⟩;rw[T0,T0,hp.h,hd.h,aK.h,(Nm.beq_iff d e).1 T]
  |false =>
   rw[T]at mF;have g:=L.h false (by
    simp only[LZ,false_iff];intro cA;subst cA;have:=hd.h.symm.trans aK.h;cases this;rw[(Nm.beq_iff d d).2 rfl]at T;cases T)
   replace g:=Hid.mk g;clear aN L;simp only[aa,aw,av,ay, *];exact g.h
 ·have dm:¬(i:Int)<l.length:=by omega
  have ef:i=l.length:=by omega
  have g:=L.h true (by
   simp only[true_iff];have A:=hp.h;rw[ef,T1,aR.h,T1]at A;exact A)
  replace g:=Hid.mk g;replace ef:=Hid.mk ef;clear aN L;simp only[aa,av,ay, *];exact g.h
def B4(a b:dO):Bool:=a.name==b.name && a.ga==b.ga && a.cB==b.cB && a.prio==b.prio && a.line==b.line && kv a.body b.body
theorem apR(a b:dO):B4 a b=true↔a=b:=by
 cases a;cases b
 simp[B4,Aa,and_assoc]
theorem apQ{a b:dO}{x y:ar}{h:J}(af:wv h a x)(bw:wv h b y)(Q:aT)(L:∀ D,h.le D→Q (.bool (B4 a b)) D) :
  bj Tryz.prog 50 [.agg x.toArray,.agg y.toArray] h Q:=by
 obtain⟨v,rfl,ad⟩:=af;obtain⟨w,rfl,ax⟩:=bw;have dJ:=I5 (m:=a.name) (b:=a.ga) (a:=a.cB) (p:=a.prio) (l:=a.line) ad.one;have kB:=I5 (m:=b.name) (b:=b.ga) (a:=b.cB) (p:=b.prio) (l:=b.line) ax.one;obtain⟨bA,A,qF,gO,fA,bt⟩:=b9 h [str a.name,.bool a.ga,I a.cB,I a.prio,I a.line,v];obtain⟨bO,S,lK,jz,dV,dh⟩:=b9 A [str b.name,.bool b.ga,I b.cB,I b.prio,I b.line,w];have j7:=dh.get fA;have l2:=bt.trans dh;have fD:=ad.mono l2;have iE:=ax.mono l2;have es:B4 a b=(a.name==b.name && a.ga==b.ga && a.cB==b.cB && a.prio==b.prio && a.line==b.line && kv a.body b.body):=rfl;rw[es]at L;clear ad ax bt dh fA es;replace fD:=U fD;replace iE:=U iE;replace l2:=U l2;refine c7 (k:=4) an2 rfl rfl rfl fun N=>?_;rw[eJ PM mZ rfl];delta PM;replace L:=U L;have cd:=iz a.name b.name;have cS:=ao2 a.ga b.ga;have lj:(a.name==b.name && a.ga==b.ga && a.cB==b.cB && a.prio==b.prio && a.line==b.line)=false→Q (.bool false) S:=fun e=>by
  have g:=L.h S l2.h
  rwa[e,tG]at g
 replace lj:=Hid.mk lj;cases bk:(a.name==b.name) with
 |false =>
  have g:=lj.h (by simp only[bk,tG]);replace g:=Hid.mk g;clear lj L;simp only[aa,aw,av, *];exact g.h
 |true =>
 cases bJ:(a.ga==b.ga) with
 |false =>
  have g:=lj.h (by simp only[bJ,tG,Ho]);replace g:=Hid.mk g;clear lj L;simp only[aa,aw,av, *];exact g.h
 |true =>
 cases dl:(a.cB==b.cB) with
 |false =>
  have g:=lj.h (by simp only[dl,tG,Ho]);replace g:=Hid.mk g;clear lj L;simp only[aa,aw,av,ay, *];exact g.h
 |true =>
 cases fa:(a.prio==b.prio) with
 |false =>
  have g:=lj.h (by simp only[fa,tG,Ho]);replace g:=Hid.mk g;clear lj L;simp only[aa,aw,av,ay, *];exact g.h
 |true =>
 cases j2:(a.line==b.line) with
 |false =>
  have g:=lj.h (by simp only[j2,Ho]);replace g:=Hid.mk g;clear lj L;simp only[aa,aw,av,ay, *];exact g.h
 |true =>
  rw[bk,bJ,dl,fa,j2]at L;simp only[pB]at L;clear lj;simp only[aa,aw,av,ay, *];refine apP _ a.body b.body (kx _) v w S _ fD.h iE.h fun ae aE=>?_;have g:=L.h ae (l2.h.trans aE);replace g:=Hid.mk g;clear L aE;simp only[aa, *];exact g.h
structure gS.ok(p:gS):Prop where
 c2:∀ d∈p.c2,d.ok
 cv:∀ d∈p.cv,d.ok
theorem af6{p q:gS}{x y:ar}{h:J}(af:pM h p x)(bw:pM h q y)(HW:p.ok)(HX:q.ok)(Q:aT)(L:∀(b:Bool) D,(b=true↔p=q)→h.le D→Q (.bool b) D) :
  bj Tryz.prog 21 [.agg x.toArray,.agg y.toArray] h Q:=by
 obtain⟨d,r,t,rfl,hd,hr,aC⟩:=af;obtain⟨bW,dL,mV,rfl,hB,mK,p6⟩:=bw;have dJ:=yj (n:=p.bS) hd.one hr.one aC.one;have kB:=yj (n:=q.bS) hB.one mK.one p6.one;obtain⟨bA,A,qF,gO,fA,bt⟩:=b9 h [I p.bS,d,r,t];obtain⟨bO,S,lK,jz,dV,dh⟩:=b9 A [I q.bS,bW,dL,mV];have j7:=dh.get fA;have l2:=bt.trans dh;replace hd:=hd.mono l2;replace hr:=hr.mono l2;replace aC:=aC.mono l2;replace hB:=hB.mono l2;replace mK:=mK.mono l2;replace p6:=p6.mono l2;have go:∀ b D,S.le D→(b=true↔p=q)→Q (.bool b) D:=fun b D ag T=>L b D T (l2.trans ag);clear bt dh fA L l2;replace hd:=U hd;replace hr:=U hr;replace aC:=U aC;replace hB:=U hB;replace mK:=U mK;replace p6:=U p6;replace go:=U go;have L:=go;refine c7 (k:=4) amD rfl rfl rfl fun N=>?_;rw[eJ Pc mZ rfl];delta Pc;clear L;cases bk:(p.bS==q.bS) with
 |false =>
  have g:=go.h false S (.refl _) (by
   simp only[LZ,false_iff];intro e;subst e;simp at bk)
  replace g:=Hid.mk g;clear go;simp only[aa,aw,av,ay, *];exact g.h
 |true =>
  simp only[aa,aw,av,ay, *];refine ahH hd.h hB.h HW.c2 HX.c2 _ fun afz fg=>?_;cases afz with
  |false =>
   have g:=go.h false S (.refl _) (by
    simp only[LZ,false_iff];intro e;subst e;simp at fg)
   replace g:=Hid.mk g;clear go fg;simp only[aa, *];exact g.h
  |true =>
  replace fg:=Hid.mk fg;simp only[aa,aw, *];refine ahL hr.h mK.h HW.cv HX.cv _ fun afB dx=>?_;cases afB with
  |false =>
   have g:=go.h false S (.refl _) (by
    simp only[LZ,false_iff];intro e;subst e;simp at dx)
   replace g:=Hid.mk g;clear go dx;simp only[aa, *];exact g.h
  |true =>
  replace dx:=Hid.mk dx;simp only[aa,aw, *];obtain⟨xs,ck,cm,cb⟩:=aC.h;obtain⟨c4,m1,m2,m3⟩:=p6.h;refine ahK (p:=B4) ck m1 cb.length m3.length (by rw[← cb.length];exact cm) (by rw[← m3.length];exact m2) cb.ea m3.ea (fun i e f x y aK aZ af bw D gA ag kO=>?_) _ fun u D hu ag=>?_
  ·refine bj.val (first:=#[]) (captured:=#[]) ?_;obtain⟨hZ,gG,dr⟩:=cb.get i e aK;obtain⟨Cn,ti,y7⟩:=m3.get i f aZ;rw[af]at gG;cases gG;rw[bw]at ti;cases ti;exact apQ (dr.mono ag) (y7.mono ag) gA fun YS Gs=>kO _ _ rfl Gs
  ·subst hu;obtain⟨mA,Da⟩:∃ mA,(p.db.length==q.db.length && (p.db.zip q.db).all fun e=>B4 e.1 e.2)=mA:=⟨_,rfl⟩;have g:=go.h mA D ag (by
    have A:=fg.h.1 rfl;have S:=dx.h.1 rfl;have key:∀(l m:List dO),((l.length==m.length && (l.zip m).all fun e=>B4 e.1 e.2)=true)↔l=m:=by
     intro l;induction l with
     |nil=>intro m;cases m<;>simp
     |cons a r ih =>
      intro m;cases m with
      |nil=>simp
      |cons b s =>
       have:=ih s;simp only[Bool.and_eq_true,beq_iff_eq]at this;simp only[HA,List.zip_cons_cons,List.all_cons,Bool.and_eq_true,beq_iff_eq,apR,List.cons.injEq,← this];constructor
       ·rintro⟨a,b,c⟩;exact⟨b,by omega,c⟩
       ·rintro⟨a,b,c⟩;exact⟨by omega,a,c⟩
    rw[← Da,key];have h0:p.bS=q.bS:=by simpa using bk
    constructor
    ·intro e;cases p;cases q;simp_all
    ·intro e;rw[e])
   rw[Da];replace g:=Hid.mk g;clear go ag Da;simp only[aa, *];exact g.h
end Go.Eng.Sy
