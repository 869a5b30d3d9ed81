/-
  Part of a proof of the laws of layer 07 (reader): what each function does.
  Conditions: none.
-/
import Derived.Test.YtjbjpooafphpnaaGreatDoorBa
import Derived.Shelf.Strconv.Itoa3
import Derived.Test.YtjbjpooafphpnaaGreatDoorEc
set_option linter.unusedSimpArgs false
set_option linter.unusedVariables false
namespace Go.Eng.Sy
open Go Go.Eng Go.Proofs
structure dO where
 name:aD
 ga:Bool
 cB:Int
 prio:Int
 line:Int
 body:List aP
structure Nm where
 name:aD
 n:Int
structure gS where
 bS:Int
 c2:List Nm
 cv:List Nm
 db:List dO
def wv(h:J)(t:dO)(x:ar):Prop:=∃ v,x=[str t.name,.bool t.ga,I t.cB,I t.prio,I t.line,v]∧hO h v t.body
def oB(h:J):List dO→List (ar)→Prop
 |[],xs=>xs=[]
 |e::r,xs=>∃ x fJ,xs=x::fJ∧wv h e x∧oB h r fJ
def mz(h:J)(v:Value)(l:List dO):Prop:=∃ xs,cT h 6 v xs∧xs.length≤140737488355328∧oB h l xs
def kl(h:J)(v:Value)(l:List Nm):Prop:=cT h 2 v (l.map fun d=>[str d.name,I d.n])∧l.length≤140737488355328
def pM(h:J)(p:gS)(x:ar):Prop:=∃ d r t,x=[I p.bS,d,r,t]∧kl h d p.c2∧kl h r p.cv∧mz h t p.db
theorem wv.mono{h D:J}(ag:h.le D){t:dO}{x:ar}(af:wv h t x):wv D t x:=let ⟨v,a,b⟩:=af;⟨v,a,b.mono ag⟩
theorem oB.mono{h D:J}(ag:h.le D):∀ {l:List dO}{xs:List (ar)},oB h l xs→oB D l xs
 |[],_,af=>af
 |_::_,_,⟨x,fJ,A,S,ae⟩=>⟨x,fJ,A,S.mono ag,oB.mono ag ae⟩
theorem mz.mono{h D:J}(ag:h.le D){v:Value}{l:List dO}(ad:mz h v l):mz D v l:=let ⟨xs,a,c,b⟩:=ad;⟨xs,a.mono ag,c,b.mono ag⟩
theorem kl.mono{h D:J}(ag:h.le D){v:Value}{l:List Nm}(ad:kl h v l):kl D v l:=⟨ad.1.mono ag,ad.2⟩
theorem pM.mono{h D:J}(ag:h.le D){p:gS}{x:ar}(af:pM h p x):pM D p x:=let ⟨d,r,t,a,b,c,e⟩:=af;⟨d,r,t,a,b.mono ag,c.mono ag,e.mono ag⟩
theorem oB.length{h:J}:∀ {l:List dO}{xs:List (ar)},oB h l xs→xs.length=l.length
 |[],_,af=>by rw[show _=[] from af];rfl
 |_::_,_,⟨x,fJ,A,S,ae⟩=>by rw[A];simp[oB.length ae]
theorem oB.get{h:J}:∀ {l:List dO}{xs:List (ar)},oB h l xs→∀(i:Nat) e,l[i]?=some e→∃ x,xs[i]?=some x∧wv h e x
 |[],_,_,i,e,au=>by simp at au
 |a::r,_,⟨x,fJ,A,S,ae⟩,0,e,au=>by simp at au;subst au;exact⟨x,by rw[A];rfl,S⟩
 |a::r,_,⟨x,fJ,A,S,ae⟩,i+1,e,au=>by
  obtain⟨y,aB,aG⟩:=oB.get ae i e (by simpa using au);exact⟨y,by rw[A];simpa using aB,aG⟩
theorem mz.len{h:J}{v:Value}{l:List dO}(ad:mz h v l):pD [v]=some (I l.length):=by
 obtain⟨xs,a,c,b⟩:=ad;rw[a.len,b.length]
theorem kl.len{h:J}{v:Value}{l:List Nm}(ad:kl h v l):pD [v]=some (I l.length):=by
 rw[ad.1.len];simp
theorem mz.one{h:J}{v:Value}{l:List dO}(ad:mz h v l):v.oneCell'=true:=ad.elim fun _ a=>cT.one a.1
theorem kl.one{h:J}{v:Value}{l:List Nm}(ad:kl h v l):v.oneCell'=true:=cT.one ad.1
def jO(d:Nm):Bool:=de d.name && decide (1≤d.n∧d.n≤3)
def jY(d:Nm):Bool:=de d.name && decide (1≤d.n∧d.n≤8)
def js(t:dO):Bool:=de t.name && decide (0≤t.cB∧t.cB≤3) && decide (1≤t.prio∧t.prio≤7) && decide (0≤t.line∧t.line≤(if t.ga then 7 else 0)) && hx t.body 30
def mT(p:gS):Bool:=decide (1≤p.bS∧p.bS≤4) && decide (p.c2.length≤8) && decide (p.cv.length≤8) && decide (p.db.length≤16) && p.c2.all jO && p.cv.all jY && p.db.all js
abbrev tz(m:aD)(b:Bool)(a p l:Int)(v:Value):Value:=.agg #[str m,.bool b,I a,I p,I l,v]
theorem I5{m:aD}{b:Bool}{a p l:Int}{v:Value}(ad:v.oneCell'=true):nB [tz m b a p l v]=some ([str m,.bool b,I a,I p,I l,v],fun id=>(aH id 0)):=by
 simpa[nB,Value.cells,Value.oneCell'] using ad
set_option maxHeartbeats 2000000 in
theorem aqE{h:J}{t:dO}{x:ar}(af:wv h t x)(Q:aT)(L:∀ D,h.le D→Q (.bool (js t)) D):bj Tryz.prog 57 [.agg x.toArray] h Q:=by
 obtain⟨v,rfl,ad⟩:=af;obtain⟨m,b,a,p,l,body⟩:=t;simp only at ad ⊢;have dJ:=I5 (m:=m) (b:=b) (a:=a) (p:=p) (l:=l) ad.one;have l1:=(J.le.refl h).alloc (.aq [str m,.bool b,I a,I p,I l,v] true);replace l1:=Hid.mk l1;replace ad:=Hid.mk ad;refine c7 (k:=2) an9 rfl rfl rfl fun N=>?_;rw[gE PU mZ rfl];delta PU;replace L:=U L;have hS:js ⟨m,b,a,p,l,body⟩=(de m && decide (0≤a∧a≤3) && decide (1≤p∧p≤7) && decide (0≤l∧l≤(if b then 7 else 0)) && hx body 30):=rfl;rw[hS]at L;clear hS;obtain⟨zL,hm⟩:∃ z:Int,(if b=true then 7 else 0:Int)=z:=⟨_,rfl⟩;rw[hm]at L;cases b with
 |true =>
  simp only[if_true]at hm;subst hm;simp only[aa,aw, *];refine vJ _ _ fun S ag=>?_;have ep:=ag.get (J.hy h (.aq [str m,.bool true,I a,I p,I l,v] true));have l2:=Hid.mk (l1.h.trans ag);clear ag l1 dJ;cases bk:de m with
  |false =>
   have g:=L.h S l2.h;simp only[kx,mb,r9,uG,bk]at g;clear L;replace g:=Hid.mk g;simp only[aa, *];exact g.h
  |true =>
  simp only[aa,aw, *];refine xT _ _ _ _ _ ?_;cases bJ:decide (0≤a∧a≤3) with
  |false =>
   have g:=L.h S l2.h;simp only[kx,mb,r9,uG,bk,bJ]at g;clear L;replace g:=Hid.mk g;simp only[aa, *];exact g.h
  |true =>
  simp only[aa,aw, *];refine xT _ _ _ _ _ ?_;cases dl:decide (1≤p∧p≤7) with
  |false =>
   have g:=L.h S l2.h;simp only[kx,mb,r9,uG,bk,bJ,dl]at g;clear L;replace g:=Hid.mk g;simp only[aa, *];exact g.h
  |true =>
  simp only[aa,aw, *];refine xT _ _ _ _ _ ?_;cases fa:decide (0≤l∧l≤7) with
  |false =>
   have g:=L.h S l2.h;simp only[kx,mb,r9,uG,bk,bJ,dl,fa]at g;clear L;replace g:=Hid.mk g;simp only[aa, *];exact g.h
  |true =>
  simp only[aa,aw, *];refine Wq 30 (by omega) body v _ _ (ad.h.mono l2.h) fun ae aE=>?_;have g:=L.h ae (l2.h.trans aE);simp only[kx,bk,bJ,dl,fa]at g;clear L aE;replace g:=Hid.mk g;simp only[aa, *];exact g.h
 |false =>
  simp only[xZ,if_false]at hm;subst hm;simp only[aa,aw, *];refine vJ _ _ fun S ag=>?_;have ep:=ag.get (J.hy h (.aq [str m,.bool false,I a,I p,I l,v] true));have l2:=Hid.mk (l1.h.trans ag);clear ag l1 dJ;cases bk:de m with
  |false =>
   have g:=L.h S l2.h;simp only[kx,mb,r9,uG,bk]at g;clear L;replace g:=Hid.mk g;simp only[aa, *];exact g.h
  |true =>
  simp only[aa,aw, *];refine xT _ _ _ _ _ ?_;cases bJ:decide (0≤a∧a≤3) with
  |false =>
   have g:=L.h S l2.h;simp only[kx,mb,r9,uG,bk,bJ]at g;clear L;replace g:=Hid.mk g;simp only[aa, *];exact g.h
  |true =>
  simp only[aa,aw, *];refine xT _ _ _ _ _ ?_;cases dl:decide (1≤p∧p≤7) with
  |false =>
   have g:=L.h S l2.h;simp only[kx,mb,r9,uG,bk,bJ,dl]at g;clear L;replace g:=Hid.mk g;simp only[aa, *];exact g.h
  |true =>
  simp only[aa,aw, *];refine xT _ _ _ _ _ ?_;cases fa:decide (0≤l∧l≤0) with
  |false =>
   have g:=L.h S l2.h;simp only[kx,mb,r9,uG,bk,bJ,dl,fa]at g;clear L;replace g:=Hid.mk g;simp only[aa, *];exact g.h
  |true =>
  simp only[aa,aw, *];refine Wq 30 (by omega) body v _ _ (ad.h.mono l2.h) fun ae aE=>?_;have g:=L.h ae (l2.h.trans aE);simp only[kx,bk,bJ,dl,fa]at g;clear L aE;replace g:=Hid.mk g;simp only[aa, *];exact g.h
abbrev ks(m:aD)(k:Int):Value:=.agg #[str m,I k]
theorem WV(m:aD)(k:Int):nB [ks m k]=some ([str m,I k],fun id=>(aH id 0)):=rfl
theorem ah5(d:Nm)(h:J)(Q:aT)(L:∀ D,h.le D→Q (.bool (!jO d)) D):bj Tryz.prog 52 [.agg #[str d.name,I d.n]] h Q:=by
 obtain⟨m,k⟩:=d;have dJ:=WV m k;have l1:=(J.le.refl h).alloc (.aq [str m,I k] true);replace l1:=Hid.mk l1;refine c7 (k:=2) an4 rfl rfl rfl fun N=>?_;rw[gE PO mY rfl];delta PO;replace L:=U L;have hS:jO ⟨m,k⟩=(de m && decide (1≤k∧k≤3)):=rfl;rw[hS]at L;clear hS;simp only[aa,aw, *];refine vJ _ _ fun S ag=>?_;have ep:=ag.get (J.hy h (.aq [str m,I k] true));have g:=L.h S (l1.h.trans ag);clear L ag l1 dJ;cases bk:de m with
 |false =>
  simp only[bk,mb,Cg]at g;replace g:=Hid.mk g;simp only[aa, *];exact g.h
 |true =>
  simp only[bk,kx]at g;replace g:=Hid.mk g;simp only[aa,aw, *];refine xT _ _ _ _ _ ?_;simp only[aa, *];exact g.h
theorem apz(d:Nm)(h:J)(Q:aT)(L:∀ D,h.le D→Q (.bool (!jY d)) D):bj Tryz.prog 55 [.agg #[str d.name,I d.n]] h Q:=by
 obtain⟨m,k⟩:=d;have dJ:=WV m k;have l1:=(J.le.refl h).alloc (.aq [str m,I k] true);replace l1:=Hid.mk l1;refine c7 (k:=2) an7 rfl rfl rfl fun N=>?_;rw[gE PS mY rfl];delta PS;replace L:=U L;have hS:jY ⟨m,k⟩=(de m && decide (1≤k∧k≤8)):=rfl;rw[hS]at L;clear hS;simp only[aa,aw, *];refine vJ _ _ fun S ag=>?_;have ep:=ag.get (J.hy h (.aq [str m,I k] true));have g:=L.h S (l1.h.trans ag);clear L ag l1 dJ;cases bk:de m with
 |false =>
  simp only[bk,mb,Cg]at g;replace g:=Hid.mk g;simp only[aa, *];exact g.h
 |true =>
  simp only[bk,kx]at g;replace g:=Hid.mk g;simp only[aa,aw, *];refine xT _ _ _ _ _ ?_;simp only[aa, *];exact g.h
theorem aqC{t:dO}{x:ar}{h:J}(af:wv h t x)(Q:aT)(L:∀ D,h.le D→Q (.bool (!js t)) D):bj Tryz.prog 56 [.agg x.toArray] h Q:=by
 have ht:=af;obtain⟨v,rfl,ad⟩:=af;have dJ:=I5 (m:=t.name) (b:=t.ga) (a:=t.cB) (p:=t.prio) (l:=t.line) ad.one;have l1:=(J.le.refl h).alloc (.aq [str t.name,.bool t.ga,I t.cB,I t.prio,I t.line,v] true);have eK:=ht.mono l1;replace l1:=Hid.mk l1;replace eK:=Hid.mk eK;clear ht ad;refine c7 (k:=2) an8 rfl rfl rfl fun N=>?_;rw[gE PT mY rfl];delta PT;replace L:=U L;simp only[aa,aw,Mo, *];refine aqE eK.h _ fun S ag=>?_;have g:=L.h S (l1.h.trans ag);clear ag;replace g:=Hid.mk g;simp only[aa, *];exact g.h
abbrev aot(n:Int)(d r t:Value):Value:=.agg #[I n,d,r,t]
theorem yj{n:Int}{d r t:Value}(A:d.oneCell'=true)(S:r.oneCell'=true)(ae:t.oneCell'=true):nB [aot n d r t]=some ([I n,d,r,t],fun id=>(aH id 0)):=by
 simpa[nB,Value.cells,Value.oneCell'] using⟨A,S,ae⟩
theorem Nv{c1:Type}(l:List c1)(p:c1→Bool):(!(l.any fun e=>!p e))=l.all p:=by rw[List.all_eq_not_any_not]
theorem abu{l:List Nm}{i:Nat}{e:Nm}{x:ar}(aK:l[i]?=some e)(af:(l.map fun d=>[str d.name,Value.int .i64 d.n])[i]?=some x):x=[str e.name,I e.n]:=by
 simp[aK]at af;exact af.symm
set_option maxHeartbeats 2000000 in
theorem VX{h:J}{p:gS}{x:ar}(af:pM h p x)(Q:aT)(L:∀ D,h.le D→Q (.bool (mT p)) D):bj Tryz.prog 23 [.agg x.toArray] h Q:=by
 obtain⟨d,r,t,rfl,hd,hr,aC⟩:=af;obtain⟨n,c2,cv,db⟩:=p;simp only at hd hr aC ⊢;have dJ:=yj (n:=n) hd.one hr.one aC.one;have l1:=(J.le.refl h).alloc (.aq [I n,d,r,t] true);have ep:=J.hy h (.aq [I n,d,r,t] true);obtain⟨q,gb⟩:∃ q,h.next=q:=⟨_,rfl⟩;obtain⟨A,hh⟩:∃ A,h.alloc (.aq [I n,d,r,t] true)=A:=⟨_,rfl⟩;rw[hh,gb]at ep;rw[hh]at l1;replace l1:=Hid.mk l1;have kr:=hd.len;have at7:=hr.len;obtain⟨ts,kb,SW,G4⟩:=aC;have lt:=kb.len;rw[G4.length]at lt;have aV:=G4.length;replace hd:=Hid.mk hd;replace hr:=Hid.mk hr;replace kb:=Hid.mk kb;replace G4:=Hid.mk G4;refine c7 (k:=2) amF rfl rfl rfl fun N=>?_;rw[gE Ph qj rfl];delta Ph;replace L:=U L;have hS:mT ⟨n,c2,cv,db⟩=(decide (1≤n∧n≤4) && decide (c2.length≤8) && decide (cv.length≤8) && decide (db.length≤16) && c2.all jO && cv.all jY && db.all js):=rfl;rw[hS]at L;clear hS;simp only[aa,aw, *];refine xT _ _ _ _ _ ?_;clear hh gb dJ;cases bk:decide (1≤n∧n≤4) with
 |false =>
  have g:=L.h A l1.h;simp only[kx,mb,r9,uG,Fj,Cg,bk]at g;clear L;replace g:=Hid.mk g;simp only[aa, *];exact g.h
 |true =>
 by_cases bJ:c2.length≤8
 case neg =>
  have agq:¬(c2.length:Int)≤8:=by omega
  have agp:=decide_eq_false bJ;have g:=L.h A l1.h;simp only[kx,mb,r9,uG,Fj,Cg,bk,agp]at g;clear L;replace g:=Hid.mk g;simp only[aa,aw,av,ay, *];exact g.h
 have agq:(c2.length:Int)≤8:=by omega
 have E1:=decide_eq_true bJ;by_cases dl:cv.length≤8
 case neg =>
  have agt:¬(cv.length:Int)≤8:=by omega
  have ags:=decide_eq_false dl;have g:=L.h A l1.h;simp only[kx,mb,r9,uG,Fj,Cg,bk,E1,ags]at g;clear L;replace g:=Hid.mk g;simp only[aa,aw,av,ay, *];exact g.h
 have agt:(cv.length:Int)≤8:=by omega
 have Ke:=decide_eq_true dl;by_cases fa:db.length≤16
 case neg =>
  have agu:¬(db.length:Int)≤16:=by omega
  have PL:=decide_eq_false fa;have g:=L.h A l1.h;simp only[kx,mb,r9,uG,Fj,Cg,bk,E1,Ke,PL]at g;clear L;replace g:=Hid.mk g;simp only[aa,aw,av,ay, *];exact g.h
 have agu:(db.length:Int)≤16:=by omega
 have uX:=decide_eq_true fa;simp only[aa,aw,av,ay, *];refine agP (p:=fun e=>!jO e) (hd.h.mono l1.h).1 (by simp) hd.h.2 (fun i e x aK af S wl bC cN=>?_) _ fun v2 S fD bC=>?_
 ·refine bj.val (first:=#[]) (captured:=#[]) ?_;obtain rfl:=abu aK af;exact ah5 e S wl fun D cW=>cN _ _ rfl cW
 subst fD;have dV:=bC.get ep;have l2:=Hid.mk (l1.h.trans bC);clear ep l1 bC;have c8:=Nv c2 jO;cases p8:c2.all jO with
 |false =>
  rw[p8]at c8;have g:=L.h S l2.h;simp only[kx,mb,r9,uG,Fj,Cg,bk,E1,Ke,uX,p8]at g;clear L;replace g:=Hid.mk g;simp only[aa, *];exact g.h
 |true =>
 rw[p8]at c8;simp only[aa,aw, *];refine agR (p:=fun e=>!jY e) (hr.h.mono l2.h).1 (by simp) hr.h.2 (fun i e x aK af S wl bC cN=>?_) _ fun v2 ae fD bC=>?_
 ·refine bj.val (first:=#[]) (captured:=#[]) ?_;obtain rfl:=abu aK af;exact apz e S wl fun D cW=>cN _ _ rfl cW
 subst fD;have hz:=bC.get dV;have aE:=Hid.mk (l2.h.trans bC);clear dV l2 bC c8;have c8:=Nv cv jY;cases pb:cv.all jY with
 |false =>
  rw[pb]at c8;have g:=L.h ae aE.h;simp only[kx,mb,r9,uG,Fj,Cg,bk,E1,Ke,uX,p8,pb]at g;clear L;replace g:=Hid.mk g;simp only[aa, *];exact g.h
 |true =>
 rw[pb]at c8;simp only[aa,aw, *];refine agT (p:=fun e=>!js e) (kb.h.mono aE.h) aV (by omega) (fun i e x aK af S wl bC cN=>?_) _ fun v2 aB fD bC=>?_
 ·refine bj.val (first:=#[]) (captured:=#[]) ?_;obtain⟨hZ,gG,dr⟩:=G4.h.get i e aK;rw[af]at gG;cases gG;exact aqC (dr.mono (aE.h.trans bC)) wl fun D cW=>cN _ _ rfl cW
 subst fD;clear c8;have c8:=Nv db js;have g:=L.h aB (aE.h.trans bC);simp only[kx,bk,E1,Ke,uX,p8,pb]at g;rw[← c8]at g;clear L bC c8;replace g:=Hid.mk g;simp only[aa, *];exact g.h
theorem mz.elem{h:J}{v:Value}{l:List dO}(ad:mz h v l){i:Nat}{e:dO}(au:l[i]?=some e) :
  ∃ id off cells own u,oU 6 [v,I i]=some (aH id off)∧h.get id=some (.aq cells own)∧gI true off 6 cells=some (tz e.name e.ga e.cB e.prio e.line u)∧hO h u e.body:=by
 obtain⟨xs,a,c,b⟩:=ad;obtain⟨x,A,u,rfl,S⟩:=b.get i e au;obtain⟨id,off,cells,own,g1,g2,g3,g4⟩:=a.elem A;exact⟨id,off,cells,own,u,g1,g2,g3,S⟩
end Go.Eng.Sy
namespace Go.Proofs
open Go.Shelf
def aaK:Go.Shelf.Ren:=⟨fun|171=>43|243=>92|246=>125|283=>147|284=>148|285=>149|286=>150|129=>167|317=>166|318=>168|319=>169|320=>170|337=>180|338=>181|n=>n,fun|3=>3|9=>9|2=>2|4=>4|171=>184|0=>0|53=>181|37=>88|5=>5|173=>187|212=>209|51=>151|20=>20|213=>210|46=>164|232=>229|233=>230|n=>n,fun|17=>0|18=>2|19=>3|n=>n⟩
theorem akK:Go.Proofs.LaysM.n171 Tryz.prog aaK where
 mixed:=by kernel_rfl
 f129:=Tryz.func167.trans (congrArg some (by kernel_rfl))
 f171:=Tryz.func43.trans (congrArg some (by kernel_rfl))
 f243:=Tryz.func92.trans (congrArg some (by kernel_rfl))
 f246:=Tryz.func125.trans (congrArg some (by kernel_rfl))
 f283:=Tryz.func147.trans (congrArg some (by kernel_rfl))
 f284:=Tryz.func148.trans (congrArg some (by kernel_rfl))
 f285:=Tryz.func149.trans (congrArg some (by kernel_rfl))
 f286:=Tryz.func150.trans (congrArg some (by kernel_rfl))
 f317:=Tryz.func166.trans (congrArg some (by kernel_rfl))
 f318:=Tryz.func168.trans (congrArg some (by kernel_rfl))
 f319:=Tryz.func169.trans (congrArg some (by kernel_rfl))
 f320:=Tryz.func170.trans (congrArg some (by kernel_rfl))
 f337:=Tryz.func180.trans (congrArg some (by kernel_rfl))
 f338:=Tryz.func181.trans (congrArg some (by kernel_rfl))
 t0:=Tryz.underlying0
 a0:=Tryz.isAgg0
 z0:=Tryz.sizeOf0
 v0:=Tryz.zeroValue0
 t2:=Tryz.underlying2
 a2:=Tryz.isAgg2
 z2:=Tryz.sizeOf2
 v2:=Tryz.zeroValue2
 t3:=Tryz.underlying3
 a3:=Tryz.isAgg3
 z3:=Tryz.sizeOf3
 v3:=Tryz.zeroValue3
 t4:=Tryz.underlying4
 a4:=Tryz.isAgg4
 z4:=Tryz.sizeOf4
 v4:=Tryz.zeroValue4
 t5:=Tryz.underlying5
 a5:=Tryz.isAgg5
 z5:=Tryz.sizeOf5
 v5:=Tryz.zeroValue5
 t9:=Tryz.underlying9
 a9:=Tryz.isAgg9
 z9:=Tryz.sizeOf9
 v9:=Tryz.zeroValue9
 t20:=Tryz.underlying20
 a20:=Tryz.isAgg20
 z20:=Tryz.sizeOf20
 v20:=Tryz.zeroValue20
 t37:=Tryz.underlying88
 a37:=Tryz.isAgg88
 z37:=Tryz.sizeOf88
 v37:=Tryz.zeroValue88
 t46:=Tryz.underlying164
 a46:=Tryz.isAgg164
 z46:=Tryz.sizeOf164
 v46:=Tryz.zeroValue164
 t51:=Tryz.underlying151
 a51:=Tryz.isAgg151
 z51:=Tryz.sizeOf151
 v51:=Tryz.zeroValue151
 t53:=Tryz.underlying181
 a53:=Tryz.isAgg181
 z53:=Tryz.sizeOf181
 v53:=Tryz.zeroValue181
 t171:=Tryz.underlying184
 a171:=Tryz.isAgg184
 z171:=Tryz.sizeOf184
 v171:=Tryz.zeroValue184
 t173:=Tryz.underlying187
 a173:=Tryz.isAgg187
 z173:=Tryz.sizeOf187
 v173:=Tryz.zeroValue187
 t212:=Tryz.underlying209
 a212:=Tryz.isAgg209
 z212:=Tryz.sizeOf209
 v212:=Tryz.zeroValue209
 t213:=Tryz.underlying210
 a213:=Tryz.isAgg210
 z213:=Tryz.sizeOf210
 t232:=Tryz.underlying229
 a232:=Tryz.isAgg229
 z232:=Tryz.sizeOf229
 v232:=Tryz.zeroValue229
 t233:=Tryz.underlying230
 a233:=Tryz.isAgg230
 z233:=Tryz.sizeOf230
 v233:=Tryz.zeroValue230
 g17:=by kernel_rfl
 g18:=by kernel_rfl
 g19:=by kernel_rfl
 i0:=by kernel_rfl
 i2:=by kernel_rfl
 i3:=by kernel_rfl
 i4:=by kernel_rfl
 i5:=by kernel_rfl
 i9:=by kernel_rfl
 i20:=by kernel_rfl
 i37:=by kernel_rfl
 i46:=by kernel_rfl
 i51:=by kernel_rfl
 i53:=by kernel_rfl
 i171:=by kernel_rfl
 i173:=by kernel_rfl
 i212:=by kernel_rfl
 i232:=by kernel_rfl
 i233:=by kernel_rfl
 m17:=by kernel_rfl
 m18:=by kernel_rfl
 m19:=by kernel_rfl
end Go.Proofs
namespace Go.Eng.Sy
open Go Go.Eng Go.Proofs
theorem ah0:∀(n:Nat),Lib.decDigits n=bs n:=by
 intro n;induction n using Nat.strongRecOn with
 |_ n ih =>
 rw[Lib.decDigits,bs];by_cases h:n<10
 ·rw[dif_pos h,if_neg (by omega),Nat.mod_eq_of_lt h]
 ·rw[dif_neg h,if_pos (by omega),ih _ (by omega)]
theorem BB{n:Int}(h0:0≤n)(A:n≤9223372036854775807){h:J}(Q:aT)(L:Q (str (bs n.toNat)) h):bj Tryz.prog 43 [I n] h Q:=by
 refine ⟨_,_,my.abE (enters_of Tryz.func43 (by kernel_rfl) rfl) (by simp [Value.plain]) rfl fun base w aA=>?_,L⟩;obtain ⟨_,el,fz,aC⟩:=aA.2 (0,Lib.pow10Tab.map fun z=>Value.int .u64 z) (by simp [Vj]);have ak3 : Lib.TabIs Tryz.prog w "internal/strconv.uint64pow10" .u64 Lib.pow10Tab := by
  unfold Lib.TabIs World.var?;rw [show (Tryz.prog).globalNamed "internal/strconv.uint64pow10" = some 0 by kernel_rfl];simp only [Option.bind_some,aC]
 have:=Any.strconv_Itoa akK n (by omega) A w ak3;have e:aaK.f 171=43:=rfl;rw[e]at this;refine this.mono fun e w' ⟨aK,k,os,ax⟩=>⟨?_,?_⟩
 ·rw[aK,Lib.itoa,if_neg (by omega),ah0]
 ·subst ax;refine⟨rfl,rfl,rfl,?_,fun b T=>?_⟩
  ·simp[Go.Sort.grow,World.drewN]
  ·simp[Go.Sort.grow,World.drewN,Pf T]
def nb(e:aX)(dz:Nat)(s:aD):aD:=if e.kind=4∧cy e.op<dz then 40::(s++[41]) else s
def sE(k o n:Int)(m:aD)(ts:List (aX × aD)):aD :=
 if k=1 then bs n.toNat
 else if k=5 then match ts with|a::_=>m++91::(a.2++[93])|[]=>[]
 else if k=3 then match ts with|a::_=>eU o++nb a.1 9 a.2|[]=>[]
 else if k=4 then match ts with|a::b::_=>nb a.1 (cy o) a.2++32::(eU o++32::nb b.1 (cy o+1) b.2)|_=>[]
 else m
mutual
def bU:aX→aD
 |.mk k o n m args=>sE k o n m (xM args)
def xM:List aX→List (aX × aD)
 |[]=>[]
 |e::r=>(e,bU e)::xM r
end
def iJ(e:aX)(dz:Nat):aD:=nb e dz (bU e)
theorem xU(e:aX)(l:Nat)(s:aD):(nb e l s).length≤s.length+2:=by
 unfold nb;split<;>simp
theorem Eo(o:Int):(eU o).length≤2:=by
 unfold eU;split
 ·rename_i h;have:o=1∨o=2∨o=3∨o=4∨o=5∨o=6∨o=7∨o=8∨o=9∨o=10∨o=11∨o=12∨o=13∨o=14∨o=15∨o=16∨o=17:=by omega
  rcases this with rfl|rfl|rfl|rfl|rfl|rfl|rfl|rfl|rfl|rfl|rfl|rfl|rfl|rfl|rfl|rfl|rfl<;>decide
 ·simp
theorem qY{m:aD}(h:de m=true):m.length≤20:=by
 unfold de at h;split at h
 ·cases h
 ·simp only[Bool.and_eq_true,decide_eq_true_eq]at h;exact h.1.1.1
inductive e1:aX→Nat→Prop
 |num (n:Nat) (d:Nat) (h:n<4294967296):e1 (.mk 1 0 n [] []) (d+1)
 |var (m:aD) (d:Nat) (h:de m=true):e1 (.mk 2 0 0 m []) (d+1)
 |one (o:Int) (a:aX) (d:Nat) (h:15≤o∧o≤17) (ai:e1 a d):e1 (.mk 3 o 0 [] [a]) (d+1)
 |two (o:Int) (a b:aX) (d:Nat) (h:1≤o∧o≤14) (ai:e1 a d) (T:e1 b d):e1 (.mk 4 o 0 [] [a,b]) (d+1)
 |idx (m:aD) (a:aX) (d:Nat) (h:de m=true) (ai:e1 a d):e1 (.mk 5 0 0 m [a]) (d+1)
theorem Hy{o:Int}:0<cy o↔1≤o∧o≤14:=by
 unfold cy
 (repeat' split)<;>omega
theorem TY(o:Int):cy o≤8:=by
 unfold cy
 (repeat' split)<;>omega
theorem rX:∀(d:Nat) (e:aX),fu e d=true↔e1 e d
 |0,.mk k o n m args=>by
  constructor
  ·intro h;simp[fu]at h
  ·intro h;cases h
 |d+1,.mk k o n m args=>by
  constructor
  ·intro h;simp only[fu,Bool.and_eq_true,beq_iff_eq,El,nU]at h;obtain⟨⟨A,S⟩,ae⟩:=h;unfold fX at A;unfold mN at S;by_cases ck:k=1
   ·subst ck;simp only[if_true,Bool.and_eq_true,decide_eq_true_eq,beq_iff_eq]at A;obtain⟨⟨hn,rfl⟩,rfl⟩:=A;obtain rfl:args=[]:=by simpa using S
    obtain⟨n,rfl⟩:∃ oq:Nat,n=oq:=⟨n.toNat,by omega⟩;exact .num n d (by omega)
   by_cases cm:k=2
   ·subst cm;simp at A S;obtain⟨⟨A,rfl⟩,rfl⟩:=A;subst S;exact .var m d A
   by_cases cb:k=3
   ·subst cb;simp at A S;obtain⟨⟨A,rfl⟩,rfl⟩:=A;obtain⟨a,rfl⟩:∃ a,args=[a]:=by
     match args,S with
     |[a],_=>exact⟨a,rfl⟩
    exact .one o a d A ((rX d a).1 (ae a (by simp)))
   by_cases eC:k=4
   ·subst eC;simp at A S;obtain⟨⟨A,rfl⟩,rfl⟩:=A;obtain⟨a,b,rfl⟩:∃ a b,args=[a,b]:=by
     match args,S with
     |[a,b],_=>exact⟨a,b,rfl⟩
    exact .two o a b d (Hy.1 A) ((rX d a).1 (ae a (by simp))) ((rX d b).1 (ae b (by simp)))
   by_cases dG:k=5
   ·subst dG;simp at A S;obtain⟨⟨A,rfl⟩,rfl⟩:=A;obtain⟨a,rfl⟩:∃ a,args=[a]:=by
     match args,S with
     |[a],_=>exact⟨a,rfl⟩
    exact .idx m a d A ((rX d a).1 (ae a (by simp)))
   simp[ck,cm,cb,eC,dG]at A
  ·intro h;cases h with
   |num n d h=>simp[fu,fX,mN,hv];omega
   |var m d h=>simp[fu,fX,mN,hv,h]
   |one o a d h ai=>simp[fu,fX,mN,hv,h,(rX d a).2 ai]
   |two o a b d h ai T=>simp[fu,fX,mN,hv,Hy.2 h,(rX d a).2 ai,(rX d b).2 T]
   |idx m a d h ai=>simp[fu,fX,mN,hv,h,(rX d a).2 ai]
theorem Vo{e:aX}{d:Nat}(h:e1 e d):(bU e).length+30≤30*2 ^ d:=by
 induction h with
 |num n d h =>
  have:=N7 9 n (by omega);have:=Nat.one_le_two_pow (n:=d);simp only[bU,sE,if_true,Int.toNat_natCast,Nat.pow_succ];omega
 |var m d h =>
  have:=qY h;have:=Nat.one_le_two_pow (n:=d);simp only[bU,sE,Nat.pow_succ];simp;omega
 |one o a d h ai ih =>
  have A:=Eo o;have S:=xU a 9 (bU a);simp only[bU,xM,sE,Nat.pow_succ];simp;omega
 |two o a b d h ai T zu DI =>
  have A:=Eo o;have S:=xU a (cy o) (bU a);have ae:=xU b (cy o+1) (bU b);simp only[bU,xM,sE,Nat.pow_succ];simp;omega
 |idx m a d h ai ih =>
  have:=qY h;simp only[bU,xM,sE,Nat.pow_succ];simp;omega
theorem uM{e:aX}{d:Nat}(h:e1 e d)(hd:d≤30):(bU e).length≤32212254720:=by
 have A:=Vo h;have:2 ^ d≤2 ^ 30:=Nat.pow_le_pow_right (by omega) hd;omega
def IJ(d:Nat):Prop:=∀(e:aX),e1 e d→∀(x:ar) (h:J) (Q:aT),iN h e x→(∀ D,h.le D→Q (str (bU e)) D)→bj Tryz.prog 27 [.agg x.toArray] h Q
def aeZ(d:Nat):Prop:=∀(e:aX),e1 e d→∀(dz:Nat) (x:ar) (h:J) (Q:aT),iN h e x→(∀ D,h.le D→Q (str (iJ e dz)) D)→bj Tryz.prog 68 [.agg x.toArray,I (dz:Int)] h Q
theorem aom{d:Nat}(hd:d≤30)(ih:IJ d):aeZ d:=by
 intro e aK dz x h Q af L;have aR:=uM aK hd;have Bz:=ih e aK;have ht:=af;obtain⟨v,rfl,ct⟩:=af.cells;have dJ:=qu (k:=e.kind) (o:=e.op) (n:=e.n) (m:=e.name) ct.one;obtain⟨p,h0,gr,yG,ep,h8⟩:=b9 h [I e.kind,I e.op,I e.n,str e.name,v];have eK:=ht.mono h8;clear ct af ht;replace Bz:=U Bz;replace eK:=U eK;replace h8:=U h8;refine c7 (k:=3) anl rfl rfl rfl fun N=>?_;rw[eJ P5 mZ rfl];delta P5;replace L:=U L;simp only[aa,aw,dt, *];refine Bz.h _ _ _ eK.h fun A l1=>?_;have fA:=l1.get ep;have g:=L.h A (h8.h.trans l1);clear L l1 dJ;unfold iJ nb at g;by_cases eC:e.kind=4
 ·by_cases ag:cy e.op<dz
  ·rw[if_pos ⟨eC,ag⟩]at g;have cW:(cy e.op:Int)<(dz:Int):=by omega
   have bk:=cf (a:=[40]) (b:=bU e) (by simp;omega);have bJ:=cf (a:=[40]++bU e) (b:=[41]) (by simp;omega);have az:(40::(bU e++[41]):aD)=[40]++bU e++[41]:=by simp
   rw[az]at g;clear az;replace g:=Hid.mk g;have Hl:(e.kind==4)=true:=by simpa using eC
   clear eC;simp only[aa,aw,av,ay, *];refine DP e.op _ _ ?_;simp only[aa,av,ay, *];exact g.h
  ·rw[if_neg (by omega)]at g;have cW:¬(cy e.op:Int)<(dz:Int):=by omega
   replace g:=Hid.mk g;have Hl:(e.kind==4)=true:=by simpa using eC
   clear eC;simp only[aa,aw,av,ay, *];refine DP e.op _ _ ?_;simp only[aa,av,ay, *];exact g.h
 ·rw[if_neg (by omega)]at g;replace g:=Hid.mk g;have Hl:(e.kind==4)=false:=by simpa using eC
  clear eC;simp only[aa,aw,av,ay, *];exact g.h
theorem aqJ{d:Nat}(hd:d+1≤30)(ih:IJ d):IJ (d+1):=by
 intro e aK x h Q af L;have ut:=aom (by omega) ih;have ht:=af;obtain⟨v,rfl,ct⟩:=af.cells;have dJ:=qu (k:=e.kind) (o:=e.op) (n:=e.n) (m:=e.name) ct.one;obtain⟨p,h0,gr,yG,ep,h8⟩:=b9 h [I e.kind,I e.op,I e.n,str e.name,v];have jR:=ct.mono h8;clear ct af ht;replace ih:=U ih;replace ut:=U ut;replace jR:=U jR;replace h8:=U h8;refine c7 (k:=2) amJ rfl rfl rfl fun N=>?_;rw[gE Pm qj rfl];delta Pm;replace L:=U L;simp only[aa,aw, *];refine U4 _ _ _ fun A l1=>?_;have fA:=l1.get ep;have ji:=jR.h.mono l1;have cN:=fun D (l2:A.le D)=>L.h D ((h8.h.trans l1).trans l2);clear L ep dJ yG gr jR h8 l1;replace ji:=U ji;replace cN:=U cN;cases aK with
 |num n d h =>
  have g:=cN.h A (J.le.refl A);simp only[bU,sE,if_true]at g;simp only[aX.kind,aX.op,aX.n,aX.name,aX.args]at *;replace g:=Hid.mk g;simp only[aa,aw,av,ay,Int.reduceLE, *];refine BB (by omega) (by omega) _ ?_;simp only[aa, *];exact g.h
 |var m d h =>
  have g:=cN.h A (J.le.refl A);have az:bU (.mk 2 0 0 m [])=m:=rfl;rw[az]at g;simp only[aX.kind,aX.op,aX.n,aX.name,aX.args]at *;replace g:=Hid.mk g;simp only[aa,aw,av,ay,Int.reduceBEq,Int.reduceLE, *];exact g.h
 |one o a d h bi =>
  have az:bU (.mk 3 o 0 [] [a])=eU o++iJ a 9:=rfl;rw[az]at cN;simp only[aX.kind,aX.op,aX.n,aX.name,aX.args]at *;obtain⟨id,off,cells,own,y,az,aL,bq,dr,_⟩:=ji.h.elem (i:=0) (e:=a) rfl;have ax:=xU a 9 (bU a);have ag:=uM bi (by omega);have ak:=Eo o;have bk:=cf (a:=eU o) (b:=iJ a 9) (by unfold iJ;omega);clear ax ag ak;replace dr:=U dr;rw[Ch]at az;have zy:(9:Int)=((9:Nat):Int):=rfl;simp only[aa,aw,av,ay,Int.reduceBEq, *];refine ut.h _ bi _ _ _ _ dr.h fun S l2=>?_;have g:=cN.h S l2;replace g:=Hid.mk g;clear l2;simp only[aa,av, *];exact g.h
 |two o a b d h bi FP =>
  have az:bU (.mk 4 o 0 [] [a,b])=iJ a (cy o)++[32]++eU o++[32]++iJ b (cy o+1):=by simp[bU,xM,sE,iJ]
  rw[az]at cN;simp only[aX.kind,aX.op,aX.n,aX.name,aX.args]at *;have ax:=xU a (cy o) (bU a);have iE:=xU b (cy o+1) (bU b);have ag:=uM bi (by omega);have bC:=uM FP (by omega);have ak:=Eo o;have bk:=cf (a:=iJ a (cy o)) (b:=[32]) (by unfold iJ;simp;omega);have bJ:=cf (a:=iJ a (cy o)++[32]) (b:=eU o) (by unfold iJ;simp;omega);have dl:=cf (a:=iJ a (cy o)++[32]++eU o) (b:=[32]) (by unfold iJ;simp;omega);have fa:=cf (a:=iJ a (cy o)++[32]++eU o++[32]) (b:=iJ b (cy o+1)) (by unfold iJ;simp;omega);clear ax ag ak iE bC;have ajs:=wa (cy o) (by have:=TY o;omega);obtain⟨id,off,cells,own,y,az,aL,bq,dr,_⟩:=ji.h.elem (i:=0) (e:=a) rfl;rw[Ch]at az;replace dr:=U dr;simp only[aa,aw,av,ay,Int.reduceBEq, *];refine DP o _ _ ?_;simp only[aa,aw, *];refine ut.h _ bi _ _ _ _ dr.h fun S l2=>lg l2.ext ?_;have dV:=l2.get fA;obtain⟨sz,q9,qy,rb,xY,f1,f2,f3,p2,_⟩:=(ji.h.mono l2).elem (i:=1) (e:=b) rfl;have oJ:=fun D (aE:S.le D)=>cN.h D (l2.trans aE);rw[show((1:Nat):Int)=1 from rfl]at f1;clear cN l2 az aL bq dr;replace p2:=U p2;replace oJ:=U oJ;simp only[aa,aw,av,ay, *];refine ut.h _ FP _ _ _ _ p2.h fun ae aE=>?_;have g:=oJ.h ae aE;replace g:=Hid.mk g;clear aE;simp only[aa,av, *];exact g.h
 |idx m a d h bi =>
  have az:bU (.mk 5 0 0 m [a])=m++[91]++bU a++[93]:=by simp[bU,xM,sE]
  rw[az]at cN;simp only[aX.kind,aX.op,aX.n,aX.name,aX.args]at *;obtain⟨id,off,cells,own,y,az,aL,bq,dr,_⟩:=ji.h.elem (i:=0) (e:=a) rfl;have ag:=uM bi (by omega);have ak:=qY h;have bk:=cf (a:=m) (b:=[91]) (by simp;omega);have bJ:=cf (a:=m++[91]) (b:=bU a) (by simp;omega);have dl:=cf (a:=m++[91]++bU a) (b:=[93]) (by simp;omega);clear ag ak;replace dr:=U dr;rw[Ch]at az;simp only[aa,aw,av,ay,Int.reduceBEq,Int.reduceLE, *];refine ih.h a bi _ _ _ dr.h fun S l2=>lg l2.ext ?_;have dV:=l2.get fA;have g:=cN.h S l2;replace g:=Hid.mk g;clear l2;simp only[aa,aw,av, *];exact g.h
theorem Cb:∀(d:Nat),d≤30→IJ d
 |0,_=>fun e aK=>by cases aK
 |d+1,hd=>aqJ hd (Cb d (by omega))
theorem Cm{z:Int}(A:0≤z)(S:z≤18446744073709551615):IntKind.u64.wrap z=z:=by
 rw[IntKind.wrap_u64];omega
def bR(n:Nat):aD:=List.replicate n 9
end Go.Eng.Sy
namespace Go.Eng
open Go
end Go.Eng
namespace Go.Eng.Sy
open Go Go.Eng Go.Proofs
def dA(n:Nat)(jq:List (aD)):aD:=bR n++jq.flatten++[10]
theorem AG{jq:List (aD)}{i:Nat}{s:aD}(h:jq[i]?=some s):(jq.take (i+1)).flatten=(jq.take i).flatten++s:=by
 rw[G5,h];simp
theorem yN(jq:List (aD))(i:Nat):(jq.take i).flatten.length≤jq.flatten.length:=by
 have h:=congrArg List.flatten (PJ i jq);rw[List.flatten_append]at h;rw[← h,ap];omega
inductive jx:aP→Nat→Prop
 |set (m:aD) (a:aX) (d:Nat) (h:de m=true) (ai:e1 a 30):jx (.mk 1 m [] 0 [a] [] []) (d+1)
 |get (m f:aD) (n:Nat) (d:Nat) (h:de m=true) (aZ:de f=true) (hn:n≤3):jx (.mk 2 m f n [] [] []) (d+1)
 |put (m:aD) (n:Nat) (a:aX) (d:Nat) (h:de m=true) (hn:n≤3) (ai:e1 a 30):jx (.mk 3 m [] n [a] [] []) (d+1)
 |store (m:aD) (a b:aX) (d:Nat) (h:de m=true) (ai:e1 a 30) (T:e1 b 30):jx (.mk 4 m [] 0 [a,b] [] []) (d+1)
 |lock (m:aD) (aU:List aP) (d:Nat) (h:de m=true) (aC:∀ s∈aU,jx s d):jx (.mk 5 m [] 0 [] aU []) (d+1)
 |cond (a:aX) (aU bz:List aP) (d:Nat) (ai:e1 a 30) (aC:∀ s∈aU,jx s d) (aK:∀ s∈bz,jx s d):jx (.mk 6 [] [] 0 [a] aU bz) (d+1)
 |rW (n:Nat) (aU:List aP) (d:Nat) (hn:n≤20) (aC:∀ s∈aU,jx s d):jx (.mk 7 [] [] n [] aU []) (d+1)
 |halt (d:Nat):jx (.mk 8 [] [] 0 [] [] []) (d+1)
theorem Ek{a:aX}{d:Nat}:hv [a] d=true↔e1 a d:=by simp[hv,rX]
theorem UP{a b:aX}{d:Nat}:hv [a,b] d=true↔e1 a d∧e1 b d:=by simp[hv,rX]
theorem Cl:∀(d:Nat) (s:aP),je s d=true↔jx s d
 |0,.mk k m f n args aU bz=>by
  constructor
  ·intro h;simp[je]at h
  ·intro h;cases h
 |d+1,.mk k m f n args aU bz=>by
  have gs:∀ l:List aP,hx l d=true↔∀ s∈l,jx s d:=fun l=>by
   rw[we,nU];exact⟨fun h s ak=>(Cl d s).1 (h s ak),fun h s ak=>(Cl d s).2 (h s ak)⟩
  constructor
  ·intro h;simp only[je,Bool.and_eq_true,gs,decide_eq_true_eq,beq_iff_eq]at h;obtain⟨⟨⟨⟨⟨⟨⟨⟨⟨⟨A,S⟩,ae⟩,aB⟩,aG⟩,a1⟩,bN⟩,b7⟩,dE⟩,aC⟩,aK⟩:=h;obtain⟨n,rfl⟩:∃ oq:Nat,n=oq:=⟨n.toNat,by omega⟩;have ab:k=1∨k=2∨k=3∨k=4∨k=5∨k=6∨k=7∨k=8:=by simp[oa]at A;omega
   rcases ab with rfl|rfl|rfl|rfl|rfl|rfl|rfl|rfl
   all_goals simp[mO,lM,lN,lL,k1,j5,kp]at S ae aG a1 b7 dE
   ·subst ae aG b7 dE
    match args,a1 with
    |[a],_=>exact .set m a d S (Ek.1 bN)
   ·subst a1 b7 dE;exact .get m f n d S ae (by omega)
   ·subst ae b7 dE
    match args,a1 with
    |[a],_=>exact .put m n a d S (by omega) (Ek.1 bN)
   ·subst ae aG b7 dE
    match args,a1 with
    |[a,b],_=>exact .store m a b d S (UP.1 bN).1 (UP.1 bN).2
   ·subst ae aG a1 dE;exact .lock m aU d S aC
   ·subst S ae aG
    match args,a1 with
    |[a],_=>exact .cond a aU bz d (Ek.1 bN) aC aK
   ·subst S ae a1 dE;exact .rW n aU d (by omega) aC
   ·subst S ae aG a1 b7 dE;exact .halt d
  ·intro h;cases h with
   |set m a d h ai=>simp[je,oa,mO,lM,lN,lL,k1,j5,kp,h,Ek.2 ai,hx]
   |get m f n d h aZ hn=>simp[je,oa,mO,lM,lN,lL,k1,j5,kp,h,aZ,hv,hx];omega
   |put m n a d h hn ai=>simp[je,oa,mO,lM,lN,lL,k1,j5,kp,h,Ek.2 ai,hx];omega
   |store m a b d h ai T=>simp[je,oa,mO,lM,lN,lL,k1,j5,kp,h,UP.2 ⟨ai,T⟩,hx]
   |lock m aU d h aC=>simp[je,oa,mO,lM,lN,lL,k1,j5,kp,h,hv,(gs aU).2 aC,hx]
   |cond a aU bz d ai aC aK=>simp[je,oa,mO,lM,lN,lL,k1,j5,kp,Ek.2 ai,(gs aU).2 aC,(gs bz).2 aK]
   |rW n aU d hn aC=>simp[je,oa,mO,lM,lN,lL,k1,j5,kp,hv,(gs aU).2 aC,hx];omega
   |halt d=>simp[je,oa,mO,lM,lN,lL,k1,j5,kp,hv,hx]
def kC(t:Nat)(head nw el:aD)(tn:Bool):aD:=dA t [head,[32,123]]++nw++(if tn then dA t [[125,32,101,108,115,101,32,123]]++el else[])++dA t [[125]]
def pa(ts:List (aD)):aD:=ts.getD 0 []
def wy(ts:List (aD)):aD:=ts.getD 1 []
def oR(t:Nat)(k:Int)(m f:aD)(n:Int)(ts:List (aD))(nw el:aD)(tn:Bool):aD :=
 if k=1 then dA t [m,[32,61,32],pa ts,[59]]
 else if k=2 then dA t [m,[32,61,32],f,[46],bs n.toNat,[59]]
 else if k=3 then dA t [m,[46],bs n.toNat,[32,61,32],pa ts,[59]]
 else if k=4 then dA t [m,[91],pa ts,[93,32,61,32],wy ts,[59]]
 else if k=8 then dA t [[104,97,108,116,59]]
 else if k=5 then kC t ([108,111,99,107,32]++m) nw el tn
 else if k=7 then kC t ([114,101,112,101,97,116,32]++bs n.toNat) nw el tn
 else if k=6 then kC t ([105,102,32,40]++pa ts++[41]) nw el tn
 else[]
mutual
def gy:Nat→aP→aD
 |t,.mk k m f n args aU bz=>oR t k m f n (args.map bU) (cJ (t+1) aU) (cJ (t+1) bz) (!bz.isEmpty)
def cJ:Nat→List aP→aD
 |_,[]=>[]
 |t,s::r=>gy t s++cJ t r
end
theorem UB:∀(t:Nat) (l:List aP) (i:Nat) (s:aP),l[i]?=some s→cJ t (l.take (i+1))=cJ t (l.take i)++gy t s
 |_,[],i,s,h=>by simp at h
 |t,a::r,0,s,h=>by simp at h;subst h;simp[cJ]
 |t,a::r,i+1,s,h=>by have:=UB t r i s (by simpa using h);simp only[List.take_succ_cons,cJ,this,wB]
theorem acb:∀(t:Nat) (a b:List aP),cJ t (a++b)=cJ t a++cJ t b
 |_,[],_=>rfl
 |t,x::a,b=>by simp only[E0,cJ,acb t a b,wB]
theorem UC(t:Nat)(l:List aP)(i:Nat):(cJ t (l.take i)).length≤(cJ t l).length:=by
 have h:=congrArg (cJ t) (PJ i l);rw[acb]at h;rw[← h,ap];omega
abbrev ez:Nat:=140737488355328
theorem uW(a:aD):ie [aI] [(0,1)] 1 1 [str a]=some ([str a],fun id=>.slice (some ⟨id,0,none⟩) 1 1):=rq rfl rfl rfl (by simp[Value.cells,Value.oneCell'])
theorem NC(a b:aD):ie [aI,aI] [(0,1),(1,1)] 2 1 [str a,str b]=some ([str a,str b],fun id=>.slice (some ⟨id,0,none⟩) 2 1):=rq rfl rfl rfl (by simp[Value.cells,Value.oneCell'])
theorem ym(a b c:aD):ie [aI,aI,aI] [(0,1),(1,1),(2,1)] 3 1 [str a,str b,str c]=some ([str a,str b,str c],fun id=>.slice (some ⟨id,0,none⟩) 3 1):=rq rfl rfl rfl (by simp[Value.cells,Value.oneCell'])
def sC:List (aD):=[[],[117,97,114,116],[116,105,109,101,114],[103,112,105,111]]
def ir(d:Nm):aD:=dA 0 [[100,101,118,105,99,101,32],d.name,[32],sC.getD d.n.toNat []]
def iR(d:Nm):aD:=dA 0 [[114,101,115,111,117,114,99,101,32],d.name,[32],bs d.n.toNat]
def qN(t:dO):aD:=[32]++t.name++[32]++bs t.cB.toNat++[32]++bs t.prio.toNat
def fh(t:dO):aD:=(if t.ga then dA 0 [[104,97,110,100,108,101,114],qN t,[32],bs t.line.toNat,[32,123]] else dA 0 [[116,97,115,107],qN t,[32,123]])++cJ 1 t.body++dA 0 [[125]]
def lZ(p:gS):aD:=dA 0 [[104,97,114,116,115,32],bs p.bS.toNat]++(p.c2.map ir).flatten++(p.cv.map iR).flatten++(p.db.map fh).flatten
theorem MP(h:J)(m:aD)(k:Int):cz 2 (h.alloc (.aq [aI,I 0] true)) [aH h.next 0,ks m k]=some (b0,h.alloc (.aq [str m,I k] true)):=kk rfl rfl rfl (by simp[Value.oneCell'])
theorem vI{c1 l5:Type}{l:List c1}{i:Nat}{e:c1}(f:c1→l5)(h:l[i]?=some e):(l.map f)[i]?=some (f e):=by simp[h]
theorem rS(a b c d:Value):gI true 0 4 [a,b,c,d]=some (.agg #[a,b,c,d]):=rfl
theorem UQ{p:gS}(h:mT p=true):(1≤p.bS∧p.bS≤4)∧(∀ d∈p.c2,jO d=true)∧(∀ d∈p.cv,jY d=true)∧(∀ d∈p.db,js d=true):=by
 simp only[mT,Bool.and_eq_true,decide_eq_true_eq,nU]at h;exact⟨h.1.1.1.1.1.1,h.1.1.2,h.1.2,h.2⟩
theorem NF(k o n:Int)(m:aD){v:Value}(ad:v.oneCell'=true):ie [I 0,I 0,I 0,aI,bx] [(0,5)] 1 5 [ko k o n m v]=some ([I k,I o,I n,str m,v],fun id=>.slice (some ⟨id,0,none⟩) 1 5) :=
 uT rfl rfl rfl (by simpa[Value.oneCell'] using ad)
theorem VN{h:J}{e:aX}{x:ar}(af:iN h e x)(Q:aT)
  (L:∀ D,h.le D→Q (.tuple #[str (if fu e 30 then bU e else[]),I (if fu e 30 then 0 else 1)]) D):bj Tryz.prog 12 [.agg x.toArray] h Q:=by
 have ht:=af;obtain⟨v,rfl,ct⟩:=af.cells;have dJ:=qu (k:=e.kind) (o:=e.op) (n:=e.n) (m:=e.name) ct.one;have kB:=NF e.kind e.op e.n e.name ct.one;obtain⟨p,h0,gr,yG,ep,h8⟩:=b9 h [I e.kind,I e.op,I e.n,str e.name,v];have eK:=ht.mono h8;obtain⟨bA,A,qF,gO,fA,bt⟩:=b9 h0 [I e.kind,I e.op,I e.n,str e.name,v];have gZ:=eK.mono bt;have Rn:=bt.get ep;have fr:iv A (.slice (some ⟨bA,0,none⟩) 1 5) [e]:=by
  refine⟨[[I e.kind,I e.op,I e.n,str e.name,v]],.inr ⟨bA,0,rfl,.inr ⟨_,_,fA,fun i x af=>?_⟩⟩,by simp,?_⟩
  ·have au:i=0:=by
    have:=(j2.1 af).1;simp at this;exact this
   subst au;simp at af;subst af;simp
  ·exact⟨_,_,rfl,gZ,rfl⟩
 have l2:=h8.trans bt;clear af ht eK ct h8 bt fA;replace fr:=U fr;replace gZ:=U gZ;replace l2:=U l2;refine qw (k:=2) (j:=3) alX rfl rfl rfl fun N=>?_;rw[gE N5 mZ rfl];delta N5;replace L:=U L;have at1:(30:Int)=((30:Nat):Int):=rfl;simp only[aa,aw,dt, *];refine ad2 30 (by omega) [e] _ _ _ fr.h fun S aE=>?_;have dV:=aE.get Rn;have gc:=gZ.h.mono aE;have aE:=l2.h.trans aE;have AE:hv [e] 30=fu e 30:=by simp[hv]
 rw[AE];clear fr gZ l2 Rn;cases hr:fu e 30 with
 |false =>
  have g:=L.h S aE;rw[hr]at g;simp only[xZ,if_false]at g;replace g:=Hid.mk g;clear L gc aE;simp only[aa, *];exact g.h
 |true =>
  rw[hr]at L;simp only[if_true]at L;replace gc:=U gc;replace aE:=U aE;simp only[aa,aw,dt, *];refine Cb 30 (by omega) e ((rX 30 e).1 hr) _ _ _ gc.h fun aB aO=>?_;have g:=L.h aB (aE.h.trans aO);replace g:=Hid.mk g;clear aO;simp only[aa, *];exact g.h
theorem rN:(Tryz.prog).cellsOf 3=1:=by kernel_rfl
theorem Ub:(Tryz.prog).cellsOf 9=1:=by kernel_rfl
theorem fi:(Tryz.prog).underlying 3=some (.int .i64):=by kernel_rfl
theorem gL:(Tryz.prog).underlying 9=some .string:=by kernel_rfl
end Go.Eng.Sy
