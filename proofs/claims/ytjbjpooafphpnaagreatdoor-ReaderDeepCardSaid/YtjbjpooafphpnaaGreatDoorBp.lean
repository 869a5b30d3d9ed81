/-
  Part of a proof of the laws of layer 07 (reader): what each function does.
  Conditions: none.
-/
import Derived.Test.YtjbjpooafphpnaaGreatDoorBs
set_option linter.unusedSimpArgs false
set_option linter.unusedVariables false
namespace Go.Eng.Sy
open Go Go.Eng Go.Proofs
theorem sJ (b:UInt8) (l:aD):runN (b::l)=if nm b then runN l + 1 else 0:=by
 unfold runN;rw [List.takeWhile_cons];split<;>simp
def rJ (b:UInt8):Bool:=decide (48≤b.toNat) && decide (b.toNat≤57)
theorem CF {b:UInt8}(h:rJ b=true):Lib.lowerB b=b∧nm b=true∧b≠120∧b.toNat≤57:=by
 have:∀ n:Fin 256,rJ (UInt8.ofNat n.val)=true→Lib.lowerB (UInt8.ofNat n.val)=UInt8.ofNat n.val∧nm (UInt8.ofNat n.val)=true∧UInt8.ofNat n.val≠120∧(UInt8.ofNat n.val).toNat≤57:=by decide +kernel
 have:=this ⟨b.toNat,Ew b⟩;simp only [UInt8.ofNat_toNat] at this;exact this h
section
variable {l:aD}{m:Int}{ts:List Tok}{R X:List Tok × Int × Bool}
end
inductive PR (c1:Type) where
 | ok (a:c1) (r:List Tok)
 | bad (e line:Int)
 | out
def PR.bind {c1 l5:Type}(x:PR c1) (g:c1→List Tok→PR l5):PR l5:=match x with
 | .ok a r=>g a r
 | .bad e l=>.bad e l
 | .out=>.out
def aC (l:List Tok):Tok:=l.headD (me 0)
def dk (s:aD) (t:Tok):Bool:=t.text == s && (t.kind == 2 || t.kind == 4)
def binOp (t:Tok):Int:=match (List.range' 1 14).find? (fun o=>dk (eU (o:Nat)) t) with | some o=>(o:Int) | none=>0
def unOp (t:Tok):Int:=match (List.range' 15 3).find? (fun o=>dk (eU (o:Nat)) t) with | some o=>(o:Int) | none=>0
def tM:Int:=70
def Fc:Int:=71
def mP (s:aD) (l:List Tok):PR Unit:=if dk s (aC l) then .ok () l.tail else .bad tM (aC l).line
mutual
def nT:Nat→Nat→List Tok→PR aX
 | 0,_,_=>.out
 | f + 1,deep,l =>
  if 1000 < deep then .bad Fc 1
  else if unOp (aC l)≠0 then (nT f (deep + 1) l.tail).bind fun a r=>.ok (.mk 3 (unOp (aC l)) 0 [] [a]) r
  else if dk [40] (aC l) then (lB f 1 (deep + 1) l.tail).bind fun e r=>(mP [41] r).bind fun _ r=>.ok e r
  else if (aC l).kind=3 then .ok (.mk 1 0 (aC l).n [] []) l.tail
  else if (aC l).kind≠1 then .bad tM (aC l).line
  else if dk [91] (aC l.tail) then (lB f 1 (deep + 1) l.tail.tail).bind fun e r=>(mP [93] r).bind fun _ r=>.ok (.mk 5 0 0 (aC l).text [e]) r
  else .ok (.mk 2 0 0 (aC l).text []) l.tail
def lB:Nat→Nat→Nat→List Tok→PR aX
 | 0,_,_,_=>.out
 | f + 1,dz,deep,l=>(nT f deep l).bind fun e r=>qc f e dz deep r
def qc:Nat→aX→Nat→Nat→List Tok→PR aX
 | 0,_,_,_,_=>.out
 | f + 1,e,dz,deep,l =>
  if cy (binOp (aC l))=0∨cy (binOp (aC l)) < dz then .ok e l
  else (lB f (cy (binOp (aC l)) + 1) deep l.tail).bind fun b r=>qc f (.mk 4 (binOp (aC l)) 0 [] [e,b]) dz deep r
end
def q1 (l:List Tok):Prop:=dk [91] (aC l)=false
def im (k:Int) (l:List Tok):PR Tok:=if (aC l).kind=k then .ok (aC l) (if k=5 then l else l.tail) else .bad tM (aC l).line
def tq (f deep:Nat) (k:Int) (m:aD) (n:Int) (xs:List aX) (l:List Tok):PR aP :=
 (mP [61] l).bind fun _ r =>
  if k=1∧(aC r).kind=1∧(aC r.tail).text=[46] then (im 1 r).bind fun g r=>(mP [46] r).bind fun _ r=>(im 3 r).bind fun i r=>.ok (.mk 2 m g.text i.n [] [] []) r
  else (lB f 1 deep r).bind fun e r=>.ok (.mk k m [] n (xs++[e]) [] []) r
def uH (f deep:Nat) (m:aD) (l:List Tok):PR aP :=
 if dk [46] (aC l) then (im 3 l.tail).bind fun i r=>tq f deep 3 m i.n [] r
 else if dk [91] (aC l) then (lB f 1 (deep + 1) l.tail).bind fun e r=>(mP [93] r).bind fun _ r=>tq f deep 4 m 0 [e] r
 else tq f deep 1 m 0 [] l
mutual
def pE:Nat→Nat→List Tok→PR aP
 | 0,_,_=>.out
 | f + 1,deep,l =>
  if dk [105,102] (aC l) then (mP [40] l.tail).bind fun _ r=>(lB f 1 (deep + 1) r).bind fun e r=>(mP [41] r).bind fun _ r=>(jL f (deep + 1) r).bind fun t r =>
   if dk [101,108,115,101] (aC r) then (jL f (deep + 1) r.tail).bind fun x r=>.ok (.mk 6 [] [] 0 [e] t x) r else .ok (.mk 6 [] [] 0 [e] t []) r
  else if dk [108,111,99,107] (aC l) then (im 1 l.tail).bind fun n r=>(jL f (deep + 1) r).bind fun t r=>.ok (.mk 5 n.text [] 0 [] t []) r
  else if dk [114,101,112,101,97,116] (aC l) then (im 3 l.tail).bind fun n r=>(jL f (deep + 1) r).bind fun t r=>.ok (.mk 7 [] [] n.n [] t []) r
  else if dk [104,97,108,116] (aC l) then (mP [59] l.tail).bind fun _ r=>.ok (.mk 8 [] [] 0 [] [] []) r
  else (im 1 l).bind fun n r=>(uH f deep n.text r).bind fun s r=>(mP [59] r).bind fun _ r=>.ok s r
def jL:Nat→Nat→List Tok→PR (List aP)
 | 0,_,_=>.out
 | f + 1,deep,l=>(mP [123] l).bind fun _ r=>if 1000 < deep then .bad Fc 1 else pF f deep r
def pF:Nat→Nat→List Tok→PR (List aP)
 | 0,_,_=>.out
 | f + 1,deep,l=>if dk [125] (aC l) then .ok [] l.tail else (pE f deep l).bind fun s r=>(pF f deep r).bind fun et r=>.ok (s::et) r
end
def ne (l:List Tok):Prop:=dk [101,108,115,101] (aC l)=false
def BU (l:List Tok):PR Nm:=(im 1 l).bind fun n r =>
 if dk [117,97,114,116] (aC r) then .ok ⟨n.text,1⟩ r.tail else if dk [116,105,109,101,114] (aC r) then .ok ⟨n.text,2⟩ r.tail else if dk [103,112,105,111] (aC r) then .ok ⟨n.text,3⟩ r.tail else .bad tM (aC r).line
def oT:Nat→List Tok→PR (List Nm)
 | 0,_=>.out
 | f + 1,l=>if dk [100,101,118,105,99,101] (aC l) then (BU l.tail).bind fun d r=>(oT f r).bind fun bG r=>.ok (d::bG) r else .ok [] l
def mS:Nat→List Tok→PR (List Nm)
 | 0,_=>.out
 | f + 1,l=>if dk [114,101,115,111,117,114,99,101] (aC l) then (im 1 l.tail).bind fun n r=>(im 3 r).bind fun k r=>(mS f r).bind fun bG r=>.ok (⟨n.text,k.n⟩::bG) r else .ok [] l
def vR (f:Nat) (h:Bool) (l:List Tok):PR dO:=(im 1 l).bind fun n r=>(im 3 r).bind fun a r=>(im 3 r).bind fun p r =>
 if h then (im 3 r).bind fun i r=>(jL f 1 r).bind fun b r=>.ok ⟨n.text,true,a.n,p.n,i.n,b⟩ r else (jL f 1 r).bind fun b r=>.ok ⟨n.text,false,a.n,p.n,0,b⟩ r
def nu:Nat→List Tok→PR (List dO)
 | 0,_=>.out
 | f + 1,l=>if dk [104,97,110,100,108,101,114] (aC l) then (vR f true l.tail).bind fun t r=>(nu f r).bind fun ts r=>.ok (t::ts) r
  else if dk [116,97,115,107] (aC l) then (vR f false l.tail).bind fun t r=>(nu f r).bind fun ts r=>.ok (t::ts) r else .ok [] l
def BX (f:Nat) (l:List Tok):PR gS:=(mP [104,97,114,116,115] l).bind fun _ r=>(im 3 r).bind fun h r=>(oT f r).bind fun bG r=>(mS f r).bind fun b3 r=>(nu f r).bind fun ts r=>.ok ⟨h.n,bG,b3,ts⟩ r
theorem PR.hc {c1 l5:Type}{x:PR c1}{g:c1→List Tok→PR l5}{b:l5}{dL : List Tok}(h:x.bind g = .ok b dL):∃ a r,x = .ok a r∧g a r = .ok b dL:=by
 cases x with
 | ok a r=>exact ⟨a,r,rfl,h⟩
 | bad e l=>cases h
 | out=>cases h
theorem PR.fy {c1 l5:Type}{x:PR c1}{g:c1→List Tok→PR l5}(af:x ≠ .out) (aA:∀ a r,x = .ok a r→g a r ≠ .out):x.bind g ≠ .out:=by
 cases x with
 | ok a r=>exact aA a r rfl
 | bad e l=>intro h;cases h
 | out=>exact absurd rfl af
theorem hM {l:List Tok}(h:(aC l).kind≠5):l.tail.length < l.length:=by
 cases l with
 | nil=>exact absurd rfl h
 | cons t r=>simp
theorem iZ {s:aD}{t:Tok}(h:dk s t=true):t.kind≠5:=by
 simp only [dk,Bool.and_eq_true,Bool.or_eq_true,beq_iff_eq] at h;omega
theorem oS {s:aD}{l r:List Tok}{u:Unit}(h:mP s l = .ok u r):r.length < l.length∧r=l.tail:=by
 unfold mP at h;split at h
 ·rename_i aj;cases h;exact ⟨hM (iZ aj),rfl⟩
 ·cases h
theorem uA (s:aD) (l:List Tok):mP s l ≠ .out:=by
 unfold mP;split<;>(intro h;cases h)
theorem zP {n k:Nat}{t:Tok}(h:(match (List.range' n k).find? (fun o=>dk (eU (o:Nat)) t) with | some o=>(o:Int) | none=>0)≠0):t.kind≠5:=by
 cases aZ:(List.range' n k).find? (fun o=>dk (eU (o:Nat)) t) with
 | none=>rw [aZ] at h;exact absurd rfl h
 | some o =>
  have:=List.find?_some aZ;exact iZ (s:=eU (o:Nat)) this
theorem BY:∀ f:Nat,(∀ deep l e r,nT f deep l = .ok e r→r.length < l.length)∧(∀ dz deep l e r,lB f dz deep l = .ok e r→r.length < l.length)∧(∀ x dz deep l e r,qc f x dz deep l = .ok e r→r.length≤l.length)
 | 0=>⟨fun _ _ _ _ h=>(by rw [nT] at h;cases h),fun _ _ _ _ _ h=>(by rw [lB] at h;cases h),fun _ _ _ _ _ _ h=>(by rw [qc] at h;cases h)⟩
 | f + 1=>by
  obtain ⟨A,S,ae⟩:=BY f;refine ⟨fun deep l e r h=>?_,fun dz deep l e r h=>?_,fun x dz deep l e r h=>?_⟩
  ·rw [nT] at h;split at h
   ·cases h
   split at h
   ·rename_i aj;obtain ⟨a,cn,g1,g2⟩:=PR.hc h;cases g2;have:=A _ _ _ _ g1;have:=hM (zP (n:=15) (k:=3) aj);omega
   split at h
   ·rename_i aj;obtain ⟨a,cn,g1,g2⟩:=PR.hc h;obtain ⟨b,bM,g3,g4⟩:=PR.hc g2;cases g4;have:=S _ _ _ _ _ g1;have:=(oS g3).1;have:=hM (iZ aj);omega
   split at h
   ·rename_i aj;cases h;exact hM (by omega)
   split at h
   ·cases h
   rename_i aj;have ab:(aC l).kind≠5:=by omega
   have H:=hM ab;split at h
   ·rename_i T;obtain ⟨a,cn,g1,g2⟩:=PR.hc h;obtain ⟨b,bM,g3,g4⟩:=PR.hc g2;cases g4;have:=S _ _ _ _ _ g1;have:=(oS g3).1;have:=hM (iZ T);omega
   ·cases h;exact H
  ·rw [lB] at h;obtain ⟨a,cn,g1,g2⟩:=PR.hc h;have:=A _ _ _ _ g1;have:=ae _ _ _ _ _ _ g2;omega
  ·rw [qc] at h;split at h
   ·cases h;exact Nat.le_refl _
   ·rename_i aj;obtain ⟨a,cn,g1,g2⟩:=PR.hc h;have h0:binOp (aC l)≠0:=fun e=>aj (.inl (by rw [e];rfl));have:=S _ _ _ _ _ g1;have:=ae _ _ _ _ _ _ g2;have:=hM (zP (n:=1) (k:=14) h0);omega
theorem H3:∀ f:Nat,(∀ deep l,3 * l.length + 1≤f→nT f deep l ≠ .out)∧(∀ dz deep l,3 * l.length + 2≤f→lB f dz deep l ≠ .out)∧(∀ x dz deep l,3 * l.length + 1≤f→qc f x dz deep l ≠ .out)
 | 0=>⟨fun _ _ h=>(by omega),fun _ _ _ h=>(by omega),fun _ _ _ _ h=>(by omega)⟩
 | f + 1=>by
  obtain ⟨A,S,ae⟩:=H3 f;obtain ⟨ck,cm,cb⟩:=BY f;refine ⟨fun deep l h=>?_,fun dz deep l h=>?_,fun x dz deep l h=>?_⟩
  ·rw [nT];split
   ·intro h;cases h
   split
   ·rename_i aj;have:=hM (zP (n:=15) (k:=3) aj);exact PR.fy (A _ _ (by omega)) fun _ _ _ h=>by cases h
   split
   ·rename_i aj;have:=hM (iZ aj);exact PR.fy (S _ _ _ (by omega)) fun _ _ _=>PR.fy (uA _ _) fun _ _ _ h=>by cases h
   split
   ·intro h;cases h
   split
   ·intro h;cases h
   rename_i aj;have ab:(aC l).kind≠5:=by omega
   have H:=hM ab;split
   ·rename_i T;have:=hM (iZ T);exact PR.fy (S _ _ _ (by omega)) fun _ _ _=>PR.fy (uA _ _) fun _ _ _ h=>by cases h
   ·intro h;cases h
  ·rw [lB];exact PR.fy (A _ _ (by omega)) fun a r g=>ae _ _ _ _ (by have:=ck _ _ _ _ g;omega)
  ·rw [qc];split
   ·intro h;cases h
   ·rename_i aj;have h0:binOp (aC l)≠0:=fun e=>aj (.inl (by rw [e];rfl));have:=hM (zP (n:=1) (k:=14) h0);exact PR.fy (S _ _ _ (by omega)) fun a r g=>ae _ _ _ _ (by have:=cm _ _ _ _ _ g;omega)
theorem kQ {k:Int}{l r:List Tok}{t:Tok}(aG:k≠5) (h:im k l = .ok t r):r.length < l.length∧t=aC l∧r=l.tail:=by
 unfold im at h;split at h
 ·rename_i ab;cases h;exact ⟨hM (by omega),rfl,rfl⟩
 ·cases h
theorem rL (k:Int) (l:List Tok):im k l ≠ .out:=by
 unfold im;split<;>(intro h;cases h)
theorem UN {f deep:Nat}{k n:Int}{m:aD}{xs:List aX}{l r:List Tok}{s:aP}(h:tq f deep k m n xs l = .ok s r):r.length < l.length:=by
 unfold tq at h;obtain ⟨_,cn,g1,h⟩:=PR.hc h;have:=(oS g1).1;split at h
 ·obtain ⟨_,bM,g2,h⟩:=PR.hc h;obtain ⟨_,cE,g3,h⟩:=PR.hc h;obtain ⟨_,eb,g4,h⟩:=PR.hc h;cases h;have:=(kQ (by decide) g2).1;have:=(oS g3).1;have:=(kQ (by decide) g4).1;omega
 ·obtain ⟨_,bM,g2,h⟩:=PR.hc h;cases h;have:=(BY f).2.1 _ _ _ _ _ g2;omega
theorem UM {f deep:Nat}{k n:Int}{m:aD}{xs:List aX}{l:List Tok}(aZ:3 * l.length≤f + 1):tq f deep k m n xs l ≠ .out:=by
 unfold tq;refine PR.fy (uA _ _) fun _ r g=>?_;have:=(oS g).1;split
 ·exact PR.fy (rL _ _) fun _ _ _=>PR.fy (uA _ _) fun _ _ _=>PR.fy (rL _ _) fun _ _ _ h=>by cases h
 ·exact PR.fy ((H3 f).2.1 _ _ _ (by omega)) fun _ _ _ h=>by cases h
theorem alh {f deep:Nat}{m:aD}{l r:List Tok}{s:aP}(h:uH f deep m l = .ok s r):r.length < l.length:=by
 unfold uH at h;split at h
 ·rename_i aj;obtain ⟨_,cn,g1,h⟩:=PR.hc h;have:=(kQ (by decide) g1).1;have:=hM (iZ aj);have:=UN h;omega
 split at h
 ·rename_i aj;obtain ⟨_,cn,g1,h⟩:=PR.hc h;obtain ⟨_,bM,g2,h⟩:=PR.hc h;have:=(BY f).2.1 _ _ _ _ _ g1;have:=(oS g2).1;have:=hM (iZ aj);have:=UN h;omega
 ·exact UN h
theorem alg {f deep:Nat}{m:aD}{l:List Tok}(aZ:3 * l.length≤f + 1):uH f deep m l ≠ .out:=by
 unfold uH;split
 ·rename_i aj;have:=hM (iZ aj);exact PR.fy (rL _ _) fun _ r g=>UM (by have:=(kQ (by decide) g).1;omega)
 split
 ·rename_i aj;have:=hM (iZ aj);exact PR.fy ((H3 f).2.1 _ _ _ (by omega)) fun _ r g=>PR.fy (uA _ _) fun _ bM g2=>UM (by have:=(BY f).2.1 _ _ _ _ _ g;have:=(oS g2).1;omega)
 ·exact UM aZ
theorem Ia:∀ f:Nat,(∀ deep l e r,pE f deep l = .ok e r→r.length < l.length)∧(∀ deep l e r,jL f deep l = .ok e r→r.length < l.length)∧(∀ deep l e r,pF f deep l = .ok e r→r.length < l.length)
 | 0=>⟨fun _ _ _ _ h=>(by rw [pE] at h;cases h),fun _ _ _ _ h=>(by rw [jL] at h;cases h),fun _ _ _ _ h=>(by rw [pF] at h;cases h)⟩
 | f + 1=>by
  obtain ⟨A,S,ae⟩:=Ia f;have af:=(BY f).2.1;refine ⟨fun deep l e r h=>?_,fun deep l e r h=>?_,fun deep l e r h=>?_⟩
  ·rw [pE] at h;split at h
   ·rename_i aj;have:=hM (iZ aj);obtain ⟨_,cn,g1,h⟩:=PR.hc h;obtain ⟨_,bM,g2,h⟩:=PR.hc h;obtain ⟨_,cE,g3,h⟩:=PR.hc h;obtain ⟨_,eb,g4,h⟩:=PR.hc h;have:=(oS g1).1;have:=af _ _ _ _ _ g2;have:=(oS g3).1;have:=S _ _ _ _ g4;split at h
    ·rename_i aK;have:=hM (iZ aK);obtain ⟨_,gn,g5,h⟩:=PR.hc h;cases h;have:=S _ _ _ _ g5;omega
    ·cases h;omega
   split at h
   ·rename_i aj;have:=hM (iZ aj);obtain ⟨_,cn,g1,h⟩:=PR.hc h;obtain ⟨_,bM,g2,h⟩:=PR.hc h;cases h;have:=(kQ (by decide) g1).1;have:=S _ _ _ _ g2;omega
   split at h
   ·rename_i aj;have:=hM (iZ aj);obtain ⟨_,cn,g1,h⟩:=PR.hc h;obtain ⟨_,bM,g2,h⟩:=PR.hc h;cases h;have:=(kQ (by decide) g1).1;have:=S _ _ _ _ g2;omega
   split at h
   ·rename_i aj;have:=hM (iZ aj);obtain ⟨_,cn,g1,h⟩:=PR.hc h;cases h;have:=(oS g1).1;omega
   ·obtain ⟨_,cn,g1,h⟩:=PR.hc h;obtain ⟨_,bM,g2,h⟩:=PR.hc h;obtain ⟨_,cE,g3,h⟩:=PR.hc h;cases h;have:=(kQ (by decide) g1).1;have:=alh g2;have:=(oS g3).1;omega
  ·rw [jL] at h;obtain ⟨_,cn,g1,h⟩:=PR.hc h;have:=(oS g1).1;split at h
   ·cases h
   ·have:=ae _ _ _ _ h;omega
  ·rw [pF] at h;split at h
   ·rename_i aj;cases h;exact hM (iZ aj)
   ·obtain ⟨_,cn,g1,h⟩:=PR.hc h;obtain ⟨_,bM,g2,h⟩:=PR.hc h;cases h;have:=A _ _ _ _ g1;have:=ae _ _ _ _ g2;omega
theorem UX:∀ f:Nat,(∀ deep l,3 * l.length + 1≤f→pE f deep l ≠ .out)∧(∀ deep l,3 * l.length + 1≤f→jL f deep l ≠ .out)∧(∀ deep l,3 * l.length + 2≤f→pF f deep l ≠ .out)
 | 0=>⟨fun _ _ h=>(by omega),fun _ _ h=>(by omega),fun _ _ h=>(by omega)⟩
 | f + 1=>by
  obtain ⟨A,S,ae⟩:=UX f;obtain ⟨ck,cm,cb⟩:=Ia f;have af:=(H3 f).2.1;have TS:=(BY f).2.1;refine ⟨fun deep l aZ=>?_,fun deep l aZ=>?_,fun deep l aZ=>?_⟩
  ·rw [pE];split
   ·rename_i aj;have:=hM (iZ aj);refine PR.fy (uA _ _) fun _ cn g1=>?_;have:=(oS g1).1;refine PR.fy (af _ _ _ (by omega)) fun _ bM g2=>?_;have:=TS _ _ _ _ _ g2;refine PR.fy (uA _ _) fun _ cE g3=>?_;have:=(oS g3).1;refine PR.fy (S _ _ (by omega)) fun _ eb g4=>?_;have:=cm _ _ _ _ g4;split
    ·rename_i aK;have:=hM (iZ aK);exact PR.fy (S _ _ (by omega)) fun _ _ _ h=>by cases h
    ·intro h;cases h
   split
   ·rename_i aj;have:=hM (iZ aj);refine PR.fy (rL _ _) fun _ cn g1=>?_;have:=(kQ (by decide) g1).1;exact PR.fy (S _ _ (by omega)) fun _ _ _ h=>by cases h
   split
   ·rename_i aj;have:=hM (iZ aj);refine PR.fy (rL _ _) fun _ cn g1=>?_;have:=(kQ (by decide) g1).1;exact PR.fy (S _ _ (by omega)) fun _ _ _ h=>by cases h
   split
   ·exact PR.fy (uA _ _) fun _ _ _ h=>by cases h
   ·refine PR.fy (rL _ _) fun _ cn g1=>?_;have:=(kQ (by decide) g1).1;exact PR.fy (alg (by omega)) fun _ _ _=>PR.fy (uA _ _) fun _ _ _ h=>by cases h
  ·rw [jL];refine PR.fy (uA _ _) fun _ cn g1=>?_;have:=(oS g1).1;split
   ·intro h;cases h
   ·exact ae _ _ (by omega)
  ·rw [pF];split
   ·intro h;cases h
   ·refine PR.fy (A _ _ (by omega)) fun _ cn g1=>?_;have:=ck _ _ _ _ g1;exact PR.fy (ae _ _ (by omega)) fun _ _ _ h=>by cases h
theorem QX {l r:List Tok}{d:Nm}(h:BU l = .ok d r):r.length < l.length:=by
 unfold BU at h;obtain ⟨_,cn,g1,h⟩:=PR.hc h;have:=(kQ (by decide) g1).1;split at h
 ·rename_i aj;cases h;have:=hM (iZ aj);omega
 split at h
 ·rename_i aj;cases h;have:=hM (iZ aj);omega
 split at h
 ·rename_i aj;cases h;have:=hM (iZ aj);omega
 ·cases h
theorem ahb (l:List Tok):BU l ≠ .out:=by
 unfold BU;refine PR.fy (rL _ _) fun _ cn g1=>?_
 (repeat' split)<;>(intro h;cases h)
theorem X8:∀ (f:Nat) (l r:List Tok) (bG:List Nm),oT f l = .ok bG r→r.length≤l.length
 | 0,l,r,bG,h=>by cases h
 | f + 1,l,r,bG,h=>by
  rw [oT] at h;split at h
  ·rename_i aj;obtain ⟨_,cn,g1,h⟩:=PR.hc h;obtain ⟨_,bM,g2,h⟩:=PR.hc h;cases h;have:=hM (iZ aj);have:=QX g1;have:=X8 f _ _ _ g2;omega
  ·cases h;exact Nat.le_refl _
theorem X7:∀ (f:Nat) (l:List Tok),l.length < f→oT f l ≠ .out
 | 0,l,h=>by omega
 | f + 1,l,h=>by
  rw [oT];split
  ·rename_i aj;have:=hM (iZ aj);refine PR.fy (ahb _) fun _ cn g1=>?_;have:=QX g1;exact PR.fy (X7 f _ (by omega)) fun _ _ _ h=>by cases h
  ·intro h;cases h
theorem acL:∀ (f:Nat) (l r:List Tok) (bG:List Nm),mS f l = .ok bG r→r.length≤l.length
 | 0,l,r,bG,h=>by cases h
 | f + 1,l,r,bG,h=>by
  rw [mS] at h;split at h
  ·rename_i aj;obtain ⟨_,cn,g1,h⟩:=PR.hc h;obtain ⟨_,bM,g2,h⟩:=PR.hc h;obtain ⟨_,cE,g3,h⟩:=PR.hc h;cases h;have:=hM (iZ aj);have:=(kQ (by decide) g1).1;have:=(kQ (by decide) g2).1;have:=acL f _ _ _ g3;omega
  ·cases h;exact Nat.le_refl _
theorem acK:∀ (f:Nat) (l:List Tok),l.length < f→mS f l ≠ .out
 | 0,l,h=>by omega
 | f + 1,l,h=>by
  rw [mS];split
  ·rename_i aj;have:=hM (iZ aj);refine PR.fy (rL _ _) fun _ cn g1=>?_;have:=(kQ (by decide) g1).1;refine PR.fy (rL _ _) fun _ bM g2=>?_;have:=(kQ (by decide) g2).1;exact PR.fy (acK f _ (by omega)) fun _ _ _ h=>by cases h
  ·intro h;cases h
theorem Vk {f:Nat}{b:Bool}{l r:List Tok}{t:dO}(h:vR f b l = .ok t r):r.length < l.length:=by
 unfold vR at h;obtain ⟨_,cn,g1,h⟩:=PR.hc h;obtain ⟨_,bM,g2,h⟩:=PR.hc h;obtain ⟨_,cE,g3,h⟩:=PR.hc h;have:=(kQ (by decide) g1).1;have:=(kQ (by decide) g2).1;have:=(kQ (by decide) g3).1;split at h
 ·obtain ⟨_,eb,g4,h⟩:=PR.hc h;obtain ⟨_,gn,g5,h⟩:=PR.hc h;cases h;have:=(kQ (by decide) g4).1;have:=(Ia f).2.1 _ _ _ _ g5;omega
 ·obtain ⟨_,gn,g5,h⟩:=PR.hc h;cases h;have:=(Ia f).2.1 _ _ _ _ g5;omega
theorem adX {f:Nat}{b:Bool}{l:List Tok}(aZ:3 * l.length≤f):vR f b l ≠ .out:=by
 unfold vR;refine PR.fy (rL _ _) fun _ cn g1=>?_;have:=(kQ (by decide) g1).1;refine PR.fy (rL _ _) fun _ bM g2=>?_;have:=(kQ (by decide) g2).1;refine PR.fy (rL _ _) fun _ cE g3=>?_;have:=(kQ (by decide) g3).1;split
 ·refine PR.fy (rL _ _) fun _ eb g4=>?_;have:=(kQ (by decide) g4).1;exact PR.fy ((UX f).2.1 _ _ (by omega)) fun _ _ _ h=>by cases h
 ·exact PR.fy ((UX f).2.1 _ _ (by omega)) fun _ _ _ h=>by cases h
theorem Vm:∀ (f:Nat) (l:List Tok),3 * l.length + 1≤f→nu f l ≠ .out
 | 0,l,h=>by omega
 | f + 1,l,h=>by
  rw [nu];split
  ·rename_i aj;have:=hM (iZ aj);refine PR.fy (adX (by omega)) fun _ cn g1=>?_;have:=Vk g1;exact PR.fy (Vm f _ (by omega)) fun _ _ _ h=>by cases h
  split
  ·rename_i aj;have:=hM (iZ aj);refine PR.fy (adX (by omega)) fun _ cn g1=>?_;have:=Vk g1;exact PR.fy (Vm f _ (by omega)) fun _ _ _ h=>by cases h
  ·intro h;cases h
theorem aoJ {f:Nat}{l:List Tok}(aZ:3 * l.length + 1≤f):BX f l ≠ .out:=by
 unfold BX;refine PR.fy (uA _ _) fun _ cn g1=>?_;have:=(oS g1).1;refine PR.fy (rL _ _) fun _ bM g2=>?_;have:=(kQ (by decide) g2).1;refine PR.fy (X7 f _ (by omega)) fun _ cE g3=>?_;have:=X8 f _ _ _ g3;refine PR.fy (acK f _ (by omega)) fun _ eb g4=>?_;have:=acL f _ _ _ g4;exact PR.fy (Vm f _ (by omega)) fun _ _ _ h=>by cases h
end Go.Eng.Sy
