/-
  Part of a proof of the laws of layer 07 (reader): the laws.
  Conditions: none.
-/
import Derived.Test.YtjbjpooafphpnaaGreatDoorM3
set_option linter.unusedSimpArgs false
set_option linter.unusedVariables false
namespace Go.Eng.Sy
open Go Go.Eng Go.Proofs
mutual
def wS:aX→Nat
 |.mk _ _ _ _ args=>1+pB args
def pB:List aX→Nat
 |[]=>0
 |e::r=>wS e+pB r
end
mutual
def uF:aP→Nat
 |.mk _ _ _ _ args aU bz=>1+pB args+nF aU+nF bz
def nF:List aP→Nat
 |[]=>0
 |s::r=>uF s+nF r
end
theorem agX{t:dO}(h:js t=true):de t.name=true∧(0≤t.cB∧t.cB≤3)∧(1≤t.prio∧t.prio≤7)∧(0≤t.line∧t.line≤7)∧∀ s∈t.body,jx s 30:=by
 simp only[js,Bool.and_eq_true,decide_eq_true_eq,we,nU]at h;obtain⟨⟨⟨⟨A,S⟩,ae⟩,aB⟩,aG⟩:=h;exact⟨A,S,ae,by cases T:t.ga<;>simp[T]at aB<;>omega,fun s ak=>(Cl 30 s).1 (aG s ak)⟩
end Go.Eng.Sy
