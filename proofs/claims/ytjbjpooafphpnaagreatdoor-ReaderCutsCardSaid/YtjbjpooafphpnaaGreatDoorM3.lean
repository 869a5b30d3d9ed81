/-
  Part of a proof of the laws of layer 07 (reader): the laws.
  Conditions: none.
-/
import Derived.Test.YtjbjpooafphpnaaGreatDoorW
import Derived.Test.YtjbjpooafphpnaaGreatDoorEc
import Derived.Test.YtjbjpooafphpnaaGreatDoorProg
import Derived.KernelRfl
set_option linter.unusedSimpArgs false
set_option linter.unusedVariables false
namespace Go.Eng.Sy
open Go Go.Eng Go.Proofs
theorem arp{s:aD}{ts:List Tok}{m:Int}(ag:s.length≤20000)(h:dc s 1=(ts,m,true)):jc s=(ts++[me m],0,0):=by
 unfold jc;rw[if_neg (by omega),ade,h];simp
section
variable {e:aX}{d:Nat}(h:e1 e d) (anH:d≤30){n:Nat}(hn:n≤60) (ag:(bU e).length≤10000)
include h anH hn ag
end
theorem apN(c n:Int)(hn:n≠0)(h:J)(Q:aT)(L:Q (I (pick c n)) h):bj Tryz.prog 13 [I c,I n] h Q:=by
 refine c7 (k:=2) atk rfl rfl rfl fun N=>?_;rw[eJ agm iL rfl];delta agm;replace L:=U L;have dw:c<0→Q (I ((IntKind.i64.wrap (0-IntKind.i64.wrap (c+1))).tmod n)) h:=fun aj=>by have:=L.h;rwa[pick,if_pos aj]at this
 have cN:¬ c<0→Q (I (c.tmod n)) h:=fun aj=>by have:=L.h;rwa[pick,if_neg aj]at this
 replace dw:=Hid.mk dw;replace cN:=Hid.mk cN;repeat' (first|simp only[aa,av,ay, *]|with_reducible (first|refine aap ?_ ?_|refine aaw ?_ ?_|refine aaq ?_ ?_|refine aax ?_ ?_)<;>intro aj)
 ·exact dw.h (by assumption)
 ·exact cN.h (by assumption)
end Go.Eng.Sy
