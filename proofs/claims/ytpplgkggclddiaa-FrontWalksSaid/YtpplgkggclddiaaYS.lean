import Derived.Test.YtpplgkggclddiaaYR
import Derived.Test.YtpplgkggclddiaaMK
set_option linter.unusedSimpArgs false
set_option linter.unusedVariables false
/- The core on the way: A's turn. -/
set_option maxRecDepth 100000
namespace Go.Proofs.Zz
open Go
section
variable {p:api_Program} {o:List Int} {s:api_Split} {m0:List Int} {n j m i k ka ke:Nat} {R R':List api_Request} {e hal:Bool} {pos:api_Pos} {dn:Int}
theorem form4_op {op:Int} (h:formM op = 4):26≤op∧op≤30:=by
 unfold formM at h
 repeat' split at h
 all_goals omega
theorem form5_op {op:Int} (h:formM op = 5):31≤op∧op≤33:=by
 unfold formM at h
 repeat' split at h
 all_goals omega
end
end Go.Proofs.Zz

/- The core on the way: A's turn, a cycle, the beginning. -/
set_option maxRecDepth 100000
namespace Go.Proofs.Zz
open Go
section
variable {p:api_Program} {o:List Int} {s:api_Split} {m0:List Int} {n j m i k ka ke:Nat} {R R':List api_Request} {e hal:Bool} {pos:api_Pos} {dn:Int}
theorem getD_rep (n:Nat) (t:Nat):(List.replicate n (0:Int)).getD t 0 = 0:=by
 rw [List.getD_eq_getElem?_getD,List.getElem?_replicate];split <;> rfl
end
end Go.Proofs.Zz
