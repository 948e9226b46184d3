import Derived.Test.YtpplgkggclddiaaMI
set_option linter.unusedSimpArgs false
set_option linter.unusedVariables false
/- A store that is sent: the program's and the document's, alike. -/
set_option maxRecDepth 100000
namespace Go.Proofs.Zz
open Go
variable {N:Nat}
def maskM (v n:Int):Int:=if n = 1 then bitAnd .u32 v 255 else if n = 2 then bitAnd .u32 v 65535 else if n = 4 then v else 0
theorem Mask_is (v n:Int):saq_Mask N v n = some (0,gW.dv (maskM v n) []):=by
 unfold saq_Mask maskM;simp only [bi_if,beq_iff_eq]
 repeat' split
 all_goals rfl
theorem MaskR_is (v n:Int):r1_Mask N v n = some (0,gW.dv (maskM v n) []):=Mask_is (N:=N) v n
end Go.Proofs.Zz

/- Loads and stores on A: the document's, as the program's. -/
set_option maxRecDepth 100000
namespace Go.Proofs.Zz
open Go
variable {N:Nat}
end Go.Proofs.Zz

/- What A does in a cycle: the document's, as the program's. -/
set_option maxRecDepth 100000
namespace Go.Proofs.Zz
open Go
variable {N:Nat}
end Go.Proofs.Zz
