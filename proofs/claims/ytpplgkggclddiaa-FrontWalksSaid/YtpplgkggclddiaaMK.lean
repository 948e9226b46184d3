import Derived.Test.YtpplgkggclddiaaMJ
import Derived.Test.YtpplgkggclddiaaMH
set_option linter.unusedSimpArgs false
set_option linter.unusedVariables false
/- A cycle of the core, word for word: the program's and the document's; whether it is over. -/
set_option maxRecDepth 100000
namespace Go.Proofs.Zz
open Go
variable {N:Nat}
/-! What the memory's cycle turns -/
theorem rdB_U32 (a:Int) (m:List Int):∀ n,U32 (rdB a m n)
 | 0=>⟨by show (0:Int)≤0; omega,by show (0:Int)≤4294967295; omega⟩
 | n+1=>w_U32 _
theorem loadV_U32 (m:List Int) (op a:Int):U32 (loadV m op a):=by
 unfold loadV;split
 ·
  split
  · exact sign_U32 op (rdB_U32 _ _ _)
  · exact ⟨by show (0:Int)≤0; omega,by show (0:Int)≤4294967295; omega⟩
 · exact ⟨by show (0:Int)≤0; omega,by show (0:Int)≤4294967295; omega⟩
/-! Over -/
end Go.Proofs.Zz

/- What a cycle does to any state, and whether it is over: the reference law's answer. -/
set_option maxRecDepth 100000
namespace Go.Proofs.Zz
open Go
variable {N:Nat}
end Go.Proofs.Zz

/- From a program's beginning on each state may be, and what is over stays: the reference law's answer. -/
set_option maxRecDepth 100000
namespace Go.Proofs.Zz
open Go
variable {N:Nat}
/-! What is over stays over -/
end Go.Proofs.Zz
