import Derived.Test.YtnfpdmhdpeffjaaGreatXA
import Derived.Test.YtnfpdmhdpeffjaaGreatK9
import Derived.Test.YtnfpdmhdpeffjaaGreatK12
import Derived.Test.YtnfpdmhdpeffjaaGreatVK
set_option linter.unusedSimpArgs false
set_option linter.unusedVariables false
/- The program's checks of programs and owners are the reference's. -/
set_option maxRecDepth 100000
namespace Go.Proofs.Zz
open Go
variable {N:Nat}
/-! Programs that may be -/
/-! Owners -/
end Go.Proofs.Zz

/- The program's leaders and blocks are the reference's. -/
set_option maxRecDepth 100000
namespace Go.Proofs.Zz
open Go
variable {N:Nat}
/-! Leaders -/
def nextA (p:a0s) (i:Nat):List Int:=if endsI (codeM p i) = true∧i+1 < p.Code.length then [((i+1:Nat):Int)] else []
/-! A sorted list without doubles is told by what is in it -/
end Go.Proofs.Zz

/- The program's cells and blocks are the reference's. -/
set_option maxRecDepth 100000
namespace Go.Proofs.Zz
open Go
variable {N:Nat}
end Go.Proofs.Zz

/- The program's blocks are the reference's. -/
set_option maxRecDepth 100000
namespace Go.Proofs.Zz
open Go
variable {N:Nat}
end Go.Proofs.Zz
