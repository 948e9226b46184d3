import Derived.Test.YtpplgkggclddiaaXA
import Derived.Test.YtpplgkggclddiaaF2
set_option linter.unusedSimpArgs false
set_option linter.unusedVariables false
/- The program's checks of programs and owners are the reference's. -/
set_option maxRecDepth 100000
namespace Go.Proofs.Zz
open Go
variable {N:Nat}
/-! Programs that may be -/
/-! Owners -/
end Go.Proofs.Zz

/- The program's leaders and blocks are the reference's. -/
set_option maxRecDepth 100000
namespace Go.Proofs.Zz
open Go
variable {N:Nat}
/-! Leaders -/
/-! A sorted list without doubles is told by what is in it -/
end Go.Proofs.Zz

/- The program's cells and blocks are the reference's. -/
set_option maxRecDepth 100000
namespace Go.Proofs.Zz
open Go
variable {N:Nat}
end Go.Proofs.Zz

/- The program's blocks are the reference's. -/
set_option maxRecDepth 100000
namespace Go.Proofs.Zz
open Go
variable {N:Nat}
end Go.Proofs.Zz
