import Derived.Test.YtpplgkggclddiaaMG
set_option linter.unusedSimpArgs false
set_option linter.unusedVariables false
/- Sides stay within their bounds. -/
set_option maxRecDepth 100000
namespace Go.Proofs.Zz
open Go
variable {N:Nat}
end Go.Proofs.Zz

/- A state that may be stays so in E's cycle. -/
set_option maxRecDepth 100000
namespace Go.Proofs.Zz
open Go
variable {N:Nat}
end Go.Proofs.Zz

/- A state that may be stays so in A's cycle. -/
set_option maxRecDepth 100000
namespace Go.Proofs.Zz
open Go
variable {N:Nat}
theorem size_of {op:Int} (h:26≤op∧op≤33):sizeM op = 1∨sizeM op = 2∨sizeM op = 4:=by
 have:op = 26∨op = 27∨op = 28∨op = 29∨op = 30∨op = 31∨op = 32∨op = 33:=by omega
 rcases this with rfl | rfl | rfl | rfl | rfl | rfl | rfl | rfl <;> decide
section
variable {s:api_Split} {B D R:Int}
end
end Go.Proofs.Zz

/- A state that may be stays so in the memory's cycle and when a store is sent. -/
set_option maxRecDepth 100000
namespace Go.Proofs.Zz
open Go
variable {N:Nat}
section
variable {s:api_Split} {B D R:Int}
end
end Go.Proofs.Zz

/- Each side does no more cells than there were cycles: the reference law's answer. -/
set_option maxRecDepth 100000
namespace Go.Proofs.Zz
open Go
variable {N:Nat}
/-! How many are at work -/
section
variable (s:api_Split)
end
end Go.Proofs.Zz
