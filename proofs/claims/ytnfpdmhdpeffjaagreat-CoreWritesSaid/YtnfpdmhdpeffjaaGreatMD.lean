import Derived.Test.YtnfpdmhdpeffjaaGreatMX
set_option linter.unusedSimpArgs false
set_option linter.unusedVariables false
/- With a trap noted no cell of its step, or a later one, is done: the model's law, and the reference law's answer. -/
set_option linter.unusedVariables false
set_option linter.unusedSimpArgs false
namespace Go.Proofs.Zz
open Go
variable {N : Nat}
/-! A settled place is settled -/
/-! Where E comes to -/
end Go.Proofs.Zz

/- The reference's operations. -/
set_option linter.unusedVariables false
set_option linter.unusedSimpArgs false
namespace Go.Proofs.Zz
open Go
variable {N : Nat}
end Go.Proofs.Zz

/- What E does in a cycle: the reference answers as the model says. -/
set_option linter.unusedVariables false
set_option linter.unusedSimpArgs false
namespace Go.Proofs.Zz
open Go
variable {N : Nat}
end Go.Proofs.Zz

/- What E names, whether it is free, what is noted, what a cycle of E does: the reference law's answer. -/
set_option linter.unusedVariables false
set_option linter.unusedSimpArgs false
namespace Go.Proofs.Zz
open Go
variable {N : Nat}
end Go.Proofs.Zz
