import Derived.Test.YtnfpdmhdpeffjaaGreatK12
import Derived.Test.YtnfpdmhdpeffjaaGreatEnhK
set_option linter.unusedSimpArgs false
set_option linter.unusedVariables false
/- The outer loop of split.With, that appends to slices within a slice's elements. -/
set_option maxRecDepth 100000
namespace Go.Proofs.Zz
open Go Go.Proofs.Tryz
end Go.Proofs.Zz

/- What functions of the program compute, as plain functions. -/
set_option maxRecDepth 100000
namespace Go.Proofs.Zz
open Go Go.Proofs.Tryz
variable (N:Nat)
noncomputable def f8b (N:Nat) (x0:a0s):OR:=gd (decide (0≤x0.Size∧x0.Size≤x0.Size∧x0.Size*((1:Nat):Int)≤((reach:Nat):Int)∧x0.Size≤((reach:Nat):Int)))<|some (0,(gD (.sl tU)).dv (laid (List.replicate x0.Size.toNat (0 :Int)) 0 (List.take (List.length (List.replicate x0.Size.toNat (0 :Int))) x0.Data)) [])
end Go.Proofs.Zz

/- What functions of the program compute, as plain functions. -/
set_option maxRecDepth 100000
namespace Go.Proofs.Zz
open Go Go.Proofs.Tryz
variable (N:Nat)
end Go.Proofs.Zz

/- What functions of the program compute, as plain functions. -/
set_option maxRecDepth 100000
namespace Go.Proofs.Zz
open Go Go.Proofs.Tryz
variable (N:Nat)
end Go.Proofs.Zz
