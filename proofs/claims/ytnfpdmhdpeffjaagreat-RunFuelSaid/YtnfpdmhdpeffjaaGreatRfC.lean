import Derived.Test.YtnfpdmhdpeffjaaGreatEpF
set_option linter.unusedSimpArgs false
set_option linter.unusedVariables false
/- The closed facts of the row of RunFuel. -/
namespace Go.Proofs.YtnfpdmhdpeffjaaGreat.runFuel
open Go.ChangeShapes Go.WideShapes Go.ChangeAt Go.RowKit
theorem closed : joinedFacts Tryz.prog 19 Tryz.f19 Rows.runFuelSpec Rows.runFuelRow = true := by
 unfold joinedFacts
 rw [facts.enter, facts.lifts, facts.make]
 kernel_rfl
end Go.Proofs.YtnfpdmhdpeffjaaGreat.runFuel
