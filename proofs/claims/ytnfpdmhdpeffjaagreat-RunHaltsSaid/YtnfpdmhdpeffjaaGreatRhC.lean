import Derived.Test.YtnfpdmhdpeffjaaGreatEpF
set_option linter.unusedSimpArgs false
set_option linter.unusedVariables false
/- The closed facts of the row of RunHalts. -/
namespace Go.Proofs.YtnfpdmhdpeffjaaGreat.runHalts
open Go.ChangeShapes Go.WideShapes Go.ChangeAt Go.RowKit
theorem closed : joinedFacts Tryz.prog 22 Tryz.f22 Rows.runHaltsSpec Rows.runHaltsRow = true := by
 unfold joinedFacts
 rw [facts.enter, facts.lifts, facts.make]
 kernel_rfl
end Go.Proofs.YtnfpdmhdpeffjaaGreat.runHalts
