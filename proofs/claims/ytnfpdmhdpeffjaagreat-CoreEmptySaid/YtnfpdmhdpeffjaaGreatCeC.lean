import Derived.Test.YtnfpdmhdpeffjaaGreatEpF
set_option linter.unusedSimpArgs false
set_option linter.unusedVariables false
/- The closed facts of the row of CoreEmpty. -/
namespace Go.Proofs.YtnfpdmhdpeffjaaGreat.coreEmpty
open Go.ChangeShapes Go.WideShapes Go.ChangeAt Go.RowKit
theorem closed : joinedFacts Tryz.prog 14 Tryz.f14 Rows.coreEmptySpec Rows.coreEmptyRow = true := by
 unfold joinedFacts;rw [facts.enter, facts.lifts, facts.make]
 kernel_rfl
end Go.Proofs.YtnfpdmhdpeffjaaGreat.coreEmpty
