import Derived.Test.YtnfpdmhdpeffjaaGreatEpF
set_option linter.unusedSimpArgs false
set_option linter.unusedVariables false
/- The closed facts of the row of CoreReached. -/
namespace Go.Proofs.YtnfpdmhdpeffjaaGreat.coreReached
open Go.ChangeShapes Go.WideShapes Go.ChangeAt Go.RowKit
theorem closed : joinedFacts Tryz.prog 12 Tryz.f12 Rows.coreReachedSpec Rows.coreReachedRow = true := by
 unfold joinedFacts
 rw [facts.enter, facts.lifts, facts.make]
 kernel_rfl
end Go.Proofs.YtnfpdmhdpeffjaaGreat.coreReached
