import Derived.Test.YtnfpdmhdpeffjaaGreatEpF
set_option linter.unusedSimpArgs false
set_option linter.unusedVariables false
/- The closed facts of the row of CoreWrites. -/
namespace Go.Proofs.YtnfpdmhdpeffjaaGreat.coreWrites
open Go.ChangeShapes Go.WideShapes Go.ChangeAt Go.RowKit
theorem closed : joinedFacts Tryz.prog 13 Tryz.f13 Rows.coreWritesSpec Rows.coreWritesRow = true := by
  unfold joinedFacts
  rw [facts.enter, facts.lifts, facts.make]
  kernel_rfl
end Go.Proofs.YtnfpdmhdpeffjaaGreat.coreWrites
