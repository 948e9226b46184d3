import Derived.Test.YtnfpdmhdpeffjaaGreatEpF
set_option linter.unusedSimpArgs false
set_option linter.unusedVariables false
/- The closed facts of the row of EpipeWaits. -/
namespace Go.Proofs.YtnfpdmhdpeffjaaGreat.epipeWaits
open Go.ChangeShapes Go.WideShapes Go.ChangeAt Go.RowKit
theorem closed : joinedFacts Tryz.prog 5 Tryz.f5 Rows.epipeWaitsSpec Rows.epipeWaitsRow = true := by
  unfold joinedFacts
  rw [facts.enter, facts.lifts, facts.make]
  kernel_rfl
end Go.Proofs.YtnfpdmhdpeffjaaGreat.epipeWaits
