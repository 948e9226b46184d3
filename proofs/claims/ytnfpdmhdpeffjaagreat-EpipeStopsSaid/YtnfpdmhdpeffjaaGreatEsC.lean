import Derived.Test.YtnfpdmhdpeffjaaGreatEpF
set_option linter.unusedSimpArgs false
set_option linter.unusedVariables false
/- The closed facts of the row of EpipeStops. -/
namespace Go.Proofs.YtnfpdmhdpeffjaaGreat.epipeStops
open Go.ChangeShapes Go.WideShapes Go.ChangeAt Go.RowKit
theorem closed : joinedFacts Tryz.prog 6 Tryz.f6 Rows.epipeStopsSpec Rows.epipeStopsRow = true := by
  unfold joinedFacts
  rw [facts.enter, facts.lifts, facts.make]
  kernel_rfl
end Go.Proofs.YtnfpdmhdpeffjaaGreat.epipeStops
