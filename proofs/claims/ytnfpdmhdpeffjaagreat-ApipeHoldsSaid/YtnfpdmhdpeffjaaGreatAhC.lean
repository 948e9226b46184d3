import Derived.Test.YtnfpdmhdpeffjaaGreatEpF
set_option linter.unusedSimpArgs false
set_option linter.unusedVariables false
/- The closed facts of the row of ApipeHolds. -/
namespace Go.Proofs.YtnfpdmhdpeffjaaGreat.apipeHolds
open Go.ChangeShapes Go.WideShapes Go.ChangeAt Go.RowKit
theorem closed : joinedFacts Tryz.prog 8 Tryz.f8 Rows.apipeHoldsSpec Rows.apipeHoldsRow = true := by
  unfold joinedFacts
  rw [facts.enter, facts.lifts, facts.make]
  kernel_rfl
end Go.Proofs.YtnfpdmhdpeffjaaGreat.apipeHolds
