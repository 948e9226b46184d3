import Derived.Test.YtnfpdmhdpeffjaaGreatEpF
set_option linter.unusedSimpArgs false
set_option linter.unusedVariables false
/- The closed facts of the row of ApipeSlips. -/
namespace Go.Proofs.YtnfpdmhdpeffjaaGreat.apipeSlips
open Go.ChangeShapes Go.WideShapes Go.ChangeAt Go.RowKit
theorem closed : joinedFacts Tryz.prog 9 Tryz.f9 Rows.apipeSlipsSpec Rows.apipeSlipsRow = true := by
  unfold joinedFacts
  rw [facts.enter, facts.lifts, facts.make]
  kernel_rfl
end Go.Proofs.YtnfpdmhdpeffjaaGreat.apipeSlips
