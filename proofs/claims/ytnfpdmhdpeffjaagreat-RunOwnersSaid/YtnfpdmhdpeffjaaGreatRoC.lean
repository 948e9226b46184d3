import Derived.Test.YtnfpdmhdpeffjaaGreatEpF
set_option linter.unusedSimpArgs false
set_option linter.unusedVariables false
/- The closed facts of the row of RunOwners. -/
namespace Go.Proofs.YtnfpdmhdpeffjaaGreat.runOwners
open Go.ChangeShapes Go.WideShapes Go.ChangeAt Go.RowKit
theorem closed : joinedFacts Tryz.prog 20 Tryz.f20 Rows.runOwnersSpec Rows.runOwnersRow = true := by
 unfold joinedFacts;rw [facts.enter, facts.lifts, facts.make]
 kernel_rfl
end Go.Proofs.YtnfpdmhdpeffjaaGreat.runOwners
