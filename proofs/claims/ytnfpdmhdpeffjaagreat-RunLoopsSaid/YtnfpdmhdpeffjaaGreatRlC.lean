import Derived.Test.YtnfpdmhdpeffjaaGreatEpF
set_option linter.unusedSimpArgs false
set_option linter.unusedVariables false
/- The closed facts of the row of RunLoops. -/
namespace Go.Proofs.YtnfpdmhdpeffjaaGreat.runLoops
open Go.ChangeShapes Go.WideShapes Go.ChangeAt Go.RowKit
theorem closed : joinedFacts Tryz.prog 21 Tryz.f21 Rows.runLoopsSpec Rows.runLoopsRow = true := by
 unfold joinedFacts;rw [facts.enter, facts.lifts, facts.make]
 kernel_rfl
end Go.Proofs.YtnfpdmhdpeffjaaGreat.runLoops
