import Derived.Test.YtnfpdmhdpeffjaaGreatEpF
set_option linter.unusedSimpArgs false
set_option linter.unusedVariables false
/- The closed facts of the row of RunTells. -/
namespace Go.Proofs.YtnfpdmhdpeffjaaGreat.runTells
open Go.ChangeShapes Go.WideShapes Go.ChangeAt Go.RowKit
theorem closed : joinedFacts Tryz.prog 17 Tryz.f17 Rows.runTellsSpec Rows.runTellsRow = true := by
 unfold joinedFacts;rw [facts.enter, facts.lifts, facts.make]
 kernel_rfl
end Go.Proofs.YtnfpdmhdpeffjaaGreat.runTells
