import Derived.Test.YtnfpdmhdpeffjaaGreatEpF
set_option linter.unusedSimpArgs false
set_option linter.unusedVariables false
/- The closed facts of the row of CoreTraps. -/
namespace Go.Proofs.YtnfpdmhdpeffjaaGreat.coreTraps
open Go.ChangeShapes Go.WideShapes Go.ChangeAt Go.RowKit
theorem closed : joinedFacts Tryz.prog 16 Tryz.f16 Rows.coreTrapsSpec Rows.coreTrapsRow = true := by
 unfold joinedFacts;rw [facts.enter, facts.lifts, facts.make]
 kernel_rfl
end Go.Proofs.YtnfpdmhdpeffjaaGreat.coreTraps
