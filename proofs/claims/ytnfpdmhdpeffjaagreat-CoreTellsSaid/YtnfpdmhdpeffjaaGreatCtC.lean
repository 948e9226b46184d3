import Derived.Test.YtnfpdmhdpeffjaaGreatEpF
set_option linter.unusedSimpArgs false
set_option linter.unusedVariables false
/- The closed facts of the row of CoreTells. -/
namespace Go.Proofs.YtnfpdmhdpeffjaaGreat.coreTells
open Go.ChangeShapes Go.WideShapes Go.ChangeAt Go.RowKit
theorem closed : joinedFacts Tryz.prog 11 Tryz.f11 Rows.coreTellsSpec Rows.coreTellsRow = true := by
 unfold joinedFacts
 rw [facts.enter, facts.lifts, facts.make]
 kernel_rfl
end Go.Proofs.YtnfpdmhdpeffjaaGreat.coreTells
