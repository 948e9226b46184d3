import Derived.Test.YtnhgipdlkcdeiaaDoorSdF
import Derived.KernelRfl
set_option linter.unusedSimpArgs false
set_option linter.unusedVariables false
/- The closed facts of the row of ShowApart. -/
namespace Go.Proofs.YtnhgipdlkcdeiaaDoor.showApart
open Go.ChangeShapes Go.WideShapes Go.ChangeAt Go.RowKit
set_option maxRecDepth 100000
theorem closed : joinedFacts Tryd.prog 3 Tryd.f3 Rows.showApartSpec Rows.showApartRow = true := by
  unfold joinedFacts
  rw [facts.enter, facts.lifts, facts.make]
  kernel_rfl
end Go.Proofs.YtnhgipdlkcdeiaaDoor.showApart
