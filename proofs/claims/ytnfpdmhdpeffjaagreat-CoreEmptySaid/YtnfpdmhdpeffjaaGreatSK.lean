import Derived.Test.YtnfpdmhdpeffjaaGreatK9
import Derived.Test.YtnfpdmhdpeffjaaGreatLayTryz
import Derived.Lib.SortBridge
import Derived.Lib.RowBridge
set_option linter.unusedSimpArgs false
set_option linter.unusedVariables false
/- slices.Sort of numbers: by the library's contract. -/
set_option maxRecDepth 100000
namespace Go.Proofs.Zz
open Go Go.Proofs Go.Proofs.Tryz Go.Sort Go.Shelf
end Go.Proofs.Zz

/- slices.Compact of numbers: by the library's contract. -/
set_option maxRecDepth 100000
namespace Go.Proofs.Zz
open Go Go.Proofs Go.Proofs.Tryz Go.Sort Go.Shelf
end Go.Proofs.Zz
