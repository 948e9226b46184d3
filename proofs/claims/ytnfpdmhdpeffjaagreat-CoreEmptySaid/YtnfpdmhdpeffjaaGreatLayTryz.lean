import Derived.Shelf.Sort.Plain
import Derived.Ground.Names2Prog
import Derived.Shelf.Slices.CompactI
import Derived.Shelf.Slices.In.SortNone
import Derived.Test.YtnfpdmhdpeffjaaGreatProg
set_option linter.unusedSimpArgs false
set_option linter.unusedVariables false
/- The contracts of slices.Sort and slices.Compact at this program. -/
namespace Go.Proofs
open Go.Shelf
end Go.Proofs
