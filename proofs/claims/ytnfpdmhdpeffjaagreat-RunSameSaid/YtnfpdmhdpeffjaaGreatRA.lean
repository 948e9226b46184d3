import Derived.Test.YtnfpdmhdpeffjaaGreatMX
import Derived.Test.YtnfpdmhdpeffjaaGreatEnhS
import Derived.KernelRfl
import Derived.Test.YtnfpdmhdpeffjaaGreatMG
set_option linter.unusedSimpArgs false
set_option linter.unusedVariables false
set_option maxRecDepth 100000
namespace Go.Proofs.Zz
open Go
abbrev tCfg:Ty:=.pair tI (.pair tI (.pair tI (.pair tI (.pair tI (.pair tI (.pair tI (.pair tI (.pair tI Kk))))))))
abbrev tPrg:Ty:=.pair (.sl aK) (.pair tI (.pair (.sl tU) .unit))
section
variable {w:World}
end
section
open Go.ChangeShapes
variable {H:Type} {enc:TypeId × Value→H} {P:Program} {w:World} {base:Nat} {spare:Nat→Bool} {held:Bool}
end
abbrev tScr:Ty:=.pair (.sl tI) (.pair (.sl tI) .unit)
end Go.Proofs.Zz
