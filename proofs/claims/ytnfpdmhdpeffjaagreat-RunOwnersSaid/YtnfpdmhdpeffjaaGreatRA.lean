import Derived.Test.YtnfpdmhdpeffjaaGreatMX
import Derived.Test.YtnfpdmhdpeffjaaGreatEnhS
import Derived.KernelRfl
import Derived.Test.YtnfpdmhdpeffjaaGreatMG
set_option linter.unusedSimpArgs false
set_option linter.unusedVariables false
/- Rows of laws over (Config, Program, int, State): the law's call. -/
set_option maxRecDepth 100000
namespace Go.Proofs.Zz
open Go
abbrev tCfg:Ty:=.pair tI (.pair tI (.pair tI (.pair tI (.pair tI (.pair tI (.pair tI (.pair tI (.pair tI (.pair tI (.pair tI (.pair tI .unit)))))))))))
abbrev tPrg:Ty:=.pair (.sl a0y) (.pair tI (.pair (.sl tU) .unit))
section
variable {w:World}
end
end Go.Proofs.Zz

/- The row of ApipeHolds: five arguments taken apart, and the law's call. -/
set_option maxRecDepth 100000
namespace Go.Proofs.Zz
open Go
section
open Go.ChangeShapes
variable {H:Type} {enc:TypeId × Value→H} {P:Program} {w:World} {base:Nat} {spare:Nat→Bool} {held:Bool}
end
end Go.Proofs.Zz

/- Rows of laws over (Config, Program, int, Script, int): the law's call. -/
set_option maxRecDepth 100000
namespace Go.Proofs.Zz
open Go
abbrev tScr:Ty:=.pair (.sl tI) (.pair (.sl tI) .unit)
end Go.Proofs.Zz

/- Rows of laws over (Config, Program, int, Script, State): the law's call. -/
set_option maxRecDepth 100000
namespace Go.Proofs.Zz
open Go
end Go.Proofs.Zz
