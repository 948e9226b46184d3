import Derived.Test.YtnfpdmhdpeffjaaGreatMX
import Derived.Test.YtnfpdmhdpeffjaaGreatEnhT
import Derived.KernelRfl
import Derived.Test.YtnfpdmhdpeffjaaGreatMG
set_option linter.unusedSimpArgs false
set_option linter.unusedVariables false
/- Rows of laws over (Config, Program, int, State): the law's call. -/
set_option maxRecDepth 100000
namespace Go.Proofs.Zz
open Go
abbrev tCfg:Ty:=.pair tI (.pair tI (.pair tI (.pair tI (.pair tI (.pair tI (.pair tI (.pair tI (.pair tI (.pair tI (.pair tI (.pair tI .unit)))))))))))
abbrev tPrg:Ty:=.pair (.sl a0y) (.pair tI (.pair (.sl tU) .unit))
abbrev tSide:Ty:=.pair (.ar 16 tW) (.pair (.ar 16 tI) (.pair (.pair tI (.pair tI (.pair tI .unit))) (.pair tI (.pair tB (.pair tI .unit)))))
abbrev tSta:Ty:=.pair tI (.pair tSide (.pair tSide (.pair (.sl a0k) (.pair (.sl tW) (.pair (.sl tW) (.pair (.sl tB) (.pair (.sl tB) (.pair (.sl a0t) (.pair (.sl a0j) (.pair (.sl tU) (.pair (.sl a0Q) (.pair (.pair tI (.pair tI (.pair tI .unit))) (.pair tI (.pair tI (.pair tI .unit)))))))))))))))
noncomputable def stOf (v:Den tSta):a0b:=a1t.to (v,())
section
variable {w:World}
end
end Go.Proofs.Zz

/- The row of ApipeHolds: five arguments taken apart, and the law's call. -/
set_option maxRecDepth 100000
namespace Go.Proofs.Zz
open Go
section
open Go.ChangeShapes
variable {H:Type} {enc:TypeId × Value→H} {P:Program} {w:World} {base:Nat} {spare:Nat→Bool} {held:Bool}
end
end Go.Proofs.Zz

/- Rows of laws over (Config, Program, int, Script, int): the law's call. -/
set_option maxRecDepth 100000
namespace Go.Proofs.Zz
open Go
abbrev tScr:Ty:=.pair (.sl tI) (.pair (.sl tI) .unit)
end Go.Proofs.Zz

/- Rows of laws over (Config, Program, int, Script, State): the law's call. -/
set_option maxRecDepth 100000
namespace Go.Proofs.Zz
open Go
theorem f1b {v:Den tSta} (h:wf tSta v):Wd (stOf v):=by
 have hu:∀ x:Int,(Lit.int .u32 x).wf = true→U32 x:=by
  intro x hx;simp only [Lit.wf,Bool.and_eq_true,decide_eq_true_eq] at hx;exact hx
 obtain ⟨_,⟨⟨_,a1⟩,⟨a2,_⟩,_⟩,⟨⟨_,b1⟩,⟨b2,_⟩,_⟩,l,q1,q2,_,_,s,_⟩:=h;refine ⟨⟨a2,fun r hr=>hu r (a1 r hr)⟩,⟨b2,fun r hr=>hu r (b1 r hr)⟩,fun e he=>hu _ (l.2 e he).2.2.1,fun e he=>hu _ (s.2 e he).2.2.2.2.1,fun e he=>hu _ (q1.2 e he),fun e he=>hu _ (q2.2 e he)⟩
end Go.Proofs.Zz
