import Derived.Test.YtnfpdmhdpeffjaaGreatCsR
import Derived.Test.YtnfpdmhdpeffjaaGreatCsC
set_option linter.unusedSimpArgs false
set_option linter.unusedVariables false
/- The row of CoreSides. -/
namespace Go.Proofs.YtnfpdmhdpeffjaaGreat.coreSides
open Go.ChangeShapes Go.WideShapes Go.ChangeAt Go.RowKit
theorem wrap : Tryz.f15.isWrapper Tryz.pinned.checked.prog Rows.coreSidesRow.wrapper Rows.coreSidesRow.mainSum := by unfold Func.isWrapper; first | (rw [if_pos (by decide +kernel)]; kernel_rfl) | (rw [if_neg (by decide +kernel)]; exact ⟨rfl, rfl⟩)
theorem inst : Tryz.f15.isInstance Tryz.pinned.checked.prog Rows.coreSidesRow.origin Rows.coreSidesRow.targs := of_decide_eq_true (by kernel_rfl)
theorem over : Rows.coreSidesRow.holds Tryz.pinned (OpenSpec.ofChange Rows.coreSidesSpec) :=
  OpenClaim.holds_of_wide 15 Tryz.f15 rfl rfl rfl rfl rfl rfl rfl ⟨rfl, rfl, rfl, rfl, rfl⟩ rfl rfl rfl rfl rfl (by kernel_rfl) Tryz.func15 closed
    inst wrap
    (fun os started H enc _ => lifted os started H enc)
theorem proved : Rows.CoreSidesSaid := over
end Go.Proofs.YtnfpdmhdpeffjaaGreat.coreSides
namespace Go.Proofs.YtnfpdmhdpeffjaaGreat
/-- The row, under a short name, for the claim. -/
theorem coreSides_holds : Rows.CoreSidesSaid := coreSides.proved
#print axioms coreSides_holds
end Go.Proofs.YtnfpdmhdpeffjaaGreat
