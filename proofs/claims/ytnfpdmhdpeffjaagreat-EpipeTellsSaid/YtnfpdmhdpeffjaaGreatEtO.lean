import Derived.Test.YtnfpdmhdpeffjaaGreatEtR
import Derived.Test.YtnfpdmhdpeffjaaGreatEtC
set_option linter.unusedSimpArgs false
set_option linter.unusedVariables false
/- The row of EpipeTells. -/
namespace Go.Proofs.YtnfpdmhdpeffjaaGreat.epipeTells
open Go.ChangeShapes Go.WideShapes Go.ChangeAt Go.RowKit
theorem wrap : Tryz.f3.isWrapper Tryz.pinned.checked.prog Rows.epipeTellsRow.wrapper Rows.epipeTellsRow.mainSum := by unfold Func.isWrapper; first | (rw [if_pos (by decide +kernel)]; kernel_rfl) | (rw [if_neg (by decide +kernel)]; exact ⟨rfl, rfl⟩)
theorem inst : Tryz.f3.isInstance Tryz.pinned.checked.prog Rows.epipeTellsRow.origin Rows.epipeTellsRow.targs := of_decide_eq_true (by kernel_rfl)
theorem over : Rows.epipeTellsRow.holds Tryz.pinned (OpenSpec.ofChange Rows.epipeTellsSpec) :=
  OpenClaim.holds_of_wide 3 Tryz.f3 rfl rfl rfl rfl rfl rfl rfl ⟨rfl, rfl, rfl, rfl, rfl⟩ rfl rfl rfl rfl rfl (by kernel_rfl) Tryz.func3 closed
    inst wrap
    (fun os started H enc _ => lifted os started H enc)
theorem proved : Rows.EpipeTellsSaid := over
end Go.Proofs.YtnfpdmhdpeffjaaGreat.epipeTells
namespace Go.Proofs.YtnfpdmhdpeffjaaGreat
/-- The row, under a short name, for the claim. -/
theorem epipeTells_holds : Rows.EpipeTellsSaid := epipeTells.proved
#print axioms epipeTells_holds
end Go.Proofs.YtnfpdmhdpeffjaaGreat
