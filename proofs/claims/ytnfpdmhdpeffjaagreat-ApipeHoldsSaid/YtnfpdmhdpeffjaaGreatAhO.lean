import Derived.Test.YtnfpdmhdpeffjaaGreatAhR
import Derived.Test.YtnfpdmhdpeffjaaGreatAhC
set_option linter.unusedSimpArgs false
set_option linter.unusedVariables false
/- The row of ApipeHolds. -/
namespace Go.Proofs.YtnfpdmhdpeffjaaGreat.apipeHolds
open Go.ChangeShapes Go.WideShapes Go.ChangeAt Go.RowKit
theorem wrap : Tryz.f8.isWrapper Tryz.pinned.checked.prog Rows.apipeHoldsRow.wrapper Rows.apipeHoldsRow.mainSum := by unfold Func.isWrapper; first | (rw [if_pos (by decide +kernel)]; kernel_rfl) | (rw [if_neg (by decide +kernel)]; exact ⟨rfl, rfl⟩)
theorem inst : Tryz.f8.isInstance Tryz.pinned.checked.prog Rows.apipeHoldsRow.origin Rows.apipeHoldsRow.targs := of_decide_eq_true (by kernel_rfl)
theorem over : Rows.apipeHoldsRow.holds Tryz.pinned (OpenSpec.ofChange Rows.apipeHoldsSpec) :=
  OpenClaim.holds_of_wide 8 Tryz.f8 rfl rfl rfl rfl rfl rfl rfl ⟨rfl, rfl, rfl, rfl, rfl⟩ rfl rfl rfl rfl rfl (by kernel_rfl) Tryz.func8 closed
    inst wrap
    (fun os started H enc _ => lifted os started H enc)
theorem proved : Rows.ApipeHoldsSaid := over
end Go.Proofs.YtnfpdmhdpeffjaaGreat.apipeHolds
namespace Go.Proofs.YtnfpdmhdpeffjaaGreat
/-- The row, under a short name, for the claim. -/
theorem apipeHolds_holds : Rows.ApipeHoldsSaid := apipeHolds.proved
#print axioms apipeHolds_holds
end Go.Proofs.YtnfpdmhdpeffjaaGreat
