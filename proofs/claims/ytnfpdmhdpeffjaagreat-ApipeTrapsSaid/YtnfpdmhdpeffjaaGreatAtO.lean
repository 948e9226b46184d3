import Derived.Test.YtnfpdmhdpeffjaaGreatAtR
import Derived.Test.YtnfpdmhdpeffjaaGreatAtC
set_option linter.unusedSimpArgs false
set_option linter.unusedVariables false
/- The row of ApipeTraps. -/
namespace Go.Proofs.YtnfpdmhdpeffjaaGreat.apipeTraps
open Go.ChangeShapes Go.WideShapes Go.ChangeAt Go.RowKit
theorem wrap : Tryz.f10.isWrapper Tryz.pinned.checked.prog Rows.apipeTrapsRow.wrapper Rows.apipeTrapsRow.mainSum := by unfold Func.isWrapper; first | (rw [if_pos (by decide +kernel)]; kernel_rfl) | (rw [if_neg (by decide +kernel)]; exact ⟨rfl, rfl⟩)
theorem inst : Tryz.f10.isInstance Tryz.pinned.checked.prog Rows.apipeTrapsRow.origin Rows.apipeTrapsRow.targs := of_decide_eq_true (by kernel_rfl)
theorem over : Rows.apipeTrapsRow.holds Tryz.pinned (OpenSpec.ofChange Rows.apipeTrapsSpec) :=
  OpenClaim.holds_of_wide 10 Tryz.f10 rfl rfl rfl rfl rfl rfl rfl ⟨rfl, rfl, rfl, rfl, rfl⟩ rfl rfl rfl rfl rfl (by kernel_rfl) Tryz.func10 closed
    inst wrap
    (fun os started H enc _ => lifted os started H enc)
theorem proved : Rows.ApipeTrapsSaid := over
end Go.Proofs.YtnfpdmhdpeffjaaGreat.apipeTraps
namespace Go.Proofs.YtnfpdmhdpeffjaaGreat
/-- The row, under a short name, for the claim. -/
theorem apipeTraps_holds : Rows.ApipeTrapsSaid := apipeTraps.proved
#print axioms apipeTraps_holds
end Go.Proofs.YtnfpdmhdpeffjaaGreat
