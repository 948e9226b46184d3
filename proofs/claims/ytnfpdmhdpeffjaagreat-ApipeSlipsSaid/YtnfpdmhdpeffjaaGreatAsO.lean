import Derived.Test.YtnfpdmhdpeffjaaGreatAsR
import Derived.Test.YtnfpdmhdpeffjaaGreatAsC
set_option linter.unusedSimpArgs false
set_option linter.unusedVariables false
/- The row of ApipeSlips. -/
namespace Go.Proofs.YtnfpdmhdpeffjaaGreat.apipeSlips
open Go.ChangeShapes Go.WideShapes Go.ChangeAt Go.RowKit
theorem wrap : Tryz.f9.isWrapper Tryz.pinned.checked.prog Rows.apipeSlipsRow.wrapper Rows.apipeSlipsRow.mainSum := by unfold Func.isWrapper; first | (rw [if_pos (by decide +kernel)]; kernel_rfl) | (rw [if_neg (by decide +kernel)]; exact ⟨rfl, rfl⟩)
theorem inst : Tryz.f9.isInstance Tryz.pinned.checked.prog Rows.apipeSlipsRow.origin Rows.apipeSlipsRow.targs := of_decide_eq_true (by kernel_rfl)
theorem over : Rows.apipeSlipsRow.holds Tryz.pinned (OpenSpec.ofChange Rows.apipeSlipsSpec) :=
  OpenClaim.holds_of_wide 9 Tryz.f9 rfl rfl rfl rfl rfl rfl rfl ⟨rfl, rfl, rfl, rfl, rfl⟩ rfl rfl rfl rfl rfl (by kernel_rfl) Tryz.func9 closed
    inst wrap
    (fun os started H enc _ => lifted os started H enc)
theorem proved : Rows.ApipeSlipsSaid := over
end Go.Proofs.YtnfpdmhdpeffjaaGreat.apipeSlips
namespace Go.Proofs.YtnfpdmhdpeffjaaGreat
/-- The row, under a short name, for the claim. -/
theorem apipeSlips_holds : Rows.ApipeSlipsSaid := apipeSlips.proved
#print axioms apipeSlips_holds
end Go.Proofs.YtnfpdmhdpeffjaaGreat
