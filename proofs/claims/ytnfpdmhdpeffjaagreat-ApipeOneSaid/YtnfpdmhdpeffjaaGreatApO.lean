import Derived.Test.YtnfpdmhdpeffjaaGreatApR
import Derived.Test.YtnfpdmhdpeffjaaGreatApC
set_option linter.unusedSimpArgs false
set_option linter.unusedVariables false
/- The row of ApipeOne. -/
namespace Go.Proofs.YtnfpdmhdpeffjaaGreat.apipeOne
open Go.ChangeShapes Go.WideShapes Go.ChangeAt Go.RowKit
theorem wrap : Tryz.f7.isWrapper Tryz.pinned.checked.prog Rows.apipeOneRow.wrapper Rows.apipeOneRow.mainSum := by unfold Func.isWrapper; first | (rw [if_pos (by decide +kernel)]; kernel_rfl) | (rw [if_neg (by decide +kernel)]; exact ⟨rfl, rfl⟩)
theorem inst : Tryz.f7.isInstance Tryz.pinned.checked.prog Rows.apipeOneRow.origin Rows.apipeOneRow.targs := of_decide_eq_true (by kernel_rfl)
theorem over : Rows.apipeOneRow.holds Tryz.pinned (OpenSpec.ofChange Rows.apipeOneSpec) :=
  OpenClaim.holds_of_wide 7 Tryz.f7 rfl rfl rfl rfl rfl rfl rfl ⟨rfl, rfl, rfl, rfl, rfl⟩ rfl rfl rfl rfl rfl (by kernel_rfl) Tryz.func7 closed
    inst wrap
    (fun os started H enc _ => lifted os started H enc)
theorem proved : Rows.ApipeOneSaid := over
end Go.Proofs.YtnfpdmhdpeffjaaGreat.apipeOne
namespace Go.Proofs.YtnfpdmhdpeffjaaGreat
/-- The row, under a short name, for the claim. -/
theorem apipeOne_holds : Rows.ApipeOneSaid := apipeOne.proved
#print axioms apipeOne_holds
end Go.Proofs.YtnfpdmhdpeffjaaGreat
