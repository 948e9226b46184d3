import Derived.Test.YtnfpdmhdpeffjaaGreatEwR
import Derived.Test.YtnfpdmhdpeffjaaGreatEwC
set_option linter.unusedSimpArgs false
set_option linter.unusedVariables false
/- The row of EpipeWaits. -/
namespace Go.Proofs.YtnfpdmhdpeffjaaGreat.epipeWaits
open Go.ChangeShapes Go.WideShapes Go.ChangeAt Go.RowKit
theorem wrap : Tryz.f5.isWrapper Tryz.pinned.checked.prog Rows.epipeWaitsRow.wrapper Rows.epipeWaitsRow.mainSum := by unfold Func.isWrapper; first | (rw [if_pos (by decide +kernel)]; kernel_rfl) | (rw [if_neg (by decide +kernel)]; exact ⟨rfl, rfl⟩)
theorem inst : Tryz.f5.isInstance Tryz.pinned.checked.prog Rows.epipeWaitsRow.origin Rows.epipeWaitsRow.targs := of_decide_eq_true (by kernel_rfl)
theorem over : Rows.epipeWaitsRow.holds Tryz.pinned (OpenSpec.ofChange Rows.epipeWaitsSpec) :=
  OpenClaim.holds_of_wide 5 Tryz.f5 rfl rfl rfl rfl rfl rfl rfl ⟨rfl, rfl, rfl, rfl, rfl⟩ rfl rfl rfl rfl rfl (by kernel_rfl) Tryz.func5 closed
    inst wrap
    (fun os started H enc _ => lifted os started H enc)
theorem proved : Rows.EpipeWaitsSaid := over
end Go.Proofs.YtnfpdmhdpeffjaaGreat.epipeWaits
namespace Go.Proofs.YtnfpdmhdpeffjaaGreat
/-- The row, under a short name, for the claim. -/
theorem epipeWaits_holds : Rows.EpipeWaitsSaid := epipeWaits.proved
#print axioms epipeWaits_holds
end Go.Proofs.YtnfpdmhdpeffjaaGreat
