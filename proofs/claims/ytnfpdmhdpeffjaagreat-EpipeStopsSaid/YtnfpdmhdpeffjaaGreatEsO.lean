import Derived.Test.YtnfpdmhdpeffjaaGreatEsR
import Derived.Test.YtnfpdmhdpeffjaaGreatEsC
set_option linter.unusedSimpArgs false
set_option linter.unusedVariables false
/- The row of EpipeStops. -/
namespace Go.Proofs.YtnfpdmhdpeffjaaGreat.epipeStops
open Go.ChangeShapes Go.WideShapes Go.ChangeAt Go.RowKit
theorem wrap : Tryz.f6.isWrapper Tryz.pinned.checked.prog Rows.epipeStopsRow.wrapper Rows.epipeStopsRow.mainSum := by unfold Func.isWrapper; first | (rw [if_pos (by decide +kernel)]; kernel_rfl) | (rw [if_neg (by decide +kernel)]; exact ⟨rfl, rfl⟩)
theorem inst : Tryz.f6.isInstance Tryz.pinned.checked.prog Rows.epipeStopsRow.origin Rows.epipeStopsRow.targs := of_decide_eq_true (by kernel_rfl)
theorem over : Rows.epipeStopsRow.holds Tryz.pinned (OpenSpec.ofChange Rows.epipeStopsSpec) :=
  OpenClaim.holds_of_wide 6 Tryz.f6 rfl rfl rfl rfl rfl rfl rfl ⟨rfl, rfl, rfl, rfl, rfl⟩ rfl rfl rfl rfl rfl (by kernel_rfl) Tryz.func6 closed
    inst wrap
    (fun os started H enc _ => lifted os started H enc)
theorem proved : Rows.EpipeStopsSaid := over
end Go.Proofs.YtnfpdmhdpeffjaaGreat.epipeStops
namespace Go.Proofs.YtnfpdmhdpeffjaaGreat
/-- The row, under a short name, for the claim. -/
theorem epipeStops_holds : Rows.EpipeStopsSaid := epipeStops.proved
#print axioms epipeStops_holds
end Go.Proofs.YtnfpdmhdpeffjaaGreat
