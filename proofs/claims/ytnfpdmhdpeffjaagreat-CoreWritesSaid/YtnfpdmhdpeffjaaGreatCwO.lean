import Derived.Test.YtnfpdmhdpeffjaaGreatCwR
import Derived.Test.YtnfpdmhdpeffjaaGreatCwC
set_option linter.unusedSimpArgs false
set_option linter.unusedVariables false
/- The row of CoreWrites. -/
namespace Go.Proofs.YtnfpdmhdpeffjaaGreat.coreWrites
open Go.ChangeShapes Go.WideShapes Go.ChangeAt Go.RowKit
theorem wrap : Tryz.f13.isWrapper Tryz.pinned.checked.prog Rows.coreWritesRow.wrapper Rows.coreWritesRow.mainSum := by unfold Func.isWrapper; first | (rw [if_pos (by decide +kernel)]; kernel_rfl) | (rw [if_neg (by decide +kernel)]; exact ⟨rfl, rfl⟩)
theorem inst : Tryz.f13.isInstance Tryz.pinned.checked.prog Rows.coreWritesRow.origin Rows.coreWritesRow.targs := of_decide_eq_true (by kernel_rfl)
theorem over : Rows.coreWritesRow.holds Tryz.pinned (OpenSpec.ofChange Rows.coreWritesSpec) :=
  OpenClaim.holds_of_wide 13 Tryz.f13 rfl rfl rfl rfl rfl rfl rfl ⟨rfl, rfl, rfl, rfl, rfl⟩ rfl rfl rfl rfl rfl (by kernel_rfl) Tryz.func13 closed
    inst wrap
    (fun os started H enc _ => lifted os started H enc)
theorem proved : Rows.CoreWritesSaid := over
end Go.Proofs.YtnfpdmhdpeffjaaGreat.coreWrites
namespace Go.Proofs.YtnfpdmhdpeffjaaGreat
/-- The row, under a short name, for the claim. -/
theorem coreWrites_holds : Rows.CoreWritesSaid := coreWrites.proved
#print axioms coreWrites_holds
end Go.Proofs.YtnfpdmhdpeffjaaGreat
