import Derived.Test.YtnfpdmhdpeffjaaGreatEpR
import Derived.Test.YtnfpdmhdpeffjaaGreatEpC
set_option linter.unusedSimpArgs false
set_option linter.unusedVariables false
/- The row of EpipeOne. -/
namespace Go.Proofs.YtnfpdmhdpeffjaaGreat.epipeOne
open Go.ChangeShapes Go.WideShapes Go.ChangeAt Go.RowKit
theorem wrap : Tryz.f4.isWrapper Tryz.pinned.checked.prog Rows.epipeOneRow.wrapper Rows.epipeOneRow.mainSum := by unfold Func.isWrapper; first | (rw [if_pos (by decide +kernel)]; kernel_rfl) | (rw [if_neg (by decide +kernel)]; exact ⟨rfl, rfl⟩)
theorem inst : Tryz.f4.isInstance Tryz.pinned.checked.prog Rows.epipeOneRow.origin Rows.epipeOneRow.targs := of_decide_eq_true (by kernel_rfl)
theorem over : Rows.epipeOneRow.holds Tryz.pinned (OpenSpec.ofChange Rows.epipeOneSpec) :=
  OpenClaim.holds_of_wide 4 Tryz.f4 rfl rfl rfl rfl rfl rfl rfl ⟨rfl, rfl, rfl, rfl, rfl⟩ rfl rfl rfl rfl rfl (by kernel_rfl) Tryz.func4 closed
    inst wrap
    (fun os started H enc _ => lifted os started H enc)
theorem proved : Rows.EpipeOneSaid := over
end Go.Proofs.YtnfpdmhdpeffjaaGreat.epipeOne
namespace Go.Proofs.YtnfpdmhdpeffjaaGreat
/-- The row, under a short name, for the claim. -/
theorem epipeOne_holds : Rows.EpipeOneSaid := epipeOne.proved
#print axioms epipeOne_holds
end Go.Proofs.YtnfpdmhdpeffjaaGreat
