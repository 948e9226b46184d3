import Derived.Test.YtnfpdmhdpeffjaaGreatRlR
import Derived.Test.YtnfpdmhdpeffjaaGreatRlC
set_option linter.unusedSimpArgs false
set_option linter.unusedVariables false
/- The row of RunLoops. -/
namespace Go.Proofs.YtnfpdmhdpeffjaaGreat.runLoops
open Go.ChangeShapes Go.WideShapes Go.ChangeAt Go.RowKit
theorem wrap : Tryz.f21.isWrapper Tryz.pinned.checked.prog Rows.runLoopsRow.wrapper Rows.runLoopsRow.mainSum := by unfold Func.isWrapper; first | (rw [if_pos (by decide +kernel)]; kernel_rfl) | (rw [if_neg (by decide +kernel)]; exact ⟨rfl, rfl⟩)
theorem inst : Tryz.f21.isInstance Tryz.pinned.checked.prog Rows.runLoopsRow.origin Rows.runLoopsRow.targs := of_decide_eq_true (by kernel_rfl)
theorem over : Rows.runLoopsRow.holds Tryz.pinned (OpenSpec.ofChange Rows.runLoopsSpec) :=
 OpenClaim.holds_of_wide 21 Tryz.f21 rfl rfl rfl rfl rfl rfl rfl ⟨rfl, rfl, rfl, rfl, rfl⟩ rfl rfl rfl rfl rfl (by kernel_rfl) Tryz.func21 closed
  inst wrap
  (fun os started H enc _ => lifted os started H enc)
theorem proved : Rows.RunLoopsSaid := over
end Go.Proofs.YtnfpdmhdpeffjaaGreat.runLoops
namespace Go.Proofs.YtnfpdmhdpeffjaaGreat
theorem runLoops_holds : Rows.RunLoopsSaid := runLoops.proved
#print axioms runLoops_holds
end Go.Proofs.YtnfpdmhdpeffjaaGreat
