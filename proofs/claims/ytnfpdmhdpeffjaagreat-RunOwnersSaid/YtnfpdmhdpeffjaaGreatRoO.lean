import Derived.Test.YtnfpdmhdpeffjaaGreatRoR
import Derived.Test.YtnfpdmhdpeffjaaGreatRoC
set_option linter.unusedSimpArgs false
set_option linter.unusedVariables false
/- The row of RunOwners. -/
namespace Go.Proofs.YtnfpdmhdpeffjaaGreat.runOwners
open Go.ChangeShapes Go.WideShapes Go.ChangeAt Go.RowKit
theorem wrap : Tryz.f20.isWrapper Tryz.pinned.checked.prog Rows.runOwnersRow.wrapper Rows.runOwnersRow.mainSum := by unfold Func.isWrapper; first | (rw [if_pos (by decide +kernel)]; kernel_rfl) | (rw [if_neg (by decide +kernel)]; exact ⟨rfl, rfl⟩)
theorem inst : Tryz.f20.isInstance Tryz.pinned.checked.prog Rows.runOwnersRow.origin Rows.runOwnersRow.targs := of_decide_eq_true (by kernel_rfl)
theorem over : Rows.runOwnersRow.holds Tryz.pinned (OpenSpec.ofChange Rows.runOwnersSpec) :=
 OpenClaim.holds_of_wide 20 Tryz.f20 rfl rfl rfl rfl rfl rfl rfl ⟨rfl, rfl, rfl, rfl, rfl⟩ rfl rfl rfl rfl rfl (by kernel_rfl) Tryz.func20 closed
  inst wrap
  (fun os started H enc _ => lifted os started H enc)
theorem proved : Rows.RunOwnersSaid := over
end Go.Proofs.YtnfpdmhdpeffjaaGreat.runOwners
namespace Go.Proofs.YtnfpdmhdpeffjaaGreat
theorem runOwners_holds : Rows.RunOwnersSaid := runOwners.proved
#print axioms runOwners_holds
end Go.Proofs.YtnfpdmhdpeffjaaGreat
