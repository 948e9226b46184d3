import Derived.Test.YtnfpdmhdpeffjaaGreatRsR
import Derived.Test.YtnfpdmhdpeffjaaGreatRsC
set_option linter.unusedSimpArgs false
set_option linter.unusedVariables false
/- The row of RunSame. -/
namespace Go.Proofs.YtnfpdmhdpeffjaaGreat.runSame
open Go.ChangeShapes Go.WideShapes Go.ChangeAt Go.RowKit
theorem wrap : Tryz.f18.isWrapper Tryz.pinned.checked.prog Rows.runSameRow.wrapper Rows.runSameRow.mainSum := by unfold Func.isWrapper; first | (rw [if_pos (by decide +kernel)]; kernel_rfl) | (rw [if_neg (by decide +kernel)]; exact ⟨rfl, rfl⟩)
theorem inst : Tryz.f18.isInstance Tryz.pinned.checked.prog Rows.runSameRow.origin Rows.runSameRow.targs := of_decide_eq_true (by kernel_rfl)
theorem over : Rows.runSameRow.holds Tryz.pinned (OpenSpec.ofChange Rows.runSameSpec) :=
 OpenClaim.holds_of_wide 18 Tryz.f18 rfl rfl rfl rfl rfl rfl rfl ⟨rfl, rfl, rfl, rfl, rfl⟩ rfl rfl rfl rfl rfl (by kernel_rfl) Tryz.func18 closed
  inst wrap
  (fun os started H enc _ => lifted os started H enc)
theorem proved : Rows.RunSameSaid := over
end Go.Proofs.YtnfpdmhdpeffjaaGreat.runSame
namespace Go.Proofs.YtnfpdmhdpeffjaaGreat
theorem runSame_holds : Rows.RunSameSaid := runSame.proved
#print axioms runSame_holds
end Go.Proofs.YtnfpdmhdpeffjaaGreat
