import Derived.Test.YtnfpdmhdpeffjaaGreatCrR
import Derived.Test.YtnfpdmhdpeffjaaGreatCrC
set_option linter.unusedSimpArgs false
set_option linter.unusedVariables false
/- The row of CoreReached. -/
namespace Go.Proofs.YtnfpdmhdpeffjaaGreat.coreReached
open Go.ChangeShapes Go.WideShapes Go.ChangeAt Go.RowKit
theorem wrap : Tryz.f12.isWrapper Tryz.pinned.checked.prog Rows.coreReachedRow.wrapper Rows.coreReachedRow.mainSum := by unfold Func.isWrapper; first | (rw [if_pos (by decide +kernel)]; kernel_rfl) | (rw [if_neg (by decide +kernel)]; exact ⟨rfl, rfl⟩)
theorem inst : Tryz.f12.isInstance Tryz.pinned.checked.prog Rows.coreReachedRow.origin Rows.coreReachedRow.targs := of_decide_eq_true (by kernel_rfl)
theorem over : Rows.coreReachedRow.holds Tryz.pinned (OpenSpec.ofChange Rows.coreReachedSpec) :=
 OpenClaim.holds_of_wide 12 Tryz.f12 rfl rfl rfl rfl rfl rfl rfl ⟨rfl, rfl, rfl, rfl, rfl⟩ rfl rfl rfl rfl rfl (by kernel_rfl) Tryz.func12 closed
  inst wrap
  (fun os started H enc _ => lifted os started H enc)
theorem proved : Rows.CoreReachedSaid := over
end Go.Proofs.YtnfpdmhdpeffjaaGreat.coreReached
namespace Go.Proofs.YtnfpdmhdpeffjaaGreat
theorem coreReached_holds : Rows.CoreReachedSaid := coreReached.proved
#print axioms coreReached_holds
end Go.Proofs.YtnfpdmhdpeffjaaGreat
