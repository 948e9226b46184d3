import Derived.Test.YtnfpdmhdpeffjaaGreatCeR
import Derived.Test.YtnfpdmhdpeffjaaGreatCeC
set_option linter.unusedSimpArgs false
set_option linter.unusedVariables false
/- The row of CoreEmpty. -/
namespace Go.Proofs.YtnfpdmhdpeffjaaGreat.coreEmpty
open Go.ChangeShapes Go.WideShapes Go.ChangeAt Go.RowKit
theorem wrap : Tryz.f14.isWrapper Tryz.pinned.checked.prog Rows.coreEmptyRow.wrapper Rows.coreEmptyRow.mainSum := by unfold Func.isWrapper; first | (rw [if_pos (by decide +kernel)]; kernel_rfl) | (rw [if_neg (by decide +kernel)]; exact ⟨rfl, rfl⟩)
theorem inst : Tryz.f14.isInstance Tryz.pinned.checked.prog Rows.coreEmptyRow.origin Rows.coreEmptyRow.targs := of_decide_eq_true (by kernel_rfl)
theorem over : Rows.coreEmptyRow.holds Tryz.pinned (OpenSpec.ofChange Rows.coreEmptySpec) :=
 OpenClaim.holds_of_wide 14 Tryz.f14 rfl rfl rfl rfl rfl rfl rfl ⟨rfl, rfl, rfl, rfl, rfl⟩ rfl rfl rfl rfl rfl (by kernel_rfl) Tryz.func14 closed
  inst wrap
  (fun os started H enc _ => lifted os started H enc)
theorem proved : Rows.CoreEmptySaid := over
end Go.Proofs.YtnfpdmhdpeffjaaGreat.coreEmpty
namespace Go.Proofs.YtnfpdmhdpeffjaaGreat
theorem coreEmpty_holds : Rows.CoreEmptySaid := coreEmpty.proved
#print axioms coreEmpty_holds
end Go.Proofs.YtnfpdmhdpeffjaaGreat
