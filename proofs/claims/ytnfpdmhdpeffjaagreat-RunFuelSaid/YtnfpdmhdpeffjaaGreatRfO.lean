import Derived.Test.YtnfpdmhdpeffjaaGreatRfR
import Derived.Test.YtnfpdmhdpeffjaaGreatRfC
set_option linter.unusedSimpArgs false
set_option linter.unusedVariables false
/- The row of RunFuel. -/
namespace Go.Proofs.YtnfpdmhdpeffjaaGreat.runFuel
open Go.ChangeShapes Go.WideShapes Go.ChangeAt Go.RowKit
theorem wrap : Tryz.f19.isWrapper Tryz.pinned.checked.prog Rows.runFuelRow.wrapper Rows.runFuelRow.mainSum := by unfold Func.isWrapper; first | (rw [if_pos (by decide +kernel)]; kernel_rfl) | (rw [if_neg (by decide +kernel)]; exact ⟨rfl, rfl⟩)
theorem inst : Tryz.f19.isInstance Tryz.pinned.checked.prog Rows.runFuelRow.origin Rows.runFuelRow.targs := of_decide_eq_true (by kernel_rfl)
theorem over : Rows.runFuelRow.holds Tryz.pinned (OpenSpec.ofChange Rows.runFuelSpec) :=
 OpenClaim.holds_of_wide 19 Tryz.f19 rfl rfl rfl rfl rfl rfl rfl ⟨rfl, rfl, rfl, rfl, rfl⟩ rfl rfl rfl rfl rfl (by kernel_rfl) Tryz.func19 closed
  inst wrap
  (fun os started H enc _ => lifted os started H enc)
theorem proved : Rows.RunFuelSaid := over
end Go.Proofs.YtnfpdmhdpeffjaaGreat.runFuel
namespace Go.Proofs.YtnfpdmhdpeffjaaGreat
theorem runFuel_holds : Rows.RunFuelSaid := runFuel.proved
#print axioms runFuel_holds
end Go.Proofs.YtnfpdmhdpeffjaaGreat
