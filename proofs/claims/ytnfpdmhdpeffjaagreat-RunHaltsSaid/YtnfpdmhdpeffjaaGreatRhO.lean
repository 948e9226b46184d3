import Derived.Test.YtnfpdmhdpeffjaaGreatRhR
import Derived.Test.YtnfpdmhdpeffjaaGreatRhC
set_option linter.unusedSimpArgs false
set_option linter.unusedVariables false
/- The row of RunHalts. -/
namespace Go.Proofs.YtnfpdmhdpeffjaaGreat.runHalts
open Go.ChangeShapes Go.WideShapes Go.ChangeAt Go.RowKit
theorem wrap : Tryz.f22.isWrapper Tryz.pinned.checked.prog Rows.runHaltsRow.wrapper Rows.runHaltsRow.mainSum := by unfold Func.isWrapper; first | (rw [if_pos (by decide +kernel)]; kernel_rfl) | (rw [if_neg (by decide +kernel)]; exact ⟨rfl, rfl⟩)
theorem inst : Tryz.f22.isInstance Tryz.pinned.checked.prog Rows.runHaltsRow.origin Rows.runHaltsRow.targs := of_decide_eq_true (by kernel_rfl)
theorem over : Rows.runHaltsRow.holds Tryz.pinned (OpenSpec.ofChange Rows.runHaltsSpec) :=
 OpenClaim.holds_of_wide 22 Tryz.f22 rfl rfl rfl rfl rfl rfl rfl ⟨rfl, rfl, rfl, rfl, rfl⟩ rfl rfl rfl rfl rfl (by kernel_rfl) Tryz.func22 closed
  inst wrap
  (fun os started H enc _ => lifted os started H enc)
theorem proved : Rows.RunHaltsSaid := over
end Go.Proofs.YtnfpdmhdpeffjaaGreat.runHalts
namespace Go.Proofs.YtnfpdmhdpeffjaaGreat
theorem runHalts_holds : Rows.RunHaltsSaid := runHalts.proved
#print axioms runHalts_holds
end Go.Proofs.YtnfpdmhdpeffjaaGreat
