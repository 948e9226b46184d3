import Derived.Test.YtnfpdmhdpeffjaaGreatCpR
import Derived.Test.YtnfpdmhdpeffjaaGreatCpC
set_option linter.unusedSimpArgs false
set_option linter.unusedVariables false
/- The row of CoreTraps. -/
namespace Go.Proofs.YtnfpdmhdpeffjaaGreat.coreTraps
open Go.ChangeShapes Go.WideShapes Go.ChangeAt Go.RowKit
theorem wrap : Tryz.f16.isWrapper Tryz.pinned.checked.prog Rows.coreTrapsRow.wrapper Rows.coreTrapsRow.mainSum := by unfold Func.isWrapper; first | (rw [if_pos (by decide +kernel)]; kernel_rfl) | (rw [if_neg (by decide +kernel)]; exact ⟨rfl, rfl⟩)
theorem inst : Tryz.f16.isInstance Tryz.pinned.checked.prog Rows.coreTrapsRow.origin Rows.coreTrapsRow.targs := of_decide_eq_true (by kernel_rfl)
theorem over : Rows.coreTrapsRow.holds Tryz.pinned (OpenSpec.ofChange Rows.coreTrapsSpec) :=
 OpenClaim.holds_of_wide 16 Tryz.f16 rfl rfl rfl rfl rfl rfl rfl ⟨rfl, rfl, rfl, rfl, rfl⟩ rfl rfl rfl rfl rfl (by kernel_rfl) Tryz.func16 closed
  inst wrap
  (fun os started H enc _ => lifted os started H enc)
theorem proved : Rows.CoreTrapsSaid := over
end Go.Proofs.YtnfpdmhdpeffjaaGreat.coreTraps
namespace Go.Proofs.YtnfpdmhdpeffjaaGreat
theorem coreTraps_holds : Rows.CoreTrapsSaid := coreTraps.proved
#print axioms coreTraps_holds
end Go.Proofs.YtnfpdmhdpeffjaaGreat
