import Derived.Test.YtnfpdmhdpeffjaaGreatCtR
import Derived.Test.YtnfpdmhdpeffjaaGreatCtC
set_option linter.unusedSimpArgs false
set_option linter.unusedVariables false
/- The row of CoreTells. -/
namespace Go.Proofs.YtnfpdmhdpeffjaaGreat.coreTells
open Go.ChangeShapes Go.WideShapes Go.ChangeAt Go.RowKit
theorem wrap : Tryz.f11.isWrapper Tryz.pinned.checked.prog Rows.coreTellsRow.wrapper Rows.coreTellsRow.mainSum := by unfold Func.isWrapper; first | (rw [if_pos (by decide +kernel)]; kernel_rfl) | (rw [if_neg (by decide +kernel)]; exact ⟨rfl, rfl⟩)
theorem inst : Tryz.f11.isInstance Tryz.pinned.checked.prog Rows.coreTellsRow.origin Rows.coreTellsRow.targs := of_decide_eq_true (by kernel_rfl)
theorem over : Rows.coreTellsRow.holds Tryz.pinned (OpenSpec.ofChange Rows.coreTellsSpec) :=
 OpenClaim.holds_of_wide 11 Tryz.f11 rfl rfl rfl rfl rfl rfl rfl ⟨rfl, rfl, rfl, rfl, rfl⟩ rfl rfl rfl rfl rfl (by kernel_rfl) Tryz.func11 closed
  inst wrap
  (fun os started H enc _ => lifted os started H enc)
theorem proved : Rows.CoreTellsSaid := over
end Go.Proofs.YtnfpdmhdpeffjaaGreat.coreTells
namespace Go.Proofs.YtnfpdmhdpeffjaaGreat
theorem coreTells_holds : Rows.CoreTellsSaid := coreTells.proved
#print axioms coreTells_holds
end Go.Proofs.YtnfpdmhdpeffjaaGreat
