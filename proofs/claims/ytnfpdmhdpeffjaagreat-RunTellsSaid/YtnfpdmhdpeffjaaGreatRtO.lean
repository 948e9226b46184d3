import Derived.Test.YtnfpdmhdpeffjaaGreatRtR
import Derived.Test.YtnfpdmhdpeffjaaGreatRtC
set_option linter.unusedSimpArgs false
set_option linter.unusedVariables false
/- The row of RunTells. -/
namespace Go.Proofs.YtnfpdmhdpeffjaaGreat.runTells
open Go.ChangeShapes Go.WideShapes Go.ChangeAt Go.RowKit
theorem wrap : Tryz.f17.isWrapper Tryz.pinned.checked.prog Rows.runTellsRow.wrapper Rows.runTellsRow.mainSum := by unfold Func.isWrapper; first | (rw [if_pos (by decide +kernel)]; kernel_rfl) | (rw [if_neg (by decide +kernel)]; exact ⟨rfl, rfl⟩)
theorem inst : Tryz.f17.isInstance Tryz.pinned.checked.prog Rows.runTellsRow.origin Rows.runTellsRow.targs := of_decide_eq_true (by kernel_rfl)
theorem over : Rows.runTellsRow.holds Tryz.pinned (OpenSpec.ofChange Rows.runTellsSpec) :=
 OpenClaim.holds_of_wide 17 Tryz.f17 rfl rfl rfl rfl rfl rfl rfl ⟨rfl, rfl, rfl, rfl, rfl⟩ rfl rfl rfl rfl rfl (by kernel_rfl) Tryz.func17 closed
  inst wrap
  (fun os started H enc _ => lifted os started H enc)
theorem proved : Rows.RunTellsSaid := over
end Go.Proofs.YtnfpdmhdpeffjaaGreat.runTells
namespace Go.Proofs.YtnfpdmhdpeffjaaGreat
theorem runTells_holds : Rows.RunTellsSaid := runTells.proved
#print axioms runTells_holds
end Go.Proofs.YtnfpdmhdpeffjaaGreat
