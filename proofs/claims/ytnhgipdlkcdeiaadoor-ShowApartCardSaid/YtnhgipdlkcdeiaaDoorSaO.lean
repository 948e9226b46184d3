import Derived.Test.YtnhgipdlkcdeiaaDoorSaR
import Derived.Test.YtnhgipdlkcdeiaaDoorSaC
import Derived.Test.YtnhgipdlkcdeiaaDoorCards
import Derived.Test.YtnhgipdlkcdeiaaDoorTie
import Derived.JoinedOf
import Derived.SevenTiedAt
set_option linter.unusedSimpArgs false
set_option linter.unusedVariables false
/- The row of ShowApart, and its tied card. -/
namespace Go.Proofs.YtnhgipdlkcdeiaaDoor.showApart
open Go.ChangeShapes Go.WideShapes Go.ChangeAt Go.RowKit
set_option maxRecDepth 100000
theorem wrap : Tryd.f3.isWrapper Tryd.pinned.checked.prog Rows.showApartRow.wrapper Rows.showApartRow.mainSum := by unfold Func.isWrapper; first | (rw [if_pos (by decide +kernel)]; kernel_rfl) | (rw [if_neg (by decide +kernel)]; exact ⟨rfl, rfl⟩)
theorem inst : Tryd.f3.isInstance Tryd.pinned.checked.prog Rows.showApartRow.origin Rows.showApartRow.targs := of_decide_eq_true (by kernel_rfl)
theorem said : Rows.ShowApartSaid :=
  OpenClaim.holds_of_wide 3 Tryd.f3 rfl rfl rfl rfl rfl rfl rfl ⟨rfl, rfl, rfl, rfl, rfl⟩ rfl rfl rfl rfl rfl (by kernel_rfl) Tryd.func3 closed
    inst wrap
    (fun os started H enc _ => lifted os started H enc)
theorem stands : ∀ t, t = 23 ∨ t = 3 → Tryd.prog.wantsStandIn t = false := by
  rintro t (rfl | rfl)
  · kernel_rfl
  · kernel_rfl
theorem looks_is : true = Tryd.prog.looks [] := by kernel_rfl
theorem named3 : Tryd.prog.funcNamed "forerunner/forerunnerlaw9.ShowApart" = some 3 := by kernel_rfl
theorem card_holds : Claim7.holds Tryd.pinned (.plain (OpenSpec.ofChange Rows.showApartSpec)) Rows.showApartCard :=
  Claim7.holds_tied_plain_at .later [] [.data, .data, .data] true (true, "28de2e565a35cc4910738b30963d89e6118e41edcace81331f116b8451d8c887") true
    said (fun _ h => by cases h) (by kernel_rfl) (fun _ h => by cases h) showApart_row_tie rfl ⟨rfl, rfl⟩ (by kernel_rfl) rfl
    (fun f fn hf hfn => by
      obtain rfl : f = 3 := Option.some.inj (named3.symm.trans hf) |>.symm
      obtain rfl : fn = Tryd.f3 := (Option.some.inj (Tryd.func3.symm.trans hfn)).symm
      refine ⟨looks_is, fun j t ht => stands t ?_⟩
      rw [Tryd.params3] at ht
      match j, ht with
      | 0, ht => left; simpa using ht.symm
      | 1, ht => left; simpa using ht.symm
      | 2, ht => right; simpa using ht.symm
      | 3, ht => right; simpa using ht.symm
      | j + 4, ht => simp at ht)
    (by kernel_rfl)
theorem proved : Rows.ShowApartCardSaid := card_holds
end Go.Proofs.YtnhgipdlkcdeiaaDoor.showApart
namespace Go.Proofs.YtnhgipdlkcdeiaaDoor
/-- The card, under a short name, for the claim. -/
theorem showApart_holds : Rows.ShowApartCardSaid := showApart.proved
#print axioms showApart_holds
end Go.Proofs.YtnhgipdlkcdeiaaDoor
