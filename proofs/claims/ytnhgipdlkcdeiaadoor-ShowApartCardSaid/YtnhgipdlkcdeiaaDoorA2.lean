import Derived.Test.YtnhgipdlkcdeiaaDoorHItoaA
set_option linter.unusedSimpArgs false
set_option linter.unusedVariables false
/- What functions of the program compute, as plain functions. -/
set_option linter.unusedVariables false
set_option maxRecDepth 100000
namespace Go.Proofs.Zs
open Go Go.Proofs.Tryd
def c_show_reg : CS := ⟨9, 98, ⟨[.one (.d tI)], []⟩, [.one (.d tS)], true, []⟩
def h_show_reg : Hi := ⟨[((3, 1), c_strconv_Itoa)], [], [5, 8], [], []⟩
theorem f_98 : Fn Q 98 f98 (codeOf f98) := ⟨by kernel_rfl, by kernel_rfl, by kernel_rfl, by kernel_rfl, by kernel_rfl⟩
noncomputable def show_reg (N : Nat) (x0 : Int) : Option Rs :=
 bi (decide (x0 < 0)) (
  some (0, gT.dv (bs []) [])) <|
 bi (decide (x0 > 15)) (
  some (0, gT.dv (bs []) [])) <|
 on1 (strconv_Itoa N x0) <| gg [pT] <| fun (x1 : ByteArray) => 
 gd (decide ((bs [114]).size + x1.size ≤ reach)) <|
 some (0, gT.dv ((bs [114]) ++ x1) [])
noncomputable def X_show_reg (N : Nat) : CE := (c_show_reg, mkF [pI] [pT] (show_reg N))
theorem Y_show_reg (N : Nat) : CEok Q (X_show_reg N) :=
 fnG (hi := h_show_reg) (l := [X_strconv_Itoa N]) (t := []) ti_ok hmix ⟨Y_strconv_Itoa N, trivial⟩ ⟨rfl, trivial⟩ f_98 (by kernel_rfl) (by kernel_rfl) trivial fun ys => by kernel_rfl
end Go.Proofs.Zs
