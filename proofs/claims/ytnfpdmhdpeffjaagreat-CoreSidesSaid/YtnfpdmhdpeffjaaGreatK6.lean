import Derived.Test.YtnfpdmhdpeffjaaGreatK5
set_option linter.unusedSimpArgs false
set_option linter.unusedVariables false
/- What functions of the program compute, as plain functions. -/
set_option linter.unusedVariables false
set_option maxRecDepth 100000
namespace Go.Proofs.Zz
open Go Go.Proofs.Tryz
def c_r15_First : CS := ⟨182, 44, ⟨[.agg [.d (.sl t_api_Ins), .d tI, .d (.sl tU)]], []⟩, [.agg q_1], true, []⟩
def h_r15_First : Hi := ⟨[((1, 1), c_r1_RightProgram), ((3, 1), c_r1_First)], [], [5], [], []⟩
theorem f_44 : Fn Q 44 f44 (codeOf f44) := ⟨by kernel_rfl, by kernel_rfl, by kernel_rfl, by kernel_rfl, by kernel_rfl⟩
noncomputable def r15_First (N : Nat) (x0 : api_Program) : Option Rs :=
 on1 (r1_RightProgram N x0) <| gg [pB] <| fun (x1 : Bool) => 
 bi (!x1) (
  some (0, g_api_State.dv (api_State.mk 0 api_Side.z api_Side.z ([] : List api_Slot) ([] : List Int) ([] : List Int) ([] : List Bool) ([] : List Bool) ([] : List api_Entry) ([] : List api_Request) ([] : List Int) ([] : List api_Write) api_Trap.z 0 0 0) [])) <|
 on1 (r1_First N x0) <| gg [pD (.sl tU)] <| fun (x2 : List Int) => 
 some (0, g_api_State.dv (api_State.mk 0 api_Side.z api_Side.z ([] : List api_Slot) ([] : List Int) ([] : List Int) ([] : List Bool) ([] : List Bool) ([] : List api_Entry) ([] : List api_Request) x2 ([] : List api_Write) api_Trap.z 0 0 0) [])
noncomputable def X_r15_First (N : Nat) : CE := (c_r15_First, mkF [p_api_Program] [p_api_State] (r15_First N))
theorem Y_r15_First (N : Nat) : CEok Q (X_r15_First N) :=
 fnG (hi := h_r15_First) (l := [X_r1_RightProgram N, X_r1_First N]) (t := []) ti_ok hmix ⟨Y_r1_RightProgram N, Y_r1_First N, trivial⟩ ⟨rfl, rfl, trivial⟩ f_44 (by kernel_rfl) (by kernel_rfl) trivial fun ys => by kernel_rfl
end Go.Proofs.Zz
