import Derived.Test.YtnfpdmhdpeffjaaGreatK5
set_option linter.unusedSimpArgs false
set_option linter.unusedVariables false
/- What functions of the program compute, as plain functions. -/
set_option linter.unusedVariables false
set_option maxRecDepth 100000
namespace Go.Proofs.Zz
open Go Go.Proofs.Tryz
def c_r15_First : CS := ⟨182, 44, ⟨[.agg [.d (.sl t_api_Ins), .d tI, .d (.sl tU)]], []⟩, [.agg q_1], true, []⟩
def h_r15_First : Hi := ⟨[((1, 1), c_r1_RightProgram), ((3, 1), c_r1_First)], [], [5], []⟩
theorem f_44 : Fn Q 44 f44 (codeOf f44) := ⟨by kernel_rfl, by kernel_rfl, by kernel_rfl, by kernel_rfl, by kernel_rfl⟩
noncomputable def r15_First (N : Nat) (x0 : api_Program) : Option Rs :=
 on1 (r1_RightProgram N x0) <| gg [pB] <| fun (x1 : Bool) => 
 bi (!x1) (
  some (0, g_api_State.dv (api_State.mk 0 api_Side.z api_Side.z ([] : List api_Slot) ([] : List Int) ([] : List Int) ([] : List Bool) ([] : List Bool) ([] : List api_Entry) ([] : List api_Request) ([] : List Int) ([] : List api_Write) api_Trap.z 0 0 0) [])) <|
 on1 (r1_First N x0) <| gg [pD (.sl tU)] <| fun (x2 : List Int) => 
 some (0, g_api_State.dv (api_State.mk 0 api_Side.z api_Side.z ([] : List api_Slot) ([] : List Int) ([] : List Int) ([] : List Bool) ([] : List Bool) ([] : List api_Entry) ([] : List api_Request) x2 ([] : List api_Write) api_Trap.z 0 0 0) [])
noncomputable def X_r15_First (N : Nat) : CE := (c_r15_First, mkF [p_api_Program] [p_api_State] (r15_First N))
theorem Y_r15_First (N : Nat) : CEok Q (X_r15_First N) :=
 fnG (hi := h_r15_First) (l := [X_r1_RightProgram N, X_r1_First N]) (t := []) ti_ok hmix ⟨Y_r1_RightProgram N, Y_r1_First N, trivial⟩ ⟨rfl, rfl, trivial⟩ f_44 (by kernel_rfl) (by kernel_rfl) trivial fun ys => by kernel_rfl
def c_r1_Check : CS := ⟨183, 49, ⟨[.one (.d tI), .one (.d tW), .one (.d tI)], []⟩, [.one (.d tI)], true, []⟩
def h_r1_Check : Hi := ⟨[], [], [9, 15, 18, 22, 31, 34, 42], []⟩
theorem f_49 : Fn Q 49 f49 (codeOf f49) := ⟨by kernel_rfl, by kernel_rfl, by kernel_rfl, by kernel_rfl, by kernel_rfl⟩
noncomputable def r1_Check (N : Nat) (x0 : Int) (x1 : Int) (x2 : Int) : Option Rs :=
 bi (decide (x0 ≥ 1)) (
  gf (decide (x0 = 0)) <|
  bi ((Int.tmod (w.i64 x1) x0) != 0) (
   some (0, gI.dv 1 [])) <|
  bi (decide (x0 > 0)) (
   bi (decide (x2 < x0)) (
    some (0, gI.dv 2 [])) <|
   bi (decide ((w.i64 x1) > (w.i64 (x2 - x0)))) (
    some (0, gI.dv 2 [])) <|
   bi (decide (x0 ≤ 0)) (
    bi (decide (x2 < (w.i64 ((w.i64 x1) + x0)))) (
     some (0, gI.dv 2 [])) <|
    some (0, gI.dv 0 [])) <|
   some (0, gI.dv 0 [])) <|
  bi (decide (x0 ≤ 0)) (
   bi (decide (x2 < (w.i64 ((w.i64 x1) + x0)))) (
    some (0, gI.dv 2 [])) <|
   some (0, gI.dv 0 [])) <|
  some (0, gI.dv 0 [])) <|
 bi (decide (x0 > 0)) (
  bi (decide (x2 < x0)) (
   some (0, gI.dv 2 [])) <|
  bi (decide ((w.i64 x1) > (w.i64 (x2 - x0)))) (
   some (0, gI.dv 2 [])) <|
  bi (decide (x0 ≤ 0)) (
   bi (decide (x2 < (w.i64 ((w.i64 x1) + x0)))) (
    some (0, gI.dv 2 [])) <|
   some (0, gI.dv 0 [])) <|
  some (0, gI.dv 0 [])) <|
 bi (decide (x0 ≤ 0)) (
  bi (decide (x2 < (w.i64 ((w.i64 x1) + x0)))) (
   some (0, gI.dv 2 [])) <|
  some (0, gI.dv 0 [])) <|
 some (0, gI.dv 0 [])
noncomputable def X_r1_Check (N : Nat) : CE := (c_r1_Check, mkF [pI, pW, pI] [pI] (r1_Check N))
theorem Y_r1_Check (N : Nat) : CEok Q (X_r1_Check N) :=
 fnG (hi := h_r1_Check) (l := []) (t := []) ti_ok hmix trivial trivial f_49 (by kernel_rfl) (by kernel_rfl) trivial fun ys => by kernel_rfl
def c_l22_ApipeTraps : CS := ⟨184, 10, ⟨[.one (.d tI), .one (.d tI), .one (.d tI)], []⟩, [.one (.d tB)], true, []⟩
def h_l22_ApipeTraps : Hi := ⟨[((1, 0), c_l22_alive), ((2, 1), c_r1_Form), ((6, 1), c_r10_Split), ((8, 3), c_r15_First), ((8, 4), c_apipe_Issue), ((9, 1), c_r1_Size), ((9, 5), c_r1_Check)], [], [20, 24, 28, 31, 36, 40, 43, 70, 72, 78, 84, 90, 100, 106], []⟩
theorem f_10 : Fn Q 10 f10 (codeOf f10) := ⟨by kernel_rfl, by kernel_rfl, by kernel_rfl, by kernel_rfl, by kernel_rfl⟩
noncomputable def l22_ApipeTraps (N : Nat) (x0 : Int) (x1 : Int) (x2 : Int) : Option Rs :=
 on1 (l22_alive N ) <| gg [pB] <| fun (x3 : Bool) => 
 on1 (r1_Form N x1) <| gg [pI] <| fun (x4 : Int) => 
 bi (!x3) (
  some (0, gB.dv x3 [])) <|
 bi (decide (x0 < 0)) (
  some (0, gB.dv x3 [])) <|
 bi (decide (x0 > 300)) (
  some (0, gB.dv x3 [])) <|
 bi (x4 != 4) (
  bi (x4 != 5) (
   some (0, gB.dv x3 [])) <|
  bi (decide (x2 < (-8192 : Int))) (
   some (0, gB.dv x3 [])) <|
  bi (decide (x2 > 8191)) (
   some (0, gB.dv x3 [])) <|
  on1 (r10_Split N (api_Program.mk [(x1, (0, (0, (0, (x2, ()))))), (41, (0, api_Write.z))] x0 ([] : List Int))) <| gg [p_api_Split, pI] <| fun (x5 : api_Split) (x6 : Int) => 
  on1 (r15_First N (api_Program.mk [(x1, (0, (0, (0, (x2, ()))))), (41, (0, api_Write.z))] x0 ([] : List Int))) <| gg [p_api_State] <| fun (x7 : api_State) => 
  on1 (apipe_Issue N (api_Config.mk 1 1 1 1 1 1 1 1 9 1 1 1) x5 x7) <| gg [p_api_State] <| fun (x8 : api_State) => 
  on1 (r1_Size N x1) <| gg [pI] <| fun (x9 : Int) => 
  on1 (r1_Check N x9 (w.u32 x2) x0) <| gg [pI] <| fun (x10 : Int) => 
  bi (x6 != 0) (
   some (0, gB.dv false [])) <|
  bi (x10 != 0) (
   bi ((x8.Trap.Kind == x10) && ((x8.Trap.Step == 0) && (x8.Trap.Pc == 0))) (
    bi ((len x8.Table) == 0) (
     bi ((len x8.Saq) == 0) (
      some (0, gB.dv (x8.A.Done == 0) [])) <|
     some (0, gB.dv false [])) <|
    some (0, gB.dv false [])) <|
   some (0, gB.dv false [])) <|
  bi ((x8.Trap.Kind == 0) && ((x8.Trap.Step == 0) && (x8.Trap.Pc == 0))) (
   bi (x8.A.Done == 1) (
    some (0, gB.dv ((w.i64 ((len x8.Table) + (len x8.Saq))) == 1) [])) <|
   some (0, gB.dv false [])) <|
  some (0, gB.dv false [])) <|
 bi (decide (x2 < (-8192 : Int))) (
  some (0, gB.dv x3 [])) <|
 bi (decide (x2 > 8191)) (
  some (0, gB.dv x3 [])) <|
 on1 (r10_Split N (api_Program.mk [(x1, (0, (0, (0, (x2, ()))))), (41, (0, api_Write.z))] x0 ([] : List Int))) <| gg [p_api_Split, pI] <| fun (x11 : api_Split) (x12 : Int) => 
 on1 (r15_First N (api_Program.mk [(x1, (0, (0, (0, (x2, ()))))), (41, (0, api_Write.z))] x0 ([] : List Int))) <| gg [p_api_State] <| fun (x13 : api_State) => 
 on1 (apipe_Issue N (api_Config.mk 1 1 1 1 1 1 1 1 9 1 1 1) x11 x13) <| gg [p_api_State] <| fun (x14 : api_State) => 
 on1 (r1_Size N x1) <| gg [pI] <| fun (x15 : Int) => 
 on1 (r1_Check N x15 (w.u32 x2) x0) <| gg [pI] <| fun (x16 : Int) => 
 bi (x12 != 0) (
  some (0, gB.dv false [])) <|
 bi (x16 != 0) (
  bi ((x14.Trap.Kind == x16) && ((x14.Trap.Step == 0) && (x14.Trap.Pc == 0))) (
   bi ((len x14.Table) == 0) (
    bi ((len x14.Saq) == 0) (
     some (0, gB.dv (x14.A.Done == 0) [])) <|
    some (0, gB.dv false [])) <|
   some (0, gB.dv false [])) <|
  some (0, gB.dv false [])) <|
 bi ((x14.Trap.Kind == 0) && ((x14.Trap.Step == 0) && (x14.Trap.Pc == 0))) (
  bi (x14.A.Done == 1) (
   some (0, gB.dv ((w.i64 ((len x14.Table) + (len x14.Saq))) == 1) [])) <|
  some (0, gB.dv false [])) <|
 some (0, gB.dv false [])
noncomputable def X_l22_ApipeTraps (N : Nat) : CE := (c_l22_ApipeTraps, mkF [pI, pI, pI] [pB] (l22_ApipeTraps N))
theorem Y_l22_ApipeTraps (N : Nat) : CEok Q (X_l22_ApipeTraps N) :=
 fnG (hi := h_l22_ApipeTraps) (l := [X_l22_alive N, X_r1_Form N, X_r10_Split N, X_r15_First N, X_apipe_Issue N, X_r1_Size N, X_r1_Check N]) (t := []) ti_ok hmix ⟨Y_l22_alive N, Y_r1_Form N, Y_r10_Split N, Y_r15_First N, Y_apipe_Issue N, Y_r1_Size N, Y_r1_Check N, trivial⟩ ⟨rfl, rfl, rfl, rfl, rfl, rfl, rfl, trivial⟩ f_10 (by kernel_rfl) (by kernel_rfl) trivial fun ys => by kernel_rfl
def c_r1_Overlap : CS := ⟨185, 104, ⟨[.one (.d tI), .one (.d tI), .one (.d tI), .one (.d tI)], []⟩, [.one (.d tB)], true, []⟩
def h_r1_Overlap : Hi := ⟨[], [], [11, 14, 17, 23, 35], []⟩
theorem f_104 : Fn Q 104 f104 (codeOf f104) := ⟨by kernel_rfl, by kernel_rfl, by kernel_rfl, by kernel_rfl, by kernel_rfl⟩
noncomputable def r1_Overlap (N : Nat) (x0 : Int) (x1 : Int) (x2 : Int) (x3 : Int) : Option Rs :=
 bi (decide (x1 < 1)) (
  some (0, gB.dv false [])) <|
 bi (decide (x3 < 1)) (
  some (0, gB.dv false [])) <|
 bi (decide (x0 ≤ x2)) (
  bi (decide (x2 < (w.i64 (x0 + x1)))) (
   some (0, gB.dv true [])) <|
  some (0, gB.dv (decide ((w.i64 (x0 + x1)) < x0)) [])) <|
 bi (decide (x0 < (w.i64 (x2 + x3)))) (
  some (0, gB.dv true [])) <|
 some (0, gB.dv (decide ((w.i64 (x2 + x3)) < x2)) [])
noncomputable def X_r1_Overlap (N : Nat) : CE := (c_r1_Overlap, mkF [pI, pI, pI, pI] [pB] (r1_Overlap N))
theorem Y_r1_Overlap (N : Nat) : CEok Q (X_r1_Overlap N) :=
 fnG (hi := h_r1_Overlap) (l := []) (t := []) ti_ok hmix trivial trivial f_104 (by kernel_rfl) (by kernel_rfl) trivial fun ys => by kernel_rfl
def c_r15_Search : CS := ⟨186, 46, ⟨[.one (.d (.sl t_api_Entry)), .one (.d tI), .one (.d tI)], []⟩, [.agg [.d tI, .d tI, .d tI, .d tB, .d tW], .one (.d tB)], false, []⟩
def s_r15_Search_0 : LS := ⟨⟨[.one (.d (.sl t_api_Entry)), .one (.d tI), .one (.d tI), .no, .no, .no, .one (.p 0 0 [1, 1, 1, 1, 1]), .no, .one (.d tI)] ++ nos 25, [[.d tI, .d tI, .d tI, .d tB, .d tW]]⟩, [(0, ⟨nos 6 ++ [.one (.p 0 0 [1, 1, 1, 1, 1]), .one (.d tB)] ++ nos 26, [[.d tI, .d tI, .d tI, .d tB, .d tW]]⟩), (1, ⟨nos 6 ++ [.one (.p 0 0 [1, 1, 1, 1, 1])] ++ nos 27, [[.d tI, .d tI, .d tI, .d tB, .d tW]]⟩)]⟩
def h_r15_Search : Hi := ⟨[((4, 12), c_r1_Overlap)], [(0, s_r15_Search_0)], [13, 28], []⟩
theorem f_46 : Fn Q 46 f46 (codeOf f46) := ⟨by kernel_rfl, by kernel_rfl, by kernel_rfl, by kernel_rfl, by kernel_rfl⟩
noncomputable def T_r15_Search (N : Nat) : List CE := [X_r1_Overlap N]
theorem TT_r15_Search (N : Nat) : AllP (CEok Q) (T_r15_Search N) := ⟨Y_r1_Overlap N, trivial⟩
theorem A_r15_Search (N : Nat) : AllP (fun e => lookC (T_r15_Search N) e.2.id = some e.2) h_r15_Search.cs := ⟨rfl, trivial⟩
noncomputable def r15_Search_r0 (N : Nat) (again : Fn' (Option Rs) [pD (.sl t_api_Entry), pI, pI, pI, p_api_Entry]) (x0 : List api_Entry) (x1 : Int) (x2 : Int) (x3 : Int) (x4 : api_Entry) : Option Rs :=
 bi (decide (x3 ≥ 0)) (
  gd (idx x3 (List.length x0)) <|
  gd (idx x3 (List.length x0)) <|
  on1 (r1_Overlap N ((List.getD x0 x3.toNat api_Entry.z).1) ((List.getD x0 x3.toNat api_Entry.z).2.1) x1 x2) <| gg [pB] <| fun (x5 : Bool) => 
  bi x5 (
   gd (idx x3 (List.length x0)) <|
   some (0, gB.dv true (g_api_Entry.dv (List.getD x0 x3.toNat api_Entry.z) []))) <|
  again x0 x1 x2 (w.i64 (x3 - 1)) x4) <|
 some (1, g_api_Entry.dv x4 [])
noncomputable def r15_Search_l0 (N : Nat) : Nat → Fn' (Option Rs) [pD (.sl t_api_Entry), pI, pI, pI, p_api_Entry] := lpG (r15_Search_r0 N)
noncomputable def L_r15_Search_0 (N : Nat) : LE := (0, mkM [pD (.sl t_api_Entry), pI, pI, pI, p_api_Entry] [(0, [pB, p_api_Entry]), (1, [p_api_Entry])] (r15_Search_l0 N N))
theorem K_r15_Search_0 (N : Nat) : LEok Q h_r15_Search (bodOf f46) f46.ntmps 0 (L_r15_Search_0 N) :=
 loopG (hi := h_r15_Search) (l := T_r15_Search N) (t := []) (r := r15_Search_r0 N) ti_ok hmix (TT_r15_Search N) (A_r15_Search N) f_46 trivial (ls := s_r15_Search_0) (body := bodyAt f46 0) (by kernel_rfl) (by kernel_rfl) fun A ys => by kernel_rfl
noncomputable def r15_Search (N : Nat) (x0 : List api_Entry) (x1 : Int) (x2 : Int) : Option Rs :=
 onB 0 1 (r15_Search_l0 N N x0 x1 x2 (w.i64 ((len x0) - 1)) (api_Entry.z)) (gg [pB, p_api_Entry] <| fun (x3 : Bool) (x4 : api_Entry) => 
  some (0, g_api_Entry.dv x4 (gB.dv x3 []))) <| gg [p_api_Entry] <| fun (x5 : api_Entry) => 
 some (0, g_api_Entry.dv (api_Entry.z) (gB.dv false []))
noncomputable def X_r15_Search (N : Nat) : CE := (c_r15_Search, mkF [pD (.sl t_api_Entry), pI, pI] [p_api_Entry, pB] (r15_Search N))
theorem Y_r15_Search (N : Nat) : CEok Q (X_r15_Search N) :=
 fnG (hi := h_r15_Search) (l := T_r15_Search N) (t := [L_r15_Search_0 N]) ti_ok hmix (TT_r15_Search N) (A_r15_Search N) f_46 (by kernel_rfl) (by kernel_rfl) ⟨K_r15_Search_0 N, trivial⟩ fun ys => by kernel_rfl
def c_r1_Extend : CS := ⟨187, 105, ⟨[.one (.d tI), .one (.d tW)], []⟩, [.one (.d tW)], true, []⟩
def h_r1_Extend : Hi := ⟨[((3, 2), c_r1_Int), ((5, 2), c_r1_Int)], [], [6, 13], []⟩
theorem f_105 : Fn Q 105 f105 (codeOf f105) := ⟨by kernel_rfl, by kernel_rfl, by kernel_rfl, by kernel_rfl, by kernel_rfl⟩
noncomputable def r1_Extend (N : Nat) (x0 : Int) (x1 : Int) : Option Rs :=
 bi (x0 == 27) (
  gf (decide ((16 : Int) < (0 : Int))) <|
  on1 (r1_Int N (shl .u32 x1 16)) <| gg [pI] <| fun (x2 : Int) => 
  gf (decide ((16 : Int) < (0 : Int))) <|
  some (0, gW.dv (w.u32 (shr .i64 x2 16)) [])) <|
 bi (x0 == 29) (
  gf (decide ((24 : Int) < (0 : Int))) <|
  on1 (r1_Int N (shl .u32 x1 24)) <| gg [pI] <| fun (x3 : Int) => 
  gf (decide ((24 : Int) < (0 : Int))) <|
  some (0, gW.dv (w.u32 (shr .i64 x3 24)) [])) <|
 some (0, gW.dv x1 [])
noncomputable def X_r1_Extend (N : Nat) : CE := (c_r1_Extend, mkF [pI, pW] [pW] (r1_Extend N))
theorem Y_r1_Extend (N : Nat) : CEok Q (X_r1_Extend N) :=
 fnG (hi := h_r1_Extend) (l := [X_r1_Int N]) (t := []) ti_ok hmix ⟨Y_r1_Int N, trivial⟩ ⟨rfl, rfl, trivial⟩ f_105 (by kernel_rfl) (by kernel_rfl) trivial fun ys => by kernel_rfl
def c_r15_Bypass : CS := ⟨188, 47, ⟨[.agg [.d tI, .d tI, .d tI, .d tB, .d tW], .one (.d tI), .one (.d tI)], []⟩, [.one (.d tW), .one (.d tB)], false, []⟩
def h_r15_Bypass : Hi := ⟨[((1, 1), c_r1_Form), ((1, 18), c_r1_Size), ((3, 3), c_r1_Extend)], [], [11, 16, 22, 28], []⟩
theorem f_47 : Fn Q 47 f47 (codeOf f47) := ⟨by kernel_rfl, by kernel_rfl, by kernel_rfl, by kernel_rfl, by kernel_rfl⟩
noncomputable def r15_Bypass (N : Nat) (x0 : api_Entry) (x1 : Int) (x2 : Int) : Option Rs :=
 on1 (r1_Form N x1) <| gg [pI] <| fun (x3 : Int) => 
 bi (x3 != 4) (
  some (0, gW.dv 0 (gB.dv false []))) <|
 bi (!x0.2.2.2.1) (
  some (0, gW.dv 0 (gB.dv false []))) <|
 bi (x0.1 != x2) (
  some (0, gW.dv 0 (gB.dv false []))) <|
 on1 (r1_Size N x1) <| gg [pI] <| fun (x4 : Int) => 
 bi (x0.2.1 != x4) (
  some (0, gW.dv 0 (gB.dv false []))) <|
 on1 (r1_Extend N x1 x0.2.2.2.2.1) <| gg [pW] <| fun (x5 : Int) => 
 some (0, gW.dv x5 (gB.dv true []))
noncomputable def X_r15_Bypass (N : Nat) : CE := (c_r15_Bypass, mkF [p_api_Entry, pI, pI] [pW, pB] (r15_Bypass N))
theorem Y_r15_Bypass (N : Nat) : CEok Q (X_r15_Bypass N) :=
 fnG (hi := h_r15_Bypass) (l := [X_r1_Form N, X_r1_Size N, X_r1_Extend N]) (t := []) ti_ok hmix ⟨Y_r1_Form N, Y_r1_Size N, Y_r1_Extend N, trivial⟩ ⟨rfl, rfl, rfl, trivial⟩ f_47 (by kernel_rfl) (by kernel_rfl) trivial fun ys => by kernel_rfl
def c_l22_store : CS := ⟨189, 45, ⟨[.one (.d tI)], []⟩, [.one (.d tI)], true, []⟩
def h_l22_store : Hi := ⟨[], [], [4, 6], []⟩
theorem f_45 : Fn Q 45 f45 (codeOf f45) := ⟨by kernel_rfl, by kernel_rfl, by kernel_rfl, by kernel_rfl, by kernel_rfl⟩
noncomputable def l22_store (N : Nat) (x0 : Int) : Option Rs :=
 bi (x0 == 1) (
  some (0, gI.dv 33 [])) <|
 bi (x0 == 2) (
  some (0, gI.dv 32 [])) <|
 some (0, gI.dv 31 [])
noncomputable def X_l22_store (N : Nat) : CE := (c_l22_store, mkF [pI] [pI] (l22_store N))
theorem Y_l22_store (N : Nat) : CEok Q (X_l22_store N) :=
 fnG (hi := h_l22_store) (l := []) (t := []) ti_ok hmix trivial trivial f_45 (by kernel_rfl) (by kernel_rfl) trivial fun ys => by kernel_rfl
def c_l22_ApipeHolds : CS := ⟨190, 8, ⟨[.one (.d (.sl tU)), .one (.d (.sl t_api_Entry)), .one (.d tI), .one (.d tI), .one (.d tB)], []⟩, [.one (.d tB)], true, []⟩
def s_l22_ApipeHolds_100013 : LS := ⟨⟨[.no, .one (.d (.sl t_api_Entry)), .one (.d tI), .no, .one (.d tB)] ++ nos 7 ++ [.one (.d tI), .one (.d tI), .no, .one (.p 0 0 [1, 16]), .one (.d tI), .one (.p 1 0 [1, 1, 1, 1, 1, 1, 1, 1, 1, 1, 1, 1]), .one (.p 2 0 [1, 16, 16, 1, 1, 1, 1, 1, 1, 16, 16, 1, 1, 1, 1, 1, 1, 1, 1, 1, 1, 1, 1, 1, 1, 1, 1, 1, 1, 1, 1, 1])] ++ nos 240, [[.o t_api_Block, .d (.ar 16 tI)], q_5, q_1]⟩, [(100014, ⟨[.no, .one (.d (.sl t_api_Entry)), .one (.d tI), .no, .one (.d tB)] ++ nos 7 ++ [.one (.d tI), .one (.d tI), .no, .one (.p 0 0 [1, 16]), .one (.d tI), .one (.p 1 0 [1, 1, 1, 1, 1, 1, 1, 1, 1, 1, 1, 1]), .one (.p 2 0 [1, 16, 16, 1, 1, 1, 1, 1, 1, 16, 16, 1, 1, 1, 1, 1, 1, 1, 1, 1, 1, 1, 1, 1, 1, 1, 1, 1, 1, 1, 1, 1])] ++ nos 85 ++ [.one (.d tB)] ++ nos 154, [[.o t_api_Block, .d (.ar 16 tI)], q_5, q_1]⟩)]⟩
def s_l22_ApipeHolds_200015 : LS := ⟨⟨[.no, .one (.d (.sl t_api_Entry)), .one (.d tI), .no, .one (.d tB)] ++ nos 7 ++ [.one (.d tI), .one (.d tI), .no, .one (.p 0 0 [1, 16]), .one (.d tI), .one (.p 1 0 [1, 1, 1, 1, 1, 1, 1, 1, 1, 1, 1, 1]), .one (.p 2 0 [1, 16, 16, 1, 1, 1, 1, 1, 1, 16, 16, 1, 1, 1, 1, 1, 1, 1, 1, 1, 1, 1, 1, 1, 1, 1, 1, 1, 1, 1, 1, 1])] ++ nos 240, [[.o t_api_Block, .d (.ar 16 tI)], q_5, q_1]⟩, [(0, ⟨nos 10 ++ [.one (.d tB)] ++ nos 248, []⟩), (200016, ⟨[.no, .one (.d (.sl t_api_Entry)), .one (.d tI), .no, .one (.d tB)] ++ nos 7 ++ [.one (.d tI), .one (.d tI), .no, .one (.p 0 0 [1, 16]), .no, .one (.p 1 0 [1, 1, 1, 1, 1, 1, 1, 1, 1, 1, 1, 1]), .one (.p 2 0 [1, 16, 16, 1, 1, 1, 1, 1, 1, 16, 16, 1, 1, 1, 1, 1, 1, 1, 1, 1, 1, 1, 1, 1, 1, 1, 1, 1, 1, 1, 1, 1])] ++ nos 240, [[.o t_api_Block, .d (.ar 16 tI)], q_5, q_1]⟩)]⟩
def s_l22_ApipeHolds_200017 : LS := ⟨⟨[.no, .one (.d (.sl t_api_Entry)), .one (.d tI), .no, .one (.d tB)] ++ nos 7 ++ [.one (.d tI), .one (.d tI), .no, .one (.p 0 0 [1, 16]), .no, .one (.p 1 0 [1, 1, 1, 1, 1, 1, 1, 1, 1, 1, 1, 1]), .one (.p 2 0 [1, 16, 16, 1, 1, 1, 1, 1, 1, 16, 16, 1, 1, 1, 1, 1, 1, 1, 1, 1, 1, 1, 1, 1, 1, 1, 1, 1, 1, 1, 1, 1])] ++ nos 240, [[.o t_api_Block, .d (.ar 16 tI)], q_5, q_1]⟩, [(0, ⟨nos 10 ++ [.one (.d tB)] ++ nos 248, []⟩)]⟩
def s_l22_ApipeHolds_200009 : LS := ⟨⟨[.no, .one (.d (.sl t_api_Entry)), .one (.d tI), .no, .one (.d tB)] ++ nos 7 ++ [.one (.d tI), .one (.d tI), .one (.p 0 0 [1, 1, 1])] ++ nos 244, [[.o t_api_Ins, .d tI, .o tU]]⟩, [(0, ⟨nos 10 ++ [.one (.d tB)] ++ nos 248, []⟩)]⟩
def h_l22_ApipeHolds : Hi := ⟨[((1, 0), c_l22_alive), ((2, 1), c_r1_Size), ((3, 4), c_r1_Form), ((9, 1), c_r10_Split), ((11, 1), c_r15_First), ((14, 4), c_l22_store), ((15, 6), c_r15_RightState), ((17, 3), c_r15_Copy), ((17, 4), c_apipe_Issue), ((18, 3), c_r15_Search), ((19, 3), c_r15_Bypass), ((21, 2), c_r15_SameState)], [(100013, s_l22_ApipeHolds_100013), (200015, s_l22_ApipeHolds_200015), (200017, s_l22_ApipeHolds_200017), (200009, s_l22_ApipeHolds_200009)], [29, 34, 38, 42, 47, 53, 57, 78, 99, 104, 127, 133, 153, 155, 162, 164, 171, 178, 187, 196, 204, 211, 220, 230, 236, 252], [100013, 200009, 200015, 200017]⟩
theorem f_8 : Fn Q 8 f8 (codeOf f8) := ⟨by kernel_rfl, by kernel_rfl, by kernel_rfl, by kernel_rfl, by kernel_rfl⟩
noncomputable def T_l22_ApipeHolds (N : Nat) : List CE := [X_l22_alive N, X_r1_Size N, X_r1_Form N, X_r10_Split N, X_r15_First N, X_l22_store N, X_r15_RightState N, X_r15_Copy N, X_apipe_Issue N, X_r15_Search N, X_r15_Bypass N, X_r15_SameState N]
theorem TT_l22_ApipeHolds (N : Nat) : AllP (CEok Q) (T_l22_ApipeHolds N) := ⟨Y_l22_alive N, Y_r1_Size N, Y_r1_Form N, Y_r10_Split N, Y_r15_First N, Y_l22_store N, Y_r15_RightState N, Y_r15_Copy N, Y_apipe_Issue N, Y_r15_Search N, Y_r15_Bypass N, Y_r15_SameState N, trivial⟩
theorem A_l22_ApipeHolds (N : Nat) : AllP (fun e => lookC (T_l22_ApipeHolds N) e.2.id = some e.2) h_l22_ApipeHolds.cs := ⟨rfl, rfl, rfl, rfl, rfl, rfl, rfl, rfl, rfl, rfl, rfl, rfl, trivial⟩
noncomputable def l22_ApipeHolds_j100013 (N : Nat) (x0 : List api_Entry) (x1 : Int) (x2 : Bool) (x3 : Int) (x4 : Int) (x5 : Int) (x6 : api_Split) (x7 : api_Config) (x8 : api_State) : Option Rs :=
 bi (decide ((len x0) > 0)) (
  gd (idx 0 (List.length x0)) <|
  bi ((List.getD x0 0 api_Entry.z).2.2.2.1) (
   some (100014, (gD (.sl t_api_Entry)).dv x0 (gI.dv x1 (gB.dv x2 (gI.dv x3 (gI.dv x4 (gI.dv x5 (gB.dv true (g_api_Split.dv x6 (g_api_Config.dv x7 (g_api_State.dv x8 []))))))))))) <|
  some (100014, (gD (.sl t_api_Entry)).dv x0 (gI.dv x1 (gB.dv x2 (gI.dv x3 (gI.dv x4 (gI.dv x5 (gB.dv false (g_api_Split.dv x6 (g_api_Config.dv x7 (g_api_State.dv x8 []))))))))))) <|
 some (100014, (gD (.sl t_api_Entry)).dv x0 (gI.dv x1 (gB.dv x2 (gI.dv x3 (gI.dv x4 (gI.dv x5 (gB.dv false (g_api_Split.dv x6 (g_api_Config.dv x7 (g_api_State.dv x8 []))))))))))
noncomputable def L_l22_ApipeHolds_100013 (N : Nat) : LE := (100013, mkM [pD (.sl t_api_Entry), pI, pB, pI, pI, pI, p_api_Split, p_api_Config, p_api_State] [(100014, [pD (.sl t_api_Entry), pI, pB, pI, pI, pI, pB, p_api_Split, p_api_Config, p_api_State])] (l22_ApipeHolds_j100013 N))
theorem K_l22_ApipeHolds_100013 (N : Nat) : LEok Q h_l22_ApipeHolds (bodOf f8) f8.ntmps 0 (L_l22_ApipeHolds_100013 N) :=
 blkG (hi := h_l22_ApipeHolds) (l := T_l22_ApipeHolds N) (t := []) ti_ok hmix (TT_l22_ApipeHolds N) (A_l22_ApipeHolds N) f_8 trivial (ls := s_l22_ApipeHolds_100013) (body := blkAt f8 100013) (by kernel_rfl) (by kernel_rfl) (by kernel_rfl) fun ys => by kernel_rfl
noncomputable def l22_ApipeHolds_j200015 (N : Nat) (x0 : List api_Entry) (x1 : Int) (x2 : Bool) (x3 : Int) (x4 : Int) (x5 : Int) (x6 : api_Split) (x7 : api_Config) (x8 : api_State) : Option Rs :=
 bi (x5 != 0) (
  some (0, gB.dv true [])) <|
 on1 (r15_RightState N x7 x6 x8) <| gg [pB] <| fun (x9 : Bool) => 
 bi (!x9) (
  some (0, gB.dv true [])) <|
 some (200016, (gD (.sl t_api_Entry)).dv x0 (gI.dv x1 (gB.dv x2 (gI.dv x3 (gI.dv x4 (g_api_Split.dv x6 (g_api_Config.dv x7 (g_api_State.dv x8 []))))))))
noncomputable def L_l22_ApipeHolds_200015 (N : Nat) : LE := (200015, mkM [pD (.sl t_api_Entry), pI, pB, pI, pI, pI, p_api_Split, p_api_Config, p_api_State] [(0, [pB]), (200016, [pD (.sl t_api_Entry), pI, pB, pI, pI, p_api_Split, p_api_Config, p_api_State])] (l22_ApipeHolds_j200015 N))
theorem K_l22_ApipeHolds_200015 (N : Nat) : LEok Q h_l22_ApipeHolds (bodOf f8) f8.ntmps 0 (L_l22_ApipeHolds_200015 N) :=
 blkG (hi := h_l22_ApipeHolds) (l := T_l22_ApipeHolds N) (t := []) ti_ok hmix (TT_l22_ApipeHolds N) (A_l22_ApipeHolds N) f_8 trivial (ls := s_l22_ApipeHolds_200015) (body := blkAt f8 200015) (by kernel_rfl) (by kernel_rfl) (by kernel_rfl) fun ys => by kernel_rfl
noncomputable def l22_ApipeHolds_j200017 (N : Nat) (x0 : List api_Entry) (x1 : Int) (x2 : Bool) (x3 : Int) (x4 : Int) (x5 : api_Split) (x6 : api_Config) (x7 : api_State) : Option Rs :=
 on1 (r15_Copy N x7) <| gg [p_api_State] <| fun (x8 : api_State) => 
 on1 (apipe_Issue N x6 x5 x8) <| gg [p_api_State] <| fun (x9 : api_State) => 
 on1 (r15_Search N x0 x4 x3) <| gg [p_api_Entry, pB] <| fun (x10 : api_Entry) (x11 : Bool) => 
 on1 (r15_Bypass N x10 x1 x4) <| gg [pW, pB] <| fun (x12 : Int) (x13 : Bool) => 
 bi x11 (
  bi (!x13) (
   on1 (r15_SameState N x9 x7) <| gg [pB] <| fun (x14 : Bool) => 
   some (0, gB.dv x14 [])) <|
  bi x11 (
   bi x2 (
    bi ((len x9.Ldq) == 1) (
     gd (idx 0 (List.length x9.Ldq)) <|
     bi ((List.getD x9.Ldq 0 api_Slot.z).2.1) (
      gd (idx 0 (List.length x9.Ldq)) <|
      bi ((List.getD x9.Ldq 0 api_Slot.z).2.2.1 == x12) (
       some (0, gB.dv ((len x9.Table) == (len x7.Table)) [])) <|
      some (0, gB.dv false [])) <|
     some (0, gB.dv false [])) <|
    some (0, gB.dv false [])) <|
   bi x11 (
    gd (idx 1 16) <|
    bi ((List.getD x9.A.Regs 1 0) == x12) (
     gd (idx 1 16) <|
     bi ((List.getD x9.A.Ready 1 0) == 1) (
      some (0, gB.dv ((len x9.Table) == (len x7.Table)) [])) <|
     some (0, gB.dv false [])) <|
    some (0, gB.dv false [])) <|
   bi x2 (
    bi ((len x9.Table) == (w.i64 ((len x7.Table) + 1))) (
     bi ((len x9.Ldq) == 1) (
      gd (idx 0 (List.length x9.Ldq)) <|
      some (0, gB.dv (!(List.getD x9.Ldq 0 api_Slot.z).2.1) [])) <|
     some (0, gB.dv false [])) <|
    some (0, gB.dv false [])) <|
   bi ((len x9.Table) == (w.i64 ((len x7.Table) + 1))) (
    gd (idx 1 16) <|
    some (0, gB.dv ((List.getD x9.A.Ready 1 0) == (-1 : Int)) [])) <|
   some (0, gB.dv false [])) <|
  bi x11 (
   gd (idx 1 16) <|
   bi ((List.getD x9.A.Regs 1 0) == x12) (
    gd (idx 1 16) <|
    bi ((List.getD x9.A.Ready 1 0) == 1) (
     some (0, gB.dv ((len x9.Table) == (len x7.Table)) [])) <|
    some (0, gB.dv false [])) <|
   some (0, gB.dv false [])) <|
  bi x2 (
   bi ((len x9.Table) == (w.i64 ((len x7.Table) + 1))) (
    bi ((len x9.Ldq) == 1) (
     gd (idx 0 (List.length x9.Ldq)) <|
     some (0, gB.dv (!(List.getD x9.Ldq 0 api_Slot.z).2.1) [])) <|
    some (0, gB.dv false [])) <|
   some (0, gB.dv false [])) <|
  bi ((len x9.Table) == (w.i64 ((len x7.Table) + 1))) (
   gd (idx 1 16) <|
   some (0, gB.dv ((List.getD x9.A.Ready 1 0) == (-1 : Int)) [])) <|
  some (0, gB.dv false [])) <|
 bi x11 (
  bi x2 (
   bi ((len x9.Ldq) == 1) (
    gd (idx 0 (List.length x9.Ldq)) <|
    bi ((List.getD x9.Ldq 0 api_Slot.z).2.1) (
     gd (idx 0 (List.length x9.Ldq)) <|
     bi ((List.getD x9.Ldq 0 api_Slot.z).2.2.1 == x12) (
      some (0, gB.dv ((len x9.Table) == (len x7.Table)) [])) <|
     some (0, gB.dv false [])) <|
    some (0, gB.dv false [])) <|
   some (0, gB.dv false [])) <|
  bi x11 (
   gd (idx 1 16) <|
   bi ((List.getD x9.A.Regs 1 0) == x12) (
    gd (idx 1 16) <|
    bi ((List.getD x9.A.Ready 1 0) == 1) (
     some (0, gB.dv ((len x9.Table) == (len x7.Table)) [])) <|
    some (0, gB.dv false [])) <|
   some (0, gB.dv false [])) <|
  bi x2 (
   bi ((len x9.Table) == (w.i64 ((len x7.Table) + 1))) (
    bi ((len x9.Ldq) == 1) (
     gd (idx 0 (List.length x9.Ldq)) <|
     some (0, gB.dv (!(List.getD x9.Ldq 0 api_Slot.z).2.1) [])) <|
    some (0, gB.dv false [])) <|
   some (0, gB.dv false [])) <|
  bi ((len x9.Table) == (w.i64 ((len x7.Table) + 1))) (
   gd (idx 1 16) <|
   some (0, gB.dv ((List.getD x9.A.Ready 1 0) == (-1 : Int)) [])) <|
  some (0, gB.dv false [])) <|
 bi x11 (
  gd (idx 1 16) <|
  bi ((List.getD x9.A.Regs 1 0) == x12) (
   gd (idx 1 16) <|
   bi ((List.getD x9.A.Ready 1 0) == 1) (
    some (0, gB.dv ((len x9.Table) == (len x7.Table)) [])) <|
   some (0, gB.dv false [])) <|
  some (0, gB.dv false [])) <|
 bi x2 (
  bi ((len x9.Table) == (w.i64 ((len x7.Table) + 1))) (
   bi ((len x9.Ldq) == 1) (
    gd (idx 0 (List.length x9.Ldq)) <|
    some (0, gB.dv (!(List.getD x9.Ldq 0 api_Slot.z).2.1) [])) <|
   some (0, gB.dv false [])) <|
  some (0, gB.dv false [])) <|
 bi ((len x9.Table) == (w.i64 ((len x7.Table) + 1))) (
  gd (idx 1 16) <|
  some (0, gB.dv ((List.getD x9.A.Ready 1 0) == (-1 : Int)) [])) <|
 some (0, gB.dv false [])
noncomputable def L_l22_ApipeHolds_200017 (N : Nat) : LE := (200017, mkM [pD (.sl t_api_Entry), pI, pB, pI, pI, p_api_Split, p_api_Config, p_api_State] [(0, [pB])] (l22_ApipeHolds_j200017 N))
theorem K_l22_ApipeHolds_200017 (N : Nat) : LEok Q h_l22_ApipeHolds (bodOf f8) f8.ntmps 0 (L_l22_ApipeHolds_200017 N) :=
 blkG (hi := h_l22_ApipeHolds) (l := T_l22_ApipeHolds N) (t := []) ti_ok hmix (TT_l22_ApipeHolds N) (A_l22_ApipeHolds N) f_8 trivial (ls := s_l22_ApipeHolds_200017) (body := blkAt f8 200017) (by kernel_rfl) (by kernel_rfl) (by kernel_rfl) fun ys => by kernel_rfl
noncomputable def l22_ApipeHolds_j200009 (N : Nat) (x0 : List api_Entry) (x1 : Int) (x2 : Bool) (x3 : Int) (x4 : Int) (x5 : api_Program) : Option Rs :=
 on1 (r10_Split N x5) <| gg [p_api_Split, pI] <| fun (x6 : api_Split) (x7 : Int) => 
 on1 (r15_First N x5) <| gg [p_api_State] <| fun (x8 : api_State) => 
 gd (rm ([] : List api_Entry) x0 32) <|
 onA 100014 (l22_ApipeHolds_j100013 N x0 x1 x2 x3 x4 x7 x6 (api_Config.mk 2 2 2 2 2 20 2 30 9 1 1 1) ({ x8 with Saq := (([] : List api_Entry) ++ x0) } : api_State)) <| gg [pD (.sl t_api_Entry), pI, pB, pI, pI, pI, pB, p_api_Split, p_api_Config, p_api_State] <| fun (x9 : List api_Entry) (x10 : Int) (x11 : Bool) (x12 : Int) (x13 : Int) (x14 : Int) (x15 : Bool) (x16 : api_Split) (x17 : api_Config) (x18 : api_State) => 
 bi x15 (
  gd (idx 0 (List.length x9)) <|
  on1 (l22_store N ((List.getD x9 0 api_Entry.z).2.1)) <| gg [pI] <| fun (x19 : Int) => 
  gd (idx 0 (List.length x9)) <|
  gd (idx 0 (List.length x9)) <|
  gd (idx 0 (List.length x9)) <|
  onB 0 200016 (l22_ApipeHolds_j200015 N x9 x10 x11 x12 x13 x14 x16 x17 ({ x18 with Table := [(true, (x19, ((List.getD x9 0 api_Entry.z).1, ((List.getD x9 0 api_Entry.z).2.1, ((List.getD x9 0 api_Entry.z).2.2.2.2.1, (1, (0, (0, ()))))))))] } : api_State)) (gg [pB] <| fun (x20 : Bool) => 
   some (0, gB.dv x20 [])) <| gg [pD (.sl t_api_Entry), pI, pB, pI, pI, p_api_Split, p_api_Config, p_api_State] <| fun (x21 : List api_Entry) (x22 : Int) (x23 : Bool) (x24 : Int) (x25 : Int) (x26 : api_Split) (x27 : api_Config) (x28 : api_State) => 
  onA 0 (l22_ApipeHolds_j200017 N x21 x22 x23 x24 x25 x26 x27 x28) <| gg [pB] <| fun (x29 : Bool) => 
  some (0, gB.dv x29 [])) <|
 onB 0 200016 (l22_ApipeHolds_j200015 N x9 x10 x11 x12 x13 x14 x16 x17 x18) (gg [pB] <| fun (x30 : Bool) => 
  some (0, gB.dv x30 [])) <| gg [pD (.sl t_api_Entry), pI, pB, pI, pI, p_api_Split, p_api_Config, p_api_State] <| fun (x31 : List api_Entry) (x32 : Int) (x33 : Bool) (x34 : Int) (x35 : Int) (x36 : api_Split) (x37 : api_Config) (x38 : api_State) => 
 onA 0 (l22_ApipeHolds_j200017 N x31 x32 x33 x34 x35 x36 x37 x38) <| gg [pB] <| fun (x39 : Bool) => 
 some (0, gB.dv x39 [])
noncomputable def L_l22_ApipeHolds_200009 (N : Nat) : LE := (200009, mkM [pD (.sl t_api_Entry), pI, pB, pI, pI, p_api_Program] [(0, [pB])] (l22_ApipeHolds_j200009 N))
theorem K_l22_ApipeHolds_200009 (N : Nat) : LEok Q h_l22_ApipeHolds (bodOf f8) f8.ntmps 0 (L_l22_ApipeHolds_200009 N) :=
 blkG (hi := h_l22_ApipeHolds) (l := T_l22_ApipeHolds N) (t := [L_l22_ApipeHolds_100013 N, L_l22_ApipeHolds_200015 N, L_l22_ApipeHolds_200017 N]) ti_ok hmix (TT_l22_ApipeHolds N) (A_l22_ApipeHolds N) f_8 ⟨K_l22_ApipeHolds_100013 N, K_l22_ApipeHolds_200015 N, K_l22_ApipeHolds_200017 N, trivial⟩ (ls := s_l22_ApipeHolds_200009) (body := blkAt f8 200009) (by kernel_rfl) (by kernel_rfl) (by kernel_rfl) fun ys => by kernel_rfl
noncomputable def l22_ApipeHolds (N : Nat) (x0 : List Int) (x1 : List api_Entry) (x2 : Int) (x3 : Int) (x4 : Bool) : Option Rs :=
 on1 (l22_alive N ) <| gg [pB] <| fun (x5 : Bool) => 
 on1 (r1_Size N x2) <| gg [pI] <| fun (x6 : Int) => 
 bi (!x5) (
  some (0, gB.dv x5 [])) <|
 on1 (r1_Form N x2) <| gg [pI] <| fun (x7 : Int) => 
 bi (x7 != 4) (
  some (0, gB.dv x5 [])) <|
 bi (decide (x3 < 0)) (
  some (0, gB.dv x5 [])) <|
 bi (decide (x3 > 4000)) (
  some (0, gB.dv x5 [])) <|
 bi (decide ((len x0) > 200)) (
  some (0, gB.dv x5 [])) <|
 bi (decide ((len x0) < x6)) (
  some (0, gB.dv x5 [])) <|
 bi (decide ((len x1) > 20)) (
  some (0, gB.dv x5 [])) <|
 gf (decide (x6 = 0)) <|
 gf (decide ((w.i64 (Int.tdiv (len x0) x6)) = 0)) <|
 gd (rm ([] : List Int) x0 1) <|
 bi (!x4) (
  gd (rm [(x2, (1, (0, (0, ((w.i64 ((Int.tmod x3 (w.i64 (Int.tdiv (len x0) x6))) * x6)), ()))))), (41, (0, api_Write.z))] [(29, (2, (1, (0, (0, ())))))] 40) <|
  onA 0 (l22_ApipeHolds_j200009 N x1 x2 x4 x6 (w.i64 ((Int.tmod x3 (w.i64 (Int.tdiv (len x0) x6))) * x6)) (api_Program.mk ([(x2, (1, (0, (0, ((w.i64 ((Int.tmod x3 (w.i64 (Int.tdiv (len x0) x6))) * x6)), ()))))), (41, (0, api_Write.z))] ++ [(29, (2, (1, (0, (0, ())))))]) (len x0) (([] : List Int) ++ x0))) <| gg [pB] <| fun (x8 : Bool) => 
  some (0, gB.dv x8 [])) <|
 onA 0 (l22_ApipeHolds_j200009 N x1 x2 x4 x6 (w.i64 ((Int.tmod x3 (w.i64 (Int.tdiv (len x0) x6))) * x6)) (api_Program.mk [(x2, (1, (0, (0, ((w.i64 ((Int.tmod x3 (w.i64 (Int.tdiv (len x0) x6))) * x6)), ()))))), (41, (0, api_Write.z))] (len x0) (([] : List Int) ++ x0))) <| gg [pB] <| fun (x9 : Bool) => 
 some (0, gB.dv x9 [])
noncomputable def X_l22_ApipeHolds (N : Nat) : CE := (c_l22_ApipeHolds, mkF [pD (.sl tU), pD (.sl t_api_Entry), pI, pI, pB] [pB] (l22_ApipeHolds N))
theorem Y_l22_ApipeHolds (N : Nat) : CEok Q (X_l22_ApipeHolds N) :=
 fnG (hi := h_l22_ApipeHolds) (l := T_l22_ApipeHolds N) (t := [L_l22_ApipeHolds_100013 N, L_l22_ApipeHolds_200015 N, L_l22_ApipeHolds_200017 N, L_l22_ApipeHolds_200009 N]) ti_ok hmix (TT_l22_ApipeHolds N) (A_l22_ApipeHolds N) f_8 (by kernel_rfl) (by kernel_rfl) ⟨K_l22_ApipeHolds_100013 N, K_l22_ApipeHolds_200015 N, K_l22_ApipeHolds_200017 N, K_l22_ApipeHolds_200009 N, trivial⟩ fun ys => by kernel_rfl
def c_l21_EpipeWaits : CS := ⟨191, 5, ⟨[.agg q_5, .agg [.d (.sl t_api_Ins), .d tI, .d (.sl tU)], .one (.d tI), .agg q_0], []⟩, [.one (.d tB)], true, []⟩
def s_l21_EpipeWaits_100008 : LS := ⟨⟨[.no, .no, .no, .no, .one (.p 0 0 [1, 1, 1, 1, 1, 1, 1, 1, 1, 1, 1, 1]), .no, .no, .one (.p 1 0 [1, 16, 16, 1, 1, 1, 1, 1, 1, 16, 16, 1, 1, 1, 1, 1, 1, 1, 1, 1, 1, 1, 1, 1, 1, 1, 1, 1, 1, 1, 1, 1]), .no, .no, .no, .no, .one (.p 2 0 [1, 1, 1, 1, 1, 1, 1, 1, 1]), .no, .one (.d tB), .one (.p 3 0 [1, 16, 16, 1, 1, 1, 1, 1, 1, 16, 16, 1, 1, 1, 1, 1, 1, 1, 1, 1, 1, 1, 1, 1, 1, 1, 1, 1, 1, 1, 1, 1]), .one (.d tI)] ++ nos 198, [q_5, q_0, q_2, q_1]⟩, [(100009, ⟨nos 7 ++ [.one (.p 0 0 [1, 16, 16, 1, 1, 1, 1, 1, 1, 16, 16, 1, 1, 1, 1, 1, 1, 1, 1, 1, 1, 1, 1, 1, 1, 1, 1, 1, 1, 1, 1, 1])] ++ nos 7 ++ [.one (.p 1 0 [1, 16, 16, 1, 1, 1, 1, 1, 1, 16, 16, 1, 1, 1, 1, 1, 1, 1, 1, 1, 1, 1, 1, 1, 1, 1, 1, 1, 1, 1, 1, 1]), .no, .one (.d tB)] ++ nos 197, [q_0, q_1]⟩)]⟩
def h_l21_EpipeWaits : Hi := ⟨[((1, 0), c_l21_alive), ((2, 2), c_l21_Splits), ((3, 4), c_l4_Few), ((3, 9), c_l18_Few), ((3, 20), c_r15_RightState), ((5, 4), c_r15_Next), ((6, 3), c_r15_Copy), ((6, 4), c_epipe_Issue), ((8, 21), c_epipe_Free)], [(100008, s_l21_EpipeWaits_100008)], [27, 32, 37, 41, 47, 67, 72, 80, 89, 92, 99, 102, 107, 117, 120, 129, 132, 141, 144, 151, 159, 168, 177, 186, 199, 209], [100008]⟩
theorem f_5 : Fn Q 5 f5 (codeOf f5) := ⟨by kernel_rfl, by kernel_rfl, by kernel_rfl, by kernel_rfl, by kernel_rfl⟩
noncomputable def T_l21_EpipeWaits (N : Nat) : List CE := [X_l21_alive N, X_l21_Splits N, X_l4_Few N, X_l18_Few N, X_r15_RightState N, X_r15_Next N, X_r15_Copy N, X_epipe_Issue N, X_epipe_Free N]
theorem TT_l21_EpipeWaits (N : Nat) : AllP (CEok Q) (T_l21_EpipeWaits N) := ⟨Y_l21_alive N, Y_l21_Splits N, Y_l4_Few N, Y_l18_Few N, Y_r15_RightState N, Y_r15_Next N, Y_r15_Copy N, Y_epipe_Issue N, Y_epipe_Free N, trivial⟩
theorem A_l21_EpipeWaits (N : Nat) : AllP (fun e => lookC (T_l21_EpipeWaits N) e.2.id = some e.2) h_l21_EpipeWaits.cs := ⟨rfl, rfl, rfl, rfl, rfl, rfl, rfl, rfl, rfl, trivial⟩
noncomputable def l21_EpipeWaits_j100008 (N : Nat) (x0 : Bool) (x1 : Int) (x2 : api_Config) (x3 : api_State) (x4 : api_Cell) (x5 : api_State) : Option Rs :=
 bi (!x0) (
  some (100009, gB.dv true (g_api_State.dv x3 (g_api_State.dv x5 [])))) <|
 bi x3.E.Halted (
  some (100009, gB.dv true (g_api_State.dv x3 (g_api_State.dv x5 [])))) <|
 bi (decide (x3.E.Wait > x3.Cycle)) (
  some (100009, gB.dv true (g_api_State.dv x3 (g_api_State.dv x5 [])))) <|
 on1 (epipe_Free N x3.E x4 x3.Cycle) <| gg [pB] <| fun (x6 : Bool) => 
 bi (!x6) (
  some (100009, gB.dv true (g_api_State.dv x3 (g_api_State.dv x5 [])))) <|
 bi (x1 == 6) (
  bi ((len x3.Aeq) == 0) (
   some (100009, gB.dv true (g_api_State.dv x3 (g_api_State.dv x5 [])))) <|
  bi (x1 == 7) (
   bi ((len x3.Ldq) == 0) (
    some (100009, gB.dv true (g_api_State.dv x3 (g_api_State.dv x5 [])))) <|
   gd (idx 0 (List.length x3.Ldq)) <|
   bi (!(List.getD x3.Ldq 0 api_Slot.z).2.1) (
    some (100009, gB.dv true (g_api_State.dv x3 (g_api_State.dv x5 [])))) <|
   bi (x1 == 8) (
    bi ((len x3.Sdq) == x2.Sdq) (
     some (100009, gB.dv true (g_api_State.dv x3 (g_api_State.dv x5 [])))) <|
    bi (x1 == 9) (
     bi ((len x3.Ebq) == x2.Ebq) (
      some (100009, gB.dv true (g_api_State.dv x3 (g_api_State.dv x5 [])))) <|
     bi (x1 == 10) (
      some (100009, gB.dv ((len x3.Abq) == 0) (g_api_State.dv x3 (g_api_State.dv x5 [])))) <|
     some (100009, gB.dv false (g_api_State.dv x3 (g_api_State.dv x5 [])))) <|
    bi (x1 == 10) (
     some (100009, gB.dv ((len x3.Abq) == 0) (g_api_State.dv x3 (g_api_State.dv x5 [])))) <|
    some (100009, gB.dv false (g_api_State.dv x3 (g_api_State.dv x5 [])))) <|
   bi (x1 == 9) (
    bi ((len x3.Ebq) == x2.Ebq) (
     some (100009, gB.dv true (g_api_State.dv x3 (g_api_State.dv x5 [])))) <|
    bi (x1 == 10) (
     some (100009, gB.dv ((len x3.Abq) == 0) (g_api_State.dv x3 (g_api_State.dv x5 [])))) <|
    some (100009, gB.dv false (g_api_State.dv x3 (g_api_State.dv x5 [])))) <|
   bi (x1 == 10) (
    some (100009, gB.dv ((len x3.Abq) == 0) (g_api_State.dv x3 (g_api_State.dv x5 [])))) <|
   some (100009, gB.dv false (g_api_State.dv x3 (g_api_State.dv x5 [])))) <|
  bi (x1 == 8) (
   bi ((len x3.Sdq) == x2.Sdq) (
    some (100009, gB.dv true (g_api_State.dv x3 (g_api_State.dv x5 [])))) <|
   bi (x1 == 9) (
    bi ((len x3.Ebq) == x2.Ebq) (
     some (100009, gB.dv true (g_api_State.dv x3 (g_api_State.dv x5 [])))) <|
    bi (x1 == 10) (
     some (100009, gB.dv ((len x3.Abq) == 0) (g_api_State.dv x3 (g_api_State.dv x5 [])))) <|
    some (100009, gB.dv false (g_api_State.dv x3 (g_api_State.dv x5 [])))) <|
   bi (x1 == 10) (
    some (100009, gB.dv ((len x3.Abq) == 0) (g_api_State.dv x3 (g_api_State.dv x5 [])))) <|
   some (100009, gB.dv false (g_api_State.dv x3 (g_api_State.dv x5 [])))) <|
  bi (x1 == 9) (
   bi ((len x3.Ebq) == x2.Ebq) (
    some (100009, gB.dv true (g_api_State.dv x3 (g_api_State.dv x5 [])))) <|
   bi (x1 == 10) (
    some (100009, gB.dv ((len x3.Abq) == 0) (g_api_State.dv x3 (g_api_State.dv x5 [])))) <|
   some (100009, gB.dv false (g_api_State.dv x3 (g_api_State.dv x5 [])))) <|
  bi (x1 == 10) (
   some (100009, gB.dv ((len x3.Abq) == 0) (g_api_State.dv x3 (g_api_State.dv x5 [])))) <|
  some (100009, gB.dv false (g_api_State.dv x3 (g_api_State.dv x5 [])))) <|
 bi (x1 == 7) (
  bi ((len x3.Ldq) == 0) (
   some (100009, gB.dv true (g_api_State.dv x3 (g_api_State.dv x5 [])))) <|
  gd (idx 0 (List.length x3.Ldq)) <|
  bi (!(List.getD x3.Ldq 0 api_Slot.z).2.1) (
   some (100009, gB.dv true (g_api_State.dv x3 (g_api_State.dv x5 [])))) <|
  bi (x1 == 8) (
   bi ((len x3.Sdq) == x2.Sdq) (
    some (100009, gB.dv true (g_api_State.dv x3 (g_api_State.dv x5 [])))) <|
   bi (x1 == 9) (
    bi ((len x3.Ebq) == x2.Ebq) (
     some (100009, gB.dv true (g_api_State.dv x3 (g_api_State.dv x5 [])))) <|
    bi (x1 == 10) (
     some (100009, gB.dv ((len x3.Abq) == 0) (g_api_State.dv x3 (g_api_State.dv x5 [])))) <|
    some (100009, gB.dv false (g_api_State.dv x3 (g_api_State.dv x5 [])))) <|
   bi (x1 == 10) (
    some (100009, gB.dv ((len x3.Abq) == 0) (g_api_State.dv x3 (g_api_State.dv x5 [])))) <|
   some (100009, gB.dv false (g_api_State.dv x3 (g_api_State.dv x5 [])))) <|
  bi (x1 == 9) (
   bi ((len x3.Ebq) == x2.Ebq) (
    some (100009, gB.dv true (g_api_State.dv x3 (g_api_State.dv x5 [])))) <|
   bi (x1 == 10) (
    some (100009, gB.dv ((len x3.Abq) == 0) (g_api_State.dv x3 (g_api_State.dv x5 [])))) <|
   some (100009, gB.dv false (g_api_State.dv x3 (g_api_State.dv x5 [])))) <|
  bi (x1 == 10) (
   some (100009, gB.dv ((len x3.Abq) == 0) (g_api_State.dv x3 (g_api_State.dv x5 [])))) <|
  some (100009, gB.dv false (g_api_State.dv x3 (g_api_State.dv x5 [])))) <|
 bi (x1 == 8) (
  bi ((len x3.Sdq) == x2.Sdq) (
   some (100009, gB.dv true (g_api_State.dv x3 (g_api_State.dv x5 [])))) <|
  bi (x1 == 9) (
   bi ((len x3.Ebq) == x2.Ebq) (
    some (100009, gB.dv true (g_api_State.dv x3 (g_api_State.dv x5 [])))) <|
   bi (x1 == 10) (
    some (100009, gB.dv ((len x3.Abq) == 0) (g_api_State.dv x3 (g_api_State.dv x5 [])))) <|
   some (100009, gB.dv false (g_api_State.dv x3 (g_api_State.dv x5 [])))) <|
  bi (x1 == 10) (
   some (100009, gB.dv ((len x3.Abq) == 0) (g_api_State.dv x3 (g_api_State.dv x5 [])))) <|
  some (100009, gB.dv false (g_api_State.dv x3 (g_api_State.dv x5 [])))) <|
 bi (x1 == 9) (
  bi ((len x3.Ebq) == x2.Ebq) (
   some (100009, gB.dv true (g_api_State.dv x3 (g_api_State.dv x5 [])))) <|
  bi (x1 == 10) (
   some (100009, gB.dv ((len x3.Abq) == 0) (g_api_State.dv x3 (g_api_State.dv x5 [])))) <|
  some (100009, gB.dv false (g_api_State.dv x3 (g_api_State.dv x5 [])))) <|
 bi (x1 == 10) (
  some (100009, gB.dv ((len x3.Abq) == 0) (g_api_State.dv x3 (g_api_State.dv x5 [])))) <|
 some (100009, gB.dv false (g_api_State.dv x3 (g_api_State.dv x5 [])))
noncomputable def L_l21_EpipeWaits_100008 (N : Nat) : LE := (100008, mkM [pB, pI, p_api_Config, p_api_State, p_api_Cell, p_api_State] [(100009, [pB, p_api_State, p_api_State])] (l21_EpipeWaits_j100008 N))
theorem K_l21_EpipeWaits_100008 (N : Nat) : LEok Q h_l21_EpipeWaits (bodOf f5) f5.ntmps 0 (L_l21_EpipeWaits_100008 N) :=
 blkG (hi := h_l21_EpipeWaits) (l := T_l21_EpipeWaits N) (t := []) ti_ok hmix (TT_l21_EpipeWaits N) (A_l21_EpipeWaits N) f_5 trivial (ls := s_l21_EpipeWaits_100008) (body := blkAt f5 100008) (by kernel_rfl) (by kernel_rfl) (by kernel_rfl) fun ys => by kernel_rfl
noncomputable def l21_EpipeWaits (N : Nat) (x0 : api_Config) (x1 : api_Program) (x2 : Int) (x3 : api_State) : Option Rs :=
 on1 (l21_alive N ) <| gg [pB] <| fun (x4 : Bool) => 
 on1 (l21_Splits N x1 x2) <| gg [p_api_Split, pB] <| fun (x5 : api_Split) (x6 : Bool) => 
 bi (!x4) (
  some (0, gB.dv x4 [])) <|
 on1 (l4_Few N x1) <| gg [pB] <| fun (x7 : Bool) => 
 bi (!x7) (
  some (0, gB.dv x4 [])) <|
 on1 (l18_Few N x3) <| gg [pB] <| fun (x8 : Bool) => 
 bi (!x8) (
  some (0, gB.dv x4 [])) <|
 bi (!x6) (
  some (0, gB.dv x4 [])) <|
 on1 (r15_RightState N x0 x5 x3) <| gg [pB] <| fun (x9 : Bool) => 
 bi (!x9) (
  some (0, gB.dv x4 [])) <|
 on1 (r15_Next N x5 true x3.E.Pos) <| gg [p_api_Cell, pI, pB] <| fun (x10 : api_Cell) (x11 : Int) (x12 : Bool) => 
 on1 (r15_Copy N x3) <| gg [p_api_State] <| fun (x13 : api_State) => 
 on1 (epipe_Issue N x0 x5 x13) <| gg [p_api_State] <| fun (x14 : api_State) => 
 onA 100009 (l21_EpipeWaits_j100008 N x12 x10.1 x0 x3 x10 x14) <| gg [pB, p_api_State, p_api_State] <| fun (x15 : Bool) (x16 : api_State) (x17 : api_State) => 
 bi x15 (
  bi (x17.E.Done == x16.E.Done) (
   bi (x17.E.Regs == x16.E.Regs) (
    bi ((len x17.Sdq) == (len x16.Sdq)) (
     bi ((len x17.Ebq) == (len x16.Ebq)) (
      some (0, gB.dv ((len x17.Aeq) == (len x16.Aeq)) [])) <|
     some (0, gB.dv false [])) <|
    some (0, gB.dv false [])) <|
   some (0, gB.dv false [])) <|
  some (0, gB.dv false [])) <|
 bi (x16.Trap.Kind != 0) (
  some (0, gB.dv true [])) <|
 bi (x17.E.Done == (w.i64 (x16.E.Done + 1))) (
  some (0, gB.dv true [])) <|
 some (0, gB.dv (x17.Trap.Kind == 3) [])
noncomputable def X_l21_EpipeWaits (N : Nat) : CE := (c_l21_EpipeWaits, mkF [p_api_Config, p_api_Program, pI, p_api_State] [pB] (l21_EpipeWaits N))
theorem Y_l21_EpipeWaits (N : Nat) : CEok Q (X_l21_EpipeWaits N) :=
 fnG (hi := h_l21_EpipeWaits) (l := T_l21_EpipeWaits N) (t := [L_l21_EpipeWaits_100008 N]) ti_ok hmix (TT_l21_EpipeWaits N) (A_l21_EpipeWaits N) f_5 (by kernel_rfl) (by kernel_rfl) ⟨K_l21_EpipeWaits_100008 N, trivial⟩ fun ys => by kernel_rfl
end Go.Proofs.Zz
