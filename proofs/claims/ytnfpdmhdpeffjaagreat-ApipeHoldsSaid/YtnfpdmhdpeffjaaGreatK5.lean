import Derived.Test.YtnfpdmhdpeffjaaGreatK4
set_option linter.unusedSimpArgs false
set_option linter.unusedVariables false
/- What functions of the program compute, as plain functions. -/
set_option linter.unusedVariables false
set_option maxRecDepth 100000
namespace Go.Proofs.Zz
open Go Go.Proofs.Tryz
def c_r1_Do : CS := ⟨140, 86, ⟨[.agg [.d tI, .d tI, .d tI, .d tI, .d tI], .one (.d tW), .one (.d tW)], []⟩, [.one (.d tW), .one (.d tB)], false, []⟩
def h_r1_Do : Hi := ⟨[((1, 2), c_r1_Form), ((2, 1), c_r1_RightIns), ((9, 1), c_r1_Int), ((10, 1), c_r1_Int), ((29, 3), c_r1_one), ((31, 3), c_r1_one), ((40, 2), c_r1_div)], [], [21, 25, 28, 32, 48, 53, 58, 63, 68, 73, 79, 85, 92, 98, 104, 110, 117, 124, 132, 136, 140], []⟩
theorem f_86 : Fn Q 86 f86 (codeOf f86) := ⟨by kernel_rfl, by kernel_rfl, by kernel_rfl, by kernel_rfl, by kernel_rfl⟩
noncomputable def r1_Do (N : Nat) (x0 : api_Ins) (x1 : Int) (x2 : Int) : Option Rs :=
 on1 (r1_Form N x0.1) <| gg [pI] <| fun (x3 : Int) => 
 on1 (r1_RightIns N x0) <| gg [pB] <| fun (x4 : Bool) => 
 bi (!x4) (
  some (0, gW.dv 0 (gB.dv true []))) <|
 bi (decide (x3 < 1)) (
  some (0, gW.dv 0 (gB.dv true []))) <|
 bi (decide (x3 > 3)) (
  some (0, gW.dv 0 (gB.dv true []))) <|
 bi (x3 == 2) (
  gd (idx (w.i64 (x0.1 - 17)) (List.length [(1 : Int), 3, 4, 5, 9, 6, 7, 8])) <|
  on1 (r1_Int N x1) <| gg [pI] <| fun (x5 : Int) => 
  on1 (r1_Int N (w.u32 x0.2.2.2.2.1)) <| gg [pI] <| fun (x6 : Int) => 
  bi ((List.getD [(1 : Int), 3, 4, 5, 9, 6, 7, 8] (Int.toNat (w.i64 (x0.1 - 17))) 0) == 1) (
   some (0, gW.dv (w.u32 (x1 + (w.u32 x0.2.2.2.2.1))) (gB.dv true []))) <|
  bi ((List.getD [(1 : Int), 3, 4, 5, 9, 6, 7, 8] (Int.toNat (w.i64 (x0.1 - 17))) 0) == 2) (
   some (0, gW.dv (w.u32 (x1 - (w.u32 x0.2.2.2.2.1))) (gB.dv true []))) <|
  bi ((List.getD [(1 : Int), 3, 4, 5, 9, 6, 7, 8] (Int.toNat (w.i64 (x0.1 - 17))) 0) == 3) (
   some (0, gW.dv (bitAnd .u32 x1 (w.u32 x0.2.2.2.2.1)) (gB.dv true []))) <|
  bi ((List.getD [(1 : Int), 3, 4, 5, 9, 6, 7, 8] (Int.toNat (w.i64 (x0.1 - 17))) 0) == 4) (
   some (0, gW.dv (bitOr .u32 x1 (w.u32 x0.2.2.2.2.1)) (gB.dv true []))) <|
  bi ((List.getD [(1 : Int), 3, 4, 5, 9, 6, 7, 8] (Int.toNat (w.i64 (x0.1 - 17))) 0) == 5) (
   some (0, gW.dv (bitXor .u32 x1 (w.u32 x0.2.2.2.2.1)) (gB.dv true []))) <|
  bi ((List.getD [(1 : Int), 3, 4, 5, 9, 6, 7, 8] (Int.toNat (w.i64 (x0.1 - 17))) 0) == 6) (
   gf (decide ((bitAnd .u32 (w.u32 x0.2.2.2.2.1) 31) < 0)) <|
   some (0, gW.dv (shl .u32 x1 (bitAnd .u32 (w.u32 x0.2.2.2.2.1) 31)) (gB.dv true []))) <|
  bi ((List.getD [(1 : Int), 3, 4, 5, 9, 6, 7, 8] (Int.toNat (w.i64 (x0.1 - 17))) 0) == 7) (
   gf (decide ((bitAnd .u32 (w.u32 x0.2.2.2.2.1) 31) < 0)) <|
   some (0, gW.dv (shr .u32 x1 (bitAnd .u32 (w.u32 x0.2.2.2.2.1) 31)) (gB.dv true []))) <|
  bi ((List.getD [(1 : Int), 3, 4, 5, 9, 6, 7, 8] (Int.toNat (w.i64 (x0.1 - 17))) 0) == 8) (
   gf (decide ((bitAnd .u32 (w.u32 x0.2.2.2.2.1) 31) < 0)) <|
   some (0, gW.dv (w.u32 (shr .i64 x5 (bitAnd .u32 (w.u32 x0.2.2.2.2.1) 31))) (gB.dv true []))) <|
  bi ((List.getD [(1 : Int), 3, 4, 5, 9, 6, 7, 8] (Int.toNat (w.i64 (x0.1 - 17))) 0) == 9) (
   on1 (r1_one N (decide (x5 < x6))) <| gg [pW] <| fun (x7 : Int) => 
   some (0, gW.dv x7 (gB.dv true []))) <|
  bi ((List.getD [(1 : Int), 3, 4, 5, 9, 6, 7, 8] (Int.toNat (w.i64 (x0.1 - 17))) 0) == 10) (
   on1 (r1_one N (decide (x1 < (w.u32 x0.2.2.2.2.1)))) <| gg [pW] <| fun (x8 : Int) => 
   some (0, gW.dv x8 (gB.dv true []))) <|
  bi ((List.getD [(1 : Int), 3, 4, 5, 9, 6, 7, 8] (Int.toNat (w.i64 (x0.1 - 17))) 0) == 11) (
   some (0, gW.dv (w.u32 (w.i64 (x5 * x6))) (gB.dv true []))) <|
  bi ((List.getD [(1 : Int), 3, 4, 5, 9, 6, 7, 8] (Int.toNat (w.i64 (x0.1 - 17))) 0) == 12) (
   gf (decide ((32 : Int) < (0 : Int))) <|
   some (0, gW.dv (w.u32 (shr .i64 (w.i64 (x5 * x6)) 32)) (gB.dv true []))) <|
  bi ((List.getD [(1 : Int), 3, 4, 5, 9, 6, 7, 8] (Int.toNat (w.i64 (x0.1 - 17))) 0) == 25) (
   gf (decide ((18 : Int) < (0 : Int))) <|
   some (0, gW.dv (shl .u32 (w.u32 x0.2.2.2.2.1) 18) (gB.dv true []))) <|
  bi ((w.u32 x0.2.2.2.2.1) == 0) (
   some (0, gW.dv 0 (gB.dv false []))) <|
  on1 (r1_div N x5 x6) <| gg [pI, pI] <| fun (x9 : Int) (x10 : Int) => 
  bi ((List.getD [(1 : Int), 3, 4, 5, 9, 6, 7, 8] (Int.toNat (w.i64 (x0.1 - 17))) 0) == 13) (
   some (0, gW.dv (w.u32 x9) (gB.dv true []))) <|
  bi ((List.getD [(1 : Int), 3, 4, 5, 9, 6, 7, 8] (Int.toNat (w.i64 (x0.1 - 17))) 0) == 15) (
   some (0, gW.dv (w.u32 x10) (gB.dv true []))) <|
  bi ((List.getD [(1 : Int), 3, 4, 5, 9, 6, 7, 8] (Int.toNat (w.i64 (x0.1 - 17))) 0) == 14) (
   gf (decide ((w.u32 x0.2.2.2.2.1) = 0)) <|
   some (0, gW.dv (w.u32 (Int.tdiv x1 (w.u32 x0.2.2.2.2.1))) (gB.dv true []))) <|
  gf (decide ((w.u32 x0.2.2.2.2.1) = 0)) <|
  some (0, gW.dv (Int.tmod x1 (w.u32 x0.2.2.2.2.1)) (gB.dv true []))) <|
 on1 (r1_Int N x1) <| gg [pI] <| fun (x11 : Int) => 
 on1 (r1_Int N x2) <| gg [pI] <| fun (x12 : Int) => 
 bi (x0.1 == 1) (
  some (0, gW.dv (w.u32 (x1 + x2)) (gB.dv true []))) <|
 bi (x0.1 == 2) (
  some (0, gW.dv (w.u32 (x1 - x2)) (gB.dv true []))) <|
 bi (x0.1 == 3) (
  some (0, gW.dv (bitAnd .u32 x1 x2) (gB.dv true []))) <|
 bi (x0.1 == 4) (
  some (0, gW.dv (bitOr .u32 x1 x2) (gB.dv true []))) <|
 bi (x0.1 == 5) (
  some (0, gW.dv (bitXor .u32 x1 x2) (gB.dv true []))) <|
 bi (x0.1 == 6) (
  gf (decide ((bitAnd .u32 x2 31) < 0)) <|
  some (0, gW.dv (shl .u32 x1 (bitAnd .u32 x2 31)) (gB.dv true []))) <|
 bi (x0.1 == 7) (
  gf (decide ((bitAnd .u32 x2 31) < 0)) <|
  some (0, gW.dv (shr .u32 x1 (bitAnd .u32 x2 31)) (gB.dv true []))) <|
 bi (x0.1 == 8) (
  gf (decide ((bitAnd .u32 x2 31) < 0)) <|
  some (0, gW.dv (w.u32 (shr .i64 x11 (bitAnd .u32 x2 31))) (gB.dv true []))) <|
 bi (x0.1 == 9) (
  on1 (r1_one N (decide (x11 < x12))) <| gg [pW] <| fun (x13 : Int) => 
  some (0, gW.dv x13 (gB.dv true []))) <|
 bi (x0.1 == 10) (
  on1 (r1_one N (decide (x1 < x2))) <| gg [pW] <| fun (x14 : Int) => 
  some (0, gW.dv x14 (gB.dv true []))) <|
 bi (x0.1 == 11) (
  some (0, gW.dv (w.u32 (w.i64 (x11 * x12))) (gB.dv true []))) <|
 bi (x0.1 == 12) (
  gf (decide ((32 : Int) < (0 : Int))) <|
  some (0, gW.dv (w.u32 (shr .i64 (w.i64 (x11 * x12)) 32)) (gB.dv true []))) <|
 bi (x0.1 == 25) (
  gf (decide ((18 : Int) < (0 : Int))) <|
  some (0, gW.dv (shl .u32 (w.u32 x0.2.2.2.2.1) 18) (gB.dv true []))) <|
 bi (x2 == 0) (
  some (0, gW.dv 0 (gB.dv false []))) <|
 on1 (r1_div N x11 x12) <| gg [pI, pI] <| fun (x15 : Int) (x16 : Int) => 
 bi (x0.1 == 13) (
  some (0, gW.dv (w.u32 x15) (gB.dv true []))) <|
 bi (x0.1 == 15) (
  some (0, gW.dv (w.u32 x16) (gB.dv true []))) <|
 bi (x0.1 == 14) (
  gf (decide (x2 = 0)) <|
  some (0, gW.dv (w.u32 (Int.tdiv x1 x2)) (gB.dv true []))) <|
 gf (decide (x2 = 0)) <|
 some (0, gW.dv (Int.tmod x1 x2) (gB.dv true []))
noncomputable def X_r1_Do (N : Nat) : CE := (c_r1_Do, mkF [p_api_Ins, pW, pW] [pW, pB] (r1_Do N))
theorem Y_r1_Do (N : Nat) : CEok Q (X_r1_Do N) :=
 fnG (hi := h_r1_Do) (l := [X_r1_Form N, X_r1_RightIns N, X_r1_Int N, X_r1_one N, X_r1_div N]) (t := []) ti_ok hmix ⟨Y_r1_Form N, Y_r1_RightIns N, Y_r1_Int N, Y_r1_one N, Y_r1_div N, trivial⟩ ⟨rfl, rfl, rfl, rfl, rfl, rfl, rfl, trivial⟩ f_86 (by kernel_rfl) (by kernel_rfl) trivial fun ys => by kernel_rfl
def c_r1_Latency : CS := ⟨141, 89, ⟨[.agg q_5, .one (.d tI)], []⟩, [.one (.d tI)], true, []⟩
def h_r1_Latency : Hi := ⟨[], [], [6, 9, 15, 18, 26, 29], []⟩
theorem f_89 : Fn Q 89 f89 (codeOf f89) := ⟨by kernel_rfl, by kernel_rfl, by kernel_rfl, by kernel_rfl, by kernel_rfl⟩
noncomputable def r1_Latency (N : Nat) (x0 : api_Config) (x1 : Int) : Option Rs :=
 bi (x1 == 11) (
  bi (decide (x0.Mul < 1)) (
   some (0, gI.dv 1 [])) <|
  bi (decide (x0.Mul > 50)) (
   some (0, gI.dv 1 [])) <|
  some (0, gI.dv x0.Mul [])) <|
 bi (x1 == 12) (
  bi (decide (x0.Mul < 1)) (
   some (0, gI.dv 1 [])) <|
  bi (decide (x0.Mul > 50)) (
   some (0, gI.dv 1 [])) <|
  some (0, gI.dv x0.Mul [])) <|
 bi (decide (x1 ≥ 13)) (
  bi (decide (x1 ≤ 16)) (
   bi (decide (x0.Div < 1)) (
    some (0, gI.dv 1 [])) <|
   bi (decide (x0.Div > 50)) (
    some (0, gI.dv 1 [])) <|
   some (0, gI.dv x0.Div [])) <|
  bi (decide ((1 : Int) < (1 : Int))) (
   some (0, gI.dv 1 [])) <|
  bi (decide ((1 : Int) > (50 : Int))) (
   some (0, gI.dv 1 [])) <|
  some (0, gI.dv 1 [])) <|
 bi (decide ((1 : Int) < (1 : Int))) (
  some (0, gI.dv 1 [])) <|
 bi (decide ((1 : Int) > (50 : Int))) (
  some (0, gI.dv 1 [])) <|
 some (0, gI.dv 1 [])
noncomputable def X_r1_Latency (N : Nat) : CE := (c_r1_Latency, mkF [p_api_Config, pI] [pI] (r1_Latency N))
theorem Y_r1_Latency (N : Nat) : CEok Q (X_r1_Latency N) :=
 fnG (hi := h_r1_Latency) (l := []) (t := []) ti_ok hmix trivial trivial f_89 (by kernel_rfl) (by kernel_rfl) trivial fun ys => by kernel_rfl
def c_r21_set_E : CS := ⟨142, 88, ⟨[.one (.p 0 9 [16, 16, 1, 1, 1, 1, 1, 1]), .one (.d tI), .one (.d tW), .one (.d tI)], [q_1]⟩, [], false, [q_1]⟩
def h_r21_set_E : Hi := ⟨[], [], [10, 13], []⟩
theorem f_88 : Fn Q 88 f88 (codeOf f88) := ⟨by kernel_rfl, by kernel_rfl, by kernel_rfl, by kernel_rfl, by kernel_rfl⟩
noncomputable def r21_set_E (N : Nat) (x0 : Int) (x1 : Int) (x2 : Int) (x3 : api_State) : Option Rs :=
 bi (decide (x0 ≥ 1)) (
  bi (decide (x0 ≤ 15)) (
   gd (idx x0 16) <|
   gd (idx x0 16) <|
   some (0, g_api_State.dv ({ x3 with E := { x3.E with Regs := (List.set x3.E.Regs x0.toNat x1), Ready := (List.set x3.E.Ready x0.toNat x2) } } : api_State) [])) <|
  some (0, g_api_State.dv x3 [])) <|
 some (0, g_api_State.dv x3 [])
noncomputable def X_r21_set_E (N : Nat) : CE := (c_r21_set_E, mkF [pI, pW, pI, p_api_State] [p_api_State] (r21_set_E N))
theorem Y_r21_set_E (N : Nat) : CEok Q (X_r21_set_E N) :=
 fnG (hi := h_r21_set_E) (l := []) (t := []) ti_ok hmix trivial trivial f_88 (by kernel_rfl) (by kernel_rfl) trivial fun ys => by kernel_rfl
def c_r21_on_E : CS := ⟨143, 90, ⟨[.one (.p 0 9 [16, 16, 1, 1, 1, 1, 1, 1])], [q_1]⟩, [], false, [q_1]⟩
def h_r21_on_E : Hi := ⟨[], [], [], []⟩
theorem f_90 : Fn Q 90 f90 (codeOf f90) := ⟨by kernel_rfl, by kernel_rfl, by kernel_rfl, by kernel_rfl, by kernel_rfl⟩
noncomputable def r21_on_E (N : Nat) (x0 : api_State) : Option Rs :=
 some (0, g_api_State.dv ({ x0 with E := { x0.E with Pos := { x0.E.Pos with Index := (w.i64 (x0.E.Pos.Index + 1)) }, Done := (w.i64 (x0.E.Done + 1)) } } : api_State) [])
noncomputable def X_r21_on_E (N : Nat) : CE := (c_r21_on_E, mkF [p_api_State] [p_api_State] (r21_on_E N))
theorem Y_r21_on_E (N : Nat) : CEok Q (X_r21_on_E N) :=
 fnG (hi := h_r21_on_E) (l := []) (t := []) ti_ok hmix trivial trivial f_90 (by kernel_rfl) (by kernel_rfl) trivial fun ys => by kernel_rfl
def c_r15_PopSlot : CS := ⟨144, 91, ⟨[.one (.d (.sl t_api_Slot))], []⟩, [.one (.o t_api_Slot), .one (.d tW), .one (.d tB)], false, []⟩
def h_r15_PopSlot : Hi := ⟨[((2, 1), c_r15_slots), ((3, 2), c_r15_slots)], [], [8, 14], []⟩
theorem f_91 : Fn Q 91 f91 (codeOf f91) := ⟨by kernel_rfl, by kernel_rfl, by kernel_rfl, by kernel_rfl, by kernel_rfl⟩
noncomputable def r15_PopSlot (N : Nat) (x0 : List api_Slot) : Option Rs :=
 bi ((len x0) == 0) (
  on1 (r15_slots N x0) <| gg [pD (.sl t_api_Slot)] <| fun (x1 : List api_Slot) => 
  some (0, (gD (.sl t_api_Slot)).dv x1 (gW.dv 0 (gB.dv false [])))) <|
 gd (idx 0 (List.length x0)) <|
 bi (!(List.getD x0 0 api_Slot.z).2.1) (
  on1 (r15_slots N x0) <| gg [pD (.sl t_api_Slot)] <| fun (x2 : List api_Slot) => 
  some (0, (gD (.sl t_api_Slot)).dv x2 (gW.dv 0 (gB.dv false [])))) <|
 gd (sb 1 (len x0)) <|
 on1 (r15_slots N (List.drop 1 x0)) <| gg [pD (.sl t_api_Slot)] <| fun (x3 : List api_Slot) => 
 gd (idx 0 (List.length x0)) <|
 some (0, (gD (.sl t_api_Slot)).dv x3 (gW.dv ((List.getD x0 0 api_Slot.z).2.2.1) (gB.dv true [])))
noncomputable def X_r15_PopSlot (N : Nat) : CE := (c_r15_PopSlot, mkF [pD (.sl t_api_Slot)] [pD (.sl t_api_Slot), pW, pB] (r15_PopSlot N))
theorem Y_r15_PopSlot (N : Nat) : CEok Q (X_r15_PopSlot N) :=
 fnG (hi := h_r15_PopSlot) (l := [X_r15_slots N]) (t := []) ti_ok hmix ⟨Y_r15_slots N, trivial⟩ ⟨rfl, rfl, trivial⟩ f_91 (by kernel_rfl) (by kernel_rfl) trivial fun ys => by kernel_rfl
def c_r1_Taken : CS := ⟨145, 92, ⟨[.one (.d tI), .one (.d tW), .one (.d tW)], []⟩, [.one (.d tB)], true, []⟩
def h_r1_Taken : Hi := ⟨[((7, 1), c_r1_Int), ((7, 3), c_r1_Int), ((9, 1), c_r1_Int), ((9, 3), c_r1_Int)], [], [8, 13, 18, 25, 32, 37], []⟩
theorem f_92 : Fn Q 92 f92 (codeOf f92) := ⟨by kernel_rfl, by kernel_rfl, by kernel_rfl, by kernel_rfl, by kernel_rfl⟩
noncomputable def r1_Taken (N : Nat) (x0 : Int) (x1 : Int) (x2 : Int) : Option Rs :=
 bi (x0 == 34) (
  some (0, gB.dv (x1 == x2) [])) <|
 bi (x0 == 35) (
  some (0, gB.dv (x1 != x2) [])) <|
 bi (x0 == 36) (
  on1 (r1_Int N x1) <| gg [pI] <| fun (x3 : Int) => 
  on1 (r1_Int N x2) <| gg [pI] <| fun (x4 : Int) => 
  some (0, gB.dv (decide (x3 < x4)) [])) <|
 bi (x0 == 37) (
  on1 (r1_Int N x1) <| gg [pI] <| fun (x5 : Int) => 
  on1 (r1_Int N x2) <| gg [pI] <| fun (x6 : Int) => 
  some (0, gB.dv (decide (x5 ≥ x6)) [])) <|
 bi (x0 == 38) (
  some (0, gB.dv (decide (x1 < x2)) [])) <|
 bi (x0 == 39) (
  some (0, gB.dv (decide (x1 ≥ x2)) [])) <|
 some (0, gB.dv false [])
noncomputable def X_r1_Taken (N : Nat) : CE := (c_r1_Taken, mkF [pI, pW, pW] [pB] (r1_Taken N))
theorem Y_r1_Taken (N : Nat) : CEok Q (X_r1_Taken N) :=
 fnG (hi := h_r1_Taken) (l := [X_r1_Int N]) (t := []) ti_ok hmix ⟨Y_r1_Int N, trivial⟩ ⟨rfl, rfl, rfl, rfl, trivial⟩ f_92 (by kernel_rfl) (by kernel_rfl) trivial fun ys => by kernel_rfl
def c_r15_Go : CS := ⟨146, 161, ⟨[.agg [.d (.sl t_api_Block), .d (.ar 16 tI)], .agg [.d tI, .d tI, .d tI], .one (.d tB)], []⟩, [.agg [.d tI, .d tI, .d tI]], true, []⟩
def h_r15_Go : Hi := ⟨[((2, 12), c_r15_long)], [], [8, 13, 21, 31, 43], []⟩
theorem f_161 : Fn Q 161 f161 (codeOf f161) := ⟨by kernel_rfl, by kernel_rfl, by kernel_rfl, by kernel_rfl, by kernel_rfl⟩
noncomputable def r15_Go (N : Nat) (x0 : api_Split) (x1 : api_Pos) (x2 : Bool) : Option Rs :=
 bi x2 (
  bi (decide (x1.Block ≥ 0)) (
   bi (decide (x1.Block < (len x0.Blocks))) (
    gd (idx x1.Block (List.length x0.Blocks)) <|
    bi (decide ((List.getD x0.Blocks x1.Block.toNat api_Block.z).2.2.2.1 ≥ 0)) (
     gd (idx x1.Block (List.length x0.Blocks)) <|
     bi (decide ((List.getD x0.Blocks x1.Block.toNat api_Block.z).2.2.2.1 < (len x0.Blocks))) (
      gd (idx x1.Block (List.length x0.Blocks)) <|
      on1 (r15_long N x0 x1.Block) <| gg [pI] <| fun (x3 : Int) => 
      some (0, g_api_Pos.dv (api_Pos.mk ((List.getD x0.Blocks x1.Block.toNat api_Block.z).2.2.2.1) 0 (w.i64 (x1.Base + x3))) [])) <|
     some (0, g_api_Pos.dv ({ x1 with Index := (w.i64 (x1.Index + 1)) } : api_Pos) [])) <|
    some (0, g_api_Pos.dv ({ x1 with Index := (w.i64 (x1.Index + 1)) } : api_Pos) [])) <|
   some (0, g_api_Pos.dv ({ x1 with Index := (w.i64 (x1.Index + 1)) } : api_Pos) [])) <|
  some (0, g_api_Pos.dv ({ x1 with Index := (w.i64 (x1.Index + 1)) } : api_Pos) [])) <|
 some (0, g_api_Pos.dv ({ x1 with Index := (w.i64 (x1.Index + 1)) } : api_Pos) [])
noncomputable def X_r15_Go (N : Nat) : CE := (c_r15_Go, mkF [p_api_Split, p_api_Pos, pB] [p_api_Pos] (r15_Go N))
theorem Y_r15_Go (N : Nat) : CEok Q (X_r15_Go N) :=
 fnG (hi := h_r15_Go) (l := [X_r15_long N]) (t := []) ti_ok hmix ⟨Y_r15_long N, trivial⟩ ⟨rfl, trivial⟩ f_161 (by kernel_rfl) (by kernel_rfl) trivial fun ys => by kernel_rfl
def c_r21_turn_E : CS := ⟨147, 93, ⟨[.agg [.d (.sl t_api_Block), .d (.ar 16 tI)], .one (.p 0 9 [16, 16, 1, 1, 1, 1, 1, 1]), .one (.d tB), .one (.d tI)], [q_1]⟩, [], false, [q_1]⟩
def h_r21_turn_E : Hi := ⟨[((1, 7), c_r15_Go)], [], [18], []⟩
theorem f_93 : Fn Q 93 f93 (codeOf f93) := ⟨by kernel_rfl, by kernel_rfl, by kernel_rfl, by kernel_rfl, by kernel_rfl⟩
noncomputable def r21_turn_E (N : Nat) (x0 : api_Split) (x1 : Bool) (x2 : Int) (x3 : api_State) : Option Rs :=
 on1 (r15_Go N x0 x3.E.Pos x1) <| gg [p_api_Pos] <| fun (x4 : api_Pos) => 
 bi x1 (
  some (0, g_api_State.dv ({ x3 with E := { x3.E with Pos := x4, Wait := (w.i64 (x2 + 2)), Done := (w.i64 (x3.E.Done + 1)) } } : api_State) [])) <|
 some (0, g_api_State.dv ({ x3 with E := { x3.E with Pos := x4, Done := (w.i64 (x3.E.Done + 1)) } } : api_State) [])
noncomputable def X_r21_turn_E (N : Nat) : CE := (c_r21_turn_E, mkF [p_api_Split, pB, pI, p_api_State] [p_api_State] (r21_turn_E N))
theorem Y_r21_turn_E (N : Nat) : CEok Q (X_r21_turn_E N) :=
 fnG (hi := h_r21_turn_E) (l := [X_r15_Go N]) (t := []) ti_ok hmix ⟨Y_r15_Go N, trivial⟩ ⟨rfl, trivial⟩ f_93 (by kernel_rfl) (by kernel_rfl) trivial fun ys => by kernel_rfl
def c_r21_IssueE : CS := ⟨148, 36, ⟨[.agg q_5, .agg [.d (.sl t_api_Block), .d (.ar 16 tI)], .agg q_0], []⟩, [.agg q_1], true, []⟩
def h_r21_IssueE : Hi := ⟨[((1, 1), c_r15_Copy), ((2, 3), c_r15_RightState), ((4, 4), c_r15_Settle), ((6, 2), c_r15_Next), ((8, 5), c_r21_end), ((8, 6), c_r21_Note), ((9, 2), c_r21_stopped), ((9, 9), c_r21_Free), ((14, 5), c_r21_value), ((14, 10), c_r21_value), ((14, 11), c_r1_Do), ((16, 4), c_r21_Note), ((17, 9), c_r1_Latency), ((17, 11), c_r21_set_E), ((18, 1), c_r21_on_E), ((21, 10), c_r21_set_E), ((23, 1), c_r21_on_E), ((25, 2), c_r15_PopSlot), ((28, 7), c_r21_set_E), ((29, 1), c_r21_on_E), ((32, 6), c_r21_value), ((33, 1), c_r21_on_E), ((36, 6), c_r21_value), ((36, 11), c_r21_value), ((36, 12), c_r1_Taken), ((38, 5), c_r21_turn_E), ((43, 5), c_r21_turn_E), ((45, 4), c_r21_turn_E)], [], [27, 32, 39, 59, 70, 78, 84, 102, 122, 127, 145, 154, 167, 174, 187, 194, 220, 225, 240, 247], []⟩
theorem f_36 : Fn Q 36 f36 (codeOf f36) := ⟨by kernel_rfl, by kernel_rfl, by kernel_rfl, by kernel_rfl, by kernel_rfl⟩
noncomputable def r21_IssueE (N : Nat) (x0 : api_Config) (x1 : api_Split) (x2 : api_State) : Option Rs :=
 on1 (r15_Copy N x2) <| gg [p_api_State] <| fun (x3 : api_State) => 
 on1 (r15_RightState N x0 x1 x3) <| gg [pB] <| fun (x4 : Bool) => 
 bi (!x4) (
  some (0, g_api_State.dv x3 [])) <|
 bi x3.E.Halted (
  some (0, g_api_State.dv x3 [])) <|
 bi (decide (x3.E.Wait > x3.Cycle)) (
  some (0, g_api_State.dv x3 [])) <|
 on1 (r15_Settle N x1 true x3.E.Pos) <| gg [p_api_Pos, pB] <| fun (x5 : api_Pos) (x6 : Bool) => 
 on1 (r15_Next N x1 true x5) <| gg [p_api_Cell, pI, pB] <| fun (x7 : api_Cell) (x8 : Int) (x9 : Bool) => 
 bi x6 (
  on1 (r21_end N x1 x5.Block) <| gg [pI] <| fun (x10 : Int) => 
  on1 (r21_Note N ({ x3 with E := { x3.E with Pos := x5 } } : api_State) 4 x8 x10) <| gg [p_api_State] <| fun (x11 : api_State) => 
  some (0, g_api_State.dv x11 [])) <|
 on1 (r21_stopped N ({ x3 with E := { x3.E with Pos := x5 } } : api_State) x8) <| gg [pB] <| fun (x12 : Bool) => 
 bi x12 (
  some (0, g_api_State.dv ({ x3 with E := { x3.E with Pos := x5 } } : api_State) [])) <|
 on1 (r21_Free N ({ x3.E with Pos := x5 } : api_Side) x7 x3.Cycle) <| gg [pB] <| fun (x13 : Bool) => 
 bi (!x13) (
  some (0, g_api_State.dv ({ x3 with E := { x3.E with Pos := x5 } } : api_State) [])) <|
 bi (x7.1 == 1) (
  on1 (r21_value N ({ x3.E with Pos := x5 } : api_Side) x7.2.1.2.2.1) <| gg [pW] <| fun (x14 : Int) => 
  on1 (r21_value N ({ x3.E with Pos := x5 } : api_Side) x7.2.1.2.2.2.1) <| gg [pW] <| fun (x15 : Int) => 
  on1 (r1_Do N x7.2.1 x14 x15) <| gg [pW, pB] <| fun (x16 : Int) (x17 : Bool) => 
  bi (!x17) (
   on1 (r21_Note N ({ x3 with E := { x3.E with Pos := x5 } } : api_State) 3 x8 x7.2.2.2.1) <| gg [p_api_State] <| fun (x18 : api_State) => 
   some (0, g_api_State.dv x18 [])) <|
  on1 (r1_Latency N x0 x7.2.1.1) <| gg [pI] <| fun (x19 : Int) => 
  on1 (r21_set_E N x7.2.1.2.1 x16 (w.i64 (x3.Cycle + x19)) ({ x3 with E := { x3.E with Pos := x5 } } : api_State)) <| gg [p_api_State] <| fun (x20 : api_State) => 
  on1 (r21_on_E N x20) <| gg [p_api_State] <| fun (x21 : api_State) => 
  some (0, g_api_State.dv x21 [])) <|
 bi (x7.1 == 6) (
  bi (decide ((len x3.Aeq) > 0)) (
   gd (idx 0 (List.length x3.Aeq)) <|
   on1 (r21_set_E N x7.2.2.1 (List.getD x3.Aeq 0 0) (w.i64 (x3.Cycle + 1)) ({ x3 with E := { x3.E with Pos := x5 } } : api_State)) <| gg [p_api_State] <| fun (x22 : api_State) => 
   gd (sb 1 (len x22.Aeq)) <|
   on1 (r21_on_E N ({ x22 with Aeq := (List.drop 1 x22.Aeq) } : api_State)) <| gg [p_api_State] <| fun (x23 : api_State) => 
   some (0, g_api_State.dv x23 [])) <|
  some (0, g_api_State.dv ({ x3 with E := { x3.E with Pos := x5 } } : api_State) [])) <|
 bi (x7.1 == 7) (
  on1 (r15_PopSlot N x3.Ldq) <| gg [pD (.sl t_api_Slot), pW, pB] <| fun (x24 : List api_Slot) (x25 : Int) (x26 : Bool) => 
  bi x26 (
   on1 (r21_set_E N x7.2.1.2.1 x25 (w.i64 (x3.Cycle + 1)) ({ x3 with E := { x3.E with Pos := x5 }, Ldq := x24 } : api_State)) <| gg [p_api_State] <| fun (x27 : api_State) => 
   on1 (r21_on_E N x27) <| gg [p_api_State] <| fun (x28 : api_State) => 
   some (0, g_api_State.dv x28 [])) <|
  some (0, g_api_State.dv ({ x3 with E := { x3.E with Pos := x5 } } : api_State) [])) <|
 bi (x7.1 == 8) (
  bi (decide ((len x3.Sdq) < x0.Sdq)) (
   on1 (r21_value N ({ x3.E with Pos := x5 } : api_Side) x7.2.2.1) <| gg [pW] <| fun (x29 : Int) => 
   gd (rm x3.Sdq [x29] 4) <|
   on1 (r21_on_E N ({ x3 with E := { x3.E with Pos := x5 }, Sdq := (x3.Sdq ++ [x29]) } : api_State)) <| gg [p_api_State] <| fun (x30 : api_State) => 
   some (0, g_api_State.dv x30 [])) <|
  some (0, g_api_State.dv ({ x3 with E := { x3.E with Pos := x5 } } : api_State) [])) <|
 bi (x7.1 == 9) (
  bi (decide ((len x3.Ebq) < x0.Ebq)) (
   on1 (r21_value N ({ x3.E with Pos := x5 } : api_Side) x7.2.1.2.2.1) <| gg [pW] <| fun (x31 : Int) => 
   on1 (r21_value N ({ x3.E with Pos := x5 } : api_Side) x7.2.1.2.2.2.1) <| gg [pW] <| fun (x32 : Int) => 
   on1 (r1_Taken N x7.2.1.1 x31 x32) <| gg [pB] <| fun (x33 : Bool) => 
   gd (rm x3.Ebq [x33] 1) <|
   on1 (r21_turn_E N x1 x33 x3.Cycle ({ x3 with E := { x3.E with Pos := x5 }, Ebq := (x3.Ebq ++ [x33]) } : api_State)) <| gg [p_api_State] <| fun (x34 : api_State) => 
   some (0, g_api_State.dv x34 [])) <|
  some (0, g_api_State.dv ({ x3 with E := { x3.E with Pos := x5 } } : api_State) [])) <|
 bi (x7.1 == 10) (
  bi (decide ((len x3.Abq) > 0)) (
   gd (idx 0 (List.length x3.Abq)) <|
   gd (sb 1 (len x3.Abq)) <|
   on1 (r21_turn_E N x1 (List.getD x3.Abq 0 false) x3.Cycle ({ x3 with E := { x3.E with Pos := x5 }, Abq := (List.drop 1 x3.Abq) } : api_State)) <| gg [p_api_State] <| fun (x35 : api_State) => 
   some (0, g_api_State.dv x35 [])) <|
  some (0, g_api_State.dv ({ x3 with E := { x3.E with Pos := x5 } } : api_State) [])) <|
 bi (x7.1 == 11) (
  on1 (r21_turn_E N x1 true x3.Cycle ({ x3 with E := { x3.E with Pos := x5 } } : api_State)) <| gg [p_api_State] <| fun (x36 : api_State) => 
  some (0, g_api_State.dv x36 [])) <|
 bi (x7.1 == 12) (
  some (0, g_api_State.dv ({ x3 with E := { x3.E with Pos := x5, Halted := true, Done := (w.i64 (x3.E.Done + 1)) } } : api_State) [])) <|
 some (0, g_api_State.dv ({ x3 with E := { x3.E with Pos := x5 } } : api_State) [])
noncomputable def X_r21_IssueE (N : Nat) : CE := (c_r21_IssueE, mkF [p_api_Config, p_api_Split, p_api_State] [p_api_State] (r21_IssueE N))
theorem Y_r21_IssueE (N : Nat) : CEok Q (X_r21_IssueE N) :=
 fnG (hi := h_r21_IssueE) (l := [X_r15_Copy N, X_r15_RightState N, X_r15_Settle N, X_r15_Next N, X_r21_end N, X_r21_Note N, X_r21_stopped N, X_r21_Free N, X_r21_value N, X_r1_Do N, X_r1_Latency N, X_r21_set_E N, X_r21_on_E N, X_r15_PopSlot N, X_r1_Taken N, X_r21_turn_E N]) (t := []) ti_ok hmix ⟨Y_r15_Copy N, Y_r15_RightState N, Y_r15_Settle N, Y_r15_Next N, Y_r21_end N, Y_r21_Note N, Y_r21_stopped N, Y_r21_Free N, Y_r21_value N, Y_r1_Do N, Y_r1_Latency N, Y_r21_set_E N, Y_r21_on_E N, Y_r15_PopSlot N, Y_r1_Taken N, Y_r21_turn_E N, trivial⟩ ⟨rfl, rfl, rfl, rfl, rfl, rfl, rfl, rfl, rfl, rfl, rfl, rfl, rfl, rfl, rfl, rfl, rfl, rfl, rfl, rfl, rfl, rfl, rfl, rfl, rfl, rfl, rfl, rfl, trivial⟩ f_36 (by kernel_rfl) (by kernel_rfl) trivial fun ys => by kernel_rfl
def c_l21_EpipeTells : CS := ⟨149, 3, ⟨[.agg q_5, .agg [.d (.sl t_api_Ins), .d tI, .d (.sl tU)], .one (.d tI), .agg q_0, .agg q_2, .one (.d tI), .one (.d tI), .one (.d tI)], []⟩, [.one (.d tB)], true, []⟩
def s_l21_EpipeTells_0 : LS := ⟨⟨[.no, .no, .no, .no, .no, .one (.d tI), .one (.d tI), .one (.d tI), .one (.p 0 0 [1, 1, 1, 1, 1, 1, 1, 1, 1, 1, 1, 1]), .no, .no, .one (.p 1 0 [1, 16, 16, 1, 1, 1, 1, 1, 1, 16, 16, 1, 1, 1, 1, 1, 1, 1, 1, 1, 1, 1, 1, 1, 1, 1, 1, 1, 1, 1, 1, 1])] ++ nos 6 ++ [.one (.p 2 0 [1, 16]), .no, .one (.o tI), .one (.o tI), .one (.d tI)] ++ nos 85, [q_5, q_0, [.o t_api_Block, .d (.ar 16 tI)]]⟩, [(0, ⟨nos 16 ++ [.one (.d tB)] ++ nos 91, []⟩), (1, ⟨[.no, .no, .no, .no, .no, .one (.d tI), .one (.d tI), .one (.d tI), .one (.p 0 0 [1, 1, 1, 1, 1, 1, 1, 1, 1, 1, 1, 1]), .no, .no, .one (.p 1 0 [1, 16, 16, 1, 1, 1, 1, 1, 1, 16, 16, 1, 1, 1, 1, 1, 1, 1, 1, 1, 1, 1, 1, 1, 1, 1, 1, 1, 1, 1, 1, 1])] ++ nos 6 ++ [.one (.p 2 0 [1, 16])] ++ nos 89, [q_5, q_0, [.o t_api_Block, .d (.ar 16 tI)]]⟩)]⟩
def h_l21_EpipeTells : Hi := ⟨[((1, 0), c_l21_alive), ((2, 2), c_l21_Splits), ((3, 4), c_l4_Few), ((3, 9), c_l18_Few), ((5, 1), c_epipe_Named), ((6, 1), c_r21_Named), ((7, 10), c_epipe_Free), ((7, 15), c_r21_Free), ((14, 1), c_r15_Copy), ((14, 5), c_epipe_Note), ((14, 10), c_r21_Note), ((14, 11), c_r15_SameState), ((14, 16), c_r15_Copy), ((14, 17), c_epipe_Issue), ((14, 21), c_r21_IssueE), ((14, 22), c_r15_SameState)], [(0, s_l21_EpipeTells_0)], [32, 37, 42, 45, 56, 68, 72, 83, 96], []⟩
theorem f_3 : Fn Q 3 f3 (codeOf f3) := ⟨by kernel_rfl, by kernel_rfl, by kernel_rfl, by kernel_rfl, by kernel_rfl⟩
noncomputable def T_l21_EpipeTells (N : Nat) : List CE := [X_l21_alive N, X_l21_Splits N, X_l4_Few N, X_l18_Few N, X_epipe_Named N, X_r21_Named N, X_epipe_Free N, X_r21_Free N, X_r15_Copy N, X_epipe_Note N, X_r21_Note N, X_r15_SameState N, X_epipe_Issue N, X_r21_IssueE N]
theorem TT_l21_EpipeTells (N : Nat) : AllP (CEok Q) (T_l21_EpipeTells N) := ⟨Y_l21_alive N, Y_l21_Splits N, Y_l4_Few N, Y_l18_Few N, Y_epipe_Named N, Y_r21_Named N, Y_epipe_Free N, Y_r21_Free N, Y_r15_Copy N, Y_epipe_Note N, Y_r21_Note N, Y_r15_SameState N, Y_epipe_Issue N, Y_r21_IssueE N, trivial⟩
theorem A_l21_EpipeTells (N : Nat) : AllP (fun e => lookC (T_l21_EpipeTells N) e.2.id = some e.2) h_l21_EpipeTells.cs := ⟨rfl, rfl, rfl, rfl, rfl, rfl, rfl, rfl, rfl, rfl, rfl, rfl, rfl, rfl, rfl, rfl, trivial⟩
noncomputable def l21_EpipeTells_r0 (N : Nat) (again : Fn' (Option Rs) [pI, pI, pI, pD (.sl tI), pD (.sl tI), pI, p_api_Config, p_api_State, p_api_Split]) (x0 : Int) (x1 : Int) (x2 : Int) (x3 : List Int) (x4 : List Int) (x5 : Int) (x6 : api_Config) (x7 : api_State) (x8 : api_Split) : Option Rs :=
 bi (decide (x5 < (len x3))) (
  gd (idx x5 (List.length x3)) <|
  gd (idx x5 (List.length x4)) <|
  bi ((List.getD x3 x5.toNat 0) != (List.getD x4 x5.toNat 0)) (
   some (0, gB.dv false [])) <|
  again x0 x1 x2 x3 x4 (w.i64 (x5 + 1)) x6 x7 x8) <|
 some (1, gI.dv x0 (gI.dv x1 (gI.dv x2 (g_api_Config.dv x6 (g_api_State.dv x7 (g_api_Split.dv x8 []))))))
noncomputable def l21_EpipeTells_l0 (N : Nat) : Nat → Fn' (Option Rs) [pI, pI, pI, pD (.sl tI), pD (.sl tI), pI, p_api_Config, p_api_State, p_api_Split] := lpG (l21_EpipeTells_r0 N)
noncomputable def L_l21_EpipeTells_0 (N : Nat) : LE := (0, mkM [pI, pI, pI, pD (.sl tI), pD (.sl tI), pI, p_api_Config, p_api_State, p_api_Split] [(0, [pB]), (1, [pI, pI, pI, p_api_Config, p_api_State, p_api_Split])] (l21_EpipeTells_l0 N N))
theorem K_l21_EpipeTells_0 (N : Nat) : LEok Q h_l21_EpipeTells (bodOf f3) f3.ntmps 0 (L_l21_EpipeTells_0 N) :=
 loopG (hi := h_l21_EpipeTells) (l := T_l21_EpipeTells N) (t := []) (r := l21_EpipeTells_r0 N) ti_ok hmix (TT_l21_EpipeTells N) (A_l21_EpipeTells N) f_3 trivial (ls := s_l21_EpipeTells_0) (body := bodyAt f3 0) (by kernel_rfl) (by kernel_rfl) fun A ys => by kernel_rfl
noncomputable def l21_EpipeTells (N : Nat) (x0 : api_Config) (x1 : api_Program) (x2 : Int) (x3 : api_State) (x4 : api_Cell) (x5 : Int) (x6 : Int) (x7 : Int) : Option Rs :=
 on1 (l21_alive N ) <| gg [pB] <| fun (x8 : Bool) => 
 on1 (l21_Splits N x1 x2) <| gg [p_api_Split, pB] <| fun (x9 : api_Split) (x10 : Bool) => 
 bi (!x8) (
  some (0, gB.dv x8 [])) <|
 on1 (l4_Few N x1) <| gg [pB] <| fun (x11 : Bool) => 
 bi (!x11) (
  some (0, gB.dv x8 [])) <|
 on1 (l18_Few N x3) <| gg [pB] <| fun (x12 : Bool) => 
 bi (!x12) (
  some (0, gB.dv x8 [])) <|
 bi (!x10) (
  some (0, gB.dv x8 [])) <|
 on1 (epipe_Named N x4) <| gg [pD (.sl tI)] <| fun (x13 : List Int) => 
 on1 (r21_Named N x4) <| gg [pD (.sl tI)] <| fun (x14 : List Int) => 
 bi ((len x13) != (len x14)) (
  some (0, gB.dv false [])) <|
 on1 (epipe_Free N x3.E x4 x6) <| gg [pB] <| fun (x15 : Bool) => 
 on1 (r21_Free N x3.E x4 x6) <| gg [pB] <| fun (x16 : Bool) => 
 bi (!(x15 == x16)) (
  some (0, gB.dv false [])) <|
 onB 0 1 (l21_EpipeTells_l0 N N x5 x6 x7 x13 x14 0 x0 x3 x9) (gg [pB] <| fun (x17 : Bool) => 
  some (0, gB.dv x17 [])) <| gg [pI, pI, pI, p_api_Config, p_api_State, p_api_Split] <| fun (x18 : Int) (x19 : Int) (x20 : Int) (x21 : api_Config) (x22 : api_State) (x23 : api_Split) => 
 on1 (r15_Copy N x22) <| gg [p_api_State] <| fun (x24 : api_State) => 
 on1 (epipe_Note N x24 x18 x19 x20) <| gg [p_api_State] <| fun (x25 : api_State) => 
 on1 (r21_Note N x22 x18 x19 x20) <| gg [p_api_State] <| fun (x26 : api_State) => 
 on1 (r15_SameState N x25 x26) <| gg [pB] <| fun (x27 : Bool) => 
 bi x27 (
  on1 (r15_Copy N x22) <| gg [p_api_State] <| fun (x28 : api_State) => 
  on1 (epipe_Issue N x21 x23 x28) <| gg [p_api_State] <| fun (x29 : api_State) => 
  on1 (r21_IssueE N x21 x23 x22) <| gg [p_api_State] <| fun (x30 : api_State) => 
  on1 (r15_SameState N x29 x30) <| gg [pB] <| fun (x31 : Bool) => 
  some (0, gB.dv x31 [])) <|
 some (0, gB.dv false [])
noncomputable def X_l21_EpipeTells (N : Nat) : CE := (c_l21_EpipeTells, mkF [p_api_Config, p_api_Program, pI, p_api_State, p_api_Cell, pI, pI, pI] [pB] (l21_EpipeTells N))
theorem Y_l21_EpipeTells (N : Nat) : CEok Q (X_l21_EpipeTells N) :=
 fnG (hi := h_l21_EpipeTells) (l := T_l21_EpipeTells N) (t := [L_l21_EpipeTells_0 N]) ti_ok hmix (TT_l21_EpipeTells N) (A_l21_EpipeTells N) f_3 (by kernel_rfl) (by kernel_rfl) ⟨K_l21_EpipeTells_0 N, trivial⟩ fun ys => by kernel_rfl
def c_epipe_At_A : CS := ⟨150, 148, ⟨[.agg [.d (.sl t_api_Block), .d (.ar 16 tI)], .one (.p 0 0 [1, 16, 16, 1, 1, 1, 1, 1, 1, 16, 16, 1, 1, 1, 1, 1, 1, 1, 1, 1, 1, 1, 1, 1, 1, 1, 1, 1, 1, 1, 1, 1]), .one (.p 0 1 [16, 16, 1, 1, 1, 1, 1, 1]), .one (.d tB)], [q_1]⟩, [.agg q_2, .one (.d tI), .one (.d tB)], false, [q_1]⟩
def h_epipe_At_A : Hi := ⟨[((3, 6), c_front_Settle), ((5, 3), c_front_Next), ((7, 9), c_epipe_Trap), ((8, 6), c_epipe_Stopped)], [], [20, 30, 54, 68], []⟩
noncomputable def epipe_At_A (N : Nat) (x0 : api_Split) (x1 : Bool) (x2 : api_State) : Option Rs :=
 bi x2.A.Halted (
  some (0, g_api_Cell.dv (api_Cell.z) (gI.dv 0 (gB.dv false (g_api_State.dv x2 []))))) <|
 bi (decide (x2.A.Wait > x2.Cycle)) (
  some (0, g_api_Cell.dv (api_Cell.z) (gI.dv 0 (gB.dv false (g_api_State.dv x2 []))))) <|
 on1 (front_Settle N x0 x1 x2.A.Pos) <| gg [p_api_Pos, pB] <| fun (x3 : api_Pos) (x4 : Bool) => 
 on1 (front_Next N x0 x1 x3) <| gg [p_api_Cell, pI, pB] <| fun (x5 : api_Cell) (x6 : Int) (x7 : Bool) => 
 bi x4 (
  gd (idx x3.Block (List.length x0.Blocks)) <|
  on1 (epipe_Trap N 4 x6 ((List.getD x0.Blocks x3.Block.toNat api_Block.z).2.1) ({ x2 with A := { x2.A with Pos := x3 } } : api_State)) <| gg [p_api_State] <| fun (x8 : api_State) => 
  bi x7 (
   on1 (epipe_Stopped N x8 x6) <| gg [pB] <| fun (x9 : Bool) => 
   some (0, g_api_Cell.dv x5 (gI.dv x6 (gB.dv (!x9) (g_api_State.dv x8 []))))) <|
  some (0, g_api_Cell.dv x5 (gI.dv x6 (gB.dv false (g_api_State.dv x8 []))))) <|
 bi x7 (
  on1 (epipe_Stopped N ({ x2 with A := { x2.A with Pos := x3 } } : api_State) x6) <| gg [pB] <| fun (x10 : Bool) => 
  some (0, g_api_Cell.dv x5 (gI.dv x6 (gB.dv (!x10) (g_api_State.dv ({ x2 with A := { x2.A with Pos := x3 } } : api_State) []))))) <|
 some (0, g_api_Cell.dv x5 (gI.dv x6 (gB.dv false (g_api_State.dv ({ x2 with A := { x2.A with Pos := x3 } } : api_State) []))))
noncomputable def X_epipe_At_A (N : Nat) : CE := (c_epipe_At_A, mkF [p_api_Split, pB, p_api_State] [p_api_Cell, pI, pB, p_api_State] (epipe_At_A N))
theorem Y_epipe_At_A (N : Nat) : CEok Q (X_epipe_At_A N) :=
 fnG (hi := h_epipe_At_A) (l := [X_front_Settle N, X_front_Next N, X_epipe_Trap N, X_epipe_Stopped N]) (t := []) ti_ok hmix ⟨Y_front_Settle N, Y_front_Next N, Y_epipe_Trap N, Y_epipe_Stopped N, trivial⟩ ⟨rfl, rfl, rfl, rfl, trivial⟩ f_148 (by kernel_rfl) (by kernel_rfl) trivial fun ys => by kernel_rfl
def c_apipe_reaches : CS := ⟨151, 107, ⟨[.one (.d tI), .one (.d tI), .one (.d tI)], []⟩, [.one (.d tB)], true, []⟩
def h_apipe_reaches : Hi := ⟨[], [], [9, 12, 24], []⟩
theorem f_107 : Fn Q 107 f107 (codeOf f107) := ⟨by kernel_rfl, by kernel_rfl, by kernel_rfl, by kernel_rfl, by kernel_rfl⟩
noncomputable def apipe_reaches (N : Nat) (x0 : Int) (x1 : Int) (x2 : Int) : Option Rs :=
 bi (decide (x0 ≥ x1)) (
  bi (decide (x2 ≤ 0)) (
   some (0, gB.dv true [])) <|
  some (0, gB.dv (decide ((w.u64 ((w.u64 x0) - (w.u64 x1))) ≥ (w.u64 x2))) [])) <|
 bi (decide (x2 < 0)) (
  some (0, gB.dv (decide ((w.u64 ((w.u64 x1) - (w.u64 x0))) ≤ (w.u64 (0 - (w.u64 x2))))) [])) <|
 some (0, gB.dv false [])
noncomputable def X_apipe_reaches (N : Nat) : CE := (c_apipe_reaches, mkF [pI, pI, pI] [pB] (apipe_reaches N))
theorem Y_apipe_reaches (N : Nat) : CEok Q (X_apipe_reaches N) :=
 fnG (hi := h_apipe_reaches) (l := []) (t := []) ti_ok hmix trivial trivial f_107 (by kernel_rfl) (by kernel_rfl) trivial fun ys => by kernel_rfl
def c_apipe_Ahead : CS := ⟨152, 48, ⟨[.agg q_5, .agg [.d (.sl t_api_Block), .d (.ar 16 tI)], .agg q_0], []⟩, [.one (.d tB)], true, []⟩
def h_apipe_Ahead : Hi := ⟨[((3, 4), c_front_Next), ((4, 4), c_front_Next), ((5, 9), c_apipe_reaches)], [], [15, 35, 38], []⟩
theorem f_48 : Fn Q 48 f48 (codeOf f48) := ⟨by kernel_rfl, by kernel_rfl, by kernel_rfl, by kernel_rfl, by kernel_rfl⟩
noncomputable def apipe_Ahead (N : Nat) (x0 : api_Config) (x1 : api_Split) (x2 : api_State) : Option Rs :=
 bi x2.E.Halted (
  some (0, gB.dv false [])) <|
 on1 (front_Next N x1 true x2.E.Pos) <| gg [p_api_Cell, pI, pB] <| fun (x3 : api_Cell) (x4 : Int) (x5 : Bool) => 
 on1 (front_Next N x1 false x2.A.Pos) <| gg [p_api_Cell, pI, pB] <| fun (x6 : api_Cell) (x7 : Int) (x8 : Bool) => 
 bi x5 (
  bi x8 (
   on1 (apipe_reaches N x7 x4 x0.Slip) <| gg [pB] <| fun (x9 : Bool) => 
   some (0, gB.dv x9 [])) <|
  some (0, gB.dv false [])) <|
 some (0, gB.dv false [])
noncomputable def X_apipe_Ahead (N : Nat) : CE := (c_apipe_Ahead, mkF [p_api_Config, p_api_Split, p_api_State] [pB] (apipe_Ahead N))
theorem Y_apipe_Ahead (N : Nat) : CEok Q (X_apipe_Ahead N) :=
 fnG (hi := h_apipe_Ahead) (l := [X_front_Next N, X_apipe_reaches N]) (t := []) ti_ok hmix ⟨Y_front_Next N, Y_apipe_reaches N, trivial⟩ ⟨rfl, rfl, rfl, trivial⟩ f_48 (by kernel_rfl) (by kernel_rfl) trivial fun ys => by kernel_rfl
def c_epipe_Set_A : CS := ⟨153, 150, ⟨[.one (.p 0 1 [16, 16, 1, 1, 1, 1, 1, 1]), .one (.d tI), .one (.d tW), .one (.d tI)], [q_1]⟩, [], false, [q_1]⟩
def h_epipe_Set_A : Hi := ⟨[], [], [10, 13], []⟩
noncomputable def epipe_Set_A (N : Nat) (x0 : Int) (x1 : Int) (x2 : Int) (x3 : api_State) : Option Rs :=
 bi (decide (x0 ≥ 1)) (
  bi (decide (x0 ≤ 15)) (
   gd (idx x0 16) <|
   gd (idx x0 16) <|
   some (0, g_api_State.dv ({ x3 with A := { x3.A with Regs := (List.set x3.A.Regs x0.toNat x1), Ready := (List.set x3.A.Ready x0.toNat x2) } } : api_State) [])) <|
  some (0, g_api_State.dv x3 [])) <|
 some (0, g_api_State.dv x3 [])
noncomputable def X_epipe_Set_A (N : Nat) : CE := (c_epipe_Set_A, mkF [pI, pW, pI, p_api_State] [p_api_State] (epipe_Set_A N))
theorem Y_epipe_Set_A (N : Nat) : CEok Q (X_epipe_Set_A N) :=
 fnG (hi := h_epipe_Set_A) (l := []) (t := []) ti_ok hmix trivial trivial f_150 (by kernel_rfl) (by kernel_rfl) trivial fun ys => by kernel_rfl
def c_epipe_Behind_A : CS := ⟨154, 151, ⟨[.one (.p 0 1 [16, 16, 1, 1, 1, 1, 1, 1])], [q_1]⟩, [], false, [q_1]⟩
def h_epipe_Behind_A : Hi := ⟨[], [], [], []⟩
noncomputable def epipe_Behind_A (N : Nat) (x0 : api_State) : Option Rs :=
 some (0, g_api_State.dv ({ x0 with A := { x0.A with Pos := { x0.A.Pos with Index := (w.i64 (x0.A.Pos.Index + 1)) }, Done := (w.i64 (x0.A.Done + 1)) } } : api_State) [])
noncomputable def X_epipe_Behind_A (N : Nat) : CE := (c_epipe_Behind_A, mkF [p_api_State] [p_api_State] (epipe_Behind_A N))
theorem Y_epipe_Behind_A (N : Nat) : CEok Q (X_epipe_Behind_A N) :=
 fnG (hi := h_epipe_Behind_A) (l := []) (t := []) ti_ok hmix trivial trivial f_151 (by kernel_rfl) (by kernel_rfl) trivial fun ys => by kernel_rfl
def c_epipe_Do_A : CS := ⟨155, 149, ⟨[.agg q_5, .one (.p 0 0 [1, 16, 16, 1, 1, 1, 1, 1, 1, 16, 16, 1, 1, 1, 1, 1, 1, 1, 1, 1, 1, 1, 1, 1, 1, 1, 1, 1, 1, 1, 1, 1]), .one (.p 0 1 [16, 16, 1, 1, 1, 1, 1, 1]), .agg q_2, .one (.d tI)], [q_1]⟩, [], false, [q_1]⟩
def h_epipe_Do_A : Hi := ⟨[((1, 6), c_epipe_Get), ((1, 11), c_epipe_Get), ((1, 12), c_alu_Do), ((3, 4), c_epipe_Trap), ((4, 13), c_alu_Latency), ((4, 15), c_epipe_Set_A), ((5, 1), c_epipe_Behind_A)], [], [29], []⟩
noncomputable def epipe_Do_A (N : Nat) (x0 : api_Config) (x1 : api_Cell) (x2 : Int) (x3 : api_State) : Option Rs :=
 on1 (epipe_Get N x3.A x1.2.1.2.2.1) <| gg [pW] <| fun (x4 : Int) => 
 on1 (epipe_Get N x3.A x1.2.1.2.2.2.1) <| gg [pW] <| fun (x5 : Int) => 
 on1 (alu_Do N x1.2.1 x4 x5) <| gg [pW, pB] <| fun (x6 : Int) (x7 : Bool) => 
 bi (!x7) (
  on1 (epipe_Trap N 3 x2 x1.2.2.2.1 x3) <| gg [p_api_State] <| fun (x8 : api_State) => 
  some (0, g_api_State.dv x8 [])) <|
 on1 (alu_Latency N x0 x1.2.1.1) <| gg [pI] <| fun (x9 : Int) => 
 on1 (epipe_Set_A N x1.2.1.2.1 x6 (w.i64 (x3.Cycle + x9)) x3) <| gg [p_api_State] <| fun (x10 : api_State) => 
 on1 (epipe_Behind_A N x10) <| gg [p_api_State] <| fun (x11 : api_State) => 
 some (0, g_api_State.dv x11 [])
noncomputable def X_epipe_Do_A (N : Nat) : CE := (c_epipe_Do_A, mkF [p_api_Config, p_api_Cell, pI, p_api_State] [p_api_State] (epipe_Do_A N))
theorem Y_epipe_Do_A (N : Nat) : CEok Q (X_epipe_Do_A N) :=
 fnG (hi := h_epipe_Do_A) (l := [X_epipe_Get N, X_alu_Do N, X_epipe_Trap N, X_alu_Latency N, X_epipe_Set_A N, X_epipe_Behind_A N]) (t := []) ti_ok hmix ⟨Y_epipe_Get N, Y_alu_Do N, Y_epipe_Trap N, Y_alu_Latency N, Y_epipe_Set_A N, Y_epipe_Behind_A N, trivial⟩ ⟨rfl, rfl, rfl, rfl, rfl, rfl, rfl, trivial⟩ f_149 (by kernel_rfl) (by kernel_rfl) trivial fun ys => by kernel_rfl
def c_apipe_pipe_address : CS := ⟨156, 227, ⟨[.one (.p 0 0 [1, 1, 1, 1, 1, 1, 1, 1, 1, 1, 1, 1, 1, 16, 1, 1, 1, 1, 1, 1, 1, 1, 1, 1, 1])], [q_7, q_1]⟩, [.one (.d tI), .one (.d tB)], false, [q_7, q_1]⟩
def h_apipe_pipe_address : Hi := ⟨[((2, 8), c_epipe_Get), ((2, 11), c_word_Of), ((3, 2), c_bytes_Size), ((3, 12), c_bytes_Check), ((5, 14), c_epipe_Trap)], [], [39], []⟩
theorem f_227 : Fn Q 227 f227 (codeOf f227) := ⟨by kernel_rfl, by kernel_rfl, by kernel_rfl, by kernel_rfl, by kernel_rfl⟩
noncomputable def apipe_pipe_address (N : Nat) (x0 : api_Config) (x1 : api_Split) (x2 : api_Cell) (x3 : Int) (x4 : api_State) : Option Rs :=
 on1 (epipe_Get N x4.A x2.2.1.2.2.1) <| gg [pW] <| fun (x5 : Int) => 
 on1 (word_Of N x2.2.1.2.2.2.2.1) <| gg [pW] <| fun (x6 : Int) => 
 on1 (bytes_Size N x2.2.1.1) <| gg [pI] <| fun (x7 : Int) => 
 on1 (bytes_Check N x7 (w.u32 (x5 + x6)) (len x4.Mem)) <| gg [pI] <| fun (x8 : Int) => 
 bi (x8 != 0) (
  on1 (epipe_Trap N x8 x3 x2.2.2.2.1 x4) <| gg [p_api_State] <| fun (x9 : api_State) => 
  some (0, gI.dv 0 (gB.dv false (g_api_Config.dv x0 (g_api_Split.dv x1 (g_api_Cell.dv x2 (gI.dv x3 (g_api_State.dv x9 [])))))))) <|
 some (0, gI.dv (w.i64 (w.u32 (x5 + x6))) (gB.dv true (g_api_Config.dv x0 (g_api_Split.dv x1 (g_api_Cell.dv x2 (gI.dv x3 (g_api_State.dv x4 [])))))))
noncomputable def X_apipe_pipe_address (N : Nat) : CE := (c_apipe_pipe_address, mkF [p_api_Config, p_api_Split, p_api_Cell, pI, p_api_State] [pI, pB, p_api_Config, p_api_Split, p_api_Cell, pI, p_api_State] (apipe_pipe_address N))
theorem Y_apipe_pipe_address (N : Nat) : CEok Q (X_apipe_pipe_address N) :=
 fnG (hi := h_apipe_pipe_address) (l := [X_epipe_Get N, X_word_Of N, X_bytes_Size N, X_bytes_Check N, X_epipe_Trap N]) (t := []) ti_ok hmix ⟨Y_epipe_Get N, Y_word_Of N, Y_bytes_Size N, Y_bytes_Check N, Y_epipe_Trap N, trivial⟩ ⟨rfl, rfl, rfl, rfl, rfl, trivial⟩ f_227 (by kernel_rfl) (by kernel_rfl) trivial fun ys => by kernel_rfl
def c_bytes_before : CS := ⟨157, 271, ⟨[.one (.d tI), .one (.d tI), .one (.d tI)], []⟩, [.one (.d tB)], true, []⟩
def h_bytes_before : Hi := ⟨[], [], [10], []⟩
theorem f_271 : Fn Q 271 f271 (codeOf f271) := ⟨by kernel_rfl, by kernel_rfl, by kernel_rfl, by kernel_rfl, by kernel_rfl⟩
noncomputable def bytes_before (N : Nat) (x0 : Int) (x1 : Int) (x2 : Int) : Option Rs :=
 bi (decide (x0 ≤ x2)) (
  some (0, gB.dv (decide ((w.u64 ((w.u64 x2) - (w.u64 x0))) < (w.u64 x1))) [])) <|
 some (0, gB.dv false [])
noncomputable def X_bytes_before (N : Nat) : CE := (c_bytes_before, mkF [pI, pI, pI] [pB] (bytes_before N))
theorem Y_bytes_before (N : Nat) : CEok Q (X_bytes_before N) :=
 fnG (hi := h_bytes_before) (l := []) (t := []) ti_ok hmix trivial trivial f_271 (by kernel_rfl) (by kernel_rfl) trivial fun ys => by kernel_rfl
def c_bytes_Overlap : CS := ⟨158, 241, ⟨[.one (.d tI), .one (.d tI), .one (.d tI), .one (.d tI)], []⟩, [.one (.d tB)], true, []⟩
def h_bytes_Overlap : Hi := ⟨[((1, 10), c_bytes_before), ((1, 15), c_bytes_before)], [], [11, 15, 20], []⟩
theorem f_241 : Fn Q 241 f241 (codeOf f241) := ⟨by kernel_rfl, by kernel_rfl, by kernel_rfl, by kernel_rfl, by kernel_rfl⟩
noncomputable def bytes_Overlap (N : Nat) (x0 : Int) (x1 : Int) (x2 : Int) (x3 : Int) : Option Rs :=
 bi (decide (x1 ≥ 1)) (
  bi (decide (x3 ≥ 1)) (
   on1 (bytes_before N x0 x1 x2) <| gg [pB] <| fun (x4 : Bool) => 
   bi x4 (
    some (0, gB.dv true [])) <|
   on1 (bytes_before N x2 x3 x0) <| gg [pB] <| fun (x5 : Bool) => 
   some (0, gB.dv x5 [])) <|
  some (0, gB.dv false [])) <|
 some (0, gB.dv false [])
noncomputable def X_bytes_Overlap (N : Nat) : CE := (c_bytes_Overlap, mkF [pI, pI, pI, pI] [pB] (bytes_Overlap N))
theorem Y_bytes_Overlap (N : Nat) : CEok Q (X_bytes_Overlap N) :=
 fnG (hi := h_bytes_Overlap) (l := [X_bytes_before N]) (t := []) ti_ok hmix ⟨Y_bytes_before N, trivial⟩ ⟨rfl, rfl, trivial⟩ f_241 (by kernel_rfl) (by kernel_rfl) trivial fun ys => by kernel_rfl
def c_saq_Search : CS := ⟨159, 228, ⟨[.one (.d (.sl t_api_Entry)), .one (.d tI), .one (.d tI)], []⟩, [.agg [.d tI, .d tI, .d tI, .d tB, .d tW], .one (.d tB)], false, []⟩
def s_saq_Search_0 : LS := ⟨⟨[.one (.d (.sl t_api_Entry)), .one (.d tI), .one (.d tI), .no, .no, .no, .one (.p 0 0 [1, 1, 1, 1, 1]), .no, .one (.d tI)] ++ nos 25, [[.d tI, .d tI, .d tI, .d tB, .d tW]]⟩, [(0, ⟨nos 6 ++ [.one (.p 0 0 [1, 1, 1, 1, 1]), .one (.d tB)] ++ nos 26, [[.d tI, .d tI, .d tI, .d tB, .d tW]]⟩), (1, ⟨nos 6 ++ [.one (.p 0 0 [1, 1, 1, 1, 1])] ++ nos 27, [[.d tI, .d tI, .d tI, .d tB, .d tW]]⟩)]⟩
def h_saq_Search : Hi := ⟨[((4, 12), c_bytes_Overlap)], [(0, s_saq_Search_0)], [13, 28], []⟩
theorem f_228 : Fn Q 228 f228 (codeOf f228) := ⟨by kernel_rfl, by kernel_rfl, by kernel_rfl, by kernel_rfl, by kernel_rfl⟩
noncomputable def T_saq_Search (N : Nat) : List CE := [X_bytes_Overlap N]
theorem TT_saq_Search (N : Nat) : AllP (CEok Q) (T_saq_Search N) := ⟨Y_bytes_Overlap N, trivial⟩
theorem A_saq_Search (N : Nat) : AllP (fun e => lookC (T_saq_Search N) e.2.id = some e.2) h_saq_Search.cs := ⟨rfl, trivial⟩
noncomputable def saq_Search_r0 (N : Nat) (again : Fn' (Option Rs) [pD (.sl t_api_Entry), pI, pI, pI, p_api_Entry]) (x0 : List api_Entry) (x1 : Int) (x2 : Int) (x3 : Int) (x4 : api_Entry) : Option Rs :=
 bi (decide (x3 ≥ 0)) (
  gd (idx x3 (List.length x0)) <|
  gd (idx x3 (List.length x0)) <|
  on1 (bytes_Overlap N ((List.getD x0 x3.toNat api_Entry.z).1) ((List.getD x0 x3.toNat api_Entry.z).2.1) x1 x2) <| gg [pB] <| fun (x5 : Bool) => 
  bi x5 (
   gd (idx x3 (List.length x0)) <|
   some (0, gB.dv true (g_api_Entry.dv (List.getD x0 x3.toNat api_Entry.z) []))) <|
  again x0 x1 x2 (w.i64 (x3 - 1)) x4) <|
 some (1, g_api_Entry.dv x4 [])
noncomputable def saq_Search_l0 (N : Nat) : Nat → Fn' (Option Rs) [pD (.sl t_api_Entry), pI, pI, pI, p_api_Entry] := lpG (saq_Search_r0 N)
noncomputable def L_saq_Search_0 (N : Nat) : LE := (0, mkM [pD (.sl t_api_Entry), pI, pI, pI, p_api_Entry] [(0, [pB, p_api_Entry]), (1, [p_api_Entry])] (saq_Search_l0 N N))
theorem K_saq_Search_0 (N : Nat) : LEok Q h_saq_Search (bodOf f228) f228.ntmps 0 (L_saq_Search_0 N) :=
 loopG (hi := h_saq_Search) (l := T_saq_Search N) (t := []) (r := saq_Search_r0 N) ti_ok hmix (TT_saq_Search N) (A_saq_Search N) f_228 trivial (ls := s_saq_Search_0) (body := bodyAt f228 0) (by kernel_rfl) (by kernel_rfl) fun A ys => by kernel_rfl
noncomputable def saq_Search (N : Nat) (x0 : List api_Entry) (x1 : Int) (x2 : Int) : Option Rs :=
 onB 0 1 (saq_Search_l0 N N x0 x1 x2 (w.i64 ((len x0) - 1)) (api_Entry.z)) (gg [pB, p_api_Entry] <| fun (x3 : Bool) (x4 : api_Entry) => 
  some (0, g_api_Entry.dv x4 (gB.dv x3 []))) <| gg [p_api_Entry] <| fun (x5 : api_Entry) => 
 some (0, g_api_Entry.dv (api_Entry.z) (gB.dv false []))
noncomputable def X_saq_Search (N : Nat) : CE := (c_saq_Search, mkF [pD (.sl t_api_Entry), pI, pI] [p_api_Entry, pB] (saq_Search N))
theorem Y_saq_Search (N : Nat) : CEok Q (X_saq_Search N) :=
 fnG (hi := h_saq_Search) (l := T_saq_Search N) (t := [L_saq_Search_0 N]) ti_ok hmix (TT_saq_Search N) (A_saq_Search N) f_228 (by kernel_rfl) (by kernel_rfl) ⟨K_saq_Search_0 N, trivial⟩ fun ys => by kernel_rfl
def c_bytes_Sign : CS := ⟨160, 265, ⟨[.one (.d tI), .one (.d tW)], []⟩, [.one (.d tW)], true, []⟩
def h_bytes_Sign : Hi := ⟨[], [], [6, 12], []⟩
theorem f_265 : Fn Q 265 f265 (codeOf f265) := ⟨by kernel_rfl, by kernel_rfl, by kernel_rfl, by kernel_rfl, by kernel_rfl⟩
noncomputable def bytes_Sign (N : Nat) (x0 : Int) (x1 : Int) : Option Rs :=
 bi (x0 == 27) (
  some (0, gW.dv (w.u32 (w.i32 (w.i16 x1))) [])) <|
 bi (x0 == 29) (
  some (0, gW.dv (w.u32 (w.i32 (w.i8 x1))) [])) <|
 some (0, gW.dv x1 [])
noncomputable def X_bytes_Sign (N : Nat) : CE := (c_bytes_Sign, mkF [pI, pW] [pW] (bytes_Sign N))
theorem Y_bytes_Sign (N : Nat) : CEok Q (X_bytes_Sign N) :=
 fnG (hi := h_bytes_Sign) (l := []) (t := []) ti_ok hmix trivial trivial f_265 (by kernel_rfl) (by kernel_rfl) trivial fun ys => by kernel_rfl
def c_saq_Bypass : CS := ⟨161, 230, ⟨[.agg [.d tI, .d tI, .d tI, .d tB, .d tW], .one (.d tI), .one (.d tI)], []⟩, [.one (.d tW), .one (.d tB)], false, []⟩
def h_saq_Bypass : Hi := ⟨[((1, 1), c_bytes_Size), ((4, 3), c_bytes_Sign)], [], [13, 17, 22, 28, 33], []⟩
theorem f_230 : Fn Q 230 f230 (codeOf f230) := ⟨by kernel_rfl, by kernel_rfl, by kernel_rfl, by kernel_rfl, by kernel_rfl⟩
noncomputable def saq_Bypass (N : Nat) (x0 : api_Entry) (x1 : Int) (x2 : Int) : Option Rs :=
 on1 (bytes_Size N x1) <| gg [pI] <| fun (x3 : Int) => 
 bi (decide (x1 < 26)) (
  some (0, gW.dv 0 (gB.dv false []))) <|
 bi (decide (x1 > 30)) (
  some (0, gW.dv 0 (gB.dv false []))) <|
 bi (!x0.2.2.2.1) (
  some (0, gW.dv 0 (gB.dv false []))) <|
 bi (x0.1 != x2) (
  some (0, gW.dv 0 (gB.dv false []))) <|
 bi (x0.2.1 != x3) (
  some (0, gW.dv 0 (gB.dv false []))) <|
 on1 (bytes_Sign N x1 x0.2.2.2.2.1) <| gg [pW] <| fun (x4 : Int) => 
 some (0, gW.dv x4 (gB.dv true []))
noncomputable def X_saq_Bypass (N : Nat) : CE := (c_saq_Bypass, mkF [p_api_Entry, pI, pI] [pW, pB] (saq_Bypass N))
theorem Y_saq_Bypass (N : Nat) : CEok Q (X_saq_Bypass N) :=
 fnG (hi := h_saq_Bypass) (l := [X_bytes_Size N, X_bytes_Sign N]) (t := []) ti_ok hmix ⟨Y_bytes_Size N, Y_bytes_Sign N, trivial⟩ ⟨rfl, rfl, trivial⟩ f_230 (by kernel_rfl) (by kernel_rfl) trivial fun ys => by kernel_rfl
def c_slots_Reserve : CS := ⟨162, 292, ⟨[.one (.d (.sl t_api_Slot)), .one (.d tI), .one (.d tI)], []⟩, [.one (.o t_api_Slot), .one (.d tB)], false, []⟩
def h_slots_Reserve : Hi := ⟨[((1, 1), c_sl_Clone_api_Slot)], [], [14], []⟩
theorem f_292 : Fn Q 292 f292 (codeOf f292) := ⟨by kernel_rfl, by kernel_rfl, by kernel_rfl, by kernel_rfl, by kernel_rfl⟩
noncomputable def slots_Reserve (N : Nat) (x0 : List api_Slot) (x1 : Int) (x2 : Int) : Option Rs :=
 on1 (sl_Clone_api_Slot N x0) <| gg [pD (.sl t_api_Slot)] <| fun (x3 : List api_Slot) => 
 bi (decide ((len x0) ≥ x1)) (
  some (0, (gD (.sl t_api_Slot)).dv x3 (gB.dv false []))) <|
 gd (rm x3 [(x2, (false, (0, ())))] 16) <|
 some (0, (gD (.sl t_api_Slot)).dv (x3 ++ [(x2, (false, (0, ())))]) (gB.dv true []))
noncomputable def X_slots_Reserve (N : Nat) : CE := (c_slots_Reserve, mkF [pD (.sl t_api_Slot), pI, pI] [pD (.sl t_api_Slot), pB] (slots_Reserve N))
theorem Y_slots_Reserve (N : Nat) : CEok Q (X_slots_Reserve N) :=
 fnG (hi := h_slots_Reserve) (l := [X_sl_Clone_api_Slot N]) (t := []) ti_ok hmix ⟨Y_sl_Clone_api_Slot N, trivial⟩ ⟨rfl, trivial⟩ f_292 (by kernel_rfl) (by kernel_rfl) trivial fun ys => by kernel_rfl
def c_apipe_pipe_reserve : CS := ⟨163, 266, ⟨[.one (.p 0 0 [1, 1, 1, 1, 1, 1, 1, 1, 1, 1, 1, 1, 1, 16, 1, 1, 1, 1, 1, 1, 1, 1, 1, 1, 1])], [q_7, q_1]⟩, [.one (.d tB)], true, [q_7, q_1]⟩
def h_apipe_pipe_reserve : Hi := ⟨[((1, 19), c_slots_Reserve)], [], [28], []⟩
theorem f_266 : Fn Q 266 f266 (codeOf f266) := ⟨by kernel_rfl, by kernel_rfl, by kernel_rfl, by kernel_rfl, by kernel_rfl⟩
noncomputable def apipe_pipe_reserve (N : Nat) (x0 : api_Config) (x1 : api_Split) (x2 : api_Cell) (x3 : Int) (x4 : api_State) : Option Rs :=
 on1 (slots_Reserve N x4.Ldq x0.Ldq x4.Tags) <| gg [pD (.sl t_api_Slot), pB] <| fun (x5 : List api_Slot) (x6 : Bool) => 
 bi x6 (
  some (0, gB.dv x6 (g_api_Config.dv x0 (g_api_Split.dv x1 (g_api_Cell.dv x2 (gI.dv x3 (g_api_State.dv ({ x4 with Ldq := x5, Tags := (w.i64 (x4.Tags + 1)) } : api_State) []))))))) <|
 some (0, gB.dv x6 (g_api_Config.dv x0 (g_api_Split.dv x1 (g_api_Cell.dv x2 (gI.dv x3 (g_api_State.dv x4 []))))))
noncomputable def X_apipe_pipe_reserve (N : Nat) : CE := (c_apipe_pipe_reserve, mkF [p_api_Config, p_api_Split, p_api_Cell, pI, p_api_State] [pB, p_api_Config, p_api_Split, p_api_Cell, pI, p_api_State] (apipe_pipe_reserve N))
theorem Y_apipe_pipe_reserve (N : Nat) : CEok Q (X_apipe_pipe_reserve N) :=
 fnG (hi := h_apipe_pipe_reserve) (l := [X_slots_Reserve N]) (t := []) ti_ok hmix ⟨Y_slots_Reserve N, trivial⟩ ⟨rfl, trivial⟩ f_266 (by kernel_rfl) (by kernel_rfl) trivial fun ys => by kernel_rfl
def c_slots_Fill_1 : CS := ⟨164, 294, ⟨[.agg [.d tI, .d tB, .d tW], .one (.p 0 0 [1])], [[.d tI]]⟩, [.one (.d tB)], true, [[.d tI]]⟩
def h_slots_Fill_1 : Hi := ⟨[], [], [8], []⟩
theorem f_294 : Fn Q 294 f294 (codeOf f294) := ⟨by kernel_rfl, by kernel_rfl, by kernel_rfl, by kernel_rfl, by kernel_rfl⟩
noncomputable def slots_Fill_1 (N : Nat) (x0 : api_Slot) (x1 : Int) : Option Rs :=
 bi (x0.1 == x1) (
  some (0, gB.dv (!x0.2.1) (gI.dv x1 []))) <|
 some (0, gB.dv false (gI.dv x1 []))
noncomputable def X_slots_Fill_1 (N : Nat) : CE := (c_slots_Fill_1, mkF [p_api_Slot, pI] [pB, pI] (slots_Fill_1 N))
theorem Y_slots_Fill_1 (N : Nat) : CEok Q (X_slots_Fill_1 N) :=
 fnG (hi := h_slots_Fill_1) (l := []) (t := []) ti_ok hmix trivial trivial f_294 (by kernel_rfl) (by kernel_rfl) trivial fun ys => by kernel_rfl
def c_sl_IndexFunc_api_Slot : CS := ⟨165, 293, ⟨[.one (.d (.sl t_api_Slot)), .one (.f 294 [⟨0, 0, [1]⟩])], [[.d tI]]⟩, [.one (.d tI)], true, [[.d tI]]⟩
def s_sl_IndexFunc_api_Slot_0 : LS := ⟨⟨[.one (.d (.sl t_api_Slot)), .one (.f 294 [⟨0, 0, [1]⟩]), .no, .no, .no, .no, .no, .one (.d tI), .one (.d tI)] ++ nos 10, [[.d tI]]⟩, [(0, ⟨[.no, .no, .no, .no, .one (.d tI)] ++ nos 14, [[.d tI]]⟩), (1, ⟨nos 19, [[.d tI]]⟩)]⟩
def h_sl_IndexFunc_api_Slot : Hi := ⟨[((4, 5), c_slots_Fill_1)], [(0, s_sl_IndexFunc_api_Slot_0)], [9, 16], []⟩
theorem f_293 : Fn Q 293 f293 (codeOf f293) := ⟨by kernel_rfl, by kernel_rfl, by kernel_rfl, by kernel_rfl, by kernel_rfl⟩
noncomputable def T_sl_IndexFunc_api_Slot (N : Nat) : List CE := [X_slots_Fill_1 N]
theorem TT_sl_IndexFunc_api_Slot (N : Nat) : AllP (CEok Q) (T_sl_IndexFunc_api_Slot N) := ⟨Y_slots_Fill_1 N, trivial⟩
theorem A_sl_IndexFunc_api_Slot (N : Nat) : AllP (fun e => lookC (T_sl_IndexFunc_api_Slot N) e.2.id = some e.2) h_sl_IndexFunc_api_Slot.cs := ⟨rfl, trivial⟩
noncomputable def sl_IndexFunc_api_Slot_r0 (N : Nat) (again : Fn' (Option Rs) [pD (.sl t_api_Slot), pI, pI, pI]) (x0 : List api_Slot) (x1 : Int) (x2 : Int) (x3 : Int) : Option Rs :=
 bi (decide (x2 < x1)) (
  gd (idx x2 (List.length x0)) <|
  on1 (slots_Fill_1 N (List.getD x0 x2.toNat api_Slot.z) x3) <| gg [pB, pI] <| fun (x4 : Bool) (x5 : Int) => 
  bi x4 (
   some (0, gI.dv x2 (gI.dv x5 []))) <|
  again x0 x1 (w.i64 (x2 + 1)) x5) <|
 some (1, gI.dv x3 [])
noncomputable def sl_IndexFunc_api_Slot_l0 (N : Nat) : Nat → Fn' (Option Rs) [pD (.sl t_api_Slot), pI, pI, pI] := lpG (sl_IndexFunc_api_Slot_r0 N)
noncomputable def L_sl_IndexFunc_api_Slot_0 (N : Nat) : LE := (0, mkM [pD (.sl t_api_Slot), pI, pI, pI] [(0, [pI, pI]), (1, [pI])] (sl_IndexFunc_api_Slot_l0 N N))
theorem K_sl_IndexFunc_api_Slot_0 (N : Nat) : LEok Q h_sl_IndexFunc_api_Slot (bodOf f293) f293.ntmps 1 (L_sl_IndexFunc_api_Slot_0 N) :=
 loopG (hi := h_sl_IndexFunc_api_Slot) (l := T_sl_IndexFunc_api_Slot N) (t := []) (r := sl_IndexFunc_api_Slot_r0 N) ti_ok hmix (TT_sl_IndexFunc_api_Slot N) (A_sl_IndexFunc_api_Slot N) f_293 trivial (ls := s_sl_IndexFunc_api_Slot_0) (body := bodyAt f293 0) (by kernel_rfl) (by kernel_rfl) fun A ys => by kernel_rfl
noncomputable def sl_IndexFunc_api_Slot (N : Nat) (x0 : List api_Slot) (x1 : Int) : Option Rs :=
 onB 0 1 (sl_IndexFunc_api_Slot_l0 N N x0 (len x0) 0 x1) (gg [pI, pI] <| fun (x2 : Int) (x3 : Int) => 
  some (0, gI.dv x2 (gI.dv x3 []))) <| gg [pI] <| fun (x4 : Int) => 
 some (0, gI.dv (-1 : Int) (gI.dv x4 []))
noncomputable def X_sl_IndexFunc_api_Slot (N : Nat) : CE := (c_sl_IndexFunc_api_Slot, mkF [pD (.sl t_api_Slot), pI] [pI, pI] (sl_IndexFunc_api_Slot N))
theorem Y_sl_IndexFunc_api_Slot (N : Nat) : CEok Q (X_sl_IndexFunc_api_Slot N) :=
 fnG (hi := h_sl_IndexFunc_api_Slot) (l := T_sl_IndexFunc_api_Slot N) (t := [L_sl_IndexFunc_api_Slot_0 N]) ti_ok hmix (TT_sl_IndexFunc_api_Slot N) (A_sl_IndexFunc_api_Slot N) f_293 (by kernel_rfl) (by kernel_rfl) ⟨K_sl_IndexFunc_api_Slot_0 N, trivial⟩ fun ys => by kernel_rfl
def c_slots_Fill : CS := ⟨166, 267, ⟨[.one (.d (.sl t_api_Slot)), .one (.d tI), .one (.d tW)], []⟩, [.one (.o t_api_Slot), .one (.d tB)], false, []⟩
def h_slots_Fill : Hi := ⟨[((1, 1), c_sl_Clone_api_Slot), ((2, 2), c_sl_IndexFunc_api_Slot)], [], [16], []⟩
theorem f_267 : Fn Q 267 f267 (codeOf f267) := ⟨by kernel_rfl, by kernel_rfl, by kernel_rfl, by kernel_rfl, by kernel_rfl⟩
noncomputable def slots_Fill (N : Nat) (x0 : List api_Slot) (x1 : Int) (x2 : Int) : Option Rs :=
 on1 (sl_Clone_api_Slot N x0) <| gg [pD (.sl t_api_Slot)] <| fun (x3 : List api_Slot) => 
 on1 (sl_IndexFunc_api_Slot N x3 x1) <| gg [pI, pI] <| fun (x4 : Int) (x5 : Int) => 
 bi (decide (x4 < 0)) (
  some (0, (gD (.sl t_api_Slot)).dv x3 (gB.dv false []))) <|
 gd (idx x4 (List.length x3)) <|
 gd (idx x4 (List.length (List.set x3 x4.toNat ((List.getD x3 x4.toNat api_Slot.z).1, (true, (List.getD x3 x4.toNat api_Slot.z).2.2))))) <|
 some (0, (gD (.sl t_api_Slot)).dv (List.set (List.set x3 x4.toNat ((List.getD x3 x4.toNat api_Slot.z).1, (true, (List.getD x3 x4.toNat api_Slot.z).2.2))) x4.toNat ((List.getD (List.set x3 x4.toNat ((List.getD x3 x4.toNat api_Slot.z).1, (true, (List.getD x3 x4.toNat api_Slot.z).2.2))) x4.toNat api_Slot.z).1, ((List.getD (List.set x3 x4.toNat ((List.getD x3 x4.toNat api_Slot.z).1, (true, (List.getD x3 x4.toNat api_Slot.z).2.2))) x4.toNat api_Slot.z).2.1, (x2, ())))) (gB.dv true []))
noncomputable def X_slots_Fill (N : Nat) : CE := (c_slots_Fill, mkF [pD (.sl t_api_Slot), pI, pW] [pD (.sl t_api_Slot), pB] (slots_Fill N))
theorem Y_slots_Fill (N : Nat) : CEok Q (X_slots_Fill N) :=
 fnG (hi := h_slots_Fill) (l := [X_sl_Clone_api_Slot N, X_sl_IndexFunc_api_Slot N]) (t := []) ti_ok hmix ⟨Y_sl_Clone_api_Slot N, Y_sl_IndexFunc_api_Slot N, trivial⟩ ⟨rfl, rfl, trivial⟩ f_267 (by kernel_rfl) (by kernel_rfl) trivial fun ys => by kernel_rfl
def c_apipe_pipe_take : CS := ⟨167, 231, ⟨[.one (.p 0 0 [1, 1, 1, 1, 1, 1, 1, 1, 1, 1, 1, 1, 1, 16, 1, 1, 1, 1, 1, 1, 1, 1, 1, 1, 1]), .one (.d tW)], [q_7, q_1]⟩, [], false, [q_7, q_1]⟩
def h_apipe_pipe_take : Hi := ⟨[((1, 21), c_epipe_Set_A), ((3, 1), c_apipe_pipe_reserve), ((4, 13), c_slots_Fill), ((5, 6), c_epipe_Behind_A)], [], [10, 42], []⟩
theorem f_231 : Fn Q 231 f231 (codeOf f231) := ⟨by kernel_rfl, by kernel_rfl, by kernel_rfl, by kernel_rfl, by kernel_rfl⟩
noncomputable def apipe_pipe_take (N : Nat) (x0 : Int) (x1 : api_Config) (x2 : api_Split) (x3 : api_Cell) (x4 : Int) (x5 : api_State) : Option Rs :=
 bi (x3.1 == 2) (
  on1 (epipe_Set_A N x3.2.1.2.1 x0 (w.i64 (x5.Cycle + 1)) x5) <| gg [p_api_State] <| fun (x6 : api_State) => 
  on1 (epipe_Behind_A N x6) <| gg [p_api_State] <| fun (x7 : api_State) => 
  some (0, g_api_Config.dv x1 (g_api_Split.dv x2 (g_api_Cell.dv x3 (gI.dv x4 (g_api_State.dv x7 [])))))) <|
 on1 (apipe_pipe_reserve N x1 x2 x3 x4 x5) <| gg [pB, p_api_Config, p_api_Split, p_api_Cell, pI, p_api_State] <| fun (x8 : Bool) (x9 : api_Config) (x10 : api_Split) (x11 : api_Cell) (x12 : Int) (x13 : api_State) => 
 bi (!x8) (
  some (0, g_api_Config.dv x9 (g_api_Split.dv x10 (g_api_Cell.dv x11 (gI.dv x12 (g_api_State.dv x13 [])))))) <|
 on1 (slots_Fill N x13.Ldq x5.Tags x0) <| gg [pD (.sl t_api_Slot), pB] <| fun (x14 : List api_Slot) (x15 : Bool) => 
 on1 (epipe_Behind_A N ({ x13 with Ldq := x14 } : api_State)) <| gg [p_api_State] <| fun (x16 : api_State) => 
 some (0, g_api_Config.dv x9 (g_api_Split.dv x10 (g_api_Cell.dv x11 (gI.dv x12 (g_api_State.dv x16 [])))))
noncomputable def X_apipe_pipe_take (N : Nat) : CE := (c_apipe_pipe_take, mkF [pW, p_api_Config, p_api_Split, p_api_Cell, pI, p_api_State] [p_api_Config, p_api_Split, p_api_Cell, pI, p_api_State] (apipe_pipe_take N))
theorem Y_apipe_pipe_take (N : Nat) : CEok Q (X_apipe_pipe_take N) :=
 fnG (hi := h_apipe_pipe_take) (l := [X_epipe_Set_A N, X_apipe_pipe_reserve N, X_slots_Fill N, X_epipe_Behind_A N]) (t := []) ti_ok hmix ⟨Y_epipe_Set_A N, Y_apipe_pipe_reserve N, Y_slots_Fill N, Y_epipe_Behind_A N, trivial⟩ ⟨rfl, rfl, rfl, rfl, trivial⟩ f_231 (by kernel_rfl) (by kernel_rfl) trivial fun ys => by kernel_rfl
def c_apipe_pipe_ask : CS := ⟨168, 232, ⟨[.one (.p 0 0 [1, 1, 1, 1, 1, 1, 1, 1, 1, 1, 1, 1, 1, 16, 1, 1, 1, 1, 1, 1, 1, 1, 1, 1, 1]), .one (.d tI)], [q_7, q_1]⟩, [], false, [q_7, q_1]⟩
def h_apipe_pipe_ask : Hi := ⟨[((1, 5), c_bytes_Size), ((4, 1), c_apipe_pipe_reserve), ((8, 6), c_epipe_Behind_A)], [], [25, 37, 41, 45], []⟩
theorem f_232 : Fn Q 232 f232 (codeOf f232) := ⟨by kernel_rfl, by kernel_rfl, by kernel_rfl, by kernel_rfl, by kernel_rfl⟩
noncomputable def apipe_pipe_ask (N : Nat) (x0 : Int) (x1 : api_Config) (x2 : api_Split) (x3 : api_Cell) (x4 : Int) (x5 : api_State) : Option Rs :=
 on1 (bytes_Size N x3.2.1.1) <| gg [pI] <| fun (x6 : Int) => 
 bi (x3.1 == 3) (
  on1 (apipe_pipe_reserve N x1 x2 x3 x4 x5) <| gg [pB, p_api_Config, p_api_Split, p_api_Cell, pI, p_api_State] <| fun (x7 : Bool) (x8 : api_Config) (x9 : api_Split) (x10 : api_Cell) (x11 : Int) (x12 : api_State) => 
  bi (!x7) (
   some (0, g_api_Config.dv x8 (g_api_Split.dv x9 (g_api_Cell.dv x10 (gI.dv x11 (g_api_State.dv x12 [])))))) <|
  gd (rm x12.Table [(false, (x3.2.1.1, (x0, (x6, (0, (0, ((-1 : Int), (x5.Tags, ()))))))))] 64) <|
  on1 (epipe_Behind_A N ({ x12 with Table := (x12.Table ++ [(false, (x3.2.1.1, (x0, (x6, (0, (0, ((-1 : Int), (x5.Tags, ()))))))))]) } : api_State)) <| gg [p_api_State] <| fun (x13 : api_State) => 
  some (0, g_api_Config.dv x8 (g_api_Split.dv x9 (g_api_Cell.dv x10 (gI.dv x11 (g_api_State.dv x13 [])))))) <|
 bi (decide (x3.2.1.2.1 > 0)) (
  bi (decide (x3.2.1.2.1 < 16)) (
   gd (idx x3.2.1.2.1 16) <|
   gd (rm x5.Table [(false, (x3.2.1.1, (x0, (x6, (0, (0, (x3.2.1.2.1, (0, ()))))))))] 64) <|
   on1 (epipe_Behind_A N ({ x5 with A := { x5.A with Ready := (List.set x5.A.Ready x3.2.1.2.1.toNat (-1 : Int)) }, Table := (x5.Table ++ [(false, (x3.2.1.1, (x0, (x6, (0, (0, (x3.2.1.2.1, (0, ()))))))))]) } : api_State)) <| gg [p_api_State] <| fun (x14 : api_State) => 
   some (0, g_api_Config.dv x1 (g_api_Split.dv x2 (g_api_Cell.dv x3 (gI.dv x4 (g_api_State.dv x14 [])))))) <|
  gd (rm x5.Table [(false, (x3.2.1.1, (x0, (x6, (0, (0, (x3.2.1.2.1, (0, ()))))))))] 64) <|
  on1 (epipe_Behind_A N ({ x5 with Table := (x5.Table ++ [(false, (x3.2.1.1, (x0, (x6, (0, (0, (x3.2.1.2.1, (0, ()))))))))]) } : api_State)) <| gg [p_api_State] <| fun (x15 : api_State) => 
  some (0, g_api_Config.dv x1 (g_api_Split.dv x2 (g_api_Cell.dv x3 (gI.dv x4 (g_api_State.dv x15 [])))))) <|
 gd (rm x5.Table [(false, (x3.2.1.1, (x0, (x6, (0, (0, (x3.2.1.2.1, (0, ()))))))))] 64) <|
 on1 (epipe_Behind_A N ({ x5 with Table := (x5.Table ++ [(false, (x3.2.1.1, (x0, (x6, (0, (0, (x3.2.1.2.1, (0, ()))))))))]) } : api_State)) <| gg [p_api_State] <| fun (x16 : api_State) => 
 some (0, g_api_Config.dv x1 (g_api_Split.dv x2 (g_api_Cell.dv x3 (gI.dv x4 (g_api_State.dv x16 [])))))
noncomputable def X_apipe_pipe_ask (N : Nat) : CE := (c_apipe_pipe_ask, mkF [pI, p_api_Config, p_api_Split, p_api_Cell, pI, p_api_State] [p_api_Config, p_api_Split, p_api_Cell, pI, p_api_State] (apipe_pipe_ask N))
theorem Y_apipe_pipe_ask (N : Nat) : CEok Q (X_apipe_pipe_ask N) :=
 fnG (hi := h_apipe_pipe_ask) (l := [X_bytes_Size N, X_apipe_pipe_reserve N, X_epipe_Behind_A N]) (t := []) ti_ok hmix ⟨Y_bytes_Size N, Y_apipe_pipe_reserve N, Y_epipe_Behind_A N, trivial⟩ ⟨rfl, rfl, rfl, trivial⟩ f_232 (by kernel_rfl) (by kernel_rfl) trivial fun ys => by kernel_rfl
def c_apipe_pipe_load : CS := ⟨169, 162, ⟨[.one (.p 0 0 [1, 1, 1, 1, 1, 1, 1, 1, 1, 1, 1, 1, 1, 16, 1, 1, 1, 1, 1, 1, 1, 1, 1, 1, 1])], [q_7, q_1]⟩, [], false, [q_7, q_1]⟩
def h_apipe_pipe_load : Hi := ⟨[((0, 1), c_apipe_pipe_address), ((2, 14), c_bytes_Size), ((2, 15), c_saq_Search), ((4, 8), c_saq_Bypass), ((6, 2), c_apipe_pipe_take), ((8, 2), c_apipe_pipe_ask)], [], [14, 34, 48, 52], []⟩
theorem f_162 : Fn Q 162 f162 (codeOf f162) := ⟨by kernel_rfl, by kernel_rfl, by kernel_rfl, by kernel_rfl, by kernel_rfl⟩
noncomputable def apipe_pipe_load (N : Nat) (x0 : api_Config) (x1 : api_Split) (x2 : api_Cell) (x3 : Int) (x4 : api_State) : Option Rs :=
 on1 (apipe_pipe_address N x0 x1 x2 x3 x4) <| gg [pI, pB, p_api_Config, p_api_Split, p_api_Cell, pI, p_api_State] <| fun (x5 : Int) (x6 : Bool) (x7 : api_Config) (x8 : api_Split) (x9 : api_Cell) (x10 : Int) (x11 : api_State) => 
 bi (!x6) (
  some (0, g_api_Config.dv x7 (g_api_Split.dv x8 (g_api_Cell.dv x9 (gI.dv x10 (g_api_State.dv x11 [])))))) <|
 on1 (bytes_Size N x9.2.1.1) <| gg [pI] <| fun (x12 : Int) => 
 on1 (saq_Search N x11.Saq x5 x12) <| gg [p_api_Entry, pB] <| fun (x13 : api_Entry) (x14 : Bool) => 
 bi x14 (
  on1 (saq_Bypass N x13 x9.2.1.1 x5) <| gg [pW, pB] <| fun (x15 : Int) (x16 : Bool) => 
  bi x16 (
   on1 (apipe_pipe_take N x15 x7 x8 x9 x10 x11) <| gg [p_api_Config, p_api_Split, p_api_Cell, pI, p_api_State] <| fun (x17 : api_Config) (x18 : api_Split) (x19 : api_Cell) (x20 : Int) (x21 : api_State) => 
   some (0, g_api_Config.dv x17 (g_api_Split.dv x18 (g_api_Cell.dv x19 (gI.dv x20 (g_api_State.dv x21 [])))))) <|
  some (0, g_api_Config.dv x7 (g_api_Split.dv x8 (g_api_Cell.dv x9 (gI.dv x10 (g_api_State.dv x11 [])))))) <|
 bi (decide ((len x11.Table) < x7.Flight)) (
  on1 (apipe_pipe_ask N x5 x7 x8 x9 x10 x11) <| gg [p_api_Config, p_api_Split, p_api_Cell, pI, p_api_State] <| fun (x22 : api_Config) (x23 : api_Split) (x24 : api_Cell) (x25 : Int) (x26 : api_State) => 
  some (0, g_api_Config.dv x22 (g_api_Split.dv x23 (g_api_Cell.dv x24 (gI.dv x25 (g_api_State.dv x26 [])))))) <|
 some (0, g_api_Config.dv x7 (g_api_Split.dv x8 (g_api_Cell.dv x9 (gI.dv x10 (g_api_State.dv x11 [])))))
noncomputable def X_apipe_pipe_load (N : Nat) : CE := (c_apipe_pipe_load, mkF [p_api_Config, p_api_Split, p_api_Cell, pI, p_api_State] [p_api_Config, p_api_Split, p_api_Cell, pI, p_api_State] (apipe_pipe_load N))
theorem Y_apipe_pipe_load (N : Nat) : CEok Q (X_apipe_pipe_load N) :=
 fnG (hi := h_apipe_pipe_load) (l := [X_apipe_pipe_address N, X_bytes_Size N, X_saq_Search N, X_saq_Bypass N, X_apipe_pipe_take N, X_apipe_pipe_ask N]) (t := []) ti_ok hmix ⟨Y_apipe_pipe_address N, Y_bytes_Size N, Y_saq_Search N, Y_saq_Bypass N, Y_apipe_pipe_take N, Y_apipe_pipe_ask N, trivial⟩ ⟨rfl, rfl, rfl, rfl, rfl, rfl, trivial⟩ f_162 (by kernel_rfl) (by kernel_rfl) trivial fun ys => by kernel_rfl
def c_saq_Push : CS := ⟨170, 233, ⟨[.one (.d (.sl t_api_Entry)), .one (.d tI), .agg [.d tI, .d tI, .d tI, .d tB, .d tW]], []⟩, [.one (.o t_api_Entry), .one (.d tB)], false, []⟩
def h_saq_Push : Hi := ⟨[((1, 1), c_sl_Clone_api_Entry)], [], [14], []⟩
theorem f_233 : Fn Q 233 f233 (codeOf f233) := ⟨by kernel_rfl, by kernel_rfl, by kernel_rfl, by kernel_rfl, by kernel_rfl⟩
noncomputable def saq_Push (N : Nat) (x0 : List api_Entry) (x1 : Int) (x2 : api_Entry) : Option Rs :=
 on1 (sl_Clone_api_Entry N x0) <| gg [pD (.sl t_api_Entry)] <| fun (x3 : List api_Entry) => 
 bi (decide ((len x0) ≥ x1)) (
  some (0, (gD (.sl t_api_Entry)).dv x3 (gB.dv false []))) <|
 gd (rm x3 [x2] 32) <|
 some (0, (gD (.sl t_api_Entry)).dv (x3 ++ [x2]) (gB.dv true []))
noncomputable def X_saq_Push (N : Nat) : CE := (c_saq_Push, mkF [pD (.sl t_api_Entry), pI, p_api_Entry] [pD (.sl t_api_Entry), pB] (saq_Push N))
theorem Y_saq_Push (N : Nat) : CEok Q (X_saq_Push N) :=
 fnG (hi := h_saq_Push) (l := [X_sl_Clone_api_Entry N]) (t := []) ti_ok hmix ⟨Y_sl_Clone_api_Entry N, trivial⟩ ⟨rfl, trivial⟩ f_233 (by kernel_rfl) (by kernel_rfl) trivial fun ys => by kernel_rfl
def c_apipe_pipe_store : CS := ⟨171, 163, ⟨[.one (.p 0 0 [1, 1, 1, 1, 1, 1, 1, 1, 1, 1, 1, 1, 1, 16, 1, 1, 1, 1, 1, 1, 1, 1, 1, 1, 1])], [q_7, q_1]⟩, [], false, [q_7, q_1]⟩
def h_apipe_pipe_store : Hi := ⟨[((0, 1), c_apipe_pipe_address), ((2, 19), c_bytes_Size), ((2, 25), c_saq_Push), ((5, 6), c_epipe_Behind_A)], [], [11, 41], []⟩
theorem f_163 : Fn Q 163 f163 (codeOf f163) := ⟨by kernel_rfl, by kernel_rfl, by kernel_rfl, by kernel_rfl, by kernel_rfl⟩
noncomputable def apipe_pipe_store (N : Nat) (x0 : api_Config) (x1 : api_Split) (x2 : api_Cell) (x3 : Int) (x4 : api_State) : Option Rs :=
 on1 (apipe_pipe_address N x0 x1 x2 x3 x4) <| gg [pI, pB, p_api_Config, p_api_Split, p_api_Cell, pI, p_api_State] <| fun (x5 : Int) (x6 : Bool) (x7 : api_Config) (x8 : api_Split) (x9 : api_Cell) (x10 : Int) (x11 : api_State) => 
 bi (!x6) (
  some (0, g_api_Config.dv x7 (g_api_Split.dv x8 (g_api_Cell.dv x9 (gI.dv x10 (g_api_State.dv x11 [])))))) <|
 on1 (bytes_Size N x9.2.1.1) <| gg [pI] <| fun (x12 : Int) => 
 on1 (saq_Push N x11.Saq x7.Saq (x5, (x12, (x10, (false, (0, ())))))) <| gg [pD (.sl t_api_Entry), pB] <| fun (x13 : List api_Entry) (x14 : Bool) => 
 bi x14 (
  on1 (epipe_Behind_A N ({ x11 with Saq := x13 } : api_State)) <| gg [p_api_State] <| fun (x15 : api_State) => 
  some (0, g_api_Config.dv x7 (g_api_Split.dv x8 (g_api_Cell.dv x9 (gI.dv x10 (g_api_State.dv x15 [])))))) <|
 some (0, g_api_Config.dv x7 (g_api_Split.dv x8 (g_api_Cell.dv x9 (gI.dv x10 (g_api_State.dv x11 [])))))
noncomputable def X_apipe_pipe_store (N : Nat) : CE := (c_apipe_pipe_store, mkF [p_api_Config, p_api_Split, p_api_Cell, pI, p_api_State] [p_api_Config, p_api_Split, p_api_Cell, pI, p_api_State] (apipe_pipe_store N))
theorem Y_apipe_pipe_store (N : Nat) : CEok Q (X_apipe_pipe_store N) :=
 fnG (hi := h_apipe_pipe_store) (l := [X_apipe_pipe_address N, X_bytes_Size N, X_saq_Push N, X_epipe_Behind_A N]) (t := []) ti_ok hmix ⟨Y_apipe_pipe_address N, Y_bytes_Size N, Y_saq_Push N, Y_epipe_Behind_A N, trivial⟩ ⟨rfl, rfl, rfl, rfl, trivial⟩ f_163 (by kernel_rfl) (by kernel_rfl) trivial fun ys => by kernel_rfl
def c_epipe_Go_A : CS := ⟨172, 156, ⟨[.agg [.d (.sl t_api_Block), .d (.ar 16 tI)], .one (.p 0 0 [1, 16, 16, 1, 1, 1, 1, 1, 1, 16, 16, 1, 1, 1, 1, 1, 1, 1, 1, 1, 1, 1, 1, 1, 1, 1, 1, 1, 1, 1, 1, 1]), .one (.p 0 1 [16, 16, 1, 1, 1, 1, 1, 1]), .one (.d tB)], [q_1]⟩, [], false, [q_1]⟩
def h_epipe_Go_A : Hi := ⟨[((1, 7), c_front_Go)], [], [18], []⟩
noncomputable def epipe_Go_A (N : Nat) (x0 : api_Split) (x1 : Bool) (x2 : api_State) : Option Rs :=
 on1 (front_Go N x0 x2.A.Pos x1) <| gg [p_api_Pos] <| fun (x3 : api_Pos) => 
 bi x1 (
  some (0, g_api_State.dv ({ x2 with A := { x2.A with Pos := x3, Wait := (w.i64 (x2.Cycle + 2)), Done := (w.i64 (x2.A.Done + 1)) } } : api_State) [])) <|
 some (0, g_api_State.dv ({ x2 with A := { x2.A with Pos := x3, Done := (w.i64 (x2.A.Done + 1)) } } : api_State) [])
noncomputable def X_epipe_Go_A (N : Nat) : CE := (c_epipe_Go_A, mkF [p_api_Split, pB, p_api_State] [p_api_State] (epipe_Go_A N))
theorem Y_epipe_Go_A (N : Nat) : CEok Q (X_epipe_Go_A N) :=
 fnG (hi := h_epipe_Go_A) (l := [X_front_Go N]) (t := []) ti_ok hmix ⟨Y_front_Go N, trivial⟩ ⟨rfl, trivial⟩ f_156 (by kernel_rfl) (by kernel_rfl) trivial fun ys => by kernel_rfl
def c_epipe_Branch_A_Abq : CS := ⟨173, 154, ⟨[.agg [.d (.sl t_api_Block), .d (.ar 16 tI)], .one (.p 0 0 [1, 16, 16, 1, 1, 1, 1, 1, 1, 16, 16, 1, 1, 1, 1, 1, 1, 1, 1, 1, 1, 1, 1, 1, 1, 1, 1, 1, 1, 1, 1, 1]), .one (.p 0 1 [16, 16, 1, 1, 1, 1, 1, 1]), .agg q_2, .one (.p 0 20 [1]), .one (.d tI)], [q_1]⟩, [], false, [q_1]⟩
def h_epipe_Branch_A_Abq : Hi := ⟨[((2, 7), c_epipe_Get), ((2, 12), c_epipe_Get), ((2, 13), c_alu_Taken), ((4, 4), c_epipe_Go_A)], [], [18], []⟩
noncomputable def epipe_Branch_A_Abq (N : Nat) (x0 : api_Split) (x1 : api_Cell) (x2 : Int) (x3 : api_State) : Option Rs :=
 bi (decide ((len x3.Abq) ≥ x2)) (
  some (0, g_api_State.dv x3 [])) <|
 on1 (epipe_Get N x3.A x1.2.1.2.2.1) <| gg [pW] <| fun (x4 : Int) => 
 on1 (epipe_Get N x3.A x1.2.1.2.2.2.1) <| gg [pW] <| fun (x5 : Int) => 
 on1 (alu_Taken N x1.2.1.1 x4 x5) <| gg [pB] <| fun (x6 : Bool) => 
 gd (rm x3.Abq [x6] 1) <|
 on1 (epipe_Go_A N x0 x6 ({ x3 with Abq := (x3.Abq ++ [x6]) } : api_State)) <| gg [p_api_State] <| fun (x7 : api_State) => 
 some (0, g_api_State.dv x7 [])
noncomputable def X_epipe_Branch_A_Abq (N : Nat) : CE := (c_epipe_Branch_A_Abq, mkF [p_api_Split, p_api_Cell, pI, p_api_State] [p_api_State] (epipe_Branch_A_Abq N))
theorem Y_epipe_Branch_A_Abq (N : Nat) : CEok Q (X_epipe_Branch_A_Abq N) :=
 fnG (hi := h_epipe_Branch_A_Abq) (l := [X_epipe_Get N, X_alu_Taken N, X_epipe_Go_A N]) (t := []) ti_ok hmix ⟨Y_epipe_Get N, Y_alu_Taken N, Y_epipe_Go_A N, trivial⟩ ⟨rfl, rfl, rfl, rfl, trivial⟩ f_154 (by kernel_rfl) (by kernel_rfl) trivial fun ys => by kernel_rfl
def c_epipe_Follow_A_Ebq : CS := ⟨174, 155, ⟨[.agg [.d (.sl t_api_Block), .d (.ar 16 tI)], .one (.p 0 0 [1, 16, 16, 1, 1, 1, 1, 1, 1, 16, 16, 1, 1, 1, 1, 1, 1, 1, 1, 1, 1, 1, 1, 1, 1, 1, 1, 1, 1, 1, 1, 1]), .one (.p 0 1 [16, 16, 1, 1, 1, 1, 1, 1]), .one (.p 0 21 [1])], [q_1]⟩, [], false, [q_1]⟩
def h_epipe_Follow_A_Ebq : Hi := ⟨[((4, 4), c_epipe_Go_A)], [], [13], []⟩
noncomputable def epipe_Follow_A_Ebq (N : Nat) (x0 : api_Split) (x1 : api_State) : Option Rs :=
 bi ((len x1.Ebq) == 0) (
  some (0, g_api_State.dv x1 [])) <|
 gd (idx 0 (List.length x1.Ebq)) <|
 gd (sb 1 (len x1.Ebq)) <|
 on1 (epipe_Go_A N x0 (List.getD x1.Ebq 0 false) ({ x1 with Ebq := (List.drop 1 x1.Ebq) } : api_State)) <| gg [p_api_State] <| fun (x2 : api_State) => 
 some (0, g_api_State.dv x2 [])
noncomputable def X_epipe_Follow_A_Ebq (N : Nat) : CE := (c_epipe_Follow_A_Ebq, mkF [p_api_Split, p_api_State] [p_api_State] (epipe_Follow_A_Ebq N))
theorem Y_epipe_Follow_A_Ebq (N : Nat) : CEok Q (X_epipe_Follow_A_Ebq N) :=
 fnG (hi := h_epipe_Follow_A_Ebq) (l := [X_epipe_Go_A N]) (t := []) ti_ok hmix ⟨Y_epipe_Go_A N, trivial⟩ ⟨rfl, trivial⟩ f_155 (by kernel_rfl) (by kernel_rfl) trivial fun ys => by kernel_rfl
def c_epipe_Halt_A : CS := ⟨175, 157, ⟨[.one (.p 0 1 [16, 16, 1, 1, 1, 1, 1, 1])], [q_1]⟩, [], false, [q_1]⟩
def h_epipe_Halt_A : Hi := ⟨[], [], [], []⟩
noncomputable def epipe_Halt_A (N : Nat) (x0 : api_State) : Option Rs :=
 some (0, g_api_State.dv ({ x0 with A := { x0.A with Halted := true, Done := (w.i64 (x0.A.Done + 1)) } } : api_State) [])
noncomputable def X_epipe_Halt_A (N : Nat) : CE := (c_epipe_Halt_A, mkF [p_api_State] [p_api_State] (epipe_Halt_A N))
theorem Y_epipe_Halt_A (N : Nat) : CEok Q (X_epipe_Halt_A N) :=
 fnG (hi := h_epipe_Halt_A) (l := []) (t := []) ti_ok hmix trivial trivial f_157 (by kernel_rfl) (by kernel_rfl) trivial fun ys => by kernel_rfl
def c_apipe_Turn : CS := ⟨176, 100, ⟨[.agg q_5, .agg [.d (.sl t_api_Block), .d (.ar 16 tI)], .one (.p 0 0 [1, 16, 16, 1, 1, 1, 1, 1, 1, 16, 16, 1, 1, 1, 1, 1, 1, 1, 1, 1, 1, 1, 1, 1, 1, 1, 1, 1, 1, 1, 1, 1])], [q_1]⟩, [], false, [q_1]⟩
def h_apipe_Turn : Hi := ⟨[((2, 3), c_epipe_At_A), ((3, 8), c_apipe_Ahead), ((3, 19), c_epipe_Free), ((7, 5), c_epipe_Do_A), ((10, 1), c_apipe_pipe_load), ((12, 1), c_apipe_pipe_store), ((15, 8), c_epipe_Get), ((16, 1), c_epipe_Behind_A), ((18, 9), c_epipe_Branch_A_Abq), ((20, 6), c_epipe_Follow_A_Ebq), ((22, 3), c_epipe_Go_A), ((24, 1), c_epipe_Halt_A)], [], [24, 32, 43, 53, 61, 66, 70, 79, 95, 107, 116, 122], []⟩
theorem f_100 : Fn Q 100 f100 (codeOf f100) := ⟨by kernel_rfl, by kernel_rfl, by kernel_rfl, by kernel_rfl, by kernel_rfl⟩
noncomputable def apipe_Turn (N : Nat) (x0 : api_Config) (x1 : api_Split) (x2 : api_State) : Option Rs :=
 on1 (epipe_At_A N x1 false x2) <| gg [p_api_Cell, pI, pB, p_api_State] <| fun (x3 : api_Cell) (x4 : Int) (x5 : Bool) (x6 : api_State) => 
 bi (!x5) (
  some (0, g_api_State.dv x6 [])) <|
 on1 (apipe_Ahead N x0 x1 x6) <| gg [pB] <| fun (x7 : Bool) => 
 bi x7 (
  some (0, g_api_State.dv x6 [])) <|
 on1 (epipe_Free N x6.A x3 x6.Cycle) <| gg [pB] <| fun (x8 : Bool) => 
 bi (!x8) (
  some (0, g_api_State.dv x6 [])) <|
 bi (x3.1 == 1) (
  on1 (epipe_Do_A N x0 x3 x4 x6) <| gg [p_api_State] <| fun (x9 : api_State) => 
  some (0, g_api_State.dv x9 [])) <|
 bi (x3.1 == 2) (
  on1 (apipe_pipe_load N x0 x1 x3 x4 x6) <| gg [p_api_Config, p_api_Split, p_api_Cell, pI, p_api_State] <| fun (x10 : api_Config) (x11 : api_Split) (x12 : api_Cell) (x13 : Int) (x14 : api_State) => 
  some (0, g_api_State.dv x14 [])) <|
 bi (x3.1 == 3) (
  on1 (apipe_pipe_load N x0 x1 x3 x4 x6) <| gg [p_api_Config, p_api_Split, p_api_Cell, pI, p_api_State] <| fun (x15 : api_Config) (x16 : api_Split) (x17 : api_Cell) (x18 : Int) (x19 : api_State) => 
  some (0, g_api_State.dv x19 [])) <|
 bi (x3.1 == 4) (
  on1 (apipe_pipe_store N x0 x1 x3 x4 x6) <| gg [p_api_Config, p_api_Split, p_api_Cell, pI, p_api_State] <| fun (x20 : api_Config) (x21 : api_Split) (x22 : api_Cell) (x23 : Int) (x24 : api_State) => 
  some (0, g_api_State.dv x24 [])) <|
 bi (x3.1 == 5) (
  bi (decide ((len x6.Aeq) < x0.Aeq)) (
   on1 (epipe_Get N x6.A x3.2.2.1) <| gg [pW] <| fun (x25 : Int) => 
   gd (rm x6.Aeq [x25] 4) <|
   on1 (epipe_Behind_A N ({ x6 with Aeq := (x6.Aeq ++ [x25]) } : api_State)) <| gg [p_api_State] <| fun (x26 : api_State) => 
   some (0, g_api_State.dv x26 [])) <|
  some (0, g_api_State.dv x6 [])) <|
 bi (x3.1 == 9) (
  on1 (epipe_Branch_A_Abq N x1 x3 x0.Abq x6) <| gg [p_api_State] <| fun (x27 : api_State) => 
  some (0, g_api_State.dv x27 [])) <|
 bi (x3.1 == 10) (
  on1 (epipe_Follow_A_Ebq N x1 x6) <| gg [p_api_State] <| fun (x28 : api_State) => 
  some (0, g_api_State.dv x28 [])) <|
 bi (x3.1 == 11) (
  on1 (epipe_Go_A N x1 true x6) <| gg [p_api_State] <| fun (x29 : api_State) => 
  some (0, g_api_State.dv x29 [])) <|
 bi (x3.1 == 12) (
  on1 (epipe_Halt_A N x6) <| gg [p_api_State] <| fun (x30 : api_State) => 
  some (0, g_api_State.dv x30 [])) <|
 some (0, g_api_State.dv x6 [])
noncomputable def X_apipe_Turn (N : Nat) : CE := (c_apipe_Turn, mkF [p_api_Config, p_api_Split, p_api_State] [p_api_State] (apipe_Turn N))
theorem Y_apipe_Turn (N : Nat) : CEok Q (X_apipe_Turn N) :=
 fnG (hi := h_apipe_Turn) (l := [X_epipe_At_A N, X_apipe_Ahead N, X_epipe_Free N, X_epipe_Do_A N, X_apipe_pipe_load N, X_apipe_pipe_store N, X_epipe_Get N, X_epipe_Behind_A N, X_epipe_Branch_A_Abq N, X_epipe_Follow_A_Ebq N, X_epipe_Go_A N, X_epipe_Halt_A N]) (t := []) ti_ok hmix ⟨Y_epipe_At_A N, Y_apipe_Ahead N, Y_epipe_Free N, Y_epipe_Do_A N, Y_apipe_pipe_load N, Y_apipe_pipe_store N, Y_epipe_Get N, Y_epipe_Behind_A N, Y_epipe_Branch_A_Abq N, Y_epipe_Follow_A_Ebq N, Y_epipe_Go_A N, Y_epipe_Halt_A N, trivial⟩ ⟨rfl, rfl, rfl, rfl, rfl, rfl, rfl, rfl, rfl, rfl, rfl, rfl, trivial⟩ f_100 (by kernel_rfl) (by kernel_rfl) trivial fun ys => by kernel_rfl
def c_apipe_Issue : CS := ⟨177, 40, ⟨[.agg q_5, .agg [.d (.sl t_api_Block), .d (.ar 16 tI)], .agg q_0], []⟩, [.agg q_1], true, []⟩
def h_apipe_Issue : Hi := ⟨[((1, 3), c_state_Right), ((2, 1), c_state_Clone), ((4, 2), c_apipe_Turn)], [], [14], []⟩
theorem f_40 : Fn Q 40 f40 (codeOf f40) := ⟨by kernel_rfl, by kernel_rfl, by kernel_rfl, by kernel_rfl, by kernel_rfl⟩
noncomputable def apipe_Issue (N : Nat) (x0 : api_Config) (x1 : api_Split) (x2 : api_State) : Option Rs :=
 on1 (state_Right N x0 x1 x2) <| gg [pB] <| fun (x3 : Bool) => 
 on1 (state_Clone N x2) <| gg [p_api_State] <| fun (x4 : api_State) => 
 bi x3 (
  on1 (apipe_Turn N x0 x1 x4) <| gg [p_api_State] <| fun (x5 : api_State) => 
  some (0, g_api_State.dv x5 [])) <|
 some (0, g_api_State.dv x4 [])
noncomputable def X_apipe_Issue (N : Nat) : CE := (c_apipe_Issue, mkF [p_api_Config, p_api_Split, p_api_State] [p_api_State] (apipe_Issue N))
theorem Y_apipe_Issue (N : Nat) : CEok Q (X_apipe_Issue N) :=
 fnG (hi := h_apipe_Issue) (l := [X_state_Right N, X_state_Clone N, X_apipe_Turn N]) (t := []) ti_ok hmix ⟨Y_state_Right N, Y_state_Clone N, Y_apipe_Turn N, trivial⟩ ⟨rfl, rfl, rfl, trivial⟩ f_40 (by kernel_rfl) (by kernel_rfl) trivial fun ys => by kernel_rfl
def c_l22_alive : CS := ⟨178, 39, ⟨[], []⟩, [.one (.d tB)], true, []⟩
def h_l22_alive : Hi := ⟨[((2, 1), c_r10_Split), ((4, 4), c_apipe_Issue), ((5, 3), c_apipe_Ahead)], [], [26, 32], []⟩
theorem f_39 : Fn Q 39 f39 (codeOf f39) := ⟨by kernel_rfl, by kernel_rfl, by kernel_rfl, by kernel_rfl, by kernel_rfl⟩
noncomputable def l22_alive (N : Nat)  : Option Rs :=
 on1 (r10_Split N (api_Program.mk [(31, (0, (0, (0, (4, ()))))), (41, (0, api_Write.z))] 8 ([] : List Int))) <| gg [p_api_Split, pI] <| fun (x0 : api_Split) (x1 : Int) => 
 gd (decide (0 ≤ (8 : Int) ∧ (8 : Int) ≤ (8 : Int) ∧ (8 : Int) * ((1 : Nat) : Int) ≤ ((reach : Nat) : Int) ∧ (8 : Int) ≤ ((reach : Nat) : Int))) <|
 on1 (apipe_Issue N (api_Config.mk 1 1 1 1 1 1 1 1 9 1 1 1) x0 (api_State.mk 0 api_Side.z api_Side.z ([] : List api_Slot) ([] : List Int) ([] : List Int) ([] : List Bool) ([] : List Bool) ([] : List api_Entry) ([] : List api_Request) (List.replicate 8 (0 :Int)) ([] : List api_Write) api_Trap.z 0 0 0)) <| gg [p_api_State] <| fun (x2 : api_State) => 
 on1 (apipe_Ahead N api_Config.z (api_Split.mk ([] : List api_Block) (List.replicate 16 (0 :Int))) (api_State.mk 0 api_Side.z api_Side.z ([] : List api_Slot) ([] : List Int) ([] : List Int) ([] : List Bool) ([] : List Bool) ([] : List api_Entry) ([] : List api_Request) ([] : List Int) ([] : List api_Write) api_Trap.z 0 0 0)) <| gg [pB] <| fun (x3 : Bool) => 
 bi (!x3) (
  bi ((len x2.Saq) == 1) (
   gd (idx 0 (List.length x2.Saq)) <|
   some (0, gB.dv ((List.getD x2.Saq 0 api_Entry.z).1 == 4) [])) <|
  some (0, gB.dv false [])) <|
 some (0, gB.dv false [])
noncomputable def X_l22_alive (N : Nat) : CE := (c_l22_alive, mkF [] [pB] (l22_alive N))
theorem Y_l22_alive (N : Nat) : CEok Q (X_l22_alive N) :=
 fnG (hi := h_l22_alive) (l := [X_r10_Split N, X_apipe_Issue N, X_apipe_Ahead N]) (t := []) ti_ok hmix ⟨Y_r10_Split N, Y_apipe_Issue N, Y_apipe_Ahead N, trivial⟩ ⟨rfl, rfl, rfl, trivial⟩ f_39 (by kernel_rfl) (by kernel_rfl) trivial fun ys => by kernel_rfl
def c_l22_ApipeOne : CS := ⟨179, 7, ⟨[.agg q_5, .agg [.d (.sl t_api_Ins), .d tI, .d (.sl tU)], .one (.d tI), .agg q_0], []⟩, [.one (.d tB)], true, []⟩
def h_l22_ApipeOne : Hi := ⟨[((1, 0), c_l22_alive), ((2, 2), c_l21_Splits), ((3, 4), c_l4_Few), ((3, 9), c_l18_Few), ((3, 20), c_r15_RightState), ((5, 3), c_r15_Copy), ((5, 4), c_apipe_Issue), ((17, 2), c_r15_SameState)], [], [24, 29, 34, 38, 44, 113, 121, 132, 136, 147, 157], []⟩
theorem f_7 : Fn Q 7 f7 (codeOf f7) := ⟨by kernel_rfl, by kernel_rfl, by kernel_rfl, by kernel_rfl, by kernel_rfl⟩
noncomputable def l22_ApipeOne (N : Nat) (x0 : api_Config) (x1 : api_Program) (x2 : Int) (x3 : api_State) : Option Rs :=
 on1 (l22_alive N ) <| gg [pB] <| fun (x4 : Bool) => 
 on1 (l21_Splits N x1 x2) <| gg [p_api_Split, pB] <| fun (x5 : api_Split) (x6 : Bool) => 
 bi (!x4) (
  some (0, gB.dv x4 [])) <|
 on1 (l4_Few N x1) <| gg [pB] <| fun (x7 : Bool) => 
 bi (!x7) (
  some (0, gB.dv x4 [])) <|
 on1 (l18_Few N x3) <| gg [pB] <| fun (x8 : Bool) => 
 bi (!x8) (
  some (0, gB.dv x4 [])) <|
 bi (!x6) (
  some (0, gB.dv x4 [])) <|
 on1 (r15_RightState N x0 x5 x3) <| gg [pB] <| fun (x9 : Bool) => 
 bi (!x9) (
  some (0, gB.dv x4 [])) <|
 on1 (r15_Copy N x3) <| gg [p_api_State] <| fun (x10 : api_State) => 
 on1 (apipe_Issue N x0 x5 x10) <| gg [p_api_State] <| fun (x11 : api_State) => 
 on1 (r15_SameState N ({ x3 with Cycle := x11.Cycle, E := x11.E, Sdq := x11.Sdq, Mem := x11.Mem, Writes := x11.Writes, Lats := x11.Lats, Picks := x11.Picks } : api_State) x3) <| gg [pB] <| fun (x12 : Bool) => 
 bi x12 (
  bi (x11.A.Done == x3.A.Done) (
   bi (decide ((w.i64 ((w.i64 ((w.i64 ((w.i64 ((w.i64 ((w.i64 ((w.i64 ((len x11.Aeq) - (len x3.Aeq))) + (len x11.Abq))) - (len x3.Abq))) + (len x3.Ebq))) - (len x11.Ebq))) + (len x11.Saq))) - (len x3.Saq))) ≥ 0)) (
    bi (decide ((w.i64 ((w.i64 ((w.i64 ((w.i64 ((w.i64 ((w.i64 ((w.i64 ((len x11.Aeq) - (len x3.Aeq))) + (len x11.Abq))) - (len x3.Abq))) + (len x3.Ebq))) - (len x11.Ebq))) + (len x11.Saq))) - (len x3.Saq))) ≤ (w.i64 (x11.A.Done - x3.A.Done)))) (
     bi (decide ((len x11.Table) ≤ (w.i64 ((len x3.Table) + 1)))) (
      some (0, gB.dv ((w.i64 (x11.Tags - x3.Tags)) == (w.i64 ((len x11.Ldq) - (len x3.Ldq)))) [])) <|
     some (0, gB.dv false [])) <|
    some (0, gB.dv false [])) <|
   some (0, gB.dv false [])) <|
  bi (x11.A.Done == (w.i64 (x3.A.Done + 1))) (
   bi (decide ((w.i64 ((w.i64 ((w.i64 ((w.i64 ((w.i64 ((w.i64 ((w.i64 ((len x11.Aeq) - (len x3.Aeq))) + (len x11.Abq))) - (len x3.Abq))) + (len x3.Ebq))) - (len x11.Ebq))) + (len x11.Saq))) - (len x3.Saq))) ≥ 0)) (
    bi (decide ((w.i64 ((w.i64 ((w.i64 ((w.i64 ((w.i64 ((w.i64 ((w.i64 ((len x11.Aeq) - (len x3.Aeq))) + (len x11.Abq))) - (len x3.Abq))) + (len x3.Ebq))) - (len x11.Ebq))) + (len x11.Saq))) - (len x3.Saq))) ≤ (w.i64 (x11.A.Done - x3.A.Done)))) (
     bi (decide ((len x11.Table) ≤ (w.i64 ((len x3.Table) + 1)))) (
      some (0, gB.dv ((w.i64 (x11.Tags - x3.Tags)) == (w.i64 ((len x11.Ldq) - (len x3.Ldq)))) [])) <|
     some (0, gB.dv false [])) <|
    some (0, gB.dv false [])) <|
   some (0, gB.dv false [])) <|
  some (0, gB.dv false [])) <|
 some (0, gB.dv false [])
noncomputable def X_l22_ApipeOne (N : Nat) : CE := (c_l22_ApipeOne, mkF [p_api_Config, p_api_Program, pI, p_api_State] [pB] (l22_ApipeOne N))
theorem Y_l22_ApipeOne (N : Nat) : CEok Q (X_l22_ApipeOne N) :=
 fnG (hi := h_l22_ApipeOne) (l := [X_l22_alive N, X_l21_Splits N, X_l4_Few N, X_l18_Few N, X_r15_RightState N, X_r15_Copy N, X_apipe_Issue N, X_r15_SameState N]) (t := []) ti_ok hmix ⟨Y_l22_alive N, Y_l21_Splits N, Y_l4_Few N, Y_l18_Few N, Y_r15_RightState N, Y_r15_Copy N, Y_apipe_Issue N, Y_r15_SameState N, trivial⟩ ⟨rfl, rfl, rfl, rfl, rfl, rfl, rfl, rfl, trivial⟩ f_7 (by kernel_rfl) (by kernel_rfl) trivial fun ys => by kernel_rfl
def c_l22_ApipeSlips : CS := ⟨180, 9, ⟨[.agg q_5, .agg [.d (.sl t_api_Ins), .d tI, .d (.sl tU)], .one (.d tI), .agg q_0], []⟩, [.one (.d tB)], true, []⟩
def h_l22_ApipeSlips : Hi := ⟨[((1, 0), c_l22_alive), ((2, 2), c_l21_Splits), ((3, 4), c_l4_Few), ((3, 9), c_l18_Few), ((3, 20), c_r15_RightState), ((5, 4), c_r15_Next), ((6, 4), c_r15_Next), ((7, 3), c_apipe_Ahead), ((10, 3), c_r15_Copy), ((10, 4), c_apipe_Issue)], [], [29, 34, 39, 43, 49, 78, 81, 84, 92, 100, 108, 117, 126], []⟩
theorem f_9 : Fn Q 9 f9 (codeOf f9) := ⟨by kernel_rfl, by kernel_rfl, by kernel_rfl, by kernel_rfl, by kernel_rfl⟩
noncomputable def l22_ApipeSlips (N : Nat) (x0 : api_Config) (x1 : api_Program) (x2 : Int) (x3 : api_State) : Option Rs :=
 on1 (l22_alive N ) <| gg [pB] <| fun (x4 : Bool) => 
 on1 (l21_Splits N x1 x2) <| gg [p_api_Split, pB] <| fun (x5 : api_Split) (x6 : Bool) => 
 bi (!x4) (
  some (0, gB.dv x4 [])) <|
 on1 (l4_Few N x1) <| gg [pB] <| fun (x7 : Bool) => 
 bi (!x7) (
  some (0, gB.dv x4 [])) <|
 on1 (l18_Few N x3) <| gg [pB] <| fun (x8 : Bool) => 
 bi (!x8) (
  some (0, gB.dv x4 [])) <|
 bi (!x6) (
  some (0, gB.dv x4 [])) <|
 on1 (r15_RightState N x0 x5 x3) <| gg [pB] <| fun (x9 : Bool) => 
 bi (!x9) (
  some (0, gB.dv x4 [])) <|
 on1 (r15_Next N x5 false x3.A.Pos) <| gg [p_api_Cell, pI, pB] <| fun (x10 : api_Cell) (x11 : Int) (x12 : Bool) => 
 on1 (r15_Next N x5 true x3.E.Pos) <| gg [p_api_Cell, pI, pB] <| fun (x13 : api_Cell) (x14 : Int) (x15 : Bool) => 
 on1 (apipe_Ahead N x0 x5 x3) <| gg [pB] <| fun (x16 : Bool) => 
 bi (!x3.E.Halted) (
  bi x12 (
   bi x15 (
    bi (!(x16 == (decide ((w.i64 (x11 - x14)) ≥ x0.Slip)))) (
     some (0, gB.dv false [])) <|
    on1 (r15_Copy N x3) <| gg [p_api_State] <| fun (x17 : api_State) => 
    on1 (apipe_Issue N x0 x5 x17) <| gg [p_api_State] <| fun (x18 : api_State) => 
    bi (!x16) (
     some (0, gB.dv true [])) <|
    bi (x18.A.Done == x3.A.Done) (
     bi ((len x18.Table) == (len x3.Table)) (
      bi ((len x18.Saq) == (len x3.Saq)) (
       some (0, gB.dv ((x18.Trap.Kind == x3.Trap.Kind) && ((x18.Trap.Step == x3.Trap.Step) && (x18.Trap.Pc == x3.Trap.Pc))) [])) <|
      some (0, gB.dv false [])) <|
     some (0, gB.dv false [])) <|
    some (0, gB.dv false [])) <|
   bi (!(x16 == false)) (
    some (0, gB.dv false [])) <|
   on1 (r15_Copy N x3) <| gg [p_api_State] <| fun (x19 : api_State) => 
   on1 (apipe_Issue N x0 x5 x19) <| gg [p_api_State] <| fun (x20 : api_State) => 
   bi (!x16) (
    some (0, gB.dv true [])) <|
   bi (x20.A.Done == x3.A.Done) (
    bi ((len x20.Table) == (len x3.Table)) (
     bi ((len x20.Saq) == (len x3.Saq)) (
      some (0, gB.dv ((x20.Trap.Kind == x3.Trap.Kind) && ((x20.Trap.Step == x3.Trap.Step) && (x20.Trap.Pc == x3.Trap.Pc))) [])) <|
     some (0, gB.dv false [])) <|
    some (0, gB.dv false [])) <|
   some (0, gB.dv false [])) <|
  bi (!(x16 == false)) (
   some (0, gB.dv false [])) <|
  on1 (r15_Copy N x3) <| gg [p_api_State] <| fun (x21 : api_State) => 
  on1 (apipe_Issue N x0 x5 x21) <| gg [p_api_State] <| fun (x22 : api_State) => 
  bi (!x16) (
   some (0, gB.dv true [])) <|
  bi (x22.A.Done == x3.A.Done) (
   bi ((len x22.Table) == (len x3.Table)) (
    bi ((len x22.Saq) == (len x3.Saq)) (
     some (0, gB.dv ((x22.Trap.Kind == x3.Trap.Kind) && ((x22.Trap.Step == x3.Trap.Step) && (x22.Trap.Pc == x3.Trap.Pc))) [])) <|
    some (0, gB.dv false [])) <|
   some (0, gB.dv false [])) <|
  some (0, gB.dv false [])) <|
 bi (!(x16 == false)) (
  some (0, gB.dv false [])) <|
 on1 (r15_Copy N x3) <| gg [p_api_State] <| fun (x23 : api_State) => 
 on1 (apipe_Issue N x0 x5 x23) <| gg [p_api_State] <| fun (x24 : api_State) => 
 bi (!x16) (
  some (0, gB.dv true [])) <|
 bi (x24.A.Done == x3.A.Done) (
  bi ((len x24.Table) == (len x3.Table)) (
   bi ((len x24.Saq) == (len x3.Saq)) (
    some (0, gB.dv ((x24.Trap.Kind == x3.Trap.Kind) && ((x24.Trap.Step == x3.Trap.Step) && (x24.Trap.Pc == x3.Trap.Pc))) [])) <|
   some (0, gB.dv false [])) <|
  some (0, gB.dv false [])) <|
 some (0, gB.dv false [])
noncomputable def X_l22_ApipeSlips (N : Nat) : CE := (c_l22_ApipeSlips, mkF [p_api_Config, p_api_Program, pI, p_api_State] [pB] (l22_ApipeSlips N))
theorem Y_l22_ApipeSlips (N : Nat) : CEok Q (X_l22_ApipeSlips N) :=
 fnG (hi := h_l22_ApipeSlips) (l := [X_l22_alive N, X_l21_Splits N, X_l4_Few N, X_l18_Few N, X_r15_RightState N, X_r15_Next N, X_apipe_Ahead N, X_r15_Copy N, X_apipe_Issue N]) (t := []) ti_ok hmix ⟨Y_l22_alive N, Y_l21_Splits N, Y_l4_Few N, Y_l18_Few N, Y_r15_RightState N, Y_r15_Next N, Y_apipe_Ahead N, Y_r15_Copy N, Y_apipe_Issue N, trivial⟩ ⟨rfl, rfl, rfl, rfl, rfl, rfl, rfl, rfl, rfl, rfl, trivial⟩ f_9 (by kernel_rfl) (by kernel_rfl) trivial fun ys => by kernel_rfl
def c_r1_First : CS := ⟨181, 103, ⟨[.agg [.d (.sl t_api_Ins), .d tI, .d (.sl tU)]], []⟩, [.one (.o tU)], true, []⟩
def h_r1_First : Hi := ⟨[], [], [], []⟩
theorem f_103 : Fn Q 103 f103 (codeOf f103) := ⟨by kernel_rfl, by kernel_rfl, by kernel_rfl, by kernel_rfl, by kernel_rfl⟩
noncomputable def r1_First (N : Nat) (x0 : api_Program) : Option Rs :=
 gd (decide (0 ≤ x0.Size ∧ x0.Size ≤ x0.Size ∧ x0.Size * ((1 : Nat) : Int) ≤ ((reach : Nat) : Int) ∧ x0.Size ≤ ((reach : Nat) : Int))) <|
 some (0, (gD (.sl tU)).dv (laid (List.replicate x0.Size.toNat (0 :Int)) 0 (List.take (List.length (List.replicate x0.Size.toNat (0 :Int))) x0.Data)) [])
noncomputable def X_r1_First (N : Nat) : CE := (c_r1_First, mkF [p_api_Program] [pD (.sl tU)] (r1_First N))
theorem Y_r1_First (N : Nat) : CEok Q (X_r1_First N) :=
 fnG (hi := h_r1_First) (l := []) (t := []) ti_ok hmix trivial trivial f_103 (by kernel_rfl) (by kernel_rfl) trivial fun ys => by kernel_rfl
end Go.Proofs.Zz
