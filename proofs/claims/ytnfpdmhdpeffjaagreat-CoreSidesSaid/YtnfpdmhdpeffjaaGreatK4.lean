import Derived.Test.YtnfpdmhdpeffjaaGreatK3
set_option linter.unusedSimpArgs false
set_option linter.unusedVariables false
/- What functions of the program compute, as plain functions. -/
set_option linter.unusedVariables false
set_option maxRecDepth 100000
namespace Go.Proofs.Zz
open Go Go.Proofs.Tryz
def c_front_Next : CS := ⟨95, 106, ⟨[.agg [.d (.sl t_api_Block), .d (.ar 16 tI)], .one (.d tB), .agg [.d tI, .d tI, .d tI]], []⟩, [.agg q_2, .one (.d tI), .one (.d tB)], false, []⟩
def h_front_Next : Hi := ⟨[((1, 3), c_front_Settle), ((3, 3), c_front_End), ((4, 4), c_front_cells)], [], [19, 23], [], []⟩
theorem f_106 : Fn Q 106 f106 (codeOf f106) := ⟨by kernel_rfl, by kernel_rfl, by kernel_rfl, by kernel_rfl, by kernel_rfl⟩
noncomputable def front_Next (N : Nat) (x0 : api_Split) (x1 : Bool) (x2 : api_Pos) : Option Rs :=
 on1 (front_Settle N x0 x1 x2) <| gg [p_api_Pos, pB] <| fun (x3 : api_Pos) (x4 : Bool) => 
 bi x4 (
  on1 (front_End N x0 x3) <| gg [pI] <| fun (x5 : Int) => 
  some (0, g_api_Cell.dv (api_Cell.z) (gI.dv x5 (gB.dv false [])))) <|
 bi (decide (x3.Index < 0)) (
  on1 (front_End N x0 x3) <| gg [pI] <| fun (x6 : Int) => 
  some (0, g_api_Cell.dv (api_Cell.z) (gI.dv x6 (gB.dv false [])))) <|
 on1 (front_cells N x0 x1 x3.Block) <| gg [pD (.sl t_api_Cell)] <| fun (x7 : List api_Cell) => 
 gd (idx x3.Index (List.length x7)) <|
 some (0, g_api_Cell.dv (List.getD x7 x3.Index.toNat api_Cell.z) (gI.dv (w.i64 (x3.Base + (List.getD x7 x3.Index.toNat api_Cell.z).2.2.2.2.1)) (gB.dv true [])))
noncomputable def X_front_Next (N : Nat) : CE := (c_front_Next, mkF [p_api_Split, pB, p_api_Pos] [p_api_Cell, pI, pB] (front_Next N))
theorem Y_front_Next (N : Nat) : CEok Q (X_front_Next N) :=
 fnG (hi := h_front_Next) (l := [X_front_Settle N, X_front_End N, X_front_cells N]) (t := []) ti_ok hmix ⟨Y_front_Settle N, Y_front_End N, Y_front_cells N, trivial⟩ ⟨rfl, rfl, rfl, trivial⟩ f_106 (by kernel_rfl) (by kernel_rfl) trivial fun ys => by kernel_rfl
def c_epipe_Stopped : CS := ⟨96, 221, ⟨[.one (.r (.pair tI (.pair (.pair (.ar 16 tW) (.pair (.ar 16 tI) (.pair (.pair tI (.pair tI (.pair tI .unit))) (.pair tI (.pair tB (.pair tI .unit)))))) (.pair (.pair (.ar 16 tW) (.pair (.ar 16 tI) (.pair (.pair tI (.pair tI (.pair tI .unit))) (.pair tI (.pair tB (.pair tI .unit)))))) (.pair (.sl t_api_Slot) (.pair (.sl tW) (.pair (.sl tW) (.pair (.sl tB) (.pair (.sl tB) (.pair (.sl t_api_Entry) (.pair (.sl t_api_Request) (.pair (.sl tU) (.pair (.sl t_api_Write) (.pair (.pair tI (.pair tI (.pair tI .unit))) (.pair tI (.pair tI (.pair tI .unit))))))))))))))))), .one (.d tI)], []⟩, [.one (.d tB)], true, []⟩
def h_epipe_Stopped : Hi := ⟨[], [], [11], [], []⟩
theorem f_221 : Fn Q 221 f221 (codeOf f221) := ⟨by kernel_rfl, by kernel_rfl, by kernel_rfl, by kernel_rfl, by kernel_rfl⟩
noncomputable def epipe_Stopped (N : Nat) (x0 : api_State) (x1 : Int) : Option Rs :=
 bi (x0.Trap.Kind != 0) (
  some (0, gB.dv (decide (x1 ≥ x0.Trap.Step)) [])) <|
 some (0, gB.dv false [])
noncomputable def X_epipe_Stopped (N : Nat) : CE := (c_epipe_Stopped, mkF [pr_api_State, pI] [pB] (epipe_Stopped N))
theorem Y_epipe_Stopped (N : Nat) : CEok Q (X_epipe_Stopped N) :=
 fnG (hi := h_epipe_Stopped) (l := []) (t := []) ti_ok hmix trivial trivial f_221 (by kernel_rfl) (by kernel_rfl) trivial fun ys => by kernel_rfl
def c_epipe_At_E : CS := ⟨97, 148, ⟨[.agg [.d (.sl t_api_Block), .d (.ar 16 tI)], .one (.p 0 0 [1, 16, 16, 1, 1, 1, 1, 1, 1, 16, 16, 1, 1, 1, 1, 1, 1, 1, 1, 1, 1, 1, 1, 1, 1, 1, 1, 1, 1, 1, 1, 1]), .one (.p 0 9 [16, 16, 1, 1, 1, 1, 1, 1]), .one (.d tB)], [q_1]⟩, [.agg q_2, .one (.d tI), .one (.d tB)], false, [q_1]⟩
def h_epipe_At_E : Hi := ⟨[((3, 6), c_front_Settle), ((5, 3), c_front_Next), ((7, 9), c_epipe_Trap), ((8, 6), c_epipe_Stopped)], [], [20, 30, 54, 68], [], []⟩
theorem f_148 : Fn Q 148 f148 (codeOf f148) := ⟨by kernel_rfl, by kernel_rfl, by kernel_rfl, by kernel_rfl, by kernel_rfl⟩
noncomputable def epipe_At_E (N : Nat) (x0 : api_Split) (x1 : Bool) (x2 : api_State) : Option Rs :=
 bi x2.E.Halted (
  some (0, g_api_Cell.dv (api_Cell.z) (gI.dv 0 (gB.dv false (g_api_State.dv x2 []))))) <|
 bi (decide (x2.E.Wait > x2.Cycle)) (
  some (0, g_api_Cell.dv (api_Cell.z) (gI.dv 0 (gB.dv false (g_api_State.dv x2 []))))) <|
 on1 (front_Settle N x0 x1 x2.E.Pos) <| gg [p_api_Pos, pB] <| fun (x3 : api_Pos) (x4 : Bool) => 
 on1 (front_Next N x0 x1 x3) <| gg [p_api_Cell, pI, pB] <| fun (x5 : api_Cell) (x6 : Int) (x7 : Bool) => 
 bi x4 (
  gd (idx x3.Block (List.length x0.Blocks)) <|
  on1 (epipe_Trap N 4 x6 ((List.getD x0.Blocks x3.Block.toNat api_Block.z).2.1) ({ x2 with E := { x2.E with Pos := x3 } } : api_State)) <| gg [p_api_State] <| fun (x8 : api_State) => 
  bi x7 (
   on1 (epipe_Stopped N x8 x6) <| gg [pB] <| fun (x9 : Bool) => 
   some (0, g_api_Cell.dv x5 (gI.dv x6 (gB.dv (!x9) (g_api_State.dv x8 []))))) <|
  some (0, g_api_Cell.dv x5 (gI.dv x6 (gB.dv false (g_api_State.dv x8 []))))) <|
 bi x7 (
  on1 (epipe_Stopped N ({ x2 with E := { x2.E with Pos := x3 } } : api_State) x6) <| gg [pB] <| fun (x10 : Bool) => 
  some (0, g_api_Cell.dv x5 (gI.dv x6 (gB.dv (!x10) (g_api_State.dv ({ x2 with E := { x2.E with Pos := x3 } } : api_State) []))))) <|
 some (0, g_api_Cell.dv x5 (gI.dv x6 (gB.dv false (g_api_State.dv ({ x2 with E := { x2.E with Pos := x3 } } : api_State) []))))
noncomputable def X_epipe_At_E (N : Nat) : CE := (c_epipe_At_E, mkF [p_api_Split, pB, p_api_State] [p_api_Cell, pI, pB, p_api_State] (epipe_At_E N))
theorem Y_epipe_At_E (N : Nat) : CEok Q (X_epipe_At_E N) :=
 fnG (hi := h_epipe_At_E) (l := [X_front_Settle N, X_front_Next N, X_epipe_Trap N, X_epipe_Stopped N]) (t := []) ti_ok hmix ⟨Y_front_Settle N, Y_front_Next N, Y_epipe_Trap N, Y_epipe_Stopped N, trivial⟩ ⟨rfl, rfl, rfl, rfl, trivial⟩ f_148 (by kernel_rfl) (by kernel_rfl) trivial fun ys => by kernel_rfl
def c_epipe_Get : CS := ⟨98, 153, ⟨[.one (.r (.pair (.ar 16 tW) (.pair (.ar 16 tI) (.pair (.pair tI (.pair tI (.pair tI .unit))) (.pair tI (.pair tB (.pair tI .unit))))))), .one (.d tI)], []⟩, [.one (.d tW)], true, []⟩
def h_epipe_Get : Hi := ⟨[], [], [7, 10], [], []⟩
theorem f_153 : Fn Q 153 f153 (codeOf f153) := ⟨by kernel_rfl, by kernel_rfl, by kernel_rfl, by kernel_rfl, by kernel_rfl⟩
noncomputable def epipe_Get (N : Nat) (x0 : api_Side) (x1 : Int) : Option Rs :=
 bi (decide (x1 < 1)) (
  some (0, gW.dv 0 [])) <|
 bi (decide (x1 > 15)) (
  some (0, gW.dv 0 [])) <|
 gd (idx x1 16) <|
 some (0, gW.dv (List.getD x0.Regs x1.toNat 0) [])
noncomputable def X_epipe_Get (N : Nat) : CE := (c_epipe_Get, mkF [pr_api_Side, pI] [pW] (epipe_Get N))
theorem Y_epipe_Get (N : Nat) : CEok Q (X_epipe_Get N) :=
 fnG (hi := h_epipe_Get) (l := []) (t := []) ti_ok hmix trivial trivial f_153 (by kernel_rfl) (by kernel_rfl) trivial fun ys => by kernel_rfl
def c_word_Of : CS := ⟨99, 262, ⟨[.one (.d tI)], []⟩, [.one (.d tW)], true, []⟩
def h_word_Of : Hi := ⟨[], [], [], [], []⟩
theorem f_262 : Fn Q 262 f262 (codeOf f262) := ⟨by kernel_rfl, by kernel_rfl, by kernel_rfl, by kernel_rfl, by kernel_rfl⟩
noncomputable def word_Of (N : Nat) (x0 : Int) : Option Rs :=
 some (0, gW.dv (w.u32 x0) [])
noncomputable def X_word_Of (N : Nat) : CE := (c_word_Of, mkF [pI] [pW] (word_Of N))
theorem Y_word_Of (N : Nat) : CEok Q (X_word_Of N) :=
 fnG (hi := h_word_Of) (l := []) (t := []) ti_ok hmix trivial trivial f_262 (by kernel_rfl) (by kernel_rfl) trivial fun ys => by kernel_rfl
def c_alu_plain : CS := ⟨100, 264, ⟨[.one (.d tI)], []⟩, [.one (.d tI)], true, []⟩
def h_alu_plain : Hi := ⟨[], [], [4, 6, 8, 10, 12, 14, 16, 18], [], []⟩
theorem f_264 : Fn Q 264 f264 (codeOf f264) := ⟨by kernel_rfl, by kernel_rfl, by kernel_rfl, by kernel_rfl, by kernel_rfl⟩
noncomputable def alu_plain (N : Nat) (x0 : Int) : Option Rs :=
 bi (x0 == 17) (
  some (0, gI.dv 1 [])) <|
 bi (x0 == 18) (
  some (0, gI.dv 3 [])) <|
 bi (x0 == 19) (
  some (0, gI.dv 4 [])) <|
 bi (x0 == 20) (
  some (0, gI.dv 5 [])) <|
 bi (x0 == 21) (
  some (0, gI.dv 9 [])) <|
 bi (x0 == 22) (
  some (0, gI.dv 6 [])) <|
 bi (x0 == 23) (
  some (0, gI.dv 7 [])) <|
 bi (x0 == 24) (
  some (0, gI.dv 8 [])) <|
 some (0, gI.dv x0 [])
noncomputable def X_alu_plain (N : Nat) : CE := (c_alu_plain, mkF [pI] [pI] (alu_plain N))
theorem Y_alu_plain (N : Nat) : CEok Q (X_alu_plain N) :=
 fnG (hi := h_alu_plain) (l := []) (t := []) ti_ok hmix trivial trivial f_264 (by kernel_rfl) (by kernel_rfl) trivial fun ys => by kernel_rfl
def c_alu_one : CS := ⟨101, 289, ⟨[.one (.d tB)], []⟩, [.one (.d tW)], true, []⟩
def h_alu_one : Hi := ⟨[], [], [3], [], []⟩
theorem f_289 : Fn Q 289 f289 (codeOf f289) := ⟨by kernel_rfl, by kernel_rfl, by kernel_rfl, by kernel_rfl, by kernel_rfl⟩
noncomputable def alu_one (N : Nat) (x0 : Bool) : Option Rs :=
 bi x0 (
  some (0, gW.dv 1 [])) <|
 some (0, gW.dv 0 [])
noncomputable def X_alu_one (N : Nat) : CE := (c_alu_one, mkF [pB] [pW] (alu_one N))
theorem Y_alu_one (N : Nat) : CEok Q (X_alu_one N) :=
 fnG (hi := h_alu_one) (l := []) (t := []) ti_ok hmix trivial trivial f_289 (by kernel_rfl) (by kernel_rfl) trivial fun ys => by kernel_rfl
def c_alu_mulh : CS := ⟨102, 290, ⟨[.one (.d (.int .i32)), .one (.d (.int .i32))], []⟩, [.one (.d tW)], true, []⟩
def h_alu_mulh : Hi := ⟨[], [], [], [], []⟩
theorem f_290 : Fn Q 290 f290 (codeOf f290) := ⟨by kernel_rfl, by kernel_rfl, by kernel_rfl, by kernel_rfl, by kernel_rfl⟩
noncomputable def alu_mulh (N : Nat) (x0 : Int) (x1 : Int) : Option Rs :=
 gf (decide ((32 : Int) < (0 : Int))) <|
 some (0, gW.dv (w.u32 (shr .i64 (w.i64 ((w.i64 x0) * (w.i64 x1))) 32)) [])
noncomputable def X_alu_mulh (N : Nat) : CE := (c_alu_mulh, mkF [pD (.int .i32), pD (.int .i32)] [pW] (alu_mulh N))
theorem Y_alu_mulh (N : Nat) : CEok Q (X_alu_mulh N) :=
 fnG (hi := h_alu_mulh) (l := []) (t := []) ti_ok hmix trivial trivial f_290 (by kernel_rfl) (by kernel_rfl) trivial fun ys => by kernel_rfl
def c_math_bits_Div32 : CS := ⟨103, 305, ⟨[.one (.d tW), .one (.d tW), .one (.d tW)], []⟩, [.one (.d tW), .one (.d tW)], false, []⟩
def h_math_bits_Div32 : Hi := ⟨[], [], [11, 15], [], []⟩
theorem f_305 : Fn Q 305 f305 (codeOf f305) := ⟨by kernel_rfl, by kernel_rfl, by kernel_rfl, by kernel_rfl, by kernel_rfl⟩
noncomputable def math_bits_Div32 (N : Nat) (x0 : Int) (x1 : Int) (x2 : Int) : Option Rs :=
 bi (x2 != 0) (
  gf (decide (x2 ≤ x0)) <|
  gf (decide ((32 : Int) < (0 : Int))) <|
  gf (decide ((w.u64 x2) = 0)) <|
  gf (decide ((w.u64 x2) = 0)) <|
  some (0, gW.dv (w.u32 (w.u64 (Int.tdiv (bitOr .u64 (shl .u64 (w.u64 x0) 32) (w.u64 x1)) (w.u64 x2)))) (gW.dv (w.u32 (Int.tmod (bitOr .u64 (shl .u64 (w.u64 x0) 32) (w.u64 x1)) (w.u64 x2))) []))) <|
 gf (decide ((32 : Int) < (0 : Int))) <|
 gf (decide ((w.u64 x2) = 0)) <|
 gf (decide ((w.u64 x2) = 0)) <|
 some (0, gW.dv (w.u32 (w.u64 (Int.tdiv (bitOr .u64 (shl .u64 (w.u64 x0) 32) (w.u64 x1)) (w.u64 x2)))) (gW.dv (w.u32 (Int.tmod (bitOr .u64 (shl .u64 (w.u64 x0) 32) (w.u64 x1)) (w.u64 x2))) []))
noncomputable def X_math_bits_Div32 (N : Nat) : CE := (c_math_bits_Div32, mkF [pW, pW, pW] [pW, pW] (math_bits_Div32 N))
theorem Y_math_bits_Div32 (N : Nat) : CEok Q (X_math_bits_Div32 N) :=
 fnG (hi := h_math_bits_Div32) (l := []) (t := []) ti_ok hmix trivial trivial f_305 (by kernel_rfl) (by kernel_rfl) trivial fun ys => by kernel_rfl
def c_math_bits_Rem32 : CS := ⟨104, 306, ⟨[.one (.d tW), .one (.d tW), .one (.d tW)], []⟩, [.one (.d tW)], true, []⟩
def h_math_bits_Rem32 : Hi := ⟨[], [], [], [], []⟩
theorem f_306 : Fn Q 306 f306 (codeOf f306) := ⟨by kernel_rfl, by kernel_rfl, by kernel_rfl, by kernel_rfl, by kernel_rfl⟩
noncomputable def math_bits_Rem32 (N : Nat) (x0 : Int) (x1 : Int) (x2 : Int) : Option Rs :=
 gf (decide ((32 : Int) < (0 : Int))) <|
 gf (decide ((w.u64 x2) = 0)) <|
 some (0, gW.dv (w.u32 (Int.tmod (bitOr .u64 (shl .u64 (w.u64 x0) 32) (w.u64 x1)) (w.u64 x2))) [])
noncomputable def X_math_bits_Rem32 (N : Nat) : CE := (c_math_bits_Rem32, mkF [pW, pW, pW] [pW] (math_bits_Rem32 N))
theorem Y_math_bits_Rem32 (N : Nat) : CEok Q (X_math_bits_Rem32 N) :=
 fnG (hi := h_math_bits_Rem32) (l := []) (t := []) ti_ok hmix trivial trivial f_306 (by kernel_rfl) (by kernel_rfl) trivial fun ys => by kernel_rfl
def c_alu_divide : CS := ⟨105, 291, ⟨[.one (.d tI), .one (.d tW), .one (.d tW)], []⟩, [.one (.d tW)], true, []⟩
def h_alu_divide : Hi := ⟨[((4, 2), c_math_bits_Div32), ((7, 2), c_math_bits_Rem32)], [], [18, 22, 32, 38, 41, 45, 52], [], []⟩
theorem f_291 : Fn Q 291 f291 (codeOf f291) := ⟨by kernel_rfl, by kernel_rfl, by kernel_rfl, by kernel_rfl, by kernel_rfl⟩
noncomputable def alu_divide (N : Nat) (x0 : Int) (x1 : Int) (x2 : Int) : Option Rs :=
 bi ((w.i32 x1) == (-2147483648 : Int)) (
  bi (x0 == 14) (
   on1 (math_bits_Div32 N 0 x1 x2) <| gg [pW, pW] <| fun (x3 : Int) (x4 : Int) => 
   some (0, gW.dv x3 [])) <|
  bi (x0 == 16) (
   on1 (math_bits_Rem32 N 0 x1 x2) <| gg [pW] <| fun (x5 : Int) => 
   some (0, gW.dv x5 [])) <|
  bi (x0 == 13) (
   bi ((w.i32 x2) == (-1 : Int)) (
    some (0, gW.dv x1 [])) <|
   bi (x0 == 13) (
    gf (decide ((w.i32 x2) = 0)) <|
    some (0, gW.dv (w.u32 (w.i32 (Int.tdiv (w.i32 x1) (w.i32 x2)))) [])) <|
   bi ((w.i32 x2) == (-1 : Int)) (
    some (0, gW.dv 0 [])) <|
   gf (decide ((w.i32 x2) = 0)) <|
   some (0, gW.dv (w.u32 (Int.tmod (w.i32 x1) (w.i32 x2))) [])) <|
  bi (x0 == 13) (
   gf (decide ((w.i32 x2) = 0)) <|
   some (0, gW.dv (w.u32 (w.i32 (Int.tdiv (w.i32 x1) (w.i32 x2)))) [])) <|
  bi ((w.i32 x2) == (-1 : Int)) (
   some (0, gW.dv 0 [])) <|
  gf (decide ((w.i32 x2) = 0)) <|
  some (0, gW.dv (w.u32 (Int.tmod (w.i32 x1) (w.i32 x2))) [])) <|
 bi (x0 == 14) (
  on1 (math_bits_Div32 N 0 x1 x2) <| gg [pW, pW] <| fun (x6 : Int) (x7 : Int) => 
  some (0, gW.dv x6 [])) <|
 bi (x0 == 16) (
  on1 (math_bits_Rem32 N 0 x1 x2) <| gg [pW] <| fun (x8 : Int) => 
  some (0, gW.dv x8 [])) <|
 bi (x0 == 13) (
  bi (x0 == 13) (
   gf (decide ((w.i32 x2) = 0)) <|
   some (0, gW.dv (w.u32 (w.i32 (Int.tdiv (w.i32 x1) (w.i32 x2)))) [])) <|
  gf (decide ((w.i32 x2) = 0)) <|
  some (0, gW.dv (w.u32 (Int.tmod (w.i32 x1) (w.i32 x2))) [])) <|
 bi (x0 == 13) (
  gf (decide ((w.i32 x2) = 0)) <|
  some (0, gW.dv (w.u32 (w.i32 (Int.tdiv (w.i32 x1) (w.i32 x2)))) [])) <|
 gf (decide ((w.i32 x2) = 0)) <|
 some (0, gW.dv (w.u32 (Int.tmod (w.i32 x1) (w.i32 x2))) [])
noncomputable def X_alu_divide (N : Nat) : CE := (c_alu_divide, mkF [pI, pW, pW] [pW] (alu_divide N))
theorem Y_alu_divide (N : Nat) : CEok Q (X_alu_divide N) :=
 fnG (hi := h_alu_divide) (l := [X_math_bits_Div32 N, X_math_bits_Rem32 N]) (t := []) ti_ok hmix ⟨Y_math_bits_Div32 N, Y_math_bits_Rem32 N, trivial⟩ ⟨rfl, rfl, trivial⟩ f_291 (by kernel_rfl) (by kernel_rfl) trivial fun ys => by kernel_rfl
def c_alu_do : CS := ⟨106, 263, ⟨[.one (.d tI), .one (.d tW), .one (.d tW)], []⟩, [.one (.d tW), .one (.d tB)], false, []⟩
def h_alu_do : Hi := ⟨[((19, 5), c_alu_one), ((21, 3), c_alu_one), ((25, 4), c_alu_mulh), ((28, 3), c_alu_divide)], [], [9, 14, 19, 24, 29, 34, 40, 46, 54, 62, 68, 73, 81], [], []⟩
theorem f_263 : Fn Q 263 f263 (codeOf f263) := ⟨by kernel_rfl, by kernel_rfl, by kernel_rfl, by kernel_rfl, by kernel_rfl⟩
noncomputable def alu_do (N : Nat) (x0 : Int) (x1 : Int) (x2 : Int) : Option Rs :=
 bi (x0 == 1) (
  some (0, gW.dv (w.u32 (x1 + x2)) (gB.dv true []))) <|
 bi (x0 == 2) (
  some (0, gW.dv (w.u32 (x1 - x2)) (gB.dv true []))) <|
 bi (x0 == 3) (
  some (0, gW.dv (bitAnd .u32 x1 x2) (gB.dv true []))) <|
 bi (x0 == 4) (
  some (0, gW.dv (bitOr .u32 x1 x2) (gB.dv true []))) <|
 bi (x0 == 5) (
  some (0, gW.dv (bitXor .u32 x1 x2) (gB.dv true []))) <|
 bi (x0 == 6) (
  gf (decide ((bitAnd .u32 x2 31) < 0)) <|
  some (0, gW.dv (shl .u32 x1 (bitAnd .u32 x2 31)) (gB.dv true []))) <|
 bi (x0 == 7) (
  gf (decide ((bitAnd .u32 x2 31) < 0)) <|
  some (0, gW.dv (shr .u32 x1 (bitAnd .u32 x2 31)) (gB.dv true []))) <|
 bi (x0 == 8) (
  gf (decide ((bitAnd .u32 x2 31) < 0)) <|
  some (0, gW.dv (w.u32 (shr .i32 (w.i32 x1) (bitAnd .u32 x2 31))) (gB.dv true []))) <|
 bi (x0 == 9) (
  on1 (alu_one N (decide ((w.i32 x1) < (w.i32 x2)))) <| gg [pW] <| fun (x3 : Int) => 
  some (0, gW.dv x3 (gB.dv true []))) <|
 bi (x0 == 10) (
  on1 (alu_one N (decide (x1 < x2))) <| gg [pW] <| fun (x4 : Int) => 
  some (0, gW.dv x4 (gB.dv true []))) <|
 bi (x0 == 11) (
  some (0, gW.dv (w.u32 (x1 * x2)) (gB.dv true []))) <|
 bi (x0 == 12) (
  on1 (alu_mulh N (w.i32 x1) (w.i32 x2)) <| gg [pW] <| fun (x5 : Int) => 
  some (0, gW.dv x5 (gB.dv true []))) <|
 bi (x2 == 0) (
  some (0, gW.dv 0 (gB.dv false []))) <|
 on1 (alu_divide N x0 x1 x2) <| gg [pW] <| fun (x6 : Int) => 
 some (0, gW.dv x6 (gB.dv true []))
noncomputable def X_alu_do (N : Nat) : CE := (c_alu_do, mkF [pI, pW, pW] [pW, pB] (alu_do N))
theorem Y_alu_do (N : Nat) : CEok Q (X_alu_do N) :=
 fnG (hi := h_alu_do) (l := [X_alu_one N, X_alu_mulh N, X_alu_divide N]) (t := []) ti_ok hmix ⟨Y_alu_one N, Y_alu_mulh N, Y_alu_divide N, trivial⟩ ⟨rfl, rfl, rfl, rfl, trivial⟩ f_263 (by kernel_rfl) (by kernel_rfl) trivial fun ys => by kernel_rfl
def c_alu_Do : CS := ⟨107, 222, ⟨[.agg [.d tI, .d tI, .d tI, .d tI, .d tI], .one (.d tW), .one (.d tW)], []⟩, [.one (.d tW), .one (.d tB)], false, []⟩
def h_alu_Do : Hi := ⟨[((1, 2), c_isa_Form), ((2, 1), c_isa_Right), ((5, 3), c_word_Of), ((7, 2), c_word_Of), ((8, 2), c_alu_plain), ((8, 5), c_alu_do)], [], [12, 16, 20, 27], [], []⟩
theorem f_222 : Fn Q 222 f222 (codeOf f222) := ⟨by kernel_rfl, by kernel_rfl, by kernel_rfl, by kernel_rfl, by kernel_rfl⟩
noncomputable def alu_Do (N : Nat) (x0 : api_Ins) (x1 : Int) (x2 : Int) : Option Rs :=
 on1 (isa_Form N x0.1) <| gg [pI] <| fun (x3 : Int) => 
 on1 (isa_Right N x0) <| gg [pB] <| fun (x4 : Bool) => 
 bi (!x4) (
  some (0, gW.dv 0 (gB.dv true []))) <|
 bi (decide (x3 > 3)) (
  some (0, gW.dv 0 (gB.dv true []))) <|
 bi (x3 == 3) (
  gf (decide ((18 : Int) < (0 : Int))) <|
  on1 (word_Of N (shl .i64 x0.2.2.2.2.1 18)) <| gg [pW] <| fun (x5 : Int) => 
  some (0, gW.dv x5 (gB.dv true []))) <|
 bi (x3 == 2) (
  on1 (word_Of N x0.2.2.2.2.1) <| gg [pW] <| fun (x6 : Int) => 
  on1 (alu_plain N x0.1) <| gg [pI] <| fun (x7 : Int) => 
  on1 (alu_do N x7 x1 x6) <| gg [pW, pB] <| fun (x8 : Int) (x9 : Bool) => 
  some (0, gW.dv x8 (gB.dv x9 []))) <|
 on1 (alu_plain N x0.1) <| gg [pI] <| fun (x10 : Int) => 
 on1 (alu_do N x10 x1 x2) <| gg [pW, pB] <| fun (x11 : Int) (x12 : Bool) => 
 some (0, gW.dv x11 (gB.dv x12 []))
noncomputable def X_alu_Do (N : Nat) : CE := (c_alu_Do, mkF [p_api_Ins, pW, pW] [pW, pB] (alu_Do N))
theorem Y_alu_Do (N : Nat) : CEok Q (X_alu_Do N) :=
 fnG (hi := h_alu_Do) (l := [X_isa_Form N, X_isa_Right N, X_word_Of N, X_alu_plain N, X_alu_do N]) (t := []) ti_ok hmix ⟨Y_isa_Form N, Y_isa_Right N, Y_word_Of N, Y_alu_plain N, Y_alu_do N, trivial⟩ ⟨rfl, rfl, rfl, rfl, rfl, rfl, trivial⟩ f_222 (by kernel_rfl) (by kernel_rfl) trivial fun ys => by kernel_rfl
def c_alu_Latency : CS := ⟨108, 223, ⟨[.agg q_5, .one (.d tI)], []⟩, [.one (.d tI)], true, []⟩
def h_alu_Latency : Hi := ⟨[], [], [7, 12, 21, 24], [], []⟩
theorem f_223 : Fn Q 223 f223 (codeOf f223) := ⟨by kernel_rfl, by kernel_rfl, by kernel_rfl, by kernel_rfl, by kernel_rfl⟩
noncomputable def alu_Latency (N : Nat) (x0 : api_Config) (x1 : Int) : Option Rs :=
 bi (x1 == 11) (
  bi (decide (x0.Mul < 1)) (
   some (0, gI.dv 1 [])) <|
  bi (decide (x0.Mul > 50)) (
   some (0, gI.dv 1 [])) <|
  some (0, gI.dv x0.Mul [])) <|
 bi (x1 == 12) (
  bi (decide (x0.Mul < 1)) (
   some (0, gI.dv 1 [])) <|
  bi (decide (x0.Mul > 50)) (
   some (0, gI.dv 1 [])) <|
  some (0, gI.dv x0.Mul [])) <|
 bi (x1 == 13) (
  bi (decide (x0.Div < 1)) (
   some (0, gI.dv 1 [])) <|
  bi (decide (x0.Div > 50)) (
   some (0, gI.dv 1 [])) <|
  some (0, gI.dv x0.Div [])) <|
 bi (x1 == 14) (
  bi (decide (x0.Div < 1)) (
   some (0, gI.dv 1 [])) <|
  bi (decide (x0.Div > 50)) (
   some (0, gI.dv 1 [])) <|
  some (0, gI.dv x0.Div [])) <|
 bi (x1 == 15) (
  bi (decide (x0.Div < 1)) (
   some (0, gI.dv 1 [])) <|
  bi (decide (x0.Div > 50)) (
   some (0, gI.dv 1 [])) <|
  some (0, gI.dv x0.Div [])) <|
 bi (x1 == 16) (
  bi (decide (x0.Div < 1)) (
   some (0, gI.dv 1 [])) <|
  bi (decide (x0.Div > 50)) (
   some (0, gI.dv 1 [])) <|
  some (0, gI.dv x0.Div [])) <|
 bi (decide ((1 : Int) < (1 : Int))) (
  some (0, gI.dv 1 [])) <|
 bi (decide ((1 : Int) > (50 : Int))) (
  some (0, gI.dv 1 [])) <|
 some (0, gI.dv 1 [])
noncomputable def X_alu_Latency (N : Nat) : CE := (c_alu_Latency, mkF [p_api_Config, pI] [pI] (alu_Latency N))
theorem Y_alu_Latency (N : Nat) : CEok Q (X_alu_Latency N) :=
 fnG (hi := h_alu_Latency) (l := []) (t := []) ti_ok hmix trivial trivial f_223 (by kernel_rfl) (by kernel_rfl) trivial fun ys => by kernel_rfl
def c_epipe_Set_E : CS := ⟨109, 150, ⟨[.one (.p 0 9 [16, 16, 1, 1, 1, 1, 1, 1]), .one (.d tI), .one (.d tW), .one (.d tI)], [q_1]⟩, [], false, [q_1]⟩
def h_epipe_Set_E : Hi := ⟨[], [], [10, 13], [], []⟩
theorem f_150 : Fn Q 150 f150 (codeOf f150) := ⟨by kernel_rfl, by kernel_rfl, by kernel_rfl, by kernel_rfl, by kernel_rfl⟩
noncomputable def epipe_Set_E (N : Nat) (x0 : Int) (x1 : Int) (x2 : Int) (x3 : api_State) : Option Rs :=
 bi (decide (x0 ≥ 1)) (
  bi (decide (x0 ≤ 15)) (
   gd (idx x0 16) <|
   gd (idx x0 16) <|
   some (0, g_api_State.dv ({ x3 with E := { x3.E with Regs := (List.set x3.E.Regs x0.toNat x1), Ready := (List.set x3.E.Ready x0.toNat x2) } } : api_State) [])) <|
  some (0, g_api_State.dv x3 [])) <|
 some (0, g_api_State.dv x3 [])
noncomputable def X_epipe_Set_E (N : Nat) : CE := (c_epipe_Set_E, mkF [pI, pW, pI, p_api_State] [p_api_State] (epipe_Set_E N))
theorem Y_epipe_Set_E (N : Nat) : CEok Q (X_epipe_Set_E N) :=
 fnG (hi := h_epipe_Set_E) (l := []) (t := []) ti_ok hmix trivial trivial f_150 (by kernel_rfl) (by kernel_rfl) trivial fun ys => by kernel_rfl
def c_epipe_Behind_E : CS := ⟨110, 151, ⟨[.one (.p 0 9 [16, 16, 1, 1, 1, 1, 1, 1])], [q_1]⟩, [], false, [q_1]⟩
def h_epipe_Behind_E : Hi := ⟨[], [], [], [], []⟩
theorem f_151 : Fn Q 151 f151 (codeOf f151) := ⟨by kernel_rfl, by kernel_rfl, by kernel_rfl, by kernel_rfl, by kernel_rfl⟩
noncomputable def epipe_Behind_E (N : Nat) (x0 : api_State) : Option Rs :=
 some (0, g_api_State.dv ({ x0 with E := { x0.E with Pos := { x0.E.Pos with Index := (w.i64 (x0.E.Pos.Index + 1)) }, Done := (w.i64 (x0.E.Done + 1)) } } : api_State) [])
noncomputable def X_epipe_Behind_E (N : Nat) : CE := (c_epipe_Behind_E, mkF [p_api_State] [p_api_State] (epipe_Behind_E N))
theorem Y_epipe_Behind_E (N : Nat) : CEok Q (X_epipe_Behind_E N) :=
 fnG (hi := h_epipe_Behind_E) (l := []) (t := []) ti_ok hmix trivial trivial f_151 (by kernel_rfl) (by kernel_rfl) trivial fun ys => by kernel_rfl
def c_epipe_Do_E : CS := ⟨111, 149, ⟨[.agg q_5, .one (.p 0 0 [1, 16, 16, 1, 1, 1, 1, 1, 1, 16, 16, 1, 1, 1, 1, 1, 1, 1, 1, 1, 1, 1, 1, 1, 1, 1, 1, 1, 1, 1, 1, 1]), .one (.p 0 9 [16, 16, 1, 1, 1, 1, 1, 1]), .agg q_2, .one (.d tI)], [q_1]⟩, [], false, [q_1]⟩
def h_epipe_Do_E : Hi := ⟨[((1, 6), c_epipe_Get), ((1, 11), c_epipe_Get), ((1, 12), c_alu_Do), ((3, 4), c_epipe_Trap), ((4, 13), c_alu_Latency), ((4, 15), c_epipe_Set_E), ((5, 1), c_epipe_Behind_E)], [], [29], [], []⟩
theorem f_149 : Fn Q 149 f149 (codeOf f149) := ⟨by kernel_rfl, by kernel_rfl, by kernel_rfl, by kernel_rfl, by kernel_rfl⟩
noncomputable def epipe_Do_E (N : Nat) (x0 : api_Config) (x1 : api_Cell) (x2 : Int) (x3 : api_State) : Option Rs :=
 on1 (epipe_Get N x3.E x1.2.1.2.2.1) <| gg [pW] <| fun (x4 : Int) => 
 on1 (epipe_Get N x3.E x1.2.1.2.2.2.1) <| gg [pW] <| fun (x5 : Int) => 
 on1 (alu_Do N x1.2.1 x4 x5) <| gg [pW, pB] <| fun (x6 : Int) (x7 : Bool) => 
 bi (!x7) (
  on1 (epipe_Trap N 3 x2 x1.2.2.2.1 x3) <| gg [p_api_State] <| fun (x8 : api_State) => 
  some (0, g_api_State.dv x8 [])) <|
 on1 (alu_Latency N x0 x1.2.1.1) <| gg [pI] <| fun (x9 : Int) => 
 on1 (epipe_Set_E N x1.2.1.2.1 x6 (w.i64 (x3.Cycle + x9)) x3) <| gg [p_api_State] <| fun (x10 : api_State) => 
 on1 (epipe_Behind_E N x10) <| gg [p_api_State] <| fun (x11 : api_State) => 
 some (0, g_api_State.dv x11 [])
noncomputable def X_epipe_Do_E (N : Nat) : CE := (c_epipe_Do_E, mkF [p_api_Config, p_api_Cell, pI, p_api_State] [p_api_State] (epipe_Do_E N))
theorem Y_epipe_Do_E (N : Nat) : CEok Q (X_epipe_Do_E N) :=
 fnG (hi := h_epipe_Do_E) (l := [X_epipe_Get N, X_alu_Do N, X_epipe_Trap N, X_alu_Latency N, X_epipe_Set_E N, X_epipe_Behind_E N]) (t := []) ti_ok hmix ⟨Y_epipe_Get N, Y_alu_Do N, Y_epipe_Trap N, Y_alu_Latency N, Y_epipe_Set_E N, Y_epipe_Behind_E N, trivial⟩ ⟨rfl, rfl, rfl, rfl, rfl, rfl, rfl, trivial⟩ f_149 (by kernel_rfl) (by kernel_rfl) trivial fun ys => by kernel_rfl
def c_slots_Pop : CS := ⟨112, 224, ⟨[.one (.d (.sl t_api_Slot))], []⟩, [.one (.o t_api_Slot), .one (.d tW), .one (.d tB)], false, []⟩
def h_slots_Pop : Hi := ⟨[((1, 1), c_sl_Clone_api_Slot)], [], [11, 17], [], []⟩
theorem f_224 : Fn Q 224 f224 (codeOf f224) := ⟨by kernel_rfl, by kernel_rfl, by kernel_rfl, by kernel_rfl, by kernel_rfl⟩
noncomputable def slots_Pop (N : Nat) (x0 : List api_Slot) : Option Rs :=
 on1 (sl_Clone_api_Slot N x0) <| gg [pD (.sl t_api_Slot)] <| fun (x1 : List api_Slot) => 
 bi ((len x1) == 0) (
  some (0, (gD (.sl t_api_Slot)).dv x1 (gW.dv 0 (gB.dv false [])))) <|
 gd (idx 0 (List.length x1)) <|
 bi (!(List.getD x1 0 api_Slot.z).2.1) (
  some (0, (gD (.sl t_api_Slot)).dv x1 (gW.dv 0 (gB.dv false [])))) <|
 gd (sb 1 (len x1)) <|
 gd (idx 0 (List.length x1)) <|
 some (0, (gD (.sl t_api_Slot)).dv (List.drop 1 x1) (gW.dv ((List.getD x1 0 api_Slot.z).2.2.1) (gB.dv true [])))
noncomputable def X_slots_Pop (N : Nat) : CE := (c_slots_Pop, mkF [pD (.sl t_api_Slot)] [pD (.sl t_api_Slot), pW, pB] (slots_Pop N))
theorem Y_slots_Pop (N : Nat) : CEok Q (X_slots_Pop N) :=
 fnG (hi := h_slots_Pop) (l := [X_sl_Clone_api_Slot N]) (t := []) ti_ok hmix ⟨Y_sl_Clone_api_Slot N, trivial⟩ ⟨rfl, trivial⟩ f_224 (by kernel_rfl) (by kernel_rfl) trivial fun ys => by kernel_rfl
def c_epipe_pop : CS := ⟨113, 152, ⟨[.one (.p 0 0 [1, 16, 16, 1, 1, 1, 1, 1, 1, 16, 16, 1, 1, 1, 1, 1, 1, 1, 1, 1, 1, 1, 1, 1, 1, 1, 1, 1, 1, 1, 1, 1]), .agg q_2], [q_1]⟩, [], false, [q_1]⟩
def h_epipe_pop : Hi := ⟨[((1, 4), c_slots_Pop), ((4, 12), c_epipe_Set_E), ((5, 3), c_epipe_Behind_E)], [], [17], [], []⟩
theorem f_152 : Fn Q 152 f152 (codeOf f152) := ⟨by kernel_rfl, by kernel_rfl, by kernel_rfl, by kernel_rfl, by kernel_rfl⟩
noncomputable def epipe_pop (N : Nat) (x0 : api_Cell) (x1 : api_State) : Option Rs :=
 on1 (slots_Pop N x1.Ldq) <| gg [pD (.sl t_api_Slot), pW, pB] <| fun (x2 : List api_Slot) (x3 : Int) (x4 : Bool) => 
 bi (!x4) (
  some (0, g_api_State.dv x1 [])) <|
 on1 (epipe_Set_E N x0.2.1.2.1 x3 (w.i64 (x1.Cycle + 1)) ({ x1 with Ldq := x2 } : api_State)) <| gg [p_api_State] <| fun (x5 : api_State) => 
 on1 (epipe_Behind_E N x5) <| gg [p_api_State] <| fun (x6 : api_State) => 
 some (0, g_api_State.dv x6 [])
noncomputable def X_epipe_pop (N : Nat) : CE := (c_epipe_pop, mkF [p_api_Cell, p_api_State] [p_api_State] (epipe_pop N))
theorem Y_epipe_pop (N : Nat) : CEok Q (X_epipe_pop N) :=
 fnG (hi := h_epipe_pop) (l := [X_slots_Pop N, X_epipe_Set_E N, X_epipe_Behind_E N]) (t := []) ti_ok hmix ⟨Y_slots_Pop N, Y_epipe_Set_E N, Y_epipe_Behind_E N, trivial⟩ ⟨rfl, rfl, rfl, trivial⟩ f_152 (by kernel_rfl) (by kernel_rfl) trivial fun ys => by kernel_rfl
def c_alu_Taken : CS := ⟨114, 225, ⟨[.one (.d tI), .one (.d tW), .one (.d tW)], []⟩, [.one (.d tB)], true, []⟩
def h_alu_Taken : Hi := ⟨[], [], [8, 13, 18, 25, 32, 37], [], []⟩
theorem f_225 : Fn Q 225 f225 (codeOf f225) := ⟨by kernel_rfl, by kernel_rfl, by kernel_rfl, by kernel_rfl, by kernel_rfl⟩
noncomputable def alu_Taken (N : Nat) (x0 : Int) (x1 : Int) (x2 : Int) : Option Rs :=
 bi (x0 == 34) (
  some (0, gB.dv (x1 == x2) [])) <|
 bi (x0 == 35) (
  some (0, gB.dv (x1 != x2) [])) <|
 bi (x0 == 36) (
  some (0, gB.dv (decide ((w.i32 x1) < (w.i32 x2))) [])) <|
 bi (x0 == 37) (
  some (0, gB.dv (decide ((w.i32 x1) ≥ (w.i32 x2))) [])) <|
 bi (x0 == 38) (
  some (0, gB.dv (decide (x1 < x2)) [])) <|
 bi (x0 == 39) (
  some (0, gB.dv (decide (x1 ≥ x2)) [])) <|
 some (0, gB.dv false [])
noncomputable def X_alu_Taken (N : Nat) : CE := (c_alu_Taken, mkF [pI, pW, pW] [pB] (alu_Taken N))
theorem Y_alu_Taken (N : Nat) : CEok Q (X_alu_Taken N) :=
 fnG (hi := h_alu_Taken) (l := []) (t := []) ti_ok hmix trivial trivial f_225 (by kernel_rfl) (by kernel_rfl) trivial fun ys => by kernel_rfl
def c_front_Go : CS := ⟨115, 226, ⟨[.agg [.d (.sl t_api_Block), .d (.ar 16 tI)], .agg [.d tI, .d tI, .d tI], .one (.d tB)], []⟩, [.agg [.d tI, .d tI, .d tI]], true, []⟩
def h_front_Go : Hi := ⟨[((1, 5), c_front_has), ((1, 16), c_front_has), ((2, 9), c_front_End)], [], [8, 14, 24], [], []⟩
theorem f_226 : Fn Q 226 f226 (codeOf f226) := ⟨by kernel_rfl, by kernel_rfl, by kernel_rfl, by kernel_rfl, by kernel_rfl⟩
noncomputable def front_Go (N : Nat) (x0 : api_Split) (x1 : api_Pos) (x2 : Bool) : Option Rs :=
 bi x2 (
  on1 (front_has N x0 x1.Block) <| gg [pB] <| fun (x3 : Bool) => 
  bi x3 (
   gd (idx x1.Block (List.length x0.Blocks)) <|
   on1 (front_has N x0 ((List.getD x0.Blocks x1.Block.toNat api_Block.z).2.2.2.1)) <| gg [pB] <| fun (x4 : Bool) => 
   bi x4 (
    gd (idx x1.Block (List.length x0.Blocks)) <|
    on1 (front_End N x0 x1) <| gg [pI] <| fun (x5 : Int) => 
    some (0, g_api_Pos.dv (api_Pos.mk ((List.getD x0.Blocks x1.Block.toNat api_Block.z).2.2.2.1) 0 x5) [])) <|
   some (0, g_api_Pos.dv ({ x1 with Index := (w.i64 (x1.Index + 1)) } : api_Pos) [])) <|
  some (0, g_api_Pos.dv ({ x1 with Index := (w.i64 (x1.Index + 1)) } : api_Pos) [])) <|
 some (0, g_api_Pos.dv ({ x1 with Index := (w.i64 (x1.Index + 1)) } : api_Pos) [])
noncomputable def X_front_Go (N : Nat) : CE := (c_front_Go, mkF [p_api_Split, p_api_Pos, pB] [p_api_Pos] (front_Go N))
theorem Y_front_Go (N : Nat) : CEok Q (X_front_Go N) :=
 fnG (hi := h_front_Go) (l := [X_front_has N, X_front_End N]) (t := []) ti_ok hmix ⟨Y_front_has N, Y_front_End N, trivial⟩ ⟨rfl, rfl, rfl, trivial⟩ f_226 (by kernel_rfl) (by kernel_rfl) trivial fun ys => by kernel_rfl
def c_epipe_Go_E : CS := ⟨116, 156, ⟨[.agg [.d (.sl t_api_Block), .d (.ar 16 tI)], .one (.p 0 0 [1, 16, 16, 1, 1, 1, 1, 1, 1, 16, 16, 1, 1, 1, 1, 1, 1, 1, 1, 1, 1, 1, 1, 1, 1, 1, 1, 1, 1, 1, 1, 1]), .one (.p 0 9 [16, 16, 1, 1, 1, 1, 1, 1]), .one (.d tB)], [q_1]⟩, [], false, [q_1]⟩
def h_epipe_Go_E : Hi := ⟨[((1, 7), c_front_Go)], [], [18], [], []⟩
theorem f_156 : Fn Q 156 f156 (codeOf f156) := ⟨by kernel_rfl, by kernel_rfl, by kernel_rfl, by kernel_rfl, by kernel_rfl⟩
noncomputable def epipe_Go_E (N : Nat) (x0 : api_Split) (x1 : Bool) (x2 : api_State) : Option Rs :=
 on1 (front_Go N x0 x2.E.Pos x1) <| gg [p_api_Pos] <| fun (x3 : api_Pos) => 
 bi x1 (
  some (0, g_api_State.dv ({ x2 with E := { x2.E with Pos := x3, Wait := (w.i64 (x2.Cycle + 2)), Done := (w.i64 (x2.E.Done + 1)) } } : api_State) [])) <|
 some (0, g_api_State.dv ({ x2 with E := { x2.E with Pos := x3, Done := (w.i64 (x2.E.Done + 1)) } } : api_State) [])
noncomputable def X_epipe_Go_E (N : Nat) : CE := (c_epipe_Go_E, mkF [p_api_Split, pB, p_api_State] [p_api_State] (epipe_Go_E N))
theorem Y_epipe_Go_E (N : Nat) : CEok Q (X_epipe_Go_E N) :=
 fnG (hi := h_epipe_Go_E) (l := [X_front_Go N]) (t := []) ti_ok hmix ⟨Y_front_Go N, trivial⟩ ⟨rfl, trivial⟩ f_156 (by kernel_rfl) (by kernel_rfl) trivial fun ys => by kernel_rfl
def c_epipe_Branch_E_Ebq : CS := ⟨117, 154, ⟨[.agg [.d (.sl t_api_Block), .d (.ar 16 tI)], .one (.p 0 0 [1, 16, 16, 1, 1, 1, 1, 1, 1, 16, 16, 1, 1, 1, 1, 1, 1, 1, 1, 1, 1, 1, 1, 1, 1, 1, 1, 1, 1, 1, 1, 1]), .one (.p 0 9 [16, 16, 1, 1, 1, 1, 1, 1]), .agg q_2, .one (.p 0 21 [1]), .one (.d tI)], [q_1]⟩, [], false, [q_1]⟩
def h_epipe_Branch_E_Ebq : Hi := ⟨[((2, 7), c_epipe_Get), ((2, 12), c_epipe_Get), ((2, 13), c_alu_Taken), ((4, 4), c_epipe_Go_E)], [], [18], [], []⟩
theorem f_154 : Fn Q 154 f154 (codeOf f154) := ⟨by kernel_rfl, by kernel_rfl, by kernel_rfl, by kernel_rfl, by kernel_rfl⟩
noncomputable def epipe_Branch_E_Ebq (N : Nat) (x0 : api_Split) (x1 : api_Cell) (x2 : Int) (x3 : api_State) : Option Rs :=
 bi (decide ((len x3.Ebq) ≥ x2)) (
  some (0, g_api_State.dv x3 [])) <|
 on1 (epipe_Get N x3.E x1.2.1.2.2.1) <| gg [pW] <| fun (x4 : Int) => 
 on1 (epipe_Get N x3.E x1.2.1.2.2.2.1) <| gg [pW] <| fun (x5 : Int) => 
 on1 (alu_Taken N x1.2.1.1 x4 x5) <| gg [pB] <| fun (x6 : Bool) => 
 gd (rm x3.Ebq [x6] 1) <|
 on1 (epipe_Go_E N x0 x6 ({ x3 with Ebq := (x3.Ebq ++ [x6]) } : api_State)) <| gg [p_api_State] <| fun (x7 : api_State) => 
 some (0, g_api_State.dv x7 [])
noncomputable def X_epipe_Branch_E_Ebq (N : Nat) : CE := (c_epipe_Branch_E_Ebq, mkF [p_api_Split, p_api_Cell, pI, p_api_State] [p_api_State] (epipe_Branch_E_Ebq N))
theorem Y_epipe_Branch_E_Ebq (N : Nat) : CEok Q (X_epipe_Branch_E_Ebq N) :=
 fnG (hi := h_epipe_Branch_E_Ebq) (l := [X_epipe_Get N, X_alu_Taken N, X_epipe_Go_E N]) (t := []) ti_ok hmix ⟨Y_epipe_Get N, Y_alu_Taken N, Y_epipe_Go_E N, trivial⟩ ⟨rfl, rfl, rfl, rfl, trivial⟩ f_154 (by kernel_rfl) (by kernel_rfl) trivial fun ys => by kernel_rfl
def c_epipe_Follow_E_Abq : CS := ⟨118, 155, ⟨[.agg [.d (.sl t_api_Block), .d (.ar 16 tI)], .one (.p 0 0 [1, 16, 16, 1, 1, 1, 1, 1, 1, 16, 16, 1, 1, 1, 1, 1, 1, 1, 1, 1, 1, 1, 1, 1, 1, 1, 1, 1, 1, 1, 1, 1]), .one (.p 0 9 [16, 16, 1, 1, 1, 1, 1, 1]), .one (.p 0 20 [1])], [q_1]⟩, [], false, [q_1]⟩
def h_epipe_Follow_E_Abq : Hi := ⟨[((4, 4), c_epipe_Go_E)], [], [13], [], []⟩
theorem f_155 : Fn Q 155 f155 (codeOf f155) := ⟨by kernel_rfl, by kernel_rfl, by kernel_rfl, by kernel_rfl, by kernel_rfl⟩
noncomputable def epipe_Follow_E_Abq (N : Nat) (x0 : api_Split) (x1 : api_State) : Option Rs :=
 bi ((len x1.Abq) == 0) (
  some (0, g_api_State.dv x1 [])) <|
 gd (idx 0 (List.length x1.Abq)) <|
 gd (sb 1 (len x1.Abq)) <|
 on1 (epipe_Go_E N x0 (List.getD x1.Abq 0 false) ({ x1 with Abq := (List.drop 1 x1.Abq) } : api_State)) <| gg [p_api_State] <| fun (x2 : api_State) => 
 some (0, g_api_State.dv x2 [])
noncomputable def X_epipe_Follow_E_Abq (N : Nat) : CE := (c_epipe_Follow_E_Abq, mkF [p_api_Split, p_api_State] [p_api_State] (epipe_Follow_E_Abq N))
theorem Y_epipe_Follow_E_Abq (N : Nat) : CEok Q (X_epipe_Follow_E_Abq N) :=
 fnG (hi := h_epipe_Follow_E_Abq) (l := [X_epipe_Go_E N]) (t := []) ti_ok hmix ⟨Y_epipe_Go_E N, trivial⟩ ⟨rfl, trivial⟩ f_155 (by kernel_rfl) (by kernel_rfl) trivial fun ys => by kernel_rfl
def c_epipe_Halt_E : CS := ⟨119, 157, ⟨[.one (.p 0 9 [16, 16, 1, 1, 1, 1, 1, 1])], [q_1]⟩, [], false, [q_1]⟩
def h_epipe_Halt_E : Hi := ⟨[], [], [], [], []⟩
theorem f_157 : Fn Q 157 f157 (codeOf f157) := ⟨by kernel_rfl, by kernel_rfl, by kernel_rfl, by kernel_rfl, by kernel_rfl⟩
noncomputable def epipe_Halt_E (N : Nat) (x0 : api_State) : Option Rs :=
 some (0, g_api_State.dv ({ x0 with E := { x0.E with Halted := true, Done := (w.i64 (x0.E.Done + 1)) } } : api_State) [])
noncomputable def X_epipe_Halt_E (N : Nat) : CE := (c_epipe_Halt_E, mkF [p_api_State] [p_api_State] (epipe_Halt_E N))
theorem Y_epipe_Halt_E (N : Nat) : CEok Q (X_epipe_Halt_E N) :=
 fnG (hi := h_epipe_Halt_E) (l := []) (t := []) ti_ok hmix trivial trivial f_157 (by kernel_rfl) (by kernel_rfl) trivial fun ys => by kernel_rfl
def c_epipe_Turn : CS := ⟨120, 82, ⟨[.agg q_5, .agg [.d (.sl t_api_Block), .d (.ar 16 tI)], .one (.p 0 0 [1, 16, 16, 1, 1, 1, 1, 1, 1, 16, 16, 1, 1, 1, 1, 1, 1, 1, 1, 1, 1, 1, 1, 1, 1, 1, 1, 1, 1, 1, 1, 1])], [q_1]⟩, [], false, [q_1]⟩
def h_epipe_Turn : Hi := ⟨[((2, 3), c_epipe_At_E), ((3, 11), c_epipe_Free), ((6, 5), c_epipe_Do_E), ((9, 14), c_epipe_Set_E), ((11, 1), c_epipe_Behind_E), ((13, 2), c_epipe_pop), ((16, 8), c_epipe_Get), ((17, 1), c_epipe_Behind_E), ((19, 9), c_epipe_Branch_E_Ebq), ((21, 6), c_epipe_Follow_E_Abq), ((23, 3), c_epipe_Go_E), ((25, 1), c_epipe_Halt_E)], [], [23, 34, 37, 45, 52, 78, 83, 92, 108, 120, 129, 135], [], []⟩
theorem f_82 : Fn Q 82 f82 (codeOf f82) := ⟨by kernel_rfl, by kernel_rfl, by kernel_rfl, by kernel_rfl, by kernel_rfl⟩
noncomputable def epipe_Turn (N : Nat) (x0 : api_Config) (x1 : api_Split) (x2 : api_State) : Option Rs :=
 on1 (epipe_At_E N x1 true x2) <| gg [p_api_Cell, pI, pB, p_api_State] <| fun (x3 : api_Cell) (x4 : Int) (x5 : Bool) (x6 : api_State) => 
 bi (!x5) (
  some (0, g_api_State.dv x6 [])) <|
 on1 (epipe_Free N x6.E x3 x6.Cycle) <| gg [pB] <| fun (x7 : Bool) => 
 bi (!x7) (
  some (0, g_api_State.dv x6 [])) <|
 bi (x3.1 == 1) (
  on1 (epipe_Do_E N x0 x3 x4 x6) <| gg [p_api_State] <| fun (x8 : api_State) => 
  some (0, g_api_State.dv x8 [])) <|
 bi (x3.1 == 6) (
  bi (decide ((len x6.Aeq) > 0)) (
   gd (idx 0 (List.length x6.Aeq)) <|
   on1 (epipe_Set_E N x3.2.2.1 (List.getD x6.Aeq 0 0) (w.i64 (x6.Cycle + 1)) x6) <| gg [p_api_State] <| fun (x9 : api_State) => 
   gd (sb 1 (len x9.Aeq)) <|
   on1 (epipe_Behind_E N ({ x9 with Aeq := (List.drop 1 x9.Aeq) } : api_State)) <| gg [p_api_State] <| fun (x10 : api_State) => 
   some (0, g_api_State.dv x10 [])) <|
  some (0, g_api_State.dv x6 [])) <|
 bi (x3.1 == 7) (
  on1 (epipe_pop N x3 x6) <| gg [p_api_State] <| fun (x11 : api_State) => 
  some (0, g_api_State.dv x11 [])) <|
 bi (x3.1 == 8) (
  bi (decide ((len x6.Sdq) < x0.Sdq)) (
   on1 (epipe_Get N x6.E x3.2.2.1) <| gg [pW] <| fun (x12 : Int) => 
   gd (rm x6.Sdq [x12] 4) <|
   on1 (epipe_Behind_E N ({ x6 with Sdq := (x6.Sdq ++ [x12]) } : api_State)) <| gg [p_api_State] <| fun (x13 : api_State) => 
   some (0, g_api_State.dv x13 [])) <|
  some (0, g_api_State.dv x6 [])) <|
 bi (x3.1 == 9) (
  on1 (epipe_Branch_E_Ebq N x1 x3 x0.Ebq x6) <| gg [p_api_State] <| fun (x14 : api_State) => 
  some (0, g_api_State.dv x14 [])) <|
 bi (x3.1 == 10) (
  on1 (epipe_Follow_E_Abq N x1 x6) <| gg [p_api_State] <| fun (x15 : api_State) => 
  some (0, g_api_State.dv x15 [])) <|
 bi (x3.1 == 11) (
  on1 (epipe_Go_E N x1 true x6) <| gg [p_api_State] <| fun (x16 : api_State) => 
  some (0, g_api_State.dv x16 [])) <|
 bi (x3.1 == 12) (
  on1 (epipe_Halt_E N x6) <| gg [p_api_State] <| fun (x17 : api_State) => 
  some (0, g_api_State.dv x17 [])) <|
 some (0, g_api_State.dv x6 [])
noncomputable def X_epipe_Turn (N : Nat) : CE := (c_epipe_Turn, mkF [p_api_Config, p_api_Split, p_api_State] [p_api_State] (epipe_Turn N))
theorem Y_epipe_Turn (N : Nat) : CEok Q (X_epipe_Turn N) :=
 fnG (hi := h_epipe_Turn) (l := [X_epipe_At_E N, X_epipe_Free N, X_epipe_Do_E N, X_epipe_Set_E N, X_epipe_Behind_E N, X_epipe_pop N, X_epipe_Get N, X_epipe_Branch_E_Ebq N, X_epipe_Follow_E_Abq N, X_epipe_Go_E N, X_epipe_Halt_E N]) (t := []) ti_ok hmix ⟨Y_epipe_At_E N, Y_epipe_Free N, Y_epipe_Do_E N, Y_epipe_Set_E N, Y_epipe_Behind_E N, Y_epipe_pop N, Y_epipe_Get N, Y_epipe_Branch_E_Ebq N, Y_epipe_Follow_E_Abq N, Y_epipe_Go_E N, Y_epipe_Halt_E N, trivial⟩ ⟨rfl, rfl, rfl, rfl, rfl, rfl, rfl, rfl, rfl, rfl, rfl, rfl, trivial⟩ f_82 (by kernel_rfl) (by kernel_rfl) trivial fun ys => by kernel_rfl
end Go.Proofs.Zz
