import Derived.Test.YtnhgipdlkcdeiaaDoorHJoinA
set_option linter.unusedSimpArgs false
set_option linter.unusedVariables false
/- What functions of the program compute, as plain functions. -/
set_option linter.unusedVariables false
set_option maxRecDepth 100000
namespace Go.Proofs.Zs
open Go Go.Proofs.Tryd
def c_show_fields : CS := ⟨11, 96, ⟨[.agg [.d tI, .d tI, .d tI, .d tI, .d tI]], []⟩, [.one (.d tS)], true, []⟩
def h_show_fields : Hi := ⟨[((1, 2), c_strconv_Itoa), ((2, 2), c_isa_Form), ((4, 2), c_show_reg), ((4, 5), c_show_reg), ((4, 8), c_show_reg), ((4, 10), c_ss_Join), ((6, 2), c_show_reg), ((6, 5), c_show_reg), ((6, 8), c_ss_Join), ((8, 2), c_show_reg), ((10, 2), c_show_reg), ((10, 9), c_show_reg), ((12, 2), c_show_reg), ((12, 9), c_show_reg), ((14, 2), c_show_reg), ((14, 5), c_show_reg), ((14, 8), c_ss_Join)], [], [10, 23, 34, 42, 56, 70, 81], [], []⟩
theorem f_96 : Fn Q 96 f96 (codeOf f96) := ⟨by kernel_rfl, by kernel_rfl, by kernel_rfl, by kernel_rfl, by kernel_rfl⟩
noncomputable def show_fields (N : Nat) (x0 : api_Ins) : Option Rs :=
 on1 (strconv_Itoa N x0.2.2.2.2.1) <| gg [pT] <| fun (x1 : ByteArray) => 
 on1 (isa_Form N x0.1) <| gg [pI] <| fun (x2 : Int) => 
 bi (x2 == 1) (
  on1 (show_reg N x0.2.1) <| gg [pT] <| fun (x3 : ByteArray) => 
  on1 (show_reg N x0.2.2.1) <| gg [pT] <| fun (x4 : ByteArray) => 
  on1 (show_reg N x0.2.2.2.1) <| gg [pT] <| fun (x5 : ByteArray) => 
  on1 (ss_Join N [x3, x4, x5] (bs [44, 32])) <| gg [pT] <| fun (x6 : ByteArray) => 
  some (0, gT.dv x6 [])) <|
 bi (x2 == 2) (
  on1 (show_reg N x0.2.1) <| gg [pT] <| fun (x7 : ByteArray) => 
  on1 (show_reg N x0.2.2.1) <| gg [pT] <| fun (x8 : ByteArray) => 
  on1 (ss_Join N [x7, x8, x1] (bs [44, 32])) <| gg [pT] <| fun (x9 : ByteArray) => 
  some (0, gT.dv x9 [])) <|
 bi (x2 == 3) (
  on1 (show_reg N x0.2.1) <| gg [pT] <| fun (x10 : ByteArray) => 
  gd (decide (x10.size + (bs [44, 32]).size ≤ reach)) <|
  gd (decide ((x10 ++ (bs [44, 32])).size + x1.size ≤ reach)) <|
  some (0, gT.dv ((x10 ++ (bs [44, 32])) ++ x1) [])) <|
 bi (x2 == 4) (
  on1 (show_reg N x0.2.1) <| gg [pT] <| fun (x11 : ByteArray) => 
  gd (decide (x11.size + (bs [44, 32]).size ≤ reach)) <|
  gd (decide ((x11 ++ (bs [44, 32])).size + x1.size ≤ reach)) <|
  gd (decide (((x11 ++ (bs [44, 32])) ++ x1).size + (bs [40]).size ≤ reach)) <|
  on1 (show_reg N x0.2.2.1) <| gg [pT] <| fun (x12 : ByteArray) => 
  gd (decide ((((x11 ++ (bs [44, 32])) ++ x1) ++ (bs [40])).size + x12.size ≤ reach)) <|
  gd (decide (((((x11 ++ (bs [44, 32])) ++ x1) ++ (bs [40])) ++ x12).size + (bs [41]).size ≤ reach)) <|
  some (0, gT.dv (((((x11 ++ (bs [44, 32])) ++ x1) ++ (bs [40])) ++ x12) ++ (bs [41])) [])) <|
 bi (x2 == 5) (
  on1 (show_reg N x0.2.2.2.1) <| gg [pT] <| fun (x13 : ByteArray) => 
  gd (decide (x13.size + (bs [44, 32]).size ≤ reach)) <|
  gd (decide ((x13 ++ (bs [44, 32])).size + x1.size ≤ reach)) <|
  gd (decide (((x13 ++ (bs [44, 32])) ++ x1).size + (bs [40]).size ≤ reach)) <|
  on1 (show_reg N x0.2.2.1) <| gg [pT] <| fun (x14 : ByteArray) => 
  gd (decide ((((x13 ++ (bs [44, 32])) ++ x1) ++ (bs [40])).size + x14.size ≤ reach)) <|
  gd (decide (((((x13 ++ (bs [44, 32])) ++ x1) ++ (bs [40])) ++ x14).size + (bs [41]).size ≤ reach)) <|
  some (0, gT.dv (((((x13 ++ (bs [44, 32])) ++ x1) ++ (bs [40])) ++ x14) ++ (bs [41])) [])) <|
 bi (x2 == 6) (
  on1 (show_reg N x0.2.2.1) <| gg [pT] <| fun (x15 : ByteArray) => 
  on1 (show_reg N x0.2.2.2.1) <| gg [pT] <| fun (x16 : ByteArray) => 
  on1 (ss_Join N [x15, x16, x1] (bs [44, 32])) <| gg [pT] <| fun (x17 : ByteArray) => 
  some (0, gT.dv x17 [])) <|
 bi (x2 == 7) (
  some (0, gT.dv x1 [])) <|
 some (0, gT.dv (bs []) [])
noncomputable def X_show_fields (N : Nat) : CE := (c_show_fields, mkF [p_api_Ins] [pT] (show_fields N))
theorem Y_show_fields (N : Nat) : CEok Q (X_show_fields N) :=
 fnG (hi := h_show_fields) (l := [X_strconv_Itoa N, X_isa_Form N, X_show_reg N, X_ss_Join N]) (t := []) ti_ok hmix ⟨Y_strconv_Itoa N, Y_isa_Form N, Y_show_reg N, Y_ss_Join N, trivial⟩ ⟨rfl, rfl, rfl, rfl, rfl, rfl, rfl, rfl, rfl, rfl, rfl, rfl, rfl, rfl, rfl, rfl, rfl, trivial⟩ f_96 (by kernel_rfl) (by kernel_rfl) trivial fun ys => by kernel_rfl
def c_show_instruction : CS := ⟨12, 63, ⟨[.agg [.d tI, .d tI, .d tI, .d tI, .d tI]], []⟩, [.one (.d tS)], true, []⟩
def h_show_instruction : Hi := ⟨[((1, 1), c_isa_Right), ((3, 0), c_asm_Names), ((4, 1), c_show_fields)], [], [7, 17], [], []⟩
theorem f_63 : Fn Q 63 f63 (codeOf f63) := ⟨by kernel_rfl, by kernel_rfl, by kernel_rfl, by kernel_rfl, by kernel_rfl⟩
noncomputable def show_instruction (N : Nat) (x0 : api_Ins) : Option Rs :=
 on1 (isa_Right N x0) <| gg [pB] <| fun (x1 : Bool) => 
 bi (!x1) (
  some (0, gT.dv (bs []) [])) <|
 on1 (asm_Names N ) <| gg [pD (.sl tS)] <| fun (x2 : List ByteArray) => 
 gd (idx (w.i64 (x0.1 - 1)) (List.length x2)) <|
 on1 (show_fields N x0) <| gg [pT] <| fun (x3 : ByteArray) => 
 bi (!(x3.toList == (bs []).toList)) (
  gd (decide ((List.getD x2 (Int.toNat (w.i64 (x0.1 - 1))) ByteArray.empty).size + (bs [32]).size ≤ reach)) <|
  gd (decide (((List.getD x2 (Int.toNat (w.i64 (x0.1 - 1))) ByteArray.empty) ++ (bs [32])).size + x3.size ≤ reach)) <|
  some (0, gT.dv (((List.getD x2 (Int.toNat (w.i64 (x0.1 - 1))) ByteArray.empty) ++ (bs [32])) ++ x3) [])) <|
 some (0, gT.dv (List.getD x2 (Int.toNat (w.i64 (x0.1 - 1))) ByteArray.empty) [])
noncomputable def X_show_instruction (N : Nat) : CE := (c_show_instruction, mkF [p_api_Ins] [pT] (show_instruction N))
theorem Y_show_instruction (N : Nat) : CEok Q (X_show_instruction N) :=
 fnG (hi := h_show_instruction) (l := [X_isa_Right N, X_asm_Names N, X_show_fields N]) (t := []) ti_ok hmix ⟨Y_isa_Right N, Y_asm_Names N, Y_show_fields N, trivial⟩ ⟨rfl, rfl, rfl, trivial⟩ f_63 (by kernel_rfl) (by kernel_rfl) trivial fun ys => by kernel_rfl
def c_show_text : CS := ⟨13, 44, ⟨[.one (.ifd 23 [tI, tI, tI, tI, tI])], []⟩, [.one (.d tS)], true, []⟩
def h_show_text : Hi := ⟨[((3, 1), c_show_instruction)], [], [12, 20], [], []⟩
theorem f_44 : Fn Q 44 f44 (codeOf f44) := ⟨by kernel_rfl, by kernel_rfl, by kernel_rfl, by kernel_rfl, by kernel_rfl⟩
noncomputable def show_text (N : Nat) (x0 : api_Ins) : Option Rs :=
 on1 (show_instruction N x0) <| gg [pT] <| fun (x1 : ByteArray) => 
 some (0, gT.dv x1 [])
noncomputable def X_show_text (N : Nat) : CE := (c_show_text, mkF [p_api_Ins] [pT] (show_text N))
theorem Y_show_text (N : Nat) : CEok Q (X_show_text N) :=
 fnG (hi := h_show_text) (l := [X_show_instruction N]) (t := []) ti_ok hmix ⟨Y_show_instruction N, trivial⟩ ⟨rfl, trivial⟩ f_44 (by kernel_rfl) (by kernel_rfl) trivial fun ys => by kernel_rfl
def c_show_Ins : CS := ⟨14, 20, ⟨[.agg [.d tI, .d tI, .d tI, .d tI, .d tI]], []⟩, [.one (.d tS)], true, []⟩
def h_show_Ins : Hi := ⟨[((1, 2), c_show_text)], [], [], [], []⟩
theorem f_20 : Fn Q 20 f20 (codeOf f20) := ⟨by kernel_rfl, by kernel_rfl, by kernel_rfl, by kernel_rfl, by kernel_rfl⟩
noncomputable def show_Ins (N : Nat) (x0 : api_Ins) : Option Rs :=
 on1 (show_text N x0) <| gg [pT] <| fun (x1 : ByteArray) => 
 some (0, gT.dv x1 [])
noncomputable def X_show_Ins (N : Nat) : CE := (c_show_Ins, mkF [p_api_Ins] [pT] (show_Ins N))
theorem Y_show_Ins (N : Nat) : CEok Q (X_show_Ins N) :=
 fnG (hi := h_show_Ins) (l := [X_show_text N]) (t := []) ti_ok hmix ⟨Y_show_text N, trivial⟩ ⟨rfl, trivial⟩ f_20 (by kernel_rfl) (by kernel_rfl) trivial fun ys => by kernel_rfl
def c_show_behind : CS := ⟨15, 97, ⟨[.one (.d tS), .one (.d tS)], []⟩, [.one (.d tS)], true, []⟩
def h_show_behind : Hi := ⟨[], [], [6], [], []⟩
theorem f_97 : Fn Q 97 f97 (codeOf f97) := ⟨by kernel_rfl, by kernel_rfl, by kernel_rfl, by kernel_rfl, by kernel_rfl⟩
noncomputable def show_behind (N : Nat) (x0 : ByteArray) (x1 : ByteArray) : Option Rs :=
 bi (x1.toList == (bs []).toList) (
  some (0, gT.dv (bs []) [])) <|
 gd (decide (x0.size + (bs [32]).size ≤ reach)) <|
 gd (decide ((x0 ++ (bs [32])).size + x1.size ≤ reach)) <|
 some (0, gT.dv ((x0 ++ (bs [32])) ++ x1) [])
noncomputable def X_show_behind (N : Nat) : CE := (c_show_behind, mkF [pT, pT] [pT] (show_behind N))
theorem Y_show_behind (N : Nat) : CEok Q (X_show_behind N) :=
 fnG (hi := h_show_behind) (l := []) (t := []) ti_ok hmix trivial trivial f_97 (by kernel_rfl) (by kernel_rfl) trivial fun ys => by kernel_rfl
def c_show_cell : CS := ⟨16, 64, ⟨[.agg q_0], []⟩, [.one (.d tS)], true, []⟩
def h_show_cell : Hi := ⟨[((3, 3), c_show_text), ((3, 4), c_show_behind), ((5, 3), c_show_text), ((5, 4), c_show_behind), ((7, 3), c_show_text), ((7, 4), c_show_behind), ((9, 3), c_show_text), ((9, 4), c_show_behind), ((11, 3), c_show_text), ((11, 4), c_show_behind), ((13, 2), c_isa_Right), ((15, 3), c_show_reg), ((15, 4), c_show_behind), ((17, 2), c_show_reg), ((17, 3), c_show_behind), ((19, 2), c_show_reg), ((19, 3), c_show_behind), ((21, 2), c_show_reg), ((21, 3), c_show_behind)], [], [5, 12, 19, 26, 33, 40, 45, 51, 57, 63, 69, 71, 73], [], []⟩
theorem f_64 : Fn Q 64 f64 (codeOf f64) := ⟨by kernel_rfl, by kernel_rfl, by kernel_rfl, by kernel_rfl, by kernel_rfl⟩
noncomputable def show_cell (N : Nat) (x0 : api_Cell) : Option Rs :=
 bi (x0.Kind == 1) (
  on1 (show_text N x0.Ins) <| gg [pT] <| fun (x1 : ByteArray) => 
  on1 (show_behind N (bs [100, 111]) x1) <| gg [pT] <| fun (x2 : ByteArray) => 
  some (0, gT.dv x2 [])) <|
 bi (x0.Kind == 2) (
  on1 (show_text N x0.Ins) <| gg [pT] <| fun (x3 : ByteArray) => 
  on1 (show_behind N (bs [108, 111, 97, 100]) x3) <| gg [pT] <| fun (x4 : ByteArray) => 
  some (0, gT.dv x4 [])) <|
 bi (x0.Kind == 3) (
  on1 (show_text N x0.Ins) <| gg [pT] <| fun (x5 : ByteArray) => 
  on1 (show_behind N (bs [102, 101, 116, 99, 104]) x5) <| gg [pT] <| fun (x6 : ByteArray) => 
  some (0, gT.dv x6 [])) <|
 bi (x0.Kind == 4) (
  on1 (show_text N x0.Ins) <| gg [pT] <| fun (x7 : ByteArray) => 
  on1 (show_behind N (bs [115, 116, 111, 114, 101]) x7) <| gg [pT] <| fun (x8 : ByteArray) => 
  some (0, gT.dv x8 [])) <|
 bi (x0.Kind == 9) (
  on1 (show_text N x0.Ins) <| gg [pT] <| fun (x9 : ByteArray) => 
  on1 (show_behind N (bs [98, 114, 97, 110, 99, 104]) x9) <| gg [pT] <| fun (x10 : ByteArray) => 
  some (0, gT.dv x10 [])) <|
 bi (x0.Kind == 7) (
  on1 (isa_Right N x0.Ins) <| gg [pB] <| fun (x11 : Bool) => 
  bi (!x11) (
   some (0, gT.dv (bs []) [])) <|
  on1 (show_reg N x0.Ins.2.1) <| gg [pT] <| fun (x12 : ByteArray) => 
  on1 (show_behind N (bs [112, 111, 112]) x12) <| gg [pT] <| fun (x13 : ByteArray) => 
  some (0, gT.dv x13 [])) <|
 bi (x0.Kind == 5) (
  on1 (show_reg N x0.Reg) <| gg [pT] <| fun (x14 : ByteArray) => 
  on1 (show_behind N (bs [115, 101, 110, 100]) x14) <| gg [pT] <| fun (x15 : ByteArray) => 
  some (0, gT.dv x15 [])) <|
 bi (x0.Kind == 6) (
  on1 (show_reg N x0.Reg) <| gg [pT] <| fun (x16 : ByteArray) => 
  on1 (show_behind N (bs [114, 101, 99, 118]) x16) <| gg [pT] <| fun (x17 : ByteArray) => 
  some (0, gT.dv x17 [])) <|
 bi (x0.Kind == 8) (
  on1 (show_reg N x0.Reg) <| gg [pT] <| fun (x18 : ByteArray) => 
  on1 (show_behind N (bs [112, 117, 116]) x18) <| gg [pT] <| fun (x19 : ByteArray) => 
  some (0, gT.dv x19 [])) <|
 bi (x0.Kind == 10) (
  some (0, gT.dv (bs [102, 111, 108, 108, 111, 119]) [])) <|
 bi (x0.Kind == 11) (
  some (0, gT.dv (bs [106, 117, 109, 112]) [])) <|
 bi (x0.Kind == 12) (
  some (0, gT.dv (bs [104, 97, 108, 116]) [])) <|
 some (0, gT.dv (bs []) [])
noncomputable def X_show_cell (N : Nat) : CE := (c_show_cell, mkF [p_api_Cell] [pT] (show_cell N))
theorem Y_show_cell (N : Nat) : CEok Q (X_show_cell N) :=
 fnG (hi := h_show_cell) (l := [X_show_text N, X_show_behind N, X_isa_Right N, X_show_reg N]) (t := []) ti_ok hmix ⟨Y_show_text N, Y_show_behind N, Y_isa_Right N, Y_show_reg N, trivial⟩ ⟨rfl, rfl, rfl, rfl, rfl, rfl, rfl, rfl, rfl, rfl, rfl, rfl, rfl, rfl, rfl, rfl, rfl, rfl, rfl, trivial⟩ f_64 (by kernel_rfl) (by kernel_rfl) trivial fun ys => by kernel_rfl
def c_show_text_2 : CS := ⟨17, 44, ⟨[.one (.ifd 29 [tI, tI, tI, tI, tI, tI, tI, tI, tI])], []⟩, [.one (.d tS)], true, []⟩
def h_show_text_2 : Hi := ⟨[((6, 1), c_show_cell)], [], [12, 20], [], []⟩
noncomputable def show_text_2 (N : Nat) (x0 : api_Cell) : Option Rs :=
 on1 (show_cell N x0) <| gg [pT] <| fun (x1 : ByteArray) => 
 some (0, gT.dv x1 [])
noncomputable def X_show_text_2 (N : Nat) : CE := (c_show_text_2, mkF [p_api_Cell] [pT] (show_text_2 N))
theorem Y_show_text_2 (N : Nat) : CEok Q (X_show_text_2 N) :=
 fnG (hi := h_show_text_2) (l := [X_show_cell N]) (t := []) ti_ok hmix ⟨Y_show_cell N, trivial⟩ ⟨rfl, trivial⟩ f_44 (by kernel_rfl) (by kernel_rfl) trivial fun ys => by kernel_rfl
def c_show_Cell : CS := ⟨18, 21, ⟨[.agg q_0], []⟩, [.one (.d tS)], true, []⟩
def h_show_Cell : Hi := ⟨[((1, 2), c_show_text_2)], [], [], [], []⟩
theorem f_21 : Fn Q 21 f21 (codeOf f21) := ⟨by kernel_rfl, by kernel_rfl, by kernel_rfl, by kernel_rfl, by kernel_rfl⟩
noncomputable def show_Cell (N : Nat) (x0 : api_Cell) : Option Rs :=
 on1 (show_text_2 N x0) <| gg [pT] <| fun (x1 : ByteArray) => 
 some (0, gT.dv x1 [])
noncomputable def X_show_Cell (N : Nat) : CE := (c_show_Cell, mkF [p_api_Cell] [pT] (show_Cell N))
theorem Y_show_Cell (N : Nat) : CEok Q (X_show_Cell N) :=
 fnG (hi := h_show_Cell) (l := [X_show_text_2 N]) (t := []) ti_ok hmix ⟨Y_show_text_2 N, trivial⟩ ⟨rfl, trivial⟩ f_21 (by kernel_rfl) (by kernel_rfl) trivial fun ys => by kernel_rfl
def c_l9_alive : CS := ⟨19, 18, ⟨[], []⟩, [.one (.d tB)], true, []⟩
def h_l9_alive : Hi := ⟨[((1, 1), c_show_Ins), ((1, 5), c_show_Ins), ((1, 10), c_show_Cell)], [], [4, 9], [], []⟩
theorem f_18 : Fn Q 18 f18 (codeOf f18) := ⟨by kernel_rfl, by kernel_rfl, by kernel_rfl, by kernel_rfl, by kernel_rfl⟩
noncomputable def l9_alive (N : Nat)  : Option Rs :=
 on1 (show_Ins N (41, (0, unicode_Range16.z))) <| gg [pT] <| fun (x0 : ByteArray) => 
 bi (x0.toList == (bs [104, 97, 108, 116]).toList) (
  on1 (show_Ins N (26, (1, (2, (0, ((-4 : Int), ())))))) <| gg [pT] <| fun (x1 : ByteArray) => 
  bi (x1.toList == (bs [108, 119, 32, 114, 49, 44, 32, 45, 52, 40, 114, 50, 41]).toList) (
   on1 (show_Cell N (api_Cell.mk 5 (api_Ins.z) 3 0 0)) <| gg [pT] <| fun (x2 : ByteArray) => 
   some (0, gB.dv (x2.toList == (bs [115, 101, 110, 100, 32, 114, 51]).toList) [])) <|
  some (0, gB.dv false [])) <|
 some (0, gB.dv false [])
noncomputable def X_l9_alive (N : Nat) : CE := (c_l9_alive, mkF [] [pB] (l9_alive N))
theorem Y_l9_alive (N : Nat) : CEok Q (X_l9_alive N) :=
 fnG (hi := h_l9_alive) (l := [X_show_Ins N, X_show_Cell N]) (t := []) ti_ok hmix ⟨Y_show_Ins N, Y_show_Cell N, trivial⟩ ⟨rfl, rfl, rfl, trivial⟩ f_18 (by kernel_rfl) (by kernel_rfl) trivial fun ys => by kernel_rfl
def c_r1_Form : CS := ⟨20, 41, ⟨[.one (.d tI)], []⟩, [.one (.d tI)], true, []⟩
def h_r1_Form : Hi := ⟨[], [], [3, 6, 10, 13, 16, 19, 22, 25, 28], [], []⟩
theorem f_41 : Fn Q 41 f41 (codeOf f41) := ⟨by kernel_rfl, by kernel_rfl, by kernel_rfl, by kernel_rfl, by kernel_rfl⟩
noncomputable def r1_Form (N : Nat) (x0 : Int) : Option Rs :=
 bi (decide (x0 < 1)) (
  some (0, gI.dv 0 [])) <|
 bi (decide (x0 > 41)) (
  some (0, gI.dv 0 [])) <|
 bi (decide (x0 ≤ 16)) (
  some (0, gI.dv 1 [])) <|
 bi (decide (x0 ≤ 24)) (
  some (0, gI.dv 2 [])) <|
 bi (x0 == 25) (
  some (0, gI.dv 3 [])) <|
 bi (decide (x0 ≤ 30)) (
  some (0, gI.dv 4 [])) <|
 bi (decide (x0 ≤ 33)) (
  some (0, gI.dv 5 [])) <|
 bi (decide (x0 ≤ 39)) (
  some (0, gI.dv 6 [])) <|
 bi (x0 == 40) (
  some (0, gI.dv 7 [])) <|
 some (0, gI.dv 8 [])
noncomputable def X_r1_Form (N : Nat) : CE := (c_r1_Form, mkF [pI] [pI] (r1_Form N))
theorem Y_r1_Form (N : Nat) : CEok Q (X_r1_Form N) :=
 fnG (hi := h_r1_Form) (l := []) (t := []) ti_ok hmix trivial trivial f_41 (by kernel_rfl) (by kernel_rfl) trivial fun ys => by kernel_rfl
def c_r1_has : CS := ⟨21, 42, ⟨[.one (.d tI)], []⟩, [.one (.d tB), .one (.d tB), .one (.d tB), .one (.d tB)], false, []⟩
def h_r1_has : Hi := ⟨[], [], [7, 9, 12, 14, 17], [], []⟩
theorem f_42 : Fn Q 42 f42 (codeOf f42) := ⟨by kernel_rfl, by kernel_rfl, by kernel_rfl, by kernel_rfl, by kernel_rfl⟩
noncomputable def r1_has (N : Nat) (x0 : Int) : Option Rs :=
 bi (x0 == 1) (
  some (0, gB.dv true (gB.dv true (gB.dv true (gB.dv false []))))) <|
 bi (x0 == 2) (
  some (0, gB.dv true (gB.dv true (gB.dv false (gB.dv true []))))) <|
 bi (x0 == 4) (
  some (0, gB.dv true (gB.dv true (gB.dv false (gB.dv true []))))) <|
 bi (x0 == 3) (
  some (0, gB.dv true (gB.dv false (gB.dv false (gB.dv true []))))) <|
 bi (x0 == 5) (
  some (0, gB.dv false (gB.dv true (gB.dv true (gB.dv true []))))) <|
 bi (x0 == 6) (
  some (0, gB.dv false (gB.dv true (gB.dv true (gB.dv true []))))) <|
 bi (x0 == 7) (
  some (0, gB.dv false (gB.dv false (gB.dv false (gB.dv true []))))) <|
 some (0, gB.dv false (gB.dv false (gB.dv false (gB.dv false []))))
noncomputable def X_r1_has (N : Nat) : CE := (c_r1_has, mkF [pI] [pB, pB, pB, pB] (r1_has N))
theorem Y_r1_has (N : Nat) : CEok Q (X_r1_has N) :=
 fnG (hi := h_r1_has) (l := []) (t := []) ti_ok hmix trivial trivial f_42 (by kernel_rfl) (by kernel_rfl) trivial fun ys => by kernel_rfl
def c_r1_reg : CS := ⟨22, 43, ⟨[.one (.d tI), .one (.d tB)], []⟩, [.one (.d tB)], true, []⟩
def h_r1_reg : Hi := ⟨[], [], [7, 9, 13], [], []⟩
theorem f_43 : Fn Q 43 f43 (codeOf f43) := ⟨by kernel_rfl, by kernel_rfl, by kernel_rfl, by kernel_rfl, by kernel_rfl⟩
noncomputable def r1_reg (N : Nat) (x0 : Int) (x1 : Bool) : Option Rs :=
 bi (x0 == 0) (
  some (0, gB.dv true [])) <|
 bi x1 (
  bi (decide (x0 > 0)) (
   some (0, gB.dv (decide (x0 ≤ 15)) [])) <|
  some (0, gB.dv false [])) <|
 some (0, gB.dv false [])
noncomputable def X_r1_reg (N : Nat) : CE := (c_r1_reg, mkF [pI, pB] [pB] (r1_reg N))
theorem Y_r1_reg (N : Nat) : CEok Q (X_r1_reg N) :=
 fnG (hi := h_r1_reg) (l := []) (t := []) ti_ok hmix trivial trivial f_43 (by kernel_rfl) (by kernel_rfl) trivial fun ys => by kernel_rfl
def c_r1_RightIns : CS := ⟨23, 19, ⟨[.agg [.d tI, .d tI, .d tI, .d tI, .d tI]], []⟩, [.one (.d tB)], true, []⟩
def h_r1_RightIns : Hi := ⟨[((1, 2), c_r1_Form), ((2, 1), c_r1_has), ((3, 6), c_r1_reg), ((3, 13), c_r1_reg), ((3, 20), c_r1_reg)], [], [20, 27, 34, 41, 44, 49, 53, 58, 62, 66, 74], [], []⟩
theorem f_19 : Fn Q 19 f19 (codeOf f19) := ⟨by kernel_rfl, by kernel_rfl, by kernel_rfl, by kernel_rfl, by kernel_rfl⟩
noncomputable def r1_RightIns (N : Nat) (x0 : api_Ins) : Option Rs :=
 on1 (r1_Form N x0.1) <| gg [pI] <| fun (x1 : Int) => 
 on1 (r1_has N x1) <| gg [pB, pB, pB, pB] <| fun (x2 : Bool) (x3 : Bool) (x4 : Bool) (x5 : Bool) => 
 bi (x1 == 0) (
  some (0, gB.dv false [])) <|
 on1 (r1_reg N x0.2.1 x2) <| gg [pB] <| fun (x6 : Bool) => 
 bi (!x6) (
  some (0, gB.dv false [])) <|
 on1 (r1_reg N x0.2.2.1 x3) <| gg [pB] <| fun (x7 : Bool) => 
 bi (!x7) (
  some (0, gB.dv false [])) <|
 on1 (r1_reg N x0.2.2.2.1 x4) <| gg [pB] <| fun (x8 : Bool) => 
 bi (!x8) (
  some (0, gB.dv false [])) <|
 bi (!x5) (
  bi (x0.2.2.2.2.1 != 0) (
   some (0, gB.dv false [])) <|
  bi (x0.1 == 22) (
   bi (decide (x0.2.2.2.2.1 ≥ 0)) (
    some (0, gB.dv (decide (x0.2.2.2.2.1 ≤ 31)) [])) <|
   some (0, gB.dv false [])) <|
  bi (x0.1 == 23) (
   bi (decide (x0.2.2.2.2.1 ≥ 0)) (
    some (0, gB.dv (decide (x0.2.2.2.2.1 ≤ 31)) [])) <|
   some (0, gB.dv false [])) <|
  bi (x0.1 == 24) (
   bi (decide (x0.2.2.2.2.1 ≥ 0)) (
    some (0, gB.dv (decide (x0.2.2.2.2.1 ≤ 31)) [])) <|
   some (0, gB.dv false [])) <|
  bi (decide (x0.2.2.2.2.1 ≥ (-8192 : Int))) (
   some (0, gB.dv (decide (x0.2.2.2.2.1 ≤ 8191)) [])) <|
  some (0, gB.dv false [])) <|
 bi (x0.1 == 22) (
  bi (decide (x0.2.2.2.2.1 ≥ 0)) (
   some (0, gB.dv (decide (x0.2.2.2.2.1 ≤ 31)) [])) <|
  some (0, gB.dv false [])) <|
 bi (x0.1 == 23) (
  bi (decide (x0.2.2.2.2.1 ≥ 0)) (
   some (0, gB.dv (decide (x0.2.2.2.2.1 ≤ 31)) [])) <|
  some (0, gB.dv false [])) <|
 bi (x0.1 == 24) (
  bi (decide (x0.2.2.2.2.1 ≥ 0)) (
   some (0, gB.dv (decide (x0.2.2.2.2.1 ≤ 31)) [])) <|
  some (0, gB.dv false [])) <|
 bi (decide (x0.2.2.2.2.1 ≥ (-8192 : Int))) (
  some (0, gB.dv (decide (x0.2.2.2.2.1 ≤ 8191)) [])) <|
 some (0, gB.dv false [])
noncomputable def X_r1_RightIns (N : Nat) : CE := (c_r1_RightIns, mkF [p_api_Ins] [pB] (r1_RightIns N))
theorem Y_r1_RightIns (N : Nat) : CEok Q (X_r1_RightIns N) :=
 fnG (hi := h_r1_RightIns) (l := [X_r1_Form N, X_r1_has N, X_r1_reg N]) (t := []) ti_ok hmix ⟨Y_r1_Form N, Y_r1_has N, Y_r1_reg N, trivial⟩ ⟨rfl, rfl, rfl, rfl, rfl, trivial⟩ f_19 (by kernel_rfl) (by kernel_rfl) trivial fun ys => by kernel_rfl
def c_l9_ShowApart : CS := ⟨24, 3, ⟨[.agg [.d tI, .d tI, .d tI, .d tI, .d tI], .agg [.d tI, .d tI, .d tI, .d tI, .d tI], .one (.d tI), .one (.d tI)], []⟩, [.one (.d tB)], true, []⟩
def h_l9_ShowApart : Hi := ⟨[((1, 0), c_l9_alive), ((2, 4), c_r1_RightIns), ((2, 9), c_r1_RightIns), ((4, 1), c_show_Ins), ((5, 1), c_show_Ins), ((6, 3), c_show_Cell), ((7, 3), c_show_Cell), ((8, 27), c_show_Cell)], [], [17, 22, 27, 31, 35, 39, 42, 58, 67, 71, 80], [], []⟩
theorem f_3 : Fn Q 3 f3 (codeOf f3) := ⟨by kernel_rfl, by kernel_rfl, by kernel_rfl, by kernel_rfl, by kernel_rfl⟩
noncomputable def l9_ShowApart (N : Nat) (x0 : api_Ins) (x1 : api_Ins) (x2 : Int) (x3 : Int) : Option Rs :=
 on1 (l9_alive N ) <| gg [pB] <| fun (x4 : Bool) => 
 bi (!x4) (
  some (0, gB.dv x4 [])) <|
 on1 (r1_RightIns N x0) <| gg [pB] <| fun (x5 : Bool) => 
 bi (!x5) (
  some (0, gB.dv x4 [])) <|
 on1 (r1_RightIns N x1) <| gg [pB] <| fun (x6 : Bool) => 
 bi (!x6) (
  some (0, gB.dv x4 [])) <|
 bi (decide (x2 < 0)) (
  some (0, gB.dv x4 [])) <|
 bi (decide (x2 > 15)) (
  some (0, gB.dv x4 [])) <|
 bi (decide (x3 < 0)) (
  some (0, gB.dv x4 [])) <|
 bi (decide (x3 > 15)) (
  some (0, gB.dv x4 [])) <|
 on1 (show_Ins N x0) <| gg [pT] <| fun (x7 : ByteArray) => 
 on1 (show_Ins N x1) <| gg [pT] <| fun (x8 : ByteArray) => 
 on1 (show_Cell N (api_Cell.mk 8 (api_Ins.z) x2 x3 0)) <| gg [pT] <| fun (x9 : ByteArray) => 
 on1 (show_Cell N (api_Cell.mk 8 (api_Ins.z) x3 0 x2)) <| gg [pT] <| fun (x10 : ByteArray) => 
 bi (!(x7.toList == (bs []).toList)) (
  bi ((x7.toList == x8.toList) == ((x0.1 == x1.1) && ((x0.2.1 == x1.2.1) && ((x0.2.2.1 == x1.2.2.1) && ((x0.2.2.2.1 == x1.2.2.2.1) && (x0.2.2.2.2.1 == x1.2.2.2.2.1)))))) (
   bi (!(x9.toList == (bs []).toList)) (
    bi ((x9.toList == x10.toList) == (x2 == x3)) (
     on1 (show_Cell N (api_Cell.mk 1 x0 0 0 0)) <| gg [pT] <| fun (x11 : ByteArray) => 
     gd (decide ((bs [100, 111, 32]).size + x7.size ≤ reach)) <|
     some (0, gB.dv (x11.toList == ((bs [100, 111, 32]) ++ x7).toList) [])) <|
    some (0, gB.dv false [])) <|
   some (0, gB.dv false [])) <|
  some (0, gB.dv false [])) <|
 some (0, gB.dv false [])
noncomputable def X_l9_ShowApart (N : Nat) : CE := (c_l9_ShowApart, mkF [p_api_Ins, p_api_Ins, pI, pI] [pB] (l9_ShowApart N))
theorem Y_l9_ShowApart (N : Nat) : CEok Q (X_l9_ShowApart N) :=
 fnG (hi := h_l9_ShowApart) (l := [X_l9_alive N, X_r1_RightIns N, X_show_Ins N, X_show_Cell N]) (t := []) ti_ok hmix ⟨Y_l9_alive N, Y_r1_RightIns N, Y_show_Ins N, Y_show_Cell N, trivial⟩ ⟨rfl, rfl, rfl, rfl, rfl, rfl, rfl, rfl, trivial⟩ f_3 (by kernel_rfl) (by kernel_rfl) trivial fun ys => by kernel_rfl
end Go.Proofs.Zs
