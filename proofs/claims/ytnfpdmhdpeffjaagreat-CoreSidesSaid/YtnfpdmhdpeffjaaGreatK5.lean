import Derived.Test.YtnfpdmhdpeffjaaGreatK4
set_option linter.unusedSimpArgs false
set_option linter.unusedVariables false
/- What functions of the program compute, as plain functions. -/
set_option linter.unusedVariables false
set_option maxRecDepth 100000
namespace Go.Proofs.Zz
open Go Go.Proofs.Tryz
def c_epipe_At_A : CS := ⟨150, 148, ⟨[.agg [.d (.sl t_api_Block), .d (.ar 16 tI)], .one (.p 0 0 [1, 16, 16, 1, 1, 1, 1, 1, 1, 16, 16, 1, 1, 1, 1, 1, 1, 1, 1, 1, 1, 1, 1, 1, 1, 1, 1, 1, 1, 1, 1, 1]), .one (.p 0 1 [16, 16, 1, 1, 1, 1, 1, 1]), .one (.d tB)], [q_1]⟩, [.agg q_2, .one (.d tI), .one (.d tB)], false, [q_1]⟩
def h_epipe_At_A : Hi := ⟨[((3, 6), c_front_Settle), ((5, 3), c_front_Next), ((7, 9), c_epipe_Trap), ((8, 6), c_epipe_Stopped)], [], [20, 30, 54, 68], [], []⟩
noncomputable def epipe_At_A (N : Nat) (x0 : api_Split) (x1 : Bool) (x2 : api_State) : Option Rs :=
 bi x2.A.Halted (
  some (0, g_api_Cell.dv (api_Cell.z) (gI.dv 0 (gB.dv false (g_api_State.dv x2 []))))) <|
 bi (decide (x2.A.Wait > x2.Cycle)) (
  some (0, g_api_Cell.dv (api_Cell.z) (gI.dv 0 (gB.dv false (g_api_State.dv x2 []))))) <|
 on1 (front_Settle N x0 x1 x2.A.Pos) <| gg [p_api_Pos, pB] <| fun (x3 : api_Pos) (x4 : Bool) => 
 on1 (front_Next N x0 x1 x3) <| gg [p_api_Cell, pI, pB] <| fun (x5 : api_Cell) (x6 : Int) (x7 : Bool) => 
 bi x4 (
  gd (idx x3.Block (List.length x0.Blocks)) <|
  on1 (epipe_Trap N 4 x6 ((List.getD x0.Blocks x3.Block.toNat api_Block.z).2.1) ({ x2 with A := { x2.A with Pos := x3 } } : api_State)) <| gg [p_api_State] <| fun (x8 : api_State) => 
  bi x7 (
   on1 (epipe_Stopped N x8 x6) <| gg [pB] <| fun (x9 : Bool) => 
   some (0, g_api_Cell.dv x5 (gI.dv x6 (gB.dv (!x9) (g_api_State.dv x8 []))))) <|
  some (0, g_api_Cell.dv x5 (gI.dv x6 (gB.dv false (g_api_State.dv x8 []))))) <|
 bi x7 (
  on1 (epipe_Stopped N ({ x2 with A := { x2.A with Pos := x3 } } : api_State) x6) <| gg [pB] <| fun (x10 : Bool) => 
  some (0, g_api_Cell.dv x5 (gI.dv x6 (gB.dv (!x10) (g_api_State.dv ({ x2 with A := { x2.A with Pos := x3 } } : api_State) []))))) <|
 some (0, g_api_Cell.dv x5 (gI.dv x6 (gB.dv false (g_api_State.dv ({ x2 with A := { x2.A with Pos := x3 } } : api_State) []))))
noncomputable def X_epipe_At_A (N : Nat) : CE := (c_epipe_At_A, mkF [p_api_Split, pB, p_api_State] [p_api_Cell, pI, pB, p_api_State] (epipe_At_A N))
theorem Y_epipe_At_A (N : Nat) : CEok Q (X_epipe_At_A N) :=
 fnG (hi := h_epipe_At_A) (l := [X_front_Settle N, X_front_Next N, X_epipe_Trap N, X_epipe_Stopped N]) (t := []) ti_ok hmix ⟨Y_front_Settle N, Y_front_Next N, Y_epipe_Trap N, Y_epipe_Stopped N, trivial⟩ ⟨rfl, rfl, rfl, rfl, trivial⟩ f_148 (by kernel_rfl) (by kernel_rfl) trivial fun ys => by kernel_rfl
def c_apipe_reaches : CS := ⟨151, 107, ⟨[.one (.d tI), .one (.d tI), .one (.d tI)], []⟩, [.one (.d tB)], true, []⟩
def h_apipe_reaches : Hi := ⟨[], [], [9, 12, 24], [], []⟩
theorem f_107 : Fn Q 107 f107 (codeOf f107) := ⟨by kernel_rfl, by kernel_rfl, by kernel_rfl, by kernel_rfl, by kernel_rfl⟩
noncomputable def apipe_reaches (N : Nat) (x0 : Int) (x1 : Int) (x2 : Int) : Option Rs :=
 bi (decide (x0 ≥ x1)) (
  bi (decide (x2 ≤ 0)) (
   some (0, gB.dv true [])) <|
  some (0, gB.dv (decide ((w.u64 ((w.u64 x0) - (w.u64 x1))) ≥ (w.u64 x2))) [])) <|
 bi (decide (x2 < 0)) (
  some (0, gB.dv (decide ((w.u64 ((w.u64 x1) - (w.u64 x0))) ≤ (w.u64 (0 - (w.u64 x2))))) [])) <|
 some (0, gB.dv false [])
noncomputable def X_apipe_reaches (N : Nat) : CE := (c_apipe_reaches, mkF [pI, pI, pI] [pB] (apipe_reaches N))
theorem Y_apipe_reaches (N : Nat) : CEok Q (X_apipe_reaches N) :=
 fnG (hi := h_apipe_reaches) (l := []) (t := []) ti_ok hmix trivial trivial f_107 (by kernel_rfl) (by kernel_rfl) trivial fun ys => by kernel_rfl
def c_apipe_Ahead : CS := ⟨152, 48, ⟨[.agg q_5, .agg [.d (.sl t_api_Block), .d (.ar 16 tI)], .agg q_0], []⟩, [.one (.d tB)], true, []⟩
def h_apipe_Ahead : Hi := ⟨[((3, 4), c_front_Next), ((4, 4), c_front_Next), ((5, 9), c_apipe_reaches)], [], [15, 35, 38], [], []⟩
theorem f_48 : Fn Q 48 f48 (codeOf f48) := ⟨by kernel_rfl, by kernel_rfl, by kernel_rfl, by kernel_rfl, by kernel_rfl⟩
noncomputable def apipe_Ahead (N : Nat) (x0 : api_Config) (x1 : api_Split) (x2 : api_State) : Option Rs :=
 bi x2.E.Halted (
  some (0, gB.dv false [])) <|
 on1 (front_Next N x1 true x2.E.Pos) <| gg [p_api_Cell, pI, pB] <| fun (x3 : api_Cell) (x4 : Int) (x5 : Bool) => 
 on1 (front_Next N x1 false x2.A.Pos) <| gg [p_api_Cell, pI, pB] <| fun (x6 : api_Cell) (x7 : Int) (x8 : Bool) => 
 bi x5 (
  bi x8 (
   on1 (apipe_reaches N x7 x4 x0.Slip) <| gg [pB] <| fun (x9 : Bool) => 
   some (0, gB.dv x9 [])) <|
  some (0, gB.dv false [])) <|
 some (0, gB.dv false [])
noncomputable def X_apipe_Ahead (N : Nat) : CE := (c_apipe_Ahead, mkF [p_api_Config, p_api_Split, p_api_State] [pB] (apipe_Ahead N))
theorem Y_apipe_Ahead (N : Nat) : CEok Q (X_apipe_Ahead N) :=
 fnG (hi := h_apipe_Ahead) (l := [X_front_Next N, X_apipe_reaches N]) (t := []) ti_ok hmix ⟨Y_front_Next N, Y_apipe_reaches N, trivial⟩ ⟨rfl, rfl, rfl, trivial⟩ f_48 (by kernel_rfl) (by kernel_rfl) trivial fun ys => by kernel_rfl
def c_epipe_Set_A : CS := ⟨153, 150, ⟨[.one (.p 0 1 [16, 16, 1, 1, 1, 1, 1, 1]), .one (.d tI), .one (.d tW), .one (.d tI)], [q_1]⟩, [], false, [q_1]⟩
def h_epipe_Set_A : Hi := ⟨[], [], [10, 13], [], []⟩
noncomputable def epipe_Set_A (N : Nat) (x0 : Int) (x1 : Int) (x2 : Int) (x3 : api_State) : Option Rs :=
 bi (decide (x0 ≥ 1)) (
  bi (decide (x0 ≤ 15)) (
   gd (idx x0 16) <|
   gd (idx x0 16) <|
   some (0, g_api_State.dv ({ x3 with A := { x3.A with Regs := (List.set x3.A.Regs x0.toNat x1), Ready := (List.set x3.A.Ready x0.toNat x2) } } : api_State) [])) <|
  some (0, g_api_State.dv x3 [])) <|
 some (0, g_api_State.dv x3 [])
noncomputable def X_epipe_Set_A (N : Nat) : CE := (c_epipe_Set_A, mkF [pI, pW, pI, p_api_State] [p_api_State] (epipe_Set_A N))
theorem Y_epipe_Set_A (N : Nat) : CEok Q (X_epipe_Set_A N) :=
 fnG (hi := h_epipe_Set_A) (l := []) (t := []) ti_ok hmix trivial trivial f_150 (by kernel_rfl) (by kernel_rfl) trivial fun ys => by kernel_rfl
def c_epipe_Behind_A : CS := ⟨154, 151, ⟨[.one (.p 0 1 [16, 16, 1, 1, 1, 1, 1, 1])], [q_1]⟩, [], false, [q_1]⟩
def h_epipe_Behind_A : Hi := ⟨[], [], [], [], []⟩
noncomputable def epipe_Behind_A (N : Nat) (x0 : api_State) : Option Rs :=
 some (0, g_api_State.dv ({ x0 with A := { x0.A with Pos := { x0.A.Pos with Index := (w.i64 (x0.A.Pos.Index + 1)) }, Done := (w.i64 (x0.A.Done + 1)) } } : api_State) [])
noncomputable def X_epipe_Behind_A (N : Nat) : CE := (c_epipe_Behind_A, mkF [p_api_State] [p_api_State] (epipe_Behind_A N))
theorem Y_epipe_Behind_A (N : Nat) : CEok Q (X_epipe_Behind_A N) :=
 fnG (hi := h_epipe_Behind_A) (l := []) (t := []) ti_ok hmix trivial trivial f_151 (by kernel_rfl) (by kernel_rfl) trivial fun ys => by kernel_rfl
def c_epipe_Do_A : CS := ⟨155, 149, ⟨[.agg q_5, .one (.p 0 0 [1, 16, 16, 1, 1, 1, 1, 1, 1, 16, 16, 1, 1, 1, 1, 1, 1, 1, 1, 1, 1, 1, 1, 1, 1, 1, 1, 1, 1, 1, 1, 1]), .one (.p 0 1 [16, 16, 1, 1, 1, 1, 1, 1]), .agg q_2, .one (.d tI)], [q_1]⟩, [], false, [q_1]⟩
def h_epipe_Do_A : Hi := ⟨[((1, 6), c_epipe_Get), ((1, 11), c_epipe_Get), ((1, 12), c_alu_Do), ((3, 4), c_epipe_Trap), ((4, 13), c_alu_Latency), ((4, 15), c_epipe_Set_A), ((5, 1), c_epipe_Behind_A)], [], [29], [], []⟩
noncomputable def epipe_Do_A (N : Nat) (x0 : api_Config) (x1 : api_Cell) (x2 : Int) (x3 : api_State) : Option Rs :=
 on1 (epipe_Get N x3.A x1.2.1.2.2.1) <| gg [pW] <| fun (x4 : Int) => 
 on1 (epipe_Get N x3.A x1.2.1.2.2.2.1) <| gg [pW] <| fun (x5 : Int) => 
 on1 (alu_Do N x1.2.1 x4 x5) <| gg [pW, pB] <| fun (x6 : Int) (x7 : Bool) => 
 bi (!x7) (
  on1 (epipe_Trap N 3 x2 x1.2.2.2.1 x3) <| gg [p_api_State] <| fun (x8 : api_State) => 
  some (0, g_api_State.dv x8 [])) <|
 on1 (alu_Latency N x0 x1.2.1.1) <| gg [pI] <| fun (x9 : Int) => 
 on1 (epipe_Set_A N x1.2.1.2.1 x6 (w.i64 (x3.Cycle + x9)) x3) <| gg [p_api_State] <| fun (x10 : api_State) => 
 on1 (epipe_Behind_A N x10) <| gg [p_api_State] <| fun (x11 : api_State) => 
 some (0, g_api_State.dv x11 [])
noncomputable def X_epipe_Do_A (N : Nat) : CE := (c_epipe_Do_A, mkF [p_api_Config, p_api_Cell, pI, p_api_State] [p_api_State] (epipe_Do_A N))
theorem Y_epipe_Do_A (N : Nat) : CEok Q (X_epipe_Do_A N) :=
 fnG (hi := h_epipe_Do_A) (l := [X_epipe_Get N, X_alu_Do N, X_epipe_Trap N, X_alu_Latency N, X_epipe_Set_A N, X_epipe_Behind_A N]) (t := []) ti_ok hmix ⟨Y_epipe_Get N, Y_alu_Do N, Y_epipe_Trap N, Y_alu_Latency N, Y_epipe_Set_A N, Y_epipe_Behind_A N, trivial⟩ ⟨rfl, rfl, rfl, rfl, rfl, rfl, rfl, trivial⟩ f_149 (by kernel_rfl) (by kernel_rfl) trivial fun ys => by kernel_rfl
def c_apipe_pipe_address : CS := ⟨156, 227, ⟨[.one (.p 0 0 [1, 1, 1, 1, 1, 1, 1, 1, 1, 1, 1, 1, 1, 16, 1, 1, 1, 1, 1, 1, 1, 1, 1, 1, 1])], [q_7, q_1]⟩, [.one (.d tI), .one (.d tB)], false, [q_7, q_1]⟩
def h_apipe_pipe_address : Hi := ⟨[((2, 8), c_epipe_Get), ((2, 11), c_word_Of), ((3, 2), c_bytes_Size), ((3, 12), c_bytes_Check), ((5, 14), c_epipe_Trap)], [], [39], [], []⟩
theorem f_227 : Fn Q 227 f227 (codeOf f227) := ⟨by kernel_rfl, by kernel_rfl, by kernel_rfl, by kernel_rfl, by kernel_rfl⟩
noncomputable def apipe_pipe_address (N : Nat) (x0 : api_Config) (x1 : api_Split) (x2 : api_Cell) (x3 : Int) (x4 : api_State) : Option Rs :=
 on1 (epipe_Get N x4.A x2.2.1.2.2.1) <| gg [pW] <| fun (x5 : Int) => 
 on1 (word_Of N x2.2.1.2.2.2.2.1) <| gg [pW] <| fun (x6 : Int) => 
 on1 (bytes_Size N x2.2.1.1) <| gg [pI] <| fun (x7 : Int) => 
 on1 (bytes_Check N x7 (w.u32 (x5 + x6)) (len x4.Mem)) <| gg [pI] <| fun (x8 : Int) => 
 bi (x8 != 0) (
  on1 (epipe_Trap N x8 x3 x2.2.2.2.1 x4) <| gg [p_api_State] <| fun (x9 : api_State) => 
  some (0, gI.dv 0 (gB.dv false (g_api_Config.dv x0 (g_api_Split.dv x1 (g_api_Cell.dv x2 (gI.dv x3 (g_api_State.dv x9 [])))))))) <|
 some (0, gI.dv (w.i64 (w.u32 (x5 + x6))) (gB.dv true (g_api_Config.dv x0 (g_api_Split.dv x1 (g_api_Cell.dv x2 (gI.dv x3 (g_api_State.dv x4 [])))))))
noncomputable def X_apipe_pipe_address (N : Nat) : CE := (c_apipe_pipe_address, mkF [p_api_Config, p_api_Split, p_api_Cell, pI, p_api_State] [pI, pB, p_api_Config, p_api_Split, p_api_Cell, pI, p_api_State] (apipe_pipe_address N))
theorem Y_apipe_pipe_address (N : Nat) : CEok Q (X_apipe_pipe_address N) :=
 fnG (hi := h_apipe_pipe_address) (l := [X_epipe_Get N, X_word_Of N, X_bytes_Size N, X_bytes_Check N, X_epipe_Trap N]) (t := []) ti_ok hmix ⟨Y_epipe_Get N, Y_word_Of N, Y_bytes_Size N, Y_bytes_Check N, Y_epipe_Trap N, trivial⟩ ⟨rfl, rfl, rfl, rfl, rfl, trivial⟩ f_227 (by kernel_rfl) (by kernel_rfl) trivial fun ys => by kernel_rfl
def c_bytes_before : CS := ⟨157, 271, ⟨[.one (.d tI), .one (.d tI), .one (.d tI)], []⟩, [.one (.d tB)], true, []⟩
def h_bytes_before : Hi := ⟨[], [], [10], [], []⟩
theorem f_271 : Fn Q 271 f271 (codeOf f271) := ⟨by kernel_rfl, by kernel_rfl, by kernel_rfl, by kernel_rfl, by kernel_rfl⟩
noncomputable def bytes_before (N : Nat) (x0 : Int) (x1 : Int) (x2 : Int) : Option Rs :=
 bi (decide (x0 ≤ x2)) (
  some (0, gB.dv (decide ((w.u64 ((w.u64 x2) - (w.u64 x0))) < (w.u64 x1))) [])) <|
 some (0, gB.dv false [])
noncomputable def X_bytes_before (N : Nat) : CE := (c_bytes_before, mkF [pI, pI, pI] [pB] (bytes_before N))
theorem Y_bytes_before (N : Nat) : CEok Q (X_bytes_before N) :=
 fnG (hi := h_bytes_before) (l := []) (t := []) ti_ok hmix trivial trivial f_271 (by kernel_rfl) (by kernel_rfl) trivial fun ys => by kernel_rfl
def c_bytes_Overlap : CS := ⟨158, 241, ⟨[.one (.d tI), .one (.d tI), .one (.d tI), .one (.d tI)], []⟩, [.one (.d tB)], true, []⟩
def h_bytes_Overlap : Hi := ⟨[((1, 10), c_bytes_before), ((1, 15), c_bytes_before)], [], [11, 15, 20], [], []⟩
theorem f_241 : Fn Q 241 f241 (codeOf f241) := ⟨by kernel_rfl, by kernel_rfl, by kernel_rfl, by kernel_rfl, by kernel_rfl⟩
noncomputable def bytes_Overlap (N : Nat) (x0 : Int) (x1 : Int) (x2 : Int) (x3 : Int) : Option Rs :=
 bi (decide (x1 ≥ 1)) (
  bi (decide (x3 ≥ 1)) (
   on1 (bytes_before N x0 x1 x2) <| gg [pB] <| fun (x4 : Bool) => 
   bi x4 (
    some (0, gB.dv true [])) <|
   on1 (bytes_before N x2 x3 x0) <| gg [pB] <| fun (x5 : Bool) => 
   some (0, gB.dv x5 [])) <|
  some (0, gB.dv false [])) <|
 some (0, gB.dv false [])
noncomputable def X_bytes_Overlap (N : Nat) : CE := (c_bytes_Overlap, mkF [pI, pI, pI, pI] [pB] (bytes_Overlap N))
theorem Y_bytes_Overlap (N : Nat) : CEok Q (X_bytes_Overlap N) :=
 fnG (hi := h_bytes_Overlap) (l := [X_bytes_before N]) (t := []) ti_ok hmix ⟨Y_bytes_before N, trivial⟩ ⟨rfl, rfl, trivial⟩ f_241 (by kernel_rfl) (by kernel_rfl) trivial fun ys => by kernel_rfl
def c_saq_Search : CS := ⟨159, 228, ⟨[.one (.d (.sl t_api_Entry)), .one (.d tI), .one (.d tI)], []⟩, [.agg [.d tI, .d tI, .d tI, .d tB, .d tW], .one (.d tB)], false, []⟩
def s_saq_Search_0 : LS := ⟨⟨[.one (.d (.sl t_api_Entry)), .one (.d tI), .one (.d tI), .no, .no, .no, .one (.p 0 0 [1, 1, 1, 1, 1]), .no, .one (.d tI)] ++ nos 25, [[.d tI, .d tI, .d tI, .d tB, .d tW]]⟩, [(0, ⟨nos 6 ++ [.one (.p 0 0 [1, 1, 1, 1, 1]), .one (.d tB)] ++ nos 26, [[.d tI, .d tI, .d tI, .d tB, .d tW]]⟩), (1, ⟨nos 6 ++ [.one (.p 0 0 [1, 1, 1, 1, 1])] ++ nos 27, [[.d tI, .d tI, .d tI, .d tB, .d tW]]⟩)]⟩
def h_saq_Search : Hi := ⟨[((4, 12), c_bytes_Overlap)], [(0, s_saq_Search_0)], [13, 28], [], []⟩
theorem f_228 : Fn Q 228 f228 (codeOf f228) := ⟨by kernel_rfl, by kernel_rfl, by kernel_rfl, by kernel_rfl, by kernel_rfl⟩
noncomputable def T_saq_Search (N : Nat) : List CE := [X_bytes_Overlap N]
theorem TT_saq_Search (N : Nat) : AllP (CEok Q) (T_saq_Search N) := ⟨Y_bytes_Overlap N, trivial⟩
theorem A_saq_Search (N : Nat) : AllP (fun e => lookC (T_saq_Search N) e.2.id = some e.2) h_saq_Search.cs := ⟨rfl, trivial⟩
noncomputable def saq_Search_r0 (N : Nat) (again : Fn' (Option Rs) [pD (.sl t_api_Entry), pI, pI, pI, p_api_Entry]) (x0 : List api_Entry) (x1 : Int) (x2 : Int) (x3 : Int) (x4 : api_Entry) : Option Rs :=
 bi (decide (x3 ≥ 0)) (
  gd (idx x3 (List.length x0)) <|
  gd (idx x3 (List.length x0)) <|
  on1 (bytes_Overlap N ((List.getD x0 x3.toNat api_Entry.z).1) ((List.getD x0 x3.toNat api_Entry.z).2.1) x1 x2) <| gg [pB] <| fun (x5 : Bool) => 
  bi x5 (
   gd (idx x3 (List.length x0)) <|
   some (0, gB.dv true (g_api_Entry.dv (List.getD x0 x3.toNat api_Entry.z) []))) <|
  again x0 x1 x2 (w.i64 (x3 - 1)) x4) <|
 some (1, g_api_Entry.dv x4 [])
noncomputable def saq_Search_l0 (N : Nat) : Nat → Fn' (Option Rs) [pD (.sl t_api_Entry), pI, pI, pI, p_api_Entry] := lpG (saq_Search_r0 N)
noncomputable def L_saq_Search_0 (N : Nat) : LE := (0, mkM [pD (.sl t_api_Entry), pI, pI, pI, p_api_Entry] [(0, [pB, p_api_Entry]), (1, [p_api_Entry])] (saq_Search_l0 N N))
theorem K_saq_Search_0 (N : Nat) : LEok Q h_saq_Search (bodOf f228) f228.ntmps 0 (L_saq_Search_0 N) :=
 loopG (hi := h_saq_Search) (l := T_saq_Search N) (t := []) (r := saq_Search_r0 N) ti_ok hmix (TT_saq_Search N) (A_saq_Search N) f_228 trivial (ls := s_saq_Search_0) (body := bodyAt f228 0) (by kernel_rfl) (by kernel_rfl) fun A ys => by kernel_rfl
noncomputable def saq_Search (N : Nat) (x0 : List api_Entry) (x1 : Int) (x2 : Int) : Option Rs :=
 onB 0 1 (saq_Search_l0 N N x0 x1 x2 (w.i64 ((len x0) - 1)) (api_Entry.z)) (gg [pB, p_api_Entry] <| fun (x3 : Bool) (x4 : api_Entry) => 
  some (0, g_api_Entry.dv x4 (gB.dv x3 []))) <| gg [p_api_Entry] <| fun (x5 : api_Entry) => 
 some (0, g_api_Entry.dv (api_Entry.z) (gB.dv false []))
noncomputable def X_saq_Search (N : Nat) : CE := (c_saq_Search, mkF [pD (.sl t_api_Entry), pI, pI] [p_api_Entry, pB] (saq_Search N))
theorem Y_saq_Search (N : Nat) : CEok Q (X_saq_Search N) :=
 fnG (hi := h_saq_Search) (l := T_saq_Search N) (t := [L_saq_Search_0 N]) ti_ok hmix (TT_saq_Search N) (A_saq_Search N) f_228 (by kernel_rfl) (by kernel_rfl) ⟨K_saq_Search_0 N, trivial⟩ fun ys => by kernel_rfl
def c_bytes_Sign : CS := ⟨160, 265, ⟨[.one (.d tI), .one (.d tW)], []⟩, [.one (.d tW)], true, []⟩
def h_bytes_Sign : Hi := ⟨[], [], [6, 12], [], []⟩
theorem f_265 : Fn Q 265 f265 (codeOf f265) := ⟨by kernel_rfl, by kernel_rfl, by kernel_rfl, by kernel_rfl, by kernel_rfl⟩
noncomputable def bytes_Sign (N : Nat) (x0 : Int) (x1 : Int) : Option Rs :=
 bi (x0 == 27) (
  some (0, gW.dv (w.u32 (w.i32 (w.i16 x1))) [])) <|
 bi (x0 == 29) (
  some (0, gW.dv (w.u32 (w.i32 (w.i8 x1))) [])) <|
 some (0, gW.dv x1 [])
noncomputable def X_bytes_Sign (N : Nat) : CE := (c_bytes_Sign, mkF [pI, pW] [pW] (bytes_Sign N))
theorem Y_bytes_Sign (N : Nat) : CEok Q (X_bytes_Sign N) :=
 fnG (hi := h_bytes_Sign) (l := []) (t := []) ti_ok hmix trivial trivial f_265 (by kernel_rfl) (by kernel_rfl) trivial fun ys => by kernel_rfl
def c_saq_Bypass : CS := ⟨161, 230, ⟨[.agg [.d tI, .d tI, .d tI, .d tB, .d tW], .one (.d tI), .one (.d tI)], []⟩, [.one (.d tW), .one (.d tB)], false, []⟩
def h_saq_Bypass : Hi := ⟨[((1, 1), c_bytes_Size), ((4, 3), c_bytes_Sign)], [], [13, 17, 22, 28, 33], [], []⟩
theorem f_230 : Fn Q 230 f230 (codeOf f230) := ⟨by kernel_rfl, by kernel_rfl, by kernel_rfl, by kernel_rfl, by kernel_rfl⟩
noncomputable def saq_Bypass (N : Nat) (x0 : api_Entry) (x1 : Int) (x2 : Int) : Option Rs :=
 on1 (bytes_Size N x1) <| gg [pI] <| fun (x3 : Int) => 
 bi (decide (x1 < 26)) (
  some (0, gW.dv 0 (gB.dv false []))) <|
 bi (decide (x1 > 30)) (
  some (0, gW.dv 0 (gB.dv false []))) <|
 bi (!x0.2.2.2.1) (
  some (0, gW.dv 0 (gB.dv false []))) <|
 bi (x0.1 != x2) (
  some (0, gW.dv 0 (gB.dv false []))) <|
 bi (x0.2.1 != x3) (
  some (0, gW.dv 0 (gB.dv false []))) <|
 on1 (bytes_Sign N x1 x0.2.2.2.2.1) <| gg [pW] <| fun (x4 : Int) => 
 some (0, gW.dv x4 (gB.dv true []))
noncomputable def X_saq_Bypass (N : Nat) : CE := (c_saq_Bypass, mkF [p_api_Entry, pI, pI] [pW, pB] (saq_Bypass N))
theorem Y_saq_Bypass (N : Nat) : CEok Q (X_saq_Bypass N) :=
 fnG (hi := h_saq_Bypass) (l := [X_bytes_Size N, X_bytes_Sign N]) (t := []) ti_ok hmix ⟨Y_bytes_Size N, Y_bytes_Sign N, trivial⟩ ⟨rfl, rfl, trivial⟩ f_230 (by kernel_rfl) (by kernel_rfl) trivial fun ys => by kernel_rfl
def c_slots_Reserve : CS := ⟨162, 292, ⟨[.one (.d (.sl t_api_Slot)), .one (.d tI), .one (.d tI)], []⟩, [.one (.o t_api_Slot), .one (.d tB)], false, []⟩
def h_slots_Reserve : Hi := ⟨[((1, 1), c_sl_Clone_api_Slot)], [], [14], [], []⟩
theorem f_292 : Fn Q 292 f292 (codeOf f292) := ⟨by kernel_rfl, by kernel_rfl, by kernel_rfl, by kernel_rfl, by kernel_rfl⟩
noncomputable def slots_Reserve (N : Nat) (x0 : List api_Slot) (x1 : Int) (x2 : Int) : Option Rs :=
 on1 (sl_Clone_api_Slot N x0) <| gg [pD (.sl t_api_Slot)] <| fun (x3 : List api_Slot) => 
 bi (decide ((len x0) ≥ x1)) (
  some (0, (gD (.sl t_api_Slot)).dv x3 (gB.dv false []))) <|
 gd (rm x3 [(x2, (false, (0, ())))] 16) <|
 some (0, (gD (.sl t_api_Slot)).dv (x3 ++ [(x2, (false, (0, ())))]) (gB.dv true []))
noncomputable def X_slots_Reserve (N : Nat) : CE := (c_slots_Reserve, mkF [pD (.sl t_api_Slot), pI, pI] [pD (.sl t_api_Slot), pB] (slots_Reserve N))
theorem Y_slots_Reserve (N : Nat) : CEok Q (X_slots_Reserve N) :=
 fnG (hi := h_slots_Reserve) (l := [X_sl_Clone_api_Slot N]) (t := []) ti_ok hmix ⟨Y_sl_Clone_api_Slot N, trivial⟩ ⟨rfl, trivial⟩ f_292 (by kernel_rfl) (by kernel_rfl) trivial fun ys => by kernel_rfl
def c_apipe_pipe_reserve : CS := ⟨163, 266, ⟨[.one (.p 0 0 [1, 1, 1, 1, 1, 1, 1, 1, 1, 1, 1, 1, 1, 16, 1, 1, 1, 1, 1, 1, 1, 1, 1, 1, 1])], [q_7, q_1]⟩, [.one (.d tB)], true, [q_7, q_1]⟩
def h_apipe_pipe_reserve : Hi := ⟨[((1, 19), c_slots_Reserve)], [], [28], [], []⟩
theorem f_266 : Fn Q 266 f266 (codeOf f266) := ⟨by kernel_rfl, by kernel_rfl, by kernel_rfl, by kernel_rfl, by kernel_rfl⟩
noncomputable def apipe_pipe_reserve (N : Nat) (x0 : api_Config) (x1 : api_Split) (x2 : api_Cell) (x3 : Int) (x4 : api_State) : Option Rs :=
 on1 (slots_Reserve N x4.Ldq x0.Ldq x4.Tags) <| gg [pD (.sl t_api_Slot), pB] <| fun (x5 : List api_Slot) (x6 : Bool) => 
 bi x6 (
  some (0, gB.dv x6 (g_api_Config.dv x0 (g_api_Split.dv x1 (g_api_Cell.dv x2 (gI.dv x3 (g_api_State.dv ({ x4 with Ldq := x5, Tags := (w.i64 (x4.Tags + 1)) } : api_State) []))))))) <|
 some (0, gB.dv x6 (g_api_Config.dv x0 (g_api_Split.dv x1 (g_api_Cell.dv x2 (gI.dv x3 (g_api_State.dv x4 []))))))
noncomputable def X_apipe_pipe_reserve (N : Nat) : CE := (c_apipe_pipe_reserve, mkF [p_api_Config, p_api_Split, p_api_Cell, pI, p_api_State] [pB, p_api_Config, p_api_Split, p_api_Cell, pI, p_api_State] (apipe_pipe_reserve N))
theorem Y_apipe_pipe_reserve (N : Nat) : CEok Q (X_apipe_pipe_reserve N) :=
 fnG (hi := h_apipe_pipe_reserve) (l := [X_slots_Reserve N]) (t := []) ti_ok hmix ⟨Y_slots_Reserve N, trivial⟩ ⟨rfl, trivial⟩ f_266 (by kernel_rfl) (by kernel_rfl) trivial fun ys => by kernel_rfl
def c_slots_Fill_1 : CS := ⟨164, 294, ⟨[.agg [.d tI, .d tB, .d tW], .one (.p 0 0 [1])], [[.d tI]]⟩, [.one (.d tB)], true, [[.d tI]]⟩
def h_slots_Fill_1 : Hi := ⟨[], [], [8], [], []⟩
theorem f_294 : Fn Q 294 f294 (codeOf f294) := ⟨by kernel_rfl, by kernel_rfl, by kernel_rfl, by kernel_rfl, by kernel_rfl⟩
noncomputable def slots_Fill_1 (N : Nat) (x0 : api_Slot) (x1 : Int) : Option Rs :=
 bi (x0.1 == x1) (
  some (0, gB.dv (!x0.2.1) (gI.dv x1 []))) <|
 some (0, gB.dv false (gI.dv x1 []))
noncomputable def X_slots_Fill_1 (N : Nat) : CE := (c_slots_Fill_1, mkF [p_api_Slot, pI] [pB, pI] (slots_Fill_1 N))
theorem Y_slots_Fill_1 (N : Nat) : CEok Q (X_slots_Fill_1 N) :=
 fnG (hi := h_slots_Fill_1) (l := []) (t := []) ti_ok hmix trivial trivial f_294 (by kernel_rfl) (by kernel_rfl) trivial fun ys => by kernel_rfl
def c_sl_IndexFunc_api_Slot : CS := ⟨165, 293, ⟨[.one (.d (.sl t_api_Slot)), .one (.f 294 [⟨0, 0, [1]⟩])], [[.d tI]]⟩, [.one (.d tI)], true, [[.d tI]]⟩
def s_sl_IndexFunc_api_Slot_0 : LS := ⟨⟨[.one (.d (.sl t_api_Slot)), .one (.f 294 [⟨0, 0, [1]⟩]), .no, .no, .no, .no, .no, .one (.d tI), .one (.d tI)] ++ nos 10, [[.d tI]]⟩, [(0, ⟨[.no, .no, .no, .no, .one (.d tI)] ++ nos 14, [[.d tI]]⟩), (1, ⟨nos 19, [[.d tI]]⟩)]⟩
def h_sl_IndexFunc_api_Slot : Hi := ⟨[((4, 5), c_slots_Fill_1)], [(0, s_sl_IndexFunc_api_Slot_0)], [9, 16], [], []⟩
theorem f_293 : Fn Q 293 f293 (codeOf f293) := ⟨by kernel_rfl, by kernel_rfl, by kernel_rfl, by kernel_rfl, by kernel_rfl⟩
noncomputable def T_sl_IndexFunc_api_Slot (N : Nat) : List CE := [X_slots_Fill_1 N]
theorem TT_sl_IndexFunc_api_Slot (N : Nat) : AllP (CEok Q) (T_sl_IndexFunc_api_Slot N) := ⟨Y_slots_Fill_1 N, trivial⟩
theorem A_sl_IndexFunc_api_Slot (N : Nat) : AllP (fun e => lookC (T_sl_IndexFunc_api_Slot N) e.2.id = some e.2) h_sl_IndexFunc_api_Slot.cs := ⟨rfl, trivial⟩
noncomputable def sl_IndexFunc_api_Slot_r0 (N : Nat) (again : Fn' (Option Rs) [pD (.sl t_api_Slot), pI, pI, pI]) (x0 : List api_Slot) (x1 : Int) (x2 : Int) (x3 : Int) : Option Rs :=
 bi (decide (x2 < x1)) (
  gd (idx x2 (List.length x0)) <|
  on1 (slots_Fill_1 N (List.getD x0 x2.toNat api_Slot.z) x3) <| gg [pB, pI] <| fun (x4 : Bool) (x5 : Int) => 
  bi x4 (
   some (0, gI.dv x2 (gI.dv x5 []))) <|
  again x0 x1 (w.i64 (x2 + 1)) x5) <|
 some (1, gI.dv x3 [])
noncomputable def sl_IndexFunc_api_Slot_l0 (N : Nat) : Nat → Fn' (Option Rs) [pD (.sl t_api_Slot), pI, pI, pI] := lpG (sl_IndexFunc_api_Slot_r0 N)
noncomputable def L_sl_IndexFunc_api_Slot_0 (N : Nat) : LE := (0, mkM [pD (.sl t_api_Slot), pI, pI, pI] [(0, [pI, pI]), (1, [pI])] (sl_IndexFunc_api_Slot_l0 N N))
theorem K_sl_IndexFunc_api_Slot_0 (N : Nat) : LEok Q h_sl_IndexFunc_api_Slot (bodOf f293) f293.ntmps 1 (L_sl_IndexFunc_api_Slot_0 N) :=
 loopG (hi := h_sl_IndexFunc_api_Slot) (l := T_sl_IndexFunc_api_Slot N) (t := []) (r := sl_IndexFunc_api_Slot_r0 N) ti_ok hmix (TT_sl_IndexFunc_api_Slot N) (A_sl_IndexFunc_api_Slot N) f_293 trivial (ls := s_sl_IndexFunc_api_Slot_0) (body := bodyAt f293 0) (by kernel_rfl) (by kernel_rfl) fun A ys => by kernel_rfl
noncomputable def sl_IndexFunc_api_Slot (N : Nat) (x0 : List api_Slot) (x1 : Int) : Option Rs :=
 onB 0 1 (sl_IndexFunc_api_Slot_l0 N N x0 (len x0) 0 x1) (gg [pI, pI] <| fun (x2 : Int) (x3 : Int) => 
  some (0, gI.dv x2 (gI.dv x3 []))) <| gg [pI] <| fun (x4 : Int) => 
 some (0, gI.dv (-1 : Int) (gI.dv x4 []))
noncomputable def X_sl_IndexFunc_api_Slot (N : Nat) : CE := (c_sl_IndexFunc_api_Slot, mkF [pD (.sl t_api_Slot), pI] [pI, pI] (sl_IndexFunc_api_Slot N))
theorem Y_sl_IndexFunc_api_Slot (N : Nat) : CEok Q (X_sl_IndexFunc_api_Slot N) :=
 fnG (hi := h_sl_IndexFunc_api_Slot) (l := T_sl_IndexFunc_api_Slot N) (t := [L_sl_IndexFunc_api_Slot_0 N]) ti_ok hmix (TT_sl_IndexFunc_api_Slot N) (A_sl_IndexFunc_api_Slot N) f_293 (by kernel_rfl) (by kernel_rfl) ⟨K_sl_IndexFunc_api_Slot_0 N, trivial⟩ fun ys => by kernel_rfl
def c_slots_Fill : CS := ⟨166, 267, ⟨[.one (.d (.sl t_api_Slot)), .one (.d tI), .one (.d tW)], []⟩, [.one (.o t_api_Slot), .one (.d tB)], false, []⟩
def h_slots_Fill : Hi := ⟨[((1, 1), c_sl_Clone_api_Slot), ((2, 2), c_sl_IndexFunc_api_Slot)], [], [16], [], []⟩
theorem f_267 : Fn Q 267 f267 (codeOf f267) := ⟨by kernel_rfl, by kernel_rfl, by kernel_rfl, by kernel_rfl, by kernel_rfl⟩
noncomputable def slots_Fill (N : Nat) (x0 : List api_Slot) (x1 : Int) (x2 : Int) : Option Rs :=
 on1 (sl_Clone_api_Slot N x0) <| gg [pD (.sl t_api_Slot)] <| fun (x3 : List api_Slot) => 
 on1 (sl_IndexFunc_api_Slot N x3 x1) <| gg [pI, pI] <| fun (x4 : Int) (x5 : Int) => 
 bi (decide (x4 < 0)) (
  some (0, (gD (.sl t_api_Slot)).dv x3 (gB.dv false []))) <|
 gd (idx x4 (List.length x3)) <|
 gd (idx x4 (List.length (List.set x3 x4.toNat ((List.getD x3 x4.toNat api_Slot.z).1, (true, (List.getD x3 x4.toNat api_Slot.z).2.2))))) <|
 some (0, (gD (.sl t_api_Slot)).dv (List.set (List.set x3 x4.toNat ((List.getD x3 x4.toNat api_Slot.z).1, (true, (List.getD x3 x4.toNat api_Slot.z).2.2))) x4.toNat ((List.getD (List.set x3 x4.toNat ((List.getD x3 x4.toNat api_Slot.z).1, (true, (List.getD x3 x4.toNat api_Slot.z).2.2))) x4.toNat api_Slot.z).1, ((List.getD (List.set x3 x4.toNat ((List.getD x3 x4.toNat api_Slot.z).1, (true, (List.getD x3 x4.toNat api_Slot.z).2.2))) x4.toNat api_Slot.z).2.1, (x2, ())))) (gB.dv true []))
noncomputable def X_slots_Fill (N : Nat) : CE := (c_slots_Fill, mkF [pD (.sl t_api_Slot), pI, pW] [pD (.sl t_api_Slot), pB] (slots_Fill N))
theorem Y_slots_Fill (N : Nat) : CEok Q (X_slots_Fill N) :=
 fnG (hi := h_slots_Fill) (l := [X_sl_Clone_api_Slot N, X_sl_IndexFunc_api_Slot N]) (t := []) ti_ok hmix ⟨Y_sl_Clone_api_Slot N, Y_sl_IndexFunc_api_Slot N, trivial⟩ ⟨rfl, rfl, trivial⟩ f_267 (by kernel_rfl) (by kernel_rfl) trivial fun ys => by kernel_rfl
def c_apipe_pipe_take : CS := ⟨167, 231, ⟨[.one (.p 0 0 [1, 1, 1, 1, 1, 1, 1, 1, 1, 1, 1, 1, 1, 16, 1, 1, 1, 1, 1, 1, 1, 1, 1, 1, 1]), .one (.d tW)], [q_7, q_1]⟩, [], false, [q_7, q_1]⟩
def h_apipe_pipe_take : Hi := ⟨[((1, 21), c_epipe_Set_A), ((3, 1), c_apipe_pipe_reserve), ((4, 13), c_slots_Fill), ((5, 6), c_epipe_Behind_A)], [], [10, 42], [], []⟩
theorem f_231 : Fn Q 231 f231 (codeOf f231) := ⟨by kernel_rfl, by kernel_rfl, by kernel_rfl, by kernel_rfl, by kernel_rfl⟩
noncomputable def apipe_pipe_take (N : Nat) (x0 : Int) (x1 : api_Config) (x2 : api_Split) (x3 : api_Cell) (x4 : Int) (x5 : api_State) : Option Rs :=
 bi (x3.1 == 2) (
  on1 (epipe_Set_A N x3.2.1.2.1 x0 (w.i64 (x5.Cycle + 1)) x5) <| gg [p_api_State] <| fun (x6 : api_State) => 
  on1 (epipe_Behind_A N x6) <| gg [p_api_State] <| fun (x7 : api_State) => 
  some (0, g_api_Config.dv x1 (g_api_Split.dv x2 (g_api_Cell.dv x3 (gI.dv x4 (g_api_State.dv x7 [])))))) <|
 on1 (apipe_pipe_reserve N x1 x2 x3 x4 x5) <| gg [pB, p_api_Config, p_api_Split, p_api_Cell, pI, p_api_State] <| fun (x8 : Bool) (x9 : api_Config) (x10 : api_Split) (x11 : api_Cell) (x12 : Int) (x13 : api_State) => 
 bi (!x8) (
  some (0, g_api_Config.dv x9 (g_api_Split.dv x10 (g_api_Cell.dv x11 (gI.dv x12 (g_api_State.dv x13 [])))))) <|
 on1 (slots_Fill N x13.Ldq x5.Tags x0) <| gg [pD (.sl t_api_Slot), pB] <| fun (x14 : List api_Slot) (x15 : Bool) => 
 on1 (epipe_Behind_A N ({ x13 with Ldq := x14 } : api_State)) <| gg [p_api_State] <| fun (x16 : api_State) => 
 some (0, g_api_Config.dv x9 (g_api_Split.dv x10 (g_api_Cell.dv x11 (gI.dv x12 (g_api_State.dv x16 [])))))
noncomputable def X_apipe_pipe_take (N : Nat) : CE := (c_apipe_pipe_take, mkF [pW, p_api_Config, p_api_Split, p_api_Cell, pI, p_api_State] [p_api_Config, p_api_Split, p_api_Cell, pI, p_api_State] (apipe_pipe_take N))
theorem Y_apipe_pipe_take (N : Nat) : CEok Q (X_apipe_pipe_take N) :=
 fnG (hi := h_apipe_pipe_take) (l := [X_epipe_Set_A N, X_apipe_pipe_reserve N, X_slots_Fill N, X_epipe_Behind_A N]) (t := []) ti_ok hmix ⟨Y_epipe_Set_A N, Y_apipe_pipe_reserve N, Y_slots_Fill N, Y_epipe_Behind_A N, trivial⟩ ⟨rfl, rfl, rfl, rfl, trivial⟩ f_231 (by kernel_rfl) (by kernel_rfl) trivial fun ys => by kernel_rfl
def c_apipe_pipe_ask : CS := ⟨168, 232, ⟨[.one (.p 0 0 [1, 1, 1, 1, 1, 1, 1, 1, 1, 1, 1, 1, 1, 16, 1, 1, 1, 1, 1, 1, 1, 1, 1, 1, 1]), .one (.d tI)], [q_7, q_1]⟩, [], false, [q_7, q_1]⟩
def h_apipe_pipe_ask : Hi := ⟨[((1, 5), c_bytes_Size), ((4, 1), c_apipe_pipe_reserve), ((8, 6), c_epipe_Behind_A)], [], [25, 37, 41, 45], [], []⟩
theorem f_232 : Fn Q 232 f232 (codeOf f232) := ⟨by kernel_rfl, by kernel_rfl, by kernel_rfl, by kernel_rfl, by kernel_rfl⟩
noncomputable def apipe_pipe_ask (N : Nat) (x0 : Int) (x1 : api_Config) (x2 : api_Split) (x3 : api_Cell) (x4 : Int) (x5 : api_State) : Option Rs :=
 on1 (bytes_Size N x3.2.1.1) <| gg [pI] <| fun (x6 : Int) => 
 bi (x3.1 == 3) (
  on1 (apipe_pipe_reserve N x1 x2 x3 x4 x5) <| gg [pB, p_api_Config, p_api_Split, p_api_Cell, pI, p_api_State] <| fun (x7 : Bool) (x8 : api_Config) (x9 : api_Split) (x10 : api_Cell) (x11 : Int) (x12 : api_State) => 
  bi (!x7) (
   some (0, g_api_Config.dv x8 (g_api_Split.dv x9 (g_api_Cell.dv x10 (gI.dv x11 (g_api_State.dv x12 [])))))) <|
  gd (rm x12.Table [(false, (x3.2.1.1, (x0, (x6, (0, (0, ((-1 : Int), (x5.Tags, ()))))))))] 64) <|
  on1 (epipe_Behind_A N ({ x12 with Table := (x12.Table ++ [(false, (x3.2.1.1, (x0, (x6, (0, (0, ((-1 : Int), (x5.Tags, ()))))))))]) } : api_State)) <| gg [p_api_State] <| fun (x13 : api_State) => 
  some (0, g_api_Config.dv x8 (g_api_Split.dv x9 (g_api_Cell.dv x10 (gI.dv x11 (g_api_State.dv x13 [])))))) <|
 bi (decide (x3.2.1.2.1 > 0)) (
  bi (decide (x3.2.1.2.1 < 16)) (
   gd (idx x3.2.1.2.1 16) <|
   gd (rm x5.Table [(false, (x3.2.1.1, (x0, (x6, (0, (0, (x3.2.1.2.1, (0, ()))))))))] 64) <|
   on1 (epipe_Behind_A N ({ x5 with A := { x5.A with Ready := (List.set x5.A.Ready x3.2.1.2.1.toNat (-1 : Int)) }, Table := (x5.Table ++ [(false, (x3.2.1.1, (x0, (x6, (0, (0, (x3.2.1.2.1, (0, ()))))))))]) } : api_State)) <| gg [p_api_State] <| fun (x14 : api_State) => 
   some (0, g_api_Config.dv x1 (g_api_Split.dv x2 (g_api_Cell.dv x3 (gI.dv x4 (g_api_State.dv x14 [])))))) <|
  gd (rm x5.Table [(false, (x3.2.1.1, (x0, (x6, (0, (0, (x3.2.1.2.1, (0, ()))))))))] 64) <|
  on1 (epipe_Behind_A N ({ x5 with Table := (x5.Table ++ [(false, (x3.2.1.1, (x0, (x6, (0, (0, (x3.2.1.2.1, (0, ()))))))))]) } : api_State)) <| gg [p_api_State] <| fun (x15 : api_State) => 
  some (0, g_api_Config.dv x1 (g_api_Split.dv x2 (g_api_Cell.dv x3 (gI.dv x4 (g_api_State.dv x15 [])))))) <|
 gd (rm x5.Table [(false, (x3.2.1.1, (x0, (x6, (0, (0, (x3.2.1.2.1, (0, ()))))))))] 64) <|
 on1 (epipe_Behind_A N ({ x5 with Table := (x5.Table ++ [(false, (x3.2.1.1, (x0, (x6, (0, (0, (x3.2.1.2.1, (0, ()))))))))]) } : api_State)) <| gg [p_api_State] <| fun (x16 : api_State) => 
 some (0, g_api_Config.dv x1 (g_api_Split.dv x2 (g_api_Cell.dv x3 (gI.dv x4 (g_api_State.dv x16 [])))))
noncomputable def X_apipe_pipe_ask (N : Nat) : CE := (c_apipe_pipe_ask, mkF [pI, p_api_Config, p_api_Split, p_api_Cell, pI, p_api_State] [p_api_Config, p_api_Split, p_api_Cell, pI, p_api_State] (apipe_pipe_ask N))
theorem Y_apipe_pipe_ask (N : Nat) : CEok Q (X_apipe_pipe_ask N) :=
 fnG (hi := h_apipe_pipe_ask) (l := [X_bytes_Size N, X_apipe_pipe_reserve N, X_epipe_Behind_A N]) (t := []) ti_ok hmix ⟨Y_bytes_Size N, Y_apipe_pipe_reserve N, Y_epipe_Behind_A N, trivial⟩ ⟨rfl, rfl, rfl, trivial⟩ f_232 (by kernel_rfl) (by kernel_rfl) trivial fun ys => by kernel_rfl
def c_apipe_pipe_load : CS := ⟨169, 162, ⟨[.one (.p 0 0 [1, 1, 1, 1, 1, 1, 1, 1, 1, 1, 1, 1, 1, 16, 1, 1, 1, 1, 1, 1, 1, 1, 1, 1, 1])], [q_7, q_1]⟩, [], false, [q_7, q_1]⟩
def h_apipe_pipe_load : Hi := ⟨[((0, 1), c_apipe_pipe_address), ((2, 14), c_bytes_Size), ((2, 15), c_saq_Search), ((4, 8), c_saq_Bypass), ((6, 2), c_apipe_pipe_take), ((8, 2), c_apipe_pipe_ask)], [], [14, 34, 48, 52], [], []⟩
theorem f_162 : Fn Q 162 f162 (codeOf f162) := ⟨by kernel_rfl, by kernel_rfl, by kernel_rfl, by kernel_rfl, by kernel_rfl⟩
noncomputable def apipe_pipe_load (N : Nat) (x0 : api_Config) (x1 : api_Split) (x2 : api_Cell) (x3 : Int) (x4 : api_State) : Option Rs :=
 on1 (apipe_pipe_address N x0 x1 x2 x3 x4) <| gg [pI, pB, p_api_Config, p_api_Split, p_api_Cell, pI, p_api_State] <| fun (x5 : Int) (x6 : Bool) (x7 : api_Config) (x8 : api_Split) (x9 : api_Cell) (x10 : Int) (x11 : api_State) => 
 bi (!x6) (
  some (0, g_api_Config.dv x7 (g_api_Split.dv x8 (g_api_Cell.dv x9 (gI.dv x10 (g_api_State.dv x11 [])))))) <|
 on1 (bytes_Size N x9.2.1.1) <| gg [pI] <| fun (x12 : Int) => 
 on1 (saq_Search N x11.Saq x5 x12) <| gg [p_api_Entry, pB] <| fun (x13 : api_Entry) (x14 : Bool) => 
 bi x14 (
  on1 (saq_Bypass N x13 x9.2.1.1 x5) <| gg [pW, pB] <| fun (x15 : Int) (x16 : Bool) => 
  bi x16 (
   on1 (apipe_pipe_take N x15 x7 x8 x9 x10 x11) <| gg [p_api_Config, p_api_Split, p_api_Cell, pI, p_api_State] <| fun (x17 : api_Config) (x18 : api_Split) (x19 : api_Cell) (x20 : Int) (x21 : api_State) => 
   some (0, g_api_Config.dv x17 (g_api_Split.dv x18 (g_api_Cell.dv x19 (gI.dv x20 (g_api_State.dv x21 [])))))) <|
  some (0, g_api_Config.dv x7 (g_api_Split.dv x8 (g_api_Cell.dv x9 (gI.dv x10 (g_api_State.dv x11 [])))))) <|
 bi (decide ((len x11.Table) < x7.Flight)) (
  on1 (apipe_pipe_ask N x5 x7 x8 x9 x10 x11) <| gg [p_api_Config, p_api_Split, p_api_Cell, pI, p_api_State] <| fun (x22 : api_Config) (x23 : api_Split) (x24 : api_Cell) (x25 : Int) (x26 : api_State) => 
  some (0, g_api_Config.dv x22 (g_api_Split.dv x23 (g_api_Cell.dv x24 (gI.dv x25 (g_api_State.dv x26 [])))))) <|
 some (0, g_api_Config.dv x7 (g_api_Split.dv x8 (g_api_Cell.dv x9 (gI.dv x10 (g_api_State.dv x11 [])))))
noncomputable def X_apipe_pipe_load (N : Nat) : CE := (c_apipe_pipe_load, mkF [p_api_Config, p_api_Split, p_api_Cell, pI, p_api_State] [p_api_Config, p_api_Split, p_api_Cell, pI, p_api_State] (apipe_pipe_load N))
theorem Y_apipe_pipe_load (N : Nat) : CEok Q (X_apipe_pipe_load N) :=
 fnG (hi := h_apipe_pipe_load) (l := [X_apipe_pipe_address N, X_bytes_Size N, X_saq_Search N, X_saq_Bypass N, X_apipe_pipe_take N, X_apipe_pipe_ask N]) (t := []) ti_ok hmix ⟨Y_apipe_pipe_address N, Y_bytes_Size N, Y_saq_Search N, Y_saq_Bypass N, Y_apipe_pipe_take N, Y_apipe_pipe_ask N, trivial⟩ ⟨rfl, rfl, rfl, rfl, rfl, rfl, trivial⟩ f_162 (by kernel_rfl) (by kernel_rfl) trivial fun ys => by kernel_rfl
def c_saq_Push : CS := ⟨170, 233, ⟨[.one (.d (.sl t_api_Entry)), .one (.d tI), .agg [.d tI, .d tI, .d tI, .d tB, .d tW]], []⟩, [.one (.o t_api_Entry), .one (.d tB)], false, []⟩
def h_saq_Push : Hi := ⟨[((1, 1), c_sl_Clone_api_Entry)], [], [14], [], []⟩
theorem f_233 : Fn Q 233 f233 (codeOf f233) := ⟨by kernel_rfl, by kernel_rfl, by kernel_rfl, by kernel_rfl, by kernel_rfl⟩
noncomputable def saq_Push (N : Nat) (x0 : List api_Entry) (x1 : Int) (x2 : api_Entry) : Option Rs :=
 on1 (sl_Clone_api_Entry N x0) <| gg [pD (.sl t_api_Entry)] <| fun (x3 : List api_Entry) => 
 bi (decide ((len x0) ≥ x1)) (
  some (0, (gD (.sl t_api_Entry)).dv x3 (gB.dv false []))) <|
 gd (rm x3 [x2] 32) <|
 some (0, (gD (.sl t_api_Entry)).dv (x3 ++ [x2]) (gB.dv true []))
noncomputable def X_saq_Push (N : Nat) : CE := (c_saq_Push, mkF [pD (.sl t_api_Entry), pI, p_api_Entry] [pD (.sl t_api_Entry), pB] (saq_Push N))
theorem Y_saq_Push (N : Nat) : CEok Q (X_saq_Push N) :=
 fnG (hi := h_saq_Push) (l := [X_sl_Clone_api_Entry N]) (t := []) ti_ok hmix ⟨Y_sl_Clone_api_Entry N, trivial⟩ ⟨rfl, trivial⟩ f_233 (by kernel_rfl) (by kernel_rfl) trivial fun ys => by kernel_rfl
def c_apipe_pipe_store : CS := ⟨171, 163, ⟨[.one (.p 0 0 [1, 1, 1, 1, 1, 1, 1, 1, 1, 1, 1, 1, 1, 16, 1, 1, 1, 1, 1, 1, 1, 1, 1, 1, 1])], [q_7, q_1]⟩, [], false, [q_7, q_1]⟩
def h_apipe_pipe_store : Hi := ⟨[((0, 1), c_apipe_pipe_address), ((2, 19), c_bytes_Size), ((2, 25), c_saq_Push), ((5, 6), c_epipe_Behind_A)], [], [11, 41], [], []⟩
theorem f_163 : Fn Q 163 f163 (codeOf f163) := ⟨by kernel_rfl, by kernel_rfl, by kernel_rfl, by kernel_rfl, by kernel_rfl⟩
noncomputable def apipe_pipe_store (N : Nat) (x0 : api_Config) (x1 : api_Split) (x2 : api_Cell) (x3 : Int) (x4 : api_State) : Option Rs :=
 on1 (apipe_pipe_address N x0 x1 x2 x3 x4) <| gg [pI, pB, p_api_Config, p_api_Split, p_api_Cell, pI, p_api_State] <| fun (x5 : Int) (x6 : Bool) (x7 : api_Config) (x8 : api_Split) (x9 : api_Cell) (x10 : Int) (x11 : api_State) => 
 bi (!x6) (
  some (0, g_api_Config.dv x7 (g_api_Split.dv x8 (g_api_Cell.dv x9 (gI.dv x10 (g_api_State.dv x11 [])))))) <|
 on1 (bytes_Size N x9.2.1.1) <| gg [pI] <| fun (x12 : Int) => 
 on1 (saq_Push N x11.Saq x7.Saq (x5, (x12, (x10, (false, (0, ())))))) <| gg [pD (.sl t_api_Entry), pB] <| fun (x13 : List api_Entry) (x14 : Bool) => 
 bi x14 (
  on1 (epipe_Behind_A N ({ x11 with Saq := x13 } : api_State)) <| gg [p_api_State] <| fun (x15 : api_State) => 
  some (0, g_api_Config.dv x7 (g_api_Split.dv x8 (g_api_Cell.dv x9 (gI.dv x10 (g_api_State.dv x15 [])))))) <|
 some (0, g_api_Config.dv x7 (g_api_Split.dv x8 (g_api_Cell.dv x9 (gI.dv x10 (g_api_State.dv x11 [])))))
noncomputable def X_apipe_pipe_store (N : Nat) : CE := (c_apipe_pipe_store, mkF [p_api_Config, p_api_Split, p_api_Cell, pI, p_api_State] [p_api_Config, p_api_Split, p_api_Cell, pI, p_api_State] (apipe_pipe_store N))
theorem Y_apipe_pipe_store (N : Nat) : CEok Q (X_apipe_pipe_store N) :=
 fnG (hi := h_apipe_pipe_store) (l := [X_apipe_pipe_address N, X_bytes_Size N, X_saq_Push N, X_epipe_Behind_A N]) (t := []) ti_ok hmix ⟨Y_apipe_pipe_address N, Y_bytes_Size N, Y_saq_Push N, Y_epipe_Behind_A N, trivial⟩ ⟨rfl, rfl, rfl, rfl, trivial⟩ f_163 (by kernel_rfl) (by kernel_rfl) trivial fun ys => by kernel_rfl
def c_epipe_Go_A : CS := ⟨172, 156, ⟨[.agg [.d (.sl t_api_Block), .d (.ar 16 tI)], .one (.p 0 0 [1, 16, 16, 1, 1, 1, 1, 1, 1, 16, 16, 1, 1, 1, 1, 1, 1, 1, 1, 1, 1, 1, 1, 1, 1, 1, 1, 1, 1, 1, 1, 1]), .one (.p 0 1 [16, 16, 1, 1, 1, 1, 1, 1]), .one (.d tB)], [q_1]⟩, [], false, [q_1]⟩
def h_epipe_Go_A : Hi := ⟨[((1, 7), c_front_Go)], [], [18], [], []⟩
noncomputable def epipe_Go_A (N : Nat) (x0 : api_Split) (x1 : Bool) (x2 : api_State) : Option Rs :=
 on1 (front_Go N x0 x2.A.Pos x1) <| gg [p_api_Pos] <| fun (x3 : api_Pos) => 
 bi x1 (
  some (0, g_api_State.dv ({ x2 with A := { x2.A with Pos := x3, Wait := (w.i64 (x2.Cycle + 2)), Done := (w.i64 (x2.A.Done + 1)) } } : api_State) [])) <|
 some (0, g_api_State.dv ({ x2 with A := { x2.A with Pos := x3, Done := (w.i64 (x2.A.Done + 1)) } } : api_State) [])
noncomputable def X_epipe_Go_A (N : Nat) : CE := (c_epipe_Go_A, mkF [p_api_Split, pB, p_api_State] [p_api_State] (epipe_Go_A N))
theorem Y_epipe_Go_A (N : Nat) : CEok Q (X_epipe_Go_A N) :=
 fnG (hi := h_epipe_Go_A) (l := [X_front_Go N]) (t := []) ti_ok hmix ⟨Y_front_Go N, trivial⟩ ⟨rfl, trivial⟩ f_156 (by kernel_rfl) (by kernel_rfl) trivial fun ys => by kernel_rfl
def c_epipe_Branch_A_Abq : CS := ⟨173, 154, ⟨[.agg [.d (.sl t_api_Block), .d (.ar 16 tI)], .one (.p 0 0 [1, 16, 16, 1, 1, 1, 1, 1, 1, 16, 16, 1, 1, 1, 1, 1, 1, 1, 1, 1, 1, 1, 1, 1, 1, 1, 1, 1, 1, 1, 1, 1]), .one (.p 0 1 [16, 16, 1, 1, 1, 1, 1, 1]), .agg q_2, .one (.p 0 20 [1]), .one (.d tI)], [q_1]⟩, [], false, [q_1]⟩
def h_epipe_Branch_A_Abq : Hi := ⟨[((2, 7), c_epipe_Get), ((2, 12), c_epipe_Get), ((2, 13), c_alu_Taken), ((4, 4), c_epipe_Go_A)], [], [18], [], []⟩
noncomputable def epipe_Branch_A_Abq (N : Nat) (x0 : api_Split) (x1 : api_Cell) (x2 : Int) (x3 : api_State) : Option Rs :=
 bi (decide ((len x3.Abq) ≥ x2)) (
  some (0, g_api_State.dv x3 [])) <|
 on1 (epipe_Get N x3.A x1.2.1.2.2.1) <| gg [pW] <| fun (x4 : Int) => 
 on1 (epipe_Get N x3.A x1.2.1.2.2.2.1) <| gg [pW] <| fun (x5 : Int) => 
 on1 (alu_Taken N x1.2.1.1 x4 x5) <| gg [pB] <| fun (x6 : Bool) => 
 gd (rm x3.Abq [x6] 1) <|
 on1 (epipe_Go_A N x0 x6 ({ x3 with Abq := (x3.Abq ++ [x6]) } : api_State)) <| gg [p_api_State] <| fun (x7 : api_State) => 
 some (0, g_api_State.dv x7 [])
noncomputable def X_epipe_Branch_A_Abq (N : Nat) : CE := (c_epipe_Branch_A_Abq, mkF [p_api_Split, p_api_Cell, pI, p_api_State] [p_api_State] (epipe_Branch_A_Abq N))
theorem Y_epipe_Branch_A_Abq (N : Nat) : CEok Q (X_epipe_Branch_A_Abq N) :=
 fnG (hi := h_epipe_Branch_A_Abq) (l := [X_epipe_Get N, X_alu_Taken N, X_epipe_Go_A N]) (t := []) ti_ok hmix ⟨Y_epipe_Get N, Y_alu_Taken N, Y_epipe_Go_A N, trivial⟩ ⟨rfl, rfl, rfl, rfl, trivial⟩ f_154 (by kernel_rfl) (by kernel_rfl) trivial fun ys => by kernel_rfl
def c_epipe_Follow_A_Ebq : CS := ⟨174, 155, ⟨[.agg [.d (.sl t_api_Block), .d (.ar 16 tI)], .one (.p 0 0 [1, 16, 16, 1, 1, 1, 1, 1, 1, 16, 16, 1, 1, 1, 1, 1, 1, 1, 1, 1, 1, 1, 1, 1, 1, 1, 1, 1, 1, 1, 1, 1]), .one (.p 0 1 [16, 16, 1, 1, 1, 1, 1, 1]), .one (.p 0 21 [1])], [q_1]⟩, [], false, [q_1]⟩
def h_epipe_Follow_A_Ebq : Hi := ⟨[((4, 4), c_epipe_Go_A)], [], [13], [], []⟩
noncomputable def epipe_Follow_A_Ebq (N : Nat) (x0 : api_Split) (x1 : api_State) : Option Rs :=
 bi ((len x1.Ebq) == 0) (
  some (0, g_api_State.dv x1 [])) <|
 gd (idx 0 (List.length x1.Ebq)) <|
 gd (sb 1 (len x1.Ebq)) <|
 on1 (epipe_Go_A N x0 (List.getD x1.Ebq 0 false) ({ x1 with Ebq := (List.drop 1 x1.Ebq) } : api_State)) <| gg [p_api_State] <| fun (x2 : api_State) => 
 some (0, g_api_State.dv x2 [])
noncomputable def X_epipe_Follow_A_Ebq (N : Nat) : CE := (c_epipe_Follow_A_Ebq, mkF [p_api_Split, p_api_State] [p_api_State] (epipe_Follow_A_Ebq N))
theorem Y_epipe_Follow_A_Ebq (N : Nat) : CEok Q (X_epipe_Follow_A_Ebq N) :=
 fnG (hi := h_epipe_Follow_A_Ebq) (l := [X_epipe_Go_A N]) (t := []) ti_ok hmix ⟨Y_epipe_Go_A N, trivial⟩ ⟨rfl, trivial⟩ f_155 (by kernel_rfl) (by kernel_rfl) trivial fun ys => by kernel_rfl
def c_epipe_Halt_A : CS := ⟨175, 157, ⟨[.one (.p 0 1 [16, 16, 1, 1, 1, 1, 1, 1])], [q_1]⟩, [], false, [q_1]⟩
def h_epipe_Halt_A : Hi := ⟨[], [], [], [], []⟩
noncomputable def epipe_Halt_A (N : Nat) (x0 : api_State) : Option Rs :=
 some (0, g_api_State.dv ({ x0 with A := { x0.A with Halted := true, Done := (w.i64 (x0.A.Done + 1)) } } : api_State) [])
noncomputable def X_epipe_Halt_A (N : Nat) : CE := (c_epipe_Halt_A, mkF [p_api_State] [p_api_State] (epipe_Halt_A N))
theorem Y_epipe_Halt_A (N : Nat) : CEok Q (X_epipe_Halt_A N) :=
 fnG (hi := h_epipe_Halt_A) (l := []) (t := []) ti_ok hmix trivial trivial f_157 (by kernel_rfl) (by kernel_rfl) trivial fun ys => by kernel_rfl
def c_apipe_Turn : CS := ⟨176, 100, ⟨[.agg q_5, .agg [.d (.sl t_api_Block), .d (.ar 16 tI)], .one (.p 0 0 [1, 16, 16, 1, 1, 1, 1, 1, 1, 16, 16, 1, 1, 1, 1, 1, 1, 1, 1, 1, 1, 1, 1, 1, 1, 1, 1, 1, 1, 1, 1, 1])], [q_1]⟩, [], false, [q_1]⟩
def h_apipe_Turn : Hi := ⟨[((2, 3), c_epipe_At_A), ((3, 8), c_apipe_Ahead), ((3, 19), c_epipe_Free), ((7, 5), c_epipe_Do_A), ((10, 1), c_apipe_pipe_load), ((12, 1), c_apipe_pipe_store), ((15, 8), c_epipe_Get), ((16, 1), c_epipe_Behind_A), ((18, 9), c_epipe_Branch_A_Abq), ((20, 6), c_epipe_Follow_A_Ebq), ((22, 3), c_epipe_Go_A), ((24, 1), c_epipe_Halt_A)], [], [24, 32, 43, 53, 61, 66, 70, 79, 95, 107, 116, 122], [], []⟩
theorem f_100 : Fn Q 100 f100 (codeOf f100) := ⟨by kernel_rfl, by kernel_rfl, by kernel_rfl, by kernel_rfl, by kernel_rfl⟩
noncomputable def apipe_Turn (N : Nat) (x0 : api_Config) (x1 : api_Split) (x2 : api_State) : Option Rs :=
 on1 (epipe_At_A N x1 false x2) <| gg [p_api_Cell, pI, pB, p_api_State] <| fun (x3 : api_Cell) (x4 : Int) (x5 : Bool) (x6 : api_State) => 
 bi (!x5) (
  some (0, g_api_State.dv x6 [])) <|
 on1 (apipe_Ahead N x0 x1 x6) <| gg [pB] <| fun (x7 : Bool) => 
 bi x7 (
  some (0, g_api_State.dv x6 [])) <|
 on1 (epipe_Free N x6.A x3 x6.Cycle) <| gg [pB] <| fun (x8 : Bool) => 
 bi (!x8) (
  some (0, g_api_State.dv x6 [])) <|
 bi (x3.1 == 1) (
  on1 (epipe_Do_A N x0 x3 x4 x6) <| gg [p_api_State] <| fun (x9 : api_State) => 
  some (0, g_api_State.dv x9 [])) <|
 bi (x3.1 == 2) (
  on1 (apipe_pipe_load N x0 x1 x3 x4 x6) <| gg [p_api_Config, p_api_Split, p_api_Cell, pI, p_api_State] <| fun (x10 : api_Config) (x11 : api_Split) (x12 : api_Cell) (x13 : Int) (x14 : api_State) => 
  some (0, g_api_State.dv x14 [])) <|
 bi (x3.1 == 3) (
  on1 (apipe_pipe_load N x0 x1 x3 x4 x6) <| gg [p_api_Config, p_api_Split, p_api_Cell, pI, p_api_State] <| fun (x15 : api_Config) (x16 : api_Split) (x17 : api_Cell) (x18 : Int) (x19 : api_State) => 
  some (0, g_api_State.dv x19 [])) <|
 bi (x3.1 == 4) (
  on1 (apipe_pipe_store N x0 x1 x3 x4 x6) <| gg [p_api_Config, p_api_Split, p_api_Cell, pI, p_api_State] <| fun (x20 : api_Config) (x21 : api_Split) (x22 : api_Cell) (x23 : Int) (x24 : api_State) => 
  some (0, g_api_State.dv x24 [])) <|
 bi (x3.1 == 5) (
  bi (decide ((len x6.Aeq) < x0.Aeq)) (
   on1 (epipe_Get N x6.A x3.2.2.1) <| gg [pW] <| fun (x25 : Int) => 
   gd (rm x6.Aeq [x25] 4) <|
   on1 (epipe_Behind_A N ({ x6 with Aeq := (x6.Aeq ++ [x25]) } : api_State)) <| gg [p_api_State] <| fun (x26 : api_State) => 
   some (0, g_api_State.dv x26 [])) <|
  some (0, g_api_State.dv x6 [])) <|
 bi (x3.1 == 9) (
  on1 (epipe_Branch_A_Abq N x1 x3 x0.Abq x6) <| gg [p_api_State] <| fun (x27 : api_State) => 
  some (0, g_api_State.dv x27 [])) <|
 bi (x3.1 == 10) (
  on1 (epipe_Follow_A_Ebq N x1 x6) <| gg [p_api_State] <| fun (x28 : api_State) => 
  some (0, g_api_State.dv x28 [])) <|
 bi (x3.1 == 11) (
  on1 (epipe_Go_A N x1 true x6) <| gg [p_api_State] <| fun (x29 : api_State) => 
  some (0, g_api_State.dv x29 [])) <|
 bi (x3.1 == 12) (
  on1 (epipe_Halt_A N x6) <| gg [p_api_State] <| fun (x30 : api_State) => 
  some (0, g_api_State.dv x30 [])) <|
 some (0, g_api_State.dv x6 [])
noncomputable def X_apipe_Turn (N : Nat) : CE := (c_apipe_Turn, mkF [p_api_Config, p_api_Split, p_api_State] [p_api_State] (apipe_Turn N))
theorem Y_apipe_Turn (N : Nat) : CEok Q (X_apipe_Turn N) :=
 fnG (hi := h_apipe_Turn) (l := [X_epipe_At_A N, X_apipe_Ahead N, X_epipe_Free N, X_epipe_Do_A N, X_apipe_pipe_load N, X_apipe_pipe_store N, X_epipe_Get N, X_epipe_Behind_A N, X_epipe_Branch_A_Abq N, X_epipe_Follow_A_Ebq N, X_epipe_Go_A N, X_epipe_Halt_A N]) (t := []) ti_ok hmix ⟨Y_epipe_At_A N, Y_apipe_Ahead N, Y_epipe_Free N, Y_epipe_Do_A N, Y_apipe_pipe_load N, Y_apipe_pipe_store N, Y_epipe_Get N, Y_epipe_Behind_A N, Y_epipe_Branch_A_Abq N, Y_epipe_Follow_A_Ebq N, Y_epipe_Go_A N, Y_epipe_Halt_A N, trivial⟩ ⟨rfl, rfl, rfl, rfl, rfl, rfl, rfl, rfl, rfl, rfl, rfl, rfl, trivial⟩ f_100 (by kernel_rfl) (by kernel_rfl) trivial fun ys => by kernel_rfl
def c_r1_First : CS := ⟨181, 103, ⟨[.agg [.d (.sl t_api_Ins), .d tI, .d (.sl tU)]], []⟩, [.one (.o tU)], true, []⟩
def h_r1_First : Hi := ⟨[], [], [], [], []⟩
theorem f_103 : Fn Q 103 f103 (codeOf f103) := ⟨by kernel_rfl, by kernel_rfl, by kernel_rfl, by kernel_rfl, by kernel_rfl⟩
noncomputable def r1_First (N : Nat) (x0 : api_Program) : Option Rs :=
 gd (decide (0 ≤ x0.Size ∧ x0.Size ≤ x0.Size ∧ x0.Size * ((1 : Nat) : Int) ≤ ((reach : Nat) : Int) ∧ x0.Size ≤ ((reach : Nat) : Int))) <|
 some (0, (gD (.sl tU)).dv (laid (List.replicate x0.Size.toNat (0 :Int)) 0 (List.take (List.length (List.replicate x0.Size.toNat (0 :Int))) x0.Data)) [])
noncomputable def X_r1_First (N : Nat) : CE := (c_r1_First, mkF [p_api_Program] [pD (.sl tU)] (r1_First N))
theorem Y_r1_First (N : Nat) : CEok Q (X_r1_First N) :=
 fnG (hi := h_r1_First) (l := []) (t := []) ti_ok hmix trivial trivial f_103 (by kernel_rfl) (by kernel_rfl) trivial fun ys => by kernel_rfl
end Go.Proofs.Zz
