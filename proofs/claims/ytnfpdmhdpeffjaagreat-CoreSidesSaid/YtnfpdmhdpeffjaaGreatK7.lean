import Derived.Test.YtnfpdmhdpeffjaaGreatK6
set_option linter.unusedSimpArgs false
set_option linter.unusedVariables false
/- What functions of the program compute, as plain functions. -/
set_option linter.unusedVariables false
set_option maxRecDepth 100000
namespace Go.Proofs.Zz
open Go Go.Proofs.Tryz
def c_l19_One : CS := ⟨192, 108, ⟨[], []⟩, [.agg q_5], true, []⟩
def h_l19_One : Hi := ⟨[], [], [], [], []⟩
theorem f_108 : Fn Q 108 f108 (codeOf f108) := ⟨by kernel_rfl, by kernel_rfl, by kernel_rfl, by kernel_rfl, by kernel_rfl⟩
noncomputable def l19_One (N : Nat)  : Option Rs :=
 some (0, g_api_Config.dv (api_Config.mk 1 1 1 1 1 1 1 1 1 1 1 1) [])
noncomputable def X_l19_One (N : Nat) : CE := (c_l19_One, mkF [] [p_api_Config] (l19_One N))
theorem Y_l19_One (N : Nat) : CEok Q (X_l19_One N) :=
 fnG (hi := h_l19_One) (l := []) (t := []) ti_ok hmix trivial trivial f_108 (by kernel_rfl) (by kernel_rfl) trivial fun ys => by kernel_rfl
def c_bytes_Write : CS := ⟨193, 268, ⟨[.one (.hd 0 24), .agg [.d tI, .d tI, .d tW]], [q_8]⟩, [], false, [q_8]⟩
def s_bytes_Write_0 : LS := ⟨⟨[.one (.hd 0 24), .no, .no, .one (.p 1 0 [1, 1, 1])] ++ nos 36 ++ [.one (.d tI), .one (.d tI)] ++ nos 15, [q_8, [.d tI, .d tI, .d tW]]⟩, [(1, ⟨nos 57, [q_8]⟩)]⟩
def h_bytes_Write : Hi := ⟨[((1, 31), c_bytes_Check)], [(0, s_bytes_Write_0)], [8, 13, 18, 23, 28, 38, 42], [], []⟩
theorem f_268 : Fn Q 268 f268 (codeOf f268) := ⟨by kernel_rfl, by kernel_rfl, by kernel_rfl, by kernel_rfl, by kernel_rfl⟩
noncomputable def T_bytes_Write (N : Nat) : List CE := [X_bytes_Check N]
theorem TT_bytes_Write (N : Nat) : AllP (CEok Q) (T_bytes_Write N) := ⟨Y_bytes_Check N, trivial⟩
theorem A_bytes_Write (N : Nat) : AllP (fun e => lookC (T_bytes_Write N) e.2.id = some e.2) h_bytes_Write.cs := ⟨rfl, trivial⟩
noncomputable def bytes_Write_r0 (N : Nat) (again : Fn' (Option Rs) [pI, pI, p_api_State, p_api_Write]) (x0 : Int) (x1 : Int) (x2 : api_State) (x3 : api_Write) : Option Rs :=
 bi (decide (x1 < x0)) (
  gf (decide ((w.i64 (8 * x1)) < 0)) <|
  gd (idx (w.i64 (x3.1 + x1)) (List.length x2.Mem)) <|
  again x0 (w.i64 (x1 + 1)) ({ x2 with Mem := (List.set x2.Mem (Int.toNat (w.i64 (x3.1 + x1))) (w.u8 (shr .u32 x3.2.2.1 (w.i64 (8 * x1))))) } : api_State) x3) <|
 some (1, g_api_State.dv x2 [])
noncomputable def bytes_Write_l0 (N : Nat) : Nat → Fn' (Option Rs) [pI, pI, p_api_State, p_api_Write] := lpG (bytes_Write_r0 N)
noncomputable def L_bytes_Write_0 (N : Nat) : LE := (0, mkM [pI, pI, p_api_State, p_api_Write] [(1, [p_api_State])] (bytes_Write_l0 N N))
theorem K_bytes_Write_0 (N : Nat) : LEok Q h_bytes_Write (bodOf f268) f268.ntmps 1 (L_bytes_Write_0 N) :=
 loopG (hi := h_bytes_Write) (l := T_bytes_Write N) (t := []) (r := bytes_Write_r0 N) ti_ok hmix (TT_bytes_Write N) (A_bytes_Write N) f_268 trivial (ls := s_bytes_Write_0) (body := bodyAt f268 0) (by kernel_rfl) (by kernel_rfl) fun A ys => by kernel_rfl
noncomputable def bytes_Write (N : Nat) (x0 : api_Write) (x1 : api_State) : Option Rs :=
 bi (x0.2.1 != 1) (
  bi (x0.2.1 != 2) (
   bi (x0.2.1 != 4) (
    some (0, g_api_State.dv x1 [])) <|
   bi (decide (x0.1 < 0)) (
    some (0, g_api_State.dv x1 [])) <|
   bi (decide (x0.1 > 4294967295)) (
    some (0, g_api_State.dv x1 [])) <|
   on1 (bytes_Check N x0.2.1 (w.u32 x0.1) (len x1.Mem)) <| gg [pI] <| fun (x2 : Int) => 
   bi (x2 != 0) (
    some (0, g_api_State.dv x1 [])) <|
   onA 1 (bytes_Write_l0 N N x0.2.1 0 x1 x0) <| gg [p_api_State] <| fun (x3 : api_State) => 
   some (0, g_api_State.dv x3 [])) <|
  bi (decide (x0.1 < 0)) (
   some (0, g_api_State.dv x1 [])) <|
  bi (decide (x0.1 > 4294967295)) (
   some (0, g_api_State.dv x1 [])) <|
  on1 (bytes_Check N x0.2.1 (w.u32 x0.1) (len x1.Mem)) <| gg [pI] <| fun (x4 : Int) => 
  bi (x4 != 0) (
   some (0, g_api_State.dv x1 [])) <|
  onA 1 (bytes_Write_l0 N N x0.2.1 0 x1 x0) <| gg [p_api_State] <| fun (x5 : api_State) => 
  some (0, g_api_State.dv x5 [])) <|
 bi (decide (x0.1 < 0)) (
  some (0, g_api_State.dv x1 [])) <|
 bi (decide (x0.1 > 4294967295)) (
  some (0, g_api_State.dv x1 [])) <|
 on1 (bytes_Check N x0.2.1 (w.u32 x0.1) (len x1.Mem)) <| gg [pI] <| fun (x6 : Int) => 
 bi (x6 != 0) (
  some (0, g_api_State.dv x1 [])) <|
 onA 1 (bytes_Write_l0 N N x0.2.1 0 x1 x0) <| gg [p_api_State] <| fun (x7 : api_State) => 
 some (0, g_api_State.dv x7 [])
noncomputable def X_bytes_Write (N : Nat) : CE := (c_bytes_Write, mkF [p_api_Write, p_api_State] [p_api_State] (bytes_Write N))
theorem Y_bytes_Write (N : Nat) : CEok Q (X_bytes_Write N) :=
 fnG (hi := h_bytes_Write) (l := T_bytes_Write N) (t := [L_bytes_Write_0 N]) ti_ok hmix (TT_bytes_Write N) (A_bytes_Write N) f_268 (by kernel_rfl) (by kernel_rfl) ⟨K_bytes_Write_0 N, trivial⟩ fun ys => by kernel_rfl
def c_banks_store : CS := ⟨194, 235, ⟨[.one (.p 0 0 [1, 16, 16, 1, 1, 1, 1, 1, 1, 16, 16, 1, 1, 1, 1, 1, 1, 1, 1, 1, 1, 1, 1, 1, 1, 1, 1, 1, 1, 1, 1, 1]), .agg [.d tB, .d tI, .d tI, .d tI, .d tW, .d tI, .d tI, .d tI]], [q_8]⟩, [], false, [q_8]⟩
def h_banks_store : Hi := ⟨[((2, 5), c_bytes_Write)], [], [33], [], [((2, 5), [(0, 0)])]⟩
theorem f_235 : Fn Q 235 f235 (codeOf f235) := ⟨by kernel_rfl, by kernel_rfl, by kernel_rfl, by kernel_rfl, by kernel_rfl⟩
noncomputable def banks_store (N : Nat) (x0 : api_Request) (x1 : api_State) : Option Rs :=
 on1 (bytes_Write N (x0.2.2.1, (x0.2.2.2.1, (x0.2.2.2.2.1, ()))) x1) <| gg [p_api_State] <| fun (x2 : api_State) => 
 gd (rm x2.Writes [(x0.2.2.1, (x0.2.2.2.1, (x0.2.2.2.2.1, ())))] 24) <|
 bi (decide ((len x2.Saq) > 0)) (
  gd (sb 1 (len x2.Saq)) <|
  some (0, g_api_State.dv ({ x2 with Saq := (List.drop 1 x2.Saq), Writes := (x2.Writes ++ [(x0.2.2.1, (x0.2.2.2.1, (x0.2.2.2.2.1, ())))]) } : api_State) [])) <|
 some (0, g_api_State.dv ({ x2 with Writes := (x2.Writes ++ [(x0.2.2.1, (x0.2.2.2.1, (x0.2.2.2.2.1, ())))]) } : api_State) [])
noncomputable def X_banks_store (N : Nat) : CE := (c_banks_store, mkF [p_api_Request, p_api_State] [p_api_State] (banks_store N))
theorem Y_banks_store (N : Nat) : CEok Q (X_banks_store N) :=
 fnG (hi := h_banks_store) (l := [X_bytes_Write N]) (t := []) ti_ok hmix ⟨Y_bytes_Write N, trivial⟩ ⟨rfl, trivial⟩ f_235 (by kernel_rfl) (by kernel_rfl) trivial fun ys => by kernel_rfl
def c_bytes_loads : CS := ⟨195, 295, ⟨[.one (.d tI)], []⟩, [.one (.d tB)], true, []⟩
def h_bytes_loads : Hi := ⟨[], [], [5], [], []⟩
theorem f_295 : Fn Q 295 f295 (codeOf f295) := ⟨by kernel_rfl, by kernel_rfl, by kernel_rfl, by kernel_rfl, by kernel_rfl⟩
noncomputable def bytes_loads (N : Nat) (x0 : Int) : Option Rs :=
 bi (decide (x0 ≥ 26)) (
  some (0, gB.dv (decide (x0 ≤ 30)) [])) <|
 some (0, gB.dv false [])
noncomputable def X_bytes_loads (N : Nat) : CE := (c_bytes_loads, mkF [pI] [pB] (bytes_loads N))
theorem Y_bytes_loads (N : Nat) : CEok Q (X_bytes_loads N) :=
 fnG (hi := h_bytes_loads) (l := []) (t := []) ti_ok hmix trivial trivial f_295 (by kernel_rfl) (by kernel_rfl) trivial fun ys => by kernel_rfl
def c_bytes_Load : CS := ⟨196, 269, ⟨[.one (.d (.sl tU)), .one (.d tI), .one (.d tW)], []⟩, [.one (.d tW)], true, []⟩
def s_bytes_Load_0 : LS := ⟨⟨[.one (.d (.sl tU)), .one (.d tI), .one (.d tW), .no, .no, .no, .no, .no, .one (.d tW)] ++ nos 14 ++ [.one (.d tI), .one (.d tI)] ++ nos 19, []⟩, [(1, ⟨[.no, .one (.d tI)] ++ nos 6 ++ [.one (.d tW)] ++ nos 35, []⟩)]⟩
def h_bytes_Load : Hi := ⟨[((1, 1), c_bytes_Size), ((2, 1), c_bytes_loads), ((2, 8), c_bytes_Check), ((10, 2), c_bytes_Sign)], [(0, s_bytes_Load_0)], [15, 22, 25], [], []⟩
theorem f_269 : Fn Q 269 f269 (codeOf f269) := ⟨by kernel_rfl, by kernel_rfl, by kernel_rfl, by kernel_rfl, by kernel_rfl⟩
noncomputable def T_bytes_Load (N : Nat) : List CE := [X_bytes_Size N, X_bytes_loads N, X_bytes_Check N, X_bytes_Sign N]
theorem TT_bytes_Load (N : Nat) : AllP (CEok Q) (T_bytes_Load N) := ⟨Y_bytes_Size N, Y_bytes_loads N, Y_bytes_Check N, Y_bytes_Sign N, trivial⟩
theorem A_bytes_Load (N : Nat) : AllP (fun e => lookC (T_bytes_Load N) e.2.id = some e.2) h_bytes_Load.cs := ⟨rfl, rfl, rfl, rfl, trivial⟩
noncomputable def bytes_Load_r0 (N : Nat) (again : Fn' (Option Rs) [pD (.sl tU), pI, pW, pW, pI, pI]) (x0 : List Int) (x1 : Int) (x2 : Int) (x3 : Int) (x4 : Int) (x5 : Int) : Option Rs :=
 bi (decide (x5 < x4)) (
  gd (idx (w.i64 ((w.i64 x2) + x5)) (List.length x0)) <|
  gf (decide ((w.i64 (8 * x5)) < 0)) <|
  again x0 x1 x2 (bitOr .u32 x3 (shl .u32 (w.u32 (List.getD x0 (Int.toNat (w.i64 ((w.i64 x2) + x5))) 0)) (w.i64 (8 * x5)))) x4 (w.i64 (x5 + 1))) <|
 some (1, gI.dv x1 (gW.dv x3 []))
noncomputable def bytes_Load_l0 (N : Nat) : Nat → Fn' (Option Rs) [pD (.sl tU), pI, pW, pW, pI, pI] := lpG (bytes_Load_r0 N)
noncomputable def L_bytes_Load_0 (N : Nat) : LE := (0, mkM [pD (.sl tU), pI, pW, pW, pI, pI] [(1, [pI, pW])] (bytes_Load_l0 N N))
theorem K_bytes_Load_0 (N : Nat) : LEok Q h_bytes_Load (bodOf f269) f269.ntmps 0 (L_bytes_Load_0 N) :=
 loopG (hi := h_bytes_Load) (l := T_bytes_Load N) (t := []) (r := bytes_Load_r0 N) ti_ok hmix (TT_bytes_Load N) (A_bytes_Load N) f_269 trivial (ls := s_bytes_Load_0) (body := bodyAt f269 0) (by kernel_rfl) (by kernel_rfl) fun A ys => by kernel_rfl
noncomputable def bytes_Load (N : Nat) (x0 : List Int) (x1 : Int) (x2 : Int) : Option Rs :=
 on1 (bytes_Size N x1) <| gg [pI] <| fun (x3 : Int) => 
 on1 (bytes_loads N x1) <| gg [pB] <| fun (x4 : Bool) => 
 bi (!x4) (
  some (0, gW.dv 0 [])) <|
 on1 (bytes_Check N x3 x2 (len x0)) <| gg [pI] <| fun (x5 : Int) => 
 bi (x5 != 0) (
  some (0, gW.dv 0 [])) <|
 onA 1 (bytes_Load_l0 N N x0 x1 x2 0 x3 0) <| gg [pI, pW] <| fun (x6 : Int) (x7 : Int) => 
 on1 (bytes_Sign N x6 x7) <| gg [pW] <| fun (x8 : Int) => 
 some (0, gW.dv x8 [])
noncomputable def X_bytes_Load (N : Nat) : CE := (c_bytes_Load, mkF [pD (.sl tU), pI, pW] [pW] (bytes_Load N))
theorem Y_bytes_Load (N : Nat) : CEok Q (X_bytes_Load N) :=
 fnG (hi := h_bytes_Load) (l := T_bytes_Load N) (t := [L_bytes_Load_0 N]) ti_ok hmix (TT_bytes_Load N) (A_bytes_Load N) f_269 (by kernel_rfl) (by kernel_rfl) ⟨K_bytes_Load_0 N, trivial⟩ fun ys => by kernel_rfl
def c_banks_load : CS := ⟨197, 236, ⟨[.one (.p 0 0 [1, 16, 16, 1, 1, 1, 1, 1, 1, 16, 16, 1, 1, 1, 1, 1, 1, 1, 1, 1, 1, 1, 1, 1, 1, 1, 1, 1, 1, 1, 1, 1]), .agg [.d tB, .d tI, .d tI, .d tI, .d tW, .d tI, .d tI, .d tI]], [q_8]⟩, [], false, [q_8]⟩
def h_banks_load : Hi := ⟨[((3, 9), c_bytes_Load), ((5, 8), c_slots_Fill)], [], [8, 12, 23, 41, 45], [], []⟩
theorem f_236 : Fn Q 236 f236 (codeOf f236) := ⟨by kernel_rfl, by kernel_rfl, by kernel_rfl, by kernel_rfl, by kernel_rfl⟩
noncomputable def banks_load (N : Nat) (x0 : api_Request) (x1 : api_State) : Option Rs :=
 bi (decide (x0.2.2.1 ≥ 0)) (
  bi (decide (x0.2.2.1 ≤ 4294967295)) (
   on1 (bytes_Load N x1.Mem x0.2.1 (w.u32 x0.2.2.1)) <| gg [pW] <| fun (x2 : Int) => 
   bi (decide (x0.2.2.2.2.2.2.1 < 0)) (
    on1 (slots_Fill N x1.Ldq x0.2.2.2.2.2.2.2.1 x2) <| gg [pD (.sl t_api_Slot), pB] <| fun (x3 : List api_Slot) (x4 : Bool) => 
    some (0, g_api_State.dv ({ x1 with Ldq := x3 } : api_State) [])) <|
   bi (decide (x0.2.2.2.2.2.2.1 ≥ 1)) (
    bi (decide (x0.2.2.2.2.2.2.1 ≤ 15)) (
     gd (idx x0.2.2.2.2.2.2.1 16) <|
     gd (idx x0.2.2.2.2.2.2.1 16) <|
     some (0, g_api_State.dv ({ x1 with A := { x1.A with Regs := (List.set x1.A.Regs x0.2.2.2.2.2.2.1.toNat x2), Ready := (List.set x1.A.Ready x0.2.2.2.2.2.2.1.toNat (w.i64 (x1.Cycle + 1))) } } : api_State) [])) <|
    some (0, g_api_State.dv x1 [])) <|
   some (0, g_api_State.dv x1 [])) <|
  bi (decide (x0.2.2.2.2.2.2.1 < 0)) (
   on1 (slots_Fill N x1.Ldq x0.2.2.2.2.2.2.2.1 0) <| gg [pD (.sl t_api_Slot), pB] <| fun (x5 : List api_Slot) (x6 : Bool) => 
   some (0, g_api_State.dv ({ x1 with Ldq := x5 } : api_State) [])) <|
  bi (decide (x0.2.2.2.2.2.2.1 ≥ 1)) (
   bi (decide (x0.2.2.2.2.2.2.1 ≤ 15)) (
    gd (idx x0.2.2.2.2.2.2.1 16) <|
    gd (idx x0.2.2.2.2.2.2.1 16) <|
    some (0, g_api_State.dv ({ x1 with A := { x1.A with Regs := (List.set x1.A.Regs x0.2.2.2.2.2.2.1.toNat 0), Ready := (List.set x1.A.Ready x0.2.2.2.2.2.2.1.toNat (w.i64 (x1.Cycle + 1))) } } : api_State) [])) <|
   some (0, g_api_State.dv x1 [])) <|
  some (0, g_api_State.dv x1 [])) <|
 bi (decide (x0.2.2.2.2.2.2.1 < 0)) (
  on1 (slots_Fill N x1.Ldq x0.2.2.2.2.2.2.2.1 0) <| gg [pD (.sl t_api_Slot), pB] <| fun (x7 : List api_Slot) (x8 : Bool) => 
  some (0, g_api_State.dv ({ x1 with Ldq := x7 } : api_State) [])) <|
 bi (decide (x0.2.2.2.2.2.2.1 ≥ 1)) (
  bi (decide (x0.2.2.2.2.2.2.1 ≤ 15)) (
   gd (idx x0.2.2.2.2.2.2.1 16) <|
   gd (idx x0.2.2.2.2.2.2.1 16) <|
   some (0, g_api_State.dv ({ x1 with A := { x1.A with Regs := (List.set x1.A.Regs x0.2.2.2.2.2.2.1.toNat 0), Ready := (List.set x1.A.Ready x0.2.2.2.2.2.2.1.toNat (w.i64 (x1.Cycle + 1))) } } : api_State) [])) <|
  some (0, g_api_State.dv x1 [])) <|
 some (0, g_api_State.dv x1 [])
noncomputable def X_banks_load (N : Nat) : CE := (c_banks_load, mkF [p_api_Request, p_api_State] [p_api_State] (banks_load N))
theorem Y_banks_load (N : Nat) : CEok Q (X_banks_load N) :=
 fnG (hi := h_banks_load) (l := [X_bytes_Load N, X_slots_Fill N]) (t := []) ti_ok hmix ⟨Y_bytes_Load N, Y_slots_Fill N, trivial⟩ ⟨rfl, rfl, trivial⟩ f_236 (by kernel_rfl) (by kernel_rfl) trivial fun ys => by kernel_rfl
def c_banks_end : CS := ⟨198, 168, ⟨[.one (.p 0 0 [1, 16, 16, 1, 1, 1, 1, 1, 1, 16, 16, 1, 1, 1, 1, 1, 1, 1, 1, 1, 1, 1, 1, 1, 1, 1, 1, 1, 1, 1, 1, 1])], [q_1]⟩, [], false, [q_1]⟩
def s_banks_end_0 : LS := ⟨⟨[.one (.p 0 0 [1, 16, 16, 1, 1, 1, 1, 1, 1, 16, 16, 1, 1, 1, 1, 1, 1, 1, 1, 1, 1, 1, 1, 1, 1, 1, 1, 1, 1, 1, 1, 1]), .no, .one (.o t_api_Request), .no, .no, .no, .no, .no, .one (.d (.sl t_api_Request)), .one (.d tI), .one (.d tI)] ++ nos 30, [q_8]⟩, [(1, ⟨[.one (.p 0 0 [1, 16, 16, 1, 1, 1, 1, 1, 1, 16, 16, 1, 1, 1, 1, 1, 1, 1, 1, 1, 1, 1, 1, 1, 1, 1, 1, 1, 1, 1, 1, 1]), .no, .one (.o t_api_Request)] ++ nos 38, [q_8]⟩)]⟩
def h_banks_end : Hi := ⟨[((8, 2), c_banks_store), ((9, 2), c_banks_load)], [(0, s_banks_end_0)], [11, 16, 23, 25], [], []⟩
theorem f_168 : Fn Q 168 f168 (codeOf f168) := ⟨by kernel_rfl, by kernel_rfl, by kernel_rfl, by kernel_rfl, by kernel_rfl⟩
noncomputable def T_banks_end (N : Nat) : List CE := [X_banks_store N, X_banks_load N]
theorem TT_banks_end (N : Nat) : AllP (CEok Q) (T_banks_end N) := ⟨Y_banks_store N, Y_banks_load N, trivial⟩
theorem A_banks_end (N : Nat) : AllP (fun e => lookC (T_banks_end N) e.2.id = some e.2) h_banks_end.cs := ⟨rfl, rfl, trivial⟩
noncomputable def banks_end_r0 (N : Nat) (again : Fn' (Option Rs) [pD (.sl t_api_Request), pD (.sl t_api_Request), pI, pI, p_api_State]) (x0 : List api_Request) (x1 : List api_Request) (x2 : Int) (x3 : Int) (x4 : api_State) : Option Rs :=
 bi (decide (x3 < x2)) (
  gd (idx x3 (List.length x1)) <|
  bi (decide ((List.getD x1 x3.toNat api_Request.z).2.2.2.2.2.1 > 0)) (
   bi ((w.i64 ((List.getD x1 x3.toNat api_Request.z).2.2.2.2.2.1 - 1)) == 0) (
    bi ((List.getD x1 x3.toNat api_Request.z).1) (
     on1 (banks_store N ((List.getD x1 x3.toNat api_Request.z).1, ((List.getD x1 x3.toNat api_Request.z).2.1, ((List.getD x1 x3.toNat api_Request.z).2.2.1, ((List.getD x1 x3.toNat api_Request.z).2.2.2.1, ((List.getD x1 x3.toNat api_Request.z).2.2.2.2.1, ((w.i64 ((List.getD x1 x3.toNat api_Request.z).2.2.2.2.2.1 - 1)), (List.getD x1 x3.toNat api_Request.z).2.2.2.2.2.2)))))) x4) <| gg [p_api_State] <| fun (x5 : api_State) => 
     again x0 x1 x2 (w.i64 (x3 + 1)) x5) <|
    on1 (banks_load N ((List.getD x1 x3.toNat api_Request.z).1, ((List.getD x1 x3.toNat api_Request.z).2.1, ((List.getD x1 x3.toNat api_Request.z).2.2.1, ((List.getD x1 x3.toNat api_Request.z).2.2.2.1, ((List.getD x1 x3.toNat api_Request.z).2.2.2.2.1, ((w.i64 ((List.getD x1 x3.toNat api_Request.z).2.2.2.2.2.1 - 1)), (List.getD x1 x3.toNat api_Request.z).2.2.2.2.2.2)))))) x4) <| gg [p_api_State] <| fun (x6 : api_State) => 
    again x0 x1 x2 (w.i64 (x3 + 1)) x6) <|
   gd (rm x0 [((List.getD x1 x3.toNat api_Request.z).1, ((List.getD x1 x3.toNat api_Request.z).2.1, ((List.getD x1 x3.toNat api_Request.z).2.2.1, ((List.getD x1 x3.toNat api_Request.z).2.2.2.1, ((List.getD x1 x3.toNat api_Request.z).2.2.2.2.1, ((w.i64 ((List.getD x1 x3.toNat api_Request.z).2.2.2.2.2.1 - 1)), (List.getD x1 x3.toNat api_Request.z).2.2.2.2.2.2))))))] 64) <|
   again (x0 ++ [((List.getD x1 x3.toNat api_Request.z).1, ((List.getD x1 x3.toNat api_Request.z).2.1, ((List.getD x1 x3.toNat api_Request.z).2.2.1, ((List.getD x1 x3.toNat api_Request.z).2.2.2.1, ((List.getD x1 x3.toNat api_Request.z).2.2.2.2.1, ((w.i64 ((List.getD x1 x3.toNat api_Request.z).2.2.2.2.2.1 - 1)), (List.getD x1 x3.toNat api_Request.z).2.2.2.2.2.2))))))]) x1 x2 (w.i64 (x3 + 1)) x4) <|
  gd (rm x0 [(List.getD x1 x3.toNat api_Request.z)] 64) <|
  again (x0 ++ [(List.getD x1 x3.toNat api_Request.z)]) x1 x2 (w.i64 (x3 + 1)) x4) <|
 some (1, (gD (.sl t_api_Request)).dv x0 (g_api_State.dv x4 []))
noncomputable def banks_end_l0 (N : Nat) : Nat → Fn' (Option Rs) [pD (.sl t_api_Request), pD (.sl t_api_Request), pI, pI, p_api_State] := lpG (banks_end_r0 N)
noncomputable def L_banks_end_0 (N : Nat) : LE := (0, mkM [pD (.sl t_api_Request), pD (.sl t_api_Request), pI, pI, p_api_State] [(1, [pD (.sl t_api_Request), p_api_State])] (banks_end_l0 N N))
theorem K_banks_end_0 (N : Nat) : LEok Q h_banks_end (bodOf f168) f168.ntmps 1 (L_banks_end_0 N) :=
 loopG (hi := h_banks_end) (l := T_banks_end N) (t := []) (r := banks_end_r0 N) ti_ok hmix (TT_banks_end N) (A_banks_end N) f_168 trivial (ls := s_banks_end_0) (body := bodyAt f168 0) (by kernel_rfl) (by kernel_rfl) fun A ys => by kernel_rfl
noncomputable def banks_end (N : Nat) (x0 : api_State) : Option Rs :=
 onA 1 (banks_end_l0 N N ([] : List api_Request) x0.Table (len x0.Table) 0 x0) <| gg [pD (.sl t_api_Request), p_api_State] <| fun (x1 : List api_Request) (x2 : api_State) => 
 some (0, g_api_State.dv ({ x2 with Table := x1 } : api_State) [])
noncomputable def X_banks_end (N : Nat) : CE := (c_banks_end, mkF [p_api_State] [p_api_State] (banks_end N))
theorem Y_banks_end (N : Nat) : CEok Q (X_banks_end N) :=
 fnG (hi := h_banks_end) (l := T_banks_end N) (t := [L_banks_end_0 N]) ti_ok hmix (TT_banks_end N) (A_banks_end N) f_168 (by kernel_rfl) (by kernel_rfl) ⟨K_banks_end_0 N, trivial⟩ fun ys => by kernel_rfl
def c_banks_nth : CS := ⟨199, 270, ⟨[.one (.d (.sl tI)), .one (.d tI), .one (.d tI)], []⟩, [.one (.d tI)], true, []⟩
def h_banks_nth : Hi := ⟨[], [], [10, 14, 17], [], []⟩
theorem f_270 : Fn Q 270 f270 (codeOf f270) := ⟨by kernel_rfl, by kernel_rfl, by kernel_rfl, by kernel_rfl, by kernel_rfl⟩
noncomputable def banks_nth (N : Nat) (x0 : List Int) (x1 : Int) (x2 : Int) : Option Rs :=
 bi ((len x0) == 0) (
  some (0, gI.dv 0 [])) <|
 bi (decide (x1 < 0)) (
  some (0, gI.dv 0 [])) <|
 bi (decide (x2 < 1)) (
  some (0, gI.dv 0 [])) <|
 gf (decide ((len x0) = 0)) <|
 gd (idx (Int.tmod x1 (len x0)) (List.length x0)) <|
 gf (decide (x2 = 0)) <|
 some (0, gI.dv (Int.tmod (bitAnd .i64 (List.getD x0 (Int.toNat (Int.tmod x1 (len x0))) 0) 1073741823) x2) [])
noncomputable def X_banks_nth (N : Nat) : CE := (c_banks_nth, mkF [pD (.sl tI), pI, pI] [pI] (banks_nth N))
theorem Y_banks_nth (N : Nat) : CEok Q (X_banks_nth N) :=
 fnG (hi := h_banks_nth) (l := []) (t := []) ti_ok hmix trivial trivial f_270 (by kernel_rfl) (by kernel_rfl) trivial fun ys => by kernel_rfl
def c_banks_Pick : CS := ⟨200, 238, ⟨[.agg [.d (.sl tI), .d (.sl tI)], .one (.d tI), .one (.d tI)], []⟩, [.one (.d tI)], true, []⟩
def h_banks_Pick : Hi := ⟨[((1, 4), c_banks_nth)], [], [], [], []⟩
theorem f_238 : Fn Q 238 f238 (codeOf f238) := ⟨by kernel_rfl, by kernel_rfl, by kernel_rfl, by kernel_rfl, by kernel_rfl⟩
noncomputable def banks_Pick (N : Nat) (x0 : api_Script) (x1 : Int) (x2 : Int) : Option Rs :=
 on1 (banks_nth N x0.Picks x1 x2) <| gg [pI] <| fun (x3 : Int) => 
 some (0, gI.dv x3 [])
noncomputable def X_banks_Pick (N : Nat) : CE := (c_banks_Pick, mkF [p_api_Script, pI, pI] [pI] (banks_Pick N))
theorem Y_banks_Pick (N : Nat) : CEok Q (X_banks_Pick N) :=
 fnG (hi := h_banks_Pick) (l := [X_banks_nth N]) (t := []) ti_ok hmix ⟨Y_banks_nth N, trivial⟩ ⟨rfl, trivial⟩ f_238 (by kernel_rfl) (by kernel_rfl) trivial fun ys => by kernel_rfl
def c_banks_Lat : CS := ⟨201, 239, ⟨[.agg [.d (.sl tI), .d (.sl tI)], .one (.d tI), .one (.d tI)], []⟩, [.one (.d tI)], true, []⟩
def h_banks_Lat : Hi := ⟨[((1, 4), c_banks_nth)], [], [], [], []⟩
theorem f_239 : Fn Q 239 f239 (codeOf f239) := ⟨by kernel_rfl, by kernel_rfl, by kernel_rfl, by kernel_rfl, by kernel_rfl⟩
noncomputable def banks_Lat (N : Nat) (x0 : api_Script) (x1 : Int) (x2 : Int) : Option Rs :=
 on1 (banks_nth N x0.Lats x1 x2) <| gg [pI] <| fun (x3 : Int) => 
 some (0, gI.dv (w.i64 (1 + x3)) [])
noncomputable def X_banks_Lat (N : Nat) : CE := (c_banks_Lat, mkF [p_api_Script, pI, pI] [pI] (banks_Lat N))
theorem Y_banks_Lat (N : Nat) : CEok Q (X_banks_Lat N) :=
 fnG (hi := h_banks_Lat) (l := [X_banks_nth N]) (t := []) ti_ok hmix ⟨Y_banks_nth N, trivial⟩ ⟨rfl, trivial⟩ f_239 (by kernel_rfl) (by kernel_rfl) trivial fun ys => by kernel_rfl
def c_banks_Bank : CS := ⟨202, 237, ⟨[.one (.d tI), .one (.d tI)], []⟩, [.one (.d tI)], true, []⟩
def h_banks_Bank : Hi := ⟨[], [], [7, 10], [], []⟩
theorem f_237 : Fn Q 237 f237 (codeOf f237) := ⟨by kernel_rfl, by kernel_rfl, by kernel_rfl, by kernel_rfl, by kernel_rfl⟩
noncomputable def banks_Bank (N : Nat) (x0 : Int) (x1 : Int) : Option Rs :=
 bi (decide (x0 < 0)) (
  some (0, gI.dv 0 [])) <|
 bi (decide (x1 < 1)) (
  some (0, gI.dv 0 [])) <|
 gf (decide ((4 : Int) = (0 : Int))) <|
 gf (decide (x1 = 0)) <|
 some (0, gI.dv (Int.tmod (w.i64 (Int.tdiv x0 4)) x1) [])
noncomputable def X_banks_Bank (N : Nat) : CE := (c_banks_Bank, mkF [pI, pI] [pI] (banks_Bank N))
theorem Y_banks_Bank (N : Nat) : CEok Q (X_banks_Bank N) :=
 fnG (hi := h_banks_Bank) (l := []) (t := []) ti_ok hmix trivial trivial f_237 (by kernel_rfl) (by kernel_rfl) trivial fun ys => by kernel_rfl
def c_banks_begin : CS := ⟨203, 169, ⟨[.agg q_5, .agg [.d (.sl tI), .d (.sl tI)], .one (.p 0 0 [1, 16, 16, 1, 1, 1, 1, 1, 1, 16, 16, 1, 1, 1, 1, 1, 1, 1, 1, 1, 1, 1, 1, 1, 1, 1, 1, 1, 1, 1, 1, 1]), .one (.d tI)], [q_1]⟩, [], false, [q_1]⟩
def s_banks_begin_0 : LS := ⟨⟨[.no, .no, .one (.p 0 0 [1, 16, 16, 1, 1, 1, 1, 1, 1, 16, 16, 1, 1, 1, 1, 1, 1, 1, 1, 1, 1, 1, 1, 1, 1, 1, 1, 1, 1, 1, 1, 1]), .one (.d tI), .one (.p 1 0 [1, 1, 1, 1, 1, 1, 1, 1, 1, 1, 1, 1]), .one (.p 2 0 [1, 1]), .no, .no, .one (.o tI)] ++ nos 6 ++ [.one (.hd 0 23), .one (.d tI), .one (.d tI)] ++ nos 70, [q_1, q_5, [.d (.sl tI), .d (.sl tI)]]⟩, [(0, ⟨nos 88, [q_1]⟩), (1, ⟨[.no, .no, .one (.p 0 0 [1, 16, 16, 1, 1, 1, 1, 1, 1, 16, 16, 1, 1, 1, 1, 1, 1, 1, 1, 1, 1, 1, 1, 1, 1, 1, 1, 1, 1, 1, 1, 1]), .no, .one (.p 1 0 [1, 1, 1, 1, 1, 1, 1, 1, 1, 1, 1, 1]), .one (.p 2 0 [1, 1]), .no, .no, .one (.o tI)] ++ nos 79, [q_1, q_5, [.d (.sl tI), .d (.sl tI)]]⟩)]⟩
def h_banks_begin : Hi := ⟨[((5, 4), c_banks_Bank), ((13, 7), c_banks_Pick), ((15, 15), c_banks_Lat)], [(0, s_banks_begin_0)], [18, 28, 31, 34, 40, 44], [], []⟩
theorem f_169 : Fn Q 169 f169 (codeOf f169) := ⟨by kernel_rfl, by kernel_rfl, by kernel_rfl, by kernel_rfl, by kernel_rfl⟩
noncomputable def T_banks_begin (N : Nat) : List CE := [X_banks_Bank N, X_banks_Pick N, X_banks_Lat N]
theorem TT_banks_begin (N : Nat) : AllP (CEok Q) (T_banks_begin N) := ⟨Y_banks_Bank N, Y_banks_Pick N, Y_banks_Lat N, trivial⟩
theorem A_banks_begin (N : Nat) : AllP (fun e => lookC (T_banks_begin N) e.2.id = some e.2) h_banks_begin.cs := ⟨rfl, rfl, rfl, trivial⟩
noncomputable def banks_begin_r0 (N : Nat) (again : Fn' (Option Rs) [pI, pD (.sl tI), pI, pI, p_api_State, p_api_Config, p_api_Script]) (x0 : Int) (x1 : List Int) (x2 : Int) (x3 : Int) (x4 : api_State) (x5 : api_Config) (x6 : api_Script) : Option Rs :=
 bi (decide (x3 < x2)) (
  gd (idx x3 (List.length x4.Table)) <|
  on1 (banks_Bank N ((List.getD x4.Table x3.toNat api_Request.z).2.2.1) x5.Banks) <| gg [pI] <| fun (x7 : Int) => 
  bi (x7 != x0) (
   again x0 x1 x2 (w.i64 (x3 + 1)) x4 x5 x6) <|
  bi (decide ((List.getD x4.Table x3.toNat api_Request.z).2.2.2.2.2.1 > 0)) (
   some (0, g_api_State.dv x4 [])) <|
  bi ((List.getD x4.Table x3.toNat api_Request.z).2.2.2.2.2.1 == 0) (
   gd (rm x1 [x3] 8) <|
   again x0 (x1 ++ [x3]) x2 (w.i64 (x3 + 1)) x4 x5 x6) <|
  again x0 x1 x2 (w.i64 (x3 + 1)) x4 x5 x6) <|
 some (1, (gD (.sl tI)).dv x1 (g_api_State.dv x4 (g_api_Config.dv x5 (g_api_Script.dv x6 []))))
noncomputable def banks_begin_l0 (N : Nat) : Nat → Fn' (Option Rs) [pI, pD (.sl tI), pI, pI, p_api_State, p_api_Config, p_api_Script] := lpG (banks_begin_r0 N)
noncomputable def L_banks_begin_0 (N : Nat) : LE := (0, mkM [pI, pD (.sl tI), pI, pI, p_api_State, p_api_Config, p_api_Script] [(0, [p_api_State]), (1, [pD (.sl tI), p_api_State, p_api_Config, p_api_Script])] (banks_begin_l0 N N))
theorem K_banks_begin_0 (N : Nat) : LEok Q h_banks_begin (bodOf f169) f169.ntmps 1 (L_banks_begin_0 N) :=
 loopG (hi := h_banks_begin) (l := T_banks_begin N) (t := []) (r := banks_begin_r0 N) ti_ok hmix (TT_banks_begin N) (A_banks_begin N) f_169 trivial (ls := s_banks_begin_0) (body := bodyAt f169 0) (by kernel_rfl) (by kernel_rfl) fun A ys => by kernel_rfl
noncomputable def banks_begin (N : Nat) (x0 : api_Config) (x1 : api_Script) (x2 : Int) (x3 : api_State) : Option Rs :=
 onB 0 1 (banks_begin_l0 N N x2 ([] : List Int) (len x3.Table) 0 x3 x0 x1) (gg [p_api_State] <| fun (x4 : api_State) => 
  some (0, g_api_State.dv x4 [])) <| gg [pD (.sl tI), p_api_State, p_api_Config, p_api_Script] <| fun (x5 : List Int) (x6 : api_State) (x7 : api_Config) (x8 : api_Script) => 
 bi ((len x5) == 0) (
  some (0, g_api_State.dv x6 [])) <|
 bi (decide ((len x5) > 1)) (
  on1 (banks_Pick N x8 x6.Picks (len x5)) <| gg [pI] <| fun (x9 : Int) => 
  gd (idx x9 (List.length x5)) <|
  on1 (banks_Lat N x8 x6.Lats x7.Lat) <| gg [pI] <| fun (x10 : Int) => 
  gd (idx (List.getD x5 x9.toNat 0) (List.length x6.Table)) <|
  some (0, g_api_State.dv ({ x6 with Table := (List.set x6.Table (Int.toNat (List.getD x5 x9.toNat 0)) ((List.getD x6.Table (Int.toNat (List.getD x5 x9.toNat 0)) api_Request.z).1, ((List.getD x6.Table (Int.toNat (List.getD x5 x9.toNat 0)) api_Request.z).2.1, ((List.getD x6.Table (Int.toNat (List.getD x5 x9.toNat 0)) api_Request.z).2.2.1, ((List.getD x6.Table (Int.toNat (List.getD x5 x9.toNat 0)) api_Request.z).2.2.2.1, ((List.getD x6.Table (Int.toNat (List.getD x5 x9.toNat 0)) api_Request.z).2.2.2.2.1, (x10, (List.getD x6.Table (Int.toNat (List.getD x5 x9.toNat 0)) api_Request.z).2.2.2.2.2.2))))))), Lats := (w.i64 (x6.Lats + 1)), Picks := (w.i64 (x6.Picks + 1)) } : api_State) [])) <|
 gd (idx 0 (List.length x5)) <|
 on1 (banks_Lat N x8 x6.Lats x7.Lat) <| gg [pI] <| fun (x11 : Int) => 
 gd (idx (List.getD x5 0 0) (List.length x6.Table)) <|
 some (0, g_api_State.dv ({ x6 with Table := (List.set x6.Table (Int.toNat (List.getD x5 0 0)) ((List.getD x6.Table (Int.toNat (List.getD x5 0 0)) api_Request.z).1, ((List.getD x6.Table (Int.toNat (List.getD x5 0 0)) api_Request.z).2.1, ((List.getD x6.Table (Int.toNat (List.getD x5 0 0)) api_Request.z).2.2.1, ((List.getD x6.Table (Int.toNat (List.getD x5 0 0)) api_Request.z).2.2.2.1, ((List.getD x6.Table (Int.toNat (List.getD x5 0 0)) api_Request.z).2.2.2.2.1, (x11, (List.getD x6.Table (Int.toNat (List.getD x5 0 0)) api_Request.z).2.2.2.2.2.2))))))), Lats := (w.i64 (x6.Lats + 1)) } : api_State) [])
noncomputable def X_banks_begin (N : Nat) : CE := (c_banks_begin, mkF [p_api_Config, p_api_Script, pI, p_api_State] [p_api_State] (banks_begin N))
theorem Y_banks_begin (N : Nat) : CEok Q (X_banks_begin N) :=
 fnG (hi := h_banks_begin) (l := T_banks_begin N) (t := [L_banks_begin_0 N]) ti_ok hmix (TT_banks_begin N) (A_banks_begin N) f_169 (by kernel_rfl) (by kernel_rfl) ⟨K_banks_begin_0 N, trivial⟩ fun ys => by kernel_rfl
def c_banks_Move : CS := ⟨204, 109, ⟨[.agg q_5, .agg [.d (.sl tI), .d (.sl tI)], .one (.p 0 0 [1, 16, 16, 1, 1, 1, 1, 1, 1, 16, 16, 1, 1, 1, 1, 1, 1, 1, 1, 1, 1, 1, 1, 1, 1, 1, 1, 1, 1, 1, 1, 1])], [q_1]⟩, [], false, [q_1]⟩
def s_banks_Move_0 : LS := ⟨⟨[.no, .no, .one (.p 0 0 [1, 16, 16, 1, 1, 1, 1, 1, 1, 16, 16, 1, 1, 1, 1, 1, 1, 1, 1, 1, 1, 1, 1, 1, 1, 1, 1, 1, 1, 1, 1, 1]), .one (.p 1 0 [1, 1, 1, 1, 1, 1, 1, 1, 1, 1, 1, 1]), .one (.p 2 0 [1, 1])] ++ nos 23 ++ [.one (.d tI), .one (.d tI)] ++ nos 8, [q_1, q_5, [.d (.sl tI), .d (.sl tI)]]⟩, [(1, ⟨nos 38, [q_1]⟩)]⟩
def h_banks_Move : Hi := ⟨[((2, 1), c_banks_end), ((6, 4), c_banks_begin)], [(0, s_banks_Move_0)], [10, 15, 20, 24, 30], [], []⟩
theorem f_109 : Fn Q 109 f109 (codeOf f109) := ⟨by kernel_rfl, by kernel_rfl, by kernel_rfl, by kernel_rfl, by kernel_rfl⟩
noncomputable def T_banks_Move (N : Nat) : List CE := [X_banks_end N, X_banks_begin N]
theorem TT_banks_Move (N : Nat) : AllP (CEok Q) (T_banks_Move N) := ⟨Y_banks_end N, Y_banks_begin N, trivial⟩
theorem A_banks_Move (N : Nat) : AllP (fun e => lookC (T_banks_Move N) e.2.id = some e.2) h_banks_Move.cs := ⟨rfl, rfl, trivial⟩
noncomputable def banks_Move_r0 (N : Nat) (again : Fn' (Option Rs) [pI, pI, p_api_State, p_api_Config, p_api_Script]) (x0 : Int) (x1 : Int) (x2 : api_State) (x3 : api_Config) (x4 : api_Script) : Option Rs :=
 bi (decide (x1 < x0)) (
  on1 (banks_begin N x3 x4 x1 x2) <| gg [p_api_State] <| fun (x5 : api_State) => 
  again x0 (w.i64 (x1 + 1)) x5 x3 x4) <|
 some (1, g_api_State.dv x2 [])
noncomputable def banks_Move_l0 (N : Nat) : Nat → Fn' (Option Rs) [pI, pI, p_api_State, p_api_Config, p_api_Script] := lpG (banks_Move_r0 N)
noncomputable def L_banks_Move_0 (N : Nat) : LE := (0, mkM [pI, pI, p_api_State, p_api_Config, p_api_Script] [(1, [p_api_State])] (banks_Move_l0 N N))
theorem K_banks_Move_0 (N : Nat) : LEok Q h_banks_Move (bodOf f109) f109.ntmps 1 (L_banks_Move_0 N) :=
 loopG (hi := h_banks_Move) (l := T_banks_Move N) (t := []) (r := banks_Move_r0 N) ti_ok hmix (TT_banks_Move N) (A_banks_Move N) f_109 trivial (ls := s_banks_Move_0) (body := bodyAt f109 0) (by kernel_rfl) (by kernel_rfl) fun A ys => by kernel_rfl
noncomputable def banks_Move (N : Nat) (x0 : api_Config) (x1 : api_Script) (x2 : api_State) : Option Rs :=
 bi (decide (x0.Banks < 1)) (
  some (0, g_api_State.dv x2 [])) <|
 bi (decide (x0.Banks > 16)) (
  some (0, g_api_State.dv x2 [])) <|
 bi (decide (x0.Lat < 1)) (
  some (0, g_api_State.dv x2 [])) <|
 bi (decide (x0.Lat > 1000)) (
  some (0, g_api_State.dv x2 [])) <|
 on1 (banks_end N x2) <| gg [p_api_State] <| fun (x3 : api_State) => 
 onA 1 (banks_Move_l0 N N x0.Banks 0 x3 x0 x1) <| gg [p_api_State] <| fun (x4 : api_State) => 
 some (0, g_api_State.dv x4 [])
noncomputable def X_banks_Move (N : Nat) : CE := (c_banks_Move, mkF [p_api_Config, p_api_Script, p_api_State] [p_api_State] (banks_Move N))
theorem Y_banks_Move (N : Nat) : CEok Q (X_banks_Move N) :=
 fnG (hi := h_banks_Move) (l := T_banks_Move N) (t := [L_banks_Move_0 N]) ti_ok hmix (TT_banks_Move N) (A_banks_Move N) f_109 (by kernel_rfl) (by kernel_rfl) ⟨K_banks_Move_0 N, trivial⟩ fun ys => by kernel_rfl
def c_commit_can_1 : CS := ⟨205, 240, ⟨[.agg [.d tB, .d tI, .d tI, .d tI, .d tW, .d tI, .d tI, .d tI], .one (.p 0 0 [1, 1, 1, 1, 1])], [[.d tI, .d tI, .d tI, .d tB, .d tW]]⟩, [.one (.d tB)], true, [[.d tI, .d tI, .d tI, .d tB, .d tW]]⟩
def h_commit_can_1 : Hi := ⟨[((1, 12), c_bytes_Overlap)], [], [7], [], []⟩
theorem f_240 : Fn Q 240 f240 (codeOf f240) := ⟨by kernel_rfl, by kernel_rfl, by kernel_rfl, by kernel_rfl, by kernel_rfl⟩
noncomputable def commit_can_1 (N : Nat) (x0 : api_Request) (x1 : api_Entry) : Option Rs :=
 bi (!x0.1) (
  on1 (bytes_Overlap N x0.2.2.1 x0.2.2.2.1 x1.1 x1.2.1) <| gg [pB] <| fun (x2 : Bool) => 
  some (0, gB.dv x2 (g_api_Entry.dv x1 []))) <|
 some (0, gB.dv false (g_api_Entry.dv x1 []))
noncomputable def X_commit_can_1 (N : Nat) : CE := (c_commit_can_1, mkF [p_api_Request, p_api_Entry] [pB, p_api_Entry] (commit_can_1 N))
theorem Y_commit_can_1 (N : Nat) : CEok Q (X_commit_can_1 N) :=
 fnG (hi := h_commit_can_1) (l := [X_bytes_Overlap N]) (t := []) ti_ok hmix ⟨Y_bytes_Overlap N, trivial⟩ ⟨rfl, trivial⟩ f_240 (by kernel_rfl) (by kernel_rfl) trivial fun ys => by kernel_rfl
def c_sl_IndexFunc_api_Request_2 : CS := ⟨206, 261, ⟨[.one (.d (.sl t_api_Request)), .one (.f 240 [⟨0, 0, [1, 1, 1, 1, 1]⟩])], [[.d tI, .d tI, .d tI, .d tB, .d tW]]⟩, [.one (.d tI)], true, [[.d tI, .d tI, .d tI, .d tB, .d tW]]⟩
def s_sl_IndexFunc_api_Request_2_0 : LS := ⟨⟨[.one (.d (.sl t_api_Request)), .one (.f 240 [⟨0, 0, [1, 1, 1, 1, 1]⟩]), .no, .no, .no, .no, .no, .one (.d tI), .one (.d tI)] ++ nos 10, [[.d tI, .d tI, .d tI, .d tB, .d tW]]⟩, [(0, ⟨[.no, .no, .no, .no, .one (.d tI)] ++ nos 14, [[.d tI, .d tI, .d tI, .d tB, .d tW]]⟩), (1, ⟨nos 19, [[.d tI, .d tI, .d tI, .d tB, .d tW]]⟩)]⟩
def h_sl_IndexFunc_api_Request_2 : Hi := ⟨[((4, 5), c_commit_can_1)], [(0, s_sl_IndexFunc_api_Request_2_0)], [9, 16], [], []⟩
noncomputable def T_sl_IndexFunc_api_Request_2 (N : Nat) : List CE := [X_commit_can_1 N]
theorem TT_sl_IndexFunc_api_Request_2 (N : Nat) : AllP (CEok Q) (T_sl_IndexFunc_api_Request_2 N) := ⟨Y_commit_can_1 N, trivial⟩
theorem A_sl_IndexFunc_api_Request_2 (N : Nat) : AllP (fun e => lookC (T_sl_IndexFunc_api_Request_2 N) e.2.id = some e.2) h_sl_IndexFunc_api_Request_2.cs := ⟨rfl, trivial⟩
noncomputable def sl_IndexFunc_api_Request_2_r0 (N : Nat) (again : Fn' (Option Rs) [pD (.sl t_api_Request), pI, pI, p_api_Entry]) (x0 : List api_Request) (x1 : Int) (x2 : Int) (x3 : api_Entry) : Option Rs :=
 bi (decide (x2 < x1)) (
  gd (idx x2 (List.length x0)) <|
  on1 (commit_can_1 N (List.getD x0 x2.toNat api_Request.z) x3) <| gg [pB, p_api_Entry] <| fun (x4 : Bool) (x5 : api_Entry) => 
  bi x4 (
   some (0, gI.dv x2 (g_api_Entry.dv x5 []))) <|
  again x0 x1 (w.i64 (x2 + 1)) x5) <|
 some (1, g_api_Entry.dv x3 [])
noncomputable def sl_IndexFunc_api_Request_2_l0 (N : Nat) : Nat → Fn' (Option Rs) [pD (.sl t_api_Request), pI, pI, p_api_Entry] := lpG (sl_IndexFunc_api_Request_2_r0 N)
noncomputable def L_sl_IndexFunc_api_Request_2_0 (N : Nat) : LE := (0, mkM [pD (.sl t_api_Request), pI, pI, p_api_Entry] [(0, [pI, p_api_Entry]), (1, [p_api_Entry])] (sl_IndexFunc_api_Request_2_l0 N N))
theorem K_sl_IndexFunc_api_Request_2_0 (N : Nat) : LEok Q h_sl_IndexFunc_api_Request_2 (bodOf f261) f261.ntmps 1 (L_sl_IndexFunc_api_Request_2_0 N) :=
 loopG (hi := h_sl_IndexFunc_api_Request_2) (l := T_sl_IndexFunc_api_Request_2 N) (t := []) (r := sl_IndexFunc_api_Request_2_r0 N) ti_ok hmix (TT_sl_IndexFunc_api_Request_2 N) (A_sl_IndexFunc_api_Request_2 N) f_261 trivial (ls := s_sl_IndexFunc_api_Request_2_0) (body := bodyAt f261 0) (by kernel_rfl) (by kernel_rfl) fun A ys => by kernel_rfl
noncomputable def sl_IndexFunc_api_Request_2 (N : Nat) (x0 : List api_Request) (x1 : api_Entry) : Option Rs :=
 onB 0 1 (sl_IndexFunc_api_Request_2_l0 N N x0 (len x0) 0 x1) (gg [pI, p_api_Entry] <| fun (x2 : Int) (x3 : api_Entry) => 
  some (0, gI.dv x2 (g_api_Entry.dv x3 []))) <| gg [p_api_Entry] <| fun (x4 : api_Entry) => 
 some (0, gI.dv (-1 : Int) (g_api_Entry.dv x4 []))
noncomputable def X_sl_IndexFunc_api_Request_2 (N : Nat) : CE := (c_sl_IndexFunc_api_Request_2, mkF [pD (.sl t_api_Request), p_api_Entry] [pI, p_api_Entry] (sl_IndexFunc_api_Request_2 N))
theorem Y_sl_IndexFunc_api_Request_2 (N : Nat) : CEok Q (X_sl_IndexFunc_api_Request_2 N) :=
 fnG (hi := h_sl_IndexFunc_api_Request_2) (l := T_sl_IndexFunc_api_Request_2 N) (t := [L_sl_IndexFunc_api_Request_2_0 N]) ti_ok hmix (TT_sl_IndexFunc_api_Request_2 N) (A_sl_IndexFunc_api_Request_2 N) f_261 (by kernel_rfl) (by kernel_rfl) ⟨K_sl_IndexFunc_api_Request_2_0 N, trivial⟩ fun ys => by kernel_rfl
def c_sl_ContainsFunc_api_Request_2 : CS := ⟨207, 217, ⟨[.one (.d (.sl t_api_Request)), .one (.f 240 [⟨0, 0, [1, 1, 1, 1, 1]⟩])], [[.d tI, .d tI, .d tI, .d tB, .d tW]]⟩, [.one (.d tB)], true, [[.d tI, .d tI, .d tI, .d tB, .d tW]]⟩
def h_sl_ContainsFunc_api_Request_2 : Hi := ⟨[((1, 2), c_sl_IndexFunc_api_Request_2)], [], [], [], []⟩
noncomputable def sl_ContainsFunc_api_Request_2 (N : Nat) (x0 : List api_Request) (x1 : api_Entry) : Option Rs :=
 on1 (sl_IndexFunc_api_Request_2 N x0 x1) <| gg [pI, p_api_Entry] <| fun (x2 : Int) (x3 : api_Entry) => 
 some (0, gB.dv (decide (x2 ≥ 0)) (g_api_Entry.dv x3 []))
noncomputable def X_sl_ContainsFunc_api_Request_2 (N : Nat) : CE := (c_sl_ContainsFunc_api_Request_2, mkF [pD (.sl t_api_Request), p_api_Entry] [pB, p_api_Entry] (sl_ContainsFunc_api_Request_2 N))
theorem Y_sl_ContainsFunc_api_Request_2 (N : Nat) : CEok Q (X_sl_ContainsFunc_api_Request_2 N) :=
 fnG (hi := h_sl_ContainsFunc_api_Request_2) (l := [X_sl_IndexFunc_api_Request_2 N]) (t := []) ti_ok hmix ⟨Y_sl_IndexFunc_api_Request_2 N, trivial⟩ ⟨rfl, trivial⟩ f_217 (by kernel_rfl) (by kernel_rfl) trivial fun ys => by kernel_rfl
def c_commit_can : CS := ⟨208, 170, ⟨[.agg q_5, .one (.r (.pair tI (.pair (.pair (.ar 16 tW) (.pair (.ar 16 tI) (.pair (.pair tI (.pair tI (.pair tI .unit))) (.pair tI (.pair tB (.pair tI .unit)))))) (.pair (.pair (.ar 16 tW) (.pair (.ar 16 tI) (.pair (.pair tI (.pair tI (.pair tI .unit))) (.pair tI (.pair tB (.pair tI .unit)))))) (.pair (.sl t_api_Slot) (.pair (.sl tW) (.pair (.sl tW) (.pair (.sl tB) (.pair (.sl tB) (.pair (.sl t_api_Entry) (.pair (.sl t_api_Request) (.pair (.sl tU) (.pair (.sl t_api_Write) (.pair (.pair tI (.pair tI (.pair tI .unit))) (.pair tI (.pair tI (.pair tI .unit)))))))))))))))))], []⟩, [.one (.d tB)], true, []⟩
def h_commit_can : Hi := ⟨[((6, 5), c_sl_ContainsFunc_api_Request_2)], [], [12, 21, 29, 38, 51, 60], [], []⟩
theorem f_170 : Fn Q 170 f170 (codeOf f170) := ⟨by kernel_rfl, by kernel_rfl, by kernel_rfl, by kernel_rfl, by kernel_rfl⟩
noncomputable def commit_can (N : Nat) (x0 : api_Config) (x1 : api_State) : Option Rs :=
 bi ((len x1.Saq) == 0) (
  some (0, gB.dv false [])) <|
 gd (idx 0 (List.length x1.Saq)) <|
 bi ((List.getD x1.Saq 0 api_Entry.z).2.2.2.1) (
  some (0, gB.dv false [])) <|
 bi ((len x1.Sdq) == 0) (
  some (0, gB.dv false [])) <|
 bi (decide ((len x1.Table) ≥ x0.Flight)) (
  some (0, gB.dv false [])) <|
 gd (idx 0 (List.length x1.Saq)) <|
 bi (x1.Trap.Kind != 0) (
  bi (decide ((List.getD x1.Saq 0 api_Entry.z).2.2.1 ≥ x1.Trap.Step)) (
   some (0, gB.dv false [])) <|
  on1 (sl_ContainsFunc_api_Request_2 N x1.Table (List.getD x1.Saq 0 api_Entry.z)) <| gg [pB, p_api_Entry] <| fun (x2 : Bool) (x3 : api_Entry) => 
  some (0, gB.dv (!x2) [])) <|
 on1 (sl_ContainsFunc_api_Request_2 N x1.Table (List.getD x1.Saq 0 api_Entry.z)) <| gg [pB, p_api_Entry] <| fun (x4 : Bool) (x5 : api_Entry) => 
 some (0, gB.dv (!x4) [])
noncomputable def X_commit_can (N : Nat) : CE := (c_commit_can, mkF [p_api_Config, pr_api_State] [pB] (commit_can N))
theorem Y_commit_can (N : Nat) : CEok Q (X_commit_can N) :=
 fnG (hi := h_commit_can) (l := [X_sl_ContainsFunc_api_Request_2 N]) (t := []) ti_ok hmix ⟨Y_sl_ContainsFunc_api_Request_2 N, trivial⟩ ⟨rfl, trivial⟩ f_170 (by kernel_rfl) (by kernel_rfl) trivial fun ys => by kernel_rfl
def c_saq_Mask : CS := ⟨209, 171, ⟨[.one (.d tW), .one (.d tI)], []⟩, [.one (.d tW)], true, []⟩
def h_saq_Mask : Hi := ⟨[], [], [6, 10, 14], [], []⟩
theorem f_171 : Fn Q 171 f171 (codeOf f171) := ⟨by kernel_rfl, by kernel_rfl, by kernel_rfl, by kernel_rfl, by kernel_rfl⟩
noncomputable def saq_Mask (N : Nat) (x0 : Int) (x1 : Int) : Option Rs :=
 bi (x1 == 1) (
  some (0, gW.dv (bitAnd .u32 x0 255) [])) <|
 bi (x1 == 2) (
  some (0, gW.dv (bitAnd .u32 x0 65535) [])) <|
 bi (x1 == 4) (
  some (0, gW.dv x0 [])) <|
 some (0, gW.dv 0 [])
noncomputable def X_saq_Mask (N : Nat) : CE := (c_saq_Mask, mkF [pW, pI] [pW] (saq_Mask N))
theorem Y_saq_Mask (N : Nat) : CEok Q (X_saq_Mask N) :=
 fnG (hi := h_saq_Mask) (l := []) (t := []) ti_ok hmix trivial trivial f_171 (by kernel_rfl) (by kernel_rfl) trivial fun ys => by kernel_rfl
def c_commit_op : CS := ⟨210, 172, ⟨[.one (.d tI)], []⟩, [.one (.d tI)], true, []⟩
def h_commit_op : Hi := ⟨[], [], [4, 6], [], []⟩
theorem f_172 : Fn Q 172 f172 (codeOf f172) := ⟨by kernel_rfl, by kernel_rfl, by kernel_rfl, by kernel_rfl, by kernel_rfl⟩
noncomputable def commit_op (N : Nat) (x0 : Int) : Option Rs :=
 bi (x0 == 1) (
  some (0, gI.dv 33 [])) <|
 bi (x0 == 2) (
  some (0, gI.dv 32 [])) <|
 some (0, gI.dv 31 [])
noncomputable def X_commit_op (N : Nat) : CE := (c_commit_op, mkF [pI] [pI] (commit_op N))
theorem Y_commit_op (N : Nat) : CEok Q (X_commit_op N) :=
 fnG (hi := h_commit_op) (l := []) (t := []) ti_ok hmix trivial trivial f_172 (by kernel_rfl) (by kernel_rfl) trivial fun ys => by kernel_rfl
def c_commit_Turn : CS := ⟨211, 110, ⟨[.agg q_5, .one (.p 0 0 [1, 16, 16, 1, 1, 1, 1, 1, 1, 16, 16, 1, 1, 1, 1, 1, 1, 1, 1, 1, 1, 1, 1, 1, 1, 1, 1, 1, 1, 1, 1, 1])], [q_1]⟩, [], false, [q_1]⟩
def h_commit_Turn : Hi := ⟨[((1, 2), c_commit_can), ((3, 12), c_saq_Mask), ((5, 9), c_commit_op)], [], [8], [], []⟩
theorem f_110 : Fn Q 110 f110 (codeOf f110) := ⟨by kernel_rfl, by kernel_rfl, by kernel_rfl, by kernel_rfl, by kernel_rfl⟩
noncomputable def commit_Turn (N : Nat) (x0 : api_Config) (x1 : api_State) : Option Rs :=
 on1 (commit_can N x0 x1) <| gg [pB] <| fun (x2 : Bool) => 
 bi (!x2) (
  some (0, g_api_State.dv x1 [])) <|
 gd (idx 0 (List.length x1.Saq)) <|
 gd (idx 0 (List.length x1.Sdq)) <|
 on1 (saq_Mask N (List.getD x1.Sdq 0 0) ((List.getD x1.Saq 0 api_Entry.z).2.1)) <| gg [pW] <| fun (x3 : Int) => 
 gd (sb 1 (len x1.Sdq)) <|
 on1 (commit_op N ((List.getD (List.set (List.set x1.Saq 0 ((List.getD x1.Saq 0 api_Entry.z).1, ((List.getD x1.Saq 0 api_Entry.z).2.1, ((List.getD x1.Saq 0 api_Entry.z).2.2.1, (true, (List.getD x1.Saq 0 api_Entry.z).2.2.2.2))))) 0 ((List.getD (List.set x1.Saq 0 ((List.getD x1.Saq 0 api_Entry.z).1, ((List.getD x1.Saq 0 api_Entry.z).2.1, ((List.getD x1.Saq 0 api_Entry.z).2.2.1, (true, (List.getD x1.Saq 0 api_Entry.z).2.2.2.2))))) 0 api_Entry.z).1, ((List.getD (List.set x1.Saq 0 ((List.getD x1.Saq 0 api_Entry.z).1, ((List.getD x1.Saq 0 api_Entry.z).2.1, ((List.getD x1.Saq 0 api_Entry.z).2.2.1, (true, (List.getD x1.Saq 0 api_Entry.z).2.2.2.2))))) 0 api_Entry.z).2.1, ((List.getD (List.set x1.Saq 0 ((List.getD x1.Saq 0 api_Entry.z).1, ((List.getD x1.Saq 0 api_Entry.z).2.1, ((List.getD x1.Saq 0 api_Entry.z).2.2.1, (true, (List.getD x1.Saq 0 api_Entry.z).2.2.2.2))))) 0 api_Entry.z).2.2.1, ((List.getD (List.set x1.Saq 0 ((List.getD x1.Saq 0 api_Entry.z).1, ((List.getD x1.Saq 0 api_Entry.z).2.1, ((List.getD x1.Saq 0 api_Entry.z).2.2.1, (true, (List.getD x1.Saq 0 api_Entry.z).2.2.2.2))))) 0 api_Entry.z).2.2.2.1, (x3, ())))))) 0 api_Entry.z).2.1)) <| gg [pI] <| fun (x4 : Int) => 
 gd (rm x1.Table [(true, (x4, ((List.getD (List.set (List.set x1.Saq 0 ((List.getD x1.Saq 0 api_Entry.z).1, ((List.getD x1.Saq 0 api_Entry.z).2.1, ((List.getD x1.Saq 0 api_Entry.z).2.2.1, (true, (List.getD x1.Saq 0 api_Entry.z).2.2.2.2))))) 0 ((List.getD (List.set x1.Saq 0 ((List.getD x1.Saq 0 api_Entry.z).1, ((List.getD x1.Saq 0 api_Entry.z).2.1, ((List.getD x1.Saq 0 api_Entry.z).2.2.1, (true, (List.getD x1.Saq 0 api_Entry.z).2.2.2.2))))) 0 api_Entry.z).1, ((List.getD (List.set x1.Saq 0 ((List.getD x1.Saq 0 api_Entry.z).1, ((List.getD x1.Saq 0 api_Entry.z).2.1, ((List.getD x1.Saq 0 api_Entry.z).2.2.1, (true, (List.getD x1.Saq 0 api_Entry.z).2.2.2.2))))) 0 api_Entry.z).2.1, ((List.getD (List.set x1.Saq 0 ((List.getD x1.Saq 0 api_Entry.z).1, ((List.getD x1.Saq 0 api_Entry.z).2.1, ((List.getD x1.Saq 0 api_Entry.z).2.2.1, (true, (List.getD x1.Saq 0 api_Entry.z).2.2.2.2))))) 0 api_Entry.z).2.2.1, ((List.getD (List.set x1.Saq 0 ((List.getD x1.Saq 0 api_Entry.z).1, ((List.getD x1.Saq 0 api_Entry.z).2.1, ((List.getD x1.Saq 0 api_Entry.z).2.2.1, (true, (List.getD x1.Saq 0 api_Entry.z).2.2.2.2))))) 0 api_Entry.z).2.2.2.1, (x3, ())))))) 0 api_Entry.z).1, ((List.getD (List.set (List.set x1.Saq 0 ((List.getD x1.Saq 0 api_Entry.z).1, ((List.getD x1.Saq 0 api_Entry.z).2.1, ((List.getD x1.Saq 0 api_Entry.z).2.2.1, (true, (List.getD x1.Saq 0 api_Entry.z).2.2.2.2))))) 0 ((List.getD (List.set x1.Saq 0 ((List.getD x1.Saq 0 api_Entry.z).1, ((List.getD x1.Saq 0 api_Entry.z).2.1, ((List.getD x1.Saq 0 api_Entry.z).2.2.1, (true, (List.getD x1.Saq 0 api_Entry.z).2.2.2.2))))) 0 api_Entry.z).1, ((List.getD (List.set x1.Saq 0 ((List.getD x1.Saq 0 api_Entry.z).1, ((List.getD x1.Saq 0 api_Entry.z).2.1, ((List.getD x1.Saq 0 api_Entry.z).2.2.1, (true, (List.getD x1.Saq 0 api_Entry.z).2.2.2.2))))) 0 api_Entry.z).2.1, ((List.getD (List.set x1.Saq 0 ((List.getD x1.Saq 0 api_Entry.z).1, ((List.getD x1.Saq 0 api_Entry.z).2.1, ((List.getD x1.Saq 0 api_Entry.z).2.2.1, (true, (List.getD x1.Saq 0 api_Entry.z).2.2.2.2))))) 0 api_Entry.z).2.2.1, ((List.getD (List.set x1.Saq 0 ((List.getD x1.Saq 0 api_Entry.z).1, ((List.getD x1.Saq 0 api_Entry.z).2.1, ((List.getD x1.Saq 0 api_Entry.z).2.2.1, (true, (List.getD x1.Saq 0 api_Entry.z).2.2.2.2))))) 0 api_Entry.z).2.2.2.1, (x3, ())))))) 0 api_Entry.z).2.1, ((List.getD (List.set (List.set x1.Saq 0 ((List.getD x1.Saq 0 api_Entry.z).1, ((List.getD x1.Saq 0 api_Entry.z).2.1, ((List.getD x1.Saq 0 api_Entry.z).2.2.1, (true, (List.getD x1.Saq 0 api_Entry.z).2.2.2.2))))) 0 ((List.getD (List.set x1.Saq 0 ((List.getD x1.Saq 0 api_Entry.z).1, ((List.getD x1.Saq 0 api_Entry.z).2.1, ((List.getD x1.Saq 0 api_Entry.z).2.2.1, (true, (List.getD x1.Saq 0 api_Entry.z).2.2.2.2))))) 0 api_Entry.z).1, ((List.getD (List.set x1.Saq 0 ((List.getD x1.Saq 0 api_Entry.z).1, ((List.getD x1.Saq 0 api_Entry.z).2.1, ((List.getD x1.Saq 0 api_Entry.z).2.2.1, (true, (List.getD x1.Saq 0 api_Entry.z).2.2.2.2))))) 0 api_Entry.z).2.1, ((List.getD (List.set x1.Saq 0 ((List.getD x1.Saq 0 api_Entry.z).1, ((List.getD x1.Saq 0 api_Entry.z).2.1, ((List.getD x1.Saq 0 api_Entry.z).2.2.1, (true, (List.getD x1.Saq 0 api_Entry.z).2.2.2.2))))) 0 api_Entry.z).2.2.1, ((List.getD (List.set x1.Saq 0 ((List.getD x1.Saq 0 api_Entry.z).1, ((List.getD x1.Saq 0 api_Entry.z).2.1, ((List.getD x1.Saq 0 api_Entry.z).2.2.1, (true, (List.getD x1.Saq 0 api_Entry.z).2.2.2.2))))) 0 api_Entry.z).2.2.2.1, (x3, ())))))) 0 api_Entry.z).2.2.2.2.1, api_Write.z)))))] 64) <|
 some (0, g_api_State.dv ({ x1 with Sdq := (List.drop 1 x1.Sdq), Saq := (List.set (List.set x1.Saq 0 ((List.getD x1.Saq 0 api_Entry.z).1, ((List.getD x1.Saq 0 api_Entry.z).2.1, ((List.getD x1.Saq 0 api_Entry.z).2.2.1, (true, (List.getD x1.Saq 0 api_Entry.z).2.2.2.2))))) 0 ((List.getD (List.set x1.Saq 0 ((List.getD x1.Saq 0 api_Entry.z).1, ((List.getD x1.Saq 0 api_Entry.z).2.1, ((List.getD x1.Saq 0 api_Entry.z).2.2.1, (true, (List.getD x1.Saq 0 api_Entry.z).2.2.2.2))))) 0 api_Entry.z).1, ((List.getD (List.set x1.Saq 0 ((List.getD x1.Saq 0 api_Entry.z).1, ((List.getD x1.Saq 0 api_Entry.z).2.1, ((List.getD x1.Saq 0 api_Entry.z).2.2.1, (true, (List.getD x1.Saq 0 api_Entry.z).2.2.2.2))))) 0 api_Entry.z).2.1, ((List.getD (List.set x1.Saq 0 ((List.getD x1.Saq 0 api_Entry.z).1, ((List.getD x1.Saq 0 api_Entry.z).2.1, ((List.getD x1.Saq 0 api_Entry.z).2.2.1, (true, (List.getD x1.Saq 0 api_Entry.z).2.2.2.2))))) 0 api_Entry.z).2.2.1, ((List.getD (List.set x1.Saq 0 ((List.getD x1.Saq 0 api_Entry.z).1, ((List.getD x1.Saq 0 api_Entry.z).2.1, ((List.getD x1.Saq 0 api_Entry.z).2.2.1, (true, (List.getD x1.Saq 0 api_Entry.z).2.2.2.2))))) 0 api_Entry.z).2.2.2.1, (x3, ())))))), Table := (x1.Table ++ [(true, (x4, ((List.getD (List.set (List.set x1.Saq 0 ((List.getD x1.Saq 0 api_Entry.z).1, ((List.getD x1.Saq 0 api_Entry.z).2.1, ((List.getD x1.Saq 0 api_Entry.z).2.2.1, (true, (List.getD x1.Saq 0 api_Entry.z).2.2.2.2))))) 0 ((List.getD (List.set x1.Saq 0 ((List.getD x1.Saq 0 api_Entry.z).1, ((List.getD x1.Saq 0 api_Entry.z).2.1, ((List.getD x1.Saq 0 api_Entry.z).2.2.1, (true, (List.getD x1.Saq 0 api_Entry.z).2.2.2.2))))) 0 api_Entry.z).1, ((List.getD (List.set x1.Saq 0 ((List.getD x1.Saq 0 api_Entry.z).1, ((List.getD x1.Saq 0 api_Entry.z).2.1, ((List.getD x1.Saq 0 api_Entry.z).2.2.1, (true, (List.getD x1.Saq 0 api_Entry.z).2.2.2.2))))) 0 api_Entry.z).2.1, ((List.getD (List.set x1.Saq 0 ((List.getD x1.Saq 0 api_Entry.z).1, ((List.getD x1.Saq 0 api_Entry.z).2.1, ((List.getD x1.Saq 0 api_Entry.z).2.2.1, (true, (List.getD x1.Saq 0 api_Entry.z).2.2.2.2))))) 0 api_Entry.z).2.2.1, ((List.getD (List.set x1.Saq 0 ((List.getD x1.Saq 0 api_Entry.z).1, ((List.getD x1.Saq 0 api_Entry.z).2.1, ((List.getD x1.Saq 0 api_Entry.z).2.2.1, (true, (List.getD x1.Saq 0 api_Entry.z).2.2.2.2))))) 0 api_Entry.z).2.2.2.1, (x3, ())))))) 0 api_Entry.z).1, ((List.getD (List.set (List.set x1.Saq 0 ((List.getD x1.Saq 0 api_Entry.z).1, ((List.getD x1.Saq 0 api_Entry.z).2.1, ((List.getD x1.Saq 0 api_Entry.z).2.2.1, (true, (List.getD x1.Saq 0 api_Entry.z).2.2.2.2))))) 0 ((List.getD (List.set x1.Saq 0 ((List.getD x1.Saq 0 api_Entry.z).1, ((List.getD x1.Saq 0 api_Entry.z).2.1, ((List.getD x1.Saq 0 api_Entry.z).2.2.1, (true, (List.getD x1.Saq 0 api_Entry.z).2.2.2.2))))) 0 api_Entry.z).1, ((List.getD (List.set x1.Saq 0 ((List.getD x1.Saq 0 api_Entry.z).1, ((List.getD x1.Saq 0 api_Entry.z).2.1, ((List.getD x1.Saq 0 api_Entry.z).2.2.1, (true, (List.getD x1.Saq 0 api_Entry.z).2.2.2.2))))) 0 api_Entry.z).2.1, ((List.getD (List.set x1.Saq 0 ((List.getD x1.Saq 0 api_Entry.z).1, ((List.getD x1.Saq 0 api_Entry.z).2.1, ((List.getD x1.Saq 0 api_Entry.z).2.2.1, (true, (List.getD x1.Saq 0 api_Entry.z).2.2.2.2))))) 0 api_Entry.z).2.2.1, ((List.getD (List.set x1.Saq 0 ((List.getD x1.Saq 0 api_Entry.z).1, ((List.getD x1.Saq 0 api_Entry.z).2.1, ((List.getD x1.Saq 0 api_Entry.z).2.2.1, (true, (List.getD x1.Saq 0 api_Entry.z).2.2.2.2))))) 0 api_Entry.z).2.2.2.1, (x3, ())))))) 0 api_Entry.z).2.1, ((List.getD (List.set (List.set x1.Saq 0 ((List.getD x1.Saq 0 api_Entry.z).1, ((List.getD x1.Saq 0 api_Entry.z).2.1, ((List.getD x1.Saq 0 api_Entry.z).2.2.1, (true, (List.getD x1.Saq 0 api_Entry.z).2.2.2.2))))) 0 ((List.getD (List.set x1.Saq 0 ((List.getD x1.Saq 0 api_Entry.z).1, ((List.getD x1.Saq 0 api_Entry.z).2.1, ((List.getD x1.Saq 0 api_Entry.z).2.2.1, (true, (List.getD x1.Saq 0 api_Entry.z).2.2.2.2))))) 0 api_Entry.z).1, ((List.getD (List.set x1.Saq 0 ((List.getD x1.Saq 0 api_Entry.z).1, ((List.getD x1.Saq 0 api_Entry.z).2.1, ((List.getD x1.Saq 0 api_Entry.z).2.2.1, (true, (List.getD x1.Saq 0 api_Entry.z).2.2.2.2))))) 0 api_Entry.z).2.1, ((List.getD (List.set x1.Saq 0 ((List.getD x1.Saq 0 api_Entry.z).1, ((List.getD x1.Saq 0 api_Entry.z).2.1, ((List.getD x1.Saq 0 api_Entry.z).2.2.1, (true, (List.getD x1.Saq 0 api_Entry.z).2.2.2.2))))) 0 api_Entry.z).2.2.1, ((List.getD (List.set x1.Saq 0 ((List.getD x1.Saq 0 api_Entry.z).1, ((List.getD x1.Saq 0 api_Entry.z).2.1, ((List.getD x1.Saq 0 api_Entry.z).2.2.1, (true, (List.getD x1.Saq 0 api_Entry.z).2.2.2.2))))) 0 api_Entry.z).2.2.2.1, (x3, ())))))) 0 api_Entry.z).2.2.2.2.1, api_Write.z)))))]) } : api_State) [])
noncomputable def X_commit_Turn (N : Nat) : CE := (c_commit_Turn, mkF [p_api_Config, p_api_State] [p_api_State] (commit_Turn N))
theorem Y_commit_Turn (N : Nat) : CEok Q (X_commit_Turn N) :=
 fnG (hi := h_commit_Turn) (l := [X_commit_can N, X_saq_Mask N, X_commit_op N]) (t := []) ti_ok hmix ⟨Y_commit_can N, Y_saq_Mask N, Y_commit_op N, trivial⟩ ⟨rfl, rfl, rfl, trivial⟩ f_110 (by kernel_rfl) (by kernel_rfl) trivial fun ys => by kernel_rfl
def c_core_Step : CS := ⟨212, 51, ⟨[.agg q_5, .agg [.d (.sl t_api_Block), .d (.ar 16 tI)], .agg [.d (.sl tI), .d (.sl tI)], .agg q_0], []⟩, [.agg q_1], true, []⟩
def h_core_Step : Hi := ⟨[((1, 3), c_state_Right), ((2, 1), c_state_Clone), ((5, 2), c_banks_Move), ((6, 1), c_commit_Turn), ((7, 3), c_state_Right), ((8, 2), c_epipe_Turn), ((9, 3), c_state_Right), ((10, 2), c_apipe_Turn)], [], [17, 27, 34], [], []⟩
theorem f_51 : Fn Q 51 f51 (codeOf f51) := ⟨by kernel_rfl, by kernel_rfl, by kernel_rfl, by kernel_rfl, by kernel_rfl⟩
noncomputable def core_Step (N : Nat) (x0 : api_Config) (x1 : api_Split) (x2 : api_Script) (x3 : api_State) : Option Rs :=
 on1 (state_Right N x0 x1 x3) <| gg [pB] <| fun (x4 : Bool) => 
 on1 (state_Clone N x3) <| gg [p_api_State] <| fun (x5 : api_State) => 
 bi (!x4) (
  some (0, g_api_State.dv x5 [])) <|
 on1 (banks_Move N x0 x2 x5) <| gg [p_api_State] <| fun (x6 : api_State) => 
 on1 (commit_Turn N x0 x6) <| gg [p_api_State] <| fun (x7 : api_State) => 
 on1 (state_Right N x0 x1 x7) <| gg [pB] <| fun (x8 : Bool) => 
 bi x8 (
  on1 (epipe_Turn N x0 x1 x7) <| gg [p_api_State] <| fun (x9 : api_State) => 
  on1 (state_Right N x0 x1 x9) <| gg [pB] <| fun (x10 : Bool) => 
  bi x10 (
   on1 (apipe_Turn N x0 x1 x9) <| gg [p_api_State] <| fun (x11 : api_State) => 
   some (0, g_api_State.dv ({ x11 with Cycle := (w.i64 (x11.Cycle + 1)) } : api_State) [])) <|
  some (0, g_api_State.dv ({ x9 with Cycle := (w.i64 (x9.Cycle + 1)) } : api_State) [])) <|
 on1 (state_Right N x0 x1 x7) <| gg [pB] <| fun (x12 : Bool) => 
 bi x12 (
  on1 (apipe_Turn N x0 x1 x7) <| gg [p_api_State] <| fun (x13 : api_State) => 
  some (0, g_api_State.dv ({ x13 with Cycle := (w.i64 (x13.Cycle + 1)) } : api_State) [])) <|
 some (0, g_api_State.dv ({ x7 with Cycle := (w.i64 (x7.Cycle + 1)) } : api_State) [])
noncomputable def X_core_Step (N : Nat) : CE := (c_core_Step, mkF [p_api_Config, p_api_Split, p_api_Script, p_api_State] [p_api_State] (core_Step N))
theorem Y_core_Step (N : Nat) : CEok Q (X_core_Step N) :=
 fnG (hi := h_core_Step) (l := [X_state_Right N, X_state_Clone N, X_banks_Move N, X_commit_Turn N, X_epipe_Turn N, X_apipe_Turn N]) (t := []) ti_ok hmix ⟨Y_state_Right N, Y_state_Clone N, Y_banks_Move N, Y_commit_Turn N, Y_epipe_Turn N, Y_apipe_Turn N, trivial⟩ ⟨rfl, rfl, rfl, rfl, rfl, rfl, rfl, rfl, trivial⟩ f_51 (by kernel_rfl) (by kernel_rfl) trivial fun ys => by kernel_rfl
def c_core_rests : CS := ⟨213, 183, ⟨[.agg [.d (.sl t_api_Block), .d (.ar 16 tI)], .one (.r (.pair tI (.pair (.pair (.ar 16 tW) (.pair (.ar 16 tI) (.pair (.pair tI (.pair tI (.pair tI .unit))) (.pair tI (.pair tB (.pair tI .unit)))))) (.pair (.pair (.ar 16 tW) (.pair (.ar 16 tI) (.pair (.pair tI (.pair tI (.pair tI .unit))) (.pair tI (.pair tB (.pair tI .unit)))))) (.pair (.sl t_api_Slot) (.pair (.sl tW) (.pair (.sl tW) (.pair (.sl tB) (.pair (.sl tB) (.pair (.sl t_api_Entry) (.pair (.sl t_api_Request) (.pair (.sl tU) (.pair (.sl t_api_Write) (.pair (.pair tI (.pair tI (.pair tI .unit))) (.pair tI (.pair tI (.pair tI .unit))))))))))))))))), .one (.r (.pair (.ar 16 tW) (.pair (.ar 16 tI) (.pair (.pair tI (.pair tI (.pair tI .unit))) (.pair tI (.pair tB (.pair tI .unit))))))), .one (.d tB)], []⟩, [.one (.d tB)], true, []⟩
def h_core_rests : Hi := ⟨[((1, 6), c_front_Next), ((2, 7), c_epipe_Stopped)], [], [27], [], []⟩
theorem f_183 : Fn Q 183 f183 (codeOf f183) := ⟨by kernel_rfl, by kernel_rfl, by kernel_rfl, by kernel_rfl, by kernel_rfl⟩
noncomputable def core_rests (N : Nat) (x0 : api_Split) (x1 : api_State) (x2 : api_Side) (x3 : Bool) : Option Rs :=
 on1 (front_Next N x0 x3 x2.Pos) <| gg [p_api_Cell, pI, pB] <| fun (x4 : api_Cell) (x5 : Int) (x6 : Bool) => 
 bi x2.Halted (
  some (0, gB.dv true [])) <|
 on1 (epipe_Stopped N x1 x5) <| gg [pB] <| fun (x7 : Bool) => 
 some (0, gB.dv x7 [])
noncomputable def X_core_rests (N : Nat) : CE := (c_core_rests, mkF [p_api_Split, pr_api_State, pr_api_Side, pB] [pB] (core_rests N))
theorem Y_core_rests (N : Nat) : CEok Q (X_core_rests N) :=
 fnG (hi := h_core_rests) (l := [X_front_Next N, X_epipe_Stopped N]) (t := []) ti_ok hmix ⟨Y_front_Next N, Y_epipe_Stopped N, trivial⟩ ⟨rfl, rfl, trivial⟩ f_183 (by kernel_rfl) (by kernel_rfl) trivial fun ys => by kernel_rfl
def c_sl_IndexFunc_api_Entry : CS := ⟨214, 245, ⟨[.one (.d (.sl t_api_Entry)), .one (.f 185 [⟨0, 0, [1]⟩])], [[.any 1]]⟩, [.one (.d tI)], true, [[.any 1]]⟩
def s_sl_IndexFunc_api_Entry_0 : LS := ⟨⟨[.one (.d (.sl t_api_Entry)), .one (.f 185 [⟨0, 0, [1]⟩]), .no, .no, .no, .no, .no, .one (.d tI), .one (.d tI)] ++ nos 10, [[.any 1]]⟩, [(1, ⟨nos 19, [[.any 1]]⟩)]⟩
def h_sl_IndexFunc_api_Entry : Hi := ⟨[], [(0, s_sl_IndexFunc_api_Entry_0)], [9, 16], [], []⟩
theorem f_245 : Fn Q 245 f245 (codeOf f245) := ⟨by kernel_rfl, by kernel_rfl, by kernel_rfl, by kernel_rfl, by kernel_rfl⟩
noncomputable def T_sl_IndexFunc_api_Entry (N : Nat) : List CE := []
theorem TT_sl_IndexFunc_api_Entry (N : Nat) : AllP (CEok Q) (T_sl_IndexFunc_api_Entry N) := trivial
theorem A_sl_IndexFunc_api_Entry (N : Nat) : AllP (fun e => lookC (T_sl_IndexFunc_api_Entry N) e.2.id = some e.2) h_sl_IndexFunc_api_Entry.cs := trivial
noncomputable def sl_IndexFunc_api_Entry_r0 (N : Nat) (again : Fn' (Option Rs) [pD (.sl t_api_Entry), pI, pI]) (x0 : List api_Entry) (x1 : Int) (x2 : Int) : Option Rs :=
 bi (decide (x2 < x1)) (
  gd (idx x2 (List.length x0)) <|
  none) <|
 some (1, [])
noncomputable def sl_IndexFunc_api_Entry_l0 (N : Nat) : Nat → Fn' (Option Rs) [pD (.sl t_api_Entry), pI, pI] := lpG (sl_IndexFunc_api_Entry_r0 N)
noncomputable def L_sl_IndexFunc_api_Entry_0 (N : Nat) : LE := (0, mkM [pD (.sl t_api_Entry), pI, pI] [(1, [])] (sl_IndexFunc_api_Entry_l0 N N))
theorem K_sl_IndexFunc_api_Entry_0 (N : Nat) : LEok Q h_sl_IndexFunc_api_Entry (bodOf f245) f245.ntmps 1 (L_sl_IndexFunc_api_Entry_0 N) :=
 loopG (hi := h_sl_IndexFunc_api_Entry) (l := T_sl_IndexFunc_api_Entry N) (t := []) (r := sl_IndexFunc_api_Entry_r0 N) ti_ok hmix (TT_sl_IndexFunc_api_Entry N) (A_sl_IndexFunc_api_Entry N) f_245 trivial (ls := s_sl_IndexFunc_api_Entry_0) (body := bodyAt f245 0) (by kernel_rfl) (by kernel_rfl) fun A ys => by kernel_rfl
noncomputable def sl_IndexFunc_api_Entry (N : Nat) (x0 : List api_Entry) : Option Rs :=
 onA 1 (sl_IndexFunc_api_Entry_l0 N N x0 (len x0) 0) <| gg [] <| 
 some (0, gI.dv (-1 : Int) [])
noncomputable def X_sl_IndexFunc_api_Entry (N : Nat) : CE := (c_sl_IndexFunc_api_Entry, mkF [pD (.sl t_api_Entry)] [pI] (sl_IndexFunc_api_Entry N))
theorem Y_sl_IndexFunc_api_Entry (N : Nat) : CEok Q (X_sl_IndexFunc_api_Entry N) :=
 fnG (hi := h_sl_IndexFunc_api_Entry) (l := T_sl_IndexFunc_api_Entry N) (t := [L_sl_IndexFunc_api_Entry_0 N]) ti_ok hmix (TT_sl_IndexFunc_api_Entry N) (A_sl_IndexFunc_api_Entry N) f_245 (by kernel_rfl) (by kernel_rfl) ⟨K_sl_IndexFunc_api_Entry_0 N, trivial⟩ fun ys => by kernel_rfl
def c_sl_ContainsFunc_api_Entry : CS := ⟨215, 184, ⟨[.one (.d (.sl t_api_Entry)), .one (.f 185 [⟨0, 0, [1]⟩])], [[.any 1]]⟩, [.one (.d tB)], true, [[.any 1]]⟩
def h_sl_ContainsFunc_api_Entry : Hi := ⟨[((1, 2), c_sl_IndexFunc_api_Entry)], [], [], [], []⟩
theorem f_184 : Fn Q 184 f184 (codeOf f184) := ⟨by kernel_rfl, by kernel_rfl, by kernel_rfl, by kernel_rfl, by kernel_rfl⟩
noncomputable def sl_ContainsFunc_api_Entry (N : Nat) (x0 : List api_Entry) : Option Rs :=
 on1 (sl_IndexFunc_api_Entry N x0) <| gg [pI] <| fun (x1 : Int) => 
 some (0, gB.dv (decide (x1 ≥ 0)) [])
noncomputable def X_sl_ContainsFunc_api_Entry (N : Nat) : CE := (c_sl_ContainsFunc_api_Entry, mkF [pD (.sl t_api_Entry)] [pB] (sl_ContainsFunc_api_Entry N))
theorem Y_sl_ContainsFunc_api_Entry (N : Nat) : CEok Q (X_sl_ContainsFunc_api_Entry N) :=
 fnG (hi := h_sl_ContainsFunc_api_Entry) (l := [X_sl_IndexFunc_api_Entry N]) (t := []) ti_ok hmix ⟨Y_sl_IndexFunc_api_Entry N, trivial⟩ ⟨rfl, trivial⟩ f_184 (by kernel_rfl) (by kernel_rfl) trivial fun ys => by kernel_rfl
def c_core_Ended : CS := ⟨216, 114, ⟨[.agg [.d (.sl t_api_Block), .d (.ar 16 tI)], .one (.r (.pair tI (.pair (.pair (.ar 16 tW) (.pair (.ar 16 tI) (.pair (.pair tI (.pair tI (.pair tI .unit))) (.pair tI (.pair tB (.pair tI .unit)))))) (.pair (.pair (.ar 16 tW) (.pair (.ar 16 tI) (.pair (.pair tI (.pair tI (.pair tI .unit))) (.pair tI (.pair tB (.pair tI .unit)))))) (.pair (.sl t_api_Slot) (.pair (.sl tW) (.pair (.sl tW) (.pair (.sl tB) (.pair (.sl tB) (.pair (.sl t_api_Entry) (.pair (.sl t_api_Request) (.pair (.sl tU) (.pair (.sl t_api_Write) (.pair (.pair tI (.pair tI (.pair tI .unit))) (.pair tI (.pair tI (.pair tI .unit)))))))))))))))))], []⟩, [.one (.d tB)], true, []⟩
def h_core_Ended : Hi := ⟨[((1, 12), c_core_rests), ((1, 21), c_core_rests), ((3, 5), c_sl_ContainsFunc_api_Entry)], [], [11, 20, 28], [], []⟩
theorem f_114 : Fn Q 114 f114 (codeOf f114) := ⟨by kernel_rfl, by kernel_rfl, by kernel_rfl, by kernel_rfl, by kernel_rfl⟩
noncomputable def core_Ended (N : Nat) (x0 : api_Split) (x1 : api_State) : Option Rs :=
 bi (decide ((len x1.Table) > 0)) (
  some (0, gB.dv false [])) <|
 on1 (core_rests N x0 x1 x1.A false) <| gg [pB] <| fun (x2 : Bool) => 
 bi (!x2) (
  some (0, gB.dv false [])) <|
 on1 (core_rests N x0 x1 x1.E true) <| gg [pB] <| fun (x3 : Bool) => 
 bi (!x3) (
  some (0, gB.dv false [])) <|
 on1 (sl_ContainsFunc_api_Entry N x1.Saq) <| gg [pB] <| fun (x4 : Bool) => 
 some (0, gB.dv (!x4) [])
noncomputable def X_core_Ended (N : Nat) : CE := (c_core_Ended, mkF [p_api_Split, pr_api_State] [pB] (core_Ended N))
theorem Y_core_Ended (N : Nat) : CEok Q (X_core_Ended N) :=
 fnG (hi := h_core_Ended) (l := [X_core_rests N, X_sl_ContainsFunc_api_Entry N]) (t := []) ti_ok hmix ⟨Y_core_rests N, Y_sl_ContainsFunc_api_Entry N, trivial⟩ ⟨rfl, rfl, rfl, trivial⟩ f_114 (by kernel_rfl) (by kernel_rfl) trivial fun ys => by kernel_rfl
def c_core_Over : CS := ⟨217, 53, ⟨[.agg q_5, .agg [.d (.sl t_api_Block), .d (.ar 16 tI)], .agg q_0], []⟩, [.one (.d tB)], true, []⟩
def h_core_Over : Hi := ⟨[((1, 3), c_state_Right), ((1, 7), c_core_Ended)], [], [12], [], []⟩
theorem f_53 : Fn Q 53 f53 (codeOf f53) := ⟨by kernel_rfl, by kernel_rfl, by kernel_rfl, by kernel_rfl, by kernel_rfl⟩
noncomputable def core_Over (N : Nat) (x0 : api_Config) (x1 : api_Split) (x2 : api_State) : Option Rs :=
 on1 (state_Right N x0 x1 x2) <| gg [pB] <| fun (x3 : Bool) => 
 bi (!x3) (
  some (0, gB.dv true [])) <|
 on1 (core_Ended N x1 x2) <| gg [pB] <| fun (x4 : Bool) => 
 some (0, gB.dv x4 [])
noncomputable def X_core_Over (N : Nat) : CE := (c_core_Over, mkF [p_api_Config, p_api_Split, p_api_State] [pB] (core_Over N))
theorem Y_core_Over (N : Nat) : CEok Q (X_core_Over N) :=
 fnG (hi := h_core_Over) (l := [X_state_Right N, X_core_Ended N]) (t := []) ti_ok hmix ⟨Y_state_Right N, Y_core_Ended N, trivial⟩ ⟨rfl, rfl, trivial⟩ f_53 (by kernel_rfl) (by kernel_rfl) trivial fun ys => by kernel_rfl
def c_l24_alive : CS := ⟨218, 50, ⟨[], []⟩, [.one (.d tB)], true, []⟩
def h_l24_alive : Hi := ⟨[((2, 1), c_r10_Split), ((3, 0), c_l19_One), ((3, 4), c_core_Step), ((4, 3), c_core_Over), ((4, 20), c_l19_One), ((4, 23), c_core_Over)], [], [22, 27, 32, 37], [], []⟩
theorem f_50 : Fn Q 50 f50 (codeOf f50) := ⟨by kernel_rfl, by kernel_rfl, by kernel_rfl, by kernel_rfl, by kernel_rfl⟩
noncomputable def l24_alive (N : Nat)  : Option Rs :=
 on1 (r10_Split N (api_Program.mk [(41, (0, api_Write.z))] 0 ([] : List Int))) <| gg [p_api_Split, pI] <| fun (x0 : api_Split) (x1 : Int) => 
 on1 (l19_One N ) <| gg [p_api_Config] <| fun (x2 : api_Config) => 
 on1 (core_Step N x2 x0 (api_Script.mk ([] : List Int) ([] : List Int)) (api_State.mk 0 api_Side.z api_Side.z ([] : List api_Slot) ([] : List Int) ([] : List Int) ([] : List Bool) ([] : List Bool) ([] : List api_Entry) ([] : List api_Request) ([] : List Int) ([] : List api_Write) api_Trap.z 0 0 0)) <| gg [p_api_State] <| fun (x3 : api_State) => 
 on1 (core_Over N api_Config.z (api_Split.mk ([] : List api_Block) (List.replicate 16 (0 :Int))) (api_State.mk 0 api_Side.z api_Side.z ([] : List api_Slot) ([] : List Int) ([] : List Int) ([] : List Bool) ([] : List Bool) ([] : List api_Entry) ([] : List api_Request) ([] : List Int) ([] : List api_Write) api_Trap.z 0 0 0)) <| gg [pB] <| fun (x4 : Bool) => 
 bi x4 (
  bi (x3.Cycle == 1) (
   bi x3.A.Halted (
    bi x3.E.Halted (
     on1 (l19_One N ) <| gg [p_api_Config] <| fun (x5 : api_Config) => 
     on1 (core_Over N x5 x0 x3) <| gg [pB] <| fun (x6 : Bool) => 
     some (0, gB.dv x6 [])) <|
    some (0, gB.dv false [])) <|
   some (0, gB.dv false [])) <|
  some (0, gB.dv false [])) <|
 some (0, gB.dv false [])
noncomputable def X_l24_alive (N : Nat) : CE := (c_l24_alive, mkF [] [pB] (l24_alive N))
theorem Y_l24_alive (N : Nat) : CEok Q (X_l24_alive N) :=
 fnG (hi := h_l24_alive) (l := [X_r10_Split N, X_l19_One N, X_core_Step N, X_core_Over N]) (t := []) ti_ok hmix ⟨Y_r10_Split N, Y_l19_One N, Y_core_Step N, Y_core_Over N, trivial⟩ ⟨rfl, rfl, rfl, rfl, rfl, rfl, trivial⟩ f_50 (by kernel_rfl) (by kernel_rfl) trivial fun ys => by kernel_rfl
def c_l24_Small : CS := ⟨219, 55, ⟨[.agg [.d (.sl t_api_Ins), .d tI, .d (.sl tU)]], []⟩, [.one (.d tB)], true, []⟩
def h_l24_Small : Hi := ⟨[((1, 1), c_l4_Few)], [], [5], [], []⟩
theorem f_55 : Fn Q 55 f55 (codeOf f55) := ⟨by kernel_rfl, by kernel_rfl, by kernel_rfl, by kernel_rfl, by kernel_rfl⟩
noncomputable def l24_Small (N : Nat) (x0 : api_Program) : Option Rs :=
 on1 (l4_Few N x0) <| gg [pB] <| fun (x1 : Bool) => 
 bi x1 (
  some (0, gB.dv (decide (x0.Size ≤ 300)) [])) <|
 some (0, gB.dv false [])
noncomputable def X_l24_Small (N : Nat) : CE := (c_l24_Small, mkF [p_api_Program] [pB] (l24_Small N))
theorem Y_l24_Small (N : Nat) : CEok Q (X_l24_Small N) :=
 fnG (hi := h_l24_Small) (l := [X_l4_Few N]) (t := []) ti_ok hmix ⟨Y_l4_Few N, trivial⟩ ⟨rfl, trivial⟩ f_55 (by kernel_rfl) (by kernel_rfl) trivial fun ys => by kernel_rfl
def c_l24_CoreSides : CS := ⟨220, 15, ⟨[.agg q_5, .agg [.d (.sl t_api_Ins), .d tI, .d (.sl tU)], .one (.d tI), .agg [.d (.sl tI), .d (.sl tI)], .one (.d tI)], []⟩, [.one (.d tB)], true, []⟩
def s_l24_CoreSides_0 : LS := ⟨⟨[.no, .no, .no, .no, .one (.d tI), .one (.p 0 0 [1, 1, 1, 1, 1, 1, 1, 1, 1, 1, 1, 1]), .no, .no, .one (.p 1 0 [1, 1]), .no, .no, .no, .one (.p 2 0 [1, 16]), .no, .one (.p 3 0 [1, 16, 16, 1, 1, 1, 1, 1, 1, 16, 16, 1, 1, 1, 1, 1, 1, 1, 1, 1, 1, 1, 1, 1, 1, 1, 1, 1, 1, 1, 1, 1]), .one (.d tI)] ++ nos 171, [q_5, [.d (.sl tI), .d (.sl tI)], [.o t_api_Block, .d (.ar 16 tI)], q_1]⟩, [(0, ⟨nos 10 ++ [.one (.d tB)] ++ nos 176, []⟩), (1, ⟨[.no, .no, .no, .no, .one (.d tI), .one (.p 0 0 [1, 1, 1, 1, 1, 1, 1, 1, 1, 1, 1, 1])] ++ nos 8 ++ [.one (.p 1 0 [1, 16, 16, 1, 1, 1, 1, 1, 1, 16, 16, 1, 1, 1, 1, 1, 1, 1, 1, 1, 1, 1, 1, 1, 1, 1, 1, 1, 1, 1, 1, 1])] ++ nos 172, [q_5, q_1]⟩)]⟩
def s_l24_CoreSides_2 : LS := ⟨⟨[.no, .no, .no, .no, .one (.d tI), .one (.p 0 0 [1, 1, 1, 1, 1, 1, 1, 1, 1, 1, 1, 1])] ++ nos 8 ++ [.one (.p 1 0 [1, 16, 16, 1, 1, 1, 1, 1, 1, 16, 16, 1, 1, 1, 1, 1, 1, 1, 1, 1, 1, 1, 1, 1, 1, 1, 1, 1, 1, 1, 1, 1]), .no, .no, .no, .one (.d tI), .one (.d tI)] ++ nos 167, [q_5, q_1]⟩, [(3, ⟨[.no, .no, .no, .no, .one (.d tI), .one (.p 0 0 [1, 1, 1, 1, 1, 1, 1, 1, 1, 1, 1, 1])] ++ nos 8 ++ [.one (.p 1 0 [1, 16, 16, 1, 1, 1, 1, 1, 1, 16, 16, 1, 1, 1, 1, 1, 1, 1, 1, 1, 1, 1, 1, 1, 1, 1, 1, 1, 1, 1, 1, 1]), .no, .no, .no, .one (.d tI)] ++ nos 168, [q_5, q_1]⟩)]⟩
def h_l24_CoreSides : Hi := ⟨[((1, 0), c_l24_alive), ((2, 2), c_l21_Splits), ((3, 4), c_l24_Small), ((3, 25), c_r15_RightConfig), ((5, 1), c_r15_First), ((9, 4), c_core_Step)], [(0, s_l24_CoreSides_0), (2, s_l24_CoreSides_2)], [29, 34, 40, 46, 50, 55, 59, 62, 68, 89, 99, 109, 119, 123, 129, 137, 145, 151, 160, 167, 174, 181], [], []⟩
theorem f_15 : Fn Q 15 f15 (codeOf f15) := ⟨by kernel_rfl, by kernel_rfl, by kernel_rfl, by kernel_rfl, by kernel_rfl⟩
noncomputable def T_l24_CoreSides (N : Nat) : List CE := [X_l24_alive N, X_l21_Splits N, X_l24_Small N, X_r15_RightConfig N, X_r15_First N, X_core_Step N]
theorem TT_l24_CoreSides (N : Nat) : AllP (CEok Q) (T_l24_CoreSides N) := ⟨Y_l24_alive N, Y_l21_Splits N, Y_l24_Small N, Y_r15_RightConfig N, Y_r15_First N, Y_core_Step N, trivial⟩
theorem A_l24_CoreSides (N : Nat) : AllP (fun e => lookC (T_l24_CoreSides N) e.2.id = some e.2) h_l24_CoreSides.cs := ⟨rfl, rfl, rfl, rfl, rfl, rfl, trivial⟩
noncomputable def l24_CoreSides_r0 (N : Nat) (again : Fn' (Option Rs) [pI, pI, p_api_Config, p_api_Script, p_api_Split, p_api_State]) (x0 : Int) (x1 : Int) (x2 : api_Config) (x3 : api_Script) (x4 : api_Split) (x5 : api_State) : Option Rs :=
 bi (decide (x1 < x0)) (
  on1 (core_Step N x2 x4 x3 x5) <| gg [p_api_State] <| fun (x6 : api_State) => 
  bi (decide ((w.i64 (x6.A.Done - x5.A.Done)) < 0)) (
   some (0, gB.dv false [])) <|
  bi (decide ((w.i64 (x6.A.Done - x5.A.Done)) > 1)) (
   some (0, gB.dv false [])) <|
  bi (decide ((w.i64 (x6.E.Done - x5.E.Done)) < 0)) (
   some (0, gB.dv false [])) <|
  bi (decide ((w.i64 (x6.E.Done - x5.E.Done)) > 1)) (
   some (0, gB.dv false [])) <|
  bi (decide ((w.i64 (x6.Lats - x5.Lats)) < 0)) (
   some (0, gB.dv false [])) <|
  bi (decide ((w.i64 (x6.Lats - x5.Lats)) > x2.Banks)) (
   some (0, gB.dv false [])) <|
  bi (decide ((w.i64 (x6.Picks - x5.Picks)) < 0)) (
   some (0, gB.dv false [])) <|
  bi (decide ((w.i64 (x6.Picks - x5.Picks)) > (w.i64 (x6.Lats - x5.Lats)))) (
   some (0, gB.dv false [])) <|
  again x0 (w.i64 (x1 + 1)) x2 x3 x4 x6) <|
 some (1, gI.dv x0 (g_api_Config.dv x2 (g_api_State.dv x5 [])))
noncomputable def l24_CoreSides_l0 (N : Nat) : Nat → Fn' (Option Rs) [pI, pI, p_api_Config, p_api_Script, p_api_Split, p_api_State] := lpG (l24_CoreSides_r0 N)
noncomputable def L_l24_CoreSides_0 (N : Nat) : LE := (0, mkM [pI, pI, p_api_Config, p_api_Script, p_api_Split, p_api_State] [(0, [pB]), (1, [pI, p_api_Config, p_api_State])] (l24_CoreSides_l0 N N))
theorem K_l24_CoreSides_0 (N : Nat) : LEok Q h_l24_CoreSides (bodOf f15) f15.ntmps 0 (L_l24_CoreSides_0 N) :=
 loopG (hi := h_l24_CoreSides) (l := T_l24_CoreSides N) (t := []) (r := l24_CoreSides_r0 N) ti_ok hmix (TT_l24_CoreSides N) (A_l24_CoreSides N) f_15 trivial (ls := s_l24_CoreSides_0) (body := bodyAt f15 0) (by kernel_rfl) (by kernel_rfl) fun A ys => by kernel_rfl
noncomputable def l24_CoreSides_r2 (N : Nat) (again : Fn' (Option Rs) [pI, pI, pI, p_api_Config, p_api_State]) (x0 : Int) (x1 : Int) (x2 : Int) (x3 : api_Config) (x4 : api_State) : Option Rs :=
 bi (decide (x2 < (len x4.Table))) (
  gd (idx x2 (List.length x4.Table)) <|
  bi (decide ((List.getD x4.Table x2.toNat api_Request.z).2.2.2.2.2.1 > 0)) (
   again x0 (w.i64 (x1 + 1)) (w.i64 (x2 + 1)) x3 x4) <|
  again x0 x1 (w.i64 (x2 + 1)) x3 x4) <|
 some (3, gI.dv x0 (gI.dv x1 (g_api_Config.dv x3 (g_api_State.dv x4 []))))
noncomputable def l24_CoreSides_l2 (N : Nat) : Nat → Fn' (Option Rs) [pI, pI, pI, p_api_Config, p_api_State] := lpG (l24_CoreSides_r2 N)
noncomputable def L_l24_CoreSides_2 (N : Nat) : LE := (2, mkM [pI, pI, pI, p_api_Config, p_api_State] [(3, [pI, pI, p_api_Config, p_api_State])] (l24_CoreSides_l2 N N))
theorem K_l24_CoreSides_2 (N : Nat) : LEok Q h_l24_CoreSides (bodOf f15) f15.ntmps 0 (L_l24_CoreSides_2 N) :=
 loopG (hi := h_l24_CoreSides) (l := T_l24_CoreSides N) (t := []) (r := l24_CoreSides_r2 N) ti_ok hmix (TT_l24_CoreSides N) (A_l24_CoreSides N) f_15 trivial (ls := s_l24_CoreSides_2) (body := bodyAt f15 2) (by kernel_rfl) (by kernel_rfl) fun A ys => by kernel_rfl
noncomputable def l24_CoreSides (N : Nat) (x0 : api_Config) (x1 : api_Program) (x2 : Int) (x3 : api_Script) (x4 : Int) : Option Rs :=
 on1 (l24_alive N ) <| gg [pB] <| fun (x5 : Bool) => 
 on1 (l21_Splits N x1 x2) <| gg [p_api_Split, pB] <| fun (x6 : api_Split) (x7 : Bool) => 
 bi (!x5) (
  some (0, gB.dv x5 [])) <|
 on1 (l24_Small N x1) <| gg [pB] <| fun (x8 : Bool) => 
 bi (!x8) (
  some (0, gB.dv x5 [])) <|
 bi (decide ((len x3.Lats) > 60)) (
  some (0, gB.dv x5 [])) <|
 bi (decide ((len x3.Picks) > 60)) (
  some (0, gB.dv x5 [])) <|
 bi (!x7) (
  some (0, gB.dv x5 [])) <|
 on1 (r15_RightConfig N x0) <| gg [pB] <| fun (x9 : Bool) => 
 bi (!x9) (
  some (0, gB.dv x5 [])) <|
 bi (decide (x4 < 0)) (
  some (0, gB.dv x5 [])) <|
 bi (decide (x4 > 200)) (
  some (0, gB.dv x5 [])) <|
 on1 (r15_First N x1) <| gg [p_api_State] <| fun (x10 : api_State) => 
 onB 0 1 (l24_CoreSides_l0 N N x4 0 x0 x3 x6 x10) (gg [pB] <| fun (x11 : Bool) => 
  some (0, gB.dv x11 [])) <| gg [pI, p_api_Config, p_api_State] <| fun (x12 : Int) (x13 : api_Config) (x14 : api_State) => 
 onA 3 (l24_CoreSides_l2 N N x12 0 0 x13 x14) <| gg [pI, pI, p_api_Config, p_api_State] <| fun (x15 : Int) (x16 : Int) (x17 : api_Config) (x18 : api_State) => 
 bi (x18.Cycle == x15) (
  bi (decide (x18.A.Done ≤ x15)) (
   bi (decide (x18.E.Done ≤ x15)) (
    some (0, gB.dv (decide (x16 ≤ x17.Banks)) [])) <|
   some (0, gB.dv false [])) <|
  some (0, gB.dv false [])) <|
 some (0, gB.dv false [])
noncomputable def X_l24_CoreSides (N : Nat) : CE := (c_l24_CoreSides, mkF [p_api_Config, p_api_Program, pI, p_api_Script, pI] [pB] (l24_CoreSides N))
theorem Y_l24_CoreSides (N : Nat) : CEok Q (X_l24_CoreSides N) :=
 fnG (hi := h_l24_CoreSides) (l := T_l24_CoreSides N) (t := [L_l24_CoreSides_0 N, L_l24_CoreSides_2 N]) ti_ok hmix (TT_l24_CoreSides N) (A_l24_CoreSides N) f_15 (by kernel_rfl) (by kernel_rfl) ⟨K_l24_CoreSides_0 N, K_l24_CoreSides_2 N, trivial⟩ fun ys => by kernel_rfl
end Go.Proofs.Zz

/- What functions of the program compute, as plain functions. -/
set_option linter.unusedVariables false
set_option maxRecDepth 100000
namespace Go.Proofs.Zz
open Go Go.Proofs.Tryz
end Go.Proofs.Zz
