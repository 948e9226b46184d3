import Derived.Test.YtnfpdmhdpeffjaaGreatK1
set_option linter.unusedSimpArgs false
set_option linter.unusedVariables false
/- What functions of the program compute, as plain functions. -/
set_option linter.unusedVariables false
set_option maxRecDepth 100000
namespace Go.Proofs.Zz
open Go Go.Proofs.Tryz
def c_r10_owned : CS := ⟨45, 206, ⟨[.agg [.d (.ar 16 tI)], .one (.d tI)], []⟩, [.one (.d tI)], true, []⟩
def h_r10_owned : Hi := ⟨[], [], [7, 10], [], []⟩
theorem f_206 : Fn Q 206 f206 (codeOf f206) := ⟨by kernel_rfl, by kernel_rfl, by kernel_rfl, by kernel_rfl, by kernel_rfl⟩
noncomputable def r10_owned (N : Nat) (x0 : List Int) (x1 : Int) : Option Rs :=
 bi (decide (x1 < 1)) (
  some (0, gI.dv 0 [])) <|
 bi (decide (x1 > 15)) (
  some (0, gI.dv 0 [])) <|
 gd (idx x1 16) <|
 some (0, gI.dv (List.getD x0 x1.toNat 0) [])
noncomputable def X_r10_owned (N : Nat) : CE := (c_r10_owned, mkF [pD (.ar 16 tI), pI] [pI] (r10_owned N))
theorem Y_r10_owned (N : Nat) : CEok Q (X_r10_owned N) :=
 fnG (hi := h_r10_owned) (l := []) (t := []) ti_ok hmix trivial trivial f_206 (by kernel_rfl) (by kernel_rfl) trivial fun ys => by kernel_rfl
def c_r10_Side : CS := ⟨46, 202, ⟨[.agg [.d tI, .d tI, .d tI, .d tI, .d tI], .agg [.d (.ar 16 tI)]], []⟩, [.one (.d tI)], true, []⟩
def h_r10_Side : Hi := ⟨[((1, 2), c_r1_Form), ((4, 1), c_r1_Reads), ((5, 3), c_r10_owned), ((5, 12), c_r10_anyE)], [], [12, 15, 23, 27, 33], [], []⟩
theorem f_202 : Fn Q 202 f202 (codeOf f202) := ⟨by kernel_rfl, by kernel_rfl, by kernel_rfl, by kernel_rfl, by kernel_rfl⟩
noncomputable def r10_Side (N : Nat) (x0 : api_Ins) (x1 : List Int) : Option Rs :=
 on1 (r1_Form N x0.1) <| gg [pI] <| fun (x2 : Int) => 
 bi (decide (x2 < 1)) (
  some (0, gI.dv 0 [])) <|
 bi (decide (x2 > 3)) (
  some (0, gI.dv 0 [])) <|
 on1 (r1_Reads N x0) <| gg [pD (.sl tI)] <| fun (x3 : List Int) => 
 on1 (r10_owned N x1 x0.2.1) <| gg [pI] <| fun (x4 : Int) => 
 bi (x4 == 1) (
  some (0, gI.dv 1 [])) <|
 bi (x0.2.1 == 0) (
  on1 (r10_anyE N x1 x3) <| gg [pB] <| fun (x5 : Bool) => 
  bi (!x5) (
   some (0, gI.dv 1 [])) <|
  some (0, gI.dv 2 [])) <|
 some (0, gI.dv 2 [])
noncomputable def X_r10_Side (N : Nat) : CE := (c_r10_Side, mkF [p_api_Ins, pD (.ar 16 tI)] [pI] (r10_Side N))
theorem Y_r10_Side (N : Nat) : CEok Q (X_r10_Side N) :=
 fnG (hi := h_r10_Side) (l := [X_r1_Form N, X_r1_Reads N, X_r10_owned N, X_r10_anyE N]) (t := []) ti_ok hmix ⟨Y_r1_Form N, Y_r1_Reads N, Y_r10_owned N, Y_r10_anyE N, trivial⟩ ⟨rfl, rfl, rfl, rfl, trivial⟩ f_202 (by kernel_rfl) (by kernel_rfl) trivial fun ys => by kernel_rfl
def c_r10_maker_ins : CS := ⟨47, 203, ⟨[.one (.p 0 0 [1, 1, 1]), .one (.d tI), .agg [.d tI, .d tI, .d tI, .d tI, .d tI]], [[.d tI, .d tI, .o t_api_Cell]]⟩, [], false, [[.d tI, .d tI, .o t_api_Cell]]⟩
def h_r10_maker_ins : Hi := ⟨[], [], [], [], []⟩
theorem f_203 : Fn Q 203 f203 (codeOf f203) := ⟨by kernel_rfl, by kernel_rfl, by kernel_rfl, by kernel_rfl, by kernel_rfl⟩
noncomputable def r10_maker_ins (N : Nat) (x0 : Int) (x1 : api_Ins) (x2 : r10_maker) : Option Rs :=
 gd (rm x2.L [(x0, (x1, (0, (x2.Pc, (x2.Off, ())))))] 72) <|
 some (0, g_r10_maker.dv ({ x2 with L := (x2.L ++ [(x0, (x1, (0, (x2.Pc, (x2.Off, ())))))]) } : r10_maker) [])
noncomputable def X_r10_maker_ins (N : Nat) : CE := (c_r10_maker_ins, mkF [pI, p_api_Ins, p_r10_maker] [p_r10_maker] (r10_maker_ins N))
theorem Y_r10_maker_ins (N : Nat) : CEok Q (X_r10_maker_ins N) :=
 fnG (hi := h_r10_maker_ins) (l := []) (t := []) ti_ok hmix trivial trivial f_203 (by kernel_rfl) (by kernel_rfl) trivial fun ys => by kernel_rfl
def c_r10_sent : CS := ⟨48, 205, ⟨[.agg [.d tI, .d tI, .d tI, .d tI, .d tI], .agg [.d (.ar 16 tI)]], []⟩, [.one (.o tI)], true, []⟩
def s_r10_sent_0 : LS := ⟨⟨[.no, .no, .no, .one (.p 0 0 [16]), .no, .one (.o tI), .one (.o tI), .one (.d tI)] ++ nos 32, [[.d (.ar 16 tI)]]⟩, [(1, ⟨nos 6 ++ [.one (.o tI)] ++ nos 33, []⟩)]⟩
def h_r10_sent : Hi := ⟨[((1, 1), c_r1_Reads), ((6, 5), c_r10_owned), ((6, 13), c_r10_find)], [(0, s_r10_sent_0)], [13, 23, 31], [], []⟩
theorem f_205 : Fn Q 205 f205 (codeOf f205) := ⟨by kernel_rfl, by kernel_rfl, by kernel_rfl, by kernel_rfl, by kernel_rfl⟩
noncomputable def T_r10_sent (N : Nat) : List CE := [X_r1_Reads N, X_r10_owned N, X_r10_find N]
theorem TT_r10_sent (N : Nat) : AllP (CEok Q) (T_r10_sent N) := ⟨Y_r1_Reads N, Y_r10_owned N, Y_r10_find N, trivial⟩
theorem A_r10_sent (N : Nat) : AllP (fun e => lookC (T_r10_sent N) e.2.id = some e.2) h_r10_sent.cs := ⟨rfl, rfl, rfl, trivial⟩
noncomputable def r10_sent_r0 (N : Nat) (again : Fn' (Option Rs) [pD (.sl tI), pD (.sl tI), pI, pD (.ar 16 tI)]) (x0 : List Int) (x1 : List Int) (x2 : Int) (x3 : List Int) : Option Rs :=
 bi (decide (x2 < (len x0))) (
  gd (idx x2 (List.length x0)) <|
  on1 (r10_owned N x3 (List.getD x0 x2.toNat 0)) <| gg [pI] <| fun (x4 : Int) => 
  bi (x4 == 1) (
   gd (idx x2 (List.length x0)) <|
   on1 (r10_find N x1 (List.getD x0 x2.toNat 0)) <| gg [pI] <| fun (x5 : Int) => 
   bi (decide (x5 < 0)) (
    gd (idx x2 (List.length x0)) <|
    gd (rm x1 [(List.getD x0 x2.toNat 0)] 8) <|
    again x0 (x1 ++ [(List.getD x0 x2.toNat 0)]) (w.i64 (x2 + 1)) x3) <|
   again x0 x1 (w.i64 (x2 + 1)) x3) <|
  again x0 x1 (w.i64 (x2 + 1)) x3) <|
 some (1, (gD (.sl tI)).dv x1 [])
noncomputable def r10_sent_l0 (N : Nat) : Nat → Fn' (Option Rs) [pD (.sl tI), pD (.sl tI), pI, pD (.ar 16 tI)] := lpG (r10_sent_r0 N)
noncomputable def L_r10_sent_0 (N : Nat) : LE := (0, mkM [pD (.sl tI), pD (.sl tI), pI, pD (.ar 16 tI)] [(1, [pD (.sl tI)])] (r10_sent_l0 N N))
theorem K_r10_sent_0 (N : Nat) : LEok Q h_r10_sent (bodOf f205) f205.ntmps 0 (L_r10_sent_0 N) :=
 loopG (hi := h_r10_sent) (l := T_r10_sent N) (t := []) (r := r10_sent_r0 N) ti_ok hmix (TT_r10_sent N) (A_r10_sent N) f_205 trivial (ls := s_r10_sent_0) (body := bodyAt f205 0) (by kernel_rfl) (by kernel_rfl) fun A ys => by kernel_rfl
noncomputable def r10_sent (N : Nat) (x0 : api_Ins) (x1 : List Int) : Option Rs :=
 on1 (r1_Reads N x0) <| gg [pD (.sl tI)] <| fun (x2 : List Int) => 
 onA 1 (r10_sent_l0 N N x2 ([] : List Int) 0 x1) <| gg [pD (.sl tI)] <| fun (x3 : List Int) => 
 some (0, (gD (.sl tI)).dv x3 [])
noncomputable def X_r10_sent (N : Nat) : CE := (c_r10_sent, mkF [p_api_Ins, pD (.ar 16 tI)] [pD (.sl tI)] (r10_sent N))
theorem Y_r10_sent (N : Nat) : CEok Q (X_r10_sent N) :=
 fnG (hi := h_r10_sent) (l := T_r10_sent N) (t := [L_r10_sent_0 N]) ti_ok hmix (TT_r10_sent N) (A_r10_sent N) f_205 (by kernel_rfl) (by kernel_rfl) ⟨K_r10_sent_0 N, trivial⟩ fun ys => by kernel_rfl
def c_r10_maker_reg : CS := ⟨49, 207, ⟨[.one (.p 0 0 [1, 1, 1]), .one (.d tI), .one (.d tI)], [[.d tI, .d tI, .o t_api_Cell]]⟩, [], false, [[.d tI, .d tI, .o t_api_Cell]]⟩
def h_r10_maker_reg : Hi := ⟨[], [], [], [], []⟩
theorem f_207 : Fn Q 207 f207 (codeOf f207) := ⟨by kernel_rfl, by kernel_rfl, by kernel_rfl, by kernel_rfl, by kernel_rfl⟩
noncomputable def r10_maker_reg (N : Nat) (x0 : Int) (x1 : Int) (x2 : r10_maker) : Option Rs :=
 gd (rm x2.L [(x0, (api_Ins.z, (x1, (x2.Pc, (x2.Off, ())))))] 72) <|
 some (0, g_r10_maker.dv ({ x2 with L := (x2.L ++ [(x0, (api_Ins.z, (x1, (x2.Pc, (x2.Off, ())))))]) } : r10_maker) [])
noncomputable def X_r10_maker_reg (N : Nat) : CE := (c_r10_maker_reg, mkF [pI, pI, p_r10_maker] [p_r10_maker] (r10_maker_reg N))
theorem Y_r10_maker_reg (N : Nat) : CEok Q (X_r10_maker_reg N) :=
 fnG (hi := h_r10_maker_reg) (l := []) (t := []) ti_ok hmix trivial trivial f_207 (by kernel_rfl) (by kernel_rfl) trivial fun ys => by kernel_rfl
def c_r10_maker_regs : CS := ⟨50, 204, ⟨[.one (.p 0 0 [1, 1, 1]), .one (.d tI), .one (.d (.sl tI))], [[.d tI, .d tI, .o t_api_Cell]]⟩, [], false, [[.d tI, .d tI, .o t_api_Cell]]⟩
def s_r10_maker_regs_0 : LS := ⟨⟨[.one (.p 0 0 [1, 1, 1]), .one (.d tI), .one (.d (.sl tI)), .no, .no, .no, .one (.d tI)] ++ nos 13, [[.d tI, .d tI, .o t_api_Cell]]⟩, [(1, ⟨nos 20, [[.d tI, .d tI, .o t_api_Cell]]⟩)]⟩
def h_r10_maker_regs : Hi := ⟨[((3, 6), c_r10_maker_reg)], [(0, s_r10_maker_regs_0)], [10], [], []⟩
theorem f_204 : Fn Q 204 f204 (codeOf f204) := ⟨by kernel_rfl, by kernel_rfl, by kernel_rfl, by kernel_rfl, by kernel_rfl⟩
noncomputable def T_r10_maker_regs (N : Nat) : List CE := [X_r10_maker_reg N]
theorem TT_r10_maker_regs (N : Nat) : AllP (CEok Q) (T_r10_maker_regs N) := ⟨Y_r10_maker_reg N, trivial⟩
theorem A_r10_maker_regs (N : Nat) : AllP (fun e => lookC (T_r10_maker_regs N) e.2.id = some e.2) h_r10_maker_regs.cs := ⟨rfl, trivial⟩
noncomputable def r10_maker_regs_r0 (N : Nat) (again : Fn' (Option Rs) [pI, pD (.sl tI), pI, p_r10_maker]) (x0 : Int) (x1 : List Int) (x2 : Int) (x3 : r10_maker) : Option Rs :=
 bi (decide (x2 < (len x1))) (
  gd (idx x2 (List.length x1)) <|
  on1 (r10_maker_reg N x0 (List.getD x1 x2.toNat 0) x3) <| gg [p_r10_maker] <| fun (x4 : r10_maker) => 
  again x0 x1 (w.i64 (x2 + 1)) x4) <|
 some (1, g_r10_maker.dv x3 [])
noncomputable def r10_maker_regs_l0 (N : Nat) : Nat → Fn' (Option Rs) [pI, pD (.sl tI), pI, p_r10_maker] := lpG (r10_maker_regs_r0 N)
noncomputable def L_r10_maker_regs_0 (N : Nat) : LE := (0, mkM [pI, pD (.sl tI), pI, p_r10_maker] [(1, [p_r10_maker])] (r10_maker_regs_l0 N N))
theorem K_r10_maker_regs_0 (N : Nat) : LEok Q h_r10_maker_regs (bodOf f204) f204.ntmps 1 (L_r10_maker_regs_0 N) :=
 loopG (hi := h_r10_maker_regs) (l := T_r10_maker_regs N) (t := []) (r := r10_maker_regs_r0 N) ti_ok hmix (TT_r10_maker_regs N) (A_r10_maker_regs N) f_204 trivial (ls := s_r10_maker_regs_0) (body := bodyAt f204 0) (by kernel_rfl) (by kernel_rfl) fun A ys => by kernel_rfl
noncomputable def r10_maker_regs (N : Nat) (x0 : Int) (x1 : List Int) (x2 : r10_maker) : Option Rs :=
 onA 1 (r10_maker_regs_l0 N N x0 x1 0 x2) <| gg [p_r10_maker] <| fun (x3 : r10_maker) => 
 some (0, g_r10_maker.dv x3 [])
noncomputable def X_r10_maker_regs (N : Nat) : CE := (c_r10_maker_regs, mkF [pI, pD (.sl tI), p_r10_maker] [p_r10_maker] (r10_maker_regs N))
theorem Y_r10_maker_regs (N : Nat) : CEok Q (X_r10_maker_regs N) :=
 fnG (hi := h_r10_maker_regs) (l := T_r10_maker_regs N) (t := [L_r10_maker_regs_0 N]) ti_ok hmix (TT_r10_maker_regs N) (A_r10_maker_regs N) f_204 (by kernel_rfl) (by kernel_rfl) ⟨K_r10_maker_regs_0 N, trivial⟩ fun ys => by kernel_rfl
def c_r10_maker_plain : CS := ⟨51, 208, ⟨[.one (.p 0 0 [1, 1, 1]), .one (.d tI)], [[.d tI, .d tI, .o t_api_Cell]]⟩, [], false, [[.d tI, .d tI, .o t_api_Cell]]⟩
def h_r10_maker_plain : Hi := ⟨[], [], [], [], []⟩
theorem f_208 : Fn Q 208 f208 (codeOf f208) := ⟨by kernel_rfl, by kernel_rfl, by kernel_rfl, by kernel_rfl, by kernel_rfl⟩
noncomputable def r10_maker_plain (N : Nat) (x0 : Int) (x1 : r10_maker) : Option Rs :=
 gd (rm x1.L [(x0, (api_Ins.z, (0, (x1.Pc, (x1.Off, ())))))] 72) <|
 some (0, g_r10_maker.dv ({ x1 with L := (x1.L ++ [(x0, (api_Ins.z, (0, (x1.Pc, (x1.Off, ())))))]) } : r10_maker) [])
noncomputable def X_r10_maker_plain (N : Nat) : CE := (c_r10_maker_plain, mkF [pI, p_r10_maker] [p_r10_maker] (r10_maker_plain N))
theorem Y_r10_maker_plain (N : Nat) : CEok Q (X_r10_maker_plain N) :=
 fnG (hi := h_r10_maker_plain) (l := []) (t := []) ti_ok hmix trivial trivial f_208 (by kernel_rfl) (by kernel_rfl) trivial fun ys => by kernel_rfl
def c_r10_Emit : CS := ⟨52, 128, ⟨[.agg [.d tI, .d tI, .d tI, .d tI, .d tI], .agg [.d (.ar 16 tI)], .one (.d tI), .one (.d tI)], []⟩, [.one (.o t_api_Cell), .one (.o t_api_Cell)], false, []⟩
def h_r10_Emit : Hi := ⟨[((3, 1), c_r1_RightIns), ((5, 2), c_r1_Form), ((9, 2), c_r10_Side), ((10, 2), c_r10_maker_ins), ((11, 3), c_r10_sent), ((11, 4), c_r10_maker_regs), ((12, 3), c_r10_sent), ((12, 4), c_r10_maker_regs), ((13, 2), c_r10_maker_ins), ((15, 3), c_r10_onE), ((16, 2), c_r10_maker_ins), ((17, 2), c_r10_maker_ins), ((18, 2), c_r10_maker_ins), ((20, 3), c_r10_owned), ((21, 3), c_r10_maker_reg), ((22, 3), c_r10_maker_reg), ((23, 2), c_r10_maker_ins), ((24, 3), c_r10_maker_reg), ((26, 2), c_r1_Reads), ((26, 3), c_r10_anyE), ((27, 2), c_r10_maker_ins), ((28, 1), c_r10_maker_plain), ((29, 3), c_r10_sent), ((29, 4), c_r10_maker_regs), ((30, 1), c_r10_maker_plain), ((31, 3), c_r10_sent), ((31, 4), c_r10_maker_regs), ((32, 2), c_r10_maker_ins), ((34, 1), c_r10_maker_plain), ((35, 1), c_r10_maker_plain), ((37, 1), c_r10_maker_plain), ((38, 1), c_r10_maker_plain)], [], [22, 26, 33, 50, 55, 65, 71, 87, 93, 114, 120], [], []⟩
theorem f_128 : Fn Q 128 f128 (codeOf f128) := ⟨by kernel_rfl, by kernel_rfl, by kernel_rfl, by kernel_rfl, by kernel_rfl⟩
noncomputable def r10_Emit (N : Nat) (x0 : api_Ins) (x1 : List Int) (x2 : Int) (x3 : Int) : Option Rs :=
 on1 (r1_RightIns N x0) <| gg [pB] <| fun (x4 : Bool) => 
 bi (!x4) (
  some (0, (gD (.sl t_api_Cell)).dv ([] : List api_Cell) ((gD (.sl t_api_Cell)).dv ([] : List api_Cell) []))) <|
 on1 (r1_Form N x0.1) <| gg [pI] <| fun (x5 : Int) => 
 bi (x5 == 1) (
  on1 (r10_Side N x0 x1) <| gg [pI] <| fun (x6 : Int) => 
  bi (x6 == 1) (
   on1 (r10_maker_ins N 1 x0 (r10_maker.mk x2 x3 ([] : List api_Cell))) <| gg [p_r10_maker] <| fun (x7 : r10_maker) => 
   some (0, (gD (.sl t_api_Cell)).dv x7.L ((gD (.sl t_api_Cell)).dv ([] : List api_Cell) []))) <|
  on1 (r10_sent N x0 x1) <| gg [pD (.sl tI)] <| fun (x8 : List Int) => 
  on1 (r10_maker_regs N 5 x8 (r10_maker.mk x2 x3 ([] : List api_Cell))) <| gg [p_r10_maker] <| fun (x9 : r10_maker) => 
  on1 (r10_sent N x0 x1) <| gg [pD (.sl tI)] <| fun (x10 : List Int) => 
  on1 (r10_maker_regs N 6 x10 (r10_maker.mk x2 x3 ([] : List api_Cell))) <| gg [p_r10_maker] <| fun (x11 : r10_maker) => 
  on1 (r10_maker_ins N 1 x0 x11) <| gg [p_r10_maker] <| fun (x12 : r10_maker) => 
  some (0, (gD (.sl t_api_Cell)).dv x9.L ((gD (.sl t_api_Cell)).dv x12.L []))) <|
 bi (x5 == 2) (
  on1 (r10_Side N x0 x1) <| gg [pI] <| fun (x13 : Int) => 
  bi (x13 == 1) (
   on1 (r10_maker_ins N 1 x0 (r10_maker.mk x2 x3 ([] : List api_Cell))) <| gg [p_r10_maker] <| fun (x14 : r10_maker) => 
   some (0, (gD (.sl t_api_Cell)).dv x14.L ((gD (.sl t_api_Cell)).dv ([] : List api_Cell) []))) <|
  on1 (r10_sent N x0 x1) <| gg [pD (.sl tI)] <| fun (x15 : List Int) => 
  on1 (r10_maker_regs N 5 x15 (r10_maker.mk x2 x3 ([] : List api_Cell))) <| gg [p_r10_maker] <| fun (x16 : r10_maker) => 
  on1 (r10_sent N x0 x1) <| gg [pD (.sl tI)] <| fun (x17 : List Int) => 
  on1 (r10_maker_regs N 6 x17 (r10_maker.mk x2 x3 ([] : List api_Cell))) <| gg [p_r10_maker] <| fun (x18 : r10_maker) => 
  on1 (r10_maker_ins N 1 x0 x18) <| gg [p_r10_maker] <| fun (x19 : r10_maker) => 
  some (0, (gD (.sl t_api_Cell)).dv x16.L ((gD (.sl t_api_Cell)).dv x19.L []))) <|
 bi (x5 == 3) (
  on1 (r10_Side N x0 x1) <| gg [pI] <| fun (x20 : Int) => 
  bi (x20 == 1) (
   on1 (r10_maker_ins N 1 x0 (r10_maker.mk x2 x3 ([] : List api_Cell))) <| gg [p_r10_maker] <| fun (x21 : r10_maker) => 
   some (0, (gD (.sl t_api_Cell)).dv x21.L ((gD (.sl t_api_Cell)).dv ([] : List api_Cell) []))) <|
  on1 (r10_sent N x0 x1) <| gg [pD (.sl tI)] <| fun (x22 : List Int) => 
  on1 (r10_maker_regs N 5 x22 (r10_maker.mk x2 x3 ([] : List api_Cell))) <| gg [p_r10_maker] <| fun (x23 : r10_maker) => 
  on1 (r10_sent N x0 x1) <| gg [pD (.sl tI)] <| fun (x24 : List Int) => 
  on1 (r10_maker_regs N 6 x24 (r10_maker.mk x2 x3 ([] : List api_Cell))) <| gg [p_r10_maker] <| fun (x25 : r10_maker) => 
  on1 (r10_maker_ins N 1 x0 x25) <| gg [p_r10_maker] <| fun (x26 : r10_maker) => 
  some (0, (gD (.sl t_api_Cell)).dv x23.L ((gD (.sl t_api_Cell)).dv x26.L []))) <|
 bi (x5 == 4) (
  on1 (r10_onE N x1 x0.2.1) <| gg [pB] <| fun (x27 : Bool) => 
  bi x27 (
   on1 (r10_maker_ins N 3 x0 (r10_maker.mk x2 x3 ([] : List api_Cell))) <| gg [p_r10_maker] <| fun (x28 : r10_maker) => 
   on1 (r10_maker_ins N 7 x0 (r10_maker.mk x2 x3 ([] : List api_Cell))) <| gg [p_r10_maker] <| fun (x29 : r10_maker) => 
   some (0, (gD (.sl t_api_Cell)).dv x28.L ((gD (.sl t_api_Cell)).dv x29.L []))) <|
  on1 (r10_maker_ins N 2 x0 (r10_maker.mk x2 x3 ([] : List api_Cell))) <| gg [p_r10_maker] <| fun (x30 : r10_maker) => 
  some (0, (gD (.sl t_api_Cell)).dv x30.L ((gD (.sl t_api_Cell)).dv ([] : List api_Cell) []))) <|
 bi (x5 == 5) (
  on1 (r10_owned N x1 x0.2.2.2.1) <| gg [pI] <| fun (x31 : Int) => 
  bi (x31 == 1) (
   on1 (r10_maker_reg N 5 x0.2.2.2.1 (r10_maker.mk x2 x3 ([] : List api_Cell))) <| gg [p_r10_maker] <| fun (x32 : r10_maker) => 
   on1 (r10_maker_reg N 6 x0.2.2.2.1 (r10_maker.mk x2 x3 ([] : List api_Cell))) <| gg [p_r10_maker] <| fun (x33 : r10_maker) => 
   on1 (r10_maker_ins N 4 x0 x32) <| gg [p_r10_maker] <| fun (x34 : r10_maker) => 
   on1 (r10_maker_reg N 8 x0.2.2.2.1 x33) <| gg [p_r10_maker] <| fun (x35 : r10_maker) => 
   some (0, (gD (.sl t_api_Cell)).dv x34.L ((gD (.sl t_api_Cell)).dv x35.L []))) <|
  on1 (r10_maker_ins N 4 x0 (r10_maker.mk x2 x3 ([] : List api_Cell))) <| gg [p_r10_maker] <| fun (x36 : r10_maker) => 
  on1 (r10_maker_reg N 8 x0.2.2.2.1 (r10_maker.mk x2 x3 ([] : List api_Cell))) <| gg [p_r10_maker] <| fun (x37 : r10_maker) => 
  some (0, (gD (.sl t_api_Cell)).dv x36.L ((gD (.sl t_api_Cell)).dv x37.L []))) <|
 bi (x5 == 6) (
  on1 (r1_Reads N x0) <| gg [pD (.sl tI)] <| fun (x38 : List Int) => 
  on1 (r10_anyE N x1 x38) <| gg [pB] <| fun (x39 : Bool) => 
  bi (!x39) (
   on1 (r10_maker_ins N 9 x0 (r10_maker.mk x2 x3 ([] : List api_Cell))) <| gg [p_r10_maker] <| fun (x40 : r10_maker) => 
   on1 (r10_maker_plain N 10 (r10_maker.mk x2 x3 ([] : List api_Cell))) <| gg [p_r10_maker] <| fun (x41 : r10_maker) => 
   some (0, (gD (.sl t_api_Cell)).dv x40.L ((gD (.sl t_api_Cell)).dv x41.L []))) <|
  on1 (r10_sent N x0 x1) <| gg [pD (.sl tI)] <| fun (x42 : List Int) => 
  on1 (r10_maker_regs N 5 x42 (r10_maker.mk x2 x3 ([] : List api_Cell))) <| gg [p_r10_maker] <| fun (x43 : r10_maker) => 
  on1 (r10_maker_plain N 10 x43) <| gg [p_r10_maker] <| fun (x44 : r10_maker) => 
  on1 (r10_sent N x0 x1) <| gg [pD (.sl tI)] <| fun (x45 : List Int) => 
  on1 (r10_maker_regs N 6 x45 (r10_maker.mk x2 x3 ([] : List api_Cell))) <| gg [p_r10_maker] <| fun (x46 : r10_maker) => 
  on1 (r10_maker_ins N 9 x0 x46) <| gg [p_r10_maker] <| fun (x47 : r10_maker) => 
  some (0, (gD (.sl t_api_Cell)).dv x44.L ((gD (.sl t_api_Cell)).dv x47.L []))) <|
 bi (x5 == 7) (
  on1 (r10_maker_plain N 11 (r10_maker.mk x2 x3 ([] : List api_Cell))) <| gg [p_r10_maker] <| fun (x48 : r10_maker) => 
  on1 (r10_maker_plain N 11 (r10_maker.mk x2 x3 ([] : List api_Cell))) <| gg [p_r10_maker] <| fun (x49 : r10_maker) => 
  some (0, (gD (.sl t_api_Cell)).dv x48.L ((gD (.sl t_api_Cell)).dv x49.L []))) <|
 bi (x5 == 8) (
  on1 (r10_maker_plain N 12 (r10_maker.mk x2 x3 ([] : List api_Cell))) <| gg [p_r10_maker] <| fun (x50 : r10_maker) => 
  on1 (r10_maker_plain N 12 (r10_maker.mk x2 x3 ([] : List api_Cell))) <| gg [p_r10_maker] <| fun (x51 : r10_maker) => 
  some (0, (gD (.sl t_api_Cell)).dv x50.L ((gD (.sl t_api_Cell)).dv x51.L []))) <|
 some (0, (gD (.sl t_api_Cell)).dv ([] : List api_Cell) ((gD (.sl t_api_Cell)).dv ([] : List api_Cell) []))
noncomputable def X_r10_Emit (N : Nat) : CE := (c_r10_Emit, mkF [p_api_Ins, pD (.ar 16 tI), pI, pI] [pD (.sl t_api_Cell), pD (.sl t_api_Cell)] (r10_Emit N))
theorem Y_r10_Emit (N : Nat) : CEok Q (X_r10_Emit N) :=
 fnG (hi := h_r10_Emit) (l := [X_r1_RightIns N, X_r1_Form N, X_r10_Side N, X_r10_maker_ins N, X_r10_sent N, X_r10_maker_regs N, X_r10_onE N, X_r10_owned N, X_r10_maker_reg N, X_r1_Reads N, X_r10_anyE N, X_r10_maker_plain N]) (t := []) ti_ok hmix ⟨Y_r1_RightIns N, Y_r1_Form N, Y_r10_Side N, Y_r10_maker_ins N, Y_r10_sent N, Y_r10_maker_regs N, Y_r10_onE N, Y_r10_owned N, Y_r10_maker_reg N, Y_r1_Reads N, Y_r10_anyE N, Y_r10_maker_plain N, trivial⟩ ⟨rfl, rfl, rfl, rfl, rfl, rfl, rfl, rfl, rfl, rfl, rfl, rfl, rfl, rfl, rfl, rfl, rfl, rfl, rfl, rfl, rfl, rfl, rfl, rfl, rfl, rfl, rfl, rfl, rfl, rfl, rfl, rfl, trivial⟩ f_128 (by kernel_rfl) (by kernel_rfl) trivial fun ys => by kernel_rfl
def c_r10_With : CS := ⟨53, 67, ⟨[.agg [.d (.sl t_api_Ins), .d tI, .d (.sl tU)], .agg [.d (.ar 16 tI)]], []⟩, [.agg [.o t_api_Block, .d (.ar 16 tI)], .one (.d tI)], false, []⟩
def s_r10_With_2 : LS := ⟨⟨[.no, .no, .one (.p 0 0 [1, 1, 1]), .one (.p 1 0 [16]), .one (.p 2 0 [1, 16]), .no, .one (.p 3 0 [1, 16]), .one (.d tI), .one (.p 4 0 [1, 1, 1, 1, 1, 1]), .one (.d tI)] ++ nos 70, [[.d (.sl t_api_Ins), .d tI, .d (.sl tU)], [.d (.ar 16 tI)], [.d (.sl t_api_Block), .d (.ar 16 tI)], [.oh 4 6 [1, 1, 1, 1, 1, 1], .d (.ar 16 tI)], [.d tI, .d tI, .d tI, .d tI, .o t_api_Cell, .o t_api_Cell]]⟩, [(3, ⟨[.no, .no, .one (.p 0 0 [1, 1, 1]), .one (.p 1 0 [16]), .one (.p 2 0 [1, 16]), .no, .one (.p 3 0 [1, 16]), .one (.d tI)] ++ nos 72, [[.d (.sl t_api_Ins), .d tI, .d (.sl tU)], [.d (.ar 16 tI)], [.d (.sl t_api_Block), .d (.ar 16 tI)], [.oh 4 6 [1, 1, 1, 1, 1, 1], .d (.ar 16 tI)], [.d tI, .d tI, .d tI, .d tI, .o t_api_Cell, .o t_api_Cell]]⟩)]⟩
def s_r10_With_0 : LS := ⟨⟨[.no, .no, .one (.p 0 0 [1, 1, 1]), .one (.p 1 0 [16]), .one (.p 2 0 [1, 16]), .no, .one (.p 3 0 [1, 16]), .one (.d tI)] ++ nos 72, [[.d (.sl t_api_Ins), .d tI, .d (.sl tU)], [.d (.ar 16 tI)], [.d (.sl t_api_Block), .d (.ar 16 tI)], q_4]⟩, [(1, ⟨[.no, .no, .one (.p 0 0 [1, 1, 1]), .one (.p 1 0 [16]), .one (.p 2 0 [1, 16]), .no, .one (.p 3 0 [1, 16])] ++ nos 73, [[.d (.sl t_api_Ins), .d tI, .d (.sl tU)], [.d (.ar 16 tI)], [.d (.sl t_api_Block), .d (.ar 16 tI)], [.o t_api_Block, .d (.ar 16 tI)]]⟩)]⟩
def h_r10_With : Hi := ⟨[((1, 2), c_r10_Closed), ((3, 1), c_r10_Cut), ((11, 13), c_r10_Emit)], [(0, s_r10_With_0), (2, s_r10_With_2)], [15, 25, 41], [], []⟩
theorem f_67 : Fn Q 67 f67 (codeOf f67) := ⟨by kernel_rfl, by kernel_rfl, by kernel_rfl, by kernel_rfl, by kernel_rfl⟩
noncomputable def T_r10_With (N : Nat) : List CE := [X_r10_Closed N, X_r10_Cut N, X_r10_Emit N]
theorem TT_r10_With (N : Nat) : AllP (CEok Q) (T_r10_With N) := ⟨Y_r10_Closed N, Y_r10_Cut N, Y_r10_Emit N, trivial⟩
theorem A_r10_With (N : Nat) : AllP (fun e => lookC (T_r10_With N) e.2.id = some e.2) h_r10_With.cs := ⟨rfl, rfl, rfl, trivial⟩
noncomputable def r10_With_r2 (N : Nat) (again : Fn' (Option Rs) [pI, pI, pD (.sl t_api_Ins), pI, pD (.sl tU), pD (.ar 16 tI), pD (.sl t_api_Block), pD (.ar 16 tI), pI, pI, pD (.ar 16 tI), pI, pI, pI, pI, pD (.sl t_api_Cell), pD (.sl t_api_Cell)]) (x0 : Int) (x1 : Int) (x2 : List api_Ins) (x3 : Int) (x4 : List Int) (x5 : List Int) (x6 : List api_Block) (x7 : List Int) (x8 : Int) (x9 : Int) (x10 : List Int) (x11 : Int) (x12 : Int) (x13 : Int) (x14 : Int) (x15 : List api_Cell) (x16 : List api_Cell) : Option Rs :=
 bi (decide (x1 < x12)) (
  gd (idx x1 (List.length x2)) <|
  on1 (r10_Emit N (List.getD x2 x1.toNat api_Ins.z) x5 x1 (w.i64 (x1 - x11))) <| gg [pD (.sl t_api_Cell), pD (.sl t_api_Cell)] <| fun (x17 : List api_Cell) (x18 : List api_Cell) => 
  gd (rm x15 x17 72) <|
  gd (rm x16 x18 72) <|
  again x0 (w.i64 (x1 + 1)) x2 x3 x4 x5 x6 x7 x8 x9 x10 x11 x12 x13 x14 (x15 ++ x17) (x16 ++ x18)) <|
 some (3, gI.dv x0 ((gD (.sl t_api_Ins)).dv x2 (gI.dv x3 ((gD (.sl tU)).dv x4 ((gD (.ar 16 tI)).dv x5 ((gD (.sl t_api_Block)).dv x6 ((gD (.ar 16 tI)).dv x7 (gI.dv x8 (gI.dv x9 ((gD (.ar 16 tI)).dv x10 (gI.dv x11 (gI.dv x12 (gI.dv x13 (gI.dv x14 ((gD (.sl t_api_Cell)).dv x15 ((gD (.sl t_api_Cell)).dv x16 []))))))))))))))))
noncomputable def r10_With_l2 (N : Nat) : Nat → Fn' (Option Rs) [pI, pI, pD (.sl t_api_Ins), pI, pD (.sl tU), pD (.ar 16 tI), pD (.sl t_api_Block), pD (.ar 16 tI), pI, pI, pD (.ar 16 tI), pI, pI, pI, pI, pD (.sl t_api_Cell), pD (.sl t_api_Cell)] := lpG (r10_With_r2 N)
noncomputable def L_r10_With_2 (N : Nat) : LE := (2, mkM [pI, pI, pD (.sl t_api_Ins), pI, pD (.sl tU), pD (.ar 16 tI), pD (.sl t_api_Block), pD (.ar 16 tI), pI, pI, pD (.ar 16 tI), pI, pI, pI, pI, pD (.sl t_api_Cell), pD (.sl t_api_Cell)] [(3, [pI, pD (.sl t_api_Ins), pI, pD (.sl tU), pD (.ar 16 tI), pD (.sl t_api_Block), pD (.ar 16 tI), pI, pI, pD (.ar 16 tI), pI, pI, pI, pI, pD (.sl t_api_Cell), pD (.sl t_api_Cell)])] (r10_With_l2 N N))
theorem K_r10_With_2 (N : Nat) : LEok Q h_r10_With (bodOf f67) f67.ntmps 5 (L_r10_With_2 N) :=
 loopG (hi := h_r10_With) (l := T_r10_With N) (t := []) (r := r10_With_r2 N) ti_ok hmix (TT_r10_With N) (A_r10_With N) f_67 trivial (ls := s_r10_With_2) (body := bodyAt f67 2) (by kernel_rfl) (by kernel_rfl) fun A ys => by kernel_rfl
def s_r10_With_0r : LS := ⟨⟨[.no, .no, .one (.p 0 0 [1, 1, 1]), .one (.p 1 0 [16]), .one (.p 2 0 [1, 16]), .no, .one (.p 3 0 [1, 16]), .one (.d tI)] ++ nos 72, [[.d (.sl t_api_Ins), .d tI, .d (.sl tU)], [.d (.ar 16 tI)], [.d (.sl t_api_Block), .d (.ar 16 tI)], [.oh 4 6 [1, 1, 1, 1, 1, 1], .d (.ar 16 tI)], [.d tI, .d tI, .d tI, .d tI, .o t_api_Cell, .o t_api_Cell]]⟩, []⟩
noncomputable def r10_With_r0r (N : Nat) (again : Fn' (Option Rs) [pI, pD (.sl t_api_Ins), pI, pD (.sl tU), pD (.ar 16 tI), pD (.sl t_api_Block), pD (.ar 16 tI), pI, pI, pD (.ar 16 tI), pI, pI, pI, pI, pD (.sl t_api_Cell), pD (.sl t_api_Cell)]) (x0 : Int) (x1 : List api_Ins) (x2 : Int) (x3 : List Int) (x4 : List Int) (x5 : List api_Block) (x6 : List Int) (x7 : Int) (x8 : Int) (x9 : List Int) (x10 : Int) (x11 : Int) (x12 : Int) (x13 : Int) (x14 : List api_Cell) (x15 : List api_Cell) : Option Rs :=
 gd (decide (x0 < x7)) <|
 gd (decide (x0 = x8 ∧ 0 ≤ x0 ∧ x0 < x7)) <|
 onA 3 (r10_With_l2 N N x0 x10 x1 x2 x3 x4 x5 x6 x7 x8 x9 x10 x11 x12 x13 x14 x15) <| gg [pI, pD (.sl t_api_Ins), pI, pD (.sl tU), pD (.ar 16 tI), pD (.sl t_api_Block), pD (.ar 16 tI), pI, pI, pD (.ar 16 tI), pI, pI, pI, pI, pD (.sl t_api_Cell), pD (.sl t_api_Cell)] <| fun (x16 : Int) (x17 : List api_Ins) (x18 : Int) (x19 : List Int) (x20 : List Int) (x21 : List api_Block) (x22 : List Int) (x23 : Int) (x24 : Int) (x25 : List Int) (x26 : Int) (x27 : Int) (x28 : Int) (x29 : Int) (x30 : List api_Cell) (x31 : List api_Cell) => 
 again (w.i64 (x16 + 1)) x17 x18 x19 x20 x21 x22 x23 x24 x25 x26 x27 x28 x29 x30 x31
theorem r10_With_r0r_eq (N : Nat) (A : List DV → Option Rs) : ∀ ys, round cx0 h_r10_With (ctL (T_r10_With N)) (ltL [L_r10_With_2 N]) f67.ntmps 5 0 s_r10_With_0r (bodyAt f67 0) A (dvG [pI, pD (.sl t_api_Ins), pI, pD (.sl tU), pD (.ar 16 tI), pD (.sl t_api_Block), pD (.ar 16 tI), pI, pI, pD (.ar 16 tI), pI, pI, pI, pI, pD (.sl t_api_Cell), pD (.sl t_api_Cell)] ys) = apG [pI, pD (.sl t_api_Ins), pI, pD (.sl tU), pD (.ar 16 tI), pD (.sl t_api_Block), pD (.ar 16 tI), pI, pI, pD (.ar 16 tI), pI, pI, pI, pI, pD (.sl t_api_Cell), pD (.sl t_api_Cell)] (r10_With_r0r N (cK [pI, pD (.sl t_api_Ins), pI, pD (.sl tU), pD (.ar 16 tI), pD (.sl t_api_Block), pD (.ar 16 tI), pI, pI, pD (.ar 16 tI), pI, pI, pI, pI, pD (.sl t_api_Cell), pD (.sl t_api_Cell)] A)) ys := fun ys => by kernel_rfl
def s_r10_With_0x : LS := ⟨⟨[.no, .no, .one (.p 0 0 [1, 1, 1]), .one (.p 1 0 [16]), .one (.p 2 0 [1, 16]), .no, .one (.p 3 0 [1, 16]), .one (.d tI)] ++ nos 72, [[.d (.sl t_api_Ins), .d tI, .d (.sl tU)], [.d (.ar 16 tI)], [.d (.sl t_api_Block), .d (.ar 16 tI)], [.oh 3 6 [1, 1, 1, 1, 1, 1], .d (.ar 16 tI)]]⟩, [(1, ⟨[.no, .no, .one (.p 0 0 [1, 1, 1]), .one (.p 1 0 [16]), .one (.p 2 0 [1, 16]), .no, .one (.p 3 0 [1, 16])] ++ nos 73, [[.d (.sl t_api_Ins), .d tI, .d (.sl tU)], [.d (.ar 16 tI)], [.d (.sl t_api_Block), .d (.ar 16 tI)], [.oh 3 6 [1, 1, 1, 1, 1, 1], .d (.ar 16 tI)]]⟩)]⟩
noncomputable def r10_With_r0x (N : Nat) (again : Fn' (Option Rs) [pI, pD (.sl t_api_Ins), pI, pD (.sl tU), pD (.ar 16 tI), pD (.sl t_api_Block), pD (.ar 16 tI), pI, pI, pD (.ar 16 tI)]) (x0 : Int) (x1 : List api_Ins) (x2 : Int) (x3 : List Int) (x4 : List Int) (x5 : List api_Block) (x6 : List Int) (x7 : Int) (x8 : Int) (x9 : List Int) : Option Rs :=
 bi (decide (x0 < x7)) (
  gd (decide (x0 = x8 ∧ 0 ≤ x0 ∧ x0 < x7)) <|
  none) <|
 some (1, (gD (.sl t_api_Ins)).dv x1 (gI.dv x2 ((gD (.sl tU)).dv x3 ((gD (.ar 16 tI)).dv x4 ((gD (.sl t_api_Block)).dv x5 ((gD (.ar 16 tI)).dv x6 (gI.dv x7 (gI.dv x8 ((gD (.ar 16 tI)).dv x9 [])))))))))
theorem r10_With_r0x_eq (N : Nat) (A : List DV → Option Rs) : ∀ ys, round cx0 h_r10_With (ctL (T_r10_With N)) (ltL []) f67.ntmps 4 0 s_r10_With_0x (bodyAt f67 0) A (dvG [pI, pD (.sl t_api_Ins), pI, pD (.sl tU), pD (.ar 16 tI), pD (.sl t_api_Block), pD (.ar 16 tI), pI, pI, pD (.ar 16 tI)] ys) = apG [pI, pD (.sl t_api_Ins), pI, pD (.sl tU), pD (.ar 16 tI), pD (.sl t_api_Block), pD (.ar 16 tI), pI, pI, pD (.ar 16 tI)] (r10_With_r0x N (cK [pI, pD (.sl t_api_Ins), pI, pD (.sl tU), pD (.ar 16 tI), pD (.sl t_api_Block), pD (.ar 16 tI), pI, pI, pD (.ar 16 tI)] A)) ys := fun ys => by kernel_rfl
end Go.Proofs.Zz
