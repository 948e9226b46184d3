import Derived.Test.YtnfpdmhdpeffjaaGreatKT
set_option linter.unusedSimpArgs false
set_option linter.unusedVariables false
/- What functions of the program compute, as plain functions. -/
set_option linter.unusedVariables false
set_option maxRecDepth 100000
namespace Go.Proofs.Zz
open Go Go.Proofs.Tryz
def c_sl_Clone_api_Slot : CS := ⟨0, 134, ⟨[.one (.d (.sl t_api_Slot))], []⟩, [.one (.o t_api_Slot)], true, []⟩
def h_sl_Clone_api_Slot : Hi := ⟨[], [], [4], [], []⟩
theorem f_134 : Fn Q 134 f134 (codeOf f134) := ⟨by kernel_rfl, by kernel_rfl, by kernel_rfl, by kernel_rfl, by kernel_rfl⟩
noncomputable def sl_Clone_api_Slot (N : Nat) (x0 : List api_Slot) : Option Rs :=
 gd (rm [] x0 16) <|
 some (0, (gD (.sl t_api_Slot)).dv ([] ++ x0) [])
noncomputable def X_sl_Clone_api_Slot (N : Nat) : CE := (c_sl_Clone_api_Slot, mkF [pD (.sl t_api_Slot)] [pD (.sl t_api_Slot)] (sl_Clone_api_Slot N))
theorem Y_sl_Clone_api_Slot (N : Nat) : CEok Q (X_sl_Clone_api_Slot N) := mkF_ok fun ys a q h =>
  clone_ok ti_ok hmix (hi := h_sl_Clone_api_Slot) rfl rfl rfl rfl rfl f_134 (by kernel_rfl) (by kernel_rfl) (by kernel_rfl) (fun hx => by
   obtain ⟨x, _⟩ := ys
   have hx : x = ([] : List (Den t_api_Slot)) := hx
   subst hx
   exact (show denC cx0 h_sl_Clone_api_Slot (ctL []) (ltL []) f134 (codeOf f134) t_api_Slot .nl = sl_Clone_api_Slot N [] by kernel_rfl).trans h) ((show ∀ ys : TupG [pD (.sl t_api_Slot)], denC cx0 h_sl_Clone_api_Slot (ctL []) (ltL []) f134 (codeOf f134) t_api_Slot (.nn t_api_Slot ys.1) = sl_Clone_api_Slot N ys.1 from fun ys => by kernel_rfl) ys |>.trans h)
def c_sl_Clone_uint32 : CS := ⟨1, 135, ⟨[.one (.d (.sl tW))], []⟩, [.one (.o tW)], true, []⟩
def h_sl_Clone_uint32 : Hi := ⟨[], [], [4], [], []⟩
theorem f_135 : Fn Q 135 f135 (codeOf f135) := ⟨by kernel_rfl, by kernel_rfl, by kernel_rfl, by kernel_rfl, by kernel_rfl⟩
noncomputable def sl_Clone_uint32 (N : Nat) (x0 : List Int) : Option Rs :=
 gd (rm [] x0 4) <|
 some (0, (gD (.sl tW)).dv ([] ++ x0) [])
noncomputable def X_sl_Clone_uint32 (N : Nat) : CE := (c_sl_Clone_uint32, mkF [pD (.sl tW)] [pD (.sl tW)] (sl_Clone_uint32 N))
theorem Y_sl_Clone_uint32 (N : Nat) : CEok Q (X_sl_Clone_uint32 N) := mkF_ok fun ys a q h =>
  clone_ok ti_ok hmix (hi := h_sl_Clone_uint32) rfl rfl rfl rfl rfl f_135 (by kernel_rfl) (by kernel_rfl) (by kernel_rfl) (fun hx => by
   obtain ⟨x, _⟩ := ys
   have hx : x = ([] : List (Den tW)) := hx
   subst hx
   exact (show denC cx0 h_sl_Clone_uint32 (ctL []) (ltL []) f135 (codeOf f135) tW .nl = sl_Clone_uint32 N [] by kernel_rfl).trans h) ((show ∀ ys : TupG [pD (.sl tW)], denC cx0 h_sl_Clone_uint32 (ctL []) (ltL []) f135 (codeOf f135) tW (.nn tW ys.1) = sl_Clone_uint32 N ys.1 from fun ys => by kernel_rfl) ys |>.trans h)
def c_sl_Clone_bool : CS := ⟨2, 136, ⟨[.one (.d (.sl tB))], []⟩, [.one (.o tB)], true, []⟩
def h_sl_Clone_bool : Hi := ⟨[], [], [4], [], []⟩
theorem f_136 : Fn Q 136 f136 (codeOf f136) := ⟨by kernel_rfl, by kernel_rfl, by kernel_rfl, by kernel_rfl, by kernel_rfl⟩
noncomputable def sl_Clone_bool (N : Nat) (x0 : List Bool) : Option Rs :=
 gd (rm [] x0 1) <|
 some (0, (gD (.sl tB)).dv ([] ++ x0) [])
noncomputable def X_sl_Clone_bool (N : Nat) : CE := (c_sl_Clone_bool, mkF [pD (.sl tB)] [pD (.sl tB)] (sl_Clone_bool N))
theorem Y_sl_Clone_bool (N : Nat) : CEok Q (X_sl_Clone_bool N) := mkF_ok fun ys a q h =>
  clone_ok ti_ok hmix (hi := h_sl_Clone_bool) rfl rfl rfl rfl rfl f_136 (by kernel_rfl) (by kernel_rfl) (by kernel_rfl) (fun hx => by
   obtain ⟨x, _⟩ := ys
   have hx : x = ([] : List (Den tB)) := hx
   subst hx
   exact (show denC cx0 h_sl_Clone_bool (ctL []) (ltL []) f136 (codeOf f136) tB .nl = sl_Clone_bool N [] by kernel_rfl).trans h) ((show ∀ ys : TupG [pD (.sl tB)], denC cx0 h_sl_Clone_bool (ctL []) (ltL []) f136 (codeOf f136) tB (.nn tB ys.1) = sl_Clone_bool N ys.1 from fun ys => by kernel_rfl) ys |>.trans h)
def c_sl_Clone_api_Entry : CS := ⟨3, 137, ⟨[.one (.d (.sl t_api_Entry))], []⟩, [.one (.o t_api_Entry)], true, []⟩
def h_sl_Clone_api_Entry : Hi := ⟨[], [], [4], [], []⟩
theorem f_137 : Fn Q 137 f137 (codeOf f137) := ⟨by kernel_rfl, by kernel_rfl, by kernel_rfl, by kernel_rfl, by kernel_rfl⟩
noncomputable def sl_Clone_api_Entry (N : Nat) (x0 : List api_Entry) : Option Rs :=
 gd (rm [] x0 32) <|
 some (0, (gD (.sl t_api_Entry)).dv ([] ++ x0) [])
noncomputable def X_sl_Clone_api_Entry (N : Nat) : CE := (c_sl_Clone_api_Entry, mkF [pD (.sl t_api_Entry)] [pD (.sl t_api_Entry)] (sl_Clone_api_Entry N))
theorem Y_sl_Clone_api_Entry (N : Nat) : CEok Q (X_sl_Clone_api_Entry N) := mkF_ok fun ys a q h =>
  clone_ok ti_ok hmix (hi := h_sl_Clone_api_Entry) rfl rfl rfl rfl rfl f_137 (by kernel_rfl) (by kernel_rfl) (by kernel_rfl) (fun hx => by
   obtain ⟨x, _⟩ := ys
   have hx : x = ([] : List (Den t_api_Entry)) := hx
   subst hx
   exact (show denC cx0 h_sl_Clone_api_Entry (ctL []) (ltL []) f137 (codeOf f137) t_api_Entry .nl = sl_Clone_api_Entry N [] by kernel_rfl).trans h) ((show ∀ ys : TupG [pD (.sl t_api_Entry)], denC cx0 h_sl_Clone_api_Entry (ctL []) (ltL []) f137 (codeOf f137) t_api_Entry (.nn t_api_Entry ys.1) = sl_Clone_api_Entry N ys.1 from fun ys => by kernel_rfl) ys |>.trans h)
def c_sl_Clone_api_Request : CS := ⟨4, 138, ⟨[.one (.d (.sl t_api_Request))], []⟩, [.one (.o t_api_Request)], true, []⟩
def h_sl_Clone_api_Request : Hi := ⟨[], [], [4], [], []⟩
theorem f_138 : Fn Q 138 f138 (codeOf f138) := ⟨by kernel_rfl, by kernel_rfl, by kernel_rfl, by kernel_rfl, by kernel_rfl⟩
noncomputable def sl_Clone_api_Request (N : Nat) (x0 : List api_Request) : Option Rs :=
 gd (rm [] x0 64) <|
 some (0, (gD (.sl t_api_Request)).dv ([] ++ x0) [])
noncomputable def X_sl_Clone_api_Request (N : Nat) : CE := (c_sl_Clone_api_Request, mkF [pD (.sl t_api_Request)] [pD (.sl t_api_Request)] (sl_Clone_api_Request N))
theorem Y_sl_Clone_api_Request (N : Nat) : CEok Q (X_sl_Clone_api_Request N) := mkF_ok fun ys a q h =>
  clone_ok ti_ok hmix (hi := h_sl_Clone_api_Request) rfl rfl rfl rfl rfl f_138 (by kernel_rfl) (by kernel_rfl) (by kernel_rfl) (fun hx => by
   obtain ⟨x, _⟩ := ys
   have hx : x = ([] : List (Den t_api_Request)) := hx
   subst hx
   exact (show denC cx0 h_sl_Clone_api_Request (ctL []) (ltL []) f138 (codeOf f138) t_api_Request .nl = sl_Clone_api_Request N [] by kernel_rfl).trans h) ((show ∀ ys : TupG [pD (.sl t_api_Request)], denC cx0 h_sl_Clone_api_Request (ctL []) (ltL []) f138 (codeOf f138) t_api_Request (.nn t_api_Request ys.1) = sl_Clone_api_Request N ys.1 from fun ys => by kernel_rfl) ys |>.trans h)
def c_sl_Clone_byte : CS := ⟨5, 139, ⟨[.one (.d (.sl tU))], []⟩, [.one (.o tU)], true, []⟩
def h_sl_Clone_byte : Hi := ⟨[], [], [4], [], []⟩
theorem f_139 : Fn Q 139 f139 (codeOf f139) := ⟨by kernel_rfl, by kernel_rfl, by kernel_rfl, by kernel_rfl, by kernel_rfl⟩
noncomputable def sl_Clone_byte (N : Nat) (x0 : List Int) : Option Rs :=
 gd (rm [] x0 1) <|
 some (0, (gD (.sl tU)).dv ([] ++ x0) [])
noncomputable def X_sl_Clone_byte (N : Nat) : CE := (c_sl_Clone_byte, mkF [pD (.sl tU)] [pD (.sl tU)] (sl_Clone_byte N))
theorem Y_sl_Clone_byte (N : Nat) : CEok Q (X_sl_Clone_byte N) := mkF_ok fun ys a q h =>
  clone_ok ti_ok hmix (hi := h_sl_Clone_byte) rfl rfl rfl rfl rfl f_139 (by kernel_rfl) (by kernel_rfl) (by kernel_rfl) (fun hx => by
   obtain ⟨x, _⟩ := ys
   have hx : x = ([] : List (Den tU)) := hx
   subst hx
   exact (show denC cx0 h_sl_Clone_byte (ctL []) (ltL []) f139 (codeOf f139) tU .nl = sl_Clone_byte N [] by kernel_rfl).trans h) ((show ∀ ys : TupG [pD (.sl tU)], denC cx0 h_sl_Clone_byte (ctL []) (ltL []) f139 (codeOf f139) tU (.nn tU ys.1) = sl_Clone_byte N ys.1 from fun ys => by kernel_rfl) ys |>.trans h)
def c_sl_Clone_api_Write : CS := ⟨6, 140, ⟨[.one (.d (.sl t_api_Write))], []⟩, [.one (.o t_api_Write)], true, []⟩
def h_sl_Clone_api_Write : Hi := ⟨[], [], [4], [], []⟩
theorem f_140 : Fn Q 140 f140 (codeOf f140) := ⟨by kernel_rfl, by kernel_rfl, by kernel_rfl, by kernel_rfl, by kernel_rfl⟩
noncomputable def sl_Clone_api_Write (N : Nat) (x0 : List api_Write) : Option Rs :=
 gd (rm [] x0 24) <|
 some (0, (gD (.sl t_api_Write)).dv ([] ++ x0) [])
noncomputable def X_sl_Clone_api_Write (N : Nat) : CE := (c_sl_Clone_api_Write, mkF [pD (.sl t_api_Write)] [pD (.sl t_api_Write)] (sl_Clone_api_Write N))
theorem Y_sl_Clone_api_Write (N : Nat) : CEok Q (X_sl_Clone_api_Write N) := mkF_ok fun ys a q h =>
  clone_ok ti_ok hmix (hi := h_sl_Clone_api_Write) rfl rfl rfl rfl rfl f_140 (by kernel_rfl) (by kernel_rfl) (by kernel_rfl) (fun hx => by
   obtain ⟨x, _⟩ := ys
   have hx : x = ([] : List (Den t_api_Write)) := hx
   subst hx
   exact (show denC cx0 h_sl_Clone_api_Write (ctL []) (ltL []) f140 (codeOf f140) t_api_Write .nl = sl_Clone_api_Write N [] by kernel_rfl).trans h) ((show ∀ ys : TupG [pD (.sl t_api_Write)], denC cx0 h_sl_Clone_api_Write (ctL []) (ltL []) f140 (codeOf f140) t_api_Write (.nn t_api_Write ys.1) = sl_Clone_api_Write N ys.1 from fun ys => by kernel_rfl) ys |>.trans h)
def c_state_Clone : CS := ⟨7, 78, ⟨[.agg q_0], []⟩, [.agg q_1], true, []⟩
def h_state_Clone : Hi := ⟨[((1, 2), c_sl_Clone_api_Slot), ((1, 5), c_sl_Clone_uint32), ((1, 8), c_sl_Clone_uint32), ((2, 2), c_sl_Clone_bool), ((2, 5), c_sl_Clone_bool), ((3, 2), c_sl_Clone_api_Entry), ((3, 5), c_sl_Clone_api_Request), ((4, 2), c_sl_Clone_byte), ((4, 5), c_sl_Clone_api_Write)], [], [], [], []⟩
theorem f_78 : Fn Q 78 f78 (codeOf f78) := ⟨by kernel_rfl, by kernel_rfl, by kernel_rfl, by kernel_rfl, by kernel_rfl⟩
noncomputable def state_Clone (N : Nat) (x0 : api_State) : Option Rs :=
 on1 (sl_Clone_api_Slot N x0.Ldq) <| gg [pD (.sl t_api_Slot)] <| fun (x1 : List api_Slot) => 
 on1 (sl_Clone_uint32 N x0.Sdq) <| gg [pD (.sl tW)] <| fun (x2 : List Int) => 
 on1 (sl_Clone_uint32 N x0.Aeq) <| gg [pD (.sl tW)] <| fun (x3 : List Int) => 
 on1 (sl_Clone_bool N x0.Abq) <| gg [pD (.sl tB)] <| fun (x4 : List Bool) => 
 on1 (sl_Clone_bool N x0.Ebq) <| gg [pD (.sl tB)] <| fun (x5 : List Bool) => 
 on1 (sl_Clone_api_Entry N x0.Saq) <| gg [pD (.sl t_api_Entry)] <| fun (x6 : List api_Entry) => 
 on1 (sl_Clone_api_Request N x0.Table) <| gg [pD (.sl t_api_Request)] <| fun (x7 : List api_Request) => 
 on1 (sl_Clone_byte N x0.Mem) <| gg [pD (.sl tU)] <| fun (x8 : List Int) => 
 on1 (sl_Clone_api_Write N x0.Writes) <| gg [pD (.sl t_api_Write)] <| fun (x9 : List api_Write) => 
 some (0, g_api_State.dv ({ x0 with Ldq := x1, Sdq := x2, Aeq := x3, Abq := x4, Ebq := x5, Saq := x6, Table := x7, Mem := x8, Writes := x9 } : api_State) [])
noncomputable def X_state_Clone (N : Nat) : CE := (c_state_Clone, mkF [p_api_State] [p_api_State] (state_Clone N))
theorem Y_state_Clone (N : Nat) : CEok Q (X_state_Clone N) :=
 fnG (hi := h_state_Clone) (l := [X_sl_Clone_api_Slot N, X_sl_Clone_uint32 N, X_sl_Clone_bool N, X_sl_Clone_api_Entry N, X_sl_Clone_api_Request N, X_sl_Clone_byte N, X_sl_Clone_api_Write N]) (t := []) ti_ok hmix ⟨Y_sl_Clone_api_Slot N, Y_sl_Clone_uint32 N, Y_sl_Clone_bool N, Y_sl_Clone_api_Entry N, Y_sl_Clone_api_Request N, Y_sl_Clone_byte N, Y_sl_Clone_api_Write N, trivial⟩ ⟨rfl, rfl, rfl, rfl, rfl, rfl, rfl, rfl, rfl, trivial⟩ f_78 (by kernel_rfl) (by kernel_rfl) trivial fun ys => by kernel_rfl
def c_epipe_Trap : CS := ⟨8, 79, ⟨[.one (.p 0 0 [1, 16, 16, 1, 1, 1, 1, 1, 1, 16, 16, 1, 1, 1, 1, 1, 1, 1, 1, 1, 1, 1, 1, 1, 1, 1, 1, 1, 1, 1, 1, 1]), .one (.d tI), .one (.d tI), .one (.d tI)], [q_1]⟩, [], false, [q_1]⟩
def h_epipe_Trap : Hi := ⟨[], [], [14, 22], [], []⟩
theorem f_79 : Fn Q 79 f79 (codeOf f79) := ⟨by kernel_rfl, by kernel_rfl, by kernel_rfl, by kernel_rfl, by kernel_rfl⟩
noncomputable def epipe_Trap (N : Nat) (x0 : Int) (x1 : Int) (x2 : Int) (x3 : api_State) : Option Rs :=
 bi (x3.Trap.Kind == 0) (
  some (0, g_api_State.dv ({ x3 with Trap := (api_Trap.mk x0 x1 x2) } : api_State) [])) <|
 bi (decide (x3.Trap.Step > x1)) (
  some (0, g_api_State.dv ({ x3 with Trap := (api_Trap.mk x0 x1 x2) } : api_State) [])) <|
 some (0, g_api_State.dv x3 [])
noncomputable def X_epipe_Trap (N : Nat) : CE := (c_epipe_Trap, mkF [pI, pI, pI, p_api_State] [p_api_State] (epipe_Trap N))
theorem Y_epipe_Trap (N : Nat) : CEok Q (X_epipe_Trap N) :=
 fnG (hi := h_epipe_Trap) (l := []) (t := []) ti_ok hmix trivial trivial f_79 (by kernel_rfl) (by kernel_rfl) trivial fun ys => by kernel_rfl
def c_isa_Form : CS := ⟨10, 210, ⟨[.one (.d tI)], []⟩, [.one (.d tI)], true, []⟩
def h_isa_Form : Hi := ⟨[], [], [3, 6, 10, 13, 16, 19, 22, 25, 28], [], []⟩
theorem f_210 : Fn Q 210 f210 (codeOf f210) := ⟨by kernel_rfl, by kernel_rfl, by kernel_rfl, by kernel_rfl, by kernel_rfl⟩
noncomputable def isa_Form (N : Nat) (x0 : Int) : Option Rs :=
 bi (decide (x0 < 1)) (
  some (0, gI.dv 0 [])) <|
 bi (decide (x0 > 41)) (
  some (0, gI.dv 0 [])) <|
 bi (decide (x0 ≤ 16)) (
  some (0, gI.dv 1 [])) <|
 bi (decide (x0 ≤ 24)) (
  some (0, gI.dv 2 [])) <|
 bi (x0 == 25) (
  some (0, gI.dv 3 [])) <|
 bi (decide (x0 ≤ 30)) (
  some (0, gI.dv 4 [])) <|
 bi (decide (x0 ≤ 33)) (
  some (0, gI.dv 5 [])) <|
 bi (decide (x0 ≤ 39)) (
  some (0, gI.dv 6 [])) <|
 bi (x0 == 40) (
  some (0, gI.dv 7 [])) <|
 some (0, gI.dv 8 [])
noncomputable def X_isa_Form (N : Nat) : CE := (c_isa_Form, mkF [pI] [pI] (isa_Form N))
theorem Y_isa_Form (N : Nat) : CEok Q (X_isa_Form N) :=
 fnG (hi := h_isa_Form) (l := []) (t := []) ti_ok hmix trivial trivial f_210 (by kernel_rfl) (by kernel_rfl) trivial fun ys => by kernel_rfl
def c_isa_HasD : CS := ⟨11, 213, ⟨[.one (.d tI)], []⟩, [.one (.d tB)], true, []⟩
def h_isa_HasD : Hi := ⟨[], [], [5], [], []⟩
theorem f_213 : Fn Q 213 f213 (codeOf f213) := ⟨by kernel_rfl, by kernel_rfl, by kernel_rfl, by kernel_rfl, by kernel_rfl⟩
noncomputable def isa_HasD (N : Nat) (x0 : Int) : Option Rs :=
 bi (decide (x0 ≥ 1)) (
  some (0, gB.dv (decide (x0 ≤ 4)) [])) <|
 some (0, gB.dv false [])
noncomputable def X_isa_HasD (N : Nat) : CE := (c_isa_HasD, mkF [pI] [pB] (isa_HasD N))
theorem Y_isa_HasD (N : Nat) : CEok Q (X_isa_HasD N) :=
 fnG (hi := h_isa_HasD) (l := []) (t := []) ti_ok hmix trivial trivial f_213 (by kernel_rfl) (by kernel_rfl) trivial fun ys => by kernel_rfl
def c_isa_within : CS := ⟨12, 258, ⟨[.one (.d tI), .one (.d tB), .one (.d tI), .one (.d tI)], []⟩, [.one (.d tB)], true, []⟩
def h_isa_within : Hi := ⟨[], [], [10, 16], [], []⟩
theorem f_258 : Fn Q 258 f258 (codeOf f258) := ⟨by kernel_rfl, by kernel_rfl, by kernel_rfl, by kernel_rfl, by kernel_rfl⟩
noncomputable def isa_within (N : Nat) (x0 : Int) (x1 : Bool) (x2 : Int) (x3 : Int) : Option Rs :=
 bi (!x1) (
  some (0, gB.dv (x0 == 0) [])) <|
 bi (decide (x0 ≥ x2)) (
  some (0, gB.dv (decide (x0 ≤ x3)) [])) <|
 some (0, gB.dv false [])
noncomputable def X_isa_within (N : Nat) : CE := (c_isa_within, mkF [pI, pB, pI, pI] [pB] (isa_within N))
theorem Y_isa_within (N : Nat) : CEok Q (X_isa_within N) :=
 fnG (hi := h_isa_within) (l := []) (t := []) ti_ok hmix trivial trivial f_258 (by kernel_rfl) (by kernel_rfl) trivial fun ys => by kernel_rfl
def c_isa_HasA : CS := ⟨13, 211, ⟨[.one (.d tI)], []⟩, [.one (.d tB)], true, []⟩
def h_isa_HasA : Hi := ⟨[], [], [5, 9, 13, 17], [], []⟩
theorem f_211 : Fn Q 211 f211 (codeOf f211) := ⟨by kernel_rfl, by kernel_rfl, by kernel_rfl, by kernel_rfl, by kernel_rfl⟩
noncomputable def isa_HasA (N : Nat) (x0 : Int) : Option Rs :=
 bi (x0 == 1) (
  some (0, gB.dv true [])) <|
 bi (x0 == 2) (
  some (0, gB.dv true [])) <|
 bi (x0 == 4) (
  some (0, gB.dv true [])) <|
 bi (x0 == 5) (
  some (0, gB.dv true [])) <|
 some (0, gB.dv (x0 == 6) [])
noncomputable def X_isa_HasA (N : Nat) : CE := (c_isa_HasA, mkF [pI] [pB] (isa_HasA N))
theorem Y_isa_HasA (N : Nat) : CEok Q (X_isa_HasA N) :=
 fnG (hi := h_isa_HasA) (l := []) (t := []) ti_ok hmix trivial trivial f_211 (by kernel_rfl) (by kernel_rfl) trivial fun ys => by kernel_rfl
def c_isa_HasB : CS := ⟨14, 212, ⟨[.one (.d tI)], []⟩, [.one (.d tB)], true, []⟩
def h_isa_HasB : Hi := ⟨[], [], [5, 9], [], []⟩
theorem f_212 : Fn Q 212 f212 (codeOf f212) := ⟨by kernel_rfl, by kernel_rfl, by kernel_rfl, by kernel_rfl, by kernel_rfl⟩
noncomputable def isa_HasB (N : Nat) (x0 : Int) : Option Rs :=
 bi (x0 == 1) (
  some (0, gB.dv true [])) <|
 bi (x0 == 5) (
  some (0, gB.dv true [])) <|
 some (0, gB.dv (x0 == 6) [])
noncomputable def X_isa_HasB (N : Nat) : CE := (c_isa_HasB, mkF [pI] [pB] (isa_HasB N))
theorem Y_isa_HasB (N : Nat) : CEok Q (X_isa_HasB N) :=
 fnG (hi := h_isa_HasB) (l := []) (t := []) ti_ok hmix trivial trivial f_212 (by kernel_rfl) (by kernel_rfl) trivial fun ys => by kernel_rfl
def c_isa_HasImm : CS := ⟨15, 259, ⟨[.one (.d tI)], []⟩, [.one (.d tB)], true, []⟩
def h_isa_HasImm : Hi := ⟨[], [], [5], [], []⟩
theorem f_259 : Fn Q 259 f259 (codeOf f259) := ⟨by kernel_rfl, by kernel_rfl, by kernel_rfl, by kernel_rfl, by kernel_rfl⟩
noncomputable def isa_HasImm (N : Nat) (x0 : Int) : Option Rs :=
 bi (decide (x0 ≥ 2)) (
  some (0, gB.dv (decide (x0 ≤ 7)) [])) <|
 some (0, gB.dv false [])
noncomputable def X_isa_HasImm (N : Nat) : CE := (c_isa_HasImm, mkF [pI] [pB] (isa_HasImm N))
theorem Y_isa_HasImm (N : Nat) : CEok Q (X_isa_HasImm N) :=
 fnG (hi := h_isa_HasImm) (l := []) (t := []) ti_ok hmix trivial trivial f_259 (by kernel_rfl) (by kernel_rfl) trivial fun ys => by kernel_rfl
def c_isa_Right : CS := ⟨16, 209, ⟨[.agg [.d tI, .d tI, .d tI, .d tI, .d tI]], []⟩, [.one (.d tB)], true, []⟩
def h_isa_Right : Hi := ⟨[((1, 2), c_isa_Form), ((5, 6), c_isa_HasD), ((5, 7), c_isa_within), ((5, 13), c_isa_HasA), ((5, 14), c_isa_within), ((5, 20), c_isa_HasB), ((5, 21), c_isa_within), ((5, 27), c_isa_HasImm), ((5, 30), c_isa_within)], [], [12, 17, 21, 24, 31, 38, 45], [], []⟩
theorem f_209 : Fn Q 209 f209 (codeOf f209) := ⟨by kernel_rfl, by kernel_rfl, by kernel_rfl, by kernel_rfl, by kernel_rfl⟩
noncomputable def isa_Right (N : Nat) (x0 : api_Ins) : Option Rs :=
 on1 (isa_Form N x0.1) <| gg [pI] <| fun (x1 : Int) => 
 bi (x0.1 == 22) (
  bi (decide (x1 > 0)) (
   on1 (isa_HasD N x1) <| gg [pB] <| fun (x2 : Bool) => 
   on1 (isa_within N x0.2.1 x2 0 15) <| gg [pB] <| fun (x3 : Bool) => 
   bi x3 (
    on1 (isa_HasA N x1) <| gg [pB] <| fun (x4 : Bool) => 
    on1 (isa_within N x0.2.2.1 x4 0 15) <| gg [pB] <| fun (x5 : Bool) => 
    bi x5 (
     on1 (isa_HasB N x1) <| gg [pB] <| fun (x6 : Bool) => 
     on1 (isa_within N x0.2.2.2.1 x6 0 15) <| gg [pB] <| fun (x7 : Bool) => 
     bi x7 (
      on1 (isa_HasImm N x1) <| gg [pB] <| fun (x8 : Bool) => 
      on1 (isa_within N x0.2.2.2.2.1 x8 0 31) <| gg [pB] <| fun (x9 : Bool) => 
      some (0, gB.dv x9 [])) <|
     some (0, gB.dv false [])) <|
    some (0, gB.dv false [])) <|
   some (0, gB.dv false [])) <|
  some (0, gB.dv false [])) <|
 bi (x0.1 == 23) (
  bi (decide (x1 > 0)) (
   on1 (isa_HasD N x1) <| gg [pB] <| fun (x10 : Bool) => 
   on1 (isa_within N x0.2.1 x10 0 15) <| gg [pB] <| fun (x11 : Bool) => 
   bi x11 (
    on1 (isa_HasA N x1) <| gg [pB] <| fun (x12 : Bool) => 
    on1 (isa_within N x0.2.2.1 x12 0 15) <| gg [pB] <| fun (x13 : Bool) => 
    bi x13 (
     on1 (isa_HasB N x1) <| gg [pB] <| fun (x14 : Bool) => 
     on1 (isa_within N x0.2.2.2.1 x14 0 15) <| gg [pB] <| fun (x15 : Bool) => 
     bi x15 (
      on1 (isa_HasImm N x1) <| gg [pB] <| fun (x16 : Bool) => 
      on1 (isa_within N x0.2.2.2.2.1 x16 0 31) <| gg [pB] <| fun (x17 : Bool) => 
      some (0, gB.dv x17 [])) <|
     some (0, gB.dv false [])) <|
    some (0, gB.dv false [])) <|
   some (0, gB.dv false [])) <|
  some (0, gB.dv false [])) <|
 bi (x0.1 == 24) (
  bi (decide (x1 > 0)) (
   on1 (isa_HasD N x1) <| gg [pB] <| fun (x18 : Bool) => 
   on1 (isa_within N x0.2.1 x18 0 15) <| gg [pB] <| fun (x19 : Bool) => 
   bi x19 (
    on1 (isa_HasA N x1) <| gg [pB] <| fun (x20 : Bool) => 
    on1 (isa_within N x0.2.2.1 x20 0 15) <| gg [pB] <| fun (x21 : Bool) => 
    bi x21 (
     on1 (isa_HasB N x1) <| gg [pB] <| fun (x22 : Bool) => 
     on1 (isa_within N x0.2.2.2.1 x22 0 15) <| gg [pB] <| fun (x23 : Bool) => 
     bi x23 (
      on1 (isa_HasImm N x1) <| gg [pB] <| fun (x24 : Bool) => 
      on1 (isa_within N x0.2.2.2.2.1 x24 0 31) <| gg [pB] <| fun (x25 : Bool) => 
      some (0, gB.dv x25 [])) <|
     some (0, gB.dv false [])) <|
    some (0, gB.dv false [])) <|
   some (0, gB.dv false [])) <|
  some (0, gB.dv false [])) <|
 bi (decide (x1 > 0)) (
  on1 (isa_HasD N x1) <| gg [pB] <| fun (x26 : Bool) => 
  on1 (isa_within N x0.2.1 x26 0 15) <| gg [pB] <| fun (x27 : Bool) => 
  bi x27 (
   on1 (isa_HasA N x1) <| gg [pB] <| fun (x28 : Bool) => 
   on1 (isa_within N x0.2.2.1 x28 0 15) <| gg [pB] <| fun (x29 : Bool) => 
   bi x29 (
    on1 (isa_HasB N x1) <| gg [pB] <| fun (x30 : Bool) => 
    on1 (isa_within N x0.2.2.2.1 x30 0 15) <| gg [pB] <| fun (x31 : Bool) => 
    bi x31 (
     on1 (isa_HasImm N x1) <| gg [pB] <| fun (x32 : Bool) => 
     on1 (isa_within N x0.2.2.2.2.1 x32 (-8192 : Int) 8191) <| gg [pB] <| fun (x33 : Bool) => 
     some (0, gB.dv x33 [])) <|
    some (0, gB.dv false [])) <|
   some (0, gB.dv false [])) <|
  some (0, gB.dv false [])) <|
 some (0, gB.dv false [])
noncomputable def X_isa_Right (N : Nat) : CE := (c_isa_Right, mkF [p_api_Ins] [pB] (isa_Right N))
theorem Y_isa_Right (N : Nat) : CEok Q (X_isa_Right N) :=
 fnG (hi := h_isa_Right) (l := [X_isa_Form N, X_isa_HasD N, X_isa_within N, X_isa_HasA N, X_isa_HasB N, X_isa_HasImm N]) (t := []) ti_ok hmix ⟨Y_isa_Form N, Y_isa_HasD N, Y_isa_within N, Y_isa_HasA N, Y_isa_HasB N, Y_isa_HasImm N, trivial⟩ ⟨rfl, rfl, rfl, rfl, rfl, rfl, rfl, rfl, rfl, trivial⟩ f_209 (by kernel_rfl) (by kernel_rfl) trivial fun ys => by kernel_rfl
def c_isa_Reads : CS := ⟨17, 130, ⟨[.agg [.d tI, .d tI, .d tI, .d tI, .d tI]], []⟩, [.one (.o tI)], true, []⟩
def h_isa_Reads : Hi := ⟨[((1, 1), c_isa_Right), ((4, 2), c_isa_Form), ((5, 1), c_isa_HasA), ((7, 1), c_isa_HasB)], [], [7, 13, 17, 25, 29], [], []⟩
theorem f_130 : Fn Q 130 f130 (codeOf f130) := ⟨by kernel_rfl, by kernel_rfl, by kernel_rfl, by kernel_rfl, by kernel_rfl⟩
noncomputable def isa_Reads (N : Nat) (x0 : api_Ins) : Option Rs :=
 on1 (isa_Right N x0) <| gg [pB] <| fun (x1 : Bool) => 
 bi (!x1) (
  some (0, (gD (.sl tI)).dv ([] : List Int) [])) <|
 on1 (isa_Form N x0.1) <| gg [pI] <| fun (x2 : Int) => 
 on1 (isa_HasA N x2) <| gg [pB] <| fun (x3 : Bool) => 
 bi x3 (
  bi (x0.2.2.1 != 0) (
   gd (rm ([] : List Int) [x0.2.2.1] 8) <|
   on1 (isa_HasB N x2) <| gg [pB] <| fun (x4 : Bool) => 
   bi x4 (
    bi (x0.2.2.2.1 != 0) (
     gd (rm (([] : List Int) ++ [x0.2.2.1]) [x0.2.2.2.1] 8) <|
     some (0, (gD (.sl tI)).dv ((([] : List Int) ++ [x0.2.2.1]) ++ [x0.2.2.2.1]) [])) <|
    some (0, (gD (.sl tI)).dv (([] : List Int) ++ [x0.2.2.1]) [])) <|
   some (0, (gD (.sl tI)).dv (([] : List Int) ++ [x0.2.2.1]) [])) <|
  on1 (isa_HasB N x2) <| gg [pB] <| fun (x5 : Bool) => 
  bi x5 (
   bi (x0.2.2.2.1 != 0) (
    gd (rm ([] : List Int) [x0.2.2.2.1] 8) <|
    some (0, (gD (.sl tI)).dv (([] : List Int) ++ [x0.2.2.2.1]) [])) <|
   some (0, (gD (.sl tI)).dv ([] : List Int) [])) <|
  some (0, (gD (.sl tI)).dv ([] : List Int) [])) <|
 on1 (isa_HasB N x2) <| gg [pB] <| fun (x6 : Bool) => 
 bi x6 (
  bi (x0.2.2.2.1 != 0) (
   gd (rm ([] : List Int) [x0.2.2.2.1] 8) <|
   some (0, (gD (.sl tI)).dv (([] : List Int) ++ [x0.2.2.2.1]) [])) <|
  some (0, (gD (.sl tI)).dv ([] : List Int) [])) <|
 some (0, (gD (.sl tI)).dv ([] : List Int) [])
noncomputable def X_isa_Reads (N : Nat) : CE := (c_isa_Reads, mkF [p_api_Ins] [pD (.sl tI)] (isa_Reads N))
theorem Y_isa_Reads (N : Nat) : CEok Q (X_isa_Reads N) :=
 fnG (hi := h_isa_Reads) (l := [X_isa_Right N, X_isa_Form N, X_isa_HasA N, X_isa_HasB N]) (t := []) ti_ok hmix ⟨Y_isa_Right N, Y_isa_Form N, Y_isa_HasA N, Y_isa_HasB N, trivial⟩ ⟨rfl, rfl, rfl, rfl, trivial⟩ f_130 (by kernel_rfl) (by kernel_rfl) trivial fun ys => by kernel_rfl
def c_isa_Writes : CS := ⟨18, 131, ⟨[.agg [.d tI, .d tI, .d tI, .d tI, .d tI]], []⟩, [.one (.d tI)], true, []⟩
def h_isa_Writes : Hi := ⟨[((1, 1), c_isa_Right), ((1, 6), c_isa_Form), ((1, 7), c_isa_HasD)], [], [6, 12], [], []⟩
theorem f_131 : Fn Q 131 f131 (codeOf f131) := ⟨by kernel_rfl, by kernel_rfl, by kernel_rfl, by kernel_rfl, by kernel_rfl⟩
noncomputable def isa_Writes (N : Nat) (x0 : api_Ins) : Option Rs :=
 on1 (isa_Right N x0) <| gg [pB] <| fun (x1 : Bool) => 
 bi (!x1) (
  some (0, gI.dv 0 [])) <|
 on1 (isa_Form N x0.1) <| gg [pI] <| fun (x2 : Int) => 
 on1 (isa_HasD N x2) <| gg [pB] <| fun (x3 : Bool) => 
 bi (!x3) (
  some (0, gI.dv 0 [])) <|
 some (0, gI.dv x0.2.1 [])
noncomputable def X_isa_Writes (N : Nat) : CE := (c_isa_Writes, mkF [p_api_Ins] [pI] (isa_Writes N))
theorem Y_isa_Writes (N : Nat) : CEok Q (X_isa_Writes N) :=
 fnG (hi := h_isa_Writes) (l := [X_isa_Right N, X_isa_Form N, X_isa_HasD N]) (t := []) ti_ok hmix ⟨Y_isa_Right N, Y_isa_Form N, Y_isa_HasD N, trivial⟩ ⟨rfl, rfl, rfl, trivial⟩ f_131 (by kernel_rfl) (by kernel_rfl) trivial fun ys => by kernel_rfl
def c_epipe_named : CS := ⟨19, 70, ⟨[.agg q_2], []⟩, [.one (.o tI)], true, []⟩
def h_epipe_named : Hi := ⟨[((4, 2), c_isa_Reads), ((4, 5), c_isa_Writes), ((15, 2), c_isa_Reads)], [], [5, 16, 23, 29, 36], [], []⟩
theorem f_70 : Fn Q 70 f70 (codeOf f70) := ⟨by kernel_rfl, by kernel_rfl, by kernel_rfl, by kernel_rfl, by kernel_rfl⟩
noncomputable def epipe_named (N : Nat) (x0 : api_Cell) : Option Rs :=
 bi (x0.1 == 1) (
  on1 (isa_Reads N x0.2.1) <| gg [pD (.sl tI)] <| fun (x1 : List Int) => 
  on1 (isa_Writes N x0.2.1) <| gg [pI] <| fun (x2 : Int) => 
  gd (rm x1 [x2] 8) <|
  some (0, (gD (.sl tI)).dv (x1 ++ [x2]) [])) <|
 bi (x0.1 == 2) (
  on1 (isa_Reads N x0.2.1) <| gg [pD (.sl tI)] <| fun (x3 : List Int) => 
  on1 (isa_Writes N x0.2.1) <| gg [pI] <| fun (x4 : Int) => 
  gd (rm x3 [x4] 8) <|
  some (0, (gD (.sl tI)).dv (x3 ++ [x4]) [])) <|
 bi (x0.1 == 3) (
  some (0, (gD (.sl tI)).dv [x0.2.1.2.2.1] [])) <|
 bi (x0.1 == 4) (
  some (0, (gD (.sl tI)).dv [x0.2.1.2.2.1] [])) <|
 bi (x0.1 == 7) (
  some (0, (gD (.sl tI)).dv [x0.2.1.2.1] [])) <|
 bi (x0.1 == 5) (
  some (0, (gD (.sl tI)).dv [x0.2.2.1] [])) <|
 bi (x0.1 == 6) (
  some (0, (gD (.sl tI)).dv [x0.2.2.1] [])) <|
 bi (x0.1 == 8) (
  some (0, (gD (.sl tI)).dv [x0.2.2.1] [])) <|
 bi (x0.1 == 9) (
  on1 (isa_Reads N x0.2.1) <| gg [pD (.sl tI)] <| fun (x5 : List Int) => 
  some (0, (gD (.sl tI)).dv x5 [])) <|
 some (0, (gD (.sl tI)).dv ([] : List Int) [])
noncomputable def X_epipe_named (N : Nat) : CE := (c_epipe_named, mkF [p_api_Cell] [pD (.sl tI)] (epipe_named N))
theorem Y_epipe_named (N : Nat) : CEok Q (X_epipe_named N) :=
 fnG (hi := h_epipe_named) (l := [X_isa_Reads N, X_isa_Writes N]) (t := []) ti_ok hmix ⟨Y_isa_Reads N, Y_isa_Writes N, trivial⟩ ⟨rfl, rfl, rfl, trivial⟩ f_70 (by kernel_rfl) (by kernel_rfl) trivial fun ys => by kernel_rfl
def c_epipe_Named_1 : CS := ⟨20, 71, ⟨[.one (.d tI)], []⟩, [.one (.d tB)], true, []⟩
def h_epipe_Named_1 : Hi := ⟨[], [], [5], [], []⟩
theorem f_71 : Fn Q 71 f71 (codeOf f71) := ⟨by kernel_rfl, by kernel_rfl, by kernel_rfl, by kernel_rfl, by kernel_rfl⟩
noncomputable def epipe_Named_1 (N : Nat) (x0 : Int) : Option Rs :=
 bi (decide (x0 < 1)) (
  some (0, gB.dv true [])) <|
 some (0, gB.dv (decide (x0 > 15)) [])
noncomputable def X_epipe_Named_1 (N : Nat) : CE := (c_epipe_Named_1, mkF [pI] [pB] (epipe_Named_1 N))
theorem Y_epipe_Named_1 (N : Nat) : CEok Q (X_epipe_Named_1 N) :=
 fnG (hi := h_epipe_Named_1) (l := []) (t := []) ti_ok hmix trivial trivial f_71 (by kernel_rfl) (by kernel_rfl) trivial fun ys => by kernel_rfl
def c_sl_IndexFunc_int : CS := ⟨21, 129, ⟨[.one (.d (.sl tI)), .one (.f 71 [])], []⟩, [.one (.d tI)], true, []⟩
def s_sl_IndexFunc_int_0 : LS := ⟨⟨[.one (.d (.sl tI)), .one (.f 71 []), .no, .no, .no, .no, .no, .one (.d tI), .one (.d tI)] ++ nos 10, []⟩, [(0, ⟨[.no, .no, .no, .no, .one (.d tI)] ++ nos 14, []⟩), (1, ⟨nos 19, []⟩)]⟩
def h_sl_IndexFunc_int : Hi := ⟨[((4, 5), c_epipe_Named_1)], [(0, s_sl_IndexFunc_int_0)], [9, 16], [], []⟩
theorem f_129 : Fn Q 129 f129 (codeOf f129) := ⟨by kernel_rfl, by kernel_rfl, by kernel_rfl, by kernel_rfl, by kernel_rfl⟩
noncomputable def T_sl_IndexFunc_int (N : Nat) : List CE := [X_epipe_Named_1 N]
theorem TT_sl_IndexFunc_int (N : Nat) : AllP (CEok Q) (T_sl_IndexFunc_int N) := ⟨Y_epipe_Named_1 N, trivial⟩
theorem A_sl_IndexFunc_int (N : Nat) : AllP (fun e => lookC (T_sl_IndexFunc_int N) e.2.id = some e.2) h_sl_IndexFunc_int.cs := ⟨rfl, trivial⟩
noncomputable def sl_IndexFunc_int_r0 (N : Nat) (again : Fn' (Option Rs) [pD (.sl tI), pI, pI]) (x0 : List Int) (x1 : Int) (x2 : Int) : Option Rs :=
 bi (decide (x2 < x1)) (
  gd (idx x2 (List.length x0)) <|
  on1 (epipe_Named_1 N (List.getD x0 x2.toNat 0)) <| gg [pB] <| fun (x3 : Bool) => 
  bi x3 (
   some (0, gI.dv x2 [])) <|
  again x0 x1 (w.i64 (x2 + 1))) <|
 some (1, [])
noncomputable def sl_IndexFunc_int_l0 (N : Nat) : Nat → Fn' (Option Rs) [pD (.sl tI), pI, pI] := lpG (sl_IndexFunc_int_r0 N)
noncomputable def L_sl_IndexFunc_int_0 (N : Nat) : LE := (0, mkM [pD (.sl tI), pI, pI] [(0, [pI]), (1, [])] (sl_IndexFunc_int_l0 N N))
theorem K_sl_IndexFunc_int_0 (N : Nat) : LEok Q h_sl_IndexFunc_int (bodOf f129) f129.ntmps 0 (L_sl_IndexFunc_int_0 N) :=
 loopG (hi := h_sl_IndexFunc_int) (l := T_sl_IndexFunc_int N) (t := []) (r := sl_IndexFunc_int_r0 N) ti_ok hmix (TT_sl_IndexFunc_int N) (A_sl_IndexFunc_int N) f_129 trivial (ls := s_sl_IndexFunc_int_0) (body := bodyAt f129 0) (by kernel_rfl) (by kernel_rfl) fun A ys => by kernel_rfl
noncomputable def sl_IndexFunc_int (N : Nat) (x0 : List Int) : Option Rs :=
 onB 0 1 (sl_IndexFunc_int_l0 N N x0 (len x0) 0) (gg [pI] <| fun (x1 : Int) => 
  some (0, gI.dv x1 [])) <| gg [] <| 
 some (0, gI.dv (-1 : Int) [])
noncomputable def X_sl_IndexFunc_int (N : Nat) : CE := (c_sl_IndexFunc_int, mkF [pD (.sl tI)] [pI] (sl_IndexFunc_int N))
theorem Y_sl_IndexFunc_int (N : Nat) : CEok Q (X_sl_IndexFunc_int N) :=
 fnG (hi := h_sl_IndexFunc_int) (l := T_sl_IndexFunc_int N) (t := [L_sl_IndexFunc_int_0 N]) ti_ok hmix (TT_sl_IndexFunc_int N) (A_sl_IndexFunc_int N) f_129 (by kernel_rfl) (by kernel_rfl) ⟨K_sl_IndexFunc_int_0 N, trivial⟩ fun ys => by kernel_rfl
def c_sl_DeleteFunc_int : CS := ⟨22, 69, ⟨[.one (.o tI), .one (.f 71 [])], []⟩, [.one (.o tI)], true, []⟩
def s_sl_DeleteFunc_int_0 : LS := ⟨⟨[.one (.o tI), .one (.f 71 []), .no, .no, .no, .one (.d tI), .one (.d tI)] ++ nos 35, []⟩, [(1, ⟨[.one (.o tI), .no, .no, .no, .no, .one (.d tI)] ++ nos 36, []⟩)]⟩
def h_sl_DeleteFunc_int : Hi := ⟨[((1, 2), c_sl_IndexFunc_int), ((8, 2), c_epipe_Named_1)], [(0, s_sl_DeleteFunc_int_0)], [12, 19, 29], [], []⟩
theorem f_69 : Fn Q 69 f69 (codeOf f69) := ⟨by kernel_rfl, by kernel_rfl, by kernel_rfl, by kernel_rfl, by kernel_rfl⟩
noncomputable def T_sl_DeleteFunc_int (N : Nat) : List CE := [X_sl_IndexFunc_int N, X_epipe_Named_1 N]
theorem TT_sl_DeleteFunc_int (N : Nat) : AllP (CEok Q) (T_sl_DeleteFunc_int N) := ⟨Y_sl_IndexFunc_int N, Y_epipe_Named_1 N, trivial⟩
theorem A_sl_DeleteFunc_int (N : Nat) : AllP (fun e => lookC (T_sl_DeleteFunc_int N) e.2.id = some e.2) h_sl_DeleteFunc_int.cs := ⟨rfl, rfl, trivial⟩
noncomputable def sl_DeleteFunc_int_r0 (N : Nat) (again : Fn' (Option Rs) [pD (.sl tI), pI, pI]) (x0 : List Int) (x1 : Int) (x2 : Int) : Option Rs :=
 bi (decide (x2 < (len x0))) (
  gd (idx x2 (List.length x0)) <|
  on1 (epipe_Named_1 N (List.getD x0 x2.toNat 0)) <| gg [pB] <| fun (x3 : Bool) => 
  bi (!x3) (
   gd (idx x1 (List.length x0)) <|
   again (List.set x0 x1.toNat (List.getD x0 x2.toNat 0)) (w.i64 (x1 + 1)) (w.i64 (x2 + 1))) <|
  again x0 x1 (w.i64 (x2 + 1))) <|
 some (1, (gD (.sl tI)).dv x0 (gI.dv x1 []))
noncomputable def sl_DeleteFunc_int_l0 (N : Nat) : Nat → Fn' (Option Rs) [pD (.sl tI), pI, pI] := lpG (sl_DeleteFunc_int_r0 N)
noncomputable def L_sl_DeleteFunc_int_0 (N : Nat) : LE := (0, mkM [pD (.sl tI), pI, pI] [(1, [pD (.sl tI), pI])] (sl_DeleteFunc_int_l0 N N))
theorem K_sl_DeleteFunc_int_0 (N : Nat) : LEok Q h_sl_DeleteFunc_int (bodOf f69) f69.ntmps 0 (L_sl_DeleteFunc_int_0 N) :=
 loopG (hi := h_sl_DeleteFunc_int) (l := T_sl_DeleteFunc_int N) (t := []) (r := sl_DeleteFunc_int_r0 N) ti_ok hmix (TT_sl_DeleteFunc_int N) (A_sl_DeleteFunc_int N) f_69 trivial (ls := s_sl_DeleteFunc_int_0) (body := bodyAt f69 0) (by kernel_rfl) (by kernel_rfl) fun A ys => by kernel_rfl
noncomputable def sl_DeleteFunc_int (N : Nat) (x0 : List Int) : Option Rs :=
 on1 (sl_IndexFunc_int N x0) <| gg [pI] <| fun (x1 : Int) => 
 bi (x1 == (-1 : Int)) (
  some (0, (gD (.sl tI)).dv x0 [])) <|
 onA 1 (sl_DeleteFunc_int_l0 N N x0 x1 (w.i64 (x1 + 1))) <| gg [pD (.sl tI), pI] <| fun (x2 : List Int) (x3 : Int) => 
 gd (sb x3 (len x2)) <|
 gd (sb x3 (len (laid x2 x3.toNat (List.replicate (List.length x2 - x3.toNat) (0 :Int))))) <|
 some (0, (gD (.sl tI)).dv (List.take (x3.toNat - 0) (List.drop 0 (laid x2 x3.toNat (List.replicate (List.length x2 - x3.toNat) (0 :Int))))) [])
noncomputable def X_sl_DeleteFunc_int (N : Nat) : CE := (c_sl_DeleteFunc_int, mkF [pD (.sl tI)] [pD (.sl tI)] (sl_DeleteFunc_int N))
theorem Y_sl_DeleteFunc_int (N : Nat) : CEok Q (X_sl_DeleteFunc_int N) :=
 fnG (hi := h_sl_DeleteFunc_int) (l := T_sl_DeleteFunc_int N) (t := [L_sl_DeleteFunc_int_0 N]) ti_ok hmix (TT_sl_DeleteFunc_int N) (A_sl_DeleteFunc_int N) f_69 (by kernel_rfl) (by kernel_rfl) ⟨K_sl_DeleteFunc_int_0 N, trivial⟩ fun ys => by kernel_rfl
def c_epipe_Named : CS := ⟨23, 27, ⟨[.agg q_2], []⟩, [.one (.o tI)], true, []⟩
def h_epipe_Named : Hi := ⟨[((1, 1), c_epipe_named), ((1, 2), c_sl_DeleteFunc_int)], [], [], [], []⟩
theorem f_27 : Fn Q 27 f27 (codeOf f27) := ⟨by kernel_rfl, by kernel_rfl, by kernel_rfl, by kernel_rfl, by kernel_rfl⟩
noncomputable def epipe_Named (N : Nat) (x0 : api_Cell) : Option Rs :=
 on1 (epipe_named N x0) <| gg [pD (.sl tI)] <| fun (x1 : List Int) => 
 on1 (sl_DeleteFunc_int N x1) <| gg [pD (.sl tI)] <| fun (x2 : List Int) => 
 some (0, (gD (.sl tI)).dv x2 [])
noncomputable def X_epipe_Named (N : Nat) : CE := (c_epipe_Named, mkF [p_api_Cell] [pD (.sl tI)] (epipe_Named N))
theorem Y_epipe_Named (N : Nat) : CEok Q (X_epipe_Named N) :=
 fnG (hi := h_epipe_Named) (l := [X_epipe_named N, X_sl_DeleteFunc_int N]) (t := []) ti_ok hmix ⟨Y_epipe_named N, Y_sl_DeleteFunc_int N, trivial⟩ ⟨rfl, rfl, trivial⟩ f_27 (by kernel_rfl) (by kernel_rfl) trivial fun ys => by kernel_rfl
def c_epipe_Free_1 : CS := ⟨24, 75, ⟨[.one (.d tI), .one (.p 0 0 [16, 16, 1, 1, 1, 1, 1, 1]), .one (.p 1 0 [1])], [q_3, [.d tI]]⟩, [.one (.d tB)], true, [q_3, [.d tI]]⟩
def h_epipe_Free_1 : Hi := ⟨[], [], [10], [], []⟩
theorem f_75 : Fn Q 75 f75 (codeOf f75) := ⟨by kernel_rfl, by kernel_rfl, by kernel_rfl, by kernel_rfl, by kernel_rfl⟩
noncomputable def epipe_Free_1 (N : Nat) (x0 : Int) (x1 : api_Side) (x2 : Int) : Option Rs :=
 gd (idx x0 16) <|
 bi (decide ((List.getD x1.Ready x0.toNat 0) < 0)) (
  some (0, gB.dv true (g_api_Side.dv x1 (gI.dv x2 [])))) <|
 gd (idx x0 16) <|
 some (0, gB.dv (decide ((List.getD x1.Ready x0.toNat 0) > x2)) (g_api_Side.dv x1 (gI.dv x2 [])))
noncomputable def X_epipe_Free_1 (N : Nat) : CE := (c_epipe_Free_1, mkF [pI, p_api_Side, pI] [pB, p_api_Side, pI] (epipe_Free_1 N))
theorem Y_epipe_Free_1 (N : Nat) : CEok Q (X_epipe_Free_1 N) :=
 fnG (hi := h_epipe_Free_1) (l := []) (t := []) ti_ok hmix trivial trivial f_75 (by kernel_rfl) (by kernel_rfl) trivial fun ys => by kernel_rfl
def c_sl_IndexFunc_int_2 : CS := ⟨25, 129, ⟨[.one (.d (.sl tI)), .one (.f 75 [⟨0, 0, [16, 16, 1, 1, 1, 1, 1, 1]⟩, ⟨1, 0, [1]⟩])], [q_3, [.d tI]]⟩, [.one (.d tI)], true, [q_3, [.d tI]]⟩
def s_sl_IndexFunc_int_2_0 : LS := ⟨⟨[.one (.d (.sl tI)), .one (.f 75 [⟨0, 0, [16, 16, 1, 1, 1, 1, 1, 1]⟩, ⟨1, 0, [1]⟩]), .no, .no, .no, .no, .no, .one (.d tI), .one (.d tI)] ++ nos 10, [q_3, [.d tI]]⟩, [(0, ⟨[.no, .no, .no, .no, .one (.d tI)] ++ nos 14, [q_3, [.d tI]]⟩), (1, ⟨nos 19, [q_3, [.d tI]]⟩)]⟩
def h_sl_IndexFunc_int_2 : Hi := ⟨[((4, 5), c_epipe_Free_1)], [(0, s_sl_IndexFunc_int_2_0)], [9, 16], [], []⟩
noncomputable def T_sl_IndexFunc_int_2 (N : Nat) : List CE := [X_epipe_Free_1 N]
theorem TT_sl_IndexFunc_int_2 (N : Nat) : AllP (CEok Q) (T_sl_IndexFunc_int_2 N) := ⟨Y_epipe_Free_1 N, trivial⟩
theorem A_sl_IndexFunc_int_2 (N : Nat) : AllP (fun e => lookC (T_sl_IndexFunc_int_2 N) e.2.id = some e.2) h_sl_IndexFunc_int_2.cs := ⟨rfl, trivial⟩
noncomputable def sl_IndexFunc_int_2_r0 (N : Nat) (again : Fn' (Option Rs) [pD (.sl tI), pI, pI, p_api_Side, pI]) (x0 : List Int) (x1 : Int) (x2 : Int) (x3 : api_Side) (x4 : Int) : Option Rs :=
 bi (decide (x2 < x1)) (
  gd (idx x2 (List.length x0)) <|
  on1 (epipe_Free_1 N (List.getD x0 x2.toNat 0) x3 x4) <| gg [pB, p_api_Side, pI] <| fun (x5 : Bool) (x6 : api_Side) (x7 : Int) => 
  bi x5 (
   some (0, gI.dv x2 (g_api_Side.dv x6 (gI.dv x7 [])))) <|
  again x0 x1 (w.i64 (x2 + 1)) x6 x7) <|
 some (1, g_api_Side.dv x3 (gI.dv x4 []))
noncomputable def sl_IndexFunc_int_2_l0 (N : Nat) : Nat → Fn' (Option Rs) [pD (.sl tI), pI, pI, p_api_Side, pI] := lpG (sl_IndexFunc_int_2_r0 N)
noncomputable def L_sl_IndexFunc_int_2_0 (N : Nat) : LE := (0, mkM [pD (.sl tI), pI, pI, p_api_Side, pI] [(0, [pI, p_api_Side, pI]), (1, [p_api_Side, pI])] (sl_IndexFunc_int_2_l0 N N))
theorem K_sl_IndexFunc_int_2_0 (N : Nat) : LEok Q h_sl_IndexFunc_int_2 (bodOf f129) f129.ntmps 2 (L_sl_IndexFunc_int_2_0 N) :=
 loopG (hi := h_sl_IndexFunc_int_2) (l := T_sl_IndexFunc_int_2 N) (t := []) (r := sl_IndexFunc_int_2_r0 N) ti_ok hmix (TT_sl_IndexFunc_int_2 N) (A_sl_IndexFunc_int_2 N) f_129 trivial (ls := s_sl_IndexFunc_int_2_0) (body := bodyAt f129 0) (by kernel_rfl) (by kernel_rfl) fun A ys => by kernel_rfl
noncomputable def sl_IndexFunc_int_2 (N : Nat) (x0 : List Int) (x1 : api_Side) (x2 : Int) : Option Rs :=
 onB 0 1 (sl_IndexFunc_int_2_l0 N N x0 (len x0) 0 x1 x2) (gg [pI, p_api_Side, pI] <| fun (x3 : Int) (x4 : api_Side) (x5 : Int) => 
  some (0, gI.dv x3 (g_api_Side.dv x4 (gI.dv x5 [])))) <| gg [p_api_Side, pI] <| fun (x6 : api_Side) (x7 : Int) => 
 some (0, gI.dv (-1 : Int) (g_api_Side.dv x6 (gI.dv x7 [])))
noncomputable def X_sl_IndexFunc_int_2 (N : Nat) : CE := (c_sl_IndexFunc_int_2, mkF [pD (.sl tI), p_api_Side, pI] [pI, p_api_Side, pI] (sl_IndexFunc_int_2 N))
theorem Y_sl_IndexFunc_int_2 (N : Nat) : CEok Q (X_sl_IndexFunc_int_2 N) :=
 fnG (hi := h_sl_IndexFunc_int_2) (l := T_sl_IndexFunc_int_2 N) (t := [L_sl_IndexFunc_int_2_0 N]) ti_ok hmix (TT_sl_IndexFunc_int_2 N) (A_sl_IndexFunc_int_2 N) f_129 (by kernel_rfl) (by kernel_rfl) ⟨K_sl_IndexFunc_int_2_0 N, trivial⟩ fun ys => by kernel_rfl
def c_sl_ContainsFunc_int : CS := ⟨26, 74, ⟨[.one (.d (.sl tI)), .one (.f 75 [⟨0, 0, [16, 16, 1, 1, 1, 1, 1, 1]⟩, ⟨1, 0, [1]⟩])], [q_3, [.d tI]]⟩, [.one (.d tB)], true, [q_3, [.d tI]]⟩
def h_sl_ContainsFunc_int : Hi := ⟨[((1, 2), c_sl_IndexFunc_int_2)], [], [], [], []⟩
theorem f_74 : Fn Q 74 f74 (codeOf f74) := ⟨by kernel_rfl, by kernel_rfl, by kernel_rfl, by kernel_rfl, by kernel_rfl⟩
noncomputable def sl_ContainsFunc_int (N : Nat) (x0 : List Int) (x1 : api_Side) (x2 : Int) : Option Rs :=
 on1 (sl_IndexFunc_int_2 N x0 x1 x2) <| gg [pI, p_api_Side, pI] <| fun (x3 : Int) (x4 : api_Side) (x5 : Int) => 
 some (0, gB.dv (decide (x3 ≥ 0)) (g_api_Side.dv x4 (gI.dv x5 [])))
noncomputable def X_sl_ContainsFunc_int (N : Nat) : CE := (c_sl_ContainsFunc_int, mkF [pD (.sl tI), p_api_Side, pI] [pB, p_api_Side, pI] (sl_ContainsFunc_int N))
theorem Y_sl_ContainsFunc_int (N : Nat) : CEok Q (X_sl_ContainsFunc_int N) :=
 fnG (hi := h_sl_ContainsFunc_int) (l := [X_sl_IndexFunc_int_2 N]) (t := []) ti_ok hmix ⟨Y_sl_IndexFunc_int_2 N, trivial⟩ ⟨rfl, trivial⟩ f_74 (by kernel_rfl) (by kernel_rfl) trivial fun ys => by kernel_rfl
def c_epipe_Free : CS := ⟨27, 29, ⟨[.agg q_3, .agg q_2, .one (.d tI)], []⟩, [.one (.d tB)], true, []⟩
def h_epipe_Free : Hi := ⟨[((1, 1), c_epipe_Named), ((1, 3), c_sl_ContainsFunc_int)], [], [], [], []⟩
theorem f_29 : Fn Q 29 f29 (codeOf f29) := ⟨by kernel_rfl, by kernel_rfl, by kernel_rfl, by kernel_rfl, by kernel_rfl⟩
noncomputable def epipe_Free (N : Nat) (x0 : api_Side) (x1 : api_Cell) (x2 : Int) : Option Rs :=
 on1 (epipe_Named N x1) <| gg [pD (.sl tI)] <| fun (x3 : List Int) => 
 on1 (sl_ContainsFunc_int N x3 x0 x2) <| gg [pB, p_api_Side, pI] <| fun (x4 : Bool) (x5 : api_Side) (x6 : Int) => 
 some (0, gB.dv (!x4) [])
noncomputable def X_epipe_Free (N : Nat) : CE := (c_epipe_Free, mkF [p_api_Side, p_api_Cell, pI] [pB] (epipe_Free N))
theorem Y_epipe_Free (N : Nat) : CEok Q (X_epipe_Free N) :=
 fnG (hi := h_epipe_Free) (l := [X_epipe_Named N, X_sl_ContainsFunc_int N]) (t := []) ti_ok hmix ⟨Y_epipe_Named N, Y_sl_ContainsFunc_int N, trivial⟩ ⟨rfl, rfl, trivial⟩ f_29 (by kernel_rfl) (by kernel_rfl) trivial fun ys => by kernel_rfl
def c_l11_Owners : CS := ⟨29, 68, ⟨[.one (.d tI)], []⟩, [.agg [.d (.ar 16 tI)]], true, []⟩
def s_l11_Owners_0 : LS := ⟨⟨[.one (.d tI), .no, .one (.p 0 0 [16]), .one (.p 1 0 [16]), .one (.d tI)] ++ nos 15, [[.d (.ar 16 tI)], [.d (.ar 16 tI)]]⟩, [(1, ⟨[.no, .no, .one (.p 0 0 [16]), .one (.p 1 0 [16])] ++ nos 16, [[.d (.ar 16 tI)], [.d (.ar 16 tI)]]⟩)]⟩
def h_l11_Owners : Hi := ⟨[], [(0, s_l11_Owners_0)], [6, 16], [], []⟩
theorem f_68 : Fn Q 68 f68 (codeOf f68) := ⟨by kernel_rfl, by kernel_rfl, by kernel_rfl, by kernel_rfl, by kernel_rfl⟩
noncomputable def T_l11_Owners (N : Nat) : List CE := []
theorem TT_l11_Owners (N : Nat) : AllP (CEok Q) (T_l11_Owners N) := trivial
theorem A_l11_Owners (N : Nat) : AllP (fun e => lookC (T_l11_Owners N) e.2.id = some e.2) h_l11_Owners.cs := trivial
noncomputable def l11_Owners_r0 (N : Nat) (again : Fn' (Option Rs) [pI, pI, pD (.ar 16 tI), pD (.ar 16 tI)]) (x0 : Int) (x1 : Int) (x2 : List Int) (x3 : List Int) : Option Rs :=
 bi (decide (x1 < 16)) (
  gd (idx x1 16) <|
  gf (decide ((w.u64 x1) < 0)) <|
  bi ((bitAnd .i64 (shr .i64 x0 (w.u64 x1)) 1) == 1) (
   gd (idx x1 16) <|
   again x0 (w.i64 (x1 + 1)) x2 (List.set (List.set x3 x1.toNat 2) x1.toNat 1)) <|
  again x0 (w.i64 (x1 + 1)) x2 (List.set x3 x1.toNat 2)) <|
 some (1, (gD (.ar 16 tI)).dv x2 ((gD (.ar 16 tI)).dv x3 []))
noncomputable def l11_Owners_l0 (N : Nat) : Nat → Fn' (Option Rs) [pI, pI, pD (.ar 16 tI), pD (.ar 16 tI)] := lpG (l11_Owners_r0 N)
noncomputable def L_l11_Owners_0 (N : Nat) : LE := (0, mkM [pI, pI, pD (.ar 16 tI), pD (.ar 16 tI)] [(1, [pD (.ar 16 tI), pD (.ar 16 tI)])] (l11_Owners_l0 N N))
theorem K_l11_Owners_0 (N : Nat) : LEok Q h_l11_Owners (bodOf f68) f68.ntmps 0 (L_l11_Owners_0 N) :=
 loopG (hi := h_l11_Owners) (l := T_l11_Owners N) (t := []) (r := l11_Owners_r0 N) ti_ok hmix (TT_l11_Owners N) (A_l11_Owners N) f_68 trivial (ls := s_l11_Owners_0) (body := bodyAt f68 0) (by kernel_rfl) (by kernel_rfl) fun A ys => by kernel_rfl
noncomputable def l11_Owners (N : Nat) (x0 : Int) : Option Rs :=
 onA 1 (l11_Owners_l0 N N x0 1 (List.replicate 16 (0 :Int)) (List.replicate 16 (0 :Int))) <| gg [pD (.ar 16 tI), pD (.ar 16 tI)] <| fun (x1 : List Int) (x2 : List Int) => 
 some (0, (gD (.ar 16 tI)).dv x2 [])
noncomputable def X_l11_Owners (N : Nat) : CE := (c_l11_Owners, mkF [pI] [pD (.ar 16 tI)] (l11_Owners N))
theorem Y_l11_Owners (N : Nat) : CEok Q (X_l11_Owners N) :=
 fnG (hi := h_l11_Owners) (l := T_l11_Owners N) (t := [L_l11_Owners_0 N]) ti_ok hmix (TT_l11_Owners N) (A_l11_Owners N) f_68 (by kernel_rfl) (by kernel_rfl) ⟨K_l11_Owners_0 N, trivial⟩ fun ys => by kernel_rfl
def c_r1_Form : CS := ⟨30, 42, ⟨[.one (.d tI)], []⟩, [.one (.d tI)], true, []⟩
def h_r1_Form : Hi := ⟨[], [], [3, 6, 10, 13, 16, 19, 22, 25, 28], [], []⟩
theorem f_42 : Fn Q 42 f42 (codeOf f42) := ⟨by kernel_rfl, by kernel_rfl, by kernel_rfl, by kernel_rfl, by kernel_rfl⟩
noncomputable def r1_Form (N : Nat) (x0 : Int) : Option Rs :=
 bi (decide (x0 < 1)) (
  some (0, gI.dv 0 [])) <|
 bi (decide (x0 > 41)) (
  some (0, gI.dv 0 [])) <|
 bi (decide (x0 ≤ 16)) (
  some (0, gI.dv 1 [])) <|
 bi (decide (x0 ≤ 24)) (
  some (0, gI.dv 2 [])) <|
 bi (x0 == 25) (
  some (0, gI.dv 3 [])) <|
 bi (decide (x0 ≤ 30)) (
  some (0, gI.dv 4 [])) <|
 bi (decide (x0 ≤ 33)) (
  some (0, gI.dv 5 [])) <|
 bi (decide (x0 ≤ 39)) (
  some (0, gI.dv 6 [])) <|
 bi (x0 == 40) (
  some (0, gI.dv 7 [])) <|
 some (0, gI.dv 8 [])
noncomputable def X_r1_Form (N : Nat) : CE := (c_r1_Form, mkF [pI] [pI] (r1_Form N))
theorem Y_r1_Form (N : Nat) : CEok Q (X_r1_Form N) :=
 fnG (hi := h_r1_Form) (l := []) (t := []) ti_ok hmix trivial trivial f_42 (by kernel_rfl) (by kernel_rfl) trivial fun ys => by kernel_rfl
def c_r1_Target : CS := ⟨31, 201, ⟨[.agg [.d (.sl t_api_Ins), .d tI, .d (.sl tU)], .one (.d tI)], []⟩, [.one (.d tI)], true, []⟩
def h_r1_Target : Hi := ⟨[((2, 2), c_r1_Form)], [], [17, 21, 26, 31, 38, 47], [], []⟩
theorem f_201 : Fn Q 201 f201 (codeOf f201) := ⟨by kernel_rfl, by kernel_rfl, by kernel_rfl, by kernel_rfl, by kernel_rfl⟩
noncomputable def r1_Target (N : Nat) (x0 : api_Program) (x1 : Int) : Option Rs :=
 gd (idx x1 (List.length x0.Code)) <|
 on1 (r1_Form N ((List.getD x0.Code x1.toNat api_Ins.z).1)) <| gg [pI] <| fun (x2 : Int) => 
 bi (x2 != 6) (
  bi (x2 != 7) (
   some (0, gI.dv (-1 : Int) [])) <|
  bi (decide ((List.getD x0.Code x1.toNat api_Ins.z).2.2.2.2.1 < (-8192 : Int))) (
   some (0, gI.dv (-1 : Int) [])) <|
  bi (decide ((List.getD x0.Code x1.toNat api_Ins.z).2.2.2.2.1 > 8191)) (
   some (0, gI.dv (-1 : Int) [])) <|
  bi (decide ((w.i64 (x1 + (List.getD x0.Code x1.toNat api_Ins.z).2.2.2.2.1)) < 0)) (
   some (0, gI.dv (-1 : Int) [])) <|
  bi (decide ((w.i64 (x1 + (List.getD x0.Code x1.toNat api_Ins.z).2.2.2.2.1)) ≥ (len x0.Code))) (
   some (0, gI.dv (-1 : Int) [])) <|
  some (0, gI.dv (w.i64 (x1 + (List.getD x0.Code x1.toNat api_Ins.z).2.2.2.2.1)) [])) <|
 bi (decide ((List.getD x0.Code x1.toNat api_Ins.z).2.2.2.2.1 < (-8192 : Int))) (
  some (0, gI.dv (-1 : Int) [])) <|
 bi (decide ((List.getD x0.Code x1.toNat api_Ins.z).2.2.2.2.1 > 8191)) (
  some (0, gI.dv (-1 : Int) [])) <|
 bi (decide ((w.i64 (x1 + (List.getD x0.Code x1.toNat api_Ins.z).2.2.2.2.1)) < 0)) (
  some (0, gI.dv (-1 : Int) [])) <|
 bi (decide ((w.i64 (x1 + (List.getD x0.Code x1.toNat api_Ins.z).2.2.2.2.1)) ≥ (len x0.Code))) (
  some (0, gI.dv (-1 : Int) [])) <|
 some (0, gI.dv (w.i64 (x1 + (List.getD x0.Code x1.toNat api_Ins.z).2.2.2.2.1)) [])
noncomputable def X_r1_Target (N : Nat) : CE := (c_r1_Target, mkF [p_api_Program, pI] [pI] (r1_Target N))
theorem Y_r1_Target (N : Nat) : CEok Q (X_r1_Target N) :=
 fnG (hi := h_r1_Target) (l := [X_r1_Form N]) (t := []) ti_ok hmix ⟨Y_r1_Form N, trivial⟩ ⟨rfl, trivial⟩ f_201 (by kernel_rfl) (by kernel_rfl) trivial fun ys => by kernel_rfl
def c_r1_Targets : CS := ⟨32, 164, ⟨[.agg [.d (.sl t_api_Ins), .d tI, .d (.sl tU)]], []⟩, [.one (.d tI)], true, []⟩
def s_r1_Targets_0 : LS := ⟨⟨[.no, .one (.p 0 0 [1, 1, 1]), .no, .one (.d tI)] ++ nos 27, [[.d (.sl t_api_Ins), .d tI, .d (.sl tU)]]⟩, [(0, ⟨[.no, .no, .one (.d tI)] ++ nos 28, []⟩), (1, ⟨nos 31, []⟩)]⟩
def h_r1_Targets : Hi := ⟨[((4, 6), c_r1_Form), ((5, 9), c_r1_Target)], [(0, s_r1_Targets_0)], [9, 21, 25, 30], [], []⟩
theorem f_164 : Fn Q 164 f164 (codeOf f164) := ⟨by kernel_rfl, by kernel_rfl, by kernel_rfl, by kernel_rfl, by kernel_rfl⟩
noncomputable def T_r1_Targets (N : Nat) : List CE := [X_r1_Form N, X_r1_Target N]
theorem TT_r1_Targets (N : Nat) : AllP (CEok Q) (T_r1_Targets N) := ⟨Y_r1_Form N, Y_r1_Target N, trivial⟩
theorem A_r1_Targets (N : Nat) : AllP (fun e => lookC (T_r1_Targets N) e.2.id = some e.2) h_r1_Targets.cs := ⟨rfl, rfl, trivial⟩
noncomputable def r1_Targets_r0 (N : Nat) (again : Fn' (Option Rs) [pI, p_api_Program]) (x0 : Int) (x1 : api_Program) : Option Rs :=
 bi (decide (x0 < (len x1.Code))) (
  gd (idx x0 (List.length x1.Code)) <|
  on1 (r1_Form N ((List.getD x1.Code x0.toNat api_Ins.z).1)) <| gg [pI] <| fun (x2 : Int) => 
  bi (x2 == 6) (
   on1 (r1_Target N x1 x0) <| gg [pI] <| fun (x3 : Int) => 
   bi (decide (x3 < 0)) (
    some (0, gI.dv 4 [])) <|
   again (w.i64 (x0 + 1)) x1) <|
  bi (x2 == 7) (
   on1 (r1_Target N x1 x0) <| gg [pI] <| fun (x4 : Int) => 
   bi (decide (x4 < 0)) (
    some (0, gI.dv 4 [])) <|
   again (w.i64 (x0 + 1)) x1) <|
  again (w.i64 (x0 + 1)) x1) <|
 some (1, [])
noncomputable def r1_Targets_l0 (N : Nat) : Nat → Fn' (Option Rs) [pI, p_api_Program] := lpG (r1_Targets_r0 N)
noncomputable def L_r1_Targets_0 (N : Nat) : LE := (0, mkM [pI, p_api_Program] [(0, [pI]), (1, [])] (r1_Targets_l0 N N))
theorem K_r1_Targets_0 (N : Nat) : LEok Q h_r1_Targets (bodOf f164) f164.ntmps 0 (L_r1_Targets_0 N) :=
 loopG (hi := h_r1_Targets) (l := T_r1_Targets N) (t := []) (r := r1_Targets_r0 N) ti_ok hmix (TT_r1_Targets N) (A_r1_Targets N) f_164 trivial (ls := s_r1_Targets_0) (body := bodyAt f164 0) (by kernel_rfl) (by kernel_rfl) fun A ys => by kernel_rfl
noncomputable def r1_Targets (N : Nat) (x0 : api_Program) : Option Rs :=
 onB 0 1 (r1_Targets_l0 N N 0 x0) (gg [pI] <| fun (x1 : Int) => 
  some (0, gI.dv x1 [])) <| gg [] <| 
 some (0, gI.dv 0 [])
noncomputable def X_r1_Targets (N : Nat) : CE := (c_r1_Targets, mkF [p_api_Program] [pI] (r1_Targets N))
theorem Y_r1_Targets (N : Nat) : CEok Q (X_r1_Targets N) :=
 fnG (hi := h_r1_Targets) (l := T_r1_Targets N) (t := [L_r1_Targets_0 N]) ti_ok hmix (TT_r1_Targets N) (A_r1_Targets N) f_164 (by kernel_rfl) (by kernel_rfl) ⟨K_r1_Targets_0 N, trivial⟩ fun ys => by kernel_rfl
def c_r1_has : CS := ⟨33, 133, ⟨[.one (.d tI)], []⟩, [.one (.d tB), .one (.d tB), .one (.d tB), .one (.d tB)], false, []⟩
def h_r1_has : Hi := ⟨[], [], [7, 9, 12, 14, 17], [], []⟩
theorem f_133 : Fn Q 133 f133 (codeOf f133) := ⟨by kernel_rfl, by kernel_rfl, by kernel_rfl, by kernel_rfl, by kernel_rfl⟩
noncomputable def r1_has (N : Nat) (x0 : Int) : Option Rs :=
 bi (x0 == 1) (
  some (0, gB.dv true (gB.dv true (gB.dv true (gB.dv false []))))) <|
 bi (x0 == 2) (
  some (0, gB.dv true (gB.dv true (gB.dv false (gB.dv true []))))) <|
 bi (x0 == 4) (
  some (0, gB.dv true (gB.dv true (gB.dv false (gB.dv true []))))) <|
 bi (x0 == 3) (
  some (0, gB.dv true (gB.dv false (gB.dv false (gB.dv true []))))) <|
 bi (x0 == 5) (
  some (0, gB.dv false (gB.dv true (gB.dv true (gB.dv true []))))) <|
 bi (x0 == 6) (
  some (0, gB.dv false (gB.dv true (gB.dv true (gB.dv true []))))) <|
 bi (x0 == 7) (
  some (0, gB.dv false (gB.dv false (gB.dv false (gB.dv true []))))) <|
 some (0, gB.dv false (gB.dv false (gB.dv false (gB.dv false []))))
noncomputable def X_r1_has (N : Nat) : CE := (c_r1_has, mkF [pI] [pB, pB, pB, pB] (r1_has N))
theorem Y_r1_has (N : Nat) : CEok Q (X_r1_has N) :=
 fnG (hi := h_r1_has) (l := []) (t := []) ti_ok hmix trivial trivial f_133 (by kernel_rfl) (by kernel_rfl) trivial fun ys => by kernel_rfl
def c_r1_reg : CS := ⟨34, 214, ⟨[.one (.d tI), .one (.d tB)], []⟩, [.one (.d tB)], true, []⟩
def h_r1_reg : Hi := ⟨[], [], [7, 9, 13], [], []⟩
theorem f_214 : Fn Q 214 f214 (codeOf f214) := ⟨by kernel_rfl, by kernel_rfl, by kernel_rfl, by kernel_rfl, by kernel_rfl⟩
noncomputable def r1_reg (N : Nat) (x0 : Int) (x1 : Bool) : Option Rs :=
 bi (x0 == 0) (
  some (0, gB.dv true [])) <|
 bi x1 (
  bi (decide (x0 > 0)) (
   some (0, gB.dv (decide (x0 ≤ 15)) [])) <|
  some (0, gB.dv false [])) <|
 some (0, gB.dv false [])
noncomputable def X_r1_reg (N : Nat) : CE := (c_r1_reg, mkF [pI, pB] [pB] (r1_reg N))
theorem Y_r1_reg (N : Nat) : CEok Q (X_r1_reg N) :=
 fnG (hi := h_r1_reg) (l := []) (t := []) ti_ok hmix trivial trivial f_214 (by kernel_rfl) (by kernel_rfl) trivial fun ys => by kernel_rfl
def c_r1_RightIns : CS := ⟨35, 132, ⟨[.agg [.d tI, .d tI, .d tI, .d tI, .d tI]], []⟩, [.one (.d tB)], true, []⟩
def h_r1_RightIns : Hi := ⟨[((1, 2), c_r1_Form), ((2, 1), c_r1_has), ((3, 6), c_r1_reg), ((3, 13), c_r1_reg), ((3, 20), c_r1_reg)], [], [20, 27, 34, 41, 44, 49, 53, 58, 62, 66, 74], [], []⟩
theorem f_132 : Fn Q 132 f132 (codeOf f132) := ⟨by kernel_rfl, by kernel_rfl, by kernel_rfl, by kernel_rfl, by kernel_rfl⟩
noncomputable def r1_RightIns (N : Nat) (x0 : api_Ins) : Option Rs :=
 on1 (r1_Form N x0.1) <| gg [pI] <| fun (x1 : Int) => 
 on1 (r1_has N x1) <| gg [pB, pB, pB, pB] <| fun (x2 : Bool) (x3 : Bool) (x4 : Bool) (x5 : Bool) => 
 bi (x1 == 0) (
  some (0, gB.dv false [])) <|
 on1 (r1_reg N x0.2.1 x2) <| gg [pB] <| fun (x6 : Bool) => 
 bi (!x6) (
  some (0, gB.dv false [])) <|
 on1 (r1_reg N x0.2.2.1 x3) <| gg [pB] <| fun (x7 : Bool) => 
 bi (!x7) (
  some (0, gB.dv false [])) <|
 on1 (r1_reg N x0.2.2.2.1 x4) <| gg [pB] <| fun (x8 : Bool) => 
 bi (!x8) (
  some (0, gB.dv false [])) <|
 bi (!x5) (
  bi (x0.2.2.2.2.1 != 0) (
   some (0, gB.dv false [])) <|
  bi (x0.1 == 22) (
   bi (decide (x0.2.2.2.2.1 ≥ 0)) (
    some (0, gB.dv (decide (x0.2.2.2.2.1 ≤ 31)) [])) <|
   some (0, gB.dv false [])) <|
  bi (x0.1 == 23) (
   bi (decide (x0.2.2.2.2.1 ≥ 0)) (
    some (0, gB.dv (decide (x0.2.2.2.2.1 ≤ 31)) [])) <|
   some (0, gB.dv false [])) <|
  bi (x0.1 == 24) (
   bi (decide (x0.2.2.2.2.1 ≥ 0)) (
    some (0, gB.dv (decide (x0.2.2.2.2.1 ≤ 31)) [])) <|
   some (0, gB.dv false [])) <|
  bi (decide (x0.2.2.2.2.1 ≥ (-8192 : Int))) (
   some (0, gB.dv (decide (x0.2.2.2.2.1 ≤ 8191)) [])) <|
  some (0, gB.dv false [])) <|
 bi (x0.1 == 22) (
  bi (decide (x0.2.2.2.2.1 ≥ 0)) (
   some (0, gB.dv (decide (x0.2.2.2.2.1 ≤ 31)) [])) <|
  some (0, gB.dv false [])) <|
 bi (x0.1 == 23) (
  bi (decide (x0.2.2.2.2.1 ≥ 0)) (
   some (0, gB.dv (decide (x0.2.2.2.2.1 ≤ 31)) [])) <|
  some (0, gB.dv false [])) <|
 bi (x0.1 == 24) (
  bi (decide (x0.2.2.2.2.1 ≥ 0)) (
   some (0, gB.dv (decide (x0.2.2.2.2.1 ≤ 31)) [])) <|
  some (0, gB.dv false [])) <|
 bi (decide (x0.2.2.2.2.1 ≥ (-8192 : Int))) (
  some (0, gB.dv (decide (x0.2.2.2.2.1 ≤ 8191)) [])) <|
 some (0, gB.dv false [])
noncomputable def X_r1_RightIns (N : Nat) : CE := (c_r1_RightIns, mkF [p_api_Ins] [pB] (r1_RightIns N))
theorem Y_r1_RightIns (N : Nat) : CEok Q (X_r1_RightIns N) :=
 fnG (hi := h_r1_RightIns) (l := [X_r1_Form N, X_r1_has N, X_r1_reg N]) (t := []) ti_ok hmix ⟨Y_r1_Form N, Y_r1_has N, Y_r1_reg N, trivial⟩ ⟨rfl, rfl, rfl, rfl, rfl, trivial⟩ f_132 (by kernel_rfl) (by kernel_rfl) trivial fun ys => by kernel_rfl
def c_r1_RightProgram : CS := ⟨36, 102, ⟨[.agg [.d (.sl t_api_Ins), .d tI, .d (.sl tU)]], []⟩, [.one (.d tB)], true, []⟩
def s_r1_RightProgram_0 : LS := ⟨⟨[.no, .one (.p 0 0 [1, 1, 1]), .no, .one (.d tI)] ++ nos 45, [[.d (.sl t_api_Ins), .d tI, .d (.sl tU)]]⟩, [(0, ⟨[.no, .no, .one (.d tB)] ++ nos 46, []⟩), (1, ⟨[.no, .one (.p 0 0 [1, 1, 1])] ++ nos 47, [[.d (.sl t_api_Ins), .d tI, .d (.sl tU)]]⟩)]⟩
def h_r1_RightProgram : Hi := ⟨[((6, 5), c_r1_RightIns), ((8, 1), c_r1_Targets)], [(0, s_r1_RightProgram_0)], [8, 14, 19, 24, 31, 36, 45], [], []⟩
theorem f_102 : Fn Q 102 f102 (codeOf f102) := ⟨by kernel_rfl, by kernel_rfl, by kernel_rfl, by kernel_rfl, by kernel_rfl⟩
noncomputable def T_r1_RightProgram (N : Nat) : List CE := [X_r1_RightIns N, X_r1_Targets N]
theorem TT_r1_RightProgram (N : Nat) : AllP (CEok Q) (T_r1_RightProgram N) := ⟨Y_r1_RightIns N, Y_r1_Targets N, trivial⟩
theorem A_r1_RightProgram (N : Nat) : AllP (fun e => lookC (T_r1_RightProgram N) e.2.id = some e.2) h_r1_RightProgram.cs := ⟨rfl, rfl, trivial⟩
noncomputable def r1_RightProgram_r0 (N : Nat) (again : Fn' (Option Rs) [pI, p_api_Program]) (x0 : Int) (x1 : api_Program) : Option Rs :=
 bi (decide (x0 < (len x1.Code))) (
  gd (idx x0 (List.length x1.Code)) <|
  on1 (r1_RightIns N (List.getD x1.Code x0.toNat api_Ins.z)) <| gg [pB] <| fun (x2 : Bool) => 
  bi (!x2) (
   some (0, gB.dv false [])) <|
  again (w.i64 (x0 + 1)) x1) <|
 some (1, g_api_Program.dv x1 [])
noncomputable def r1_RightProgram_l0 (N : Nat) : Nat → Fn' (Option Rs) [pI, p_api_Program] := lpG (r1_RightProgram_r0 N)
noncomputable def L_r1_RightProgram_0 (N : Nat) : LE := (0, mkM [pI, p_api_Program] [(0, [pB]), (1, [p_api_Program])] (r1_RightProgram_l0 N N))
theorem K_r1_RightProgram_0 (N : Nat) : LEok Q h_r1_RightProgram (bodOf f102) f102.ntmps 0 (L_r1_RightProgram_0 N) :=
 loopG (hi := h_r1_RightProgram) (l := T_r1_RightProgram N) (t := []) (r := r1_RightProgram_r0 N) ti_ok hmix (TT_r1_RightProgram N) (A_r1_RightProgram N) f_102 trivial (ls := s_r1_RightProgram_0) (body := bodyAt f102 0) (by kernel_rfl) (by kernel_rfl) fun A ys => by kernel_rfl
noncomputable def r1_RightProgram (N : Nat) (x0 : api_Program) : Option Rs :=
 bi (decide ((len x0.Code) < 1)) (
  some (0, gB.dv false [])) <|
 bi (decide ((len x0.Code) > 2000)) (
  some (0, gB.dv false [])) <|
 bi (decide (x0.Size < 0)) (
  some (0, gB.dv false [])) <|
 bi (decide (x0.Size > 65536)) (
  some (0, gB.dv false [])) <|
 bi (decide ((len x0.Data) > x0.Size)) (
  some (0, gB.dv false [])) <|
 onB 0 1 (r1_RightProgram_l0 N N 0 x0) (gg [pB] <| fun (x1 : Bool) => 
  some (0, gB.dv x1 [])) <| gg [p_api_Program] <| fun (x2 : api_Program) => 
 on1 (r1_Targets N x2) <| gg [pI] <| fun (x3 : Int) => 
 some (0, gB.dv (x3 == 0) [])
noncomputable def X_r1_RightProgram (N : Nat) : CE := (c_r1_RightProgram, mkF [p_api_Program] [pB] (r1_RightProgram N))
theorem Y_r1_RightProgram (N : Nat) : CEok Q (X_r1_RightProgram N) :=
 fnG (hi := h_r1_RightProgram) (l := T_r1_RightProgram N) (t := [L_r1_RightProgram_0 N]) ti_ok hmix (TT_r1_RightProgram N) (A_r1_RightProgram N) f_102 (by kernel_rfl) (by kernel_rfl) ⟨K_r1_RightProgram_0 N, trivial⟩ fun ys => by kernel_rfl
def c_r10_onE : CS := ⟨37, 197, ⟨[.agg [.d (.ar 16 tI)], .one (.d tI)], []⟩, [.one (.d tB)], true, []⟩
def h_r10_onE : Hi := ⟨[], [], [7], [], []⟩
theorem f_197 : Fn Q 197 f197 (codeOf f197) := ⟨by kernel_rfl, by kernel_rfl, by kernel_rfl, by kernel_rfl, by kernel_rfl⟩
noncomputable def r10_onE (N : Nat) (x0 : List Int) (x1 : Int) : Option Rs :=
 bi (decide (x1 > 0)) (
  gd (idx x1 16) <|
  some (0, gB.dv ((List.getD x0 x1.toNat 0) == 2) [])) <|
 some (0, gB.dv false [])
noncomputable def X_r10_onE (N : Nat) : CE := (c_r10_onE, mkF [pD (.ar 16 tI), pI] [pB] (r10_onE N))
theorem Y_r10_onE (N : Nat) : CEok Q (X_r10_onE N) :=
 fnG (hi := h_r10_onE) (l := []) (t := []) ti_ok hmix trivial trivial f_197 (by kernel_rfl) (by kernel_rfl) trivial fun ys => by kernel_rfl
def c_r1_Reads : CS := ⟨38, 72, ⟨[.agg [.d tI, .d tI, .d tI, .d tI, .d tI]], []⟩, [.one (.o tI)], true, []⟩
def h_r1_Reads : Hi := ⟨[((1, 1), c_r1_RightIns), ((3, 2), c_r1_Form), ((3, 3), c_r1_has)], [], [10, 21, 25, 32, 36], [], []⟩
theorem f_72 : Fn Q 72 f72 (codeOf f72) := ⟨by kernel_rfl, by kernel_rfl, by kernel_rfl, by kernel_rfl, by kernel_rfl⟩
noncomputable def r1_Reads (N : Nat) (x0 : api_Ins) : Option Rs :=
 on1 (r1_RightIns N x0) <| gg [pB] <| fun (x1 : Bool) => 
 bi (!x1) (
  some (0, (gD (.sl tI)).dv ([] : List Int) [])) <|
 on1 (r1_Form N x0.1) <| gg [pI] <| fun (x2 : Int) => 
 on1 (r1_has N x2) <| gg [pB, pB, pB, pB] <| fun (x3 : Bool) (x4 : Bool) (x5 : Bool) (x6 : Bool) => 
 bi x4 (
  bi (x0.2.2.1 != 0) (
   gd (rm ([] : List Int) [x0.2.2.1] 8) <|
   bi x5 (
    bi (x0.2.2.2.1 != 0) (
     gd (rm (([] : List Int) ++ [x0.2.2.1]) [x0.2.2.2.1] 8) <|
     some (0, (gD (.sl tI)).dv ((([] : List Int) ++ [x0.2.2.1]) ++ [x0.2.2.2.1]) [])) <|
    some (0, (gD (.sl tI)).dv (([] : List Int) ++ [x0.2.2.1]) [])) <|
   some (0, (gD (.sl tI)).dv (([] : List Int) ++ [x0.2.2.1]) [])) <|
  bi x5 (
   bi (x0.2.2.2.1 != 0) (
    gd (rm ([] : List Int) [x0.2.2.2.1] 8) <|
    some (0, (gD (.sl tI)).dv (([] : List Int) ++ [x0.2.2.2.1]) [])) <|
   some (0, (gD (.sl tI)).dv ([] : List Int) [])) <|
  some (0, (gD (.sl tI)).dv ([] : List Int) [])) <|
 bi x5 (
  bi (x0.2.2.2.1 != 0) (
   gd (rm ([] : List Int) [x0.2.2.2.1] 8) <|
   some (0, (gD (.sl tI)).dv (([] : List Int) ++ [x0.2.2.2.1]) [])) <|
  some (0, (gD (.sl tI)).dv ([] : List Int) [])) <|
 some (0, (gD (.sl tI)).dv ([] : List Int) [])
noncomputable def X_r1_Reads (N : Nat) : CE := (c_r1_Reads, mkF [p_api_Ins] [pD (.sl tI)] (r1_Reads N))
theorem Y_r1_Reads (N : Nat) : CEok Q (X_r1_Reads N) :=
 fnG (hi := h_r1_Reads) (l := [X_r1_RightIns N, X_r1_Form N, X_r1_has N]) (t := []) ti_ok hmix ⟨Y_r1_RightIns N, Y_r1_Form N, Y_r1_has N, trivial⟩ ⟨rfl, rfl, rfl, trivial⟩ f_72 (by kernel_rfl) (by kernel_rfl) trivial fun ys => by kernel_rfl
def c_r10_anyE : CS := ⟨39, 198, ⟨[.agg [.d (.ar 16 tI)], .one (.d (.sl tI))], []⟩, [.one (.d tB)], true, []⟩
def s_r10_anyE_0 : LS := ⟨⟨[.no, .one (.d (.sl tI)), .one (.p 0 0 [16]), .no, .no, .one (.d tI)] ++ nos 12, [[.d (.ar 16 tI)]]⟩, [(0, ⟨[.no, .no, .no, .no, .one (.d tB)] ++ nos 13, []⟩), (1, ⟨nos 18, []⟩)]⟩
def h_r10_anyE : Hi := ⟨[((4, 5), c_r10_onE)], [(0, s_r10_anyE_0)], [9, 17], [], []⟩
theorem f_198 : Fn Q 198 f198 (codeOf f198) := ⟨by kernel_rfl, by kernel_rfl, by kernel_rfl, by kernel_rfl, by kernel_rfl⟩
noncomputable def T_r10_anyE (N : Nat) : List CE := [X_r10_onE N]
theorem TT_r10_anyE (N : Nat) : AllP (CEok Q) (T_r10_anyE N) := ⟨Y_r10_onE N, trivial⟩
theorem A_r10_anyE (N : Nat) : AllP (fun e => lookC (T_r10_anyE N) e.2.id = some e.2) h_r10_anyE.cs := ⟨rfl, trivial⟩
noncomputable def r10_anyE_r0 (N : Nat) (again : Fn' (Option Rs) [pD (.sl tI), pI, pD (.ar 16 tI)]) (x0 : List Int) (x1 : Int) (x2 : List Int) : Option Rs :=
 bi (decide (x1 < (len x0))) (
  gd (idx x1 (List.length x0)) <|
  on1 (r10_onE N x2 (List.getD x0 x1.toNat 0)) <| gg [pB] <| fun (x3 : Bool) => 
  bi x3 (
   some (0, gB.dv true [])) <|
  again x0 (w.i64 (x1 + 1)) x2) <|
 some (1, [])
noncomputable def r10_anyE_l0 (N : Nat) : Nat → Fn' (Option Rs) [pD (.sl tI), pI, pD (.ar 16 tI)] := lpG (r10_anyE_r0 N)
noncomputable def L_r10_anyE_0 (N : Nat) : LE := (0, mkM [pD (.sl tI), pI, pD (.ar 16 tI)] [(0, [pB]), (1, [])] (r10_anyE_l0 N N))
theorem K_r10_anyE_0 (N : Nat) : LEok Q h_r10_anyE (bodOf f198) f198.ntmps 0 (L_r10_anyE_0 N) :=
 loopG (hi := h_r10_anyE) (l := T_r10_anyE N) (t := []) (r := r10_anyE_r0 N) ti_ok hmix (TT_r10_anyE N) (A_r10_anyE N) f_198 trivial (ls := s_r10_anyE_0) (body := bodyAt f198 0) (by kernel_rfl) (by kernel_rfl) fun A ys => by kernel_rfl
noncomputable def r10_anyE (N : Nat) (x0 : List Int) (x1 : List Int) : Option Rs :=
 onB 0 1 (r10_anyE_l0 N N x1 0 x0) (gg [pB] <| fun (x2 : Bool) => 
  some (0, gB.dv x2 [])) <| gg [] <| 
 some (0, gB.dv false [])
noncomputable def X_r10_anyE (N : Nat) : CE := (c_r10_anyE, mkF [pD (.ar 16 tI), pD (.sl tI)] [pB] (r10_anyE N))
theorem Y_r10_anyE (N : Nat) : CEok Q (X_r10_anyE N) :=
 fnG (hi := h_r10_anyE) (l := T_r10_anyE N) (t := [L_r10_anyE_0 N]) ti_ok hmix (TT_r10_anyE N) (A_r10_anyE N) f_198 (by kernel_rfl) (by kernel_rfl) ⟨K_r10_anyE_0 N, trivial⟩ fun ys => by kernel_rfl
def c_r10_Closed : CS := ⟨40, 126, ⟨[.agg [.d (.sl t_api_Ins), .d tI, .d (.sl tU)], .agg [.d (.ar 16 tI)]], []⟩, [.one (.d tB)], true, []⟩
def s_r10_Closed_0 : LS := ⟨⟨[.no, .no, .one (.p 0 0 [1, 1, 1]), .one (.p 1 0 [16]), .no, .one (.d tI)] ++ nos 76, [[.d (.sl t_api_Ins), .d tI, .d (.sl tU)], [.d (.ar 16 tI)]]⟩, [(0, ⟨[.no, .no, .no, .no, .one (.d tB)] ++ nos 77, []⟩), (1, ⟨[.no, .no, .one (.p 0 0 [1, 1, 1]), .one (.p 1 0 [16])] ++ nos 78, [[.d (.sl t_api_Ins), .d tI, .d (.sl tU)], [.d (.ar 16 tI)]]⟩)]⟩
def s_r10_Closed_2 : LS := ⟨⟨[.no, .no, .one (.p 0 0 [1, 1, 1]), .one (.p 1 0 [16]), .no, .no, .one (.d tI)] ++ nos 75, [[.d (.sl t_api_Ins), .d tI, .d (.sl tU)], [.d (.ar 16 tI)]]⟩, [(0, ⟨[.no, .no, .no, .no, .one (.d tB)] ++ nos 77, []⟩), (3, ⟨nos 82, []⟩)]⟩
def h_r10_Closed : Hi := ⟨[((1, 1), c_r1_RightProgram), ((12, 2), c_r1_Form), ((13, 10), c_r10_onE), ((15, 21), c_r1_Reads), ((15, 22), c_r10_anyE)], [(0, s_r10_Closed_0), (2, s_r10_Closed_2)], [12, 16, 18, 25, 30, 35, 48, 52, 57, 60, 64, 69, 76, 81], [], []⟩
theorem f_126 : Fn Q 126 f126 (codeOf f126) := ⟨by kernel_rfl, by kernel_rfl, by kernel_rfl, by kernel_rfl, by kernel_rfl⟩
noncomputable def T_r10_Closed (N : Nat) : List CE := [X_r1_RightProgram N, X_r1_Form N, X_r10_onE N, X_r1_Reads N, X_r10_anyE N]
theorem TT_r10_Closed (N : Nat) : AllP (CEok Q) (T_r10_Closed N) := ⟨Y_r1_RightProgram N, Y_r1_Form N, Y_r10_onE N, Y_r1_Reads N, Y_r10_anyE N, trivial⟩
theorem A_r10_Closed (N : Nat) : AllP (fun e => lookC (T_r10_Closed N) e.2.id = some e.2) h_r10_Closed.cs := ⟨rfl, rfl, rfl, rfl, rfl, trivial⟩
noncomputable def r10_Closed_r0 (N : Nat) (again : Fn' (Option Rs) [pI, p_api_Program, pD (.ar 16 tI)]) (x0 : Int) (x1 : api_Program) (x2 : List Int) : Option Rs :=
 bi (decide (x0 < 16)) (
  gd (idx x0 16) <|
  bi ((List.getD x2 x0.toNat 0) != 1) (
   gd (idx x0 16) <|
   bi ((List.getD x2 x0.toNat 0) != 2) (
    some (0, gB.dv false [])) <|
   again (w.i64 (x0 + 1)) x1 x2) <|
  again (w.i64 (x0 + 1)) x1 x2) <|
 some (1, g_api_Program.dv x1 ((gD (.ar 16 tI)).dv x2 []))
noncomputable def r10_Closed_l0 (N : Nat) : Nat → Fn' (Option Rs) [pI, p_api_Program, pD (.ar 16 tI)] := lpG (r10_Closed_r0 N)
noncomputable def L_r10_Closed_0 (N : Nat) : LE := (0, mkM [pI, p_api_Program, pD (.ar 16 tI)] [(0, [pB]), (1, [p_api_Program, pD (.ar 16 tI)])] (r10_Closed_l0 N N))
theorem K_r10_Closed_0 (N : Nat) : LEok Q h_r10_Closed (bodOf f126) f126.ntmps 0 (L_r10_Closed_0 N) :=
 loopG (hi := h_r10_Closed) (l := T_r10_Closed N) (t := []) (r := r10_Closed_r0 N) ti_ok hmix (TT_r10_Closed N) (A_r10_Closed N) f_126 trivial (ls := s_r10_Closed_0) (body := bodyAt f126 0) (by kernel_rfl) (by kernel_rfl) fun A ys => by kernel_rfl
noncomputable def r10_Closed_r2 (N : Nat) (again : Fn' (Option Rs) [pI, p_api_Program, pD (.ar 16 tI)]) (x0 : Int) (x1 : api_Program) (x2 : List Int) : Option Rs :=
 bi (decide (x0 < (len x1.Code))) (
  gd (idx x0 (List.length x1.Code)) <|
  on1 (r1_Form N ((List.getD x1.Code x0.toNat api_Ins.z).1)) <| gg [pI] <| fun (x3 : Int) => 
  bi (x3 == 4) (
   on1 (r10_onE N x2 ((List.getD x1.Code x0.toNat api_Ins.z).2.2.1)) <| gg [pB] <| fun (x4 : Bool) => 
   bi x4 (
    some (0, gB.dv false [])) <|
   bi (decide (x3 ≥ 1)) (
    bi (decide (x3 ≤ 3)) (
     bi (decide ((List.getD x1.Code x0.toNat api_Ins.z).2.1 > 0)) (
      gd (idx (List.getD x1.Code x0.toNat api_Ins.z).2.1 16) <|
      bi ((List.getD x2 (Int.toNat (List.getD x1.Code x0.toNat api_Ins.z).2.1) 0) == 1) (
       on1 (r1_Reads N (List.getD x1.Code x0.toNat api_Ins.z)) <| gg [pD (.sl tI)] <| fun (x5 : List Int) => 
       on1 (r10_anyE N x2 x5) <| gg [pB] <| fun (x6 : Bool) => 
       bi x6 (
        some (0, gB.dv false [])) <|
       again (w.i64 (x0 + 1)) x1 x2) <|
      again (w.i64 (x0 + 1)) x1 x2) <|
     again (w.i64 (x0 + 1)) x1 x2) <|
    again (w.i64 (x0 + 1)) x1 x2) <|
   again (w.i64 (x0 + 1)) x1 x2) <|
  bi (x3 == 5) (
   on1 (r10_onE N x2 ((List.getD x1.Code x0.toNat api_Ins.z).2.2.1)) <| gg [pB] <| fun (x7 : Bool) => 
   bi x7 (
    some (0, gB.dv false [])) <|
   bi (decide (x3 ≥ 1)) (
    bi (decide (x3 ≤ 3)) (
     bi (decide ((List.getD x1.Code x0.toNat api_Ins.z).2.1 > 0)) (
      gd (idx (List.getD x1.Code x0.toNat api_Ins.z).2.1 16) <|
      bi ((List.getD x2 (Int.toNat (List.getD x1.Code x0.toNat api_Ins.z).2.1) 0) == 1) (
       on1 (r1_Reads N (List.getD x1.Code x0.toNat api_Ins.z)) <| gg [pD (.sl tI)] <| fun (x8 : List Int) => 
       on1 (r10_anyE N x2 x8) <| gg [pB] <| fun (x9 : Bool) => 
       bi x9 (
        some (0, gB.dv false [])) <|
       again (w.i64 (x0 + 1)) x1 x2) <|
      again (w.i64 (x0 + 1)) x1 x2) <|
     again (w.i64 (x0 + 1)) x1 x2) <|
    again (w.i64 (x0 + 1)) x1 x2) <|
   again (w.i64 (x0 + 1)) x1 x2) <|
  bi (decide (x3 ≥ 1)) (
   bi (decide (x3 ≤ 3)) (
    bi (decide ((List.getD x1.Code x0.toNat api_Ins.z).2.1 > 0)) (
     gd (idx (List.getD x1.Code x0.toNat api_Ins.z).2.1 16) <|
     bi ((List.getD x2 (Int.toNat (List.getD x1.Code x0.toNat api_Ins.z).2.1) 0) == 1) (
      on1 (r1_Reads N (List.getD x1.Code x0.toNat api_Ins.z)) <| gg [pD (.sl tI)] <| fun (x10 : List Int) => 
      on1 (r10_anyE N x2 x10) <| gg [pB] <| fun (x11 : Bool) => 
      bi x11 (
       some (0, gB.dv false [])) <|
      again (w.i64 (x0 + 1)) x1 x2) <|
     again (w.i64 (x0 + 1)) x1 x2) <|
    again (w.i64 (x0 + 1)) x1 x2) <|
   again (w.i64 (x0 + 1)) x1 x2) <|
  again (w.i64 (x0 + 1)) x1 x2) <|
 some (3, [])
noncomputable def r10_Closed_l2 (N : Nat) : Nat → Fn' (Option Rs) [pI, p_api_Program, pD (.ar 16 tI)] := lpG (r10_Closed_r2 N)
noncomputable def L_r10_Closed_2 (N : Nat) : LE := (2, mkM [pI, p_api_Program, pD (.ar 16 tI)] [(0, [pB]), (3, [])] (r10_Closed_l2 N N))
theorem K_r10_Closed_2 (N : Nat) : LEok Q h_r10_Closed (bodOf f126) f126.ntmps 0 (L_r10_Closed_2 N) :=
 loopG (hi := h_r10_Closed) (l := T_r10_Closed N) (t := []) (r := r10_Closed_r2 N) ti_ok hmix (TT_r10_Closed N) (A_r10_Closed N) f_126 trivial (ls := s_r10_Closed_2) (body := bodyAt f126 2) (by kernel_rfl) (by kernel_rfl) fun A ys => by kernel_rfl
noncomputable def r10_Closed (N : Nat) (x0 : api_Program) (x1 : List Int) : Option Rs :=
 on1 (r1_RightProgram N x0) <| gg [pB] <| fun (x2 : Bool) => 
 bi (!x2) (
  some (0, gB.dv false [])) <|
 gd (idx 0 16) <|
 bi ((List.getD x1 0 0) != 0) (
  some (0, gB.dv false [])) <|
 onB 0 1 (r10_Closed_l0 N N 1 x0 x1) (gg [pB] <| fun (x3 : Bool) => 
  some (0, gB.dv x3 [])) <| gg [p_api_Program, pD (.ar 16 tI)] <| fun (x4 : api_Program) (x5 : List Int) => 
 onB 0 3 (r10_Closed_l2 N N 0 x4 x5) (gg [pB] <| fun (x6 : Bool) => 
  some (0, gB.dv x6 [])) <| gg [] <| 
 some (0, gB.dv true [])
noncomputable def X_r10_Closed (N : Nat) : CE := (c_r10_Closed, mkF [p_api_Program, pD (.ar 16 tI)] [pB] (r10_Closed N))
theorem Y_r10_Closed (N : Nat) : CEok Q (X_r10_Closed N) :=
 fnG (hi := h_r10_Closed) (l := T_r10_Closed N) (t := [L_r10_Closed_0 N, L_r10_Closed_2 N]) ti_ok hmix (TT_r10_Closed N) (A_r10_Closed N) f_126 (by kernel_rfl) (by kernel_rfl) ⟨K_r10_Closed_0 N, K_r10_Closed_2 N, trivial⟩ fun ys => by kernel_rfl
def c_r10_ends : CS := ⟨41, 257, ⟨[.agg [.d tI, .d tI, .d tI, .d tI, .d tI]], []⟩, [.one (.d tB)], true, []⟩
def h_r10_ends : Hi := ⟨[((1, 2), c_r1_Form)], [], [9, 13], [], []⟩
theorem f_257 : Fn Q 257 f257 (codeOf f257) := ⟨by kernel_rfl, by kernel_rfl, by kernel_rfl, by kernel_rfl, by kernel_rfl⟩
noncomputable def r10_ends (N : Nat) (x0 : api_Ins) : Option Rs :=
 on1 (r1_Form N x0.1) <| gg [pI] <| fun (x1 : Int) => 
 bi (x1 == 6) (
  some (0, gB.dv true [])) <|
 bi (x1 == 7) (
  some (0, gB.dv true [])) <|
 some (0, gB.dv (x1 == 8) [])
noncomputable def X_r10_ends (N : Nat) : CE := (c_r10_ends, mkF [p_api_Ins] [pB] (r10_ends N))
theorem Y_r10_ends (N : Nat) : CEok Q (X_r10_ends N) :=
 fnG (hi := h_r10_ends) (l := [X_r1_Form N]) (t := []) ti_ok hmix ⟨Y_r1_Form N, trivial⟩ ⟨rfl, trivial⟩ f_257 (by kernel_rfl) (by kernel_rfl) trivial fun ys => by kernel_rfl
def c_r10_Leaders : CS := ⟨42, 199, ⟨[.agg [.d (.sl t_api_Ins), .d tI, .d (.sl tU)]], []⟩, [.one (.o tI)], true, []⟩
def s_r10_Leaders_0 : LS := ⟨⟨[.no, .one (.p 0 0 [1, 1, 1]), .no, .one (.o tB), .one (.d tI)] ++ nos 60, [[.d (.sl t_api_Ins), .d tI, .d (.sl tU)]]⟩, [(1, ⟨[.no, .no, .no, .one (.o tB)] ++ nos 61, []⟩)]⟩
def s_r10_Leaders_2 : LS := ⟨⟨[.no, .no, .no, .one (.o tB), .no, .no, .one (.o tI), .one (.d tI)] ++ nos 57, []⟩, [(3, ⟨nos 6 ++ [.one (.o tI)] ++ nos 58, []⟩)]⟩
def h_r10_Leaders : Hi := ⟨[((1, 1), c_r1_RightProgram), ((8, 2), c_r1_Target), ((11, 5), c_r10_ends)], [(0, s_r10_Leaders_0), (2, s_r10_Leaders_2)], [10, 21, 28, 38, 45, 53, 59], [], []⟩
theorem f_199 : Fn Q 199 f199 (codeOf f199) := ⟨by kernel_rfl, by kernel_rfl, by kernel_rfl, by kernel_rfl, by kernel_rfl⟩
noncomputable def T_r10_Leaders (N : Nat) : List CE := [X_r1_RightProgram N, X_r1_Target N, X_r10_ends N]
theorem TT_r10_Leaders (N : Nat) : AllP (CEok Q) (T_r10_Leaders N) := ⟨Y_r1_RightProgram N, Y_r1_Target N, Y_r10_ends N, trivial⟩
theorem A_r10_Leaders (N : Nat) : AllP (fun e => lookC (T_r10_Leaders N) e.2.id = some e.2) h_r10_Leaders.cs := ⟨rfl, rfl, rfl, trivial⟩
noncomputable def r10_Leaders_r0 (N : Nat) (again : Fn' (Option Rs) [pD (.sl tB), pI, p_api_Program]) (x0 : List Bool) (x1 : Int) (x2 : api_Program) : Option Rs :=
 bi (decide (x1 < (len x2.Code))) (
  on1 (r1_Target N x2 x1) <| gg [pI] <| fun (x3 : Int) => 
  bi (decide (x3 ≥ 0)) (
   gd (idx x3 (List.length x0)) <|
   gd (idx x1 (List.length x2.Code)) <|
   on1 (r10_ends N (List.getD x2.Code x1.toNat api_Ins.z)) <| gg [pB] <| fun (x4 : Bool) => 
   bi x4 (
    bi (decide ((w.i64 (x1 + 1)) < (len x2.Code))) (
     gd (idx (w.i64 (x1 + 1)) (List.length (List.set x0 x3.toNat true))) <|
     again (List.set (List.set x0 x3.toNat true) (Int.toNat (w.i64 (x1 + 1))) true) (w.i64 (x1 + 1)) x2) <|
    again (List.set x0 x3.toNat true) (w.i64 (x1 + 1)) x2) <|
   again (List.set x0 x3.toNat true) (w.i64 (x1 + 1)) x2) <|
  gd (idx x1 (List.length x2.Code)) <|
  on1 (r10_ends N (List.getD x2.Code x1.toNat api_Ins.z)) <| gg [pB] <| fun (x5 : Bool) => 
  bi x5 (
   bi (decide ((w.i64 (x1 + 1)) < (len x2.Code))) (
    gd (idx (w.i64 (x1 + 1)) (List.length x0)) <|
    again (List.set x0 (Int.toNat (w.i64 (x1 + 1))) true) (w.i64 (x1 + 1)) x2) <|
   again x0 (w.i64 (x1 + 1)) x2) <|
  again x0 (w.i64 (x1 + 1)) x2) <|
 some (1, (gD (.sl tB)).dv x0 [])
noncomputable def r10_Leaders_l0 (N : Nat) : Nat → Fn' (Option Rs) [pD (.sl tB), pI, p_api_Program] := lpG (r10_Leaders_r0 N)
noncomputable def L_r10_Leaders_0 (N : Nat) : LE := (0, mkM [pD (.sl tB), pI, p_api_Program] [(1, [pD (.sl tB)])] (r10_Leaders_l0 N N))
theorem K_r10_Leaders_0 (N : Nat) : LEok Q h_r10_Leaders (bodOf f199) f199.ntmps 0 (L_r10_Leaders_0 N) :=
 loopG (hi := h_r10_Leaders) (l := T_r10_Leaders N) (t := []) (r := r10_Leaders_r0 N) ti_ok hmix (TT_r10_Leaders N) (A_r10_Leaders N) f_199 trivial (ls := s_r10_Leaders_0) (body := bodyAt f199 0) (by kernel_rfl) (by kernel_rfl) fun A ys => by kernel_rfl
noncomputable def r10_Leaders_r2 (N : Nat) (again : Fn' (Option Rs) [pD (.sl tB), pD (.sl tI), pI]) (x0 : List Bool) (x1 : List Int) (x2 : Int) : Option Rs :=
 bi (decide (x2 < (len x0))) (
  gd (idx x2 (List.length x0)) <|
  bi (List.getD x0 x2.toNat false) (
   gd (rm x1 [x2] 8) <|
   again x0 (x1 ++ [x2]) (w.i64 (x2 + 1))) <|
  again x0 x1 (w.i64 (x2 + 1))) <|
 some (3, (gD (.sl tI)).dv x1 [])
noncomputable def r10_Leaders_l2 (N : Nat) : Nat → Fn' (Option Rs) [pD (.sl tB), pD (.sl tI), pI] := lpG (r10_Leaders_r2 N)
noncomputable def L_r10_Leaders_2 (N : Nat) : LE := (2, mkM [pD (.sl tB), pD (.sl tI), pI] [(3, [pD (.sl tI)])] (r10_Leaders_l2 N N))
theorem K_r10_Leaders_2 (N : Nat) : LEok Q h_r10_Leaders (bodOf f199) f199.ntmps 0 (L_r10_Leaders_2 N) :=
 loopG (hi := h_r10_Leaders) (l := T_r10_Leaders N) (t := []) (r := r10_Leaders_r2 N) ti_ok hmix (TT_r10_Leaders N) (A_r10_Leaders N) f_199 trivial (ls := s_r10_Leaders_2) (body := bodyAt f199 2) (by kernel_rfl) (by kernel_rfl) fun A ys => by kernel_rfl
noncomputable def r10_Leaders (N : Nat) (x0 : api_Program) : Option Rs :=
 on1 (r1_RightProgram N x0) <| gg [pB] <| fun (x1 : Bool) => 
 bi (!x1) (
  some (0, (gD (.sl tI)).dv ([] : List Int) [])) <|
 gd (decide (0 ≤ (len x0.Code) ∧ (len x0.Code) ≤ (len x0.Code) ∧ (len x0.Code) * ((1 : Nat) : Int) ≤ ((reach : Nat) : Int) ∧ (len x0.Code) ≤ ((reach : Nat) : Int))) <|
 gd (idx 0 (List.length (List.replicate (Int.toNat (len x0.Code)) false))) <|
 onA 1 (r10_Leaders_l0 N N (List.set (List.replicate (Int.toNat (len x0.Code)) false) 0 true) 0 x0) <| gg [pD (.sl tB)] <| fun (x2 : List Bool) => 
 onA 3 (r10_Leaders_l2 N N x2 ([] : List Int) 0) <| gg [pD (.sl tI)] <| fun (x3 : List Int) => 
 some (0, (gD (.sl tI)).dv x3 [])
noncomputable def X_r10_Leaders (N : Nat) : CE := (c_r10_Leaders, mkF [p_api_Program] [pD (.sl tI)] (r10_Leaders N))
theorem Y_r10_Leaders (N : Nat) : CEok Q (X_r10_Leaders N) :=
 fnG (hi := h_r10_Leaders) (l := T_r10_Leaders N) (t := [L_r10_Leaders_0 N, L_r10_Leaders_2 N]) ti_ok hmix (TT_r10_Leaders N) (A_r10_Leaders N) f_199 (by kernel_rfl) (by kernel_rfl) ⟨K_r10_Leaders_0 N, K_r10_Leaders_2 N, trivial⟩ fun ys => by kernel_rfl
def c_r10_find : CS := ⟨43, 200, ⟨[.one (.d (.sl tI)), .one (.d tI)], []⟩, [.one (.d tI)], true, []⟩
def s_r10_find_0 : LS := ⟨⟨[.one (.d (.sl tI)), .one (.d tI), .no, .no, .no, .one (.d tI)] ++ nos 13, []⟩, [(0, ⟨[.no, .no, .no, .no, .one (.d tI)] ++ nos 14, []⟩), (1, ⟨nos 19, []⟩)]⟩
def h_r10_find : Hi := ⟨[], [(0, s_r10_find_0)], [9, 17], [], []⟩
theorem f_200 : Fn Q 200 f200 (codeOf f200) := ⟨by kernel_rfl, by kernel_rfl, by kernel_rfl, by kernel_rfl, by kernel_rfl⟩
noncomputable def T_r10_find (N : Nat) : List CE := []
theorem TT_r10_find (N : Nat) : AllP (CEok Q) (T_r10_find N) := trivial
theorem A_r10_find (N : Nat) : AllP (fun e => lookC (T_r10_find N) e.2.id = some e.2) h_r10_find.cs := trivial
noncomputable def r10_find_r0 (N : Nat) (again : Fn' (Option Rs) [pD (.sl tI), pI, pI]) (x0 : List Int) (x1 : Int) (x2 : Int) : Option Rs :=
 bi (decide (x2 < (len x0))) (
  gd (idx x2 (List.length x0)) <|
  bi ((List.getD x0 x2.toNat 0) == x1) (
   some (0, gI.dv x2 [])) <|
  again x0 x1 (w.i64 (x2 + 1))) <|
 some (1, [])
noncomputable def r10_find_l0 (N : Nat) : Nat → Fn' (Option Rs) [pD (.sl tI), pI, pI] := lpG (r10_find_r0 N)
noncomputable def L_r10_find_0 (N : Nat) : LE := (0, mkM [pD (.sl tI), pI, pI] [(0, [pI]), (1, [])] (r10_find_l0 N N))
theorem K_r10_find_0 (N : Nat) : LEok Q h_r10_find (bodOf f200) f200.ntmps 0 (L_r10_find_0 N) :=
 loopG (hi := h_r10_find) (l := T_r10_find N) (t := []) (r := r10_find_r0 N) ti_ok hmix (TT_r10_find N) (A_r10_find N) f_200 trivial (ls := s_r10_find_0) (body := bodyAt f200 0) (by kernel_rfl) (by kernel_rfl) fun A ys => by kernel_rfl
noncomputable def r10_find (N : Nat) (x0 : List Int) (x1 : Int) : Option Rs :=
 onB 0 1 (r10_find_l0 N N x0 x1 0) (gg [pI] <| fun (x2 : Int) => 
  some (0, gI.dv x2 [])) <| gg [] <| 
 some (0, gI.dv (-1 : Int) [])
noncomputable def X_r10_find (N : Nat) : CE := (c_r10_find, mkF [pD (.sl tI), pI] [pI] (r10_find N))
theorem Y_r10_find (N : Nat) : CEok Q (X_r10_find N) :=
 fnG (hi := h_r10_find) (l := T_r10_find N) (t := [L_r10_find_0 N]) ti_ok hmix (TT_r10_find N) (A_r10_find N) f_200 (by kernel_rfl) (by kernel_rfl) ⟨K_r10_find_0 N, trivial⟩ fun ys => by kernel_rfl
def c_r10_Cut : CS := ⟨44, 127, ⟨[.agg [.d (.sl t_api_Ins), .d tI, .d (.sl tU)]], []⟩, [.one (.o (.pair tI (.pair tI (.pair tI (.pair tI (.pair .nl (.pair .nl .unit)))))))], true, []⟩
def s_r10_Cut_0 : LS := ⟨⟨[.no, .one (.p 0 0 [1, 1, 1]), .no, .one (.o tI), .one (.o (.pair tI (.pair tI (.pair tI (.pair tI (.pair .nl (.pair .nl .unit))))))), .one (.d tI)] ++ nos 66, [[.d (.sl t_api_Ins), .d tI, .d (.sl tU)]]⟩, [(1, ⟨[.no, .no, .no, .no, .one (.o (.pair tI (.pair tI (.pair tI (.pair tI (.pair .nl (.pair .nl .unit)))))))] ++ nos 67, []⟩)]⟩
def h_r10_Cut : Hi := ⟨[((1, 1), c_r10_Leaders), ((11, 3), c_r10_find), ((12, 4), c_r1_Target), ((14, 2), c_r10_find)], [(0, s_r10_Cut_0)], [14, 29, 46, 50, 62], [], []⟩
theorem f_127 : Fn Q 127 f127 (codeOf f127) := ⟨by kernel_rfl, by kernel_rfl, by kernel_rfl, by kernel_rfl, by kernel_rfl⟩
noncomputable def T_r10_Cut (N : Nat) : List CE := [X_r10_Leaders N, X_r10_find N, X_r1_Target N]
theorem TT_r10_Cut (N : Nat) : AllP (CEok Q) (T_r10_Cut N) := ⟨Y_r10_Leaders N, Y_r10_find N, Y_r1_Target N, trivial⟩
theorem A_r10_Cut (N : Nat) : AllP (fun e => lookC (T_r10_Cut N) e.2.id = some e.2) h_r10_Cut.cs := ⟨rfl, rfl, rfl, rfl, trivial⟩
noncomputable def r10_Cut_r0 (N : Nat) (again : Fn' (Option Rs) [pD (.sl tI), pD (.sl (.pair tI (.pair tI (.pair tI (.pair tI (.pair .nl (.pair .nl .unit))))))), pI, p_api_Program]) (x0 : List Int) (x1 : List (Int × (Int × (Int × (Int × (Unit × (Unit × Unit))))))) (x2 : Int) (x3 : api_Program) : Option Rs :=
 bi (decide (x2 < (len x0))) (
  gd (idx x2 (List.length x0)) <|
  bi (decide ((w.i64 (x2 + 1)) < (len x0))) (
   gd (idx (w.i64 (x2 + 1)) (List.length x0)) <|
   gd (idx (w.i64 ((List.getD x0 (Int.toNat (w.i64 (x2 + 1))) 0) - 1)) (List.length x3.Code)) <|
   bi ((List.getD x3.Code (Int.toNat (w.i64 ((List.getD x0 (Int.toNat (w.i64 (x2 + 1))) 0) - 1))) api_Ins.z).1 != 40) (
    bi ((List.getD x3.Code (Int.toNat (w.i64 ((List.getD x0 (Int.toNat (w.i64 (x2 + 1))) 0) - 1))) api_Ins.z).1 != 41) (
     on1 (r10_find N x0 (List.getD x0 (Int.toNat (w.i64 (x2 + 1))) 0)) <| gg [pI] <| fun (x4 : Int) => 
     on1 (r1_Target N x3 (w.i64 ((List.getD x0 (Int.toNat (w.i64 (x2 + 1))) 0) - 1))) <| gg [pI] <| fun (x5 : Int) => 
     bi (decide (x5 ≥ 0)) (
      on1 (r10_find N x0 x5) <| gg [pI] <| fun (x6 : Int) => 
      gd (rm x1 [((List.getD x0 x2.toNat 0), ((List.getD x0 (Int.toNat (w.i64 (x2 + 1))) 0), (x4, (x6, ((), ((), ()))))))] 80) <|
      again x0 (x1 ++ [((List.getD x0 x2.toNat 0), ((List.getD x0 (Int.toNat (w.i64 (x2 + 1))) 0), (x4, (x6, ((), ((), ()))))))]) (w.i64 (x2 + 1)) x3) <|
     gd (rm x1 [((List.getD x0 x2.toNat 0), ((List.getD x0 (Int.toNat (w.i64 (x2 + 1))) 0), (x4, ((-1 : Int), ((), ((), ()))))))] 80) <|
     again x0 (x1 ++ [((List.getD x0 x2.toNat 0), ((List.getD x0 (Int.toNat (w.i64 (x2 + 1))) 0), (x4, ((-1 : Int), ((), ((), ()))))))]) (w.i64 (x2 + 1)) x3) <|
    on1 (r1_Target N x3 (w.i64 ((List.getD x0 (Int.toNat (w.i64 (x2 + 1))) 0) - 1))) <| gg [pI] <| fun (x7 : Int) => 
    bi (decide (x7 ≥ 0)) (
     on1 (r10_find N x0 x7) <| gg [pI] <| fun (x8 : Int) => 
     gd (rm x1 [((List.getD x0 x2.toNat 0), ((List.getD x0 (Int.toNat (w.i64 (x2 + 1))) 0), ((-1 : Int), (x8, ((), ((), ()))))))] 80) <|
     again x0 (x1 ++ [((List.getD x0 x2.toNat 0), ((List.getD x0 (Int.toNat (w.i64 (x2 + 1))) 0), ((-1 : Int), (x8, ((), ((), ()))))))]) (w.i64 (x2 + 1)) x3) <|
    gd (rm x1 [((List.getD x0 x2.toNat 0), ((List.getD x0 (Int.toNat (w.i64 (x2 + 1))) 0), ((-1 : Int), ((-1 : Int), ((), ((), ()))))))] 80) <|
    again x0 (x1 ++ [((List.getD x0 x2.toNat 0), ((List.getD x0 (Int.toNat (w.i64 (x2 + 1))) 0), ((-1 : Int), ((-1 : Int), ((), ((), ()))))))]) (w.i64 (x2 + 1)) x3) <|
   on1 (r1_Target N x3 (w.i64 ((List.getD x0 (Int.toNat (w.i64 (x2 + 1))) 0) - 1))) <| gg [pI] <| fun (x9 : Int) => 
   bi (decide (x9 ≥ 0)) (
    on1 (r10_find N x0 x9) <| gg [pI] <| fun (x10 : Int) => 
    gd (rm x1 [((List.getD x0 x2.toNat 0), ((List.getD x0 (Int.toNat (w.i64 (x2 + 1))) 0), ((-1 : Int), (x10, ((), ((), ()))))))] 80) <|
    again x0 (x1 ++ [((List.getD x0 x2.toNat 0), ((List.getD x0 (Int.toNat (w.i64 (x2 + 1))) 0), ((-1 : Int), (x10, ((), ((), ()))))))]) (w.i64 (x2 + 1)) x3) <|
   gd (rm x1 [((List.getD x0 x2.toNat 0), ((List.getD x0 (Int.toNat (w.i64 (x2 + 1))) 0), ((-1 : Int), ((-1 : Int), ((), ((), ()))))))] 80) <|
   again x0 (x1 ++ [((List.getD x0 x2.toNat 0), ((List.getD x0 (Int.toNat (w.i64 (x2 + 1))) 0), ((-1 : Int), ((-1 : Int), ((), ((), ()))))))]) (w.i64 (x2 + 1)) x3) <|
  gd (idx (w.i64 ((len x3.Code) - 1)) (List.length x3.Code)) <|
  bi ((List.getD x3.Code (Int.toNat (w.i64 ((len x3.Code) - 1))) api_Ins.z).1 != 40) (
   bi ((List.getD x3.Code (Int.toNat (w.i64 ((len x3.Code) - 1))) api_Ins.z).1 != 41) (
    on1 (r10_find N x0 (len x3.Code)) <| gg [pI] <| fun (x11 : Int) => 
    on1 (r1_Target N x3 (w.i64 ((len x3.Code) - 1))) <| gg [pI] <| fun (x12 : Int) => 
    bi (decide (x12 ≥ 0)) (
     on1 (r10_find N x0 x12) <| gg [pI] <| fun (x13 : Int) => 
     gd (rm x1 [((List.getD x0 x2.toNat 0), ((len x3.Code), (x11, (x13, ((), ((), ()))))))] 80) <|
     again x0 (x1 ++ [((List.getD x0 x2.toNat 0), ((len x3.Code), (x11, (x13, ((), ((), ()))))))]) (w.i64 (x2 + 1)) x3) <|
    gd (rm x1 [((List.getD x0 x2.toNat 0), ((len x3.Code), (x11, ((-1 : Int), ((), ((), ()))))))] 80) <|
    again x0 (x1 ++ [((List.getD x0 x2.toNat 0), ((len x3.Code), (x11, ((-1 : Int), ((), ((), ()))))))]) (w.i64 (x2 + 1)) x3) <|
   on1 (r1_Target N x3 (w.i64 ((len x3.Code) - 1))) <| gg [pI] <| fun (x14 : Int) => 
   bi (decide (x14 ≥ 0)) (
    on1 (r10_find N x0 x14) <| gg [pI] <| fun (x15 : Int) => 
    gd (rm x1 [((List.getD x0 x2.toNat 0), ((len x3.Code), ((-1 : Int), (x15, ((), ((), ()))))))] 80) <|
    again x0 (x1 ++ [((List.getD x0 x2.toNat 0), ((len x3.Code), ((-1 : Int), (x15, ((), ((), ()))))))]) (w.i64 (x2 + 1)) x3) <|
   gd (rm x1 [((List.getD x0 x2.toNat 0), ((len x3.Code), ((-1 : Int), ((-1 : Int), ((), ((), ()))))))] 80) <|
   again x0 (x1 ++ [((List.getD x0 x2.toNat 0), ((len x3.Code), ((-1 : Int), ((-1 : Int), ((), ((), ()))))))]) (w.i64 (x2 + 1)) x3) <|
  on1 (r1_Target N x3 (w.i64 ((len x3.Code) - 1))) <| gg [pI] <| fun (x16 : Int) => 
  bi (decide (x16 ≥ 0)) (
   on1 (r10_find N x0 x16) <| gg [pI] <| fun (x17 : Int) => 
   gd (rm x1 [((List.getD x0 x2.toNat 0), ((len x3.Code), ((-1 : Int), (x17, ((), ((), ()))))))] 80) <|
   again x0 (x1 ++ [((List.getD x0 x2.toNat 0), ((len x3.Code), ((-1 : Int), (x17, ((), ((), ()))))))]) (w.i64 (x2 + 1)) x3) <|
  gd (rm x1 [((List.getD x0 x2.toNat 0), ((len x3.Code), ((-1 : Int), ((-1 : Int), ((), ((), ()))))))] 80) <|
  again x0 (x1 ++ [((List.getD x0 x2.toNat 0), ((len x3.Code), ((-1 : Int), ((-1 : Int), ((), ((), ()))))))]) (w.i64 (x2 + 1)) x3) <|
 some (1, (gD (.sl (.pair tI (.pair tI (.pair tI (.pair tI (.pair .nl (.pair .nl .unit)))))))).dv x1 [])
noncomputable def r10_Cut_l0 (N : Nat) : Nat → Fn' (Option Rs) [pD (.sl tI), pD (.sl (.pair tI (.pair tI (.pair tI (.pair tI (.pair .nl (.pair .nl .unit))))))), pI, p_api_Program] := lpG (r10_Cut_r0 N)
noncomputable def L_r10_Cut_0 (N : Nat) : LE := (0, mkM [pD (.sl tI), pD (.sl (.pair tI (.pair tI (.pair tI (.pair tI (.pair .nl (.pair .nl .unit))))))), pI, p_api_Program] [(1, [pD (.sl (.pair tI (.pair tI (.pair tI (.pair tI (.pair .nl (.pair .nl .unit)))))))])] (r10_Cut_l0 N N))
theorem K_r10_Cut_0 (N : Nat) : LEok Q h_r10_Cut (bodOf f127) f127.ntmps 0 (L_r10_Cut_0 N) :=
 loopG (hi := h_r10_Cut) (l := T_r10_Cut N) (t := []) (r := r10_Cut_r0 N) ti_ok1 hmix (TT_r10_Cut N) (A_r10_Cut N) f_127 trivial (ls := s_r10_Cut_0) (body := bodyAt f127 0) (by kernel_rfl) (by kernel_rfl) fun A ys => by kernel_rfl
noncomputable def r10_Cut (N : Nat) (x0 : api_Program) : Option Rs :=
 on1 (r10_Leaders N x0) <| gg [pD (.sl tI)] <| fun (x1 : List Int) => 
 onA 1 (r10_Cut_l0 N N x1 ([] : List (Int × (Int × (Int × (Int × (Unit × (Unit × Unit))))))) 0 x0) <| gg [pD (.sl (.pair tI (.pair tI (.pair tI (.pair tI (.pair .nl (.pair .nl .unit)))))))] <| fun (x2 : List (Int × (Int × (Int × (Int × (Unit × (Unit × Unit))))))) => 
 some (0, (gD (.sl (.pair tI (.pair tI (.pair tI (.pair tI (.pair .nl (.pair .nl .unit)))))))).dv x2 [])
noncomputable def X_r10_Cut (N : Nat) : CE := (c_r10_Cut, mkF [p_api_Program] [pD (.sl (.pair tI (.pair tI (.pair tI (.pair tI (.pair .nl (.pair .nl .unit)))))))] (r10_Cut N))
theorem Y_r10_Cut (N : Nat) : CEok Q (X_r10_Cut N) :=
 fnG (hi := h_r10_Cut) (l := T_r10_Cut N) (t := [L_r10_Cut_0 N]) ti_ok1 hmix (TT_r10_Cut N) (A_r10_Cut N) f_127 (by kernel_rfl) (by kernel_rfl) ⟨K_r10_Cut_0 N, trivial⟩ fun ys => by kernel_rfl
end Go.Proofs.Zz
