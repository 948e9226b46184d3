import Derived.Test.YtnhgipdlkcdeiaaDoorAT
set_option linter.unusedSimpArgs false
set_option linter.unusedVariables false
/- What functions of the program compute, as plain functions. -/
set_option linter.unusedVariables false
set_option maxRecDepth 100000
namespace Go.Proofs.Zs
open Go Go.Proofs.Tryd
def c_isa_Form : CS := ⟨0, 99, ⟨[.one (.d tI)], []⟩, [.one (.d tI)], true, []⟩
def h_isa_Form : Hi := ⟨[], [], [3, 6, 10, 13, 16, 19, 22, 25, 28], [], []⟩
theorem f_99 : Fn Q 99 f99 (codeOf f99) := ⟨by kernel_rfl, by kernel_rfl, by kernel_rfl, by kernel_rfl, by kernel_rfl⟩
noncomputable def isa_Form (N : Nat) (x0 : Int) : Option Rs :=
 bi (decide (x0 < 1)) (
  some (0, gI.dv 0 [])) <|
 bi (decide (x0 > 41)) (
  some (0, gI.dv 0 [])) <|
 bi (decide (x0 ≤ 16)) (
  some (0, gI.dv 1 [])) <|
 bi (decide (x0 ≤ 24)) (
  some (0, gI.dv 2 [])) <|
 bi (x0 == 25) (
  some (0, gI.dv 3 [])) <|
 bi (decide (x0 ≤ 30)) (
  some (0, gI.dv 4 [])) <|
 bi (decide (x0 ≤ 33)) (
  some (0, gI.dv 5 [])) <|
 bi (decide (x0 ≤ 39)) (
  some (0, gI.dv 6 [])) <|
 bi (x0 == 40) (
  some (0, gI.dv 7 [])) <|
 some (0, gI.dv 8 [])
noncomputable def X_isa_Form (N : Nat) : CE := (c_isa_Form, mkF [pI] [pI] (isa_Form N))
theorem Y_isa_Form (N : Nat) : CEok Q (X_isa_Form N) :=
 fnG (hi := h_isa_Form) (l := []) (t := []) ti_ok hmix trivial trivial f_99 (by kernel_rfl) (by kernel_rfl) trivial fun ys => by kernel_rfl
def c_isa_HasD : CS := ⟨1, 101, ⟨[.one (.d tI)], []⟩, [.one (.d tB)], true, []⟩
def h_isa_HasD : Hi := ⟨[], [], [5], [], []⟩
theorem f_101 : Fn Q 101 f101 (codeOf f101) := ⟨by kernel_rfl, by kernel_rfl, by kernel_rfl, by kernel_rfl, by kernel_rfl⟩
noncomputable def isa_HasD (N : Nat) (x0 : Int) : Option Rs :=
 bi (decide (x0 ≥ 1)) (
  some (0, gB.dv (decide (x0 ≤ 4)) [])) <|
 some (0, gB.dv false [])
noncomputable def X_isa_HasD (N : Nat) : CE := (c_isa_HasD, mkF [pI] [pB] (isa_HasD N))
theorem Y_isa_HasD (N : Nat) : CEok Q (X_isa_HasD N) :=
 fnG (hi := h_isa_HasD) (l := []) (t := []) ti_ok hmix trivial trivial f_101 (by kernel_rfl) (by kernel_rfl) trivial fun ys => by kernel_rfl
def c_isa_within : CS := ⟨2, 100, ⟨[.one (.d tI), .one (.d tB), .one (.d tI), .one (.d tI)], []⟩, [.one (.d tB)], true, []⟩
def h_isa_within : Hi := ⟨[], [], [10, 16], [], []⟩
theorem f_100 : Fn Q 100 f100 (codeOf f100) := ⟨by kernel_rfl, by kernel_rfl, by kernel_rfl, by kernel_rfl, by kernel_rfl⟩
noncomputable def isa_within (N : Nat) (x0 : Int) (x1 : Bool) (x2 : Int) (x3 : Int) : Option Rs :=
 bi (!x1) (
  some (0, gB.dv (x0 == 0) [])) <|
 bi (decide (x0 ≥ x2)) (
  some (0, gB.dv (decide (x0 ≤ x3)) [])) <|
 some (0, gB.dv false [])
noncomputable def X_isa_within (N : Nat) : CE := (c_isa_within, mkF [pI, pB, pI, pI] [pB] (isa_within N))
theorem Y_isa_within (N : Nat) : CEok Q (X_isa_within N) :=
 fnG (hi := h_isa_within) (l := []) (t := []) ti_ok hmix trivial trivial f_100 (by kernel_rfl) (by kernel_rfl) trivial fun ys => by kernel_rfl
def c_isa_HasA : CS := ⟨3, 102, ⟨[.one (.d tI)], []⟩, [.one (.d tB)], true, []⟩
def h_isa_HasA : Hi := ⟨[], [], [5, 9, 13, 17], [], []⟩
theorem f_102 : Fn Q 102 f102 (codeOf f102) := ⟨by kernel_rfl, by kernel_rfl, by kernel_rfl, by kernel_rfl, by kernel_rfl⟩
noncomputable def isa_HasA (N : Nat) (x0 : Int) : Option Rs :=
 bi (x0 == 1) (
  some (0, gB.dv true [])) <|
 bi (x0 == 2) (
  some (0, gB.dv true [])) <|
 bi (x0 == 4) (
  some (0, gB.dv true [])) <|
 bi (x0 == 5) (
  some (0, gB.dv true [])) <|
 some (0, gB.dv (x0 == 6) [])
noncomputable def X_isa_HasA (N : Nat) : CE := (c_isa_HasA, mkF [pI] [pB] (isa_HasA N))
theorem Y_isa_HasA (N : Nat) : CEok Q (X_isa_HasA N) :=
 fnG (hi := h_isa_HasA) (l := []) (t := []) ti_ok hmix trivial trivial f_102 (by kernel_rfl) (by kernel_rfl) trivial fun ys => by kernel_rfl
def c_isa_HasB : CS := ⟨4, 103, ⟨[.one (.d tI)], []⟩, [.one (.d tB)], true, []⟩
def h_isa_HasB : Hi := ⟨[], [], [5, 9], [], []⟩
theorem f_103 : Fn Q 103 f103 (codeOf f103) := ⟨by kernel_rfl, by kernel_rfl, by kernel_rfl, by kernel_rfl, by kernel_rfl⟩
noncomputable def isa_HasB (N : Nat) (x0 : Int) : Option Rs :=
 bi (x0 == 1) (
  some (0, gB.dv true [])) <|
 bi (x0 == 5) (
  some (0, gB.dv true [])) <|
 some (0, gB.dv (x0 == 6) [])
noncomputable def X_isa_HasB (N : Nat) : CE := (c_isa_HasB, mkF [pI] [pB] (isa_HasB N))
theorem Y_isa_HasB (N : Nat) : CEok Q (X_isa_HasB N) :=
 fnG (hi := h_isa_HasB) (l := []) (t := []) ti_ok hmix trivial trivial f_103 (by kernel_rfl) (by kernel_rfl) trivial fun ys => by kernel_rfl
def c_isa_HasImm : CS := ⟨5, 104, ⟨[.one (.d tI)], []⟩, [.one (.d tB)], true, []⟩
def h_isa_HasImm : Hi := ⟨[], [], [5], [], []⟩
theorem f_104 : Fn Q 104 f104 (codeOf f104) := ⟨by kernel_rfl, by kernel_rfl, by kernel_rfl, by kernel_rfl, by kernel_rfl⟩
noncomputable def isa_HasImm (N : Nat) (x0 : Int) : Option Rs :=
 bi (decide (x0 ≥ 2)) (
  some (0, gB.dv (decide (x0 ≤ 7)) [])) <|
 some (0, gB.dv false [])
noncomputable def X_isa_HasImm (N : Nat) : CE := (c_isa_HasImm, mkF [pI] [pB] (isa_HasImm N))
theorem Y_isa_HasImm (N : Nat) : CEok Q (X_isa_HasImm N) :=
 fnG (hi := h_isa_HasImm) (l := []) (t := []) ti_ok hmix trivial trivial f_104 (by kernel_rfl) (by kernel_rfl) trivial fun ys => by kernel_rfl
def c_isa_Right : CS := ⟨6, 66, ⟨[.agg [.d tI, .d tI, .d tI, .d tI, .d tI]], []⟩, [.one (.d tB)], true, []⟩
def h_isa_Right : Hi := ⟨[((1, 2), c_isa_Form), ((5, 6), c_isa_HasD), ((5, 7), c_isa_within), ((5, 13), c_isa_HasA), ((5, 14), c_isa_within), ((5, 20), c_isa_HasB), ((5, 21), c_isa_within), ((5, 27), c_isa_HasImm), ((5, 30), c_isa_within)], [], [12, 17, 21, 24, 31, 38, 45], [], []⟩
theorem f_66 : Fn Q 66 f66 (codeOf f66) := ⟨by kernel_rfl, by kernel_rfl, by kernel_rfl, by kernel_rfl, by kernel_rfl⟩
noncomputable def isa_Right (N : Nat) (x0 : api_Ins) : Option Rs :=
 on1 (isa_Form N x0.1) <| gg [pI] <| fun (x1 : Int) => 
 bi (x0.1 == 22) (
  bi (decide (x1 > 0)) (
   on1 (isa_HasD N x1) <| gg [pB] <| fun (x2 : Bool) => 
   on1 (isa_within N x0.2.1 x2 0 15) <| gg [pB] <| fun (x3 : Bool) => 
   bi x3 (
    on1 (isa_HasA N x1) <| gg [pB] <| fun (x4 : Bool) => 
    on1 (isa_within N x0.2.2.1 x4 0 15) <| gg [pB] <| fun (x5 : Bool) => 
    bi x5 (
     on1 (isa_HasB N x1) <| gg [pB] <| fun (x6 : Bool) => 
     on1 (isa_within N x0.2.2.2.1 x6 0 15) <| gg [pB] <| fun (x7 : Bool) => 
     bi x7 (
      on1 (isa_HasImm N x1) <| gg [pB] <| fun (x8 : Bool) => 
      on1 (isa_within N x0.2.2.2.2.1 x8 0 31) <| gg [pB] <| fun (x9 : Bool) => 
      some (0, gB.dv x9 [])) <|
     some (0, gB.dv false [])) <|
    some (0, gB.dv false [])) <|
   some (0, gB.dv false [])) <|
  some (0, gB.dv false [])) <|
 bi (x0.1 == 23) (
  bi (decide (x1 > 0)) (
   on1 (isa_HasD N x1) <| gg [pB] <| fun (x10 : Bool) => 
   on1 (isa_within N x0.2.1 x10 0 15) <| gg [pB] <| fun (x11 : Bool) => 
   bi x11 (
    on1 (isa_HasA N x1) <| gg [pB] <| fun (x12 : Bool) => 
    on1 (isa_within N x0.2.2.1 x12 0 15) <| gg [pB] <| fun (x13 : Bool) => 
    bi x13 (
     on1 (isa_HasB N x1) <| gg [pB] <| fun (x14 : Bool) => 
     on1 (isa_within N x0.2.2.2.1 x14 0 15) <| gg [pB] <| fun (x15 : Bool) => 
     bi x15 (
      on1 (isa_HasImm N x1) <| gg [pB] <| fun (x16 : Bool) => 
      on1 (isa_within N x0.2.2.2.2.1 x16 0 31) <| gg [pB] <| fun (x17 : Bool) => 
      some (0, gB.dv x17 [])) <|
     some (0, gB.dv false [])) <|
    some (0, gB.dv false [])) <|
   some (0, gB.dv false [])) <|
  some (0, gB.dv false [])) <|
 bi (x0.1 == 24) (
  bi (decide (x1 > 0)) (
   on1 (isa_HasD N x1) <| gg [pB] <| fun (x18 : Bool) => 
   on1 (isa_within N x0.2.1 x18 0 15) <| gg [pB] <| fun (x19 : Bool) => 
   bi x19 (
    on1 (isa_HasA N x1) <| gg [pB] <| fun (x20 : Bool) => 
    on1 (isa_within N x0.2.2.1 x20 0 15) <| gg [pB] <| fun (x21 : Bool) => 
    bi x21 (
     on1 (isa_HasB N x1) <| gg [pB] <| fun (x22 : Bool) => 
     on1 (isa_within N x0.2.2.2.1 x22 0 15) <| gg [pB] <| fun (x23 : Bool) => 
     bi x23 (
      on1 (isa_HasImm N x1) <| gg [pB] <| fun (x24 : Bool) => 
      on1 (isa_within N x0.2.2.2.2.1 x24 0 31) <| gg [pB] <| fun (x25 : Bool) => 
      some (0, gB.dv x25 [])) <|
     some (0, gB.dv false [])) <|
    some (0, gB.dv false [])) <|
   some (0, gB.dv false [])) <|
  some (0, gB.dv false [])) <|
 bi (decide (x1 > 0)) (
  on1 (isa_HasD N x1) <| gg [pB] <| fun (x26 : Bool) => 
  on1 (isa_within N x0.2.1 x26 0 15) <| gg [pB] <| fun (x27 : Bool) => 
  bi x27 (
   on1 (isa_HasA N x1) <| gg [pB] <| fun (x28 : Bool) => 
   on1 (isa_within N x0.2.2.1 x28 0 15) <| gg [pB] <| fun (x29 : Bool) => 
   bi x29 (
    on1 (isa_HasB N x1) <| gg [pB] <| fun (x30 : Bool) => 
    on1 (isa_within N x0.2.2.2.1 x30 0 15) <| gg [pB] <| fun (x31 : Bool) => 
    bi x31 (
     on1 (isa_HasImm N x1) <| gg [pB] <| fun (x32 : Bool) => 
     on1 (isa_within N x0.2.2.2.2.1 x32 (-8192 : Int) 8191) <| gg [pB] <| fun (x33 : Bool) => 
     some (0, gB.dv x33 [])) <|
    some (0, gB.dv false [])) <|
   some (0, gB.dv false [])) <|
  some (0, gB.dv false [])) <|
 some (0, gB.dv false [])
noncomputable def X_isa_Right (N : Nat) : CE := (c_isa_Right, mkF [p_api_Ins] [pB] (isa_Right N))
theorem Y_isa_Right (N : Nat) : CEok Q (X_isa_Right N) :=
 fnG (hi := h_isa_Right) (l := [X_isa_Form N, X_isa_HasD N, X_isa_within N, X_isa_HasA N, X_isa_HasB N, X_isa_HasImm N]) (t := []) ti_ok hmix ⟨Y_isa_Form N, Y_isa_HasD N, Y_isa_within N, Y_isa_HasA N, Y_isa_HasB N, Y_isa_HasImm N, trivial⟩ ⟨rfl, rfl, rfl, rfl, rfl, rfl, rfl, rfl, rfl, trivial⟩ f_66 (by kernel_rfl) (by kernel_rfl) trivial fun ys => by kernel_rfl
def c_asm_Names : CS := ⟨7, 37, ⟨[], []⟩, [.one (.o tS)], true, []⟩
def s_asm_Names_0 : LS := ⟨⟨[.no, .one (.o tS), .one (.d tI), .no, .no, .one (.it)] ++ nos 15, []⟩, [(1, ⟨[.no, .one (.o tS)] ++ nos 19, []⟩)]⟩
def h_asm_Names : Hi := ⟨[], [(0, s_asm_Names_0)], [7, 11], [], []⟩
theorem f_37 : Fn Q 37 f37 (codeOf f37) := ⟨by kernel_rfl, by kernel_rfl, by kernel_rfl, by kernel_rfl, by kernel_rfl⟩
noncomputable def T_asm_Names (N : Nat) : List CE := []
theorem TT_asm_Names (N : Nat) : AllP (CEok Q) (T_asm_Names N) := trivial
theorem A_asm_Names (N : Nat) : AllP (fun e => lookC (T_asm_Names N) e.2.id = some e.2) h_asm_Names.cs := trivial
noncomputable def asm_Names_r0 (N : Nat) (again : Fn' (Option Rs) [pD (.sl tS), pI, pT, pI]) (x0 : List ByteArray) (x1 : Int) (x2 : ByteArray) (x3 : Int) : Option Rs :=
 bi (decide (x3 < ((x2.size : Nat) : Int))) (
  bi ((runeC x2 x3) == 32) (
   gd (sb x3 ((w_0.size : Nat) : Int)) <|
   gd (sb x1 x3) <|
   gd (rm x0 [(ByteArray.extract w_0 x1.toNat x3.toNat)] 16) <|
   again (x0 ++ [(ByteArray.extract w_0 x1.toNat x3.toNat)]) (w.i64 (x3 + 1)) x2 (x3 + runeW x2 x3)) <|
  again x0 x1 x2 (x3 + runeW x2 x3)) <|
 some (1, (gD (.sl tS)).dv x0 [])
noncomputable def asm_Names_l0 (N : Nat) : Nat → Fn' (Option Rs) [pD (.sl tS), pI, pT, pI] := lpG (asm_Names_r0 N)
noncomputable def L_asm_Names_0 (N : Nat) : LE := (0, mkM [pD (.sl tS), pI, pT, pI] [(1, [pD (.sl tS)])] (asm_Names_l0 N N))
theorem K_asm_Names_0 (N : Nat) : LEok Q h_asm_Names (bodOf f37) f37.ntmps 0 (L_asm_Names_0 N) :=
 loopG (hi := h_asm_Names) (l := T_asm_Names N) (t := []) (r := asm_Names_r0 N) ti_ok hmix (TT_asm_Names N) (A_asm_Names N) f_37 trivial (ls := s_asm_Names_0) (body := bodyAt f37 0) (by kernel_rfl) (by kernel_rfl) fun A ys => by kernel_rfl
noncomputable def asm_Names (N : Nat)  : Option Rs :=
 onA 1 (asm_Names_l0 N N ([] : List ByteArray) 0 w_0 0) <| gg [pD (.sl tS)] <| fun (x0 : List ByteArray) => 
 some (0, (gD (.sl tS)).dv x0 [])
noncomputable def X_asm_Names (N : Nat) : CE := (c_asm_Names, mkF [] [pD (.sl tS)] (asm_Names N))
theorem Y_asm_Names (N : Nat) : CEok Q (X_asm_Names N) :=
 fnG (hi := h_asm_Names) (l := T_asm_Names N) (t := [L_asm_Names_0 N]) ti_ok hmix (TT_asm_Names N) (A_asm_Names N) f_37 (by kernel_rfl) (by kernel_rfl) ⟨K_asm_Names_0 N, trivial⟩ fun ys => by kernel_rfl
end Go.Proofs.Zs
