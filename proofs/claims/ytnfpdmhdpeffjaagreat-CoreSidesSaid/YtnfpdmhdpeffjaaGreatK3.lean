import Derived.Test.YtnfpdmhdpeffjaaGreatWK
set_option linter.unusedSimpArgs false
set_option linter.unusedVariables false
/- What functions of the program compute, as plain functions. -/
set_option linter.unusedVariables false
set_option maxRecDepth 100000
namespace Go.Proofs.Zz
open Go Go.Proofs.Tryz
noncomputable def r10_With (N : Nat) (x0 : api_Program) (x1 : List Int) : Option Rs :=
 on1 (r10_Closed N x0 x1) <| gg [pB] <| fun (x2 : Bool) => 
 bi (!x2) (
  some (0, g_api_Split.dv (api_Split.mk ([] : List api_Block) (List.replicate 16 (0 :Int))) (gI.dv 1 []))) <|
 on1 (r10_Cut N x0) <| gg [pD (.sl (.pair tI (.pair tI (.pair tI (.pair tI (.pair .nl (.pair .nl .unit)))))))] <| fun (x3 : List (Int × (Int × (Int × (Int × (Unit × (Unit × Unit))))))) => 
 onA 1 (r10_With_l0 N N 0 x0.Code x0.Size x0.Data x1 ([] : List api_Block) (List.replicate 16 (0 :Int)) x3 x1) <| gg [pD (.sl t_api_Ins), pI, pD (.sl tU), pD (.ar 16 tI), pD (.sl t_api_Block), pD (.ar 16 tI), pD (.sl t_api_Block), pD (.ar 16 tI)] <| fun (x4 : List api_Ins) (x5 : Int) (x6 : List Int) (x7 : List Int) (x8 : List api_Block) (x9 : List Int) (x10 : List api_Block) (x11 : List Int) => 
 some (0, g_api_Split.dv (api_Split.mk x10 x11) (gI.dv 0 []))
noncomputable def X_r10_With (N : Nat) : CE := (c_r10_With, mkF [p_api_Program, pD (.ar 16 tI)] [p_api_Split, pI] (r10_With N))
theorem Y_r10_With (N : Nat) : CEok Q (X_r10_With N) :=
 fnG (hi := h_r10_With) (l := T_r10_With N) (t := [L_r10_With_0 N]) ti_ok hmix (TT_r10_With N) (A_r10_With N) f_67 (by kernel_rfl) (by kernel_rfl) ⟨K_r10_With_0 N, trivial⟩ fun ys => by kernel_rfl
def c_r10_Owner : CS := ⟨54, 101, ⟨[.agg [.d (.sl t_api_Ins), .d tI, .d (.sl tU)]], []⟩, [.agg [.d (.ar 16 tI)]], true, []⟩
def s_r10_Owner_0 : LS := ⟨⟨[.no, .one (.p 0 0 [1, 1, 1]), .one (.p 1 0 [16]), .one (.p 2 0 [16]), .one (.d tI)] ++ nos 81, [[.d (.sl t_api_Ins), .d tI, .d (.sl tU)], [.d (.ar 16 tI)], [.d (.ar 16 tI)]]⟩, [(1, ⟨[.no, .one (.p 0 0 [1, 1, 1]), .one (.p 1 0 [16]), .one (.p 2 0 [16])] ++ nos 82, [[.d (.sl t_api_Ins), .d tI, .d (.sl tU)], [.d (.ar 16 tI)], [.d (.ar 16 tI)]]⟩)]⟩
def s_r10_Owner_6 : LS := ⟨⟨[.no, .one (.p 0 0 [1, 1, 1]), .one (.p 1 0 [16]), .one (.p 2 0 [16]), .no, .one (.d tI), .one (.d tI), .no, .no, .one (.o tI), .one (.d tI)] ++ nos 75, [[.d (.sl t_api_Ins), .d tI, .d (.sl tU)], [.d (.ar 16 tI)], [.d (.ar 16 tI)]]⟩, [(7, ⟨[.no, .one (.p 0 0 [1, 1, 1]), .one (.p 1 0 [16]), .one (.p 2 0 [16]), .no, .one (.d tI), .one (.d tI)] ++ nos 79, [[.d (.sl t_api_Ins), .d tI, .d (.sl tU)], [.d (.ar 16 tI)], [.d (.ar 16 tI)]]⟩)]⟩
def s_r10_Owner_4 : LS := ⟨⟨[.no, .one (.p 0 0 [1, 1, 1]), .one (.p 1 0 [16]), .one (.p 2 0 [16]), .no, .one (.d tI), .one (.d tI)] ++ nos 79, [[.d (.sl t_api_Ins), .d tI, .d (.sl tU)], [.d (.ar 16 tI)], [.d (.ar 16 tI)]]⟩, [(5, ⟨[.no, .one (.p 0 0 [1, 1, 1]), .one (.p 1 0 [16]), .one (.p 2 0 [16]), .no, .one (.d tI)] ++ nos 80, [[.d (.sl t_api_Ins), .d tI, .d (.sl tU)], [.d (.ar 16 tI)], [.d (.ar 16 tI)]]⟩)]⟩
def s_r10_Owner_2 : LS := ⟨⟨[.no, .one (.p 0 0 [1, 1, 1]), .one (.p 1 0 [16]), .one (.p 2 0 [16]), .no, .one (.d tI)] ++ nos 80, [[.d (.sl t_api_Ins), .d tI, .d (.sl tU)], [.d (.ar 16 tI)], [.d (.ar 16 tI)]]⟩, [(3, ⟨[.no, .no, .one (.p 0 0 [16]), .one (.p 1 0 [16])] ++ nos 82, [[.d (.ar 16 tI)], [.d (.ar 16 tI)]]⟩)]⟩
def h_r10_Owner : Hi := ⟨[((2, 1), c_r1_RightProgram), ((15, 2), c_r1_Form), ((19, 1), c_r1_Reads)], [(0, s_r10_Owner_0), (6, s_r10_Owner_6), (4, s_r10_Owner_4), (2, s_r10_Owner_2)], [13, 16, 22, 29, 42, 46, 50, 56, 60, 65, 71, 77], [], []⟩
theorem f_101 : Fn Q 101 f101 (codeOf f101) := ⟨by kernel_rfl, by kernel_rfl, by kernel_rfl, by kernel_rfl, by kernel_rfl⟩
noncomputable def T_r10_Owner (N : Nat) : List CE := [X_r1_RightProgram N, X_r1_Form N, X_r1_Reads N]
theorem TT_r10_Owner (N : Nat) : AllP (CEok Q) (T_r10_Owner N) := ⟨Y_r1_RightProgram N, Y_r1_Form N, Y_r1_Reads N, trivial⟩
theorem A_r10_Owner (N : Nat) : AllP (fun e => lookC (T_r10_Owner N) e.2.id = some e.2) h_r10_Owner.cs := ⟨rfl, rfl, rfl, trivial⟩
noncomputable def r10_Owner_r0 (N : Nat) (again : Fn' (Option Rs) [pI, p_api_Program, pD (.ar 16 tI), pD (.ar 16 tI)]) (x0 : Int) (x1 : api_Program) (x2 : List Int) (x3 : List Int) : Option Rs :=
 bi (decide (x0 < 16)) (
  gd (idx x0 16) <|
  again (w.i64 (x0 + 1)) x1 x2 (List.set x3 x0.toNat 2)) <|
 some (1, g_api_Program.dv x1 ((gD (.ar 16 tI)).dv x2 ((gD (.ar 16 tI)).dv x3 [])))
noncomputable def r10_Owner_l0 (N : Nat) : Nat → Fn' (Option Rs) [pI, p_api_Program, pD (.ar 16 tI), pD (.ar 16 tI)] := lpG (r10_Owner_r0 N)
noncomputable def L_r10_Owner_0 (N : Nat) : LE := (0, mkM [pI, p_api_Program, pD (.ar 16 tI), pD (.ar 16 tI)] [(1, [p_api_Program, pD (.ar 16 tI), pD (.ar 16 tI)])] (r10_Owner_l0 N N))
theorem K_r10_Owner_0 (N : Nat) : LEok Q h_r10_Owner (bodOf f101) f101.ntmps 0 (L_r10_Owner_0 N) :=
 loopG (hi := h_r10_Owner) (l := T_r10_Owner N) (t := []) (r := r10_Owner_r0 N) ti_ok hmix (TT_r10_Owner N) (A_r10_Owner N) f_101 trivial (ls := s_r10_Owner_0) (body := bodyAt f101 0) (by kernel_rfl) (by kernel_rfl) fun A ys => by kernel_rfl
noncomputable def r10_Owner_r6 (N : Nat) (again : Fn' (Option Rs) [pI, pI, pD (.sl tI), pI, p_api_Program, pD (.ar 16 tI), pD (.ar 16 tI)]) (x0 : Int) (x1 : Int) (x2 : List Int) (x3 : Int) (x4 : api_Program) (x5 : List Int) (x6 : List Int) : Option Rs :=
 bi (decide (x3 < (len x2))) (
  gd (idx x3 (List.length x2)) <|
  gd (idx (List.getD x2 x3.toNat 0) 16) <|
  again x0 x1 x2 (w.i64 (x3 + 1)) x4 x5 (List.set x6 (Int.toNat (List.getD x2 x3.toNat 0)) 1)) <|
 some (7, gI.dv x0 (gI.dv x1 (g_api_Program.dv x4 ((gD (.ar 16 tI)).dv x5 ((gD (.ar 16 tI)).dv x6 [])))))
noncomputable def r10_Owner_l6 (N : Nat) : Nat → Fn' (Option Rs) [pI, pI, pD (.sl tI), pI, p_api_Program, pD (.ar 16 tI), pD (.ar 16 tI)] := lpG (r10_Owner_r6 N)
noncomputable def L_r10_Owner_6 (N : Nat) : LE := (6, mkM [pI, pI, pD (.sl tI), pI, p_api_Program, pD (.ar 16 tI), pD (.ar 16 tI)] [(7, [pI, pI, p_api_Program, pD (.ar 16 tI), pD (.ar 16 tI)])] (r10_Owner_l6 N N))
theorem K_r10_Owner_6 (N : Nat) : LEok Q h_r10_Owner (bodOf f101) f101.ntmps 0 (L_r10_Owner_6 N) :=
 loopG (hi := h_r10_Owner) (l := T_r10_Owner N) (t := []) (r := r10_Owner_r6 N) ti_ok hmix (TT_r10_Owner N) (A_r10_Owner N) f_101 trivial (ls := s_r10_Owner_6) (body := bodyAt f101 6) (by kernel_rfl) (by kernel_rfl) fun A ys => by kernel_rfl
noncomputable def r10_Owner_r4 (N : Nat) (again : Fn' (Option Rs) [pI, pI, p_api_Program, pD (.ar 16 tI), pD (.ar 16 tI)]) (x0 : Int) (x1 : Int) (x2 : api_Program) (x3 : List Int) (x4 : List Int) : Option Rs :=
 bi (decide (x1 < (len x2.Code))) (
  gd (idx x1 (List.length x2.Code)) <|
  on1 (r1_Form N ((List.getD x2.Code x1.toNat api_Ins.z).1)) <| gg [pI] <| fun (x5 : Int) => 
  bi (x5 == 4) (
   bi (decide ((List.getD x2.Code x1.toNat api_Ins.z).2.2.1 > 0)) (
    gd (idx (List.getD x2.Code x1.toNat api_Ins.z).2.2.1 16) <|
    bi (decide (x5 ≥ 1)) (
     bi (decide (x5 ≤ 3)) (
      bi (decide ((List.getD x2.Code x1.toNat api_Ins.z).2.1 > 0)) (
       gd (idx (List.getD x2.Code x1.toNat api_Ins.z).2.1 16) <|
       bi ((List.getD (List.set x4 (Int.toNat (List.getD x2.Code x1.toNat api_Ins.z).2.2.1) 1) (Int.toNat (List.getD x2.Code x1.toNat api_Ins.z).2.1) 0) == 1) (
        on1 (r1_Reads N (List.getD x2.Code x1.toNat api_Ins.z)) <| gg [pD (.sl tI)] <| fun (x6 : List Int) => 
        onA 7 (r10_Owner_l6 N N x0 x1 x6 0 x2 x3 (List.set x4 (Int.toNat (List.getD x2.Code x1.toNat api_Ins.z).2.2.1) 1)) <| gg [pI, pI, p_api_Program, pD (.ar 16 tI), pD (.ar 16 tI)] <| fun (x7 : Int) (x8 : Int) (x9 : api_Program) (x10 : List Int) (x11 : List Int) => 
        again x7 (w.i64 (x8 + 1)) x9 x10 x11) <|
       again x0 (w.i64 (x1 + 1)) x2 x3 (List.set x4 (Int.toNat (List.getD x2.Code x1.toNat api_Ins.z).2.2.1) 1)) <|
      again x0 (w.i64 (x1 + 1)) x2 x3 (List.set x4 (Int.toNat (List.getD x2.Code x1.toNat api_Ins.z).2.2.1) 1)) <|
     again x0 (w.i64 (x1 + 1)) x2 x3 (List.set x4 (Int.toNat (List.getD x2.Code x1.toNat api_Ins.z).2.2.1) 1)) <|
    again x0 (w.i64 (x1 + 1)) x2 x3 (List.set x4 (Int.toNat (List.getD x2.Code x1.toNat api_Ins.z).2.2.1) 1)) <|
   bi (decide (x5 ≥ 1)) (
    bi (decide (x5 ≤ 3)) (
     bi (decide ((List.getD x2.Code x1.toNat api_Ins.z).2.1 > 0)) (
      gd (idx (List.getD x2.Code x1.toNat api_Ins.z).2.1 16) <|
      bi ((List.getD x4 (Int.toNat (List.getD x2.Code x1.toNat api_Ins.z).2.1) 0) == 1) (
       on1 (r1_Reads N (List.getD x2.Code x1.toNat api_Ins.z)) <| gg [pD (.sl tI)] <| fun (x12 : List Int) => 
       onA 7 (r10_Owner_l6 N N x0 x1 x12 0 x2 x3 x4) <| gg [pI, pI, p_api_Program, pD (.ar 16 tI), pD (.ar 16 tI)] <| fun (x13 : Int) (x14 : Int) (x15 : api_Program) (x16 : List Int) (x17 : List Int) => 
       again x13 (w.i64 (x14 + 1)) x15 x16 x17) <|
      again x0 (w.i64 (x1 + 1)) x2 x3 x4) <|
     again x0 (w.i64 (x1 + 1)) x2 x3 x4) <|
    again x0 (w.i64 (x1 + 1)) x2 x3 x4) <|
   again x0 (w.i64 (x1 + 1)) x2 x3 x4) <|
  bi (x5 == 5) (
   bi (decide ((List.getD x2.Code x1.toNat api_Ins.z).2.2.1 > 0)) (
    gd (idx (List.getD x2.Code x1.toNat api_Ins.z).2.2.1 16) <|
    bi (decide (x5 ≥ 1)) (
     bi (decide (x5 ≤ 3)) (
      bi (decide ((List.getD x2.Code x1.toNat api_Ins.z).2.1 > 0)) (
       gd (idx (List.getD x2.Code x1.toNat api_Ins.z).2.1 16) <|
       bi ((List.getD (List.set x4 (Int.toNat (List.getD x2.Code x1.toNat api_Ins.z).2.2.1) 1) (Int.toNat (List.getD x2.Code x1.toNat api_Ins.z).2.1) 0) == 1) (
        on1 (r1_Reads N (List.getD x2.Code x1.toNat api_Ins.z)) <| gg [pD (.sl tI)] <| fun (x18 : List Int) => 
        onA 7 (r10_Owner_l6 N N x0 x1 x18 0 x2 x3 (List.set x4 (Int.toNat (List.getD x2.Code x1.toNat api_Ins.z).2.2.1) 1)) <| gg [pI, pI, p_api_Program, pD (.ar 16 tI), pD (.ar 16 tI)] <| fun (x19 : Int) (x20 : Int) (x21 : api_Program) (x22 : List Int) (x23 : List Int) => 
        again x19 (w.i64 (x20 + 1)) x21 x22 x23) <|
       again x0 (w.i64 (x1 + 1)) x2 x3 (List.set x4 (Int.toNat (List.getD x2.Code x1.toNat api_Ins.z).2.2.1) 1)) <|
      again x0 (w.i64 (x1 + 1)) x2 x3 (List.set x4 (Int.toNat (List.getD x2.Code x1.toNat api_Ins.z).2.2.1) 1)) <|
     again x0 (w.i64 (x1 + 1)) x2 x3 (List.set x4 (Int.toNat (List.getD x2.Code x1.toNat api_Ins.z).2.2.1) 1)) <|
    again x0 (w.i64 (x1 + 1)) x2 x3 (List.set x4 (Int.toNat (List.getD x2.Code x1.toNat api_Ins.z).2.2.1) 1)) <|
   bi (decide (x5 ≥ 1)) (
    bi (decide (x5 ≤ 3)) (
     bi (decide ((List.getD x2.Code x1.toNat api_Ins.z).2.1 > 0)) (
      gd (idx (List.getD x2.Code x1.toNat api_Ins.z).2.1 16) <|
      bi ((List.getD x4 (Int.toNat (List.getD x2.Code x1.toNat api_Ins.z).2.1) 0) == 1) (
       on1 (r1_Reads N (List.getD x2.Code x1.toNat api_Ins.z)) <| gg [pD (.sl tI)] <| fun (x24 : List Int) => 
       onA 7 (r10_Owner_l6 N N x0 x1 x24 0 x2 x3 x4) <| gg [pI, pI, p_api_Program, pD (.ar 16 tI), pD (.ar 16 tI)] <| fun (x25 : Int) (x26 : Int) (x27 : api_Program) (x28 : List Int) (x29 : List Int) => 
       again x25 (w.i64 (x26 + 1)) x27 x28 x29) <|
      again x0 (w.i64 (x1 + 1)) x2 x3 x4) <|
     again x0 (w.i64 (x1 + 1)) x2 x3 x4) <|
    again x0 (w.i64 (x1 + 1)) x2 x3 x4) <|
   again x0 (w.i64 (x1 + 1)) x2 x3 x4) <|
  bi (decide (x5 ≥ 1)) (
   bi (decide (x5 ≤ 3)) (
    bi (decide ((List.getD x2.Code x1.toNat api_Ins.z).2.1 > 0)) (
     gd (idx (List.getD x2.Code x1.toNat api_Ins.z).2.1 16) <|
     bi ((List.getD x4 (Int.toNat (List.getD x2.Code x1.toNat api_Ins.z).2.1) 0) == 1) (
      on1 (r1_Reads N (List.getD x2.Code x1.toNat api_Ins.z)) <| gg [pD (.sl tI)] <| fun (x30 : List Int) => 
      onA 7 (r10_Owner_l6 N N x0 x1 x30 0 x2 x3 x4) <| gg [pI, pI, p_api_Program, pD (.ar 16 tI), pD (.ar 16 tI)] <| fun (x31 : Int) (x32 : Int) (x33 : api_Program) (x34 : List Int) (x35 : List Int) => 
      again x31 (w.i64 (x32 + 1)) x33 x34 x35) <|
     again x0 (w.i64 (x1 + 1)) x2 x3 x4) <|
    again x0 (w.i64 (x1 + 1)) x2 x3 x4) <|
   again x0 (w.i64 (x1 + 1)) x2 x3 x4) <|
  again x0 (w.i64 (x1 + 1)) x2 x3 x4) <|
 some (5, gI.dv x0 (g_api_Program.dv x2 ((gD (.ar 16 tI)).dv x3 ((gD (.ar 16 tI)).dv x4 []))))
noncomputable def r10_Owner_l4 (N : Nat) : Nat → Fn' (Option Rs) [pI, pI, p_api_Program, pD (.ar 16 tI), pD (.ar 16 tI)] := lpG (r10_Owner_r4 N)
noncomputable def L_r10_Owner_4 (N : Nat) : LE := (4, mkM [pI, pI, p_api_Program, pD (.ar 16 tI), pD (.ar 16 tI)] [(5, [pI, p_api_Program, pD (.ar 16 tI), pD (.ar 16 tI)])] (r10_Owner_l4 N N))
theorem K_r10_Owner_4 (N : Nat) : LEok Q h_r10_Owner (bodOf f101) f101.ntmps 0 (L_r10_Owner_4 N) :=
 loopG (hi := h_r10_Owner) (l := T_r10_Owner N) (t := [L_r10_Owner_6 N]) (r := r10_Owner_r4 N) ti_ok hmix (TT_r10_Owner N) (A_r10_Owner N) f_101 ⟨K_r10_Owner_6 N, trivial⟩ (ls := s_r10_Owner_4) (body := bodyAt f101 4) (by kernel_rfl) (by kernel_rfl) fun A ys => by kernel_rfl
noncomputable def r10_Owner_r2 (N : Nat) (again : Fn' (Option Rs) [pI, p_api_Program, pD (.ar 16 tI), pD (.ar 16 tI)]) (x0 : Int) (x1 : api_Program) (x2 : List Int) (x3 : List Int) : Option Rs :=
 bi (decide (x0 < 17)) (
  onA 5 (r10_Owner_l4 N N x0 0 x1 x2 x3) <| gg [pI, p_api_Program, pD (.ar 16 tI), pD (.ar 16 tI)] <| fun (x4 : Int) (x5 : api_Program) (x6 : List Int) (x7 : List Int) => 
  again (w.i64 (x4 + 1)) x5 x6 x7) <|
 some (3, (gD (.ar 16 tI)).dv x2 ((gD (.ar 16 tI)).dv x3 []))
noncomputable def r10_Owner_l2 (N : Nat) : Nat → Fn' (Option Rs) [pI, p_api_Program, pD (.ar 16 tI), pD (.ar 16 tI)] := lpG (r10_Owner_r2 N)
noncomputable def L_r10_Owner_2 (N : Nat) : LE := (2, mkM [pI, p_api_Program, pD (.ar 16 tI), pD (.ar 16 tI)] [(3, [pD (.ar 16 tI), pD (.ar 16 tI)])] (r10_Owner_l2 N N))
theorem K_r10_Owner_2 (N : Nat) : LEok Q h_r10_Owner (bodOf f101) f101.ntmps 0 (L_r10_Owner_2 N) :=
 loopG (hi := h_r10_Owner) (l := T_r10_Owner N) (t := [L_r10_Owner_4 N]) (r := r10_Owner_r2 N) ti_ok hmix (TT_r10_Owner N) (A_r10_Owner N) f_101 ⟨K_r10_Owner_4 N, trivial⟩ (ls := s_r10_Owner_2) (body := bodyAt f101 2) (by kernel_rfl) (by kernel_rfl) fun A ys => by kernel_rfl
noncomputable def r10_Owner (N : Nat) (x0 : api_Program) : Option Rs :=
 on1 (r1_RightProgram N x0) <| gg [pB] <| fun (x1 : Bool) => 
 bi (!x1) (
  some (0, (gD (.ar 16 tI)).dv (List.replicate 16 (0 :Int)) [])) <|
 onA 1 (r10_Owner_l0 N N 1 x0 (List.replicate 16 (0 :Int)) (List.replicate 16 (0 :Int))) <| gg [p_api_Program, pD (.ar 16 tI), pD (.ar 16 tI)] <| fun (x2 : api_Program) (x3 : List Int) (x4 : List Int) => 
 onA 3 (r10_Owner_l2 N N 0 x2 x3 x4) <| gg [pD (.ar 16 tI), pD (.ar 16 tI)] <| fun (x5 : List Int) (x6 : List Int) => 
 some (0, (gD (.ar 16 tI)).dv x6 [])
noncomputable def X_r10_Owner (N : Nat) : CE := (c_r10_Owner, mkF [p_api_Program] [pD (.ar 16 tI)] (r10_Owner N))
theorem Y_r10_Owner (N : Nat) : CEok Q (X_r10_Owner N) :=
 fnG (hi := h_r10_Owner) (l := T_r10_Owner N) (t := [L_r10_Owner_0 N, L_r10_Owner_6 N, L_r10_Owner_4 N, L_r10_Owner_2 N]) ti_ok hmix (TT_r10_Owner N) (A_r10_Owner N) f_101 (by kernel_rfl) (by kernel_rfl) ⟨K_r10_Owner_0 N, K_r10_Owner_6 N, K_r10_Owner_4 N, K_r10_Owner_2 N, trivial⟩ fun ys => by kernel_rfl
def c_r10_Split : CS := ⟨55, 43, ⟨[.agg [.d (.sl t_api_Ins), .d tI, .d (.sl tU)]], []⟩, [.agg [.o t_api_Block, .d (.ar 16 tI)], .one (.d tI)], false, []⟩
def h_r10_Split : Hi := ⟨[((1, 2), c_r10_Owner), ((1, 3), c_r10_With)], [], [], [], []⟩
theorem f_43 : Fn Q 43 f43 (codeOf f43) := ⟨by kernel_rfl, by kernel_rfl, by kernel_rfl, by kernel_rfl, by kernel_rfl⟩
noncomputable def r10_Split (N : Nat) (x0 : api_Program) : Option Rs :=
 on1 (r10_Owner N x0) <| gg [pD (.ar 16 tI)] <| fun (x1 : List Int) => 
 on1 (r10_With N x0 x1) <| gg [p_api_Split, pI] <| fun (x2 : api_Split) (x3 : Int) => 
 some (0, g_api_Split.dv x2 (gI.dv x3 []))
noncomputable def X_r10_Split (N : Nat) : CE := (c_r10_Split, mkF [p_api_Program] [p_api_Split, pI] (r10_Split N))
theorem Y_r10_Split (N : Nat) : CEok Q (X_r10_Split N) :=
 fnG (hi := h_r10_Split) (l := [X_r10_Owner N, X_r10_With N]) (t := []) ti_ok hmix ⟨Y_r10_Owner N, Y_r10_With N, trivial⟩ ⟨rfl, rfl, trivial⟩ f_43 (by kernel_rfl) (by kernel_rfl) trivial fun ys => by kernel_rfl
def c_l21_Splits : CS := ⟨56, 24, ⟨[.agg [.d (.sl t_api_Ins), .d tI, .d (.sl tU)], .one (.d tI)], []⟩, [.agg [.o t_api_Block, .d (.ar 16 tI)], .one (.d tB)], false, []⟩
def h_l21_Splits : Hi := ⟨[((1, 2), c_l11_Owners), ((1, 3), c_r10_With), ((3, 1), c_r10_Split)], [], [16], [], []⟩
theorem f_24 : Fn Q 24 f24 (codeOf f24) := ⟨by kernel_rfl, by kernel_rfl, by kernel_rfl, by kernel_rfl, by kernel_rfl⟩
noncomputable def l21_Splits (N : Nat) (x0 : api_Program) (x1 : Int) : Option Rs :=
 on1 (l11_Owners N x1) <| gg [pD (.ar 16 tI)] <| fun (x2 : List Int) => 
 on1 (r10_With N x0 x2) <| gg [p_api_Split, pI] <| fun (x3 : api_Split) (x4 : Int) => 
 bi (x4 != 0) (
  on1 (r10_Split N x0) <| gg [p_api_Split, pI] <| fun (x5 : api_Split) (x6 : Int) => 
  some (0, g_api_Split.dv x5 (gB.dv (x6 == 0) []))) <|
 some (0, g_api_Split.dv x3 (gB.dv (x4 == 0) []))
noncomputable def X_l21_Splits (N : Nat) : CE := (c_l21_Splits, mkF [p_api_Program, pI] [p_api_Split, pB] (l21_Splits N))
theorem Y_l21_Splits (N : Nat) : CEok Q (X_l21_Splits N) :=
 fnG (hi := h_l21_Splits) (l := [X_l11_Owners N, X_r10_With N, X_r10_Split N]) (t := []) ti_ok hmix ⟨Y_l11_Owners N, Y_r10_With N, Y_r10_Split N, trivial⟩ ⟨rfl, rfl, rfl, trivial⟩ f_24 (by kernel_rfl) (by kernel_rfl) trivial fun ys => by kernel_rfl
def c_l4_Few : CS := ⟨57, 25, ⟨[.agg [.d (.sl t_api_Ins), .d tI, .d (.sl tU)]], []⟩, [.one (.d tB)], true, []⟩
def h_l4_Few : Hi := ⟨[], [], [7], [], []⟩
theorem f_25 : Fn Q 25 f25 (codeOf f25) := ⟨by kernel_rfl, by kernel_rfl, by kernel_rfl, by kernel_rfl, by kernel_rfl⟩
noncomputable def l4_Few (N : Nat) (x0 : api_Program) : Option Rs :=
 bi (decide ((len x0.Code) ≤ 200)) (
  some (0, gB.dv (decide ((len x0.Data) ≤ 500)) [])) <|
 some (0, gB.dv false [])
noncomputable def X_l4_Few (N : Nat) : CE := (c_l4_Few, mkF [p_api_Program] [pB] (l4_Few N))
theorem Y_l4_Few (N : Nat) : CEok Q (X_l4_Few N) :=
 fnG (hi := h_l4_Few) (l := []) (t := []) ti_ok hmix trivial trivial f_25 (by kernel_rfl) (by kernel_rfl) trivial fun ys => by kernel_rfl
def c_r15_within : CS := ⟨59, 116, ⟨[.one (.d tI), .one (.d tI)], []⟩, [.one (.d tB)], true, []⟩
def h_r15_within : Hi := ⟨[], [], [7], [], []⟩
theorem f_116 : Fn Q 116 f116 (codeOf f116) := ⟨by kernel_rfl, by kernel_rfl, by kernel_rfl, by kernel_rfl, by kernel_rfl⟩
noncomputable def r15_within (N : Nat) (x0 : Int) (x1 : Int) : Option Rs :=
 bi (decide (x0 ≥ 1)) (
  some (0, gB.dv (decide (x0 ≤ x1)) [])) <|
 some (0, gB.dv false [])
noncomputable def X_r15_within (N : Nat) : CE := (c_r15_within, mkF [pI, pI] [pB] (r15_within N))
theorem Y_r15_within (N : Nat) : CEok Q (X_r15_within N) :=
 fnG (hi := h_r15_within) (l := []) (t := []) ti_ok hmix trivial trivial f_116 (by kernel_rfl) (by kernel_rfl) trivial fun ys => by kernel_rfl
def c_r15_RightConfig : CS := ⟨60, 56, ⟨[.agg q_5], []⟩, [.one (.d tB)], true, []⟩
def s_r15_RightConfig_0 : LS := ⟨⟨[.no, .one (.p 0 0 [1, 1, 1, 1, 1, 1, 1, 1, 1, 1, 1, 1]), .no, .one (.o tI), .one (.d tI)] ++ nos 47, [q_5]⟩, [(0, ⟨[.no, .no, .one (.d tB)] ++ nos 49, []⟩), (1, ⟨[.no, .one (.p 0 0 [1, 1, 1, 1, 1, 1, 1, 1, 1, 1, 1, 1])] ++ nos 50, [q_5]⟩)]⟩
def h_r15_RightConfig : Hi := ⟨[((5, 4), c_r15_within), ((7, 2), c_r15_within), ((7, 6), c_r15_within), ((7, 11), c_r15_within), ((7, 16), c_r15_within)], [(0, s_r15_RightConfig_0)], [25, 33, 37, 42, 47], [], []⟩
theorem f_56 : Fn Q 56 f56 (codeOf f56) := ⟨by kernel_rfl, by kernel_rfl, by kernel_rfl, by kernel_rfl, by kernel_rfl⟩
noncomputable def T_r15_RightConfig (N : Nat) : List CE := [X_r15_within N]
theorem TT_r15_RightConfig (N : Nat) : AllP (CEok Q) (T_r15_RightConfig N) := ⟨Y_r15_within N, trivial⟩
theorem A_r15_RightConfig (N : Nat) : AllP (fun e => lookC (T_r15_RightConfig N) e.2.id = some e.2) h_r15_RightConfig.cs := ⟨rfl, rfl, rfl, rfl, rfl, trivial⟩
noncomputable def r15_RightConfig_r0 (N : Nat) (again : Fn' (Option Rs) [pD (.sl tI), pI, p_api_Config]) (x0 : List Int) (x1 : Int) (x2 : api_Config) : Option Rs :=
 bi (decide (x1 < (len x0))) (
  gd (idx x1 (List.length x0)) <|
  on1 (r15_within N (List.getD x0 x1.toNat 0) 64) <| gg [pB] <| fun (x3 : Bool) => 
  bi (!x3) (
   some (0, gB.dv false [])) <|
  again x0 (w.i64 (x1 + 1)) x2) <|
 some (1, g_api_Config.dv x2 [])
noncomputable def r15_RightConfig_l0 (N : Nat) : Nat → Fn' (Option Rs) [pD (.sl tI), pI, p_api_Config] := lpG (r15_RightConfig_r0 N)
noncomputable def L_r15_RightConfig_0 (N : Nat) : LE := (0, mkM [pD (.sl tI), pI, p_api_Config] [(0, [pB]), (1, [p_api_Config])] (r15_RightConfig_l0 N N))
theorem K_r15_RightConfig_0 (N : Nat) : LEok Q h_r15_RightConfig (bodOf f56) f56.ntmps 0 (L_r15_RightConfig_0 N) :=
 loopG (hi := h_r15_RightConfig) (l := T_r15_RightConfig N) (t := []) (r := r15_RightConfig_r0 N) ti_ok hmix (TT_r15_RightConfig N) (A_r15_RightConfig N) f_56 trivial (ls := s_r15_RightConfig_0) (body := bodyAt f56 0) (by kernel_rfl) (by kernel_rfl) fun A ys => by kernel_rfl
noncomputable def r15_RightConfig (N : Nat) (x0 : api_Config) : Option Rs :=
 onB 0 1 (r15_RightConfig_l0 N N [x0.Ldq, x0.Sdq, x0.Aeq, x0.Abq, x0.Ebq, x0.Saq, x0.Flight, x0.Slip] 0 x0) (gg [pB] <| fun (x1 : Bool) => 
  some (0, gB.dv x1 [])) <| gg [p_api_Config] <| fun (x2 : api_Config) => 
 on1 (r15_within N x2.Banks 16) <| gg [pB] <| fun (x3 : Bool) => 
 bi x3 (
  on1 (r15_within N x2.Lat 1000) <| gg [pB] <| fun (x4 : Bool) => 
  bi x4 (
   on1 (r15_within N x2.Mul 50) <| gg [pB] <| fun (x5 : Bool) => 
   bi x5 (
    on1 (r15_within N x2.Div 50) <| gg [pB] <| fun (x6 : Bool) => 
    some (0, gB.dv x6 [])) <|
   some (0, gB.dv false [])) <|
  some (0, gB.dv false [])) <|
 some (0, gB.dv false [])
noncomputable def X_r15_RightConfig (N : Nat) : CE := (c_r15_RightConfig, mkF [p_api_Config] [pB] (r15_RightConfig N))
theorem Y_r15_RightConfig (N : Nat) : CEok Q (X_r15_RightConfig N) :=
 fnG (hi := h_r15_RightConfig) (l := T_r15_RightConfig N) (t := [L_r15_RightConfig_0 N]) ti_ok hmix (TT_r15_RightConfig N) (A_r15_RightConfig N) f_56 (by kernel_rfl) (by kernel_rfl) ⟨K_r15_RightConfig_0 N, trivial⟩ fun ys => by kernel_rfl
def c_state_within_1 : CS := ⟨70, 215, ⟨[.one (.d tI), .one (.p 0 0 [1]), .one (.p 1 0 [1])], [[.d tI], [.d tI]]⟩, [.one (.d tB)], true, [[.d tI], [.d tI]]⟩
def h_state_within_1 : Hi := ⟨[], [], [8], [], []⟩
theorem f_215 : Fn Q 215 f215 (codeOf f215) := ⟨by kernel_rfl, by kernel_rfl, by kernel_rfl, by kernel_rfl, by kernel_rfl⟩
noncomputable def state_within_1 (N : Nat) (x0 : Int) (x1 : Int) (x2 : Int) : Option Rs :=
 bi (decide (x0 < x1)) (
  some (0, gB.dv true (gI.dv x1 (gI.dv x2 [])))) <|
 some (0, gB.dv (decide (x0 > x2)) (gI.dv x1 (gI.dv x2 [])))
noncomputable def X_state_within_1 (N : Nat) : CE := (c_state_within_1, mkF [pI, pI, pI] [pB, pI, pI] (state_within_1 N))
theorem Y_state_within_1 (N : Nat) : CEok Q (X_state_within_1 N) :=
 fnG (hi := h_state_within_1) (l := []) (t := []) ti_ok hmix trivial trivial f_215 (by kernel_rfl) (by kernel_rfl) trivial fun ys => by kernel_rfl
def c_sl_IndexFunc_int_3 : CS := ⟨71, 129, ⟨[.one (.d (.sl tI)), .one (.f 215 [⟨0, 0, [1]⟩, ⟨1, 0, [1]⟩])], [[.d tI], [.d tI]]⟩, [.one (.d tI)], true, [[.d tI], [.d tI]]⟩
def s_sl_IndexFunc_int_3_0 : LS := ⟨⟨[.one (.d (.sl tI)), .one (.f 215 [⟨0, 0, [1]⟩, ⟨1, 0, [1]⟩]), .no, .no, .no, .no, .no, .one (.d tI), .one (.d tI)] ++ nos 10, [[.d tI], [.d tI]]⟩, [(0, ⟨[.no, .no, .no, .no, .one (.d tI)] ++ nos 14, [[.d tI], [.d tI]]⟩), (1, ⟨nos 19, [[.d tI], [.d tI]]⟩)]⟩
def h_sl_IndexFunc_int_3 : Hi := ⟨[((4, 5), c_state_within_1)], [(0, s_sl_IndexFunc_int_3_0)], [9, 16], [], []⟩
noncomputable def T_sl_IndexFunc_int_3 (N : Nat) : List CE := [X_state_within_1 N]
theorem TT_sl_IndexFunc_int_3 (N : Nat) : AllP (CEok Q) (T_sl_IndexFunc_int_3 N) := ⟨Y_state_within_1 N, trivial⟩
theorem A_sl_IndexFunc_int_3 (N : Nat) : AllP (fun e => lookC (T_sl_IndexFunc_int_3 N) e.2.id = some e.2) h_sl_IndexFunc_int_3.cs := ⟨rfl, trivial⟩
noncomputable def sl_IndexFunc_int_3_r0 (N : Nat) (again : Fn' (Option Rs) [pD (.sl tI), pI, pI, pI, pI]) (x0 : List Int) (x1 : Int) (x2 : Int) (x3 : Int) (x4 : Int) : Option Rs :=
 bi (decide (x2 < x1)) (
  gd (idx x2 (List.length x0)) <|
  on1 (state_within_1 N (List.getD x0 x2.toNat 0) x3 x4) <| gg [pB, pI, pI] <| fun (x5 : Bool) (x6 : Int) (x7 : Int) => 
  bi x5 (
   some (0, gI.dv x2 (gI.dv x6 (gI.dv x7 [])))) <|
  again x0 x1 (w.i64 (x2 + 1)) x6 x7) <|
 some (1, gI.dv x3 (gI.dv x4 []))
noncomputable def sl_IndexFunc_int_3_l0 (N : Nat) : Nat → Fn' (Option Rs) [pD (.sl tI), pI, pI, pI, pI] := lpG (sl_IndexFunc_int_3_r0 N)
noncomputable def L_sl_IndexFunc_int_3_0 (N : Nat) : LE := (0, mkM [pD (.sl tI), pI, pI, pI, pI] [(0, [pI, pI, pI]), (1, [pI, pI])] (sl_IndexFunc_int_3_l0 N N))
theorem K_sl_IndexFunc_int_3_0 (N : Nat) : LEok Q h_sl_IndexFunc_int_3 (bodOf f129) f129.ntmps 2 (L_sl_IndexFunc_int_3_0 N) :=
 loopG (hi := h_sl_IndexFunc_int_3) (l := T_sl_IndexFunc_int_3 N) (t := []) (r := sl_IndexFunc_int_3_r0 N) ti_ok hmix (TT_sl_IndexFunc_int_3 N) (A_sl_IndexFunc_int_3 N) f_129 trivial (ls := s_sl_IndexFunc_int_3_0) (body := bodyAt f129 0) (by kernel_rfl) (by kernel_rfl) fun A ys => by kernel_rfl
noncomputable def sl_IndexFunc_int_3 (N : Nat) (x0 : List Int) (x1 : Int) (x2 : Int) : Option Rs :=
 onB 0 1 (sl_IndexFunc_int_3_l0 N N x0 (len x0) 0 x1 x2) (gg [pI, pI, pI] <| fun (x3 : Int) (x4 : Int) (x5 : Int) => 
  some (0, gI.dv x3 (gI.dv x4 (gI.dv x5 [])))) <| gg [pI, pI] <| fun (x6 : Int) (x7 : Int) => 
 some (0, gI.dv (-1 : Int) (gI.dv x6 (gI.dv x7 [])))
noncomputable def X_sl_IndexFunc_int_3 (N : Nat) : CE := (c_sl_IndexFunc_int_3, mkF [pD (.sl tI), pI, pI] [pI, pI, pI] (sl_IndexFunc_int_3 N))
theorem Y_sl_IndexFunc_int_3 (N : Nat) : CEok Q (X_sl_IndexFunc_int_3 N) :=
 fnG (hi := h_sl_IndexFunc_int_3) (l := T_sl_IndexFunc_int_3 N) (t := [L_sl_IndexFunc_int_3_0 N]) ti_ok hmix (TT_sl_IndexFunc_int_3 N) (A_sl_IndexFunc_int_3 N) f_129 (by kernel_rfl) (by kernel_rfl) ⟨K_sl_IndexFunc_int_3_0 N, trivial⟩ fun ys => by kernel_rfl
def c_sl_ContainsFunc_int_2 : CS := ⟨72, 74, ⟨[.one (.d (.sl tI)), .one (.f 215 [⟨0, 0, [1]⟩, ⟨1, 0, [1]⟩])], [[.d tI], [.d tI]]⟩, [.one (.d tB)], true, [[.d tI], [.d tI]]⟩
def h_sl_ContainsFunc_int_2 : Hi := ⟨[((1, 2), c_sl_IndexFunc_int_3)], [], [], [], []⟩
noncomputable def sl_ContainsFunc_int_2 (N : Nat) (x0 : List Int) (x1 : Int) (x2 : Int) : Option Rs :=
 on1 (sl_IndexFunc_int_3 N x0 x1 x2) <| gg [pI, pI, pI] <| fun (x3 : Int) (x4 : Int) (x5 : Int) => 
 some (0, gB.dv (decide (x3 ≥ 0)) (gI.dv x4 (gI.dv x5 [])))
noncomputable def X_sl_ContainsFunc_int_2 (N : Nat) : CE := (c_sl_ContainsFunc_int_2, mkF [pD (.sl tI), pI, pI] [pB, pI, pI] (sl_ContainsFunc_int_2 N))
theorem Y_sl_ContainsFunc_int_2 (N : Nat) : CEok Q (X_sl_ContainsFunc_int_2 N) :=
 fnG (hi := h_sl_ContainsFunc_int_2) (l := [X_sl_IndexFunc_int_3 N]) (t := []) ti_ok hmix ⟨Y_sl_IndexFunc_int_3 N, trivial⟩ ⟨rfl, trivial⟩ f_74 (by kernel_rfl) (by kernel_rfl) trivial fun ys => by kernel_rfl
def c_state_within : CS := ⟨73, 144, ⟨[.one (.d tI), .one (.d tI), .one (.d (.sl tI))], []⟩, [.one (.d tB)], true, []⟩
def h_state_within : Hi := ⟨[((1, 2), c_sl_ContainsFunc_int_2)], [], [], [], []⟩
theorem f_144 : Fn Q 144 f144 (codeOf f144) := ⟨by kernel_rfl, by kernel_rfl, by kernel_rfl, by kernel_rfl, by kernel_rfl⟩
noncomputable def state_within (N : Nat) (x0 : Int) (x1 : Int) (x2 : List Int) : Option Rs :=
 on1 (sl_ContainsFunc_int_2 N x2 x0 x1) <| gg [pB, pI, pI] <| fun (x3 : Bool) (x4 : Int) (x5 : Int) => 
 some (0, gB.dv (!x3) [])
noncomputable def X_state_within (N : Nat) : CE := (c_state_within, mkF [pI, pI, pD (.sl tI)] [pB] (state_within N))
theorem Y_state_within (N : Nat) : CEok Q (X_state_within N) :=
 fnG (hi := h_state_within) (l := [X_sl_ContainsFunc_int_2 N]) (t := []) ti_ok hmix ⟨Y_sl_ContainsFunc_int_2 N, trivial⟩ ⟨rfl, trivial⟩ f_144 (by kernel_rfl) (by kernel_rfl) trivial fun ys => by kernel_rfl
def c_state_Config : CS := ⟨74, 117, ⟨[.agg q_5], []⟩, [.one (.d tB)], true, []⟩
def h_state_Config : Hi := ⟨[((1, 17), c_state_within), ((1, 22), c_state_within), ((1, 28), c_state_within), ((1, 36), c_state_within)], [], [21, 27, 33], [], []⟩
theorem f_117 : Fn Q 117 f117 (codeOf f117) := ⟨by kernel_rfl, by kernel_rfl, by kernel_rfl, by kernel_rfl, by kernel_rfl⟩
noncomputable def state_Config (N : Nat) (x0 : api_Config) : Option Rs :=
 on1 (state_within N 1 64 [x0.Ldq, x0.Sdq, x0.Aeq, x0.Abq, x0.Ebq, x0.Saq, x0.Flight, x0.Slip]) <| gg [pB] <| fun (x1 : Bool) => 
 bi x1 (
  on1 (state_within N 1 16 [x0.Banks]) <| gg [pB] <| fun (x2 : Bool) => 
  bi x2 (
   on1 (state_within N 1 1000 [x0.Lat]) <| gg [pB] <| fun (x3 : Bool) => 
   bi x3 (
    on1 (state_within N 1 50 [x0.Mul, x0.Div]) <| gg [pB] <| fun (x4 : Bool) => 
    some (0, gB.dv x4 [])) <|
   some (0, gB.dv false [])) <|
  some (0, gB.dv false [])) <|
 some (0, gB.dv false [])
noncomputable def X_state_Config (N : Nat) : CE := (c_state_Config, mkF [p_api_Config] [pB] (state_Config N))
theorem Y_state_Config (N : Nat) : CEok Q (X_state_Config N) :=
 fnG (hi := h_state_Config) (l := [X_state_within N]) (t := []) ti_ok hmix ⟨Y_state_within N, trivial⟩ ⟨rfl, rfl, rfl, rfl, trivial⟩ f_117 (by kernel_rfl) (by kernel_rfl) trivial fun ys => by kernel_rfl
def c_state_Right_1 : CS := ⟨75, 142, ⟨[.agg q_6], []⟩, [.one (.d (.sl t_api_Cell))], true, []⟩
def h_state_Right_1 : Hi := ⟨[], [], [], [], []⟩
theorem f_142 : Fn Q 142 f142 (codeOf f142) := ⟨by kernel_rfl, by kernel_rfl, by kernel_rfl, by kernel_rfl, by kernel_rfl⟩
noncomputable def state_Right_1 (N : Nat) (x0 : api_Block) : Option Rs :=
 some (0, (gD (.sl t_api_Cell)).dv x0.2.2.2.2.1 [])
noncomputable def X_state_Right_1 (N : Nat) : CE := (c_state_Right_1, mkF [p_api_Block] [pD (.sl t_api_Cell)] (state_Right_1 N))
theorem Y_state_Right_1 (N : Nat) : CEok Q (X_state_Right_1 N) :=
 fnG (hi := h_state_Right_1) (l := []) (t := []) ti_ok hmix trivial trivial f_142 (by kernel_rfl) (by kernel_rfl) trivial fun ys => by kernel_rfl
def c_state_side : CS := ⟨76, 141, ⟨[.agg [.d (.sl t_api_Block), .d (.ar 16 tI)], .agg q_3, .one (.f 142 [])], []⟩, [.one (.d tB)], true, []⟩
def h_state_side : Hi := ⟨[((3, 8), c_state_Right_1), ((3, 14), c_state_within), ((3, 24), c_state_within), ((3, 29), c_state_within)], [], [11, 19, 35, 46], [], []⟩
theorem f_141 : Fn Q 141 f141 (codeOf f141) := ⟨by kernel_rfl, by kernel_rfl, by kernel_rfl, by kernel_rfl, by kernel_rfl⟩
noncomputable def state_side (N : Nat) (x0 : api_Split) (x1 : api_Side) : Option Rs :=
 bi (decide (x1.Pos.Block < 0)) (
  some (0, gB.dv false [])) <|
 bi (decide (x1.Pos.Block ≥ (len x0.Blocks))) (
  some (0, gB.dv false [])) <|
 gd (idx x1.Pos.Block (List.length x0.Blocks)) <|
 on1 (state_Right_1 N (List.getD x0.Blocks x1.Pos.Block.toNat api_Block.z)) <| gg [pD (.sl t_api_Cell)] <| fun (x2 : List api_Cell) => 
 on1 (state_within N 0 (len x2) [x1.Pos.Index]) <| gg [pB] <| fun (x3 : Bool) => 
 bi x3 (
  on1 (state_within N 0 1099511627776 [x1.Pos.Base, x1.Wait, x1.Done]) <| gg [pB] <| fun (x4 : Bool) => 
  bi x4 (
   on1 (state_within N (-1 : Int) 1099511627776 (List.take (16 - 0) (List.drop 0 x1.Ready))) <| gg [pB] <| fun (x5 : Bool) => 
   some (0, gB.dv x5 [])) <|
  some (0, gB.dv false [])) <|
 some (0, gB.dv false [])
noncomputable def X_state_side (N : Nat) : CE := (c_state_side, mkF [p_api_Split, p_api_Side] [pB] (state_side N))
theorem Y_state_side (N : Nat) : CEok Q (X_state_side N) :=
 fnG (hi := h_state_side) (l := [X_state_Right_1 N, X_state_within N]) (t := []) ti_ok hmix ⟨Y_state_Right_1 N, Y_state_within N, trivial⟩ ⟨rfl, rfl, rfl, rfl, trivial⟩ f_141 (by kernel_rfl) (by kernel_rfl) trivial fun ys => by kernel_rfl
def c_state_Right_2 : CS := ⟨77, 143, ⟨[.agg q_6], []⟩, [.one (.d (.sl t_api_Cell))], true, []⟩
def h_state_Right_2 : Hi := ⟨[], [], [], [], []⟩
theorem f_143 : Fn Q 143 f143 (codeOf f143) := ⟨by kernel_rfl, by kernel_rfl, by kernel_rfl, by kernel_rfl, by kernel_rfl⟩
noncomputable def state_Right_2 (N : Nat) (x0 : api_Block) : Option Rs :=
 some (0, (gD (.sl t_api_Cell)).dv x0.2.2.2.2.2.1 [])
noncomputable def X_state_Right_2 (N : Nat) : CE := (c_state_Right_2, mkF [p_api_Block] [pD (.sl t_api_Cell)] (state_Right_2 N))
theorem Y_state_Right_2 (N : Nat) : CEok Q (X_state_Right_2 N) :=
 fnG (hi := h_state_Right_2) (l := []) (t := []) ti_ok hmix trivial trivial f_143 (by kernel_rfl) (by kernel_rfl) trivial fun ys => by kernel_rfl
def c_state_side_2 : CS := ⟨78, 141, ⟨[.agg [.d (.sl t_api_Block), .d (.ar 16 tI)], .agg q_3, .one (.f 143 [])], []⟩, [.one (.d tB)], true, []⟩
def h_state_side_2 : Hi := ⟨[((3, 8), c_state_Right_2), ((3, 14), c_state_within), ((3, 24), c_state_within), ((3, 29), c_state_within)], [], [11, 19, 35, 46], [], []⟩
noncomputable def state_side_2 (N : Nat) (x0 : api_Split) (x1 : api_Side) : Option Rs :=
 bi (decide (x1.Pos.Block < 0)) (
  some (0, gB.dv false [])) <|
 bi (decide (x1.Pos.Block ≥ (len x0.Blocks))) (
  some (0, gB.dv false [])) <|
 gd (idx x1.Pos.Block (List.length x0.Blocks)) <|
 on1 (state_Right_2 N (List.getD x0.Blocks x1.Pos.Block.toNat api_Block.z)) <| gg [pD (.sl t_api_Cell)] <| fun (x2 : List api_Cell) => 
 on1 (state_within N 0 (len x2) [x1.Pos.Index]) <| gg [pB] <| fun (x3 : Bool) => 
 bi x3 (
  on1 (state_within N 0 1099511627776 [x1.Pos.Base, x1.Wait, x1.Done]) <| gg [pB] <| fun (x4 : Bool) => 
  bi x4 (
   on1 (state_within N (-1 : Int) 1099511627776 (List.take (16 - 0) (List.drop 0 x1.Ready))) <| gg [pB] <| fun (x5 : Bool) => 
   some (0, gB.dv x5 [])) <|
  some (0, gB.dv false [])) <|
 some (0, gB.dv false [])
noncomputable def X_state_side_2 (N : Nat) : CE := (c_state_side_2, mkF [p_api_Split, p_api_Side] [pB] (state_side_2 N))
theorem Y_state_side_2 (N : Nat) : CEok Q (X_state_side_2 N) :=
 fnG (hi := h_state_side_2) (l := [X_state_Right_2 N, X_state_within N]) (t := []) ti_ok hmix ⟨Y_state_Right_2 N, Y_state_within N, trivial⟩ ⟨rfl, rfl, rfl, rfl, trivial⟩ f_141 (by kernel_rfl) (by kernel_rfl) trivial fun ys => by kernel_rfl
def c_state_queues : CS := ⟨79, 145, ⟨[.agg q_5, .agg q_0], []⟩, [.one (.d tB)], true, []⟩
def h_state_queues : Hi := ⟨[], [], [11, 19, 27, 35, 43, 51, 59], [], []⟩
theorem f_145 : Fn Q 145 f145 (codeOf f145) := ⟨by kernel_rfl, by kernel_rfl, by kernel_rfl, by kernel_rfl, by kernel_rfl⟩
noncomputable def state_queues (N : Nat) (x0 : api_Config) (x1 : api_State) : Option Rs :=
 bi (decide ((len x1.Ldq) ≤ x0.Ldq)) (
  bi (decide ((len x1.Sdq) ≤ x0.Sdq)) (
   bi (decide ((len x1.Aeq) ≤ x0.Aeq)) (
    bi (decide ((len x1.Abq) ≤ x0.Abq)) (
     bi (decide ((len x1.Ebq) ≤ x0.Ebq)) (
      bi (decide ((len x1.Saq) ≤ x0.Saq)) (
       bi (decide ((len x1.Table) ≤ x0.Flight)) (
        some (0, gB.dv (decide ((len x1.Mem) ≤ 65536)) [])) <|
       some (0, gB.dv false [])) <|
      some (0, gB.dv false [])) <|
     some (0, gB.dv false [])) <|
    some (0, gB.dv false [])) <|
   some (0, gB.dv false [])) <|
  some (0, gB.dv false [])) <|
 some (0, gB.dv false [])
noncomputable def X_state_queues (N : Nat) : CE := (c_state_queues, mkF [p_api_Config, p_api_State] [pB] (state_queues N))
theorem Y_state_queues (N : Nat) : CEok Q (X_state_queues N) :=
 fnG (hi := h_state_queues) (l := []) (t := []) ti_ok hmix trivial trivial f_145 (by kernel_rfl) (by kernel_rfl) trivial fun ys => by kernel_rfl
def c_bytes_Size : CS := ⟨80, 229, ⟨[.one (.d tI)], []⟩, [.one (.d tI)], true, []⟩
def h_bytes_Size : Hi := ⟨[], [], [4, 7, 11], [], []⟩
theorem f_229 : Fn Q 229 f229 (codeOf f229) := ⟨by kernel_rfl, by kernel_rfl, by kernel_rfl, by kernel_rfl, by kernel_rfl⟩
noncomputable def bytes_Size (N : Nat) (x0 : Int) : Option Rs :=
 bi (x0 == 26) (
  some (0, gI.dv 4 [])) <|
 bi (x0 == 31) (
  some (0, gI.dv 4 [])) <|
 bi (x0 == 27) (
  some (0, gI.dv 2 [])) <|
 bi (x0 == 28) (
  some (0, gI.dv 2 [])) <|
 bi (x0 == 32) (
  some (0, gI.dv 2 [])) <|
 bi (x0 == 29) (
  some (0, gI.dv 1 [])) <|
 bi (x0 == 30) (
  some (0, gI.dv 1 [])) <|
 bi (x0 == 33) (
  some (0, gI.dv 1 [])) <|
 some (0, gI.dv 0 [])
noncomputable def X_bytes_Size (N : Nat) : CE := (c_bytes_Size, mkF [pI] [pI] (bytes_Size N))
theorem Y_bytes_Size (N : Nat) : CEok Q (X_bytes_Size N) :=
 fnG (hi := h_bytes_Size) (l := []) (t := []) ti_ok hmix trivial trivial f_229 (by kernel_rfl) (by kernel_rfl) trivial fun ys => by kernel_rfl
def c_bytes_Check : CS := ⟨81, 260, ⟨[.one (.d tI), .one (.d tW), .one (.d tI)], []⟩, [.one (.d tI)], true, []⟩
def h_bytes_Check : Hi := ⟨[], [], [10, 13, 19, 22, 26, 34, 37], [], []⟩
theorem f_260 : Fn Q 260 f260 (codeOf f260) := ⟨by kernel_rfl, by kernel_rfl, by kernel_rfl, by kernel_rfl, by kernel_rfl⟩
noncomputable def bytes_Check (N : Nat) (x0 : Int) (x1 : Int) (x2 : Int) : Option Rs :=
 bi (decide (x0 ≥ 1)) (
  gf (decide (x0 = 0)) <|
  bi ((Int.tmod (w.i64 x1) x0) != 0) (
   some (0, gI.dv 1 [])) <|
  bi (decide (x0 > 0)) (
   bi (decide (x0 > x2)) (
    some (0, gI.dv 2 [])) <|
   bi (decide ((w.i64 x1) > (w.i64 (x2 - x0)))) (
    some (0, gI.dv 2 [])) <|
   bi (decide (x0 ≤ 0)) (
    bi (decide ((w.i64 ((w.i64 x1) + x0)) > x2)) (
     some (0, gI.dv 2 [])) <|
    some (0, gI.dv 0 [])) <|
   some (0, gI.dv 0 [])) <|
  bi (decide (x0 ≤ 0)) (
   bi (decide ((w.i64 ((w.i64 x1) + x0)) > x2)) (
    some (0, gI.dv 2 [])) <|
   some (0, gI.dv 0 [])) <|
  some (0, gI.dv 0 [])) <|
 bi (decide (x0 > 0)) (
  bi (decide (x0 > x2)) (
   some (0, gI.dv 2 [])) <|
  bi (decide ((w.i64 x1) > (w.i64 (x2 - x0)))) (
   some (0, gI.dv 2 [])) <|
  bi (decide (x0 ≤ 0)) (
   bi (decide ((w.i64 ((w.i64 x1) + x0)) > x2)) (
    some (0, gI.dv 2 [])) <|
   some (0, gI.dv 0 [])) <|
  some (0, gI.dv 0 [])) <|
 bi (decide (x0 ≤ 0)) (
  bi (decide ((w.i64 ((w.i64 x1) + x0)) > x2)) (
   some (0, gI.dv 2 [])) <|
  some (0, gI.dv 0 [])) <|
 some (0, gI.dv 0 [])
noncomputable def X_bytes_Check (N : Nat) : CE := (c_bytes_Check, mkF [pI, pW, pI] [pI] (bytes_Check N))
theorem Y_bytes_Check (N : Nat) : CEok Q (X_bytes_Check N) :=
 fnG (hi := h_bytes_Check) (l := []) (t := []) ti_ok hmix trivial trivial f_260 (by kernel_rfl) (by kernel_rfl) trivial fun ys => by kernel_rfl
def c_state_place : CS := ⟨82, 216, ⟨[.one (.d (.sl tU)), .one (.d tI), .one (.d tI)], []⟩, [.one (.d tB)], true, []⟩
def h_state_place : Hi := ⟨[((1, 26), c_bytes_Check)], [], [9, 13, 17, 21, 27], [], []⟩
theorem f_216 : Fn Q 216 f216 (codeOf f216) := ⟨by kernel_rfl, by kernel_rfl, by kernel_rfl, by kernel_rfl, by kernel_rfl⟩
noncomputable def state_place (N : Nat) (x0 : List Int) (x1 : Int) (x2 : Int) : Option Rs :=
 bi (x2 == 1) (
  bi (decide (x1 ≥ 0)) (
   bi (decide (x1 ≤ (len x0))) (
    on1 (bytes_Check N x2 (w.u32 x1) (len x0)) <| gg [pI] <| fun (x3 : Int) => 
    some (0, gB.dv (x3 == 0) [])) <|
   some (0, gB.dv false [])) <|
  some (0, gB.dv false [])) <|
 bi (x2 == 2) (
  bi (decide (x1 ≥ 0)) (
   bi (decide (x1 ≤ (len x0))) (
    on1 (bytes_Check N x2 (w.u32 x1) (len x0)) <| gg [pI] <| fun (x4 : Int) => 
    some (0, gB.dv (x4 == 0) [])) <|
   some (0, gB.dv false [])) <|
  some (0, gB.dv false [])) <|
 bi (x2 == 4) (
  bi (decide (x1 ≥ 0)) (
   bi (decide (x1 ≤ (len x0))) (
    on1 (bytes_Check N x2 (w.u32 x1) (len x0)) <| gg [pI] <| fun (x5 : Int) => 
    some (0, gB.dv (x5 == 0) [])) <|
   some (0, gB.dv false [])) <|
  some (0, gB.dv false [])) <|
 some (0, gB.dv false [])
noncomputable def X_state_place (N : Nat) : CE := (c_state_place, mkF [pD (.sl tU), pI, pI] [pB] (state_place N))
theorem Y_state_place (N : Nat) : CEok Q (X_state_place N) :=
 fnG (hi := h_state_place) (l := [X_bytes_Check N]) (t := []) ti_ok hmix ⟨Y_bytes_Check N, trivial⟩ ⟨rfl, trivial⟩ f_216 (by kernel_rfl) (by kernel_rfl) trivial fun ys => by kernel_rfl
def c_state_request : CS := ⟨83, 219, ⟨[.one (.d (.sl tU)), .agg [.d tB, .d tI, .d tI, .d tI, .d tW, .d tI, .d tI, .d tI]], []⟩, [.one (.d tB)], true, []⟩
def h_state_request : Hi := ⟨[((4, 4), c_bytes_Size), ((4, 12), c_state_within), ((4, 20), c_state_place), ((4, 26), c_state_within), ((4, 32), c_state_within)], [], [8, 15, 23, 31, 37], [], []⟩
theorem f_219 : Fn Q 219 f219 (codeOf f219) := ⟨by kernel_rfl, by kernel_rfl, by kernel_rfl, by kernel_rfl, by kernel_rfl⟩
noncomputable def state_request (N : Nat) (x0 : List Int) (x1 : api_Request) : Option Rs :=
 bi x1.1 (
  on1 (bytes_Size N x1.2.1) <| gg [pI] <| fun (x2 : Int) => 
  bi (x1.2.2.2.1 == x2) (
   on1 (state_within N 31 33 [x1.2.1]) <| gg [pB] <| fun (x3 : Bool) => 
   bi x3 (
    on1 (state_place N x0 x1.2.2.1 x1.2.2.2.1) <| gg [pB] <| fun (x4 : Bool) => 
    bi x4 (
     on1 (state_within N 0 1000 [x1.2.2.2.2.2.1]) <| gg [pB] <| fun (x5 : Bool) => 
     bi x5 (
      on1 (state_within N (-1 : Int) 15 [x1.2.2.2.2.2.2.1]) <| gg [pB] <| fun (x6 : Bool) => 
      some (0, gB.dv x6 [])) <|
     some (0, gB.dv false [])) <|
    some (0, gB.dv false [])) <|
   some (0, gB.dv false [])) <|
  some (0, gB.dv false [])) <|
 on1 (bytes_Size N x1.2.1) <| gg [pI] <| fun (x7 : Int) => 
 bi (x1.2.2.2.1 == x7) (
  on1 (state_within N 26 30 [x1.2.1]) <| gg [pB] <| fun (x8 : Bool) => 
  bi x8 (
   on1 (state_place N x0 x1.2.2.1 x1.2.2.2.1) <| gg [pB] <| fun (x9 : Bool) => 
   bi x9 (
    on1 (state_within N 0 1000 [x1.2.2.2.2.2.1]) <| gg [pB] <| fun (x10 : Bool) => 
    bi x10 (
     on1 (state_within N (-1 : Int) 15 [x1.2.2.2.2.2.2.1]) <| gg [pB] <| fun (x11 : Bool) => 
     some (0, gB.dv x11 [])) <|
    some (0, gB.dv false [])) <|
   some (0, gB.dv false [])) <|
  some (0, gB.dv false [])) <|
 some (0, gB.dv false [])
noncomputable def X_state_request (N : Nat) : CE := (c_state_request, mkF [pD (.sl tU), p_api_Request] [pB] (state_request N))
theorem Y_state_request (N : Nat) : CEok Q (X_state_request N) :=
 fnG (hi := h_state_request) (l := [X_bytes_Size N, X_state_within N, X_state_place N]) (t := []) ti_ok hmix ⟨Y_bytes_Size N, Y_state_within N, Y_state_place N, trivial⟩ ⟨rfl, rfl, rfl, rfl, rfl, trivial⟩ f_219 (by kernel_rfl) (by kernel_rfl) trivial fun ys => by kernel_rfl
def c_state_stores_1 : CS := ⟨84, 218, ⟨[.agg [.d tB, .d tI, .d tI, .d tI, .d tW, .d tI, .d tI, .d tI], .one (.p 0 0 [1, 16, 16, 1, 1, 1, 1, 1, 1, 16, 16, 1, 1, 1, 1, 1, 1, 1, 1, 1, 1, 1, 1, 1, 1, 1, 1, 1, 1, 1, 1, 1])], [q_0]⟩, [.one (.d tB)], true, [q_0]⟩
def h_state_stores_1 : Hi := ⟨[((1, 3), c_state_request)], [], [], [], []⟩
theorem f_218 : Fn Q 218 f218 (codeOf f218) := ⟨by kernel_rfl, by kernel_rfl, by kernel_rfl, by kernel_rfl, by kernel_rfl⟩
noncomputable def state_stores_1 (N : Nat) (x0 : api_Request) (x1 : api_State) : Option Rs :=
 on1 (state_request N x1.Mem x0) <| gg [pB] <| fun (x2 : Bool) => 
 some (0, gB.dv (!x2) (g_api_State.dv x1 []))
noncomputable def X_state_stores_1 (N : Nat) : CE := (c_state_stores_1, mkF [p_api_Request, p_api_State] [pB, p_api_State] (state_stores_1 N))
theorem Y_state_stores_1 (N : Nat) : CEok Q (X_state_stores_1 N) :=
 fnG (hi := h_state_stores_1) (l := [X_state_request N]) (t := []) ti_ok hmix ⟨Y_state_request N, trivial⟩ ⟨rfl, trivial⟩ f_218 (by kernel_rfl) (by kernel_rfl) trivial fun ys => by kernel_rfl
def c_sl_IndexFunc_api_Request : CS := ⟨85, 261, ⟨[.one (.d (.sl t_api_Request)), .one (.f 218 [⟨0, 0, [1, 16, 16, 1, 1, 1, 1, 1, 1, 16, 16, 1, 1, 1, 1, 1, 1, 1, 1, 1, 1, 1, 1, 1, 1, 1, 1, 1, 1, 1, 1, 1]⟩])], [q_0]⟩, [.one (.d tI)], true, [q_0]⟩
def s_sl_IndexFunc_api_Request_0 : LS := ⟨⟨[.one (.d (.sl t_api_Request)), .one (.f 218 [⟨0, 0, [1, 16, 16, 1, 1, 1, 1, 1, 1, 16, 16, 1, 1, 1, 1, 1, 1, 1, 1, 1, 1, 1, 1, 1, 1, 1, 1, 1, 1, 1, 1, 1]⟩]), .no, .no, .no, .no, .no, .one (.d tI), .one (.d tI)] ++ nos 10, [q_0]⟩, [(0, ⟨[.no, .no, .no, .no, .one (.d tI)] ++ nos 14, [q_0]⟩), (1, ⟨nos 19, [q_0]⟩)]⟩
def h_sl_IndexFunc_api_Request : Hi := ⟨[((4, 5), c_state_stores_1)], [(0, s_sl_IndexFunc_api_Request_0)], [9, 16], [], []⟩
theorem f_261 : Fn Q 261 f261 (codeOf f261) := ⟨by kernel_rfl, by kernel_rfl, by kernel_rfl, by kernel_rfl, by kernel_rfl⟩
noncomputable def T_sl_IndexFunc_api_Request (N : Nat) : List CE := [X_state_stores_1 N]
theorem TT_sl_IndexFunc_api_Request (N : Nat) : AllP (CEok Q) (T_sl_IndexFunc_api_Request N) := ⟨Y_state_stores_1 N, trivial⟩
theorem A_sl_IndexFunc_api_Request (N : Nat) : AllP (fun e => lookC (T_sl_IndexFunc_api_Request N) e.2.id = some e.2) h_sl_IndexFunc_api_Request.cs := ⟨rfl, trivial⟩
noncomputable def sl_IndexFunc_api_Request_r0 (N : Nat) (again : Fn' (Option Rs) [pD (.sl t_api_Request), pI, pI, p_api_State]) (x0 : List api_Request) (x1 : Int) (x2 : Int) (x3 : api_State) : Option Rs :=
 bi (decide (x2 < x1)) (
  gd (idx x2 (List.length x0)) <|
  on1 (state_stores_1 N (List.getD x0 x2.toNat api_Request.z) x3) <| gg [pB, p_api_State] <| fun (x4 : Bool) (x5 : api_State) => 
  bi x4 (
   some (0, gI.dv x2 (g_api_State.dv x5 []))) <|
  again x0 x1 (w.i64 (x2 + 1)) x5) <|
 some (1, g_api_State.dv x3 [])
noncomputable def sl_IndexFunc_api_Request_l0 (N : Nat) : Nat → Fn' (Option Rs) [pD (.sl t_api_Request), pI, pI, p_api_State] := lpG (sl_IndexFunc_api_Request_r0 N)
noncomputable def L_sl_IndexFunc_api_Request_0 (N : Nat) : LE := (0, mkM [pD (.sl t_api_Request), pI, pI, p_api_State] [(0, [pI, p_api_State]), (1, [p_api_State])] (sl_IndexFunc_api_Request_l0 N N))
theorem K_sl_IndexFunc_api_Request_0 (N : Nat) : LEok Q h_sl_IndexFunc_api_Request (bodOf f261) f261.ntmps 1 (L_sl_IndexFunc_api_Request_0 N) :=
 loopG (hi := h_sl_IndexFunc_api_Request) (l := T_sl_IndexFunc_api_Request N) (t := []) (r := sl_IndexFunc_api_Request_r0 N) ti_ok hmix (TT_sl_IndexFunc_api_Request N) (A_sl_IndexFunc_api_Request N) f_261 trivial (ls := s_sl_IndexFunc_api_Request_0) (body := bodyAt f261 0) (by kernel_rfl) (by kernel_rfl) fun A ys => by kernel_rfl
noncomputable def sl_IndexFunc_api_Request (N : Nat) (x0 : List api_Request) (x1 : api_State) : Option Rs :=
 onB 0 1 (sl_IndexFunc_api_Request_l0 N N x0 (len x0) 0 x1) (gg [pI, p_api_State] <| fun (x2 : Int) (x3 : api_State) => 
  some (0, gI.dv x2 (g_api_State.dv x3 []))) <| gg [p_api_State] <| fun (x4 : api_State) => 
 some (0, gI.dv (-1 : Int) (g_api_State.dv x4 []))
noncomputable def X_sl_IndexFunc_api_Request (N : Nat) : CE := (c_sl_IndexFunc_api_Request, mkF [pD (.sl t_api_Request), p_api_State] [pI, p_api_State] (sl_IndexFunc_api_Request N))
theorem Y_sl_IndexFunc_api_Request (N : Nat) : CEok Q (X_sl_IndexFunc_api_Request N) :=
 fnG (hi := h_sl_IndexFunc_api_Request) (l := T_sl_IndexFunc_api_Request N) (t := [L_sl_IndexFunc_api_Request_0 N]) ti_ok hmix (TT_sl_IndexFunc_api_Request N) (A_sl_IndexFunc_api_Request N) f_261 (by kernel_rfl) (by kernel_rfl) ⟨K_sl_IndexFunc_api_Request_0 N, trivial⟩ fun ys => by kernel_rfl
def c_sl_ContainsFunc_api_Request : CS := ⟨86, 217, ⟨[.one (.d (.sl t_api_Request)), .one (.f 218 [⟨0, 0, [1, 16, 16, 1, 1, 1, 1, 1, 1, 16, 16, 1, 1, 1, 1, 1, 1, 1, 1, 1, 1, 1, 1, 1, 1, 1, 1, 1, 1, 1, 1, 1]⟩])], [q_0]⟩, [.one (.d tB)], true, [q_0]⟩
def h_sl_ContainsFunc_api_Request : Hi := ⟨[((1, 2), c_sl_IndexFunc_api_Request)], [], [], [], []⟩
theorem f_217 : Fn Q 217 f217 (codeOf f217) := ⟨by kernel_rfl, by kernel_rfl, by kernel_rfl, by kernel_rfl, by kernel_rfl⟩
noncomputable def sl_ContainsFunc_api_Request (N : Nat) (x0 : List api_Request) (x1 : api_State) : Option Rs :=
 on1 (sl_IndexFunc_api_Request N x0 x1) <| gg [pI, p_api_State] <| fun (x2 : Int) (x3 : api_State) => 
 some (0, gB.dv (decide (x2 ≥ 0)) (g_api_State.dv x3 []))
noncomputable def X_sl_ContainsFunc_api_Request (N : Nat) : CE := (c_sl_ContainsFunc_api_Request, mkF [pD (.sl t_api_Request), p_api_State] [pB, p_api_State] (sl_ContainsFunc_api_Request N))
theorem Y_sl_ContainsFunc_api_Request (N : Nat) : CEok Q (X_sl_ContainsFunc_api_Request N) :=
 fnG (hi := h_sl_ContainsFunc_api_Request) (l := [X_sl_IndexFunc_api_Request N]) (t := []) ti_ok hmix ⟨Y_sl_IndexFunc_api_Request N, trivial⟩ ⟨rfl, trivial⟩ f_217 (by kernel_rfl) (by kernel_rfl) trivial fun ys => by kernel_rfl
def c_state_sent : CS := ⟨87, 220, ⟨[.agg q_0], []⟩, [.one (.d tB)], true, []⟩
def s_state_sent_0 : LS := ⟨⟨[.no, .one (.p 0 0 [1, 16, 16, 1, 1, 1, 1, 1, 1, 16, 16, 1, 1, 1, 1, 1, 1, 1, 1, 1, 1, 1, 1, 1, 1, 1, 1, 1, 1, 1, 1, 1]), .no, .one (.d tI), .no, .no, .no, .one (.d (.sl t_api_Request)), .one (.d tI), .one (.d tI)] ++ nos 48, [q_0]⟩, [(0, ⟨[.no, .no, .one (.d tB)] ++ nos 55, []⟩), (1, ⟨[.no, .one (.p 0 0 [1, 16, 16, 1, 1, 1, 1, 1, 1, 16, 16, 1, 1, 1, 1, 1, 1, 1, 1, 1, 1, 1, 1, 1, 1, 1, 1, 1, 1, 1, 1, 1]), .no, .one (.d tI)] ++ nos 54, [q_0]⟩)]⟩
def h_state_sent : Hi := ⟨[], [(0, s_state_sent_0)], [10, 15, 22, 32, 41, 47, 53], [], []⟩
theorem f_220 : Fn Q 220 f220 (codeOf f220) := ⟨by kernel_rfl, by kernel_rfl, by kernel_rfl, by kernel_rfl, by kernel_rfl⟩
noncomputable def T_state_sent (N : Nat) : List CE := []
theorem TT_state_sent (N : Nat) : AllP (CEok Q) (T_state_sent N) := trivial
theorem A_state_sent (N : Nat) : AllP (fun e => lookC (T_state_sent N) e.2.id = some e.2) h_state_sent.cs := trivial
noncomputable def state_sent_r0 (N : Nat) (again : Fn' (Option Rs) [pI, pD (.sl t_api_Request), pI, pI, p_api_State]) (x0 : Int) (x1 : List api_Request) (x2 : Int) (x3 : Int) (x4 : api_State) : Option Rs :=
 bi (decide (x3 < x2)) (
  gd (idx x3 (List.length x1)) <|
  bi (!(List.getD x1 x3.toNat api_Request.z).1) (
   again x0 x1 x2 (w.i64 (x3 + 1)) x4) <|
  bi ((len x4.Saq) == 0) (
   some (0, gB.dv false [])) <|
  gd (idx 0 (List.length x4.Saq)) <|
  bi ((List.getD x1 x3.toNat api_Request.z).2.2.1 != (List.getD x4.Saq 0 api_Entry.z).1) (
   some (0, gB.dv false [])) <|
  gd (idx 0 (List.length x4.Saq)) <|
  bi ((List.getD x1 x3.toNat api_Request.z).2.2.2.1 != (List.getD x4.Saq 0 api_Entry.z).2.1) (
   some (0, gB.dv false [])) <|
  again (w.i64 (x0 + 1)) x1 x2 (w.i64 (x3 + 1)) x4) <|
 some (1, gI.dv x0 (g_api_State.dv x4 []))
noncomputable def state_sent_l0 (N : Nat) : Nat → Fn' (Option Rs) [pI, pD (.sl t_api_Request), pI, pI, p_api_State] := lpG (state_sent_r0 N)
noncomputable def L_state_sent_0 (N : Nat) : LE := (0, mkM [pI, pD (.sl t_api_Request), pI, pI, p_api_State] [(0, [pB]), (1, [pI, p_api_State])] (state_sent_l0 N N))
theorem K_state_sent_0 (N : Nat) : LEok Q h_state_sent (bodOf f220) f220.ntmps 0 (L_state_sent_0 N) :=
 loopG (hi := h_state_sent) (l := T_state_sent N) (t := []) (r := state_sent_r0 N) ti_ok hmix (TT_state_sent N) (A_state_sent N) f_220 trivial (ls := s_state_sent_0) (body := bodyAt f220 0) (by kernel_rfl) (by kernel_rfl) fun A ys => by kernel_rfl
noncomputable def state_sent (N : Nat) (x0 : api_State) : Option Rs :=
 onB 0 1 (state_sent_l0 N N 0 x0.Table (len x0.Table) 0 x0) (gg [pB] <| fun (x1 : Bool) => 
  some (0, gB.dv x1 [])) <| gg [pI, p_api_State] <| fun (x2 : Int) (x3 : api_State) => 
 bi (decide ((len x3.Saq) > 0)) (
  gd (idx 0 (List.length x3.Saq)) <|
  bi ((List.getD x3.Saq 0 api_Entry.z).2.2.2.1) (
   some (0, gB.dv (x2 == 1) [])) <|
  some (0, gB.dv (x2 == 0) [])) <|
 some (0, gB.dv (x2 == 0) [])
noncomputable def X_state_sent (N : Nat) : CE := (c_state_sent, mkF [p_api_State] [pB] (state_sent N))
theorem Y_state_sent (N : Nat) : CEok Q (X_state_sent N) :=
 fnG (hi := h_state_sent) (l := T_state_sent N) (t := [L_state_sent_0 N]) ti_ok hmix (TT_state_sent N) (A_state_sent N) f_220 (by kernel_rfl) (by kernel_rfl) ⟨K_state_sent_0 N, trivial⟩ fun ys => by kernel_rfl
def c_state_stores : CS := ⟨88, 146, ⟨[.agg q_0], []⟩, [.one (.d tB)], true, []⟩
def s_state_stores_0 : LS := ⟨⟨[.no, .one (.p 0 0 [1, 16, 16, 1, 1, 1, 1, 1, 1, 16, 16, 1, 1, 1, 1, 1, 1, 1, 1, 1, 1, 1, 1, 1, 1, 1, 1, 1, 1, 1, 1, 1]), .no, .no, .no, .no, .one (.d (.sl t_api_Entry)), .one (.d tI), .one (.d tI)] ++ nos 37, [q_0]⟩, [(0, ⟨[.no, .no, .one (.d tB)] ++ nos 43, []⟩), (1, ⟨[.no, .one (.p 0 0 [1, 16, 16, 1, 1, 1, 1, 1, 1, 16, 16, 1, 1, 1, 1, 1, 1, 1, 1, 1, 1, 1, 1, 1, 1, 1, 1, 1, 1, 1, 1, 1])] ++ nos 44, [q_0]⟩)]⟩
def h_state_stores : Hi := ⟨[((4, 6), c_state_place), ((4, 12), c_state_within), ((7, 3), c_sl_ContainsFunc_api_Request), ((7, 7), c_state_sent)], [(0, s_state_stores_0)], [9, 21, 28, 31, 35, 42], [], []⟩
theorem f_146 : Fn Q 146 f146 (codeOf f146) := ⟨by kernel_rfl, by kernel_rfl, by kernel_rfl, by kernel_rfl, by kernel_rfl⟩
noncomputable def T_state_stores (N : Nat) : List CE := [X_state_place N, X_state_within N, X_sl_ContainsFunc_api_Request N, X_state_sent N]
theorem TT_state_stores (N : Nat) : AllP (CEok Q) (T_state_stores N) := ⟨Y_state_place N, Y_state_within N, Y_sl_ContainsFunc_api_Request N, Y_state_sent N, trivial⟩
theorem A_state_stores (N : Nat) : AllP (fun e => lookC (T_state_stores N) e.2.id = some e.2) h_state_stores.cs := ⟨rfl, rfl, rfl, rfl, trivial⟩
noncomputable def state_stores_r0 (N : Nat) (again : Fn' (Option Rs) [pD (.sl t_api_Entry), pI, pI, p_api_State]) (x0 : List api_Entry) (x1 : Int) (x2 : Int) (x3 : api_State) : Option Rs :=
 bi (decide (x2 < x1)) (
  gd (idx x2 (List.length x0)) <|
  on1 (state_place N x3.Mem ((List.getD x0 x2.toNat api_Entry.z).1) ((List.getD x0 x2.toNat api_Entry.z).2.1)) <| gg [pB] <| fun (x4 : Bool) => 
  bi (!x4) (
   some (0, gB.dv false [])) <|
  on1 (state_within N 0 1099511627776 [(List.getD x0 x2.toNat api_Entry.z).2.2.1]) <| gg [pB] <| fun (x5 : Bool) => 
  bi (!x5) (
   some (0, gB.dv false [])) <|
  bi ((List.getD x0 x2.toNat api_Entry.z).2.2.2.1) (
   bi (decide (x2 > 0)) (
    some (0, gB.dv false [])) <|
   again x0 x1 (w.i64 (x2 + 1)) x3) <|
  again x0 x1 (w.i64 (x2 + 1)) x3) <|
 some (1, g_api_State.dv x3 [])
noncomputable def state_stores_l0 (N : Nat) : Nat → Fn' (Option Rs) [pD (.sl t_api_Entry), pI, pI, p_api_State] := lpG (state_stores_r0 N)
noncomputable def L_state_stores_0 (N : Nat) : LE := (0, mkM [pD (.sl t_api_Entry), pI, pI, p_api_State] [(0, [pB]), (1, [p_api_State])] (state_stores_l0 N N))
theorem K_state_stores_0 (N : Nat) : LEok Q h_state_stores (bodOf f146) f146.ntmps 0 (L_state_stores_0 N) :=
 loopG (hi := h_state_stores) (l := T_state_stores N) (t := []) (r := state_stores_r0 N) ti_ok hmix (TT_state_stores N) (A_state_stores N) f_146 trivial (ls := s_state_stores_0) (body := bodyAt f146 0) (by kernel_rfl) (by kernel_rfl) fun A ys => by kernel_rfl
noncomputable def state_stores (N : Nat) (x0 : api_State) : Option Rs :=
 onB 0 1 (state_stores_l0 N N x0.Saq (len x0.Saq) 0 x0) (gg [pB] <| fun (x1 : Bool) => 
  some (0, gB.dv x1 [])) <| gg [p_api_State] <| fun (x2 : api_State) => 
 on1 (sl_ContainsFunc_api_Request N x2.Table x2) <| gg [pB, p_api_State] <| fun (x3 : Bool) (x4 : api_State) => 
 bi (!x3) (
  on1 (state_sent N x4) <| gg [pB] <| fun (x5 : Bool) => 
  some (0, gB.dv x5 [])) <|
 some (0, gB.dv false [])
noncomputable def X_state_stores (N : Nat) : CE := (c_state_stores, mkF [p_api_State] [pB] (state_stores N))
theorem Y_state_stores (N : Nat) : CEok Q (X_state_stores N) :=
 fnG (hi := h_state_stores) (l := T_state_stores N) (t := [L_state_stores_0 N]) ti_ok hmix (TT_state_stores N) (A_state_stores N) f_146 (by kernel_rfl) (by kernel_rfl) ⟨K_state_stores_0 N, trivial⟩ fun ys => by kernel_rfl
def c_state_trap : CS := ⟨89, 147, ⟨[.agg [.d tI, .d tI, .d tI]], []⟩, [.one (.d tB)], true, []⟩
def h_state_trap : Hi := ⟨[((3, 3), c_state_within), ((3, 10), c_state_within)], [], [5, 9, 18], [], []⟩
theorem f_147 : Fn Q 147 f147 (codeOf f147) := ⟨by kernel_rfl, by kernel_rfl, by kernel_rfl, by kernel_rfl, by kernel_rfl⟩
noncomputable def state_trap (N : Nat) (x0 : api_Trap) : Option Rs :=
 bi (x0.Kind == 0) (
  bi (x0.Step == 0) (
   some (0, gB.dv (x0.Pc == 0) [])) <|
  some (0, gB.dv false [])) <|
 on1 (state_within N 1 4 [x0.Kind]) <| gg [pB] <| fun (x1 : Bool) => 
 bi x1 (
  on1 (state_within N 0 1099511627776 [x0.Step, x0.Pc]) <| gg [pB] <| fun (x2 : Bool) => 
  some (0, gB.dv x2 [])) <|
 some (0, gB.dv false [])
noncomputable def X_state_trap (N : Nat) : CE := (c_state_trap, mkF [p_api_Trap] [pB] (state_trap N))
theorem Y_state_trap (N : Nat) : CEok Q (X_state_trap N) :=
 fnG (hi := h_state_trap) (l := [X_state_within N]) (t := []) ti_ok hmix ⟨Y_state_within N, trivial⟩ ⟨rfl, rfl, trivial⟩ f_147 (by kernel_rfl) (by kernel_rfl) trivial fun ys => by kernel_rfl
def c_state_Right : CS := ⟨90, 81, ⟨[.agg q_5, .agg [.d (.sl t_api_Block), .d (.ar 16 tI)], .agg q_0], []⟩, [.one (.d tB)], true, []⟩
def h_state_Right : Hi := ⟨[((1, 1), c_state_Config), ((1, 6), c_state_side), ((1, 12), c_state_side_2), ((1, 24), c_state_within), ((1, 29), c_state_queues), ((1, 33), c_state_stores), ((1, 38), c_state_trap)], [], [9, 15, 21, 33, 38, 42], [], []⟩
theorem f_81 : Fn Q 81 f81 (codeOf f81) := ⟨by kernel_rfl, by kernel_rfl, by kernel_rfl, by kernel_rfl, by kernel_rfl⟩
noncomputable def state_Right (N : Nat) (x0 : api_Config) (x1 : api_Split) (x2 : api_State) : Option Rs :=
 on1 (state_Config N x0) <| gg [pB] <| fun (x3 : Bool) => 
 bi x3 (
  on1 (state_side N x1 x2.A) <| gg [pB] <| fun (x4 : Bool) => 
  bi x4 (
   on1 (state_side_2 N x1 x2.E) <| gg [pB] <| fun (x5 : Bool) => 
   bi x5 (
    on1 (state_within N 0 1099511627776 [x2.Cycle, x2.Lats, x2.Picks, x2.Tags]) <| gg [pB] <| fun (x6 : Bool) => 
    bi x6 (
     on1 (state_queues N x0 x2) <| gg [pB] <| fun (x7 : Bool) => 
     bi x7 (
      on1 (state_stores N x2) <| gg [pB] <| fun (x8 : Bool) => 
      bi x8 (
       on1 (state_trap N x2.Trap) <| gg [pB] <| fun (x9 : Bool) => 
       some (0, gB.dv x9 [])) <|
      some (0, gB.dv false [])) <|
     some (0, gB.dv false [])) <|
    some (0, gB.dv false [])) <|
   some (0, gB.dv false [])) <|
  some (0, gB.dv false [])) <|
 some (0, gB.dv false [])
noncomputable def X_state_Right (N : Nat) : CE := (c_state_Right, mkF [p_api_Config, p_api_Split, p_api_State] [pB] (state_Right N))
theorem Y_state_Right (N : Nat) : CEok Q (X_state_Right N) :=
 fnG (hi := h_state_Right) (l := [X_state_Config N, X_state_side N, X_state_side_2 N, X_state_within N, X_state_queues N, X_state_stores N, X_state_trap N]) (t := []) ti_ok hmix ⟨Y_state_Config N, Y_state_side N, Y_state_side_2 N, Y_state_within N, Y_state_queues N, Y_state_stores N, Y_state_trap N, trivial⟩ ⟨rfl, rfl, rfl, rfl, rfl, rfl, rfl, trivial⟩ f_81 (by kernel_rfl) (by kernel_rfl) trivial fun ys => by kernel_rfl
def c_front_has : CS := ⟨91, 234, ⟨[.agg [.d (.sl t_api_Block), .d (.ar 16 tI)], .one (.d tI)], []⟩, [.one (.d tB)], true, []⟩
def h_front_has : Hi := ⟨[], [], [7], [], []⟩
theorem f_234 : Fn Q 234 f234 (codeOf f234) := ⟨by kernel_rfl, by kernel_rfl, by kernel_rfl, by kernel_rfl, by kernel_rfl⟩
noncomputable def front_has (N : Nat) (x0 : api_Split) (x1 : Int) : Option Rs :=
 bi (decide (x1 ≥ 0)) (
  some (0, gB.dv (decide (x1 < (len x0.Blocks))) [])) <|
 some (0, gB.dv false [])
noncomputable def X_front_has (N : Nat) : CE := (c_front_has, mkF [p_api_Split, pI] [pB] (front_has N))
theorem Y_front_has (N : Nat) : CEok Q (X_front_has N) :=
 fnG (hi := h_front_has) (l := []) (t := []) ti_ok hmix trivial trivial f_234 (by kernel_rfl) (by kernel_rfl) trivial fun ys => by kernel_rfl
def c_front_cells : CS := ⟨92, 167, ⟨[.agg [.d (.sl t_api_Block), .d (.ar 16 tI)], .one (.d tB), .one (.d tI)], []⟩, [.one (.d (.sl t_api_Cell))], true, []⟩
def h_front_cells : Hi := ⟨[((1, 2), c_front_has)], [], [7, 12], [], []⟩
theorem f_167 : Fn Q 167 f167 (codeOf f167) := ⟨by kernel_rfl, by kernel_rfl, by kernel_rfl, by kernel_rfl, by kernel_rfl⟩
noncomputable def front_cells (N : Nat) (x0 : api_Split) (x1 : Bool) (x2 : Int) : Option Rs :=
 on1 (front_has N x0 x2) <| gg [pB] <| fun (x3 : Bool) => 
 bi (!x3) (
  some (0, (gD (.sl t_api_Cell)).dv ([] : List api_Cell) [])) <|
 bi x1 (
  gd (idx x2 (List.length x0.Blocks)) <|
  some (0, (gD (.sl t_api_Cell)).dv ((List.getD x0.Blocks x2.toNat api_Block.z).2.2.2.2.2.1) [])) <|
 gd (idx x2 (List.length x0.Blocks)) <|
 some (0, (gD (.sl t_api_Cell)).dv ((List.getD x0.Blocks x2.toNat api_Block.z).2.2.2.2.1) [])
noncomputable def X_front_cells (N : Nat) : CE := (c_front_cells, mkF [p_api_Split, pB, pI] [pD (.sl t_api_Cell)] (front_cells N))
theorem Y_front_cells (N : Nat) : CEok Q (X_front_cells N) :=
 fnG (hi := h_front_cells) (l := [X_front_has N]) (t := []) ti_ok hmix ⟨Y_front_has N, trivial⟩ ⟨rfl, trivial⟩ f_167 (by kernel_rfl) (by kernel_rfl) trivial fun ys => by kernel_rfl
def c_front_End : CS := ⟨93, 166, ⟨[.agg [.d (.sl t_api_Block), .d (.ar 16 tI)], .agg [.d tI, .d tI, .d tI]], []⟩, [.one (.d tI)], true, []⟩
def h_front_End : Hi := ⟨[((1, 3), c_front_has)], [], [10], [], []⟩
theorem f_166 : Fn Q 166 f166 (codeOf f166) := ⟨by kernel_rfl, by kernel_rfl, by kernel_rfl, by kernel_rfl, by kernel_rfl⟩
noncomputable def front_End (N : Nat) (x0 : api_Split) (x1 : api_Pos) : Option Rs :=
 on1 (front_has N x0 x1.Block) <| gg [pB] <| fun (x2 : Bool) => 
 bi (!x2) (
  some (0, gI.dv x1.Base [])) <|
 gd (idx x1.Block (List.length x0.Blocks)) <|
 some (0, gI.dv (w.i64 ((w.i64 (x1.Base + (List.getD x0.Blocks x1.Block.toNat api_Block.z).2.1)) - (List.getD x0.Blocks x1.Block.toNat api_Block.z).1)) [])
noncomputable def X_front_End (N : Nat) : CE := (c_front_End, mkF [p_api_Split, p_api_Pos] [pI] (front_End N))
theorem Y_front_End (N : Nat) : CEok Q (X_front_End N) :=
 fnG (hi := h_front_End) (l := [X_front_has N]) (t := []) ti_ok hmix ⟨Y_front_has N, trivial⟩ ⟨rfl, trivial⟩ f_166 (by kernel_rfl) (by kernel_rfl) trivial fun ys => by kernel_rfl
def c_front_Settle : CS := ⟨94, 165, ⟨[.agg [.d (.sl t_api_Block), .d (.ar 16 tI)], .one (.d tB), .agg [.d tI, .d tI, .d tI]], []⟩, [.agg [.d tI, .d tI, .d tI], .one (.d tB)], false, []⟩
def s_front_Settle_0 : LS := ⟨⟨[.no, .one (.d tB), .no, .one (.p 0 0 [1, 16]), .no, .one (.p 1 0 [1, 1, 1]), .one (.p 2 0 [1, 1, 1]), .no, .no, .no, .no, .one (.d tI), .one (.d tI)] ++ nos 52, [[.d (.sl t_api_Block), .d (.ar 16 tI)], [.d tI, .d tI, .d tI], [.d tI, .d tI, .d tI]]⟩, [(0, ⟨nos 6 ++ [.one (.p 0 0 [1, 1, 1]), .one (.d tB)] ++ nos 57, [[.d tI, .d tI, .d tI]]⟩), (1, ⟨[.no, .one (.d tB), .no, .one (.p 0 0 [1, 16]), .no, .one (.p 1 0 [1, 1, 1]), .one (.p 2 0 [1, 1, 1])] ++ nos 58, [[.d (.sl t_api_Block), .d (.ar 16 tI)], [.d tI, .d tI, .d tI], [.d tI, .d tI, .d tI]]⟩)]⟩
def h_front_Settle : Hi := ⟨[((3, 3), c_front_has), ((6, 6), c_front_cells), ((10, 3), c_front_End), ((12, 4), c_front_has), ((12, 13), c_front_cells)], [(0, s_front_Settle_0)], [13, 18, 27, 38, 54], [], []⟩
theorem f_165 : Fn Q 165 f165 (codeOf f165) := ⟨by kernel_rfl, by kernel_rfl, by kernel_rfl, by kernel_rfl, by kernel_rfl⟩
noncomputable def T_front_Settle (N : Nat) : List CE := [X_front_has N, X_front_cells N, X_front_End N]
theorem TT_front_Settle (N : Nat) : AllP (CEok Q) (T_front_Settle N) := ⟨Y_front_has N, Y_front_cells N, Y_front_End N, trivial⟩
theorem A_front_Settle (N : Nat) : AllP (fun e => lookC (T_front_Settle N) e.2.id = some e.2) h_front_Settle.cs := ⟨rfl, rfl, rfl, rfl, rfl, trivial⟩
noncomputable def front_Settle_r0 (N : Nat) (again : Fn' (Option Rs) [pB, pI, pI, p_api_Split, p_api_Pos, p_api_Pos]) (x0 : Bool) (x1 : Int) (x2 : Int) (x3 : api_Split) (x4 : api_Pos) (x5 : api_Pos) : Option Rs :=
 bi (decide (x2 < x1)) (
  on1 (front_has N x3 x4.Block) <| gg [pB] <| fun (x6 : Bool) => 
  bi (!x6) (
   some (0, gB.dv true (g_api_Pos.dv x4 []))) <|
  gd (idx x4.Block (List.length x3.Blocks)) <|
  on1 (front_cells N x3 x0 x4.Block) <| gg [pD (.sl t_api_Cell)] <| fun (x7 : List api_Cell) => 
  bi (decide (x4.Index < (len x7))) (
   some (0, gB.dv false (g_api_Pos.dv x4 []))) <|
  bi (decide ((List.getD x3.Blocks x4.Block.toNat api_Block.z).2.2.1 < 0)) (
   some (0, gB.dv true (g_api_Pos.dv x4 []))) <|
  on1 (front_End N x3 x4) <| gg [pI] <| fun (x8 : Int) => 
  again x0 x1 (w.i64 (x2 + 1)) x3 (api_Pos.mk ((List.getD x3.Blocks x4.Block.toNat api_Block.z).2.2.1) 0 x8) x5) <|
 some (1, gB.dv x0 (g_api_Split.dv x3 (g_api_Pos.dv x4 (g_api_Pos.dv x5 []))))
noncomputable def front_Settle_l0 (N : Nat) : Nat → Fn' (Option Rs) [pB, pI, pI, p_api_Split, p_api_Pos, p_api_Pos] := lpG (front_Settle_r0 N)
noncomputable def L_front_Settle_0 (N : Nat) : LE := (0, mkM [pB, pI, pI, p_api_Split, p_api_Pos, p_api_Pos] [(0, [pB, p_api_Pos]), (1, [pB, p_api_Split, p_api_Pos, p_api_Pos])] (front_Settle_l0 N N))
theorem K_front_Settle_0 (N : Nat) : LEok Q h_front_Settle (bodOf f165) f165.ntmps 0 (L_front_Settle_0 N) :=
 loopG (hi := h_front_Settle) (l := T_front_Settle N) (t := []) (r := front_Settle_r0 N) ti_ok hmix (TT_front_Settle N) (A_front_Settle N) f_165 trivial (ls := s_front_Settle_0) (body := bodyAt f165 0) (by kernel_rfl) (by kernel_rfl) fun A ys => by kernel_rfl
noncomputable def front_Settle (N : Nat) (x0 : api_Split) (x1 : Bool) (x2 : api_Pos) : Option Rs :=
 onB 0 1 (front_Settle_l0 N N x1 (len x0.Blocks) 0 x0 x2 api_Pos.z) (gg [pB, p_api_Pos] <| fun (x3 : Bool) (x4 : api_Pos) => 
  some (0, g_api_Pos.dv x4 (gB.dv x3 []))) <| gg [pB, p_api_Split, p_api_Pos, p_api_Pos] <| fun (x5 : Bool) (x6 : api_Split) (x7 : api_Pos) (x8 : api_Pos) => 
 on1 (front_has N x6 x7.Block) <| gg [pB] <| fun (x9 : Bool) => 
 bi (!x9) (
  some (0, g_api_Pos.dv x7 (gB.dv true []))) <|
 on1 (front_cells N x6 x5 x7.Block) <| gg [pD (.sl t_api_Cell)] <| fun (x10 : List api_Cell) => 
 some (0, g_api_Pos.dv x7 (gB.dv (decide (x7.Index ≥ (len x10))) []))
noncomputable def X_front_Settle (N : Nat) : CE := (c_front_Settle, mkF [p_api_Split, pB, p_api_Pos] [p_api_Pos, pB] (front_Settle N))
theorem Y_front_Settle (N : Nat) : CEok Q (X_front_Settle N) :=
 fnG (hi := h_front_Settle) (l := T_front_Settle N) (t := [L_front_Settle_0 N]) ti_ok hmix (TT_front_Settle N) (A_front_Settle N) f_165 (by kernel_rfl) (by kernel_rfl) ⟨K_front_Settle_0 N, trivial⟩ fun ys => by kernel_rfl
end Go.Proofs.Zz
