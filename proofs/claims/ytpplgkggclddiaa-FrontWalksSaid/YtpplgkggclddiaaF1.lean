import Derived.Test.YtpplgkggclddiaaFT
set_option linter.unusedSimpArgs false
set_option linter.unusedVariables false
/- What functions of the program compute, as plain functions. -/
set_option maxRecDepth 100000
namespace Go.Proofs.Zz
noncomputable section
open Go Go.Proofs.Try
def c_r1_Form:CS:=⟨0,25,⟨[.one (.d tI)],[]⟩,[.one (.d tI)],true,[]⟩
def h_r1_Form:Hi:=⟨[],[],[3,6,10,13,16,19,22,25,28],[],[]⟩
theorem f_25:Fn Q 25 f25 (codeOf f25):=by constructor <;> kernel_rfl
def r1_Form (N:Nat) (x0:Int):Option Rs :=
 bi (decide (x0 < 1)) (
  some (0,gI.dv 0 [])) <|
 bi (decide (x0 > 41)) (
  some (0,gI.dv 0 [])) <|
 bi (decide (x0≤16)) (
  some (0,gI.dv 1 [])) <|
 bi (decide (x0≤24)) (
  some (0,gI.dv 2 [])) <|
 bi (x0 == 25) (
  some (0,gI.dv 3 [])) <|
 bi (decide (x0≤30)) (
  some (0,gI.dv 4 [])) <|
 bi (decide (x0≤33)) (
  some (0,gI.dv 5 [])) <|
 bi (decide (x0≤39)) (
  some (0,gI.dv 6 [])) <|
 bi (x0 == 40) (
  some (0,gI.dv 7 [])) <|
 some (0,gI.dv 8 [])
def X_r1_Form (N:Nat):CE:=(c_r1_Form,mkF [pI] [pI] (r1_Form N))
theorem Y_r1_Form (N:Nat):CEok Q (X_r1_Form N) :=
 fnG (hi:=h_r1_Form) (l:=[]) (t:=[]) ti_ok hmix trivial trivial f_25 (by kernel_rfl) (by kernel_rfl) trivial fun ys=>by kernel_rfl
def c_r1_Target:CS:=⟨1,75,⟨[.agg [.d (.sl t_api_Ins),.d tI,.d (.sl tU)],.one (.d tI)],[]⟩,[.one (.d tI)],true,[]⟩
def h_r1_Target:Hi:=⟨[((2,2),c_r1_Form)],[],[17,21,26,31,38,47],[],[]⟩
theorem f_75:Fn Q 75 f75 (codeOf f75):=by constructor <;> kernel_rfl
def r1_Target (N:Nat) (x0:api_Program) (x1:Int):Option Rs :=
 gd (idx x1 (List.length x0.Code)) <|
 on1 (r1_Form N ((List.getD x0.Code x1.toNat api_Ins.z).1))<|gg [pI]<|fun (x2:Int) =>
 bi (x2 != 6) (
  bi (x2 != 7) (
   some (0,gI.dv (-1:Int) [])) <|
  bi (decide ((List.getD x0.Code x1.toNat api_Ins.z).2.2.2.2.1 < (-8192:Int))) (
   some (0,gI.dv (-1:Int) [])) <|
  bi (decide ((List.getD x0.Code x1.toNat api_Ins.z).2.2.2.2.1 > 8191)) (
   some (0,gI.dv (-1:Int) [])) <|
  bi (decide ((w.i64 (x1+(List.getD x0.Code x1.toNat api_Ins.z).2.2.2.2.1)) < 0)) (
   some (0,gI.dv (-1:Int) [])) <|
  bi (decide ((w.i64 (x1+(List.getD x0.Code x1.toNat api_Ins.z).2.2.2.2.1))≥(len x0.Code))) (
   some (0,gI.dv (-1:Int) [])) <|
  some (0,gI.dv (w.i64 (x1+(List.getD x0.Code x1.toNat api_Ins.z).2.2.2.2.1)) [])) <|
 bi (decide ((List.getD x0.Code x1.toNat api_Ins.z).2.2.2.2.1 < (-8192:Int))) (
  some (0,gI.dv (-1:Int) [])) <|
 bi (decide ((List.getD x0.Code x1.toNat api_Ins.z).2.2.2.2.1 > 8191)) (
  some (0,gI.dv (-1:Int) [])) <|
 bi (decide ((w.i64 (x1+(List.getD x0.Code x1.toNat api_Ins.z).2.2.2.2.1)) < 0)) (
  some (0,gI.dv (-1:Int) [])) <|
 bi (decide ((w.i64 (x1+(List.getD x0.Code x1.toNat api_Ins.z).2.2.2.2.1))≥(len x0.Code))) (
  some (0,gI.dv (-1:Int) [])) <|
 some (0,gI.dv (w.i64 (x1+(List.getD x0.Code x1.toNat api_Ins.z).2.2.2.2.1)) [])
def X_r1_Target (N:Nat):CE:=(c_r1_Target,mkF [p_api_Program,pI] [pI] (r1_Target N))
theorem Y_r1_Target (N:Nat):CEok Q (X_r1_Target N) :=
 fnG (hi:=h_r1_Target) (l:=[X_r1_Form N]) (t:=[]) ti_ok hmix ⟨Y_r1_Form N,trivial⟩ ⟨rfl,trivial⟩ f_75 (by kernel_rfl) (by kernel_rfl) trivial fun ys=>by kernel_rfl
def c_r1_Targets:CS:=⟨2,54,⟨[.agg [.d (.sl t_api_Ins),.d tI,.d (.sl tU)]],[]⟩,[.one (.d tI)],true,[]⟩
def s_r1_Targets_0:LS:=⟨⟨[.no,.one (.p 0 0 [1,1,1]),.no,.one (.d tI)]++nos 27,[[.d (.sl t_api_Ins),.d tI,.d (.sl tU)]]⟩,[(0,⟨[.no,.no,.one (.d tI)]++nos 28,[]⟩),(1,⟨nos 31,[]⟩)]⟩
def h_r1_Targets:Hi:=⟨[((4,6),c_r1_Form),((5,9),c_r1_Target)],[(0,s_r1_Targets_0)],[9,21,25,30],[],[]⟩
theorem f_54:Fn Q 54 f54 (codeOf f54):=by constructor <;> kernel_rfl
def T_r1_Targets (N:Nat):List CE:=[X_r1_Form N,X_r1_Target N]
theorem TT_r1_Targets (N:Nat):AllP (CEok Q) (T_r1_Targets N):=⟨Y_r1_Form N,Y_r1_Target N,trivial⟩
theorem A_r1_Targets (N:Nat):AllP (fun e=>lookC (T_r1_Targets N) e.2.id = some e.2) h_r1_Targets.cs:=⟨rfl,rfl,trivial⟩
def r1_Targets_r0 (N:Nat) (again:Fn' (Option Rs) [pI,p_api_Program]) (x0:Int) (x1:api_Program):Option Rs :=
 bi (decide (x0 < (len x1.Code))) (
  gd (idx x0 (List.length x1.Code)) <|
  on1 (r1_Form N ((List.getD x1.Code x0.toNat api_Ins.z).1))<|gg [pI]<|fun (x2:Int) =>
  bi (x2 == 6) (
   on1 (r1_Target N x1 x0)<|gg [pI]<|fun (x3:Int) =>
   bi (decide (x3 < 0)) (
    some (0,gI.dv 4 [])) <|
   again (w.i64 (x0+1)) x1) <|
  bi (x2 == 7) (
   on1 (r1_Target N x1 x0)<|gg [pI]<|fun (x4:Int) =>
   bi (decide (x4 < 0)) (
    some (0,gI.dv 4 [])) <|
   again (w.i64 (x0+1)) x1) <|
  again (w.i64 (x0+1)) x1) <|
 some (1,[])
def r1_Targets_l0 (N:Nat):Nat→Fn' (Option Rs) [pI,p_api_Program]:=lpG (r1_Targets_r0 N)
def L_r1_Targets_0 (N:Nat):LE:=(0,mkM [pI,p_api_Program] [(0,[pI]),(1,[])] (r1_Targets_l0 N N))
theorem K_r1_Targets_0 (N:Nat):LEok Q h_r1_Targets (bodOf f54) f54.ntmps 0 (L_r1_Targets_0 N) :=
 loopG (hi:=h_r1_Targets) (l:=T_r1_Targets N) (t:=[]) (r:=r1_Targets_r0 N) ti_ok hmix (TT_r1_Targets N) (A_r1_Targets N) f_54 trivial (ls:=s_r1_Targets_0) (body:=bodyAt f54 0) (by kernel_rfl) (by kernel_rfl) fun A ys=>by kernel_rfl
def r1_Targets (N:Nat) (x0:api_Program):Option Rs :=
 onB 0 1 (r1_Targets_l0 N N 0 x0) (gg [pI]<|fun (x1:Int) =>
  some (0,gI.dv x1 []))<|gg [] <|
 some (0,gI.dv 0 [])
def X_r1_Targets (N:Nat):CE:=(c_r1_Targets,mkF [p_api_Program] [pI] (r1_Targets N))
theorem Y_r1_Targets (N:Nat):CEok Q (X_r1_Targets N) :=
 fnG (hi:=h_r1_Targets) (l:=T_r1_Targets N) (t:=[L_r1_Targets_0 N]) ti_ok hmix (TT_r1_Targets N) (A_r1_Targets N) f_54 (by kernel_rfl) (by kernel_rfl) ⟨K_r1_Targets_0 N,trivial⟩ fun ys=>by kernel_rfl
def c_r1_has:CS:=⟨3,59,⟨[.one (.d tI)],[]⟩,[.one (.d tB),.one (.d tB),.one (.d tB),.one (.d tB)],false,[]⟩
def h_r1_has:Hi:=⟨[],[],[7,9,12,14,17],[],[]⟩
theorem f_59:Fn Q 59 f59 (codeOf f59):=by constructor <;> kernel_rfl
def r1_has (N:Nat) (x0:Int):Option Rs :=
 bi (x0 == 1) (
  some (0,gB.dv true (gB.dv true (gB.dv true (gB.dv false []))))) <|
 bi (x0 == 2) (
  some (0,gB.dv true (gB.dv true (gB.dv false (gB.dv true []))))) <|
 bi (x0 == 4) (
  some (0,gB.dv true (gB.dv true (gB.dv false (gB.dv true []))))) <|
 bi (x0 == 3) (
  some (0,gB.dv true (gB.dv false (gB.dv false (gB.dv true []))))) <|
 bi (x0 == 5) (
  some (0,gB.dv false (gB.dv true (gB.dv true (gB.dv true []))))) <|
 bi (x0 == 6) (
  some (0,gB.dv false (gB.dv true (gB.dv true (gB.dv true []))))) <|
 bi (x0 == 7) (
  some (0,gB.dv false (gB.dv false (gB.dv false (gB.dv true []))))) <|
 some (0,gB.dv false (gB.dv false (gB.dv false (gB.dv false []))))
def X_r1_has (N:Nat):CE:=(c_r1_has,mkF [pI] [pB,pB,pB,pB] (r1_has N))
theorem Y_r1_has (N:Nat):CEok Q (X_r1_has N) :=
 fnG (hi:=h_r1_has) (l:=[]) (t:=[]) ti_ok hmix trivial trivial f_59 (by kernel_rfl) (by kernel_rfl) trivial fun ys=>by kernel_rfl
def c_r1_reg:CS:=⟨4,60,⟨[.one (.d tI),.one (.d tB)],[]⟩,[.one (.d tB)],true,[]⟩
def h_r1_reg:Hi:=⟨[],[],[7,9,13],[],[]⟩
theorem f_60:Fn Q 60 f60 (codeOf f60):=by constructor <;> kernel_rfl
def r1_reg (N:Nat) (x0:Int) (x1:Bool):Option Rs :=
 bi (x0 == 0) (
  some (0,gB.dv true [])) <|
 bi x1 (
  bi (decide (x0 > 0)) (
   some (0,gB.dv (decide (x0≤15)) [])) <|
  some (0,gB.dv false [])) <|
 some (0,gB.dv false [])
def X_r1_reg (N:Nat):CE:=(c_r1_reg,mkF [pI,pB] [pB] (r1_reg N))
theorem Y_r1_reg (N:Nat):CEok Q (X_r1_reg N) :=
 fnG (hi:=h_r1_reg) (l:=[]) (t:=[]) ti_ok hmix trivial trivial f_60 (by kernel_rfl) (by kernel_rfl) trivial fun ys=>by kernel_rfl
def c_r1_RightIns:CS:=⟨5,36,⟨[.agg [.d tI,.d tI,.d tI,.d tI,.d tI]],[]⟩,[.one (.d tB)],true,[]⟩
def h_r1_RightIns:Hi:=⟨[((1,2),c_r1_Form),((2,1),c_r1_has),((3,6),c_r1_reg),((3,13),c_r1_reg),((3,20),c_r1_reg)],[],[20,27,34,41,44,49,53,58,62,66,74],[],[]⟩
theorem f_36:Fn Q 36 f36 (codeOf f36):=by constructor <;> kernel_rfl
def r1_RightIns (N:Nat) (x0:api_Ins):Option Rs :=
 on1 (r1_Form N x0.1)<|gg [pI]<|fun (x1:Int) =>
 on1 (r1_has N x1)<|gg [pB,pB,pB,pB]<|fun (x2:Bool) (x3:Bool) (x4:Bool) (x5:Bool) =>
 bi (x1 == 0) (
  some (0,gB.dv false [])) <|
 on1 (r1_reg N x0.2.1 x2)<|gg [pB]<|fun (x6:Bool) =>
 bi (!x6) (
  some (0,gB.dv false [])) <|
 on1 (r1_reg N x0.2.2.1 x3)<|gg [pB]<|fun (x7:Bool) =>
 bi (!x7) (
  some (0,gB.dv false [])) <|
 on1 (r1_reg N x0.2.2.2.1 x4)<|gg [pB]<|fun (x8:Bool) =>
 bi (!x8) (
  some (0,gB.dv false [])) <|
 bi (!x5) (
  bi (x0.2.2.2.2.1 != 0) (
   some (0,gB.dv false [])) <|
  bi (x0.1 == 22) (
   bi (decide (x0.2.2.2.2.1≥0)) (
    some (0,gB.dv (decide (x0.2.2.2.2.1≤31)) [])) <|
   some (0,gB.dv false [])) <|
  bi (x0.1 == 23) (
   bi (decide (x0.2.2.2.2.1≥0)) (
    some (0,gB.dv (decide (x0.2.2.2.2.1≤31)) [])) <|
   some (0,gB.dv false [])) <|
  bi (x0.1 == 24) (
   bi (decide (x0.2.2.2.2.1≥0)) (
    some (0,gB.dv (decide (x0.2.2.2.2.1≤31)) [])) <|
   some (0,gB.dv false [])) <|
  bi (decide (x0.2.2.2.2.1≥(-8192:Int))) (
   some (0,gB.dv (decide (x0.2.2.2.2.1≤8191)) [])) <|
  some (0,gB.dv false [])) <|
 bi (x0.1 == 22) (
  bi (decide (x0.2.2.2.2.1≥0)) (
   some (0,gB.dv (decide (x0.2.2.2.2.1≤31)) [])) <|
  some (0,gB.dv false [])) <|
 bi (x0.1 == 23) (
  bi (decide (x0.2.2.2.2.1≥0)) (
   some (0,gB.dv (decide (x0.2.2.2.2.1≤31)) [])) <|
  some (0,gB.dv false [])) <|
 bi (x0.1 == 24) (
  bi (decide (x0.2.2.2.2.1≥0)) (
   some (0,gB.dv (decide (x0.2.2.2.2.1≤31)) [])) <|
  some (0,gB.dv false [])) <|
 bi (decide (x0.2.2.2.2.1≥(-8192:Int))) (
  some (0,gB.dv (decide (x0.2.2.2.2.1≤8191)) [])) <|
 some (0,gB.dv false [])
def X_r1_RightIns (N:Nat):CE:=(c_r1_RightIns,mkF [p_api_Ins] [pB] (r1_RightIns N))
theorem Y_r1_RightIns (N:Nat):CEok Q (X_r1_RightIns N) :=
 fnG (hi:=h_r1_RightIns) (l:=[X_r1_Form N,X_r1_has N,X_r1_reg N]) (t:=[]) ti_ok hmix ⟨Y_r1_Form N,Y_r1_has N,Y_r1_reg N,trivial⟩ ⟨rfl,rfl,rfl,rfl,rfl,trivial⟩ f_36 (by kernel_rfl) (by kernel_rfl) trivial fun ys=>by kernel_rfl
def c_r1_RightProgram:CS:=⟨6,22,⟨[.agg [.d (.sl t_api_Ins),.d tI,.d (.sl tU)]],[]⟩,[.one (.d tB)],true,[]⟩
def s_r1_RightProgram_0:LS:=⟨⟨[.no,.one (.p 0 0 [1,1,1]),.no,.one (.d tI)]++nos 45,[[.d (.sl t_api_Ins),.d tI,.d (.sl tU)]]⟩,[(0,⟨[.no,.no,.one (.d tB)]++nos 46,[]⟩),(1,⟨[.no,.one (.p 0 0 [1,1,1])]++nos 47,[[.d (.sl t_api_Ins),.d tI,.d (.sl tU)]]⟩)]⟩
def h_r1_RightProgram:Hi:=⟨[((6,5),c_r1_RightIns),((8,1),c_r1_Targets)],[(0,s_r1_RightProgram_0)],[8,14,19,24,31,36,45],[],[]⟩
theorem f_22:Fn Q 22 f22 (codeOf f22):=by constructor <;> kernel_rfl
def T_r1_RightProgram (N:Nat):List CE:=[X_r1_RightIns N,X_r1_Targets N]
theorem TT_r1_RightProgram (N:Nat):AllP (CEok Q) (T_r1_RightProgram N):=⟨Y_r1_RightIns N,Y_r1_Targets N,trivial⟩
theorem A_r1_RightProgram (N:Nat):AllP (fun e=>lookC (T_r1_RightProgram N) e.2.id = some e.2) h_r1_RightProgram.cs:=⟨rfl,rfl,trivial⟩
def r1_RightProgram_r0 (N:Nat) (again:Fn' (Option Rs) [pI,p_api_Program]) (x0:Int) (x1:api_Program):Option Rs :=
 bi (decide (x0 < (len x1.Code))) (
  gd (idx x0 (List.length x1.Code)) <|
  on1 (r1_RightIns N (List.getD x1.Code x0.toNat api_Ins.z))<|gg [pB]<|fun (x2:Bool) =>
  bi (!x2) (
   some (0,gB.dv false [])) <|
  again (w.i64 (x0+1)) x1) <|
 some (1,g_api_Program.dv x1 [])
def r1_RightProgram_l0 (N:Nat):Nat→Fn' (Option Rs) [pI,p_api_Program]:=lpG (r1_RightProgram_r0 N)
def L_r1_RightProgram_0 (N:Nat):LE:=(0,mkM [pI,p_api_Program] [(0,[pB]),(1,[p_api_Program])] (r1_RightProgram_l0 N N))
theorem K_r1_RightProgram_0 (N:Nat):LEok Q h_r1_RightProgram (bodOf f22) f22.ntmps 0 (L_r1_RightProgram_0 N) :=
 loopG (hi:=h_r1_RightProgram) (l:=T_r1_RightProgram N) (t:=[]) (r:=r1_RightProgram_r0 N) ti_ok hmix (TT_r1_RightProgram N) (A_r1_RightProgram N) f_22 trivial (ls:=s_r1_RightProgram_0) (body:=bodyAt f22 0) (by kernel_rfl) (by kernel_rfl) fun A ys=>by kernel_rfl
def r1_RightProgram (N:Nat) (x0:api_Program):Option Rs :=
 bi (decide ((len x0.Code) < 1)) (
  some (0,gB.dv false [])) <|
 bi (decide ((len x0.Code) > 2000)) (
  some (0,gB.dv false [])) <|
 bi (decide (x0.Size < 0)) (
  some (0,gB.dv false [])) <|
 bi (decide (x0.Size > 65536)) (
  some (0,gB.dv false [])) <|
 bi (decide ((len x0.Data) > x0.Size)) (
  some (0,gB.dv false [])) <|
 onB 0 1 (r1_RightProgram_l0 N N 0 x0) (gg [pB]<|fun (x1:Bool) =>
  some (0,gB.dv x1 []))<|gg [p_api_Program]<|fun (x2:api_Program) =>
 on1 (r1_Targets N x2)<|gg [pI]<|fun (x3:Int) =>
 some (0,gB.dv (x3 == 0) [])
def X_r1_RightProgram (N:Nat):CE:=(c_r1_RightProgram,mkF [p_api_Program] [pB] (r1_RightProgram N))
theorem Y_r1_RightProgram (N:Nat):CEok Q (X_r1_RightProgram N) :=
 fnG (hi:=h_r1_RightProgram) (l:=T_r1_RightProgram N) (t:=[L_r1_RightProgram_0 N]) ti_ok hmix (TT_r1_RightProgram N) (A_r1_RightProgram N) f_22 (by kernel_rfl) (by kernel_rfl) ⟨K_r1_RightProgram_0 N,trivial⟩ fun ys=>by kernel_rfl
def c_r1_Reads:CS:=⟨7,45,⟨[.agg [.d tI,.d tI,.d tI,.d tI,.d tI]],[]⟩,[.one (.o tI)],true,[]⟩
def h_r1_Reads:Hi:=⟨[((1,1),c_r1_RightIns),((3,2),c_r1_Form),((3,3),c_r1_has)],[],[10,21,25,32,36],[],[]⟩
theorem f_45:Fn Q 45 f45 (codeOf f45):=by constructor <;> kernel_rfl
def r1_Reads (N:Nat) (x0:api_Ins):Option Rs :=
 on1 (r1_RightIns N x0)<|gg [pB]<|fun (x1:Bool) =>
 bi (!x1) (
  some (0,(gD (.sl tI)).dv ([]:List Int) [])) <|
 on1 (r1_Form N x0.1)<|gg [pI]<|fun (x2:Int) =>
 on1 (r1_has N x2)<|gg [pB,pB,pB,pB]<|fun (x3:Bool) (x4:Bool) (x5:Bool) (x6:Bool) =>
 bi x4 (
  bi (x0.2.2.1 != 0) (
   gd (rm ([]:List Int) [x0.2.2.1] 8) <|
   bi x5 (
    bi (x0.2.2.2.1 != 0) (
     gd (rm (([]:List Int)++[x0.2.2.1]) [x0.2.2.2.1] 8) <|
     some (0,(gD (.sl tI)).dv ((([]:List Int)++[x0.2.2.1])++[x0.2.2.2.1]) [])) <|
    some (0,(gD (.sl tI)).dv (([]:List Int)++[x0.2.2.1]) [])) <|
   some (0,(gD (.sl tI)).dv (([]:List Int)++[x0.2.2.1]) [])) <|
  bi x5 (
   bi (x0.2.2.2.1 != 0) (
    gd (rm ([]:List Int) [x0.2.2.2.1] 8) <|
    some (0,(gD (.sl tI)).dv (([]:List Int)++[x0.2.2.2.1]) [])) <|
   some (0,(gD (.sl tI)).dv ([]:List Int) [])) <|
  some (0,(gD (.sl tI)).dv ([]:List Int) [])) <|
 bi x5 (
  bi (x0.2.2.2.1 != 0) (
   gd (rm ([]:List Int) [x0.2.2.2.1] 8) <|
   some (0,(gD (.sl tI)).dv (([]:List Int)++[x0.2.2.2.1]) [])) <|
  some (0,(gD (.sl tI)).dv ([]:List Int) [])) <|
 some (0,(gD (.sl tI)).dv ([]:List Int) [])
def X_r1_Reads (N:Nat):CE:=(c_r1_Reads,mkF [p_api_Ins] [pD (.sl tI)] (r1_Reads N))
theorem Y_r1_Reads (N:Nat):CEok Q (X_r1_Reads N) :=
 fnG (hi:=h_r1_Reads) (l:=[X_r1_RightIns N,X_r1_Form N,X_r1_has N]) (t:=[]) ti_ok hmix ⟨Y_r1_RightIns N,Y_r1_Form N,Y_r1_has N,trivial⟩ ⟨rfl,rfl,rfl,trivial⟩ f_45 (by kernel_rfl) (by kernel_rfl) trivial fun ys=>by kernel_rfl
def c_r10_Owner:CS:=⟨8,20,⟨[.agg [.d (.sl t_api_Ins),.d tI,.d (.sl tU)]],[]⟩,[.agg [.d (.ar 16 tI)]],true,[]⟩
def s_r10_Owner_0:LS:=⟨⟨[.no,.one (.p 0 0 [1,1,1]),.one (.p 1 0 [16]),.one (.p 2 0 [16]),.one (.d tI)]++nos 81,[[.d (.sl t_api_Ins),.d tI,.d (.sl tU)],[.d (.ar 16 tI)],[.d (.ar 16 tI)]]⟩,[(1,⟨[.no,.one (.p 0 0 [1,1,1]),.one (.p 1 0 [16]),.one (.p 2 0 [16])]++nos 82,[[.d (.sl t_api_Ins),.d tI,.d (.sl tU)],[.d (.ar 16 tI)],[.d (.ar 16 tI)]]⟩)]⟩
def s_r10_Owner_6:LS:=⟨⟨[.no,.one (.p 0 0 [1,1,1]),.one (.p 1 0 [16]),.one (.p 2 0 [16]),.no,.one (.d tI),.one (.d tI),.no,.no,.one (.o tI),.one (.d tI)]++nos 75,[[.d (.sl t_api_Ins),.d tI,.d (.sl tU)],[.d (.ar 16 tI)],[.d (.ar 16 tI)]]⟩,[(7,⟨[.no,.one (.p 0 0 [1,1,1]),.one (.p 1 0 [16]),.one (.p 2 0 [16]),.no,.one (.d tI),.one (.d tI)]++nos 79,[[.d (.sl t_api_Ins),.d tI,.d (.sl tU)],[.d (.ar 16 tI)],[.d (.ar 16 tI)]]⟩)]⟩
def s_r10_Owner_4:LS:=⟨⟨[.no,.one (.p 0 0 [1,1,1]),.one (.p 1 0 [16]),.one (.p 2 0 [16]),.no,.one (.d tI),.one (.d tI)]++nos 79,[[.d (.sl t_api_Ins),.d tI,.d (.sl tU)],[.d (.ar 16 tI)],[.d (.ar 16 tI)]]⟩,[(5,⟨[.no,.one (.p 0 0 [1,1,1]),.one (.p 1 0 [16]),.one (.p 2 0 [16]),.no,.one (.d tI)]++nos 80,[[.d (.sl t_api_Ins),.d tI,.d (.sl tU)],[.d (.ar 16 tI)],[.d (.ar 16 tI)]]⟩)]⟩
def s_r10_Owner_2:LS:=⟨⟨[.no,.one (.p 0 0 [1,1,1]),.one (.p 1 0 [16]),.one (.p 2 0 [16]),.no,.one (.d tI)]++nos 80,[[.d (.sl t_api_Ins),.d tI,.d (.sl tU)],[.d (.ar 16 tI)],[.d (.ar 16 tI)]]⟩,[(3,⟨[.no,.no,.one (.p 0 0 [16]),.one (.p 1 0 [16])]++nos 82,[[.d (.ar 16 tI)],[.d (.ar 16 tI)]]⟩)]⟩
def h_r10_Owner:Hi:=⟨[((2,1),c_r1_RightProgram),((15,2),c_r1_Form),((19,1),c_r1_Reads)],[(0,s_r10_Owner_0),(6,s_r10_Owner_6),(4,s_r10_Owner_4),(2,s_r10_Owner_2)],[13,16,22,29,42,46,50,56,60,65,71,77],[],[]⟩
theorem f_20:Fn Q 20 f20 (codeOf f20):=by constructor <;> kernel_rfl
def T_r10_Owner (N:Nat):List CE:=[X_r1_RightProgram N,X_r1_Form N,X_r1_Reads N]
theorem TT_r10_Owner (N:Nat):AllP (CEok Q) (T_r10_Owner N):=⟨Y_r1_RightProgram N,Y_r1_Form N,Y_r1_Reads N,trivial⟩
theorem A_r10_Owner (N:Nat):AllP (fun e=>lookC (T_r10_Owner N) e.2.id = some e.2) h_r10_Owner.cs:=⟨rfl,rfl,rfl,trivial⟩
def r10_Owner_r0 (N:Nat) (again:Fn' (Option Rs) [pI,p_api_Program,pD (.ar 16 tI),pD (.ar 16 tI)]) (x0:Int) (x1:api_Program) (x2:List Int) (x3:List Int):Option Rs :=
 bi (decide (x0 < 16)) (
  gd (idx x0 16) <|
  again (w.i64 (x0+1)) x1 x2 (List.set x3 x0.toNat 2)) <|
 some (1,g_api_Program.dv x1 ((gD (.ar 16 tI)).dv x2 ((gD (.ar 16 tI)).dv x3 [])))
def r10_Owner_l0 (N:Nat):Nat→Fn' (Option Rs) [pI,p_api_Program,pD (.ar 16 tI),pD (.ar 16 tI)]:=lpG (r10_Owner_r0 N)
def L_r10_Owner_0 (N:Nat):LE:=(0,mkM [pI,p_api_Program,pD (.ar 16 tI),pD (.ar 16 tI)] [(1,[p_api_Program,pD (.ar 16 tI),pD (.ar 16 tI)])] (r10_Owner_l0 N N))
theorem K_r10_Owner_0 (N:Nat):LEok Q h_r10_Owner (bodOf f20) f20.ntmps 0 (L_r10_Owner_0 N) :=
 loopG (hi:=h_r10_Owner) (l:=T_r10_Owner N) (t:=[]) (r:=r10_Owner_r0 N) ti_ok hmix (TT_r10_Owner N) (A_r10_Owner N) f_20 trivial (ls:=s_r10_Owner_0) (body:=bodyAt f20 0) (by kernel_rfl) (by kernel_rfl) fun A ys=>by kernel_rfl
def r10_Owner_r6 (N:Nat) (again:Fn' (Option Rs) [pI,pI,pD (.sl tI),pI,p_api_Program,pD (.ar 16 tI),pD (.ar 16 tI)]) (x0:Int) (x1:Int) (x2:List Int) (x3:Int) (x4:api_Program) (x5:List Int) (x6:List Int):Option Rs :=
 bi (decide (x3 < (len x2))) (
  gd (idx x3 (List.length x2)) <|
  gd (idx (List.getD x2 x3.toNat 0) 16) <|
  again x0 x1 x2 (w.i64 (x3+1)) x4 x5 (List.set x6 (Int.toNat (List.getD x2 x3.toNat 0)) 1)) <|
 some (7,gI.dv x0 (gI.dv x1 (g_api_Program.dv x4 ((gD (.ar 16 tI)).dv x5 ((gD (.ar 16 tI)).dv x6 [])))))
def r10_Owner_l6 (N:Nat):Nat→Fn' (Option Rs) [pI,pI,pD (.sl tI),pI,p_api_Program,pD (.ar 16 tI),pD (.ar 16 tI)]:=lpG (r10_Owner_r6 N)
def L_r10_Owner_6 (N:Nat):LE:=(6,mkM [pI,pI,pD (.sl tI),pI,p_api_Program,pD (.ar 16 tI),pD (.ar 16 tI)] [(7,[pI,pI,p_api_Program,pD (.ar 16 tI),pD (.ar 16 tI)])] (r10_Owner_l6 N N))
theorem K_r10_Owner_6 (N:Nat):LEok Q h_r10_Owner (bodOf f20) f20.ntmps 0 (L_r10_Owner_6 N) :=
 loopG (hi:=h_r10_Owner) (l:=T_r10_Owner N) (t:=[]) (r:=r10_Owner_r6 N) ti_ok hmix (TT_r10_Owner N) (A_r10_Owner N) f_20 trivial (ls:=s_r10_Owner_6) (body:=bodyAt f20 6) (by kernel_rfl) (by kernel_rfl) fun A ys=>by kernel_rfl
def r10_Owner_r4 (N:Nat) (again:Fn' (Option Rs) [pI,pI,p_api_Program,pD (.ar 16 tI),pD (.ar 16 tI)]) (x0:Int) (x1:Int) (x2:api_Program) (x3:List Int) (x4:List Int):Option Rs :=
 bi (decide (x1 < (len x2.Code))) (
  gd (idx x1 (List.length x2.Code)) <|
  on1 (r1_Form N ((List.getD x2.Code x1.toNat api_Ins.z).1))<|gg [pI]<|fun (x5:Int) =>
  bi (x5 == 4) (
   bi (decide ((List.getD x2.Code x1.toNat api_Ins.z).2.2.1 > 0)) (
    gd (idx (List.getD x2.Code x1.toNat api_Ins.z).2.2.1 16) <|
    bi (decide (x5≥1)) (
     bi (decide (x5≤3)) (
      bi (decide ((List.getD x2.Code x1.toNat api_Ins.z).2.1 > 0)) (
       gd (idx (List.getD x2.Code x1.toNat api_Ins.z).2.1 16) <|
       bi ((List.getD (List.set x4 (Int.toNat (List.getD x2.Code x1.toNat api_Ins.z).2.2.1) 1) (Int.toNat (List.getD x2.Code x1.toNat api_Ins.z).2.1) 0) == 1) (
        on1 (r1_Reads N (List.getD x2.Code x1.toNat api_Ins.z))<|gg [pD (.sl tI)]<|fun (x6:List Int) =>
        onA 7 (r10_Owner_l6 N N x0 x1 x6 0 x2 x3 (List.set x4 (Int.toNat (List.getD x2.Code x1.toNat api_Ins.z).2.2.1) 1))<|gg [pI,pI,p_api_Program,pD (.ar 16 tI),pD (.ar 16 tI)]<|fun (x7:Int) (x8:Int) (x9:api_Program) (x10:List Int) (x11:List Int) =>
        again x7 (w.i64 (x8+1)) x9 x10 x11) <|
       again x0 (w.i64 (x1+1)) x2 x3 (List.set x4 (Int.toNat (List.getD x2.Code x1.toNat api_Ins.z).2.2.1) 1)) <|
      again x0 (w.i64 (x1+1)) x2 x3 (List.set x4 (Int.toNat (List.getD x2.Code x1.toNat api_Ins.z).2.2.1) 1)) <|
     again x0 (w.i64 (x1+1)) x2 x3 (List.set x4 (Int.toNat (List.getD x2.Code x1.toNat api_Ins.z).2.2.1) 1)) <|
    again x0 (w.i64 (x1+1)) x2 x3 (List.set x4 (Int.toNat (List.getD x2.Code x1.toNat api_Ins.z).2.2.1) 1)) <|
   bi (decide (x5≥1)) (
    bi (decide (x5≤3)) (
     bi (decide ((List.getD x2.Code x1.toNat api_Ins.z).2.1 > 0)) (
      gd (idx (List.getD x2.Code x1.toNat api_Ins.z).2.1 16) <|
      bi ((List.getD x4 (Int.toNat (List.getD x2.Code x1.toNat api_Ins.z).2.1) 0) == 1) (
       on1 (r1_Reads N (List.getD x2.Code x1.toNat api_Ins.z))<|gg [pD (.sl tI)]<|fun (x12:List Int) =>
       onA 7 (r10_Owner_l6 N N x0 x1 x12 0 x2 x3 x4)<|gg [pI,pI,p_api_Program,pD (.ar 16 tI),pD (.ar 16 tI)]<|fun (x13:Int) (x14:Int) (x15:api_Program) (x16:List Int) (x17:List Int) =>
       again x13 (w.i64 (x14+1)) x15 x16 x17) <|
      again x0 (w.i64 (x1+1)) x2 x3 x4) <|
     again x0 (w.i64 (x1+1)) x2 x3 x4) <|
    again x0 (w.i64 (x1+1)) x2 x3 x4) <|
   again x0 (w.i64 (x1+1)) x2 x3 x4) <|
  bi (x5 == 5) (
   bi (decide ((List.getD x2.Code x1.toNat api_Ins.z).2.2.1 > 0)) (
    gd (idx (List.getD x2.Code x1.toNat api_Ins.z).2.2.1 16) <|
    bi (decide (x5≥1)) (
     bi (decide (x5≤3)) (
      bi (decide ((List.getD x2.Code x1.toNat api_Ins.z).2.1 > 0)) (
       gd (idx (List.getD x2.Code x1.toNat api_Ins.z).2.1 16) <|
       bi ((List.getD (List.set x4 (Int.toNat (List.getD x2.Code x1.toNat api_Ins.z).2.2.1) 1) (Int.toNat (List.getD x2.Code x1.toNat api_Ins.z).2.1) 0) == 1) (
        on1 (r1_Reads N (List.getD x2.Code x1.toNat api_Ins.z))<|gg [pD (.sl tI)]<|fun (x18:List Int) =>
        onA 7 (r10_Owner_l6 N N x0 x1 x18 0 x2 x3 (List.set x4 (Int.toNat (List.getD x2.Code x1.toNat api_Ins.z).2.2.1) 1))<|gg [pI,pI,p_api_Program,pD (.ar 16 tI),pD (.ar 16 tI)]<|fun (x19:Int) (x20:Int) (x21:api_Program) (x22:List Int) (x23:List Int) =>
        again x19 (w.i64 (x20+1)) x21 x22 x23) <|
       again x0 (w.i64 (x1+1)) x2 x3 (List.set x4 (Int.toNat (List.getD x2.Code x1.toNat api_Ins.z).2.2.1) 1)) <|
      again x0 (w.i64 (x1+1)) x2 x3 (List.set x4 (Int.toNat (List.getD x2.Code x1.toNat api_Ins.z).2.2.1) 1)) <|
     again x0 (w.i64 (x1+1)) x2 x3 (List.set x4 (Int.toNat (List.getD x2.Code x1.toNat api_Ins.z).2.2.1) 1)) <|
    again x0 (w.i64 (x1+1)) x2 x3 (List.set x4 (Int.toNat (List.getD x2.Code x1.toNat api_Ins.z).2.2.1) 1)) <|
   bi (decide (x5≥1)) (
    bi (decide (x5≤3)) (
     bi (decide ((List.getD x2.Code x1.toNat api_Ins.z).2.1 > 0)) (
      gd (idx (List.getD x2.Code x1.toNat api_Ins.z).2.1 16) <|
      bi ((List.getD x4 (Int.toNat (List.getD x2.Code x1.toNat api_Ins.z).2.1) 0) == 1) (
       on1 (r1_Reads N (List.getD x2.Code x1.toNat api_Ins.z))<|gg [pD (.sl tI)]<|fun (x24:List Int) =>
       onA 7 (r10_Owner_l6 N N x0 x1 x24 0 x2 x3 x4)<|gg [pI,pI,p_api_Program,pD (.ar 16 tI),pD (.ar 16 tI)]<|fun (x25:Int) (x26:Int) (x27:api_Program) (x28:List Int) (x29:List Int) =>
       again x25 (w.i64 (x26+1)) x27 x28 x29) <|
      again x0 (w.i64 (x1+1)) x2 x3 x4) <|
     again x0 (w.i64 (x1+1)) x2 x3 x4) <|
    again x0 (w.i64 (x1+1)) x2 x3 x4) <|
   again x0 (w.i64 (x1+1)) x2 x3 x4) <|
  bi (decide (x5≥1)) (
   bi (decide (x5≤3)) (
    bi (decide ((List.getD x2.Code x1.toNat api_Ins.z).2.1 > 0)) (
     gd (idx (List.getD x2.Code x1.toNat api_Ins.z).2.1 16) <|
     bi ((List.getD x4 (Int.toNat (List.getD x2.Code x1.toNat api_Ins.z).2.1) 0) == 1) (
      on1 (r1_Reads N (List.getD x2.Code x1.toNat api_Ins.z))<|gg [pD (.sl tI)]<|fun (x30:List Int) =>
      onA 7 (r10_Owner_l6 N N x0 x1 x30 0 x2 x3 x4)<|gg [pI,pI,p_api_Program,pD (.ar 16 tI),pD (.ar 16 tI)]<|fun (x31:Int) (x32:Int) (x33:api_Program) (x34:List Int) (x35:List Int) =>
      again x31 (w.i64 (x32+1)) x33 x34 x35) <|
     again x0 (w.i64 (x1+1)) x2 x3 x4) <|
    again x0 (w.i64 (x1+1)) x2 x3 x4) <|
   again x0 (w.i64 (x1+1)) x2 x3 x4) <|
  again x0 (w.i64 (x1+1)) x2 x3 x4) <|
 some (5,gI.dv x0 (g_api_Program.dv x2 ((gD (.ar 16 tI)).dv x3 ((gD (.ar 16 tI)).dv x4 []))))
def r10_Owner_l4 (N:Nat):Nat→Fn' (Option Rs) [pI,pI,p_api_Program,pD (.ar 16 tI),pD (.ar 16 tI)]:=lpG (r10_Owner_r4 N)
def L_r10_Owner_4 (N:Nat):LE:=(4,mkM [pI,pI,p_api_Program,pD (.ar 16 tI),pD (.ar 16 tI)] [(5,[pI,p_api_Program,pD (.ar 16 tI),pD (.ar 16 tI)])] (r10_Owner_l4 N N))
theorem K_r10_Owner_4 (N:Nat):LEok Q h_r10_Owner (bodOf f20) f20.ntmps 0 (L_r10_Owner_4 N) :=
 loopG (hi:=h_r10_Owner) (l:=T_r10_Owner N) (t:=[L_r10_Owner_6 N]) (r:=r10_Owner_r4 N) ti_ok hmix (TT_r10_Owner N) (A_r10_Owner N) f_20 ⟨K_r10_Owner_6 N,trivial⟩ (ls:=s_r10_Owner_4) (body:=bodyAt f20 4) (by kernel_rfl) (by kernel_rfl) fun A ys=>by kernel_rfl
def r10_Owner_r2 (N:Nat) (again:Fn' (Option Rs) [pI,p_api_Program,pD (.ar 16 tI),pD (.ar 16 tI)]) (x0:Int) (x1:api_Program) (x2:List Int) (x3:List Int):Option Rs :=
 bi (decide (x0 < 17)) (
  onA 5 (r10_Owner_l4 N N x0 0 x1 x2 x3)<|gg [pI,p_api_Program,pD (.ar 16 tI),pD (.ar 16 tI)]<|fun (x4:Int) (x5:api_Program) (x6:List Int) (x7:List Int) =>
  again (w.i64 (x4+1)) x5 x6 x7) <|
 some (3,(gD (.ar 16 tI)).dv x2 ((gD (.ar 16 tI)).dv x3 []))
def r10_Owner_l2 (N:Nat):Nat→Fn' (Option Rs) [pI,p_api_Program,pD (.ar 16 tI),pD (.ar 16 tI)]:=lpG (r10_Owner_r2 N)
def L_r10_Owner_2 (N:Nat):LE:=(2,mkM [pI,p_api_Program,pD (.ar 16 tI),pD (.ar 16 tI)] [(3,[pD (.ar 16 tI),pD (.ar 16 tI)])] (r10_Owner_l2 N N))
theorem K_r10_Owner_2 (N:Nat):LEok Q h_r10_Owner (bodOf f20) f20.ntmps 0 (L_r10_Owner_2 N) :=
 loopG (hi:=h_r10_Owner) (l:=T_r10_Owner N) (t:=[L_r10_Owner_4 N]) (r:=r10_Owner_r2 N) ti_ok hmix (TT_r10_Owner N) (A_r10_Owner N) f_20 ⟨K_r10_Owner_4 N,trivial⟩ (ls:=s_r10_Owner_2) (body:=bodyAt f20 2) (by kernel_rfl) (by kernel_rfl) fun A ys=>by kernel_rfl
def r10_Owner (N:Nat) (x0:api_Program):Option Rs :=
 on1 (r1_RightProgram N x0)<|gg [pB]<|fun (x1:Bool) =>
 bi (!x1) (
  some (0,(gD (.ar 16 tI)).dv (List.replicate 16 (0 :Int)) [])) <|
 onA 1 (r10_Owner_l0 N N 1 x0 (List.replicate 16 (0 :Int)) (List.replicate 16 (0 :Int)))<|gg [p_api_Program,pD (.ar 16 tI),pD (.ar 16 tI)]<|fun (x2:api_Program) (x3:List Int) (x4:List Int) =>
 onA 3 (r10_Owner_l2 N N 0 x2 x3 x4)<|gg [pD (.ar 16 tI),pD (.ar 16 tI)]<|fun (x5:List Int) (x6:List Int) =>
 some (0,(gD (.ar 16 tI)).dv x6 [])
def X_r10_Owner (N:Nat):CE:=(c_r10_Owner,mkF [p_api_Program] [pD (.ar 16 tI)] (r10_Owner N))
theorem Y_r10_Owner (N:Nat):CEok Q (X_r10_Owner N) :=
 fnG (hi:=h_r10_Owner) (l:=T_r10_Owner N) (t:=[L_r10_Owner_0 N,L_r10_Owner_6 N,L_r10_Owner_4 N,L_r10_Owner_2 N]) ti_ok hmix (TT_r10_Owner N) (A_r10_Owner N) f_20 (by kernel_rfl) (by kernel_rfl) ⟨K_r10_Owner_0 N,K_r10_Owner_6 N,K_r10_Owner_4 N,K_r10_Owner_2 N,trivial⟩ fun ys=>by kernel_rfl
def c_r10_onE:CS:=⟨9,41,⟨[.agg [.d (.ar 16 tI)],.one (.d tI)],[]⟩,[.one (.d tB)],true,[]⟩
def h_r10_onE:Hi:=⟨[],[],[7],[],[]⟩
theorem f_41:Fn Q 41 f41 (codeOf f41):=by constructor <;> kernel_rfl
def r10_onE (N:Nat) (x0:List Int) (x1:Int):Option Rs :=
 bi (decide (x1 > 0)) (
  gd (idx x1 16) <|
  some (0,gB.dv ((List.getD x0 x1.toNat 0) == 2) [])) <|
 some (0,gB.dv false [])
def X_r10_onE (N:Nat):CE:=(c_r10_onE,mkF [pD (.ar 16 tI),pI] [pB] (r10_onE N))
theorem Y_r10_onE (N:Nat):CEok Q (X_r10_onE N) :=
 fnG (hi:=h_r10_onE) (l:=[]) (t:=[]) ti_ok hmix trivial trivial f_41 (by kernel_rfl) (by kernel_rfl) trivial fun ys=>by kernel_rfl
def c_r10_anyE:CS:=⟨10,44,⟨[.agg [.d (.ar 16 tI)],.one (.d (.sl tI))],[]⟩,[.one (.d tB)],true,[]⟩
def s_r10_anyE_0:LS:=⟨⟨[.no,.one (.d (.sl tI)),.one (.p 0 0 [16]),.no,.no,.one (.d tI)]++nos 12,[[.d (.ar 16 tI)]]⟩,[(0,⟨[.no,.no,.no,.no,.one (.d tB)]++nos 13,[]⟩),(1,⟨nos 18,[]⟩)]⟩
def h_r10_anyE:Hi:=⟨[((4,5),c_r10_onE)],[(0,s_r10_anyE_0)],[9,17],[],[]⟩
theorem f_44:Fn Q 44 f44 (codeOf f44):=by constructor <;> kernel_rfl
def T_r10_anyE (N:Nat):List CE:=[X_r10_onE N]
theorem TT_r10_anyE (N:Nat):AllP (CEok Q) (T_r10_anyE N):=⟨Y_r10_onE N,trivial⟩
theorem A_r10_anyE (N:Nat):AllP (fun e=>lookC (T_r10_anyE N) e.2.id = some e.2) h_r10_anyE.cs:=⟨rfl,trivial⟩
def r10_anyE_r0 (N:Nat) (again:Fn' (Option Rs) [pD (.sl tI),pI,pD (.ar 16 tI)]) (x0:List Int) (x1:Int) (x2:List Int):Option Rs :=
 bi (decide (x1 < (len x0))) (
  gd (idx x1 (List.length x0)) <|
  on1 (r10_onE N x2 (List.getD x0 x1.toNat 0))<|gg [pB]<|fun (x3:Bool) =>
  bi x3 (
   some (0,gB.dv true [])) <|
  again x0 (w.i64 (x1+1)) x2) <|
 some (1,[])
def r10_anyE_l0 (N:Nat):Nat→Fn' (Option Rs) [pD (.sl tI),pI,pD (.ar 16 tI)]:=lpG (r10_anyE_r0 N)
def L_r10_anyE_0 (N:Nat):LE:=(0,mkM [pD (.sl tI),pI,pD (.ar 16 tI)] [(0,[pB]),(1,[])] (r10_anyE_l0 N N))
theorem K_r10_anyE_0 (N:Nat):LEok Q h_r10_anyE (bodOf f44) f44.ntmps 0 (L_r10_anyE_0 N) :=
 loopG (hi:=h_r10_anyE) (l:=T_r10_anyE N) (t:=[]) (r:=r10_anyE_r0 N) ti_ok hmix (TT_r10_anyE N) (A_r10_anyE N) f_44 trivial (ls:=s_r10_anyE_0) (body:=bodyAt f44 0) (by kernel_rfl) (by kernel_rfl) fun A ys=>by kernel_rfl
def r10_anyE (N:Nat) (x0:List Int) (x1:List Int):Option Rs :=
 onB 0 1 (r10_anyE_l0 N N x1 0 x0) (gg [pB]<|fun (x2:Bool) =>
  some (0,gB.dv x2 []))<|gg [] <|
 some (0,gB.dv false [])
def X_r10_anyE (N:Nat):CE:=(c_r10_anyE,mkF [pD (.ar 16 tI),pD (.sl tI)] [pB] (r10_anyE N))
theorem Y_r10_anyE (N:Nat):CEok Q (X_r10_anyE N) :=
 fnG (hi:=h_r10_anyE) (l:=T_r10_anyE N) (t:=[L_r10_anyE_0 N]) ti_ok hmix (TT_r10_anyE N) (A_r10_anyE N) f_44 (by kernel_rfl) (by kernel_rfl) ⟨K_r10_anyE_0 N,trivial⟩ fun ys=>by kernel_rfl
def c_r10_Closed:CS:=⟨11,52,⟨[.agg [.d (.sl t_api_Ins),.d tI,.d (.sl tU)],.agg [.d (.ar 16 tI)]],[]⟩,[.one (.d tB)],true,[]⟩
def s_r10_Closed_0:LS:=⟨⟨[.no,.no,.one (.p 0 0 [1,1,1]),.one (.p 1 0 [16]),.no,.one (.d tI)]++nos 76,[[.d (.sl t_api_Ins),.d tI,.d (.sl tU)],[.d (.ar 16 tI)]]⟩,[(0,⟨[.no,.no,.no,.no,.one (.d tB)]++nos 77,[]⟩),(1,⟨[.no,.no,.one (.p 0 0 [1,1,1]),.one (.p 1 0 [16])]++nos 78,[[.d (.sl t_api_Ins),.d tI,.d (.sl tU)],[.d (.ar 16 tI)]]⟩)]⟩
def s_r10_Closed_2:LS:=⟨⟨[.no,.no,.one (.p 0 0 [1,1,1]),.one (.p 1 0 [16]),.no,.no,.one (.d tI)]++nos 75,[[.d (.sl t_api_Ins),.d tI,.d (.sl tU)],[.d (.ar 16 tI)]]⟩,[(0,⟨[.no,.no,.no,.no,.one (.d tB)]++nos 77,[]⟩),(3,⟨nos 82,[]⟩)]⟩
def h_r10_Closed:Hi:=⟨[((1,1),c_r1_RightProgram),((12,2),c_r1_Form),((13,10),c_r10_onE),((15,21),c_r1_Reads),((15,22),c_r10_anyE)],[(0,s_r10_Closed_0),(2,s_r10_Closed_2)],[12,16,18,25,30,35,48,52,57,60,64,69,76,81],[],[]⟩
theorem f_52:Fn Q 52 f52 (codeOf f52):=by constructor <;> kernel_rfl
def T_r10_Closed (N:Nat):List CE:=[X_r1_RightProgram N,X_r1_Form N,X_r10_onE N,X_r1_Reads N,X_r10_anyE N]
theorem TT_r10_Closed (N:Nat):AllP (CEok Q) (T_r10_Closed N):=⟨Y_r1_RightProgram N,Y_r1_Form N,Y_r10_onE N,Y_r1_Reads N,Y_r10_anyE N,trivial⟩
theorem A_r10_Closed (N:Nat):AllP (fun e=>lookC (T_r10_Closed N) e.2.id = some e.2) h_r10_Closed.cs:=⟨rfl,rfl,rfl,rfl,rfl,trivial⟩
def r10_Closed_r0 (N:Nat) (again:Fn' (Option Rs) [pI,p_api_Program,pD (.ar 16 tI)]) (x0:Int) (x1:api_Program) (x2:List Int):Option Rs :=
 bi (decide (x0 < 16)) (
  gd (idx x0 16) <|
  bi ((List.getD x2 x0.toNat 0) != 1) (
   gd (idx x0 16) <|
   bi ((List.getD x2 x0.toNat 0) != 2) (
    some (0,gB.dv false [])) <|
   again (w.i64 (x0+1)) x1 x2) <|
  again (w.i64 (x0+1)) x1 x2) <|
 some (1,g_api_Program.dv x1 ((gD (.ar 16 tI)).dv x2 []))
def r10_Closed_l0 (N:Nat):Nat→Fn' (Option Rs) [pI,p_api_Program,pD (.ar 16 tI)]:=lpG (r10_Closed_r0 N)
def L_r10_Closed_0 (N:Nat):LE:=(0,mkM [pI,p_api_Program,pD (.ar 16 tI)] [(0,[pB]),(1,[p_api_Program,pD (.ar 16 tI)])] (r10_Closed_l0 N N))
theorem K_r10_Closed_0 (N:Nat):LEok Q h_r10_Closed (bodOf f52) f52.ntmps 0 (L_r10_Closed_0 N) :=
 loopG (hi:=h_r10_Closed) (l:=T_r10_Closed N) (t:=[]) (r:=r10_Closed_r0 N) ti_ok hmix (TT_r10_Closed N) (A_r10_Closed N) f_52 trivial (ls:=s_r10_Closed_0) (body:=bodyAt f52 0) (by kernel_rfl) (by kernel_rfl) fun A ys=>by kernel_rfl
def r10_Closed_r2 (N:Nat) (again:Fn' (Option Rs) [pI,p_api_Program,pD (.ar 16 tI)]) (x0:Int) (x1:api_Program) (x2:List Int):Option Rs :=
 bi (decide (x0 < (len x1.Code))) (
  gd (idx x0 (List.length x1.Code)) <|
  on1 (r1_Form N ((List.getD x1.Code x0.toNat api_Ins.z).1))<|gg [pI]<|fun (x3:Int) =>
  bi (x3 == 4) (
   on1 (r10_onE N x2 ((List.getD x1.Code x0.toNat api_Ins.z).2.2.1))<|gg [pB]<|fun (x4:Bool) =>
   bi x4 (
    some (0,gB.dv false [])) <|
   bi (decide (x3≥1)) (
    bi (decide (x3≤3)) (
     bi (decide ((List.getD x1.Code x0.toNat api_Ins.z).2.1 > 0)) (
      gd (idx (List.getD x1.Code x0.toNat api_Ins.z).2.1 16) <|
      bi ((List.getD x2 (Int.toNat (List.getD x1.Code x0.toNat api_Ins.z).2.1) 0) == 1) (
       on1 (r1_Reads N (List.getD x1.Code x0.toNat api_Ins.z))<|gg [pD (.sl tI)]<|fun (x5:List Int) =>
       on1 (r10_anyE N x2 x5)<|gg [pB]<|fun (x6:Bool) =>
       bi x6 (
        some (0,gB.dv false [])) <|
       again (w.i64 (x0+1)) x1 x2) <|
      again (w.i64 (x0+1)) x1 x2) <|
     again (w.i64 (x0+1)) x1 x2) <|
    again (w.i64 (x0+1)) x1 x2) <|
   again (w.i64 (x0+1)) x1 x2) <|
  bi (x3 == 5) (
   on1 (r10_onE N x2 ((List.getD x1.Code x0.toNat api_Ins.z).2.2.1))<|gg [pB]<|fun (x7:Bool) =>
   bi x7 (
    some (0,gB.dv false [])) <|
   bi (decide (x3≥1)) (
    bi (decide (x3≤3)) (
     bi (decide ((List.getD x1.Code x0.toNat api_Ins.z).2.1 > 0)) (
      gd (idx (List.getD x1.Code x0.toNat api_Ins.z).2.1 16) <|
      bi ((List.getD x2 (Int.toNat (List.getD x1.Code x0.toNat api_Ins.z).2.1) 0) == 1) (
       on1 (r1_Reads N (List.getD x1.Code x0.toNat api_Ins.z))<|gg [pD (.sl tI)]<|fun (x8:List Int) =>
       on1 (r10_anyE N x2 x8)<|gg [pB]<|fun (x9:Bool) =>
       bi x9 (
        some (0,gB.dv false [])) <|
       again (w.i64 (x0+1)) x1 x2) <|
      again (w.i64 (x0+1)) x1 x2) <|
     again (w.i64 (x0+1)) x1 x2) <|
    again (w.i64 (x0+1)) x1 x2) <|
   again (w.i64 (x0+1)) x1 x2) <|
  bi (decide (x3≥1)) (
   bi (decide (x3≤3)) (
    bi (decide ((List.getD x1.Code x0.toNat api_Ins.z).2.1 > 0)) (
     gd (idx (List.getD x1.Code x0.toNat api_Ins.z).2.1 16) <|
     bi ((List.getD x2 (Int.toNat (List.getD x1.Code x0.toNat api_Ins.z).2.1) 0) == 1) (
      on1 (r1_Reads N (List.getD x1.Code x0.toNat api_Ins.z))<|gg [pD (.sl tI)]<|fun (x10:List Int) =>
      on1 (r10_anyE N x2 x10)<|gg [pB]<|fun (x11:Bool) =>
      bi x11 (
       some (0,gB.dv false [])) <|
      again (w.i64 (x0+1)) x1 x2) <|
     again (w.i64 (x0+1)) x1 x2) <|
    again (w.i64 (x0+1)) x1 x2) <|
   again (w.i64 (x0+1)) x1 x2) <|
  again (w.i64 (x0+1)) x1 x2) <|
 some (3,[])
def r10_Closed_l2 (N:Nat):Nat→Fn' (Option Rs) [pI,p_api_Program,pD (.ar 16 tI)]:=lpG (r10_Closed_r2 N)
def L_r10_Closed_2 (N:Nat):LE:=(2,mkM [pI,p_api_Program,pD (.ar 16 tI)] [(0,[pB]),(3,[])] (r10_Closed_l2 N N))
theorem K_r10_Closed_2 (N:Nat):LEok Q h_r10_Closed (bodOf f52) f52.ntmps 0 (L_r10_Closed_2 N) :=
 loopG (hi:=h_r10_Closed) (l:=T_r10_Closed N) (t:=[]) (r:=r10_Closed_r2 N) ti_ok hmix (TT_r10_Closed N) (A_r10_Closed N) f_52 trivial (ls:=s_r10_Closed_2) (body:=bodyAt f52 2) (by kernel_rfl) (by kernel_rfl) fun A ys=>by kernel_rfl
def r10_Closed (N:Nat) (x0:api_Program) (x1:List Int):Option Rs :=
 on1 (r1_RightProgram N x0)<|gg [pB]<|fun (x2:Bool) =>
 bi (!x2) (
  some (0,gB.dv false [])) <|
 gd (idx 0 16) <|
 bi ((List.getD x1 0 0) != 0) (
  some (0,gB.dv false [])) <|
 onB 0 1 (r10_Closed_l0 N N 1 x0 x1) (gg [pB]<|fun (x3:Bool) =>
  some (0,gB.dv x3 []))<|gg [p_api_Program,pD (.ar 16 tI)]<|fun (x4:api_Program) (x5:List Int) =>
 onB 0 3 (r10_Closed_l2 N N 0 x4 x5) (gg [pB]<|fun (x6:Bool) =>
  some (0,gB.dv x6 []))<|gg [] <|
 some (0,gB.dv true [])
def X_r10_Closed (N:Nat):CE:=(c_r10_Closed,mkF [p_api_Program,pD (.ar 16 tI)] [pB] (r10_Closed N))
theorem Y_r10_Closed (N:Nat):CEok Q (X_r10_Closed N) :=
 fnG (hi:=h_r10_Closed) (l:=T_r10_Closed N) (t:=[L_r10_Closed_0 N,L_r10_Closed_2 N]) ti_ok hmix (TT_r10_Closed N) (A_r10_Closed N) f_52 (by kernel_rfl) (by kernel_rfl) ⟨K_r10_Closed_0 N,K_r10_Closed_2 N,trivial⟩ fun ys=>by kernel_rfl
def c_r10_ends:CS:=⟨12,79,⟨[.agg [.d tI,.d tI,.d tI,.d tI,.d tI]],[]⟩,[.one (.d tB)],true,[]⟩
def h_r10_ends:Hi:=⟨[((1,2),c_r1_Form)],[],[9,13],[],[]⟩
theorem f_79:Fn Q 79 f79 (codeOf f79):=by constructor <;> kernel_rfl
def r10_ends (N:Nat) (x0:api_Ins):Option Rs :=
 on1 (r1_Form N x0.1)<|gg [pI]<|fun (x1:Int) =>
 bi (x1 == 6) (
  some (0,gB.dv true [])) <|
 bi (x1 == 7) (
  some (0,gB.dv true [])) <|
 some (0,gB.dv (x1 == 8) [])
def X_r10_ends (N:Nat):CE:=(c_r10_ends,mkF [p_api_Ins] [pB] (r10_ends N))
theorem Y_r10_ends (N:Nat):CEok Q (X_r10_ends N) :=
 fnG (hi:=h_r10_ends) (l:=[X_r1_Form N]) (t:=[]) ti_ok hmix ⟨Y_r1_Form N,trivial⟩ ⟨rfl,trivial⟩ f_79 (by kernel_rfl) (by kernel_rfl) trivial fun ys=>by kernel_rfl
def c_r10_Leaders:CS:=⟨13,74,⟨[.agg [.d (.sl t_api_Ins),.d tI,.d (.sl tU)]],[]⟩,[.one (.o tI)],true,[]⟩
def s_r10_Leaders_0:LS:=⟨⟨[.no,.one (.p 0 0 [1,1,1]),.no,.one (.o tB),.one (.d tI)]++nos 60,[[.d (.sl t_api_Ins),.d tI,.d (.sl tU)]]⟩,[(1,⟨[.no,.no,.no,.one (.o tB)]++nos 61,[]⟩)]⟩
def s_r10_Leaders_2:LS:=⟨⟨[.no,.no,.no,.one (.o tB),.no,.no,.one (.o tI),.one (.d tI)]++nos 57,[]⟩,[(3,⟨nos 6++[.one (.o tI)]++nos 58,[]⟩)]⟩
def h_r10_Leaders:Hi:=⟨[((1,1),c_r1_RightProgram),((8,2),c_r1_Target),((11,5),c_r10_ends)],[(0,s_r10_Leaders_0),(2,s_r10_Leaders_2)],[10,21,28,38,45,53,59],[],[]⟩
theorem f_74:Fn Q 74 f74 (codeOf f74):=by constructor <;> kernel_rfl
def T_r10_Leaders (N:Nat):List CE:=[X_r1_RightProgram N,X_r1_Target N,X_r10_ends N]
theorem TT_r10_Leaders (N:Nat):AllP (CEok Q) (T_r10_Leaders N):=⟨Y_r1_RightProgram N,Y_r1_Target N,Y_r10_ends N,trivial⟩
theorem A_r10_Leaders (N:Nat):AllP (fun e=>lookC (T_r10_Leaders N) e.2.id = some e.2) h_r10_Leaders.cs:=⟨rfl,rfl,rfl,trivial⟩
def r10_Leaders_r0 (N:Nat) (again:Fn' (Option Rs) [pD (.sl tB),pI,p_api_Program]) (x0:List Bool) (x1:Int) (x2:api_Program):Option Rs :=
 bi (decide (x1 < (len x2.Code))) (
  on1 (r1_Target N x2 x1)<|gg [pI]<|fun (x3:Int) =>
  bi (decide (x3≥0)) (
   gd (idx x3 (List.length x0)) <|
   gd (idx x1 (List.length x2.Code)) <|
   on1 (r10_ends N (List.getD x2.Code x1.toNat api_Ins.z))<|gg [pB]<|fun (x4:Bool) =>
   bi x4 (
    bi (decide ((w.i64 (x1+1)) < (len x2.Code))) (
     gd (idx (w.i64 (x1+1)) (List.length (List.set x0 x3.toNat true))) <|
     again (List.set (List.set x0 x3.toNat true) (Int.toNat (w.i64 (x1+1))) true) (w.i64 (x1+1)) x2) <|
    again (List.set x0 x3.toNat true) (w.i64 (x1+1)) x2) <|
   again (List.set x0 x3.toNat true) (w.i64 (x1+1)) x2) <|
  gd (idx x1 (List.length x2.Code)) <|
  on1 (r10_ends N (List.getD x2.Code x1.toNat api_Ins.z))<|gg [pB]<|fun (x5:Bool) =>
  bi x5 (
   bi (decide ((w.i64 (x1+1)) < (len x2.Code))) (
    gd (idx (w.i64 (x1+1)) (List.length x0)) <|
    again (List.set x0 (Int.toNat (w.i64 (x1+1))) true) (w.i64 (x1+1)) x2) <|
   again x0 (w.i64 (x1+1)) x2) <|
  again x0 (w.i64 (x1+1)) x2) <|
 some (1,(gD (.sl tB)).dv x0 [])
def r10_Leaders_l0 (N:Nat):Nat→Fn' (Option Rs) [pD (.sl tB),pI,p_api_Program]:=lpG (r10_Leaders_r0 N)
def L_r10_Leaders_0 (N:Nat):LE:=(0,mkM [pD (.sl tB),pI,p_api_Program] [(1,[pD (.sl tB)])] (r10_Leaders_l0 N N))
theorem K_r10_Leaders_0 (N:Nat):LEok Q h_r10_Leaders (bodOf f74) f74.ntmps 0 (L_r10_Leaders_0 N) :=
 loopG (hi:=h_r10_Leaders) (l:=T_r10_Leaders N) (t:=[]) (r:=r10_Leaders_r0 N) ti_ok hmix (TT_r10_Leaders N) (A_r10_Leaders N) f_74 trivial (ls:=s_r10_Leaders_0) (body:=bodyAt f74 0) (by kernel_rfl) (by kernel_rfl) fun A ys=>by kernel_rfl
def r10_Leaders_r2 (N:Nat) (again:Fn' (Option Rs) [pD (.sl tB),pD (.sl tI),pI]) (x0:List Bool) (x1:List Int) (x2:Int):Option Rs :=
 bi (decide (x2 < (len x0))) (
  gd (idx x2 (List.length x0)) <|
  bi (List.getD x0 x2.toNat false) (
   gd (rm x1 [x2] 8) <|
   again x0 (x1++[x2]) (w.i64 (x2+1))) <|
  again x0 x1 (w.i64 (x2+1))) <|
 some (3,(gD (.sl tI)).dv x1 [])
def r10_Leaders_l2 (N:Nat):Nat→Fn' (Option Rs) [pD (.sl tB),pD (.sl tI),pI]:=lpG (r10_Leaders_r2 N)
def L_r10_Leaders_2 (N:Nat):LE:=(2,mkM [pD (.sl tB),pD (.sl tI),pI] [(3,[pD (.sl tI)])] (r10_Leaders_l2 N N))
theorem K_r10_Leaders_2 (N:Nat):LEok Q h_r10_Leaders (bodOf f74) f74.ntmps 0 (L_r10_Leaders_2 N) :=
 loopG (hi:=h_r10_Leaders) (l:=T_r10_Leaders N) (t:=[]) (r:=r10_Leaders_r2 N) ti_ok hmix (TT_r10_Leaders N) (A_r10_Leaders N) f_74 trivial (ls:=s_r10_Leaders_2) (body:=bodyAt f74 2) (by kernel_rfl) (by kernel_rfl) fun A ys=>by kernel_rfl
def r10_Leaders (N:Nat) (x0:api_Program):Option Rs :=
 on1 (r1_RightProgram N x0)<|gg [pB]<|fun (x1:Bool) =>
 bi (!x1) (
  some (0,(gD (.sl tI)).dv ([]:List Int) [])) <|
 gd (decide (0≤(len x0.Code)∧(len x0.Code)≤(len x0.Code)∧(len x0.Code)*((1:Nat):Int)≤((reach:Nat):Int)∧(len x0.Code)≤((reach:Nat):Int))) <|
 gd (idx 0 (List.length (List.replicate (Int.toNat (len x0.Code)) false))) <|
 onA 1 (r10_Leaders_l0 N N (List.set (List.replicate (Int.toNat (len x0.Code)) false) 0 true) 0 x0)<|gg [pD (.sl tB)]<|fun (x2:List Bool) =>
 onA 3 (r10_Leaders_l2 N N x2 ([]:List Int) 0)<|gg [pD (.sl tI)]<|fun (x3:List Int) =>
 some (0,(gD (.sl tI)).dv x3 [])
def X_r10_Leaders (N:Nat):CE:=(c_r10_Leaders,mkF [p_api_Program] [pD (.sl tI)] (r10_Leaders N))
theorem Y_r10_Leaders (N:Nat):CEok Q (X_r10_Leaders N) :=
 fnG (hi:=h_r10_Leaders) (l:=T_r10_Leaders N) (t:=[L_r10_Leaders_0 N,L_r10_Leaders_2 N]) ti_ok hmix (TT_r10_Leaders N) (A_r10_Leaders N) f_74 (by kernel_rfl) (by kernel_rfl) ⟨K_r10_Leaders_0 N,K_r10_Leaders_2 N,trivial⟩ fun ys=>by kernel_rfl
def c_r10_find:CS:=⟨14,61,⟨[.one (.d (.sl tI)),.one (.d tI)],[]⟩,[.one (.d tI)],true,[]⟩
def s_r10_find_0:LS:=⟨⟨[.one (.d (.sl tI)),.one (.d tI),.no,.no,.no,.one (.d tI)]++nos 13,[]⟩,[(0,⟨[.no,.no,.no,.no,.one (.d tI)]++nos 14,[]⟩),(1,⟨nos 19,[]⟩)]⟩
def h_r10_find:Hi:=⟨[],[(0,s_r10_find_0)],[9,17],[],[]⟩
theorem f_61:Fn Q 61 f61 (codeOf f61):=by constructor <;> kernel_rfl
def T_r10_find (N:Nat):List CE:=[]
theorem TT_r10_find (N:Nat):AllP (CEok Q) (T_r10_find N):=trivial
theorem A_r10_find (N:Nat):AllP (fun e=>lookC (T_r10_find N) e.2.id = some e.2) h_r10_find.cs:=trivial
def r10_find_r0 (N:Nat) (again:Fn' (Option Rs) [pD (.sl tI),pI,pI]) (x0:List Int) (x1:Int) (x2:Int):Option Rs :=
 bi (decide (x2 < (len x0))) (
  gd (idx x2 (List.length x0)) <|
  bi ((List.getD x0 x2.toNat 0) == x1) (
   some (0,gI.dv x2 [])) <|
  again x0 x1 (w.i64 (x2+1))) <|
 some (1,[])
def r10_find_l0 (N:Nat):Nat→Fn' (Option Rs) [pD (.sl tI),pI,pI]:=lpG (r10_find_r0 N)
def L_r10_find_0 (N:Nat):LE:=(0,mkM [pD (.sl tI),pI,pI] [(0,[pI]),(1,[])] (r10_find_l0 N N))
theorem K_r10_find_0 (N:Nat):LEok Q h_r10_find (bodOf f61) f61.ntmps 0 (L_r10_find_0 N) :=
 loopG (hi:=h_r10_find) (l:=T_r10_find N) (t:=[]) (r:=r10_find_r0 N) ti_ok hmix (TT_r10_find N) (A_r10_find N) f_61 trivial (ls:=s_r10_find_0) (body:=bodyAt f61 0) (by kernel_rfl) (by kernel_rfl) fun A ys=>by kernel_rfl
def r10_find (N:Nat) (x0:List Int) (x1:Int):Option Rs :=
 onB 0 1 (r10_find_l0 N N x0 x1 0) (gg [pI]<|fun (x2:Int) =>
  some (0,gI.dv x2 []))<|gg [] <|
 some (0,gI.dv (-1:Int) [])
def X_r10_find (N:Nat):CE:=(c_r10_find,mkF [pD (.sl tI),pI] [pI] (r10_find N))
theorem Y_r10_find (N:Nat):CEok Q (X_r10_find N) :=
 fnG (hi:=h_r10_find) (l:=T_r10_find N) (t:=[L_r10_find_0 N]) ti_ok hmix (TT_r10_find N) (A_r10_find N) f_61 (by kernel_rfl) (by kernel_rfl) ⟨K_r10_find_0 N,trivial⟩ fun ys=>by kernel_rfl
def c_r10_Cut:CS:=⟨15,53,⟨[.agg [.d (.sl t_api_Ins),.d tI,.d (.sl tU)]],[]⟩,[.one (.o (.pair tI (.pair tI (.pair tI (.pair tI (.pair .nl (.pair .nl .unit)))))))],true,[]⟩
def s_r10_Cut_0:LS:=⟨⟨[.no,.one (.p 0 0 [1,1,1]),.no,.one (.o tI),.one (.o (.pair tI (.pair tI (.pair tI (.pair tI (.pair .nl (.pair .nl .unit))))))),.one (.d tI)]++nos 66,[[.d (.sl t_api_Ins),.d tI,.d (.sl tU)]]⟩,[(1,⟨[.no,.no,.no,.no,.one (.o (.pair tI (.pair tI (.pair tI (.pair tI (.pair .nl (.pair .nl .unit)))))))]++nos 67,[]⟩)]⟩
def h_r10_Cut:Hi:=⟨[((1,1),c_r10_Leaders),((11,3),c_r10_find),((12,4),c_r1_Target),((14,2),c_r10_find)],[(0,s_r10_Cut_0)],[14,29,46,50,62],[],[]⟩
theorem f_53:Fn Q 53 f53 (codeOf f53):=by constructor <;> kernel_rfl
def T_r10_Cut (N:Nat):List CE:=[X_r10_Leaders N,X_r10_find N,X_r1_Target N]
theorem TT_r10_Cut (N:Nat):AllP (CEok Q) (T_r10_Cut N):=⟨Y_r10_Leaders N,Y_r10_find N,Y_r1_Target N,trivial⟩
theorem A_r10_Cut (N:Nat):AllP (fun e=>lookC (T_r10_Cut N) e.2.id = some e.2) h_r10_Cut.cs:=⟨rfl,rfl,rfl,rfl,trivial⟩
def r10_Cut_r0 (N:Nat) (again:Fn' (Option Rs) [pD (.sl tI),pD (.sl (.pair tI (.pair tI (.pair tI (.pair tI (.pair .nl (.pair .nl .unit))))))),pI,p_api_Program]) (x0:List Int) (x1:List (Int × (Int × (Int × (Int × (Unit × (Unit × Unit))))))) (x2:Int) (x3:api_Program):Option Rs :=
 bi (decide (x2 < (len x0))) (
  gd (idx x2 (List.length x0)) <|
  bi (decide ((w.i64 (x2+1)) < (len x0))) (
   gd (idx (w.i64 (x2+1)) (List.length x0)) <|
   gd (idx (w.i64 ((List.getD x0 (Int.toNat (w.i64 (x2+1))) 0) - 1)) (List.length x3.Code)) <|
   bi ((List.getD x3.Code (Int.toNat (w.i64 ((List.getD x0 (Int.toNat (w.i64 (x2+1))) 0) - 1))) api_Ins.z).1 != 40) (
    bi ((List.getD x3.Code (Int.toNat (w.i64 ((List.getD x0 (Int.toNat (w.i64 (x2+1))) 0) - 1))) api_Ins.z).1 != 41) (
     on1 (r10_find N x0 (List.getD x0 (Int.toNat (w.i64 (x2+1))) 0))<|gg [pI]<|fun (x4:Int) =>
     on1 (r1_Target N x3 (w.i64 ((List.getD x0 (Int.toNat (w.i64 (x2+1))) 0) - 1)))<|gg [pI]<|fun (x5:Int) =>
     bi (decide (x5≥0)) (
      on1 (r10_find N x0 x5)<|gg [pI]<|fun (x6:Int) =>
      gd (rm x1 [((List.getD x0 x2.toNat 0),((List.getD x0 (Int.toNat (w.i64 (x2+1))) 0),(x4,(x6,((),((),()))))))] 80) <|
      again x0 (x1++[((List.getD x0 x2.toNat 0),((List.getD x0 (Int.toNat (w.i64 (x2+1))) 0),(x4,(x6,((),((),()))))))]) (w.i64 (x2+1)) x3) <|
     gd (rm x1 [((List.getD x0 x2.toNat 0),((List.getD x0 (Int.toNat (w.i64 (x2+1))) 0),(x4,((-1:Int),((),((),()))))))] 80) <|
     again x0 (x1++[((List.getD x0 x2.toNat 0),((List.getD x0 (Int.toNat (w.i64 (x2+1))) 0),(x4,((-1:Int),((),((),()))))))]) (w.i64 (x2+1)) x3) <|
    on1 (r1_Target N x3 (w.i64 ((List.getD x0 (Int.toNat (w.i64 (x2+1))) 0) - 1)))<|gg [pI]<|fun (x7:Int) =>
    bi (decide (x7≥0)) (
     on1 (r10_find N x0 x7)<|gg [pI]<|fun (x8:Int) =>
     gd (rm x1 [((List.getD x0 x2.toNat 0),((List.getD x0 (Int.toNat (w.i64 (x2+1))) 0),((-1:Int),(x8,((),((),()))))))] 80) <|
     again x0 (x1++[((List.getD x0 x2.toNat 0),((List.getD x0 (Int.toNat (w.i64 (x2+1))) 0),((-1:Int),(x8,((),((),()))))))]) (w.i64 (x2+1)) x3) <|
    gd (rm x1 [((List.getD x0 x2.toNat 0),((List.getD x0 (Int.toNat (w.i64 (x2+1))) 0),((-1:Int),((-1:Int),((),((),()))))))] 80) <|
    again x0 (x1++[((List.getD x0 x2.toNat 0),((List.getD x0 (Int.toNat (w.i64 (x2+1))) 0),((-1:Int),((-1:Int),((),((),()))))))]) (w.i64 (x2+1)) x3) <|
   on1 (r1_Target N x3 (w.i64 ((List.getD x0 (Int.toNat (w.i64 (x2+1))) 0) - 1)))<|gg [pI]<|fun (x9:Int) =>
   bi (decide (x9≥0)) (
    on1 (r10_find N x0 x9)<|gg [pI]<|fun (x10:Int) =>
    gd (rm x1 [((List.getD x0 x2.toNat 0),((List.getD x0 (Int.toNat (w.i64 (x2+1))) 0),((-1:Int),(x10,((),((),()))))))] 80) <|
    again x0 (x1++[((List.getD x0 x2.toNat 0),((List.getD x0 (Int.toNat (w.i64 (x2+1))) 0),((-1:Int),(x10,((),((),()))))))]) (w.i64 (x2+1)) x3) <|
   gd (rm x1 [((List.getD x0 x2.toNat 0),((List.getD x0 (Int.toNat (w.i64 (x2+1))) 0),((-1:Int),((-1:Int),((),((),()))))))] 80) <|
   again x0 (x1++[((List.getD x0 x2.toNat 0),((List.getD x0 (Int.toNat (w.i64 (x2+1))) 0),((-1:Int),((-1:Int),((),((),()))))))]) (w.i64 (x2+1)) x3) <|
  gd (idx (w.i64 ((len x3.Code) - 1)) (List.length x3.Code)) <|
  bi ((List.getD x3.Code (Int.toNat (w.i64 ((len x3.Code) - 1))) api_Ins.z).1 != 40) (
   bi ((List.getD x3.Code (Int.toNat (w.i64 ((len x3.Code) - 1))) api_Ins.z).1 != 41) (
    on1 (r10_find N x0 (len x3.Code))<|gg [pI]<|fun (x11:Int) =>
    on1 (r1_Target N x3 (w.i64 ((len x3.Code) - 1)))<|gg [pI]<|fun (x12:Int) =>
    bi (decide (x12≥0)) (
     on1 (r10_find N x0 x12)<|gg [pI]<|fun (x13:Int) =>
     gd (rm x1 [((List.getD x0 x2.toNat 0),((len x3.Code),(x11,(x13,((),((),()))))))] 80) <|
     again x0 (x1++[((List.getD x0 x2.toNat 0),((len x3.Code),(x11,(x13,((),((),()))))))]) (w.i64 (x2+1)) x3) <|
    gd (rm x1 [((List.getD x0 x2.toNat 0),((len x3.Code),(x11,((-1:Int),((),((),()))))))] 80) <|
    again x0 (x1++[((List.getD x0 x2.toNat 0),((len x3.Code),(x11,((-1:Int),((),((),()))))))]) (w.i64 (x2+1)) x3) <|
   on1 (r1_Target N x3 (w.i64 ((len x3.Code) - 1)))<|gg [pI]<|fun (x14:Int) =>
   bi (decide (x14≥0)) (
    on1 (r10_find N x0 x14)<|gg [pI]<|fun (x15:Int) =>
    gd (rm x1 [((List.getD x0 x2.toNat 0),((len x3.Code),((-1:Int),(x15,((),((),()))))))] 80) <|
    again x0 (x1++[((List.getD x0 x2.toNat 0),((len x3.Code),((-1:Int),(x15,((),((),()))))))]) (w.i64 (x2+1)) x3) <|
   gd (rm x1 [((List.getD x0 x2.toNat 0),((len x3.Code),((-1:Int),((-1:Int),((),((),()))))))] 80) <|
   again x0 (x1++[((List.getD x0 x2.toNat 0),((len x3.Code),((-1:Int),((-1:Int),((),((),()))))))]) (w.i64 (x2+1)) x3) <|
  on1 (r1_Target N x3 (w.i64 ((len x3.Code) - 1)))<|gg [pI]<|fun (x16:Int) =>
  bi (decide (x16≥0)) (
   on1 (r10_find N x0 x16)<|gg [pI]<|fun (x17:Int) =>
   gd (rm x1 [((List.getD x0 x2.toNat 0),((len x3.Code),((-1:Int),(x17,((),((),()))))))] 80) <|
   again x0 (x1++[((List.getD x0 x2.toNat 0),((len x3.Code),((-1:Int),(x17,((),((),()))))))]) (w.i64 (x2+1)) x3) <|
  gd (rm x1 [((List.getD x0 x2.toNat 0),((len x3.Code),((-1:Int),((-1:Int),((),((),()))))))] 80) <|
  again x0 (x1++[((List.getD x0 x2.toNat 0),((len x3.Code),((-1:Int),((-1:Int),((),((),()))))))]) (w.i64 (x2+1)) x3) <|
 some (1,(gD (.sl (.pair tI (.pair tI (.pair tI (.pair tI (.pair .nl (.pair .nl .unit)))))))).dv x1 [])
def r10_Cut_l0 (N:Nat):Nat→Fn' (Option Rs) [pD (.sl tI),pD (.sl (.pair tI (.pair tI (.pair tI (.pair tI (.pair .nl (.pair .nl .unit))))))),pI,p_api_Program]:=lpG (r10_Cut_r0 N)
def L_r10_Cut_0 (N:Nat):LE:=(0,mkM [pD (.sl tI),pD (.sl (.pair tI (.pair tI (.pair tI (.pair tI (.pair .nl (.pair .nl .unit))))))),pI,p_api_Program] [(1,[pD (.sl (.pair tI (.pair tI (.pair tI (.pair tI (.pair .nl (.pair .nl .unit)))))))])] (r10_Cut_l0 N N))
theorem K_r10_Cut_0 (N:Nat):LEok Q h_r10_Cut (bodOf f53) f53.ntmps 0 (L_r10_Cut_0 N) :=
 loopG (hi:=h_r10_Cut) (l:=T_r10_Cut N) (t:=[]) (r:=r10_Cut_r0 N) ti_ok1 hmix (TT_r10_Cut N) (A_r10_Cut N) f_53 trivial (ls:=s_r10_Cut_0) (body:=bodyAt f53 0) (by kernel_rfl) (by kernel_rfl) fun A ys=>by kernel_rfl
def r10_Cut (N:Nat) (x0:api_Program):Option Rs :=
 on1 (r10_Leaders N x0)<|gg [pD (.sl tI)]<|fun (x1:List Int) =>
 onA 1 (r10_Cut_l0 N N x1 ([]:List (Int × (Int × (Int × (Int × (Unit × (Unit × Unit))))))) 0 x0)<|gg [pD (.sl (.pair tI (.pair tI (.pair tI (.pair tI (.pair .nl (.pair .nl .unit)))))))]<|fun (x2:List (Int × (Int × (Int × (Int × (Unit × (Unit × Unit))))))) =>
 some (0,(gD (.sl (.pair tI (.pair tI (.pair tI (.pair tI (.pair .nl (.pair .nl .unit)))))))).dv x2 [])
def X_r10_Cut (N:Nat):CE:=(c_r10_Cut,mkF [p_api_Program] [pD (.sl (.pair tI (.pair tI (.pair tI (.pair tI (.pair .nl (.pair .nl .unit)))))))] (r10_Cut N))
theorem Y_r10_Cut (N:Nat):CEok Q (X_r10_Cut N) :=
 fnG (hi:=h_r10_Cut) (l:=T_r10_Cut N) (t:=[L_r10_Cut_0 N]) ti_ok1 hmix (TT_r10_Cut N) (A_r10_Cut N) f_53 (by kernel_rfl) (by kernel_rfl) ⟨K_r10_Cut_0 N,trivial⟩ fun ys=>by kernel_rfl
def c_r10_owned:CS:=⟨16,42,⟨[.agg [.d (.ar 16 tI)],.one (.d tI)],[]⟩,[.one (.d tI)],true,[]⟩
def h_r10_owned:Hi:=⟨[],[],[7,10],[],[]⟩
theorem f_42:Fn Q 42 f42 (codeOf f42):=by constructor <;> kernel_rfl
def r10_owned (N:Nat) (x0:List Int) (x1:Int):Option Rs :=
 bi (decide (x1 < 1)) (
  some (0,gI.dv 0 [])) <|
 bi (decide (x1 > 15)) (
  some (0,gI.dv 0 [])) <|
 gd (idx x1 16) <|
 some (0,gI.dv (List.getD x0 x1.toNat 0) [])
def X_r10_owned (N:Nat):CE:=(c_r10_owned,mkF [pD (.ar 16 tI),pI] [pI] (r10_owned N))
theorem Y_r10_owned (N:Nat):CEok Q (X_r10_owned N) :=
 fnG (hi:=h_r10_owned) (l:=[]) (t:=[]) ti_ok hmix trivial trivial f_42 (by kernel_rfl) (by kernel_rfl) trivial fun ys=>by kernel_rfl
def c_r10_Side:CS:=⟨17,37,⟨[.agg [.d tI,.d tI,.d tI,.d tI,.d tI],.agg [.d (.ar 16 tI)]],[]⟩,[.one (.d tI)],true,[]⟩
def h_r10_Side:Hi:=⟨[((1,2),c_r1_Form),((4,1),c_r1_Reads),((5,3),c_r10_owned),((5,12),c_r10_anyE)],[],[12,15,23,27,33],[],[]⟩
theorem f_37:Fn Q 37 f37 (codeOf f37):=by constructor <;> kernel_rfl
def r10_Side (N:Nat) (x0:api_Ins) (x1:List Int):Option Rs :=
 on1 (r1_Form N x0.1)<|gg [pI]<|fun (x2:Int) =>
 bi (decide (x2 < 1)) (
  some (0,gI.dv 0 [])) <|
 bi (decide (x2 > 3)) (
  some (0,gI.dv 0 [])) <|
 on1 (r1_Reads N x0)<|gg [pD (.sl tI)]<|fun (x3:List Int) =>
 on1 (r10_owned N x1 x0.2.1)<|gg [pI]<|fun (x4:Int) =>
 bi (x4 == 1) (
  some (0,gI.dv 1 [])) <|
 bi (x0.2.1 == 0) (
  on1 (r10_anyE N x1 x3)<|gg [pB]<|fun (x5:Bool) =>
  bi (!x5) (
   some (0,gI.dv 1 [])) <|
  some (0,gI.dv 2 [])) <|
 some (0,gI.dv 2 [])
def X_r10_Side (N:Nat):CE:=(c_r10_Side,mkF [p_api_Ins,pD (.ar 16 tI)] [pI] (r10_Side N))
theorem Y_r10_Side (N:Nat):CEok Q (X_r10_Side N) :=
 fnG (hi:=h_r10_Side) (l:=[X_r1_Form N,X_r1_Reads N,X_r10_owned N,X_r10_anyE N]) (t:=[]) ti_ok hmix ⟨Y_r1_Form N,Y_r1_Reads N,Y_r10_owned N,Y_r10_anyE N,trivial⟩ ⟨rfl,rfl,rfl,rfl,trivial⟩ f_37 (by kernel_rfl) (by kernel_rfl) trivial fun ys=>by kernel_rfl
def c_r10_maker_ins:CS:=⟨18,38,⟨[.one (.p 0 0 [1,1,1]),.one (.d tI),.agg [.d tI,.d tI,.d tI,.d tI,.d tI]],[[.d tI,.d tI,.o t_api_Cell]]⟩,[],false,[[.d tI,.d tI,.o t_api_Cell]]⟩
def h_r10_maker_ins:Hi:=⟨[],[],[],[],[]⟩
theorem f_38:Fn Q 38 f38 (codeOf f38):=by constructor <;> kernel_rfl
def r10_maker_ins (N:Nat) (x0:Int) (x1:api_Ins) (x2:r10_maker):Option Rs :=
 gd (rm x2.L [(x0,(x1,(0,(x2.Pc,(x2.Off,())))))] 72) <|
 some (0,g_r10_maker.dv ({ x2 with L:=(x2.L++[(x0,(x1,(0,(x2.Pc,(x2.Off,())))))]) }:r10_maker) [])
def X_r10_maker_ins (N:Nat):CE:=(c_r10_maker_ins,mkF [pI,p_api_Ins,p_r10_maker] [p_r10_maker] (r10_maker_ins N))
theorem Y_r10_maker_ins (N:Nat):CEok Q (X_r10_maker_ins N) :=
 fnG (hi:=h_r10_maker_ins) (l:=[]) (t:=[]) ti_ok hmix trivial trivial f_38 (by kernel_rfl) (by kernel_rfl) trivial fun ys=>by kernel_rfl
def c_r10_sent:CS:=⟨19,40,⟨[.agg [.d tI,.d tI,.d tI,.d tI,.d tI],.agg [.d (.ar 16 tI)]],[]⟩,[.one (.o tI)],true,[]⟩
def s_r10_sent_0:LS:=⟨⟨[.no,.no,.no,.one (.p 0 0 [16]),.no,.one (.o tI),.one (.o tI),.one (.d tI)]++nos 32,[[.d (.ar 16 tI)]]⟩,[(1,⟨nos 6++[.one (.o tI)]++nos 33,[]⟩)]⟩
def h_r10_sent:Hi:=⟨[((1,1),c_r1_Reads),((6,5),c_r10_owned),((6,13),c_r10_find)],[(0,s_r10_sent_0)],[13,23,31],[],[]⟩
theorem f_40:Fn Q 40 f40 (codeOf f40):=by constructor <;> kernel_rfl
def T_r10_sent (N:Nat):List CE:=[X_r1_Reads N,X_r10_owned N,X_r10_find N]
theorem TT_r10_sent (N:Nat):AllP (CEok Q) (T_r10_sent N):=⟨Y_r1_Reads N,Y_r10_owned N,Y_r10_find N,trivial⟩
theorem A_r10_sent (N:Nat):AllP (fun e=>lookC (T_r10_sent N) e.2.id = some e.2) h_r10_sent.cs:=⟨rfl,rfl,rfl,trivial⟩
def r10_sent_r0 (N:Nat) (again:Fn' (Option Rs) [pD (.sl tI),pD (.sl tI),pI,pD (.ar 16 tI)]) (x0:List Int) (x1:List Int) (x2:Int) (x3:List Int):Option Rs :=
 bi (decide (x2 < (len x0))) (
  gd (idx x2 (List.length x0)) <|
  on1 (r10_owned N x3 (List.getD x0 x2.toNat 0))<|gg [pI]<|fun (x4:Int) =>
  bi (x4 == 1) (
   gd (idx x2 (List.length x0)) <|
   on1 (r10_find N x1 (List.getD x0 x2.toNat 0))<|gg [pI]<|fun (x5:Int) =>
   bi (decide (x5 < 0)) (
    gd (idx x2 (List.length x0)) <|
    gd (rm x1 [(List.getD x0 x2.toNat 0)] 8) <|
    again x0 (x1++[(List.getD x0 x2.toNat 0)]) (w.i64 (x2+1)) x3) <|
   again x0 x1 (w.i64 (x2+1)) x3) <|
  again x0 x1 (w.i64 (x2+1)) x3) <|
 some (1,(gD (.sl tI)).dv x1 [])
def r10_sent_l0 (N:Nat):Nat→Fn' (Option Rs) [pD (.sl tI),pD (.sl tI),pI,pD (.ar 16 tI)]:=lpG (r10_sent_r0 N)
def L_r10_sent_0 (N:Nat):LE:=(0,mkM [pD (.sl tI),pD (.sl tI),pI,pD (.ar 16 tI)] [(1,[pD (.sl tI)])] (r10_sent_l0 N N))
theorem K_r10_sent_0 (N:Nat):LEok Q h_r10_sent (bodOf f40) f40.ntmps 0 (L_r10_sent_0 N) :=
 loopG (hi:=h_r10_sent) (l:=T_r10_sent N) (t:=[]) (r:=r10_sent_r0 N) ti_ok hmix (TT_r10_sent N) (A_r10_sent N) f_40 trivial (ls:=s_r10_sent_0) (body:=bodyAt f40 0) (by kernel_rfl) (by kernel_rfl) fun A ys=>by kernel_rfl
def r10_sent (N:Nat) (x0:api_Ins) (x1:List Int):Option Rs :=
 on1 (r1_Reads N x0)<|gg [pD (.sl tI)]<|fun (x2:List Int) =>
 onA 1 (r10_sent_l0 N N x2 ([]:List Int) 0 x1)<|gg [pD (.sl tI)]<|fun (x3:List Int) =>
 some (0,(gD (.sl tI)).dv x3 [])
def X_r10_sent (N:Nat):CE:=(c_r10_sent,mkF [p_api_Ins,pD (.ar 16 tI)] [pD (.sl tI)] (r10_sent N))
theorem Y_r10_sent (N:Nat):CEok Q (X_r10_sent N) :=
 fnG (hi:=h_r10_sent) (l:=T_r10_sent N) (t:=[L_r10_sent_0 N]) ti_ok hmix (TT_r10_sent N) (A_r10_sent N) f_40 (by kernel_rfl) (by kernel_rfl) ⟨K_r10_sent_0 N,trivial⟩ fun ys=>by kernel_rfl
def c_r10_maker_reg:CS:=⟨20,43,⟨[.one (.p 0 0 [1,1,1]),.one (.d tI),.one (.d tI)],[[.d tI,.d tI,.o t_api_Cell]]⟩,[],false,[[.d tI,.d tI,.o t_api_Cell]]⟩
def h_r10_maker_reg:Hi:=⟨[],[],[],[],[]⟩
theorem f_43:Fn Q 43 f43 (codeOf f43):=by constructor <;> kernel_rfl
def r10_maker_reg (N:Nat) (x0:Int) (x1:Int) (x2:r10_maker):Option Rs :=
 gd (rm x2.L [(x0,(api_Ins.z,(x1,(x2.Pc,(x2.Off,())))))] 72) <|
 some (0,g_r10_maker.dv ({ x2 with L:=(x2.L++[(x0,(api_Ins.z,(x1,(x2.Pc,(x2.Off,())))))]) }:r10_maker) [])
def X_r10_maker_reg (N:Nat):CE:=(c_r10_maker_reg,mkF [pI,pI,p_r10_maker] [p_r10_maker] (r10_maker_reg N))
theorem Y_r10_maker_reg (N:Nat):CEok Q (X_r10_maker_reg N) :=
 fnG (hi:=h_r10_maker_reg) (l:=[]) (t:=[]) ti_ok hmix trivial trivial f_43 (by kernel_rfl) (by kernel_rfl) trivial fun ys=>by kernel_rfl
def c_r10_maker_regs:CS:=⟨21,39,⟨[.one (.p 0 0 [1,1,1]),.one (.d tI),.one (.d (.sl tI))],[[.d tI,.d tI,.o t_api_Cell]]⟩,[],false,[[.d tI,.d tI,.o t_api_Cell]]⟩
def s_r10_maker_regs_0:LS:=⟨⟨[.one (.p 0 0 [1,1,1]),.one (.d tI),.one (.d (.sl tI)),.no,.no,.no,.one (.d tI)]++nos 13,[[.d tI,.d tI,.o t_api_Cell]]⟩,[(1,⟨nos 20,[[.d tI,.d tI,.o t_api_Cell]]⟩)]⟩
def h_r10_maker_regs:Hi:=⟨[((3,6),c_r10_maker_reg)],[(0,s_r10_maker_regs_0)],[10],[],[]⟩
theorem f_39:Fn Q 39 f39 (codeOf f39):=by constructor <;> kernel_rfl
def T_r10_maker_regs (N:Nat):List CE:=[X_r10_maker_reg N]
theorem TT_r10_maker_regs (N:Nat):AllP (CEok Q) (T_r10_maker_regs N):=⟨Y_r10_maker_reg N,trivial⟩
theorem A_r10_maker_regs (N:Nat):AllP (fun e=>lookC (T_r10_maker_regs N) e.2.id = some e.2) h_r10_maker_regs.cs:=⟨rfl,trivial⟩
def r10_maker_regs_r0 (N:Nat) (again:Fn' (Option Rs) [pI,pD (.sl tI),pI,p_r10_maker]) (x0:Int) (x1:List Int) (x2:Int) (x3:r10_maker):Option Rs :=
 bi (decide (x2 < (len x1))) (
  gd (idx x2 (List.length x1)) <|
  on1 (r10_maker_reg N x0 (List.getD x1 x2.toNat 0) x3)<|gg [p_r10_maker]<|fun (x4:r10_maker) =>
  again x0 x1 (w.i64 (x2+1)) x4) <|
 some (1,g_r10_maker.dv x3 [])
def r10_maker_regs_l0 (N:Nat):Nat→Fn' (Option Rs) [pI,pD (.sl tI),pI,p_r10_maker]:=lpG (r10_maker_regs_r0 N)
def L_r10_maker_regs_0 (N:Nat):LE:=(0,mkM [pI,pD (.sl tI),pI,p_r10_maker] [(1,[p_r10_maker])] (r10_maker_regs_l0 N N))
theorem K_r10_maker_regs_0 (N:Nat):LEok Q h_r10_maker_regs (bodOf f39) f39.ntmps 1 (L_r10_maker_regs_0 N) :=
 loopG (hi:=h_r10_maker_regs) (l:=T_r10_maker_regs N) (t:=[]) (r:=r10_maker_regs_r0 N) ti_ok hmix (TT_r10_maker_regs N) (A_r10_maker_regs N) f_39 trivial (ls:=s_r10_maker_regs_0) (body:=bodyAt f39 0) (by kernel_rfl) (by kernel_rfl) fun A ys=>by kernel_rfl
def r10_maker_regs (N:Nat) (x0:Int) (x1:List Int) (x2:r10_maker):Option Rs :=
 onA 1 (r10_maker_regs_l0 N N x0 x1 0 x2)<|gg [p_r10_maker]<|fun (x3:r10_maker) =>
 some (0,g_r10_maker.dv x3 [])
def X_r10_maker_regs (N:Nat):CE:=(c_r10_maker_regs,mkF [pI,pD (.sl tI),p_r10_maker] [p_r10_maker] (r10_maker_regs N))
theorem Y_r10_maker_regs (N:Nat):CEok Q (X_r10_maker_regs N) :=
 fnG (hi:=h_r10_maker_regs) (l:=T_r10_maker_regs N) (t:=[L_r10_maker_regs_0 N]) ti_ok hmix (TT_r10_maker_regs N) (A_r10_maker_regs N) f_39 (by kernel_rfl) (by kernel_rfl) ⟨K_r10_maker_regs_0 N,trivial⟩ fun ys=>by kernel_rfl
def c_r10_maker_plain:CS:=⟨22,46,⟨[.one (.p 0 0 [1,1,1]),.one (.d tI)],[[.d tI,.d tI,.o t_api_Cell]]⟩,[],false,[[.d tI,.d tI,.o t_api_Cell]]⟩
def h_r10_maker_plain:Hi:=⟨[],[],[],[],[]⟩
theorem f_46:Fn Q 46 f46 (codeOf f46):=by constructor <;> kernel_rfl
def r10_maker_plain (N:Nat) (x0:Int) (x1:r10_maker):Option Rs :=
 gd (rm x1.L [(x0,(api_Ins.z,(0,(x1.Pc,(x1.Off,())))))] 72) <|
 some (0,g_r10_maker.dv ({ x1 with L:=(x1.L++[(x0,(api_Ins.z,(0,(x1.Pc,(x1.Off,())))))]) }:r10_maker) [])
def X_r10_maker_plain (N:Nat):CE:=(c_r10_maker_plain,mkF [pI,p_r10_maker] [p_r10_maker] (r10_maker_plain N))
theorem Y_r10_maker_plain (N:Nat):CEok Q (X_r10_maker_plain N) :=
 fnG (hi:=h_r10_maker_plain) (l:=[]) (t:=[]) ti_ok hmix trivial trivial f_46 (by kernel_rfl) (by kernel_rfl) trivial fun ys=>by kernel_rfl
def c_r10_Emit:CS:=⟨23,12,⟨[.agg [.d tI,.d tI,.d tI,.d tI,.d tI],.agg [.d (.ar 16 tI)],.one (.d tI),.one (.d tI)],[]⟩,[.one (.o t_api_Cell),.one (.o t_api_Cell)],false,[]⟩
def h_r10_Emit:Hi:=⟨[((3,1),c_r1_RightIns),((5,2),c_r1_Form),((9,2),c_r10_Side),((10,2),c_r10_maker_ins),((11,3),c_r10_sent),((11,4),c_r10_maker_regs),((12,3),c_r10_sent),((12,4),c_r10_maker_regs),((13,2),c_r10_maker_ins),((15,3),c_r10_onE),((16,2),c_r10_maker_ins),((17,2),c_r10_maker_ins),((18,2),c_r10_maker_ins),((20,3),c_r10_owned),((21,3),c_r10_maker_reg),((22,3),c_r10_maker_reg),((23,2),c_r10_maker_ins),((24,3),c_r10_maker_reg),((26,2),c_r1_Reads),((26,3),c_r10_anyE),((27,2),c_r10_maker_ins),((28,1),c_r10_maker_plain),((29,3),c_r10_sent),((29,4),c_r10_maker_regs),((30,1),c_r10_maker_plain),((31,3),c_r10_sent),((31,4),c_r10_maker_regs),((32,2),c_r10_maker_ins),((34,1),c_r10_maker_plain),((35,1),c_r10_maker_plain),((37,1),c_r10_maker_plain),((38,1),c_r10_maker_plain)],[],[22,26,33,50,55,65,71,87,93,114,120],[],[]⟩
theorem f_12:Fn Q 12 f12 (codeOf f12):=by constructor <;> kernel_rfl
def r10_Emit (N:Nat) (x0:api_Ins) (x1:List Int) (x2:Int) (x3:Int):Option Rs :=
 on1 (r1_RightIns N x0)<|gg [pB]<|fun (x4:Bool) =>
 bi (!x4) (
  some (0,(gD (.sl t_api_Cell)).dv ([]:List api_Cell) ((gD (.sl t_api_Cell)).dv ([]:List api_Cell) []))) <|
 on1 (r1_Form N x0.1)<|gg [pI]<|fun (x5:Int) =>
 bi (x5 == 1) (
  on1 (r10_Side N x0 x1)<|gg [pI]<|fun (x6:Int) =>
  bi (x6 == 1) (
   on1 (r10_maker_ins N 1 x0 (r10_maker.mk x2 x3 ([]:List api_Cell)))<|gg [p_r10_maker]<|fun (x7:r10_maker) =>
   some (0,(gD (.sl t_api_Cell)).dv x7.L ((gD (.sl t_api_Cell)).dv ([]:List api_Cell) []))) <|
  on1 (r10_sent N x0 x1)<|gg [pD (.sl tI)]<|fun (x8:List Int) =>
  on1 (r10_maker_regs N 5 x8 (r10_maker.mk x2 x3 ([]:List api_Cell)))<|gg [p_r10_maker]<|fun (x9:r10_maker) =>
  on1 (r10_sent N x0 x1)<|gg [pD (.sl tI)]<|fun (x10:List Int) =>
  on1 (r10_maker_regs N 6 x10 (r10_maker.mk x2 x3 ([]:List api_Cell)))<|gg [p_r10_maker]<|fun (x11:r10_maker) =>
  on1 (r10_maker_ins N 1 x0 x11)<|gg [p_r10_maker]<|fun (x12:r10_maker) =>
  some (0,(gD (.sl t_api_Cell)).dv x9.L ((gD (.sl t_api_Cell)).dv x12.L []))) <|
 bi (x5 == 2) (
  on1 (r10_Side N x0 x1)<|gg [pI]<|fun (x13:Int) =>
  bi (x13 == 1) (
   on1 (r10_maker_ins N 1 x0 (r10_maker.mk x2 x3 ([]:List api_Cell)))<|gg [p_r10_maker]<|fun (x14:r10_maker) =>
   some (0,(gD (.sl t_api_Cell)).dv x14.L ((gD (.sl t_api_Cell)).dv ([]:List api_Cell) []))) <|
  on1 (r10_sent N x0 x1)<|gg [pD (.sl tI)]<|fun (x15:List Int) =>
  on1 (r10_maker_regs N 5 x15 (r10_maker.mk x2 x3 ([]:List api_Cell)))<|gg [p_r10_maker]<|fun (x16:r10_maker) =>
  on1 (r10_sent N x0 x1)<|gg [pD (.sl tI)]<|fun (x17:List Int) =>
  on1 (r10_maker_regs N 6 x17 (r10_maker.mk x2 x3 ([]:List api_Cell)))<|gg [p_r10_maker]<|fun (x18:r10_maker) =>
  on1 (r10_maker_ins N 1 x0 x18)<|gg [p_r10_maker]<|fun (x19:r10_maker) =>
  some (0,(gD (.sl t_api_Cell)).dv x16.L ((gD (.sl t_api_Cell)).dv x19.L []))) <|
 bi (x5 == 3) (
  on1 (r10_Side N x0 x1)<|gg [pI]<|fun (x20:Int) =>
  bi (x20 == 1) (
   on1 (r10_maker_ins N 1 x0 (r10_maker.mk x2 x3 ([]:List api_Cell)))<|gg [p_r10_maker]<|fun (x21:r10_maker) =>
   some (0,(gD (.sl t_api_Cell)).dv x21.L ((gD (.sl t_api_Cell)).dv ([]:List api_Cell) []))) <|
  on1 (r10_sent N x0 x1)<|gg [pD (.sl tI)]<|fun (x22:List Int) =>
  on1 (r10_maker_regs N 5 x22 (r10_maker.mk x2 x3 ([]:List api_Cell)))<|gg [p_r10_maker]<|fun (x23:r10_maker) =>
  on1 (r10_sent N x0 x1)<|gg [pD (.sl tI)]<|fun (x24:List Int) =>
  on1 (r10_maker_regs N 6 x24 (r10_maker.mk x2 x3 ([]:List api_Cell)))<|gg [p_r10_maker]<|fun (x25:r10_maker) =>
  on1 (r10_maker_ins N 1 x0 x25)<|gg [p_r10_maker]<|fun (x26:r10_maker) =>
  some (0,(gD (.sl t_api_Cell)).dv x23.L ((gD (.sl t_api_Cell)).dv x26.L []))) <|
 bi (x5 == 4) (
  on1 (r10_onE N x1 x0.2.1)<|gg [pB]<|fun (x27:Bool) =>
  bi x27 (
   on1 (r10_maker_ins N 3 x0 (r10_maker.mk x2 x3 ([]:List api_Cell)))<|gg [p_r10_maker]<|fun (x28:r10_maker) =>
   on1 (r10_maker_ins N 7 x0 (r10_maker.mk x2 x3 ([]:List api_Cell)))<|gg [p_r10_maker]<|fun (x29:r10_maker) =>
   some (0,(gD (.sl t_api_Cell)).dv x28.L ((gD (.sl t_api_Cell)).dv x29.L []))) <|
  on1 (r10_maker_ins N 2 x0 (r10_maker.mk x2 x3 ([]:List api_Cell)))<|gg [p_r10_maker]<|fun (x30:r10_maker) =>
  some (0,(gD (.sl t_api_Cell)).dv x30.L ((gD (.sl t_api_Cell)).dv ([]:List api_Cell) []))) <|
 bi (x5 == 5) (
  on1 (r10_owned N x1 x0.2.2.2.1)<|gg [pI]<|fun (x31:Int) =>
  bi (x31 == 1) (
   on1 (r10_maker_reg N 5 x0.2.2.2.1 (r10_maker.mk x2 x3 ([]:List api_Cell)))<|gg [p_r10_maker]<|fun (x32:r10_maker) =>
   on1 (r10_maker_reg N 6 x0.2.2.2.1 (r10_maker.mk x2 x3 ([]:List api_Cell)))<|gg [p_r10_maker]<|fun (x33:r10_maker) =>
   on1 (r10_maker_ins N 4 x0 x32)<|gg [p_r10_maker]<|fun (x34:r10_maker) =>
   on1 (r10_maker_reg N 8 x0.2.2.2.1 x33)<|gg [p_r10_maker]<|fun (x35:r10_maker) =>
   some (0,(gD (.sl t_api_Cell)).dv x34.L ((gD (.sl t_api_Cell)).dv x35.L []))) <|
  on1 (r10_maker_ins N 4 x0 (r10_maker.mk x2 x3 ([]:List api_Cell)))<|gg [p_r10_maker]<|fun (x36:r10_maker) =>
  on1 (r10_maker_reg N 8 x0.2.2.2.1 (r10_maker.mk x2 x3 ([]:List api_Cell)))<|gg [p_r10_maker]<|fun (x37:r10_maker) =>
  some (0,(gD (.sl t_api_Cell)).dv x36.L ((gD (.sl t_api_Cell)).dv x37.L []))) <|
 bi (x5 == 6) (
  on1 (r1_Reads N x0)<|gg [pD (.sl tI)]<|fun (x38:List Int) =>
  on1 (r10_anyE N x1 x38)<|gg [pB]<|fun (x39:Bool) =>
  bi (!x39) (
   on1 (r10_maker_ins N 9 x0 (r10_maker.mk x2 x3 ([]:List api_Cell)))<|gg [p_r10_maker]<|fun (x40:r10_maker) =>
   on1 (r10_maker_plain N 10 (r10_maker.mk x2 x3 ([]:List api_Cell)))<|gg [p_r10_maker]<|fun (x41:r10_maker) =>
   some (0,(gD (.sl t_api_Cell)).dv x40.L ((gD (.sl t_api_Cell)).dv x41.L []))) <|
  on1 (r10_sent N x0 x1)<|gg [pD (.sl tI)]<|fun (x42:List Int) =>
  on1 (r10_maker_regs N 5 x42 (r10_maker.mk x2 x3 ([]:List api_Cell)))<|gg [p_r10_maker]<|fun (x43:r10_maker) =>
  on1 (r10_maker_plain N 10 x43)<|gg [p_r10_maker]<|fun (x44:r10_maker) =>
  on1 (r10_sent N x0 x1)<|gg [pD (.sl tI)]<|fun (x45:List Int) =>
  on1 (r10_maker_regs N 6 x45 (r10_maker.mk x2 x3 ([]:List api_Cell)))<|gg [p_r10_maker]<|fun (x46:r10_maker) =>
  on1 (r10_maker_ins N 9 x0 x46)<|gg [p_r10_maker]<|fun (x47:r10_maker) =>
  some (0,(gD (.sl t_api_Cell)).dv x44.L ((gD (.sl t_api_Cell)).dv x47.L []))) <|
 bi (x5 == 7) (
  on1 (r10_maker_plain N 11 (r10_maker.mk x2 x3 ([]:List api_Cell)))<|gg [p_r10_maker]<|fun (x48:r10_maker) =>
  on1 (r10_maker_plain N 11 (r10_maker.mk x2 x3 ([]:List api_Cell)))<|gg [p_r10_maker]<|fun (x49:r10_maker) =>
  some (0,(gD (.sl t_api_Cell)).dv x48.L ((gD (.sl t_api_Cell)).dv x49.L []))) <|
 bi (x5 == 8) (
  on1 (r10_maker_plain N 12 (r10_maker.mk x2 x3 ([]:List api_Cell)))<|gg [p_r10_maker]<|fun (x50:r10_maker) =>
  on1 (r10_maker_plain N 12 (r10_maker.mk x2 x3 ([]:List api_Cell)))<|gg [p_r10_maker]<|fun (x51:r10_maker) =>
  some (0,(gD (.sl t_api_Cell)).dv x50.L ((gD (.sl t_api_Cell)).dv x51.L []))) <|
 some (0,(gD (.sl t_api_Cell)).dv ([]:List api_Cell) ((gD (.sl t_api_Cell)).dv ([]:List api_Cell) []))
def X_r10_Emit (N:Nat):CE:=(c_r10_Emit,mkF [p_api_Ins,pD (.ar 16 tI),pI,pI] [pD (.sl t_api_Cell),pD (.sl t_api_Cell)] (r10_Emit N))
theorem Y_r10_Emit (N:Nat):CEok Q (X_r10_Emit N) :=
 fnG (hi:=h_r10_Emit) (l:=[X_r1_RightIns N,X_r1_Form N,X_r10_Side N,X_r10_maker_ins N,X_r10_sent N,X_r10_maker_regs N,X_r10_onE N,X_r10_owned N,X_r10_maker_reg N,X_r1_Reads N,X_r10_anyE N,X_r10_maker_plain N]) (t:=[]) ti_ok hmix ⟨Y_r1_RightIns N,Y_r1_Form N,Y_r10_Side N,Y_r10_maker_ins N,Y_r10_sent N,Y_r10_maker_regs N,Y_r10_onE N,Y_r10_owned N,Y_r10_maker_reg N,Y_r1_Reads N,Y_r10_anyE N,Y_r10_maker_plain N,trivial⟩ ⟨rfl,rfl,rfl,rfl,rfl,rfl,rfl,rfl,rfl,rfl,rfl,rfl,rfl,rfl,rfl,rfl,rfl,rfl,rfl,rfl,rfl,rfl,rfl,rfl,rfl,rfl,rfl,rfl,rfl,rfl,rfl,rfl,trivial⟩ f_12 (by kernel_rfl) (by kernel_rfl) trivial fun ys=>by kernel_rfl
def c_r10_With:CS:=⟨24,19,⟨[.agg [.d (.sl t_api_Ins),.d tI,.d (.sl tU)],.agg [.d (.ar 16 tI)]],[]⟩,[.agg [.o t_api_Block,.d (.ar 16 tI)],.one (.d tI)],false,[]⟩
def s_r10_With_2:LS:=⟨⟨[.no,.no,.one (.p 0 0 [1,1,1]),.one (.p 1 0 [16]),.one (.p 2 0 [1,16]),.no,.one (.p 3 0 [1,16]),.one (.d tI),.one (.p 4 0 [1,1,1,1,1,1]),.one (.d tI)]++nos 70,[[.d (.sl t_api_Ins),.d tI,.d (.sl tU)],[.d (.ar 16 tI)],[.d (.sl t_api_Block),.d (.ar 16 tI)],[.oh 4 6 [1,1,1,1,1,1],.d (.ar 16 tI)],[.d tI,.d tI,.d tI,.d tI,.o t_api_Cell,.o t_api_Cell]]⟩,[(3,⟨[.no,.no,.one (.p 0 0 [1,1,1]),.one (.p 1 0 [16]),.one (.p 2 0 [1,16]),.no,.one (.p 3 0 [1,16]),.one (.d tI)]++nos 72,[[.d (.sl t_api_Ins),.d tI,.d (.sl tU)],[.d (.ar 16 tI)],[.d (.sl t_api_Block),.d (.ar 16 tI)],[.oh 4 6 [1,1,1,1,1,1],.d (.ar 16 tI)],[.d tI,.d tI,.d tI,.d tI,.o t_api_Cell,.o t_api_Cell]]⟩)]⟩
def s_r10_With_0:LS:=⟨⟨[.no,.no,.one (.p 0 0 [1,1,1]),.one (.p 1 0 [16]),.one (.p 2 0 [1,16]),.no,.one (.p 3 0 [1,16]),.one (.d tI)]++nos 72,[[.d (.sl t_api_Ins),.d tI,.d (.sl tU)],[.d (.ar 16 tI)],[.d (.sl t_api_Block),.d (.ar 16 tI)],q_0]⟩,[(1,⟨[.no,.no,.one (.p 0 0 [1,1,1]),.one (.p 1 0 [16]),.one (.p 2 0 [1,16]),.no,.one (.p 3 0 [1,16])]++nos 73,[[.d (.sl t_api_Ins),.d tI,.d (.sl tU)],[.d (.ar 16 tI)],[.d (.sl t_api_Block),.d (.ar 16 tI)],[.o t_api_Block,.d (.ar 16 tI)]]⟩)]⟩
def h_r10_With:Hi:=⟨[((1,2),c_r10_Closed),((3,1),c_r10_Cut),((11,13),c_r10_Emit)],[(0,s_r10_With_0),(2,s_r10_With_2)],[15,25,41],[],[]⟩
theorem f_19:Fn Q 19 f19 (codeOf f19):=by constructor <;> kernel_rfl
def T_r10_With (N:Nat):List CE:=[X_r10_Closed N,X_r10_Cut N,X_r10_Emit N]
theorem TT_r10_With (N:Nat):AllP (CEok Q) (T_r10_With N):=⟨Y_r10_Closed N,Y_r10_Cut N,Y_r10_Emit N,trivial⟩
theorem A_r10_With (N:Nat):AllP (fun e=>lookC (T_r10_With N) e.2.id = some e.2) h_r10_With.cs:=⟨rfl,rfl,rfl,trivial⟩
def r10_With_r2 (N:Nat) (again:Fn' (Option Rs) [pI,pI,pD (.sl t_api_Ins),pI,pD (.sl tU),pD (.ar 16 tI),pD (.sl t_api_Block),pD (.ar 16 tI),pI,pI,pD (.ar 16 tI),pI,pI,pI,pI,pD (.sl t_api_Cell),pD (.sl t_api_Cell)]) (x0:Int) (x1:Int) (x2:List api_Ins) (x3:Int) (x4:List Int) (x5:List Int) (x6:List api_Block) (x7:List Int) (x8:Int) (x9:Int) (x10:List Int) (x11:Int) (x12:Int) (x13:Int) (x14:Int) (x15:List api_Cell) (x16:List api_Cell):Option Rs :=
 bi (decide (x1 < x12)) (
  gd (idx x1 (List.length x2)) <|
  on1 (r10_Emit N (List.getD x2 x1.toNat api_Ins.z) x5 x1 (w.i64 (x1 - x11)))<|gg [pD (.sl t_api_Cell),pD (.sl t_api_Cell)]<|fun (x17:List api_Cell) (x18:List api_Cell) =>
  gd (rm x15 x17 72) <|
  gd (rm x16 x18 72) <|
  again x0 (w.i64 (x1+1)) x2 x3 x4 x5 x6 x7 x8 x9 x10 x11 x12 x13 x14 (x15++x17) (x16++x18)) <|
 some (3,gI.dv x0 ((gD (.sl t_api_Ins)).dv x2 (gI.dv x3 ((gD (.sl tU)).dv x4 ((gD (.ar 16 tI)).dv x5 ((gD (.sl t_api_Block)).dv x6 ((gD (.ar 16 tI)).dv x7 (gI.dv x8 (gI.dv x9 ((gD (.ar 16 tI)).dv x10 (gI.dv x11 (gI.dv x12 (gI.dv x13 (gI.dv x14 ((gD (.sl t_api_Cell)).dv x15 ((gD (.sl t_api_Cell)).dv x16 []))))))))))))))))
def r10_With_l2 (N:Nat):Nat→Fn' (Option Rs) [pI,pI,pD (.sl t_api_Ins),pI,pD (.sl tU),pD (.ar 16 tI),pD (.sl t_api_Block),pD (.ar 16 tI),pI,pI,pD (.ar 16 tI),pI,pI,pI,pI,pD (.sl t_api_Cell),pD (.sl t_api_Cell)]:=lpG (r10_With_r2 N)
def L_r10_With_2 (N:Nat):LE:=(2,mkM [pI,pI,pD (.sl t_api_Ins),pI,pD (.sl tU),pD (.ar 16 tI),pD (.sl t_api_Block),pD (.ar 16 tI),pI,pI,pD (.ar 16 tI),pI,pI,pI,pI,pD (.sl t_api_Cell),pD (.sl t_api_Cell)] [(3,[pI,pD (.sl t_api_Ins),pI,pD (.sl tU),pD (.ar 16 tI),pD (.sl t_api_Block),pD (.ar 16 tI),pI,pI,pD (.ar 16 tI),pI,pI,pI,pI,pD (.sl t_api_Cell),pD (.sl t_api_Cell)])] (r10_With_l2 N N))
theorem K_r10_With_2 (N:Nat):LEok Q h_r10_With (bodOf f19) f19.ntmps 5 (L_r10_With_2 N) :=
 loopG (hi:=h_r10_With) (l:=T_r10_With N) (t:=[]) (r:=r10_With_r2 N) ti_ok hmix (TT_r10_With N) (A_r10_With N) f_19 trivial (ls:=s_r10_With_2) (body:=bodyAt f19 2) (by kernel_rfl) (by kernel_rfl) fun A ys=>by kernel_rfl
def s_r10_With_0r:LS:=⟨⟨[.no,.no,.one (.p 0 0 [1,1,1]),.one (.p 1 0 [16]),.one (.p 2 0 [1,16]),.no,.one (.p 3 0 [1,16]),.one (.d tI)]++nos 72,[[.d (.sl t_api_Ins),.d tI,.d (.sl tU)],[.d (.ar 16 tI)],[.d (.sl t_api_Block),.d (.ar 16 tI)],[.oh 4 6 [1,1,1,1,1,1],.d (.ar 16 tI)],[.d tI,.d tI,.d tI,.d tI,.o t_api_Cell,.o t_api_Cell]]⟩,[]⟩
def r10_With_r0r (N:Nat) (again:Fn' (Option Rs) [pI,pD (.sl t_api_Ins),pI,pD (.sl tU),pD (.ar 16 tI),pD (.sl t_api_Block),pD (.ar 16 tI),pI,pI,pD (.ar 16 tI),pI,pI,pI,pI,pD (.sl t_api_Cell),pD (.sl t_api_Cell)]) (x0:Int) (x1:List api_Ins) (x2:Int) (x3:List Int) (x4:List Int) (x5:List api_Block) (x6:List Int) (x7:Int) (x8:Int) (x9:List Int) (x10:Int) (x11:Int) (x12:Int) (x13:Int) (x14:List api_Cell) (x15:List api_Cell):Option Rs :=
 gd (decide (x0 < x7)) <|
 gd (decide (x0 = x8∧0≤x0∧x0 < x7)) <|
 onA 3 (r10_With_l2 N N x0 x10 x1 x2 x3 x4 x5 x6 x7 x8 x9 x10 x11 x12 x13 x14 x15)<|gg [pI,pD (.sl t_api_Ins),pI,pD (.sl tU),pD (.ar 16 tI),pD (.sl t_api_Block),pD (.ar 16 tI),pI,pI,pD (.ar 16 tI),pI,pI,pI,pI,pD (.sl t_api_Cell),pD (.sl t_api_Cell)]<|fun (x16:Int) (x17:List api_Ins) (x18:Int) (x19:List Int) (x20:List Int) (x21:List api_Block) (x22:List Int) (x23:Int) (x24:Int) (x25:List Int) (x26:Int) (x27:Int) (x28:Int) (x29:Int) (x30:List api_Cell) (x31:List api_Cell) =>
 again (w.i64 (x16+1)) x17 x18 x19 x20 x21 x22 x23 x24 x25 x26 x27 x28 x29 x30 x31
theorem r10_With_r0r_eq (N:Nat) (A:List DV→Option Rs):∀ ys,round cx0 h_r10_With (ctL (T_r10_With N)) (ltL [L_r10_With_2 N]) f19.ntmps 5 0 s_r10_With_0r (bodyAt f19 0) A (dvG [pI,pD (.sl t_api_Ins),pI,pD (.sl tU),pD (.ar 16 tI),pD (.sl t_api_Block),pD (.ar 16 tI),pI,pI,pD (.ar 16 tI),pI,pI,pI,pI,pD (.sl t_api_Cell),pD (.sl t_api_Cell)] ys) = apG [pI,pD (.sl t_api_Ins),pI,pD (.sl tU),pD (.ar 16 tI),pD (.sl t_api_Block),pD (.ar 16 tI),pI,pI,pD (.ar 16 tI),pI,pI,pI,pI,pD (.sl t_api_Cell),pD (.sl t_api_Cell)] (r10_With_r0r N (cK [pI,pD (.sl t_api_Ins),pI,pD (.sl tU),pD (.ar 16 tI),pD (.sl t_api_Block),pD (.ar 16 tI),pI,pI,pD (.ar 16 tI),pI,pI,pI,pI,pD (.sl t_api_Cell),pD (.sl t_api_Cell)] A)) ys:=fun ys=>by kernel_rfl
def s_r10_With_0x:LS:=⟨⟨[.no,.no,.one (.p 0 0 [1,1,1]),.one (.p 1 0 [16]),.one (.p 2 0 [1,16]),.no,.one (.p 3 0 [1,16]),.one (.d tI)]++nos 72,[[.d (.sl t_api_Ins),.d tI,.d (.sl tU)],[.d (.ar 16 tI)],[.d (.sl t_api_Block),.d (.ar 16 tI)],[.oh 3 6 [1,1,1,1,1,1],.d (.ar 16 tI)]]⟩,[(1,⟨[.no,.no,.one (.p 0 0 [1,1,1]),.one (.p 1 0 [16]),.one (.p 2 0 [1,16]),.no,.one (.p 3 0 [1,16])]++nos 73,[[.d (.sl t_api_Ins),.d tI,.d (.sl tU)],[.d (.ar 16 tI)],[.d (.sl t_api_Block),.d (.ar 16 tI)],[.oh 3 6 [1,1,1,1,1,1],.d (.ar 16 tI)]]⟩)]⟩
def r10_With_r0x (N:Nat) (again:Fn' (Option Rs) [pI,pD (.sl t_api_Ins),pI,pD (.sl tU),pD (.ar 16 tI),pD (.sl t_api_Block),pD (.ar 16 tI),pI,pI,pD (.ar 16 tI)]) (x0:Int) (x1:List api_Ins) (x2:Int) (x3:List Int) (x4:List Int) (x5:List api_Block) (x6:List Int) (x7:Int) (x8:Int) (x9:List Int):Option Rs :=
 bi (decide (x0 < x7)) (
  gd (decide (x0 = x8∧0≤x0∧x0 < x7)) <|
  none) <|
 some (1,(gD (.sl t_api_Ins)).dv x1 (gI.dv x2 ((gD (.sl tU)).dv x3 ((gD (.ar 16 tI)).dv x4 ((gD (.sl t_api_Block)).dv x5 ((gD (.ar 16 tI)).dv x6 (gI.dv x7 (gI.dv x8 ((gD (.ar 16 tI)).dv x9 [])))))))))
theorem r10_With_r0x_eq (N:Nat) (A:List DV→Option Rs):∀ ys,round cx0 h_r10_With (ctL (T_r10_With N)) (ltL []) f19.ntmps 4 0 s_r10_With_0x (bodyAt f19 0) A (dvG [pI,pD (.sl t_api_Ins),pI,pD (.sl tU),pD (.ar 16 tI),pD (.sl t_api_Block),pD (.ar 16 tI),pI,pI,pD (.ar 16 tI)] ys) = apG [pI,pD (.sl t_api_Ins),pI,pD (.sl tU),pD (.ar 16 tI),pD (.sl t_api_Block),pD (.ar 16 tI),pI,pI,pD (.ar 16 tI)] (r10_With_r0x N (cK [pI,pD (.sl t_api_Ins),pI,pD (.sl tU),pD (.ar 16 tI),pD (.sl t_api_Block),pD (.ar 16 tI),pI,pI,pD (.ar 16 tI)] A)) ys:=fun ys=>by kernel_rfl
end
end Go.Proofs.Zz
