/- What functions of the program compute, as plain functions. -/
import Derived.Test.YtpplgkggclddiaaNtT
set_option linter.unusedVariables false
set_option maxRecDepth 100000
set_option linter.unusedSimpArgs false
namespace Go.Proofs.Zz
open Go
def c67 : CS := { id := 0, fn := 67, i := { av := [.one (.d (.sl (.pair (.int .i64) (.pair .bool (.pair (.int .u32) .unit)))))], bx := [] }, r := [.one (.o (.pair (.int .i64) (.pair .bool (.pair (.int .u32) .unit))))], one := true, ob := [] }
def h67 : Hi := { cs := [], ls := [], sp := [4] }
noncomputable def t67 (N : Nat) : List CE := []
theorem t67_ok (N : Nat) : AllP (CEok Go.Proofs.Try.prog) (t67 N) := trivial
theorem a67 (N : Nat) : AllP (fun e => lookC (t67 N) e.2.id = some e.2) h67.cs := trivial
theorem fn67 : Fn Go.Proofs.Try.prog 67 Go.Proofs.Try.f67 (codeOf Go.Proofs.Try.f67) := ⟨by kernel_rfl, by kernel_rfl, by kernel_rfl, by kernel_rfl⟩
noncomputable def on67 {R : Type} (r : Option Rs) (k : Cur (Option R) [(.sl (.pair (.int .i64) (.pair .bool (.pair (.int .u32) .unit))))]) : Option R := onR [(.sl (.pair (.int .i64) (.pair .bool (.pair (.int .u32) .unit))))] r k
noncomputable def e67 (N : Nat) (x1249 : (List (Int × (Bool × (Int × Unit))))) : Option Rs :=
  match ((decide ((List.length ([] : List (Int × (Bool × (Int × Unit)))) + List.length x1249) * 16 ≤ reach)) : Bool) with
  | true =>
    some (0, [⟨(.sl (.pair (.int .i64) (.pair .bool (.pair (.int .u32) .unit)))), (([] ++ x1249) : (List (Int × (Bool × (Int × Unit)))))⟩])
  | false =>
    none
theorem k67 (N : Nat) (x1249 : (List (Int × (Bool × (Int × Unit))))) : denC cx0 h67 (ctL []) (ltL []) Go.Proofs.Try.f67 (codeOf Go.Proofs.Try.f67) (.pair (.int .i64) (.pair .bool (.pair (.int .u32) .unit))) (.nn (.pair (.int .i64) (.pair .bool (.pair (.int .u32) .unit))) x1249) = e67 N x1249 := by kernel_rfl
theorem k67z : denC cx0 h67 (ctL []) (ltL []) Go.Proofs.Try.f67 (codeOf Go.Proofs.Try.f67) (.pair (.int .i64) (.pair .bool (.pair (.int .u32) .unit))) .nl = some (0, [⟨.sl (.pair (.int .i64) (.pair .bool (.pair (.int .u32) .unit))), []⟩]) := by kernel_rfl
theorem k67e (N : Nat) : e67 N [] = some (0, [⟨.sl (.pair (.int .i64) (.pair .bool (.pair (.int .u32) .unit))), []⟩]) := by kernel_rfl
theorem c67_ok (N : Nat) (x : List (Den (.pair (.int .i64) (.pair .bool (.pair (.int .u32) .unit))))) (n0 : Nat) (q : List DV) (h : e67 N x = some (n0, q)) : CallOK Go.Proofs.Try.prog c67 [⟨.sl (.pair (.int .i64) (.pair .bool (.pair (.int .u32) .unit))), x⟩] q :=
  clone_ok ti_ok hmix (hi := h67) rfl rfl rfl rfl rfl fn67 (by kernel_rfl) (by kernel_rfl) (by kernel_rfl) (fun hx => by subst hx; exact k67z.trans ((k67e N).symm.trans h)) ((k67 N x).trans h)
noncomputable def x67 (N : Nat) : List DV → (List DV → Option Rs) → Option Rs := mkX [(.sl (.pair (.int .i64) (.pair .bool (.pair (.int .u32) .unit))))] [(.sl (.pair (.int .i64) (.pair .bool (.pair (.int .u32) .unit))))] (e67 N)
theorem x67_ok (N : Nat) : CEok Go.Proofs.Try.prog (c67, x67 N) := mkX_ok fun ys n q h => c67_ok N ys.1 n q h
def c68 : CS := { id := 1, fn := 68, i := { av := [.one (.d (.sl (.int .u32)))], bx := [] }, r := [.one (.o (.int .u32))], one := true, ob := [] }
def h68 : Hi := { cs := [], ls := [], sp := [4] }
noncomputable def t68 (N : Nat) : List CE := []
theorem t68_ok (N : Nat) : AllP (CEok Go.Proofs.Try.prog) (t68 N) := trivial
theorem a68 (N : Nat) : AllP (fun e => lookC (t68 N) e.2.id = some e.2) h68.cs := trivial
theorem fn68 : Fn Go.Proofs.Try.prog 68 Go.Proofs.Try.f68 (codeOf Go.Proofs.Try.f68) := ⟨by kernel_rfl, by kernel_rfl, by kernel_rfl, by kernel_rfl⟩
noncomputable def on68 {R : Type} (r : Option Rs) (k : Cur (Option R) [(.sl (.int .u32))]) : Option R := onR [(.sl (.int .u32))] r k
noncomputable def e68 (N : Nat) (x1250 : (List Int)) : Option Rs :=
  match ((decide ((List.length ([] : List Int) + List.length x1250) * 4 ≤ reach)) : Bool) with
  | true =>
    some (0, [⟨(.sl (.int .u32)), (([] ++ x1250) : (List Int))⟩])
  | false =>
    none
theorem k68 (N : Nat) (x1250 : (List Int)) : denC cx0 h68 (ctL []) (ltL []) Go.Proofs.Try.f68 (codeOf Go.Proofs.Try.f68) (.int .u32) (.nn (.int .u32) x1250) = e68 N x1250 := by kernel_rfl
theorem k68z : denC cx0 h68 (ctL []) (ltL []) Go.Proofs.Try.f68 (codeOf Go.Proofs.Try.f68) (.int .u32) .nl = some (0, [⟨.sl (.int .u32), []⟩]) := by kernel_rfl
theorem k68e (N : Nat) : e68 N [] = some (0, [⟨.sl (.int .u32), []⟩]) := by kernel_rfl
theorem c68_ok (N : Nat) (x : List (Den (.int .u32))) (n0 : Nat) (q : List DV) (h : e68 N x = some (n0, q)) : CallOK Go.Proofs.Try.prog c68 [⟨.sl (.int .u32), x⟩] q :=
  clone_ok ti_ok hmix (hi := h68) rfl rfl rfl rfl rfl fn68 (by kernel_rfl) (by kernel_rfl) (by kernel_rfl) (fun hx => by subst hx; exact k68z.trans ((k68e N).symm.trans h)) ((k68 N x).trans h)
noncomputable def x68 (N : Nat) : List DV → (List DV → Option Rs) → Option Rs := mkX [(.sl (.int .u32))] [(.sl (.int .u32))] (e68 N)
theorem x68_ok (N : Nat) : CEok Go.Proofs.Try.prog (c68, x68 N) := mkX_ok fun ys n q h => c68_ok N ys.1 n q h
def c69 : CS := { id := 2, fn := 69, i := { av := [.one (.d (.sl .bool))], bx := [] }, r := [.one (.o .bool)], one := true, ob := [] }
def h69 : Hi := { cs := [], ls := [], sp := [4] }
noncomputable def t69 (N : Nat) : List CE := []
theorem t69_ok (N : Nat) : AllP (CEok Go.Proofs.Try.prog) (t69 N) := trivial
theorem a69 (N : Nat) : AllP (fun e => lookC (t69 N) e.2.id = some e.2) h69.cs := trivial
theorem fn69 : Fn Go.Proofs.Try.prog 69 Go.Proofs.Try.f69 (codeOf Go.Proofs.Try.f69) := ⟨by kernel_rfl, by kernel_rfl, by kernel_rfl, by kernel_rfl⟩
noncomputable def on69 {R : Type} (r : Option Rs) (k : Cur (Option R) [(.sl .bool)]) : Option R := onR [(.sl .bool)] r k
noncomputable def e69 (N : Nat) (x1251 : (List Bool)) : Option Rs :=
  match ((decide ((List.length ([] : List Bool) + List.length x1251) * 1 ≤ reach)) : Bool) with
  | true =>
    some (0, [⟨(.sl .bool), (([] ++ x1251) : (List Bool))⟩])
  | false =>
    none
theorem k69 (N : Nat) (x1251 : (List Bool)) : denC cx0 h69 (ctL []) (ltL []) Go.Proofs.Try.f69 (codeOf Go.Proofs.Try.f69) .bool (.nn .bool x1251) = e69 N x1251 := by kernel_rfl
theorem k69z : denC cx0 h69 (ctL []) (ltL []) Go.Proofs.Try.f69 (codeOf Go.Proofs.Try.f69) .bool .nl = some (0, [⟨.sl .bool, []⟩]) := by kernel_rfl
theorem k69e (N : Nat) : e69 N [] = some (0, [⟨.sl .bool, []⟩]) := by kernel_rfl
theorem c69_ok (N : Nat) (x : List (Den .bool)) (n0 : Nat) (q : List DV) (h : e69 N x = some (n0, q)) : CallOK Go.Proofs.Try.prog c69 [⟨.sl .bool, x⟩] q :=
  clone_ok ti_ok hmix (hi := h69) rfl rfl rfl rfl rfl fn69 (by kernel_rfl) (by kernel_rfl) (by kernel_rfl) (fun hx => by subst hx; exact k69z.trans ((k69e N).symm.trans h)) ((k69 N x).trans h)
noncomputable def x69 (N : Nat) : List DV → (List DV → Option Rs) → Option Rs := mkX [(.sl .bool)] [(.sl .bool)] (e69 N)
theorem x69_ok (N : Nat) : CEok Go.Proofs.Try.prog (c69, x69 N) := mkX_ok fun ys n q h => c69_ok N ys.1 n q h
def c70 : CS := { id := 3, fn := 70, i := { av := [.one (.d (.sl (.pair (.int .i64) (.pair (.int .i64) (.pair (.int .i64) (.pair .bool (.pair (.int .u32) .unit)))))))], bx := [] }, r := [.one (.o (.pair (.int .i64) (.pair (.int .i64) (.pair (.int .i64) (.pair .bool (.pair (.int .u32) .unit))))))], one := true, ob := [] }
def h70 : Hi := { cs := [], ls := [], sp := [4] }
noncomputable def t70 (N : Nat) : List CE := []
theorem t70_ok (N : Nat) : AllP (CEok Go.Proofs.Try.prog) (t70 N) := trivial
theorem a70 (N : Nat) : AllP (fun e => lookC (t70 N) e.2.id = some e.2) h70.cs := trivial
theorem fn70 : Fn Go.Proofs.Try.prog 70 Go.Proofs.Try.f70 (codeOf Go.Proofs.Try.f70) := ⟨by kernel_rfl, by kernel_rfl, by kernel_rfl, by kernel_rfl⟩
noncomputable def on70 {R : Type} (r : Option Rs) (k : Cur (Option R) [(.sl (.pair (.int .i64) (.pair (.int .i64) (.pair (.int .i64) (.pair .bool (.pair (.int .u32) .unit))))))]) : Option R := onR [(.sl (.pair (.int .i64) (.pair (.int .i64) (.pair (.int .i64) (.pair .bool (.pair (.int .u32) .unit))))))] r k
noncomputable def e70 (N : Nat) (x1252 : (List (Int × (Int × (Int × (Bool × (Int × Unit))))))) : Option Rs :=
  match ((decide ((List.length ([] : List (Int × (Int × (Int × (Bool × (Int × Unit)))))) + List.length x1252) * 32 ≤ reach)) : Bool) with
  | true =>
    some (0, [⟨(.sl (.pair (.int .i64) (.pair (.int .i64) (.pair (.int .i64) (.pair .bool (.pair (.int .u32) .unit)))))), (([] ++ x1252) : (List (Int × (Int × (Int × (Bool × (Int × Unit)))))))⟩])
  | false =>
    none
theorem k70 (N : Nat) (x1252 : (List (Int × (Int × (Int × (Bool × (Int × Unit))))))) : denC cx0 h70 (ctL []) (ltL []) Go.Proofs.Try.f70 (codeOf Go.Proofs.Try.f70) (.pair (.int .i64) (.pair (.int .i64) (.pair (.int .i64) (.pair .bool (.pair (.int .u32) .unit))))) (.nn (.pair (.int .i64) (.pair (.int .i64) (.pair (.int .i64) (.pair .bool (.pair (.int .u32) .unit))))) x1252) = e70 N x1252 := by kernel_rfl
theorem k70z : denC cx0 h70 (ctL []) (ltL []) Go.Proofs.Try.f70 (codeOf Go.Proofs.Try.f70) (.pair (.int .i64) (.pair (.int .i64) (.pair (.int .i64) (.pair .bool (.pair (.int .u32) .unit))))) .nl = some (0, [⟨.sl (.pair (.int .i64) (.pair (.int .i64) (.pair (.int .i64) (.pair .bool (.pair (.int .u32) .unit))))), []⟩]) := by kernel_rfl
theorem k70e (N : Nat) : e70 N [] = some (0, [⟨.sl (.pair (.int .i64) (.pair (.int .i64) (.pair (.int .i64) (.pair .bool (.pair (.int .u32) .unit))))), []⟩]) := by kernel_rfl
theorem c70_ok (N : Nat) (x : List (Den (.pair (.int .i64) (.pair (.int .i64) (.pair (.int .i64) (.pair .bool (.pair (.int .u32) .unit))))))) (n0 : Nat) (q : List DV) (h : e70 N x = some (n0, q)) : CallOK Go.Proofs.Try.prog c70 [⟨.sl (.pair (.int .i64) (.pair (.int .i64) (.pair (.int .i64) (.pair .bool (.pair (.int .u32) .unit))))), x⟩] q :=
  clone_ok ti_ok hmix (hi := h70) rfl rfl rfl rfl rfl fn70 (by kernel_rfl) (by kernel_rfl) (by kernel_rfl) (fun hx => by subst hx; exact k70z.trans ((k70e N).symm.trans h)) ((k70 N x).trans h)
noncomputable def x70 (N : Nat) : List DV → (List DV → Option Rs) → Option Rs := mkX [(.sl (.pair (.int .i64) (.pair (.int .i64) (.pair (.int .i64) (.pair .bool (.pair (.int .u32) .unit))))))] [(.sl (.pair (.int .i64) (.pair (.int .i64) (.pair (.int .i64) (.pair .bool (.pair (.int .u32) .unit))))))] (e70 N)
theorem x70_ok (N : Nat) : CEok Go.Proofs.Try.prog (c70, x70 N) := mkX_ok fun ys n q h => c70_ok N ys.1 n q h
def c71 : CS := { id := 4, fn := 71, i := { av := [.one (.d (.sl (.pair .bool (.pair (.int .i64) (.pair (.int .i64) (.pair (.int .i64) (.pair (.int .u32) (.pair (.int .i64) (.pair (.int .i64) (.pair (.int .i64) .unit))))))))))], bx := [] }, r := [.one (.o (.pair .bool (.pair (.int .i64) (.pair (.int .i64) (.pair (.int .i64) (.pair (.int .u32) (.pair (.int .i64) (.pair (.int .i64) (.pair (.int .i64) .unit)))))))))], one := true, ob := [] }
def h71 : Hi := { cs := [], ls := [], sp := [4] }
noncomputable def t71 (N : Nat) : List CE := []
theorem t71_ok (N : Nat) : AllP (CEok Go.Proofs.Try.prog) (t71 N) := trivial
theorem a71 (N : Nat) : AllP (fun e => lookC (t71 N) e.2.id = some e.2) h71.cs := trivial
theorem fn71 : Fn Go.Proofs.Try.prog 71 Go.Proofs.Try.f71 (codeOf Go.Proofs.Try.f71) := ⟨by kernel_rfl, by kernel_rfl, by kernel_rfl, by kernel_rfl⟩
noncomputable def on71 {R : Type} (r : Option Rs) (k : Cur (Option R) [(.sl (.pair .bool (.pair (.int .i64) (.pair (.int .i64) (.pair (.int .i64) (.pair (.int .u32) (.pair (.int .i64) (.pair (.int .i64) (.pair (.int .i64) .unit)))))))))]) : Option R := onR [(.sl (.pair .bool (.pair (.int .i64) (.pair (.int .i64) (.pair (.int .i64) (.pair (.int .u32) (.pair (.int .i64) (.pair (.int .i64) (.pair (.int .i64) .unit)))))))))] r k
noncomputable def e71 (N : Nat) (x1253 : (List (Bool × (Int × (Int × (Int × (Int × (Int × (Int × (Int × Unit)))))))))) : Option Rs :=
  match ((decide ((List.length ([] : List (Bool × (Int × (Int × (Int × (Int × (Int × (Int × (Int × Unit))))))))) + List.length x1253) * 64 ≤ reach)) : Bool) with
  | true =>
    some (0, [⟨(.sl (.pair .bool (.pair (.int .i64) (.pair (.int .i64) (.pair (.int .i64) (.pair (.int .u32) (.pair (.int .i64) (.pair (.int .i64) (.pair (.int .i64) .unit))))))))), (([] ++ x1253) : (List (Bool × (Int × (Int × (Int × (Int × (Int × (Int × (Int × Unit))))))))))⟩])
  | false =>
    none
theorem k71 (N : Nat) (x1253 : (List (Bool × (Int × (Int × (Int × (Int × (Int × (Int × (Int × Unit)))))))))) : denC cx0 h71 (ctL []) (ltL []) Go.Proofs.Try.f71 (codeOf Go.Proofs.Try.f71) (.pair .bool (.pair (.int .i64) (.pair (.int .i64) (.pair (.int .i64) (.pair (.int .u32) (.pair (.int .i64) (.pair (.int .i64) (.pair (.int .i64) .unit)))))))) (.nn (.pair .bool (.pair (.int .i64) (.pair (.int .i64) (.pair (.int .i64) (.pair (.int .u32) (.pair (.int .i64) (.pair (.int .i64) (.pair (.int .i64) .unit)))))))) x1253) = e71 N x1253 := by kernel_rfl
theorem k71z : denC cx0 h71 (ctL []) (ltL []) Go.Proofs.Try.f71 (codeOf Go.Proofs.Try.f71) (.pair .bool (.pair (.int .i64) (.pair (.int .i64) (.pair (.int .i64) (.pair (.int .u32) (.pair (.int .i64) (.pair (.int .i64) (.pair (.int .i64) .unit)))))))) .nl = some (0, [⟨.sl (.pair .bool (.pair (.int .i64) (.pair (.int .i64) (.pair (.int .i64) (.pair (.int .u32) (.pair (.int .i64) (.pair (.int .i64) (.pair (.int .i64) .unit)))))))), []⟩]) := by kernel_rfl
theorem k71e (N : Nat) : e71 N [] = some (0, [⟨.sl (.pair .bool (.pair (.int .i64) (.pair (.int .i64) (.pair (.int .i64) (.pair (.int .u32) (.pair (.int .i64) (.pair (.int .i64) (.pair (.int .i64) .unit)))))))), []⟩]) := by kernel_rfl
theorem c71_ok (N : Nat) (x : List (Den (.pair .bool (.pair (.int .i64) (.pair (.int .i64) (.pair (.int .i64) (.pair (.int .u32) (.pair (.int .i64) (.pair (.int .i64) (.pair (.int .i64) .unit)))))))))) (n0 : Nat) (q : List DV) (h : e71 N x = some (n0, q)) : CallOK Go.Proofs.Try.prog c71 [⟨.sl (.pair .bool (.pair (.int .i64) (.pair (.int .i64) (.pair (.int .i64) (.pair (.int .u32) (.pair (.int .i64) (.pair (.int .i64) (.pair (.int .i64) .unit)))))))), x⟩] q :=
  clone_ok ti_ok hmix (hi := h71) rfl rfl rfl rfl rfl fn71 (by kernel_rfl) (by kernel_rfl) (by kernel_rfl) (fun hx => by subst hx; exact k71z.trans ((k71e N).symm.trans h)) ((k71 N x).trans h)
noncomputable def x71 (N : Nat) : List DV → (List DV → Option Rs) → Option Rs := mkX [(.sl (.pair .bool (.pair (.int .i64) (.pair (.int .i64) (.pair (.int .i64) (.pair (.int .u32) (.pair (.int .i64) (.pair (.int .i64) (.pair (.int .i64) .unit)))))))))] [(.sl (.pair .bool (.pair (.int .i64) (.pair (.int .i64) (.pair (.int .i64) (.pair (.int .u32) (.pair (.int .i64) (.pair (.int .i64) (.pair (.int .i64) .unit)))))))))] (e71 N)
theorem x71_ok (N : Nat) : CEok Go.Proofs.Try.prog (c71, x71 N) := mkX_ok fun ys n q h => c71_ok N ys.1 n q h
def c72 : CS := { id := 5, fn := 72, i := { av := [.one (.d (.sl (.int .u8)))], bx := [] }, r := [.one (.o (.int .u8))], one := true, ob := [] }
def h72 : Hi := { cs := [], ls := [], sp := [4] }
noncomputable def t72 (N : Nat) : List CE := []
theorem t72_ok (N : Nat) : AllP (CEok Go.Proofs.Try.prog) (t72 N) := trivial
theorem a72 (N : Nat) : AllP (fun e => lookC (t72 N) e.2.id = some e.2) h72.cs := trivial
theorem fn72 : Fn Go.Proofs.Try.prog 72 Go.Proofs.Try.f72 (codeOf Go.Proofs.Try.f72) := ⟨by kernel_rfl, by kernel_rfl, by kernel_rfl, by kernel_rfl⟩
noncomputable def on72 {R : Type} (r : Option Rs) (k : Cur (Option R) [(.sl (.int .u8))]) : Option R := onR [(.sl (.int .u8))] r k
noncomputable def e72 (N : Nat) (x1254 : (List Int)) : Option Rs :=
  match ((decide ((List.length ([] : List Int) + List.length x1254) * 1 ≤ reach)) : Bool) with
  | true =>
    some (0, [⟨(.sl (.int .u8)), (([] ++ x1254) : (List Int))⟩])
  | false =>
    none
theorem k72 (N : Nat) (x1254 : (List Int)) : denC cx0 h72 (ctL []) (ltL []) Go.Proofs.Try.f72 (codeOf Go.Proofs.Try.f72) (.int .u8) (.nn (.int .u8) x1254) = e72 N x1254 := by kernel_rfl
theorem k72z : denC cx0 h72 (ctL []) (ltL []) Go.Proofs.Try.f72 (codeOf Go.Proofs.Try.f72) (.int .u8) .nl = some (0, [⟨.sl (.int .u8), []⟩]) := by kernel_rfl
theorem k72e (N : Nat) : e72 N [] = some (0, [⟨.sl (.int .u8), []⟩]) := by kernel_rfl
theorem c72_ok (N : Nat) (x : List (Den (.int .u8))) (n0 : Nat) (q : List DV) (h : e72 N x = some (n0, q)) : CallOK Go.Proofs.Try.prog c72 [⟨.sl (.int .u8), x⟩] q :=
  clone_ok ti_ok hmix (hi := h72) rfl rfl rfl rfl rfl fn72 (by kernel_rfl) (by kernel_rfl) (by kernel_rfl) (fun hx => by subst hx; exact k72z.trans ((k72e N).symm.trans h)) ((k72 N x).trans h)
noncomputable def x72 (N : Nat) : List DV → (List DV → Option Rs) → Option Rs := mkX [(.sl (.int .u8))] [(.sl (.int .u8))] (e72 N)
theorem x72_ok (N : Nat) : CEok Go.Proofs.Try.prog (c72, x72 N) := mkX_ok fun ys n q h => c72_ok N ys.1 n q h
def c73 : CS := { id := 6, fn := 73, i := { av := [.one (.d (.sl (.pair (.int .i64) (.pair (.int .i64) (.pair (.int .u32) .unit)))))], bx := [] }, r := [.one (.o (.pair (.int .i64) (.pair (.int .i64) (.pair (.int .u32) .unit))))], one := true, ob := [] }
def h73 : Hi := { cs := [], ls := [], sp := [4] }
noncomputable def t73 (N : Nat) : List CE := []
theorem t73_ok (N : Nat) : AllP (CEok Go.Proofs.Try.prog) (t73 N) := trivial
theorem a73 (N : Nat) : AllP (fun e => lookC (t73 N) e.2.id = some e.2) h73.cs := trivial
theorem fn73 : Fn Go.Proofs.Try.prog 73 Go.Proofs.Try.f73 (codeOf Go.Proofs.Try.f73) := ⟨by kernel_rfl, by kernel_rfl, by kernel_rfl, by kernel_rfl⟩
noncomputable def on73 {R : Type} (r : Option Rs) (k : Cur (Option R) [(.sl (.pair (.int .i64) (.pair (.int .i64) (.pair (.int .u32) .unit))))]) : Option R := onR [(.sl (.pair (.int .i64) (.pair (.int .i64) (.pair (.int .u32) .unit))))] r k
noncomputable def e73 (N : Nat) (x1255 : (List (Int × (Int × (Int × Unit))))) : Option Rs :=
  match ((decide ((List.length ([] : List (Int × (Int × (Int × Unit)))) + List.length x1255) * 24 ≤ reach)) : Bool) with
  | true =>
    some (0, [⟨(.sl (.pair (.int .i64) (.pair (.int .i64) (.pair (.int .u32) .unit)))), (([] ++ x1255) : (List (Int × (Int × (Int × Unit)))))⟩])
  | false =>
    none
theorem k73 (N : Nat) (x1255 : (List (Int × (Int × (Int × Unit))))) : denC cx0 h73 (ctL []) (ltL []) Go.Proofs.Try.f73 (codeOf Go.Proofs.Try.f73) (.pair (.int .i64) (.pair (.int .i64) (.pair (.int .u32) .unit))) (.nn (.pair (.int .i64) (.pair (.int .i64) (.pair (.int .u32) .unit))) x1255) = e73 N x1255 := by kernel_rfl
theorem k73z : denC cx0 h73 (ctL []) (ltL []) Go.Proofs.Try.f73 (codeOf Go.Proofs.Try.f73) (.pair (.int .i64) (.pair (.int .i64) (.pair (.int .u32) .unit))) .nl = some (0, [⟨.sl (.pair (.int .i64) (.pair (.int .i64) (.pair (.int .u32) .unit))), []⟩]) := by kernel_rfl
theorem k73e (N : Nat) : e73 N [] = some (0, [⟨.sl (.pair (.int .i64) (.pair (.int .i64) (.pair (.int .u32) .unit))), []⟩]) := by kernel_rfl
theorem c73_ok (N : Nat) (x : List (Den (.pair (.int .i64) (.pair (.int .i64) (.pair (.int .u32) .unit))))) (n0 : Nat) (q : List DV) (h : e73 N x = some (n0, q)) : CallOK Go.Proofs.Try.prog c73 [⟨.sl (.pair (.int .i64) (.pair (.int .i64) (.pair (.int .u32) .unit))), x⟩] q :=
  clone_ok ti_ok hmix (hi := h73) rfl rfl rfl rfl rfl fn73 (by kernel_rfl) (by kernel_rfl) (by kernel_rfl) (fun hx => by subst hx; exact k73z.trans ((k73e N).symm.trans h)) ((k73 N x).trans h)
noncomputable def x73 (N : Nat) : List DV → (List DV → Option Rs) → Option Rs := mkX [(.sl (.pair (.int .i64) (.pair (.int .i64) (.pair (.int .u32) .unit))))] [(.sl (.pair (.int .i64) (.pair (.int .i64) (.pair (.int .u32) .unit))))] (e73 N)
theorem x73_ok (N : Nat) : CEok Go.Proofs.Try.prog (c73, x73 N) := mkX_ok fun ys n q h => c73_ok N ys.1 n q h
def c50 : CS := { id := 7, fn := 50, i := { av := [.agg [(.d (.int .i64)), (.d (.ar 16 (.int .u32))), (.d (.ar 16 (.int .i64))), (.d (.int .i64)), (.d (.int .i64)), (.d (.int .i64)), (.d (.int .i64)), (.d .bool), (.d (.int .i64)), (.d (.ar 16 (.int .u32))), (.d (.ar 16 (.int .i64))), (.d (.int .i64)), (.d (.int .i64)), (.d (.int .i64)), (.d (.int .i64)), (.d .bool), (.d (.int .i64)), (.d (.sl (.pair (.int .i64) (.pair .bool (.pair (.int .u32) .unit))))), (.d (.sl (.int .u32))), (.d (.sl (.int .u32))), (.d (.sl .bool)), (.d (.sl .bool)), (.d (.sl (.pair (.int .i64) (.pair (.int .i64) (.pair (.int .i64) (.pair .bool (.pair (.int .u32) .unit))))))), (.d (.sl (.pair .bool (.pair (.int .i64) (.pair (.int .i64) (.pair (.int .i64) (.pair (.int .u32) (.pair (.int .i64) (.pair (.int .i64) (.pair (.int .i64) .unit)))))))))), (.d (.sl (.int .u8))), (.d (.sl (.pair (.int .i64) (.pair (.int .i64) (.pair (.int .u32) .unit))))), (.d (.int .i64)), (.d (.int .i64)), (.d (.int .i64)), (.d (.int .i64)), (.d (.int .i64)), (.d (.int .i64))]], bx := [] }, r := [.agg [(.d (.int .i64)), (.d (.ar 16 (.int .u32))), (.d (.ar 16 (.int .i64))), (.d (.int .i64)), (.d (.int .i64)), (.d (.int .i64)), (.d (.int .i64)), (.d .bool), (.d (.int .i64)), (.d (.ar 16 (.int .u32))), (.d (.ar 16 (.int .i64))), (.d (.int .i64)), (.d (.int .i64)), (.d (.int .i64)), (.d (.int .i64)), (.d .bool), (.d (.int .i64)), (.o (.pair (.int .i64) (.pair .bool (.pair (.int .u32) .unit)))), (.o (.int .u32)), (.o (.int .u32)), (.o .bool), (.o .bool), (.o (.pair (.int .i64) (.pair (.int .i64) (.pair (.int .i64) (.pair .bool (.pair (.int .u32) .unit)))))), (.o (.pair .bool (.pair (.int .i64) (.pair (.int .i64) (.pair (.int .i64) (.pair (.int .u32) (.pair (.int .i64) (.pair (.int .i64) (.pair (.int .i64) .unit))))))))), (.o (.int .u8)), (.o (.pair (.int .i64) (.pair (.int .i64) (.pair (.int .u32) .unit)))), (.d (.int .i64)), (.d (.int .i64)), (.d (.int .i64)), (.d (.int .i64)), (.d (.int .i64)), (.d (.int .i64))]], one := true, ob := [] }
def h50 : Hi := { cs := [((1, 2), c67), ((1, 5), c68), ((1, 8), c68), ((2, 2), c69), ((2, 5), c69), ((3, 2), c70), ((3, 5), c71), ((4, 2), c72), ((4, 5), c73)], ls := [], sp := [] }
noncomputable def t50 (N : Nat) : List CE := [(c67, x67 N), (c68, x68 N), (c69, x69 N), (c70, x70 N), (c71, x71 N), (c72, x72 N), (c73, x73 N)]
theorem t50_ok (N : Nat) : AllP (CEok Go.Proofs.Try.prog) (t50 N) := ⟨x67_ok N, x68_ok N, x69_ok N, x70_ok N, x71_ok N, x72_ok N, x73_ok N, trivial⟩
theorem a50 (N : Nat) : AllP (fun e => lookC (t50 N) e.2.id = some e.2) h50.cs := ⟨rfl, rfl, rfl, rfl, rfl, rfl, rfl, rfl, rfl, trivial⟩
theorem fn50 : Fn Go.Proofs.Try.prog 50 Go.Proofs.Try.f50 (codeOf Go.Proofs.Try.f50) := ⟨by kernel_rfl, by kernel_rfl, by kernel_rfl, by kernel_rfl⟩
noncomputable def on50 {R : Type} (r : Option Rs) (k : Cur (Option R) ((.int .i64) :: (.ar 16 (.int .u32)) :: (.ar 16 (.int .i64)) :: (.int .i64) :: (.int .i64) :: (.int .i64) :: (.int .i64) :: .bool :: (.int .i64) :: (.ar 16 (.int .u32)) :: (.ar 16 (.int .i64)) :: (.int .i64) :: (.int .i64) :: (.int .i64) :: (.int .i64) :: .bool :: (.int .i64) :: (.sl (.pair (.int .i64) (.pair .bool (.pair (.int .u32) .unit)))) :: (.sl (.int .u32)) :: (.sl (.int .u32)) :: (.sl .bool) :: (.sl .bool) :: (.sl (.pair (.int .i64) (.pair (.int .i64) (.pair (.int .i64) (.pair .bool (.pair (.int .u32) .unit)))))) :: (.sl (.pair .bool (.pair (.int .i64) (.pair (.int .i64) (.pair (.int .i64) (.pair (.int .u32) (.pair (.int .i64) (.pair (.int .i64) (.pair (.int .i64) .unit))))))))) :: (.sl (.int .u8)) :: (.sl (.pair (.int .i64) (.pair (.int .i64) (.pair (.int .u32) .unit)))) :: (.int .i64) :: (.int .i64) :: (.int .i64) :: (.int .i64) :: (.int .i64) :: (.int .i64) :: [])) : Option R := onR ((.int .i64) :: (.ar 16 (.int .u32)) :: (.ar 16 (.int .i64)) :: (.int .i64) :: (.int .i64) :: (.int .i64) :: (.int .i64) :: .bool :: (.int .i64) :: (.ar 16 (.int .u32)) :: (.ar 16 (.int .i64)) :: (.int .i64) :: (.int .i64) :: (.int .i64) :: (.int .i64) :: .bool :: (.int .i64) :: (.sl (.pair (.int .i64) (.pair .bool (.pair (.int .u32) .unit)))) :: (.sl (.int .u32)) :: (.sl (.int .u32)) :: (.sl .bool) :: (.sl .bool) :: (.sl (.pair (.int .i64) (.pair (.int .i64) (.pair (.int .i64) (.pair .bool (.pair (.int .u32) .unit)))))) :: (.sl (.pair .bool (.pair (.int .i64) (.pair (.int .i64) (.pair (.int .i64) (.pair (.int .u32) (.pair (.int .i64) (.pair (.int .i64) (.pair (.int .i64) .unit))))))))) :: (.sl (.int .u8)) :: (.sl (.pair (.int .i64) (.pair (.int .i64) (.pair (.int .u32) .unit)))) :: (.int .i64) :: (.int .i64) :: (.int .i64) :: (.int .i64) :: (.int .i64) :: (.int .i64) :: []) r k
noncomputable def e50 (N : Nat) (x1208 : Int) (x1209 : (List Int)) (x1210 : (List Int)) (x1211 : Int) (x1212 : Int) (x1213 : Int) (x1214 : Int) (x1215 : Bool) (x1216 : Int) (x1217 : (List Int)) (x1218 : (List Int)) (x1219 : Int) (x1220 : Int) (x1221 : Int) (x1222 : Int) (x1223 : Bool) (x1224 : Int) (x1225 : (List (Int × (Bool × (Int × Unit))))) (x1226 : (List Int)) (x1227 : (List Int)) (x1228 : (List Bool)) (x1229 : (List Bool)) (x1230 : (List (Int × (Int × (Int × (Bool × (Int × Unit))))))) (x1231 : (List (Bool × (Int × (Int × (Int × (Int × (Int × (Int × (Int × Unit)))))))))) (x1232 : (List Int)) (x1233 : (List (Int × (Int × (Int × Unit))))) (x1234 : Int) (x1235 : Int) (x1236 : Int) (x1237 : Int) (x1238 : Int) (x1239 : Int) : Option Rs :=
  on67 (e67 N (x1225 : (List (Int × (Bool × (Int × Unit)))))) (fun x1240 =>
    on68 (e68 N (x1226 : (List Int))) (fun x1241 =>
      on68 (e68 N (x1227 : (List Int))) (fun x1242 =>
        on69 (e69 N (x1228 : (List Bool))) (fun x1243 =>
          on69 (e69 N (x1229 : (List Bool))) (fun x1244 =>
            on70 (e70 N (x1230 : (List (Int × (Int × (Int × (Bool × (Int × Unit)))))))) (fun x1245 =>
              on71 (e71 N (x1231 : (List (Bool × (Int × (Int × (Int × (Int × (Int × (Int × (Int × Unit))))))))))) (fun x1246 =>
                on72 (e72 N (x1232 : (List Int))) (fun x1247 =>
                  on73 (e73 N (x1233 : (List (Int × (Int × (Int × Unit)))))) (fun x1248 =>
                    some (0, (⟨(.int .i64), (x1208 : Int)⟩ :: ⟨(.ar 16 (.int .u32)), (x1209 : (List Int))⟩ :: ⟨(.ar 16 (.int .i64)), (x1210 : (List Int))⟩ :: ⟨(.int .i64), (x1211 : Int)⟩ :: ⟨(.int .i64), (x1212 : Int)⟩ :: ⟨(.int .i64), (x1213 : Int)⟩ :: ⟨(.int .i64), (x1214 : Int)⟩ :: ⟨.bool, (x1215 : Bool)⟩ :: ⟨(.int .i64), (x1216 : Int)⟩ :: ⟨(.ar 16 (.int .u32)), (x1217 : (List Int))⟩ :: ⟨(.ar 16 (.int .i64)), (x1218 : (List Int))⟩ :: ⟨(.int .i64), (x1219 : Int)⟩ :: ⟨(.int .i64), (x1220 : Int)⟩ :: ⟨(.int .i64), (x1221 : Int)⟩ :: ⟨(.int .i64), (x1222 : Int)⟩ :: ⟨.bool, (x1223 : Bool)⟩ :: ⟨(.int .i64), (x1224 : Int)⟩ :: ⟨(.sl (.pair (.int .i64) (.pair .bool (.pair (.int .u32) .unit)))), (x1240 : (List (Int × (Bool × (Int × Unit)))))⟩ :: ⟨(.sl (.int .u32)), (x1241 : (List Int))⟩ :: ⟨(.sl (.int .u32)), (x1242 : (List Int))⟩ :: ⟨(.sl .bool), (x1243 : (List Bool))⟩ :: ⟨(.sl .bool), (x1244 : (List Bool))⟩ :: ⟨(.sl (.pair (.int .i64) (.pair (.int .i64) (.pair (.int .i64) (.pair .bool (.pair (.int .u32) .unit)))))), (x1245 : (List (Int × (Int × (Int × (Bool × (Int × Unit)))))))⟩ :: ⟨(.sl (.pair .bool (.pair (.int .i64) (.pair (.int .i64) (.pair (.int .i64) (.pair (.int .u32) (.pair (.int .i64) (.pair (.int .i64) (.pair (.int .i64) .unit))))))))), (x1246 : (List (Bool × (Int × (Int × (Int × (Int × (Int × (Int × (Int × Unit))))))))))⟩ :: ⟨(.sl (.int .u8)), (x1247 : (List Int))⟩ :: ⟨(.sl (.pair (.int .i64) (.pair (.int .i64) (.pair (.int .u32) .unit)))), (x1248 : (List (Int × (Int × (Int × Unit)))))⟩ :: ⟨(.int .i64), (x1234 : Int)⟩ :: ⟨(.int .i64), (x1235 : Int)⟩ :: ⟨(.int .i64), (x1236 : Int)⟩ :: ⟨(.int .i64), (x1237 : Int)⟩ :: ⟨(.int .i64), (x1238 : Int)⟩ :: ⟨(.int .i64), (x1239 : Int)⟩ :: [])))))))))))
theorem k50 (N : Nat) (x1208 : Int) (x1209 : (List Int)) (x1210 : (List Int)) (x1211 : Int) (x1212 : Int) (x1213 : Int) (x1214 : Int) (x1215 : Bool) (x1216 : Int) (x1217 : (List Int)) (x1218 : (List Int)) (x1219 : Int) (x1220 : Int) (x1221 : Int) (x1222 : Int) (x1223 : Bool) (x1224 : Int) (x1225 : (List (Int × (Bool × (Int × Unit))))) (x1226 : (List Int)) (x1227 : (List Int)) (x1228 : (List Bool)) (x1229 : (List Bool)) (x1230 : (List (Int × (Int × (Int × (Bool × (Int × Unit))))))) (x1231 : (List (Bool × (Int × (Int × (Int × (Int × (Int × (Int × (Int × Unit)))))))))) (x1232 : (List Int)) (x1233 : (List (Int × (Int × (Int × Unit))))) (x1234 : Int) (x1235 : Int) (x1236 : Int) (x1237 : Int) (x1238 : Int) (x1239 : Int) : den cx0 h50 (ctL (t50 N)) (ltL []) Go.Proofs.Try.f50 (codeOf Go.Proofs.Try.f50) c50.i c50.r c50.ob (⟨(.int .i64), x1208⟩ :: ⟨(.ar 16 (.int .u32)), x1209⟩ :: ⟨(.ar 16 (.int .i64)), x1210⟩ :: ⟨(.int .i64), x1211⟩ :: ⟨(.int .i64), x1212⟩ :: ⟨(.int .i64), x1213⟩ :: ⟨(.int .i64), x1214⟩ :: ⟨.bool, x1215⟩ :: ⟨(.int .i64), x1216⟩ :: ⟨(.ar 16 (.int .u32)), x1217⟩ :: ⟨(.ar 16 (.int .i64)), x1218⟩ :: ⟨(.int .i64), x1219⟩ :: ⟨(.int .i64), x1220⟩ :: ⟨(.int .i64), x1221⟩ :: ⟨(.int .i64), x1222⟩ :: ⟨.bool, x1223⟩ :: ⟨(.int .i64), x1224⟩ :: ⟨(.sl (.pair (.int .i64) (.pair .bool (.pair (.int .u32) .unit)))), x1225⟩ :: ⟨(.sl (.int .u32)), x1226⟩ :: ⟨(.sl (.int .u32)), x1227⟩ :: ⟨(.sl .bool), x1228⟩ :: ⟨(.sl .bool), x1229⟩ :: ⟨(.sl (.pair (.int .i64) (.pair (.int .i64) (.pair (.int .i64) (.pair .bool (.pair (.int .u32) .unit)))))), x1230⟩ :: ⟨(.sl (.pair .bool (.pair (.int .i64) (.pair (.int .i64) (.pair (.int .i64) (.pair (.int .u32) (.pair (.int .i64) (.pair (.int .i64) (.pair (.int .i64) .unit))))))))), x1231⟩ :: ⟨(.sl (.int .u8)), x1232⟩ :: ⟨(.sl (.pair (.int .i64) (.pair (.int .i64) (.pair (.int .u32) .unit)))), x1233⟩ :: ⟨(.int .i64), x1234⟩ :: ⟨(.int .i64), x1235⟩ :: ⟨(.int .i64), x1236⟩ :: ⟨(.int .i64), x1237⟩ :: ⟨(.int .i64), x1238⟩ :: ⟨(.int .i64), x1239⟩ :: []) = e50 N x1208 x1209 x1210 x1211 x1212 x1213 x1214 x1215 x1216 x1217 x1218 x1219 x1220 x1221 x1222 x1223 x1224 x1225 x1226 x1227 x1228 x1229 x1230 x1231 x1232 x1233 x1234 x1235 x1236 x1237 x1238 x1239 := by kernel_rfl
theorem c50_ok (N : Nat) (x1208 : Int) (x1209 : (List Int)) (x1210 : (List Int)) (x1211 : Int) (x1212 : Int) (x1213 : Int) (x1214 : Int) (x1215 : Bool) (x1216 : Int) (x1217 : (List Int)) (x1218 : (List Int)) (x1219 : Int) (x1220 : Int) (x1221 : Int) (x1222 : Int) (x1223 : Bool) (x1224 : Int) (x1225 : (List (Int × (Bool × (Int × Unit))))) (x1226 : (List Int)) (x1227 : (List Int)) (x1228 : (List Bool)) (x1229 : (List Bool)) (x1230 : (List (Int × (Int × (Int × (Bool × (Int × Unit))))))) (x1231 : (List (Bool × (Int × (Int × (Int × (Int × (Int × (Int × (Int × Unit)))))))))) (x1232 : (List Int)) (x1233 : (List (Int × (Int × (Int × Unit))))) (x1234 : Int) (x1235 : Int) (x1236 : Int) (x1237 : Int) (x1238 : Int) (x1239 : Int) (n0 : Nat) (q : List DV) (h : e50 N x1208 x1209 x1210 x1211 x1212 x1213 x1214 x1215 x1216 x1217 x1218 x1219 x1220 x1221 x1222 x1223 x1224 x1225 x1226 x1227 x1228 x1229 x1230 x1231 x1232 x1233 x1234 x1235 x1236 x1237 x1238 x1239 = some (n0, q)) : CallOK Go.Proofs.Try.prog c50 (⟨(.int .i64), x1208⟩ :: ⟨(.ar 16 (.int .u32)), x1209⟩ :: ⟨(.ar 16 (.int .i64)), x1210⟩ :: ⟨(.int .i64), x1211⟩ :: ⟨(.int .i64), x1212⟩ :: ⟨(.int .i64), x1213⟩ :: ⟨(.int .i64), x1214⟩ :: ⟨.bool, x1215⟩ :: ⟨(.int .i64), x1216⟩ :: ⟨(.ar 16 (.int .u32)), x1217⟩ :: ⟨(.ar 16 (.int .i64)), x1218⟩ :: ⟨(.int .i64), x1219⟩ :: ⟨(.int .i64), x1220⟩ :: ⟨(.int .i64), x1221⟩ :: ⟨(.int .i64), x1222⟩ :: ⟨.bool, x1223⟩ :: ⟨(.int .i64), x1224⟩ :: ⟨(.sl (.pair (.int .i64) (.pair .bool (.pair (.int .u32) .unit)))), x1225⟩ :: ⟨(.sl (.int .u32)), x1226⟩ :: ⟨(.sl (.int .u32)), x1227⟩ :: ⟨(.sl .bool), x1228⟩ :: ⟨(.sl .bool), x1229⟩ :: ⟨(.sl (.pair (.int .i64) (.pair (.int .i64) (.pair (.int .i64) (.pair .bool (.pair (.int .u32) .unit)))))), x1230⟩ :: ⟨(.sl (.pair .bool (.pair (.int .i64) (.pair (.int .i64) (.pair (.int .i64) (.pair (.int .u32) (.pair (.int .i64) (.pair (.int .i64) (.pair (.int .i64) .unit))))))))), x1231⟩ :: ⟨(.sl (.int .u8)), x1232⟩ :: ⟨(.sl (.pair (.int .i64) (.pair (.int .i64) (.pair (.int .u32) .unit)))), x1233⟩ :: ⟨(.int .i64), x1234⟩ :: ⟨(.int .i64), x1235⟩ :: ⟨(.int .i64), x1236⟩ :: ⟨(.int .i64), x1237⟩ :: ⟨(.int .i64), x1238⟩ :: ⟨(.int .i64), x1239⟩ :: []) q :=
  fn_ok (l := t50 N) (t := []) ti_ok hmix (t50_ok N) (a50 N) fn50 (by kernel_rfl) (by kernel_rfl) trivial ((k50 N x1208 x1209 x1210 x1211 x1212 x1213 x1214 x1215 x1216 x1217 x1218 x1219 x1220 x1221 x1222 x1223 x1224 x1225 x1226 x1227 x1228 x1229 x1230 x1231 x1232 x1233 x1234 x1235 x1236 x1237 x1238 x1239).trans h)
noncomputable def x50 (N : Nat) : List DV → (List DV → Option Rs) → Option Rs := mkX ((.int .i64) :: (.ar 16 (.int .u32)) :: (.ar 16 (.int .i64)) :: (.int .i64) :: (.int .i64) :: (.int .i64) :: (.int .i64) :: .bool :: (.int .i64) :: (.ar 16 (.int .u32)) :: (.ar 16 (.int .i64)) :: (.int .i64) :: (.int .i64) :: (.int .i64) :: (.int .i64) :: .bool :: (.int .i64) :: (.sl (.pair (.int .i64) (.pair .bool (.pair (.int .u32) .unit)))) :: (.sl (.int .u32)) :: (.sl (.int .u32)) :: (.sl .bool) :: (.sl .bool) :: (.sl (.pair (.int .i64) (.pair (.int .i64) (.pair (.int .i64) (.pair .bool (.pair (.int .u32) .unit)))))) :: (.sl (.pair .bool (.pair (.int .i64) (.pair (.int .i64) (.pair (.int .i64) (.pair (.int .u32) (.pair (.int .i64) (.pair (.int .i64) (.pair (.int .i64) .unit))))))))) :: (.sl (.int .u8)) :: (.sl (.pair (.int .i64) (.pair (.int .i64) (.pair (.int .u32) .unit)))) :: (.int .i64) :: (.int .i64) :: (.int .i64) :: (.int .i64) :: (.int .i64) :: (.int .i64) :: []) ((.int .i64) :: (.ar 16 (.int .u32)) :: (.ar 16 (.int .i64)) :: (.int .i64) :: (.int .i64) :: (.int .i64) :: (.int .i64) :: .bool :: (.int .i64) :: (.ar 16 (.int .u32)) :: (.ar 16 (.int .i64)) :: (.int .i64) :: (.int .i64) :: (.int .i64) :: (.int .i64) :: .bool :: (.int .i64) :: (.sl (.pair (.int .i64) (.pair .bool (.pair (.int .u32) .unit)))) :: (.sl (.int .u32)) :: (.sl (.int .u32)) :: (.sl .bool) :: (.sl .bool) :: (.sl (.pair (.int .i64) (.pair (.int .i64) (.pair (.int .i64) (.pair .bool (.pair (.int .u32) .unit)))))) :: (.sl (.pair .bool (.pair (.int .i64) (.pair (.int .i64) (.pair (.int .i64) (.pair (.int .u32) (.pair (.int .i64) (.pair (.int .i64) (.pair (.int .i64) .unit))))))))) :: (.sl (.int .u8)) :: (.sl (.pair (.int .i64) (.pair (.int .i64) (.pair (.int .u32) .unit)))) :: (.int .i64) :: (.int .i64) :: (.int .i64) :: (.int .i64) :: (.int .i64) :: (.int .i64) :: []) (e50 N)
theorem x50_ok (N : Nat) : CEok Go.Proofs.Try.prog (c50, x50 N) := mkX_ok fun ys n q h => c50_ok N ys.1 ys.2.1 ys.2.2.1 ys.2.2.2.1 ys.2.2.2.2.1 ys.2.2.2.2.2.1 ys.2.2.2.2.2.2.1 ys.2.2.2.2.2.2.2.1 ys.2.2.2.2.2.2.2.2.1 ys.2.2.2.2.2.2.2.2.2.1 ys.2.2.2.2.2.2.2.2.2.2.1 ys.2.2.2.2.2.2.2.2.2.2.2.1 ys.2.2.2.2.2.2.2.2.2.2.2.2.1 ys.2.2.2.2.2.2.2.2.2.2.2.2.2.1 ys.2.2.2.2.2.2.2.2.2.2.2.2.2.2.1 ys.2.2.2.2.2.2.2.2.2.2.2.2.2.2.2.1 ys.2.2.2.2.2.2.2.2.2.2.2.2.2.2.2.2.1 ys.2.2.2.2.2.2.2.2.2.2.2.2.2.2.2.2.2.1 ys.2.2.2.2.2.2.2.2.2.2.2.2.2.2.2.2.2.2.1 ys.2.2.2.2.2.2.2.2.2.2.2.2.2.2.2.2.2.2.2.1 ys.2.2.2.2.2.2.2.2.2.2.2.2.2.2.2.2.2.2.2.2.1 ys.2.2.2.2.2.2.2.2.2.2.2.2.2.2.2.2.2.2.2.2.2.1 ys.2.2.2.2.2.2.2.2.2.2.2.2.2.2.2.2.2.2.2.2.2.2.1 ys.2.2.2.2.2.2.2.2.2.2.2.2.2.2.2.2.2.2.2.2.2.2.2.1 ys.2.2.2.2.2.2.2.2.2.2.2.2.2.2.2.2.2.2.2.2.2.2.2.2.1 ys.2.2.2.2.2.2.2.2.2.2.2.2.2.2.2.2.2.2.2.2.2.2.2.2.2.1 ys.2.2.2.2.2.2.2.2.2.2.2.2.2.2.2.2.2.2.2.2.2.2.2.2.2.2.1 ys.2.2.2.2.2.2.2.2.2.2.2.2.2.2.2.2.2.2.2.2.2.2.2.2.2.2.2.1 ys.2.2.2.2.2.2.2.2.2.2.2.2.2.2.2.2.2.2.2.2.2.2.2.2.2.2.2.2.1 ys.2.2.2.2.2.2.2.2.2.2.2.2.2.2.2.2.2.2.2.2.2.2.2.2.2.2.2.2.2.1 ys.2.2.2.2.2.2.2.2.2.2.2.2.2.2.2.2.2.2.2.2.2.2.2.2.2.2.2.2.2.2.1 ys.2.2.2.2.2.2.2.2.2.2.2.2.2.2.2.2.2.2.2.2.2.2.2.2.2.2.2.2.2.2.2.1 n q h
def c51 : CS := { id := 8, fn := 51, i := { av := [.one (.p 0 0 [1, 16, 16, 1, 1, 1, 1, 1, 1, 16, 16, 1, 1, 1, 1, 1, 1, 1, 1, 1, 1, 1, 1, 1, 1, 1, 1, 1, 1, 1, 1, 1]), .one (.d (.int .i64)), .one (.d (.int .i64)), .one (.d (.int .i64))], bx := [[(.d (.int .i64)), (.d (.ar 16 (.int .u32))), (.d (.ar 16 (.int .i64))), (.d (.int .i64)), (.d (.int .i64)), (.d (.int .i64)), (.d (.int .i64)), (.d .bool), (.d (.int .i64)), (.d (.ar 16 (.int .u32))), (.d (.ar 16 (.int .i64))), (.d (.int .i64)), (.d (.int .i64)), (.d (.int .i64)), (.d (.int .i64)), (.d .bool), (.d (.int .i64)), (.o (.pair (.int .i64) (.pair .bool (.pair (.int .u32) .unit)))), (.o (.int .u32)), (.o (.int .u32)), (.o .bool), (.o .bool), (.o (.pair (.int .i64) (.pair (.int .i64) (.pair (.int .i64) (.pair .bool (.pair (.int .u32) .unit)))))), (.o (.pair .bool (.pair (.int .i64) (.pair (.int .i64) (.pair (.int .i64) (.pair (.int .u32) (.pair (.int .i64) (.pair (.int .i64) (.pair (.int .i64) .unit))))))))), (.o (.int .u8)), (.o (.pair (.int .i64) (.pair (.int .i64) (.pair (.int .u32) .unit)))), (.d (.int .i64)), (.d (.int .i64)), (.d (.int .i64)), (.d (.int .i64)), (.d (.int .i64)), (.d (.int .i64))]] }, r := [], one := false, ob := [[(.d (.int .i64)), (.d (.ar 16 (.int .u32))), (.d (.ar 16 (.int .i64))), (.d (.int .i64)), (.d (.int .i64)), (.d (.int .i64)), (.d (.int .i64)), (.d .bool), (.d (.int .i64)), (.d (.ar 16 (.int .u32))), (.d (.ar 16 (.int .i64))), (.d (.int .i64)), (.d (.int .i64)), (.d (.int .i64)), (.d (.int .i64)), (.d .bool), (.d (.int .i64)), (.o (.pair (.int .i64) (.pair .bool (.pair (.int .u32) .unit)))), (.o (.int .u32)), (.o (.int .u32)), (.o .bool), (.o .bool), (.o (.pair (.int .i64) (.pair (.int .i64) (.pair (.int .i64) (.pair .bool (.pair (.int .u32) .unit)))))), (.o (.pair .bool (.pair (.int .i64) (.pair (.int .i64) (.pair (.int .i64) (.pair (.int .u32) (.pair (.int .i64) (.pair (.int .i64) (.pair (.int .i64) .unit))))))))), (.o (.int .u8)), (.o (.pair (.int .i64) (.pair (.int .i64) (.pair (.int .u32) .unit)))), (.d (.int .i64)), (.d (.int .i64)), (.d (.int .i64)), (.d (.int .i64)), (.d (.int .i64)), (.d (.int .i64))]] }
def h51 : Hi := { cs := [], ls := [], sp := [14, 22] }
noncomputable def t51 (N : Nat) : List CE := []
theorem t51_ok (N : Nat) : AllP (CEok Go.Proofs.Try.prog) (t51 N) := trivial
theorem a51 (N : Nat) : AllP (fun e => lookC (t51 N) e.2.id = some e.2) h51.cs := trivial
theorem fn51 : Fn Go.Proofs.Try.prog 51 Go.Proofs.Try.f51 (codeOf Go.Proofs.Try.f51) := ⟨by kernel_rfl, by kernel_rfl, by kernel_rfl, by kernel_rfl⟩
noncomputable def on51 {R : Type} (r : Option Rs) (k : Cur (Option R) ((.int .i64) :: (.ar 16 (.int .u32)) :: (.ar 16 (.int .i64)) :: (.int .i64) :: (.int .i64) :: (.int .i64) :: (.int .i64) :: .bool :: (.int .i64) :: (.ar 16 (.int .u32)) :: (.ar 16 (.int .i64)) :: (.int .i64) :: (.int .i64) :: (.int .i64) :: (.int .i64) :: .bool :: (.int .i64) :: (.sl (.pair (.int .i64) (.pair .bool (.pair (.int .u32) .unit)))) :: (.sl (.int .u32)) :: (.sl (.int .u32)) :: (.sl .bool) :: (.sl .bool) :: (.sl (.pair (.int .i64) (.pair (.int .i64) (.pair (.int .i64) (.pair .bool (.pair (.int .u32) .unit)))))) :: (.sl (.pair .bool (.pair (.int .i64) (.pair (.int .i64) (.pair (.int .i64) (.pair (.int .u32) (.pair (.int .i64) (.pair (.int .i64) (.pair (.int .i64) .unit))))))))) :: (.sl (.int .u8)) :: (.sl (.pair (.int .i64) (.pair (.int .i64) (.pair (.int .u32) .unit)))) :: (.int .i64) :: (.int .i64) :: (.int .i64) :: (.int .i64) :: (.int .i64) :: (.int .i64) :: [])) : Option R := onR ((.int .i64) :: (.ar 16 (.int .u32)) :: (.ar 16 (.int .i64)) :: (.int .i64) :: (.int .i64) :: (.int .i64) :: (.int .i64) :: .bool :: (.int .i64) :: (.ar 16 (.int .u32)) :: (.ar 16 (.int .i64)) :: (.int .i64) :: (.int .i64) :: (.int .i64) :: (.int .i64) :: .bool :: (.int .i64) :: (.sl (.pair (.int .i64) (.pair .bool (.pair (.int .u32) .unit)))) :: (.sl (.int .u32)) :: (.sl (.int .u32)) :: (.sl .bool) :: (.sl .bool) :: (.sl (.pair (.int .i64) (.pair (.int .i64) (.pair (.int .i64) (.pair .bool (.pair (.int .u32) .unit)))))) :: (.sl (.pair .bool (.pair (.int .i64) (.pair (.int .i64) (.pair (.int .i64) (.pair (.int .u32) (.pair (.int .i64) (.pair (.int .i64) (.pair (.int .i64) .unit))))))))) :: (.sl (.int .u8)) :: (.sl (.pair (.int .i64) (.pair (.int .i64) (.pair (.int .u32) .unit)))) :: (.int .i64) :: (.int .i64) :: (.int .i64) :: (.int .i64) :: (.int .i64) :: (.int .i64) :: []) r k
noncomputable def e51 (N : Nat) (x1256 : Int) (x1257 : Int) (x1258 : Int) (x1259 : Int) (x1260 : (List Int)) (x1261 : (List Int)) (x1262 : Int) (x1263 : Int) (x1264 : Int) (x1265 : Int) (x1266 : Bool) (x1267 : Int) (x1268 : (List Int)) (x1269 : (List Int)) (x1270 : Int) (x1271 : Int) (x1272 : Int) (x1273 : Int) (x1274 : Bool) (x1275 : Int) (x1276 : (List (Int × (Bool × (Int × Unit))))) (x1277 : (List Int)) (x1278 : (List Int)) (x1279 : (List Bool)) (x1280 : (List Bool)) (x1281 : (List (Int × (Int × (Int × (Bool × (Int × Unit))))))) (x1282 : (List (Bool × (Int × (Int × (Int × (Int × (Int × (Int × (Int × Unit)))))))))) (x1283 : (List Int)) (x1284 : (List (Int × (Int × (Int × Unit))))) (x1285 : Int) (x1286 : Int) (x1287 : Int) (x1288 : Int) (x1289 : Int) (x1290 : Int) : Option Rs :=
  match ((x1285 == (0 : Int)) : Bool) with
  | true =>
    some (0, (⟨(.int .i64), (x1259 : Int)⟩ :: ⟨(.ar 16 (.int .u32)), (x1260 : (List Int))⟩ :: ⟨(.ar 16 (.int .i64)), (x1261 : (List Int))⟩ :: ⟨(.int .i64), (x1262 : Int)⟩ :: ⟨(.int .i64), (x1263 : Int)⟩ :: ⟨(.int .i64), (x1264 : Int)⟩ :: ⟨(.int .i64), (x1265 : Int)⟩ :: ⟨.bool, (x1266 : Bool)⟩ :: ⟨(.int .i64), (x1267 : Int)⟩ :: ⟨(.ar 16 (.int .u32)), (x1268 : (List Int))⟩ :: ⟨(.ar 16 (.int .i64)), (x1269 : (List Int))⟩ :: ⟨(.int .i64), (x1270 : Int)⟩ :: ⟨(.int .i64), (x1271 : Int)⟩ :: ⟨(.int .i64), (x1272 : Int)⟩ :: ⟨(.int .i64), (x1273 : Int)⟩ :: ⟨.bool, (x1274 : Bool)⟩ :: ⟨(.int .i64), (x1275 : Int)⟩ :: ⟨(.sl (.pair (.int .i64) (.pair .bool (.pair (.int .u32) .unit)))), (x1276 : (List (Int × (Bool × (Int × Unit)))))⟩ :: ⟨(.sl (.int .u32)), (x1277 : (List Int))⟩ :: ⟨(.sl (.int .u32)), (x1278 : (List Int))⟩ :: ⟨(.sl .bool), (x1279 : (List Bool))⟩ :: ⟨(.sl .bool), (x1280 : (List Bool))⟩ :: ⟨(.sl (.pair (.int .i64) (.pair (.int .i64) (.pair (.int .i64) (.pair .bool (.pair (.int .u32) .unit)))))), (x1281 : (List (Int × (Int × (Int × (Bool × (Int × Unit)))))))⟩ :: ⟨(.sl (.pair .bool (.pair (.int .i64) (.pair (.int .i64) (.pair (.int .i64) (.pair (.int .u32) (.pair (.int .i64) (.pair (.int .i64) (.pair (.int .i64) .unit))))))))), (x1282 : (List (Bool × (Int × (Int × (Int × (Int × (Int × (Int × (Int × Unit))))))))))⟩ :: ⟨(.sl (.int .u8)), (x1283 : (List Int))⟩ :: ⟨(.sl (.pair (.int .i64) (.pair (.int .i64) (.pair (.int .u32) .unit)))), (x1284 : (List (Int × (Int × (Int × Unit)))))⟩ :: ⟨(.int .i64), (x1256 : Int)⟩ :: ⟨(.int .i64), (x1257 : Int)⟩ :: ⟨(.int .i64), (x1258 : Int)⟩ :: ⟨(.int .i64), (x1288 : Int)⟩ :: ⟨(.int .i64), (x1289 : Int)⟩ :: ⟨(.int .i64), (x1290 : Int)⟩ :: []))
  | false =>
    match ((decide (x1286 > x1257)) : Bool) with
    | true =>
      some (0, (⟨(.int .i64), (x1259 : Int)⟩ :: ⟨(.ar 16 (.int .u32)), (x1260 : (List Int))⟩ :: ⟨(.ar 16 (.int .i64)), (x1261 : (List Int))⟩ :: ⟨(.int .i64), (x1262 : Int)⟩ :: ⟨(.int .i64), (x1263 : Int)⟩ :: ⟨(.int .i64), (x1264 : Int)⟩ :: ⟨(.int .i64), (x1265 : Int)⟩ :: ⟨.bool, (x1266 : Bool)⟩ :: ⟨(.int .i64), (x1267 : Int)⟩ :: ⟨(.ar 16 (.int .u32)), (x1268 : (List Int))⟩ :: ⟨(.ar 16 (.int .i64)), (x1269 : (List Int))⟩ :: ⟨(.int .i64), (x1270 : Int)⟩ :: ⟨(.int .i64), (x1271 : Int)⟩ :: ⟨(.int .i64), (x1272 : Int)⟩ :: ⟨(.int .i64), (x1273 : Int)⟩ :: ⟨.bool, (x1274 : Bool)⟩ :: ⟨(.int .i64), (x1275 : Int)⟩ :: ⟨(.sl (.pair (.int .i64) (.pair .bool (.pair (.int .u32) .unit)))), (x1276 : (List (Int × (Bool × (Int × Unit)))))⟩ :: ⟨(.sl (.int .u32)), (x1277 : (List Int))⟩ :: ⟨(.sl (.int .u32)), (x1278 : (List Int))⟩ :: ⟨(.sl .bool), (x1279 : (List Bool))⟩ :: ⟨(.sl .bool), (x1280 : (List Bool))⟩ :: ⟨(.sl (.pair (.int .i64) (.pair (.int .i64) (.pair (.int .i64) (.pair .bool (.pair (.int .u32) .unit)))))), (x1281 : (List (Int × (Int × (Int × (Bool × (Int × Unit)))))))⟩ :: ⟨(.sl (.pair .bool (.pair (.int .i64) (.pair (.int .i64) (.pair (.int .i64) (.pair (.int .u32) (.pair (.int .i64) (.pair (.int .i64) (.pair (.int .i64) .unit))))))))), (x1282 : (List (Bool × (Int × (Int × (Int × (Int × (Int × (Int × (Int × Unit))))))))))⟩ :: ⟨(.sl (.int .u8)), (x1283 : (List Int))⟩ :: ⟨(.sl (.pair (.int .i64) (.pair (.int .i64) (.pair (.int .u32) .unit)))), (x1284 : (List (Int × (Int × (Int × Unit)))))⟩ :: ⟨(.int .i64), (x1256 : Int)⟩ :: ⟨(.int .i64), (x1257 : Int)⟩ :: ⟨(.int .i64), (x1258 : Int)⟩ :: ⟨(.int .i64), (x1288 : Int)⟩ :: ⟨(.int .i64), (x1289 : Int)⟩ :: ⟨(.int .i64), (x1290 : Int)⟩ :: []))
    | false =>
      some (0, (⟨(.int .i64), (x1259 : Int)⟩ :: ⟨(.ar 16 (.int .u32)), (x1260 : (List Int))⟩ :: ⟨(.ar 16 (.int .i64)), (x1261 : (List Int))⟩ :: ⟨(.int .i64), (x1262 : Int)⟩ :: ⟨(.int .i64), (x1263 : Int)⟩ :: ⟨(.int .i64), (x1264 : Int)⟩ :: ⟨(.int .i64), (x1265 : Int)⟩ :: ⟨.bool, (x1266 : Bool)⟩ :: ⟨(.int .i64), (x1267 : Int)⟩ :: ⟨(.ar 16 (.int .u32)), (x1268 : (List Int))⟩ :: ⟨(.ar 16 (.int .i64)), (x1269 : (List Int))⟩ :: ⟨(.int .i64), (x1270 : Int)⟩ :: ⟨(.int .i64), (x1271 : Int)⟩ :: ⟨(.int .i64), (x1272 : Int)⟩ :: ⟨(.int .i64), (x1273 : Int)⟩ :: ⟨.bool, (x1274 : Bool)⟩ :: ⟨(.int .i64), (x1275 : Int)⟩ :: ⟨(.sl (.pair (.int .i64) (.pair .bool (.pair (.int .u32) .unit)))), (x1276 : (List (Int × (Bool × (Int × Unit)))))⟩ :: ⟨(.sl (.int .u32)), (x1277 : (List Int))⟩ :: ⟨(.sl (.int .u32)), (x1278 : (List Int))⟩ :: ⟨(.sl .bool), (x1279 : (List Bool))⟩ :: ⟨(.sl .bool), (x1280 : (List Bool))⟩ :: ⟨(.sl (.pair (.int .i64) (.pair (.int .i64) (.pair (.int .i64) (.pair .bool (.pair (.int .u32) .unit)))))), (x1281 : (List (Int × (Int × (Int × (Bool × (Int × Unit)))))))⟩ :: ⟨(.sl (.pair .bool (.pair (.int .i64) (.pair (.int .i64) (.pair (.int .i64) (.pair (.int .u32) (.pair (.int .i64) (.pair (.int .i64) (.pair (.int .i64) .unit))))))))), (x1282 : (List (Bool × (Int × (Int × (Int × (Int × (Int × (Int × (Int × Unit))))))))))⟩ :: ⟨(.sl (.int .u8)), (x1283 : (List Int))⟩ :: ⟨(.sl (.pair (.int .i64) (.pair (.int .i64) (.pair (.int .u32) .unit)))), (x1284 : (List (Int × (Int × (Int × Unit)))))⟩ :: ⟨(.int .i64), (x1285 : Int)⟩ :: ⟨(.int .i64), (x1286 : Int)⟩ :: ⟨(.int .i64), (x1287 : Int)⟩ :: ⟨(.int .i64), (x1288 : Int)⟩ :: ⟨(.int .i64), (x1289 : Int)⟩ :: ⟨(.int .i64), (x1290 : Int)⟩ :: []))
theorem k51 (N : Nat) (x1256 : Int) (x1257 : Int) (x1258 : Int) (x1259 : Int) (x1260 : (List Int)) (x1261 : (List Int)) (x1262 : Int) (x1263 : Int) (x1264 : Int) (x1265 : Int) (x1266 : Bool) (x1267 : Int) (x1268 : (List Int)) (x1269 : (List Int)) (x1270 : Int) (x1271 : Int) (x1272 : Int) (x1273 : Int) (x1274 : Bool) (x1275 : Int) (x1276 : (List (Int × (Bool × (Int × Unit))))) (x1277 : (List Int)) (x1278 : (List Int)) (x1279 : (List Bool)) (x1280 : (List Bool)) (x1281 : (List (Int × (Int × (Int × (Bool × (Int × Unit))))))) (x1282 : (List (Bool × (Int × (Int × (Int × (Int × (Int × (Int × (Int × Unit)))))))))) (x1283 : (List Int)) (x1284 : (List (Int × (Int × (Int × Unit))))) (x1285 : Int) (x1286 : Int) (x1287 : Int) (x1288 : Int) (x1289 : Int) (x1290 : Int) : den cx0 h51 (ctL (t51 N)) (ltL []) Go.Proofs.Try.f51 (codeOf Go.Proofs.Try.f51) c51.i c51.r c51.ob (⟨(.int .i64), x1256⟩ :: ⟨(.int .i64), x1257⟩ :: ⟨(.int .i64), x1258⟩ :: ⟨(.int .i64), x1259⟩ :: ⟨(.ar 16 (.int .u32)), x1260⟩ :: ⟨(.ar 16 (.int .i64)), x1261⟩ :: ⟨(.int .i64), x1262⟩ :: ⟨(.int .i64), x1263⟩ :: ⟨(.int .i64), x1264⟩ :: ⟨(.int .i64), x1265⟩ :: ⟨.bool, x1266⟩ :: ⟨(.int .i64), x1267⟩ :: ⟨(.ar 16 (.int .u32)), x1268⟩ :: ⟨(.ar 16 (.int .i64)), x1269⟩ :: ⟨(.int .i64), x1270⟩ :: ⟨(.int .i64), x1271⟩ :: ⟨(.int .i64), x1272⟩ :: ⟨(.int .i64), x1273⟩ :: ⟨.bool, x1274⟩ :: ⟨(.int .i64), x1275⟩ :: ⟨(.sl (.pair (.int .i64) (.pair .bool (.pair (.int .u32) .unit)))), x1276⟩ :: ⟨(.sl (.int .u32)), x1277⟩ :: ⟨(.sl (.int .u32)), x1278⟩ :: ⟨(.sl .bool), x1279⟩ :: ⟨(.sl .bool), x1280⟩ :: ⟨(.sl (.pair (.int .i64) (.pair (.int .i64) (.pair (.int .i64) (.pair .bool (.pair (.int .u32) .unit)))))), x1281⟩ :: ⟨(.sl (.pair .bool (.pair (.int .i64) (.pair (.int .i64) (.pair (.int .i64) (.pair (.int .u32) (.pair (.int .i64) (.pair (.int .i64) (.pair (.int .i64) .unit))))))))), x1282⟩ :: ⟨(.sl (.int .u8)), x1283⟩ :: ⟨(.sl (.pair (.int .i64) (.pair (.int .i64) (.pair (.int .u32) .unit)))), x1284⟩ :: ⟨(.int .i64), x1285⟩ :: ⟨(.int .i64), x1286⟩ :: ⟨(.int .i64), x1287⟩ :: ⟨(.int .i64), x1288⟩ :: ⟨(.int .i64), x1289⟩ :: ⟨(.int .i64), x1290⟩ :: []) = e51 N x1256 x1257 x1258 x1259 x1260 x1261 x1262 x1263 x1264 x1265 x1266 x1267 x1268 x1269 x1270 x1271 x1272 x1273 x1274 x1275 x1276 x1277 x1278 x1279 x1280 x1281 x1282 x1283 x1284 x1285 x1286 x1287 x1288 x1289 x1290 := by kernel_rfl
theorem c51_ok (N : Nat) (x1256 : Int) (x1257 : Int) (x1258 : Int) (x1259 : Int) (x1260 : (List Int)) (x1261 : (List Int)) (x1262 : Int) (x1263 : Int) (x1264 : Int) (x1265 : Int) (x1266 : Bool) (x1267 : Int) (x1268 : (List Int)) (x1269 : (List Int)) (x1270 : Int) (x1271 : Int) (x1272 : Int) (x1273 : Int) (x1274 : Bool) (x1275 : Int) (x1276 : (List (Int × (Bool × (Int × Unit))))) (x1277 : (List Int)) (x1278 : (List Int)) (x1279 : (List Bool)) (x1280 : (List Bool)) (x1281 : (List (Int × (Int × (Int × (Bool × (Int × Unit))))))) (x1282 : (List (Bool × (Int × (Int × (Int × (Int × (Int × (Int × (Int × Unit)))))))))) (x1283 : (List Int)) (x1284 : (List (Int × (Int × (Int × Unit))))) (x1285 : Int) (x1286 : Int) (x1287 : Int) (x1288 : Int) (x1289 : Int) (x1290 : Int) (n0 : Nat) (q : List DV) (h : e51 N x1256 x1257 x1258 x1259 x1260 x1261 x1262 x1263 x1264 x1265 x1266 x1267 x1268 x1269 x1270 x1271 x1272 x1273 x1274 x1275 x1276 x1277 x1278 x1279 x1280 x1281 x1282 x1283 x1284 x1285 x1286 x1287 x1288 x1289 x1290 = some (n0, q)) : CallOK Go.Proofs.Try.prog c51 (⟨(.int .i64), x1256⟩ :: ⟨(.int .i64), x1257⟩ :: ⟨(.int .i64), x1258⟩ :: ⟨(.int .i64), x1259⟩ :: ⟨(.ar 16 (.int .u32)), x1260⟩ :: ⟨(.ar 16 (.int .i64)), x1261⟩ :: ⟨(.int .i64), x1262⟩ :: ⟨(.int .i64), x1263⟩ :: ⟨(.int .i64), x1264⟩ :: ⟨(.int .i64), x1265⟩ :: ⟨.bool, x1266⟩ :: ⟨(.int .i64), x1267⟩ :: ⟨(.ar 16 (.int .u32)), x1268⟩ :: ⟨(.ar 16 (.int .i64)), x1269⟩ :: ⟨(.int .i64), x1270⟩ :: ⟨(.int .i64), x1271⟩ :: ⟨(.int .i64), x1272⟩ :: ⟨(.int .i64), x1273⟩ :: ⟨.bool, x1274⟩ :: ⟨(.int .i64), x1275⟩ :: ⟨(.sl (.pair (.int .i64) (.pair .bool (.pair (.int .u32) .unit)))), x1276⟩ :: ⟨(.sl (.int .u32)), x1277⟩ :: ⟨(.sl (.int .u32)), x1278⟩ :: ⟨(.sl .bool), x1279⟩ :: ⟨(.sl .bool), x1280⟩ :: ⟨(.sl (.pair (.int .i64) (.pair (.int .i64) (.pair (.int .i64) (.pair .bool (.pair (.int .u32) .unit)))))), x1281⟩ :: ⟨(.sl (.pair .bool (.pair (.int .i64) (.pair (.int .i64) (.pair (.int .i64) (.pair (.int .u32) (.pair (.int .i64) (.pair (.int .i64) (.pair (.int .i64) .unit))))))))), x1282⟩ :: ⟨(.sl (.int .u8)), x1283⟩ :: ⟨(.sl (.pair (.int .i64) (.pair (.int .i64) (.pair (.int .u32) .unit)))), x1284⟩ :: ⟨(.int .i64), x1285⟩ :: ⟨(.int .i64), x1286⟩ :: ⟨(.int .i64), x1287⟩ :: ⟨(.int .i64), x1288⟩ :: ⟨(.int .i64), x1289⟩ :: ⟨(.int .i64), x1290⟩ :: []) q :=
  fn_ok (l := t51 N) (t := []) ti_ok hmix (t51_ok N) (a51 N) fn51 (by kernel_rfl) (by kernel_rfl) trivial ((k51 N x1256 x1257 x1258 x1259 x1260 x1261 x1262 x1263 x1264 x1265 x1266 x1267 x1268 x1269 x1270 x1271 x1272 x1273 x1274 x1275 x1276 x1277 x1278 x1279 x1280 x1281 x1282 x1283 x1284 x1285 x1286 x1287 x1288 x1289 x1290).trans h)
noncomputable def x51 (N : Nat) : List DV → (List DV → Option Rs) → Option Rs := mkX ((.int .i64) :: (.int .i64) :: (.int .i64) :: (.int .i64) :: (.ar 16 (.int .u32)) :: (.ar 16 (.int .i64)) :: (.int .i64) :: (.int .i64) :: (.int .i64) :: (.int .i64) :: .bool :: (.int .i64) :: (.ar 16 (.int .u32)) :: (.ar 16 (.int .i64)) :: (.int .i64) :: (.int .i64) :: (.int .i64) :: (.int .i64) :: .bool :: (.int .i64) :: (.sl (.pair (.int .i64) (.pair .bool (.pair (.int .u32) .unit)))) :: (.sl (.int .u32)) :: (.sl (.int .u32)) :: (.sl .bool) :: (.sl .bool) :: (.sl (.pair (.int .i64) (.pair (.int .i64) (.pair (.int .i64) (.pair .bool (.pair (.int .u32) .unit)))))) :: (.sl (.pair .bool (.pair (.int .i64) (.pair (.int .i64) (.pair (.int .i64) (.pair (.int .u32) (.pair (.int .i64) (.pair (.int .i64) (.pair (.int .i64) .unit))))))))) :: (.sl (.int .u8)) :: (.sl (.pair (.int .i64) (.pair (.int .i64) (.pair (.int .u32) .unit)))) :: (.int .i64) :: (.int .i64) :: (.int .i64) :: (.int .i64) :: (.int .i64) :: (.int .i64) :: []) ((.int .i64) :: (.ar 16 (.int .u32)) :: (.ar 16 (.int .i64)) :: (.int .i64) :: (.int .i64) :: (.int .i64) :: (.int .i64) :: .bool :: (.int .i64) :: (.ar 16 (.int .u32)) :: (.ar 16 (.int .i64)) :: (.int .i64) :: (.int .i64) :: (.int .i64) :: (.int .i64) :: .bool :: (.int .i64) :: (.sl (.pair (.int .i64) (.pair .bool (.pair (.int .u32) .unit)))) :: (.sl (.int .u32)) :: (.sl (.int .u32)) :: (.sl .bool) :: (.sl .bool) :: (.sl (.pair (.int .i64) (.pair (.int .i64) (.pair (.int .i64) (.pair .bool (.pair (.int .u32) .unit)))))) :: (.sl (.pair .bool (.pair (.int .i64) (.pair (.int .i64) (.pair (.int .i64) (.pair (.int .u32) (.pair (.int .i64) (.pair (.int .i64) (.pair (.int .i64) .unit))))))))) :: (.sl (.int .u8)) :: (.sl (.pair (.int .i64) (.pair (.int .i64) (.pair (.int .u32) .unit)))) :: (.int .i64) :: (.int .i64) :: (.int .i64) :: (.int .i64) :: (.int .i64) :: (.int .i64) :: []) (e51 N)
theorem x51_ok (N : Nat) : CEok Go.Proofs.Try.prog (c51, x51 N) := mkX_ok fun ys n q h => c51_ok N ys.1 ys.2.1 ys.2.2.1 ys.2.2.2.1 ys.2.2.2.2.1 ys.2.2.2.2.2.1 ys.2.2.2.2.2.2.1 ys.2.2.2.2.2.2.2.1 ys.2.2.2.2.2.2.2.2.1 ys.2.2.2.2.2.2.2.2.2.1 ys.2.2.2.2.2.2.2.2.2.2.1 ys.2.2.2.2.2.2.2.2.2.2.2.1 ys.2.2.2.2.2.2.2.2.2.2.2.2.1 ys.2.2.2.2.2.2.2.2.2.2.2.2.2.1 ys.2.2.2.2.2.2.2.2.2.2.2.2.2.2.1 ys.2.2.2.2.2.2.2.2.2.2.2.2.2.2.2.1 ys.2.2.2.2.2.2.2.2.2.2.2.2.2.2.2.2.1 ys.2.2.2.2.2.2.2.2.2.2.2.2.2.2.2.2.2.1 ys.2.2.2.2.2.2.2.2.2.2.2.2.2.2.2.2.2.2.1 ys.2.2.2.2.2.2.2.2.2.2.2.2.2.2.2.2.2.2.2.1 ys.2.2.2.2.2.2.2.2.2.2.2.2.2.2.2.2.2.2.2.2.1 ys.2.2.2.2.2.2.2.2.2.2.2.2.2.2.2.2.2.2.2.2.2.1 ys.2.2.2.2.2.2.2.2.2.2.2.2.2.2.2.2.2.2.2.2.2.2.1 ys.2.2.2.2.2.2.2.2.2.2.2.2.2.2.2.2.2.2.2.2.2.2.2.1 ys.2.2.2.2.2.2.2.2.2.2.2.2.2.2.2.2.2.2.2.2.2.2.2.2.1 ys.2.2.2.2.2.2.2.2.2.2.2.2.2.2.2.2.2.2.2.2.2.2.2.2.2.1 ys.2.2.2.2.2.2.2.2.2.2.2.2.2.2.2.2.2.2.2.2.2.2.2.2.2.2.1 ys.2.2.2.2.2.2.2.2.2.2.2.2.2.2.2.2.2.2.2.2.2.2.2.2.2.2.2.1 ys.2.2.2.2.2.2.2.2.2.2.2.2.2.2.2.2.2.2.2.2.2.2.2.2.2.2.2.2.1 ys.2.2.2.2.2.2.2.2.2.2.2.2.2.2.2.2.2.2.2.2.2.2.2.2.2.2.2.2.2.1 ys.2.2.2.2.2.2.2.2.2.2.2.2.2.2.2.2.2.2.2.2.2.2.2.2.2.2.2.2.2.2.1 ys.2.2.2.2.2.2.2.2.2.2.2.2.2.2.2.2.2.2.2.2.2.2.2.2.2.2.2.2.2.2.2.1 ys.2.2.2.2.2.2.2.2.2.2.2.2.2.2.2.2.2.2.2.2.2.2.2.2.2.2.2.2.2.2.2.2.1 ys.2.2.2.2.2.2.2.2.2.2.2.2.2.2.2.2.2.2.2.2.2.2.2.2.2.2.2.2.2.2.2.2.2.1 ys.2.2.2.2.2.2.2.2.2.2.2.2.2.2.2.2.2.2.2.2.2.2.2.2.2.2.2.2.2.2.2.2.2.2.1 n q h
def c18 : CS := { id := 9, fn := 18, i := { av := [.agg [(.d (.int .i64)), (.d (.ar 16 (.int .u32))), (.d (.ar 16 (.int .i64))), (.d (.int .i64)), (.d (.int .i64)), (.d (.int .i64)), (.d (.int .i64)), (.d .bool), (.d (.int .i64)), (.d (.ar 16 (.int .u32))), (.d (.ar 16 (.int .i64))), (.d (.int .i64)), (.d (.int .i64)), (.d (.int .i64)), (.d (.int .i64)), (.d .bool), (.d (.int .i64)), (.d (.sl (.pair (.int .i64) (.pair .bool (.pair (.int .u32) .unit))))), (.d (.sl (.int .u32))), (.d (.sl (.int .u32))), (.d (.sl .bool)), (.d (.sl .bool)), (.d (.sl (.pair (.int .i64) (.pair (.int .i64) (.pair (.int .i64) (.pair .bool (.pair (.int .u32) .unit))))))), (.d (.sl (.pair .bool (.pair (.int .i64) (.pair (.int .i64) (.pair (.int .i64) (.pair (.int .u32) (.pair (.int .i64) (.pair (.int .i64) (.pair (.int .i64) .unit)))))))))), (.d (.sl (.int .u8))), (.d (.sl (.pair (.int .i64) (.pair (.int .i64) (.pair (.int .u32) .unit))))), (.d (.int .i64)), (.d (.int .i64)), (.d (.int .i64)), (.d (.int .i64)), (.d (.int .i64)), (.d (.int .i64))], .one (.d (.int .i64)), .one (.d (.int .i64)), .one (.d (.int .i64))], bx := [] }, r := [.agg [(.d (.int .i64)), (.d (.ar 16 (.int .u32))), (.d (.ar 16 (.int .i64))), (.d (.int .i64)), (.d (.int .i64)), (.d (.int .i64)), (.d (.int .i64)), (.d .bool), (.d (.int .i64)), (.d (.ar 16 (.int .u32))), (.d (.ar 16 (.int .i64))), (.d (.int .i64)), (.d (.int .i64)), (.d (.int .i64)), (.d (.int .i64)), (.d .bool), (.d (.int .i64)), (.o (.pair (.int .i64) (.pair .bool (.pair (.int .u32) .unit)))), (.o (.int .u32)), (.o (.int .u32)), (.o .bool), (.o .bool), (.o (.pair (.int .i64) (.pair (.int .i64) (.pair (.int .i64) (.pair .bool (.pair (.int .u32) .unit)))))), (.o (.pair .bool (.pair (.int .i64) (.pair (.int .i64) (.pair (.int .i64) (.pair (.int .u32) (.pair (.int .i64) (.pair (.int .i64) (.pair (.int .i64) .unit))))))))), (.o (.int .u8)), (.o (.pair (.int .i64) (.pair (.int .i64) (.pair (.int .u32) .unit)))), (.d (.int .i64)), (.d (.int .i64)), (.d (.int .i64)), (.d (.int .i64)), (.d (.int .i64)), (.d (.int .i64))]], one := true, ob := [] }
def h18 : Hi := { cs := [((1, 1), c50), ((2, 3), c51)], ls := [], sp := [] }
noncomputable def t18 (N : Nat) : List CE := [(c50, x50 N), (c51, x51 N)]
theorem t18_ok (N : Nat) : AllP (CEok Go.Proofs.Try.prog) (t18 N) := ⟨x50_ok N, x51_ok N, trivial⟩
theorem a18 (N : Nat) : AllP (fun e => lookC (t18 N) e.2.id = some e.2) h18.cs := ⟨rfl, rfl, trivial⟩
theorem fn18 : Fn Go.Proofs.Try.prog 18 Go.Proofs.Try.f18 (codeOf Go.Proofs.Try.f18) := ⟨by kernel_rfl, by kernel_rfl, by kernel_rfl, by kernel_rfl⟩
noncomputable def on18 {R : Type} (r : Option Rs) (k : Cur (Option R) ((.int .i64) :: (.ar 16 (.int .u32)) :: (.ar 16 (.int .i64)) :: (.int .i64) :: (.int .i64) :: (.int .i64) :: (.int .i64) :: .bool :: (.int .i64) :: (.ar 16 (.int .u32)) :: (.ar 16 (.int .i64)) :: (.int .i64) :: (.int .i64) :: (.int .i64) :: (.int .i64) :: .bool :: (.int .i64) :: (.sl (.pair (.int .i64) (.pair .bool (.pair (.int .u32) .unit)))) :: (.sl (.int .u32)) :: (.sl (.int .u32)) :: (.sl .bool) :: (.sl .bool) :: (.sl (.pair (.int .i64) (.pair (.int .i64) (.pair (.int .i64) (.pair .bool (.pair (.int .u32) .unit)))))) :: (.sl (.pair .bool (.pair (.int .i64) (.pair (.int .i64) (.pair (.int .i64) (.pair (.int .u32) (.pair (.int .i64) (.pair (.int .i64) (.pair (.int .i64) .unit))))))))) :: (.sl (.int .u8)) :: (.sl (.pair (.int .i64) (.pair (.int .i64) (.pair (.int .u32) .unit)))) :: (.int .i64) :: (.int .i64) :: (.int .i64) :: (.int .i64) :: (.int .i64) :: (.int .i64) :: [])) : Option R := onR ((.int .i64) :: (.ar 16 (.int .u32)) :: (.ar 16 (.int .i64)) :: (.int .i64) :: (.int .i64) :: (.int .i64) :: (.int .i64) :: .bool :: (.int .i64) :: (.ar 16 (.int .u32)) :: (.ar 16 (.int .i64)) :: (.int .i64) :: (.int .i64) :: (.int .i64) :: (.int .i64) :: .bool :: (.int .i64) :: (.sl (.pair (.int .i64) (.pair .bool (.pair (.int .u32) .unit)))) :: (.sl (.int .u32)) :: (.sl (.int .u32)) :: (.sl .bool) :: (.sl .bool) :: (.sl (.pair (.int .i64) (.pair (.int .i64) (.pair (.int .i64) (.pair .bool (.pair (.int .u32) .unit)))))) :: (.sl (.pair .bool (.pair (.int .i64) (.pair (.int .i64) (.pair (.int .i64) (.pair (.int .u32) (.pair (.int .i64) (.pair (.int .i64) (.pair (.int .i64) .unit))))))))) :: (.sl (.int .u8)) :: (.sl (.pair (.int .i64) (.pair (.int .i64) (.pair (.int .u32) .unit)))) :: (.int .i64) :: (.int .i64) :: (.int .i64) :: (.int .i64) :: (.int .i64) :: (.int .i64) :: []) r k
noncomputable def e18 (N : Nat) (x1109 : Int) (x1110 : (List Int)) (x1111 : (List Int)) (x1112 : Int) (x1113 : Int) (x1114 : Int) (x1115 : Int) (x1116 : Bool) (x1117 : Int) (x1118 : (List Int)) (x1119 : (List Int)) (x1120 : Int) (x1121 : Int) (x1122 : Int) (x1123 : Int) (x1124 : Bool) (x1125 : Int) (x1126 : (List (Int × (Bool × (Int × Unit))))) (x1127 : (List Int)) (x1128 : (List Int)) (x1129 : (List Bool)) (x1130 : (List Bool)) (x1131 : (List (Int × (Int × (Int × (Bool × (Int × Unit))))))) (x1132 : (List (Bool × (Int × (Int × (Int × (Int × (Int × (Int × (Int × Unit)))))))))) (x1133 : (List Int)) (x1134 : (List (Int × (Int × (Int × Unit))))) (x1135 : Int) (x1136 : Int) (x1137 : Int) (x1138 : Int) (x1139 : Int) (x1140 : Int) (x1141 : Int) (x1142 : Int) (x1143 : Int) : Option Rs :=
  on50 (e50 N (x1109 : Int) (x1110 : (List Int)) (x1111 : (List Int)) (x1112 : Int) (x1113 : Int) (x1114 : Int) (x1115 : Int) (x1116 : Bool) (x1117 : Int) (x1118 : (List Int)) (x1119 : (List Int)) (x1120 : Int) (x1121 : Int) (x1122 : Int) (x1123 : Int) (x1124 : Bool) (x1125 : Int) (x1126 : (List (Int × (Bool × (Int × Unit))))) (x1127 : (List Int)) (x1128 : (List Int)) (x1129 : (List Bool)) (x1130 : (List Bool)) (x1131 : (List (Int × (Int × (Int × (Bool × (Int × Unit))))))) (x1132 : (List (Bool × (Int × (Int × (Int × (Int × (Int × (Int × (Int × Unit)))))))))) (x1133 : (List Int)) (x1134 : (List (Int × (Int × (Int × Unit))))) (x1135 : Int) (x1136 : Int) (x1137 : Int) (x1138 : Int) (x1139 : Int) (x1140 : Int)) (fun x1144 x1145 x1146 x1147 x1148 x1149 x1150 x1151 x1152 x1153 x1154 x1155 x1156 x1157 x1158 x1159 x1160 x1161 x1162 x1163 x1164 x1165 x1166 x1167 x1168 x1169 x1170 x1171 x1172 x1173 x1174 x1175 =>
    on51 (e51 N (x1141 : Int) (x1142 : Int) (x1143 : Int) (x1144 : Int) (x1145 : (List Int)) (x1146 : (List Int)) (x1147 : Int) (x1148 : Int) (x1149 : Int) (x1150 : Int) (x1151 : Bool) (x1152 : Int) (x1153 : (List Int)) (x1154 : (List Int)) (x1155 : Int) (x1156 : Int) (x1157 : Int) (x1158 : Int) (x1159 : Bool) (x1160 : Int) (x1161 : (List (Int × (Bool × (Int × Unit))))) (x1162 : (List Int)) (x1163 : (List Int)) (x1164 : (List Bool)) (x1165 : (List Bool)) (x1166 : (List (Int × (Int × (Int × (Bool × (Int × Unit))))))) (x1167 : (List (Bool × (Int × (Int × (Int × (Int × (Int × (Int × (Int × Unit)))))))))) (x1168 : (List Int)) (x1169 : (List (Int × (Int × (Int × Unit))))) (x1170 : Int) (x1171 : Int) (x1172 : Int) (x1173 : Int) (x1174 : Int) (x1175 : Int)) (fun x1176 x1177 x1178 x1179 x1180 x1181 x1182 x1183 x1184 x1185 x1186 x1187 x1188 x1189 x1190 x1191 x1192 x1193 x1194 x1195 x1196 x1197 x1198 x1199 x1200 x1201 x1202 x1203 x1204 x1205 x1206 x1207 =>
      some (0, (⟨(.int .i64), (x1176 : Int)⟩ :: ⟨(.ar 16 (.int .u32)), (x1177 : (List Int))⟩ :: ⟨(.ar 16 (.int .i64)), (x1178 : (List Int))⟩ :: ⟨(.int .i64), (x1179 : Int)⟩ :: ⟨(.int .i64), (x1180 : Int)⟩ :: ⟨(.int .i64), (x1181 : Int)⟩ :: ⟨(.int .i64), (x1182 : Int)⟩ :: ⟨.bool, (x1183 : Bool)⟩ :: ⟨(.int .i64), (x1184 : Int)⟩ :: ⟨(.ar 16 (.int .u32)), (x1185 : (List Int))⟩ :: ⟨(.ar 16 (.int .i64)), (x1186 : (List Int))⟩ :: ⟨(.int .i64), (x1187 : Int)⟩ :: ⟨(.int .i64), (x1188 : Int)⟩ :: ⟨(.int .i64), (x1189 : Int)⟩ :: ⟨(.int .i64), (x1190 : Int)⟩ :: ⟨.bool, (x1191 : Bool)⟩ :: ⟨(.int .i64), (x1192 : Int)⟩ :: ⟨(.sl (.pair (.int .i64) (.pair .bool (.pair (.int .u32) .unit)))), (x1193 : (List (Int × (Bool × (Int × Unit)))))⟩ :: ⟨(.sl (.int .u32)), (x1194 : (List Int))⟩ :: ⟨(.sl (.int .u32)), (x1195 : (List Int))⟩ :: ⟨(.sl .bool), (x1196 : (List Bool))⟩ :: ⟨(.sl .bool), (x1197 : (List Bool))⟩ :: ⟨(.sl (.pair (.int .i64) (.pair (.int .i64) (.pair (.int .i64) (.pair .bool (.pair (.int .u32) .unit)))))), (x1198 : (List (Int × (Int × (Int × (Bool × (Int × Unit)))))))⟩ :: ⟨(.sl (.pair .bool (.pair (.int .i64) (.pair (.int .i64) (.pair (.int .i64) (.pair (.int .u32) (.pair (.int .i64) (.pair (.int .i64) (.pair (.int .i64) .unit))))))))), (x1199 : (List (Bool × (Int × (Int × (Int × (Int × (Int × (Int × (Int × Unit))))))))))⟩ :: ⟨(.sl (.int .u8)), (x1200 : (List Int))⟩ :: ⟨(.sl (.pair (.int .i64) (.pair (.int .i64) (.pair (.int .u32) .unit)))), (x1201 : (List (Int × (Int × (Int × Unit)))))⟩ :: ⟨(.int .i64), (x1202 : Int)⟩ :: ⟨(.int .i64), (x1203 : Int)⟩ :: ⟨(.int .i64), (x1204 : Int)⟩ :: ⟨(.int .i64), (x1205 : Int)⟩ :: ⟨(.int .i64), (x1206 : Int)⟩ :: ⟨(.int .i64), (x1207 : Int)⟩ :: []))))
theorem k18 (N : Nat) (x1109 : Int) (x1110 : (List Int)) (x1111 : (List Int)) (x1112 : Int) (x1113 : Int) (x1114 : Int) (x1115 : Int) (x1116 : Bool) (x1117 : Int) (x1118 : (List Int)) (x1119 : (List Int)) (x1120 : Int) (x1121 : Int) (x1122 : Int) (x1123 : Int) (x1124 : Bool) (x1125 : Int) (x1126 : (List (Int × (Bool × (Int × Unit))))) (x1127 : (List Int)) (x1128 : (List Int)) (x1129 : (List Bool)) (x1130 : (List Bool)) (x1131 : (List (Int × (Int × (Int × (Bool × (Int × Unit))))))) (x1132 : (List (Bool × (Int × (Int × (Int × (Int × (Int × (Int × (Int × Unit)))))))))) (x1133 : (List Int)) (x1134 : (List (Int × (Int × (Int × Unit))))) (x1135 : Int) (x1136 : Int) (x1137 : Int) (x1138 : Int) (x1139 : Int) (x1140 : Int) (x1141 : Int) (x1142 : Int) (x1143 : Int) : den cx0 h18 (ctL (t18 N)) (ltL []) Go.Proofs.Try.f18 (codeOf Go.Proofs.Try.f18) c18.i c18.r c18.ob (⟨(.int .i64), x1109⟩ :: ⟨(.ar 16 (.int .u32)), x1110⟩ :: ⟨(.ar 16 (.int .i64)), x1111⟩ :: ⟨(.int .i64), x1112⟩ :: ⟨(.int .i64), x1113⟩ :: ⟨(.int .i64), x1114⟩ :: ⟨(.int .i64), x1115⟩ :: ⟨.bool, x1116⟩ :: ⟨(.int .i64), x1117⟩ :: ⟨(.ar 16 (.int .u32)), x1118⟩ :: ⟨(.ar 16 (.int .i64)), x1119⟩ :: ⟨(.int .i64), x1120⟩ :: ⟨(.int .i64), x1121⟩ :: ⟨(.int .i64), x1122⟩ :: ⟨(.int .i64), x1123⟩ :: ⟨.bool, x1124⟩ :: ⟨(.int .i64), x1125⟩ :: ⟨(.sl (.pair (.int .i64) (.pair .bool (.pair (.int .u32) .unit)))), x1126⟩ :: ⟨(.sl (.int .u32)), x1127⟩ :: ⟨(.sl (.int .u32)), x1128⟩ :: ⟨(.sl .bool), x1129⟩ :: ⟨(.sl .bool), x1130⟩ :: ⟨(.sl (.pair (.int .i64) (.pair (.int .i64) (.pair (.int .i64) (.pair .bool (.pair (.int .u32) .unit)))))), x1131⟩ :: ⟨(.sl (.pair .bool (.pair (.int .i64) (.pair (.int .i64) (.pair (.int .i64) (.pair (.int .u32) (.pair (.int .i64) (.pair (.int .i64) (.pair (.int .i64) .unit))))))))), x1132⟩ :: ⟨(.sl (.int .u8)), x1133⟩ :: ⟨(.sl (.pair (.int .i64) (.pair (.int .i64) (.pair (.int .u32) .unit)))), x1134⟩ :: ⟨(.int .i64), x1135⟩ :: ⟨(.int .i64), x1136⟩ :: ⟨(.int .i64), x1137⟩ :: ⟨(.int .i64), x1138⟩ :: ⟨(.int .i64), x1139⟩ :: ⟨(.int .i64), x1140⟩ :: ⟨(.int .i64), x1141⟩ :: ⟨(.int .i64), x1142⟩ :: ⟨(.int .i64), x1143⟩ :: []) = e18 N x1109 x1110 x1111 x1112 x1113 x1114 x1115 x1116 x1117 x1118 x1119 x1120 x1121 x1122 x1123 x1124 x1125 x1126 x1127 x1128 x1129 x1130 x1131 x1132 x1133 x1134 x1135 x1136 x1137 x1138 x1139 x1140 x1141 x1142 x1143 := by kernel_rfl
theorem c18_ok (N : Nat) (x1109 : Int) (x1110 : (List Int)) (x1111 : (List Int)) (x1112 : Int) (x1113 : Int) (x1114 : Int) (x1115 : Int) (x1116 : Bool) (x1117 : Int) (x1118 : (List Int)) (x1119 : (List Int)) (x1120 : Int) (x1121 : Int) (x1122 : Int) (x1123 : Int) (x1124 : Bool) (x1125 : Int) (x1126 : (List (Int × (Bool × (Int × Unit))))) (x1127 : (List Int)) (x1128 : (List Int)) (x1129 : (List Bool)) (x1130 : (List Bool)) (x1131 : (List (Int × (Int × (Int × (Bool × (Int × Unit))))))) (x1132 : (List (Bool × (Int × (Int × (Int × (Int × (Int × (Int × (Int × Unit)))))))))) (x1133 : (List Int)) (x1134 : (List (Int × (Int × (Int × Unit))))) (x1135 : Int) (x1136 : Int) (x1137 : Int) (x1138 : Int) (x1139 : Int) (x1140 : Int) (x1141 : Int) (x1142 : Int) (x1143 : Int) (n0 : Nat) (q : List DV) (h : e18 N x1109 x1110 x1111 x1112 x1113 x1114 x1115 x1116 x1117 x1118 x1119 x1120 x1121 x1122 x1123 x1124 x1125 x1126 x1127 x1128 x1129 x1130 x1131 x1132 x1133 x1134 x1135 x1136 x1137 x1138 x1139 x1140 x1141 x1142 x1143 = some (n0, q)) : CallOK Go.Proofs.Try.prog c18 (⟨(.int .i64), x1109⟩ :: ⟨(.ar 16 (.int .u32)), x1110⟩ :: ⟨(.ar 16 (.int .i64)), x1111⟩ :: ⟨(.int .i64), x1112⟩ :: ⟨(.int .i64), x1113⟩ :: ⟨(.int .i64), x1114⟩ :: ⟨(.int .i64), x1115⟩ :: ⟨.bool, x1116⟩ :: ⟨(.int .i64), x1117⟩ :: ⟨(.ar 16 (.int .u32)), x1118⟩ :: ⟨(.ar 16 (.int .i64)), x1119⟩ :: ⟨(.int .i64), x1120⟩ :: ⟨(.int .i64), x1121⟩ :: ⟨(.int .i64), x1122⟩ :: ⟨(.int .i64), x1123⟩ :: ⟨.bool, x1124⟩ :: ⟨(.int .i64), x1125⟩ :: ⟨(.sl (.pair (.int .i64) (.pair .bool (.pair (.int .u32) .unit)))), x1126⟩ :: ⟨(.sl (.int .u32)), x1127⟩ :: ⟨(.sl (.int .u32)), x1128⟩ :: ⟨(.sl .bool), x1129⟩ :: ⟨(.sl .bool), x1130⟩ :: ⟨(.sl (.pair (.int .i64) (.pair (.int .i64) (.pair (.int .i64) (.pair .bool (.pair (.int .u32) .unit)))))), x1131⟩ :: ⟨(.sl (.pair .bool (.pair (.int .i64) (.pair (.int .i64) (.pair (.int .i64) (.pair (.int .u32) (.pair (.int .i64) (.pair (.int .i64) (.pair (.int .i64) .unit))))))))), x1132⟩ :: ⟨(.sl (.int .u8)), x1133⟩ :: ⟨(.sl (.pair (.int .i64) (.pair (.int .i64) (.pair (.int .u32) .unit)))), x1134⟩ :: ⟨(.int .i64), x1135⟩ :: ⟨(.int .i64), x1136⟩ :: ⟨(.int .i64), x1137⟩ :: ⟨(.int .i64), x1138⟩ :: ⟨(.int .i64), x1139⟩ :: ⟨(.int .i64), x1140⟩ :: ⟨(.int .i64), x1141⟩ :: ⟨(.int .i64), x1142⟩ :: ⟨(.int .i64), x1143⟩ :: []) q :=
  fn_ok (l := t18 N) (t := []) ti_ok hmix (t18_ok N) (a18 N) fn18 (by kernel_rfl) (by kernel_rfl) trivial ((k18 N x1109 x1110 x1111 x1112 x1113 x1114 x1115 x1116 x1117 x1118 x1119 x1120 x1121 x1122 x1123 x1124 x1125 x1126 x1127 x1128 x1129 x1130 x1131 x1132 x1133 x1134 x1135 x1136 x1137 x1138 x1139 x1140 x1141 x1142 x1143).trans h)
noncomputable def x18 (N : Nat) : List DV → (List DV → Option Rs) → Option Rs := mkX ((.int .i64) :: (.ar 16 (.int .u32)) :: (.ar 16 (.int .i64)) :: (.int .i64) :: (.int .i64) :: (.int .i64) :: (.int .i64) :: .bool :: (.int .i64) :: (.ar 16 (.int .u32)) :: (.ar 16 (.int .i64)) :: (.int .i64) :: (.int .i64) :: (.int .i64) :: (.int .i64) :: .bool :: (.int .i64) :: (.sl (.pair (.int .i64) (.pair .bool (.pair (.int .u32) .unit)))) :: (.sl (.int .u32)) :: (.sl (.int .u32)) :: (.sl .bool) :: (.sl .bool) :: (.sl (.pair (.int .i64) (.pair (.int .i64) (.pair (.int .i64) (.pair .bool (.pair (.int .u32) .unit)))))) :: (.sl (.pair .bool (.pair (.int .i64) (.pair (.int .i64) (.pair (.int .i64) (.pair (.int .u32) (.pair (.int .i64) (.pair (.int .i64) (.pair (.int .i64) .unit))))))))) :: (.sl (.int .u8)) :: (.sl (.pair (.int .i64) (.pair (.int .i64) (.pair (.int .u32) .unit)))) :: (.int .i64) :: (.int .i64) :: (.int .i64) :: (.int .i64) :: (.int .i64) :: (.int .i64) :: (.int .i64) :: (.int .i64) :: (.int .i64) :: []) ((.int .i64) :: (.ar 16 (.int .u32)) :: (.ar 16 (.int .i64)) :: (.int .i64) :: (.int .i64) :: (.int .i64) :: (.int .i64) :: .bool :: (.int .i64) :: (.ar 16 (.int .u32)) :: (.ar 16 (.int .i64)) :: (.int .i64) :: (.int .i64) :: (.int .i64) :: (.int .i64) :: .bool :: (.int .i64) :: (.sl (.pair (.int .i64) (.pair .bool (.pair (.int .u32) .unit)))) :: (.sl (.int .u32)) :: (.sl (.int .u32)) :: (.sl .bool) :: (.sl .bool) :: (.sl (.pair (.int .i64) (.pair (.int .i64) (.pair (.int .i64) (.pair .bool (.pair (.int .u32) .unit)))))) :: (.sl (.pair .bool (.pair (.int .i64) (.pair (.int .i64) (.pair (.int .i64) (.pair (.int .u32) (.pair (.int .i64) (.pair (.int .i64) (.pair (.int .i64) .unit))))))))) :: (.sl (.int .u8)) :: (.sl (.pair (.int .i64) (.pair (.int .i64) (.pair (.int .u32) .unit)))) :: (.int .i64) :: (.int .i64) :: (.int .i64) :: (.int .i64) :: (.int .i64) :: (.int .i64) :: []) (e18 N)
theorem x18_ok (N : Nat) : CEok Go.Proofs.Try.prog (c18, x18 N) := mkX_ok fun ys n q h => c18_ok N ys.1 ys.2.1 ys.2.2.1 ys.2.2.2.1 ys.2.2.2.2.1 ys.2.2.2.2.2.1 ys.2.2.2.2.2.2.1 ys.2.2.2.2.2.2.2.1 ys.2.2.2.2.2.2.2.2.1 ys.2.2.2.2.2.2.2.2.2.1 ys.2.2.2.2.2.2.2.2.2.2.1 ys.2.2.2.2.2.2.2.2.2.2.2.1 ys.2.2.2.2.2.2.2.2.2.2.2.2.1 ys.2.2.2.2.2.2.2.2.2.2.2.2.2.1 ys.2.2.2.2.2.2.2.2.2.2.2.2.2.2.1 ys.2.2.2.2.2.2.2.2.2.2.2.2.2.2.2.1 ys.2.2.2.2.2.2.2.2.2.2.2.2.2.2.2.2.1 ys.2.2.2.2.2.2.2.2.2.2.2.2.2.2.2.2.2.1 ys.2.2.2.2.2.2.2.2.2.2.2.2.2.2.2.2.2.2.1 ys.2.2.2.2.2.2.2.2.2.2.2.2.2.2.2.2.2.2.2.1 ys.2.2.2.2.2.2.2.2.2.2.2.2.2.2.2.2.2.2.2.2.1 ys.2.2.2.2.2.2.2.2.2.2.2.2.2.2.2.2.2.2.2.2.2.1 ys.2.2.2.2.2.2.2.2.2.2.2.2.2.2.2.2.2.2.2.2.2.2.1 ys.2.2.2.2.2.2.2.2.2.2.2.2.2.2.2.2.2.2.2.2.2.2.2.1 ys.2.2.2.2.2.2.2.2.2.2.2.2.2.2.2.2.2.2.2.2.2.2.2.2.1 ys.2.2.2.2.2.2.2.2.2.2.2.2.2.2.2.2.2.2.2.2.2.2.2.2.2.1 ys.2.2.2.2.2.2.2.2.2.2.2.2.2.2.2.2.2.2.2.2.2.2.2.2.2.2.1 ys.2.2.2.2.2.2.2.2.2.2.2.2.2.2.2.2.2.2.2.2.2.2.2.2.2.2.2.1 ys.2.2.2.2.2.2.2.2.2.2.2.2.2.2.2.2.2.2.2.2.2.2.2.2.2.2.2.2.1 ys.2.2.2.2.2.2.2.2.2.2.2.2.2.2.2.2.2.2.2.2.2.2.2.2.2.2.2.2.2.1 ys.2.2.2.2.2.2.2.2.2.2.2.2.2.2.2.2.2.2.2.2.2.2.2.2.2.2.2.2.2.2.1 ys.2.2.2.2.2.2.2.2.2.2.2.2.2.2.2.2.2.2.2.2.2.2.2.2.2.2.2.2.2.2.2.1 ys.2.2.2.2.2.2.2.2.2.2.2.2.2.2.2.2.2.2.2.2.2.2.2.2.2.2.2.2.2.2.2.2.1 ys.2.2.2.2.2.2.2.2.2.2.2.2.2.2.2.2.2.2.2.2.2.2.2.2.2.2.2.2.2.2.2.2.2.1 ys.2.2.2.2.2.2.2.2.2.2.2.2.2.2.2.2.2.2.2.2.2.2.2.2.2.2.2.2.2.2.2.2.2.2.1 n q h
def c81 : CS := { id := 10, fn := 81, i := { av := [.one (.d (.int .i64))], bx := [] }, r := [.one (.d (.int .i64))], one := true, ob := [] }
def h81 : Hi := { cs := [], ls := [], sp := [3, 6, 10, 13, 16, 19, 22, 25, 28] }
noncomputable def t81 (N : Nat) : List CE := []
theorem t81_ok (N : Nat) : AllP (CEok Go.Proofs.Try.prog) (t81 N) := trivial
theorem a81 (N : Nat) : AllP (fun e => lookC (t81 N) e.2.id = some e.2) h81.cs := trivial
theorem fn81 : Fn Go.Proofs.Try.prog 81 Go.Proofs.Try.f81 (codeOf Go.Proofs.Try.f81) := ⟨by kernel_rfl, by kernel_rfl, by kernel_rfl, by kernel_rfl⟩
noncomputable def on81 {R : Type} (r : Option Rs) (k : Cur (Option R) [(.int .i64)]) : Option R := onR [(.int .i64)] r k
noncomputable def e81 (N : Nat) (x1365 : Int) : Option Rs :=
  match ((decide (x1365 < (1 : Int))) : Bool) with
  | true =>
    some (0, [⟨(.int .i64), ((0 : Int) : Int)⟩])
  | false =>
    match ((decide (x1365 > (41 : Int))) : Bool) with
    | true =>
      some (0, [⟨(.int .i64), ((0 : Int) : Int)⟩])
    | false =>
      match ((decide (x1365 ≤ (16 : Int))) : Bool) with
      | true =>
        some (0, [⟨(.int .i64), ((1 : Int) : Int)⟩])
      | false =>
        match ((decide (x1365 ≤ (24 : Int))) : Bool) with
        | true =>
          some (0, [⟨(.int .i64), ((2 : Int) : Int)⟩])
        | false =>
          match ((x1365 == (25 : Int)) : Bool) with
          | true =>
            some (0, [⟨(.int .i64), ((3 : Int) : Int)⟩])
          | false =>
            match ((decide (x1365 ≤ (30 : Int))) : Bool) with
            | true =>
              some (0, [⟨(.int .i64), ((4 : Int) : Int)⟩])
            | false =>
              match ((decide (x1365 ≤ (33 : Int))) : Bool) with
              | true =>
                some (0, [⟨(.int .i64), ((5 : Int) : Int)⟩])
              | false =>
                match ((decide (x1365 ≤ (39 : Int))) : Bool) with
                | true =>
                  some (0, [⟨(.int .i64), ((6 : Int) : Int)⟩])
                | false =>
                  match ((x1365 == (40 : Int)) : Bool) with
                  | true =>
                    some (0, [⟨(.int .i64), ((7 : Int) : Int)⟩])
                  | false =>
                    some (0, [⟨(.int .i64), ((8 : Int) : Int)⟩])
theorem k81 (N : Nat) (x1365 : Int) : den cx0 h81 (ctL (t81 N)) (ltL []) Go.Proofs.Try.f81 (codeOf Go.Proofs.Try.f81) c81.i c81.r c81.ob [⟨(.int .i64), x1365⟩] = e81 N x1365 := by kernel_rfl
theorem c81_ok (N : Nat) (x1365 : Int) (n0 : Nat) (q : List DV) (h : e81 N x1365 = some (n0, q)) : CallOK Go.Proofs.Try.prog c81 [⟨(.int .i64), x1365⟩] q :=
  fn_ok (l := t81 N) (t := []) ti_ok hmix (t81_ok N) (a81 N) fn81 (by kernel_rfl) (by kernel_rfl) trivial ((k81 N x1365).trans h)
noncomputable def x81 (N : Nat) : List DV → (List DV → Option Rs) → Option Rs := mkX [(.int .i64)] [(.int .i64)] (e81 N)
theorem x81_ok (N : Nat) : CEok Go.Proofs.Try.prog (c81, x81 N) := mkX_ok fun ys n q h => c81_ok N ys.1 n q h
def c84 : CS := { id := 11, fn := 84, i := { av := [.one (.d (.int .i64))], bx := [] }, r := [.one (.d .bool)], one := true, ob := [] }
def h84 : Hi := { cs := [], ls := [], sp := [5] }
noncomputable def t84 (N : Nat) : List CE := []
theorem t84_ok (N : Nat) : AllP (CEok Go.Proofs.Try.prog) (t84 N) := trivial
theorem a84 (N : Nat) : AllP (fun e => lookC (t84 N) e.2.id = some e.2) h84.cs := trivial
theorem fn84 : Fn Go.Proofs.Try.prog 84 Go.Proofs.Try.f84 (codeOf Go.Proofs.Try.f84) := ⟨by kernel_rfl, by kernel_rfl, by kernel_rfl, by kernel_rfl⟩
noncomputable def on84 {R : Type} (r : Option Rs) (k : Cur (Option R) [.bool]) : Option R := onR [.bool] r k
noncomputable def e84 (N : Nat) (x1366 : Int) : Option Rs :=
  match ((decide (x1366 ≥ (1 : Int))) : Bool) with
  | true =>
    some (0, [⟨.bool, ((decide (x1366 ≤ (4 : Int))) : Bool)⟩])
  | false =>
    some (0, [⟨.bool, (false : Bool)⟩])
theorem k84 (N : Nat) (x1366 : Int) : den cx0 h84 (ctL (t84 N)) (ltL []) Go.Proofs.Try.f84 (codeOf Go.Proofs.Try.f84) c84.i c84.r c84.ob [⟨(.int .i64), x1366⟩] = e84 N x1366 := by kernel_rfl
theorem c84_ok (N : Nat) (x1366 : Int) (n0 : Nat) (q : List DV) (h : e84 N x1366 = some (n0, q)) : CallOK Go.Proofs.Try.prog c84 [⟨(.int .i64), x1366⟩] q :=
  fn_ok (l := t84 N) (t := []) ti_ok hmix (t84_ok N) (a84 N) fn84 (by kernel_rfl) (by kernel_rfl) trivial ((k84 N x1366).trans h)
noncomputable def x84 (N : Nat) : List DV → (List DV → Option Rs) → Option Rs := mkX [(.int .i64)] [.bool] (e84 N)
theorem x84_ok (N : Nat) : CEok Go.Proofs.Try.prog (c84, x84 N) := mkX_ok fun ys n q h => c84_ok N ys.1 n q h
def c85 : CS := { id := 12, fn := 85, i := { av := [.one (.d (.int .i64)), .one (.d .bool), .one (.d (.int .i64)), .one (.d (.int .i64))], bx := [] }, r := [.one (.d .bool)], one := true, ob := [] }
def h85 : Hi := { cs := [], ls := [], sp := [10, 16] }
noncomputable def t85 (N : Nat) : List CE := []
theorem t85_ok (N : Nat) : AllP (CEok Go.Proofs.Try.prog) (t85 N) := trivial
theorem a85 (N : Nat) : AllP (fun e => lookC (t85 N) e.2.id = some e.2) h85.cs := trivial
theorem fn85 : Fn Go.Proofs.Try.prog 85 Go.Proofs.Try.f85 (codeOf Go.Proofs.Try.f85) := ⟨by kernel_rfl, by kernel_rfl, by kernel_rfl, by kernel_rfl⟩
noncomputable def on85 {R : Type} (r : Option Rs) (k : Cur (Option R) [.bool]) : Option R := onR [.bool] r k
noncomputable def e85 (N : Nat) (x1367 : Int) (x1368 : Bool) (x1369 : Int) (x1370 : Int) : Option Rs :=
  match ((!x1368) : Bool) with
  | true =>
    some (0, [⟨.bool, ((x1367 == (0 : Int)) : Bool)⟩])
  | false =>
    match ((decide (x1367 ≥ x1369)) : Bool) with
    | true =>
      some (0, [⟨.bool, ((decide (x1367 ≤ x1370)) : Bool)⟩])
    | false =>
      some (0, [⟨.bool, (false : Bool)⟩])
theorem k85 (N : Nat) (x1367 : Int) (x1368 : Bool) (x1369 : Int) (x1370 : Int) : den cx0 h85 (ctL (t85 N)) (ltL []) Go.Proofs.Try.f85 (codeOf Go.Proofs.Try.f85) c85.i c85.r c85.ob [⟨(.int .i64), x1367⟩, ⟨.bool, x1368⟩, ⟨(.int .i64), x1369⟩, ⟨(.int .i64), x1370⟩] = e85 N x1367 x1368 x1369 x1370 := by kernel_rfl
theorem c85_ok (N : Nat) (x1367 : Int) (x1368 : Bool) (x1369 : Int) (x1370 : Int) (n0 : Nat) (q : List DV) (h : e85 N x1367 x1368 x1369 x1370 = some (n0, q)) : CallOK Go.Proofs.Try.prog c85 [⟨(.int .i64), x1367⟩, ⟨.bool, x1368⟩, ⟨(.int .i64), x1369⟩, ⟨(.int .i64), x1370⟩] q :=
  fn_ok (l := t85 N) (t := []) ti_ok hmix (t85_ok N) (a85 N) fn85 (by kernel_rfl) (by kernel_rfl) trivial ((k85 N x1367 x1368 x1369 x1370).trans h)
noncomputable def x85 (N : Nat) : List DV → (List DV → Option Rs) → Option Rs := mkX [(.int .i64), .bool, (.int .i64), (.int .i64)] [.bool] (e85 N)
theorem x85_ok (N : Nat) : CEok Go.Proofs.Try.prog (c85, x85 N) := mkX_ok fun ys n q h => c85_ok N ys.1 ys.2.1 ys.2.2.1 ys.2.2.2.1 n q h
def c82 : CS := { id := 13, fn := 82, i := { av := [.one (.d (.int .i64))], bx := [] }, r := [.one (.d .bool)], one := true, ob := [] }
def h82 : Hi := { cs := [], ls := [], sp := [5, 9, 13, 17] }
noncomputable def t82 (N : Nat) : List CE := []
theorem t82_ok (N : Nat) : AllP (CEok Go.Proofs.Try.prog) (t82 N) := trivial
theorem a82 (N : Nat) : AllP (fun e => lookC (t82 N) e.2.id = some e.2) h82.cs := trivial
theorem fn82 : Fn Go.Proofs.Try.prog 82 Go.Proofs.Try.f82 (codeOf Go.Proofs.Try.f82) := ⟨by kernel_rfl, by kernel_rfl, by kernel_rfl, by kernel_rfl⟩
noncomputable def on82 {R : Type} (r : Option Rs) (k : Cur (Option R) [.bool]) : Option R := onR [.bool] r k
noncomputable def e82 (N : Nat) (x1371 : Int) : Option Rs :=
  match ((x1371 == (1 : Int)) : Bool) with
  | true =>
    some (0, [⟨.bool, (true : Bool)⟩])
  | false =>
    match ((x1371 == (2 : Int)) : Bool) with
    | true =>
      some (0, [⟨.bool, (true : Bool)⟩])
    | false =>
      match ((x1371 == (4 : Int)) : Bool) with
      | true =>
        some (0, [⟨.bool, (true : Bool)⟩])
      | false =>
        match ((x1371 == (5 : Int)) : Bool) with
        | true =>
          some (0, [⟨.bool, (true : Bool)⟩])
        | false =>
          some (0, [⟨.bool, ((x1371 == (6 : Int)) : Bool)⟩])
theorem k82 (N : Nat) (x1371 : Int) : den cx0 h82 (ctL (t82 N)) (ltL []) Go.Proofs.Try.f82 (codeOf Go.Proofs.Try.f82) c82.i c82.r c82.ob [⟨(.int .i64), x1371⟩] = e82 N x1371 := by kernel_rfl
theorem c82_ok (N : Nat) (x1371 : Int) (n0 : Nat) (q : List DV) (h : e82 N x1371 = some (n0, q)) : CallOK Go.Proofs.Try.prog c82 [⟨(.int .i64), x1371⟩] q :=
  fn_ok (l := t82 N) (t := []) ti_ok hmix (t82_ok N) (a82 N) fn82 (by kernel_rfl) (by kernel_rfl) trivial ((k82 N x1371).trans h)
noncomputable def x82 (N : Nat) : List DV → (List DV → Option Rs) → Option Rs := mkX [(.int .i64)] [.bool] (e82 N)
theorem x82_ok (N : Nat) : CEok Go.Proofs.Try.prog (c82, x82 N) := mkX_ok fun ys n q h => c82_ok N ys.1 n q h
def c83 : CS := { id := 14, fn := 83, i := { av := [.one (.d (.int .i64))], bx := [] }, r := [.one (.d .bool)], one := true, ob := [] }
def h83 : Hi := { cs := [], ls := [], sp := [5, 9] }
noncomputable def t83 (N : Nat) : List CE := []
theorem t83_ok (N : Nat) : AllP (CEok Go.Proofs.Try.prog) (t83 N) := trivial
theorem a83 (N : Nat) : AllP (fun e => lookC (t83 N) e.2.id = some e.2) h83.cs := trivial
theorem fn83 : Fn Go.Proofs.Try.prog 83 Go.Proofs.Try.f83 (codeOf Go.Proofs.Try.f83) := ⟨by kernel_rfl, by kernel_rfl, by kernel_rfl, by kernel_rfl⟩
noncomputable def on83 {R : Type} (r : Option Rs) (k : Cur (Option R) [.bool]) : Option R := onR [.bool] r k
noncomputable def e83 (N : Nat) (x1372 : Int) : Option Rs :=
  match ((x1372 == (1 : Int)) : Bool) with
  | true =>
    some (0, [⟨.bool, (true : Bool)⟩])
  | false =>
    match ((x1372 == (5 : Int)) : Bool) with
    | true =>
      some (0, [⟨.bool, (true : Bool)⟩])
    | false =>
      some (0, [⟨.bool, ((x1372 == (6 : Int)) : Bool)⟩])
theorem k83 (N : Nat) (x1372 : Int) : den cx0 h83 (ctL (t83 N)) (ltL []) Go.Proofs.Try.f83 (codeOf Go.Proofs.Try.f83) c83.i c83.r c83.ob [⟨(.int .i64), x1372⟩] = e83 N x1372 := by kernel_rfl
theorem c83_ok (N : Nat) (x1372 : Int) (n0 : Nat) (q : List DV) (h : e83 N x1372 = some (n0, q)) : CallOK Go.Proofs.Try.prog c83 [⟨(.int .i64), x1372⟩] q :=
  fn_ok (l := t83 N) (t := []) ti_ok hmix (t83_ok N) (a83 N) fn83 (by kernel_rfl) (by kernel_rfl) trivial ((k83 N x1372).trans h)
noncomputable def x83 (N : Nat) : List DV → (List DV → Option Rs) → Option Rs := mkX [(.int .i64)] [.bool] (e83 N)
theorem x83_ok (N : Nat) : CEok Go.Proofs.Try.prog (c83, x83 N) := mkX_ok fun ys n q h => c83_ok N ys.1 n q h
def c86 : CS := { id := 15, fn := 86, i := { av := [.one (.d (.int .i64))], bx := [] }, r := [.one (.d .bool)], one := true, ob := [] }
def h86 : Hi := { cs := [], ls := [], sp := [5] }
noncomputable def t86 (N : Nat) : List CE := []
theorem t86_ok (N : Nat) : AllP (CEok Go.Proofs.Try.prog) (t86 N) := trivial
theorem a86 (N : Nat) : AllP (fun e => lookC (t86 N) e.2.id = some e.2) h86.cs := trivial
theorem fn86 : Fn Go.Proofs.Try.prog 86 Go.Proofs.Try.f86 (codeOf Go.Proofs.Try.f86) := ⟨by kernel_rfl, by kernel_rfl, by kernel_rfl, by kernel_rfl⟩
noncomputable def on86 {R : Type} (r : Option Rs) (k : Cur (Option R) [.bool]) : Option R := onR [.bool] r k
noncomputable def e86 (N : Nat) (x1373 : Int) : Option Rs :=
  match ((decide (x1373 ≥ (2 : Int))) : Bool) with
  | true =>
    some (0, [⟨.bool, ((decide (x1373 ≤ (7 : Int))) : Bool)⟩])
  | false =>
    some (0, [⟨.bool, (false : Bool)⟩])
theorem k86 (N : Nat) (x1373 : Int) : den cx0 h86 (ctL (t86 N)) (ltL []) Go.Proofs.Try.f86 (codeOf Go.Proofs.Try.f86) c86.i c86.r c86.ob [⟨(.int .i64), x1373⟩] = e86 N x1373 := by kernel_rfl
theorem c86_ok (N : Nat) (x1373 : Int) (n0 : Nat) (q : List DV) (h : e86 N x1373 = some (n0, q)) : CallOK Go.Proofs.Try.prog c86 [⟨(.int .i64), x1373⟩] q :=
  fn_ok (l := t86 N) (t := []) ti_ok hmix (t86_ok N) (a86 N) fn86 (by kernel_rfl) (by kernel_rfl) trivial ((k86 N x1373).trans h)
noncomputable def x86 (N : Nat) : List DV → (List DV → Option Rs) → Option Rs := mkX [(.int .i64)] [.bool] (e86 N)
theorem x86_ok (N : Nat) : CEok Go.Proofs.Try.prog (c86, x86 N) := mkX_ok fun ys n q h => c86_ok N ys.1 n q h
def c80 : CS := { id := 16, fn := 80, i := { av := [.agg [(.d (.int .i64)), (.d (.int .i64)), (.d (.int .i64)), (.d (.int .i64)), (.d (.int .i64))]], bx := [] }, r := [.one (.d .bool)], one := true, ob := [] }
def h80 : Hi := { cs := [((1, 2), c81), ((5, 6), c84), ((5, 7), c85), ((5, 13), c82), ((5, 14), c85), ((5, 20), c83), ((5, 21), c85), ((5, 27), c86), ((5, 30), c85)], ls := [], sp := [12, 17, 21, 24, 31, 38, 45] }
noncomputable def t80 (N : Nat) : List CE := [(c81, x81 N), (c84, x84 N), (c85, x85 N), (c82, x82 N), (c83, x83 N), (c86, x86 N)]
theorem t80_ok (N : Nat) : AllP (CEok Go.Proofs.Try.prog) (t80 N) := ⟨x81_ok N, x84_ok N, x85_ok N, x82_ok N, x83_ok N, x86_ok N, trivial⟩
theorem a80 (N : Nat) : AllP (fun e => lookC (t80 N) e.2.id = some e.2) h80.cs := ⟨rfl, rfl, rfl, rfl, rfl, rfl, rfl, rfl, rfl, trivial⟩
theorem fn80 : Fn Go.Proofs.Try.prog 80 Go.Proofs.Try.f80 (codeOf Go.Proofs.Try.f80) := ⟨by kernel_rfl, by kernel_rfl, by kernel_rfl, by kernel_rfl⟩
noncomputable def on80 {R : Type} (r : Option Rs) (k : Cur (Option R) [.bool]) : Option R := onR [.bool] r k
noncomputable def e80 (N : Nat) (x1327 : Int) (x1328 : Int) (x1329 : Int) (x1330 : Int) (x1331 : Int) : Option Rs :=
  on81 (e81 N (x1327 : Int)) (fun x1332 =>
    match ((x1327 == (22 : Int)) : Bool) with
    | true =>
      match ((decide (x1332 > (0 : Int))) : Bool) with
      | true =>
        on84 (e84 N (x1332 : Int)) (fun x1333 =>
          on85 (e85 N (x1328 : Int) (x1333 : Bool) ((0 : Int) : Int) ((15 : Int) : Int)) (fun x1334 =>
            match (x1334 : Bool) with
            | true =>
              on82 (e82 N (x1332 : Int)) (fun x1335 =>
                on85 (e85 N (x1329 : Int) (x1335 : Bool) ((0 : Int) : Int) ((15 : Int) : Int)) (fun x1336 =>
                  match (x1336 : Bool) with
                  | true =>
                    on83 (e83 N (x1332 : Int)) (fun x1337 =>
                      on85 (e85 N (x1330 : Int) (x1337 : Bool) ((0 : Int) : Int) ((15 : Int) : Int)) (fun x1338 =>
                        match (x1338 : Bool) with
                        | true =>
                          on86 (e86 N (x1332 : Int)) (fun x1339 =>
                            on85 (e85 N (x1331 : Int) (x1339 : Bool) ((0 : Int) : Int) ((31 : Int) : Int)) (fun x1340 =>
                              some (0, [⟨.bool, (x1340 : Bool)⟩])))
                        | false =>
                          some (0, [⟨.bool, (false : Bool)⟩])))
                  | false =>
                    some (0, [⟨.bool, (false : Bool)⟩])))
            | false =>
              some (0, [⟨.bool, (false : Bool)⟩])))
      | false =>
        some (0, [⟨.bool, (false : Bool)⟩])
    | false =>
      match ((x1327 == (23 : Int)) : Bool) with
      | true =>
        match ((decide (x1332 > (0 : Int))) : Bool) with
        | true =>
          on84 (e84 N (x1332 : Int)) (fun x1341 =>
            on85 (e85 N (x1328 : Int) (x1341 : Bool) ((0 : Int) : Int) ((15 : Int) : Int)) (fun x1342 =>
              match (x1342 : Bool) with
              | true =>
                on82 (e82 N (x1332 : Int)) (fun x1343 =>
                  on85 (e85 N (x1329 : Int) (x1343 : Bool) ((0 : Int) : Int) ((15 : Int) : Int)) (fun x1344 =>
                    match (x1344 : Bool) with
                    | true =>
                      on83 (e83 N (x1332 : Int)) (fun x1345 =>
                        on85 (e85 N (x1330 : Int) (x1345 : Bool) ((0 : Int) : Int) ((15 : Int) : Int)) (fun x1346 =>
                          match (x1346 : Bool) with
                          | true =>
                            on86 (e86 N (x1332 : Int)) (fun x1347 =>
                              on85 (e85 N (x1331 : Int) (x1347 : Bool) ((0 : Int) : Int) ((31 : Int) : Int)) (fun x1348 =>
                                some (0, [⟨.bool, (x1348 : Bool)⟩])))
                          | false =>
                            some (0, [⟨.bool, (false : Bool)⟩])))
                    | false =>
                      some (0, [⟨.bool, (false : Bool)⟩])))
              | false =>
                some (0, [⟨.bool, (false : Bool)⟩])))
        | false =>
          some (0, [⟨.bool, (false : Bool)⟩])
      | false =>
        match ((x1327 == (24 : Int)) : Bool) with
        | true =>
          match ((decide (x1332 > (0 : Int))) : Bool) with
          | true =>
            on84 (e84 N (x1332 : Int)) (fun x1349 =>
              on85 (e85 N (x1328 : Int) (x1349 : Bool) ((0 : Int) : Int) ((15 : Int) : Int)) (fun x1350 =>
                match (x1350 : Bool) with
                | true =>
                  on82 (e82 N (x1332 : Int)) (fun x1351 =>
                    on85 (e85 N (x1329 : Int) (x1351 : Bool) ((0 : Int) : Int) ((15 : Int) : Int)) (fun x1352 =>
                      match (x1352 : Bool) with
                      | true =>
                        on83 (e83 N (x1332 : Int)) (fun x1353 =>
                          on85 (e85 N (x1330 : Int) (x1353 : Bool) ((0 : Int) : Int) ((15 : Int) : Int)) (fun x1354 =>
                            match (x1354 : Bool) with
                            | true =>
                              on86 (e86 N (x1332 : Int)) (fun x1355 =>
                                on85 (e85 N (x1331 : Int) (x1355 : Bool) ((0 : Int) : Int) ((31 : Int) : Int)) (fun x1356 =>
                                  some (0, [⟨.bool, (x1356 : Bool)⟩])))
                            | false =>
                              some (0, [⟨.bool, (false : Bool)⟩])))
                      | false =>
                        some (0, [⟨.bool, (false : Bool)⟩])))
                | false =>
                  some (0, [⟨.bool, (false : Bool)⟩])))
          | false =>
            some (0, [⟨.bool, (false : Bool)⟩])
        | false =>
          match ((decide (x1332 > (0 : Int))) : Bool) with
          | true =>
            on84 (e84 N (x1332 : Int)) (fun x1357 =>
              on85 (e85 N (x1328 : Int) (x1357 : Bool) ((0 : Int) : Int) ((15 : Int) : Int)) (fun x1358 =>
                match (x1358 : Bool) with
                | true =>
                  on82 (e82 N (x1332 : Int)) (fun x1359 =>
                    on85 (e85 N (x1329 : Int) (x1359 : Bool) ((0 : Int) : Int) ((15 : Int) : Int)) (fun x1360 =>
                      match (x1360 : Bool) with
                      | true =>
                        on83 (e83 N (x1332 : Int)) (fun x1361 =>
                          on85 (e85 N (x1330 : Int) (x1361 : Bool) ((0 : Int) : Int) ((15 : Int) : Int)) (fun x1362 =>
                            match (x1362 : Bool) with
                            | true =>
                              on86 (e86 N (x1332 : Int)) (fun x1363 =>
                                on85 (e85 N (x1331 : Int) (x1363 : Bool) ((-8192 : Int) : Int) ((8191 : Int) : Int)) (fun x1364 =>
                                  some (0, [⟨.bool, (x1364 : Bool)⟩])))
                            | false =>
                              some (0, [⟨.bool, (false : Bool)⟩])))
                      | false =>
                        some (0, [⟨.bool, (false : Bool)⟩])))
                | false =>
                  some (0, [⟨.bool, (false : Bool)⟩])))
          | false =>
            some (0, [⟨.bool, (false : Bool)⟩]))
theorem k80 (N : Nat) (x1327 : Int) (x1328 : Int) (x1329 : Int) (x1330 : Int) (x1331 : Int) : den cx0 h80 (ctL (t80 N)) (ltL []) Go.Proofs.Try.f80 (codeOf Go.Proofs.Try.f80) c80.i c80.r c80.ob [⟨(.int .i64), x1327⟩, ⟨(.int .i64), x1328⟩, ⟨(.int .i64), x1329⟩, ⟨(.int .i64), x1330⟩, ⟨(.int .i64), x1331⟩] = e80 N x1327 x1328 x1329 x1330 x1331 := by kernel_rfl
theorem c80_ok (N : Nat) (x1327 : Int) (x1328 : Int) (x1329 : Int) (x1330 : Int) (x1331 : Int) (n0 : Nat) (q : List DV) (h : e80 N x1327 x1328 x1329 x1330 x1331 = some (n0, q)) : CallOK Go.Proofs.Try.prog c80 [⟨(.int .i64), x1327⟩, ⟨(.int .i64), x1328⟩, ⟨(.int .i64), x1329⟩, ⟨(.int .i64), x1330⟩, ⟨(.int .i64), x1331⟩] q :=
  fn_ok (l := t80 N) (t := []) ti_ok hmix (t80_ok N) (a80 N) fn80 (by kernel_rfl) (by kernel_rfl) trivial ((k80 N x1327 x1328 x1329 x1330 x1331).trans h)
noncomputable def x80 (N : Nat) : List DV → (List DV → Option Rs) → Option Rs := mkX [(.int .i64), (.int .i64), (.int .i64), (.int .i64), (.int .i64)] [.bool] (e80 N)
theorem x80_ok (N : Nat) : CEok Go.Proofs.Try.prog (c80, x80 N) := mkX_ok fun ys n q h => c80_ok N ys.1 ys.2.1 ys.2.2.1 ys.2.2.2.1 ys.2.2.2.2.1 n q h
def c77 : CS := { id := 17, fn := 77, i := { av := [.agg [(.d (.int .i64)), (.d (.int .i64)), (.d (.int .i64)), (.d (.int .i64)), (.d (.int .i64))]], bx := [] }, r := [.one (.o (.int .i64))], one := true, ob := [] }
def h77 : Hi := { cs := [((1, 1), c80), ((4, 2), c81), ((5, 1), c82), ((7, 1), c83)], ls := [], sp := [7, 13, 17, 25, 29] }
noncomputable def t77 (N : Nat) : List CE := [(c80, x80 N), (c81, x81 N), (c82, x82 N), (c83, x83 N)]
theorem t77_ok (N : Nat) : AllP (CEok Go.Proofs.Try.prog) (t77 N) := ⟨x80_ok N, x81_ok N, x82_ok N, x83_ok N, trivial⟩
theorem a77 (N : Nat) : AllP (fun e => lookC (t77 N) e.2.id = some e.2) h77.cs := ⟨rfl, rfl, rfl, rfl, trivial⟩
theorem fn77 : Fn Go.Proofs.Try.prog 77 Go.Proofs.Try.f77 (codeOf Go.Proofs.Try.f77) := ⟨by kernel_rfl, by kernel_rfl, by kernel_rfl, by kernel_rfl⟩
noncomputable def on77 {R : Type} (r : Option Rs) (k : Cur (Option R) [(.sl (.int .i64))]) : Option R := onR [(.sl (.int .i64))] r k
noncomputable def e77 (N : Nat) (x1316 : Int) (x1317 : Int) (x1318 : Int) (x1319 : Int) (x1320 : Int) : Option Rs :=
  on80 (e80 N (x1316 : Int) (x1317 : Int) (x1318 : Int) (x1319 : Int) (x1320 : Int)) (fun x1321 =>
    match ((!x1321) : Bool) with
    | true =>
      some (0, [⟨(.sl (.int .i64)), (([] : List Int) : (List Int))⟩])
    | false =>
      on81 (e81 N (x1316 : Int)) (fun x1322 =>
        on82 (e82 N (x1322 : Int)) (fun x1323 =>
          match (x1323 : Bool) with
          | true =>
            match ((x1318 != (0 : Int)) : Bool) with
            | true =>
              match ((decide ((List.length (([] : List Int) : List Int) + List.length [x1318]) * 8 ≤ reach)) : Bool) with
              | true =>
                on83 (e83 N (x1322 : Int)) (fun x1324 =>
                  match (x1324 : Bool) with
                  | true =>
                    match ((x1319 != (0 : Int)) : Bool) with
                    | true =>
                      match ((decide ((List.length ((([] : List Int) ++ [x1318]) : List Int) + List.length [x1319]) * 8 ≤ reach)) : Bool) with
                      | true =>
                        some (0, [⟨(.sl (.int .i64)), (((([] : List Int) ++ [x1318]) ++ [x1319]) : (List Int))⟩])
                      | false =>
                        none
                    | false =>
                      some (0, [⟨(.sl (.int .i64)), ((([] : List Int) ++ [x1318]) : (List Int))⟩])
                  | false =>
                    some (0, [⟨(.sl (.int .i64)), ((([] : List Int) ++ [x1318]) : (List Int))⟩]))
              | false =>
                none
            | false =>
              on83 (e83 N (x1322 : Int)) (fun x1325 =>
                match (x1325 : Bool) with
                | true =>
                  match ((x1319 != (0 : Int)) : Bool) with
                  | true =>
                    match ((decide ((List.length (([] : List Int) : List Int) + List.length [x1319]) * 8 ≤ reach)) : Bool) with
                    | true =>
                      some (0, [⟨(.sl (.int .i64)), ((([] : List Int) ++ [x1319]) : (List Int))⟩])
                    | false =>
                      none
                  | false =>
                    some (0, [⟨(.sl (.int .i64)), (([] : List Int) : (List Int))⟩])
                | false =>
                  some (0, [⟨(.sl (.int .i64)), (([] : List Int) : (List Int))⟩]))
          | false =>
            on83 (e83 N (x1322 : Int)) (fun x1326 =>
              match (x1326 : Bool) with
              | true =>
                match ((x1319 != (0 : Int)) : Bool) with
                | true =>
                  match ((decide ((List.length (([] : List Int) : List Int) + List.length [x1319]) * 8 ≤ reach)) : Bool) with
                  | true =>
                    some (0, [⟨(.sl (.int .i64)), ((([] : List Int) ++ [x1319]) : (List Int))⟩])
                  | false =>
                    none
                | false =>
                  some (0, [⟨(.sl (.int .i64)), (([] : List Int) : (List Int))⟩])
              | false =>
                some (0, [⟨(.sl (.int .i64)), (([] : List Int) : (List Int))⟩])))))
theorem k77 (N : Nat) (x1316 : Int) (x1317 : Int) (x1318 : Int) (x1319 : Int) (x1320 : Int) : den cx0 h77 (ctL (t77 N)) (ltL []) Go.Proofs.Try.f77 (codeOf Go.Proofs.Try.f77) c77.i c77.r c77.ob [⟨(.int .i64), x1316⟩, ⟨(.int .i64), x1317⟩, ⟨(.int .i64), x1318⟩, ⟨(.int .i64), x1319⟩, ⟨(.int .i64), x1320⟩] = e77 N x1316 x1317 x1318 x1319 x1320 := by kernel_rfl
theorem c77_ok (N : Nat) (x1316 : Int) (x1317 : Int) (x1318 : Int) (x1319 : Int) (x1320 : Int) (n0 : Nat) (q : List DV) (h : e77 N x1316 x1317 x1318 x1319 x1320 = some (n0, q)) : CallOK Go.Proofs.Try.prog c77 [⟨(.int .i64), x1316⟩, ⟨(.int .i64), x1317⟩, ⟨(.int .i64), x1318⟩, ⟨(.int .i64), x1319⟩, ⟨(.int .i64), x1320⟩] q :=
  fn_ok (l := t77 N) (t := []) ti_ok hmix (t77_ok N) (a77 N) fn77 (by kernel_rfl) (by kernel_rfl) trivial ((k77 N x1316 x1317 x1318 x1319 x1320).trans h)
noncomputable def x77 (N : Nat) : List DV → (List DV → Option Rs) → Option Rs := mkX [(.int .i64), (.int .i64), (.int .i64), (.int .i64), (.int .i64)] [(.sl (.int .i64))] (e77 N)
theorem x77_ok (N : Nat) : CEok Go.Proofs.Try.prog (c77, x77 N) := mkX_ok fun ys n q h => c77_ok N ys.1 ys.2.1 ys.2.2.1 ys.2.2.2.1 ys.2.2.2.2.1 n q h
def c78 : CS := { id := 18, fn := 78, i := { av := [.agg [(.d (.int .i64)), (.d (.int .i64)), (.d (.int .i64)), (.d (.int .i64)), (.d (.int .i64))]], bx := [] }, r := [.one (.d (.int .i64))], one := true, ob := [] }
def h78 : Hi := { cs := [((1, 1), c80), ((1, 6), c81), ((1, 7), c84)], ls := [], sp := [6, 12] }
noncomputable def t78 (N : Nat) : List CE := [(c80, x80 N), (c81, x81 N), (c84, x84 N)]
theorem t78_ok (N : Nat) : AllP (CEok Go.Proofs.Try.prog) (t78 N) := ⟨x80_ok N, x81_ok N, x84_ok N, trivial⟩
theorem a78 (N : Nat) : AllP (fun e => lookC (t78 N) e.2.id = some e.2) h78.cs := ⟨rfl, rfl, rfl, trivial⟩
theorem fn78 : Fn Go.Proofs.Try.prog 78 Go.Proofs.Try.f78 (codeOf Go.Proofs.Try.f78) := ⟨by kernel_rfl, by kernel_rfl, by kernel_rfl, by kernel_rfl⟩
noncomputable def on78 {R : Type} (r : Option Rs) (k : Cur (Option R) [(.int .i64)]) : Option R := onR [(.int .i64)] r k
noncomputable def e78 (N : Nat) (x1374 : Int) (x1375 : Int) (x1376 : Int) (x1377 : Int) (x1378 : Int) : Option Rs :=
  on80 (e80 N (x1374 : Int) (x1375 : Int) (x1376 : Int) (x1377 : Int) (x1378 : Int)) (fun x1379 =>
    match ((!x1379) : Bool) with
    | true =>
      some (0, [⟨(.int .i64), ((0 : Int) : Int)⟩])
    | false =>
      on81 (e81 N (x1374 : Int)) (fun x1380 =>
        on84 (e84 N (x1380 : Int)) (fun x1381 =>
          match ((!x1381) : Bool) with
          | true =>
            some (0, [⟨(.int .i64), ((0 : Int) : Int)⟩])
          | false =>
            some (0, [⟨(.int .i64), (x1375 : Int)⟩]))))
theorem k78 (N : Nat) (x1374 : Int) (x1375 : Int) (x1376 : Int) (x1377 : Int) (x1378 : Int) : den cx0 h78 (ctL (t78 N)) (ltL []) Go.Proofs.Try.f78 (codeOf Go.Proofs.Try.f78) c78.i c78.r c78.ob [⟨(.int .i64), x1374⟩, ⟨(.int .i64), x1375⟩, ⟨(.int .i64), x1376⟩, ⟨(.int .i64), x1377⟩, ⟨(.int .i64), x1378⟩] = e78 N x1374 x1375 x1376 x1377 x1378 := by kernel_rfl
theorem c78_ok (N : Nat) (x1374 : Int) (x1375 : Int) (x1376 : Int) (x1377 : Int) (x1378 : Int) (n0 : Nat) (q : List DV) (h : e78 N x1374 x1375 x1376 x1377 x1378 = some (n0, q)) : CallOK Go.Proofs.Try.prog c78 [⟨(.int .i64), x1374⟩, ⟨(.int .i64), x1375⟩, ⟨(.int .i64), x1376⟩, ⟨(.int .i64), x1377⟩, ⟨(.int .i64), x1378⟩] q :=
  fn_ok (l := t78 N) (t := []) ti_ok hmix (t78_ok N) (a78 N) fn78 (by kernel_rfl) (by kernel_rfl) trivial ((k78 N x1374 x1375 x1376 x1377 x1378).trans h)
noncomputable def x78 (N : Nat) : List DV → (List DV → Option Rs) → Option Rs := mkX [(.int .i64), (.int .i64), (.int .i64), (.int .i64), (.int .i64)] [(.int .i64)] (e78 N)
theorem x78_ok (N : Nat) : CEok Go.Proofs.Try.prog (c78, x78 N) := mkX_ok fun ys n q h => c78_ok N ys.1 ys.2.1 ys.2.2.1 ys.2.2.2.1 ys.2.2.2.2.1 n q h
def c63 : CS := { id := 19, fn := 63, i := { av := [.agg [(.d (.int .i64)), (.d (.int .i64)), (.d (.int .i64)), (.d (.int .i64)), (.d (.int .i64)), (.d (.int .i64)), (.d (.int .i64)), (.d (.int .i64)), (.d (.int .i64))]], bx := [] }, r := [.one (.o (.int .i64))], one := true, ob := [] }
def h63 : Hi := { cs := [((4, 2), c77), ((4, 5), c78), ((15, 2), c77)], ls := [], sp := [5, 16, 23, 29, 36] }
noncomputable def t63 (N : Nat) : List CE := [(c77, x77 N), (c78, x78 N)]
theorem t63_ok (N : Nat) : AllP (CEok Go.Proofs.Try.prog) (t63 N) := ⟨x77_ok N, x78_ok N, trivial⟩
theorem a63 (N : Nat) : AllP (fun e => lookC (t63 N) e.2.id = some e.2) h63.cs := ⟨rfl, rfl, rfl, trivial⟩
theorem fn63 : Fn Go.Proofs.Try.prog 63 Go.Proofs.Try.f63 (codeOf Go.Proofs.Try.f63) := ⟨by kernel_rfl, by kernel_rfl, by kernel_rfl, by kernel_rfl⟩
noncomputable def on63 {R : Type} (r : Option Rs) (k : Cur (Option R) [(.sl (.int .i64))]) : Option R := onR [(.sl (.int .i64))] r k
noncomputable def e63 (N : Nat) (x1302 : Int) (x1303 : Int) (x1304 : Int) (x1305 : Int) (x1306 : Int) (x1307 : Int) (x1308 : Int) (x1309 : Int) (x1310 : Int) : Option Rs :=
  match ((x1302 == (1 : Int)) : Bool) with
  | true =>
    on77 (e77 N (x1303 : Int) (x1304 : Int) (x1305 : Int) (x1306 : Int) (x1307 : Int)) (fun x1311 =>
      on78 (e78 N (x1303 : Int) (x1304 : Int) (x1305 : Int) (x1306 : Int) (x1307 : Int)) (fun x1312 =>
        match ((decide ((List.length (x1311 : List Int) + List.length [x1312]) * 8 ≤ reach)) : Bool) with
        | true =>
          some (0, [⟨(.sl (.int .i64)), ((x1311 ++ [x1312]) : (List Int))⟩])
        | false =>
          none))
  | false =>
    match ((x1302 == (2 : Int)) : Bool) with
    | true =>
      on77 (e77 N (x1303 : Int) (x1304 : Int) (x1305 : Int) (x1306 : Int) (x1307 : Int)) (fun x1313 =>
        on78 (e78 N (x1303 : Int) (x1304 : Int) (x1305 : Int) (x1306 : Int) (x1307 : Int)) (fun x1314 =>
          match ((decide ((List.length (x1313 : List Int) + List.length [x1314]) * 8 ≤ reach)) : Bool) with
          | true =>
            some (0, [⟨(.sl (.int .i64)), ((x1313 ++ [x1314]) : (List Int))⟩])
          | false =>
            none))
    | false =>
      match ((x1302 == (3 : Int)) : Bool) with
      | true =>
        some (0, [⟨(.sl (.int .i64)), ([x1305] : (List Int))⟩])
      | false =>
        match ((x1302 == (4 : Int)) : Bool) with
        | true =>
          some (0, [⟨(.sl (.int .i64)), ([x1305] : (List Int))⟩])
        | false =>
          match ((x1302 == (7 : Int)) : Bool) with
          | true =>
            some (0, [⟨(.sl (.int .i64)), ([x1304] : (List Int))⟩])
          | false =>
            match ((x1302 == (5 : Int)) : Bool) with
            | true =>
              some (0, [⟨(.sl (.int .i64)), ([x1308] : (List Int))⟩])
            | false =>
              match ((x1302 == (6 : Int)) : Bool) with
              | true =>
                some (0, [⟨(.sl (.int .i64)), ([x1308] : (List Int))⟩])
              | false =>
                match ((x1302 == (8 : Int)) : Bool) with
                | true =>
                  some (0, [⟨(.sl (.int .i64)), ([x1308] : (List Int))⟩])
                | false =>
                  match ((x1302 == (9 : Int)) : Bool) with
                  | true =>
                    on77 (e77 N (x1303 : Int) (x1304 : Int) (x1305 : Int) (x1306 : Int) (x1307 : Int)) (fun x1315 =>
                      some (0, [⟨(.sl (.int .i64)), (x1315 : (List Int))⟩]))
                  | false =>
                    some (0, [⟨(.sl (.int .i64)), (([] : List Int) : (List Int))⟩])
theorem k63 (N : Nat) (x1302 : Int) (x1303 : Int) (x1304 : Int) (x1305 : Int) (x1306 : Int) (x1307 : Int) (x1308 : Int) (x1309 : Int) (x1310 : Int) : den cx0 h63 (ctL (t63 N)) (ltL []) Go.Proofs.Try.f63 (codeOf Go.Proofs.Try.f63) c63.i c63.r c63.ob [⟨(.int .i64), x1302⟩, ⟨(.int .i64), x1303⟩, ⟨(.int .i64), x1304⟩, ⟨(.int .i64), x1305⟩, ⟨(.int .i64), x1306⟩, ⟨(.int .i64), x1307⟩, ⟨(.int .i64), x1308⟩, ⟨(.int .i64), x1309⟩, ⟨(.int .i64), x1310⟩] = e63 N x1302 x1303 x1304 x1305 x1306 x1307 x1308 x1309 x1310 := by kernel_rfl
theorem c63_ok (N : Nat) (x1302 : Int) (x1303 : Int) (x1304 : Int) (x1305 : Int) (x1306 : Int) (x1307 : Int) (x1308 : Int) (x1309 : Int) (x1310 : Int) (n0 : Nat) (q : List DV) (h : e63 N x1302 x1303 x1304 x1305 x1306 x1307 x1308 x1309 x1310 = some (n0, q)) : CallOK Go.Proofs.Try.prog c63 [⟨(.int .i64), x1302⟩, ⟨(.int .i64), x1303⟩, ⟨(.int .i64), x1304⟩, ⟨(.int .i64), x1305⟩, ⟨(.int .i64), x1306⟩, ⟨(.int .i64), x1307⟩, ⟨(.int .i64), x1308⟩, ⟨(.int .i64), x1309⟩, ⟨(.int .i64), x1310⟩] q :=
  fn_ok (l := t63 N) (t := []) ti_ok hmix (t63_ok N) (a63 N) fn63 (by kernel_rfl) (by kernel_rfl) trivial ((k63 N x1302 x1303 x1304 x1305 x1306 x1307 x1308 x1309 x1310).trans h)
noncomputable def x63 (N : Nat) : List DV → (List DV → Option Rs) → Option Rs := mkX [(.int .i64), (.int .i64), (.int .i64), (.int .i64), (.int .i64), (.int .i64), (.int .i64), (.int .i64), (.int .i64)] [(.sl (.int .i64))] (e63 N)
theorem x63_ok (N : Nat) : CEok Go.Proofs.Try.prog (c63, x63 N) := mkX_ok fun ys n q h => c63_ok N ys.1 ys.2.1 ys.2.2.1 ys.2.2.2.1 ys.2.2.2.2.1 ys.2.2.2.2.2.1 ys.2.2.2.2.2.2.1 ys.2.2.2.2.2.2.2.1 ys.2.2.2.2.2.2.2.2.1 n q h
def c64 : CS := { id := 20, fn := 64, i := { av := [.one (.d (.int .i64))], bx := [] }, r := [.one (.d .bool)], one := true, ob := [] }
def h64 : Hi := { cs := [], ls := [], sp := [5] }
noncomputable def t64 (N : Nat) : List CE := []
theorem t64_ok (N : Nat) : AllP (CEok Go.Proofs.Try.prog) (t64 N) := trivial
theorem a64 (N : Nat) : AllP (fun e => lookC (t64 N) e.2.id = some e.2) h64.cs := trivial
theorem fn64 : Fn Go.Proofs.Try.prog 64 Go.Proofs.Try.f64 (codeOf Go.Proofs.Try.f64) := ⟨by kernel_rfl, by kernel_rfl, by kernel_rfl, by kernel_rfl⟩
noncomputable def on64 {R : Type} (r : Option Rs) (k : Cur (Option R) [.bool]) : Option R := onR [.bool] r k
noncomputable def e64 (N : Nat) (x1396 : Int) : Option Rs :=
  match ((decide (x1396 < (1 : Int))) : Bool) with
  | true =>
    some (0, [⟨.bool, (true : Bool)⟩])
  | false =>
    some (0, [⟨.bool, ((decide (x1396 > (15 : Int))) : Bool)⟩])
theorem k64 (N : Nat) (x1396 : Int) : den cx0 h64 (ctL (t64 N)) (ltL []) Go.Proofs.Try.f64 (codeOf Go.Proofs.Try.f64) c64.i c64.r c64.ob [⟨(.int .i64), x1396⟩] = e64 N x1396 := by kernel_rfl
theorem c64_ok (N : Nat) (x1396 : Int) (n0 : Nat) (q : List DV) (h : e64 N x1396 = some (n0, q)) : CallOK Go.Proofs.Try.prog c64 [⟨(.int .i64), x1396⟩] q :=
  fn_ok (l := t64 N) (t := []) ti_ok hmix (t64_ok N) (a64 N) fn64 (by kernel_rfl) (by kernel_rfl) trivial ((k64 N x1396).trans h)
noncomputable def x64 (N : Nat) : List DV → (List DV → Option Rs) → Option Rs := mkX [(.int .i64)] [.bool] (e64 N)
theorem x64_ok (N : Nat) : CEok Go.Proofs.Try.prog (c64, x64 N) := mkX_ok fun ys n q h => c64_ok N ys.1 n q h
def c76 : CS := { id := 21, fn := 76, i := { av := [.one (.d (.sl (.int .i64))), .one (.f 64 [])], bx := [] }, r := [.one (.d (.int .i64))], one := true, ob := [] }
def s76_0 : LS := { h := { av := [.one (.d (.sl (.int .i64))), .one (.f 64 []), .no, .no, .no, .no, .no, .one (.d (.int .i64)), .one (.d (.int .i64)), .no, .no, .no, .no, .no, .no, .no, .no, .no, .no], bx := [] }, x := [(0, { av := [.no, .no, .no, .no, .one (.d (.int .i64)), .no, .no, .no, .no, .no, .no, .no, .no, .no, .no, .no, .no, .no, .no], bx := [] }), (1, { av := [.no, .no, .no, .no, .no, .no, .no, .no, .no, .no, .no, .no, .no, .no, .no, .no, .no, .no, .no], bx := [] })] }
def h76 : Hi := { cs := [((4, 5), c64)], ls := [(0, s76_0)], sp := [9, 16] }
noncomputable def t76 (N : Nat) : List CE := [(c64, x64 N)]
theorem t76_ok (N : Nat) : AllP (CEok Go.Proofs.Try.prog) (t76 N) := ⟨x64_ok N, trivial⟩
theorem a76 (N : Nat) : AllP (fun e => lookC (t76 N) e.2.id = some e.2) h76.cs := ⟨rfl, trivial⟩
theorem fn76 : Fn Go.Proofs.Try.prog 76 Go.Proofs.Try.f76 (codeOf Go.Proofs.Try.f76) := ⟨by kernel_rfl, by kernel_rfl, by kernel_rfl, by kernel_rfl⟩
noncomputable def on76_0 {R : Type} (r : Option Rs) (k0 : Cur (Option R) [(.int .i64)]) (k1 : Cur (Option R) []) : Option R :=
  match r with
  | some (n, p) => match n with
    | 0 => onG [(.int .i64)] p k0
    | 1 => onG [] p k1
    | _ => none
  | none => none
noncomputable def r76_0 (N : Nat) (again : (List Int) → Int → Int → Option Rs) (x1391 : (List Int)) (x1392 : Int) (x1393 : Int) : Option Rs :=
  match ((decide (x1393 < x1392)) : Bool) with
  | true =>
    match ((idx x1393 (List.length x1391)) : Bool) with
    | true =>
      on64 (e64 N ((List.getD x1391 (Int.toNat x1393) (0 : Int)) : Int)) (fun x1394 =>
        match (x1394 : Bool) with
        | true =>
          some (0, [⟨(.int .i64), (x1393 : Int)⟩])
        | false =>
          again (x1391 : (List Int)) (x1392 : Int) ((IntKind.i64.wrap (x1393 + (1 : Int))) : Int))
    | false =>
      none
  | false =>
    some (1, [])
noncomputable def l76_0 (N : Nat) : Nat → (List Int) → Int → Int → Option Rs
  | 0, _, _, _ => none
  | n + 1, x1391, x1392, x1393 => r76_0 N (l76_0 N n) x1391 x1392 x1393
theorem on76_0_K (r : Option Rs) (K : Rs → Option Rs) (x : Rs) (h : on76_0 r (curK [(.int .i64)] fun q => K (0, q)) (curK [] fun q => K (1, q)) = some x) : ∃ q, r = some q ∧ K q = some x := by
  unfold on76_0 at h
  split at h
  · split at h
    · exact ⟨_, rfl, onG_K h⟩
    · exact ⟨_, rfl, onG_K h⟩
    · simp at h
  · simp at h
noncomputable def R76_0 (N : Nat) : (List DV → Option Rs) → List DV → Option Rs := round cx0 h76 (ctL (t76 N)) (ltL []) Go.Proofs.Try.f76.ntmps c76.i.bx.length 0 s76_0 (bodyAt Go.Proofs.Try.f76 0)
theorem r76_0_eq (N : Nat) (A : List DV → Option Rs) (x1391 : (List Int)) (x1392 : Int) (x1393 : Int) : R76_0 N A [⟨(.sl (.int .i64)), x1391⟩, ⟨(.int .i64), x1392⟩, ⟨(.int .i64), x1393⟩] = r76_0 N (fun x1391 x1392 x1393 => A [⟨(.sl (.int .i64)), x1391⟩, ⟨(.int .i64), x1392⟩, ⟨(.int .i64), x1393⟩]) x1391 x1392 x1393 := by kernel_rfl
theorem l76_0_eq (N : Nat) : ∀ (n : Nat) (x1391 : (List Int)) (x1392 : Int) (x1393 : Int), iter (R76_0 N) n [⟨(.sl (.int .i64)), x1391⟩, ⟨(.int .i64), x1392⟩, ⟨(.int .i64), x1393⟩] = l76_0 N n x1391 x1392 x1393
  | 0, _, _, _ => rfl
  | n + 1, x1391, x1392, x1393 => (r76_0_eq N (iter (R76_0 N) n) x1391 x1392 x1393).trans (congrArg (fun A => r76_0 N A x1391 x1392 x1393) (funext fun x1391 => funext fun x1392 => funext fun x1393 => l76_0_eq N n x1391 x1392 x1393))
noncomputable def x76_0 (N : Nat) : List DV → (Rs → Option Rs) → Option Rs := mkL [(.sl (.int .i64)), (.int .i64), (.int .i64)] (l76_0 N N) fun r K => on76_0 r (curK [(.int .i64)] fun q => K (0, q)) (curK [] fun q => K (1, q))
theorem x76_0_ok (N : Nat) : LEok Go.Proofs.Try.prog h76 (bodOf Go.Proofs.Try.f76) Go.Proofs.Try.f76.ntmps c76.i.bx.length (0, x76_0 N) :=
  mkL_ok on76_0_K (ls := s76_0) (body := bodyAt Go.Proofs.Try.f76 0) (by kernel_rfl) (by kernel_rfl) fun ys q h =>
    loop_ok (l := t76 N) (t := []) ti_ok hmix (t76_ok N) (a76 N) fn76 trivial (by kernel_rfl) (by kernel_rfl) (n := N) ((l76_0_eq N N ys.1 ys.2.1 ys.2.2.1).trans h)
noncomputable def on76 {R : Type} (r : Option Rs) (k : Cur (Option R) [(.int .i64)]) : Option R := onR [(.int .i64)] r k
noncomputable def e76 (N : Nat) (x1390 : (List Int)) : Option Rs :=
  on76_0 (l76_0 N N (x1390 : (List Int)) (((List.length x1390 : Nat) : Int) : Int) ((0 : Int) : Int)) (fun x1395 =>
    some (0, [⟨(.int .i64), (x1395 : Int)⟩])) (
    some (0, [⟨(.int .i64), ((-1 : Int) : Int)⟩]))
theorem k76 (N : Nat) (x1390 : (List Int)) : den cx0 h76 (ctL (t76 N)) (ltL [(0, x76_0 N)]) Go.Proofs.Try.f76 (codeOf Go.Proofs.Try.f76) c76.i c76.r c76.ob [⟨(.sl (.int .i64)), x1390⟩] = e76 N x1390 := by kernel_rfl
theorem c76_ok (N : Nat) (x1390 : (List Int)) (n0 : Nat) (q : List DV) (h : e76 N x1390 = some (n0, q)) : CallOK Go.Proofs.Try.prog c76 [⟨(.sl (.int .i64)), x1390⟩] q :=
  fn_ok (l := t76 N) (t := [(0, x76_0 N)]) ti_ok hmix (t76_ok N) (a76 N) fn76 (by kernel_rfl) (by kernel_rfl) ⟨x76_0_ok N, trivial⟩ ((k76 N x1390).trans h)
noncomputable def x76 (N : Nat) : List DV → (List DV → Option Rs) → Option Rs := mkX [(.sl (.int .i64))] [(.int .i64)] (e76 N)
theorem x76_ok (N : Nat) : CEok Go.Proofs.Try.prog (c76, x76 N) := mkX_ok fun ys n q h => c76_ok N ys.1 n q h
def c62 : CS := { id := 22, fn := 62, i := { av := [.one (.o (.int .i64)), .one (.f 64 [])], bx := [] }, r := [.one (.o (.int .i64))], one := true, ob := [] }
def s62_0 : LS := { h := { av := [.one (.o (.int .i64)), .one (.f 64 []), .no, .no, .no, .one (.d (.int .i64)), .one (.d (.int .i64)), .no, .no, .no, .no, .no, .no, .no, .no, .no, .no, .no, .no, .no, .no, .no, .no, .no, .no, .no, .no, .no, .no, .no, .no, .no, .no, .no, .no, .no, .no, .no, .no, .no, .no, .no], bx := [] }, x := [(1, { av := [.one (.o (.int .i64)), .no, .no, .no, .no, .one (.d (.int .i64)), .no, .no, .no, .no, .no, .no, .no, .no, .no, .no, .no, .no, .no, .no, .no, .no, .no, .no, .no, .no, .no, .no, .no, .no, .no, .no, .no, .no, .no, .no, .no, .no, .no, .no, .no, .no], bx := [] })] }
def h62 : Hi := { cs := [((1, 2), c76), ((8, 2), c64)], ls := [(0, s62_0)], sp := [12, 19, 29] }
noncomputable def t62 (N : Nat) : List CE := [(c76, x76 N), (c64, x64 N)]
theorem t62_ok (N : Nat) : AllP (CEok Go.Proofs.Try.prog) (t62 N) := ⟨x76_ok N, x64_ok N, trivial⟩
theorem a62 (N : Nat) : AllP (fun e => lookC (t62 N) e.2.id = some e.2) h62.cs := ⟨rfl, rfl, trivial⟩
theorem fn62 : Fn Go.Proofs.Try.prog 62 Go.Proofs.Try.f62 (codeOf Go.Proofs.Try.f62) := ⟨by kernel_rfl, by kernel_rfl, by kernel_rfl, by kernel_rfl⟩
noncomputable def on62_0 {R : Type} (r : Option Rs) (k1 : Cur (Option R) [(.sl (.int .i64)), (.int .i64)]) : Option R :=
  match r with
  | some (n, p) => match n with
    | 1 => onG [(.sl (.int .i64)), (.int .i64)] p k1
    | _ => none
  | none => none
noncomputable def r62_0 (N : Nat) (again : (List Int) → Int → Int → Option Rs) (x1384 : (List Int)) (x1385 : Int) (x1386 : Int) : Option Rs :=
  match ((decide (x1386 < ((List.length x1384 : Nat) : Int))) : Bool) with
  | true =>
    match ((idx x1386 (List.length x1384)) : Bool) with
    | true =>
      on64 (e64 N ((List.getD x1384 (Int.toNat x1386) (0 : Int)) : Int)) (fun x1387 =>
        match ((!x1387) : Bool) with
        | true =>
          match ((idx x1385 (List.length x1384)) : Bool) with
          | true =>
            again ((List.set x1384 (Int.toNat x1385) (List.getD x1384 (Int.toNat x1386) (0 : Int))) : (List Int)) ((IntKind.i64.wrap (x1385 + (1 : Int))) : Int) ((IntKind.i64.wrap (x1386 + (1 : Int))) : Int)
          | false =>
            none
        | false =>
          again (x1384 : (List Int)) (x1385 : Int) ((IntKind.i64.wrap (x1386 + (1 : Int))) : Int))
    | false =>
      none
  | false =>
    some (1, [⟨(.sl (.int .i64)), (x1384 : (List Int))⟩, ⟨(.int .i64), (x1385 : Int)⟩])
noncomputable def l62_0 (N : Nat) : Nat → (List Int) → Int → Int → Option Rs
  | 0, _, _, _ => none
  | n + 1, x1384, x1385, x1386 => r62_0 N (l62_0 N n) x1384 x1385 x1386
theorem on62_0_K (r : Option Rs) (K : Rs → Option Rs) (x : Rs) (h : on62_0 r (curK [(.sl (.int .i64)), (.int .i64)] fun q => K (1, q)) = some x) : ∃ q, r = some q ∧ K q = some x := by
  unfold on62_0 at h
  split at h
  · split at h
    · exact ⟨_, rfl, onG_K h⟩
    · simp at h
  · simp at h
noncomputable def R62_0 (N : Nat) : (List DV → Option Rs) → List DV → Option Rs := round cx0 h62 (ctL (t62 N)) (ltL []) Go.Proofs.Try.f62.ntmps c62.i.bx.length 0 s62_0 (bodyAt Go.Proofs.Try.f62 0)
theorem r62_0_eq (N : Nat) (A : List DV → Option Rs) (x1384 : (List Int)) (x1385 : Int) (x1386 : Int) : R62_0 N A [⟨(.sl (.int .i64)), x1384⟩, ⟨(.int .i64), x1385⟩, ⟨(.int .i64), x1386⟩] = r62_0 N (fun x1384 x1385 x1386 => A [⟨(.sl (.int .i64)), x1384⟩, ⟨(.int .i64), x1385⟩, ⟨(.int .i64), x1386⟩]) x1384 x1385 x1386 := by kernel_rfl
theorem l62_0_eq (N : Nat) : ∀ (n : Nat) (x1384 : (List Int)) (x1385 : Int) (x1386 : Int), iter (R62_0 N) n [⟨(.sl (.int .i64)), x1384⟩, ⟨(.int .i64), x1385⟩, ⟨(.int .i64), x1386⟩] = l62_0 N n x1384 x1385 x1386
  | 0, _, _, _ => rfl
  | n + 1, x1384, x1385, x1386 => (r62_0_eq N (iter (R62_0 N) n) x1384 x1385 x1386).trans (congrArg (fun A => r62_0 N A x1384 x1385 x1386) (funext fun x1384 => funext fun x1385 => funext fun x1386 => l62_0_eq N n x1384 x1385 x1386))
noncomputable def x62_0 (N : Nat) : List DV → (Rs → Option Rs) → Option Rs := mkL [(.sl (.int .i64)), (.int .i64), (.int .i64)] (l62_0 N N) fun r K => on62_0 r (curK [(.sl (.int .i64)), (.int .i64)] fun q => K (1, q))
theorem x62_0_ok (N : Nat) : LEok Go.Proofs.Try.prog h62 (bodOf Go.Proofs.Try.f62) Go.Proofs.Try.f62.ntmps c62.i.bx.length (0, x62_0 N) :=
  mkL_ok on62_0_K (ls := s62_0) (body := bodyAt Go.Proofs.Try.f62 0) (by kernel_rfl) (by kernel_rfl) fun ys q h =>
    loop_ok (l := t62 N) (t := []) ti_ok hmix (t62_ok N) (a62 N) fn62 trivial (by kernel_rfl) (by kernel_rfl) (n := N) ((l62_0_eq N N ys.1 ys.2.1 ys.2.2.1).trans h)
noncomputable def on62 {R : Type} (r : Option Rs) (k : Cur (Option R) [(.sl (.int .i64))]) : Option R := onR [(.sl (.int .i64))] r k
noncomputable def e62 (N : Nat) (x1382 : (List Int)) : Option Rs :=
  on76 (e76 N (x1382 : (List Int))) (fun x1383 =>
    match ((x1383 == (-1 : Int)) : Bool) with
    | true =>
      some (0, [⟨(.sl (.int .i64)), (x1382 : (List Int))⟩])
    | false =>
      on62_0 (l62_0 N N (x1382 : (List Int)) (x1383 : Int) ((IntKind.i64.wrap (x1383 + (1 : Int))) : Int)) (fun x1388 x1389 =>
        match ((decide (0 ≤ x1389 ∧ x1389 ≤ (((List.length x1388) : Nat) : Int))) : Bool) with
        | true =>
          none
        | false =>
          none))
theorem k62 (N : Nat) (x1382 : (List Int)) : den cx0 h62 (ctL (t62 N)) (ltL [(0, x62_0 N)]) Go.Proofs.Try.f62 (codeOf Go.Proofs.Try.f62) c62.i c62.r c62.ob [⟨(.sl (.int .i64)), x1382⟩] = e62 N x1382 := by kernel_rfl
theorem c62_ok (N : Nat) (x1382 : (List Int)) (n0 : Nat) (q : List DV) (h : e62 N x1382 = some (n0, q)) : CallOK Go.Proofs.Try.prog c62 [⟨(.sl (.int .i64)), x1382⟩] q :=
  fn_ok (l := t62 N) (t := [(0, x62_0 N)]) ti_ok hmix (t62_ok N) (a62 N) fn62 (by kernel_rfl) (by kernel_rfl) ⟨x62_0_ok N, trivial⟩ ((k62 N x1382).trans h)
noncomputable def x62 (N : Nat) : List DV → (List DV → Option Rs) → Option Rs := mkX [(.sl (.int .i64))] [(.sl (.int .i64))] (e62 N)
theorem x62_ok (N : Nat) : CEok Go.Proofs.Try.prog (c62, x62 N) := mkX_ok fun ys n q h => c62_ok N ys.1 n q h
def c48 : CS := { id := 23, fn := 48, i := { av := [.agg [(.d (.int .i64)), (.d (.int .i64)), (.d (.int .i64)), (.d (.int .i64)), (.d (.int .i64)), (.d (.int .i64)), (.d (.int .i64)), (.d (.int .i64)), (.d (.int .i64))]], bx := [] }, r := [.one (.o (.int .i64))], one := true, ob := [] }
def h48 : Hi := { cs := [((1, 1), c63), ((1, 2), c62)], ls := [], sp := [] }
noncomputable def t48 (N : Nat) : List CE := [(c63, x63 N), (c62, x62 N)]
theorem t48_ok (N : Nat) : AllP (CEok Go.Proofs.Try.prog) (t48 N) := ⟨x63_ok N, x62_ok N, trivial⟩
theorem a48 (N : Nat) : AllP (fun e => lookC (t48 N) e.2.id = some e.2) h48.cs := ⟨rfl, rfl, trivial⟩
theorem fn48 : Fn Go.Proofs.Try.prog 48 Go.Proofs.Try.f48 (codeOf Go.Proofs.Try.f48) := ⟨by kernel_rfl, by kernel_rfl, by kernel_rfl, by kernel_rfl⟩
noncomputable def on48 {R : Type} (r : Option Rs) (k : Cur (Option R) [(.sl (.int .i64))]) : Option R := onR [(.sl (.int .i64))] r k
noncomputable def e48 (N : Nat) (x1291 : Int) (x1292 : Int) (x1293 : Int) (x1294 : Int) (x1295 : Int) (x1296 : Int) (x1297 : Int) (x1298 : Int) (x1299 : Int) : Option Rs :=
  on63 (e63 N (x1291 : Int) (x1292 : Int) (x1293 : Int) (x1294 : Int) (x1295 : Int) (x1296 : Int) (x1297 : Int) (x1298 : Int) (x1299 : Int)) (fun x1300 =>
    on62 (e62 N (x1300 : (List Int))) (fun x1301 =>
      some (0, [⟨(.sl (.int .i64)), (x1301 : (List Int))⟩])))
theorem k48 (N : Nat) (x1291 : Int) (x1292 : Int) (x1293 : Int) (x1294 : Int) (x1295 : Int) (x1296 : Int) (x1297 : Int) (x1298 : Int) (x1299 : Int) : den cx0 h48 (ctL (t48 N)) (ltL []) Go.Proofs.Try.f48 (codeOf Go.Proofs.Try.f48) c48.i c48.r c48.ob [⟨(.int .i64), x1291⟩, ⟨(.int .i64), x1292⟩, ⟨(.int .i64), x1293⟩, ⟨(.int .i64), x1294⟩, ⟨(.int .i64), x1295⟩, ⟨(.int .i64), x1296⟩, ⟨(.int .i64), x1297⟩, ⟨(.int .i64), x1298⟩, ⟨(.int .i64), x1299⟩] = e48 N x1291 x1292 x1293 x1294 x1295 x1296 x1297 x1298 x1299 := by kernel_rfl
theorem c48_ok (N : Nat) (x1291 : Int) (x1292 : Int) (x1293 : Int) (x1294 : Int) (x1295 : Int) (x1296 : Int) (x1297 : Int) (x1298 : Int) (x1299 : Int) (n0 : Nat) (q : List DV) (h : e48 N x1291 x1292 x1293 x1294 x1295 x1296 x1297 x1298 x1299 = some (n0, q)) : CallOK Go.Proofs.Try.prog c48 [⟨(.int .i64), x1291⟩, ⟨(.int .i64), x1292⟩, ⟨(.int .i64), x1293⟩, ⟨(.int .i64), x1294⟩, ⟨(.int .i64), x1295⟩, ⟨(.int .i64), x1296⟩, ⟨(.int .i64), x1297⟩, ⟨(.int .i64), x1298⟩, ⟨(.int .i64), x1299⟩] q :=
  fn_ok (l := t48 N) (t := []) ti_ok hmix (t48_ok N) (a48 N) fn48 (by kernel_rfl) (by kernel_rfl) trivial ((k48 N x1291 x1292 x1293 x1294 x1295 x1296 x1297 x1298 x1299).trans h)
noncomputable def x48 (N : Nat) : List DV → (List DV → Option Rs) → Option Rs := mkX [(.int .i64), (.int .i64), (.int .i64), (.int .i64), (.int .i64), (.int .i64), (.int .i64), (.int .i64), (.int .i64)] [(.sl (.int .i64))] (e48 N)
theorem x48_ok (N : Nat) : CEok Go.Proofs.Try.prog (c48, x48 N) := mkX_ok fun ys n q h => c48_ok N ys.1 ys.2.1 ys.2.2.1 ys.2.2.2.1 ys.2.2.2.2.1 ys.2.2.2.2.2.1 ys.2.2.2.2.2.2.1 ys.2.2.2.2.2.2.2.1 ys.2.2.2.2.2.2.2.2.1 n q h
def c66 : CS := { id := 24, fn := 66, i := { av := [.one (.d (.int .i64)), .one (.p 0 0 [16, 16, 1, 1, 1, 1, 1, 1]), .one (.p 1 0 [1])], bx := [[(.d (.ar 16 (.int .u32))), (.d (.ar 16 (.int .i64))), (.d (.int .i64)), (.d (.int .i64)), (.d (.int .i64)), (.d (.int .i64)), (.d .bool), (.d (.int .i64))], [(.d (.int .i64))]] }, r := [.one (.d .bool)], one := true, ob := [[(.d (.ar 16 (.int .u32))), (.d (.ar 16 (.int .i64))), (.d (.int .i64)), (.d (.int .i64)), (.d (.int .i64)), (.d (.int .i64)), (.d .bool), (.d (.int .i64))], [(.d (.int .i64))]] }
def h66 : Hi := { cs := [], ls := [], sp := [10] }
noncomputable def t66 (N : Nat) : List CE := []
theorem t66_ok (N : Nat) : AllP (CEok Go.Proofs.Try.prog) (t66 N) := trivial
theorem a66 (N : Nat) : AllP (fun e => lookC (t66 N) e.2.id = some e.2) h66.cs := trivial
theorem fn66 : Fn Go.Proofs.Try.prog 66 Go.Proofs.Try.f66 (codeOf Go.Proofs.Try.f66) := ⟨by kernel_rfl, by kernel_rfl, by kernel_rfl, by kernel_rfl⟩
noncomputable def on66 {R : Type} (r : Option Rs) (k : Cur (Option R) [.bool, (.ar 16 (.int .u32)), (.ar 16 (.int .i64)), (.int .i64), (.int .i64), (.int .i64), (.int .i64), .bool, (.int .i64), (.int .i64)]) : Option R := onR [.bool, (.ar 16 (.int .u32)), (.ar 16 (.int .i64)), (.int .i64), (.int .i64), (.int .i64), (.int .i64), .bool, (.int .i64), (.int .i64)] r k
noncomputable def e66 (N : Nat) (x1497 : Int) (x1498 : (List Int)) (x1499 : (List Int)) (x1500 : Int) (x1501 : Int) (x1502 : Int) (x1503 : Int) (x1504 : Bool) (x1505 : Int) (x1506 : Int) : Option Rs :=
  match ((idx x1497 16) : Bool) with
  | true =>
    match ((decide ((List.getD x1499 (Int.toNat x1497) (0 : Int)) < (0 : Int))) : Bool) with
    | true =>
      some (0, [⟨.bool, (true : Bool)⟩, ⟨(.ar 16 (.int .u32)), (x1498 : (List Int))⟩, ⟨(.ar 16 (.int .i64)), (x1499 : (List Int))⟩, ⟨(.int .i64), (x1500 : Int)⟩, ⟨(.int .i64), (x1501 : Int)⟩, ⟨(.int .i64), (x1502 : Int)⟩, ⟨(.int .i64), (x1503 : Int)⟩, ⟨.bool, (x1504 : Bool)⟩, ⟨(.int .i64), (x1505 : Int)⟩, ⟨(.int .i64), (x1506 : Int)⟩])
    | false =>
      match ((idx x1497 16) : Bool) with
      | true =>
        some (0, [⟨.bool, ((decide ((List.getD x1499 (Int.toNat x1497) (0 : Int)) > x1506)) : Bool)⟩, ⟨(.ar 16 (.int .u32)), (x1498 : (List Int))⟩, ⟨(.ar 16 (.int .i64)), (x1499 : (List Int))⟩, ⟨(.int .i64), (x1500 : Int)⟩, ⟨(.int .i64), (x1501 : Int)⟩, ⟨(.int .i64), (x1502 : Int)⟩, ⟨(.int .i64), (x1503 : Int)⟩, ⟨.bool, (x1504 : Bool)⟩, ⟨(.int .i64), (x1505 : Int)⟩, ⟨(.int .i64), (x1506 : Int)⟩])
      | false =>
        none
  | false =>
    none
theorem k66 (N : Nat) (x1497 : Int) (x1498 : (List Int)) (x1499 : (List Int)) (x1500 : Int) (x1501 : Int) (x1502 : Int) (x1503 : Int) (x1504 : Bool) (x1505 : Int) (x1506 : Int) : den cx0 h66 (ctL (t66 N)) (ltL []) Go.Proofs.Try.f66 (codeOf Go.Proofs.Try.f66) c66.i c66.r c66.ob [⟨(.int .i64), x1497⟩, ⟨(.ar 16 (.int .u32)), x1498⟩, ⟨(.ar 16 (.int .i64)), x1499⟩, ⟨(.int .i64), x1500⟩, ⟨(.int .i64), x1501⟩, ⟨(.int .i64), x1502⟩, ⟨(.int .i64), x1503⟩, ⟨.bool, x1504⟩, ⟨(.int .i64), x1505⟩, ⟨(.int .i64), x1506⟩] = e66 N x1497 x1498 x1499 x1500 x1501 x1502 x1503 x1504 x1505 x1506 := by kernel_rfl
theorem c66_ok (N : Nat) (x1497 : Int) (x1498 : (List Int)) (x1499 : (List Int)) (x1500 : Int) (x1501 : Int) (x1502 : Int) (x1503 : Int) (x1504 : Bool) (x1505 : Int) (x1506 : Int) (n0 : Nat) (q : List DV) (h : e66 N x1497 x1498 x1499 x1500 x1501 x1502 x1503 x1504 x1505 x1506 = some (n0, q)) : CallOK Go.Proofs.Try.prog c66 [⟨(.int .i64), x1497⟩, ⟨(.ar 16 (.int .u32)), x1498⟩, ⟨(.ar 16 (.int .i64)), x1499⟩, ⟨(.int .i64), x1500⟩, ⟨(.int .i64), x1501⟩, ⟨(.int .i64), x1502⟩, ⟨(.int .i64), x1503⟩, ⟨.bool, x1504⟩, ⟨(.int .i64), x1505⟩, ⟨(.int .i64), x1506⟩] q :=
  fn_ok (l := t66 N) (t := []) ti_ok hmix (t66_ok N) (a66 N) fn66 (by kernel_rfl) (by kernel_rfl) trivial ((k66 N x1497 x1498 x1499 x1500 x1501 x1502 x1503 x1504 x1505 x1506).trans h)
noncomputable def x66 (N : Nat) : List DV → (List DV → Option Rs) → Option Rs := mkX [(.int .i64), (.ar 16 (.int .u32)), (.ar 16 (.int .i64)), (.int .i64), (.int .i64), (.int .i64), (.int .i64), .bool, (.int .i64), (.int .i64)] [.bool, (.ar 16 (.int .u32)), (.ar 16 (.int .i64)), (.int .i64), (.int .i64), (.int .i64), (.int .i64), .bool, (.int .i64), (.int .i64)] (e66 N)
theorem x66_ok (N : Nat) : CEok Go.Proofs.Try.prog (c66, x66 N) := mkX_ok fun ys n q h => c66_ok N ys.1 ys.2.1 ys.2.2.1 ys.2.2.2.1 ys.2.2.2.2.1 ys.2.2.2.2.2.1 ys.2.2.2.2.2.2.1 ys.2.2.2.2.2.2.2.1 ys.2.2.2.2.2.2.2.2.1 ys.2.2.2.2.2.2.2.2.2.1 n q h
def c76v1 : CS := { id := 25, fn := 76, i := { av := [.one (.d (.sl (.int .i64))), .one (.f 66 [⟨0, 0, [16, 16, 1, 1, 1, 1, 1, 1]⟩, ⟨1, 0, [1]⟩])], bx := [[(.d (.ar 16 (.int .u32))), (.d (.ar 16 (.int .i64))), (.d (.int .i64)), (.d (.int .i64)), (.d (.int .i64)), (.d (.int .i64)), (.d .bool), (.d (.int .i64))], [(.d (.int .i64))]] }, r := [.one (.d (.int .i64))], one := true, ob := [[(.d (.ar 16 (.int .u32))), (.d (.ar 16 (.int .i64))), (.d (.int .i64)), (.d (.int .i64)), (.d (.int .i64)), (.d (.int .i64)), (.d .bool), (.d (.int .i64))], [(.d (.int .i64))]] }
def s76v1_0 : LS := { h := { av := [.one (.d (.sl (.int .i64))), .one (.f 66 [⟨0, 0, [16, 16, 1, 1, 1, 1, 1, 1]⟩, ⟨1, 0, [1]⟩]), .no, .no, .no, .no, .no, .one (.d (.int .i64)), .one (.d (.int .i64)), .no, .no, .no, .no, .no, .no, .no, .no, .no, .no], bx := [[(.d (.ar 16 (.int .u32))), (.d (.ar 16 (.int .i64))), (.d (.int .i64)), (.d (.int .i64)), (.d (.int .i64)), (.d (.int .i64)), (.d .bool), (.d (.int .i64))], [(.d (.int .i64))]] }, x := [(0, { av := [.no, .no, .no, .no, .one (.d (.int .i64)), .no, .no, .no, .no, .no, .no, .no, .no, .no, .no, .no, .no, .no, .no], bx := [[(.d (.ar 16 (.int .u32))), (.d (.ar 16 (.int .i64))), (.d (.int .i64)), (.d (.int .i64)), (.d (.int .i64)), (.d (.int .i64)), (.d .bool), (.d (.int .i64))], [(.d (.int .i64))]] }), (1, { av := [.no, .no, .no, .no, .no, .no, .no, .no, .no, .no, .no, .no, .no, .no, .no, .no, .no, .no, .no], bx := [[(.d (.ar 16 (.int .u32))), (.d (.ar 16 (.int .i64))), (.d (.int .i64)), (.d (.int .i64)), (.d (.int .i64)), (.d (.int .i64)), (.d .bool), (.d (.int .i64))], [(.d (.int .i64))]] })] }
def h76v1 : Hi := { cs := [((4, 5), c66)], ls := [(0, s76v1_0)], sp := [9, 16] }
noncomputable def t76v1 (N : Nat) : List CE := [(c66, x66 N)]
theorem t76v1_ok (N : Nat) : AllP (CEok Go.Proofs.Try.prog) (t76v1 N) := ⟨x66_ok N, trivial⟩
theorem a76v1 (N : Nat) : AllP (fun e => lookC (t76v1 N) e.2.id = some e.2) h76v1.cs := ⟨rfl, trivial⟩
noncomputable def on76v1_0 {R : Type} (r : Option Rs) (k0 : Cur (Option R) [(.int .i64), (.ar 16 (.int .u32)), (.ar 16 (.int .i64)), (.int .i64), (.int .i64), (.int .i64), (.int .i64), .bool, (.int .i64), (.int .i64)]) (k1 : Cur (Option R) [(.ar 16 (.int .u32)), (.ar 16 (.int .i64)), (.int .i64), (.int .i64), (.int .i64), (.int .i64), .bool, (.int .i64), (.int .i64)]) : Option R :=
  match r with
  | some (n, p) => match n with
    | 0 => onG [(.int .i64), (.ar 16 (.int .u32)), (.ar 16 (.int .i64)), (.int .i64), (.int .i64), (.int .i64), (.int .i64), .bool, (.int .i64), (.int .i64)] p k0
    | 1 => onG [(.ar 16 (.int .u32)), (.ar 16 (.int .i64)), (.int .i64), (.int .i64), (.int .i64), (.int .i64), .bool, (.int .i64), (.int .i64)] p k1
    | _ => none
  | none => none
noncomputable def r76v1_0 (N : Nat) (again : (List Int) → Int → Int → (List Int) → (List Int) → Int → Int → Int → Int → Bool → Int → Int → Option Rs) (x1456 : (List Int)) (x1457 : Int) (x1458 : Int) (x1459 : (List Int)) (x1460 : (List Int)) (x1461 : Int) (x1462 : Int) (x1463 : Int) (x1464 : Int) (x1465 : Bool) (x1466 : Int) (x1467 : Int) : Option Rs :=
  match ((decide (x1458 < x1457)) : Bool) with
  | true =>
    match ((idx x1458 (List.length x1456)) : Bool) with
    | true =>
      on66 (e66 N ((List.getD x1456 (Int.toNat x1458) (0 : Int)) : Int) (x1459 : (List Int)) (x1460 : (List Int)) (x1461 : Int) (x1462 : Int) (x1463 : Int) (x1464 : Int) (x1465 : Bool) (x1466 : Int) (x1467 : Int)) (fun x1468 x1469 x1470 x1471 x1472 x1473 x1474 x1475 x1476 x1477 =>
        match (x1468 : Bool) with
        | true =>
          some (0, [⟨(.int .i64), (x1458 : Int)⟩, ⟨(.ar 16 (.int .u32)), (x1469 : (List Int))⟩, ⟨(.ar 16 (.int .i64)), (x1470 : (List Int))⟩, ⟨(.int .i64), (x1471 : Int)⟩, ⟨(.int .i64), (x1472 : Int)⟩, ⟨(.int .i64), (x1473 : Int)⟩, ⟨(.int .i64), (x1474 : Int)⟩, ⟨.bool, (x1475 : Bool)⟩, ⟨(.int .i64), (x1476 : Int)⟩, ⟨(.int .i64), (x1477 : Int)⟩])
        | false =>
          again (x1456 : (List Int)) (x1457 : Int) ((IntKind.i64.wrap (x1458 + (1 : Int))) : Int) (x1469 : (List Int)) (x1470 : (List Int)) (x1471 : Int) (x1472 : Int) (x1473 : Int) (x1474 : Int) (x1475 : Bool) (x1476 : Int) (x1477 : Int))
    | false =>
      none
  | false =>
    some (1, [⟨(.ar 16 (.int .u32)), (x1459 : (List Int))⟩, ⟨(.ar 16 (.int .i64)), (x1460 : (List Int))⟩, ⟨(.int .i64), (x1461 : Int)⟩, ⟨(.int .i64), (x1462 : Int)⟩, ⟨(.int .i64), (x1463 : Int)⟩, ⟨(.int .i64), (x1464 : Int)⟩, ⟨.bool, (x1465 : Bool)⟩, ⟨(.int .i64), (x1466 : Int)⟩, ⟨(.int .i64), (x1467 : Int)⟩])
noncomputable def l76v1_0 (N : Nat) : Nat → (List Int) → Int → Int → (List Int) → (List Int) → Int → Int → Int → Int → Bool → Int → Int → Option Rs
  | 0, _, _, _, _, _, _, _, _, _, _, _, _ => none
  | n + 1, x1456, x1457, x1458, x1459, x1460, x1461, x1462, x1463, x1464, x1465, x1466, x1467 => r76v1_0 N (l76v1_0 N n) x1456 x1457 x1458 x1459 x1460 x1461 x1462 x1463 x1464 x1465 x1466 x1467
theorem on76v1_0_K (r : Option Rs) (K : Rs → Option Rs) (x : Rs) (h : on76v1_0 r (curK [(.int .i64), (.ar 16 (.int .u32)), (.ar 16 (.int .i64)), (.int .i64), (.int .i64), (.int .i64), (.int .i64), .bool, (.int .i64), (.int .i64)] fun q => K (0, q)) (curK [(.ar 16 (.int .u32)), (.ar 16 (.int .i64)), (.int .i64), (.int .i64), (.int .i64), (.int .i64), .bool, (.int .i64), (.int .i64)] fun q => K (1, q)) = some x) : ∃ q, r = some q ∧ K q = some x := by
  unfold on76v1_0 at h
  split at h
  · split at h
    · exact ⟨_, rfl, onG_K h⟩
    · exact ⟨_, rfl, onG_K h⟩
    · simp at h
  · simp at h
noncomputable def R76v1_0 (N : Nat) : (List DV → Option Rs) → List DV → Option Rs := round cx0 h76v1 (ctL (t76v1 N)) (ltL []) Go.Proofs.Try.f76.ntmps c76v1.i.bx.length 0 s76v1_0 (bodyAt Go.Proofs.Try.f76 0)
theorem r76v1_0_eq (N : Nat) (A : List DV → Option Rs) (x1456 : (List Int)) (x1457 : Int) (x1458 : Int) (x1459 : (List Int)) (x1460 : (List Int)) (x1461 : Int) (x1462 : Int) (x1463 : Int) (x1464 : Int) (x1465 : Bool) (x1466 : Int) (x1467 : Int) : R76v1_0 N A [⟨(.sl (.int .i64)), x1456⟩, ⟨(.int .i64), x1457⟩, ⟨(.int .i64), x1458⟩, ⟨(.ar 16 (.int .u32)), x1459⟩, ⟨(.ar 16 (.int .i64)), x1460⟩, ⟨(.int .i64), x1461⟩, ⟨(.int .i64), x1462⟩, ⟨(.int .i64), x1463⟩, ⟨(.int .i64), x1464⟩, ⟨.bool, x1465⟩, ⟨(.int .i64), x1466⟩, ⟨(.int .i64), x1467⟩] = r76v1_0 N (fun x1456 x1457 x1458 x1459 x1460 x1461 x1462 x1463 x1464 x1465 x1466 x1467 => A [⟨(.sl (.int .i64)), x1456⟩, ⟨(.int .i64), x1457⟩, ⟨(.int .i64), x1458⟩, ⟨(.ar 16 (.int .u32)), x1459⟩, ⟨(.ar 16 (.int .i64)), x1460⟩, ⟨(.int .i64), x1461⟩, ⟨(.int .i64), x1462⟩, ⟨(.int .i64), x1463⟩, ⟨(.int .i64), x1464⟩, ⟨.bool, x1465⟩, ⟨(.int .i64), x1466⟩, ⟨(.int .i64), x1467⟩]) x1456 x1457 x1458 x1459 x1460 x1461 x1462 x1463 x1464 x1465 x1466 x1467 := by kernel_rfl
theorem l76v1_0_eq (N : Nat) : ∀ (n : Nat) (x1456 : (List Int)) (x1457 : Int) (x1458 : Int) (x1459 : (List Int)) (x1460 : (List Int)) (x1461 : Int) (x1462 : Int) (x1463 : Int) (x1464 : Int) (x1465 : Bool) (x1466 : Int) (x1467 : Int), iter (R76v1_0 N) n [⟨(.sl (.int .i64)), x1456⟩, ⟨(.int .i64), x1457⟩, ⟨(.int .i64), x1458⟩, ⟨(.ar 16 (.int .u32)), x1459⟩, ⟨(.ar 16 (.int .i64)), x1460⟩, ⟨(.int .i64), x1461⟩, ⟨(.int .i64), x1462⟩, ⟨(.int .i64), x1463⟩, ⟨(.int .i64), x1464⟩, ⟨.bool, x1465⟩, ⟨(.int .i64), x1466⟩, ⟨(.int .i64), x1467⟩] = l76v1_0 N n x1456 x1457 x1458 x1459 x1460 x1461 x1462 x1463 x1464 x1465 x1466 x1467
  | 0, _, _, _, _, _, _, _, _, _, _, _, _ => rfl
  | n + 1, x1456, x1457, x1458, x1459, x1460, x1461, x1462, x1463, x1464, x1465, x1466, x1467 => (r76v1_0_eq N (iter (R76v1_0 N) n) x1456 x1457 x1458 x1459 x1460 x1461 x1462 x1463 x1464 x1465 x1466 x1467).trans (congrArg (fun A => r76v1_0 N A x1456 x1457 x1458 x1459 x1460 x1461 x1462 x1463 x1464 x1465 x1466 x1467) (funext fun x1456 => funext fun x1457 => funext fun x1458 => funext fun x1459 => funext fun x1460 => funext fun x1461 => funext fun x1462 => funext fun x1463 => funext fun x1464 => funext fun x1465 => funext fun x1466 => funext fun x1467 => l76v1_0_eq N n x1456 x1457 x1458 x1459 x1460 x1461 x1462 x1463 x1464 x1465 x1466 x1467))
noncomputable def x76v1_0 (N : Nat) : List DV → (Rs → Option Rs) → Option Rs := mkL [(.sl (.int .i64)), (.int .i64), (.int .i64), (.ar 16 (.int .u32)), (.ar 16 (.int .i64)), (.int .i64), (.int .i64), (.int .i64), (.int .i64), .bool, (.int .i64), (.int .i64)] (l76v1_0 N N) fun r K => on76v1_0 r (curK [(.int .i64), (.ar 16 (.int .u32)), (.ar 16 (.int .i64)), (.int .i64), (.int .i64), (.int .i64), (.int .i64), .bool, (.int .i64), (.int .i64)] fun q => K (0, q)) (curK [(.ar 16 (.int .u32)), (.ar 16 (.int .i64)), (.int .i64), (.int .i64), (.int .i64), (.int .i64), .bool, (.int .i64), (.int .i64)] fun q => K (1, q))
theorem x76v1_0_ok (N : Nat) : LEok Go.Proofs.Try.prog h76v1 (bodOf Go.Proofs.Try.f76) Go.Proofs.Try.f76.ntmps c76v1.i.bx.length (0, x76v1_0 N) :=
  mkL_ok on76v1_0_K (ls := s76v1_0) (body := bodyAt Go.Proofs.Try.f76 0) (by kernel_rfl) (by kernel_rfl) fun ys q h =>
    loop_ok (l := t76v1 N) (t := []) ti_ok hmix (t76v1_ok N) (a76v1 N) fn76 trivial (by kernel_rfl) (by kernel_rfl) (n := N) ((l76v1_0_eq N N ys.1 ys.2.1 ys.2.2.1 ys.2.2.2.1 ys.2.2.2.2.1 ys.2.2.2.2.2.1 ys.2.2.2.2.2.2.1 ys.2.2.2.2.2.2.2.1 ys.2.2.2.2.2.2.2.2.1 ys.2.2.2.2.2.2.2.2.2.1 ys.2.2.2.2.2.2.2.2.2.2.1 ys.2.2.2.2.2.2.2.2.2.2.2.1).trans h)
noncomputable def on76v1 {R : Type} (r : Option Rs) (k : Cur (Option R) [(.int .i64), (.ar 16 (.int .u32)), (.ar 16 (.int .i64)), (.int .i64), (.int .i64), (.int .i64), (.int .i64), .bool, (.int .i64), (.int .i64)]) : Option R := onR [(.int .i64), (.ar 16 (.int .u32)), (.ar 16 (.int .i64)), (.int .i64), (.int .i64), (.int .i64), (.int .i64), .bool, (.int .i64), (.int .i64)] r k
noncomputable def e76v1 (N : Nat) (x1446 : (List Int)) (x1447 : (List Int)) (x1448 : (List Int)) (x1449 : Int) (x1450 : Int) (x1451 : Int) (x1452 : Int) (x1453 : Bool) (x1454 : Int) (x1455 : Int) : Option Rs :=
  on76v1_0 (l76v1_0 N N (x1446 : (List Int)) (((List.length x1446 : Nat) : Int) : Int) ((0 : Int) : Int) (x1447 : (List Int)) (x1448 : (List Int)) (x1449 : Int) (x1450 : Int) (x1451 : Int) (x1452 : Int) (x1453 : Bool) (x1454 : Int) (x1455 : Int)) (fun x1478 x1479 x1480 x1481 x1482 x1483 x1484 x1485 x1486 x1487 =>
    some (0, [⟨(.int .i64), (x1478 : Int)⟩, ⟨(.ar 16 (.int .u32)), (x1479 : (List Int))⟩, ⟨(.ar 16 (.int .i64)), (x1480 : (List Int))⟩, ⟨(.int .i64), (x1481 : Int)⟩, ⟨(.int .i64), (x1482 : Int)⟩, ⟨(.int .i64), (x1483 : Int)⟩, ⟨(.int .i64), (x1484 : Int)⟩, ⟨.bool, (x1485 : Bool)⟩, ⟨(.int .i64), (x1486 : Int)⟩, ⟨(.int .i64), (x1487 : Int)⟩])) (fun x1488 x1489 x1490 x1491 x1492 x1493 x1494 x1495 x1496 =>
    some (0, [⟨(.int .i64), ((-1 : Int) : Int)⟩, ⟨(.ar 16 (.int .u32)), (x1488 : (List Int))⟩, ⟨(.ar 16 (.int .i64)), (x1489 : (List Int))⟩, ⟨(.int .i64), (x1490 : Int)⟩, ⟨(.int .i64), (x1491 : Int)⟩, ⟨(.int .i64), (x1492 : Int)⟩, ⟨(.int .i64), (x1493 : Int)⟩, ⟨.bool, (x1494 : Bool)⟩, ⟨(.int .i64), (x1495 : Int)⟩, ⟨(.int .i64), (x1496 : Int)⟩]))
theorem k76v1 (N : Nat) (x1446 : (List Int)) (x1447 : (List Int)) (x1448 : (List Int)) (x1449 : Int) (x1450 : Int) (x1451 : Int) (x1452 : Int) (x1453 : Bool) (x1454 : Int) (x1455 : Int) : den cx0 h76v1 (ctL (t76v1 N)) (ltL [(0, x76v1_0 N)]) Go.Proofs.Try.f76 (codeOf Go.Proofs.Try.f76) c76v1.i c76v1.r c76v1.ob [⟨(.sl (.int .i64)), x1446⟩, ⟨(.ar 16 (.int .u32)), x1447⟩, ⟨(.ar 16 (.int .i64)), x1448⟩, ⟨(.int .i64), x1449⟩, ⟨(.int .i64), x1450⟩, ⟨(.int .i64), x1451⟩, ⟨(.int .i64), x1452⟩, ⟨.bool, x1453⟩, ⟨(.int .i64), x1454⟩, ⟨(.int .i64), x1455⟩] = e76v1 N x1446 x1447 x1448 x1449 x1450 x1451 x1452 x1453 x1454 x1455 := by kernel_rfl
theorem c76v1_ok (N : Nat) (x1446 : (List Int)) (x1447 : (List Int)) (x1448 : (List Int)) (x1449 : Int) (x1450 : Int) (x1451 : Int) (x1452 : Int) (x1453 : Bool) (x1454 : Int) (x1455 : Int) (n0 : Nat) (q : List DV) (h : e76v1 N x1446 x1447 x1448 x1449 x1450 x1451 x1452 x1453 x1454 x1455 = some (n0, q)) : CallOK Go.Proofs.Try.prog c76v1 [⟨(.sl (.int .i64)), x1446⟩, ⟨(.ar 16 (.int .u32)), x1447⟩, ⟨(.ar 16 (.int .i64)), x1448⟩, ⟨(.int .i64), x1449⟩, ⟨(.int .i64), x1450⟩, ⟨(.int .i64), x1451⟩, ⟨(.int .i64), x1452⟩, ⟨.bool, x1453⟩, ⟨(.int .i64), x1454⟩, ⟨(.int .i64), x1455⟩] q :=
  fn_ok (l := t76v1 N) (t := [(0, x76v1_0 N)]) ti_ok hmix (t76v1_ok N) (a76v1 N) fn76 (by kernel_rfl) (by kernel_rfl) ⟨x76v1_0_ok N, trivial⟩ ((k76v1 N x1446 x1447 x1448 x1449 x1450 x1451 x1452 x1453 x1454 x1455).trans h)
noncomputable def x76v1 (N : Nat) : List DV → (List DV → Option Rs) → Option Rs := mkX [(.sl (.int .i64)), (.ar 16 (.int .u32)), (.ar 16 (.int .i64)), (.int .i64), (.int .i64), (.int .i64), (.int .i64), .bool, (.int .i64), (.int .i64)] [(.int .i64), (.ar 16 (.int .u32)), (.ar 16 (.int .i64)), (.int .i64), (.int .i64), (.int .i64), (.int .i64), .bool, (.int .i64), (.int .i64)] (e76v1 N)
theorem x76v1_ok (N : Nat) : CEok Go.Proofs.Try.prog (c76v1, x76v1 N) := mkX_ok fun ys n q h => c76v1_ok N ys.1 ys.2.1 ys.2.2.1 ys.2.2.2.1 ys.2.2.2.2.1 ys.2.2.2.2.2.1 ys.2.2.2.2.2.2.1 ys.2.2.2.2.2.2.2.1 ys.2.2.2.2.2.2.2.2.1 ys.2.2.2.2.2.2.2.2.2.1 n q h
def c65 : CS := { id := 26, fn := 65, i := { av := [.one (.d (.sl (.int .i64))), .one (.f 66 [⟨0, 0, [16, 16, 1, 1, 1, 1, 1, 1]⟩, ⟨1, 0, [1]⟩])], bx := [[(.d (.ar 16 (.int .u32))), (.d (.ar 16 (.int .i64))), (.d (.int .i64)), (.d (.int .i64)), (.d (.int .i64)), (.d (.int .i64)), (.d .bool), (.d (.int .i64))], [(.d (.int .i64))]] }, r := [.one (.d .bool)], one := true, ob := [[(.d (.ar 16 (.int .u32))), (.d (.ar 16 (.int .i64))), (.d (.int .i64)), (.d (.int .i64)), (.d (.int .i64)), (.d (.int .i64)), (.d .bool), (.d (.int .i64))], [(.d (.int .i64))]] }
def h65 : Hi := { cs := [((1, 2), c76v1)], ls := [], sp := [] }
noncomputable def t65 (N : Nat) : List CE := [(c76v1, x76v1 N)]
theorem t65_ok (N : Nat) : AllP (CEok Go.Proofs.Try.prog) (t65 N) := ⟨x76v1_ok N, trivial⟩
theorem a65 (N : Nat) : AllP (fun e => lookC (t65 N) e.2.id = some e.2) h65.cs := ⟨rfl, trivial⟩
theorem fn65 : Fn Go.Proofs.Try.prog 65 Go.Proofs.Try.f65 (codeOf Go.Proofs.Try.f65) := ⟨by kernel_rfl, by kernel_rfl, by kernel_rfl, by kernel_rfl⟩
noncomputable def on65 {R : Type} (r : Option Rs) (k : Cur (Option R) [.bool, (.ar 16 (.int .u32)), (.ar 16 (.int .i64)), (.int .i64), (.int .i64), (.int .i64), (.int .i64), .bool, (.int .i64), (.int .i64)]) : Option R := onR [.bool, (.ar 16 (.int .u32)), (.ar 16 (.int .i64)), (.int .i64), (.int .i64), (.int .i64), (.int .i64), .bool, (.int .i64), (.int .i64)] r k
noncomputable def e65 (N : Nat) (x1426 : (List Int)) (x1427 : (List Int)) (x1428 : (List Int)) (x1429 : Int) (x1430 : Int) (x1431 : Int) (x1432 : Int) (x1433 : Bool) (x1434 : Int) (x1435 : Int) : Option Rs :=
  on76v1 (e76v1 N (x1426 : (List Int)) (x1427 : (List Int)) (x1428 : (List Int)) (x1429 : Int) (x1430 : Int) (x1431 : Int) (x1432 : Int) (x1433 : Bool) (x1434 : Int) (x1435 : Int)) (fun x1436 x1437 x1438 x1439 x1440 x1441 x1442 x1443 x1444 x1445 =>
    some (0, [⟨.bool, ((decide (x1436 ≥ (0 : Int))) : Bool)⟩, ⟨(.ar 16 (.int .u32)), (x1437 : (List Int))⟩, ⟨(.ar 16 (.int .i64)), (x1438 : (List Int))⟩, ⟨(.int .i64), (x1439 : Int)⟩, ⟨(.int .i64), (x1440 : Int)⟩, ⟨(.int .i64), (x1441 : Int)⟩, ⟨(.int .i64), (x1442 : Int)⟩, ⟨.bool, (x1443 : Bool)⟩, ⟨(.int .i64), (x1444 : Int)⟩, ⟨(.int .i64), (x1445 : Int)⟩]))
theorem k65 (N : Nat) (x1426 : (List Int)) (x1427 : (List Int)) (x1428 : (List Int)) (x1429 : Int) (x1430 : Int) (x1431 : Int) (x1432 : Int) (x1433 : Bool) (x1434 : Int) (x1435 : Int) : den cx0 h65 (ctL (t65 N)) (ltL []) Go.Proofs.Try.f65 (codeOf Go.Proofs.Try.f65) c65.i c65.r c65.ob [⟨(.sl (.int .i64)), x1426⟩, ⟨(.ar 16 (.int .u32)), x1427⟩, ⟨(.ar 16 (.int .i64)), x1428⟩, ⟨(.int .i64), x1429⟩, ⟨(.int .i64), x1430⟩, ⟨(.int .i64), x1431⟩, ⟨(.int .i64), x1432⟩, ⟨.bool, x1433⟩, ⟨(.int .i64), x1434⟩, ⟨(.int .i64), x1435⟩] = e65 N x1426 x1427 x1428 x1429 x1430 x1431 x1432 x1433 x1434 x1435 := by kernel_rfl
theorem c65_ok (N : Nat) (x1426 : (List Int)) (x1427 : (List Int)) (x1428 : (List Int)) (x1429 : Int) (x1430 : Int) (x1431 : Int) (x1432 : Int) (x1433 : Bool) (x1434 : Int) (x1435 : Int) (n0 : Nat) (q : List DV) (h : e65 N x1426 x1427 x1428 x1429 x1430 x1431 x1432 x1433 x1434 x1435 = some (n0, q)) : CallOK Go.Proofs.Try.prog c65 [⟨(.sl (.int .i64)), x1426⟩, ⟨(.ar 16 (.int .u32)), x1427⟩, ⟨(.ar 16 (.int .i64)), x1428⟩, ⟨(.int .i64), x1429⟩, ⟨(.int .i64), x1430⟩, ⟨(.int .i64), x1431⟩, ⟨(.int .i64), x1432⟩, ⟨.bool, x1433⟩, ⟨(.int .i64), x1434⟩, ⟨(.int .i64), x1435⟩] q :=
  fn_ok (l := t65 N) (t := []) ti_ok hmix (t65_ok N) (a65 N) fn65 (by kernel_rfl) (by kernel_rfl) trivial ((k65 N x1426 x1427 x1428 x1429 x1430 x1431 x1432 x1433 x1434 x1435).trans h)
noncomputable def x65 (N : Nat) : List DV → (List DV → Option Rs) → Option Rs := mkX [(.sl (.int .i64)), (.ar 16 (.int .u32)), (.ar 16 (.int .i64)), (.int .i64), (.int .i64), (.int .i64), (.int .i64), .bool, (.int .i64), (.int .i64)] [.bool, (.ar 16 (.int .u32)), (.ar 16 (.int .i64)), (.int .i64), (.int .i64), (.int .i64), (.int .i64), .bool, (.int .i64), (.int .i64)] (e65 N)
theorem x65_ok (N : Nat) : CEok Go.Proofs.Try.prog (c65, x65 N) := mkX_ok fun ys n q h => c65_ok N ys.1 ys.2.1 ys.2.2.1 ys.2.2.2.1 ys.2.2.2.2.1 ys.2.2.2.2.2.1 ys.2.2.2.2.2.2.1 ys.2.2.2.2.2.2.2.1 ys.2.2.2.2.2.2.2.2.1 ys.2.2.2.2.2.2.2.2.2.1 n q h
def c49 : CS := { id := 27, fn := 49, i := { av := [.agg [(.d (.ar 16 (.int .u32))), (.d (.ar 16 (.int .i64))), (.d (.int .i64)), (.d (.int .i64)), (.d (.int .i64)), (.d (.int .i64)), (.d .bool), (.d (.int .i64))], .agg [(.d (.int .i64)), (.d (.int .i64)), (.d (.int .i64)), (.d (.int .i64)), (.d (.int .i64)), (.d (.int .i64)), (.d (.int .i64)), (.d (.int .i64)), (.d (.int .i64))], .one (.d (.int .i64))], bx := [] }, r := [.one (.d .bool)], one := true, ob := [] }
def h49 : Hi := { cs := [((1, 1), c48), ((1, 3), c65)], ls := [], sp := [] }
noncomputable def t49 (N : Nat) : List CE := [(c48, x48 N), (c65, x65 N)]
theorem t49_ok (N : Nat) : AllP (CEok Go.Proofs.Try.prog) (t49 N) := ⟨x48_ok N, x65_ok N, trivial⟩
theorem a49 (N : Nat) : AllP (fun e => lookC (t49 N) e.2.id = some e.2) h49.cs := ⟨rfl, rfl, trivial⟩
theorem fn49 : Fn Go.Proofs.Try.prog 49 Go.Proofs.Try.f49 (codeOf Go.Proofs.Try.f49) := ⟨by kernel_rfl, by kernel_rfl, by kernel_rfl, by kernel_rfl⟩
noncomputable def on49 {R : Type} (r : Option Rs) (k : Cur (Option R) [.bool]) : Option R := onR [.bool] r k
noncomputable def e49 (N : Nat) (x1397 : (List Int)) (x1398 : (List Int)) (x1399 : Int) (x1400 : Int) (x1401 : Int) (x1402 : Int) (x1403 : Bool) (x1404 : Int) (x1405 : Int) (x1406 : Int) (x1407 : Int) (x1408 : Int) (x1409 : Int) (x1410 : Int) (x1411 : Int) (x1412 : Int) (x1413 : Int) (x1414 : Int) : Option Rs :=
  on48 (e48 N (x1405 : Int) (x1406 : Int) (x1407 : Int) (x1408 : Int) (x1409 : Int) (x1410 : Int) (x1411 : Int) (x1412 : Int) (x1413 : Int)) (fun x1415 =>
    on65 (e65 N (x1415 : (List Int)) (x1397 : (List Int)) (x1398 : (List Int)) (x1399 : Int) (x1400 : Int) (x1401 : Int) (x1402 : Int) (x1403 : Bool) (x1404 : Int) (x1414 : Int)) (fun x1416 x1417 x1418 x1419 x1420 x1421 x1422 x1423 x1424 x1425 =>
      some (0, [⟨.bool, ((!x1416) : Bool)⟩])))
theorem k49 (N : Nat) (x1397 : (List Int)) (x1398 : (List Int)) (x1399 : Int) (x1400 : Int) (x1401 : Int) (x1402 : Int) (x1403 : Bool) (x1404 : Int) (x1405 : Int) (x1406 : Int) (x1407 : Int) (x1408 : Int) (x1409 : Int) (x1410 : Int) (x1411 : Int) (x1412 : Int) (x1413 : Int) (x1414 : Int) : den cx0 h49 (ctL (t49 N)) (ltL []) Go.Proofs.Try.f49 (codeOf Go.Proofs.Try.f49) c49.i c49.r c49.ob [⟨(.ar 16 (.int .u32)), x1397⟩, ⟨(.ar 16 (.int .i64)), x1398⟩, ⟨(.int .i64), x1399⟩, ⟨(.int .i64), x1400⟩, ⟨(.int .i64), x1401⟩, ⟨(.int .i64), x1402⟩, ⟨.bool, x1403⟩, ⟨(.int .i64), x1404⟩, ⟨(.int .i64), x1405⟩, ⟨(.int .i64), x1406⟩, ⟨(.int .i64), x1407⟩, ⟨(.int .i64), x1408⟩, ⟨(.int .i64), x1409⟩, ⟨(.int .i64), x1410⟩, ⟨(.int .i64), x1411⟩, ⟨(.int .i64), x1412⟩, ⟨(.int .i64), x1413⟩, ⟨(.int .i64), x1414⟩] = e49 N x1397 x1398 x1399 x1400 x1401 x1402 x1403 x1404 x1405 x1406 x1407 x1408 x1409 x1410 x1411 x1412 x1413 x1414 := by kernel_rfl
theorem c49_ok (N : Nat) (x1397 : (List Int)) (x1398 : (List Int)) (x1399 : Int) (x1400 : Int) (x1401 : Int) (x1402 : Int) (x1403 : Bool) (x1404 : Int) (x1405 : Int) (x1406 : Int) (x1407 : Int) (x1408 : Int) (x1409 : Int) (x1410 : Int) (x1411 : Int) (x1412 : Int) (x1413 : Int) (x1414 : Int) (n0 : Nat) (q : List DV) (h : e49 N x1397 x1398 x1399 x1400 x1401 x1402 x1403 x1404 x1405 x1406 x1407 x1408 x1409 x1410 x1411 x1412 x1413 x1414 = some (n0, q)) : CallOK Go.Proofs.Try.prog c49 [⟨(.ar 16 (.int .u32)), x1397⟩, ⟨(.ar 16 (.int .i64)), x1398⟩, ⟨(.int .i64), x1399⟩, ⟨(.int .i64), x1400⟩, ⟨(.int .i64), x1401⟩, ⟨(.int .i64), x1402⟩, ⟨.bool, x1403⟩, ⟨(.int .i64), x1404⟩, ⟨(.int .i64), x1405⟩, ⟨(.int .i64), x1406⟩, ⟨(.int .i64), x1407⟩, ⟨(.int .i64), x1408⟩, ⟨(.int .i64), x1409⟩, ⟨(.int .i64), x1410⟩, ⟨(.int .i64), x1411⟩, ⟨(.int .i64), x1412⟩, ⟨(.int .i64), x1413⟩, ⟨(.int .i64), x1414⟩] q :=
  fn_ok (l := t49 N) (t := []) ti_ok hmix (t49_ok N) (a49 N) fn49 (by kernel_rfl) (by kernel_rfl) trivial ((k49 N x1397 x1398 x1399 x1400 x1401 x1402 x1403 x1404 x1405 x1406 x1407 x1408 x1409 x1410 x1411 x1412 x1413 x1414).trans h)
noncomputable def x49 (N : Nat) : List DV → (List DV → Option Rs) → Option Rs := mkX [(.ar 16 (.int .u32)), (.ar 16 (.int .i64)), (.int .i64), (.int .i64), (.int .i64), (.int .i64), .bool, (.int .i64), (.int .i64), (.int .i64), (.int .i64), (.int .i64), (.int .i64), (.int .i64), (.int .i64), (.int .i64), (.int .i64), (.int .i64)] [.bool] (e49 N)
theorem x49_ok (N : Nat) : CEok Go.Proofs.Try.prog (c49, x49 N) := mkX_ok fun ys n q h => c49_ok N ys.1 ys.2.1 ys.2.2.1 ys.2.2.2.1 ys.2.2.2.2.1 ys.2.2.2.2.2.1 ys.2.2.2.2.2.2.1 ys.2.2.2.2.2.2.2.1 ys.2.2.2.2.2.2.2.2.1 ys.2.2.2.2.2.2.2.2.2.1 ys.2.2.2.2.2.2.2.2.2.2.1 ys.2.2.2.2.2.2.2.2.2.2.2.1 ys.2.2.2.2.2.2.2.2.2.2.2.2.1 ys.2.2.2.2.2.2.2.2.2.2.2.2.2.1 ys.2.2.2.2.2.2.2.2.2.2.2.2.2.2.1 ys.2.2.2.2.2.2.2.2.2.2.2.2.2.2.2.1 ys.2.2.2.2.2.2.2.2.2.2.2.2.2.2.2.2.1 ys.2.2.2.2.2.2.2.2.2.2.2.2.2.2.2.2.2.1 n q h
def c17 : CS := { id := 28, fn := 17, i := { av := [], bx := [] }, r := [.one (.d .bool)], one := true, ob := [] }
def h17 : Hi := { cs := [((1, 1), c18), ((2, 1), c48), ((2, 13), c49)], ls := [], sp := [8, 14] }
noncomputable def t17 (N : Nat) : List CE := [(c18, x18 N), (c48, x48 N), (c49, x49 N)]
theorem t17_ok (N : Nat) : AllP (CEok Go.Proofs.Try.prog) (t17 N) := ⟨x18_ok N, x48_ok N, x49_ok N, trivial⟩
theorem a17 (N : Nat) : AllP (fun e => lookC (t17 N) e.2.id = some e.2) h17.cs := ⟨rfl, rfl, rfl, trivial⟩
theorem fn17 : Fn Go.Proofs.Try.prog 17 Go.Proofs.Try.f17 (codeOf Go.Proofs.Try.f17) := ⟨by kernel_rfl, by kernel_rfl, by kernel_rfl, by kernel_rfl⟩
noncomputable def on17 {R : Type} (r : Option Rs) (k : Cur (Option R) [.bool]) : Option R := onR [.bool] r k
noncomputable def e17 (N : Nat)  : Option Rs :=
  on18 (e18 N ((0 : Int) : Int) ((List.replicate 16 (0 : Int)) : (List Int)) ((List.replicate 16 (0 : Int)) : (List Int)) ((0 : Int) : Int) ((0 : Int) : Int) ((0 : Int) : Int) ((0 : Int) : Int) (false : Bool) ((0 : Int) : Int) ((List.replicate 16 (0 : Int)) : (List Int)) ((List.replicate 16 (0 : Int)) : (List Int)) ((0 : Int) : Int) ((0 : Int) : Int) ((0 : Int) : Int) ((0 : Int) : Int) (false : Bool) ((0 : Int) : Int) (([] : List (Int × (Bool × (Int × Unit)))) : (List (Int × (Bool × (Int × Unit))))) (([] : List Int) : (List Int)) (([] : List Int) : (List Int)) (([] : List Bool) : (List Bool)) (([] : List Bool) : (List Bool)) (([] : List (Int × (Int × (Int × (Bool × (Int × Unit)))))) : (List (Int × (Int × (Int × (Bool × (Int × Unit))))))) (([] : List (Bool × (Int × (Int × (Int × (Int × (Int × (Int × (Int × Unit))))))))) : (List (Bool × (Int × (Int × (Int × (Int × (Int × (Int × (Int × Unit)))))))))) (([] : List Int) : (List Int)) (([] : List (Int × (Int × (Int × Unit)))) : (List (Int × (Int × (Int × Unit))))) ((0 : Int) : Int) ((0 : Int) : Int) ((0 : Int) : Int) ((0 : Int) : Int) ((0 : Int) : Int) ((0 : Int) : Int) ((3 : Int) : Int) ((5 : Int) : Int) ((3 : Int) : Int)) (fun x1075 x1076 x1077 x1078 x1079 x1080 x1081 x1082 x1083 x1084 x1085 x1086 x1087 x1088 x1089 x1090 x1091 x1092 x1093 x1094 x1095 x1096 x1097 x1098 x1099 x1100 x1101 x1102 x1103 x1104 x1105 x1106 =>
    on48 (e48 N ((0 : Int) : Int) ((0 : Int) : Int) ((0 : Int) : Int) ((0 : Int) : Int) ((0 : Int) : Int) ((0 : Int) : Int) ((0 : Int) : Int) ((0 : Int) : Int) ((0 : Int) : Int)) (fun x1107 =>
      match ((((List.length x1107 : Nat) : Int) == (0 : Int)) : Bool) with
      | true =>
        match (((x1101 == (3 : Int)) && ((x1102 == (5 : Int)) && (x1103 == (3 : Int)))) : Bool) with
        | true =>
          on49 (e49 N ((List.replicate 16 (0 : Int)) : (List Int)) ((List.replicate 16 (0 : Int)) : (List Int)) ((0 : Int) : Int) ((0 : Int) : Int) ((0 : Int) : Int) ((0 : Int) : Int) (false : Bool) ((0 : Int) : Int) ((5 : Int) : Int) ((0 : Int) : Int) ((0 : Int) : Int) ((0 : Int) : Int) ((0 : Int) : Int) ((0 : Int) : Int) ((2 : Int) : Int) ((0 : Int) : Int) ((0 : Int) : Int) ((0 : Int) : Int)) (fun x1108 =>
            some (0, [⟨.bool, (x1108 : Bool)⟩]))
        | false =>
          some (0, [⟨.bool, (false : Bool)⟩])
      | false =>
        some (0, [⟨.bool, (false : Bool)⟩])))
theorem k17 (N : Nat)  : den cx0 h17 (ctL (t17 N)) (ltL []) Go.Proofs.Try.f17 (codeOf Go.Proofs.Try.f17) c17.i c17.r c17.ob [] = e17 N  := by kernel_rfl
theorem c17_ok (N : Nat)  (n0 : Nat) (q : List DV) (h : e17 N  = some (n0, q)) : CallOK Go.Proofs.Try.prog c17 [] q :=
  fn_ok (l := t17 N) (t := []) ti_ok hmix (t17_ok N) (a17 N) fn17 (by kernel_rfl) (by kernel_rfl) trivial ((k17 N ).trans h)
noncomputable def x17 (N : Nat) : List DV → (List DV → Option Rs) → Option Rs := mkX [] [.bool] (e17 N)
theorem x17_ok (N : Nat) : CEok Go.Proofs.Try.prog (c17, x17 N) := mkX_ok fun ys n q h => c17_ok N  n q h
def c5 : CS := { id := 29, fn := 5, i := { av := [.one (.d (.sl (.int .i64)))], bx := [] }, r := [.one (.d .bool)], one := true, ob := [] }
def s5_0 : LS := { h := { av := [.one (.d (.sl (.int .i64))), .no, .no, .no, .one (.p 0 0 [1, 16, 16, 1, 1, 1, 1, 1, 1, 16, 16, 1, 1, 1, 1, 1, 1, 1, 1, 1, 1, 1, 1, 1, 1, 1, 1, 1, 1, 1, 1, 1]), .one (.d (.int .i64)), .one (.d (.int .i64)), .no, .no, .no, .no, .no, .no, .no, .no, .no, .no, .no, .no, .no, .no, .no, .no, .no, .no, .no, .no, .no, .no, .no, .no, .no, .no, .no, .no, .no, .no, .no, .no, .no, .no, .no, .no, .no, .no, .no, .no, .no, .no, .no, .no, .no, .no, .no, .no, .no, .no, .no, .no], bx := [[(.d (.int .i64)), (.d (.ar 16 (.int .u32))), (.d (.ar 16 (.int .i64))), (.d (.int .i64)), (.d (.int .i64)), (.d (.int .i64)), (.d (.int .i64)), (.d .bool), (.d (.int .i64)), (.d (.ar 16 (.int .u32))), (.d (.ar 16 (.int .i64))), (.d (.int .i64)), (.d (.int .i64)), (.d (.int .i64)), (.d (.int .i64)), (.d .bool), (.d (.int .i64)), (.o (.pair (.int .i64) (.pair .bool (.pair (.int .u32) .unit)))), (.o (.int .u32)), (.o (.int .u32)), (.o .bool), (.o .bool), (.o (.pair (.int .i64) (.pair (.int .i64) (.pair (.int .i64) (.pair .bool (.pair (.int .u32) .unit)))))), (.o (.pair .bool (.pair (.int .i64) (.pair (.int .i64) (.pair (.int .i64) (.pair (.int .u32) (.pair (.int .i64) (.pair (.int .i64) (.pair (.int .i64) .unit))))))))), (.o (.int .u8)), (.o (.pair (.int .i64) (.pair (.int .i64) (.pair (.int .u32) .unit)))), (.d (.int .i64)), (.d (.int .i64)), (.d (.int .i64)), (.d (.int .i64)), (.d (.int .i64)), (.d (.int .i64))]] }, x := [(0, { av := [.no, .no, .one (.d .bool), .no, .no, .no, .no, .no, .no, .no, .no, .no, .no, .no, .no, .no, .no, .no, .no, .no, .no, .no, .no, .no, .no, .no, .no, .no, .no, .no, .no, .no, .no, .no, .no, .no, .no, .no, .no, .no, .no, .no, .no, .no, .no, .no, .no, .no, .no, .no, .no, .no, .no, .no, .no, .no, .no, .no, .no], bx := [] }), (1, { av := [.no, .no, .no, .no, .no, .no, .no, .no, .no, .no, .no, .no, .no, .no, .no, .no, .no, .no, .no, .no, .no, .no, .no, .no, .no, .no, .no, .no, .no, .no, .no, .no, .no, .no, .no, .no, .no, .no, .no, .no, .no, .no, .no, .no, .no, .no, .no, .no, .no, .no, .no, .no, .no, .no, .no, .no, .no, .no, .no], bx := [] })] }
def h5 : Hi := { cs := [((1, 0), c17), ((9, 9), c18)], ls := [(0, s5_0)], sp := [10, 14, 20, 35, 45, 58] }
noncomputable def t5 (N : Nat) : List CE := [(c17, x17 N), (c18, x18 N)]
theorem t5_ok (N : Nat) : AllP (CEok Go.Proofs.Try.prog) (t5 N) := ⟨x17_ok N, x18_ok N, trivial⟩
theorem a5 (N : Nat) : AllP (fun e => lookC (t5 N) e.2.id = some e.2) h5.cs := ⟨rfl, rfl, trivial⟩
theorem fn5 : Fn Go.Proofs.Try.prog 5 Go.Proofs.Try.f5 (codeOf Go.Proofs.Try.f5) := ⟨by kernel_rfl, by kernel_rfl, by kernel_rfl, by kernel_rfl⟩
noncomputable def on5_0 {R : Type} (r : Option Rs) (k0 : Cur (Option R) [.bool]) (k1 : Cur (Option R) []) : Option R :=
  match r with
  | some (n, p) => match n with
    | 0 => onG [.bool] p k0
    | 1 => onG [] p k1
    | _ => none
  | none => none
noncomputable def r5_0 (N : Nat) (again : (List Int) → Int → Int → Int → (List Int) → (List Int) → Int → Int → Int → Int → Bool → Int → (List Int) → (List Int) → Int → Int → Int → Int → Bool → Int → (List (Int × (Bool × (Int × Unit)))) → (List Int) → (List Int) → (List Bool) → (List Bool) → (List (Int × (Int × (Int × (Bool × (Int × Unit)))))) → (List (Bool × (Int × (Int × (Int × (Int × (Int × (Int × (Int × Unit))))))))) → (List Int) → (List (Int × (Int × (Int × Unit)))) → Int → Int → Int → Int → Int → Int → Option Rs) (x1007 : (List Int)) (x1008 : Int) (x1009 : Int) (x1010 : Int) (x1011 : (List Int)) (x1012 : (List Int)) (x1013 : Int) (x1014 : Int) (x1015 : Int) (x1016 : Int) (x1017 : Bool) (x1018 : Int) (x1019 : (List Int)) (x1020 : (List Int)) (x1021 : Int) (x1022 : Int) (x1023 : Int) (x1024 : Int) (x1025 : Bool) (x1026 : Int) (x1027 : (List (Int × (Bool × (Int × Unit))))) (x1028 : (List Int)) (x1029 : (List Int)) (x1030 : (List Bool)) (x1031 : (List Bool)) (x1032 : (List (Int × (Int × (Int × (Bool × (Int × Unit))))))) (x1033 : (List (Bool × (Int × (Int × (Int × (Int × (Int × (Int × (Int × Unit)))))))))) (x1034 : (List Int)) (x1035 : (List (Int × (Int × (Int × Unit))))) (x1036 : Int) (x1037 : Int) (x1038 : Int) (x1039 : Int) (x1040 : Int) (x1041 : Int) : Option Rs :=
  match ((decide (x1009 < ((List.length x1007 : Nat) : Int))) : Bool) with
  | true =>
    match ((decide ((4 : Int) = 0)) : Bool) with
    | true =>
      none
    | false =>
      match ((idx x1009 (List.length x1007)) : Bool) with
      | true =>
        on18 (e18 N (x1010 : Int) (x1011 : (List Int)) (x1012 : (List Int)) (x1013 : Int) (x1014 : Int) (x1015 : Int) (x1016 : Int) (x1017 : Bool) (x1018 : Int) (x1019 : (List Int)) (x1020 : (List Int)) (x1021 : Int) (x1022 : Int) (x1023 : Int) (x1024 : Int) (x1025 : Bool) (x1026 : Int) (x1027 : (List (Int × (Bool × (Int × Unit))))) (x1028 : (List Int)) (x1029 : (List Int)) (x1030 : (List Bool)) (x1031 : (List Bool)) (x1032 : (List (Int × (Int × (Int × (Bool × (Int × Unit))))))) (x1033 : (List (Bool × (Int × (Int × (Int × (Int × (Int × (Int × (Int × Unit)))))))))) (x1034 : (List Int)) (x1035 : (List (Int × (Int × (Int × Unit))))) (x1036 : Int) (x1037 : Int) (x1038 : Int) (x1039 : Int) (x1040 : Int) (x1041 : Int) ((IntKind.i64.wrap ((1 : Int) + (Int.tmod x1009 (4 : Int)))) : Int) ((List.getD x1007 (Int.toNat x1009) (0 : Int)) : Int) (x1009 : Int)) (fun x1042 x1043 x1044 x1045 x1046 x1047 x1048 x1049 x1050 x1051 x1052 x1053 x1054 x1055 x1056 x1057 x1058 x1059 x1060 x1061 x1062 x1063 x1064 x1065 x1066 x1067 x1068 x1069 x1070 x1071 x1072 x1073 =>
          match ((decide (x1008 < (0 : Int))) : Bool) with
          | true =>
            match ((decide ((4 : Int) = 0)) : Bool) with
            | true =>
              none
            | false =>
              match ((idx x1009 (List.length x1007)) : Bool) with
              | true =>
                match ((!((x1068 == (IntKind.i64.wrap ((1 : Int) + (Int.tmod x1009 (4 : Int))))) && ((x1069 == (List.getD x1007 (Int.toNat x1009) (0 : Int))) && (x1070 == x1009)))) : Bool) with
                | true =>
                  some (0, [⟨.bool, (false : Bool)⟩])
                | false =>
                  again (x1007 : (List Int)) (x1009 : Int) ((IntKind.i64.wrap (x1009 + (1 : Int))) : Int) (x1042 : Int) (x1043 : (List Int)) (x1044 : (List Int)) (x1045 : Int) (x1046 : Int) (x1047 : Int) (x1048 : Int) (x1049 : Bool) (x1050 : Int) (x1051 : (List Int)) (x1052 : (List Int)) (x1053 : Int) (x1054 : Int) (x1055 : Int) (x1056 : Int) (x1057 : Bool) (x1058 : Int) (x1059 : (List (Int × (Bool × (Int × Unit))))) (x1060 : (List Int)) (x1061 : (List Int)) (x1062 : (List Bool)) (x1063 : (List Bool)) (x1064 : (List (Int × (Int × (Int × (Bool × (Int × Unit))))))) (x1065 : (List (Bool × (Int × (Int × (Int × (Int × (Int × (Int × (Int × Unit)))))))))) (x1066 : (List Int)) (x1067 : (List (Int × (Int × (Int × Unit))))) (x1068 : Int) (x1069 : Int) (x1070 : Int) (x1071 : Int) (x1072 : Int) (x1073 : Int)
              | false =>
                none
          | false =>
            match ((idx x1009 (List.length x1007)) : Bool) with
            | true =>
              match ((idx x1008 (List.length x1007)) : Bool) with
              | true =>
                match ((decide ((List.getD x1007 (Int.toNat x1009) (0 : Int)) < (List.getD x1007 (Int.toNat x1008) (0 : Int)))) : Bool) with
                | true =>
                  match ((decide ((4 : Int) = 0)) : Bool) with
                  | true =>
                    none
                  | false =>
                    match ((idx x1009 (List.length x1007)) : Bool) with
                    | true =>
                      match ((!((x1068 == (IntKind.i64.wrap ((1 : Int) + (Int.tmod x1009 (4 : Int))))) && ((x1069 == (List.getD x1007 (Int.toNat x1009) (0 : Int))) && (x1070 == x1009)))) : Bool) with
                      | true =>
                        some (0, [⟨.bool, (false : Bool)⟩])
                      | false =>
                        again (x1007 : (List Int)) (x1009 : Int) ((IntKind.i64.wrap (x1009 + (1 : Int))) : Int) (x1042 : Int) (x1043 : (List Int)) (x1044 : (List Int)) (x1045 : Int) (x1046 : Int) (x1047 : Int) (x1048 : Int) (x1049 : Bool) (x1050 : Int) (x1051 : (List Int)) (x1052 : (List Int)) (x1053 : Int) (x1054 : Int) (x1055 : Int) (x1056 : Int) (x1057 : Bool) (x1058 : Int) (x1059 : (List (Int × (Bool × (Int × Unit))))) (x1060 : (List Int)) (x1061 : (List Int)) (x1062 : (List Bool)) (x1063 : (List Bool)) (x1064 : (List (Int × (Int × (Int × (Bool × (Int × Unit))))))) (x1065 : (List (Bool × (Int × (Int × (Int × (Int × (Int × (Int × (Int × Unit)))))))))) (x1066 : (List Int)) (x1067 : (List (Int × (Int × (Int × Unit))))) (x1068 : Int) (x1069 : Int) (x1070 : Int) (x1071 : Int) (x1072 : Int) (x1073 : Int)
                    | false =>
                      none
                | false =>
                  match ((decide ((4 : Int) = 0)) : Bool) with
                  | true =>
                    none
                  | false =>
                    match ((idx x1008 (List.length x1007)) : Bool) with
                    | true =>
                      match ((!((x1068 == (IntKind.i64.wrap ((1 : Int) + (Int.tmod x1008 (4 : Int))))) && ((x1069 == (List.getD x1007 (Int.toNat x1008) (0 : Int))) && (x1070 == x1008)))) : Bool) with
                      | true =>
                        some (0, [⟨.bool, (false : Bool)⟩])
                      | false =>
                        again (x1007 : (List Int)) (x1008 : Int) ((IntKind.i64.wrap (x1009 + (1 : Int))) : Int) (x1042 : Int) (x1043 : (List Int)) (x1044 : (List Int)) (x1045 : Int) (x1046 : Int) (x1047 : Int) (x1048 : Int) (x1049 : Bool) (x1050 : Int) (x1051 : (List Int)) (x1052 : (List Int)) (x1053 : Int) (x1054 : Int) (x1055 : Int) (x1056 : Int) (x1057 : Bool) (x1058 : Int) (x1059 : (List (Int × (Bool × (Int × Unit))))) (x1060 : (List Int)) (x1061 : (List Int)) (x1062 : (List Bool)) (x1063 : (List Bool)) (x1064 : (List (Int × (Int × (Int × (Bool × (Int × Unit))))))) (x1065 : (List (Bool × (Int × (Int × (Int × (Int × (Int × (Int × (Int × Unit)))))))))) (x1066 : (List Int)) (x1067 : (List (Int × (Int × (Int × Unit))))) (x1068 : Int) (x1069 : Int) (x1070 : Int) (x1071 : Int) (x1072 : Int) (x1073 : Int)
                    | false =>
                      none
              | false =>
                none
            | false =>
              none)
      | false =>
        none
  | false =>
    some (1, [])
noncomputable def l5_0 (N : Nat) : Nat → (List Int) → Int → Int → Int → (List Int) → (List Int) → Int → Int → Int → Int → Bool → Int → (List Int) → (List Int) → Int → Int → Int → Int → Bool → Int → (List (Int × (Bool × (Int × Unit)))) → (List Int) → (List Int) → (List Bool) → (List Bool) → (List (Int × (Int × (Int × (Bool × (Int × Unit)))))) → (List (Bool × (Int × (Int × (Int × (Int × (Int × (Int × (Int × Unit))))))))) → (List Int) → (List (Int × (Int × (Int × Unit)))) → Int → Int → Int → Int → Int → Int → Option Rs
  | 0, _, _, _, _, _, _, _, _, _, _, _, _, _, _, _, _, _, _, _, _, _, _, _, _, _, _, _, _, _, _, _, _, _, _, _ => none
  | n + 1, x1007, x1008, x1009, x1010, x1011, x1012, x1013, x1014, x1015, x1016, x1017, x1018, x1019, x1020, x1021, x1022, x1023, x1024, x1025, x1026, x1027, x1028, x1029, x1030, x1031, x1032, x1033, x1034, x1035, x1036, x1037, x1038, x1039, x1040, x1041 => r5_0 N (l5_0 N n) x1007 x1008 x1009 x1010 x1011 x1012 x1013 x1014 x1015 x1016 x1017 x1018 x1019 x1020 x1021 x1022 x1023 x1024 x1025 x1026 x1027 x1028 x1029 x1030 x1031 x1032 x1033 x1034 x1035 x1036 x1037 x1038 x1039 x1040 x1041
theorem on5_0_K (r : Option Rs) (K : Rs → Option Rs) (x : Rs) (h : on5_0 r (curK [.bool] fun q => K (0, q)) (curK [] fun q => K (1, q)) = some x) : ∃ q, r = some q ∧ K q = some x := by
  unfold on5_0 at h
  split at h
  · split at h
    · exact ⟨_, rfl, onG_K h⟩
    · exact ⟨_, rfl, onG_K h⟩
    · simp at h
  · simp at h
noncomputable def R5_0 (N : Nat) : (List DV → Option Rs) → List DV → Option Rs := round cx0 h5 (ctL (t5 N)) (ltL []) Go.Proofs.Try.f5.ntmps c5.i.bx.length 0 s5_0 (bodyAt Go.Proofs.Try.f5 0)
theorem r5_0_eq (N : Nat) (A : List DV → Option Rs) (x1007 : (List Int)) (x1008 : Int) (x1009 : Int) (x1010 : Int) (x1011 : (List Int)) (x1012 : (List Int)) (x1013 : Int) (x1014 : Int) (x1015 : Int) (x1016 : Int) (x1017 : Bool) (x1018 : Int) (x1019 : (List Int)) (x1020 : (List Int)) (x1021 : Int) (x1022 : Int) (x1023 : Int) (x1024 : Int) (x1025 : Bool) (x1026 : Int) (x1027 : (List (Int × (Bool × (Int × Unit))))) (x1028 : (List Int)) (x1029 : (List Int)) (x1030 : (List Bool)) (x1031 : (List Bool)) (x1032 : (List (Int × (Int × (Int × (Bool × (Int × Unit))))))) (x1033 : (List (Bool × (Int × (Int × (Int × (Int × (Int × (Int × (Int × Unit)))))))))) (x1034 : (List Int)) (x1035 : (List (Int × (Int × (Int × Unit))))) (x1036 : Int) (x1037 : Int) (x1038 : Int) (x1039 : Int) (x1040 : Int) (x1041 : Int) : R5_0 N A (⟨(.sl (.int .i64)), x1007⟩ :: ⟨(.int .i64), x1008⟩ :: ⟨(.int .i64), x1009⟩ :: ⟨(.int .i64), x1010⟩ :: ⟨(.ar 16 (.int .u32)), x1011⟩ :: ⟨(.ar 16 (.int .i64)), x1012⟩ :: ⟨(.int .i64), x1013⟩ :: ⟨(.int .i64), x1014⟩ :: ⟨(.int .i64), x1015⟩ :: ⟨(.int .i64), x1016⟩ :: ⟨.bool, x1017⟩ :: ⟨(.int .i64), x1018⟩ :: ⟨(.ar 16 (.int .u32)), x1019⟩ :: ⟨(.ar 16 (.int .i64)), x1020⟩ :: ⟨(.int .i64), x1021⟩ :: ⟨(.int .i64), x1022⟩ :: ⟨(.int .i64), x1023⟩ :: ⟨(.int .i64), x1024⟩ :: ⟨.bool, x1025⟩ :: ⟨(.int .i64), x1026⟩ :: ⟨(.sl (.pair (.int .i64) (.pair .bool (.pair (.int .u32) .unit)))), x1027⟩ :: ⟨(.sl (.int .u32)), x1028⟩ :: ⟨(.sl (.int .u32)), x1029⟩ :: ⟨(.sl .bool), x1030⟩ :: ⟨(.sl .bool), x1031⟩ :: ⟨(.sl (.pair (.int .i64) (.pair (.int .i64) (.pair (.int .i64) (.pair .bool (.pair (.int .u32) .unit)))))), x1032⟩ :: ⟨(.sl (.pair .bool (.pair (.int .i64) (.pair (.int .i64) (.pair (.int .i64) (.pair (.int .u32) (.pair (.int .i64) (.pair (.int .i64) (.pair (.int .i64) .unit))))))))), x1033⟩ :: ⟨(.sl (.int .u8)), x1034⟩ :: ⟨(.sl (.pair (.int .i64) (.pair (.int .i64) (.pair (.int .u32) .unit)))), x1035⟩ :: ⟨(.int .i64), x1036⟩ :: ⟨(.int .i64), x1037⟩ :: ⟨(.int .i64), x1038⟩ :: ⟨(.int .i64), x1039⟩ :: ⟨(.int .i64), x1040⟩ :: ⟨(.int .i64), x1041⟩ :: []) = r5_0 N (fun x1007 x1008 x1009 x1010 x1011 x1012 x1013 x1014 x1015 x1016 x1017 x1018 x1019 x1020 x1021 x1022 x1023 x1024 x1025 x1026 x1027 x1028 x1029 x1030 x1031 x1032 x1033 x1034 x1035 x1036 x1037 x1038 x1039 x1040 x1041 => A (⟨(.sl (.int .i64)), x1007⟩ :: ⟨(.int .i64), x1008⟩ :: ⟨(.int .i64), x1009⟩ :: ⟨(.int .i64), x1010⟩ :: ⟨(.ar 16 (.int .u32)), x1011⟩ :: ⟨(.ar 16 (.int .i64)), x1012⟩ :: ⟨(.int .i64), x1013⟩ :: ⟨(.int .i64), x1014⟩ :: ⟨(.int .i64), x1015⟩ :: ⟨(.int .i64), x1016⟩ :: ⟨.bool, x1017⟩ :: ⟨(.int .i64), x1018⟩ :: ⟨(.ar 16 (.int .u32)), x1019⟩ :: ⟨(.ar 16 (.int .i64)), x1020⟩ :: ⟨(.int .i64), x1021⟩ :: ⟨(.int .i64), x1022⟩ :: ⟨(.int .i64), x1023⟩ :: ⟨(.int .i64), x1024⟩ :: ⟨.bool, x1025⟩ :: ⟨(.int .i64), x1026⟩ :: ⟨(.sl (.pair (.int .i64) (.pair .bool (.pair (.int .u32) .unit)))), x1027⟩ :: ⟨(.sl (.int .u32)), x1028⟩ :: ⟨(.sl (.int .u32)), x1029⟩ :: ⟨(.sl .bool), x1030⟩ :: ⟨(.sl .bool), x1031⟩ :: ⟨(.sl (.pair (.int .i64) (.pair (.int .i64) (.pair (.int .i64) (.pair .bool (.pair (.int .u32) .unit)))))), x1032⟩ :: ⟨(.sl (.pair .bool (.pair (.int .i64) (.pair (.int .i64) (.pair (.int .i64) (.pair (.int .u32) (.pair (.int .i64) (.pair (.int .i64) (.pair (.int .i64) .unit))))))))), x1033⟩ :: ⟨(.sl (.int .u8)), x1034⟩ :: ⟨(.sl (.pair (.int .i64) (.pair (.int .i64) (.pair (.int .u32) .unit)))), x1035⟩ :: ⟨(.int .i64), x1036⟩ :: ⟨(.int .i64), x1037⟩ :: ⟨(.int .i64), x1038⟩ :: ⟨(.int .i64), x1039⟩ :: ⟨(.int .i64), x1040⟩ :: ⟨(.int .i64), x1041⟩ :: [])) x1007 x1008 x1009 x1010 x1011 x1012 x1013 x1014 x1015 x1016 x1017 x1018 x1019 x1020 x1021 x1022 x1023 x1024 x1025 x1026 x1027 x1028 x1029 x1030 x1031 x1032 x1033 x1034 x1035 x1036 x1037 x1038 x1039 x1040 x1041 := by kernel_rfl
theorem l5_0_eq (N : Nat) : ∀ (n : Nat) (x1007 : (List Int)) (x1008 : Int) (x1009 : Int) (x1010 : Int) (x1011 : (List Int)) (x1012 : (List Int)) (x1013 : Int) (x1014 : Int) (x1015 : Int) (x1016 : Int) (x1017 : Bool) (x1018 : Int) (x1019 : (List Int)) (x1020 : (List Int)) (x1021 : Int) (x1022 : Int) (x1023 : Int) (x1024 : Int) (x1025 : Bool) (x1026 : Int) (x1027 : (List (Int × (Bool × (Int × Unit))))) (x1028 : (List Int)) (x1029 : (List Int)) (x1030 : (List Bool)) (x1031 : (List Bool)) (x1032 : (List (Int × (Int × (Int × (Bool × (Int × Unit))))))) (x1033 : (List (Bool × (Int × (Int × (Int × (Int × (Int × (Int × (Int × Unit)))))))))) (x1034 : (List Int)) (x1035 : (List (Int × (Int × (Int × Unit))))) (x1036 : Int) (x1037 : Int) (x1038 : Int) (x1039 : Int) (x1040 : Int) (x1041 : Int), iter (R5_0 N) n (⟨(.sl (.int .i64)), x1007⟩ :: ⟨(.int .i64), x1008⟩ :: ⟨(.int .i64), x1009⟩ :: ⟨(.int .i64), x1010⟩ :: ⟨(.ar 16 (.int .u32)), x1011⟩ :: ⟨(.ar 16 (.int .i64)), x1012⟩ :: ⟨(.int .i64), x1013⟩ :: ⟨(.int .i64), x1014⟩ :: ⟨(.int .i64), x1015⟩ :: ⟨(.int .i64), x1016⟩ :: ⟨.bool, x1017⟩ :: ⟨(.int .i64), x1018⟩ :: ⟨(.ar 16 (.int .u32)), x1019⟩ :: ⟨(.ar 16 (.int .i64)), x1020⟩ :: ⟨(.int .i64), x1021⟩ :: ⟨(.int .i64), x1022⟩ :: ⟨(.int .i64), x1023⟩ :: ⟨(.int .i64), x1024⟩ :: ⟨.bool, x1025⟩ :: ⟨(.int .i64), x1026⟩ :: ⟨(.sl (.pair (.int .i64) (.pair .bool (.pair (.int .u32) .unit)))), x1027⟩ :: ⟨(.sl (.int .u32)), x1028⟩ :: ⟨(.sl (.int .u32)), x1029⟩ :: ⟨(.sl .bool), x1030⟩ :: ⟨(.sl .bool), x1031⟩ :: ⟨(.sl (.pair (.int .i64) (.pair (.int .i64) (.pair (.int .i64) (.pair .bool (.pair (.int .u32) .unit)))))), x1032⟩ :: ⟨(.sl (.pair .bool (.pair (.int .i64) (.pair (.int .i64) (.pair (.int .i64) (.pair (.int .u32) (.pair (.int .i64) (.pair (.int .i64) (.pair (.int .i64) .unit))))))))), x1033⟩ :: ⟨(.sl (.int .u8)), x1034⟩ :: ⟨(.sl (.pair (.int .i64) (.pair (.int .i64) (.pair (.int .u32) .unit)))), x1035⟩ :: ⟨(.int .i64), x1036⟩ :: ⟨(.int .i64), x1037⟩ :: ⟨(.int .i64), x1038⟩ :: ⟨(.int .i64), x1039⟩ :: ⟨(.int .i64), x1040⟩ :: ⟨(.int .i64), x1041⟩ :: []) = l5_0 N n x1007 x1008 x1009 x1010 x1011 x1012 x1013 x1014 x1015 x1016 x1017 x1018 x1019 x1020 x1021 x1022 x1023 x1024 x1025 x1026 x1027 x1028 x1029 x1030 x1031 x1032 x1033 x1034 x1035 x1036 x1037 x1038 x1039 x1040 x1041
  | 0, _, _, _, _, _, _, _, _, _, _, _, _, _, _, _, _, _, _, _, _, _, _, _, _, _, _, _, _, _, _, _, _, _, _, _ => rfl
  | n + 1, x1007, x1008, x1009, x1010, x1011, x1012, x1013, x1014, x1015, x1016, x1017, x1018, x1019, x1020, x1021, x1022, x1023, x1024, x1025, x1026, x1027, x1028, x1029, x1030, x1031, x1032, x1033, x1034, x1035, x1036, x1037, x1038, x1039, x1040, x1041 => (r5_0_eq N (iter (R5_0 N) n) x1007 x1008 x1009 x1010 x1011 x1012 x1013 x1014 x1015 x1016 x1017 x1018 x1019 x1020 x1021 x1022 x1023 x1024 x1025 x1026 x1027 x1028 x1029 x1030 x1031 x1032 x1033 x1034 x1035 x1036 x1037 x1038 x1039 x1040 x1041).trans (congrArg (fun A => r5_0 N A x1007 x1008 x1009 x1010 x1011 x1012 x1013 x1014 x1015 x1016 x1017 x1018 x1019 x1020 x1021 x1022 x1023 x1024 x1025 x1026 x1027 x1028 x1029 x1030 x1031 x1032 x1033 x1034 x1035 x1036 x1037 x1038 x1039 x1040 x1041) (funext fun x1007 => funext fun x1008 => funext fun x1009 => funext fun x1010 => funext fun x1011 => funext fun x1012 => funext fun x1013 => funext fun x1014 => funext fun x1015 => funext fun x1016 => funext fun x1017 => funext fun x1018 => funext fun x1019 => funext fun x1020 => funext fun x1021 => funext fun x1022 => funext fun x1023 => funext fun x1024 => funext fun x1025 => funext fun x1026 => funext fun x1027 => funext fun x1028 => funext fun x1029 => funext fun x1030 => funext fun x1031 => funext fun x1032 => funext fun x1033 => funext fun x1034 => funext fun x1035 => funext fun x1036 => funext fun x1037 => funext fun x1038 => funext fun x1039 => funext fun x1040 => funext fun x1041 => l5_0_eq N n x1007 x1008 x1009 x1010 x1011 x1012 x1013 x1014 x1015 x1016 x1017 x1018 x1019 x1020 x1021 x1022 x1023 x1024 x1025 x1026 x1027 x1028 x1029 x1030 x1031 x1032 x1033 x1034 x1035 x1036 x1037 x1038 x1039 x1040 x1041))
noncomputable def x5_0 (N : Nat) : List DV → (Rs → Option Rs) → Option Rs := mkL ((.sl (.int .i64)) :: (.int .i64) :: (.int .i64) :: (.int .i64) :: (.ar 16 (.int .u32)) :: (.ar 16 (.int .i64)) :: (.int .i64) :: (.int .i64) :: (.int .i64) :: (.int .i64) :: .bool :: (.int .i64) :: (.ar 16 (.int .u32)) :: (.ar 16 (.int .i64)) :: (.int .i64) :: (.int .i64) :: (.int .i64) :: (.int .i64) :: .bool :: (.int .i64) :: (.sl (.pair (.int .i64) (.pair .bool (.pair (.int .u32) .unit)))) :: (.sl (.int .u32)) :: (.sl (.int .u32)) :: (.sl .bool) :: (.sl .bool) :: (.sl (.pair (.int .i64) (.pair (.int .i64) (.pair (.int .i64) (.pair .bool (.pair (.int .u32) .unit)))))) :: (.sl (.pair .bool (.pair (.int .i64) (.pair (.int .i64) (.pair (.int .i64) (.pair (.int .u32) (.pair (.int .i64) (.pair (.int .i64) (.pair (.int .i64) .unit))))))))) :: (.sl (.int .u8)) :: (.sl (.pair (.int .i64) (.pair (.int .i64) (.pair (.int .u32) .unit)))) :: (.int .i64) :: (.int .i64) :: (.int .i64) :: (.int .i64) :: (.int .i64) :: (.int .i64) :: []) (l5_0 N N) fun r K => on5_0 r (curK [.bool] fun q => K (0, q)) (curK [] fun q => K (1, q))
theorem x5_0_ok (N : Nat) : LEok Go.Proofs.Try.prog h5 (bodOf Go.Proofs.Try.f5) Go.Proofs.Try.f5.ntmps c5.i.bx.length (0, x5_0 N) :=
  mkL_ok on5_0_K (ls := s5_0) (body := bodyAt Go.Proofs.Try.f5 0) (by kernel_rfl) (by kernel_rfl) fun ys q h =>
    loop_ok (l := t5 N) (t := []) ti_ok hmix (t5_ok N) (a5 N) fn5 trivial (by kernel_rfl) (by kernel_rfl) (n := N) ((l5_0_eq N N ys.1 ys.2.1 ys.2.2.1 ys.2.2.2.1 ys.2.2.2.2.1 ys.2.2.2.2.2.1 ys.2.2.2.2.2.2.1 ys.2.2.2.2.2.2.2.1 ys.2.2.2.2.2.2.2.2.1 ys.2.2.2.2.2.2.2.2.2.1 ys.2.2.2.2.2.2.2.2.2.2.1 ys.2.2.2.2.2.2.2.2.2.2.2.1 ys.2.2.2.2.2.2.2.2.2.2.2.2.1 ys.2.2.2.2.2.2.2.2.2.2.2.2.2.1 ys.2.2.2.2.2.2.2.2.2.2.2.2.2.2.1 ys.2.2.2.2.2.2.2.2.2.2.2.2.2.2.2.1 ys.2.2.2.2.2.2.2.2.2.2.2.2.2.2.2.2.1 ys.2.2.2.2.2.2.2.2.2.2.2.2.2.2.2.2.2.1 ys.2.2.2.2.2.2.2.2.2.2.2.2.2.2.2.2.2.2.1 ys.2.2.2.2.2.2.2.2.2.2.2.2.2.2.2.2.2.2.2.1 ys.2.2.2.2.2.2.2.2.2.2.2.2.2.2.2.2.2.2.2.2.1 ys.2.2.2.2.2.2.2.2.2.2.2.2.2.2.2.2.2.2.2.2.2.1 ys.2.2.2.2.2.2.2.2.2.2.2.2.2.2.2.2.2.2.2.2.2.2.1 ys.2.2.2.2.2.2.2.2.2.2.2.2.2.2.2.2.2.2.2.2.2.2.2.1 ys.2.2.2.2.2.2.2.2.2.2.2.2.2.2.2.2.2.2.2.2.2.2.2.2.1 ys.2.2.2.2.2.2.2.2.2.2.2.2.2.2.2.2.2.2.2.2.2.2.2.2.2.1 ys.2.2.2.2.2.2.2.2.2.2.2.2.2.2.2.2.2.2.2.2.2.2.2.2.2.2.1 ys.2.2.2.2.2.2.2.2.2.2.2.2.2.2.2.2.2.2.2.2.2.2.2.2.2.2.2.1 ys.2.2.2.2.2.2.2.2.2.2.2.2.2.2.2.2.2.2.2.2.2.2.2.2.2.2.2.2.1 ys.2.2.2.2.2.2.2.2.2.2.2.2.2.2.2.2.2.2.2.2.2.2.2.2.2.2.2.2.2.1 ys.2.2.2.2.2.2.2.2.2.2.2.2.2.2.2.2.2.2.2.2.2.2.2.2.2.2.2.2.2.2.1 ys.2.2.2.2.2.2.2.2.2.2.2.2.2.2.2.2.2.2.2.2.2.2.2.2.2.2.2.2.2.2.2.1 ys.2.2.2.2.2.2.2.2.2.2.2.2.2.2.2.2.2.2.2.2.2.2.2.2.2.2.2.2.2.2.2.2.1 ys.2.2.2.2.2.2.2.2.2.2.2.2.2.2.2.2.2.2.2.2.2.2.2.2.2.2.2.2.2.2.2.2.2.1 ys.2.2.2.2.2.2.2.2.2.2.2.2.2.2.2.2.2.2.2.2.2.2.2.2.2.2.2.2.2.2.2.2.2.2.1).trans h)
noncomputable def on5 {R : Type} (r : Option Rs) (k : Cur (Option R) [.bool]) : Option R := onR [.bool] r k
noncomputable def e5 (N : Nat) (x1005 : (List Int)) : Option Rs :=
  on17 (e17 N ) (fun x1006 =>
    match ((!x1006) : Bool) with
    | true =>
      some (0, [⟨.bool, (x1006 : Bool)⟩])
    | false =>
      match ((decide (((List.length x1005 : Nat) : Int) > (40 : Int))) : Bool) with
      | true =>
        some (0, [⟨.bool, (x1006 : Bool)⟩])
      | false =>
        on5_0 (l5_0 N N (x1005 : (List Int)) ((-1 : Int) : Int) ((0 : Int) : Int) ((0 : Int) : Int) ((List.replicate 16 (0 : Int)) : (List Int)) ((List.replicate 16 (0 : Int)) : (List Int)) ((0 : Int) : Int) ((0 : Int) : Int) ((0 : Int) : Int) ((0 : Int) : Int) (false : Bool) ((0 : Int) : Int) ((List.replicate 16 (0 : Int)) : (List Int)) ((List.replicate 16 (0 : Int)) : (List Int)) ((0 : Int) : Int) ((0 : Int) : Int) ((0 : Int) : Int) ((0 : Int) : Int) (false : Bool) ((0 : Int) : Int) (([] : List (Int × (Bool × (Int × Unit)))) : (List (Int × (Bool × (Int × Unit))))) (([] : List Int) : (List Int)) (([] : List Int) : (List Int)) (([] : List Bool) : (List Bool)) (([] : List Bool) : (List Bool)) (([] : List (Int × (Int × (Int × (Bool × (Int × Unit)))))) : (List (Int × (Int × (Int × (Bool × (Int × Unit))))))) (([] : List (Bool × (Int × (Int × (Int × (Int × (Int × (Int × (Int × Unit))))))))) : (List (Bool × (Int × (Int × (Int × (Int × (Int × (Int × (Int × Unit)))))))))) (([] : List Int) : (List Int)) (([] : List (Int × (Int × (Int × Unit)))) : (List (Int × (Int × (Int × Unit))))) ((0 : Int) : Int) ((0 : Int) : Int) ((0 : Int) : Int) ((0 : Int) : Int) ((0 : Int) : Int) ((0 : Int) : Int)) (fun x1074 =>
          some (0, [⟨.bool, (x1074 : Bool)⟩])) (
          some (0, [⟨.bool, (true : Bool)⟩])))
theorem k5 (N : Nat) (x1005 : (List Int)) : den cx0 h5 (ctL (t5 N)) (ltL [(0, x5_0 N)]) Go.Proofs.Try.f5 (codeOf Go.Proofs.Try.f5) c5.i c5.r c5.ob [⟨(.sl (.int .i64)), x1005⟩] = e5 N x1005 := by kernel_rfl
theorem c5_ok (N : Nat) (x1005 : (List Int)) (n0 : Nat) (q : List DV) (h : e5 N x1005 = some (n0, q)) : CallOK Go.Proofs.Try.prog c5 [⟨(.sl (.int .i64)), x1005⟩] q :=
  fn_ok (l := t5 N) (t := [(0, x5_0 N)]) ti_ok hmix (t5_ok N) (a5 N) fn5 (by kernel_rfl) (by kernel_rfl) ⟨x5_0_ok N, trivial⟩ ((k5 N x1005).trans h)
noncomputable def x5 (N : Nat) : List DV → (List DV → Option Rs) → Option Rs := mkX [(.sl (.int .i64))] [.bool] (e5 N)
theorem x5_ok (N : Nat) : CEok Go.Proofs.Try.prog (c5, x5 N) := mkX_ok fun ys n q h => c5_ok N ys.1 n q h
end Go.Proofs.Zz
