import Derived.Test.YtnhgipdlkcdeiaaDoorEnhL
import Derived.KernelRfl
import Derived.Test.YtnhgipdlkcdeiaaDoorProg
set_option linter.unusedSimpArgs false
set_option linter.unusedVariables false
/- The types of the program. -/
set_option maxRecDepth 100000
namespace Go.Proofs.Zs
open Go
@[reducible] noncomputable def Q : Program := Go.Proofs.Tryd.prog
abbrev api_Ins : Type := Int × Int × Int × Int × Int × Unit
abbrev t_api_Ins : Ty := .pair tI (.pair tI (.pair tI (.pair tI (.pair tI .unit))))
abbrev api_Ins.z : api_Ins := (0, (0, (0, (0, (0, ())))))
noncomputable def g_api_Ins : Gp api_Ins := ⟨[tI, tI, tI, tI, tI], fun y => (y.1, (y.2.1, (y.2.2.1, (y.2.2.2.1, (y.2.2.2.2.1, ()))))), fun a => (a.1, a.2.1, a.2.2.1, a.2.2.2.1, a.2.2.2.2.1, ()), fun _ => rfl, fun _ => rfl, fun a q => ⟨tI, a.1⟩ :: ⟨tI, a.2.1⟩ :: ⟨tI, a.2.2.1⟩ :: ⟨tI, a.2.2.2.1⟩ :: ⟨tI, a.2.2.2.2.1⟩ :: q, fun p k => Zs.un tI p fun b0 p => Zs.un tI p fun b1 p => Zs.un tI p fun b2 p => Zs.un tI p fun b3 p => Zs.un tI p fun b4 p => k (b0, (b1, (b2, (b3, (b4, ()))))) p, fun _ _ => rfl, fun _ _ => rfl⟩
@[reducible] noncomputable def p_api_Ins : PG := ⟨api_Ins, g_api_Ins⟩
abbrev api_Token : Type := Int × Int × Int × ByteArray × Unit
abbrev t_api_Token : Ty := .pair tI (.pair tI (.pair tI (.pair tS .unit)))
abbrev api_Token.z : api_Token := (0, (0, (0, (ByteArray.empty, ()))))
noncomputable def g_api_Token : Gp api_Token := ⟨[tI, tI, tI, tS], fun y => (y.1, (y.2.1, (y.2.2.1, (y.2.2.2.1, ())))), fun a => (a.1, a.2.1, a.2.2.1, a.2.2.2.1, ()), fun _ => rfl, fun _ => rfl, fun a q => ⟨tI, a.1⟩ :: ⟨tI, a.2.1⟩ :: ⟨tI, a.2.2.1⟩ :: ⟨tS, a.2.2.2.1⟩ :: q, fun p k => Zs.un tI p fun b0 p => Zs.un tI p fun b1 p => Zs.un tI p fun b2 p => Zs.un tS p fun b3 p => k (b0, (b1, (b2, (b3, ())))) p, fun _ _ => rfl, fun _ _ => rfl⟩
@[reducible] noncomputable def p_api_Token : PG := ⟨api_Token, g_api_Token⟩
abbrev r7_item : Type := Int × Int × ByteArray × api_Ins × ByteArray × Int × (List Int) × (List Int) × Unit
abbrev t_r7_item : Ty := .pair tI (.pair tI (.pair tS (.pair t_api_Ins (.pair tS (.pair tI (.pair (.sl tI) (.pair (.sl tI) .unit)))))))
abbrev r7_item.z : r7_item := (0, (0, (ByteArray.empty, ((0, (0, (0, (0, (0, ()))))), (ByteArray.empty, (0, (([] : (List Int)), (([] : (List Int)), ()))))))))
noncomputable def g_r7_item : Gp r7_item := ⟨[tI, tI, tS, tI, tI, tI, tI, tI, tS, tI, (.sl tI), (.sl tI)], fun y => (y.1, (y.2.1, (y.2.2.1, ((y.2.2.2.1, (y.2.2.2.2.1, (y.2.2.2.2.2.1, (y.2.2.2.2.2.2.1, (y.2.2.2.2.2.2.2.1, ()))))), (y.2.2.2.2.2.2.2.2.1, (y.2.2.2.2.2.2.2.2.2.1, (y.2.2.2.2.2.2.2.2.2.2.1, (y.2.2.2.2.2.2.2.2.2.2.2.1, ())))))))), fun a => (a.1, a.2.1, a.2.2.1, a.2.2.2.1.1, a.2.2.2.1.2.1, a.2.2.2.1.2.2.1, a.2.2.2.1.2.2.2.1, a.2.2.2.1.2.2.2.2.1, a.2.2.2.2.1, a.2.2.2.2.2.1, a.2.2.2.2.2.2.1, a.2.2.2.2.2.2.2.1, ()), fun _ => rfl, fun _ => rfl, fun a q => ⟨tI, a.1⟩ :: ⟨tI, a.2.1⟩ :: ⟨tS, a.2.2.1⟩ :: ⟨tI, a.2.2.2.1.1⟩ :: ⟨tI, a.2.2.2.1.2.1⟩ :: ⟨tI, a.2.2.2.1.2.2.1⟩ :: ⟨tI, a.2.2.2.1.2.2.2.1⟩ :: ⟨tI, a.2.2.2.1.2.2.2.2.1⟩ :: ⟨tS, a.2.2.2.2.1⟩ :: ⟨tI, a.2.2.2.2.2.1⟩ :: ⟨(.sl tI), a.2.2.2.2.2.2.1⟩ :: ⟨(.sl tI), a.2.2.2.2.2.2.2.1⟩ :: q, fun p k => Zs.un tI p fun b0 p => Zs.un tI p fun b1 p => Zs.un tS p fun b2 p => Zs.un tI p fun b3 p => Zs.un tI p fun b4 p => Zs.un tI p fun b5 p => Zs.un tI p fun b6 p => Zs.un tI p fun b7 p => Zs.un tS p fun b8 p => Zs.un tI p fun b9 p => Zs.un (.sl tI) p fun b10 p => Zs.un (.sl tI) p fun b11 p => k (b0, (b1, (b2, ((b3, (b4, (b5, (b6, (b7, ()))))), (b8, (b9, (b10, (b11, ())))))))) p, fun _ _ => rfl, fun _ _ => rfl⟩
@[reducible] noncomputable def p_r7_item : PG := ⟨r7_item, g_r7_item⟩
abbrev r7_point : Type := Int × Int × Int × Bool × Unit
abbrev t_r7_point : Ty := .pair (.int .i32) (.pair tI (.pair tI (.pair tB .unit)))
abbrev r7_point.z : r7_point := (0, (0, (0, (false, ()))))
noncomputable def g_r7_point : Gp r7_point := ⟨[(.int .i32), tI, tI, tB], fun y => (y.1, (y.2.1, (y.2.2.1, (y.2.2.2.1, ())))), fun a => (a.1, a.2.1, a.2.2.1, a.2.2.2.1, ()), fun _ => rfl, fun _ => rfl, fun a q => ⟨(.int .i32), a.1⟩ :: ⟨tI, a.2.1⟩ :: ⟨tI, a.2.2.1⟩ :: ⟨tB, a.2.2.2.1⟩ :: q, fun p k => Zs.un (.int .i32) p fun b0 p => Zs.un tI p fun b1 p => Zs.un tI p fun b2 p => Zs.un tB p fun b3 p => k (b0, (b1, (b2, (b3, ())))) p, fun _ _ => rfl, fun _ _ => rfl⟩
@[reducible] noncomputable def p_r7_point : PG := ⟨r7_point, g_r7_point⟩
abbrev asm_line : Type := api_Ins × Int × ByteArray × Int × Unit
abbrev t_asm_line : Ty := .pair t_api_Ins (.pair tI (.pair tS (.pair tI .unit)))
abbrev asm_line.z : asm_line := ((0, (0, (0, (0, (0, ()))))), (0, (ByteArray.empty, (0, ()))))
noncomputable def g_asm_line : Gp asm_line := ⟨[tI, tI, tI, tI, tI, tI, tS, tI], fun y => ((y.1, (y.2.1, (y.2.2.1, (y.2.2.2.1, (y.2.2.2.2.1, ()))))), (y.2.2.2.2.2.1, (y.2.2.2.2.2.2.1, (y.2.2.2.2.2.2.2.1, ())))), fun a => (a.1.1, a.1.2.1, a.1.2.2.1, a.1.2.2.2.1, a.1.2.2.2.2.1, a.2.1, a.2.2.1, a.2.2.2.1, ()), fun _ => rfl, fun _ => rfl, fun a q => ⟨tI, a.1.1⟩ :: ⟨tI, a.1.2.1⟩ :: ⟨tI, a.1.2.2.1⟩ :: ⟨tI, a.1.2.2.2.1⟩ :: ⟨tI, a.1.2.2.2.2.1⟩ :: ⟨tI, a.2.1⟩ :: ⟨tS, a.2.2.1⟩ :: ⟨tI, a.2.2.2.1⟩ :: q, fun p k => Zs.un tI p fun b0 p => Zs.un tI p fun b1 p => Zs.un tI p fun b2 p => Zs.un tI p fun b3 p => Zs.un tI p fun b4 p => Zs.un tI p fun b5 p => Zs.un tS p fun b6 p => Zs.un tI p fun b7 p => k ((b0, (b1, (b2, (b3, (b4, ()))))), (b5, (b6, (b7, ())))) p, fun _ _ => rfl, fun _ _ => rfl⟩
@[reducible] noncomputable def p_asm_line : PG := ⟨asm_line, g_asm_line⟩
abbrev unicode_Range16 : Type := Int × Int × Int × Unit
abbrev t_unicode_Range16 : Ty := .pair (.int .u16) (.pair (.int .u16) (.pair (.int .u16) .unit))
abbrev unicode_Range16.z : unicode_Range16 := (0, (0, (0, ())))
noncomputable def g_unicode_Range16 : Gp unicode_Range16 := ⟨[(.int .u16), (.int .u16), (.int .u16)], fun y => (y.1, (y.2.1, (y.2.2.1, ()))), fun a => (a.1, a.2.1, a.2.2.1, ()), fun _ => rfl, fun _ => rfl, fun a q => ⟨(.int .u16), a.1⟩ :: ⟨(.int .u16), a.2.1⟩ :: ⟨(.int .u16), a.2.2.1⟩ :: q, fun p k => Zs.un (.int .u16) p fun b0 p => Zs.un (.int .u16) p fun b1 p => Zs.un (.int .u16) p fun b2 p => k (b0, (b1, (b2, ()))) p, fun _ _ => rfl, fun _ _ => rfl⟩
@[reducible] noncomputable def p_unicode_Range16 : PG := ⟨unicode_Range16, g_unicode_Range16⟩
abbrev unicode_Range32 : Type := Int × Int × Int × Unit
abbrev t_unicode_Range32 : Ty := .pair tW (.pair tW (.pair tW .unit))
abbrev unicode_Range32.z : unicode_Range32 := (0, (0, (0, ())))
noncomputable def g_unicode_Range32 : Gp unicode_Range32 := ⟨[tW, tW, tW], fun y => (y.1, (y.2.1, (y.2.2.1, ()))), fun a => (a.1, a.2.1, a.2.2.1, ()), fun _ => rfl, fun _ => rfl, fun a q => ⟨tW, a.1⟩ :: ⟨tW, a.2.1⟩ :: ⟨tW, a.2.2.1⟩ :: q, fun p k => Zs.un tW p fun b0 p => Zs.un tW p fun b1 p => Zs.un tW p fun b2 p => k (b0, (b1, (b2, ()))) p, fun _ _ => rfl, fun _ _ => rfl⟩
@[reducible] noncomputable def p_unicode_Range32 : PG := ⟨unicode_Range32, g_unicode_Range32⟩
@[ext] structure api_Cell where
  Kind : Int
  Ins : api_Ins
  Reg : Int
  Pc : Int
  Off : Int
def api_Cell.z : api_Cell := ⟨0, api_Ins.z, 0, 0, 0⟩
noncomputable def g_api_Cell : Gp api_Cell := ⟨[tI, tI, tI, tI, tI, tI, tI, tI, tI], fun y => ⟨y.1, (y.2.1, (y.2.2.1, (y.2.2.2.1, (y.2.2.2.2.1, (y.2.2.2.2.2.1, ()))))), y.2.2.2.2.2.2.1, y.2.2.2.2.2.2.2.1, y.2.2.2.2.2.2.2.2.1⟩, fun a => (a.Kind, a.Ins.1, a.Ins.2.1, a.Ins.2.2.1, a.Ins.2.2.2.1, a.Ins.2.2.2.2.1, a.Reg, a.Pc, a.Off, ()), fun _ => rfl, fun _ => rfl, fun a q => ⟨tI, a.Kind⟩ :: ⟨tI, a.Ins.1⟩ :: ⟨tI, a.Ins.2.1⟩ :: ⟨tI, a.Ins.2.2.1⟩ :: ⟨tI, a.Ins.2.2.2.1⟩ :: ⟨tI, a.Ins.2.2.2.2.1⟩ :: ⟨tI, a.Reg⟩ :: ⟨tI, a.Pc⟩ :: ⟨tI, a.Off⟩ :: q, fun p k => Zs.un tI p fun b0 p => Zs.un tI p fun b1 p => Zs.un tI p fun b2 p => Zs.un tI p fun b3 p => Zs.un tI p fun b4 p => Zs.un tI p fun b5 p => Zs.un tI p fun b6 p => Zs.un tI p fun b7 p => Zs.un tI p fun b8 p => k ⟨b0, (b1, (b2, (b3, (b4, (b5, ()))))), b6, b7, b8⟩ p, fun _ _ => rfl, fun _ _ => rfl⟩
@[reducible] noncomputable def p_api_Cell : PG := ⟨api_Cell, g_api_Cell⟩
def w_0 : ByteArray := bs [97, 100, 100, 32, 115, 117, 98, 32, 97, 110, 100, 32, 111, 114, 32, 120, 111, 114, 32, 115, 108, 108, 32, 115, 114, 108, 32, 115, 114, 97, 32, 115, 108, 116, 32, 115, 108, 116, 117, 32, 109, 117, 108, 32, 109, 117, 108, 104, 32, 100, 105, 118, 32, 100, 105, 118, 117, 32, 114, 101, 109, 32, 114, 101, 109, 117, 32, 97, 100, 100, 105, 32, 97, 110, 100, 105, 32, 111, 114, 105, 32, 120, 111, 114, 105, 32, 115, 108, 116, 105, 32, 115, 108, 108, 105, 32, 115, 114, 108, 105, 32, 115, 114, 97, 105, 32, 108, 117, 105, 32, 108, 119, 32, 108, 104, 32, 108, 104, 117, 32, 108, 98, 32, 108, 98, 117, 32, 115, 119, 32, 115, 104, 32, 115, 98, 32, 98, 101, 113, 32, 98, 110, 101, 32, 98, 108, 116, 32, 98, 103, 101, 32, 98, 108, 116, 117, 32, 98, 103, 101, 117, 32, 106, 32, 104, 97, 108, 116, 32]
abbrev q_0 : List LK := [.d tI, .d tI, .d tI, .d tI, .d tI, .d tI, .d tI, .d tI, .d tI]
def tis : List (Option TI) := [
  none,
  none,
  none,
  some { td := .int .i64, lay := [1], zk := [.d (.int .i64)] },
  some { td := .bool, lay := [1], zk := [.d .bool] },
  none,
  none,
  none,
  none,
  some { td := .str, lay := [1], zk := [.d .str] },
  none,
  none,
  none,
  none,
  none,
  none,
  none,
  none,
  none,
  none,
  none,
  some { td := .int .i32, lay := [1], zk := [.d (.int .i32)] },
  none,
  some { td := .struct, lay := [1, 1, 1, 1, 1], fl := [(0, [1]), (1, [1]), (2, [1]), (3, [1]), (4, [1])], fg := [false, false, false, false, false], zk := [.d (.int .i64), .d (.int .i64), .d (.int .i64), .d (.int .i64), .d (.int .i64)], eqt := some [(.int .i64), (.int .i64), (.int .i64), (.int .i64), (.int .i64)] },
  none,
  none,
  none,
  none,
  none,
  some { td := .struct, lay := [1, 1, 1, 1, 1, 1, 1, 1, 1], fl := [(0, [1]), (1, [1, 1, 1, 1, 1]), (6, [1]), (7, [1]), (8, [1])], fg := [false, true, false, false, false], zk := [.d (.int .i64), .d (.int .i64), .d (.int .i64), .d (.int .i64), .d (.int .i64), .d (.int .i64), .d (.int .i64), .d (.int .i64), .d (.int .i64)], eqt := some [(.int .i64), (.int .i64), (.int .i64), (.int .i64), (.int .i64), (.int .i64), (.int .i64), (.int .i64), (.int .i64)] },
  none,
  none,
  none,
  none,
  none,
  none,
  none,
  none,
  none,
  none,
  none,
  none,
  none,
  none,
  none,
  none,
  none,
  none,
  none,
  none,
  none,
  none,
  some { td := .slice, lay := [1], ety := .str, eby := 16, zk := [.nils] },
  none,
  none,
  none,
  none,
  none,
  none,
  none,
  none,
  none,
  none,
  none,
  none,
  none,
  none,
  none,
  none,
  none,
  none,
  none,
  none,
  none,
  none,
  none,
  none,
  none,
  none,
  none,
  none,
  none,
  none,
  none,
  none,
  none,
  none,
  none,
  none,
  none,
  none,
  none,
  none,
  none,
  none,
  none,
  none,
  none,
  none,
  none,
  none,
  none,
  none,
  none,
  none,
  none,
  none,
  none,
  none,
  none,
  none,
  none,
  none,
  none,
  none,
  none,
  none,
  none,
  none,
  none,
  none,
  none,
  none,
  none,
  none,
  none,
  none,
  none,
  none,
  none,
  none,
  none,
  none,
  none,
  none,
  none,
  none,
  none,
  none,
  none,
  none,
  none,
  none,
  none,
  none,
  none,
  none,
  none,
  none,
  none,
  none,
  none,
  none,
  none,
  none,
  none,
  none,
  none,
  none,
  none,
  none,
  none,
  none,
  none,
  none,
  none,
  none,
  none,
  none,
  none,
  none,
  none,
  none,
  none,
  none,
  none,
  none,
  none,
  none,
  none,
  none,
  none,
  none,
  none,
  none,
  none,
  none,
  none,
  none,
  none,
  none,
  none,
  none,
  none,
  none,
  none,
  none,
  none,
  none,
  none,
  none,
  none,
  none,
  none,
  none,
  none,
  none,
  none,
  none,
  none,
  none]
def cx0 : Cx := { ti := fun t => nthD none tis t }
theorem tis_ok : chkAll Go.Proofs.Tryd.prog tis 0 = true := by kernel_rfl
theorem ti_ok : TIok Go.Proofs.Tryd.prog cx0 := TIok_of tis_ok
theorem hmix : Go.Proofs.Tryd.prog.follows .mixedOrders = true := by kernel_rfl
end Go.Proofs.Zs
