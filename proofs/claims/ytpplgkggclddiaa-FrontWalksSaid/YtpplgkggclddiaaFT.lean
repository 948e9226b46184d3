import Derived.Test.YtpplgkggclddiaaEnhS
import Derived.KernelRfl
import Derived.Test.YtpplgkggclddiaaProg
set_option linter.unusedSimpArgs false
set_option linter.unusedVariables false
/- The types of the program. -/
set_option maxRecDepth 100000
namespace Go.Proofs.Zz
noncomputable section
open Go
@[reducible] noncomputable def Q:Program:=Go.Proofs.Try.prog
abbrev api_Ins:Type:=Int × Int × Int × Int × Int × Unit
abbrev t_api_Ins:Ty:=.pair tI (.pair tI (.pair tI (.pair tI (.pair tI .unit))))
abbrev api_Ins.z:api_Ins:=(0,(0,(0,(0,(0,())))))
def g_api_Ins:Gp api_Ins:=⟨[tI,tI,tI,tI,tI],fun y=>(y.1,(y.2.1,(y.2.2.1,(y.2.2.2.1,(y.2.2.2.2.1,()))))),fun a=>(a.1,a.2.1,a.2.2.1,a.2.2.2.1,a.2.2.2.2.1,()),fun _=>rfl,fun _=>rfl,fun a q=>⟨tI,a.1⟩::⟨tI,a.2.1⟩::⟨tI,a.2.2.1⟩::⟨tI,a.2.2.2.1⟩::⟨tI,a.2.2.2.2.1⟩::q,fun p k=>Zz.un tI p fun b0 p=>Zz.un tI p fun b1 p=>Zz.un tI p fun b2 p=>Zz.un tI p fun b3 p=>Zz.un tI p fun b4 p=>k (b0,(b1,(b2,(b3,(b4,()))))) p,fun _ _=>rfl,fun _ _=>rfl⟩
@[reducible] noncomputable def p_api_Ins:PG:=⟨api_Ins,g_api_Ins⟩
abbrev api_Cell:Type:=Int × api_Ins × Int × Int × Int × Unit
abbrev t_api_Cell:Ty:=.pair tI (.pair t_api_Ins (.pair tI (.pair tI (.pair tI .unit))))
abbrev api_Cell.z:api_Cell:=(0,((0,(0,(0,(0,(0,()))))),(0,(0,(0,())))))
def g_api_Cell:Gp api_Cell:=⟨[tI,tI,tI,tI,tI,tI,tI,tI,tI],fun y=>(y.1,((y.2.1,(y.2.2.1,(y.2.2.2.1,(y.2.2.2.2.1,(y.2.2.2.2.2.1,()))))),(y.2.2.2.2.2.2.1,(y.2.2.2.2.2.2.2.1,(y.2.2.2.2.2.2.2.2.1,()))))),fun a=>(a.1,a.2.1.1,a.2.1.2.1,a.2.1.2.2.1,a.2.1.2.2.2.1,a.2.1.2.2.2.2.1,a.2.2.1,a.2.2.2.1,a.2.2.2.2.1,()),fun _=>rfl,fun _=>rfl,fun a q=>⟨tI,a.1⟩::⟨tI,a.2.1.1⟩::⟨tI,a.2.1.2.1⟩::⟨tI,a.2.1.2.2.1⟩::⟨tI,a.2.1.2.2.2.1⟩::⟨tI,a.2.1.2.2.2.2.1⟩::⟨tI,a.2.2.1⟩::⟨tI,a.2.2.2.1⟩::⟨tI,a.2.2.2.2.1⟩::q,fun p k=>Zz.un tI p fun b0 p=>Zz.un tI p fun b1 p=>Zz.un tI p fun b2 p=>Zz.un tI p fun b3 p=>Zz.un tI p fun b4 p=>Zz.un tI p fun b5 p=>Zz.un tI p fun b6 p=>Zz.un tI p fun b7 p=>Zz.un tI p fun b8 p=>k (b0,((b1,(b2,(b3,(b4,(b5,()))))),(b6,(b7,(b8,()))))) p,fun _ _=>rfl,fun _ _=>rfl⟩
@[reducible] noncomputable def p_api_Cell:PG:=⟨api_Cell,g_api_Cell⟩
abbrev api_Block:Type:=Int × Int × Int × Int × (List api_Cell) × (List api_Cell) × Unit
abbrev t_api_Block:Ty:=.pair tI (.pair tI (.pair tI (.pair tI (.pair (.sl t_api_Cell) (.pair (.sl t_api_Cell) .unit)))))
abbrev api_Block.z:api_Block:=(0,(0,(0,(0,(([]:(List (Int × ((Int × (Int × (Int × (Int × (Int × Unit))))) × (Int × (Int × (Int × Unit))))))),(([]:(List (Int × ((Int × (Int × (Int × (Int × (Int × Unit))))) × (Int × (Int × (Int × Unit))))))),()))))))
abbrev api_Write:Type:=Int × Int × Int × Unit
abbrev t_api_Write:Ty:=.pair tI (.pair tI (.pair tW .unit))
abbrev api_Write.z:api_Write:=(0,(0,(0,())))
def g_api_Write:Gp api_Write:=⟨[tI,tI,tW],fun y=>(y.1,(y.2.1,(y.2.2.1,()))),fun a=>(a.1,a.2.1,a.2.2.1,()),fun _=>rfl,fun _=>rfl,fun a q=>⟨tI,a.1⟩::⟨tI,a.2.1⟩::⟨tW,a.2.2.1⟩::q,fun p k=>Zz.un tI p fun b0 p=>Zz.un tI p fun b1 p=>Zz.un tW p fun b2 p=>k (b0,(b1,(b2,()))) p,fun _ _=>rfl,fun _ _=>rfl⟩
@[reducible] noncomputable def p_api_Write:PG:=⟨api_Write,g_api_Write⟩
abbrev api_Slot:Type:=Int × Bool × Int × Unit
abbrev api_Slot.z:api_Slot:=(0,(false,(0,())))
abbrev api_Entry:Type:=Int × Int × Int × Bool × Int × Unit
abbrev api_Entry.z:api_Entry:=(0,(0,(0,(false,(0,())))))
abbrev api_Request:Type:=Bool × Int × Int × Int × Int × Int × Int × Int × Unit
abbrev api_Request.z:api_Request:=(false,(0,(0,(0,(0,(0,(0,(0,()))))))))
@[ext] structure api_Program where
 Code:List api_Ins
 Size:Int
 Data:List Int
def api_Program.z:api_Program:=⟨([]:(List (Int × (Int × (Int × (Int × (Int × Unit))))))),0,([]:(List Int))⟩
def g_api_Program:Gp api_Program:=⟨[(.sl t_api_Ins),tI,(.sl tU)],fun y=>⟨y.1,y.2.1,y.2.2.1⟩,fun a=>(a.Code,a.Size,a.Data,()),fun _=>rfl,fun _=>rfl,fun a q=>⟨(.sl t_api_Ins),a.Code⟩::⟨tI,a.Size⟩::⟨(.sl tU),a.Data⟩::q,fun p k=>Zz.un (.sl t_api_Ins) p fun b0 p=>Zz.un tI p fun b1 p=>Zz.un (.sl tU) p fun b2 p=>k ⟨b0,b1,b2⟩ p,fun _ _=>rfl,fun _ _=>rfl⟩
@[reducible] noncomputable def p_api_Program:PG:=⟨api_Program,g_api_Program⟩
@[ext] structure r10_maker where
 Pc:Int
 Off:Int
 L:List api_Cell
def r10_maker.z:r10_maker:=⟨0,0,([]:(List (Int × ((Int × (Int × (Int × (Int × (Int × Unit))))) × (Int × (Int × (Int × Unit)))))))⟩
def g_r10_maker:Gp r10_maker:=⟨[tI,tI,(.sl t_api_Cell)],fun y=>⟨y.1,y.2.1,y.2.2.1⟩,fun a=>(a.Pc,a.Off,a.L,()),fun _=>rfl,fun _=>rfl,fun a q=>⟨tI,a.Pc⟩::⟨tI,a.Off⟩::⟨(.sl t_api_Cell),a.L⟩::q,fun p k=>Zz.un tI p fun b0 p=>Zz.un tI p fun b1 p=>Zz.un (.sl t_api_Cell) p fun b2 p=>k ⟨b0,b1,b2⟩ p,fun _ _=>rfl,fun _ _=>rfl⟩
@[reducible] noncomputable def p_r10_maker:PG:=⟨r10_maker,g_r10_maker⟩
@[ext] structure api_Split where
 Blocks:List api_Block
 Owner:List Int
def api_Split.z:api_Split:=⟨([]:(List (Int × (Int × (Int × (Int × ((List (Int × ((Int × (Int × (Int × (Int × (Int × Unit))))) × (Int × (Int × (Int × Unit)))))) × ((List (Int × ((Int × (Int × (Int × (Int × (Int × Unit))))) × (Int × (Int × (Int × Unit)))))) × Unit)))))))),(List.replicate 16 (0 :Int))⟩
def g_api_Split:Gp api_Split:=⟨[(.sl t_api_Block),(.ar 16 tI)],fun y=>⟨y.1,y.2.1⟩,fun a=>(a.Blocks,a.Owner,()),fun _=>rfl,fun _=>rfl,fun a q=>⟨(.sl t_api_Block),a.Blocks⟩::⟨(.ar 16 tI),a.Owner⟩::q,fun p k=>Zz.un (.sl t_api_Block) p fun b0 p=>Zz.un (.ar 16 tI) p fun b1 p=>k ⟨b0,b1⟩ p,fun _ _=>rfl,fun _ _=>rfl⟩
@[reducible] noncomputable def p_api_Split:PG:=⟨api_Split,g_api_Split⟩
@[ext] structure api_Pos where
 Block:Int
 Index:Int
 Base:Int
def api_Pos.z:api_Pos:=⟨0,0,0⟩
def g_api_Pos:Gp api_Pos:=⟨[tI,tI,tI],fun y=>⟨y.1,y.2.1,y.2.2.1⟩,fun a=>(a.Block,a.Index,a.Base,()),fun _=>rfl,fun _=>rfl,fun a q=>⟨tI,a.Block⟩::⟨tI,a.Index⟩::⟨tI,a.Base⟩::q,fun p k=>Zz.un tI p fun b0 p=>Zz.un tI p fun b1 p=>Zz.un tI p fun b2 p=>k ⟨b0,b1,b2⟩ p,fun _ _=>rfl,fun _ _=>rfl⟩
@[reducible] noncomputable def p_api_Pos:PG:=⟨api_Pos,g_api_Pos⟩
@[ext] structure api_Trap where
 Kind:Int
 Step:Int
 Pc:Int
def api_Trap.z:api_Trap:=⟨0,0,0⟩
@[ext] structure api_Result where
 End:Int
 Trap:api_Trap
 Steps:Int
 Regs:List Int
 Mem:List Int
 Writes:List api_Write
def api_Result.z:api_Result:=⟨0,api_Trap.z,0,(List.replicate 16 (0 :Int)),([]:(List Int)),([]:(List (Int × (Int × (Int × Unit)))))⟩
def g_api_Result:Gp api_Result:=⟨[tI,tI,tI,tI,tI,(.ar 16 tW),(.sl tU),(.sl t_api_Write)],fun y=>⟨y.1,⟨y.2.1,y.2.2.1,y.2.2.2.1⟩,y.2.2.2.2.1,y.2.2.2.2.2.1,y.2.2.2.2.2.2.1,y.2.2.2.2.2.2.2.1⟩,fun a=>(a.End,a.Trap.Kind,a.Trap.Step,a.Trap.Pc,a.Steps,a.Regs,a.Mem,a.Writes,()),fun _=>rfl,fun _=>rfl,fun a q=>⟨tI,a.End⟩::⟨tI,a.Trap.Kind⟩::⟨tI,a.Trap.Step⟩::⟨tI,a.Trap.Pc⟩::⟨tI,a.Steps⟩::⟨(.ar 16 tW),a.Regs⟩::⟨(.sl tU),a.Mem⟩::⟨(.sl t_api_Write),a.Writes⟩::q,fun p k=>Zz.un tI p fun b0 p=>Zz.un tI p fun b1 p=>Zz.un tI p fun b2 p=>Zz.un tI p fun b3 p=>Zz.un tI p fun b4 p=>Zz.un (.ar 16 tW) p fun b5 p=>Zz.un (.sl tU) p fun b6 p=>Zz.un (.sl t_api_Write) p fun b7 p=>k ⟨b0,⟨b1,b2,b3⟩,b4,b5,b6,b7⟩ p,fun _ _=>rfl,fun _ _=>rfl⟩
@[reducible] noncomputable def p_api_Result:PG:=⟨api_Result,g_api_Result⟩
abbrev q_0:List LK:=[.o (.pair tI (.pair tI (.pair tI (.pair tI (.pair .nl (.pair .nl .unit)))))),.d (.ar 16 tI)]
abbrev q_1:List LK:=[.d tI,.d tI,.d tI,.d tI,.d tI,.d tI,.d tI,.d tI,.d tI]
abbrev q_2:List LK:=[.d tI,.d tI,.d tI,.d tI,.d tI,.d (.ar 16 tW),.d (.sl tU),.d (.sl t_api_Write)]
abbrev q_3:List LK:=[.d tI,.d tI,.d tI,.d tI,.d tI,.d (.ar 16 tW),.o tU,.o t_api_Write]
def tis:List (Option TI):=[
 none,
 none,
 none,
 some { td:=.int .i64,lay:=[1],zk:=[.d (.int .i64)] },
 some { td:=.bool,lay:=[1],zk:=[.d .bool] },
 some { td:=.int .u8,lay:=[1],zk:=[.d (.int .u8)] },
 none,
 none,
 none,
 none,
 none,
 none,
 none,
 none,
 none,
 none,
 none,
 none,
 none,
 none,
 none,
 none,
 some { td:=.slice,lay:=[1],ety:=(.pair (.int .i64) (.pair (.int .i64) (.pair (.int .i64) (.pair (.int .i64) (.pair (.int .i64) .unit))))),eby:=40,zk:=[.nils] },
 some { td:=.slice,lay:=[1],ety:=(.int .u8),eby:=1,zk:=[.nils] },
 none,
 some { td:=.struct,lay:=[1,1,1],fl:=[(0,[1]),(1,[1]),(2,[1])],fg:=[false,false,false],zk:=[.nils,.d (.int .i64),.nils] },
 none,
 some { td:=.slice,lay:=[1],ety:=(.pair (.int .i64) (.pair (.int .i64) (.pair (.int .i64) (.pair (.int .i64) (.pair (.sl (.pair (.int .i64) (.pair (.pair (.int .i64) (.pair (.int .i64) (.pair (.int .i64) (.pair (.int .i64) (.pair (.int .i64) .unit))))) (.pair (.int .i64) (.pair (.int .i64) (.pair (.int .i64) .unit)))))) (.pair (.sl (.pair (.int .i64) (.pair (.pair (.int .i64) (.pair (.int .i64) (.pair (.int .i64) (.pair (.int .i64) (.pair (.int .i64) .unit))))) (.pair (.int .i64) (.pair (.int .i64) (.pair (.int .i64) .unit)))))) .unit)))))),eby:=80,zk:=[.nils] },
 some { td:=.array,lay:=[16],ety:=(.int .i64),eby:=8,n:=16,zk:=[.d (.ar 16 (.int .i64))],eqt:=some [(.ar 16 (.int .i64))] },
 none,
 some { td:=.struct,lay:=[1,16],fl:=[(0,[1]),(1,[16])],fg:=[false,true],zk:=[.nils,.d (.ar 16 (.int .i64))] },
 none,
 none,
 none,
 none,
 none,
 some { td:=.struct,lay:=[1,1,1],fl:=[(0,[1]),(1,[1]),(2,[1])],fg:=[false,false,false],zk:=[.d (.int .i64),.d (.int .i64),.d (.int .i64)],eqt:=some [(.int .i64),(.int .i64),(.int .i64)] },
 some { td:=.int .u32,lay:=[1],zk:=[.d (.int .u32)] },
 some { td:=.array,lay:=[16],ety:=(.int .u32),eby:=4,n:=16,zk:=[.d (.ar 16 (.int .u32))],eqt:=some [(.ar 16 (.int .u32))] },
 some { td:=.slice,lay:=[1],ety:=(.pair (.int .i64) (.pair (.int .i64) (.pair (.int .u32) .unit))),eby:=24,zk:=[.nils] },
 none,
 some { td:=.struct,lay:=[1,1,1,1,1,16,1,1],fl:=[(0,[1]),(1,[1,1,1]),(4,[1]),(5,[16]),(6,[1]),(7,[1])],fg:=[false,true,false,true,false,false],zk:=[.d (.int .i64),.d (.int .i64),.d (.int .i64),.d (.int .i64),.d (.int .i64),.d (.ar 16 (.int .u32)),.nils,.nils] },
 none,
 some { td:=.struct,lay:=[1,1,1],fl:=[(0,[1]),(1,[1]),(2,[1])],fg:=[false,false,false],zk:=[.d (.int .i64),.d (.int .i64),.d (.int .i64)],eqt:=some [(.int .i64),(.int .i64),(.int .i64)] },
 none,
 none,
 none,
 some { td:=.struct,lay:=[1,1,1,1,1],fl:=[(0,[1]),(1,[1]),(2,[1]),(3,[1]),(4,[1])],fg:=[false,false,false,false,false],zk:=[.d (.int .i64),.d (.int .i64),.d (.int .i64),.d (.int .i64),.d (.int .i64)],eqt:=some [(.int .i64),(.int .i64),(.int .i64),(.int .i64),(.int .i64)] },
 none,
 some { td:=.struct,lay:=[1,1,1,1,1,1,1,1,1],fl:=[(0,[1]),(1,[1,1,1,1,1]),(6,[1]),(7,[1]),(8,[1])],fg:=[false,true,false,false,false],zk:=[.d (.int .i64),.d (.int .i64),.d (.int .i64),.d (.int .i64),.d (.int .i64),.d (.int .i64),.d (.int .i64),.d (.int .i64),.d (.int .i64)],eqt:=some [(.int .i64),(.int .i64),(.int .i64),(.int .i64),(.int .i64),(.int .i64),(.int .i64),(.int .i64),(.int .i64)] },
 none,
 none,
 some { td:=.slice,lay:=[1],ety:=(.pair (.int .i64) (.pair (.pair (.int .i64) (.pair (.int .i64) (.pair (.int .i64) (.pair (.int .i64) (.pair (.int .i64) .unit))))) (.pair (.int .i64) (.pair (.int .i64) (.pair (.int .i64) .unit))))),eby:=72,zk:=[.nils] },
 none,
 none,
 none,
 none,
 none,
 none,
 none,
 none,
 some { td:=.struct,lay:=[1,1,1,1,1,1],fl:=[(0,[1]),(1,[1]),(2,[1]),(3,[1]),(4,[1]),(5,[1])],fg:=[false,false,false,false,false,false],zk:=[.d (.int .i64),.d (.int .i64),.d (.int .i64),.d (.int .i64),.nils,.nils] },
 none,
 none,
 some { td:=.slice,lay:=[1],ety:=(.int .i64),eby:=8,zk:=[.nils] },
 none,
 none,
 none,
 none,
 some { td:=.slice,lay:=[1],ety:=.bool,eby:=1,zk:=[.nils] },
 none,
 none,
 none,
 none,
 none,
 none,
 none,
 none,
 none,
 none,
 none,
 none,
 none,
 none,
 none,
 none,
 none,
 none,
 none,
 none,
 some { td:=.struct,lay:=[1,1,1],fl:=[(0,[1]),(1,[1]),(2,[1])],fg:=[false,false,false],zk:=[.d (.int .i64),.d (.int .i64),.d (.int .u32)],eqt:=some [(.int .i64),(.int .i64),(.int .u32)] },
 none,
 none,
 none,
 none,
 none,
 some { td:=.struct,lay:=[1,1,1],fl:=[(0,[1]),(1,[1]),(2,[1])],fg:=[false,false,false],zk:=[.d (.int .i64),.d (.int .i64),.nils] },
 none,
 none,
 none,
 none,
 none,
 none,
 none,
 none,
 none,
 none,
 none,
 none,
 none,
 none,
 none,
 none,
 none,
 none,
 none,
 none,
 none,
 none,
 none,
 some { td:=.int .u64,lay:=[1],zk:=[.d (.int .u64)] },
 none,
 none,
 none,
 none,
 none,
 none,
 none,
 none,
 none,
 none,
 none,
 none,
 none,
 none,
 none,
 none,
 none,
 none,
 none,
 none,
 none,
 none,
 none,
 none,
 none,
 none,
 none,
 none,
 none,
 none,
 none,
 none,
 none,
 none,
 none,
 none,
 none,
 none,
 none,
 none,
 none,
 none,
 none,
 none]
def cx0:Cx:={ ti:=fun t=>nthD none tis t }
theorem tis_ok:chkAll Go.Proofs.Try.prog tis 0 = true:=by kernel_rfl
theorem ti_ok:TIok Go.Proofs.Try.prog cx0:=TIok_of tis_ok
def tis1:List (Option TI):=[
 none,
 none,
 none,
 some { td:=.int .i64,lay:=[1],zk:=[.d (.int .i64)] },
 none,
 none,
 none,
 none,
 none,
 none,
 none,
 none,
 none,
 none,
 none,
 none,
 none,
 none,
 none,
 none,
 none,
 none,
 some { td:=.slice,lay:=[1],ety:=(.pair (.int .i64) (.pair (.int .i64) (.pair (.int .i64) (.pair (.int .i64) (.pair (.int .i64) .unit))))),eby:=40,zk:=[.nils] },
 none,
 none,
 some { td:=.struct,lay:=[1,1,1],fl:=[(0,[1]),(1,[1]),(2,[1])],fg:=[false,false,false],zk:=[.nils,.d (.int .i64),.nils] },
 none,
 some { td:=.slice,lay:=[1],ety:=(.pair (.int .i64) (.pair (.int .i64) (.pair (.int .i64) (.pair (.int .i64) (.pair .nl (.pair .nl .unit)))))),eby:=80,zk:=[.nils] },
 none,
 none,
 none,
 none,
 none,
 none,
 none,
 none,
 none,
 none,
 none,
 none,
 none,
 none,
 none,
 none,
 none,
 none,
 none,
 some { td:=.struct,lay:=[1,1,1,1,1],fl:=[(0,[1]),(1,[1]),(2,[1]),(3,[1]),(4,[1])],fg:=[false,false,false,false,false],zk:=[.d (.int .i64),.d (.int .i64),.d (.int .i64),.d (.int .i64),.d (.int .i64)],eqt:=some [(.int .i64),(.int .i64),(.int .i64),(.int .i64),(.int .i64)] },
 none,
 none,
 none,
 none,
 none,
 none,
 none,
 none,
 none,
 none,
 none,
 none,
 none,
 some { td:=.struct,lay:=[1,1,1,1,1,1],fl:=[(0,[1]),(1,[1]),(2,[1]),(3,[1]),(4,[1]),(5,[1])],fg:=[false,false,false,false,false,false],zk:=[.d (.int .i64),.d (.int .i64),.d (.int .i64),.d (.int .i64),.nils,.nils] },
 none,
 none,
 some { td:=.slice,lay:=[1],ety:=(.int .i64),eby:=8,zk:=[.nils] },
 none,
 none,
 none,
 none,
 none,
 none,
 none,
 none,
 none,
 none,
 none,
 none,
 none,
 none,
 none,
 none,
 none,
 none,
 none,
 none,
 none,
 none,
 none,
 none,
 none,
 none,
 none,
 none,
 none,
 none,
 none,
 none,
 none,
 none,
 none,
 none,
 none,
 none,
 none,
 none,
 none,
 none,
 none,
 none,
 none,
 none,
 none,
 none,
 none,
 none,
 none,
 none,
 none,
 none,
 none,
 none,
 none,
 none,
 none,
 none,
 none,
 none,
 none,
 none,
 none,
 none,
 none,
 none,
 none,
 none,
 none,
 none,
 none,
 none,
 none,
 none,
 none,
 none,
 none,
 none,
 none,
 none,
 none,
 none,
 none,
 none,
 none,
 none,
 none,
 none,
 none,
 none,
 none,
 none,
 none,
 none,
 none,
 none,
 none,
 none]
def cx1:Cx:={ ti:=fun t=>nthD none tis1 t }
theorem tis1_ok:chkAll Go.Proofs.Try.prog tis1 0 = true:=by kernel_rfl
theorem ti_ok1:TIok Go.Proofs.Try.prog cx1:=TIok_of tis1_ok
theorem hmix:Go.Proofs.Try.prog.follows .mixedOrders = true:=by kernel_rfl
end
end Go.Proofs.Zz
