import Derived.Test.YtnfpdmhdpeffjaaGreatEnhS
import Derived.KernelRfl
import Derived.Test.YtnfpdmhdpeffjaaGreatProg
set_option linter.unusedSimpArgs false
set_option linter.unusedVariables false
/- The types of the program. -/
set_option maxRecDepth 100000
namespace Go.Proofs.Zz
noncomputable section
open Go
@[reducible] noncomputable def Q:Program:=Go.Proofs.Tryz.prog
abbrev a0o:Type:=Int × Int × Int × Int × Int × Unit
abbrev a0y:Ty:=.pair tI (.pair tI (.pair tI (.pair tI (.pair tI .unit))))
abbrev a0o.z:a0o:=(0,(0,(0,(0,(0,())))))
def e2E:Gp a0o:=⟨[tI,tI,tI,tI,tI],fun y=>(y.1,(y.2.1,(y.2.2.1,(y.2.2.2.1,(y.2.2.2.2.1,()))))),fun a=>(a.1,a.2.1,a.2.2.1,a.2.2.2.1,a.2.2.2.2.1,()),fun _=>rfl,fun _=>rfl,fun a q=>⟨tI,a.1⟩::⟨tI,a.2.1⟩::⟨tI,a.2.2.1⟩::⟨tI,a.2.2.2.1⟩::⟨tI,a.2.2.2.2.1⟩::q,fun p k=>Zz.un tI p fun b0 p=>Zz.un tI p fun b1 p=>Zz.un tI p fun b2 p=>Zz.un tI p fun b3 p=>Zz.un tI p fun b4 p=>k (b0,(b1,(b2,(b3,(b4,()))))) p,fun _ _=>rfl,fun _ _=>rfl⟩
@[reducible] noncomputable def a2S:PG:=⟨a0o,e2E⟩
abbrev a0h:Type:=Int × a0o × Int × Int × Int × Unit
abbrev a0i:Ty:=.pair tI (.pair a0y (.pair tI (.pair tI (.pair tI .unit))))
abbrev a0h.z:a0h:=(0,((0,(0,(0,(0,(0,()))))),(0,(0,(0,())))))
def a0G:Gp a0h:=⟨[tI,tI,tI,tI,tI,tI,tI,tI,tI],fun y=>(y.1,((y.2.1,(y.2.2.1,(y.2.2.2.1,(y.2.2.2.2.1,(y.2.2.2.2.2.1,()))))),(y.2.2.2.2.2.2.1,(y.2.2.2.2.2.2.2.1,(y.2.2.2.2.2.2.2.2.1,()))))),fun a=>(a.1,a.2.1.1,a.2.1.2.1,a.2.1.2.2.1,a.2.1.2.2.2.1,a.2.1.2.2.2.2.1,a.2.2.1,a.2.2.2.1,a.2.2.2.2.1,()),fun _=>rfl,fun _=>rfl,fun a q=>⟨tI,a.1⟩::⟨tI,a.2.1.1⟩::⟨tI,a.2.1.2.1⟩::⟨tI,a.2.1.2.2.1⟩::⟨tI,a.2.1.2.2.2.1⟩::⟨tI,a.2.1.2.2.2.2.1⟩::⟨tI,a.2.2.1⟩::⟨tI,a.2.2.2.1⟩::⟨tI,a.2.2.2.2.1⟩::q,fun p k=>Zz.un tI p fun b0 p=>Zz.un tI p fun b1 p=>Zz.un tI p fun b2 p=>Zz.un tI p fun b3 p=>Zz.un tI p fun b4 p=>Zz.un tI p fun b5 p=>Zz.un tI p fun b6 p=>Zz.un tI p fun b7 p=>Zz.un tI p fun b8 p=>k (b0,((b1,(b2,(b3,(b4,(b5,()))))),(b6,(b7,(b8,()))))) p,fun _ _=>rfl,fun _ _=>rfl⟩
@[reducible] noncomputable def a0E:PG:=⟨a0h,a0G⟩
abbrev a0q:Type:=Int × Bool × Int × Unit
abbrev a0k:Ty:=.pair tI (.pair tB (.pair tW .unit))
abbrev a0q.z:a0q:=(0,(false,(0,())))
def e0Z:Gp a0q:=⟨[tI,tB,tW],fun y=>(y.1,(y.2.1,(y.2.2.1,()))),fun a=>(a.1,a.2.1,a.2.2.1,()),fun _=>rfl,fun _=>rfl,fun a q=>⟨tI,a.1⟩::⟨tB,a.2.1⟩::⟨tW,a.2.2.1⟩::q,fun p k=>Zz.un tI p fun b0 p=>Zz.un tB p fun b1 p=>Zz.un tW p fun b2 p=>k (b0,(b1,(b2,()))) p,fun _ _=>rfl,fun _ _=>rfl⟩
@[reducible] noncomputable def e0u:PG:=⟨a0q,e0Z⟩
abbrev a0a:Type:=Int × Int × Int × Bool × Int × Unit
abbrev a0t:Ty:=.pair tI (.pair tI (.pair tI (.pair tB (.pair tW .unit))))
abbrev a0a.z:a0a:=(0,(0,(0,(false,(0,())))))
def a0M:Gp a0a:=⟨[tI,tI,tI,tB,tW],fun y=>(y.1,(y.2.1,(y.2.2.1,(y.2.2.2.1,(y.2.2.2.2.1,()))))),fun a=>(a.1,a.2.1,a.2.2.1,a.2.2.2.1,a.2.2.2.2.1,()),fun _=>rfl,fun _=>rfl,fun a q=>⟨tI,a.1⟩::⟨tI,a.2.1⟩::⟨tI,a.2.2.1⟩::⟨tB,a.2.2.2.1⟩::⟨tW,a.2.2.2.2.1⟩::q,fun p k=>Zz.un tI p fun b0 p=>Zz.un tI p fun b1 p=>Zz.un tI p fun b2 p=>Zz.un tB p fun b3 p=>Zz.un tW p fun b4 p=>k (b0,(b1,(b2,(b3,(b4,()))))) p,fun _ _=>rfl,fun _ _=>rfl⟩
@[reducible] noncomputable def a0B:PG:=⟨a0a,a0M⟩
abbrev a0e:Type:=Bool × Int × Int × Int × Int × Int × Int × Int × Unit
abbrev a0j:Ty:=.pair tB (.pair tI (.pair tI (.pair tI (.pair tW (.pair tI (.pair tI (.pair tI .unit)))))))
abbrev a0e.z:a0e:=(false,(0,(0,(0,(0,(0,(0,(0,()))))))))
def d3d:Gp a0e:=⟨[tB,tI,tI,tI,tW,tI,tI,tI],fun y=>(y.1,(y.2.1,(y.2.2.1,(y.2.2.2.1,(y.2.2.2.2.1,(y.2.2.2.2.2.1,(y.2.2.2.2.2.2.1,(y.2.2.2.2.2.2.2.1,())))))))),fun a=>(a.1,a.2.1,a.2.2.1,a.2.2.2.1,a.2.2.2.2.1,a.2.2.2.2.2.1,a.2.2.2.2.2.2.1,a.2.2.2.2.2.2.2.1,()),fun _=>rfl,fun _=>rfl,fun a q=>⟨tB,a.1⟩::⟨tI,a.2.1⟩::⟨tI,a.2.2.1⟩::⟨tI,a.2.2.2.1⟩::⟨tW,a.2.2.2.2.1⟩::⟨tI,a.2.2.2.2.2.1⟩::⟨tI,a.2.2.2.2.2.2.1⟩::⟨tI,a.2.2.2.2.2.2.2.1⟩::q,fun p k=>Zz.un tB p fun b0 p=>Zz.un tI p fun b1 p=>Zz.un tI p fun b2 p=>Zz.un tI p fun b3 p=>Zz.un tW p fun b4 p=>Zz.un tI p fun b5 p=>Zz.un tI p fun b6 p=>Zz.un tI p fun b7 p=>k (b0,(b1,(b2,(b3,(b4,(b5,(b6,(b7,())))))))) p,fun _ _=>rfl,fun _ _=>rfl⟩
@[reducible] noncomputable def a3C:PG:=⟨a0e,d3d⟩
abbrev a0K:Type:=Int × Int × Int × Unit
abbrev a0Q:Ty:=.pair tI (.pair tI (.pair tW .unit))
abbrev a0K.z:a0K:=(0,(0,(0,())))
def d7K:Gp a0K:=⟨[tI,tI,tW],fun y=>(y.1,(y.2.1,(y.2.2.1,()))),fun a=>(a.1,a.2.1,a.2.2.1,()),fun _=>rfl,fun _=>rfl,fun a q=>⟨tI,a.1⟩::⟨tI,a.2.1⟩::⟨tW,a.2.2.1⟩::q,fun p k=>Zz.un tI p fun b0 p=>Zz.un tI p fun b1 p=>Zz.un tW p fun b2 p=>k (b0,(b1,(b2,()))) p,fun _ _=>rfl,fun _ _=>rfl⟩
@[reducible] noncomputable def a4x:PG:=⟨a0K,d7K⟩
abbrev a0x:Type:=Int × Int × Int × Int × (List a0h) × (List a0h) × Unit
abbrev a0n:Ty:=.pair tI (.pair tI (.pair tI (.pair tI (.pair (.sl a0i) (.pair (.sl a0i) .unit)))))
abbrev a0x.z:a0x:=(0,(0,(0,(0,(([]:(List (Int × ((Int × (Int × (Int × (Int × (Int × Unit))))) × (Int × (Int × (Int × Unit))))))),(([]:(List (Int × ((Int × (Int × (Int × (Int × (Int × Unit))))) × (Int × (Int × (Int × Unit))))))),()))))))
def d7L:Gp a0x:=⟨[tI,tI,tI,tI,(.sl a0i),(.sl a0i)],fun y=>(y.1,(y.2.1,(y.2.2.1,(y.2.2.2.1,(y.2.2.2.2.1,(y.2.2.2.2.2.1,())))))),fun a=>(a.1,a.2.1,a.2.2.1,a.2.2.2.1,a.2.2.2.2.1,a.2.2.2.2.2.1,()),fun _=>rfl,fun _=>rfl,fun a q=>⟨tI,a.1⟩::⟨tI,a.2.1⟩::⟨tI,a.2.2.1⟩::⟨tI,a.2.2.2.1⟩::⟨(.sl a0i),a.2.2.2.2.1⟩::⟨(.sl a0i),a.2.2.2.2.2.1⟩::q,fun p k=>Zz.un tI p fun b0 p=>Zz.un tI p fun b1 p=>Zz.un tI p fun b2 p=>Zz.un tI p fun b3 p=>Zz.un (.sl a0i) p fun b4 p=>Zz.un (.sl a0i) p fun b5 p=>k (b0,(b1,(b2,(b3,(b4,(b5,())))))) p,fun _ _=>rfl,fun _ _=>rfl⟩
@[reducible] noncomputable def c7d:PG:=⟨a0x,d7L⟩
@[ext] structure a0C where
 Block:Int
 Index:Int
 Base:Int
def a0C.z:a0C:=⟨0,0,0⟩
def a0P:Gp a0C:=⟨[tI,tI,tI],fun y=>⟨y.1,y.2.1,y.2.2.1⟩,fun a=>(a.Block,a.Index,a.Base,()),fun _=>rfl,fun _=>rfl,fun a q=>⟨tI,a.Block⟩::⟨tI,a.Index⟩::⟨tI,a.Base⟩::q,fun p k=>Zz.un tI p fun b0 p=>Zz.un tI p fun b1 p=>Zz.un tI p fun b2 p=>k ⟨b0,b1,b2⟩ p,fun _ _=>rfl,fun _ _=>rfl⟩
@[reducible] noncomputable def a0L:PG:=⟨a0C,a0P⟩
@[ext] structure a0v where
 Regs:List Int
 Ready:List Int
 Pos:a0C
 Wait:Int
 Halted:Bool
 Done:Int
def a0v.z:a0v:=⟨(List.replicate 16 (0 :Int)),(List.replicate 16 (0 :Int)),a0C.z,0,false,0⟩
def a3u:Gp a0v:=⟨[(.ar 16 tW),(.ar 16 tI),tI,tI,tI,tI,tB,tI],fun y=>⟨y.1,y.2.1,⟨y.2.2.1,y.2.2.2.1,y.2.2.2.2.1⟩,y.2.2.2.2.2.1,y.2.2.2.2.2.2.1,y.2.2.2.2.2.2.2.1⟩,fun a=>(a.Regs,a.Ready,a.Pos.Block,a.Pos.Index,a.Pos.Base,a.Wait,a.Halted,a.Done,()),fun _=>rfl,fun _=>rfl,fun a q=>⟨(.ar 16 tW),a.Regs⟩::⟨(.ar 16 tI),a.Ready⟩::⟨tI,a.Pos.Block⟩::⟨tI,a.Pos.Index⟩::⟨tI,a.Pos.Base⟩::⟨tI,a.Wait⟩::⟨tB,a.Halted⟩::⟨tI,a.Done⟩::q,fun p k=>Zz.un (.ar 16 tW) p fun b0 p=>Zz.un (.ar 16 tI) p fun b1 p=>Zz.un tI p fun b2 p=>Zz.un tI p fun b3 p=>Zz.un tI p fun b4 p=>Zz.un tI p fun b5 p=>Zz.un tB p fun b6 p=>Zz.un tI p fun b7 p=>k ⟨b0,b1,⟨b2,b3,b4⟩,b5,b6,b7⟩ p,fun _ _=>rfl,fun _ _=>rfl⟩
@[reducible] noncomputable def a0S:PG:=⟨a0v,a3u⟩
def d6W:Gp a0v:=⟨[(.pair (.ar 16 tW) (.pair (.ar 16 tI) (.pair (.pair tI (.pair tI (.pair tI .unit))) (.pair tI (.pair tB (.pair tI .unit))))))],fun y=>⟨y.1.1,y.1.2.1,⟨y.1.2.2.1.1,y.1.2.2.1.2.1,y.1.2.2.1.2.2.1⟩,y.1.2.2.2.1,y.1.2.2.2.2.1,y.1.2.2.2.2.2.1⟩,fun a=>((a.Regs,(a.Ready,((a.Pos.Block,(a.Pos.Index,(a.Pos.Base,()))),(a.Wait,(a.Halted,(a.Done,())))))),()),fun _=>rfl,fun _=>rfl,fun a q=>⟨(.pair (.ar 16 tW) (.pair (.ar 16 tI) (.pair (.pair tI (.pair tI (.pair tI .unit))) (.pair tI (.pair tB (.pair tI .unit)))))),(a.Regs,(a.Ready,((a.Pos.Block,(a.Pos.Index,(a.Pos.Base,()))),(a.Wait,(a.Halted,(a.Done,()))))))⟩::q,fun p k=>Zz.un (.pair (.ar 16 tW) (.pair (.ar 16 tI) (.pair (.pair tI (.pair tI (.pair tI .unit))) (.pair tI (.pair tB (.pair tI .unit)))))) p fun b0 p=>k ⟨b0.1,b0.2.1,⟨b0.2.2.1.1,b0.2.2.1.2.1,b0.2.2.1.2.2.1⟩,b0.2.2.2.1,b0.2.2.2.2.1,b0.2.2.2.2.2.1⟩ p,fun _ _=>rfl,fun _ _=>rfl⟩
@[reducible] noncomputable def c8H:PG:=⟨a0v,d6W⟩
@[ext] structure a1X where
 Kind:Int
 Step:Int
 Pc:Int
def a1X.z:a1X:=⟨0,0,0⟩
@[ext] structure a0b where
 Cycle:Int
 A:a0v
 E:a0v
 Ldq:List a0q
 Sdq:List Int
 Aeq:List Int
 Abq:List Bool
 Ebq:List Bool
 Saq:List a0a
 Table:List a0e
 Mem:List Int
 Writes:List a0K
 Trap:a1X
 Lats:Int
 Picks:Int
 Tags:Int
def a0c:Gp a0b:=⟨[tI,(.ar 16 tW),(.ar 16 tI),tI,tI,tI,tI,tB,tI,(.ar 16 tW),(.ar 16 tI),tI,tI,tI,tI,tB,tI,(.sl a0k),(.sl tW),(.sl tW),(.sl tB),(.sl tB),(.sl a0t),(.sl a0j),(.sl tU),(.sl a0Q),tI,tI,tI,tI,tI,tI],fun y=>⟨y.1,⟨y.2.1,y.2.2.1,⟨y.2.2.2.1,y.2.2.2.2.1,y.2.2.2.2.2.1⟩,y.2.2.2.2.2.2.1,y.2.2.2.2.2.2.2.1,y.2.2.2.2.2.2.2.2.1⟩,⟨y.2.2.2.2.2.2.2.2.2.1,y.2.2.2.2.2.2.2.2.2.2.1,⟨y.2.2.2.2.2.2.2.2.2.2.2.1,y.2.2.2.2.2.2.2.2.2.2.2.2.1,y.2.2.2.2.2.2.2.2.2.2.2.2.2.1⟩,y.2.2.2.2.2.2.2.2.2.2.2.2.2.2.1,y.2.2.2.2.2.2.2.2.2.2.2.2.2.2.2.1,y.2.2.2.2.2.2.2.2.2.2.2.2.2.2.2.2.1⟩,y.2.2.2.2.2.2.2.2.2.2.2.2.2.2.2.2.2.1,y.2.2.2.2.2.2.2.2.2.2.2.2.2.2.2.2.2.2.1,y.2.2.2.2.2.2.2.2.2.2.2.2.2.2.2.2.2.2.2.1,y.2.2.2.2.2.2.2.2.2.2.2.2.2.2.2.2.2.2.2.2.1,y.2.2.2.2.2.2.2.2.2.2.2.2.2.2.2.2.2.2.2.2.2.1,y.2.2.2.2.2.2.2.2.2.2.2.2.2.2.2.2.2.2.2.2.2.2.1,y.2.2.2.2.2.2.2.2.2.2.2.2.2.2.2.2.2.2.2.2.2.2.2.1,y.2.2.2.2.2.2.2.2.2.2.2.2.2.2.2.2.2.2.2.2.2.2.2.2.1,y.2.2.2.2.2.2.2.2.2.2.2.2.2.2.2.2.2.2.2.2.2.2.2.2.2.1,⟨y.2.2.2.2.2.2.2.2.2.2.2.2.2.2.2.2.2.2.2.2.2.2.2.2.2.2.1,y.2.2.2.2.2.2.2.2.2.2.2.2.2.2.2.2.2.2.2.2.2.2.2.2.2.2.2.1,y.2.2.2.2.2.2.2.2.2.2.2.2.2.2.2.2.2.2.2.2.2.2.2.2.2.2.2.2.1⟩,y.2.2.2.2.2.2.2.2.2.2.2.2.2.2.2.2.2.2.2.2.2.2.2.2.2.2.2.2.2.1,y.2.2.2.2.2.2.2.2.2.2.2.2.2.2.2.2.2.2.2.2.2.2.2.2.2.2.2.2.2.2.1,y.2.2.2.2.2.2.2.2.2.2.2.2.2.2.2.2.2.2.2.2.2.2.2.2.2.2.2.2.2.2.2.1⟩,fun a=>(a.Cycle,a.A.Regs,a.A.Ready,a.A.Pos.Block,a.A.Pos.Index,a.A.Pos.Base,a.A.Wait,a.A.Halted,a.A.Done,a.E.Regs,a.E.Ready,a.E.Pos.Block,a.E.Pos.Index,a.E.Pos.Base,a.E.Wait,a.E.Halted,a.E.Done,a.Ldq,a.Sdq,a.Aeq,a.Abq,a.Ebq,a.Saq,a.Table,a.Mem,a.Writes,a.Trap.Kind,a.Trap.Step,a.Trap.Pc,a.Lats,a.Picks,a.Tags,()),fun _=>rfl,fun _=>rfl,fun a q=>⟨tI,a.Cycle⟩::⟨(.ar 16 tW),a.A.Regs⟩::⟨(.ar 16 tI),a.A.Ready⟩::⟨tI,a.A.Pos.Block⟩::⟨tI,a.A.Pos.Index⟩::⟨tI,a.A.Pos.Base⟩::⟨tI,a.A.Wait⟩::⟨tB,a.A.Halted⟩::⟨tI,a.A.Done⟩::⟨(.ar 16 tW),a.E.Regs⟩::⟨(.ar 16 tI),a.E.Ready⟩::⟨tI,a.E.Pos.Block⟩::⟨tI,a.E.Pos.Index⟩::⟨tI,a.E.Pos.Base⟩::⟨tI,a.E.Wait⟩::⟨tB,a.E.Halted⟩::⟨tI,a.E.Done⟩::⟨(.sl a0k),a.Ldq⟩::⟨(.sl tW),a.Sdq⟩::⟨(.sl tW),a.Aeq⟩::⟨(.sl tB),a.Abq⟩::⟨(.sl tB),a.Ebq⟩::⟨(.sl a0t),a.Saq⟩::⟨(.sl a0j),a.Table⟩::⟨(.sl tU),a.Mem⟩::⟨(.sl a0Q),a.Writes⟩::⟨tI,a.Trap.Kind⟩::⟨tI,a.Trap.Step⟩::⟨tI,a.Trap.Pc⟩::⟨tI,a.Lats⟩::⟨tI,a.Picks⟩::⟨tI,a.Tags⟩::q,fun p k=>Zz.un tI p fun b0 p=>Zz.un (.ar 16 tW) p fun b1 p=>Zz.un (.ar 16 tI) p fun b2 p=>Zz.un tI p fun b3 p=>Zz.un tI p fun b4 p=>Zz.un tI p fun b5 p=>Zz.un tI p fun b6 p=>Zz.un tB p fun b7 p=>Zz.un tI p fun b8 p=>Zz.un (.ar 16 tW) p fun b9 p=>Zz.un (.ar 16 tI) p fun b10 p=>Zz.un tI p fun b11 p=>Zz.un tI p fun b12 p=>Zz.un tI p fun b13 p=>Zz.un tI p fun b14 p=>Zz.un tB p fun b15 p=>Zz.un tI p fun b16 p=>Zz.un (.sl a0k) p fun b17 p=>Zz.un (.sl tW) p fun b18 p=>Zz.un (.sl tW) p fun b19 p=>Zz.un (.sl tB) p fun b20 p=>Zz.un (.sl tB) p fun b21 p=>Zz.un (.sl a0t) p fun b22 p=>Zz.un (.sl a0j) p fun b23 p=>Zz.un (.sl tU) p fun b24 p=>Zz.un (.sl a0Q) p fun b25 p=>Zz.un tI p fun b26 p=>Zz.un tI p fun b27 p=>Zz.un tI p fun b28 p=>Zz.un tI p fun b29 p=>Zz.un tI p fun b30 p=>Zz.un tI p fun b31 p=>k ⟨b0,⟨b1,b2,⟨b3,b4,b5⟩,b6,b7,b8⟩,⟨b9,b10,⟨b11,b12,b13⟩,b14,b15,b16⟩,b17,b18,b19,b20,b21,b22,b23,b24,b25,⟨b26,b27,b28⟩,b29,b30,b31⟩ p,fun _ _=>rfl,fun _ _=>rfl⟩
@[reducible] noncomputable def a0d:PG:=⟨a0b,a0c⟩
def a1t:Gp a0b:=⟨[(.pair tI (.pair (.pair (.ar 16 tW) (.pair (.ar 16 tI) (.pair (.pair tI (.pair tI (.pair tI .unit))) (.pair tI (.pair tB (.pair tI .unit)))))) (.pair (.pair (.ar 16 tW) (.pair (.ar 16 tI) (.pair (.pair tI (.pair tI (.pair tI .unit))) (.pair tI (.pair tB (.pair tI .unit)))))) (.pair (.sl a0k) (.pair (.sl tW) (.pair (.sl tW) (.pair (.sl tB) (.pair (.sl tB) (.pair (.sl a0t) (.pair (.sl a0j) (.pair (.sl tU) (.pair (.sl a0Q) (.pair (.pair tI (.pair tI (.pair tI .unit))) (.pair tI (.pair tI (.pair tI .unit))))))))))))))))],fun y=>⟨y.1.1,⟨y.1.2.1.1,y.1.2.1.2.1,⟨y.1.2.1.2.2.1.1,y.1.2.1.2.2.1.2.1,y.1.2.1.2.2.1.2.2.1⟩,y.1.2.1.2.2.2.1,y.1.2.1.2.2.2.2.1,y.1.2.1.2.2.2.2.2.1⟩,⟨y.1.2.2.1.1,y.1.2.2.1.2.1,⟨y.1.2.2.1.2.2.1.1,y.1.2.2.1.2.2.1.2.1,y.1.2.2.1.2.2.1.2.2.1⟩,y.1.2.2.1.2.2.2.1,y.1.2.2.1.2.2.2.2.1,y.1.2.2.1.2.2.2.2.2.1⟩,y.1.2.2.2.1,y.1.2.2.2.2.1,y.1.2.2.2.2.2.1,y.1.2.2.2.2.2.2.1,y.1.2.2.2.2.2.2.2.1,y.1.2.2.2.2.2.2.2.2.1,y.1.2.2.2.2.2.2.2.2.2.1,y.1.2.2.2.2.2.2.2.2.2.2.1,y.1.2.2.2.2.2.2.2.2.2.2.2.1,⟨y.1.2.2.2.2.2.2.2.2.2.2.2.2.1.1,y.1.2.2.2.2.2.2.2.2.2.2.2.2.1.2.1,y.1.2.2.2.2.2.2.2.2.2.2.2.2.1.2.2.1⟩,y.1.2.2.2.2.2.2.2.2.2.2.2.2.2.1,y.1.2.2.2.2.2.2.2.2.2.2.2.2.2.2.1,y.1.2.2.2.2.2.2.2.2.2.2.2.2.2.2.2.1⟩,fun a=>((a.Cycle,((a.A.Regs,(a.A.Ready,((a.A.Pos.Block,(a.A.Pos.Index,(a.A.Pos.Base,()))),(a.A.Wait,(a.A.Halted,(a.A.Done,())))))),((a.E.Regs,(a.E.Ready,((a.E.Pos.Block,(a.E.Pos.Index,(a.E.Pos.Base,()))),(a.E.Wait,(a.E.Halted,(a.E.Done,())))))),(a.Ldq,(a.Sdq,(a.Aeq,(a.Abq,(a.Ebq,(a.Saq,(a.Table,(a.Mem,(a.Writes,((a.Trap.Kind,(a.Trap.Step,(a.Trap.Pc,()))),(a.Lats,(a.Picks,(a.Tags,())))))))))))))))),()),fun _=>rfl,fun _=>rfl,fun a q=>⟨(.pair tI (.pair (.pair (.ar 16 tW) (.pair (.ar 16 tI) (.pair (.pair tI (.pair tI (.pair tI .unit))) (.pair tI (.pair tB (.pair tI .unit)))))) (.pair (.pair (.ar 16 tW) (.pair (.ar 16 tI) (.pair (.pair tI (.pair tI (.pair tI .unit))) (.pair tI (.pair tB (.pair tI .unit)))))) (.pair (.sl a0k) (.pair (.sl tW) (.pair (.sl tW) (.pair (.sl tB) (.pair (.sl tB) (.pair (.sl a0t) (.pair (.sl a0j) (.pair (.sl tU) (.pair (.sl a0Q) (.pair (.pair tI (.pair tI (.pair tI .unit))) (.pair tI (.pair tI (.pair tI .unit)))))))))))))))),(a.Cycle,((a.A.Regs,(a.A.Ready,((a.A.Pos.Block,(a.A.Pos.Index,(a.A.Pos.Base,()))),(a.A.Wait,(a.A.Halted,(a.A.Done,())))))),((a.E.Regs,(a.E.Ready,((a.E.Pos.Block,(a.E.Pos.Index,(a.E.Pos.Base,()))),(a.E.Wait,(a.E.Halted,(a.E.Done,())))))),(a.Ldq,(a.Sdq,(a.Aeq,(a.Abq,(a.Ebq,(a.Saq,(a.Table,(a.Mem,(a.Writes,((a.Trap.Kind,(a.Trap.Step,(a.Trap.Pc,()))),(a.Lats,(a.Picks,(a.Tags,()))))))))))))))))⟩::q,fun p k=>Zz.un (.pair tI (.pair (.pair (.ar 16 tW) (.pair (.ar 16 tI) (.pair (.pair tI (.pair tI (.pair tI .unit))) (.pair tI (.pair tB (.pair tI .unit)))))) (.pair (.pair (.ar 16 tW) (.pair (.ar 16 tI) (.pair (.pair tI (.pair tI (.pair tI .unit))) (.pair tI (.pair tB (.pair tI .unit)))))) (.pair (.sl a0k) (.pair (.sl tW) (.pair (.sl tW) (.pair (.sl tB) (.pair (.sl tB) (.pair (.sl a0t) (.pair (.sl a0j) (.pair (.sl tU) (.pair (.sl a0Q) (.pair (.pair tI (.pair tI (.pair tI .unit))) (.pair tI (.pair tI (.pair tI .unit)))))))))))))))) p fun b0 p=>k ⟨b0.1,⟨b0.2.1.1,b0.2.1.2.1,⟨b0.2.1.2.2.1.1,b0.2.1.2.2.1.2.1,b0.2.1.2.2.1.2.2.1⟩,b0.2.1.2.2.2.1,b0.2.1.2.2.2.2.1,b0.2.1.2.2.2.2.2.1⟩,⟨b0.2.2.1.1,b0.2.2.1.2.1,⟨b0.2.2.1.2.2.1.1,b0.2.2.1.2.2.1.2.1,b0.2.2.1.2.2.1.2.2.1⟩,b0.2.2.1.2.2.2.1,b0.2.2.1.2.2.2.2.1,b0.2.2.1.2.2.2.2.2.1⟩,b0.2.2.2.1,b0.2.2.2.2.1,b0.2.2.2.2.2.1,b0.2.2.2.2.2.2.1,b0.2.2.2.2.2.2.2.1,b0.2.2.2.2.2.2.2.2.1,b0.2.2.2.2.2.2.2.2.2.1,b0.2.2.2.2.2.2.2.2.2.2.1,b0.2.2.2.2.2.2.2.2.2.2.2.1,⟨b0.2.2.2.2.2.2.2.2.2.2.2.2.1.1,b0.2.2.2.2.2.2.2.2.2.2.2.2.1.2.1,b0.2.2.2.2.2.2.2.2.2.2.2.2.1.2.2.1⟩,b0.2.2.2.2.2.2.2.2.2.2.2.2.2.1,b0.2.2.2.2.2.2.2.2.2.2.2.2.2.2.1,b0.2.2.2.2.2.2.2.2.2.2.2.2.2.2.2.1⟩ p,fun _ _=>rfl,fun _ _=>rfl⟩
@[reducible] noncomputable def a0W:PG:=⟨a0b,a1t⟩
@[ext] structure a0s where
 Code:List a0o
 Size:Int
 Data:List Int
def a1d:Gp a0s:=⟨[(.sl a0y),tI,(.sl tU)],fun y=>⟨y.1,y.2.1,y.2.2.1⟩,fun a=>(a.Code,a.Size,a.Data,()),fun _=>rfl,fun _=>rfl,fun a q=>⟨(.sl a0y),a.Code⟩::⟨tI,a.Size⟩::⟨(.sl tU),a.Data⟩::q,fun p k=>Zz.un (.sl a0y) p fun b0 p=>Zz.un tI p fun b1 p=>Zz.un (.sl tU) p fun b2 p=>k ⟨b0,b1,b2⟩ p,fun _ _=>rfl,fun _ _=>rfl⟩
@[reducible] noncomputable def a0p:PG:=⟨a0s,a1d⟩
@[ext] structure a0u where
 Pc:Int
 Off:Int
 L:List a0h
def a2t:Gp a0u:=⟨[tI,tI,(.sl a0i)],fun y=>⟨y.1,y.2.1,y.2.2.1⟩,fun a=>(a.Pc,a.Off,a.L,()),fun _=>rfl,fun _=>rfl,fun a q=>⟨tI,a.Pc⟩::⟨tI,a.Off⟩::⟨(.sl a0i),a.L⟩::q,fun p k=>Zz.un tI p fun b0 p=>Zz.un tI p fun b1 p=>Zz.un (.sl a0i) p fun b2 p=>k ⟨b0,b1,b2⟩ p,fun _ _=>rfl,fun _ _=>rfl⟩
@[reducible] noncomputable def a0z:PG:=⟨a0u,a2t⟩
@[ext] structure a0g where
 Blocks:List a0x
 Owner:List Int
def a0H:Gp a0g:=⟨[(.sl a0n),(.ar 16 tI)],fun y=>⟨y.1,y.2.1⟩,fun a=>(a.Blocks,a.Owner,()),fun _=>rfl,fun _=>rfl,fun a q=>⟨(.sl a0n),a.Blocks⟩::⟨(.ar 16 tI),a.Owner⟩::q,fun p k=>Zz.un (.sl a0n) p fun b0 p=>Zz.un (.ar 16 tI) p fun b1 p=>k ⟨b0,b1⟩ p,fun _ _=>rfl,fun _ _=>rfl⟩
@[reducible] noncomputable def a0m:PG:=⟨a0g,a0H⟩
@[ext] structure a0f where
 Ldq:Int
 Sdq:Int
 Aeq:Int
 Abq:Int
 Ebq:Int
 Saq:Int
 Banks:Int
 Flight:Int
 Slip:Int
 Lat:Int
 Mul:Int
 Div:Int
def a0f.z:a0f:=⟨0,0,0,0,0,0,0,0,0,0,0,0⟩
def a0D:Gp a0f:=⟨[tI,tI,tI,tI,tI,tI,tI,tI,tI,tI,tI,tI],fun y=>⟨y.1,y.2.1,y.2.2.1,y.2.2.2.1,y.2.2.2.2.1,y.2.2.2.2.2.1,y.2.2.2.2.2.2.1,y.2.2.2.2.2.2.2.1,y.2.2.2.2.2.2.2.2.1,y.2.2.2.2.2.2.2.2.2.1,y.2.2.2.2.2.2.2.2.2.2.1,y.2.2.2.2.2.2.2.2.2.2.2.1⟩,fun a=>(a.Ldq,a.Sdq,a.Aeq,a.Abq,a.Ebq,a.Saq,a.Banks,a.Flight,a.Slip,a.Lat,a.Mul,a.Div,()),fun _=>rfl,fun _=>rfl,fun a q=>⟨tI,a.Ldq⟩::⟨tI,a.Sdq⟩::⟨tI,a.Aeq⟩::⟨tI,a.Abq⟩::⟨tI,a.Ebq⟩::⟨tI,a.Saq⟩::⟨tI,a.Banks⟩::⟨tI,a.Flight⟩::⟨tI,a.Slip⟩::⟨tI,a.Lat⟩::⟨tI,a.Mul⟩::⟨tI,a.Div⟩::q,fun p k=>Zz.un tI p fun b0 p=>Zz.un tI p fun b1 p=>Zz.un tI p fun b2 p=>Zz.un tI p fun b3 p=>Zz.un tI p fun b4 p=>Zz.un tI p fun b5 p=>Zz.un tI p fun b6 p=>Zz.un tI p fun b7 p=>Zz.un tI p fun b8 p=>Zz.un tI p fun b9 p=>Zz.un tI p fun b10 p=>Zz.un tI p fun b11 p=>k ⟨b0,b1,b2,b3,b4,b5,b6,b7,b8,b9,b10,b11⟩ p,fun _ _=>rfl,fun _ _=>rfl⟩
@[reducible] noncomputable def a0l:PG:=⟨a0f,a0D⟩
@[ext] structure a0w where
 Lats:List Int
 Picks:List Int
def a1P:Gp a0w:=⟨[(.sl tI),(.sl tI)],fun y=>⟨y.1,y.2.1⟩,fun a=>(a.Lats,a.Picks,()),fun _=>rfl,fun _=>rfl,fun a q=>⟨(.sl tI),a.Lats⟩::⟨(.sl tI),a.Picks⟩::q,fun p k=>Zz.un (.sl tI) p fun b0 p=>Zz.un (.sl tI) p fun b1 p=>k ⟨b0,b1⟩ p,fun _ _=>rfl,fun _ _=>rfl⟩
@[reducible] noncomputable def a0F:PG:=⟨a0w,a1P⟩
@[ext] structure f1W where
 I:a0o
 Pc:Int
 Off:Int
 Out:List a0h
def f2j:Gp f1W:=⟨[tI,tI,tI,tI,tI,tI,tI,(.sl a0i)],fun y=>⟨(y.1,(y.2.1,(y.2.2.1,(y.2.2.2.1,(y.2.2.2.2.1,()))))),y.2.2.2.2.2.1,y.2.2.2.2.2.2.1,y.2.2.2.2.2.2.2.1⟩,fun a=>(a.I.1,a.I.2.1,a.I.2.2.1,a.I.2.2.2.1,a.I.2.2.2.2.1,a.Pc,a.Off,a.Out,()),fun _=>rfl,fun _=>rfl,fun a q=>⟨tI,a.I.1⟩::⟨tI,a.I.2.1⟩::⟨tI,a.I.2.2.1⟩::⟨tI,a.I.2.2.2.1⟩::⟨tI,a.I.2.2.2.2.1⟩::⟨tI,a.Pc⟩::⟨tI,a.Off⟩::⟨(.sl a0i),a.Out⟩::q,fun p k=>Zz.un tI p fun b0 p=>Zz.un tI p fun b1 p=>Zz.un tI p fun b2 p=>Zz.un tI p fun b3 p=>Zz.un tI p fun b4 p=>Zz.un tI p fun b5 p=>Zz.un tI p fun b6 p=>Zz.un (.sl a0i) p fun b7 p=>k ⟨(b0,(b1,(b2,(b3,(b4,()))))),b5,b6,b7⟩ p,fun _ _=>rfl,fun _ _=>rfl⟩
@[reducible] noncomputable def f1X:PG:=⟨f1W,f2j⟩
@[ext] structure f1Y where
 End:Int
 Trap:a1X
 Steps:Int
 Regs:List Int
 Mem:List Int
 Writes:List a0K
def f2a:Gp f1Y:=⟨[tI,tI,tI,tI,tI,(.ar 16 tW),(.sl tU),(.sl a0Q)],fun y=>⟨y.1,⟨y.2.1,y.2.2.1,y.2.2.2.1⟩,y.2.2.2.2.1,y.2.2.2.2.2.1,y.2.2.2.2.2.2.1,y.2.2.2.2.2.2.2.1⟩,fun a=>(a.End,a.Trap.Kind,a.Trap.Step,a.Trap.Pc,a.Steps,a.Regs,a.Mem,a.Writes,()),fun _=>rfl,fun _=>rfl,fun a q=>⟨tI,a.End⟩::⟨tI,a.Trap.Kind⟩::⟨tI,a.Trap.Step⟩::⟨tI,a.Trap.Pc⟩::⟨tI,a.Steps⟩::⟨(.ar 16 tW),a.Regs⟩::⟨(.sl tU),a.Mem⟩::⟨(.sl a0Q),a.Writes⟩::q,fun p k=>Zz.un tI p fun b0 p=>Zz.un tI p fun b1 p=>Zz.un tI p fun b2 p=>Zz.un tI p fun b3 p=>Zz.un tI p fun b4 p=>Zz.un (.ar 16 tW) p fun b5 p=>Zz.un (.sl tU) p fun b6 p=>Zz.un (.sl a0Q) p fun b7 p=>k ⟨b0,⟨b1,b2,b3⟩,b4,b5,b6,b7⟩ p,fun _ _=>rfl,fun _ _=>rfl⟩
@[reducible] noncomputable def f1Z:PG:=⟨f1Y,f2a⟩
abbrev q_0:List LK:=[.d tI,.d (.ar 16 tW),.d (.ar 16 tI),.d tI,.d tI,.d tI,.d tI,.d tB,.d tI,.d (.ar 16 tW),.d (.ar 16 tI),.d tI,.d tI,.d tI,.d tI,.d tB,.d tI,.d (.sl a0k),.d (.sl tW),.d (.sl tW),.d (.sl tB),.d (.sl tB),.d (.sl a0t),.d (.sl a0j),.d (.sl tU),.d (.sl a0Q),.d tI,.d tI,.d tI,.d tI,.d tI,.d tI]
abbrev q_1:List LK:=[.d tI,.d (.ar 16 tW),.d (.ar 16 tI),.d tI,.d tI,.d tI,.d tI,.d tB,.d tI,.d (.ar 16 tW),.d (.ar 16 tI),.d tI,.d tI,.d tI,.d tI,.d tB,.d tI,.o a0k,.o tW,.o tW,.o tB,.o tB,.o a0t,.o a0j,.o tU,.o a0Q,.d tI,.d tI,.d tI,.d tI,.d tI,.d tI]
abbrev q_2:List LK:=[.d tI,.d tI,.d tI,.d tI,.d tI,.d tI,.d tI,.d tI,.d tI]
abbrev q_3:List LK:=[.d (.ar 16 tW),.d (.ar 16 tI),.d tI,.d tI,.d tI,.d tI,.d tB,.d tI]
abbrev q_4:List LK:=[.o (.pair tI (.pair tI (.pair tI (.pair tI (.pair .nl (.pair .nl .unit)))))),.d (.ar 16 tI)]
abbrev q_5:List LK:=[.d tI,.d tI,.d tI,.d tI,.d tI,.d tI,.d tI,.d tI,.d tI,.d tI,.d tI,.d tI]
abbrev q_6:List LK:=[.d tI,.d tI,.d tI,.d tI,.d (.sl a0i),.d (.sl a0i)]
abbrev q_7:List LK:=[.d tI,.d tI,.d tI,.d tI,.d tI,.d tI,.d tI,.d tI,.d tI,.d tI,.d tI,.d tI,.d (.sl a0n),.d (.ar 16 tI),.p 1 0 [1,16,16,1,1,1,1,1,1,16,16,1,1,1,1,1,1,1,1,1,1,1,1,1,1,1,1,1,1,1,1,1],.d tI,.d tI,.d tI,.d tI,.d tI,.d tI,.d tI,.d tI,.d tI,.d tI]
abbrev q_8:List LK:=[.d tI,.d (.ar 16 tW),.d (.ar 16 tI),.d tI,.d tI,.d tI,.d tI,.d tB,.d tI,.d (.ar 16 tW),.d (.ar 16 tI),.d tI,.d tI,.d tI,.d tI,.d tB,.d tI,.o a0k,.o tW,.o tW,.o tB,.o tB,.o a0t,.d (.sl a0j),.o tU,.o a0Q,.d tI,.d tI,.d tI,.d tI,.d tI,.d tI]
abbrev q_9:List LK:=[.r (.pair tI (.pair (.pair (.ar 16 tW) (.pair (.ar 16 tI) (.pair (.pair tI (.pair tI (.pair tI .unit))) (.pair tI (.pair tB (.pair tI .unit)))))) (.pair (.pair (.ar 16 tW) (.pair (.ar 16 tI) (.pair (.pair tI (.pair tI (.pair tI .unit))) (.pair tI (.pair tB (.pair tI .unit)))))) (.pair (.sl a0k) (.pair (.sl tW) (.pair (.sl tW) (.pair (.sl tB) (.pair (.sl tB) (.pair (.sl a0t) (.pair (.sl a0j) (.pair (.sl tU) (.pair (.sl a0Q) (.pair (.pair tI (.pair tI (.pair tI .unit))) (.pair tI (.pair tI (.pair tI .unit))))))))))))))))]
abbrev q_10:List LK:=[.d tI,.d tI,.d tI,.d tI,.d tI,.d tI,.d tI,.o a0i]
abbrev q_11:List LK:=[.d tI,.d tI,.d tI,.d tI,.d tI,.d (.ar 16 tW),.o tU,.o a0Q]
abbrev q_12:List LK:=[.d tI,.d tI,.d tI,.d tI,.d tI,.d (.ar 16 tW),.d (.sl tU),.d (.sl a0Q)]
def tis:List (Option TI):=[
 none,
 none,
 some { td:=.int .i64,lay:=[1],zk:=[.d (.int .i64)] },
 some { td:=.int .i64,lay:=[1],zk:=[.d (.int .i64)] },
 some { td:=.bool,lay:=[1],zk:=[.d .bool] },
 some { td:=.int .u8,lay:=[1],zk:=[.d (.int .u8)] },
 none,
 none,
 none,
 some { td:=.str,lay:=[1],zk:=[.d .str] },
 none,
 none,
 none,
 none,
 none,
 none,
 none,
 none,
 none,
 none,
 none,
 some { td:=.int .i32,lay:=[1],zk:=[.d (.int .i32)] },
 none,
 some { td:=.struct,lay:=[1,1,1,1,1,1,1,1,1,1,1,1],fl:=[(0,[1]),(1,[1]),(2,[1]),(3,[1]),(4,[1]),(5,[1]),(6,[1]),(7,[1]),(8,[1]),(9,[1]),(10,[1]),(11,[1])],fg:=[false,false,false,false,false,false,false,false,false,false,false,false],zk:=[.d (.int .i64),.d (.int .i64),.d (.int .i64),.d (.int .i64),.d (.int .i64),.d (.int .i64),.d (.int .i64),.d (.int .i64),.d (.int .i64),.d (.int .i64),.d (.int .i64),.d (.int .i64)],eqt:=some [(.int .i64),(.int .i64),(.int .i64),(.int .i64),(.int .i64),(.int .i64),(.int .i64),(.int .i64),(.int .i64),(.int .i64),(.int .i64),(.int .i64)] },
 some { td:=.slice,lay:=[1],ety:=(.pair (.int .i64) (.pair (.int .i64) (.pair (.int .i64) (.pair (.int .i64) (.pair (.int .i64) .unit))))),eby:=40,zk:=[.nils] },
 some { td:=.slice,lay:=[1],ety:=(.int .u8),eby:=1,zk:=[.nils] },
 none,
 some { td:=.struct,lay:=[1,1,1],fl:=[(0,[1]),(1,[1]),(2,[1])],fg:=[false,false,false],zk:=[.nils,.d (.int .i64),.nils] },
 some { td:=.int .u32,lay:=[1],zk:=[.d (.int .u32)] },
 some { td:=.array,lay:=[16],ety:=(.int .u32),eby:=4,n:=16,zk:=[.d (.ar 16 (.int .u32))],eqt:=some [(.ar 16 (.int .u32))] },
 some { td:=.array,lay:=[16],ety:=(.int .i64),eby:=8,n:=16,zk:=[.d (.ar 16 (.int .i64))],eqt:=some [(.ar 16 (.int .i64))] },
 none,
 some { td:=.struct,lay:=[1,1,1],fl:=[(0,[1]),(1,[1]),(2,[1])],fg:=[false,false,false],zk:=[.d (.int .i64),.d (.int .i64),.d (.int .i64)],eqt:=some [(.int .i64),(.int .i64),(.int .i64)] },
 none,
 some { td:=.struct,lay:=[16,16,1,1,1,1,1,1],fl:=[(0,[16]),(1,[16]),(2,[1,1,1]),(5,[1]),(6,[1]),(7,[1])],fg:=[true,true,true,false,false,false],zk:=[.d (.ar 16 (.int .u32)),.d (.ar 16 (.int .i64)),.d (.int .i64),.d (.int .i64),.d (.int .i64),.d (.int .i64),.d .bool,.d (.int .i64)],eqt:=some [(.ar 16 (.int .u32)),(.ar 16 (.int .i64)),(.int .i64),(.int .i64),(.int .i64),(.int .i64),.bool,(.int .i64)] },
 some { td:=.slice,lay:=[1],ety:=(.pair (.int .i64) (.pair .bool (.pair (.int .u32) .unit))),eby:=16,zk:=[.nils] },
 some { td:=.slice,lay:=[1],ety:=(.int .u32),eby:=4,zk:=[.nils] },
 some { td:=.slice,lay:=[1],ety:=.bool,eby:=1,zk:=[.nils] },
 some { td:=.slice,lay:=[1],ety:=(.pair (.int .i64) (.pair (.int .i64) (.pair (.int .i64) (.pair .bool (.pair (.int .u32) .unit))))),eby:=32,zk:=[.nils] },
 some { td:=.slice,lay:=[1],ety:=(.pair .bool (.pair (.int .i64) (.pair (.int .i64) (.pair (.int .i64) (.pair (.int .u32) (.pair (.int .i64) (.pair (.int .i64) (.pair (.int .i64) .unit)))))))),eby:=64,zk:=[.nils] },
 some { td:=.slice,lay:=[1],ety:=(.pair (.int .i64) (.pair (.int .i64) (.pair (.int .u32) .unit))),eby:=24,zk:=[.nils] },
 none,
 some { td:=.struct,lay:=[1,1,1],fl:=[(0,[1]),(1,[1]),(2,[1])],fg:=[false,false,false],zk:=[.d (.int .i64),.d (.int .i64),.d (.int .i64)],eqt:=some [(.int .i64),(.int .i64),(.int .i64)] },
 none,
 some { td:=.struct,lay:=[1,16,16,1,1,1,1,1,1,16,16,1,1,1,1,1,1,1,1,1,1,1,1,1,1,1,1,1,1,1,1,1],fl:=[(0,[1]),(1,[16,16,1,1,1,1,1,1]),(9,[16,16,1,1,1,1,1,1]),(17,[1]),(18,[1]),(19,[1]),(20,[1]),(21,[1]),(22,[1]),(23,[1]),(24,[1]),(25,[1]),(26,[1,1,1]),(29,[1]),(30,[1]),(31,[1])],fg:=[false,true,true,false,false,false,false,false,false,false,false,false,true,false,false,false],zk:=[.d (.int .i64),.d (.ar 16 (.int .u32)),.d (.ar 16 (.int .i64)),.d (.int .i64),.d (.int .i64),.d (.int .i64),.d (.int .i64),.d .bool,.d (.int .i64),.d (.ar 16 (.int .u32)),.d (.ar 16 (.int .i64)),.d (.int .i64),.d (.int .i64),.d (.int .i64),.d (.int .i64),.d .bool,.d (.int .i64),.nils,.nils,.nils,.nils,.nils,.nils,.nils,.nils,.nils,.d (.int .i64),.d (.int .i64),.d (.int .i64),.d (.int .i64),.d (.int .i64),.d (.int .i64)] },
 none,
 some { td:=.struct,lay:=[1,1,1,1,1],fl:=[(0,[1]),(1,[1]),(2,[1]),(3,[1]),(4,[1])],fg:=[false,false,false,false,false],zk:=[.d (.int .i64),.d (.int .i64),.d (.int .i64),.d (.int .i64),.d (.int .i64)],eqt:=some [(.int .i64),(.int .i64),(.int .i64),(.int .i64),(.int .i64)] },
 none,
 some { td:=.struct,lay:=[1,1,1,1,1,1,1,1,1],fl:=[(0,[1]),(1,[1,1,1,1,1]),(6,[1]),(7,[1]),(8,[1])],fg:=[false,true,false,false,false],zk:=[.d (.int .i64),.d (.int .i64),.d (.int .i64),.d (.int .i64),.d (.int .i64),.d (.int .i64),.d (.int .i64),.d (.int .i64),.d (.int .i64)],eqt:=some [(.int .i64),(.int .i64),(.int .i64),(.int .i64),(.int .i64),(.int .i64),(.int .i64),(.int .i64),(.int .i64)] },
 none,
 some { td:=.slice,lay:=[1],ety:=(.pair (.int .i64) (.pair (.int .i64) (.pair (.int .i64) (.pair (.int .i64) (.pair (.sl (.pair (.int .i64) (.pair (.pair (.int .i64) (.pair (.int .i64) (.pair (.int .i64) (.pair (.int .i64) (.pair (.int .i64) .unit))))) (.pair (.int .i64) (.pair (.int .i64) (.pair (.int .i64) .unit)))))) (.pair (.sl (.pair (.int .i64) (.pair (.pair (.int .i64) (.pair (.int .i64) (.pair (.int .i64) (.pair (.int .i64) (.pair (.int .i64) .unit))))) (.pair (.int .i64) (.pair (.int .i64) (.pair (.int .i64) .unit)))))) .unit)))))),eby:=80,zk:=[.nils] },
 none,
 some { td:=.struct,lay:=[1,16],fl:=[(0,[1]),(1,[16])],fg:=[false,true],zk:=[.nils,.d (.ar 16 (.int .i64))] },
 none,
 none,
 none,
 none,
 some { td:=.slice,lay:=[1],ety:=(.int .i64),eby:=8,zk:=[.nils] },
 none,
 none,
 none,
 none,
 none,
 none,
 none,
 none,
 none,
 none,
 none,
 none,
 some { td:=.struct,lay:=[1,1,1],fl:=[(0,[1]),(1,[1]),(2,[1])],fg:=[false,false,false],zk:=[.d (.int .i64),.d .bool,.d (.int .u32)],eqt:=some [(.int .i64),.bool,(.int .u32)] },
 none,
 none,
 none,
 none,
 none,
 some { td:=.struct,lay:=[1,1,1,1,1],fl:=[(0,[1]),(1,[1]),(2,[1]),(3,[1]),(4,[1])],fg:=[false,false,false,false,false],zk:=[.d (.int .i64),.d (.int .i64),.d (.int .i64),.d .bool,.d (.int .u32)],eqt:=some [(.int .i64),(.int .i64),(.int .i64),.bool,(.int .u32)] },
 none,
 some { td:=.struct,lay:=[1,1,1,1,1,1,1,1],fl:=[(0,[1]),(1,[1]),(2,[1]),(3,[1]),(4,[1]),(5,[1]),(6,[1]),(7,[1])],fg:=[false,false,false,false,false,false,false,false],zk:=[.d .bool,.d (.int .i64),.d (.int .i64),.d (.int .i64),.d (.int .u32),.d (.int .i64),.d (.int .i64),.d (.int .i64)],eqt:=some [.bool,(.int .i64),(.int .i64),(.int .i64),(.int .u32),(.int .i64),(.int .i64),(.int .i64)] },
 none,
 none,
 none,
 none,
 none,
 none,
 none,
 none,
 some { td:=.struct,lay:=[1,1],fl:=[(0,[1]),(1,[1])],fg:=[false,false],zk:=[.nils,.nils] },
 none,
 none,
 none,
 none,
 none,
 some { td:=.struct,lay:=[1,1,1],fl:=[(0,[1]),(1,[1]),(2,[1])],fg:=[false,false,false],zk:=[.d (.int .i64),.d (.int .i64),.d (.int .u32)],eqt:=some [(.int .i64),(.int .i64),(.int .u32)] },
 some { td:=.int .u64,lay:=[1],zk:=[.d (.int .u64)] },
 none,
 none,
 some { td:=.struct,lay:=[1,1,1,1,1,16,1,1],fl:=[(0,[1]),(1,[1,1,1]),(4,[1]),(5,[16]),(6,[1]),(7,[1])],fg:=[false,true,false,true,false,false],zk:=[.d (.int .i64),.d (.int .i64),.d (.int .i64),.d (.int .i64),.d (.int .i64),.d (.ar 16 (.int .u32)),.nils,.nils] },
 some { td:=.int .i64,lay:=[1],zk:=[.d (.int .i64)] },
 none,
 none,
 none,
 none,
 none,
 none,
 none,
 none,
 none,
 none,
 none,
 none,
 none,
 none,
 none,
 none,
 none,
 none,
 none,
 none,
 none,
 none,
 none,
 none,
 none,
 some { td:=.ptr,lay:=[1],zk:=[.nilp] },
 none,
 none,
 none,
 none,
 none,
 none,
 none,
 none,
 none,
 none,
 none,
 none,
 none,
 none,
 none,
 none,
 none,
 some { td:=.slice,lay:=[1],ety:=(.pair (.int .i64) (.pair (.pair (.int .i64) (.pair (.int .i64) (.pair (.int .i64) (.pair (.int .i64) (.pair (.int .i64) .unit))))) (.pair (.int .i64) (.pair (.int .i64) (.pair (.int .i64) .unit))))),eby:=72,zk:=[.nils] },
 none,
 none,
 none,
 none,
 none,
 none,
 none,
 none,
 none,
 none,
 none,
 none,
 none,
 none,
 none,
 none,
 none,
 none,
 some { td:=.struct,lay:=[1,1,1,1,1,1],fl:=[(0,[1]),(1,[1]),(2,[1]),(3,[1]),(4,[1]),(5,[1])],fg:=[false,false,false,false,false,false],zk:=[.d (.int .i64),.d (.int .i64),.d (.int .i64),.d (.int .i64),.nils,.nils] },
 none,
 none,
 none,
 none,
 none,
 none,
 none,
 none,
 none,
 none,
 none,
 none,
 none,
 none,
 none,
 none,
 none,
 none,
 none,
 none,
 none,
 none,
 none,
 none,
 none,
 none,
 none,
 none,
 none,
 none,
 none,
 none,
 none,
 none,
 none,
 none,
 none,
 none,
 some { td:=.struct,lay:=[1,1,1,1,1,1,1,1,1,1,1,1,1,16,1,1,1,1,1,1,1,1,1,1,1],fl:=[(0,[1,1,1,1,1,1,1,1,1,1,1,1]),(12,[1,16]),(14,[1]),(15,[1,1,1,1,1,1,1,1,1]),(24,[1])],fg:=[true,true,false,true,false],zk:=[.d (.int .i64),.d (.int .i64),.d (.int .i64),.d (.int .i64),.d (.int .i64),.d (.int .i64),.d (.int .i64),.d (.int .i64),.d (.int .i64),.d (.int .i64),.d (.int .i64),.d (.int .i64),.nils,.d (.ar 16 (.int .i64)),.nilp,.d (.int .i64),.d (.int .i64),.d (.int .i64),.d (.int .i64),.d (.int .i64),.d (.int .i64),.d (.int .i64),.d (.int .i64),.d (.int .i64),.d (.int .i64)] },
 none,
 none,
 none,
 none,
 none,
 none,
 none,
 none,
 none,
 none,
 none,
 none,
 none,
 none,
 none,
 none,
 none,
 none,
 none,
 none,
 none,
 none,
 none,
 none,
 none,
 none,
 none,
 none,
 none,
 none,
 none,
 none,
 none,
 none,
 some { td:=.struct,lay:=[1,1,1],fl:=[(0,[1]),(1,[1]),(2,[1])],fg:=[false,false,false],zk:=[.d (.int .i64),.d (.int .i64),.nils] },
 none,
 none,
 none,
 none,
 none,
 none,
 none,
 none,
 none,
 none,
 none,
 none,
 none,
 none,
 none,
 none,
 none,
 none,
 none,
 none,
 none,
 none,
 none,
 none,
 none,
 none,
 none,
 none,
 none,
 none,
 none,
 none,
 none,
 none,
 none,
 none,
 none,
 none,
 some { td:=.struct,lay:=[1,1,1,1,1,1,1,1],fl:=[(0,[1,1,1,1,1]),(5,[1]),(6,[1]),(7,[1])],fg:=[true,false,false,false],zk:=[.d (.int .i64),.d (.int .i64),.d (.int .i64),.d (.int .i64),.d (.int .i64),.d (.int .i64),.d (.int .i64),.nils] },
 none,
 none,
 none,
 none,
 some { td:=.int .i16,lay:=[1],zk:=[.d (.int .i16)] },
 some { td:=.int .i8,lay:=[1],zk:=[.d (.int .i8)] },
 none,
 none,
 none,
 none,
 none,
 none,
 none,
 none,
 none,
 none,
 none,
 some { td:=.other,lay:=[1],zk:=[.any 1] },
 some { td:=.int .u64,lay:=[1],zk:=[.d (.int .u64)] },
 none,
 none,
 none,
 none,
 none,
 none,
 none,
 none,
 none,
 none,
 none,
 none,
 none,
 none,
 none,
 none,
 none,
 none,
 none,
 none,
 none,
 none,
 none,
 none,
 none,
 none,
 none,
 none,
 none,
 none,
 none,
 none]
def cx0:Cx:={ ti:=fun t=>nthD none tis t }
theorem e8s:chkAll Go.Proofs.Tryz.prog tis 0 = true:=by kernel_rfl
theorem a0r:TIok Go.Proofs.Tryz.prog cx0:=e4v e8s
def tis1:List (Option TI):=[
 none,
 none,
 none,
 some { td:=.int .i64,lay:=[1],zk:=[.d (.int .i64)] },
 none,
 none,
 none,
 none,
 none,
 none,
 none,
 none,
 none,
 none,
 none,
 none,
 none,
 none,
 none,
 none,
 none,
 none,
 none,
 none,
 some { td:=.slice,lay:=[1],ety:=(.pair (.int .i64) (.pair (.int .i64) (.pair (.int .i64) (.pair (.int .i64) (.pair (.int .i64) .unit))))),eby:=40,zk:=[.nils] },
 none,
 none,
 some { td:=.struct,lay:=[1,1,1],fl:=[(0,[1]),(1,[1]),(2,[1])],fg:=[false,false,false],zk:=[.nils,.d (.int .i64),.nils] },
 none,
 none,
 none,
 none,
 none,
 none,
 none,
 none,
 none,
 none,
 none,
 none,
 none,
 none,
 none,
 none,
 none,
 none,
 some { td:=.struct,lay:=[1,1,1,1,1],fl:=[(0,[1]),(1,[1]),(2,[1]),(3,[1]),(4,[1])],fg:=[false,false,false,false,false],zk:=[.d (.int .i64),.d (.int .i64),.d (.int .i64),.d (.int .i64),.d (.int .i64)],eqt:=some [(.int .i64),(.int .i64),(.int .i64),(.int .i64),(.int .i64)] },
 none,
 none,
 none,
 some { td:=.slice,lay:=[1],ety:=(.pair (.int .i64) (.pair (.int .i64) (.pair (.int .i64) (.pair (.int .i64) (.pair .nl (.pair .nl .unit)))))),eby:=80,zk:=[.nils] },
 none,
 none,
 none,
 none,
 none,
 none,
 some { td:=.slice,lay:=[1],ety:=(.int .i64),eby:=8,zk:=[.nils] },
 none,
 none,
 none,
 none,
 none,
 none,
 none,
 none,
 none,
 none,
 none,
 none,
 none,
 none,
 none,
 none,
 none,
 none,
 none,
 none,
 none,
 none,
 none,
 none,
 none,
 none,
 none,
 none,
 none,
 none,
 none,
 none,
 none,
 none,
 none,
 none,
 none,
 none,
 none,
 none,
 none,
 none,
 none,
 none,
 none,
 none,
 none,
 none,
 none,
 none,
 none,
 none,
 none,
 none,
 none,
 none,
 none,
 none,
 none,
 none,
 none,
 none,
 none,
 none,
 none,
 none,
 none,
 none,
 none,
 none,
 none,
 none,
 none,
 none,
 none,
 none,
 none,
 none,
 none,
 none,
 none,
 none,
 none,
 none,
 none,
 none,
 none,
 none,
 none,
 none,
 none,
 none,
 none,
 none,
 none,
 none,
 none,
 none,
 none,
 none,
 none,
 none,
 none,
 some { td:=.struct,lay:=[1,1,1,1,1,1],fl:=[(0,[1]),(1,[1]),(2,[1]),(3,[1]),(4,[1]),(5,[1])],fg:=[false,false,false,false,false,false],zk:=[.d (.int .i64),.d (.int .i64),.d (.int .i64),.d (.int .i64),.nils,.nils] },
 none,
 none,
 none,
 none,
 none,
 none,
 none,
 none,
 none,
 none,
 none,
 none,
 none,
 none,
 none,
 none,
 none,
 none,
 none,
 none,
 none,
 none,
 none,
 none,
 none,
 none,
 none,
 none,
 none,
 none,
 none,
 none,
 none,
 none,
 none,
 none,
 none,
 none,
 none,
 none,
 none,
 none,
 none,
 none,
 none,
 none,
 none,
 none,
 none,
 none,
 none,
 none,
 none,
 none,
 none,
 none,
 none,
 none,
 none,
 none,
 none,
 none,
 none,
 none,
 none,
 none,
 none,
 none,
 none,
 none,
 none,
 none,
 none,
 none,
 none,
 none,
 none,
 none,
 none,
 none,
 none,
 none,
 none,
 none,
 none,
 none,
 none,
 none,
 none,
 none,
 none,
 none,
 none,
 none,
 none,
 none,
 none,
 none,
 none,
 none,
 none,
 none,
 none,
 none,
 none,
 none,
 none,
 none,
 none,
 none,
 none,
 none,
 none,
 none,
 none,
 none,
 none,
 none,
 none,
 none,
 none,
 none,
 none,
 none,
 none,
 none,
 none,
 none,
 none,
 none,
 none,
 none,
 none,
 none,
 none,
 none,
 none,
 none,
 none,
 none,
 none,
 none,
 none,
 none,
 none,
 none,
 none,
 none,
 none,
 none,
 none,
 none,
 none,
 none,
 none,
 none,
 none,
 none,
 none,
 none,
 none,
 none,
 none,
 none]
def cx1:Cx:={ ti:=fun t=>nthD none tis1 t }
theorem e7c:chkAll Go.Proofs.Tryz.prog tis1 0 = true:=by kernel_rfl
theorem e6o:TIok Go.Proofs.Tryz.prog cx1:=e4v e7c
theorem hmix:Go.Proofs.Tryz.prog.follows .mixedOrders = true:=by kernel_rfl
/-! Shorter words for what the prints say. -/
abbrev OR:=Option Rs
theorem g7q {α:Type} {P:α→Prop}:AllP P []:=trivial
theorem g7o {α:Type} {P:α→Prop} {a:α} (h:P a):AllP P [a]:=⟨h,trivial⟩
theorem g7x {α:Type} {P:α→Prop} {a b:α} (h:P a) (g:P b):AllP P [a,b]:=⟨h,g,trivial⟩
theorem g7s {α:Type} {P:α→Prop} {a b c:α} (h:P a) (g:P b) (i:P c):AllP P [a,b,c]:=⟨h,g,i,trivial⟩
theorem g7p {α:Type} {P:α→Prop} {a:α} {l:List α} (h:P a) (g:AllP P l):AllP P (a::l):=⟨h,g⟩
theorem g7B {α:Type} {l:List CE}:∀ {c:List (α × CS)},c.map (fun e=>lookC l e.2.id) = c.map (fun e=>some e.2)→AllP (fun e=>lookC l e.2.id = some e.2) c
 | [],_=>trivial
 | _::_,h=>⟨(List.cons.inj h).1,g7B (List.cons.inj h).2⟩
theorem fn_L {cx:Cx} (hti:TIok Q cx) (fn:Func) (hi:Hi) {l:List CE} (hct:AllP (CEok Q) l) {cs:CS} {t:List LE} {nb:Nat} (hlt:AllP (LEok Q hi (bodOf fn) fn.ntmps nb) t) {ts us:List PG} {e:Fn' (Option Rs) ts}
  (hk:∀ ys:TupG ts,den cx hi (ctL l) (ltL t) fn (codeOf fn) cs.i cs.r cs.ob (dvG ts ys) = apG ts e ys:=by intro ys; kernel_rfl)
  (hf:Fn Q cs.fn fn (codeOf fn):=by constructor <;> kernel_rfl) (hcs:hi.cs.map (fun e=>lookC l e.2.id) = hi.cs.map (fun e=>some e.2):=by kernel_rfl)
  (hone:cs.one = Nat.beq fn.results.size 1:=by kernel_rfl) (hrl:cs.r.length = fn.results.size:=by kernel_rfl) (hnb:cs.i.bx.length = nb:=by kernel_rfl):CEok Q (cs,mkF ts us e) :=
 fnG hti hmix hct (g7B hcs) hf hone hrl (hnb ▸ hlt) hk
theorem fn_K {cx:Cx} (hti:TIok Q cx) (fn:Func) (hi:Hi) {l:List CE} (hct:AllP (CEok Q) l) {cs:CS} {ts us:List PG} {e:Fn' (Option Rs) ts}
  (hk:∀ ys:TupG ts,den cx hi (ctL l) (ltL []) fn (codeOf fn) cs.i cs.r cs.ob (dvG ts ys) = apG ts e ys:=by intro ys; kernel_rfl)
  (hf:Fn Q cs.fn fn (codeOf fn):=by constructor <;> kernel_rfl) (hcs:hi.cs.map (fun e=>lookC l e.2.id) = hi.cs.map (fun e=>some e.2):=by kernel_rfl)
  (hone:cs.one = Nat.beq fn.results.size 1:=by kernel_rfl) (hrl:cs.r.length = fn.results.size:=by kernel_rfl):CEok Q (cs,mkF ts us e) :=
 fnG (t:=[]) hti hmix hct (g7B hcs) hf hone hrl trivial hk
theorem g7G {cx:Cx} (hti:TIok Q cx) (f:FuncId) (ls:LS) {hi:Hi} {l:List CE} {fn:Func} (hct:AllP (CEok Q) l) {nb b:Nat} {t:List LE} (hlt:AllP (LEok Q hi (bodOf fn) fn.ntmps nb) t) {ts:List PG} {xs:List (Nat × List PG)} {r:Fn' (Option Rs) ts→Fn' (Option Rs) ts} {n:Nat}
  (hr:∀ A ys,round cx hi (ctL l) (ltL t) fn.ntmps nb b ls (bodyAt fn b) A (dvG ts ys) = apG ts (r (cK ts A)) ys:=by intro A ys; kernel_rfl)
  (hf:Fn Q f fn (codeOf fn):=by constructor <;> kernel_rfl) (hcs:hi.cs.map (fun e=>lookC l e.2.id) = hi.cs.map (fun e=>some e.2):=by kernel_rfl)
  (h1:lookN hi.ls b = some ls:=by kernel_rfl) (h2:(bodOf fn).lp b = some (bodyAt fn b):=by kernel_rfl) (h3:memN b hi.js = false:=by rfl):LEok Q hi (bodOf fn) fn.ntmps nb (b,mkM ts xs (lpG r n)) :=
 loopG hti hmix hct (g7B hcs) hf hlt h1 h2 hr h3
theorem g7r {cx:Cx} (hti:TIok Q cx) (f:FuncId) (ls:LS) {hi:Hi} {l:List CE} {fn:Func} (hct:AllP (CEok Q) l) {nb b:Nat} {ts:List PG} {xs:List (Nat × List PG)} {r:Fn' (Option Rs) ts→Fn' (Option Rs) ts} {n:Nat}
  (hr:∀ A ys,round cx hi (ctL l) (ltL []) fn.ntmps nb b ls (bodyAt fn b) A (dvG ts ys) = apG ts (r (cK ts A)) ys:=by intro A ys; kernel_rfl)
  (hf:Fn Q f fn (codeOf fn):=by constructor <;> kernel_rfl) (hcs:hi.cs.map (fun e=>lookC l e.2.id) = hi.cs.map (fun e=>some e.2):=by kernel_rfl)
  (h1:lookN hi.ls b = some ls:=by kernel_rfl) (h2:(bodOf fn).lp b = some (bodyAt fn b):=by kernel_rfl) (h3:memN b hi.js = false:=by rfl):LEok Q hi (bodOf fn) fn.ntmps nb (b,mkM ts xs (lpG r n)) :=
 loopG (t:=[]) hti hmix hct (g7B hcs) hf trivial h1 h2 hr h3
end
end Go.Proofs.Zz
