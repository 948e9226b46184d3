import Derived.Test.YtnfpdmhdpeffjaaGreatEnhS
import Derived.KernelRfl
import Derived.Test.YtnfpdmhdpeffjaaGreatProg
set_option linter.unusedSimpArgs false
set_option linter.unusedVariables false
set_option maxRecDepth 100000
namespace Go.Proofs.Zz
noncomputable section
open Go
abbrev Kl:List Nat:=[1,1,1,1,1,1,1,1]
abbrev Kk:Ty:=.pair tI (.pair tI (.pair tI .unit))
abbrev Kj:List Nat:=[1,1,1,1,1,16,1,1]
abbrev Ki:List Nat:=[1,1,1,1,1,1,1,1,1,1,1,1]
abbrev Kg:List Nat:=[1,1,1,1,1,1,1,1,1,1,1,1,1,16,1,1,1,1,1,1,1,1,1,1,1]
abbrev Kf:List Nat:=[16,16,1,1,1,1,1,1]
abbrev Ke:Ty:=.pair (.ar 16 tW) (.pair (.ar 16 tI) (.pair (.pair tI (.pair tI (.pair tI .unit))) (.pair tI (.pair tB (.pair tI .unit)))))
abbrev Kd:Ty:=.pair (.int .i64) (.pair (.int .i64) (.pair (.int .i64) .unit))
abbrev Kh:Ty:=.pair (.int .i64) (.pair (.int .i64) Kd)
abbrev Kc:Ty:=.pair tI (.pair tI (.pair tI (.pair tI (.pair .nl (.pair .nl .unit)))))
abbrev Kb:List Nat:=[1,16,16,1,1,1,1,1,1,16,16,1,1,1,1,1,1,1,1,1,1,1,1,1,1,1,1,1,1,1,1,1]
@[reducible] noncomputable def Q:Program:=Go.Proofs.Tryz.prog
abbrev af:Type:=Int × Int × Int × Int × Int × Unit
abbrev aK:Ty:=.pair tI (.pair tI Kk)
abbrev af.z:af:=(0,(0,(0,(0,(0,())))))
def e2E:Gp af:=⟨[tI,tI,tI,tI,tI],λy=>(y.1,(y.2.1,(y.2.2.1,(y.2.2.2.1,(y.2.2.2.2.1,()))))),λa=>(a.1,a.2.1,a.2.2.1,a.2.2.2.1,a.2.2.2.2.1,()),λ_=>rfl,λ_=>rfl,λa q=>⟨tI,a.1⟩::⟨tI,a.2.1⟩::⟨tI,a.2.2.1⟩::⟨tI,a.2.2.2.1⟩::⟨tI,a.2.2.2.2.1⟩::q,λp k=>Zz.un tI p λb0 p=>Zz.un tI p λb1 p=>Zz.un tI p λb2 p=>Zz.un tI p λb3 p=>Zz.un tI p λb4 p=>k (b0,(b1,(b2,(b3,(b4,()))))) p,λ_ _=>rfl,λ_ _=>rfl⟩
@[reducible] noncomputable def dX:PG:=⟨af,e2E⟩
abbrev ak:Type:=Int × af × Int × Int × Int × Unit
abbrev az:Ty:=.pair tI (.pair aK Kk)
abbrev ak.z:ak:=(0,((0,(0,(0,(0,(0,()))))),(0,(0,(0,())))))
def bS:Gp ak:=⟨[tI,tI,tI,tI,tI,tI,tI,tI,tI],λy=>(y.1,((y.2.1,(y.2.2.1,(y.2.2.2.1,(y.2.2.2.2.1,(y.2.2.2.2.2.1,()))))),(y.2.2.2.2.2.2.1,(y.2.2.2.2.2.2.2.1,(y.2.2.2.2.2.2.2.2.1,()))))),λa=>(a.1,a.2.1.1,a.2.1.2.1,a.2.1.2.2.1,a.2.1.2.2.2.1,a.2.1.2.2.2.2.1,a.2.2.1,a.2.2.2.1,a.2.2.2.2.1,()),λ_=>rfl,λ_=>rfl,λa q=>⟨tI,a.1⟩::⟨tI,a.2.1.1⟩::⟨tI,a.2.1.2.1⟩::⟨tI,a.2.1.2.2.1⟩::⟨tI,a.2.1.2.2.2.1⟩::⟨tI,a.2.1.2.2.2.2.1⟩::⟨tI,a.2.2.1⟩::⟨tI,a.2.2.2.1⟩::⟨tI,a.2.2.2.2.1⟩::q,λp k=>Zz.un tI p λb0 p=>Zz.un tI p λb1 p=>Zz.un tI p λb2 p=>Zz.un tI p λb3 p=>Zz.un tI p λb4 p=>Zz.un tI p λb5 p=>Zz.un tI p λb6 p=>Zz.un tI p λb7 p=>Zz.un tI p λb8 p=>k (b0,((b1,(b2,(b3,(b4,(b5,()))))),(b6,(b7,(b8,()))))) p,λ_ _=>rfl,λ_ _=>rfl⟩
@[reducible] noncomputable def ci:PG:=⟨ak,bS⟩
abbrev aO:Type:=Int × Bool × Int × Unit
abbrev bB:Ty:=.pair tI (.pair tB (.pair tW .unit))
abbrev aO.z:aO:=(0,(false,(0,())))
def e0Z:Gp aO:=⟨[tI,tB,tW],λy=>(y.1,(y.2.1,(y.2.2.1,()))),λa=>(a.1,a.2.1,a.2.2.1,()),λ_=>rfl,λ_=>rfl,λa q=>⟨tI,a.1⟩::⟨tB,a.2.1⟩::⟨tW,a.2.2.1⟩::q,λp k=>Zz.un tI p λb0 p=>Zz.un tB p λb1 p=>Zz.un tW p λb2 p=>k (b0,(b1,(b2,()))) p,λ_ _=>rfl,λ_ _=>rfl⟩
@[reducible] noncomputable def e0u:PG:=⟨aO,e0Z⟩
abbrev aF:Type:=Int × Int × Int × Bool × Int × Unit
abbrev bN:Ty:=.pair tI (.pair tI (.pair tI (.pair tB (.pair tW .unit))))
abbrev aF.z:aF:=(0,(0,(0,(false,(0,())))))
def eG:Gp aF:=⟨[tI,tI,tI,tB,tW],λy=>(y.1,(y.2.1,(y.2.2.1,(y.2.2.2.1,(y.2.2.2.2.1,()))))),λa=>(a.1,a.2.1,a.2.2.1,a.2.2.2.1,a.2.2.2.2.1,()),λ_=>rfl,λ_=>rfl,λa q=>⟨tI,a.1⟩::⟨tI,a.2.1⟩::⟨tI,a.2.2.1⟩::⟨tB,a.2.2.2.1⟩::⟨tW,a.2.2.2.2.1⟩::q,λp k=>Zz.un tI p λb0 p=>Zz.un tI p λb1 p=>Zz.un tI p λb2 p=>Zz.un tB p λb3 p=>Zz.un tW p λb4 p=>k (b0,(b1,(b2,(b3,(b4,()))))) p,λ_ _=>rfl,λ_ _=>rfl⟩
@[reducible] noncomputable def cY:PG:=⟨aF,eG⟩
abbrev am:Type:=Bool × Int × Int × Int × Int × Int × Int × Int × Unit
abbrev cC:Ty:=.pair tB (.pair tI (.pair tI (.pair tI (.pair tW Kk))))
abbrev am.z:am:=(false,(0,(0,(0,(0,(0,(0,(0,()))))))))
def d3d:Gp am:=⟨[tB,tI,tI,tI,tW,tI,tI,tI],λy=>(y.1,(y.2.1,(y.2.2.1,(y.2.2.2.1,(y.2.2.2.2.1,(y.2.2.2.2.2.1,(y.2.2.2.2.2.2.1,(y.2.2.2.2.2.2.2.1,())))))))),λa=>(a.1,a.2.1,a.2.2.1,a.2.2.2.1,a.2.2.2.2.1,a.2.2.2.2.2.1,a.2.2.2.2.2.2.1,a.2.2.2.2.2.2.2.1,()),λ_=>rfl,λ_=>rfl,λa q=>⟨tB,a.1⟩::⟨tI,a.2.1⟩::⟨tI,a.2.2.1⟩::⟨tI,a.2.2.2.1⟩::⟨tW,a.2.2.2.2.1⟩::⟨tI,a.2.2.2.2.2.1⟩::⟨tI,a.2.2.2.2.2.2.1⟩::⟨tI,a.2.2.2.2.2.2.2.1⟩::q,λp k=>Zz.un tB p λb0 p=>Zz.un tI p λb1 p=>Zz.un tI p λb2 p=>Zz.un tI p λb3 p=>Zz.un tW p λb4 p=>Zz.un tI p λb5 p=>Zz.un tI p λb6 p=>Zz.un tI p λb7 p=>k (b0,(b1,(b2,(b3,(b4,(b5,(b6,(b7,())))))))) p,λ_ _=>rfl,λ_ _=>rfl⟩
@[reducible] noncomputable def a3C:PG:=⟨am,d3d⟩
abbrev bv:Type:=Int × Int × Int × Unit
abbrev de:Ty:=.pair tI (.pair tI (.pair tW .unit))
abbrev Ka:Ty:=.pair tI (.pair (.pair (.ar 16 tW) (.pair (.ar 16 tI) (.pair (.pair tI (.pair tI (.pair tI .unit))) (.pair tI (.pair tB (.pair tI .unit)))))) (.pair (.pair (.ar 16 tW) (.pair (.ar 16 tI) (.pair (.pair tI (.pair tI (.pair tI .unit))) (.pair tI (.pair tB (.pair tI .unit)))))) (.pair (.sl bB) (.pair (.sl tW) (.pair (.sl tW) (.pair (.sl tB) (.pair (.sl tB) (.pair (.sl bN) (.pair (.sl cC) (.pair (.sl tU) (.pair (.sl de) (.pair (.pair tI (.pair tI (.pair tI .unit))) (.pair tI (.pair tI (.pair tI .unit)))))))))))))))
abbrev bv.z:bv:=(0,(0,(0,())))
def d7K:Gp bv:=⟨[tI,tI,tW],λy=>(y.1,(y.2.1,(y.2.2.1,()))),λa=>(a.1,a.2.1,a.2.2.1,()),λ_=>rfl,λ_=>rfl,λa q=>⟨tI,a.1⟩::⟨tI,a.2.1⟩::⟨tW,a.2.2.1⟩::q,λp k=>Zz.un tI p λb0 p=>Zz.un tI p λb1 p=>Zz.un tW p λb2 p=>k (b0,(b1,(b2,()))) p,λ_ _=>rfl,λ_ _=>rfl⟩
@[reducible] noncomputable def kR:PG:=⟨bv,d7K⟩
abbrev aW:Type:=Int × Int × Int × Int × (List ak) × (List ak) × Unit
abbrev aN:Ty:=.pair tI (.pair tI (.pair tI (.pair tI (.pair (.sl az) (.pair (.sl az) .unit)))))
abbrev aW.z:aW:=(0,(0,(0,(0,(([]:(List (Int × ((Int × (Int × (Int × (Int × (Int × Unit))))) × (Int × (Int × (Int × Unit))))))),(([]:(List (Int × ((Int × (Int × (Int × (Int × (Int × Unit))))) × (Int × (Int × (Int × Unit))))))),()))))))
def d7L:Gp aW:=⟨[tI,tI,tI,tI,(.sl az),(.sl az)],λy=>(y.1,(y.2.1,(y.2.2.1,(y.2.2.2.1,(y.2.2.2.2.1,(y.2.2.2.2.2.1,())))))),λa=>(a.1,a.2.1,a.2.2.1,a.2.2.2.1,a.2.2.2.2.1,a.2.2.2.2.2.1,()),λ_=>rfl,λ_=>rfl,λa q=>⟨tI,a.1⟩::⟨tI,a.2.1⟩::⟨tI,a.2.2.1⟩::⟨tI,a.2.2.2.1⟩::⟨(.sl az),a.2.2.2.2.1⟩::⟨(.sl az),a.2.2.2.2.2.1⟩::q,λp k=>Zz.un tI p λb0 p=>Zz.un tI p λb1 p=>Zz.un tI p λb2 p=>Zz.un tI p λb3 p=>Zz.un (.sl az) p λb4 p=>Zz.un (.sl az) p λb5 p=>k (b0,(b1,(b2,(b3,(b4,(b5,())))))) p,λ_ _=>rfl,λ_ _=>rfl⟩
@[reducible] noncomputable def c7d:PG:=⟨aW,d7L⟩
@[ext] structure bc where
 A7:Int
 B3:Int
 D3:Int
def bc.z:bc:=⟨0,0,0⟩
def e9:Gp bc:=⟨[tI,tI,tI],λy=>⟨y.1,y.2.1,y.2.2.1⟩,λa=>(a.A7,a.B3,a.D3,()),λ_=>rfl,λ_=>rfl,λa q=>⟨tI,a.A7⟩::⟨tI,a.B3⟩::⟨tI,a.D3⟩::q,λp k=>Zz.un tI p λb0 p=>Zz.un tI p λb1 p=>Zz.un tI p λb2 p=>k ⟨b0,b1,b2⟩ p,λ_ _=>rfl,λ_ _=>rfl⟩
@[reducible] noncomputable def dP:PG:=⟨bc,e9⟩
@[ext] structure aI where
 B1:List Int
 A8:List Int
 A6:bc
 C3:Int
 A4:Bool
 A5:Int
def aI.z:aI:=⟨(List.replicate 16 (0 :Int)),(List.replicate 16 (0 :Int)),bc.z,0,false,0⟩
def iH:Gp aI:=⟨[(.ar 16 tW),(.ar 16 tI),tI,tI,tI,tI,tB,tI],λy=>⟨y.1,y.2.1,⟨y.2.2.1,y.2.2.2.1,y.2.2.2.2.1⟩,y.2.2.2.2.2.1,y.2.2.2.2.2.2.1,y.2.2.2.2.2.2.2.1⟩,λa=>(a.B1,a.A8,a.A6.A7,a.A6.B3,a.A6.D3,a.C3,a.A4,a.A5,()),λ_=>rfl,λ_=>rfl,λa q=>⟨(.ar 16 tW),a.B1⟩::⟨(.ar 16 tI),a.A8⟩::⟨tI,a.A6.A7⟩::⟨tI,a.A6.B3⟩::⟨tI,a.A6.D3⟩::⟨tI,a.C3⟩::⟨tB,a.A4⟩::⟨tI,a.A5⟩::q,λp k=>Zz.un (.ar 16 tW) p λb0 p=>Zz.un (.ar 16 tI) p λb1 p=>Zz.un tI p λb2 p=>Zz.un tI p λb3 p=>Zz.un tI p λb4 p=>Zz.un tI p λb5 p=>Zz.un tB p λb6 p=>Zz.un tI p λb7 p=>k ⟨b0,b1,⟨b2,b3,b4⟩,b5,b6,b7⟩ p,λ_ _=>rfl,λ_ _=>rfl⟩
@[reducible] noncomputable def fu:PG:=⟨aI,iH⟩
def d6W:Gp aI:=⟨[Ke],λy=>⟨y.1.1,y.1.2.1,⟨y.1.2.2.1.1,y.1.2.2.1.2.1,y.1.2.2.1.2.2.1⟩,y.1.2.2.2.1,y.1.2.2.2.2.1,y.1.2.2.2.2.2.1⟩,λa=>((a.B1,(a.A8,((a.A6.A7,(a.A6.B3,(a.A6.D3,()))),(a.C3,(a.A4,(a.A5,())))))),()),λ_=>rfl,λ_=>rfl,λa q=>⟨Ke,(a.B1,(a.A8,((a.A6.A7,(a.A6.B3,(a.A6.D3,()))),(a.C3,(a.A4,(a.A5,()))))))⟩::q,λp k=>Zz.un Ke p λb0 p=>k ⟨b0.1,b0.2.1,⟨b0.2.2.1.1,b0.2.2.1.2.1,b0.2.2.1.2.2.1⟩,b0.2.2.2.1,b0.2.2.2.2.1,b0.2.2.2.2.2.1⟩ p,λ_ _=>rfl,λ_ _=>rfl⟩
@[reducible] noncomputable def c8H:PG:=⟨aI,d6W⟩
@[ext] structure cQ where
 C2:Int
 C5:Int
 Pc:Int
def cQ.z:cQ:=⟨0,0,0⟩
@[ext] structure aa where
 A1:Int
 A:aI
 E:aI
 B9:List aO
 C9:List Int
 C7:List Int
 C6:List Bool
 C8:List Bool
 B0:List aF
 A0:List am
 Mem:List Int
 A2:List bv
 A9:cQ
 B6:Int
 B5:Int
 C0:Int
def aA:Gp aa:=⟨[tI,(.ar 16 tW),(.ar 16 tI),tI,tI,tI,tI,tB,tI,(.ar 16 tW),(.ar 16 tI),tI,tI,tI,tI,tB,tI,(.sl bB),(.sl tW),(.sl tW),(.sl tB),(.sl tB),(.sl bN),(.sl cC),(.sl tU),(.sl de),tI,tI,tI,tI,tI,tI],λy=>⟨y.1,⟨y.2.1,y.2.2.1,⟨y.2.2.2.1,y.2.2.2.2.1,y.2.2.2.2.2.1⟩,y.2.2.2.2.2.2.1,y.2.2.2.2.2.2.2.1,y.2.2.2.2.2.2.2.2.1⟩,⟨y.2.2.2.2.2.2.2.2.2.1,y.2.2.2.2.2.2.2.2.2.2.1,⟨y.2.2.2.2.2.2.2.2.2.2.2.1,y.2.2.2.2.2.2.2.2.2.2.2.2.1,y.2.2.2.2.2.2.2.2.2.2.2.2.2.1⟩,y.2.2.2.2.2.2.2.2.2.2.2.2.2.2.1,y.2.2.2.2.2.2.2.2.2.2.2.2.2.2.2.1,y.2.2.2.2.2.2.2.2.2.2.2.2.2.2.2.2.1⟩,y.2.2.2.2.2.2.2.2.2.2.2.2.2.2.2.2.2.1,y.2.2.2.2.2.2.2.2.2.2.2.2.2.2.2.2.2.2.1,y.2.2.2.2.2.2.2.2.2.2.2.2.2.2.2.2.2.2.2.1,y.2.2.2.2.2.2.2.2.2.2.2.2.2.2.2.2.2.2.2.2.1,y.2.2.2.2.2.2.2.2.2.2.2.2.2.2.2.2.2.2.2.2.2.1,y.2.2.2.2.2.2.2.2.2.2.2.2.2.2.2.2.2.2.2.2.2.2.1,y.2.2.2.2.2.2.2.2.2.2.2.2.2.2.2.2.2.2.2.2.2.2.2.1,y.2.2.2.2.2.2.2.2.2.2.2.2.2.2.2.2.2.2.2.2.2.2.2.2.1,y.2.2.2.2.2.2.2.2.2.2.2.2.2.2.2.2.2.2.2.2.2.2.2.2.2.1,⟨y.2.2.2.2.2.2.2.2.2.2.2.2.2.2.2.2.2.2.2.2.2.2.2.2.2.2.1,y.2.2.2.2.2.2.2.2.2.2.2.2.2.2.2.2.2.2.2.2.2.2.2.2.2.2.2.1,y.2.2.2.2.2.2.2.2.2.2.2.2.2.2.2.2.2.2.2.2.2.2.2.2.2.2.2.2.1⟩,y.2.2.2.2.2.2.2.2.2.2.2.2.2.2.2.2.2.2.2.2.2.2.2.2.2.2.2.2.2.1,y.2.2.2.2.2.2.2.2.2.2.2.2.2.2.2.2.2.2.2.2.2.2.2.2.2.2.2.2.2.2.1,y.2.2.2.2.2.2.2.2.2.2.2.2.2.2.2.2.2.2.2.2.2.2.2.2.2.2.2.2.2.2.2.1⟩,λa=>(a.A1,a.A.B1,a.A.A8,a.A.A6.A7,a.A.A6.B3,a.A.A6.D3,a.A.C3,a.A.A4,a.A.A5,a.E.B1,a.E.A8,a.E.A6.A7,a.E.A6.B3,a.E.A6.D3,a.E.C3,a.E.A4,a.E.A5,a.B9,a.C9,a.C7,a.C6,a.C8,a.B0,a.A0,a.Mem,a.A2,a.A9.C2,a.A9.C5,a.A9.Pc,a.B6,a.B5,a.C0,()),λ_=>rfl,λ_=>rfl,λa q=>⟨tI,a.A1⟩::⟨(.ar 16 tW),a.A.B1⟩::⟨(.ar 16 tI),a.A.A8⟩::⟨tI,a.A.A6.A7⟩::⟨tI,a.A.A6.B3⟩::⟨tI,a.A.A6.D3⟩::⟨tI,a.A.C3⟩::⟨tB,a.A.A4⟩::⟨tI,a.A.A5⟩::⟨(.ar 16 tW),a.E.B1⟩::⟨(.ar 16 tI),a.E.A8⟩::⟨tI,a.E.A6.A7⟩::⟨tI,a.E.A6.B3⟩::⟨tI,a.E.A6.D3⟩::⟨tI,a.E.C3⟩::⟨tB,a.E.A4⟩::⟨tI,a.E.A5⟩::⟨(.sl bB),a.B9⟩::⟨(.sl tW),a.C9⟩::⟨(.sl tW),a.C7⟩::⟨(.sl tB),a.C6⟩::⟨(.sl tB),a.C8⟩::⟨(.sl bN),a.B0⟩::⟨(.sl cC),a.A0⟩::⟨(.sl tU),a.Mem⟩::⟨(.sl de),a.A2⟩::⟨tI,a.A9.C2⟩::⟨tI,a.A9.C5⟩::⟨tI,a.A9.Pc⟩::⟨tI,a.B6⟩::⟨tI,a.B5⟩::⟨tI,a.C0⟩::q,λp k=>Zz.un tI p λb0 p=>Zz.un (.ar 16 tW) p λb1 p=>Zz.un (.ar 16 tI) p λb2 p=>Zz.un tI p λb3 p=>Zz.un tI p λb4 p=>Zz.un tI p λb5 p=>Zz.un tI p λb6 p=>Zz.un tB p λb7 p=>Zz.un tI p λb8 p=>Zz.un (.ar 16 tW) p λb9 p=>Zz.un (.ar 16 tI) p λb10 p=>Zz.un tI p λb11 p=>Zz.un tI p λb12 p=>Zz.un tI p λb13 p=>Zz.un tI p λb14 p=>Zz.un tB p λb15 p=>Zz.un tI p λb16 p=>Zz.un (.sl bB) p λb17 p=>Zz.un (.sl tW) p λb18 p=>Zz.un (.sl tW) p λb19 p=>Zz.un (.sl tB) p λb20 p=>Zz.un (.sl tB) p λb21 p=>Zz.un (.sl bN) p λb22 p=>Zz.un (.sl cC) p λb23 p=>Zz.un (.sl tU) p λb24 p=>Zz.un (.sl de) p λb25 p=>Zz.un tI p λb26 p=>Zz.un tI p λb27 p=>Zz.un tI p λb28 p=>Zz.un tI p λb29 p=>Zz.un tI p λb30 p=>Zz.un tI p λb31 p=>k ⟨b0,⟨b1,b2,⟨b3,b4,b5⟩,b6,b7,b8⟩,⟨b9,b10,⟨b11,b12,b13⟩,b14,b15,b16⟩,b17,b18,b19,b20,b21,b22,b23,b24,b25,⟨b26,b27,b28⟩,b29,b30,b31⟩ p,λ_ _=>rfl,λ_ _=>rfl⟩
@[reducible] noncomputable def aD:PG:=⟨aa,aA⟩
def il:Gp aa:=⟨[Ka],λy=>⟨y.1.1,⟨y.1.2.1.1,y.1.2.1.2.1,⟨y.1.2.1.2.2.1.1,y.1.2.1.2.2.1.2.1,y.1.2.1.2.2.1.2.2.1⟩,y.1.2.1.2.2.2.1,y.1.2.1.2.2.2.2.1,y.1.2.1.2.2.2.2.2.1⟩,⟨y.1.2.2.1.1,y.1.2.2.1.2.1,⟨y.1.2.2.1.2.2.1.1,y.1.2.2.1.2.2.1.2.1,y.1.2.2.1.2.2.1.2.2.1⟩,y.1.2.2.1.2.2.2.1,y.1.2.2.1.2.2.2.2.1,y.1.2.2.1.2.2.2.2.2.1⟩,y.1.2.2.2.1,y.1.2.2.2.2.1,y.1.2.2.2.2.2.1,y.1.2.2.2.2.2.2.1,y.1.2.2.2.2.2.2.2.1,y.1.2.2.2.2.2.2.2.2.1,y.1.2.2.2.2.2.2.2.2.2.1,y.1.2.2.2.2.2.2.2.2.2.2.1,y.1.2.2.2.2.2.2.2.2.2.2.2.1,⟨y.1.2.2.2.2.2.2.2.2.2.2.2.2.1.1,y.1.2.2.2.2.2.2.2.2.2.2.2.2.1.2.1,y.1.2.2.2.2.2.2.2.2.2.2.2.2.1.2.2.1⟩,y.1.2.2.2.2.2.2.2.2.2.2.2.2.2.1,y.1.2.2.2.2.2.2.2.2.2.2.2.2.2.2.1,y.1.2.2.2.2.2.2.2.2.2.2.2.2.2.2.2.1⟩,λa=>((a.A1,((a.A.B1,(a.A.A8,((a.A.A6.A7,(a.A.A6.B3,(a.A.A6.D3,()))),(a.A.C3,(a.A.A4,(a.A.A5,())))))),((a.E.B1,(a.E.A8,((a.E.A6.A7,(a.E.A6.B3,(a.E.A6.D3,()))),(a.E.C3,(a.E.A4,(a.E.A5,())))))),(a.B9,(a.C9,(a.C7,(a.C6,(a.C8,(a.B0,(a.A0,(a.Mem,(a.A2,((a.A9.C2,(a.A9.C5,(a.A9.Pc,()))),(a.B6,(a.B5,(a.C0,())))))))))))))))),()),λ_=>rfl,λ_=>rfl,λa q=>⟨Ka,(a.A1,((a.A.B1,(a.A.A8,((a.A.A6.A7,(a.A.A6.B3,(a.A.A6.D3,()))),(a.A.C3,(a.A.A4,(a.A.A5,())))))),((a.E.B1,(a.E.A8,((a.E.A6.A7,(a.E.A6.B3,(a.E.A6.D3,()))),(a.E.C3,(a.E.A4,(a.E.A5,())))))),(a.B9,(a.C9,(a.C7,(a.C6,(a.C8,(a.B0,(a.A0,(a.Mem,(a.A2,((a.A9.C2,(a.A9.C5,(a.A9.Pc,()))),(a.B6,(a.B5,(a.C0,()))))))))))))))))⟩::q,λp k=>Zz.un Ka p λb0 p=>k ⟨b0.1,⟨b0.2.1.1,b0.2.1.2.1,⟨b0.2.1.2.2.1.1,b0.2.1.2.2.1.2.1,b0.2.1.2.2.1.2.2.1⟩,b0.2.1.2.2.2.1,b0.2.1.2.2.2.2.1,b0.2.1.2.2.2.2.2.1⟩,⟨b0.2.2.1.1,b0.2.2.1.2.1,⟨b0.2.2.1.2.2.1.1,b0.2.2.1.2.2.1.2.1,b0.2.2.1.2.2.1.2.2.1⟩,b0.2.2.1.2.2.2.1,b0.2.2.1.2.2.2.2.1,b0.2.2.1.2.2.2.2.2.1⟩,b0.2.2.2.1,b0.2.2.2.2.1,b0.2.2.2.2.2.1,b0.2.2.2.2.2.2.1,b0.2.2.2.2.2.2.2.1,b0.2.2.2.2.2.2.2.2.1,b0.2.2.2.2.2.2.2.2.2.1,b0.2.2.2.2.2.2.2.2.2.2.1,b0.2.2.2.2.2.2.2.2.2.2.2.1,⟨b0.2.2.2.2.2.2.2.2.2.2.2.2.1.1,b0.2.2.2.2.2.2.2.2.2.2.2.2.1.2.1,b0.2.2.2.2.2.2.2.2.2.2.2.2.1.2.2.1⟩,b0.2.2.2.2.2.2.2.2.2.2.2.2.2.1,b0.2.2.2.2.2.2.2.2.2.2.2.2.2.2.1,b0.2.2.2.2.2.2.2.2.2.2.2.2.2.2.2.1⟩ p,λ_ _=>rfl,λ_ _=>rfl⟩
@[reducible] noncomputable def d9:PG:=⟨aa,il⟩
@[ext] structure aw where
 Code:List af
 B8:Int
 D1:List Int
def iK:Gp aw:=⟨[(.sl aK),tI,(.sl tU)],λy=>⟨y.1,y.2.1,y.2.2.1⟩,λa=>(a.Code,a.B8,a.D1,()),λ_=>rfl,λ_=>rfl,λa q=>⟨(.sl aK),a.Code⟩::⟨tI,a.B8⟩::⟨(.sl tU),a.D1⟩::q,λp k=>Zz.un (.sl aK) p λb0 p=>Zz.un tI p λb1 p=>Zz.un (.sl tU) p λb2 p=>k ⟨b0,b1,b2⟩ p,λ_ _=>rfl,λ_ _=>rfl⟩
@[reducible] noncomputable def bm:PG:=⟨aw,iK⟩
@[ext] structure aU where
 Pc:Int
 D9:Int
 L:List ak
def fP:Gp aU:=⟨[tI,tI,(.sl az)],λy=>⟨y.1,y.2.1,y.2.2.1⟩,λa=>(a.Pc,a.D9,a.L,()),λ_=>rfl,λ_=>rfl,λa q=>⟨tI,a.Pc⟩::⟨tI,a.D9⟩::⟨(.sl az),a.L⟩::q,λp k=>Zz.un tI p λb0 p=>Zz.un tI p λb1 p=>Zz.un (.sl az) p λb2 p=>k ⟨b0,b1,b2⟩ p,λ_ _=>rfl,λ_ _=>rfl⟩
@[reducible] noncomputable def bR:PG:=⟨aU,fP⟩
@[ext] structure ao where
 A3:List aW
 D2:List Int
def cm:Gp ao:=⟨[(.sl aN),(.ar 16 tI)],λy=>⟨y.1,y.2.1⟩,λa=>(a.A3,a.D2,()),λ_=>rfl,λ_=>rfl,λa q=>⟨(.sl aN),a.A3⟩::⟨(.ar 16 tI),a.D2⟩::q,λp k=>Zz.un (.sl aN) p λb0 p=>Zz.un (.ar 16 tI) p λb1 p=>k ⟨b0,b1⟩ p,λ_ _=>rfl,λ_ _=>rfl⟩
@[reducible] noncomputable def bq:PG:=⟨ao,cm⟩
@[ext] structure ay where
 B9:Int
 C9:Int
 C7:Int
 C6:Int
 C8:Int
 B0:Int
 B2:Int
 B7:Int
 D8:Int
 C4:Int
 D7:Int
 D6:Int
def ay.z:ay:=⟨0,0,0,0,0,0,0,0,0,0,0,0⟩
def cM:Gp ay:=⟨[tI,tI,tI,tI,tI,tI,tI,tI,tI,tI,tI,tI],λy=>⟨y.1,y.2.1,y.2.2.1,y.2.2.2.1,y.2.2.2.2.1,y.2.2.2.2.2.1,y.2.2.2.2.2.2.1,y.2.2.2.2.2.2.2.1,y.2.2.2.2.2.2.2.2.1,y.2.2.2.2.2.2.2.2.2.1,y.2.2.2.2.2.2.2.2.2.2.1,y.2.2.2.2.2.2.2.2.2.2.2.1⟩,λa=>(a.B9,a.C9,a.C7,a.C6,a.C8,a.B0,a.B2,a.B7,a.D8,a.C4,a.D7,a.D6,()),λ_=>rfl,λ_=>rfl,λa q=>⟨tI,a.B9⟩::⟨tI,a.C9⟩::⟨tI,a.C7⟩::⟨tI,a.C6⟩::⟨tI,a.C8⟩::⟨tI,a.B0⟩::⟨tI,a.B2⟩::⟨tI,a.B7⟩::⟨tI,a.D8⟩::⟨tI,a.C4⟩::⟨tI,a.D7⟩::⟨tI,a.D6⟩::q,λp k=>Zz.un tI p λb0 p=>Zz.un tI p λb1 p=>Zz.un tI p λb2 p=>Zz.un tI p λb3 p=>Zz.un tI p λb4 p=>Zz.un tI p λb5 p=>Zz.un tI p λb6 p=>Zz.un tI p λb7 p=>Zz.un tI p λb8 p=>Zz.un tI p λb9 p=>Zz.un tI p λb10 p=>Zz.un tI p λb11 p=>k ⟨b0,b1,b2,b3,b4,b5,b6,b7,b8,b9,b10,b11⟩ p,λ_ _=>rfl,λ_ _=>rfl⟩
@[reducible] noncomputable def bE:PG:=⟨ay,cM⟩
@[ext] structure bH where
 B6:List Int
 B5:List Int
def a1P:Gp bH:=⟨[(.sl tI),(.sl tI)],λy=>⟨y.1,y.2.1⟩,λa=>(a.B6,a.B5,()),λ_=>rfl,λ_=>rfl,λa q=>⟨(.sl tI),a.B6⟩::⟨(.sl tI),a.B5⟩::q,λp k=>Zz.un (.sl tI) p λb0 p=>Zz.un (.sl tI) p λb1 p=>k ⟨b0,b1⟩ p,λ_ _=>rfl,λ_ _=>rfl⟩
@[reducible] noncomputable def eH:PG:=⟨bH,a1P⟩
@[ext] structure bj where
 I:af
 Pc:Int
 D9:Int
 D5:List ak
def fJ:Gp bj:=⟨[tI,tI,tI,tI,tI,tI,tI,(.sl az)],λy=>⟨(y.1,(y.2.1,(y.2.2.1,(y.2.2.2.1,(y.2.2.2.2.1,()))))),y.2.2.2.2.2.1,y.2.2.2.2.2.2.1,y.2.2.2.2.2.2.2.1⟩,λa=>(a.I.1,a.I.2.1,a.I.2.2.1,a.I.2.2.2.1,a.I.2.2.2.2.1,a.Pc,a.D9,a.D5,()),λ_=>rfl,λ_=>rfl,λa q=>⟨tI,a.I.1⟩::⟨tI,a.I.2.1⟩::⟨tI,a.I.2.2.1⟩::⟨tI,a.I.2.2.2.1⟩::⟨tI,a.I.2.2.2.2.1⟩::⟨tI,a.Pc⟩::⟨tI,a.D9⟩::⟨(.sl az),a.D5⟩::q,λp k=>Zz.un tI p λb0 p=>Zz.un tI p λb1 p=>Zz.un tI p λb2 p=>Zz.un tI p λb3 p=>Zz.un tI p λb4 p=>Zz.un tI p λb5 p=>Zz.un tI p λb6 p=>Zz.un (.sl az) p λb7 p=>k ⟨(b0,(b1,(b2,(b3,(b4,()))))),b5,b6,b7⟩ p,λ_ _=>rfl,λ_ _=>rfl⟩
@[reducible] noncomputable def cz:PG:=⟨bj,fJ⟩
@[ext] structure cO where
 D4:Int
 A9:cQ
 Steps:Int
 B1:List Int
 Mem:List Int
 A2:List bv
def fK:Gp cO:=⟨[tI,tI,tI,tI,tI,(.ar 16 tW),(.sl tU),(.sl de)],λy=>⟨y.1,⟨y.2.1,y.2.2.1,y.2.2.2.1⟩,y.2.2.2.2.1,y.2.2.2.2.2.1,y.2.2.2.2.2.2.1,y.2.2.2.2.2.2.2.1⟩,λa=>(a.D4,a.A9.C2,a.A9.C5,a.A9.Pc,a.Steps,a.B1,a.Mem,a.A2,()),λ_=>rfl,λ_=>rfl,λa q=>⟨tI,a.D4⟩::⟨tI,a.A9.C2⟩::⟨tI,a.A9.C5⟩::⟨tI,a.A9.Pc⟩::⟨tI,a.Steps⟩::⟨(.ar 16 tW),a.B1⟩::⟨(.sl tU),a.Mem⟩::⟨(.sl de),a.A2⟩::q,λp k=>Zz.un tI p λb0 p=>Zz.un tI p λb1 p=>Zz.un tI p λb2 p=>Zz.un tI p λb3 p=>Zz.un tI p λb4 p=>Zz.un (.ar 16 tW) p λb5 p=>Zz.un (.sl tU) p λb6 p=>Zz.un (.sl de) p λb7 p=>k ⟨b0,⟨b1,b2,b3⟩,b4,b5,b6,b7⟩ p,λ_ _=>rfl,λ_ _=>rfl⟩
@[reducible] noncomputable def iz:PG:=⟨cO,fK⟩
abbrev q_0:List LK:=[.d tI,.d (.ar 16 tW),.d (.ar 16 tI),.d tI,.d tI,.d tI,.d tI,.d tB,.d tI,.d (.ar 16 tW),.d (.ar 16 tI),.d tI,.d tI,.d tI,.d tI,.d tB,.d tI,.d (.sl bB),.d (.sl tW),.d (.sl tW),.d (.sl tB),.d (.sl tB),.d (.sl bN),.d (.sl cC),.d (.sl tU),.d (.sl de),.d tI,.d tI,.d tI,.d tI,.d tI,.d tI]
abbrev q_1:List LK:=[.d tI,.d (.ar 16 tW),.d (.ar 16 tI),.d tI,.d tI,.d tI,.d tI,.d tB,.d tI,.d (.ar 16 tW),.d (.ar 16 tI),.d tI,.d tI,.d tI,.d tI,.d tB,.d tI,.o bB,.o tW,.o tW,.o tB,.o tB,.o bN,.o cC,.o tU,.o de,.d tI,.d tI,.d tI,.d tI,.d tI,.d tI]
abbrev q_2:List LK:=[.d tI,.d tI,.d tI,.d tI,.d tI,.d tI,.d tI,.d tI,.d tI]
abbrev q_3:List LK:=[.d (.ar 16 tW),.d (.ar 16 tI),.d tI,.d tI,.d tI,.d tI,.d tB,.d tI]
abbrev q_4:List LK:=[.o Kc,.d (.ar 16 tI)]
abbrev q_5:List LK:=[.d tI,.d tI,.d tI,.d tI,.d tI,.d tI,.d tI,.d tI,.d tI,.d tI,.d tI,.d tI]
abbrev q_6:List LK:=[.d tI,.d tI,.d tI,.d tI,.d (.sl az),.d (.sl az)]
abbrev q_7:List LK:=[.d tI,.d tI,.d tI,.d tI,.d tI,.d tI,.d tI,.d tI,.d tI,.d tI,.d tI,.d tI,.d (.sl aN),.d (.ar 16 tI),.p 1 0 Kb,.d tI,.d tI,.d tI,.d tI,.d tI,.d tI,.d tI,.d tI,.d tI,.d tI]
abbrev q_8:List LK:=[.d tI,.d (.ar 16 tW),.d (.ar 16 tI),.d tI,.d tI,.d tI,.d tI,.d tB,.d tI,.d (.ar 16 tW),.d (.ar 16 tI),.d tI,.d tI,.d tI,.d tI,.d tB,.d tI,.o bB,.o tW,.o tW,.o tB,.o tB,.o bN,.d (.sl cC),.o tU,.o de,.d tI,.d tI,.d tI,.d tI,.d tI,.d tI]
abbrev q_9:List LK:=[.r Ka]
abbrev q_10:List LK:=[.d tI,.d tI,.d tI,.d tI,.d tI,.d tI,.d tI,.o az]
abbrev q_11:List LK:=[.d tI,.d tI,.d tI,.d tI,.d tI,.d (.ar 16 tW),.o tU,.o de]
abbrev q_12:List LK:=[.d tI,.d tI,.d tI,.d tI,.d tI,.d (.ar 16 tW),.d (.sl tU),.d (.sl de)]
def tis:List (Option TI):=[
 none,
 none,
 some {td:=.int .i64,lay:=[1],zk:=[.d (.int .i64)]},
 some {td:=.int .i64,lay:=[1],zk:=[.d (.int .i64)]},
 some {td:=.bool,lay:=[1],zk:=[.d .bool]},
 some {td:=.int .u8,lay:=[1],zk:=[.d (.int .u8)]},
 none,
 none,
 none,
 some {td:=.str,lay:=[1],zk:=[.d .str]},
 none,
 none,
 none,
 none,
 none,
 none,
 none,
 none,
 none,
 none,
 none,
 some {td:=.int .i32,lay:=[1],zk:=[.d (.int .i32)]},
 none,
 some {td:=.struct,lay:=Ki,fl:=[(0,[1]),(1,[1]),(2,[1]),(3,[1]),(4,[1]),(5,[1]),(6,[1]),(7,[1]),(8,[1]),(9,[1]),(10,[1]),(11,[1])],fg:=[false,false,false,false,false,false,false,false,false,false,false,false],zk:=[.d (.int .i64),.d (.int .i64),.d (.int .i64),.d (.int .i64),.d (.int .i64),.d (.int .i64),.d (.int .i64),.d (.int .i64),.d (.int .i64),.d (.int .i64),.d (.int .i64),.d (.int .i64)],eqt:=some [(.int .i64),(.int .i64),(.int .i64),(.int .i64),(.int .i64),(.int .i64),(.int .i64),(.int .i64),(.int .i64),(.int .i64),(.int .i64),(.int .i64)]},
 some {td:=.slice,lay:=[1],ety:=Kh,eby:=40,zk:=[.nils]},
 some {td:=.slice,lay:=[1],ety:=(.int .u8),eby:=1,zk:=[.nils]},
 none,
 some {td:=.struct,lay:=[1,1,1],fl:=[(0,[1]),(1,[1]),(2,[1])],fg:=[false,false,false],zk:=[.nils,.d (.int .i64),.nils]},
 some {td:=.int .u32,lay:=[1],zk:=[.d (.int .u32)]},
 some {td:=.array,lay:=[16],ety:=(.int .u32),eby:=4,n:=16,zk:=[.d (.ar 16 (.int .u32))],eqt:=some [(.ar 16 (.int .u32))]},
 some {td:=.array,lay:=[16],ety:=(.int .i64),eby:=8,n:=16,zk:=[.d (.ar 16 (.int .i64))],eqt:=some [(.ar 16 (.int .i64))]},
 none,
 some {td:=.struct,lay:=[1,1,1],fl:=[(0,[1]),(1,[1]),(2,[1])],fg:=[false,false,false],zk:=[.d (.int .i64),.d (.int .i64),.d (.int .i64)],eqt:=some [(.int .i64),(.int .i64),(.int .i64)]},
 none,
 some {td:=.struct,lay:=Kf,fl:=[(0,[16]),(1,[16]),(2,[1,1,1]),(5,[1]),(6,[1]),(7,[1])],fg:=[true,true,true,false,false,false],zk:=[.d (.ar 16 (.int .u32)),.d (.ar 16 (.int .i64)),.d (.int .i64),.d (.int .i64),.d (.int .i64),.d (.int .i64),.d .bool,.d (.int .i64)],eqt:=some [(.ar 16 (.int .u32)),(.ar 16 (.int .i64)),(.int .i64),(.int .i64),(.int .i64),(.int .i64),.bool,(.int .i64)]},
 some {td:=.slice,lay:=[1],ety:=(.pair (.int .i64) (.pair .bool (.pair (.int .u32) .unit))),eby:=16,zk:=[.nils]},
 some {td:=.slice,lay:=[1],ety:=(.int .u32),eby:=4,zk:=[.nils]},
 some {td:=.slice,lay:=[1],ety:=.bool,eby:=1,zk:=[.nils]},
 some {td:=.slice,lay:=[1],ety:=(.pair (.int .i64) (.pair (.int .i64) (.pair (.int .i64) (.pair .bool (.pair (.int .u32) .unit))))),eby:=32,zk:=[.nils]},
 some {td:=.slice,lay:=[1],ety:=(.pair .bool (.pair (.int .i64) (.pair (.int .i64) (.pair (.int .i64) (.pair (.int .u32) Kd))))),eby:=64,zk:=[.nils]},
 some {td:=.slice,lay:=[1],ety:=(.pair (.int .i64) (.pair (.int .i64) (.pair (.int .u32) .unit))),eby:=24,zk:=[.nils]},
 none,
 some {td:=.struct,lay:=[1,1,1],fl:=[(0,[1]),(1,[1]),(2,[1])],fg:=[false,false,false],zk:=[.d (.int .i64),.d (.int .i64),.d (.int .i64)],eqt:=some [(.int .i64),(.int .i64),(.int .i64)]},
 none,
 some {td:=.struct,lay:=Kb,fl:=[(0,[1]),(1,Kf),(9,Kf),(17,[1]),(18,[1]),(19,[1]),(20,[1]),(21,[1]),(22,[1]),(23,[1]),(24,[1]),(25,[1]),(26,[1,1,1]),(29,[1]),(30,[1]),(31,[1])],fg:=[false,true,true,false,false,false,false,false,false,false,false,false,true,false,false,false],zk:=[.d (.int .i64),.d (.ar 16 (.int .u32)),.d (.ar 16 (.int .i64)),.d (.int .i64),.d (.int .i64),.d (.int .i64),.d (.int .i64),.d .bool,.d (.int .i64),.d (.ar 16 (.int .u32)),.d (.ar 16 (.int .i64)),.d (.int .i64),.d (.int .i64),.d (.int .i64),.d (.int .i64),.d .bool,.d (.int .i64),.nils,.nils,.nils,.nils,.nils,.nils,.nils,.nils,.nils,.d (.int .i64),.d (.int .i64),.d (.int .i64),.d (.int .i64),.d (.int .i64),.d (.int .i64)]},
 none,
 some {td:=.struct,lay:=[1,1,1,1,1],fl:=[(0,[1]),(1,[1]),(2,[1]),(3,[1]),(4,[1])],fg:=[false,false,false,false,false],zk:=[.d (.int .i64),.d (.int .i64),.d (.int .i64),.d (.int .i64),.d (.int .i64)],eqt:=some [(.int .i64),(.int .i64),(.int .i64),(.int .i64),(.int .i64)]},
 none,
 some {td:=.struct,lay:=[1,1,1,1,1,1,1,1,1],fl:=[(0,[1]),(1,[1,1,1,1,1]),(6,[1]),(7,[1]),(8,[1])],fg:=[false,true,false,false,false],zk:=[.d (.int .i64),.d (.int .i64),.d (.int .i64),.d (.int .i64),.d (.int .i64),.d (.int .i64),.d (.int .i64),.d (.int .i64),.d (.int .i64)],eqt:=some [(.int .i64),(.int .i64),(.int .i64),(.int .i64),(.int .i64),(.int .i64),(.int .i64),(.int .i64),(.int .i64)]},
 none,
 some {td:=.slice,lay:=[1],ety:=(.pair (.int .i64) (.pair (.int .i64) (.pair (.int .i64) (.pair (.int .i64) (.pair (.sl (.pair (.int .i64) (.pair Kh Kd))) (.pair (.sl (.pair (.int .i64) (.pair Kh Kd))) .unit)))))),eby:=80,zk:=[.nils]},
 none,
 some {td:=.struct,lay:=[1,16],fl:=[(0,[1]),(1,[16])],fg:=[false,true],zk:=[.nils,.d (.ar 16 (.int .i64))]},
 none,
 none,
 none,
 none,
 some {td:=.slice,lay:=[1],ety:=(.int .i64),eby:=8,zk:=[.nils]},
 none,
 none,
 none,
 none,
 none,
 none,
 none,
 none,
 none,
 none,
 none,
 none,
 some {td:=.struct,lay:=[1,1,1],fl:=[(0,[1]),(1,[1]),(2,[1])],fg:=[false,false,false],zk:=[.d (.int .i64),.d .bool,.d (.int .u32)],eqt:=some [(.int .i64),.bool,(.int .u32)]},
 none,
 none,
 none,
 none,
 none,
 some {td:=.struct,lay:=[1,1,1,1,1],fl:=[(0,[1]),(1,[1]),(2,[1]),(3,[1]),(4,[1])],fg:=[false,false,false,false,false],zk:=[.d (.int .i64),.d (.int .i64),.d (.int .i64),.d .bool,.d (.int .u32)],eqt:=some [(.int .i64),(.int .i64),(.int .i64),.bool,(.int .u32)]},
 none,
 some {td:=.struct,lay:=Kl,fl:=[(0,[1]),(1,[1]),(2,[1]),(3,[1]),(4,[1]),(5,[1]),(6,[1]),(7,[1])],fg:=[false,false,false,false,false,false,false,false],zk:=[.d .bool,.d (.int .i64),.d (.int .i64),.d (.int .i64),.d (.int .u32),.d (.int .i64),.d (.int .i64),.d (.int .i64)],eqt:=some [.bool,(.int .i64),(.int .i64),(.int .i64),(.int .u32),(.int .i64),(.int .i64),(.int .i64)]},
 none,
 none,
 none,
 none,
 none,
 none,
 none,
 none,
 some {td:=.struct,lay:=[1,1],fl:=[(0,[1]),(1,[1])],fg:=[false,false],zk:=[.nils,.nils]},
 none,
 none,
 none,
 none,
 none,
 some {td:=.struct,lay:=[1,1,1],fl:=[(0,[1]),(1,[1]),(2,[1])],fg:=[false,false,false],zk:=[.d (.int .i64),.d (.int .i64),.d (.int .u32)],eqt:=some [(.int .i64),(.int .i64),(.int .u32)]},
 some {td:=.int .u64,lay:=[1],zk:=[.d (.int .u64)]},
 none,
 none,
 some {td:=.struct,lay:=Kj,fl:=[(0,[1]),(1,[1,1,1]),(4,[1]),(5,[16]),(6,[1]),(7,[1])],fg:=[false,true,false,true,false,false],zk:=[.d (.int .i64),.d (.int .i64),.d (.int .i64),.d (.int .i64),.d (.int .i64),.d (.ar 16 (.int .u32)),.nils,.nils]},
 some {td:=.int .i64,lay:=[1],zk:=[.d (.int .i64)]},
 none,
 none,
 none,
 none,
 none,
 none,
 none,
 none,
 none,
 none,
 none,
 none,
 none,
 none,
 none,
 none,
 none,
 none,
 none,
 none,
 none,
 none,
 none,
 none,
 none,
 some {td:=.ptr,lay:=[1],zk:=[.nilp]},
 none,
 none,
 none,
 none,
 none,
 none,
 none,
 none,
 none,
 none,
 none,
 none,
 none,
 none,
 none,
 none,
 none,
 some {td:=.slice,lay:=[1],ety:=(.pair (.int .i64) (.pair Kh Kd)),eby:=72,zk:=[.nils]},
 none,
 none,
 none,
 none,
 none,
 none,
 none,
 none,
 none,
 none,
 none,
 none,
 none,
 none,
 none,
 none,
 none,
 none,
 some {td:=.struct,lay:=[1,1,1,1,1,1],fl:=[(0,[1]),(1,[1]),(2,[1]),(3,[1]),(4,[1]),(5,[1])],fg:=[false,false,false,false,false,false],zk:=[.d (.int .i64),.d (.int .i64),.d (.int .i64),.d (.int .i64),.nils,.nils]},
 none,
 none,
 none,
 none,
 none,
 none,
 none,
 none,
 none,
 none,
 none,
 none,
 none,
 none,
 none,
 none,
 none,
 none,
 none,
 none,
 none,
 none,
 none,
 none,
 none,
 none,
 none,
 none,
 none,
 none,
 none,
 none,
 none,
 none,
 none,
 none,
 none,
 none,
 some {td:=.struct,lay:=Kg,fl:=[(0,Ki),(12,[1,16]),(14,[1]),(15,[1,1,1,1,1,1,1,1,1]),(24,[1])],fg:=[true,true,false,true,false],zk:=[.d (.int .i64),.d (.int .i64),.d (.int .i64),.d (.int .i64),.d (.int .i64),.d (.int .i64),.d (.int .i64),.d (.int .i64),.d (.int .i64),.d (.int .i64),.d (.int .i64),.d (.int .i64),.nils,.d (.ar 16 (.int .i64)),.nilp,.d (.int .i64),.d (.int .i64),.d (.int .i64),.d (.int .i64),.d (.int .i64),.d (.int .i64),.d (.int .i64),.d (.int .i64),.d (.int .i64),.d (.int .i64)]},
 none,
 none,
 none,
 none,
 none,
 none,
 none,
 none,
 none,
 none,
 none,
 none,
 none,
 none,
 none,
 none,
 none,
 none,
 none,
 none,
 none,
 none,
 none,
 none,
 none,
 none,
 none,
 none,
 none,
 none,
 none,
 none,
 none,
 none,
 some {td:=.struct,lay:=[1,1,1],fl:=[(0,[1]),(1,[1]),(2,[1])],fg:=[false,false,false],zk:=[.d (.int .i64),.d (.int .i64),.nils]},
 none,
 none,
 none,
 none,
 none,
 none,
 none,
 none,
 none,
 none,
 none,
 none,
 none,
 none,
 none,
 none,
 none,
 none,
 none,
 none,
 none,
 none,
 none,
 none,
 none,
 none,
 none,
 none,
 none,
 none,
 none,
 none,
 none,
 none,
 none,
 none,
 none,
 none,
 some {td:=.struct,lay:=Kl,fl:=[(0,[1,1,1,1,1]),(5,[1]),(6,[1]),(7,[1])],fg:=[true,false,false,false],zk:=[.d (.int .i64),.d (.int .i64),.d (.int .i64),.d (.int .i64),.d (.int .i64),.d (.int .i64),.d (.int .i64),.nils]},
 none,
 none,
 none,
 none,
 some {td:=.int .i16,lay:=[1],zk:=[.d (.int .i16)]},
 some {td:=.int .i8,lay:=[1],zk:=[.d (.int .i8)]},
 none,
 none,
 none,
 none,
 none,
 none,
 none,
 none,
 none,
 none,
 none,
 some {td:=.other,lay:=[1],zk:=[.any 1]},
 some {td:=.int .u64,lay:=[1],zk:=[.d (.int .u64)]},
 none,
 none,
 none,
 none,
 none,
 none,
 none,
 none,
 none,
 none,
 none,
 none,
 none,
 none,
 none,
 none,
 none,
 none,
 none,
 none,
 none,
 none,
 none,
 none,
 none,
 none,
 none,
 none,
 none,
 none,
 none,
 none]
def cx0:Cx:={ti:=λt=>nthD none tis t}
theorem e8s:jo Go.Proofs.Tryz.prog tis 0=true:=by kernel_rfl
theorem aq:TIok Go.Proofs.Tryz.prog cx0:=e4v e8s
def tis1:List (Option TI):=[
 none,
 none,
 none,
 some {td:=.int .i64,lay:=[1],zk:=[.d (.int .i64)]},
 none,
 none,
 none,
 none,
 none,
 none,
 none,
 none,
 none,
 none,
 none,
 none,
 none,
 none,
 none,
 none,
 none,
 none,
 none,
 none,
 some {td:=.slice,lay:=[1],ety:=Kh,eby:=40,zk:=[.nils]},
 none,
 none,
 some {td:=.struct,lay:=[1,1,1],fl:=[(0,[1]),(1,[1]),(2,[1])],fg:=[false,false,false],zk:=[.nils,.d (.int .i64),.nils]},
 none,
 none,
 none,
 none,
 none,
 none,
 none,
 none,
 none,
 none,
 none,
 none,
 none,
 none,
 none,
 none,
 none,
 none,
 some {td:=.struct,lay:=[1,1,1,1,1],fl:=[(0,[1]),(1,[1]),(2,[1]),(3,[1]),(4,[1])],fg:=[false,false,false,false,false],zk:=[.d (.int .i64),.d (.int .i64),.d (.int .i64),.d (.int .i64),.d (.int .i64)],eqt:=some [(.int .i64),(.int .i64),(.int .i64),(.int .i64),(.int .i64)]},
 none,
 none,
 none,
 some {td:=.slice,lay:=[1],ety:=(.pair (.int .i64) (.pair (.int .i64) (.pair (.int .i64) (.pair (.int .i64) (.pair .nl (.pair .nl .unit)))))),eby:=80,zk:=[.nils]},
 none,
 none,
 none,
 none,
 none,
 none,
 some {td:=.slice,lay:=[1],ety:=(.int .i64),eby:=8,zk:=[.nils]},
 none,
 none,
 none,
 none,
 none,
 none,
 none,
 none,
 none,
 none,
 none,
 none,
 none,
 none,
 none,
 none,
 none,
 none,
 none,
 none,
 none,
 none,
 none,
 none,
 none,
 none,
 none,
 none,
 none,
 none,
 none,
 none,
 none,
 none,
 none,
 none,
 none,
 none,
 none,
 none,
 none,
 none,
 none,
 none,
 none,
 none,
 none,
 none,
 none,
 none,
 none,
 none,
 none,
 none,
 none,
 none,
 none,
 none,
 none,
 none,
 none,
 none,
 none,
 none,
 none,
 none,
 none,
 none,
 none,
 none,
 none,
 none,
 none,
 none,
 none,
 none,
 none,
 none,
 none,
 none,
 none,
 none,
 none,
 none,
 none,
 none,
 none,
 none,
 none,
 none,
 none,
 none,
 none,
 none,
 none,
 none,
 none,
 none,
 none,
 none,
 none,
 none,
 none,
 some {td:=.struct,lay:=[1,1,1,1,1,1],fl:=[(0,[1]),(1,[1]),(2,[1]),(3,[1]),(4,[1]),(5,[1])],fg:=[false,false,false,false,false,false],zk:=[.d (.int .i64),.d (.int .i64),.d (.int .i64),.d (.int .i64),.nils,.nils]},
 none,
 none,
 none,
 none,
 none,
 none,
 none,
 none,
 none,
 none,
 none,
 none,
 none,
 none,
 none,
 none,
 none,
 none,
 none,
 none,
 none,
 none,
 none,
 none,
 none,
 none,
 none,
 none,
 none,
 none,
 none,
 none,
 none,
 none,
 none,
 none,
 none,
 none,
 none,
 none,
 none,
 none,
 none,
 none,
 none,
 none,
 none,
 none,
 none,
 none,
 none,
 none,
 none,
 none,
 none,
 none,
 none,
 none,
 none,
 none,
 none,
 none,
 none,
 none,
 none,
 none,
 none,
 none,
 none,
 none,
 none,
 none,
 none,
 none,
 none,
 none,
 none,
 none,
 none,
 none,
 none,
 none,
 none,
 none,
 none,
 none,
 none,
 none,
 none,
 none,
 none,
 none,
 none,
 none,
 none,
 none,
 none,
 none,
 none,
 none,
 none,
 none,
 none,
 none,
 none,
 none,
 none,
 none,
 none,
 none,
 none,
 none,
 none,
 none,
 none,
 none,
 none,
 none,
 none,
 none,
 none,
 none,
 none,
 none,
 none,
 none,
 none,
 none,
 none,
 none,
 none,
 none,
 none,
 none,
 none,
 none,
 none,
 none,
 none,
 none,
 none,
 none,
 none,
 none,
 none,
 none,
 none,
 none,
 none,
 none,
 none,
 none,
 none,
 none,
 none,
 none,
 none,
 none,
 none,
 none,
 none,
 none,
 none,
 none]
def cx1:Cx:={ti:=λt=>nthD none tis1 t}
theorem e7c:jo Go.Proofs.Tryz.prog tis1 0=true:=by kernel_rfl
theorem e6o:TIok Go.Proofs.Tryz.prog cx1:=e4v e7c
theorem hmix:Go.Proofs.Tryz.prog.follows .mixedOrders=true:=by kernel_rfl
abbrev OR:=Option Rs
theorem bA {α:Type} {P:α→Prop}:AllP P []:=trivial
theorem aR {α:Type} {P:α→Prop} {a:α} (h:P a):AllP P [a]:=⟨h,trivial⟩
theorem dD {α:Type} {P:α→Prop} {a b:α} (h:P a) (g:P b):AllP P [a,b]:=⟨h,g,trivial⟩
theorem bP {α:Type} {P:α→Prop} {a b c:α} (h:P a) (g:P b) (i:P c):AllP P [a,b,c]:=⟨h,g,i,trivial⟩
theorem bh {α:Type} {P:α→Prop} {a:α} {l:List α} (h:P a) (g:AllP P l):AllP P (a::l):=⟨h,g⟩
theorem g7B {α:Type} {l:List CE}:∀{c:List (α × CS)},c.map (λe=>dM l e.2.id)=c.map (λe=>some e.2)→AllP (λe=>dM l e.2.id=some e.2) c
 | [],_=>trivial
 | _::_,h=>⟨(mY h).1,g7B (mY h).2⟩
theorem fn_L {cx:Cx} (hti:TIok Q cx) (fn:Func) (hi:Hi) {l:List CE} (hct:AllP (CEok Q) l) {cs:CS} {t:List LE} {nb:Nat} (hlt:AllP (LEok Q hi (bn fn) fn.ntmps nb) t) {ts us:List PG} {e:Fn' (Option Rs) ts}
  (hk:∀ys:TupG ts,den cx hi (ctL l) (ltL t) fn (cr fn) cs.i cs.r cs.ob (dvG ts ys)=apG ts e ys:=by intro ys; kernel_rfl)
  (hf:Fn Q cs.fn fn (cr fn):=by constructor<;>kernel_rfl) (hcs:hi.cs.map (λe=>dM l e.2.id)=hi.cs.map (λe=>some e.2):=by kernel_rfl)
  (hone:cs.one=Nat.beq fn.results.size 1:=by kernel_rfl) (hrl:cs.r.length=fn.results.size:=by kernel_rfl) (hnb:cs.i.bx.length=nb:=by kernel_rfl):CEok Q (cs,mkF ts us e) :=
 fnG hti hmix hct (g7B hcs) hf hone hrl (hnb ▸ hlt) hk
theorem fn_K {cx:Cx} (hti:TIok Q cx) (fn:Func) (hi:Hi) {l:List CE} (hct:AllP (CEok Q) l) {cs:CS} {ts us:List PG} {e:Fn' (Option Rs) ts}
  (hk:∀ys:TupG ts,den cx hi (ctL l) (ltL []) fn (cr fn) cs.i cs.r cs.ob (dvG ts ys)=apG ts e ys:=by intro ys; kernel_rfl)
  (hf:Fn Q cs.fn fn (cr fn):=by constructor<;>kernel_rfl) (hcs:hi.cs.map (λe=>dM l e.2.id)=hi.cs.map (λe=>some e.2):=by kernel_rfl)
  (hone:cs.one=Nat.beq fn.results.size 1:=by kernel_rfl) (hrl:cs.r.length=fn.results.size:=by kernel_rfl):CEok Q (cs,mkF ts us e) :=
 fnG (t:=[]) hti hmix hct (g7B hcs) hf hone hrl trivial hk
theorem g7G {cx:Cx} (hti:TIok Q cx) (f:FuncId) (ls:LS) {hi:Hi} {l:List CE} {fn:Func} (hct:AllP (CEok Q) l) {nb b:Nat} {t:List LE} (hlt:AllP (LEok Q hi (bn fn) fn.ntmps nb) t) {ts:List PG} {xs:List (Nat × List PG)} {r:Fn' (Option Rs) ts→Fn' (Option Rs) ts} {n:Nat}
  (hr:∀A ys,round cx hi (ctL l) (ltL t) fn.ntmps nb b ls (eW fn b) A (dvG ts ys)=apG ts (r (cK ts A)) ys:=by intro A ys; kernel_rfl)
  (hf:Fn Q f fn (cr fn):=by constructor<;>kernel_rfl) (hcs:hi.cs.map (λe=>dM l e.2.id)=hi.cs.map (λe=>some e.2):=by kernel_rfl)
  (h1:bT hi.ls b=some ls:=by kernel_rfl) (h2:(bn fn).lp b=some (eW fn b):=by kernel_rfl) (h3:memN b hi.js=false:=by rfl):LEok Q hi (bn fn) fn.ntmps nb (b,mkM ts xs (lpG r n)) :=
 h8q hti hmix hct (g7B hcs) hf hlt h1 h2 hr h3
theorem bU {cx:Cx} (hti:TIok Q cx) (f:FuncId) (ls:LS) {hi:Hi} {l:List CE} {fn:Func} (hct:AllP (CEok Q) l) {nb b:Nat} {ts:List PG} {xs:List (Nat × List PG)} {r:Fn' (Option Rs) ts→Fn' (Option Rs) ts} {n:Nat}
  (hr:∀A ys,round cx hi (ctL l) (ltL []) fn.ntmps nb b ls (eW fn b) A (dvG ts ys)=apG ts (r (cK ts A)) ys:=by intro A ys; kernel_rfl)
  (hf:Fn Q f fn (cr fn):=by constructor<;>kernel_rfl) (hcs:hi.cs.map (λe=>dM l e.2.id)=hi.cs.map (λe=>some e.2):=by kernel_rfl)
  (h1:bT hi.ls b=some ls:=by kernel_rfl) (h2:(bn fn).lp b=some (eW fn b):=by kernel_rfl) (h3:memN b hi.js=false:=by rfl):LEok Q hi (bn fn) fn.ntmps nb (b,mkM ts xs (lpG r n)) :=
 h8q (t:=[]) hti hmix hct (g7B hcs) hf trivial h1 h2 hr h3
end
end Go.Proofs.Zz
