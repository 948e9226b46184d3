import Derived.Test.YtnfpdmhdpeffjaaGreatWK
set_option linter.unusedSimpArgs false
set_option linter.unusedVariables false
/- What functions of the program compute, as plain functions. -/
set_option maxRecDepth 100000
namespace Go.Proofs.Zz
noncomputable section
open Go Go.Proofs.Tryz
variable (N:Nat)
def c1Q (x0:a0s) (x1:List Int):OR:=on1 (b3f N x0 x1)<|gg [pB]<|fun (x2:Bool)=>bi (!x2) (some (0,a0H.dv (a0g.mk ([]:List a0x) (List.replicate 16 (0 :Int))) (gI.dv 1 [])))<|on1 (d2H N x0)<|gg [pD (.sl (.pair tI (.pair tI (.pair tI (.pair tI (.pair .nl (.pair .nl .unit)))))))]<|fun (x3:List (Int × (Int × (Int × (Int × (Unit × (Unit × Unit)))))))=>onA 1 (a6e N N 0 x0.Code x0.Size x0.Data x1 ([]:List a0x) (List.replicate 16 (0 :Int)) x3 x1)<|gg [pD (.sl a0y),pI,pD (.sl tU),pD (.ar 16 tI),pD (.sl a0n),pD (.ar 16 tI),pD (.sl a0n),pD (.ar 16 tI)]<|fun (x4:List a0o) (x5:Int) (x6 x7:List Int) (x8:List a0x) (x9:List Int) (x10:List a0x) (x11:List Int)=>some (0,a0H.dv (a0g.mk x10 x11) (gI.dv 0 []))
def c2F:CE:=(b7K,mkF [a0p,pD (.ar 16 tI)] [a0m,pI] (c1Q N))
theorem d1N:CEok Q (c2F N) :=
 fnG (hi:=a3W) (l:=a4R N) (t:=[c3X N]) a0r hmix (c0h N) (c3K N) f_67 (by kernel_rfl) (by kernel_rfl) ⟨d4V N,trivial⟩ fun ys=>by kernel_rfl
def c8x:CS:=⟨54,101,⟨[.agg [.d (.sl a0y),.d tI,.d (.sl tU)]],[]⟩,[.agg [.d (.ar 16 tI)]],true,[]⟩
def c1v:LS:=⟨⟨[.no,.one (.p 0 0 [1,1,1]),.one (.p 1 0 [16]),.one (.p 2 0 [16]),.one (.d tI)]++nos 81,[[.d (.sl a0y),.d tI,.d (.sl tU)],[.d (.ar 16 tI)],[.d (.ar 16 tI)]]⟩,[(1,⟨[.no,.one (.p 0 0 [1,1,1]),.one (.p 1 0 [16]),.one (.p 2 0 [16])]++nos 82,[[.d (.sl a0y),.d tI,.d (.sl tU)],[.d (.ar 16 tI)],[.d (.ar 16 tI)]]⟩)]⟩
def c0Y:LS:=⟨⟨[.no,.one (.p 0 0 [1,1,1]),.one (.p 1 0 [16]),.one (.p 2 0 [16]),.no,.one (.d tI),.one (.d tI),.no,.no,.one (.o tI),.one (.d tI)]++nos 75,[[.d (.sl a0y),.d tI,.d (.sl tU)],[.d (.ar 16 tI)],[.d (.ar 16 tI)]]⟩,[(7,⟨[.no,.one (.p 0 0 [1,1,1]),.one (.p 1 0 [16]),.one (.p 2 0 [16]),.no,.one (.d tI),.one (.d tI)]++nos 79,[[.d (.sl a0y),.d tI,.d (.sl tU)],[.d (.ar 16 tI)],[.d (.ar 16 tI)]]⟩)]⟩
def c1q:LS:=⟨⟨[.no,.one (.p 0 0 [1,1,1]),.one (.p 1 0 [16]),.one (.p 2 0 [16]),.no,.one (.d tI),.one (.d tI)]++nos 79,[[.d (.sl a0y),.d tI,.d (.sl tU)],[.d (.ar 16 tI)],[.d (.ar 16 tI)]]⟩,[(5,⟨[.no,.one (.p 0 0 [1,1,1]),.one (.p 1 0 [16]),.one (.p 2 0 [16]),.no,.one (.d tI)]++nos 80,[[.d (.sl a0y),.d tI,.d (.sl tU)],[.d (.ar 16 tI)],[.d (.ar 16 tI)]]⟩)]⟩
def c2o:LS:=⟨⟨[.no,.one (.p 0 0 [1,1,1]),.one (.p 1 0 [16]),.one (.p 2 0 [16]),.no,.one (.d tI)]++nos 80,[[.d (.sl a0y),.d tI,.d (.sl tU)],[.d (.ar 16 tI)],[.d (.ar 16 tI)]]⟩,[(3,⟨[.no,.no,.one (.p 0 0 [16]),.one (.p 1 0 [16])]++nos 82,[[.d (.ar 16 tI)],[.d (.ar 16 tI)]]⟩)]⟩
def a2X:Hi:=⟨[((2,1),a3g),((15,2),a2C),((19,1),a6l)],[(0,c1v),(6,c0Y),(4,c1q),(2,c2o)],[13,16,22,29,42,46,50,56,60,65,71,77],[],[]⟩
theorem a8I:AllP (CEok Q) [a3o N,a2O N,a8b N]:=g7s (a4L N) (a3h N) (b0d N)
def b1v (N:Nat) (again:Fn' OR [pI,a0p,pD (.ar 16 tI),pD (.ar 16 tI)]) (x0:Int) (x1:a0s) (x2 x3:List Int):OR:=bi (decide (x0 < 16)) (gd (idx x0 16)<|again (w.i64 (x0+1)) x1 x2 (x3.set x0.toNat 2))<|some (1,a1d.dv x1 ((gD (.ar 16 tI)).dv x2 ((gD (.ar 16 tI)).dv x3 [])))
def b2j:Nat→Fn' OR [pI,a0p,pD (.ar 16 tI),pD (.ar 16 tI)]:=lpG (b1v N)
theorem d2y:LEok Q a2X (bodOf f101) f101.ntmps 0 (0,mkM [pI,a0p,pD (.ar 16 tI),pD (.ar 16 tI)] [(1,[a0p,pD (.ar 16 tI),pD (.ar 16 tI)])] (b2j N N)):=g7r a0r 101 c1v (a8I N)
def b1D (N:Nat) (again:Fn' OR [pI,pI,pD (.sl tI),pI,a0p,pD (.ar 16 tI),pD (.ar 16 tI)]) (x0 x1:Int) (x2:List Int) (x3:Int) (x4:a0s) (x5 x6:List Int):OR:=bi (decide (x3 < (len x2))) (gd (idx x3 x2.length)<|gd (idx (x2.getD x3.toNat 0) 16)<|again x0 x1 x2 (w.i64 (x3+1)) x4 x5 (x6.set (x2.getD x3.toNat 0).toNat 1))<|some (7,gI.dv x0 (gI.dv x1 (a1d.dv x4 ((gD (.ar 16 tI)).dv x5 ((gD (.ar 16 tI)).dv x6 [])))))
def a2D:Nat→Fn' OR [pI,pI,pD (.sl tI),pI,a0p,pD (.ar 16 tI),pD (.ar 16 tI)]:=lpG (b1D N)
theorem c0U:LEok Q a2X (bodOf f101) f101.ntmps 0 (6,mkM [pI,pI,pD (.sl tI),pI,a0p,pD (.ar 16 tI),pD (.ar 16 tI)] [(7,[pI,pI,a0p,pD (.ar 16 tI),pD (.ar 16 tI)])] (a2D N N)):=g7r a0r 101 c0Y (a8I N)
def b1x (again:Fn' OR [pI,pI,a0p,pD (.ar 16 tI),pD (.ar 16 tI)]) (x0 x1:Int) (x2:a0s) (x3 x4:List Int):OR:=bi (decide (x1 < (len x2.Code))) (gd (idx x1 x2.Code.length)<|on1 (a5s N ((x2.Code.getD x1.toNat a0o.z).1))<|gg [pI]<|fun (x5:Int)=>bi (x5 == 4) (bi (decide ((x2.Code.getD x1.toNat a0o.z).2.2.1 > 0)) (gd (idx (x2.Code.getD x1.toNat a0o.z).2.2.1 16)<|bi (decide (x5≥1)) (bi (decide (x5≤3)) (bi (decide ((x2.Code.getD x1.toNat a0o.z).2.1 > 0)) (gd (idx (x2.Code.getD x1.toNat a0o.z).2.1 16)<|bi ((List.getD (x4.set (Int.toNat (x2.Code.getD x1.toNat a0o.z).2.2.1) 1) (Int.toNat (x2.Code.getD x1.toNat a0o.z).2.1) 0) == 1) (on1 (a2Q N (x2.Code.getD x1.toNat a0o.z))<|gg [pD (.sl tI)]<|fun (x6:List Int)=>onA 7 (a2D N N x0 x1 x6 0 x2 x3 (x4.set (Int.toNat (x2.Code.getD x1.toNat a0o.z).2.2.1) 1))<|gg [pI,pI,a0p,pD (.ar 16 tI),pD (.ar 16 tI)]<|fun (x7 x8:Int) (x9:a0s) (x10 x11:List Int)=>again x7 (w.i64 (x8+1)) x9 x10 x11)<|again x0 (w.i64 (x1+1)) x2 x3 (x4.set (Int.toNat (x2.Code.getD x1.toNat a0o.z).2.2.1) 1))<|again x0 (w.i64 (x1+1)) x2 x3 (x4.set (Int.toNat (x2.Code.getD x1.toNat a0o.z).2.2.1) 1))<|again x0 (w.i64 (x1+1)) x2 x3 (x4.set (Int.toNat (x2.Code.getD x1.toNat a0o.z).2.2.1) 1))<|again x0 (w.i64 (x1+1)) x2 x3 (x4.set (Int.toNat (x2.Code.getD x1.toNat a0o.z).2.2.1) 1))<|bi (decide (x5≥1)) (bi (decide (x5≤3)) (bi (decide ((x2.Code.getD x1.toNat a0o.z).2.1 > 0)) (gd (idx (x2.Code.getD x1.toNat a0o.z).2.1 16)<|bi ((x4.getD (Int.toNat (x2.Code.getD x1.toNat a0o.z).2.1) 0) == 1) (on1 (a2Q N (x2.Code.getD x1.toNat a0o.z))<|gg [pD (.sl tI)]<|fun (x12:List Int)=>onA 7 (a2D N N x0 x1 x12 0 x2 x3 x4)<|gg [pI,pI,a0p,pD (.ar 16 tI),pD (.ar 16 tI)]<|fun (x13 x14:Int) (x15:a0s) (x16 x17:List Int)=>again x13 (w.i64 (x14+1)) x15 x16 x17)<|again x0 (w.i64 (x1+1)) x2 x3 x4)<|again x0 (w.i64 (x1+1)) x2 x3 x4)<|again x0 (w.i64 (x1+1)) x2 x3 x4)<|again x0 (w.i64 (x1+1)) x2 x3 x4)<|bi (x5 == 5) (bi (decide ((x2.Code.getD x1.toNat a0o.z).2.2.1 > 0)) (gd (idx (x2.Code.getD x1.toNat a0o.z).2.2.1 16)<|bi (decide (x5≥1)) (bi (decide (x5≤3)) (bi (decide ((x2.Code.getD x1.toNat a0o.z).2.1 > 0)) (gd (idx (x2.Code.getD x1.toNat a0o.z).2.1 16)<|bi ((List.getD (x4.set (Int.toNat (x2.Code.getD x1.toNat a0o.z).2.2.1) 1) (Int.toNat (x2.Code.getD x1.toNat a0o.z).2.1) 0) == 1) (on1 (a2Q N (x2.Code.getD x1.toNat a0o.z))<|gg [pD (.sl tI)]<|fun (x18:List Int)=>onA 7 (a2D N N x0 x1 x18 0 x2 x3 (x4.set (Int.toNat (x2.Code.getD x1.toNat a0o.z).2.2.1) 1))<|gg [pI,pI,a0p,pD (.ar 16 tI),pD (.ar 16 tI)]<|fun (x19 x20:Int) (x21:a0s) (x22 x23:List Int)=>again x19 (w.i64 (x20+1)) x21 x22 x23)<|again x0 (w.i64 (x1+1)) x2 x3 (x4.set (Int.toNat (x2.Code.getD x1.toNat a0o.z).2.2.1) 1))<|again x0 (w.i64 (x1+1)) x2 x3 (x4.set (Int.toNat (x2.Code.getD x1.toNat a0o.z).2.2.1) 1))<|again x0 (w.i64 (x1+1)) x2 x3 (x4.set (Int.toNat (x2.Code.getD x1.toNat a0o.z).2.2.1) 1))<|again x0 (w.i64 (x1+1)) x2 x3 (x4.set (Int.toNat (x2.Code.getD x1.toNat a0o.z).2.2.1) 1))<|bi (decide (x5≥1)) (bi (decide (x5≤3)) (bi (decide ((x2.Code.getD x1.toNat a0o.z).2.1 > 0)) (gd (idx (x2.Code.getD x1.toNat a0o.z).2.1 16)<|bi ((x4.getD (Int.toNat (x2.Code.getD x1.toNat a0o.z).2.1) 0) == 1) (on1 (a2Q N (x2.Code.getD x1.toNat a0o.z))<|gg [pD (.sl tI)]<|fun (x24:List Int)=>onA 7 (a2D N N x0 x1 x24 0 x2 x3 x4)<|gg [pI,pI,a0p,pD (.ar 16 tI),pD (.ar 16 tI)]<|fun (x25 x26:Int) (x27:a0s) (x28 x29:List Int)=>again x25 (w.i64 (x26+1)) x27 x28 x29)<|again x0 (w.i64 (x1+1)) x2 x3 x4)<|again x0 (w.i64 (x1+1)) x2 x3 x4)<|again x0 (w.i64 (x1+1)) x2 x3 x4)<|again x0 (w.i64 (x1+1)) x2 x3 x4)<|bi (decide (x5≥1)) (bi (decide (x5≤3)) (bi (decide ((x2.Code.getD x1.toNat a0o.z).2.1 > 0)) (gd (idx (x2.Code.getD x1.toNat a0o.z).2.1 16)<|bi ((x4.getD (Int.toNat (x2.Code.getD x1.toNat a0o.z).2.1) 0) == 1) (on1 (a2Q N (x2.Code.getD x1.toNat a0o.z))<|gg [pD (.sl tI)]<|fun (x30:List Int)=>onA 7 (a2D N N x0 x1 x30 0 x2 x3 x4)<|gg [pI,pI,a0p,pD (.ar 16 tI),pD (.ar 16 tI)]<|fun (x31 x32:Int) (x33:a0s) (x34 x35:List Int)=>again x31 (w.i64 (x32+1)) x33 x34 x35)<|again x0 (w.i64 (x1+1)) x2 x3 x4)<|again x0 (w.i64 (x1+1)) x2 x3 x4)<|again x0 (w.i64 (x1+1)) x2 x3 x4)<|again x0 (w.i64 (x1+1)) x2 x3 x4)<|some (5,gI.dv x0 (a1d.dv x2 ((gD (.ar 16 tI)).dv x3 ((gD (.ar 16 tI)).dv x4 []))))
def a6n:Nat→Fn' OR [pI,pI,a0p,pD (.ar 16 tI),pD (.ar 16 tI)]:=lpG (b1x N)
theorem c2q:LEok Q a2X (bodOf f101) f101.ntmps 0 (4,mkM [pI,pI,a0p,pD (.ar 16 tI),pD (.ar 16 tI)] [(5,[pI,a0p,pD (.ar 16 tI),pD (.ar 16 tI)])] (a6n N N)):=g7G a0r 101 c1q (a8I N) (g7o (c0U N))
def b2n (again:Fn' OR [pI,a0p,pD (.ar 16 tI),pD (.ar 16 tI)]) (x0:Int) (x1:a0s) (x2 x3:List Int):OR:=bi (decide (x0 < 17)) (onA 5 (a6n N N x0 0 x1 x2 x3)<|gg [pI,a0p,pD (.ar 16 tI),pD (.ar 16 tI)]<|fun (x4:Int) (x5:a0s) (x6 x7:List Int)=>again (w.i64 (x4+1)) x5 x6 x7)<|some (3,(gD (.ar 16 tI)).dv x2 ((gD (.ar 16 tI)).dv x3 []))
def b1X:Nat→Fn' OR [pI,a0p,pD (.ar 16 tI),pD (.ar 16 tI)]:=lpG (b2n N)
theorem d3e:LEok Q a2X (bodOf f101) f101.ntmps 0 (2,mkM [pI,a0p,pD (.ar 16 tI),pD (.ar 16 tI)] [(3,[pD (.ar 16 tI),pD (.ar 16 tI)])] (b1X N N)):=g7G a0r 101 c2o (a8I N) (g7o (c2q N))
def c1s (x0:a0s):OR:=on1 (a1h N x0)<|gg [pB]<|fun (x1:Bool)=>bi (!x1) (some (0,(gD (.ar 16 tI)).dv (List.replicate 16 (0 :Int)) []))<|onA 1 (b2j N N 1 x0 (List.replicate 16 (0 :Int)) (List.replicate 16 (0 :Int)))<|gg [a0p,pD (.ar 16 tI),pD (.ar 16 tI)]<|fun (x2:a0s) (x3 x4:List Int)=>onA 3 (b1X N N 0 x2 x3 x4)<|gg [pD (.ar 16 tI),pD (.ar 16 tI)]<|fun (x5 x6:List Int)=>some (0,(gD (.ar 16 tI)).dv x6 [])
def c6J:CE:=(c8x,mkF [a0p] [pD (.ar 16 tI)] (c1s N))
theorem d7C:CEok Q (c6J N):=fn_L a0r f101 a2X (a8I N) (g7p (d2y N) (g7s (c0U N) (c2q N) (d3e N)))
def c0m:CS:=⟨55,43,⟨[.agg [.d (.sl a0y),.d tI,.d (.sl tU)]],[]⟩,[.agg [.o a0n,.d (.ar 16 tI)],.one (.d tI)],false,[]⟩
def b7q (x0:a0s):OR:=on1 (c1s N x0)<|gg [pD (.ar 16 tI)]<|fun (x1:List Int)=>on1 (c1Q N x0 x1)<|gg [a0m,pI]<|fun (x2:a0g) (x3:Int)=>some (0,a0H.dv x2 (gI.dv x3 []))
def c0z:CE:=(c0m,mkF [a0p] [a0m,pI] (b7q N))
theorem c8c:CEok Q (c0z N):=fn_K a0r f43 ⟨[((1,2),c8x),((1,3),b7K)],[],[],[],[]⟩ (g7x (d7C N) (d1N N))
def d3z:CS:=⟨57,25,⟨[.agg [.d (.sl a0y),.d tI,.d (.sl tU)]],[]⟩,[.one (.d tB)],true,[]⟩
def d6y (N:Nat) (x0:a0s):OR:=bi (decide ((len x0.Code)≤200)) (some (0,gB.dv (decide ((len x0.Data)≤500)) []))<|some (0,gB.dv false [])
def d2V:CE:=(d3z,mkF [a0p] [pB] (d6y N))
theorem d9a:CEok Q (d2V N):=fn_K a0r f25 ⟨[],[],[7],[],[]⟩ g7q
def a3y:CS:=⟨59,116,⟨[.one (.d tI),.one (.d tI)],[]⟩,[.one (.d tB)],true,[]⟩
def a3X (N:Nat) (x0 x1:Int):OR:=bi (decide (x0≥1)) (some (0,gB.dv (decide (x0≤x1)) []))<|some (0,gB.dv false [])
def b5X:CE:=(a3y,mkF [pI,pI] [pB] (a3X N))
theorem c5j:CEok Q (b5X N):=fn_K a0r f116 ⟨[],[],[7],[],[]⟩ g7q
def a7E:CS:=⟨60,56,⟨[.agg q_5],[]⟩,[.one (.d tB)],true,[]⟩
def b0J:LS:=⟨⟨[.no,.one (.p 0 0 [1,1,1,1,1,1,1,1,1,1,1,1]),.no,.one (.o tI),.one (.d tI)]++nos 47,[q_5]⟩,[(0,⟨[.no,.no,.one (.d tB)]++nos 49,[]⟩),(1,⟨[.no,.one (.p 0 0 [1,1,1,1,1,1,1,1,1,1,1,1])]++nos 50,[q_5]⟩)]⟩
def a4H:Hi:=⟨[((5,4),a3y),((7,2),a3y),((7,6),a3y),((7,11),a3y),((7,16),a3y)],[(0,b0J)],[25,33,37,42,47],[],[]⟩
theorem b1g:AllP (CEok Q) [b5X N]:=g7o (c5j N)
def a2F (again:Fn' OR [pD (.sl tI),pI,a0l]) (x0:List Int) (x1:Int) (x2:a0f):OR:=bi (decide (x1 < (len x0))) (gd (idx x1 x0.length)<|on1 (a3X N (x0.getD x1.toNat 0) 64)<|gg [pB]<|fun (x3:Bool)=>bi (!x3) (some (0,gB.dv false []))<|again x0 (w.i64 (x1+1)) x2)<|some (1,a0D.dv x2 [])
def a2a:Nat→Fn' OR [pD (.sl tI),pI,a0l]:=lpG (a2F N)
theorem c0f:LEok Q a4H (bodOf f56) f56.ntmps 0 (0,mkM [pD (.sl tI),pI,a0l] [(0,[pB]),(1,[a0l])] (a2a N N)):=g7r a0r 56 b0J (b1g N)
def a4w (x0:a0f):OR:=onB 0 1 (a2a N N [x0.Ldq,x0.Sdq,x0.Aeq,x0.Abq,x0.Ebq,x0.Saq,x0.Flight,x0.Slip] 0 x0) (gg [pB]<|fun (x1:Bool)=>some (0,gB.dv x1 []))<|gg [a0l]<|fun (x2:a0f)=>on1 (a3X N x2.Banks 16)<|gg [pB]<|fun (x3:Bool)=>bi x3 (on1 (a3X N x2.Lat 1000)<|gg [pB]<|fun (x4:Bool)=>bi x4 (on1 (a3X N x2.Mul 50)<|gg [pB]<|fun (x5:Bool)=>bi x5 (on1 (a3X N x2.Div 50)<|gg [pB]<|fun (x6:Bool)=>some (0,gB.dv x6 []))<|some (0,gB.dv false []))<|some (0,gB.dv false []))<|some (0,gB.dv false [])
def a8e:CE:=(a7E,mkF [a0l] [pB] (a4w N))
theorem b2P:CEok Q (a8e N):=fn_L a0r f56 a4H (b1g N) (g7o (c0f N))
def a3O:CS:=⟨61,95,⟨[.one (.d tI)],[]⟩,[.one (.d tB)],true,[]⟩
def a5u (N:Nat) (x0:Int):OR:=bi (decide (x0≥0)) (some (0,gB.dv (decide (x0≤1099511627776)) []))<|some (0,gB.dv false [])
def c7b:CE:=(a3O,mkF [pI] [pB] (a5u N))
theorem d4F:CEok Q (c7b N):=fn_K a0r f95 ⟨[],[],[5],[],[]⟩ g7q
def b4Y:CS:=⟨62,99,⟨[.agg [.d (.sl a0n),.d (.ar 16 tI)],.one (.d tB),.one (.d tI)],[]⟩,[.one (.d (.sl a0i))],true,[]⟩
def b3h (N:Nat) (x0:a0g) (x1:Bool) (x2:Int):OR:=bi (decide (x2 < 0)) (some (0,(gD (.sl a0i)).dv ([]:List a0h) []))<|bi (decide (x2≥(len x0.Blocks))) (some (0,(gD (.sl a0i)).dv ([]:List a0h) []))<|bi x1 (gd (idx x2 x0.Blocks.length)<|some (0,(gD (.sl a0i)).dv ((x0.Blocks.getD x2.toNat a0x.z).2.2.2.2.2.1) []))<|gd (idx x2 x0.Blocks.length)<|some (0,(gD (.sl a0i)).dv ((x0.Blocks.getD x2.toNat a0x.z).2.2.2.2.1) [])
def b4d:CE:=(b4Y,mkF [a0m,pB,pI] [pD (.sl a0i)] (b3h N))
theorem c0s:CEok Q (b4d N):=fn_K a0r f99 ⟨[],[],[9,15,16],[],[]⟩ g7q
def b0F:CS:=⟨63,94,⟨[.agg [.d (.sl a0n),.d (.ar 16 tI)],.one (.d tB),.agg q_3],[]⟩,[.one (.d tB)],true,[]⟩
def b3w:LS:=⟨⟨[.no,.no,.no,.no,.no,.one (.p 0 0 [16,16,1,1,1,1,1,1]),.no,.one (.d tI)]++nos 68,[q_3]⟩,[(0,⟨nos 6++[.one (.d tB)]++nos 69,[]⟩),(1,⟨nos 76,[]⟩)]⟩
def a7f:Hi:=⟨[((1,2),a3O),((1,7),a3O),((1,14),a3O),((1,47),b4Y),((6,10),a3O)],[(0,b3w)],[12,18,25,31,40,46,58,60,68,75],[],[]⟩
theorem b5C:AllP (CEok Q) [c7b N,b4d N]:=g7x (d4F N) (c0s N)
def a3M (again:Fn' OR [pI,a0S]) (x0:Int) (x1:a0v):OR:=bi (decide (x0 < 16)) (gd (idx x0 16)<|bi ((x1.Ready.getD x0.toNat 0) != (-1:Int)) (gd (idx x0 16)<|on1 (a5u N (x1.Ready.getD x0.toNat 0))<|gg [pB]<|fun (x2:Bool)=>bi (!x2) (some (0,gB.dv false []))<|again (w.i64 (x0+1)) x1)<|again (w.i64 (x0+1)) x1)<|some (1,[])
def a2c:Nat→Fn' OR [pI,a0S]:=lpG (a3M N)
theorem c2Q:LEok Q a7f (bodOf f94) f94.ntmps 0 (0,mkM [pI,a0S] [(0,[pB]),(1,[])] (a2c N N)):=g7r a0r 94 b3w (b5C N)
def a7i (x0:a0g) (x1:Bool) (x2:a0v):OR:=on1 (a5u N x2.Wait)<|gg [pB]<|fun (x3:Bool)=>bi (!x3) (some (0,gB.dv false []))<|on1 (a5u N x2.Done)<|gg [pB]<|fun (x4:Bool)=>bi (!x4) (some (0,gB.dv false []))<|on1 (a5u N x2.Pos.Base)<|gg [pB]<|fun (x5:Bool)=>bi (!x5) (some (0,gB.dv false []))<|bi (decide (x2.Pos.Block < 0)) (some (0,gB.dv false []))<|bi (decide (x2.Pos.Block≥(len x0.Blocks))) (some (0,gB.dv false []))<|bi (decide (x2.Pos.Index < 0)) (some (0,gB.dv false []))<|on1 (b3h N x0 x1 x2.Pos.Block)<|gg [pD (.sl a0i)]<|fun (x6:List a0h)=>bi (decide (x2.Pos.Index > (len x6))) (some (0,gB.dv false []))<|onB 0 1 (a2c N N 0 x2) (gg [pB]<|fun (x7:Bool)=>some (0,gB.dv x7 []))<|gg []<|some (0,gB.dv true [])
def b7b:CE:=(b0F,mkF [a0m,pB,a0S] [pB] (a7i N))
theorem c7I:CEok Q (b7b N):=fn_L a0r f94 a7f (b5C N) (g7o (c2Q N))
def c3h:CS:=⟨64,96,⟨[.one (.d tI),.one (.d tI),.one (.d tI)],[]⟩,[.one (.d tB)],true,[]⟩
def c1t (N:Nat) (x0 x1 x2:Int):OR:=bi (x1 == 1) (bi (decide (x0≥0)) (bi (decide (x0≤x2)) (bi (decide ((w.i64 (x2 - x0))≥x1)) (gf (decide (x1 = 0))<|some (0,gB.dv ((Int.tmod x0 x1) == 0) []))<|some (0,gB.dv false []))<|some (0,gB.dv false []))<|some (0,gB.dv false []))<|bi (x1 == 2) (bi (decide (x0≥0)) (bi (decide (x0≤x2)) (bi (decide ((w.i64 (x2 - x0))≥x1)) (gf (decide (x1 = 0))<|some (0,gB.dv ((Int.tmod x0 x1) == 0) []))<|some (0,gB.dv false []))<|some (0,gB.dv false []))<|some (0,gB.dv false []))<|bi (x1 == 4) (bi (decide (x0≥0)) (bi (decide (x0≤x2)) (bi (decide ((w.i64 (x2 - x0))≥x1)) (gf (decide (x1 = 0))<|some (0,gB.dv ((Int.tmod x0 x1) == 0) []))<|some (0,gB.dv false []))<|some (0,gB.dv false []))<|some (0,gB.dv false []))<|some (0,gB.dv false [])
def c2H:CE:=(c3h,mkF [pI,pI,pI] [pB] (c1t N))
theorem d0C:CEok Q (c2H N):=fn_K a0r f96 ⟨[],[],[9,13,17,21,26,33],[],[]⟩ g7q
def b3C:CS:=⟨65,41,⟨[.one (.d tI)],[]⟩,[.one (.d tI)],true,[]⟩
def c0u (N:Nat) (x0:Int):OR:=bi (x0 == 26) (some (0,gI.dv 4 []))<|bi (x0 == 31) (some (0,gI.dv 4 []))<|bi (x0 == 27) (some (0,gI.dv 2 []))<|bi (x0 == 28) (some (0,gI.dv 2 []))<|bi (x0 == 32) (some (0,gI.dv 2 []))<|bi (x0 == 29) (some (0,gI.dv 1 []))<|bi (x0 == 30) (some (0,gI.dv 1 []))<|bi (x0 == 33) (some (0,gI.dv 1 []))<|some (0,gI.dv 0 [])
def b3D:CE:=(b3C,mkF [pI] [pI] (c0u N))
theorem b7o:CEok Q (b3D N):=fn_K a0r f41 ⟨[],[],[4,7,11],[],[]⟩ g7q
def b2i:CS:=⟨66,97,⟨[.agg [.d tB,.d tI,.d tI,.d tI,.d tW,.d tI,.d tI,.d tI],.one (.d tI)],[]⟩,[.one (.d tB)],true,[]⟩
def a5W (x0:a0e) (x1:Int):OR:=on1 (a5s N x0.2.1)<|gg [pI]<|fun (x2:Int)=>on1 (c0u N x0.2.1)<|gg [pI]<|fun (x3:Int)=>bi (x0.2.2.2.1 == x3) (on1 (c1t N x0.2.2.1 x0.2.2.2.1 x1)<|gg [pB]<|fun (x4:Bool)=>bi x4 (bi x0.1 (bi (x2 == 5) (bi (decide (x0.2.2.2.2.2.1≥0)) (bi (decide (x0.2.2.2.2.2.1≤1000)) (bi (decide (x0.2.2.2.2.2.2.1≥(-1:Int))) (some (0,gB.dv (decide (x0.2.2.2.2.2.2.1≤15)) []))<|some (0,gB.dv false []))<|some (0,gB.dv false []))<|some (0,gB.dv false []))<|bi (!x0.1) (bi (x2 == 4) (bi (decide (x0.2.2.2.2.2.1≥0)) (bi (decide (x0.2.2.2.2.2.1≤1000)) (bi (decide (x0.2.2.2.2.2.2.1≥(-1:Int))) (some (0,gB.dv (decide (x0.2.2.2.2.2.2.1≤15)) []))<|some (0,gB.dv false []))<|some (0,gB.dv false []))<|some (0,gB.dv false []))<|some (0,gB.dv false []))<|some (0,gB.dv false []))<|bi (!x0.1) (bi (x2 == 4) (bi (decide (x0.2.2.2.2.2.1≥0)) (bi (decide (x0.2.2.2.2.2.1≤1000)) (bi (decide (x0.2.2.2.2.2.2.1≥(-1:Int))) (some (0,gB.dv (decide (x0.2.2.2.2.2.2.1≤15)) []))<|some (0,gB.dv false []))<|some (0,gB.dv false []))<|some (0,gB.dv false []))<|some (0,gB.dv false []))<|some (0,gB.dv false []))<|some (0,gB.dv false []))<|some (0,gB.dv false [])
def b1E:CE:=(b2i,mkF [a3C,pI] [pB] (a5W N))
theorem c0H:CEok Q (b1E N):=fn_K a0r f97 ⟨[((1,2),a2C),((2,4),b3C),((2,12),c3h)],[],[15,23,26,30,34,40,45,50,55],[],[]⟩ (g7s (a3h N) (b7o N) (d0C N))
def a2x:CS:=⟨67,37,⟨[.agg q_5,.agg [.d (.sl a0n),.d (.ar 16 tI)],.agg q_0],[]⟩,[.one (.d tB)],true,[]⟩
def b1S:LS:=⟨⟨[.no,.no,.no,.no,.no,.one (.p 0 0 [1,16,16,1,1,1,1,1,1,16,16,1,1,1,1,1,1,1,1,1,1,1,1,1,1,1,1,1,1,1,1,1]),.no,.one (.d tI)]++nos 242,[q_0]⟩,[(0,⟨nos 6++[.one (.d tB)]++nos 243,[]⟩),(1,⟨[.no,.no,.no,.no,.no,.one (.p 0 0 [1,16,16,1,1,1,1,1,1,16,16,1,1,1,1,1,1,1,1,1,1,1,1,1,1,1,1,1,1,1,1,1])]++nos 244,[q_0]⟩)]⟩
def b1L:LS:=⟨⟨[.no,.no,.no,.no,.no,.one (.p 0 0 [1,16,16,1,1,1,1,1,1,16,16,1,1,1,1,1,1,1,1,1,1,1,1,1,1,1,1,1,1,1,1,1]),.no,.no,.no,.one (.d tI),.one (.d tI)]++nos 239,[q_0]⟩,[(0,⟨nos 6++[.one (.d tB)]++nos 243,[]⟩),(3,⟨[.no,.no,.no,.no,.no,.one (.p 0 0 [1,16,16,1,1,1,1,1,1,16,16,1,1,1,1,1,1,1,1,1,1,1,1,1,1,1,1,1,1,1,1,1]),.no,.no,.no,.one (.d tI)]++nos 240,[q_0]⟩)]⟩
def a2y:Hi:=⟨[((1,1),a7E),((1,7),b0F),((1,14),b0F),((1,20),a3O),((1,26),a3O),((1,32),a3O),((1,38),a3O),((9,7),c3h),((9,12),a3O),((16,4),b2i),((26,11),a3O),((26,16),a3O)],[(0,b1S),(2,b1L)],[17,24,31,37,43,49,54,61,69,77,85,93,101,109,114,119,136,142,145,149,154,167,169,176,186,195,200,209,214,220,225,230,235,239,243],[],[]⟩
theorem a8d:AllP (CEok Q) [a8e N,b7b N,c7b N,c2H N,b1E N]:=g7p (b2P N) (g7p (c7I N) (g7s (d4F N) (d0C N) (c0H N)))
def a3s (again:Fn' OR [pI,a0d]) (x0:Int) (x1:a0b):OR:=bi (decide (x0 < (len x1.Saq))) (gd (idx x0 x1.Saq.length)<|on1 (c1t N ((x1.Saq.getD x0.toNat a0a.z).1) ((x1.Saq.getD x0.toNat a0a.z).2.1) (len x1.Mem))<|gg [pB]<|fun (x2:Bool)=>bi (!x2) (some (0,gB.dv false []))<|on1 (a5u N ((x1.Saq.getD x0.toNat a0a.z).2.2.1))<|gg [pB]<|fun (x3:Bool)=>bi (!x3) (some (0,gB.dv false []))<|bi ((x1.Saq.getD x0.toNat a0a.z).2.2.2.1) (bi (decide (x0 > 0)) (some (0,gB.dv false []))<|again (w.i64 (x0+1)) x1)<|again (w.i64 (x0+1)) x1)<|some (1,a0c.dv x1 [])
def a1I:Nat→Fn' OR [pI,a0d]:=lpG (a3s N)
theorem c1Z:LEok Q a2y (bodOf f37) f37.ntmps 0 (0,mkM [pI,a0d] [(0,[pB]),(1,[a0d])] (a1I N N)):=g7r a0r 37 b1S (a8d N)
def a3f (again:Fn' OR [pI,pI,a0d]) (x0 x1:Int) (x2:a0b):OR:=bi (decide (x1 < (len x2.Table))) (gd (idx x1 x2.Table.length)<|on1 (a5W N (x2.Table.getD x1.toNat a0e.z) (len x2.Mem))<|gg [pB]<|fun (x3:Bool)=>bi (!x3) (some (0,gB.dv false []))<|bi ((x2.Table.getD x1.toNat a0e.z).1) (bi ((len x2.Saq) == 0) (some (0,gB.dv false []))<|gd (idx 0 x2.Saq.length)<|bi ((x2.Saq.getD 0 a0a.z).1 != (x2.Table.getD x1.toNat a0e.z).2.2.1) (some (0,gB.dv false []))<|gd (idx 0 x2.Saq.length)<|bi ((x2.Saq.getD 0 a0a.z).2.1 != (x2.Table.getD x1.toNat a0e.z).2.2.2.1) (some (0,gB.dv false []))<|again (w.i64 (x0+1)) (w.i64 (x1+1)) x2)<|again x0 (w.i64 (x1+1)) x2)<|some (3,gI.dv x0 (a0c.dv x2 []))
def a1H:Nat→Fn' OR [pI,pI,a0d]:=lpG (a3f N)
theorem c2e:LEok Q a2y (bodOf f37) f37.ntmps 0 (2,mkM [pI,pI,a0d] [(0,[pB]),(3,[pI,a0d])] (a1H N N)):=g7r a0r 37 b1L (a8d N)
def a2i (x0:a0f) (x1:a0g) (x2:a0b):OR:=on1 (a4w N x0)<|gg [pB]<|fun (x3:Bool)=>bi (!x3) (some (0,gB.dv false []))<|on1 (a7i N x1 false x2.A)<|gg [pB]<|fun (x4:Bool)=>bi (!x4) (some (0,gB.dv false []))<|on1 (a7i N x1 true x2.E)<|gg [pB]<|fun (x5:Bool)=>bi (!x5) (some (0,gB.dv false []))<|on1 (a5u N x2.Cycle)<|gg [pB]<|fun (x6:Bool)=>bi (!x6) (some (0,gB.dv false []))<|on1 (a5u N x2.Lats)<|gg [pB]<|fun (x7:Bool)=>bi (!x7) (some (0,gB.dv false []))<|on1 (a5u N x2.Picks)<|gg [pB]<|fun (x8:Bool)=>bi (!x8) (some (0,gB.dv false []))<|on1 (a5u N x2.Tags)<|gg [pB]<|fun (x9:Bool)=>bi (!x9) (some (0,gB.dv false []))<|bi (decide ((len x2.Ldq) > x0.Ldq)) (some (0,gB.dv false []))<|bi (decide ((len x2.Sdq) > x0.Sdq)) (some (0,gB.dv false []))<|bi (decide ((len x2.Aeq) > x0.Aeq)) (some (0,gB.dv false []))<|bi (decide ((len x2.Abq) > x0.Abq)) (some (0,gB.dv false []))<|bi (decide ((len x2.Ebq) > x0.Ebq)) (some (0,gB.dv false []))<|bi (decide ((len x2.Saq) > x0.Saq)) (some (0,gB.dv false []))<|bi (decide ((len x2.Table) > x0.Flight)) (some (0,gB.dv false []))<|bi (decide ((len x2.Mem) > 65536)) (some (0,gB.dv false []))<|onB 0 1 (a1I N N 0 x2) (gg [pB]<|fun (x10:Bool)=>some (0,gB.dv x10 []))<|gg [a0d]<|fun (x11:a0b)=>onB 0 3 (a1H N N 0 0 x11) (gg [pB]<|fun (x12:Bool)=>some (0,gB.dv x12 []))<|gg [pI,a0d]<|fun (x13:Int) (x14:a0b)=>bi (decide ((len x14.Saq) > 0)) (gd (idx 0 x14.Saq.length)<|bi (decide (x13 > 1)) (some (0,gB.dv false []))<|bi (!((x14.Saq.getD 0 a0a.z).2.2.2.1 == (x13 == 1))) (some (0,gB.dv false []))<|bi (decide (x14.Trap.Kind≥0)) (bi (decide (x14.Trap.Kind≤4)) (on1 (a5u N x14.Trap.Step)<|gg [pB]<|fun (x15:Bool)=>bi x15 (on1 (a5u N x14.Trap.Pc)<|gg [pB]<|fun (x16:Bool)=>bi x16 (bi (decide (x14.Trap.Kind > 0)) (some (0,gB.dv true []))<|bi (x14.Trap.Step == 0) (some (0,gB.dv (x14.Trap.Pc == 0) []))<|some (0,gB.dv false []))<|some (0,gB.dv false []))<|some (0,gB.dv false []))<|some (0,gB.dv false []))<|some (0,gB.dv false []))<|bi (decide (x13 > 1)) (some (0,gB.dv false []))<|bi (!(false == (x13 == 1))) (some (0,gB.dv false []))<|bi (decide (x14.Trap.Kind≥0)) (bi (decide (x14.Trap.Kind≤4)) (on1 (a5u N x14.Trap.Step)<|gg [pB]<|fun (x17:Bool)=>bi x17 (on1 (a5u N x14.Trap.Pc)<|gg [pB]<|fun (x18:Bool)=>bi x18 (bi (decide (x14.Trap.Kind > 0)) (some (0,gB.dv true []))<|bi (x14.Trap.Step == 0) (some (0,gB.dv (x14.Trap.Pc == 0) []))<|some (0,gB.dv false []))<|some (0,gB.dv false []))<|some (0,gB.dv false []))<|some (0,gB.dv false []))<|some (0,gB.dv false [])
def a2z:CE:=(a2x,mkF [a0l,a0m,a0d] [pB] (a2i N))
theorem a3J:CEok Q (a2z N):=fn_L a0r f37 a2y (a8d N) (g7x (c1Z N) (c2e N))
def a7M:CS:=⟨68,80,⟨[.one (.d (.sl a0k))],[]⟩,[.one (.o a0k)],true,[]⟩
def a7q (N:Nat) (x0:List a0q):OR:=gd (rm ([]:List a0q) x0 16)<|some (0,(gD (.sl a0k)).dv (([]:List a0q)++x0) [])
def b0n:CE:=(a7M,mkF [pD (.sl a0k)] [pD (.sl a0k)] (a7q N))
theorem b4Z:CEok Q (b0n N):=fn_K a0r f80 ⟨[],[],[],[],[]⟩ g7q
def a4G:CS:=⟨69,33,⟨[.agg q_0],[]⟩,[.agg q_1],true,[]⟩
def a6F (x0:a0b):OR:=on1 (a7q N x0.Ldq)<|gg [pD (.sl a0k)]<|fun (x1:List a0q)=>gd (rm ([]:List Int) x0.Sdq 4)<|gd (rm ([]:List Int) x0.Aeq 4)<|gd (rm ([]:List Bool) x0.Abq 1)<|gd (rm ([]:List Bool) x0.Ebq 1)<|gd (rm ([]:List a0a) x0.Saq 32)<|gd (rm ([]:List a0e) x0.Table 64)<|gd (rm ([]:List Int) x0.Mem 1)<|gd (rm ([]:List a0K) x0.Writes 24)<|some (0,a0c.dv ({ x0 with Ldq:=x1,Sdq:=(([]:List Int)++x0.Sdq),Aeq:=(([]:List Int)++x0.Aeq),Abq:=(([]:List Bool)++x0.Abq),Ebq:=(([]:List Bool)++x0.Ebq),Saq:=(([]:List a0a)++x0.Saq),Table:=(([]:List a0e)++x0.Table),Mem:=(([]:List Int)++x0.Mem),Writes:=(([]:List a0K)++x0.Writes) }:a0b) [])
def a5g:CE:=(a4G,mkF [a0d] [a0d] (a6F N))
theorem a6q:CEok Q (a5g N):=fn_K a0r f33 ⟨[((1,2),a7M)],[],[],[],[]⟩ (g7o (b4Z N))
def b5o:CS:=⟨70,215,⟨[.one (.d tI),.one (.p 0 0 [1]),.one (.p 1 0 [1])],[[.d tI],[.d tI]]⟩,[.one (.d tB)],true,[[.d tI],[.d tI]]⟩
def a8r (N:Nat) (x0 x1 x2:Int):OR:=bi (decide (x0 < x1)) (some (0,gB.dv true (gI.dv x1 (gI.dv x2 []))))<|some (0,gB.dv (decide (x0 > x2)) (gI.dv x1 (gI.dv x2 [])))
def b5y:CE:=(b5o,mkF [pI,pI,pI] [pB,pI,pI] (a8r N))
theorem c6f:CEok Q (b5y N):=fn_K a0r f215 ⟨[],[],[8],[],[]⟩ g7q
def a8X:CS:=⟨71,129,⟨[.one (.d (.sl tI)),.one (.f 215 [⟨0,0,[1]⟩,⟨1,0,[1]⟩])],[[.d tI],[.d tI]]⟩,[.one (.d tI)],true,[[.d tI],[.d tI]]⟩
def a7z:LS:=⟨⟨[.one (.d (.sl tI)),.one (.f 215 [⟨0,0,[1]⟩,⟨1,0,[1]⟩]),.no,.no,.no,.no,.no,.one (.d tI),.one (.d tI)]++nos 10,[[.d tI],[.d tI]]⟩,[(0,⟨[.no,.no,.no,.no,.one (.d tI)]++nos 14,[[.d tI],[.d tI]]⟩),(1,⟨nos 19,[[.d tI],[.d tI]]⟩)]⟩
def a3b:Hi:=⟨[((4,5),b5o)],[(0,a7z)],[9,16],[],[]⟩
theorem a8F:AllP (CEok Q) [b5y N]:=g7o (c6f N)
def a1O (again:Fn' OR [pD (.sl tI),pI,pI,pI,pI]) (x0:List Int) (x1 x2 x3 x4:Int):OR:=bi (decide (x2 < x1)) (gd (idx x2 x0.length)<|on1 (a8r N (x0.getD x2.toNat 0) x3 x4)<|gg [pB,pI,pI]<|fun (x5:Bool) (x6 x7:Int)=>bi x5 (some (0,gI.dv x2 (gI.dv x6 (gI.dv x7 []))))<|again x0 x1 (w.i64 (x2+1)) x6 x7)<|some (1,gI.dv x3 (gI.dv x4 []))
def a1w:Nat→Fn' OR [pD (.sl tI),pI,pI,pI,pI]:=lpG (a1O N)
theorem b5D:LEok Q a3b (bodOf f129) f129.ntmps 2 (0,mkM [pD (.sl tI),pI,pI,pI,pI] [(0,[pI,pI,pI]),(1,[pI,pI])] (a1w N N)):=g7r a0r 129 a7z (a8F N)
def a6P (x0:List Int) (x1 x2:Int):OR:=onB 0 1 (a1w N N x0 (len x0) 0 x1 x2) (gg [pI,pI,pI]<|fun (x3 x4 x5:Int)=>some (0,gI.dv x3 (gI.dv x4 (gI.dv x5 []))))<|gg [pI,pI]<|fun (x6 x7:Int)=>some (0,gI.dv (-1:Int) (gI.dv x6 (gI.dv x7 [])))
def a9m:CE:=(a8X,mkF [pD (.sl tI),pI,pI] [pI,pI,pI] (a6P N))
theorem b8I:CEok Q (a9m N):=fn_L a0r f129 a3b (a8F N) (g7o (b5D N))
def a6R:CS:=⟨72,74,⟨[.one (.d (.sl tI)),.one (.f 215 [⟨0,0,[1]⟩,⟨1,0,[1]⟩])],[[.d tI],[.d tI]]⟩,[.one (.d tB)],true,[[.d tI],[.d tI]]⟩
def a4p (x0:List Int) (x1 x2:Int):OR:=on1 (a6P N x0 x1 x2)<|gg [pI,pI,pI]<|fun (x3 x4 x5:Int)=>some (0,gB.dv (decide (x3≥0)) (gI.dv x4 (gI.dv x5 [])))
def a6Z:CE:=(a6R,mkF [pD (.sl tI),pI,pI] [pB,pI,pI] (a4p N))
theorem b3W:CEok Q (a6Z N):=fn_K a0r f74 ⟨[((1,2),a8X)],[],[],[],[]⟩ (g7o (b8I N))
def a0T:CS:=⟨73,144,⟨[.one (.d tI),.one (.d tI),.one (.d (.sl tI))],[]⟩,[.one (.d tB)],true,[]⟩
def a0R (x0 x1:Int) (x2:List Int):OR:=on1 (a4p N x2 x0 x1)<|gg [pB,pI,pI]<|fun (x3:Bool) (x4 x5:Int)=>some (0,gB.dv (!x3) [])
def a2l:CE:=(a0T,mkF [pI,pI,pD (.sl tI)] [pB] (a0R N))
theorem a2U:CEok Q (a2l N):=fn_K a0r f144 ⟨[((1,2),a6R)],[],[],[],[]⟩ (g7o (b3W N))
def b9t:CS:=⟨74,117,⟨[.agg q_5],[]⟩,[.one (.d tB)],true,[]⟩
def b1Z (x0:a0f):OR:=on1 (a0R N 1 64 [x0.Ldq,x0.Sdq,x0.Aeq,x0.Abq,x0.Ebq,x0.Saq,x0.Flight,x0.Slip])<|gg [pB]<|fun (x1:Bool)=>bi x1 (on1 (a0R N 1 16 [x0.Banks])<|gg [pB]<|fun (x2:Bool)=>bi x2 (on1 (a0R N 1 1000 [x0.Lat])<|gg [pB]<|fun (x3:Bool)=>bi x3 (on1 (a0R N 1 50 [x0.Mul,x0.Div])<|gg [pB]<|fun (x4:Bool)=>some (0,gB.dv x4 []))<|some (0,gB.dv false []))<|some (0,gB.dv false []))<|some (0,gB.dv false [])
def b8X:CE:=(b9t,mkF [a0l] [pB] (b1Z N))
theorem c9D:CEok Q (b8X N):=fn_K a0r f117 ⟨[((1,17),a0T),((1,22),a0T),((1,28),a0T),((1,36),a0T)],[],[21,27,33],[],[]⟩ (g7o (a2U N))
def a3v:CS:=⟨80,229,⟨[.one (.d tI)],[]⟩,[.one (.d tI)],true,[]⟩
def a3m (N:Nat) (x0:Int):OR:=bi (x0 == 26) (some (0,gI.dv 4 []))<|bi (x0 == 31) (some (0,gI.dv 4 []))<|bi (x0 == 27) (some (0,gI.dv 2 []))<|bi (x0 == 28) (some (0,gI.dv 2 []))<|bi (x0 == 32) (some (0,gI.dv 2 []))<|bi (x0 == 29) (some (0,gI.dv 1 []))<|bi (x0 == 30) (some (0,gI.dv 1 []))<|bi (x0 == 33) (some (0,gI.dv 1 []))<|some (0,gI.dv 0 [])
def a3w:CE:=(a3v,mkF [pI] [pI] (a3m N))
theorem a4A:CEok Q (a3w N):=fn_K a0r f229 ⟨[],[],[4,7,11],[],[]⟩ g7q
def a6S:CS:=⟨81,260,⟨[.one (.d tI),.one (.d tW),.one (.d tI)],[]⟩,[.one (.d tI)],true,[]⟩
def a1s (N:Nat) (x0 x1 x2:Int):OR:=bi (decide (x0≥1)) (gf (decide (x0 = 0))<|bi ((Int.tmod (w.i64 x1) x0) != 0) (some (0,gI.dv 1 []))<|bi (decide (x0 > 0)) (bi (decide (x0 > x2)) (some (0,gI.dv 2 []))<|bi (decide ((w.i64 x1) > (w.i64 (x2 - x0)))) (some (0,gI.dv 2 []))<|bi (decide (x0≤0)) (bi (decide ((w.i64 ((w.i64 x1)+x0)) > x2)) (some (0,gI.dv 2 []))<|some (0,gI.dv 0 []))<|some (0,gI.dv 0 []))<|bi (decide (x0≤0)) (bi (decide ((w.i64 ((w.i64 x1)+x0)) > x2)) (some (0,gI.dv 2 []))<|some (0,gI.dv 0 []))<|some (0,gI.dv 0 []))<|bi (decide (x0 > 0)) (bi (decide (x0 > x2)) (some (0,gI.dv 2 []))<|bi (decide ((w.i64 x1) > (w.i64 (x2 - x0)))) (some (0,gI.dv 2 []))<|bi (decide (x0≤0)) (bi (decide ((w.i64 ((w.i64 x1)+x0)) > x2)) (some (0,gI.dv 2 []))<|some (0,gI.dv 0 []))<|some (0,gI.dv 0 []))<|bi (decide (x0≤0)) (bi (decide ((w.i64 ((w.i64 x1)+x0)) > x2)) (some (0,gI.dv 2 []))<|some (0,gI.dv 0 []))<|some (0,gI.dv 0 [])
def a7b:CE:=(a6S,mkF [pI,pW,pI] [pI] (a1s N))
theorem a9u:CEok Q (a7b N):=fn_K a0r f260 ⟨[],[],[10,13,19,22,26,34,37],[],[]⟩ g7q
def a6d:CS:=⟨91,234,⟨[.agg [.d (.sl a0n),.d (.ar 16 tI)],.one (.d tI)],[]⟩,[.one (.d tB)],true,[]⟩
def a7o (N:Nat) (x0:a0g) (x1:Int):OR:=bi (decide (x1≥0)) (some (0,gB.dv (decide (x1 < (len x0.Blocks))) []))<|some (0,gB.dv false [])
def b0o:CE:=(a6d,mkF [a0m,pI] [pB] (a7o N))
theorem b4X:CEok Q (b0o N):=fn_K a0r f234 ⟨[],[],[7],[],[]⟩ g7q
def a9F:CS:=⟨92,167,⟨[.agg [.d (.sl a0n),.d (.ar 16 tI)],.one (.d tB),.one (.d tI)],[]⟩,[.one (.d (.sl a0i))],true,[]⟩
def a7Z (x0:a0g) (x1:Bool) (x2:Int):OR:=on1 (a7o N x0 x2)<|gg [pB]<|fun (x3:Bool)=>bi (!x3) (some (0,(gD (.sl a0i)).dv ([]:List a0h) []))<|bi x1 (gd (idx x2 x0.Blocks.length)<|some (0,(gD (.sl a0i)).dv ((x0.Blocks.getD x2.toNat a0x.z).2.2.2.2.2.1) []))<|gd (idx x2 x0.Blocks.length)<|some (0,(gD (.sl a0i)).dv ((x0.Blocks.getD x2.toNat a0x.z).2.2.2.2.1) [])
def b4y:CE:=(a9F,mkF [a0m,pB,pI] [pD (.sl a0i)] (a7Z N))
theorem c0W:CEok Q (b4y N):=fn_K a0r f167 ⟨[((1,2),a6d)],[],[7,12],[],[]⟩ (g7o (b4X N))
def b3R:CS:=⟨93,166,⟨[.agg [.d (.sl a0n),.d (.ar 16 tI)],.agg [.d tI,.d tI,.d tI]],[]⟩,[.one (.d tI)],true,[]⟩
def b0G (x0:a0g) (x1:a0C):OR:=on1 (a7o N x0 x1.Block)<|gg [pB]<|fun (x2:Bool)=>bi (!x2) (some (0,gI.dv x1.Base []))<|gd (idx x1.Block x0.Blocks.length)<|some (0,gI.dv (w.i64 ((w.i64 (x1.Base+(x0.Blocks.getD x1.Block.toNat a0x.z).2.1)) - (x0.Blocks.getD x1.Block.toNat a0x.z).1)) [])
def b3Z:CE:=(b3R,mkF [a0m,a0L] [pI] (b0G N))
theorem b9U:CEok Q (b3Z N):=fn_K a0r f166 ⟨[((1,3),a6d)],[],[10],[],[]⟩ (g7o (b4X N))
def a8i:CS:=⟨94,165,⟨[.agg [.d (.sl a0n),.d (.ar 16 tI)],.one (.d tB),.agg [.d tI,.d tI,.d tI]],[]⟩,[.agg [.d tI,.d tI,.d tI],.one (.d tB)],false,[]⟩
def b5w:LS:=⟨⟨[.no,.one (.d tB),.no,.one (.p 0 0 [1,16]),.no,.one (.p 1 0 [1,1,1]),.one (.p 2 0 [1,1,1]),.no,.no,.no,.no,.one (.d tI),.one (.d tI)]++nos 52,[[.d (.sl a0n),.d (.ar 16 tI)],[.d tI,.d tI,.d tI],[.d tI,.d tI,.d tI]]⟩,[(0,⟨nos 6++[.one (.p 0 0 [1,1,1]),.one (.d tB)]++nos 57,[[.d tI,.d tI,.d tI]]⟩),(1,⟨[.no,.one (.d tB),.no,.one (.p 0 0 [1,16]),.no,.one (.p 1 0 [1,1,1]),.one (.p 2 0 [1,1,1])]++nos 58,[[.d (.sl a0n),.d (.ar 16 tI)],[.d tI,.d tI,.d tI],[.d tI,.d tI,.d tI]]⟩)]⟩
def a8A:Hi:=⟨[((3,3),a6d),((6,6),a9F),((10,3),b3R),((12,4),a6d),((12,13),a9F)],[(0,b5w)],[13,18,27,38,54],[],[]⟩
theorem b5P:AllP (CEok Q) [b0o N,b4y N,b3Z N]:=g7s (b4X N) (c0W N) (b9U N)
def a4y (again:Fn' OR [pB,pI,pI,a0m,a0L,a0L]) (x0:Bool) (x1 x2:Int) (x3:a0g) (x4 x5:a0C):OR:=bi (decide (x2 < x1)) (on1 (a7o N x3 x4.Block)<|gg [pB]<|fun (x6:Bool)=>bi (!x6) (some (0,gB.dv true (a0P.dv x4 [])))<|gd (idx x4.Block x3.Blocks.length)<|on1 (a7Z N x3 x0 x4.Block)<|gg [pD (.sl a0i)]<|fun (x7:List a0h)=>bi (decide (x4.Index < (len x7))) (some (0,gB.dv false (a0P.dv x4 [])))<|bi (decide ((x3.Blocks.getD x4.Block.toNat a0x.z).2.2.1 < 0)) (some (0,gB.dv true (a0P.dv x4 [])))<|on1 (b0G N x3 x4)<|gg [pI]<|fun (x8:Int)=>again x0 x1 (w.i64 (x2+1)) x3 (a0C.mk ((x3.Blocks.getD x4.Block.toNat a0x.z).2.2.1) 0 x8) x5)<|some (1,gB.dv x0 (a0H.dv x3 (a0P.dv x4 (a0P.dv x5 []))))
def a3r:Nat→Fn' OR [pB,pI,pI,a0m,a0L,a0L]:=lpG (a4y N)
theorem c6b:LEok Q a8A (bodOf f165) f165.ntmps 0 (0,mkM [pB,pI,pI,a0m,a0L,a0L] [(0,[pB,a0L]),(1,[pB,a0m,a0L,a0L])] (a3r N N)):=g7r a0r 165 b5w (b5P N)
def a6v (x0:a0g) (x1:Bool) (x2:a0C):OR:=onB 0 1 (a3r N N x1 (len x0.Blocks) 0 x0 x2 a0C.z) (gg [pB,a0L]<|fun (x3:Bool) (x4:a0C)=>some (0,a0P.dv x4 (gB.dv x3 [])))<|gg [pB,a0m,a0L,a0L]<|fun (x5:Bool) (x6:a0g) (x7 x8:a0C)=>on1 (a7o N x6 x7.Block)<|gg [pB]<|fun (x9:Bool)=>bi (!x9) (some (0,a0P.dv x7 (gB.dv true [])))<|on1 (a7Z N x6 x5 x7.Block)<|gg [pD (.sl a0i)]<|fun (x10:List a0h)=>some (0,a0P.dv x7 (gB.dv (decide (x7.Index≥(len x10))) []))
def a8y:CE:=(a8i,mkF [a0m,pB,a0L] [a0L,pB] (a6v N))
theorem b2u:CEok Q (a8y N):=fn_L a0r f165 a8A (b5P N) (g7o (c6b N))
end
end Go.Proofs.Zz
