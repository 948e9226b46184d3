import Derived.Test.YtnfpdmhdpeffjaaGreatK2
set_option linter.unusedSimpArgs false
set_option linter.unusedVariables false
/- What functions of the program compute, as plain functions. -/
set_option maxRecDepth 100000
namespace Go.Proofs.Zz
noncomputable section
open Go Go.Proofs.Tryz
variable (N:Nat)
def c1Q (x0:a0s) (x1:List Int):OR:=on1 (b3f N x0 x1)<|gg [pB]<|fun (x2:Bool)=>bi (!x2) (some (0,a0H.dv (a0g.mk ([]:List a0x) (List.replicate 16 (0 :Int))) (gI.dv 1 [])))<|on1 (d2H N x0)<|gg [pD (.sl (.pair tI (.pair tI (.pair tI (.pair tI (.pair .nl (.pair .nl .unit)))))))]<|fun (x3:List (Int × (Int × (Int × (Int × (Unit × (Unit × Unit)))))))=>onA 1 (a6e N N 0 x0.Code x0.Size x0.Data x1 ([]:List a0x) (List.replicate 16 (0 :Int)) x3 x1)<|gg [pD (.sl a0y),pI,pD (.sl tU),pD (.ar 16 tI),pD (.sl a0n),pD (.ar 16 tI),pD (.sl a0n),pD (.ar 16 tI)]<|fun (x4:List a0o) (x5:Int) (x6 x7:List Int) (x8:List a0x) (x9:List Int) (x10:List a0x) (x11:List Int)=>some (0,a0H.dv (a0g.mk x10 x11) (gI.dv 0 []))
def c2F:CE:=(b7K,mkF [a0p,pD (.ar 16 tI)] [a0m,pI] (c1Q N))
theorem d1N:CEok Q (c2F N) :=
 fnG (hi:=a3W) (l:=a4R N) (t:=[c3X N]) a0r hmix (c0h N) (c3K N) f_67 (by kernel_rfl) (by kernel_rfl) ⟨d4V N,trivial⟩ fun ys=>by kernel_rfl
def c8x:CS:=⟨54,101,⟨[.agg [.d (.sl a0y),.d tI,.d (.sl tU)]],[]⟩,[.agg [.d (.ar 16 tI)]],true,[]⟩
def c1v:LS:=⟨⟨[.no,.one (.p 0 0 [1,1,1]),.one (.p 1 0 [16]),.one (.p 2 0 [16]),.one (.d tI)]++nos 81,[[.d (.sl a0y),.d tI,.d (.sl tU)],[.d (.ar 16 tI)],[.d (.ar 16 tI)]]⟩,[(1,⟨[.no,.one (.p 0 0 [1,1,1]),.one (.p 1 0 [16]),.one (.p 2 0 [16])]++nos 82,[[.d (.sl a0y),.d tI,.d (.sl tU)],[.d (.ar 16 tI)],[.d (.ar 16 tI)]]⟩)]⟩
def c0Y:LS:=⟨⟨[.no,.one (.p 0 0 [1,1,1]),.one (.p 1 0 [16]),.one (.p 2 0 [16]),.no,.one (.d tI),.one (.d tI),.no,.no,.one (.o tI),.one (.d tI)]++nos 75,[[.d (.sl a0y),.d tI,.d (.sl tU)],[.d (.ar 16 tI)],[.d (.ar 16 tI)]]⟩,[(7,⟨[.no,.one (.p 0 0 [1,1,1]),.one (.p 1 0 [16]),.one (.p 2 0 [16]),.no,.one (.d tI),.one (.d tI)]++nos 79,[[.d (.sl a0y),.d tI,.d (.sl tU)],[.d (.ar 16 tI)],[.d (.ar 16 tI)]]⟩)]⟩
def c1q:LS:=⟨⟨[.no,.one (.p 0 0 [1,1,1]),.one (.p 1 0 [16]),.one (.p 2 0 [16]),.no,.one (.d tI),.one (.d tI)]++nos 79,[[.d (.sl a0y),.d tI,.d (.sl tU)],[.d (.ar 16 tI)],[.d (.ar 16 tI)]]⟩,[(5,⟨[.no,.one (.p 0 0 [1,1,1]),.one (.p 1 0 [16]),.one (.p 2 0 [16]),.no,.one (.d tI)]++nos 80,[[.d (.sl a0y),.d tI,.d (.sl tU)],[.d (.ar 16 tI)],[.d (.ar 16 tI)]]⟩)]⟩
def c2o:LS:=⟨⟨[.no,.one (.p 0 0 [1,1,1]),.one (.p 1 0 [16]),.one (.p 2 0 [16]),.no,.one (.d tI)]++nos 80,[[.d (.sl a0y),.d tI,.d (.sl tU)],[.d (.ar 16 tI)],[.d (.ar 16 tI)]]⟩,[(3,⟨[.no,.no,.one (.p 0 0 [16]),.one (.p 1 0 [16])]++nos 82,[[.d (.ar 16 tI)],[.d (.ar 16 tI)]]⟩)]⟩
def a2X:Hi:=⟨[((2,1),a3g),((15,2),a2C),((19,1),a6l)],[(0,c1v),(6,c0Y),(4,c1q),(2,c2o)],[13,16,22,29,42,46,50,56,60,65,71,77],[],[]⟩
theorem a8I:AllP (CEok Q) [a3o N,a2O N,a8b N]:=g7s (a4L N) (a3h N) (b0d N)
def b1v (N:Nat) (again:Fn' OR [pI,a0p,pD (.ar 16 tI),pD (.ar 16 tI)]) (x0:Int) (x1:a0s) (x2 x3:List Int):OR:=bi (decide (x0 < 16)) (gd (idx x0 16)<|again (w.i64 (x0+1)) x1 x2 (x3.set x0.toNat 2))<|some (1,a1d.dv x1 ((gD (.ar 16 tI)).dv x2 ((gD (.ar 16 tI)).dv x3 [])))
def b2j:Nat→Fn' OR [pI,a0p,pD (.ar 16 tI),pD (.ar 16 tI)]:=lpG (b1v N)
theorem d2y:LEok Q a2X (bodOf f101) f101.ntmps 0 (0,mkM [pI,a0p,pD (.ar 16 tI),pD (.ar 16 tI)] [(1,[a0p,pD (.ar 16 tI),pD (.ar 16 tI)])] (b2j N N)):=g7r a0r 101 c1v (a8I N)
def b1D (N:Nat) (again:Fn' OR [pI,pI,pD (.sl tI),pI,a0p,pD (.ar 16 tI),pD (.ar 16 tI)]) (x0 x1:Int) (x2:List Int) (x3:Int) (x4:a0s) (x5 x6:List Int):OR:=bi (decide (x3 < (len x2))) (gd (idx x3 x2.length)<|gd (idx (x2.getD x3.toNat 0) 16)<|again x0 x1 x2 (w.i64 (x3+1)) x4 x5 (x6.set (x2.getD x3.toNat 0).toNat 1))<|some (7,gI.dv x0 (gI.dv x1 (a1d.dv x4 ((gD (.ar 16 tI)).dv x5 ((gD (.ar 16 tI)).dv x6 [])))))
def a2D:Nat→Fn' OR [pI,pI,pD (.sl tI),pI,a0p,pD (.ar 16 tI),pD (.ar 16 tI)]:=lpG (b1D N)
theorem c0U:LEok Q a2X (bodOf f101) f101.ntmps 0 (6,mkM [pI,pI,pD (.sl tI),pI,a0p,pD (.ar 16 tI),pD (.ar 16 tI)] [(7,[pI,pI,a0p,pD (.ar 16 tI),pD (.ar 16 tI)])] (a2D N N)):=g7r a0r 101 c0Y (a8I N)
def b1x (again:Fn' OR [pI,pI,a0p,pD (.ar 16 tI),pD (.ar 16 tI)]) (x0 x1:Int) (x2:a0s) (x3 x4:List Int):OR:=bi (decide (x1 < (len x2.Code))) (gd (idx x1 x2.Code.length)<|on1 (a5s N ((x2.Code.getD x1.toNat a0o.z).1))<|gg [pI]<|fun (x5:Int)=>bi (x5 == 4) (bi (decide ((x2.Code.getD x1.toNat a0o.z).2.2.1 > 0)) (gd (idx (x2.Code.getD x1.toNat a0o.z).2.2.1 16)<|bi (decide (x5≥1)) (bi (decide (x5≤3)) (bi (decide ((x2.Code.getD x1.toNat a0o.z).2.1 > 0)) (gd (idx (x2.Code.getD x1.toNat a0o.z).2.1 16)<|bi ((List.getD (x4.set (Int.toNat (x2.Code.getD x1.toNat a0o.z).2.2.1) 1) (Int.toNat (x2.Code.getD x1.toNat a0o.z).2.1) 0) == 1) (on1 (a2Q N (x2.Code.getD x1.toNat a0o.z))<|gg [pD (.sl tI)]<|fun (x6:List Int)=>onA 7 (a2D N N x0 x1 x6 0 x2 x3 (x4.set (Int.toNat (x2.Code.getD x1.toNat a0o.z).2.2.1) 1))<|gg [pI,pI,a0p,pD (.ar 16 tI),pD (.ar 16 tI)]<|fun (x7 x8:Int) (x9:a0s) (x10 x11:List Int)=>again x7 (w.i64 (x8+1)) x9 x10 x11)<|again x0 (w.i64 (x1+1)) x2 x3 (x4.set (Int.toNat (x2.Code.getD x1.toNat a0o.z).2.2.1) 1))<|again x0 (w.i64 (x1+1)) x2 x3 (x4.set (Int.toNat (x2.Code.getD x1.toNat a0o.z).2.2.1) 1))<|again x0 (w.i64 (x1+1)) x2 x3 (x4.set (Int.toNat (x2.Code.getD x1.toNat a0o.z).2.2.1) 1))<|again x0 (w.i64 (x1+1)) x2 x3 (x4.set (Int.toNat (x2.Code.getD x1.toNat a0o.z).2.2.1) 1))<|bi (decide (x5≥1)) (bi (decide (x5≤3)) (bi (decide ((x2.Code.getD x1.toNat a0o.z).2.1 > 0)) (gd (idx (x2.Code.getD x1.toNat a0o.z).2.1 16)<|bi ((x4.getD (Int.toNat (x2.Code.getD x1.toNat a0o.z).2.1) 0) == 1) (on1 (a2Q N (x2.Code.getD x1.toNat a0o.z))<|gg [pD (.sl tI)]<|fun (x12:List Int)=>onA 7 (a2D N N x0 x1 x12 0 x2 x3 x4)<|gg [pI,pI,a0p,pD (.ar 16 tI),pD (.ar 16 tI)]<|fun (x13 x14:Int) (x15:a0s) (x16 x17:List Int)=>again x13 (w.i64 (x14+1)) x15 x16 x17)<|again x0 (w.i64 (x1+1)) x2 x3 x4)<|again x0 (w.i64 (x1+1)) x2 x3 x4)<|again x0 (w.i64 (x1+1)) x2 x3 x4)<|again x0 (w.i64 (x1+1)) x2 x3 x4)<|bi (x5 == 5) (bi (decide ((x2.Code.getD x1.toNat a0o.z).2.2.1 > 0)) (gd (idx (x2.Code.getD x1.toNat a0o.z).2.2.1 16)<|bi (decide (x5≥1)) (bi (decide (x5≤3)) (bi (decide ((x2.Code.getD x1.toNat a0o.z).2.1 > 0)) (gd (idx (x2.Code.getD x1.toNat a0o.z).2.1 16)<|bi ((List.getD (x4.set (Int.toNat (x2.Code.getD x1.toNat a0o.z).2.2.1) 1) (Int.toNat (x2.Code.getD x1.toNat a0o.z).2.1) 0) == 1) (on1 (a2Q N (x2.Code.getD x1.toNat a0o.z))<|gg [pD (.sl tI)]<|fun (x18:List Int)=>onA 7 (a2D N N x0 x1 x18 0 x2 x3 (x4.set (Int.toNat (x2.Code.getD x1.toNat a0o.z).2.2.1) 1))<|gg [pI,pI,a0p,pD (.ar 16 tI),pD (.ar 16 tI)]<|fun (x19 x20:Int) (x21:a0s) (x22 x23:List Int)=>again x19 (w.i64 (x20+1)) x21 x22 x23)<|again x0 (w.i64 (x1+1)) x2 x3 (x4.set (Int.toNat (x2.Code.getD x1.toNat a0o.z).2.2.1) 1))<|again x0 (w.i64 (x1+1)) x2 x3 (x4.set (Int.toNat (x2.Code.getD x1.toNat a0o.z).2.2.1) 1))<|again x0 (w.i64 (x1+1)) x2 x3 (x4.set (Int.toNat (x2.Code.getD x1.toNat a0o.z).2.2.1) 1))<|again x0 (w.i64 (x1+1)) x2 x3 (x4.set (Int.toNat (x2.Code.getD x1.toNat a0o.z).2.2.1) 1))<|bi (decide (x5≥1)) (bi (decide (x5≤3)) (bi (decide ((x2.Code.getD x1.toNat a0o.z).2.1 > 0)) (gd (idx (x2.Code.getD x1.toNat a0o.z).2.1 16)<|bi ((x4.getD (Int.toNat (x2.Code.getD x1.toNat a0o.z).2.1) 0) == 1) (on1 (a2Q N (x2.Code.getD x1.toNat a0o.z))<|gg [pD (.sl tI)]<|fun (x24:List Int)=>onA 7 (a2D N N x0 x1 x24 0 x2 x3 x4)<|gg [pI,pI,a0p,pD (.ar 16 tI),pD (.ar 16 tI)]<|fun (x25 x26:Int) (x27:a0s) (x28 x29:List Int)=>again x25 (w.i64 (x26+1)) x27 x28 x29)<|again x0 (w.i64 (x1+1)) x2 x3 x4)<|again x0 (w.i64 (x1+1)) x2 x3 x4)<|again x0 (w.i64 (x1+1)) x2 x3 x4)<|again x0 (w.i64 (x1+1)) x2 x3 x4)<|bi (decide (x5≥1)) (bi (decide (x5≤3)) (bi (decide ((x2.Code.getD x1.toNat a0o.z).2.1 > 0)) (gd (idx (x2.Code.getD x1.toNat a0o.z).2.1 16)<|bi ((x4.getD (Int.toNat (x2.Code.getD x1.toNat a0o.z).2.1) 0) == 1) (on1 (a2Q N (x2.Code.getD x1.toNat a0o.z))<|gg [pD (.sl tI)]<|fun (x30:List Int)=>onA 7 (a2D N N x0 x1 x30 0 x2 x3 x4)<|gg [pI,pI,a0p,pD (.ar 16 tI),pD (.ar 16 tI)]<|fun (x31 x32:Int) (x33:a0s) (x34 x35:List Int)=>again x31 (w.i64 (x32+1)) x33 x34 x35)<|again x0 (w.i64 (x1+1)) x2 x3 x4)<|again x0 (w.i64 (x1+1)) x2 x3 x4)<|again x0 (w.i64 (x1+1)) x2 x3 x4)<|again x0 (w.i64 (x1+1)) x2 x3 x4)<|some (5,gI.dv x0 (a1d.dv x2 ((gD (.ar 16 tI)).dv x3 ((gD (.ar 16 tI)).dv x4 []))))
def a6n:Nat→Fn' OR [pI,pI,a0p,pD (.ar 16 tI),pD (.ar 16 tI)]:=lpG (b1x N)
theorem c2q:LEok Q a2X (bodOf f101) f101.ntmps 0 (4,mkM [pI,pI,a0p,pD (.ar 16 tI),pD (.ar 16 tI)] [(5,[pI,a0p,pD (.ar 16 tI),pD (.ar 16 tI)])] (a6n N N)):=g7G a0r 101 c1q (a8I N) (g7o (c0U N))
def b2n (again:Fn' OR [pI,a0p,pD (.ar 16 tI),pD (.ar 16 tI)]) (x0:Int) (x1:a0s) (x2 x3:List Int):OR:=bi (decide (x0 < 17)) (onA 5 (a6n N N x0 0 x1 x2 x3)<|gg [pI,a0p,pD (.ar 16 tI),pD (.ar 16 tI)]<|fun (x4:Int) (x5:a0s) (x6 x7:List Int)=>again (w.i64 (x4+1)) x5 x6 x7)<|some (3,(gD (.ar 16 tI)).dv x2 ((gD (.ar 16 tI)).dv x3 []))
def b1X:Nat→Fn' OR [pI,a0p,pD (.ar 16 tI),pD (.ar 16 tI)]:=lpG (b2n N)
theorem d3e:LEok Q a2X (bodOf f101) f101.ntmps 0 (2,mkM [pI,a0p,pD (.ar 16 tI),pD (.ar 16 tI)] [(3,[pD (.ar 16 tI),pD (.ar 16 tI)])] (b1X N N)):=g7G a0r 101 c2o (a8I N) (g7o (c2q N))
def c1s (x0:a0s):OR:=on1 (a1h N x0)<|gg [pB]<|fun (x1:Bool)=>bi (!x1) (some (0,(gD (.ar 16 tI)).dv (List.replicate 16 (0 :Int)) []))<|onA 1 (b2j N N 1 x0 (List.replicate 16 (0 :Int)) (List.replicate 16 (0 :Int)))<|gg [a0p,pD (.ar 16 tI),pD (.ar 16 tI)]<|fun (x2:a0s) (x3 x4:List Int)=>onA 3 (b1X N N 0 x2 x3 x4)<|gg [pD (.ar 16 tI),pD (.ar 16 tI)]<|fun (x5 x6:List Int)=>some (0,(gD (.ar 16 tI)).dv x6 [])
def c6J:CE:=(c8x,mkF [a0p] [pD (.ar 16 tI)] (c1s N))
theorem d7C:CEok Q (c6J N):=fn_L a0r f101 a2X (a8I N) (g7p (d2y N) (g7s (c0U N) (c2q N) (d3e N)))
def c0m:CS:=⟨55,43,⟨[.agg [.d (.sl a0y),.d tI,.d (.sl tU)]],[]⟩,[.agg [.o a0n,.d (.ar 16 tI)],.one (.d tI)],false,[]⟩
def b7q (x0:a0s):OR:=on1 (c1s N x0)<|gg [pD (.ar 16 tI)]<|fun (x1:List Int)=>on1 (c1Q N x0 x1)<|gg [a0m,pI]<|fun (x2:a0g) (x3:Int)=>some (0,a0H.dv x2 (gI.dv x3 []))
def c0z:CE:=(c0m,mkF [a0p] [a0m,pI] (b7q N))
theorem c8c:CEok Q (c0z N):=fn_K a0r f43 ⟨[((1,2),c8x),((1,3),b7K)],[],[],[],[]⟩ (g7x (d7C N) (d1N N))
def b6T:CS:=⟨56,24,⟨[.agg [.d (.sl a0y),.d tI,.d (.sl tU)],.one (.d tI)],[]⟩,[.agg [.o a0n,.d (.ar 16 tI)],.one (.d tB)],false,[]⟩
def b2R (x0:a0s) (x1:Int):OR:=on1 (c3E N x1)<|gg [pD (.ar 16 tI)]<|fun (x2:List Int)=>on1 (c1Q N x0 x2)<|gg [a0m,pI]<|fun (x3:a0g) (x4:Int)=>bi (x4 != 0) (on1 (b7q N x0)<|gg [a0m,pI]<|fun (x5:a0g) (x6:Int)=>some (0,a0H.dv x5 (gB.dv (x6 == 0) [])))<|some (0,a0H.dv x3 (gB.dv (x4 == 0) []))
def b5U:CE:=(b6T,mkF [a0p,pI] [a0m,pB] (b2R N))
theorem c4p:CEok Q (b5U N):=fn_K a0r f24 ⟨[((1,2),c4H),((1,3),b7K),((3,1),c0m)],[],[16],[],[]⟩ (g7s (d4m N) (d1N N) (c8c N))
def d3z:CS:=⟨57,25,⟨[.agg [.d (.sl a0y),.d tI,.d (.sl tU)]],[]⟩,[.one (.d tB)],true,[]⟩
def d6y (N:Nat) (x0:a0s):OR:=bi (decide ((len x0.Code)≤200)) (some (0,gB.dv (decide ((len x0.Data)≤500)) []))<|some (0,gB.dv false [])
def d2V:CE:=(d3z,mkF [a0p] [pB] (d6y N))
theorem d9a:CEok Q (d2V N):=fn_K a0r f25 ⟨[],[],[7],[],[]⟩ g7q
def a3y:CS:=⟨59,116,⟨[.one (.d tI),.one (.d tI)],[]⟩,[.one (.d tB)],true,[]⟩
def a3X (N:Nat) (x0 x1:Int):OR:=bi (decide (x0≥1)) (some (0,gB.dv (decide (x0≤x1)) []))<|some (0,gB.dv false [])
def b5X:CE:=(a3y,mkF [pI,pI] [pB] (a3X N))
theorem c5j:CEok Q (b5X N):=fn_K a0r f116 ⟨[],[],[7],[],[]⟩ g7q
def a7E:CS:=⟨60,56,⟨[.agg q_5],[]⟩,[.one (.d tB)],true,[]⟩
def b0J:LS:=⟨⟨[.no,.one (.p 0 0 [1,1,1,1,1,1,1,1,1,1,1,1]),.no,.one (.o tI),.one (.d tI)]++nos 47,[q_5]⟩,[(0,⟨[.no,.no,.one (.d tB)]++nos 49,[]⟩),(1,⟨[.no,.one (.p 0 0 [1,1,1,1,1,1,1,1,1,1,1,1])]++nos 50,[q_5]⟩)]⟩
def a4H:Hi:=⟨[((5,4),a3y),((7,2),a3y),((7,6),a3y),((7,11),a3y),((7,16),a3y)],[(0,b0J)],[25,33,37,42,47],[],[]⟩
theorem b1g:AllP (CEok Q) [b5X N]:=g7o (c5j N)
def a2F (again:Fn' OR [pD (.sl tI),pI,a0l]) (x0:List Int) (x1:Int) (x2:a0f):OR:=bi (decide (x1 < (len x0))) (gd (idx x1 x0.length)<|on1 (a3X N (x0.getD x1.toNat 0) 64)<|gg [pB]<|fun (x3:Bool)=>bi (!x3) (some (0,gB.dv false []))<|again x0 (w.i64 (x1+1)) x2)<|some (1,a0D.dv x2 [])
def a2a:Nat→Fn' OR [pD (.sl tI),pI,a0l]:=lpG (a2F N)
theorem c0f:LEok Q a4H (bodOf f56) f56.ntmps 0 (0,mkM [pD (.sl tI),pI,a0l] [(0,[pB]),(1,[a0l])] (a2a N N)):=g7r a0r 56 b0J (b1g N)
def a4w (x0:a0f):OR:=onB 0 1 (a2a N N [x0.Ldq,x0.Sdq,x0.Aeq,x0.Abq,x0.Ebq,x0.Saq,x0.Flight,x0.Slip] 0 x0) (gg [pB]<|fun (x1:Bool)=>some (0,gB.dv x1 []))<|gg [a0l]<|fun (x2:a0f)=>on1 (a3X N x2.Banks 16)<|gg [pB]<|fun (x3:Bool)=>bi x3 (on1 (a3X N x2.Lat 1000)<|gg [pB]<|fun (x4:Bool)=>bi x4 (on1 (a3X N x2.Mul 50)<|gg [pB]<|fun (x5:Bool)=>bi x5 (on1 (a3X N x2.Div 50)<|gg [pB]<|fun (x6:Bool)=>some (0,gB.dv x6 []))<|some (0,gB.dv false []))<|some (0,gB.dv false []))<|some (0,gB.dv false [])
def a8e:CE:=(a7E,mkF [a0l] [pB] (a4w N))
theorem b2P:CEok Q (a8e N):=fn_L a0r f56 a4H (b1g N) (g7o (c0f N))
def b5o:CS:=⟨70,215,⟨[.one (.d tI),.one (.p 0 0 [1]),.one (.p 1 0 [1])],[[.d tI],[.d tI]]⟩,[.one (.d tB)],true,[[.d tI],[.d tI]]⟩
def a8r (N:Nat) (x0 x1 x2:Int):OR:=bi (decide (x0 < x1)) (some (0,gB.dv true (gI.dv x1 (gI.dv x2 []))))<|some (0,gB.dv (decide (x0 > x2)) (gI.dv x1 (gI.dv x2 [])))
def b5y:CE:=(b5o,mkF [pI,pI,pI] [pB,pI,pI] (a8r N))
theorem c6f:CEok Q (b5y N):=fn_K a0r f215 ⟨[],[],[8],[],[]⟩ g7q
def a8X:CS:=⟨71,129,⟨[.one (.d (.sl tI)),.one (.f 215 [⟨0,0,[1]⟩,⟨1,0,[1]⟩])],[[.d tI],[.d tI]]⟩,[.one (.d tI)],true,[[.d tI],[.d tI]]⟩
def a7z:LS:=⟨⟨[.one (.d (.sl tI)),.one (.f 215 [⟨0,0,[1]⟩,⟨1,0,[1]⟩]),.no,.no,.no,.no,.no,.one (.d tI),.one (.d tI)]++nos 10,[[.d tI],[.d tI]]⟩,[(0,⟨[.no,.no,.no,.no,.one (.d tI)]++nos 14,[[.d tI],[.d tI]]⟩),(1,⟨nos 19,[[.d tI],[.d tI]]⟩)]⟩
def a3b:Hi:=⟨[((4,5),b5o)],[(0,a7z)],[9,16],[],[]⟩
theorem a8F:AllP (CEok Q) [b5y N]:=g7o (c6f N)
def a1O (again:Fn' OR [pD (.sl tI),pI,pI,pI,pI]) (x0:List Int) (x1 x2 x3 x4:Int):OR:=bi (decide (x2 < x1)) (gd (idx x2 x0.length)<|on1 (a8r N (x0.getD x2.toNat 0) x3 x4)<|gg [pB,pI,pI]<|fun (x5:Bool) (x6 x7:Int)=>bi x5 (some (0,gI.dv x2 (gI.dv x6 (gI.dv x7 []))))<|again x0 x1 (w.i64 (x2+1)) x6 x7)<|some (1,gI.dv x3 (gI.dv x4 []))
def a1w:Nat→Fn' OR [pD (.sl tI),pI,pI,pI,pI]:=lpG (a1O N)
theorem b5D:LEok Q a3b (bodOf f129) f129.ntmps 2 (0,mkM [pD (.sl tI),pI,pI,pI,pI] [(0,[pI,pI,pI]),(1,[pI,pI])] (a1w N N)):=g7r a0r 129 a7z (a8F N)
def a6P (x0:List Int) (x1 x2:Int):OR:=onB 0 1 (a1w N N x0 (len x0) 0 x1 x2) (gg [pI,pI,pI]<|fun (x3 x4 x5:Int)=>some (0,gI.dv x3 (gI.dv x4 (gI.dv x5 []))))<|gg [pI,pI]<|fun (x6 x7:Int)=>some (0,gI.dv (-1:Int) (gI.dv x6 (gI.dv x7 [])))
def a9m:CE:=(a8X,mkF [pD (.sl tI),pI,pI] [pI,pI,pI] (a6P N))
theorem b8I:CEok Q (a9m N):=fn_L a0r f129 a3b (a8F N) (g7o (b5D N))
def a6R:CS:=⟨72,74,⟨[.one (.d (.sl tI)),.one (.f 215 [⟨0,0,[1]⟩,⟨1,0,[1]⟩])],[[.d tI],[.d tI]]⟩,[.one (.d tB)],true,[[.d tI],[.d tI]]⟩
def a4p (x0:List Int) (x1 x2:Int):OR:=on1 (a6P N x0 x1 x2)<|gg [pI,pI,pI]<|fun (x3 x4 x5:Int)=>some (0,gB.dv (decide (x3≥0)) (gI.dv x4 (gI.dv x5 [])))
def a6Z:CE:=(a6R,mkF [pD (.sl tI),pI,pI] [pB,pI,pI] (a4p N))
theorem b3W:CEok Q (a6Z N):=fn_K a0r f74 ⟨[((1,2),a8X)],[],[],[],[]⟩ (g7o (b8I N))
def a0T:CS:=⟨73,144,⟨[.one (.d tI),.one (.d tI),.one (.d (.sl tI))],[]⟩,[.one (.d tB)],true,[]⟩
def a0R (x0 x1:Int) (x2:List Int):OR:=on1 (a4p N x2 x0 x1)<|gg [pB,pI,pI]<|fun (x3:Bool) (x4 x5:Int)=>some (0,gB.dv (!x3) [])
def a2l:CE:=(a0T,mkF [pI,pI,pD (.sl tI)] [pB] (a0R N))
theorem a2U:CEok Q (a2l N):=fn_K a0r f144 ⟨[((1,2),a6R)],[],[],[],[]⟩ (g7o (b3W N))
def b9t:CS:=⟨74,117,⟨[.agg q_5],[]⟩,[.one (.d tB)],true,[]⟩
def b1Z (x0:a0f):OR:=on1 (a0R N 1 64 [x0.Ldq,x0.Sdq,x0.Aeq,x0.Abq,x0.Ebq,x0.Saq,x0.Flight,x0.Slip])<|gg [pB]<|fun (x1:Bool)=>bi x1 (on1 (a0R N 1 16 [x0.Banks])<|gg [pB]<|fun (x2:Bool)=>bi x2 (on1 (a0R N 1 1000 [x0.Lat])<|gg [pB]<|fun (x3:Bool)=>bi x3 (on1 (a0R N 1 50 [x0.Mul,x0.Div])<|gg [pB]<|fun (x4:Bool)=>some (0,gB.dv x4 []))<|some (0,gB.dv false []))<|some (0,gB.dv false []))<|some (0,gB.dv false [])
def b8X:CE:=(b9t,mkF [a0l] [pB] (b1Z N))
theorem c9D:CEok Q (b8X N):=fn_K a0r f117 ⟨[((1,17),a0T),((1,22),a0T),((1,28),a0T),((1,36),a0T)],[],[21,27,33],[],[]⟩ (g7o (a2U N))
def b6Z:CS:=⟨75,142,⟨[.agg q_6],[]⟩,[.one (.d (.sl a0i))],true,[]⟩
def a9N (N:Nat) (x0:a0x):OR:=some (0,(gD (.sl a0i)).dv x0.2.2.2.2.1 [])
def b6c:CE:=(b6Z,mkF [c7d] [pD (.sl a0i)] (a9N N))
theorem c9i:CEok Q (b6c N):=fn_K a0r f142 ⟨[],[],[],[],[]⟩ g7q
def c4A:CS:=⟨76,141,⟨[.agg [.d (.sl a0n),.d (.ar 16 tI)],.agg q_3,.one (.f 142 [])],[]⟩,[.one (.d tB)],true,[]⟩
def b7G (x0:a0g) (x1:a0v):OR:=bi (decide (x1.Pos.Block < 0)) (some (0,gB.dv false []))<|bi (decide (x1.Pos.Block≥(len x0.Blocks))) (some (0,gB.dv false []))<|gd (idx x1.Pos.Block x0.Blocks.length)<|on1 (a9N N (x0.Blocks.getD x1.Pos.Block.toNat a0x.z))<|gg [pD (.sl a0i)]<|fun (x2:List a0h)=>on1 (a0R N 0 (len x2) [x1.Pos.Index])<|gg [pB]<|fun (x3:Bool)=>bi x3 (on1 (a0R N 0 1099511627776 [x1.Pos.Base,x1.Wait,x1.Done])<|gg [pB]<|fun (x4:Bool)=>bi x4 (on1 (a0R N (-1:Int) 1099511627776 (List.take (16 - 0) (List.drop 0 x1.Ready)))<|gg [pB]<|fun (x5:Bool)=>some (0,gB.dv x5 []))<|some (0,gB.dv false []))<|some (0,gB.dv false [])
def c4z:CE:=(c4A,mkF [a0m,a0S] [pB] (b7G N))
theorem d5R:CEok Q (c4z N):=fn_K a0r f141 ⟨[((3,8),b6Z),((3,14),a0T),((3,24),a0T),((3,29),a0T)],[],[11,19,35,46],[],[]⟩ (g7x (c9i N) (a2U N))
def b6l:CS:=⟨77,143,⟨[.agg q_6],[]⟩,[.one (.d (.sl a0i))],true,[]⟩
def a9z (N:Nat) (x0:a0x):OR:=some (0,(gD (.sl a0i)).dv x0.2.2.2.2.2.1 [])
def b6o:CE:=(b6l,mkF [c7d] [pD (.sl a0i)] (a9z N))
theorem c7J:CEok Q (b6o N):=fn_K a0r f143 ⟨[],[],[],[],[]⟩ g7q
def b9s:CS:=⟨78,141,⟨[.agg [.d (.sl a0n),.d (.ar 16 tI)],.agg q_3,.one (.f 143 [])],[]⟩,[.one (.d tB)],true,[]⟩
def b1o (x0:a0g) (x1:a0v):OR:=bi (decide (x1.Pos.Block < 0)) (some (0,gB.dv false []))<|bi (decide (x1.Pos.Block≥(len x0.Blocks))) (some (0,gB.dv false []))<|gd (idx x1.Pos.Block x0.Blocks.length)<|on1 (a9z N (x0.Blocks.getD x1.Pos.Block.toNat a0x.z))<|gg [pD (.sl a0i)]<|fun (x2:List a0h)=>on1 (a0R N 0 (len x2) [x1.Pos.Index])<|gg [pB]<|fun (x3:Bool)=>bi x3 (on1 (a0R N 0 1099511627776 [x1.Pos.Base,x1.Wait,x1.Done])<|gg [pB]<|fun (x4:Bool)=>bi x4 (on1 (a0R N (-1:Int) 1099511627776 (List.take (16 - 0) (List.drop 0 x1.Ready)))<|gg [pB]<|fun (x5:Bool)=>some (0,gB.dv x5 []))<|some (0,gB.dv false []))<|some (0,gB.dv false [])
def b9N:CE:=(b9s,mkF [a0m,a0S] [pB] (b1o N))
theorem c9B:CEok Q (b9N N):=fn_K a0r f141 ⟨[((3,8),b6l),((3,14),a0T),((3,24),a0T),((3,29),a0T)],[],[11,19,35,46],[],[]⟩ (g7x (c7J N) (a2U N))
def b9q:CS:=⟨79,145,⟨[.agg q_5,.agg q_0],[]⟩,[.one (.d tB)],true,[]⟩
def b2a (N:Nat) (x0:a0f) (x1:a0b):OR:=bi (decide ((len x1.Ldq)≤x0.Ldq)) (bi (decide ((len x1.Sdq)≤x0.Sdq)) (bi (decide ((len x1.Aeq)≤x0.Aeq)) (bi (decide ((len x1.Abq)≤x0.Abq)) (bi (decide ((len x1.Ebq)≤x0.Ebq)) (bi (decide ((len x1.Saq)≤x0.Saq)) (bi (decide ((len x1.Table)≤x0.Flight)) (some (0,gB.dv (decide ((len x1.Mem)≤65536)) []))<|some (0,gB.dv false []))<|some (0,gB.dv false []))<|some (0,gB.dv false []))<|some (0,gB.dv false []))<|some (0,gB.dv false []))<|some (0,gB.dv false []))<|some (0,gB.dv false [])
def b9A:CE:=(b9q,mkF [a0l,a0d] [pB] (b2a N))
theorem c9R:CEok Q (b9A N):=fn_K a0r f145 ⟨[],[],[11,19,27,35,43,51,59],[],[]⟩ g7q
def a3v:CS:=⟨80,229,⟨[.one (.d tI)],[]⟩,[.one (.d tI)],true,[]⟩
def a3m (N:Nat) (x0:Int):OR:=bi (x0 == 26) (some (0,gI.dv 4 []))<|bi (x0 == 31) (some (0,gI.dv 4 []))<|bi (x0 == 27) (some (0,gI.dv 2 []))<|bi (x0 == 28) (some (0,gI.dv 2 []))<|bi (x0 == 32) (some (0,gI.dv 2 []))<|bi (x0 == 29) (some (0,gI.dv 1 []))<|bi (x0 == 30) (some (0,gI.dv 1 []))<|bi (x0 == 33) (some (0,gI.dv 1 []))<|some (0,gI.dv 0 [])
def a3w:CE:=(a3v,mkF [pI] [pI] (a3m N))
theorem a4A:CEok Q (a3w N):=fn_K a0r f229 ⟨[],[],[4,7,11],[],[]⟩ g7q
def a6S:CS:=⟨81,260,⟨[.one (.d tI),.one (.d tW),.one (.d tI)],[]⟩,[.one (.d tI)],true,[]⟩
def a1s (N:Nat) (x0 x1 x2:Int):OR:=bi (decide (x0≥1)) (gf (decide (x0 = 0))<|bi ((Int.tmod (w.i64 x1) x0) != 0) (some (0,gI.dv 1 []))<|bi (decide (x0 > 0)) (bi (decide (x0 > x2)) (some (0,gI.dv 2 []))<|bi (decide ((w.i64 x1) > (w.i64 (x2 - x0)))) (some (0,gI.dv 2 []))<|bi (decide (x0≤0)) (bi (decide ((w.i64 ((w.i64 x1)+x0)) > x2)) (some (0,gI.dv 2 []))<|some (0,gI.dv 0 []))<|some (0,gI.dv 0 []))<|bi (decide (x0≤0)) (bi (decide ((w.i64 ((w.i64 x1)+x0)) > x2)) (some (0,gI.dv 2 []))<|some (0,gI.dv 0 []))<|some (0,gI.dv 0 []))<|bi (decide (x0 > 0)) (bi (decide (x0 > x2)) (some (0,gI.dv 2 []))<|bi (decide ((w.i64 x1) > (w.i64 (x2 - x0)))) (some (0,gI.dv 2 []))<|bi (decide (x0≤0)) (bi (decide ((w.i64 ((w.i64 x1)+x0)) > x2)) (some (0,gI.dv 2 []))<|some (0,gI.dv 0 []))<|some (0,gI.dv 0 []))<|bi (decide (x0≤0)) (bi (decide ((w.i64 ((w.i64 x1)+x0)) > x2)) (some (0,gI.dv 2 []))<|some (0,gI.dv 0 []))<|some (0,gI.dv 0 [])
def a7b:CE:=(a6S,mkF [pI,pW,pI] [pI] (a1s N))
theorem a9u:CEok Q (a7b N):=fn_K a0r f260 ⟨[],[],[10,13,19,22,26,34,37],[],[]⟩ g7q
def b4l:CS:=⟨82,216,⟨[.one (.d (.sl tU)),.one (.d tI),.one (.d tI)],[]⟩,[.one (.d tB)],true,[]⟩
def a7W (x0:List Int) (x1 x2:Int):OR:=bi (x2 == 1) (bi (decide (x1≥0)) (bi (decide (x1≤(len x0))) (on1 (a1s N x2 (w.u32 x1) (len x0))<|gg [pI]<|fun (x3:Int)=>some (0,gB.dv (x3 == 0) []))<|some (0,gB.dv false []))<|some (0,gB.dv false []))<|bi (x2 == 2) (bi (decide (x1≥0)) (bi (decide (x1≤(len x0))) (on1 (a1s N x2 (w.u32 x1) (len x0))<|gg [pI]<|fun (x4:Int)=>some (0,gB.dv (x4 == 0) []))<|some (0,gB.dv false []))<|some (0,gB.dv false []))<|bi (x2 == 4) (bi (decide (x1≥0)) (bi (decide (x1≤(len x0))) (on1 (a1s N x2 (w.u32 x1) (len x0))<|gg [pI]<|fun (x5:Int)=>some (0,gB.dv (x5 == 0) []))<|some (0,gB.dv false []))<|some (0,gB.dv false []))<|some (0,gB.dv false [])
def b5l:CE:=(b4l,mkF [pD (.sl tU),pI,pI] [pB] (a7W N))
theorem c0N:CEok Q (b5l N):=fn_K a0r f216 ⟨[((1,26),a6S)],[],[9,13,17,21,27],[],[]⟩ (g7o (a9u N))
def b6U:CS:=⟨83,219,⟨[.one (.d (.sl tU)),.agg [.d tB,.d tI,.d tI,.d tI,.d tW,.d tI,.d tI,.d tI]],[]⟩,[.one (.d tB)],true,[]⟩
def a9S (x0:List Int) (x1:a0e):OR:=bi x1.1 (on1 (a3m N x1.2.1)<|gg [pI]<|fun (x2:Int)=>bi (x1.2.2.2.1 == x2) (on1 (a0R N 31 33 [x1.2.1])<|gg [pB]<|fun (x3:Bool)=>bi x3 (on1 (a7W N x0 x1.2.2.1 x1.2.2.2.1)<|gg [pB]<|fun (x4:Bool)=>bi x4 (on1 (a0R N 0 1000 [x1.2.2.2.2.2.1])<|gg [pB]<|fun (x5:Bool)=>bi x5 (on1 (a0R N (-1:Int) 15 [x1.2.2.2.2.2.2.1])<|gg [pB]<|fun (x6:Bool)=>some (0,gB.dv x6 []))<|some (0,gB.dv false []))<|some (0,gB.dv false []))<|some (0,gB.dv false []))<|some (0,gB.dv false []))<|on1 (a3m N x1.2.1)<|gg [pI]<|fun (x7:Int)=>bi (x1.2.2.2.1 == x7) (on1 (a0R N 26 30 [x1.2.1])<|gg [pB]<|fun (x8:Bool)=>bi x8 (on1 (a7W N x0 x1.2.2.1 x1.2.2.2.1)<|gg [pB]<|fun (x9:Bool)=>bi x9 (on1 (a0R N 0 1000 [x1.2.2.2.2.2.1])<|gg [pB]<|fun (x10:Bool)=>bi x10 (on1 (a0R N (-1:Int) 15 [x1.2.2.2.2.2.2.1])<|gg [pB]<|fun (x11:Bool)=>some (0,gB.dv x11 []))<|some (0,gB.dv false []))<|some (0,gB.dv false []))<|some (0,gB.dv false []))<|some (0,gB.dv false [])
def b6u:CE:=(b6U,mkF [pD (.sl tU),a3C] [pB] (a9S N))
theorem c8r:CEok Q (b6u N):=fn_K a0r f219 ⟨[((4,4),a3v),((4,12),a0T),((4,20),b4l),((4,26),a0T),((4,32),a0T)],[],[8,15,23,31,37],[],[]⟩ (g7s (a4A N) (a2U N) (c0N N))
def b5B:CS:=⟨84,218,⟨[.agg [.d tB,.d tI,.d tI,.d tI,.d tW,.d tI,.d tI,.d tI],.one (.p 0 0 [1,16,16,1,1,1,1,1,1,16,16,1,1,1,1,1,1,1,1,1,1,1,1,1,1,1,1,1,1,1,1,1])],[q_0]⟩,[.one (.d tB)],true,[q_0]⟩
def b2x (x0:a0e) (x1:a0b):OR:=on1 (a9S N x1.Mem x0)<|gg [pB]<|fun (x2:Bool)=>some (0,gB.dv (!x2) (a0c.dv x1 []))
def b5A:CE:=(b5B,mkF [a3C,a0d] [pB,a0d] (b2x N))
theorem c6k:CEok Q (b5A N):=fn_K a0r f218 ⟨[((1,3),b6U)],[],[],[],[]⟩ (g7o (c8r N))
def a5i:CS:=⟨85,261,⟨[.one (.d (.sl a0j)),.one (.f 218 [⟨0,0,[1,16,16,1,1,1,1,1,1,16,16,1,1,1,1,1,1,1,1,1,1,1,1,1,1,1,1,1,1,1,1,1]⟩])],[q_0]⟩,[.one (.d tI)],true,[q_0]⟩
def a4j:LS:=⟨⟨[.one (.d (.sl a0j)),.one (.f 218 [⟨0,0,[1,16,16,1,1,1,1,1,1,16,16,1,1,1,1,1,1,1,1,1,1,1,1,1,1,1,1,1,1,1,1,1]⟩]),.no,.no,.no,.no,.no,.one (.d tI),.one (.d tI)]++nos 10,[q_0]⟩,[(0,⟨[.no,.no,.no,.no,.one (.d tI)]++nos 14,[q_0]⟩),(1,⟨nos 19,[q_0]⟩)]⟩
def a1G:Hi:=⟨[((4,5),b5B)],[(0,a4j)],[9,16],[],[]⟩
theorem a4t:AllP (CEok Q) [b5A N]:=g7o (c6k N)
def a1g (again:Fn' OR [pD (.sl a0j),pI,pI,a0d]) (x0:List a0e) (x1 x2:Int) (x3:a0b):OR:=bi (decide (x2 < x1)) (gd (idx x2 x0.length)<|on1 (b2x N (x0.getD x2.toNat a0e.z) x3)<|gg [pB,a0d]<|fun (x4:Bool) (x5:a0b)=>bi x4 (some (0,gI.dv x2 (a0c.dv x5 [])))<|again x0 x1 (w.i64 (x2+1)) x5)<|some (1,a0c.dv x3 [])
def a1b:Nat→Fn' OR [pD (.sl a0j),pI,pI,a0d]:=lpG (a1g N)
theorem a9H:LEok Q a1G (bodOf f261) f261.ntmps 1 (0,mkM [pD (.sl a0j),pI,pI,a0d] [(0,[pI,a0d]),(1,[a0d])] (a1b N N)):=g7r a0r 261 a4j (a4t N)
def a3i (x0:List a0e) (x1:a0b):OR:=onB 0 1 (a1b N N x0 (len x0) 0 x1) (gg [pI,a0d]<|fun (x2:Int) (x3:a0b)=>some (0,gI.dv x2 (a0c.dv x3 [])))<|gg [a0d]<|fun (x4:a0b)=>some (0,gI.dv (-1:Int) (a0c.dv x4 []))
def a5j:CE:=(a5i,mkF [pD (.sl a0j),a0d] [pI,a0d] (a3i N))
theorem b1e:CEok Q (a5j N):=fn_L a0r f261 a1G (a4t N) (g7o (a9H N))
def a3P:CS:=⟨86,217,⟨[.one (.d (.sl a0j)),.one (.f 218 [⟨0,0,[1,16,16,1,1,1,1,1,1,16,16,1,1,1,1,1,1,1,1,1,1,1,1,1,1,1,1,1,1,1,1,1]⟩])],[q_0]⟩,[.one (.d tB)],true,[q_0]⟩
def a1z (x0:List a0e) (x1:a0b):OR:=on1 (a3i N x0 x1)<|gg [pI,a0d]<|fun (x2:Int) (x3:a0b)=>some (0,gB.dv (decide (x2≥0)) (a0c.dv x3 []))
def a3S:CE:=(a3P,mkF [pD (.sl a0j),a0d] [pB,a0d] (a1z N))
theorem a8S:CEok Q (a3S N):=fn_K a0r f217 ⟨[((1,2),a5i)],[],[],[],[]⟩ (g7o (b1e N))
def c4X:CS:=⟨87,220,⟨[.agg q_0],[]⟩,[.one (.d tB)],true,[]⟩
def b9h:LS:=⟨⟨[.no,.one (.p 0 0 [1,16,16,1,1,1,1,1,1,16,16,1,1,1,1,1,1,1,1,1,1,1,1,1,1,1,1,1,1,1,1,1]),.no,.one (.d tI),.no,.no,.no,.one (.d (.sl a0j)),.one (.d tI),.one (.d tI)]++nos 48,[q_0]⟩,[(0,⟨[.no,.no,.one (.d tB)]++nos 55,[]⟩),(1,⟨[.no,.one (.p 0 0 [1,16,16,1,1,1,1,1,1,16,16,1,1,1,1,1,1,1,1,1,1,1,1,1,1,1,1,1,1,1,1,1]),.no,.one (.d tI)]++nos 54,[q_0]⟩)]⟩
def b1r:Hi:=⟨[],[(0,b9h)],[10,15,22,32,41,47,53],[],[]⟩
theorem c2i (N:Nat):AllP (CEok Q) []:=g7q
def a7n (N:Nat) (again:Fn' OR [pI,pD (.sl a0j),pI,pI,a0d]) (x0:Int) (x1:List a0e) (x2 x3:Int) (x4:a0b):OR:=bi (decide (x3 < x2)) (gd (idx x3 x1.length)<|bi (!(x1.getD x3.toNat a0e.z).1) (again x0 x1 x2 (w.i64 (x3+1)) x4)<|bi ((len x4.Saq) == 0) (some (0,gB.dv false []))<|gd (idx 0 x4.Saq.length)<|bi ((x1.getD x3.toNat a0e.z).2.2.1 != (x4.Saq.getD 0 a0a.z).1) (some (0,gB.dv false []))<|gd (idx 0 x4.Saq.length)<|bi ((x1.getD x3.toNat a0e.z).2.2.2.1 != (x4.Saq.getD 0 a0a.z).2.1) (some (0,gB.dv false []))<|again (w.i64 (x0+1)) x1 x2 (w.i64 (x3+1)) x4)<|some (1,gI.dv x0 (a0c.dv x4 []))
def a4W:Nat→Fn' OR [pI,pD (.sl a0j),pI,pI,a0d]:=lpG (a7n N)
theorem c9O:LEok Q b1r (bodOf f220) f220.ntmps 0 (0,mkM [pI,pD (.sl a0j),pI,pI,a0d] [(0,[pB]),(1,[pI,a0d])] (a4W N N)):=g7r a0r 220 b9h (c2i N)
def b7J (x0:a0b):OR:=onB 0 1 (a4W N N 0 x0.Table (len x0.Table) 0 x0) (gg [pB]<|fun (x1:Bool)=>some (0,gB.dv x1 []))<|gg [pI,a0d]<|fun (x2:Int) (x3:a0b)=>bi (decide ((len x3.Saq) > 0)) (gd (idx 0 x3.Saq.length)<|bi ((x3.Saq.getD 0 a0a.z).2.2.2.1) (some (0,gB.dv (x2 == 1) []))<|some (0,gB.dv (x2 == 0) []))<|some (0,gB.dv (x2 == 0) [])
def c4a:CE:=(c4X,mkF [a0d] [pB] (b7J N))
theorem d4N:CEok Q (c4a N):=fn_L a0r f220 b1r (c2i N) (g7o (c9O N))
def b9a:CS:=⟨88,146,⟨[.agg q_0],[]⟩,[.one (.d tB)],true,[]⟩
def b5u:LS:=⟨⟨[.no,.one (.p 0 0 [1,16,16,1,1,1,1,1,1,16,16,1,1,1,1,1,1,1,1,1,1,1,1,1,1,1,1,1,1,1,1,1]),.no,.no,.no,.no,.one (.d (.sl a0t)),.one (.d tI),.one (.d tI)]++nos 37,[q_0]⟩,[(0,⟨[.no,.no,.one (.d tB)]++nos 43,[]⟩),(1,⟨[.no,.one (.p 0 0 [1,16,16,1,1,1,1,1,1,16,16,1,1,1,1,1,1,1,1,1,1,1,1,1,1,1,1,1,1,1,1,1])]++nos 44,[q_0]⟩)]⟩
def a8t:Hi:=⟨[((4,6),b4l),((4,12),a0T),((7,3),a3P),((7,7),c4X)],[(0,b5u)],[9,21,28,31,35,42],[],[]⟩
theorem b5J:AllP (CEok Q) [b5l N,a2l N,a3S N,c4a N]:=g7p (c0N N) (g7s (a2U N) (a8S N) (d4N N))
def a4E (again:Fn' OR [pD (.sl a0t),pI,pI,a0d]) (x0:List a0a) (x1 x2:Int) (x3:a0b):OR:=bi (decide (x2 < x1)) (gd (idx x2 x0.length)<|on1 (a7W N x3.Mem ((x0.getD x2.toNat a0a.z).1) ((x0.getD x2.toNat a0a.z).2.1))<|gg [pB]<|fun (x4:Bool)=>bi (!x4) (some (0,gB.dv false []))<|on1 (a0R N 0 1099511627776 [(x0.getD x2.toNat a0a.z).2.2.1])<|gg [pB]<|fun (x5:Bool)=>bi (!x5) (some (0,gB.dv false []))<|bi ((x0.getD x2.toNat a0a.z).2.2.2.1) (bi (decide (x2 > 0)) (some (0,gB.dv false []))<|again x0 x1 (w.i64 (x2+1)) x3)<|again x0 x1 (w.i64 (x2+1)) x3)<|some (1,a0c.dv x3 [])
def a3p:Nat→Fn' OR [pD (.sl a0t),pI,pI,a0d]:=lpG (a4E N)
theorem c6m:LEok Q a8t (bodOf f146) f146.ntmps 0 (0,mkM [pD (.sl a0t),pI,pI,a0d] [(0,[pB]),(1,[a0d])] (a3p N N)):=g7r a0r 146 b5u (b5J N)
def b2m (x0:a0b):OR:=onB 0 1 (a3p N N x0.Saq (len x0.Saq) 0 x0) (gg [pB]<|fun (x1:Bool)=>some (0,gB.dv x1 []))<|gg [a0d]<|fun (x2:a0b)=>on1 (a1z N x2.Table x2)<|gg [pB,a0d]<|fun (x3:Bool) (x4:a0b)=>bi (!x3) (on1 (b7J N x4)<|gg [pB]<|fun (x5:Bool)=>some (0,gB.dv x5 []))<|some (0,gB.dv false [])
def b9O:CE:=(b9a,mkF [a0d] [pB] (b2m N))
theorem c9A:CEok Q (b9O N):=fn_L a0r f146 a8t (b5J N) (g7o (c6m N))
def c4M:CS:=⟨89,147,⟨[.agg [.d tI,.d tI,.d tI]],[]⟩,[.one (.d tB)],true,[]⟩
def b8p (x0:a1X):OR:=bi (x0.Kind == 0) (bi (x0.Step == 0) (some (0,gB.dv (x0.Pc == 0) []))<|some (0,gB.dv false []))<|on1 (a0R N 1 4 [x0.Kind])<|gg [pB]<|fun (x1:Bool)=>bi x1 (on1 (a0R N 0 1099511627776 [x0.Step,x0.Pc])<|gg [pB]<|fun (x2:Bool)=>some (0,gB.dv x2 []))<|some (0,gB.dv false [])
def c5y:CE:=(c4M,mkF [e1r] [pB] (b8p N))
theorem d4i:CEok Q (c5y N):=fn_K a0r f147 ⟨[((3,3),a0T),((3,10),a0T)],[],[5,9,18],[],[]⟩ (g7o (a2U N))
def a6K:CS:=⟨90,81,⟨[.agg q_5,.agg [.d (.sl a0n),.d (.ar 16 tI)],.agg q_0],[]⟩,[.one (.d tB)],true,[]⟩
def a4o (x0:a0f) (x1:a0g) (x2:a0b):OR:=on1 (b1Z N x0)<|gg [pB]<|fun (x3:Bool)=>bi x3 (on1 (b7G N x1 x2.A)<|gg [pB]<|fun (x4:Bool)=>bi x4 (on1 (b1o N x1 x2.E)<|gg [pB]<|fun (x5:Bool)=>bi x5 (on1 (a0R N 0 1099511627776 [x2.Cycle,x2.Lats,x2.Picks,x2.Tags])<|gg [pB]<|fun (x6:Bool)=>bi x6 (on1 (b2a N x0 x2)<|gg [pB]<|fun (x7:Bool)=>bi x7 (on1 (b2m N x2)<|gg [pB]<|fun (x8:Bool)=>bi x8 (on1 (b8p N x2.Trap)<|gg [pB]<|fun (x9:Bool)=>some (0,gB.dv x9 []))<|some (0,gB.dv false []))<|some (0,gB.dv false []))<|some (0,gB.dv false []))<|some (0,gB.dv false []))<|some (0,gB.dv false []))<|some (0,gB.dv false [])
def b4x:CE:=(a6K,mkF [a0l,a0m,a0d] [pB] (a4o N))
theorem c2u:CEok Q (b4x N):=fn_K a0r f81 ⟨[((1,1),b9t),((1,6),c4A),((1,12),b9s),((1,24),a0T),((1,29),b9q),((1,33),b9a),((1,38),c4M)],[],[9,15,21,33,38,42],[],[]⟩ (g7p (c9D N) (g7p (d5R N) (g7p (c9B N) (g7p (a2U N) (g7s (c9R N) (c9A N) (d4i N))))))
def a6d:CS:=⟨91,234,⟨[.agg [.d (.sl a0n),.d (.ar 16 tI)],.one (.d tI)],[]⟩,[.one (.d tB)],true,[]⟩
def a7o (N:Nat) (x0:a0g) (x1:Int):OR:=bi (decide (x1≥0)) (some (0,gB.dv (decide (x1 < (len x0.Blocks))) []))<|some (0,gB.dv false [])
def b0o:CE:=(a6d,mkF [a0m,pI] [pB] (a7o N))
theorem b4X:CEok Q (b0o N):=fn_K a0r f234 ⟨[],[],[7],[],[]⟩ g7q
def a9F:CS:=⟨92,167,⟨[.agg [.d (.sl a0n),.d (.ar 16 tI)],.one (.d tB),.one (.d tI)],[]⟩,[.one (.d (.sl a0i))],true,[]⟩
def a7Z (x0:a0g) (x1:Bool) (x2:Int):OR:=on1 (a7o N x0 x2)<|gg [pB]<|fun (x3:Bool)=>bi (!x3) (some (0,(gD (.sl a0i)).dv ([]:List a0h) []))<|bi x1 (gd (idx x2 x0.Blocks.length)<|some (0,(gD (.sl a0i)).dv ((x0.Blocks.getD x2.toNat a0x.z).2.2.2.2.2.1) []))<|gd (idx x2 x0.Blocks.length)<|some (0,(gD (.sl a0i)).dv ((x0.Blocks.getD x2.toNat a0x.z).2.2.2.2.1) [])
def b4y:CE:=(a9F,mkF [a0m,pB,pI] [pD (.sl a0i)] (a7Z N))
theorem c0W:CEok Q (b4y N):=fn_K a0r f167 ⟨[((1,2),a6d)],[],[7,12],[],[]⟩ (g7o (b4X N))
def b3R:CS:=⟨93,166,⟨[.agg [.d (.sl a0n),.d (.ar 16 tI)],.agg [.d tI,.d tI,.d tI]],[]⟩,[.one (.d tI)],true,[]⟩
def b0G (x0:a0g) (x1:a0C):OR:=on1 (a7o N x0 x1.Block)<|gg [pB]<|fun (x2:Bool)=>bi (!x2) (some (0,gI.dv x1.Base []))<|gd (idx x1.Block x0.Blocks.length)<|some (0,gI.dv (w.i64 ((w.i64 (x1.Base+(x0.Blocks.getD x1.Block.toNat a0x.z).2.1)) - (x0.Blocks.getD x1.Block.toNat a0x.z).1)) [])
def b3Z:CE:=(b3R,mkF [a0m,a0L] [pI] (b0G N))
theorem b9U:CEok Q (b3Z N):=fn_K a0r f166 ⟨[((1,3),a6d)],[],[10],[],[]⟩ (g7o (b4X N))
def a8i:CS:=⟨94,165,⟨[.agg [.d (.sl a0n),.d (.ar 16 tI)],.one (.d tB),.agg [.d tI,.d tI,.d tI]],[]⟩,[.agg [.d tI,.d tI,.d tI],.one (.d tB)],false,[]⟩
def b5w:LS:=⟨⟨[.no,.one (.d tB),.no,.one (.p 0 0 [1,16]),.no,.one (.p 1 0 [1,1,1]),.one (.p 2 0 [1,1,1]),.no,.no,.no,.no,.one (.d tI),.one (.d tI)]++nos 52,[[.d (.sl a0n),.d (.ar 16 tI)],[.d tI,.d tI,.d tI],[.d tI,.d tI,.d tI]]⟩,[(0,⟨nos 6++[.one (.p 0 0 [1,1,1]),.one (.d tB)]++nos 57,[[.d tI,.d tI,.d tI]]⟩),(1,⟨[.no,.one (.d tB),.no,.one (.p 0 0 [1,16]),.no,.one (.p 1 0 [1,1,1]),.one (.p 2 0 [1,1,1])]++nos 58,[[.d (.sl a0n),.d (.ar 16 tI)],[.d tI,.d tI,.d tI],[.d tI,.d tI,.d tI]]⟩)]⟩
def a8A:Hi:=⟨[((3,3),a6d),((6,6),a9F),((10,3),b3R),((12,4),a6d),((12,13),a9F)],[(0,b5w)],[13,18,27,38,54],[],[]⟩
theorem b5P:AllP (CEok Q) [b0o N,b4y N,b3Z N]:=g7s (b4X N) (c0W N) (b9U N)
def a4y (again:Fn' OR [pB,pI,pI,a0m,a0L,a0L]) (x0:Bool) (x1 x2:Int) (x3:a0g) (x4 x5:a0C):OR:=bi (decide (x2 < x1)) (on1 (a7o N x3 x4.Block)<|gg [pB]<|fun (x6:Bool)=>bi (!x6) (some (0,gB.dv true (a0P.dv x4 [])))<|gd (idx x4.Block x3.Blocks.length)<|on1 (a7Z N x3 x0 x4.Block)<|gg [pD (.sl a0i)]<|fun (x7:List a0h)=>bi (decide (x4.Index < (len x7))) (some (0,gB.dv false (a0P.dv x4 [])))<|bi (decide ((x3.Blocks.getD x4.Block.toNat a0x.z).2.2.1 < 0)) (some (0,gB.dv true (a0P.dv x4 [])))<|on1 (b0G N x3 x4)<|gg [pI]<|fun (x8:Int)=>again x0 x1 (w.i64 (x2+1)) x3 (a0C.mk ((x3.Blocks.getD x4.Block.toNat a0x.z).2.2.1) 0 x8) x5)<|some (1,gB.dv x0 (a0H.dv x3 (a0P.dv x4 (a0P.dv x5 []))))
def a3r:Nat→Fn' OR [pB,pI,pI,a0m,a0L,a0L]:=lpG (a4y N)
theorem c6b:LEok Q a8A (bodOf f165) f165.ntmps 0 (0,mkM [pB,pI,pI,a0m,a0L,a0L] [(0,[pB,a0L]),(1,[pB,a0m,a0L,a0L])] (a3r N N)):=g7r a0r 165 b5w (b5P N)
def a6v (x0:a0g) (x1:Bool) (x2:a0C):OR:=onB 0 1 (a3r N N x1 (len x0.Blocks) 0 x0 x2 a0C.z) (gg [pB,a0L]<|fun (x3:Bool) (x4:a0C)=>some (0,a0P.dv x4 (gB.dv x3 [])))<|gg [pB,a0m,a0L,a0L]<|fun (x5:Bool) (x6:a0g) (x7 x8:a0C)=>on1 (a7o N x6 x7.Block)<|gg [pB]<|fun (x9:Bool)=>bi (!x9) (some (0,a0P.dv x7 (gB.dv true [])))<|on1 (a7Z N x6 x5 x7.Block)<|gg [pD (.sl a0i)]<|fun (x10:List a0h)=>some (0,a0P.dv x7 (gB.dv (decide (x7.Index≥(len x10))) []))
def a8y:CE:=(a8i,mkF [a0m,pB,a0L] [a0L,pB] (a6v N))
theorem b2u:CEok Q (a8y N):=fn_L a0r f165 a8A (b5P N) (g7o (c6b N))
end
end Go.Proofs.Zz
