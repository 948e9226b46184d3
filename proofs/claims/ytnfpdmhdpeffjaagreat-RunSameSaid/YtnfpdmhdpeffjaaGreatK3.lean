import Derived.Test.YtnfpdmhdpeffjaaGreatK2
set_option linter.unusedSimpArgs false
set_option linter.unusedVariables false
set_option maxRecDepth 100000
namespace Go.Proofs.Zz
noncomputable section
open Go Go.Proofs.Tryz
variable (N:Nat)
def c1Q (x0:aw) (x1:List Int):OR:=on1 (b3f N x0 x1)<|gg [pB]<|λ(x2:Bool)=>bi (!x2) (some (0,cm.dv (ao.mk ([]:List aW) (List.replicate 16 (0 :Int))) (gI.dv 1 [])))<|on1 (d2H N x0)<|gg [pD (.sl Kc)]<|λ(x3:List (Int × (Int × (Int × (Int × (Unit × (Unit × Unit)))))))=>onA 1 (a6e N N 0 x0.Code x0.B8 x0.D1 x1 ([]:List aW) (List.replicate 16 (0 :Int)) x3 x1)<|gg [pD (.sl aK),pI,pD (.sl tU),pD (.ar 16 tI),pD (.sl aN),pD (.ar 16 tI),pD (.sl aN),pD (.ar 16 tI)]<|λ(x4:List af) (x5:Int) (x6 x7:List Int) (x8:List aW) (x9:List Int) (x10:List aW) (x11:List Int)=>some (0,cm.dv (ao.mk x10 x11) (gI.dv 0 []))
def c2F:CE:=(b7K,mkF [bm,pD (.ar 16 tI)] [bq,pI] (c1Q N))
theorem d1N:CEok Q (c2F N) :=
 fnG (hi:=ja) (l:=jE N) (t:=[c3X N]) aq hmix (c0h N) (c3K N) f_67 (by kernel_rfl) (by kernel_rfl) ⟨d4V N,trivial⟩ λys=>by kernel_rfl
def c8x:CS:=⟨54,101,⟨[.agg [.d (.sl aK),.d tI,.d (.sl tU)]],[]⟩,[.agg [.d (.ar 16 tI)]],true,[]⟩
def c1v:LS:=⟨⟨[.no,.one (.p 0 0 [1,1,1]),.one (.p 1 0 [16]),.one (.p 2 0 [16]),.one (.d tI)]++nos 81,[[.d (.sl aK),.d tI,.d (.sl tU)],[.d (.ar 16 tI)],[.d (.ar 16 tI)]]⟩,[(1,⟨[.no,.one (.p 0 0 [1,1,1]),.one (.p 1 0 [16]),.one (.p 2 0 [16])]++nos 82,[[.d (.sl aK),.d tI,.d (.sl tU)],[.d (.ar 16 tI)],[.d (.ar 16 tI)]]⟩)]⟩
def c0Y:LS:=⟨⟨[.no,.one (.p 0 0 [1,1,1]),.one (.p 1 0 [16]),.one (.p 2 0 [16]),.no,.one (.d tI),.one (.d tI),.no,.no,.one (.o tI),.one (.d tI)]++nos 75,[[.d (.sl aK),.d tI,.d (.sl tU)],[.d (.ar 16 tI)],[.d (.ar 16 tI)]]⟩,[(7,⟨[.no,.one (.p 0 0 [1,1,1]),.one (.p 1 0 [16]),.one (.p 2 0 [16]),.no,.one (.d tI),.one (.d tI)]++nos 79,[[.d (.sl aK),.d tI,.d (.sl tU)],[.d (.ar 16 tI)],[.d (.ar 16 tI)]]⟩)]⟩
def c1q:LS:=⟨⟨[.no,.one (.p 0 0 [1,1,1]),.one (.p 1 0 [16]),.one (.p 2 0 [16]),.no,.one (.d tI),.one (.d tI)]++nos 79,[[.d (.sl aK),.d tI,.d (.sl tU)],[.d (.ar 16 tI)],[.d (.ar 16 tI)]]⟩,[(5,⟨[.no,.one (.p 0 0 [1,1,1]),.one (.p 1 0 [16]),.one (.p 2 0 [16]),.no,.one (.d tI)]++nos 80,[[.d (.sl aK),.d tI,.d (.sl tU)],[.d (.ar 16 tI)],[.d (.ar 16 tI)]]⟩)]⟩
def c2o:LS:=⟨⟨[.no,.one (.p 0 0 [1,1,1]),.one (.p 1 0 [16]),.one (.p 2 0 [16]),.no,.one (.d tI)]++nos 80,[[.d (.sl aK),.d tI,.d (.sl tU)],[.d (.ar 16 tI)],[.d (.ar 16 tI)]]⟩,[(3,⟨[.no,.no,.one (.p 0 0 [16]),.one (.p 1 0 [16])]++nos 82,[[.d (.ar 16 tI)],[.d (.ar 16 tI)]]⟩)]⟩
def a2X:Hi:=⟨[((2,1),a3g),((15,2),jd),((19,1),a6l)],[(0,c1v),(6,c0Y),(4,c1q),(2,c2o)],[13,16,22,29,42,46,50,56,60,65,71,77],[],[]⟩
theorem a8I:AllP (CEok Q) [a3o N,a2O N,a8b N]:=bP (a4L N) (jG N) (b0d N)
def b1v (N:Nat) (again:Fn' OR [pI,bm,pD (.ar 16 tI),pD (.ar 16 tI)]) (x0:Int) (x1:aw) (x2 x3:List Int):OR:=bi (decide (x0<16)) (gd (idx x0 16)<|again (w.i64 (x0+1)) x1 x2 (x3.set x0.toNat 2))<|some (1,iK.dv x1 ((gD (.ar 16 tI)).dv x2 ((gD (.ar 16 tI)).dv x3 [])))
def b2j:Nat→Fn' OR [pI,bm,pD (.ar 16 tI),pD (.ar 16 tI)]:=lpG (b1v N)
theorem d2y:LEok Q a2X (bn f101) f101.ntmps 0 (0,mkM [pI,bm,pD (.ar 16 tI),pD (.ar 16 tI)] [(1,[bm,pD (.ar 16 tI),pD (.ar 16 tI)])] (b2j N N)):=bU aq 101 c1v (a8I N)
def b1D (N:Nat) (again:Fn' OR [pI,pI,pD (.sl tI),pI,bm,pD (.ar 16 tI),pD (.ar 16 tI)]) (x0 x1:Int) (x2:List Int) (x3:Int) (x4:aw) (x5 x6:List Int):OR:=bi (decide (x3<(len x2))) (gd (idx x3 x2.length)<|gd (idx (x2.getD x3.toNat 0) 16)<|again x0 x1 x2 (w.i64 (x3+1)) x4 x5 (x6.set (x2.getD x3.toNat 0).toNat 1))<|some (7,gI.dv x0 (gI.dv x1 (iK.dv x4 ((gD (.ar 16 tI)).dv x5 ((gD (.ar 16 tI)).dv x6 [])))))
def kq:Nat→Fn' OR [pI,pI,pD (.sl tI),pI,bm,pD (.ar 16 tI),pD (.ar 16 tI)]:=lpG (b1D N)
theorem c0U:LEok Q a2X (bn f101) f101.ntmps 0 (6,mkM [pI,pI,pD (.sl tI),pI,bm,pD (.ar 16 tI),pD (.ar 16 tI)] [(7,[pI,pI,bm,pD (.ar 16 tI),pD (.ar 16 tI)])] (kq N N)):=bU aq 101 c0Y (a8I N)
def b1x (again:Fn' OR [pI,pI,bm,pD (.ar 16 tI),pD (.ar 16 tI)]) (x0 x1:Int) (x2:aw) (x3 x4:List Int):OR:=bi (decide (x1<(len x2.Code))) (gd (idx x1 x2.Code.length)<|on1 (ig N ((x2.Code.getD x1.toNat af.z).1))<|gg [pI]<|λ(x5:Int)=>bi (x5==4) (bi (decide ((x2.Code.getD x1.toNat af.z).2.2.1>0)) (gd (idx (x2.Code.getD x1.toNat af.z).2.2.1 16)<|bi (decide (x5≥1)) (bi (decide (x5≤3)) (bi (decide ((x2.Code.getD x1.toNat af.z).2.1>0)) (gd (idx (x2.Code.getD x1.toNat af.z).2.1 16)<|bi ((List.getD (x4.set (Int.toNat (x2.Code.getD x1.toNat af.z).2.2.1) 1) (Int.toNat (x2.Code.getD x1.toNat af.z).2.1) 0)==1) (on1 (gH N (x2.Code.getD x1.toNat af.z))<|gg [pD (.sl tI)]<|λ(x6:List Int)=>onA 7 (kq N N x0 x1 x6 0 x2 x3 (x4.set (Int.toNat (x2.Code.getD x1.toNat af.z).2.2.1) 1))<|gg [pI,pI,bm,pD (.ar 16 tI),pD (.ar 16 tI)]<|λ(x7 x8:Int) (x9:aw) (x10 x11:List Int)=>again x7 (w.i64 (x8+1)) x9 x10 x11)<|again x0 (w.i64 (x1+1)) x2 x3 (x4.set (Int.toNat (x2.Code.getD x1.toNat af.z).2.2.1) 1))<|again x0 (w.i64 (x1+1)) x2 x3 (x4.set (Int.toNat (x2.Code.getD x1.toNat af.z).2.2.1) 1))<|again x0 (w.i64 (x1+1)) x2 x3 (x4.set (Int.toNat (x2.Code.getD x1.toNat af.z).2.2.1) 1))<|again x0 (w.i64 (x1+1)) x2 x3 (x4.set (Int.toNat (x2.Code.getD x1.toNat af.z).2.2.1) 1))<|bi (decide (x5≥1)) (bi (decide (x5≤3)) (bi (decide ((x2.Code.getD x1.toNat af.z).2.1>0)) (gd (idx (x2.Code.getD x1.toNat af.z).2.1 16)<|bi ((x4.getD (Int.toNat (x2.Code.getD x1.toNat af.z).2.1) 0)==1) (on1 (gH N (x2.Code.getD x1.toNat af.z))<|gg [pD (.sl tI)]<|λ(x12:List Int)=>onA 7 (kq N N x0 x1 x12 0 x2 x3 x4)<|gg [pI,pI,bm,pD (.ar 16 tI),pD (.ar 16 tI)]<|λ(x13 x14:Int) (x15:aw) (x16 x17:List Int)=>again x13 (w.i64 (x14+1)) x15 x16 x17)<|again x0 (w.i64 (x1+1)) x2 x3 x4)<|again x0 (w.i64 (x1+1)) x2 x3 x4)<|again x0 (w.i64 (x1+1)) x2 x3 x4)<|again x0 (w.i64 (x1+1)) x2 x3 x4)<|bi (x5==5) (bi (decide ((x2.Code.getD x1.toNat af.z).2.2.1>0)) (gd (idx (x2.Code.getD x1.toNat af.z).2.2.1 16)<|bi (decide (x5≥1)) (bi (decide (x5≤3)) (bi (decide ((x2.Code.getD x1.toNat af.z).2.1>0)) (gd (idx (x2.Code.getD x1.toNat af.z).2.1 16)<|bi ((List.getD (x4.set (Int.toNat (x2.Code.getD x1.toNat af.z).2.2.1) 1) (Int.toNat (x2.Code.getD x1.toNat af.z).2.1) 0)==1) (on1 (gH N (x2.Code.getD x1.toNat af.z))<|gg [pD (.sl tI)]<|λ(x18:List Int)=>onA 7 (kq N N x0 x1 x18 0 x2 x3 (x4.set (Int.toNat (x2.Code.getD x1.toNat af.z).2.2.1) 1))<|gg [pI,pI,bm,pD (.ar 16 tI),pD (.ar 16 tI)]<|λ(x19 x20:Int) (x21:aw) (x22 x23:List Int)=>again x19 (w.i64 (x20+1)) x21 x22 x23)<|again x0 (w.i64 (x1+1)) x2 x3 (x4.set (Int.toNat (x2.Code.getD x1.toNat af.z).2.2.1) 1))<|again x0 (w.i64 (x1+1)) x2 x3 (x4.set (Int.toNat (x2.Code.getD x1.toNat af.z).2.2.1) 1))<|again x0 (w.i64 (x1+1)) x2 x3 (x4.set (Int.toNat (x2.Code.getD x1.toNat af.z).2.2.1) 1))<|again x0 (w.i64 (x1+1)) x2 x3 (x4.set (Int.toNat (x2.Code.getD x1.toNat af.z).2.2.1) 1))<|bi (decide (x5≥1)) (bi (decide (x5≤3)) (bi (decide ((x2.Code.getD x1.toNat af.z).2.1>0)) (gd (idx (x2.Code.getD x1.toNat af.z).2.1 16)<|bi ((x4.getD (Int.toNat (x2.Code.getD x1.toNat af.z).2.1) 0)==1) (on1 (gH N (x2.Code.getD x1.toNat af.z))<|gg [pD (.sl tI)]<|λ(x24:List Int)=>onA 7 (kq N N x0 x1 x24 0 x2 x3 x4)<|gg [pI,pI,bm,pD (.ar 16 tI),pD (.ar 16 tI)]<|λ(x25 x26:Int) (x27:aw) (x28 x29:List Int)=>again x25 (w.i64 (x26+1)) x27 x28 x29)<|again x0 (w.i64 (x1+1)) x2 x3 x4)<|again x0 (w.i64 (x1+1)) x2 x3 x4)<|again x0 (w.i64 (x1+1)) x2 x3 x4)<|again x0 (w.i64 (x1+1)) x2 x3 x4)<|bi (decide (x5≥1)) (bi (decide (x5≤3)) (bi (decide ((x2.Code.getD x1.toNat af.z).2.1>0)) (gd (idx (x2.Code.getD x1.toNat af.z).2.1 16)<|bi ((x4.getD (Int.toNat (x2.Code.getD x1.toNat af.z).2.1) 0)==1) (on1 (gH N (x2.Code.getD x1.toNat af.z))<|gg [pD (.sl tI)]<|λ(x30:List Int)=>onA 7 (kq N N x0 x1 x30 0 x2 x3 x4)<|gg [pI,pI,bm,pD (.ar 16 tI),pD (.ar 16 tI)]<|λ(x31 x32:Int) (x33:aw) (x34 x35:List Int)=>again x31 (w.i64 (x32+1)) x33 x34 x35)<|again x0 (w.i64 (x1+1)) x2 x3 x4)<|again x0 (w.i64 (x1+1)) x2 x3 x4)<|again x0 (w.i64 (x1+1)) x2 x3 x4)<|again x0 (w.i64 (x1+1)) x2 x3 x4)<|some (5,gI.dv x0 (iK.dv x2 ((gD (.ar 16 tI)).dv x3 ((gD (.ar 16 tI)).dv x4 []))))
def a6n:Nat→Fn' OR [pI,pI,bm,pD (.ar 16 tI),pD (.ar 16 tI)]:=lpG (b1x N)
theorem c2q:LEok Q a2X (bn f101) f101.ntmps 0 (4,mkM [pI,pI,bm,pD (.ar 16 tI),pD (.ar 16 tI)] [(5,[pI,bm,pD (.ar 16 tI),pD (.ar 16 tI)])] (a6n N N)):=g7G aq 101 c1q (a8I N) (aR (c0U N))
def b2n (again:Fn' OR [pI,bm,pD (.ar 16 tI),pD (.ar 16 tI)]) (x0:Int) (x1:aw) (x2 x3:List Int):OR:=bi (decide (x0<17)) (onA 5 (a6n N N x0 0 x1 x2 x3)<|gg [pI,bm,pD (.ar 16 tI),pD (.ar 16 tI)]<|λ(x4:Int) (x5:aw) (x6 x7:List Int)=>again (w.i64 (x4+1)) x5 x6 x7)<|some (3,(gD (.ar 16 tI)).dv x2 ((gD (.ar 16 tI)).dv x3 []))
def b1X:Nat→Fn' OR [pI,bm,pD (.ar 16 tI),pD (.ar 16 tI)]:=lpG (b2n N)
theorem d3e:LEok Q a2X (bn f101) f101.ntmps 0 (2,mkM [pI,bm,pD (.ar 16 tI),pD (.ar 16 tI)] [(3,[pD (.ar 16 tI),pD (.ar 16 tI)])] (b1X N N)):=g7G aq 101 c2o (a8I N) (aR (c2q N))
def c1s (x0:aw):OR:=on1 (kS N x0)<|gg [pB]<|λ(x1:Bool)=>bi (!x1) (some (0,(gD (.ar 16 tI)).dv (List.replicate 16 (0 :Int)) []))<|onA 1 (b2j N N 1 x0 (List.replicate 16 (0 :Int)) (List.replicate 16 (0 :Int)))<|gg [bm,pD (.ar 16 tI),pD (.ar 16 tI)]<|λ(x2:aw) (x3 x4:List Int)=>onA 3 (b1X N N 0 x2 x3 x4)<|gg [pD (.ar 16 tI),pD (.ar 16 tI)]<|λ(x5 x6:List Int)=>some (0,(gD (.ar 16 tI)).dv x6 [])
def c6J:CE:=(c8x,mkF [bm] [pD (.ar 16 tI)] (c1s N))
theorem d7C:CEok Q (c6J N):=fn_L aq f101 a2X (a8I N) (bh (d2y N) (bP (c0U N) (c2q N) (d3e N)))
def c0m:CS:=⟨55,43,⟨[.agg [.d (.sl aK),.d tI,.d (.sl tU)]],[]⟩,[.agg [.o aN,.d (.ar 16 tI)],.one (.d tI)],false,[]⟩
def b7q (x0:aw):OR:=on1 (c1s N x0)<|gg [pD (.ar 16 tI)]<|λ(x1:List Int)=>on1 (c1Q N x0 x1)<|gg [bq,pI]<|λ(x2:ao) (x3:Int)=>some (0,cm.dv x2 (gI.dv x3 []))
def c0z:CE:=(c0m,mkF [bm] [bq,pI] (b7q N))
theorem c8c:CEok Q (c0z N):=fn_K aq f43 ⟨[((1,2),c8x),((1,3),b7K)],[],[],[],[]⟩ (dD (d7C N) (d1N N))
def b6T:CS:=⟨56,24,⟨[.agg [.d (.sl aK),.d tI,.d (.sl tU)],.one (.d tI)],[]⟩,[.agg [.o aN,.d (.ar 16 tI)],.one (.d tB)],false,[]⟩
def b2R (x0:aw) (x1:Int):OR:=on1 (c3E N x1)<|gg [pD (.ar 16 tI)]<|λ(x2:List Int)=>on1 (c1Q N x0 x2)<|gg [bq,pI]<|λ(x3:ao) (x4:Int)=>bi (x4 != 0) (on1 (b7q N x0)<|gg [bq,pI]<|λ(x5:ao) (x6:Int)=>some (0,cm.dv x5 (gB.dv (x6==0) [])))<|some (0,cm.dv x3 (gB.dv (x4==0) []))
def b5U:CE:=(b6T,mkF [bm,pI] [bq,pB] (b2R N))
theorem c4p:CEok Q (b5U N):=fn_K aq f24 ⟨[((1,2),c4H),((1,3),b7K),((3,1),c0m)],[],[16],[],[]⟩ (bP (d4m N) (d1N N) (c8c N))
def d3z:CS:=⟨57,25,⟨[.agg [.d (.sl aK),.d tI,.d (.sl tU)]],[]⟩,[.one (.d tB)],true,[]⟩
def d6y (N:Nat) (x0:aw):OR:=bi (decide ((len x0.Code)≤200)) (some (0,gB.dv (decide ((len x0.D1)≤500)) []))<|some (0,gB.dv false [])
def d2V:CE:=(d3z,mkF [bm] [pB] (d6y N))
theorem d9a:CEok Q (d2V N):=fn_K aq f25 ⟨[],[],[7],[],[]⟩ bA
def a3y:CS:=⟨59,116,⟨[.one (.d tI),.one (.d tI)],[]⟩,[.one (.d tB)],true,[]⟩
def km (N:Nat) (x0 x1:Int):OR:=bi (decide (x0≥1)) (some (0,gB.dv (decide (x0≤x1)) []))<|some (0,gB.dv false [])
def b5X:CE:=(a3y,mkF [pI,pI] [pB] (km N))
theorem c5j:CEok Q (b5X N):=fn_K aq f116 ⟨[],[],[7],[],[]⟩ bA
def a7E:CS:=⟨60,56,⟨[.agg q_5],[]⟩,[.one (.d tB)],true,[]⟩
def b0J:LS:=⟨⟨[.no,.one (.p 0 0 Ki),.no,.one (.o tI),.one (.d tI)]++nos 47,[q_5]⟩,[(0,⟨[.no,.no,.one (.d tB)]++nos 49,[]⟩),(1,⟨[.no,.one (.p 0 0 Ki)]++nos 50,[q_5]⟩)]⟩
def a4H:Hi:=⟨[((5,4),a3y),((7,2),a3y),((7,6),a3y),((7,11),a3y),((7,16),a3y)],[(0,b0J)],[25,33,37,42,47],[],[]⟩
theorem b1g:AllP (CEok Q) [b5X N]:=aR (c5j N)
def a2F (again:Fn' OR [pD (.sl tI),pI,bE]) (x0:List Int) (x1:Int) (x2:ay):OR:=bi (decide (x1<(len x0))) (gd (idx x1 x0.length)<|on1 (km N (x0.getD x1.toNat 0) 64)<|gg [pB]<|λ(x3:Bool)=>bi (!x3) (some (0,gB.dv false []))<|again x0 (w.i64 (x1+1)) x2)<|some (1,cM.dv x2 [])
def a2a:Nat→Fn' OR [pD (.sl tI),pI,bE]:=lpG (a2F N)
theorem c0f:LEok Q a4H (bn f56) f56.ntmps 0 (0,mkM [pD (.sl tI),pI,bE] [(0,[pB]),(1,[bE])] (a2a N N)):=bU aq 56 b0J (b1g N)
def a4w (x0:ay):OR:=onB 0 1 (a2a N N [x0.B9,x0.C9,x0.C7,x0.C6,x0.C8,x0.B0,x0.B7,x0.D8] 0 x0) (gg [pB]<|λ(x1:Bool)=>some (0,gB.dv x1 []))<|gg [bE]<|λ(x2:ay)=>on1 (km N x2.B2 16)<|gg [pB]<|λ(x3:Bool)=>bi x3 (on1 (km N x2.C4 1000)<|gg [pB]<|λ(x4:Bool)=>bi x4 (on1 (km N x2.D7 50)<|gg [pB]<|λ(x5:Bool)=>bi x5 (on1 (km N x2.D6 50)<|gg [pB]<|λ(x6:Bool)=>some (0,gB.dv x6 []))<|some (0,gB.dv false []))<|some (0,gB.dv false []))<|some (0,gB.dv false [])
def a8e:CE:=(a7E,mkF [bE] [pB] (a4w N))
theorem b2P:CEok Q (a8e N):=fn_L aq f56 a4H (b1g N) (aR (c0f N))
def b3C:CS:=⟨65,41,⟨[.one (.d tI)],[]⟩,[.one (.d tI)],true,[]⟩
def kI (N:Nat) (x0:Int):OR:=bi (x0==26) (some (0,gI.dv 4 []))<|bi (x0==31) (some (0,gI.dv 4 []))<|bi (x0==27) (some (0,gI.dv 2 []))<|bi (x0==28) (some (0,gI.dv 2 []))<|bi (x0==32) (some (0,gI.dv 2 []))<|bi (x0==29) (some (0,gI.dv 1 []))<|bi (x0==30) (some (0,gI.dv 1 []))<|bi (x0==33) (some (0,gI.dv 1 []))<|some (0,gI.dv 0 [])
def b3D:CE:=(b3C,mkF [pI] [pI] (kI N))
theorem b7o:CEok Q (b3D N):=fn_K aq f41 ⟨[],[],[4,7,11],[],[]⟩ bA
def b5o:CS:=⟨70,215,⟨[.one (.d tI),.one (.p 0 0 [1]),.one (.p 1 0 [1])],[[.d tI],[.d tI]]⟩,[.one (.d tB)],true,[[.d tI],[.d tI]]⟩
def a8r (N:Nat) (x0 x1 x2:Int):OR:=bi (decide (x0<x1)) (some (0,gB.dv true (gI.dv x1 (gI.dv x2 []))))<|some (0,gB.dv (decide (x0>x2)) (gI.dv x1 (gI.dv x2 [])))
def b5y:CE:=(b5o,mkF [pI,pI,pI] [pB,pI,pI] (a8r N))
theorem c6f:CEok Q (b5y N):=fn_K aq f215 ⟨[],[],[8],[],[]⟩ bA
def a8X:CS:=⟨71,129,⟨[.one (.d (.sl tI)),.one (.f 215 [⟨0,0,[1]⟩,⟨1,0,[1]⟩])],[[.d tI],[.d tI]]⟩,[.one (.d tI)],true,[[.d tI],[.d tI]]⟩
def a7z:LS:=⟨⟨[.one (.d (.sl tI)),.one (.f 215 [⟨0,0,[1]⟩,⟨1,0,[1]⟩]),.no,.no,.no,.no,.no,.one (.d tI),.one (.d tI)]++nos 10,[[.d tI],[.d tI]]⟩,[(0,⟨[.no,.no,.no,.no,.one (.d tI)]++nos 14,[[.d tI],[.d tI]]⟩),(1,⟨nos 19,[[.d tI],[.d tI]]⟩)]⟩
def a3b:Hi:=⟨[((4,5),b5o)],[(0,a7z)],[9,16],[],[]⟩
theorem a8F:AllP (CEok Q) [b5y N]:=aR (c6f N)
def a1O (again:Fn' OR [pD (.sl tI),pI,pI,pI,pI]) (x0:List Int) (x1 x2 x3 x4:Int):OR:=bi (decide (x2<x1)) (gd (idx x2 x0.length)<|on1 (a8r N (x0.getD x2.toNat 0) x3 x4)<|gg [pB,pI,pI]<|λ(x5:Bool) (x6 x7:Int)=>bi x5 (some (0,gI.dv x2 (gI.dv x6 (gI.dv x7 []))))<|again x0 x1 (w.i64 (x2+1)) x6 x7)<|some (1,gI.dv x3 (gI.dv x4 []))
def a1w:Nat→Fn' OR [pD (.sl tI),pI,pI,pI,pI]:=lpG (a1O N)
theorem b5D:LEok Q a3b (bn f129) f129.ntmps 2 (0,mkM [pD (.sl tI),pI,pI,pI,pI] [(0,[pI,pI,pI]),(1,[pI,pI])] (a1w N N)):=bU aq 129 a7z (a8F N)
def a6P (x0:List Int) (x1 x2:Int):OR:=onB 0 1 (a1w N N x0 (len x0) 0 x1 x2) (gg [pI,pI,pI]<|λ(x3 x4 x5:Int)=>some (0,gI.dv x3 (gI.dv x4 (gI.dv x5 []))))<|gg [pI,pI]<|λ(x6 x7:Int)=>some (0,gI.dv (-1:Int) (gI.dv x6 (gI.dv x7 [])))
def a9m:CE:=(a8X,mkF [pD (.sl tI),pI,pI] [pI,pI,pI] (a6P N))
theorem b8I:CEok Q (a9m N):=fn_L aq f129 a3b (a8F N) (aR (b5D N))
def a6R:CS:=⟨72,74,⟨[.one (.d (.sl tI)),.one (.f 215 [⟨0,0,[1]⟩,⟨1,0,[1]⟩])],[[.d tI],[.d tI]]⟩,[.one (.d tB)],true,[[.d tI],[.d tI]]⟩
def a4p (x0:List Int) (x1 x2:Int):OR:=on1 (a6P N x0 x1 x2)<|gg [pI,pI,pI]<|λ(x3 x4 x5:Int)=>some (0,gB.dv (decide (x3≥0)) (gI.dv x4 (gI.dv x5 [])))
def a6Z:CE:=(a6R,mkF [pD (.sl tI),pI,pI] [pB,pI,pI] (a4p N))
theorem b3W:CEok Q (a6Z N):=fn_K aq f74 ⟨[((1,2),a8X)],[],[],[],[]⟩ (aR (b8I N))
def a0T:CS:=⟨73,144,⟨[.one (.d tI),.one (.d tI),.one (.d (.sl tI))],[]⟩,[.one (.d tB)],true,[]⟩
def a0R (x0 x1:Int) (x2:List Int):OR:=on1 (a4p N x2 x0 x1)<|gg [pB,pI,pI]<|λ(x3:Bool) (x4 x5:Int)=>some (0,gB.dv (!x3) [])
def a2l:CE:=(a0T,mkF [pI,pI,pD (.sl tI)] [pB] (a0R N))
theorem a2U:CEok Q (a2l N):=fn_K aq f144 ⟨[((1,2),a6R)],[],[],[],[]⟩ (aR (b3W N))
def b9t:CS:=⟨74,117,⟨[.agg q_5],[]⟩,[.one (.d tB)],true,[]⟩
def b1Z (x0:ay):OR:=on1 (a0R N 1 64 [x0.B9,x0.C9,x0.C7,x0.C6,x0.C8,x0.B0,x0.B7,x0.D8])<|gg [pB]<|λ(x1:Bool)=>bi x1 (on1 (a0R N 1 16 [x0.B2])<|gg [pB]<|λ(x2:Bool)=>bi x2 (on1 (a0R N 1 1000 [x0.C4])<|gg [pB]<|λ(x3:Bool)=>bi x3 (on1 (a0R N 1 50 [x0.D7,x0.D6])<|gg [pB]<|λ(x4:Bool)=>some (0,gB.dv x4 []))<|some (0,gB.dv false []))<|some (0,gB.dv false []))<|some (0,gB.dv false [])
def b8X:CE:=(b9t,mkF [bE] [pB] (b1Z N))
theorem c9D:CEok Q (b8X N):=fn_K aq f117 ⟨[((1,17),a0T),((1,22),a0T),((1,28),a0T),((1,36),a0T)],[],[21,27,33],[],[]⟩ (aR (a2U N))
def a3v:CS:=⟨80,229,⟨[.one (.d tI)],[]⟩,[.one (.d tI)],true,[]⟩
def jF (N:Nat) (x0:Int):OR:=bi (x0==26) (some (0,gI.dv 4 []))<|bi (x0==31) (some (0,gI.dv 4 []))<|bi (x0==27) (some (0,gI.dv 2 []))<|bi (x0==28) (some (0,gI.dv 2 []))<|bi (x0==32) (some (0,gI.dv 2 []))<|bi (x0==29) (some (0,gI.dv 1 []))<|bi (x0==30) (some (0,gI.dv 1 []))<|bi (x0==33) (some (0,gI.dv 1 []))<|some (0,gI.dv 0 [])
def a3w:CE:=(a3v,mkF [pI] [pI] (jF N))
theorem a4A:CEok Q (a3w N):=fn_K aq f229 ⟨[],[],[4,7,11],[],[]⟩ bA
def a6S:CS:=⟨81,260,⟨[.one (.d tI),.one (.d tW),.one (.d tI)],[]⟩,[.one (.d tI)],true,[]⟩
def iI (N:Nat) (x0 x1 x2:Int):OR:=bi (decide (x0≥1)) (gf (decide (x0=0))<|bi ((Int.tmod (w.i64 x1) x0) != 0) (some (0,gI.dv 1 []))<|bi (decide (x0>0)) (bi (decide (x0>x2)) (some (0,gI.dv 2 []))<|bi (decide ((w.i64 x1)>(w.i64 (x2-x0)))) (some (0,gI.dv 2 []))<|bi (decide (x0≤0)) (bi (decide ((w.i64 ((w.i64 x1)+x0))>x2)) (some (0,gI.dv 2 []))<|some (0,gI.dv 0 []))<|some (0,gI.dv 0 []))<|bi (decide (x0≤0)) (bi (decide ((w.i64 ((w.i64 x1)+x0))>x2)) (some (0,gI.dv 2 []))<|some (0,gI.dv 0 []))<|some (0,gI.dv 0 []))<|bi (decide (x0>0)) (bi (decide (x0>x2)) (some (0,gI.dv 2 []))<|bi (decide ((w.i64 x1)>(w.i64 (x2-x0)))) (some (0,gI.dv 2 []))<|bi (decide (x0≤0)) (bi (decide ((w.i64 ((w.i64 x1)+x0))>x2)) (some (0,gI.dv 2 []))<|some (0,gI.dv 0 []))<|some (0,gI.dv 0 []))<|bi (decide (x0≤0)) (bi (decide ((w.i64 ((w.i64 x1)+x0))>x2)) (some (0,gI.dv 2 []))<|some (0,gI.dv 0 []))<|some (0,gI.dv 0 [])
def a7b:CE:=(a6S,mkF [pI,pW,pI] [pI] (iI N))
theorem a9u:CEok Q (a7b N):=fn_K aq f260 ⟨[],[],[10,13,19,22,26,34,37],[],[]⟩ bA
def a6d:CS:=⟨91,234,⟨[.agg [.d (.sl aN),.d (.ar 16 tI)],.one (.d tI)],[]⟩,[.one (.d tB)],true,[]⟩
def jB (N:Nat) (x0:ao) (x1:Int):OR:=bi (decide (x1≥0)) (some (0,gB.dv (decide (x1<(len x0.A3))) []))<|some (0,gB.dv false [])
def b0o:CE:=(a6d,mkF [bq,pI] [pB] (jB N))
theorem b4X:CEok Q (b0o N):=fn_K aq f234 ⟨[],[],[7],[],[]⟩ bA
def a9F:CS:=⟨92,167,⟨[.agg [.d (.sl aN),.d (.ar 16 tI)],.one (.d tB),.one (.d tI)],[]⟩,[.one (.d (.sl az))],true,[]⟩
def a7Z (x0:ao) (x1:Bool) (x2:Int):OR:=on1 (jB N x0 x2)<|gg [pB]<|λ(x3:Bool)=>bi (!x3) (some (0,(gD (.sl az)).dv ([]:List ak) []))<|bi x1 (gd (idx x2 x0.A3.length)<|some (0,(gD (.sl az)).dv ((x0.A3.getD x2.toNat aW.z).2.2.2.2.2.1) []))<|gd (idx x2 x0.A3.length)<|some (0,(gD (.sl az)).dv ((x0.A3.getD x2.toNat aW.z).2.2.2.2.1) [])
def b4y:CE:=(a9F,mkF [bq,pB,pI] [pD (.sl az)] (a7Z N))
theorem c0W:CEok Q (b4y N):=fn_K aq f167 ⟨[((1,2),a6d)],[],[7,12],[],[]⟩ (aR (b4X N))
def b3R:CS:=⟨93,166,⟨[.agg [.d (.sl aN),.d (.ar 16 tI)],.agg [.d tI,.d tI,.d tI]],[]⟩,[.one (.d tI)],true,[]⟩
def kb (x0:ao) (x1:bc):OR:=on1 (jB N x0 x1.A7)<|gg [pB]<|λ(x2:Bool)=>bi (!x2) (some (0,gI.dv x1.D3 []))<|gd (idx x1.A7 x0.A3.length)<|some (0,gI.dv (w.i64 ((w.i64 (x1.D3+(x0.A3.getD x1.A7.toNat aW.z).2.1))-(x0.A3.getD x1.A7.toNat aW.z).1)) [])
def b3Z:CE:=(b3R,mkF [bq,dP] [pI] (kb N))
theorem b9U:CEok Q (b3Z N):=fn_K aq f166 ⟨[((1,3),a6d)],[],[10],[],[]⟩ (aR (b4X N))
def a8i:CS:=⟨94,165,⟨[.agg [.d (.sl aN),.d (.ar 16 tI)],.one (.d tB),.agg [.d tI,.d tI,.d tI]],[]⟩,[.agg [.d tI,.d tI,.d tI],.one (.d tB)],false,[]⟩
def b5w:LS:=⟨⟨[.no,.one (.d tB),.no,.one (.p 0 0 [1,16]),.no,.one (.p 1 0 [1,1,1]),.one (.p 2 0 [1,1,1]),.no,.no,.no,.no,.one (.d tI),.one (.d tI)]++nos 52,[[.d (.sl aN),.d (.ar 16 tI)],[.d tI,.d tI,.d tI],[.d tI,.d tI,.d tI]]⟩,[(0,⟨nos 6++[.one (.p 0 0 [1,1,1]),.one (.d tB)]++nos 57,[[.d tI,.d tI,.d tI]]⟩),(1,⟨[.no,.one (.d tB),.no,.one (.p 0 0 [1,16]),.no,.one (.p 1 0 [1,1,1]),.one (.p 2 0 [1,1,1])]++nos 58,[[.d (.sl aN),.d (.ar 16 tI)],[.d tI,.d tI,.d tI],[.d tI,.d tI,.d tI]]⟩)]⟩
def a8A:Hi:=⟨[((3,3),a6d),((6,6),a9F),((10,3),b3R),((12,4),a6d),((12,13),a9F)],[(0,b5w)],[13,18,27,38,54],[],[]⟩
theorem b5P:AllP (CEok Q) [b0o N,b4y N,b3Z N]:=bP (b4X N) (c0W N) (b9U N)
def a4y (again:Fn' OR [pB,pI,pI,bq,dP,dP]) (x0:Bool) (x1 x2:Int) (x3:ao) (x4 x5:bc):OR:=bi (decide (x2<x1)) (on1 (jB N x3 x4.A7)<|gg [pB]<|λ(x6:Bool)=>bi (!x6) (some (0,gB.dv true (e9.dv x4 [])))<|gd (idx x4.A7 x3.A3.length)<|on1 (a7Z N x3 x0 x4.A7)<|gg [pD (.sl az)]<|λ(x7:List ak)=>bi (decide (x4.B3<(len x7))) (some (0,gB.dv false (e9.dv x4 [])))<|bi (decide ((x3.A3.getD x4.A7.toNat aW.z).2.2.1<0)) (some (0,gB.dv true (e9.dv x4 [])))<|on1 (kb N x3 x4)<|gg [pI]<|λ(x8:Int)=>again x0 x1 (w.i64 (x2+1)) x3 (bc.mk ((x3.A3.getD x4.A7.toNat aW.z).2.2.1) 0 x8) x5)<|some (1,gB.dv x0 (cm.dv x3 (e9.dv x4 (e9.dv x5 []))))
def a3r:Nat→Fn' OR [pB,pI,pI,bq,dP,dP]:=lpG (a4y N)
theorem c6b:LEok Q a8A (bn f165) f165.ntmps 0 (0,mkM [pB,pI,pI,bq,dP,dP] [(0,[pB,dP]),(1,[pB,bq,dP,dP])] (a3r N N)):=bU aq 165 b5w (b5P N)
def a6v (x0:ao) (x1:Bool) (x2:bc):OR:=onB 0 1 (a3r N N x1 (len x0.A3) 0 x0 x2 bc.z) (gg [pB,dP]<|λ(x3:Bool) (x4:bc)=>some (0,e9.dv x4 (gB.dv x3 [])))<|gg [pB,bq,dP,dP]<|λ(x5:Bool) (x6:ao) (x7 x8:bc)=>on1 (jB N x6 x7.A7)<|gg [pB]<|λ(x9:Bool)=>bi (!x9) (some (0,e9.dv x7 (gB.dv true [])))<|on1 (a7Z N x6 x5 x7.A7)<|gg [pD (.sl az)]<|λ(x10:List ak)=>some (0,e9.dv x7 (gB.dv (decide (x7.B3≥(len x10))) []))
def a8y:CE:=(a8i,mkF [bq,pB,dP] [dP,pB] (a6v N))
theorem b2u:CEok Q (a8y N):=fn_L aq f165 a8A (b5P N) (aR (c6b N))
end
end Go.Proofs.Zz
