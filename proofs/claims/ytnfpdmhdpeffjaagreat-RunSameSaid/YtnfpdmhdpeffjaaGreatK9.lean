import Derived.Test.YtnfpdmhdpeffjaaGreatK7
set_option linter.unusedSimpArgs false
set_option linter.unusedVariables false
set_option maxRecDepth 100000
namespace Go.Proofs.Zz
noncomputable section
open Go Go.Proofs.Tryz
variable (N:Nat)
def d0p:CS:=⟨225,196,⟨[.one (.d (.sl tU)),.agg [.d tI,.d tI,.d tW]],[]⟩,[.one (.o tU)],true,[]⟩
def c5D:LS:=⟨⟨[.no,.no,.no,.one (.p 0 0 [1,1,1]),.no,.one (.o tU),.one (.d tI)]++nos 57,[[.d tI,.d tI,.d tW]]⟩,[(1,⟨[.no,.no,.no,.no,.no,.one (.o tU)]++nos 58,[]⟩)]⟩
def b8j:Hi:=⟨[((2,31),b2T)],[(0,c5D)],[12,17,22,27,32,42,47],[],[]⟩
theorem c7f:AllP (CEok Q) [b3n N]:=aR (b8v N)
def b4L (N:Nat) (again:Fn' OR [pD (.sl tU),pI,kR]) (x0:List Int) (x1:Int) (x2:bv):OR:=bi (decide (x1<x2.2.1)) (gf (decide ((w.u64 (w.i64 (8*x1)))<0))<|gd (idx (w.i64 (x2.1+x1)) x0.length)<|again (x0.set (Int.toNat (w.i64 (x2.1+x1))) (w.u8 (shr .u32 x2.2.2.1 (w.u64 (w.i64 (8*x1)))))) (w.i64 (x1+1)) x2)<|some (1,(gD (.sl tU)).dv x0 [])
def a6a:Nat→Fn' OR [pD (.sl tU),pI,kR]:=lpG (b4L N)
theorem d5V:LEok Q b8j (bn f196) f196.ntmps 0 (0,mkM [pD (.sl tU),pI,kR] [(1,[pD (.sl tU)])] (a6a N N)):=bU aq 196 c5D (c7f N)
def c1p (x0:List Int) (x1:bv):OR:=gd (rm ([]:List Int) x0 1)<|bi (x1.2.1 != 1) (bi (x1.2.1 != 2) (bi (x1.2.1 != 4) (some (0,(gD (.sl tU)).dv (([]:List Int)++x0) []))<|bi (decide (x1.1<0)) (some (0,(gD (.sl tU)).dv (([]:List Int)++x0) []))<|bi (decide (x1.1>4294967295)) (some (0,(gD (.sl tU)).dv (([]:List Int)++x0) []))<|on1 (kH N x1.2.1 (w.u32 x1.1) (len x0))<|gg [pI]<|λ(x2:Int)=>bi (x2 != 0) (some (0,(gD (.sl tU)).dv (([]:List Int)++x0) []))<|onA 1 (a6a N N (([]:List Int)++x0) 0 x1)<|gg [pD (.sl tU)]<|λ(x3:List Int)=>some (0,(gD (.sl tU)).dv x3 []))<|bi (decide (x1.1<0)) (some (0,(gD (.sl tU)).dv (([]:List Int)++x0) []))<|bi (decide (x1.1>4294967295)) (some (0,(gD (.sl tU)).dv (([]:List Int)++x0) []))<|on1 (kH N x1.2.1 (w.u32 x1.1) (len x0))<|gg [pI]<|λ(x4:Int)=>bi (x4 != 0) (some (0,(gD (.sl tU)).dv (([]:List Int)++x0) []))<|onA 1 (a6a N N (([]:List Int)++x0) 0 x1)<|gg [pD (.sl tU)]<|λ(x5:List Int)=>some (0,(gD (.sl tU)).dv x5 []))<|bi (decide (x1.1<0)) (some (0,(gD (.sl tU)).dv (([]:List Int)++x0) []))<|bi (decide (x1.1>4294967295)) (some (0,(gD (.sl tU)).dv (([]:List Int)++x0) []))<|on1 (kH N x1.2.1 (w.u32 x1.1) (len x0))<|gg [pI]<|λ(x6:Int)=>bi (x6 != 0) (some (0,(gD (.sl tU)).dv (([]:List Int)++x0) []))<|onA 1 (a6a N N (([]:List Int)++x0) 0 x1)<|gg [pD (.sl tU)]<|λ(x7:List Int)=>some (0,(gD (.sl tU)).dv x7 [])
def d1r:CE:=(d0p,mkF [pD (.sl tU),kR] [pD (.sl tU)] (c1p N))
theorem d9Y:CEok Q (d1r N):=fn_L aq f196 b8j (c7f N) (aR (d5V N))
def d4l:CS:=⟨226,195,⟨[.one (.d (.sl tU)),.one (.d tI),.one (.d tW)],[]⟩,[.one (.d tW)],true,[]⟩
def c7A:LS:=⟨⟨[.one (.d (.sl tU)),.one (.d tI),.one (.d tW),.no,.no,.no,.no,.one (.d tI),.one (.d tW),.one (.d tI)]++nos 35,[]⟩,[(1,⟨[.no,.one (.d tI)]++nos 6++[.one (.d tW)]++nos 36,[]⟩)]⟩
def c0V:Hi:=⟨[((1,1),b3C),((2,1),jd),((2,8),b2T),((9,2),c0C)],[(0,c7A)],[15,22,25],[],[]⟩
theorem d1d:AllP (CEok Q) [b3D N,a2O N,b3n N,b9W N]:=bh (b7o N) (bP (jG N) (b8v N) (c8B N))
def b8C (N:Nat) (again:Fn' OR [pD (.sl tU),pI,pW,pI,pW,pI]) (x0:List Int) (x1 x2 x3 x4 x5:Int):OR:=bi (decide (x5<x3)) (gd (idx (w.i64 ((w.i64 x2)+x5)) x0.length)<|gf (decide ((w.u64 (w.i64 (8*x5)))<0))<|again x0 x1 x2 x3 (fS .u32 x4 (shl .u32 (w.u32 (x0.getD (Int.toNat (w.i64 ((w.i64 x2)+x5))) 0)) (w.u64 (w.i64 (8*x5))))) (w.i64 (x5+1)))<|some (1,gI.dv x1 (gW.dv x4 []))
def b2C:Nat→Fn' OR [pD (.sl tU),pI,pW,pI,pW,pI]:=lpG (b8C N)
theorem d7b:LEok Q c0V (bn f195) f195.ntmps 0 (0,mkM [pD (.sl tU),pI,pW,pI,pW,pI] [(1,[pI,pW])] (b2C N N)):=bU aq 195 c7A (d1d N)
def d3q (x0:List Int) (x1 x2:Int):OR:=on1 (kI N x1)<|gg [pI]<|λ(x3:Int)=>on1 (ig N x1)<|gg [pI]<|λ(x4:Int)=>bi (x4 != 4) (some (0,gW.dv 0 []))<|on1 (kH N x3 x2 (len x0))<|gg [pI]<|λ(x5:Int)=>bi (x5 != 0) (some (0,gW.dv 0 []))<|onA 1 (b2C N N x0 x1 x2 x3 0 0)<|gg [pI,pW]<|λ(x6 x7:Int)=>on1 (b6N N x6 x7)<|gg [pW]<|λ(x8:Int)=>some (0,gW.dv x8 [])
def d6w:CE:=(d4l,mkF [pD (.sl tU),pI,pW] [pW] (d3q N))
theorem e3z:CEok Q (d6w N):=fn_L aq f195 c0V (d1d N) (aR (d7b N))
def d4T:CS:=⟨235,178,⟨[.one (.d tW),.one (.d tI)],[]⟩,[.one (.d tW)],true,[]⟩
def d7w (N:Nat) (x0 x1:Int):OR:=bi (x1==1) (some (0,gW.dv (cG .u32 x0 255) []))<|bi (x1==2) (some (0,gW.dv (cG .u32 x0 65535) []))<|bi (x1==4) (some (0,gW.dv x0 []))<|some (0,gW.dv 0 [])
def d6j:CE:=(d4T,mkF [pW,pI] [pW] (d7w N))
theorem e2y:CEok Q (d6j N):=fn_K aq f178 ⟨[],[],[6,10,14],[],[]⟩ bA
variable (N:Nat)
variable (N:Nat)
def f9n:CS:=⟨251,253,⟨[.one (.d tI),.one (.d tI),.one (.d tI)],[]⟩,[.one (.d tB)],true,[]⟩
def f6C (N:Nat) (x0 x1 x2:Int):OR:=bi (decide (x0≥1)) (bi (decide (x0≤2000)) (bi (decide (x1≥0)) (bi (decide (x1≤65536)) (some (0,gB.dv (decide (x2≤x1)) []))<|some (0,gB.dv false []))<|some (0,gB.dv false []))<|some (0,gB.dv false []))<|some (0,gB.dv false [])
def f8R:CE:=(f9n,mkF [pI,pI,pI] [pB] (f6C N))
theorem g2o:CEok Q (f8R N):=fn_K aq f253 ⟨[],[],[9,13,17,21],[],[]⟩ bA
def f7O:CS:=⟨252,252,⟨[.agg [.d tI,.d tI,.d tI,.d tI,.d tI]],[]⟩,[.one (.d tB)],true,[]⟩
def f6L (x0:af):OR:=on1 (jz N x0)<|gg [pB]<|λ(x1:Bool)=>some (0,gB.dv (!x1) [])
def f7D:CE:=(f7O,mkF [dX] [pB] (f6L N))
theorem g0I:CEok Q (f7D N):=fn_K aq f252 ⟨[((1,1),b4b)],[],[],[],[]⟩ (aR (b9Y N))
def f4t:CS:=⟨253,287,⟨[.one (.d (.sl aK)),.one (.f 252 [])],[]⟩,[.one (.d tI)],true,[]⟩
def f3U:LS:=⟨⟨[.one (.d (.sl aK)),.one (.f 252 []),.no,.no,.no,.no,.no,.one (.d tI),.one (.d tI)]++nos 10,[]⟩,[(0,⟨[.no,.no,.no,.no,.one (.d tI)]++nos 14,[]⟩),(1,⟨nos 19,[]⟩)]⟩
def f2L:Hi:=⟨[((4,5),f7O)],[(0,f3U)],[9,16],[],[]⟩
theorem f4q:AllP (CEok Q) [f7D N]:=aR (g0I N)
def f2p (again:Fn' OR [pD (.sl aK),pI,pI]) (x0:List af) (x1 x2:Int):OR:=bi (decide (x2<x1)) (gd (idx x2 x0.length)<|on1 (f6L N (x0.getD x2.toNat af.z))<|gg [pB]<|λ(x3:Bool)=>bi x3 (some (0,gI.dv x2 []))<|again x0 x1 (w.i64 (x2+1)))<|some (1,[])
def jX:Nat→Fn' OR [pD (.sl aK),pI,pI]:=lpG (f2p N)
theorem f6k:LEok Q f2L (bn f287) f287.ntmps 0 (0,mkM [pD (.sl aK),pI,pI] [(0,[pI]),(1,[])] (jX N N)):=bU aq 287 f3U (f4q N)
def f3C (x0:List af):OR:=onB 0 1 (jX N N x0 (len x0) 0) (gg [pI]<|λ(x1:Int)=>some (0,gI.dv x1 []))<|gg []<|some (0,gI.dv (-1:Int) [])
def f4v:CE:=(f4t,mkF [pD (.sl aK)] [pI] (f3C N))
theorem f7s:CEok Q (f4v N):=fn_L aq f287 f2L (f4q N) (aR (f6k N))
def f3H:CS:=⟨254,254,⟨[.one (.d (.sl aK)),.one (.f 252 [])],[]⟩,[.one (.d tB)],true,[]⟩
def f2H (x0:List af):OR:=on1 (f3C N x0)<|gg [pI]<|λ(x1:Int)=>some (0,gB.dv (decide (x1≥0)) [])
def f3F:CE:=(f3H,mkF [pD (.sl aK)] [pB] (f2H N))
theorem f6d:CEok Q (f3F N):=fn_K aq f254 ⟨[((1,2),f4t)],[],[],[],[]⟩ (aR (f7s N))
def f4J:CS:=⟨255,276,⟨[.agg [.d (.sl aK),.d tI,.d (.sl tU)],.one (.d tI)],[]⟩,[.one (.d tI),.one (.d tB)],false,[]⟩
def gF (x0:aw) (x1:Int):OR:=gd (idx x1 x0.Code.length)<|on1 (gT N ((x0.Code.getD x1.toNat af.z).1))<|gg [pI]<|λ(x2:Int)=>gd (idx x1 x0.Code.length)<|bi (x2==6) (some (0,gI.dv (w.i64 (x1+(x0.Code.getD x1.toNat af.z).2.2.2.2.1)) (gB.dv true [])))<|some (0,gI.dv (w.i64 (x1+(x0.Code.getD x1.toNat af.z).2.2.2.2.1)) (gB.dv (x2==7) []))
def f4M:CE:=(f4J,mkF [bm,pI] [pI,pB] (gF N))
theorem f6c:CEok Q (f4M N):=fn_K aq f276 ⟨[((1,6),iC)],[],[24],[],[]⟩ (aR (iV N))
def f7z:CS:=⟨256,255,⟨[.agg [.d (.sl aK),.d tI,.d (.sl tU)]],[]⟩,[.one (.d tI)],true,[]⟩
def f6n:LS:=⟨⟨[.no,.one (.p 0 0 [1,1,1])]++nos 6++[.one (.d (.sl aK)),.one (.d tI),.one (.d tI)]++nos 29,[[.d (.sl aK),.d tI,.d (.sl tU)]]⟩,[(0,⟨[.no,.no,.one (.d tI)]++nos 37,[]⟩),(1,⟨nos 40,[]⟩)]⟩
def f4r:Hi:=⟨[((4,2),f4J)],[(0,f6n)],[11,22,28,38],[],[]⟩
theorem f7l:AllP (CEok Q) [f4M N]:=aR (f6c N)
def f3I (again:Fn' OR [pD (.sl aK),pI,pI,bm]) (x0:List af) (x1 x2:Int) (x3:aw):OR:=bi (decide (x2<x1)) (gd (idx x2 x0.length)<|on1 (gF N x3 x2)<|gg [pI,pB]<|λ(x4:Int) (x5:Bool)=>bi x5 (bi (decide ((x0.getD x2.toNat af.z).2.2.2.2.1<(w.i64 (0-x2)))) (some (0,gI.dv 4 []))<|bi (decide ((x0.getD x2.toNat af.z).2.2.2.2.1≥(w.i64 ((len x3.Code)-x2)))) (some (0,gI.dv 4 []))<|again x0 x1 (w.i64 (x2+1)) x3)<|again x0 x1 (w.i64 (x2+1)) x3)<|some (1,[])
def f3l:Nat→Fn' OR [pD (.sl aK),pI,pI,bm]:=lpG (f3I N)
theorem f9E:LEok Q f4r (bn f255) f255.ntmps 0 (0,mkM [pD (.sl aK),pI,pI,bm] [(0,[pI]),(1,[])] (f3l N N)):=bU aq 255 f6n (f7l N)
def f6H (x0:aw):OR:=onB 0 1 (f3l N N x0.Code (len x0.Code) 0 x0) (gg [pI]<|λ(x1:Int)=>some (0,gI.dv x1 []))<|gg []<|some (0,gI.dv 0 [])
def f7P:CE:=(f7z,mkF [bm] [pI] (f6H N))
theorem g0J:CEok Q (f7P N):=fn_L aq f255 f4r (f7l N) (aR (f9E N))
def f5r:CS:=⟨257,188,⟨[.agg [.d (.sl aK),.d tI,.d (.sl tU)]],[]⟩,[.one (.d tB)],true,[]⟩
def f4F (x0:aw):OR:=on1 (f6C N (len x0.Code) x0.B8 (len x0.D1))<|gg [pB]<|λ(x1:Bool)=>bi x1 (on1 (f2H N x0.Code)<|gg [pB]<|λ(x2:Bool)=>bi (!x2) (on1 (f6H N x0)<|gg [pI]<|λ(x3:Int)=>some (0,gB.dv (x3==0) []))<|some (0,gB.dv false []))<|some (0,gB.dv false [])
def f5q:CE:=(f5r,mkF [bm] [pB] (f4F N))
theorem f6N:CEok Q (f5q N):=fn_K aq f188 ⟨[((2,8),f9n),((2,13),f3H),((2,18),f7z)],[],[13,20],[],[]⟩ (bP (g2o N) (f6d N) (g0J N))
def f7d:CS:=⟨258,272,⟨[.one (.d tI)],[]⟩,[.one (.d tB)],true,[]⟩
def f4L (N:Nat) (x0:Int):OR:=bi (x0 != 1) (some (0,gB.dv (x0 != 2) []))<|some (0,gB.dv false [])
def f6Y:CE:=(f7d,mkF [pI] [pB] (f4L N))
theorem g0v:CEok Q (f6Y N):=fn_K aq f272 ⟨[],[],[5],[],[]⟩ bA
def f5e:CS:=⟨259,129,⟨[.one (.d (.sl tI)),.one (.f 272 [])],[]⟩,[.one (.d tI)],true,[]⟩
def f4y:LS:=⟨⟨[.one (.d (.sl tI)),.one (.f 272 []),.no,.no,.no,.no,.no,.one (.d tI),.one (.d tI)]++nos 10,[]⟩,[(0,⟨[.no,.no,.no,.no,.one (.d tI)]++nos 14,[]⟩),(1,⟨nos 19,[]⟩)]⟩
def f2W:Hi:=⟨[((4,5),f7d)],[(0,f4y)],[9,16],[],[]⟩
theorem f4R:AllP (CEok Q) [f6Y N]:=aR (g0v N)
def f2y (again:Fn' OR [pD (.sl tI),pI,pI]) (x0:List Int) (x1 x2:Int):OR:=bi (decide (x2<x1)) (gd (idx x2 x0.length)<|on1 (f4L N (x0.getD x2.toNat 0))<|gg [pB]<|λ(x3:Bool)=>bi x3 (some (0,gI.dv x2 []))<|again x0 x1 (w.i64 (x2+1)))<|some (1,[])
def jV:Nat→Fn' OR [pD (.sl tI),pI,pI]:=lpG (f2y N)
theorem f7q:LEok Q f2W (bn f129) f129.ntmps 0 (0,mkM [pD (.sl tI),pI,pI] [(0,[pI]),(1,[])] (jV N N)):=bU aq 129 f4y (f4R N)
def f4h (x0:List Int):OR:=onB 0 1 (jV N N x0 (len x0) 0) (gg [pI]<|λ(x1:Int)=>some (0,gI.dv x1 []))<|gg []<|some (0,gI.dv (-1:Int) [])
def f5c:CE:=(f5e,mkF [pD (.sl tI)] [pI] (f4h N))
theorem f8m:CEok Q (f5c N):=fn_L aq f129 f2W (f4R N) (aR (f7q N))
def f3Z:CS:=⟨260,74,⟨[.one (.d (.sl tI)),.one (.f 272 [])],[]⟩,[.one (.d tB)],true,[]⟩
def f2O (x0:List Int):OR:=on1 (f4h N x0)<|gg [pI]<|λ(x1:Int)=>some (0,gB.dv (decide (x1≥0)) [])
def f4d:CE:=(f3Z,mkF [pD (.sl tI)] [pB] (f2O N))
theorem f6P:CEok Q (f4d N):=fn_K aq f74 ⟨[((1,2),f5e)],[],[],[],[]⟩ (aR (f8m N))
def f7F:CS:=⟨261,296,⟨[.agg [.d tI,.d tI,.d tI,.d tI,.d tI]],[]⟩,[.one (.d tB)],true,[]⟩
def f5p (x0:af):OR:=on1 (gT N x0.1)<|gg [pI]<|λ(x1:Int)=>bi (x1==4) (some (0,gB.dv true []))<|some (0,gB.dv (x1==5) [])
def f7B:CE:=(f7F,mkF [dX] [pB] (f5p N))
theorem g0R:CEok Q (f7B N):=fn_K aq f296 ⟨[((1,2),iC)],[],[9],[],[]⟩ (aR (iV N))
def f5y:CS:=⟨262,297,⟨[.agg [.d tI,.d tI,.d tI,.d tI,.d tI]],[]⟩,[.one (.d tB)],true,[]⟩
def f3v (x0:af):OR:=on1 (gT N x0.1)<|gg [pI]<|λ(x1:Int)=>bi (decide (x1≥1)) (some (0,gB.dv (decide (x1≤3)) []))<|some (0,gB.dv false [])
def f5F:CE:=(f5y,mkF [dX] [pB] (f3v N))
theorem f7x:CEok Q (f5F N):=fn_K aq f297 ⟨[((1,2),iC)],[],[9],[],[]⟩ (aR (iV N))
def f9b:CS:=⟨263,307,⟨[.one (.d tI),.one (.p 0 0 [16])],[[.d (.ar 16 tI)]]⟩,[.one (.d tB)],true,[[.d (.ar 16 tI)]]⟩
def f6J (N:Nat) (x0:Int) (x1:List Int):OR:=gd (idx x0 16)<|some (0,gB.dv ((x1.getD x0.toNat 0)==2) ((gD (.ar 16 tI)).dv x1 []))
def f9r:CE:=(f9b,mkF [pI,pD (.ar 16 tI)] [pB,pD (.ar 16 tI)] (f6J N))
theorem g1X:CEok Q (f9r N):=fn_K aq f307 ⟨[],[],[],[],[]⟩ bA
def f5d:CS:=⟨264,129,⟨[.one (.d (.sl tI)),.one (.f 307 [⟨0,0,[16]⟩])],[[.d (.ar 16 tI)]]⟩,[.one (.d tI)],true,[[.d (.ar 16 tI)]]⟩
def f4z:LS:=⟨⟨[.one (.d (.sl tI)),.one (.f 307 [⟨0,0,[16]⟩]),.no,.no,.no,.no,.no,.one (.d tI),.one (.d tI)]++nos 10,[[.d (.ar 16 tI)]]⟩,[(0,⟨[.no,.no,.no,.no,.one (.d tI)]++nos 14,[[.d (.ar 16 tI)]]⟩),(1,⟨nos 19,[[.d (.ar 16 tI)]]⟩)]⟩
def f2V:Hi:=⟨[((4,5),f9b)],[(0,f4z)],[9,16],[],[]⟩
theorem f4S:AllP (CEok Q) [f9r N]:=aR (g1X N)
def f2w (again:Fn' OR [pD (.sl tI),pI,pI,pD (.ar 16 tI)]) (x0:List Int) (x1 x2:Int) (x3:List Int):OR:=bi (decide (x2<x1)) (gd (idx x2 x0.length)<|on1 (f6J N (x0.getD x2.toNat 0) x3)<|gg [pB,pD (.ar 16 tI)]<|λ(x4:Bool) (x5:List Int)=>bi x4 (some (0,gI.dv x2 ((gD (.ar 16 tI)).dv x5 [])))<|again x0 x1 (w.i64 (x2+1)) x5)<|some (1,(gD (.ar 16 tI)).dv x3 [])
def jU:Nat→Fn' OR [pD (.sl tI),pI,pI,pD (.ar 16 tI)]:=lpG (f2w N)
theorem f7r:LEok Q f2V (bn f129) f129.ntmps 1 (0,mkM [pD (.sl tI),pI,pI,pD (.ar 16 tI)] [(0,[pI,pD (.ar 16 tI)]),(1,[pD (.ar 16 tI)])] (jU N N)):=bU aq 129 f4z (f4S N)
def f4p (x0 x1:List Int):OR:=onB 0 1 (jU N N x0 (len x0) 0 x1) (gg [pI,pD (.ar 16 tI)]<|λ(x2:Int) (x3:List Int)=>some (0,gI.dv x2 ((gD (.ar 16 tI)).dv x3 [])))<|gg [pD (.ar 16 tI)]<|λ(x4:List Int)=>some (0,gI.dv (-1:Int) ((gD (.ar 16 tI)).dv x4 []))
def f5g:CE:=(f5d,mkF [pD (.sl tI),pD (.ar 16 tI)] [pI,pD (.ar 16 tI)] (f4p N))
theorem f8l:CEok Q (f5g N):=fn_L aq f129 f2V (f4S N) (aR (f7r N))
def f4o:CS:=⟨265,74,⟨[.one (.d (.sl tI)),.one (.f 307 [⟨0,0,[16]⟩])],[[.d (.ar 16 tI)]]⟩,[.one (.d tB)],true,[[.d (.ar 16 tI)]]⟩
def f3q (x0 x1:List Int):OR:=on1 (f4p N x0 x1)<|gg [pI,pD (.ar 16 tI)]<|λ(x2:Int) (x3:List Int)=>some (0,gB.dv (decide (x2≥0)) ((gD (.ar 16 tI)).dv x3 []))
def f4l:CE:=(f4o,mkF [pD (.sl tI),pD (.ar 16 tI)] [pB,pD (.ar 16 tI)] (f3q N))
theorem f6K:CEok Q (f4l N):=fn_K aq f74 ⟨[((1,2),f5d)],[],[],[],[]⟩ (aR (f8l N))
def f8L:CS:=⟨266,298,⟨[.agg [.d tI,.d tI,.d tI,.d tI,.d tI],.agg [.d (.ar 16 tI)]],[]⟩,[.one (.d tB)],true,[]⟩
def f6o (x0:af) (x1:List Int):OR:=on1 (jy N x0)<|gg [pD (.sl tI)]<|λ(x2:List Int)=>on1 (f3q N x2 x1)<|gg [pB,pD (.ar 16 tI)]<|λ(x3:Bool) (x4:List Int)=>some (0,gB.dv x3 [])
def f8D:CE:=(f8L,mkF [dX,pD (.ar 16 tI)] [pB] (f6o N))
theorem g0Y:CEok Q (f8D N):=fn_K aq f298 ⟨[((1,1),c0i),((1,3),f4o)],[],[],[],[]⟩ (dD (d7A N) (f6K N))
def f8P:CS:=⟨267,274,⟨[.agg [.d tI,.d tI,.d tI,.d tI,.d tI],.agg [.d (.ar 16 tI)]],[]⟩,[.one (.d tB)],true,[]⟩
def f6U (x0:af) (x1:List Int):OR:=on1 (f5p N x0)<|gg [pB]<|λ(x2:Bool)=>bi x2 (gd (idx x0.2.2.1 16)<|bi ((x1.getD x0.2.2.1.toNat 0)==2) (some (0,gB.dv true []))<|on1 (f3v N x0)<|gg [pB]<|λ(x3:Bool)=>bi x3 (gd (idx x0.2.1 16)<|bi ((x1.getD x0.2.1.toNat 0)==1) (on1 (f6o N x0 x1)<|gg [pB]<|λ(x4:Bool)=>some (0,gB.dv x4 []))<|some (0,gB.dv false []))<|some (0,gB.dv false []))<|on1 (f3v N x0)<|gg [pB]<|λ(x5:Bool)=>bi x5 (gd (idx x0.2.1 16)<|bi ((x1.getD x0.2.1.toNat 0)==1) (on1 (f6o N x0 x1)<|gg [pB]<|λ(x6:Bool)=>some (0,gB.dv x6 []))<|some (0,gB.dv false []))<|some (0,gB.dv false [])
def f9i:CE:=(f8P,mkF [dX,pD (.ar 16 tI)] [pB] (f6U N))
theorem g2m:CEok Q (f9i N):=fn_K aq f274 ⟨[((1,1),f7F),((1,11),f5y),((1,22),f8L)],[],[7,14,17,24],[],[]⟩ (bP (g0R N) (f7x N) (g0Y N))
def f6X:CS:=⟨268,273,⟨[.agg [.d tI,.d tI,.d tI,.d tI,.d tI],.one (.p 0 0 [16])],[[.d (.ar 16 tI)]]⟩,[.one (.d tB)],true,[[.d (.ar 16 tI)]]⟩
def f6g (x0:af) (x1:List Int):OR:=on1 (f6U N x0 x1)<|gg [pB]<|λ(x2:Bool)=>some (0,gB.dv x2 ((gD (.ar 16 tI)).dv x1 []))
def f7j:CE:=(f6X,mkF [dX,pD (.ar 16 tI)] [pB,pD (.ar 16 tI)] (f6g N))
theorem g0x:CEok Q (f7j N):=fn_K aq f273 ⟨[((1,2),f8P)],[],[],[],[]⟩ (aR (g2m N))
def f3R:CS:=⟨269,287,⟨[.one (.d (.sl aK)),.one (.f 273 [⟨0,0,[16]⟩])],[[.d (.ar 16 tI)]]⟩,[.one (.d tI)],true,[[.d (.ar 16 tI)]]⟩
def f3y:LS:=⟨⟨[.one (.d (.sl aK)),.one (.f 273 [⟨0,0,[16]⟩]),.no,.no,.no,.no,.no,.one (.d tI),.one (.d tI)]++nos 10,[[.d (.ar 16 tI)]]⟩,[(0,⟨[.no,.no,.no,.no,.one (.d tI)]++nos 14,[[.d (.ar 16 tI)]]⟩),(1,⟨nos 19,[[.d (.ar 16 tI)]]⟩)]⟩
def f2E:Hi:=⟨[((4,5),f6X)],[(0,f3y)],[9,16],[],[]⟩
theorem f3D:AllP (CEok Q) [f7j N]:=aR (g0x N)
def f2n (again:Fn' OR [pD (.sl aK),pI,pI,pD (.ar 16 tI)]) (x0:List af) (x1 x2:Int) (x3:List Int):OR:=bi (decide (x2<x1)) (gd (idx x2 x0.length)<|on1 (f6g N (x0.getD x2.toNat af.z) x3)<|gg [pB,pD (.ar 16 tI)]<|λ(x4:Bool) (x5:List Int)=>bi x4 (some (0,gI.dv x2 ((gD (.ar 16 tI)).dv x5 [])))<|again x0 x1 (w.i64 (x2+1)) x5)<|some (1,(gD (.ar 16 tI)).dv x3 [])
def jY:Nat→Fn' OR [pD (.sl aK),pI,pI,pD (.ar 16 tI)]:=lpG (f2n N)
theorem f5M:LEok Q f2E (bn f287) f287.ntmps 1 (0,mkM [pD (.sl aK),pI,pI,pD (.ar 16 tI)] [(0,[pI,pD (.ar 16 tI)]),(1,[pD (.ar 16 tI)])] (jY N N)):=bU aq 287 f3y (f3D N)
def f3n (x0:List af) (x1:List Int):OR:=onB 0 1 (jY N N x0 (len x0) 0 x1) (gg [pI,pD (.ar 16 tI)]<|λ(x2:Int) (x3:List Int)=>some (0,gI.dv x2 ((gD (.ar 16 tI)).dv x3 [])))<|gg [pD (.ar 16 tI)]<|λ(x4:List Int)=>some (0,gI.dv (-1:Int) ((gD (.ar 16 tI)).dv x4 []))
def f3W:CE:=(f3R,mkF [pD (.sl aK),pD (.ar 16 tI)] [pI,pD (.ar 16 tI)] (f3n N))
theorem f6t:CEok Q (f3W N):=fn_L aq f287 f2E (f3D N) (aR (f5M N))
def f3s:CS:=⟨270,254,⟨[.one (.d (.sl aK)),.one (.f 273 [⟨0,0,[16]⟩])],[[.d (.ar 16 tI)]]⟩,[.one (.d tB)],true,[[.d (.ar 16 tI)]]⟩
def f2T (x0:List af) (x1:List Int):OR:=on1 (f3n N x0 x1)<|gg [pI,pD (.ar 16 tI)]<|λ(x2:Int) (x3:List Int)=>some (0,gB.dv (decide (x2≥0)) ((gD (.ar 16 tI)).dv x3 []))
def f3t:CE:=(f3s,mkF [pD (.sl aK),pD (.ar 16 tI)] [pB,pD (.ar 16 tI)] (f2T N))
theorem f5z:CEok Q (f3t N):=fn_K aq f254 ⟨[((1,2),f3R)],[],[],[],[]⟩ (aR (f6t N))
def f8o:CS:=⟨271,246,⟨[.agg [.d (.sl aK),.d tI,.d (.sl tU)],.agg [.d (.ar 16 tI)]],[]⟩,[.one (.d tB)],true,[]⟩
def f5S (x0:aw) (x1:List Int):OR:=on1 (f4F N x0)<|gg [pB]<|λ(x2:Bool)=>bi (!x2) (some (0,gB.dv false []))<|gd (idx 0 16)<|bi ((x1.getD 0 0) != 0) (some (0,gB.dv false []))<|gd (sb 1 16)<|on1 (f2O N (List.take (16-1) (List.drop 1 x1)))<|gg [pB]<|λ(x3:Bool)=>bi x3 (some (0,gB.dv false []))<|on1 (f2T N x0.Code x1)<|gg [pB,pD (.ar 16 tI)]<|λ(x4:Bool) (x5:List Int)=>some (0,gB.dv (!x4) [])
def f8w:CE:=(f8o,mkF [bm,pD (.ar 16 tI)] [pB] (f5S N))
theorem g1y:CEok Q (f8w N):=fn_K aq f246 ⟨[((1,1),f5r),((3,1),f3Z),((5,3),f3s)],[],[8,12,14],[],[]⟩ (bP (f6N N) (f6P N) (f5z N))
end
end Go.Proofs.Zz
