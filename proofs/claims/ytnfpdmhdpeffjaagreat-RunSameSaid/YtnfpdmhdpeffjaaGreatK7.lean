import Derived.Test.YtnfpdmhdpeffjaaGreatK5
set_option linter.unusedSimpArgs false
set_option linter.unusedVariables false
set_option maxRecDepth 100000
namespace Go.Proofs.Zz
noncomputable section
open Go Go.Proofs.Tryz
variable (N:Nat)
def c6Q:CS:=⟨192,108,⟨[],[]⟩,[.agg q_5],true,[]⟩
def d8d (N:Nat)  : OR:=some (0,cM.dv (ay.mk 1 1 1 1 1 1 1 1 1 1 1 1) [])
def d5L:CE:=(c6Q,mkF [] [bE] (d8d N))
theorem e3K:CEok Q (d5L N):=fn_K aq f108 ⟨[],[],[],[],[]⟩ bA
def c1n:CS:=⟨193,268,⟨[.one (.hd 0 24),.agg [.d tI,.d tI,.d tW]],[q_8]⟩,[],false,[q_8]⟩
def b6K:LS:=⟨⟨[.one (.hd 0 24),.no,.no,.one (.p 1 0 [1,1,1])]++nos 36++[.one (.d tI),.one (.d tI)]++nos 15,[q_8,[.d tI,.d tI,.d tW]]⟩,[(1,⟨nos 57,[q_8]⟩)]⟩
def a9J:Hi:=⟨[((1,31),a6S)],[(0,b6K)],[8,13,18,23,28,38,42],[],[]⟩
theorem b9E:AllP (CEok Q) [a7b N]:=aR (a9u N)
def a8n (N:Nat) (again:Fn' OR [pI,pI,aD,kR]) (x0 x1:Int) (x2:aa) (x3:bv):OR:=bi (decide (x1<x0)) (gf (decide ((w.i64 (8*x1))<0))<|gd (idx (w.i64 (x3.1+x1)) x2.Mem.length)<|again x0 (w.i64 (x1+1)) ({x2 with Mem:=(x2.Mem.set (Int.toNat (w.i64 (x3.1+x1))) (w.u8 (shr .u32 x3.2.2.1 (w.i64 (8*x1)))))}:aa) x3)<|some (1,aA.dv x2 [])
def a2Y:Nat→Fn' OR [pI,pI,aD,kR]:=lpG (a8n N)
theorem c9d:LEok Q a9J (bn f268) f268.ntmps 1 (0,mkM [pI,pI,aD,kR] [(1,[aD])] (a2Y N N)):=bU aq 268 b6K (b9E N)
def b0T (x0:bv) (x1:aa):OR:=bi (x0.2.1 != 1) (bi (x0.2.1 != 2) (bi (x0.2.1 != 4) (some (0,aA.dv x1 []))<|bi (decide (x0.1<0)) (some (0,aA.dv x1 []))<|bi (decide (x0.1>4294967295)) (some (0,aA.dv x1 []))<|on1 (iI N x0.2.1 (w.u32 x0.1) (len x1.Mem))<|gg [pI]<|λ(x2:Int)=>bi (x2 != 0) (some (0,aA.dv x1 []))<|onA 1 (a2Y N N x0.2.1 0 x1 x0)<|gg [aD]<|λ(x3:aa)=>some (0,aA.dv x3 []))<|bi (decide (x0.1<0)) (some (0,aA.dv x1 []))<|bi (decide (x0.1>4294967295)) (some (0,aA.dv x1 []))<|on1 (iI N x0.2.1 (w.u32 x0.1) (len x1.Mem))<|gg [pI]<|λ(x4:Int)=>bi (x4 != 0) (some (0,aA.dv x1 []))<|onA 1 (a2Y N N x0.2.1 0 x1 x0)<|gg [aD]<|λ(x5:aa)=>some (0,aA.dv x5 []))<|bi (decide (x0.1<0)) (some (0,aA.dv x1 []))<|bi (decide (x0.1>4294967295)) (some (0,aA.dv x1 []))<|on1 (iI N x0.2.1 (w.u32 x0.1) (len x1.Mem))<|gg [pI]<|λ(x6:Int)=>bi (x6 != 0) (some (0,aA.dv x1 []))<|onA 1 (a2Y N N x0.2.1 0 x1 x0)<|gg [aD]<|λ(x7:aa)=>some (0,aA.dv x7 [])
def c2s:CE:=(c1n,mkF [kR,aD] [aD] (b0T N))
theorem d2g:CEok Q (c2s N):=fn_L aq f268 a9J (b9E N) (aR (c9d N))
def c1F:CS:=⟨194,235,⟨[.one (.p 0 0 Kb),.agg [.d tB,.d tI,.d tI,.d tI,.d tW,.d tI,.d tI,.d tI]],[q_8]⟩,[],false,[q_8]⟩
def b4z (x0:am) (x1:aa):OR:=on1 (b0T N (x0.2.2.1,(x0.2.2.2.1,(x0.2.2.2.2.1,()))) x1)<|gg [aD]<|λ(x2:aa)=>gd (rm x2.A2 [(x0.2.2.1,(x0.2.2.2.1,(x0.2.2.2.2.1,())))] 24)<|bi (decide ((len x2.B0)>0)) (gd (sb 1 (len x2.B0))<|some (0,aA.dv ({x2 with B0:=(List.drop 1 x2.B0),A2:=(x2.A2++[(x0.2.2.1,(x0.2.2.2.1,(x0.2.2.2.2.1,())))])}:aa) []))<|some (0,aA.dv ({x2 with A2:=(x2.A2++[(x0.2.2.1,(x0.2.2.2.1,(x0.2.2.2.2.1,())))])}:aa) [])
def c0Z:CE:=(c1F,mkF [a3C,aD] [aD] (b4z N))
theorem d1S:CEok Q (c0Z N):=fn_K aq f235 ⟨[((2,5),c1n)],[],[33],[],[((2,5),[(0,0)])]⟩ (aR (d2g N))
def c0E:CS:=⟨195,295,⟨[.one (.d tI)],[]⟩,[.one (.d tB)],true,[]⟩
def b4O (N:Nat) (x0:Int):OR:=bi (decide (x0≥26)) (some (0,gB.dv (decide (x0≤30)) []))<|some (0,gB.dv false [])
def c1Y:CE:=(c0E,mkF [pI] [pB] (b4O N))
theorem d2d:CEok Q (c1Y N):=fn_K aq f295 ⟨[],[],[5],[],[]⟩ bA
def c5m:CS:=⟨196,269,⟨[.one (.d (.sl tU)),.one (.d tI),.one (.d tW)],[]⟩,[.one (.d tW)],true,[]⟩
def b9n:LS:=⟨⟨[.one (.d (.sl tU)),.one (.d tI),.one (.d tW),.no,.no,.no,.no,.no,.one (.d tW)]++nos 14++[.one (.d tI),.one (.d tI)]++nos 19,[]⟩,[(1,⟨[.no,.one (.d tI)]++nos 6++[.one (.d tW)]++nos 35,[]⟩)]⟩
def b2f:Hi:=⟨[((1,1),a3v),((2,1),c0E),((2,8),a6S),((10,2),b5Q)],[(0,b9n)],[15,22,25],[],[]⟩
theorem c1c:AllP (CEok Q) [a3w N,c1Y N,a7b N,b6d N]:=bh (a4A N) (bP (d2d N) (a9u N) (c3T N))
def a4V (N:Nat) (again:Fn' OR [pD (.sl tU),pI,pW,pW,pI,pI]) (x0:List Int) (x1 x2 x3 x4 x5:Int):OR:=bi (decide (x5<x4)) (gd (idx (w.i64 ((w.i64 x2)+x5)) x0.length)<|gf (decide ((w.i64 (8*x5))<0))<|again x0 x1 x2 (fS .u32 x3 (shl .u32 (w.u32 (x0.getD (Int.toNat (w.i64 ((w.i64 x2)+x5))) 0)) (w.i64 (8*x5)))) x4 (w.i64 (x5+1)))<|some (1,gI.dv x1 (gW.dv x3 []))
def a2H:Nat→Fn' OR [pD (.sl tU),pI,pW,pW,pI,pI]:=lpG (a4V N)
theorem d0b:LEok Q b2f (bn f269) f269.ntmps 0 (0,mkM [pD (.sl tU),pI,pW,pW,pI,pI] [(1,[pI,pW])] (a2H N N)):=bU aq 269 b9n (c1c N)
def a9Z (x0:List Int) (x1 x2:Int):OR:=on1 (jF N x1)<|gg [pI]<|λ(x3:Int)=>on1 (b4O N x1)<|gg [pB]<|λ(x4:Bool)=>bi (!x4) (some (0,gW.dv 0 []))<|on1 (iI N x3 x2 (len x0))<|gg [pI]<|λ(x5:Int)=>bi (x5 != 0) (some (0,gW.dv 0 []))<|onA 1 (a2H N N x0 x1 x2 0 x3 0)<|gg [pI,pW]<|λ(x6 x7:Int)=>on1 (b3J N x6 x7)<|gg [pW]<|λ(x8:Int)=>some (0,gW.dv x8 [])
def c4y:CE:=(c5m,mkF [pD (.sl tU),pI,pW] [pW] (a9Z N))
theorem d4Q:CEok Q (c4y N):=fn_L aq f269 b2f (c1c N) (aR (d0b N))
def c5f:CS:=⟨197,236,⟨[.one (.p 0 0 Kb),.agg [.d tB,.d tI,.d tI,.d tI,.d tW,.d tI,.d tI,.d tI]],[q_8]⟩,[],false,[q_8]⟩
def b0b (x0:am) (x1:aa):OR:=bi (decide (x0.2.2.1≥0)) (bi (decide (x0.2.2.1≤4294967295)) (on1 (a9Z N x1.Mem x0.2.1 (w.u32 x0.2.2.1))<|gg [pW]<|λ(x2:Int)=>bi (decide (x0.2.2.2.2.2.2.1<0)) (on1 (kj N x1.B9 x0.2.2.2.2.2.2.2.1 x2)<|gg [pD (.sl bB),pB]<|λ(x3:List aO) (x4:Bool)=>some (0,aA.dv ({x1 with B9:=x3}:aa) []))<|bi (decide (x0.2.2.2.2.2.2.1≥1)) (bi (decide (x0.2.2.2.2.2.2.1≤15)) (gd (idx x0.2.2.2.2.2.2.1 16)<|gd (idx x0.2.2.2.2.2.2.1 16)<|some (0,aA.dv ({x1 with A:={x1.A with B1:=(x1.A.B1.set x0.2.2.2.2.2.2.1.toNat x2),A8:=(x1.A.A8.set x0.2.2.2.2.2.2.1.toNat (w.i64 (x1.A1+1)))}}:aa) []))<|some (0,aA.dv x1 []))<|some (0,aA.dv x1 []))<|bi (decide (x0.2.2.2.2.2.2.1<0)) (on1 (kj N x1.B9 x0.2.2.2.2.2.2.2.1 0)<|gg [pD (.sl bB),pB]<|λ(x5:List aO) (x6:Bool)=>some (0,aA.dv ({x1 with B9:=x5}:aa) []))<|bi (decide (x0.2.2.2.2.2.2.1≥1)) (bi (decide (x0.2.2.2.2.2.2.1≤15)) (gd (idx x0.2.2.2.2.2.2.1 16)<|gd (idx x0.2.2.2.2.2.2.1 16)<|some (0,aA.dv ({x1 with A:={x1.A with B1:=(x1.A.B1.set x0.2.2.2.2.2.2.1.toNat 0),A8:=(x1.A.A8.set x0.2.2.2.2.2.2.1.toNat (w.i64 (x1.A1+1)))}}:aa) []))<|some (0,aA.dv x1 []))<|some (0,aA.dv x1 []))<|bi (decide (x0.2.2.2.2.2.2.1<0)) (on1 (kj N x1.B9 x0.2.2.2.2.2.2.2.1 0)<|gg [pD (.sl bB),pB]<|λ(x7:List aO) (x8:Bool)=>some (0,aA.dv ({x1 with B9:=x7}:aa) []))<|bi (decide (x0.2.2.2.2.2.2.1≥1)) (bi (decide (x0.2.2.2.2.2.2.1≤15)) (gd (idx x0.2.2.2.2.2.2.1 16)<|gd (idx x0.2.2.2.2.2.2.1 16)<|some (0,aA.dv ({x1 with A:={x1.A with B1:=(x1.A.B1.set x0.2.2.2.2.2.2.1.toNat 0),A8:=(x1.A.A8.set x0.2.2.2.2.2.2.1.toNat (w.i64 (x1.A1+1)))}}:aa) []))<|some (0,aA.dv x1 []))<|some (0,aA.dv x1 [])
def c5Q:CE:=(c5f,mkF [a3C,aD] [aD] (b0b N))
theorem d5s:CEok Q (c5Q N):=fn_K aq f236 ⟨[((3,9),c5m),((5,8),b7e)],[],[8,12,23,41,45],[],[]⟩ (dD (d4Q N) (c5g N))
def c7v:CS:=⟨198,168,⟨[.one (.p 0 0 Kb)],[q_1]⟩,[],false,[q_1]⟩
def c1o:LS:=⟨⟨[.one (.p 0 0 Kb),.no,.one (.o cC),.no,.no,.no,.no,.no,.one (.d (.sl cC)),.one (.d tI),.one (.d tI)]++nos 30,[q_8]⟩,[(1,⟨[.one (.p 0 0 Kb),.no,.one (.o cC)]++nos 38,[q_8]⟩)]⟩
def b4T:Hi:=⟨[((8,2),c1F),((9,2),c5f)],[(0,c1o)],[11,16,23,25],[],[]⟩
theorem c4l:AllP (CEok Q) [c0Z N,c5Q N]:=dD (d1S N) (d5s N)
def a6p (again:Fn' OR [pD (.sl cC),pD (.sl cC),pI,pI,aD]) (x0 x1:List am) (x2 x3:Int) (x4:aa):OR:=bi (decide (x3<x2)) (gd (idx x3 x1.length)<|bi (decide ((x1.getD x3.toNat am.z).2.2.2.2.2.1>0)) (bi ((w.i64 ((x1.getD x3.toNat am.z).2.2.2.2.2.1-1))==0) (bi ((x1.getD x3.toNat am.z).1) (on1 (b4z N ((x1.getD x3.toNat am.z).1,((x1.getD x3.toNat am.z).2.1,((x1.getD x3.toNat am.z).2.2.1,((x1.getD x3.toNat am.z).2.2.2.1,((x1.getD x3.toNat am.z).2.2.2.2.1,((w.i64 ((x1.getD x3.toNat am.z).2.2.2.2.2.1-1)),(x1.getD x3.toNat am.z).2.2.2.2.2.2)))))) x4)<|gg [aD]<|λ(x5:aa)=>again x0 x1 x2 (w.i64 (x3+1)) x5)<|on1 (b0b N ((x1.getD x3.toNat am.z).1,((x1.getD x3.toNat am.z).2.1,((x1.getD x3.toNat am.z).2.2.1,((x1.getD x3.toNat am.z).2.2.2.1,((x1.getD x3.toNat am.z).2.2.2.2.1,((w.i64 ((x1.getD x3.toNat am.z).2.2.2.2.2.1-1)),(x1.getD x3.toNat am.z).2.2.2.2.2.2)))))) x4)<|gg [aD]<|λ(x6:aa)=>again x0 x1 x2 (w.i64 (x3+1)) x6)<|gd (rm x0 [((x1.getD x3.toNat am.z).1,((x1.getD x3.toNat am.z).2.1,((x1.getD x3.toNat am.z).2.2.1,((x1.getD x3.toNat am.z).2.2.2.1,((x1.getD x3.toNat am.z).2.2.2.2.1,((w.i64 ((x1.getD x3.toNat am.z).2.2.2.2.2.1-1)),(x1.getD x3.toNat am.z).2.2.2.2.2.2))))))] 64)<|again (x0++[((x1.getD x3.toNat am.z).1,((x1.getD x3.toNat am.z).2.1,((x1.getD x3.toNat am.z).2.2.1,((x1.getD x3.toNat am.z).2.2.2.1,((x1.getD x3.toNat am.z).2.2.2.2.1,((w.i64 ((x1.getD x3.toNat am.z).2.2.2.2.2.1-1)),(x1.getD x3.toNat am.z).2.2.2.2.2.2))))))]) x1 x2 (w.i64 (x3+1)) x4)<|gd (rm x0 [(x1.getD x3.toNat am.z)] 64)<|again (x0++[(x1.getD x3.toNat am.z)]) x1 x2 (w.i64 (x3+1)) x4)<|some (1,(gD (.sl cC)).dv x0 (aA.dv x4 []))
def a2j:Nat→Fn' OR [pD (.sl cC),pD (.sl cC),pI,pI,aD]:=lpG (a6p N)
theorem d2R:LEok Q b4T (bn f168) f168.ntmps 1 (0,mkM [pD (.sl cC),pD (.sl cC),pI,pI,aD] [(1,[pD (.sl cC),aD])] (a2j N N)):=bU aq 168 c1o (c4l N)
def b7x (x0:aa):OR:=onA 1 (a2j N N ([]:List am) x0.A0 (len x0.A0) 0 x0)<|gg [pD (.sl cC),aD]<|λ(x1:List am) (x2:aa)=>some (0,aA.dv ({x2 with A0:=x1}:aa) [])
def c6U:CE:=(c7v,mkF [aD] [aD] (b7x N))
theorem d7y:CEok Q (c6U N):=fn_L aq f168 b4T (c4l N) (aR (d2R N))
def c0o:CS:=⟨199,270,⟨[.one (.d (.sl tI)),.one (.d tI),.one (.d tI)],[]⟩,[.one (.d tI)],true,[]⟩
def b0h (N:Nat) (x0:List Int) (x1 x2:Int):OR:=bi ((len x0)==0) (some (0,gI.dv 0 []))<|bi (decide (x1<0)) (some (0,gI.dv 0 []))<|bi (decide (x2<1)) (some (0,gI.dv 0 []))<|gf (decide ((len x0)=0))<|gd (idx (Int.tmod x1 (len x0)) x0.length)<|gf (decide (x2=0))<|some (0,gI.dv (Int.tmod (cG .i64 (x0.getD (Int.toNat (Int.tmod x1 (len x0))) 0) 1073741823) x2) [])
def c0x:CE:=(c0o,mkF [pD (.sl tI),pI,pI] [pI] (b0h N))
theorem c7k:CEok Q (c0x N):=fn_K aq f270 ⟨[],[],[10,14,17],[],[]⟩ bA
def c4S:CS:=⟨200,238,⟨[.agg [.d (.sl tI),.d (.sl tI)],.one (.d tI),.one (.d tI)],[]⟩,[.one (.d tI)],true,[]⟩
def b8G (x0:bH) (x1 x2:Int):OR:=on1 (b0h N x0.B5 x1 x2)<|gg [pI]<|λ(x3:Int)=>some (0,gI.dv x3 [])
def c4V:CE:=(c4S,mkF [eH,pI,pI] [pI] (b8G N))
theorem d4y:CEok Q (c4V N):=fn_K aq f238 ⟨[((1,4),c0o)],[],[],[],[]⟩ (aR (c7k N))
def c7H:CS:=⟨201,239,⟨[.agg [.d (.sl tI),.d (.sl tI)],.one (.d tI),.one (.d tI)],[]⟩,[.one (.d tI)],true,[]⟩
def b7n (x0:bH) (x1 x2:Int):OR:=on1 (b0h N x0.B6 x1 x2)<|gg [pI]<|λ(x3:Int)=>some (0,gI.dv (w.i64 (1+x3)) [])
def c8G:CE:=(c7H,mkF [eH,pI,pI] [pI] (b7n N))
theorem d7I:CEok Q (c8G N):=fn_K aq f239 ⟨[((1,4),c0o)],[],[],[],[]⟩ (aR (c7k N))
def c4d:CS:=⟨202,237,⟨[.one (.d tI),.one (.d tI)],[]⟩,[.one (.d tI)],true,[]⟩
def b8s (N:Nat) (x0 x1:Int):OR:=bi (decide (x0<0)) (some (0,gI.dv 0 []))<|bi (decide (x1<1)) (some (0,gI.dv 0 []))<|gf (decide ((4:Int)=(0:Int)))<|gf (decide (x1=0))<|some (0,gI.dv (Int.tmod (w.i64 (Int.tdiv x0 4)) x1) [])
def c4f:CE:=(c4d,mkF [pI,pI] [pI] (b8s N))
theorem d3Q:CEok Q (c4f N):=fn_K aq f237 ⟨[],[],[7,10],[],[]⟩ bA
def c1I:CS:=⟨203,169,⟨[.agg q_5,.agg [.d (.sl tI),.d (.sl tI)],.one (.p 0 0 Kb),.one (.d tI)],[q_1]⟩,[],false,[q_1]⟩
def b7u:LS:=⟨⟨[.no,.no,.one (.p 0 0 Kb),.one (.d tI),.one (.p 1 0 Ki),.one (.p 2 0 [1,1]),.no,.no,.one (.o tI)]++nos 6++[.one (.hd 0 23),.one (.d tI),.one (.d tI)]++nos 70,[q_1,q_5,[.d (.sl tI),.d (.sl tI)]]⟩,[(0,⟨nos 88,[q_1]⟩),(1,⟨[.no,.no,.one (.p 0 0 Kb),.no,.one (.p 1 0 Ki),.one (.p 2 0 [1,1]),.no,.no,.one (.o tI)]++nos 79,[q_1,q_5,[.d (.sl tI),.d (.sl tI)]]⟩)]⟩
def a9B:Hi:=⟨[((5,4),c4d),((13,7),c4S),((15,15),c7H)],[(0,b7u)],[18,28,31,34,40,44],[],[]⟩
theorem b9d:AllP (CEok Q) [c4f N,c4V N,c8G N]:=bP (d3Q N) (d4y N) (d7I N)
def a2V (again:Fn' OR [pI,pD (.sl tI),pI,pI,aD,bE,eH]) (x0:Int) (x1:List Int) (x2 x3:Int) (x4:aa) (x5:ay) (x6:bH):OR:=bi (decide (x3<x2)) (gd (idx x3 x4.A0.length)<|on1 (b8s N ((x4.A0.getD x3.toNat am.z).2.2.1) x5.B2)<|gg [pI]<|λ(x7:Int)=>bi (x7 != x0) (again x0 x1 x2 (w.i64 (x3+1)) x4 x5 x6)<|bi (decide ((x4.A0.getD x3.toNat am.z).2.2.2.2.2.1>0)) (some (0,aA.dv x4 []))<|bi ((x4.A0.getD x3.toNat am.z).2.2.2.2.2.1==0) (gd (rm x1 [x3] 8)<|again x0 (x1++[x3]) x2 (w.i64 (x3+1)) x4 x5 x6)<|again x0 x1 x2 (w.i64 (x3+1)) x4 x5 x6)<|some (1,(gD (.sl tI)).dv x1 (aA.dv x4 (cM.dv x5 (a1P.dv x6 []))))
def a1q:Nat→Fn' OR [pI,pD (.sl tI),pI,pI,aD,bE,eH]:=lpG (a2V N)
theorem c8l:LEok Q a9B (bn f169) f169.ntmps 1 (0,mkM [pI,pD (.sl tI),pI,pI,aD,bE,eH] [(0,[aD]),(1,[pD (.sl tI),aD,bE,eH])] (a1q N N)):=bU aq 169 b7u (b9d N)
def a7K (x0:ay) (x1:bH) (x2:Int) (x3:aa):OR:=onB 0 1 (a1q N N x2 ([]:List Int) (len x3.A0) 0 x3 x0 x1) (gg [aD]<|λ(x4:aa)=>some (0,aA.dv x4 []))<|gg [pD (.sl tI),aD,bE,eH]<|λ(x5:List Int) (x6:aa) (x7:ay) (x8:bH)=>bi ((len x5)==0) (some (0,aA.dv x6 []))<|bi (decide ((len x5)>1)) (on1 (b8G N x8 x6.B5 (len x5))<|gg [pI]<|λ(x9:Int)=>gd (idx x9 x5.length)<|on1 (b7n N x8 x6.B6 x7.C4)<|gg [pI]<|λ(x10:Int)=>gd (idx (x5.getD x9.toNat 0) x6.A0.length)<|some (0,aA.dv ({x6 with A0:=(x6.A0.set (x5.getD x9.toNat 0).toNat ((x6.A0.getD (x5.getD x9.toNat 0).toNat am.z).1,((x6.A0.getD (x5.getD x9.toNat 0).toNat am.z).2.1,((x6.A0.getD (x5.getD x9.toNat 0).toNat am.z).2.2.1,((x6.A0.getD (x5.getD x9.toNat 0).toNat am.z).2.2.2.1,((x6.A0.getD (x5.getD x9.toNat 0).toNat am.z).2.2.2.2.1,(x10,(x6.A0.getD (x5.getD x9.toNat 0).toNat am.z).2.2.2.2.2.2))))))),B6:=(w.i64 (x6.B6+1)),B5:=(w.i64 (x6.B5+1))}:aa) []))<|gd (idx 0 x5.length)<|on1 (b7n N x8 x6.B6 x7.C4)<|gg [pI]<|λ(x11:Int)=>gd (idx (x5.getD 0 0) x6.A0.length)<|some (0,aA.dv ({x6 with A0:=(x6.A0.set (x5.getD 0 0).toNat ((x6.A0.getD (x5.getD 0 0).toNat am.z).1,((x6.A0.getD (x5.getD 0 0).toNat am.z).2.1,((x6.A0.getD (x5.getD 0 0).toNat am.z).2.2.1,((x6.A0.getD (x5.getD 0 0).toNat am.z).2.2.2.1,((x6.A0.getD (x5.getD 0 0).toNat am.z).2.2.2.2.1,(x11,(x6.A0.getD (x5.getD 0 0).toNat am.z).2.2.2.2.2.2))))))),B6:=(w.i64 (x6.B6+1))}:aa) [])
def c1L:CE:=(c1I,mkF [bE,eH,pI,aD] [aD] (a7K N))
theorem d2X:CEok Q (c1L N):=fn_L aq f169 a9B (b9d N) (aR (c8l N))
def c5c:CS:=⟨204,109,⟨[.agg q_5,.agg [.d (.sl tI),.d (.sl tI)],.one (.p 0 0 Kb)],[q_1]⟩,[],false,[q_1]⟩
def b9K:LS:=⟨⟨[.no,.no,.one (.p 0 0 Kb),.one (.p 1 0 Ki),.one (.p 2 0 [1,1])]++nos 23++[.one (.d tI),.one (.d tI)]++nos 8,[q_1,q_5,[.d (.sl tI),.d (.sl tI)]]⟩,[(1,⟨nos 38,[q_1]⟩)]⟩
def b1K:Hi:=⟨[((2,1),c7v),((6,4),c1I)],[(0,b9K)],[10,15,20,24,30],[],[]⟩
theorem c0R:AllP (CEok Q) [c6U N,c1L N]:=dD (d7y N) (d2X N)
def a5a (again:Fn' OR [pI,pI,aD,bE,eH]) (x0 x1:Int) (x2:aa) (x3:ay) (x4:bH):OR:=bi (decide (x1<x0)) (on1 (a7K N x3 x4 x1 x2)<|gg [aD]<|λ(x5:aa)=>again x0 (w.i64 (x1+1)) x5 x3 x4)<|some (1,aA.dv x2 [])
def a2N:Nat→Fn' OR [pI,pI,aD,bE,eH]:=lpG (a5a N)
theorem c9P:LEok Q b1K (bn f109) f109.ntmps 1 (0,mkM [pI,pI,aD,bE,eH] [(1,[aD])] (a2N N N)):=bU aq 109 b9K (c0R N)
def a9Y (x0:ay) (x1:bH) (x2:aa):OR:=bi (decide (x0.B2<1)) (some (0,aA.dv x2 []))<|bi (decide (x0.B2>16)) (some (0,aA.dv x2 []))<|bi (decide (x0.C4<1)) (some (0,aA.dv x2 []))<|bi (decide (x0.C4>1000)) (some (0,aA.dv x2 []))<|on1 (b7x N x2)<|gg [aD]<|λ(x3:aa)=>onA 1 (a2N N N x0.B2 0 x3 x0 x1)<|gg [aD]<|λ(x4:aa)=>some (0,aA.dv x4 [])
def c5k:CE:=(c5c,mkF [bE,eH,aD] [aD] (a9Y N))
theorem d6A:CEok Q (c5k N):=fn_L aq f109 b1K (c0R N) (aR (c9P N))
def b9m:CS:=⟨205,240,⟨[.agg [.d tB,.d tI,.d tI,.d tI,.d tW,.d tI,.d tI,.d tI],.one (.p 0 0 [1,1,1,1,1])],[[.d tI,.d tI,.d tI,.d tB,.d tW]]⟩,[.one (.d tB)],true,[[.d tI,.d tI,.d tI,.d tB,.d tW]]⟩
def a6s (x0:am) (x1:aF):OR:=bi (!x0.1) (on1 (a7c N x0.2.2.1 x0.2.2.2.1 x1.1 x1.2.1)<|gg [pB]<|λ(x2:Bool)=>some (0,gB.dv x2 (eG.dv x1 [])))<|some (0,gB.dv false (eG.dv x1 []))
def b9v:CE:=(b9m,mkF [a3C,cY] [pB,cY] (a6s N))
theorem c9L:CEok Q (b9v N):=fn_K aq f240 ⟨[((1,12),b0D)],[],[7],[],[]⟩ (aR (b7v N))
def a4k:CS:=⟨206,261,⟨[.one (.d (.sl cC)),.one (.f 240 [⟨0,0,[1,1,1,1,1]⟩])],[[.d tI,.d tI,.d tI,.d tB,.d tW]]⟩,[.one (.d tI)],true,[[.d tI,.d tI,.d tI,.d tB,.d tW]]⟩
def a3z:LS:=⟨⟨[.one (.d (.sl cC)),.one (.f 240 [⟨0,0,[1,1,1,1,1]⟩]),.no,.no,.no,.no,.no,.one (.d tI),.one (.d tI)]++nos 10,[[.d tI,.d tI,.d tI,.d tB,.d tW]]⟩,[(0,⟨[.no,.no,.no,.no,.one (.d tI)]++nos 14,[[.d tI,.d tI,.d tI,.d tB,.d tW]]⟩),(1,⟨nos 19,[[.d tI,.d tI,.d tI,.d tB,.d tW]]⟩)]⟩
def a1x:Hi:=⟨[((4,5),b9m)],[(0,a3z)],[9,16],[],[]⟩
theorem a3L:AllP (CEok Q) [b9v N]:=aR (c9L N)
def a0N (again:Fn' OR [pD (.sl cC),pI,pI,cY]) (x0:List am) (x1 x2:Int) (x3:aF):OR:=bi (decide (x2<x1)) (gd (idx x2 x0.length)<|on1 (a6s N (x0.getD x2.toNat am.z) x3)<|gg [pB,cY]<|λ(x4:Bool) (x5:aF)=>bi x4 (some (0,gI.dv x2 (eG.dv x5 [])))<|again x0 x1 (w.i64 (x2+1)) x5)<|some (1,eG.dv x3 [])
def kv:Nat→Fn' OR [pD (.sl cC),pI,pI,cY]:=lpG (a0N N)
theorem a8L:LEok Q a1x (bn f261) f261.ntmps 1 (0,mkM [pD (.sl cC),pI,pI,cY] [(0,[pI,cY]),(1,[cY])] (kv N N)):=bU aq 261 a3z (a3L N)
def a1F (x0:List am) (x1:aF):OR:=onB 0 1 (kv N N x0 (len x0) 0 x1) (gg [pI,cY]<|λ(x2:Int) (x3:aF)=>some (0,gI.dv x2 (eG.dv x3 [])))<|gg [cY]<|λ(x4:aF)=>some (0,gI.dv (-1:Int) (eG.dv x4 []))
def a4i:CE:=(a4k,mkF [pD (.sl cC),cY] [pI,cY] (a1F N))
theorem a9x:CEok Q (a4i N):=fn_L aq f261 a1x (a3L N) (aR (a8L N))
def a3k:CS:=⟨207,217,⟨[.one (.d (.sl cC)),.one (.f 240 [⟨0,0,[1,1,1,1,1]⟩])],[[.d tI,.d tI,.d tI,.d tB,.d tW]]⟩,[.one (.d tB)],true,[[.d tI,.d tI,.d tI,.d tB,.d tW]]⟩
def a0U (x0:List am) (x1:aF):OR:=on1 (a1F N x0 x1)<|gg [pI,cY]<|λ(x2:Int) (x3:aF)=>some (0,gB.dv (decide (x2≥0)) (eG.dv x3 []))
def a3q:CE:=(a3k,mkF [pD (.sl cC),cY] [pB,cY] (a0U N))
theorem a7N:CEok Q (a3q N):=fn_K aq f217 ⟨[((1,2),a4k)],[],[],[],[]⟩ (aR (a9x N))
def c4m:CS:=⟨208,170,⟨[.agg q_5,.one (.r Ka)],[]⟩,[.one (.d tB)],true,[]⟩
def b0a (x0:ay) (x1:aa):OR:=bi ((len x1.B0)==0) (some (0,gB.dv false []))<|gd (idx 0 x1.B0.length)<|bi ((x1.B0.getD 0 aF.z).2.2.2.1) (some (0,gB.dv false []))<|bi ((len x1.C9)==0) (some (0,gB.dv false []))<|bi (decide ((len x1.A0)≥x0.B7)) (some (0,gB.dv false []))<|gd (idx 0 x1.B0.length)<|bi (x1.A9.C2 != 0) (bi (decide ((x1.B0.getD 0 aF.z).2.2.1≥x1.A9.C5)) (some (0,gB.dv false []))<|on1 (a0U N x1.A0 (x1.B0.getD 0 aF.z))<|gg [pB,cY]<|λ(x2:Bool) (x3:aF)=>some (0,gB.dv (!x2) []))<|on1 (a0U N x1.A0 (x1.B0.getD 0 aF.z))<|gg [pB,cY]<|λ(x4:Bool) (x5:aF)=>some (0,gB.dv (!x4) [])
def c4s:CE:=(c4m,mkF [bE,d9] [pB] (b0a N))
theorem d6C:CEok Q (c4s N):=fn_K aq f170 ⟨[((6,5),a3k)],[],[12,21,29,38,51,60],[],[]⟩ (aR (a7N N))
def d1c:CS:=⟨209,171,⟨[.one (.d tW),.one (.d tI)],[]⟩,[.one (.d tW)],true,[]⟩
def b1j (N:Nat) (x0 x1:Int):OR:=bi (x1==1) (some (0,gW.dv (cG .u32 x0 255) []))<|bi (x1==2) (some (0,gW.dv (cG .u32 x0 65535) []))<|bi (x1==4) (some (0,gW.dv x0 []))<|some (0,gW.dv 0 [])
def d1H:CE:=(d1c,mkF [pW,pI] [pW] (b1j N))
theorem e0O:CEok Q (d1H N):=fn_K aq f171 ⟨[],[],[6,10,14],[],[]⟩ bA
def c7K:CS:=⟨210,172,⟨[.one (.d tI)],[]⟩,[.one (.d tI)],true,[]⟩
def b3i (N:Nat) (x0:Int):OR:=bi (x0==1) (some (0,gI.dv 33 []))<|bi (x0==2) (some (0,gI.dv 32 []))<|some (0,gI.dv 31 [])
def c7L:CE:=(c7K,mkF [pI] [pI] (b3i N))
theorem d8j:CEok Q (c7L N):=fn_K aq f172 ⟨[],[],[4,6],[],[]⟩ bA
def c1V:CS:=⟨211,110,⟨[.agg q_5,.one (.p 0 0 Kb)],[q_1]⟩,[],false,[q_1]⟩
def g7R (x1:aa):=(x1.B0.set 0 ((x1.B0.getD 0 aF.z).1,((x1.B0.getD 0 aF.z).2.1,((x1.B0.getD 0 aF.z).2.2.1,(true,(x1.B0.getD 0 aF.z).2.2.2.2)))))
def jp (x1:aa) (x3:Int):=(List.set (g7R x1) 0 ((List.getD (g7R x1) 0 aF.z).1,((List.getD (g7R x1) 0 aF.z).2.1,((List.getD (g7R x1) 0 aF.z).2.2.1,((List.getD (g7R x1) 0 aF.z).2.2.2.1,(x3,()))))))
def a7V (x0:ay) (x1:aa):OR:=on1 (b0a N x0 x1)<|gg [pB]<|λ(x2:Bool)=>bi (!x2) (some (0,aA.dv x1 []))<|gd (idx 0 x1.B0.length)<|gd (idx 0 x1.C9.length)<|on1 (b1j N (x1.C9.getD 0 0) ((x1.B0.getD 0 aF.z).2.1))<|gg [pW]<|λ(x3:Int)=>gd (sb 1 (len x1.C9))<|on1 (b3i N ((List.getD (jp x1 x3) 0 aF.z).2.1))<|gg [pI]<|λ(x4:Int)=>gd (rm x1.A0 [(true,(x4,((List.getD (jp x1 x3) 0 aF.z).1,((List.getD (jp x1 x3) 0 aF.z).2.1,((List.getD (jp x1 x3) 0 aF.z).2.2.2.2.1,bv.z)))))] 64)<|some (0,aA.dv ({x1 with C9:=(List.drop 1 x1.C9),B0:=(jp x1 x3),A0:=(x1.A0++[(true,(x4,((List.getD (jp x1 x3) 0 aF.z).1,((List.getD (jp x1 x3) 0 aF.z).2.1,((List.getD (jp x1 x3) 0 aF.z).2.2.2.2.1,bv.z)))))])}:aa) [])
def c2k:CE:=(c1V,mkF [bE,aD] [aD] (a7V N))
theorem d2z:CEok Q (c2k N):=fn_K aq f110 ⟨[((1,2),c4m),((3,12),d1c),((5,9),c7K)],[],[8],[],[]⟩ (bP (d6C N) (e0O N) (d8j N))
def b5N:CS:=⟨213,183,⟨[.agg [.d (.sl aN),.d (.ar 16 tI)],.one (.r Ka),.one (.r Ke),.one (.d tB)],[]⟩,[.one (.d tB)],true,[]⟩
def b3l (x0:ao) (x1:aa) (x2:aI) (x3:Bool):OR:=on1 (kg N x0 x3 x2.A6)<|gg [ci,pI,pB]<|λ(x4:ak) (x5:Int) (x6:Bool)=>bi x2.A4 (some (0,gB.dv true []))<|on1 (kt N x1 x5)<|gg [pB]<|λ(x7:Bool)=>some (0,gB.dv x7 [])
def c4o:CE:=(b5N,mkF [bq,d9,c8H,pB] [pB] (b3l N))
theorem d4U:CEok Q (c4o N):=fn_K aq f183 ⟨[((1,6),a6i),((2,7),a7g)],[],[27],[],[]⟩ (dD (b1k N) (b0C N))
def b9D:CS:=⟨214,185,⟨[.agg [.d tI,.d tI,.d tI,.d tB,.d tW],.one (.p 0 0 [1])],[q_9]⟩,[.one (.d tB)],true,[q_9]⟩
def b1W (N:Nat) (x0:aF) (x1:aa):OR:=bi (x1.A9.C2==0) (some (0,gB.dv true (il.dv x1 [])))<|some (0,gB.dv (decide (x0.2.2.1<x1.A9.C5)) (il.dv x1 []))
def b8V:CE:=(b9D,mkF [cY,d9] [pB,d9] (b1W N))
theorem c9X:CEok Q (b8V N):=fn_K aq f185 ⟨[],[],[10],[],[]⟩ bA
def a6x:CS:=⟨215,245,⟨[.one (.d (.sl bN)),.one (.f 185 [⟨0,0,[1]⟩])],[q_9]⟩,[.one (.d tI)],true,[q_9]⟩
def a5m:LS:=⟨⟨[.one (.d (.sl bN)),.one (.f 185 [⟨0,0,[1]⟩]),.no,.no,.no,.no,.no,.one (.d tI),.one (.d tI)]++nos 10,[q_9]⟩,[(0,⟨[.no,.no,.no,.no,.one (.d tI)]++nos 14,[q_9]⟩),(1,⟨nos 19,[q_9]⟩)]⟩
def a1U:Hi:=⟨[((4,5),b9D)],[(0,a5m)],[9,16],[],[]⟩
theorem a5B:AllP (CEok Q) [b8V N]:=aR (c9X N)
def a1p (again:Fn' OR [pD (.sl bN),pI,pI,d9]) (x0:List aF) (x1 x2:Int) (x3:aa):OR:=bi (decide (x2<x1)) (gd (idx x2 x0.length)<|on1 (b1W N (x0.getD x2.toNat aF.z) x3)<|gg [pB,d9]<|λ(x4:Bool) (x5:aa)=>bi x4 (some (0,gI.dv x2 (il.dv x5 [])))<|again x0 x1 (w.i64 (x2+1)) x5)<|some (1,il.dv x3 [])
def ku:Nat→Fn' OR [pD (.sl bN),pI,pI,d9]:=lpG (a1p N)
theorem b1d:LEok Q a1U (bn f245) f245.ntmps 1 (0,mkM [pD (.sl bN),pI,pI,d9] [(0,[pI,d9]),(1,[d9])] (ku N N)):=bU aq 245 a5m (a5B N)
def a3Z (x0:List aF) (x1:aa):OR:=onB 0 1 (ku N N x0 (len x0) 0 x1) (gg [pI,d9]<|λ(x2:Int) (x3:aa)=>some (0,gI.dv x2 (il.dv x3 [])))<|gg [d9]<|λ(x4:aa)=>some (0,gI.dv (-1:Int) (il.dv x4 []))
def a6u:CE:=(a6x,mkF [pD (.sl bN),d9] [pI,d9] (a3Z N))
theorem b2F:CEok Q (a6u N):=fn_L aq f245 a1U (a5B N) (aR (b1d N))
def a4n:CS:=⟨216,184,⟨[.one (.d (.sl bN)),.one (.f 185 [⟨0,0,[1]⟩])],[q_9]⟩,[.one (.d tB)],true,[q_9]⟩
def a1N (x0:List aF) (x1:aa):OR:=on1 (a3Z N x0 x1)<|gg [pI,d9]<|λ(x2:Int) (x3:aa)=>some (0,gB.dv (decide (x2≥0)) (il.dv x3 []))
def a4u:CE:=(a4n,mkF [pD (.sl bN),d9] [pB,d9] (a1N N))
theorem b0i:CEok Q (a4u N):=fn_K aq f184 ⟨[((1,2),a6x)],[],[],[],[]⟩ (aR (b2F N))
def c5p:CS:=⟨217,114,⟨[.agg [.d (.sl aN),.d (.ar 16 tI)],.one (.r Ka)],[]⟩,[.one (.d tB)],true,[]⟩
def c3l (x0:ao) (x1:aa):OR:=bi (decide ((len x1.A0)>0)) (some (0,gB.dv false []))<|on1 (b3l N x0 x1 x1.A false)<|gg [pB]<|λ(x2:Bool)=>bi (!x2) (some (0,gB.dv false []))<|on1 (b3l N x0 x1 x1.E true)<|gg [pB]<|λ(x3:Bool)=>bi (!x3) (some (0,gB.dv false []))<|on1 (a1N N x1.B0 x1)<|gg [pB,d9]<|λ(x4:Bool) (x5:aa)=>some (0,gB.dv (!x4) [])
def c5B:CE:=(c5p,mkF [bq,d9] [pB] (c3l N))
theorem d5T:CEok Q (c5B N):=fn_K aq f114 ⟨[((1,12),b5N),((1,21),b5N),((3,5),a4n)],[],[11,20,28],[],[]⟩ (dD (d4U N) (b0i N))
def c7j:CS:=⟨220,55,⟨[.agg [.d (.sl aK),.d tI,.d (.sl tU)]],[]⟩,[.one (.d tB)],true,[]⟩
def c8s (x0:aw):OR:=on1 (d6y N x0)<|gg [pB]<|λ(x1:Bool)=>bi x1 (some (0,gB.dv (decide (x0.B8≤300)) []))<|some (0,gB.dv false [])
def c8O:CE:=(c7j,mkF [bm] [pB] (c8s N))
theorem d6V:CEok Q (c8O N):=fn_K aq f55 ⟨[((1,1),d3z)],[],[5],[],[]⟩ (aR (d9a N))
variable (N:Nat)
end
end Go.Proofs.Zz
