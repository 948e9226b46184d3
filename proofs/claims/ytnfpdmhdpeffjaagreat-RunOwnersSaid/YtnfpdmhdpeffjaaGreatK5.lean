import Derived.Test.YtnfpdmhdpeffjaaGreatK4
set_option linter.unusedSimpArgs false
set_option linter.unusedVariables false
/- What functions of the program compute, as plain functions. -/
set_option maxRecDepth 100000
namespace Go.Proofs.Zz
noncomputable section
open Go Go.Proofs.Tryz
variable (N:Nat)
def c5R:CS:=⟨150,148,⟨[.agg [.d (.sl a0n),.d (.ar 16 tI)],.one (.p 0 0 [1,16,16,1,1,1,1,1,1,16,16,1,1,1,1,1,1,1,1,1,1,1,1,1,1,1,1,1,1,1,1,1]),.one (.p 0 1 [16,16,1,1,1,1,1,1]),.one (.d tB)],[q_1]⟩,[.agg q_2,.one (.d tI),.one (.d tB)],false,[q_1]⟩
def b7O (x0:a0g) (x1:Bool) (x2:a0b):OR:=bi x2.A.Halted (some (0,a0G.dv (a0h.z) (gI.dv 0 (gB.dv false (a0c.dv x2 [])))))<|bi (decide (x2.A.Wait > x2.Cycle)) (some (0,a0G.dv (a0h.z) (gI.dv 0 (gB.dv false (a0c.dv x2 [])))))<|on1 (a6v N x0 x1 x2.A.Pos)<|gg [a0L,pB]<|fun (x3:a0C) (x4:Bool)=>on1 (a6o N x0 x1 x3)<|gg [a0E,pI,pB]<|fun (x5:a0h) (x6:Int) (x7:Bool)=>bi x4 (gd (idx x3.Block x0.Blocks.length)<|on1 (a6z N 4 x6 ((x0.Blocks.getD x3.Block.toNat a0x.z).2.1) ({ x2 with A:={ x2.A with Pos:=x3 } }:a0b))<|gg [a0d]<|fun (x8:a0b)=>bi x7 (on1 (a2B N x8 x6)<|gg [pB]<|fun (x9:Bool)=>some (0,a0G.dv x5 (gI.dv x6 (gB.dv (!x9) (a0c.dv x8 [])))))<|some (0,a0G.dv x5 (gI.dv x6 (gB.dv false (a0c.dv x8 [])))))<|bi x7 (on1 (a2B N ({ x2 with A:={ x2.A with Pos:=x3 } }:a0b) x6)<|gg [pB]<|fun (x10:Bool)=>some (0,a0G.dv x5 (gI.dv x6 (gB.dv (!x10) (a0c.dv ({ x2 with A:={ x2.A with Pos:=x3 } }:a0b) [])))))<|some (0,a0G.dv x5 (gI.dv x6 (gB.dv false (a0c.dv ({ x2 with A:={ x2.A with Pos:=x3 } }:a0b) []))))
def c4r:CE:=(c5R,mkF [a0m,pB,a0d] [a0E,pI,pB,a0d] (b7O N))
theorem d3R:CEok Q (c4r N):=fn_K a0r f148 ⟨[((3,6),a8i),((5,3),a6i),((7,9),a6j),((8,6),a7g)],[],[20,30,54,68],[],[]⟩ (g7p (b2u N) (g7s (b1k N) (a8P N) (b0C N)))
def b6i:CS:=⟨151,107,⟨[.one (.d tI),.one (.d tI),.one (.d tI)],[]⟩,[.one (.d tB)],true,[]⟩
def a9E (N:Nat) (x0 x1 x2:Int):OR:=bi (decide (x0≥x1)) (bi (decide (x2≤0)) (some (0,gB.dv true []))<|some (0,gB.dv (decide ((w.u64 ((w.u64 x0) - (w.u64 x1)))≥(w.u64 x2))) []))<|bi (decide (x2 < 0)) (some (0,gB.dv (decide ((w.u64 ((w.u64 x1) - (w.u64 x0)))≤(w.u64 (0 - (w.u64 x2))))) []))<|some (0,gB.dv false [])
def b7c:CE:=(b6i,mkF [pI,pI,pI] [pB] (a9E N))
theorem c8X:CEok Q (b7c N):=fn_K a0r f107 ⟨[],[],[9,12,24],[],[]⟩ g7q
def c1k:CS:=⟨152,48,⟨[.agg q_5,.agg [.d (.sl a0n),.d (.ar 16 tI)],.agg q_0],[]⟩,[.one (.d tB)],true,[]⟩
def b5c (x0:a0f) (x1:a0g) (x2:a0b):OR:=bi x2.E.Halted (some (0,gB.dv false []))<|on1 (a6o N x1 true x2.E.Pos)<|gg [a0E,pI,pB]<|fun (x3:a0h) (x4:Int) (x5:Bool)=>on1 (a6o N x1 false x2.A.Pos)<|gg [a0E,pI,pB]<|fun (x6:a0h) (x7:Int) (x8:Bool)=>bi x5 (bi x8 (on1 (a9E N x7 x4 x0.Slip)<|gg [pB]<|fun (x9:Bool)=>some (0,gB.dv x9 []))<|some (0,gB.dv false []))<|some (0,gB.dv false [])
def c0M:CE:=(c1k,mkF [a0l,a0m,a0d] [pB] (b5c N))
theorem d2r:CEok Q (c0M N):=fn_K a0r f48 ⟨[((3,4),a6i),((4,4),a6i),((5,9),b6i)],[],[15,35,38],[],[]⟩ (g7x (b1k N) (c8X N))
def b5h:CS:=⟨153,150,⟨[.one (.p 0 1 [16,16,1,1,1,1,1,1]),.one (.d tI),.one (.d tW),.one (.d tI)],[q_1]⟩,[],false,[q_1]⟩
def b0W (N:Nat) (x0 x1 x2:Int) (x3:a0b):OR:=bi (decide (x0≥1)) (bi (decide (x0≤15)) (gd (idx x0 16)<|gd (idx x0 16)<|some (0,a0c.dv ({ x3 with A:={ x3.A with Regs:=(x3.A.Regs.set x0.toNat x1),Ready:=(x3.A.Ready.set x0.toNat x2) } }:a0b) []))<|some (0,a0c.dv x3 []))<|some (0,a0c.dv x3 [])
def b5e:CE:=(b5h,mkF [pI,pW,pI,a0d] [a0d] (b0W N))
theorem c0L:CEok Q (b5e N):=fn_K a0r f150 ⟨[],[],[10,13],[],[]⟩ g7q
def a2w:CS:=⟨154,151,⟨[.one (.p 0 1 [16,16,1,1,1,1,1,1])],[q_1]⟩,[],false,[q_1]⟩
def a1i (N:Nat) (x0:a0b):OR:=some (0,a0c.dv ({ x0 with A:={ x0.A with Pos:={ x0.A.Pos with Index:=(w.i64 (x0.A.Pos.Index+1)) },Done:=(w.i64 (x0.A.Done+1)) } }:a0b) [])
def a2v:CE:=(a2w,mkF [a0d] [a0d] (a1i N))
theorem a3Q:CEok Q (a2v N):=fn_K a0r f151 ⟨[],[],[],[],[]⟩ g7q
def c5K:CS:=⟨155,149,⟨[.agg q_5,.one (.p 0 0 [1,16,16,1,1,1,1,1,1,16,16,1,1,1,1,1,1,1,1,1,1,1,1,1,1,1,1,1,1,1,1,1]),.one (.p 0 1 [16,16,1,1,1,1,1,1]),.agg q_2,.one (.d tI)],[q_1]⟩,[],false,[q_1]⟩
def b3q (x0:a0f) (x1:a0h) (x2:Int) (x3:a0b):OR:=on1 (a2s N x3.A x1.2.1.2.2.1)<|gg [pW]<|fun (x4:Int)=>on1 (a2s N x3.A x1.2.1.2.2.2.1)<|gg [pW]<|fun (x5:Int)=>on1 (d5P N x1.2.1 x4 x5)<|gg [pW,pB]<|fun (x6:Int) (x7:Bool)=>bi (!x7) (on1 (a6z N 3 x2 x1.2.2.2.1 x3)<|gg [a0d]<|fun (x8:a0b)=>some (0,a0c.dv x8 []))<|on1 (b0K N x0 x1.2.1.1)<|gg [pI]<|fun (x9:Int)=>on1 (b0W N x1.2.1.2.1 x6 (w.i64 (x3.Cycle+x9)) x3)<|gg [a0d]<|fun (x10:a0b)=>on1 (a1i N x10)<|gg [a0d]<|fun (x11:a0b)=>some (0,a0c.dv x11 [])
def c5w:CE:=(c5K,mkF [a0l,a0E,pI,a0d] [a0d] (b3q N))
theorem d4Z:CEok Q (c5w N):=fn_K a0r f149 ⟨[((1,6),a2d),((1,11),a2d),((1,12),d3b),((3,4),a6j),((4,13),b4B),((4,15),b5h),((5,1),a2w)],[],[29],[],[]⟩ (g7p (a6h N) (g7p (d9b N) (g7p (a8P N) (g7s (c2y N) (c0L N) (a3Q N)))))
def a5v:CS:=⟨156,227,⟨[.one (.p 0 0 [1,1,1,1,1,1,1,1,1,1,1,1,1,16,1,1,1,1,1,1,1,1,1,1,1])],[q_7,q_1]⟩,[.one (.d tI),.one (.d tB)],false,[q_7,q_1]⟩
def a2J (x0:a0f) (x1:a0g) (x2:a0h) (x3:Int) (x4:a0b):OR:=on1 (a2s N x4.A x2.2.1.2.2.1)<|gg [pW]<|fun (x5:Int)=>on1 (c2M N x2.2.1.2.2.2.2.1)<|gg [pW]<|fun (x6:Int)=>on1 (a3m N x2.2.1.1)<|gg [pI]<|fun (x7:Int)=>on1 (a1s N x7 (w.u32 (x5+x6)) (len x4.Mem))<|gg [pI]<|fun (x8:Int)=>bi (x8 != 0) (on1 (a6z N x8 x3 x2.2.2.2.1 x4)<|gg [a0d]<|fun (x9:a0b)=>some (0,gI.dv 0 (gB.dv false (a0D.dv x0 (a0H.dv x1 (a0G.dv x2 (gI.dv x3 (a0c.dv x9 []))))))))<|some (0,gI.dv (w.i64 (w.u32 (x5+x6))) (gB.dv true (a0D.dv x0 (a0H.dv x1 (a0G.dv x2 (gI.dv x3 (a0c.dv x4 [])))))))
def a5t:CE:=(a5v,mkF [a0l,a0m,a0E,pI,a0d] [pI,pB,a0l,a0m,a0E,pI,a0d] (a2J N))
theorem a9c:CEok Q (a5t N):=fn_K a0r f227 ⟨[((2,8),a2d),((2,11),c2c),((3,2),a3v),((3,12),a6S),((5,14),a6j)],[],[39],[],[]⟩ (g7p (a6h N) (g7p (d4z N) (g7s (a4A N) (a9u N) (a8P N))))
def b2v:CS:=⟨157,271,⟨[.one (.d tI),.one (.d tI),.one (.d tI)],[]⟩,[.one (.d tB)],true,[]⟩
def a8G (N:Nat) (x0 x1 x2:Int):OR:=bi (decide (x0≤x2)) (some (0,gB.dv (decide ((w.u64 ((w.u64 x2) - (w.u64 x0))) < (w.u64 x1))) []))<|some (0,gB.dv false [])
def b9p:CE:=(b2v,mkF [pI,pI,pI] [pB] (a8G N))
theorem c9Y:CEok Q (b9p N):=fn_K a0r f271 ⟨[],[],[10],[],[]⟩ g7q
def b0D:CS:=⟨158,241,⟨[.one (.d tI),.one (.d tI),.one (.d tI),.one (.d tI)],[]⟩,[.one (.d tB)],true,[]⟩
def a7c (x0 x1 x2 x3:Int):OR:=bi (decide (x1≥1)) (bi (decide (x3≥1)) (on1 (a8G N x0 x1 x2)<|gg [pB]<|fun (x4:Bool)=>bi x4 (some (0,gB.dv true []))<|on1 (a8G N x2 x3 x0)<|gg [pB]<|fun (x5:Bool)=>some (0,gB.dv x5 []))<|some (0,gB.dv false []))<|some (0,gB.dv false [])
def b0j:CE:=(b0D,mkF [pI,pI,pI,pI] [pB] (a7c N))
theorem b7v:CEok Q (b0j N):=fn_K a0r f241 ⟨[((1,10),b2v),((1,15),b2v)],[],[11,15,20],[],[]⟩ (g7o (c9Y N))
def c5v:CS:=⟨159,228,⟨[.one (.d (.sl a0t)),.one (.d tI),.one (.d tI)],[]⟩,[.agg [.d tI,.d tI,.d tI,.d tB,.d tW],.one (.d tB)],false,[]⟩
def b9H:LS:=⟨⟨[.one (.d (.sl a0t)),.one (.d tI),.one (.d tI),.no,.no,.no,.one (.p 0 0 [1,1,1,1,1]),.no,.one (.d tI)]++nos 25,[[.d tI,.d tI,.d tI,.d tB,.d tW]]⟩,[(0,⟨nos 6++[.one (.p 0 0 [1,1,1,1,1]),.one (.d tB)]++nos 26,[[.d tI,.d tI,.d tI,.d tB,.d tW]]⟩),(1,⟨nos 6++[.one (.p 0 0 [1,1,1,1,1])]++nos 27,[[.d tI,.d tI,.d tI,.d tB,.d tW]]⟩)]⟩
def b1n:Hi:=⟨[((4,12),b0D)],[(0,b9H)],[13,28],[],[]⟩
theorem c1h:AllP (CEok Q) [b0j N]:=g7o (b7v N)
def a9O (again:Fn' OR [pD (.sl a0t),pI,pI,pI,a0B]) (x0:List a0a) (x1 x2 x3:Int) (x4:a0a):OR:=bi (decide (x3≥0)) (gd (idx x3 x0.length)<|gd (idx x3 x0.length)<|on1 (a7c N ((x0.getD x3.toNat a0a.z).1) ((x0.getD x3.toNat a0a.z).2.1) x1 x2)<|gg [pB]<|fun (x5:Bool)=>bi x5 (gd (idx x3 x0.length)<|some (0,gB.dv true (a0M.dv (x0.getD x3.toNat a0a.z) [])))<|again x0 x1 x2 (w.i64 (x3 - 1)) x4)<|some (1,a0M.dv x4 [])
def a9s:Nat→Fn' OR [pD (.sl a0t),pI,pI,pI,a0B]:=lpG (a9O N)
theorem c9F:LEok Q b1n (bodOf f228) f228.ntmps 0 (0,mkM [pD (.sl a0t),pI,pI,pI,a0B] [(0,[pB,a0B]),(1,[a0B])] (a9s N N)):=g7r a0r 228 b9H (c1h N)
def b8i (x0:List a0a) (x1 x2:Int):OR:=onB 0 1 (a9s N N x0 x1 x2 (w.i64 ((len x0) - 1)) (a0a.z)) (gg [pB,a0B]<|fun (x3:Bool) (x4:a0a)=>some (0,a0M.dv x4 (gB.dv x3 [])))<|gg [a0B]<|fun (x5:a0a)=>some (0,a0M.dv (a0a.z) (gB.dv false []))
def c5O:CE:=(c5v,mkF [pD (.sl a0t),pI,pI] [a0B,pB] (b8i N))
theorem d5U:CEok Q (c5O N):=fn_L a0r f228 b1n (c1h N) (g7o (c9F N))
def b5Q:CS:=⟨160,265,⟨[.one (.d tI),.one (.d tW)],[]⟩,[.one (.d tW)],true,[]⟩
def b3J (N:Nat) (x0 x1:Int):OR:=bi (x0 == 27) (some (0,gW.dv (w.u32 (w.i32 (w.i16 x1))) []))<|bi (x0 == 29) (some (0,gW.dv (w.u32 (w.i32 (w.i8 x1))) []))<|some (0,gW.dv x1 [])
def b6d:CE:=(b5Q,mkF [pI,pW] [pW] (b3J N))
theorem c3T:CEok Q (b6d N):=fn_K a0r f265 ⟨[],[],[6,12],[],[]⟩ g7q
def c4k:CS:=⟨161,230,⟨[.agg [.d tI,.d tI,.d tI,.d tB,.d tW],.one (.d tI),.one (.d tI)],[]⟩,[.one (.d tW),.one (.d tB)],false,[]⟩
def b8E (x0:a0a) (x1 x2:Int):OR:=on1 (a3m N x1)<|gg [pI]<|fun (x3:Int)=>bi (decide (x1 < 26)) (some (0,gW.dv 0 (gB.dv false [])))<|bi (decide (x1 > 30)) (some (0,gW.dv 0 (gB.dv false [])))<|bi (!x0.2.2.2.1) (some (0,gW.dv 0 (gB.dv false [])))<|bi (x0.1 != x2) (some (0,gW.dv 0 (gB.dv false [])))<|bi (x0.2.1 != x3) (some (0,gW.dv 0 (gB.dv false [])))<|on1 (b3J N x1 x0.2.2.2.2.1)<|gg [pW]<|fun (x4:Int)=>some (0,gW.dv x4 (gB.dv true []))
def c5H:CE:=(c4k,mkF [a0B,pI,pI] [pW,pB] (b8E N))
theorem d4k:CEok Q (c5H N):=fn_K a0r f230 ⟨[((1,1),a3v),((4,3),b5Q)],[],[13,17,22,28,33],[],[]⟩ (g7x (a4A N) (c3T N))
def b7r:CS:=⟨162,292,⟨[.one (.d (.sl a0k)),.one (.d tI),.one (.d tI)],[]⟩,[.one (.o a0k),.one (.d tB)],false,[]⟩
def a9U (x0:List a0q) (x1 x2:Int):OR:=on1 (a1a N x0)<|gg [pD (.sl a0k)]<|fun (x3:List a0q)=>bi (decide ((len x0)≥x1)) (some (0,(gD (.sl a0k)).dv x3 (gB.dv false [])))<|gd (rm x3 [(x2,(false,(0,())))] 16)<|some (0,(gD (.sl a0k)).dv (x3++[(x2,(false,(0,())))]) (gB.dv true []))
def b6A:CE:=(b7r,mkF [pD (.sl a0k),pI,pI] [pD (.sl a0k),pB] (a9U N))
theorem c9t:CEok Q (b6A N):=fn_K a0r f292 ⟨[((1,1),a2p)],[],[14],[],[]⟩ (g7o (a3F N))
def a5r:CS:=⟨163,266,⟨[.one (.p 0 0 [1,1,1,1,1,1,1,1,1,1,1,1,1,16,1,1,1,1,1,1,1,1,1,1,1])],[q_7,q_1]⟩,[.one (.d tB)],true,[q_7,q_1]⟩
def a2R (x0:a0f) (x1:a0g) (x2:a0h) (x3:Int) (x4:a0b):OR:=on1 (a9U N x4.Ldq x0.Ldq x4.Tags)<|gg [pD (.sl a0k),pB]<|fun (x5:List a0q) (x6:Bool)=>bi x6 (some (0,gB.dv x6 (a0D.dv x0 (a0H.dv x1 (a0G.dv x2 (gI.dv x3 (a0c.dv ({ x4 with Ldq:=x5,Tags:=(w.i64 (x4.Tags+1)) }:a0b) [])))))))<|some (0,gB.dv x6 (a0D.dv x0 (a0H.dv x1 (a0G.dv x2 (gI.dv x3 (a0c.dv x4 []))))))
def a5q:CE:=(a5r,mkF [a0l,a0m,a0E,pI,a0d] [pB,a0l,a0m,a0E,pI,a0d] (a2R N))
theorem a9d:CEok Q (a5q N):=fn_K a0r f266 ⟨[((1,19),b7r)],[],[28],[],[]⟩ (g7o (c9t N))
def b9B:CS:=⟨164,294,⟨[.agg [.d tI,.d tB,.d tW],.one (.p 0 0 [1])],[[.d tI]]⟩,[.one (.d tB)],true,[[.d tI]]⟩
def b2q (N:Nat) (x0:a0q) (x1:Int):OR:=bi (x0.1 == x1) (some (0,gB.dv (!x0.2.1) (gI.dv x1 [])))<|some (0,gB.dv false (gI.dv x1 []))
def b9f:CE:=(b9B,mkF [e0u,pI] [pB,pI] (b2q N))
theorem c9Z:CEok Q (b9f N):=fn_K a0r f294 ⟨[],[],[8],[],[]⟩ g7q
def a6M:CS:=⟨165,293,⟨[.one (.d (.sl a0k)),.one (.f 294 [⟨0,0,[1]⟩])],[[.d tI]]⟩,[.one (.d tI)],true,[[.d tI]]⟩
def a5y:LS:=⟨⟨[.one (.d (.sl a0k)),.one (.f 294 [⟨0,0,[1]⟩]),.no,.no,.no,.no,.no,.one (.d tI),.one (.d tI)]++nos 10,[[.d tI]]⟩,[(0,⟨[.no,.no,.no,.no,.one (.d tI)]++nos 14,[[.d tI]]⟩),(1,⟨nos 19,[[.d tI]]⟩)]⟩
def a2h:Hi:=⟨[((4,5),b9B)],[(0,a5y)],[9,16],[],[]⟩
theorem a6t:AllP (CEok Q) [b9f N]:=g7o (c9Z N)
def a1W (again:Fn' OR [pD (.sl a0k),pI,pI,pI]) (x0:List a0q) (x1 x2 x3:Int):OR:=bi (decide (x2 < x1)) (gd (idx x2 x0.length)<|on1 (b2q N (x0.getD x2.toNat a0q.z) x3)<|gg [pB,pI]<|fun (x4:Bool) (x5:Int)=>bi x4 (some (0,gI.dv x2 (gI.dv x5 [])))<|again x0 x1 (w.i64 (x2+1)) x5)<|some (1,gI.dv x3 [])
def a1Y:Nat→Fn' OR [pD (.sl a0k),pI,pI,pI]:=lpG (a1W N)
theorem b2w:LEok Q a2h (bodOf f293) f293.ntmps 1 (0,mkM [pD (.sl a0k),pI,pI,pI] [(0,[pI,pI]),(1,[pI])] (a1Y N N)):=g7r a0r 293 a5y (a6t N)
def a4z (x0:List a0q) (x1:Int):OR:=onB 0 1 (a1Y N N x0 (len x0) 0 x1) (gg [pI,pI]<|fun (x2 x3:Int)=>some (0,gI.dv x2 (gI.dv x3 [])))<|gg [pI]<|fun (x4:Int)=>some (0,gI.dv (-1:Int) (gI.dv x4 []))
def a6N:CE:=(a6M,mkF [pD (.sl a0k),pI] [pI,pI] (a4z N))
theorem b3O:CEok Q (a6N N):=fn_L a0r f293 a2h (a6t N) (g7o (b2w N))
def b7e:CS:=⟨166,267,⟨[.one (.d (.sl a0k)),.one (.d tI),.one (.d tW)],[]⟩,[.one (.o a0k),.one (.d tB)],false,[]⟩
def a4T (x0:List a0q) (x1 x2:Int):OR:=on1 (a1a N x0)<|gg [pD (.sl a0k)]<|fun (x3:List a0q)=>on1 (a4z N x3 x1)<|gg [pI,pI]<|fun (x4 x5:Int)=>bi (decide (x4 < 0)) (some (0,(gD (.sl a0k)).dv x3 (gB.dv false [])))<|gd (idx x4 x3.length)<|gd (idx x4 (List.length (x3.set x4.toNat ((x3.getD x4.toNat a0q.z).1,(true,(x3.getD x4.toNat a0q.z).2.2)))))<|some (0,(gD (.sl a0k)).dv (List.set (x3.set x4.toNat ((x3.getD x4.toNat a0q.z).1,(true,(x3.getD x4.toNat a0q.z).2.2))) x4.toNat ((List.getD (x3.set x4.toNat ((x3.getD x4.toNat a0q.z).1,(true,(x3.getD x4.toNat a0q.z).2.2))) x4.toNat a0q.z).1,((List.getD (x3.set x4.toNat ((x3.getD x4.toNat a0q.z).1,(true,(x3.getD x4.toNat a0q.z).2.2))) x4.toNat a0q.z).2.1,(x2,())))) (gB.dv true []))
def b6O:CE:=(b7e,mkF [pD (.sl a0k),pI,pW] [pD (.sl a0k),pB] (a4T N))
theorem c5g:CEok Q (b6O N):=fn_K a0r f267 ⟨[((1,1),a2p),((2,2),a6M)],[],[16],[],[]⟩ (g7x (a3F N) (b3O N))
def b2S:CS:=⟨167,231,⟨[.one (.p 0 0 [1,1,1,1,1,1,1,1,1,1,1,1,1,16,1,1,1,1,1,1,1,1,1,1,1]),.one (.d tW)],[q_7,q_1]⟩,[],false,[q_7,q_1]⟩
def a7u (x0:Int) (x1:a0f) (x2:a0g) (x3:a0h) (x4:Int) (x5:a0b):OR:=bi (x3.1 == 2) (on1 (b0W N x3.2.1.2.1 x0 (w.i64 (x5.Cycle+1)) x5)<|gg [a0d]<|fun (x6:a0b)=>on1 (a1i N x6)<|gg [a0d]<|fun (x7:a0b)=>some (0,a0D.dv x1 (a0H.dv x2 (a0G.dv x3 (gI.dv x4 (a0c.dv x7 []))))))<|on1 (a2R N x1 x2 x3 x4 x5)<|gg [pB,a0l,a0m,a0E,pI,a0d]<|fun (x8:Bool) (x9:a0f) (x10:a0g) (x11:a0h) (x12:Int) (x13:a0b)=>bi (!x8) (some (0,a0D.dv x9 (a0H.dv x10 (a0G.dv x11 (gI.dv x12 (a0c.dv x13 []))))))<|on1 (a4T N x13.Ldq x5.Tags x0)<|gg [pD (.sl a0k),pB]<|fun (x14:List a0q) (x15:Bool)=>on1 (a1i N ({ x13 with Ldq:=x14 }:a0b))<|gg [a0d]<|fun (x16:a0b)=>some (0,a0D.dv x9 (a0H.dv x10 (a0G.dv x11 (gI.dv x12 (a0c.dv x16 [])))))
def b3a:CE:=(b2S,mkF [pW,a0l,a0m,a0E,pI,a0d] [a0l,a0m,a0E,pI,a0d] (a7u N))
theorem c3m:CEok Q (b3a N):=fn_K a0r f231 ⟨[((1,21),b5h),((3,1),a5r),((4,13),b7e),((5,6),a2w)],[],[10,42],[],[]⟩ (g7p (c0L N) (g7s (a9d N) (c5g N) (a3Q N)))
def b5z:CS:=⟨168,232,⟨[.one (.p 0 0 [1,1,1,1,1,1,1,1,1,1,1,1,1,16,1,1,1,1,1,1,1,1,1,1,1]),.one (.d tI)],[q_7,q_1]⟩,[],false,[q_7,q_1]⟩
def a8m (x0:Int) (x1:a0f) (x2:a0g) (x3:a0h) (x4:Int) (x5:a0b):OR:=on1 (a3m N x3.2.1.1)<|gg [pI]<|fun (x6:Int)=>bi (x3.1 == 3) (on1 (a2R N x1 x2 x3 x4 x5)<|gg [pB,a0l,a0m,a0E,pI,a0d]<|fun (x7:Bool) (x8:a0f) (x9:a0g) (x10:a0h) (x11:Int) (x12:a0b)=>bi (!x7) (some (0,a0D.dv x8 (a0H.dv x9 (a0G.dv x10 (gI.dv x11 (a0c.dv x12 []))))))<|gd (rm x12.Table [(false,(x3.2.1.1,(x0,(x6,(0,(0,((-1:Int),(x5.Tags,()))))))))] 64)<|on1 (a1i N ({ x12 with Table:=(x12.Table++[(false,(x3.2.1.1,(x0,(x6,(0,(0,((-1:Int),(x5.Tags,()))))))))]) }:a0b))<|gg [a0d]<|fun (x13:a0b)=>some (0,a0D.dv x8 (a0H.dv x9 (a0G.dv x10 (gI.dv x11 (a0c.dv x13 []))))))<|bi (decide (x3.2.1.2.1 > 0)) (bi (decide (x3.2.1.2.1 < 16)) (gd (idx x3.2.1.2.1 16)<|gd (rm x5.Table [(false,(x3.2.1.1,(x0,(x6,(0,(0,(x3.2.1.2.1,(0,()))))))))] 64)<|on1 (a1i N ({ x5 with A:={ x5.A with Ready:=(x5.A.Ready.set x3.2.1.2.1.toNat (-1:Int)) },Table:=(x5.Table++[(false,(x3.2.1.1,(x0,(x6,(0,(0,(x3.2.1.2.1,(0,()))))))))]) }:a0b))<|gg [a0d]<|fun (x14:a0b)=>some (0,a0D.dv x1 (a0H.dv x2 (a0G.dv x3 (gI.dv x4 (a0c.dv x14 []))))))<|gd (rm x5.Table [(false,(x3.2.1.1,(x0,(x6,(0,(0,(x3.2.1.2.1,(0,()))))))))] 64)<|on1 (a1i N ({ x5 with Table:=(x5.Table++[(false,(x3.2.1.1,(x0,(x6,(0,(0,(x3.2.1.2.1,(0,()))))))))]) }:a0b))<|gg [a0d]<|fun (x15:a0b)=>some (0,a0D.dv x1 (a0H.dv x2 (a0G.dv x3 (gI.dv x4 (a0c.dv x15 []))))))<|gd (rm x5.Table [(false,(x3.2.1.1,(x0,(x6,(0,(0,(x3.2.1.2.1,(0,()))))))))] 64)<|on1 (a1i N ({ x5 with Table:=(x5.Table++[(false,(x3.2.1.1,(x0,(x6,(0,(0,(x3.2.1.2.1,(0,()))))))))]) }:a0b))<|gg [a0d]<|fun (x16:a0b)=>some (0,a0D.dv x1 (a0H.dv x2 (a0G.dv x3 (gI.dv x4 (a0c.dv x16 [])))))
def b5s:CE:=(b5z,mkF [pI,a0l,a0m,a0E,pI,a0d] [a0l,a0m,a0E,pI,a0d] (a8m N))
theorem c6h:CEok Q (b5s N):=fn_K a0r f232 ⟨[((1,5),a3v),((4,1),a5r),((8,6),a2w)],[],[25,37,41,45],[],[]⟩ (g7s (a4A N) (a9d N) (a3Q N))
def b3A:CS:=⟨169,162,⟨[.one (.p 0 0 [1,1,1,1,1,1,1,1,1,1,1,1,1,16,1,1,1,1,1,1,1,1,1,1,1])],[q_7,q_1]⟩,[],false,[q_7,q_1]⟩
def a2o (x0:a0f) (x1:a0g) (x2:a0h) (x3:Int) (x4:a0b):OR:=on1 (a2J N x0 x1 x2 x3 x4)<|gg [pI,pB,a0l,a0m,a0E,pI,a0d]<|fun (x5:Int) (x6:Bool) (x7:a0f) (x8:a0g) (x9:a0h) (x10:Int) (x11:a0b)=>bi (!x6) (some (0,a0D.dv x7 (a0H.dv x8 (a0G.dv x9 (gI.dv x10 (a0c.dv x11 []))))))<|on1 (a3m N x9.2.1.1)<|gg [pI]<|fun (x12:Int)=>on1 (b8i N x11.Saq x5 x12)<|gg [a0B,pB]<|fun (x13:a0a) (x14:Bool)=>bi x14 (on1 (b8E N x13 x9.2.1.1 x5)<|gg [pW,pB]<|fun (x15:Int) (x16:Bool)=>bi x16 (on1 (a7u N x15 x7 x8 x9 x10 x11)<|gg [a0l,a0m,a0E,pI,a0d]<|fun (x17:a0f) (x18:a0g) (x19:a0h) (x20:Int) (x21:a0b)=>some (0,a0D.dv x17 (a0H.dv x18 (a0G.dv x19 (gI.dv x20 (a0c.dv x21 []))))))<|some (0,a0D.dv x7 (a0H.dv x8 (a0G.dv x9 (gI.dv x10 (a0c.dv x11 []))))))<|bi (decide ((len x11.Table) < x7.Flight)) (on1 (a8m N x5 x7 x8 x9 x10 x11)<|gg [a0l,a0m,a0E,pI,a0d]<|fun (x22:a0f) (x23:a0g) (x24:a0h) (x25:Int) (x26:a0b)=>some (0,a0D.dv x22 (a0H.dv x23 (a0G.dv x24 (gI.dv x25 (a0c.dv x26 []))))))<|some (0,a0D.dv x7 (a0H.dv x8 (a0G.dv x9 (gI.dv x10 (a0c.dv x11 [])))))
def b3F:CE:=(b3A,mkF [a0l,a0m,a0E,pI,a0d] [a0l,a0m,a0E,pI,a0d] (a2o N))
theorem c3H:CEok Q (b3F N):=fn_K a0r f162 ⟨[((0,1),a5v),((2,14),a3v),((2,15),c5v),((4,8),c4k),((6,2),b2S),((8,2),b5z)],[],[14,34,48,52],[],[]⟩ (g7p (a9c N) (g7p (a4A N) (g7p (d5U N) (g7s (d4k N) (c3m N) (c6h N)))))
def d0v:CS:=⟨170,233,⟨[.one (.d (.sl a0t)),.one (.d tI),.agg [.d tI,.d tI,.d tI,.d tB,.d tW]],[]⟩,[.one (.o a0t),.one (.d tB)],false,[]⟩
def c6E (x0:List a0a) (x1:Int) (x2:a0a):OR:=on1 (a1B N x0)<|gg [pD (.sl a0t)]<|fun (x3:List a0a)=>bi (decide ((len x0)≥x1)) (some (0,(gD (.sl a0t)).dv x3 (gB.dv false [])))<|gd (rm x3 [x2] 32)<|some (0,(gD (.sl a0t)).dv (x3++[x2]) (gB.dv true []))
def d0n:CE:=(d0v,mkF [pD (.sl a0t),pI,a0B] [pD (.sl a0t),pB] (c6E N))
theorem e0a:CEok Q (d0n N):=fn_K a0r f233 ⟨[((1,1),a5p)],[],[14],[],[]⟩ (g7o (a9g N))
def b1J:CS:=⟨171,163,⟨[.one (.p 0 0 [1,1,1,1,1,1,1,1,1,1,1,1,1,16,1,1,1,1,1,1,1,1,1,1,1])],[q_7,q_1]⟩,[],false,[q_7,q_1]⟩
def a3R (x0:a0f) (x1:a0g) (x2:a0h) (x3:Int) (x4:a0b):OR:=on1 (a2J N x0 x1 x2 x3 x4)<|gg [pI,pB,a0l,a0m,a0E,pI,a0d]<|fun (x5:Int) (x6:Bool) (x7:a0f) (x8:a0g) (x9:a0h) (x10:Int) (x11:a0b)=>bi (!x6) (some (0,a0D.dv x7 (a0H.dv x8 (a0G.dv x9 (gI.dv x10 (a0c.dv x11 []))))))<|on1 (a3m N x9.2.1.1)<|gg [pI]<|fun (x12:Int)=>on1 (c6E N x11.Saq x7.Saq (x5,(x12,(x10,(false,(0,()))))))<|gg [pD (.sl a0t),pB]<|fun (x13:List a0a) (x14:Bool)=>bi x14 (on1 (a1i N ({ x11 with Saq:=x13 }:a0b))<|gg [a0d]<|fun (x15:a0b)=>some (0,a0D.dv x7 (a0H.dv x8 (a0G.dv x9 (gI.dv x10 (a0c.dv x15 []))))))<|some (0,a0D.dv x7 (a0H.dv x8 (a0G.dv x9 (gI.dv x10 (a0c.dv x11 [])))))
def b1h:CE:=(b1J,mkF [a0l,a0m,a0E,pI,a0d] [a0l,a0m,a0E,pI,a0d] (a3R N))
theorem c1W:CEok Q (b1h N):=fn_K a0r f163 ⟨[((0,1),a5v),((2,19),a3v),((2,25),d0v),((5,6),a2w)],[],[11,41],[],[]⟩ (g7p (a9c N) (g7s (a4A N) (e0a N) (a3Q N)))
def b1t:CS:=⟨172,156,⟨[.agg [.d (.sl a0n),.d (.ar 16 tI)],.one (.p 0 0 [1,16,16,1,1,1,1,1,1,16,16,1,1,1,1,1,1,1,1,1,1,1,1,1,1,1,1,1,1,1,1,1]),.one (.p 0 1 [16,16,1,1,1,1,1,1]),.one (.d tB)],[q_1]⟩,[],false,[q_1]⟩
def a7P (x0:a0g) (x1:Bool) (x2:a0b):OR:=on1 (c2D N x0 x2.A.Pos x1)<|gg [a0L]<|fun (x3:a0C)=>bi x1 (some (0,a0c.dv ({ x2 with A:={ x2.A with Pos:=x3,Wait:=(w.i64 (x2.Cycle+2)),Done:=(w.i64 (x2.A.Done+1)) } }:a0b) []))<|some (0,a0c.dv ({ x2 with A:={ x2.A with Pos:=x3,Done:=(w.i64 (x2.A.Done+1)) } }:a0b) [])
def b1y:CE:=(b1t,mkF [a0m,pB,a0d] [a0d] (a7P N))
theorem b7A:CEok Q (b1y N):=fn_K a0r f156 ⟨[((1,7),c2J)],[],[18],[],[]⟩ (g7o (d0s N))
def a9j:CS:=⟨173,154,⟨[.agg [.d (.sl a0n),.d (.ar 16 tI)],.one (.p 0 0 [1,16,16,1,1,1,1,1,1,16,16,1,1,1,1,1,1,1,1,1,1,1,1,1,1,1,1,1,1,1,1,1]),.one (.p 0 1 [16,16,1,1,1,1,1,1]),.agg q_2,.one (.p 0 20 [1]),.one (.d tI)],[q_1]⟩,[],false,[q_1]⟩
def a2K (x0:a0g) (x1:a0h) (x2:Int) (x3:a0b):OR:=bi (decide ((len x3.Abq)≥x2)) (some (0,a0c.dv x3 []))<|on1 (a2s N x3.A x1.2.1.2.2.1)<|gg [pW]<|fun (x4:Int)=>on1 (a2s N x3.A x1.2.1.2.2.2.1)<|gg [pW]<|fun (x5:Int)=>on1 (b6n N x1.2.1.1 x4 x5)<|gg [pB]<|fun (x6:Bool)=>gd (rm x3.Abq [x6] 1)<|on1 (a7P N x0 x6 ({ x3 with Abq:=(x3.Abq++[x6]) }:a0b))<|gg [a0d]<|fun (x7:a0b)=>some (0,a0c.dv x7 [])
def a9k:CE:=(a9j,mkF [a0m,a0E,pI,a0d] [a0d] (a2K N))
theorem b8J:CEok Q (a9k N):=fn_K a0r f154 ⟨[((2,7),a2d),((2,12),a2d),((2,13),c0w),((4,4),b1t)],[],[18],[],[]⟩ (g7s (a6h N) (c8Q N) (b7A N))
def a8Y:CS:=⟨174,155,⟨[.agg [.d (.sl a0n),.d (.ar 16 tI)],.one (.p 0 0 [1,16,16,1,1,1,1,1,1,16,16,1,1,1,1,1,1,1,1,1,1,1,1,1,1,1,1,1,1,1,1,1]),.one (.p 0 1 [16,16,1,1,1,1,1,1]),.one (.p 0 21 [1])],[q_1]⟩,[],false,[q_1]⟩
def a2M (x0:a0g) (x1:a0b):OR:=bi ((len x1.Ebq) == 0) (some (0,a0c.dv x1 []))<|gd (idx 0 x1.Ebq.length)<|gd (sb 1 (len x1.Ebq))<|on1 (a7P N x0 (x1.Ebq.getD 0 false) ({ x1 with Ebq:=(List.drop 1 x1.Ebq) }:a0b))<|gg [a0d]<|fun (x2:a0b)=>some (0,a0c.dv x2 [])
def a9h:CE:=(a8Y,mkF [a0m,a0d] [a0d] (a2M N))
theorem b8H:CEok Q (a9h N):=fn_K a0r f155 ⟨[((4,4),b1t)],[],[13],[],[]⟩ (g7o (b7A N))
def b9x:CS:=⟨175,157,⟨[.one (.p 0 1 [16,16,1,1,1,1,1,1])],[q_1]⟩,[],false,[q_1]⟩
def b1F (N:Nat) (x0:a0b):OR:=some (0,a0c.dv ({ x0 with A:={ x0.A with Halted:=true,Done:=(w.i64 (x0.A.Done+1)) } }:a0b) [])
def b9C:CE:=(b9x,mkF [a0d] [a0d] (b1F N))
theorem c9E:CEok Q (b9C N):=fn_K a0r f157 ⟨[],[],[],[],[]⟩ g7q
def c5Y:CS:=⟨176,100,⟨[.agg q_5,.agg [.d (.sl a0n),.d (.ar 16 tI)],.one (.p 0 0 [1,16,16,1,1,1,1,1,1,16,16,1,1,1,1,1,1,1,1,1,1,1,1,1,1,1,1,1,1,1,1,1])],[q_1]⟩,[],false,[q_1]⟩
def b3K (x0:a0f) (x1:a0g) (x2:a0b):OR:=on1 (b7O N x1 false x2)<|gg [a0E,pI,pB,a0d]<|fun (x3:a0h) (x4:Int) (x5:Bool) (x6:a0b)=>bi (!x5) (some (0,a0c.dv x6 []))<|on1 (b5c N x0 x1 x6)<|gg [pB]<|fun (x7:Bool)=>bi x7 (some (0,a0c.dv x6 []))<|on1 (b3o N x6.A x3 x6.Cycle)<|gg [pB]<|fun (x8:Bool)=>bi (!x8) (some (0,a0c.dv x6 []))<|bi (x3.1 == 1) (on1 (b3q N x0 x3 x4 x6)<|gg [a0d]<|fun (x9:a0b)=>some (0,a0c.dv x9 []))<|bi (x3.1 == 2) (on1 (a2o N x0 x1 x3 x4 x6)<|gg [a0l,a0m,a0E,pI,a0d]<|fun (x10:a0f) (x11:a0g) (x12:a0h) (x13:Int) (x14:a0b)=>some (0,a0c.dv x14 []))<|bi (x3.1 == 3) (on1 (a2o N x0 x1 x3 x4 x6)<|gg [a0l,a0m,a0E,pI,a0d]<|fun (x15:a0f) (x16:a0g) (x17:a0h) (x18:Int) (x19:a0b)=>some (0,a0c.dv x19 []))<|bi (x3.1 == 4) (on1 (a3R N x0 x1 x3 x4 x6)<|gg [a0l,a0m,a0E,pI,a0d]<|fun (x20:a0f) (x21:a0g) (x22:a0h) (x23:Int) (x24:a0b)=>some (0,a0c.dv x24 []))<|bi (x3.1 == 5) (bi (decide ((len x6.Aeq) < x0.Aeq)) (on1 (a2s N x6.A x3.2.2.1)<|gg [pW]<|fun (x25:Int)=>gd (rm x6.Aeq [x25] 4)<|on1 (a1i N ({ x6 with Aeq:=(x6.Aeq++[x25]) }:a0b))<|gg [a0d]<|fun (x26:a0b)=>some (0,a0c.dv x26 []))<|some (0,a0c.dv x6 []))<|bi (x3.1 == 9) (on1 (a2K N x1 x3 x0.Abq x6)<|gg [a0d]<|fun (x27:a0b)=>some (0,a0c.dv x27 []))<|bi (x3.1 == 10) (on1 (a2M N x1 x6)<|gg [a0d]<|fun (x28:a0b)=>some (0,a0c.dv x28 []))<|bi (x3.1 == 11) (on1 (a7P N x1 true x6)<|gg [a0d]<|fun (x29:a0b)=>some (0,a0c.dv x29 []))<|bi (x3.1 == 12) (on1 (b1F N x6)<|gg [a0d]<|fun (x30:a0b)=>some (0,a0c.dv x30 []))<|some (0,a0c.dv x6 [])
def c4n:CE:=(c5Y,mkF [a0l,a0m,a0d] [a0d] (b3K N))
theorem d3P:CEok Q (c4n N):=fn_K a0r f100 ⟨[((2,3),c5R),((3,8),c1k),((3,19),b6m),((7,5),c5K),((10,1),b3A),((12,1),b1J),((15,8),a2d),((16,1),a2w),((18,9),a9j),((20,6),a8Y),((22,3),b1t),((24,1),b9x)],[],[24,32,43,53,61,66,70,79,95,107,116,122],[],[]⟩ (g7p (d3R N) (g7p (d2r N) (g7p (c4i N) (g7p (d4Z N) (g7p (c3H N) (g7p (c1W N) (g7p (a6h N) (g7p (a3Q N) (g7p (b8J N) (g7s (b8H N) (b7A N) (c9E N)))))))))))
end
end Go.Proofs.Zz

/- What functions of the program compute, as plain functions. -/
set_option maxRecDepth 100000
namespace Go.Proofs.Zz
noncomputable section
open Go Go.Proofs.Tryz
variable (N:Nat)
end
end Go.Proofs.Zz
