import Derived.Test.YtnfpdmhdpeffjaaGreatK3
set_option linter.unusedSimpArgs false
set_option linter.unusedVariables false
/- What functions of the program compute, as plain functions. -/
set_option maxRecDepth 100000
namespace Go.Proofs.Zz
noncomputable section
open Go Go.Proofs.Tryz
variable (N:Nat)
def a6i:CS:=⟨95,106,⟨[.agg [.d (.sl a0n),.d (.ar 16 tI)],.one (.d tB),.agg [.d tI,.d tI,.d tI]],[]⟩,[.agg q_2,.one (.d tI),.one (.d tB)],false,[]⟩
def a6o (x0:a0g) (x1:Bool) (x2:a0C):OR:=on1 (a6v N x0 x1 x2)<|gg [a0L,pB]<|fun (x3:a0C) (x4:Bool)=>bi x4 (on1 (b0G N x0 x3)<|gg [pI]<|fun (x5:Int)=>some (0,a0G.dv (a0h.z) (gI.dv x5 (gB.dv false []))))<|bi (decide (x3.Index < 0)) (on1 (b0G N x0 x3)<|gg [pI]<|fun (x6:Int)=>some (0,a0G.dv (a0h.z) (gI.dv x6 (gB.dv false []))))<|on1 (a7Z N x0 x1 x3.Block)<|gg [pD (.sl a0i)]<|fun (x7:List a0h)=>gd (idx x3.Index x7.length)<|some (0,a0G.dv (x7.getD x3.Index.toNat a0h.z) (gI.dv (w.i64 (x3.Base+(x7.getD x3.Index.toNat a0h.z).2.2.2.2.1)) (gB.dv true [])))
def a8M:CE:=(a6i,mkF [a0m,pB,a0L] [a0E,pI,pB] (a6o N))
theorem b1k:CEok Q (a8M N):=fn_K a0r f106 ⟨[((1,3),a8i),((3,3),b3R),((4,4),a9F)],[],[19,23],[],[]⟩ (g7s (b2u N) (b9U N) (c0W N))
def a7g:CS:=⟨96,221,⟨[.one (.r (.pair tI (.pair (.pair (.ar 16 tW) (.pair (.ar 16 tI) (.pair (.pair tI (.pair tI (.pair tI .unit))) (.pair tI (.pair tB (.pair tI .unit)))))) (.pair (.pair (.ar 16 tW) (.pair (.ar 16 tI) (.pair (.pair tI (.pair tI (.pair tI .unit))) (.pair tI (.pair tB (.pair tI .unit)))))) (.pair (.sl a0k) (.pair (.sl tW) (.pair (.sl tW) (.pair (.sl tB) (.pair (.sl tB) (.pair (.sl a0t) (.pair (.sl a0j) (.pair (.sl tU) (.pair (.sl a0Q) (.pair (.pair tI (.pair tI (.pair tI .unit))) (.pair tI (.pair tI (.pair tI .unit))))))))))))))))),.one (.d tI)],[]⟩,[.one (.d tB)],true,[]⟩
def a2B (N:Nat) (x0:a0b) (x1:Int):OR:=bi (x0.Trap.Kind != 0) (some (0,gB.dv (decide (x1≥x0.Trap.Step)) []))<|some (0,gB.dv false [])
def a6Q:CE:=(a7g,mkF [a0W,pI] [pB] (a2B N))
theorem b0C:CEok Q (a6Q N):=fn_K a0r f221 ⟨[],[],[11],[],[]⟩ g7q
def c4P:CS:=⟨97,148,⟨[.agg [.d (.sl a0n),.d (.ar 16 tI)],.one (.p 0 0 [1,16,16,1,1,1,1,1,1,16,16,1,1,1,1,1,1,1,1,1,1,1,1,1,1,1,1,1,1,1,1,1]),.one (.p 0 9 [16,16,1,1,1,1,1,1]),.one (.d tB)],[q_1]⟩,[.agg q_2,.one (.d tI),.one (.d tB)],false,[q_1]⟩
def b7V (x0:a0g) (x1:Bool) (x2:a0b):OR:=bi x2.E.Halted (some (0,a0G.dv (a0h.z) (gI.dv 0 (gB.dv false (a0c.dv x2 [])))))<|bi (decide (x2.E.Wait > x2.Cycle)) (some (0,a0G.dv (a0h.z) (gI.dv 0 (gB.dv false (a0c.dv x2 [])))))<|on1 (a6v N x0 x1 x2.E.Pos)<|gg [a0L,pB]<|fun (x3:a0C) (x4:Bool)=>on1 (a6o N x0 x1 x3)<|gg [a0E,pI,pB]<|fun (x5:a0h) (x6:Int) (x7:Bool)=>bi x4 (gd (idx x3.Block x0.Blocks.length)<|on1 (a6z N 4 x6 ((x0.Blocks.getD x3.Block.toNat a0x.z).2.1) ({ x2 with E:={ x2.E with Pos:=x3 } }:a0b))<|gg [a0d]<|fun (x8:a0b)=>bi x7 (on1 (a2B N x8 x6)<|gg [pB]<|fun (x9:Bool)=>some (0,a0G.dv x5 (gI.dv x6 (gB.dv (!x9) (a0c.dv x8 [])))))<|some (0,a0G.dv x5 (gI.dv x6 (gB.dv false (a0c.dv x8 [])))))<|bi x7 (on1 (a2B N ({ x2 with E:={ x2.E with Pos:=x3 } }:a0b) x6)<|gg [pB]<|fun (x10:Bool)=>some (0,a0G.dv x5 (gI.dv x6 (gB.dv (!x10) (a0c.dv ({ x2 with E:={ x2.E with Pos:=x3 } }:a0b) [])))))<|some (0,a0G.dv x5 (gI.dv x6 (gB.dv false (a0c.dv ({ x2 with E:={ x2.E with Pos:=x3 } }:a0b) []))))
def c4C:CE:=(c4P,mkF [a0m,pB,a0d] [a0E,pI,pB,a0d] (b7V N))
theorem d5n:CEok Q (c4C N):=fn_K a0r f148 ⟨[((3,6),a8i),((5,3),a6i),((7,9),a6j),((8,6),a7g)],[],[20,30,54,68],[],[]⟩ (g7p (b2u N) (g7s (b1k N) (a8P N) (b0C N)))
def a2d:CS:=⟨98,153,⟨[.one (.r (.pair (.ar 16 tW) (.pair (.ar 16 tI) (.pair (.pair tI (.pair tI (.pair tI .unit))) (.pair tI (.pair tB (.pair tI .unit))))))),.one (.d tI)],[]⟩,[.one (.d tW)],true,[]⟩
def a2s (N:Nat) (x0:a0v) (x1:Int):OR:=bi (decide (x1 < 1)) (some (0,gW.dv 0 []))<|bi (decide (x1 > 15)) (some (0,gW.dv 0 []))<|gd (idx x1 16)<|some (0,gW.dv (x0.Regs.getD x1.toNat 0) [])
def a4B:CE:=(a2d,mkF [c8H,pI] [pW] (a2s N))
theorem a6h:CEok Q (a4B N):=fn_K a0r f153 ⟨[],[],[7,10],[],[]⟩ g7q
def c2c:CS:=⟨99,262,⟨[.one (.d tI)],[]⟩,[.one (.d tW)],true,[]⟩
def c2M (N:Nat) (x0:Int):OR:=some (0,gW.dv (w.u32 x0) [])
def c9q:CE:=(c2c,mkF [pI] [pW] (c2M N))
theorem d4z:CEok Q (c9q N):=fn_K a0r f262 ⟨[],[],[],[],[]⟩ g7q
def c7w:CS:=⟨100,264,⟨[.one (.d tI)],[]⟩,[.one (.d tI)],true,[]⟩
def b6L (N:Nat) (x0:Int):OR:=bi (x0 == 17) (some (0,gI.dv 1 []))<|bi (x0 == 18) (some (0,gI.dv 3 []))<|bi (x0 == 19) (some (0,gI.dv 4 []))<|bi (x0 == 20) (some (0,gI.dv 5 []))<|bi (x0 == 21) (some (0,gI.dv 9 []))<|bi (x0 == 22) (some (0,gI.dv 6 []))<|bi (x0 == 23) (some (0,gI.dv 7 []))<|bi (x0 == 24) (some (0,gI.dv 8 []))<|some (0,gI.dv x0 [])
def c9c:CE:=(c7w,mkF [pI] [pI] (b6L N))
theorem d6N:CEok Q (c9c N):=fn_K a0r f264 ⟨[],[],[4,6,8,10,12,14,16,18],[],[]⟩ g7q
def c7g:CS:=⟨101,289,⟨[.one (.d tB)],[]⟩,[.one (.d tW)],true,[]⟩
def d3f (N:Nat) (x0:Bool):OR:=bi x0 (some (0,gW.dv 1 []))<|some (0,gW.dv 0 [])
def d4n:CE:=(c7g,mkF [pB] [pW] (d3f N))
theorem e1N:CEok Q (d4n N):=fn_K a0r f289 ⟨[],[],[3],[],[]⟩ g7q
def d1b:CS:=⟨102,290,⟨[.one (.d (.int .i32)),.one (.d (.int .i32))],[]⟩,[.one (.d tW)],true,[]⟩
def c6w (N:Nat) (x0 x1:Int):OR:=gf (decide ((32:Int) < (0:Int)))<|some (0,gW.dv (w.u32 (shr .i64 (w.i64 ((w.i64 x0)*(w.i64 x1))) 32)) [])
def d0Z:CE:=(d1b,mkF [pD (.int .i32),pD (.int .i32)] [pW] (c6w N))
theorem e1h:CEok Q (d0Z N):=fn_K a0r f290 ⟨[],[],[],[],[]⟩ g7q
def b2Q:CS:=⟨103,305,⟨[.one (.d tW),.one (.d tW),.one (.d tW)],[]⟩,[.one (.d tW),.one (.d tW)],false,[]⟩
def a4v (N:Nat) (x0 x1 x2:Int):OR:=bi (x2 != 0) (gf (decide (x2≤x0))<|gf (decide ((32:Int) < (0:Int)))<|gf (decide ((w.u64 x2) = 0))<|gf (decide ((w.u64 x2) = 0))<|some (0,gW.dv (w.u32 (w.u64 (Int.tdiv (bitOr .u64 (shl .u64 (w.u64 x0) 32) (w.u64 x1)) (w.u64 x2)))) (gW.dv (w.u32 (Int.tmod (bitOr .u64 (shl .u64 (w.u64 x0) 32) (w.u64 x1)) (w.u64 x2))) [])))<|gf (decide ((32:Int) < (0:Int)))<|gf (decide ((w.u64 x2) = 0))<|gf (decide ((w.u64 x2) = 0))<|some (0,gW.dv (w.u32 (w.u64 (Int.tdiv (bitOr .u64 (shl .u64 (w.u64 x0) 32) (w.u64 x1)) (w.u64 x2)))) (gW.dv (w.u32 (Int.tmod (bitOr .u64 (shl .u64 (w.u64 x0) 32) (w.u64 x1)) (w.u64 x2))) []))
def b3c:CE:=(b2Q,mkF [pW,pW,pW] [pW,pW] (a4v N))
theorem c3x:CEok Q (b3c N):=fn_K a0r f305 ⟨[],[],[11,15],[],[]⟩ g7q
def b2L:CS:=⟨104,306,⟨[.one (.d tW),.one (.d tW),.one (.d tW)],[]⟩,[.one (.d tW)],true,[]⟩
def a4r (N:Nat) (x0 x1 x2:Int):OR:=gf (decide ((32:Int) < (0:Int)))<|gf (decide ((w.u64 x2) = 0))<|some (0,gW.dv (w.u32 (Int.tmod (bitOr .u64 (shl .u64 (w.u64 x0) 32) (w.u64 x1)) (w.u64 x2))) [])
def b2D:CE:=(b2L,mkF [pW,pW,pW] [pW] (a4r N))
theorem c3S:CEok Q (b2D N):=fn_K a0r f306 ⟨[],[],[],[],[]⟩ g7q
def c5h:CS:=⟨105,291,⟨[.one (.d tI),.one (.d tW),.one (.d tW)],[]⟩,[.one (.d tW)],true,[]⟩
def b8o (x0 x1 x2:Int):OR:=bi ((w.i32 x1) == (-2147483648:Int)) (bi (x0 == 14) (on1 (a4v N 0 x1 x2)<|gg [pW,pW]<|fun (x3 x4:Int)=>some (0,gW.dv x3 []))<|bi (x0 == 16) (on1 (a4r N 0 x1 x2)<|gg [pW]<|fun (x5:Int)=>some (0,gW.dv x5 []))<|bi (x0 == 13) (bi ((w.i32 x2) == (-1:Int)) (some (0,gW.dv x1 []))<|bi (x0 == 13) (gf (decide ((w.i32 x2) = 0))<|some (0,gW.dv (w.u32 (w.i32 (Int.tdiv (w.i32 x1) (w.i32 x2)))) []))<|bi ((w.i32 x2) == (-1:Int)) (some (0,gW.dv 0 []))<|gf (decide ((w.i32 x2) = 0))<|some (0,gW.dv (w.u32 (Int.tmod (w.i32 x1) (w.i32 x2))) []))<|bi (x0 == 13) (gf (decide ((w.i32 x2) = 0))<|some (0,gW.dv (w.u32 (w.i32 (Int.tdiv (w.i32 x1) (w.i32 x2)))) []))<|bi ((w.i32 x2) == (-1:Int)) (some (0,gW.dv 0 []))<|gf (decide ((w.i32 x2) = 0))<|some (0,gW.dv (w.u32 (Int.tmod (w.i32 x1) (w.i32 x2))) []))<|bi (x0 == 14) (on1 (a4v N 0 x1 x2)<|gg [pW,pW]<|fun (x6 x7:Int)=>some (0,gW.dv x6 []))<|bi (x0 == 16) (on1 (a4r N 0 x1 x2)<|gg [pW]<|fun (x8:Int)=>some (0,gW.dv x8 []))<|bi (x0 == 13) (bi (x0 == 13) (gf (decide ((w.i32 x2) = 0))<|some (0,gW.dv (w.u32 (w.i32 (Int.tdiv (w.i32 x1) (w.i32 x2)))) []))<|gf (decide ((w.i32 x2) = 0))<|some (0,gW.dv (w.u32 (Int.tmod (w.i32 x1) (w.i32 x2))) []))<|bi (x0 == 13) (gf (decide ((w.i32 x2) = 0))<|some (0,gW.dv (w.u32 (w.i32 (Int.tdiv (w.i32 x1) (w.i32 x2)))) []))<|gf (decide ((w.i32 x2) = 0))<|some (0,gW.dv (w.u32 (Int.tmod (w.i32 x1) (w.i32 x2))) [])
def c5F:CE:=(c5h,mkF [pI,pW,pW] [pW] (b8o N))
theorem d5b:CEok Q (c5F N):=fn_K a0r f291 ⟨[((4,2),b2Q),((7,2),b2L)],[],[18,22,32,38,41,45,52],[],[]⟩ (g7x (c3x N) (c3S N))
def d8T:CS:=⟨106,263,⟨[.one (.d tI),.one (.d tW),.one (.d tW)],[]⟩,[.one (.d tW),.one (.d tB)],false,[]⟩
def d1q (x0 x1 x2:Int):OR:=bi (x0 == 1) (some (0,gW.dv (w.u32 (x1+x2)) (gB.dv true [])))<|bi (x0 == 2) (some (0,gW.dv (w.u32 (x1 - x2)) (gB.dv true [])))<|bi (x0 == 3) (some (0,gW.dv (bitAnd .u32 x1 x2) (gB.dv true [])))<|bi (x0 == 4) (some (0,gW.dv (bitOr .u32 x1 x2) (gB.dv true [])))<|bi (x0 == 5) (some (0,gW.dv (bitXor .u32 x1 x2) (gB.dv true [])))<|bi (x0 == 6) (gf (decide ((bitAnd .u32 x2 31) < 0))<|some (0,gW.dv (shl .u32 x1 (bitAnd .u32 x2 31)) (gB.dv true [])))<|bi (x0 == 7) (gf (decide ((bitAnd .u32 x2 31) < 0))<|some (0,gW.dv (shr .u32 x1 (bitAnd .u32 x2 31)) (gB.dv true [])))<|bi (x0 == 8) (gf (decide ((bitAnd .u32 x2 31) < 0))<|some (0,gW.dv (w.u32 (shr .i32 (w.i32 x1) (bitAnd .u32 x2 31))) (gB.dv true [])))<|bi (x0 == 9) (on1 (d3f N (decide ((w.i32 x1) < (w.i32 x2))))<|gg [pW]<|fun (x3:Int)=>some (0,gW.dv x3 (gB.dv true [])))<|bi (x0 == 10) (on1 (d3f N (decide (x1 < x2)))<|gg [pW]<|fun (x4:Int)=>some (0,gW.dv x4 (gB.dv true [])))<|bi (x0 == 11) (some (0,gW.dv (w.u32 (x1*x2)) (gB.dv true [])))<|bi (x0 == 12) (on1 (c6w N (w.i32 x1) (w.i32 x2))<|gg [pW]<|fun (x5:Int)=>some (0,gW.dv x5 (gB.dv true [])))<|bi (x2 == 0) (some (0,gW.dv 0 (gB.dv false [])))<|on1 (b8o N x0 x1 x2)<|gg [pW]<|fun (x6:Int)=>some (0,gW.dv x6 (gB.dv true []))
def d9r:CE:=(d8T,mkF [pI,pW,pW] [pW,pB] (d1q N))
theorem e4x:CEok Q (d9r N):=fn_K a0r f263 ⟨[((19,5),c7g),((21,3),c7g),((25,4),d1b),((28,3),c5h)],[],[9,14,19,24,29,34,40,46,54,62,68,73,81],[],[]⟩ (g7s (e1N N) (e1h N) (d5b N))
def d3b:CS:=⟨107,222,⟨[.agg [.d tI,.d tI,.d tI,.d tI,.d tI],.one (.d tW),.one (.d tW)],[]⟩,[.one (.d tW),.one (.d tB)],false,[]⟩
def d5P (x0:a0o) (x1 x2:Int):OR:=on1 (b8x N x0.1)<|gg [pI]<|fun (x3:Int)=>on1 (b2H N x0)<|gg [pB]<|fun (x4:Bool)=>bi (!x4) (some (0,gW.dv 0 (gB.dv true [])))<|bi (decide (x3 > 3)) (some (0,gW.dv 0 (gB.dv true [])))<|bi (x3 == 3) (gf (decide ((18:Int) < (0:Int)))<|on1 (c2M N (shl .i64 x0.2.2.2.2.1 18))<|gg [pW]<|fun (x5:Int)=>some (0,gW.dv x5 (gB.dv true [])))<|bi (x3 == 2) (on1 (c2M N x0.2.2.2.2.1)<|gg [pW]<|fun (x6:Int)=>on1 (b6L N x0.1)<|gg [pI]<|fun (x7:Int)=>on1 (d1q N x7 x1 x6)<|gg [pW,pB]<|fun (x8:Int) (x9:Bool)=>some (0,gW.dv x8 (gB.dv x9 [])))<|on1 (b6L N x0.1)<|gg [pI]<|fun (x10:Int)=>on1 (d1q N x10 x1 x2)<|gg [pW,pB]<|fun (x11:Int) (x12:Bool)=>some (0,gW.dv x11 (gB.dv x12 []))
def d2F:CE:=(d3b,mkF [a2S,pW,pW] [pW,pB] (d5P N))
theorem d9b:CEok Q (d2F N):=fn_K a0r f222 ⟨[((1,2),b2K),((2,1),b4b),((5,3),c2c),((7,2),c2c),((8,2),c7w),((8,5),d8T)],[],[12,16,20,27],[],[]⟩ (g7p (b8k N) (g7p (b9Y N) (g7s (d4z N) (d6N N) (e4x N))))
def b4B:CS:=⟨108,223,⟨[.agg q_5,.one (.d tI)],[]⟩,[.one (.d tI)],true,[]⟩
def b0K (N:Nat) (x0:a0f) (x1:Int):OR:=bi (x1 == 11) (bi (decide (x0.Mul < 1)) (some (0,gI.dv 1 []))<|bi (decide (x0.Mul > 50)) (some (0,gI.dv 1 []))<|some (0,gI.dv x0.Mul []))<|bi (x1 == 12) (bi (decide (x0.Mul < 1)) (some (0,gI.dv 1 []))<|bi (decide (x0.Mul > 50)) (some (0,gI.dv 1 []))<|some (0,gI.dv x0.Mul []))<|bi (x1 == 13) (bi (decide (x0.Div < 1)) (some (0,gI.dv 1 []))<|bi (decide (x0.Div > 50)) (some (0,gI.dv 1 []))<|some (0,gI.dv x0.Div []))<|bi (x1 == 14) (bi (decide (x0.Div < 1)) (some (0,gI.dv 1 []))<|bi (decide (x0.Div > 50)) (some (0,gI.dv 1 []))<|some (0,gI.dv x0.Div []))<|bi (x1 == 15) (bi (decide (x0.Div < 1)) (some (0,gI.dv 1 []))<|bi (decide (x0.Div > 50)) (some (0,gI.dv 1 []))<|some (0,gI.dv x0.Div []))<|bi (x1 == 16) (bi (decide (x0.Div < 1)) (some (0,gI.dv 1 []))<|bi (decide (x0.Div > 50)) (some (0,gI.dv 1 []))<|some (0,gI.dv x0.Div []))<|bi (decide ((1:Int) < (1:Int))) (some (0,gI.dv 1 []))<|bi (decide ((1:Int) > (50:Int))) (some (0,gI.dv 1 []))<|some (0,gI.dv 1 [])
def b3T:CE:=(b4B,mkF [a0l,pI] [pI] (b0K N))
theorem c2y:CEok Q (b3T N):=fn_K a0r f223 ⟨[],[],[7,12,21,24],[],[]⟩ g7q
def a9M:CS:=⟨109,150,⟨[.one (.p 0 9 [16,16,1,1,1,1,1,1]),.one (.d tI),.one (.d tW),.one (.d tI)],[q_1]⟩,[],false,[q_1]⟩
def a7S (N:Nat) (x0 x1 x2:Int) (x3:a0b):OR:=bi (decide (x0≥1)) (bi (decide (x0≤15)) (gd (idx x0 16)<|gd (idx x0 16)<|some (0,a0c.dv ({ x3 with E:={ x3.E with Regs:=(x3.E.Regs.set x0.toNat x1),Ready:=(x3.E.Ready.set x0.toNat x2) } }:a0b) []))<|some (0,a0c.dv x3 []))<|some (0,a0c.dv x3 [])
def a9t:CE:=(a9M,mkF [pI,pW,pI,a0d] [a0d] (a7S N))
theorem b4G:CEok Q (a9t N):=fn_K a0r f150 ⟨[],[],[10,13],[],[]⟩ g7q
def a3I:CS:=⟨110,151,⟨[.one (.p 0 9 [16,16,1,1,1,1,1,1])],[q_1]⟩,[],false,[q_1]⟩
def a3V (N:Nat) (x0:a0b):OR:=some (0,a0c.dv ({ x0 with E:={ x0.E with Pos:={ x0.E.Pos with Index:=(w.i64 (x0.E.Pos.Index+1)) },Done:=(w.i64 (x0.E.Done+1)) } }:a0b) [])
def a5T:CE:=(a3I,mkF [a0d] [a0d] (a3V N))
theorem a8R:CEok Q (a5T N):=fn_K a0r f151 ⟨[],[],[],[],[]⟩ g7q
def c4L:CS:=⟨111,149,⟨[.agg q_5,.one (.p 0 0 [1,16,16,1,1,1,1,1,1,16,16,1,1,1,1,1,1,1,1,1,1,1,1,1,1,1,1,1,1,1,1,1]),.one (.p 0 9 [16,16,1,1,1,1,1,1]),.agg q_2,.one (.d tI)],[q_1]⟩,[],false,[q_1]⟩
def b7H (x0:a0f) (x1:a0h) (x2:Int) (x3:a0b):OR:=on1 (a2s N x3.E x1.2.1.2.2.1)<|gg [pW]<|fun (x4:Int)=>on1 (a2s N x3.E x1.2.1.2.2.2.1)<|gg [pW]<|fun (x5:Int)=>on1 (d5P N x1.2.1 x4 x5)<|gg [pW,pB]<|fun (x6:Int) (x7:Bool)=>bi (!x7) (on1 (a6z N 3 x2 x1.2.2.2.1 x3)<|gg [a0d]<|fun (x8:a0b)=>some (0,a0c.dv x8 []))<|on1 (b0K N x0 x1.2.1.1)<|gg [pI]<|fun (x9:Int)=>on1 (a7S N x1.2.1.2.1 x6 (w.i64 (x3.Cycle+x9)) x3)<|gg [a0d]<|fun (x10:a0b)=>on1 (a3V N x10)<|gg [a0d]<|fun (x11:a0b)=>some (0,a0c.dv x11 [])
def c4J:CE:=(c4L,mkF [a0l,a0E,pI,a0d] [a0d] (b7H N))
theorem d6u:CEok Q (c4J N):=fn_K a0r f149 ⟨[((1,6),a2d),((1,11),a2d),((1,12),d3b),((3,4),a6j),((4,13),b4B),((4,15),a9M),((5,1),a3I)],[],[29],[],[]⟩ (g7p (a6h N) (g7p (d9b N) (g7p (a8P N) (g7s (c2y N) (b4G N) (a8R N)))))
def c9a:CS:=⟨112,224,⟨[.one (.d (.sl a0k))],[]⟩,[.one (.o a0k),.one (.d tW),.one (.d tB)],false,[]⟩
def c0G (x0:List a0q):OR:=on1 (a1a N x0)<|gg [pD (.sl a0k)]<|fun (x1:List a0q)=>bi ((len x1) == 0) (some (0,(gD (.sl a0k)).dv x1 (gW.dv 0 (gB.dv false []))))<|gd (idx 0 x1.length)<|bi (!(x1.getD 0 a0q.z).2.1) (some (0,(gD (.sl a0k)).dv x1 (gW.dv 0 (gB.dv false []))))<|gd (sb 1 (len x1))<|gd (idx 0 x1.length)<|some (0,(gD (.sl a0k)).dv (List.drop 1 x1) (gW.dv ((x1.getD 0 a0q.z).2.2.1) (gB.dv true [])))
def c9g:CE:=(c9a,mkF [pD (.sl a0k)] [pD (.sl a0k),pW,pB] (c0G N))
theorem d7V:CEok Q (c9g N):=fn_K a0r f224 ⟨[((1,1),a2p)],[],[11,17],[],[]⟩ (g7o (a3F N))
def c7h:CS:=⟨113,152,⟨[.one (.p 0 0 [1,16,16,1,1,1,1,1,1,16,16,1,1,1,1,1,1,1,1,1,1,1,1,1,1,1,1,1,1,1,1,1]),.agg q_2],[q_1]⟩,[],false,[q_1]⟩
def c8T (x0:a0h) (x1:a0b):OR:=on1 (c0G N x1.Ldq)<|gg [pD (.sl a0k),pW,pB]<|fun (x2:List a0q) (x3:Int) (x4:Bool)=>bi (!x4) (some (0,a0c.dv x1 []))<|on1 (a7S N x0.2.1.2.1 x3 (w.i64 (x1.Cycle+1)) ({ x1 with Ldq:=x2 }:a0b))<|gg [a0d]<|fun (x5:a0b)=>on1 (a3V N x5)<|gg [a0d]<|fun (x6:a0b)=>some (0,a0c.dv x6 [])
def c6O:CE:=(c7h,mkF [a0E,a0d] [a0d] (c8T N))
theorem d8C:CEok Q (c6O N):=fn_K a0r f152 ⟨[((1,4),c9a),((4,12),a9M),((5,3),a3I)],[],[17],[],[]⟩ (g7s (d7V N) (b4G N) (a8R N))
def c0w:CS:=⟨114,225,⟨[.one (.d tI),.one (.d tW),.one (.d tW)],[]⟩,[.one (.d tB)],true,[]⟩
def b6n (N:Nat) (x0 x1 x2:Int):OR:=bi (x0 == 34) (some (0,gB.dv (x1 == x2) []))<|bi (x0 == 35) (some (0,gB.dv (x1 != x2) []))<|bi (x0 == 36) (some (0,gB.dv (decide ((w.i32 x1) < (w.i32 x2))) []))<|bi (x0 == 37) (some (0,gB.dv (decide ((w.i32 x1)≥(w.i32 x2))) []))<|bi (x0 == 38) (some (0,gB.dv (decide (x1 < x2)) []))<|bi (x0 == 39) (some (0,gB.dv (decide (x1≥x2)) []))<|some (0,gB.dv false [])
def c0v:CE:=(c0w,mkF [pI,pW,pW] [pB] (b6n N))
theorem c8Q:CEok Q (c0v N):=fn_K a0r f225 ⟨[],[],[8,13,18,25,32,37],[],[]⟩ g7q
def c2J:CS:=⟨115,226,⟨[.agg [.d (.sl a0n),.d (.ar 16 tI)],.agg [.d tI,.d tI,.d tI],.one (.d tB)],[]⟩,[.agg [.d tI,.d tI,.d tI]],true,[]⟩
def c2D (x0:a0g) (x1:a0C) (x2:Bool):OR:=bi x2 (on1 (a7o N x0 x1.Block)<|gg [pB]<|fun (x3:Bool)=>bi x3 (gd (idx x1.Block x0.Blocks.length)<|on1 (a7o N x0 ((x0.Blocks.getD x1.Block.toNat a0x.z).2.2.2.1))<|gg [pB]<|fun (x4:Bool)=>bi x4 (gd (idx x1.Block x0.Blocks.length)<|on1 (b0G N x0 x1)<|gg [pI]<|fun (x5:Int)=>some (0,a0P.dv (a0C.mk ((x0.Blocks.getD x1.Block.toNat a0x.z).2.2.2.1) 0 x5) []))<|some (0,a0P.dv ({ x1 with Index:=(w.i64 (x1.Index+1)) }:a0C) []))<|some (0,a0P.dv ({ x1 with Index:=(w.i64 (x1.Index+1)) }:a0C) []))<|some (0,a0P.dv ({ x1 with Index:=(w.i64 (x1.Index+1)) }:a0C) [])
def c3i:CE:=(c2J,mkF [a0m,a0L,pB] [a0L] (c2D N))
theorem d0s:CEok Q (c3i N):=fn_K a0r f226 ⟨[((1,5),a6d),((1,16),a6d),((2,9),b3R)],[],[8,14,24],[],[]⟩ (g7x (b4X N) (b9U N))
def b1m:CS:=⟨116,156,⟨[.agg [.d (.sl a0n),.d (.ar 16 tI)],.one (.p 0 0 [1,16,16,1,1,1,1,1,1,16,16,1,1,1,1,1,1,1,1,1,1,1,1,1,1,1,1,1,1,1,1,1]),.one (.p 0 9 [16,16,1,1,1,1,1,1]),.one (.d tB)],[q_1]⟩,[],false,[q_1]⟩
def b0f (x0:a0g) (x1:Bool) (x2:a0b):OR:=on1 (c2D N x0 x2.E.Pos x1)<|gg [a0L]<|fun (x3:a0C)=>bi x1 (some (0,a0c.dv ({ x2 with E:={ x2.E with Pos:=x3,Wait:=(w.i64 (x2.Cycle+2)),Done:=(w.i64 (x2.E.Done+1)) } }:a0b) []))<|some (0,a0c.dv ({ x2 with E:={ x2.E with Pos:=x3,Done:=(w.i64 (x2.E.Done+1)) } }:a0b) [])
def b1s:CE:=(b1m,mkF [a0m,pB,a0d] [a0d] (b0f N))
theorem b5H:CEok Q (b1s N):=fn_K a0r f156 ⟨[((1,7),c2J)],[],[18],[],[]⟩ (g7o (d0s N))
def a9i:CS:=⟨117,154,⟨[.agg [.d (.sl a0n),.d (.ar 16 tI)],.one (.p 0 0 [1,16,16,1,1,1,1,1,1,16,16,1,1,1,1,1,1,1,1,1,1,1,1,1,1,1,1,1,1,1,1,1]),.one (.p 0 9 [16,16,1,1,1,1,1,1]),.agg q_2,.one (.p 0 21 [1]),.one (.d tI)],[q_1]⟩,[],false,[q_1]⟩
def a6G (x0:a0g) (x1:a0h) (x2:Int) (x3:a0b):OR:=bi (decide ((len x3.Ebq)≥x2)) (some (0,a0c.dv x3 []))<|on1 (a2s N x3.E x1.2.1.2.2.1)<|gg [pW]<|fun (x4:Int)=>on1 (a2s N x3.E x1.2.1.2.2.2.1)<|gg [pW]<|fun (x5:Int)=>on1 (b6n N x1.2.1.1 x4 x5)<|gg [pB]<|fun (x6:Bool)=>gd (rm x3.Ebq [x6] 1)<|on1 (b0f N x0 x6 ({ x3 with Ebq:=(x3.Ebq++[x6]) }:a0b))<|gg [a0d]<|fun (x7:a0b)=>some (0,a0c.dv x7 [])
def a9l:CE:=(a9i,mkF [a0m,a0E,pI,a0d] [a0d] (a6G N))
theorem b8M:CEok Q (a9l N):=fn_K a0r f154 ⟨[((2,7),a2d),((2,12),a2d),((2,13),c0w),((4,4),b1m)],[],[18],[],[]⟩ (g7s (a6h N) (c8Q N) (b5H N))
def a8W:CS:=⟨118,155,⟨[.agg [.d (.sl a0n),.d (.ar 16 tI)],.one (.p 0 0 [1,16,16,1,1,1,1,1,1,16,16,1,1,1,1,1,1,1,1,1,1,1,1,1,1,1,1,1,1,1,1,1]),.one (.p 0 9 [16,16,1,1,1,1,1,1]),.one (.p 0 20 [1])],[q_1]⟩,[],false,[q_1]⟩
def a7s (x0:a0g) (x1:a0b):OR:=bi ((len x1.Abq) == 0) (some (0,a0c.dv x1 []))<|gd (idx 0 x1.Abq.length)<|gd (sb 1 (len x1.Abq))<|on1 (b0f N x0 (x1.Abq.getD 0 false) ({ x1 with Abq:=(List.drop 1 x1.Abq) }:a0b))<|gg [a0d]<|fun (x2:a0b)=>some (0,a0c.dv x2 [])
def a9f:CE:=(a8W,mkF [a0m,a0d] [a0d] (a7s N))
theorem b8L:CEok Q (a9f N):=fn_K a0r f155 ⟨[((4,4),b1m)],[],[13],[],[]⟩ (g7o (b5H N))
def b9l:CS:=⟨119,157,⟨[.one (.p 0 9 [16,16,1,1,1,1,1,1])],[q_1]⟩,[],false,[q_1]⟩
def b6p (N:Nat) (x0:a0b):OR:=some (0,a0c.dv ({ x0 with E:={ x0.E with Halted:=true,Done:=(w.i64 (x0.E.Done+1)) } }:a0b) [])
def b9J:CE:=(b9l,mkF [a0d] [a0d] (b6p N))
theorem c9Q:CEok Q (b9J N):=fn_K a0r f157 ⟨[],[],[],[],[]⟩ g7q
def c5L:CS:=⟨120,82,⟨[.agg q_5,.agg [.d (.sl a0n),.d (.ar 16 tI)],.one (.p 0 0 [1,16,16,1,1,1,1,1,1,16,16,1,1,1,1,1,1,1,1,1,1,1,1,1,1,1,1,1,1,1,1,1])],[q_1]⟩,[],false,[q_1]⟩
def b8D (x0:a0f) (x1:a0g) (x2:a0b):OR:=on1 (b7V N x1 true x2)<|gg [a0E,pI,pB,a0d]<|fun (x3:a0h) (x4:Int) (x5:Bool) (x6:a0b)=>bi (!x5) (some (0,a0c.dv x6 []))<|on1 (b3o N x6.E x3 x6.Cycle)<|gg [pB]<|fun (x7:Bool)=>bi (!x7) (some (0,a0c.dv x6 []))<|bi (x3.1 == 1) (on1 (b7H N x0 x3 x4 x6)<|gg [a0d]<|fun (x8:a0b)=>some (0,a0c.dv x8 []))<|bi (x3.1 == 6) (bi (decide ((len x6.Aeq) > 0)) (gd (idx 0 x6.Aeq.length)<|on1 (a7S N x3.2.2.1 (x6.Aeq.getD 0 0) (w.i64 (x6.Cycle+1)) x6)<|gg [a0d]<|fun (x9:a0b)=>gd (sb 1 (len x9.Aeq))<|on1 (a3V N ({ x9 with Aeq:=(List.drop 1 x9.Aeq) }:a0b))<|gg [a0d]<|fun (x10:a0b)=>some (0,a0c.dv x10 []))<|some (0,a0c.dv x6 []))<|bi (x3.1 == 7) (on1 (c8T N x3 x6)<|gg [a0d]<|fun (x11:a0b)=>some (0,a0c.dv x11 []))<|bi (x3.1 == 8) (bi (decide ((len x6.Sdq) < x0.Sdq)) (on1 (a2s N x6.E x3.2.2.1)<|gg [pW]<|fun (x12:Int)=>gd (rm x6.Sdq [x12] 4)<|on1 (a3V N ({ x6 with Sdq:=(x6.Sdq++[x12]) }:a0b))<|gg [a0d]<|fun (x13:a0b)=>some (0,a0c.dv x13 []))<|some (0,a0c.dv x6 []))<|bi (x3.1 == 9) (on1 (a6G N x1 x3 x0.Ebq x6)<|gg [a0d]<|fun (x14:a0b)=>some (0,a0c.dv x14 []))<|bi (x3.1 == 10) (on1 (a7s N x1 x6)<|gg [a0d]<|fun (x15:a0b)=>some (0,a0c.dv x15 []))<|bi (x3.1 == 11) (on1 (b0f N x1 true x6)<|gg [a0d]<|fun (x16:a0b)=>some (0,a0c.dv x16 []))<|bi (x3.1 == 12) (on1 (b6p N x6)<|gg [a0d]<|fun (x17:a0b)=>some (0,a0c.dv x17 []))<|some (0,a0c.dv x6 [])
def c5G:CE:=(c5L,mkF [a0l,a0m,a0d] [a0d] (b8D N))
theorem d6e:CEok Q (c5G N):=fn_K a0r f82 ⟨[((2,3),c4P),((3,11),b6m),((6,5),c4L),((9,14),a9M),((11,1),a3I),((13,2),c7h),((16,8),a2d),((17,1),a3I),((19,9),a9i),((21,6),a8W),((23,3),b1m),((25,1),b9l)],[],[23,34,37,45,52,78,83,92,108,120,129,135],[],[]⟩ (g7p (d5n N) (g7p (c4i N) (g7p (d6u N) (g7p (b4G N) (g7p (a8R N) (g7p (d8C N) (g7p (a6h N) (g7p (b8M N) (g7s (b8L N) (b5H N) (c9Q N))))))))))
end
end Go.Proofs.Zz
