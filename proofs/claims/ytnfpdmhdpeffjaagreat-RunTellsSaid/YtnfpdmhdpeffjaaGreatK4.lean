import Derived.Test.YtnfpdmhdpeffjaaGreatK3
set_option linter.unusedSimpArgs false
set_option linter.unusedVariables false
/- What functions of the program compute, as plain functions. -/
set_option maxRecDepth 100000
namespace Go.Proofs.Zz
noncomputable section
open Go Go.Proofs.Tryz
variable (N:Nat)
def a6i:CS:=⟨95,106,⟨[.agg [.d (.sl a0n),.d (.ar 16 tI)],.one (.d tB),.agg [.d tI,.d tI,.d tI]],[]⟩,[.agg q_2,.one (.d tI),.one (.d tB)],false,[]⟩
def a6o (x0:a0g) (x1:Bool) (x2:a0C):OR:=on1 (a6v N x0 x1 x2)<|gg [a0L,pB]<|fun (x3:a0C) (x4:Bool)=>bi x4 (on1 (b0G N x0 x3)<|gg [pI]<|fun (x5:Int)=>some (0,a0G.dv (a0h.z) (gI.dv x5 (gB.dv false []))))<|bi (decide (x3.Index < 0)) (on1 (b0G N x0 x3)<|gg [pI]<|fun (x6:Int)=>some (0,a0G.dv (a0h.z) (gI.dv x6 (gB.dv false []))))<|on1 (a7Z N x0 x1 x3.Block)<|gg [pD (.sl a0i)]<|fun (x7:List a0h)=>gd (idx x3.Index x7.length)<|some (0,a0G.dv (x7.getD x3.Index.toNat a0h.z) (gI.dv (w.i64 (x3.Base+(x7.getD x3.Index.toNat a0h.z).2.2.2.2.1)) (gB.dv true [])))
def a8M:CE:=(a6i,mkF [a0m,pB,a0L] [a0E,pI,pB] (a6o N))
theorem b1k:CEok Q (a8M N):=fn_K a0r f106 ⟨[((1,3),a8i),((3,3),b3R),((4,4),a9F)],[],[19,23],[],[]⟩ (g7s (b2u N) (b9U N) (c0W N))
def a7g:CS:=⟨96,221,⟨[.one (.r (.pair tI (.pair (.pair (.ar 16 tW) (.pair (.ar 16 tI) (.pair (.pair tI (.pair tI (.pair tI .unit))) (.pair tI (.pair tB (.pair tI .unit)))))) (.pair (.pair (.ar 16 tW) (.pair (.ar 16 tI) (.pair (.pair tI (.pair tI (.pair tI .unit))) (.pair tI (.pair tB (.pair tI .unit)))))) (.pair (.sl a0k) (.pair (.sl tW) (.pair (.sl tW) (.pair (.sl tB) (.pair (.sl tB) (.pair (.sl a0t) (.pair (.sl a0j) (.pair (.sl tU) (.pair (.sl a0Q) (.pair (.pair tI (.pair tI (.pair tI .unit))) (.pair tI (.pair tI (.pair tI .unit))))))))))))))))),.one (.d tI)],[]⟩,[.one (.d tB)],true,[]⟩
def a2B (N:Nat) (x0:a0b) (x1:Int):OR:=bi (x0.Trap.Kind != 0) (some (0,gB.dv (decide (x1≥x0.Trap.Step)) []))<|some (0,gB.dv false [])
def a6Q:CE:=(a7g,mkF [a0W,pI] [pB] (a2B N))
theorem b0C:CEok Q (a6Q N):=fn_K a0r f221 ⟨[],[],[11],[],[]⟩ g7q
def c4P:CS:=⟨97,148,⟨[.agg [.d (.sl a0n),.d (.ar 16 tI)],.one (.p 0 0 [1,16,16,1,1,1,1,1,1,16,16,1,1,1,1,1,1,1,1,1,1,1,1,1,1,1,1,1,1,1,1,1]),.one (.p 0 9 [16,16,1,1,1,1,1,1]),.one (.d tB)],[q_1]⟩,[.agg q_2,.one (.d tI),.one (.d tB)],false,[q_1]⟩
def b7V (x0:a0g) (x1:Bool) (x2:a0b):OR:=bi x2.E.Halted (some (0,a0G.dv (a0h.z) (gI.dv 0 (gB.dv false (a0c.dv x2 [])))))<|bi (decide (x2.E.Wait > x2.Cycle)) (some (0,a0G.dv (a0h.z) (gI.dv 0 (gB.dv false (a0c.dv x2 [])))))<|on1 (a6v N x0 x1 x2.E.Pos)<|gg [a0L,pB]<|fun (x3:a0C) (x4:Bool)=>on1 (a6o N x0 x1 x3)<|gg [a0E,pI,pB]<|fun (x5:a0h) (x6:Int) (x7:Bool)=>bi x4 (gd (idx x3.Block x0.Blocks.length)<|on1 (a6z N 4 x6 ((x0.Blocks.getD x3.Block.toNat a0x.z).2.1) ({ x2 with E:={ x2.E with Pos:=x3 } }:a0b))<|gg [a0d]<|fun (x8:a0b)=>bi x7 (on1 (a2B N x8 x6)<|gg [pB]<|fun (x9:Bool)=>some (0,a0G.dv x5 (gI.dv x6 (gB.dv (!x9) (a0c.dv x8 [])))))<|some (0,a0G.dv x5 (gI.dv x6 (gB.dv false (a0c.dv x8 [])))))<|bi x7 (on1 (a2B N ({ x2 with E:={ x2.E with Pos:=x3 } }:a0b) x6)<|gg [pB]<|fun (x10:Bool)=>some (0,a0G.dv x5 (gI.dv x6 (gB.dv (!x10) (a0c.dv ({ x2 with E:={ x2.E with Pos:=x3 } }:a0b) [])))))<|some (0,a0G.dv x5 (gI.dv x6 (gB.dv false (a0c.dv ({ x2 with E:={ x2.E with Pos:=x3 } }:a0b) []))))
def c4C:CE:=(c4P,mkF [a0m,pB,a0d] [a0E,pI,pB,a0d] (b7V N))
theorem d5n:CEok Q (c4C N):=fn_K a0r f148 ⟨[((3,6),a8i),((5,3),a6i),((7,9),a6j),((8,6),a7g)],[],[20,30,54,68],[],[]⟩ (g7p (b2u N) (g7s (b1k N) (a8P N) (b0C N)))
def a2d:CS:=⟨98,153,⟨[.one (.r (.pair (.ar 16 tW) (.pair (.ar 16 tI) (.pair (.pair tI (.pair tI (.pair tI .unit))) (.pair tI (.pair tB (.pair tI .unit))))))),.one (.d tI)],[]⟩,[.one (.d tW)],true,[]⟩
def a2s (N:Nat) (x0:a0v) (x1:Int):OR:=bi (decide (x1 < 1)) (some (0,gW.dv 0 []))<|bi (decide (x1 > 15)) (some (0,gW.dv 0 []))<|gd (idx x1 16)<|some (0,gW.dv (x0.Regs.getD x1.toNat 0) [])
def a4B:CE:=(a2d,mkF [c8H,pI] [pW] (a2s N))
theorem a6h:CEok Q (a4B N):=fn_K a0r f153 ⟨[],[],[7,10],[],[]⟩ g7q
def c2c:CS:=⟨99,262,⟨[.one (.d tI)],[]⟩,[.one (.d tW)],true,[]⟩
def c2M (N:Nat) (x0:Int):OR:=some (0,gW.dv (w.u32 x0) [])
def c9q:CE:=(c2c,mkF [pI] [pW] (c2M N))
theorem d4z:CEok Q (c9q N):=fn_K a0r f262 ⟨[],[],[],[],[]⟩ g7q
def c7w:CS:=⟨100,264,⟨[.one (.d tI)],[]⟩,[.one (.d tI)],true,[]⟩
def b6L (N:Nat) (x0:Int):OR:=bi (x0 == 17) (some (0,gI.dv 1 []))<|bi (x0 == 18) (some (0,gI.dv 3 []))<|bi (x0 == 19) (some (0,gI.dv 4 []))<|bi (x0 == 20) (some (0,gI.dv 5 []))<|bi (x0 == 21) (some (0,gI.dv 9 []))<|bi (x0 == 22) (some (0,gI.dv 6 []))<|bi (x0 == 23) (some (0,gI.dv 7 []))<|bi (x0 == 24) (some (0,gI.dv 8 []))<|some (0,gI.dv x0 [])
def c9c:CE:=(c7w,mkF [pI] [pI] (b6L N))
theorem d6N:CEok Q (c9c N):=fn_K a0r f264 ⟨[],[],[4,6,8,10,12,14,16,18],[],[]⟩ g7q
def c7g:CS:=⟨101,289,⟨[.one (.d tB)],[]⟩,[.one (.d tW)],true,[]⟩
def d3f (N:Nat) (x0:Bool):OR:=bi x0 (some (0,gW.dv 1 []))<|some (0,gW.dv 0 [])
def d4n:CE:=(c7g,mkF [pB] [pW] (d3f N))
theorem e1N:CEok Q (d4n N):=fn_K a0r f289 ⟨[],[],[3],[],[]⟩ g7q
def d1b:CS:=⟨102,290,⟨[.one (.d (.int .i32)),.one (.d (.int .i32))],[]⟩,[.one (.d tW)],true,[]⟩
def c6w (N:Nat) (x0 x1:Int):OR:=gf (decide ((32:Int) < (0:Int)))<|some (0,gW.dv (w.u32 (shr .i64 (w.i64 ((w.i64 x0)*(w.i64 x1))) 32)) [])
def d0Z:CE:=(d1b,mkF [pD (.int .i32),pD (.int .i32)] [pW] (c6w N))
theorem e1h:CEok Q (d0Z N):=fn_K a0r f290 ⟨[],[],[],[],[]⟩ g7q
def b2Q:CS:=⟨103,305,⟨[.one (.d tW),.one (.d tW),.one (.d tW)],[]⟩,[.one (.d tW),.one (.d tW)],false,[]⟩
def a4v (N:Nat) (x0 x1 x2:Int):OR:=bi (x2 != 0) (gf (decide (x2≤x0))<|gf (decide ((32:Int) < (0:Int)))<|gf (decide ((w.u64 x2) = 0))<|gf (decide ((w.u64 x2) = 0))<|some (0,gW.dv (w.u32 (w.u64 (Int.tdiv (bitOr .u64 (shl .u64 (w.u64 x0) 32) (w.u64 x1)) (w.u64 x2)))) (gW.dv (w.u32 (Int.tmod (bitOr .u64 (shl .u64 (w.u64 x0) 32) (w.u64 x1)) (w.u64 x2))) [])))<|gf (decide ((32:Int) < (0:Int)))<|gf (decide ((w.u64 x2) = 0))<|gf (decide ((w.u64 x2) = 0))<|some (0,gW.dv (w.u32 (w.u64 (Int.tdiv (bitOr .u64 (shl .u64 (w.u64 x0) 32) (w.u64 x1)) (w.u64 x2)))) (gW.dv (w.u32 (Int.tmod (bitOr .u64 (shl .u64 (w.u64 x0) 32) (w.u64 x1)) (w.u64 x2))) []))
def b3c:CE:=(b2Q,mkF [pW,pW,pW] [pW,pW] (a4v N))
theorem c3x:CEok Q (b3c N):=fn_K a0r f305 ⟨[],[],[11,15],[],[]⟩ g7q
def b2L:CS:=⟨104,306,⟨[.one (.d tW),.one (.d tW),.one (.d tW)],[]⟩,[.one (.d tW)],true,[]⟩
def a4r (N:Nat) (x0 x1 x2:Int):OR:=gf (decide ((32:Int) < (0:Int)))<|gf (decide ((w.u64 x2) = 0))<|some (0,gW.dv (w.u32 (Int.tmod (bitOr .u64 (shl .u64 (w.u64 x0) 32) (w.u64 x1)) (w.u64 x2))) [])
def b2D:CE:=(b2L,mkF [pW,pW,pW] [pW] (a4r N))
theorem c3S:CEok Q (b2D N):=fn_K a0r f306 ⟨[],[],[],[],[]⟩ g7q
def c5h:CS:=⟨105,291,⟨[.one (.d tI),.one (.d tW),.one (.d tW)],[]⟩,[.one (.d tW)],true,[]⟩
def b8o (x0 x1 x2:Int):OR:=bi ((w.i32 x1) == (-2147483648:Int)) (bi (x0 == 14) (on1 (a4v N 0 x1 x2)<|gg [pW,pW]<|fun (x3 x4:Int)=>some (0,gW.dv x3 []))<|bi (x0 == 16) (on1 (a4r N 0 x1 x2)<|gg [pW]<|fun (x5:Int)=>some (0,gW.dv x5 []))<|bi (x0 == 13) (bi ((w.i32 x2) == (-1:Int)) (some (0,gW.dv x1 []))<|bi (x0 == 13) (gf (decide ((w.i32 x2) = 0))<|some (0,gW.dv (w.u32 (w.i32 (Int.tdiv (w.i32 x1) (w.i32 x2)))) []))<|bi ((w.i32 x2) == (-1:Int)) (some (0,gW.dv 0 []))<|gf (decide ((w.i32 x2) = 0))<|some (0,gW.dv (w.u32 (Int.tmod (w.i32 x1) (w.i32 x2))) []))<|bi (x0 == 13) (gf (decide ((w.i32 x2) = 0))<|some (0,gW.dv (w.u32 (w.i32 (Int.tdiv (w.i32 x1) (w.i32 x2)))) []))<|bi ((w.i32 x2) == (-1:Int)) (some (0,gW.dv 0 []))<|gf (decide ((w.i32 x2) = 0))<|some (0,gW.dv (w.u32 (Int.tmod (w.i32 x1) (w.i32 x2))) []))<|bi (x0 == 14) (on1 (a4v N 0 x1 x2)<|gg [pW,pW]<|fun (x6 x7:Int)=>some (0,gW.dv x6 []))<|bi (x0 == 16) (on1 (a4r N 0 x1 x2)<|gg [pW]<|fun (x8:Int)=>some (0,gW.dv x8 []))<|bi (x0 == 13) (bi (x0 == 13) (gf (decide ((w.i32 x2) = 0))<|some (0,gW.dv (w.u32 (w.i32 (Int.tdiv (w.i32 x1) (w.i32 x2)))) []))<|gf (decide ((w.i32 x2) = 0))<|some (0,gW.dv (w.u32 (Int.tmod (w.i32 x1) (w.i32 x2))) []))<|bi (x0 == 13) (gf (decide ((w.i32 x2) = 0))<|some (0,gW.dv (w.u32 (w.i32 (Int.tdiv (w.i32 x1) (w.i32 x2)))) []))<|gf (decide ((w.i32 x2) = 0))<|some (0,gW.dv (w.u32 (Int.tmod (w.i32 x1) (w.i32 x2))) [])
def c5F:CE:=(c5h,mkF [pI,pW,pW] [pW] (b8o N))
theorem d5b:CEok Q (c5F N):=fn_K a0r f291 ⟨[((4,2),b2Q),((7,2),b2L)],[],[18,22,32,38,41,45,52],[],[]⟩ (g7x (c3x N) (c3S N))
def d8T:CS:=⟨106,263,⟨[.one (.d tI),.one (.d tW),.one (.d tW)],[]⟩,[.one (.d tW),.one (.d tB)],false,[]⟩
def d1q (x0 x1 x2:Int):OR:=bi (x0 == 1) (some (0,gW.dv (w.u32 (x1+x2)) (gB.dv true [])))<|bi (x0 == 2) (some (0,gW.dv (w.u32 (x1 - x2)) (gB.dv true [])))<|bi (x0 == 3) (some (0,gW.dv (bitAnd .u32 x1 x2) (gB.dv true [])))<|bi (x0 == 4) (some (0,gW.dv (bitOr .u32 x1 x2) (gB.dv true [])))<|bi (x0 == 5) (some (0,gW.dv (bitXor .u32 x1 x2) (gB.dv true [])))<|bi (x0 == 6) (gf (decide ((bitAnd .u32 x2 31) < 0))<|some (0,gW.dv (shl .u32 x1 (bitAnd .u32 x2 31)) (gB.dv true [])))<|bi (x0 == 7) (gf (decide ((bitAnd .u32 x2 31) < 0))<|some (0,gW.dv (shr .u32 x1 (bitAnd .u32 x2 31)) (gB.dv true [])))<|bi (x0 == 8) (gf (decide ((bitAnd .u32 x2 31) < 0))<|some (0,gW.dv (w.u32 (shr .i32 (w.i32 x1) (bitAnd .u32 x2 31))) (gB.dv true [])))<|bi (x0 == 9) (on1 (d3f N (decide ((w.i32 x1) < (w.i32 x2))))<|gg [pW]<|fun (x3:Int)=>some (0,gW.dv x3 (gB.dv true [])))<|bi (x0 == 10) (on1 (d3f N (decide (x1 < x2)))<|gg [pW]<|fun (x4:Int)=>some (0,gW.dv x4 (gB.dv true [])))<|bi (x0 == 11) (some (0,gW.dv (w.u32 (x1*x2)) (gB.dv true [])))<|bi (x0 == 12) (on1 (c6w N (w.i32 x1) (w.i32 x2))<|gg [pW]<|fun (x5:Int)=>some (0,gW.dv x5 (gB.dv true [])))<|bi (x2 == 0) (some (0,gW.dv 0 (gB.dv false [])))<|on1 (b8o N x0 x1 x2)<|gg [pW]<|fun (x6:Int)=>some (0,gW.dv x6 (gB.dv true []))
def d9r:CE:=(d8T,mkF [pI,pW,pW] [pW,pB] (d1q N))
theorem e4x:CEok Q (d9r N):=fn_K a0r f263 ⟨[((19,5),c7g),((21,3),c7g),((25,4),d1b),((28,3),c5h)],[],[9,14,19,24,29,34,40,46,54,62,68,73,81],[],[]⟩ (g7s (e1N N) (e1h N) (d5b N))
def d3b:CS:=⟨107,222,⟨[.agg [.d tI,.d tI,.d tI,.d tI,.d tI],.one (.d tW),.one (.d tW)],[]⟩,[.one (.d tW),.one (.d tB)],false,[]⟩
def d5P (x0:a0o) (x1 x2:Int):OR:=on1 (b8x N x0.1)<|gg [pI]<|fun (x3:Int)=>on1 (b2H N x0)<|gg [pB]<|fun (x4:Bool)=>bi (!x4) (some (0,gW.dv 0 (gB.dv true [])))<|bi (decide (x3 > 3)) (some (0,gW.dv 0 (gB.dv true [])))<|bi (x3 == 3) (gf (decide ((18:Int) < (0:Int)))<|on1 (c2M N (shl .i64 x0.2.2.2.2.1 18))<|gg [pW]<|fun (x5:Int)=>some (0,gW.dv x5 (gB.dv true [])))<|bi (x3 == 2) (on1 (c2M N x0.2.2.2.2.1)<|gg [pW]<|fun (x6:Int)=>on1 (b6L N x0.1)<|gg [pI]<|fun (x7:Int)=>on1 (d1q N x7 x1 x6)<|gg [pW,pB]<|fun (x8:Int) (x9:Bool)=>some (0,gW.dv x8 (gB.dv x9 [])))<|on1 (b6L N x0.1)<|gg [pI]<|fun (x10:Int)=>on1 (d1q N x10 x1 x2)<|gg [pW,pB]<|fun (x11:Int) (x12:Bool)=>some (0,gW.dv x11 (gB.dv x12 []))
def d2F:CE:=(d3b,mkF [a2S,pW,pW] [pW,pB] (d5P N))
theorem d9b:CEok Q (d2F N):=fn_K a0r f222 ⟨[((1,2),b2K),((2,1),b4b),((5,3),c2c),((7,2),c2c),((8,2),c7w),((8,5),d8T)],[],[12,16,20,27],[],[]⟩ (g7p (b8k N) (g7p (b9Y N) (g7s (d4z N) (d6N N) (e4x N))))
def b4B:CS:=⟨108,223,⟨[.agg q_5,.one (.d tI)],[]⟩,[.one (.d tI)],true,[]⟩
def b0K (N:Nat) (x0:a0f) (x1:Int):OR:=bi (x1 == 11) (bi (decide (x0.Mul < 1)) (some (0,gI.dv 1 []))<|bi (decide (x0.Mul > 50)) (some (0,gI.dv 1 []))<|some (0,gI.dv x0.Mul []))<|bi (x1 == 12) (bi (decide (x0.Mul < 1)) (some (0,gI.dv 1 []))<|bi (decide (x0.Mul > 50)) (some (0,gI.dv 1 []))<|some (0,gI.dv x0.Mul []))<|bi (x1 == 13) (bi (decide (x0.Div < 1)) (some (0,gI.dv 1 []))<|bi (decide (x0.Div > 50)) (some (0,gI.dv 1 []))<|some (0,gI.dv x0.Div []))<|bi (x1 == 14) (bi (decide (x0.Div < 1)) (some (0,gI.dv 1 []))<|bi (decide (x0.Div > 50)) (some (0,gI.dv 1 []))<|some (0,gI.dv x0.Div []))<|bi (x1 == 15) (bi (decide (x0.Div < 1)) (some (0,gI.dv 1 []))<|bi (decide (x0.Div > 50)) (some (0,gI.dv 1 []))<|some (0,gI.dv x0.Div []))<|bi (x1 == 16) (bi (decide (x0.Div < 1)) (some (0,gI.dv 1 []))<|bi (decide (x0.Div > 50)) (some (0,gI.dv 1 []))<|some (0,gI.dv x0.Div []))<|bi (decide ((1:Int) < (1:Int))) (some (0,gI.dv 1 []))<|bi (decide ((1:Int) > (50:Int))) (some (0,gI.dv 1 []))<|some (0,gI.dv 1 [])
def b3T:CE:=(b4B,mkF [a0l,pI] [pI] (b0K N))
theorem c2y:CEok Q (b3T N):=fn_K a0r f223 ⟨[],[],[7,12,21,24],[],[]⟩ g7q
def a9M:CS:=⟨109,150,⟨[.one (.p 0 9 [16,16,1,1,1,1,1,1]),.one (.d tI),.one (.d tW),.one (.d tI)],[q_1]⟩,[],false,[q_1]⟩
def a7S (N:Nat) (x0 x1 x2:Int) (x3:a0b):OR:=bi (decide (x0≥1)) (bi (decide (x0≤15)) (gd (idx x0 16)<|gd (idx x0 16)<|some (0,a0c.dv ({ x3 with E:={ x3.E with Regs:=(x3.E.Regs.set x0.toNat x1),Ready:=(x3.E.Ready.set x0.toNat x2) } }:a0b) []))<|some (0,a0c.dv x3 []))<|some (0,a0c.dv x3 [])
def a9t:CE:=(a9M,mkF [pI,pW,pI,a0d] [a0d] (a7S N))
theorem b4G:CEok Q (a9t N):=fn_K a0r f150 ⟨[],[],[10,13],[],[]⟩ g7q
def a3I:CS:=⟨110,151,⟨[.one (.p 0 9 [16,16,1,1,1,1,1,1])],[q_1]⟩,[],false,[q_1]⟩
def a3V (N:Nat) (x0:a0b):OR:=some (0,a0c.dv ({ x0 with E:={ x0.E with Pos:={ x0.E.Pos with Index:=(w.i64 (x0.E.Pos.Index+1)) },Done:=(w.i64 (x0.E.Done+1)) } }:a0b) [])
def a5T:CE:=(a3I,mkF [a0d] [a0d] (a3V N))
theorem a8R:CEok Q (a5T N):=fn_K a0r f151 ⟨[],[],[],[],[]⟩ g7q
def c4L:CS:=⟨111,149,⟨[.agg q_5,.one (.p 0 0 [1,16,16,1,1,1,1,1,1,16,16,1,1,1,1,1,1,1,1,1,1,1,1,1,1,1,1,1,1,1,1,1]),.one (.p 0 9 [16,16,1,1,1,1,1,1]),.agg q_2,.one (.d tI)],[q_1]⟩,[],false,[q_1]⟩
def b7H (x0:a0f) (x1:a0h) (x2:Int) (x3:a0b):OR:=on1 (a2s N x3.E x1.2.1.2.2.1)<|gg [pW]<|fun (x4:Int)=>on1 (a2s N x3.E x1.2.1.2.2.2.1)<|gg [pW]<|fun (x5:Int)=>on1 (d5P N x1.2.1 x4 x5)<|gg [pW,pB]<|fun (x6:Int) (x7:Bool)=>bi (!x7) (on1 (a6z N 3 x2 x1.2.2.2.1 x3)<|gg [a0d]<|fun (x8:a0b)=>some (0,a0c.dv x8 []))<|on1 (b0K N x0 x1.2.1.1)<|gg [pI]<|fun (x9:Int)=>on1 (a7S N x1.2.1.2.1 x6 (w.i64 (x3.Cycle+x9)) x3)<|gg [a0d]<|fun (x10:a0b)=>on1 (a3V N x10)<|gg [a0d]<|fun (x11:a0b)=>some (0,a0c.dv x11 [])
def c4J:CE:=(c4L,mkF [a0l,a0E,pI,a0d] [a0d] (b7H N))
theorem d6u:CEok Q (c4J N):=fn_K a0r f149 ⟨[((1,6),a2d),((1,11),a2d),((1,12),d3b),((3,4),a6j),((4,13),b4B),((4,15),a9M),((5,1),a3I)],[],[29],[],[]⟩ (g7p (a6h N) (g7p (d9b N) (g7p (a8P N) (g7s (c2y N) (b4G N) (a8R N)))))
def c9a:CS:=⟨112,224,⟨[.one (.d (.sl a0k))],[]⟩,[.one (.o a0k),.one (.d tW),.one (.d tB)],false,[]⟩
def c0G (x0:List a0q):OR:=on1 (a1a N x0)<|gg [pD (.sl a0k)]<|fun (x1:List a0q)=>bi ((len x1) == 0) (some (0,(gD (.sl a0k)).dv x1 (gW.dv 0 (gB.dv false []))))<|gd (idx 0 x1.length)<|bi (!(x1.getD 0 a0q.z).2.1) (some (0,(gD (.sl a0k)).dv x1 (gW.dv 0 (gB.dv false []))))<|gd (sb 1 (len x1))<|gd (idx 0 x1.length)<|some (0,(gD (.sl a0k)).dv (List.drop 1 x1) (gW.dv ((x1.getD 0 a0q.z).2.2.1) (gB.dv true [])))
def c9g:CE:=(c9a,mkF [pD (.sl a0k)] [pD (.sl a0k),pW,pB] (c0G N))
theorem d7V:CEok Q (c9g N):=fn_K a0r f224 ⟨[((1,1),a2p)],[],[11,17],[],[]⟩ (g7o (a3F N))
def c7h:CS:=⟨113,152,⟨[.one (.p 0 0 [1,16,16,1,1,1,1,1,1,16,16,1,1,1,1,1,1,1,1,1,1,1,1,1,1,1,1,1,1,1,1,1]),.agg q_2],[q_1]⟩,[],false,[q_1]⟩
def c8T (x0:a0h) (x1:a0b):OR:=on1 (c0G N x1.Ldq)<|gg [pD (.sl a0k),pW,pB]<|fun (x2:List a0q) (x3:Int) (x4:Bool)=>bi (!x4) (some (0,a0c.dv x1 []))<|on1 (a7S N x0.2.1.2.1 x3 (w.i64 (x1.Cycle+1)) ({ x1 with Ldq:=x2 }:a0b))<|gg [a0d]<|fun (x5:a0b)=>on1 (a3V N x5)<|gg [a0d]<|fun (x6:a0b)=>some (0,a0c.dv x6 [])
def c6O:CE:=(c7h,mkF [a0E,a0d] [a0d] (c8T N))
theorem d8C:CEok Q (c6O N):=fn_K a0r f152 ⟨[((1,4),c9a),((4,12),a9M),((5,3),a3I)],[],[17],[],[]⟩ (g7s (d7V N) (b4G N) (a8R N))
def c0w:CS:=⟨114,225,⟨[.one (.d tI),.one (.d tW),.one (.d tW)],[]⟩,[.one (.d tB)],true,[]⟩
def b6n (N:Nat) (x0 x1 x2:Int):OR:=bi (x0 == 34) (some (0,gB.dv (x1 == x2) []))<|bi (x0 == 35) (some (0,gB.dv (x1 != x2) []))<|bi (x0 == 36) (some (0,gB.dv (decide ((w.i32 x1) < (w.i32 x2))) []))<|bi (x0 == 37) (some (0,gB.dv (decide ((w.i32 x1)≥(w.i32 x2))) []))<|bi (x0 == 38) (some (0,gB.dv (decide (x1 < x2)) []))<|bi (x0 == 39) (some (0,gB.dv (decide (x1≥x2)) []))<|some (0,gB.dv false [])
def c0v:CE:=(c0w,mkF [pI,pW,pW] [pB] (b6n N))
theorem c8Q:CEok Q (c0v N):=fn_K a0r f225 ⟨[],[],[8,13,18,25,32,37],[],[]⟩ g7q
def c2J:CS:=⟨115,226,⟨[.agg [.d (.sl a0n),.d (.ar 16 tI)],.agg [.d tI,.d tI,.d tI],.one (.d tB)],[]⟩,[.agg [.d tI,.d tI,.d tI]],true,[]⟩
def c2D (x0:a0g) (x1:a0C) (x2:Bool):OR:=bi x2 (on1 (a7o N x0 x1.Block)<|gg [pB]<|fun (x3:Bool)=>bi x3 (gd (idx x1.Block x0.Blocks.length)<|on1 (a7o N x0 ((x0.Blocks.getD x1.Block.toNat a0x.z).2.2.2.1))<|gg [pB]<|fun (x4:Bool)=>bi x4 (gd (idx x1.Block x0.Blocks.length)<|on1 (b0G N x0 x1)<|gg [pI]<|fun (x5:Int)=>some (0,a0P.dv (a0C.mk ((x0.Blocks.getD x1.Block.toNat a0x.z).2.2.2.1) 0 x5) []))<|some (0,a0P.dv ({ x1 with Index:=(w.i64 (x1.Index+1)) }:a0C) []))<|some (0,a0P.dv ({ x1 with Index:=(w.i64 (x1.Index+1)) }:a0C) []))<|some (0,a0P.dv ({ x1 with Index:=(w.i64 (x1.Index+1)) }:a0C) [])
def c3i:CE:=(c2J,mkF [a0m,a0L,pB] [a0L] (c2D N))
theorem d0s:CEok Q (c3i N):=fn_K a0r f226 ⟨[((1,5),a6d),((1,16),a6d),((2,9),b3R)],[],[8,14,24],[],[]⟩ (g7x (b4X N) (b9U N))
def b1m:CS:=⟨116,156,⟨[.agg [.d (.sl a0n),.d (.ar 16 tI)],.one (.p 0 0 [1,16,16,1,1,1,1,1,1,16,16,1,1,1,1,1,1,1,1,1,1,1,1,1,1,1,1,1,1,1,1,1]),.one (.p 0 9 [16,16,1,1,1,1,1,1]),.one (.d tB)],[q_1]⟩,[],false,[q_1]⟩
def b0f (x0:a0g) (x1:Bool) (x2:a0b):OR:=on1 (c2D N x0 x2.E.Pos x1)<|gg [a0L]<|fun (x3:a0C)=>bi x1 (some (0,a0c.dv ({ x2 with E:={ x2.E with Pos:=x3,Wait:=(w.i64 (x2.Cycle+2)),Done:=(w.i64 (x2.E.Done+1)) } }:a0b) []))<|some (0,a0c.dv ({ x2 with E:={ x2.E with Pos:=x3,Done:=(w.i64 (x2.E.Done+1)) } }:a0b) [])
def b1s:CE:=(b1m,mkF [a0m,pB,a0d] [a0d] (b0f N))
theorem b5H:CEok Q (b1s N):=fn_K a0r f156 ⟨[((1,7),c2J)],[],[18],[],[]⟩ (g7o (d0s N))
def a9i:CS:=⟨117,154,⟨[.agg [.d (.sl a0n),.d (.ar 16 tI)],.one (.p 0 0 [1,16,16,1,1,1,1,1,1,16,16,1,1,1,1,1,1,1,1,1,1,1,1,1,1,1,1,1,1,1,1,1]),.one (.p 0 9 [16,16,1,1,1,1,1,1]),.agg q_2,.one (.p 0 21 [1]),.one (.d tI)],[q_1]⟩,[],false,[q_1]⟩
def a6G (x0:a0g) (x1:a0h) (x2:Int) (x3:a0b):OR:=bi (decide ((len x3.Ebq)≥x2)) (some (0,a0c.dv x3 []))<|on1 (a2s N x3.E x1.2.1.2.2.1)<|gg [pW]<|fun (x4:Int)=>on1 (a2s N x3.E x1.2.1.2.2.2.1)<|gg [pW]<|fun (x5:Int)=>on1 (b6n N x1.2.1.1 x4 x5)<|gg [pB]<|fun (x6:Bool)=>gd (rm x3.Ebq [x6] 1)<|on1 (b0f N x0 x6 ({ x3 with Ebq:=(x3.Ebq++[x6]) }:a0b))<|gg [a0d]<|fun (x7:a0b)=>some (0,a0c.dv x7 [])
def a9l:CE:=(a9i,mkF [a0m,a0E,pI,a0d] [a0d] (a6G N))
theorem b8M:CEok Q (a9l N):=fn_K a0r f154 ⟨[((2,7),a2d),((2,12),a2d),((2,13),c0w),((4,4),b1m)],[],[18],[],[]⟩ (g7s (a6h N) (c8Q N) (b5H N))
def a8W:CS:=⟨118,155,⟨[.agg [.d (.sl a0n),.d (.ar 16 tI)],.one (.p 0 0 [1,16,16,1,1,1,1,1,1,16,16,1,1,1,1,1,1,1,1,1,1,1,1,1,1,1,1,1,1,1,1,1]),.one (.p 0 9 [16,16,1,1,1,1,1,1]),.one (.p 0 20 [1])],[q_1]⟩,[],false,[q_1]⟩
def a7s (x0:a0g) (x1:a0b):OR:=bi ((len x1.Abq) == 0) (some (0,a0c.dv x1 []))<|gd (idx 0 x1.Abq.length)<|gd (sb 1 (len x1.Abq))<|on1 (b0f N x0 (x1.Abq.getD 0 false) ({ x1 with Abq:=(List.drop 1 x1.Abq) }:a0b))<|gg [a0d]<|fun (x2:a0b)=>some (0,a0c.dv x2 [])
def a9f:CE:=(a8W,mkF [a0m,a0d] [a0d] (a7s N))
theorem b8L:CEok Q (a9f N):=fn_K a0r f155 ⟨[((4,4),b1m)],[],[13],[],[]⟩ (g7o (b5H N))
def b9l:CS:=⟨119,157,⟨[.one (.p 0 9 [16,16,1,1,1,1,1,1])],[q_1]⟩,[],false,[q_1]⟩
def b6p (N:Nat) (x0:a0b):OR:=some (0,a0c.dv ({ x0 with E:={ x0.E with Halted:=true,Done:=(w.i64 (x0.E.Done+1)) } }:a0b) [])
def b9J:CE:=(b9l,mkF [a0d] [a0d] (b6p N))
theorem c9Q:CEok Q (b9J N):=fn_K a0r f157 ⟨[],[],[],[],[]⟩ g7q
def c5L:CS:=⟨120,82,⟨[.agg q_5,.agg [.d (.sl a0n),.d (.ar 16 tI)],.one (.p 0 0 [1,16,16,1,1,1,1,1,1,16,16,1,1,1,1,1,1,1,1,1,1,1,1,1,1,1,1,1,1,1,1,1])],[q_1]⟩,[],false,[q_1]⟩
def b8D (x0:a0f) (x1:a0g) (x2:a0b):OR:=on1 (b7V N x1 true x2)<|gg [a0E,pI,pB,a0d]<|fun (x3:a0h) (x4:Int) (x5:Bool) (x6:a0b)=>bi (!x5) (some (0,a0c.dv x6 []))<|on1 (b3o N x6.E x3 x6.Cycle)<|gg [pB]<|fun (x7:Bool)=>bi (!x7) (some (0,a0c.dv x6 []))<|bi (x3.1 == 1) (on1 (b7H N x0 x3 x4 x6)<|gg [a0d]<|fun (x8:a0b)=>some (0,a0c.dv x8 []))<|bi (x3.1 == 6) (bi (decide ((len x6.Aeq) > 0)) (gd (idx 0 x6.Aeq.length)<|on1 (a7S N x3.2.2.1 (x6.Aeq.getD 0 0) (w.i64 (x6.Cycle+1)) x6)<|gg [a0d]<|fun (x9:a0b)=>gd (sb 1 (len x9.Aeq))<|on1 (a3V N ({ x9 with Aeq:=(List.drop 1 x9.Aeq) }:a0b))<|gg [a0d]<|fun (x10:a0b)=>some (0,a0c.dv x10 []))<|some (0,a0c.dv x6 []))<|bi (x3.1 == 7) (on1 (c8T N x3 x6)<|gg [a0d]<|fun (x11:a0b)=>some (0,a0c.dv x11 []))<|bi (x3.1 == 8) (bi (decide ((len x6.Sdq) < x0.Sdq)) (on1 (a2s N x6.E x3.2.2.1)<|gg [pW]<|fun (x12:Int)=>gd (rm x6.Sdq [x12] 4)<|on1 (a3V N ({ x6 with Sdq:=(x6.Sdq++[x12]) }:a0b))<|gg [a0d]<|fun (x13:a0b)=>some (0,a0c.dv x13 []))<|some (0,a0c.dv x6 []))<|bi (x3.1 == 9) (on1 (a6G N x1 x3 x0.Ebq x6)<|gg [a0d]<|fun (x14:a0b)=>some (0,a0c.dv x14 []))<|bi (x3.1 == 10) (on1 (a7s N x1 x6)<|gg [a0d]<|fun (x15:a0b)=>some (0,a0c.dv x15 []))<|bi (x3.1 == 11) (on1 (b0f N x1 true x6)<|gg [a0d]<|fun (x16:a0b)=>some (0,a0c.dv x16 []))<|bi (x3.1 == 12) (on1 (b6p N x6)<|gg [a0d]<|fun (x17:a0b)=>some (0,a0c.dv x17 []))<|some (0,a0c.dv x6 [])
def c5G:CE:=(c5L,mkF [a0l,a0m,a0d] [a0d] (b8D N))
theorem d6e:CEok Q (c5G N):=fn_K a0r f82 ⟨[((2,3),c4P),((3,11),b6m),((6,5),c4L),((9,14),a9M),((11,1),a3I),((13,2),c7h),((16,8),a2d),((17,1),a3I),((19,9),a9i),((21,6),a8W),((23,3),b1m),((25,1),b9l)],[],[23,34,37,45,52,78,83,92,108,120,129,135],[],[]⟩ (g7p (d5n N) (g7p (c4i N) (g7p (d6u N) (g7p (b4G N) (g7p (a8R N) (g7p (d8C N) (g7p (a6h N) (g7p (b8M N) (g7s (b8L N) (b5H N) (c9Q N))))))))))
def b0g:CS:=⟨122,76,⟨[.one (.d (.sl tW)),.one (.d (.sl tW))],[]⟩,[.one (.d tB)],true,[]⟩
def b3m:LS:=⟨⟨[.one (.d (.sl tW)),.one (.d (.sl tW)),.no,.no,.no,.one (.d tI)]++nos 20,[]⟩,[(0,⟨[.no,.no,.no,.no,.one (.d tB)]++nos 21,[]⟩),(1,⟨nos 26,[]⟩)]⟩
def a7v:Hi:=⟨[],[(0,b3m)],[10,14,25],[],[]⟩
theorem b5q (N:Nat):AllP (CEok Q) []:=g7q
def a5R (N:Nat) (again:Fn' OR [pD (.sl tW),pD (.sl tW),pI]) (x0 x1:List Int) (x2:Int):OR:=bi (decide (x2 < (len x0))) (gd (idx x2 x0.length)<|gd (idx x2 x1.length)<|bi ((x0.getD x2.toNat 0) != (x1.getD x2.toNat 0)) (some (0,gB.dv false []))<|again x0 x1 (w.i64 (x2+1)))<|some (1,[])
def a5P:Nat→Fn' OR [pD (.sl tW),pD (.sl tW),pI]:=lpG (a5R N)
theorem c3j:LEok Q a7v (bodOf f76) f76.ntmps 0 (0,mkM [pD (.sl tW),pD (.sl tW),pI] [(0,[pB]),(1,[])] (a5P N N)):=g7r a0r 76 b3m (b5q N)
def a7e (x0 x1:List Int):OR:=bi ((len x0) != (len x1)) (some (0,gB.dv false []))<|onB 0 1 (a5P N N x0 x1 0) (gg [pB]<|fun (x2:Bool)=>some (0,gB.dv x2 []))<|gg []<|some (0,gB.dv true [])
def b5Y:CE:=(b0g,mkF [pD (.sl tW),pD (.sl tW)] [pB] (a7e N))
theorem c8D:CEok Q (b5Y N):=fn_L a0r f76 a7v (b5q N) (g7o (c3j N))
def b0m:CS:=⟨123,77,⟨[.one (.d (.sl tB)),.one (.d (.sl tB))],[]⟩,[.one (.d tB)],true,[]⟩
def b3z:LS:=⟨⟨[.one (.d (.sl tB)),.one (.d (.sl tB)),.no,.no,.no,.one (.d tI)]++nos 20,[]⟩,[(0,⟨[.no,.no,.no,.no,.one (.d tB)]++nos 21,[]⟩),(1,⟨nos 26,[]⟩)]⟩
def a6D:Hi:=⟨[],[(0,b3z)],[10,14,25],[],[]⟩
theorem b5r (N:Nat):AllP (CEok Q) []:=g7q
def a5L (N:Nat) (again:Fn' OR [pD (.sl tB),pD (.sl tB),pI]) (x0 x1:List Bool) (x2:Int):OR:=bi (decide (x2 < (len x0))) (gd (idx x2 x0.length)<|gd (idx x2 x1.length)<|bi (!((x0.getD x2.toNat false) == (x1.getD x2.toNat false))) (some (0,gB.dv false []))<|again x0 x1 (w.i64 (x2+1)))<|some (1,[])
def a5X:Nat→Fn' OR [pD (.sl tB),pD (.sl tB),pI]:=lpG (a5L N)
theorem c3n:LEok Q a6D (bodOf f77) f77.ntmps 0 (0,mkM [pD (.sl tB),pD (.sl tB),pI] [(0,[pB]),(1,[])] (a5X N N)):=g7r a0r 77 b3z (b5r N)
def a7p (x0 x1:List Bool):OR:=bi ((len x0) != (len x1)) (some (0,gB.dv false []))<|onB 0 1 (a5X N N x0 x1 0) (gg [pB]<|fun (x2:Bool)=>some (0,gB.dv x2 []))<|gg []<|some (0,gB.dv true [])
def b6E:CE:=(b0m,mkF [pD (.sl tB),pD (.sl tB)] [pB] (a7p N))
theorem c6P:CEok Q (b6E N):=fn_L a0r f77 a6D (b5r N) (g7o (c3n N))
def b0t:CS:=⟨124,31,⟨[.agg q_0,.agg q_0],[]⟩,[.one (.d tB)],true,[]⟩
def b3v:LS:=⟨⟨[.no,.no,.one (.p 0 0 [1,16,16,1,1,1,1,1,1,16,16,1,1,1,1,1,1,1,1,1,1,1,1,1,1,1,1,1,1,1,1,1]),.one (.p 1 0 [1,16,16,1,1,1,1,1,1,16,16,1,1,1,1,1,1,1,1,1,1,1,1,1,1,1,1,1,1,1,1,1]),.no,.one (.d tI)]++nos 193,[q_0,q_0]⟩,[(0,⟨[.no,.no,.no,.no,.one (.d tB)]++nos 194,[]⟩),(1,⟨[.no,.no,.one (.p 0 0 [1,16,16,1,1,1,1,1,1,16,16,1,1,1,1,1,1,1,1,1,1,1,1,1,1,1,1,1,1,1,1,1]),.one (.p 1 0 [1,16,16,1,1,1,1,1,1,16,16,1,1,1,1,1,1,1,1,1,1,1,1,1,1,1,1,1,1,1,1,1])]++nos 195,[q_0,q_0]⟩)]⟩
def b3b:LS:=⟨⟨[.no,.no,.one (.p 0 0 [1,16,16,1,1,1,1,1,1,16,16,1,1,1,1,1,1,1,1,1,1,1,1,1,1,1,1,1,1,1,1,1]),.one (.p 1 0 [1,16,16,1,1,1,1,1,1,16,16,1,1,1,1,1,1,1,1,1,1,1,1,1,1,1,1,1,1,1,1,1]),.no,.no,.one (.d tI)]++nos 192,[q_0,q_0]⟩,[(0,⟨[.no,.no,.no,.no,.one (.d tB)]++nos 194,[]⟩),(3,⟨[.no,.no,.one (.p 0 0 [1,16,16,1,1,1,1,1,1,16,16,1,1,1,1,1,1,1,1,1,1,1,1,1,1,1,1,1,1,1,1,1]),.one (.p 1 0 [1,16,16,1,1,1,1,1,1,16,16,1,1,1,1,1,1,1,1,1,1,1,1,1,1,1,1,1,1,1,1,1])]++nos 195,[q_0,q_0]⟩)]⟩
def b3y:LS:=⟨⟨[.no,.no,.one (.p 0 0 [1,16,16,1,1,1,1,1,1,16,16,1,1,1,1,1,1,1,1,1,1,1,1,1,1,1,1,1,1,1,1,1]),.one (.p 1 0 [1,16,16,1,1,1,1,1,1,16,16,1,1,1,1,1,1,1,1,1,1,1,1,1,1,1,1,1,1,1,1,1]),.no,.no,.no,.one (.d tI)]++nos 191,[q_0,q_0]⟩,[(0,⟨[.no,.no,.no,.no,.one (.d tB)]++nos 194,[]⟩),(5,⟨[.no,.no,.one (.p 0 0 [1,16,16,1,1,1,1,1,1,16,16,1,1,1,1,1,1,1,1,1,1,1,1,1,1,1,1,1,1,1,1,1]),.one (.p 1 0 [1,16,16,1,1,1,1,1,1,16,16,1,1,1,1,1,1,1,1,1,1,1,1,1,1,1,1,1,1,1,1,1])]++nos 195,[q_0,q_0]⟩)]⟩
def b3e:LS:=⟨⟨[.no,.no,.one (.p 0 0 [1,16,16,1,1,1,1,1,1,16,16,1,1,1,1,1,1,1,1,1,1,1,1,1,1,1,1,1,1,1,1,1]),.one (.p 1 0 [1,16,16,1,1,1,1,1,1,16,16,1,1,1,1,1,1,1,1,1,1,1,1,1,1,1,1,1,1,1,1,1]),.no,.no,.no,.no,.one (.d tI)]++nos 190,[q_0,q_0]⟩,[(0,⟨[.no,.no,.no,.no,.one (.d tB)]++nos 194,[]⟩),(7,⟨[.no,.no,.one (.p 0 0 [1,16,16,1,1,1,1,1,1,16,16,1,1,1,1,1,1,1,1,1,1,1,1,1,1,1,1,1,1,1,1,1]),.one (.p 1 0 [1,16,16,1,1,1,1,1,1,16,16,1,1,1,1,1,1,1,1,1,1,1,1,1,1,1,1,1,1,1,1,1])]++nos 195,[q_0,q_0]⟩)]⟩
def a1o:Hi:=⟨[((23,4),b0g),((23,10),b0g),((23,17),b0m),((23,24),b0m)],[(0,b3v),(2,b3b),(4,b3y),(6,b3e)],[14,21,28,35,42,49,56,65,74,83,92,100,105,118,123,136,141,154,159,172,178,185,192],[],[]⟩
theorem a3H:AllP (CEok Q) [b5Y N,b6E N]:=g7x (c8D N) (c6P N)
def a5M (N:Nat) (again:Fn' OR [pI,a0d,a0d]) (x0:Int) (x1 x2:a0b):OR:=bi (decide (x0 < (len x1.Ldq))) (gd (idx x0 x1.Ldq.length)<|gd (idx x0 x2.Ldq.length)<|bi (!(((x1.Ldq.getD x0.toNat a0q.z).1 == (x2.Ldq.getD x0.toNat a0q.z).1) && (((x1.Ldq.getD x0.toNat a0q.z).2.1 == (x2.Ldq.getD x0.toNat a0q.z).2.1) && ((x1.Ldq.getD x0.toNat a0q.z).2.2.1 == (x2.Ldq.getD x0.toNat a0q.z).2.2.1)))) (some (0,gB.dv false []))<|again (w.i64 (x0+1)) x1 x2)<|some (1,a0c.dv x1 (a0c.dv x2 []))
def a5O:Nat→Fn' OR [pI,a0d,a0d]:=lpG (a5M N)
theorem c3w:LEok Q a1o (bodOf f31) f31.ntmps 0 (0,mkM [pI,a0d,a0d] [(0,[pB]),(1,[a0d,a0d])] (a5O N N)):=g7r a0r 31 b3v (a3H N)
def a5U (N:Nat) (again:Fn' OR [pI,a0d,a0d]) (x0:Int) (x1 x2:a0b):OR:=bi (decide (x0 < (len x1.Saq))) (gd (idx x0 x1.Saq.length)<|gd (idx x0 x2.Saq.length)<|bi (!(((x1.Saq.getD x0.toNat a0a.z).1 == (x2.Saq.getD x0.toNat a0a.z).1) && (((x1.Saq.getD x0.toNat a0a.z).2.1 == (x2.Saq.getD x0.toNat a0a.z).2.1) && (((x1.Saq.getD x0.toNat a0a.z).2.2.1 == (x2.Saq.getD x0.toNat a0a.z).2.2.1) && (((x1.Saq.getD x0.toNat a0a.z).2.2.2.1 == (x2.Saq.getD x0.toNat a0a.z).2.2.2.1) && ((x1.Saq.getD x0.toNat a0a.z).2.2.2.2.1 == (x2.Saq.getD x0.toNat a0a.z).2.2.2.2.1)))))) (some (0,gB.dv false []))<|again (w.i64 (x0+1)) x1 x2)<|some (3,a0c.dv x1 (a0c.dv x2 []))
def a5J:Nat→Fn' OR [pI,a0d,a0d]:=lpG (a5U N)
theorem c2O:LEok Q a1o (bodOf f31) f31.ntmps 0 (2,mkM [pI,a0d,a0d] [(0,[pB]),(3,[a0d,a0d])] (a5J N N)):=g7r a0r 31 b3b (a3H N)
def a5I (N:Nat) (again:Fn' OR [pI,a0d,a0d]) (x0:Int) (x1 x2:a0b):OR:=bi (decide (x0 < (len x1.Table))) (gd (idx x0 x1.Table.length)<|gd (idx x0 x2.Table.length)<|bi (!(((x1.Table.getD x0.toNat a0e.z).1 == (x2.Table.getD x0.toNat a0e.z).1) && (((x1.Table.getD x0.toNat a0e.z).2.1 == (x2.Table.getD x0.toNat a0e.z).2.1) && (((x1.Table.getD x0.toNat a0e.z).2.2.1 == (x2.Table.getD x0.toNat a0e.z).2.2.1) && (((x1.Table.getD x0.toNat a0e.z).2.2.2.1 == (x2.Table.getD x0.toNat a0e.z).2.2.2.1) && (((x1.Table.getD x0.toNat a0e.z).2.2.2.2.1 == (x2.Table.getD x0.toNat a0e.z).2.2.2.2.1) && (((x1.Table.getD x0.toNat a0e.z).2.2.2.2.2.1 == (x2.Table.getD x0.toNat a0e.z).2.2.2.2.2.1) && (((x1.Table.getD x0.toNat a0e.z).2.2.2.2.2.2.1 == (x2.Table.getD x0.toNat a0e.z).2.2.2.2.2.2.1) && ((x1.Table.getD x0.toNat a0e.z).2.2.2.2.2.2.2.1 == (x2.Table.getD x0.toNat a0e.z).2.2.2.2.2.2.2.1))))))))) (some (0,gB.dv false []))<|again (w.i64 (x0+1)) x1 x2)<|some (5,a0c.dv x1 (a0c.dv x2 []))
def a5V:Nat→Fn' OR [pI,a0d,a0d]:=lpG (a5I N)
theorem c2S:LEok Q a1o (bodOf f31) f31.ntmps 0 (4,mkM [pI,a0d,a0d] [(0,[pB]),(5,[a0d,a0d])] (a5V N N)):=g7r a0r 31 b3y (a3H N)
def a5N (N:Nat) (again:Fn' OR [pI,a0d,a0d]) (x0:Int) (x1 x2:a0b):OR:=bi (decide (x0 < (len x1.Writes))) (gd (idx x0 x1.Writes.length)<|gd (idx x0 x2.Writes.length)<|bi (!(((x1.Writes.getD x0.toNat a0K.z).1 == (x2.Writes.getD x0.toNat a0K.z).1) && (((x1.Writes.getD x0.toNat a0K.z).2.1 == (x2.Writes.getD x0.toNat a0K.z).2.1) && ((x1.Writes.getD x0.toNat a0K.z).2.2.1 == (x2.Writes.getD x0.toNat a0K.z).2.2.1)))) (some (0,gB.dv false []))<|again (w.i64 (x0+1)) x1 x2)<|some (7,a0c.dv x1 (a0c.dv x2 []))
def a5Q:Nat→Fn' OR [pI,a0d,a0d]:=lpG (a5N N)
theorem c2V:LEok Q a1o (bodOf f31) f31.ntmps 0 (6,mkM [pI,a0d,a0d] [(0,[pB]),(7,[a0d,a0d])] (a5Q N N)):=g7r a0r 31 b3e (a3H N)
def a7j (x0 x1:a0b):OR:=bi (x0.Cycle != x1.Cycle) (some (0,gB.dv false []))<|bi (!((x0.A.Regs == x1.A.Regs) && ((x0.A.Ready == x1.A.Ready) && ((x0.A.Pos.Block == x1.A.Pos.Block) && ((x0.A.Pos.Index == x1.A.Pos.Index) && ((x0.A.Pos.Base == x1.A.Pos.Base) && ((x0.A.Wait == x1.A.Wait) && ((x0.A.Halted == x1.A.Halted) && (x0.A.Done == x1.A.Done))))))))) (some (0,gB.dv false []))<|bi (!((x0.E.Regs == x1.E.Regs) && ((x0.E.Ready == x1.E.Ready) && ((x0.E.Pos.Block == x1.E.Pos.Block) && ((x0.E.Pos.Index == x1.E.Pos.Index) && ((x0.E.Pos.Base == x1.E.Pos.Base) && ((x0.E.Wait == x1.E.Wait) && ((x0.E.Halted == x1.E.Halted) && (x0.E.Done == x1.E.Done))))))))) (some (0,gB.dv false []))<|bi (!((x0.Trap.Kind == x1.Trap.Kind) && ((x0.Trap.Step == x1.Trap.Step) && (x0.Trap.Pc == x1.Trap.Pc)))) (some (0,gB.dv false []))<|bi (x0.Lats != x1.Lats) (some (0,gB.dv false []))<|bi (x0.Picks != x1.Picks) (some (0,gB.dv false []))<|bi (x0.Tags != x1.Tags) (some (0,gB.dv false []))<|bi (!((strOf x0.Mem).toList == (strOf x1.Mem).toList)) (some (0,gB.dv false []))<|bi ((len x0.Ldq) != (len x1.Ldq)) (some (0,gB.dv false []))<|bi ((len x0.Saq) != (len x1.Saq)) (some (0,gB.dv false []))<|bi ((len x0.Table) != (len x1.Table)) (some (0,gB.dv false []))<|bi ((len x0.Writes) != (len x1.Writes)) (some (0,gB.dv false []))<|onB 0 1 (a5O N N 0 x0 x1) (gg [pB]<|fun (x2:Bool)=>some (0,gB.dv x2 []))<|gg [a0d,a0d]<|fun (x3 x4:a0b)=>onB 0 3 (a5J N N 0 x3 x4) (gg [pB]<|fun (x5:Bool)=>some (0,gB.dv x5 []))<|gg [a0d,a0d]<|fun (x6 x7:a0b)=>onB 0 5 (a5V N N 0 x6 x7) (gg [pB]<|fun (x8:Bool)=>some (0,gB.dv x8 []))<|gg [a0d,a0d]<|fun (x9 x10:a0b)=>onB 0 7 (a5Q N N 0 x9 x10) (gg [pB]<|fun (x11:Bool)=>some (0,gB.dv x11 []))<|gg [a0d,a0d]<|fun (x12 x13:a0b)=>on1 (a7e N x12.Sdq x13.Sdq)<|gg [pB]<|fun (x14:Bool)=>bi x14 (on1 (a7e N x12.Aeq x13.Aeq)<|gg [pB]<|fun (x15:Bool)=>bi x15 (on1 (a7p N x12.Abq x13.Abq)<|gg [pB]<|fun (x16:Bool)=>bi x16 (on1 (a7p N x12.Ebq x13.Ebq)<|gg [pB]<|fun (x17:Bool)=>some (0,gB.dv x17 []))<|some (0,gB.dv false []))<|some (0,gB.dv false []))<|some (0,gB.dv false [])
def b0O:CE:=(b0t,mkF [a0d,a0d] [pB] (a7j N))
theorem b5V:CEok Q (b0O N):=fn_L a0r f31 a1o (a3H N) (g7p (c3w N) (g7s (c2O N) (c2S N) (c2V N)))
def b2E:CS:=⟨126,98,⟨[.agg [.d (.sl a0n),.d (.ar 16 tI)],.one (.d tI)],[]⟩,[.one (.d tI)],true,[]⟩
def b3N (N:Nat) (x0:a0g) (x1:Int):OR:=bi (decide (x1 < 0)) (some (0,gI.dv 0 []))<|bi (decide (x1≥(len x0.Blocks))) (some (0,gI.dv 0 []))<|gd (idx x1 x0.Blocks.length)<|gd (idx x1 x0.Blocks.length)<|some (0,gI.dv (w.i64 ((x0.Blocks.getD x1.toNat a0x.z).2.1 - (x0.Blocks.getD x1.toNat a0x.z).1)) [])
def b7N:CE:=(b2E,mkF [a0m,pI] [pI] (b3N N))
theorem c3O:CEok Q (b7N N):=fn_K a0r f98 ⟨[],[],[7,13],[],[]⟩ g7q
def b1O:CS:=⟨127,83,⟨[.agg [.d (.sl a0n),.d (.ar 16 tI)],.one (.d tB),.agg [.d tI,.d tI,.d tI]],[]⟩,[.agg [.d tI,.d tI,.d tI],.one (.d tB)],false,[]⟩
def b9I:LS:=⟨⟨[.no,.one (.d tB),.no,.one (.p 0 0 [1,16]),.no,.one (.p 1 0 [1,1,1]),.one (.p 2 0 [1,1,1]),.no,.one (.d tI)]++nos 57,[[.d (.sl a0n),.d (.ar 16 tI)],[.d tI,.d tI,.d tI],[.d tI,.d tI,.d tI]]⟩,[(0,⟨nos 6++[.one (.p 0 0 [1,1,1]),.one (.d tB)]++nos 58,[[.d tI,.d tI,.d tI]]⟩),(1,⟨[.no,.no,.no,.no,.no,.one (.p 0 0 [1,1,1]),.one (.p 1 0 [1,1,1])]++nos 59,[[.d tI,.d tI,.d tI],[.d tI,.d tI,.d tI]]⟩)]⟩
def b1C:Hi:=⟨[((6,6),b4Y),((11,6),b2E)],[(0,b9I)],[14,20,27,37,48,54],[],[]⟩
theorem c1x:AllP (CEok Q) [b4d N,b7N N]:=g7x (c0s N) (c3O N)
def a9T (again:Fn' OR [pB,pI,a0m,a0L,a0L]) (x0:Bool) (x1:Int) (x2:a0g) (x3 x4:a0C):OR:=bi (decide (x1≤(len x2.Blocks))) (bi (decide (x3.Block < 0)) (some (0,gB.dv true (a0P.dv x3 [])))<|bi (decide (x3.Block≥(len x2.Blocks))) (some (0,gB.dv true (a0P.dv x3 [])))<|on1 (b3h N x2 x0 x3.Block)<|gg [pD (.sl a0i)]<|fun (x5:List a0h)=>bi (decide (x3.Index < (len x5))) (some (0,gB.dv false (a0P.dv x3 [])))<|gd (idx x3.Block x2.Blocks.length)<|bi (decide ((x2.Blocks.getD x3.Block.toNat a0x.z).2.2.1 < 0)) (some (0,gB.dv true (a0P.dv x3 [])))<|bi (x1 == (len x2.Blocks)) (some (0,gB.dv true (a0P.dv x3 [])))<|on1 (b3N N x2 x3.Block)<|gg [pI]<|fun (x6:Int)=>again x0 (w.i64 (x1+1)) x2 (a0C.mk ((x2.Blocks.getD x3.Block.toNat a0x.z).2.2.1) 0 (w.i64 (x3.Base+x6))) x4)<|some (1,a0P.dv x3 (a0P.dv x4 []))
def a9v:Nat→Fn' OR [pB,pI,a0m,a0L,a0L]:=lpG (a9T N)
theorem c9C:LEok Q b1C (bodOf f83) f83.ntmps 0 (0,mkM [pB,pI,a0m,a0L,a0L] [(0,[pB,a0L]),(1,[a0L,a0L])] (a9v N N)):=g7r a0r 83 b9I (c1x N)
def a9X (x0:a0g) (x1:Bool) (x2:a0C):OR:=onB 0 1 (a9v N N x1 0 x0 x2 a0C.z) (gg [pB,a0L]<|fun (x3:Bool) (x4:a0C)=>some (0,a0P.dv x4 (gB.dv x3 [])))<|gg [a0L,a0L]<|fun (x5 x6:a0C)=>some (0,a0P.dv x5 (gB.dv true []))
def b1Y:CE:=(b1O,mkF [a0m,pB,a0L] [a0L,pB] (a9X N))
theorem b6j:CEok Q (b1Y N):=fn_L a0r f83 b1C (c1x N) (g7o (c9C N))
def b0e:CS:=⟨128,38,⟨[.agg [.d (.sl a0n),.d (.ar 16 tI)],.one (.d tB),.agg [.d tI,.d tI,.d tI]],[]⟩,[.agg q_2,.one (.d tI),.one (.d tB)],false,[]⟩
def b2e (x0:a0g) (x1:Bool) (x2:a0C):OR:=on1 (a9X N x0 x1 x2)<|gg [a0L,pB]<|fun (x3:a0C) (x4:Bool)=>bi x4 (on1 (b3N N x0 x3.Block)<|gg [pI]<|fun (x5:Int)=>some (0,a0G.dv (a0h.z) (gI.dv (w.i64 (x3.Base+x5)) (gB.dv false []))))<|on1 (b3h N x0 x1 x3.Block)<|gg [pD (.sl a0i)]<|fun (x6:List a0h)=>bi (decide (x3.Index < 0)) (on1 (b3N N x0 x3.Block)<|gg [pI]<|fun (x7:Int)=>some (0,a0G.dv (a0h.z) (gI.dv (w.i64 (x3.Base+x7)) (gB.dv false []))))<|gd (idx x3.Index x6.length)<|gd (idx x3.Index x6.length)<|some (0,a0G.dv (x6.getD x3.Index.toNat a0h.z) (gI.dv (w.i64 (x3.Base+(x6.getD x3.Index.toNat a0h.z).2.2.2.2.1)) (gB.dv true [])))
def b3B:CE:=(b0e,mkF [a0m,pB,a0L] [a0E,pI,pB] (b2e N))
theorem b8q:CEok Q (b3B N):=fn_K a0r f38 ⟨[((1,3),b1O),((3,6),b2E),((4,4),b4Y),((6,6),b2E)],[],[18,34],[],[]⟩ (g7s (b6j N) (c3O N) (c0s N))
def c8S:CS:=⟨130,73,⟨[.agg [.d tI,.d tI,.d tI,.d tI,.d tI]],[]⟩,[.one (.d tI)],true,[]⟩
def b5O (x0:a0o):OR:=on1 (a4s N x0)<|gg [pB]<|fun (x1:Bool)=>bi (!x1) (some (0,gI.dv 0 []))<|some (0,gI.dv x0.2.1 [])
def c8R:CE:=(c8S,mkF [a2S] [pI] (b5O N))
theorem d6X:CEok Q (c8R N):=fn_K a0r f73 ⟨[((1,1),a4Y)],[],[5],[],[]⟩ (g7o (a6B N))
def c7P:CS:=⟨131,28,⟨[.agg q_2],[]⟩,[.one (.o tI)],true,[]⟩
def c2j:LS:=⟨⟨[.no,.no,.no,.one (.o tI),.one (.o tI),.one (.d tI)]++nos 64,[]⟩,[(2,⟨[.no,.no,.no,.no,.one (.o tI)]++nos 65,[]⟩)]⟩
def b4h:Hi:=⟨[((5,2),a6l),((5,5),c8S),((16,2),a6l)],[(1,c2j)],[8,19,26,32,39,47,55,61],[],[]⟩
theorem c4K:AllP (CEok Q) [a8b N,c8R N]:=g7x (b0d N) (d6X N)
def b1M (N:Nat) (again:Fn' OR [pD (.sl tI),pD (.sl tI),pI]) (x0 x1:List Int) (x2:Int):OR:=bi (decide (x2 < (len x0))) (gd (idx x2 x0.length)<|bi (decide ((x0.getD x2.toNat 0)≥1)) (gd (idx x2 x0.length)<|bi (decide ((x0.getD x2.toNat 0)≤15)) (gd (idx x2 x0.length)<|gd (rm x1 [(x0.getD x2.toNat 0)] 8)<|again x0 (x1++[(x0.getD x2.toNat 0)]) (w.i64 (x2+1)))<|again x0 x1 (w.i64 (x2+1)))<|again x0 x1 (w.i64 (x2+1)))<|some (2,(gD (.sl tI)).dv x1 [])
def a1m:Nat→Fn' OR [pD (.sl tI),pD (.sl tI),pI]:=lpG (b1M N)
theorem d3l:LEok Q b4h (bodOf f28) f28.ntmps 0 (1,mkM [pD (.sl tI),pD (.sl tI),pI] [(2,[pD (.sl tI)])] (a1m N N)):=g7r a0r 28 c2j (c4K N)
def c1E (x0:a0h):OR:=bi (x0.1 == 1) (on1 (a2Q N x0.2.1)<|gg [pD (.sl tI)]<|fun (x1:List Int)=>on1 (b5O N x0.2.1)<|gg [pI]<|fun (x2:Int)=>gd (rm x1 [x2] 8)<|onA 2 (a1m N N (x1++[x2]) ([]:List Int) 0)<|gg [pD (.sl tI)]<|fun (x3:List Int)=>some (0,(gD (.sl tI)).dv x3 []))<|bi (x0.1 == 2) (on1 (a2Q N x0.2.1)<|gg [pD (.sl tI)]<|fun (x4:List Int)=>on1 (b5O N x0.2.1)<|gg [pI]<|fun (x5:Int)=>gd (rm x4 [x5] 8)<|onA 2 (a1m N N (x4++[x5]) ([]:List Int) 0)<|gg [pD (.sl tI)]<|fun (x6:List Int)=>some (0,(gD (.sl tI)).dv x6 []))<|bi (x0.1 == 3) (onA 2 (a1m N N [x0.2.1.2.2.1] ([]:List Int) 0)<|gg [pD (.sl tI)]<|fun (x7:List Int)=>some (0,(gD (.sl tI)).dv x7 []))<|bi (x0.1 == 4) (onA 2 (a1m N N [x0.2.1.2.2.1] ([]:List Int) 0)<|gg [pD (.sl tI)]<|fun (x8:List Int)=>some (0,(gD (.sl tI)).dv x8 []))<|bi (x0.1 == 7) (onA 2 (a1m N N [x0.2.1.2.1] ([]:List Int) 0)<|gg [pD (.sl tI)]<|fun (x9:List Int)=>some (0,(gD (.sl tI)).dv x9 []))<|bi (x0.1 == 5) (onA 2 (a1m N N [x0.2.2.1] ([]:List Int) 0)<|gg [pD (.sl tI)]<|fun (x10:List Int)=>some (0,(gD (.sl tI)).dv x10 []))<|bi (x0.1 == 6) (onA 2 (a1m N N [x0.2.2.1] ([]:List Int) 0)<|gg [pD (.sl tI)]<|fun (x11:List Int)=>some (0,(gD (.sl tI)).dv x11 []))<|bi (x0.1 == 8) (onA 2 (a1m N N [x0.2.2.1] ([]:List Int) 0)<|gg [pD (.sl tI)]<|fun (x12:List Int)=>some (0,(gD (.sl tI)).dv x12 []))<|bi (x0.1 == 9) (on1 (a2Q N x0.2.1)<|gg [pD (.sl tI)]<|fun (x13:List Int)=>onA 2 (a1m N N x13 ([]:List Int) 0)<|gg [pD (.sl tI)]<|fun (x14:List Int)=>some (0,(gD (.sl tI)).dv x14 []))<|onA 2 (a1m N N ([]:List Int) ([]:List Int) 0)<|gg [pD (.sl tI)]<|fun (x15:List Int)=>some (0,(gD (.sl tI)).dv x15 [])
def c6T:CE:=(c7P,mkF [a0E] [pD (.sl tI)] (c1E N))
theorem d7E:CEok Q (c6T N):=fn_L a0r f28 b4h (c4K N) (g7o (d3l N))
def c3t:CS:=⟨132,30,⟨[.agg q_3,.agg q_2,.one (.d tI)],[]⟩,[.one (.d tB)],true,[]⟩
def c4c:LS:=⟨⟨[.no,.no,.one (.d tI),.one (.p 0 0 [16,16,1,1,1,1,1,1]),.no,.no,.no,.one (.o tI),.one (.d tI)]++nos 27,[q_3]⟩,[(0,⟨nos 6++[.one (.d tB)]++nos 29,[]⟩),(1,⟨nos 36,[]⟩)]⟩
def b8e:Hi:=⟨[((1,1),c7P)],[(0,c4c)],[14,25,35],[],[]⟩
theorem c8C:AllP (CEok Q) [c6T N]:=g7o (d7E N)
def b0N (N:Nat) (again:Fn' OR [pI,pD (.sl tI),pI,a0S]) (x0:Int) (x1:List Int) (x2:Int) (x3:a0v):OR:=bi (decide (x2 < (len x1))) (gd (idx x2 x1.length)<|gd (idx (x1.getD x2.toNat 0) 16)<|bi (decide ((x3.Ready.getD (x1.getD x2.toNat 0).toNat 0) < 0)) (some (0,gB.dv false []))<|gd (idx x2 x1.length)<|gd (idx (x1.getD x2.toNat 0) 16)<|bi (decide ((x3.Ready.getD (x1.getD x2.toNat 0).toNat 0) > x0)) (some (0,gB.dv false []))<|again x0 x1 (w.i64 (x2+1)) x3)<|some (1,[])
def a7I:Nat→Fn' OR [pI,pD (.sl tI),pI,a0S]:=lpG (b0N N)
theorem d4v:LEok Q b8e (bodOf f30) f30.ntmps 0 (0,mkM [pI,pD (.sl tI),pI,a0S] [(0,[pB]),(1,[])] (a7I N N)):=g7r a0r 30 c4c (c8C N)
def c1X (x0:a0v) (x1:a0h) (x2:Int):OR:=on1 (c1E N x1)<|gg [pD (.sl tI)]<|fun (x3:List Int)=>onB 0 1 (a7I N N x2 x3 0 x0) (gg [pB]<|fun (x4:Bool)=>some (0,gB.dv x4 []))<|gg []<|some (0,gB.dv true [])
def c2I:CE:=(c3t,mkF [a0S,a0E,pI] [pB] (c1X N))
theorem d0K:CEok Q (c2I N):=fn_L a0r f30 b8e (c8C N) (g7o (d4v N))
def a7H:CS:=⟨133,34,⟨[.agg q_0,.one (.d tI),.one (.d tI),.one (.d tI)],[]⟩,[.agg q_1],true,[]⟩
def a9C (x0:a0b) (x1 x2 x3:Int):OR:=on1 (a6F N x0)<|gg [a0d]<|fun (x4:a0b)=>bi (x4.Trap.Kind == 0) (some (0,a0c.dv ({ x4 with Trap:=(a1X.mk x1 x2 x3) }:a0b) []))<|bi (decide (x4.Trap.Step > x2)) (some (0,a0c.dv ({ x4 with Trap:=(a1X.mk x1 x2 x3) }:a0b) []))<|some (0,a0c.dv x4 [])
def b7W:CE:=(a7H,mkF [a0d,pI,pI,pI] [a0d] (a9C N))
theorem c3J:CEok Q (b7W N):=fn_K a0r f34 ⟨[((1,1),a4G)],[],[15,21],[],[]⟩ (g7o (a6q N))
def c8d:CS:=⟨134,84,⟨[.agg [.d (.sl a0n),.d (.ar 16 tI)],.one (.d tI)],[]⟩,[.one (.d tI)],true,[]⟩
def c7V (N:Nat) (x0:a0g) (x1:Int):OR:=bi (decide (x1 < 0)) (some (0,gI.dv 0 []))<|bi (decide (x1≥(len x0.Blocks))) (some (0,gI.dv 0 []))<|gd (idx x1 x0.Blocks.length)<|some (0,gI.dv ((x0.Blocks.getD x1.toNat a0x.z).2.1) [])
def c7s:CE:=(c8d,mkF [a0m,pI] [pI] (c7V N))
theorem d5k:CEok Q (c7s N):=fn_K a0r f84 ⟨[],[],[7,13],[],[]⟩ g7q
def a9K:CS:=⟨135,85,⟨[.agg q_0,.one (.d tI)],[]⟩,[.one (.d tB)],true,[]⟩
def b0Y (N:Nat) (x0:a0b) (x1:Int):OR:=bi (x0.Trap.Kind != 0) (some (0,gB.dv (decide (x1≥x0.Trap.Step)) []))<|some (0,gB.dv false [])
def a9W:CE:=(a9K,mkF [a0d,pI] [pB] (b0Y N))
theorem b3Y:CEok Q (a9W N):=fn_K a0r f85 ⟨[],[],[9],[],[]⟩ g7q
def a2b:CS:=⟨136,87,⟨[.agg q_3,.one (.d tI)],[]⟩,[.one (.d tW)],true,[]⟩
def a3j (N:Nat) (x0:a0v) (x1:Int):OR:=bi (decide (x1 < 1)) (some (0,gW.dv 0 []))<|bi (decide (x1 > 15)) (some (0,gW.dv 0 []))<|gd (idx x1 16)<|some (0,gW.dv (x0.Regs.getD x1.toNat 0) [])
def b4c:CE:=(a2b,mkF [a0S,pI] [pW] (a3j N))
theorem c0n:CEok Q (b4c N):=fn_K a0r f87 ⟨[],[],[7,10],[],[]⟩ g7q
def a9I:CS:=⟨137,158,⟨[.one (.d tW)],[]⟩,[.one (.d tI)],true,[]⟩
def b3t (N:Nat) (x0:Int):OR:=bi (decide ((w.i64 x0)≥2147483648)) (some (0,gI.dv (w.i64 ((w.i64 x0) - 4294967296)) []))<|some (0,gI.dv (w.i64 x0) [])
def c6n:CE:=(a9I,mkF [pW] [pI] (b3t N))
theorem d2W:CEok Q (c6n N):=fn_K a0r f158 ⟨[],[],[7],[],[]⟩ g7q
def d2E:CS:=⟨138,159,⟨[.one (.d tB)],[]⟩,[.one (.d tW)],true,[]⟩
def c5n (N:Nat) (x0:Bool):OR:=bi x0 (some (0,gW.dv 1 []))<|some (0,gW.dv 0 [])
def d9w:CE:=(d2E,mkF [pB] [pW] (c5n N))
theorem e6f:CEok Q (d9w N):=fn_K a0r f159 ⟨[],[],[3],[],[]⟩ g7q
def d9z:CS:=⟨139,160,⟨[.one (.d tI),.one (.d tI)],[]⟩,[.one (.d tI),.one (.d tI)],false,[]⟩
def d1P (N:Nat) (x0 x1:Int):OR:=gf (decide (x1 = 0))<|gf (decide (x1 = 0))<|some (0,gI.dv (w.i64 (Int.tdiv x0 x1)) (gI.dv (Int.tmod x0 x1) []))
def d8K:CE:=(d9z,mkF [pI,pI] [pI,pI] (d1P N))
theorem e4Y:CEok Q (d8K N):=fn_K a0r f160 ⟨[],[],[],[],[]⟩ g7q
end
end Go.Proofs.Zz
