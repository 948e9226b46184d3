import Derived.Test.YtnfpdmhdpeffjaaGreatK3
set_option linter.unusedSimpArgs false
set_option linter.unusedVariables false
/- What functions of the program compute, as plain functions. -/
set_option maxRecDepth 100000
namespace Go.Proofs.Zz
noncomputable section
open Go Go.Proofs.Tryz
def a6i:CS:=⟨95,106,⟨[.agg [.d (.sl a0n),.d (.ar 16 tI)],.one (.d tB),.agg [.d tI,.d tI,.d tI]],[]⟩,[.agg q_2,.one (.d tI),.one (.d tB)],false,[]⟩
def d6o:Hi:=⟨[((1,3),a8i),((3,3),b3R),((4,4),a9F)],[],[19,23],[],[]⟩
theorem f1O:Fn Q 106 f106 (codeOf f106):=by constructor <;> kernel_rfl
def a6o (N:Nat) (x0:a0g) (x1:Bool) (x2:a0C):Option Rs :=
 on1 (a6v N x0 x1 x2)<|gg [a0L,pB]<|fun (x3:a0C) (x4:Bool) =>
 bi x4 (
  on1 (b0G N x0 x3)<|gg [pI]<|fun (x5:Int) =>
  some (0,a0G.dv (a0h.z) (gI.dv x5 (gB.dv false [])))) <|
 bi (decide (x3.Index < 0)) (
  on1 (b0G N x0 x3)<|gg [pI]<|fun (x6:Int) =>
  some (0,a0G.dv (a0h.z) (gI.dv x6 (gB.dv false [])))) <|
 on1 (a7Z N x0 x1 x3.Block)<|gg [pD (.sl a0i)]<|fun (x7:List a0h) =>
 gd (idx x3.Index (List.length x7)) <|
 some (0,a0G.dv (List.getD x7 x3.Index.toNat a0h.z) (gI.dv (w.i64 (x3.Base+(List.getD x7 x3.Index.toNat a0h.z).2.2.2.2.1)) (gB.dv true [])))
def a8M (N:Nat):CE:=(a6i,mkF [a0m,pB,a0L] [a0E,pI,pB] (a6o N))
theorem b1k (N:Nat):CEok Q (a8M N) :=
 fnG (hi:=d6o) (l:=[a8y N,b3Z N,b4y N]) (t:=[]) a0r hmix ⟨b2u N,b9U N,c0W N,trivial⟩ ⟨rfl,rfl,rfl,trivial⟩ f1O (by kernel_rfl) (by kernel_rfl) trivial fun ys=>by kernel_rfl
def a7g:CS:=⟨96,221,⟨[.one (.r (.pair tI (.pair (.pair (.ar 16 tW) (.pair (.ar 16 tI) (.pair (.pair tI (.pair tI (.pair tI .unit))) (.pair tI (.pair tB (.pair tI .unit)))))) (.pair (.pair (.ar 16 tW) (.pair (.ar 16 tI) (.pair (.pair tI (.pair tI (.pair tI .unit))) (.pair tI (.pair tB (.pair tI .unit)))))) (.pair (.sl a0k) (.pair (.sl tW) (.pair (.sl tW) (.pair (.sl tB) (.pair (.sl tB) (.pair (.sl a0t) (.pair (.sl a0j) (.pair (.sl tU) (.pair (.sl a0Q) (.pair (.pair tI (.pair tI (.pair tI .unit))) (.pair tI (.pair tI (.pair tI .unit))))))))))))))))),.one (.d tI)],[]⟩,[.one (.d tB)],true,[]⟩
def c9f:Hi:=⟨[],[],[11],[],[]⟩
theorem f1e:Fn Q 221 f221 (codeOf f221):=by constructor <;> kernel_rfl
def a2B (N:Nat) (x0:a0b) (x1:Int):Option Rs :=
 bi (x0.Trap.Kind != 0) (
  some (0,gB.dv (decide (x1≥x0.Trap.Step)) [])) <|
 some (0,gB.dv false [])
def a6Q (N:Nat):CE:=(a7g,mkF [a0W,pI] [pB] (a2B N))
theorem b0C (N:Nat):CEok Q (a6Q N) :=
 fnG (hi:=c9f) (l:=[]) (t:=[]) a0r hmix trivial trivial f1e (by kernel_rfl) (by kernel_rfl) trivial fun ys=>by kernel_rfl
def c4P:CS:=⟨97,148,⟨[.agg [.d (.sl a0n),.d (.ar 16 tI)],.one (.p 0 0 [1,16,16,1,1,1,1,1,1,16,16,1,1,1,1,1,1,1,1,1,1,1,1,1,1,1,1,1,1,1,1,1]),.one (.p 0 9 [16,16,1,1,1,1,1,1]),.one (.d tB)],[q_1]⟩,[.agg q_2,.one (.d tI),.one (.d tB)],false,[q_1]⟩
def d6b:Hi:=⟨[((3,6),a8i),((5,3),a6i),((7,9),a6j),((8,6),a7g)],[],[20,30,54,68],[],[]⟩
theorem e8c:Fn Q 148 f148 (codeOf f148):=by constructor <;> kernel_rfl
def b7V (N:Nat) (x0:a0g) (x1:Bool) (x2:a0b):Option Rs :=
 bi x2.E.Halted (
  some (0,a0G.dv (a0h.z) (gI.dv 0 (gB.dv false (a0c.dv x2 []))))) <|
 bi (decide (x2.E.Wait > x2.Cycle)) (
  some (0,a0G.dv (a0h.z) (gI.dv 0 (gB.dv false (a0c.dv x2 []))))) <|
 on1 (a6v N x0 x1 x2.E.Pos)<|gg [a0L,pB]<|fun (x3:a0C) (x4:Bool) =>
 on1 (a6o N x0 x1 x3)<|gg [a0E,pI,pB]<|fun (x5:a0h) (x6:Int) (x7:Bool) =>
 bi x4 (
  gd (idx x3.Block (List.length x0.Blocks)) <|
  on1 (a6z N 4 x6 ((List.getD x0.Blocks x3.Block.toNat a0x.z).2.1) ({ x2 with E:={ x2.E with Pos:=x3 } }:a0b))<|gg [a0d]<|fun (x8:a0b) =>
  bi x7 (
   on1 (a2B N x8 x6)<|gg [pB]<|fun (x9:Bool) =>
   some (0,a0G.dv x5 (gI.dv x6 (gB.dv (!x9) (a0c.dv x8 []))))) <|
  some (0,a0G.dv x5 (gI.dv x6 (gB.dv false (a0c.dv x8 []))))) <|
 bi x7 (
  on1 (a2B N ({ x2 with E:={ x2.E with Pos:=x3 } }:a0b) x6)<|gg [pB]<|fun (x10:Bool) =>
  some (0,a0G.dv x5 (gI.dv x6 (gB.dv (!x10) (a0c.dv ({ x2 with E:={ x2.E with Pos:=x3 } }:a0b) []))))) <|
 some (0,a0G.dv x5 (gI.dv x6 (gB.dv false (a0c.dv ({ x2 with E:={ x2.E with Pos:=x3 } }:a0b) []))))
def c4C (N:Nat):CE:=(c4P,mkF [a0m,pB,a0d] [a0E,pI,pB,a0d] (b7V N))
theorem d5n (N:Nat):CEok Q (c4C N) :=
 fnG (hi:=d6b) (l:=[a8y N,a8M N,a6w N,a6Q N]) (t:=[]) a0r hmix ⟨b2u N,b1k N,a8P N,b0C N,trivial⟩ ⟨rfl,rfl,rfl,rfl,trivial⟩ e8c (by kernel_rfl) (by kernel_rfl) trivial fun ys=>by kernel_rfl
def a2d:CS:=⟨98,153,⟨[.one (.r (.pair (.ar 16 tW) (.pair (.ar 16 tI) (.pair (.pair tI (.pair tI (.pair tI .unit))) (.pair tI (.pair tB (.pair tI .unit))))))),.one (.d tI)],[]⟩,[.one (.d tW)],true,[]⟩
def d7T:Hi:=⟨[],[],[7,10],[],[]⟩
theorem e9Z:Fn Q 153 f153 (codeOf f153):=by constructor <;> kernel_rfl
def a2s (N:Nat) (x0:a0v) (x1:Int):Option Rs :=
 bi (decide (x1 < 1)) (
  some (0,gW.dv 0 [])) <|
 bi (decide (x1 > 15)) (
  some (0,gW.dv 0 [])) <|
 gd (idx x1 16) <|
 some (0,gW.dv (List.getD x0.Regs x1.toNat 0) [])
def a4B (N:Nat):CE:=(a2d,mkF [c8H,pI] [pW] (a2s N))
theorem a6h (N:Nat):CEok Q (a4B N) :=
 fnG (hi:=d7T) (l:=[]) (t:=[]) a0r hmix trivial trivial e9Z (by kernel_rfl) (by kernel_rfl) trivial fun ys=>by kernel_rfl
def c2c:CS:=⟨99,262,⟨[.one (.d tI)],[]⟩,[.one (.d tW)],true,[]⟩
def e2c:Hi:=⟨[],[],[],[],[]⟩
theorem f1g:Fn Q 262 f262 (codeOf f262):=by constructor <;> kernel_rfl
def c2M (N:Nat) (x0:Int):Option Rs :=
 some (0,gW.dv (w.u32 x0) [])
def c9q (N:Nat):CE:=(c2c,mkF [pI] [pW] (c2M N))
theorem d4z (N:Nat):CEok Q (c9q N) :=
 fnG (hi:=e2c) (l:=[]) (t:=[]) a0r hmix trivial trivial f1g (by kernel_rfl) (by kernel_rfl) trivial fun ys=>by kernel_rfl
def c7w:CS:=⟨100,264,⟨[.one (.d tI)],[]⟩,[.one (.d tI)],true,[]⟩
def d8r:Hi:=⟨[],[],[4,6,8,10,12,14,16,18],[],[]⟩
theorem f0v:Fn Q 264 f264 (codeOf f264):=by constructor <;> kernel_rfl
def b6L (N:Nat) (x0:Int):Option Rs :=
 bi (x0 == 17) (
  some (0,gI.dv 1 [])) <|
 bi (x0 == 18) (
  some (0,gI.dv 3 [])) <|
 bi (x0 == 19) (
  some (0,gI.dv 4 [])) <|
 bi (x0 == 20) (
  some (0,gI.dv 5 [])) <|
 bi (x0 == 21) (
  some (0,gI.dv 9 [])) <|
 bi (x0 == 22) (
  some (0,gI.dv 6 [])) <|
 bi (x0 == 23) (
  some (0,gI.dv 7 [])) <|
 bi (x0 == 24) (
  some (0,gI.dv 8 [])) <|
 some (0,gI.dv x0 [])
def c9c (N:Nat):CE:=(c7w,mkF [pI] [pI] (b6L N))
theorem d6N (N:Nat):CEok Q (c9c N) :=
 fnG (hi:=d8r) (l:=[]) (t:=[]) a0r hmix trivial trivial f0v (by kernel_rfl) (by kernel_rfl) trivial fun ys=>by kernel_rfl
def c7g:CS:=⟨101,289,⟨[.one (.d tB)],[]⟩,[.one (.d tW)],true,[]⟩
def e2f:Hi:=⟨[],[],[3],[],[]⟩
theorem f0H:Fn Q 289 f289 (codeOf f289):=by constructor <;> kernel_rfl
def d3f (N:Nat) (x0:Bool):Option Rs :=
 bi x0 (
  some (0,gW.dv 1 [])) <|
 some (0,gW.dv 0 [])
def d4n (N:Nat):CE:=(c7g,mkF [pB] [pW] (d3f N))
theorem e1N (N:Nat):CEok Q (d4n N) :=
 fnG (hi:=e2f) (l:=[]) (t:=[]) a0r hmix trivial trivial f0H (by kernel_rfl) (by kernel_rfl) trivial fun ys=>by kernel_rfl
def d1b:CS:=⟨102,290,⟨[.one (.d (.int .i32)),.one (.d (.int .i32))],[]⟩,[.one (.d tW)],true,[]⟩
def e0k:Hi:=⟨[],[],[],[],[]⟩
theorem f0c:Fn Q 290 f290 (codeOf f290):=by constructor <;> kernel_rfl
def c6w (N:Nat) (x0:Int) (x1:Int):Option Rs :=
 gf (decide ((32:Int) < (0:Int))) <|
 some (0,gW.dv (w.u32 (shr .i64 (w.i64 ((w.i64 x0)*(w.i64 x1))) 32)) [])
def d0Z (N:Nat):CE:=(d1b,mkF [pD (.int .i32),pD (.int .i32)] [pW] (c6w N))
theorem e1h (N:Nat):CEok Q (d0Z N) :=
 fnG (hi:=e0k) (l:=[]) (t:=[]) a0r hmix trivial trivial f0c (by kernel_rfl) (by kernel_rfl) trivial fun ys=>by kernel_rfl
def b2Q:CS:=⟨103,305,⟨[.one (.d tW),.one (.d tW),.one (.d tW)],[]⟩,[.one (.d tW),.one (.d tW)],false,[]⟩
def c3g:Hi:=⟨[],[],[11,15],[],[]⟩
theorem f0C:Fn Q 305 f305 (codeOf f305):=by constructor <;> kernel_rfl
def a4v (N:Nat) (x0:Int) (x1:Int) (x2:Int):Option Rs :=
 bi (x2 != 0) (
  gf (decide (x2≤x0)) <|
  gf (decide ((32:Int) < (0:Int))) <|
  gf (decide ((w.u64 x2) = 0)) <|
  gf (decide ((w.u64 x2) = 0)) <|
  some (0,gW.dv (w.u32 (w.u64 (Int.tdiv (bitOr .u64 (shl .u64 (w.u64 x0) 32) (w.u64 x1)) (w.u64 x2)))) (gW.dv (w.u32 (Int.tmod (bitOr .u64 (shl .u64 (w.u64 x0) 32) (w.u64 x1)) (w.u64 x2))) []))) <|
 gf (decide ((32:Int) < (0:Int))) <|
 gf (decide ((w.u64 x2) = 0)) <|
 gf (decide ((w.u64 x2) = 0)) <|
 some (0,gW.dv (w.u32 (w.u64 (Int.tdiv (bitOr .u64 (shl .u64 (w.u64 x0) 32) (w.u64 x1)) (w.u64 x2)))) (gW.dv (w.u32 (Int.tmod (bitOr .u64 (shl .u64 (w.u64 x0) 32) (w.u64 x1)) (w.u64 x2))) []))
def b3c (N:Nat):CE:=(b2Q,mkF [pW,pW,pW] [pW,pW] (a4v N))
theorem c3x (N:Nat):CEok Q (b3c N) :=
 fnG (hi:=c3g) (l:=[]) (t:=[]) a0r hmix trivial trivial f0C (by kernel_rfl) (by kernel_rfl) trivial fun ys=>by kernel_rfl
def b2L:CS:=⟨104,306,⟨[.one (.d tW),.one (.d tW),.one (.d tW)],[]⟩,[.one (.d tW)],true,[]⟩
def c3q:Hi:=⟨[],[],[],[],[]⟩
theorem e9B:Fn Q 306 f306 (codeOf f306):=by constructor <;> kernel_rfl
def a4r (N:Nat) (x0:Int) (x1:Int) (x2:Int):Option Rs :=
 gf (decide ((32:Int) < (0:Int))) <|
 gf (decide ((w.u64 x2) = 0)) <|
 some (0,gW.dv (w.u32 (Int.tmod (bitOr .u64 (shl .u64 (w.u64 x0) 32) (w.u64 x1)) (w.u64 x2))) [])
def b2D (N:Nat):CE:=(b2L,mkF [pW,pW,pW] [pW] (a4r N))
theorem c3S (N:Nat):CEok Q (b2D N) :=
 fnG (hi:=c3q) (l:=[]) (t:=[]) a0r hmix trivial trivial e9B (by kernel_rfl) (by kernel_rfl) trivial fun ys=>by kernel_rfl
def c5h:CS:=⟨105,291,⟨[.one (.d tI),.one (.d tW),.one (.d tW)],[]⟩,[.one (.d tW)],true,[]⟩
def d4H:Hi:=⟨[((4,2),b2Q),((7,2),b2L)],[],[18,22,32,38,41,45,52],[],[]⟩
theorem f0L:Fn Q 291 f291 (codeOf f291):=by constructor <;> kernel_rfl
def b8o (N:Nat) (x0:Int) (x1:Int) (x2:Int):Option Rs :=
 bi ((w.i32 x1) == (-2147483648:Int)) (
  bi (x0 == 14) (
   on1 (a4v N 0 x1 x2)<|gg [pW,pW]<|fun (x3:Int) (x4:Int) =>
   some (0,gW.dv x3 [])) <|
  bi (x0 == 16) (
   on1 (a4r N 0 x1 x2)<|gg [pW]<|fun (x5:Int) =>
   some (0,gW.dv x5 [])) <|
  bi (x0 == 13) (
   bi ((w.i32 x2) == (-1:Int)) (
    some (0,gW.dv x1 [])) <|
   bi (x0 == 13) (
    gf (decide ((w.i32 x2) = 0)) <|
    some (0,gW.dv (w.u32 (w.i32 (Int.tdiv (w.i32 x1) (w.i32 x2)))) [])) <|
   bi ((w.i32 x2) == (-1:Int)) (
    some (0,gW.dv 0 [])) <|
   gf (decide ((w.i32 x2) = 0)) <|
   some (0,gW.dv (w.u32 (Int.tmod (w.i32 x1) (w.i32 x2))) [])) <|
  bi (x0 == 13) (
   gf (decide ((w.i32 x2) = 0)) <|
   some (0,gW.dv (w.u32 (w.i32 (Int.tdiv (w.i32 x1) (w.i32 x2)))) [])) <|
  bi ((w.i32 x2) == (-1:Int)) (
   some (0,gW.dv 0 [])) <|
  gf (decide ((w.i32 x2) = 0)) <|
  some (0,gW.dv (w.u32 (Int.tmod (w.i32 x1) (w.i32 x2))) [])) <|
 bi (x0 == 14) (
  on1 (a4v N 0 x1 x2)<|gg [pW,pW]<|fun (x6:Int) (x7:Int) =>
  some (0,gW.dv x6 [])) <|
 bi (x0 == 16) (
  on1 (a4r N 0 x1 x2)<|gg [pW]<|fun (x8:Int) =>
  some (0,gW.dv x8 [])) <|
 bi (x0 == 13) (
  bi (x0 == 13) (
   gf (decide ((w.i32 x2) = 0)) <|
   some (0,gW.dv (w.u32 (w.i32 (Int.tdiv (w.i32 x1) (w.i32 x2)))) [])) <|
  gf (decide ((w.i32 x2) = 0)) <|
  some (0,gW.dv (w.u32 (Int.tmod (w.i32 x1) (w.i32 x2))) [])) <|
 bi (x0 == 13) (
  gf (decide ((w.i32 x2) = 0)) <|
  some (0,gW.dv (w.u32 (w.i32 (Int.tdiv (w.i32 x1) (w.i32 x2)))) [])) <|
 gf (decide ((w.i32 x2) = 0)) <|
 some (0,gW.dv (w.u32 (Int.tmod (w.i32 x1) (w.i32 x2))) [])
def c5F (N:Nat):CE:=(c5h,mkF [pI,pW,pW] [pW] (b8o N))
theorem d5b (N:Nat):CEok Q (c5F N) :=
 fnG (hi:=d4H) (l:=[b3c N,b2D N]) (t:=[]) a0r hmix ⟨c3x N,c3S N,trivial⟩ ⟨rfl,rfl,trivial⟩ f0L (by kernel_rfl) (by kernel_rfl) trivial fun ys=>by kernel_rfl
def d8T:CS:=⟨106,263,⟨[.one (.d tI),.one (.d tW),.one (.d tW)],[]⟩,[.one (.d tW),.one (.d tB)],false,[]⟩
def e4F:Hi:=⟨[((19,5),c7g),((21,3),c7g),((25,4),d1b),((28,3),c5h)],[],[9,14,19,24,29,34,40,46,54,62,68,73,81],[],[]⟩
theorem e9X:Fn Q 263 f263 (codeOf f263):=by constructor <;> kernel_rfl
def d1q (N:Nat) (x0:Int) (x1:Int) (x2:Int):Option Rs :=
 bi (x0 == 1) (
  some (0,gW.dv (w.u32 (x1+x2)) (gB.dv true []))) <|
 bi (x0 == 2) (
  some (0,gW.dv (w.u32 (x1 - x2)) (gB.dv true []))) <|
 bi (x0 == 3) (
  some (0,gW.dv (bitAnd .u32 x1 x2) (gB.dv true []))) <|
 bi (x0 == 4) (
  some (0,gW.dv (bitOr .u32 x1 x2) (gB.dv true []))) <|
 bi (x0 == 5) (
  some (0,gW.dv (bitXor .u32 x1 x2) (gB.dv true []))) <|
 bi (x0 == 6) (
  gf (decide ((bitAnd .u32 x2 31) < 0)) <|
  some (0,gW.dv (shl .u32 x1 (bitAnd .u32 x2 31)) (gB.dv true []))) <|
 bi (x0 == 7) (
  gf (decide ((bitAnd .u32 x2 31) < 0)) <|
  some (0,gW.dv (shr .u32 x1 (bitAnd .u32 x2 31)) (gB.dv true []))) <|
 bi (x0 == 8) (
  gf (decide ((bitAnd .u32 x2 31) < 0)) <|
  some (0,gW.dv (w.u32 (shr .i32 (w.i32 x1) (bitAnd .u32 x2 31))) (gB.dv true []))) <|
 bi (x0 == 9) (
  on1 (d3f N (decide ((w.i32 x1) < (w.i32 x2))))<|gg [pW]<|fun (x3:Int) =>
  some (0,gW.dv x3 (gB.dv true []))) <|
 bi (x0 == 10) (
  on1 (d3f N (decide (x1 < x2)))<|gg [pW]<|fun (x4:Int) =>
  some (0,gW.dv x4 (gB.dv true []))) <|
 bi (x0 == 11) (
  some (0,gW.dv (w.u32 (x1*x2)) (gB.dv true []))) <|
 bi (x0 == 12) (
  on1 (c6w N (w.i32 x1) (w.i32 x2))<|gg [pW]<|fun (x5:Int) =>
  some (0,gW.dv x5 (gB.dv true []))) <|
 bi (x2 == 0) (
  some (0,gW.dv 0 (gB.dv false []))) <|
 on1 (b8o N x0 x1 x2)<|gg [pW]<|fun (x6:Int) =>
 some (0,gW.dv x6 (gB.dv true []))
def d9r (N:Nat):CE:=(d8T,mkF [pI,pW,pW] [pW,pB] (d1q N))
theorem e4x (N:Nat):CEok Q (d9r N) :=
 fnG (hi:=e4F) (l:=[d4n N,d0Z N,c5F N]) (t:=[]) a0r hmix ⟨e1N N,e1h N,d5b N,trivial⟩ ⟨rfl,rfl,rfl,rfl,trivial⟩ e9X (by kernel_rfl) (by kernel_rfl) trivial fun ys=>by kernel_rfl
def d3b:CS:=⟨107,222,⟨[.agg [.d tI,.d tI,.d tI,.d tI,.d tI],.one (.d tW),.one (.d tW)],[]⟩,[.one (.d tW),.one (.d tB)],false,[]⟩
def e4U:Hi:=⟨[((1,2),b2K),((2,1),b4b),((5,3),c2c),((7,2),c2c),((8,2),c7w),((8,5),d8T)],[],[12,16,20,27],[],[]⟩
theorem e9P:Fn Q 222 f222 (codeOf f222):=by constructor <;> kernel_rfl
def d5P (N:Nat) (x0:a0o) (x1:Int) (x2:Int):Option Rs :=
 on1 (b8x N x0.1)<|gg [pI]<|fun (x3:Int) =>
 on1 (b2H N x0)<|gg [pB]<|fun (x4:Bool) =>
 bi (!x4) (
  some (0,gW.dv 0 (gB.dv true []))) <|
 bi (decide (x3 > 3)) (
  some (0,gW.dv 0 (gB.dv true []))) <|
 bi (x3 == 3) (
  gf (decide ((18:Int) < (0:Int))) <|
  on1 (c2M N (shl .i64 x0.2.2.2.2.1 18))<|gg [pW]<|fun (x5:Int) =>
  some (0,gW.dv x5 (gB.dv true []))) <|
 bi (x3 == 2) (
  on1 (c2M N x0.2.2.2.2.1)<|gg [pW]<|fun (x6:Int) =>
  on1 (b6L N x0.1)<|gg [pI]<|fun (x7:Int) =>
  on1 (d1q N x7 x1 x6)<|gg [pW,pB]<|fun (x8:Int) (x9:Bool) =>
  some (0,gW.dv x8 (gB.dv x9 []))) <|
 on1 (b6L N x0.1)<|gg [pI]<|fun (x10:Int) =>
 on1 (d1q N x10 x1 x2)<|gg [pW,pB]<|fun (x11:Int) (x12:Bool) =>
 some (0,gW.dv x11 (gB.dv x12 []))
def d2F (N:Nat):CE:=(d3b,mkF [a2S,pW,pW] [pW,pB] (d5P N))
theorem d9b (N:Nat):CEok Q (d2F N) :=
 fnG (hi:=e4U) (l:=[b2I N,b4w N,c9q N,c9c N,d9r N]) (t:=[]) a0r hmix ⟨b8k N,b9Y N,d4z N,d6N N,e4x N,trivial⟩ ⟨rfl,rfl,rfl,rfl,rfl,rfl,trivial⟩ e9P (by kernel_rfl) (by kernel_rfl) trivial fun ys=>by kernel_rfl
def b4B:CS:=⟨108,223,⟨[.agg q_5,.one (.d tI)],[]⟩,[.one (.d tI)],true,[]⟩
def d2b:Hi:=⟨[],[],[7,12,21,24],[],[]⟩
theorem f1h:Fn Q 223 f223 (codeOf f223):=by constructor <;> kernel_rfl
def b0K (N:Nat) (x0:a0f) (x1:Int):Option Rs :=
 bi (x1 == 11) (
  bi (decide (x0.Mul < 1)) (
   some (0,gI.dv 1 [])) <|
  bi (decide (x0.Mul > 50)) (
   some (0,gI.dv 1 [])) <|
  some (0,gI.dv x0.Mul [])) <|
 bi (x1 == 12) (
  bi (decide (x0.Mul < 1)) (
   some (0,gI.dv 1 [])) <|
  bi (decide (x0.Mul > 50)) (
   some (0,gI.dv 1 [])) <|
  some (0,gI.dv x0.Mul [])) <|
 bi (x1 == 13) (
  bi (decide (x0.Div < 1)) (
   some (0,gI.dv 1 [])) <|
  bi (decide (x0.Div > 50)) (
   some (0,gI.dv 1 [])) <|
  some (0,gI.dv x0.Div [])) <|
 bi (x1 == 14) (
  bi (decide (x0.Div < 1)) (
   some (0,gI.dv 1 [])) <|
  bi (decide (x0.Div > 50)) (
   some (0,gI.dv 1 [])) <|
  some (0,gI.dv x0.Div [])) <|
 bi (x1 == 15) (
  bi (decide (x0.Div < 1)) (
   some (0,gI.dv 1 [])) <|
  bi (decide (x0.Div > 50)) (
   some (0,gI.dv 1 [])) <|
  some (0,gI.dv x0.Div [])) <|
 bi (x1 == 16) (
  bi (decide (x0.Div < 1)) (
   some (0,gI.dv 1 [])) <|
  bi (decide (x0.Div > 50)) (
   some (0,gI.dv 1 [])) <|
  some (0,gI.dv x0.Div [])) <|
 bi (decide ((1:Int) < (1:Int))) (
  some (0,gI.dv 1 [])) <|
 bi (decide ((1:Int) > (50:Int))) (
  some (0,gI.dv 1 [])) <|
 some (0,gI.dv 1 [])
def b3T (N:Nat):CE:=(b4B,mkF [a0l,pI] [pI] (b0K N))
theorem c2y (N:Nat):CEok Q (b3T N) :=
 fnG (hi:=d2b) (l:=[]) (t:=[]) a0r hmix trivial trivial f1h (by kernel_rfl) (by kernel_rfl) trivial fun ys=>by kernel_rfl
def a9M:CS:=⟨109,150,⟨[.one (.p 0 9 [16,16,1,1,1,1,1,1]),.one (.d tI),.one (.d tW),.one (.d tI)],[q_1]⟩,[],false,[q_1]⟩
def d2h:Hi:=⟨[],[],[10,13],[],[]⟩
theorem e8J:Fn Q 150 f150 (codeOf f150):=by constructor <;> kernel_rfl
def a7S (N:Nat) (x0:Int) (x1:Int) (x2:Int) (x3:a0b):Option Rs :=
 bi (decide (x0≥1)) (
  bi (decide (x0≤15)) (
   gd (idx x0 16) <|
   gd (idx x0 16) <|
   some (0,a0c.dv ({ x3 with E:={ x3.E with Regs:=(List.set x3.E.Regs x0.toNat x1),Ready:=(List.set x3.E.Ready x0.toNat x2) } }:a0b) [])) <|
  some (0,a0c.dv x3 [])) <|
 some (0,a0c.dv x3 [])
def a9t (N:Nat):CE:=(a9M,mkF [pI,pW,pI,a0d] [a0d] (a7S N))
theorem b4G (N:Nat):CEok Q (a9t N) :=
 fnG (hi:=d2h) (l:=[]) (t:=[]) a0r hmix trivial trivial e8J (by kernel_rfl) (by kernel_rfl) trivial fun ys=>by kernel_rfl
def a3I:CS:=⟨110,151,⟨[.one (.p 0 9 [16,16,1,1,1,1,1,1])],[q_1]⟩,[],false,[q_1]⟩
def c6e:Hi:=⟨[],[],[],[],[]⟩
theorem e8q:Fn Q 151 f151 (codeOf f151):=by constructor <;> kernel_rfl
def a3V (N:Nat) (x0:a0b):Option Rs :=
 some (0,a0c.dv ({ x0 with E:={ x0.E with Pos:={ x0.E.Pos with Index:=(w.i64 (x0.E.Pos.Index+1)) },Done:=(w.i64 (x0.E.Done+1)) } }:a0b) [])
def a5T (N:Nat):CE:=(a3I,mkF [a0d] [a0d] (a3V N))
theorem a8R (N:Nat):CEok Q (a5T N) :=
 fnG (hi:=c6e) (l:=[]) (t:=[]) a0r hmix trivial trivial e8q (by kernel_rfl) (by kernel_rfl) trivial fun ys=>by kernel_rfl
def c4L:CS:=⟨111,149,⟨[.agg q_5,.one (.p 0 0 [1,16,16,1,1,1,1,1,1,16,16,1,1,1,1,1,1,1,1,1,1,1,1,1,1,1,1,1,1,1,1,1]),.one (.p 0 9 [16,16,1,1,1,1,1,1]),.agg q_2,.one (.d tI)],[q_1]⟩,[],false,[q_1]⟩
def d3X:Hi:=⟨[((1,6),a2d),((1,11),a2d),((1,12),d3b),((3,4),a6j),((4,13),b4B),((4,15),a9M),((5,1),a3I)],[],[29],[],[]⟩
theorem e8z:Fn Q 149 f149 (codeOf f149):=by constructor <;> kernel_rfl
def b7H (N:Nat) (x0:a0f) (x1:a0h) (x2:Int) (x3:a0b):Option Rs :=
 on1 (a2s N x3.E x1.2.1.2.2.1)<|gg [pW]<|fun (x4:Int) =>
 on1 (a2s N x3.E x1.2.1.2.2.2.1)<|gg [pW]<|fun (x5:Int) =>
 on1 (d5P N x1.2.1 x4 x5)<|gg [pW,pB]<|fun (x6:Int) (x7:Bool) =>
 bi (!x7) (
  on1 (a6z N 3 x2 x1.2.2.2.1 x3)<|gg [a0d]<|fun (x8:a0b) =>
  some (0,a0c.dv x8 [])) <|
 on1 (b0K N x0 x1.2.1.1)<|gg [pI]<|fun (x9:Int) =>
 on1 (a7S N x1.2.1.2.1 x6 (w.i64 (x3.Cycle+x9)) x3)<|gg [a0d]<|fun (x10:a0b) =>
 on1 (a3V N x10)<|gg [a0d]<|fun (x11:a0b) =>
 some (0,a0c.dv x11 [])
def c4J (N:Nat):CE:=(c4L,mkF [a0l,a0E,pI,a0d] [a0d] (b7H N))
theorem d6u (N:Nat):CEok Q (c4J N) :=
 fnG (hi:=d3X) (l:=[a4B N,d2F N,a6w N,b3T N,a9t N,a5T N]) (t:=[]) a0r hmix ⟨a6h N,d9b N,a8P N,c2y N,b4G N,a8R N,trivial⟩ ⟨rfl,rfl,rfl,rfl,rfl,rfl,rfl,trivial⟩ e8z (by kernel_rfl) (by kernel_rfl) trivial fun ys=>by kernel_rfl
def c9a:CS:=⟨112,224,⟨[.one (.d (.sl a0k))],[]⟩,[.one (.o a0k),.one (.d tW),.one (.d tB)],false,[]⟩
def d7Y:Hi:=⟨[((1,1),a2p)],[],[11,17],[],[]⟩
theorem f1s:Fn Q 224 f224 (codeOf f224):=by constructor <;> kernel_rfl
def c0G (N:Nat) (x0:List a0q):Option Rs :=
 on1 (a1a N x0)<|gg [pD (.sl a0k)]<|fun (x1:List a0q) =>
 bi ((len x1) == 0) (
  some (0,(gD (.sl a0k)).dv x1 (gW.dv 0 (gB.dv false [])))) <|
 gd (idx 0 (List.length x1)) <|
 bi (!(List.getD x1 0 a0q.z).2.1) (
  some (0,(gD (.sl a0k)).dv x1 (gW.dv 0 (gB.dv false [])))) <|
 gd (sb 1 (len x1)) <|
 gd (idx 0 (List.length x1)) <|
 some (0,(gD (.sl a0k)).dv (List.drop 1 x1) (gW.dv ((List.getD x1 0 a0q.z).2.2.1) (gB.dv true [])))
def c9g (N:Nat):CE:=(c9a,mkF [pD (.sl a0k)] [pD (.sl a0k),pW,pB] (c0G N))
theorem d7V (N:Nat):CEok Q (c9g N) :=
 fnG (hi:=d7Y) (l:=[a2n N]) (t:=[]) a0r hmix ⟨a3F N,trivial⟩ ⟨rfl,trivial⟩ f1s (by kernel_rfl) (by kernel_rfl) trivial fun ys=>by kernel_rfl
def c7h:CS:=⟨113,152,⟨[.one (.p 0 0 [1,16,16,1,1,1,1,1,1,16,16,1,1,1,1,1,1,1,1,1,1,1,1,1,1,1,1,1,1,1,1,1]),.agg q_2],[q_1]⟩,[],false,[q_1]⟩
def d8v:Hi:=⟨[((1,4),c9a),((4,12),a9M),((5,3),a3I)],[],[17],[],[]⟩
theorem e9L:Fn Q 152 f152 (codeOf f152):=by constructor <;> kernel_rfl
def c8T (N:Nat) (x0:a0h) (x1:a0b):Option Rs :=
 on1 (c0G N x1.Ldq)<|gg [pD (.sl a0k),pW,pB]<|fun (x2:List a0q) (x3:Int) (x4:Bool) =>
 bi (!x4) (
  some (0,a0c.dv x1 [])) <|
 on1 (a7S N x0.2.1.2.1 x3 (w.i64 (x1.Cycle+1)) ({ x1 with Ldq:=x2 }:a0b))<|gg [a0d]<|fun (x5:a0b) =>
 on1 (a3V N x5)<|gg [a0d]<|fun (x6:a0b) =>
 some (0,a0c.dv x6 [])
def c6O (N:Nat):CE:=(c7h,mkF [a0E,a0d] [a0d] (c8T N))
theorem d8C (N:Nat):CEok Q (c6O N) :=
 fnG (hi:=d8v) (l:=[c9g N,a9t N,a5T N]) (t:=[]) a0r hmix ⟨d7V N,b4G N,a8R N,trivial⟩ ⟨rfl,rfl,rfl,trivial⟩ e9L (by kernel_rfl) (by kernel_rfl) trivial fun ys=>by kernel_rfl
def c0w:CS:=⟨114,225,⟨[.one (.d tI),.one (.d tW),.one (.d tW)],[]⟩,[.one (.d tB)],true,[]⟩
def d8c:Hi:=⟨[],[],[8,13,18,25,32,37],[],[]⟩
theorem f0l:Fn Q 225 f225 (codeOf f225):=by constructor <;> kernel_rfl
def b6n (N:Nat) (x0:Int) (x1:Int) (x2:Int):Option Rs :=
 bi (x0 == 34) (
  some (0,gB.dv (x1 == x2) [])) <|
 bi (x0 == 35) (
  some (0,gB.dv (x1 != x2) [])) <|
 bi (x0 == 36) (
  some (0,gB.dv (decide ((w.i32 x1) < (w.i32 x2))) [])) <|
 bi (x0 == 37) (
  some (0,gB.dv (decide ((w.i32 x1)≥(w.i32 x2))) [])) <|
 bi (x0 == 38) (
  some (0,gB.dv (decide (x1 < x2)) [])) <|
 bi (x0 == 39) (
  some (0,gB.dv (decide (x1≥x2)) [])) <|
 some (0,gB.dv false [])
def c0v (N:Nat):CE:=(c0w,mkF [pI,pW,pW] [pB] (b6n N))
theorem c8Q (N:Nat):CEok Q (c0v N) :=
 fnG (hi:=d8c) (l:=[]) (t:=[]) a0r hmix trivial trivial f0l (by kernel_rfl) (by kernel_rfl) trivial fun ys=>by kernel_rfl
def c2J:CS:=⟨115,226,⟨[.agg [.d (.sl a0n),.d (.ar 16 tI)],.agg [.d tI,.d tI,.d tI],.one (.d tB)],[]⟩,[.agg [.d tI,.d tI,.d tI]],true,[]⟩
def d9L:Hi:=⟨[((1,5),a6d),((1,16),a6d),((2,9),b3R)],[],[8,14,24],[],[]⟩
theorem f0B:Fn Q 226 f226 (codeOf f226):=by constructor <;> kernel_rfl
def c2D (N:Nat) (x0:a0g) (x1:a0C) (x2:Bool):Option Rs :=
 bi x2 (
  on1 (a7o N x0 x1.Block)<|gg [pB]<|fun (x3:Bool) =>
  bi x3 (
   gd (idx x1.Block (List.length x0.Blocks)) <|
   on1 (a7o N x0 ((List.getD x0.Blocks x1.Block.toNat a0x.z).2.2.2.1))<|gg [pB]<|fun (x4:Bool) =>
   bi x4 (
    gd (idx x1.Block (List.length x0.Blocks)) <|
    on1 (b0G N x0 x1)<|gg [pI]<|fun (x5:Int) =>
    some (0,a0P.dv (a0C.mk ((List.getD x0.Blocks x1.Block.toNat a0x.z).2.2.2.1) 0 x5) [])) <|
   some (0,a0P.dv ({ x1 with Index:=(w.i64 (x1.Index+1)) }:a0C) [])) <|
  some (0,a0P.dv ({ x1 with Index:=(w.i64 (x1.Index+1)) }:a0C) [])) <|
 some (0,a0P.dv ({ x1 with Index:=(w.i64 (x1.Index+1)) }:a0C) [])
def c3i (N:Nat):CE:=(c2J,mkF [a0m,a0L,pB] [a0L] (c2D N))
theorem d0s (N:Nat):CEok Q (c3i N) :=
 fnG (hi:=d9L) (l:=[b0o N,b3Z N]) (t:=[]) a0r hmix ⟨b4X N,b9U N,trivial⟩ ⟨rfl,rfl,rfl,trivial⟩ f0B (by kernel_rfl) (by kernel_rfl) trivial fun ys=>by kernel_rfl
def b1m:CS:=⟨116,156,⟨[.agg [.d (.sl a0n),.d (.ar 16 tI)],.one (.p 0 0 [1,16,16,1,1,1,1,1,1,16,16,1,1,1,1,1,1,1,1,1,1,1,1,1,1,1,1,1,1,1,1,1]),.one (.p 0 9 [16,16,1,1,1,1,1,1]),.one (.d tB)],[q_1]⟩,[],false,[q_1]⟩
def d4G:Hi:=⟨[((1,7),c2J)],[],[18],[],[]⟩
theorem e8p:Fn Q 156 f156 (codeOf f156):=by constructor <;> kernel_rfl
def b0f (N:Nat) (x0:a0g) (x1:Bool) (x2:a0b):Option Rs :=
 on1 (c2D N x0 x2.E.Pos x1)<|gg [a0L]<|fun (x3:a0C) =>
 bi x1 (
  some (0,a0c.dv ({ x2 with E:={ x2.E with Pos:=x3,Wait:=(w.i64 (x2.Cycle+2)),Done:=(w.i64 (x2.E.Done+1)) } }:a0b) [])) <|
 some (0,a0c.dv ({ x2 with E:={ x2.E with Pos:=x3,Done:=(w.i64 (x2.E.Done+1)) } }:a0b) [])
def b1s (N:Nat):CE:=(b1m,mkF [a0m,pB,a0d] [a0d] (b0f N))
theorem b5H (N:Nat):CEok Q (b1s N) :=
 fnG (hi:=d4G) (l:=[c3i N]) (t:=[]) a0r hmix ⟨d0s N,trivial⟩ ⟨rfl,trivial⟩ e8p (by kernel_rfl) (by kernel_rfl) trivial fun ys=>by kernel_rfl
def a9i:CS:=⟨117,154,⟨[.agg [.d (.sl a0n),.d (.ar 16 tI)],.one (.p 0 0 [1,16,16,1,1,1,1,1,1,16,16,1,1,1,1,1,1,1,1,1,1,1,1,1,1,1,1,1,1,1,1,1]),.one (.p 0 9 [16,16,1,1,1,1,1,1]),.agg q_2,.one (.p 0 21 [1]),.one (.d tI)],[q_1]⟩,[],false,[q_1]⟩
def b8T:Hi:=⟨[((2,7),a2d),((2,12),a2d),((2,13),c0w),((4,4),b1m)],[],[18],[],[]⟩
theorem e8O:Fn Q 154 f154 (codeOf f154):=by constructor <;> kernel_rfl
def a6G (N:Nat) (x0:a0g) (x1:a0h) (x2:Int) (x3:a0b):Option Rs :=
 bi (decide ((len x3.Ebq)≥x2)) (
  some (0,a0c.dv x3 [])) <|
 on1 (a2s N x3.E x1.2.1.2.2.1)<|gg [pW]<|fun (x4:Int) =>
 on1 (a2s N x3.E x1.2.1.2.2.2.1)<|gg [pW]<|fun (x5:Int) =>
 on1 (b6n N x1.2.1.1 x4 x5)<|gg [pB]<|fun (x6:Bool) =>
 gd (rm x3.Ebq [x6] 1) <|
 on1 (b0f N x0 x6 ({ x3 with Ebq:=(x3.Ebq++[x6]) }:a0b))<|gg [a0d]<|fun (x7:a0b) =>
 some (0,a0c.dv x7 [])
def a9l (N:Nat):CE:=(a9i,mkF [a0m,a0E,pI,a0d] [a0d] (a6G N))
theorem b8M (N:Nat):CEok Q (a9l N) :=
 fnG (hi:=b8T) (l:=[a4B N,c0v N,b1s N]) (t:=[]) a0r hmix ⟨a6h N,c8Q N,b5H N,trivial⟩ ⟨rfl,rfl,rfl,rfl,trivial⟩ e8O (by kernel_rfl) (by kernel_rfl) trivial fun ys=>by kernel_rfl
def a8W:CS:=⟨118,155,⟨[.agg [.d (.sl a0n),.d (.ar 16 tI)],.one (.p 0 0 [1,16,16,1,1,1,1,1,1,16,16,1,1,1,1,1,1,1,1,1,1,1,1,1,1,1,1,1,1,1,1,1]),.one (.p 0 9 [16,16,1,1,1,1,1,1]),.one (.p 0 20 [1])],[q_1]⟩,[],false,[q_1]⟩
def b8U:Hi:=⟨[((4,4),b1m)],[],[13],[],[]⟩
theorem e8X:Fn Q 155 f155 (codeOf f155):=by constructor <;> kernel_rfl
def a7s (N:Nat) (x0:a0g) (x1:a0b):Option Rs :=
 bi ((len x1.Abq) == 0) (
  some (0,a0c.dv x1 [])) <|
 gd (idx 0 (List.length x1.Abq)) <|
 gd (sb 1 (len x1.Abq)) <|
 on1 (b0f N x0 (List.getD x1.Abq 0 false) ({ x1 with Abq:=(List.drop 1 x1.Abq) }:a0b))<|gg [a0d]<|fun (x2:a0b) =>
 some (0,a0c.dv x2 [])
def a9f (N:Nat):CE:=(a8W,mkF [a0m,a0d] [a0d] (a7s N))
theorem b8L (N:Nat):CEok Q (a9f N) :=
 fnG (hi:=b8U) (l:=[b1s N]) (t:=[]) a0r hmix ⟨b5H N,trivial⟩ ⟨rfl,trivial⟩ e8X (by kernel_rfl) (by kernel_rfl) trivial fun ys=>by kernel_rfl
def b9l:CS:=⟨119,157,⟨[.one (.p 0 9 [16,16,1,1,1,1,1,1])],[q_1]⟩,[],false,[q_1]⟩
def c9U:Hi:=⟨[],[],[],[],[]⟩
theorem e8B:Fn Q 157 f157 (codeOf f157):=by constructor <;> kernel_rfl
def b6p (N:Nat) (x0:a0b):Option Rs :=
 some (0,a0c.dv ({ x0 with E:={ x0.E with Halted:=true,Done:=(w.i64 (x0.E.Done+1)) } }:a0b) [])
def b9J (N:Nat):CE:=(b9l,mkF [a0d] [a0d] (b6p N))
theorem c9Q (N:Nat):CEok Q (b9J N) :=
 fnG (hi:=c9U) (l:=[]) (t:=[]) a0r hmix trivial trivial e8B (by kernel_rfl) (by kernel_rfl) trivial fun ys=>by kernel_rfl
def c5L:CS:=⟨120,82,⟨[.agg q_5,.agg [.d (.sl a0n),.d (.ar 16 tI)],.one (.p 0 0 [1,16,16,1,1,1,1,1,1,16,16,1,1,1,1,1,1,1,1,1,1,1,1,1,1,1,1,1,1,1,1,1])],[q_1]⟩,[],false,[q_1]⟩
def d5G:Hi:=⟨[((2,3),c4P),((3,11),b6m),((6,5),c4L),((9,14),a9M),((11,1),a3I),((13,2),c7h),((16,8),a2d),((17,1),a3I),((19,9),a9i),((21,6),a8W),((23,3),b1m),((25,1),b9l)],[],[23,34,37,45,52,78,83,92,108,120,129,135],[],[]⟩
theorem f_82:Fn Q 82 f82 (codeOf f82):=by constructor <;> kernel_rfl
def b8D (N:Nat) (x0:a0f) (x1:a0g) (x2:a0b):Option Rs :=
 on1 (b7V N x1 true x2)<|gg [a0E,pI,pB,a0d]<|fun (x3:a0h) (x4:Int) (x5:Bool) (x6:a0b) =>
 bi (!x5) (
  some (0,a0c.dv x6 [])) <|
 on1 (b3o N x6.E x3 x6.Cycle)<|gg [pB]<|fun (x7:Bool) =>
 bi (!x7) (
  some (0,a0c.dv x6 [])) <|
 bi (x3.1 == 1) (
  on1 (b7H N x0 x3 x4 x6)<|gg [a0d]<|fun (x8:a0b) =>
  some (0,a0c.dv x8 [])) <|
 bi (x3.1 == 6) (
  bi (decide ((len x6.Aeq) > 0)) (
   gd (idx 0 (List.length x6.Aeq)) <|
   on1 (a7S N x3.2.2.1 (List.getD x6.Aeq 0 0) (w.i64 (x6.Cycle+1)) x6)<|gg [a0d]<|fun (x9:a0b) =>
   gd (sb 1 (len x9.Aeq)) <|
   on1 (a3V N ({ x9 with Aeq:=(List.drop 1 x9.Aeq) }:a0b))<|gg [a0d]<|fun (x10:a0b) =>
   some (0,a0c.dv x10 [])) <|
  some (0,a0c.dv x6 [])) <|
 bi (x3.1 == 7) (
  on1 (c8T N x3 x6)<|gg [a0d]<|fun (x11:a0b) =>
  some (0,a0c.dv x11 [])) <|
 bi (x3.1 == 8) (
  bi (decide ((len x6.Sdq) < x0.Sdq)) (
   on1 (a2s N x6.E x3.2.2.1)<|gg [pW]<|fun (x12:Int) =>
   gd (rm x6.Sdq [x12] 4) <|
   on1 (a3V N ({ x6 with Sdq:=(x6.Sdq++[x12]) }:a0b))<|gg [a0d]<|fun (x13:a0b) =>
   some (0,a0c.dv x13 [])) <|
  some (0,a0c.dv x6 [])) <|
 bi (x3.1 == 9) (
  on1 (a6G N x1 x3 x0.Ebq x6)<|gg [a0d]<|fun (x14:a0b) =>
  some (0,a0c.dv x14 [])) <|
 bi (x3.1 == 10) (
  on1 (a7s N x1 x6)<|gg [a0d]<|fun (x15:a0b) =>
  some (0,a0c.dv x15 [])) <|
 bi (x3.1 == 11) (
  on1 (b0f N x1 true x6)<|gg [a0d]<|fun (x16:a0b) =>
  some (0,a0c.dv x16 [])) <|
 bi (x3.1 == 12) (
  on1 (b6p N x6)<|gg [a0d]<|fun (x17:a0b) =>
  some (0,a0c.dv x17 [])) <|
 some (0,a0c.dv x6 [])
def c5G (N:Nat):CE:=(c5L,mkF [a0l,a0m,a0d] [a0d] (b8D N))
theorem d6e (N:Nat):CEok Q (c5G N) :=
 fnG (hi:=d5G) (l:=[c4C N,b7p N,c4J N,a9t N,a5T N,c6O N,a4B N,a9l N,a9f N,b1s N,b9J N]) (t:=[]) a0r hmix ⟨d5n N,c4i N,d6u N,b4G N,a8R N,d8C N,a6h N,b8M N,b8L N,b5H N,c9Q N,trivial⟩ ⟨rfl,rfl,rfl,rfl,rfl,rfl,rfl,rfl,rfl,rfl,rfl,rfl,trivial⟩ f_82 (by kernel_rfl) (by kernel_rfl) trivial fun ys=>by kernel_rfl
def b0g:CS:=⟨122,76,⟨[.one (.d (.sl tW)),.one (.d (.sl tW))],[]⟩,[.one (.d tB)],true,[]⟩
def b3m:LS:=⟨⟨[.one (.d (.sl tW)),.one (.d (.sl tW)),.no,.no,.no,.one (.d tI)]++nos 20,[]⟩,[(0,⟨[.no,.no,.no,.no,.one (.d tB)]++nos 21,[]⟩),(1,⟨nos 26,[]⟩)]⟩
def a7v:Hi:=⟨[],[(0,b3m)],[10,14,25],[],[]⟩
theorem f_76:Fn Q 76 f76 (codeOf f76):=by constructor <;> kernel_rfl
def a7d (N:Nat):List CE:=[]
theorem b5q (N:Nat):AllP (CEok Q) (a7d N):=trivial
theorem b6x (N:Nat):AllP (fun e=>lookC (a7d N) e.2.id = some e.2) a7v.cs:=trivial
def a5R (N:Nat) (again:Fn' (Option Rs) [pD (.sl tW),pD (.sl tW),pI]) (x0:List Int) (x1:List Int) (x2:Int):Option Rs :=
 bi (decide (x2 < (len x0))) (
  gd (idx x2 (List.length x0)) <|
  gd (idx x2 (List.length x1)) <|
  bi ((List.getD x0 x2.toNat 0) != (List.getD x1 x2.toNat 0)) (
   some (0,gB.dv false [])) <|
  again x0 x1 (w.i64 (x2+1))) <|
 some (1,[])
def a5P (N:Nat):Nat→Fn' (Option Rs) [pD (.sl tW),pD (.sl tW),pI]:=lpG (a5R N)
def b2V (N:Nat):LE:=(0,mkM [pD (.sl tW),pD (.sl tW),pI] [(0,[pB]),(1,[])] (a5P N N))
theorem c3j (N:Nat):LEok Q a7v (bodOf f76) f76.ntmps 0 (b2V N) :=
 loopG (hi:=a7v) (l:=a7d N) (t:=[]) (r:=a5R N) a0r hmix (b5q N) (b6x N) f_76 trivial (ls:=b3m) (body:=bodyAt f76 0) (by kernel_rfl) (by kernel_rfl) fun A ys=>by kernel_rfl
def a7e (N:Nat) (x0:List Int) (x1:List Int):Option Rs :=
 bi ((len x0) != (len x1)) (
  some (0,gB.dv false [])) <|
 onB 0 1 (a5P N N x0 x1 0) (gg [pB]<|fun (x2:Bool) =>
  some (0,gB.dv x2 []))<|gg [] <|
 some (0,gB.dv true [])
def b5Y (N:Nat):CE:=(b0g,mkF [pD (.sl tW),pD (.sl tW)] [pB] (a7e N))
theorem c8D (N:Nat):CEok Q (b5Y N) :=
 fnG (hi:=a7v) (l:=a7d N) (t:=[b2V N]) a0r hmix (b5q N) (b6x N) f_76 (by kernel_rfl) (by kernel_rfl) ⟨c3j N,trivial⟩ fun ys=>by kernel_rfl
def b0m:CS:=⟨123,77,⟨[.one (.d (.sl tB)),.one (.d (.sl tB))],[]⟩,[.one (.d tB)],true,[]⟩
def b3z:LS:=⟨⟨[.one (.d (.sl tB)),.one (.d (.sl tB)),.no,.no,.no,.one (.d tI)]++nos 20,[]⟩,[(0,⟨[.no,.no,.no,.no,.one (.d tB)]++nos 21,[]⟩),(1,⟨nos 26,[]⟩)]⟩
def a6D:Hi:=⟨[],[(0,b3z)],[10,14,25],[],[]⟩
theorem f_77:Fn Q 77 f77 (codeOf f77):=by constructor <;> kernel_rfl
def a7l (N:Nat):List CE:=[]
theorem b5r (N:Nat):AllP (CEok Q) (a7l N):=trivial
theorem b6C (N:Nat):AllP (fun e=>lookC (a7l N) e.2.id = some e.2) a6D.cs:=trivial
def a5L (N:Nat) (again:Fn' (Option Rs) [pD (.sl tB),pD (.sl tB),pI]) (x0:List Bool) (x1:List Bool) (x2:Int):Option Rs :=
 bi (decide (x2 < (len x0))) (
  gd (idx x2 (List.length x0)) <|
  gd (idx x2 (List.length x1)) <|
  bi (!((List.getD x0 x2.toNat false) == (List.getD x1 x2.toNat false))) (
   some (0,gB.dv false [])) <|
  again x0 x1 (w.i64 (x2+1))) <|
 some (1,[])
def a5X (N:Nat):Nat→Fn' (Option Rs) [pD (.sl tB),pD (.sl tB),pI]:=lpG (a5L N)
def b3H (N:Nat):LE:=(0,mkM [pD (.sl tB),pD (.sl tB),pI] [(0,[pB]),(1,[])] (a5X N N))
theorem c3n (N:Nat):LEok Q a6D (bodOf f77) f77.ntmps 0 (b3H N) :=
 loopG (hi:=a6D) (l:=a7l N) (t:=[]) (r:=a5L N) a0r hmix (b5r N) (b6C N) f_77 trivial (ls:=b3z) (body:=bodyAt f77 0) (by kernel_rfl) (by kernel_rfl) fun A ys=>by kernel_rfl
def a7p (N:Nat) (x0:List Bool) (x1:List Bool):Option Rs :=
 bi ((len x0) != (len x1)) (
  some (0,gB.dv false [])) <|
 onB 0 1 (a5X N N x0 x1 0) (gg [pB]<|fun (x2:Bool) =>
  some (0,gB.dv x2 []))<|gg [] <|
 some (0,gB.dv true [])
def b6E (N:Nat):CE:=(b0m,mkF [pD (.sl tB),pD (.sl tB)] [pB] (a7p N))
theorem c6P (N:Nat):CEok Q (b6E N) :=
 fnG (hi:=a6D) (l:=a7l N) (t:=[b3H N]) a0r hmix (b5r N) (b6C N) f_77 (by kernel_rfl) (by kernel_rfl) ⟨c3n N,trivial⟩ fun ys=>by kernel_rfl
def b0t:CS:=⟨124,31,⟨[.agg q_0,.agg q_0],[]⟩,[.one (.d tB)],true,[]⟩
def b3v:LS:=⟨⟨[.no,.no,.one (.p 0 0 [1,16,16,1,1,1,1,1,1,16,16,1,1,1,1,1,1,1,1,1,1,1,1,1,1,1,1,1,1,1,1,1]),.one (.p 1 0 [1,16,16,1,1,1,1,1,1,16,16,1,1,1,1,1,1,1,1,1,1,1,1,1,1,1,1,1,1,1,1,1]),.no,.one (.d tI)]++nos 193,[q_0,q_0]⟩,[(0,⟨[.no,.no,.no,.no,.one (.d tB)]++nos 194,[]⟩),(1,⟨[.no,.no,.one (.p 0 0 [1,16,16,1,1,1,1,1,1,16,16,1,1,1,1,1,1,1,1,1,1,1,1,1,1,1,1,1,1,1,1,1]),.one (.p 1 0 [1,16,16,1,1,1,1,1,1,16,16,1,1,1,1,1,1,1,1,1,1,1,1,1,1,1,1,1,1,1,1,1])]++nos 195,[q_0,q_0]⟩)]⟩
def b3b:LS:=⟨⟨[.no,.no,.one (.p 0 0 [1,16,16,1,1,1,1,1,1,16,16,1,1,1,1,1,1,1,1,1,1,1,1,1,1,1,1,1,1,1,1,1]),.one (.p 1 0 [1,16,16,1,1,1,1,1,1,16,16,1,1,1,1,1,1,1,1,1,1,1,1,1,1,1,1,1,1,1,1,1]),.no,.no,.one (.d tI)]++nos 192,[q_0,q_0]⟩,[(0,⟨[.no,.no,.no,.no,.one (.d tB)]++nos 194,[]⟩),(3,⟨[.no,.no,.one (.p 0 0 [1,16,16,1,1,1,1,1,1,16,16,1,1,1,1,1,1,1,1,1,1,1,1,1,1,1,1,1,1,1,1,1]),.one (.p 1 0 [1,16,16,1,1,1,1,1,1,16,16,1,1,1,1,1,1,1,1,1,1,1,1,1,1,1,1,1,1,1,1,1])]++nos 195,[q_0,q_0]⟩)]⟩
def b3y:LS:=⟨⟨[.no,.no,.one (.p 0 0 [1,16,16,1,1,1,1,1,1,16,16,1,1,1,1,1,1,1,1,1,1,1,1,1,1,1,1,1,1,1,1,1]),.one (.p 1 0 [1,16,16,1,1,1,1,1,1,16,16,1,1,1,1,1,1,1,1,1,1,1,1,1,1,1,1,1,1,1,1,1]),.no,.no,.no,.one (.d tI)]++nos 191,[q_0,q_0]⟩,[(0,⟨[.no,.no,.no,.no,.one (.d tB)]++nos 194,[]⟩),(5,⟨[.no,.no,.one (.p 0 0 [1,16,16,1,1,1,1,1,1,16,16,1,1,1,1,1,1,1,1,1,1,1,1,1,1,1,1,1,1,1,1,1]),.one (.p 1 0 [1,16,16,1,1,1,1,1,1,16,16,1,1,1,1,1,1,1,1,1,1,1,1,1,1,1,1,1,1,1,1,1])]++nos 195,[q_0,q_0]⟩)]⟩
def b3e:LS:=⟨⟨[.no,.no,.one (.p 0 0 [1,16,16,1,1,1,1,1,1,16,16,1,1,1,1,1,1,1,1,1,1,1,1,1,1,1,1,1,1,1,1,1]),.one (.p 1 0 [1,16,16,1,1,1,1,1,1,16,16,1,1,1,1,1,1,1,1,1,1,1,1,1,1,1,1,1,1,1,1,1]),.no,.no,.no,.no,.one (.d tI)]++nos 190,[q_0,q_0]⟩,[(0,⟨[.no,.no,.no,.no,.one (.d tB)]++nos 194,[]⟩),(7,⟨[.no,.no,.one (.p 0 0 [1,16,16,1,1,1,1,1,1,16,16,1,1,1,1,1,1,1,1,1,1,1,1,1,1,1,1,1,1,1,1,1]),.one (.p 1 0 [1,16,16,1,1,1,1,1,1,16,16,1,1,1,1,1,1,1,1,1,1,1,1,1,1,1,1,1,1,1,1,1])]++nos 195,[q_0,q_0]⟩)]⟩
def a1o:Hi:=⟨[((23,4),b0g),((23,10),b0g),((23,17),b0m),((23,24),b0m)],[(0,b3v),(2,b3b),(4,b3y),(6,b3e)],[14,21,28,35,42,49,56,65,74,83,92,100,105,118,123,136,141,154,159,172,178,185,192],[],[]⟩
theorem f_31:Fn Q 31 f31 (codeOf f31):=by constructor <;> kernel_rfl
def a2q (N:Nat):List CE:=[b5Y N,b6E N]
theorem a3H (N:Nat):AllP (CEok Q) (a2q N):=⟨c8D N,c6P N,trivial⟩
theorem a4l (N:Nat):AllP (fun e=>lookC (a2q N) e.2.id = some e.2) a1o.cs:=⟨rfl,rfl,rfl,rfl,trivial⟩
def a5M (N:Nat) (again:Fn' (Option Rs) [pI,a0d,a0d]) (x0:Int) (x1:a0b) (x2:a0b):Option Rs :=
 bi (decide (x0 < (len x1.Ldq))) (
  gd (idx x0 (List.length x1.Ldq)) <|
  gd (idx x0 (List.length x2.Ldq)) <|
  bi (!(((List.getD x1.Ldq x0.toNat a0q.z).1 == (List.getD x2.Ldq x0.toNat a0q.z).1) && (((List.getD x1.Ldq x0.toNat a0q.z).2.1 == (List.getD x2.Ldq x0.toNat a0q.z).2.1) && ((List.getD x1.Ldq x0.toNat a0q.z).2.2.1 == (List.getD x2.Ldq x0.toNat a0q.z).2.2.1)))) (
   some (0,gB.dv false [])) <|
  again (w.i64 (x0+1)) x1 x2) <|
 some (1,a0c.dv x1 (a0c.dv x2 []))
def a5O (N:Nat):Nat→Fn' (Option Rs) [pI,a0d,a0d]:=lpG (a5M N)
def b3r (N:Nat):LE:=(0,mkM [pI,a0d,a0d] [(0,[pB]),(1,[a0d,a0d])] (a5O N N))
theorem c3w (N:Nat):LEok Q a1o (bodOf f31) f31.ntmps 0 (b3r N) :=
 loopG (hi:=a1o) (l:=a2q N) (t:=[]) (r:=a5M N) a0r hmix (a3H N) (a4l N) f_31 trivial (ls:=b3v) (body:=bodyAt f31 0) (by kernel_rfl) (by kernel_rfl) fun A ys=>by kernel_rfl
def a5U (N:Nat) (again:Fn' (Option Rs) [pI,a0d,a0d]) (x0:Int) (x1:a0b) (x2:a0b):Option Rs :=
 bi (decide (x0 < (len x1.Saq))) (
  gd (idx x0 (List.length x1.Saq)) <|
  gd (idx x0 (List.length x2.Saq)) <|
  bi (!(((List.getD x1.Saq x0.toNat a0a.z).1 == (List.getD x2.Saq x0.toNat a0a.z).1) && (((List.getD x1.Saq x0.toNat a0a.z).2.1 == (List.getD x2.Saq x0.toNat a0a.z).2.1) && (((List.getD x1.Saq x0.toNat a0a.z).2.2.1 == (List.getD x2.Saq x0.toNat a0a.z).2.2.1) && (((List.getD x1.Saq x0.toNat a0a.z).2.2.2.1 == (List.getD x2.Saq x0.toNat a0a.z).2.2.2.1) && ((List.getD x1.Saq x0.toNat a0a.z).2.2.2.2.1 == (List.getD x2.Saq x0.toNat a0a.z).2.2.2.2.1)))))) (
   some (0,gB.dv false [])) <|
  again (w.i64 (x0+1)) x1 x2) <|
 some (3,a0c.dv x1 (a0c.dv x2 []))
def a5J (N:Nat):Nat→Fn' (Option Rs) [pI,a0d,a0d]:=lpG (a5U N)
def b3k (N:Nat):LE:=(2,mkM [pI,a0d,a0d] [(0,[pB]),(3,[a0d,a0d])] (a5J N N))
theorem c2O (N:Nat):LEok Q a1o (bodOf f31) f31.ntmps 0 (b3k N) :=
 loopG (hi:=a1o) (l:=a2q N) (t:=[]) (r:=a5U N) a0r hmix (a3H N) (a4l N) f_31 trivial (ls:=b3b) (body:=bodyAt f31 2) (by kernel_rfl) (by kernel_rfl) fun A ys=>by kernel_rfl
def a5I (N:Nat) (again:Fn' (Option Rs) [pI,a0d,a0d]) (x0:Int) (x1:a0b) (x2:a0b):Option Rs :=
 bi (decide (x0 < (len x1.Table))) (
  gd (idx x0 (List.length x1.Table)) <|
  gd (idx x0 (List.length x2.Table)) <|
  bi (!(((List.getD x1.Table x0.toNat a0e.z).1 == (List.getD x2.Table x0.toNat a0e.z).1) && (((List.getD x1.Table x0.toNat a0e.z).2.1 == (List.getD x2.Table x0.toNat a0e.z).2.1) && (((List.getD x1.Table x0.toNat a0e.z).2.2.1 == (List.getD x2.Table x0.toNat a0e.z).2.2.1) && (((List.getD x1.Table x0.toNat a0e.z).2.2.2.1 == (List.getD x2.Table x0.toNat a0e.z).2.2.2.1) && (((List.getD x1.Table x0.toNat a0e.z).2.2.2.2.1 == (List.getD x2.Table x0.toNat a0e.z).2.2.2.2.1) && (((List.getD x1.Table x0.toNat a0e.z).2.2.2.2.2.1 == (List.getD x2.Table x0.toNat a0e.z).2.2.2.2.2.1) && (((List.getD x1.Table x0.toNat a0e.z).2.2.2.2.2.2.1 == (List.getD x2.Table x0.toNat a0e.z).2.2.2.2.2.2.1) && ((List.getD x1.Table x0.toNat a0e.z).2.2.2.2.2.2.2.1 == (List.getD x2.Table x0.toNat a0e.z).2.2.2.2.2.2.2.1))))))))) (
   some (0,gB.dv false [])) <|
  again (w.i64 (x0+1)) x1 x2) <|
 some (5,a0c.dv x1 (a0c.dv x2 []))
def a5V (N:Nat):Nat→Fn' (Option Rs) [pI,a0d,a0d]:=lpG (a5I N)
def b2Y (N:Nat):LE:=(4,mkM [pI,a0d,a0d] [(0,[pB]),(5,[a0d,a0d])] (a5V N N))
theorem c2S (N:Nat):LEok Q a1o (bodOf f31) f31.ntmps 0 (b2Y N) :=
 loopG (hi:=a1o) (l:=a2q N) (t:=[]) (r:=a5I N) a0r hmix (a3H N) (a4l N) f_31 trivial (ls:=b3y) (body:=bodyAt f31 4) (by kernel_rfl) (by kernel_rfl) fun A ys=>by kernel_rfl
def a5N (N:Nat) (again:Fn' (Option Rs) [pI,a0d,a0d]) (x0:Int) (x1:a0b) (x2:a0b):Option Rs :=
 bi (decide (x0 < (len x1.Writes))) (
  gd (idx x0 (List.length x1.Writes)) <|
  gd (idx x0 (List.length x2.Writes)) <|
  bi (!(((List.getD x1.Writes x0.toNat a0K.z).1 == (List.getD x2.Writes x0.toNat a0K.z).1) && (((List.getD x1.Writes x0.toNat a0K.z).2.1 == (List.getD x2.Writes x0.toNat a0K.z).2.1) && ((List.getD x1.Writes x0.toNat a0K.z).2.2.1 == (List.getD x2.Writes x0.toNat a0K.z).2.2.1)))) (
   some (0,gB.dv false [])) <|
  again (w.i64 (x0+1)) x1 x2) <|
 some (7,a0c.dv x1 (a0c.dv x2 []))
def a5Q (N:Nat):Nat→Fn' (Option Rs) [pI,a0d,a0d]:=lpG (a5N N)
def b3x (N:Nat):LE:=(6,mkM [pI,a0d,a0d] [(0,[pB]),(7,[a0d,a0d])] (a5Q N N))
theorem c2V (N:Nat):LEok Q a1o (bodOf f31) f31.ntmps 0 (b3x N) :=
 loopG (hi:=a1o) (l:=a2q N) (t:=[]) (r:=a5N N) a0r hmix (a3H N) (a4l N) f_31 trivial (ls:=b3e) (body:=bodyAt f31 6) (by kernel_rfl) (by kernel_rfl) fun A ys=>by kernel_rfl
def a7j (N:Nat) (x0:a0b) (x1:a0b):Option Rs :=
 bi (x0.Cycle != x1.Cycle) (
  some (0,gB.dv false [])) <|
 bi (!((x0.A.Regs == x1.A.Regs) && ((x0.A.Ready == x1.A.Ready) && ((x0.A.Pos.Block == x1.A.Pos.Block) && ((x0.A.Pos.Index == x1.A.Pos.Index) && ((x0.A.Pos.Base == x1.A.Pos.Base) && ((x0.A.Wait == x1.A.Wait) && ((x0.A.Halted == x1.A.Halted) && (x0.A.Done == x1.A.Done))))))))) (
  some (0,gB.dv false [])) <|
 bi (!((x0.E.Regs == x1.E.Regs) && ((x0.E.Ready == x1.E.Ready) && ((x0.E.Pos.Block == x1.E.Pos.Block) && ((x0.E.Pos.Index == x1.E.Pos.Index) && ((x0.E.Pos.Base == x1.E.Pos.Base) && ((x0.E.Wait == x1.E.Wait) && ((x0.E.Halted == x1.E.Halted) && (x0.E.Done == x1.E.Done))))))))) (
  some (0,gB.dv false [])) <|
 bi (!((x0.Trap.Kind == x1.Trap.Kind) && ((x0.Trap.Step == x1.Trap.Step) && (x0.Trap.Pc == x1.Trap.Pc)))) (
  some (0,gB.dv false [])) <|
 bi (x0.Lats != x1.Lats) (
  some (0,gB.dv false [])) <|
 bi (x0.Picks != x1.Picks) (
  some (0,gB.dv false [])) <|
 bi (x0.Tags != x1.Tags) (
  some (0,gB.dv false [])) <|
 bi (!((strOf x0.Mem).toList == (strOf x1.Mem).toList)) (
  some (0,gB.dv false [])) <|
 bi ((len x0.Ldq) != (len x1.Ldq)) (
  some (0,gB.dv false [])) <|
 bi ((len x0.Saq) != (len x1.Saq)) (
  some (0,gB.dv false [])) <|
 bi ((len x0.Table) != (len x1.Table)) (
  some (0,gB.dv false [])) <|
 bi ((len x0.Writes) != (len x1.Writes)) (
  some (0,gB.dv false [])) <|
 onB 0 1 (a5O N N 0 x0 x1) (gg [pB]<|fun (x2:Bool) =>
  some (0,gB.dv x2 []))<|gg [a0d,a0d]<|fun (x3:a0b) (x4:a0b) =>
 onB 0 3 (a5J N N 0 x3 x4) (gg [pB]<|fun (x5:Bool) =>
  some (0,gB.dv x5 []))<|gg [a0d,a0d]<|fun (x6:a0b) (x7:a0b) =>
 onB 0 5 (a5V N N 0 x6 x7) (gg [pB]<|fun (x8:Bool) =>
  some (0,gB.dv x8 []))<|gg [a0d,a0d]<|fun (x9:a0b) (x10:a0b) =>
 onB 0 7 (a5Q N N 0 x9 x10) (gg [pB]<|fun (x11:Bool) =>
  some (0,gB.dv x11 []))<|gg [a0d,a0d]<|fun (x12:a0b) (x13:a0b) =>
 on1 (a7e N x12.Sdq x13.Sdq)<|gg [pB]<|fun (x14:Bool) =>
 bi x14 (
  on1 (a7e N x12.Aeq x13.Aeq)<|gg [pB]<|fun (x15:Bool) =>
  bi x15 (
   on1 (a7p N x12.Abq x13.Abq)<|gg [pB]<|fun (x16:Bool) =>
   bi x16 (
    on1 (a7p N x12.Ebq x13.Ebq)<|gg [pB]<|fun (x17:Bool) =>
    some (0,gB.dv x17 [])) <|
   some (0,gB.dv false [])) <|
  some (0,gB.dv false [])) <|
 some (0,gB.dv false [])
def b0O (N:Nat):CE:=(b0t,mkF [a0d,a0d] [pB] (a7j N))
theorem b5V (N:Nat):CEok Q (b0O N) :=
 fnG (hi:=a1o) (l:=a2q N) (t:=[b3r N,b3k N,b2Y N,b3x N]) a0r hmix (a3H N) (a4l N) f_31 (by kernel_rfl) (by kernel_rfl) ⟨c3w N,c2O N,c2S N,c2V N,trivial⟩ fun ys=>by kernel_rfl
end
end Go.Proofs.Zz
