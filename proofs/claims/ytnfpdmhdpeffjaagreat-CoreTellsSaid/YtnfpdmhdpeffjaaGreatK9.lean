import Derived.Test.YtnfpdmhdpeffjaaGreatK7
set_option linter.unusedSimpArgs false
set_option linter.unusedVariables false
/- What functions of the program compute, as plain functions. -/
set_option maxRecDepth 100000
namespace Go.Proofs.Zz
noncomputable section
open Go Go.Proofs.Tryz
def d0p:CS:=⟨225,196,⟨[.one (.d (.sl tU)),.agg [.d tI,.d tI,.d tW]],[]⟩,[.one (.o tU)],true,[]⟩
def c5D:LS:=⟨⟨[.no,.no,.no,.one (.p 0 0 [1,1,1]),.no,.one (.o tU),.one (.d tI)]++nos 57,[[.d tI,.d tI,.d tW]]⟩,[(1,⟨[.no,.no,.no,.no,.no,.one (.o tU)]++nos 58,[]⟩)]⟩
def b8j:Hi:=⟨[((2,31),b2T)],[(0,c5D)],[12,17,22,27,32,42,47],[],[]⟩
theorem e8u:Fn Q 196 f196 (codeOf f196):=by constructor <;> kernel_rfl
def b7T (N:Nat):List CE:=[b3n N]
theorem c7f (N:Nat):AllP (CEok Q) (b7T N):=⟨b8v N,trivial⟩
theorem d0e (N:Nat):AllP (fun e=>lookC (b7T N) e.2.id = some e.2) b8j.cs:=⟨rfl,trivial⟩
def b4L (N:Nat) (again:Fn' (Option Rs) [pD (.sl tU),pI,a4x]) (x0:List Int) (x1:Int) (x2:a0K):Option Rs :=
 bi (decide (x1 < x2.2.1)) (
  gf (decide ((w.u64 (w.i64 (8*x1))) < 0)) <|
  gd (idx (w.i64 (x2.1+x1)) (List.length x0)) <|
  again (List.set x0 (Int.toNat (w.i64 (x2.1+x1))) (w.u8 (shr .u32 x2.2.2.1 (w.u64 (w.i64 (8*x1)))))) (w.i64 (x1+1)) x2) <|
 some (1,(gD (.sl tU)).dv x0 [])
def a6a (N:Nat):Nat→Fn' (Option Rs) [pD (.sl tU),pI,a4x]:=lpG (b4L N)
def c5P (N:Nat):LE:=(0,mkM [pD (.sl tU),pI,a4x] [(1,[pD (.sl tU)])] (a6a N N))
theorem d5V (N:Nat):LEok Q b8j (bodOf f196) f196.ntmps 0 (c5P N) :=
 loopG (hi:=b8j) (l:=b7T N) (t:=[]) (r:=b4L N) a0r hmix (c7f N) (d0e N) e8u trivial (ls:=c5D) (body:=bodyAt f196 0) (by kernel_rfl) (by kernel_rfl) fun A ys=>by kernel_rfl
def c1p (N:Nat) (x0:List Int) (x1:a0K):Option Rs :=
 gd (rm ([]:List Int) x0 1) <|
 bi (x1.2.1 != 1) (
  bi (x1.2.1 != 2) (
   bi (x1.2.1 != 4) (
    some (0,(gD (.sl tU)).dv (([]:List Int)++x0) [])) <|
   bi (decide (x1.1 < 0)) (
    some (0,(gD (.sl tU)).dv (([]:List Int)++x0) [])) <|
   bi (decide (x1.1 > 4294967295)) (
    some (0,(gD (.sl tU)).dv (([]:List Int)++x0) [])) <|
   on1 (a5K N x1.2.1 (w.u32 x1.1) (len x0))<|gg [pI]<|fun (x2:Int) =>
   bi (x2 != 0) (
    some (0,(gD (.sl tU)).dv (([]:List Int)++x0) [])) <|
   onA 1 (a6a N N (([]:List Int)++x0) 0 x1)<|gg [pD (.sl tU)]<|fun (x3:List Int) =>
   some (0,(gD (.sl tU)).dv x3 [])) <|
  bi (decide (x1.1 < 0)) (
   some (0,(gD (.sl tU)).dv (([]:List Int)++x0) [])) <|
  bi (decide (x1.1 > 4294967295)) (
   some (0,(gD (.sl tU)).dv (([]:List Int)++x0) [])) <|
  on1 (a5K N x1.2.1 (w.u32 x1.1) (len x0))<|gg [pI]<|fun (x4:Int) =>
  bi (x4 != 0) (
   some (0,(gD (.sl tU)).dv (([]:List Int)++x0) [])) <|
  onA 1 (a6a N N (([]:List Int)++x0) 0 x1)<|gg [pD (.sl tU)]<|fun (x5:List Int) =>
  some (0,(gD (.sl tU)).dv x5 [])) <|
 bi (decide (x1.1 < 0)) (
  some (0,(gD (.sl tU)).dv (([]:List Int)++x0) [])) <|
 bi (decide (x1.1 > 4294967295)) (
  some (0,(gD (.sl tU)).dv (([]:List Int)++x0) [])) <|
 on1 (a5K N x1.2.1 (w.u32 x1.1) (len x0))<|gg [pI]<|fun (x6:Int) =>
 bi (x6 != 0) (
  some (0,(gD (.sl tU)).dv (([]:List Int)++x0) [])) <|
 onA 1 (a6a N N (([]:List Int)++x0) 0 x1)<|gg [pD (.sl tU)]<|fun (x7:List Int) =>
 some (0,(gD (.sl tU)).dv x7 [])
def d1r (N:Nat):CE:=(d0p,mkF [pD (.sl tU),a4x] [pD (.sl tU)] (c1p N))
theorem d9Y (N:Nat):CEok Q (d1r N) :=
 fnG (hi:=b8j) (l:=b7T N) (t:=[c5P N]) a0r hmix (c7f N) (d0e N) e8u (by kernel_rfl) (by kernel_rfl) ⟨d5V N,trivial⟩ fun ys=>by kernel_rfl
def d4l:CS:=⟨226,195,⟨[.one (.d (.sl tU)),.one (.d tI),.one (.d tW)],[]⟩,[.one (.d tW)],true,[]⟩
def c7A:LS:=⟨⟨[.one (.d (.sl tU)),.one (.d tI),.one (.d tW),.no,.no,.no,.no,.one (.d tI),.one (.d tW),.one (.d tI)]++nos 35,[]⟩,[(1,⟨[.no,.one (.d tI)]++nos 6++[.one (.d tW)]++nos 36,[]⟩)]⟩
def c0V:Hi:=⟨[((1,1),b3C),((2,1),a2C),((2,8),b2T),((9,2),c0C)],[(0,c7A)],[15,22,25],[],[]⟩
theorem e8h:Fn Q 195 f195 (codeOf f195):=by constructor <;> kernel_rfl
def c1O (N:Nat):List CE:=[b3D N,a2O N,b3n N,b9W N]
theorem d1d (N:Nat):AllP (CEok Q) (c1O N):=⟨b7o N,a3h N,b8v N,c8B N,trivial⟩
theorem d6v (N:Nat):AllP (fun e=>lookC (c1O N) e.2.id = some e.2) c0V.cs:=⟨rfl,rfl,rfl,rfl,trivial⟩
def b8C (N:Nat) (again:Fn' (Option Rs) [pD (.sl tU),pI,pW,pI,pW,pI]) (x0:List Int) (x1:Int) (x2:Int) (x3:Int) (x4:Int) (x5:Int):Option Rs :=
 bi (decide (x5 < x3)) (
  gd (idx (w.i64 ((w.i64 x2)+x5)) (List.length x0)) <|
  gf (decide ((w.u64 (w.i64 (8*x5))) < 0)) <|
  again x0 x1 x2 x3 (bitOr .u32 x4 (shl .u32 (w.u32 (List.getD x0 (Int.toNat (w.i64 ((w.i64 x2)+x5))) 0)) (w.u64 (w.i64 (8*x5))))) (w.i64 (x5+1))) <|
 some (1,gI.dv x1 (gW.dv x4 []))
def b2C (N:Nat):Nat→Fn' (Option Rs) [pD (.sl tU),pI,pW,pI,pW,pI]:=lpG (b8C N)
def c8N (N:Nat):LE:=(0,mkM [pD (.sl tU),pI,pW,pI,pW,pI] [(1,[pI,pW])] (b2C N N))
theorem d7b (N:Nat):LEok Q c0V (bodOf f195) f195.ntmps 0 (c8N N) :=
 loopG (hi:=c0V) (l:=c1O N) (t:=[]) (r:=b8C N) a0r hmix (d1d N) (d6v N) e8h trivial (ls:=c7A) (body:=bodyAt f195 0) (by kernel_rfl) (by kernel_rfl) fun A ys=>by kernel_rfl
def d3q (N:Nat) (x0:List Int) (x1:Int) (x2:Int):Option Rs :=
 on1 (c0u N x1)<|gg [pI]<|fun (x3:Int) =>
 on1 (a5s N x1)<|gg [pI]<|fun (x4:Int) =>
 bi (x4 != 4) (
  some (0,gW.dv 0 [])) <|
 on1 (a5K N x3 x2 (len x0))<|gg [pI]<|fun (x5:Int) =>
 bi (x5 != 0) (
  some (0,gW.dv 0 [])) <|
 onA 1 (b2C N N x0 x1 x2 x3 0 0)<|gg [pI,pW]<|fun (x6:Int) (x7:Int) =>
 on1 (b6N N x6 x7)<|gg [pW]<|fun (x8:Int) =>
 some (0,gW.dv x8 [])
def d6w (N:Nat):CE:=(d4l,mkF [pD (.sl tU),pI,pW] [pW] (d3q N))
theorem e3z (N:Nat):CEok Q (d6w N) :=
 fnG (hi:=c0V) (l:=c1O N) (t:=[c8N N]) a0r hmix (d1d N) (d6v N) e8h (by kernel_rfl) (by kernel_rfl) ⟨d7b N,trivial⟩ fun ys=>by kernel_rfl
def c2Y:CS:=⟨227,243,⟨[.one (.d (.sl a0k)),.one (.d tI),.one (.d tW)],[]⟩,[.one (.o a0k),.one (.d tB)],false,[]⟩
def c4b:LS:=⟨⟨[.one (.o a0k),.one (.d tI),.one (.d tW),.no,.no,.no,.no,.no,.one (.d tI)]++nos 34,[]⟩,[(0,⟨nos 6++[.one (.o a0k),.one (.d tB)]++nos 35,[]⟩),(1,⟨[.one (.o a0k)]++nos 42,[]⟩)]⟩
def b8d:Hi:=⟨[((1,1),a7M)],[(0,c4b)],[14,24,31],[],[]⟩
theorem e8W:Fn Q 243 f243 (codeOf f243):=by constructor <;> kernel_rfl
def b8h (N:Nat):List CE:=[b0n N]
theorem c7o (N:Nat):AllP (CEok Q) (b8h N):=⟨b4Z N,trivial⟩
theorem d1L (N:Nat):AllP (fun e=>lookC (b8h N) e.2.id = some e.2) b8d.cs:=⟨rfl,trivial⟩
def b3X (N:Nat) (again:Fn' (Option Rs) [pD (.sl a0k),pI,pW,pI]) (x0:List a0q) (x1:Int) (x2:Int) (x3:Int):Option Rs :=
 bi (decide (x3 < (len x0))) (
  gd (idx x3 (List.length x0)) <|
  bi ((List.getD x0 x3.toNat a0q.z).1 == x1) (
   gd (idx x3 (List.length x0)) <|
   bi (!(List.getD x0 x3.toNat a0q.z).2.1) (
    gd (idx x3 (List.length x0)) <|
    gd (idx x3 (List.length (List.set x0 x3.toNat ((List.getD x0 x3.toNat a0q.z).1,(true,(List.getD x0 x3.toNat a0q.z).2.2))))) <|
    some (0,(gD (.sl a0k)).dv (List.set (List.set x0 x3.toNat ((List.getD x0 x3.toNat a0q.z).1,(true,(List.getD x0 x3.toNat a0q.z).2.2))) x3.toNat ((List.getD (List.set x0 x3.toNat ((List.getD x0 x3.toNat a0q.z).1,(true,(List.getD x0 x3.toNat a0q.z).2.2))) x3.toNat a0q.z).1,((List.getD (List.set x0 x3.toNat ((List.getD x0 x3.toNat a0q.z).1,(true,(List.getD x0 x3.toNat a0q.z).2.2))) x3.toNat a0q.z).2.1,(x2,())))) (gB.dv true []))) <|
   again x0 x1 x2 (w.i64 (x3+1))) <|
  again x0 x1 x2 (w.i64 (x3+1))) <|
 some (1,(gD (.sl a0k)).dv x0 [])
def b4V (N:Nat):Nat→Fn' (Option Rs) [pD (.sl a0k),pI,pW,pI]:=lpG (b3X N)
def c4Z (N:Nat):LE:=(0,mkM [pD (.sl a0k),pI,pW,pI] [(0,[pD (.sl a0k),pB]),(1,[pD (.sl a0k)])] (b4V N N))
theorem d4A (N:Nat):LEok Q b8d (bodOf f243) f243.ntmps 0 (c4Z N) :=
 loopG (hi:=b8d) (l:=b8h N) (t:=[]) (r:=b3X N) a0r hmix (c7o N) (d1L N) e8W trivial (ls:=c4b) (body:=bodyAt f243 0) (by kernel_rfl) (by kernel_rfl) fun A ys=>by kernel_rfl
def a7r (N:Nat) (x0:List a0q) (x1:Int) (x2:Int):Option Rs :=
 on1 (a7q N x0)<|gg [pD (.sl a0k)]<|fun (x3:List a0q) =>
 onB 0 1 (b4V N N x3 x1 x2 0) (gg [pD (.sl a0k),pB]<|fun (x4:List a0q) (x5:Bool) =>
  some (0,(gD (.sl a0k)).dv x4 (gB.dv x5 [])))<|gg [pD (.sl a0k)]<|fun (x6:List a0q) =>
 some (0,(gD (.sl a0k)).dv x6 (gB.dv false []))
def c3a (N:Nat):CE:=(c2Y,mkF [pD (.sl a0k),pI,pW] [pD (.sl a0k),pB] (a7r N))
theorem d1m (N:Nat):CEok Q (c3a N) :=
 fnG (hi:=b8d) (l:=b8h N) (t:=[c4Z N]) a0r hmix (c7o N) (d1L N) e8W (by kernel_rfl) (by kernel_rfl) ⟨d4A N,trivial⟩ fun ys=>by kernel_rfl
def d1D:CS:=⟨228,179,⟨[.agg q_8,.agg [.d tB,.d tI,.d tI,.d tI,.d tW,.d tI,.d tI,.d tI]],[]⟩,[.agg q_8],true,[]⟩
def e0X:Hi:=⟨[((3,3),d0p),((10,7),d4l),((12,5),c2Y)],[],[8,30,40,44,53,67,71],[],[]⟩
theorem f1v:Fn Q 179 f179 (codeOf f179):=by constructor <;> kernel_rfl
def c1u (N:Nat) (x0:a0b) (x1:a0e):Option Rs :=
 bi x1.1 (
  on1 (c1p N x0.Mem (x1.2.2.1,(x1.2.2.2.1,(x1.2.2.2.2.1,()))))<|gg [pD (.sl tU)]<|fun (x2:List Int) =>
  gd (rm x0.Writes [(x1.2.2.1,(x1.2.2.2.1,(x1.2.2.2.2.1,())))] 24) <|
  bi (decide ((len x0.Saq) > 0)) (
   gd (sb 1 (len x0.Saq)) <|
   gd (rm ([]:List a0a) (List.drop 1 x0.Saq) 32) <|
   some (0,a0c.dv ({ x0 with Saq:=(([]:List a0a)++(List.drop 1 x0.Saq)),Mem:=x2,Writes:=(x0.Writes++[(x1.2.2.1,(x1.2.2.2.1,(x1.2.2.2.2.1,())))]) }:a0b) [])) <|
  some (0,a0c.dv ({ x0 with Mem:=x2,Writes:=(x0.Writes++[(x1.2.2.1,(x1.2.2.2.1,(x1.2.2.2.2.1,())))]) }:a0b) [])) <|
 bi (decide (x1.2.2.1≥0)) (
  bi (decide (x1.2.2.1 < 4294967296)) (
   on1 (d3q N x0.Mem x1.2.1 (w.u32 x1.2.2.1))<|gg [pW]<|fun (x3:Int) =>
   bi (decide (x1.2.2.2.2.2.2.1 < 0)) (
    on1 (a7r N x0.Ldq x1.2.2.2.2.2.2.2.1 x3)<|gg [pD (.sl a0k),pB]<|fun (x4:List a0q) (x5:Bool) =>
    some (0,a0c.dv ({ x0 with Ldq:=x4 }:a0b) [])) <|
   bi (decide (x1.2.2.2.2.2.2.1≥1)) (
    bi (decide (x1.2.2.2.2.2.2.1≤15)) (
     gd (idx x1.2.2.2.2.2.2.1 16) <|
     gd (idx x1.2.2.2.2.2.2.1 16) <|
     some (0,a0c.dv ({ x0 with A:={ x0.A with Regs:=(List.set x0.A.Regs x1.2.2.2.2.2.2.1.toNat x3),Ready:=(List.set x0.A.Ready x1.2.2.2.2.2.2.1.toNat (w.i64 (x0.Cycle+1))) } }:a0b) [])) <|
    some (0,a0c.dv x0 [])) <|
   some (0,a0c.dv x0 [])) <|
  bi (decide (x1.2.2.2.2.2.2.1 < 0)) (
   on1 (a7r N x0.Ldq x1.2.2.2.2.2.2.2.1 0)<|gg [pD (.sl a0k),pB]<|fun (x6:List a0q) (x7:Bool) =>
   some (0,a0c.dv ({ x0 with Ldq:=x6 }:a0b) [])) <|
  bi (decide (x1.2.2.2.2.2.2.1≥1)) (
   bi (decide (x1.2.2.2.2.2.2.1≤15)) (
    gd (idx x1.2.2.2.2.2.2.1 16) <|
    gd (idx x1.2.2.2.2.2.2.1 16) <|
    some (0,a0c.dv ({ x0 with A:={ x0.A with Regs:=(List.set x0.A.Regs x1.2.2.2.2.2.2.1.toNat 0),Ready:=(List.set x0.A.Ready x1.2.2.2.2.2.2.1.toNat (w.i64 (x0.Cycle+1))) } }:a0b) [])) <|
   some (0,a0c.dv x0 [])) <|
  some (0,a0c.dv x0 [])) <|
 bi (decide (x1.2.2.2.2.2.2.1 < 0)) (
  on1 (a7r N x0.Ldq x1.2.2.2.2.2.2.2.1 0)<|gg [pD (.sl a0k),pB]<|fun (x8:List a0q) (x9:Bool) =>
  some (0,a0c.dv ({ x0 with Ldq:=x8 }:a0b) [])) <|
 bi (decide (x1.2.2.2.2.2.2.1≥1)) (
  bi (decide (x1.2.2.2.2.2.2.1≤15)) (
   gd (idx x1.2.2.2.2.2.2.1 16) <|
   gd (idx x1.2.2.2.2.2.2.1 16) <|
   some (0,a0c.dv ({ x0 with A:={ x0.A with Regs:=(List.set x0.A.Regs x1.2.2.2.2.2.2.1.toNat 0),Ready:=(List.set x0.A.Ready x1.2.2.2.2.2.2.1.toNat (w.i64 (x0.Cycle+1))) } }:a0b) [])) <|
  some (0,a0c.dv x0 [])) <|
 some (0,a0c.dv x0 [])
def d0y (N:Nat):CE:=(d1D,mkF [a0d,a3C] [a0d] (c1u N))
theorem e0J (N:Nat):CEok Q (d0y N) :=
 fnG (hi:=e0X) (l:=[d1r N,d6w N,c3a N]) (t:=[]) a0r hmix ⟨d9Y N,e3z N,d1m N,trivial⟩ ⟨rfl,rfl,rfl,trivial⟩ f1v (by kernel_rfl) (by kernel_rfl) trivial fun ys=>by kernel_rfl
def d1h:CS:=⟨229,180,⟨[.one (.d tI),.one (.d tI)],[]⟩,[.one (.d tI)],true,[]⟩
def e0B:Hi:=⟨[],[],[7,10],[],[]⟩
theorem f0g:Fn Q 180 f180 (codeOf f180):=by constructor <;> kernel_rfl
def d1X (N:Nat) (x0:Int) (x1:Int):Option Rs :=
 bi (decide (x0 < 0)) (
  some (0,gI.dv 0 [])) <|
 bi (decide (x1 < 1)) (
  some (0,gI.dv 0 [])) <|
 gf (decide ((4:Int) = (0:Int))) <|
 gf (decide (x1 = 0)) <|
 some (0,gI.dv (Int.tmod (w.i64 (Int.tdiv x0 4)) x1) [])
def d0u (N:Nat):CE:=(d1h,mkF [pI,pI] [pI] (d1X N))
theorem e0c (N:Nat):CEok Q (d0u N) :=
 fnG (hi:=e0B) (l:=[]) (t:=[]) a0r hmix trivial trivial f0g (by kernel_rfl) (by kernel_rfl) trivial fun ys=>by kernel_rfl
def c6V:CS:=⟨230,244,⟨[.one (.d (.sl tI)),.one (.d tI)],[]⟩,[.one (.d tI)],true,[]⟩
def e1O:Hi:=⟨[],[],[8,11],[],[]⟩
theorem f0r:Fn Q 244 f244 (codeOf f244):=by constructor <;> kernel_rfl
def c8a (N:Nat) (x0:List Int) (x1:Int):Option Rs :=
 bi ((len x0) == 0) (
  some (0,gI.dv 0 [])) <|
 bi (decide (x1 < 0)) (
  some (0,gI.dv 0 [])) <|
 gf (decide ((len x0) = 0)) <|
 gd (idx (Int.tmod x1 (len x0)) (List.length x0)) <|
 some (0,gI.dv (bitAnd .i64 (List.getD x0 (Int.toNat (Int.tmod x1 (len x0))) 0) 1073741823) [])
def c7X (N:Nat):CE:=(c6V,mkF [pD (.sl tI),pI] [pI] (c8a N))
theorem d6f (N:Nat):CEok Q (c7X N) :=
 fnG (hi:=e1O) (l:=[]) (t:=[]) a0r hmix trivial trivial f0r (by kernel_rfl) (by kernel_rfl) trivial fun ys=>by kernel_rfl
def d0J:CS:=⟨231,181,⟨[.agg [.d (.sl tI),.d (.sl tI)],.one (.d tI),.one (.d tI)],[]⟩,[.one (.d tI)],true,[]⟩
def d9P:Hi:=⟨[((3,3),c6V)],[],[8],[],[]⟩
theorem f0O:Fn Q 181 f181 (codeOf f181):=by constructor <;> kernel_rfl
def c6x (N:Nat) (x0:a0w) (x1:Int) (x2:Int):Option Rs :=
 bi (decide (x2 < 1)) (
  some (0,gI.dv 0 [])) <|
 on1 (c8a N x0.Picks x1)<|gg [pI]<|fun (x3:Int) =>
 gf (decide (x2 = 0)) <|
 some (0,gI.dv (Int.tmod x3 x2) [])
def d0Y (N:Nat):CE:=(d0J,mkF [a0F,pI,pI] [pI] (c6x N))
theorem e0D (N:Nat):CEok Q (d0Y N) :=
 fnG (hi:=d9P) (l:=[c7X N]) (t:=[]) a0r hmix ⟨d6f N,trivial⟩ ⟨rfl,trivial⟩ f0O (by kernel_rfl) (by kernel_rfl) trivial fun ys=>by kernel_rfl
def d5r:CS:=⟨232,182,⟨[.agg [.d (.sl tI),.d (.sl tI)],.one (.d tI),.one (.d tI)],[]⟩,[.one (.d tI)],true,[]⟩
def e2i:Hi:=⟨[((3,3),c6V)],[],[8],[],[]⟩
theorem f1a:Fn Q 182 f182 (codeOf f182):=by constructor <;> kernel_rfl
def c8V (N:Nat) (x0:a0w) (x1:Int) (x2:Int):Option Rs :=
 bi (decide (x2 < 1)) (
  some (0,gI.dv 1 [])) <|
 on1 (c8a N x0.Lats x1)<|gg [pI]<|fun (x3:Int) =>
 gf (decide (x2 = 0)) <|
 some (0,gI.dv (w.i64 (1+(Int.tmod x3 x2))) [])
def d5I (N:Nat):CE:=(d5r,mkF [a0F,pI,pI] [pI] (c8V N))
theorem e4i (N:Nat):CEok Q (d5I N) :=
 fnG (hi:=e2i) (l:=[c7X N]) (t:=[]) a0r hmix ⟨d6f N,trivial⟩ ⟨rfl,trivial⟩ f1a (by kernel_rfl) (by kernel_rfl) trivial fun ys=>by kernel_rfl
def c1i:CS:=⟨233,113,⟨[.agg q_5,.agg [.d (.sl tI),.d (.sl tI)],.agg q_0],[]⟩,[.agg q_1],true,[]⟩
def b5R:LS:=⟨⟨[.no,.no,.no,.one (.p 0 0 [1,1,1,1,1,1,1,1,1,1,1,1]),.one (.p 1 0 [1,1]),.one (.p 2 0 [1,16,16,1,1,1,1,1,1,16,16,1,1,1,1,1,1,1,1,1,1,1,1,1,1,1,1,1,1,1,1,1]),.one (.p 3 0 [1,16,16,1,1,1,1,1,1,16,16,1,1,1,1,1,1,1,1,1,1,1,1,1,1,1,1,1,1,1,1,1]),.one (.o a0j),.one (.d (.sl a0j)),.one (.d tI)]++nos 125,[q_5,[.d (.sl tI),.d (.sl tI)],q_8,q_1]⟩,[(1,⟨[.no,.no,.no,.one (.p 0 0 [1,1,1,1,1,1,1,1,1,1,1,1]),.one (.p 1 0 [1,1]),.one (.p 2 0 [1,16,16,1,1,1,1,1,1,16,16,1,1,1,1,1,1,1,1,1,1,1,1,1,1,1,1,1,1,1,1,1]),.one (.p 3 0 [1,16,16,1,1,1,1,1,1,16,16,1,1,1,1,1,1,1,1,1,1,1,1,1,1,1,1,1,1,1,1,1]),.one (.o a0j)]++nos 127,[q_5,[.d (.sl tI),.d (.sl tI)],q_8,q_1]⟩)]⟩
def b7d:LS:=⟨⟨[.no,.no,.no,.one (.p 0 0 [1,1,1,1,1,1,1,1,1,1,1,1]),.one (.p 1 0 [1,1]),.one (.p 2 0 [1,16,16,1,1,1,1,1,1,16,16,1,1,1,1,1,1,1,1,1,1,1,1,1,1,1,1,1,1,1,1,1]),.one (.p 3 0 [1,16,16,1,1,1,1,1,1,16,16,1,1,1,1,1,1,1,1,1,1,1,1,1,1,1,1,1,1,1,1,1]),.one (.o a0j),.no,.no,.no,.one (.d tI),.one (.d tB),.one (.o tI),.one (.d tI)]++nos 120,[q_5,[.d (.sl tI),.d (.sl tI)],q_8,q_1]⟩,[(5,⟨[.no,.no,.no,.one (.p 0 0 [1,1,1,1,1,1,1,1,1,1,1,1]),.one (.p 1 0 [1,1]),.one (.p 2 0 [1,16,16,1,1,1,1,1,1,16,16,1,1,1,1,1,1,1,1,1,1,1,1,1,1,1,1,1,1,1,1,1]),.one (.p 3 0 [1,16,16,1,1,1,1,1,1,16,16,1,1,1,1,1,1,1,1,1,1,1,1,1,1,1,1,1,1,1,1,1]),.one (.o a0j),.no,.no,.no,.one (.d tI),.one (.d tB),.one (.o tI)]++nos 121,[q_5,[.d (.sl tI),.d (.sl tI)],q_8,q_1]⟩)]⟩
def b6y:LS:=⟨⟨[.no,.no,.no,.one (.p 0 0 [1,1,1,1,1,1,1,1,1,1,1,1]),.one (.p 1 0 [1,1]),.one (.p 2 0 [1,16,16,1,1,1,1,1,1,16,16,1,1,1,1,1,1,1,1,1,1,1,1,1,1,1,1,1,1,1,1,1]),.one (.p 3 0 [1,16,16,1,1,1,1,1,1,16,16,1,1,1,1,1,1,1,1,1,1,1,1,1,1,1,1,1,1,1,1,1]),.one (.o a0j),.no,.no,.no,.one (.d tI)]++nos 123,[q_5,[.d (.sl tI),.d (.sl tI)],q_8,q_1]⟩,[(3,⟨[.no,.no,.no,.no,.no,.one (.p 0 0 [1,16,16,1,1,1,1,1,1,16,16,1,1,1,1,1,1,1,1,1,1,1,1,1,1,1,1,1,1,1,1,1]),.one (.p 1 0 [1,16,16,1,1,1,1,1,1,16,16,1,1,1,1,1,1,1,1,1,1,1,1,1,1,1,1,1,1,1,1,1]),.one (.o a0j)]++nos 127,[q_8,q_1]⟩)]⟩
def a2E:Hi:=⟨[((1,1),a4G),((2,2),a3y),((2,7),a3y),((13,2),d1D),((23,7),d1h),((31,5),d0J),((33,10),d5r)],[(0,b5R),(4,b7d),(2,b6y)],[22,27,34,43,50,61,67,79,85,91,97,101,104],[],[]⟩
theorem e4E:Fn Q 113 f113 (codeOf f113):=by constructor <;> kernel_rfl
def a5d (N:Nat):List CE:=[a5g N,b5X N,d0y N,d0u N,d0Y N,d5I N]
theorem a8o (N:Nat):AllP (CEok Q) (a5d N):=⟨a6q N,c5j N,e0J N,e0c N,e0D N,e4i N,trivial⟩
theorem a9L (N:Nat):AllP (fun e=>lookC (a5d N) e.2.id = some e.2) a2E.cs:=⟨rfl,rfl,rfl,rfl,rfl,rfl,rfl,trivial⟩
def a8j (N:Nat) (again:Fn' (Option Rs) [pD (.sl a0j),pD (.sl a0j),pI,a0l,a0F,a0d,a0d]) (x0:List a0e) (x1:List a0e) (x2:Int) (x3:a0f) (x4:a0w) (x5:a0b) (x6:a0b):Option Rs :=
 bi (decide (x2 < (len x1))) (
  gd (idx x2 (List.length x1)) <|
  bi (decide ((List.getD x1 x2.toNat a0e.z).2.2.2.2.2.1 > 0)) (
   bi ((w.i64 ((List.getD x1 x2.toNat a0e.z).2.2.2.2.2.1 - 1)) == 0) (
    on1 (c1u N x5 ((List.getD x1 x2.toNat a0e.z).1,((List.getD x1 x2.toNat a0e.z).2.1,((List.getD x1 x2.toNat a0e.z).2.2.1,((List.getD x1 x2.toNat a0e.z).2.2.2.1,((List.getD x1 x2.toNat a0e.z).2.2.2.2.1,((w.i64 ((List.getD x1 x2.toNat a0e.z).2.2.2.2.2.1 - 1)),(List.getD x1 x2.toNat a0e.z).2.2.2.2.2.2)))))))<|gg [a0d]<|fun (x7:a0b) =>
    again x0 x1 (w.i64 (x2+1)) x3 x4 x7 x6) <|
   gd (rm x0 [((List.getD x1 x2.toNat a0e.z).1,((List.getD x1 x2.toNat a0e.z).2.1,((List.getD x1 x2.toNat a0e.z).2.2.1,((List.getD x1 x2.toNat a0e.z).2.2.2.1,((List.getD x1 x2.toNat a0e.z).2.2.2.2.1,((w.i64 ((List.getD x1 x2.toNat a0e.z).2.2.2.2.2.1 - 1)),(List.getD x1 x2.toNat a0e.z).2.2.2.2.2.2))))))] 64) <|
   again (x0++[((List.getD x1 x2.toNat a0e.z).1,((List.getD x1 x2.toNat a0e.z).2.1,((List.getD x1 x2.toNat a0e.z).2.2.1,((List.getD x1 x2.toNat a0e.z).2.2.2.1,((List.getD x1 x2.toNat a0e.z).2.2.2.2.1,((w.i64 ((List.getD x1 x2.toNat a0e.z).2.2.2.2.2.1 - 1)),(List.getD x1 x2.toNat a0e.z).2.2.2.2.2.2))))))]) x1 (w.i64 (x2+1)) x3 x4 x5 x6) <|
  gd (rm x0 [(List.getD x1 x2.toNat a0e.z)] 64) <|
  again (x0++[(List.getD x1 x2.toNat a0e.z)]) x1 (w.i64 (x2+1)) x3 x4 x5 x6) <|
 some (1,(gD (.sl a0j)).dv x0 (a0D.dv x3 (a1P.dv x4 (a0c.dv x5 (a0c.dv x6 [])))))
def a3Y (N:Nat):Nat→Fn' (Option Rs) [pD (.sl a0j),pD (.sl a0j),pI,a0l,a0F,a0d,a0d]:=lpG (a8j N)
def b7j (N:Nat):LE:=(0,mkM [pD (.sl a0j),pD (.sl a0j),pI,a0l,a0F,a0d,a0d] [(1,[pD (.sl a0j),a0l,a0F,a0d,a0d])] (a3Y N N))
theorem c8h (N:Nat):LEok Q a2E (bodOf f113) f113.ntmps 0 (b7j N) :=
 loopG (hi:=a2E) (l:=a5d N) (t:=[]) (r:=a8j N) a0r hmix (a8o N) (a9L N) e4E trivial (ls:=b5R) (body:=bodyAt f113 0) (by kernel_rfl) (by kernel_rfl) fun A ys=>by kernel_rfl
def a8p (N:Nat) (again:Fn' (Option Rs) [pD (.sl a0j),pI,pB,pD (.sl tI),pI,a0l,a0F,a0d,a0d]) (x0:List a0e) (x1:Int) (x2:Bool) (x3:List Int) (x4:Int) (x5:a0f) (x6:a0w) (x7:a0b) (x8:a0b):Option Rs :=
 bi (decide (x4 < (len x0))) (
  gd (idx x4 (List.length x0)) <|
  on1 (d1X N ((List.getD x0 x4.toNat a0e.z).2.2.1) x5.Banks)<|gg [pI]<|fun (x9:Int) =>
  bi (x9 != x1) (
   again x0 x1 x2 x3 (w.i64 (x4+1)) x5 x6 x7 x8) <|
  gd (idx x4 (List.length x0)) <|
  bi (decide ((List.getD x0 x4.toNat a0e.z).2.2.2.2.2.1 > 0)) (
   gd (idx x4 (List.length x0)) <|
   bi ((List.getD x0 x4.toNat a0e.z).2.2.2.2.2.1 == 0) (
    gd (rm x3 [x4] 8) <|
    again x0 x1 true (x3++[x4]) (w.i64 (x4+1)) x5 x6 x7 x8) <|
   again x0 x1 true x3 (w.i64 (x4+1)) x5 x6 x7 x8) <|
  gd (idx x4 (List.length x0)) <|
  bi ((List.getD x0 x4.toNat a0e.z).2.2.2.2.2.1 == 0) (
   gd (rm x3 [x4] 8) <|
   again x0 x1 x2 (x3++[x4]) (w.i64 (x4+1)) x5 x6 x7 x8) <|
  again x0 x1 x2 x3 (w.i64 (x4+1)) x5 x6 x7 x8) <|
 some (5,(gD (.sl a0j)).dv x0 (gI.dv x1 (gB.dv x2 ((gD (.sl tI)).dv x3 (a0D.dv x5 (a1P.dv x6 (a0c.dv x7 (a0c.dv x8 []))))))))
def a5C (N:Nat):Nat→Fn' (Option Rs) [pD (.sl a0j),pI,pB,pD (.sl tI),pI,a0l,a0F,a0d,a0d]:=lpG (a8p N)
def b0M (N:Nat):LE:=(4,mkM [pD (.sl a0j),pI,pB,pD (.sl tI),pI,a0l,a0F,a0d,a0d] [(5,[pD (.sl a0j),pI,pB,pD (.sl tI),a0l,a0F,a0d,a0d])] (a5C N N))
theorem b5G (N:Nat):LEok Q a2E (bodOf f113) f113.ntmps 0 (b0M N) :=
 loopG (hi:=a2E) (l:=a5d N) (t:=[]) (r:=a8p N) a0r hmix (a8o N) (a9L N) e4E trivial (ls:=b7d) (body:=bodyAt f113 4) (by kernel_rfl) (by kernel_rfl) fun A ys=>by kernel_rfl
def a8v (N:Nat) (again:Fn' (Option Rs) [pD (.sl a0j),pI,a0l,a0F,a0d,a0d]) (x0:List a0e) (x1:Int) (x2:a0f) (x3:a0w) (x4:a0b) (x5:a0b):Option Rs :=
 bi (decide (x1 < x2.Banks)) (
  onA 5 (a5C N N x0 x1 false ([]:List Int) 0 x2 x3 x4 x5)<|gg [pD (.sl a0j),pI,pB,pD (.sl tI),a0l,a0F,a0d,a0d]<|fun (x6:List a0e) (x7:Int) (x8:Bool) (x9:List Int) (x10:a0f) (x11:a0w) (x12:a0b) (x13:a0b) =>
  bi x8 (
   again x6 (w.i64 (x7+1)) x10 x11 x12 x13) <|
  bi ((len x9) == 0) (
   again x6 (w.i64 (x7+1)) x10 x11 x12 x13) <|
  bi (decide ((len x9) > 1)) (
   on1 (c6x N x11 x12.Picks (len x9))<|gg [pI]<|fun (x14:Int) =>
   gd (idx x14 (List.length x9)) <|
   on1 (c8V N x11 x12.Lats x10.Lat)<|gg [pI]<|fun (x15:Int) =>
   gd (idx (List.getD x9 x14.toNat 0) (List.length x6)) <|
   again (List.set x6 (Int.toNat (List.getD x9 x14.toNat 0)) ((List.getD x6 (Int.toNat (List.getD x9 x14.toNat 0)) a0e.z).1,((List.getD x6 (Int.toNat (List.getD x9 x14.toNat 0)) a0e.z).2.1,((List.getD x6 (Int.toNat (List.getD x9 x14.toNat 0)) a0e.z).2.2.1,((List.getD x6 (Int.toNat (List.getD x9 x14.toNat 0)) a0e.z).2.2.2.1,((List.getD x6 (Int.toNat (List.getD x9 x14.toNat 0)) a0e.z).2.2.2.2.1,(x15,(List.getD x6 (Int.toNat (List.getD x9 x14.toNat 0)) a0e.z).2.2.2.2.2.2))))))) (w.i64 (x7+1)) x10 x11 ({ x12 with Lats:=(w.i64 (x12.Lats+1)),Picks:=(w.i64 (x12.Picks+1)) }:a0b) x13) <|
  gd (idx 0 (List.length x9)) <|
  on1 (c8V N x11 x12.Lats x10.Lat)<|gg [pI]<|fun (x16:Int) =>
  gd (idx (List.getD x9 0 0) (List.length x6)) <|
  again (List.set x6 (Int.toNat (List.getD x9 0 0)) ((List.getD x6 (Int.toNat (List.getD x9 0 0)) a0e.z).1,((List.getD x6 (Int.toNat (List.getD x9 0 0)) a0e.z).2.1,((List.getD x6 (Int.toNat (List.getD x9 0 0)) a0e.z).2.2.1,((List.getD x6 (Int.toNat (List.getD x9 0 0)) a0e.z).2.2.2.1,((List.getD x6 (Int.toNat (List.getD x9 0 0)) a0e.z).2.2.2.2.1,(x16,(List.getD x6 (Int.toNat (List.getD x9 0 0)) a0e.z).2.2.2.2.2.2))))))) (w.i64 (x7+1)) x10 x11 ({ x12 with Lats:=(w.i64 (x12.Lats+1)) }:a0b) x13) <|
 some (3,(gD (.sl a0j)).dv x0 (a0c.dv x4 (a0c.dv x5 [])))
def a3U (N:Nat):Nat→Fn' (Option Rs) [pD (.sl a0j),pI,a0l,a0F,a0d,a0d]:=lpG (a8v N)
def b7w (N:Nat):LE:=(2,mkM [pD (.sl a0j),pI,a0l,a0F,a0d,a0d] [(3,[pD (.sl a0j),a0d,a0d])] (a3U N N))
theorem c7p (N:Nat):LEok Q a2E (bodOf f113) f113.ntmps 0 (b7w N) :=
 loopG (hi:=a2E) (l:=a5d N) (t:=[b0M N]) (r:=a8v N) a0r hmix (a8o N) (a9L N) e4E ⟨b5G N,trivial⟩ (ls:=b6y) (body:=bodyAt f113 2) (by kernel_rfl) (by kernel_rfl) fun A ys=>by kernel_rfl
def b4R (N:Nat) (x0:a0f) (x1:a0w) (x2:a0b):Option Rs :=
 on1 (a6F N x2)<|gg [a0d]<|fun (x3:a0b) =>
 on1 (a3X N x0.Banks 16)<|gg [pB]<|fun (x4:Bool) =>
 bi (!x4) (
  some (0,a0c.dv x3 [])) <|
 on1 (a3X N x0.Lat 1000)<|gg [pB]<|fun (x5:Bool) =>
 bi (!x5) (
  some (0,a0c.dv x3 [])) <|
 onA 1 (a3Y N N ([]:List a0e) x3.Table 0 x0 x1 x3 (a0b.mk 0 a0v.z a0v.z ([]:List a0q) ([]:List Int) ([]:List Int) ([]:List Bool) ([]:List Bool) ([]:List a0a) ([]:List a0e) ([]:List Int) ([]:List a0K) a1X.z 0 0 0))<|gg [pD (.sl a0j),a0l,a0F,a0d,a0d]<|fun (x6:List a0e) (x7:a0f) (x8:a0w) (x9:a0b) (x10:a0b) =>
 onA 3 (a3U N N x6 0 x7 x8 x9 x10)<|gg [pD (.sl a0j),a0d,a0d]<|fun (x11:List a0e) (x12:a0b) (x13:a0b) =>
 some (0,a0c.dv ({ x12 with Table:=x11 }:a0b) [])
def c2f (N:Nat):CE:=(c1i,mkF [a0l,a0F,a0d] [a0d] (b4R N))
theorem d1W (N:Nat):CEok Q (c2f N) :=
 fnG (hi:=a2E) (l:=a5d N) (t:=[b7j N,b0M N,b7w N]) a0r hmix (a8o N) (a9L N) e4E (by kernel_rfl) (by kernel_rfl) ⟨c8h N,b5G N,c7p N,trivial⟩ fun ys=>by kernel_rfl
def d5i:CS:=⟨234,177,⟨[.agg q_5,.agg q_0],[]⟩,[.one (.d tB)],true,[]⟩
def c7W:LS:=⟨⟨[.no,.no,.no,.one (.p 0 0 [1,16,16,1,1,1,1,1,1,16,16,1,1,1,1,1,1,1,1,1,1,1,1,1,1,1,1,1,1,1,1,1]),.no,.one (.p 1 0 [1,1,1,1,1]),.one (.d tI)]++nos 73,[q_0,[.d tI,.d tI,.d tI,.d tB,.d tW]]⟩,[(0,⟨[.no,.no,.no,.no,.one (.d tB)]++nos 75,[]⟩),(1,⟨nos 80,[]⟩)]⟩
def c0S:Hi:=⟨[((8,12),b7f)],[(0,c7W)],[12,19,25,33,38,49,58,69,79],[],[]⟩
theorem e9u:Fn Q 177 f177 (codeOf f177):=by constructor <;> kernel_rfl
def c0I (N:Nat):List CE:=[b6e N]
theorem d1I (N:Nat):AllP (CEok Q) (c0I N):=⟨c4G N,trivial⟩
theorem d6E (N:Nat):AllP (fun e=>lookC (c0I N) e.2.id = some e.2) c0S.cs:=⟨rfl,trivial⟩
def b7I (N:Nat) (again:Fn' (Option Rs) [pI,a0d,a0B]) (x0:Int) (x1:a0b) (x2:a0a):Option Rs :=
 bi (decide (x0 < (len x1.Table))) (
  gd (idx x0 (List.length x1.Table)) <|
  bi (!(List.getD x1.Table x0.toNat a0e.z).1) (
   on1 (b2W N ((List.getD x1.Table x0.toNat a0e.z).2.2.1) ((List.getD x1.Table x0.toNat a0e.z).2.2.2.1) x2.1 x2.2.1)<|gg [pB]<|fun (x3:Bool) =>
   bi x3 (
    some (0,gB.dv false [])) <|
   again (w.i64 (x0+1)) x1 x2) <|
  again (w.i64 (x0+1)) x1 x2) <|
 some (1,[])
def b0c (N:Nat):Nat→Fn' (Option Rs) [pI,a0d,a0B]:=lpG (b7I N)
def c9u (N:Nat):LE:=(0,mkM [pI,a0d,a0B] [(0,[pB]),(1,[])] (b0c N N))
theorem d6Q (N:Nat):LEok Q c0S (bodOf f177) f177.ntmps 0 (c9u N) :=
 loopG (hi:=c0S) (l:=c0I N) (t:=[]) (r:=b7I N) a0r hmix (d1I N) (d6E N) e9u trivial (ls:=c7W) (body:=bodyAt f177 0) (by kernel_rfl) (by kernel_rfl) fun A ys=>by kernel_rfl
def d2D (N:Nat) (x0:a0f) (x1:a0b):Option Rs :=
 bi ((len x1.Saq) == 0) (
  some (0,gB.dv false [])) <|
 gd (idx 0 (List.length x1.Saq)) <|
 bi ((List.getD x1.Saq 0 a0a.z).2.2.2.1) (
  some (0,gB.dv false [])) <|
 bi ((len x1.Sdq) == 0) (
  some (0,gB.dv false [])) <|
 bi (decide ((len x1.Table)≥x0.Flight)) (
  some (0,gB.dv false [])) <|
 bi (x1.Trap.Kind != 0) (
  gd (idx 0 (List.length x1.Saq)) <|
  bi (decide ((List.getD x1.Saq 0 a0a.z).2.2.1≥x1.Trap.Step)) (
   some (0,gB.dv false [])) <|
  gd (idx 0 (List.length x1.Saq)) <|
  onB 0 1 (b0c N N 0 x1 (List.getD x1.Saq 0 a0a.z)) (gg [pB]<|fun (x2:Bool) =>
   some (0,gB.dv x2 []))<|gg [] <|
  some (0,gB.dv true [])) <|
 gd (idx 0 (List.length x1.Saq)) <|
 onB 0 1 (b0c N N 0 x1 (List.getD x1.Saq 0 a0a.z)) (gg [pB]<|fun (x3:Bool) =>
  some (0,gB.dv x3 []))<|gg [] <|
 some (0,gB.dv true [])
def d3V (N:Nat):CE:=(d5i,mkF [a0l,a0d] [pB] (d2D N))
theorem e4a (N:Nat):CEok Q (d3V N) :=
 fnG (hi:=c0S) (l:=c0I N) (t:=[c9u N]) a0r hmix (d1I N) (d6E N) e9u (by kernel_rfl) (by kernel_rfl) ⟨d6Q N,trivial⟩ fun ys=>by kernel_rfl
def d4T:CS:=⟨235,178,⟨[.one (.d tW),.one (.d tI)],[]⟩,[.one (.d tW)],true,[]⟩
def e2M:Hi:=⟨[],[],[6,10,14],[],[]⟩
theorem e9T:Fn Q 178 f178 (codeOf f178):=by constructor <;> kernel_rfl
def d7w (N:Nat) (x0:Int) (x1:Int):Option Rs :=
 bi (x1 == 1) (
  some (0,gW.dv (bitAnd .u32 x0 255) [])) <|
 bi (x1 == 2) (
  some (0,gW.dv (bitAnd .u32 x0 65535) [])) <|
 bi (x1 == 4) (
  some (0,gW.dv x0 [])) <|
 some (0,gW.dv 0 [])
def d6j (N:Nat):CE:=(d4T,mkF [pW,pI] [pW] (d7w N))
theorem e2y (N:Nat):CEok Q (d6j N) :=
 fnG (hi:=e2M) (l:=[]) (t:=[]) a0r hmix trivial trivial e9T (by kernel_rfl) (by kernel_rfl) trivial fun ys=>by kernel_rfl
def d1a:CS:=⟨236,112,⟨[.agg q_5,.agg q_0],[]⟩,[.agg q_1],true,[]⟩
def e0f:Hi:=⟨[((1,1),a4G),((2,2),d5i),((6,9),d4T)],[],[12,40,42],[],[]⟩
theorem e9M:Fn Q 112 f112 (codeOf f112):=by constructor <;> kernel_rfl
def c2d (N:Nat) (x0:a0f) (x1:a0b):Option Rs :=
 on1 (a6F N x1)<|gg [a0d]<|fun (x2:a0b) =>
 on1 (d2D N x0 x2)<|gg [pB]<|fun (x3:Bool) =>
 bi (!x3) (
  some (0,a0c.dv x2 [])) <|
 gd (idx 0 (List.length x2.Saq)) <|
 gd (idx 0 (List.length x2.Sdq)) <|
 on1 (d7w N (List.getD x2.Sdq 0 0) ((List.getD (List.set x2.Saq 0 ((List.getD x2.Saq 0 a0a.z).1,((List.getD x2.Saq 0 a0a.z).2.1,((List.getD x2.Saq 0 a0a.z).2.2.1,(true,(List.getD x2.Saq 0 a0a.z).2.2.2.2))))) 0 a0a.z).2.1))<|gg [pW]<|fun (x4:Int) =>
 gd (sb 1 (len x2.Sdq)) <|
 bi ((List.getD (List.set (List.set x2.Saq 0 ((List.getD x2.Saq 0 a0a.z).1,((List.getD x2.Saq 0 a0a.z).2.1,((List.getD x2.Saq 0 a0a.z).2.2.1,(true,(List.getD x2.Saq 0 a0a.z).2.2.2.2))))) 0 ((List.getD (List.set x2.Saq 0 ((List.getD x2.Saq 0 a0a.z).1,((List.getD x2.Saq 0 a0a.z).2.1,((List.getD x2.Saq 0 a0a.z).2.2.1,(true,(List.getD x2.Saq 0 a0a.z).2.2.2.2))))) 0 a0a.z).1,((List.getD (List.set x2.Saq 0 ((List.getD x2.Saq 0 a0a.z).1,((List.getD x2.Saq 0 a0a.z).2.1,((List.getD x2.Saq 0 a0a.z).2.2.1,(true,(List.getD x2.Saq 0 a0a.z).2.2.2.2))))) 0 a0a.z).2.1,((List.getD (List.set x2.Saq 0 ((List.getD x2.Saq 0 a0a.z).1,((List.getD x2.Saq 0 a0a.z).2.1,((List.getD x2.Saq 0 a0a.z).2.2.1,(true,(List.getD x2.Saq 0 a0a.z).2.2.2.2))))) 0 a0a.z).2.2.1,((List.getD (List.set x2.Saq 0 ((List.getD x2.Saq 0 a0a.z).1,((List.getD x2.Saq 0 a0a.z).2.1,((List.getD x2.Saq 0 a0a.z).2.2.1,(true,(List.getD x2.Saq 0 a0a.z).2.2.2.2))))) 0 a0a.z).2.2.2.1,(x4,())))))) 0 a0a.z).2.1 == 2) (
  gd (rm x2.Table [(true,(32,((List.getD (List.set (List.set x2.Saq 0 ((List.getD x2.Saq 0 a0a.z).1,((List.getD x2.Saq 0 a0a.z).2.1,((List.getD x2.Saq 0 a0a.z).2.2.1,(true,(List.getD x2.Saq 0 a0a.z).2.2.2.2))))) 0 ((List.getD (List.set x2.Saq 0 ((List.getD x2.Saq 0 a0a.z).1,((List.getD x2.Saq 0 a0a.z).2.1,((List.getD x2.Saq 0 a0a.z).2.2.1,(true,(List.getD x2.Saq 0 a0a.z).2.2.2.2))))) 0 a0a.z).1,((List.getD (List.set x2.Saq 0 ((List.getD x2.Saq 0 a0a.z).1,((List.getD x2.Saq 0 a0a.z).2.1,((List.getD x2.Saq 0 a0a.z).2.2.1,(true,(List.getD x2.Saq 0 a0a.z).2.2.2.2))))) 0 a0a.z).2.1,((List.getD (List.set x2.Saq 0 ((List.getD x2.Saq 0 a0a.z).1,((List.getD x2.Saq 0 a0a.z).2.1,((List.getD x2.Saq 0 a0a.z).2.2.1,(true,(List.getD x2.Saq 0 a0a.z).2.2.2.2))))) 0 a0a.z).2.2.1,((List.getD (List.set x2.Saq 0 ((List.getD x2.Saq 0 a0a.z).1,((List.getD x2.Saq 0 a0a.z).2.1,((List.getD x2.Saq 0 a0a.z).2.2.1,(true,(List.getD x2.Saq 0 a0a.z).2.2.2.2))))) 0 a0a.z).2.2.2.1,(x4,())))))) 0 a0a.z).1,((List.getD (List.set (List.set x2.Saq 0 ((List.getD x2.Saq 0 a0a.z).1,((List.getD x2.Saq 0 a0a.z).2.1,((List.getD x2.Saq 0 a0a.z).2.2.1,(true,(List.getD x2.Saq 0 a0a.z).2.2.2.2))))) 0 ((List.getD (List.set x2.Saq 0 ((List.getD x2.Saq 0 a0a.z).1,((List.getD x2.Saq 0 a0a.z).2.1,((List.getD x2.Saq 0 a0a.z).2.2.1,(true,(List.getD x2.Saq 0 a0a.z).2.2.2.2))))) 0 a0a.z).1,((List.getD (List.set x2.Saq 0 ((List.getD x2.Saq 0 a0a.z).1,((List.getD x2.Saq 0 a0a.z).2.1,((List.getD x2.Saq 0 a0a.z).2.2.1,(true,(List.getD x2.Saq 0 a0a.z).2.2.2.2))))) 0 a0a.z).2.1,((List.getD (List.set x2.Saq 0 ((List.getD x2.Saq 0 a0a.z).1,((List.getD x2.Saq 0 a0a.z).2.1,((List.getD x2.Saq 0 a0a.z).2.2.1,(true,(List.getD x2.Saq 0 a0a.z).2.2.2.2))))) 0 a0a.z).2.2.1,((List.getD (List.set x2.Saq 0 ((List.getD x2.Saq 0 a0a.z).1,((List.getD x2.Saq 0 a0a.z).2.1,((List.getD x2.Saq 0 a0a.z).2.2.1,(true,(List.getD x2.Saq 0 a0a.z).2.2.2.2))))) 0 a0a.z).2.2.2.1,(x4,())))))) 0 a0a.z).2.1,((List.getD (List.set (List.set x2.Saq 0 ((List.getD x2.Saq 0 a0a.z).1,((List.getD x2.Saq 0 a0a.z).2.1,((List.getD x2.Saq 0 a0a.z).2.2.1,(true,(List.getD x2.Saq 0 a0a.z).2.2.2.2))))) 0 ((List.getD (List.set x2.Saq 0 ((List.getD x2.Saq 0 a0a.z).1,((List.getD x2.Saq 0 a0a.z).2.1,((List.getD x2.Saq 0 a0a.z).2.2.1,(true,(List.getD x2.Saq 0 a0a.z).2.2.2.2))))) 0 a0a.z).1,((List.getD (List.set x2.Saq 0 ((List.getD x2.Saq 0 a0a.z).1,((List.getD x2.Saq 0 a0a.z).2.1,((List.getD x2.Saq 0 a0a.z).2.2.1,(true,(List.getD x2.Saq 0 a0a.z).2.2.2.2))))) 0 a0a.z).2.1,((List.getD (List.set x2.Saq 0 ((List.getD x2.Saq 0 a0a.z).1,((List.getD x2.Saq 0 a0a.z).2.1,((List.getD x2.Saq 0 a0a.z).2.2.1,(true,(List.getD x2.Saq 0 a0a.z).2.2.2.2))))) 0 a0a.z).2.2.1,((List.getD (List.set x2.Saq 0 ((List.getD x2.Saq 0 a0a.z).1,((List.getD x2.Saq 0 a0a.z).2.1,((List.getD x2.Saq 0 a0a.z).2.2.1,(true,(List.getD x2.Saq 0 a0a.z).2.2.2.2))))) 0 a0a.z).2.2.2.1,(x4,())))))) 0 a0a.z).2.2.2.2.1,a0K.z)))))] 64) <|
  some (0,a0c.dv ({ x2 with Sdq:=(List.drop 1 x2.Sdq),Saq:=(List.set (List.set x2.Saq 0 ((List.getD x2.Saq 0 a0a.z).1,((List.getD x2.Saq 0 a0a.z).2.1,((List.getD x2.Saq 0 a0a.z).2.2.1,(true,(List.getD x2.Saq 0 a0a.z).2.2.2.2))))) 0 ((List.getD (List.set x2.Saq 0 ((List.getD x2.Saq 0 a0a.z).1,((List.getD x2.Saq 0 a0a.z).2.1,((List.getD x2.Saq 0 a0a.z).2.2.1,(true,(List.getD x2.Saq 0 a0a.z).2.2.2.2))))) 0 a0a.z).1,((List.getD (List.set x2.Saq 0 ((List.getD x2.Saq 0 a0a.z).1,((List.getD x2.Saq 0 a0a.z).2.1,((List.getD x2.Saq 0 a0a.z).2.2.1,(true,(List.getD x2.Saq 0 a0a.z).2.2.2.2))))) 0 a0a.z).2.1,((List.getD (List.set x2.Saq 0 ((List.getD x2.Saq 0 a0a.z).1,((List.getD x2.Saq 0 a0a.z).2.1,((List.getD x2.Saq 0 a0a.z).2.2.1,(true,(List.getD x2.Saq 0 a0a.z).2.2.2.2))))) 0 a0a.z).2.2.1,((List.getD (List.set x2.Saq 0 ((List.getD x2.Saq 0 a0a.z).1,((List.getD x2.Saq 0 a0a.z).2.1,((List.getD x2.Saq 0 a0a.z).2.2.1,(true,(List.getD x2.Saq 0 a0a.z).2.2.2.2))))) 0 a0a.z).2.2.2.1,(x4,())))))),Table:=(x2.Table++[(true,(32,((List.getD (List.set (List.set x2.Saq 0 ((List.getD x2.Saq 0 a0a.z).1,((List.getD x2.Saq 0 a0a.z).2.1,((List.getD x2.Saq 0 a0a.z).2.2.1,(true,(List.getD x2.Saq 0 a0a.z).2.2.2.2))))) 0 ((List.getD (List.set x2.Saq 0 ((List.getD x2.Saq 0 a0a.z).1,((List.getD x2.Saq 0 a0a.z).2.1,((List.getD x2.Saq 0 a0a.z).2.2.1,(true,(List.getD x2.Saq 0 a0a.z).2.2.2.2))))) 0 a0a.z).1,((List.getD (List.set x2.Saq 0 ((List.getD x2.Saq 0 a0a.z).1,((List.getD x2.Saq 0 a0a.z).2.1,((List.getD x2.Saq 0 a0a.z).2.2.1,(true,(List.getD x2.Saq 0 a0a.z).2.2.2.2))))) 0 a0a.z).2.1,((List.getD (List.set x2.Saq 0 ((List.getD x2.Saq 0 a0a.z).1,((List.getD x2.Saq 0 a0a.z).2.1,((List.getD x2.Saq 0 a0a.z).2.2.1,(true,(List.getD x2.Saq 0 a0a.z).2.2.2.2))))) 0 a0a.z).2.2.1,((List.getD (List.set x2.Saq 0 ((List.getD x2.Saq 0 a0a.z).1,((List.getD x2.Saq 0 a0a.z).2.1,((List.getD x2.Saq 0 a0a.z).2.2.1,(true,(List.getD x2.Saq 0 a0a.z).2.2.2.2))))) 0 a0a.z).2.2.2.1,(x4,())))))) 0 a0a.z).1,((List.getD (List.set (List.set x2.Saq 0 ((List.getD x2.Saq 0 a0a.z).1,((List.getD x2.Saq 0 a0a.z).2.1,((List.getD x2.Saq 0 a0a.z).2.2.1,(true,(List.getD x2.Saq 0 a0a.z).2.2.2.2))))) 0 ((List.getD (List.set x2.Saq 0 ((List.getD x2.Saq 0 a0a.z).1,((List.getD x2.Saq 0 a0a.z).2.1,((List.getD x2.Saq 0 a0a.z).2.2.1,(true,(List.getD x2.Saq 0 a0a.z).2.2.2.2))))) 0 a0a.z).1,((List.getD (List.set x2.Saq 0 ((List.getD x2.Saq 0 a0a.z).1,((List.getD x2.Saq 0 a0a.z).2.1,((List.getD x2.Saq 0 a0a.z).2.2.1,(true,(List.getD x2.Saq 0 a0a.z).2.2.2.2))))) 0 a0a.z).2.1,((List.getD (List.set x2.Saq 0 ((List.getD x2.Saq 0 a0a.z).1,((List.getD x2.Saq 0 a0a.z).2.1,((List.getD x2.Saq 0 a0a.z).2.2.1,(true,(List.getD x2.Saq 0 a0a.z).2.2.2.2))))) 0 a0a.z).2.2.1,((List.getD (List.set x2.Saq 0 ((List.getD x2.Saq 0 a0a.z).1,((List.getD x2.Saq 0 a0a.z).2.1,((List.getD x2.Saq 0 a0a.z).2.2.1,(true,(List.getD x2.Saq 0 a0a.z).2.2.2.2))))) 0 a0a.z).2.2.2.1,(x4,())))))) 0 a0a.z).2.1,((List.getD (List.set (List.set x2.Saq 0 ((List.getD x2.Saq 0 a0a.z).1,((List.getD x2.Saq 0 a0a.z).2.1,((List.getD x2.Saq 0 a0a.z).2.2.1,(true,(List.getD x2.Saq 0 a0a.z).2.2.2.2))))) 0 ((List.getD (List.set x2.Saq 0 ((List.getD x2.Saq 0 a0a.z).1,((List.getD x2.Saq 0 a0a.z).2.1,((List.getD x2.Saq 0 a0a.z).2.2.1,(true,(List.getD x2.Saq 0 a0a.z).2.2.2.2))))) 0 a0a.z).1,((List.getD (List.set x2.Saq 0 ((List.getD x2.Saq 0 a0a.z).1,((List.getD x2.Saq 0 a0a.z).2.1,((List.getD x2.Saq 0 a0a.z).2.2.1,(true,(List.getD x2.Saq 0 a0a.z).2.2.2.2))))) 0 a0a.z).2.1,((List.getD (List.set x2.Saq 0 ((List.getD x2.Saq 0 a0a.z).1,((List.getD x2.Saq 0 a0a.z).2.1,((List.getD x2.Saq 0 a0a.z).2.2.1,(true,(List.getD x2.Saq 0 a0a.z).2.2.2.2))))) 0 a0a.z).2.2.1,((List.getD (List.set x2.Saq 0 ((List.getD x2.Saq 0 a0a.z).1,((List.getD x2.Saq 0 a0a.z).2.1,((List.getD x2.Saq 0 a0a.z).2.2.1,(true,(List.getD x2.Saq 0 a0a.z).2.2.2.2))))) 0 a0a.z).2.2.2.1,(x4,())))))) 0 a0a.z).2.2.2.2.1,a0K.z)))))]) }:a0b) [])) <|
 bi ((List.getD (List.set (List.set x2.Saq 0 ((List.getD x2.Saq 0 a0a.z).1,((List.getD x2.Saq 0 a0a.z).2.1,((List.getD x2.Saq 0 a0a.z).2.2.1,(true,(List.getD x2.Saq 0 a0a.z).2.2.2.2))))) 0 ((List.getD (List.set x2.Saq 0 ((List.getD x2.Saq 0 a0a.z).1,((List.getD x2.Saq 0 a0a.z).2.1,((List.getD x2.Saq 0 a0a.z).2.2.1,(true,(List.getD x2.Saq 0 a0a.z).2.2.2.2))))) 0 a0a.z).1,((List.getD (List.set x2.Saq 0 ((List.getD x2.Saq 0 a0a.z).1,((List.getD x2.Saq 0 a0a.z).2.1,((List.getD x2.Saq 0 a0a.z).2.2.1,(true,(List.getD x2.Saq 0 a0a.z).2.2.2.2))))) 0 a0a.z).2.1,((List.getD (List.set x2.Saq 0 ((List.getD x2.Saq 0 a0a.z).1,((List.getD x2.Saq 0 a0a.z).2.1,((List.getD x2.Saq 0 a0a.z).2.2.1,(true,(List.getD x2.Saq 0 a0a.z).2.2.2.2))))) 0 a0a.z).2.2.1,((List.getD (List.set x2.Saq 0 ((List.getD x2.Saq 0 a0a.z).1,((List.getD x2.Saq 0 a0a.z).2.1,((List.getD x2.Saq 0 a0a.z).2.2.1,(true,(List.getD x2.Saq 0 a0a.z).2.2.2.2))))) 0 a0a.z).2.2.2.1,(x4,())))))) 0 a0a.z).2.1 == 1) (
  gd (rm x2.Table [(true,(33,((List.getD (List.set (List.set x2.Saq 0 ((List.getD x2.Saq 0 a0a.z).1,((List.getD x2.Saq 0 a0a.z).2.1,((List.getD x2.Saq 0 a0a.z).2.2.1,(true,(List.getD x2.Saq 0 a0a.z).2.2.2.2))))) 0 ((List.getD (List.set x2.Saq 0 ((List.getD x2.Saq 0 a0a.z).1,((List.getD x2.Saq 0 a0a.z).2.1,((List.getD x2.Saq 0 a0a.z).2.2.1,(true,(List.getD x2.Saq 0 a0a.z).2.2.2.2))))) 0 a0a.z).1,((List.getD (List.set x2.Saq 0 ((List.getD x2.Saq 0 a0a.z).1,((List.getD x2.Saq 0 a0a.z).2.1,((List.getD x2.Saq 0 a0a.z).2.2.1,(true,(List.getD x2.Saq 0 a0a.z).2.2.2.2))))) 0 a0a.z).2.1,((List.getD (List.set x2.Saq 0 ((List.getD x2.Saq 0 a0a.z).1,((List.getD x2.Saq 0 a0a.z).2.1,((List.getD x2.Saq 0 a0a.z).2.2.1,(true,(List.getD x2.Saq 0 a0a.z).2.2.2.2))))) 0 a0a.z).2.2.1,((List.getD (List.set x2.Saq 0 ((List.getD x2.Saq 0 a0a.z).1,((List.getD x2.Saq 0 a0a.z).2.1,((List.getD x2.Saq 0 a0a.z).2.2.1,(true,(List.getD x2.Saq 0 a0a.z).2.2.2.2))))) 0 a0a.z).2.2.2.1,(x4,())))))) 0 a0a.z).1,((List.getD (List.set (List.set x2.Saq 0 ((List.getD x2.Saq 0 a0a.z).1,((List.getD x2.Saq 0 a0a.z).2.1,((List.getD x2.Saq 0 a0a.z).2.2.1,(true,(List.getD x2.Saq 0 a0a.z).2.2.2.2))))) 0 ((List.getD (List.set x2.Saq 0 ((List.getD x2.Saq 0 a0a.z).1,((List.getD x2.Saq 0 a0a.z).2.1,((List.getD x2.Saq 0 a0a.z).2.2.1,(true,(List.getD x2.Saq 0 a0a.z).2.2.2.2))))) 0 a0a.z).1,((List.getD (List.set x2.Saq 0 ((List.getD x2.Saq 0 a0a.z).1,((List.getD x2.Saq 0 a0a.z).2.1,((List.getD x2.Saq 0 a0a.z).2.2.1,(true,(List.getD x2.Saq 0 a0a.z).2.2.2.2))))) 0 a0a.z).2.1,((List.getD (List.set x2.Saq 0 ((List.getD x2.Saq 0 a0a.z).1,((List.getD x2.Saq 0 a0a.z).2.1,((List.getD x2.Saq 0 a0a.z).2.2.1,(true,(List.getD x2.Saq 0 a0a.z).2.2.2.2))))) 0 a0a.z).2.2.1,((List.getD (List.set x2.Saq 0 ((List.getD x2.Saq 0 a0a.z).1,((List.getD x2.Saq 0 a0a.z).2.1,((List.getD x2.Saq 0 a0a.z).2.2.1,(true,(List.getD x2.Saq 0 a0a.z).2.2.2.2))))) 0 a0a.z).2.2.2.1,(x4,())))))) 0 a0a.z).2.1,((List.getD (List.set (List.set x2.Saq 0 ((List.getD x2.Saq 0 a0a.z).1,((List.getD x2.Saq 0 a0a.z).2.1,((List.getD x2.Saq 0 a0a.z).2.2.1,(true,(List.getD x2.Saq 0 a0a.z).2.2.2.2))))) 0 ((List.getD (List.set x2.Saq 0 ((List.getD x2.Saq 0 a0a.z).1,((List.getD x2.Saq 0 a0a.z).2.1,((List.getD x2.Saq 0 a0a.z).2.2.1,(true,(List.getD x2.Saq 0 a0a.z).2.2.2.2))))) 0 a0a.z).1,((List.getD (List.set x2.Saq 0 ((List.getD x2.Saq 0 a0a.z).1,((List.getD x2.Saq 0 a0a.z).2.1,((List.getD x2.Saq 0 a0a.z).2.2.1,(true,(List.getD x2.Saq 0 a0a.z).2.2.2.2))))) 0 a0a.z).2.1,((List.getD (List.set x2.Saq 0 ((List.getD x2.Saq 0 a0a.z).1,((List.getD x2.Saq 0 a0a.z).2.1,((List.getD x2.Saq 0 a0a.z).2.2.1,(true,(List.getD x2.Saq 0 a0a.z).2.2.2.2))))) 0 a0a.z).2.2.1,((List.getD (List.set x2.Saq 0 ((List.getD x2.Saq 0 a0a.z).1,((List.getD x2.Saq 0 a0a.z).2.1,((List.getD x2.Saq 0 a0a.z).2.2.1,(true,(List.getD x2.Saq 0 a0a.z).2.2.2.2))))) 0 a0a.z).2.2.2.1,(x4,())))))) 0 a0a.z).2.2.2.2.1,a0K.z)))))] 64) <|
  some (0,a0c.dv ({ x2 with Sdq:=(List.drop 1 x2.Sdq),Saq:=(List.set (List.set x2.Saq 0 ((List.getD x2.Saq 0 a0a.z).1,((List.getD x2.Saq 0 a0a.z).2.1,((List.getD x2.Saq 0 a0a.z).2.2.1,(true,(List.getD x2.Saq 0 a0a.z).2.2.2.2))))) 0 ((List.getD (List.set x2.Saq 0 ((List.getD x2.Saq 0 a0a.z).1,((List.getD x2.Saq 0 a0a.z).2.1,((List.getD x2.Saq 0 a0a.z).2.2.1,(true,(List.getD x2.Saq 0 a0a.z).2.2.2.2))))) 0 a0a.z).1,((List.getD (List.set x2.Saq 0 ((List.getD x2.Saq 0 a0a.z).1,((List.getD x2.Saq 0 a0a.z).2.1,((List.getD x2.Saq 0 a0a.z).2.2.1,(true,(List.getD x2.Saq 0 a0a.z).2.2.2.2))))) 0 a0a.z).2.1,((List.getD (List.set x2.Saq 0 ((List.getD x2.Saq 0 a0a.z).1,((List.getD x2.Saq 0 a0a.z).2.1,((List.getD x2.Saq 0 a0a.z).2.2.1,(true,(List.getD x2.Saq 0 a0a.z).2.2.2.2))))) 0 a0a.z).2.2.1,((List.getD (List.set x2.Saq 0 ((List.getD x2.Saq 0 a0a.z).1,((List.getD x2.Saq 0 a0a.z).2.1,((List.getD x2.Saq 0 a0a.z).2.2.1,(true,(List.getD x2.Saq 0 a0a.z).2.2.2.2))))) 0 a0a.z).2.2.2.1,(x4,())))))),Table:=(x2.Table++[(true,(33,((List.getD (List.set (List.set x2.Saq 0 ((List.getD x2.Saq 0 a0a.z).1,((List.getD x2.Saq 0 a0a.z).2.1,((List.getD x2.Saq 0 a0a.z).2.2.1,(true,(List.getD x2.Saq 0 a0a.z).2.2.2.2))))) 0 ((List.getD (List.set x2.Saq 0 ((List.getD x2.Saq 0 a0a.z).1,((List.getD x2.Saq 0 a0a.z).2.1,((List.getD x2.Saq 0 a0a.z).2.2.1,(true,(List.getD x2.Saq 0 a0a.z).2.2.2.2))))) 0 a0a.z).1,((List.getD (List.set x2.Saq 0 ((List.getD x2.Saq 0 a0a.z).1,((List.getD x2.Saq 0 a0a.z).2.1,((List.getD x2.Saq 0 a0a.z).2.2.1,(true,(List.getD x2.Saq 0 a0a.z).2.2.2.2))))) 0 a0a.z).2.1,((List.getD (List.set x2.Saq 0 ((List.getD x2.Saq 0 a0a.z).1,((List.getD x2.Saq 0 a0a.z).2.1,((List.getD x2.Saq 0 a0a.z).2.2.1,(true,(List.getD x2.Saq 0 a0a.z).2.2.2.2))))) 0 a0a.z).2.2.1,((List.getD (List.set x2.Saq 0 ((List.getD x2.Saq 0 a0a.z).1,((List.getD x2.Saq 0 a0a.z).2.1,((List.getD x2.Saq 0 a0a.z).2.2.1,(true,(List.getD x2.Saq 0 a0a.z).2.2.2.2))))) 0 a0a.z).2.2.2.1,(x4,())))))) 0 a0a.z).1,((List.getD (List.set (List.set x2.Saq 0 ((List.getD x2.Saq 0 a0a.z).1,((List.getD x2.Saq 0 a0a.z).2.1,((List.getD x2.Saq 0 a0a.z).2.2.1,(true,(List.getD x2.Saq 0 a0a.z).2.2.2.2))))) 0 ((List.getD (List.set x2.Saq 0 ((List.getD x2.Saq 0 a0a.z).1,((List.getD x2.Saq 0 a0a.z).2.1,((List.getD x2.Saq 0 a0a.z).2.2.1,(true,(List.getD x2.Saq 0 a0a.z).2.2.2.2))))) 0 a0a.z).1,((List.getD (List.set x2.Saq 0 ((List.getD x2.Saq 0 a0a.z).1,((List.getD x2.Saq 0 a0a.z).2.1,((List.getD x2.Saq 0 a0a.z).2.2.1,(true,(List.getD x2.Saq 0 a0a.z).2.2.2.2))))) 0 a0a.z).2.1,((List.getD (List.set x2.Saq 0 ((List.getD x2.Saq 0 a0a.z).1,((List.getD x2.Saq 0 a0a.z).2.1,((List.getD x2.Saq 0 a0a.z).2.2.1,(true,(List.getD x2.Saq 0 a0a.z).2.2.2.2))))) 0 a0a.z).2.2.1,((List.getD (List.set x2.Saq 0 ((List.getD x2.Saq 0 a0a.z).1,((List.getD x2.Saq 0 a0a.z).2.1,((List.getD x2.Saq 0 a0a.z).2.2.1,(true,(List.getD x2.Saq 0 a0a.z).2.2.2.2))))) 0 a0a.z).2.2.2.1,(x4,())))))) 0 a0a.z).2.1,((List.getD (List.set (List.set x2.Saq 0 ((List.getD x2.Saq 0 a0a.z).1,((List.getD x2.Saq 0 a0a.z).2.1,((List.getD x2.Saq 0 a0a.z).2.2.1,(true,(List.getD x2.Saq 0 a0a.z).2.2.2.2))))) 0 ((List.getD (List.set x2.Saq 0 ((List.getD x2.Saq 0 a0a.z).1,((List.getD x2.Saq 0 a0a.z).2.1,((List.getD x2.Saq 0 a0a.z).2.2.1,(true,(List.getD x2.Saq 0 a0a.z).2.2.2.2))))) 0 a0a.z).1,((List.getD (List.set x2.Saq 0 ((List.getD x2.Saq 0 a0a.z).1,((List.getD x2.Saq 0 a0a.z).2.1,((List.getD x2.Saq 0 a0a.z).2.2.1,(true,(List.getD x2.Saq 0 a0a.z).2.2.2.2))))) 0 a0a.z).2.1,((List.getD (List.set x2.Saq 0 ((List.getD x2.Saq 0 a0a.z).1,((List.getD x2.Saq 0 a0a.z).2.1,((List.getD x2.Saq 0 a0a.z).2.2.1,(true,(List.getD x2.Saq 0 a0a.z).2.2.2.2))))) 0 a0a.z).2.2.1,((List.getD (List.set x2.Saq 0 ((List.getD x2.Saq 0 a0a.z).1,((List.getD x2.Saq 0 a0a.z).2.1,((List.getD x2.Saq 0 a0a.z).2.2.1,(true,(List.getD x2.Saq 0 a0a.z).2.2.2.2))))) 0 a0a.z).2.2.2.1,(x4,())))))) 0 a0a.z).2.2.2.2.1,a0K.z)))))]) }:a0b) [])) <|
 gd (rm x2.Table [(true,(31,((List.getD (List.set (List.set x2.Saq 0 ((List.getD x2.Saq 0 a0a.z).1,((List.getD x2.Saq 0 a0a.z).2.1,((List.getD x2.Saq 0 a0a.z).2.2.1,(true,(List.getD x2.Saq 0 a0a.z).2.2.2.2))))) 0 ((List.getD (List.set x2.Saq 0 ((List.getD x2.Saq 0 a0a.z).1,((List.getD x2.Saq 0 a0a.z).2.1,((List.getD x2.Saq 0 a0a.z).2.2.1,(true,(List.getD x2.Saq 0 a0a.z).2.2.2.2))))) 0 a0a.z).1,((List.getD (List.set x2.Saq 0 ((List.getD x2.Saq 0 a0a.z).1,((List.getD x2.Saq 0 a0a.z).2.1,((List.getD x2.Saq 0 a0a.z).2.2.1,(true,(List.getD x2.Saq 0 a0a.z).2.2.2.2))))) 0 a0a.z).2.1,((List.getD (List.set x2.Saq 0 ((List.getD x2.Saq 0 a0a.z).1,((List.getD x2.Saq 0 a0a.z).2.1,((List.getD x2.Saq 0 a0a.z).2.2.1,(true,(List.getD x2.Saq 0 a0a.z).2.2.2.2))))) 0 a0a.z).2.2.1,((List.getD (List.set x2.Saq 0 ((List.getD x2.Saq 0 a0a.z).1,((List.getD x2.Saq 0 a0a.z).2.1,((List.getD x2.Saq 0 a0a.z).2.2.1,(true,(List.getD x2.Saq 0 a0a.z).2.2.2.2))))) 0 a0a.z).2.2.2.1,(x4,())))))) 0 a0a.z).1,((List.getD (List.set (List.set x2.Saq 0 ((List.getD x2.Saq 0 a0a.z).1,((List.getD x2.Saq 0 a0a.z).2.1,((List.getD x2.Saq 0 a0a.z).2.2.1,(true,(List.getD x2.Saq 0 a0a.z).2.2.2.2))))) 0 ((List.getD (List.set x2.Saq 0 ((List.getD x2.Saq 0 a0a.z).1,((List.getD x2.Saq 0 a0a.z).2.1,((List.getD x2.Saq 0 a0a.z).2.2.1,(true,(List.getD x2.Saq 0 a0a.z).2.2.2.2))))) 0 a0a.z).1,((List.getD (List.set x2.Saq 0 ((List.getD x2.Saq 0 a0a.z).1,((List.getD x2.Saq 0 a0a.z).2.1,((List.getD x2.Saq 0 a0a.z).2.2.1,(true,(List.getD x2.Saq 0 a0a.z).2.2.2.2))))) 0 a0a.z).2.1,((List.getD (List.set x2.Saq 0 ((List.getD x2.Saq 0 a0a.z).1,((List.getD x2.Saq 0 a0a.z).2.1,((List.getD x2.Saq 0 a0a.z).2.2.1,(true,(List.getD x2.Saq 0 a0a.z).2.2.2.2))))) 0 a0a.z).2.2.1,((List.getD (List.set x2.Saq 0 ((List.getD x2.Saq 0 a0a.z).1,((List.getD x2.Saq 0 a0a.z).2.1,((List.getD x2.Saq 0 a0a.z).2.2.1,(true,(List.getD x2.Saq 0 a0a.z).2.2.2.2))))) 0 a0a.z).2.2.2.1,(x4,())))))) 0 a0a.z).2.1,((List.getD (List.set (List.set x2.Saq 0 ((List.getD x2.Saq 0 a0a.z).1,((List.getD x2.Saq 0 a0a.z).2.1,((List.getD x2.Saq 0 a0a.z).2.2.1,(true,(List.getD x2.Saq 0 a0a.z).2.2.2.2))))) 0 ((List.getD (List.set x2.Saq 0 ((List.getD x2.Saq 0 a0a.z).1,((List.getD x2.Saq 0 a0a.z).2.1,((List.getD x2.Saq 0 a0a.z).2.2.1,(true,(List.getD x2.Saq 0 a0a.z).2.2.2.2))))) 0 a0a.z).1,((List.getD (List.set x2.Saq 0 ((List.getD x2.Saq 0 a0a.z).1,((List.getD x2.Saq 0 a0a.z).2.1,((List.getD x2.Saq 0 a0a.z).2.2.1,(true,(List.getD x2.Saq 0 a0a.z).2.2.2.2))))) 0 a0a.z).2.1,((List.getD (List.set x2.Saq 0 ((List.getD x2.Saq 0 a0a.z).1,((List.getD x2.Saq 0 a0a.z).2.1,((List.getD x2.Saq 0 a0a.z).2.2.1,(true,(List.getD x2.Saq 0 a0a.z).2.2.2.2))))) 0 a0a.z).2.2.1,((List.getD (List.set x2.Saq 0 ((List.getD x2.Saq 0 a0a.z).1,((List.getD x2.Saq 0 a0a.z).2.1,((List.getD x2.Saq 0 a0a.z).2.2.1,(true,(List.getD x2.Saq 0 a0a.z).2.2.2.2))))) 0 a0a.z).2.2.2.1,(x4,())))))) 0 a0a.z).2.2.2.2.1,a0K.z)))))] 64) <|
 some (0,a0c.dv ({ x2 with Sdq:=(List.drop 1 x2.Sdq),Saq:=(List.set (List.set x2.Saq 0 ((List.getD x2.Saq 0 a0a.z).1,((List.getD x2.Saq 0 a0a.z).2.1,((List.getD x2.Saq 0 a0a.z).2.2.1,(true,(List.getD x2.Saq 0 a0a.z).2.2.2.2))))) 0 ((List.getD (List.set x2.Saq 0 ((List.getD x2.Saq 0 a0a.z).1,((List.getD x2.Saq 0 a0a.z).2.1,((List.getD x2.Saq 0 a0a.z).2.2.1,(true,(List.getD x2.Saq 0 a0a.z).2.2.2.2))))) 0 a0a.z).1,((List.getD (List.set x2.Saq 0 ((List.getD x2.Saq 0 a0a.z).1,((List.getD x2.Saq 0 a0a.z).2.1,((List.getD x2.Saq 0 a0a.z).2.2.1,(true,(List.getD x2.Saq 0 a0a.z).2.2.2.2))))) 0 a0a.z).2.1,((List.getD (List.set x2.Saq 0 ((List.getD x2.Saq 0 a0a.z).1,((List.getD x2.Saq 0 a0a.z).2.1,((List.getD x2.Saq 0 a0a.z).2.2.1,(true,(List.getD x2.Saq 0 a0a.z).2.2.2.2))))) 0 a0a.z).2.2.1,((List.getD (List.set x2.Saq 0 ((List.getD x2.Saq 0 a0a.z).1,((List.getD x2.Saq 0 a0a.z).2.1,((List.getD x2.Saq 0 a0a.z).2.2.1,(true,(List.getD x2.Saq 0 a0a.z).2.2.2.2))))) 0 a0a.z).2.2.2.1,(x4,())))))),Table:=(x2.Table++[(true,(31,((List.getD (List.set (List.set x2.Saq 0 ((List.getD x2.Saq 0 a0a.z).1,((List.getD x2.Saq 0 a0a.z).2.1,((List.getD x2.Saq 0 a0a.z).2.2.1,(true,(List.getD x2.Saq 0 a0a.z).2.2.2.2))))) 0 ((List.getD (List.set x2.Saq 0 ((List.getD x2.Saq 0 a0a.z).1,((List.getD x2.Saq 0 a0a.z).2.1,((List.getD x2.Saq 0 a0a.z).2.2.1,(true,(List.getD x2.Saq 0 a0a.z).2.2.2.2))))) 0 a0a.z).1,((List.getD (List.set x2.Saq 0 ((List.getD x2.Saq 0 a0a.z).1,((List.getD x2.Saq 0 a0a.z).2.1,((List.getD x2.Saq 0 a0a.z).2.2.1,(true,(List.getD x2.Saq 0 a0a.z).2.2.2.2))))) 0 a0a.z).2.1,((List.getD (List.set x2.Saq 0 ((List.getD x2.Saq 0 a0a.z).1,((List.getD x2.Saq 0 a0a.z).2.1,((List.getD x2.Saq 0 a0a.z).2.2.1,(true,(List.getD x2.Saq 0 a0a.z).2.2.2.2))))) 0 a0a.z).2.2.1,((List.getD (List.set x2.Saq 0 ((List.getD x2.Saq 0 a0a.z).1,((List.getD x2.Saq 0 a0a.z).2.1,((List.getD x2.Saq 0 a0a.z).2.2.1,(true,(List.getD x2.Saq 0 a0a.z).2.2.2.2))))) 0 a0a.z).2.2.2.1,(x4,())))))) 0 a0a.z).1,((List.getD (List.set (List.set x2.Saq 0 ((List.getD x2.Saq 0 a0a.z).1,((List.getD x2.Saq 0 a0a.z).2.1,((List.getD x2.Saq 0 a0a.z).2.2.1,(true,(List.getD x2.Saq 0 a0a.z).2.2.2.2))))) 0 ((List.getD (List.set x2.Saq 0 ((List.getD x2.Saq 0 a0a.z).1,((List.getD x2.Saq 0 a0a.z).2.1,((List.getD x2.Saq 0 a0a.z).2.2.1,(true,(List.getD x2.Saq 0 a0a.z).2.2.2.2))))) 0 a0a.z).1,((List.getD (List.set x2.Saq 0 ((List.getD x2.Saq 0 a0a.z).1,((List.getD x2.Saq 0 a0a.z).2.1,((List.getD x2.Saq 0 a0a.z).2.2.1,(true,(List.getD x2.Saq 0 a0a.z).2.2.2.2))))) 0 a0a.z).2.1,((List.getD (List.set x2.Saq 0 ((List.getD x2.Saq 0 a0a.z).1,((List.getD x2.Saq 0 a0a.z).2.1,((List.getD x2.Saq 0 a0a.z).2.2.1,(true,(List.getD x2.Saq 0 a0a.z).2.2.2.2))))) 0 a0a.z).2.2.1,((List.getD (List.set x2.Saq 0 ((List.getD x2.Saq 0 a0a.z).1,((List.getD x2.Saq 0 a0a.z).2.1,((List.getD x2.Saq 0 a0a.z).2.2.1,(true,(List.getD x2.Saq 0 a0a.z).2.2.2.2))))) 0 a0a.z).2.2.2.1,(x4,())))))) 0 a0a.z).2.1,((List.getD (List.set (List.set x2.Saq 0 ((List.getD x2.Saq 0 a0a.z).1,((List.getD x2.Saq 0 a0a.z).2.1,((List.getD x2.Saq 0 a0a.z).2.2.1,(true,(List.getD x2.Saq 0 a0a.z).2.2.2.2))))) 0 ((List.getD (List.set x2.Saq 0 ((List.getD x2.Saq 0 a0a.z).1,((List.getD x2.Saq 0 a0a.z).2.1,((List.getD x2.Saq 0 a0a.z).2.2.1,(true,(List.getD x2.Saq 0 a0a.z).2.2.2.2))))) 0 a0a.z).1,((List.getD (List.set x2.Saq 0 ((List.getD x2.Saq 0 a0a.z).1,((List.getD x2.Saq 0 a0a.z).2.1,((List.getD x2.Saq 0 a0a.z).2.2.1,(true,(List.getD x2.Saq 0 a0a.z).2.2.2.2))))) 0 a0a.z).2.1,((List.getD (List.set x2.Saq 0 ((List.getD x2.Saq 0 a0a.z).1,((List.getD x2.Saq 0 a0a.z).2.1,((List.getD x2.Saq 0 a0a.z).2.2.1,(true,(List.getD x2.Saq 0 a0a.z).2.2.2.2))))) 0 a0a.z).2.2.1,((List.getD (List.set x2.Saq 0 ((List.getD x2.Saq 0 a0a.z).1,((List.getD x2.Saq 0 a0a.z).2.1,((List.getD x2.Saq 0 a0a.z).2.2.1,(true,(List.getD x2.Saq 0 a0a.z).2.2.2.2))))) 0 a0a.z).2.2.2.1,(x4,())))))) 0 a0a.z).2.2.2.2.1,a0K.z)))))]) }:a0b) [])
def d1w (N:Nat):CE:=(d1a,mkF [a0l,a0d] [a0d] (c2d N))
theorem e0Y (N:Nat):CEok Q (d1w N) :=
 fnG (hi:=e0f) (l:=[a5g N,d3V N,d6j N]) (t:=[]) a0r hmix ⟨a6q N,e4a N,e2y N,trivial⟩ ⟨rfl,rfl,rfl,trivial⟩ e9M (by kernel_rfl) (by kernel_rfl) trivial fun ys=>by kernel_rfl
def c6Y:CS:=⟨237,173,⟨[.agg q_5,.agg [.d (.sl a0n),.d (.ar 16 tI)],.agg q_0],[]⟩,[.one (.d tB)],true,[]⟩
def d6R:Hi:=⟨[((1,4),b0e),((2,4),b0e)],[],[35,38,41],[],[]⟩
theorem f0u:Fn Q 173 f173 (codeOf f173):=by constructor <;> kernel_rfl
def c2B (N:Nat) (x0:a0f) (x1:a0g) (x2:a0b):Option Rs :=
 on1 (b2e N x1 false x2.A.Pos)<|gg [a0E,pI,pB]<|fun (x3:a0h) (x4:Int) (x5:Bool) =>
 on1 (b2e N x1 true x2.E.Pos)<|gg [a0E,pI,pB]<|fun (x6:a0h) (x7:Int) (x8:Bool) =>
 bi (!x2.E.Halted) (
  bi x5 (
   bi x8 (
    some (0,gB.dv (decide (x4≥(w.i64 (x7+x0.Slip)))) [])) <|
   some (0,gB.dv false [])) <|
  some (0,gB.dv false [])) <|
 some (0,gB.dv false [])
def c8K (N:Nat):CE:=(c6Y,mkF [a0l,a0m,a0d] [pB] (c2B N))
theorem d6T (N:Nat):CEok Q (c8K N) :=
 fnG (hi:=d6R) (l:=[b3B N]) (t:=[]) a0r hmix ⟨b8q N,trivial⟩ ⟨rfl,rfl,trivial⟩ f0u (by kernel_rfl) (by kernel_rfl) trivial fun ys=>by kernel_rfl
def b9Z:CS:=⟨238,88,⟨[.one (.p 0 1 [16,16,1,1,1,1,1,1]),.one (.d tI),.one (.d tW),.one (.d tI)],[q_1]⟩,[],false,[q_1]⟩
def d7B:Hi:=⟨[],[],[10,13],[],[]⟩
def b0w (N:Nat) (x0:Int) (x1:Int) (x2:Int) (x3:a0b):Option Rs :=
 bi (decide (x0≥1)) (
  bi (decide (x0≤15)) (
   gd (idx x0 16) <|
   gd (idx x0 16) <|
   some (0,a0c.dv ({ x3 with A:={ x3.A with Regs:=(List.set x3.A.Regs x0.toNat x1),Ready:=(List.set x3.A.Ready x0.toNat x2) } }:a0b) [])) <|
  some (0,a0c.dv x3 [])) <|
 some (0,a0c.dv x3 [])
def c0c (N:Nat):CE:=(b9Z,mkF [pI,pW,pI,a0d] [a0d] (b0w N))
theorem c8m (N:Nat):CEok Q (c0c N) :=
 fnG (hi:=d7B) (l:=[]) (t:=[]) a0r hmix trivial trivial f_88 (by kernel_rfl) (by kernel_rfl) trivial fun ys=>by kernel_rfl
def b3u:CS:=⟨239,90,⟨[.one (.p 0 1 [16,16,1,1,1,1,1,1])],[q_1]⟩,[],false,[q_1]⟩
def e1b:Hi:=⟨[],[],[],[],[]⟩
def a0O (N:Nat) (x0:a0b):Option Rs :=
 some (0,a0c.dv ({ x0 with A:={ x0.A with Pos:={ x0.A.Pos with Index:=(w.i64 (x0.A.Pos.Index+1)) },Done:=(w.i64 (x0.A.Done+1)) } }:a0b) [])
def c3C (N:Nat):CE:=(b3u,mkF [a0d] [a0d] (a0O N))
theorem d0U (N:Nat):CEok Q (c3C N) :=
 fnG (hi:=e1b) (l:=[]) (t:=[]) a0r hmix trivial trivial f_90 (by kernel_rfl) (by kernel_rfl) trivial fun ys=>by kernel_rfl
def b3V:CS:=⟨240,175,⟨[.agg q_0,.agg [.d tI,.d tI,.d tI,.d tI,.d tI]],[]⟩,[.one (.d tW)],true,[]⟩
def d2A:Hi:=⟨[((1,4),a2b)],[],[],[],[]⟩
theorem f0f:Fn Q 175 f175 (codeOf f175):=by constructor <;> kernel_rfl
def b0L (N:Nat) (x0:a0b) (x1:a0o):Option Rs :=
 on1 (a3j N x0.A x1.2.2.1)<|gg [pW]<|fun (x2:Int) =>
 some (0,gW.dv (w.u32 (x2+(w.u32 x1.2.2.2.2.1))) [])
def b3U (N:Nat):CE:=(b3V,mkF [a0d,a2S] [pW] (b0L N))
theorem c1N (N:Nat):CEok Q (b3U N) :=
 fnG (hi:=d2A) (l:=[b4c N]) (t:=[]) a0r hmix ⟨c0n N,trivial⟩ ⟨rfl,trivial⟩ f0f (by kernel_rfl) (by kernel_rfl) trivial fun ys=>by kernel_rfl
def c0K:CS:=⟨241,242,⟨[.one (.d (.sl a0k)),.one (.d tI),.one (.d tI)],[]⟩,[.one (.o a0k),.one (.d tB)],false,[]⟩
def d3o:Hi:=⟨[((1,1),a7M)],[],[13],[],[]⟩
theorem e9A:Fn Q 242 f242 (codeOf f242):=by constructor <;> kernel_rfl
def a5Y (N:Nat) (x0:List a0q) (x1:Int) (x2:Int):Option Rs :=
 on1 (a7q N x0)<|gg [pD (.sl a0k)]<|fun (x3:List a0q) =>
 bi (decide ((len x3)≥x1)) (
  some (0,(gD (.sl a0k)).dv x3 (gB.dv false []))) <|
 gd (rm x3 [(x2,(false,(0,())))] 16) <|
 some (0,(gD (.sl a0k)).dv (x3++[(x2,(false,(0,())))]) (gB.dv true []))
def c2p (N:Nat):CE:=(c0K,mkF [pD (.sl a0k),pI,pI] [pD (.sl a0k),pB] (a5Y N))
theorem d3p (N:Nat):CEok Q (c2p N) :=
 fnG (hi:=d3o) (l:=[b0n N]) (t:=[]) a0r hmix ⟨b4Z N,trivial⟩ ⟨rfl,trivial⟩ e9A (by kernel_rfl) (by kernel_rfl) trivial fun ys=>by kernel_rfl
def d0M:CS:=⟨242,174,⟨[.agg q_5,.agg q_1,.agg q_2,.one (.d tI)],[]⟩,[.agg q_1],true,[]⟩
def e1e:Hi:=⟨[((2,2),b3C),((3,2),b3V),((4,5),b2T),((6,5),a7H),((7,5),c4x),((8,5),c4T),((13,6),c0K),((21,5),c2Y),((23,7),b9Z),((28,1),b3u)],[],[35,69,73,76,84,88,100,112,123,134,141],[],[]⟩
theorem e9U:Fn Q 174 f174 (codeOf f174):=by constructor <;> kernel_rfl
def c1U (N:Nat) (x0:a0f) (x1:a0b) (x2:a0h) (x3:Int):Option Rs :=
 on1 (c0u N x2.2.1.1)<|gg [pI]<|fun (x4:Int) =>
 on1 (b0L N x1 x2.2.1)<|gg [pW]<|fun (x5:Int) =>
 on1 (a5K N x4 x5 (len x1.Mem))<|gg [pI]<|fun (x6:Int) =>
 bi (x6 != 0) (
  on1 (a9C N x1 x6 x3 x2.2.2.2.1)<|gg [a0d]<|fun (x7:a0b) =>
  some (0,a0c.dv x7 [])) <|
 on1 (b8m N x1.Saq (w.i64 x5) x4)<|gg [a0B,pB]<|fun (x8:a0a) (x9:Bool) =>
 on1 (b8b N x8 x2.2.1.1 (w.i64 x5))<|gg [pW,pB]<|fun (x10:Int) (x11:Bool) =>
 bi x9 (
  bi (!x11) (
   some (0,a0c.dv x1 [])) <|
  bi (!x9) (
   bi (decide ((len x1.Table)≥x0.Flight)) (
    some (0,a0c.dv x1 [])) <|
   bi (x2.1 == 3) (
    on1 (a5Y N x1.Ldq x0.Ldq x1.Tags)<|gg [pD (.sl a0k),pB]<|fun (x12:List a0q) (x13:Bool) =>
    bi (!x13) (
     some (0,a0c.dv x1 [])) <|
    bi x9 (
     on1 (a7r N x12 x1.Tags x10)<|gg [pD (.sl a0k),pB]<|fun (x14:List a0q) (x15:Bool) =>
     bi (!x9) (
      gd (rm x1.Table [(false,(x2.2.1.1,((w.i64 x5),(x4,(0,(0,((-1:Int),(x1.Tags,()))))))))] 64) <|
      on1 (a0O N ({ x1 with Ldq:=x14,Table:=(x1.Table++[(false,(x2.2.1.1,((w.i64 x5),(x4,(0,(0,((-1:Int),(x1.Tags,()))))))))]),Tags:=(w.i64 (x1.Tags+1)) }:a0b))<|gg [a0d]<|fun (x16:a0b) =>
      some (0,a0c.dv x16 [])) <|
     on1 (a0O N ({ x1 with Ldq:=x14,Tags:=(w.i64 (x1.Tags+1)) }:a0b))<|gg [a0d]<|fun (x17:a0b) =>
     some (0,a0c.dv x17 [])) <|
    bi (!x9) (
     gd (rm x1.Table [(false,(x2.2.1.1,((w.i64 x5),(x4,(0,(0,((-1:Int),(x1.Tags,()))))))))] 64) <|
     on1 (a0O N ({ x1 with Ldq:=x12,Table:=(x1.Table++[(false,(x2.2.1.1,((w.i64 x5),(x4,(0,(0,((-1:Int),(x1.Tags,()))))))))]),Tags:=(w.i64 (x1.Tags+1)) }:a0b))<|gg [a0d]<|fun (x18:a0b) =>
     some (0,a0c.dv x18 [])) <|
    on1 (a0O N ({ x1 with Ldq:=x12,Tags:=(w.i64 (x1.Tags+1)) }:a0b))<|gg [a0d]<|fun (x19:a0b) =>
    some (0,a0c.dv x19 [])) <|
   bi x9 (
    on1 (b0w N x2.2.1.2.1 x10 (w.i64 (x1.Cycle+1)) x1)<|gg [a0d]<|fun (x20:a0b) =>
    bi (!x9) (
     gd (rm x20.Table [(false,(x2.2.1.1,((w.i64 x5),(x4,(0,(0,(x2.2.1.2.1,(0,()))))))))] 64) <|
     on1 (a0O N ({ x20 with Table:=(x20.Table++[(false,(x2.2.1.1,((w.i64 x5),(x4,(0,(0,(x2.2.1.2.1,(0,()))))))))]) }:a0b))<|gg [a0d]<|fun (x21:a0b) =>
     some (0,a0c.dv x21 [])) <|
    on1 (a0O N x20)<|gg [a0d]<|fun (x22:a0b) =>
    some (0,a0c.dv x22 [])) <|
   bi (x2.2.1.2.1 != 0) (
    gd (idx x2.2.1.2.1 16) <|
    bi (!x9) (
     gd (rm x1.Table [(false,(x2.2.1.1,((w.i64 x5),(x4,(0,(0,(x2.2.1.2.1,(0,()))))))))] 64) <|
     on1 (a0O N ({ x1 with A:={ x1.A with Ready:=(List.set x1.A.Ready x2.2.1.2.1.toNat (-1:Int)) },Table:=(x1.Table++[(false,(x2.2.1.1,((w.i64 x5),(x4,(0,(0,(x2.2.1.2.1,(0,()))))))))]) }:a0b))<|gg [a0d]<|fun (x23:a0b) =>
     some (0,a0c.dv x23 [])) <|
    on1 (a0O N ({ x1 with A:={ x1.A with Ready:=(List.set x1.A.Ready x2.2.1.2.1.toNat (-1:Int)) } }:a0b))<|gg [a0d]<|fun (x24:a0b) =>
    some (0,a0c.dv x24 [])) <|
   bi (!x9) (
    gd (rm x1.Table [(false,(x2.2.1.1,((w.i64 x5),(x4,(0,(0,(x2.2.1.2.1,(0,()))))))))] 64) <|
    on1 (a0O N ({ x1 with Table:=(x1.Table++[(false,(x2.2.1.1,((w.i64 x5),(x4,(0,(0,(x2.2.1.2.1,(0,()))))))))]) }:a0b))<|gg [a0d]<|fun (x25:a0b) =>
    some (0,a0c.dv x25 [])) <|
   on1 (a0O N x1)<|gg [a0d]<|fun (x26:a0b) =>
   some (0,a0c.dv x26 [])) <|
  bi (x2.1 == 3) (
   on1 (a5Y N x1.Ldq x0.Ldq x1.Tags)<|gg [pD (.sl a0k),pB]<|fun (x27:List a0q) (x28:Bool) =>
   bi (!x28) (
    some (0,a0c.dv x1 [])) <|
   bi x9 (
    on1 (a7r N x27 x1.Tags x10)<|gg [pD (.sl a0k),pB]<|fun (x29:List a0q) (x30:Bool) =>
    bi (!x9) (
     gd (rm x1.Table [(false,(x2.2.1.1,((w.i64 x5),(x4,(0,(0,((-1:Int),(x1.Tags,()))))))))] 64) <|
     on1 (a0O N ({ x1 with Ldq:=x29,Table:=(x1.Table++[(false,(x2.2.1.1,((w.i64 x5),(x4,(0,(0,((-1:Int),(x1.Tags,()))))))))]),Tags:=(w.i64 (x1.Tags+1)) }:a0b))<|gg [a0d]<|fun (x31:a0b) =>
     some (0,a0c.dv x31 [])) <|
    on1 (a0O N ({ x1 with Ldq:=x29,Tags:=(w.i64 (x1.Tags+1)) }:a0b))<|gg [a0d]<|fun (x32:a0b) =>
    some (0,a0c.dv x32 [])) <|
   bi (!x9) (
    gd (rm x1.Table [(false,(x2.2.1.1,((w.i64 x5),(x4,(0,(0,((-1:Int),(x1.Tags,()))))))))] 64) <|
    on1 (a0O N ({ x1 with Ldq:=x27,Table:=(x1.Table++[(false,(x2.2.1.1,((w.i64 x5),(x4,(0,(0,((-1:Int),(x1.Tags,()))))))))]),Tags:=(w.i64 (x1.Tags+1)) }:a0b))<|gg [a0d]<|fun (x33:a0b) =>
    some (0,a0c.dv x33 [])) <|
   on1 (a0O N ({ x1 with Ldq:=x27,Tags:=(w.i64 (x1.Tags+1)) }:a0b))<|gg [a0d]<|fun (x34:a0b) =>
   some (0,a0c.dv x34 [])) <|
  bi x9 (
   on1 (b0w N x2.2.1.2.1 x10 (w.i64 (x1.Cycle+1)) x1)<|gg [a0d]<|fun (x35:a0b) =>
   bi (!x9) (
    gd (rm x35.Table [(false,(x2.2.1.1,((w.i64 x5),(x4,(0,(0,(x2.2.1.2.1,(0,()))))))))] 64) <|
    on1 (a0O N ({ x35 with Table:=(x35.Table++[(false,(x2.2.1.1,((w.i64 x5),(x4,(0,(0,(x2.2.1.2.1,(0,()))))))))]) }:a0b))<|gg [a0d]<|fun (x36:a0b) =>
    some (0,a0c.dv x36 [])) <|
   on1 (a0O N x35)<|gg [a0d]<|fun (x37:a0b) =>
   some (0,a0c.dv x37 [])) <|
  bi (x2.2.1.2.1 != 0) (
   gd (idx x2.2.1.2.1 16) <|
   bi (!x9) (
    gd (rm x1.Table [(false,(x2.2.1.1,((w.i64 x5),(x4,(0,(0,(x2.2.1.2.1,(0,()))))))))] 64) <|
    on1 (a0O N ({ x1 with A:={ x1.A with Ready:=(List.set x1.A.Ready x2.2.1.2.1.toNat (-1:Int)) },Table:=(x1.Table++[(false,(x2.2.1.1,((w.i64 x5),(x4,(0,(0,(x2.2.1.2.1,(0,()))))))))]) }:a0b))<|gg [a0d]<|fun (x38:a0b) =>
    some (0,a0c.dv x38 [])) <|
   on1 (a0O N ({ x1 with A:={ x1.A with Ready:=(List.set x1.A.Ready x2.2.1.2.1.toNat (-1:Int)) } }:a0b))<|gg [a0d]<|fun (x39:a0b) =>
   some (0,a0c.dv x39 [])) <|
  bi (!x9) (
   gd (rm x1.Table [(false,(x2.2.1.1,((w.i64 x5),(x4,(0,(0,(x2.2.1.2.1,(0,()))))))))] 64) <|
   on1 (a0O N ({ x1 with Table:=(x1.Table++[(false,(x2.2.1.1,((w.i64 x5),(x4,(0,(0,(x2.2.1.2.1,(0,()))))))))]) }:a0b))<|gg [a0d]<|fun (x40:a0b) =>
   some (0,a0c.dv x40 [])) <|
  on1 (a0O N x1)<|gg [a0d]<|fun (x41:a0b) =>
  some (0,a0c.dv x41 [])) <|
 bi (!x9) (
  bi (decide ((len x1.Table)≥x0.Flight)) (
   some (0,a0c.dv x1 [])) <|
  bi (x2.1 == 3) (
   on1 (a5Y N x1.Ldq x0.Ldq x1.Tags)<|gg [pD (.sl a0k),pB]<|fun (x42:List a0q) (x43:Bool) =>
   bi (!x43) (
    some (0,a0c.dv x1 [])) <|
   bi x9 (
    on1 (a7r N x42 x1.Tags x10)<|gg [pD (.sl a0k),pB]<|fun (x44:List a0q) (x45:Bool) =>
    bi (!x9) (
     gd (rm x1.Table [(false,(x2.2.1.1,((w.i64 x5),(x4,(0,(0,((-1:Int),(x1.Tags,()))))))))] 64) <|
     on1 (a0O N ({ x1 with Ldq:=x44,Table:=(x1.Table++[(false,(x2.2.1.1,((w.i64 x5),(x4,(0,(0,((-1:Int),(x1.Tags,()))))))))]),Tags:=(w.i64 (x1.Tags+1)) }:a0b))<|gg [a0d]<|fun (x46:a0b) =>
     some (0,a0c.dv x46 [])) <|
    on1 (a0O N ({ x1 with Ldq:=x44,Tags:=(w.i64 (x1.Tags+1)) }:a0b))<|gg [a0d]<|fun (x47:a0b) =>
    some (0,a0c.dv x47 [])) <|
   bi (!x9) (
    gd (rm x1.Table [(false,(x2.2.1.1,((w.i64 x5),(x4,(0,(0,((-1:Int),(x1.Tags,()))))))))] 64) <|
    on1 (a0O N ({ x1 with Ldq:=x42,Table:=(x1.Table++[(false,(x2.2.1.1,((w.i64 x5),(x4,(0,(0,((-1:Int),(x1.Tags,()))))))))]),Tags:=(w.i64 (x1.Tags+1)) }:a0b))<|gg [a0d]<|fun (x48:a0b) =>
    some (0,a0c.dv x48 [])) <|
   on1 (a0O N ({ x1 with Ldq:=x42,Tags:=(w.i64 (x1.Tags+1)) }:a0b))<|gg [a0d]<|fun (x49:a0b) =>
   some (0,a0c.dv x49 [])) <|
  bi x9 (
   on1 (b0w N x2.2.1.2.1 x10 (w.i64 (x1.Cycle+1)) x1)<|gg [a0d]<|fun (x50:a0b) =>
   bi (!x9) (
    gd (rm x50.Table [(false,(x2.2.1.1,((w.i64 x5),(x4,(0,(0,(x2.2.1.2.1,(0,()))))))))] 64) <|
    on1 (a0O N ({ x50 with Table:=(x50.Table++[(false,(x2.2.1.1,((w.i64 x5),(x4,(0,(0,(x2.2.1.2.1,(0,()))))))))]) }:a0b))<|gg [a0d]<|fun (x51:a0b) =>
    some (0,a0c.dv x51 [])) <|
   on1 (a0O N x50)<|gg [a0d]<|fun (x52:a0b) =>
   some (0,a0c.dv x52 [])) <|
  bi (x2.2.1.2.1 != 0) (
   gd (idx x2.2.1.2.1 16) <|
   bi (!x9) (
    gd (rm x1.Table [(false,(x2.2.1.1,((w.i64 x5),(x4,(0,(0,(x2.2.1.2.1,(0,()))))))))] 64) <|
    on1 (a0O N ({ x1 with A:={ x1.A with Ready:=(List.set x1.A.Ready x2.2.1.2.1.toNat (-1:Int)) },Table:=(x1.Table++[(false,(x2.2.1.1,((w.i64 x5),(x4,(0,(0,(x2.2.1.2.1,(0,()))))))))]) }:a0b))<|gg [a0d]<|fun (x53:a0b) =>
    some (0,a0c.dv x53 [])) <|
   on1 (a0O N ({ x1 with A:={ x1.A with Ready:=(List.set x1.A.Ready x2.2.1.2.1.toNat (-1:Int)) } }:a0b))<|gg [a0d]<|fun (x54:a0b) =>
   some (0,a0c.dv x54 [])) <|
  bi (!x9) (
   gd (rm x1.Table [(false,(x2.2.1.1,((w.i64 x5),(x4,(0,(0,(x2.2.1.2.1,(0,()))))))))] 64) <|
   on1 (a0O N ({ x1 with Table:=(x1.Table++[(false,(x2.2.1.1,((w.i64 x5),(x4,(0,(0,(x2.2.1.2.1,(0,()))))))))]) }:a0b))<|gg [a0d]<|fun (x55:a0b) =>
   some (0,a0c.dv x55 [])) <|
  on1 (a0O N x1)<|gg [a0d]<|fun (x56:a0b) =>
  some (0,a0c.dv x56 [])) <|
 bi (x2.1 == 3) (
  on1 (a5Y N x1.Ldq x0.Ldq x1.Tags)<|gg [pD (.sl a0k),pB]<|fun (x57:List a0q) (x58:Bool) =>
  bi (!x58) (
   some (0,a0c.dv x1 [])) <|
  bi x9 (
   on1 (a7r N x57 x1.Tags x10)<|gg [pD (.sl a0k),pB]<|fun (x59:List a0q) (x60:Bool) =>
   bi (!x9) (
    gd (rm x1.Table [(false,(x2.2.1.1,((w.i64 x5),(x4,(0,(0,((-1:Int),(x1.Tags,()))))))))] 64) <|
    on1 (a0O N ({ x1 with Ldq:=x59,Table:=(x1.Table++[(false,(x2.2.1.1,((w.i64 x5),(x4,(0,(0,((-1:Int),(x1.Tags,()))))))))]),Tags:=(w.i64 (x1.Tags+1)) }:a0b))<|gg [a0d]<|fun (x61:a0b) =>
    some (0,a0c.dv x61 [])) <|
   on1 (a0O N ({ x1 with Ldq:=x59,Tags:=(w.i64 (x1.Tags+1)) }:a0b))<|gg [a0d]<|fun (x62:a0b) =>
   some (0,a0c.dv x62 [])) <|
  bi (!x9) (
   gd (rm x1.Table [(false,(x2.2.1.1,((w.i64 x5),(x4,(0,(0,((-1:Int),(x1.Tags,()))))))))] 64) <|
   on1 (a0O N ({ x1 with Ldq:=x57,Table:=(x1.Table++[(false,(x2.2.1.1,((w.i64 x5),(x4,(0,(0,((-1:Int),(x1.Tags,()))))))))]),Tags:=(w.i64 (x1.Tags+1)) }:a0b))<|gg [a0d]<|fun (x63:a0b) =>
   some (0,a0c.dv x63 [])) <|
  on1 (a0O N ({ x1 with Ldq:=x57,Tags:=(w.i64 (x1.Tags+1)) }:a0b))<|gg [a0d]<|fun (x64:a0b) =>
  some (0,a0c.dv x64 [])) <|
 bi x9 (
  on1 (b0w N x2.2.1.2.1 x10 (w.i64 (x1.Cycle+1)) x1)<|gg [a0d]<|fun (x65:a0b) =>
  bi (!x9) (
   gd (rm x65.Table [(false,(x2.2.1.1,((w.i64 x5),(x4,(0,(0,(x2.2.1.2.1,(0,()))))))))] 64) <|
   on1 (a0O N ({ x65 with Table:=(x65.Table++[(false,(x2.2.1.1,((w.i64 x5),(x4,(0,(0,(x2.2.1.2.1,(0,()))))))))]) }:a0b))<|gg [a0d]<|fun (x66:a0b) =>
   some (0,a0c.dv x66 [])) <|
  on1 (a0O N x65)<|gg [a0d]<|fun (x67:a0b) =>
  some (0,a0c.dv x67 [])) <|
 bi (x2.2.1.2.1 != 0) (
  gd (idx x2.2.1.2.1 16) <|
  bi (!x9) (
   gd (rm x1.Table [(false,(x2.2.1.1,((w.i64 x5),(x4,(0,(0,(x2.2.1.2.1,(0,()))))))))] 64) <|
   on1 (a0O N ({ x1 with A:={ x1.A with Ready:=(List.set x1.A.Ready x2.2.1.2.1.toNat (-1:Int)) },Table:=(x1.Table++[(false,(x2.2.1.1,((w.i64 x5),(x4,(0,(0,(x2.2.1.2.1,(0,()))))))))]) }:a0b))<|gg [a0d]<|fun (x68:a0b) =>
   some (0,a0c.dv x68 [])) <|
  on1 (a0O N ({ x1 with A:={ x1.A with Ready:=(List.set x1.A.Ready x2.2.1.2.1.toNat (-1:Int)) } }:a0b))<|gg [a0d]<|fun (x69:a0b) =>
  some (0,a0c.dv x69 [])) <|
 bi (!x9) (
  gd (rm x1.Table [(false,(x2.2.1.1,((w.i64 x5),(x4,(0,(0,(x2.2.1.2.1,(0,()))))))))] 64) <|
  on1 (a0O N ({ x1 with Table:=(x1.Table++[(false,(x2.2.1.1,((w.i64 x5),(x4,(0,(0,(x2.2.1.2.1,(0,()))))))))]) }:a0b))<|gg [a0d]<|fun (x70:a0b) =>
  some (0,a0c.dv x70 [])) <|
 on1 (a0O N x1)<|gg [a0d]<|fun (x71:a0b) =>
 some (0,a0c.dv x71 [])
def d1j (N:Nat):CE:=(d0M,mkF [a0l,a0d,a0E,pI] [a0d] (c1U N))
theorem e0j (N:Nat):CEok Q (d1j N) :=
 fnG (hi:=e1e) (l:=[b3D N,b3U N,b3n N,b7W N,c5d N,c5a N,c2p N,c3a N,c0c N,c3C N]) (t:=[]) a0r hmix ⟨b7o N,c1N N,b8v N,c3J N,d5u N,d6H N,d3p N,d1m N,c8m N,d0U N,trivial⟩ ⟨rfl,rfl,rfl,rfl,rfl,rfl,rfl,rfl,rfl,rfl,trivial⟩ e9U (by kernel_rfl) (by kernel_rfl) trivial fun ys=>by kernel_rfl
def b6V:CS:=⟨243,176,⟨[.one (.d (.sl a0t)),.one (.d tI),.agg [.d tI,.d tI,.d tI,.d tB,.d tW]],[]⟩,[.one (.o a0t),.one (.d tB)],false,[]⟩
def c7G:Hi:=⟨[],[],[13],[],[]⟩
theorem f0G:Fn Q 176 f176 (codeOf f176):=by constructor <;> kernel_rfl
def a9R (N:Nat) (x0:List a0a) (x1:Int) (x2:a0a):Option Rs :=
 gd (rm ([]:List a0a) x0 32) <|
 bi (decide ((len (([]:List a0a)++x0))≥x1)) (
  some (0,(gD (.sl a0t)).dv (([]:List a0a)++x0) (gB.dv false []))) <|
 gd (rm (([]:List a0a)++x0) [x2] 32) <|
 some (0,(gD (.sl a0t)).dv ((([]:List a0a)++x0)++[x2]) (gB.dv true []))
def b6M (N:Nat):CE:=(b6V,mkF [pD (.sl a0t),pI,a0B] [pD (.sl a0t),pB] (a9R N))
theorem c8L (N:Nat):CEok Q (b6M N) :=
 fnG (hi:=c7G) (l:=[]) (t:=[]) a0r hmix trivial trivial f0G (by kernel_rfl) (by kernel_rfl) trivial fun ys=>by kernel_rfl
def b1i:CS:=⟨244,93,⟨[.agg [.d (.sl a0n),.d (.ar 16 tI)],.one (.p 0 1 [16,16,1,1,1,1,1,1]),.one (.d tB),.one (.d tI)],[q_1]⟩,[],false,[q_1]⟩
def d4Y:Hi:=⟨[((1,7),d2L)],[],[18],[],[]⟩
def a7J (N:Nat) (x0:a0g) (x1:Bool) (x2:Int) (x3:a0b):Option Rs :=
 on1 (d4C N x0 x3.A.Pos x1)<|gg [a0L]<|fun (x4:a0C) =>
 bi x1 (
  some (0,a0c.dv ({ x3 with A:={ x3.A with Pos:=x4,Wait:=(w.i64 (x2+2)),Done:=(w.i64 (x3.A.Done+1)) } }:a0b) [])) <|
 some (0,a0c.dv ({ x3 with A:={ x3.A with Pos:=x4,Done:=(w.i64 (x3.A.Done+1)) } }:a0b) [])
def c4W (N:Nat):CE:=(b1i,mkF [a0m,pB,pI,a0d] [a0d] (a7J N))
theorem d5N (N:Nat):CEok Q (c4W N) :=
 fnG (hi:=d4Y) (l:=[d3i N]) (t:=[]) a0r hmix ⟨d9q N,trivial⟩ ⟨rfl,trivial⟩ f_93 (by kernel_rfl) (by kernel_rfl) trivial fun ys=>by kernel_rfl
end
end Go.Proofs.Zz

/- What functions of the program compute, as plain functions. -/
set_option maxRecDepth 100000
namespace Go.Proofs.Zz
noncomputable section
open Go Go.Proofs.Tryz
def c5C:CS:=⟨245,111,⟨[.agg q_5,.agg [.d (.sl a0n),.d (.ar 16 tI)],.agg q_0],[]⟩,[.agg q_1],true,[]⟩
def d5X:Hi:=⟨[((1,1),a4G),((2,3),a2x),((4,4),b1O),((6,2),b0e),((8,5),c8d),((8,6),a7H),((9,2),a9K),((9,7),c6Y),((9,15),c3t),((14,5),a2b),((14,10),a2b),((14,11),d7i),((16,4),a7H),((17,9),b6Y),((17,11),b9Z),((18,1),b3u),((21,6),a2b),((22,1),b3u),((25,4),d0M),((27,2),b3C),((28,2),b3V),((29,5),b2T),((31,5),a7H),((32,9),b6V),((35,1),b3u),((38,6),a2b),((38,11),a2b),((38,12),c3k),((40,5),b1i),((45,5),b1i),((47,4),b1i)],[],[29,34,41,61,72,78,86,92,110,130,137,150,158,173,193,198,205,231,236,251,258],[],[]⟩
theorem f0q:Fn Q 111 f111 (codeOf f111):=by constructor <;> kernel_rfl
def b7R (N:Nat) (x0:a0f) (x1:a0g) (x2:a0b):Option Rs :=
 on1 (a6F N x2)<|gg [a0d]<|fun (x3:a0b) =>
 on1 (a2i N x0 x1 x3)<|gg [pB]<|fun (x4:Bool) =>
 bi (!x4) (
  some (0,a0c.dv x3 [])) <|
 bi x3.A.Halted (
  some (0,a0c.dv x3 [])) <|
 bi (decide (x3.A.Wait > x3.Cycle)) (
  some (0,a0c.dv x3 [])) <|
 on1 (a9X N x1 false x3.A.Pos)<|gg [a0L,pB]<|fun (x5:a0C) (x6:Bool) =>
 on1 (b2e N x1 false x5)<|gg [a0E,pI,pB]<|fun (x7:a0h) (x8:Int) (x9:Bool) =>
 bi x6 (
  on1 (c7V N x1 x5.Block)<|gg [pI]<|fun (x10:Int) =>
  on1 (a9C N ({ x3 with A:={ x3.A with Pos:=x5 } }:a0b) 4 x8 x10)<|gg [a0d]<|fun (x11:a0b) =>
  some (0,a0c.dv x11 [])) <|
 on1 (b0Y N ({ x3 with A:={ x3.A with Pos:=x5 } }:a0b) x8)<|gg [pB]<|fun (x12:Bool) =>
 bi x12 (
  some (0,a0c.dv ({ x3 with A:={ x3.A with Pos:=x5 } }:a0b) [])) <|
 on1 (c2B N x0 x1 ({ x3 with A:={ x3.A with Pos:=x5 } }:a0b))<|gg [pB]<|fun (x13:Bool) =>
 bi x13 (
  some (0,a0c.dv ({ x3 with A:={ x3.A with Pos:=x5 } }:a0b) [])) <|
 on1 (c1X N ({ x3.A with Pos:=x5 }:a0v) x7 x3.Cycle)<|gg [pB]<|fun (x14:Bool) =>
 bi (!x14) (
  some (0,a0c.dv ({ x3 with A:={ x3.A with Pos:=x5 } }:a0b) [])) <|
 bi (x7.1 == 1) (
  on1 (a3j N ({ x3.A with Pos:=x5 }:a0v) x7.2.1.2.2.1)<|gg [pW]<|fun (x15:Int) =>
  on1 (a3j N ({ x3.A with Pos:=x5 }:a0v) x7.2.1.2.2.2.1)<|gg [pW]<|fun (x16:Int) =>
  on1 (e3j N x7.2.1 x15 x16)<|gg [pW,pB]<|fun (x17:Int) (x18:Bool) =>
  bi (!x18) (
   on1 (a9C N ({ x3 with A:={ x3.A with Pos:=x5 } }:a0b) 3 x8 x7.2.2.2.1)<|gg [a0d]<|fun (x19:a0b) =>
   some (0,a0c.dv x19 [])) <|
  on1 (b3I N x0 x7.2.1.1)<|gg [pI]<|fun (x20:Int) =>
  on1 (b0w N x7.2.1.2.1 x17 (w.i64 (x3.Cycle+x20)) ({ x3 with A:={ x3.A with Pos:=x5 } }:a0b))<|gg [a0d]<|fun (x21:a0b) =>
  on1 (a0O N x21)<|gg [a0d]<|fun (x22:a0b) =>
  some (0,a0c.dv x22 [])) <|
 bi (x7.1 == 5) (
  bi (decide ((len x3.Aeq) < x0.Aeq)) (
   on1 (a3j N ({ x3.A with Pos:=x5 }:a0v) x7.2.2.1)<|gg [pW]<|fun (x23:Int) =>
   gd (rm x3.Aeq [x23] 4) <|
   on1 (a0O N ({ x3 with A:={ x3.A with Pos:=x5 },Aeq:=(x3.Aeq++[x23]) }:a0b))<|gg [a0d]<|fun (x24:a0b) =>
   some (0,a0c.dv x24 [])) <|
  some (0,a0c.dv ({ x3 with A:={ x3.A with Pos:=x5 } }:a0b) [])) <|
 bi (x7.1 == 2) (
  on1 (c1U N x0 ({ x3 with A:={ x3.A with Pos:=x5 } }:a0b) x7 x8)<|gg [a0d]<|fun (x25:a0b) =>
  some (0,a0c.dv x25 [])) <|
 bi (x7.1 == 3) (
  on1 (c1U N x0 ({ x3 with A:={ x3.A with Pos:=x5 } }:a0b) x7 x8)<|gg [a0d]<|fun (x26:a0b) =>
  some (0,a0c.dv x26 [])) <|
 bi (x7.1 == 4) (
  on1 (c0u N x7.2.1.1)<|gg [pI]<|fun (x27:Int) =>
  on1 (b0L N ({ x3 with A:={ x3.A with Pos:=x5 } }:a0b) x7.2.1)<|gg [pW]<|fun (x28:Int) =>
  on1 (a5K N x27 x28 (len x3.Mem))<|gg [pI]<|fun (x29:Int) =>
  bi (x29 != 0) (
   on1 (a9C N ({ x3 with A:={ x3.A with Pos:=x5 } }:a0b) x29 x8 x7.2.2.2.1)<|gg [a0d]<|fun (x30:a0b) =>
   some (0,a0c.dv x30 [])) <|
  on1 (a9R N x3.Saq x0.Saq ((w.i64 x28),(x27,(x8,(false,(0,()))))))<|gg [pD (.sl a0t),pB]<|fun (x31:List a0a) (x32:Bool) =>
  bi x32 (
   on1 (a0O N ({ x3 with A:={ x3.A with Pos:=x5 },Saq:=x31 }:a0b))<|gg [a0d]<|fun (x33:a0b) =>
   some (0,a0c.dv x33 [])) <|
  some (0,a0c.dv ({ x3 with A:={ x3.A with Pos:=x5 } }:a0b) [])) <|
 bi (x7.1 == 9) (
  bi (decide ((len x3.Abq) < x0.Abq)) (
   on1 (a3j N ({ x3.A with Pos:=x5 }:a0v) x7.2.1.2.2.1)<|gg [pW]<|fun (x34:Int) =>
   on1 (a3j N ({ x3.A with Pos:=x5 }:a0v) x7.2.1.2.2.2.1)<|gg [pW]<|fun (x35:Int) =>
   on1 (c2n N x7.2.1.1 x34 x35)<|gg [pB]<|fun (x36:Bool) =>
   gd (rm x3.Abq [x36] 1) <|
   on1 (a7J N x1 x36 x3.Cycle ({ x3 with A:={ x3.A with Pos:=x5 },Abq:=(x3.Abq++[x36]) }:a0b))<|gg [a0d]<|fun (x37:a0b) =>
   some (0,a0c.dv x37 [])) <|
  some (0,a0c.dv ({ x3 with A:={ x3.A with Pos:=x5 } }:a0b) [])) <|
 bi (x7.1 == 10) (
  bi (decide ((len x3.Ebq) > 0)) (
   gd (idx 0 (List.length x3.Ebq)) <|
   gd (sb 1 (len x3.Ebq)) <|
   on1 (a7J N x1 (List.getD x3.Ebq 0 false) x3.Cycle ({ x3 with A:={ x3.A with Pos:=x5 },Ebq:=(List.drop 1 x3.Ebq) }:a0b))<|gg [a0d]<|fun (x38:a0b) =>
   some (0,a0c.dv x38 [])) <|
  some (0,a0c.dv ({ x3 with A:={ x3.A with Pos:=x5 } }:a0b) [])) <|
 bi (x7.1 == 11) (
  on1 (a7J N x1 true x3.Cycle ({ x3 with A:={ x3.A with Pos:=x5 } }:a0b))<|gg [a0d]<|fun (x39:a0b) =>
  some (0,a0c.dv x39 [])) <|
 bi (x7.1 == 12) (
  some (0,a0c.dv ({ x3 with A:={ x3.A with Pos:=x5,Halted:=true,Done:=(w.i64 (x3.A.Done+1)) } }:a0b) [])) <|
 some (0,a0c.dv ({ x3 with A:={ x3.A with Pos:=x5 } }:a0b) [])
def c4e (N:Nat):CE:=(c5C,mkF [a0l,a0m,a0d] [a0d] (b7R N))
theorem d3E (N:Nat):CEok Q (c4e N) :=
 fnG (hi:=d5X) (l:=[a5g N,a2z N,b1Y N,b3B N,c7s N,b7W N,a9W N,c8K N,c2I N,b4c N,d7a N,b6k N,c0c N,c3C N,d1j N,b3D N,b3U N,b3n N,b6M N,c3I N,c4W N]) (t:=[]) a0r hmix ⟨a6q N,a3J N,b6j N,b8q N,d5k N,c3J N,b3Y N,d6T N,d0K N,c0n N,e2s N,c3Y N,c8m N,d0U N,e0j N,b7o N,c1N N,b8v N,c8L N,d1C N,d5N N,trivial⟩ ⟨rfl,rfl,rfl,rfl,rfl,rfl,rfl,rfl,rfl,rfl,rfl,rfl,rfl,rfl,rfl,rfl,rfl,rfl,rfl,rfl,rfl,rfl,rfl,rfl,rfl,rfl,rfl,rfl,rfl,rfl,rfl,trivial⟩ f0q (by kernel_rfl) (by kernel_rfl) trivial fun ys=>by kernel_rfl
def c3o:CS:=⟨246,52,⟨[.agg q_5,.agg [.d (.sl a0n),.d (.ar 16 tI)],.agg [.d (.sl tI),.d (.sl tI)],.agg q_0],[]⟩,[.agg q_1],true,[]⟩
def e0q:Hi:=⟨[((1,3),a2x),((2,1),a4G),((3,8),c1i),((3,9),d1a),((3,10),c4Y),((3,11),c5C)],[],[13],[],[]⟩
theorem f_52:Fn Q 52 f52 (codeOf f52):=by constructor <;> kernel_rfl
def c2v (N:Nat) (x0:a0f) (x1:a0g) (x2:a0w) (x3:a0b):Option Rs :=
 on1 (a2i N x0 x1 x3)<|gg [pB]<|fun (x4:Bool) =>
 bi (!x4) (
  on1 (a6F N x3)<|gg [a0d]<|fun (x5:a0b) =>
  some (0,a0c.dv x5 [])) <|
 on1 (b4R N x0 x2 x3)<|gg [a0d]<|fun (x6:a0b) =>
 on1 (c2d N x0 x6)<|gg [a0d]<|fun (x7:a0b) =>
 on1 (b7Y N x0 x1 x7)<|gg [a0d]<|fun (x8:a0b) =>
 on1 (b7R N x0 x1 x8)<|gg [a0d]<|fun (x9:a0b) =>
 some (0,a0c.dv ({ x9 with Cycle:=(w.i64 (x9.Cycle+1)) }:a0b) [])
def c3z (N:Nat):CE:=(c3o,mkF [a0l,a0m,a0F,a0d] [a0d] (c2v N))
theorem d1t (N:Nat):CEok Q (c3z N) :=
 fnG (hi:=e0q) (l:=[a2z N,a5g N,c2f N,d1w N,c4Q N,c4e N]) (t:=[]) a0r hmix ⟨a3J N,a6q N,d1W N,e0Y N,d5A N,d3E N,trivial⟩ ⟨rfl,rfl,rfl,rfl,rfl,rfl,trivial⟩ f_52 (by kernel_rfl) (by kernel_rfl) trivial fun ys=>by kernel_rfl
def c0e:CS:=⟨247,115,⟨[.agg [.d (.sl a0n),.d (.ar 16 tI)],.one (.d tB),.agg q_3,.agg q_0],[]⟩,[.one (.d tB)],true,[]⟩
def d6O:Hi:=⟨[((1,4),b0e),((2,5),a9K)],[],[23],[],[]⟩
theorem e9F:Fn Q 115 f115 (codeOf f115):=by constructor <;> kernel_rfl
def b5L (N:Nat) (x0:a0g) (x1:Bool) (x2:a0v) (x3:a0b):Option Rs :=
 on1 (b2e N x0 x1 x2.Pos)<|gg [a0E,pI,pB]<|fun (x4:a0h) (x5:Int) (x6:Bool) =>
 bi x2.Halted (
  some (0,gB.dv true [])) <|
 on1 (b0Y N x3 x5)<|gg [pB]<|fun (x7:Bool) =>
 some (0,gB.dv x7 [])
def c6L (N:Nat):CE:=(c0e,mkF [a0m,pB,a0S,a0d] [pB] (b5L N))
theorem d8n (N:Nat):CEok Q (c6L N) :=
 fnG (hi:=d6O) (l:=[b3B N,a9W N]) (t:=[]) a0r hmix ⟨b8q N,b3Y N,trivial⟩ ⟨rfl,rfl,trivial⟩ e9F (by kernel_rfl) (by kernel_rfl) trivial fun ys=>by kernel_rfl
def d0P:CS:=⟨248,54,⟨[.agg q_5,.agg [.d (.sl a0n),.d (.ar 16 tI)],.agg q_0],[]⟩,[.one (.d tB)],true,[]⟩
def c5l:LS:=⟨⟨[.no,.no,.no,.no,.no,.one (.p 0 0 [1,16,16,1,1,1,1,1,1,16,16,1,1,1,1,1,1,1,1,1,1,1,1,1,1,1,1,1,1,1,1,1]),.no,.one (.d tI)]++nos 48,[q_0]⟩,[(0,⟨nos 6++[.one (.d tB)]++nos 49,[]⟩),(1,⟨nos 56,[]⟩)]⟩
def b8w:Hi:=⟨[((1,3),a2x),((3,4),c0e),((3,11),c0e)],[(0,c5l)],[12,19,27,32,37,44,55],[],[]⟩
theorem f_54:Fn Q 54 f54 (codeOf f54):=by constructor <;> kernel_rfl
def b8r (N:Nat):List CE:=[a2z N,c6L N]
theorem c7t (N:Nat):AllP (CEok Q) (b8r N):=⟨a3J N,d8n N,trivial⟩
theorem d0L (N:Nat):AllP (fun e=>lookC (b8r N) e.2.id = some e.2) b8w.cs:=⟨rfl,rfl,rfl,trivial⟩
def b4m (N:Nat) (again:Fn' (Option Rs) [pI,a0d]) (x0:Int) (x1:a0b):Option Rs :=
 bi (decide (x0 < (len x1.Saq))) (
  bi (x1.Trap.Kind == 0) (
   some (0,gB.dv false [])) <|
  gd (idx x0 (List.length x1.Saq)) <|
  bi (decide ((List.getD x1.Saq x0.toNat a0a.z).2.2.1 < x1.Trap.Step)) (
   some (0,gB.dv false [])) <|
  again (w.i64 (x0+1)) x1) <|
 some (1,[])
def b0S (N:Nat):Nat→Fn' (Option Rs) [pI,a0d]:=lpG (b4m N)
def c3W (N:Nat):LE:=(0,mkM [pI,a0d] [(0,[pB]),(1,[])] (b0S N N))
theorem d3D (N:Nat):LEok Q b8w (bodOf f54) f54.ntmps 0 (c3W N) :=
 loopG (hi:=b8w) (l:=b8r N) (t:=[]) (r:=b4m N) a0r hmix (c7t N) (d0L N) f_54 trivial (ls:=c5l) (body:=bodyAt f54 0) (by kernel_rfl) (by kernel_rfl) fun A ys=>by kernel_rfl
def c6s (N:Nat) (x0:a0f) (x1:a0g) (x2:a0b):Option Rs :=
 on1 (a2i N x0 x1 x2)<|gg [pB]<|fun (x3:Bool) =>
 bi (!x3) (
  some (0,gB.dv true [])) <|
 on1 (b5L N x1 false x2.A x2)<|gg [pB]<|fun (x4:Bool) =>
 bi (!x4) (
  some (0,gB.dv false [])) <|
 on1 (b5L N x1 true x2.E x2)<|gg [pB]<|fun (x5:Bool) =>
 bi (!x5) (
  some (0,gB.dv false [])) <|
 bi (decide ((len x2.Table) > 0)) (
  some (0,gB.dv false [])) <|
 onB 0 1 (b0S N N 0 x2) (gg [pB]<|fun (x6:Bool) =>
  some (0,gB.dv x6 []))<|gg [] <|
 some (0,gB.dv true [])
def d0N (N:Nat):CE:=(d0P,mkF [a0l,a0m,a0d] [pB] (c6s N))
theorem e1l (N:Nat):CEok Q (d0N N) :=
 fnG (hi:=b8w) (l:=b8r N) (t:=[c3W N]) a0r hmix (c7t N) (d0L N) f_54 (by kernel_rfl) (by kernel_rfl) ⟨d3D N,trivial⟩ fun ys=>by kernel_rfl
def c7m:CS:=⟨249,11,⟨[.agg q_5,.agg [.d (.sl a0y),.d tI,.d (.sl tU)],.one (.d tI),.agg [.d (.sl tI),.d (.sl tI)],.agg q_0],[]⟩,[.one (.d tB)],true,[]⟩
def c9j:Hi:=⟨[((1,0),c0t),((2,2),b6T),((3,4),d3z),((3,9),d4K),((5,4),a4G),((5,5),b4u),((5,10),c3o),((5,11),b0t),((5,16),a8a),((5,20),d0P)],[],[23,28,33,39,45,48,62],[],[]⟩
theorem f_11:Fn Q 11 f11 (codeOf f11):=by constructor <;> kernel_rfl
def b5m (N:Nat) (x0:a0f) (x1:a0s) (x2:Int) (x3:a0w) (x4:a0b):Option Rs :=
 on1 (c1G N )<|gg [pB]<|fun (x5:Bool) =>
 on1 (b2R N x1 x2)<|gg [a0m,pB]<|fun (x6:a0g) (x7:Bool) =>
 bi (!x5) (
  some (0,gB.dv x5 [])) <|
 on1 (d6y N x1)<|gg [pB]<|fun (x8:Bool) =>
 bi (!x8) (
  some (0,gB.dv x5 [])) <|
 on1 (d3j N x4)<|gg [pB]<|fun (x9:Bool) =>
 bi (!x9) (
  some (0,gB.dv x5 [])) <|
 bi (decide ((len x3.Lats) > 60)) (
  some (0,gB.dv x5 [])) <|
 bi (decide ((len x3.Picks) > 60)) (
  some (0,gB.dv x5 [])) <|
 bi (!x7) (
  some (0,gB.dv x5 [])) <|
 on1 (a6F N x4)<|gg [a0d]<|fun (x10:a0b) =>
 on1 (a7h N x0 x6 x3 x10)<|gg [a0d]<|fun (x11:a0b) =>
 on1 (c2v N x0 x6 x3 x4)<|gg [a0d]<|fun (x12:a0b) =>
 on1 (a7j N x11 x12)<|gg [pB]<|fun (x13:Bool) =>
 bi x13 (
  on1 (a7a N x0 x6 x4)<|gg [pB]<|fun (x14:Bool) =>
  on1 (c6s N x0 x6 x4)<|gg [pB]<|fun (x15:Bool) =>
  some (0,gB.dv (x14 == x15) [])) <|
 some (0,gB.dv false [])
def c6H (N:Nat):CE:=(c7m,mkF [a0l,a0p,pI,a0F,a0d] [pB] (b5m N))
theorem c7O (N:Nat):CEok Q (c6H N) :=
 fnG (hi:=c9j) (l:=[c0d N,b5U N,d2V N,d4a N,a5g N,b4p N,c3z N,b0O N,b4C N,d0N N]) (t:=[]) a0r hmix ⟨c6G N,c4p N,d9a N,e1X N,a6q N,c0p N,d1t N,b5V N,c0j N,e1l N,trivial⟩ ⟨rfl,rfl,rfl,rfl,rfl,rfl,rfl,rfl,rfl,rfl,trivial⟩ f_11 (by kernel_rfl) (by kernel_rfl) trivial fun ys=>by kernel_rfl
def c2R:CS:=⟨250,12,⟨[.agg q_5,.agg [.d (.sl a0y),.d tI,.d (.sl tU)],.one (.d tI),.agg [.d (.sl tI),.d (.sl tI)],.one (.d tI)],[]⟩,[.one (.d tB)],true,[]⟩
def b0Q:LS:=⟨⟨[.no,.no,.no,.no,.one (.d tI),.one (.p 0 0 [1,1,1,1,1,1,1,1,1,1,1,1]),.no,.no,.one (.p 1 0 [1,1]),.no,.no,.no,.one (.p 2 0 [1,16]),.no,.one (.p 3 0 [1,16,16,1,1,1,1,1,1,16,16,1,1,1,1,1,1,1,1,1,1,1,1,1,1,1,1,1,1,1,1,1]),.one (.d tB),.one (.d tI)]++nos 121,[q_5,[.d (.sl tI),.d (.sl tI)],[.o a0n,.d (.ar 16 tI)],q_1]⟩,[(0,⟨nos 10++[.one (.d tB)]++nos 127,[]⟩),(1,⟨nos 138,[]⟩)]⟩
def a4U:Hi:=⟨[((1,0),c0t),((2,2),b6T),((3,4),c7j),((3,25),a7E),((5,1),c8P),((10,4),a4G),((10,5),b4u),((11,5),c3o),((11,6),b0t),((11,12),a2x),((13,5),a8a),((15,3),a8a)],[(0,b0Q)],[27,32,38,44,48,53,57,60,66,83,90,97,99,105,114,123,132],[],[]⟩
theorem f_12:Fn Q 12 f12 (codeOf f12):=by constructor <;> kernel_rfl
def a5b (N:Nat):List CE:=[c0d N,b5U N,c8O N,a8e N,c8j N,a5g N,b4p N,c3z N,b0O N,a2z N,b4C N]
theorem b1p (N:Nat):AllP (CEok Q) (a5b N):=⟨c6G N,c4p N,d6V N,b2P N,d8s N,a6q N,c0p N,d1t N,b5V N,a3J N,c0j N,trivial⟩
theorem b3j (N:Nat):AllP (fun e=>lookC (a5b N) e.2.id = some e.2) a4U.cs:=⟨rfl,rfl,rfl,rfl,rfl,rfl,rfl,rfl,rfl,rfl,rfl,rfl,trivial⟩
def a4f (N:Nat) (again:Fn' (Option Rs) [pI,pB,pI,a0l,a0F,a0m,a0d]) (x0:Int) (x1:Bool) (x2:Int) (x3:a0f) (x4:a0w) (x5:a0g) (x6:a0b):Option Rs :=
 bi (decide (x2 < x0)) (
  on1 (a6F N x6)<|gg [a0d]<|fun (x7:a0b) =>
  on1 (a7h N x3 x5 x4 x7)<|gg [a0d]<|fun (x8:a0b) =>
  on1 (c2v N x3 x5 x4 x6)<|gg [a0d]<|fun (x9:a0b) =>
  on1 (a7j N x8 x9)<|gg [pB]<|fun (x10:Bool) =>
  bi (!x10) (
   some (0,gB.dv false [])) <|
  on1 (a2i N x3 x5 x8)<|gg [pB]<|fun (x11:Bool) =>
  bi (!x11) (
   some (0,gB.dv false [])) <|
  bi (x8.Cycle != (w.i64 (x6.Cycle+1))) (
   some (0,gB.dv false [])) <|
  bi x1 (
   on1 (a7a N x3 x5 x8)<|gg [pB]<|fun (x12:Bool) =>
   bi (!x12) (
    some (0,gB.dv false [])) <|
   bi ((len x8.Writes) != (len x6.Writes)) (
    some (0,gB.dv false [])) <|
   bi (x8.A.Done != x6.A.Done) (
    some (0,gB.dv false [])) <|
   bi (x8.E.Done != x6.E.Done) (
    some (0,gB.dv false [])) <|
   on1 (a7a N x3 x5 x8)<|gg [pB]<|fun (x13:Bool) =>
   again x0 x13 (w.i64 (x2+1)) x3 x4 x5 x8) <|
  on1 (a7a N x3 x5 x8)<|gg [pB]<|fun (x14:Bool) =>
  again x0 x14 (w.i64 (x2+1)) x3 x4 x5 x8) <|
 some (1,[])
def a2T (N:Nat):Nat→Fn' (Option Rs) [pI,pB,pI,a0l,a0F,a0m,a0d]:=lpG (a4f N)
def b0X (N:Nat):LE:=(0,mkM [pI,pB,pI,a0l,a0F,a0m,a0d] [(0,[pB]),(1,[])] (a2T N N))
theorem c0a (N:Nat):LEok Q a4U (bodOf f12) f12.ntmps 0 (b0X N) :=
 loopG (hi:=a4U) (l:=a5b N) (t:=[]) (r:=a4f N) a0r hmix (b1p N) (b3j N) f_12 trivial (ls:=b0Q) (body:=bodyAt f12 0) (by kernel_rfl) (by kernel_rfl) fun A ys=>by kernel_rfl
def b0x (N:Nat) (x0:a0f) (x1:a0s) (x2:Int) (x3:a0w) (x4:Int):Option Rs :=
 on1 (c1G N )<|gg [pB]<|fun (x5:Bool) =>
 on1 (b2R N x1 x2)<|gg [a0m,pB]<|fun (x6:a0g) (x7:Bool) =>
 bi (!x5) (
  some (0,gB.dv x5 [])) <|
 on1 (c8s N x1)<|gg [pB]<|fun (x8:Bool) =>
 bi (!x8) (
  some (0,gB.dv x5 [])) <|
 bi (decide ((len x3.Lats) > 60)) (
  some (0,gB.dv x5 [])) <|
 bi (decide ((len x3.Picks) > 60)) (
  some (0,gB.dv x5 [])) <|
 bi (!x7) (
  some (0,gB.dv x5 [])) <|
 on1 (a4w N x0)<|gg [pB]<|fun (x9:Bool) =>
 bi (!x9) (
  some (0,gB.dv x5 [])) <|
 bi (decide (x4 < 0)) (
  some (0,gB.dv x5 [])) <|
 bi (decide (x4 > 150)) (
  some (0,gB.dv x5 [])) <|
 on1 (c2w N x1)<|gg [a0d]<|fun (x10:a0b) =>
 onB 0 1 (a2T N N x4 false 0 x0 x3 x6 x10) (gg [pB]<|fun (x11:Bool) =>
  some (0,gB.dv x11 []))<|gg [] <|
 some (0,gB.dv true [])
def c3F (N:Nat):CE:=(c2R,mkF [a0l,a0p,pI,a0F,pI] [pB] (b0x N))
theorem c3s (N:Nat):CEok Q (c3F N) :=
 fnG (hi:=a4U) (l:=a5b N) (t:=[b0X N]) a0r hmix (b1p N) (b3j N) f_12 (by kernel_rfl) (by kernel_rfl) ⟨c0a N,trivial⟩ fun ys=>by kernel_rfl
end
end Go.Proofs.Zz
