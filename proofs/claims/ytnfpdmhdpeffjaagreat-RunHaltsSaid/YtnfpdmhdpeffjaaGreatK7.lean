import Derived.Test.YtnfpdmhdpeffjaaGreatK5
set_option linter.unusedSimpArgs false
set_option linter.unusedVariables false
/- What functions of the program compute, as plain functions. -/
set_option maxRecDepth 100000
namespace Go.Proofs.Zz
noncomputable section
open Go Go.Proofs.Tryz
def c6Q:CS:=⟨192,108,⟨[],[]⟩,[.agg q_5],true,[]⟩
def e2H:Hi:=⟨[],[],[],[],[]⟩
theorem f0X:Fn Q 108 f108 (codeOf f108):=by constructor <;> kernel_rfl
def d8d (N:Nat)  : Option Rs :=
 some (0,a0D.dv (a0f.mk 1 1 1 1 1 1 1 1 1 1 1 1) [])
def d5L (N:Nat):CE:=(c6Q,mkF [] [a0l] (d8d N))
theorem e3K (N:Nat):CEok Q (d5L N) :=
 fnG (hi:=e2H) (l:=[]) (t:=[]) a0r hmix trivial trivial f0X (by kernel_rfl) (by kernel_rfl) trivial fun ys=>by kernel_rfl
def c1n:CS:=⟨193,268,⟨[.one (.hd 0 24),.agg [.d tI,.d tI,.d tW]],[q_8]⟩,[],false,[q_8]⟩
def b6K:LS:=⟨⟨[.one (.hd 0 24),.no,.no,.one (.p 1 0 [1,1,1])]++nos 36++[.one (.d tI),.one (.d tI)]++nos 15,[q_8,[.d tI,.d tI,.d tW]]⟩,[(1,⟨nos 57,[q_8]⟩)]⟩
def a9J:Hi:=⟨[((1,31),a6S)],[(0,b6K)],[8,13,18,23,28,38,42],[],[]⟩
theorem e8l:Fn Q 268 f268 (codeOf f268):=by constructor <;> kernel_rfl
def a9D (N:Nat):List CE:=[a7b N]
theorem b9E (N:Nat):AllP (CEok Q) (a9D N):=⟨a9u N,trivial⟩
theorem c1l (N:Nat):AllP (fun e=>lookC (a9D N) e.2.id = some e.2) a9J.cs:=⟨rfl,trivial⟩
def a8n (N:Nat) (again:Fn' (Option Rs) [pI,pI,a0d,a4x]) (x0:Int) (x1:Int) (x2:a0b) (x3:a0K):Option Rs :=
 bi (decide (x1 < x0)) (
  gf (decide ((w.i64 (8*x1)) < 0)) <|
  gd (idx (w.i64 (x3.1+x1)) (List.length x2.Mem)) <|
  again x0 (w.i64 (x1+1)) ({ x2 with Mem:=(List.set x2.Mem (Int.toNat (w.i64 (x3.1+x1))) (w.u8 (shr .u32 x3.2.2.1 (w.i64 (8*x1))))) }:a0b) x3) <|
 some (1,a0c.dv x2 [])
def a2Y (N:Nat):Nat→Fn' (Option Rs) [pI,pI,a0d,a4x]:=lpG (a8n N)
def b6B (N:Nat):LE:=(0,mkM [pI,pI,a0d,a4x] [(1,[a0d])] (a2Y N N))
theorem c9d (N:Nat):LEok Q a9J (bodOf f268) f268.ntmps 1 (b6B N) :=
 loopG (hi:=a9J) (l:=a9D N) (t:=[]) (r:=a8n N) a0r hmix (b9E N) (c1l N) e8l trivial (ls:=b6K) (body:=bodyAt f268 0) (by kernel_rfl) (by kernel_rfl) fun A ys=>by kernel_rfl
def b0T (N:Nat) (x0:a0K) (x1:a0b):Option Rs :=
 bi (x0.2.1 != 1) (
  bi (x0.2.1 != 2) (
   bi (x0.2.1 != 4) (
    some (0,a0c.dv x1 [])) <|
   bi (decide (x0.1 < 0)) (
    some (0,a0c.dv x1 [])) <|
   bi (decide (x0.1 > 4294967295)) (
    some (0,a0c.dv x1 [])) <|
   on1 (a1s N x0.2.1 (w.u32 x0.1) (len x1.Mem))<|gg [pI]<|fun (x2:Int) =>
   bi (x2 != 0) (
    some (0,a0c.dv x1 [])) <|
   onA 1 (a2Y N N x0.2.1 0 x1 x0)<|gg [a0d]<|fun (x3:a0b) =>
   some (0,a0c.dv x3 [])) <|
  bi (decide (x0.1 < 0)) (
   some (0,a0c.dv x1 [])) <|
  bi (decide (x0.1 > 4294967295)) (
   some (0,a0c.dv x1 [])) <|
  on1 (a1s N x0.2.1 (w.u32 x0.1) (len x1.Mem))<|gg [pI]<|fun (x4:Int) =>
  bi (x4 != 0) (
   some (0,a0c.dv x1 [])) <|
  onA 1 (a2Y N N x0.2.1 0 x1 x0)<|gg [a0d]<|fun (x5:a0b) =>
  some (0,a0c.dv x5 [])) <|
 bi (decide (x0.1 < 0)) (
  some (0,a0c.dv x1 [])) <|
 bi (decide (x0.1 > 4294967295)) (
  some (0,a0c.dv x1 [])) <|
 on1 (a1s N x0.2.1 (w.u32 x0.1) (len x1.Mem))<|gg [pI]<|fun (x6:Int) =>
 bi (x6 != 0) (
  some (0,a0c.dv x1 [])) <|
 onA 1 (a2Y N N x0.2.1 0 x1 x0)<|gg [a0d]<|fun (x7:a0b) =>
 some (0,a0c.dv x7 [])
def c2s (N:Nat):CE:=(c1n,mkF [a4x,a0d] [a0d] (b0T N))
theorem d2g (N:Nat):CEok Q (c2s N) :=
 fnG (hi:=a9J) (l:=a9D N) (t:=[b6B N]) a0r hmix (b9E N) (c1l N) e8l (by kernel_rfl) (by kernel_rfl) ⟨c9d N,trivial⟩ fun ys=>by kernel_rfl
def c1F:CS:=⟨194,235,⟨[.one (.p 0 0 [1,16,16,1,1,1,1,1,1,16,16,1,1,1,1,1,1,1,1,1,1,1,1,1,1,1,1,1,1,1,1,1]),.agg [.d tB,.d tI,.d tI,.d tI,.d tW,.d tI,.d tI,.d tI]],[q_8]⟩,[],false,[q_8]⟩
def d3s:Hi:=⟨[((2,5),c1n)],[],[33],[],[((2,5),[(0,0)])]⟩
theorem e9Y:Fn Q 235 f235 (codeOf f235):=by constructor <;> kernel_rfl
def b4z (N:Nat) (x0:a0e) (x1:a0b):Option Rs :=
 on1 (b0T N (x0.2.2.1,(x0.2.2.2.1,(x0.2.2.2.2.1,()))) x1)<|gg [a0d]<|fun (x2:a0b) =>
 gd (rm x2.Writes [(x0.2.2.1,(x0.2.2.2.1,(x0.2.2.2.2.1,())))] 24) <|
 bi (decide ((len x2.Saq) > 0)) (
  gd (sb 1 (len x2.Saq)) <|
  some (0,a0c.dv ({ x2 with Saq:=(List.drop 1 x2.Saq),Writes:=(x2.Writes++[(x0.2.2.1,(x0.2.2.2.1,(x0.2.2.2.2.1,())))]) }:a0b) [])) <|
 some (0,a0c.dv ({ x2 with Writes:=(x2.Writes++[(x0.2.2.1,(x0.2.2.2.1,(x0.2.2.2.2.1,())))]) }:a0b) [])
def c0Z (N:Nat):CE:=(c1F,mkF [a3C,a0d] [a0d] (b4z N))
theorem d1S (N:Nat):CEok Q (c0Z N) :=
 fnG (hi:=d3s) (l:=[c2s N]) (t:=[]) a0r hmix ⟨d2g N,trivial⟩ ⟨rfl,trivial⟩ e9Y (by kernel_rfl) (by kernel_rfl) trivial fun ys=>by kernel_rfl
def c0E:CS:=⟨195,295,⟨[.one (.d tI)],[]⟩,[.one (.d tB)],true,[]⟩
def d2I:Hi:=⟨[],[],[5],[],[]⟩
theorem e9H:Fn Q 295 f295 (codeOf f295):=by constructor <;> kernel_rfl
def b4O (N:Nat) (x0:Int):Option Rs :=
 bi (decide (x0≥26)) (
  some (0,gB.dv (decide (x0≤30)) [])) <|
 some (0,gB.dv false [])
def c1Y (N:Nat):CE:=(c0E,mkF [pI] [pB] (b4O N))
theorem d2d (N:Nat):CEok Q (c1Y N) :=
 fnG (hi:=d2I) (l:=[]) (t:=[]) a0r hmix trivial trivial e9H (by kernel_rfl) (by kernel_rfl) trivial fun ys=>by kernel_rfl
def c5m:CS:=⟨196,269,⟨[.one (.d (.sl tU)),.one (.d tI),.one (.d tW)],[]⟩,[.one (.d tW)],true,[]⟩
def b9n:LS:=⟨⟨[.one (.d (.sl tU)),.one (.d tI),.one (.d tW),.no,.no,.no,.no,.no,.one (.d tW)]++nos 14++[.one (.d tI),.one (.d tI)]++nos 19,[]⟩,[(1,⟨[.no,.one (.d tI)]++nos 6++[.one (.d tW)]++nos 35,[]⟩)]⟩
def b2f:Hi:=⟨[((1,1),a3v),((2,1),c0E),((2,8),a6S),((10,2),b5Q)],[(0,b9n)],[15,22,25],[],[]⟩
theorem e8E:Fn Q 269 f269 (codeOf f269):=by constructor <;> kernel_rfl
def b1B (N:Nat):List CE:=[a3w N,c1Y N,a7b N,b6d N]
theorem c1c (N:Nat):AllP (CEok Q) (b1B N):=⟨a4A N,d2d N,a9u N,c3T N,trivial⟩
theorem c5t (N:Nat):AllP (fun e=>lookC (b1B N) e.2.id = some e.2) b2f.cs:=⟨rfl,rfl,rfl,rfl,trivial⟩
def a4V (N:Nat) (again:Fn' (Option Rs) [pD (.sl tU),pI,pW,pW,pI,pI]) (x0:List Int) (x1:Int) (x2:Int) (x3:Int) (x4:Int) (x5:Int):Option Rs :=
 bi (decide (x5 < x4)) (
  gd (idx (w.i64 ((w.i64 x2)+x5)) (List.length x0)) <|
  gf (decide ((w.i64 (8*x5)) < 0)) <|
  again x0 x1 x2 (bitOr .u32 x3 (shl .u32 (w.u32 (List.getD x0 (Int.toNat (w.i64 ((w.i64 x2)+x5))) 0)) (w.i64 (8*x5)))) x4 (w.i64 (x5+1))) <|
 some (1,gI.dv x1 (gW.dv x3 []))
def a2H (N:Nat):Nat→Fn' (Option Rs) [pD (.sl tU),pI,pW,pW,pI,pI]:=lpG (a4V N)
def b9R (N:Nat):LE:=(0,mkM [pD (.sl tU),pI,pW,pW,pI,pI] [(1,[pI,pW])] (a2H N N))
theorem d0b (N:Nat):LEok Q b2f (bodOf f269) f269.ntmps 0 (b9R N) :=
 loopG (hi:=b2f) (l:=b1B N) (t:=[]) (r:=a4V N) a0r hmix (c1c N) (c5t N) e8E trivial (ls:=b9n) (body:=bodyAt f269 0) (by kernel_rfl) (by kernel_rfl) fun A ys=>by kernel_rfl
def a9Z (N:Nat) (x0:List Int) (x1:Int) (x2:Int):Option Rs :=
 on1 (a3m N x1)<|gg [pI]<|fun (x3:Int) =>
 on1 (b4O N x1)<|gg [pB]<|fun (x4:Bool) =>
 bi (!x4) (
  some (0,gW.dv 0 [])) <|
 on1 (a1s N x3 x2 (len x0))<|gg [pI]<|fun (x5:Int) =>
 bi (x5 != 0) (
  some (0,gW.dv 0 [])) <|
 onA 1 (a2H N N x0 x1 x2 0 x3 0)<|gg [pI,pW]<|fun (x6:Int) (x7:Int) =>
 on1 (b3J N x6 x7)<|gg [pW]<|fun (x8:Int) =>
 some (0,gW.dv x8 [])
def c4y (N:Nat):CE:=(c5m,mkF [pD (.sl tU),pI,pW] [pW] (a9Z N))
theorem d4Q (N:Nat):CEok Q (c4y N) :=
 fnG (hi:=b2f) (l:=b1B N) (t:=[b9R N]) a0r hmix (c1c N) (c5t N) e8E (by kernel_rfl) (by kernel_rfl) ⟨d0b N,trivial⟩ fun ys=>by kernel_rfl
def c5f:CS:=⟨197,236,⟨[.one (.p 0 0 [1,16,16,1,1,1,1,1,1,16,16,1,1,1,1,1,1,1,1,1,1,1,1,1,1,1,1,1,1,1,1,1]),.agg [.d tB,.d tI,.d tI,.d tI,.d tW,.d tI,.d tI,.d tI]],[q_8]⟩,[],false,[q_8]⟩
def d4S:Hi:=⟨[((3,9),c5m),((5,8),b7e)],[],[8,12,23,41,45],[],[]⟩
theorem f0m:Fn Q 236 f236 (codeOf f236):=by constructor <;> kernel_rfl
def b0b (N:Nat) (x0:a0e) (x1:a0b):Option Rs :=
 bi (decide (x0.2.2.1≥0)) (
  bi (decide (x0.2.2.1≤4294967295)) (
   on1 (a9Z N x1.Mem x0.2.1 (w.u32 x0.2.2.1))<|gg [pW]<|fun (x2:Int) =>
   bi (decide (x0.2.2.2.2.2.2.1 < 0)) (
    on1 (a4T N x1.Ldq x0.2.2.2.2.2.2.2.1 x2)<|gg [pD (.sl a0k),pB]<|fun (x3:List a0q) (x4:Bool) =>
    some (0,a0c.dv ({ x1 with Ldq:=x3 }:a0b) [])) <|
   bi (decide (x0.2.2.2.2.2.2.1≥1)) (
    bi (decide (x0.2.2.2.2.2.2.1≤15)) (
     gd (idx x0.2.2.2.2.2.2.1 16) <|
     gd (idx x0.2.2.2.2.2.2.1 16) <|
     some (0,a0c.dv ({ x1 with A:={ x1.A with Regs:=(List.set x1.A.Regs x0.2.2.2.2.2.2.1.toNat x2),Ready:=(List.set x1.A.Ready x0.2.2.2.2.2.2.1.toNat (w.i64 (x1.Cycle+1))) } }:a0b) [])) <|
    some (0,a0c.dv x1 [])) <|
   some (0,a0c.dv x1 [])) <|
  bi (decide (x0.2.2.2.2.2.2.1 < 0)) (
   on1 (a4T N x1.Ldq x0.2.2.2.2.2.2.2.1 0)<|gg [pD (.sl a0k),pB]<|fun (x5:List a0q) (x6:Bool) =>
   some (0,a0c.dv ({ x1 with Ldq:=x5 }:a0b) [])) <|
  bi (decide (x0.2.2.2.2.2.2.1≥1)) (
   bi (decide (x0.2.2.2.2.2.2.1≤15)) (
    gd (idx x0.2.2.2.2.2.2.1 16) <|
    gd (idx x0.2.2.2.2.2.2.1 16) <|
    some (0,a0c.dv ({ x1 with A:={ x1.A with Regs:=(List.set x1.A.Regs x0.2.2.2.2.2.2.1.toNat 0),Ready:=(List.set x1.A.Ready x0.2.2.2.2.2.2.1.toNat (w.i64 (x1.Cycle+1))) } }:a0b) [])) <|
   some (0,a0c.dv x1 [])) <|
  some (0,a0c.dv x1 [])) <|
 bi (decide (x0.2.2.2.2.2.2.1 < 0)) (
  on1 (a4T N x1.Ldq x0.2.2.2.2.2.2.2.1 0)<|gg [pD (.sl a0k),pB]<|fun (x7:List a0q) (x8:Bool) =>
  some (0,a0c.dv ({ x1 with Ldq:=x7 }:a0b) [])) <|
 bi (decide (x0.2.2.2.2.2.2.1≥1)) (
  bi (decide (x0.2.2.2.2.2.2.1≤15)) (
   gd (idx x0.2.2.2.2.2.2.1 16) <|
   gd (idx x0.2.2.2.2.2.2.1 16) <|
   some (0,a0c.dv ({ x1 with A:={ x1.A with Regs:=(List.set x1.A.Regs x0.2.2.2.2.2.2.1.toNat 0),Ready:=(List.set x1.A.Ready x0.2.2.2.2.2.2.1.toNat (w.i64 (x1.Cycle+1))) } }:a0b) [])) <|
  some (0,a0c.dv x1 [])) <|
 some (0,a0c.dv x1 [])
def c5Q (N:Nat):CE:=(c5f,mkF [a3C,a0d] [a0d] (b0b N))
theorem d5s (N:Nat):CEok Q (c5Q N) :=
 fnG (hi:=d4S) (l:=[c4y N,b6O N]) (t:=[]) a0r hmix ⟨d4Q N,c5g N,trivial⟩ ⟨rfl,rfl,trivial⟩ f0m (by kernel_rfl) (by kernel_rfl) trivial fun ys=>by kernel_rfl
def c7v:CS:=⟨198,168,⟨[.one (.p 0 0 [1,16,16,1,1,1,1,1,1,16,16,1,1,1,1,1,1,1,1,1,1,1,1,1,1,1,1,1,1,1,1,1])],[q_1]⟩,[],false,[q_1]⟩
def c1o:LS:=⟨⟨[.one (.p 0 0 [1,16,16,1,1,1,1,1,1,16,16,1,1,1,1,1,1,1,1,1,1,1,1,1,1,1,1,1,1,1,1,1]),.no,.one (.o a0j),.no,.no,.no,.no,.no,.one (.d (.sl a0j)),.one (.d tI),.one (.d tI)]++nos 30,[q_8]⟩,[(1,⟨[.one (.p 0 0 [1,16,16,1,1,1,1,1,1,16,16,1,1,1,1,1,1,1,1,1,1,1,1,1,1,1,1,1,1,1,1,1]),.no,.one (.o a0j)]++nos 38,[q_8]⟩)]⟩
def b4T:Hi:=⟨[((8,2),c1F),((9,2),c5f)],[(0,c1o)],[11,16,23,25],[],[]⟩
theorem e8G:Fn Q 168 f168 (codeOf f168):=by constructor <;> kernel_rfl
def b5k (N:Nat):List CE:=[c0Z N,c5Q N]
theorem c4l (N:Nat):AllP (CEok Q) (b5k N):=⟨d1S N,d5s N,trivial⟩
theorem c8k (N:Nat):AllP (fun e=>lookC (b5k N) e.2.id = some e.2) b4T.cs:=⟨rfl,rfl,trivial⟩
def a6p (N:Nat) (again:Fn' (Option Rs) [pD (.sl a0j),pD (.sl a0j),pI,pI,a0d]) (x0:List a0e) (x1:List a0e) (x2:Int) (x3:Int) (x4:a0b):Option Rs :=
 bi (decide (x3 < x2)) (
  gd (idx x3 (List.length x1)) <|
  bi (decide ((List.getD x1 x3.toNat a0e.z).2.2.2.2.2.1 > 0)) (
   bi ((w.i64 ((List.getD x1 x3.toNat a0e.z).2.2.2.2.2.1 - 1)) == 0) (
    bi ((List.getD x1 x3.toNat a0e.z).1) (
     on1 (b4z N ((List.getD x1 x3.toNat a0e.z).1,((List.getD x1 x3.toNat a0e.z).2.1,((List.getD x1 x3.toNat a0e.z).2.2.1,((List.getD x1 x3.toNat a0e.z).2.2.2.1,((List.getD x1 x3.toNat a0e.z).2.2.2.2.1,((w.i64 ((List.getD x1 x3.toNat a0e.z).2.2.2.2.2.1 - 1)),(List.getD x1 x3.toNat a0e.z).2.2.2.2.2.2)))))) x4)<|gg [a0d]<|fun (x5:a0b) =>
     again x0 x1 x2 (w.i64 (x3+1)) x5) <|
    on1 (b0b N ((List.getD x1 x3.toNat a0e.z).1,((List.getD x1 x3.toNat a0e.z).2.1,((List.getD x1 x3.toNat a0e.z).2.2.1,((List.getD x1 x3.toNat a0e.z).2.2.2.1,((List.getD x1 x3.toNat a0e.z).2.2.2.2.1,((w.i64 ((List.getD x1 x3.toNat a0e.z).2.2.2.2.2.1 - 1)),(List.getD x1 x3.toNat a0e.z).2.2.2.2.2.2)))))) x4)<|gg [a0d]<|fun (x6:a0b) =>
    again x0 x1 x2 (w.i64 (x3+1)) x6) <|
   gd (rm x0 [((List.getD x1 x3.toNat a0e.z).1,((List.getD x1 x3.toNat a0e.z).2.1,((List.getD x1 x3.toNat a0e.z).2.2.1,((List.getD x1 x3.toNat a0e.z).2.2.2.1,((List.getD x1 x3.toNat a0e.z).2.2.2.2.1,((w.i64 ((List.getD x1 x3.toNat a0e.z).2.2.2.2.2.1 - 1)),(List.getD x1 x3.toNat a0e.z).2.2.2.2.2.2))))))] 64) <|
   again (x0++[((List.getD x1 x3.toNat a0e.z).1,((List.getD x1 x3.toNat a0e.z).2.1,((List.getD x1 x3.toNat a0e.z).2.2.1,((List.getD x1 x3.toNat a0e.z).2.2.2.1,((List.getD x1 x3.toNat a0e.z).2.2.2.2.1,((w.i64 ((List.getD x1 x3.toNat a0e.z).2.2.2.2.2.1 - 1)),(List.getD x1 x3.toNat a0e.z).2.2.2.2.2.2))))))]) x1 x2 (w.i64 (x3+1)) x4) <|
  gd (rm x0 [(List.getD x1 x3.toNat a0e.z)] 64) <|
  again (x0++[(List.getD x1 x3.toNat a0e.z)]) x1 x2 (w.i64 (x3+1)) x4) <|
 some (1,(gD (.sl a0j)).dv x0 (a0c.dv x4 []))
def a2j (N:Nat):Nat→Fn' (Option Rs) [pD (.sl a0j),pD (.sl a0j),pI,pI,a0d]:=lpG (a6p N)
def c2a (N:Nat):LE:=(0,mkM [pD (.sl a0j),pD (.sl a0j),pI,pI,a0d] [(1,[pD (.sl a0j),a0d])] (a2j N N))
theorem d2R (N:Nat):LEok Q b4T (bodOf f168) f168.ntmps 1 (c2a N) :=
 loopG (hi:=b4T) (l:=b5k N) (t:=[]) (r:=a6p N) a0r hmix (c4l N) (c8k N) e8G trivial (ls:=c1o) (body:=bodyAt f168 0) (by kernel_rfl) (by kernel_rfl) fun A ys=>by kernel_rfl
def b7x (N:Nat) (x0:a0b):Option Rs :=
 onA 1 (a2j N N ([]:List a0e) x0.Table (len x0.Table) 0 x0)<|gg [pD (.sl a0j),a0d]<|fun (x1:List a0e) (x2:a0b) =>
 some (0,a0c.dv ({ x2 with Table:=x1 }:a0b) [])
def c6U (N:Nat):CE:=(c7v,mkF [a0d] [a0d] (b7x N))
theorem d7y (N:Nat):CEok Q (c6U N) :=
 fnG (hi:=b4T) (l:=b5k N) (t:=[c2a N]) a0r hmix (c4l N) (c8k N) e8G (by kernel_rfl) (by kernel_rfl) ⟨d2R N,trivial⟩ fun ys=>by kernel_rfl
def c0o:CS:=⟨199,270,⟨[.one (.d (.sl tI)),.one (.d tI),.one (.d tI)],[]⟩,[.one (.d tI)],true,[]⟩
def d7O:Hi:=⟨[],[],[10,14,17],[],[]⟩
theorem e9S:Fn Q 270 f270 (codeOf f270):=by constructor <;> kernel_rfl
def b0h (N:Nat) (x0:List Int) (x1:Int) (x2:Int):Option Rs :=
 bi ((len x0) == 0) (
  some (0,gI.dv 0 [])) <|
 bi (decide (x1 < 0)) (
  some (0,gI.dv 0 [])) <|
 bi (decide (x2 < 1)) (
  some (0,gI.dv 0 [])) <|
 gf (decide ((len x0) = 0)) <|
 gd (idx (Int.tmod x1 (len x0)) (List.length x0)) <|
 gf (decide (x2 = 0)) <|
 some (0,gI.dv (Int.tmod (bitAnd .i64 (List.getD x0 (Int.toNat (Int.tmod x1 (len x0))) 0) 1073741823) x2) [])
def c0x (N:Nat):CE:=(c0o,mkF [pD (.sl tI),pI,pI] [pI] (b0h N))
theorem c7k (N:Nat):CEok Q (c0x N) :=
 fnG (hi:=d7O) (l:=[]) (t:=[]) a0r hmix trivial trivial e9S (by kernel_rfl) (by kernel_rfl) trivial fun ys=>by kernel_rfl
def c4S:CS:=⟨200,238,⟨[.agg [.d (.sl tI),.d (.sl tI)],.one (.d tI),.one (.d tI)],[]⟩,[.one (.d tI)],true,[]⟩
def d5K:Hi:=⟨[((1,4),c0o)],[],[],[],[]⟩
theorem f0D:Fn Q 238 f238 (codeOf f238):=by constructor <;> kernel_rfl
def b8G (N:Nat) (x0:a0w) (x1:Int) (x2:Int):Option Rs :=
 on1 (b0h N x0.Picks x1 x2)<|gg [pI]<|fun (x3:Int) =>
 some (0,gI.dv x3 [])
def c4V (N:Nat):CE:=(c4S,mkF [a0F,pI,pI] [pI] (b8G N))
theorem d4y (N:Nat):CEok Q (c4V N) :=
 fnG (hi:=d5K) (l:=[c0x N]) (t:=[]) a0r hmix ⟨c7k N,trivial⟩ ⟨rfl,trivial⟩ f0D (by kernel_rfl) (by kernel_rfl) trivial fun ys=>by kernel_rfl
def c7H:CS:=⟨201,239,⟨[.agg [.d (.sl tI),.d (.sl tI)],.one (.d tI),.one (.d tI)],[]⟩,[.one (.d tI)],true,[]⟩
def d8i:Hi:=⟨[((1,4),c0o)],[],[],[],[]⟩
theorem f0k:Fn Q 239 f239 (codeOf f239):=by constructor <;> kernel_rfl
def b7n (N:Nat) (x0:a0w) (x1:Int) (x2:Int):Option Rs :=
 on1 (b0h N x0.Lats x1 x2)<|gg [pI]<|fun (x3:Int) =>
 some (0,gI.dv (w.i64 (1+x3)) [])
def c8G (N:Nat):CE:=(c7H,mkF [a0F,pI,pI] [pI] (b7n N))
theorem d7I (N:Nat):CEok Q (c8G N) :=
 fnG (hi:=d8i) (l:=[c0x N]) (t:=[]) a0r hmix ⟨c7k N,trivial⟩ ⟨rfl,trivial⟩ f0k (by kernel_rfl) (by kernel_rfl) trivial fun ys=>by kernel_rfl
def c4d:CS:=⟨202,237,⟨[.one (.d tI),.one (.d tI)],[]⟩,[.one (.d tI)],true,[]⟩
def d4q:Hi:=⟨[],[],[7,10],[],[]⟩
theorem f0E:Fn Q 237 f237 (codeOf f237):=by constructor <;> kernel_rfl
def b8s (N:Nat) (x0:Int) (x1:Int):Option Rs :=
 bi (decide (x0 < 0)) (
  some (0,gI.dv 0 [])) <|
 bi (decide (x1 < 1)) (
  some (0,gI.dv 0 [])) <|
 gf (decide ((4:Int) = (0:Int))) <|
 gf (decide (x1 = 0)) <|
 some (0,gI.dv (Int.tmod (w.i64 (Int.tdiv x0 4)) x1) [])
def c4f (N:Nat):CE:=(c4d,mkF [pI,pI] [pI] (b8s N))
theorem d3Q (N:Nat):CEok Q (c4f N) :=
 fnG (hi:=d4q) (l:=[]) (t:=[]) a0r hmix trivial trivial f0E (by kernel_rfl) (by kernel_rfl) trivial fun ys=>by kernel_rfl
def c1I:CS:=⟨203,169,⟨[.agg q_5,.agg [.d (.sl tI),.d (.sl tI)],.one (.p 0 0 [1,16,16,1,1,1,1,1,1,16,16,1,1,1,1,1,1,1,1,1,1,1,1,1,1,1,1,1,1,1,1,1]),.one (.d tI)],[q_1]⟩,[],false,[q_1]⟩
def b7u:LS:=⟨⟨[.no,.no,.one (.p 0 0 [1,16,16,1,1,1,1,1,1,16,16,1,1,1,1,1,1,1,1,1,1,1,1,1,1,1,1,1,1,1,1,1]),.one (.d tI),.one (.p 1 0 [1,1,1,1,1,1,1,1,1,1,1,1]),.one (.p 2 0 [1,1]),.no,.no,.one (.o tI)]++nos 6++[.one (.hd 0 23),.one (.d tI),.one (.d tI)]++nos 70,[q_1,q_5,[.d (.sl tI),.d (.sl tI)]]⟩,[(0,⟨nos 88,[q_1]⟩),(1,⟨[.no,.no,.one (.p 0 0 [1,16,16,1,1,1,1,1,1,16,16,1,1,1,1,1,1,1,1,1,1,1,1,1,1,1,1,1,1,1,1,1]),.no,.one (.p 1 0 [1,1,1,1,1,1,1,1,1,1,1,1]),.one (.p 2 0 [1,1]),.no,.no,.one (.o tI)]++nos 79,[q_1,q_5,[.d (.sl tI),.d (.sl tI)]]⟩)]⟩
def a9B:Hi:=⟨[((5,4),c4d),((13,7),c4S),((15,15),c7H)],[(0,b7u)],[18,28,31,34,40,44],[],[]⟩
theorem e8Q:Fn Q 169 f169 (codeOf f169):=by constructor <;> kernel_rfl
def a9P (N:Nat):List CE:=[c4f N,c4V N,c8G N]
theorem b9d (N:Nat):AllP (CEok Q) (a9P N):=⟨d3Q N,d4y N,d7I N,trivial⟩
theorem c0T (N:Nat):AllP (fun e=>lookC (a9P N) e.2.id = some e.2) a9B.cs:=⟨rfl,rfl,rfl,trivial⟩
def a2V (N:Nat) (again:Fn' (Option Rs) [pI,pD (.sl tI),pI,pI,a0d,a0l,a0F]) (x0:Int) (x1:List Int) (x2:Int) (x3:Int) (x4:a0b) (x5:a0f) (x6:a0w):Option Rs :=
 bi (decide (x3 < x2)) (
  gd (idx x3 (List.length x4.Table)) <|
  on1 (b8s N ((List.getD x4.Table x3.toNat a0e.z).2.2.1) x5.Banks)<|gg [pI]<|fun (x7:Int) =>
  bi (x7 != x0) (
   again x0 x1 x2 (w.i64 (x3+1)) x4 x5 x6) <|
  bi (decide ((List.getD x4.Table x3.toNat a0e.z).2.2.2.2.2.1 > 0)) (
   some (0,a0c.dv x4 [])) <|
  bi ((List.getD x4.Table x3.toNat a0e.z).2.2.2.2.2.1 == 0) (
   gd (rm x1 [x3] 8) <|
   again x0 (x1++[x3]) x2 (w.i64 (x3+1)) x4 x5 x6) <|
  again x0 x1 x2 (w.i64 (x3+1)) x4 x5 x6) <|
 some (1,(gD (.sl tI)).dv x1 (a0c.dv x4 (a0D.dv x5 (a1P.dv x6 []))))
def a1q (N:Nat):Nat→Fn' (Option Rs) [pI,pD (.sl tI),pI,pI,a0d,a0l,a0F]:=lpG (a2V N)
def b6R (N:Nat):LE:=(0,mkM [pI,pD (.sl tI),pI,pI,a0d,a0l,a0F] [(0,[a0d]),(1,[pD (.sl tI),a0d,a0l,a0F])] (a1q N N))
theorem c8l (N:Nat):LEok Q a9B (bodOf f169) f169.ntmps 1 (b6R N) :=
 loopG (hi:=a9B) (l:=a9P N) (t:=[]) (r:=a2V N) a0r hmix (b9d N) (c0T N) e8Q trivial (ls:=b7u) (body:=bodyAt f169 0) (by kernel_rfl) (by kernel_rfl) fun A ys=>by kernel_rfl
def a7K (N:Nat) (x0:a0f) (x1:a0w) (x2:Int) (x3:a0b):Option Rs :=
 onB 0 1 (a1q N N x2 ([]:List Int) (len x3.Table) 0 x3 x0 x1) (gg [a0d]<|fun (x4:a0b) =>
  some (0,a0c.dv x4 []))<|gg [pD (.sl tI),a0d,a0l,a0F]<|fun (x5:List Int) (x6:a0b) (x7:a0f) (x8:a0w) =>
 bi ((len x5) == 0) (
  some (0,a0c.dv x6 [])) <|
 bi (decide ((len x5) > 1)) (
  on1 (b8G N x8 x6.Picks (len x5))<|gg [pI]<|fun (x9:Int) =>
  gd (idx x9 (List.length x5)) <|
  on1 (b7n N x8 x6.Lats x7.Lat)<|gg [pI]<|fun (x10:Int) =>
  gd (idx (List.getD x5 x9.toNat 0) (List.length x6.Table)) <|
  some (0,a0c.dv ({ x6 with Table:=(List.set x6.Table (Int.toNat (List.getD x5 x9.toNat 0)) ((List.getD x6.Table (Int.toNat (List.getD x5 x9.toNat 0)) a0e.z).1,((List.getD x6.Table (Int.toNat (List.getD x5 x9.toNat 0)) a0e.z).2.1,((List.getD x6.Table (Int.toNat (List.getD x5 x9.toNat 0)) a0e.z).2.2.1,((List.getD x6.Table (Int.toNat (List.getD x5 x9.toNat 0)) a0e.z).2.2.2.1,((List.getD x6.Table (Int.toNat (List.getD x5 x9.toNat 0)) a0e.z).2.2.2.2.1,(x10,(List.getD x6.Table (Int.toNat (List.getD x5 x9.toNat 0)) a0e.z).2.2.2.2.2.2))))))),Lats:=(w.i64 (x6.Lats+1)),Picks:=(w.i64 (x6.Picks+1)) }:a0b) [])) <|
 gd (idx 0 (List.length x5)) <|
 on1 (b7n N x8 x6.Lats x7.Lat)<|gg [pI]<|fun (x11:Int) =>
 gd (idx (List.getD x5 0 0) (List.length x6.Table)) <|
 some (0,a0c.dv ({ x6 with Table:=(List.set x6.Table (Int.toNat (List.getD x5 0 0)) ((List.getD x6.Table (Int.toNat (List.getD x5 0 0)) a0e.z).1,((List.getD x6.Table (Int.toNat (List.getD x5 0 0)) a0e.z).2.1,((List.getD x6.Table (Int.toNat (List.getD x5 0 0)) a0e.z).2.2.1,((List.getD x6.Table (Int.toNat (List.getD x5 0 0)) a0e.z).2.2.2.1,((List.getD x6.Table (Int.toNat (List.getD x5 0 0)) a0e.z).2.2.2.2.1,(x11,(List.getD x6.Table (Int.toNat (List.getD x5 0 0)) a0e.z).2.2.2.2.2.2))))))),Lats:=(w.i64 (x6.Lats+1)) }:a0b) [])
def c1L (N:Nat):CE:=(c1I,mkF [a0l,a0F,pI,a0d] [a0d] (a7K N))
theorem d2X (N:Nat):CEok Q (c1L N) :=
 fnG (hi:=a9B) (l:=a9P N) (t:=[b6R N]) a0r hmix (b9d N) (c0T N) e8Q (by kernel_rfl) (by kernel_rfl) ⟨c8l N,trivial⟩ fun ys=>by kernel_rfl
def c5c:CS:=⟨204,109,⟨[.agg q_5,.agg [.d (.sl tI),.d (.sl tI)],.one (.p 0 0 [1,16,16,1,1,1,1,1,1,16,16,1,1,1,1,1,1,1,1,1,1,1,1,1,1,1,1,1,1,1,1,1])],[q_1]⟩,[],false,[q_1]⟩
def b9K:LS:=⟨⟨[.no,.no,.one (.p 0 0 [1,16,16,1,1,1,1,1,1,16,16,1,1,1,1,1,1,1,1,1,1,1,1,1,1,1,1,1,1,1,1,1]),.one (.p 1 0 [1,1,1,1,1,1,1,1,1,1,1,1]),.one (.p 2 0 [1,1])]++nos 23++[.one (.d tI),.one (.d tI)]++nos 8,[q_1,q_5,[.d (.sl tI),.d (.sl tI)]]⟩,[(1,⟨nos 38,[q_1]⟩)]⟩
def b1K:Hi:=⟨[((2,1),c7v),((6,4),c1I)],[(0,b9K)],[10,15,20,24,30],[],[]⟩
theorem e8D:Fn Q 109 f109 (codeOf f109):=by constructor <;> kernel_rfl
def b1Q (N:Nat):List CE:=[c6U N,c1L N]
theorem c0R (N:Nat):AllP (CEok Q) (b1Q N):=⟨d7y N,d2X N,trivial⟩
theorem c5I (N:Nat):AllP (fun e=>lookC (b1Q N) e.2.id = some e.2) b1K.cs:=⟨rfl,rfl,trivial⟩
def a5a (N:Nat) (again:Fn' (Option Rs) [pI,pI,a0d,a0l,a0F]) (x0:Int) (x1:Int) (x2:a0b) (x3:a0f) (x4:a0w):Option Rs :=
 bi (decide (x1 < x0)) (
  on1 (a7K N x3 x4 x1 x2)<|gg [a0d]<|fun (x5:a0b) =>
  again x0 (w.i64 (x1+1)) x5 x3 x4) <|
 some (1,a0c.dv x2 [])
def a2N (N:Nat):Nat→Fn' (Option Rs) [pI,pI,a0d,a0l,a0F]:=lpG (a5a N)
def b9L (N:Nat):LE:=(0,mkM [pI,pI,a0d,a0l,a0F] [(1,[a0d])] (a2N N N))
theorem c9P (N:Nat):LEok Q b1K (bodOf f109) f109.ntmps 1 (b9L N) :=
 loopG (hi:=b1K) (l:=b1Q N) (t:=[]) (r:=a5a N) a0r hmix (c0R N) (c5I N) e8D trivial (ls:=b9K) (body:=bodyAt f109 0) (by kernel_rfl) (by kernel_rfl) fun A ys=>by kernel_rfl
def a9Y (N:Nat) (x0:a0f) (x1:a0w) (x2:a0b):Option Rs :=
 bi (decide (x0.Banks < 1)) (
  some (0,a0c.dv x2 [])) <|
 bi (decide (x0.Banks > 16)) (
  some (0,a0c.dv x2 [])) <|
 bi (decide (x0.Lat < 1)) (
  some (0,a0c.dv x2 [])) <|
 bi (decide (x0.Lat > 1000)) (
  some (0,a0c.dv x2 [])) <|
 on1 (b7x N x2)<|gg [a0d]<|fun (x3:a0b) =>
 onA 1 (a2N N N x0.Banks 0 x3 x0 x1)<|gg [a0d]<|fun (x4:a0b) =>
 some (0,a0c.dv x4 [])
def c5k (N:Nat):CE:=(c5c,mkF [a0l,a0F,a0d] [a0d] (a9Y N))
theorem d6A (N:Nat):CEok Q (c5k N) :=
 fnG (hi:=b1K) (l:=b1Q N) (t:=[b9L N]) a0r hmix (c0R N) (c5I N) e8D (by kernel_rfl) (by kernel_rfl) ⟨c9P N,trivial⟩ fun ys=>by kernel_rfl
def b9m:CS:=⟨205,240,⟨[.agg [.d tB,.d tI,.d tI,.d tI,.d tW,.d tI,.d tI,.d tI],.one (.p 0 0 [1,1,1,1,1])],[[.d tI,.d tI,.d tI,.d tB,.d tW]]⟩,[.one (.d tB)],true,[[.d tI,.d tI,.d tI,.d tB,.d tW]]⟩
def c9K:Hi:=⟨[((1,12),b0D)],[],[7],[],[]⟩
theorem f1x:Fn Q 240 f240 (codeOf f240):=by constructor <;> kernel_rfl
def a6s (N:Nat) (x0:a0e) (x1:a0a):Option Rs :=
 bi (!x0.1) (
  on1 (a7c N x0.2.2.1 x0.2.2.2.1 x1.1 x1.2.1)<|gg [pB]<|fun (x2:Bool) =>
  some (0,gB.dv x2 (a0M.dv x1 []))) <|
 some (0,gB.dv false (a0M.dv x1 []))
def b9v (N:Nat):CE:=(b9m,mkF [a3C,a0B] [pB,a0B] (a6s N))
theorem c9L (N:Nat):CEok Q (b9v N) :=
 fnG (hi:=c9K) (l:=[b0j N]) (t:=[]) a0r hmix ⟨b7v N,trivial⟩ ⟨rfl,trivial⟩ f1x (by kernel_rfl) (by kernel_rfl) trivial fun ys=>by kernel_rfl
def a4k:CS:=⟨206,261,⟨[.one (.d (.sl a0j)),.one (.f 240 [⟨0,0,[1,1,1,1,1]⟩])],[[.d tI,.d tI,.d tI,.d tB,.d tW]]⟩,[.one (.d tI)],true,[[.d tI,.d tI,.d tI,.d tB,.d tW]]⟩
def a3z:LS:=⟨⟨[.one (.d (.sl a0j)),.one (.f 240 [⟨0,0,[1,1,1,1,1]⟩]),.no,.no,.no,.no,.no,.one (.d tI),.one (.d tI)]++nos 10,[[.d tI,.d tI,.d tI,.d tB,.d tW]]⟩,[(0,⟨[.no,.no,.no,.no,.one (.d tI)]++nos 14,[[.d tI,.d tI,.d tI,.d tB,.d tW]]⟩),(1,⟨nos 19,[[.d tI,.d tI,.d tI,.d tB,.d tW]]⟩)]⟩
def a1x:Hi:=⟨[((4,5),b9m)],[(0,a3z)],[9,16],[],[]⟩
def a1y (N:Nat):List CE:=[b9v N]
theorem a3L (N:Nat):AllP (CEok Q) (a1y N):=⟨c9L N,trivial⟩
theorem a4d (N:Nat):AllP (fun e=>lookC (a1y N) e.2.id = some e.2) a1x.cs:=⟨rfl,trivial⟩
def a0N (N:Nat) (again:Fn' (Option Rs) [pD (.sl a0j),pI,pI,a0B]) (x0:List a0e) (x1:Int) (x2:Int) (x3:a0a):Option Rs :=
 bi (decide (x2 < x1)) (
  gd (idx x2 (List.length x0)) <|
  on1 (a6s N (List.getD x0 x2.toNat a0e.z) x3)<|gg [pB,a0B]<|fun (x4:Bool) (x5:a0a) =>
  bi x4 (
   some (0,gI.dv x2 (a0M.dv x5 []))) <|
  again x0 x1 (w.i64 (x2+1)) x5) <|
 some (1,a0M.dv x3 [])
def a0A (N:Nat):Nat→Fn' (Option Rs) [pD (.sl a0j),pI,pI,a0B]:=lpG (a0N N)
def a3x (N:Nat):LE:=(0,mkM [pD (.sl a0j),pI,pI,a0B] [(0,[pI,a0B]),(1,[a0B])] (a0A N N))
theorem a8L (N:Nat):LEok Q a1x (bodOf f261) f261.ntmps 1 (a3x N) :=
 loopG (hi:=a1x) (l:=a1y N) (t:=[]) (r:=a0N N) a0r hmix (a3L N) (a4d N) e5j trivial (ls:=a3z) (body:=bodyAt f261 0) (by kernel_rfl) (by kernel_rfl) fun A ys=>by kernel_rfl
def a1F (N:Nat) (x0:List a0e) (x1:a0a):Option Rs :=
 onB 0 1 (a0A N N x0 (len x0) 0 x1) (gg [pI,a0B]<|fun (x2:Int) (x3:a0a) =>
  some (0,gI.dv x2 (a0M.dv x3 [])))<|gg [a0B]<|fun (x4:a0a) =>
 some (0,gI.dv (-1:Int) (a0M.dv x4 []))
def a4i (N:Nat):CE:=(a4k,mkF [pD (.sl a0j),a0B] [pI,a0B] (a1F N))
theorem a9x (N:Nat):CEok Q (a4i N) :=
 fnG (hi:=a1x) (l:=a1y N) (t:=[a3x N]) a0r hmix (a3L N) (a4d N) e5j (by kernel_rfl) (by kernel_rfl) ⟨a8L N,trivial⟩ fun ys=>by kernel_rfl
def a3k:CS:=⟨207,217,⟨[.one (.d (.sl a0j)),.one (.f 240 [⟨0,0,[1,1,1,1,1]⟩])],[[.d tI,.d tI,.d tI,.d tB,.d tW]]⟩,[.one (.d tB)],true,[[.d tI,.d tI,.d tI,.d tB,.d tW]]⟩
def a7T:Hi:=⟨[((1,2),a4k)],[],[],[],[]⟩
def a0U (N:Nat) (x0:List a0e) (x1:a0a):Option Rs :=
 on1 (a1F N x0 x1)<|gg [pI,a0B]<|fun (x2:Int) (x3:a0a) =>
 some (0,gB.dv (decide (x2≥0)) (a0M.dv x3 []))
def a3q (N:Nat):CE:=(a3k,mkF [pD (.sl a0j),a0B] [pB,a0B] (a0U N))
theorem a7N (N:Nat):CEok Q (a3q N) :=
 fnG (hi:=a7T) (l:=[a4i N]) (t:=[]) a0r hmix ⟨a9x N,trivial⟩ ⟨rfl,trivial⟩ e8o (by kernel_rfl) (by kernel_rfl) trivial fun ys=>by kernel_rfl
def c4m:CS:=⟨208,170,⟨[.agg q_5,.one (.r (.pair tI (.pair (.pair (.ar 16 tW) (.pair (.ar 16 tI) (.pair (.pair tI (.pair tI (.pair tI .unit))) (.pair tI (.pair tB (.pair tI .unit)))))) (.pair (.pair (.ar 16 tW) (.pair (.ar 16 tI) (.pair (.pair tI (.pair tI (.pair tI .unit))) (.pair tI (.pair tB (.pair tI .unit)))))) (.pair (.sl a0k) (.pair (.sl tW) (.pair (.sl tW) (.pair (.sl tB) (.pair (.sl tB) (.pair (.sl a0t) (.pair (.sl a0j) (.pair (.sl tU) (.pair (.sl a0Q) (.pair (.pair tI (.pair tI (.pair tI .unit))) (.pair tI (.pair tI (.pair tI .unit)))))))))))))))))],[]⟩,[.one (.d tB)],true,[]⟩
def d6n:Hi:=⟨[((6,5),a3k)],[],[12,21,29,38,51,60],[],[]⟩
theorem f1L:Fn Q 170 f170 (codeOf f170):=by constructor <;> kernel_rfl
def b0a (N:Nat) (x0:a0f) (x1:a0b):Option Rs :=
 bi ((len x1.Saq) == 0) (
  some (0,gB.dv false [])) <|
 gd (idx 0 (List.length x1.Saq)) <|
 bi ((List.getD x1.Saq 0 a0a.z).2.2.2.1) (
  some (0,gB.dv false [])) <|
 bi ((len x1.Sdq) == 0) (
  some (0,gB.dv false [])) <|
 bi (decide ((len x1.Table)≥x0.Flight)) (
  some (0,gB.dv false [])) <|
 gd (idx 0 (List.length x1.Saq)) <|
 bi (x1.Trap.Kind != 0) (
  bi (decide ((List.getD x1.Saq 0 a0a.z).2.2.1≥x1.Trap.Step)) (
   some (0,gB.dv false [])) <|
  on1 (a0U N x1.Table (List.getD x1.Saq 0 a0a.z))<|gg [pB,a0B]<|fun (x2:Bool) (x3:a0a) =>
  some (0,gB.dv (!x2) [])) <|
 on1 (a0U N x1.Table (List.getD x1.Saq 0 a0a.z))<|gg [pB,a0B]<|fun (x4:Bool) (x5:a0a) =>
 some (0,gB.dv (!x4) [])
def c4s (N:Nat):CE:=(c4m,mkF [a0l,a0W] [pB] (b0a N))
theorem d6C (N:Nat):CEok Q (c4s N) :=
 fnG (hi:=d6n) (l:=[a3q N]) (t:=[]) a0r hmix ⟨a7N N,trivial⟩ ⟨rfl,trivial⟩ f1L (by kernel_rfl) (by kernel_rfl) trivial fun ys=>by kernel_rfl
def d1c:CS:=⟨209,171,⟨[.one (.d tW),.one (.d tI)],[]⟩,[.one (.d tW)],true,[]⟩
def e1y:Hi:=⟨[],[],[6,10,14],[],[]⟩
theorem e9K:Fn Q 171 f171 (codeOf f171):=by constructor <;> kernel_rfl
def b1j (N:Nat) (x0:Int) (x1:Int):Option Rs :=
 bi (x1 == 1) (
  some (0,gW.dv (bitAnd .u32 x0 255) [])) <|
 bi (x1 == 2) (
  some (0,gW.dv (bitAnd .u32 x0 65535) [])) <|
 bi (x1 == 4) (
  some (0,gW.dv x0 [])) <|
 some (0,gW.dv 0 [])
def d1H (N:Nat):CE:=(d1c,mkF [pW,pI] [pW] (b1j N))
theorem e0O (N:Nat):CEok Q (d1H N) :=
 fnG (hi:=e1y) (l:=[]) (t:=[]) a0r hmix trivial trivial e9K (by kernel_rfl) (by kernel_rfl) trivial fun ys=>by kernel_rfl
def c7K:CS:=⟨210,172,⟨[.one (.d tI)],[]⟩,[.one (.d tI)],true,[]⟩
def d8g:Hi:=⟨[],[],[4,6],[],[]⟩
theorem f1y:Fn Q 172 f172 (codeOf f172):=by constructor <;> kernel_rfl
def b3i (N:Nat) (x0:Int):Option Rs :=
 bi (x0 == 1) (
  some (0,gI.dv 33 [])) <|
 bi (x0 == 2) (
  some (0,gI.dv 32 [])) <|
 some (0,gI.dv 31 [])
def c7L (N:Nat):CE:=(c7K,mkF [pI] [pI] (b3i N))
theorem d8j (N:Nat):CEok Q (c7L N) :=
 fnG (hi:=d8g) (l:=[]) (t:=[]) a0r hmix trivial trivial f1y (by kernel_rfl) (by kernel_rfl) trivial fun ys=>by kernel_rfl
def c1V:CS:=⟨211,110,⟨[.agg q_5,.one (.p 0 0 [1,16,16,1,1,1,1,1,1,16,16,1,1,1,1,1,1,1,1,1,1,1,1,1,1,1,1,1,1,1,1,1])],[q_1]⟩,[],false,[q_1]⟩
def d2u:Hi:=⟨[((1,2),c4m),((3,12),d1c),((5,9),c7K)],[],[8],[],[]⟩
theorem e9x:Fn Q 110 f110 (codeOf f110):=by constructor <;> kernel_rfl
def a7V (N:Nat) (x0:a0f) (x1:a0b):Option Rs :=
 on1 (b0a N x0 x1)<|gg [pB]<|fun (x2:Bool) =>
 bi (!x2) (
  some (0,a0c.dv x1 [])) <|
 gd (idx 0 (List.length x1.Saq)) <|
 gd (idx 0 (List.length x1.Sdq)) <|
 on1 (b1j N (List.getD x1.Sdq 0 0) ((List.getD x1.Saq 0 a0a.z).2.1))<|gg [pW]<|fun (x3:Int) =>
 gd (sb 1 (len x1.Sdq)) <|
 on1 (b3i N ((List.getD (List.set (List.set x1.Saq 0 ((List.getD x1.Saq 0 a0a.z).1,((List.getD x1.Saq 0 a0a.z).2.1,((List.getD x1.Saq 0 a0a.z).2.2.1,(true,(List.getD x1.Saq 0 a0a.z).2.2.2.2))))) 0 ((List.getD (List.set x1.Saq 0 ((List.getD x1.Saq 0 a0a.z).1,((List.getD x1.Saq 0 a0a.z).2.1,((List.getD x1.Saq 0 a0a.z).2.2.1,(true,(List.getD x1.Saq 0 a0a.z).2.2.2.2))))) 0 a0a.z).1,((List.getD (List.set x1.Saq 0 ((List.getD x1.Saq 0 a0a.z).1,((List.getD x1.Saq 0 a0a.z).2.1,((List.getD x1.Saq 0 a0a.z).2.2.1,(true,(List.getD x1.Saq 0 a0a.z).2.2.2.2))))) 0 a0a.z).2.1,((List.getD (List.set x1.Saq 0 ((List.getD x1.Saq 0 a0a.z).1,((List.getD x1.Saq 0 a0a.z).2.1,((List.getD x1.Saq 0 a0a.z).2.2.1,(true,(List.getD x1.Saq 0 a0a.z).2.2.2.2))))) 0 a0a.z).2.2.1,((List.getD (List.set x1.Saq 0 ((List.getD x1.Saq 0 a0a.z).1,((List.getD x1.Saq 0 a0a.z).2.1,((List.getD x1.Saq 0 a0a.z).2.2.1,(true,(List.getD x1.Saq 0 a0a.z).2.2.2.2))))) 0 a0a.z).2.2.2.1,(x3,())))))) 0 a0a.z).2.1))<|gg [pI]<|fun (x4:Int) =>
 gd (rm x1.Table [(true,(x4,((List.getD (List.set (List.set x1.Saq 0 ((List.getD x1.Saq 0 a0a.z).1,((List.getD x1.Saq 0 a0a.z).2.1,((List.getD x1.Saq 0 a0a.z).2.2.1,(true,(List.getD x1.Saq 0 a0a.z).2.2.2.2))))) 0 ((List.getD (List.set x1.Saq 0 ((List.getD x1.Saq 0 a0a.z).1,((List.getD x1.Saq 0 a0a.z).2.1,((List.getD x1.Saq 0 a0a.z).2.2.1,(true,(List.getD x1.Saq 0 a0a.z).2.2.2.2))))) 0 a0a.z).1,((List.getD (List.set x1.Saq 0 ((List.getD x1.Saq 0 a0a.z).1,((List.getD x1.Saq 0 a0a.z).2.1,((List.getD x1.Saq 0 a0a.z).2.2.1,(true,(List.getD x1.Saq 0 a0a.z).2.2.2.2))))) 0 a0a.z).2.1,((List.getD (List.set x1.Saq 0 ((List.getD x1.Saq 0 a0a.z).1,((List.getD x1.Saq 0 a0a.z).2.1,((List.getD x1.Saq 0 a0a.z).2.2.1,(true,(List.getD x1.Saq 0 a0a.z).2.2.2.2))))) 0 a0a.z).2.2.1,((List.getD (List.set x1.Saq 0 ((List.getD x1.Saq 0 a0a.z).1,((List.getD x1.Saq 0 a0a.z).2.1,((List.getD x1.Saq 0 a0a.z).2.2.1,(true,(List.getD x1.Saq 0 a0a.z).2.2.2.2))))) 0 a0a.z).2.2.2.1,(x3,())))))) 0 a0a.z).1,((List.getD (List.set (List.set x1.Saq 0 ((List.getD x1.Saq 0 a0a.z).1,((List.getD x1.Saq 0 a0a.z).2.1,((List.getD x1.Saq 0 a0a.z).2.2.1,(true,(List.getD x1.Saq 0 a0a.z).2.2.2.2))))) 0 ((List.getD (List.set x1.Saq 0 ((List.getD x1.Saq 0 a0a.z).1,((List.getD x1.Saq 0 a0a.z).2.1,((List.getD x1.Saq 0 a0a.z).2.2.1,(true,(List.getD x1.Saq 0 a0a.z).2.2.2.2))))) 0 a0a.z).1,((List.getD (List.set x1.Saq 0 ((List.getD x1.Saq 0 a0a.z).1,((List.getD x1.Saq 0 a0a.z).2.1,((List.getD x1.Saq 0 a0a.z).2.2.1,(true,(List.getD x1.Saq 0 a0a.z).2.2.2.2))))) 0 a0a.z).2.1,((List.getD (List.set x1.Saq 0 ((List.getD x1.Saq 0 a0a.z).1,((List.getD x1.Saq 0 a0a.z).2.1,((List.getD x1.Saq 0 a0a.z).2.2.1,(true,(List.getD x1.Saq 0 a0a.z).2.2.2.2))))) 0 a0a.z).2.2.1,((List.getD (List.set x1.Saq 0 ((List.getD x1.Saq 0 a0a.z).1,((List.getD x1.Saq 0 a0a.z).2.1,((List.getD x1.Saq 0 a0a.z).2.2.1,(true,(List.getD x1.Saq 0 a0a.z).2.2.2.2))))) 0 a0a.z).2.2.2.1,(x3,())))))) 0 a0a.z).2.1,((List.getD (List.set (List.set x1.Saq 0 ((List.getD x1.Saq 0 a0a.z).1,((List.getD x1.Saq 0 a0a.z).2.1,((List.getD x1.Saq 0 a0a.z).2.2.1,(true,(List.getD x1.Saq 0 a0a.z).2.2.2.2))))) 0 ((List.getD (List.set x1.Saq 0 ((List.getD x1.Saq 0 a0a.z).1,((List.getD x1.Saq 0 a0a.z).2.1,((List.getD x1.Saq 0 a0a.z).2.2.1,(true,(List.getD x1.Saq 0 a0a.z).2.2.2.2))))) 0 a0a.z).1,((List.getD (List.set x1.Saq 0 ((List.getD x1.Saq 0 a0a.z).1,((List.getD x1.Saq 0 a0a.z).2.1,((List.getD x1.Saq 0 a0a.z).2.2.1,(true,(List.getD x1.Saq 0 a0a.z).2.2.2.2))))) 0 a0a.z).2.1,((List.getD (List.set x1.Saq 0 ((List.getD x1.Saq 0 a0a.z).1,((List.getD x1.Saq 0 a0a.z).2.1,((List.getD x1.Saq 0 a0a.z).2.2.1,(true,(List.getD x1.Saq 0 a0a.z).2.2.2.2))))) 0 a0a.z).2.2.1,((List.getD (List.set x1.Saq 0 ((List.getD x1.Saq 0 a0a.z).1,((List.getD x1.Saq 0 a0a.z).2.1,((List.getD x1.Saq 0 a0a.z).2.2.1,(true,(List.getD x1.Saq 0 a0a.z).2.2.2.2))))) 0 a0a.z).2.2.2.1,(x3,())))))) 0 a0a.z).2.2.2.2.1,a0K.z)))))] 64) <|
 some (0,a0c.dv ({ x1 with Sdq:=(List.drop 1 x1.Sdq),Saq:=(List.set (List.set x1.Saq 0 ((List.getD x1.Saq 0 a0a.z).1,((List.getD x1.Saq 0 a0a.z).2.1,((List.getD x1.Saq 0 a0a.z).2.2.1,(true,(List.getD x1.Saq 0 a0a.z).2.2.2.2))))) 0 ((List.getD (List.set x1.Saq 0 ((List.getD x1.Saq 0 a0a.z).1,((List.getD x1.Saq 0 a0a.z).2.1,((List.getD x1.Saq 0 a0a.z).2.2.1,(true,(List.getD x1.Saq 0 a0a.z).2.2.2.2))))) 0 a0a.z).1,((List.getD (List.set x1.Saq 0 ((List.getD x1.Saq 0 a0a.z).1,((List.getD x1.Saq 0 a0a.z).2.1,((List.getD x1.Saq 0 a0a.z).2.2.1,(true,(List.getD x1.Saq 0 a0a.z).2.2.2.2))))) 0 a0a.z).2.1,((List.getD (List.set x1.Saq 0 ((List.getD x1.Saq 0 a0a.z).1,((List.getD x1.Saq 0 a0a.z).2.1,((List.getD x1.Saq 0 a0a.z).2.2.1,(true,(List.getD x1.Saq 0 a0a.z).2.2.2.2))))) 0 a0a.z).2.2.1,((List.getD (List.set x1.Saq 0 ((List.getD x1.Saq 0 a0a.z).1,((List.getD x1.Saq 0 a0a.z).2.1,((List.getD x1.Saq 0 a0a.z).2.2.1,(true,(List.getD x1.Saq 0 a0a.z).2.2.2.2))))) 0 a0a.z).2.2.2.1,(x3,())))))),Table:=(x1.Table++[(true,(x4,((List.getD (List.set (List.set x1.Saq 0 ((List.getD x1.Saq 0 a0a.z).1,((List.getD x1.Saq 0 a0a.z).2.1,((List.getD x1.Saq 0 a0a.z).2.2.1,(true,(List.getD x1.Saq 0 a0a.z).2.2.2.2))))) 0 ((List.getD (List.set x1.Saq 0 ((List.getD x1.Saq 0 a0a.z).1,((List.getD x1.Saq 0 a0a.z).2.1,((List.getD x1.Saq 0 a0a.z).2.2.1,(true,(List.getD x1.Saq 0 a0a.z).2.2.2.2))))) 0 a0a.z).1,((List.getD (List.set x1.Saq 0 ((List.getD x1.Saq 0 a0a.z).1,((List.getD x1.Saq 0 a0a.z).2.1,((List.getD x1.Saq 0 a0a.z).2.2.1,(true,(List.getD x1.Saq 0 a0a.z).2.2.2.2))))) 0 a0a.z).2.1,((List.getD (List.set x1.Saq 0 ((List.getD x1.Saq 0 a0a.z).1,((List.getD x1.Saq 0 a0a.z).2.1,((List.getD x1.Saq 0 a0a.z).2.2.1,(true,(List.getD x1.Saq 0 a0a.z).2.2.2.2))))) 0 a0a.z).2.2.1,((List.getD (List.set x1.Saq 0 ((List.getD x1.Saq 0 a0a.z).1,((List.getD x1.Saq 0 a0a.z).2.1,((List.getD x1.Saq 0 a0a.z).2.2.1,(true,(List.getD x1.Saq 0 a0a.z).2.2.2.2))))) 0 a0a.z).2.2.2.1,(x3,())))))) 0 a0a.z).1,((List.getD (List.set (List.set x1.Saq 0 ((List.getD x1.Saq 0 a0a.z).1,((List.getD x1.Saq 0 a0a.z).2.1,((List.getD x1.Saq 0 a0a.z).2.2.1,(true,(List.getD x1.Saq 0 a0a.z).2.2.2.2))))) 0 ((List.getD (List.set x1.Saq 0 ((List.getD x1.Saq 0 a0a.z).1,((List.getD x1.Saq 0 a0a.z).2.1,((List.getD x1.Saq 0 a0a.z).2.2.1,(true,(List.getD x1.Saq 0 a0a.z).2.2.2.2))))) 0 a0a.z).1,((List.getD (List.set x1.Saq 0 ((List.getD x1.Saq 0 a0a.z).1,((List.getD x1.Saq 0 a0a.z).2.1,((List.getD x1.Saq 0 a0a.z).2.2.1,(true,(List.getD x1.Saq 0 a0a.z).2.2.2.2))))) 0 a0a.z).2.1,((List.getD (List.set x1.Saq 0 ((List.getD x1.Saq 0 a0a.z).1,((List.getD x1.Saq 0 a0a.z).2.1,((List.getD x1.Saq 0 a0a.z).2.2.1,(true,(List.getD x1.Saq 0 a0a.z).2.2.2.2))))) 0 a0a.z).2.2.1,((List.getD (List.set x1.Saq 0 ((List.getD x1.Saq 0 a0a.z).1,((List.getD x1.Saq 0 a0a.z).2.1,((List.getD x1.Saq 0 a0a.z).2.2.1,(true,(List.getD x1.Saq 0 a0a.z).2.2.2.2))))) 0 a0a.z).2.2.2.1,(x3,())))))) 0 a0a.z).2.1,((List.getD (List.set (List.set x1.Saq 0 ((List.getD x1.Saq 0 a0a.z).1,((List.getD x1.Saq 0 a0a.z).2.1,((List.getD x1.Saq 0 a0a.z).2.2.1,(true,(List.getD x1.Saq 0 a0a.z).2.2.2.2))))) 0 ((List.getD (List.set x1.Saq 0 ((List.getD x1.Saq 0 a0a.z).1,((List.getD x1.Saq 0 a0a.z).2.1,((List.getD x1.Saq 0 a0a.z).2.2.1,(true,(List.getD x1.Saq 0 a0a.z).2.2.2.2))))) 0 a0a.z).1,((List.getD (List.set x1.Saq 0 ((List.getD x1.Saq 0 a0a.z).1,((List.getD x1.Saq 0 a0a.z).2.1,((List.getD x1.Saq 0 a0a.z).2.2.1,(true,(List.getD x1.Saq 0 a0a.z).2.2.2.2))))) 0 a0a.z).2.1,((List.getD (List.set x1.Saq 0 ((List.getD x1.Saq 0 a0a.z).1,((List.getD x1.Saq 0 a0a.z).2.1,((List.getD x1.Saq 0 a0a.z).2.2.1,(true,(List.getD x1.Saq 0 a0a.z).2.2.2.2))))) 0 a0a.z).2.2.1,((List.getD (List.set x1.Saq 0 ((List.getD x1.Saq 0 a0a.z).1,((List.getD x1.Saq 0 a0a.z).2.1,((List.getD x1.Saq 0 a0a.z).2.2.1,(true,(List.getD x1.Saq 0 a0a.z).2.2.2.2))))) 0 a0a.z).2.2.2.1,(x3,())))))) 0 a0a.z).2.2.2.2.1,a0K.z)))))]) }:a0b) [])
def c2k (N:Nat):CE:=(c1V,mkF [a0l,a0d] [a0d] (a7V N))
theorem d2z (N:Nat):CEok Q (c2k N) :=
 fnG (hi:=d2u) (l:=[c4s N,d1H N,c7L N]) (t:=[]) a0r hmix ⟨d6C N,e0O N,d8j N,trivial⟩ ⟨rfl,rfl,rfl,trivial⟩ e9x (by kernel_rfl) (by kernel_rfl) trivial fun ys=>by kernel_rfl
def a7h (N:Nat) (x0:a0f) (x1:a0g) (x2:a0w) (x3:a0b):Option Rs :=
 on1 (a4o N x0 x1 x3)<|gg [pB]<|fun (x4:Bool) =>
 on1 (b4K N x3)<|gg [a0d]<|fun (x5:a0b) =>
 bi (!x4) (
  some (0,a0c.dv x5 [])) <|
 on1 (a9Y N x0 x2 x5)<|gg [a0d]<|fun (x6:a0b) =>
 on1 (a7V N x0 x6)<|gg [a0d]<|fun (x7:a0b) =>
 on1 (a4o N x0 x1 x7)<|gg [pB]<|fun (x8:Bool) =>
 bi x8 (
  on1 (b8D N x0 x1 x7)<|gg [a0d]<|fun (x9:a0b) =>
  on1 (a4o N x0 x1 x9)<|gg [pB]<|fun (x10:Bool) =>
  bi x10 (
   on1 (b3K N x0 x1 x9)<|gg [a0d]<|fun (x11:a0b) =>
   some (0,a0c.dv ({ x11 with Cycle:=(w.i64 (x11.Cycle+1)) }:a0b) [])) <|
  some (0,a0c.dv ({ x9 with Cycle:=(w.i64 (x9.Cycle+1)) }:a0b) [])) <|
 on1 (a4o N x0 x1 x7)<|gg [pB]<|fun (x12:Bool) =>
 bi x12 (
  on1 (b3K N x0 x1 x7)<|gg [a0d]<|fun (x13:a0b) =>
  some (0,a0c.dv ({ x13 with Cycle:=(w.i64 (x13.Cycle+1)) }:a0b) [])) <|
 some (0,a0c.dv ({ x7 with Cycle:=(w.i64 (x7.Cycle+1)) }:a0b) [])
def b5N:CS:=⟨213,183,⟨[.agg [.d (.sl a0n),.d (.ar 16 tI)],.one (.r (.pair tI (.pair (.pair (.ar 16 tW) (.pair (.ar 16 tI) (.pair (.pair tI (.pair tI (.pair tI .unit))) (.pair tI (.pair tB (.pair tI .unit)))))) (.pair (.pair (.ar 16 tW) (.pair (.ar 16 tI) (.pair (.pair tI (.pair tI (.pair tI .unit))) (.pair tI (.pair tB (.pair tI .unit)))))) (.pair (.sl a0k) (.pair (.sl tW) (.pair (.sl tW) (.pair (.sl tB) (.pair (.sl tB) (.pair (.sl a0t) (.pair (.sl a0j) (.pair (.sl tU) (.pair (.sl a0Q) (.pair (.pair tI (.pair tI (.pair tI .unit))) (.pair tI (.pair tI (.pair tI .unit))))))))))))))))),.one (.r (.pair (.ar 16 tW) (.pair (.ar 16 tI) (.pair (.pair tI (.pair tI (.pair tI .unit))) (.pair tI (.pair tB (.pair tI .unit))))))),.one (.d tB)],[]⟩,[.one (.d tB)],true,[]⟩
def d5q:Hi:=⟨[((1,6),a6i),((2,7),a7g)],[],[27],[],[]⟩
theorem f1D:Fn Q 183 f183 (codeOf f183):=by constructor <;> kernel_rfl
def b3l (N:Nat) (x0:a0g) (x1:a0b) (x2:a0v) (x3:Bool):Option Rs :=
 on1 (a6o N x0 x3 x2.Pos)<|gg [a0E,pI,pB]<|fun (x4:a0h) (x5:Int) (x6:Bool) =>
 bi x2.Halted (
  some (0,gB.dv true [])) <|
 on1 (a2B N x1 x5)<|gg [pB]<|fun (x7:Bool) =>
 some (0,gB.dv x7 [])
def c4o (N:Nat):CE:=(b5N,mkF [a0m,a0W,c8H,pB] [pB] (b3l N))
theorem d4U (N:Nat):CEok Q (c4o N) :=
 fnG (hi:=d5q) (l:=[a8M N,a6Q N]) (t:=[]) a0r hmix ⟨b1k N,b0C N,trivial⟩ ⟨rfl,rfl,trivial⟩ f1D (by kernel_rfl) (by kernel_rfl) trivial fun ys=>by kernel_rfl
def b9D:CS:=⟨214,185,⟨[.agg [.d tI,.d tI,.d tI,.d tB,.d tW],.one (.p 0 0 [1])],[q_9]⟩,[.one (.d tB)],true,[q_9]⟩
def c9I:Hi:=⟨[],[],[10],[],[]⟩
theorem f0N:Fn Q 185 f185 (codeOf f185):=by constructor <;> kernel_rfl
def b1W (N:Nat) (x0:a0a) (x1:a0b):Option Rs :=
 bi (x1.Trap.Kind == 0) (
  some (0,gB.dv true (a1t.dv x1 []))) <|
 some (0,gB.dv (decide (x0.2.2.1 < x1.Trap.Step)) (a1t.dv x1 []))
def b8V (N:Nat):CE:=(b9D,mkF [a0B,a0W] [pB,a0W] (b1W N))
theorem c9X (N:Nat):CEok Q (b8V N) :=
 fnG (hi:=c9I) (l:=[]) (t:=[]) a0r hmix trivial trivial f0N (by kernel_rfl) (by kernel_rfl) trivial fun ys=>by kernel_rfl
def a6x:CS:=⟨215,245,⟨[.one (.d (.sl a0t)),.one (.f 185 [⟨0,0,[1]⟩])],[q_9]⟩,[.one (.d tI)],true,[q_9]⟩
def a5m:LS:=⟨⟨[.one (.d (.sl a0t)),.one (.f 185 [⟨0,0,[1]⟩]),.no,.no,.no,.no,.no,.one (.d tI),.one (.d tI)]++nos 10,[q_9]⟩,[(0,⟨[.no,.no,.no,.no,.one (.d tI)]++nos 14,[q_9]⟩),(1,⟨nos 19,[q_9]⟩)]⟩
def a1U:Hi:=⟨[((4,5),b9D)],[(0,a5m)],[9,16],[],[]⟩
theorem e8i:Fn Q 245 f245 (codeOf f245):=by constructor <;> kernel_rfl
def a1V (N:Nat):List CE:=[b8V N]
theorem a5B (N:Nat):AllP (CEok Q) (a1V N):=⟨c9X N,trivial⟩
theorem a6k (N:Nat):AllP (fun e=>lookC (a1V N) e.2.id = some e.2) a1U.cs:=⟨rfl,trivial⟩
def a1p (N:Nat) (again:Fn' (Option Rs) [pD (.sl a0t),pI,pI,a0W]) (x0:List a0a) (x1:Int) (x2:Int) (x3:a0b):Option Rs :=
 bi (decide (x2 < x1)) (
  gd (idx x2 (List.length x0)) <|
  on1 (b1W N (List.getD x0 x2.toNat a0a.z) x3)<|gg [pB,a0W]<|fun (x4:Bool) (x5:a0b) =>
  bi x4 (
   some (0,gI.dv x2 (a1t.dv x5 []))) <|
  again x0 x1 (w.i64 (x2+1)) x5) <|
 some (1,a1t.dv x3 [])
def a0V (N:Nat):Nat→Fn' (Option Rs) [pD (.sl a0t),pI,pI,a0W]:=lpG (a1p N)
def a5l (N:Nat):LE:=(0,mkM [pD (.sl a0t),pI,pI,a0W] [(0,[pI,a0W]),(1,[a0W])] (a0V N N))
theorem b1d (N:Nat):LEok Q a1U (bodOf f245) f245.ntmps 1 (a5l N) :=
 loopG (hi:=a1U) (l:=a1V N) (t:=[]) (r:=a1p N) a0r hmix (a5B N) (a6k N) e8i trivial (ls:=a5m) (body:=bodyAt f245 0) (by kernel_rfl) (by kernel_rfl) fun A ys=>by kernel_rfl
def a3Z (N:Nat) (x0:List a0a) (x1:a0b):Option Rs :=
 onB 0 1 (a0V N N x0 (len x0) 0 x1) (gg [pI,a0W]<|fun (x2:Int) (x3:a0b) =>
  some (0,gI.dv x2 (a1t.dv x3 [])))<|gg [a0W]<|fun (x4:a0b) =>
 some (0,gI.dv (-1:Int) (a1t.dv x4 []))
def a6u (N:Nat):CE:=(a6x,mkF [pD (.sl a0t),a0W] [pI,a0W] (a3Z N))
theorem b2F (N:Nat):CEok Q (a6u N) :=
 fnG (hi:=a1U) (l:=a1V N) (t:=[a5l N]) a0r hmix (a5B N) (a6k N) e8i (by kernel_rfl) (by kernel_rfl) ⟨b1d N,trivial⟩ fun ys=>by kernel_rfl
def a4n:CS:=⟨216,184,⟨[.one (.d (.sl a0t)),.one (.f 185 [⟨0,0,[1]⟩])],[q_9]⟩,[.one (.d tB)],true,[q_9]⟩
def b0z:Hi:=⟨[((1,2),a6x)],[],[],[],[]⟩
theorem f0d:Fn Q 184 f184 (codeOf f184):=by constructor <;> kernel_rfl
def a1N (N:Nat) (x0:List a0a) (x1:a0b):Option Rs :=
 on1 (a3Z N x0 x1)<|gg [pI,a0W]<|fun (x2:Int) (x3:a0b) =>
 some (0,gB.dv (decide (x2≥0)) (a1t.dv x3 []))
def a4u (N:Nat):CE:=(a4n,mkF [pD (.sl a0t),a0W] [pB,a0W] (a1N N))
theorem b0i (N:Nat):CEok Q (a4u N) :=
 fnG (hi:=b0z) (l:=[a6u N]) (t:=[]) a0r hmix ⟨b2F N,trivial⟩ ⟨rfl,trivial⟩ f0d (by kernel_rfl) (by kernel_rfl) trivial fun ys=>by kernel_rfl
def c5p:CS:=⟨217,114,⟨[.agg [.d (.sl a0n),.d (.ar 16 tI)],.one (.r (.pair tI (.pair (.pair (.ar 16 tW) (.pair (.ar 16 tI) (.pair (.pair tI (.pair tI (.pair tI .unit))) (.pair tI (.pair tB (.pair tI .unit)))))) (.pair (.pair (.ar 16 tW) (.pair (.ar 16 tI) (.pair (.pair tI (.pair tI (.pair tI .unit))) (.pair tI (.pair tB (.pair tI .unit)))))) (.pair (.sl a0k) (.pair (.sl tW) (.pair (.sl tW) (.pair (.sl tB) (.pair (.sl tB) (.pair (.sl a0t) (.pair (.sl a0j) (.pair (.sl tU) (.pair (.sl a0Q) (.pair (.pair tI (.pair tI (.pair tI .unit))) (.pair tI (.pair tI (.pair tI .unit)))))))))))))))))],[]⟩,[.one (.d tB)],true,[]⟩
def d4E:Hi:=⟨[((1,12),b5N),((1,21),b5N),((3,5),a4n)],[],[11,20,28],[],[]⟩
theorem f0P:Fn Q 114 f114 (codeOf f114):=by constructor <;> kernel_rfl
def c3l (N:Nat) (x0:a0g) (x1:a0b):Option Rs :=
 bi (decide ((len x1.Table) > 0)) (
  some (0,gB.dv false [])) <|
 on1 (b3l N x0 x1 x1.A false)<|gg [pB]<|fun (x2:Bool) =>
 bi (!x2) (
  some (0,gB.dv false [])) <|
 on1 (b3l N x0 x1 x1.E true)<|gg [pB]<|fun (x3:Bool) =>
 bi (!x3) (
  some (0,gB.dv false [])) <|
 on1 (a1N N x1.Saq x1)<|gg [pB,a0W]<|fun (x4:Bool) (x5:a0b) =>
 some (0,gB.dv (!x4) [])
def c5B (N:Nat):CE:=(c5p,mkF [a0m,a0W] [pB] (c3l N))
theorem d5T (N:Nat):CEok Q (c5B N) :=
 fnG (hi:=d4E) (l:=[c4o N,a4u N]) (t:=[]) a0r hmix ⟨d4U N,b0i N,trivial⟩ ⟨rfl,rfl,rfl,trivial⟩ f0P (by kernel_rfl) (by kernel_rfl) trivial fun ys=>by kernel_rfl
def c7j:CS:=⟨220,55,⟨[.agg [.d (.sl a0y),.d tI,.d (.sl tU)]],[]⟩,[.one (.d tB)],true,[]⟩
def d7x:Hi:=⟨[((1,1),d3z)],[],[5],[],[]⟩
theorem f_55:Fn Q 55 f55 (codeOf f55):=by constructor <;> kernel_rfl
def c8s (N:Nat) (x0:a0s):Option Rs :=
 on1 (d6y N x0)<|gg [pB]<|fun (x1:Bool) =>
 bi x1 (
  some (0,gB.dv (decide (x0.Size≤300)) [])) <|
 some (0,gB.dv false [])
def c8O (N:Nat):CE:=(c7j,mkF [a0p] [pB] (c8s N))
theorem d6V (N:Nat):CEok Q (c8O N) :=
 fnG (hi:=d7x) (l:=[d2V N]) (t:=[]) a0r hmix ⟨d9a N,trivial⟩ ⟨rfl,trivial⟩ f_55 (by kernel_rfl) (by kernel_rfl) trivial fun ys=>by kernel_rfl
end
end Go.Proofs.Zz

/- What functions of the program compute, as plain functions. -/
set_option maxRecDepth 100000
namespace Go.Proofs.Zz
noncomputable section
open Go Go.Proofs.Tryz
end
end Go.Proofs.Zz
