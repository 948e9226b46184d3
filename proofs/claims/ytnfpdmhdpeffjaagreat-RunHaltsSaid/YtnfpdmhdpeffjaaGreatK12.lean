import Derived.Test.YtnfpdmhdpeffjaaGreatSK
set_option linter.unusedSimpArgs false
set_option linter.unusedVariables false
/- What functions of the program compute, as plain functions. -/
set_option maxRecDepth 100000
namespace Go.Proofs.Zz
noncomputable section
open Go Go.Proofs.Tryz
def f6W:CS:=⟨274,275,⟨[.agg [.d (.sl a0y),.d tI,.d (.sl tU)]],[]⟩,[.one (.o tI)],true,[]⟩
def f5O:LS:=⟨⟨[.no,.one (.p 0 0 [1,1,1]),.no,.one (.o tI)]++nos 9++[.one (.d (.sl a0y)),.one (.d tI),.one (.d tI)]++nos 39,[[.d (.sl a0y),.d tI,.d (.sl tU)]]⟩,[(1,⟨[.no,.no,.no,.one (.o tI)]++nos 51,[]⟩)]⟩
def f3M:Hi:=⟨[((1,1),f5r),((7,2),f4J),((13,1),f8X),((14,1),f3m)],[(0,f5O)],[10,16,26,32,37,44],[],[]⟩
theorem g5I:Fn Q 275 f275 (codeOf f275):=by constructor <;> kernel_rfl
def f3K (N:Nat):List CE:=[f5q N,f4M N,f9l N,f7h N]
theorem f6q (N:Nat):AllP (CEok Q) (f3K N):=⟨f6N N,f6c N,g2s N,g0u N,trivial⟩
theorem f7b (N:Nat):AllP (fun e=>lookC (f3K N) e.2.id = some e.2) f3M.cs:=⟨rfl,rfl,rfl,rfl,trivial⟩
def f3x (N:Nat) (again:Fn' (Option Rs) [pD (.sl tI),pD (.sl a0y),pI,pI,a0p]) (x0:List Int) (x1:List a0o) (x2:Int) (x3:Int) (x4:a0s):Option Rs :=
 bi (decide (x3 < x2)) (
  gd (idx x3 (List.length x1)) <|
  on1 (f2k N x4 x3)<|gg [pI,pB]<|fun (x5:Int) (x6:Bool) =>
  bi x6 (
   gd (rm x0 [x5] 8) <|
   bi x6 (
    bi (decide ((w.i64 (x3+1)) < (len x4.Code))) (
     gd (rm (x0++[x5]) [(w.i64 (x3+1))] 8) <|
     again ((x0++[x5])++[(w.i64 (x3+1))]) x1 x2 (w.i64 (x3+1)) x4) <|
    again (x0++[x5]) x1 x2 (w.i64 (x3+1)) x4) <|
   bi ((List.getD x1 x3.toNat a0o.z).1 == 41) (
    bi (decide ((w.i64 (x3+1)) < (len x4.Code))) (
     gd (rm (x0++[x5]) [(w.i64 (x3+1))] 8) <|
     again ((x0++[x5])++[(w.i64 (x3+1))]) x1 x2 (w.i64 (x3+1)) x4) <|
    again (x0++[x5]) x1 x2 (w.i64 (x3+1)) x4) <|
   again (x0++[x5]) x1 x2 (w.i64 (x3+1)) x4) <|
  bi x6 (
   bi (decide ((w.i64 (x3+1)) < (len x4.Code))) (
    gd (rm x0 [(w.i64 (x3+1))] 8) <|
    again (x0++[(w.i64 (x3+1))]) x1 x2 (w.i64 (x3+1)) x4) <|
   again x0 x1 x2 (w.i64 (x3+1)) x4) <|
  bi ((List.getD x1 x3.toNat a0o.z).1 == 41) (
   bi (decide ((w.i64 (x3+1)) < (len x4.Code))) (
    gd (rm x0 [(w.i64 (x3+1))] 8) <|
    again (x0++[(w.i64 (x3+1))]) x1 x2 (w.i64 (x3+1)) x4) <|
   again x0 x1 x2 (w.i64 (x3+1)) x4) <|
  again x0 x1 x2 (w.i64 (x3+1)) x4) <|
 some (1,(gD (.sl tI)).dv x0 [])
def f3d (N:Nat):Nat→Fn' (Option Rs) [pD (.sl tI),pD (.sl a0y),pI,pI,a0p]:=lpG (f3x N)
def f5Y (N:Nat):LE:=(0,mkM [pD (.sl tI),pD (.sl a0y),pI,pI,a0p] [(1,[pD (.sl tI)])] (f3d N N))
theorem f8O (N:Nat):LEok Q f3M (bodOf f275) f275.ntmps 0 (f5Y N) :=
 loopG (hi:=f3M) (l:=f3K N) (t:=[]) (r:=f3x N) a0r hmix (f6q N) (f7b N) g5I trivial (ls:=f5O) (body:=bodyAt f275 0) (by kernel_rfl) (by kernel_rfl) fun A ys=>by kernel_rfl
def f4G (N:Nat) (x0:a0s):Option Rs :=
 on1 (f4F N x0)<|gg [pB]<|fun (x1:Bool) =>
 bi (!x1) (
  some (0,(gD (.sl tI)).dv ([]:List Int) [])) <|
 onA 1 (f3d N N [(0:Int)] x0.Code (len x0.Code) 0 x0)<|gg [pD (.sl tI)]<|fun (x2:List Int) =>
 on1 (f5G N x2)<|gg [pD (.sl tI)]<|fun (x3:List Int) =>
 on1 (f3E N x3)<|gg [pD (.sl tI)]<|fun (x4:List Int) =>
 some (0,(gD (.sl tI)).dv x4 [])
def f7a (N:Nat):CE:=(f6W,mkF [a0p] [pD (.sl tI)] (f4G N))
theorem g0s (N:Nat):CEok Q (f7a N) :=
 fnG (hi:=f3M) (l:=f3K N) (t:=[f5Y N]) a0r hmix (f6q N) (f7b N) g5I (by kernel_rfl) (by kernel_rfl) ⟨f8O N,trivial⟩ fun ys=>by kernel_rfl
def f6h:CS:=⟨275,302,⟨[.one (.d tI)],[]⟩,[.one (.d tB)],true,[]⟩
def g1F:Hi:=⟨[],[],[],[],[]⟩
theorem g6G:Fn Q 302 f302 (codeOf f302):=by constructor <;> kernel_rfl
def f7t (N:Nat) (x0:Int):Option Rs :=
 some (0,gB.dv (x0 != x0) [])
def f8A (N:Nat):CE:=(f6h,mkF [pI] [pB] (f7t N))
theorem g1w (N:Nat):CEok Q (f8A N) :=
 fnG (hi:=g1F) (l:=[]) (t:=[]) a0r hmix trivial trivial g6G (by kernel_rfl) (by kernel_rfl) trivial fun ys=>by kernel_rfl
def f5w:CS:=⟨276,310,⟨[.one (.d tI)],[]⟩,[.one (.d tB)],true,[]⟩
def g0Z:Hi:=⟨[],[],[],[],[]⟩
theorem g6w:Fn Q 310 f310 (codeOf f310):=by constructor <;> kernel_rfl
def f5n (N:Nat) (x0:Int):Option Rs :=
 some (0,gB.dv (x0 != x0) [])
def f7R (N:Nat):CE:=(f5w,mkF [pI] [pB] (f5n N))
theorem g1s (N:Nat):CEok Q (f7R N) :=
 fnG (hi:=g0Z) (l:=[]) (t:=[]) a0r hmix trivial trivial g6w (by kernel_rfl) (by kernel_rfl) trivial fun ys=>by kernel_rfl
def f8u:CS:=⟨277,301,⟨[.one (.d tI),.one (.d tI)],[]⟩,[.one (.d tB)],true,[]⟩
def g1G:Hi:=⟨[((1,1),f5w),((1,4),f5w)],[],[7,12],[],[]⟩
theorem g6n:Fn Q 301 f301 (codeOf f301):=by constructor <;> kernel_rfl
def f5U (N:Nat) (x0:Int) (x1:Int):Option Rs :=
 on1 (f5n N x0)<|gg [pB]<|fun (x2:Bool) =>
 bi x2 (
  on1 (f5n N x1)<|gg [pB]<|fun (x3:Bool) =>
  bi (!x3) (
   some (0,gB.dv true [])) <|
  some (0,gB.dv (decide (x0 < x1)) [])) <|
 some (0,gB.dv (decide (x0 < x1)) [])
def f8y (N:Nat):CE:=(f8u,mkF [pI,pI] [pB] (f5U N))
theorem g1z (N:Nat):CEok Q (f8y N) :=
 fnG (hi:=g1G) (l:=[f7R N]) (t:=[]) a0r hmix ⟨g1s N,trivial⟩ ⟨rfl,rfl,trivial⟩ g6n (by kernel_rfl) (by kernel_rfl) trivial fun ys=>by kernel_rfl
def f4X:CS:=⟨278,277,⟨[.one (.d (.sl tI)),.one (.d tI)],[]⟩,[.one (.d tI),.one (.d tB)],false,[]⟩
def f4n:LS:=⟨⟨[.one (.d (.sl tI)),.one (.d tI),.no,.no,.no,.no,.one (.d tI),.one (.d tI),.one (.d tI)]++nos 45,[]⟩,[(1,⟨[.one (.d (.sl tI)),.one (.d tI),.no,.no,.no,.no,.one (.d tI),.one (.d tI)]++nos 46,[]⟩)]⟩
def f2S:Hi:=⟨[((5,5),f8u),((8,16),f6h),((8,19),f6h)],[(0,f4n)],[15,27,35,42,48],[],[]⟩
theorem g5N:Fn Q 277 f277 (codeOf f277):=by constructor <;> kernel_rfl
def f2Q (N:Nat):List CE:=[f8y N,f8A N]
theorem f4x (N:Nat):AllP (CEok Q) (f2Q N):=⟨g1z N,g1w N,trivial⟩
theorem f4T (N:Nat):AllP (fun e=>lookC (f2Q N) e.2.id = some e.2) f2S.cs:=⟨rfl,rfl,rfl,trivial⟩
def f2N (N:Nat) (again:Fn' (Option Rs) [pD (.sl tI),pI,pI,pI,pI]) (x0:List Int) (x1:Int) (x2:Int) (x3:Int) (x4:Int):Option Rs :=
 bi (decide (x3 < x4)) (
  gf (decide ((1:Int) < (0:Int))) <|
  gd (idx (w.i64 (shr .u64 (w.u64 (w.i64 (x3+x4))) 1)) (List.length x0)) <|
  on1 (f5U N (List.getD x0 (Int.toNat (w.i64 (shr .u64 (w.u64 (w.i64 (x3+x4))) 1))) 0) x1)<|gg [pB]<|fun (x5:Bool) =>
  bi x5 (
   again x0 x1 x2 (w.i64 ((w.i64 (shr .u64 (w.u64 (w.i64 (x3+x4))) 1))+1)) x4) <|
  again x0 x1 x2 x3 (w.i64 (shr .u64 (w.u64 (w.i64 (x3+x4))) 1))) <|
 some (1,(gD (.sl tI)).dv x0 (gI.dv x1 (gI.dv x2 (gI.dv x3 []))))
def f2r (N:Nat):Nat→Fn' (Option Rs) [pD (.sl tI),pI,pI,pI,pI]:=lpG (f2N N)
def f3X (N:Nat):LE:=(0,mkM [pD (.sl tI),pI,pI,pI,pI] [(1,[pD (.sl tI),pI,pI,pI])] (f2r N N))
theorem f6B (N:Nat):LEok Q f2S (bodOf f277) f277.ntmps 0 (f3X N) :=
 loopG (hi:=f2S) (l:=f2Q N) (t:=[]) (r:=f2N N) a0r hmix (f4x N) (f4T N) g5N trivial (ls:=f4n) (body:=bodyAt f277 0) (by kernel_rfl) (by kernel_rfl) fun A ys=>by kernel_rfl
def f2b (N:Nat) (x0:List Int) (x1:Int):Option Rs :=
 onA 1 (f2r N N x0 x1 (len x0) 0 (len x0))<|gg [pD (.sl tI),pI,pI,pI]<|fun (x2:List Int) (x3:Int) (x4:Int) (x5:Int) =>
 bi (decide (x5 < x4)) (
  gd (idx x5 (List.length x2)) <|
  bi ((List.getD x2 x5.toNat 0) == x3) (
   some (0,gI.dv x5 (gB.dv true []))) <|
  gd (idx x5 (List.length x2)) <|
  on1 (f7t N (List.getD x2 x5.toNat 0))<|gg [pB]<|fun (x6:Bool) =>
  bi x6 (
   on1 (f7t N x3)<|gg [pB]<|fun (x7:Bool) =>
   some (0,gI.dv x5 (gB.dv x7 []))) <|
  some (0,gI.dv x5 (gB.dv false []))) <|
 some (0,gI.dv x5 (gB.dv false []))
def f4U (N:Nat):CE:=(f4X,mkF [pD (.sl tI),pI] [pI,pB] (f2b N))
theorem f7H (N:Nat):CEok Q (f4U N) :=
 fnG (hi:=f2S) (l:=f2Q N) (t:=[f3X N]) a0r hmix (f4x N) (f4T N) g5N (by kernel_rfl) (by kernel_rfl) ⟨f6B N,trivial⟩ fun ys=>by kernel_rfl
def f9S:CS:=⟨279,247,⟨[.agg [.d (.sl a0y),.d tI,.d (.sl tU)]],[]⟩,[.one (.o (.pair tI (.pair tI (.pair tI (.pair tI (.pair .nl (.pair .nl .unit)))))))],true,[]⟩
def f8q:LS:=⟨⟨[.no,.one (.p 0 0 [1,1,1]),.no,.one (.d (.sl tI)),.one (.o (.pair tI (.pair tI (.pair tI (.pair tI (.pair .nl (.pair .nl .unit)))))))]++nos 8++[.one (.d (.sl tI)),.one (.d tI),.one (.d tI)]++nos 67,[[.d (.sl a0y),.d tI,.d (.sl tU)]]⟩,[(1,⟨[.no,.no,.no,.no,.one (.o (.pair tI (.pair tI (.pair tI (.pair tI (.pair .nl (.pair .nl .unit)))))))]++nos 78,[]⟩)]⟩
def f5W:Hi:=⟨[((1,1),f6W),((9,8),b2K),((12,4),f4J),((14,2),f4X)],[(0,f8q)],[16,29,50,54,57,69],[],[]⟩
theorem g5L:Fn Q 247 f247 (codeOf f247):=by constructor <;> kernel_rfl
def f5N (N:Nat):List CE:=[f7a N,b2I N,f4M N,f4U N]
theorem f8Y (N:Nat):AllP (CEok Q) (f5N N):=⟨g0s N,b8k N,f6c N,f7H N,trivial⟩
theorem g0l (N:Nat):AllP (fun e=>lookC (f5N N) e.2.id = some e.2) f5W.cs:=⟨rfl,rfl,rfl,rfl,trivial⟩
def f5l (N:Nat) (again:Fn' (Option Rs) [pD (.sl tI),pD (.sl (.pair tI (.pair tI (.pair tI (.pair tI (.pair .nl (.pair .nl .unit))))))),pD (.sl tI),pI,pI,a0p]) (x0:List Int) (x1:List (Int × (Int × (Int × (Int × (Unit × (Unit × Unit))))))) (x2:List Int) (x3:Int) (x4:Int) (x5:a0s):Option Rs :=
 bi (decide (x4 < x3)) (
  gd (idx x4 (List.length x2)) <|
  bi (decide ((w.i64 (x4+1)) < (len x0))) (
   gd (idx (w.i64 (x4+1)) (List.length x0)) <|
   gd (idx (w.i64 ((List.getD x0 (Int.toNat (w.i64 (x4+1))) 0) - 1)) (List.length x5.Code)) <|
   on1 (b8x N ((List.getD x5.Code (Int.toNat (w.i64 ((List.getD x0 (Int.toNat (w.i64 (x4+1))) 0) - 1))) a0o.z).1))<|gg [pI]<|fun (x6:Int) =>
   bi (decide ((w.i64 (x4+1)) < (len x0))) (
    bi (x6 != 7) (
     bi (x6 != 8) (
      on1 (f2k N x5 (w.i64 ((List.getD x0 (Int.toNat (w.i64 (x4+1))) 0) - 1)))<|gg [pI,pB]<|fun (x7:Int) (x8:Bool) =>
      bi x8 (
       on1 (f2b N x0 x7)<|gg [pI,pB]<|fun (x9:Int) (x10:Bool) =>
       gd (rm x1 [((List.getD x2 x4.toNat 0),((List.getD x0 (Int.toNat (w.i64 (x4+1))) 0),((w.i64 (x4+1)),(x9,((),((),()))))))] 80) <|
       again x0 (x1++[((List.getD x2 x4.toNat 0),((List.getD x0 (Int.toNat (w.i64 (x4+1))) 0),((w.i64 (x4+1)),(x9,((),((),()))))))]) x2 x3 (w.i64 (x4+1)) x5) <|
      gd (rm x1 [((List.getD x2 x4.toNat 0),((List.getD x0 (Int.toNat (w.i64 (x4+1))) 0),((w.i64 (x4+1)),((-1:Int),((),((),()))))))] 80) <|
      again x0 (x1++[((List.getD x2 x4.toNat 0),((List.getD x0 (Int.toNat (w.i64 (x4+1))) 0),((w.i64 (x4+1)),((-1:Int),((),((),()))))))]) x2 x3 (w.i64 (x4+1)) x5) <|
     on1 (f2k N x5 (w.i64 ((List.getD x0 (Int.toNat (w.i64 (x4+1))) 0) - 1)))<|gg [pI,pB]<|fun (x11:Int) (x12:Bool) =>
     bi x12 (
      on1 (f2b N x0 x11)<|gg [pI,pB]<|fun (x13:Int) (x14:Bool) =>
      gd (rm x1 [((List.getD x2 x4.toNat 0),((List.getD x0 (Int.toNat (w.i64 (x4+1))) 0),((-1:Int),(x13,((),((),()))))))] 80) <|
      again x0 (x1++[((List.getD x2 x4.toNat 0),((List.getD x0 (Int.toNat (w.i64 (x4+1))) 0),((-1:Int),(x13,((),((),()))))))]) x2 x3 (w.i64 (x4+1)) x5) <|
     gd (rm x1 [((List.getD x2 x4.toNat 0),((List.getD x0 (Int.toNat (w.i64 (x4+1))) 0),((-1:Int),((-1:Int),((),((),()))))))] 80) <|
     again x0 (x1++[((List.getD x2 x4.toNat 0),((List.getD x0 (Int.toNat (w.i64 (x4+1))) 0),((-1:Int),((-1:Int),((),((),()))))))]) x2 x3 (w.i64 (x4+1)) x5) <|
    on1 (f2k N x5 (w.i64 ((List.getD x0 (Int.toNat (w.i64 (x4+1))) 0) - 1)))<|gg [pI,pB]<|fun (x15:Int) (x16:Bool) =>
    bi x16 (
     on1 (f2b N x0 x15)<|gg [pI,pB]<|fun (x17:Int) (x18:Bool) =>
     gd (rm x1 [((List.getD x2 x4.toNat 0),((List.getD x0 (Int.toNat (w.i64 (x4+1))) 0),((-1:Int),(x17,((),((),()))))))] 80) <|
     again x0 (x1++[((List.getD x2 x4.toNat 0),((List.getD x0 (Int.toNat (w.i64 (x4+1))) 0),((-1:Int),(x17,((),((),()))))))]) x2 x3 (w.i64 (x4+1)) x5) <|
    gd (rm x1 [((List.getD x2 x4.toNat 0),((List.getD x0 (Int.toNat (w.i64 (x4+1))) 0),((-1:Int),((-1:Int),((),((),()))))))] 80) <|
    again x0 (x1++[((List.getD x2 x4.toNat 0),((List.getD x0 (Int.toNat (w.i64 (x4+1))) 0),((-1:Int),((-1:Int),((),((),()))))))]) x2 x3 (w.i64 (x4+1)) x5) <|
   on1 (f2k N x5 (w.i64 ((List.getD x0 (Int.toNat (w.i64 (x4+1))) 0) - 1)))<|gg [pI,pB]<|fun (x19:Int) (x20:Bool) =>
   bi x20 (
    on1 (f2b N x0 x19)<|gg [pI,pB]<|fun (x21:Int) (x22:Bool) =>
    gd (rm x1 [((List.getD x2 x4.toNat 0),((List.getD x0 (Int.toNat (w.i64 (x4+1))) 0),((-1:Int),(x21,((),((),()))))))] 80) <|
    again x0 (x1++[((List.getD x2 x4.toNat 0),((List.getD x0 (Int.toNat (w.i64 (x4+1))) 0),((-1:Int),(x21,((),((),()))))))]) x2 x3 (w.i64 (x4+1)) x5) <|
   gd (rm x1 [((List.getD x2 x4.toNat 0),((List.getD x0 (Int.toNat (w.i64 (x4+1))) 0),((-1:Int),((-1:Int),((),((),()))))))] 80) <|
   again x0 (x1++[((List.getD x2 x4.toNat 0),((List.getD x0 (Int.toNat (w.i64 (x4+1))) 0),((-1:Int),((-1:Int),((),((),()))))))]) x2 x3 (w.i64 (x4+1)) x5) <|
  gd (idx (w.i64 ((len x5.Code) - 1)) (List.length x5.Code)) <|
  on1 (b8x N ((List.getD x5.Code (Int.toNat (w.i64 ((len x5.Code) - 1))) a0o.z).1))<|gg [pI]<|fun (x23:Int) =>
  bi (decide ((w.i64 (x4+1)) < (len x0))) (
   bi (x23 != 7) (
    bi (x23 != 8) (
     on1 (f2k N x5 (w.i64 ((len x5.Code) - 1)))<|gg [pI,pB]<|fun (x24:Int) (x25:Bool) =>
     bi x25 (
      on1 (f2b N x0 x24)<|gg [pI,pB]<|fun (x26:Int) (x27:Bool) =>
      gd (rm x1 [((List.getD x2 x4.toNat 0),((len x5.Code),((w.i64 (x4+1)),(x26,((),((),()))))))] 80) <|
      again x0 (x1++[((List.getD x2 x4.toNat 0),((len x5.Code),((w.i64 (x4+1)),(x26,((),((),()))))))]) x2 x3 (w.i64 (x4+1)) x5) <|
     gd (rm x1 [((List.getD x2 x4.toNat 0),((len x5.Code),((w.i64 (x4+1)),((-1:Int),((),((),()))))))] 80) <|
     again x0 (x1++[((List.getD x2 x4.toNat 0),((len x5.Code),((w.i64 (x4+1)),((-1:Int),((),((),()))))))]) x2 x3 (w.i64 (x4+1)) x5) <|
    on1 (f2k N x5 (w.i64 ((len x5.Code) - 1)))<|gg [pI,pB]<|fun (x28:Int) (x29:Bool) =>
    bi x29 (
     on1 (f2b N x0 x28)<|gg [pI,pB]<|fun (x30:Int) (x31:Bool) =>
     gd (rm x1 [((List.getD x2 x4.toNat 0),((len x5.Code),((-1:Int),(x30,((),((),()))))))] 80) <|
     again x0 (x1++[((List.getD x2 x4.toNat 0),((len x5.Code),((-1:Int),(x30,((),((),()))))))]) x2 x3 (w.i64 (x4+1)) x5) <|
    gd (rm x1 [((List.getD x2 x4.toNat 0),((len x5.Code),((-1:Int),((-1:Int),((),((),()))))))] 80) <|
    again x0 (x1++[((List.getD x2 x4.toNat 0),((len x5.Code),((-1:Int),((-1:Int),((),((),()))))))]) x2 x3 (w.i64 (x4+1)) x5) <|
   on1 (f2k N x5 (w.i64 ((len x5.Code) - 1)))<|gg [pI,pB]<|fun (x32:Int) (x33:Bool) =>
   bi x33 (
    on1 (f2b N x0 x32)<|gg [pI,pB]<|fun (x34:Int) (x35:Bool) =>
    gd (rm x1 [((List.getD x2 x4.toNat 0),((len x5.Code),((-1:Int),(x34,((),((),()))))))] 80) <|
    again x0 (x1++[((List.getD x2 x4.toNat 0),((len x5.Code),((-1:Int),(x34,((),((),()))))))]) x2 x3 (w.i64 (x4+1)) x5) <|
   gd (rm x1 [((List.getD x2 x4.toNat 0),((len x5.Code),((-1:Int),((-1:Int),((),((),()))))))] 80) <|
   again x0 (x1++[((List.getD x2 x4.toNat 0),((len x5.Code),((-1:Int),((-1:Int),((),((),()))))))]) x2 x3 (w.i64 (x4+1)) x5) <|
  on1 (f2k N x5 (w.i64 ((len x5.Code) - 1)))<|gg [pI,pB]<|fun (x36:Int) (x37:Bool) =>
  bi x37 (
   on1 (f2b N x0 x36)<|gg [pI,pB]<|fun (x38:Int) (x39:Bool) =>
   gd (rm x1 [((List.getD x2 x4.toNat 0),((len x5.Code),((-1:Int),(x38,((),((),()))))))] 80) <|
   again x0 (x1++[((List.getD x2 x4.toNat 0),((len x5.Code),((-1:Int),(x38,((),((),()))))))]) x2 x3 (w.i64 (x4+1)) x5) <|
  gd (rm x1 [((List.getD x2 x4.toNat 0),((len x5.Code),((-1:Int),((-1:Int),((),((),()))))))] 80) <|
  again x0 (x1++[((List.getD x2 x4.toNat 0),((len x5.Code),((-1:Int),((-1:Int),((),((),()))))))]) x2 x3 (w.i64 (x4+1)) x5) <|
 some (1,(gD (.sl (.pair tI (.pair tI (.pair tI (.pair tI (.pair .nl (.pair .nl .unit)))))))).dv x1 [])
def f3f (N:Nat):Nat→Fn' (Option Rs) [pD (.sl tI),pD (.sl (.pair tI (.pair tI (.pair tI (.pair tI (.pair .nl (.pair .nl .unit))))))),pD (.sl tI),pI,pI,a0p]:=lpG (f5l N)
def f8n (N:Nat):LE:=(0,mkM [pD (.sl tI),pD (.sl (.pair tI (.pair tI (.pair tI (.pair tI (.pair .nl (.pair .nl .unit))))))),pD (.sl tI),pI,pI,a0p] [(1,[pD (.sl (.pair tI (.pair tI (.pair tI (.pair tI (.pair .nl (.pair .nl .unit)))))))])] (f3f N N))
theorem g1J (N:Nat):LEok Q f5W (bodOf f247) f247.ntmps 0 (f8n N) :=
 loopG (hi:=f5W) (l:=f5N N) (t:=[]) (r:=f5l N) e6o hmix (f8Y N) (g0l N) g5L trivial (ls:=f8q) (body:=bodyAt f247 0) (by kernel_rfl) (by kernel_rfl) fun A ys=>by kernel_rfl
def f8g (N:Nat) (x0:a0s):Option Rs :=
 on1 (f4G N x0)<|gg [pD (.sl tI)]<|fun (x1:List Int) =>
 onA 1 (f3f N N x1 ([]:List (Int × (Int × (Int × (Int × (Unit × (Unit × Unit))))))) x1 (len x1) 0 x0)<|gg [pD (.sl (.pair tI (.pair tI (.pair tI (.pair tI (.pair .nl (.pair .nl .unit)))))))]<|fun (x2:List (Int × (Int × (Int × (Int × (Unit × (Unit × Unit))))))) =>
 some (0,(gD (.sl (.pair tI (.pair tI (.pair tI (.pair tI (.pair .nl (.pair .nl .unit)))))))).dv x2 [])
def f9R (N:Nat):CE:=(f9S,mkF [a0p] [pD (.sl (.pair tI (.pair tI (.pair tI (.pair tI (.pair .nl (.pair .nl .unit)))))))] (f8g N))
theorem g2P (N:Nat):CEok Q (f9R N) :=
 fnG (hi:=f5W) (l:=f5N N) (t:=[f8n N]) e6o hmix (f8Y N) (g0l N) g5L (by kernel_rfl) (by kernel_rfl) ⟨g1J N,trivial⟩ fun ys=>by kernel_rfl
def f5t:CS:=⟨280,278,⟨[.agg [.d (.ar 16 tI)],.one (.d tI)],[]⟩,[.one (.d tI)],true,[]⟩
def g4i:Hi:=⟨[],[],[7,10],[],[]⟩
theorem g6L:Fn Q 278 f278 (codeOf f278):=by constructor <;> kernel_rfl
def f5T (N:Nat) (x0:List Int) (x1:Int):Option Rs :=
 bi (decide (x1 < 1)) (
  some (0,gI.dv 0 [])) <|
 bi (decide (x1≥16)) (
  some (0,gI.dv 0 [])) <|
 gd (idx x1 16) <|
 some (0,gI.dv (List.getD x0 x1.toNat 0) [])
def f8f (N:Nat):CE:=(f5t,mkF [pD (.ar 16 tI),pI] [pI] (f5T N))
theorem f9N (N:Nat):CEok Q (f8f N) :=
 fnG (hi:=g4i) (l:=[]) (t:=[]) a0r hmix trivial trivial g6L (by kernel_rfl) (by kernel_rfl) trivial fun ys=>by kernel_rfl
def f2o:CS:=⟨281,279,⟨[.one (.p 0 0 [1,1,1,1,1,1,1,1]),.one (.d tI)],[q_10]⟩,[],false,[q_10]⟩
def g0C:Hi:=⟨[],[],[],[],[]⟩
theorem g5Y:Fn Q 279 f279 (codeOf f279):=by constructor <;> kernel_rfl
def f2f (N:Nat) (x0:Int) (x1:f1W):Option Rs :=
 gd (rm x1.Out [(x0,(x1.I,(0,(x1.Pc,(x1.Off,())))))] 72) <|
 some (0,f2j.dv ({ x1 with Out:=(x1.Out++[(x0,(x1.I,(0,(x1.Pc,(x1.Off,())))))]) }:f1W) [])
def f4Y (N:Nat):CE:=(f2o,mkF [pI,f1X] [f1X] (f2f N))
theorem f7i (N:Nat):CEok Q (f4Y N) :=
 fnG (hi:=g0C) (l:=[]) (t:=[]) a0r hmix trivial trivial g5Y (by kernel_rfl) (by kernel_rfl) trivial fun ys=>by kernel_rfl
def f3j:CS:=⟨282,280,⟨[.one (.p 0 0 [1,1,1,1,1,1,1,1]),.one (.d tI),.one (.d tI)],[q_10]⟩,[],false,[q_10]⟩
def g0z:Hi:=⟨[],[],[],[],[]⟩
theorem g6j:Fn Q 280 f280 (codeOf f280):=by constructor <;> kernel_rfl
def f2u (N:Nat) (x0:Int) (x1:Int) (x2:f1W):Option Rs :=
 gd (rm x2.Out [(x0,(a0o.z,(x1,(x2.Pc,(x2.Off,())))))] 72) <|
 some (0,f2j.dv ({ x2 with Out:=(x2.Out++[(x0,(a0o.z,(x1,(x2.Pc,(x2.Off,())))))]) }:f1W) [])
def f3N (N:Nat):CE:=(f3j,mkF [pI,pI,f1X] [f1X] (f2u N))
theorem f4Z (N:Nat):CEok Q (f3N N) :=
 fnG (hi:=g0z) (l:=[]) (t:=[]) a0r hmix trivial trivial g6j (by kernel_rfl) (by kernel_rfl) trivial fun ys=>by kernel_rfl
def f9P:CS:=⟨283,303,⟨[.one (.d tI),.one (.p 0 0 [16])],[[.d (.ar 16 tI)]]⟩,[.one (.d tB)],true,[[.d (.ar 16 tI)]]⟩
def g2B:Hi:=⟨[],[],[],[],[]⟩
theorem g6F:Fn Q 303 f303 (codeOf f303):=by constructor <;> kernel_rfl
def f7X (N:Nat) (x0:Int) (x1:List Int):Option Rs :=
 gd (idx x0 16) <|
 some (0,gB.dv ((List.getD x1 x0.toNat 0) == 2) ((gD (.ar 16 tI)).dv x1 []))
def g0o (N:Nat):CE:=(f9P,mkF [pI,pD (.ar 16 tI)] [pB,pD (.ar 16 tI)] (f7X N))
theorem g3b (N:Nat):CEok Q (g0o N) :=
 fnG (hi:=g2B) (l:=[]) (t:=[]) a0r hmix trivial trivial g6F (by kernel_rfl) (by kernel_rfl) trivial fun ys=>by kernel_rfl
def f5i:CS:=⟨284,129,⟨[.one (.d (.sl tI)),.one (.f 303 [⟨0,0,[16]⟩])],[[.d (.ar 16 tI)]]⟩,[.one (.d tI)],true,[[.d (.ar 16 tI)]]⟩
def f4u:LS:=⟨⟨[.one (.d (.sl tI)),.one (.f 303 [⟨0,0,[16]⟩]),.no,.no,.no,.no,.no,.one (.d tI),.one (.d tI)]++nos 10,[[.d (.ar 16 tI)]]⟩,[(0,⟨[.no,.no,.no,.no,.one (.d tI)]++nos 14,[[.d (.ar 16 tI)]]⟩),(1,⟨nos 19,[[.d (.ar 16 tI)]]⟩)]⟩
def f2Z:Hi:=⟨[((4,5),f9P)],[(0,f4u)],[9,16],[],[]⟩
def f3b (N:Nat):List CE:=[g0o N]
theorem f4P (N:Nat):AllP (CEok Q) (f3b N):=⟨g3b N,trivial⟩
theorem f5b (N:Nat):AllP (fun e=>lookC (f3b N) e.2.id = some e.2) f2Z.cs:=⟨rfl,trivial⟩
def f2x (N:Nat) (again:Fn' (Option Rs) [pD (.sl tI),pI,pI,pD (.ar 16 tI)]) (x0:List Int) (x1:Int) (x2:Int) (x3:List Int):Option Rs :=
 bi (decide (x2 < x1)) (
  gd (idx x2 (List.length x0)) <|
  on1 (f7X N (List.getD x0 x2.toNat 0) x3)<|gg [pB,pD (.ar 16 tI)]<|fun (x4:Bool) (x5:List Int) =>
  bi x4 (
   some (0,gI.dv x2 ((gD (.ar 16 tI)).dv x5 []))) <|
  again x0 x1 (w.i64 (x2+1)) x5) <|
 some (1,(gD (.ar 16 tI)).dv x3 [])
def f2g (N:Nat):Nat→Fn' (Option Rs) [pD (.sl tI),pI,pI,pD (.ar 16 tI)]:=lpG (f2x N)
def f4C (N:Nat):LE:=(0,mkM [pD (.sl tI),pI,pI,pD (.ar 16 tI)] [(0,[pI,pD (.ar 16 tI)]),(1,[pD (.ar 16 tI)])] (f2g N N))
theorem f7p (N:Nat):LEok Q f2Z (bodOf f129) f129.ntmps 1 (f4C N) :=
 loopG (hi:=f2Z) (l:=f3b N) (t:=[]) (r:=f2x N) a0r hmix (f4P N) (f5b N) e1B trivial (ls:=f4u) (body:=bodyAt f129 0) (by kernel_rfl) (by kernel_rfl) fun A ys=>by kernel_rfl
def f4i (N:Nat) (x0:List Int) (x1:List Int):Option Rs :=
 onB 0 1 (f2g N N x0 (len x0) 0 x1) (gg [pI,pD (.ar 16 tI)]<|fun (x2:Int) (x3:List Int) =>
  some (0,gI.dv x2 ((gD (.ar 16 tI)).dv x3 [])))<|gg [pD (.ar 16 tI)]<|fun (x4:List Int) =>
 some (0,gI.dv (-1:Int) ((gD (.ar 16 tI)).dv x4 []))
def f5j (N:Nat):CE:=(f5i,mkF [pD (.sl tI),pD (.ar 16 tI)] [pI,pD (.ar 16 tI)] (f4i N))
theorem f8k (N:Nat):CEok Q (f5j N) :=
 fnG (hi:=f2Z) (l:=f3b N) (t:=[f4C N]) a0r hmix (f4P N) (f5b N) e1B (by kernel_rfl) (by kernel_rfl) ⟨f7p N,trivial⟩ fun ys=>by kernel_rfl
def f4a:CS:=⟨285,74,⟨[.one (.d (.sl tI)),.one (.f 303 [⟨0,0,[16]⟩])],[[.d (.ar 16 tI)]]⟩,[.one (.d tB)],true,[[.d (.ar 16 tI)]]⟩
def f6O:Hi:=⟨[((1,2),f5i)],[],[],[],[]⟩
def f3r (N:Nat) (x0:List Int) (x1:List Int):Option Rs :=
 on1 (f4i N x0 x1)<|gg [pI,pD (.ar 16 tI)]<|fun (x2:Int) (x3:List Int) =>
 some (0,gB.dv (decide (x2≥0)) ((gD (.ar 16 tI)).dv x3 []))
def f4j (N:Nat):CE:=(f4a,mkF [pD (.sl tI),pD (.ar 16 tI)] [pB,pD (.ar 16 tI)] (f3r N))
theorem f6M (N:Nat):CEok Q (f4j N) :=
 fnG (hi:=f6O) (l:=[f5j N]) (t:=[]) a0r hmix ⟨f8k N,trivial⟩ ⟨rfl,trivial⟩ f_74 (by kernel_rfl) (by kernel_rfl) trivial fun ys=>by kernel_rfl
def f9A:CS:=⟨286,281,⟨[.agg [.d tI,.d tI,.d tI,.d tI,.d tI],.agg [.d (.ar 16 tI)]],[]⟩,[.one (.d tB)],true,[]⟩
def g4q:Hi:=⟨[((1,1),c0i),((1,3),f4a)],[],[],[],[]⟩
theorem g6t:Fn Q 281 f281 (codeOf f281):=by constructor <;> kernel_rfl
def f9s (N:Nat) (x0:a0o) (x1:List Int):Option Rs :=
 on1 (b3d N x0)<|gg [pD (.sl tI)]<|fun (x2:List Int) =>
 on1 (f3r N x2 x1)<|gg [pB,pD (.ar 16 tI)]<|fun (x3:Bool) (x4:List Int) =>
 some (0,gB.dv (!x3) [])
def f9G (N:Nat):CE:=(f9A,mkF [a2S,pD (.ar 16 tI)] [pB] (f9s N))
theorem g1Q (N:Nat):CEok Q (f9G N) :=
 fnG (hi:=g4q) (l:=[c6F N,f4j N]) (t:=[]) a0r hmix ⟨d7A N,f6M N,trivial⟩ ⟨rfl,rfl,trivial⟩ g6t (by kernel_rfl) (by kernel_rfl) trivial fun ys=>by kernel_rfl
def f8t:CS:=⟨287,311,⟨[.one (.d (.sl tI)),.one (.d tI)],[]⟩,[.one (.d tI)],true,[]⟩
def f7c:LS:=⟨⟨[.one (.d (.sl tI)),.one (.d tI),.no,.no,.no,.no,.no,.one (.d tI),.one (.d tI)]++nos 10,[]⟩,[(0,⟨[.no,.no,.no,.no,.one (.d tI)]++nos 14,[]⟩),(1,⟨nos 19,[]⟩)]⟩
def f4H:Hi:=⟨[],[(0,f7c)],[9,16],[],[]⟩
theorem g5J:Fn Q 311 f311 (codeOf f311):=by constructor <;> kernel_rfl
def f4N (N:Nat):List CE:=[]
theorem f7w (N:Nat):AllP (CEok Q) (f4N N):=trivial
theorem f8p (N:Nat):AllP (fun e=>lookC (f4N N) e.2.id = some e.2) f4H.cs:=trivial
def f3p (N:Nat) (again:Fn' (Option Rs) [pD (.sl tI),pI,pI,pI]) (x0:List Int) (x1:Int) (x2:Int) (x3:Int):Option Rs :=
 bi (decide (x3 < x2)) (
  gd (idx x3 (List.length x0)) <|
  bi (x1 == (List.getD x0 x3.toNat 0)) (
   some (0,gI.dv x3 [])) <|
  again x0 x1 x2 (w.i64 (x3+1))) <|
 some (1,[])
def f2z (N:Nat):Nat→Fn' (Option Rs) [pD (.sl tI),pI,pI,pI]:=lpG (f3p N)
def f7o (N:Nat):LE:=(0,mkM [pD (.sl tI),pI,pI,pI] [(0,[pI]),(1,[])] (f2z N N))
theorem g0r (N:Nat):LEok Q f4H (bodOf f311) f311.ntmps 0 (f7o N) :=
 loopG (hi:=f4H) (l:=f4N N) (t:=[]) (r:=f3p N) a0r hmix (f7w N) (f8p N) g5J trivial (ls:=f7c) (body:=bodyAt f311 0) (by kernel_rfl) (by kernel_rfl) fun A ys=>by kernel_rfl
def f7A (N:Nat) (x0:List Int) (x1:Int):Option Rs :=
 onB 0 1 (f2z N N x0 x1 (len x0) 0) (gg [pI]<|fun (x2:Int) =>
  some (0,gI.dv x2 []))<|gg [] <|
 some (0,gI.dv (-1:Int) [])
def f8s (N:Nat):CE:=(f8t,mkF [pD (.sl tI),pI] [pI] (f7A N))
theorem g1M (N:Nat):CEok Q (f8s N) :=
 fnG (hi:=f4H) (l:=f4N N) (t:=[f7o N]) a0r hmix (f7w N) (f8p N) g5J (by kernel_rfl) (by kernel_rfl) ⟨g0r N,trivial⟩ fun ys=>by kernel_rfl
def f6l:CS:=⟨288,304,⟨[.one (.d (.sl tI)),.one (.d tI)],[]⟩,[.one (.d tB)],true,[]⟩
def f9H:Hi:=⟨[((1,2),f8t)],[],[],[],[]⟩
theorem g6d:Fn Q 304 f304 (codeOf f304):=by constructor <;> kernel_rfl
def f4g (N:Nat) (x0:List Int) (x1:Int):Option Rs :=
 on1 (f7A N x0 x1)<|gg [pI]<|fun (x2:Int) =>
 some (0,gB.dv (decide (x2≥0)) [])
def f6i (N:Nat):CE:=(f6l,mkF [pD (.sl tI),pI] [pB] (f4g N))
theorem f9L (N:Nat):CEok Q (f6i N) :=
 fnG (hi:=f9H) (l:=[f8s N]) (t:=[]) a0r hmix ⟨g1M N,trivial⟩ ⟨rfl,trivial⟩ g6d (by kernel_rfl) (by kernel_rfl) trivial fun ys=>by kernel_rfl
def f5H:CS:=⟨289,283,⟨[.agg [.d tI,.d tI,.d tI,.d tI,.d tI],.agg [.d (.ar 16 tI)]],[]⟩,[.one (.o tI)],true,[]⟩
def f9f:LS:=⟨⟨[.no,.no,.no,.one (.p 0 0 [16]),.no,.one (.o tI),.no,.no,.no,.one (.o tI),.one (.d tI),.one (.d tI)]++nos 19,[[.d (.ar 16 tI)]]⟩,[(1,⟨[.no,.no,.no,.no,.no,.one (.o tI)]++nos 25,[]⟩)]⟩
def f6V:Hi:=⟨[((2,1),c0i),((5,7),f6l)],[(0,f9f)],[12,19,24],[],[]⟩
theorem g5W:Fn Q 283 f283 (codeOf f283):=by constructor <;> kernel_rfl
def f6I (N:Nat):List CE:=[c6F N,f6i N]
theorem g0c (N:Nat):AllP (CEok Q) (f6I N):=⟨d7A N,f9L N,trivial⟩
theorem g1p (N:Nat):AllP (fun e=>lookC (f6I N) e.2.id = some e.2) f6V.cs:=⟨rfl,rfl,trivial⟩
def f5Q (N:Nat) (again:Fn' (Option Rs) [pD (.sl tI),pD (.sl tI),pI,pI,pD (.ar 16 tI)]) (x0:List Int) (x1:List Int) (x2:Int) (x3:Int) (x4:List Int):Option Rs :=
 bi (decide (x3 < x2)) (
  gd (idx x3 (List.length x1)) <|
  gd (idx (List.getD x1 x3.toNat 0) 16) <|
  bi ((List.getD x4 (Int.toNat (List.getD x1 x3.toNat 0)) 0) == 1) (
   on1 (f4g N x0 (List.getD x1 x3.toNat 0))<|gg [pB]<|fun (x5:Bool) =>
   bi (!x5) (
    gd (rm x0 [(List.getD x1 x3.toNat 0)] 8) <|
    again (x0++[(List.getD x1 x3.toNat 0)]) x1 x2 (w.i64 (x3+1)) x4) <|
   again x0 x1 x2 (w.i64 (x3+1)) x4) <|
  again x0 x1 x2 (w.i64 (x3+1)) x4) <|
 some (1,(gD (.sl tI)).dv x0 [])
def f4W (N:Nat):Nat→Fn' (Option Rs) [pD (.sl tI),pD (.sl tI),pI,pI,pD (.ar 16 tI)]:=lpG (f5Q N)
def f9u (N:Nat):LE:=(0,mkM [pD (.sl tI),pD (.sl tI),pI,pI,pD (.ar 16 tI)] [(1,[pD (.sl tI)])] (f4W N N))
theorem g2d (N:Nat):LEok Q f6V (bodOf f283) f283.ntmps 0 (f9u N) :=
 loopG (hi:=f6V) (l:=f6I N) (t:=[]) (r:=f5Q N) a0r hmix (g0c N) (g1p N) g5W trivial (ls:=f9f) (body:=bodyAt f283 0) (by kernel_rfl) (by kernel_rfl) fun A ys=>by kernel_rfl
def f5D (N:Nat) (x0:a0o) (x1:List Int):Option Rs :=
 on1 (b3d N x0)<|gg [pD (.sl tI)]<|fun (x2:List Int) =>
 onA 1 (f4W N N ([]:List Int) x2 (len x2) 0 x1)<|gg [pD (.sl tI)]<|fun (x3:List Int) =>
 some (0,(gD (.sl tI)).dv x3 [])
def f8K (N:Nat):CE:=(f5H,mkF [a2S,pD (.ar 16 tI)] [pD (.sl tI)] (f5D N))
theorem g1m (N:Nat):CEok Q (f8K N) :=
 fnG (hi:=f6V) (l:=f6I N) (t:=[f9u N]) a0r hmix (g0c N) (g1p N) g5W (by kernel_rfl) (by kernel_rfl) ⟨g2d N,trivial⟩ fun ys=>by kernel_rfl
def f3c:CS:=⟨290,282,⟨[.one (.p 0 0 [1,1,1,1,1,1,1,1]),.one (.d tI),.one (.d (.sl tI))],[q_10]⟩,[],false,[q_10]⟩
def f5B:LS:=⟨⟨[.one (.p 0 0 [1,1,1,1,1,1,1,1]),.one (.d tI)]++nos 6++[.one (.d (.sl tI)),.one (.d tI),.one (.d tI)]++nos 8,[q_10]⟩,[(1,⟨nos 19,[q_10]⟩)]⟩
def f3w:Hi:=⟨[((3,3),f3j)],[(0,f5B)],[11],[],[]⟩
theorem g5Q:Fn Q 282 f282 (codeOf f282):=by constructor <;> kernel_rfl
def f3u (N:Nat):List CE:=[f3N N]
theorem f5X (N:Nat):AllP (CEok Q) (f3u N):=⟨f4Z N,trivial⟩
theorem f6j (N:Nat):AllP (fun e=>lookC (f3u N) e.2.id = some e.2) f3w.cs:=⟨rfl,trivial⟩
def f3o (N:Nat) (again:Fn' (Option Rs) [pI,pD (.sl tI),pI,pI,f1X]) (x0:Int) (x1:List Int) (x2:Int) (x3:Int) (x4:f1W):Option Rs :=
 bi (decide (x3 < x2)) (
  gd (idx x3 (List.length x1)) <|
  on1 (f2u N x0 (List.getD x1 x3.toNat 0) x4)<|gg [f1X]<|fun (x5:f1W) =>
  again x0 x1 x2 (w.i64 (x3+1)) x5) <|
 some (1,f2j.dv x4 [])
def f2R (N:Nat):Nat→Fn' (Option Rs) [pI,pD (.sl tI),pI,pI,f1X]:=lpG (f3o N)
def f5E (N:Nat):LE:=(0,mkM [pI,pD (.sl tI),pI,pI,f1X] [(1,[f1X])] (f2R N N))
theorem f8E (N:Nat):LEok Q f3w (bodOf f282) f282.ntmps 1 (f5E N) :=
 loopG (hi:=f3w) (l:=f3u N) (t:=[]) (r:=f3o N) a0r hmix (f5X N) (f6j N) g5Q trivial (ls:=f5B) (body:=bodyAt f282 0) (by kernel_rfl) (by kernel_rfl) fun A ys=>by kernel_rfl
def f2J (N:Nat) (x0:Int) (x1:List Int) (x2:f1W):Option Rs :=
 onA 1 (f2R N N x0 x1 (len x1) 0 x2)<|gg [f1X]<|fun (x3:f1W) =>
 some (0,f2j.dv x3 [])
def f4D (N:Nat):CE:=(f3c,mkF [pI,pD (.sl tI),f1X] [f1X] (f2J N))
theorem f6x (N:Nat):CEok Q (f4D N) :=
 fnG (hi:=f3w) (l:=f3u N) (t:=[f5E N]) a0r hmix (f5X N) (f6j N) g5Q (by kernel_rfl) (by kernel_rfl) ⟨f8E N,trivial⟩ fun ys=>by kernel_rfl
def f2t:CS:=⟨291,284,⟨[.one (.p 0 0 [1,1,1,1,1,1,1,1]),.one (.d tI)],[q_10]⟩,[],false,[q_10]⟩
def f9K:Hi:=⟨[],[],[],[],[]⟩
theorem g6i:Fn Q 284 f284 (codeOf f284):=by constructor <;> kernel_rfl
def f2m (N:Nat) (x0:Int) (x1:f1W):Option Rs :=
 gd (rm x1.Out [(x0,(a0o.z,(0,(x1.Pc,(x1.Off,())))))] 72) <|
 some (0,f2j.dv ({ x1 with Out:=(x1.Out++[(x0,(a0o.z,(0,(x1.Pc,(x1.Off,())))))]) }:f1W) [])
def f4E (N:Nat):CE:=(f2t,mkF [pI,f1X] [f1X] (f2m N))
theorem f6A (N:Nat):CEok Q (f4E N) :=
 fnG (hi:=f9K) (l:=[]) (t:=[]) a0r hmix trivial trivial g6i (by kernel_rfl) (by kernel_rfl) trivial fun ys=>by kernel_rfl
def f7S:CS:=⟨292,285,⟨[.agg [.d tI,.d tI,.d tI,.d tI,.d tI],.agg [.d (.ar 16 tI)]],[]⟩,[.one (.d tI)],true,[]⟩
def g2O:Hi:=⟨[((1,1),f5y),((3,3),f5t),((3,12),f8L)],[],[5,9,15,19],[],[]⟩
theorem g5Z:Fn Q 285 f285 (codeOf f285):=by constructor <;> kernel_rfl
def f6v (N:Nat) (x0:a0o) (x1:List Int):Option Rs :=
 on1 (f3v N x0)<|gg [pB]<|fun (x2:Bool) =>
 bi (!x2) (
  some (0,gI.dv 0 [])) <|
 on1 (f5T N x1 x0.2.1)<|gg [pI]<|fun (x3:Int) =>
 bi (x3 == 1) (
  some (0,gI.dv 1 [])) <|
 bi (x0.2.1 == 0) (
  on1 (f6o N x0 x1)<|gg [pB]<|fun (x4:Bool) =>
  bi (!x4) (
   some (0,gI.dv 1 [])) <|
  some (0,gI.dv 2 [])) <|
 some (0,gI.dv 2 [])
def f7G (N:Nat):CE:=(f7S,mkF [a2S,pD (.ar 16 tI)] [pI] (f6v N))
theorem g0m (N:Nat):CEok Q (f7G N) :=
 fnG (hi:=g2O) (l:=[f5F N,f8f N,f8D N]) (t:=[]) a0r hmix ⟨f7x N,f9N N,g0Y N,trivial⟩ ⟨rfl,rfl,rfl,trivial⟩ g5Z (by kernel_rfl) (by kernel_rfl) trivial fun ys=>by kernel_rfl
def g3Q:CS:=⟨293,248,⟨[.agg [.d tI,.d tI,.d tI,.d tI,.d tI],.agg [.d (.ar 16 tI)],.one (.d tI),.one (.d tI)],[]⟩,[.one (.o a0i)],true,[]⟩
def g5h:Hi:=⟨[((1,1),b4b),((4,2),b2K),((5,2),f7S),((6,1),f2o),((7,3),f5H),((7,4),f3c),((9,3),f5t),((10,1),f2o),((11,1),f2o),((13,3),f5t),((14,3),f3j),((15,1),f2o),((17,2),f9A),((18,1),f2o),((19,3),f5H),((19,4),f3c),((20,1),f2t),((22,1),f2t),((24,1),f2t)],[],[12,24,32,38,43,49,56,60,70,74],[],[]⟩
theorem g6I:Fn Q 248 f248 (codeOf f248):=by constructor <;> kernel_rfl
def g3D (N:Nat) (x0:a0o) (x1:List Int) (x2:Int) (x3:Int):Option Rs :=
 on1 (b2H N x0)<|gg [pB]<|fun (x4:Bool) =>
 bi (!x4) (
  some (0,(gD (.sl a0i)).dv ([]:List a0h) [])) <|
 on1 (b8x N x0.1)<|gg [pI]<|fun (x5:Int) =>
 bi (x5 == 4) (
  on1 (f5T N x1 x0.2.1)<|gg [pI]<|fun (x6:Int) =>
  bi (x6 == 2) (
   on1 (f2f N 3 (f1W.mk x0 x2 x3 ([]:List a0h)))<|gg [f1X]<|fun (x7:f1W) =>
   some (0,(gD (.sl a0i)).dv x7.Out [])) <|
  on1 (f2f N 2 (f1W.mk x0 x2 x3 ([]:List a0h)))<|gg [f1X]<|fun (x8:f1W) =>
  some (0,(gD (.sl a0i)).dv x8.Out [])) <|
 bi (x5 == 5) (
  on1 (f5T N x1 x0.2.2.2.1)<|gg [pI]<|fun (x9:Int) =>
  bi (x9 == 1) (
   on1 (f2u N 5 x0.2.2.2.1 (f1W.mk x0 x2 x3 ([]:List a0h)))<|gg [f1X]<|fun (x10:f1W) =>
   on1 (f2f N 4 x10)<|gg [f1X]<|fun (x11:f1W) =>
   some (0,(gD (.sl a0i)).dv x11.Out [])) <|
  on1 (f2f N 4 (f1W.mk x0 x2 x3 ([]:List a0h)))<|gg [f1X]<|fun (x12:f1W) =>
  some (0,(gD (.sl a0i)).dv x12.Out [])) <|
 bi (x5 == 6) (
  on1 (f9s N x0 x1)<|gg [pB]<|fun (x13:Bool) =>
  bi x13 (
   on1 (f2f N 9 (f1W.mk x0 x2 x3 ([]:List a0h)))<|gg [f1X]<|fun (x14:f1W) =>
   some (0,(gD (.sl a0i)).dv x14.Out [])) <|
  on1 (f5D N x0 x1)<|gg [pD (.sl tI)]<|fun (x15:List Int) =>
  on1 (f2J N 5 x15 (f1W.mk x0 x2 x3 ([]:List a0h)))<|gg [f1X]<|fun (x16:f1W) =>
  on1 (f2m N 10 x16)<|gg [f1X]<|fun (x17:f1W) =>
  some (0,(gD (.sl a0i)).dv x17.Out [])) <|
 bi (x5 == 7) (
  on1 (f2m N 11 (f1W.mk x0 x2 x3 ([]:List a0h)))<|gg [f1X]<|fun (x18:f1W) =>
  some (0,(gD (.sl a0i)).dv x18.Out [])) <|
 bi (x5 == 8) (
  on1 (f2m N 12 (f1W.mk x0 x2 x3 ([]:List a0h)))<|gg [f1X]<|fun (x19:f1W) =>
  some (0,(gD (.sl a0i)).dv x19.Out [])) <|
 on1 (f6v N x0 x1)<|gg [pI]<|fun (x20:Int) =>
 bi (x20 == 1) (
  on1 (f2f N 1 (f1W.mk x0 x2 x3 ([]:List a0h)))<|gg [f1X]<|fun (x21:f1W) =>
  some (0,(gD (.sl a0i)).dv x21.Out [])) <|
 on1 (f5D N x0 x1)<|gg [pD (.sl tI)]<|fun (x22:List Int) =>
 on1 (f2J N 5 x22 (f1W.mk x0 x2 x3 ([]:List a0h)))<|gg [f1X]<|fun (x23:f1W) =>
 some (0,(gD (.sl a0i)).dv x23.Out [])
def g3R (N:Nat):CE:=(g3Q,mkF [a2S,pD (.ar 16 tI),pI,pI] [pD (.sl a0i)] (g3D N))
theorem g5f (N:Nat):CEok Q (g3R N) :=
 fnG (hi:=g5h) (l:=[b4w N,b2I N,f7G N,f4Y N,f8K N,f4D N,f8f N,f3N N,f9G N,f4E N]) (t:=[]) a0r hmix ⟨b9Y N,b8k N,g0m N,f7i N,g1m N,f6x N,f9N N,f4Z N,g1Q N,f6A N,trivial⟩ ⟨rfl,rfl,rfl,rfl,rfl,rfl,rfl,rfl,rfl,rfl,rfl,rfl,rfl,rfl,rfl,rfl,rfl,rfl,rfl,trivial⟩ g6I (by kernel_rfl) (by kernel_rfl) trivial fun ys=>by kernel_rfl
def g3G:CS:=⟨294,249,⟨[.agg [.d tI,.d tI,.d tI,.d tI,.d tI],.agg [.d (.ar 16 tI)],.one (.d tI),.one (.d tI)],[]⟩,[.one (.o a0i)],true,[]⟩
def g5n:Hi:=⟨[((1,1),b4b),((4,2),b2K),((5,2),f7S),((6,3),f5H),((6,4),f3c),((7,1),f2o),((9,3),f5t),((10,1),f2o),((12,3),f5t),((13,3),f3j),((14,3),f3j),((16,2),f9A),((17,1),f2t),((18,3),f5H),((18,4),f3c),((19,1),f2o),((21,1),f2t),((23,1),f2t)],[],[12,24,32,38,41,47,56,60,70,74],[],[]⟩
theorem g6f:Fn Q 249 f249 (codeOf f249):=by constructor <;> kernel_rfl
def g3V (N:Nat) (x0:a0o) (x1:List Int) (x2:Int) (x3:Int):Option Rs :=
 on1 (b2H N x0)<|gg [pB]<|fun (x4:Bool) =>
 bi (!x4) (
  some (0,(gD (.sl a0i)).dv ([]:List a0h) [])) <|
 on1 (b8x N x0.1)<|gg [pI]<|fun (x5:Int) =>
 bi (x5 == 4) (
  on1 (f5T N x1 x0.2.1)<|gg [pI]<|fun (x6:Int) =>
  bi (x6 == 2) (
   on1 (f2f N 7 (f1W.mk x0 x2 x3 ([]:List a0h)))<|gg [f1X]<|fun (x7:f1W) =>
   some (0,(gD (.sl a0i)).dv x7.Out [])) <|
  some (0,(gD (.sl a0i)).dv ([]:List a0h) [])) <|
 bi (x5 == 5) (
  on1 (f5T N x1 x0.2.2.2.1)<|gg [pI]<|fun (x8:Int) =>
  bi (x8 == 1) (
   on1 (f2u N 6 x0.2.2.2.1 (f1W.mk x0 x2 x3 ([]:List a0h)))<|gg [f1X]<|fun (x9:f1W) =>
   on1 (f2u N 8 x0.2.2.2.1 x9)<|gg [f1X]<|fun (x10:f1W) =>
   some (0,(gD (.sl a0i)).dv x10.Out [])) <|
  on1 (f2u N 8 x0.2.2.2.1 (f1W.mk x0 x2 x3 ([]:List a0h)))<|gg [f1X]<|fun (x11:f1W) =>
  some (0,(gD (.sl a0i)).dv x11.Out [])) <|
 bi (x5 == 6) (
  on1 (f9s N x0 x1)<|gg [pB]<|fun (x12:Bool) =>
  bi x12 (
   on1 (f2m N 10 (f1W.mk x0 x2 x3 ([]:List a0h)))<|gg [f1X]<|fun (x13:f1W) =>
   some (0,(gD (.sl a0i)).dv x13.Out [])) <|
  on1 (f5D N x0 x1)<|gg [pD (.sl tI)]<|fun (x14:List Int) =>
  on1 (f2J N 6 x14 (f1W.mk x0 x2 x3 ([]:List a0h)))<|gg [f1X]<|fun (x15:f1W) =>
  on1 (f2f N 9 x15)<|gg [f1X]<|fun (x16:f1W) =>
  some (0,(gD (.sl a0i)).dv x16.Out [])) <|
 bi (x5 == 7) (
  on1 (f2m N 11 (f1W.mk x0 x2 x3 ([]:List a0h)))<|gg [f1X]<|fun (x17:f1W) =>
  some (0,(gD (.sl a0i)).dv x17.Out [])) <|
 bi (x5 == 8) (
  on1 (f2m N 12 (f1W.mk x0 x2 x3 ([]:List a0h)))<|gg [f1X]<|fun (x18:f1W) =>
  some (0,(gD (.sl a0i)).dv x18.Out [])) <|
 on1 (f6v N x0 x1)<|gg [pI]<|fun (x19:Int) =>
 bi (x19 != 1) (
  on1 (f5D N x0 x1)<|gg [pD (.sl tI)]<|fun (x20:List Int) =>
  on1 (f2J N 6 x20 (f1W.mk x0 x2 x3 ([]:List a0h)))<|gg [f1X]<|fun (x21:f1W) =>
  on1 (f2f N 1 x21)<|gg [f1X]<|fun (x22:f1W) =>
  some (0,(gD (.sl a0i)).dv x22.Out [])) <|
 some (0,(gD (.sl a0i)).dv ([]:List a0h) [])
def g3E (N:Nat):CE:=(g3G,mkF [a2S,pD (.ar 16 tI),pI,pI] [pD (.sl a0i)] (g3V N))
theorem g4Z (N:Nat):CEok Q (g3E N) :=
 fnG (hi:=g5n) (l:=[b4w N,b2I N,f7G N,f8K N,f4D N,f4Y N,f8f N,f3N N,f9G N,f4E N]) (t:=[]) a0r hmix ⟨b9Y N,b8k N,g0m N,g1m N,f6x N,f7i N,f9N N,f4Z N,g1Q N,f6A N,trivial⟩ ⟨rfl,rfl,rfl,rfl,rfl,rfl,rfl,rfl,rfl,rfl,rfl,rfl,rfl,rfl,rfl,rfl,rfl,rfl,trivial⟩ g6f (by kernel_rfl) (by kernel_rfl) trivial fun ys=>by kernel_rfl
def f7v:CS:=⟨295,186,⟨[.agg [.d (.sl a0y),.d tI,.d (.sl tU)],.agg [.d (.ar 16 tI)]],[]⟩,[.agg [.o a0n,.d (.ar 16 tI)],.one (.d tI)],false,[]⟩
def f8z:LS:=⟨⟨[.no,.no,.one (.p 0 0 [1,1,1]),.one (.p 1 0 [16]),.one (.p 2 0 [1,16]),.no,.one (.p 3 0 [1,16]),.no,.one (.p 4 0 [1,1,1,1,1,1])]++nos 13++[.one (.d tI),.one (.d tI)]++nos 16++[.one (.d (.sl a0y)),.one (.d tI),.one (.d tI)]++nos 43,[[.d (.sl a0y),.d tI,.d (.sl tU)],[.d (.ar 16 tI)],[.d (.sl a0n),.d (.ar 16 tI)],[.oh 4 6 [1,1,1,1,1,1],.d (.ar 16 tI)],[.d tI,.d tI,.d tI,.d tI,.o a0i,.o a0i]]⟩,[(3,⟨[.no,.no,.one (.p 0 0 [1,1,1]),.one (.p 1 0 [16]),.one (.p 2 0 [1,16]),.no,.one (.p 3 0 [1,16])]++nos 15++[.one (.d tI),.one (.d tI)]++nos 62,[[.d (.sl a0y),.d tI,.d (.sl tU)],[.d (.ar 16 tI)],[.d (.sl a0n),.d (.ar 16 tI)],[.oh 4 6 [1,1,1,1,1,1],.d (.ar 16 tI)],[.d tI,.d tI,.d tI,.d tI,.o a0i,.o a0i]]⟩)]⟩
def f2U:LS:=⟨⟨[.no,.no,.one (.p 0 0 [1,1,1]),.one (.p 1 0 [16]),.one (.p 2 0 [1,16]),.no,.one (.p 3 0 [1,16])]++nos 15++[.one (.d tI),.one (.d tI)]++nos 62,[[.d (.sl a0y),.d tI,.d (.sl tU)],[.d (.ar 16 tI)],[.d (.sl a0n),.d (.ar 16 tI)],q_4]⟩,[(1,⟨[.no,.no,.one (.p 0 0 [1,1,1]),.one (.p 1 0 [16]),.one (.p 2 0 [1,16]),.no,.one (.p 3 0 [1,16])]++nos 79,[[.d (.sl a0y),.d tI,.d (.sl tU)],[.d (.ar 16 tI)],[.d (.sl a0n),.d (.ar 16 tI)],[.o a0n,.d (.ar 16 tI)]]⟩)]⟩
def f2I:Hi:=⟨[((1,2),f8o),((3,1),f9S),((11,14),g3Q),((12,14),g3G)],[(0,f2U),(2,f8z)],[14,24,43],[],[]⟩
theorem g5y:Fn Q 186 f186 (codeOf f186):=by constructor <;> kernel_rfl
def f2P (N:Nat):List CE:=[f8w N,f9R N,g3R N,g3E N]
theorem f6D (N:Nat):AllP (CEok Q) (f2P N):=⟨g1y N,g2P N,g5f N,g4Z N,trivial⟩
theorem f7U (N:Nat):AllP (fun e=>lookC (f2P N) e.2.id = some e.2) f2I.cs:=⟨rfl,rfl,rfl,rfl,trivial⟩
def f5m (N:Nat) (again:Fn' (Option Rs) [pI,pI,pD (.sl a0y),pI,pI,pD (.sl a0y),pI,pD (.sl tU),pD (.ar 16 tI),pD (.sl a0n),pD (.ar 16 tI),pI,pI,pD (.ar 16 tI),pI,pI,pI,pI,pD (.sl a0i),pD (.sl a0i)]) (x0:Int) (x1:Int) (x2:List a0o) (x3:Int) (x4:Int) (x5:List a0o) (x6:Int) (x7:List Int) (x8:List Int) (x9:List a0x) (x10:List Int) (x11:Int) (x12:Int) (x13:List Int) (x14:Int) (x15:Int) (x16:Int) (x17:Int) (x18:List a0h) (x19:List a0h):Option Rs :=
 bi (decide (x4 < x3)) (
  gd (idx x4 (List.length x2)) <|
  on1 (g3D N (List.getD x2 x4.toNat a0o.z) x8 (w.i64 (x14+x4)) x4)<|gg [pD (.sl a0i)]<|fun (x20:List a0h) =>
  gd (rm x18 x20 72) <|
  on1 (g3V N (List.getD x2 x4.toNat a0o.z) x8 (w.i64 (x14+x4)) x4)<|gg [pD (.sl a0i)]<|fun (x21:List a0h) =>
  gd (rm x19 x21 72) <|
  again x0 x1 x2 x3 (w.i64 (x4+1)) x5 x6 x7 x8 x9 x10 x11 x12 x13 x14 x15 x16 x17 (x18++x20) (x19++x21)) <|
 some (3,gI.dv x0 (gI.dv x1 ((gD (.sl a0y)).dv x5 (gI.dv x6 ((gD (.sl tU)).dv x7 ((gD (.ar 16 tI)).dv x8 ((gD (.sl a0n)).dv x9 ((gD (.ar 16 tI)).dv x10 (gI.dv x11 (gI.dv x12 ((gD (.ar 16 tI)).dv x13 (gI.dv x14 (gI.dv x15 (gI.dv x16 (gI.dv x17 ((gD (.sl a0i)).dv x18 ((gD (.sl a0i)).dv x19 [])))))))))))))))))
def f2G (N:Nat):Nat→Fn' (Option Rs) [pI,pI,pD (.sl a0y),pI,pI,pD (.sl a0y),pI,pD (.sl tU),pD (.ar 16 tI),pD (.sl a0n),pD (.ar 16 tI),pI,pI,pD (.ar 16 tI),pI,pI,pI,pI,pD (.sl a0i),pD (.sl a0i)]:=lpG (f5m N)
def f4K (N:Nat):LE:=(2,mkM [pI,pI,pD (.sl a0y),pI,pI,pD (.sl a0y),pI,pD (.sl tU),pD (.ar 16 tI),pD (.sl a0n),pD (.ar 16 tI),pI,pI,pD (.ar 16 tI),pI,pI,pI,pI,pD (.sl a0i),pD (.sl a0i)] [(3,[pI,pI,pD (.sl a0y),pI,pD (.sl tU),pD (.ar 16 tI),pD (.sl a0n),pD (.ar 16 tI),pI,pI,pD (.ar 16 tI),pI,pI,pI,pI,pD (.sl a0i),pD (.sl a0i)])] (f2G N N))
theorem g1t (N:Nat):LEok Q f2I (bodOf f186) f186.ntmps 5 (f4K N) :=
 loopG (hi:=f2I) (l:=f2P N) (t:=[]) (r:=f5m N) a0r hmix (f6D N) (f7U N) g5y trivial (ls:=f8z) (body:=bodyAt f186 2) (by kernel_rfl) (by kernel_rfl) fun A ys=>by kernel_rfl
def f5J:LS:=⟨⟨[.no,.no,.one (.p 0 0 [1,1,1]),.one (.p 1 0 [16]),.one (.p 2 0 [1,16]),.no,.one (.p 3 0 [1,16])]++nos 15++[.one (.d tI),.one (.d tI)]++nos 62,[[.d (.sl a0y),.d tI,.d (.sl tU)],[.d (.ar 16 tI)],[.d (.sl a0n),.d (.ar 16 tI)],[.oh 4 6 [1,1,1,1,1,1],.d (.ar 16 tI)],[.d tI,.d tI,.d tI,.d tI,.o a0i,.o a0i]]⟩,[]⟩
def f5Z (N:Nat) (again:Fn' (Option Rs) [pI,pI,pD (.sl a0y),pI,pD (.sl tU),pD (.ar 16 tI),pD (.sl a0n),pD (.ar 16 tI),pI,pI,pD (.ar 16 tI),pI,pI,pI,pI,pD (.sl a0i),pD (.sl a0i)]) (x0:Int) (x1:Int) (x2:List a0o) (x3:Int) (x4:List Int) (x5:List Int) (x6:List a0x) (x7:List Int) (x8:Int) (x9:Int) (x10:List Int) (x11:Int) (x12:Int) (x13:Int) (x14:Int) (x15:List a0h) (x16:List a0h):Option Rs :=
 gd (decide (x1 < x0)) <|
 gd (decide (x1 = x9∧0≤x1∧x1 < x8)) <|
 gd (sb x12 (len x2)) <|
 gd (sb x11 x12) <|
 onA 3 (f2G N N x0 x1 (List.take (x12.toNat - x11.toNat) (List.drop x11.toNat x2)) (len (List.take (x12.toNat - x11.toNat) (List.drop x11.toNat x2))) 0 x2 x3 x4 x5 x6 x7 x8 x9 x10 x11 x12 x13 x14 x15 x16)<|gg [pI,pI,pD (.sl a0y),pI,pD (.sl tU),pD (.ar 16 tI),pD (.sl a0n),pD (.ar 16 tI),pI,pI,pD (.ar 16 tI),pI,pI,pI,pI,pD (.sl a0i),pD (.sl a0i)]<|fun (x17:Int) (x18:Int) (x19:List a0o) (x20:Int) (x21:List Int) (x22:List Int) (x23:List a0x) (x24:List Int) (x25:Int) (x26:Int) (x27:List Int) (x28:Int) (x29:Int) (x30:Int) (x31:Int) (x32:List a0h) (x33:List a0h) =>
 again x17 (w.i64 (x18+1)) x19 x20 x21 x22 x23 x24 x25 x26 x27 x28 x29 x30 x31 x32 x33
theorem f9x (N:Nat) (A:List DV→Option Rs):∀ ys,round cx0 f2I (ctL (f2P N)) (ltL [f4K N]) f186.ntmps 5 0 f5J (bodyAt f186 0) A (dvG [pI,pI,pD (.sl a0y),pI,pD (.sl tU),pD (.ar 16 tI),pD (.sl a0n),pD (.ar 16 tI),pI,pI,pD (.ar 16 tI),pI,pI,pI,pI,pD (.sl a0i),pD (.sl a0i)] ys) = apG [pI,pI,pD (.sl a0y),pI,pD (.sl tU),pD (.ar 16 tI),pD (.sl a0n),pD (.ar 16 tI),pI,pI,pD (.ar 16 tI),pI,pI,pI,pI,pD (.sl a0i),pD (.sl a0i)] (f5Z N (cK [pI,pI,pD (.sl a0y),pI,pD (.sl tU),pD (.ar 16 tI),pD (.sl a0n),pD (.ar 16 tI),pI,pI,pD (.ar 16 tI),pI,pI,pI,pI,pD (.sl a0i),pD (.sl a0i)] A)) ys:=fun ys=>by kernel_rfl
def f5v:LS:=⟨⟨[.no,.no,.one (.p 0 0 [1,1,1]),.one (.p 1 0 [16]),.one (.p 2 0 [1,16]),.no,.one (.p 3 0 [1,16])]++nos 15++[.one (.d tI),.one (.d tI)]++nos 62,[[.d (.sl a0y),.d tI,.d (.sl tU)],[.d (.ar 16 tI)],[.d (.sl a0n),.d (.ar 16 tI)],[.oh 3 6 [1,1,1,1,1,1],.d (.ar 16 tI)]]⟩,[(1,⟨[.no,.no,.one (.p 0 0 [1,1,1]),.one (.p 1 0 [16]),.one (.p 2 0 [1,16]),.no,.one (.p 3 0 [1,16])]++nos 79,[[.d (.sl a0y),.d tI,.d (.sl tU)],[.d (.ar 16 tI)],[.d (.sl a0n),.d (.ar 16 tI)],[.oh 3 6 [1,1,1,1,1,1],.d (.ar 16 tI)]]⟩)]⟩
def f6a (N:Nat) (again:Fn' (Option Rs) [pI,pI,pD (.sl a0y),pI,pD (.sl tU),pD (.ar 16 tI),pD (.sl a0n),pD (.ar 16 tI),pI,pI,pD (.ar 16 tI)]) (x0:Int) (x1:Int) (x2:List a0o) (x3:Int) (x4:List Int) (x5:List Int) (x6:List a0x) (x7:List Int) (x8:Int) (x9:Int) (x10:List Int):Option Rs :=
 bi (decide (x1 < x0)) (
  gd (decide (x1 = x9∧0≤x1∧x1 < x8)) <|
  none) <|
 some (1,(gD (.sl a0y)).dv x2 (gI.dv x3 ((gD (.sl tU)).dv x4 ((gD (.ar 16 tI)).dv x5 ((gD (.sl a0n)).dv x6 ((gD (.ar 16 tI)).dv x7 (gI.dv x8 (gI.dv x9 ((gD (.ar 16 tI)).dv x10 [])))))))))
theorem f9F (N:Nat) (A:List DV→Option Rs):∀ ys,round cx0 f2I (ctL (f2P N)) (ltL []) f186.ntmps 4 0 f5v (bodyAt f186 0) A (dvG [pI,pI,pD (.sl a0y),pI,pD (.sl tU),pD (.ar 16 tI),pD (.sl a0n),pD (.ar 16 tI),pI,pI,pD (.ar 16 tI)] ys) = apG [pI,pI,pD (.sl a0y),pI,pD (.sl tU),pD (.ar 16 tI),pD (.sl a0n),pD (.ar 16 tI),pI,pI,pD (.ar 16 tI)] (f6a N (cK [pI,pI,pD (.sl a0y),pI,pD (.sl tU),pD (.ar 16 tI),pD (.sl a0n),pD (.ar 16 tI),pI,pI,pD (.ar 16 tI)] A)) ys:=fun ys=>by kernel_rfl
end
end Go.Proofs.Zz
