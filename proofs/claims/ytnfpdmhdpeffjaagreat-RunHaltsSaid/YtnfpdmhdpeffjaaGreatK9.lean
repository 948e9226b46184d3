import Derived.Test.YtnfpdmhdpeffjaaGreatK7
set_option linter.unusedSimpArgs false
set_option linter.unusedVariables false
/- What functions of the program compute, as plain functions. -/
set_option maxRecDepth 100000
namespace Go.Proofs.Zz
noncomputable section
open Go Go.Proofs.Tryz
end
end Go.Proofs.Zz

/- What functions of the program compute, as plain functions. -/
set_option maxRecDepth 100000
namespace Go.Proofs.Zz
noncomputable section
open Go Go.Proofs.Tryz
end
end Go.Proofs.Zz

/- What functions of the program compute, as plain functions. -/
set_option maxRecDepth 100000
namespace Go.Proofs.Zz
noncomputable section
open Go Go.Proofs.Tryz
def f9n:CS:=⟨251,253,⟨[.one (.d tI),.one (.d tI),.one (.d tI)],[]⟩,[.one (.d tB)],true,[]⟩
def g2c:Hi:=⟨[],[],[9,13,17,21],[],[]⟩
theorem g6y:Fn Q 253 f253 (codeOf f253):=by constructor <;> kernel_rfl
def f6C (N:Nat) (x0:Int) (x1:Int) (x2:Int):Option Rs :=
 bi (decide (x0≥1)) (
  bi (decide (x0≤2000)) (
   bi (decide (x1≥0)) (
    bi (decide (x1≤65536)) (
     some (0,gB.dv (decide (x2≤x1)) [])) <|
    some (0,gB.dv false [])) <|
   some (0,gB.dv false [])) <|
  some (0,gB.dv false [])) <|
 some (0,gB.dv false [])
def f8R (N:Nat):CE:=(f9n,mkF [pI,pI,pI] [pB] (f6C N))
theorem g2o (N:Nat):CEok Q (f8R N) :=
 fnG (hi:=g2c) (l:=[]) (t:=[]) a0r hmix trivial trivial g6y (by kernel_rfl) (by kernel_rfl) trivial fun ys=>by kernel_rfl
def f7O:CS:=⟨252,252,⟨[.agg [.d tI,.d tI,.d tI,.d tI,.d tI]],[]⟩,[.one (.d tB)],true,[]⟩
def g0Q:Hi:=⟨[((1,1),b4b)],[],[],[],[]⟩
theorem g6h:Fn Q 252 f252 (codeOf f252):=by constructor <;> kernel_rfl
def f6L (N:Nat) (x0:a0o):Option Rs :=
 on1 (b2H N x0)<|gg [pB]<|fun (x1:Bool) =>
 some (0,gB.dv (!x1) [])
def f7D (N:Nat):CE:=(f7O,mkF [a2S] [pB] (f6L N))
theorem g0I (N:Nat):CEok Q (f7D N) :=
 fnG (hi:=g0Q) (l:=[b4w N]) (t:=[]) a0r hmix ⟨b9Y N,trivial⟩ ⟨rfl,trivial⟩ g6h (by kernel_rfl) (by kernel_rfl) trivial fun ys=>by kernel_rfl
def f4t:CS:=⟨253,287,⟨[.one (.d (.sl a0y)),.one (.f 252 [])],[]⟩,[.one (.d tI)],true,[]⟩
def f3U:LS:=⟨⟨[.one (.d (.sl a0y)),.one (.f 252 []),.no,.no,.no,.no,.no,.one (.d tI),.one (.d tI)]++nos 10,[]⟩,[(0,⟨[.no,.no,.no,.no,.one (.d tI)]++nos 14,[]⟩),(1,⟨nos 19,[]⟩)]⟩
def f2L:Hi:=⟨[((4,5),f7O)],[(0,f3U)],[9,16],[],[]⟩
theorem g4X:Fn Q 287 f287 (codeOf f287):=by constructor <;> kernel_rfl
def f2M (N:Nat):List CE:=[f7D N]
theorem f4q (N:Nat):AllP (CEok Q) (f2M N):=⟨g0I N,trivial⟩
theorem f4B (N:Nat):AllP (fun e=>lookC (f2M N) e.2.id = some e.2) f2L.cs:=⟨rfl,trivial⟩
def f2p (N:Nat) (again:Fn' (Option Rs) [pD (.sl a0y),pI,pI]) (x0:List a0o) (x1:Int) (x2:Int):Option Rs :=
 bi (decide (x2 < x1)) (
  gd (idx x2 (List.length x0)) <|
  on1 (f6L N (List.getD x0 x2.toNat a0o.z))<|gg [pB]<|fun (x3:Bool) =>
  bi x3 (
   some (0,gI.dv x2 [])) <|
  again x0 x1 (w.i64 (x2+1))) <|
 some (1,[])
def f2d (N:Nat):Nat→Fn' (Option Rs) [pD (.sl a0y),pI,pI]:=lpG (f2p N)
def f3S (N:Nat):LE:=(0,mkM [pD (.sl a0y),pI,pI] [(0,[pI]),(1,[])] (f2d N N))
theorem f6k (N:Nat):LEok Q f2L (bodOf f287) f287.ntmps 0 (f3S N) :=
 loopG (hi:=f2L) (l:=f2M N) (t:=[]) (r:=f2p N) a0r hmix (f4q N) (f4B N) g4X trivial (ls:=f3U) (body:=bodyAt f287 0) (by kernel_rfl) (by kernel_rfl) fun A ys=>by kernel_rfl
def f3C (N:Nat) (x0:List a0o):Option Rs :=
 onB 0 1 (f2d N N x0 (len x0) 0) (gg [pI]<|fun (x1:Int) =>
  some (0,gI.dv x1 []))<|gg [] <|
 some (0,gI.dv (-1:Int) [])
def f4v (N:Nat):CE:=(f4t,mkF [pD (.sl a0y)] [pI] (f3C N))
theorem f7s (N:Nat):CEok Q (f4v N) :=
 fnG (hi:=f2L) (l:=f2M N) (t:=[f3S N]) a0r hmix (f4q N) (f4B N) g4X (by kernel_rfl) (by kernel_rfl) ⟨f6k N,trivial⟩ fun ys=>by kernel_rfl
def f3H:CS:=⟨254,254,⟨[.one (.d (.sl a0y)),.one (.f 252 [])],[]⟩,[.one (.d tB)],true,[]⟩
def f6e:Hi:=⟨[((1,2),f4t)],[],[],[],[]⟩
theorem g5U:Fn Q 254 f254 (codeOf f254):=by constructor <;> kernel_rfl
def f2H (N:Nat) (x0:List a0o):Option Rs :=
 on1 (f3C N x0)<|gg [pI]<|fun (x1:Int) =>
 some (0,gB.dv (decide (x1≥0)) [])
def f3F (N:Nat):CE:=(f3H,mkF [pD (.sl a0y)] [pB] (f2H N))
theorem f6d (N:Nat):CEok Q (f3F N) :=
 fnG (hi:=f6e) (l:=[f4v N]) (t:=[]) a0r hmix ⟨f7s N,trivial⟩ ⟨rfl,trivial⟩ g5U (by kernel_rfl) (by kernel_rfl) trivial fun ys=>by kernel_rfl
def f4J:CS:=⟨255,276,⟨[.agg [.d (.sl a0y),.d tI,.d (.sl tU)],.one (.d tI)],[]⟩,[.one (.d tI),.one (.d tB)],false,[]⟩
def g1I:Hi:=⟨[((1,6),b2K)],[],[24],[],[]⟩
theorem g6s:Fn Q 276 f276 (codeOf f276):=by constructor <;> kernel_rfl
def f2k (N:Nat) (x0:a0s) (x1:Int):Option Rs :=
 gd (idx x1 (List.length x0.Code)) <|
 on1 (b8x N ((List.getD x0.Code x1.toNat a0o.z).1))<|gg [pI]<|fun (x2:Int) =>
 gd (idx x1 (List.length x0.Code)) <|
 bi (x2 == 6) (
  some (0,gI.dv (w.i64 (x1+(List.getD x0.Code x1.toNat a0o.z).2.2.2.2.1)) (gB.dv true []))) <|
 some (0,gI.dv (w.i64 (x1+(List.getD x0.Code x1.toNat a0o.z).2.2.2.2.1)) (gB.dv (x2 == 7) []))
def f4M (N:Nat):CE:=(f4J,mkF [a0p,pI] [pI,pB] (f2k N))
theorem f6c (N:Nat):CEok Q (f4M N) :=
 fnG (hi:=g1I) (l:=[b2I N]) (t:=[]) a0r hmix ⟨b8k N,trivial⟩ ⟨rfl,trivial⟩ g6s (by kernel_rfl) (by kernel_rfl) trivial fun ys=>by kernel_rfl
def f7z:CS:=⟨256,255,⟨[.agg [.d (.sl a0y),.d tI,.d (.sl tU)]],[]⟩,[.one (.d tI)],true,[]⟩
def f6n:LS:=⟨⟨[.no,.one (.p 0 0 [1,1,1])]++nos 6++[.one (.d (.sl a0y)),.one (.d tI),.one (.d tI)]++nos 29,[[.d (.sl a0y),.d tI,.d (.sl tU)]]⟩,[(0,⟨[.no,.no,.one (.d tI)]++nos 37,[]⟩),(1,⟨nos 40,[]⟩)]⟩
def f4r:Hi:=⟨[((4,2),f4J)],[(0,f6n)],[11,22,28,38],[],[]⟩
theorem g5V:Fn Q 255 f255 (codeOf f255):=by constructor <;> kernel_rfl
def f4c (N:Nat):List CE:=[f4M N]
theorem f7l (N:Nat):AllP (CEok Q) (f4c N):=⟨f6c N,trivial⟩
theorem f7T (N:Nat):AllP (fun e=>lookC (f4c N) e.2.id = some e.2) f4r.cs:=⟨rfl,trivial⟩
def f3I (N:Nat) (again:Fn' (Option Rs) [pD (.sl a0y),pI,pI,a0p]) (x0:List a0o) (x1:Int) (x2:Int) (x3:a0s):Option Rs :=
 bi (decide (x2 < x1)) (
  gd (idx x2 (List.length x0)) <|
  on1 (f2k N x3 x2)<|gg [pI,pB]<|fun (x4:Int) (x5:Bool) =>
  bi x5 (
   bi (decide ((List.getD x0 x2.toNat a0o.z).2.2.2.2.1 < (w.i64 (0 - x2)))) (
    some (0,gI.dv 4 [])) <|
   bi (decide ((List.getD x0 x2.toNat a0o.z).2.2.2.2.1≥(w.i64 ((len x3.Code) - x2)))) (
    some (0,gI.dv 4 [])) <|
   again x0 x1 (w.i64 (x2+1)) x3) <|
  again x0 x1 (w.i64 (x2+1)) x3) <|
 some (1,[])
def f3l (N:Nat):Nat→Fn' (Option Rs) [pD (.sl a0y),pI,pI,a0p]:=lpG (f3I N)
def f6p (N:Nat):LE:=(0,mkM [pD (.sl a0y),pI,pI,a0p] [(0,[pI]),(1,[])] (f3l N N))
theorem f9E (N:Nat):LEok Q f4r (bodOf f255) f255.ntmps 0 (f6p N) :=
 loopG (hi:=f4r) (l:=f4c N) (t:=[]) (r:=f3I N) a0r hmix (f7l N) (f7T N) g5V trivial (ls:=f6n) (body:=bodyAt f255 0) (by kernel_rfl) (by kernel_rfl) fun A ys=>by kernel_rfl
def f6H (N:Nat) (x0:a0s):Option Rs :=
 onB 0 1 (f3l N N x0.Code (len x0.Code) 0 x0) (gg [pI]<|fun (x1:Int) =>
  some (0,gI.dv x1 []))<|gg [] <|
 some (0,gI.dv 0 [])
def f7P (N:Nat):CE:=(f7z,mkF [a0p] [pI] (f6H N))
theorem g0J (N:Nat):CEok Q (f7P N) :=
 fnG (hi:=f4r) (l:=f4c N) (t:=[f6p N]) a0r hmix (f7l N) (f7T N) g5V (by kernel_rfl) (by kernel_rfl) ⟨f9E N,trivial⟩ fun ys=>by kernel_rfl
def f5r:CS:=⟨257,188,⟨[.agg [.d (.sl a0y),.d tI,.d (.sl tU)]],[]⟩,[.one (.d tB)],true,[]⟩
def g2f:Hi:=⟨[((2,8),f9n),((2,13),f3H),((2,18),f7z)],[],[13,20],[],[]⟩
theorem g6C:Fn Q 188 f188 (codeOf f188):=by constructor <;> kernel_rfl
def f4F (N:Nat) (x0:a0s):Option Rs :=
 on1 (f6C N (len x0.Code) x0.Size (len x0.Data))<|gg [pB]<|fun (x1:Bool) =>
 bi x1 (
  on1 (f2H N x0.Code)<|gg [pB]<|fun (x2:Bool) =>
  bi (!x2) (
   on1 (f6H N x0)<|gg [pI]<|fun (x3:Int) =>
   some (0,gB.dv (x3 == 0) [])) <|
  some (0,gB.dv false [])) <|
 some (0,gB.dv false [])
def f5q (N:Nat):CE:=(f5r,mkF [a0p] [pB] (f4F N))
theorem f6N (N:Nat):CEok Q (f5q N) :=
 fnG (hi:=g2f) (l:=[f8R N,f3F N,f7P N]) (t:=[]) a0r hmix ⟨g2o N,f6d N,g0J N,trivial⟩ ⟨rfl,rfl,rfl,trivial⟩ g6C (by kernel_rfl) (by kernel_rfl) trivial fun ys=>by kernel_rfl
def f7d:CS:=⟨258,272,⟨[.one (.d tI)],[]⟩,[.one (.d tB)],true,[]⟩
def g0A:Hi:=⟨[],[],[5],[],[]⟩
theorem g6m:Fn Q 272 f272 (codeOf f272):=by constructor <;> kernel_rfl
def f4L (N:Nat) (x0:Int):Option Rs :=
 bi (x0 != 1) (
  some (0,gB.dv (x0 != 2) [])) <|
 some (0,gB.dv false [])
def f6Y (N:Nat):CE:=(f7d,mkF [pI] [pB] (f4L N))
theorem g0v (N:Nat):CEok Q (f6Y N) :=
 fnG (hi:=g0A) (l:=[]) (t:=[]) a0r hmix trivial trivial g6m (by kernel_rfl) (by kernel_rfl) trivial fun ys=>by kernel_rfl
def f5e:CS:=⟨259,129,⟨[.one (.d (.sl tI)),.one (.f 272 [])],[]⟩,[.one (.d tI)],true,[]⟩
def f4y:LS:=⟨⟨[.one (.d (.sl tI)),.one (.f 272 []),.no,.no,.no,.no,.no,.one (.d tI),.one (.d tI)]++nos 10,[]⟩,[(0,⟨[.no,.no,.no,.no,.one (.d tI)]++nos 14,[]⟩),(1,⟨nos 19,[]⟩)]⟩
def f2W:Hi:=⟨[((4,5),f7d)],[(0,f4y)],[9,16],[],[]⟩
def f2X (N:Nat):List CE:=[f6Y N]
theorem f4R (N:Nat):AllP (CEok Q) (f2X N):=⟨g0v N,trivial⟩
theorem f5f (N:Nat):AllP (fun e=>lookC (f2X N) e.2.id = some e.2) f2W.cs:=⟨rfl,trivial⟩
def f2y (N:Nat) (again:Fn' (Option Rs) [pD (.sl tI),pI,pI]) (x0:List Int) (x1:Int) (x2:Int):Option Rs :=
 bi (decide (x2 < x1)) (
  gd (idx x2 (List.length x0)) <|
  on1 (f4L N (List.getD x0 x2.toNat 0))<|gg [pB]<|fun (x3:Bool) =>
  bi x3 (
   some (0,gI.dv x2 [])) <|
  again x0 x1 (w.i64 (x2+1))) <|
 some (1,[])
def f2h (N:Nat):Nat→Fn' (Option Rs) [pD (.sl tI),pI,pI]:=lpG (f2y N)
def f4w (N:Nat):LE:=(0,mkM [pD (.sl tI),pI,pI] [(0,[pI]),(1,[])] (f2h N N))
theorem f7q (N:Nat):LEok Q f2W (bodOf f129) f129.ntmps 0 (f4w N) :=
 loopG (hi:=f2W) (l:=f2X N) (t:=[]) (r:=f2y N) a0r hmix (f4R N) (f5f N) e1B trivial (ls:=f4y) (body:=bodyAt f129 0) (by kernel_rfl) (by kernel_rfl) fun A ys=>by kernel_rfl
def f4h (N:Nat) (x0:List Int):Option Rs :=
 onB 0 1 (f2h N N x0 (len x0) 0) (gg [pI]<|fun (x1:Int) =>
  some (0,gI.dv x1 []))<|gg [] <|
 some (0,gI.dv (-1:Int) [])
def f5c (N:Nat):CE:=(f5e,mkF [pD (.sl tI)] [pI] (f4h N))
theorem f8m (N:Nat):CEok Q (f5c N) :=
 fnG (hi:=f2W) (l:=f2X N) (t:=[f4w N]) a0r hmix (f4R N) (f5f N) e1B (by kernel_rfl) (by kernel_rfl) ⟨f7q N,trivial⟩ fun ys=>by kernel_rfl
def f3Z:CS:=⟨260,74,⟨[.one (.d (.sl tI)),.one (.f 272 [])],[]⟩,[.one (.d tB)],true,[]⟩
def f6G:Hi:=⟨[((1,2),f5e)],[],[],[],[]⟩
def f2O (N:Nat) (x0:List Int):Option Rs :=
 on1 (f4h N x0)<|gg [pI]<|fun (x1:Int) =>
 some (0,gB.dv (decide (x1≥0)) [])
def f4d (N:Nat):CE:=(f3Z,mkF [pD (.sl tI)] [pB] (f2O N))
theorem f6P (N:Nat):CEok Q (f4d N) :=
 fnG (hi:=f6G) (l:=[f5c N]) (t:=[]) a0r hmix ⟨f8m N,trivial⟩ ⟨rfl,trivial⟩ f_74 (by kernel_rfl) (by kernel_rfl) trivial fun ys=>by kernel_rfl
def f7F:CS:=⟨261,296,⟨[.agg [.d tI,.d tI,.d tI,.d tI,.d tI]],[]⟩,[.one (.d tB)],true,[]⟩
def g1l:Hi:=⟨[((1,2),b2K)],[],[9],[],[]⟩
theorem g6c:Fn Q 296 f296 (codeOf f296):=by constructor <;> kernel_rfl
def f5p (N:Nat) (x0:a0o):Option Rs :=
 on1 (b8x N x0.1)<|gg [pI]<|fun (x1:Int) =>
 bi (x1 == 4) (
  some (0,gB.dv true [])) <|
 some (0,gB.dv (x1 == 5) [])
def f7B (N:Nat):CE:=(f7F,mkF [a2S] [pB] (f5p N))
theorem g0R (N:Nat):CEok Q (f7B N) :=
 fnG (hi:=g1l) (l:=[b2I N]) (t:=[]) a0r hmix ⟨b8k N,trivial⟩ ⟨rfl,trivial⟩ g6c (by kernel_rfl) (by kernel_rfl) trivial fun ys=>by kernel_rfl
def f5y:CS:=⟨262,297,⟨[.agg [.d tI,.d tI,.d tI,.d tI,.d tI]],[]⟩,[.one (.d tB)],true,[]⟩
def g1f:Hi:=⟨[((1,2),b2K)],[],[9],[],[]⟩
theorem g6D:Fn Q 297 f297 (codeOf f297):=by constructor <;> kernel_rfl
def f3v (N:Nat) (x0:a0o):Option Rs :=
 on1 (b8x N x0.1)<|gg [pI]<|fun (x1:Int) =>
 bi (decide (x1≥1)) (
  some (0,gB.dv (decide (x1≤3)) [])) <|
 some (0,gB.dv false [])
def f5F (N:Nat):CE:=(f5y,mkF [a2S] [pB] (f3v N))
theorem f7x (N:Nat):CEok Q (f5F N) :=
 fnG (hi:=g1f) (l:=[b2I N]) (t:=[]) a0r hmix ⟨b8k N,trivial⟩ ⟨rfl,trivial⟩ g6D (by kernel_rfl) (by kernel_rfl) trivial fun ys=>by kernel_rfl
def f9b:CS:=⟨263,307,⟨[.one (.d tI),.one (.p 0 0 [16])],[[.d (.ar 16 tI)]]⟩,[.one (.d tB)],true,[[.d (.ar 16 tI)]]⟩
def g2j:Hi:=⟨[],[],[],[],[]⟩
theorem g6g:Fn Q 307 f307 (codeOf f307):=by constructor <;> kernel_rfl
def f6J (N:Nat) (x0:Int) (x1:List Int):Option Rs :=
 gd (idx x0 16) <|
 some (0,gB.dv ((List.getD x1 x0.toNat 0) == 2) ((gD (.ar 16 tI)).dv x1 []))
def f9r (N:Nat):CE:=(f9b,mkF [pI,pD (.ar 16 tI)] [pB,pD (.ar 16 tI)] (f6J N))
theorem g1X (N:Nat):CEok Q (f9r N) :=
 fnG (hi:=g2j) (l:=[]) (t:=[]) a0r hmix trivial trivial g6g (by kernel_rfl) (by kernel_rfl) trivial fun ys=>by kernel_rfl
def f5d:CS:=⟨264,129,⟨[.one (.d (.sl tI)),.one (.f 307 [⟨0,0,[16]⟩])],[[.d (.ar 16 tI)]]⟩,[.one (.d tI)],true,[[.d (.ar 16 tI)]]⟩
def f4z:LS:=⟨⟨[.one (.d (.sl tI)),.one (.f 307 [⟨0,0,[16]⟩]),.no,.no,.no,.no,.no,.one (.d tI),.one (.d tI)]++nos 10,[[.d (.ar 16 tI)]]⟩,[(0,⟨[.no,.no,.no,.no,.one (.d tI)]++nos 14,[[.d (.ar 16 tI)]]⟩),(1,⟨nos 19,[[.d (.ar 16 tI)]]⟩)]⟩
def f2V:Hi:=⟨[((4,5),f9b)],[(0,f4z)],[9,16],[],[]⟩
def f2Y (N:Nat):List CE:=[f9r N]
theorem f4S (N:Nat):AllP (CEok Q) (f2Y N):=⟨g1X N,trivial⟩
theorem f5a (N:Nat):AllP (fun e=>lookC (f2Y N) e.2.id = some e.2) f2V.cs:=⟨rfl,trivial⟩
def f2w (N:Nat) (again:Fn' (Option Rs) [pD (.sl tI),pI,pI,pD (.ar 16 tI)]) (x0:List Int) (x1:Int) (x2:Int) (x3:List Int):Option Rs :=
 bi (decide (x2 < x1)) (
  gd (idx x2 (List.length x0)) <|
  on1 (f6J N (List.getD x0 x2.toNat 0) x3)<|gg [pB,pD (.ar 16 tI)]<|fun (x4:Bool) (x5:List Int) =>
  bi x4 (
   some (0,gI.dv x2 ((gD (.ar 16 tI)).dv x5 []))) <|
  again x0 x1 (w.i64 (x2+1)) x5) <|
 some (1,(gD (.ar 16 tI)).dv x3 [])
def f2i (N:Nat):Nat→Fn' (Option Rs) [pD (.sl tI),pI,pI,pD (.ar 16 tI)]:=lpG (f2w N)
def f4A (N:Nat):LE:=(0,mkM [pD (.sl tI),pI,pI,pD (.ar 16 tI)] [(0,[pI,pD (.ar 16 tI)]),(1,[pD (.ar 16 tI)])] (f2i N N))
theorem f7r (N:Nat):LEok Q f2V (bodOf f129) f129.ntmps 1 (f4A N) :=
 loopG (hi:=f2V) (l:=f2Y N) (t:=[]) (r:=f2w N) a0r hmix (f4S N) (f5a N) e1B trivial (ls:=f4z) (body:=bodyAt f129 0) (by kernel_rfl) (by kernel_rfl) fun A ys=>by kernel_rfl
def f4p (N:Nat) (x0:List Int) (x1:List Int):Option Rs :=
 onB 0 1 (f2i N N x0 (len x0) 0 x1) (gg [pI,pD (.ar 16 tI)]<|fun (x2:Int) (x3:List Int) =>
  some (0,gI.dv x2 ((gD (.ar 16 tI)).dv x3 [])))<|gg [pD (.ar 16 tI)]<|fun (x4:List Int) =>
 some (0,gI.dv (-1:Int) ((gD (.ar 16 tI)).dv x4 []))
def f5g (N:Nat):CE:=(f5d,mkF [pD (.sl tI),pD (.ar 16 tI)] [pI,pD (.ar 16 tI)] (f4p N))
theorem f8l (N:Nat):CEok Q (f5g N) :=
 fnG (hi:=f2V) (l:=f2Y N) (t:=[f4A N]) a0r hmix (f4S N) (f5a N) e1B (by kernel_rfl) (by kernel_rfl) ⟨f7r N,trivial⟩ fun ys=>by kernel_rfl
def f4o:CS:=⟨265,74,⟨[.one (.d (.sl tI)),.one (.f 307 [⟨0,0,[16]⟩])],[[.d (.ar 16 tI)]]⟩,[.one (.d tB)],true,[[.d (.ar 16 tI)]]⟩
def f6T:Hi:=⟨[((1,2),f5d)],[],[],[],[]⟩
def f3q (N:Nat) (x0:List Int) (x1:List Int):Option Rs :=
 on1 (f4p N x0 x1)<|gg [pI,pD (.ar 16 tI)]<|fun (x2:Int) (x3:List Int) =>
 some (0,gB.dv (decide (x2≥0)) ((gD (.ar 16 tI)).dv x3 []))
def f4l (N:Nat):CE:=(f4o,mkF [pD (.sl tI),pD (.ar 16 tI)] [pB,pD (.ar 16 tI)] (f3q N))
theorem f6K (N:Nat):CEok Q (f4l N) :=
 fnG (hi:=f6T) (l:=[f5g N]) (t:=[]) a0r hmix ⟨f8l N,trivial⟩ ⟨rfl,trivial⟩ f_74 (by kernel_rfl) (by kernel_rfl) trivial fun ys=>by kernel_rfl
def f8L:CS:=⟨266,298,⟨[.agg [.d tI,.d tI,.d tI,.d tI,.d tI],.agg [.d (.ar 16 tI)]],[]⟩,[.one (.d tB)],true,[]⟩
def g3C:Hi:=⟨[((1,1),c0i),((1,3),f4o)],[],[],[],[]⟩
theorem g6u:Fn Q 298 f298 (codeOf f298):=by constructor <;> kernel_rfl
def f6o (N:Nat) (x0:a0o) (x1:List Int):Option Rs :=
 on1 (b3d N x0)<|gg [pD (.sl tI)]<|fun (x2:List Int) =>
 on1 (f3q N x2 x1)<|gg [pB,pD (.ar 16 tI)]<|fun (x3:Bool) (x4:List Int) =>
 some (0,gB.dv x3 [])
def f8D (N:Nat):CE:=(f8L,mkF [a2S,pD (.ar 16 tI)] [pB] (f6o N))
theorem g0Y (N:Nat):CEok Q (f8D N) :=
 fnG (hi:=g3C) (l:=[c6F N,f4l N]) (t:=[]) a0r hmix ⟨d7A N,f6K N,trivial⟩ ⟨rfl,rfl,trivial⟩ g6u (by kernel_rfl) (by kernel_rfl) trivial fun ys=>by kernel_rfl
def f8P:CS:=⟨267,274,⟨[.agg [.d tI,.d tI,.d tI,.d tI,.d tI],.agg [.d (.ar 16 tI)]],[]⟩,[.one (.d tB)],true,[]⟩
def g2u:Hi:=⟨[((1,1),f7F),((1,11),f5y),((1,22),f8L)],[],[7,14,17,24],[],[]⟩
theorem g6E:Fn Q 274 f274 (codeOf f274):=by constructor <;> kernel_rfl
def f6U (N:Nat) (x0:a0o) (x1:List Int):Option Rs :=
 on1 (f5p N x0)<|gg [pB]<|fun (x2:Bool) =>
 bi x2 (
  gd (idx x0.2.2.1 16) <|
  bi ((List.getD x1 x0.2.2.1.toNat 0) == 2) (
   some (0,gB.dv true [])) <|
  on1 (f3v N x0)<|gg [pB]<|fun (x3:Bool) =>
  bi x3 (
   gd (idx x0.2.1 16) <|
   bi ((List.getD x1 x0.2.1.toNat 0) == 1) (
    on1 (f6o N x0 x1)<|gg [pB]<|fun (x4:Bool) =>
    some (0,gB.dv x4 [])) <|
   some (0,gB.dv false [])) <|
  some (0,gB.dv false [])) <|
 on1 (f3v N x0)<|gg [pB]<|fun (x5:Bool) =>
 bi x5 (
  gd (idx x0.2.1 16) <|
  bi ((List.getD x1 x0.2.1.toNat 0) == 1) (
   on1 (f6o N x0 x1)<|gg [pB]<|fun (x6:Bool) =>
   some (0,gB.dv x6 [])) <|
  some (0,gB.dv false [])) <|
 some (0,gB.dv false [])
def f9i (N:Nat):CE:=(f8P,mkF [a2S,pD (.ar 16 tI)] [pB] (f6U N))
theorem g2m (N:Nat):CEok Q (f9i N) :=
 fnG (hi:=g2u) (l:=[f7B N,f5F N,f8D N]) (t:=[]) a0r hmix ⟨g0R N,f7x N,g0Y N,trivial⟩ ⟨rfl,rfl,rfl,trivial⟩ g6E (by kernel_rfl) (by kernel_rfl) trivial fun ys=>by kernel_rfl
def f6X:CS:=⟨268,273,⟨[.agg [.d tI,.d tI,.d tI,.d tI,.d tI],.one (.p 0 0 [16])],[[.d (.ar 16 tI)]]⟩,[.one (.d tB)],true,[[.d (.ar 16 tI)]]⟩
def g0t:Hi:=⟨[((1,2),f8P)],[],[],[],[]⟩
theorem g6k:Fn Q 273 f273 (codeOf f273):=by constructor <;> kernel_rfl
def f6g (N:Nat) (x0:a0o) (x1:List Int):Option Rs :=
 on1 (f6U N x0 x1)<|gg [pB]<|fun (x2:Bool) =>
 some (0,gB.dv x2 ((gD (.ar 16 tI)).dv x1 []))
def f7j (N:Nat):CE:=(f6X,mkF [a2S,pD (.ar 16 tI)] [pB,pD (.ar 16 tI)] (f6g N))
theorem g0x (N:Nat):CEok Q (f7j N) :=
 fnG (hi:=g0t) (l:=[f9i N]) (t:=[]) a0r hmix ⟨g2m N,trivial⟩ ⟨rfl,trivial⟩ g6k (by kernel_rfl) (by kernel_rfl) trivial fun ys=>by kernel_rfl
def f3R:CS:=⟨269,287,⟨[.one (.d (.sl a0y)),.one (.f 273 [⟨0,0,[16]⟩])],[[.d (.ar 16 tI)]]⟩,[.one (.d tI)],true,[[.d (.ar 16 tI)]]⟩
def f3y:LS:=⟨⟨[.one (.d (.sl a0y)),.one (.f 273 [⟨0,0,[16]⟩]),.no,.no,.no,.no,.no,.one (.d tI),.one (.d tI)]++nos 10,[[.d (.ar 16 tI)]]⟩,[(0,⟨[.no,.no,.no,.no,.one (.d tI)]++nos 14,[[.d (.ar 16 tI)]]⟩),(1,⟨nos 19,[[.d (.ar 16 tI)]]⟩)]⟩
def f2E:Hi:=⟨[((4,5),f6X)],[(0,f3y)],[9,16],[],[]⟩
def f2B (N:Nat):List CE:=[f7j N]
theorem f3D (N:Nat):AllP (CEok Q) (f2B N):=⟨g0x N,trivial⟩
theorem f3Q (N:Nat):AllP (fun e=>lookC (f2B N) e.2.id = some e.2) f2E.cs:=⟨rfl,trivial⟩
def f2n (N:Nat) (again:Fn' (Option Rs) [pD (.sl a0y),pI,pI,pD (.ar 16 tI)]) (x0:List a0o) (x1:Int) (x2:Int) (x3:List Int):Option Rs :=
 bi (decide (x2 < x1)) (
  gd (idx x2 (List.length x0)) <|
  on1 (f6g N (List.getD x0 x2.toNat a0o.z) x3)<|gg [pB,pD (.ar 16 tI)]<|fun (x4:Bool) (x5:List Int) =>
  bi x4 (
   some (0,gI.dv x2 ((gD (.ar 16 tI)).dv x5 []))) <|
  again x0 x1 (w.i64 (x2+1)) x5) <|
 some (1,(gD (.ar 16 tI)).dv x3 [])
def f2c (N:Nat):Nat→Fn' (Option Rs) [pD (.sl a0y),pI,pI,pD (.ar 16 tI)]:=lpG (f2n N)
def f3A (N:Nat):LE:=(0,mkM [pD (.sl a0y),pI,pI,pD (.ar 16 tI)] [(0,[pI,pD (.ar 16 tI)]),(1,[pD (.ar 16 tI)])] (f2c N N))
theorem f5M (N:Nat):LEok Q f2E (bodOf f287) f287.ntmps 1 (f3A N) :=
 loopG (hi:=f2E) (l:=f2B N) (t:=[]) (r:=f2n N) a0r hmix (f3D N) (f3Q N) g4X trivial (ls:=f3y) (body:=bodyAt f287 0) (by kernel_rfl) (by kernel_rfl) fun A ys=>by kernel_rfl
def f3n (N:Nat) (x0:List a0o) (x1:List Int):Option Rs :=
 onB 0 1 (f2c N N x0 (len x0) 0 x1) (gg [pI,pD (.ar 16 tI)]<|fun (x2:Int) (x3:List Int) =>
  some (0,gI.dv x2 ((gD (.ar 16 tI)).dv x3 [])))<|gg [pD (.ar 16 tI)]<|fun (x4:List Int) =>
 some (0,gI.dv (-1:Int) ((gD (.ar 16 tI)).dv x4 []))
def f3W (N:Nat):CE:=(f3R,mkF [pD (.sl a0y),pD (.ar 16 tI)] [pI,pD (.ar 16 tI)] (f3n N))
theorem f6t (N:Nat):CEok Q (f3W N) :=
 fnG (hi:=f2E) (l:=f2B N) (t:=[f3A N]) a0r hmix (f3D N) (f3Q N) g4X (by kernel_rfl) (by kernel_rfl) ⟨f5M N,trivial⟩ fun ys=>by kernel_rfl
def f3s:CS:=⟨270,254,⟨[.one (.d (.sl a0y)),.one (.f 273 [⟨0,0,[16]⟩])],[[.d (.ar 16 tI)]]⟩,[.one (.d tB)],true,[[.d (.ar 16 tI)]]⟩
def f5x:Hi:=⟨[((1,2),f3R)],[],[],[],[]⟩
def f2T (N:Nat) (x0:List a0o) (x1:List Int):Option Rs :=
 on1 (f3n N x0 x1)<|gg [pI,pD (.ar 16 tI)]<|fun (x2:Int) (x3:List Int) =>
 some (0,gB.dv (decide (x2≥0)) ((gD (.ar 16 tI)).dv x3 []))
def f3t (N:Nat):CE:=(f3s,mkF [pD (.sl a0y),pD (.ar 16 tI)] [pB,pD (.ar 16 tI)] (f2T N))
theorem f5z (N:Nat):CEok Q (f3t N) :=
 fnG (hi:=f5x) (l:=[f3W N]) (t:=[]) a0r hmix ⟨f6t N,trivial⟩ ⟨rfl,trivial⟩ g5U (by kernel_rfl) (by kernel_rfl) trivial fun ys=>by kernel_rfl
def f8o:CS:=⟨271,246,⟨[.agg [.d (.sl a0y),.d tI,.d (.sl tU)],.agg [.d (.ar 16 tI)]],[]⟩,[.one (.d tB)],true,[]⟩
def g1x:Hi:=⟨[((1,1),f5r),((3,1),f3Z),((5,3),f3s)],[],[8,12,14],[],[]⟩
theorem g6p:Fn Q 246 f246 (codeOf f246):=by constructor <;> kernel_rfl
def f5S (N:Nat) (x0:a0s) (x1:List Int):Option Rs :=
 on1 (f4F N x0)<|gg [pB]<|fun (x2:Bool) =>
 bi (!x2) (
  some (0,gB.dv false [])) <|
 gd (idx 0 16) <|
 bi ((List.getD x1 0 0) != 0) (
  some (0,gB.dv false [])) <|
 gd (sb 1 16) <|
 on1 (f2O N (List.take (16 - 1) (List.drop 1 x1)))<|gg [pB]<|fun (x3:Bool) =>
 bi x3 (
  some (0,gB.dv false [])) <|
 on1 (f2T N x0.Code x1)<|gg [pB,pD (.ar 16 tI)]<|fun (x4:Bool) (x5:List Int) =>
 some (0,gB.dv (!x4) [])
def f8w (N:Nat):CE:=(f8o,mkF [a0p,pD (.ar 16 tI)] [pB] (f5S N))
theorem g1y (N:Nat):CEok Q (f8w N) :=
 fnG (hi:=g1x) (l:=[f5q N,f4d N,f3t N]) (t:=[]) a0r hmix ⟨f6N N,f6P N,f5z N,trivial⟩ ⟨rfl,rfl,rfl,trivial⟩ g6p (by kernel_rfl) (by kernel_rfl) trivial fun ys=>by kernel_rfl
end
end Go.Proofs.Zz
