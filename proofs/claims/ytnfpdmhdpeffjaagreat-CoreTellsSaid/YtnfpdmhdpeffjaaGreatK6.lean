import Derived.Test.YtnfpdmhdpeffjaaGreatK5
set_option linter.unusedSimpArgs false
set_option linter.unusedVariables false
/- What functions of the program compute, as plain functions. -/
set_option maxRecDepth 100000
namespace Go.Proofs.Zz
noncomputable section
open Go Go.Proofs.Tryz
def c8P:CS:=⟨182,44,⟨[.agg [.d (.sl a0y),.d tI,.d (.sl tU)]],[]⟩,[.agg q_1],true,[]⟩
def d6Z:Hi:=⟨[((1,1),a3g),((3,1),d1k)],[],[5],[],[]⟩
theorem f_44:Fn Q 44 f44 (codeOf f44):=by constructor <;> kernel_rfl
def c2w (N:Nat) (x0:a0s):Option Rs :=
 on1 (a1h N x0)<|gg [pB]<|fun (x1:Bool) =>
 bi (!x1) (
  some (0,a0c.dv (a0b.mk 0 a0v.z a0v.z ([]:List a0q) ([]:List Int) ([]:List Int) ([]:List Bool) ([]:List Bool) ([]:List a0a) ([]:List a0e) ([]:List Int) ([]:List a0K) a1X.z 0 0 0) [])) <|
 on1 (d3t N x0)<|gg [pD (.sl tU)]<|fun (x2:List Int) =>
 some (0,a0c.dv (a0b.mk 0 a0v.z a0v.z ([]:List a0q) ([]:List Int) ([]:List Int) ([]:List Bool) ([]:List Bool) ([]:List a0a) ([]:List a0e) x2 ([]:List a0K) a1X.z 0 0 0) [])
def c8j (N:Nat):CE:=(c8P,mkF [a0p] [a0d] (c2w N))
theorem d8s (N:Nat):CEok Q (c8j N) :=
 fnG (hi:=d6Z) (l:=[a3o N,d1n N]) (t:=[]) a0r hmix ⟨a4L N,d9O N,trivial⟩ ⟨rfl,rfl,trivial⟩ f_44 (by kernel_rfl) (by kernel_rfl) trivial fun ys=>by kernel_rfl
def b2T:CS:=⟨183,49,⟨[.one (.d tI),.one (.d tW),.one (.d tI)],[]⟩,[.one (.d tI)],true,[]⟩
def e0W:Hi:=⟨[],[],[9,15,18,22,31,34,42],[],[]⟩
theorem f_49:Fn Q 49 f49 (codeOf f49):=by constructor <;> kernel_rfl
def a5K (N:Nat) (x0:Int) (x1:Int) (x2:Int):Option Rs :=
 bi (decide (x0≥1)) (
  gf (decide (x0 = 0)) <|
  bi ((Int.tmod (w.i64 x1) x0) != 0) (
   some (0,gI.dv 1 [])) <|
  bi (decide (x0 > 0)) (
   bi (decide (x2 < x0)) (
    some (0,gI.dv 2 [])) <|
   bi (decide ((w.i64 x1) > (w.i64 (x2 - x0)))) (
    some (0,gI.dv 2 [])) <|
   bi (decide (x0≤0)) (
    bi (decide (x2 < (w.i64 ((w.i64 x1)+x0)))) (
     some (0,gI.dv 2 [])) <|
    some (0,gI.dv 0 [])) <|
   some (0,gI.dv 0 [])) <|
  bi (decide (x0≤0)) (
   bi (decide (x2 < (w.i64 ((w.i64 x1)+x0)))) (
    some (0,gI.dv 2 [])) <|
   some (0,gI.dv 0 [])) <|
  some (0,gI.dv 0 [])) <|
 bi (decide (x0 > 0)) (
  bi (decide (x2 < x0)) (
   some (0,gI.dv 2 [])) <|
  bi (decide ((w.i64 x1) > (w.i64 (x2 - x0)))) (
   some (0,gI.dv 2 [])) <|
  bi (decide (x0≤0)) (
   bi (decide (x2 < (w.i64 ((w.i64 x1)+x0)))) (
    some (0,gI.dv 2 [])) <|
   some (0,gI.dv 0 [])) <|
  some (0,gI.dv 0 [])) <|
 bi (decide (x0≤0)) (
  bi (decide (x2 < (w.i64 ((w.i64 x1)+x0)))) (
   some (0,gI.dv 2 [])) <|
  some (0,gI.dv 0 [])) <|
 some (0,gI.dv 0 [])
def b3n (N:Nat):CE:=(b2T,mkF [pI,pW,pI] [pI] (a5K N))
theorem b8v (N:Nat):CEok Q (b3n N) :=
 fnG (hi:=e0W) (l:=[]) (t:=[]) a0r hmix trivial trivial f_49 (by kernel_rfl) (by kernel_rfl) trivial fun ys=>by kernel_rfl
def b7f:CS:=⟨185,104,⟨[.one (.d tI),.one (.d tI),.one (.d tI),.one (.d tI)],[]⟩,[.one (.d tB)],true,[]⟩
def d6D:Hi:=⟨[],[],[11,14,17,23,35],[],[]⟩
theorem f0S:Fn Q 104 f104 (codeOf f104):=by constructor <;> kernel_rfl
def b2W (N:Nat) (x0:Int) (x1:Int) (x2:Int) (x3:Int):Option Rs :=
 bi (decide (x1 < 1)) (
  some (0,gB.dv false [])) <|
 bi (decide (x3 < 1)) (
  some (0,gB.dv false [])) <|
 bi (decide (x0≤x2)) (
  bi (decide (x2 < (w.i64 (x0+x1)))) (
   some (0,gB.dv true [])) <|
  some (0,gB.dv (decide ((w.i64 (x0+x1)) < x0)) [])) <|
 bi (decide (x0 < (w.i64 (x2+x3)))) (
  some (0,gB.dv true [])) <|
 some (0,gB.dv (decide ((w.i64 (x2+x3)) < x2)) [])
def b6e (N:Nat):CE:=(b7f,mkF [pI,pI,pI,pI] [pB] (b2W N))
theorem c4G (N:Nat):CEok Q (b6e N) :=
 fnG (hi:=d6D) (l:=[]) (t:=[]) a0r hmix trivial trivial f0S (by kernel_rfl) (by kernel_rfl) trivial fun ys=>by kernel_rfl
def c4x:CS:=⟨186,46,⟨[.one (.d (.sl a0t)),.one (.d tI),.one (.d tI)],[]⟩,[.agg [.d tI,.d tI,.d tI,.d tB,.d tW],.one (.d tB)],false,[]⟩
def b8Z:LS:=⟨⟨[.one (.d (.sl a0t)),.one (.d tI),.one (.d tI),.no,.no,.no,.one (.p 0 0 [1,1,1,1,1]),.no,.one (.d tI)]++nos 25,[[.d tI,.d tI,.d tI,.d tB,.d tW]]⟩,[(0,⟨nos 6++[.one (.p 0 0 [1,1,1,1,1]),.one (.d tB)]++nos 26,[[.d tI,.d tI,.d tI,.d tB,.d tW]]⟩),(1,⟨nos 6++[.one (.p 0 0 [1,1,1,1,1])]++nos 27,[[.d tI,.d tI,.d tI,.d tB,.d tW]]⟩)]⟩
def b2h:Hi:=⟨[((4,12),b7f)],[(0,b8Z)],[13,28],[],[]⟩
theorem f_46:Fn Q 46 f46 (codeOf f46):=by constructor <;> kernel_rfl
def b2d (N:Nat):List CE:=[b6e N]
theorem c2t (N:Nat):AllP (CEok Q) (b2d N):=⟨c4G N,trivial⟩
theorem c5T (N:Nat):AllP (fun e=>lookC (b2d N) e.2.id = some e.2) b2h.cs:=⟨rfl,trivial⟩
def a9G (N:Nat) (again:Fn' (Option Rs) [pD (.sl a0t),pI,pI,pI,a0B]) (x0:List a0a) (x1:Int) (x2:Int) (x3:Int) (x4:a0a):Option Rs :=
 bi (decide (x3≥0)) (
  gd (idx x3 (List.length x0)) <|
  gd (idx x3 (List.length x0)) <|
  on1 (b2W N ((List.getD x0 x3.toNat a0a.z).1) ((List.getD x0 x3.toNat a0a.z).2.1) x1 x2)<|gg [pB]<|fun (x5:Bool) =>
  bi x5 (
   gd (idx x3 (List.length x0)) <|
   some (0,gB.dv true (a0M.dv (List.getD x0 x3.toNat a0a.z) []))) <|
  again x0 x1 x2 (w.i64 (x3 - 1)) x4) <|
 some (1,a0M.dv x4 [])
def a9A (N:Nat):Nat→Fn' (Option Rs) [pD (.sl a0t),pI,pI,pI,a0B]:=lpG (a9G N)
def b9Q (N:Nat):LE:=(0,mkM [pD (.sl a0t),pI,pI,pI,a0B] [(0,[pB,a0B]),(1,[a0B])] (a9A N N))
theorem c9w (N:Nat):LEok Q b2h (bodOf f46) f46.ntmps 0 (b9Q N) :=
 loopG (hi:=b2h) (l:=b2d N) (t:=[]) (r:=a9G N) a0r hmix (c2t N) (c5T N) f_46 trivial (ls:=b8Z) (body:=bodyAt f46 0) (by kernel_rfl) (by kernel_rfl) fun A ys=>by kernel_rfl
def b8m (N:Nat) (x0:List a0a) (x1:Int) (x2:Int):Option Rs :=
 onB 0 1 (a9A N N x0 x1 x2 (w.i64 ((len x0) - 1)) (a0a.z)) (gg [pB,a0B]<|fun (x3:Bool) (x4:a0a) =>
  some (0,a0M.dv x4 (gB.dv x3 [])))<|gg [a0B]<|fun (x5:a0a) =>
 some (0,a0M.dv (a0a.z) (gB.dv false []))
def c5d (N:Nat):CE:=(c4x,mkF [pD (.sl a0t),pI,pI] [a0B,pB] (b8m N))
theorem d5u (N:Nat):CEok Q (c5d N) :=
 fnG (hi:=b2h) (l:=b2d N) (t:=[b9Q N]) a0r hmix (c2t N) (c5T N) f_46 (by kernel_rfl) (by kernel_rfl) ⟨c9w N,trivial⟩ fun ys=>by kernel_rfl
def c0C:CS:=⟨187,105,⟨[.one (.d tI),.one (.d tW)],[]⟩,[.one (.d tW)],true,[]⟩
def d8l:Hi:=⟨[((3,2),a9I),((5,2),a9I)],[],[6,13],[],[]⟩
theorem f1f:Fn Q 105 f105 (codeOf f105):=by constructor <;> kernel_rfl
def b6N (N:Nat) (x0:Int) (x1:Int):Option Rs :=
 bi (x0 == 27) (
  gf (decide ((16:Int) < (0:Int))) <|
  on1 (b3t N (shl .u32 x1 16))<|gg [pI]<|fun (x2:Int) =>
  gf (decide ((16:Int) < (0:Int))) <|
  some (0,gW.dv (w.u32 (shr .i64 x2 16)) [])) <|
 bi (x0 == 29) (
  gf (decide ((24:Int) < (0:Int))) <|
  on1 (b3t N (shl .u32 x1 24))<|gg [pI]<|fun (x3:Int) =>
  gf (decide ((24:Int) < (0:Int))) <|
  some (0,gW.dv (w.u32 (shr .i64 x3 24)) [])) <|
 some (0,gW.dv x1 [])
def b9W (N:Nat):CE:=(c0C,mkF [pI,pW] [pW] (b6N N))
theorem c8B (N:Nat):CEok Q (b9W N) :=
 fnG (hi:=d8l) (l:=[c6n N]) (t:=[]) a0r hmix ⟨d2W N,trivial⟩ ⟨rfl,rfl,trivial⟩ f1f (by kernel_rfl) (by kernel_rfl) trivial fun ys=>by kernel_rfl
def c4T:CS:=⟨188,47,⟨[.agg [.d tI,.d tI,.d tI,.d tB,.d tW],.one (.d tI),.one (.d tI)],[]⟩,[.one (.d tW),.one (.d tB)],false,[]⟩
def d5g:Hi:=⟨[((1,1),a2C),((1,18),b3C),((3,3),c0C)],[],[11,16,22,28],[],[]⟩
theorem f_47:Fn Q 47 f47 (codeOf f47):=by constructor <;> kernel_rfl
def b8b (N:Nat) (x0:a0a) (x1:Int) (x2:Int):Option Rs :=
 on1 (a5s N x1)<|gg [pI]<|fun (x3:Int) =>
 bi (x3 != 4) (
  some (0,gW.dv 0 (gB.dv false []))) <|
 bi (!x0.2.2.2.1) (
  some (0,gW.dv 0 (gB.dv false []))) <|
 bi (x0.1 != x2) (
  some (0,gW.dv 0 (gB.dv false []))) <|
 on1 (c0u N x1)<|gg [pI]<|fun (x4:Int) =>
 bi (x0.2.1 != x4) (
  some (0,gW.dv 0 (gB.dv false []))) <|
 on1 (b6N N x1 x0.2.2.2.2.1)<|gg [pW]<|fun (x5:Int) =>
 some (0,gW.dv x5 (gB.dv true []))
def c5a (N:Nat):CE:=(c4T,mkF [a0B,pI,pI] [pW,pB] (b8b N))
theorem d6H (N:Nat):CEok Q (c5a N) :=
 fnG (hi:=d5g) (l:=[a2O N,b3D N,b9W N]) (t:=[]) a0r hmix ⟨a3h N,b7o N,c8B N,trivial⟩ ⟨rfl,rfl,rfl,trivial⟩ f_47 (by kernel_rfl) (by kernel_rfl) trivial fun ys=>by kernel_rfl
end
end Go.Proofs.Zz
