import Derived.Test.YtnfpdmhdpeffjaaGreatWK
set_option linter.unusedSimpArgs false
set_option linter.unusedVariables false
/- What functions of the program compute, as plain functions. -/
set_option maxRecDepth 100000
namespace Go.Proofs.Zz
noncomputable section
open Go Go.Proofs.Tryz
def c1Q (N:Nat) (x0:a0s) (x1:List Int):Option Rs :=
 on1 (b3f N x0 x1)<|gg [pB]<|fun (x2:Bool) =>
 bi (!x2) (
  some (0,a0H.dv (a0g.mk ([]:List a0x) (List.replicate 16 (0 :Int))) (gI.dv 1 []))) <|
 on1 (d2H N x0)<|gg [pD (.sl (.pair tI (.pair tI (.pair tI (.pair tI (.pair .nl (.pair .nl .unit)))))))]<|fun (x3:List (Int × (Int × (Int × (Int × (Unit × (Unit × Unit))))))) =>
 onA 1 (a6e N N 0 x0.Code x0.Size x0.Data x1 ([]:List a0x) (List.replicate 16 (0 :Int)) x3 x1)<|gg [pD (.sl a0y),pI,pD (.sl tU),pD (.ar 16 tI),pD (.sl a0n),pD (.ar 16 tI),pD (.sl a0n),pD (.ar 16 tI)]<|fun (x4:List a0o) (x5:Int) (x6:List Int) (x7:List Int) (x8:List a0x) (x9:List Int) (x10:List a0x) (x11:List Int) =>
 some (0,a0H.dv (a0g.mk x10 x11) (gI.dv 0 []))
def c2F (N:Nat):CE:=(b7K,mkF [a0p,pD (.ar 16 tI)] [a0m,pI] (c1Q N))
theorem d1N (N:Nat):CEok Q (c2F N) :=
 fnG (hi:=a3W) (l:=a4R N) (t:=[c3X N]) a0r hmix (c0h N) (c3K N) f_67 (by kernel_rfl) (by kernel_rfl) ⟨d4V N,trivial⟩ fun ys=>by kernel_rfl
def c8x:CS:=⟨54,101,⟨[.agg [.d (.sl a0y),.d tI,.d (.sl tU)]],[]⟩,[.agg [.d (.ar 16 tI)]],true,[]⟩
def c1v:LS:=⟨⟨[.no,.one (.p 0 0 [1,1,1]),.one (.p 1 0 [16]),.one (.p 2 0 [16]),.one (.d tI)]++nos 81,[[.d (.sl a0y),.d tI,.d (.sl tU)],[.d (.ar 16 tI)],[.d (.ar 16 tI)]]⟩,[(1,⟨[.no,.one (.p 0 0 [1,1,1]),.one (.p 1 0 [16]),.one (.p 2 0 [16])]++nos 82,[[.d (.sl a0y),.d tI,.d (.sl tU)],[.d (.ar 16 tI)],[.d (.ar 16 tI)]]⟩)]⟩
def c0Y:LS:=⟨⟨[.no,.one (.p 0 0 [1,1,1]),.one (.p 1 0 [16]),.one (.p 2 0 [16]),.no,.one (.d tI),.one (.d tI),.no,.no,.one (.o tI),.one (.d tI)]++nos 75,[[.d (.sl a0y),.d tI,.d (.sl tU)],[.d (.ar 16 tI)],[.d (.ar 16 tI)]]⟩,[(7,⟨[.no,.one (.p 0 0 [1,1,1]),.one (.p 1 0 [16]),.one (.p 2 0 [16]),.no,.one (.d tI),.one (.d tI)]++nos 79,[[.d (.sl a0y),.d tI,.d (.sl tU)],[.d (.ar 16 tI)],[.d (.ar 16 tI)]]⟩)]⟩
def c1q:LS:=⟨⟨[.no,.one (.p 0 0 [1,1,1]),.one (.p 1 0 [16]),.one (.p 2 0 [16]),.no,.one (.d tI),.one (.d tI)]++nos 79,[[.d (.sl a0y),.d tI,.d (.sl tU)],[.d (.ar 16 tI)],[.d (.ar 16 tI)]]⟩,[(5,⟨[.no,.one (.p 0 0 [1,1,1]),.one (.p 1 0 [16]),.one (.p 2 0 [16]),.no,.one (.d tI)]++nos 80,[[.d (.sl a0y),.d tI,.d (.sl tU)],[.d (.ar 16 tI)],[.d (.ar 16 tI)]]⟩)]⟩
def c2o:LS:=⟨⟨[.no,.one (.p 0 0 [1,1,1]),.one (.p 1 0 [16]),.one (.p 2 0 [16]),.no,.one (.d tI)]++nos 80,[[.d (.sl a0y),.d tI,.d (.sl tU)],[.d (.ar 16 tI)],[.d (.ar 16 tI)]]⟩,[(3,⟨[.no,.no,.one (.p 0 0 [16]),.one (.p 1 0 [16])]++nos 82,[[.d (.ar 16 tI)],[.d (.ar 16 tI)]]⟩)]⟩
def a2X:Hi:=⟨[((2,1),a3g),((15,2),a2C),((19,1),a6l)],[(0,c1v),(6,c0Y),(4,c1q),(2,c2o)],[13,16,22,29,42,46,50,56,60,65,71,77],[],[]⟩
theorem e4g:Fn Q 101 f101 (codeOf f101):=by constructor <;> kernel_rfl
def a5Z (N:Nat):List CE:=[a3o N,a2O N,a8b N]
theorem a8I (N:Nat):AllP (CEok Q) (a5Z N):=⟨a4L N,a3h N,b0d N,trivial⟩
theorem b1a (N:Nat):AllP (fun e=>lookC (a5Z N) e.2.id = some e.2) a2X.cs:=⟨rfl,rfl,rfl,trivial⟩
def b1v (N:Nat) (again:Fn' (Option Rs) [pI,a0p,pD (.ar 16 tI),pD (.ar 16 tI)]) (x0:Int) (x1:a0s) (x2:List Int) (x3:List Int):Option Rs :=
 bi (decide (x0 < 16)) (
  gd (idx x0 16) <|
  again (w.i64 (x0+1)) x1 x2 (List.set x3 x0.toNat 2)) <|
 some (1,a1d.dv x1 ((gD (.ar 16 tI)).dv x2 ((gD (.ar 16 tI)).dv x3 [])))
def b2j (N:Nat):Nat→Fn' (Option Rs) [pI,a0p,pD (.ar 16 tI),pD (.ar 16 tI)]:=lpG (b1v N)
def c0D (N:Nat):LE:=(0,mkM [pI,a0p,pD (.ar 16 tI),pD (.ar 16 tI)] [(1,[a0p,pD (.ar 16 tI),pD (.ar 16 tI)])] (b2j N N))
theorem d2y (N:Nat):LEok Q a2X (bodOf f101) f101.ntmps 0 (c0D N) :=
 loopG (hi:=a2X) (l:=a5Z N) (t:=[]) (r:=b1v N) a0r hmix (a8I N) (b1a N) e4g trivial (ls:=c1v) (body:=bodyAt f101 0) (by kernel_rfl) (by kernel_rfl) fun A ys=>by kernel_rfl
def b1D (N:Nat) (again:Fn' (Option Rs) [pI,pI,pD (.sl tI),pI,a0p,pD (.ar 16 tI),pD (.ar 16 tI)]) (x0:Int) (x1:Int) (x2:List Int) (x3:Int) (x4:a0s) (x5:List Int) (x6:List Int):Option Rs :=
 bi (decide (x3 < (len x2))) (
  gd (idx x3 (List.length x2)) <|
  gd (idx (List.getD x2 x3.toNat 0) 16) <|
  again x0 x1 x2 (w.i64 (x3+1)) x4 x5 (List.set x6 (Int.toNat (List.getD x2 x3.toNat 0)) 1)) <|
 some (7,gI.dv x0 (gI.dv x1 (a1d.dv x4 ((gD (.ar 16 tI)).dv x5 ((gD (.ar 16 tI)).dv x6 [])))))
def a2D (N:Nat):Nat→Fn' (Option Rs) [pI,pI,pD (.sl tI),pI,a0p,pD (.ar 16 tI),pD (.ar 16 tI)]:=lpG (b1D N)
def b4t (N:Nat):LE:=(6,mkM [pI,pI,pD (.sl tI),pI,a0p,pD (.ar 16 tI),pD (.ar 16 tI)] [(7,[pI,pI,a0p,pD (.ar 16 tI),pD (.ar 16 tI)])] (a2D N N))
theorem c0U (N:Nat):LEok Q a2X (bodOf f101) f101.ntmps 0 (b4t N) :=
 loopG (hi:=a2X) (l:=a5Z N) (t:=[]) (r:=b1D N) a0r hmix (a8I N) (b1a N) e4g trivial (ls:=c0Y) (body:=bodyAt f101 6) (by kernel_rfl) (by kernel_rfl) fun A ys=>by kernel_rfl
def b1x (N:Nat) (again:Fn' (Option Rs) [pI,pI,a0p,pD (.ar 16 tI),pD (.ar 16 tI)]) (x0:Int) (x1:Int) (x2:a0s) (x3:List Int) (x4:List Int):Option Rs :=
 bi (decide (x1 < (len x2.Code))) (
  gd (idx x1 (List.length x2.Code)) <|
  on1 (a5s N ((List.getD x2.Code x1.toNat a0o.z).1))<|gg [pI]<|fun (x5:Int) =>
  bi (x5 == 4) (
   bi (decide ((List.getD x2.Code x1.toNat a0o.z).2.2.1 > 0)) (
    gd (idx (List.getD x2.Code x1.toNat a0o.z).2.2.1 16) <|
    bi (decide (x5≥1)) (
     bi (decide (x5≤3)) (
      bi (decide ((List.getD x2.Code x1.toNat a0o.z).2.1 > 0)) (
       gd (idx (List.getD x2.Code x1.toNat a0o.z).2.1 16) <|
       bi ((List.getD (List.set x4 (Int.toNat (List.getD x2.Code x1.toNat a0o.z).2.2.1) 1) (Int.toNat (List.getD x2.Code x1.toNat a0o.z).2.1) 0) == 1) (
        on1 (a2Q N (List.getD x2.Code x1.toNat a0o.z))<|gg [pD (.sl tI)]<|fun (x6:List Int) =>
        onA 7 (a2D N N x0 x1 x6 0 x2 x3 (List.set x4 (Int.toNat (List.getD x2.Code x1.toNat a0o.z).2.2.1) 1))<|gg [pI,pI,a0p,pD (.ar 16 tI),pD (.ar 16 tI)]<|fun (x7:Int) (x8:Int) (x9:a0s) (x10:List Int) (x11:List Int) =>
        again x7 (w.i64 (x8+1)) x9 x10 x11) <|
       again x0 (w.i64 (x1+1)) x2 x3 (List.set x4 (Int.toNat (List.getD x2.Code x1.toNat a0o.z).2.2.1) 1)) <|
      again x0 (w.i64 (x1+1)) x2 x3 (List.set x4 (Int.toNat (List.getD x2.Code x1.toNat a0o.z).2.2.1) 1)) <|
     again x0 (w.i64 (x1+1)) x2 x3 (List.set x4 (Int.toNat (List.getD x2.Code x1.toNat a0o.z).2.2.1) 1)) <|
    again x0 (w.i64 (x1+1)) x2 x3 (List.set x4 (Int.toNat (List.getD x2.Code x1.toNat a0o.z).2.2.1) 1)) <|
   bi (decide (x5≥1)) (
    bi (decide (x5≤3)) (
     bi (decide ((List.getD x2.Code x1.toNat a0o.z).2.1 > 0)) (
      gd (idx (List.getD x2.Code x1.toNat a0o.z).2.1 16) <|
      bi ((List.getD x4 (Int.toNat (List.getD x2.Code x1.toNat a0o.z).2.1) 0) == 1) (
       on1 (a2Q N (List.getD x2.Code x1.toNat a0o.z))<|gg [pD (.sl tI)]<|fun (x12:List Int) =>
       onA 7 (a2D N N x0 x1 x12 0 x2 x3 x4)<|gg [pI,pI,a0p,pD (.ar 16 tI),pD (.ar 16 tI)]<|fun (x13:Int) (x14:Int) (x15:a0s) (x16:List Int) (x17:List Int) =>
       again x13 (w.i64 (x14+1)) x15 x16 x17) <|
      again x0 (w.i64 (x1+1)) x2 x3 x4) <|
     again x0 (w.i64 (x1+1)) x2 x3 x4) <|
    again x0 (w.i64 (x1+1)) x2 x3 x4) <|
   again x0 (w.i64 (x1+1)) x2 x3 x4) <|
  bi (x5 == 5) (
   bi (decide ((List.getD x2.Code x1.toNat a0o.z).2.2.1 > 0)) (
    gd (idx (List.getD x2.Code x1.toNat a0o.z).2.2.1 16) <|
    bi (decide (x5≥1)) (
     bi (decide (x5≤3)) (
      bi (decide ((List.getD x2.Code x1.toNat a0o.z).2.1 > 0)) (
       gd (idx (List.getD x2.Code x1.toNat a0o.z).2.1 16) <|
       bi ((List.getD (List.set x4 (Int.toNat (List.getD x2.Code x1.toNat a0o.z).2.2.1) 1) (Int.toNat (List.getD x2.Code x1.toNat a0o.z).2.1) 0) == 1) (
        on1 (a2Q N (List.getD x2.Code x1.toNat a0o.z))<|gg [pD (.sl tI)]<|fun (x18:List Int) =>
        onA 7 (a2D N N x0 x1 x18 0 x2 x3 (List.set x4 (Int.toNat (List.getD x2.Code x1.toNat a0o.z).2.2.1) 1))<|gg [pI,pI,a0p,pD (.ar 16 tI),pD (.ar 16 tI)]<|fun (x19:Int) (x20:Int) (x21:a0s) (x22:List Int) (x23:List Int) =>
        again x19 (w.i64 (x20+1)) x21 x22 x23) <|
       again x0 (w.i64 (x1+1)) x2 x3 (List.set x4 (Int.toNat (List.getD x2.Code x1.toNat a0o.z).2.2.1) 1)) <|
      again x0 (w.i64 (x1+1)) x2 x3 (List.set x4 (Int.toNat (List.getD x2.Code x1.toNat a0o.z).2.2.1) 1)) <|
     again x0 (w.i64 (x1+1)) x2 x3 (List.set x4 (Int.toNat (List.getD x2.Code x1.toNat a0o.z).2.2.1) 1)) <|
    again x0 (w.i64 (x1+1)) x2 x3 (List.set x4 (Int.toNat (List.getD x2.Code x1.toNat a0o.z).2.2.1) 1)) <|
   bi (decide (x5≥1)) (
    bi (decide (x5≤3)) (
     bi (decide ((List.getD x2.Code x1.toNat a0o.z).2.1 > 0)) (
      gd (idx (List.getD x2.Code x1.toNat a0o.z).2.1 16) <|
      bi ((List.getD x4 (Int.toNat (List.getD x2.Code x1.toNat a0o.z).2.1) 0) == 1) (
       on1 (a2Q N (List.getD x2.Code x1.toNat a0o.z))<|gg [pD (.sl tI)]<|fun (x24:List Int) =>
       onA 7 (a2D N N x0 x1 x24 0 x2 x3 x4)<|gg [pI,pI,a0p,pD (.ar 16 tI),pD (.ar 16 tI)]<|fun (x25:Int) (x26:Int) (x27:a0s) (x28:List Int) (x29:List Int) =>
       again x25 (w.i64 (x26+1)) x27 x28 x29) <|
      again x0 (w.i64 (x1+1)) x2 x3 x4) <|
     again x0 (w.i64 (x1+1)) x2 x3 x4) <|
    again x0 (w.i64 (x1+1)) x2 x3 x4) <|
   again x0 (w.i64 (x1+1)) x2 x3 x4) <|
  bi (decide (x5≥1)) (
   bi (decide (x5≤3)) (
    bi (decide ((List.getD x2.Code x1.toNat a0o.z).2.1 > 0)) (
     gd (idx (List.getD x2.Code x1.toNat a0o.z).2.1 16) <|
     bi ((List.getD x4 (Int.toNat (List.getD x2.Code x1.toNat a0o.z).2.1) 0) == 1) (
      on1 (a2Q N (List.getD x2.Code x1.toNat a0o.z))<|gg [pD (.sl tI)]<|fun (x30:List Int) =>
      onA 7 (a2D N N x0 x1 x30 0 x2 x3 x4)<|gg [pI,pI,a0p,pD (.ar 16 tI),pD (.ar 16 tI)]<|fun (x31:Int) (x32:Int) (x33:a0s) (x34:List Int) (x35:List Int) =>
      again x31 (w.i64 (x32+1)) x33 x34 x35) <|
     again x0 (w.i64 (x1+1)) x2 x3 x4) <|
    again x0 (w.i64 (x1+1)) x2 x3 x4) <|
   again x0 (w.i64 (x1+1)) x2 x3 x4) <|
  again x0 (w.i64 (x1+1)) x2 x3 x4) <|
 some (5,gI.dv x0 (a1d.dv x2 ((gD (.ar 16 tI)).dv x3 ((gD (.ar 16 tI)).dv x4 []))))
def a6n (N:Nat):Nat→Fn' (Option Rs) [pI,pI,a0p,pD (.ar 16 tI),pD (.ar 16 tI)]:=lpG (b1x N)
def b5f (N:Nat):LE:=(4,mkM [pI,pI,a0p,pD (.ar 16 tI),pD (.ar 16 tI)] [(5,[pI,a0p,pD (.ar 16 tI),pD (.ar 16 tI)])] (a6n N N))
theorem c2q (N:Nat):LEok Q a2X (bodOf f101) f101.ntmps 0 (b5f N) :=
 loopG (hi:=a2X) (l:=a5Z N) (t:=[b4t N]) (r:=b1x N) a0r hmix (a8I N) (b1a N) e4g ⟨c0U N,trivial⟩ (ls:=c1q) (body:=bodyAt f101 4) (by kernel_rfl) (by kernel_rfl) fun A ys=>by kernel_rfl
def b2n (N:Nat) (again:Fn' (Option Rs) [pI,a0p,pD (.ar 16 tI),pD (.ar 16 tI)]) (x0:Int) (x1:a0s) (x2:List Int) (x3:List Int):Option Rs :=
 bi (decide (x0 < 17)) (
  onA 5 (a6n N N x0 0 x1 x2 x3)<|gg [pI,a0p,pD (.ar 16 tI),pD (.ar 16 tI)]<|fun (x4:Int) (x5:a0s) (x6:List Int) (x7:List Int) =>
  again (w.i64 (x4+1)) x5 x6 x7) <|
 some (3,(gD (.ar 16 tI)).dv x2 ((gD (.ar 16 tI)).dv x3 []))
def b1X (N:Nat):Nat→Fn' (Option Rs) [pI,a0p,pD (.ar 16 tI),pD (.ar 16 tI)]:=lpG (b2n N)
def c1P (N:Nat):LE:=(2,mkM [pI,a0p,pD (.ar 16 tI),pD (.ar 16 tI)] [(3,[pD (.ar 16 tI),pD (.ar 16 tI)])] (b1X N N))
theorem d3e (N:Nat):LEok Q a2X (bodOf f101) f101.ntmps 0 (c1P N) :=
 loopG (hi:=a2X) (l:=a5Z N) (t:=[b5f N]) (r:=b2n N) a0r hmix (a8I N) (b1a N) e4g ⟨c2q N,trivial⟩ (ls:=c2o) (body:=bodyAt f101 2) (by kernel_rfl) (by kernel_rfl) fun A ys=>by kernel_rfl
def c1s (N:Nat) (x0:a0s):Option Rs :=
 on1 (a1h N x0)<|gg [pB]<|fun (x1:Bool) =>
 bi (!x1) (
  some (0,(gD (.ar 16 tI)).dv (List.replicate 16 (0 :Int)) [])) <|
 onA 1 (b2j N N 1 x0 (List.replicate 16 (0 :Int)) (List.replicate 16 (0 :Int)))<|gg [a0p,pD (.ar 16 tI),pD (.ar 16 tI)]<|fun (x2:a0s) (x3:List Int) (x4:List Int) =>
 onA 3 (b1X N N 0 x2 x3 x4)<|gg [pD (.ar 16 tI),pD (.ar 16 tI)]<|fun (x5:List Int) (x6:List Int) =>
 some (0,(gD (.ar 16 tI)).dv x6 [])
def c6J (N:Nat):CE:=(c8x,mkF [a0p] [pD (.ar 16 tI)] (c1s N))
theorem d7C (N:Nat):CEok Q (c6J N) :=
 fnG (hi:=a2X) (l:=a5Z N) (t:=[c0D N,b4t N,b5f N,c1P N]) a0r hmix (a8I N) (b1a N) e4g (by kernel_rfl) (by kernel_rfl) ⟨d2y N,c0U N,c2q N,d3e N,trivial⟩ fun ys=>by kernel_rfl
def c0m:CS:=⟨55,43,⟨[.agg [.d (.sl a0y),.d tI,.d (.sl tU)]],[]⟩,[.agg [.o a0n,.d (.ar 16 tI)],.one (.d tI)],false,[]⟩
def d8p:Hi:=⟨[((1,2),c8x),((1,3),b7K)],[],[],[],[]⟩
theorem f_43:Fn Q 43 f43 (codeOf f43):=by constructor <;> kernel_rfl
def b7q (N:Nat) (x0:a0s):Option Rs :=
 on1 (c1s N x0)<|gg [pD (.ar 16 tI)]<|fun (x1:List Int) =>
 on1 (c1Q N x0 x1)<|gg [a0m,pI]<|fun (x2:a0g) (x3:Int) =>
 some (0,a0H.dv x2 (gI.dv x3 []))
def c0z (N:Nat):CE:=(c0m,mkF [a0p] [a0m,pI] (b7q N))
theorem c8c (N:Nat):CEok Q (c0z N) :=
 fnG (hi:=d8p) (l:=[c6J N,c2F N]) (t:=[]) a0r hmix ⟨d7C N,d1N N,trivial⟩ ⟨rfl,rfl,trivial⟩ f_43 (by kernel_rfl) (by kernel_rfl) trivial fun ys=>by kernel_rfl
def b6T:CS:=⟨56,24,⟨[.agg [.d (.sl a0y),.d tI,.d (.sl tU)],.one (.d tI)],[]⟩,[.agg [.o a0n,.d (.ar 16 tI)],.one (.d tB)],false,[]⟩
def d6s:Hi:=⟨[((1,2),c4H),((1,3),b7K),((3,1),c0m)],[],[16],[],[]⟩
theorem f_24:Fn Q 24 f24 (codeOf f24):=by constructor <;> kernel_rfl
def b2R (N:Nat) (x0:a0s) (x1:Int):Option Rs :=
 on1 (c3E N x1)<|gg [pD (.ar 16 tI)]<|fun (x2:List Int) =>
 on1 (c1Q N x0 x2)<|gg [a0m,pI]<|fun (x3:a0g) (x4:Int) =>
 bi (x4 != 0) (
  on1 (b7q N x0)<|gg [a0m,pI]<|fun (x5:a0g) (x6:Int) =>
  some (0,a0H.dv x5 (gB.dv (x6 == 0) []))) <|
 some (0,a0H.dv x3 (gB.dv (x4 == 0) []))
def b5U (N:Nat):CE:=(b6T,mkF [a0p,pI] [a0m,pB] (b2R N))
theorem c4p (N:Nat):CEok Q (b5U N) :=
 fnG (hi:=d6s) (l:=[c3Z N,c2F N,c0z N]) (t:=[]) a0r hmix ⟨d4m N,d1N N,c8c N,trivial⟩ ⟨rfl,rfl,rfl,trivial⟩ f_24 (by kernel_rfl) (by kernel_rfl) trivial fun ys=>by kernel_rfl
def d3z:CS:=⟨57,25,⟨[.agg [.d (.sl a0y),.d tI,.d (.sl tU)]],[]⟩,[.one (.d tB)],true,[]⟩
def e4D:Hi:=⟨[],[],[7],[],[]⟩
theorem f_25:Fn Q 25 f25 (codeOf f25):=by constructor <;> kernel_rfl
def d6y (N:Nat) (x0:a0s):Option Rs :=
 bi (decide ((len x0.Code)≤200)) (
  some (0,gB.dv (decide ((len x0.Data)≤500)) [])) <|
 some (0,gB.dv false [])
def d2V (N:Nat):CE:=(d3z,mkF [a0p] [pB] (d6y N))
theorem d9a (N:Nat):CEok Q (d2V N) :=
 fnG (hi:=e4D) (l:=[]) (t:=[]) a0r hmix trivial trivial f_25 (by kernel_rfl) (by kernel_rfl) trivial fun ys=>by kernel_rfl
def d4K:CS:=⟨58,26,⟨[.agg q_0],[]⟩,[.one (.d tB)],true,[]⟩
def e1Y:Hi:=⟨[],[],[7,13,19,25,31,37,43,49],[],[]⟩
theorem f_26:Fn Q 26 f26 (codeOf f26):=by constructor <;> kernel_rfl
def d3j (N:Nat) (x0:a0b):Option Rs :=
 bi (decide ((len x0.Mem)≤1000)) (
  bi (decide ((len x0.Table)≤64)) (
   bi (decide ((len x0.Saq)≤64)) (
    bi (decide ((len x0.Ldq)≤64)) (
     bi (decide ((len x0.Writes)≤100)) (
      bi (decide ((len x0.Sdq)≤64)) (
       bi (decide ((len x0.Aeq)≤64)) (
        bi (decide ((len x0.Abq)≤64)) (
         some (0,gB.dv (decide ((len x0.Ebq)≤64)) [])) <|
        some (0,gB.dv false [])) <|
       some (0,gB.dv false [])) <|
      some (0,gB.dv false [])) <|
     some (0,gB.dv false [])) <|
    some (0,gB.dv false [])) <|
   some (0,gB.dv false [])) <|
  some (0,gB.dv false [])) <|
 some (0,gB.dv false [])
def d4a (N:Nat):CE:=(d4K,mkF [a0d] [pB] (d3j N))
theorem e1X (N:Nat):CEok Q (d4a N) :=
 fnG (hi:=e1Y) (l:=[]) (t:=[]) a0r hmix trivial trivial f_26 (by kernel_rfl) (by kernel_rfl) trivial fun ys=>by kernel_rfl
def a3y:CS:=⟨59,116,⟨[.one (.d tI),.one (.d tI)],[]⟩,[.one (.d tB)],true,[]⟩
def d4g:Hi:=⟨[],[],[7],[],[]⟩
theorem f0Z:Fn Q 116 f116 (codeOf f116):=by constructor <;> kernel_rfl
def a3X (N:Nat) (x0:Int) (x1:Int):Option Rs :=
 bi (decide (x0≥1)) (
  some (0,gB.dv (decide (x0≤x1)) [])) <|
 some (0,gB.dv false [])
def b5X (N:Nat):CE:=(a3y,mkF [pI,pI] [pB] (a3X N))
theorem c5j (N:Nat):CEok Q (b5X N) :=
 fnG (hi:=d4g) (l:=[]) (t:=[]) a0r hmix trivial trivial f0Z (by kernel_rfl) (by kernel_rfl) trivial fun ys=>by kernel_rfl
def a7E:CS:=⟨60,56,⟨[.agg q_5],[]⟩,[.one (.d tB)],true,[]⟩
def b0J:LS:=⟨⟨[.no,.one (.p 0 0 [1,1,1,1,1,1,1,1,1,1,1,1]),.no,.one (.o tI),.one (.d tI)]++nos 47,[q_5]⟩,[(0,⟨[.no,.no,.one (.d tB)]++nos 49,[]⟩),(1,⟨[.no,.one (.p 0 0 [1,1,1,1,1,1,1,1,1,1,1,1])]++nos 50,[q_5]⟩)]⟩
def a4H:Hi:=⟨[((5,4),a3y),((7,2),a3y),((7,6),a3y),((7,11),a3y),((7,16),a3y)],[(0,b0J)],[25,33,37,42,47],[],[]⟩
theorem f_56:Fn Q 56 f56 (codeOf f56):=by constructor <;> kernel_rfl
def a4J (N:Nat):List CE:=[b5X N]
theorem b1g (N:Nat):AllP (CEok Q) (a4J N):=⟨c5j N,trivial⟩
theorem b2J (N:Nat):AllP (fun e=>lookC (a4J N) e.2.id = some e.2) a4H.cs:=⟨rfl,rfl,rfl,rfl,rfl,trivial⟩
def a2F (N:Nat) (again:Fn' (Option Rs) [pD (.sl tI),pI,a0l]) (x0:List Int) (x1:Int) (x2:a0f):Option Rs :=
 bi (decide (x1 < (len x0))) (
  gd (idx x1 (List.length x0)) <|
  on1 (a3X N (List.getD x0 x1.toNat 0) 64)<|gg [pB]<|fun (x3:Bool) =>
  bi (!x3) (
   some (0,gB.dv false [])) <|
  again x0 (w.i64 (x1+1)) x2) <|
 some (1,a0D.dv x2 [])
def a2a (N:Nat):Nat→Fn' (Option Rs) [pD (.sl tI),pI,a0l]:=lpG (a2F N)
def b0U (N:Nat):LE:=(0,mkM [pD (.sl tI),pI,a0l] [(0,[pB]),(1,[a0l])] (a2a N N))
theorem c0f (N:Nat):LEok Q a4H (bodOf f56) f56.ntmps 0 (b0U N) :=
 loopG (hi:=a4H) (l:=a4J N) (t:=[]) (r:=a2F N) a0r hmix (b1g N) (b2J N) f_56 trivial (ls:=b0J) (body:=bodyAt f56 0) (by kernel_rfl) (by kernel_rfl) fun A ys=>by kernel_rfl
def a4w (N:Nat) (x0:a0f):Option Rs :=
 onB 0 1 (a2a N N [x0.Ldq,x0.Sdq,x0.Aeq,x0.Abq,x0.Ebq,x0.Saq,x0.Flight,x0.Slip] 0 x0) (gg [pB]<|fun (x1:Bool) =>
  some (0,gB.dv x1 []))<|gg [a0l]<|fun (x2:a0f) =>
 on1 (a3X N x2.Banks 16)<|gg [pB]<|fun (x3:Bool) =>
 bi x3 (
  on1 (a3X N x2.Lat 1000)<|gg [pB]<|fun (x4:Bool) =>
  bi x4 (
   on1 (a3X N x2.Mul 50)<|gg [pB]<|fun (x5:Bool) =>
   bi x5 (
    on1 (a3X N x2.Div 50)<|gg [pB]<|fun (x6:Bool) =>
    some (0,gB.dv x6 [])) <|
   some (0,gB.dv false [])) <|
  some (0,gB.dv false [])) <|
 some (0,gB.dv false [])
def a8e (N:Nat):CE:=(a7E,mkF [a0l] [pB] (a4w N))
theorem b2P (N:Nat):CEok Q (a8e N) :=
 fnG (hi:=a4H) (l:=a4J N) (t:=[b0U N]) a0r hmix (b1g N) (b2J N) f_56 (by kernel_rfl) (by kernel_rfl) ⟨c0f N,trivial⟩ fun ys=>by kernel_rfl
def a3O:CS:=⟨61,95,⟨[.one (.d tI)],[]⟩,[.one (.d tB)],true,[]⟩
def e3L:Hi:=⟨[],[],[5],[],[]⟩
theorem f_95:Fn Q 95 f95 (codeOf f95):=by constructor <;> kernel_rfl
def a5u (N:Nat) (x0:Int):Option Rs :=
 bi (decide (x0≥0)) (
  some (0,gB.dv (decide (x0≤1099511627776)) [])) <|
 some (0,gB.dv false [])
def c7b (N:Nat):CE:=(a3O,mkF [pI] [pB] (a5u N))
theorem d4F (N:Nat):CEok Q (c7b N) :=
 fnG (hi:=e3L) (l:=[]) (t:=[]) a0r hmix trivial trivial f_95 (by kernel_rfl) (by kernel_rfl) trivial fun ys=>by kernel_rfl
def b4Y:CS:=⟨62,99,⟨[.agg [.d (.sl a0n),.d (.ar 16 tI)],.one (.d tB),.one (.d tI)],[]⟩,[.one (.d (.sl a0i))],true,[]⟩
def d7P:Hi:=⟨[],[],[9,15,16],[],[]⟩
theorem f_99:Fn Q 99 f99 (codeOf f99):=by constructor <;> kernel_rfl
def b3h (N:Nat) (x0:a0g) (x1:Bool) (x2:Int):Option Rs :=
 bi (decide (x2 < 0)) (
  some (0,(gD (.sl a0i)).dv ([]:List a0h) [])) <|
 bi (decide (x2≥(len x0.Blocks))) (
  some (0,(gD (.sl a0i)).dv ([]:List a0h) [])) <|
 bi x1 (
  gd (idx x2 (List.length x0.Blocks)) <|
  some (0,(gD (.sl a0i)).dv ((List.getD x0.Blocks x2.toNat a0x.z).2.2.2.2.2.1) [])) <|
 gd (idx x2 (List.length x0.Blocks)) <|
 some (0,(gD (.sl a0i)).dv ((List.getD x0.Blocks x2.toNat a0x.z).2.2.2.2.1) [])
def b4d (N:Nat):CE:=(b4Y,mkF [a0m,pB,pI] [pD (.sl a0i)] (b3h N))
theorem c0s (N:Nat):CEok Q (b4d N) :=
 fnG (hi:=d7P) (l:=[]) (t:=[]) a0r hmix trivial trivial f_99 (by kernel_rfl) (by kernel_rfl) trivial fun ys=>by kernel_rfl
def b0F:CS:=⟨63,94,⟨[.agg [.d (.sl a0n),.d (.ar 16 tI)],.one (.d tB),.agg q_3],[]⟩,[.one (.d tB)],true,[]⟩
def b3w:LS:=⟨⟨[.no,.no,.no,.no,.no,.one (.p 0 0 [16,16,1,1,1,1,1,1]),.no,.one (.d tI)]++nos 68,[q_3]⟩,[(0,⟨nos 6++[.one (.d tB)]++nos 69,[]⟩),(1,⟨nos 76,[]⟩)]⟩
def a7f:Hi:=⟨[((1,2),a3O),((1,7),a3O),((1,14),a3O),((1,47),b4Y),((6,10),a3O)],[(0,b3w)],[12,18,25,31,40,46,58,60,68,75],[],[]⟩
theorem f_94:Fn Q 94 f94 (codeOf f94):=by constructor <;> kernel_rfl
def a7w (N:Nat):List CE:=[c7b N,b4d N]
theorem b5C (N:Nat):AllP (CEok Q) (a7w N):=⟨d4F N,c0s N,trivial⟩
theorem b6w (N:Nat):AllP (fun e=>lookC (a7w N) e.2.id = some e.2) a7f.cs:=⟨rfl,rfl,rfl,rfl,rfl,trivial⟩
def a3M (N:Nat) (again:Fn' (Option Rs) [pI,a0S]) (x0:Int) (x1:a0v):Option Rs :=
 bi (decide (x0 < 16)) (
  gd (idx x0 16) <|
  bi ((List.getD x1.Ready x0.toNat 0) != (-1:Int)) (
   gd (idx x0 16) <|
   on1 (a5u N (List.getD x1.Ready x0.toNat 0))<|gg [pB]<|fun (x2:Bool) =>
   bi (!x2) (
    some (0,gB.dv false [])) <|
   again (w.i64 (x0+1)) x1) <|
  again (w.i64 (x0+1)) x1) <|
 some (1,[])
def a2c (N:Nat):Nat→Fn' (Option Rs) [pI,a0S]:=lpG (a3M N)
def b2G (N:Nat):LE:=(0,mkM [pI,a0S] [(0,[pB]),(1,[])] (a2c N N))
theorem c2Q (N:Nat):LEok Q a7f (bodOf f94) f94.ntmps 0 (b2G N) :=
 loopG (hi:=a7f) (l:=a7w N) (t:=[]) (r:=a3M N) a0r hmix (b5C N) (b6w N) f_94 trivial (ls:=b3w) (body:=bodyAt f94 0) (by kernel_rfl) (by kernel_rfl) fun A ys=>by kernel_rfl
def a7i (N:Nat) (x0:a0g) (x1:Bool) (x2:a0v):Option Rs :=
 on1 (a5u N x2.Wait)<|gg [pB]<|fun (x3:Bool) =>
 bi (!x3) (
  some (0,gB.dv false [])) <|
 on1 (a5u N x2.Done)<|gg [pB]<|fun (x4:Bool) =>
 bi (!x4) (
  some (0,gB.dv false [])) <|
 on1 (a5u N x2.Pos.Base)<|gg [pB]<|fun (x5:Bool) =>
 bi (!x5) (
  some (0,gB.dv false [])) <|
 bi (decide (x2.Pos.Block < 0)) (
  some (0,gB.dv false [])) <|
 bi (decide (x2.Pos.Block≥(len x0.Blocks))) (
  some (0,gB.dv false [])) <|
 bi (decide (x2.Pos.Index < 0)) (
  some (0,gB.dv false [])) <|
 on1 (b3h N x0 x1 x2.Pos.Block)<|gg [pD (.sl a0i)]<|fun (x6:List a0h) =>
 bi (decide (x2.Pos.Index > (len x6))) (
  some (0,gB.dv false [])) <|
 onB 0 1 (a2c N N 0 x2) (gg [pB]<|fun (x7:Bool) =>
  some (0,gB.dv x7 []))<|gg [] <|
 some (0,gB.dv true [])
def b7b (N:Nat):CE:=(b0F,mkF [a0m,pB,a0S] [pB] (a7i N))
theorem c7I (N:Nat):CEok Q (b7b N) :=
 fnG (hi:=a7f) (l:=a7w N) (t:=[b2G N]) a0r hmix (b5C N) (b6w N) f_94 (by kernel_rfl) (by kernel_rfl) ⟨c2Q N,trivial⟩ fun ys=>by kernel_rfl
def c3h:CS:=⟨64,96,⟨[.one (.d tI),.one (.d tI),.one (.d tI)],[]⟩,[.one (.d tB)],true,[]⟩
def d9N:Hi:=⟨[],[],[9,13,17,21,26,33],[],[]⟩
theorem f_96:Fn Q 96 f96 (codeOf f96):=by constructor <;> kernel_rfl
def c1t (N:Nat) (x0:Int) (x1:Int) (x2:Int):Option Rs :=
 bi (x1 == 1) (
  bi (decide (x0≥0)) (
   bi (decide (x0≤x2)) (
    bi (decide ((w.i64 (x2 - x0))≥x1)) (
     gf (decide (x1 = 0)) <|
     some (0,gB.dv ((Int.tmod x0 x1) == 0) [])) <|
    some (0,gB.dv false [])) <|
   some (0,gB.dv false [])) <|
  some (0,gB.dv false [])) <|
 bi (x1 == 2) (
  bi (decide (x0≥0)) (
   bi (decide (x0≤x2)) (
    bi (decide ((w.i64 (x2 - x0))≥x1)) (
     gf (decide (x1 = 0)) <|
     some (0,gB.dv ((Int.tmod x0 x1) == 0) [])) <|
    some (0,gB.dv false [])) <|
   some (0,gB.dv false [])) <|
  some (0,gB.dv false [])) <|
 bi (x1 == 4) (
  bi (decide (x0≥0)) (
   bi (decide (x0≤x2)) (
    bi (decide ((w.i64 (x2 - x0))≥x1)) (
     gf (decide (x1 = 0)) <|
     some (0,gB.dv ((Int.tmod x0 x1) == 0) [])) <|
    some (0,gB.dv false [])) <|
   some (0,gB.dv false [])) <|
  some (0,gB.dv false [])) <|
 some (0,gB.dv false [])
def c2H (N:Nat):CE:=(c3h,mkF [pI,pI,pI] [pB] (c1t N))
theorem d0C (N:Nat):CEok Q (c2H N) :=
 fnG (hi:=d9N) (l:=[]) (t:=[]) a0r hmix trivial trivial f_96 (by kernel_rfl) (by kernel_rfl) trivial fun ys=>by kernel_rfl
def b3C:CS:=⟨65,41,⟨[.one (.d tI)],[]⟩,[.one (.d tI)],true,[]⟩
def e2F:Hi:=⟨[],[],[4,7,11],[],[]⟩
theorem f_41:Fn Q 41 f41 (codeOf f41):=by constructor <;> kernel_rfl
def c0u (N:Nat) (x0:Int):Option Rs :=
 bi (x0 == 26) (
  some (0,gI.dv 4 [])) <|
 bi (x0 == 31) (
  some (0,gI.dv 4 [])) <|
 bi (x0 == 27) (
  some (0,gI.dv 2 [])) <|
 bi (x0 == 28) (
  some (0,gI.dv 2 [])) <|
 bi (x0 == 32) (
  some (0,gI.dv 2 [])) <|
 bi (x0 == 29) (
  some (0,gI.dv 1 [])) <|
 bi (x0 == 30) (
  some (0,gI.dv 1 [])) <|
 bi (x0 == 33) (
  some (0,gI.dv 1 [])) <|
 some (0,gI.dv 0 [])
def b3D (N:Nat):CE:=(b3C,mkF [pI] [pI] (c0u N))
theorem b7o (N:Nat):CEok Q (b3D N) :=
 fnG (hi:=e2F) (l:=[]) (t:=[]) a0r hmix trivial trivial f_41 (by kernel_rfl) (by kernel_rfl) trivial fun ys=>by kernel_rfl
def b2i:CS:=⟨66,97,⟨[.agg [.d tB,.d tI,.d tI,.d tI,.d tW,.d tI,.d tI,.d tI],.one (.d tI)],[]⟩,[.one (.d tB)],true,[]⟩
def c2h:Hi:=⟨[((1,2),a2C),((2,4),b3C),((2,12),c3h)],[],[15,23,26,30,34,40,45,50,55],[],[]⟩
theorem f_97:Fn Q 97 f97 (codeOf f97):=by constructor <;> kernel_rfl
def a5W (N:Nat) (x0:a0e) (x1:Int):Option Rs :=
 on1 (a5s N x0.2.1)<|gg [pI]<|fun (x2:Int) =>
 on1 (c0u N x0.2.1)<|gg [pI]<|fun (x3:Int) =>
 bi (x0.2.2.2.1 == x3) (
  on1 (c1t N x0.2.2.1 x0.2.2.2.1 x1)<|gg [pB]<|fun (x4:Bool) =>
  bi x4 (
   bi x0.1 (
    bi (x2 == 5) (
     bi (decide (x0.2.2.2.2.2.1≥0)) (
      bi (decide (x0.2.2.2.2.2.1≤1000)) (
       bi (decide (x0.2.2.2.2.2.2.1≥(-1:Int))) (
        some (0,gB.dv (decide (x0.2.2.2.2.2.2.1≤15)) [])) <|
       some (0,gB.dv false [])) <|
      some (0,gB.dv false [])) <|
     some (0,gB.dv false [])) <|
    bi (!x0.1) (
     bi (x2 == 4) (
      bi (decide (x0.2.2.2.2.2.1≥0)) (
       bi (decide (x0.2.2.2.2.2.1≤1000)) (
        bi (decide (x0.2.2.2.2.2.2.1≥(-1:Int))) (
         some (0,gB.dv (decide (x0.2.2.2.2.2.2.1≤15)) [])) <|
        some (0,gB.dv false [])) <|
       some (0,gB.dv false [])) <|
      some (0,gB.dv false [])) <|
     some (0,gB.dv false [])) <|
    some (0,gB.dv false [])) <|
   bi (!x0.1) (
    bi (x2 == 4) (
     bi (decide (x0.2.2.2.2.2.1≥0)) (
      bi (decide (x0.2.2.2.2.2.1≤1000)) (
       bi (decide (x0.2.2.2.2.2.2.1≥(-1:Int))) (
        some (0,gB.dv (decide (x0.2.2.2.2.2.2.1≤15)) [])) <|
       some (0,gB.dv false [])) <|
      some (0,gB.dv false [])) <|
     some (0,gB.dv false [])) <|
    some (0,gB.dv false [])) <|
   some (0,gB.dv false [])) <|
  some (0,gB.dv false [])) <|
 some (0,gB.dv false [])
def b1E (N:Nat):CE:=(b2i,mkF [a3C,pI] [pB] (a5W N))
theorem c0H (N:Nat):CEok Q (b1E N) :=
 fnG (hi:=c2h) (l:=[a2O N,b3D N,c2H N]) (t:=[]) a0r hmix ⟨a3h N,b7o N,d0C N,trivial⟩ ⟨rfl,rfl,rfl,trivial⟩ f_97 (by kernel_rfl) (by kernel_rfl) trivial fun ys=>by kernel_rfl
def a2x:CS:=⟨67,37,⟨[.agg q_5,.agg [.d (.sl a0n),.d (.ar 16 tI)],.agg q_0],[]⟩,[.one (.d tB)],true,[]⟩
def b1S:LS:=⟨⟨[.no,.no,.no,.no,.no,.one (.p 0 0 [1,16,16,1,1,1,1,1,1,16,16,1,1,1,1,1,1,1,1,1,1,1,1,1,1,1,1,1,1,1,1,1]),.no,.one (.d tI)]++nos 242,[q_0]⟩,[(0,⟨nos 6++[.one (.d tB)]++nos 243,[]⟩),(1,⟨[.no,.no,.no,.no,.no,.one (.p 0 0 [1,16,16,1,1,1,1,1,1,16,16,1,1,1,1,1,1,1,1,1,1,1,1,1,1,1,1,1,1,1,1,1])]++nos 244,[q_0]⟩)]⟩
def b1L:LS:=⟨⟨[.no,.no,.no,.no,.no,.one (.p 0 0 [1,16,16,1,1,1,1,1,1,16,16,1,1,1,1,1,1,1,1,1,1,1,1,1,1,1,1,1,1,1,1,1]),.no,.no,.no,.one (.d tI),.one (.d tI)]++nos 239,[q_0]⟩,[(0,⟨nos 6++[.one (.d tB)]++nos 243,[]⟩),(3,⟨[.no,.no,.no,.no,.no,.one (.p 0 0 [1,16,16,1,1,1,1,1,1,16,16,1,1,1,1,1,1,1,1,1,1,1,1,1,1,1,1,1,1,1,1,1]),.no,.no,.no,.one (.d tI)]++nos 240,[q_0]⟩)]⟩
def a2y:Hi:=⟨[((1,1),a7E),((1,7),b0F),((1,14),b0F),((1,20),a3O),((1,26),a3O),((1,32),a3O),((1,38),a3O),((9,7),c3h),((9,12),a3O),((16,4),b2i),((26,11),a3O),((26,16),a3O)],[(0,b1S),(2,b1L)],[17,24,31,37,43,49,54,61,69,77,85,93,101,109,114,119,136,142,145,149,154,167,169,176,186,195,200,209,214,220,225,230,235,239,243],[],[]⟩
theorem f_37:Fn Q 37 f37 (codeOf f37):=by constructor <;> kernel_rfl
def a3T (N:Nat):List CE:=[a8e N,b7b N,c7b N,c2H N,b1E N]
theorem a8d (N:Nat):AllP (CEok Q) (a3T N):=⟨b2P N,c7I N,d4F N,d0C N,c0H N,trivial⟩
theorem a8T (N:Nat):AllP (fun e=>lookC (a3T N) e.2.id = some e.2) a2y.cs:=⟨rfl,rfl,rfl,rfl,rfl,rfl,rfl,rfl,rfl,rfl,rfl,rfl,trivial⟩
def a3s (N:Nat) (again:Fn' (Option Rs) [pI,a0d]) (x0:Int) (x1:a0b):Option Rs :=
 bi (decide (x0 < (len x1.Saq))) (
  gd (idx x0 (List.length x1.Saq)) <|
  on1 (c1t N ((List.getD x1.Saq x0.toNat a0a.z).1) ((List.getD x1.Saq x0.toNat a0a.z).2.1) (len x1.Mem))<|gg [pB]<|fun (x2:Bool) =>
  bi (!x2) (
   some (0,gB.dv false [])) <|
  on1 (a5u N ((List.getD x1.Saq x0.toNat a0a.z).2.2.1))<|gg [pB]<|fun (x3:Bool) =>
  bi (!x3) (
   some (0,gB.dv false [])) <|
  bi ((List.getD x1.Saq x0.toNat a0a.z).2.2.2.1) (
   bi (decide (x0 > 0)) (
    some (0,gB.dv false [])) <|
   again (w.i64 (x0+1)) x1) <|
  again (w.i64 (x0+1)) x1) <|
 some (1,a0c.dv x1 [])
def a1I (N:Nat):Nat→Fn' (Option Rs) [pI,a0d]:=lpG (a3s N)
def b1V (N:Nat):LE:=(0,mkM [pI,a0d] [(0,[pB]),(1,[a0d])] (a1I N N))
theorem c1Z (N:Nat):LEok Q a2y (bodOf f37) f37.ntmps 0 (b1V N) :=
 loopG (hi:=a2y) (l:=a3T N) (t:=[]) (r:=a3s N) a0r hmix (a8d N) (a8T N) f_37 trivial (ls:=b1S) (body:=bodyAt f37 0) (by kernel_rfl) (by kernel_rfl) fun A ys=>by kernel_rfl
def a3f (N:Nat) (again:Fn' (Option Rs) [pI,pI,a0d]) (x0:Int) (x1:Int) (x2:a0b):Option Rs :=
 bi (decide (x1 < (len x2.Table))) (
  gd (idx x1 (List.length x2.Table)) <|
  on1 (a5W N (List.getD x2.Table x1.toNat a0e.z) (len x2.Mem))<|gg [pB]<|fun (x3:Bool) =>
  bi (!x3) (
   some (0,gB.dv false [])) <|
  bi ((List.getD x2.Table x1.toNat a0e.z).1) (
   bi ((len x2.Saq) == 0) (
    some (0,gB.dv false [])) <|
   gd (idx 0 (List.length x2.Saq)) <|
   bi ((List.getD x2.Saq 0 a0a.z).1 != (List.getD x2.Table x1.toNat a0e.z).2.2.1) (
    some (0,gB.dv false [])) <|
   gd (idx 0 (List.length x2.Saq)) <|
   bi ((List.getD x2.Saq 0 a0a.z).2.1 != (List.getD x2.Table x1.toNat a0e.z).2.2.2.1) (
    some (0,gB.dv false [])) <|
   again (w.i64 (x0+1)) (w.i64 (x1+1)) x2) <|
  again x0 (w.i64 (x1+1)) x2) <|
 some (3,gI.dv x0 (a0c.dv x2 []))
def a1H (N:Nat):Nat→Fn' (Option Rs) [pI,pI,a0d]:=lpG (a3f N)
def b1H (N:Nat):LE:=(2,mkM [pI,pI,a0d] [(0,[pB]),(3,[pI,a0d])] (a1H N N))
theorem c2e (N:Nat):LEok Q a2y (bodOf f37) f37.ntmps 0 (b1H N) :=
 loopG (hi:=a2y) (l:=a3T N) (t:=[]) (r:=a3f N) a0r hmix (a8d N) (a8T N) f_37 trivial (ls:=b1L) (body:=bodyAt f37 2) (by kernel_rfl) (by kernel_rfl) fun A ys=>by kernel_rfl
def a2i (N:Nat) (x0:a0f) (x1:a0g) (x2:a0b):Option Rs :=
 on1 (a4w N x0)<|gg [pB]<|fun (x3:Bool) =>
 bi (!x3) (
  some (0,gB.dv false [])) <|
 on1 (a7i N x1 false x2.A)<|gg [pB]<|fun (x4:Bool) =>
 bi (!x4) (
  some (0,gB.dv false [])) <|
 on1 (a7i N x1 true x2.E)<|gg [pB]<|fun (x5:Bool) =>
 bi (!x5) (
  some (0,gB.dv false [])) <|
 on1 (a5u N x2.Cycle)<|gg [pB]<|fun (x6:Bool) =>
 bi (!x6) (
  some (0,gB.dv false [])) <|
 on1 (a5u N x2.Lats)<|gg [pB]<|fun (x7:Bool) =>
 bi (!x7) (
  some (0,gB.dv false [])) <|
 on1 (a5u N x2.Picks)<|gg [pB]<|fun (x8:Bool) =>
 bi (!x8) (
  some (0,gB.dv false [])) <|
 on1 (a5u N x2.Tags)<|gg [pB]<|fun (x9:Bool) =>
 bi (!x9) (
  some (0,gB.dv false [])) <|
 bi (decide ((len x2.Ldq) > x0.Ldq)) (
  some (0,gB.dv false [])) <|
 bi (decide ((len x2.Sdq) > x0.Sdq)) (
  some (0,gB.dv false [])) <|
 bi (decide ((len x2.Aeq) > x0.Aeq)) (
  some (0,gB.dv false [])) <|
 bi (decide ((len x2.Abq) > x0.Abq)) (
  some (0,gB.dv false [])) <|
 bi (decide ((len x2.Ebq) > x0.Ebq)) (
  some (0,gB.dv false [])) <|
 bi (decide ((len x2.Saq) > x0.Saq)) (
  some (0,gB.dv false [])) <|
 bi (decide ((len x2.Table) > x0.Flight)) (
  some (0,gB.dv false [])) <|
 bi (decide ((len x2.Mem) > 65536)) (
  some (0,gB.dv false [])) <|
 onB 0 1 (a1I N N 0 x2) (gg [pB]<|fun (x10:Bool) =>
  some (0,gB.dv x10 []))<|gg [a0d]<|fun (x11:a0b) =>
 onB 0 3 (a1H N N 0 0 x11) (gg [pB]<|fun (x12:Bool) =>
  some (0,gB.dv x12 []))<|gg [pI,a0d]<|fun (x13:Int) (x14:a0b) =>
 bi (decide ((len x14.Saq) > 0)) (
  gd (idx 0 (List.length x14.Saq)) <|
  bi (decide (x13 > 1)) (
   some (0,gB.dv false [])) <|
  bi (!((List.getD x14.Saq 0 a0a.z).2.2.2.1 == (x13 == 1))) (
   some (0,gB.dv false [])) <|
  bi (decide (x14.Trap.Kind≥0)) (
   bi (decide (x14.Trap.Kind≤4)) (
    on1 (a5u N x14.Trap.Step)<|gg [pB]<|fun (x15:Bool) =>
    bi x15 (
     on1 (a5u N x14.Trap.Pc)<|gg [pB]<|fun (x16:Bool) =>
     bi x16 (
      bi (decide (x14.Trap.Kind > 0)) (
       some (0,gB.dv true [])) <|
      bi (x14.Trap.Step == 0) (
       some (0,gB.dv (x14.Trap.Pc == 0) [])) <|
      some (0,gB.dv false [])) <|
     some (0,gB.dv false [])) <|
    some (0,gB.dv false [])) <|
   some (0,gB.dv false [])) <|
  some (0,gB.dv false [])) <|
 bi (decide (x13 > 1)) (
  some (0,gB.dv false [])) <|
 bi (!(false == (x13 == 1))) (
  some (0,gB.dv false [])) <|
 bi (decide (x14.Trap.Kind≥0)) (
  bi (decide (x14.Trap.Kind≤4)) (
   on1 (a5u N x14.Trap.Step)<|gg [pB]<|fun (x17:Bool) =>
   bi x17 (
    on1 (a5u N x14.Trap.Pc)<|gg [pB]<|fun (x18:Bool) =>
    bi x18 (
     bi (decide (x14.Trap.Kind > 0)) (
      some (0,gB.dv true [])) <|
     bi (x14.Trap.Step == 0) (
      some (0,gB.dv (x14.Trap.Pc == 0) [])) <|
     some (0,gB.dv false [])) <|
    some (0,gB.dv false [])) <|
   some (0,gB.dv false [])) <|
  some (0,gB.dv false [])) <|
 some (0,gB.dv false [])
def a2z (N:Nat):CE:=(a2x,mkF [a0l,a0m,a0d] [pB] (a2i N))
theorem a3J (N:Nat):CEok Q (a2z N) :=
 fnG (hi:=a2y) (l:=a3T N) (t:=[b1V N,b1H N]) a0r hmix (a8d N) (a8T N) f_37 (by kernel_rfl) (by kernel_rfl) ⟨c1Z N,c2e N,trivial⟩ fun ys=>by kernel_rfl
def a7M:CS:=⟨68,80,⟨[.one (.d (.sl a0k))],[]⟩,[.one (.o a0k)],true,[]⟩
def d7M:Hi:=⟨[],[],[],[],[]⟩
theorem f_80:Fn Q 80 f80 (codeOf f80):=by constructor <;> kernel_rfl
def a7q (N:Nat) (x0:List a0q):Option Rs :=
 gd (rm ([]:List a0q) x0 16) <|
 some (0,(gD (.sl a0k)).dv (([]:List a0q)++x0) [])
def b0n (N:Nat):CE:=(a7M,mkF [pD (.sl a0k)] [pD (.sl a0k)] (a7q N))
theorem b4Z (N:Nat):CEok Q (b0n N) :=
 fnG (hi:=d7M) (l:=[]) (t:=[]) a0r hmix trivial trivial f_80 (by kernel_rfl) (by kernel_rfl) trivial fun ys=>by kernel_rfl
def a4G:CS:=⟨69,33,⟨[.agg q_0],[]⟩,[.agg q_1],true,[]⟩
def d9Z:Hi:=⟨[((1,2),a7M)],[],[],[],[]⟩
theorem f_33:Fn Q 33 f33 (codeOf f33):=by constructor <;> kernel_rfl
def a6F (N:Nat) (x0:a0b):Option Rs :=
 on1 (a7q N x0.Ldq)<|gg [pD (.sl a0k)]<|fun (x1:List a0q) =>
 gd (rm ([]:List Int) x0.Sdq 4) <|
 gd (rm ([]:List Int) x0.Aeq 4) <|
 gd (rm ([]:List Bool) x0.Abq 1) <|
 gd (rm ([]:List Bool) x0.Ebq 1) <|
 gd (rm ([]:List a0a) x0.Saq 32) <|
 gd (rm ([]:List a0e) x0.Table 64) <|
 gd (rm ([]:List Int) x0.Mem 1) <|
 gd (rm ([]:List a0K) x0.Writes 24) <|
 some (0,a0c.dv ({ x0 with Ldq:=x1,Sdq:=(([]:List Int)++x0.Sdq),Aeq:=(([]:List Int)++x0.Aeq),Abq:=(([]:List Bool)++x0.Abq),Ebq:=(([]:List Bool)++x0.Ebq),Saq:=(([]:List a0a)++x0.Saq),Table:=(([]:List a0e)++x0.Table),Mem:=(([]:List Int)++x0.Mem),Writes:=(([]:List a0K)++x0.Writes) }:a0b) [])
def a5g (N:Nat):CE:=(a4G,mkF [a0d] [a0d] (a6F N))
theorem a6q (N:Nat):CEok Q (a5g N) :=
 fnG (hi:=d9Z) (l:=[b0n N]) (t:=[]) a0r hmix ⟨b4Z N,trivial⟩ ⟨rfl,trivial⟩ f_33 (by kernel_rfl) (by kernel_rfl) trivial fun ys=>by kernel_rfl
def b5o:CS:=⟨70,215,⟨[.one (.d tI),.one (.p 0 0 [1]),.one (.p 1 0 [1])],[[.d tI],[.d tI]]⟩,[.one (.d tB)],true,[[.d tI],[.d tI]]⟩
def c6l:Hi:=⟨[],[],[8],[],[]⟩
theorem f1R:Fn Q 215 f215 (codeOf f215):=by constructor <;> kernel_rfl
def a8r (N:Nat) (x0:Int) (x1:Int) (x2:Int):Option Rs :=
 bi (decide (x0 < x1)) (
  some (0,gB.dv true (gI.dv x1 (gI.dv x2 [])))) <|
 some (0,gB.dv (decide (x0 > x2)) (gI.dv x1 (gI.dv x2 [])))
def b5y (N:Nat):CE:=(b5o,mkF [pI,pI,pI] [pB,pI,pI] (a8r N))
theorem c6f (N:Nat):CEok Q (b5y N) :=
 fnG (hi:=c6l) (l:=[]) (t:=[]) a0r hmix trivial trivial f1R (by kernel_rfl) (by kernel_rfl) trivial fun ys=>by kernel_rfl
def a8X:CS:=⟨71,129,⟨[.one (.d (.sl tI)),.one (.f 215 [⟨0,0,[1]⟩,⟨1,0,[1]⟩])],[[.d tI],[.d tI]]⟩,[.one (.d tI)],true,[[.d tI],[.d tI]]⟩
def a7z:LS:=⟨⟨[.one (.d (.sl tI)),.one (.f 215 [⟨0,0,[1]⟩,⟨1,0,[1]⟩]),.no,.no,.no,.no,.no,.one (.d tI),.one (.d tI)]++nos 10,[[.d tI],[.d tI]]⟩,[(0,⟨[.no,.no,.no,.no,.one (.d tI)]++nos 14,[[.d tI],[.d tI]]⟩),(1,⟨nos 19,[[.d tI],[.d tI]]⟩)]⟩
def a3b:Hi:=⟨[((4,5),b5o)],[(0,a7z)],[9,16],[],[]⟩
def a3a (N:Nat):List CE:=[b5y N]
theorem a8F (N:Nat):AllP (CEok Q) (a3a N):=⟨c6f N,trivial⟩
theorem a8Z (N:Nat):AllP (fun e=>lookC (a3a N) e.2.id = some e.2) a3b.cs:=⟨rfl,trivial⟩
def a1O (N:Nat) (again:Fn' (Option Rs) [pD (.sl tI),pI,pI,pI,pI]) (x0:List Int) (x1:Int) (x2:Int) (x3:Int) (x4:Int):Option Rs :=
 bi (decide (x2 < x1)) (
  gd (idx x2 (List.length x0)) <|
  on1 (a8r N (List.getD x0 x2.toNat 0) x3 x4)<|gg [pB,pI,pI]<|fun (x5:Bool) (x6:Int) (x7:Int) =>
  bi x5 (
   some (0,gI.dv x2 (gI.dv x6 (gI.dv x7 [])))) <|
  again x0 x1 (w.i64 (x2+1)) x6 x7) <|
 some (1,gI.dv x3 (gI.dv x4 []))
def a1w (N:Nat):Nat→Fn' (Option Rs) [pD (.sl tI),pI,pI,pI,pI]:=lpG (a1O N)
def a7y (N:Nat):LE:=(0,mkM [pD (.sl tI),pI,pI,pI,pI] [(0,[pI,pI,pI]),(1,[pI,pI])] (a1w N N))
theorem b5D (N:Nat):LEok Q a3b (bodOf f129) f129.ntmps 2 (a7y N) :=
 loopG (hi:=a3b) (l:=a3a N) (t:=[]) (r:=a1O N) a0r hmix (a8F N) (a8Z N) e1B trivial (ls:=a7z) (body:=bodyAt f129 0) (by kernel_rfl) (by kernel_rfl) fun A ys=>by kernel_rfl
def a6P (N:Nat) (x0:List Int) (x1:Int) (x2:Int):Option Rs :=
 onB 0 1 (a1w N N x0 (len x0) 0 x1 x2) (gg [pI,pI,pI]<|fun (x3:Int) (x4:Int) (x5:Int) =>
  some (0,gI.dv x3 (gI.dv x4 (gI.dv x5 []))))<|gg [pI,pI]<|fun (x6:Int) (x7:Int) =>
 some (0,gI.dv (-1:Int) (gI.dv x6 (gI.dv x7 [])))
def a9m (N:Nat):CE:=(a8X,mkF [pD (.sl tI),pI,pI] [pI,pI,pI] (a6P N))
theorem b8I (N:Nat):CEok Q (a9m N) :=
 fnG (hi:=a3b) (l:=a3a N) (t:=[a7y N]) a0r hmix (a8F N) (a8Z N) e1B (by kernel_rfl) (by kernel_rfl) ⟨b5D N,trivial⟩ fun ys=>by kernel_rfl
def a6R:CS:=⟨72,74,⟨[.one (.d (.sl tI)),.one (.f 215 [⟨0,0,[1]⟩,⟨1,0,[1]⟩])],[[.d tI],[.d tI]]⟩,[.one (.d tB)],true,[[.d tI],[.d tI]]⟩
def b5d:Hi:=⟨[((1,2),a8X)],[],[],[],[]⟩
def a4p (N:Nat) (x0:List Int) (x1:Int) (x2:Int):Option Rs :=
 on1 (a6P N x0 x1 x2)<|gg [pI,pI,pI]<|fun (x3:Int) (x4:Int) (x5:Int) =>
 some (0,gB.dv (decide (x3≥0)) (gI.dv x4 (gI.dv x5 [])))
def a6Z (N:Nat):CE:=(a6R,mkF [pD (.sl tI),pI,pI] [pB,pI,pI] (a4p N))
theorem b3W (N:Nat):CEok Q (a6Z N) :=
 fnG (hi:=b5d) (l:=[a9m N]) (t:=[]) a0r hmix ⟨b8I N,trivial⟩ ⟨rfl,trivial⟩ f_74 (by kernel_rfl) (by kernel_rfl) trivial fun ys=>by kernel_rfl
def a0T:CS:=⟨73,144,⟨[.one (.d tI),.one (.d tI),.one (.d (.sl tI))],[]⟩,[.one (.d tB)],true,[]⟩
def c9y:Hi:=⟨[((1,2),a6R)],[],[],[],[]⟩
theorem e9Q:Fn Q 144 f144 (codeOf f144):=by constructor <;> kernel_rfl
def a0R (N:Nat) (x0:Int) (x1:Int) (x2:List Int):Option Rs :=
 on1 (a4p N x2 x0 x1)<|gg [pB,pI,pI]<|fun (x3:Bool) (x4:Int) (x5:Int) =>
 some (0,gB.dv (!x3) [])
def a2l (N:Nat):CE:=(a0T,mkF [pI,pI,pD (.sl tI)] [pB] (a0R N))
theorem a2U (N:Nat):CEok Q (a2l N) :=
 fnG (hi:=c9y) (l:=[a6Z N]) (t:=[]) a0r hmix ⟨b3W N,trivial⟩ ⟨rfl,trivial⟩ e9Q (by kernel_rfl) (by kernel_rfl) trivial fun ys=>by kernel_rfl
def b9t:CS:=⟨74,117,⟨[.agg q_5],[]⟩,[.one (.d tB)],true,[]⟩
def c9W:Hi:=⟨[((1,17),a0T),((1,22),a0T),((1,28),a0T),((1,36),a0T)],[],[21,27,33],[],[]⟩
theorem f0U:Fn Q 117 f117 (codeOf f117):=by constructor <;> kernel_rfl
def b1Z (N:Nat) (x0:a0f):Option Rs :=
 on1 (a0R N 1 64 [x0.Ldq,x0.Sdq,x0.Aeq,x0.Abq,x0.Ebq,x0.Saq,x0.Flight,x0.Slip])<|gg [pB]<|fun (x1:Bool) =>
 bi x1 (
  on1 (a0R N 1 16 [x0.Banks])<|gg [pB]<|fun (x2:Bool) =>
  bi x2 (
   on1 (a0R N 1 1000 [x0.Lat])<|gg [pB]<|fun (x3:Bool) =>
   bi x3 (
    on1 (a0R N 1 50 [x0.Mul,x0.Div])<|gg [pB]<|fun (x4:Bool) =>
    some (0,gB.dv x4 [])) <|
   some (0,gB.dv false [])) <|
  some (0,gB.dv false [])) <|
 some (0,gB.dv false [])
def b8X (N:Nat):CE:=(b9t,mkF [a0l] [pB] (b1Z N))
theorem c9D (N:Nat):CEok Q (b8X N) :=
 fnG (hi:=c9W) (l:=[a2l N]) (t:=[]) a0r hmix ⟨a2U N,trivial⟩ ⟨rfl,rfl,rfl,rfl,trivial⟩ f0U (by kernel_rfl) (by kernel_rfl) trivial fun ys=>by kernel_rfl
def b6Z:CS:=⟨75,142,⟨[.agg q_6],[]⟩,[.one (.d (.sl a0i))],true,[]⟩
def c6R:Hi:=⟨[],[],[],[],[]⟩
theorem f0z:Fn Q 142 f142 (codeOf f142):=by constructor <;> kernel_rfl
def a9N (N:Nat) (x0:a0x):Option Rs :=
 some (0,(gD (.sl a0i)).dv x0.2.2.2.2.1 [])
def b6c (N:Nat):CE:=(b6Z,mkF [c7d] [pD (.sl a0i)] (a9N N))
theorem c9i (N:Nat):CEok Q (b6c N) :=
 fnG (hi:=c6R) (l:=[]) (t:=[]) a0r hmix trivial trivial f0z (by kernel_rfl) (by kernel_rfl) trivial fun ys=>by kernel_rfl
def c4A:CS:=⟨76,141,⟨[.agg [.d (.sl a0n),.d (.ar 16 tI)],.agg q_3,.one (.f 142 [])],[]⟩,[.one (.d tB)],true,[]⟩
def d4e:Hi:=⟨[((3,8),b6Z),((3,14),a0T),((3,24),a0T),((3,29),a0T)],[],[11,19,35,46],[],[]⟩
theorem e9a:Fn Q 141 f141 (codeOf f141):=by constructor <;> kernel_rfl
def b7G (N:Nat) (x0:a0g) (x1:a0v):Option Rs :=
 bi (decide (x1.Pos.Block < 0)) (
  some (0,gB.dv false [])) <|
 bi (decide (x1.Pos.Block≥(len x0.Blocks))) (
  some (0,gB.dv false [])) <|
 gd (idx x1.Pos.Block (List.length x0.Blocks)) <|
 on1 (a9N N (List.getD x0.Blocks x1.Pos.Block.toNat a0x.z))<|gg [pD (.sl a0i)]<|fun (x2:List a0h) =>
 on1 (a0R N 0 (len x2) [x1.Pos.Index])<|gg [pB]<|fun (x3:Bool) =>
 bi x3 (
  on1 (a0R N 0 1099511627776 [x1.Pos.Base,x1.Wait,x1.Done])<|gg [pB]<|fun (x4:Bool) =>
  bi x4 (
   on1 (a0R N (-1:Int) 1099511627776 (List.take (16 - 0) (List.drop 0 x1.Ready)))<|gg [pB]<|fun (x5:Bool) =>
   some (0,gB.dv x5 [])) <|
  some (0,gB.dv false [])) <|
 some (0,gB.dv false [])
def c4z (N:Nat):CE:=(c4A,mkF [a0m,a0S] [pB] (b7G N))
theorem d5R (N:Nat):CEok Q (c4z N) :=
 fnG (hi:=d4e) (l:=[b6c N,a2l N]) (t:=[]) a0r hmix ⟨c9i N,a2U N,trivial⟩ ⟨rfl,rfl,rfl,rfl,trivial⟩ e9a (by kernel_rfl) (by kernel_rfl) trivial fun ys=>by kernel_rfl
def b6l:CS:=⟨77,143,⟨[.agg q_6],[]⟩,[.one (.d (.sl a0i))],true,[]⟩
def c6I:Hi:=⟨[],[],[],[],[]⟩
theorem f1m:Fn Q 143 f143 (codeOf f143):=by constructor <;> kernel_rfl
def a9z (N:Nat) (x0:a0x):Option Rs :=
 some (0,(gD (.sl a0i)).dv x0.2.2.2.2.2.1 [])
def b6o (N:Nat):CE:=(b6l,mkF [c7d] [pD (.sl a0i)] (a9z N))
theorem c7J (N:Nat):CEok Q (b6o N) :=
 fnG (hi:=c6I) (l:=[]) (t:=[]) a0r hmix trivial trivial f1m (by kernel_rfl) (by kernel_rfl) trivial fun ys=>by kernel_rfl
def b9s:CS:=⟨78,141,⟨[.agg [.d (.sl a0n),.d (.ar 16 tI)],.agg q_3,.one (.f 143 [])],[]⟩,[.one (.d tB)],true,[]⟩
def c9M:Hi:=⟨[((3,8),b6l),((3,14),a0T),((3,24),a0T),((3,29),a0T)],[],[11,19,35,46],[],[]⟩
def b1o (N:Nat) (x0:a0g) (x1:a0v):Option Rs :=
 bi (decide (x1.Pos.Block < 0)) (
  some (0,gB.dv false [])) <|
 bi (decide (x1.Pos.Block≥(len x0.Blocks))) (
  some (0,gB.dv false [])) <|
 gd (idx x1.Pos.Block (List.length x0.Blocks)) <|
 on1 (a9z N (List.getD x0.Blocks x1.Pos.Block.toNat a0x.z))<|gg [pD (.sl a0i)]<|fun (x2:List a0h) =>
 on1 (a0R N 0 (len x2) [x1.Pos.Index])<|gg [pB]<|fun (x3:Bool) =>
 bi x3 (
  on1 (a0R N 0 1099511627776 [x1.Pos.Base,x1.Wait,x1.Done])<|gg [pB]<|fun (x4:Bool) =>
  bi x4 (
   on1 (a0R N (-1:Int) 1099511627776 (List.take (16 - 0) (List.drop 0 x1.Ready)))<|gg [pB]<|fun (x5:Bool) =>
   some (0,gB.dv x5 [])) <|
  some (0,gB.dv false [])) <|
 some (0,gB.dv false [])
def b9N (N:Nat):CE:=(b9s,mkF [a0m,a0S] [pB] (b1o N))
theorem c9B (N:Nat):CEok Q (b9N N) :=
 fnG (hi:=c9M) (l:=[b6o N,a2l N]) (t:=[]) a0r hmix ⟨c7J N,a2U N,trivial⟩ ⟨rfl,rfl,rfl,rfl,trivial⟩ e9a (by kernel_rfl) (by kernel_rfl) trivial fun ys=>by kernel_rfl
def b9q:CS:=⟨79,145,⟨[.agg q_5,.agg q_0],[]⟩,[.one (.d tB)],true,[]⟩
def d0d:Hi:=⟨[],[],[11,19,27,35,43,51,59],[],[]⟩
theorem e9G:Fn Q 145 f145 (codeOf f145):=by constructor <;> kernel_rfl
def b2a (N:Nat) (x0:a0f) (x1:a0b):Option Rs :=
 bi (decide ((len x1.Ldq)≤x0.Ldq)) (
  bi (decide ((len x1.Sdq)≤x0.Sdq)) (
   bi (decide ((len x1.Aeq)≤x0.Aeq)) (
    bi (decide ((len x1.Abq)≤x0.Abq)) (
     bi (decide ((len x1.Ebq)≤x0.Ebq)) (
      bi (decide ((len x1.Saq)≤x0.Saq)) (
       bi (decide ((len x1.Table)≤x0.Flight)) (
        some (0,gB.dv (decide ((len x1.Mem)≤65536)) [])) <|
       some (0,gB.dv false [])) <|
      some (0,gB.dv false [])) <|
     some (0,gB.dv false [])) <|
    some (0,gB.dv false [])) <|
   some (0,gB.dv false [])) <|
  some (0,gB.dv false [])) <|
 some (0,gB.dv false [])
def b9A (N:Nat):CE:=(b9q,mkF [a0l,a0d] [pB] (b2a N))
theorem c9R (N:Nat):CEok Q (b9A N) :=
 fnG (hi:=d0d) (l:=[]) (t:=[]) a0r hmix trivial trivial e9G (by kernel_rfl) (by kernel_rfl) trivial fun ys=>by kernel_rfl
def a3v:CS:=⟨80,229,⟨[.one (.d tI)],[]⟩,[.one (.d tI)],true,[]⟩
def d6B:Hi:=⟨[],[],[4,7,11],[],[]⟩
theorem f0M:Fn Q 229 f229 (codeOf f229):=by constructor <;> kernel_rfl
def a3m (N:Nat) (x0:Int):Option Rs :=
 bi (x0 == 26) (
  some (0,gI.dv 4 [])) <|
 bi (x0 == 31) (
  some (0,gI.dv 4 [])) <|
 bi (x0 == 27) (
  some (0,gI.dv 2 [])) <|
 bi (x0 == 28) (
  some (0,gI.dv 2 [])) <|
 bi (x0 == 32) (
  some (0,gI.dv 2 [])) <|
 bi (x0 == 29) (
  some (0,gI.dv 1 [])) <|
 bi (x0 == 30) (
  some (0,gI.dv 1 [])) <|
 bi (x0 == 33) (
  some (0,gI.dv 1 [])) <|
 some (0,gI.dv 0 [])
def a3w (N:Nat):CE:=(a3v,mkF [pI] [pI] (a3m N))
theorem a4A (N:Nat):CEok Q (a3w N) :=
 fnG (hi:=d6B) (l:=[]) (t:=[]) a0r hmix trivial trivial f0M (by kernel_rfl) (by kernel_rfl) trivial fun ys=>by kernel_rfl
def a6S:CS:=⟨81,260,⟨[.one (.d tI),.one (.d tW),.one (.d tI)],[]⟩,[.one (.d tI)],true,[]⟩
def d2p:Hi:=⟨[],[],[10,13,19,22,26,34,37],[],[]⟩
theorem f1S:Fn Q 260 f260 (codeOf f260):=by constructor <;> kernel_rfl
def a1s (N:Nat) (x0:Int) (x1:Int) (x2:Int):Option Rs :=
 bi (decide (x0≥1)) (
  gf (decide (x0 = 0)) <|
  bi ((Int.tmod (w.i64 x1) x0) != 0) (
   some (0,gI.dv 1 [])) <|
  bi (decide (x0 > 0)) (
   bi (decide (x0 > x2)) (
    some (0,gI.dv 2 [])) <|
   bi (decide ((w.i64 x1) > (w.i64 (x2 - x0)))) (
    some (0,gI.dv 2 [])) <|
   bi (decide (x0≤0)) (
    bi (decide ((w.i64 ((w.i64 x1)+x0)) > x2)) (
     some (0,gI.dv 2 [])) <|
    some (0,gI.dv 0 [])) <|
   some (0,gI.dv 0 [])) <|
  bi (decide (x0≤0)) (
   bi (decide ((w.i64 ((w.i64 x1)+x0)) > x2)) (
    some (0,gI.dv 2 [])) <|
   some (0,gI.dv 0 [])) <|
  some (0,gI.dv 0 [])) <|
 bi (decide (x0 > 0)) (
  bi (decide (x0 > x2)) (
   some (0,gI.dv 2 [])) <|
  bi (decide ((w.i64 x1) > (w.i64 (x2 - x0)))) (
   some (0,gI.dv 2 [])) <|
  bi (decide (x0≤0)) (
   bi (decide ((w.i64 ((w.i64 x1)+x0)) > x2)) (
    some (0,gI.dv 2 [])) <|
   some (0,gI.dv 0 [])) <|
  some (0,gI.dv 0 [])) <|
 bi (decide (x0≤0)) (
  bi (decide ((w.i64 ((w.i64 x1)+x0)) > x2)) (
   some (0,gI.dv 2 [])) <|
  some (0,gI.dv 0 [])) <|
 some (0,gI.dv 0 [])
def a7b (N:Nat):CE:=(a6S,mkF [pI,pW,pI] [pI] (a1s N))
theorem a9u (N:Nat):CEok Q (a7b N) :=
 fnG (hi:=d2p) (l:=[]) (t:=[]) a0r hmix trivial trivial f1S (by kernel_rfl) (by kernel_rfl) trivial fun ys=>by kernel_rfl
def b4l:CS:=⟨82,216,⟨[.one (.d (.sl tU)),.one (.d tI),.one (.d tI)],[]⟩,[.one (.d tB)],true,[]⟩
def d1T:Hi:=⟨[((1,26),a6S)],[],[9,13,17,21,27],[],[]⟩
theorem f1N:Fn Q 216 f216 (codeOf f216):=by constructor <;> kernel_rfl
def a7W (N:Nat) (x0:List Int) (x1:Int) (x2:Int):Option Rs :=
 bi (x2 == 1) (
  bi (decide (x1≥0)) (
   bi (decide (x1≤(len x0))) (
    on1 (a1s N x2 (w.u32 x1) (len x0))<|gg [pI]<|fun (x3:Int) =>
    some (0,gB.dv (x3 == 0) [])) <|
   some (0,gB.dv false [])) <|
  some (0,gB.dv false [])) <|
 bi (x2 == 2) (
  bi (decide (x1≥0)) (
   bi (decide (x1≤(len x0))) (
    on1 (a1s N x2 (w.u32 x1) (len x0))<|gg [pI]<|fun (x4:Int) =>
    some (0,gB.dv (x4 == 0) [])) <|
   some (0,gB.dv false [])) <|
  some (0,gB.dv false [])) <|
 bi (x2 == 4) (
  bi (decide (x1≥0)) (
   bi (decide (x1≤(len x0))) (
    on1 (a1s N x2 (w.u32 x1) (len x0))<|gg [pI]<|fun (x5:Int) =>
    some (0,gB.dv (x5 == 0) [])) <|
   some (0,gB.dv false [])) <|
  some (0,gB.dv false [])) <|
 some (0,gB.dv false [])
def b5l (N:Nat):CE:=(b4l,mkF [pD (.sl tU),pI,pI] [pB] (a7W N))
theorem c0N (N:Nat):CEok Q (b5l N) :=
 fnG (hi:=d1T) (l:=[a7b N]) (t:=[]) a0r hmix ⟨a9u N,trivial⟩ ⟨rfl,trivial⟩ f1N (by kernel_rfl) (by kernel_rfl) trivial fun ys=>by kernel_rfl
def b6U:CS:=⟨83,219,⟨[.one (.d (.sl tU)),.agg [.d tB,.d tI,.d tI,.d tI,.d tW,.d tI,.d tI,.d tI]],[]⟩,[.one (.d tB)],true,[]⟩
def c8Z:Hi:=⟨[((4,4),a3v),((4,12),a0T),((4,20),b4l),((4,26),a0T),((4,32),a0T)],[],[8,15,23,31,37],[],[]⟩
theorem f1k:Fn Q 219 f219 (codeOf f219):=by constructor <;> kernel_rfl
def a9S (N:Nat) (x0:List Int) (x1:a0e):Option Rs :=
 bi x1.1 (
  on1 (a3m N x1.2.1)<|gg [pI]<|fun (x2:Int) =>
  bi (x1.2.2.2.1 == x2) (
   on1 (a0R N 31 33 [x1.2.1])<|gg [pB]<|fun (x3:Bool) =>
   bi x3 (
    on1 (a7W N x0 x1.2.2.1 x1.2.2.2.1)<|gg [pB]<|fun (x4:Bool) =>
    bi x4 (
     on1 (a0R N 0 1000 [x1.2.2.2.2.2.1])<|gg [pB]<|fun (x5:Bool) =>
     bi x5 (
      on1 (a0R N (-1:Int) 15 [x1.2.2.2.2.2.2.1])<|gg [pB]<|fun (x6:Bool) =>
      some (0,gB.dv x6 [])) <|
     some (0,gB.dv false [])) <|
    some (0,gB.dv false [])) <|
   some (0,gB.dv false [])) <|
  some (0,gB.dv false [])) <|
 on1 (a3m N x1.2.1)<|gg [pI]<|fun (x7:Int) =>
 bi (x1.2.2.2.1 == x7) (
  on1 (a0R N 26 30 [x1.2.1])<|gg [pB]<|fun (x8:Bool) =>
  bi x8 (
   on1 (a7W N x0 x1.2.2.1 x1.2.2.2.1)<|gg [pB]<|fun (x9:Bool) =>
   bi x9 (
    on1 (a0R N 0 1000 [x1.2.2.2.2.2.1])<|gg [pB]<|fun (x10:Bool) =>
    bi x10 (
     on1 (a0R N (-1:Int) 15 [x1.2.2.2.2.2.2.1])<|gg [pB]<|fun (x11:Bool) =>
     some (0,gB.dv x11 [])) <|
    some (0,gB.dv false [])) <|
   some (0,gB.dv false [])) <|
  some (0,gB.dv false [])) <|
 some (0,gB.dv false [])
def b6u (N:Nat):CE:=(b6U,mkF [pD (.sl tU),a3C] [pB] (a9S N))
theorem c8r (N:Nat):CEok Q (b6u N) :=
 fnG (hi:=c8Z) (l:=[a3w N,a2l N,b5l N]) (t:=[]) a0r hmix ⟨a4A N,a2U N,c0N N,trivial⟩ ⟨rfl,rfl,rfl,rfl,rfl,trivial⟩ f1k (by kernel_rfl) (by kernel_rfl) trivial fun ys=>by kernel_rfl
def b5B:CS:=⟨84,218,⟨[.agg [.d tB,.d tI,.d tI,.d tI,.d tW,.d tI,.d tI,.d tI],.one (.p 0 0 [1,16,16,1,1,1,1,1,1,16,16,1,1,1,1,1,1,1,1,1,1,1,1,1,1,1,1,1,1,1,1,1])],[q_0]⟩,[.one (.d tB)],true,[q_0]⟩
def c6c:Hi:=⟨[((1,3),b6U)],[],[],[],[]⟩
theorem f1E:Fn Q 218 f218 (codeOf f218):=by constructor <;> kernel_rfl
def b2x (N:Nat) (x0:a0e) (x1:a0b):Option Rs :=
 on1 (a9S N x1.Mem x0)<|gg [pB]<|fun (x2:Bool) =>
 some (0,gB.dv (!x2) (a0c.dv x1 []))
def b5A (N:Nat):CE:=(b5B,mkF [a3C,a0d] [pB,a0d] (b2x N))
theorem c6k (N:Nat):CEok Q (b5A N) :=
 fnG (hi:=c6c) (l:=[b6u N]) (t:=[]) a0r hmix ⟨c8r N,trivial⟩ ⟨rfl,trivial⟩ f1E (by kernel_rfl) (by kernel_rfl) trivial fun ys=>by kernel_rfl
def a5i:CS:=⟨85,261,⟨[.one (.d (.sl a0j)),.one (.f 218 [⟨0,0,[1,16,16,1,1,1,1,1,1,16,16,1,1,1,1,1,1,1,1,1,1,1,1,1,1,1,1,1,1,1,1,1]⟩])],[q_0]⟩,[.one (.d tI)],true,[q_0]⟩
def a4j:LS:=⟨⟨[.one (.d (.sl a0j)),.one (.f 218 [⟨0,0,[1,16,16,1,1,1,1,1,1,16,16,1,1,1,1,1,1,1,1,1,1,1,1,1,1,1,1,1,1,1,1,1]⟩]),.no,.no,.no,.no,.no,.one (.d tI),.one (.d tI)]++nos 10,[q_0]⟩,[(0,⟨[.no,.no,.no,.no,.one (.d tI)]++nos 14,[q_0]⟩),(1,⟨nos 19,[q_0]⟩)]⟩
def a1G:Hi:=⟨[((4,5),b5B)],[(0,a4j)],[9,16],[],[]⟩
theorem e5j:Fn Q 261 f261 (codeOf f261):=by constructor <;> kernel_rfl
def a1D (N:Nat):List CE:=[b5A N]
theorem a4t (N:Nat):AllP (CEok Q) (a1D N):=⟨c6k N,trivial⟩
theorem a5k (N:Nat):AllP (fun e=>lookC (a1D N) e.2.id = some e.2) a1G.cs:=⟨rfl,trivial⟩
def a1g (N:Nat) (again:Fn' (Option Rs) [pD (.sl a0j),pI,pI,a0d]) (x0:List a0e) (x1:Int) (x2:Int) (x3:a0b):Option Rs :=
 bi (decide (x2 < x1)) (
  gd (idx x2 (List.length x0)) <|
  on1 (b2x N (List.getD x0 x2.toNat a0e.z) x3)<|gg [pB,a0d]<|fun (x4:Bool) (x5:a0b) =>
  bi x4 (
   some (0,gI.dv x2 (a0c.dv x5 []))) <|
  again x0 x1 (w.i64 (x2+1)) x5) <|
 some (1,a0c.dv x3 [])
def a1b (N:Nat):Nat→Fn' (Option Rs) [pD (.sl a0j),pI,pI,a0d]:=lpG (a1g N)
def a4e (N:Nat):LE:=(0,mkM [pD (.sl a0j),pI,pI,a0d] [(0,[pI,a0d]),(1,[a0d])] (a1b N N))
theorem a9H (N:Nat):LEok Q a1G (bodOf f261) f261.ntmps 1 (a4e N) :=
 loopG (hi:=a1G) (l:=a1D N) (t:=[]) (r:=a1g N) a0r hmix (a4t N) (a5k N) e5j trivial (ls:=a4j) (body:=bodyAt f261 0) (by kernel_rfl) (by kernel_rfl) fun A ys=>by kernel_rfl
def a3i (N:Nat) (x0:List a0e) (x1:a0b):Option Rs :=
 onB 0 1 (a1b N N x0 (len x0) 0 x1) (gg [pI,a0d]<|fun (x2:Int) (x3:a0b) =>
  some (0,gI.dv x2 (a0c.dv x3 [])))<|gg [a0d]<|fun (x4:a0b) =>
 some (0,gI.dv (-1:Int) (a0c.dv x4 []))
def a5j (N:Nat):CE:=(a5i,mkF [pD (.sl a0j),a0d] [pI,a0d] (a3i N))
theorem b1e (N:Nat):CEok Q (a5j N) :=
 fnG (hi:=a1G) (l:=a1D N) (t:=[a4e N]) a0r hmix (a4t N) (a5k N) e5j (by kernel_rfl) (by kernel_rfl) ⟨a9H N,trivial⟩ fun ys=>by kernel_rfl
def a3P:CS:=⟨86,217,⟨[.one (.d (.sl a0j)),.one (.f 218 [⟨0,0,[1,16,16,1,1,1,1,1,1,16,16,1,1,1,1,1,1,1,1,1,1,1,1,1,1,1,1,1,1,1,1,1]⟩])],[q_0]⟩,[.one (.d tB)],true,[q_0]⟩
def a8U:Hi:=⟨[((1,2),a5i)],[],[],[],[]⟩
theorem e8o:Fn Q 217 f217 (codeOf f217):=by constructor <;> kernel_rfl
def a1z (N:Nat) (x0:List a0e) (x1:a0b):Option Rs :=
 on1 (a3i N x0 x1)<|gg [pI,a0d]<|fun (x2:Int) (x3:a0b) =>
 some (0,gB.dv (decide (x2≥0)) (a0c.dv x3 []))
def a3S (N:Nat):CE:=(a3P,mkF [pD (.sl a0j),a0d] [pB,a0d] (a1z N))
theorem a8S (N:Nat):CEok Q (a3S N) :=
 fnG (hi:=a8U) (l:=[a5j N]) (t:=[]) a0r hmix ⟨b1e N,trivial⟩ ⟨rfl,trivial⟩ e8o (by kernel_rfl) (by kernel_rfl) trivial fun ys=>by kernel_rfl
def c4X:CS:=⟨87,220,⟨[.agg q_0],[]⟩,[.one (.d tB)],true,[]⟩
def b9h:LS:=⟨⟨[.no,.one (.p 0 0 [1,16,16,1,1,1,1,1,1,16,16,1,1,1,1,1,1,1,1,1,1,1,1,1,1,1,1,1,1,1,1,1]),.no,.one (.d tI),.no,.no,.no,.one (.d (.sl a0j)),.one (.d tI),.one (.d tI)]++nos 48,[q_0]⟩,[(0,⟨[.no,.no,.one (.d tB)]++nos 55,[]⟩),(1,⟨[.no,.one (.p 0 0 [1,16,16,1,1,1,1,1,1,16,16,1,1,1,1,1,1,1,1,1,1,1,1,1,1,1,1,1,1,1,1,1]),.no,.one (.d tI)]++nos 54,[q_0]⟩)]⟩
def b1r:Hi:=⟨[],[(0,b9h)],[10,15,22,32,41,47,53],[],[]⟩
theorem e9p:Fn Q 220 f220 (codeOf f220):=by constructor <;> kernel_rfl
def b1f (N:Nat):List CE:=[]
theorem c2i (N:Nat):AllP (CEok Q) (b1f N):=trivial
theorem c4E (N:Nat):AllP (fun e=>lookC (b1f N) e.2.id = some e.2) b1r.cs:=trivial
def a7n (N:Nat) (again:Fn' (Option Rs) [pI,pD (.sl a0j),pI,pI,a0d]) (x0:Int) (x1:List a0e) (x2:Int) (x3:Int) (x4:a0b):Option Rs :=
 bi (decide (x3 < x2)) (
  gd (idx x3 (List.length x1)) <|
  bi (!(List.getD x1 x3.toNat a0e.z).1) (
   again x0 x1 x2 (w.i64 (x3+1)) x4) <|
  bi ((len x4.Saq) == 0) (
   some (0,gB.dv false [])) <|
  gd (idx 0 (List.length x4.Saq)) <|
  bi ((List.getD x1 x3.toNat a0e.z).2.2.1 != (List.getD x4.Saq 0 a0a.z).1) (
   some (0,gB.dv false [])) <|
  gd (idx 0 (List.length x4.Saq)) <|
  bi ((List.getD x1 x3.toNat a0e.z).2.2.2.1 != (List.getD x4.Saq 0 a0a.z).2.1) (
   some (0,gB.dv false [])) <|
  again (w.i64 (x0+1)) x1 x2 (w.i64 (x3+1)) x4) <|
 some (1,gI.dv x0 (a0c.dv x4 []))
def a4W (N:Nat):Nat→Fn' (Option Rs) [pI,pD (.sl a0j),pI,pI,a0d]:=lpG (a7n N)
def b9F (N:Nat):LE:=(0,mkM [pI,pD (.sl a0j),pI,pI,a0d] [(0,[pB]),(1,[pI,a0d])] (a4W N N))
theorem c9O (N:Nat):LEok Q b1r (bodOf f220) f220.ntmps 0 (b9F N) :=
 loopG (hi:=b1r) (l:=b1f N) (t:=[]) (r:=a7n N) a0r hmix (c2i N) (c4E N) e9p trivial (ls:=b9h) (body:=bodyAt f220 0) (by kernel_rfl) (by kernel_rfl) fun A ys=>by kernel_rfl
def b7J (N:Nat) (x0:a0b):Option Rs :=
 onB 0 1 (a4W N N 0 x0.Table (len x0.Table) 0 x0) (gg [pB]<|fun (x1:Bool) =>
  some (0,gB.dv x1 []))<|gg [pI,a0d]<|fun (x2:Int) (x3:a0b) =>
 bi (decide ((len x3.Saq) > 0)) (
  gd (idx 0 (List.length x3.Saq)) <|
  bi ((List.getD x3.Saq 0 a0a.z).2.2.2.1) (
   some (0,gB.dv (x2 == 1) [])) <|
  some (0,gB.dv (x2 == 0) [])) <|
 some (0,gB.dv (x2 == 0) [])
def c4a (N:Nat):CE:=(c4X,mkF [a0d] [pB] (b7J N))
theorem d4N (N:Nat):CEok Q (c4a N) :=
 fnG (hi:=b1r) (l:=b1f N) (t:=[b9F N]) a0r hmix (c2i N) (c4E N) e9p (by kernel_rfl) (by kernel_rfl) ⟨c9O N,trivial⟩ fun ys=>by kernel_rfl
def b9a:CS:=⟨88,146,⟨[.agg q_0],[]⟩,[.one (.d tB)],true,[]⟩
def b5u:LS:=⟨⟨[.no,.one (.p 0 0 [1,16,16,1,1,1,1,1,1,16,16,1,1,1,1,1,1,1,1,1,1,1,1,1,1,1,1,1,1,1,1,1]),.no,.no,.no,.no,.one (.d (.sl a0t)),.one (.d tI),.one (.d tI)]++nos 37,[q_0]⟩,[(0,⟨[.no,.no,.one (.d tB)]++nos 43,[]⟩),(1,⟨[.no,.one (.p 0 0 [1,16,16,1,1,1,1,1,1,16,16,1,1,1,1,1,1,1,1,1,1,1,1,1,1,1,1,1,1,1,1,1])]++nos 44,[q_0]⟩)]⟩
def a8t:Hi:=⟨[((4,6),b4l),((4,12),a0T),((7,3),a3P),((7,7),c4X)],[(0,b5u)],[9,21,28,31,35,42],[],[]⟩
theorem e8w:Fn Q 146 f146 (codeOf f146):=by constructor <;> kernel_rfl
def a8x (N:Nat):List CE:=[b5l N,a2l N,a3S N,c4a N]
theorem b5J (N:Nat):AllP (CEok Q) (a8x N):=⟨c0N N,a2U N,a8S N,d4N N,trivial⟩
theorem b9y (N:Nat):AllP (fun e=>lookC (a8x N) e.2.id = some e.2) a8t.cs:=⟨rfl,rfl,rfl,rfl,trivial⟩
def a4E (N:Nat) (again:Fn' (Option Rs) [pD (.sl a0t),pI,pI,a0d]) (x0:List a0a) (x1:Int) (x2:Int) (x3:a0b):Option Rs :=
 bi (decide (x2 < x1)) (
  gd (idx x2 (List.length x0)) <|
  on1 (a7W N x3.Mem ((List.getD x0 x2.toNat a0a.z).1) ((List.getD x0 x2.toNat a0a.z).2.1))<|gg [pB]<|fun (x4:Bool) =>
  bi (!x4) (
   some (0,gB.dv false [])) <|
  on1 (a0R N 0 1099511627776 [(List.getD x0 x2.toNat a0a.z).2.2.1])<|gg [pB]<|fun (x5:Bool) =>
  bi (!x5) (
   some (0,gB.dv false [])) <|
  bi ((List.getD x0 x2.toNat a0a.z).2.2.2.1) (
   bi (decide (x2 > 0)) (
    some (0,gB.dv false [])) <|
   again x0 x1 (w.i64 (x2+1)) x3) <|
  again x0 x1 (w.i64 (x2+1)) x3) <|
 some (1,a0c.dv x3 [])
def a3p (N:Nat):Nat→Fn' (Option Rs) [pD (.sl a0t),pI,pI,a0d]:=lpG (a4E N)
def b5v (N:Nat):LE:=(0,mkM [pD (.sl a0t),pI,pI,a0d] [(0,[pB]),(1,[a0d])] (a3p N N))
theorem c6m (N:Nat):LEok Q a8t (bodOf f146) f146.ntmps 0 (b5v N) :=
 loopG (hi:=a8t) (l:=a8x N) (t:=[]) (r:=a4E N) a0r hmix (b5J N) (b9y N) e8w trivial (ls:=b5u) (body:=bodyAt f146 0) (by kernel_rfl) (by kernel_rfl) fun A ys=>by kernel_rfl
def b2m (N:Nat) (x0:a0b):Option Rs :=
 onB 0 1 (a3p N N x0.Saq (len x0.Saq) 0 x0) (gg [pB]<|fun (x1:Bool) =>
  some (0,gB.dv x1 []))<|gg [a0d]<|fun (x2:a0b) =>
 on1 (a1z N x2.Table x2)<|gg [pB,a0d]<|fun (x3:Bool) (x4:a0b) =>
 bi (!x3) (
  on1 (b7J N x4)<|gg [pB]<|fun (x5:Bool) =>
  some (0,gB.dv x5 [])) <|
 some (0,gB.dv false [])
def b9O (N:Nat):CE:=(b9a,mkF [a0d] [pB] (b2m N))
theorem c9A (N:Nat):CEok Q (b9O N) :=
 fnG (hi:=a8t) (l:=a8x N) (t:=[b5v N]) a0r hmix (b5J N) (b9y N) e8w (by kernel_rfl) (by kernel_rfl) ⟨c6m N,trivial⟩ fun ys=>by kernel_rfl
def c4M:CS:=⟨89,147,⟨[.agg [.d tI,.d tI,.d tI]],[]⟩,[.one (.d tB)],true,[]⟩
def d3J:Hi:=⟨[((3,3),a0T),((3,10),a0T)],[],[5,9,18],[],[]⟩
theorem f0o:Fn Q 147 f147 (codeOf f147):=by constructor <;> kernel_rfl
def b8p (N:Nat) (x0:a1X):Option Rs :=
 bi (x0.Kind == 0) (
  bi (x0.Step == 0) (
   some (0,gB.dv (x0.Pc == 0) [])) <|
  some (0,gB.dv false [])) <|
 on1 (a0R N 1 4 [x0.Kind])<|gg [pB]<|fun (x1:Bool) =>
 bi x1 (
  on1 (a0R N 0 1099511627776 [x0.Step,x0.Pc])<|gg [pB]<|fun (x2:Bool) =>
  some (0,gB.dv x2 [])) <|
 some (0,gB.dv false [])
def c5y (N:Nat):CE:=(c4M,mkF [e1r] [pB] (b8p N))
theorem d4i (N:Nat):CEok Q (c5y N) :=
 fnG (hi:=d3J) (l:=[a2l N]) (t:=[]) a0r hmix ⟨a2U N,trivial⟩ ⟨rfl,rfl,trivial⟩ f0o (by kernel_rfl) (by kernel_rfl) trivial fun ys=>by kernel_rfl
def a6K:CS:=⟨90,81,⟨[.agg q_5,.agg [.d (.sl a0n),.d (.ar 16 tI)],.agg q_0],[]⟩,[.one (.d tB)],true,[]⟩
def d2Z:Hi:=⟨[((1,1),b9t),((1,6),c4A),((1,12),b9s),((1,24),a0T),((1,29),b9q),((1,33),b9a),((1,38),c4M)],[],[9,15,21,33,38,42],[],[]⟩
theorem f_81:Fn Q 81 f81 (codeOf f81):=by constructor <;> kernel_rfl
def a4o (N:Nat) (x0:a0f) (x1:a0g) (x2:a0b):Option Rs :=
 on1 (b1Z N x0)<|gg [pB]<|fun (x3:Bool) =>
 bi x3 (
  on1 (b7G N x1 x2.A)<|gg [pB]<|fun (x4:Bool) =>
  bi x4 (
   on1 (b1o N x1 x2.E)<|gg [pB]<|fun (x5:Bool) =>
   bi x5 (
    on1 (a0R N 0 1099511627776 [x2.Cycle,x2.Lats,x2.Picks,x2.Tags])<|gg [pB]<|fun (x6:Bool) =>
    bi x6 (
     on1 (b2a N x0 x2)<|gg [pB]<|fun (x7:Bool) =>
     bi x7 (
      on1 (b2m N x2)<|gg [pB]<|fun (x8:Bool) =>
      bi x8 (
       on1 (b8p N x2.Trap)<|gg [pB]<|fun (x9:Bool) =>
       some (0,gB.dv x9 [])) <|
      some (0,gB.dv false [])) <|
     some (0,gB.dv false [])) <|
    some (0,gB.dv false [])) <|
   some (0,gB.dv false [])) <|
  some (0,gB.dv false [])) <|
 some (0,gB.dv false [])
def b4x (N:Nat):CE:=(a6K,mkF [a0l,a0m,a0d] [pB] (a4o N))
theorem c2u (N:Nat):CEok Q (b4x N) :=
 fnG (hi:=d2Z) (l:=[b8X N,c4z N,b9N N,a2l N,b9A N,b9O N,c5y N]) (t:=[]) a0r hmix ⟨c9D N,d5R N,c9B N,a2U N,c9R N,c9A N,d4i N,trivial⟩ ⟨rfl,rfl,rfl,rfl,rfl,rfl,rfl,trivial⟩ f_81 (by kernel_rfl) (by kernel_rfl) trivial fun ys=>by kernel_rfl
def a6d:CS:=⟨91,234,⟨[.agg [.d (.sl a0n),.d (.ar 16 tI)],.one (.d tI)],[]⟩,[.one (.d tB)],true,[]⟩
def d7z:Hi:=⟨[],[],[7],[],[]⟩
theorem f0J:Fn Q 234 f234 (codeOf f234):=by constructor <;> kernel_rfl
def a7o (N:Nat) (x0:a0g) (x1:Int):Option Rs :=
 bi (decide (x1≥0)) (
  some (0,gB.dv (decide (x1 < (len x0.Blocks))) [])) <|
 some (0,gB.dv false [])
def b0o (N:Nat):CE:=(a6d,mkF [a0m,pI] [pB] (a7o N))
theorem b4X (N:Nat):CEok Q (b0o N) :=
 fnG (hi:=d7z) (l:=[]) (t:=[]) a0r hmix trivial trivial f0J (by kernel_rfl) (by kernel_rfl) trivial fun ys=>by kernel_rfl
def a9F:CS:=⟨92,167,⟨[.agg [.d (.sl a0n),.d (.ar 16 tI)],.one (.d tB),.one (.d tI)],[]⟩,[.one (.d (.sl a0i))],true,[]⟩
def d3v:Hi:=⟨[((1,2),a6d)],[],[7,12],[],[]⟩
theorem f0s:Fn Q 167 f167 (codeOf f167):=by constructor <;> kernel_rfl
def a7Z (N:Nat) (x0:a0g) (x1:Bool) (x2:Int):Option Rs :=
 on1 (a7o N x0 x2)<|gg [pB]<|fun (x3:Bool) =>
 bi (!x3) (
  some (0,(gD (.sl a0i)).dv ([]:List a0h) [])) <|
 bi x1 (
  gd (idx x2 (List.length x0.Blocks)) <|
  some (0,(gD (.sl a0i)).dv ((List.getD x0.Blocks x2.toNat a0x.z).2.2.2.2.2.1) [])) <|
 gd (idx x2 (List.length x0.Blocks)) <|
 some (0,(gD (.sl a0i)).dv ((List.getD x0.Blocks x2.toNat a0x.z).2.2.2.2.1) [])
def b4y (N:Nat):CE:=(a9F,mkF [a0m,pB,pI] [pD (.sl a0i)] (a7Z N))
theorem c0W (N:Nat):CEok Q (b4y N) :=
 fnG (hi:=d3v) (l:=[b0o N]) (t:=[]) a0r hmix ⟨b4X N,trivial⟩ ⟨rfl,trivial⟩ f0s (by kernel_rfl) (by kernel_rfl) trivial fun ys=>by kernel_rfl
def b3R:CS:=⟨93,166,⟨[.agg [.d (.sl a0n),.d (.ar 16 tI)],.agg [.d tI,.d tI,.d tI]],[]⟩,[.one (.d tI)],true,[]⟩
def d8f:Hi:=⟨[((1,3),a6d)],[],[10],[],[]⟩
theorem f1w:Fn Q 166 f166 (codeOf f166):=by constructor <;> kernel_rfl
def b0G (N:Nat) (x0:a0g) (x1:a0C):Option Rs :=
 on1 (a7o N x0 x1.Block)<|gg [pB]<|fun (x2:Bool) =>
 bi (!x2) (
  some (0,gI.dv x1.Base [])) <|
 gd (idx x1.Block (List.length x0.Blocks)) <|
 some (0,gI.dv (w.i64 ((w.i64 (x1.Base+(List.getD x0.Blocks x1.Block.toNat a0x.z).2.1)) - (List.getD x0.Blocks x1.Block.toNat a0x.z).1)) [])
def b3Z (N:Nat):CE:=(b3R,mkF [a0m,a0L] [pI] (b0G N))
theorem b9U (N:Nat):CEok Q (b3Z N) :=
 fnG (hi:=d8f) (l:=[b0o N]) (t:=[]) a0r hmix ⟨b4X N,trivial⟩ ⟨rfl,trivial⟩ f1w (by kernel_rfl) (by kernel_rfl) trivial fun ys=>by kernel_rfl
def a8i:CS:=⟨94,165,⟨[.agg [.d (.sl a0n),.d (.ar 16 tI)],.one (.d tB),.agg [.d tI,.d tI,.d tI]],[]⟩,[.agg [.d tI,.d tI,.d tI],.one (.d tB)],false,[]⟩
def b5w:LS:=⟨⟨[.no,.one (.d tB),.no,.one (.p 0 0 [1,16]),.no,.one (.p 1 0 [1,1,1]),.one (.p 2 0 [1,1,1]),.no,.no,.no,.no,.one (.d tI),.one (.d tI)]++nos 52,[[.d (.sl a0n),.d (.ar 16 tI)],[.d tI,.d tI,.d tI],[.d tI,.d tI,.d tI]]⟩,[(0,⟨nos 6++[.one (.p 0 0 [1,1,1]),.one (.d tB)]++nos 57,[[.d tI,.d tI,.d tI]]⟩),(1,⟨[.no,.one (.d tB),.no,.one (.p 0 0 [1,16]),.no,.one (.p 1 0 [1,1,1]),.one (.p 2 0 [1,1,1])]++nos 58,[[.d (.sl a0n),.d (.ar 16 tI)],[.d tI,.d tI,.d tI],[.d tI,.d tI,.d tI]]⟩)]⟩
def a8A:Hi:=⟨[((3,3),a6d),((6,6),a9F),((10,3),b3R),((12,4),a6d),((12,13),a9F)],[(0,b5w)],[13,18,27,38,54],[],[]⟩
theorem e8S:Fn Q 165 f165 (codeOf f165):=by constructor <;> kernel_rfl
def a8z (N:Nat):List CE:=[b0o N,b4y N,b3Z N]
theorem b5P (N:Nat):AllP (CEok Q) (a8z N):=⟨b4X N,c0W N,b9U N,trivial⟩
theorem b9o (N:Nat):AllP (fun e=>lookC (a8z N) e.2.id = some e.2) a8A.cs:=⟨rfl,rfl,rfl,rfl,rfl,trivial⟩
def a4y (N:Nat) (again:Fn' (Option Rs) [pB,pI,pI,a0m,a0L,a0L]) (x0:Bool) (x1:Int) (x2:Int) (x3:a0g) (x4:a0C) (x5:a0C):Option Rs :=
 bi (decide (x2 < x1)) (
  on1 (a7o N x3 x4.Block)<|gg [pB]<|fun (x6:Bool) =>
  bi (!x6) (
   some (0,gB.dv true (a0P.dv x4 []))) <|
  gd (idx x4.Block (List.length x3.Blocks)) <|
  on1 (a7Z N x3 x0 x4.Block)<|gg [pD (.sl a0i)]<|fun (x7:List a0h) =>
  bi (decide (x4.Index < (len x7))) (
   some (0,gB.dv false (a0P.dv x4 []))) <|
  bi (decide ((List.getD x3.Blocks x4.Block.toNat a0x.z).2.2.1 < 0)) (
   some (0,gB.dv true (a0P.dv x4 []))) <|
  on1 (b0G N x3 x4)<|gg [pI]<|fun (x8:Int) =>
  again x0 x1 (w.i64 (x2+1)) x3 (a0C.mk ((List.getD x3.Blocks x4.Block.toNat a0x.z).2.2.1) 0 x8) x5) <|
 some (1,gB.dv x0 (a0H.dv x3 (a0P.dv x4 (a0P.dv x5 []))))
def a3r (N:Nat):Nat→Fn' (Option Rs) [pB,pI,pI,a0m,a0L,a0L]:=lpG (a4y N)
def b5t (N:Nat):LE:=(0,mkM [pB,pI,pI,a0m,a0L,a0L] [(0,[pB,a0L]),(1,[pB,a0m,a0L,a0L])] (a3r N N))
theorem c6b (N:Nat):LEok Q a8A (bodOf f165) f165.ntmps 0 (b5t N) :=
 loopG (hi:=a8A) (l:=a8z N) (t:=[]) (r:=a4y N) a0r hmix (b5P N) (b9o N) e8S trivial (ls:=b5w) (body:=bodyAt f165 0) (by kernel_rfl) (by kernel_rfl) fun A ys=>by kernel_rfl
def a6v (N:Nat) (x0:a0g) (x1:Bool) (x2:a0C):Option Rs :=
 onB 0 1 (a3r N N x1 (len x0.Blocks) 0 x0 x2 a0C.z) (gg [pB,a0L]<|fun (x3:Bool) (x4:a0C) =>
  some (0,a0P.dv x4 (gB.dv x3 [])))<|gg [pB,a0m,a0L,a0L]<|fun (x5:Bool) (x6:a0g) (x7:a0C) (x8:a0C) =>
 on1 (a7o N x6 x7.Block)<|gg [pB]<|fun (x9:Bool) =>
 bi (!x9) (
  some (0,a0P.dv x7 (gB.dv true []))) <|
 on1 (a7Z N x6 x5 x7.Block)<|gg [pD (.sl a0i)]<|fun (x10:List a0h) =>
 some (0,a0P.dv x7 (gB.dv (decide (x7.Index≥(len x10))) []))
def a8y (N:Nat):CE:=(a8i,mkF [a0m,pB,a0L] [a0L,pB] (a6v N))
theorem b2u (N:Nat):CEok Q (a8y N) :=
 fnG (hi:=a8A) (l:=a8z N) (t:=[b5t N]) a0r hmix (b5P N) (b9o N) e8S (by kernel_rfl) (by kernel_rfl) ⟨c6b N,trivial⟩ fun ys=>by kernel_rfl
end
end Go.Proofs.Zz
