import Derived.Test.YtnfpdmhdpeffjaaGreatWK
set_option linter.unusedSimpArgs false
set_option linter.unusedVariables false
/- What functions of the program compute, as plain functions. -/
set_option maxRecDepth 100000
namespace Go.Proofs.Zz
noncomputable section
open Go Go.Proofs.Tryz
def c1Q (N:Nat) (x0:a0s) (x1:List Int):Option Rs :=
 on1 (b3f N x0 x1)<|gg [pB]<|fun (x2:Bool) =>
 bi (!x2) (
  some (0,a0H.dv (a0g.mk ([]:List a0x) (List.replicate 16 (0 :Int))) (gI.dv 1 []))) <|
 on1 (d2H N x0)<|gg [pD (.sl (.pair tI (.pair tI (.pair tI (.pair tI (.pair .nl (.pair .nl .unit)))))))]<|fun (x3:List (Int × (Int × (Int × (Int × (Unit × (Unit × Unit))))))) =>
 onA 1 (a6e N N 0 x0.Code x0.Size x0.Data x1 ([]:List a0x) (List.replicate 16 (0 :Int)) x3 x1)<|gg [pD (.sl a0y),pI,pD (.sl tU),pD (.ar 16 tI),pD (.sl a0n),pD (.ar 16 tI),pD (.sl a0n),pD (.ar 16 tI)]<|fun (x4:List a0o) (x5:Int) (x6:List Int) (x7:List Int) (x8:List a0x) (x9:List Int) (x10:List a0x) (x11:List Int) =>
 some (0,a0H.dv (a0g.mk x10 x11) (gI.dv 0 []))
def c2F (N:Nat):CE:=(b7K,mkF [a0p,pD (.ar 16 tI)] [a0m,pI] (c1Q N))
theorem d1N (N:Nat):CEok Q (c2F N) :=
 fnG (hi:=a3W) (l:=a4R N) (t:=[c3X N]) a0r hmix (c0h N) (c3K N) f_67 (by kernel_rfl) (by kernel_rfl) ⟨d4V N,trivial⟩ fun ys=>by kernel_rfl
def c8x:CS:=⟨54,101,⟨[.agg [.d (.sl a0y),.d tI,.d (.sl tU)]],[]⟩,[.agg [.d (.ar 16 tI)]],true,[]⟩
def c1v:LS:=⟨⟨[.no,.one (.p 0 0 [1,1,1]),.one (.p 1 0 [16]),.one (.p 2 0 [16]),.one (.d tI)]++nos 81,[[.d (.sl a0y),.d tI,.d (.sl tU)],[.d (.ar 16 tI)],[.d (.ar 16 tI)]]⟩,[(1,⟨[.no,.one (.p 0 0 [1,1,1]),.one (.p 1 0 [16]),.one (.p 2 0 [16])]++nos 82,[[.d (.sl a0y),.d tI,.d (.sl tU)],[.d (.ar 16 tI)],[.d (.ar 16 tI)]]⟩)]⟩
def c0Y:LS:=⟨⟨[.no,.one (.p 0 0 [1,1,1]),.one (.p 1 0 [16]),.one (.p 2 0 [16]),.no,.one (.d tI),.one (.d tI),.no,.no,.one (.o tI),.one (.d tI)]++nos 75,[[.d (.sl a0y),.d tI,.d (.sl tU)],[.d (.ar 16 tI)],[.d (.ar 16 tI)]]⟩,[(7,⟨[.no,.one (.p 0 0 [1,1,1]),.one (.p 1 0 [16]),.one (.p 2 0 [16]),.no,.one (.d tI),.one (.d tI)]++nos 79,[[.d (.sl a0y),.d tI,.d (.sl tU)],[.d (.ar 16 tI)],[.d (.ar 16 tI)]]⟩)]⟩
def c1q:LS:=⟨⟨[.no,.one (.p 0 0 [1,1,1]),.one (.p 1 0 [16]),.one (.p 2 0 [16]),.no,.one (.d tI),.one (.d tI)]++nos 79,[[.d (.sl a0y),.d tI,.d (.sl tU)],[.d (.ar 16 tI)],[.d (.ar 16 tI)]]⟩,[(5,⟨[.no,.one (.p 0 0 [1,1,1]),.one (.p 1 0 [16]),.one (.p 2 0 [16]),.no,.one (.d tI)]++nos 80,[[.d (.sl a0y),.d tI,.d (.sl tU)],[.d (.ar 16 tI)],[.d (.ar 16 tI)]]⟩)]⟩
def c2o:LS:=⟨⟨[.no,.one (.p 0 0 [1,1,1]),.one (.p 1 0 [16]),.one (.p 2 0 [16]),.no,.one (.d tI)]++nos 80,[[.d (.sl a0y),.d tI,.d (.sl tU)],[.d (.ar 16 tI)],[.d (.ar 16 tI)]]⟩,[(3,⟨[.no,.no,.one (.p 0 0 [16]),.one (.p 1 0 [16])]++nos 82,[[.d (.ar 16 tI)],[.d (.ar 16 tI)]]⟩)]⟩
def a2X:Hi:=⟨[((2,1),a3g),((15,2),a2C),((19,1),a6l)],[(0,c1v),(6,c0Y),(4,c1q),(2,c2o)],[13,16,22,29,42,46,50,56,60,65,71,77],[],[]⟩
theorem e4g:Fn Q 101 f101 (codeOf f101):=by constructor <;> kernel_rfl
def a5Z (N:Nat):List CE:=[a3o N,a2O N,a8b N]
theorem a8I (N:Nat):AllP (CEok Q) (a5Z N):=⟨a4L N,a3h N,b0d N,trivial⟩
theorem b1a (N:Nat):AllP (fun e=>lookC (a5Z N) e.2.id = some e.2) a2X.cs:=⟨rfl,rfl,rfl,trivial⟩
def b1v (N:Nat) (again:Fn' (Option Rs) [pI,a0p,pD (.ar 16 tI),pD (.ar 16 tI)]) (x0:Int) (x1:a0s) (x2:List Int) (x3:List Int):Option Rs :=
 bi (decide (x0 < 16)) (
  gd (idx x0 16) <|
  again (w.i64 (x0+1)) x1 x2 (List.set x3 x0.toNat 2)) <|
 some (1,a1d.dv x1 ((gD (.ar 16 tI)).dv x2 ((gD (.ar 16 tI)).dv x3 [])))
def b2j (N:Nat):Nat→Fn' (Option Rs) [pI,a0p,pD (.ar 16 tI),pD (.ar 16 tI)]:=lpG (b1v N)
def c0D (N:Nat):LE:=(0,mkM [pI,a0p,pD (.ar 16 tI),pD (.ar 16 tI)] [(1,[a0p,pD (.ar 16 tI),pD (.ar 16 tI)])] (b2j N N))
theorem d2y (N:Nat):LEok Q a2X (bodOf f101) f101.ntmps 0 (c0D N) :=
 loopG (hi:=a2X) (l:=a5Z N) (t:=[]) (r:=b1v N) a0r hmix (a8I N) (b1a N) e4g trivial (ls:=c1v) (body:=bodyAt f101 0) (by kernel_rfl) (by kernel_rfl) fun A ys=>by kernel_rfl
def b1D (N:Nat) (again:Fn' (Option Rs) [pI,pI,pD (.sl tI),pI,a0p,pD (.ar 16 tI),pD (.ar 16 tI)]) (x0:Int) (x1:Int) (x2:List Int) (x3:Int) (x4:a0s) (x5:List Int) (x6:List Int):Option Rs :=
 bi (decide (x3 < (len x2))) (
  gd (idx x3 (List.length x2)) <|
  gd (idx (List.getD x2 x3.toNat 0) 16) <|
  again x0 x1 x2 (w.i64 (x3+1)) x4 x5 (List.set x6 (Int.toNat (List.getD x2 x3.toNat 0)) 1)) <|
 some (7,gI.dv x0 (gI.dv x1 (a1d.dv x4 ((gD (.ar 16 tI)).dv x5 ((gD (.ar 16 tI)).dv x6 [])))))
def a2D (N:Nat):Nat→Fn' (Option Rs) [pI,pI,pD (.sl tI),pI,a0p,pD (.ar 16 tI),pD (.ar 16 tI)]:=lpG (b1D N)
def b4t (N:Nat):LE:=(6,mkM [pI,pI,pD (.sl tI),pI,a0p,pD (.ar 16 tI),pD (.ar 16 tI)] [(7,[pI,pI,a0p,pD (.ar 16 tI),pD (.ar 16 tI)])] (a2D N N))
theorem c0U (N:Nat):LEok Q a2X (bodOf f101) f101.ntmps 0 (b4t N) :=
 loopG (hi:=a2X) (l:=a5Z N) (t:=[]) (r:=b1D N) a0r hmix (a8I N) (b1a N) e4g trivial (ls:=c0Y) (body:=bodyAt f101 6) (by kernel_rfl) (by kernel_rfl) fun A ys=>by kernel_rfl
def b1x (N:Nat) (again:Fn' (Option Rs) [pI,pI,a0p,pD (.ar 16 tI),pD (.ar 16 tI)]) (x0:Int) (x1:Int) (x2:a0s) (x3:List Int) (x4:List Int):Option Rs :=
 bi (decide (x1 < (len x2.Code))) (
  gd (idx x1 (List.length x2.Code)) <|
  on1 (a5s N ((List.getD x2.Code x1.toNat a0o.z).1))<|gg [pI]<|fun (x5:Int) =>
  bi (x5 == 4) (
   bi (decide ((List.getD x2.Code x1.toNat a0o.z).2.2.1 > 0)) (
    gd (idx (List.getD x2.Code x1.toNat a0o.z).2.2.1 16) <|
    bi (decide (x5≥1)) (
     bi (decide (x5≤3)) (
      bi (decide ((List.getD x2.Code x1.toNat a0o.z).2.1 > 0)) (
       gd (idx (List.getD x2.Code x1.toNat a0o.z).2.1 16) <|
       bi ((List.getD (List.set x4 (Int.toNat (List.getD x2.Code x1.toNat a0o.z).2.2.1) 1) (Int.toNat (List.getD x2.Code x1.toNat a0o.z).2.1) 0) == 1) (
        on1 (a2Q N (List.getD x2.Code x1.toNat a0o.z))<|gg [pD (.sl tI)]<|fun (x6:List Int) =>
        onA 7 (a2D N N x0 x1 x6 0 x2 x3 (List.set x4 (Int.toNat (List.getD x2.Code x1.toNat a0o.z).2.2.1) 1))<|gg [pI,pI,a0p,pD (.ar 16 tI),pD (.ar 16 tI)]<|fun (x7:Int) (x8:Int) (x9:a0s) (x10:List Int) (x11:List Int) =>
        again x7 (w.i64 (x8+1)) x9 x10 x11) <|
       again x0 (w.i64 (x1+1)) x2 x3 (List.set x4 (Int.toNat (List.getD x2.Code x1.toNat a0o.z).2.2.1) 1)) <|
      again x0 (w.i64 (x1+1)) x2 x3 (List.set x4 (Int.toNat (List.getD x2.Code x1.toNat a0o.z).2.2.1) 1)) <|
     again x0 (w.i64 (x1+1)) x2 x3 (List.set x4 (Int.toNat (List.getD x2.Code x1.toNat a0o.z).2.2.1) 1)) <|
    again x0 (w.i64 (x1+1)) x2 x3 (List.set x4 (Int.toNat (List.getD x2.Code x1.toNat a0o.z).2.2.1) 1)) <|
   bi (decide (x5≥1)) (
    bi (decide (x5≤3)) (
     bi (decide ((List.getD x2.Code x1.toNat a0o.z).2.1 > 0)) (
      gd (idx (List.getD x2.Code x1.toNat a0o.z).2.1 16) <|
      bi ((List.getD x4 (Int.toNat (List.getD x2.Code x1.toNat a0o.z).2.1) 0) == 1) (
       on1 (a2Q N (List.getD x2.Code x1.toNat a0o.z))<|gg [pD (.sl tI)]<|fun (x12:List Int) =>
       onA 7 (a2D N N x0 x1 x12 0 x2 x3 x4)<|gg [pI,pI,a0p,pD (.ar 16 tI),pD (.ar 16 tI)]<|fun (x13:Int) (x14:Int) (x15:a0s) (x16:List Int) (x17:List Int) =>
       again x13 (w.i64 (x14+1)) x15 x16 x17) <|
      again x0 (w.i64 (x1+1)) x2 x3 x4) <|
     again x0 (w.i64 (x1+1)) x2 x3 x4) <|
    again x0 (w.i64 (x1+1)) x2 x3 x4) <|
   again x0 (w.i64 (x1+1)) x2 x3 x4) <|
  bi (x5 == 5) (
   bi (decide ((List.getD x2.Code x1.toNat a0o.z).2.2.1 > 0)) (
    gd (idx (List.getD x2.Code x1.toNat a0o.z).2.2.1 16) <|
    bi (decide (x5≥1)) (
     bi (decide (x5≤3)) (
      bi (decide ((List.getD x2.Code x1.toNat a0o.z).2.1 > 0)) (
       gd (idx (List.getD x2.Code x1.toNat a0o.z).2.1 16) <|
       bi ((List.getD (List.set x4 (Int.toNat (List.getD x2.Code x1.toNat a0o.z).2.2.1) 1) (Int.toNat (List.getD x2.Code x1.toNat a0o.z).2.1) 0) == 1) (
        on1 (a2Q N (List.getD x2.Code x1.toNat a0o.z))<|gg [pD (.sl tI)]<|fun (x18:List Int) =>
        onA 7 (a2D N N x0 x1 x18 0 x2 x3 (List.set x4 (Int.toNat (List.getD x2.Code x1.toNat a0o.z).2.2.1) 1))<|gg [pI,pI,a0p,pD (.ar 16 tI),pD (.ar 16 tI)]<|fun (x19:Int) (x20:Int) (x21:a0s) (x22:List Int) (x23:List Int) =>
        again x19 (w.i64 (x20+1)) x21 x22 x23) <|
       again x0 (w.i64 (x1+1)) x2 x3 (List.set x4 (Int.toNat (List.getD x2.Code x1.toNat a0o.z).2.2.1) 1)) <|
      again x0 (w.i64 (x1+1)) x2 x3 (List.set x4 (Int.toNat (List.getD x2.Code x1.toNat a0o.z).2.2.1) 1)) <|
     again x0 (w.i64 (x1+1)) x2 x3 (List.set x4 (Int.toNat (List.getD x2.Code x1.toNat a0o.z).2.2.1) 1)) <|
    again x0 (w.i64 (x1+1)) x2 x3 (List.set x4 (Int.toNat (List.getD x2.Code x1.toNat a0o.z).2.2.1) 1)) <|
   bi (decide (x5≥1)) (
    bi (decide (x5≤3)) (
     bi (decide ((List.getD x2.Code x1.toNat a0o.z).2.1 > 0)) (
      gd (idx (List.getD x2.Code x1.toNat a0o.z).2.1 16) <|
      bi ((List.getD x4 (Int.toNat (List.getD x2.Code x1.toNat a0o.z).2.1) 0) == 1) (
       on1 (a2Q N (List.getD x2.Code x1.toNat a0o.z))<|gg [pD (.sl tI)]<|fun (x24:List Int) =>
       onA 7 (a2D N N x0 x1 x24 0 x2 x3 x4)<|gg [pI,pI,a0p,pD (.ar 16 tI),pD (.ar 16 tI)]<|fun (x25:Int) (x26:Int) (x27:a0s) (x28:List Int) (x29:List Int) =>
       again x25 (w.i64 (x26+1)) x27 x28 x29) <|
      again x0 (w.i64 (x1+1)) x2 x3 x4) <|
     again x0 (w.i64 (x1+1)) x2 x3 x4) <|
    again x0 (w.i64 (x1+1)) x2 x3 x4) <|
   again x0 (w.i64 (x1+1)) x2 x3 x4) <|
  bi (decide (x5≥1)) (
   bi (decide (x5≤3)) (
    bi (decide ((List.getD x2.Code x1.toNat a0o.z).2.1 > 0)) (
     gd (idx (List.getD x2.Code x1.toNat a0o.z).2.1 16) <|
     bi ((List.getD x4 (Int.toNat (List.getD x2.Code x1.toNat a0o.z).2.1) 0) == 1) (
      on1 (a2Q N (List.getD x2.Code x1.toNat a0o.z))<|gg [pD (.sl tI)]<|fun (x30:List Int) =>
      onA 7 (a2D N N x0 x1 x30 0 x2 x3 x4)<|gg [pI,pI,a0p,pD (.ar 16 tI),pD (.ar 16 tI)]<|fun (x31:Int) (x32:Int) (x33:a0s) (x34:List Int) (x35:List Int) =>
      again x31 (w.i64 (x32+1)) x33 x34 x35) <|
     again x0 (w.i64 (x1+1)) x2 x3 x4) <|
    again x0 (w.i64 (x1+1)) x2 x3 x4) <|
   again x0 (w.i64 (x1+1)) x2 x3 x4) <|
  again x0 (w.i64 (x1+1)) x2 x3 x4) <|
 some (5,gI.dv x0 (a1d.dv x2 ((gD (.ar 16 tI)).dv x3 ((gD (.ar 16 tI)).dv x4 []))))
def a6n (N:Nat):Nat→Fn' (Option Rs) [pI,pI,a0p,pD (.ar 16 tI),pD (.ar 16 tI)]:=lpG (b1x N)
def b5f (N:Nat):LE:=(4,mkM [pI,pI,a0p,pD (.ar 16 tI),pD (.ar 16 tI)] [(5,[pI,a0p,pD (.ar 16 tI),pD (.ar 16 tI)])] (a6n N N))
theorem c2q (N:Nat):LEok Q a2X (bodOf f101) f101.ntmps 0 (b5f N) :=
 loopG (hi:=a2X) (l:=a5Z N) (t:=[b4t N]) (r:=b1x N) a0r hmix (a8I N) (b1a N) e4g ⟨c0U N,trivial⟩ (ls:=c1q) (body:=bodyAt f101 4) (by kernel_rfl) (by kernel_rfl) fun A ys=>by kernel_rfl
def b2n (N:Nat) (again:Fn' (Option Rs) [pI,a0p,pD (.ar 16 tI),pD (.ar 16 tI)]) (x0:Int) (x1:a0s) (x2:List Int) (x3:List Int):Option Rs :=
 bi (decide (x0 < 17)) (
  onA 5 (a6n N N x0 0 x1 x2 x3)<|gg [pI,a0p,pD (.ar 16 tI),pD (.ar 16 tI)]<|fun (x4:Int) (x5:a0s) (x6:List Int) (x7:List Int) =>
  again (w.i64 (x4+1)) x5 x6 x7) <|
 some (3,(gD (.ar 16 tI)).dv x2 ((gD (.ar 16 tI)).dv x3 []))
def b1X (N:Nat):Nat→Fn' (Option Rs) [pI,a0p,pD (.ar 16 tI),pD (.ar 16 tI)]:=lpG (b2n N)
def c1P (N:Nat):LE:=(2,mkM [pI,a0p,pD (.ar 16 tI),pD (.ar 16 tI)] [(3,[pD (.ar 16 tI),pD (.ar 16 tI)])] (b1X N N))
theorem d3e (N:Nat):LEok Q a2X (bodOf f101) f101.ntmps 0 (c1P N) :=
 loopG (hi:=a2X) (l:=a5Z N) (t:=[b5f N]) (r:=b2n N) a0r hmix (a8I N) (b1a N) e4g ⟨c2q N,trivial⟩ (ls:=c2o) (body:=bodyAt f101 2) (by kernel_rfl) (by kernel_rfl) fun A ys=>by kernel_rfl
def c1s (N:Nat) (x0:a0s):Option Rs :=
 on1 (a1h N x0)<|gg [pB]<|fun (x1:Bool) =>
 bi (!x1) (
  some (0,(gD (.ar 16 tI)).dv (List.replicate 16 (0 :Int)) [])) <|
 onA 1 (b2j N N 1 x0 (List.replicate 16 (0 :Int)) (List.replicate 16 (0 :Int)))<|gg [a0p,pD (.ar 16 tI),pD (.ar 16 tI)]<|fun (x2:a0s) (x3:List Int) (x4:List Int) =>
 onA 3 (b1X N N 0 x2 x3 x4)<|gg [pD (.ar 16 tI),pD (.ar 16 tI)]<|fun (x5:List Int) (x6:List Int) =>
 some (0,(gD (.ar 16 tI)).dv x6 [])
def c6J (N:Nat):CE:=(c8x,mkF [a0p] [pD (.ar 16 tI)] (c1s N))
theorem d7C (N:Nat):CEok Q (c6J N) :=
 fnG (hi:=a2X) (l:=a5Z N) (t:=[c0D N,b4t N,b5f N,c1P N]) a0r hmix (a8I N) (b1a N) e4g (by kernel_rfl) (by kernel_rfl) ⟨d2y N,c0U N,c2q N,d3e N,trivial⟩ fun ys=>by kernel_rfl
def c0m:CS:=⟨55,43,⟨[.agg [.d (.sl a0y),.d tI,.d (.sl tU)]],[]⟩,[.agg [.o a0n,.d (.ar 16 tI)],.one (.d tI)],false,[]⟩
def d8p:Hi:=⟨[((1,2),c8x),((1,3),b7K)],[],[],[],[]⟩
theorem f_43:Fn Q 43 f43 (codeOf f43):=by constructor <;> kernel_rfl
def b7q (N:Nat) (x0:a0s):Option Rs :=
 on1 (c1s N x0)<|gg [pD (.ar 16 tI)]<|fun (x1:List Int) =>
 on1 (c1Q N x0 x1)<|gg [a0m,pI]<|fun (x2:a0g) (x3:Int) =>
 some (0,a0H.dv x2 (gI.dv x3 []))
def c0z (N:Nat):CE:=(c0m,mkF [a0p] [a0m,pI] (b7q N))
theorem c8c (N:Nat):CEok Q (c0z N) :=
 fnG (hi:=d8p) (l:=[c6J N,c2F N]) (t:=[]) a0r hmix ⟨d7C N,d1N N,trivial⟩ ⟨rfl,rfl,trivial⟩ f_43 (by kernel_rfl) (by kernel_rfl) trivial fun ys=>by kernel_rfl
def b6T:CS:=⟨56,24,⟨[.agg [.d (.sl a0y),.d tI,.d (.sl tU)],.one (.d tI)],[]⟩,[.agg [.o a0n,.d (.ar 16 tI)],.one (.d tB)],false,[]⟩
def d6s:Hi:=⟨[((1,2),c4H),((1,3),b7K),((3,1),c0m)],[],[16],[],[]⟩
theorem f_24:Fn Q 24 f24 (codeOf f24):=by constructor <;> kernel_rfl
def b2R (N:Nat) (x0:a0s) (x1:Int):Option Rs :=
 on1 (c3E N x1)<|gg [pD (.ar 16 tI)]<|fun (x2:List Int) =>
 on1 (c1Q N x0 x2)<|gg [a0m,pI]<|fun (x3:a0g) (x4:Int) =>
 bi (x4 != 0) (
  on1 (b7q N x0)<|gg [a0m,pI]<|fun (x5:a0g) (x6:Int) =>
  some (0,a0H.dv x5 (gB.dv (x6 == 0) []))) <|
 some (0,a0H.dv x3 (gB.dv (x4 == 0) []))
def b5U (N:Nat):CE:=(b6T,mkF [a0p,pI] [a0m,pB] (b2R N))
theorem c4p (N:Nat):CEok Q (b5U N) :=
 fnG (hi:=d6s) (l:=[c3Z N,c2F N,c0z N]) (t:=[]) a0r hmix ⟨d4m N,d1N N,c8c N,trivial⟩ ⟨rfl,rfl,rfl,trivial⟩ f_24 (by kernel_rfl) (by kernel_rfl) trivial fun ys=>by kernel_rfl
def d3z:CS:=⟨57,25,⟨[.agg [.d (.sl a0y),.d tI,.d (.sl tU)]],[]⟩,[.one (.d tB)],true,[]⟩
def e4D:Hi:=⟨[],[],[7],[],[]⟩
theorem f_25:Fn Q 25 f25 (codeOf f25):=by constructor <;> kernel_rfl
def d6y (N:Nat) (x0:a0s):Option Rs :=
 bi (decide ((len x0.Code)≤200)) (
  some (0,gB.dv (decide ((len x0.Data)≤500)) [])) <|
 some (0,gB.dv false [])
def d2V (N:Nat):CE:=(d3z,mkF [a0p] [pB] (d6y N))
theorem d9a (N:Nat):CEok Q (d2V N) :=
 fnG (hi:=e4D) (l:=[]) (t:=[]) a0r hmix trivial trivial f_25 (by kernel_rfl) (by kernel_rfl) trivial fun ys=>by kernel_rfl
def a3y:CS:=⟨59,116,⟨[.one (.d tI),.one (.d tI)],[]⟩,[.one (.d tB)],true,[]⟩
def d4g:Hi:=⟨[],[],[7],[],[]⟩
theorem f0Z:Fn Q 116 f116 (codeOf f116):=by constructor <;> kernel_rfl
def a3X (N:Nat) (x0:Int) (x1:Int):Option Rs :=
 bi (decide (x0≥1)) (
  some (0,gB.dv (decide (x0≤x1)) [])) <|
 some (0,gB.dv false [])
def b5X (N:Nat):CE:=(a3y,mkF [pI,pI] [pB] (a3X N))
theorem c5j (N:Nat):CEok Q (b5X N) :=
 fnG (hi:=d4g) (l:=[]) (t:=[]) a0r hmix trivial trivial f0Z (by kernel_rfl) (by kernel_rfl) trivial fun ys=>by kernel_rfl
def a7E:CS:=⟨60,56,⟨[.agg q_5],[]⟩,[.one (.d tB)],true,[]⟩
def b0J:LS:=⟨⟨[.no,.one (.p 0 0 [1,1,1,1,1,1,1,1,1,1,1,1]),.no,.one (.o tI),.one (.d tI)]++nos 47,[q_5]⟩,[(0,⟨[.no,.no,.one (.d tB)]++nos 49,[]⟩),(1,⟨[.no,.one (.p 0 0 [1,1,1,1,1,1,1,1,1,1,1,1])]++nos 50,[q_5]⟩)]⟩
def a4H:Hi:=⟨[((5,4),a3y),((7,2),a3y),((7,6),a3y),((7,11),a3y),((7,16),a3y)],[(0,b0J)],[25,33,37,42,47],[],[]⟩
theorem f_56:Fn Q 56 f56 (codeOf f56):=by constructor <;> kernel_rfl
def a4J (N:Nat):List CE:=[b5X N]
theorem b1g (N:Nat):AllP (CEok Q) (a4J N):=⟨c5j N,trivial⟩
theorem b2J (N:Nat):AllP (fun e=>lookC (a4J N) e.2.id = some e.2) a4H.cs:=⟨rfl,rfl,rfl,rfl,rfl,trivial⟩
def a2F (N:Nat) (again:Fn' (Option Rs) [pD (.sl tI),pI,a0l]) (x0:List Int) (x1:Int) (x2:a0f):Option Rs :=
 bi (decide (x1 < (len x0))) (
  gd (idx x1 (List.length x0)) <|
  on1 (a3X N (List.getD x0 x1.toNat 0) 64)<|gg [pB]<|fun (x3:Bool) =>
  bi (!x3) (
   some (0,gB.dv false [])) <|
  again x0 (w.i64 (x1+1)) x2) <|
 some (1,a0D.dv x2 [])
def a2a (N:Nat):Nat→Fn' (Option Rs) [pD (.sl tI),pI,a0l]:=lpG (a2F N)
def b0U (N:Nat):LE:=(0,mkM [pD (.sl tI),pI,a0l] [(0,[pB]),(1,[a0l])] (a2a N N))
theorem c0f (N:Nat):LEok Q a4H (bodOf f56) f56.ntmps 0 (b0U N) :=
 loopG (hi:=a4H) (l:=a4J N) (t:=[]) (r:=a2F N) a0r hmix (b1g N) (b2J N) f_56 trivial (ls:=b0J) (body:=bodyAt f56 0) (by kernel_rfl) (by kernel_rfl) fun A ys=>by kernel_rfl
def a4w (N:Nat) (x0:a0f):Option Rs :=
 onB 0 1 (a2a N N [x0.Ldq,x0.Sdq,x0.Aeq,x0.Abq,x0.Ebq,x0.Saq,x0.Flight,x0.Slip] 0 x0) (gg [pB]<|fun (x1:Bool) =>
  some (0,gB.dv x1 []))<|gg [a0l]<|fun (x2:a0f) =>
 on1 (a3X N x2.Banks 16)<|gg [pB]<|fun (x3:Bool) =>
 bi x3 (
  on1 (a3X N x2.Lat 1000)<|gg [pB]<|fun (x4:Bool) =>
  bi x4 (
   on1 (a3X N x2.Mul 50)<|gg [pB]<|fun (x5:Bool) =>
   bi x5 (
    on1 (a3X N x2.Div 50)<|gg [pB]<|fun (x6:Bool) =>
    some (0,gB.dv x6 [])) <|
   some (0,gB.dv false [])) <|
  some (0,gB.dv false [])) <|
 some (0,gB.dv false [])
def a8e (N:Nat):CE:=(a7E,mkF [a0l] [pB] (a4w N))
theorem b2P (N:Nat):CEok Q (a8e N) :=
 fnG (hi:=a4H) (l:=a4J N) (t:=[b0U N]) a0r hmix (b1g N) (b2J N) f_56 (by kernel_rfl) (by kernel_rfl) ⟨c0f N,trivial⟩ fun ys=>by kernel_rfl
def a7q (N:Nat) (x0:List a0q):Option Rs :=
 gd (rm ([]:List a0q) x0 16) <|
 some (0,(gD (.sl a0k)).dv (([]:List a0q)++x0) [])
def b5o:CS:=⟨70,215,⟨[.one (.d tI),.one (.p 0 0 [1]),.one (.p 1 0 [1])],[[.d tI],[.d tI]]⟩,[.one (.d tB)],true,[[.d tI],[.d tI]]⟩
def c6l:Hi:=⟨[],[],[8],[],[]⟩
theorem f1R:Fn Q 215 f215 (codeOf f215):=by constructor <;> kernel_rfl
def a8r (N:Nat) (x0:Int) (x1:Int) (x2:Int):Option Rs :=
 bi (decide (x0 < x1)) (
  some (0,gB.dv true (gI.dv x1 (gI.dv x2 [])))) <|
 some (0,gB.dv (decide (x0 > x2)) (gI.dv x1 (gI.dv x2 [])))
def b5y (N:Nat):CE:=(b5o,mkF [pI,pI,pI] [pB,pI,pI] (a8r N))
theorem c6f (N:Nat):CEok Q (b5y N) :=
 fnG (hi:=c6l) (l:=[]) (t:=[]) a0r hmix trivial trivial f1R (by kernel_rfl) (by kernel_rfl) trivial fun ys=>by kernel_rfl
def a8X:CS:=⟨71,129,⟨[.one (.d (.sl tI)),.one (.f 215 [⟨0,0,[1]⟩,⟨1,0,[1]⟩])],[[.d tI],[.d tI]]⟩,[.one (.d tI)],true,[[.d tI],[.d tI]]⟩
def a7z:LS:=⟨⟨[.one (.d (.sl tI)),.one (.f 215 [⟨0,0,[1]⟩,⟨1,0,[1]⟩]),.no,.no,.no,.no,.no,.one (.d tI),.one (.d tI)]++nos 10,[[.d tI],[.d tI]]⟩,[(0,⟨[.no,.no,.no,.no,.one (.d tI)]++nos 14,[[.d tI],[.d tI]]⟩),(1,⟨nos 19,[[.d tI],[.d tI]]⟩)]⟩
def a3b:Hi:=⟨[((4,5),b5o)],[(0,a7z)],[9,16],[],[]⟩
def a3a (N:Nat):List CE:=[b5y N]
theorem a8F (N:Nat):AllP (CEok Q) (a3a N):=⟨c6f N,trivial⟩
theorem a8Z (N:Nat):AllP (fun e=>lookC (a3a N) e.2.id = some e.2) a3b.cs:=⟨rfl,trivial⟩
def a1O (N:Nat) (again:Fn' (Option Rs) [pD (.sl tI),pI,pI,pI,pI]) (x0:List Int) (x1:Int) (x2:Int) (x3:Int) (x4:Int):Option Rs :=
 bi (decide (x2 < x1)) (
  gd (idx x2 (List.length x0)) <|
  on1 (a8r N (List.getD x0 x2.toNat 0) x3 x4)<|gg [pB,pI,pI]<|fun (x5:Bool) (x6:Int) (x7:Int) =>
  bi x5 (
   some (0,gI.dv x2 (gI.dv x6 (gI.dv x7 [])))) <|
  again x0 x1 (w.i64 (x2+1)) x6 x7) <|
 some (1,gI.dv x3 (gI.dv x4 []))
def a1w (N:Nat):Nat→Fn' (Option Rs) [pD (.sl tI),pI,pI,pI,pI]:=lpG (a1O N)
def a7y (N:Nat):LE:=(0,mkM [pD (.sl tI),pI,pI,pI,pI] [(0,[pI,pI,pI]),(1,[pI,pI])] (a1w N N))
theorem b5D (N:Nat):LEok Q a3b (bodOf f129) f129.ntmps 2 (a7y N) :=
 loopG (hi:=a3b) (l:=a3a N) (t:=[]) (r:=a1O N) a0r hmix (a8F N) (a8Z N) e1B trivial (ls:=a7z) (body:=bodyAt f129 0) (by kernel_rfl) (by kernel_rfl) fun A ys=>by kernel_rfl
def a6P (N:Nat) (x0:List Int) (x1:Int) (x2:Int):Option Rs :=
 onB 0 1 (a1w N N x0 (len x0) 0 x1 x2) (gg [pI,pI,pI]<|fun (x3:Int) (x4:Int) (x5:Int) =>
  some (0,gI.dv x3 (gI.dv x4 (gI.dv x5 []))))<|gg [pI,pI]<|fun (x6:Int) (x7:Int) =>
 some (0,gI.dv (-1:Int) (gI.dv x6 (gI.dv x7 [])))
def a9m (N:Nat):CE:=(a8X,mkF [pD (.sl tI),pI,pI] [pI,pI,pI] (a6P N))
theorem b8I (N:Nat):CEok Q (a9m N) :=
 fnG (hi:=a3b) (l:=a3a N) (t:=[a7y N]) a0r hmix (a8F N) (a8Z N) e1B (by kernel_rfl) (by kernel_rfl) ⟨b5D N,trivial⟩ fun ys=>by kernel_rfl
def a6R:CS:=⟨72,74,⟨[.one (.d (.sl tI)),.one (.f 215 [⟨0,0,[1]⟩,⟨1,0,[1]⟩])],[[.d tI],[.d tI]]⟩,[.one (.d tB)],true,[[.d tI],[.d tI]]⟩
def b5d:Hi:=⟨[((1,2),a8X)],[],[],[],[]⟩
def a4p (N:Nat) (x0:List Int) (x1:Int) (x2:Int):Option Rs :=
 on1 (a6P N x0 x1 x2)<|gg [pI,pI,pI]<|fun (x3:Int) (x4:Int) (x5:Int) =>
 some (0,gB.dv (decide (x3≥0)) (gI.dv x4 (gI.dv x5 [])))
def a6Z (N:Nat):CE:=(a6R,mkF [pD (.sl tI),pI,pI] [pB,pI,pI] (a4p N))
theorem b3W (N:Nat):CEok Q (a6Z N) :=
 fnG (hi:=b5d) (l:=[a9m N]) (t:=[]) a0r hmix ⟨b8I N,trivial⟩ ⟨rfl,trivial⟩ f_74 (by kernel_rfl) (by kernel_rfl) trivial fun ys=>by kernel_rfl
def a0T:CS:=⟨73,144,⟨[.one (.d tI),.one (.d tI),.one (.d (.sl tI))],[]⟩,[.one (.d tB)],true,[]⟩
def c9y:Hi:=⟨[((1,2),a6R)],[],[],[],[]⟩
theorem e9Q:Fn Q 144 f144 (codeOf f144):=by constructor <;> kernel_rfl
def a0R (N:Nat) (x0:Int) (x1:Int) (x2:List Int):Option Rs :=
 on1 (a4p N x2 x0 x1)<|gg [pB,pI,pI]<|fun (x3:Bool) (x4:Int) (x5:Int) =>
 some (0,gB.dv (!x3) [])
def a2l (N:Nat):CE:=(a0T,mkF [pI,pI,pD (.sl tI)] [pB] (a0R N))
theorem a2U (N:Nat):CEok Q (a2l N) :=
 fnG (hi:=c9y) (l:=[a6Z N]) (t:=[]) a0r hmix ⟨b3W N,trivial⟩ ⟨rfl,trivial⟩ e9Q (by kernel_rfl) (by kernel_rfl) trivial fun ys=>by kernel_rfl
def b9t:CS:=⟨74,117,⟨[.agg q_5],[]⟩,[.one (.d tB)],true,[]⟩
def c9W:Hi:=⟨[((1,17),a0T),((1,22),a0T),((1,28),a0T),((1,36),a0T)],[],[21,27,33],[],[]⟩
theorem f0U:Fn Q 117 f117 (codeOf f117):=by constructor <;> kernel_rfl
def b1Z (N:Nat) (x0:a0f):Option Rs :=
 on1 (a0R N 1 64 [x0.Ldq,x0.Sdq,x0.Aeq,x0.Abq,x0.Ebq,x0.Saq,x0.Flight,x0.Slip])<|gg [pB]<|fun (x1:Bool) =>
 bi x1 (
  on1 (a0R N 1 16 [x0.Banks])<|gg [pB]<|fun (x2:Bool) =>
  bi x2 (
   on1 (a0R N 1 1000 [x0.Lat])<|gg [pB]<|fun (x3:Bool) =>
   bi x3 (
    on1 (a0R N 1 50 [x0.Mul,x0.Div])<|gg [pB]<|fun (x4:Bool) =>
    some (0,gB.dv x4 [])) <|
   some (0,gB.dv false [])) <|
  some (0,gB.dv false [])) <|
 some (0,gB.dv false [])
def b8X (N:Nat):CE:=(b9t,mkF [a0l] [pB] (b1Z N))
theorem c9D (N:Nat):CEok Q (b8X N) :=
 fnG (hi:=c9W) (l:=[a2l N]) (t:=[]) a0r hmix ⟨a2U N,trivial⟩ ⟨rfl,rfl,rfl,rfl,trivial⟩ f0U (by kernel_rfl) (by kernel_rfl) trivial fun ys=>by kernel_rfl
def a9N (N:Nat) (x0:a0x):Option Rs :=
 some (0,(gD (.sl a0i)).dv x0.2.2.2.2.1 [])
def b7G (N:Nat) (x0:a0g) (x1:a0v):Option Rs :=
 bi (decide (x1.Pos.Block < 0)) (
  some (0,gB.dv false [])) <|
 bi (decide (x1.Pos.Block≥(len x0.Blocks))) (
  some (0,gB.dv false [])) <|
 gd (idx x1.Pos.Block (List.length x0.Blocks)) <|
 on1 (a9N N (List.getD x0.Blocks x1.Pos.Block.toNat a0x.z))<|gg [pD (.sl a0i)]<|fun (x2:List a0h) =>
 on1 (a0R N 0 (len x2) [x1.Pos.Index])<|gg [pB]<|fun (x3:Bool) =>
 bi x3 (
  on1 (a0R N 0 1099511627776 [x1.Pos.Base,x1.Wait,x1.Done])<|gg [pB]<|fun (x4:Bool) =>
  bi x4 (
   on1 (a0R N (-1:Int) 1099511627776 (List.take (16 - 0) (List.drop 0 x1.Ready)))<|gg [pB]<|fun (x5:Bool) =>
   some (0,gB.dv x5 [])) <|
  some (0,gB.dv false [])) <|
 some (0,gB.dv false [])
def a9z (N:Nat) (x0:a0x):Option Rs :=
 some (0,(gD (.sl a0i)).dv x0.2.2.2.2.2.1 [])
def b1o (N:Nat) (x0:a0g) (x1:a0v):Option Rs :=
 bi (decide (x1.Pos.Block < 0)) (
  some (0,gB.dv false [])) <|
 bi (decide (x1.Pos.Block≥(len x0.Blocks))) (
  some (0,gB.dv false [])) <|
 gd (idx x1.Pos.Block (List.length x0.Blocks)) <|
 on1 (a9z N (List.getD x0.Blocks x1.Pos.Block.toNat a0x.z))<|gg [pD (.sl a0i)]<|fun (x2:List a0h) =>
 on1 (a0R N 0 (len x2) [x1.Pos.Index])<|gg [pB]<|fun (x3:Bool) =>
 bi x3 (
  on1 (a0R N 0 1099511627776 [x1.Pos.Base,x1.Wait,x1.Done])<|gg [pB]<|fun (x4:Bool) =>
  bi x4 (
   on1 (a0R N (-1:Int) 1099511627776 (List.take (16 - 0) (List.drop 0 x1.Ready)))<|gg [pB]<|fun (x5:Bool) =>
   some (0,gB.dv x5 [])) <|
  some (0,gB.dv false [])) <|
 some (0,gB.dv false [])
def b2a (N:Nat) (x0:a0f) (x1:a0b):Option Rs :=
 bi (decide ((len x1.Ldq)≤x0.Ldq)) (
  bi (decide ((len x1.Sdq)≤x0.Sdq)) (
   bi (decide ((len x1.Aeq)≤x0.Aeq)) (
    bi (decide ((len x1.Abq)≤x0.Abq)) (
     bi (decide ((len x1.Ebq)≤x0.Ebq)) (
      bi (decide ((len x1.Saq)≤x0.Saq)) (
       bi (decide ((len x1.Table)≤x0.Flight)) (
        some (0,gB.dv (decide ((len x1.Mem)≤65536)) [])) <|
       some (0,gB.dv false [])) <|
      some (0,gB.dv false [])) <|
     some (0,gB.dv false [])) <|
    some (0,gB.dv false [])) <|
   some (0,gB.dv false [])) <|
  some (0,gB.dv false [])) <|
 some (0,gB.dv false [])
def a3v:CS:=⟨80,229,⟨[.one (.d tI)],[]⟩,[.one (.d tI)],true,[]⟩
def d6B:Hi:=⟨[],[],[4,7,11],[],[]⟩
theorem f0M:Fn Q 229 f229 (codeOf f229):=by constructor <;> kernel_rfl
def a3m (N:Nat) (x0:Int):Option Rs :=
 bi (x0 == 26) (
  some (0,gI.dv 4 [])) <|
 bi (x0 == 31) (
  some (0,gI.dv 4 [])) <|
 bi (x0 == 27) (
  some (0,gI.dv 2 [])) <|
 bi (x0 == 28) (
  some (0,gI.dv 2 [])) <|
 bi (x0 == 32) (
  some (0,gI.dv 2 [])) <|
 bi (x0 == 29) (
  some (0,gI.dv 1 [])) <|
 bi (x0 == 30) (
  some (0,gI.dv 1 [])) <|
 bi (x0 == 33) (
  some (0,gI.dv 1 [])) <|
 some (0,gI.dv 0 [])
def a3w (N:Nat):CE:=(a3v,mkF [pI] [pI] (a3m N))
theorem a4A (N:Nat):CEok Q (a3w N) :=
 fnG (hi:=d6B) (l:=[]) (t:=[]) a0r hmix trivial trivial f0M (by kernel_rfl) (by kernel_rfl) trivial fun ys=>by kernel_rfl
def a6S:CS:=⟨81,260,⟨[.one (.d tI),.one (.d tW),.one (.d tI)],[]⟩,[.one (.d tI)],true,[]⟩
def d2p:Hi:=⟨[],[],[10,13,19,22,26,34,37],[],[]⟩
theorem f1S:Fn Q 260 f260 (codeOf f260):=by constructor <;> kernel_rfl
def a1s (N:Nat) (x0:Int) (x1:Int) (x2:Int):Option Rs :=
 bi (decide (x0≥1)) (
  gf (decide (x0 = 0)) <|
  bi ((Int.tmod (w.i64 x1) x0) != 0) (
   some (0,gI.dv 1 [])) <|
  bi (decide (x0 > 0)) (
   bi (decide (x0 > x2)) (
    some (0,gI.dv 2 [])) <|
   bi (decide ((w.i64 x1) > (w.i64 (x2 - x0)))) (
    some (0,gI.dv 2 [])) <|
   bi (decide (x0≤0)) (
    bi (decide ((w.i64 ((w.i64 x1)+x0)) > x2)) (
     some (0,gI.dv 2 [])) <|
    some (0,gI.dv 0 [])) <|
   some (0,gI.dv 0 [])) <|
  bi (decide (x0≤0)) (
   bi (decide ((w.i64 ((w.i64 x1)+x0)) > x2)) (
    some (0,gI.dv 2 [])) <|
   some (0,gI.dv 0 [])) <|
  some (0,gI.dv 0 [])) <|
 bi (decide (x0 > 0)) (
  bi (decide (x0 > x2)) (
   some (0,gI.dv 2 [])) <|
  bi (decide ((w.i64 x1) > (w.i64 (x2 - x0)))) (
   some (0,gI.dv 2 [])) <|
  bi (decide (x0≤0)) (
   bi (decide ((w.i64 ((w.i64 x1)+x0)) > x2)) (
    some (0,gI.dv 2 [])) <|
   some (0,gI.dv 0 [])) <|
  some (0,gI.dv 0 [])) <|
 bi (decide (x0≤0)) (
  bi (decide ((w.i64 ((w.i64 x1)+x0)) > x2)) (
   some (0,gI.dv 2 [])) <|
  some (0,gI.dv 0 [])) <|
 some (0,gI.dv 0 [])
def a7b (N:Nat):CE:=(a6S,mkF [pI,pW,pI] [pI] (a1s N))
theorem a9u (N:Nat):CEok Q (a7b N) :=
 fnG (hi:=d2p) (l:=[]) (t:=[]) a0r hmix trivial trivial f1S (by kernel_rfl) (by kernel_rfl) trivial fun ys=>by kernel_rfl
def a7W (N:Nat) (x0:List Int) (x1:Int) (x2:Int):Option Rs :=
 bi (x2 == 1) (
  bi (decide (x1≥0)) (
   bi (decide (x1≤(len x0))) (
    on1 (a1s N x2 (w.u32 x1) (len x0))<|gg [pI]<|fun (x3:Int) =>
    some (0,gB.dv (x3 == 0) [])) <|
   some (0,gB.dv false [])) <|
  some (0,gB.dv false [])) <|
 bi (x2 == 2) (
  bi (decide (x1≥0)) (
   bi (decide (x1≤(len x0))) (
    on1 (a1s N x2 (w.u32 x1) (len x0))<|gg [pI]<|fun (x4:Int) =>
    some (0,gB.dv (x4 == 0) [])) <|
   some (0,gB.dv false [])) <|
  some (0,gB.dv false [])) <|
 bi (x2 == 4) (
  bi (decide (x1≥0)) (
   bi (decide (x1≤(len x0))) (
    on1 (a1s N x2 (w.u32 x1) (len x0))<|gg [pI]<|fun (x5:Int) =>
    some (0,gB.dv (x5 == 0) [])) <|
   some (0,gB.dv false [])) <|
  some (0,gB.dv false [])) <|
 some (0,gB.dv false [])
def a9S (N:Nat) (x0:List Int) (x1:a0e):Option Rs :=
 bi x1.1 (
  on1 (a3m N x1.2.1)<|gg [pI]<|fun (x2:Int) =>
  bi (x1.2.2.2.1 == x2) (
   on1 (a0R N 31 33 [x1.2.1])<|gg [pB]<|fun (x3:Bool) =>
   bi x3 (
    on1 (a7W N x0 x1.2.2.1 x1.2.2.2.1)<|gg [pB]<|fun (x4:Bool) =>
    bi x4 (
     on1 (a0R N 0 1000 [x1.2.2.2.2.2.1])<|gg [pB]<|fun (x5:Bool) =>
     bi x5 (
      on1 (a0R N (-1:Int) 15 [x1.2.2.2.2.2.2.1])<|gg [pB]<|fun (x6:Bool) =>
      some (0,gB.dv x6 [])) <|
     some (0,gB.dv false [])) <|
    some (0,gB.dv false [])) <|
   some (0,gB.dv false [])) <|
  some (0,gB.dv false [])) <|
 on1 (a3m N x1.2.1)<|gg [pI]<|fun (x7:Int) =>
 bi (x1.2.2.2.1 == x7) (
  on1 (a0R N 26 30 [x1.2.1])<|gg [pB]<|fun (x8:Bool) =>
  bi x8 (
   on1 (a7W N x0 x1.2.2.1 x1.2.2.2.1)<|gg [pB]<|fun (x9:Bool) =>
   bi x9 (
    on1 (a0R N 0 1000 [x1.2.2.2.2.2.1])<|gg [pB]<|fun (x10:Bool) =>
    bi x10 (
     on1 (a0R N (-1:Int) 15 [x1.2.2.2.2.2.2.1])<|gg [pB]<|fun (x11:Bool) =>
     some (0,gB.dv x11 [])) <|
    some (0,gB.dv false [])) <|
   some (0,gB.dv false [])) <|
  some (0,gB.dv false [])) <|
 some (0,gB.dv false [])
def b2x (N:Nat) (x0:a0e) (x1:a0b):Option Rs :=
 on1 (a9S N x1.Mem x0)<|gg [pB]<|fun (x2:Bool) =>
 some (0,gB.dv (!x2) (a0c.dv x1 []))
theorem e5j:Fn Q 261 f261 (codeOf f261):=by constructor <;> kernel_rfl
def a1g (N:Nat) (again:Fn' (Option Rs) [pD (.sl a0j),pI,pI,a0d]) (x0:List a0e) (x1:Int) (x2:Int) (x3:a0b):Option Rs :=
 bi (decide (x2 < x1)) (
  gd (idx x2 (List.length x0)) <|
  on1 (b2x N (List.getD x0 x2.toNat a0e.z) x3)<|gg [pB,a0d]<|fun (x4:Bool) (x5:a0b) =>
  bi x4 (
   some (0,gI.dv x2 (a0c.dv x5 []))) <|
  again x0 x1 (w.i64 (x2+1)) x5) <|
 some (1,a0c.dv x3 [])
def a1b (N:Nat):Nat→Fn' (Option Rs) [pD (.sl a0j),pI,pI,a0d]:=lpG (a1g N)
def a3i (N:Nat) (x0:List a0e) (x1:a0b):Option Rs :=
 onB 0 1 (a1b N N x0 (len x0) 0 x1) (gg [pI,a0d]<|fun (x2:Int) (x3:a0b) =>
  some (0,gI.dv x2 (a0c.dv x3 [])))<|gg [a0d]<|fun (x4:a0b) =>
 some (0,gI.dv (-1:Int) (a0c.dv x4 []))
theorem e8o:Fn Q 217 f217 (codeOf f217):=by constructor <;> kernel_rfl
def a1z (N:Nat) (x0:List a0e) (x1:a0b):Option Rs :=
 on1 (a3i N x0 x1)<|gg [pI,a0d]<|fun (x2:Int) (x3:a0b) =>
 some (0,gB.dv (decide (x2≥0)) (a0c.dv x3 []))
def a7n (N:Nat) (again:Fn' (Option Rs) [pI,pD (.sl a0j),pI,pI,a0d]) (x0:Int) (x1:List a0e) (x2:Int) (x3:Int) (x4:a0b):Option Rs :=
 bi (decide (x3 < x2)) (
  gd (idx x3 (List.length x1)) <|
  bi (!(List.getD x1 x3.toNat a0e.z).1) (
   again x0 x1 x2 (w.i64 (x3+1)) x4) <|
  bi ((len x4.Saq) == 0) (
   some (0,gB.dv false [])) <|
  gd (idx 0 (List.length x4.Saq)) <|
  bi ((List.getD x1 x3.toNat a0e.z).2.2.1 != (List.getD x4.Saq 0 a0a.z).1) (
   some (0,gB.dv false [])) <|
  gd (idx 0 (List.length x4.Saq)) <|
  bi ((List.getD x1 x3.toNat a0e.z).2.2.2.1 != (List.getD x4.Saq 0 a0a.z).2.1) (
   some (0,gB.dv false [])) <|
  again (w.i64 (x0+1)) x1 x2 (w.i64 (x3+1)) x4) <|
 some (1,gI.dv x0 (a0c.dv x4 []))
def a4W (N:Nat):Nat→Fn' (Option Rs) [pI,pD (.sl a0j),pI,pI,a0d]:=lpG (a7n N)
def b7J (N:Nat) (x0:a0b):Option Rs :=
 onB 0 1 (a4W N N 0 x0.Table (len x0.Table) 0 x0) (gg [pB]<|fun (x1:Bool) =>
  some (0,gB.dv x1 []))<|gg [pI,a0d]<|fun (x2:Int) (x3:a0b) =>
 bi (decide ((len x3.Saq) > 0)) (
  gd (idx 0 (List.length x3.Saq)) <|
  bi ((List.getD x3.Saq 0 a0a.z).2.2.2.1) (
   some (0,gB.dv (x2 == 1) [])) <|
  some (0,gB.dv (x2 == 0) [])) <|
 some (0,gB.dv (x2 == 0) [])
def a4E (N:Nat) (again:Fn' (Option Rs) [pD (.sl a0t),pI,pI,a0d]) (x0:List a0a) (x1:Int) (x2:Int) (x3:a0b):Option Rs :=
 bi (decide (x2 < x1)) (
  gd (idx x2 (List.length x0)) <|
  on1 (a7W N x3.Mem ((List.getD x0 x2.toNat a0a.z).1) ((List.getD x0 x2.toNat a0a.z).2.1))<|gg [pB]<|fun (x4:Bool) =>
  bi (!x4) (
   some (0,gB.dv false [])) <|
  on1 (a0R N 0 1099511627776 [(List.getD x0 x2.toNat a0a.z).2.2.1])<|gg [pB]<|fun (x5:Bool) =>
  bi (!x5) (
   some (0,gB.dv false [])) <|
  bi ((List.getD x0 x2.toNat a0a.z).2.2.2.1) (
   bi (decide (x2 > 0)) (
    some (0,gB.dv false [])) <|
   again x0 x1 (w.i64 (x2+1)) x3) <|
  again x0 x1 (w.i64 (x2+1)) x3) <|
 some (1,a0c.dv x3 [])
def a3p (N:Nat):Nat→Fn' (Option Rs) [pD (.sl a0t),pI,pI,a0d]:=lpG (a4E N)
def b2m (N:Nat) (x0:a0b):Option Rs :=
 onB 0 1 (a3p N N x0.Saq (len x0.Saq) 0 x0) (gg [pB]<|fun (x1:Bool) =>
  some (0,gB.dv x1 []))<|gg [a0d]<|fun (x2:a0b) =>
 on1 (a1z N x2.Table x2)<|gg [pB,a0d]<|fun (x3:Bool) (x4:a0b) =>
 bi (!x3) (
  on1 (b7J N x4)<|gg [pB]<|fun (x5:Bool) =>
  some (0,gB.dv x5 [])) <|
 some (0,gB.dv false [])
def b8p (N:Nat) (x0:a1X):Option Rs :=
 bi (x0.Kind == 0) (
  bi (x0.Step == 0) (
   some (0,gB.dv (x0.Pc == 0) [])) <|
  some (0,gB.dv false [])) <|
 on1 (a0R N 1 4 [x0.Kind])<|gg [pB]<|fun (x1:Bool) =>
 bi x1 (
  on1 (a0R N 0 1099511627776 [x0.Step,x0.Pc])<|gg [pB]<|fun (x2:Bool) =>
  some (0,gB.dv x2 [])) <|
 some (0,gB.dv false [])
def a4o (N:Nat) (x0:a0f) (x1:a0g) (x2:a0b):Option Rs :=
 on1 (b1Z N x0)<|gg [pB]<|fun (x3:Bool) =>
 bi x3 (
  on1 (b7G N x1 x2.A)<|gg [pB]<|fun (x4:Bool) =>
  bi x4 (
   on1 (b1o N x1 x2.E)<|gg [pB]<|fun (x5:Bool) =>
   bi x5 (
    on1 (a0R N 0 1099511627776 [x2.Cycle,x2.Lats,x2.Picks,x2.Tags])<|gg [pB]<|fun (x6:Bool) =>
    bi x6 (
     on1 (b2a N x0 x2)<|gg [pB]<|fun (x7:Bool) =>
     bi x7 (
      on1 (b2m N x2)<|gg [pB]<|fun (x8:Bool) =>
      bi x8 (
       on1 (b8p N x2.Trap)<|gg [pB]<|fun (x9:Bool) =>
       some (0,gB.dv x9 [])) <|
      some (0,gB.dv false [])) <|
     some (0,gB.dv false [])) <|
    some (0,gB.dv false [])) <|
   some (0,gB.dv false [])) <|
  some (0,gB.dv false [])) <|
 some (0,gB.dv false [])
def a6d:CS:=⟨91,234,⟨[.agg [.d (.sl a0n),.d (.ar 16 tI)],.one (.d tI)],[]⟩,[.one (.d tB)],true,[]⟩
def d7z:Hi:=⟨[],[],[7],[],[]⟩
theorem f0J:Fn Q 234 f234 (codeOf f234):=by constructor <;> kernel_rfl
def a7o (N:Nat) (x0:a0g) (x1:Int):Option Rs :=
 bi (decide (x1≥0)) (
  some (0,gB.dv (decide (x1 < (len x0.Blocks))) [])) <|
 some (0,gB.dv false [])
def b0o (N:Nat):CE:=(a6d,mkF [a0m,pI] [pB] (a7o N))
theorem b4X (N:Nat):CEok Q (b0o N) :=
 fnG (hi:=d7z) (l:=[]) (t:=[]) a0r hmix trivial trivial f0J (by kernel_rfl) (by kernel_rfl) trivial fun ys=>by kernel_rfl
def a9F:CS:=⟨92,167,⟨[.agg [.d (.sl a0n),.d (.ar 16 tI)],.one (.d tB),.one (.d tI)],[]⟩,[.one (.d (.sl a0i))],true,[]⟩
def d3v:Hi:=⟨[((1,2),a6d)],[],[7,12],[],[]⟩
theorem f0s:Fn Q 167 f167 (codeOf f167):=by constructor <;> kernel_rfl
def a7Z (N:Nat) (x0:a0g) (x1:Bool) (x2:Int):Option Rs :=
 on1 (a7o N x0 x2)<|gg [pB]<|fun (x3:Bool) =>
 bi (!x3) (
  some (0,(gD (.sl a0i)).dv ([]:List a0h) [])) <|
 bi x1 (
  gd (idx x2 (List.length x0.Blocks)) <|
  some (0,(gD (.sl a0i)).dv ((List.getD x0.Blocks x2.toNat a0x.z).2.2.2.2.2.1) [])) <|
 gd (idx x2 (List.length x0.Blocks)) <|
 some (0,(gD (.sl a0i)).dv ((List.getD x0.Blocks x2.toNat a0x.z).2.2.2.2.1) [])
def b4y (N:Nat):CE:=(a9F,mkF [a0m,pB,pI] [pD (.sl a0i)] (a7Z N))
theorem c0W (N:Nat):CEok Q (b4y N) :=
 fnG (hi:=d3v) (l:=[b0o N]) (t:=[]) a0r hmix ⟨b4X N,trivial⟩ ⟨rfl,trivial⟩ f0s (by kernel_rfl) (by kernel_rfl) trivial fun ys=>by kernel_rfl
def b3R:CS:=⟨93,166,⟨[.agg [.d (.sl a0n),.d (.ar 16 tI)],.agg [.d tI,.d tI,.d tI]],[]⟩,[.one (.d tI)],true,[]⟩
def d8f:Hi:=⟨[((1,3),a6d)],[],[10],[],[]⟩
theorem f1w:Fn Q 166 f166 (codeOf f166):=by constructor <;> kernel_rfl
def b0G (N:Nat) (x0:a0g) (x1:a0C):Option Rs :=
 on1 (a7o N x0 x1.Block)<|gg [pB]<|fun (x2:Bool) =>
 bi (!x2) (
  some (0,gI.dv x1.Base [])) <|
 gd (idx x1.Block (List.length x0.Blocks)) <|
 some (0,gI.dv (w.i64 ((w.i64 (x1.Base+(List.getD x0.Blocks x1.Block.toNat a0x.z).2.1)) - (List.getD x0.Blocks x1.Block.toNat a0x.z).1)) [])
def b3Z (N:Nat):CE:=(b3R,mkF [a0m,a0L] [pI] (b0G N))
theorem b9U (N:Nat):CEok Q (b3Z N) :=
 fnG (hi:=d8f) (l:=[b0o N]) (t:=[]) a0r hmix ⟨b4X N,trivial⟩ ⟨rfl,trivial⟩ f1w (by kernel_rfl) (by kernel_rfl) trivial fun ys=>by kernel_rfl
def a8i:CS:=⟨94,165,⟨[.agg [.d (.sl a0n),.d (.ar 16 tI)],.one (.d tB),.agg [.d tI,.d tI,.d tI]],[]⟩,[.agg [.d tI,.d tI,.d tI],.one (.d tB)],false,[]⟩
def b5w:LS:=⟨⟨[.no,.one (.d tB),.no,.one (.p 0 0 [1,16]),.no,.one (.p 1 0 [1,1,1]),.one (.p 2 0 [1,1,1]),.no,.no,.no,.no,.one (.d tI),.one (.d tI)]++nos 52,[[.d (.sl a0n),.d (.ar 16 tI)],[.d tI,.d tI,.d tI],[.d tI,.d tI,.d tI]]⟩,[(0,⟨nos 6++[.one (.p 0 0 [1,1,1]),.one (.d tB)]++nos 57,[[.d tI,.d tI,.d tI]]⟩),(1,⟨[.no,.one (.d tB),.no,.one (.p 0 0 [1,16]),.no,.one (.p 1 0 [1,1,1]),.one (.p 2 0 [1,1,1])]++nos 58,[[.d (.sl a0n),.d (.ar 16 tI)],[.d tI,.d tI,.d tI],[.d tI,.d tI,.d tI]]⟩)]⟩
def a8A:Hi:=⟨[((3,3),a6d),((6,6),a9F),((10,3),b3R),((12,4),a6d),((12,13),a9F)],[(0,b5w)],[13,18,27,38,54],[],[]⟩
theorem e8S:Fn Q 165 f165 (codeOf f165):=by constructor <;> kernel_rfl
def a8z (N:Nat):List CE:=[b0o N,b4y N,b3Z N]
theorem b5P (N:Nat):AllP (CEok Q) (a8z N):=⟨b4X N,c0W N,b9U N,trivial⟩
theorem b9o (N:Nat):AllP (fun e=>lookC (a8z N) e.2.id = some e.2) a8A.cs:=⟨rfl,rfl,rfl,rfl,rfl,trivial⟩
def a4y (N:Nat) (again:Fn' (Option Rs) [pB,pI,pI,a0m,a0L,a0L]) (x0:Bool) (x1:Int) (x2:Int) (x3:a0g) (x4:a0C) (x5:a0C):Option Rs :=
 bi (decide (x2 < x1)) (
  on1 (a7o N x3 x4.Block)<|gg [pB]<|fun (x6:Bool) =>
  bi (!x6) (
   some (0,gB.dv true (a0P.dv x4 []))) <|
  gd (idx x4.Block (List.length x3.Blocks)) <|
  on1 (a7Z N x3 x0 x4.Block)<|gg [pD (.sl a0i)]<|fun (x7:List a0h) =>
  bi (decide (x4.Index < (len x7))) (
   some (0,gB.dv false (a0P.dv x4 []))) <|
  bi (decide ((List.getD x3.Blocks x4.Block.toNat a0x.z).2.2.1 < 0)) (
   some (0,gB.dv true (a0P.dv x4 []))) <|
  on1 (b0G N x3 x4)<|gg [pI]<|fun (x8:Int) =>
  again x0 x1 (w.i64 (x2+1)) x3 (a0C.mk ((List.getD x3.Blocks x4.Block.toNat a0x.z).2.2.1) 0 x8) x5) <|
 some (1,gB.dv x0 (a0H.dv x3 (a0P.dv x4 (a0P.dv x5 []))))
def a3r (N:Nat):Nat→Fn' (Option Rs) [pB,pI,pI,a0m,a0L,a0L]:=lpG (a4y N)
def b5t (N:Nat):LE:=(0,mkM [pB,pI,pI,a0m,a0L,a0L] [(0,[pB,a0L]),(1,[pB,a0m,a0L,a0L])] (a3r N N))
theorem c6b (N:Nat):LEok Q a8A (bodOf f165) f165.ntmps 0 (b5t N) :=
 loopG (hi:=a8A) (l:=a8z N) (t:=[]) (r:=a4y N) a0r hmix (b5P N) (b9o N) e8S trivial (ls:=b5w) (body:=bodyAt f165 0) (by kernel_rfl) (by kernel_rfl) fun A ys=>by kernel_rfl
def a6v (N:Nat) (x0:a0g) (x1:Bool) (x2:a0C):Option Rs :=
 onB 0 1 (a3r N N x1 (len x0.Blocks) 0 x0 x2 a0C.z) (gg [pB,a0L]<|fun (x3:Bool) (x4:a0C) =>
  some (0,a0P.dv x4 (gB.dv x3 [])))<|gg [pB,a0m,a0L,a0L]<|fun (x5:Bool) (x6:a0g) (x7:a0C) (x8:a0C) =>
 on1 (a7o N x6 x7.Block)<|gg [pB]<|fun (x9:Bool) =>
 bi (!x9) (
  some (0,a0P.dv x7 (gB.dv true []))) <|
 on1 (a7Z N x6 x5 x7.Block)<|gg [pD (.sl a0i)]<|fun (x10:List a0h) =>
 some (0,a0P.dv x7 (gB.dv (decide (x7.Index≥(len x10))) []))
def a8y (N:Nat):CE:=(a8i,mkF [a0m,pB,a0L] [a0L,pB] (a6v N))
theorem b2u (N:Nat):CEok Q (a8y N) :=
 fnG (hi:=a8A) (l:=a8z N) (t:=[b5t N]) a0r hmix (b5P N) (b9o N) e8S (by kernel_rfl) (by kernel_rfl) ⟨c6b N,trivial⟩ fun ys=>by kernel_rfl
end
end Go.Proofs.Zz
