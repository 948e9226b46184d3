import Derived.Test.YtnfpdmhdpeffjaaGreatK1
set_option linter.unusedSimpArgs false
set_option linter.unusedVariables false
/- What functions of the program compute, as plain functions. -/
set_option maxRecDepth 100000
namespace Go.Proofs.Zz
noncomputable section
open Go Go.Proofs.Tryz
def b3Q:CS:=⟨45,206,⟨[.agg [.d (.ar 16 tI)],.one (.d tI)],[]⟩,[.one (.d tI)],true,[]⟩
def d7R:Hi:=⟨[],[],[7,10],[],[]⟩
theorem f0b:Fn Q 206 f206 (codeOf f206):=by constructor <;> kernel_rfl
def b0u (N:Nat) (x0:List Int) (x1:Int):Option Rs :=
 bi (decide (x1 < 1)) (
  some (0,gI.dv 0 [])) <|
 bi (decide (x1 > 15)) (
  some (0,gI.dv 0 [])) <|
 gd (idx x1 16) <|
 some (0,gI.dv (List.getD x0 x1.toNat 0) [])
def b4j (N:Nat):CE:=(b3Q,mkF [pD (.ar 16 tI),pI] [pI] (b0u N))
theorem b9X (N:Nat):CEok Q (b4j N) :=
 fnG (hi:=d7R) (l:=[]) (t:=[]) a0r hmix trivial trivial f0b (by kernel_rfl) (by kernel_rfl) trivial fun ys=>by kernel_rfl
def d1J:CS:=⟨46,202,⟨[.agg [.d tI,.d tI,.d tI,.d tI,.d tI],.agg [.d (.ar 16 tI)]],[]⟩,[.one (.d tI)],true,[]⟩
def d9R:Hi:=⟨[((1,2),a2C),((4,1),a6l),((5,3),b3Q),((5,12),b8u)],[],[12,15,23,27,33],[],[]⟩
theorem f1p:Fn Q 202 f202 (codeOf f202):=by constructor <;> kernel_rfl
def b4r (N:Nat) (x0:a0o) (x1:List Int):Option Rs :=
 on1 (a5s N x0.1)<|gg [pI]<|fun (x2:Int) =>
 bi (decide (x2 < 1)) (
  some (0,gI.dv 0 [])) <|
 bi (decide (x2 > 3)) (
  some (0,gI.dv 0 [])) <|
 on1 (a2Q N x0)<|gg [pD (.sl tI)]<|fun (x3:List Int) =>
 on1 (b0u N x1 x0.2.1)<|gg [pI]<|fun (x4:Int) =>
 bi (x4 == 1) (
  some (0,gI.dv 1 [])) <|
 bi (x0.2.1 == 0) (
  on1 (b2c N x1 x3)<|gg [pB]<|fun (x5:Bool) =>
  bi (!x5) (
   some (0,gI.dv 1 [])) <|
  some (0,gI.dv 2 [])) <|
 some (0,gI.dv 2 [])
def d1v (N:Nat):CE:=(d1J,mkF [a2S,pD (.ar 16 tI)] [pI] (b4r N))
theorem e1i (N:Nat):CEok Q (d1v N) :=
 fnG (hi:=d9R) (l:=[a2O N,a8b N,b4j N,b7Q N]) (t:=[]) a0r hmix ⟨a3h N,b0d N,b9X N,c2X N,trivial⟩ ⟨rfl,rfl,rfl,rfl,trivial⟩ f1p (by kernel_rfl) (by kernel_rfl) trivial fun ys=>by kernel_rfl
def a1C:CS:=⟨47,203,⟨[.one (.p 0 0 [1,1,1]),.one (.d tI),.agg [.d tI,.d tI,.d tI,.d tI,.d tI]],[[.d tI,.d tI,.o a0i]]⟩,[],false,[[.d tI,.d tI,.o a0i]]⟩
def c8n:Hi:=⟨[],[],[],[],[]⟩
theorem f0p:Fn Q 203 f203 (codeOf f203):=by constructor <;> kernel_rfl
def a0Y (N:Nat) (x0:Int) (x1:a0o) (x2:a0u):Option Rs :=
 gd (rm x2.L [(x0,(x1,(0,(x2.Pc,(x2.Off,())))))] 72) <|
 some (0,a2t.dv ({ x2 with L:=(x2.L++[(x0,(x1,(0,(x2.Pc,(x2.Off,())))))]) }:a0u) [])
def b6F (N:Nat):CE:=(a1C,mkF [pI,a2S,a0z] [a0z] (a0Y N))
theorem c7D (N:Nat):CEok Q (b6F N) :=
 fnG (hi:=c8n) (l:=[]) (t:=[]) a0r hmix trivial trivial f0p (by kernel_rfl) (by kernel_rfl) trivial fun ys=>by kernel_rfl
def b3g:CS:=⟨48,205,⟨[.agg [.d tI,.d tI,.d tI,.d tI,.d tI],.agg [.d (.ar 16 tI)]],[]⟩,[.one (.o tI)],true,[]⟩
def c3V:LS:=⟨⟨[.no,.no,.no,.one (.p 0 0 [16]),.no,.one (.o tI),.one (.o tI),.one (.d tI)]++nos 32,[[.d (.ar 16 tI)]]⟩,[(1,⟨nos 6++[.one (.o tI)]++nos 33,[]⟩)]⟩
def b7P:Hi:=⟨[((1,1),a6l),((6,5),b3Q),((6,13),b7E)],[(0,c3V)],[13,23,31],[],[]⟩
theorem e8j:Fn Q 205 f205 (codeOf f205):=by constructor <;> kernel_rfl
def b7S (N:Nat):List CE:=[a8b N,b4j N,c2N N]
theorem c9h (N:Nat):AllP (CEok Q) (b7S N):=⟨b0d N,b9X N,d0w N,trivial⟩
theorem d1i (N:Nat):AllP (fun e=>lookC (b7S N) e.2.id = some e.2) b7P.cs:=⟨rfl,rfl,rfl,trivial⟩
def b4a (N:Nat) (again:Fn' (Option Rs) [pD (.sl tI),pD (.sl tI),pI,pD (.ar 16 tI)]) (x0:List Int) (x1:List Int) (x2:Int) (x3:List Int):Option Rs :=
 bi (decide (x2 < (len x0))) (
  gd (idx x2 (List.length x0)) <|
  on1 (b0u N x3 (List.getD x0 x2.toNat 0))<|gg [pI]<|fun (x4:Int) =>
  bi (x4 == 1) (
   gd (idx x2 (List.length x0)) <|
   on1 (a5H N x1 (List.getD x0 x2.toNat 0))<|gg [pI]<|fun (x5:Int) =>
   bi (decide (x5 < 0)) (
    gd (idx x2 (List.length x0)) <|
    gd (rm x1 [(List.getD x0 x2.toNat 0)] 8) <|
    again x0 (x1++[(List.getD x0 x2.toNat 0)]) (w.i64 (x2+1)) x3) <|
   again x0 x1 (w.i64 (x2+1)) x3) <|
  again x0 x1 (w.i64 (x2+1)) x3) <|
 some (1,(gD (.sl tI)).dv x1 [])
def b4H (N:Nat):Nat→Fn' (Option Rs) [pD (.sl tI),pD (.sl tI),pI,pD (.ar 16 tI)]:=lpG (b4a N)
def c5X (N:Nat):LE:=(0,mkM [pD (.sl tI),pD (.sl tI),pI,pD (.ar 16 tI)] [(1,[pD (.sl tI)])] (b4H N N))
theorem d3C (N:Nat):LEok Q b7P (bodOf f205) f205.ntmps 0 (c5X N) :=
 loopG (hi:=b7P) (l:=b7S N) (t:=[]) (r:=b4a N) a0r hmix (c9h N) (d1i N) e8j trivial (ls:=c3V) (body:=bodyAt f205 0) (by kernel_rfl) (by kernel_rfl) fun A ys=>by kernel_rfl
def a5F (N:Nat) (x0:a0o) (x1:List Int):Option Rs :=
 on1 (a2Q N x0)<|gg [pD (.sl tI)]<|fun (x2:List Int) =>
 onA 1 (b4H N N x2 ([]:List Int) 0 x1)<|gg [pD (.sl tI)]<|fun (x3:List Int) =>
 some (0,(gD (.sl tI)).dv x3 [])
def d1p (N:Nat):CE:=(b3g,mkF [a2S,pD (.ar 16 tI)] [pD (.sl tI)] (a5F N))
theorem e0Q (N:Nat):CEok Q (d1p N) :=
 fnG (hi:=b7P) (l:=b7S N) (t:=[c5X N]) a0r hmix (c9h N) (d1i N) e8j (by kernel_rfl) (by kernel_rfl) ⟨d3C N,trivial⟩ fun ys=>by kernel_rfl
def a4D:CS:=⟨49,207,⟨[.one (.p 0 0 [1,1,1]),.one (.d tI),.one (.d tI)],[[.d tI,.d tI,.o a0i]]⟩,[],false,[[.d tI,.d tI,.o a0i]]⟩
def c6N:Hi:=⟨[],[],[],[],[]⟩
theorem f0j:Fn Q 207 f207 (codeOf f207):=by constructor <;> kernel_rfl
def a2f (N:Nat) (x0:Int) (x1:Int) (x2:a0u):Option Rs :=
 gd (rm x2.L [(x0,(a0o.z,(x1,(x2.Pc,(x2.Off,())))))] 72) <|
 some (0,a2t.dv ({ x2 with L:=(x2.L++[(x0,(a0o.z,(x1,(x2.Pc,(x2.Off,())))))]) }:a0u) [])
def b0I (N:Nat):CE:=(a4D,mkF [pI,pI,a0z] [a0z] (a2f N))
theorem b5Z (N:Nat):CEok Q (b0I N) :=
 fnG (hi:=c6N) (l:=[]) (t:=[]) a0r hmix trivial trivial f0j (by kernel_rfl) (by kernel_rfl) trivial fun ys=>by kernel_rfl
def a3K:CS:=⟨50,204,⟨[.one (.p 0 0 [1,1,1]),.one (.d tI),.one (.d (.sl tI))],[[.d tI,.d tI,.o a0i]]⟩,[],false,[[.d tI,.d tI,.o a0i]]⟩
def b1u:LS:=⟨⟨[.one (.p 0 0 [1,1,1]),.one (.d tI),.one (.d (.sl tI)),.no,.no,.no,.one (.d tI)]++nos 13,[[.d tI,.d tI,.o a0i]]⟩,[(1,⟨nos 20,[[.d tI,.d tI,.o a0i]]⟩)]⟩
def a5S:Hi:=⟨[((3,6),a4D)],[(0,b1u)],[10],[],[]⟩
theorem e8t:Fn Q 204 f204 (codeOf f204):=by constructor <;> kernel_rfl
def a5G (N:Nat):List CE:=[b0I N]
theorem b2X (N:Nat):AllP (CEok Q) (a5G N):=⟨b5Z N,trivial⟩
theorem b5x (N:Nat):AllP (fun e=>lookC (a5G N) e.2.id = some e.2) a5S.cs:=⟨rfl,trivial⟩
def a4S (N:Nat) (again:Fn' (Option Rs) [pI,pD (.sl tI),pI,a0z]) (x0:Int) (x1:List Int) (x2:Int) (x3:a0u):Option Rs :=
 bi (decide (x2 < (len x1))) (
  gd (idx x2 (List.length x1)) <|
  on1 (a2f N x0 (List.getD x1 x2.toNat 0) x3)<|gg [a0z]<|fun (x4:a0u) =>
  again x0 x1 (w.i64 (x2+1)) x4) <|
 some (1,a2t.dv x3 [])
def a5f (N:Nat):Nat→Fn' (Option Rs) [pI,pD (.sl tI),pI,a0z]:=lpG (a4S N)
def b1I (N:Nat):LE:=(0,mkM [pI,pD (.sl tI),pI,a0z] [(1,[a0z])] (a5f N N))
theorem c1z (N:Nat):LEok Q a5S (bodOf f204) f204.ntmps 1 (b1I N) :=
 loopG (hi:=a5S) (l:=a5G N) (t:=[]) (r:=a4S N) a0r hmix (b2X N) (b5x N) e8t trivial (ls:=b1u) (body:=bodyAt f204 0) (by kernel_rfl) (by kernel_rfl) fun A ys=>by kernel_rfl
def a1j (N:Nat) (x0:Int) (x1:List Int) (x2:a0u):Option Rs :=
 onA 1 (a5f N N x0 x1 0 x2)<|gg [a0z]<|fun (x3:a0u) =>
 some (0,a2t.dv x3 [])
def b5p (N:Nat):CE:=(a3K,mkF [pI,pD (.sl tI),a0z] [a0z] (a1j N))
theorem c6g (N:Nat):CEok Q (b5p N) :=
 fnG (hi:=a5S) (l:=a5G N) (t:=[b1I N]) a0r hmix (b2X N) (b5x N) e8t (by kernel_rfl) (by kernel_rfl) ⟨c1z N,trivial⟩ fun ys=>by kernel_rfl
def a1J:CS:=⟨51,208,⟨[.one (.p 0 0 [1,1,1]),.one (.d tI)],[[.d tI,.d tI,.o a0i]]⟩,[],false,[[.d tI,.d tI,.o a0i]]⟩
def c3e:Hi:=⟨[],[],[],[],[]⟩
theorem f0i:Fn Q 208 f208 (codeOf f208):=by constructor <;> kernel_rfl
def a1n (N:Nat) (x0:Int) (x1:a0u):Option Rs :=
 gd (rm x1.L [(x0,(a0o.z,(0,(x1.Pc,(x1.Off,())))))] 72) <|
 some (0,a2t.dv ({ x1 with L:=(x1.L++[(x0,(a0o.z,(0,(x1.Pc,(x1.Off,())))))]) }:a0u) [])
def b2O (N:Nat):CE:=(a1J,mkF [pI,a0z] [a0z] (a1n N))
theorem c3R (N:Nat):CEok Q (b2O N) :=
 fnG (hi:=c3e) (l:=[]) (t:=[]) a0r hmix trivial trivial f0i (by kernel_rfl) (by kernel_rfl) trivial fun ys=>by kernel_rfl
def d1F:CS:=⟨52,128,⟨[.agg [.d tI,.d tI,.d tI,.d tI,.d tI],.agg [.d (.ar 16 tI)],.one (.d tI),.one (.d tI)],[]⟩,[.one (.o a0i),.one (.o a0i)],false,[]⟩
def e0I:Hi:=⟨[((3,1),a4Y),((5,2),a2C),((9,2),d1J),((10,2),a1C),((11,3),b3g),((11,4),a3K),((12,3),b3g),((12,4),a3K),((13,2),a1C),((15,3),c1B),((16,2),a1C),((17,2),a1C),((18,2),a1C),((20,3),b3Q),((21,3),a4D),((22,3),a4D),((23,2),a1C),((24,3),a4D),((26,2),a6l),((26,3),b8u),((27,2),a1C),((28,1),a1J),((29,3),b3g),((29,4),a3K),((30,1),a1J),((31,3),b3g),((31,4),a3K),((32,2),a1C),((34,1),a1J),((35,1),a1J),((37,1),a1J),((38,1),a1J)],[],[22,26,33,50,55,65,71,87,93,114,120],[],[]⟩
theorem f0F:Fn Q 128 f128 (codeOf f128):=by constructor <;> kernel_rfl
def c6D (N:Nat) (x0:a0o) (x1:List Int) (x2:Int) (x3:Int):Option Rs :=
 on1 (a4s N x0)<|gg [pB]<|fun (x4:Bool) =>
 bi (!x4) (
  some (0,(gD (.sl a0i)).dv ([]:List a0h) ((gD (.sl a0i)).dv ([]:List a0h) []))) <|
 on1 (a5s N x0.1)<|gg [pI]<|fun (x5:Int) =>
 bi (x5 == 1) (
  on1 (b4r N x0 x1)<|gg [pI]<|fun (x6:Int) =>
  bi (x6 == 1) (
   on1 (a0Y N 1 x0 (a0u.mk x2 x3 ([]:List a0h)))<|gg [a0z]<|fun (x7:a0u) =>
   some (0,(gD (.sl a0i)).dv x7.L ((gD (.sl a0i)).dv ([]:List a0h) []))) <|
  on1 (a5F N x0 x1)<|gg [pD (.sl tI)]<|fun (x8:List Int) =>
  on1 (a1j N 5 x8 (a0u.mk x2 x3 ([]:List a0h)))<|gg [a0z]<|fun (x9:a0u) =>
  on1 (a5F N x0 x1)<|gg [pD (.sl tI)]<|fun (x10:List Int) =>
  on1 (a1j N 6 x10 (a0u.mk x2 x3 ([]:List a0h)))<|gg [a0z]<|fun (x11:a0u) =>
  on1 (a0Y N 1 x0 x11)<|gg [a0z]<|fun (x12:a0u) =>
  some (0,(gD (.sl a0i)).dv x9.L ((gD (.sl a0i)).dv x12.L []))) <|
 bi (x5 == 2) (
  on1 (b4r N x0 x1)<|gg [pI]<|fun (x13:Int) =>
  bi (x13 == 1) (
   on1 (a0Y N 1 x0 (a0u.mk x2 x3 ([]:List a0h)))<|gg [a0z]<|fun (x14:a0u) =>
   some (0,(gD (.sl a0i)).dv x14.L ((gD (.sl a0i)).dv ([]:List a0h) []))) <|
  on1 (a5F N x0 x1)<|gg [pD (.sl tI)]<|fun (x15:List Int) =>
  on1 (a1j N 5 x15 (a0u.mk x2 x3 ([]:List a0h)))<|gg [a0z]<|fun (x16:a0u) =>
  on1 (a5F N x0 x1)<|gg [pD (.sl tI)]<|fun (x17:List Int) =>
  on1 (a1j N 6 x17 (a0u.mk x2 x3 ([]:List a0h)))<|gg [a0z]<|fun (x18:a0u) =>
  on1 (a0Y N 1 x0 x18)<|gg [a0z]<|fun (x19:a0u) =>
  some (0,(gD (.sl a0i)).dv x16.L ((gD (.sl a0i)).dv x19.L []))) <|
 bi (x5 == 3) (
  on1 (b4r N x0 x1)<|gg [pI]<|fun (x20:Int) =>
  bi (x20 == 1) (
   on1 (a0Y N 1 x0 (a0u.mk x2 x3 ([]:List a0h)))<|gg [a0z]<|fun (x21:a0u) =>
   some (0,(gD (.sl a0i)).dv x21.L ((gD (.sl a0i)).dv ([]:List a0h) []))) <|
  on1 (a5F N x0 x1)<|gg [pD (.sl tI)]<|fun (x22:List Int) =>
  on1 (a1j N 5 x22 (a0u.mk x2 x3 ([]:List a0h)))<|gg [a0z]<|fun (x23:a0u) =>
  on1 (a5F N x0 x1)<|gg [pD (.sl tI)]<|fun (x24:List Int) =>
  on1 (a1j N 6 x24 (a0u.mk x2 x3 ([]:List a0h)))<|gg [a0z]<|fun (x25:a0u) =>
  on1 (a0Y N 1 x0 x25)<|gg [a0z]<|fun (x26:a0u) =>
  some (0,(gD (.sl a0i)).dv x23.L ((gD (.sl a0i)).dv x26.L []))) <|
 bi (x5 == 4) (
  on1 (b7k N x1 x0.2.1)<|gg [pB]<|fun (x27:Bool) =>
  bi x27 (
   on1 (a0Y N 3 x0 (a0u.mk x2 x3 ([]:List a0h)))<|gg [a0z]<|fun (x28:a0u) =>
   on1 (a0Y N 7 x0 (a0u.mk x2 x3 ([]:List a0h)))<|gg [a0z]<|fun (x29:a0u) =>
   some (0,(gD (.sl a0i)).dv x28.L ((gD (.sl a0i)).dv x29.L []))) <|
  on1 (a0Y N 2 x0 (a0u.mk x2 x3 ([]:List a0h)))<|gg [a0z]<|fun (x30:a0u) =>
  some (0,(gD (.sl a0i)).dv x30.L ((gD (.sl a0i)).dv ([]:List a0h) []))) <|
 bi (x5 == 5) (
  on1 (b0u N x1 x0.2.2.2.1)<|gg [pI]<|fun (x31:Int) =>
  bi (x31 == 1) (
   on1 (a2f N 5 x0.2.2.2.1 (a0u.mk x2 x3 ([]:List a0h)))<|gg [a0z]<|fun (x32:a0u) =>
   on1 (a2f N 6 x0.2.2.2.1 (a0u.mk x2 x3 ([]:List a0h)))<|gg [a0z]<|fun (x33:a0u) =>
   on1 (a0Y N 4 x0 x32)<|gg [a0z]<|fun (x34:a0u) =>
   on1 (a2f N 8 x0.2.2.2.1 x33)<|gg [a0z]<|fun (x35:a0u) =>
   some (0,(gD (.sl a0i)).dv x34.L ((gD (.sl a0i)).dv x35.L []))) <|
  on1 (a0Y N 4 x0 (a0u.mk x2 x3 ([]:List a0h)))<|gg [a0z]<|fun (x36:a0u) =>
  on1 (a2f N 8 x0.2.2.2.1 (a0u.mk x2 x3 ([]:List a0h)))<|gg [a0z]<|fun (x37:a0u) =>
  some (0,(gD (.sl a0i)).dv x36.L ((gD (.sl a0i)).dv x37.L []))) <|
 bi (x5 == 6) (
  on1 (a2Q N x0)<|gg [pD (.sl tI)]<|fun (x38:List Int) =>
  on1 (b2c N x1 x38)<|gg [pB]<|fun (x39:Bool) =>
  bi (!x39) (
   on1 (a0Y N 9 x0 (a0u.mk x2 x3 ([]:List a0h)))<|gg [a0z]<|fun (x40:a0u) =>
   on1 (a1n N 10 (a0u.mk x2 x3 ([]:List a0h)))<|gg [a0z]<|fun (x41:a0u) =>
   some (0,(gD (.sl a0i)).dv x40.L ((gD (.sl a0i)).dv x41.L []))) <|
  on1 (a5F N x0 x1)<|gg [pD (.sl tI)]<|fun (x42:List Int) =>
  on1 (a1j N 5 x42 (a0u.mk x2 x3 ([]:List a0h)))<|gg [a0z]<|fun (x43:a0u) =>
  on1 (a1n N 10 x43)<|gg [a0z]<|fun (x44:a0u) =>
  on1 (a5F N x0 x1)<|gg [pD (.sl tI)]<|fun (x45:List Int) =>
  on1 (a1j N 6 x45 (a0u.mk x2 x3 ([]:List a0h)))<|gg [a0z]<|fun (x46:a0u) =>
  on1 (a0Y N 9 x0 x46)<|gg [a0z]<|fun (x47:a0u) =>
  some (0,(gD (.sl a0i)).dv x44.L ((gD (.sl a0i)).dv x47.L []))) <|
 bi (x5 == 7) (
  on1 (a1n N 11 (a0u.mk x2 x3 ([]:List a0h)))<|gg [a0z]<|fun (x48:a0u) =>
  on1 (a1n N 11 (a0u.mk x2 x3 ([]:List a0h)))<|gg [a0z]<|fun (x49:a0u) =>
  some (0,(gD (.sl a0i)).dv x48.L ((gD (.sl a0i)).dv x49.L []))) <|
 bi (x5 == 8) (
  on1 (a1n N 12 (a0u.mk x2 x3 ([]:List a0h)))<|gg [a0z]<|fun (x50:a0u) =>
  on1 (a1n N 12 (a0u.mk x2 x3 ([]:List a0h)))<|gg [a0z]<|fun (x51:a0u) =>
  some (0,(gD (.sl a0i)).dv x50.L ((gD (.sl a0i)).dv x51.L []))) <|
 some (0,(gD (.sl a0i)).dv ([]:List a0h) ((gD (.sl a0i)).dv ([]:List a0h) []))
def d0Q (N:Nat):CE:=(d1F,mkF [a2S,pD (.ar 16 tI),pI,pI] [pD (.sl a0i),pD (.sl a0i)] (c6D N))
theorem e1d (N:Nat):CEok Q (d0Q N) :=
 fnG (hi:=e0I) (l:=[a4O N,a2O N,d1v N,b6F N,d1p N,b5p N,c2x N,b4j N,b0I N,a8b N,b7Q N,b2O N]) (t:=[]) a0r hmix ⟨a6B N,a3h N,e1i N,c7D N,e0Q N,c6g N,c8M N,b9X N,b5Z N,b0d N,c2X N,c3R N,trivial⟩ ⟨rfl,rfl,rfl,rfl,rfl,rfl,rfl,rfl,rfl,rfl,rfl,rfl,rfl,rfl,rfl,rfl,rfl,rfl,rfl,rfl,rfl,rfl,rfl,rfl,rfl,rfl,rfl,rfl,rfl,rfl,rfl,rfl,trivial⟩ f0F (by kernel_rfl) (by kernel_rfl) trivial fun ys=>by kernel_rfl
def b7K:CS:=⟨53,67,⟨[.agg [.d (.sl a0y),.d tI,.d (.sl tU)],.agg [.d (.ar 16 tI)]],[]⟩,[.agg [.o a0n,.d (.ar 16 tI)],.one (.d tI)],false,[]⟩
def c5V:LS:=⟨⟨[.no,.no,.one (.p 0 0 [1,1,1]),.one (.p 1 0 [16]),.one (.p 2 0 [1,16]),.no,.one (.p 3 0 [1,16]),.one (.d tI),.one (.p 4 0 [1,1,1,1,1,1]),.one (.d tI)]++nos 70,[[.d (.sl a0y),.d tI,.d (.sl tU)],[.d (.ar 16 tI)],[.d (.sl a0n),.d (.ar 16 tI)],[.oh 4 6 [1,1,1,1,1,1],.d (.ar 16 tI)],[.d tI,.d tI,.d tI,.d tI,.o a0i,.o a0i]]⟩,[(3,⟨[.no,.no,.one (.p 0 0 [1,1,1]),.one (.p 1 0 [16]),.one (.p 2 0 [1,16]),.no,.one (.p 3 0 [1,16]),.one (.d tI)]++nos 72,[[.d (.sl a0y),.d tI,.d (.sl tU)],[.d (.ar 16 tI)],[.d (.sl a0n),.d (.ar 16 tI)],[.oh 4 6 [1,1,1,1,1,1],.d (.ar 16 tI)],[.d tI,.d tI,.d tI,.d tI,.o a0i,.o a0i]]⟩)]⟩
def a4C:LS:=⟨⟨[.no,.no,.one (.p 0 0 [1,1,1]),.one (.p 1 0 [16]),.one (.p 2 0 [1,16]),.no,.one (.p 3 0 [1,16]),.one (.d tI)]++nos 72,[[.d (.sl a0y),.d tI,.d (.sl tU)],[.d (.ar 16 tI)],[.d (.sl a0n),.d (.ar 16 tI)],q_4]⟩,[(1,⟨[.no,.no,.one (.p 0 0 [1,1,1]),.one (.p 1 0 [16]),.one (.p 2 0 [1,16]),.no,.one (.p 3 0 [1,16])]++nos 73,[[.d (.sl a0y),.d tI,.d (.sl tU)],[.d (.ar 16 tI)],[.d (.sl a0n),.d (.ar 16 tI)],[.o a0n,.d (.ar 16 tI)]]⟩)]⟩
def a3W:Hi:=⟨[((1,2),c4h),((3,1),d5Y),((11,13),d1F)],[(0,a4C),(2,c5V)],[15,25,41],[],[]⟩
theorem f_67:Fn Q 67 f67 (codeOf f67):=by constructor <;> kernel_rfl
def a4R (N:Nat):List CE:=[c5u N,d5O N,d0Q N]
theorem c0h (N:Nat):AllP (CEok Q) (a4R N):=⟨d5l N,e2G N,e1d N,trivial⟩
theorem c3K (N:Nat):AllP (fun e=>lookC (a4R N) e.2.id = some e.2) a3W.cs:=⟨rfl,rfl,rfl,trivial⟩
def b4U (N:Nat) (again:Fn' (Option Rs) [pI,pI,pD (.sl a0y),pI,pD (.sl tU),pD (.ar 16 tI),pD (.sl a0n),pD (.ar 16 tI),pI,pI,pD (.ar 16 tI),pI,pI,pI,pI,pD (.sl a0i),pD (.sl a0i)]) (x0:Int) (x1:Int) (x2:List a0o) (x3:Int) (x4:List Int) (x5:List Int) (x6:List a0x) (x7:List Int) (x8:Int) (x9:Int) (x10:List Int) (x11:Int) (x12:Int) (x13:Int) (x14:Int) (x15:List a0h) (x16:List a0h):Option Rs :=
 bi (decide (x1 < x12)) (
  gd (idx x1 (List.length x2)) <|
  on1 (c6D N (List.getD x2 x1.toNat a0o.z) x5 x1 (w.i64 (x1 - x11)))<|gg [pD (.sl a0i),pD (.sl a0i)]<|fun (x17:List a0h) (x18:List a0h) =>
  gd (rm x15 x17 72) <|
  gd (rm x16 x18 72) <|
  again x0 (w.i64 (x1+1)) x2 x3 x4 x5 x6 x7 x8 x9 x10 x11 x12 x13 x14 (x15++x17) (x16++x18)) <|
 some (3,gI.dv x0 ((gD (.sl a0y)).dv x2 (gI.dv x3 ((gD (.sl tU)).dv x4 ((gD (.ar 16 tI)).dv x5 ((gD (.sl a0n)).dv x6 ((gD (.ar 16 tI)).dv x7 (gI.dv x8 (gI.dv x9 ((gD (.ar 16 tI)).dv x10 (gI.dv x11 (gI.dv x12 (gI.dv x13 (gI.dv x14 ((gD (.sl a0i)).dv x15 ((gD (.sl a0i)).dv x16 []))))))))))))))))
def a4q (N:Nat):Nat→Fn' (Option Rs) [pI,pI,pD (.sl a0y),pI,pD (.sl tU),pD (.ar 16 tI),pD (.sl a0n),pD (.ar 16 tI),pI,pI,pD (.ar 16 tI),pI,pI,pI,pI,pD (.sl a0i),pD (.sl a0i)]:=lpG (b4U N)
def b2p (N:Nat):LE:=(2,mkM [pI,pI,pD (.sl a0y),pI,pD (.sl tU),pD (.ar 16 tI),pD (.sl a0n),pD (.ar 16 tI),pI,pI,pD (.ar 16 tI),pI,pI,pI,pI,pD (.sl a0i),pD (.sl a0i)] [(3,[pI,pD (.sl a0y),pI,pD (.sl tU),pD (.ar 16 tI),pD (.sl a0n),pD (.ar 16 tI),pI,pI,pD (.ar 16 tI),pI,pI,pI,pI,pD (.sl a0i),pD (.sl a0i)])] (a4q N N))
theorem d6F (N:Nat):LEok Q a3W (bodOf f67) f67.ntmps 5 (b2p N) :=
 loopG (hi:=a3W) (l:=a4R N) (t:=[]) (r:=b4U N) a0r hmix (c0h N) (c3K N) f_67 trivial (ls:=c5V) (body:=bodyAt f67 2) (by kernel_rfl) (by kernel_rfl) fun A ys=>by kernel_rfl
def b4Q:LS:=⟨⟨[.no,.no,.one (.p 0 0 [1,1,1]),.one (.p 1 0 [16]),.one (.p 2 0 [1,16]),.no,.one (.p 3 0 [1,16]),.one (.d tI)]++nos 72,[[.d (.sl a0y),.d tI,.d (.sl tU)],[.d (.ar 16 tI)],[.d (.sl a0n),.d (.ar 16 tI)],[.oh 4 6 [1,1,1,1,1,1],.d (.ar 16 tI)],[.d tI,.d tI,.d tI,.d tI,.o a0i,.o a0i]]⟩,[]⟩
def b7h (N:Nat) (again:Fn' (Option Rs) [pI,pD (.sl a0y),pI,pD (.sl tU),pD (.ar 16 tI),pD (.sl a0n),pD (.ar 16 tI),pI,pI,pD (.ar 16 tI),pI,pI,pI,pI,pD (.sl a0i),pD (.sl a0i)]) (x0:Int) (x1:List a0o) (x2:Int) (x3:List Int) (x4:List Int) (x5:List a0x) (x6:List Int) (x7:Int) (x8:Int) (x9:List Int) (x10:Int) (x11:Int) (x12:Int) (x13:Int) (x14:List a0h) (x15:List a0h):Option Rs :=
 gd (decide (x0 < x7)) <|
 gd (decide (x0 = x8∧0≤x0∧x0 < x7)) <|
 onA 3 (a4q N N x0 x10 x1 x2 x3 x4 x5 x6 x7 x8 x9 x10 x11 x12 x13 x14 x15)<|gg [pI,pD (.sl a0y),pI,pD (.sl tU),pD (.ar 16 tI),pD (.sl a0n),pD (.ar 16 tI),pI,pI,pD (.ar 16 tI),pI,pI,pI,pI,pD (.sl a0i),pD (.sl a0i)]<|fun (x16:Int) (x17:List a0o) (x18:Int) (x19:List Int) (x20:List Int) (x21:List a0x) (x22:List Int) (x23:Int) (x24:Int) (x25:List Int) (x26:Int) (x27:Int) (x28:Int) (x29:Int) (x30:List a0h) (x31:List a0h) =>
 again (w.i64 (x16+1)) x17 x18 x19 x20 x21 x22 x23 x24 x25 x26 x27 x28 x29 x30 x31
theorem c6W (N:Nat) (A:List DV→Option Rs):∀ ys,round cx0 a3W (ctL (a4R N)) (ltL [b2p N]) f67.ntmps 5 0 b4Q (bodyAt f67 0) A (dvG [pI,pD (.sl a0y),pI,pD (.sl tU),pD (.ar 16 tI),pD (.sl a0n),pD (.ar 16 tI),pI,pI,pD (.ar 16 tI),pI,pI,pI,pI,pD (.sl a0i),pD (.sl a0i)] ys) = apG [pI,pD (.sl a0y),pI,pD (.sl tU),pD (.ar 16 tI),pD (.sl a0n),pD (.ar 16 tI),pI,pI,pD (.ar 16 tI),pI,pI,pI,pI,pD (.sl a0i),pD (.sl a0i)] (b7h N (cK [pI,pD (.sl a0y),pI,pD (.sl tU),pD (.ar 16 tI),pD (.sl a0n),pD (.ar 16 tI),pI,pI,pD (.ar 16 tI),pI,pI,pI,pI,pD (.sl a0i),pD (.sl a0i)] A)) ys:=fun ys=>by kernel_rfl
def b5b:LS:=⟨⟨[.no,.no,.one (.p 0 0 [1,1,1]),.one (.p 1 0 [16]),.one (.p 2 0 [1,16]),.no,.one (.p 3 0 [1,16]),.one (.d tI)]++nos 72,[[.d (.sl a0y),.d tI,.d (.sl tU)],[.d (.ar 16 tI)],[.d (.sl a0n),.d (.ar 16 tI)],[.oh 3 6 [1,1,1,1,1,1],.d (.ar 16 tI)]]⟩,[(1,⟨[.no,.no,.one (.p 0 0 [1,1,1]),.one (.p 1 0 [16]),.one (.p 2 0 [1,16]),.no,.one (.p 3 0 [1,16])]++nos 73,[[.d (.sl a0y),.d tI,.d (.sl tU)],[.d (.ar 16 tI)],[.d (.sl a0n),.d (.ar 16 tI)],[.oh 3 6 [1,1,1,1,1,1],.d (.ar 16 tI)]]⟩)]⟩
def b7g (N:Nat) (again:Fn' (Option Rs) [pI,pD (.sl a0y),pI,pD (.sl tU),pD (.ar 16 tI),pD (.sl a0n),pD (.ar 16 tI),pI,pI,pD (.ar 16 tI)]) (x0:Int) (x1:List a0o) (x2:Int) (x3:List Int) (x4:List Int) (x5:List a0x) (x6:List Int) (x7:Int) (x8:Int) (x9:List Int):Option Rs :=
 bi (decide (x0 < x7)) (
  gd (decide (x0 = x8∧0≤x0∧x0 < x7)) <|
  none) <|
 some (1,(gD (.sl a0y)).dv x1 (gI.dv x2 ((gD (.sl tU)).dv x3 ((gD (.ar 16 tI)).dv x4 ((gD (.sl a0n)).dv x5 ((gD (.ar 16 tI)).dv x6 (gI.dv x7 (gI.dv x8 ((gD (.ar 16 tI)).dv x9 [])))))))))
theorem c8t (N:Nat) (A:List DV→Option Rs):∀ ys,round cx0 a3W (ctL (a4R N)) (ltL []) f67.ntmps 4 0 b5b (bodyAt f67 0) A (dvG [pI,pD (.sl a0y),pI,pD (.sl tU),pD (.ar 16 tI),pD (.sl a0n),pD (.ar 16 tI),pI,pI,pD (.ar 16 tI)] ys) = apG [pI,pD (.sl a0y),pI,pD (.sl tU),pD (.ar 16 tI),pD (.sl a0n),pD (.ar 16 tI),pI,pI,pD (.ar 16 tI)] (b7g N (cK [pI,pD (.sl a0y),pI,pD (.sl tU),pD (.ar 16 tI),pD (.sl a0n),pD (.ar 16 tI),pI,pI,pD (.ar 16 tI)] A)) ys:=fun ys=>by kernel_rfl
end
end Go.Proofs.Zz
