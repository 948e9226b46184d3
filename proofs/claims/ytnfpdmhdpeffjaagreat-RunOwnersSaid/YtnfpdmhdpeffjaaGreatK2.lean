import Derived.Test.YtnfpdmhdpeffjaaGreatK1
import Derived.Test.YtnfpdmhdpeffjaaGreatEnhK
set_option linter.unusedSimpArgs false
set_option linter.unusedVariables false
/- What functions of the program compute, as plain functions. -/
set_option maxRecDepth 100000
namespace Go.Proofs.Zz
noncomputable section
open Go Go.Proofs.Tryz
variable (N:Nat)
def b3Q:CS:=⟨45,206,⟨[.agg [.d (.ar 16 tI)],.one (.d tI)],[]⟩,[.one (.d tI)],true,[]⟩
def b0u (N:Nat) (x0:List Int) (x1:Int):OR:=bi (decide (x1 < 1)) (some (0,gI.dv 0 []))<|bi (decide (x1 > 15)) (some (0,gI.dv 0 []))<|gd (idx x1 16)<|some (0,gI.dv (x0.getD x1.toNat 0) [])
def b4j:CE:=(b3Q,mkF [pD (.ar 16 tI),pI] [pI] (b0u N))
theorem b9X:CEok Q (b4j N):=fn_K a0r f206 ⟨[],[],[7,10],[],[]⟩ g7q
def d1J:CS:=⟨46,202,⟨[.agg [.d tI,.d tI,.d tI,.d tI,.d tI],.agg [.d (.ar 16 tI)]],[]⟩,[.one (.d tI)],true,[]⟩
def b4r (x0:a0o) (x1:List Int):OR:=on1 (a5s N x0.1)<|gg [pI]<|fun (x2:Int)=>bi (decide (x2 < 1)) (some (0,gI.dv 0 []))<|bi (decide (x2 > 3)) (some (0,gI.dv 0 []))<|on1 (a2Q N x0)<|gg [pD (.sl tI)]<|fun (x3:List Int)=>on1 (b0u N x1 x0.2.1)<|gg [pI]<|fun (x4:Int)=>bi (x4 == 1) (some (0,gI.dv 1 []))<|bi (x0.2.1 == 0) (on1 (b2c N x1 x3)<|gg [pB]<|fun (x5:Bool)=>bi (!x5) (some (0,gI.dv 1 []))<|some (0,gI.dv 2 []))<|some (0,gI.dv 2 [])
def d1v:CE:=(d1J,mkF [a2S,pD (.ar 16 tI)] [pI] (b4r N))
theorem e1i:CEok Q (d1v N):=fn_K a0r f202 ⟨[((1,2),a2C),((4,1),a6l),((5,3),b3Q),((5,12),b8u)],[],[12,15,23,27,33],[],[]⟩ (g7p (a3h N) (g7s (b0d N) (b9X N) (c2X N)))
def a1C:CS:=⟨47,203,⟨[.one (.p 0 0 [1,1,1]),.one (.d tI),.agg [.d tI,.d tI,.d tI,.d tI,.d tI]],[[.d tI,.d tI,.o a0i]]⟩,[],false,[[.d tI,.d tI,.o a0i]]⟩
def a0Y (N:Nat) (x0:Int) (x1:a0o) (x2:a0u):OR:=gd (rm x2.L [(x0,(x1,(0,(x2.Pc,(x2.Off,())))))] 72)<|some (0,a2t.dv ({ x2 with L:=(x2.L++[(x0,(x1,(0,(x2.Pc,(x2.Off,())))))]) }:a0u) [])
def b6F:CE:=(a1C,mkF [pI,a2S,a0z] [a0z] (a0Y N))
theorem c7D:CEok Q (b6F N):=fn_K a0r f203 ⟨[],[],[],[],[]⟩ g7q
def b3g:CS:=⟨48,205,⟨[.agg [.d tI,.d tI,.d tI,.d tI,.d tI],.agg [.d (.ar 16 tI)]],[]⟩,[.one (.o tI)],true,[]⟩
def c3V:LS:=⟨⟨[.no,.no,.no,.one (.p 0 0 [16]),.no,.one (.o tI),.one (.o tI),.one (.d tI)]++nos 32,[[.d (.ar 16 tI)]]⟩,[(1,⟨nos 6++[.one (.o tI)]++nos 33,[]⟩)]⟩
def b7P:Hi:=⟨[((1,1),a6l),((6,5),b3Q),((6,13),b7E)],[(0,c3V)],[13,23,31],[],[]⟩
theorem c9h:AllP (CEok Q) [a8b N,b4j N,c2N N]:=g7s (b0d N) (b9X N) (d0w N)
def b4a (again:Fn' OR [pD (.sl tI),pD (.sl tI),pI,pD (.ar 16 tI)]) (x0 x1:List Int) (x2:Int) (x3:List Int):OR:=bi (decide (x2 < (len x0))) (gd (idx x2 x0.length)<|on1 (b0u N x3 (x0.getD x2.toNat 0))<|gg [pI]<|fun (x4:Int)=>bi (x4 == 1) (gd (idx x2 x0.length)<|on1 (a5H N x1 (x0.getD x2.toNat 0))<|gg [pI]<|fun (x5:Int)=>bi (decide (x5 < 0)) (gd (idx x2 x0.length)<|gd (rm x1 [(x0.getD x2.toNat 0)] 8)<|again x0 (x1++[(x0.getD x2.toNat 0)]) (w.i64 (x2+1)) x3)<|again x0 x1 (w.i64 (x2+1)) x3)<|again x0 x1 (w.i64 (x2+1)) x3)<|some (1,(gD (.sl tI)).dv x1 [])
def b4H:Nat→Fn' OR [pD (.sl tI),pD (.sl tI),pI,pD (.ar 16 tI)]:=lpG (b4a N)
theorem d3C:LEok Q b7P (bodOf f205) f205.ntmps 0 (0,mkM [pD (.sl tI),pD (.sl tI),pI,pD (.ar 16 tI)] [(1,[pD (.sl tI)])] (b4H N N)):=g7r a0r 205 c3V (c9h N)
def a5F (x0:a0o) (x1:List Int):OR:=on1 (a2Q N x0)<|gg [pD (.sl tI)]<|fun (x2:List Int)=>onA 1 (b4H N N x2 ([]:List Int) 0 x1)<|gg [pD (.sl tI)]<|fun (x3:List Int)=>some (0,(gD (.sl tI)).dv x3 [])
def d1p:CE:=(b3g,mkF [a2S,pD (.ar 16 tI)] [pD (.sl tI)] (a5F N))
theorem e0Q:CEok Q (d1p N):=fn_L a0r f205 b7P (c9h N) (g7o (d3C N))
def a4D:CS:=⟨49,207,⟨[.one (.p 0 0 [1,1,1]),.one (.d tI),.one (.d tI)],[[.d tI,.d tI,.o a0i]]⟩,[],false,[[.d tI,.d tI,.o a0i]]⟩
def a2f (N:Nat) (x0 x1:Int) (x2:a0u):OR:=gd (rm x2.L [(x0,(a0o.z,(x1,(x2.Pc,(x2.Off,())))))] 72)<|some (0,a2t.dv ({ x2 with L:=(x2.L++[(x0,(a0o.z,(x1,(x2.Pc,(x2.Off,())))))]) }:a0u) [])
def b0I:CE:=(a4D,mkF [pI,pI,a0z] [a0z] (a2f N))
theorem b5Z:CEok Q (b0I N):=fn_K a0r f207 ⟨[],[],[],[],[]⟩ g7q
def a3K:CS:=⟨50,204,⟨[.one (.p 0 0 [1,1,1]),.one (.d tI),.one (.d (.sl tI))],[[.d tI,.d tI,.o a0i]]⟩,[],false,[[.d tI,.d tI,.o a0i]]⟩
def b1u:LS:=⟨⟨[.one (.p 0 0 [1,1,1]),.one (.d tI),.one (.d (.sl tI)),.no,.no,.no,.one (.d tI)]++nos 13,[[.d tI,.d tI,.o a0i]]⟩,[(1,⟨nos 20,[[.d tI,.d tI,.o a0i]]⟩)]⟩
def a5S:Hi:=⟨[((3,6),a4D)],[(0,b1u)],[10],[],[]⟩
theorem b2X:AllP (CEok Q) [b0I N]:=g7o (b5Z N)
def a4S (again:Fn' OR [pI,pD (.sl tI),pI,a0z]) (x0:Int) (x1:List Int) (x2:Int) (x3:a0u):OR:=bi (decide (x2 < (len x1))) (gd (idx x2 x1.length)<|on1 (a2f N x0 (x1.getD x2.toNat 0) x3)<|gg [a0z]<|fun (x4:a0u)=>again x0 x1 (w.i64 (x2+1)) x4)<|some (1,a2t.dv x3 [])
def a5f:Nat→Fn' OR [pI,pD (.sl tI),pI,a0z]:=lpG (a4S N)
theorem c1z:LEok Q a5S (bodOf f204) f204.ntmps 1 (0,mkM [pI,pD (.sl tI),pI,a0z] [(1,[a0z])] (a5f N N)):=g7r a0r 204 b1u (b2X N)
def a1j (x0:Int) (x1:List Int) (x2:a0u):OR:=onA 1 (a5f N N x0 x1 0 x2)<|gg [a0z]<|fun (x3:a0u)=>some (0,a2t.dv x3 [])
def b5p:CE:=(a3K,mkF [pI,pD (.sl tI),a0z] [a0z] (a1j N))
theorem c6g:CEok Q (b5p N):=fn_L a0r f204 a5S (b2X N) (g7o (c1z N))
def a1J:CS:=⟨51,208,⟨[.one (.p 0 0 [1,1,1]),.one (.d tI)],[[.d tI,.d tI,.o a0i]]⟩,[],false,[[.d tI,.d tI,.o a0i]]⟩
def a1n (N:Nat) (x0:Int) (x1:a0u):OR:=gd (rm x1.L [(x0,(a0o.z,(0,(x1.Pc,(x1.Off,())))))] 72)<|some (0,a2t.dv ({ x1 with L:=(x1.L++[(x0,(a0o.z,(0,(x1.Pc,(x1.Off,())))))]) }:a0u) [])
def b2O:CE:=(a1J,mkF [pI,a0z] [a0z] (a1n N))
theorem c3R:CEok Q (b2O N):=fn_K a0r f208 ⟨[],[],[],[],[]⟩ g7q
def d1F:CS:=⟨52,128,⟨[.agg [.d tI,.d tI,.d tI,.d tI,.d tI],.agg [.d (.ar 16 tI)],.one (.d tI),.one (.d tI)],[]⟩,[.one (.o a0i),.one (.o a0i)],false,[]⟩
def c6D (x0:a0o) (x1:List Int) (x2 x3:Int):OR:=on1 (a4s N x0)<|gg [pB]<|fun (x4:Bool)=>bi (!x4) (some (0,(gD (.sl a0i)).dv ([]:List a0h) ((gD (.sl a0i)).dv ([]:List a0h) [])))<|on1 (a5s N x0.1)<|gg [pI]<|fun (x5:Int)=>bi (x5 == 1) (on1 (b4r N x0 x1)<|gg [pI]<|fun (x6:Int)=>bi (x6 == 1) (on1 (a0Y N 1 x0 (a0u.mk x2 x3 ([]:List a0h)))<|gg [a0z]<|fun (x7:a0u)=>some (0,(gD (.sl a0i)).dv x7.L ((gD (.sl a0i)).dv ([]:List a0h) [])))<|on1 (a5F N x0 x1)<|gg [pD (.sl tI)]<|fun (x8:List Int)=>on1 (a1j N 5 x8 (a0u.mk x2 x3 ([]:List a0h)))<|gg [a0z]<|fun (x9:a0u)=>on1 (a5F N x0 x1)<|gg [pD (.sl tI)]<|fun (x10:List Int)=>on1 (a1j N 6 x10 (a0u.mk x2 x3 ([]:List a0h)))<|gg [a0z]<|fun (x11:a0u)=>on1 (a0Y N 1 x0 x11)<|gg [a0z]<|fun (x12:a0u)=>some (0,(gD (.sl a0i)).dv x9.L ((gD (.sl a0i)).dv x12.L [])))<|bi (x5 == 2) (on1 (b4r N x0 x1)<|gg [pI]<|fun (x13:Int)=>bi (x13 == 1) (on1 (a0Y N 1 x0 (a0u.mk x2 x3 ([]:List a0h)))<|gg [a0z]<|fun (x14:a0u)=>some (0,(gD (.sl a0i)).dv x14.L ((gD (.sl a0i)).dv ([]:List a0h) [])))<|on1 (a5F N x0 x1)<|gg [pD (.sl tI)]<|fun (x15:List Int)=>on1 (a1j N 5 x15 (a0u.mk x2 x3 ([]:List a0h)))<|gg [a0z]<|fun (x16:a0u)=>on1 (a5F N x0 x1)<|gg [pD (.sl tI)]<|fun (x17:List Int)=>on1 (a1j N 6 x17 (a0u.mk x2 x3 ([]:List a0h)))<|gg [a0z]<|fun (x18:a0u)=>on1 (a0Y N 1 x0 x18)<|gg [a0z]<|fun (x19:a0u)=>some (0,(gD (.sl a0i)).dv x16.L ((gD (.sl a0i)).dv x19.L [])))<|bi (x5 == 3) (on1 (b4r N x0 x1)<|gg [pI]<|fun (x20:Int)=>bi (x20 == 1) (on1 (a0Y N 1 x0 (a0u.mk x2 x3 ([]:List a0h)))<|gg [a0z]<|fun (x21:a0u)=>some (0,(gD (.sl a0i)).dv x21.L ((gD (.sl a0i)).dv ([]:List a0h) [])))<|on1 (a5F N x0 x1)<|gg [pD (.sl tI)]<|fun (x22:List Int)=>on1 (a1j N 5 x22 (a0u.mk x2 x3 ([]:List a0h)))<|gg [a0z]<|fun (x23:a0u)=>on1 (a5F N x0 x1)<|gg [pD (.sl tI)]<|fun (x24:List Int)=>on1 (a1j N 6 x24 (a0u.mk x2 x3 ([]:List a0h)))<|gg [a0z]<|fun (x25:a0u)=>on1 (a0Y N 1 x0 x25)<|gg [a0z]<|fun (x26:a0u)=>some (0,(gD (.sl a0i)).dv x23.L ((gD (.sl a0i)).dv x26.L [])))<|bi (x5 == 4) (on1 (b7k N x1 x0.2.1)<|gg [pB]<|fun (x27:Bool)=>bi x27 (on1 (a0Y N 3 x0 (a0u.mk x2 x3 ([]:List a0h)))<|gg [a0z]<|fun (x28:a0u)=>on1 (a0Y N 7 x0 (a0u.mk x2 x3 ([]:List a0h)))<|gg [a0z]<|fun (x29:a0u)=>some (0,(gD (.sl a0i)).dv x28.L ((gD (.sl a0i)).dv x29.L [])))<|on1 (a0Y N 2 x0 (a0u.mk x2 x3 ([]:List a0h)))<|gg [a0z]<|fun (x30:a0u)=>some (0,(gD (.sl a0i)).dv x30.L ((gD (.sl a0i)).dv ([]:List a0h) [])))<|bi (x5 == 5) (on1 (b0u N x1 x0.2.2.2.1)<|gg [pI]<|fun (x31:Int)=>bi (x31 == 1) (on1 (a2f N 5 x0.2.2.2.1 (a0u.mk x2 x3 ([]:List a0h)))<|gg [a0z]<|fun (x32:a0u)=>on1 (a2f N 6 x0.2.2.2.1 (a0u.mk x2 x3 ([]:List a0h)))<|gg [a0z]<|fun (x33:a0u)=>on1 (a0Y N 4 x0 x32)<|gg [a0z]<|fun (x34:a0u)=>on1 (a2f N 8 x0.2.2.2.1 x33)<|gg [a0z]<|fun (x35:a0u)=>some (0,(gD (.sl a0i)).dv x34.L ((gD (.sl a0i)).dv x35.L [])))<|on1 (a0Y N 4 x0 (a0u.mk x2 x3 ([]:List a0h)))<|gg [a0z]<|fun (x36:a0u)=>on1 (a2f N 8 x0.2.2.2.1 (a0u.mk x2 x3 ([]:List a0h)))<|gg [a0z]<|fun (x37:a0u)=>some (0,(gD (.sl a0i)).dv x36.L ((gD (.sl a0i)).dv x37.L [])))<|bi (x5 == 6) (on1 (a2Q N x0)<|gg [pD (.sl tI)]<|fun (x38:List Int)=>on1 (b2c N x1 x38)<|gg [pB]<|fun (x39:Bool)=>bi (!x39) (on1 (a0Y N 9 x0 (a0u.mk x2 x3 ([]:List a0h)))<|gg [a0z]<|fun (x40:a0u)=>on1 (a1n N 10 (a0u.mk x2 x3 ([]:List a0h)))<|gg [a0z]<|fun (x41:a0u)=>some (0,(gD (.sl a0i)).dv x40.L ((gD (.sl a0i)).dv x41.L [])))<|on1 (a5F N x0 x1)<|gg [pD (.sl tI)]<|fun (x42:List Int)=>on1 (a1j N 5 x42 (a0u.mk x2 x3 ([]:List a0h)))<|gg [a0z]<|fun (x43:a0u)=>on1 (a1n N 10 x43)<|gg [a0z]<|fun (x44:a0u)=>on1 (a5F N x0 x1)<|gg [pD (.sl tI)]<|fun (x45:List Int)=>on1 (a1j N 6 x45 (a0u.mk x2 x3 ([]:List a0h)))<|gg [a0z]<|fun (x46:a0u)=>on1 (a0Y N 9 x0 x46)<|gg [a0z]<|fun (x47:a0u)=>some (0,(gD (.sl a0i)).dv x44.L ((gD (.sl a0i)).dv x47.L [])))<|bi (x5 == 7) (on1 (a1n N 11 (a0u.mk x2 x3 ([]:List a0h)))<|gg [a0z]<|fun (x48:a0u)=>on1 (a1n N 11 (a0u.mk x2 x3 ([]:List a0h)))<|gg [a0z]<|fun (x49:a0u)=>some (0,(gD (.sl a0i)).dv x48.L ((gD (.sl a0i)).dv x49.L [])))<|bi (x5 == 8) (on1 (a1n N 12 (a0u.mk x2 x3 ([]:List a0h)))<|gg [a0z]<|fun (x50:a0u)=>on1 (a1n N 12 (a0u.mk x2 x3 ([]:List a0h)))<|gg [a0z]<|fun (x51:a0u)=>some (0,(gD (.sl a0i)).dv x50.L ((gD (.sl a0i)).dv x51.L [])))<|some (0,(gD (.sl a0i)).dv ([]:List a0h) ((gD (.sl a0i)).dv ([]:List a0h) []))
def d0Q:CE:=(d1F,mkF [a2S,pD (.ar 16 tI),pI,pI] [pD (.sl a0i),pD (.sl a0i)] (c6D N))
theorem e1d:CEok Q (d0Q N):=fn_K a0r f128 ⟨[((3,1),a4Y),((5,2),a2C),((9,2),d1J),((10,2),a1C),((11,3),b3g),((11,4),a3K),((12,3),b3g),((12,4),a3K),((13,2),a1C),((15,3),c1B),((16,2),a1C),((17,2),a1C),((18,2),a1C),((20,3),b3Q),((21,3),a4D),((22,3),a4D),((23,2),a1C),((24,3),a4D),((26,2),a6l),((26,3),b8u),((27,2),a1C),((28,1),a1J),((29,3),b3g),((29,4),a3K),((30,1),a1J),((31,3),b3g),((31,4),a3K),((32,2),a1C),((34,1),a1J),((35,1),a1J),((37,1),a1J),((38,1),a1J)],[],[22,26,33,50,55,65,71,87,93,114,120],[],[]⟩ (g7p (a6B N) (g7p (a3h N) (g7p (e1i N) (g7p (c7D N) (g7p (e0Q N) (g7p (c6g N) (g7p (c8M N) (g7p (b9X N) (g7p (b5Z N) (g7s (b0d N) (c2X N) (c3R N)))))))))))
def b7K:CS:=⟨53,67,⟨[.agg [.d (.sl a0y),.d tI,.d (.sl tU)],.agg [.d (.ar 16 tI)]],[]⟩,[.agg [.o a0n,.d (.ar 16 tI)],.one (.d tI)],false,[]⟩
def c5V:LS:=⟨⟨[.no,.no,.one (.p 0 0 [1,1,1]),.one (.p 1 0 [16]),.one (.p 2 0 [1,16]),.no,.one (.p 3 0 [1,16]),.one (.d tI),.one (.p 4 0 [1,1,1,1,1,1]),.one (.d tI)]++nos 70,[[.d (.sl a0y),.d tI,.d (.sl tU)],[.d (.ar 16 tI)],[.d (.sl a0n),.d (.ar 16 tI)],[.oh 4 6 [1,1,1,1,1,1],.d (.ar 16 tI)],[.d tI,.d tI,.d tI,.d tI,.o a0i,.o a0i]]⟩,[(3,⟨[.no,.no,.one (.p 0 0 [1,1,1]),.one (.p 1 0 [16]),.one (.p 2 0 [1,16]),.no,.one (.p 3 0 [1,16]),.one (.d tI)]++nos 72,[[.d (.sl a0y),.d tI,.d (.sl tU)],[.d (.ar 16 tI)],[.d (.sl a0n),.d (.ar 16 tI)],[.oh 4 6 [1,1,1,1,1,1],.d (.ar 16 tI)],[.d tI,.d tI,.d tI,.d tI,.o a0i,.o a0i]]⟩)]⟩
def a4C:LS:=⟨⟨[.no,.no,.one (.p 0 0 [1,1,1]),.one (.p 1 0 [16]),.one (.p 2 0 [1,16]),.no,.one (.p 3 0 [1,16]),.one (.d tI)]++nos 72,[[.d (.sl a0y),.d tI,.d (.sl tU)],[.d (.ar 16 tI)],[.d (.sl a0n),.d (.ar 16 tI)],q_4]⟩,[(1,⟨[.no,.no,.one (.p 0 0 [1,1,1]),.one (.p 1 0 [16]),.one (.p 2 0 [1,16]),.no,.one (.p 3 0 [1,16])]++nos 73,[[.d (.sl a0y),.d tI,.d (.sl tU)],[.d (.ar 16 tI)],[.d (.sl a0n),.d (.ar 16 tI)],[.o a0n,.d (.ar 16 tI)]]⟩)]⟩
def a3W:Hi:=⟨[((1,2),c4h),((3,1),d5Y),((11,13),d1F)],[(0,a4C),(2,c5V)],[15,25,41],[],[]⟩
theorem f_67:Fn Q 67 f67 (codeOf f67):=by constructor <;> kernel_rfl
def a4R:List CE:=[c5u N,d5O N,d0Q N]
theorem c0h:AllP (CEok Q) (a4R N):=⟨d5l N,e2G N,e1d N,trivial⟩
theorem c3K:AllP (fun e=>lookC (a4R N) e.2.id = some e.2) a3W.cs:=⟨rfl,rfl,rfl,trivial⟩
def b4U (again:Fn' OR [pI,pI,pD (.sl a0y),pI,pD (.sl tU),pD (.ar 16 tI),pD (.sl a0n),pD (.ar 16 tI),pI,pI,pD (.ar 16 tI),pI,pI,pI,pI,pD (.sl a0i),pD (.sl a0i)]) (x0 x1:Int) (x2:List a0o) (x3:Int) (x4 x5:List Int) (x6:List a0x) (x7:List Int) (x8 x9:Int) (x10:List Int) (x11 x12 x13 x14:Int) (x15 x16:List a0h):OR:=bi (decide (x1 < x12)) (gd (idx x1 x2.length)<|on1 (c6D N (x2.getD x1.toNat a0o.z) x5 x1 (w.i64 (x1 - x11)))<|gg [pD (.sl a0i),pD (.sl a0i)]<|fun (x17 x18:List a0h)=>gd (rm x15 x17 72)<|gd (rm x16 x18 72)<|again x0 (w.i64 (x1+1)) x2 x3 x4 x5 x6 x7 x8 x9 x10 x11 x12 x13 x14 (x15++x17) (x16++x18))<|some (3,gI.dv x0 ((gD (.sl a0y)).dv x2 (gI.dv x3 ((gD (.sl tU)).dv x4 ((gD (.ar 16 tI)).dv x5 ((gD (.sl a0n)).dv x6 ((gD (.ar 16 tI)).dv x7 (gI.dv x8 (gI.dv x9 ((gD (.ar 16 tI)).dv x10 (gI.dv x11 (gI.dv x12 (gI.dv x13 (gI.dv x14 ((gD (.sl a0i)).dv x15 ((gD (.sl a0i)).dv x16 []))))))))))))))))
def a4q:Nat→Fn' OR [pI,pI,pD (.sl a0y),pI,pD (.sl tU),pD (.ar 16 tI),pD (.sl a0n),pD (.ar 16 tI),pI,pI,pD (.ar 16 tI),pI,pI,pI,pI,pD (.sl a0i),pD (.sl a0i)]:=lpG (b4U N)
def b2p:LE:=(2,mkM [pI,pI,pD (.sl a0y),pI,pD (.sl tU),pD (.ar 16 tI),pD (.sl a0n),pD (.ar 16 tI),pI,pI,pD (.ar 16 tI),pI,pI,pI,pI,pD (.sl a0i),pD (.sl a0i)] [(3,[pI,pD (.sl a0y),pI,pD (.sl tU),pD (.ar 16 tI),pD (.sl a0n),pD (.ar 16 tI),pI,pI,pD (.ar 16 tI),pI,pI,pI,pI,pD (.sl a0i),pD (.sl a0i)])] (a4q N N))
theorem d6F:LEok Q a3W (bodOf f67) f67.ntmps 5 (b2p N) :=
 loopG (hi:=a3W) (l:=a4R N) (t:=[]) (r:=b4U N) a0r hmix (c0h N) (c3K N) f_67 trivial (ls:=c5V) (body:=bodyAt f67 2) (by kernel_rfl) (by kernel_rfl) fun A ys=>by kernel_rfl
def b4Q:LS:=⟨⟨[.no,.no,.one (.p 0 0 [1,1,1]),.one (.p 1 0 [16]),.one (.p 2 0 [1,16]),.no,.one (.p 3 0 [1,16]),.one (.d tI)]++nos 72,[[.d (.sl a0y),.d tI,.d (.sl tU)],[.d (.ar 16 tI)],[.d (.sl a0n),.d (.ar 16 tI)],[.oh 4 6 [1,1,1,1,1,1],.d (.ar 16 tI)],[.d tI,.d tI,.d tI,.d tI,.o a0i,.o a0i]]⟩,[]⟩
def b7h (again:Fn' OR [pI,pD (.sl a0y),pI,pD (.sl tU),pD (.ar 16 tI),pD (.sl a0n),pD (.ar 16 tI),pI,pI,pD (.ar 16 tI),pI,pI,pI,pI,pD (.sl a0i),pD (.sl a0i)]) (x0:Int) (x1:List a0o) (x2:Int) (x3 x4:List Int) (x5:List a0x) (x6:List Int) (x7 x8:Int) (x9:List Int) (x10 x11 x12 x13:Int) (x14 x15:List a0h):OR:=gd (decide (x0 < x7))<|gd (decide (x0 = x8∧0≤x0∧x0 < x7))<|onA 3 (a4q N N x0 x10 x1 x2 x3 x4 x5 x6 x7 x8 x9 x10 x11 x12 x13 x14 x15)<|gg [pI,pD (.sl a0y),pI,pD (.sl tU),pD (.ar 16 tI),pD (.sl a0n),pD (.ar 16 tI),pI,pI,pD (.ar 16 tI),pI,pI,pI,pI,pD (.sl a0i),pD (.sl a0i)]<|fun (x16:Int) (x17:List a0o) (x18:Int) (x19 x20:List Int) (x21:List a0x) (x22:List Int) (x23 x24:Int) (x25:List Int) (x26 x27 x28 x29:Int) (x30 x31:List a0h)=>again (w.i64 (x16+1)) x17 x18 x19 x20 x21 x22 x23 x24 x25 x26 x27 x28 x29 x30 x31
theorem c6W (A:List DV→OR):∀ ys,round cx0 a3W (ctL (a4R N)) (ltL [b2p N]) f67.ntmps 5 0 b4Q (bodyAt f67 0) A (dvG [pI,pD (.sl a0y),pI,pD (.sl tU),pD (.ar 16 tI),pD (.sl a0n),pD (.ar 16 tI),pI,pI,pD (.ar 16 tI),pI,pI,pI,pI,pD (.sl a0i),pD (.sl a0i)] ys) = apG [pI,pD (.sl a0y),pI,pD (.sl tU),pD (.ar 16 tI),pD (.sl a0n),pD (.ar 16 tI),pI,pI,pD (.ar 16 tI),pI,pI,pI,pI,pD (.sl a0i),pD (.sl a0i)] (b7h N (cK [pI,pD (.sl a0y),pI,pD (.sl tU),pD (.ar 16 tI),pD (.sl a0n),pD (.ar 16 tI),pI,pI,pD (.ar 16 tI),pI,pI,pI,pI,pD (.sl a0i),pD (.sl a0i)] A)) ys:=fun ys=>by kernel_rfl
def b5b:LS:=⟨⟨[.no,.no,.one (.p 0 0 [1,1,1]),.one (.p 1 0 [16]),.one (.p 2 0 [1,16]),.no,.one (.p 3 0 [1,16]),.one (.d tI)]++nos 72,[[.d (.sl a0y),.d tI,.d (.sl tU)],[.d (.ar 16 tI)],[.d (.sl a0n),.d (.ar 16 tI)],[.oh 3 6 [1,1,1,1,1,1],.d (.ar 16 tI)]]⟩,[(1,⟨[.no,.no,.one (.p 0 0 [1,1,1]),.one (.p 1 0 [16]),.one (.p 2 0 [1,16]),.no,.one (.p 3 0 [1,16])]++nos 73,[[.d (.sl a0y),.d tI,.d (.sl tU)],[.d (.ar 16 tI)],[.d (.sl a0n),.d (.ar 16 tI)],[.oh 3 6 [1,1,1,1,1,1],.d (.ar 16 tI)]]⟩)]⟩
def b7g (N:Nat) (again:Fn' OR [pI,pD (.sl a0y),pI,pD (.sl tU),pD (.ar 16 tI),pD (.sl a0n),pD (.ar 16 tI),pI,pI,pD (.ar 16 tI)]) (x0:Int) (x1:List a0o) (x2:Int) (x3 x4:List Int) (x5:List a0x) (x6:List Int) (x7 x8:Int) (x9:List Int):OR:=bi (decide (x0 < x7)) (gd (decide (x0 = x8∧0≤x0∧x0 < x7))<|none)<|some (1,(gD (.sl a0y)).dv x1 (gI.dv x2 ((gD (.sl tU)).dv x3 ((gD (.ar 16 tI)).dv x4 ((gD (.sl a0n)).dv x5 ((gD (.ar 16 tI)).dv x6 (gI.dv x7 (gI.dv x8 ((gD (.ar 16 tI)).dv x9 [])))))))))
theorem c8t (A:List DV→OR):∀ ys,round cx0 a3W (ctL (a4R N)) (ltL []) f67.ntmps 4 0 b5b (bodyAt f67 0) A (dvG [pI,pD (.sl a0y),pI,pD (.sl tU),pD (.ar 16 tI),pD (.sl a0n),pD (.ar 16 tI),pI,pI,pD (.ar 16 tI)] ys) = apG [pI,pD (.sl a0y),pI,pD (.sl tU),pD (.ar 16 tI),pD (.sl a0n),pD (.ar 16 tI),pI,pI,pD (.ar 16 tI)] (b7g N (cK [pI,pD (.sl a0y),pI,pD (.sl tU),pD (.ar 16 tI),pD (.sl a0n),pD (.ar 16 tI),pI,pI,pD (.ar 16 tI)] A)) ys:=fun ys=>by kernel_rfl
end
end Go.Proofs.Zz

/- The outer loop of a function that appends to slices within a slice's elements. -/
set_option maxRecDepth 100000
namespace Go.Proofs.Zz
noncomputable section
open Go Go.Proofs.Tryz
abbrev XW:List PG:=[pD (.sl a0y),pI,pD (.sl tU),pD (.ar 16 tI),pD (.sl a0n),pD (.ar 16 tI)]
abbrev SW:List PG:=[pD (.ar 16 tI)]
abbrev UW:List PG:=[pI,pD (.sl a0y),pI,pD (.sl tU),pD (.ar 16 tI),pD (.sl a0n),pD (.ar 16 tI),pI,pI,pD (.ar 16 tI),pI,pI,pI,pI,pD (.sl a0i),pD (.sl a0i)]
def f0Q (N:Nat):(List DV→Option Rs)→List DV→Option Rs:=round cx0 a3W (ctL (a4R N)) (ltL [b2p N]) f67.ntmps 5 0 b4Q (bodyAt f67 0)
def f1F (N:Nat):(List DV→Option Rs)→List DV→Option Rs:=round cx0 a3W (ctL (a4R N)) (ltL []) f67.ntmps 4 0 b5b (bodyAt f67 0)
def stW (n i i1 n1 i2:Int) (r:List DV × List DV × Den (B4 (.sl a0i))):Option (List DV × List DV × Den (B4 (.sl a0i))) :=
 if 0≤i∧i < n∧i1 = i∧n1 = n∧i2 = i∧IntKind.i64.wrap (i+1) = i+1 then some r else none
def st_W (N:Nat) (n i:Int) (X S:List DV) (v:Den (B4 .nl)):Option (List DV × List DV × Den (B4 (.sl a0i))) :=
 gg XW (fun (x0:List a0o) (x1:Int) (x2:List Int) (x3:List Int) (x4:List a0x) (x5:List Int)=>gg SW (fun (so:List Int) =>
  onA 3 (a4q N N i v.1 x0 x1 x2 x3 x4 x5 n i so v.1 v.2.1 v.2.2.1 v.2.2.2.1 [] []) (gg UW (fun (i1:Int) (y0:List a0o) (y1:Int) (y2:List Int) (y3:List Int) (y4:List a0x) (y5:List Int) (n1:Int) (i2:Int) (so1:List Int) (f:Int) (t:Int) (nx:Int) (tk:Int) (A:List a0h) (E:List a0h) =>
   stW n i i1 n1 i2 (dvG XW (y0,y1,y2,y3,y4,y5,()),dvG SW (so1,()),((f,(t,(nx,(tk,(A,(E,())))))):Den (B4 (.sl a0i))))))) S) X
theorem e7u (N:Nat) (n i:Int) (X S:List DV) (v:Den (B4 .nl)) (X' S':List DV) (v':Den (B4 (.sl a0i))) (h:st_W N n i X S v = some (X',S',v')) :
  X'.length = 6∧S'.length = 1∧f0Q N (fun p=>some (7,p)) (⟨.int .i64,i⟩::(X++((⟨.int .i64,n⟩::⟨.int .i64,i⟩::S)++po4 a0i v))) =
   some (7,⟨.int .i64,i+1⟩::(X'++((⟨.int .i64,n⟩::⟨.int .i64,i⟩::S')++pc4 a0i v'))):=by
 unfold st_W at h;obtain ⟨ys,rfl,h1⟩:=d0g h;have h1b:gg SW (fun (so:List Int)=>onA 3 (a4q N N i v.1 ys.1 ys.2.1 ys.2.2.1 ys.2.2.2.1 ys.2.2.2.2.1 ys.2.2.2.2.2.1 n i so v.1 v.2.1 v.2.2.1 v.2.2.2.1 [] []) (gg UW (fun (i1:Int) (y0:List a0o) (y1:Int) (y2:List Int) (y3:List Int) (y4:List a0x) (y5:List Int) (n1:Int) (i2:Int) (so1:List Int) (f:Int) (t:Int) (nx:Int) (tk:Int) (A:List a0h) (E:List a0h) =>
   stW n i i1 n1 i2 (dvG XW (y0,y1,y2,y3,y4,y5,()),dvG SW (so1,()),((f,(t,(nx,(tk,(A,(E,())))))):Den (B4 (.sl a0i))))))) S = some (X',S',v'):=h1
 obtain ⟨zs,rfl,h2⟩:=d0g h1b;have h3:onA 3 (a4q N N i v.1 ys.1 ys.2.1 ys.2.2.1 ys.2.2.2.1 ys.2.2.2.2.1 ys.2.2.2.2.2.1 n i zs.1 v.1 v.2.1 v.2.2.1 v.2.2.2.1 [] []) (gg UW (fun (i1:Int) (y0:List a0o) (y1:Int) (y2:List Int) (y3:List Int) (y4:List a0x) (y5:List Int) (n1:Int) (i2:Int) (so1:List Int) (f:Int) (t:Int) (nx:Int) (tk:Int) (A:List a0h) (E:List a0h) =>
   stW n i i1 n1 i2 (dvG XW (y0,y1,y2,y3,y4,y5,()),dvG SW (so1,()),((f,(t,(nx,(tk,(A,(E,())))))):Den (B4 (.sl a0i)))))) = some (X',S',v'):=h2
 unfold onA at h3;split at h3
 ·
  rename_i m p hr;split at h3
  ·
   rename_i hm;have hm:=Nat.eq_of_beq_eq_true hm;subst hm;obtain ⟨us,rfl,h4⟩:=d0g h3;have h5:stW n i us.1 us.2.2.2.2.2.2.2.1 us.2.2.2.2.2.2.2.2.1 (dvG XW (us.2.1,us.2.2.1,us.2.2.2.1,us.2.2.2.2.1,us.2.2.2.2.2.1,us.2.2.2.2.2.2.1,()),dvG SW (us.2.2.2.2.2.2.2.2.2.1,()),((us.2.2.2.2.2.2.2.2.2.2.1,us.2.2.2.2.2.2.2.2.2.2.2.1,us.2.2.2.2.2.2.2.2.2.2.2.2.1,us.2.2.2.2.2.2.2.2.2.2.2.2.2.1,us.2.2.2.2.2.2.2.2.2.2.2.2.2.2.1,us.2.2.2.2.2.2.2.2.2.2.2.2.2.2.2.1,()):Den (B4 (.sl a0i)))) = some (X',S',v'):=h4;unfold stW at h5;split at h5
   ·
    rename_i hc;obtain ⟨c0,c1,c2,c3,c4,c5⟩:=hc;simp only [Option.some.injEq,Prod.mk.injEq] at h5;obtain ⟨rfl,rfl,rfl⟩:=h5;refine ⟨rfl,rfl,?_⟩;refine (c6W N (fun p=>some (7,p)) (i,ys.1,ys.2.1,ys.2.2.1,ys.2.2.2.1,ys.2.2.2.2.1,ys.2.2.2.2.2.1,n,i,zs.1,v.1,v.2.1,v.2.2.1,v.2.2.2.1,[],[],())).trans ?_;show b7h N (cK _ fun p=>some (7,p)) i ys.1 ys.2.1 ys.2.2.1 ys.2.2.2.1 ys.2.2.2.2.1 ys.2.2.2.2.2.1 n i zs.1 v.1 v.2.1 v.2.2.1 v.2.2.2.1 [] [] = _;unfold b7h;rw [show decide (i < n) = true by simpa using c1,show decide (i = i∧0≤i∧i < n) = true by simp [c0,c1]];simp only [g7n];rw [hr,g7u];refine (c5e UW _ us).trans ?_;show (some (7,gI.dv (IntKind.i64.wrap (HAdd.hAdd (α:=Int) (β:=Int) (γ:=Int) us.1 1)) ((gD (.sl a0y)).dv us.2.1 (gI.dv us.2.2.1 ((gD (.sl tU)).dv us.2.2.2.1 ((gD (.ar 16 tI)).dv us.2.2.2.2.1 ((gD (.sl a0n)).dv us.2.2.2.2.2.1 ((gD (.ar 16 tI)).dv us.2.2.2.2.2.2.1 (gI.dv us.2.2.2.2.2.2.2.1 (gI.dv us.2.2.2.2.2.2.2.2.1 ((gD (.ar 16 tI)).dv us.2.2.2.2.2.2.2.2.2.1 (gI.dv us.2.2.2.2.2.2.2.2.2.2.1 (gI.dv us.2.2.2.2.2.2.2.2.2.2.2.1 (gI.dv us.2.2.2.2.2.2.2.2.2.2.2.2.1 (gI.dv us.2.2.2.2.2.2.2.2.2.2.2.2.2.1 ((gD (.sl a0i)).dv us.2.2.2.2.2.2.2.2.2.2.2.2.2.2.1 ((gD (.sl a0i)).dv us.2.2.2.2.2.2.2.2.2.2.2.2.2.2.2.1 [])))))))))))))))):Option Rs) = _;rw [c2,c3,c4,c5];rfl
   · simp at h5
  · simp at h3
 · simp at h3
theorem e6N (N:Nat) (n:Int) (X S:List DV) (β:Nat→EI) (F:Nat→Prop) (w:World) (hX:RepBs β F w (a4C.h.bx.take 3) 0 X []) (hS:∃ c,RepKs β F w [.d (.ar 16 (.int .i64))] S [] c) :
  f1F N (fun _=>none) (⟨.int .i64,n⟩::(X++(⟨.int .i64,n⟩::⟨.int .i64,n⟩::S))) = some (1,X++(⟨.int .i64,n⟩::⟨.int .i64,n⟩::S)):=by
 obtain ⟨p1,p2,e1,e2,c1,t1,rfl,_,_,k1,_,_,g1⟩:=RepBs.inv hX;obtain ⟨p3,p4,e3,e4,c3,t3,rfl,_,_,k2,_,_,g2⟩:=g1.inv;obtain ⟨p5,p6,e5,e6,c5,t5,rfl,_,_,k3,_,_,g3⟩:=g2.inv;obtain ⟨rfl,_⟩:=g3.inv;obtain ⟨c,hS⟩:=hS;obtain ⟨a1,rfl⟩:=c8z (ts:=[.sl a0y,tI,.sl tU]) k1;obtain ⟨a2,rfl⟩:=c8z (ts:=[.ar 16 tI]) k2;obtain ⟨a3,rfl⟩:=c8z (ts:=[.sl a0n,.ar 16 tI]) k3;obtain ⟨a4,rfl⟩:=c8z (ts:=[.ar 16 tI]) hS;refine (c8t N (fun _=>none) (n,a1.1,a1.2.1,a1.2.2.1,a2.1,a3.1,a3.2.1,n,n,a4.1,())).trans ?_;show b7g N (cK _ fun _=>none) n a1.1 a1.2.1 a1.2.2.1 a2.1 a3.1 a3.2.1 n n a4.1 = _;unfold b7g;rw [show decide (n < n) = false by simp];rfl
def ol_W (N:Nat):OL Q cx0 a3W (a4R N) [b2p N] f67 0 (bodyAt f67 0) where
 bs:=a4C.h.bx.take 3
 av:=a4C.h.av
 ap:=fun _ i=>[⟨.int .i64,i⟩]
 ax:=(sgOf a4C 1).av
 sk:=[.d (.ar 16 (.int .i64))]
 ks:=ks4 a0i
 T0:=B4 .nl
 T1:=B4 (.sl a0i)
 sz:=6
 LR:=b4Q
 LX:=b5b
 L0:=a4C
 po:=po4 a0i
 pc:=pc4 a0i
 step:=st_W N
 okA:=by kernel_rfl
 okX:=by kernel_rfl
 okB:=by kernel_rfl
 okS:=by kernel_rfl
 nA:=fun _ _=>rfl
 nX:=by kernel_rfl
 hR:=by kernel_rfl
 hX:=by kernel_rfl
 xR:=by kernel_rfl
 xX:=by kernel_rfl
 h0:=by kernel_rfl
 x0:=by kernel_rfl
 z0:=by kernel_rfl
 z1:=by kernel_rfl
 zp:=by decide
 zo:=fun _=>rfl
 open_:=open4 a0i
 close:=close4 a0i
 round:=fun n i X S v X' S' v' h _ _=>e7u N n i X S v X' S' v' h
 exit:=e6N N
abbrev LW:List PG:=[pI,pD (.sl a0y),pI,pD (.sl tU),pD (.ar 16 tI),pD (.sl a0n),pD (.ar 16 tI),pD (.sl (B4 .nl)),pD (.ar 16 tI)]
abbrev LX:List PG:=[pD (.sl a0y),pI,pD (.sl tU),pD (.ar 16 tI),pD (.sl a0n),pD (.ar 16 tI),pD (.sl a0n),pD (.ar 16 tI)]
def a6e (N:Nat) (_:Nat) (i:Int) (x0:List a0o) (x1:Int) (x2:List Int) (x3:List Int) (x4:List a0x) (x5:List Int) (xs:List (Den (B4 .nl))) (so:List Int):Option Rs :=
 if i = 0 then match (ol_W N).walk (xs.length:Int) xs 0 (dvG XW (x0,x1,x2,x3,x4,x5,())) (dvG SW (so,())) with
  | some (X2,S2,zs)=>some (1,X2++(⟨.sl (B4 (.sl a0i)),zs⟩::S2))
  | none=>none
 else none
def c3X (N:Nat):LE:=(0,mkM LW [(1,LX)] (a6e N N))
theorem d4V (N:Nat):LEok Q a3W (bodOf f67) f67.ntmps b7K.i.bx.length (c3X N) :=
 e6E (ls:=a4C) (body:=bodyAt f67 0) (by kernel_rfl) (by kernel_rfl) fun ys q h=>by
 have h1:a6e N N ys.1 ys.2.1 ys.2.2.1 ys.2.2.2.1 ys.2.2.2.2.1 ys.2.2.2.2.2.1 ys.2.2.2.2.2.2.1 ys.2.2.2.2.2.2.2.1 ys.2.2.2.2.2.2.2.2.1 = some q:=h;unfold a6e at h1;split at h1
 ·
  rename_i hi;split at h1
  ·
   rename_i X2 S2 zs hw;simp only [Option.some.injEq] at h1;subst h1;have:=OL.loop (ol_W N) a0r hmix (c0h N) (c3K N) f_67 (by kernel_rfl) ⟨d6F N,trivial⟩ (by kernel_rfl) hw;rw [← hi] at this;exact this
  · simp at h1
 · simp at h1
end
end Go.Proofs.Zz
