import Derived.Test.YtnfpdmhdpeffjaaGreatK1
import Derived.Test.YtnfpdmhdpeffjaaGreatEnhK
set_option linter.unusedSimpArgs false
set_option linter.unusedVariables false
set_option maxRecDepth 100000
namespace Go.Proofs.Zz
noncomputable section
open Go Go.Proofs.Tryz
variable (N:Nat)
def b3Q:CS:=⟨45,206,⟨[.agg [.d (.ar 16 tI)],.one (.d tI)],[]⟩,[.one (.d tI)],true,[]⟩
def b0u (N:Nat) (x0:List Int) (x1:Int):OR:=bi (decide (x1<1)) (some (0,gI.dv 0 []))<|bi (decide (x1>15)) (some (0,gI.dv 0 []))<|gd (idx x1 16)<|some (0,gI.dv (x0.getD x1.toNat 0) [])
def b4j:CE:=(b3Q,mkF [pD (.ar 16 tI),pI] [pI] (b0u N))
theorem b9X:CEok Q (b4j N):=fn_K aq f206 ⟨[],[],[7,10],[],[]⟩ bA
def d1J:CS:=⟨46,202,⟨[.agg [.d tI,.d tI,.d tI,.d tI,.d tI],.agg [.d (.ar 16 tI)]],[]⟩,[.one (.d tI)],true,[]⟩
def b4r (x0:af) (x1:List Int):OR:=on1 (ig N x0.1)<|gg [pI]<|λ(x2:Int)=>bi (decide (x2<1)) (some (0,gI.dv 0 []))<|bi (decide (x2>3)) (some (0,gI.dv 0 []))<|on1 (gH N x0)<|gg [pD (.sl tI)]<|λ(x3:List Int)=>on1 (b0u N x1 x0.2.1)<|gg [pI]<|λ(x4:Int)=>bi (x4==1) (some (0,gI.dv 1 []))<|bi (x0.2.1==0) (on1 (j8 N x1 x3)<|gg [pB]<|λ(x5:Bool)=>bi (!x5) (some (0,gI.dv 1 []))<|some (0,gI.dv 2 []))<|some (0,gI.dv 2 [])
def d1v:CE:=(d1J,mkF [dX,pD (.ar 16 tI)] [pI] (b4r N))
theorem e1i:CEok Q (d1v N):=fn_K aq f202 ⟨[((1,2),jd),((4,1),a6l),((5,3),b3Q),((5,12),b8u)],[],[12,15,23,27,33],[],[]⟩ (bh (jG N) (bP (b0d N) (b9X N) (c2X N)))
def jJ:CS:=⟨47,203,⟨[.one (.p 0 0 [1,1,1]),.one (.d tI),.agg [.d tI,.d tI,.d tI,.d tI,.d tI]],[[.d tI,.d tI,.o az]]⟩,[],false,[[.d tI,.d tI,.o az]]⟩
def eV (N:Nat) (x0:Int) (x1:af) (x2:aU):OR:=gd (rm x2.L [(x0,(x1,(0,(x2.Pc,(x2.D9,())))))] 72)<|some (0,fP.dv ({x2 with L:=(x2.L++[(x0,(x1,(0,(x2.Pc,(x2.D9,())))))])}:aU) [])
def b6F:CE:=(jJ,mkF [pI,dX,bR] [bR] (eV N))
theorem c7D:CEok Q (b6F N):=fn_K aq f203 ⟨[],[],[],[],[]⟩ bA
def b3g:CS:=⟨48,205,⟨[.agg [.d tI,.d tI,.d tI,.d tI,.d tI],.agg [.d (.ar 16 tI)]],[]⟩,[.one (.o tI)],true,[]⟩
def c3V:LS:=⟨⟨[.no,.no,.no,.one (.p 0 0 [16]),.no,.one (.o tI),.one (.o tI),.one (.d tI)]++nos 32,[[.d (.ar 16 tI)]]⟩,[(1,⟨nos 6++[.one (.o tI)]++nos 33,[]⟩)]⟩
def b7P:Hi:=⟨[((1,1),a6l),((6,5),b3Q),((6,13),b7E)],[(0,c3V)],[13,23,31],[],[]⟩
theorem c9h:AllP (CEok Q) [a8b N,b4j N,c2N N]:=bP (b0d N) (b9X N) (d0w N)
def b4a (again:Fn' OR [pD (.sl tI),pD (.sl tI),pI,pD (.ar 16 tI)]) (x0 x1:List Int) (x2:Int) (x3:List Int):OR:=bi (decide (x2<(len x0))) (gd (idx x2 x0.length)<|on1 (b0u N x3 (x0.getD x2.toNat 0))<|gg [pI]<|λ(x4:Int)=>bi (x4==1) (gd (idx x2 x0.length)<|on1 (fM N x1 (x0.getD x2.toNat 0))<|gg [pI]<|λ(x5:Int)=>bi (decide (x5<0)) (gd (idx x2 x0.length)<|gd (rm x1 [(x0.getD x2.toNat 0)] 8)<|again x0 (x1++[(x0.getD x2.toNat 0)]) (w.i64 (x2+1)) x3)<|again x0 x1 (w.i64 (x2+1)) x3)<|again x0 x1 (w.i64 (x2+1)) x3)<|some (1,(gD (.sl tI)).dv x1 [])
def b4H:Nat→Fn' OR [pD (.sl tI),pD (.sl tI),pI,pD (.ar 16 tI)]:=lpG (b4a N)
theorem d3C:LEok Q b7P (bn f205) f205.ntmps 0 (0,mkM [pD (.sl tI),pD (.sl tI),pI,pD (.ar 16 tI)] [(1,[pD (.sl tI)])] (b4H N N)):=bU aq 205 c3V (c9h N)
def iF (x0:af) (x1:List Int):OR:=on1 (gH N x0)<|gg [pD (.sl tI)]<|λ(x2:List Int)=>onA 1 (b4H N N x2 ([]:List Int) 0 x1)<|gg [pD (.sl tI)]<|λ(x3:List Int)=>some (0,(gD (.sl tI)).dv x3 [])
def d1p:CE:=(b3g,mkF [dX,pD (.ar 16 tI)] [pD (.sl tI)] (iF N))
theorem e0Q:CEok Q (d1p N):=fn_L aq f205 b7P (c9h N) (aR (d3C N))
def a4D:CS:=⟨49,207,⟨[.one (.p 0 0 [1,1,1]),.one (.d tI),.one (.d tI)],[[.d tI,.d tI,.o az]]⟩,[],false,[[.d tI,.d tI,.o az]]⟩
def jH (N:Nat) (x0 x1:Int) (x2:aU):OR:=gd (rm x2.L [(x0,(af.z,(x1,(x2.Pc,(x2.D9,())))))] 72)<|some (0,fP.dv ({x2 with L:=(x2.L++[(x0,(af.z,(x1,(x2.Pc,(x2.D9,())))))])}:aU) [])
def b0I:CE:=(a4D,mkF [pI,pI,bR] [bR] (jH N))
theorem b5Z:CEok Q (b0I N):=fn_K aq f207 ⟨[],[],[],[],[]⟩ bA
def a3K:CS:=⟨50,204,⟨[.one (.p 0 0 [1,1,1]),.one (.d tI),.one (.d (.sl tI))],[[.d tI,.d tI,.o az]]⟩,[],false,[[.d tI,.d tI,.o az]]⟩
def b1u:LS:=⟨⟨[.one (.p 0 0 [1,1,1]),.one (.d tI),.one (.d (.sl tI)),.no,.no,.no,.one (.d tI)]++nos 13,[[.d tI,.d tI,.o az]]⟩,[(1,⟨nos 20,[[.d tI,.d tI,.o az]]⟩)]⟩
def a5S:Hi:=⟨[((3,6),a4D)],[(0,b1u)],[10],[],[]⟩
theorem b2X:AllP (CEok Q) [b0I N]:=aR (b5Z N)
def a4S (again:Fn' OR [pI,pD (.sl tI),pI,bR]) (x0:Int) (x1:List Int) (x2:Int) (x3:aU):OR:=bi (decide (x2<(len x1))) (gd (idx x2 x1.length)<|on1 (jH N x0 (x1.getD x2.toNat 0) x3)<|gg [bR]<|λ(x4:aU)=>again x0 x1 (w.i64 (x2+1)) x4)<|some (1,fP.dv x3 [])
def a5f:Nat→Fn' OR [pI,pD (.sl tI),pI,bR]:=lpG (a4S N)
theorem c1z:LEok Q a5S (bn f204) f204.ntmps 1 (0,mkM [pI,pD (.sl tI),pI,bR] [(1,[bR])] (a5f N N)):=bU aq 204 b1u (b2X N)
def iJ (x0:Int) (x1:List Int) (x2:aU):OR:=onA 1 (a5f N N x0 x1 0 x2)<|gg [bR]<|λ(x3:aU)=>some (0,fP.dv x3 [])
def b5p:CE:=(a3K,mkF [pI,pD (.sl tI),bR] [bR] (iJ N))
theorem c6g:CEok Q (b5p N):=fn_L aq f204 a5S (b2X N) (aR (c1z N))
def a1J:CS:=⟨51,208,⟨[.one (.p 0 0 [1,1,1]),.one (.d tI)],[[.d tI,.d tI,.o az]]⟩,[],false,[[.d tI,.d tI,.o az]]⟩
def jf (N:Nat) (x0:Int) (x1:aU):OR:=gd (rm x1.L [(x0,(af.z,(0,(x1.Pc,(x1.D9,())))))] 72)<|some (0,fP.dv ({x1 with L:=(x1.L++[(x0,(af.z,(0,(x1.Pc,(x1.D9,())))))])}:aU) [])
def b2O:CE:=(a1J,mkF [pI,bR] [bR] (jf N))
theorem c3R:CEok Q (b2O N):=fn_K aq f208 ⟨[],[],[],[],[]⟩ bA
def d1F:CS:=⟨52,128,⟨[.agg [.d tI,.d tI,.d tI,.d tI,.d tI],.agg [.d (.ar 16 tI)],.one (.d tI),.one (.d tI)],[]⟩,[.one (.o az),.one (.o az)],false,[]⟩
def c6D (x0:af) (x1:List Int) (x2 x3:Int):OR:=on1 (a4s N x0)<|gg [pB]<|λ(x4:Bool)=>bi (!x4) (some (0,(gD (.sl az)).dv ([]:List ak) ((gD (.sl az)).dv ([]:List ak) [])))<|on1 (ig N x0.1)<|gg [pI]<|λ(x5:Int)=>bi (x5==1) (on1 (b4r N x0 x1)<|gg [pI]<|λ(x6:Int)=>bi (x6==1) (on1 (eV N 1 x0 (aU.mk x2 x3 ([]:List ak)))<|gg [bR]<|λ(x7:aU)=>some (0,(gD (.sl az)).dv x7.L ((gD (.sl az)).dv ([]:List ak) [])))<|on1 (iF N x0 x1)<|gg [pD (.sl tI)]<|λ(x8:List Int)=>on1 (iJ N 5 x8 (aU.mk x2 x3 ([]:List ak)))<|gg [bR]<|λ(x9:aU)=>on1 (iF N x0 x1)<|gg [pD (.sl tI)]<|λ(x10:List Int)=>on1 (iJ N 6 x10 (aU.mk x2 x3 ([]:List ak)))<|gg [bR]<|λ(x11:aU)=>on1 (eV N 1 x0 x11)<|gg [bR]<|λ(x12:aU)=>some (0,(gD (.sl az)).dv x9.L ((gD (.sl az)).dv x12.L [])))<|bi (x5==2) (on1 (b4r N x0 x1)<|gg [pI]<|λ(x13:Int)=>bi (x13==1) (on1 (eV N 1 x0 (aU.mk x2 x3 ([]:List ak)))<|gg [bR]<|λ(x14:aU)=>some (0,(gD (.sl az)).dv x14.L ((gD (.sl az)).dv ([]:List ak) [])))<|on1 (iF N x0 x1)<|gg [pD (.sl tI)]<|λ(x15:List Int)=>on1 (iJ N 5 x15 (aU.mk x2 x3 ([]:List ak)))<|gg [bR]<|λ(x16:aU)=>on1 (iF N x0 x1)<|gg [pD (.sl tI)]<|λ(x17:List Int)=>on1 (iJ N 6 x17 (aU.mk x2 x3 ([]:List ak)))<|gg [bR]<|λ(x18:aU)=>on1 (eV N 1 x0 x18)<|gg [bR]<|λ(x19:aU)=>some (0,(gD (.sl az)).dv x16.L ((gD (.sl az)).dv x19.L [])))<|bi (x5==3) (on1 (b4r N x0 x1)<|gg [pI]<|λ(x20:Int)=>bi (x20==1) (on1 (eV N 1 x0 (aU.mk x2 x3 ([]:List ak)))<|gg [bR]<|λ(x21:aU)=>some (0,(gD (.sl az)).dv x21.L ((gD (.sl az)).dv ([]:List ak) [])))<|on1 (iF N x0 x1)<|gg [pD (.sl tI)]<|λ(x22:List Int)=>on1 (iJ N 5 x22 (aU.mk x2 x3 ([]:List ak)))<|gg [bR]<|λ(x23:aU)=>on1 (iF N x0 x1)<|gg [pD (.sl tI)]<|λ(x24:List Int)=>on1 (iJ N 6 x24 (aU.mk x2 x3 ([]:List ak)))<|gg [bR]<|λ(x25:aU)=>on1 (eV N 1 x0 x25)<|gg [bR]<|λ(x26:aU)=>some (0,(gD (.sl az)).dv x23.L ((gD (.sl az)).dv x26.L [])))<|bi (x5==4) (on1 (b7k N x1 x0.2.1)<|gg [pB]<|λ(x27:Bool)=>bi x27 (on1 (eV N 3 x0 (aU.mk x2 x3 ([]:List ak)))<|gg [bR]<|λ(x28:aU)=>on1 (eV N 7 x0 (aU.mk x2 x3 ([]:List ak)))<|gg [bR]<|λ(x29:aU)=>some (0,(gD (.sl az)).dv x28.L ((gD (.sl az)).dv x29.L [])))<|on1 (eV N 2 x0 (aU.mk x2 x3 ([]:List ak)))<|gg [bR]<|λ(x30:aU)=>some (0,(gD (.sl az)).dv x30.L ((gD (.sl az)).dv ([]:List ak) [])))<|bi (x5==5) (on1 (b0u N x1 x0.2.2.2.1)<|gg [pI]<|λ(x31:Int)=>bi (x31==1) (on1 (jH N 5 x0.2.2.2.1 (aU.mk x2 x3 ([]:List ak)))<|gg [bR]<|λ(x32:aU)=>on1 (jH N 6 x0.2.2.2.1 (aU.mk x2 x3 ([]:List ak)))<|gg [bR]<|λ(x33:aU)=>on1 (eV N 4 x0 x32)<|gg [bR]<|λ(x34:aU)=>on1 (jH N 8 x0.2.2.2.1 x33)<|gg [bR]<|λ(x35:aU)=>some (0,(gD (.sl az)).dv x34.L ((gD (.sl az)).dv x35.L [])))<|on1 (eV N 4 x0 (aU.mk x2 x3 ([]:List ak)))<|gg [bR]<|λ(x36:aU)=>on1 (jH N 8 x0.2.2.2.1 (aU.mk x2 x3 ([]:List ak)))<|gg [bR]<|λ(x37:aU)=>some (0,(gD (.sl az)).dv x36.L ((gD (.sl az)).dv x37.L [])))<|bi (x5==6) (on1 (gH N x0)<|gg [pD (.sl tI)]<|λ(x38:List Int)=>on1 (j8 N x1 x38)<|gg [pB]<|λ(x39:Bool)=>bi (!x39) (on1 (eV N 9 x0 (aU.mk x2 x3 ([]:List ak)))<|gg [bR]<|λ(x40:aU)=>on1 (jf N 10 (aU.mk x2 x3 ([]:List ak)))<|gg [bR]<|λ(x41:aU)=>some (0,(gD (.sl az)).dv x40.L ((gD (.sl az)).dv x41.L [])))<|on1 (iF N x0 x1)<|gg [pD (.sl tI)]<|λ(x42:List Int)=>on1 (iJ N 5 x42 (aU.mk x2 x3 ([]:List ak)))<|gg [bR]<|λ(x43:aU)=>on1 (jf N 10 x43)<|gg [bR]<|λ(x44:aU)=>on1 (iF N x0 x1)<|gg [pD (.sl tI)]<|λ(x45:List Int)=>on1 (iJ N 6 x45 (aU.mk x2 x3 ([]:List ak)))<|gg [bR]<|λ(x46:aU)=>on1 (eV N 9 x0 x46)<|gg [bR]<|λ(x47:aU)=>some (0,(gD (.sl az)).dv x44.L ((gD (.sl az)).dv x47.L [])))<|bi (x5==7) (on1 (jf N 11 (aU.mk x2 x3 ([]:List ak)))<|gg [bR]<|λ(x48:aU)=>on1 (jf N 11 (aU.mk x2 x3 ([]:List ak)))<|gg [bR]<|λ(x49:aU)=>some (0,(gD (.sl az)).dv x48.L ((gD (.sl az)).dv x49.L [])))<|bi (x5==8) (on1 (jf N 12 (aU.mk x2 x3 ([]:List ak)))<|gg [bR]<|λ(x50:aU)=>on1 (jf N 12 (aU.mk x2 x3 ([]:List ak)))<|gg [bR]<|λ(x51:aU)=>some (0,(gD (.sl az)).dv x50.L ((gD (.sl az)).dv x51.L [])))<|some (0,(gD (.sl az)).dv ([]:List ak) ((gD (.sl az)).dv ([]:List ak) []))
def d0Q:CE:=(d1F,mkF [dX,pD (.ar 16 tI),pI,pI] [pD (.sl az),pD (.sl az)] (c6D N))
theorem e1d:CEok Q (d0Q N):=fn_K aq f128 ⟨[((3,1),a4Y),((5,2),jd),((9,2),d1J),((10,2),jJ),((11,3),b3g),((11,4),a3K),((12,3),b3g),((12,4),a3K),((13,2),jJ),((15,3),c1B),((16,2),jJ),((17,2),jJ),((18,2),jJ),((20,3),b3Q),((21,3),a4D),((22,3),a4D),((23,2),jJ),((24,3),a4D),((26,2),a6l),((26,3),b8u),((27,2),jJ),((28,1),a1J),((29,3),b3g),((29,4),a3K),((30,1),a1J),((31,3),b3g),((31,4),a3K),((32,2),jJ),((34,1),a1J),((35,1),a1J),((37,1),a1J),((38,1),a1J)],[],[22,26,33,50,55,65,71,87,93,114,120],[],[]⟩ (bh (a6B N) (bh (jG N) (bh (e1i N) (bh (c7D N) (bh (e0Q N) (bh (c6g N) (bh (c8M N) (bh (b9X N) (bh (b5Z N) (bP (b0d N) (c2X N) (c3R N)))))))))))
def b7K:CS:=⟨53,67,⟨[.agg [.d (.sl aK),.d tI,.d (.sl tU)],.agg [.d (.ar 16 tI)]],[]⟩,[.agg [.o aN,.d (.ar 16 tI)],.one (.d tI)],false,[]⟩
def c5V:LS:=⟨⟨[.no,.no,.one (.p 0 0 [1,1,1]),.one (.p 1 0 [16]),.one (.p 2 0 [1,16]),.no,.one (.p 3 0 [1,16]),.one (.d tI),.one (.p 4 0 [1,1,1,1,1,1]),.one (.d tI)]++nos 70,[[.d (.sl aK),.d tI,.d (.sl tU)],[.d (.ar 16 tI)],[.d (.sl aN),.d (.ar 16 tI)],[.oh 4 6 [1,1,1,1,1,1],.d (.ar 16 tI)],[.d tI,.d tI,.d tI,.d tI,.o az,.o az]]⟩,[(3,⟨[.no,.no,.one (.p 0 0 [1,1,1]),.one (.p 1 0 [16]),.one (.p 2 0 [1,16]),.no,.one (.p 3 0 [1,16]),.one (.d tI)]++nos 72,[[.d (.sl aK),.d tI,.d (.sl tU)],[.d (.ar 16 tI)],[.d (.sl aN),.d (.ar 16 tI)],[.oh 4 6 [1,1,1,1,1,1],.d (.ar 16 tI)],[.d tI,.d tI,.d tI,.d tI,.o az,.o az]]⟩)]⟩
def a4C:LS:=⟨⟨[.no,.no,.one (.p 0 0 [1,1,1]),.one (.p 1 0 [16]),.one (.p 2 0 [1,16]),.no,.one (.p 3 0 [1,16]),.one (.d tI)]++nos 72,[[.d (.sl aK),.d tI,.d (.sl tU)],[.d (.ar 16 tI)],[.d (.sl aN),.d (.ar 16 tI)],q_4]⟩,[(1,⟨[.no,.no,.one (.p 0 0 [1,1,1]),.one (.p 1 0 [16]),.one (.p 2 0 [1,16]),.no,.one (.p 3 0 [1,16])]++nos 73,[[.d (.sl aK),.d tI,.d (.sl tU)],[.d (.ar 16 tI)],[.d (.sl aN),.d (.ar 16 tI)],[.o aN,.d (.ar 16 tI)]]⟩)]⟩
def ja:Hi:=⟨[((1,2),c4h),((3,1),d5Y),((11,13),d1F)],[(0,a4C),(2,c5V)],[15,25,41],[],[]⟩
theorem f_67:Fn Q 67 f67 (cr f67):=by constructor<;>kernel_rfl
def jE:List CE:=[c5u N,d5O N,d0Q N]
theorem c0h:AllP (CEok Q) (jE N):=⟨d5l N,e2G N,e1d N,trivial⟩
theorem c3K:AllP (λe=>dM (jE N) e.2.id=some e.2) ja.cs:=⟨rfl,rfl,rfl,trivial⟩
def b4U (again:Fn' OR [pI,pI,pD (.sl aK),pI,pD (.sl tU),pD (.ar 16 tI),pD (.sl aN),pD (.ar 16 tI),pI,pI,pD (.ar 16 tI),pI,pI,pI,pI,pD (.sl az),pD (.sl az)]) (x0 x1:Int) (x2:List af) (x3:Int) (x4 x5:List Int) (x6:List aW) (x7:List Int) (x8 x9:Int) (x10:List Int) (x11 x12 x13 x14:Int) (x15 x16:List ak):OR:=bi (decide (x1<x12)) (gd (idx x1 x2.length)<|on1 (c6D N (x2.getD x1.toNat af.z) x5 x1 (w.i64 (x1-x11)))<|gg [pD (.sl az),pD (.sl az)]<|λ(x17 x18:List ak)=>gd (rm x15 x17 72)<|gd (rm x16 x18 72)<|again x0 (w.i64 (x1+1)) x2 x3 x4 x5 x6 x7 x8 x9 x10 x11 x12 x13 x14 (x15++x17) (x16++x18))<|some (3,gI.dv x0 ((gD (.sl aK)).dv x2 (gI.dv x3 ((gD (.sl tU)).dv x4 ((gD (.ar 16 tI)).dv x5 ((gD (.sl aN)).dv x6 ((gD (.ar 16 tI)).dv x7 (gI.dv x8 (gI.dv x9 ((gD (.ar 16 tI)).dv x10 (gI.dv x11 (gI.dv x12 (gI.dv x13 (gI.dv x14 ((gD (.sl az)).dv x15 ((gD (.sl az)).dv x16 []))))))))))))))))
def ki:Nat→Fn' OR [pI,pI,pD (.sl aK),pI,pD (.sl tU),pD (.ar 16 tI),pD (.sl aN),pD (.ar 16 tI),pI,pI,pD (.ar 16 tI),pI,pI,pI,pI,pD (.sl az),pD (.sl az)]:=lpG (b4U N)
def b2p:LE:=(2,mkM [pI,pI,pD (.sl aK),pI,pD (.sl tU),pD (.ar 16 tI),pD (.sl aN),pD (.ar 16 tI),pI,pI,pD (.ar 16 tI),pI,pI,pI,pI,pD (.sl az),pD (.sl az)] [(3,[pI,pD (.sl aK),pI,pD (.sl tU),pD (.ar 16 tI),pD (.sl aN),pD (.ar 16 tI),pI,pI,pD (.ar 16 tI),pI,pI,pI,pI,pD (.sl az),pD (.sl az)])] (ki N N))
theorem d6F:LEok Q ja (bn f67) f67.ntmps 5 (b2p N) :=
 h8q (hi:=ja) (l:=jE N) (t:=[]) (r:=b4U N) aq hmix (c0h N) (c3K N) f_67 trivial (ls:=c5V) (body:=eW f67 2) (by kernel_rfl) (by kernel_rfl) λA ys=>by kernel_rfl
def b4Q:LS:=⟨⟨[.no,.no,.one (.p 0 0 [1,1,1]),.one (.p 1 0 [16]),.one (.p 2 0 [1,16]),.no,.one (.p 3 0 [1,16]),.one (.d tI)]++nos 72,[[.d (.sl aK),.d tI,.d (.sl tU)],[.d (.ar 16 tI)],[.d (.sl aN),.d (.ar 16 tI)],[.oh 4 6 [1,1,1,1,1,1],.d (.ar 16 tI)],[.d tI,.d tI,.d tI,.d tI,.o az,.o az]]⟩,[]⟩
def b7h (again:Fn' OR [pI,pD (.sl aK),pI,pD (.sl tU),pD (.ar 16 tI),pD (.sl aN),pD (.ar 16 tI),pI,pI,pD (.ar 16 tI),pI,pI,pI,pI,pD (.sl az),pD (.sl az)]) (x0:Int) (x1:List af) (x2:Int) (x3 x4:List Int) (x5:List aW) (x6:List Int) (x7 x8:Int) (x9:List Int) (x10 x11 x12 x13:Int) (x14 x15:List ak):OR:=gd (decide (x0<x7))<|gd (decide (x0=x8∧0≤x0∧x0<x7))<|onA 3 (ki N N x0 x10 x1 x2 x3 x4 x5 x6 x7 x8 x9 x10 x11 x12 x13 x14 x15)<|gg [pI,pD (.sl aK),pI,pD (.sl tU),pD (.ar 16 tI),pD (.sl aN),pD (.ar 16 tI),pI,pI,pD (.ar 16 tI),pI,pI,pI,pI,pD (.sl az),pD (.sl az)]<|λ(x16:Int) (x17:List af) (x18:Int) (x19 x20:List Int) (x21:List aW) (x22:List Int) (x23 x24:Int) (x25:List Int) (x26 x27 x28 x29:Int) (x30 x31:List ak)=>again (w.i64 (x16+1)) x17 x18 x19 x20 x21 x22 x23 x24 x25 x26 x27 x28 x29 x30 x31
theorem c6W (A:List DV→OR):∀ys,round cx0 ja (ctL (jE N)) (ltL [b2p N]) f67.ntmps 5 0 b4Q (eW f67 0) A (dvG [pI,pD (.sl aK),pI,pD (.sl tU),pD (.ar 16 tI),pD (.sl aN),pD (.ar 16 tI),pI,pI,pD (.ar 16 tI),pI,pI,pI,pI,pD (.sl az),pD (.sl az)] ys)=apG [pI,pD (.sl aK),pI,pD (.sl tU),pD (.ar 16 tI),pD (.sl aN),pD (.ar 16 tI),pI,pI,pD (.ar 16 tI),pI,pI,pI,pI,pD (.sl az),pD (.sl az)] (b7h N (cK [pI,pD (.sl aK),pI,pD (.sl tU),pD (.ar 16 tI),pD (.sl aN),pD (.ar 16 tI),pI,pI,pD (.ar 16 tI),pI,pI,pI,pI,pD (.sl az),pD (.sl az)] A)) ys:=λys=>by kernel_rfl
def b5b:LS:=⟨⟨[.no,.no,.one (.p 0 0 [1,1,1]),.one (.p 1 0 [16]),.one (.p 2 0 [1,16]),.no,.one (.p 3 0 [1,16]),.one (.d tI)]++nos 72,[[.d (.sl aK),.d tI,.d (.sl tU)],[.d (.ar 16 tI)],[.d (.sl aN),.d (.ar 16 tI)],[.oh 3 6 [1,1,1,1,1,1],.d (.ar 16 tI)]]⟩,[(1,⟨[.no,.no,.one (.p 0 0 [1,1,1]),.one (.p 1 0 [16]),.one (.p 2 0 [1,16]),.no,.one (.p 3 0 [1,16])]++nos 73,[[.d (.sl aK),.d tI,.d (.sl tU)],[.d (.ar 16 tI)],[.d (.sl aN),.d (.ar 16 tI)],[.oh 3 6 [1,1,1,1,1,1],.d (.ar 16 tI)]]⟩)]⟩
def b7g (N:Nat) (again:Fn' OR [pI,pD (.sl aK),pI,pD (.sl tU),pD (.ar 16 tI),pD (.sl aN),pD (.ar 16 tI),pI,pI,pD (.ar 16 tI)]) (x0:Int) (x1:List af) (x2:Int) (x3 x4:List Int) (x5:List aW) (x6:List Int) (x7 x8:Int) (x9:List Int):OR:=bi (decide (x0<x7)) (gd (decide (x0=x8∧0≤x0∧x0<x7))<|none)<|some (1,(gD (.sl aK)).dv x1 (gI.dv x2 ((gD (.sl tU)).dv x3 ((gD (.ar 16 tI)).dv x4 ((gD (.sl aN)).dv x5 ((gD (.ar 16 tI)).dv x6 (gI.dv x7 (gI.dv x8 ((gD (.ar 16 tI)).dv x9 [])))))))))
theorem c8t (A:List DV→OR):∀ys,round cx0 ja (ctL (jE N)) (ltL []) f67.ntmps 4 0 b5b (eW f67 0) A (dvG [pI,pD (.sl aK),pI,pD (.sl tU),pD (.ar 16 tI),pD (.sl aN),pD (.ar 16 tI),pI,pI,pD (.ar 16 tI)] ys)=apG [pI,pD (.sl aK),pI,pD (.sl tU),pD (.ar 16 tI),pD (.sl aN),pD (.ar 16 tI),pI,pI,pD (.ar 16 tI)] (b7g N (cK [pI,pD (.sl aK),pI,pD (.sl tU),pD (.ar 16 tI),pD (.sl aN),pD (.ar 16 tI),pI,pI,pD (.ar 16 tI)] A)) ys:=λys=>by kernel_rfl
abbrev XW:List PG:=[pD (.sl aK),pI,pD (.sl tU),pD (.ar 16 tI),pD (.sl aN),pD (.ar 16 tI)]
abbrev SW:List PG:=[pD (.ar 16 tI)]
abbrev UW:List PG:=[pI,pD (.sl aK),pI,pD (.sl tU),pD (.ar 16 tI),pD (.sl aN),pD (.ar 16 tI),pI,pI,pD (.ar 16 tI),pI,pI,pI,pI,pD (.sl az),pD (.sl az)]
def f0Q (N:Nat):(List DV→Option Rs)→List DV→Option Rs:=round cx0 ja (ctL (jE N)) (ltL [b2p N]) f67.ntmps 5 0 b4Q (eW f67 0)
def f1F (N:Nat):(List DV→Option Rs)→List DV→Option Rs:=round cx0 ja (ctL (jE N)) (ltL []) f67.ntmps 4 0 b5b (eW f67 0)
def stW (n i i1 n1 i2:Int) (r:List DV × List DV × Den (B4 (.sl az))):Option (List DV × List DV × Den (B4 (.sl az))) :=
 if 0≤i∧i<n∧i1=i∧n1=n∧i2=i∧IntKind.i64.wrap (i+1)=i+1 then some r else none
def st_W (N:Nat) (n i:Int) (X S:List DV) (v:Den (B4 .nl)):Option (List DV × List DV × Den (B4 (.sl az))) :=
 gg XW (λ(x0:List af) (x1:Int) (x2:List Int) (x3:List Int) (x4:List aW) (x5:List Int)=>gg SW (λ(so:List Int) =>
  onA 3 (ki N N i v.1 x0 x1 x2 x3 x4 x5 n i so v.1 v.2.1 v.2.2.1 v.2.2.2.1 [] []) (gg UW (λ(i1:Int) (y0:List af) (y1:Int) (y2:List Int) (y3:List Int) (y4:List aW) (y5:List Int) (n1:Int) (i2:Int) (so1:List Int) (f:Int) (t:Int) (nx:Int) (tk:Int) (A:List ak) (E:List ak) =>
   stW n i i1 n1 i2 (dvG XW (y0,y1,y2,y3,y4,y5,()),dvG SW (so1,()),((f,(t,(nx,(tk,(A,(E,())))))):Den (B4 (.sl az))))))) S) X
theorem e7u (N:Nat) (n i:Int) (X S:List DV) (v:Den (B4 .nl)) (X' S':List DV) (v':Den (B4 (.sl az))) (h:st_W N n i X S v=some (X',S',v')) :
  X'.length=6∧S'.length=1∧f0Q N (λp=>some (7,p)) (⟨.int .i64,i⟩::(X++((⟨.int .i64,n⟩::⟨.int .i64,i⟩::S)++po4 az v))) =
   some (7,⟨.int .i64,i+1⟩::(X'++((⟨.int .i64,n⟩::⟨.int .i64,i⟩::S')++pc4 az v'))):=by
 unfold st_W at h;obtain⟨ys,rfl,h1⟩:=jw h;have h1b:gg SW (λ(so:List Int)=>onA 3 (ki N N i v.1 ys.1 ys.2.1 ys.2.2.1 ys.2.2.2.1 ys.2.2.2.2.1 ys.2.2.2.2.2.1 n i so v.1 v.2.1 v.2.2.1 v.2.2.2.1 [] []) (gg UW (λ(i1:Int) (y0:List af) (y1:Int) (y2:List Int) (y3:List Int) (y4:List aW) (y5:List Int) (n1:Int) (i2:Int) (so1:List Int) (f:Int) (t:Int) (nx:Int) (tk:Int) (A:List ak) (E:List ak) =>
   stW n i i1 n1 i2 (dvG XW (y0,y1,y2,y3,y4,y5,()),dvG SW (so1,()),((f,(t,(nx,(tk,(A,(E,())))))):Den (B4 (.sl az))))))) S=some (X',S',v'):=h1
 obtain⟨zs,rfl,h2⟩:=jw h1b;have h3:onA 3 (ki N N i v.1 ys.1 ys.2.1 ys.2.2.1 ys.2.2.2.1 ys.2.2.2.2.1 ys.2.2.2.2.2.1 n i zs.1 v.1 v.2.1 v.2.2.1 v.2.2.2.1 [] []) (gg UW (λ(i1:Int) (y0:List af) (y1:Int) (y2:List Int) (y3:List Int) (y4:List aW) (y5:List Int) (n1:Int) (i2:Int) (so1:List Int) (f:Int) (t:Int) (nx:Int) (tk:Int) (A:List ak) (E:List ak) =>
   stW n i i1 n1 i2 (dvG XW (y0,y1,y2,y3,y4,y5,()),dvG SW (so1,()),((f,(t,(nx,(tk,(A,(E,())))))):Den (B4 (.sl az))))))=some (X',S',v'):=h2
 unfold onA at h3;split at h3
 ·
  rename_i m p hr;split at h3
  ·
   rename_i hm;have hm:=mH hm;subst hm;obtain⟨us,rfl,h4⟩:=jw h3;have h5:stW n i us.1 us.2.2.2.2.2.2.2.1 us.2.2.2.2.2.2.2.2.1 (dvG XW (us.2.1,us.2.2.1,us.2.2.2.1,us.2.2.2.2.1,us.2.2.2.2.2.1,us.2.2.2.2.2.2.1,()),dvG SW (us.2.2.2.2.2.2.2.2.2.1,()),((us.2.2.2.2.2.2.2.2.2.2.1,us.2.2.2.2.2.2.2.2.2.2.2.1,us.2.2.2.2.2.2.2.2.2.2.2.2.1,us.2.2.2.2.2.2.2.2.2.2.2.2.2.1,us.2.2.2.2.2.2.2.2.2.2.2.2.2.2.1,us.2.2.2.2.2.2.2.2.2.2.2.2.2.2.2.1,()):Den (B4 (.sl az))))=some (X',S',v'):=h4;unfold stW at h5;split at h5
   ·
    rename_i hc;obtain⟨c0,c1,c2,c3,c4,c5⟩:=hc;simp only[mB,mb]at h5;obtain⟨rfl,rfl,rfl⟩:=h5;refine⟨rfl,rfl,?_⟩;refine (c6W N (λp=>some (7,p)) (i,ys.1,ys.2.1,ys.2.2.1,ys.2.2.2.1,ys.2.2.2.2.1,ys.2.2.2.2.2.1,n,i,zs.1,v.1,v.2.1,v.2.2.1,v.2.2.2.1,[],[],())).trans ?_;show b7h N (cK _ λp=>some (7,p)) i ys.1 ys.2.1 ys.2.2.1 ys.2.2.2.1 ys.2.2.2.2.1 ys.2.2.2.2.2.1 n i zs.1 v.1 v.2.1 v.2.2.1 v.2.2.2.1 [] []=_;unfold b7h;rw[show decide (i<n)=true by simpa using c1,show decide (i=i∧0≤i∧i<n)=true by simp[c0,c1]];simp only[aH];rw[hr,dG];refine (gS UW _ us).trans ?_;show (some (7,gI.dv (IntKind.i64.wrap (HAdd.hAdd (α:=Int) (β:=Int) (γ:=Int) us.1 1)) ((gD (.sl aK)).dv us.2.1 (gI.dv us.2.2.1 ((gD (.sl tU)).dv us.2.2.2.1 ((gD (.ar 16 tI)).dv us.2.2.2.2.1 ((gD (.sl aN)).dv us.2.2.2.2.2.1 ((gD (.ar 16 tI)).dv us.2.2.2.2.2.2.1 (gI.dv us.2.2.2.2.2.2.2.1 (gI.dv us.2.2.2.2.2.2.2.2.1 ((gD (.ar 16 tI)).dv us.2.2.2.2.2.2.2.2.2.1 (gI.dv us.2.2.2.2.2.2.2.2.2.2.1 (gI.dv us.2.2.2.2.2.2.2.2.2.2.2.1 (gI.dv us.2.2.2.2.2.2.2.2.2.2.2.2.1 (gI.dv us.2.2.2.2.2.2.2.2.2.2.2.2.2.1 ((gD (.sl az)).dv us.2.2.2.2.2.2.2.2.2.2.2.2.2.2.1 ((gD (.sl az)).dv us.2.2.2.2.2.2.2.2.2.2.2.2.2.2.2.1 [])))))))))))))))):Option Rs)=_;rw[c2,c3,c4,c5];rfl
   ·simp at h5
  ·simp at h3
 ·simp at h3
theorem e6N (N:Nat) (n:Int) (X S:List DV) (β:Nat→EI) (F:Nat→Prop) (w:World) (hX:RepBs β F w (a4C.h.bx.take 3) 0 X []) (hS:∃c,RepKs β F w [.d (.ar 16 (.int .i64))] S [] c) :
  f1F N (λ_=>none) (⟨.int .i64,n⟩::(X++(⟨.int .i64,n⟩::⟨.int .i64,n⟩::S)))=some (1,X++(⟨.int .i64,n⟩::⟨.int .i64,n⟩::S)):=by
 obtain⟨p1,p2,e1,e2,c1,t1,rfl,_,_,k1,_,_,g1⟩:=RepBs.inv hX;obtain⟨p3,p4,e3,e4,c3,t3,rfl,_,_,k2,_,_,g2⟩:=g1.inv;obtain⟨p5,p6,e5,e6,c5,t5,rfl,_,_,k3,_,_,g3⟩:=g2.inv;obtain⟨rfl,_⟩:=g3.inv;obtain⟨c,hS⟩:=hS;obtain⟨a1,rfl⟩:=jx (ts:=[.sl aK,tI,.sl tU]) k1;obtain⟨a2,rfl⟩:=jx (ts:=[.ar 16 tI]) k2;obtain⟨a3,rfl⟩:=jx (ts:=[.sl aN,.ar 16 tI]) k3;obtain⟨a4,rfl⟩:=jx (ts:=[.ar 16 tI]) hS;refine (c8t N (λ_=>none) (n,a1.1,a1.2.1,a1.2.2.1,a2.1,a3.1,a3.2.1,n,n,a4.1,())).trans ?_;show b7g N (cK _ λ_=>none) n a1.1 a1.2.1 a1.2.2.1 a2.1 a3.1 a3.2.1 n n a4.1=_;unfold b7g;rw[show decide (n<n)=false by simp];rfl
def ol_W (N:Nat):OL Q cx0 ja (jE N) [b2p N] f67 0 (eW f67 0) where
 bs:=a4C.h.bx.take 3
 av:=a4C.h.av
 ap:=λ_ i=>[⟨.int .i64,i⟩]
 ax:=(sgOf a4C 1).av
 sk:=[.d (.ar 16 (.int .i64))]
 ks:=ks4 az
 T0:=B4 .nl
 T1:=B4 (.sl az)
 sz:=6
 LR:=b4Q
 LX:=b5b
 L0:=a4C
 po:=po4 az
 pc:=pc4 az
 step:=st_W N
 okA:=by kernel_rfl
 okX:=by kernel_rfl
 okB:=by kernel_rfl
 okS:=by kernel_rfl
 nA:=λ_ _=>rfl
 nX:=by kernel_rfl
 hR:=by kernel_rfl
 hX:=by kernel_rfl
 xR:=by kernel_rfl
 xX:=by kernel_rfl
 h0:=by kernel_rfl
 x0:=by kernel_rfl
 z0:=by kernel_rfl
 z1:=by kernel_rfl
 zp:=by decide
 zo:=λ_=>rfl
 open_:=h8O az
 close:=h8B az
 round:=λn i X S v X' S' v' h _ _=>e7u N n i X S v X' S' v' h
 exit:=e6N N
abbrev LW:List PG:=[pI,pD (.sl aK),pI,pD (.sl tU),pD (.ar 16 tI),pD (.sl aN),pD (.ar 16 tI),pD (.sl (B4 .nl)),pD (.ar 16 tI)]
abbrev LX:List PG:=[pD (.sl aK),pI,pD (.sl tU),pD (.ar 16 tI),pD (.sl aN),pD (.ar 16 tI),pD (.sl aN),pD (.ar 16 tI)]
def a6e (N:Nat) (_:Nat) (i:Int) (x0:List af) (x1:Int) (x2:List Int) (x3:List Int) (x4:List aW) (x5:List Int) (xs:List (Den (B4 .nl))) (so:List Int):Option Rs :=
 if i=0 then match (ol_W N).walk (xs.length:Int) xs 0 (dvG XW (x0,x1,x2,x3,x4,x5,())) (dvG SW (so,())) with
  | some (X2,S2,zs)=>some (1,X2++(⟨.sl (B4 (.sl az)),zs⟩::S2))
  | none=>none
 else none
def c3X (N:Nat):LE:=(0,mkM LW [(1,LX)] (a6e N N))
theorem d4V (N:Nat):LEok Q ja (bn f67) f67.ntmps b7K.i.bx.length (c3X N) :=
 e6E (ls:=a4C) (body:=eW f67 0) (by kernel_rfl) (by kernel_rfl) λys q h=>by
 have h1:a6e N N ys.1 ys.2.1 ys.2.2.1 ys.2.2.2.1 ys.2.2.2.2.1 ys.2.2.2.2.2.1 ys.2.2.2.2.2.2.1 ys.2.2.2.2.2.2.2.1 ys.2.2.2.2.2.2.2.2.1=some q:=h;unfold a6e at h1;split at h1
 ·
  rename_i hi;split at h1
  ·
   rename_i X2 S2 zs hw;simp only[mB]at h1;subst h1;have:=OL.loop (ol_W N) aq hmix (c0h N) (c3K N) f_67 (by kernel_rfl) ⟨d6F N,trivial⟩ (by kernel_rfl) hw;rw[← hi]at this;exact this
  ·simp at h1
 ·simp at h1
end
end Go.Proofs.Zz
