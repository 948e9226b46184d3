import Derived.Test.YtnfpdmhdpeffjaaGreatK3
set_option linter.unusedSimpArgs false
set_option linter.unusedVariables false
set_option maxRecDepth 100000
namespace Go.Proofs.Zz
noncomputable section
open Go Go.Proofs.Tryz
variable (N:Nat)
def a6i:CS:=⟨95,106,⟨[.agg [.d (.sl aN),.d (.ar 16 tI)],.one (.d tB),.agg [.d tI,.d tI,.d tI]],[]⟩,[.agg q_2,.one (.d tI),.one (.d tB)],false,[]⟩
def kg (x0:ao) (x1:Bool) (x2:bc):OR:=on1 (a6v N x0 x1 x2)<|gg [dP,pB]<|λ(x3:bc) (x4:Bool)=>bi x4 (on1 (kb N x0 x3)<|gg [pI]<|λ(x5:Int)=>some (0,bS.dv (ak.z) (gI.dv x5 (gB.dv false []))))<|bi (decide (x3.B3<0)) (on1 (kb N x0 x3)<|gg [pI]<|λ(x6:Int)=>some (0,bS.dv (ak.z) (gI.dv x6 (gB.dv false []))))<|on1 (a7Z N x0 x1 x3.A7)<|gg [pD (.sl az)]<|λ(x7:List ak)=>gd (idx x3.B3 x7.length)<|some (0,bS.dv (x7.getD x3.B3.toNat ak.z) (gI.dv (w.i64 (x3.D3+(x7.getD x3.B3.toNat ak.z).2.2.2.2.1)) (gB.dv true [])))
def a8M:CE:=(a6i,mkF [bq,pB,dP] [ci,pI,pB] (kg N))
theorem b1k:CEok Q (a8M N):=fn_K aq f106 ⟨[((1,3),a8i),((3,3),b3R),((4,4),a9F)],[],[19,23],[],[]⟩ (bP (b2u N) (b9U N) (c0W N))
def a7g:CS:=⟨96,221,⟨[.one (.r Ka),.one (.d tI)],[]⟩,[.one (.d tB)],true,[]⟩
def kt (N:Nat) (x0:aa) (x1:Int):OR:=bi (x0.A9.C2 != 0) (some (0,gB.dv (decide (x1≥x0.A9.C5)) []))<|some (0,gB.dv false [])
def a6Q:CE:=(a7g,mkF [d9,pI] [pB] (kt N))
theorem b0C:CEok Q (a6Q N):=fn_K aq f221 ⟨[],[],[11],[],[]⟩ bA
def c4P:CS:=⟨97,148,⟨[.agg [.d (.sl aN),.d (.ar 16 tI)],.one (.p 0 0 Kb),.one (.p 0 9 Kf),.one (.d tB)],[q_1]⟩,[.agg q_2,.one (.d tI),.one (.d tB)],false,[q_1]⟩
def b7V (x0:ao) (x1:Bool) (x2:aa):OR:=bi x2.E.A4 (some (0,bS.dv (ak.z) (gI.dv 0 (gB.dv false (aA.dv x2 [])))))<|bi (decide (x2.E.C3>x2.A1)) (some (0,bS.dv (ak.z) (gI.dv 0 (gB.dv false (aA.dv x2 [])))))<|on1 (a6v N x0 x1 x2.E.A6)<|gg [dP,pB]<|λ(x3:bc) (x4:Bool)=>on1 (kg N x0 x1 x3)<|gg [ci,pI,pB]<|λ(x5:ak) (x6:Int) (x7:Bool)=>bi x4 (gd (idx x3.A7 x0.A3.length)<|on1 (kf N 4 x6 ((x0.A3.getD x3.A7.toNat aW.z).2.1) ({x2 with E:={x2.E with A6:=x3}}:aa))<|gg [aD]<|λ(x8:aa)=>bi x7 (on1 (kt N x8 x6)<|gg [pB]<|λ(x9:Bool)=>some (0,bS.dv x5 (gI.dv x6 (gB.dv (!x9) (aA.dv x8 [])))))<|some (0,bS.dv x5 (gI.dv x6 (gB.dv false (aA.dv x8 [])))))<|bi x7 (on1 (kt N ({x2 with E:={x2.E with A6:=x3}}:aa) x6)<|gg [pB]<|λ(x10:Bool)=>some (0,bS.dv x5 (gI.dv x6 (gB.dv (!x10) (aA.dv ({x2 with E:={x2.E with A6:=x3}}:aa) [])))))<|some (0,bS.dv x5 (gI.dv x6 (gB.dv false (aA.dv ({x2 with E:={x2.E with A6:=x3}}:aa) []))))
def c4C:CE:=(c4P,mkF [bq,pB,aD] [ci,pI,pB,aD] (b7V N))
theorem d5n:CEok Q (c4C N):=fn_K aq f148 ⟨[((3,6),a8i),((5,3),a6i),((7,9),a6j),((8,6),a7g)],[],[20,30,54,68],[],[]⟩ (bh (b2u N) (bP (b1k N) (a8P N) (b0C N)))
def ij:CS:=⟨98,153,⟨[.one (.r Ke),.one (.d tI)],[]⟩,[.one (.d tW)],true,[]⟩
def ge (N:Nat) (x0:aI) (x1:Int):OR:=bi (decide (x1<1)) (some (0,gW.dv 0 []))<|bi (decide (x1>15)) (some (0,gW.dv 0 []))<|gd (idx x1 16)<|some (0,gW.dv (x0.B1.getD x1.toNat 0) [])
def a4B:CE:=(ij,mkF [c8H,pI] [pW] (ge N))
theorem a6h:CEok Q (a4B N):=fn_K aq f153 ⟨[],[],[7,10],[],[]⟩ bA
def c2c:CS:=⟨99,262,⟨[.one (.d tI)],[]⟩,[.one (.d tW)],true,[]⟩
def c2M (N:Nat) (x0:Int):OR:=some (0,gW.dv (w.u32 x0) [])
def c9q:CE:=(c2c,mkF [pI] [pW] (c2M N))
theorem d4z:CEok Q (c9q N):=fn_K aq f262 ⟨[],[],[],[],[]⟩ bA
def c7w:CS:=⟨100,264,⟨[.one (.d tI)],[]⟩,[.one (.d tI)],true,[]⟩
def b6L (N:Nat) (x0:Int):OR:=bi (x0==17) (some (0,gI.dv 1 []))<|bi (x0==18) (some (0,gI.dv 3 []))<|bi (x0==19) (some (0,gI.dv 4 []))<|bi (x0==20) (some (0,gI.dv 5 []))<|bi (x0==21) (some (0,gI.dv 9 []))<|bi (x0==22) (some (0,gI.dv 6 []))<|bi (x0==23) (some (0,gI.dv 7 []))<|bi (x0==24) (some (0,gI.dv 8 []))<|some (0,gI.dv x0 [])
def c9c:CE:=(c7w,mkF [pI] [pI] (b6L N))
theorem d6N:CEok Q (c9c N):=fn_K aq f264 ⟨[],[],[4,6,8,10,12,14,16,18],[],[]⟩ bA
def c7g:CS:=⟨101,289,⟨[.one (.d tB)],[]⟩,[.one (.d tW)],true,[]⟩
def d3f (N:Nat) (x0:Bool):OR:=bi x0 (some (0,gW.dv 1 []))<|some (0,gW.dv 0 [])
def d4n:CE:=(c7g,mkF [pB] [pW] (d3f N))
theorem e1N:CEok Q (d4n N):=fn_K aq f289 ⟨[],[],[3],[],[]⟩ bA
def d1b:CS:=⟨102,290,⟨[.one (.d (.int .i32)),.one (.d (.int .i32))],[]⟩,[.one (.d tW)],true,[]⟩
def c6w (N:Nat) (x0 x1:Int):OR:=gf (decide ((32:Int)<(0:Int)))<|some (0,gW.dv (w.u32 (shr .i64 (w.i64 ((w.i64 x0)*(w.i64 x1))) 32)) [])
def d0Z:CE:=(d1b,mkF [pD (.int .i32),pD (.int .i32)] [pW] (c6w N))
theorem e1h:CEok Q (d0Z N):=fn_K aq f290 ⟨[],[],[],[],[]⟩ bA
def b2Q:CS:=⟨103,305,⟨[.one (.d tW),.one (.d tW),.one (.d tW)],[]⟩,[.one (.d tW),.one (.d tW)],false,[]⟩
def a4v (N:Nat) (x0 x1 x2:Int):OR:=bi (x2 != 0) (gf (decide (x2≤x0))<|gf (decide ((32:Int)<(0:Int)))<|gf (decide ((w.u64 x2)=0))<|gf (decide ((w.u64 x2)=0))<|some (0,gW.dv (w.u32 (w.u64 (Int.tdiv (fS .u64 (shl .u64 (w.u64 x0) 32) (w.u64 x1)) (w.u64 x2)))) (gW.dv (w.u32 (Int.tmod (fS .u64 (shl .u64 (w.u64 x0) 32) (w.u64 x1)) (w.u64 x2))) [])))<|gf (decide ((32:Int)<(0:Int)))<|gf (decide ((w.u64 x2)=0))<|gf (decide ((w.u64 x2)=0))<|some (0,gW.dv (w.u32 (w.u64 (Int.tdiv (fS .u64 (shl .u64 (w.u64 x0) 32) (w.u64 x1)) (w.u64 x2)))) (gW.dv (w.u32 (Int.tmod (fS .u64 (shl .u64 (w.u64 x0) 32) (w.u64 x1)) (w.u64 x2))) []))
def b3c:CE:=(b2Q,mkF [pW,pW,pW] [pW,pW] (a4v N))
theorem c3x:CEok Q (b3c N):=fn_K aq f305 ⟨[],[],[11,15],[],[]⟩ bA
def b2L:CS:=⟨104,306,⟨[.one (.d tW),.one (.d tW),.one (.d tW)],[]⟩,[.one (.d tW)],true,[]⟩
def a4r (N:Nat) (x0 x1 x2:Int):OR:=gf (decide ((32:Int)<(0:Int)))<|gf (decide ((w.u64 x2)=0))<|some (0,gW.dv (w.u32 (Int.tmod (fS .u64 (shl .u64 (w.u64 x0) 32) (w.u64 x1)) (w.u64 x2))) [])
def b2D:CE:=(b2L,mkF [pW,pW,pW] [pW] (a4r N))
theorem c3S:CEok Q (b2D N):=fn_K aq f306 ⟨[],[],[],[],[]⟩ bA
def c5h:CS:=⟨105,291,⟨[.one (.d tI),.one (.d tW),.one (.d tW)],[]⟩,[.one (.d tW)],true,[]⟩
def b8o (x0 x1 x2:Int):OR:=bi ((w.i32 x1)==(-2147483648:Int)) (bi (x0==14) (on1 (a4v N 0 x1 x2)<|gg [pW,pW]<|λ(x3 x4:Int)=>some (0,gW.dv x3 []))<|bi (x0==16) (on1 (a4r N 0 x1 x2)<|gg [pW]<|λ(x5:Int)=>some (0,gW.dv x5 []))<|bi (x0==13) (bi ((w.i32 x2)==(-1:Int)) (some (0,gW.dv x1 []))<|bi (x0==13) (gf (decide ((w.i32 x2)=0))<|some (0,gW.dv (w.u32 (w.i32 (Int.tdiv (w.i32 x1) (w.i32 x2)))) []))<|bi ((w.i32 x2)==(-1:Int)) (some (0,gW.dv 0 []))<|gf (decide ((w.i32 x2)=0))<|some (0,gW.dv (w.u32 (Int.tmod (w.i32 x1) (w.i32 x2))) []))<|bi (x0==13) (gf (decide ((w.i32 x2)=0))<|some (0,gW.dv (w.u32 (w.i32 (Int.tdiv (w.i32 x1) (w.i32 x2)))) []))<|bi ((w.i32 x2)==(-1:Int)) (some (0,gW.dv 0 []))<|gf (decide ((w.i32 x2)=0))<|some (0,gW.dv (w.u32 (Int.tmod (w.i32 x1) (w.i32 x2))) []))<|bi (x0==14) (on1 (a4v N 0 x1 x2)<|gg [pW,pW]<|λ(x6 x7:Int)=>some (0,gW.dv x6 []))<|bi (x0==16) (on1 (a4r N 0 x1 x2)<|gg [pW]<|λ(x8:Int)=>some (0,gW.dv x8 []))<|bi (x0==13) (bi (x0==13) (gf (decide ((w.i32 x2)=0))<|some (0,gW.dv (w.u32 (w.i32 (Int.tdiv (w.i32 x1) (w.i32 x2)))) []))<|gf (decide ((w.i32 x2)=0))<|some (0,gW.dv (w.u32 (Int.tmod (w.i32 x1) (w.i32 x2))) []))<|bi (x0==13) (gf (decide ((w.i32 x2)=0))<|some (0,gW.dv (w.u32 (w.i32 (Int.tdiv (w.i32 x1) (w.i32 x2)))) []))<|gf (decide ((w.i32 x2)=0))<|some (0,gW.dv (w.u32 (Int.tmod (w.i32 x1) (w.i32 x2))) [])
def c5F:CE:=(c5h,mkF [pI,pW,pW] [pW] (b8o N))
theorem d5b:CEok Q (c5F N):=fn_K aq f291 ⟨[((4,2),b2Q),((7,2),b2L)],[],[18,22,32,38,41,45,52],[],[]⟩ (dD (c3x N) (c3S N))
def d8T:CS:=⟨106,263,⟨[.one (.d tI),.one (.d tW),.one (.d tW)],[]⟩,[.one (.d tW),.one (.d tB)],false,[]⟩
def d1q (x0 x1 x2:Int):OR:=bi (x0==1) (some (0,gW.dv (w.u32 (x1+x2)) (gB.dv true [])))<|bi (x0==2) (some (0,gW.dv (w.u32 (x1-x2)) (gB.dv true [])))<|bi (x0==3) (some (0,gW.dv (cG .u32 x1 x2) (gB.dv true [])))<|bi (x0==4) (some (0,gW.dv (fS .u32 x1 x2) (gB.dv true [])))<|bi (x0==5) (some (0,gW.dv (kM .u32 x1 x2) (gB.dv true [])))<|bi (x0==6) (gf (decide ((cG .u32 x2 31)<0))<|some (0,gW.dv (shl .u32 x1 (cG .u32 x2 31)) (gB.dv true [])))<|bi (x0==7) (gf (decide ((cG .u32 x2 31)<0))<|some (0,gW.dv (shr .u32 x1 (cG .u32 x2 31)) (gB.dv true [])))<|bi (x0==8) (gf (decide ((cG .u32 x2 31)<0))<|some (0,gW.dv (w.u32 (shr .i32 (w.i32 x1) (cG .u32 x2 31))) (gB.dv true [])))<|bi (x0==9) (on1 (d3f N (decide ((w.i32 x1)<(w.i32 x2))))<|gg [pW]<|λ(x3:Int)=>some (0,gW.dv x3 (gB.dv true [])))<|bi (x0==10) (on1 (d3f N (decide (x1<x2)))<|gg [pW]<|λ(x4:Int)=>some (0,gW.dv x4 (gB.dv true [])))<|bi (x0==11) (some (0,gW.dv (w.u32 (x1*x2)) (gB.dv true [])))<|bi (x0==12) (on1 (c6w N (w.i32 x1) (w.i32 x2))<|gg [pW]<|λ(x5:Int)=>some (0,gW.dv x5 (gB.dv true [])))<|bi (x2==0) (some (0,gW.dv 0 (gB.dv false [])))<|on1 (b8o N x0 x1 x2)<|gg [pW]<|λ(x6:Int)=>some (0,gW.dv x6 (gB.dv true []))
def d9r:CE:=(d8T,mkF [pI,pW,pW] [pW,pB] (d1q N))
theorem e4x:CEok Q (d9r N):=fn_K aq f263 ⟨[((19,5),c7g),((21,3),c7g),((25,4),d1b),((28,3),c5h)],[],[9,14,19,24,29,34,40,46,54,62,68,73,81],[],[]⟩ (bP (e1N N) (e1h N) (d5b N))
def d3b:CS:=⟨107,222,⟨[.agg [.d tI,.d tI,.d tI,.d tI,.d tI],.one (.d tW),.one (.d tW)],[]⟩,[.one (.d tW),.one (.d tB)],false,[]⟩
def d5P (x0:af) (x1 x2:Int):OR:=on1 (gT N x0.1)<|gg [pI]<|λ(x3:Int)=>on1 (jz N x0)<|gg [pB]<|λ(x4:Bool)=>bi (!x4) (some (0,gW.dv 0 (gB.dv true [])))<|bi (decide (x3>3)) (some (0,gW.dv 0 (gB.dv true [])))<|bi (x3==3) (gf (decide ((18:Int)<(0:Int)))<|on1 (c2M N (shl .i64 x0.2.2.2.2.1 18))<|gg [pW]<|λ(x5:Int)=>some (0,gW.dv x5 (gB.dv true [])))<|bi (x3==2) (on1 (c2M N x0.2.2.2.2.1)<|gg [pW]<|λ(x6:Int)=>on1 (b6L N x0.1)<|gg [pI]<|λ(x7:Int)=>on1 (d1q N x7 x1 x6)<|gg [pW,pB]<|λ(x8:Int) (x9:Bool)=>some (0,gW.dv x8 (gB.dv x9 [])))<|on1 (b6L N x0.1)<|gg [pI]<|λ(x10:Int)=>on1 (d1q N x10 x1 x2)<|gg [pW,pB]<|λ(x11:Int) (x12:Bool)=>some (0,gW.dv x11 (gB.dv x12 []))
def d2F:CE:=(d3b,mkF [dX,pW,pW] [pW,pB] (d5P N))
theorem d9b:CEok Q (d2F N):=fn_K aq f222 ⟨[((1,2),iC),((2,1),b4b),((5,3),c2c),((7,2),c2c),((8,2),c7w),((8,5),d8T)],[],[12,16,20,27],[],[]⟩ (bh (iV N) (bh (b9Y N) (bP (d4z N) (d6N N) (e4x N))))
def b4B:CS:=⟨108,223,⟨[.agg q_5,.one (.d tI)],[]⟩,[.one (.d tI)],true,[]⟩
def b0K (N:Nat) (x0:ay) (x1:Int):OR:=bi (x1==11) (bi (decide (x0.D7<1)) (some (0,gI.dv 1 []))<|bi (decide (x0.D7>50)) (some (0,gI.dv 1 []))<|some (0,gI.dv x0.D7 []))<|bi (x1==12) (bi (decide (x0.D7<1)) (some (0,gI.dv 1 []))<|bi (decide (x0.D7>50)) (some (0,gI.dv 1 []))<|some (0,gI.dv x0.D7 []))<|bi (x1==13) (bi (decide (x0.D6<1)) (some (0,gI.dv 1 []))<|bi (decide (x0.D6>50)) (some (0,gI.dv 1 []))<|some (0,gI.dv x0.D6 []))<|bi (x1==14) (bi (decide (x0.D6<1)) (some (0,gI.dv 1 []))<|bi (decide (x0.D6>50)) (some (0,gI.dv 1 []))<|some (0,gI.dv x0.D6 []))<|bi (x1==15) (bi (decide (x0.D6<1)) (some (0,gI.dv 1 []))<|bi (decide (x0.D6>50)) (some (0,gI.dv 1 []))<|some (0,gI.dv x0.D6 []))<|bi (x1==16) (bi (decide (x0.D6<1)) (some (0,gI.dv 1 []))<|bi (decide (x0.D6>50)) (some (0,gI.dv 1 []))<|some (0,gI.dv x0.D6 []))<|bi (decide ((1:Int)<(1:Int))) (some (0,gI.dv 1 []))<|bi (decide ((1:Int)>(50:Int))) (some (0,gI.dv 1 []))<|some (0,gI.dv 1 [])
def b3T:CE:=(b4B,mkF [bE,pI] [pI] (b0K N))
theorem c2y:CEok Q (b3T N):=fn_K aq f223 ⟨[],[],[7,12,21,24],[],[]⟩ bA
def a9M:CS:=⟨109,150,⟨[.one (.p 0 9 Kf),.one (.d tI),.one (.d tW),.one (.d tI)],[q_1]⟩,[],false,[q_1]⟩
def a7S (N:Nat) (x0 x1 x2:Int) (x3:aa):OR:=bi (decide (x0≥1)) (bi (decide (x0≤15)) (gd (idx x0 16)<|gd (idx x0 16)<|some (0,aA.dv ({x3 with E:={x3.E with B1:=(x3.E.B1.set x0.toNat x1),A8:=(x3.E.A8.set x0.toNat x2)}}:aa) []))<|some (0,aA.dv x3 []))<|some (0,aA.dv x3 [])
def a9t:CE:=(a9M,mkF [pI,pW,pI,aD] [aD] (a7S N))
theorem b4G:CEok Q (a9t N):=fn_K aq f150 ⟨[],[],[10,13],[],[]⟩ bA
def a3I:CS:=⟨110,151,⟨[.one (.p 0 9 Kf)],[q_1]⟩,[],false,[q_1]⟩
def a3V (N:Nat) (x0:aa):OR:=some (0,aA.dv ({x0 with E:={x0.E with A6:={x0.E.A6 with B3:=(w.i64 (x0.E.A6.B3+1))},A5:=(w.i64 (x0.E.A5+1))}}:aa) [])
def a5T:CE:=(a3I,mkF [aD] [aD] (a3V N))
theorem a8R:CEok Q (a5T N):=fn_K aq f151 ⟨[],[],[],[],[]⟩ bA
def c4L:CS:=⟨111,149,⟨[.agg q_5,.one (.p 0 0 Kb),.one (.p 0 9 Kf),.agg q_2,.one (.d tI)],[q_1]⟩,[],false,[q_1]⟩
def b7H (x0:ay) (x1:ak) (x2:Int) (x3:aa):OR:=on1 (ge N x3.E x1.2.1.2.2.1)<|gg [pW]<|λ(x4:Int)=>on1 (ge N x3.E x1.2.1.2.2.2.1)<|gg [pW]<|λ(x5:Int)=>on1 (d5P N x1.2.1 x4 x5)<|gg [pW,pB]<|λ(x6:Int) (x7:Bool)=>bi (!x7) (on1 (kf N 3 x2 x1.2.2.2.1 x3)<|gg [aD]<|λ(x8:aa)=>some (0,aA.dv x8 []))<|on1 (b0K N x0 x1.2.1.1)<|gg [pI]<|λ(x9:Int)=>on1 (a7S N x1.2.1.2.1 x6 (w.i64 (x3.A1+x9)) x3)<|gg [aD]<|λ(x10:aa)=>on1 (a3V N x10)<|gg [aD]<|λ(x11:aa)=>some (0,aA.dv x11 [])
def c4J:CE:=(c4L,mkF [bE,ci,pI,aD] [aD] (b7H N))
theorem d6u:CEok Q (c4J N):=fn_K aq f149 ⟨[((1,6),ij),((1,11),ij),((1,12),d3b),((3,4),a6j),((4,13),b4B),((4,15),a9M),((5,1),a3I)],[],[29],[],[]⟩ (bh (a6h N) (bh (d9b N) (bh (a8P N) (bP (c2y N) (b4G N) (a8R N)))))
def c9a:CS:=⟨112,224,⟨[.one (.d (.sl bB))],[]⟩,[.one (.o bB),.one (.d tW),.one (.d tB)],false,[]⟩
def c0G (x0:List aO):OR:=on1 (jI N x0)<|gg [pD (.sl bB)]<|λ(x1:List aO)=>bi ((len x1)==0) (some (0,(gD (.sl bB)).dv x1 (gW.dv 0 (gB.dv false []))))<|gd (idx 0 x1.length)<|bi (!(x1.getD 0 aO.z).2.1) (some (0,(gD (.sl bB)).dv x1 (gW.dv 0 (gB.dv false []))))<|gd (sb 1 (len x1))<|gd (idx 0 x1.length)<|some (0,(gD (.sl bB)).dv (List.drop 1 x1) (gW.dv ((x1.getD 0 aO.z).2.2.1) (gB.dv true [])))
def c9g:CE:=(c9a,mkF [pD (.sl bB)] [pD (.sl bB),pW,pB] (c0G N))
theorem d7V:CEok Q (c9g N):=fn_K aq f224 ⟨[((1,1),a2p)],[],[11,17],[],[]⟩ (aR (a3F N))
def c7h:CS:=⟨113,152,⟨[.one (.p 0 0 Kb),.agg q_2],[q_1]⟩,[],false,[q_1]⟩
def c8T (x0:ak) (x1:aa):OR:=on1 (c0G N x1.B9)<|gg [pD (.sl bB),pW,pB]<|λ(x2:List aO) (x3:Int) (x4:Bool)=>bi (!x4) (some (0,aA.dv x1 []))<|on1 (a7S N x0.2.1.2.1 x3 (w.i64 (x1.A1+1)) ({x1 with B9:=x2}:aa))<|gg [aD]<|λ(x5:aa)=>on1 (a3V N x5)<|gg [aD]<|λ(x6:aa)=>some (0,aA.dv x6 [])
def c6O:CE:=(c7h,mkF [ci,aD] [aD] (c8T N))
theorem d8C:CEok Q (c6O N):=fn_K aq f152 ⟨[((1,4),c9a),((4,12),a9M),((5,3),a3I)],[],[17],[],[]⟩ (bP (d7V N) (b4G N) (a8R N))
def c0w:CS:=⟨114,225,⟨[.one (.d tI),.one (.d tW),.one (.d tW)],[]⟩,[.one (.d tB)],true,[]⟩
def b6n (N:Nat) (x0 x1 x2:Int):OR:=bi (x0==34) (some (0,gB.dv (x1==x2) []))<|bi (x0==35) (some (0,gB.dv (x1 != x2) []))<|bi (x0==36) (some (0,gB.dv (decide ((w.i32 x1)<(w.i32 x2))) []))<|bi (x0==37) (some (0,gB.dv (decide ((w.i32 x1)≥(w.i32 x2))) []))<|bi (x0==38) (some (0,gB.dv (decide (x1<x2)) []))<|bi (x0==39) (some (0,gB.dv (decide (x1≥x2)) []))<|some (0,gB.dv false [])
def c0v:CE:=(c0w,mkF [pI,pW,pW] [pB] (b6n N))
theorem c8Q:CEok Q (c0v N):=fn_K aq f225 ⟨[],[],[8,13,18,25,32,37],[],[]⟩ bA
def c2J:CS:=⟨115,226,⟨[.agg [.d (.sl aN),.d (.ar 16 tI)],.agg [.d tI,.d tI,.d tI],.one (.d tB)],[]⟩,[.agg [.d tI,.d tI,.d tI]],true,[]⟩
def c2D (x0:ao) (x1:bc) (x2:Bool):OR:=bi x2 (on1 (jB N x0 x1.A7)<|gg [pB]<|λ(x3:Bool)=>bi x3 (gd (idx x1.A7 x0.A3.length)<|on1 (jB N x0 ((x0.A3.getD x1.A7.toNat aW.z).2.2.2.1))<|gg [pB]<|λ(x4:Bool)=>bi x4 (gd (idx x1.A7 x0.A3.length)<|on1 (kb N x0 x1)<|gg [pI]<|λ(x5:Int)=>some (0,e9.dv (bc.mk ((x0.A3.getD x1.A7.toNat aW.z).2.2.2.1) 0 x5) []))<|some (0,e9.dv ({x1 with B3:=(w.i64 (x1.B3+1))}:bc) []))<|some (0,e9.dv ({x1 with B3:=(w.i64 (x1.B3+1))}:bc) []))<|some (0,e9.dv ({x1 with B3:=(w.i64 (x1.B3+1))}:bc) [])
def c3i:CE:=(c2J,mkF [bq,dP,pB] [dP] (c2D N))
theorem d0s:CEok Q (c3i N):=fn_K aq f226 ⟨[((1,5),a6d),((1,16),a6d),((2,9),b3R)],[],[8,14,24],[],[]⟩ (dD (b4X N) (b9U N))
def b1m:CS:=⟨116,156,⟨[.agg [.d (.sl aN),.d (.ar 16 tI)],.one (.p 0 0 Kb),.one (.p 0 9 Kf),.one (.d tB)],[q_1]⟩,[],false,[q_1]⟩
def b0f (x0:ao) (x1:Bool) (x2:aa):OR:=on1 (c2D N x0 x2.E.A6 x1)<|gg [dP]<|λ(x3:bc)=>bi x1 (some (0,aA.dv ({x2 with E:={x2.E with A6:=x3,C3:=(w.i64 (x2.A1+2)),A5:=(w.i64 (x2.E.A5+1))}}:aa) []))<|some (0,aA.dv ({x2 with E:={x2.E with A6:=x3,A5:=(w.i64 (x2.E.A5+1))}}:aa) [])
def b1s:CE:=(b1m,mkF [bq,pB,aD] [aD] (b0f N))
theorem b5H:CEok Q (b1s N):=fn_K aq f156 ⟨[((1,7),c2J)],[],[18],[],[]⟩ (aR (d0s N))
def a9i:CS:=⟨117,154,⟨[.agg [.d (.sl aN),.d (.ar 16 tI)],.one (.p 0 0 Kb),.one (.p 0 9 Kf),.agg q_2,.one (.p 0 21 [1]),.one (.d tI)],[q_1]⟩,[],false,[q_1]⟩
def a6G (x0:ao) (x1:ak) (x2:Int) (x3:aa):OR:=bi (decide ((len x3.C8)≥x2)) (some (0,aA.dv x3 []))<|on1 (ge N x3.E x1.2.1.2.2.1)<|gg [pW]<|λ(x4:Int)=>on1 (ge N x3.E x1.2.1.2.2.2.1)<|gg [pW]<|λ(x5:Int)=>on1 (b6n N x1.2.1.1 x4 x5)<|gg [pB]<|λ(x6:Bool)=>gd (rm x3.C8 [x6] 1)<|on1 (b0f N x0 x6 ({x3 with C8:=(x3.C8++[x6])}:aa))<|gg [aD]<|λ(x7:aa)=>some (0,aA.dv x7 [])
def a9l:CE:=(a9i,mkF [bq,ci,pI,aD] [aD] (a6G N))
theorem b8M:CEok Q (a9l N):=fn_K aq f154 ⟨[((2,7),ij),((2,12),ij),((2,13),c0w),((4,4),b1m)],[],[18],[],[]⟩ (bP (a6h N) (c8Q N) (b5H N))
def a8W:CS:=⟨118,155,⟨[.agg [.d (.sl aN),.d (.ar 16 tI)],.one (.p 0 0 Kb),.one (.p 0 9 Kf),.one (.p 0 20 [1])],[q_1]⟩,[],false,[q_1]⟩
def a7s (x0:ao) (x1:aa):OR:=bi ((len x1.C6)==0) (some (0,aA.dv x1 []))<|gd (idx 0 x1.C6.length)<|gd (sb 1 (len x1.C6))<|on1 (b0f N x0 (x1.C6.getD 0 false) ({x1 with C6:=(List.drop 1 x1.C6)}:aa))<|gg [aD]<|λ(x2:aa)=>some (0,aA.dv x2 [])
def a9f:CE:=(a8W,mkF [bq,aD] [aD] (a7s N))
theorem b8L:CEok Q (a9f N):=fn_K aq f155 ⟨[((4,4),b1m)],[],[13],[],[]⟩ (aR (b5H N))
def b9l:CS:=⟨119,157,⟨[.one (.p 0 9 Kf)],[q_1]⟩,[],false,[q_1]⟩
def b6p (N:Nat) (x0:aa):OR:=some (0,aA.dv ({x0 with E:={x0.E with A4:=true,A5:=(w.i64 (x0.E.A5+1))}}:aa) [])
def b9J:CE:=(b9l,mkF [aD] [aD] (b6p N))
theorem c9Q:CEok Q (b9J N):=fn_K aq f157 ⟨[],[],[],[],[]⟩ bA
def c5L:CS:=⟨120,82,⟨[.agg q_5,.agg [.d (.sl aN),.d (.ar 16 tI)],.one (.p 0 0 Kb)],[q_1]⟩,[],false,[q_1]⟩
def b8D (x0:ay) (x1:ao) (x2:aa):OR:=on1 (b7V N x1 true x2)<|gg [ci,pI,pB,aD]<|λ(x3:ak) (x4:Int) (x5:Bool) (x6:aa)=>bi (!x5) (some (0,aA.dv x6 []))<|on1 (b3o N x6.E x3 x6.A1)<|gg [pB]<|λ(x7:Bool)=>bi (!x7) (some (0,aA.dv x6 []))<|bi (x3.1==1) (on1 (b7H N x0 x3 x4 x6)<|gg [aD]<|λ(x8:aa)=>some (0,aA.dv x8 []))<|bi (x3.1==6) (bi (decide ((len x6.C7)>0)) (gd (idx 0 x6.C7.length)<|on1 (a7S N x3.2.2.1 (x6.C7.getD 0 0) (w.i64 (x6.A1+1)) x6)<|gg [aD]<|λ(x9:aa)=>gd (sb 1 (len x9.C7))<|on1 (a3V N ({x9 with C7:=(List.drop 1 x9.C7)}:aa))<|gg [aD]<|λ(x10:aa)=>some (0,aA.dv x10 []))<|some (0,aA.dv x6 []))<|bi (x3.1==7) (on1 (c8T N x3 x6)<|gg [aD]<|λ(x11:aa)=>some (0,aA.dv x11 []))<|bi (x3.1==8) (bi (decide ((len x6.C9)<x0.C9)) (on1 (ge N x6.E x3.2.2.1)<|gg [pW]<|λ(x12:Int)=>gd (rm x6.C9 [x12] 4)<|on1 (a3V N ({x6 with C9:=(x6.C9++[x12])}:aa))<|gg [aD]<|λ(x13:aa)=>some (0,aA.dv x13 []))<|some (0,aA.dv x6 []))<|bi (x3.1==9) (on1 (a6G N x1 x3 x0.C8 x6)<|gg [aD]<|λ(x14:aa)=>some (0,aA.dv x14 []))<|bi (x3.1==10) (on1 (a7s N x1 x6)<|gg [aD]<|λ(x15:aa)=>some (0,aA.dv x15 []))<|bi (x3.1==11) (on1 (b0f N x1 true x6)<|gg [aD]<|λ(x16:aa)=>some (0,aA.dv x16 []))<|bi (x3.1==12) (on1 (b6p N x6)<|gg [aD]<|λ(x17:aa)=>some (0,aA.dv x17 []))<|some (0,aA.dv x6 [])
def c5G:CE:=(c5L,mkF [bE,bq,aD] [aD] (b8D N))
theorem d6e:CEok Q (c5G N):=fn_K aq f82 ⟨[((2,3),c4P),((3,11),b6m),((6,5),c4L),((9,14),a9M),((11,1),a3I),((13,2),c7h),((16,8),ij),((17,1),a3I),((19,9),a9i),((21,6),a8W),((23,3),b1m),((25,1),b9l)],[],[23,34,37,45,52,78,83,92,108,120,129,135],[],[]⟩ (bh (d5n N) (bh (c4i N) (bh (d6u N) (bh (b4G N) (bh (a8R N) (bh (d8C N) (bh (a6h N) (bh (b8M N) (bP (b8L N) (b5H N) (c9Q N))))))))))
def kK:CS:=⟨137,158,⟨[.one (.d tW)],[]⟩,[.one (.d tI)],true,[]⟩
def kD (N:Nat) (x0:Int):OR:=bi (decide ((w.i64 x0)≥2147483648)) (some (0,gI.dv (w.i64 ((w.i64 x0)-4294967296)) []))<|some (0,gI.dv (w.i64 x0) [])
def c6n:CE:=(kK,mkF [pW] [pI] (kD N))
theorem d2W:CEok Q (c6n N):=fn_K aq f158 ⟨[],[],[7],[],[]⟩ bA
def d2E:CS:=⟨138,159,⟨[.one (.d tB)],[]⟩,[.one (.d tW)],true,[]⟩
def kP (N:Nat) (x0:Bool):OR:=bi x0 (some (0,gW.dv 1 []))<|some (0,gW.dv 0 [])
def d9w:CE:=(d2E,mkF [pB] [pW] (kP N))
theorem e6f:CEok Q (d9w N):=fn_K aq f159 ⟨[],[],[3],[],[]⟩ bA
def d9z:CS:=⟨139,160,⟨[.one (.d tI),.one (.d tI)],[]⟩,[.one (.d tI),.one (.d tI)],false,[]⟩
def d1P (N:Nat) (x0 x1:Int):OR:=gf (decide (x1=0))<|gf (decide (x1=0))<|some (0,gI.dv (w.i64 (Int.tdiv x0 x1)) (gI.dv (Int.tmod x0 x1) []))
def d8K:CE:=(d9z,mkF [pI,pI] [pI,pI] (d1P N))
theorem e4Y:CEok Q (d8K N):=fn_K aq f160 ⟨[],[],[],[],[]⟩ bA
end
end Go.Proofs.Zz
