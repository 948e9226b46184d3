import Derived.Test.YtnfpdmhdpeffjaaGreatK4
set_option linter.unusedSimpArgs false
set_option linter.unusedVariables false
set_option maxRecDepth 100000
namespace Go.Proofs.Zz
noncomputable section
open Go Go.Proofs.Tryz
variable (N:Nat)
def d7i:CS:=⟨140,86,⟨[.agg [.d tI,.d tI,.d tI,.d tI,.d tI],.one (.d tW),.one (.d tW)],[]⟩,[.one (.d tW),.one (.d tB)],false,[]⟩
def kC (x0:af) (x1 x2:Int):OR:=on1 (ig N x0.1)<|gg [pI]<|λ(x3:Int)=>on1 (a4s N x0)<|gg [pB]<|λ(x4:Bool)=>bi (!x4) (some (0,gW.dv 0 (gB.dv true [])))<|bi (decide (x3<1)) (some (0,gW.dv 0 (gB.dv true [])))<|bi (decide (x3>3)) (some (0,gW.dv 0 (gB.dv true [])))<|bi (x3==2) (gd (idx (w.i64 (x0.1-17)) (List.length [(1:Int),3,4,5,9,6,7,8]))<|on1 (kD N x1)<|gg [pI]<|λ(x5:Int)=>on1 (kD N (w.u32 x0.2.2.2.2.1))<|gg [pI]<|λ(x6:Int)=>bi ((List.getD [(1:Int),3,4,5,9,6,7,8] (Int.toNat (w.i64 (x0.1-17))) 0)==1) (some (0,gW.dv (w.u32 (x1+(w.u32 x0.2.2.2.2.1))) (gB.dv true [])))<|bi ((List.getD [(1:Int),3,4,5,9,6,7,8] (Int.toNat (w.i64 (x0.1-17))) 0)==2) (some (0,gW.dv (w.u32 (x1-(w.u32 x0.2.2.2.2.1))) (gB.dv true [])))<|bi ((List.getD [(1:Int),3,4,5,9,6,7,8] (Int.toNat (w.i64 (x0.1-17))) 0)==3) (some (0,gW.dv (cG .u32 x1 (w.u32 x0.2.2.2.2.1)) (gB.dv true [])))<|bi ((List.getD [(1:Int),3,4,5,9,6,7,8] (Int.toNat (w.i64 (x0.1-17))) 0)==4) (some (0,gW.dv (fS .u32 x1 (w.u32 x0.2.2.2.2.1)) (gB.dv true [])))<|bi ((List.getD [(1:Int),3,4,5,9,6,7,8] (Int.toNat (w.i64 (x0.1-17))) 0)==5) (some (0,gW.dv (kM .u32 x1 (w.u32 x0.2.2.2.2.1)) (gB.dv true [])))<|bi ((List.getD [(1:Int),3,4,5,9,6,7,8] (Int.toNat (w.i64 (x0.1-17))) 0)==6) (gf (decide ((cG .u32 (w.u32 x0.2.2.2.2.1) 31)<0))<|some (0,gW.dv (shl .u32 x1 (cG .u32 (w.u32 x0.2.2.2.2.1) 31)) (gB.dv true [])))<|bi ((List.getD [(1:Int),3,4,5,9,6,7,8] (Int.toNat (w.i64 (x0.1-17))) 0)==7) (gf (decide ((cG .u32 (w.u32 x0.2.2.2.2.1) 31)<0))<|some (0,gW.dv (shr .u32 x1 (cG .u32 (w.u32 x0.2.2.2.2.1) 31)) (gB.dv true [])))<|bi ((List.getD [(1:Int),3,4,5,9,6,7,8] (Int.toNat (w.i64 (x0.1-17))) 0)==8) (gf (decide ((cG .u32 (w.u32 x0.2.2.2.2.1) 31)<0))<|some (0,gW.dv (w.u32 (shr .i64 x5 (cG .u32 (w.u32 x0.2.2.2.2.1) 31))) (gB.dv true [])))<|bi ((List.getD [(1:Int),3,4,5,9,6,7,8] (Int.toNat (w.i64 (x0.1-17))) 0)==9) (on1 (kP N (decide (x5<x6)))<|gg [pW]<|λ(x7:Int)=>some (0,gW.dv x7 (gB.dv true [])))<|bi ((List.getD [(1:Int),3,4,5,9,6,7,8] (Int.toNat (w.i64 (x0.1-17))) 0)==10) (on1 (kP N (decide (x1<(w.u32 x0.2.2.2.2.1))))<|gg [pW]<|λ(x8:Int)=>some (0,gW.dv x8 (gB.dv true [])))<|bi ((List.getD [(1:Int),3,4,5,9,6,7,8] (Int.toNat (w.i64 (x0.1-17))) 0)==11) (some (0,gW.dv (w.u32 (w.i64 (x5*x6))) (gB.dv true [])))<|bi ((List.getD [(1:Int),3,4,5,9,6,7,8] (Int.toNat (w.i64 (x0.1-17))) 0)==12) (gf (decide ((32:Int)<(0:Int)))<|some (0,gW.dv (w.u32 (shr .i64 (w.i64 (x5*x6)) 32)) (gB.dv true [])))<|bi ((List.getD [(1:Int),3,4,5,9,6,7,8] (Int.toNat (w.i64 (x0.1-17))) 0)==25) (gf (decide ((18:Int)<(0:Int)))<|some (0,gW.dv (shl .u32 (w.u32 x0.2.2.2.2.1) 18) (gB.dv true [])))<|bi ((w.u32 x0.2.2.2.2.1)==0) (some (0,gW.dv 0 (gB.dv false [])))<|on1 (d1P N x5 x6)<|gg [pI,pI]<|λ(x9 x10:Int)=>bi ((List.getD [(1:Int),3,4,5,9,6,7,8] (Int.toNat (w.i64 (x0.1-17))) 0)==13) (some (0,gW.dv (w.u32 x9) (gB.dv true [])))<|bi ((List.getD [(1:Int),3,4,5,9,6,7,8] (Int.toNat (w.i64 (x0.1-17))) 0)==15) (some (0,gW.dv (w.u32 x10) (gB.dv true [])))<|bi ((List.getD [(1:Int),3,4,5,9,6,7,8] (Int.toNat (w.i64 (x0.1-17))) 0)==14) (gf (decide ((w.u32 x0.2.2.2.2.1)=0))<|some (0,gW.dv (w.u32 (Int.tdiv x1 (w.u32 x0.2.2.2.2.1))) (gB.dv true [])))<|gf (decide ((w.u32 x0.2.2.2.2.1)=0))<|some (0,gW.dv (Int.tmod x1 (w.u32 x0.2.2.2.2.1)) (gB.dv true [])))<|on1 (kD N x1)<|gg [pI]<|λ(x11:Int)=>on1 (kD N x2)<|gg [pI]<|λ(x12:Int)=>bi (x0.1==1) (some (0,gW.dv (w.u32 (x1+x2)) (gB.dv true [])))<|bi (x0.1==2) (some (0,gW.dv (w.u32 (x1-x2)) (gB.dv true [])))<|bi (x0.1==3) (some (0,gW.dv (cG .u32 x1 x2) (gB.dv true [])))<|bi (x0.1==4) (some (0,gW.dv (fS .u32 x1 x2) (gB.dv true [])))<|bi (x0.1==5) (some (0,gW.dv (kM .u32 x1 x2) (gB.dv true [])))<|bi (x0.1==6) (gf (decide ((cG .u32 x2 31)<0))<|some (0,gW.dv (shl .u32 x1 (cG .u32 x2 31)) (gB.dv true [])))<|bi (x0.1==7) (gf (decide ((cG .u32 x2 31)<0))<|some (0,gW.dv (shr .u32 x1 (cG .u32 x2 31)) (gB.dv true [])))<|bi (x0.1==8) (gf (decide ((cG .u32 x2 31)<0))<|some (0,gW.dv (w.u32 (shr .i64 x11 (cG .u32 x2 31))) (gB.dv true [])))<|bi (x0.1==9) (on1 (kP N (decide (x11<x12)))<|gg [pW]<|λ(x13:Int)=>some (0,gW.dv x13 (gB.dv true [])))<|bi (x0.1==10) (on1 (kP N (decide (x1<x2)))<|gg [pW]<|λ(x14:Int)=>some (0,gW.dv x14 (gB.dv true [])))<|bi (x0.1==11) (some (0,gW.dv (w.u32 (w.i64 (x11*x12))) (gB.dv true [])))<|bi (x0.1==12) (gf (decide ((32:Int)<(0:Int)))<|some (0,gW.dv (w.u32 (shr .i64 (w.i64 (x11*x12)) 32)) (gB.dv true [])))<|bi (x0.1==25) (gf (decide ((18:Int)<(0:Int)))<|some (0,gW.dv (shl .u32 (w.u32 x0.2.2.2.2.1) 18) (gB.dv true [])))<|bi (x2==0) (some (0,gW.dv 0 (gB.dv false [])))<|on1 (d1P N x11 x12)<|gg [pI,pI]<|λ(x15 x16:Int)=>bi (x0.1==13) (some (0,gW.dv (w.u32 x15) (gB.dv true [])))<|bi (x0.1==15) (some (0,gW.dv (w.u32 x16) (gB.dv true [])))<|bi (x0.1==14) (gf (decide (x2=0))<|some (0,gW.dv (w.u32 (Int.tdiv x1 x2)) (gB.dv true [])))<|gf (decide (x2=0))<|some (0,gW.dv (Int.tmod x1 x2) (gB.dv true []))
def d7a:CE:=(d7i,mkF [dX,pW,pW] [pW,pB] (kC N))
theorem e2s:CEok Q (d7a N):=fn_K aq f86 ⟨[((1,2),jd),((2,1),a4Y),((9,1),kK),((10,1),kK),((29,3),d2E),((31,3),d2E),((40,2),d9z)],[],[21,25,28,32,48,53,58,63,68,73,79,85,92,98,104,110,117,124,132,136,140],[],[]⟩ (bh (jG N) (bh (a6B N) (bP (d2W N) (e6f N) (e4Y N))))
def c3k:CS:=⟨145,92,⟨[.one (.d tI),.one (.d tW),.one (.d tW)],[]⟩,[.one (.d tB)],true,[]⟩
def c2n (x0 x1 x2:Int):OR:=bi (x0==34) (some (0,gB.dv (x1==x2) []))<|bi (x0==35) (some (0,gB.dv (x1 != x2) []))<|bi (x0==36) (on1 (kD N x1)<|gg [pI]<|λ(x3:Int)=>on1 (kD N x2)<|gg [pI]<|λ(x4:Int)=>some (0,gB.dv (decide (x3<x4)) []))<|bi (x0==37) (on1 (kD N x1)<|gg [pI]<|λ(x5:Int)=>on1 (kD N x2)<|gg [pI]<|λ(x6:Int)=>some (0,gB.dv (decide (x5≥x6)) []))<|bi (x0==38) (some (0,gB.dv (decide (x1<x2)) []))<|bi (x0==39) (some (0,gB.dv (decide (x1≥x2)) []))<|some (0,gB.dv false [])
def c3I:CE:=(c3k,mkF [pI,pW,pW] [pB] (c2n N))
theorem d1C:CEok Q (c3I N):=fn_K aq f92 ⟨[((7,1),kK),((7,3),kK),((9,1),kK),((9,3),kK)],[],[8,13,18,25,32,37],[],[]⟩ (aR (d2W N))
def c5R:CS:=⟨150,148,⟨[.agg [.d (.sl aN),.d (.ar 16 tI)],.one (.p 0 0 Kb),.one (.p 0 1 Kf),.one (.d tB)],[q_1]⟩,[.agg q_2,.one (.d tI),.one (.d tB)],false,[q_1]⟩
def b7O (x0:ao) (x1:Bool) (x2:aa):OR:=bi x2.A.A4 (some (0,bS.dv (ak.z) (gI.dv 0 (gB.dv false (aA.dv x2 [])))))<|bi (decide (x2.A.C3>x2.A1)) (some (0,bS.dv (ak.z) (gI.dv 0 (gB.dv false (aA.dv x2 [])))))<|on1 (a6v N x0 x1 x2.A.A6)<|gg [dP,pB]<|λ(x3:bc) (x4:Bool)=>on1 (kg N x0 x1 x3)<|gg [ci,pI,pB]<|λ(x5:ak) (x6:Int) (x7:Bool)=>bi x4 (gd (idx x3.A7 x0.A3.length)<|on1 (kf N 4 x6 ((x0.A3.getD x3.A7.toNat aW.z).2.1) ({x2 with A:={x2.A with A6:=x3}}:aa))<|gg [aD]<|λ(x8:aa)=>bi x7 (on1 (kt N x8 x6)<|gg [pB]<|λ(x9:Bool)=>some (0,bS.dv x5 (gI.dv x6 (gB.dv (!x9) (aA.dv x8 [])))))<|some (0,bS.dv x5 (gI.dv x6 (gB.dv false (aA.dv x8 [])))))<|bi x7 (on1 (kt N ({x2 with A:={x2.A with A6:=x3}}:aa) x6)<|gg [pB]<|λ(x10:Bool)=>some (0,bS.dv x5 (gI.dv x6 (gB.dv (!x10) (aA.dv ({x2 with A:={x2.A with A6:=x3}}:aa) [])))))<|some (0,bS.dv x5 (gI.dv x6 (gB.dv false (aA.dv ({x2 with A:={x2.A with A6:=x3}}:aa) []))))
def c4r:CE:=(c5R,mkF [bq,pB,aD] [ci,pI,pB,aD] (b7O N))
theorem d3R:CEok Q (c4r N):=fn_K aq f148 ⟨[((3,6),a8i),((5,3),a6i),((7,9),a6j),((8,6),a7g)],[],[20,30,54,68],[],[]⟩ (bh (b2u N) (bP (b1k N) (a8P N) (b0C N)))
def b6i:CS:=⟨151,107,⟨[.one (.d tI),.one (.d tI),.one (.d tI)],[]⟩,[.one (.d tB)],true,[]⟩
def a9E (N:Nat) (x0 x1 x2:Int):OR:=bi (decide (x0≥x1)) (bi (decide (x2≤0)) (some (0,gB.dv true []))<|some (0,gB.dv (decide ((w.u64 ((w.u64 x0)-(w.u64 x1)))≥(w.u64 x2))) []))<|bi (decide (x2<0)) (some (0,gB.dv (decide ((w.u64 ((w.u64 x1)-(w.u64 x0)))≤(w.u64 (0-(w.u64 x2))))) []))<|some (0,gB.dv false [])
def b7c:CE:=(b6i,mkF [pI,pI,pI] [pB] (a9E N))
theorem c8X:CEok Q (b7c N):=fn_K aq f107 ⟨[],[],[9,12,24],[],[]⟩ bA
def c1k:CS:=⟨152,48,⟨[.agg q_5,.agg [.d (.sl aN),.d (.ar 16 tI)],.agg q_0],[]⟩,[.one (.d tB)],true,[]⟩
def b5c (x0:ay) (x1:ao) (x2:aa):OR:=bi x2.E.A4 (some (0,gB.dv false []))<|on1 (kg N x1 true x2.E.A6)<|gg [ci,pI,pB]<|λ(x3:ak) (x4:Int) (x5:Bool)=>on1 (kg N x1 false x2.A.A6)<|gg [ci,pI,pB]<|λ(x6:ak) (x7:Int) (x8:Bool)=>bi x5 (bi x8 (on1 (a9E N x7 x4 x0.D8)<|gg [pB]<|λ(x9:Bool)=>some (0,gB.dv x9 []))<|some (0,gB.dv false []))<|some (0,gB.dv false [])
def c0M:CE:=(c1k,mkF [bE,bq,aD] [pB] (b5c N))
theorem d2r:CEok Q (c0M N):=fn_K aq f48 ⟨[((3,4),a6i),((4,4),a6i),((5,9),b6i)],[],[15,35,38],[],[]⟩ (dD (b1k N) (c8X N))
def b5h:CS:=⟨153,150,⟨[.one (.p 0 1 Kf),.one (.d tI),.one (.d tW),.one (.d tI)],[q_1]⟩,[],false,[q_1]⟩
def b0W (N:Nat) (x0 x1 x2:Int) (x3:aa):OR:=bi (decide (x0≥1)) (bi (decide (x0≤15)) (gd (idx x0 16)<|gd (idx x0 16)<|some (0,aA.dv ({x3 with A:={x3.A with B1:=(x3.A.B1.set x0.toNat x1),A8:=(x3.A.A8.set x0.toNat x2)}}:aa) []))<|some (0,aA.dv x3 []))<|some (0,aA.dv x3 [])
def b5e:CE:=(b5h,mkF [pI,pW,pI,aD] [aD] (b0W N))
theorem c0L:CEok Q (b5e N):=fn_K aq f150 ⟨[],[],[10,13],[],[]⟩ bA
def a2w:CS:=⟨154,151,⟨[.one (.p 0 1 Kf)],[q_1]⟩,[],false,[q_1]⟩
def ip (N:Nat) (x0:aa):OR:=some (0,aA.dv ({x0 with A:={x0.A with A6:={x0.A.A6 with B3:=(w.i64 (x0.A.A6.B3+1))},A5:=(w.i64 (x0.A.A5+1))}}:aa) [])
def a2v:CE:=(a2w,mkF [aD] [aD] (ip N))
theorem a3Q:CEok Q (a2v N):=fn_K aq f151 ⟨[],[],[],[],[]⟩ bA
def c5K:CS:=⟨155,149,⟨[.agg q_5,.one (.p 0 0 Kb),.one (.p 0 1 Kf),.agg q_2,.one (.d tI)],[q_1]⟩,[],false,[q_1]⟩
def b3q (x0:ay) (x1:ak) (x2:Int) (x3:aa):OR:=on1 (ge N x3.A x1.2.1.2.2.1)<|gg [pW]<|λ(x4:Int)=>on1 (ge N x3.A x1.2.1.2.2.2.1)<|gg [pW]<|λ(x5:Int)=>on1 (d5P N x1.2.1 x4 x5)<|gg [pW,pB]<|λ(x6:Int) (x7:Bool)=>bi (!x7) (on1 (kf N 3 x2 x1.2.2.2.1 x3)<|gg [aD]<|λ(x8:aa)=>some (0,aA.dv x8 []))<|on1 (b0K N x0 x1.2.1.1)<|gg [pI]<|λ(x9:Int)=>on1 (b0W N x1.2.1.2.1 x6 (w.i64 (x3.A1+x9)) x3)<|gg [aD]<|λ(x10:aa)=>on1 (ip N x10)<|gg [aD]<|λ(x11:aa)=>some (0,aA.dv x11 [])
def c5w:CE:=(c5K,mkF [bE,ci,pI,aD] [aD] (b3q N))
theorem d4Z:CEok Q (c5w N):=fn_K aq f149 ⟨[((1,6),ij),((1,11),ij),((1,12),d3b),((3,4),a6j),((4,13),b4B),((4,15),b5h),((5,1),a2w)],[],[29],[],[]⟩ (bh (a6h N) (bh (d9b N) (bh (a8P N) (bP (c2y N) (c0L N) (a3Q N)))))
def a5v:CS:=⟨156,227,⟨[.one (.p 0 0 Kg)],[q_7,q_1]⟩,[.one (.d tI),.one (.d tB)],false,[q_7,q_1]⟩
def a2J (x0:ay) (x1:ao) (x2:ak) (x3:Int) (x4:aa):OR:=on1 (ge N x4.A x2.2.1.2.2.1)<|gg [pW]<|λ(x5:Int)=>on1 (c2M N x2.2.1.2.2.2.2.1)<|gg [pW]<|λ(x6:Int)=>on1 (jF N x2.2.1.1)<|gg [pI]<|λ(x7:Int)=>on1 (iI N x7 (w.u32 (x5+x6)) (len x4.Mem))<|gg [pI]<|λ(x8:Int)=>bi (x8 != 0) (on1 (kf N x8 x3 x2.2.2.2.1 x4)<|gg [aD]<|λ(x9:aa)=>some (0,gI.dv 0 (gB.dv false (cM.dv x0 (cm.dv x1 (bS.dv x2 (gI.dv x3 (aA.dv x9 []))))))))<|some (0,gI.dv (w.i64 (w.u32 (x5+x6))) (gB.dv true (cM.dv x0 (cm.dv x1 (bS.dv x2 (gI.dv x3 (aA.dv x4 [])))))))
def a5t:CE:=(a5v,mkF [bE,bq,ci,pI,aD] [pI,pB,bE,bq,ci,pI,aD] (a2J N))
theorem a9c:CEok Q (a5t N):=fn_K aq f227 ⟨[((2,8),ij),((2,11),c2c),((3,2),a3v),((3,12),a6S),((5,14),a6j)],[],[39],[],[]⟩ (bh (a6h N) (bh (d4z N) (bP (a4A N) (a9u N) (a8P N))))
def b2v:CS:=⟨157,271,⟨[.one (.d tI),.one (.d tI),.one (.d tI)],[]⟩,[.one (.d tB)],true,[]⟩
def a8G (N:Nat) (x0 x1 x2:Int):OR:=bi (decide (x0≤x2)) (some (0,gB.dv (decide ((w.u64 ((w.u64 x2)-(w.u64 x0)))<(w.u64 x1))) []))<|some (0,gB.dv false [])
def b9p:CE:=(b2v,mkF [pI,pI,pI] [pB] (a8G N))
theorem c9Y:CEok Q (b9p N):=fn_K aq f271 ⟨[],[],[10],[],[]⟩ bA
def b0D:CS:=⟨158,241,⟨[.one (.d tI),.one (.d tI),.one (.d tI),.one (.d tI)],[]⟩,[.one (.d tB)],true,[]⟩
def a7c (x0 x1 x2 x3:Int):OR:=bi (decide (x1≥1)) (bi (decide (x3≥1)) (on1 (a8G N x0 x1 x2)<|gg [pB]<|λ(x4:Bool)=>bi x4 (some (0,gB.dv true []))<|on1 (a8G N x2 x3 x0)<|gg [pB]<|λ(x5:Bool)=>some (0,gB.dv x5 []))<|some (0,gB.dv false []))<|some (0,gB.dv false [])
def b0j:CE:=(b0D,mkF [pI,pI,pI,pI] [pB] (a7c N))
theorem b7v:CEok Q (b0j N):=fn_K aq f241 ⟨[((1,10),b2v),((1,15),b2v)],[],[11,15,20],[],[]⟩ (aR (c9Y N))
def c5v:CS:=⟨159,228,⟨[.one (.d (.sl bN)),.one (.d tI),.one (.d tI)],[]⟩,[.agg [.d tI,.d tI,.d tI,.d tB,.d tW],.one (.d tB)],false,[]⟩
def b9H:LS:=⟨⟨[.one (.d (.sl bN)),.one (.d tI),.one (.d tI),.no,.no,.no,.one (.p 0 0 [1,1,1,1,1]),.no,.one (.d tI)]++nos 25,[[.d tI,.d tI,.d tI,.d tB,.d tW]]⟩,[(0,⟨nos 6++[.one (.p 0 0 [1,1,1,1,1]),.one (.d tB)]++nos 26,[[.d tI,.d tI,.d tI,.d tB,.d tW]]⟩),(1,⟨nos 6++[.one (.p 0 0 [1,1,1,1,1])]++nos 27,[[.d tI,.d tI,.d tI,.d tB,.d tW]]⟩)]⟩
def b1n:Hi:=⟨[((4,12),b0D)],[(0,b9H)],[13,28],[],[]⟩
theorem c1h:AllP (CEok Q) [b0j N]:=aR (b7v N)
def a9O (again:Fn' OR [pD (.sl bN),pI,pI,pI,cY]) (x0:List aF) (x1 x2 x3:Int) (x4:aF):OR:=bi (decide (x3≥0)) (gd (idx x3 x0.length)<|gd (idx x3 x0.length)<|on1 (a7c N ((x0.getD x3.toNat aF.z).1) ((x0.getD x3.toNat aF.z).2.1) x1 x2)<|gg [pB]<|λ(x5:Bool)=>bi x5 (gd (idx x3 x0.length)<|some (0,gB.dv true (eG.dv (x0.getD x3.toNat aF.z) [])))<|again x0 x1 x2 (w.i64 (x3-1)) x4)<|some (1,eG.dv x4 [])
def a9s:Nat→Fn' OR [pD (.sl bN),pI,pI,pI,cY]:=lpG (a9O N)
theorem c9F:LEok Q b1n (bn f228) f228.ntmps 0 (0,mkM [pD (.sl bN),pI,pI,pI,cY] [(0,[pB,cY]),(1,[cY])] (a9s N N)):=bU aq 228 b9H (c1h N)
def b8i (x0:List aF) (x1 x2:Int):OR:=onB 0 1 (a9s N N x0 x1 x2 (w.i64 ((len x0)-1)) (aF.z)) (gg [pB,cY]<|λ(x3:Bool) (x4:aF)=>some (0,eG.dv x4 (gB.dv x3 [])))<|gg [cY]<|λ(x5:aF)=>some (0,eG.dv (aF.z) (gB.dv false []))
def c5O:CE:=(c5v,mkF [pD (.sl bN),pI,pI] [cY,pB] (b8i N))
theorem d5U:CEok Q (c5O N):=fn_L aq f228 b1n (c1h N) (aR (c9F N))
def b5Q:CS:=⟨160,265,⟨[.one (.d tI),.one (.d tW)],[]⟩,[.one (.d tW)],true,[]⟩
def b3J (N:Nat) (x0 x1:Int):OR:=bi (x0==27) (some (0,gW.dv (w.u32 (w.i32 (w.i16 x1))) []))<|bi (x0==29) (some (0,gW.dv (w.u32 (w.i32 (w.i8 x1))) []))<|some (0,gW.dv x1 [])
def b6d:CE:=(b5Q,mkF [pI,pW] [pW] (b3J N))
theorem c3T:CEok Q (b6d N):=fn_K aq f265 ⟨[],[],[6,12],[],[]⟩ bA
def c4k:CS:=⟨161,230,⟨[.agg [.d tI,.d tI,.d tI,.d tB,.d tW],.one (.d tI),.one (.d tI)],[]⟩,[.one (.d tW),.one (.d tB)],false,[]⟩
def b8E (x0:aF) (x1 x2:Int):OR:=on1 (jF N x1)<|gg [pI]<|λ(x3:Int)=>bi (decide (x1<26)) (some (0,gW.dv 0 (gB.dv false [])))<|bi (decide (x1>30)) (some (0,gW.dv 0 (gB.dv false [])))<|bi (!x0.2.2.2.1) (some (0,gW.dv 0 (gB.dv false [])))<|bi (x0.1 != x2) (some (0,gW.dv 0 (gB.dv false [])))<|bi (x0.2.1 != x3) (some (0,gW.dv 0 (gB.dv false [])))<|on1 (b3J N x1 x0.2.2.2.2.1)<|gg [pW]<|λ(x4:Int)=>some (0,gW.dv x4 (gB.dv true []))
def c5H:CE:=(c4k,mkF [cY,pI,pI] [pW,pB] (b8E N))
theorem d4k:CEok Q (c5H N):=fn_K aq f230 ⟨[((1,1),a3v),((4,3),b5Q)],[],[13,17,22,28,33],[],[]⟩ (dD (a4A N) (c3T N))
def b7r:CS:=⟨162,292,⟨[.one (.d (.sl bB)),.one (.d tI),.one (.d tI)],[]⟩,[.one (.o bB),.one (.d tB)],false,[]⟩
def a9U (x0:List aO) (x1 x2:Int):OR:=on1 (jI N x0)<|gg [pD (.sl bB)]<|λ(x3:List aO)=>bi (decide ((len x0)≥x1)) (some (0,(gD (.sl bB)).dv x3 (gB.dv false [])))<|gd (rm x3 [(x2,(false,(0,())))] 16)<|some (0,(gD (.sl bB)).dv (x3++[(x2,(false,(0,())))]) (gB.dv true []))
def b6A:CE:=(b7r,mkF [pD (.sl bB),pI,pI] [pD (.sl bB),pB] (a9U N))
theorem c9t:CEok Q (b6A N):=fn_K aq f292 ⟨[((1,1),a2p)],[],[14],[],[]⟩ (aR (a3F N))
def a5r:CS:=⟨163,266,⟨[.one (.p 0 0 Kg)],[q_7,q_1]⟩,[.one (.d tB)],true,[q_7,q_1]⟩
def a2R (x0:ay) (x1:ao) (x2:ak) (x3:Int) (x4:aa):OR:=on1 (a9U N x4.B9 x0.B9 x4.C0)<|gg [pD (.sl bB),pB]<|λ(x5:List aO) (x6:Bool)=>bi x6 (some (0,gB.dv x6 (cM.dv x0 (cm.dv x1 (bS.dv x2 (gI.dv x3 (aA.dv ({x4 with B9:=x5,C0:=(w.i64 (x4.C0+1))}:aa) [])))))))<|some (0,gB.dv x6 (cM.dv x0 (cm.dv x1 (bS.dv x2 (gI.dv x3 (aA.dv x4 []))))))
def a5q:CE:=(a5r,mkF [bE,bq,ci,pI,aD] [pB,bE,bq,ci,pI,aD] (a2R N))
theorem a9d:CEok Q (a5q N):=fn_K aq f266 ⟨[((1,19),b7r)],[],[28],[],[]⟩ (aR (c9t N))
def b9B:CS:=⟨164,294,⟨[.agg [.d tI,.d tB,.d tW],.one (.p 0 0 [1])],[[.d tI]]⟩,[.one (.d tB)],true,[[.d tI]]⟩
def b2q (N:Nat) (x0:aO) (x1:Int):OR:=bi (x0.1==x1) (some (0,gB.dv (!x0.2.1) (gI.dv x1 [])))<|some (0,gB.dv false (gI.dv x1 []))
def b9f:CE:=(b9B,mkF [e0u,pI] [pB,pI] (b2q N))
theorem c9Z:CEok Q (b9f N):=fn_K aq f294 ⟨[],[],[8],[],[]⟩ bA
def a6M:CS:=⟨165,293,⟨[.one (.d (.sl bB)),.one (.f 294 [⟨0,0,[1]⟩])],[[.d tI]]⟩,[.one (.d tI)],true,[[.d tI]]⟩
def a5y:LS:=⟨⟨[.one (.d (.sl bB)),.one (.f 294 [⟨0,0,[1]⟩]),.no,.no,.no,.no,.no,.one (.d tI),.one (.d tI)]++nos 10,[[.d tI]]⟩,[(0,⟨[.no,.no,.no,.no,.one (.d tI)]++nos 14,[[.d tI]]⟩),(1,⟨nos 19,[[.d tI]]⟩)]⟩
def a2h:Hi:=⟨[((4,5),b9B)],[(0,a5y)],[9,16],[],[]⟩
theorem a6t:AllP (CEok Q) [b9f N]:=aR (c9Z N)
def a1W (again:Fn' OR [pD (.sl bB),pI,pI,pI]) (x0:List aO) (x1 x2 x3:Int):OR:=bi (decide (x2<x1)) (gd (idx x2 x0.length)<|on1 (b2q N (x0.getD x2.toNat aO.z) x3)<|gg [pB,pI]<|λ(x4:Bool) (x5:Int)=>bi x4 (some (0,gI.dv x2 (gI.dv x5 [])))<|again x0 x1 (w.i64 (x2+1)) x5)<|some (1,gI.dv x3 [])
def a1Y:Nat→Fn' OR [pD (.sl bB),pI,pI,pI]:=lpG (a1W N)
theorem b2w:LEok Q a2h (bn f293) f293.ntmps 1 (0,mkM [pD (.sl bB),pI,pI,pI] [(0,[pI,pI]),(1,[pI])] (a1Y N N)):=bU aq 293 a5y (a6t N)
def a4z (x0:List aO) (x1:Int):OR:=onB 0 1 (a1Y N N x0 (len x0) 0 x1) (gg [pI,pI]<|λ(x2 x3:Int)=>some (0,gI.dv x2 (gI.dv x3 [])))<|gg [pI]<|λ(x4:Int)=>some (0,gI.dv (-1:Int) (gI.dv x4 []))
def a6N:CE:=(a6M,mkF [pD (.sl bB),pI] [pI,pI] (a4z N))
theorem b3O:CEok Q (a6N N):=fn_L aq f293 a2h (a6t N) (aR (b2w N))
def b7e:CS:=⟨166,267,⟨[.one (.d (.sl bB)),.one (.d tI),.one (.d tW)],[]⟩,[.one (.o bB),.one (.d tB)],false,[]⟩
def kj (x0:List aO) (x1 x2:Int):OR:=on1 (jI N x0)<|gg [pD (.sl bB)]<|λ(x3:List aO)=>on1 (a4z N x3 x1)<|gg [pI,pI]<|λ(x4 x5:Int)=>bi (decide (x4<0)) (some (0,(gD (.sl bB)).dv x3 (gB.dv false [])))<|gd (idx x4 x3.length)<|gd (idx x4 (List.length (x3.set x4.toNat ((x3.getD x4.toNat aO.z).1,(true,(x3.getD x4.toNat aO.z).2.2)))))<|some (0,(gD (.sl bB)).dv (List.set (x3.set x4.toNat ((x3.getD x4.toNat aO.z).1,(true,(x3.getD x4.toNat aO.z).2.2))) x4.toNat ((List.getD (x3.set x4.toNat ((x3.getD x4.toNat aO.z).1,(true,(x3.getD x4.toNat aO.z).2.2))) x4.toNat aO.z).1,((List.getD (x3.set x4.toNat ((x3.getD x4.toNat aO.z).1,(true,(x3.getD x4.toNat aO.z).2.2))) x4.toNat aO.z).2.1,(x2,())))) (gB.dv true []))
def b6O:CE:=(b7e,mkF [pD (.sl bB),pI,pW] [pD (.sl bB),pB] (kj N))
theorem c5g:CEok Q (b6O N):=fn_K aq f267 ⟨[((1,1),a2p),((2,2),a6M)],[],[16],[],[]⟩ (dD (a3F N) (b3O N))
def b2S:CS:=⟨167,231,⟨[.one (.p 0 0 Kg),.one (.d tW)],[q_7,q_1]⟩,[],false,[q_7,q_1]⟩
def a7u (x0:Int) (x1:ay) (x2:ao) (x3:ak) (x4:Int) (x5:aa):OR:=bi (x3.1==2) (on1 (b0W N x3.2.1.2.1 x0 (w.i64 (x5.A1+1)) x5)<|gg [aD]<|λ(x6:aa)=>on1 (ip N x6)<|gg [aD]<|λ(x7:aa)=>some (0,cM.dv x1 (cm.dv x2 (bS.dv x3 (gI.dv x4 (aA.dv x7 []))))))<|on1 (a2R N x1 x2 x3 x4 x5)<|gg [pB,bE,bq,ci,pI,aD]<|λ(x8:Bool) (x9:ay) (x10:ao) (x11:ak) (x12:Int) (x13:aa)=>bi (!x8) (some (0,cM.dv x9 (cm.dv x10 (bS.dv x11 (gI.dv x12 (aA.dv x13 []))))))<|on1 (kj N x13.B9 x5.C0 x0)<|gg [pD (.sl bB),pB]<|λ(x14:List aO) (x15:Bool)=>on1 (ip N ({x13 with B9:=x14}:aa))<|gg [aD]<|λ(x16:aa)=>some (0,cM.dv x9 (cm.dv x10 (bS.dv x11 (gI.dv x12 (aA.dv x16 [])))))
def b3a:CE:=(b2S,mkF [pW,bE,bq,ci,pI,aD] [bE,bq,ci,pI,aD] (a7u N))
theorem c3m:CEok Q (b3a N):=fn_K aq f231 ⟨[((1,21),b5h),((3,1),a5r),((4,13),b7e),((5,6),a2w)],[],[10,42],[],[]⟩ (bh (c0L N) (bP (a9d N) (c5g N) (a3Q N)))
def b5z:CS:=⟨168,232,⟨[.one (.p 0 0 Kg),.one (.d tI)],[q_7,q_1]⟩,[],false,[q_7,q_1]⟩
def a8m (x0:Int) (x1:ay) (x2:ao) (x3:ak) (x4:Int) (x5:aa):OR:=on1 (jF N x3.2.1.1)<|gg [pI]<|λ(x6:Int)=>bi (x3.1==3) (on1 (a2R N x1 x2 x3 x4 x5)<|gg [pB,bE,bq,ci,pI,aD]<|λ(x7:Bool) (x8:ay) (x9:ao) (x10:ak) (x11:Int) (x12:aa)=>bi (!x7) (some (0,cM.dv x8 (cm.dv x9 (bS.dv x10 (gI.dv x11 (aA.dv x12 []))))))<|gd (rm x12.A0 [(false,(x3.2.1.1,(x0,(x6,(0,(0,((-1:Int),(x5.C0,()))))))))] 64)<|on1 (ip N ({x12 with A0:=(x12.A0++[(false,(x3.2.1.1,(x0,(x6,(0,(0,((-1:Int),(x5.C0,()))))))))])}:aa))<|gg [aD]<|λ(x13:aa)=>some (0,cM.dv x8 (cm.dv x9 (bS.dv x10 (gI.dv x11 (aA.dv x13 []))))))<|bi (decide (x3.2.1.2.1>0)) (bi (decide (x3.2.1.2.1<16)) (gd (idx x3.2.1.2.1 16)<|gd (rm x5.A0 [(false,(x3.2.1.1,(x0,(x6,(0,(0,(x3.2.1.2.1,(0,()))))))))] 64)<|on1 (ip N ({x5 with A:={x5.A with A8:=(x5.A.A8.set x3.2.1.2.1.toNat (-1:Int))},A0:=(x5.A0++[(false,(x3.2.1.1,(x0,(x6,(0,(0,(x3.2.1.2.1,(0,()))))))))])}:aa))<|gg [aD]<|λ(x14:aa)=>some (0,cM.dv x1 (cm.dv x2 (bS.dv x3 (gI.dv x4 (aA.dv x14 []))))))<|gd (rm x5.A0 [(false,(x3.2.1.1,(x0,(x6,(0,(0,(x3.2.1.2.1,(0,()))))))))] 64)<|on1 (ip N ({x5 with A0:=(x5.A0++[(false,(x3.2.1.1,(x0,(x6,(0,(0,(x3.2.1.2.1,(0,()))))))))])}:aa))<|gg [aD]<|λ(x15:aa)=>some (0,cM.dv x1 (cm.dv x2 (bS.dv x3 (gI.dv x4 (aA.dv x15 []))))))<|gd (rm x5.A0 [(false,(x3.2.1.1,(x0,(x6,(0,(0,(x3.2.1.2.1,(0,()))))))))] 64)<|on1 (ip N ({x5 with A0:=(x5.A0++[(false,(x3.2.1.1,(x0,(x6,(0,(0,(x3.2.1.2.1,(0,()))))))))])}:aa))<|gg [aD]<|λ(x16:aa)=>some (0,cM.dv x1 (cm.dv x2 (bS.dv x3 (gI.dv x4 (aA.dv x16 [])))))
def b5s:CE:=(b5z,mkF [pI,bE,bq,ci,pI,aD] [bE,bq,ci,pI,aD] (a8m N))
theorem c6h:CEok Q (b5s N):=fn_K aq f232 ⟨[((1,5),a3v),((4,1),a5r),((8,6),a2w)],[],[25,37,41,45],[],[]⟩ (bP (a4A N) (a9d N) (a3Q N))
def b3A:CS:=⟨169,162,⟨[.one (.p 0 0 Kg)],[q_7,q_1]⟩,[],false,[q_7,q_1]⟩
def a2o (x0:ay) (x1:ao) (x2:ak) (x3:Int) (x4:aa):OR:=on1 (a2J N x0 x1 x2 x3 x4)<|gg [pI,pB,bE,bq,ci,pI,aD]<|λ(x5:Int) (x6:Bool) (x7:ay) (x8:ao) (x9:ak) (x10:Int) (x11:aa)=>bi (!x6) (some (0,cM.dv x7 (cm.dv x8 (bS.dv x9 (gI.dv x10 (aA.dv x11 []))))))<|on1 (jF N x9.2.1.1)<|gg [pI]<|λ(x12:Int)=>on1 (b8i N x11.B0 x5 x12)<|gg [cY,pB]<|λ(x13:aF) (x14:Bool)=>bi x14 (on1 (b8E N x13 x9.2.1.1 x5)<|gg [pW,pB]<|λ(x15:Int) (x16:Bool)=>bi x16 (on1 (a7u N x15 x7 x8 x9 x10 x11)<|gg [bE,bq,ci,pI,aD]<|λ(x17:ay) (x18:ao) (x19:ak) (x20:Int) (x21:aa)=>some (0,cM.dv x17 (cm.dv x18 (bS.dv x19 (gI.dv x20 (aA.dv x21 []))))))<|some (0,cM.dv x7 (cm.dv x8 (bS.dv x9 (gI.dv x10 (aA.dv x11 []))))))<|bi (decide ((len x11.A0)<x7.B7)) (on1 (a8m N x5 x7 x8 x9 x10 x11)<|gg [bE,bq,ci,pI,aD]<|λ(x22:ay) (x23:ao) (x24:ak) (x25:Int) (x26:aa)=>some (0,cM.dv x22 (cm.dv x23 (bS.dv x24 (gI.dv x25 (aA.dv x26 []))))))<|some (0,cM.dv x7 (cm.dv x8 (bS.dv x9 (gI.dv x10 (aA.dv x11 [])))))
def b3F:CE:=(b3A,mkF [bE,bq,ci,pI,aD] [bE,bq,ci,pI,aD] (a2o N))
theorem c3H:CEok Q (b3F N):=fn_K aq f162 ⟨[((0,1),a5v),((2,14),a3v),((2,15),c5v),((4,8),c4k),((6,2),b2S),((8,2),b5z)],[],[14,34,48,52],[],[]⟩ (bh (a9c N) (bh (a4A N) (bh (d5U N) (bP (d4k N) (c3m N) (c6h N)))))
def d0v:CS:=⟨170,233,⟨[.one (.d (.sl bN)),.one (.d tI),.agg [.d tI,.d tI,.d tI,.d tB,.d tW]],[]⟩,[.one (.o bN),.one (.d tB)],false,[]⟩
def c6E (x0:List aF) (x1:Int) (x2:aF):OR:=on1 (a1B N x0)<|gg [pD (.sl bN)]<|λ(x3:List aF)=>bi (decide ((len x0)≥x1)) (some (0,(gD (.sl bN)).dv x3 (gB.dv false [])))<|gd (rm x3 [x2] 32)<|some (0,(gD (.sl bN)).dv (x3++[x2]) (gB.dv true []))
def d0n:CE:=(d0v,mkF [pD (.sl bN),pI,cY] [pD (.sl bN),pB] (c6E N))
theorem e0a:CEok Q (d0n N):=fn_K aq f233 ⟨[((1,1),a5p)],[],[14],[],[]⟩ (aR (a9g N))
def b1J:CS:=⟨171,163,⟨[.one (.p 0 0 Kg)],[q_7,q_1]⟩,[],false,[q_7,q_1]⟩
def a3R (x0:ay) (x1:ao) (x2:ak) (x3:Int) (x4:aa):OR:=on1 (a2J N x0 x1 x2 x3 x4)<|gg [pI,pB,bE,bq,ci,pI,aD]<|λ(x5:Int) (x6:Bool) (x7:ay) (x8:ao) (x9:ak) (x10:Int) (x11:aa)=>bi (!x6) (some (0,cM.dv x7 (cm.dv x8 (bS.dv x9 (gI.dv x10 (aA.dv x11 []))))))<|on1 (jF N x9.2.1.1)<|gg [pI]<|λ(x12:Int)=>on1 (c6E N x11.B0 x7.B0 (x5,(x12,(x10,(false,(0,()))))))<|gg [pD (.sl bN),pB]<|λ(x13:List aF) (x14:Bool)=>bi x14 (on1 (ip N ({x11 with B0:=x13}:aa))<|gg [aD]<|λ(x15:aa)=>some (0,cM.dv x7 (cm.dv x8 (bS.dv x9 (gI.dv x10 (aA.dv x15 []))))))<|some (0,cM.dv x7 (cm.dv x8 (bS.dv x9 (gI.dv x10 (aA.dv x11 [])))))
def b1h:CE:=(b1J,mkF [bE,bq,ci,pI,aD] [bE,bq,ci,pI,aD] (a3R N))
theorem c1W:CEok Q (b1h N):=fn_K aq f163 ⟨[((0,1),a5v),((2,19),a3v),((2,25),d0v),((5,6),a2w)],[],[11,41],[],[]⟩ (bh (a9c N) (bP (a4A N) (e0a N) (a3Q N)))
def b1t:CS:=⟨172,156,⟨[.agg [.d (.sl aN),.d (.ar 16 tI)],.one (.p 0 0 Kb),.one (.p 0 1 Kf),.one (.d tB)],[q_1]⟩,[],false,[q_1]⟩
def a7P (x0:ao) (x1:Bool) (x2:aa):OR:=on1 (c2D N x0 x2.A.A6 x1)<|gg [dP]<|λ(x3:bc)=>bi x1 (some (0,aA.dv ({x2 with A:={x2.A with A6:=x3,C3:=(w.i64 (x2.A1+2)),A5:=(w.i64 (x2.A.A5+1))}}:aa) []))<|some (0,aA.dv ({x2 with A:={x2.A with A6:=x3,A5:=(w.i64 (x2.A.A5+1))}}:aa) [])
def b1y:CE:=(b1t,mkF [bq,pB,aD] [aD] (a7P N))
theorem b7A:CEok Q (b1y N):=fn_K aq f156 ⟨[((1,7),c2J)],[],[18],[],[]⟩ (aR (d0s N))
def a9j:CS:=⟨173,154,⟨[.agg [.d (.sl aN),.d (.ar 16 tI)],.one (.p 0 0 Kb),.one (.p 0 1 Kf),.agg q_2,.one (.p 0 20 [1]),.one (.d tI)],[q_1]⟩,[],false,[q_1]⟩
def a2K (x0:ao) (x1:ak) (x2:Int) (x3:aa):OR:=bi (decide ((len x3.C6)≥x2)) (some (0,aA.dv x3 []))<|on1 (ge N x3.A x1.2.1.2.2.1)<|gg [pW]<|λ(x4:Int)=>on1 (ge N x3.A x1.2.1.2.2.2.1)<|gg [pW]<|λ(x5:Int)=>on1 (b6n N x1.2.1.1 x4 x5)<|gg [pB]<|λ(x6:Bool)=>gd (rm x3.C6 [x6] 1)<|on1 (a7P N x0 x6 ({x3 with C6:=(x3.C6++[x6])}:aa))<|gg [aD]<|λ(x7:aa)=>some (0,aA.dv x7 [])
def a9k:CE:=(a9j,mkF [bq,ci,pI,aD] [aD] (a2K N))
theorem b8J:CEok Q (a9k N):=fn_K aq f154 ⟨[((2,7),ij),((2,12),ij),((2,13),c0w),((4,4),b1t)],[],[18],[],[]⟩ (bP (a6h N) (c8Q N) (b7A N))
def a8Y:CS:=⟨174,155,⟨[.agg [.d (.sl aN),.d (.ar 16 tI)],.one (.p 0 0 Kb),.one (.p 0 1 Kf),.one (.p 0 21 [1])],[q_1]⟩,[],false,[q_1]⟩
def a2M (x0:ao) (x1:aa):OR:=bi ((len x1.C8)==0) (some (0,aA.dv x1 []))<|gd (idx 0 x1.C8.length)<|gd (sb 1 (len x1.C8))<|on1 (a7P N x0 (x1.C8.getD 0 false) ({x1 with C8:=(List.drop 1 x1.C8)}:aa))<|gg [aD]<|λ(x2:aa)=>some (0,aA.dv x2 [])
def a9h:CE:=(a8Y,mkF [bq,aD] [aD] (a2M N))
theorem b8H:CEok Q (a9h N):=fn_K aq f155 ⟨[((4,4),b1t)],[],[13],[],[]⟩ (aR (b7A N))
def b9x:CS:=⟨175,157,⟨[.one (.p 0 1 Kf)],[q_1]⟩,[],false,[q_1]⟩
def b1F (N:Nat) (x0:aa):OR:=some (0,aA.dv ({x0 with A:={x0.A with A4:=true,A5:=(w.i64 (x0.A.A5+1))}}:aa) [])
def b9C:CE:=(b9x,mkF [aD] [aD] (b1F N))
theorem c9E:CEok Q (b9C N):=fn_K aq f157 ⟨[],[],[],[],[]⟩ bA
def c5Y:CS:=⟨176,100,⟨[.agg q_5,.agg [.d (.sl aN),.d (.ar 16 tI)],.one (.p 0 0 Kb)],[q_1]⟩,[],false,[q_1]⟩
def b3K (x0:ay) (x1:ao) (x2:aa):OR:=on1 (b7O N x1 false x2)<|gg [ci,pI,pB,aD]<|λ(x3:ak) (x4:Int) (x5:Bool) (x6:aa)=>bi (!x5) (some (0,aA.dv x6 []))<|on1 (b5c N x0 x1 x6)<|gg [pB]<|λ(x7:Bool)=>bi x7 (some (0,aA.dv x6 []))<|on1 (b3o N x6.A x3 x6.A1)<|gg [pB]<|λ(x8:Bool)=>bi (!x8) (some (0,aA.dv x6 []))<|bi (x3.1==1) (on1 (b3q N x0 x3 x4 x6)<|gg [aD]<|λ(x9:aa)=>some (0,aA.dv x9 []))<|bi (x3.1==2) (on1 (a2o N x0 x1 x3 x4 x6)<|gg [bE,bq,ci,pI,aD]<|λ(x10:ay) (x11:ao) (x12:ak) (x13:Int) (x14:aa)=>some (0,aA.dv x14 []))<|bi (x3.1==3) (on1 (a2o N x0 x1 x3 x4 x6)<|gg [bE,bq,ci,pI,aD]<|λ(x15:ay) (x16:ao) (x17:ak) (x18:Int) (x19:aa)=>some (0,aA.dv x19 []))<|bi (x3.1==4) (on1 (a3R N x0 x1 x3 x4 x6)<|gg [bE,bq,ci,pI,aD]<|λ(x20:ay) (x21:ao) (x22:ak) (x23:Int) (x24:aa)=>some (0,aA.dv x24 []))<|bi (x3.1==5) (bi (decide ((len x6.C7)<x0.C7)) (on1 (ge N x6.A x3.2.2.1)<|gg [pW]<|λ(x25:Int)=>gd (rm x6.C7 [x25] 4)<|on1 (ip N ({x6 with C7:=(x6.C7++[x25])}:aa))<|gg [aD]<|λ(x26:aa)=>some (0,aA.dv x26 []))<|some (0,aA.dv x6 []))<|bi (x3.1==9) (on1 (a2K N x1 x3 x0.C6 x6)<|gg [aD]<|λ(x27:aa)=>some (0,aA.dv x27 []))<|bi (x3.1==10) (on1 (a2M N x1 x6)<|gg [aD]<|λ(x28:aa)=>some (0,aA.dv x28 []))<|bi (x3.1==11) (on1 (a7P N x1 true x6)<|gg [aD]<|λ(x29:aa)=>some (0,aA.dv x29 []))<|bi (x3.1==12) (on1 (b1F N x6)<|gg [aD]<|λ(x30:aa)=>some (0,aA.dv x30 []))<|some (0,aA.dv x6 [])
def c4n:CE:=(c5Y,mkF [bE,bq,aD] [aD] (b3K N))
theorem d3P:CEok Q (c4n N):=fn_K aq f100 ⟨[((2,3),c5R),((3,8),c1k),((3,19),b6m),((7,5),c5K),((10,1),b3A),((12,1),b1J),((15,8),ij),((16,1),a2w),((18,9),a9j),((20,6),a8Y),((22,3),b1t),((24,1),b9x)],[],[24,32,43,53,61,66,70,79,95,107,116,122],[],[]⟩ (bh (d3R N) (bh (d2r N) (bh (c4i N) (bh (d4Z N) (bh (c3H N) (bh (c1W N) (bh (a6h N) (bh (a3Q N) (bh (b8J N) (bP (b8H N) (b7A N) (c9E N)))))))))))
def d1k:CS:=⟨181,103,⟨[.agg [.d (.sl aK),.d tI,.d (.sl tU)]],[]⟩,[.one (.o tU)],true,[]⟩
def d3t (N:Nat) (x0:aw):OR:=gd (decide (0≤x0.B8∧x0.B8≤x0.B8∧x0.B8*((1:Nat):Int)≤((dQ:Nat):Int)∧x0.B8≤((dQ:Nat):Int)))<|some (0,(gD (.sl tU)).dv (laid (List.replicate x0.B8.toNat (0 :Int)) 0 (List.take (List.length (List.replicate x0.B8.toNat (0 :Int))) x0.D1)) [])
def d1n:CE:=(d1k,mkF [bm] [pD (.sl tU)] (d3t N))
theorem d9O:CEok Q (d1n N):=fn_K aq f103 ⟨[],[],[],[],[]⟩ bA
variable (N:Nat)
def b2T:CS:=⟨183,49,⟨[.one (.d tI),.one (.d tW),.one (.d tI)],[]⟩,[.one (.d tI)],true,[]⟩
def kH (N:Nat) (x0 x1 x2:Int):OR:=bi (decide (x0≥1)) (gf (decide (x0=0))<|bi ((Int.tmod (w.i64 x1) x0) != 0) (some (0,gI.dv 1 []))<|bi (decide (x0>0)) (bi (decide (x2<x0)) (some (0,gI.dv 2 []))<|bi (decide ((w.i64 x1)>(w.i64 (x2-x0)))) (some (0,gI.dv 2 []))<|bi (decide (x0≤0)) (bi (decide (x2<(w.i64 ((w.i64 x1)+x0)))) (some (0,gI.dv 2 []))<|some (0,gI.dv 0 []))<|some (0,gI.dv 0 []))<|bi (decide (x0≤0)) (bi (decide (x2<(w.i64 ((w.i64 x1)+x0)))) (some (0,gI.dv 2 []))<|some (0,gI.dv 0 []))<|some (0,gI.dv 0 []))<|bi (decide (x0>0)) (bi (decide (x2<x0)) (some (0,gI.dv 2 []))<|bi (decide ((w.i64 x1)>(w.i64 (x2-x0)))) (some (0,gI.dv 2 []))<|bi (decide (x0≤0)) (bi (decide (x2<(w.i64 ((w.i64 x1)+x0)))) (some (0,gI.dv 2 []))<|some (0,gI.dv 0 []))<|some (0,gI.dv 0 []))<|bi (decide (x0≤0)) (bi (decide (x2<(w.i64 ((w.i64 x1)+x0)))) (some (0,gI.dv 2 []))<|some (0,gI.dv 0 []))<|some (0,gI.dv 0 [])
def b3n:CE:=(b2T,mkF [pI,pW,pI] [pI] (kH N))
theorem b8v:CEok Q (b3n N):=fn_K aq f49 ⟨[],[],[9,15,18,22,31,34,42],[],[]⟩ bA
def c0C:CS:=⟨187,105,⟨[.one (.d tI),.one (.d tW)],[]⟩,[.one (.d tW)],true,[]⟩
def b6N (x0 x1:Int):OR:=bi (x0==27) (gf (decide ((16:Int)<(0:Int)))<|on1 (kD N (shl .u32 x1 16))<|gg [pI]<|λ(x2:Int)=>gf (decide ((16:Int)<(0:Int)))<|some (0,gW.dv (w.u32 (shr .i64 x2 16)) []))<|bi (x0==29) (gf (decide ((24:Int)<(0:Int)))<|on1 (kD N (shl .u32 x1 24))<|gg [pI]<|λ(x3:Int)=>gf (decide ((24:Int)<(0:Int)))<|some (0,gW.dv (w.u32 (shr .i64 x3 24)) []))<|some (0,gW.dv x1 [])
def b9W:CE:=(c0C,mkF [pI,pW] [pW] (b6N N))
theorem c8B:CEok Q (b9W N):=fn_K aq f105 ⟨[((3,2),kK),((5,2),kK)],[],[6,13],[],[]⟩ (aR (d2W N))
end
end Go.Proofs.Zz
