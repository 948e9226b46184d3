import Derived.Test.YtnfpdmhdpeffjaaGreatKT
set_option linter.unusedSimpArgs false
set_option linter.unusedVariables false
set_option maxRecDepth 100000
namespace Go.Proofs.Zz
noncomputable section
open Go Go.Proofs.Tryz
variable (N:Nat)
def a2p:CS:=⟨0,134,⟨[.one (.d (.sl bB))],[]⟩,[.one (.o bB)],true,[]⟩
def a6g:Hi:=⟨[],[],[4],[],[]⟩
theorem f1u:Fn Q 134 f134 (cr f134):=by constructor<;>kernel_rfl
def jI (N:Nat) (x0:List aO):OR:=gd (rm [] x0 16)<|some (0,(gD (.sl bB)).dv ([]++x0) [])
def a2n:CE:=(a2p,mkF [pD (.sl bB)] [pD (.sl bB)] (jI N))
theorem a3F:CEok Q (a2n N):=c4B λys a q h =>
  b4D aq hmix (hi:=a6g) rfl rfl rfl rfl rfl f1u (by kernel_rfl) (by kernel_rfl) (by kernel_rfl) (λhx=>by
   obtain⟨x,_⟩:=ys;have hx:x=([]:List (Den bB)):=hx;subst hx;exact (show denC cx0 a6g (ctL []) (ltL []) f134 (cr f134) bB .nl=jI N [] by kernel_rfl).trans h) ((show ∀ys:TupG [pD (.sl bB)],denC cx0 a6g (ctL []) (ltL []) f134 (cr f134) bB (.nn bB ys.1)=jI N ys.1 from λys=>by kernel_rfl) ys |>.trans h)
def a5p:CS:=⟨3,137,⟨[.one (.d (.sl bN))],[]⟩,[.one (.o bN)],true,[]⟩
def a5w:Hi:=⟨[],[],[4],[],[]⟩
theorem f1T:Fn Q 137 f137 (cr f137):=by constructor<;>kernel_rfl
def a1B (N:Nat) (x0:List aF):OR:=gd (rm [] x0 32)<|some (0,(gD (.sl bN)).dv ([]++x0) [])
def a5n:CE:=(a5p,mkF [pD (.sl bN)] [pD (.sl bN)] (a1B N))
theorem a9g:CEok Q (a5n N):=c4B λys a q h =>
  b4D aq hmix (hi:=a5w) rfl rfl rfl rfl rfl f1T (by kernel_rfl) (by kernel_rfl) (by kernel_rfl) (λhx=>by
   obtain⟨x,_⟩:=ys;have hx:x=([]:List (Den bN)):=hx;subst hx;exact (show denC cx0 a5w (ctL []) (ltL []) f137 (cr f137) bN .nl=a1B N [] by kernel_rfl).trans h) ((show ∀ys:TupG [pD (.sl bN)],denC cx0 a5w (ctL []) (ltL []) f137 (cr f137) bN (.nn bN ys.1)=a1B N ys.1 from λys=>by kernel_rfl) ys |>.trans h)
def b5I:CS:=⟨5,139,⟨[.one (.d (.sl tU))],[]⟩,[.one (.o tU)],true,[]⟩
def b0E:Hi:=⟨[],[],[4],[],[]⟩
theorem f0K:Fn Q 139 f139 (cr f139):=by constructor<;>kernel_rfl
def a7k (N:Nat) (x0:List Int):OR:=gd (rm [] x0 1)<|some (0,(gD (.sl tU)).dv ([]++x0) [])
def b7z:CE:=(b5I,mkF [pD (.sl tU)] [pD (.sl tU)] (a7k N))
theorem c8f:CEok Q (b7z N):=c4B λys a q h =>
  b4D aq hmix (hi:=b0E) rfl rfl rfl rfl rfl f0K (by kernel_rfl) (by kernel_rfl) (by kernel_rfl) (λhx=>by
   obtain⟨x,_⟩:=ys;have hx:x=([]:List (Den tU)):=hx;subst hx;exact (show denC cx0 b0E (ctL []) (ltL []) f139 (cr f139) tU .nl=a7k N [] by kernel_rfl).trans h) ((show ∀ys:TupG [pD (.sl tU)],denC cx0 b0E (ctL []) (ltL []) f139 (cr f139) tU (.nn tU ys.1)=a7k N ys.1 from λys=>by kernel_rfl) ys |>.trans h)
def a9p:CS:=⟨6,140,⟨[.one (.d (.sl de))],[]⟩,[.one (.o de)],true,[]⟩
def a5o:Hi:=⟨[],[],[4],[],[]⟩
theorem e9I:Fn Q 140 f140 (cr f140):=by constructor<;>kernel_rfl
def a2I (N:Nat) (x0:List bv):OR:=gd (rm [] x0 24)<|some (0,(gD (.sl de)).dv ([]++x0) [])
def a9n:CE:=(a9p,mkF [pD (.sl de)] [pD (.sl de)] (a2I N))
theorem b8K:CEok Q (a9n N):=c4B λys a q h =>
  b4D aq hmix (hi:=a5o) rfl rfl rfl rfl rfl e9I (by kernel_rfl) (by kernel_rfl) (by kernel_rfl) (λhx=>by
   obtain⟨x,_⟩:=ys;have hx:x=([]:List (Den de)):=hx;subst hx;exact (show denC cx0 a5o (ctL []) (ltL []) f140 (cr f140) de .nl=a2I N [] by kernel_rfl).trans h) ((show ∀ys:TupG [pD (.sl de)],denC cx0 a5o (ctL []) (ltL []) f140 (cr f140) de (.nn de ys.1)=a2I N ys.1 from λys=>by kernel_rfl) ys |>.trans h)
def a6j:CS:=⟨8,79,⟨[.one (.p 0 0 Kb),.one (.d tI),.one (.d tI),.one (.d tI)],[q_1]⟩,[],false,[q_1]⟩
def kf (N:Nat) (x0 x1 x2:Int) (x3:aa):OR:=bi (x3.A9.C2==0) (some (0,aA.dv ({x3 with A9:=(cQ.mk x0 x1 x2)}:aa) []))<|bi (decide (x3.A9.C5>x1)) (some (0,aA.dv ({x3 with A9:=(cQ.mk x0 x1 x2)}:aa) []))<|some (0,aA.dv x3 [])
def a6w:CE:=(a6j,mkF [pI,pI,pI,aD] [aD] (kf N))
theorem a8P:CEok Q (a6w N):=fn_K aq f79 ⟨[],[],[14,22],[],[]⟩ bA
def iC:CS:=⟨10,210,⟨[.one (.d tI)],[]⟩,[.one (.d tI)],true,[]⟩
def gT (N:Nat) (x0:Int):OR:=bi (decide (x0<1)) (some (0,gI.dv 0 []))<|bi (decide (x0>41)) (some (0,gI.dv 0 []))<|bi (decide (x0≤16)) (some (0,gI.dv 1 []))<|bi (decide (x0≤24)) (some (0,gI.dv 2 []))<|bi (x0==25) (some (0,gI.dv 3 []))<|bi (decide (x0≤30)) (some (0,gI.dv 4 []))<|bi (decide (x0≤33)) (some (0,gI.dv 5 []))<|bi (decide (x0≤39)) (some (0,gI.dv 6 []))<|bi (x0==40) (some (0,gI.dv 7 []))<|some (0,gI.dv 8 [])
def b2I:CE:=(iC,mkF [pI] [pI] (gT N))
theorem iV:CEok Q (b2I N):=fn_K aq f210 ⟨[],[],[3,6,10,13,16,19,22,25,28],[],[]⟩ bA
def c3N:CS:=⟨11,213,⟨[.one (.d tI)],[]⟩,[.one (.d tB)],true,[]⟩
def j9 (N:Nat) (x0:Int):OR:=bi (decide (x0≥1)) (some (0,gB.dv (decide (x0≤4)) []))<|some (0,gB.dv false [])
def c2K:CE:=(c3N,mkF [pI] [pB] (j9 N))
theorem d1Q:CEok Q (c2K N):=fn_K aq f213 ⟨[],[],[5],[],[]⟩ bA
def a8E:CS:=⟨12,258,⟨[.one (.d tI),.one (.d tB),.one (.d tI),.one (.d tI)],[]⟩,[.one (.d tB)],true,[]⟩
def eQ (N:Nat) (x0:Int) (x1:Bool) (x2 x3:Int):OR:=bi (!x1) (some (0,gB.dv (x0==0) []))<|bi (decide (x0≥x2)) (some (0,gB.dv (decide (x0≤x3)) []))<|some (0,gB.dv false [])
def c4w:CE:=(a8E,mkF [pI,pB,pI,pI] [pB] (eQ N))
theorem d4X:CEok Q (c4w N):=fn_K aq f258 ⟨[],[],[10,16],[],[]⟩ bA
def c3c:CS:=⟨13,211,⟨[.one (.d tI)],[]⟩,[.one (.d tB)],true,[]⟩
def j7 (N:Nat) (x0:Int):OR:=bi (x0==1) (some (0,gB.dv true []))<|bi (x0==2) (some (0,gB.dv true []))<|bi (x0==4) (some (0,gB.dv true []))<|bi (x0==5) (some (0,gB.dv true []))<|some (0,gB.dv (x0==6) [])
def c3L:CE:=(c3c,mkF [pI] [pB] (j7 N))
theorem d0O:CEok Q (c3L N):=fn_K aq f211 ⟨[],[],[5,9,13,17],[],[]⟩ bA
def c2P:CS:=⟨14,212,⟨[.one (.d tI)],[]⟩,[.one (.d tB)],true,[]⟩
def i7 (N:Nat) (x0:Int):OR:=bi (x0==1) (some (0,gB.dv true []))<|bi (x0==5) (some (0,gB.dv true []))<|some (0,gB.dv (x0==6) [])
def c2Z:CE:=(c2P,mkF [pI] [pB] (i7 N))
theorem d0t:CEok Q (c2Z N):=fn_K aq f212 ⟨[],[],[5,9],[],[]⟩ bA
def c3U:CS:=⟨15,259,⟨[.one (.d tI)],[]⟩,[.one (.d tB)],true,[]⟩
def a8g (N:Nat) (x0:Int):OR:=bi (decide (x0≥2)) (some (0,gB.dv (decide (x0≤7)) []))<|some (0,gB.dv false [])
def c5Z:CE:=(c3U,mkF [pI] [pB] (a8g N))
theorem d4u:CEok Q (c5Z N):=fn_K aq f259 ⟨[],[],[5],[],[]⟩ bA
def b4b:CS:=⟨16,209,⟨[.agg [.d tI,.d tI,.d tI,.d tI,.d tI]],[]⟩,[.one (.d tB)],true,[]⟩
def jz (x0:af):OR:=on1 (gT N x0.1)<|gg [pI]<|λ(x1:Int)=>bi (x0.1==22) (bi (decide (x1>0)) (on1 (j9 N x1)<|gg [pB]<|λ(x2:Bool)=>on1 (eQ N x0.2.1 x2 0 15)<|gg [pB]<|λ(x3:Bool)=>bi x3 (on1 (j7 N x1)<|gg [pB]<|λ(x4:Bool)=>on1 (eQ N x0.2.2.1 x4 0 15)<|gg [pB]<|λ(x5:Bool)=>bi x5 (on1 (i7 N x1)<|gg [pB]<|λ(x6:Bool)=>on1 (eQ N x0.2.2.2.1 x6 0 15)<|gg [pB]<|λ(x7:Bool)=>bi x7 (on1 (a8g N x1)<|gg [pB]<|λ(x8:Bool)=>on1 (eQ N x0.2.2.2.2.1 x8 0 31)<|gg [pB]<|λ(x9:Bool)=>some (0,gB.dv x9 []))<|some (0,gB.dv false []))<|some (0,gB.dv false []))<|some (0,gB.dv false []))<|some (0,gB.dv false []))<|bi (x0.1==23) (bi (decide (x1>0)) (on1 (j9 N x1)<|gg [pB]<|λ(x10:Bool)=>on1 (eQ N x0.2.1 x10 0 15)<|gg [pB]<|λ(x11:Bool)=>bi x11 (on1 (j7 N x1)<|gg [pB]<|λ(x12:Bool)=>on1 (eQ N x0.2.2.1 x12 0 15)<|gg [pB]<|λ(x13:Bool)=>bi x13 (on1 (i7 N x1)<|gg [pB]<|λ(x14:Bool)=>on1 (eQ N x0.2.2.2.1 x14 0 15)<|gg [pB]<|λ(x15:Bool)=>bi x15 (on1 (a8g N x1)<|gg [pB]<|λ(x16:Bool)=>on1 (eQ N x0.2.2.2.2.1 x16 0 31)<|gg [pB]<|λ(x17:Bool)=>some (0,gB.dv x17 []))<|some (0,gB.dv false []))<|some (0,gB.dv false []))<|some (0,gB.dv false []))<|some (0,gB.dv false []))<|bi (x0.1==24) (bi (decide (x1>0)) (on1 (j9 N x1)<|gg [pB]<|λ(x18:Bool)=>on1 (eQ N x0.2.1 x18 0 15)<|gg [pB]<|λ(x19:Bool)=>bi x19 (on1 (j7 N x1)<|gg [pB]<|λ(x20:Bool)=>on1 (eQ N x0.2.2.1 x20 0 15)<|gg [pB]<|λ(x21:Bool)=>bi x21 (on1 (i7 N x1)<|gg [pB]<|λ(x22:Bool)=>on1 (eQ N x0.2.2.2.1 x22 0 15)<|gg [pB]<|λ(x23:Bool)=>bi x23 (on1 (a8g N x1)<|gg [pB]<|λ(x24:Bool)=>on1 (eQ N x0.2.2.2.2.1 x24 0 31)<|gg [pB]<|λ(x25:Bool)=>some (0,gB.dv x25 []))<|some (0,gB.dv false []))<|some (0,gB.dv false []))<|some (0,gB.dv false []))<|some (0,gB.dv false []))<|bi (decide (x1>0)) (on1 (j9 N x1)<|gg [pB]<|λ(x26:Bool)=>on1 (eQ N x0.2.1 x26 0 15)<|gg [pB]<|λ(x27:Bool)=>bi x27 (on1 (j7 N x1)<|gg [pB]<|λ(x28:Bool)=>on1 (eQ N x0.2.2.1 x28 0 15)<|gg [pB]<|λ(x29:Bool)=>bi x29 (on1 (i7 N x1)<|gg [pB]<|λ(x30:Bool)=>on1 (eQ N x0.2.2.2.1 x30 0 15)<|gg [pB]<|λ(x31:Bool)=>bi x31 (on1 (a8g N x1)<|gg [pB]<|λ(x32:Bool)=>on1 (eQ N x0.2.2.2.2.1 x32 (-8192:Int) 8191)<|gg [pB]<|λ(x33:Bool)=>some (0,gB.dv x33 []))<|some (0,gB.dv false []))<|some (0,gB.dv false []))<|some (0,gB.dv false []))<|some (0,gB.dv false [])
def b4w:CE:=(b4b,mkF [dX] [pB] (jz N))
theorem b9Y:CEok Q (b4w N):=fn_K aq f209 ⟨[((1,2),iC),((5,6),c3N),((5,7),a8E),((5,13),c3c),((5,14),a8E),((5,20),c2P),((5,21),a8E),((5,27),c3U),((5,30),a8E)],[],[12,17,21,24,31,38,45],[],[]⟩ (bh (iV N) (bh (d1Q N) (bh (d4X N) (bP (d0O N) (d0t N) (d4u N)))))
def c0i:CS:=⟨17,130,⟨[.agg [.d tI,.d tI,.d tI,.d tI,.d tI]],[]⟩,[.one (.o tI)],true,[]⟩
def jy (x0:af):OR:=on1 (jz N x0)<|gg [pB]<|λ(x1:Bool)=>bi (!x1) (some (0,(gD (.sl tI)).dv ([]:List Int) []))<|on1 (gT N x0.1)<|gg [pI]<|λ(x2:Int)=>on1 (j7 N x2)<|gg [pB]<|λ(x3:Bool)=>bi x3 (bi (x0.2.2.1 != 0) (gd (rm ([]:List Int) [x0.2.2.1] 8)<|on1 (i7 N x2)<|gg [pB]<|λ(x4:Bool)=>bi x4 (bi (x0.2.2.2.1 != 0) (gd (rm (([]:List Int)++[x0.2.2.1]) [x0.2.2.2.1] 8)<|some (0,(gD (.sl tI)).dv ((([]:List Int)++[x0.2.2.1])++[x0.2.2.2.1]) []))<|some (0,(gD (.sl tI)).dv (([]:List Int)++[x0.2.2.1]) []))<|some (0,(gD (.sl tI)).dv (([]:List Int)++[x0.2.2.1]) []))<|on1 (i7 N x2)<|gg [pB]<|λ(x5:Bool)=>bi x5 (bi (x0.2.2.2.1 != 0) (gd (rm ([]:List Int) [x0.2.2.2.1] 8)<|some (0,(gD (.sl tI)).dv (([]:List Int)++[x0.2.2.2.1]) []))<|some (0,(gD (.sl tI)).dv ([]:List Int) []))<|some (0,(gD (.sl tI)).dv ([]:List Int) []))<|on1 (i7 N x2)<|gg [pB]<|λ(x6:Bool)=>bi x6 (bi (x0.2.2.2.1 != 0) (gd (rm ([]:List Int) [x0.2.2.2.1] 8)<|some (0,(gD (.sl tI)).dv (([]:List Int)++[x0.2.2.2.1]) []))<|some (0,(gD (.sl tI)).dv ([]:List Int) []))<|some (0,(gD (.sl tI)).dv ([]:List Int) [])
def c6F:CE:=(c0i,mkF [dX] [pD (.sl tI)] (jy N))
theorem d7A:CEok Q (c6F N):=fn_K aq f130 ⟨[((1,1),b4b),((4,2),iC),((5,1),c3c),((7,1),c2P)],[],[7,13,17,25,29],[],[]⟩ (bh (b9Y N) (bP (iV N) (d0O N) (d0t N)))
def c5J:CS:=⟨18,131,⟨[.agg [.d tI,.d tI,.d tI,.d tI,.d tI]],[]⟩,[.one (.d tI)],true,[]⟩
def b2U (x0:af):OR:=on1 (jz N x0)<|gg [pB]<|λ(x1:Bool)=>bi (!x1) (some (0,gI.dv 0 []))<|on1 (gT N x0.1)<|gg [pI]<|λ(x2:Int)=>on1 (j9 N x2)<|gg [pB]<|λ(x3:Bool)=>bi (!x3) (some (0,gI.dv 0 []))<|some (0,gI.dv x0.2.1 [])
def c4j:CE:=(c5J,mkF [dX] [pI] (b2U N))
theorem d4s:CEok Q (c4j N):=fn_K aq f131 ⟨[((1,1),b4b),((1,6),iC),((1,7),c3N)],[],[6,12],[],[]⟩ (bP (b9Y N) (iV N) (d1Q N))
def c2b:CS:=⟨19,70,⟨[.agg q_2],[]⟩,[.one (.o tI)],true,[]⟩
def b4P (x0:ak):OR:=bi (x0.1==1) (on1 (jy N x0.2.1)<|gg [pD (.sl tI)]<|λ(x1:List Int)=>on1 (b2U N x0.2.1)<|gg [pI]<|λ(x2:Int)=>gd (rm x1 [x2] 8)<|some (0,(gD (.sl tI)).dv (x1++[x2]) []))<|bi (x0.1==2) (on1 (jy N x0.2.1)<|gg [pD (.sl tI)]<|λ(x3:List Int)=>on1 (b2U N x0.2.1)<|gg [pI]<|λ(x4:Int)=>gd (rm x3 [x4] 8)<|some (0,(gD (.sl tI)).dv (x3++[x4]) []))<|bi (x0.1==3) (some (0,(gD (.sl tI)).dv [x0.2.1.2.2.1] []))<|bi (x0.1==4) (some (0,(gD (.sl tI)).dv [x0.2.1.2.2.1] []))<|bi (x0.1==7) (some (0,(gD (.sl tI)).dv [x0.2.1.2.1] []))<|bi (x0.1==5) (some (0,(gD (.sl tI)).dv [x0.2.2.1] []))<|bi (x0.1==6) (some (0,(gD (.sl tI)).dv [x0.2.2.1] []))<|bi (x0.1==8) (some (0,(gD (.sl tI)).dv [x0.2.2.1] []))<|bi (x0.1==9) (on1 (jy N x0.2.1)<|gg [pD (.sl tI)]<|λ(x5:List Int)=>some (0,(gD (.sl tI)).dv x5 []))<|some (0,(gD (.sl tI)).dv ([]:List Int) [])
def c2z:CE:=(c2b,mkF [ci] [pD (.sl tI)] (b4P N))
theorem d2a:CEok Q (c2z N):=fn_K aq f70 ⟨[((4,2),c0i),((4,5),c5J),((15,2),c0i)],[],[5,16,23,29,36],[],[]⟩ (dD (d7A N) (d4s N))
def b0p:CS:=⟨20,71,⟨[.one (.d tI)],[]⟩,[.one (.d tB)],true,[]⟩
def a6U (N:Nat) (x0:Int):OR:=bi (decide (x0<1)) (some (0,gB.dv true []))<|some (0,gB.dv (decide (x0>15)) [])
def b0V:CE:=(b0p,mkF [pI] [pB] (a6U N))
theorem b6q:CEok Q (b0V N):=fn_K aq f71 ⟨[],[],[5],[],[]⟩ bA
def b1A:CS:=⟨21,129,⟨[.one (.d (.sl tI)),.one (.f 71 [])],[]⟩,[.one (.d tI)],true,[]⟩
def a9b:LS:=⟨⟨[.one (.d (.sl tI)),.one (.f 71 []),.no,.no,.no,.no,.no,.one (.d tI),.one (.d tI)]++nos 10,[]⟩,[(0,⟨[.no,.no,.no,.no,.one (.d tI)]++nos 14,[]⟩),(1,⟨nos 19,[]⟩)]⟩
def a4h:Hi:=⟨[((4,5),b0p)],[(0,a9b)],[9,16],[],[]⟩
theorem b0H:AllP (CEok Q) [b0V N]:=aR (b6q N)
def a2m (again:Fn' OR [pD (.sl tI),pI,pI]) (x0:List Int) (x1 x2:Int):OR:=bi (decide (x2<x1)) (gd (idx x2 x0.length)<|on1 (a6U N (x0.getD x2.toNat 0))<|gg [pB]<|λ(x3:Bool)=>bi x3 (some (0,gI.dv x2 []))<|again x0 x1 (w.i64 (x2+1)))<|some (1,[])
def a1L:Nat→Fn' OR [pD (.sl tI),pI,pI]:=lpG (a2m N)
theorem b8N:LEok Q a4h (bn f129) f129.ntmps 0 (0,mkM [pD (.sl tI),pI,pI] [(0,[pI]),(1,[])] (a1L N N)):=bU aq 129 a9b (b0H N)
def a8V (x0:List Int):OR:=onB 0 1 (a1L N N x0 (len x0) 0) (gg [pI]<|λ(x1:Int)=>some (0,gI.dv x1 []))<|gg []<|some (0,gI.dv (-1:Int) [])
def b1G:CE:=(b1A,mkF [pD (.sl tI)] [pI] (a8V N))
theorem c1T:CEok Q (b1G N):=fn_L aq f129 a4h (b0H N) (aR (b8N N))
def b0B:CS:=⟨22,69,⟨[.one (.o tI),.one (.f 71 [])],[]⟩,[.one (.o tI)],true,[]⟩
def a8K:LS:=⟨⟨[.one (.o tI),.one (.f 71 []),.no,.no,.no,.one (.d tI),.one (.d tI)]++nos 35,[]⟩,[(1,⟨[.one (.o tI),.no,.no,.no,.no,.one (.d tI)]++nos 36,[]⟩)]⟩
def a3E:Hi:=⟨[((1,2),b1A),((8,2),b0p)],[(0,a8K)],[12,19,29],[],[]⟩
theorem a9r:AllP (CEok Q) [b1G N,b0V N]:=dD (c1T N) (b6q N)
def a3c (again:Fn' OR [pD (.sl tI),pI,pI]) (x0:List Int) (x1 x2:Int):OR:=bi (decide (x2<(len x0))) (gd (idx x2 x0.length)<|on1 (a6U N (x0.getD x2.toNat 0))<|gg [pB]<|λ(x3:Bool)=>bi (!x3) (gd (idx x1 x0.length)<|again (x0.set x1.toNat (x0.getD x2.toNat 0)) (w.i64 (x1+1)) (w.i64 (x2+1)))<|again x0 x1 (w.i64 (x2+1)))<|some (1,(gD (.sl tI)).dv x0 (gI.dv x1 []))
def a3d:Nat→Fn' OR [pD (.sl tI),pI,pI]:=lpG (a3c N)
theorem b7i:LEok Q a3E (bn f69) f69.ntmps 0 (0,mkM [pD (.sl tI),pI,pI] [(1,[pD (.sl tI),pI])] (a3d N N)):=bU aq 69 a8K (a9r N)
def a4Z (x0:List Int):OR:=on1 (a8V N x0)<|gg [pI]<|λ(x1:Int)=>bi (x1==(-1:Int)) (some (0,(gD (.sl tI)).dv x0 []))<|onA 1 (a3d N N x0 x1 (w.i64 (x1+1)))<|gg [pD (.sl tI),pI]<|λ(x2:List Int) (x3:Int)=>gd (sb x3 (len x2))<|gd (sb x3 (len (laid x2 x3.toNat (List.replicate (List.length x2-x3.toNat) (0 :Int)))))<|some (0,(gD (.sl tI)).dv (List.take (x3.toNat-0) (List.drop 0 (laid x2 x3.toNat (List.replicate (List.length x2-x3.toNat) (0 :Int))))) [])
def b0s:CE:=(b0B,mkF [pD (.sl tI)] [pD (.sl tI)] (a4Z N))
theorem c0A:CEok Q (b0s N):=fn_L aq f69 a3E (a9r N) (aR (b7i N))
def c0P:CS:=⟨23,27,⟨[.agg q_2],[]⟩,[.one (.o tI)],true,[]⟩
def b4F (x0:ak):OR:=on1 (b4P N x0)<|gg [pD (.sl tI)]<|λ(x1:List Int)=>on1 (a4Z N x1)<|gg [pD (.sl tI)]<|λ(x2:List Int)=>some (0,(gD (.sl tI)).dv x2 [])
def c1C:CE:=(c0P,mkF [ci] [pD (.sl tI)] (b4F N))
theorem d2Y:CEok Q (c1C N):=fn_K aq f27 ⟨[((1,1),c2b),((1,2),b0B)],[],[],[],[]⟩ (dD (d2a N) (c0A N))
def b9G:CS:=⟨24,75,⟨[.one (.d tI),.one (.p 0 0 Kf),.one (.p 1 0 [1])],[q_3,[.d tI]]⟩,[.one (.d tB)],true,[q_3,[.d tI]]⟩
def b2b (N:Nat) (x0:Int) (x1:aI) (x2:Int):OR:=gd (idx x0 16)<|bi (decide ((x1.A8.getD x0.toNat 0)<0)) (some (0,gB.dv true (iH.dv x1 (gI.dv x2 []))))<|gd (idx x0 16)<|some (0,gB.dv (decide ((x1.A8.getD x0.toNat 0)>x2)) (iH.dv x1 (gI.dv x2 [])))
def b9e:CE:=(b9G,mkF [pI,fu,pI] [pB,fu,pI] (b2b N))
theorem c9z:CEok Q (b9e N):=fn_K aq f75 ⟨[],[],[10],[],[]⟩ bA
def a9o:CS:=⟨25,129,⟨[.one (.d (.sl tI)),.one (.f 75 [⟨0,0,Kf⟩,⟨1,0,[1]⟩])],[q_3,[.d tI]]⟩,[.one (.d tI)],true,[q_3,[.d tI]]⟩
def a7A:LS:=⟨⟨[.one (.d (.sl tI)),.one (.f 75 [⟨0,0,Kf⟩,⟨1,0,[1]⟩]),.no,.no,.no,.no,.no,.one (.d tI),.one (.d tI)]++nos 10,[q_3,[.d tI]]⟩,[(0,⟨[.no,.no,.no,.no,.one (.d tI)]++nos 14,[q_3,[.d tI]]⟩),(1,⟨nos 19,[q_3,[.d tI]]⟩)]⟩
def a2Z:Hi:=⟨[((4,5),b9G)],[(0,a7A)],[9,16],[],[]⟩
theorem a8J:AllP (CEok Q) [b9e N]:=aR (c9z N)
def a1S (again:Fn' OR [pD (.sl tI),pI,pI,fu,pI]) (x0:List Int) (x1 x2:Int) (x3:aI) (x4:Int):OR:=bi (decide (x2<x1)) (gd (idx x2 x0.length)<|on1 (b2b N (x0.getD x2.toNat 0) x3 x4)<|gg [pB,fu,pI]<|λ(x5:Bool) (x6:aI) (x7:Int)=>bi x5 (some (0,gI.dv x2 (iH.dv x6 (gI.dv x7 []))))<|again x0 x1 (w.i64 (x2+1)) x6 x7)<|some (1,iH.dv x3 (gI.dv x4 []))
def a1v:Nat→Fn' OR [pD (.sl tI),pI,pI,fu,pI]:=lpG (a1S N)
theorem b5E:LEok Q a2Z (bn f129) f129.ntmps 2 (0,mkM [pD (.sl tI),pI,pI,fu,pI] [(0,[pI,fu,pI]),(1,[fu,pI])] (a1v N N)):=bU aq 129 a7A (a8J N)
def a6V (x0:List Int) (x1:aI) (x2:Int):OR:=onB 0 1 (a1v N N x0 (len x0) 0 x1 x2) (gg [pI,fu,pI]<|λ(x3:Int) (x4:aI) (x5:Int)=>some (0,gI.dv x3 (iH.dv x4 (gI.dv x5 []))))<|gg [fu,pI]<|λ(x6:aI) (x7:Int)=>some (0,gI.dv (-1:Int) (iH.dv x6 (gI.dv x7 [])))
def a9a:CE:=(a9o,mkF [pD (.sl tI),fu,pI] [pI,fu,pI] (a6V N))
theorem b8R:CEok Q (a9a N):=fn_L aq f129 a2Z (a8J N) (aR (b5E N))
def a8N:CS:=⟨26,74,⟨[.one (.d (.sl tI)),.one (.f 75 [⟨0,0,Kf⟩,⟨1,0,[1]⟩])],[q_3,[.d tI]]⟩,[.one (.d tB)],true,[q_3,[.d tI]]⟩
def a6b (x0:List Int) (x1:aI) (x2:Int):OR:=on1 (a6V N x0 x1 x2)<|gg [pI,fu,pI]<|λ(x3:Int) (x4:aI) (x5:Int)=>some (0,gB.dv (decide (x3≥0)) (iH.dv x4 (gI.dv x5 [])))
def a8Q:CE:=(a8N,mkF [pD (.sl tI),fu,pI] [pB,fu,pI] (a6b N))
theorem b6P:CEok Q (a8Q N):=fn_K aq f74 ⟨[((1,2),a9o)],[],[],[],[]⟩ (aR (b8R N))
def b6m:CS:=⟨27,29,⟨[.agg q_3,.agg q_2,.one (.d tI)],[]⟩,[.one (.d tB)],true,[]⟩
def b3o (x0:aI) (x1:ak) (x2:Int):OR:=on1 (b4F N x1)<|gg [pD (.sl tI)]<|λ(x3:List Int)=>on1 (a6b N x3 x0 x2)<|gg [pB,fu,pI]<|λ(x4:Bool) (x5:aI) (x6:Int)=>some (0,gB.dv (!x4) [])
def b7p:CE:=(b6m,mkF [fu,ci,pI] [pB] (b3o N))
theorem c4i:CEok Q (b7p N):=fn_K aq f29 ⟨[((1,1),c0P),((1,3),a8N)],[],[],[],[]⟩ (dD (d2Y N) (b6P N))
def c4H:CS:=⟨29,68,⟨[.one (.d tI)],[]⟩,[.agg [.d (.ar 16 tI)]],true,[]⟩
def b9g:LS:=⟨⟨[.one (.d tI),.no,.one (.p 0 0 [16]),.one (.p 1 0 [16]),.one (.d tI)]++nos 15,[[.d (.ar 16 tI)],[.d (.ar 16 tI)]]⟩,[(1,⟨[.no,.no,.one (.p 0 0 [16]),.one (.p 1 0 [16])]++nos 16,[[.d (.ar 16 tI)],[.d (.ar 16 tI)]]⟩)]⟩
def b2g:Hi:=⟨[],[(0,b9g)],[6,16],[],[]⟩
theorem c1f (N:Nat):AllP (CEok Q) []:=bA
def a9w (N:Nat) (again:Fn' OR [pI,pI,pD (.ar 16 tI),pD (.ar 16 tI)]) (x0 x1:Int) (x2 x3:List Int):OR:=bi (decide (x1<16)) (gd (idx x1 16)<|gf (decide ((w.u64 x1)<0))<|bi ((cG .i64 (shr .i64 x0 (w.u64 x1)) 1)==1) (gd (idx x1 16)<|again x0 (w.i64 (x1+1)) x2 (List.set (x3.set x1.toNat 2) x1.toNat 1))<|again x0 (w.i64 (x1+1)) x2 (x3.set x1.toNat 2))<|some (1,(gD (.ar 16 tI)).dv x2 ((gD (.ar 16 tI)).dv x3 []))
def a9y:Nat→Fn' OR [pI,pI,pD (.ar 16 tI),pD (.ar 16 tI)]:=lpG (a9w N)
theorem c9N:LEok Q b2g (bn f68) f68.ntmps 0 (0,mkM [pI,pI,pD (.ar 16 tI),pD (.ar 16 tI)] [(1,[pD (.ar 16 tI),pD (.ar 16 tI)])] (a9y N N)):=bU aq 68 b9g (c1f N)
def c3E (x0:Int):OR:=onA 1 (a9y N N x0 1 (List.replicate 16 (0 :Int)) (List.replicate 16 (0 :Int)))<|gg [pD (.ar 16 tI),pD (.ar 16 tI)]<|λ(x1 x2:List Int)=>some (0,(gD (.ar 16 tI)).dv x2 [])
def c3Z:CE:=(c4H,mkF [pI] [pD (.ar 16 tI)] (c3E N))
theorem d4m:CEok Q (c3Z N):=fn_L aq f68 b2g (c1f N) (aR (c9N N))
def jd:CS:=⟨30,42,⟨[.one (.d tI)],[]⟩,[.one (.d tI)],true,[]⟩
def ig (N:Nat) (x0:Int):OR:=bi (decide (x0<1)) (some (0,gI.dv 0 []))<|bi (decide (x0>41)) (some (0,gI.dv 0 []))<|bi (decide (x0≤16)) (some (0,gI.dv 1 []))<|bi (decide (x0≤24)) (some (0,gI.dv 2 []))<|bi (x0==25) (some (0,gI.dv 3 []))<|bi (decide (x0≤30)) (some (0,gI.dv 4 []))<|bi (decide (x0≤33)) (some (0,gI.dv 5 []))<|bi (decide (x0≤39)) (some (0,gI.dv 6 []))<|bi (x0==40) (some (0,gI.dv 7 []))<|some (0,gI.dv 8 [])
def a2O:CE:=(jd,mkF [pI] [pI] (ig N))
theorem jG:CEok Q (a2O N):=fn_K aq f42 ⟨[],[],[3,6,10,13,16,19,22,25,28],[],[]⟩ bA
def b5a:CS:=⟨31,201,⟨[.agg [.d (.sl aK),.d tI,.d (.sl tU)],.one (.d tI)],[]⟩,[.one (.d tI)],true,[]⟩
def f9 (x0:aw) (x1:Int):OR:=gd (idx x1 x0.Code.length)<|on1 (ig N ((x0.Code.getD x1.toNat af.z).1))<|gg [pI]<|λ(x2:Int)=>bi (x2 != 6) (bi (x2 != 7) (some (0,gI.dv (-1:Int) []))<|bi (decide ((x0.Code.getD x1.toNat af.z).2.2.2.2.1<(-8192:Int))) (some (0,gI.dv (-1:Int) []))<|bi (decide ((x0.Code.getD x1.toNat af.z).2.2.2.2.1>8191)) (some (0,gI.dv (-1:Int) []))<|bi (decide ((w.i64 (x1+(x0.Code.getD x1.toNat af.z).2.2.2.2.1))<0)) (some (0,gI.dv (-1:Int) []))<|bi (decide ((w.i64 (x1+(x0.Code.getD x1.toNat af.z).2.2.2.2.1))≥(len x0.Code))) (some (0,gI.dv (-1:Int) []))<|some (0,gI.dv (w.i64 (x1+(x0.Code.getD x1.toNat af.z).2.2.2.2.1)) []))<|bi (decide ((x0.Code.getD x1.toNat af.z).2.2.2.2.1<(-8192:Int))) (some (0,gI.dv (-1:Int) []))<|bi (decide ((x0.Code.getD x1.toNat af.z).2.2.2.2.1>8191)) (some (0,gI.dv (-1:Int) []))<|bi (decide ((w.i64 (x1+(x0.Code.getD x1.toNat af.z).2.2.2.2.1))<0)) (some (0,gI.dv (-1:Int) []))<|bi (decide ((w.i64 (x1+(x0.Code.getD x1.toNat af.z).2.2.2.2.1))≥(len x0.Code))) (some (0,gI.dv (-1:Int) []))<|some (0,gI.dv (w.i64 (x1+(x0.Code.getD x1.toNat af.z).2.2.2.2.1)) [])
def b4M:CE:=(b5a,mkF [bm,pI] [pI] (f9 N))
theorem c0l:CEok Q (b4M N):=fn_K aq f201 ⟨[((2,2),jd)],[],[17,21,26,31,38,47],[],[]⟩ (aR (jG N))
def c4q:CS:=⟨32,164,⟨[.agg [.d (.sl aK),.d tI,.d (.sl tU)]],[]⟩,[.one (.d tI)],true,[]⟩
def b9j:LS:=⟨⟨[.no,.one (.p 0 0 [1,1,1]),.no,.one (.d tI)]++nos 27,[[.d (.sl aK),.d tI,.d (.sl tU)]]⟩,[(0,⟨[.no,.no,.one (.d tI)]++nos 28,[]⟩),(1,⟨nos 31,[]⟩)]⟩
def b2o:Hi:=⟨[((4,6),jd),((5,9),b5a)],[(0,b9j)],[9,21,25,30],[],[]⟩
theorem c1R:AllP (CEok Q) [a2O N,b4M N]:=dD (jG N) (c0l N)
def a6H (again:Fn' OR [pI,bm]) (x0:Int) (x1:aw):OR:=bi (decide (x0<(len x1.Code))) (gd (idx x0 x1.Code.length)<|on1 (ig N ((x1.Code.getD x0.toNat af.z).1))<|gg [pI]<|λ(x2:Int)=>bi (x2==6) (on1 (f9 N x1 x0)<|gg [pI]<|λ(x3:Int)=>bi (decide (x3<0)) (some (0,gI.dv 4 []))<|again (w.i64 (x0+1)) x1)<|bi (x2==7) (on1 (f9 N x1 x0)<|gg [pI]<|λ(x4:Int)=>bi (decide (x4<0)) (some (0,gI.dv 4 []))<|again (w.i64 (x0+1)) x1)<|again (w.i64 (x0+1)) x1)<|some (1,[])
def a5h:Nat→Fn' OR [pI,bm]:=lpG (a6H N)
theorem c9J:LEok Q b2o (bn f164) f164.ntmps 0 (0,mkM [pI,bm] [(0,[pI]),(1,[])] (a5h N N)):=bU aq 164 b9j (c1R N)
def b7X (x0:aw):OR:=onB 0 1 (a5h N N 0 x0) (gg [pI]<|λ(x1:Int)=>some (0,gI.dv x1 []))<|gg []<|some (0,gI.dv 0 [])
def c5z:CE:=(c4q,mkF [bm] [pI] (b7X N))
theorem d6x:CEok Q (c5z N):=fn_L aq f164 b2o (c1R N) (aR (c9J N))
def d2U:CS:=⟨33,133,⟨[.one (.d tI)],[]⟩,[.one (.d tB),.one (.d tB),.one (.d tB),.one (.d tB)],false,[]⟩
def d3S (N:Nat) (x0:Int):OR:=bi (x0==1) (some (0,gB.dv true (gB.dv true (gB.dv true (gB.dv false [])))))<|bi (x0==2) (some (0,gB.dv true (gB.dv true (gB.dv false (gB.dv true [])))))<|bi (x0==4) (some (0,gB.dv true (gB.dv true (gB.dv false (gB.dv true [])))))<|bi (x0==3) (some (0,gB.dv true (gB.dv false (gB.dv false (gB.dv true [])))))<|bi (x0==5) (some (0,gB.dv false (gB.dv true (gB.dv true (gB.dv true [])))))<|bi (x0==6) (some (0,gB.dv false (gB.dv true (gB.dv true (gB.dv true [])))))<|bi (x0==7) (some (0,gB.dv false (gB.dv false (gB.dv false (gB.dv true [])))))<|some (0,gB.dv false (gB.dv false (gB.dv false (gB.dv false []))))
def d2O:CE:=(d2U,mkF [pI] [pB,pB,pB,pB] (d3S N))
theorem d9E:CEok Q (d2O N):=fn_K aq f133 ⟨[],[],[7,9,12,14,17],[],[]⟩ bA
def c6A:CS:=⟨34,214,⟨[.one (.d tI),.one (.d tB)],[]⟩,[.one (.d tB)],true,[]⟩
def d0o (N:Nat) (x0:Int) (x1:Bool):OR:=bi (x0==0) (some (0,gB.dv true []))<|bi x1 (bi (decide (x0>0)) (some (0,gB.dv (decide (x0≤15)) []))<|some (0,gB.dv false []))<|some (0,gB.dv false [])
def d8O:CE:=(c6A,mkF [pI,pB] [pB] (d0o N))
theorem e5P:CEok Q (d8O N):=fn_K aq f214 ⟨[],[],[7,9,13],[],[]⟩ bA
def a4Y:CS:=⟨35,132,⟨[.agg [.d tI,.d tI,.d tI,.d tI,.d tI]],[]⟩,[.one (.d tB)],true,[]⟩
def a4s (x0:af):OR:=on1 (ig N x0.1)<|gg [pI]<|λ(x1:Int)=>on1 (d3S N x1)<|gg [pB,pB,pB,pB]<|λ(x2 x3 x4 x5:Bool)=>bi (x1==0) (some (0,gB.dv false []))<|on1 (d0o N x0.2.1 x2)<|gg [pB]<|λ(x6:Bool)=>bi (!x6) (some (0,gB.dv false []))<|on1 (d0o N x0.2.2.1 x3)<|gg [pB]<|λ(x7:Bool)=>bi (!x7) (some (0,gB.dv false []))<|on1 (d0o N x0.2.2.2.1 x4)<|gg [pB]<|λ(x8:Bool)=>bi (!x8) (some (0,gB.dv false []))<|bi (!x5) (bi (x0.2.2.2.2.1 != 0) (some (0,gB.dv false []))<|bi (x0.1==22) (bi (decide (x0.2.2.2.2.1≥0)) (some (0,gB.dv (decide (x0.2.2.2.2.1≤31)) []))<|some (0,gB.dv false []))<|bi (x0.1==23) (bi (decide (x0.2.2.2.2.1≥0)) (some (0,gB.dv (decide (x0.2.2.2.2.1≤31)) []))<|some (0,gB.dv false []))<|bi (x0.1==24) (bi (decide (x0.2.2.2.2.1≥0)) (some (0,gB.dv (decide (x0.2.2.2.2.1≤31)) []))<|some (0,gB.dv false []))<|bi (decide (x0.2.2.2.2.1≥(-8192:Int))) (some (0,gB.dv (decide (x0.2.2.2.2.1≤8191)) []))<|some (0,gB.dv false []))<|bi (x0.1==22) (bi (decide (x0.2.2.2.2.1≥0)) (some (0,gB.dv (decide (x0.2.2.2.2.1≤31)) []))<|some (0,gB.dv false []))<|bi (x0.1==23) (bi (decide (x0.2.2.2.2.1≥0)) (some (0,gB.dv (decide (x0.2.2.2.2.1≤31)) []))<|some (0,gB.dv false []))<|bi (x0.1==24) (bi (decide (x0.2.2.2.2.1≥0)) (some (0,gB.dv (decide (x0.2.2.2.2.1≤31)) []))<|some (0,gB.dv false []))<|bi (decide (x0.2.2.2.2.1≥(-8192:Int))) (some (0,gB.dv (decide (x0.2.2.2.2.1≤8191)) []))<|some (0,gB.dv false [])
def a4O:CE:=(a4Y,mkF [dX] [pB] (a4s N))
theorem a6B:CEok Q (a4O N):=fn_K aq f132 ⟨[((1,2),jd),((2,1),d2U),((3,6),c6A),((3,13),c6A),((3,20),c6A)],[],[20,27,34,41,44,49,53,58,62,66,74],[],[]⟩ (bP (jG N) (d9E N) (e5P N))
def a3g:CS:=⟨36,102,⟨[.agg [.d (.sl aK),.d tI,.d (.sl tU)]],[]⟩,[.one (.d tB)],true,[]⟩
def b0r:LS:=⟨⟨[.no,.one (.p 0 0 [1,1,1]),.no,.one (.d tI)]++nos 45,[[.d (.sl aK),.d tI,.d (.sl tU)]]⟩,[(0,⟨[.no,.no,.one (.d tB)]++nos 46,[]⟩),(1,⟨[.no,.one (.p 0 0 [1,1,1])]++nos 47,[[.d (.sl aK),.d tI,.d (.sl tU)]]⟩)]⟩
def a4N:Hi:=⟨[((6,5),a4Y),((8,1),c4q)],[(0,b0r)],[8,14,19,24,31,36,45],[],[]⟩
theorem b2k:AllP (CEok Q) [a4O N,c5z N]:=dD (a6B N) (d6x N)
def a2P (again:Fn' OR [pI,bm]) (x0:Int) (x1:aw):OR:=bi (decide (x0<(len x1.Code))) (gd (idx x0 x1.Code.length)<|on1 (a4s N (x1.Code.getD x0.toNat af.z))<|gg [pB]<|λ(x2:Bool)=>bi (!x2) (some (0,gB.dv false []))<|again (w.i64 (x0+1)) x1)<|some (1,iK.dv x1 [])
def a1Z:Nat→Fn' OR [pI,bm]:=lpG (a2P N)
theorem c0b:LEok Q a4N (bn f102) f102.ntmps 0 (0,mkM [pI,bm] [(0,[pB]),(1,[bm])] (a1Z N N)):=bU aq 102 b0r (b2k N)
def kS (x0:aw):OR:=bi (decide ((len x0.Code)<1)) (some (0,gB.dv false []))<|bi (decide ((len x0.Code)>2000)) (some (0,gB.dv false []))<|bi (decide (x0.B8<0)) (some (0,gB.dv false []))<|bi (decide (x0.B8>65536)) (some (0,gB.dv false []))<|bi (decide ((len x0.D1)>x0.B8)) (some (0,gB.dv false []))<|onB 0 1 (a1Z N N 0 x0) (gg [pB]<|λ(x1:Bool)=>some (0,gB.dv x1 []))<|gg [bm]<|λ(x2:aw)=>on1 (b7X N x2)<|gg [pI]<|λ(x3:Int)=>some (0,gB.dv (x3==0) [])
def a3o:CE:=(a3g,mkF [bm] [pB] (kS N))
theorem a4L:CEok Q (a3o N):=fn_L aq f102 a4N (b2k N) (aR (c0b N))
def c1B:CS:=⟨37,197,⟨[.agg [.d (.ar 16 tI)],.one (.d tI)],[]⟩,[.one (.d tB)],true,[]⟩
def b7k (N:Nat) (x0:List Int) (x1:Int):OR:=bi (decide (x1>0)) (gd (idx x1 16)<|some (0,gB.dv ((x0.getD x1.toNat 0)==2) []))<|some (0,gB.dv false [])
def c2x:CE:=(c1B,mkF [pD (.ar 16 tI),pI] [pB] (b7k N))
theorem c8M:CEok Q (c2x N):=fn_K aq f197 ⟨[],[],[7],[],[]⟩ bA
def a6l:CS:=⟨38,72,⟨[.agg [.d tI,.d tI,.d tI,.d tI,.d tI]],[]⟩,[.one (.o tI)],true,[]⟩
def gH (x0:af):OR:=on1 (a4s N x0)<|gg [pB]<|λ(x1:Bool)=>bi (!x1) (some (0,(gD (.sl tI)).dv ([]:List Int) []))<|on1 (ig N x0.1)<|gg [pI]<|λ(x2:Int)=>on1 (d3S N x2)<|gg [pB,pB,pB,pB]<|λ(x3 x4 x5 x6:Bool)=>bi x4 (bi (x0.2.2.1 != 0) (gd (rm ([]:List Int) [x0.2.2.1] 8)<|bi x5 (bi (x0.2.2.2.1 != 0) (gd (rm (([]:List Int)++[x0.2.2.1]) [x0.2.2.2.1] 8)<|some (0,(gD (.sl tI)).dv ((([]:List Int)++[x0.2.2.1])++[x0.2.2.2.1]) []))<|some (0,(gD (.sl tI)).dv (([]:List Int)++[x0.2.2.1]) []))<|some (0,(gD (.sl tI)).dv (([]:List Int)++[x0.2.2.1]) []))<|bi x5 (bi (x0.2.2.2.1 != 0) (gd (rm ([]:List Int) [x0.2.2.2.1] 8)<|some (0,(gD (.sl tI)).dv (([]:List Int)++[x0.2.2.2.1]) []))<|some (0,(gD (.sl tI)).dv ([]:List Int) []))<|some (0,(gD (.sl tI)).dv ([]:List Int) []))<|bi x5 (bi (x0.2.2.2.1 != 0) (gd (rm ([]:List Int) [x0.2.2.2.1] 8)<|some (0,(gD (.sl tI)).dv (([]:List Int)++[x0.2.2.2.1]) []))<|some (0,(gD (.sl tI)).dv ([]:List Int) []))<|some (0,(gD (.sl tI)).dv ([]:List Int) [])
def a8b:CE:=(a6l,mkF [dX] [pD (.sl tI)] (gH N))
theorem b0d:CEok Q (a8b N):=fn_K aq f72 ⟨[((1,1),a4Y),((3,2),jd),((3,3),d2U)],[],[10,21,25,32,36],[],[]⟩ (bP (a6B N) (jG N) (d9E N))
def b8u:CS:=⟨39,198,⟨[.agg [.d (.ar 16 tI)],.one (.d (.sl tI))],[]⟩,[.one (.d tB)],true,[]⟩
def c5U:LS:=⟨⟨[.no,.one (.d (.sl tI)),.one (.p 0 0 [16]),.no,.no,.one (.d tI)]++nos 12,[[.d (.ar 16 tI)]]⟩,[(0,⟨[.no,.no,.no,.no,.one (.d tB)]++nos 13,[]⟩),(1,⟨nos 18,[]⟩)]⟩
def b7U:Hi:=⟨[((4,5),c1B)],[(0,c5U)],[9,17],[],[]⟩
theorem c7e:AllP (CEok Q) [c2x N]:=aR (c8M N)
def b0R (again:Fn' OR [pD (.sl tI),pI,pD (.ar 16 tI)]) (x0:List Int) (x1:Int) (x2:List Int):OR:=bi (decide (x1<(len x0))) (gd (idx x1 x0.length)<|on1 (b7k N x2 (x0.getD x1.toNat 0))<|gg [pB]<|λ(x3:Bool)=>bi x3 (some (0,gB.dv true []))<|again x0 (w.i64 (x1+1)) x2)<|some (1,[])
def a8c:Nat→Fn' OR [pD (.sl tI),pI,pD (.ar 16 tI)]:=lpG (b0R N)
theorem d5o:LEok Q b7U (bn f198) f198.ntmps 0 (0,mkM [pD (.sl tI),pI,pD (.ar 16 tI)] [(0,[pB]),(1,[])] (a8c N N)):=bU aq 198 c5U (c7e N)
def j8 (x0 x1:List Int):OR:=onB 0 1 (a8c N N x1 0 x0) (gg [pB]<|λ(x2:Bool)=>some (0,gB.dv x2 []))<|gg []<|some (0,gB.dv false [])
def b7Q:CE:=(b8u,mkF [pD (.ar 16 tI),pD (.sl tI)] [pB] (j8 N))
theorem c2X:CEok Q (b7Q N):=fn_L aq f198 b7U (c7e N) (aR (d5o N))
def c4h:CS:=⟨40,126,⟨[.agg [.d (.sl aK),.d tI,.d (.sl tU)],.agg [.d (.ar 16 tI)]],[]⟩,[.one (.d tB)],true,[]⟩
def b9k:LS:=⟨⟨[.no,.no,.one (.p 0 0 [1,1,1]),.one (.p 1 0 [16]),.no,.one (.d tI)]++nos 76,[[.d (.sl aK),.d tI,.d (.sl tU)],[.d (.ar 16 tI)]]⟩,[(0,⟨[.no,.no,.no,.no,.one (.d tB)]++nos 77,[]⟩),(1,⟨[.no,.no,.one (.p 0 0 [1,1,1]),.one (.p 1 0 [16])]++nos 78,[[.d (.sl aK),.d tI,.d (.sl tU)],[.d (.ar 16 tI)]]⟩)]⟩
def b9b:LS:=⟨⟨[.no,.no,.one (.p 0 0 [1,1,1]),.one (.p 1 0 [16]),.no,.no,.one (.d tI)]++nos 75,[[.d (.sl aK),.d tI,.d (.sl tU)],[.d (.ar 16 tI)]]⟩,[(0,⟨[.no,.no,.no,.no,.one (.d tB)]++nos 77,[]⟩),(3,⟨nos 82,[]⟩)]⟩
def a6m:Hi:=⟨[((1,1),a3g),((12,2),jd),((13,10),c1B),((15,21),a6l),((15,22),b8u)],[(0,b9k),(2,b9b)],[12,16,18,25,30,35,48,52,57,60,64,69,76,81],[],[]⟩
theorem b5i:AllP (CEok Q) [a3o N,a2O N,c2x N,a8b N,b7Q N]:=bh (a4L N) (bh (jG N) (bP (c8M N) (b0d N) (c2X N)))
def a7t (N:Nat) (again:Fn' OR [pI,bm,pD (.ar 16 tI)]) (x0:Int) (x1:aw) (x2:List Int):OR:=bi (decide (x0<16)) (gd (idx x0 16)<|bi ((x2.getD x0.toNat 0) != 1) (gd (idx x0 16)<|bi ((x2.getD x0.toNat 0) != 2) (some (0,gB.dv false []))<|again (w.i64 (x0+1)) x1 x2)<|again (w.i64 (x0+1)) x1 x2)<|some (1,iK.dv x1 ((gD (.ar 16 tI)).dv x2 []))
def a4P:Nat→Fn' OR [pI,bm,pD (.ar 16 tI)]:=lpG (a7t N)
theorem c9G:LEok Q a6m (bn f126) f126.ntmps 0 (0,mkM [pI,bm,pD (.ar 16 tI)] [(0,[pB]),(1,[bm,pD (.ar 16 tI)])] (a4P N N)):=bU aq 126 b9k (b5i N)
def a6Y (again:Fn' OR [pI,bm,pD (.ar 16 tI)]) (x0:Int) (x1:aw) (x2:List Int):OR:=bi (decide (x0<(len x1.Code))) (gd (idx x0 x1.Code.length)<|on1 (ig N ((x1.Code.getD x0.toNat af.z).1))<|gg [pI]<|λ(x3:Int)=>bi (x3==4) (on1 (b7k N x2 ((x1.Code.getD x0.toNat af.z).2.2.1))<|gg [pB]<|λ(x4:Bool)=>bi x4 (some (0,gB.dv false []))<|bi (decide (x3≥1)) (bi (decide (x3≤3)) (bi (decide ((x1.Code.getD x0.toNat af.z).2.1>0)) (gd (idx (x1.Code.getD x0.toNat af.z).2.1 16)<|bi ((x2.getD (Int.toNat (x1.Code.getD x0.toNat af.z).2.1) 0)==1) (on1 (gH N (x1.Code.getD x0.toNat af.z))<|gg [pD (.sl tI)]<|λ(x5:List Int)=>on1 (j8 N x2 x5)<|gg [pB]<|λ(x6:Bool)=>bi x6 (some (0,gB.dv false []))<|again (w.i64 (x0+1)) x1 x2)<|again (w.i64 (x0+1)) x1 x2)<|again (w.i64 (x0+1)) x1 x2)<|again (w.i64 (x0+1)) x1 x2)<|again (w.i64 (x0+1)) x1 x2)<|bi (x3==5) (on1 (b7k N x2 ((x1.Code.getD x0.toNat af.z).2.2.1))<|gg [pB]<|λ(x7:Bool)=>bi x7 (some (0,gB.dv false []))<|bi (decide (x3≥1)) (bi (decide (x3≤3)) (bi (decide ((x1.Code.getD x0.toNat af.z).2.1>0)) (gd (idx (x1.Code.getD x0.toNat af.z).2.1 16)<|bi ((x2.getD (Int.toNat (x1.Code.getD x0.toNat af.z).2.1) 0)==1) (on1 (gH N (x1.Code.getD x0.toNat af.z))<|gg [pD (.sl tI)]<|λ(x8:List Int)=>on1 (j8 N x2 x8)<|gg [pB]<|λ(x9:Bool)=>bi x9 (some (0,gB.dv false []))<|again (w.i64 (x0+1)) x1 x2)<|again (w.i64 (x0+1)) x1 x2)<|again (w.i64 (x0+1)) x1 x2)<|again (w.i64 (x0+1)) x1 x2)<|again (w.i64 (x0+1)) x1 x2)<|bi (decide (x3≥1)) (bi (decide (x3≤3)) (bi (decide ((x1.Code.getD x0.toNat af.z).2.1>0)) (gd (idx (x1.Code.getD x0.toNat af.z).2.1 16)<|bi ((x2.getD (Int.toNat (x1.Code.getD x0.toNat af.z).2.1) 0)==1) (on1 (gH N (x1.Code.getD x0.toNat af.z))<|gg [pD (.sl tI)]<|λ(x10:List Int)=>on1 (j8 N x2 x10)<|gg [pB]<|λ(x11:Bool)=>bi x11 (some (0,gB.dv false []))<|again (w.i64 (x0+1)) x1 x2)<|again (w.i64 (x0+1)) x1 x2)<|again (w.i64 (x0+1)) x1 x2)<|again (w.i64 (x0+1)) x1 x2)<|again (w.i64 (x0+1)) x1 x2)<|some (3,[])
def a4I:Nat→Fn' OR [pI,bm,pD (.ar 16 tI)]:=lpG (a6Y N)
theorem d0a:LEok Q a6m (bn f126) f126.ntmps 0 (2,mkM [pI,bm,pD (.ar 16 tI)] [(0,[pB]),(3,[])] (a4I N N)):=bU aq 126 b9b (b5i N)
def b3f (x0:aw) (x1:List Int):OR:=on1 (kS N x0)<|gg [pB]<|λ(x2:Bool)=>bi (!x2) (some (0,gB.dv false []))<|gd (idx 0 16)<|bi ((x1.getD 0 0) != 0) (some (0,gB.dv false []))<|onB 0 1 (a4P N N 1 x0 x1) (gg [pB]<|λ(x3:Bool)=>some (0,gB.dv x3 []))<|gg [bm,pD (.ar 16 tI)]<|λ(x4:aw) (x5:List Int)=>onB 0 3 (a4I N N 0 x4 x5) (gg [pB]<|λ(x6:Bool)=>some (0,gB.dv x6 []))<|gg []<|some (0,gB.dv true [])
def c5u:CE:=(c4h,mkF [bm,pD (.ar 16 tI)] [pB] (b3f N))
theorem d5l:CEok Q (c5u N):=fn_L aq f126 a6m (b5i N) (dD (c9G N) (d0a N))
def d0B:CS:=⟨41,257,⟨[.agg [.d tI,.d tI,.d tI,.d tI,.d tI]],[]⟩,[.one (.d tB)],true,[]⟩
def c1A (x0:af):OR:=on1 (ig N x0.1)<|gg [pI]<|λ(x1:Int)=>bi (x1==6) (some (0,gB.dv true []))<|bi (x1==7) (some (0,gB.dv true []))<|some (0,gB.dv (x1==8) [])
def d0q:CE:=(d0B,mkF [dX] [pB] (c1A N))
theorem e0P:CEok Q (d0q N):=fn_K aq f257 ⟨[((1,2),jd)],[],[9,13],[],[]⟩ (aR (jG N))
def c1a:CS:=⟨42,199,⟨[.agg [.d (.sl aK),.d tI,.d (.sl tU)]],[]⟩,[.one (.o tI)],true,[]⟩
def b6v:LS:=⟨⟨[.no,.one (.p 0 0 [1,1,1]),.no,.one (.o tB),.one (.d tI)]++nos 60,[[.d (.sl aK),.d tI,.d (.sl tU)]]⟩,[(1,⟨[.no,.no,.no,.one (.o tB)]++nos 61,[]⟩)]⟩
def b6t:LS:=⟨⟨[.no,.no,.no,.one (.o tB),.no,.no,.one (.o tI),.one (.d tI)]++nos 57,[]⟩,[(3,⟨nos 6++[.one (.o tI)]++nos 58,[]⟩)]⟩
def a4Q:Hi:=⟨[((1,1),a3g),((8,2),b5a),((11,5),d0B)],[(0,b6v),(2,b6t)],[10,21,28,38,45,53,59],[],[]⟩
theorem b2t:AllP (CEok Q) [a3o N,b4M N,d0q N]:=bP (a4L N) (c0l N) (e0P N)
def a8l (again:Fn' OR [pD (.sl tB),pI,bm]) (x0:List Bool) (x1:Int) (x2:aw):OR:=bi (decide (x1<(len x2.Code))) (on1 (f9 N x2 x1)<|gg [pI]<|λ(x3:Int)=>bi (decide (x3≥0)) (gd (idx x3 x0.length)<|gd (idx x1 x2.Code.length)<|on1 (c1A N (x2.Code.getD x1.toNat af.z))<|gg [pB]<|λ(x4:Bool)=>bi x4 (bi (decide ((w.i64 (x1+1))<(len x2.Code))) (gd (idx (w.i64 (x1+1)) (List.length (x0.set x3.toNat true)))<|again (List.set (x0.set x3.toNat true) (Int.toNat (w.i64 (x1+1))) true) (w.i64 (x1+1)) x2)<|again (x0.set x3.toNat true) (w.i64 (x1+1)) x2)<|again (x0.set x3.toNat true) (w.i64 (x1+1)) x2)<|gd (idx x1 x2.Code.length)<|on1 (c1A N (x2.Code.getD x1.toNat af.z))<|gg [pB]<|λ(x5:Bool)=>bi x5 (bi (decide ((w.i64 (x1+1))<(len x2.Code))) (gd (idx (w.i64 (x1+1)) x0.length)<|again (x0.set (Int.toNat (w.i64 (x1+1))) true) (w.i64 (x1+1)) x2)<|again x0 (w.i64 (x1+1)) x2)<|again x0 (w.i64 (x1+1)) x2)<|some (1,(gD (.sl tB)).dv x0 [])
def a5z:Nat→Fn' OR [pD (.sl tB),pI,bm]:=lpG (a8l N)
theorem c8A:LEok Q a4Q (bn f199) f199.ntmps 0 (0,mkM [pD (.sl tB),pI,bm] [(1,[pD (.sl tB)])] (a5z N N)):=bU aq 199 b6v (b2t N)
def a8B (N:Nat) (again:Fn' OR [pD (.sl tB),pD (.sl tI),pI]) (x0:List Bool) (x1:List Int) (x2:Int):OR:=bi (decide (x2<(len x0))) (gd (idx x2 x0.length)<|bi (x0.getD x2.toNat false) (gd (rm x1 [x2] 8)<|again x0 (x1++[x2]) (w.i64 (x2+1)))<|again x0 x1 (w.i64 (x2+1)))<|some (3,(gD (.sl tI)).dv x1 [])
def a8s:Nat→Fn' OR [pD (.sl tB),pD (.sl tI),pI]:=lpG (a8B N)
theorem c7F:LEok Q a4Q (bn f199) f199.ntmps 0 (2,mkM [pD (.sl tB),pD (.sl tI),pI] [(3,[pD (.sl tI)])] (a8s N N)):=bU aq 199 b6t (b2t N)
def b4W (x0:aw):OR:=on1 (kS N x0)<|gg [pB]<|λ(x1:Bool)=>bi (!x1) (some (0,(gD (.sl tI)).dv ([]:List Int) []))<|gd (decide (0≤(len x0.Code)∧(len x0.Code)≤(len x0.Code)∧(len x0.Code)*((1:Nat):Int)≤((dQ:Nat):Int)∧(len x0.Code)≤((dQ:Nat):Int)))<|gd (idx 0 (List.length (List.replicate (len x0.Code).toNat false)))<|onA 1 (a5z N N (List.set (List.replicate (len x0.Code).toNat false) 0 true) 0 x0)<|gg [pD (.sl tB)]<|λ(x2:List Bool)=>onA 3 (a8s N N x2 ([]:List Int) 0)<|gg [pD (.sl tI)]<|λ(x3:List Int)=>some (0,(gD (.sl tI)).dv x3 [])
def c1J:CE:=(c1a,mkF [bm] [pD (.sl tI)] (b4W N))
theorem d2Q:CEok Q (c1J N):=fn_L aq f199 a4Q (b2t N) (dD (c8A N) (c7F N))
def b7E:CS:=⟨43,200,⟨[.one (.d (.sl tI)),.one (.d tI)],[]⟩,[.one (.d tI)],true,[]⟩
def c5i:LS:=⟨⟨[.one (.d (.sl tI)),.one (.d tI),.no,.no,.no,.one (.d tI)]++nos 13,[]⟩,[(0,⟨[.no,.no,.no,.no,.one (.d tI)]++nos 14,[]⟩),(1,⟨nos 19,[]⟩)]⟩
def b7M:Hi:=⟨[],[(0,c5i)],[9,17],[],[]⟩
theorem c8i (N:Nat):AllP (CEok Q) []:=bA
def b1b (N:Nat) (again:Fn' OR [pD (.sl tI),pI,pI]) (x0:List Int) (x1 x2:Int):OR:=bi (decide (x2<(len x0))) (gd (idx x2 x0.length)<|bi ((x0.getD x2.toNat 0)==x1) (some (0,gI.dv x2 []))<|again x0 x1 (w.i64 (x2+1)))<|some (1,[])
def a7L:Nat→Fn' OR [pD (.sl tI),pI,pI]:=lpG (b1b N)
theorem d5e:LEok Q b7M (bn f200) f200.ntmps 0 (0,mkM [pD (.sl tI),pI,pI] [(0,[pI]),(1,[])] (a7L N N)):=bU aq 200 c5i (c8i N)
def fM (x0:List Int) (x1:Int):OR:=onB 0 1 (a7L N N x0 x1 0) (gg [pI]<|λ(x2:Int)=>some (0,gI.dv x2 []))<|gg []<|some (0,gI.dv (-1:Int) [])
def c2N:CE:=(b7E,mkF [pD (.sl tI),pI] [pI] (fM N))
theorem d0w:CEok Q (c2N N):=fn_L aq f200 b7M (c8i N) (aR (d5e N))
def d5Y:CS:=⟨44,127,⟨[.agg [.d (.sl aK),.d tI,.d (.sl tU)]],[]⟩,[.one (.o Kc)],true,[]⟩
def c7z:LS:=⟨⟨[.no,.one (.p 0 0 [1,1,1]),.no,.one (.o tI),.one (.o Kc),.one (.d tI)]++nos 66,[[.d (.sl aK),.d tI,.d (.sl tU)]]⟩,[(1,⟨[.no,.no,.no,.no,.one (.o Kc)]++nos 67,[]⟩)]⟩
def c0Q:Hi:=⟨[((1,1),c1a),((11,3),b7E),((12,4),b5a),((14,2),b7E)],[(0,c7z)],[14,29,46,50,62],[],[]⟩
theorem d1s:AllP (CEok Q) [c1J N,c2N N,b4M N]:=bP (d2Q N) (d0w N) (c0l N)
def b8g (again:Fn' OR [pD (.sl tI),pD (.sl Kc),pI,bm]) (x0:List Int) (x1:List (Int × (Int × (Int × (Int × (Unit × (Unit × Unit))))))) (x2:Int) (x3:aw):OR:=bi (decide (x2<(len x0))) (gd (idx x2 x0.length)<|bi (decide ((w.i64 (x2+1))<(len x0))) (gd (idx (w.i64 (x2+1)) x0.length)<|gd (idx (w.i64 ((x0.getD (Int.toNat (w.i64 (x2+1))) 0)-1)) x3.Code.length)<|bi ((x3.Code.getD (Int.toNat (w.i64 ((x0.getD (Int.toNat (w.i64 (x2+1))) 0)-1))) af.z).1 != 40) (bi ((x3.Code.getD (Int.toNat (w.i64 ((x0.getD (Int.toNat (w.i64 (x2+1))) 0)-1))) af.z).1 != 41) (on1 (fM N x0 (x0.getD (Int.toNat (w.i64 (x2+1))) 0))<|gg [pI]<|λ(x4:Int)=>on1 (f9 N x3 (w.i64 ((x0.getD (Int.toNat (w.i64 (x2+1))) 0)-1)))<|gg [pI]<|λ(x5:Int)=>bi (decide (x5≥0)) (on1 (fM N x0 x5)<|gg [pI]<|λ(x6:Int)=>gd (rm x1 [((x0.getD x2.toNat 0),((x0.getD (Int.toNat (w.i64 (x2+1))) 0),(x4,(x6,((),((),()))))))] 80)<|again x0 (x1++[((x0.getD x2.toNat 0),((x0.getD (Int.toNat (w.i64 (x2+1))) 0),(x4,(x6,((),((),()))))))]) (w.i64 (x2+1)) x3)<|gd (rm x1 [((x0.getD x2.toNat 0),((x0.getD (Int.toNat (w.i64 (x2+1))) 0),(x4,((-1:Int),((),((),()))))))] 80)<|again x0 (x1++[((x0.getD x2.toNat 0),((x0.getD (Int.toNat (w.i64 (x2+1))) 0),(x4,((-1:Int),((),((),()))))))]) (w.i64 (x2+1)) x3)<|on1 (f9 N x3 (w.i64 ((x0.getD (Int.toNat (w.i64 (x2+1))) 0)-1)))<|gg [pI]<|λ(x7:Int)=>bi (decide (x7≥0)) (on1 (fM N x0 x7)<|gg [pI]<|λ(x8:Int)=>gd (rm x1 [((x0.getD x2.toNat 0),((x0.getD (Int.toNat (w.i64 (x2+1))) 0),((-1:Int),(x8,((),((),()))))))] 80)<|again x0 (x1++[((x0.getD x2.toNat 0),((x0.getD (Int.toNat (w.i64 (x2+1))) 0),((-1:Int),(x8,((),((),()))))))]) (w.i64 (x2+1)) x3)<|gd (rm x1 [((x0.getD x2.toNat 0),((x0.getD (Int.toNat (w.i64 (x2+1))) 0),((-1:Int),((-1:Int),((),((),()))))))] 80)<|again x0 (x1++[((x0.getD x2.toNat 0),((x0.getD (Int.toNat (w.i64 (x2+1))) 0),((-1:Int),((-1:Int),((),((),()))))))]) (w.i64 (x2+1)) x3)<|on1 (f9 N x3 (w.i64 ((x0.getD (Int.toNat (w.i64 (x2+1))) 0)-1)))<|gg [pI]<|λ(x9:Int)=>bi (decide (x9≥0)) (on1 (fM N x0 x9)<|gg [pI]<|λ(x10:Int)=>gd (rm x1 [((x0.getD x2.toNat 0),((x0.getD (Int.toNat (w.i64 (x2+1))) 0),((-1:Int),(x10,((),((),()))))))] 80)<|again x0 (x1++[((x0.getD x2.toNat 0),((x0.getD (Int.toNat (w.i64 (x2+1))) 0),((-1:Int),(x10,((),((),()))))))]) (w.i64 (x2+1)) x3)<|gd (rm x1 [((x0.getD x2.toNat 0),((x0.getD (Int.toNat (w.i64 (x2+1))) 0),((-1:Int),((-1:Int),((),((),()))))))] 80)<|again x0 (x1++[((x0.getD x2.toNat 0),((x0.getD (Int.toNat (w.i64 (x2+1))) 0),((-1:Int),((-1:Int),((),((),()))))))]) (w.i64 (x2+1)) x3)<|gd (idx (w.i64 ((len x3.Code)-1)) x3.Code.length)<|bi ((x3.Code.getD (Int.toNat (w.i64 ((len x3.Code)-1))) af.z).1 != 40) (bi ((x3.Code.getD (Int.toNat (w.i64 ((len x3.Code)-1))) af.z).1 != 41) (on1 (fM N x0 (len x3.Code))<|gg [pI]<|λ(x11:Int)=>on1 (f9 N x3 (w.i64 ((len x3.Code)-1)))<|gg [pI]<|λ(x12:Int)=>bi (decide (x12≥0)) (on1 (fM N x0 x12)<|gg [pI]<|λ(x13:Int)=>gd (rm x1 [((x0.getD x2.toNat 0),((len x3.Code),(x11,(x13,((),((),()))))))] 80)<|again x0 (x1++[((x0.getD x2.toNat 0),((len x3.Code),(x11,(x13,((),((),()))))))]) (w.i64 (x2+1)) x3)<|gd (rm x1 [((x0.getD x2.toNat 0),((len x3.Code),(x11,((-1:Int),((),((),()))))))] 80)<|again x0 (x1++[((x0.getD x2.toNat 0),((len x3.Code),(x11,((-1:Int),((),((),()))))))]) (w.i64 (x2+1)) x3)<|on1 (f9 N x3 (w.i64 ((len x3.Code)-1)))<|gg [pI]<|λ(x14:Int)=>bi (decide (x14≥0)) (on1 (fM N x0 x14)<|gg [pI]<|λ(x15:Int)=>gd (rm x1 [((x0.getD x2.toNat 0),((len x3.Code),((-1:Int),(x15,((),((),()))))))] 80)<|again x0 (x1++[((x0.getD x2.toNat 0),((len x3.Code),((-1:Int),(x15,((),((),()))))))]) (w.i64 (x2+1)) x3)<|gd (rm x1 [((x0.getD x2.toNat 0),((len x3.Code),((-1:Int),((-1:Int),((),((),()))))))] 80)<|again x0 (x1++[((x0.getD x2.toNat 0),((len x3.Code),((-1:Int),((-1:Int),((),((),()))))))]) (w.i64 (x2+1)) x3)<|on1 (f9 N x3 (w.i64 ((len x3.Code)-1)))<|gg [pI]<|λ(x16:Int)=>bi (decide (x16≥0)) (on1 (fM N x0 x16)<|gg [pI]<|λ(x17:Int)=>gd (rm x1 [((x0.getD x2.toNat 0),((len x3.Code),((-1:Int),(x17,((),((),()))))))] 80)<|again x0 (x1++[((x0.getD x2.toNat 0),((len x3.Code),((-1:Int),(x17,((),((),()))))))]) (w.i64 (x2+1)) x3)<|gd (rm x1 [((x0.getD x2.toNat 0),((len x3.Code),((-1:Int),((-1:Int),((),((),()))))))] 80)<|again x0 (x1++[((x0.getD x2.toNat 0),((len x3.Code),((-1:Int),((-1:Int),((),((),()))))))]) (w.i64 (x2+1)) x3)<|some (1,(gD (.sl Kc)).dv x1 [])
def iB:Nat→Fn' OR [pD (.sl tI),pD (.sl Kc),pI,bm]:=lpG (b8g N)
theorem d7N:LEok Q c0Q (bn f127) f127.ntmps 0 (0,mkM [pD (.sl tI),pD (.sl Kc),pI,bm] [(1,[pD (.sl Kc)])] (iB N N)):=bU e6o 127 c7z (d1s N)
def d2H (x0:aw):OR:=on1 (b4W N x0)<|gg [pD (.sl tI)]<|λ(x1:List Int)=>onA 1 (iB N N x1 ([]:List (Int × (Int × (Int × (Int × (Unit × (Unit × Unit))))))) 0 x0)<|gg [pD (.sl Kc)]<|λ(x2:List (Int × (Int × (Int × (Int × (Unit × (Unit × Unit)))))))=>some (0,(gD (.sl Kc)).dv x2 [])
def d5O:CE:=(d5Y,mkF [bm] [pD (.sl Kc)] (d2H N))
theorem e2G:CEok Q (d5O N):=fn_L e6o f127 c0Q (d1s N) (aR (d7N N))
end
end Go.Proofs.Zz
