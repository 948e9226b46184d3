import Derived.Test.YtnfpdmhdpeffjaaGreatKT
set_option linter.unusedSimpArgs false
set_option linter.unusedVariables false
/- What functions of the program compute, as plain functions. -/
set_option maxRecDepth 100000
namespace Go.Proofs.Zz
noncomputable section
open Go Go.Proofs.Tryz
def a2p:CS:=⟨0,134,⟨[.one (.d (.sl a0k))],[]⟩,[.one (.o a0k)],true,[]⟩
def a6g:Hi:=⟨[],[],[4],[],[]⟩
theorem f1u:Fn Q 134 f134 (codeOf f134):=by constructor <;> kernel_rfl
def a1a (N:Nat) (x0:List a0q):Option Rs :=
 gd (rm [] x0 16) <|
 some (0,(gD (.sl a0k)).dv ([]++x0) [])
def a2n (N:Nat):CE:=(a2p,mkF [pD (.sl a0k)] [pD (.sl a0k)] (a1a N))
theorem a3F (N:Nat):CEok Q (a2n N):=c4B fun ys a q h =>
  b4D a0r hmix (hi:=a6g) rfl rfl rfl rfl rfl f1u (by kernel_rfl) (by kernel_rfl) (by kernel_rfl) (fun hx=>by
   obtain ⟨x,_⟩:=ys
   have hx:x = ([]:List (Den a0k)):=hx
   subst hx
   exact (show denC cx0 a6g (ctL []) (ltL []) f134 (codeOf f134) a0k .nl = a1a N [] by kernel_rfl).trans h) ((show ∀ ys:TupG [pD (.sl a0k)],denC cx0 a6g (ctL []) (ltL []) f134 (codeOf f134) a0k (.nn a0k ys.1) = a1a N ys.1 from fun ys=>by kernel_rfl) ys |>.trans h)
def a3l (N:Nat) (x0:List Int):Option Rs :=
 gd (rm [] x0 4) <|
 some (0,(gD (.sl tW)).dv ([]++x0) [])
def a5c (N:Nat) (x0:List Bool):Option Rs :=
 gd (rm [] x0 1) <|
 some (0,(gD (.sl tB)).dv ([]++x0) [])
def a5p:CS:=⟨3,137,⟨[.one (.d (.sl a0t))],[]⟩,[.one (.o a0t)],true,[]⟩
def a5w:Hi:=⟨[],[],[4],[],[]⟩
theorem f1T:Fn Q 137 f137 (codeOf f137):=by constructor <;> kernel_rfl
def a1B (N:Nat) (x0:List a0a):Option Rs :=
 gd (rm [] x0 32) <|
 some (0,(gD (.sl a0t)).dv ([]++x0) [])
def a5n (N:Nat):CE:=(a5p,mkF [pD (.sl a0t)] [pD (.sl a0t)] (a1B N))
theorem a9g (N:Nat):CEok Q (a5n N):=c4B fun ys a q h =>
  b4D a0r hmix (hi:=a5w) rfl rfl rfl rfl rfl f1T (by kernel_rfl) (by kernel_rfl) (by kernel_rfl) (fun hx=>by
   obtain ⟨x,_⟩:=ys
   have hx:x = ([]:List (Den a0t)):=hx
   subst hx
   exact (show denC cx0 a5w (ctL []) (ltL []) f137 (codeOf f137) a0t .nl = a1B N [] by kernel_rfl).trans h) ((show ∀ ys:TupG [pD (.sl a0t)],denC cx0 a5w (ctL []) (ltL []) f137 (codeOf f137) a0t (.nn a0t ys.1) = a1B N ys.1 from fun ys=>by kernel_rfl) ys |>.trans h)
def a2e (N:Nat) (x0:List a0e):Option Rs :=
 gd (rm [] x0 64) <|
 some (0,(gD (.sl a0j)).dv ([]++x0) [])
def b5I:CS:=⟨5,139,⟨[.one (.d (.sl tU))],[]⟩,[.one (.o tU)],true,[]⟩
def b0E:Hi:=⟨[],[],[4],[],[]⟩
theorem f0K:Fn Q 139 f139 (codeOf f139):=by constructor <;> kernel_rfl
def a7k (N:Nat) (x0:List Int):Option Rs :=
 gd (rm [] x0 1) <|
 some (0,(gD (.sl tU)).dv ([]++x0) [])
def b7z (N:Nat):CE:=(b5I,mkF [pD (.sl tU)] [pD (.sl tU)] (a7k N))
theorem c8f (N:Nat):CEok Q (b7z N):=c4B fun ys a q h =>
  b4D a0r hmix (hi:=b0E) rfl rfl rfl rfl rfl f0K (by kernel_rfl) (by kernel_rfl) (by kernel_rfl) (fun hx=>by
   obtain ⟨x,_⟩:=ys
   have hx:x = ([]:List (Den tU)):=hx
   subst hx
   exact (show denC cx0 b0E (ctL []) (ltL []) f139 (codeOf f139) tU .nl = a7k N [] by kernel_rfl).trans h) ((show ∀ ys:TupG [pD (.sl tU)],denC cx0 b0E (ctL []) (ltL []) f139 (codeOf f139) tU (.nn tU ys.1) = a7k N ys.1 from fun ys=>by kernel_rfl) ys |>.trans h)
def a9p:CS:=⟨6,140,⟨[.one (.d (.sl a0Q))],[]⟩,[.one (.o a0Q)],true,[]⟩
def a5o:Hi:=⟨[],[],[4],[],[]⟩
theorem e9I:Fn Q 140 f140 (codeOf f140):=by constructor <;> kernel_rfl
def a2I (N:Nat) (x0:List a0K):Option Rs :=
 gd (rm [] x0 24) <|
 some (0,(gD (.sl a0Q)).dv ([]++x0) [])
def a9n (N:Nat):CE:=(a9p,mkF [pD (.sl a0Q)] [pD (.sl a0Q)] (a2I N))
theorem b8K (N:Nat):CEok Q (a9n N):=c4B fun ys a q h =>
  b4D a0r hmix (hi:=a5o) rfl rfl rfl rfl rfl e9I (by kernel_rfl) (by kernel_rfl) (by kernel_rfl) (fun hx=>by
   obtain ⟨x,_⟩:=ys
   have hx:x = ([]:List (Den a0Q)):=hx
   subst hx
   exact (show denC cx0 a5o (ctL []) (ltL []) f140 (codeOf f140) a0Q .nl = a2I N [] by kernel_rfl).trans h) ((show ∀ ys:TupG [pD (.sl a0Q)],denC cx0 a5o (ctL []) (ltL []) f140 (codeOf f140) a0Q (.nn a0Q ys.1) = a2I N ys.1 from fun ys=>by kernel_rfl) ys |>.trans h)
def b4K (N:Nat) (x0:a0b):Option Rs :=
 on1 (a1a N x0.Ldq)<|gg [pD (.sl a0k)]<|fun (x1:List a0q) =>
 on1 (a3l N x0.Sdq)<|gg [pD (.sl tW)]<|fun (x2:List Int) =>
 on1 (a3l N x0.Aeq)<|gg [pD (.sl tW)]<|fun (x3:List Int) =>
 on1 (a5c N x0.Abq)<|gg [pD (.sl tB)]<|fun (x4:List Bool) =>
 on1 (a5c N x0.Ebq)<|gg [pD (.sl tB)]<|fun (x5:List Bool) =>
 on1 (a1B N x0.Saq)<|gg [pD (.sl a0t)]<|fun (x6:List a0a) =>
 on1 (a2e N x0.Table)<|gg [pD (.sl a0j)]<|fun (x7:List a0e) =>
 on1 (a7k N x0.Mem)<|gg [pD (.sl tU)]<|fun (x8:List Int) =>
 on1 (a2I N x0.Writes)<|gg [pD (.sl a0Q)]<|fun (x9:List a0K) =>
 some (0,a0c.dv ({ x0 with Ldq:=x1,Sdq:=x2,Aeq:=x3,Abq:=x4,Ebq:=x5,Saq:=x6,Table:=x7,Mem:=x8,Writes:=x9 }:a0b) [])
def a6j:CS:=⟨8,79,⟨[.one (.p 0 0 [1,16,16,1,1,1,1,1,1,16,16,1,1,1,1,1,1,1,1,1,1,1,1,1,1,1,1,1,1,1,1,1]),.one (.d tI),.one (.d tI),.one (.d tI)],[q_1]⟩,[],false,[q_1]⟩
def d4t:Hi:=⟨[],[],[14,22],[],[]⟩
theorem f_79:Fn Q 79 f79 (codeOf f79):=by constructor <;> kernel_rfl
def a6z (N:Nat) (x0:Int) (x1:Int) (x2:Int) (x3:a0b):Option Rs :=
 bi (x3.Trap.Kind == 0) (
  some (0,a0c.dv ({ x3 with Trap:=(a1X.mk x0 x1 x2) }:a0b) [])) <|
 bi (decide (x3.Trap.Step > x1)) (
  some (0,a0c.dv ({ x3 with Trap:=(a1X.mk x0 x1 x2) }:a0b) [])) <|
 some (0,a0c.dv x3 [])
def a6w (N:Nat):CE:=(a6j,mkF [pI,pI,pI,a0d] [a0d] (a6z N))
theorem a8P (N:Nat):CEok Q (a6w N) :=
 fnG (hi:=d4t) (l:=[]) (t:=[]) a0r hmix trivial trivial f_79 (by kernel_rfl) (by kernel_rfl) trivial fun ys=>by kernel_rfl
def b2K:CS:=⟨10,210,⟨[.one (.d tI)],[]⟩,[.one (.d tI)],true,[]⟩
def e0V:Hi:=⟨[],[],[3,6,10,13,16,19,22,25,28],[],[]⟩
theorem e9z:Fn Q 210 f210 (codeOf f210):=by constructor <;> kernel_rfl
def b8x (N:Nat) (x0:Int):Option Rs :=
 bi (decide (x0 < 1)) (
  some (0,gI.dv 0 [])) <|
 bi (decide (x0 > 41)) (
  some (0,gI.dv 0 [])) <|
 bi (decide (x0≤16)) (
  some (0,gI.dv 1 [])) <|
 bi (decide (x0≤24)) (
  some (0,gI.dv 2 [])) <|
 bi (x0 == 25) (
  some (0,gI.dv 3 [])) <|
 bi (decide (x0≤30)) (
  some (0,gI.dv 4 [])) <|
 bi (decide (x0≤33)) (
  some (0,gI.dv 5 [])) <|
 bi (decide (x0≤39)) (
  some (0,gI.dv 6 [])) <|
 bi (x0 == 40) (
  some (0,gI.dv 7 [])) <|
 some (0,gI.dv 8 [])
def b2I (N:Nat):CE:=(b2K,mkF [pI] [pI] (b8x N))
theorem b8k (N:Nat):CEok Q (b2I N) :=
 fnG (hi:=e0V) (l:=[]) (t:=[]) a0r hmix trivial trivial e9z (by kernel_rfl) (by kernel_rfl) trivial fun ys=>by kernel_rfl
def c3N:CS:=⟨11,213,⟨[.one (.d tI)],[]⟩,[.one (.d tB)],true,[]⟩
def d9V:Hi:=⟨[],[],[5],[],[]⟩
theorem f0W:Fn Q 213 f213 (codeOf f213):=by constructor <;> kernel_rfl
def b1N (N:Nat) (x0:Int):Option Rs :=
 bi (decide (x0≥1)) (
  some (0,gB.dv (decide (x0≤4)) [])) <|
 some (0,gB.dv false [])
def c2K (N:Nat):CE:=(c3N,mkF [pI] [pB] (b1N N))
theorem d1Q (N:Nat):CEok Q (c2K N) :=
 fnG (hi:=d9V) (l:=[]) (t:=[]) a0r hmix trivial trivial f0W (by kernel_rfl) (by kernel_rfl) trivial fun ys=>by kernel_rfl
def a8E:CS:=⟨12,258,⟨[.one (.d tI),.one (.d tB),.one (.d tI),.one (.d tI)],[]⟩,[.one (.d tB)],true,[]⟩
def d4R:Hi:=⟨[],[],[10,16],[],[]⟩
theorem e9W:Fn Q 258 f258 (codeOf f258):=by constructor <;> kernel_rfl
def a1k (N:Nat) (x0:Int) (x1:Bool) (x2:Int) (x3:Int):Option Rs :=
 bi (!x1) (
  some (0,gB.dv (x0 == 0) [])) <|
 bi (decide (x0≥x2)) (
  some (0,gB.dv (decide (x0≤x3)) [])) <|
 some (0,gB.dv false [])
def c4w (N:Nat):CE:=(a8E,mkF [pI,pB,pI,pI] [pB] (a1k N))
theorem d4X (N:Nat):CEok Q (c4w N) :=
 fnG (hi:=d4R) (l:=[]) (t:=[]) a0r hmix trivial trivial e9W (by kernel_rfl) (by kernel_rfl) trivial fun ys=>by kernel_rfl
def c3c:CS:=⟨13,211,⟨[.one (.d tI)],[]⟩,[.one (.d tB)],true,[]⟩
def e0G:Hi:=⟨[],[],[5,9,13,17],[],[]⟩
theorem f1G:Fn Q 211 f211 (codeOf f211):=by constructor <;> kernel_rfl
def b2r (N:Nat) (x0:Int):Option Rs :=
 bi (x0 == 1) (
  some (0,gB.dv true [])) <|
 bi (x0 == 2) (
  some (0,gB.dv true [])) <|
 bi (x0 == 4) (
  some (0,gB.dv true [])) <|
 bi (x0 == 5) (
  some (0,gB.dv true [])) <|
 some (0,gB.dv (x0 == 6) [])
def c3L (N:Nat):CE:=(c3c,mkF [pI] [pB] (b2r N))
theorem d0O (N:Nat):CEok Q (c3L N) :=
 fnG (hi:=e0G) (l:=[]) (t:=[]) a0r hmix trivial trivial f1G (by kernel_rfl) (by kernel_rfl) trivial fun ys=>by kernel_rfl
def c2P:CS:=⟨14,212,⟨[.one (.d tI)],[]⟩,[.one (.d tB)],true,[]⟩
def e1x:Hi:=⟨[],[],[5,9],[],[]⟩
theorem f1i:Fn Q 212 f212 (codeOf f212):=by constructor <;> kernel_rfl
def a8k (N:Nat) (x0:Int):Option Rs :=
 bi (x0 == 1) (
  some (0,gB.dv true [])) <|
 bi (x0 == 5) (
  some (0,gB.dv true [])) <|
 some (0,gB.dv (x0 == 6) [])
def c2Z (N:Nat):CE:=(c2P,mkF [pI] [pB] (a8k N))
theorem d0t (N:Nat):CEok Q (c2Z N) :=
 fnG (hi:=e1x) (l:=[]) (t:=[]) a0r hmix trivial trivial f1i (by kernel_rfl) (by kernel_rfl) trivial fun ys=>by kernel_rfl
def c3U:CS:=⟨15,259,⟨[.one (.d tI)],[]⟩,[.one (.d tB)],true,[]⟩
def d5Q:Hi:=⟨[],[],[5],[],[]⟩
theorem f0V:Fn Q 259 f259 (codeOf f259):=by constructor <;> kernel_rfl
def a8g (N:Nat) (x0:Int):Option Rs :=
 bi (decide (x0≥2)) (
  some (0,gB.dv (decide (x0≤7)) [])) <|
 some (0,gB.dv false [])
def c5Z (N:Nat):CE:=(c3U,mkF [pI] [pB] (a8g N))
theorem d4u (N:Nat):CEok Q (c5Z N) :=
 fnG (hi:=d5Q) (l:=[]) (t:=[]) a0r hmix trivial trivial f0V (by kernel_rfl) (by kernel_rfl) trivial fun ys=>by kernel_rfl
def b4b:CS:=⟨16,209,⟨[.agg [.d tI,.d tI,.d tI,.d tI,.d tI]],[]⟩,[.one (.d tB)],true,[]⟩
def d7r:Hi:=⟨[((1,2),b2K),((5,6),c3N),((5,7),a8E),((5,13),c3c),((5,14),a8E),((5,20),c2P),((5,21),a8E),((5,27),c3U),((5,30),a8E)],[],[12,17,21,24,31,38,45],[],[]⟩
theorem f1A:Fn Q 209 f209 (codeOf f209):=by constructor <;> kernel_rfl
def b2H (N:Nat) (x0:a0o):Option Rs :=
 on1 (b8x N x0.1)<|gg [pI]<|fun (x1:Int) =>
 bi (x0.1 == 22) (
  bi (decide (x1 > 0)) (
   on1 (b1N N x1)<|gg [pB]<|fun (x2:Bool) =>
   on1 (a1k N x0.2.1 x2 0 15)<|gg [pB]<|fun (x3:Bool) =>
   bi x3 (
    on1 (b2r N x1)<|gg [pB]<|fun (x4:Bool) =>
    on1 (a1k N x0.2.2.1 x4 0 15)<|gg [pB]<|fun (x5:Bool) =>
    bi x5 (
     on1 (a8k N x1)<|gg [pB]<|fun (x6:Bool) =>
     on1 (a1k N x0.2.2.2.1 x6 0 15)<|gg [pB]<|fun (x7:Bool) =>
     bi x7 (
      on1 (a8g N x1)<|gg [pB]<|fun (x8:Bool) =>
      on1 (a1k N x0.2.2.2.2.1 x8 0 31)<|gg [pB]<|fun (x9:Bool) =>
      some (0,gB.dv x9 [])) <|
     some (0,gB.dv false [])) <|
    some (0,gB.dv false [])) <|
   some (0,gB.dv false [])) <|
  some (0,gB.dv false [])) <|
 bi (x0.1 == 23) (
  bi (decide (x1 > 0)) (
   on1 (b1N N x1)<|gg [pB]<|fun (x10:Bool) =>
   on1 (a1k N x0.2.1 x10 0 15)<|gg [pB]<|fun (x11:Bool) =>
   bi x11 (
    on1 (b2r N x1)<|gg [pB]<|fun (x12:Bool) =>
    on1 (a1k N x0.2.2.1 x12 0 15)<|gg [pB]<|fun (x13:Bool) =>
    bi x13 (
     on1 (a8k N x1)<|gg [pB]<|fun (x14:Bool) =>
     on1 (a1k N x0.2.2.2.1 x14 0 15)<|gg [pB]<|fun (x15:Bool) =>
     bi x15 (
      on1 (a8g N x1)<|gg [pB]<|fun (x16:Bool) =>
      on1 (a1k N x0.2.2.2.2.1 x16 0 31)<|gg [pB]<|fun (x17:Bool) =>
      some (0,gB.dv x17 [])) <|
     some (0,gB.dv false [])) <|
    some (0,gB.dv false [])) <|
   some (0,gB.dv false [])) <|
  some (0,gB.dv false [])) <|
 bi (x0.1 == 24) (
  bi (decide (x1 > 0)) (
   on1 (b1N N x1)<|gg [pB]<|fun (x18:Bool) =>
   on1 (a1k N x0.2.1 x18 0 15)<|gg [pB]<|fun (x19:Bool) =>
   bi x19 (
    on1 (b2r N x1)<|gg [pB]<|fun (x20:Bool) =>
    on1 (a1k N x0.2.2.1 x20 0 15)<|gg [pB]<|fun (x21:Bool) =>
    bi x21 (
     on1 (a8k N x1)<|gg [pB]<|fun (x22:Bool) =>
     on1 (a1k N x0.2.2.2.1 x22 0 15)<|gg [pB]<|fun (x23:Bool) =>
     bi x23 (
      on1 (a8g N x1)<|gg [pB]<|fun (x24:Bool) =>
      on1 (a1k N x0.2.2.2.2.1 x24 0 31)<|gg [pB]<|fun (x25:Bool) =>
      some (0,gB.dv x25 [])) <|
     some (0,gB.dv false [])) <|
    some (0,gB.dv false [])) <|
   some (0,gB.dv false [])) <|
  some (0,gB.dv false [])) <|
 bi (decide (x1 > 0)) (
  on1 (b1N N x1)<|gg [pB]<|fun (x26:Bool) =>
  on1 (a1k N x0.2.1 x26 0 15)<|gg [pB]<|fun (x27:Bool) =>
  bi x27 (
   on1 (b2r N x1)<|gg [pB]<|fun (x28:Bool) =>
   on1 (a1k N x0.2.2.1 x28 0 15)<|gg [pB]<|fun (x29:Bool) =>
   bi x29 (
    on1 (a8k N x1)<|gg [pB]<|fun (x30:Bool) =>
    on1 (a1k N x0.2.2.2.1 x30 0 15)<|gg [pB]<|fun (x31:Bool) =>
    bi x31 (
     on1 (a8g N x1)<|gg [pB]<|fun (x32:Bool) =>
     on1 (a1k N x0.2.2.2.2.1 x32 (-8192:Int) 8191)<|gg [pB]<|fun (x33:Bool) =>
     some (0,gB.dv x33 [])) <|
    some (0,gB.dv false [])) <|
   some (0,gB.dv false [])) <|
  some (0,gB.dv false [])) <|
 some (0,gB.dv false [])
def b4w (N:Nat):CE:=(b4b,mkF [a2S] [pB] (b2H N))
theorem b9Y (N:Nat):CEok Q (b4w N) :=
 fnG (hi:=d7r) (l:=[b2I N,c2K N,c4w N,c3L N,c2Z N,c5Z N]) (t:=[]) a0r hmix ⟨b8k N,d1Q N,d4X N,d0O N,d0t N,d4u N,trivial⟩ ⟨rfl,rfl,rfl,rfl,rfl,rfl,rfl,rfl,rfl,trivial⟩ f1A (by kernel_rfl) (by kernel_rfl) trivial fun ys=>by kernel_rfl
def c0i:CS:=⟨17,130,⟨[.agg [.d tI,.d tI,.d tI,.d tI,.d tI]],[]⟩,[.one (.o tI)],true,[]⟩
def d6Y:Hi:=⟨[((1,1),b4b),((4,2),b2K),((5,1),c3c),((7,1),c2P)],[],[7,13,17,25,29],[],[]⟩
theorem f0y:Fn Q 130 f130 (codeOf f130):=by constructor <;> kernel_rfl
def b3d (N:Nat) (x0:a0o):Option Rs :=
 on1 (b2H N x0)<|gg [pB]<|fun (x1:Bool) =>
 bi (!x1) (
  some (0,(gD (.sl tI)).dv ([]:List Int) [])) <|
 on1 (b8x N x0.1)<|gg [pI]<|fun (x2:Int) =>
 on1 (b2r N x2)<|gg [pB]<|fun (x3:Bool) =>
 bi x3 (
  bi (x0.2.2.1 != 0) (
   gd (rm ([]:List Int) [x0.2.2.1] 8) <|
   on1 (a8k N x2)<|gg [pB]<|fun (x4:Bool) =>
   bi x4 (
    bi (x0.2.2.2.1 != 0) (
     gd (rm (([]:List Int)++[x0.2.2.1]) [x0.2.2.2.1] 8) <|
     some (0,(gD (.sl tI)).dv ((([]:List Int)++[x0.2.2.1])++[x0.2.2.2.1]) [])) <|
    some (0,(gD (.sl tI)).dv (([]:List Int)++[x0.2.2.1]) [])) <|
   some (0,(gD (.sl tI)).dv (([]:List Int)++[x0.2.2.1]) [])) <|
  on1 (a8k N x2)<|gg [pB]<|fun (x5:Bool) =>
  bi x5 (
   bi (x0.2.2.2.1 != 0) (
    gd (rm ([]:List Int) [x0.2.2.2.1] 8) <|
    some (0,(gD (.sl tI)).dv (([]:List Int)++[x0.2.2.2.1]) [])) <|
   some (0,(gD (.sl tI)).dv ([]:List Int) [])) <|
  some (0,(gD (.sl tI)).dv ([]:List Int) [])) <|
 on1 (a8k N x2)<|gg [pB]<|fun (x6:Bool) =>
 bi x6 (
  bi (x0.2.2.2.1 != 0) (
   gd (rm ([]:List Int) [x0.2.2.2.1] 8) <|
   some (0,(gD (.sl tI)).dv (([]:List Int)++[x0.2.2.2.1]) [])) <|
  some (0,(gD (.sl tI)).dv ([]:List Int) [])) <|
 some (0,(gD (.sl tI)).dv ([]:List Int) [])
def c6F (N:Nat):CE:=(c0i,mkF [a2S] [pD (.sl tI)] (b3d N))
theorem d7A (N:Nat):CEok Q (c6F N) :=
 fnG (hi:=d6Y) (l:=[b4w N,b2I N,c3L N,c2Z N]) (t:=[]) a0r hmix ⟨b9Y N,b8k N,d0O N,d0t N,trivial⟩ ⟨rfl,rfl,rfl,rfl,trivial⟩ f0y (by kernel_rfl) (by kernel_rfl) trivial fun ys=>by kernel_rfl
def c5J:CS:=⟨18,131,⟨[.agg [.d tI,.d tI,.d tI,.d tI,.d tI]],[]⟩,[.one (.d tI)],true,[]⟩
def d6h:Hi:=⟨[((1,1),b4b),((1,6),b2K),((1,7),c3N)],[],[6,12],[],[]⟩
theorem f1c:Fn Q 131 f131 (codeOf f131):=by constructor <;> kernel_rfl
def b2U (N:Nat) (x0:a0o):Option Rs :=
 on1 (b2H N x0)<|gg [pB]<|fun (x1:Bool) =>
 bi (!x1) (
  some (0,gI.dv 0 [])) <|
 on1 (b8x N x0.1)<|gg [pI]<|fun (x2:Int) =>
 on1 (b1N N x2)<|gg [pB]<|fun (x3:Bool) =>
 bi (!x3) (
  some (0,gI.dv 0 [])) <|
 some (0,gI.dv x0.2.1 [])
def c4j (N:Nat):CE:=(c5J,mkF [a2S] [pI] (b2U N))
theorem d4s (N:Nat):CEok Q (c4j N) :=
 fnG (hi:=d6h) (l:=[b4w N,b2I N,c2K N]) (t:=[]) a0r hmix ⟨b9Y N,b8k N,d1Q N,trivial⟩ ⟨rfl,rfl,rfl,trivial⟩ f1c (by kernel_rfl) (by kernel_rfl) trivial fun ys=>by kernel_rfl
def c2b:CS:=⟨19,70,⟨[.agg q_2],[]⟩,[.one (.o tI)],true,[]⟩
def d3x:Hi:=⟨[((4,2),c0i),((4,5),c5J),((15,2),c0i)],[],[5,16,23,29,36],[],[]⟩
theorem f_70:Fn Q 70 f70 (codeOf f70):=by constructor <;> kernel_rfl
def b4P (N:Nat) (x0:a0h):Option Rs :=
 bi (x0.1 == 1) (
  on1 (b3d N x0.2.1)<|gg [pD (.sl tI)]<|fun (x1:List Int) =>
  on1 (b2U N x0.2.1)<|gg [pI]<|fun (x2:Int) =>
  gd (rm x1 [x2] 8) <|
  some (0,(gD (.sl tI)).dv (x1++[x2]) [])) <|
 bi (x0.1 == 2) (
  on1 (b3d N x0.2.1)<|gg [pD (.sl tI)]<|fun (x3:List Int) =>
  on1 (b2U N x0.2.1)<|gg [pI]<|fun (x4:Int) =>
  gd (rm x3 [x4] 8) <|
  some (0,(gD (.sl tI)).dv (x3++[x4]) [])) <|
 bi (x0.1 == 3) (
  some (0,(gD (.sl tI)).dv [x0.2.1.2.2.1] [])) <|
 bi (x0.1 == 4) (
  some (0,(gD (.sl tI)).dv [x0.2.1.2.2.1] [])) <|
 bi (x0.1 == 7) (
  some (0,(gD (.sl tI)).dv [x0.2.1.2.1] [])) <|
 bi (x0.1 == 5) (
  some (0,(gD (.sl tI)).dv [x0.2.2.1] [])) <|
 bi (x0.1 == 6) (
  some (0,(gD (.sl tI)).dv [x0.2.2.1] [])) <|
 bi (x0.1 == 8) (
  some (0,(gD (.sl tI)).dv [x0.2.2.1] [])) <|
 bi (x0.1 == 9) (
  on1 (b3d N x0.2.1)<|gg [pD (.sl tI)]<|fun (x5:List Int) =>
  some (0,(gD (.sl tI)).dv x5 [])) <|
 some (0,(gD (.sl tI)).dv ([]:List Int) [])
def c2z (N:Nat):CE:=(c2b,mkF [a0E] [pD (.sl tI)] (b4P N))
theorem d2a (N:Nat):CEok Q (c2z N) :=
 fnG (hi:=d3x) (l:=[c6F N,c4j N]) (t:=[]) a0r hmix ⟨d7A N,d4s N,trivial⟩ ⟨rfl,rfl,rfl,trivial⟩ f_70 (by kernel_rfl) (by kernel_rfl) trivial fun ys=>by kernel_rfl
def b0p:CS:=⟨20,71,⟨[.one (.d tI)],[]⟩,[.one (.d tB)],true,[]⟩
def c7S:Hi:=⟨[],[],[5],[],[]⟩
theorem f_71:Fn Q 71 f71 (codeOf f71):=by constructor <;> kernel_rfl
def a6U (N:Nat) (x0:Int):Option Rs :=
 bi (decide (x0 < 1)) (
  some (0,gB.dv true [])) <|
 some (0,gB.dv (decide (x0 > 15)) [])
def b0V (N:Nat):CE:=(b0p,mkF [pI] [pB] (a6U N))
theorem b6q (N:Nat):CEok Q (b0V N) :=
 fnG (hi:=c7S) (l:=[]) (t:=[]) a0r hmix trivial trivial f_71 (by kernel_rfl) (by kernel_rfl) trivial fun ys=>by kernel_rfl
def b1A:CS:=⟨21,129,⟨[.one (.d (.sl tI)),.one (.f 71 [])],[]⟩,[.one (.d tI)],true,[]⟩
def a9b:LS:=⟨⟨[.one (.d (.sl tI)),.one (.f 71 []),.no,.no,.no,.no,.no,.one (.d tI),.one (.d tI)]++nos 10,[]⟩,[(0,⟨[.no,.no,.no,.no,.one (.d tI)]++nos 14,[]⟩),(1,⟨nos 19,[]⟩)]⟩
def a4h:Hi:=⟨[((4,5),b0p)],[(0,a9b)],[9,16],[],[]⟩
theorem e1B:Fn Q 129 f129 (codeOf f129):=by constructor <;> kernel_rfl
def a4g (N:Nat):List CE:=[b0V N]
theorem b0H (N:Nat):AllP (CEok Q) (a4g N):=⟨b6q N,trivial⟩
theorem b1U (N:Nat):AllP (fun e=>lookC (a4g N) e.2.id = some e.2) a4h.cs:=⟨rfl,trivial⟩
def a2m (N:Nat) (again:Fn' (Option Rs) [pD (.sl tI),pI,pI]) (x0:List Int) (x1:Int) (x2:Int):Option Rs :=
 bi (decide (x2 < x1)) (
  gd (idx x2 (List.length x0)) <|
  on1 (a6U N (List.getD x0 x2.toNat 0))<|gg [pB]<|fun (x3:Bool) =>
  bi x3 (
   some (0,gI.dv x2 [])) <|
  again x0 x1 (w.i64 (x2+1))) <|
 some (1,[])
def a1L (N:Nat):Nat→Fn' (Option Rs) [pD (.sl tI),pI,pI]:=lpG (a2m N)
def a9e (N:Nat):LE:=(0,mkM [pD (.sl tI),pI,pI] [(0,[pI]),(1,[])] (a1L N N))
theorem b8N (N:Nat):LEok Q a4h (bodOf f129) f129.ntmps 0 (a9e N) :=
 loopG (hi:=a4h) (l:=a4g N) (t:=[]) (r:=a2m N) a0r hmix (b0H N) (b1U N) e1B trivial (ls:=a9b) (body:=bodyAt f129 0) (by kernel_rfl) (by kernel_rfl) fun A ys=>by kernel_rfl
def a8V (N:Nat) (x0:List Int):Option Rs :=
 onB 0 1 (a1L N N x0 (len x0) 0) (gg [pI]<|fun (x1:Int) =>
  some (0,gI.dv x1 []))<|gg [] <|
 some (0,gI.dv (-1:Int) [])
def b1G (N:Nat):CE:=(b1A,mkF [pD (.sl tI)] [pI] (a8V N))
theorem c1T (N:Nat):CEok Q (b1G N) :=
 fnG (hi:=a4h) (l:=a4g N) (t:=[a9e N]) a0r hmix (b0H N) (b1U N) e1B (by kernel_rfl) (by kernel_rfl) ⟨b8N N,trivial⟩ fun ys=>by kernel_rfl
def b0B:CS:=⟨22,69,⟨[.one (.o tI),.one (.f 71 [])],[]⟩,[.one (.o tI)],true,[]⟩
def a8K:LS:=⟨⟨[.one (.o tI),.one (.f 71 []),.no,.no,.no,.one (.d tI),.one (.d tI)]++nos 35,[]⟩,[(1,⟨[.one (.o tI),.no,.no,.no,.no,.one (.d tI)]++nos 36,[]⟩)]⟩
def a3E:Hi:=⟨[((1,2),b1A),((8,2),b0p)],[(0,a8K)],[12,19,29],[],[]⟩
theorem f_69:Fn Q 69 f69 (codeOf f69):=by constructor <;> kernel_rfl
def a3D (N:Nat):List CE:=[b1G N,b0V N]
theorem a9r (N:Nat):AllP (CEok Q) (a3D N):=⟨c1T N,b6q N,trivial⟩
theorem b0Z (N:Nat):AllP (fun e=>lookC (a3D N) e.2.id = some e.2) a3E.cs:=⟨rfl,rfl,trivial⟩
def a3c (N:Nat) (again:Fn' (Option Rs) [pD (.sl tI),pI,pI]) (x0:List Int) (x1:Int) (x2:Int):Option Rs :=
 bi (decide (x2 < (len x0))) (
  gd (idx x2 (List.length x0)) <|
  on1 (a6U N (List.getD x0 x2.toNat 0))<|gg [pB]<|fun (x3:Bool) =>
  bi (!x3) (
   gd (idx x1 (List.length x0)) <|
   again (List.set x0 x1.toNat (List.getD x0 x2.toNat 0)) (w.i64 (x1+1)) (w.i64 (x2+1))) <|
  again x0 x1 (w.i64 (x2+1))) <|
 some (1,(gD (.sl tI)).dv x0 (gI.dv x1 []))
def a3d (N:Nat):Nat→Fn' (Option Rs) [pD (.sl tI),pI,pI]:=lpG (a3c N)
def a8O (N:Nat):LE:=(0,mkM [pD (.sl tI),pI,pI] [(1,[pD (.sl tI),pI])] (a3d N N))
theorem b7i (N:Nat):LEok Q a3E (bodOf f69) f69.ntmps 0 (a8O N) :=
 loopG (hi:=a3E) (l:=a3D N) (t:=[]) (r:=a3c N) a0r hmix (a9r N) (b0Z N) f_69 trivial (ls:=a8K) (body:=bodyAt f69 0) (by kernel_rfl) (by kernel_rfl) fun A ys=>by kernel_rfl
def a4Z (N:Nat) (x0:List Int):Option Rs :=
 on1 (a8V N x0)<|gg [pI]<|fun (x1:Int) =>
 bi (x1 == (-1:Int)) (
  some (0,(gD (.sl tI)).dv x0 [])) <|
 onA 1 (a3d N N x0 x1 (w.i64 (x1+1)))<|gg [pD (.sl tI),pI]<|fun (x2:List Int) (x3:Int) =>
 gd (sb x3 (len x2)) <|
 gd (sb x3 (len (laid x2 x3.toNat (List.replicate (List.length x2 - x3.toNat) (0 :Int))))) <|
 some (0,(gD (.sl tI)).dv (List.take (x3.toNat - 0) (List.drop 0 (laid x2 x3.toNat (List.replicate (List.length x2 - x3.toNat) (0 :Int))))) [])
def b0s (N:Nat):CE:=(b0B,mkF [pD (.sl tI)] [pD (.sl tI)] (a4Z N))
theorem c0A (N:Nat):CEok Q (b0s N) :=
 fnG (hi:=a3E) (l:=a3D N) (t:=[a8O N]) a0r hmix (a9r N) (b0Z N) f_69 (by kernel_rfl) (by kernel_rfl) ⟨b7i N,trivial⟩ fun ys=>by kernel_rfl
def c0P:CS:=⟨23,27,⟨[.agg q_2],[]⟩,[.one (.o tI)],true,[]⟩
def d2c:Hi:=⟨[((1,1),c2b),((1,2),b0B)],[],[],[],[]⟩
theorem f_27:Fn Q 27 f27 (codeOf f27):=by constructor <;> kernel_rfl
def b4F (N:Nat) (x0:a0h):Option Rs :=
 on1 (b4P N x0)<|gg [pD (.sl tI)]<|fun (x1:List Int) =>
 on1 (a4Z N x1)<|gg [pD (.sl tI)]<|fun (x2:List Int) =>
 some (0,(gD (.sl tI)).dv x2 [])
def c1C (N:Nat):CE:=(c0P,mkF [a0E] [pD (.sl tI)] (b4F N))
theorem d2Y (N:Nat):CEok Q (c1C N) :=
 fnG (hi:=d2c) (l:=[c2z N,b0s N]) (t:=[]) a0r hmix ⟨d2a N,c0A N,trivial⟩ ⟨rfl,rfl,trivial⟩ f_27 (by kernel_rfl) (by kernel_rfl) trivial fun ys=>by kernel_rfl
def b9G:CS:=⟨24,75,⟨[.one (.d tI),.one (.p 0 0 [16,16,1,1,1,1,1,1]),.one (.p 1 0 [1])],[q_3,[.d tI]]⟩,[.one (.d tB)],true,[q_3,[.d tI]]⟩
def c9v:Hi:=⟨[],[],[10],[],[]⟩
theorem f_75:Fn Q 75 f75 (codeOf f75):=by constructor <;> kernel_rfl
def b2b (N:Nat) (x0:Int) (x1:a0v) (x2:Int):Option Rs :=
 gd (idx x0 16) <|
 bi (decide ((List.getD x1.Ready x0.toNat 0) < 0)) (
  some (0,gB.dv true (a3u.dv x1 (gI.dv x2 [])))) <|
 gd (idx x0 16) <|
 some (0,gB.dv (decide ((List.getD x1.Ready x0.toNat 0) > x2)) (a3u.dv x1 (gI.dv x2 [])))
def b9e (N:Nat):CE:=(b9G,mkF [pI,a0S,pI] [pB,a0S,pI] (b2b N))
theorem c9z (N:Nat):CEok Q (b9e N) :=
 fnG (hi:=c9v) (l:=[]) (t:=[]) a0r hmix trivial trivial f_75 (by kernel_rfl) (by kernel_rfl) trivial fun ys=>by kernel_rfl
def a9o:CS:=⟨25,129,⟨[.one (.d (.sl tI)),.one (.f 75 [⟨0,0,[16,16,1,1,1,1,1,1]⟩,⟨1,0,[1]⟩])],[q_3,[.d tI]]⟩,[.one (.d tI)],true,[q_3,[.d tI]]⟩
def a7A:LS:=⟨⟨[.one (.d (.sl tI)),.one (.f 75 [⟨0,0,[16,16,1,1,1,1,1,1]⟩,⟨1,0,[1]⟩]),.no,.no,.no,.no,.no,.one (.d tI),.one (.d tI)]++nos 10,[q_3,[.d tI]]⟩,[(0,⟨[.no,.no,.no,.no,.one (.d tI)]++nos 14,[q_3,[.d tI]]⟩),(1,⟨nos 19,[q_3,[.d tI]]⟩)]⟩
def a2Z:Hi:=⟨[((4,5),b9G)],[(0,a7A)],[9,16],[],[]⟩
def a3e (N:Nat):List CE:=[b9e N]
theorem a8J (N:Nat):AllP (CEok Q) (a3e N):=⟨c9z N,trivial⟩
theorem a9q (N:Nat):AllP (fun e=>lookC (a3e N) e.2.id = some e.2) a2Z.cs:=⟨rfl,trivial⟩
def a1S (N:Nat) (again:Fn' (Option Rs) [pD (.sl tI),pI,pI,a0S,pI]) (x0:List Int) (x1:Int) (x2:Int) (x3:a0v) (x4:Int):Option Rs :=
 bi (decide (x2 < x1)) (
  gd (idx x2 (List.length x0)) <|
  on1 (b2b N (List.getD x0 x2.toNat 0) x3 x4)<|gg [pB,a0S,pI]<|fun (x5:Bool) (x6:a0v) (x7:Int) =>
  bi x5 (
   some (0,gI.dv x2 (a3u.dv x6 (gI.dv x7 [])))) <|
  again x0 x1 (w.i64 (x2+1)) x6 x7) <|
 some (1,a3u.dv x3 (gI.dv x4 []))
def a1v (N:Nat):Nat→Fn' (Option Rs) [pD (.sl tI),pI,pI,a0S,pI]:=lpG (a1S N)
def a7D (N:Nat):LE:=(0,mkM [pD (.sl tI),pI,pI,a0S,pI] [(0,[pI,a0S,pI]),(1,[a0S,pI])] (a1v N N))
theorem b5E (N:Nat):LEok Q a2Z (bodOf f129) f129.ntmps 2 (a7D N) :=
 loopG (hi:=a2Z) (l:=a3e N) (t:=[]) (r:=a1S N) a0r hmix (a8J N) (a9q N) e1B trivial (ls:=a7A) (body:=bodyAt f129 0) (by kernel_rfl) (by kernel_rfl) fun A ys=>by kernel_rfl
def a6V (N:Nat) (x0:List Int) (x1:a0v) (x2:Int):Option Rs :=
 onB 0 1 (a1v N N x0 (len x0) 0 x1 x2) (gg [pI,a0S,pI]<|fun (x3:Int) (x4:a0v) (x5:Int) =>
  some (0,gI.dv x3 (a3u.dv x4 (gI.dv x5 []))))<|gg [a0S,pI]<|fun (x6:a0v) (x7:Int) =>
 some (0,gI.dv (-1:Int) (a3u.dv x6 (gI.dv x7 [])))
def a9a (N:Nat):CE:=(a9o,mkF [pD (.sl tI),a0S,pI] [pI,a0S,pI] (a6V N))
theorem b8R (N:Nat):CEok Q (a9a N) :=
 fnG (hi:=a2Z) (l:=a3e N) (t:=[a7D N]) a0r hmix (a8J N) (a9q N) e1B (by kernel_rfl) (by kernel_rfl) ⟨b5E N,trivial⟩ fun ys=>by kernel_rfl
def a8N:CS:=⟨26,74,⟨[.one (.d (.sl tI)),.one (.f 75 [⟨0,0,[16,16,1,1,1,1,1,1]⟩,⟨1,0,[1]⟩])],[q_3,[.d tI]]⟩,[.one (.d tB)],true,[q_3,[.d tI]]⟩
def b6I:Hi:=⟨[((1,2),a9o)],[],[],[],[]⟩
theorem f_74:Fn Q 74 f74 (codeOf f74):=by constructor <;> kernel_rfl
def a6b (N:Nat) (x0:List Int) (x1:a0v) (x2:Int):Option Rs :=
 on1 (a6V N x0 x1 x2)<|gg [pI,a0S,pI]<|fun (x3:Int) (x4:a0v) (x5:Int) =>
 some (0,gB.dv (decide (x3≥0)) (a3u.dv x4 (gI.dv x5 [])))
def a8Q (N:Nat):CE:=(a8N,mkF [pD (.sl tI),a0S,pI] [pB,a0S,pI] (a6b N))
theorem b6P (N:Nat):CEok Q (a8Q N) :=
 fnG (hi:=b6I) (l:=[a9a N]) (t:=[]) a0r hmix ⟨b8R N,trivial⟩ ⟨rfl,trivial⟩ f_74 (by kernel_rfl) (by kernel_rfl) trivial fun ys=>by kernel_rfl
def b6m:CS:=⟨27,29,⟨[.agg q_3,.agg q_2,.one (.d tI)],[]⟩,[.one (.d tB)],true,[]⟩
def d5t:Hi:=⟨[((1,1),c0P),((1,3),a8N)],[],[],[],[]⟩
theorem f_29:Fn Q 29 f29 (codeOf f29):=by constructor <;> kernel_rfl
def b3o (N:Nat) (x0:a0v) (x1:a0h) (x2:Int):Option Rs :=
 on1 (b4F N x1)<|gg [pD (.sl tI)]<|fun (x3:List Int) =>
 on1 (a6b N x3 x0 x2)<|gg [pB,a0S,pI]<|fun (x4:Bool) (x5:a0v) (x6:Int) =>
 some (0,gB.dv (!x4) [])
def b7p (N:Nat):CE:=(b6m,mkF [a0S,a0E,pI] [pB] (b3o N))
theorem c4i (N:Nat):CEok Q (b7p N) :=
 fnG (hi:=d5t) (l:=[c1C N,a8Q N]) (t:=[]) a0r hmix ⟨d2Y N,b6P N,trivial⟩ ⟨rfl,rfl,trivial⟩ f_29 (by kernel_rfl) (by kernel_rfl) trivial fun ys=>by kernel_rfl
def c4H:CS:=⟨29,68,⟨[.one (.d tI)],[]⟩,[.agg [.d (.ar 16 tI)]],true,[]⟩
def b9g:LS:=⟨⟨[.one (.d tI),.no,.one (.p 0 0 [16]),.one (.p 1 0 [16]),.one (.d tI)]++nos 15,[[.d (.ar 16 tI)],[.d (.ar 16 tI)]]⟩,[(1,⟨[.no,.no,.one (.p 0 0 [16]),.one (.p 1 0 [16])]++nos 16,[[.d (.ar 16 tI)],[.d (.ar 16 tI)]]⟩)]⟩
def b2g:Hi:=⟨[],[(0,b9g)],[6,16],[],[]⟩
theorem f_68:Fn Q 68 f68 (codeOf f68):=by constructor <;> kernel_rfl
def b1R (N:Nat):List CE:=[]
theorem c1f (N:Nat):AllP (CEok Q) (b1R N):=trivial
theorem c5N (N:Nat):AllP (fun e=>lookC (b1R N) e.2.id = some e.2) b2g.cs:=trivial
def a9w (N:Nat) (again:Fn' (Option Rs) [pI,pI,pD (.ar 16 tI),pD (.ar 16 tI)]) (x0:Int) (x1:Int) (x2:List Int) (x3:List Int):Option Rs :=
 bi (decide (x1 < 16)) (
  gd (idx x1 16) <|
  gf (decide ((w.u64 x1) < 0)) <|
  bi ((bitAnd .i64 (shr .i64 x0 (w.u64 x1)) 1) == 1) (
   gd (idx x1 16) <|
   again x0 (w.i64 (x1+1)) x2 (List.set (List.set x3 x1.toNat 2) x1.toNat 1)) <|
  again x0 (w.i64 (x1+1)) x2 (List.set x3 x1.toNat 2)) <|
 some (1,(gD (.ar 16 tI)).dv x2 ((gD (.ar 16 tI)).dv x3 []))
def a9y (N:Nat):Nat→Fn' (Option Rs) [pI,pI,pD (.ar 16 tI),pD (.ar 16 tI)]:=lpG (a9w N)
def b8Y (N:Nat):LE:=(0,mkM [pI,pI,pD (.ar 16 tI),pD (.ar 16 tI)] [(1,[pD (.ar 16 tI),pD (.ar 16 tI)])] (a9y N N))
theorem c9N (N:Nat):LEok Q b2g (bodOf f68) f68.ntmps 0 (b8Y N) :=
 loopG (hi:=b2g) (l:=b1R N) (t:=[]) (r:=a9w N) a0r hmix (c1f N) (c5N N) f_68 trivial (ls:=b9g) (body:=bodyAt f68 0) (by kernel_rfl) (by kernel_rfl) fun A ys=>by kernel_rfl
def c3E (N:Nat) (x0:Int):Option Rs :=
 onA 1 (a9y N N x0 1 (List.replicate 16 (0 :Int)) (List.replicate 16 (0 :Int)))<|gg [pD (.ar 16 tI),pD (.ar 16 tI)]<|fun (x1:List Int) (x2:List Int) =>
 some (0,(gD (.ar 16 tI)).dv x2 [])
def c3Z (N:Nat):CE:=(c4H,mkF [pI] [pD (.ar 16 tI)] (c3E N))
theorem d4m (N:Nat):CEok Q (c3Z N) :=
 fnG (hi:=b2g) (l:=b1R N) (t:=[b8Y N]) a0r hmix (c1f N) (c5N N) f_68 (by kernel_rfl) (by kernel_rfl) ⟨c9N N,trivial⟩ fun ys=>by kernel_rfl
def a2C:CS:=⟨30,42,⟨[.one (.d tI)],[]⟩,[.one (.d tI)],true,[]⟩
def e4w:Hi:=⟨[],[],[3,6,10,13,16,19,22,25,28],[],[]⟩
theorem f_42:Fn Q 42 f42 (codeOf f42):=by constructor <;> kernel_rfl
def a5s (N:Nat) (x0:Int):Option Rs :=
 bi (decide (x0 < 1)) (
  some (0,gI.dv 0 [])) <|
 bi (decide (x0 > 41)) (
  some (0,gI.dv 0 [])) <|
 bi (decide (x0≤16)) (
  some (0,gI.dv 1 [])) <|
 bi (decide (x0≤24)) (
  some (0,gI.dv 2 [])) <|
 bi (x0 == 25) (
  some (0,gI.dv 3 [])) <|
 bi (decide (x0≤30)) (
  some (0,gI.dv 4 [])) <|
 bi (decide (x0≤33)) (
  some (0,gI.dv 5 [])) <|
 bi (decide (x0≤39)) (
  some (0,gI.dv 6 [])) <|
 bi (x0 == 40) (
  some (0,gI.dv 7 [])) <|
 some (0,gI.dv 8 [])
def a2O (N:Nat):CE:=(a2C,mkF [pI] [pI] (a5s N))
theorem a3h (N:Nat):CEok Q (a2O N) :=
 fnG (hi:=e4w) (l:=[]) (t:=[]) a0r hmix trivial trivial f_42 (by kernel_rfl) (by kernel_rfl) trivial fun ys=>by kernel_rfl
def b5a:CS:=⟨31,201,⟨[.agg [.d (.sl a0y),.d tI,.d (.sl tU)],.one (.d tI)],[]⟩,[.one (.d tI)],true,[]⟩
def d7c:Hi:=⟨[((2,2),a2C)],[],[17,21,26,31,38,47],[],[]⟩
theorem e9C:Fn Q 201 f201 (codeOf f201):=by constructor <;> kernel_rfl
def a3N (N:Nat) (x0:a0s) (x1:Int):Option Rs :=
 gd (idx x1 (List.length x0.Code)) <|
 on1 (a5s N ((List.getD x0.Code x1.toNat a0o.z).1))<|gg [pI]<|fun (x2:Int) =>
 bi (x2 != 6) (
  bi (x2 != 7) (
   some (0,gI.dv (-1:Int) [])) <|
  bi (decide ((List.getD x0.Code x1.toNat a0o.z).2.2.2.2.1 < (-8192:Int))) (
   some (0,gI.dv (-1:Int) [])) <|
  bi (decide ((List.getD x0.Code x1.toNat a0o.z).2.2.2.2.1 > 8191)) (
   some (0,gI.dv (-1:Int) [])) <|
  bi (decide ((w.i64 (x1+(List.getD x0.Code x1.toNat a0o.z).2.2.2.2.1)) < 0)) (
   some (0,gI.dv (-1:Int) [])) <|
  bi (decide ((w.i64 (x1+(List.getD x0.Code x1.toNat a0o.z).2.2.2.2.1))≥(len x0.Code))) (
   some (0,gI.dv (-1:Int) [])) <|
  some (0,gI.dv (w.i64 (x1+(List.getD x0.Code x1.toNat a0o.z).2.2.2.2.1)) [])) <|
 bi (decide ((List.getD x0.Code x1.toNat a0o.z).2.2.2.2.1 < (-8192:Int))) (
  some (0,gI.dv (-1:Int) [])) <|
 bi (decide ((List.getD x0.Code x1.toNat a0o.z).2.2.2.2.1 > 8191)) (
  some (0,gI.dv (-1:Int) [])) <|
 bi (decide ((w.i64 (x1+(List.getD x0.Code x1.toNat a0o.z).2.2.2.2.1)) < 0)) (
  some (0,gI.dv (-1:Int) [])) <|
 bi (decide ((w.i64 (x1+(List.getD x0.Code x1.toNat a0o.z).2.2.2.2.1))≥(len x0.Code))) (
  some (0,gI.dv (-1:Int) [])) <|
 some (0,gI.dv (w.i64 (x1+(List.getD x0.Code x1.toNat a0o.z).2.2.2.2.1)) [])
def b4M (N:Nat):CE:=(b5a,mkF [a0p,pI] [pI] (a3N N))
theorem c0l (N:Nat):CEok Q (b4M N) :=
 fnG (hi:=d7c) (l:=[a2O N]) (t:=[]) a0r hmix ⟨a3h N,trivial⟩ ⟨rfl,trivial⟩ e9C (by kernel_rfl) (by kernel_rfl) trivial fun ys=>by kernel_rfl
def c4q:CS:=⟨32,164,⟨[.agg [.d (.sl a0y),.d tI,.d (.sl tU)]],[]⟩,[.one (.d tI)],true,[]⟩
def b9j:LS:=⟨⟨[.no,.one (.p 0 0 [1,1,1]),.no,.one (.d tI)]++nos 27,[[.d (.sl a0y),.d tI,.d (.sl tU)]]⟩,[(0,⟨[.no,.no,.one (.d tI)]++nos 28,[]⟩),(1,⟨nos 31,[]⟩)]⟩
def b2o:Hi:=⟨[((4,6),a2C),((5,9),b5a)],[(0,b9j)],[9,21,25,30],[],[]⟩
theorem e8H:Fn Q 164 f164 (codeOf f164):=by constructor <;> kernel_rfl
def b2l (N:Nat):List CE:=[a2O N,b4M N]
theorem c1R (N:Nat):AllP (CEok Q) (b2l N):=⟨a3h N,c0l N,trivial⟩
theorem c4D (N:Nat):AllP (fun e=>lookC (b2l N) e.2.id = some e.2) b2o.cs:=⟨rfl,rfl,trivial⟩
def a6H (N:Nat) (again:Fn' (Option Rs) [pI,a0p]) (x0:Int) (x1:a0s):Option Rs :=
 bi (decide (x0 < (len x1.Code))) (
  gd (idx x0 (List.length x1.Code)) <|
  on1 (a5s N ((List.getD x1.Code x0.toNat a0o.z).1))<|gg [pI]<|fun (x2:Int) =>
  bi (x2 == 6) (
   on1 (a3N N x1 x0)<|gg [pI]<|fun (x3:Int) =>
   bi (decide (x3 < 0)) (
    some (0,gI.dv 4 [])) <|
   again (w.i64 (x0+1)) x1) <|
  bi (x2 == 7) (
   on1 (a3N N x1 x0)<|gg [pI]<|fun (x4:Int) =>
   bi (decide (x4 < 0)) (
    some (0,gI.dv 4 [])) <|
   again (w.i64 (x0+1)) x1) <|
  again (w.i64 (x0+1)) x1) <|
 some (1,[])
def a5h (N:Nat):Nat→Fn' (Option Rs) [pI,a0p]:=lpG (a6H N)
def b9z (N:Nat):LE:=(0,mkM [pI,a0p] [(0,[pI]),(1,[])] (a5h N N))
theorem c9J (N:Nat):LEok Q b2o (bodOf f164) f164.ntmps 0 (b9z N) :=
 loopG (hi:=b2o) (l:=b2l N) (t:=[]) (r:=a6H N) a0r hmix (c1R N) (c4D N) e8H trivial (ls:=b9j) (body:=bodyAt f164 0) (by kernel_rfl) (by kernel_rfl) fun A ys=>by kernel_rfl
def b7X (N:Nat) (x0:a0s):Option Rs :=
 onB 0 1 (a5h N N 0 x0) (gg [pI]<|fun (x1:Int) =>
  some (0,gI.dv x1 []))<|gg [] <|
 some (0,gI.dv 0 [])
def c5z (N:Nat):CE:=(c4q,mkF [a0p] [pI] (b7X N))
theorem d6x (N:Nat):CEok Q (c5z N) :=
 fnG (hi:=b2o) (l:=b2l N) (t:=[b9z N]) a0r hmix (c1R N) (c4D N) e8H (by kernel_rfl) (by kernel_rfl) ⟨c9J N,trivial⟩ fun ys=>by kernel_rfl
def d2U:CS:=⟨33,133,⟨[.one (.d tI)],[]⟩,[.one (.d tB),.one (.d tB),.one (.d tB),.one (.d tB)],false,[]⟩
def e6c:Hi:=⟨[],[],[7,9,12,14,17],[],[]⟩
theorem f0A:Fn Q 133 f133 (codeOf f133):=by constructor <;> kernel_rfl
def d3S (N:Nat) (x0:Int):Option Rs :=
 bi (x0 == 1) (
  some (0,gB.dv true (gB.dv true (gB.dv true (gB.dv false []))))) <|
 bi (x0 == 2) (
  some (0,gB.dv true (gB.dv true (gB.dv false (gB.dv true []))))) <|
 bi (x0 == 4) (
  some (0,gB.dv true (gB.dv true (gB.dv false (gB.dv true []))))) <|
 bi (x0 == 3) (
  some (0,gB.dv true (gB.dv false (gB.dv false (gB.dv true []))))) <|
 bi (x0 == 5) (
  some (0,gB.dv false (gB.dv true (gB.dv true (gB.dv true []))))) <|
 bi (x0 == 6) (
  some (0,gB.dv false (gB.dv true (gB.dv true (gB.dv true []))))) <|
 bi (x0 == 7) (
  some (0,gB.dv false (gB.dv false (gB.dv false (gB.dv true []))))) <|
 some (0,gB.dv false (gB.dv false (gB.dv false (gB.dv false []))))
def d2O (N:Nat):CE:=(d2U,mkF [pI] [pB,pB,pB,pB] (d3S N))
theorem d9E (N:Nat):CEok Q (d2O N) :=
 fnG (hi:=e6c) (l:=[]) (t:=[]) a0r hmix trivial trivial f0A (by kernel_rfl) (by kernel_rfl) trivial fun ys=>by kernel_rfl
def c6A:CS:=⟨34,214,⟨[.one (.d tI),.one (.d tB)],[]⟩,[.one (.d tB)],true,[]⟩
def e4J:Hi:=⟨[],[],[7,9,13],[],[]⟩
theorem e9w:Fn Q 214 f214 (codeOf f214):=by constructor <;> kernel_rfl
def d0o (N:Nat) (x0:Int) (x1:Bool):Option Rs :=
 bi (x0 == 0) (
  some (0,gB.dv true [])) <|
 bi x1 (
  bi (decide (x0 > 0)) (
   some (0,gB.dv (decide (x0≤15)) [])) <|
  some (0,gB.dv false [])) <|
 some (0,gB.dv false [])
def d8O (N:Nat):CE:=(c6A,mkF [pI,pB] [pB] (d0o N))
theorem e5P (N:Nat):CEok Q (d8O N) :=
 fnG (hi:=e4J) (l:=[]) (t:=[]) a0r hmix trivial trivial e9w (by kernel_rfl) (by kernel_rfl) trivial fun ys=>by kernel_rfl
def a4Y:CS:=⟨35,132,⟨[.agg [.d tI,.d tI,.d tI,.d tI,.d tI]],[]⟩,[.one (.d tB)],true,[]⟩
def d3n:Hi:=⟨[((1,2),a2C),((2,1),d2U),((3,6),c6A),((3,13),c6A),((3,20),c6A)],[],[20,27,34,41,44,49,53,58,62,66,74],[],[]⟩
theorem f0T:Fn Q 132 f132 (codeOf f132):=by constructor <;> kernel_rfl
def a4s (N:Nat) (x0:a0o):Option Rs :=
 on1 (a5s N x0.1)<|gg [pI]<|fun (x1:Int) =>
 on1 (d3S N x1)<|gg [pB,pB,pB,pB]<|fun (x2:Bool) (x3:Bool) (x4:Bool) (x5:Bool) =>
 bi (x1 == 0) (
  some (0,gB.dv false [])) <|
 on1 (d0o N x0.2.1 x2)<|gg [pB]<|fun (x6:Bool) =>
 bi (!x6) (
  some (0,gB.dv false [])) <|
 on1 (d0o N x0.2.2.1 x3)<|gg [pB]<|fun (x7:Bool) =>
 bi (!x7) (
  some (0,gB.dv false [])) <|
 on1 (d0o N x0.2.2.2.1 x4)<|gg [pB]<|fun (x8:Bool) =>
 bi (!x8) (
  some (0,gB.dv false [])) <|
 bi (!x5) (
  bi (x0.2.2.2.2.1 != 0) (
   some (0,gB.dv false [])) <|
  bi (x0.1 == 22) (
   bi (decide (x0.2.2.2.2.1≥0)) (
    some (0,gB.dv (decide (x0.2.2.2.2.1≤31)) [])) <|
   some (0,gB.dv false [])) <|
  bi (x0.1 == 23) (
   bi (decide (x0.2.2.2.2.1≥0)) (
    some (0,gB.dv (decide (x0.2.2.2.2.1≤31)) [])) <|
   some (0,gB.dv false [])) <|
  bi (x0.1 == 24) (
   bi (decide (x0.2.2.2.2.1≥0)) (
    some (0,gB.dv (decide (x0.2.2.2.2.1≤31)) [])) <|
   some (0,gB.dv false [])) <|
  bi (decide (x0.2.2.2.2.1≥(-8192:Int))) (
   some (0,gB.dv (decide (x0.2.2.2.2.1≤8191)) [])) <|
  some (0,gB.dv false [])) <|
 bi (x0.1 == 22) (
  bi (decide (x0.2.2.2.2.1≥0)) (
   some (0,gB.dv (decide (x0.2.2.2.2.1≤31)) [])) <|
  some (0,gB.dv false [])) <|
 bi (x0.1 == 23) (
  bi (decide (x0.2.2.2.2.1≥0)) (
   some (0,gB.dv (decide (x0.2.2.2.2.1≤31)) [])) <|
  some (0,gB.dv false [])) <|
 bi (x0.1 == 24) (
  bi (decide (x0.2.2.2.2.1≥0)) (
   some (0,gB.dv (decide (x0.2.2.2.2.1≤31)) [])) <|
  some (0,gB.dv false [])) <|
 bi (decide (x0.2.2.2.2.1≥(-8192:Int))) (
  some (0,gB.dv (decide (x0.2.2.2.2.1≤8191)) [])) <|
 some (0,gB.dv false [])
def a4O (N:Nat):CE:=(a4Y,mkF [a2S] [pB] (a4s N))
theorem a6B (N:Nat):CEok Q (a4O N) :=
 fnG (hi:=d3n) (l:=[a2O N,d2O N,d8O N]) (t:=[]) a0r hmix ⟨a3h N,d9E N,e5P N,trivial⟩ ⟨rfl,rfl,rfl,rfl,rfl,trivial⟩ f0T (by kernel_rfl) (by kernel_rfl) trivial fun ys=>by kernel_rfl
def a3g:CS:=⟨36,102,⟨[.agg [.d (.sl a0y),.d tI,.d (.sl tU)]],[]⟩,[.one (.d tB)],true,[]⟩
def b0r:LS:=⟨⟨[.no,.one (.p 0 0 [1,1,1]),.no,.one (.d tI)]++nos 45,[[.d (.sl a0y),.d tI,.d (.sl tU)]]⟩,[(0,⟨[.no,.no,.one (.d tB)]++nos 46,[]⟩),(1,⟨[.no,.one (.p 0 0 [1,1,1])]++nos 47,[[.d (.sl a0y),.d tI,.d (.sl tU)]]⟩)]⟩
def a4N:Hi:=⟨[((6,5),a4Y),((8,1),c4q)],[(0,b0r)],[8,14,19,24,31,36,45],[],[]⟩
theorem e8y:Fn Q 102 f102 (codeOf f102):=by constructor <;> kernel_rfl
def a4M (N:Nat):List CE:=[a4O N,c5z N]
theorem b2k (N:Nat):AllP (CEok Q) (a4M N):=⟨a6B N,d6x N,trivial⟩
theorem b2M (N:Nat):AllP (fun e=>lookC (a4M N) e.2.id = some e.2) a4N.cs:=⟨rfl,rfl,trivial⟩
def a2P (N:Nat) (again:Fn' (Option Rs) [pI,a0p]) (x0:Int) (x1:a0s):Option Rs :=
 bi (decide (x0 < (len x1.Code))) (
  gd (idx x0 (List.length x1.Code)) <|
  on1 (a4s N (List.getD x1.Code x0.toNat a0o.z))<|gg [pB]<|fun (x2:Bool) =>
  bi (!x2) (
   some (0,gB.dv false [])) <|
  again (w.i64 (x0+1)) x1) <|
 some (1,a1d.dv x1 [])
def a1Z (N:Nat):Nat→Fn' (Option Rs) [pI,a0p]:=lpG (a2P N)
def b0y (N:Nat):LE:=(0,mkM [pI,a0p] [(0,[pB]),(1,[a0p])] (a1Z N N))
theorem c0b (N:Nat):LEok Q a4N (bodOf f102) f102.ntmps 0 (b0y N) :=
 loopG (hi:=a4N) (l:=a4M N) (t:=[]) (r:=a2P N) a0r hmix (b2k N) (b2M N) e8y trivial (ls:=b0r) (body:=bodyAt f102 0) (by kernel_rfl) (by kernel_rfl) fun A ys=>by kernel_rfl
def a1h (N:Nat) (x0:a0s):Option Rs :=
 bi (decide ((len x0.Code) < 1)) (
  some (0,gB.dv false [])) <|
 bi (decide ((len x0.Code) > 2000)) (
  some (0,gB.dv false [])) <|
 bi (decide (x0.Size < 0)) (
  some (0,gB.dv false [])) <|
 bi (decide (x0.Size > 65536)) (
  some (0,gB.dv false [])) <|
 bi (decide ((len x0.Data) > x0.Size)) (
  some (0,gB.dv false [])) <|
 onB 0 1 (a1Z N N 0 x0) (gg [pB]<|fun (x1:Bool) =>
  some (0,gB.dv x1 []))<|gg [a0p]<|fun (x2:a0s) =>
 on1 (b7X N x2)<|gg [pI]<|fun (x3:Int) =>
 some (0,gB.dv (x3 == 0) [])
def a3o (N:Nat):CE:=(a3g,mkF [a0p] [pB] (a1h N))
theorem a4L (N:Nat):CEok Q (a3o N) :=
 fnG (hi:=a4N) (l:=a4M N) (t:=[b0y N]) a0r hmix (b2k N) (b2M N) e8y (by kernel_rfl) (by kernel_rfl) ⟨c0b N,trivial⟩ fun ys=>by kernel_rfl
def c1B:CS:=⟨37,197,⟨[.agg [.d (.ar 16 tI)],.one (.d tI)],[]⟩,[.one (.d tB)],true,[]⟩
def e4r:Hi:=⟨[],[],[7],[],[]⟩
theorem f1C:Fn Q 197 f197 (codeOf f197):=by constructor <;> kernel_rfl
def b7k (N:Nat) (x0:List Int) (x1:Int):Option Rs :=
 bi (decide (x1 > 0)) (
  gd (idx x1 16) <|
  some (0,gB.dv ((List.getD x0 x1.toNat 0) == 2) [])) <|
 some (0,gB.dv false [])
def c2x (N:Nat):CE:=(c1B,mkF [pD (.ar 16 tI),pI] [pB] (b7k N))
theorem c8M (N:Nat):CEok Q (c2x N) :=
 fnG (hi:=e4r) (l:=[]) (t:=[]) a0r hmix trivial trivial f1C (by kernel_rfl) (by kernel_rfl) trivial fun ys=>by kernel_rfl
def a6l:CS:=⟨38,72,⟨[.agg [.d tI,.d tI,.d tI,.d tI,.d tI]],[]⟩,[.one (.o tI)],true,[]⟩
def e1p:Hi:=⟨[((1,1),a4Y),((3,2),a2C),((3,3),d2U)],[],[10,21,25,32,36],[],[]⟩
theorem f_72:Fn Q 72 f72 (codeOf f72):=by constructor <;> kernel_rfl
def a2Q (N:Nat) (x0:a0o):Option Rs :=
 on1 (a4s N x0)<|gg [pB]<|fun (x1:Bool) =>
 bi (!x1) (
  some (0,(gD (.sl tI)).dv ([]:List Int) [])) <|
 on1 (a5s N x0.1)<|gg [pI]<|fun (x2:Int) =>
 on1 (d3S N x2)<|gg [pB,pB,pB,pB]<|fun (x3:Bool) (x4:Bool) (x5:Bool) (x6:Bool) =>
 bi x4 (
  bi (x0.2.2.1 != 0) (
   gd (rm ([]:List Int) [x0.2.2.1] 8) <|
   bi x5 (
    bi (x0.2.2.2.1 != 0) (
     gd (rm (([]:List Int)++[x0.2.2.1]) [x0.2.2.2.1] 8) <|
     some (0,(gD (.sl tI)).dv ((([]:List Int)++[x0.2.2.1])++[x0.2.2.2.1]) [])) <|
    some (0,(gD (.sl tI)).dv (([]:List Int)++[x0.2.2.1]) [])) <|
   some (0,(gD (.sl tI)).dv (([]:List Int)++[x0.2.2.1]) [])) <|
  bi x5 (
   bi (x0.2.2.2.1 != 0) (
    gd (rm ([]:List Int) [x0.2.2.2.1] 8) <|
    some (0,(gD (.sl tI)).dv (([]:List Int)++[x0.2.2.2.1]) [])) <|
   some (0,(gD (.sl tI)).dv ([]:List Int) [])) <|
  some (0,(gD (.sl tI)).dv ([]:List Int) [])) <|
 bi x5 (
  bi (x0.2.2.2.1 != 0) (
   gd (rm ([]:List Int) [x0.2.2.2.1] 8) <|
   some (0,(gD (.sl tI)).dv (([]:List Int)++[x0.2.2.2.1]) [])) <|
  some (0,(gD (.sl tI)).dv ([]:List Int) [])) <|
 some (0,(gD (.sl tI)).dv ([]:List Int) [])
def a8b (N:Nat):CE:=(a6l,mkF [a2S] [pD (.sl tI)] (a2Q N))
theorem b0d (N:Nat):CEok Q (a8b N) :=
 fnG (hi:=e1p) (l:=[a4O N,a2O N,d2O N]) (t:=[]) a0r hmix ⟨a6B N,a3h N,d9E N,trivial⟩ ⟨rfl,rfl,rfl,trivial⟩ f_72 (by kernel_rfl) (by kernel_rfl) trivial fun ys=>by kernel_rfl
def b8u:CS:=⟨39,198,⟨[.agg [.d (.ar 16 tI)],.one (.d (.sl tI))],[]⟩,[.one (.d tB)],true,[]⟩
def c5U:LS:=⟨⟨[.no,.one (.d (.sl tI)),.one (.p 0 0 [16]),.no,.no,.one (.d tI)]++nos 12,[[.d (.ar 16 tI)]]⟩,[(0,⟨[.no,.no,.no,.no,.one (.d tB)]++nos 13,[]⟩),(1,⟨nos 18,[]⟩)]⟩
def b7U:Hi:=⟨[((4,5),c1B)],[(0,c5U)],[9,17],[],[]⟩
theorem e8R:Fn Q 198 f198 (codeOf f198):=by constructor <;> kernel_rfl
def b7C (N:Nat):List CE:=[c2x N]
theorem c7e (N:Nat):AllP (CEok Q) (b7C N):=⟨c8M N,trivial⟩
theorem d0I (N:Nat):AllP (fun e=>lookC (b7C N) e.2.id = some e.2) b7U.cs:=⟨rfl,trivial⟩
def b0R (N:Nat) (again:Fn' (Option Rs) [pD (.sl tI),pI,pD (.ar 16 tI)]) (x0:List Int) (x1:Int) (x2:List Int):Option Rs :=
 bi (decide (x1 < (len x0))) (
  gd (idx x1 (List.length x0)) <|
  on1 (b7k N x2 (List.getD x0 x1.toNat 0))<|gg [pB]<|fun (x3:Bool) =>
  bi x3 (
   some (0,gB.dv true [])) <|
  again x0 (w.i64 (x1+1)) x2) <|
 some (1,[])
def a8c (N:Nat):Nat→Fn' (Option Rs) [pD (.sl tI),pI,pD (.ar 16 tI)]:=lpG (b0R N)
def c4N (N:Nat):LE:=(0,mkM [pD (.sl tI),pI,pD (.ar 16 tI)] [(0,[pB]),(1,[])] (a8c N N))
theorem d5o (N:Nat):LEok Q b7U (bodOf f198) f198.ntmps 0 (c4N N) :=
 loopG (hi:=b7U) (l:=b7C N) (t:=[]) (r:=b0R N) a0r hmix (c7e N) (d0I N) e8R trivial (ls:=c5U) (body:=bodyAt f198 0) (by kernel_rfl) (by kernel_rfl) fun A ys=>by kernel_rfl
def b2c (N:Nat) (x0:List Int) (x1:List Int):Option Rs :=
 onB 0 1 (a8c N N x1 0 x0) (gg [pB]<|fun (x2:Bool) =>
  some (0,gB.dv x2 []))<|gg [] <|
 some (0,gB.dv false [])
def b7Q (N:Nat):CE:=(b8u,mkF [pD (.ar 16 tI),pD (.sl tI)] [pB] (b2c N))
theorem c2X (N:Nat):CEok Q (b7Q N) :=
 fnG (hi:=b7U) (l:=b7C N) (t:=[c4N N]) a0r hmix (c7e N) (d0I N) e8R (by kernel_rfl) (by kernel_rfl) ⟨d5o N,trivial⟩ fun ys=>by kernel_rfl
def c4h:CS:=⟨40,126,⟨[.agg [.d (.sl a0y),.d tI,.d (.sl tU)],.agg [.d (.ar 16 tI)]],[]⟩,[.one (.d tB)],true,[]⟩
def b9k:LS:=⟨⟨[.no,.no,.one (.p 0 0 [1,1,1]),.one (.p 1 0 [16]),.no,.one (.d tI)]++nos 76,[[.d (.sl a0y),.d tI,.d (.sl tU)],[.d (.ar 16 tI)]]⟩,[(0,⟨[.no,.no,.no,.no,.one (.d tB)]++nos 77,[]⟩),(1,⟨[.no,.no,.one (.p 0 0 [1,1,1]),.one (.p 1 0 [16])]++nos 78,[[.d (.sl a0y),.d tI,.d (.sl tU)],[.d (.ar 16 tI)]]⟩)]⟩
def b9b:LS:=⟨⟨[.no,.no,.one (.p 0 0 [1,1,1]),.one (.p 1 0 [16]),.no,.no,.one (.d tI)]++nos 75,[[.d (.sl a0y),.d tI,.d (.sl tU)],[.d (.ar 16 tI)]]⟩,[(0,⟨[.no,.no,.no,.no,.one (.d tB)]++nos 77,[]⟩),(3,⟨nos 82,[]⟩)]⟩
def a6m:Hi:=⟨[((1,1),a3g),((12,2),a2C),((13,10),c1B),((15,21),a6l),((15,22),b8u)],[(0,b9k),(2,b9b)],[12,16,18,25,30,35,48,52,57,60,64,69,76,81],[],[]⟩
theorem e7d:Fn Q 126 f126 (codeOf f126):=by constructor <;> kernel_rfl
def a8C (N:Nat):List CE:=[a3o N,a2O N,c2x N,a8b N,b7Q N]
theorem b5i (N:Nat):AllP (CEok Q) (a8C N):=⟨a4L N,a3h N,c8M N,b0d N,c2X N,trivial⟩
theorem b6G (N:Nat):AllP (fun e=>lookC (a8C N) e.2.id = some e.2) a6m.cs:=⟨rfl,rfl,rfl,rfl,rfl,trivial⟩
def a7t (N:Nat) (again:Fn' (Option Rs) [pI,a0p,pD (.ar 16 tI)]) (x0:Int) (x1:a0s) (x2:List Int):Option Rs :=
 bi (decide (x0 < 16)) (
  gd (idx x0 16) <|
  bi ((List.getD x2 x0.toNat 0) != 1) (
   gd (idx x0 16) <|
   bi ((List.getD x2 x0.toNat 0) != 2) (
    some (0,gB.dv false [])) <|
   again (w.i64 (x0+1)) x1 x2) <|
  again (w.i64 (x0+1)) x1 x2) <|
 some (1,a1d.dv x1 ((gD (.ar 16 tI)).dv x2 []))
def a4P (N:Nat):Nat→Fn' (Option Rs) [pI,a0p,pD (.ar 16 tI)]:=lpG (a7t N)
def b9c (N:Nat):LE:=(0,mkM [pI,a0p,pD (.ar 16 tI)] [(0,[pB]),(1,[a0p,pD (.ar 16 tI)])] (a4P N N))
theorem c9G (N:Nat):LEok Q a6m (bodOf f126) f126.ntmps 0 (b9c N) :=
 loopG (hi:=a6m) (l:=a8C N) (t:=[]) (r:=a7t N) a0r hmix (b5i N) (b6G N) e7d trivial (ls:=b9k) (body:=bodyAt f126 0) (by kernel_rfl) (by kernel_rfl) fun A ys=>by kernel_rfl
def a6Y (N:Nat) (again:Fn' (Option Rs) [pI,a0p,pD (.ar 16 tI)]) (x0:Int) (x1:a0s) (x2:List Int):Option Rs :=
 bi (decide (x0 < (len x1.Code))) (
  gd (idx x0 (List.length x1.Code)) <|
  on1 (a5s N ((List.getD x1.Code x0.toNat a0o.z).1))<|gg [pI]<|fun (x3:Int) =>
  bi (x3 == 4) (
   on1 (b7k N x2 ((List.getD x1.Code x0.toNat a0o.z).2.2.1))<|gg [pB]<|fun (x4:Bool) =>
   bi x4 (
    some (0,gB.dv false [])) <|
   bi (decide (x3≥1)) (
    bi (decide (x3≤3)) (
     bi (decide ((List.getD x1.Code x0.toNat a0o.z).2.1 > 0)) (
      gd (idx (List.getD x1.Code x0.toNat a0o.z).2.1 16) <|
      bi ((List.getD x2 (Int.toNat (List.getD x1.Code x0.toNat a0o.z).2.1) 0) == 1) (
       on1 (a2Q N (List.getD x1.Code x0.toNat a0o.z))<|gg [pD (.sl tI)]<|fun (x5:List Int) =>
       on1 (b2c N x2 x5)<|gg [pB]<|fun (x6:Bool) =>
       bi x6 (
        some (0,gB.dv false [])) <|
       again (w.i64 (x0+1)) x1 x2) <|
      again (w.i64 (x0+1)) x1 x2) <|
     again (w.i64 (x0+1)) x1 x2) <|
    again (w.i64 (x0+1)) x1 x2) <|
   again (w.i64 (x0+1)) x1 x2) <|
  bi (x3 == 5) (
   on1 (b7k N x2 ((List.getD x1.Code x0.toNat a0o.z).2.2.1))<|gg [pB]<|fun (x7:Bool) =>
   bi x7 (
    some (0,gB.dv false [])) <|
   bi (decide (x3≥1)) (
    bi (decide (x3≤3)) (
     bi (decide ((List.getD x1.Code x0.toNat a0o.z).2.1 > 0)) (
      gd (idx (List.getD x1.Code x0.toNat a0o.z).2.1 16) <|
      bi ((List.getD x2 (Int.toNat (List.getD x1.Code x0.toNat a0o.z).2.1) 0) == 1) (
       on1 (a2Q N (List.getD x1.Code x0.toNat a0o.z))<|gg [pD (.sl tI)]<|fun (x8:List Int) =>
       on1 (b2c N x2 x8)<|gg [pB]<|fun (x9:Bool) =>
       bi x9 (
        some (0,gB.dv false [])) <|
       again (w.i64 (x0+1)) x1 x2) <|
      again (w.i64 (x0+1)) x1 x2) <|
     again (w.i64 (x0+1)) x1 x2) <|
    again (w.i64 (x0+1)) x1 x2) <|
   again (w.i64 (x0+1)) x1 x2) <|
  bi (decide (x3≥1)) (
   bi (decide (x3≤3)) (
    bi (decide ((List.getD x1.Code x0.toNat a0o.z).2.1 > 0)) (
     gd (idx (List.getD x1.Code x0.toNat a0o.z).2.1 16) <|
     bi ((List.getD x2 (Int.toNat (List.getD x1.Code x0.toNat a0o.z).2.1) 0) == 1) (
      on1 (a2Q N (List.getD x1.Code x0.toNat a0o.z))<|gg [pD (.sl tI)]<|fun (x10:List Int) =>
      on1 (b2c N x2 x10)<|gg [pB]<|fun (x11:Bool) =>
      bi x11 (
       some (0,gB.dv false [])) <|
      again (w.i64 (x0+1)) x1 x2) <|
     again (w.i64 (x0+1)) x1 x2) <|
    again (w.i64 (x0+1)) x1 x2) <|
   again (w.i64 (x0+1)) x1 x2) <|
  again (w.i64 (x0+1)) x1 x2) <|
 some (3,[])
def a4I (N:Nat):Nat→Fn' (Option Rs) [pI,a0p,pD (.ar 16 tI)]:=lpG (a6Y N)
def b9u (N:Nat):LE:=(2,mkM [pI,a0p,pD (.ar 16 tI)] [(0,[pB]),(3,[])] (a4I N N))
theorem d0a (N:Nat):LEok Q a6m (bodOf f126) f126.ntmps 0 (b9u N) :=
 loopG (hi:=a6m) (l:=a8C N) (t:=[]) (r:=a6Y N) a0r hmix (b5i N) (b6G N) e7d trivial (ls:=b9b) (body:=bodyAt f126 2) (by kernel_rfl) (by kernel_rfl) fun A ys=>by kernel_rfl
def b3f (N:Nat) (x0:a0s) (x1:List Int):Option Rs :=
 on1 (a1h N x0)<|gg [pB]<|fun (x2:Bool) =>
 bi (!x2) (
  some (0,gB.dv false [])) <|
 gd (idx 0 16) <|
 bi ((List.getD x1 0 0) != 0) (
  some (0,gB.dv false [])) <|
 onB 0 1 (a4P N N 1 x0 x1) (gg [pB]<|fun (x3:Bool) =>
  some (0,gB.dv x3 []))<|gg [a0p,pD (.ar 16 tI)]<|fun (x4:a0s) (x5:List Int) =>
 onB 0 3 (a4I N N 0 x4 x5) (gg [pB]<|fun (x6:Bool) =>
  some (0,gB.dv x6 []))<|gg [] <|
 some (0,gB.dv true [])
def c5u (N:Nat):CE:=(c4h,mkF [a0p,pD (.ar 16 tI)] [pB] (b3f N))
theorem d5l (N:Nat):CEok Q (c5u N) :=
 fnG (hi:=a6m) (l:=a8C N) (t:=[b9c N,b9u N]) a0r hmix (b5i N) (b6G N) e7d (by kernel_rfl) (by kernel_rfl) ⟨c9G N,d0a N,trivial⟩ fun ys=>by kernel_rfl
def d0B:CS:=⟨41,257,⟨[.agg [.d tI,.d tI,.d tI,.d tI,.d tI]],[]⟩,[.one (.d tB)],true,[]⟩
def e0v:Hi:=⟨[((1,2),a2C)],[],[9,13],[],[]⟩
theorem f0R:Fn Q 257 f257 (codeOf f257):=by constructor <;> kernel_rfl
def c1A (N:Nat) (x0:a0o):Option Rs :=
 on1 (a5s N x0.1)<|gg [pI]<|fun (x1:Int) =>
 bi (x1 == 6) (
  some (0,gB.dv true [])) <|
 bi (x1 == 7) (
  some (0,gB.dv true [])) <|
 some (0,gB.dv (x1 == 8) [])
def d0q (N:Nat):CE:=(d0B,mkF [a2S] [pB] (c1A N))
theorem e0P (N:Nat):CEok Q (d0q N) :=
 fnG (hi:=e0v) (l:=[a2O N]) (t:=[]) a0r hmix ⟨a3h N,trivial⟩ ⟨rfl,trivial⟩ f0R (by kernel_rfl) (by kernel_rfl) trivial fun ys=>by kernel_rfl
def c1a:CS:=⟨42,199,⟨[.agg [.d (.sl a0y),.d tI,.d (.sl tU)]],[]⟩,[.one (.o tI)],true,[]⟩
def b6v:LS:=⟨⟨[.no,.one (.p 0 0 [1,1,1]),.no,.one (.o tB),.one (.d tI)]++nos 60,[[.d (.sl a0y),.d tI,.d (.sl tU)]]⟩,[(1,⟨[.no,.no,.no,.one (.o tB)]++nos 61,[]⟩)]⟩
def b6t:LS:=⟨⟨[.no,.no,.no,.one (.o tB),.no,.no,.one (.o tI),.one (.d tI)]++nos 57,[]⟩,[(3,⟨nos 6++[.one (.o tI)]++nos 58,[]⟩)]⟩
def a4Q:Hi:=⟨[((1,1),a3g),((8,2),b5a),((11,5),d0B)],[(0,b6v),(2,b6t)],[10,21,28,38,45,53,59],[],[]⟩
theorem e7T:Fn Q 199 f199 (codeOf f199):=by constructor <;> kernel_rfl
def a6I (N:Nat):List CE:=[a3o N,b4M N,d0q N]
theorem b2t (N:Nat):AllP (CEok Q) (a6I N):=⟨a4L N,c0l N,e0P N,trivial⟩
theorem b4o (N:Nat):AllP (fun e=>lookC (a6I N) e.2.id = some e.2) a4Q.cs:=⟨rfl,rfl,rfl,trivial⟩
def a8l (N:Nat) (again:Fn' (Option Rs) [pD (.sl tB),pI,a0p]) (x0:List Bool) (x1:Int) (x2:a0s):Option Rs :=
 bi (decide (x1 < (len x2.Code))) (
  on1 (a3N N x2 x1)<|gg [pI]<|fun (x3:Int) =>
  bi (decide (x3≥0)) (
   gd (idx x3 (List.length x0)) <|
   gd (idx x1 (List.length x2.Code)) <|
   on1 (c1A N (List.getD x2.Code x1.toNat a0o.z))<|gg [pB]<|fun (x4:Bool) =>
   bi x4 (
    bi (decide ((w.i64 (x1+1)) < (len x2.Code))) (
     gd (idx (w.i64 (x1+1)) (List.length (List.set x0 x3.toNat true))) <|
     again (List.set (List.set x0 x3.toNat true) (Int.toNat (w.i64 (x1+1))) true) (w.i64 (x1+1)) x2) <|
    again (List.set x0 x3.toNat true) (w.i64 (x1+1)) x2) <|
   again (List.set x0 x3.toNat true) (w.i64 (x1+1)) x2) <|
  gd (idx x1 (List.length x2.Code)) <|
  on1 (c1A N (List.getD x2.Code x1.toNat a0o.z))<|gg [pB]<|fun (x5:Bool) =>
  bi x5 (
   bi (decide ((w.i64 (x1+1)) < (len x2.Code))) (
    gd (idx (w.i64 (x1+1)) (List.length x0)) <|
    again (List.set x0 (Int.toNat (w.i64 (x1+1))) true) (w.i64 (x1+1)) x2) <|
   again x0 (w.i64 (x1+1)) x2) <|
  again x0 (w.i64 (x1+1)) x2) <|
 some (1,(gD (.sl tB)).dv x0 [])
def a5z (N:Nat):Nat→Fn' (Option Rs) [pD (.sl tB),pI,a0p]:=lpG (a8l N)
def b6g (N:Nat):LE:=(0,mkM [pD (.sl tB),pI,a0p] [(1,[pD (.sl tB)])] (a5z N N))
theorem c8A (N:Nat):LEok Q a4Q (bodOf f199) f199.ntmps 0 (b6g N) :=
 loopG (hi:=a4Q) (l:=a6I N) (t:=[]) (r:=a8l N) a0r hmix (b2t N) (b4o N) e7T trivial (ls:=b6v) (body:=bodyAt f199 0) (by kernel_rfl) (by kernel_rfl) fun A ys=>by kernel_rfl
def a8B (N:Nat) (again:Fn' (Option Rs) [pD (.sl tB),pD (.sl tI),pI]) (x0:List Bool) (x1:List Int) (x2:Int):Option Rs :=
 bi (decide (x2 < (len x0))) (
  gd (idx x2 (List.length x0)) <|
  bi (List.getD x0 x2.toNat false) (
   gd (rm x1 [x2] 8) <|
   again x0 (x1++[x2]) (w.i64 (x2+1))) <|
  again x0 x1 (w.i64 (x2+1))) <|
 some (3,(gD (.sl tI)).dv x1 [])
def a8s (N:Nat):Nat→Fn' (Option Rs) [pD (.sl tB),pD (.sl tI),pI]:=lpG (a8B N)
def b6H (N:Nat):LE:=(2,mkM [pD (.sl tB),pD (.sl tI),pI] [(3,[pD (.sl tI)])] (a8s N N))
theorem c7F (N:Nat):LEok Q a4Q (bodOf f199) f199.ntmps 0 (b6H N) :=
 loopG (hi:=a4Q) (l:=a6I N) (t:=[]) (r:=a8B N) a0r hmix (b2t N) (b4o N) e7T trivial (ls:=b6t) (body:=bodyAt f199 2) (by kernel_rfl) (by kernel_rfl) fun A ys=>by kernel_rfl
def b4W (N:Nat) (x0:a0s):Option Rs :=
 on1 (a1h N x0)<|gg [pB]<|fun (x1:Bool) =>
 bi (!x1) (
  some (0,(gD (.sl tI)).dv ([]:List Int) [])) <|
 gd (decide (0≤(len x0.Code)∧(len x0.Code)≤(len x0.Code)∧(len x0.Code)*((1:Nat):Int)≤((reach:Nat):Int)∧(len x0.Code)≤((reach:Nat):Int))) <|
 gd (idx 0 (List.length (List.replicate (Int.toNat (len x0.Code)) false))) <|
 onA 1 (a5z N N (List.set (List.replicate (Int.toNat (len x0.Code)) false) 0 true) 0 x0)<|gg [pD (.sl tB)]<|fun (x2:List Bool) =>
 onA 3 (a8s N N x2 ([]:List Int) 0)<|gg [pD (.sl tI)]<|fun (x3:List Int) =>
 some (0,(gD (.sl tI)).dv x3 [])
def c1J (N:Nat):CE:=(c1a,mkF [a0p] [pD (.sl tI)] (b4W N))
theorem d2Q (N:Nat):CEok Q (c1J N) :=
 fnG (hi:=a4Q) (l:=a6I N) (t:=[b6g N,b6H N]) a0r hmix (b2t N) (b4o N) e7T (by kernel_rfl) (by kernel_rfl) ⟨c8A N,c7F N,trivial⟩ fun ys=>by kernel_rfl
def b7E:CS:=⟨43,200,⟨[.one (.d (.sl tI)),.one (.d tI)],[]⟩,[.one (.d tI)],true,[]⟩
def c5i:LS:=⟨⟨[.one (.d (.sl tI)),.one (.d tI),.no,.no,.no,.one (.d tI)]++nos 13,[]⟩,[(0,⟨[.no,.no,.no,.no,.one (.d tI)]++nos 14,[]⟩),(1,⟨nos 19,[]⟩)]⟩
def b7M:Hi:=⟨[],[(0,c5i)],[9,17],[],[]⟩
theorem e9t:Fn Q 200 f200 (codeOf f200):=by constructor <;> kernel_rfl
def b7D (N:Nat):List CE:=[]
theorem c8i (N:Nat):AllP (CEok Q) (b7D N):=trivial
theorem d0A (N:Nat):AllP (fun e=>lookC (b7D N) e.2.id = some e.2) b7M.cs:=trivial
def b1b (N:Nat) (again:Fn' (Option Rs) [pD (.sl tI),pI,pI]) (x0:List Int) (x1:Int) (x2:Int):Option Rs :=
 bi (decide (x2 < (len x0))) (
  gd (idx x2 (List.length x0)) <|
  bi ((List.getD x0 x2.toNat 0) == x1) (
   some (0,gI.dv x2 [])) <|
  again x0 x1 (w.i64 (x2+1))) <|
 some (1,[])
def a7L (N:Nat):Nat→Fn' (Option Rs) [pD (.sl tI),pI,pI]:=lpG (b1b N)
def c5b (N:Nat):LE:=(0,mkM [pD (.sl tI),pI,pI] [(0,[pI]),(1,[])] (a7L N N))
theorem d5e (N:Nat):LEok Q b7M (bodOf f200) f200.ntmps 0 (c5b N) :=
 loopG (hi:=b7M) (l:=b7D N) (t:=[]) (r:=b1b N) a0r hmix (c8i N) (d0A N) e9t trivial (ls:=c5i) (body:=bodyAt f200 0) (by kernel_rfl) (by kernel_rfl) fun A ys=>by kernel_rfl
def a5H (N:Nat) (x0:List Int) (x1:Int):Option Rs :=
 onB 0 1 (a7L N N x0 x1 0) (gg [pI]<|fun (x2:Int) =>
  some (0,gI.dv x2 []))<|gg [] <|
 some (0,gI.dv (-1:Int) [])
def c2N (N:Nat):CE:=(b7E,mkF [pD (.sl tI),pI] [pI] (a5H N))
theorem d0w (N:Nat):CEok Q (c2N N) :=
 fnG (hi:=b7M) (l:=b7D N) (t:=[c5b N]) a0r hmix (c8i N) (d0A N) e9t (by kernel_rfl) (by kernel_rfl) ⟨d5e N,trivial⟩ fun ys=>by kernel_rfl
def d5Y:CS:=⟨44,127,⟨[.agg [.d (.sl a0y),.d tI,.d (.sl tU)]],[]⟩,[.one (.o (.pair tI (.pair tI (.pair tI (.pair tI (.pair .nl (.pair .nl .unit)))))))],true,[]⟩
def c7z:LS:=⟨⟨[.no,.one (.p 0 0 [1,1,1]),.no,.one (.o tI),.one (.o (.pair tI (.pair tI (.pair tI (.pair tI (.pair .nl (.pair .nl .unit))))))),.one (.d tI)]++nos 66,[[.d (.sl a0y),.d tI,.d (.sl tU)]]⟩,[(1,⟨[.no,.no,.no,.no,.one (.o (.pair tI (.pair tI (.pair tI (.pair tI (.pair .nl (.pair .nl .unit)))))))]++nos 67,[]⟩)]⟩
def c0Q:Hi:=⟨[((1,1),c1a),((11,3),b7E),((12,4),b5a),((14,2),b7E)],[(0,c7z)],[14,29,46,50,62],[],[]⟩
theorem e8I:Fn Q 127 f127 (codeOf f127):=by constructor <;> kernel_rfl
def c0F (N:Nat):List CE:=[c1J N,c2N N,b4M N]
theorem d1s (N:Nat):AllP (CEok Q) (c0F N):=⟨d2Q N,d0w N,c0l N,trivial⟩
theorem d3H (N:Nat):AllP (fun e=>lookC (c0F N) e.2.id = some e.2) c0Q.cs:=⟨rfl,rfl,rfl,rfl,trivial⟩
def b8g (N:Nat) (again:Fn' (Option Rs) [pD (.sl tI),pD (.sl (.pair tI (.pair tI (.pair tI (.pair tI (.pair .nl (.pair .nl .unit))))))),pI,a0p]) (x0:List Int) (x1:List (Int × (Int × (Int × (Int × (Unit × (Unit × Unit))))))) (x2:Int) (x3:a0s):Option Rs :=
 bi (decide (x2 < (len x0))) (
  gd (idx x2 (List.length x0)) <|
  bi (decide ((w.i64 (x2+1)) < (len x0))) (
   gd (idx (w.i64 (x2+1)) (List.length x0)) <|
   gd (idx (w.i64 ((List.getD x0 (Int.toNat (w.i64 (x2+1))) 0) - 1)) (List.length x3.Code)) <|
   bi ((List.getD x3.Code (Int.toNat (w.i64 ((List.getD x0 (Int.toNat (w.i64 (x2+1))) 0) - 1))) a0o.z).1 != 40) (
    bi ((List.getD x3.Code (Int.toNat (w.i64 ((List.getD x0 (Int.toNat (w.i64 (x2+1))) 0) - 1))) a0o.z).1 != 41) (
     on1 (a5H N x0 (List.getD x0 (Int.toNat (w.i64 (x2+1))) 0))<|gg [pI]<|fun (x4:Int) =>
     on1 (a3N N x3 (w.i64 ((List.getD x0 (Int.toNat (w.i64 (x2+1))) 0) - 1)))<|gg [pI]<|fun (x5:Int) =>
     bi (decide (x5≥0)) (
      on1 (a5H N x0 x5)<|gg [pI]<|fun (x6:Int) =>
      gd (rm x1 [((List.getD x0 x2.toNat 0),((List.getD x0 (Int.toNat (w.i64 (x2+1))) 0),(x4,(x6,((),((),()))))))] 80) <|
      again x0 (x1++[((List.getD x0 x2.toNat 0),((List.getD x0 (Int.toNat (w.i64 (x2+1))) 0),(x4,(x6,((),((),()))))))]) (w.i64 (x2+1)) x3) <|
     gd (rm x1 [((List.getD x0 x2.toNat 0),((List.getD x0 (Int.toNat (w.i64 (x2+1))) 0),(x4,((-1:Int),((),((),()))))))] 80) <|
     again x0 (x1++[((List.getD x0 x2.toNat 0),((List.getD x0 (Int.toNat (w.i64 (x2+1))) 0),(x4,((-1:Int),((),((),()))))))]) (w.i64 (x2+1)) x3) <|
    on1 (a3N N x3 (w.i64 ((List.getD x0 (Int.toNat (w.i64 (x2+1))) 0) - 1)))<|gg [pI]<|fun (x7:Int) =>
    bi (decide (x7≥0)) (
     on1 (a5H N x0 x7)<|gg [pI]<|fun (x8:Int) =>
     gd (rm x1 [((List.getD x0 x2.toNat 0),((List.getD x0 (Int.toNat (w.i64 (x2+1))) 0),((-1:Int),(x8,((),((),()))))))] 80) <|
     again x0 (x1++[((List.getD x0 x2.toNat 0),((List.getD x0 (Int.toNat (w.i64 (x2+1))) 0),((-1:Int),(x8,((),((),()))))))]) (w.i64 (x2+1)) x3) <|
    gd (rm x1 [((List.getD x0 x2.toNat 0),((List.getD x0 (Int.toNat (w.i64 (x2+1))) 0),((-1:Int),((-1:Int),((),((),()))))))] 80) <|
    again x0 (x1++[((List.getD x0 x2.toNat 0),((List.getD x0 (Int.toNat (w.i64 (x2+1))) 0),((-1:Int),((-1:Int),((),((),()))))))]) (w.i64 (x2+1)) x3) <|
   on1 (a3N N x3 (w.i64 ((List.getD x0 (Int.toNat (w.i64 (x2+1))) 0) - 1)))<|gg [pI]<|fun (x9:Int) =>
   bi (decide (x9≥0)) (
    on1 (a5H N x0 x9)<|gg [pI]<|fun (x10:Int) =>
    gd (rm x1 [((List.getD x0 x2.toNat 0),((List.getD x0 (Int.toNat (w.i64 (x2+1))) 0),((-1:Int),(x10,((),((),()))))))] 80) <|
    again x0 (x1++[((List.getD x0 x2.toNat 0),((List.getD x0 (Int.toNat (w.i64 (x2+1))) 0),((-1:Int),(x10,((),((),()))))))]) (w.i64 (x2+1)) x3) <|
   gd (rm x1 [((List.getD x0 x2.toNat 0),((List.getD x0 (Int.toNat (w.i64 (x2+1))) 0),((-1:Int),((-1:Int),((),((),()))))))] 80) <|
   again x0 (x1++[((List.getD x0 x2.toNat 0),((List.getD x0 (Int.toNat (w.i64 (x2+1))) 0),((-1:Int),((-1:Int),((),((),()))))))]) (w.i64 (x2+1)) x3) <|
  gd (idx (w.i64 ((len x3.Code) - 1)) (List.length x3.Code)) <|
  bi ((List.getD x3.Code (Int.toNat (w.i64 ((len x3.Code) - 1))) a0o.z).1 != 40) (
   bi ((List.getD x3.Code (Int.toNat (w.i64 ((len x3.Code) - 1))) a0o.z).1 != 41) (
    on1 (a5H N x0 (len x3.Code))<|gg [pI]<|fun (x11:Int) =>
    on1 (a3N N x3 (w.i64 ((len x3.Code) - 1)))<|gg [pI]<|fun (x12:Int) =>
    bi (decide (x12≥0)) (
     on1 (a5H N x0 x12)<|gg [pI]<|fun (x13:Int) =>
     gd (rm x1 [((List.getD x0 x2.toNat 0),((len x3.Code),(x11,(x13,((),((),()))))))] 80) <|
     again x0 (x1++[((List.getD x0 x2.toNat 0),((len x3.Code),(x11,(x13,((),((),()))))))]) (w.i64 (x2+1)) x3) <|
    gd (rm x1 [((List.getD x0 x2.toNat 0),((len x3.Code),(x11,((-1:Int),((),((),()))))))] 80) <|
    again x0 (x1++[((List.getD x0 x2.toNat 0),((len x3.Code),(x11,((-1:Int),((),((),()))))))]) (w.i64 (x2+1)) x3) <|
   on1 (a3N N x3 (w.i64 ((len x3.Code) - 1)))<|gg [pI]<|fun (x14:Int) =>
   bi (decide (x14≥0)) (
    on1 (a5H N x0 x14)<|gg [pI]<|fun (x15:Int) =>
    gd (rm x1 [((List.getD x0 x2.toNat 0),((len x3.Code),((-1:Int),(x15,((),((),()))))))] 80) <|
    again x0 (x1++[((List.getD x0 x2.toNat 0),((len x3.Code),((-1:Int),(x15,((),((),()))))))]) (w.i64 (x2+1)) x3) <|
   gd (rm x1 [((List.getD x0 x2.toNat 0),((len x3.Code),((-1:Int),((-1:Int),((),((),()))))))] 80) <|
   again x0 (x1++[((List.getD x0 x2.toNat 0),((len x3.Code),((-1:Int),((-1:Int),((),((),()))))))]) (w.i64 (x2+1)) x3) <|
  on1 (a3N N x3 (w.i64 ((len x3.Code) - 1)))<|gg [pI]<|fun (x16:Int) =>
  bi (decide (x16≥0)) (
   on1 (a5H N x0 x16)<|gg [pI]<|fun (x17:Int) =>
   gd (rm x1 [((List.getD x0 x2.toNat 0),((len x3.Code),((-1:Int),(x17,((),((),()))))))] 80) <|
   again x0 (x1++[((List.getD x0 x2.toNat 0),((len x3.Code),((-1:Int),(x17,((),((),()))))))]) (w.i64 (x2+1)) x3) <|
  gd (rm x1 [((List.getD x0 x2.toNat 0),((len x3.Code),((-1:Int),((-1:Int),((),((),()))))))] 80) <|
  again x0 (x1++[((List.getD x0 x2.toNat 0),((len x3.Code),((-1:Int),((-1:Int),((),((),()))))))]) (w.i64 (x2+1)) x3) <|
 some (1,(gD (.sl (.pair tI (.pair tI (.pair tI (.pair tI (.pair .nl (.pair .nl .unit)))))))).dv x1 [])
def b2N (N:Nat):Nat→Fn' (Option Rs) [pD (.sl tI),pD (.sl (.pair tI (.pair tI (.pair tI (.pair tI (.pair .nl (.pair .nl .unit))))))),pI,a0p]:=lpG (b8g N)
def c7N (N:Nat):LE:=(0,mkM [pD (.sl tI),pD (.sl (.pair tI (.pair tI (.pair tI (.pair tI (.pair .nl (.pair .nl .unit))))))),pI,a0p] [(1,[pD (.sl (.pair tI (.pair tI (.pair tI (.pair tI (.pair .nl (.pair .nl .unit)))))))])] (b2N N N))
theorem d7N (N:Nat):LEok Q c0Q (bodOf f127) f127.ntmps 0 (c7N N) :=
 loopG (hi:=c0Q) (l:=c0F N) (t:=[]) (r:=b8g N) e6o hmix (d1s N) (d3H N) e8I trivial (ls:=c7z) (body:=bodyAt f127 0) (by kernel_rfl) (by kernel_rfl) fun A ys=>by kernel_rfl
def d2H (N:Nat) (x0:a0s):Option Rs :=
 on1 (b4W N x0)<|gg [pD (.sl tI)]<|fun (x1:List Int) =>
 onA 1 (b2N N N x1 ([]:List (Int × (Int × (Int × (Int × (Unit × (Unit × Unit))))))) 0 x0)<|gg [pD (.sl (.pair tI (.pair tI (.pair tI (.pair tI (.pair .nl (.pair .nl .unit)))))))]<|fun (x2:List (Int × (Int × (Int × (Int × (Unit × (Unit × Unit))))))) =>
 some (0,(gD (.sl (.pair tI (.pair tI (.pair tI (.pair tI (.pair .nl (.pair .nl .unit)))))))).dv x2 [])
def d5O (N:Nat):CE:=(d5Y,mkF [a0p] [pD (.sl (.pair tI (.pair tI (.pair tI (.pair tI (.pair .nl (.pair .nl .unit)))))))] (d2H N))
theorem e2G (N:Nat):CEok Q (d5O N) :=
 fnG (hi:=c0Q) (l:=c0F N) (t:=[c7N N]) e6o hmix (d1s N) (d3H N) e8I (by kernel_rfl) (by kernel_rfl) ⟨d7N N,trivial⟩ fun ys=>by kernel_rfl
end
end Go.Proofs.Zz
