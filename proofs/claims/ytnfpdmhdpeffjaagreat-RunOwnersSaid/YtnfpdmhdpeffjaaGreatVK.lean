import Derived.Test.YtnfpdmhdpeffjaaGreatK12
import Derived.Test.YtnfpdmhdpeffjaaGreatEnhK
set_option linter.unusedSimpArgs false
set_option linter.unusedVariables false
/- The outer loop of split.With, that appends to slices within a slice's elements. -/
set_option maxRecDepth 100000
namespace Go.Proofs.Zz
noncomputable section
open Go Go.Proofs.Tryz
abbrev XV:List PG:=[pD (.sl a0y),pI,pD (.sl tU),pD (.ar 16 tI),pD (.sl a0n),pD (.ar 16 tI)]
abbrev SV:List PG:=[pD (.ar 16 tI)]
abbrev UV:List PG:=[pI,pI,pD (.sl a0y),pI,pD (.sl tU),pD (.ar 16 tI),pD (.sl a0n),pD (.ar 16 tI),pI,pI,pD (.ar 16 tI),pI,pI,pI,pI,pD (.sl a0i),pD (.sl a0i)]
def g6H (N:Nat):(List DV→Option Rs)→List DV→Option Rs:=round cx0 f2I (ctL (f2P N)) (ltL [f4K N]) f186.ntmps 5 0 f5J (bodyAt f186 0)
def g6B (N:Nat):(List DV→Option Rs)→List DV→Option Rs:=round cx0 f2I (ctL (f2P N)) (ltL []) f186.ntmps 4 0 f5v (bodyAt f186 0)
def stV (n i n1 i1 n2 i2:Int) (r:List DV × List DV × Den (B4 (.sl a0i))):Option (List DV × List DV × Den (B4 (.sl a0i))) :=
 if 0≤i∧i < n∧n1 = n∧i1 = i∧n2 = n∧i2 = i∧IntKind.i64.wrap (i+1) = i+1 then some r else none
abbrev cutV (c:List a0o) (f t:Int):List a0o:=List.take (t.toNat - f.toNat) (List.drop f.toNat c)
def st_V (N:Nat) (n i:Int) (X S:List DV) (v:Den (B4 .nl)):Option (List DV × List DV × Den (B4 (.sl a0i))) :=
 gg XV (fun (x0:List a0o) (x1:Int) (x2:List Int) (x3:List Int) (x4:List a0x) (x5:List Int)=>gg SV (fun (so:List Int) =>
  if sb v.2.1 (len x0) = true∧sb v.1 v.2.1 = true then
  onA 3 (f2G N N n i (cutV x0 v.1 v.2.1) (len (cutV x0 v.1 v.2.1)) 0 x0 x1 x2 x3 x4 x5 n i so v.1 v.2.1 v.2.2.1 v.2.2.2.1 [] []) (gg UV (fun (n1:Int) (i1:Int) (y0:List a0o) (y1:Int) (y2:List Int) (y3:List Int) (y4:List a0x) (y5:List Int) (n2:Int) (i2:Int) (so1:List Int) (f:Int) (t:Int) (nx:Int) (tk:Int) (A:List a0h) (E:List a0h) =>
   stV n i n1 i1 n2 i2 (dvG XV (y0,y1,y2,y3,y4,y5,()),dvG SV (so1,()),((f,(t,(nx,(tk,(A,(E,())))))):Den (B4 (.sl a0i)))))) else none) S) X
theorem g5C (N:Nat) (n i:Int) (X S:List DV) (v:Den (B4 .nl)) (X' S':List DV) (v':Den (B4 (.sl a0i))) (h:st_V N n i X S v = some (X',S',v')) :
  X'.length = 6∧S'.length = 1∧g6H N (fun p=>some (7,p)) (⟨.int .i64,n⟩::⟨.int .i64,i⟩::(X++((⟨.int .i64,n⟩::⟨.int .i64,i⟩::S)++po4 a0i v))) =
   some (7,⟨.int .i64,n⟩::⟨.int .i64,i+1⟩::(X'++((⟨.int .i64,n⟩::⟨.int .i64,i⟩::S')++pc4 a0i v'))):=by
 unfold st_V at h;obtain ⟨ys,rfl,h1⟩:=d0g h;have h1b:gg SV (fun (so:List Int)=>if sb v.2.1 (len ys.1) = true∧sb v.1 v.2.1 = true then onA 3 (f2G N N n i (cutV ys.1 v.1 v.2.1) (len (cutV ys.1 v.1 v.2.1)) 0 ys.1 ys.2.1 ys.2.2.1 ys.2.2.2.1 ys.2.2.2.2.1 ys.2.2.2.2.2.1 n i so v.1 v.2.1 v.2.2.1 v.2.2.2.1 [] []) (gg UV (fun (n1:Int) (i1:Int) (y0:List a0o) (y1:Int) (y2:List Int) (y3:List Int) (y4:List a0x) (y5:List Int) (n2:Int) (i2:Int) (so1:List Int) (f:Int) (t:Int) (nx:Int) (tk:Int) (A:List a0h) (E:List a0h) =>
   stV n i n1 i1 n2 i2 (dvG XV (y0,y1,y2,y3,y4,y5,()),dvG SV (so1,()),((f,(t,(nx,(tk,(A,(E,())))))):Den (B4 (.sl a0i)))))) else none) S = some (X',S',v'):=h1
 obtain ⟨zs,rfl,h2⟩:=d0g h1b;have h3:(if sb v.2.1 (len ys.1) = true∧sb v.1 v.2.1 = true then onA 3 (f2G N N n i (cutV ys.1 v.1 v.2.1) (len (cutV ys.1 v.1 v.2.1)) 0 ys.1 ys.2.1 ys.2.2.1 ys.2.2.2.1 ys.2.2.2.2.1 ys.2.2.2.2.2.1 n i zs.1 v.1 v.2.1 v.2.2.1 v.2.2.2.1 [] []) (gg UV (fun (n1:Int) (i1:Int) (y0:List a0o) (y1:Int) (y2:List Int) (y3:List Int) (y4:List a0x) (y5:List Int) (n2:Int) (i2:Int) (so1:List Int) (f:Int) (t:Int) (nx:Int) (tk:Int) (A:List a0h) (E:List a0h) =>
   stV n i n1 i1 n2 i2 (dvG XV (y0,y1,y2,y3,y4,y5,()),dvG SV (so1,()),((f,(t,(nx,(tk,(A,(E,())))))):Den (B4 (.sl a0i)))))) else none) = some (X',S',v'):=h2
 split at h3
 rotate_left
 · simp at h3
 rename_i hsb;unfold onA at h3;split at h3
 ·
  rename_i m p hr;split at h3
  ·
   rename_i hm;have hm:=Nat.eq_of_beq_eq_true hm;subst hm;obtain ⟨us,rfl,h4⟩:=d0g h3;have h5:stV n i us.1 us.2.1 us.2.2.2.2.2.2.2.2.1 us.2.2.2.2.2.2.2.2.2.1 (dvG XV (us.2.2.1,us.2.2.2.1,us.2.2.2.2.1,us.2.2.2.2.2.1,us.2.2.2.2.2.2.1,us.2.2.2.2.2.2.2.1,()),dvG SV (us.2.2.2.2.2.2.2.2.2.2.1,()),((us.2.2.2.2.2.2.2.2.2.2.2.1,us.2.2.2.2.2.2.2.2.2.2.2.2.1,us.2.2.2.2.2.2.2.2.2.2.2.2.2.1,us.2.2.2.2.2.2.2.2.2.2.2.2.2.2.1,us.2.2.2.2.2.2.2.2.2.2.2.2.2.2.2.1,us.2.2.2.2.2.2.2.2.2.2.2.2.2.2.2.2.1,()):Den (B4 (.sl a0i)))) = some (X',S',v'):=h4;unfold stV at h5;split at h5
   ·
    rename_i hc;obtain ⟨c0,c1,c2,c3,c4,c5,c6⟩:=hc;simp only [Option.some.injEq,Prod.mk.injEq] at h5;obtain ⟨rfl,rfl,rfl⟩:=h5;refine ⟨rfl,rfl,?_⟩;refine (f9x N (fun p=>some (7,p)) (n,i,ys.1,ys.2.1,ys.2.2.1,ys.2.2.2.1,ys.2.2.2.2.1,ys.2.2.2.2.2.1,n,i,zs.1,v.1,v.2.1,v.2.2.1,v.2.2.2.1,[],[],())).trans ?_;show f5Z N (cK _ fun p=>some (7,p)) n i ys.1 ys.2.1 ys.2.2.1 ys.2.2.2.1 ys.2.2.2.2.1 ys.2.2.2.2.2.1 n i zs.1 v.1 v.2.1 v.2.2.1 v.2.2.2.1 [] [] = _;unfold f5Z;rw [show decide (i < n) = true by simpa using c1,show decide (i = i∧0≤i∧i < n) = true by simp [c0,c1],hsb.1,hsb.2];simp only [g7n];rw [hr,g7u];refine (c5e UV _ us).trans ?_;show (some (7,gI.dv us.1 (gI.dv (IntKind.i64.wrap (HAdd.hAdd (α:=Int) (β:=Int) (γ:=Int) us.2.1 1)) ((gD (.sl a0y)).dv us.2.2.1 (gI.dv us.2.2.2.1 ((gD (.sl tU)).dv us.2.2.2.2.1 ((gD (.ar 16 tI)).dv us.2.2.2.2.2.1 ((gD (.sl a0n)).dv us.2.2.2.2.2.2.1 ((gD (.ar 16 tI)).dv us.2.2.2.2.2.2.2.1 (gI.dv us.2.2.2.2.2.2.2.2.1 (gI.dv us.2.2.2.2.2.2.2.2.2.1 ((gD (.ar 16 tI)).dv us.2.2.2.2.2.2.2.2.2.2.1 (gI.dv us.2.2.2.2.2.2.2.2.2.2.2.1 (gI.dv us.2.2.2.2.2.2.2.2.2.2.2.2.1 (gI.dv us.2.2.2.2.2.2.2.2.2.2.2.2.2.1 (gI.dv us.2.2.2.2.2.2.2.2.2.2.2.2.2.2.1 ((gD (.sl a0i)).dv us.2.2.2.2.2.2.2.2.2.2.2.2.2.2.2.1 ((gD (.sl a0i)).dv us.2.2.2.2.2.2.2.2.2.2.2.2.2.2.2.2.1 []))))))))))))))))):Option Rs) = _;rw [c2,c3,c4,c5,c6];rfl
   · simp at h5
  · simp at h3
 · simp at h3
theorem g5x (N:Nat) (n:Int) (X S:List DV) (β:Nat→EI) (F:Nat→Prop) (w:World) (hX:RepBs β F w (f2U.h.bx.take 3) 0 X []) (hS:∃ c,RepKs β F w [.d (.ar 16 (.int .i64))] S [] c) :
  g6B N (fun _=>none) (⟨.int .i64,n⟩::⟨.int .i64,n⟩::(X++(⟨.int .i64,n⟩::⟨.int .i64,n⟩::S))) = some (1,X++(⟨.int .i64,n⟩::⟨.int .i64,n⟩::S)):=by
 obtain ⟨p1,p2,e1,e2,c1,t1,rfl,_,_,k1,_,_,g1⟩:=RepBs.inv hX;obtain ⟨p3,p4,e3,e4,c3,t3,rfl,_,_,k2,_,_,g2⟩:=g1.inv;obtain ⟨p5,p6,e5,e6,c5,t5,rfl,_,_,k3,_,_,g3⟩:=g2.inv;obtain ⟨rfl,_⟩:=g3.inv;obtain ⟨c,hS⟩:=hS;obtain ⟨a1,rfl⟩:=c8z (ts:=[.sl a0y,tI,.sl tU]) k1;obtain ⟨a2,rfl⟩:=c8z (ts:=[.ar 16 tI]) k2;obtain ⟨a3,rfl⟩:=c8z (ts:=[.sl a0n,.ar 16 tI]) k3;obtain ⟨a4,rfl⟩:=c8z (ts:=[.ar 16 tI]) hS;refine (f9F N (fun _=>none) (n,n,a1.1,a1.2.1,a1.2.2.1,a2.1,a3.1,a3.2.1,n,n,a4.1,())).trans ?_;show f6a N (cK _ fun _=>none) n n a1.1 a1.2.1 a1.2.2.1 a2.1 a3.1 a3.2.1 n n a4.1 = _;unfold f6a;rw [show decide (n < n) = false by simp];rfl
def ol_V (N:Nat):OL Q cx0 f2I (f2P N) [f4K N] f186 0 (bodyAt f186 0) where
 bs:=f2U.h.bx.take 3
 av:=f2U.h.av
 ap:=fun n i=>[⟨.int .i64,n⟩,⟨.int .i64,i⟩]
 ax:=(sgOf f2U 1).av
 sk:=[.d (.ar 16 (.int .i64))]
 ks:=ks4 a0i
 T0:=B4 .nl
 T1:=B4 (.sl a0i)
 sz:=6
 LR:=f5J
 LX:=f5v
 L0:=f2U
 po:=po4 a0i
 pc:=pc4 a0i
 step:=st_V N
 okA:=by kernel_rfl
 okX:=by kernel_rfl
 okB:=by kernel_rfl
 okS:=by kernel_rfl
 nA:=fun _ _=>rfl
 nX:=by kernel_rfl
 hR:=by kernel_rfl
 hX:=by kernel_rfl
 xR:=by kernel_rfl
 xX:=by kernel_rfl
 h0:=by kernel_rfl
 x0:=by kernel_rfl
 z0:=by kernel_rfl
 z1:=by kernel_rfl
 zp:=by decide
 zo:=fun _=>rfl
 open_:=open4 a0i
 close:=close4 a0i
 round:=fun n i X S v X' S' v' h _ _=>g5C N n i X S v X' S' v' h
 exit:=g5x N
abbrev LV:List PG:=[pI,pI,pD (.sl a0y),pI,pD (.sl tU),pD (.ar 16 tI),pD (.sl a0n),pD (.ar 16 tI),pD (.sl (B4 .nl)),pD (.ar 16 tI)]
abbrev LU:List PG:=[pD (.sl a0y),pI,pD (.sl tU),pD (.ar 16 tI),pD (.sl a0n),pD (.ar 16 tI),pD (.sl a0n),pD (.ar 16 tI)]
def f3e (N:Nat) (_:Nat) (n:Int) (i:Int) (x0:List a0o) (x1:Int) (x2:List Int) (x3:List Int) (x4:List a0x) (x5:List Int) (xs:List (Den (B4 .nl))) (so:List Int):Option Rs :=
 if i = 0∧n = (xs.length:Int) then match (ol_V N).walk (xs.length:Int) xs 0 (dvG XV (x0,x1,x2,x3,x4,x5,())) (dvG SV (so,())) with
  | some (X2,S2,zs)=>some (1,X2++(⟨.sl (B4 (.sl a0i)),zs⟩::S2))
  | none=>none
 else none
def f8x (N:Nat):LE:=(0,mkM LV [(1,LU)] (f3e N N))
theorem g1A (N:Nat):LEok Q f2I (bodOf f186) f186.ntmps f7v.i.bx.length (f8x N) :=
 e6E (ls:=f2U) (body:=bodyAt f186 0) (by kernel_rfl) (by kernel_rfl) fun ys q h=>by
 obtain ⟨n,i,c,sz,dt,o,rb,ro,xs,so,u⟩:=ys;have h1:f3e N N n i c sz dt o rb ro xs so = some q:=h;unfold f3e at h1;split at h1
 ·
  rename_i hi;obtain ⟨rfl,rfl⟩:=hi;split at h1
  ·
   rename_i X2 S2 zs hw;simp only [Option.some.injEq] at h1;subst h1;have:=OL.loop (ol_V N) a0r hmix (f6D N) (f7U N) g5y (by kernel_rfl) ⟨g1t N,trivial⟩ (by kernel_rfl) hw;exact this
  · simp at h1
 · simp at h1
end
end Go.Proofs.Zz

/- What functions of the program compute, as plain functions. -/
set_option maxRecDepth 100000
namespace Go.Proofs.Zz
noncomputable section
open Go Go.Proofs.Tryz
variable (N:Nat)
def f8e (x0:a0s) (x1:List Int):OR:=on1 (f5S N x0 x1)<|gg [pB]<|fun (x2:Bool)=>bi (!x2) (some (0,a0H.dv (a0g.mk ([]:List a0x) (List.replicate 16 (0 :Int))) (gI.dv 1 [])))<|on1 (f8g N x0)<|gg [pD (.sl (.pair tI (.pair tI (.pair tI (.pair tI (.pair .nl (.pair .nl .unit)))))))]<|fun (x3:List (Int × (Int × (Int × (Int × (Unit × (Unit × Unit)))))))=>onA 1 (f3e N N (len x3) 0 x0.Code x0.Size x0.Data x1 ([]:List a0x) (List.replicate 16 (0 :Int)) x3 x1)<|gg [pD (.sl a0y),pI,pD (.sl tU),pD (.ar 16 tI),pD (.sl a0n),pD (.ar 16 tI),pD (.sl a0n),pD (.ar 16 tI)]<|fun (x4:List a0o) (x5:Int) (x6 x7:List Int) (x8:List a0x) (x9:List Int) (x10:List a0x) (x11:List Int)=>some (0,a0H.dv (a0g.mk x10 x11) (gI.dv 0 []))
def g0n:CE:=(f7v,mkF [a0p,pD (.ar 16 tI)] [a0m,pI] (f8e N))
theorem g2U:CEok Q (g0n N) :=
 fnG (hi:=f2I) (l:=f2P N) (t:=[f8x N]) a0r hmix (f6D N) (f7U N) g5y (by kernel_rfl) (by kernel_rfl) ⟨g1A N,trivial⟩ fun ys=>by kernel_rfl
def f3O:CS:=⟨296,286,⟨[.one (.d (.sl a0i)),.one (.d (.sl a0i))],[]⟩,[.one (.d tB)],true,[]⟩
def f4V:LS:=⟨⟨[.one (.d (.sl a0i)),.one (.d (.sl a0i))]++nos 10++[.one (.d tI),.one (.d tI)]++nos 12,[]⟩,[(0,⟨[.no,.no,.no,.no,.one (.d tB)]++nos 21,[]⟩),(1,⟨nos 26,[]⟩)]⟩
def f3h:Hi:=⟨[],[(0,f4V)],[10,14,24],[],[]⟩
theorem f5h (N:Nat):AllP (CEok Q) []:=g7q
def f3a (N:Nat) (again:Fn' OR [pD (.sl a0i),pD (.sl a0i),pI,pI]) (x0 x1:List a0h) (x2 x3:Int):OR:=bi (decide (x3 < x2)) (gd (idx x3 x0.length)<|gd (idx x3 x1.length)<|bi (!(((x0.getD x3.toNat a0h.z).1 == (x1.getD x3.toNat a0h.z).1) && (((x0.getD x3.toNat a0h.z).2.1.1 == (x1.getD x3.toNat a0h.z).2.1.1) && (((x0.getD x3.toNat a0h.z).2.1.2.1 == (x1.getD x3.toNat a0h.z).2.1.2.1) && (((x0.getD x3.toNat a0h.z).2.1.2.2.1 == (x1.getD x3.toNat a0h.z).2.1.2.2.1) && (((x0.getD x3.toNat a0h.z).2.1.2.2.2.1 == (x1.getD x3.toNat a0h.z).2.1.2.2.2.1) && (((x0.getD x3.toNat a0h.z).2.1.2.2.2.2.1 == (x1.getD x3.toNat a0h.z).2.1.2.2.2.2.1) && (((x0.getD x3.toNat a0h.z).2.2.1 == (x1.getD x3.toNat a0h.z).2.2.1) && (((x0.getD x3.toNat a0h.z).2.2.2.1 == (x1.getD x3.toNat a0h.z).2.2.2.1) && ((x0.getD x3.toNat a0h.z).2.2.2.2.1 == (x1.getD x3.toNat a0h.z).2.2.2.2.1)))))))))) (some (0,gB.dv false []))<|again x0 x1 x2 (w.i64 (x3+1)))<|some (1,[])
def f2F:Nat→Fn' OR [pD (.sl a0i),pD (.sl a0i),pI,pI]:=lpG (f3a N)
theorem f7K:LEok Q f3h (bodOf f286) f286.ntmps 0 (0,mkM [pD (.sl a0i),pD (.sl a0i),pI,pI] [(0,[pB]),(1,[])] (f2F N N)):=g7r a0r 286 f4V (f5h N)
def f2s (x0 x1:List a0h):OR:=bi ((len x0) != (len x1)) (some (0,gB.dv false []))<|onB 0 1 (f2F N N x0 x1 (len x0) 0) (gg [pB]<|fun (x2:Bool)=>some (0,gB.dv x2 []))<|gg []<|some (0,gB.dv true [])
def f5K:CE:=(f3O,mkF [pD (.sl a0i),pD (.sl a0i)] [pB] (f2s N))
theorem f8H:CEok Q (f5K N):=fn_L a0r f286 f3h (f5h N) (g7o (f7K N))
def g0k:CS:=⟨297,251,⟨[.agg q_6,.agg q_6],[]⟩,[.one (.d tB)],true,[]⟩
def f7Z (x0 x1:a0x):OR:=bi (x0.1 == x1.1) (bi (x0.2.1 == x1.2.1) (bi (x0.2.2.1 == x1.2.2.1) (bi (x0.2.2.2.1 == x1.2.2.2.1) (on1 (f2s N x0.2.2.2.2.1 x1.2.2.2.2.1)<|gg [pB]<|fun (x2:Bool)=>bi x2 (on1 (f2s N x0.2.2.2.2.2.1 x1.2.2.2.2.2.1)<|gg [pB]<|fun (x3:Bool)=>some (0,gB.dv x3 []))<|some (0,gB.dv false []))<|some (0,gB.dv false []))<|some (0,gB.dv false []))<|some (0,gB.dv false []))<|some (0,gB.dv false [])
def f9X:CE:=(g0k,mkF [c7d,c7d] [pB] (f7Z N))
theorem g2Z:CEok Q (f9X N):=fn_K a0r f251 ⟨[((1,31),f3O),((1,38),f3O)],[],[10,17,24,31,38],[],[]⟩ (g7o (f8H N))
def f3T:CS:=⟨298,250,⟨[.one (.d (.sl a0n)),.one (.d (.sl a0n)),.one (.f 251 [])],[]⟩,[.one (.d tB)],true,[]⟩
def f3B:LS:=⟨⟨[.no,.one (.d (.sl a0n)),.one (.f 251 [])]++nos 12++[.one (.d (.sl a0n)),.one (.d tI),.one (.d tI)]++nos 14,[]⟩,[(0,⟨nos 6++[.one (.d tB)]++nos 25,[]⟩),(1,⟨nos 32,[]⟩)]⟩
def f2A:Hi:=⟨[((7,3),g0k)],[(0,f3B)],[14,18,30],[],[]⟩
theorem f3G:AllP (CEok Q) [f9X N]:=g7o (g2Z N)
def f2v (again:Fn' OR [pD (.sl a0n),pD (.sl a0n),pI,pI]) (x0 x1:List a0x) (x2 x3:Int):OR:=bi (decide (x3 < x2)) (gd (idx x3 x1.length)<|gd (idx x3 x0.length)<|on1 (f7Z N (x1.getD x3.toNat a0x.z) (x0.getD x3.toNat a0x.z))<|gg [pB]<|fun (x4:Bool)=>bi (!x4) (some (0,gB.dv false []))<|again x0 x1 x2 (w.i64 (x3+1)))<|some (1,[])
def f2l:Nat→Fn' OR [pD (.sl a0n),pD (.sl a0n),pI,pI]:=lpG (f2v N)
theorem f5L:LEok Q f2A (bodOf f250) f250.ntmps 0 (0,mkM [pD (.sl a0n),pD (.sl a0n),pI,pI] [(0,[pB]),(1,[])] (f2l N N)):=g7r a0r 250 f3B (f3G N)
def f2K (x0 x1:List a0x):OR:=bi ((len x0) != (len x1)) (some (0,gB.dv false []))<|onB 0 1 (f2l N N x1 x0 (len x0) 0) (gg [pB]<|fun (x2:Bool)=>some (0,gB.dv x2 []))<|gg []<|some (0,gB.dv true [])
def f3P:CE:=(f3T,mkF [pD (.sl a0n),pD (.sl a0n)] [pB] (f2K N))
theorem f6s:CEok Q (f3P N):=fn_L a0r f250 f2A (f3G N) (g7o (f5L N))
def g0b:CS:=⟨299,187,⟨[.agg [.d (.sl a0n),.d (.ar 16 tI)],.agg [.d (.sl a0n),.d (.ar 16 tI)]],[]⟩,[.one (.d tB)],true,[]⟩
def f9y (x0 x1:a0g):OR:=bi (x0.Owner == x1.Owner) (on1 (f2K N x0.Blocks x1.Blocks)<|gg [pB]<|fun (x2:Bool)=>some (0,gB.dv x2 []))<|some (0,gB.dv false [])
def f9Z:CE:=(g0b,mkF [a0m,a0m] [pB] (f9y N))
theorem g2I:CEok Q (f9Z N):=fn_K a0r f187 ⟨[((1,10),f3T)],[],[10],[],[]⟩ (g7o (f6s N))
def g0i:CS:=⟨300,118,⟨[.agg [.d (.sl a0y),.d tI,.d (.sl tU)],.agg [.d (.sl a0n),.d (.ar 16 tI)]],[]⟩,[.one (.d tB)],true,[]⟩
def f7V (x0:a0s) (x1:a0g):OR:=on1 (f8e N x0 x1.Owner)<|gg [a0m,pI]<|fun (x2:a0g) (x3:Int)=>bi (x3 == 0) (on1 (f9y N x1 x2)<|gg [pB]<|fun (x4:Bool)=>some (0,gB.dv x4 []))<|some (0,gB.dv false [])
def f9T:CE:=(g0i,mkF [a0p,a0m] [pB] (f7V N))
theorem g2S:CEok Q (f9T N):=fn_K a0r f118 ⟨[((1,3),f7v),((2,5),g0b)],[],[16],[],[]⟩ (g7x (g2U N) (g2I N))
def g0a:CS:=⟨301,189,⟨[.agg [.d (.sl a0y),.d tI,.d (.sl tU)]],[]⟩,[.one (.o tU)],true,[]⟩
def f8b (N:Nat) (x0:a0s):OR:=gd (decide (0≤x0.Size∧x0.Size≤x0.Size∧x0.Size*((1:Nat):Int)≤((reach:Nat):Int)∧x0.Size≤((reach:Nat):Int)))<|some (0,(gD (.sl tU)).dv (laid (List.replicate x0.Size.toNat (0 :Int)) 0 (List.take (List.length (List.replicate x0.Size.toNat (0 :Int))) x0.Data)) [])
def g0g:CE:=(g0a,mkF [a0p] [pD (.sl tU)] (f8b N))
theorem g2K:CEok Q (g0g N):=fn_K a0r f189 ⟨[],[],[],[],[]⟩ g7q
def f8S:CS:=⟨302,119,⟨[.agg [.d (.sl a0y),.d tI,.d (.sl tU)]],[]⟩,[.agg q_1],true,[]⟩
def f6R (x0:a0s):OR:=on1 (f4F N x0)<|gg [pB]<|fun (x1:Bool)=>bi (!x1) (some (0,a0c.dv (a0b.mk 0 a0v.z a0v.z ([]:List a0q) ([]:List Int) ([]:List Int) ([]:List Bool) ([]:List Bool) ([]:List a0a) ([]:List a0e) ([]:List Int) ([]:List a0K) a1X.z 0 0 0) []))<|on1 (f8b N x0)<|gg [pD (.sl tU)]<|fun (x2:List Int)=>some (0,a0c.dv (a0b.mk 0 a0v.z a0v.z ([]:List a0q) ([]:List Int) ([]:List Int) ([]:List Bool) ([]:List Bool) ([]:List a0a) ([]:List a0e) x2 ([]:List a0K) a1X.z 0 0 0) [])
def f9g:CE:=(f8S,mkF [a0p] [a0d] (f6R N))
theorem g2t:CEok Q (f9g N):=fn_K a0r f119 ⟨[((1,1),f5r),((3,1),g0a)],[],[5],[],[]⟩ (g7x (f6N N) (g2K N))
def f8B:CS:=⟨303,62,⟨[.agg [.d (.sl a0n),.d (.ar 16 tI)],.agg q_0],[]⟩,[.agg [.d (.ar 16 tW)]],true,[]⟩
def f9a:LS:=⟨⟨[.no,.no,.one (.p 0 0 [1,16]),.one (.p 1 0 [1,16,16,1,1,1,1,1,1,16,16,1,1,1,1,1,1,1,1,1,1,1,1,1,1,1,1,1,1,1,1,1]),.one (.p 2 0 [16]),.one (.p 3 0 [16]),.one (.d tI)]++nos 27,[[.d (.sl a0n),.d (.ar 16 tI)],q_0,[.d (.ar 16 tW)],[.d (.ar 16 tW)]]⟩,[(1,⟨[.no,.no,.no,.no,.one (.p 0 0 [16]),.one (.p 1 0 [16])]++nos 28,[[.d (.ar 16 tW)],[.d (.ar 16 tW)]]⟩)]⟩
def f6F:Hi:=⟨[],[(0,f9a)],[8,15,24],[],[]⟩
theorem f9Q (N:Nat):AllP (CEok Q) []:=g7q
def f5P (N:Nat) (again:Fn' OR [pI,a0m,a0d,pD (.ar 16 tW),pD (.ar 16 tW)]) (x0:Int) (x1:a0g) (x2:a0b) (x3 x4:List Int):OR:=bi (decide (x0 < 16)) (gd (idx x0 16)<|bi ((x1.Owner.getD x0.toNat 0) == 1) (gd (idx x0 16)<|gd (idx x0 16)<|again (w.i64 (x0+1)) x1 x2 x3 (x4.set x0.toNat (x2.A.Regs.getD x0.toNat 0)))<|bi ((x1.Owner.getD x0.toNat 0) == 2) (gd (idx x0 16)<|gd (idx x0 16)<|again (w.i64 (x0+1)) x1 x2 x3 (x4.set x0.toNat (x2.E.Regs.getD x0.toNat 0)))<|again (w.i64 (x0+1)) x1 x2 x3 x4)<|some (1,(gD (.ar 16 tW)).dv x3 ((gD (.ar 16 tW)).dv x4 []))
def f4Q:Nat→Fn' OR [pI,a0m,a0d,pD (.ar 16 tW),pD (.ar 16 tW)]:=lpG (f5P N)
theorem g2p:LEok Q f6F (bodOf f62) f62.ntmps 0 (0,mkM [pI,a0m,a0d,pD (.ar 16 tW),pD (.ar 16 tW)] [(1,[pD (.ar 16 tW),pD (.ar 16 tW)])] (f4Q N N)):=g7r a0r 62 f9a (f9Q N)
def f6u (x0:a0g) (x1:a0b):OR:=onA 1 (f4Q N N 1 x0 x1 (List.replicate 16 (0 :Int)) (List.replicate 16 (0 :Int)))<|gg [pD (.ar 16 tW),pD (.ar 16 tW)]<|fun (x2 x3:List Int)=>some (0,(gD (.ar 16 tW)).dv x3 [])
def f8F:CE:=(f8B,mkF [a0m,a0d] [pD (.ar 16 tW)] (f6u N))
theorem g0W:CEok Q (f8F N):=fn_L a0r f62 f6F (f9Q N) (g7o (g2p N))
def g0q:CS:=⟨304,121,⟨[.agg [.d (.sl a0n),.d (.ar 16 tI)],.one (.r (.pair tI (.pair (.pair (.ar 16 tW) (.pair (.ar 16 tI) (.pair (.pair tI (.pair tI (.pair tI .unit))) (.pair tI (.pair tB (.pair tI .unit)))))) (.pair (.pair (.ar 16 tW) (.pair (.ar 16 tI) (.pair (.pair tI (.pair tI (.pair tI .unit))) (.pair tI (.pair tB (.pair tI .unit)))))) (.pair (.sl a0k) (.pair (.sl tW) (.pair (.sl tW) (.pair (.sl tB) (.pair (.sl tB) (.pair (.sl a0t) (.pair (.sl a0j) (.pair (.sl tU) (.pair (.sl a0Q) (.pair (.pair tI (.pair tI (.pair tI .unit))) (.pair tI (.pair tI (.pair tI .unit)))))))))))))))))],[]⟩,[.agg q_11],true,[]⟩
def f8d (x0:a0g) (x1:a0b):OR:=on1 (a7k N x1.Mem)<|gg [pD (.sl tU)]<|fun (x2:List Int)=>on1 (a2I N x1.Writes)<|gg [pD (.sl a0Q)]<|fun (x3:List a0K)=>bi (x1.Trap.Kind != 0) (some (0,f2a.dv ({ x1 with End:=2,Steps:=x1.Trap.Step,Regs:=(List.replicate 16 (0 :Int)),Mem:=x2,Writes:=x3 }:f1Y) []))<|on1 (b0G N x0 x1.A.Pos)<|gg [pI]<|fun (x4:Int)=>on1 (f6u N x0 x1)<|gg [pD (.ar 16 tW)]<|fun (x5:List Int)=>some (0,f2a.dv (f1Y.mk 1 a1X.z x4 x5 x2 x3) [])
def f9Y:CE:=(g0q,mkF [a0m,a0W] [f1Z] (f8d N))
theorem g3i:CEok Q (f9Y N):=fn_K a0r f121 ⟨[((1,4),b5I),((1,9),a9p),((5,6),b3R),((5,11),f8B)],[],[22],[],[]⟩ (g7p (c8f N) (g7s (b8K N) (b9U N) (g0W N)))
def g0N:CS:=⟨305,120,⟨[.agg q_5,.agg [.d (.sl a0n),.d (.ar 16 tI)],.agg [.d (.sl tI),.d (.sl tI)],.one (.p 0 0 [1,16,16,1,1,1,1,1,1,16,16,1,1,1,1,1,1,1,1,1,1,1,1,1,1,1,1,1,1,1,1,1])],[q_1]⟩,[],false,[q_1]⟩
def f8V (x0:a0f) (x1:a0g) (x2:a0w) (x3:a0b):OR:=on1 (a9Y N x0 x2 x3)<|gg [a0d]<|fun (x4:a0b)=>on1 (a7V N x0 x4)<|gg [a0d]<|fun (x5:a0b)=>on1 (b8D N x0 x1 x5)<|gg [a0d]<|fun (x6:a0b)=>on1 (b3K N x0 x1 x6)<|gg [a0d]<|fun (x7:a0b)=>some (0,a0c.dv ({ x7 with Cycle:=(w.i64 (x7.Cycle+1)) }:a0b) [])
def g1o:CE:=(g0N,mkF [a0l,a0m,a0F,a0d] [a0d] (f8V N))
theorem g3B:CEok Q (g1o N):=fn_K a0r f120 ⟨[((1,3),c5c),((2,2),c1V),((3,3),c5L),((4,3),c5Y)],[],[],[],[]⟩ (g7p (d6A N) (g7s (d2z N) (d6e N) (d3P N)))
def f8Q:CS:=⟨306,58,⟨[.agg [.d (.sl a0y),.d tI,.d (.sl tU)],.agg [.d (.sl a0n),.d (.ar 16 tI)],.agg q_5,.agg [.d (.sl tI),.d (.sl tI)],.one (.d tI)],[]⟩,[.agg q_11,.agg q_1,.one (.d tI)],false,[]⟩
def g1r:LS:=⟨⟨nos 6++[.one (.p 0 0 [1,16]),.one (.p 1 0 [1,1,1,1,1,1,1,1,1,1,1,1]),.one (.p 2 0 [1,1]),.no,.one (.p 3 0 [1,1,1,1,1,16,1,1]),.one (.p 4 0 [1,16,16,1,1,1,1,1,1,16,16,1,1,1,1,1,1,1,1,1,1,1,1,1,1,1,1,1,1,1,1,1]),.no,.one (.p 5 0 [1,16,16,1,1,1,1,1,1,16,16,1,1,1,1,1,1,1,1,1,1,1,1,1,1,1,1,1,1,1,1,1]),.one (.d tB),.one (.d tI)]++nos 39,[[.d (.sl a0n),.d (.ar 16 tI)],q_5,[.d (.sl tI),.d (.sl tI)],q_11,q_1,q_1]⟩,[(1,⟨nos 6++[.one (.p 0 0 [1,16]),.no,.no,.no,.one (.p 1 0 [1,1,1,1,1,16,1,1]),.one (.p 2 0 [1,16,16,1,1,1,1,1,1,16,16,1,1,1,1,1,1,1,1,1,1,1,1,1,1,1,1,1,1,1,1,1]),.no,.one (.p 3 0 [1,16,16,1,1,1,1,1,1,16,16,1,1,1,1,1,1,1,1,1,1,1,1,1,1,1,1,1,1,1,1,1]),.one (.d tB)]++nos 40,[[.d (.sl a0n),.d (.ar 16 tI)],q_11,q_1,q_1]⟩)]⟩
def f8T:Hi:=⟨[((1,1),b9t),((1,6),g0i),((3,1),f8S),((4,1),c5p),((8,3),g0N),((9,1),c5p),((12,1),g0q)],[(0,g1r)],[19,24,36,39,49],[],[]⟩
theorem g1S:AllP (CEok Q) [b8X N,f9T N,f9g N,c5B N,g1o N,f9Y N]:=g7p (c9D N) (g7p (g2S N) (g7p (g2t N) (g7s (d5T N) (g3B N) (g3i N))))
def f8j (again:Fn' OR [pB,pI,a0m,a0l,a0F,f1Z,a0d,a0d]) (x0:Bool) (x1:Int) (x2:a0g) (x3:a0f) (x4:a0w) (x5:f1Y) (x6 x7:a0b):OR:=bi (decide (x1 > 0)) (bi (!x0) (on1 (f8V N x3 x2 x4 x7)<|gg [a0d]<|fun (x8:a0b)=>on1 (c3l N x2 x8)<|gg [pB]<|fun (x9:Bool)=>again x9 (w.i64 (x1 - 1)) x2 x3 x4 x5 x6 x8)<|some (1,gB.dv x0 (a0H.dv x2 (f2a.dv x5 (a0c.dv x6 (a0c.dv x7 []))))))<|some (1,gB.dv x0 (a0H.dv x2 (f2a.dv x5 (a0c.dv x6 (a0c.dv x7 [])))))
def f8a:Nat→Fn' OR [pB,pI,a0m,a0l,a0F,f1Z,a0d,a0d]:=lpG (f8j N)
theorem g3p:LEok Q f8T (bodOf f58) f58.ntmps 0 (0,mkM [pB,pI,a0m,a0l,a0F,f1Z,a0d,a0d] [(1,[pB,a0m,f1Z,a0d,a0d])] (f8a N N)):=g7r a0r 58 g1r (g1S N)
def f9B (x0:a0s) (x1:a0g) (x2:a0f) (x3:a0w) (x4:Int):OR:=on1 (b1Z N x2)<|gg [pB]<|fun (x5:Bool)=>bi (!x5) (some (0,f2a.dv (f1Y.mk 0 a1X.z 0 (List.replicate 16 (0 :Int)) ([]:List Int) ([]:List a0K)) (a0c.dv (a0b.mk 0 a0v.z a0v.z ([]:List a0q) ([]:List Int) ([]:List Int) ([]:List Bool) ([]:List Bool) ([]:List a0a) ([]:List a0e) ([]:List Int) ([]:List a0K) a1X.z 0 0 0) (gI.dv 1 []))))<|on1 (f7V N x0 x1)<|gg [pB]<|fun (x6:Bool)=>bi (!x6) (some (0,f2a.dv (f1Y.mk 0 a1X.z 0 (List.replicate 16 (0 :Int)) ([]:List Int) ([]:List a0K)) (a0c.dv (a0b.mk 0 a0v.z a0v.z ([]:List a0q) ([]:List Int) ([]:List Int) ([]:List Bool) ([]:List Bool) ([]:List a0a) ([]:List a0e) ([]:List Int) ([]:List a0K) a1X.z 0 0 0) (gI.dv 1 []))))<|on1 (f6R N x0)<|gg [a0d]<|fun (x7:a0b)=>on1 (c3l N x1 x7)<|gg [pB]<|fun (x8:Bool)=>onA 1 (f8a N N x8 (if 0 < (if 1000000 < x4 then 1000000 else x4) then (if 1000000 < x4 then 1000000 else x4) else 0) x1 x2 x3 (f1Y.mk 0 a1X.z 0 (List.replicate 16 (0 :Int)) ([]:List Int) ([]:List a0K)) (a0b.mk 0 a0v.z a0v.z ([]:List a0q) ([]:List Int) ([]:List Int) ([]:List Bool) ([]:List Bool) ([]:List a0a) ([]:List a0e) ([]:List Int) ([]:List a0K) a1X.z 0 0 0) x7)<|gg [pB,a0m,f1Z,a0d,a0d]<|fun (x9:Bool) (x10:a0g) (x11:f1Y) (x12 x13:a0b)=>bi (!x9) (some (0,f2a.dv (f1Y.mk 3 a1X.z 0 (List.replicate 16 (0 :Int)) ([]:List Int) ([]:List a0K)) (a0c.dv x13 (gI.dv 0 []))))<|on1 (f8d N x10 x13)<|gg [f1Z]<|fun (x14:f1Y)=>some (0,f2a.dv x14 (a0c.dv x13 (gI.dv 0 [])))
def g0O:CE:=(f8Q,mkF [a0p,a0m,a0l,a0F,pI] [f1Z,a0d,pI] (f9B N))
theorem g2A:CEok Q (g0O N):=fn_L a0r f58 f8T (g1S N) (g7o (g3p N))
def f9j:CS:=⟨307,61,⟨[.one (.d tI)],[]⟩,[.one (.d tI)],true,[]⟩
def f8G (N:Nat) (x0:Int):OR:=some (0,gI.dv x0 [])
def g1c:CE:=(f9j,mkF [pI] [pI] (f8G N))
theorem g3d:CEok Q (g1c N):=fn_K a0r f61 ⟨[],[],[],[],[]⟩ g7q
def g1e:CS:=⟨308,57,⟨[],[]⟩,[.one (.d tB)],true,[]⟩
def f9q  : OR:=on1 (b7q N (a0s.mk [(17,(3,(0,(0,(7,()))))),(31,(0,(0,(3,(4,()))))),(41,(0,a0K.z))] 8 ([]:List Int)))<|gg [a0m,pI]<|fun (x0:a0g) (x1:Int)=>on1 (f9B N (a0s.mk ([]:List a0o) 0 ([]:List Int)) (a0g.mk ([]:List a0x) (List.replicate 16 (0 :Int))) a0f.z (a0w.mk ([]:List Int) ([]:List Int)) 9)<|gg [f1Z,a0d,pI]<|fun (x2:f1Y) (x3:a0b) (x4:Int)=>on1 (d8d N )<|gg [a0l]<|fun (x5:a0f)=>on1 (f9B N (a0s.mk [(17,(3,(0,(0,(7,()))))),(31,(0,(0,(3,(4,()))))),(41,(0,a0K.z))] 8 ([]:List Int)) x0 x5 (a0w.mk ([]:List Int) ([]:List Int)) 100)<|gg [f1Z,a0d,pI]<|fun (x6:f1Y) (x7:a0b) (x8:Int)=>on1 (f8G N x4)<|gg [pI]<|fun (x9:Int)=>bi (x9 == 1) (on1 (f8G N x8)<|gg [pI]<|fun (x10:Int)=>bi (x10 == 0) (bi (x6.End == 1) (gd (idx 3 16)<|bi ((x6.Regs.getD 3 0) == 7) (some (0,gB.dv ((len x6.Writes) == 1) []))<|some (0,gB.dv false []))<|some (0,gB.dv false []))<|some (0,gB.dv false []))<|some (0,gB.dv false [])
def g0U:CE:=(g1e,mkF [] [pB] (f9q N))
theorem g3A:CEok Q (g0U N):=fn_K a0r f57 ⟨[((2,1),c0m),((3,4),f8Q),((4,2),c6Q),((4,4),f8Q),((5,1),f9j),((5,5),f9j)],[],[41,46,51,57],[],[]⟩ (g7p (c8c N) (g7s (g2A N) (e3K N) (g3d N)))
def g0d:CS:=⟨316,66,⟨[.agg q_12,.agg q_12],[]⟩,[.one (.d tB)],true,[]⟩
def f8r:LS:=⟨⟨[.no,.no,.one (.p 0 0 [1,1,1,1,1,16,1,1]),.one (.p 1 0 [1,1,1,1,1,16,1,1]),.no,.one (.d tI)]++nos 55,[q_12,q_12]⟩,[(0,⟨[.no,.no,.no,.no,.one (.d tB)]++nos 56,[]⟩),(1,⟨nos 61,[]⟩)]⟩
def f5R:Hi:=⟨[],[(0,f8r)],[11,18,25,34,42,47,60],[],[]⟩
theorem f9t (N:Nat):AllP (CEok Q) []:=g7q
def f5o (N:Nat) (again:Fn' OR [pI,f1Z,f1Z]) (x0:Int) (x1 x2:f1Y):OR:=bi (decide (x0 < (len x1.Writes))) (gd (idx x0 x1.Writes.length)<|gd (idx x0 x2.Writes.length)<|bi (!(((x1.Writes.getD x0.toNat a0K.z).1 == (x2.Writes.getD x0.toNat a0K.z).1) && (((x1.Writes.getD x0.toNat a0K.z).2.1 == (x2.Writes.getD x0.toNat a0K.z).2.1) && ((x1.Writes.getD x0.toNat a0K.z).2.2.1 == (x2.Writes.getD x0.toNat a0K.z).2.2.1)))) (some (0,gB.dv false []))<|again (w.i64 (x0+1)) x1 x2)<|some (1,[])
def f4m:Nat→Fn' OR [pI,f1Z,f1Z]:=lpG (f5o N)
theorem g1u:LEok Q f5R (bodOf f66) f66.ntmps 0 (0,mkM [pI,f1Z,f1Z] [(0,[pB]),(1,[])] (f4m N N)):=g7r a0r 66 f8r (f9t N)
def f7W (x0 x1:f1Y):OR:=bi (x0.End != x1.End) (some (0,gB.dv false []))<|bi (!((x0.Trap.Kind == x1.Trap.Kind) && ((x0.Trap.Step == x1.Trap.Step) && (x0.Trap.Pc == x1.Trap.Pc)))) (some (0,gB.dv false []))<|bi (x0.Steps != x1.Steps) (some (0,gB.dv false []))<|bi (!((strOf x0.Mem).toList == (strOf x1.Mem).toList)) (some (0,gB.dv false []))<|bi ((len x0.Writes) != (len x1.Writes)) (some (0,gB.dv false []))<|onB 0 1 (f4m N N 0 x0 x1) (gg [pB]<|fun (x2:Bool)=>some (0,gB.dv x2 []))<|gg []<|some (0,gB.dv true [])
def g0j:CE:=(g0d,mkF [f1Z,f1Z] [pB] (f7W N))
theorem g2R:CEok Q (g0j N):=fn_L a0r f66 f5R (f9t N) (g7o (g1u N))
def f7Q:CS:=⟨317,60,⟨[.agg q_12,.agg q_12],[]⟩,[.one (.d tB)],true,[]⟩
def f3Y (x0 x1:f1Y):OR:=bi (x0.Regs == x1.Regs) (on1 (f7W N x0 x1)<|gg [pB]<|fun (x2:Bool)=>some (0,gB.dv x2 []))<|some (0,gB.dv false [])
def f7u:CE:=(f7Q,mkF [f1Z,f1Z] [pB] (f3Y N))
theorem g0L:CEok Q (f7u N):=fn_K a0r f60 ⟨[((1,8),g0d)],[],[10],[],[]⟩ (g7o (g2R N))
end
end Go.Proofs.Zz

/- What functions of the program compute, as plain functions. -/
set_option maxRecDepth 100000
namespace Go.Proofs.Zz
noncomputable section
open Go Go.Proofs.Tryz
variable (N:Nat)
end
end Go.Proofs.Zz

/- What functions of the program compute, as plain functions. -/
set_option maxRecDepth 100000
namespace Go.Proofs.Zz
noncomputable section
open Go Go.Proofs.Tryz
variable (N:Nat)
def g8T:CS:=⟨330,20,⟨[.agg [.d (.sl a0y),.d tI,.d (.sl tU)],.one (.d tI),.one (.d tI),.agg q_5,.agg [.d (.sl tI),.d (.sl tI)]],[]⟩,[.one (.d tB)],true,[]⟩
def g8j (x0:a0s) (x1 x2:Int) (x3:a0f) (x4:a0w):OR:=on1 (f9q N )<|gg [pB]<|fun (x5:Bool)=>on1 (c3E N (bitOr .i64 x1 x2))<|gg [pD (.ar 16 tI)]<|fun (x6:List Int)=>on1 (c1Q N x0 x6)<|gg [a0m,pI]<|fun (x7:a0g) (x8:Int)=>on1 (b7q N x0)<|gg [a0m,pI]<|fun (x9:a0g) (x10:Int)=>bi (!x5) (some (0,gB.dv x5 []))<|on1 (c8s N x0)<|gg [pB]<|fun (x11:Bool)=>bi (!x11) (some (0,gB.dv x5 []))<|bi (decide ((len x4.Lats) > 60)) (some (0,gB.dv x5 []))<|bi (decide ((len x4.Picks) > 60)) (some (0,gB.dv x5 []))<|bi (x8 != 0) (some (0,gB.dv x5 []))<|bi (x10 != 0) (some (0,gB.dv x5 []))<|on1 (a4w N x3)<|gg [pB]<|fun (x12:Bool)=>bi (!x12) (some (0,gB.dv x5 []))<|bi (decide (x3.Lat > 6)) (some (0,gB.dv x5 []))<|bi (decide (x3.Mul > 6)) (some (0,gB.dv x5 []))<|bi (decide (x3.Div > 6)) (some (0,gB.dv x5 []))<|on1 (f9B N x0 x7 x3 x4 3000)<|gg [f1Z,a0d,pI]<|fun (x13:f1Y) (x14:a0b) (x15:Int)=>on1 (f9B N x0 x9 x3 x4 3000)<|gg [f1Z,a0d,pI]<|fun (x16:f1Y) (x17:a0b) (x18:Int)=>on1 (f8G N x15)<|gg [pI]<|fun (x19:Int)=>bi (x19 == 0) (on1 (f8G N x18)<|gg [pI]<|fun (x20:Int)=>bi (x20 == 0) (bi (x13.End == 3) (some (0,gB.dv true []))<|bi (x16.End == 3) (some (0,gB.dv true []))<|on1 (f3Y N x13 x16)<|gg [pB]<|fun (x21:Bool)=>some (0,gB.dv x21 []))<|some (0,gB.dv false []))<|some (0,gB.dv false [])
def g9c:CE:=(g8T,mkF [a0p,pI,pI,a0l,a0F] [pB] (g8j N))
theorem g8U:CEok Q (g9c N):=fn_K a0r f20 ⟨[((1,0),g1e),((2,4),c4H),((2,5),b7K),((3,1),c0m),((4,4),c7j),((4,29),a7E),((6,4),f8Q),((7,4),f8Q),((8,1),f9j),((8,5),f9j),((8,20),f7Q)],[],[39,44,50,56,60,64,69,74,79,83,106,111,115,120],[],[]⟩ (g7p (g3A N) (g7p (d4m N) (g7p (d1N N) (g7p (c8c N) (g7p (d6V N) (g7p (b2P N) (g7s (g2A N) (g3d N) (g0L N))))))))
end
end Go.Proofs.Zz
