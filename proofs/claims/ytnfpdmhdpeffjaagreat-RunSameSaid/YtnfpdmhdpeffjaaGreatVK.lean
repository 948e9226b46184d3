import Derived.Test.YtnfpdmhdpeffjaaGreatK12
import Derived.Test.YtnfpdmhdpeffjaaGreatEnhK
set_option linter.unusedSimpArgs false
set_option linter.unusedVariables false
set_option maxRecDepth 100000
namespace Go.Proofs.Zz
noncomputable section
open Go Go.Proofs.Tryz
abbrev XV:List PG:=[pD (.sl aK),pI,pD (.sl tU),pD (.ar 16 tI),pD (.sl aN),pD (.ar 16 tI)]
abbrev SV:List PG:=[pD (.ar 16 tI)]
abbrev UV:List PG:=[pI,pI,pD (.sl aK),pI,pD (.sl tU),pD (.ar 16 tI),pD (.sl aN),pD (.ar 16 tI),pI,pI,pD (.ar 16 tI),pI,pI,pI,pI,pD (.sl az),pD (.sl az)]
def g6H (N:Nat):(List DV→Option Rs)→List DV→Option Rs:=round cx0 iU (ctL (ju N)) (ltL [f4K N]) f186.ntmps 5 0 f5J (eW f186 0)
def g6B (N:Nat):(List DV→Option Rs)→List DV→Option Rs:=round cx0 iU (ctL (ju N)) (ltL []) f186.ntmps 4 0 f5v (eW f186 0)
def stV (n i n1 i1 n2 i2:Int) (r:List DV × List DV × Den (B4 (.sl az))):Option (List DV × List DV × Den (B4 (.sl az))) :=
 if 0≤i∧i<n∧n1=n∧i1=i∧n2=n∧i2=i∧IntKind.i64.wrap (i+1)=i+1 then some r else none
abbrev cutV (c:List af) (f t:Int):List af:=List.take (t.toNat-f.toNat) (List.drop f.toNat c)
def st_V (N:Nat) (n i:Int) (X S:List DV) (v:Den (B4 .nl)):Option (List DV × List DV × Den (B4 (.sl az))) :=
 gg XV (λ(x0:List af) (x1:Int) (x2:List Int) (x3:List Int) (x4:List aW) (x5:List Int)=>gg SV (λ(so:List Int) =>
  if sb v.2.1 (len x0)=true∧sb v.1 v.2.1=true then
  onA 3 (jv N N n i (cutV x0 v.1 v.2.1) (len (cutV x0 v.1 v.2.1)) 0 x0 x1 x2 x3 x4 x5 n i so v.1 v.2.1 v.2.2.1 v.2.2.2.1 [] []) (gg UV (λ(n1:Int) (i1:Int) (y0:List af) (y1:Int) (y2:List Int) (y3:List Int) (y4:List aW) (y5:List Int) (n2:Int) (i2:Int) (so1:List Int) (f:Int) (t:Int) (nx:Int) (tk:Int) (A:List ak) (E:List ak) =>
   stV n i n1 i1 n2 i2 (dvG XV (y0,y1,y2,y3,y4,y5,()),dvG SV (so1,()),((f,(t,(nx,(tk,(A,(E,())))))):Den (B4 (.sl az)))))) else none) S) X
theorem g5C (N:Nat) (n i:Int) (X S:List DV) (v:Den (B4 .nl)) (X' S':List DV) (v':Den (B4 (.sl az))) (h:st_V N n i X S v=some (X',S',v')) :
  X'.length=6∧S'.length=1∧g6H N (λp=>some (7,p)) (⟨.int .i64,n⟩::⟨.int .i64,i⟩::(X++((⟨.int .i64,n⟩::⟨.int .i64,i⟩::S)++po4 az v))) =
   some (7,⟨.int .i64,n⟩::⟨.int .i64,i+1⟩::(X'++((⟨.int .i64,n⟩::⟨.int .i64,i⟩::S')++pc4 az v'))):=by
 unfold st_V at h;obtain⟨ys,rfl,h1⟩:=jw h;have h1b:gg SV (λ(so:List Int)=>if sb v.2.1 (len ys.1)=true∧sb v.1 v.2.1=true then onA 3 (jv N N n i (cutV ys.1 v.1 v.2.1) (len (cutV ys.1 v.1 v.2.1)) 0 ys.1 ys.2.1 ys.2.2.1 ys.2.2.2.1 ys.2.2.2.2.1 ys.2.2.2.2.2.1 n i so v.1 v.2.1 v.2.2.1 v.2.2.2.1 [] []) (gg UV (λ(n1:Int) (i1:Int) (y0:List af) (y1:Int) (y2:List Int) (y3:List Int) (y4:List aW) (y5:List Int) (n2:Int) (i2:Int) (so1:List Int) (f:Int) (t:Int) (nx:Int) (tk:Int) (A:List ak) (E:List ak) =>
   stV n i n1 i1 n2 i2 (dvG XV (y0,y1,y2,y3,y4,y5,()),dvG SV (so1,()),((f,(t,(nx,(tk,(A,(E,())))))):Den (B4 (.sl az)))))) else none) S=some (X',S',v'):=h1
 obtain⟨zs,rfl,h2⟩:=jw h1b;have h3:(if sb v.2.1 (len ys.1)=true∧sb v.1 v.2.1=true then onA 3 (jv N N n i (cutV ys.1 v.1 v.2.1) (len (cutV ys.1 v.1 v.2.1)) 0 ys.1 ys.2.1 ys.2.2.1 ys.2.2.2.1 ys.2.2.2.2.1 ys.2.2.2.2.2.1 n i zs.1 v.1 v.2.1 v.2.2.1 v.2.2.2.1 [] []) (gg UV (λ(n1:Int) (i1:Int) (y0:List af) (y1:Int) (y2:List Int) (y3:List Int) (y4:List aW) (y5:List Int) (n2:Int) (i2:Int) (so1:List Int) (f:Int) (t:Int) (nx:Int) (tk:Int) (A:List ak) (E:List ak) =>
   stV n i n1 i1 n2 i2 (dvG XV (y0,y1,y2,y3,y4,y5,()),dvG SV (so1,()),((f,(t,(nx,(tk,(A,(E,())))))):Den (B4 (.sl az)))))) else none)=some (X',S',v'):=h2
 split at h3
 rotate_left
 ·simp at h3
 rename_i hsb;unfold onA at h3;split at h3
 ·
  rename_i m p hr;split at h3
  ·
   rename_i hm;have hm:=mH hm;subst hm;obtain⟨us,rfl,h4⟩:=jw h3;have h5:stV n i us.1 us.2.1 us.2.2.2.2.2.2.2.2.1 us.2.2.2.2.2.2.2.2.2.1 (dvG XV (us.2.2.1,us.2.2.2.1,us.2.2.2.2.1,us.2.2.2.2.2.1,us.2.2.2.2.2.2.1,us.2.2.2.2.2.2.2.1,()),dvG SV (us.2.2.2.2.2.2.2.2.2.2.1,()),((us.2.2.2.2.2.2.2.2.2.2.2.1,us.2.2.2.2.2.2.2.2.2.2.2.2.1,us.2.2.2.2.2.2.2.2.2.2.2.2.2.1,us.2.2.2.2.2.2.2.2.2.2.2.2.2.2.1,us.2.2.2.2.2.2.2.2.2.2.2.2.2.2.2.1,us.2.2.2.2.2.2.2.2.2.2.2.2.2.2.2.2.1,()):Den (B4 (.sl az))))=some (X',S',v'):=h4;unfold stV at h5;split at h5
   ·
    rename_i hc;obtain⟨c0,c1,c2,c3,c4,c5,c6⟩:=hc;simp only[mB,mb]at h5;obtain⟨rfl,rfl,rfl⟩:=h5;refine⟨rfl,rfl,?_⟩;refine (f9x N (λp=>some (7,p)) (n,i,ys.1,ys.2.1,ys.2.2.1,ys.2.2.2.1,ys.2.2.2.2.1,ys.2.2.2.2.2.1,n,i,zs.1,v.1,v.2.1,v.2.2.1,v.2.2.2.1,[],[],())).trans ?_;show f5Z N (cK _ λp=>some (7,p)) n i ys.1 ys.2.1 ys.2.2.1 ys.2.2.2.1 ys.2.2.2.2.1 ys.2.2.2.2.2.1 n i zs.1 v.1 v.2.1 v.2.2.1 v.2.2.2.1 [] []=_;unfold f5Z;rw[show decide (i<n)=true by simpa using c1,show decide (i=i∧0≤i∧i<n)=true by simp[c0,c1],hsb.1,hsb.2];simp only[aH];rw[hr,dG];refine (gS UV _ us).trans ?_;show (some (7,gI.dv us.1 (gI.dv (IntKind.i64.wrap (HAdd.hAdd (α:=Int) (β:=Int) (γ:=Int) us.2.1 1)) ((gD (.sl aK)).dv us.2.2.1 (gI.dv us.2.2.2.1 ((gD (.sl tU)).dv us.2.2.2.2.1 ((gD (.ar 16 tI)).dv us.2.2.2.2.2.1 ((gD (.sl aN)).dv us.2.2.2.2.2.2.1 ((gD (.ar 16 tI)).dv us.2.2.2.2.2.2.2.1 (gI.dv us.2.2.2.2.2.2.2.2.1 (gI.dv us.2.2.2.2.2.2.2.2.2.1 ((gD (.ar 16 tI)).dv us.2.2.2.2.2.2.2.2.2.2.1 (gI.dv us.2.2.2.2.2.2.2.2.2.2.2.1 (gI.dv us.2.2.2.2.2.2.2.2.2.2.2.2.1 (gI.dv us.2.2.2.2.2.2.2.2.2.2.2.2.2.1 (gI.dv us.2.2.2.2.2.2.2.2.2.2.2.2.2.2.1 ((gD (.sl az)).dv us.2.2.2.2.2.2.2.2.2.2.2.2.2.2.2.1 ((gD (.sl az)).dv us.2.2.2.2.2.2.2.2.2.2.2.2.2.2.2.2.1 []))))))))))))))))):Option Rs)=_;rw[c2,c3,c4,c5,c6];rfl
   ·simp at h5
  ·simp at h3
 ·simp at h3
theorem g5x (N:Nat) (n:Int) (X S:List DV) (β:Nat→EI) (F:Nat→Prop) (w:World) (hX:RepBs β F w (f2U.h.bx.take 3) 0 X []) (hS:∃c,RepKs β F w [.d (.ar 16 (.int .i64))] S [] c) :
  g6B N (λ_=>none) (⟨.int .i64,n⟩::⟨.int .i64,n⟩::(X++(⟨.int .i64,n⟩::⟨.int .i64,n⟩::S)))=some (1,X++(⟨.int .i64,n⟩::⟨.int .i64,n⟩::S)):=by
 obtain⟨p1,p2,e1,e2,c1,t1,rfl,_,_,k1,_,_,g1⟩:=RepBs.inv hX;obtain⟨p3,p4,e3,e4,c3,t3,rfl,_,_,k2,_,_,g2⟩:=g1.inv;obtain⟨p5,p6,e5,e6,c5,t5,rfl,_,_,k3,_,_,g3⟩:=g2.inv;obtain⟨rfl,_⟩:=g3.inv;obtain⟨c,hS⟩:=hS;obtain⟨a1,rfl⟩:=jx (ts:=[.sl aK,tI,.sl tU]) k1;obtain⟨a2,rfl⟩:=jx (ts:=[.ar 16 tI]) k2;obtain⟨a3,rfl⟩:=jx (ts:=[.sl aN,.ar 16 tI]) k3;obtain⟨a4,rfl⟩:=jx (ts:=[.ar 16 tI]) hS;refine (f9F N (λ_=>none) (n,n,a1.1,a1.2.1,a1.2.2.1,a2.1,a3.1,a3.2.1,n,n,a4.1,())).trans ?_;show f6a N (cK _ λ_=>none) n n a1.1 a1.2.1 a1.2.2.1 a2.1 a3.1 a3.2.1 n n a4.1=_;unfold f6a;rw[show decide (n<n)=false by simp];rfl
def ol_V (N:Nat):OL Q cx0 iU (ju N) [f4K N] f186 0 (eW f186 0) where
 bs:=f2U.h.bx.take 3
 av:=f2U.h.av
 ap:=λn i=>[⟨.int .i64,n⟩,⟨.int .i64,i⟩]
 ax:=(sgOf f2U 1).av
 sk:=[.d (.ar 16 (.int .i64))]
 ks:=ks4 az
 T0:=B4 .nl
 T1:=B4 (.sl az)
 sz:=6
 LR:=f5J
 LX:=f5v
 L0:=f2U
 po:=po4 az
 pc:=pc4 az
 step:=st_V N
 okA:=by kernel_rfl
 okX:=by kernel_rfl
 okB:=by kernel_rfl
 okS:=by kernel_rfl
 nA:=λ_ _=>rfl
 nX:=by kernel_rfl
 hR:=by kernel_rfl
 hX:=by kernel_rfl
 xR:=by kernel_rfl
 xX:=by kernel_rfl
 h0:=by kernel_rfl
 x0:=by kernel_rfl
 z0:=by kernel_rfl
 z1:=by kernel_rfl
 zp:=by decide
 zo:=λ_=>rfl
 open_:=h8O az
 close:=h8B az
 round:=λn i X S v X' S' v' h _ _=>g5C N n i X S v X' S' v' h
 exit:=g5x N
abbrev LV:List PG:=[pI,pI,pD (.sl aK),pI,pD (.sl tU),pD (.ar 16 tI),pD (.sl aN),pD (.ar 16 tI),pD (.sl (B4 .nl)),pD (.ar 16 tI)]
abbrev LU:List PG:=[pD (.sl aK),pI,pD (.sl tU),pD (.ar 16 tI),pD (.sl aN),pD (.ar 16 tI),pD (.sl aN),pD (.ar 16 tI)]
def f3e (N:Nat) (_:Nat) (n:Int) (i:Int) (x0:List af) (x1:Int) (x2:List Int) (x3:List Int) (x4:List aW) (x5:List Int) (xs:List (Den (B4 .nl))) (so:List Int):Option Rs :=
 if i=0∧n=(xs.length:Int) then match (ol_V N).walk (xs.length:Int) xs 0 (dvG XV (x0,x1,x2,x3,x4,x5,())) (dvG SV (so,())) with
  | some (X2,S2,zs)=>some (1,X2++(⟨.sl (B4 (.sl az)),zs⟩::S2))
  | none=>none
 else none
def f8x (N:Nat):LE:=(0,mkM LV [(1,LU)] (f3e N N))
theorem g1A (N:Nat):LEok Q iU (bn f186) f186.ntmps f7v.i.bx.length (f8x N) :=
 e6E (ls:=f2U) (body:=eW f186 0) (by kernel_rfl) (by kernel_rfl) λys q h=>by
 obtain⟨n,i,c,sz,dt,o,rb,ro,xs,so,u⟩:=ys;have h1:f3e N N n i c sz dt o rb ro xs so=some q:=h;unfold f3e at h1;split at h1
 ·
  rename_i hi;obtain⟨rfl,rfl⟩:=hi;split at h1
  ·
   rename_i X2 S2 zs hw;simp only[mB]at h1;subst h1;have:=OL.loop (ol_V N) aq hmix (f6D N) (f7U N) g5y (by kernel_rfl) ⟨g1t N,trivial⟩ (by kernel_rfl) hw;exact this
  ·simp at h1
 ·simp at h1
variable (N:Nat)
def f8e (x0:aw) (x1:List Int):OR:=on1 (f5S N x0 x1)<|gg [pB]<|λ(x2:Bool)=>bi (!x2) (some (0,cm.dv (ao.mk ([]:List aW) (List.replicate 16 (0 :Int))) (gI.dv 1 [])))<|on1 (f8g N x0)<|gg [pD (.sl Kc)]<|λ(x3:List (Int × (Int × (Int × (Int × (Unit × (Unit × Unit)))))))=>onA 1 (f3e N N (len x3) 0 x0.Code x0.B8 x0.D1 x1 ([]:List aW) (List.replicate 16 (0 :Int)) x3 x1)<|gg [pD (.sl aK),pI,pD (.sl tU),pD (.ar 16 tI),pD (.sl aN),pD (.ar 16 tI),pD (.sl aN),pD (.ar 16 tI)]<|λ(x4:List af) (x5:Int) (x6 x7:List Int) (x8:List aW) (x9:List Int) (x10:List aW) (x11:List Int)=>some (0,cm.dv (ao.mk x10 x11) (gI.dv 0 []))
def g0n:CE:=(f7v,mkF [bm,pD (.ar 16 tI)] [bq,pI] (f8e N))
theorem g2U:CEok Q (g0n N) :=
 fnG (hi:=iU) (l:=ju N) (t:=[f8x N]) aq hmix (f6D N) (f7U N) g5y (by kernel_rfl) (by kernel_rfl) ⟨g1A N,trivial⟩ λys=>by kernel_rfl
def f3O:CS:=⟨296,286,⟨[.one (.d (.sl az)),.one (.d (.sl az))],[]⟩,[.one (.d tB)],true,[]⟩
def f4V:LS:=⟨⟨[.one (.d (.sl az)),.one (.d (.sl az))]++nos 10++[.one (.d tI),.one (.d tI)]++nos 12,[]⟩,[(0,⟨[.no,.no,.no,.no,.one (.d tB)]++nos 21,[]⟩),(1,⟨nos 26,[]⟩)]⟩
def f3h:Hi:=⟨[],[(0,f4V)],[10,14,24],[],[]⟩
theorem f5h (N:Nat):AllP (CEok Q) []:=bA
def f3a (N:Nat) (again:Fn' OR [pD (.sl az),pD (.sl az),pI,pI]) (x0 x1:List ak) (x2 x3:Int):OR:=bi (decide (x3<x2)) (gd (idx x3 x0.length)<|gd (idx x3 x1.length)<|bi (!(((x0.getD x3.toNat ak.z).1==(x1.getD x3.toNat ak.z).1)&&(((x0.getD x3.toNat ak.z).2.1.1==(x1.getD x3.toNat ak.z).2.1.1)&&(((x0.getD x3.toNat ak.z).2.1.2.1==(x1.getD x3.toNat ak.z).2.1.2.1)&&(((x0.getD x3.toNat ak.z).2.1.2.2.1==(x1.getD x3.toNat ak.z).2.1.2.2.1)&&(((x0.getD x3.toNat ak.z).2.1.2.2.2.1==(x1.getD x3.toNat ak.z).2.1.2.2.2.1)&&(((x0.getD x3.toNat ak.z).2.1.2.2.2.2.1==(x1.getD x3.toNat ak.z).2.1.2.2.2.2.1)&&(((x0.getD x3.toNat ak.z).2.2.1==(x1.getD x3.toNat ak.z).2.2.1)&&(((x0.getD x3.toNat ak.z).2.2.2.1==(x1.getD x3.toNat ak.z).2.2.2.1)&&((x0.getD x3.toNat ak.z).2.2.2.2.1==(x1.getD x3.toNat ak.z).2.2.2.2.1)))))))))) (some (0,gB.dv false []))<|again x0 x1 x2 (w.i64 (x3+1)))<|some (1,[])
def f2F:Nat→Fn' OR [pD (.sl az),pD (.sl az),pI,pI]:=lpG (f3a N)
theorem f7K:LEok Q f3h (bn f286) f286.ntmps 0 (0,mkM [pD (.sl az),pD (.sl az),pI,pI] [(0,[pB]),(1,[])] (f2F N N)):=bU aq 286 f4V (f5h N)
def f2s (x0 x1:List ak):OR:=bi ((len x0) != (len x1)) (some (0,gB.dv false []))<|onB 0 1 (f2F N N x0 x1 (len x0) 0) (gg [pB]<|λ(x2:Bool)=>some (0,gB.dv x2 []))<|gg []<|some (0,gB.dv true [])
def f5K:CE:=(f3O,mkF [pD (.sl az),pD (.sl az)] [pB] (f2s N))
theorem f8H:CEok Q (f5K N):=fn_L aq f286 f3h (f5h N) (aR (f7K N))
def g0k:CS:=⟨297,251,⟨[.agg q_6,.agg q_6],[]⟩,[.one (.d tB)],true,[]⟩
def f7Z (x0 x1:aW):OR:=bi (x0.1==x1.1) (bi (x0.2.1==x1.2.1) (bi (x0.2.2.1==x1.2.2.1) (bi (x0.2.2.2.1==x1.2.2.2.1) (on1 (f2s N x0.2.2.2.2.1 x1.2.2.2.2.1)<|gg [pB]<|λ(x2:Bool)=>bi x2 (on1 (f2s N x0.2.2.2.2.2.1 x1.2.2.2.2.2.1)<|gg [pB]<|λ(x3:Bool)=>some (0,gB.dv x3 []))<|some (0,gB.dv false []))<|some (0,gB.dv false []))<|some (0,gB.dv false []))<|some (0,gB.dv false []))<|some (0,gB.dv false [])
def f9X:CE:=(g0k,mkF [c7d,c7d] [pB] (f7Z N))
theorem g2Z:CEok Q (f9X N):=fn_K aq f251 ⟨[((1,31),f3O),((1,38),f3O)],[],[10,17,24,31,38],[],[]⟩ (aR (f8H N))
def f3T:CS:=⟨298,250,⟨[.one (.d (.sl aN)),.one (.d (.sl aN)),.one (.f 251 [])],[]⟩,[.one (.d tB)],true,[]⟩
def f3B:LS:=⟨⟨[.no,.one (.d (.sl aN)),.one (.f 251 [])]++nos 12++[.one (.d (.sl aN)),.one (.d tI),.one (.d tI)]++nos 14,[]⟩,[(0,⟨nos 6++[.one (.d tB)]++nos 25,[]⟩),(1,⟨nos 32,[]⟩)]⟩
def f2A:Hi:=⟨[((7,3),g0k)],[(0,f3B)],[14,18,30],[],[]⟩
theorem f3G:AllP (CEok Q) [f9X N]:=aR (g2Z N)
def f2v (again:Fn' OR [pD (.sl aN),pD (.sl aN),pI,pI]) (x0 x1:List aW) (x2 x3:Int):OR:=bi (decide (x3<x2)) (gd (idx x3 x1.length)<|gd (idx x3 x0.length)<|on1 (f7Z N (x1.getD x3.toNat aW.z) (x0.getD x3.toNat aW.z))<|gg [pB]<|λ(x4:Bool)=>bi (!x4) (some (0,gB.dv false []))<|again x0 x1 x2 (w.i64 (x3+1)))<|some (1,[])
def f2l:Nat→Fn' OR [pD (.sl aN),pD (.sl aN),pI,pI]:=lpG (f2v N)
theorem f5L:LEok Q f2A (bn f250) f250.ntmps 0 (0,mkM [pD (.sl aN),pD (.sl aN),pI,pI] [(0,[pB]),(1,[])] (f2l N N)):=bU aq 250 f3B (f3G N)
def f2K (x0 x1:List aW):OR:=bi ((len x0) != (len x1)) (some (0,gB.dv false []))<|onB 0 1 (f2l N N x1 x0 (len x0) 0) (gg [pB]<|λ(x2:Bool)=>some (0,gB.dv x2 []))<|gg []<|some (0,gB.dv true [])
def f3P:CE:=(f3T,mkF [pD (.sl aN),pD (.sl aN)] [pB] (f2K N))
theorem f6s:CEok Q (f3P N):=fn_L aq f250 f2A (f3G N) (aR (f5L N))
def g0b:CS:=⟨299,187,⟨[.agg [.d (.sl aN),.d (.ar 16 tI)],.agg [.d (.sl aN),.d (.ar 16 tI)]],[]⟩,[.one (.d tB)],true,[]⟩
def f9y (x0 x1:ao):OR:=bi (x0.D2==x1.D2) (on1 (f2K N x0.A3 x1.A3)<|gg [pB]<|λ(x2:Bool)=>some (0,gB.dv x2 []))<|some (0,gB.dv false [])
def f9Z:CE:=(g0b,mkF [bq,bq] [pB] (f9y N))
theorem g2I:CEok Q (f9Z N):=fn_K aq f187 ⟨[((1,10),f3T)],[],[10],[],[]⟩ (aR (f6s N))
def g0i:CS:=⟨300,118,⟨[.agg [.d (.sl aK),.d tI,.d (.sl tU)],.agg [.d (.sl aN),.d (.ar 16 tI)]],[]⟩,[.one (.d tB)],true,[]⟩
def f7V (x0:aw) (x1:ao):OR:=on1 (f8e N x0 x1.D2)<|gg [bq,pI]<|λ(x2:ao) (x3:Int)=>bi (x3==0) (on1 (f9y N x1 x2)<|gg [pB]<|λ(x4:Bool)=>some (0,gB.dv x4 []))<|some (0,gB.dv false [])
def f9T:CE:=(g0i,mkF [bm,bq] [pB] (f7V N))
theorem g2S:CEok Q (f9T N):=fn_K aq f118 ⟨[((1,3),f7v),((2,5),g0b)],[],[16],[],[]⟩ (dD (g2U N) (g2I N))
def g0a:CS:=⟨301,189,⟨[.agg [.d (.sl aK),.d tI,.d (.sl tU)]],[]⟩,[.one (.o tU)],true,[]⟩
def f8b (N:Nat) (x0:aw):OR:=gd (decide (0≤x0.B8∧x0.B8≤x0.B8∧x0.B8*((1:Nat):Int)≤((dQ:Nat):Int)∧x0.B8≤((dQ:Nat):Int)))<|some (0,(gD (.sl tU)).dv (laid (List.replicate x0.B8.toNat (0 :Int)) 0 (List.take (List.length (List.replicate x0.B8.toNat (0 :Int))) x0.D1)) [])
def g0g:CE:=(g0a,mkF [bm] [pD (.sl tU)] (f8b N))
theorem g2K:CEok Q (g0g N):=fn_K aq f189 ⟨[],[],[],[],[]⟩ bA
def f8S:CS:=⟨302,119,⟨[.agg [.d (.sl aK),.d tI,.d (.sl tU)]],[]⟩,[.agg q_1],true,[]⟩
def f6R (x0:aw):OR:=on1 (f4F N x0)<|gg [pB]<|λ(x1:Bool)=>bi (!x1) (some (0,aA.dv (aa.mk 0 aI.z aI.z ([]:List aO) ([]:List Int) ([]:List Int) ([]:List Bool) ([]:List Bool) ([]:List aF) ([]:List am) ([]:List Int) ([]:List bv) cQ.z 0 0 0) []))<|on1 (f8b N x0)<|gg [pD (.sl tU)]<|λ(x2:List Int)=>some (0,aA.dv (aa.mk 0 aI.z aI.z ([]:List aO) ([]:List Int) ([]:List Int) ([]:List Bool) ([]:List Bool) ([]:List aF) ([]:List am) x2 ([]:List bv) cQ.z 0 0 0) [])
def f9g:CE:=(f8S,mkF [bm] [aD] (f6R N))
theorem g2t:CEok Q (f9g N):=fn_K aq f119 ⟨[((1,1),f5r),((3,1),g0a)],[],[5],[],[]⟩ (dD (f6N N) (g2K N))
def f8B:CS:=⟨303,62,⟨[.agg [.d (.sl aN),.d (.ar 16 tI)],.agg q_0],[]⟩,[.agg [.d (.ar 16 tW)]],true,[]⟩
def f9a:LS:=⟨⟨[.no,.no,.one (.p 0 0 [1,16]),.one (.p 1 0 Kb),.one (.p 2 0 [16]),.one (.p 3 0 [16]),.one (.d tI)]++nos 27,[[.d (.sl aN),.d (.ar 16 tI)],q_0,[.d (.ar 16 tW)],[.d (.ar 16 tW)]]⟩,[(1,⟨[.no,.no,.no,.no,.one (.p 0 0 [16]),.one (.p 1 0 [16])]++nos 28,[[.d (.ar 16 tW)],[.d (.ar 16 tW)]]⟩)]⟩
def f6F:Hi:=⟨[],[(0,f9a)],[8,15,24],[],[]⟩
theorem f9Q (N:Nat):AllP (CEok Q) []:=bA
def f5P (N:Nat) (again:Fn' OR [pI,bq,aD,pD (.ar 16 tW),pD (.ar 16 tW)]) (x0:Int) (x1:ao) (x2:aa) (x3 x4:List Int):OR:=bi (decide (x0<16)) (gd (idx x0 16)<|bi ((x1.D2.getD x0.toNat 0)==1) (gd (idx x0 16)<|gd (idx x0 16)<|again (w.i64 (x0+1)) x1 x2 x3 (x4.set x0.toNat (x2.A.B1.getD x0.toNat 0)))<|bi ((x1.D2.getD x0.toNat 0)==2) (gd (idx x0 16)<|gd (idx x0 16)<|again (w.i64 (x0+1)) x1 x2 x3 (x4.set x0.toNat (x2.E.B1.getD x0.toNat 0)))<|again (w.i64 (x0+1)) x1 x2 x3 x4)<|some (1,(gD (.ar 16 tW)).dv x3 ((gD (.ar 16 tW)).dv x4 []))
def f4Q:Nat→Fn' OR [pI,bq,aD,pD (.ar 16 tW),pD (.ar 16 tW)]:=lpG (f5P N)
theorem g2p:LEok Q f6F (bn f62) f62.ntmps 0 (0,mkM [pI,bq,aD,pD (.ar 16 tW),pD (.ar 16 tW)] [(1,[pD (.ar 16 tW),pD (.ar 16 tW)])] (f4Q N N)):=bU aq 62 f9a (f9Q N)
def f6u (x0:ao) (x1:aa):OR:=onA 1 (f4Q N N 1 x0 x1 (List.replicate 16 (0 :Int)) (List.replicate 16 (0 :Int)))<|gg [pD (.ar 16 tW),pD (.ar 16 tW)]<|λ(x2 x3:List Int)=>some (0,(gD (.ar 16 tW)).dv x3 [])
def f8F:CE:=(f8B,mkF [bq,aD] [pD (.ar 16 tW)] (f6u N))
theorem g0W:CEok Q (f8F N):=fn_L aq f62 f6F (f9Q N) (aR (g2p N))
def g0q:CS:=⟨304,121,⟨[.agg [.d (.sl aN),.d (.ar 16 tI)],.one (.r Ka)],[]⟩,[.agg q_11],true,[]⟩
def f8d (x0:ao) (x1:aa):OR:=on1 (a7k N x1.Mem)<|gg [pD (.sl tU)]<|λ(x2:List Int)=>on1 (a2I N x1.A2)<|gg [pD (.sl de)]<|λ(x3:List bv)=>bi (x1.A9.C2 != 0) (some (0,fK.dv ({x1 with D4:=2,Steps:=x1.A9.C5,B1:=(List.replicate 16 (0 :Int)),Mem:=x2,A2:=x3}:cO) []))<|on1 (kb N x0 x1.A.A6)<|gg [pI]<|λ(x4:Int)=>on1 (f6u N x0 x1)<|gg [pD (.ar 16 tW)]<|λ(x5:List Int)=>some (0,fK.dv (cO.mk 1 cQ.z x4 x5 x2 x3) [])
def f9Y:CE:=(g0q,mkF [bq,d9] [iz] (f8d N))
theorem g3i:CEok Q (f9Y N):=fn_K aq f121 ⟨[((1,4),b5I),((1,9),a9p),((5,6),b3R),((5,11),f8B)],[],[22],[],[]⟩ (bh (c8f N) (bP (b8K N) (b9U N) (g0W N)))
def g0N:CS:=⟨305,120,⟨[.agg q_5,.agg [.d (.sl aN),.d (.ar 16 tI)],.agg [.d (.sl tI),.d (.sl tI)],.one (.p 0 0 Kb)],[q_1]⟩,[],false,[q_1]⟩
def f8V (x0:ay) (x1:ao) (x2:bH) (x3:aa):OR:=on1 (a9Y N x0 x2 x3)<|gg [aD]<|λ(x4:aa)=>on1 (a7V N x0 x4)<|gg [aD]<|λ(x5:aa)=>on1 (b8D N x0 x1 x5)<|gg [aD]<|λ(x6:aa)=>on1 (b3K N x0 x1 x6)<|gg [aD]<|λ(x7:aa)=>some (0,aA.dv ({x7 with A1:=(w.i64 (x7.A1+1))}:aa) [])
def g1o:CE:=(g0N,mkF [bE,bq,eH,aD] [aD] (f8V N))
theorem g3B:CEok Q (g1o N):=fn_K aq f120 ⟨[((1,3),c5c),((2,2),c1V),((3,3),c5L),((4,3),c5Y)],[],[],[],[]⟩ (bh (d6A N) (bP (d2z N) (d6e N) (d3P N)))
def f8Q:CS:=⟨306,58,⟨[.agg [.d (.sl aK),.d tI,.d (.sl tU)],.agg [.d (.sl aN),.d (.ar 16 tI)],.agg q_5,.agg [.d (.sl tI),.d (.sl tI)],.one (.d tI)],[]⟩,[.agg q_11,.agg q_1,.one (.d tI)],false,[]⟩
def g1r:LS:=⟨⟨nos 6++[.one (.p 0 0 [1,16]),.one (.p 1 0 Ki),.one (.p 2 0 [1,1]),.no,.one (.p 3 0 Kj),.one (.p 4 0 Kb),.no,.one (.p 5 0 Kb),.one (.d tB),.one (.d tI)]++nos 39,[[.d (.sl aN),.d (.ar 16 tI)],q_5,[.d (.sl tI),.d (.sl tI)],q_11,q_1,q_1]⟩,[(1,⟨nos 6++[.one (.p 0 0 [1,16]),.no,.no,.no,.one (.p 1 0 Kj),.one (.p 2 0 Kb),.no,.one (.p 3 0 Kb),.one (.d tB)]++nos 40,[[.d (.sl aN),.d (.ar 16 tI)],q_11,q_1,q_1]⟩)]⟩
def f8T:Hi:=⟨[((1,1),b9t),((1,6),g0i),((3,1),f8S),((4,1),c5p),((8,3),g0N),((9,1),c5p),((12,1),g0q)],[(0,g1r)],[19,24,36,39,49],[],[]⟩
theorem g1S:AllP (CEok Q) [b8X N,f9T N,f9g N,c5B N,g1o N,f9Y N]:=bh (c9D N) (bh (g2S N) (bh (g2t N) (bP (d5T N) (g3B N) (g3i N))))
def f8j (again:Fn' OR [pB,pI,bq,bE,eH,iz,aD,aD]) (x0:Bool) (x1:Int) (x2:ao) (x3:ay) (x4:bH) (x5:cO) (x6 x7:aa):OR:=bi (decide (x1>0)) (bi (!x0) (on1 (f8V N x3 x2 x4 x7)<|gg [aD]<|λ(x8:aa)=>on1 (c3l N x2 x8)<|gg [pB]<|λ(x9:Bool)=>again x9 (w.i64 (x1-1)) x2 x3 x4 x5 x6 x8)<|some (1,gB.dv x0 (cm.dv x2 (fK.dv x5 (aA.dv x6 (aA.dv x7 []))))))<|some (1,gB.dv x0 (cm.dv x2 (fK.dv x5 (aA.dv x6 (aA.dv x7 [])))))
def f8a:Nat→Fn' OR [pB,pI,bq,bE,eH,iz,aD,aD]:=lpG (f8j N)
theorem g3p:LEok Q f8T (bn f58) f58.ntmps 0 (0,mkM [pB,pI,bq,bE,eH,iz,aD,aD] [(1,[pB,bq,iz,aD,aD])] (f8a N N)):=bU aq 58 g1r (g1S N)
def jq (x0:aw) (x1:ao) (x2:ay) (x3:bH) (x4:Int):OR:=on1 (b1Z N x2)<|gg [pB]<|λ(x5:Bool)=>bi (!x5) (some (0,fK.dv (cO.mk 0 cQ.z 0 (List.replicate 16 (0 :Int)) ([]:List Int) ([]:List bv)) (aA.dv (aa.mk 0 aI.z aI.z ([]:List aO) ([]:List Int) ([]:List Int) ([]:List Bool) ([]:List Bool) ([]:List aF) ([]:List am) ([]:List Int) ([]:List bv) cQ.z 0 0 0) (gI.dv 1 []))))<|on1 (f7V N x0 x1)<|gg [pB]<|λ(x6:Bool)=>bi (!x6) (some (0,fK.dv (cO.mk 0 cQ.z 0 (List.replicate 16 (0 :Int)) ([]:List Int) ([]:List bv)) (aA.dv (aa.mk 0 aI.z aI.z ([]:List aO) ([]:List Int) ([]:List Int) ([]:List Bool) ([]:List Bool) ([]:List aF) ([]:List am) ([]:List Int) ([]:List bv) cQ.z 0 0 0) (gI.dv 1 []))))<|on1 (f6R N x0)<|gg [aD]<|λ(x7:aa)=>on1 (c3l N x1 x7)<|gg [pB]<|λ(x8:Bool)=>onA 1 (f8a N N x8 (if 0<(if 1000000<x4 then 1000000 else x4) then (if 1000000<x4 then 1000000 else x4) else 0) x1 x2 x3 (cO.mk 0 cQ.z 0 (List.replicate 16 (0 :Int)) ([]:List Int) ([]:List bv)) (aa.mk 0 aI.z aI.z ([]:List aO) ([]:List Int) ([]:List Int) ([]:List Bool) ([]:List Bool) ([]:List aF) ([]:List am) ([]:List Int) ([]:List bv) cQ.z 0 0 0) x7)<|gg [pB,bq,iz,aD,aD]<|λ(x9:Bool) (x10:ao) (x11:cO) (x12 x13:aa)=>bi (!x9) (some (0,fK.dv (cO.mk 3 cQ.z 0 (List.replicate 16 (0 :Int)) ([]:List Int) ([]:List bv)) (aA.dv x13 (gI.dv 0 []))))<|on1 (f8d N x10 x13)<|gg [iz]<|λ(x14:cO)=>some (0,fK.dv x14 (aA.dv x13 (gI.dv 0 [])))
def g0O:CE:=(f8Q,mkF [bm,bq,bE,eH,pI] [iz,aD,pI] (jq N))
theorem g2A:CEok Q (g0O N):=fn_L aq f58 f8T (g1S N) (aR (g3p N))
def f9j:CS:=⟨307,61,⟨[.one (.d tI)],[]⟩,[.one (.d tI)],true,[]⟩
def f8G (N:Nat) (x0:Int):OR:=some (0,gI.dv x0 [])
def g1c:CE:=(f9j,mkF [pI] [pI] (f8G N))
theorem g3d:CEok Q (g1c N):=fn_K aq f61 ⟨[],[],[],[],[]⟩ bA
def g1e:CS:=⟨308,57,⟨[],[]⟩,[.one (.d tB)],true,[]⟩
def f9q  : OR:=on1 (b7q N (aw.mk [(17,(3,(0,(0,(7,()))))),(31,(0,(0,(3,(4,()))))),(41,(0,bv.z))] 8 ([]:List Int)))<|gg [bq,pI]<|λ(x0:ao) (x1:Int)=>on1 (jq N (aw.mk ([]:List af) 0 ([]:List Int)) (ao.mk ([]:List aW) (List.replicate 16 (0 :Int))) ay.z (bH.mk ([]:List Int) ([]:List Int)) 9)<|gg [iz,aD,pI]<|λ(x2:cO) (x3:aa) (x4:Int)=>on1 (d8d N )<|gg [bE]<|λ(x5:ay)=>on1 (jq N (aw.mk [(17,(3,(0,(0,(7,()))))),(31,(0,(0,(3,(4,()))))),(41,(0,bv.z))] 8 ([]:List Int)) x0 x5 (bH.mk ([]:List Int) ([]:List Int)) 100)<|gg [iz,aD,pI]<|λ(x6:cO) (x7:aa) (x8:Int)=>on1 (f8G N x4)<|gg [pI]<|λ(x9:Int)=>bi (x9==1) (on1 (f8G N x8)<|gg [pI]<|λ(x10:Int)=>bi (x10==0) (bi (x6.D4==1) (gd (idx 3 16)<|bi ((x6.B1.getD 3 0)==7) (some (0,gB.dv ((len x6.A2)==1) []))<|some (0,gB.dv false []))<|some (0,gB.dv false []))<|some (0,gB.dv false []))<|some (0,gB.dv false [])
def g0U:CE:=(g1e,mkF [] [pB] (f9q N))
theorem g3A:CEok Q (g0U N):=fn_K aq f57 ⟨[((2,1),c0m),((3,4),f8Q),((4,2),c6Q),((4,4),f8Q),((5,1),f9j),((5,5),f9j)],[],[41,46,51,57],[],[]⟩ (bh (c8c N) (bP (g2A N) (e3K N) (g3d N)))
def g3P:CS:=⟨313,123,⟨[.one (.d tI),.one (.d tI),.one (.d tI)],[]⟩,[.one (.d tI)],true,[]⟩
def g3L (N:Nat) (x0 x1 x2:Int):OR:=bi (decide (x0<x1)) (some (0,gI.dv x1 []))<|bi (decide (x0>x2)) (some (0,gI.dv x2 []))<|some (0,gI.dv x0 [])
def g3O:CE:=(g3P,mkF [pI,pI,pI] [pI] (g3L N))
theorem g4W:CEok Q (g3O N):=fn_K aq f123 ⟨[],[],[7,12],[],[]⟩ bA
def g0d:CS:=⟨316,66,⟨[.agg q_12,.agg q_12],[]⟩,[.one (.d tB)],true,[]⟩
def f8r:LS:=⟨⟨[.no,.no,.one (.p 0 0 Kj),.one (.p 1 0 Kj),.no,.one (.d tI)]++nos 55,[q_12,q_12]⟩,[(0,⟨[.no,.no,.no,.no,.one (.d tB)]++nos 56,[]⟩),(1,⟨nos 61,[]⟩)]⟩
def f5R:Hi:=⟨[],[(0,f8r)],[11,18,25,34,42,47,60],[],[]⟩
theorem f9t (N:Nat):AllP (CEok Q) []:=bA
def f5o (N:Nat) (again:Fn' OR [pI,iz,iz]) (x0:Int) (x1 x2:cO):OR:=bi (decide (x0<(len x1.A2))) (gd (idx x0 x1.A2.length)<|gd (idx x0 x2.A2.length)<|bi (!(((x1.A2.getD x0.toNat bv.z).1==(x2.A2.getD x0.toNat bv.z).1)&&(((x1.A2.getD x0.toNat bv.z).2.1==(x2.A2.getD x0.toNat bv.z).2.1)&&((x1.A2.getD x0.toNat bv.z).2.2.1==(x2.A2.getD x0.toNat bv.z).2.2.1)))) (some (0,gB.dv false []))<|again (w.i64 (x0+1)) x1 x2)<|some (1,[])
def f4m:Nat→Fn' OR [pI,iz,iz]:=lpG (f5o N)
theorem g1u:LEok Q f5R (bn f66) f66.ntmps 0 (0,mkM [pI,iz,iz] [(0,[pB]),(1,[])] (f4m N N)):=bU aq 66 f8r (f9t N)
def f7W (x0 x1:cO):OR:=bi (x0.D4 != x1.D4) (some (0,gB.dv false []))<|bi (!((x0.A9.C2==x1.A9.C2)&&((x0.A9.C5==x1.A9.C5)&&(x0.A9.Pc==x1.A9.Pc)))) (some (0,gB.dv false []))<|bi (x0.Steps != x1.Steps) (some (0,gB.dv false []))<|bi (!((h8l x0.Mem).toList==(h8l x1.Mem).toList)) (some (0,gB.dv false []))<|bi ((len x0.A2) != (len x1.A2)) (some (0,gB.dv false []))<|onB 0 1 (f4m N N 0 x0 x1) (gg [pB]<|λ(x2:Bool)=>some (0,gB.dv x2 []))<|gg []<|some (0,gB.dv true [])
def g0j:CE:=(g0d,mkF [iz,iz] [pB] (f7W N))
theorem g2R:CEok Q (g0j N):=fn_L aq f66 f5R (f9t N) (aR (g1u N))
def f7Q:CS:=⟨317,60,⟨[.agg q_12,.agg q_12],[]⟩,[.one (.d tB)],true,[]⟩
def f3Y (x0 x1:cO):OR:=bi (x0.B1==x1.B1) (on1 (f7W N x0 x1)<|gg [pB]<|λ(x2:Bool)=>some (0,gB.dv x2 []))<|some (0,gB.dv false [])
def f7u:CE:=(f7Q,mkF [iz,iz] [pB] (f3Y N))
theorem g0L:CEok Q (f7u N):=fn_K aq f60 ⟨[((1,8),g0d)],[],[10],[],[]⟩ (aR (g2R N))
variable (N:Nat)
variable (N:Nat)
def h2A:CS:=⟨321,191,⟨[.agg q_12],[]⟩,[.agg q_11],true,[]⟩
def h2j (N:Nat) (x0:cO):OR:=gd (rm ([]:List Int) x0.Mem 1)<|gd (rm ([]:List bv) x0.A2 24)<|some (0,fK.dv ({x0 with Mem:=(([]:List Int)++x0.Mem),A2:=(([]:List bv)++x0.A2)}:cO) [])
def h3n:CE:=(h2A,mkF [iz] [iz] (h2j N))
theorem h3t:CEok Q (h3n N):=fn_K aq f191 ⟨[],[],[],[],[]⟩ bA
def h1C:CS:=⟨322,192,⟨[.agg q_12,.one (.d tI),.one (.d tI)],[]⟩,[.agg q_12,.one (.d tI)],false,[]⟩
def kz (N:Nat) (x0:cO) (x1 x2:Int):OR:=some (0,fK.dv ({x0 with D4:=2,A9:=(cQ.mk x1 x0.Steps x2)}:cO) (gI.dv x2 []))
def h3G:CE:=(h1C,mkF [iz,pI,pI] [iz,pI] (kz N))
theorem h3d:CEok Q (h3G N):=fn_K aq f192 ⟨[],[],[],[],[]⟩ bA
def h1F:CS:=⟨323,193,⟨[.agg [.d (.ar 16 tW)],.one (.d tI)],[]⟩,[.one (.d tW)],true,[]⟩
def h1z (N:Nat) (x0:List Int) (x1:Int):OR:=bi (x1==0) (some (0,gW.dv 0 []))<|gd (idx x1 16)<|some (0,gW.dv (x0.getD x1.toNat 0) [])
def h2Y:CE:=(h1F,mkF [pD (.ar 16 tW),pI] [pW] (h1z N))
theorem h3a:CEok Q (h2Y N):=fn_K aq f193 ⟨[],[],[6],[],[]⟩ bA
def h1q:CS:=⟨324,194,⟨[.one (.p 0 5 [16]),.one (.d tI),.one (.d tW)],[q_11]⟩,[],false,[q_11]⟩
def kB (N:Nat) (x0 x1:Int) (x2:cO):OR:=bi (x0 != 0) (gd (idx x0 16)<|some (0,fK.dv ({x2 with B1:=(x2.B1.set x0.toNat x1)}:cO) []))<|some (0,fK.dv x2 [])
def h2g:CE:=(h1q,mkF [pI,pW,iz] [iz] (kB N))
theorem h2h:CEok Q (h2g N):=fn_K aq f194 ⟨[],[],[7],[],[]⟩ bA
def h2m:CS:=⟨325,124,⟨[.agg [.d (.sl aK),.d tI,.d (.sl tU)],.agg q_12,.one (.d tI)],[]⟩,[.agg q_12,.one (.d tI)],false,[]⟩
def kJ (x0:aw) (x1:cO) (x2:Int):OR:=on1 (h2j N x1)<|gg [iz]<|λ(x3:cO)=>bi (x3.D4 != 0) (some (0,fK.dv x3 (gI.dv x2 [])))<|on1 (kS N x0)<|gg [pB]<|λ(x4:Bool)=>bi (!x4) (some (0,fK.dv x3 (gI.dv x2 [])))<|bi ((len x3.Mem) != x0.B8) (some (0,fK.dv x3 (gI.dv x2 [])))<|bi (decide (x2<0)) (on1 (kz N x3 4 x2)<|gg [iz,pI]<|λ(x5:cO) (x6:Int)=>some (0,fK.dv x5 (gI.dv x6 [])))<|bi (decide (x2≥(len x0.Code))) (on1 (kz N x3 4 x2)<|gg [iz,pI]<|λ(x7:cO) (x8:Int)=>some (0,fK.dv x7 (gI.dv x8 [])))<|gd (idx x2 x0.Code.length)<|on1 (h1z N x3.B1 ((x0.Code.getD x2.toNat af.z).2.2.1))<|gg [pW]<|λ(x9:Int)=>on1 (h1z N x3.B1 ((x0.Code.getD x2.toNat af.z).2.2.2.1))<|gg [pW]<|λ(x10:Int)=>on1 (ig N ((x0.Code.getD x2.toNat af.z).1))<|gg [pI]<|λ(x11:Int)=>bi (x11==4) (on1 (kI N ((x0.Code.getD x2.toNat af.z).1))<|gg [pI]<|λ(x12:Int)=>on1 (kH N x12 (w.u32 (x9+(w.u32 (x0.Code.getD x2.toNat af.z).2.2.2.2.1))) x0.B8)<|gg [pI]<|λ(x13:Int)=>bi (x13 != 0) (on1 (kz N x3 x13 x2)<|gg [iz,pI]<|λ(x14:cO) (x15:Int)=>some (0,fK.dv x14 (gI.dv x15 [])))<|bi (x11==1) (on1 (kC N (x0.Code.getD x2.toNat af.z) x9 x10)<|gg [pW,pB]<|λ(x16:Int) (x17:Bool)=>bi (!x17) (on1 (kz N x3 3 x2)<|gg [iz,pI]<|λ(x18:cO) (x19:Int)=>some (0,fK.dv x18 (gI.dv x19 [])))<|on1 (kB N ((x0.Code.getD x2.toNat af.z).2.1) x16 x3)<|gg [iz]<|λ(x20:cO)=>bi (x20.D4==1) (some (0,fK.dv ({x20 with Steps:=(w.i64 (x20.Steps+1))}:cO) (gI.dv x2 [])))<|some (0,fK.dv ({x20 with Steps:=(w.i64 (x20.Steps+1))}:cO) (gI.dv (w.i64 (x2+1)) [])))<|bi (x11==2) (on1 (kC N (x0.Code.getD x2.toNat af.z) x9 x10)<|gg [pW,pB]<|λ(x21:Int) (x22:Bool)=>bi (!x22) (on1 (kz N x3 3 x2)<|gg [iz,pI]<|λ(x23:cO) (x24:Int)=>some (0,fK.dv x23 (gI.dv x24 [])))<|on1 (kB N ((x0.Code.getD x2.toNat af.z).2.1) x21 x3)<|gg [iz]<|λ(x25:cO)=>bi (x25.D4==1) (some (0,fK.dv ({x25 with Steps:=(w.i64 (x25.Steps+1))}:cO) (gI.dv x2 [])))<|some (0,fK.dv ({x25 with Steps:=(w.i64 (x25.Steps+1))}:cO) (gI.dv (w.i64 (x2+1)) [])))<|bi (x11==3) (on1 (kC N (x0.Code.getD x2.toNat af.z) x9 x10)<|gg [pW,pB]<|λ(x26:Int) (x27:Bool)=>bi (!x27) (on1 (kz N x3 3 x2)<|gg [iz,pI]<|λ(x28:cO) (x29:Int)=>some (0,fK.dv x28 (gI.dv x29 [])))<|on1 (kB N ((x0.Code.getD x2.toNat af.z).2.1) x26 x3)<|gg [iz]<|λ(x30:cO)=>bi (x30.D4==1) (some (0,fK.dv ({x30 with Steps:=(w.i64 (x30.Steps+1))}:cO) (gI.dv x2 [])))<|some (0,fK.dv ({x30 with Steps:=(w.i64 (x30.Steps+1))}:cO) (gI.dv (w.i64 (x2+1)) [])))<|bi (x11==4) (on1 (d3q N x3.Mem ((x0.Code.getD x2.toNat af.z).1) (w.u32 (x9+(w.u32 (x0.Code.getD x2.toNat af.z).2.2.2.2.1))))<|gg [pW]<|λ(x31:Int)=>on1 (kB N ((x0.Code.getD x2.toNat af.z).2.1) x31 x3)<|gg [iz]<|λ(x32:cO)=>bi (x32.D4==1) (some (0,fK.dv ({x32 with Steps:=(w.i64 (x32.Steps+1))}:cO) (gI.dv x2 [])))<|some (0,fK.dv ({x32 with Steps:=(w.i64 (x32.Steps+1))}:cO) (gI.dv (w.i64 (x2+1)) [])))<|bi (x11==5) (on1 (kI N ((x0.Code.getD x2.toNat af.z).1))<|gg [pI]<|λ(x33:Int)=>on1 (kI N ((x0.Code.getD x2.toNat af.z).1))<|gg [pI]<|λ(x34:Int)=>on1 (d7w N x10 x34)<|gg [pW]<|λ(x35:Int)=>on1 (c1p N x3.Mem ((w.i64 (w.u32 (x9+(w.u32 (x0.Code.getD x2.toNat af.z).2.2.2.2.1)))),(x33,(x35,()))))<|gg [pD (.sl tU)]<|λ(x36:List Int)=>gd (rm x3.A2 [((w.i64 (w.u32 (x9+(w.u32 (x0.Code.getD x2.toNat af.z).2.2.2.2.1)))),(x33,(x35,())))] 24)<|bi (x3.D4==1) (some (0,fK.dv ({x3 with Steps:=(w.i64 (x3.Steps+1)),Mem:=x36,A2:=(x3.A2++[((w.i64 (w.u32 (x9+(w.u32 (x0.Code.getD x2.toNat af.z).2.2.2.2.1)))),(x33,(x35,())))])}:cO) (gI.dv x2 [])))<|some (0,fK.dv ({x3 with Steps:=(w.i64 (x3.Steps+1)),Mem:=x36,A2:=(x3.A2++[((w.i64 (w.u32 (x9+(w.u32 (x0.Code.getD x2.toNat af.z).2.2.2.2.1)))),(x33,(x35,())))])}:cO) (gI.dv (w.i64 (x2+1)) [])))<|bi (x11==6) (on1 (c2n N ((x0.Code.getD x2.toNat af.z).1) x9 x10)<|gg [pB]<|λ(x37:Bool)=>bi x37 (bi (x3.D4==1) (some (0,fK.dv ({x3 with Steps:=(w.i64 (x3.Steps+1))}:cO) (gI.dv x2 [])))<|some (0,fK.dv ({x3 with Steps:=(w.i64 (x3.Steps+1))}:cO) (gI.dv (w.i64 (x2+(x0.Code.getD x2.toNat af.z).2.2.2.2.1)) [])))<|bi (x3.D4==1) (some (0,fK.dv ({x3 with Steps:=(w.i64 (x3.Steps+1))}:cO) (gI.dv x2 [])))<|some (0,fK.dv ({x3 with Steps:=(w.i64 (x3.Steps+1))}:cO) (gI.dv (w.i64 (x2+1)) [])))<|bi (x11==7) (bi (x3.D4==1) (some (0,fK.dv ({x3 with Steps:=(w.i64 (x3.Steps+1))}:cO) (gI.dv x2 [])))<|some (0,fK.dv ({x3 with Steps:=(w.i64 (x3.Steps+1))}:cO) (gI.dv (w.i64 (x2+(x0.Code.getD x2.toNat af.z).2.2.2.2.1)) [])))<|bi (x11==8) (bi ((1:Int)==(1:Int)) (some (0,fK.dv ({x3 with D4:=1,Steps:=(w.i64 (x3.Steps+1))}:cO) (gI.dv x2 [])))<|some (0,fK.dv ({x3 with D4:=1,Steps:=(w.i64 (x3.Steps+1))}:cO) (gI.dv (w.i64 (x2+1)) [])))<|bi (x3.D4==1) (some (0,fK.dv ({x3 with Steps:=(w.i64 (x3.Steps+1))}:cO) (gI.dv x2 [])))<|some (0,fK.dv ({x3 with Steps:=(w.i64 (x3.Steps+1))}:cO) (gI.dv (w.i64 (x2+1)) [])))<|bi (x11==5) (on1 (kI N ((x0.Code.getD x2.toNat af.z).1))<|gg [pI]<|λ(x38:Int)=>on1 (kH N x38 (w.u32 (x9+(w.u32 (x0.Code.getD x2.toNat af.z).2.2.2.2.1))) x0.B8)<|gg [pI]<|λ(x39:Int)=>bi (x39 != 0) (on1 (kz N x3 x39 x2)<|gg [iz,pI]<|λ(x40:cO) (x41:Int)=>some (0,fK.dv x40 (gI.dv x41 [])))<|bi (x11==1) (on1 (kC N (x0.Code.getD x2.toNat af.z) x9 x10)<|gg [pW,pB]<|λ(x42:Int) (x43:Bool)=>bi (!x43) (on1 (kz N x3 3 x2)<|gg [iz,pI]<|λ(x44:cO) (x45:Int)=>some (0,fK.dv x44 (gI.dv x45 [])))<|on1 (kB N ((x0.Code.getD x2.toNat af.z).2.1) x42 x3)<|gg [iz]<|λ(x46:cO)=>bi (x46.D4==1) (some (0,fK.dv ({x46 with Steps:=(w.i64 (x46.Steps+1))}:cO) (gI.dv x2 [])))<|some (0,fK.dv ({x46 with Steps:=(w.i64 (x46.Steps+1))}:cO) (gI.dv (w.i64 (x2+1)) [])))<|bi (x11==2) (on1 (kC N (x0.Code.getD x2.toNat af.z) x9 x10)<|gg [pW,pB]<|λ(x47:Int) (x48:Bool)=>bi (!x48) (on1 (kz N x3 3 x2)<|gg [iz,pI]<|λ(x49:cO) (x50:Int)=>some (0,fK.dv x49 (gI.dv x50 [])))<|on1 (kB N ((x0.Code.getD x2.toNat af.z).2.1) x47 x3)<|gg [iz]<|λ(x51:cO)=>bi (x51.D4==1) (some (0,fK.dv ({x51 with Steps:=(w.i64 (x51.Steps+1))}:cO) (gI.dv x2 [])))<|some (0,fK.dv ({x51 with Steps:=(w.i64 (x51.Steps+1))}:cO) (gI.dv (w.i64 (x2+1)) [])))<|bi (x11==3) (on1 (kC N (x0.Code.getD x2.toNat af.z) x9 x10)<|gg [pW,pB]<|λ(x52:Int) (x53:Bool)=>bi (!x53) (on1 (kz N x3 3 x2)<|gg [iz,pI]<|λ(x54:cO) (x55:Int)=>some (0,fK.dv x54 (gI.dv x55 [])))<|on1 (kB N ((x0.Code.getD x2.toNat af.z).2.1) x52 x3)<|gg [iz]<|λ(x56:cO)=>bi (x56.D4==1) (some (0,fK.dv ({x56 with Steps:=(w.i64 (x56.Steps+1))}:cO) (gI.dv x2 [])))<|some (0,fK.dv ({x56 with Steps:=(w.i64 (x56.Steps+1))}:cO) (gI.dv (w.i64 (x2+1)) [])))<|bi (x11==4) (on1 (d3q N x3.Mem ((x0.Code.getD x2.toNat af.z).1) (w.u32 (x9+(w.u32 (x0.Code.getD x2.toNat af.z).2.2.2.2.1))))<|gg [pW]<|λ(x57:Int)=>on1 (kB N ((x0.Code.getD x2.toNat af.z).2.1) x57 x3)<|gg [iz]<|λ(x58:cO)=>bi (x58.D4==1) (some (0,fK.dv ({x58 with Steps:=(w.i64 (x58.Steps+1))}:cO) (gI.dv x2 [])))<|some (0,fK.dv ({x58 with Steps:=(w.i64 (x58.Steps+1))}:cO) (gI.dv (w.i64 (x2+1)) [])))<|bi (x11==5) (on1 (kI N ((x0.Code.getD x2.toNat af.z).1))<|gg [pI]<|λ(x59:Int)=>on1 (kI N ((x0.Code.getD x2.toNat af.z).1))<|gg [pI]<|λ(x60:Int)=>on1 (d7w N x10 x60)<|gg [pW]<|λ(x61:Int)=>on1 (c1p N x3.Mem ((w.i64 (w.u32 (x9+(w.u32 (x0.Code.getD x2.toNat af.z).2.2.2.2.1)))),(x59,(x61,()))))<|gg [pD (.sl tU)]<|λ(x62:List Int)=>gd (rm x3.A2 [((w.i64 (w.u32 (x9+(w.u32 (x0.Code.getD x2.toNat af.z).2.2.2.2.1)))),(x59,(x61,())))] 24)<|bi (x3.D4==1) (some (0,fK.dv ({x3 with Steps:=(w.i64 (x3.Steps+1)),Mem:=x62,A2:=(x3.A2++[((w.i64 (w.u32 (x9+(w.u32 (x0.Code.getD x2.toNat af.z).2.2.2.2.1)))),(x59,(x61,())))])}:cO) (gI.dv x2 [])))<|some (0,fK.dv ({x3 with Steps:=(w.i64 (x3.Steps+1)),Mem:=x62,A2:=(x3.A2++[((w.i64 (w.u32 (x9+(w.u32 (x0.Code.getD x2.toNat af.z).2.2.2.2.1)))),(x59,(x61,())))])}:cO) (gI.dv (w.i64 (x2+1)) [])))<|bi (x11==6) (on1 (c2n N ((x0.Code.getD x2.toNat af.z).1) x9 x10)<|gg [pB]<|λ(x63:Bool)=>bi x63 (bi (x3.D4==1) (some (0,fK.dv ({x3 with Steps:=(w.i64 (x3.Steps+1))}:cO) (gI.dv x2 [])))<|some (0,fK.dv ({x3 with Steps:=(w.i64 (x3.Steps+1))}:cO) (gI.dv (w.i64 (x2+(x0.Code.getD x2.toNat af.z).2.2.2.2.1)) [])))<|bi (x3.D4==1) (some (0,fK.dv ({x3 with Steps:=(w.i64 (x3.Steps+1))}:cO) (gI.dv x2 [])))<|some (0,fK.dv ({x3 with Steps:=(w.i64 (x3.Steps+1))}:cO) (gI.dv (w.i64 (x2+1)) [])))<|bi (x11==7) (bi (x3.D4==1) (some (0,fK.dv ({x3 with Steps:=(w.i64 (x3.Steps+1))}:cO) (gI.dv x2 [])))<|some (0,fK.dv ({x3 with Steps:=(w.i64 (x3.Steps+1))}:cO) (gI.dv (w.i64 (x2+(x0.Code.getD x2.toNat af.z).2.2.2.2.1)) [])))<|bi (x11==8) (bi ((1:Int)==(1:Int)) (some (0,fK.dv ({x3 with D4:=1,Steps:=(w.i64 (x3.Steps+1))}:cO) (gI.dv x2 [])))<|some (0,fK.dv ({x3 with D4:=1,Steps:=(w.i64 (x3.Steps+1))}:cO) (gI.dv (w.i64 (x2+1)) [])))<|bi (x3.D4==1) (some (0,fK.dv ({x3 with Steps:=(w.i64 (x3.Steps+1))}:cO) (gI.dv x2 [])))<|some (0,fK.dv ({x3 with Steps:=(w.i64 (x3.Steps+1))}:cO) (gI.dv (w.i64 (x2+1)) [])))<|bi (x11==1) (on1 (kC N (x0.Code.getD x2.toNat af.z) x9 x10)<|gg [pW,pB]<|λ(x64:Int) (x65:Bool)=>bi (!x65) (on1 (kz N x3 3 x2)<|gg [iz,pI]<|λ(x66:cO) (x67:Int)=>some (0,fK.dv x66 (gI.dv x67 [])))<|on1 (kB N ((x0.Code.getD x2.toNat af.z).2.1) x64 x3)<|gg [iz]<|λ(x68:cO)=>bi (x68.D4==1) (some (0,fK.dv ({x68 with Steps:=(w.i64 (x68.Steps+1))}:cO) (gI.dv x2 [])))<|some (0,fK.dv ({x68 with Steps:=(w.i64 (x68.Steps+1))}:cO) (gI.dv (w.i64 (x2+1)) [])))<|bi (x11==2) (on1 (kC N (x0.Code.getD x2.toNat af.z) x9 x10)<|gg [pW,pB]<|λ(x69:Int) (x70:Bool)=>bi (!x70) (on1 (kz N x3 3 x2)<|gg [iz,pI]<|λ(x71:cO) (x72:Int)=>some (0,fK.dv x71 (gI.dv x72 [])))<|on1 (kB N ((x0.Code.getD x2.toNat af.z).2.1) x69 x3)<|gg [iz]<|λ(x73:cO)=>bi (x73.D4==1) (some (0,fK.dv ({x73 with Steps:=(w.i64 (x73.Steps+1))}:cO) (gI.dv x2 [])))<|some (0,fK.dv ({x73 with Steps:=(w.i64 (x73.Steps+1))}:cO) (gI.dv (w.i64 (x2+1)) [])))<|bi (x11==3) (on1 (kC N (x0.Code.getD x2.toNat af.z) x9 x10)<|gg [pW,pB]<|λ(x74:Int) (x75:Bool)=>bi (!x75) (on1 (kz N x3 3 x2)<|gg [iz,pI]<|λ(x76:cO) (x77:Int)=>some (0,fK.dv x76 (gI.dv x77 [])))<|on1 (kB N ((x0.Code.getD x2.toNat af.z).2.1) x74 x3)<|gg [iz]<|λ(x78:cO)=>bi (x78.D4==1) (some (0,fK.dv ({x78 with Steps:=(w.i64 (x78.Steps+1))}:cO) (gI.dv x2 [])))<|some (0,fK.dv ({x78 with Steps:=(w.i64 (x78.Steps+1))}:cO) (gI.dv (w.i64 (x2+1)) [])))<|bi (x11==4) (on1 (d3q N x3.Mem ((x0.Code.getD x2.toNat af.z).1) (w.u32 (x9+(w.u32 (x0.Code.getD x2.toNat af.z).2.2.2.2.1))))<|gg [pW]<|λ(x79:Int)=>on1 (kB N ((x0.Code.getD x2.toNat af.z).2.1) x79 x3)<|gg [iz]<|λ(x80:cO)=>bi (x80.D4==1) (some (0,fK.dv ({x80 with Steps:=(w.i64 (x80.Steps+1))}:cO) (gI.dv x2 [])))<|some (0,fK.dv ({x80 with Steps:=(w.i64 (x80.Steps+1))}:cO) (gI.dv (w.i64 (x2+1)) [])))<|bi (x11==5) (on1 (kI N ((x0.Code.getD x2.toNat af.z).1))<|gg [pI]<|λ(x81:Int)=>on1 (kI N ((x0.Code.getD x2.toNat af.z).1))<|gg [pI]<|λ(x82:Int)=>on1 (d7w N x10 x82)<|gg [pW]<|λ(x83:Int)=>on1 (c1p N x3.Mem ((w.i64 (w.u32 (x9+(w.u32 (x0.Code.getD x2.toNat af.z).2.2.2.2.1)))),(x81,(x83,()))))<|gg [pD (.sl tU)]<|λ(x84:List Int)=>gd (rm x3.A2 [((w.i64 (w.u32 (x9+(w.u32 (x0.Code.getD x2.toNat af.z).2.2.2.2.1)))),(x81,(x83,())))] 24)<|bi (x3.D4==1) (some (0,fK.dv ({x3 with Steps:=(w.i64 (x3.Steps+1)),Mem:=x84,A2:=(x3.A2++[((w.i64 (w.u32 (x9+(w.u32 (x0.Code.getD x2.toNat af.z).2.2.2.2.1)))),(x81,(x83,())))])}:cO) (gI.dv x2 [])))<|some (0,fK.dv ({x3 with Steps:=(w.i64 (x3.Steps+1)),Mem:=x84,A2:=(x3.A2++[((w.i64 (w.u32 (x9+(w.u32 (x0.Code.getD x2.toNat af.z).2.2.2.2.1)))),(x81,(x83,())))])}:cO) (gI.dv (w.i64 (x2+1)) [])))<|bi (x11==6) (on1 (c2n N ((x0.Code.getD x2.toNat af.z).1) x9 x10)<|gg [pB]<|λ(x85:Bool)=>bi x85 (bi (x3.D4==1) (some (0,fK.dv ({x3 with Steps:=(w.i64 (x3.Steps+1))}:cO) (gI.dv x2 [])))<|some (0,fK.dv ({x3 with Steps:=(w.i64 (x3.Steps+1))}:cO) (gI.dv (w.i64 (x2+(x0.Code.getD x2.toNat af.z).2.2.2.2.1)) [])))<|bi (x3.D4==1) (some (0,fK.dv ({x3 with Steps:=(w.i64 (x3.Steps+1))}:cO) (gI.dv x2 [])))<|some (0,fK.dv ({x3 with Steps:=(w.i64 (x3.Steps+1))}:cO) (gI.dv (w.i64 (x2+1)) [])))<|bi (x11==7) (bi (x3.D4==1) (some (0,fK.dv ({x3 with Steps:=(w.i64 (x3.Steps+1))}:cO) (gI.dv x2 [])))<|some (0,fK.dv ({x3 with Steps:=(w.i64 (x3.Steps+1))}:cO) (gI.dv (w.i64 (x2+(x0.Code.getD x2.toNat af.z).2.2.2.2.1)) [])))<|bi (x11==8) (bi ((1:Int)==(1:Int)) (some (0,fK.dv ({x3 with D4:=1,Steps:=(w.i64 (x3.Steps+1))}:cO) (gI.dv x2 [])))<|some (0,fK.dv ({x3 with D4:=1,Steps:=(w.i64 (x3.Steps+1))}:cO) (gI.dv (w.i64 (x2+1)) [])))<|bi (x3.D4==1) (some (0,fK.dv ({x3 with Steps:=(w.i64 (x3.Steps+1))}:cO) (gI.dv x2 [])))<|some (0,fK.dv ({x3 with Steps:=(w.i64 (x3.Steps+1))}:cO) (gI.dv (w.i64 (x2+1)) []))
def h2p:CE:=(h2m,mkF [bm,iz,pI] [iz,pI] (kJ N))
theorem h3v:CEok Q (h2p N):=fn_K aq f124 ⟨[((1,1),h2A),((2,5),a3g),((5,2),h1C),((7,4),h1F),((8,4),h1F),((11,2),jd),((13,2),b3C),((13,6),b2T),((15,3),h1C),((20,3),d7i),((22,2),h1C),((23,4),h1q),((25,8),d4l),((25,9),h1q),((27,4),b3C),((27,8),b3C),((27,9),d4T),((28,3),d0p),((31,4),c3k)],[],[23,28,35,40,46,79,82,91,99,111,122,134,158,164,169,175,184],[],[]⟩ (bh (h3t N) (bh (a4L N) (bh (h3d N) (bh (h3a N) (bh (jG N) (bh (b7o N) (bh (b8v N) (bh (e2s N) (bh (h2h N) (bh (e3z N) (bP (e2y N) (d9Y N) (d1C N))))))))))))
def h2O:CS:=⟨326,64,⟨[.agg [.d (.sl aK),.d tI,.d (.sl tU)],.one (.d tI)],[]⟩,[.agg q_12],true,[]⟩
def h1U:LS:=⟨⟨[.no,.one (.d tI),.one (.p 0 0 [1,1,1]),.no,.one (.p 1 0 Kj),.one (.p 2 0 Kj),.one (.d tI),.one (.d tI)]++nos 31,[[.d (.sl aK),.d tI,.d (.sl tU)],q_11,q_12]⟩,[(1,⟨[.no,.no,.no,.no,.one (.p 0 0 Kj),.one (.p 1 0 Kj)]++nos 33,[q_11,q_12]⟩)]⟩
def h2J:Hi:=⟨[((1,1),a3g),((3,1),d1k),((5,1),g3P),((9,3),h2m)],[(0,h1U)],[10,20,24,36],[],[]⟩
theorem h2q:AllP (CEok Q) [a3o N,d1n N,g3O N,h2p N]:=bh (a4L N) (bP (d9O N) (g4W N) (h3v N))
def h1s (again:Fn' OR [pI,pI,pI,bm,iz,iz]) (x0 x1 x2:Int) (x3:aw) (x4 x5:cO):OR:=bi (decide (x2<x0)) (bi (x5.D4==0) (on1 (kJ N x3 x5 x1)<|gg [iz,pI]<|λ(x6:cO) (x7:Int)=>again x0 x7 (w.i64 (x2+1)) x3 x4 x6)<|some (1,fK.dv x4 (fK.dv x5 [])))<|some (1,fK.dv x4 (fK.dv x5 []))
def h1k:Nat→Fn' OR [pI,pI,pI,bm,iz,iz]:=lpG (h1s N)
theorem h2Q:LEok Q h2J (bn f64) f64.ntmps 0 (0,mkM [pI,pI,pI,bm,iz,iz] [(1,[iz,iz])] (h1k N N)):=bU aq 64 h1U (h2q N)
def h2s (x0:aw) (x1:Int):OR:=on1 (kS N x0)<|gg [pB]<|λ(x2:Bool)=>bi (!x2) (some (0,fK.dv (cO.mk 0 cQ.z 0 (List.replicate 16 (0 :Int)) ([]:List Int) ([]:List bv)) []))<|on1 (d3t N x0)<|gg [pD (.sl tU)]<|λ(x3:List Int)=>on1 (g3L N x1 0 100000)<|gg [pI]<|λ(x4:Int)=>onA 1 (h1k N N x4 0 0 x0 (cO.mk 0 cQ.z 0 (List.replicate 16 (0 :Int)) ([]:List Int) ([]:List bv)) (cO.mk 0 cQ.z 0 (List.replicate 16 (0 :Int)) x3 ([]:List bv)))<|gg [iz,iz]<|λ(x5 x6:cO)=>bi (x6.D4==0) (some (0,fK.dv ({x6 with D4:=3}:cO) []))<|some (0,fK.dv x6 [])
def h3L:CE:=(h2O,mkF [bm,pI] [iz] (h2s N))
theorem h3T:CEok Q (h3L N):=fn_L aq f64 h2J (h2q N) (aR (h2Q N))
def h1O:CS:=⟨327,125,⟨[.agg q_5],[]⟩,[.one (.d tI)],true,[]⟩
def h1K (x0:ay):OR:=on1 (a4w N x0)<|gg [pB]<|λ(x1:Bool)=>bi (!x1) (some (0,gI.dv 0 []))<|some (0,gI.dv (w.i64 ((w.i64 ((w.i64 (8+x0.D7))+x0.D6))+(w.i64 ((w.i64 (4*(w.i64 (x0.B7+2))))*(w.i64 (x0.C4+2)))))) [])
def h2G:CE:=(h1O,mkF [bE] [pI] (h1K N))
theorem h2C:CEok Q (h2G N):=fn_K aq f125 ⟨[((1,1),a7E)],[],[5],[],[]⟩ (aR (b2P N))
def h1I:CS:=⟨328,65,⟨[.agg q_5,.one (.d tI)],[]⟩,[.one (.d tI)],true,[]⟩
def h1w (x0:ay) (x1:Int):OR:=on1 (h1K N x0)<|gg [pI]<|λ(x2:Int)=>on1 (g3L N x1 0 100000)<|gg [pI]<|λ(x3:Int)=>some (0,gI.dv (w.i64 (x2*(w.i64 ((w.i64 (8*x3))+16)))) [])
def h2x:CE:=(h1I,mkF [bE,pI] [pI] (h1w N))
theorem h2t:CEok Q (h2x N):=fn_K aq f65 ⟨[((1,1),h1O),((1,3),g3P)],[],[],[],[]⟩ (dD (h2C N) (g4W N))
def h2b:CS:=⟨329,18,⟨[.agg [.d (.sl aK),.d tI,.d (.sl tU)],.one (.d tI),.agg q_5,.agg [.d (.sl tI),.d (.sl tI)]],[]⟩,[.one (.d tB)],true,[]⟩
def h1y (x0:aw) (x1:Int) (x2:ay) (x3:bH):OR:=on1 (f9q N )<|gg [pB]<|λ(x4:Bool)=>on1 (b2R N x0 x1)<|gg [bq,pB]<|λ(x5:ao) (x6:Bool)=>bi (!x4) (some (0,gB.dv x4 []))<|on1 (c8s N x0)<|gg [pB]<|λ(x7:Bool)=>bi (!x7) (some (0,gB.dv x4 []))<|bi (decide ((len x3.B6)>60)) (some (0,gB.dv x4 []))<|bi (decide ((len x3.B5)>60)) (some (0,gB.dv x4 []))<|bi (!x6) (some (0,gB.dv x4 []))<|on1 (a4w N x2)<|gg [pB]<|λ(x8:Bool)=>bi (!x8) (some (0,gB.dv x4 []))<|bi (decide (x2.C4>6)) (some (0,gB.dv x4 []))<|bi (decide (x2.D7>6)) (some (0,gB.dv x4 []))<|bi (decide (x2.D6>6)) (some (0,gB.dv x4 []))<|on1 (h2s N x0 40)<|gg [iz]<|λ(x9:cO)=>bi (x9.D4==3) (some (0,gB.dv true []))<|on1 (h1w N x2 x9.Steps)<|gg [pI]<|λ(x10:Int)=>on1 (jq N x0 x5 x2 x3 x10)<|gg [iz,aD,pI]<|λ(x11:cO) (x12:aa) (x13:Int)=>on1 (f8G N x13)<|gg [pI]<|λ(x14:Int)=>bi (x14 != 0) (some (0,gB.dv false []))<|bi (x9.D4==2) (on1 (f7W N x11 x9)<|gg [pB]<|λ(x15:Bool)=>bi x15 (some (0,gB.dv (x11.B1==[(0:Int),0,0,0,0,0,0,0,0,0,0,0,0,0,0,0]) []))<|some (0,gB.dv false []))<|on1 (f3Y N x11 x9)<|gg [pB]<|λ(x16:Bool)=>some (0,gB.dv x16 [])
def h1Z:CE:=(h2b,mkF [bm,pI,bE,eH] [pB] (h1y N))
theorem h2a:CEok Q (h1Z N):=fn_K aq f18 ⟨[((1,0),g1e),((2,2),b6T),((3,4),c7j),((3,25),a7E),((5,1),h2O),((8,7),h1I),((8,8),f8Q),((9,1),f9j),((12,2),g0d),((13,2),f7Q)],[],[25,30,36,42,46,51,56,61,65,71,87,90,94],[],[]⟩ (bh (g3A N) (bh (c4p N) (bh (d6V N) (bh (b2P N) (bh (h3T N) (bh (h2t N) (bh (g2A N) (bP (g3d N) (g2R N) (g0L N)))))))))
end
end Go.Proofs.Zz
