import Derived.Test.YtpplgkggclddiaaF1
import Derived.Test.YtpplgkggclddiaaEnhK
set_option linter.unusedSimpArgs false
set_option linter.unusedVariables false
/- The outer loop of a function that appends to slices within a slice's elements. -/
set_option maxRecDepth 100000
namespace Go.Proofs.Zz
noncomputable section
open Go Go.Proofs.Try
abbrev XW:List PG:=[pD (.sl t_api_Ins),pI,pD (.sl tU),pD (.ar 16 tI),pD (.sl t_api_Block),pD (.ar 16 tI)]
abbrev SW:List PG:=[pD (.ar 16 tI)]
abbrev UW:List PG:=[pI,pD (.sl t_api_Ins),pI,pD (.sl tU),pD (.ar 16 tI),pD (.sl t_api_Block),pD (.ar 16 tI),pI,pI,pD (.ar 16 tI),pI,pI,pI,pI,pD (.sl t_api_Cell),pD (.sl t_api_Cell)]
def R_W0r (N:Nat):(List DV→Option Rs)→List DV→Option Rs:=round cx0 h_r10_With (ctL (T_r10_With N)) (ltL [L_r10_With_2 N]) f19.ntmps 5 0 s_r10_With_0r (bodyAt f19 0)
def R_W0x (N:Nat):(List DV→Option Rs)→List DV→Option Rs:=round cx0 h_r10_With (ctL (T_r10_With N)) (ltL []) f19.ntmps 4 0 s_r10_With_0x (bodyAt f19 0)
def stW (n i i1 n1 i2:Int) (r:List DV × List DV × Den (B4 (.sl t_api_Cell))):Option (List DV × List DV × Den (B4 (.sl t_api_Cell))) :=
 if 0≤i∧i < n∧i1 = i∧n1 = n∧i2 = i∧IntKind.i64.wrap (i+1) = i+1 then some r else none
def st_W (N:Nat) (n i:Int) (X S:List DV) (v:Den (B4 .nl)):Option (List DV × List DV × Den (B4 (.sl t_api_Cell))) :=
 gg XW (fun (x0:List api_Ins) (x1:Int) (x2:List Int) (x3:List Int) (x4:List api_Block) (x5:List Int)=>gg SW (fun (so:List Int) =>
  onA 3 (r10_With_l2 N N i v.1 x0 x1 x2 x3 x4 x5 n i so v.1 v.2.1 v.2.2.1 v.2.2.2.1 [] []) (gg UW (fun (i1:Int) (y0:List api_Ins) (y1:Int) (y2:List Int) (y3:List Int) (y4:List api_Block) (y5:List Int) (n1:Int) (i2:Int) (so1:List Int) (f:Int) (t:Int) (nx:Int) (tk:Int) (A:List api_Cell) (E:List api_Cell) =>
   stW n i i1 n1 i2 (dvG XW (y0,y1,y2,y3,y4,y5,()),dvG SW (so1,()),((f,(t,(nx,(tk,(A,(E,())))))):Den (B4 (.sl t_api_Cell))))))) S) X
theorem st_W_ok (N:Nat) (n i:Int) (X S:List DV) (v:Den (B4 .nl)) (X' S':List DV) (v':Den (B4 (.sl t_api_Cell))) (h:st_W N n i X S v = some (X',S',v')) :
  X'.length = 6∧S'.length = 1∧R_W0r N (fun p=>some (7,p)) (⟨.int .i64,i⟩::(X++((⟨.int .i64,n⟩::⟨.int .i64,i⟩::S)++po4 t_api_Cell v))) =
   some (7,⟨.int .i64,i+1⟩::(X'++((⟨.int .i64,n⟩::⟨.int .i64,i⟩::S')++pc4 t_api_Cell v'))):=by
 unfold st_W at h;obtain ⟨ys,rfl,h1⟩:=gg_app h;have h1b:gg SW (fun (so:List Int)=>onA 3 (r10_With_l2 N N i v.1 ys.1 ys.2.1 ys.2.2.1 ys.2.2.2.1 ys.2.2.2.2.1 ys.2.2.2.2.2.1 n i so v.1 v.2.1 v.2.2.1 v.2.2.2.1 [] []) (gg UW (fun (i1:Int) (y0:List api_Ins) (y1:Int) (y2:List Int) (y3:List Int) (y4:List api_Block) (y5:List Int) (n1:Int) (i2:Int) (so1:List Int) (f:Int) (t:Int) (nx:Int) (tk:Int) (A:List api_Cell) (E:List api_Cell) =>
   stW n i i1 n1 i2 (dvG XW (y0,y1,y2,y3,y4,y5,()),dvG SW (so1,()),((f,(t,(nx,(tk,(A,(E,())))))):Den (B4 (.sl t_api_Cell))))))) S = some (X',S',v'):=h1
 obtain ⟨zs,rfl,h2⟩:=gg_app h1b;have h3:onA 3 (r10_With_l2 N N i v.1 ys.1 ys.2.1 ys.2.2.1 ys.2.2.2.1 ys.2.2.2.2.1 ys.2.2.2.2.2.1 n i zs.1 v.1 v.2.1 v.2.2.1 v.2.2.2.1 [] []) (gg UW (fun (i1:Int) (y0:List api_Ins) (y1:Int) (y2:List Int) (y3:List Int) (y4:List api_Block) (y5:List Int) (n1:Int) (i2:Int) (so1:List Int) (f:Int) (t:Int) (nx:Int) (tk:Int) (A:List api_Cell) (E:List api_Cell) =>
   stW n i i1 n1 i2 (dvG XW (y0,y1,y2,y3,y4,y5,()),dvG SW (so1,()),((f,(t,(nx,(tk,(A,(E,())))))):Den (B4 (.sl t_api_Cell)))))) = some (X',S',v'):=h2
 unfold onA at h3;split at h3
 ·
  rename_i m p hr;split at h3
  ·
   rename_i hm;have hm:=Nat.eq_of_beq_eq_true hm;subst hm;obtain ⟨us,rfl,h4⟩:=gg_app h3;have h5:stW n i us.1 us.2.2.2.2.2.2.2.1 us.2.2.2.2.2.2.2.2.1 (dvG XW (us.2.1,us.2.2.1,us.2.2.2.1,us.2.2.2.2.1,us.2.2.2.2.2.1,us.2.2.2.2.2.2.1,()),dvG SW (us.2.2.2.2.2.2.2.2.2.1,()),((us.2.2.2.2.2.2.2.2.2.2.1,us.2.2.2.2.2.2.2.2.2.2.2.1,us.2.2.2.2.2.2.2.2.2.2.2.2.1,us.2.2.2.2.2.2.2.2.2.2.2.2.2.1,us.2.2.2.2.2.2.2.2.2.2.2.2.2.2.1,us.2.2.2.2.2.2.2.2.2.2.2.2.2.2.2.1,()):Den (B4 (.sl t_api_Cell)))) = some (X',S',v'):=h4;unfold stW at h5;split at h5
   ·
    rename_i hc;obtain ⟨c0,c1,c2,c3,c4,c5⟩:=hc;simp only [Option.some.injEq,Prod.mk.injEq] at h5;obtain ⟨rfl,rfl,rfl⟩:=h5;refine ⟨rfl,rfl,?_⟩;refine (r10_With_r0r_eq N (fun p=>some (7,p)) (i,ys.1,ys.2.1,ys.2.2.1,ys.2.2.2.1,ys.2.2.2.2.1,ys.2.2.2.2.2.1,n,i,zs.1,v.1,v.2.1,v.2.2.1,v.2.2.2.1,[],[],())).trans ?_;show r10_With_r0r N (cK _ fun p=>some (7,p)) i ys.1 ys.2.1 ys.2.2.1 ys.2.2.2.1 ys.2.2.2.2.1 ys.2.2.2.2.2.1 n i zs.1 v.1 v.2.1 v.2.2.1 v.2.2.2.1 [] [] = _;unfold r10_With_r0r;rw [show decide (i < n) = true by simpa using c1,show decide (i = i∧0≤i∧i < n) = true by simp [c0,c1]];simp only [gd_true];rw [hr,onA_some];refine (gg_dvG UW _ us).trans ?_;show (some (7,gI.dv (IntKind.i64.wrap (HAdd.hAdd (α:=Int) (β:=Int) (γ:=Int) us.1 1)) ((gD (.sl t_api_Ins)).dv us.2.1 (gI.dv us.2.2.1 ((gD (.sl tU)).dv us.2.2.2.1 ((gD (.ar 16 tI)).dv us.2.2.2.2.1 ((gD (.sl t_api_Block)).dv us.2.2.2.2.2.1 ((gD (.ar 16 tI)).dv us.2.2.2.2.2.2.1 (gI.dv us.2.2.2.2.2.2.2.1 (gI.dv us.2.2.2.2.2.2.2.2.1 ((gD (.ar 16 tI)).dv us.2.2.2.2.2.2.2.2.2.1 (gI.dv us.2.2.2.2.2.2.2.2.2.2.1 (gI.dv us.2.2.2.2.2.2.2.2.2.2.2.1 (gI.dv us.2.2.2.2.2.2.2.2.2.2.2.2.1 (gI.dv us.2.2.2.2.2.2.2.2.2.2.2.2.2.1 ((gD (.sl t_api_Cell)).dv us.2.2.2.2.2.2.2.2.2.2.2.2.2.2.1 ((gD (.sl t_api_Cell)).dv us.2.2.2.2.2.2.2.2.2.2.2.2.2.2.2.1 [])))))))))))))))):Option Rs) = _;rw [c2,c3,c4,c5];rfl
   · simp at h5
  · simp at h3
 · simp at h3
theorem ex_W_ok (N:Nat) (n:Int) (X S:List DV) (β:Nat→EI) (F:Nat→Prop) (w:World) (hX:RepBs β F w (s_r10_With_0.h.bx.take 3) 0 X []) (hS:∃ c,RepKs β F w [.d (.ar 16 (.int .i64))] S [] c) :
  R_W0x N (fun _=>none) (⟨.int .i64,n⟩::(X++(⟨.int .i64,n⟩::⟨.int .i64,n⟩::S))) = some (1,X++(⟨.int .i64,n⟩::⟨.int .i64,n⟩::S)):=by
 obtain ⟨p1,p2,e1,e2,c1,t1,rfl,_,_,k1,_,_,g1⟩:=RepBs.inv hX;obtain ⟨p3,p4,e3,e4,c3,t3,rfl,_,_,k2,_,_,g2⟩:=g1.inv;obtain ⟨p5,p6,e5,e6,c5,t5,rfl,_,_,k3,_,_,g3⟩:=g2.inv;obtain ⟨rfl,_⟩:=g3.inv;obtain ⟨c,hS⟩:=hS;obtain ⟨a1,rfl⟩:=RepKs_d (ts:=[.sl t_api_Ins,tI,.sl tU]) k1;obtain ⟨a2,rfl⟩:=RepKs_d (ts:=[.ar 16 tI]) k2;obtain ⟨a3,rfl⟩:=RepKs_d (ts:=[.sl t_api_Block,.ar 16 tI]) k3;obtain ⟨a4,rfl⟩:=RepKs_d (ts:=[.ar 16 tI]) hS;refine (r10_With_r0x_eq N (fun _=>none) (n,a1.1,a1.2.1,a1.2.2.1,a2.1,a3.1,a3.2.1,n,n,a4.1,())).trans ?_;show r10_With_r0x N (cK _ fun _=>none) n a1.1 a1.2.1 a1.2.2.1 a2.1 a3.1 a3.2.1 n n a4.1 = _;unfold r10_With_r0x;rw [show decide (n < n) = false by simp];rfl
def ol_W (N:Nat):OL Q cx0 h_r10_With (T_r10_With N) [L_r10_With_2 N] f19 0 (bodyAt f19 0) where
 bs:=s_r10_With_0.h.bx.take 3
 av:=s_r10_With_0.h.av
 ap:=fun _ i=>[⟨.int .i64,i⟩]
 ax:=(sgOf s_r10_With_0 1).av
 sk:=[.d (.ar 16 (.int .i64))]
 ks:=ks4 t_api_Cell
 T0:=B4 .nl
 T1:=B4 (.sl t_api_Cell)
 sz:=6
 LR:=s_r10_With_0r
 LX:=s_r10_With_0x
 L0:=s_r10_With_0
 po:=po4 t_api_Cell
 pc:=pc4 t_api_Cell
 step:=st_W N
 okA:=by kernel_rfl
 okX:=by kernel_rfl
 okB:=by kernel_rfl
 okS:=by kernel_rfl
 nA:=fun _ _=>rfl
 nX:=by kernel_rfl
 hR:=by kernel_rfl
 hX:=by kernel_rfl
 xR:=by kernel_rfl
 xX:=by kernel_rfl
 h0:=by kernel_rfl
 x0:=by kernel_rfl
 z0:=by kernel_rfl
 z1:=by kernel_rfl
 zp:=by decide
 zo:=fun _=>rfl
 open_:=open4 t_api_Cell
 close:=close4 t_api_Cell
 round:=fun n i X S v X' S' v' h _ _=>st_W_ok N n i X S v X' S' v' h
 exit:=ex_W_ok N
abbrev LW:List PG:=[pI,pD (.sl t_api_Ins),pI,pD (.sl tU),pD (.ar 16 tI),pD (.sl t_api_Block),pD (.ar 16 tI),pD (.sl (B4 .nl)),pD (.ar 16 tI)]
abbrev LX:List PG:=[pD (.sl t_api_Ins),pI,pD (.sl tU),pD (.ar 16 tI),pD (.sl t_api_Block),pD (.ar 16 tI),pD (.sl t_api_Block),pD (.ar 16 tI)]
def r10_With_l0 (N:Nat) (_:Nat) (i:Int) (x0:List api_Ins) (x1:Int) (x2:List Int) (x3:List Int) (x4:List api_Block) (x5:List Int) (xs:List (Den (B4 .nl))) (so:List Int):Option Rs :=
 if i = 0 then match (ol_W N).walk (xs.length:Int) xs 0 (dvG XW (x0,x1,x2,x3,x4,x5,())) (dvG SW (so,())) with
  | some (X2,S2,zs)=>some (1,X2++(⟨.sl (B4 (.sl t_api_Cell)),zs⟩::S2))
  | none=>none
 else none
def L_r10_With_0 (N:Nat):LE:=(0,mkM LW [(1,LX)] (r10_With_l0 N N))
theorem K_r10_With_0 (N:Nat):LEok Q h_r10_With (bodOf f19) f19.ntmps c_r10_With.i.bx.length (L_r10_With_0 N) :=
 mkM_ok (ls:=s_r10_With_0) (body:=bodyAt f19 0) (by kernel_rfl) (by kernel_rfl) fun ys q h=>by
 have h1:r10_With_l0 N N ys.1 ys.2.1 ys.2.2.1 ys.2.2.2.1 ys.2.2.2.2.1 ys.2.2.2.2.2.1 ys.2.2.2.2.2.2.1 ys.2.2.2.2.2.2.2.1 ys.2.2.2.2.2.2.2.2.1 = some q:=h;unfold r10_With_l0 at h1;split at h1
 ·
  rename_i hi;split at h1
  ·
   rename_i X2 S2 zs hw;simp only [Option.some.injEq] at h1;subst h1;have:=OL.loop (ol_W N) ti_ok hmix (TT_r10_With N) (A_r10_With N) f_19 (by kernel_rfl) ⟨K_r10_With_2 N,trivial⟩ (by kernel_rfl) hw;rw [← hi] at this;exact this
  · simp at h1
 · simp at h1
end
end Go.Proofs.Zz

/- What functions of the program compute, as plain functions. -/
set_option maxRecDepth 100000
namespace Go.Proofs.Zz
noncomputable section
open Go Go.Proofs.Try
def r10_With (N:Nat) (x0:api_Program) (x1:List Int):Option Rs :=
 on1 (r10_Closed N x0 x1)<|gg [pB]<|fun (x2:Bool) =>
 bi (!x2) (
  some (0,g_api_Split.dv (api_Split.mk ([]:List api_Block) (List.replicate 16 (0 :Int))) (gI.dv 1 []))) <|
 on1 (r10_Cut N x0)<|gg [pD (.sl (.pair tI (.pair tI (.pair tI (.pair tI (.pair .nl (.pair .nl .unit)))))))]<|fun (x3:List (Int × (Int × (Int × (Int × (Unit × (Unit × Unit))))))) =>
 onA 1 (r10_With_l0 N N 0 x0.Code x0.Size x0.Data x1 ([]:List api_Block) (List.replicate 16 (0 :Int)) x3 x1)<|gg [pD (.sl t_api_Ins),pI,pD (.sl tU),pD (.ar 16 tI),pD (.sl t_api_Block),pD (.ar 16 tI),pD (.sl t_api_Block),pD (.ar 16 tI)]<|fun (x4:List api_Ins) (x5:Int) (x6:List Int) (x7:List Int) (x8:List api_Block) (x9:List Int) (x10:List api_Block) (x11:List Int) =>
 some (0,g_api_Split.dv (api_Split.mk x10 x11) (gI.dv 0 []))
def X_r10_With (N:Nat):CE:=(c_r10_With,mkF [p_api_Program,pD (.ar 16 tI)] [p_api_Split,pI] (r10_With N))
theorem Y_r10_With (N:Nat):CEok Q (X_r10_With N) :=
 fnG (hi:=h_r10_With) (l:=T_r10_With N) (t:=[L_r10_With_0 N]) ti_ok hmix (TT_r10_With N) (A_r10_With N) f_19 (by kernel_rfl) (by kernel_rfl) ⟨K_r10_With_0 N,trivial⟩ fun ys=>by kernel_rfl
def c_r10_Split:CS:=⟨25,7,⟨[.agg [.d (.sl t_api_Ins),.d tI,.d (.sl tU)]],[]⟩,[.agg [.o t_api_Block,.d (.ar 16 tI)],.one (.d tI)],false,[]⟩
def h_r10_Split:Hi:=⟨[((1,2),c_r10_Owner),((1,3),c_r10_With)],[],[],[],[]⟩
theorem f_7:Fn Q 7 f7 (codeOf f7):=by constructor <;> kernel_rfl
def r10_Split (N:Nat) (x0:api_Program):Option Rs :=
 on1 (r10_Owner N x0)<|gg [pD (.ar 16 tI)]<|fun (x1:List Int) =>
 on1 (r10_With N x0 x1)<|gg [p_api_Split,pI]<|fun (x2:api_Split) (x3:Int) =>
 some (0,g_api_Split.dv x2 (gI.dv x3 []))
def X_r10_Split (N:Nat):CE:=(c_r10_Split,mkF [p_api_Program] [p_api_Split,pI] (r10_Split N))
theorem Y_r10_Split (N:Nat):CEok Q (X_r10_Split N) :=
 fnG (hi:=h_r10_Split) (l:=[X_r10_Owner N,X_r10_With N]) (t:=[]) ti_ok hmix ⟨Y_r10_Owner N,Y_r10_With N,trivial⟩ ⟨rfl,rfl,trivial⟩ f_7 (by kernel_rfl) (by kernel_rfl) trivial fun ys=>by kernel_rfl
def c_front_has:CS:=⟨26,47,⟨[.agg [.d (.sl t_api_Block),.d (.ar 16 tI)],.one (.d tI)],[]⟩,[.one (.d tB)],true,[]⟩
def h_front_has:Hi:=⟨[],[],[7],[],[]⟩
theorem f_47:Fn Q 47 f47 (codeOf f47):=by constructor <;> kernel_rfl
def front_has (N:Nat) (x0:api_Split) (x1:Int):Option Rs :=
 bi (decide (x1≥0)) (
  some (0,gB.dv (decide (x1 < (len x0.Blocks))) [])) <|
 some (0,gB.dv false [])
def X_front_has (N:Nat):CE:=(c_front_has,mkF [p_api_Split,pI] [pB] (front_has N))
theorem Y_front_has (N:Nat):CEok Q (X_front_has N) :=
 fnG (hi:=h_front_has) (l:=[]) (t:=[]) ti_ok hmix trivial trivial f_47 (by kernel_rfl) (by kernel_rfl) trivial fun ys=>by kernel_rfl
def c_front_cells:CS:=⟨27,35,⟨[.agg [.d (.sl t_api_Block),.d (.ar 16 tI)],.one (.d tB),.one (.d tI)],[]⟩,[.one (.d (.sl t_api_Cell))],true,[]⟩
def h_front_cells:Hi:=⟨[((1,2),c_front_has)],[],[7,12],[],[]⟩
theorem f_35:Fn Q 35 f35 (codeOf f35):=by constructor <;> kernel_rfl
def front_cells (N:Nat) (x0:api_Split) (x1:Bool) (x2:Int):Option Rs :=
 on1 (front_has N x0 x2)<|gg [pB]<|fun (x3:Bool) =>
 bi (!x3) (
  some (0,(gD (.sl t_api_Cell)).dv ([]:List api_Cell) [])) <|
 bi x1 (
  gd (idx x2 (List.length x0.Blocks)) <|
  some (0,(gD (.sl t_api_Cell)).dv ((List.getD x0.Blocks x2.toNat api_Block.z).2.2.2.2.2.1) [])) <|
 gd (idx x2 (List.length x0.Blocks)) <|
 some (0,(gD (.sl t_api_Cell)).dv ((List.getD x0.Blocks x2.toNat api_Block.z).2.2.2.2.1) [])
def X_front_cells (N:Nat):CE:=(c_front_cells,mkF [p_api_Split,pB,pI] [pD (.sl t_api_Cell)] (front_cells N))
theorem Y_front_cells (N:Nat):CEok Q (X_front_cells N) :=
 fnG (hi:=h_front_cells) (l:=[X_front_has N]) (t:=[]) ti_ok hmix ⟨Y_front_has N,trivial⟩ ⟨rfl,trivial⟩ f_35 (by kernel_rfl) (by kernel_rfl) trivial fun ys=>by kernel_rfl
def c_front_End:CS:=⟨28,34,⟨[.agg [.d (.sl t_api_Block),.d (.ar 16 tI)],.agg [.d tI,.d tI,.d tI]],[]⟩,[.one (.d tI)],true,[]⟩
def h_front_End:Hi:=⟨[((1,3),c_front_has)],[],[10],[],[]⟩
theorem f_34:Fn Q 34 f34 (codeOf f34):=by constructor <;> kernel_rfl
def front_End (N:Nat) (x0:api_Split) (x1:api_Pos):Option Rs :=
 on1 (front_has N x0 x1.Block)<|gg [pB]<|fun (x2:Bool) =>
 bi (!x2) (
  some (0,gI.dv x1.Base [])) <|
 gd (idx x1.Block (List.length x0.Blocks)) <|
 some (0,gI.dv (w.i64 ((w.i64 (x1.Base+(List.getD x0.Blocks x1.Block.toNat api_Block.z).2.1)) - (List.getD x0.Blocks x1.Block.toNat api_Block.z).1)) [])
def X_front_End (N:Nat):CE:=(c_front_End,mkF [p_api_Split,p_api_Pos] [pI] (front_End N))
theorem Y_front_End (N:Nat):CEok Q (X_front_End N) :=
 fnG (hi:=h_front_End) (l:=[X_front_has N]) (t:=[]) ti_ok hmix ⟨Y_front_has N,trivial⟩ ⟨rfl,trivial⟩ f_34 (by kernel_rfl) (by kernel_rfl) trivial fun ys=>by kernel_rfl
def c_front_Settle:CS:=⟨29,13,⟨[.agg [.d (.sl t_api_Block),.d (.ar 16 tI)],.one (.d tB),.agg [.d tI,.d tI,.d tI]],[]⟩,[.agg [.d tI,.d tI,.d tI],.one (.d tB)],false,[]⟩
def s_front_Settle_0:LS:=⟨⟨[.no,.one (.d tB),.no,.one (.p 0 0 [1,16]),.no,.one (.p 1 0 [1,1,1]),.one (.p 2 0 [1,1,1]),.no,.no,.no,.no,.one (.d tI),.one (.d tI)]++nos 52,[[.d (.sl t_api_Block),.d (.ar 16 tI)],[.d tI,.d tI,.d tI],[.d tI,.d tI,.d tI]]⟩,[(0,⟨nos 6++[.one (.p 0 0 [1,1,1]),.one (.d tB)]++nos 57,[[.d tI,.d tI,.d tI]]⟩),(1,⟨[.no,.one (.d tB),.no,.one (.p 0 0 [1,16]),.no,.one (.p 1 0 [1,1,1]),.one (.p 2 0 [1,1,1])]++nos 58,[[.d (.sl t_api_Block),.d (.ar 16 tI)],[.d tI,.d tI,.d tI],[.d tI,.d tI,.d tI]]⟩)]⟩
def h_front_Settle:Hi:=⟨[((3,3),c_front_has),((6,6),c_front_cells),((10,3),c_front_End),((12,4),c_front_has),((12,13),c_front_cells)],[(0,s_front_Settle_0)],[13,18,27,38,54],[],[]⟩
theorem f_13:Fn Q 13 f13 (codeOf f13):=by constructor <;> kernel_rfl
def T_front_Settle (N:Nat):List CE:=[X_front_has N,X_front_cells N,X_front_End N]
theorem TT_front_Settle (N:Nat):AllP (CEok Q) (T_front_Settle N):=⟨Y_front_has N,Y_front_cells N,Y_front_End N,trivial⟩
theorem A_front_Settle (N:Nat):AllP (fun e=>lookC (T_front_Settle N) e.2.id = some e.2) h_front_Settle.cs:=⟨rfl,rfl,rfl,rfl,rfl,trivial⟩
def front_Settle_r0 (N:Nat) (again:Fn' (Option Rs) [pB,pI,pI,p_api_Split,p_api_Pos,p_api_Pos]) (x0:Bool) (x1:Int) (x2:Int) (x3:api_Split) (x4:api_Pos) (x5:api_Pos):Option Rs :=
 bi (decide (x2 < x1)) (
  on1 (front_has N x3 x4.Block)<|gg [pB]<|fun (x6:Bool) =>
  bi (!x6) (
   some (0,gB.dv true (g_api_Pos.dv x4 []))) <|
  gd (idx x4.Block (List.length x3.Blocks)) <|
  on1 (front_cells N x3 x0 x4.Block)<|gg [pD (.sl t_api_Cell)]<|fun (x7:List api_Cell) =>
  bi (decide (x4.Index < (len x7))) (
   some (0,gB.dv false (g_api_Pos.dv x4 []))) <|
  bi (decide ((List.getD x3.Blocks x4.Block.toNat api_Block.z).2.2.1 < 0)) (
   some (0,gB.dv true (g_api_Pos.dv x4 []))) <|
  on1 (front_End N x3 x4)<|gg [pI]<|fun (x8:Int) =>
  again x0 x1 (w.i64 (x2+1)) x3 (api_Pos.mk ((List.getD x3.Blocks x4.Block.toNat api_Block.z).2.2.1) 0 x8) x5) <|
 some (1,gB.dv x0 (g_api_Split.dv x3 (g_api_Pos.dv x4 (g_api_Pos.dv x5 []))))
def front_Settle_l0 (N:Nat):Nat→Fn' (Option Rs) [pB,pI,pI,p_api_Split,p_api_Pos,p_api_Pos]:=lpG (front_Settle_r0 N)
def L_front_Settle_0 (N:Nat):LE:=(0,mkM [pB,pI,pI,p_api_Split,p_api_Pos,p_api_Pos] [(0,[pB,p_api_Pos]),(1,[pB,p_api_Split,p_api_Pos,p_api_Pos])] (front_Settle_l0 N N))
theorem K_front_Settle_0 (N:Nat):LEok Q h_front_Settle (bodOf f13) f13.ntmps 0 (L_front_Settle_0 N) :=
 loopG (hi:=h_front_Settle) (l:=T_front_Settle N) (t:=[]) (r:=front_Settle_r0 N) ti_ok hmix (TT_front_Settle N) (A_front_Settle N) f_13 trivial (ls:=s_front_Settle_0) (body:=bodyAt f13 0) (by kernel_rfl) (by kernel_rfl) fun A ys=>by kernel_rfl
def front_Settle (N:Nat) (x0:api_Split) (x1:Bool) (x2:api_Pos):Option Rs :=
 onB 0 1 (front_Settle_l0 N N x1 (len x0.Blocks) 0 x0 x2 api_Pos.z) (gg [pB,p_api_Pos]<|fun (x3:Bool) (x4:api_Pos) =>
  some (0,g_api_Pos.dv x4 (gB.dv x3 [])))<|gg [pB,p_api_Split,p_api_Pos,p_api_Pos]<|fun (x5:Bool) (x6:api_Split) (x7:api_Pos) (x8:api_Pos) =>
 on1 (front_has N x6 x7.Block)<|gg [pB]<|fun (x9:Bool) =>
 bi (!x9) (
  some (0,g_api_Pos.dv x7 (gB.dv true []))) <|
 on1 (front_cells N x6 x5 x7.Block)<|gg [pD (.sl t_api_Cell)]<|fun (x10:List api_Cell) =>
 some (0,g_api_Pos.dv x7 (gB.dv (decide (x7.Index≥(len x10))) []))
def X_front_Settle (N:Nat):CE:=(c_front_Settle,mkF [p_api_Split,pB,p_api_Pos] [p_api_Pos,pB] (front_Settle N))
theorem Y_front_Settle (N:Nat):CEok Q (X_front_Settle N) :=
 fnG (hi:=h_front_Settle) (l:=T_front_Settle N) (t:=[L_front_Settle_0 N]) ti_ok hmix (TT_front_Settle N) (A_front_Settle N) f_13 (by kernel_rfl) (by kernel_rfl) ⟨K_front_Settle_0 N,trivial⟩ fun ys=>by kernel_rfl
def c_front_Next:CS:=⟨30,11,⟨[.agg [.d (.sl t_api_Block),.d (.ar 16 tI)],.one (.d tB),.agg [.d tI,.d tI,.d tI]],[]⟩,[.agg q_1,.one (.d tI),.one (.d tB)],false,[]⟩
def h_front_Next:Hi:=⟨[((1,3),c_front_Settle),((3,3),c_front_End),((4,4),c_front_cells)],[],[19,23],[],[]⟩
theorem f_11:Fn Q 11 f11 (codeOf f11):=by constructor <;> kernel_rfl
def front_Next (N:Nat) (x0:api_Split) (x1:Bool) (x2:api_Pos):Option Rs :=
 on1 (front_Settle N x0 x1 x2)<|gg [p_api_Pos,pB]<|fun (x3:api_Pos) (x4:Bool) =>
 bi x4 (
  on1 (front_End N x0 x3)<|gg [pI]<|fun (x5:Int) =>
  some (0,g_api_Cell.dv (api_Cell.z) (gI.dv x5 (gB.dv false [])))) <|
 bi (decide (x3.Index < 0)) (
  on1 (front_End N x0 x3)<|gg [pI]<|fun (x6:Int) =>
  some (0,g_api_Cell.dv (api_Cell.z) (gI.dv x6 (gB.dv false [])))) <|
 on1 (front_cells N x0 x1 x3.Block)<|gg [pD (.sl t_api_Cell)]<|fun (x7:List api_Cell) =>
 gd (idx x3.Index (List.length x7)) <|
 some (0,g_api_Cell.dv (List.getD x7 x3.Index.toNat api_Cell.z) (gI.dv (w.i64 (x3.Base+(List.getD x7 x3.Index.toNat api_Cell.z).2.2.2.2.1)) (gB.dv true [])))
def X_front_Next (N:Nat):CE:=(c_front_Next,mkF [p_api_Split,pB,p_api_Pos] [p_api_Cell,pI,pB] (front_Next N))
theorem Y_front_Next (N:Nat):CEok Q (X_front_Next N) :=
 fnG (hi:=h_front_Next) (l:=[X_front_Settle N,X_front_End N,X_front_cells N]) (t:=[]) ti_ok hmix ⟨Y_front_Settle N,Y_front_End N,Y_front_cells N,trivial⟩ ⟨rfl,rfl,rfl,trivial⟩ f_11 (by kernel_rfl) (by kernel_rfl) trivial fun ys=>by kernel_rfl
def c_front_Cells:CS:=⟨31,16,⟨[.agg [.d (.sl t_api_Block),.d (.ar 16 tI)],.one (.d tB),.one (.d tI)],[]⟩,[.one (.o t_api_Cell)],true,[]⟩
def h_front_Cells:Hi:=⟨[((1,3),c_front_cells)],[],[],[],[]⟩
theorem f_16:Fn Q 16 f16 (codeOf f16):=by constructor <;> kernel_rfl
def front_Cells (N:Nat) (x0:api_Split) (x1:Bool) (x2:Int):Option Rs :=
 on1 (front_cells N x0 x1 x2)<|gg [pD (.sl t_api_Cell)]<|fun (x3:List api_Cell) =>
 gd (rm ([]:List api_Cell) x3 72) <|
 some (0,(gD (.sl t_api_Cell)).dv (([]:List api_Cell)++x3) [])
def X_front_Cells (N:Nat):CE:=(c_front_Cells,mkF [p_api_Split,pB,pI] [pD (.sl t_api_Cell)] (front_Cells N))
theorem Y_front_Cells (N:Nat):CEok Q (X_front_Cells N) :=
 fnG (hi:=h_front_Cells) (l:=[X_front_cells N]) (t:=[]) ti_ok hmix ⟨Y_front_cells N,trivial⟩ ⟨rfl,trivial⟩ f_16 (by kernel_rfl) (by kernel_rfl) trivial fun ys=>by kernel_rfl
def c_front_Go:CS:=⟨32,14,⟨[.agg [.d (.sl t_api_Block),.d (.ar 16 tI)],.agg [.d tI,.d tI,.d tI],.one (.d tB)],[]⟩,[.agg [.d tI,.d tI,.d tI]],true,[]⟩
def h_front_Go:Hi:=⟨[((1,5),c_front_has),((1,16),c_front_has),((2,9),c_front_End)],[],[8,14,24],[],[]⟩
theorem f_14:Fn Q 14 f14 (codeOf f14):=by constructor <;> kernel_rfl
def front_Go (N:Nat) (x0:api_Split) (x1:api_Pos) (x2:Bool):Option Rs :=
 bi x2 (
  on1 (front_has N x0 x1.Block)<|gg [pB]<|fun (x3:Bool) =>
  bi x3 (
   gd (idx x1.Block (List.length x0.Blocks)) <|
   on1 (front_has N x0 ((List.getD x0.Blocks x1.Block.toNat api_Block.z).2.2.2.1))<|gg [pB]<|fun (x4:Bool) =>
   bi x4 (
    gd (idx x1.Block (List.length x0.Blocks)) <|
    on1 (front_End N x0 x1)<|gg [pI]<|fun (x5:Int) =>
    some (0,g_api_Pos.dv (api_Pos.mk ((List.getD x0.Blocks x1.Block.toNat api_Block.z).2.2.2.1) 0 x5) [])) <|
   some (0,g_api_Pos.dv ({ x1 with Index:=(w.i64 (x1.Index+1)) }:api_Pos) [])) <|
  some (0,g_api_Pos.dv ({ x1 with Index:=(w.i64 (x1.Index+1)) }:api_Pos) [])) <|
 some (0,g_api_Pos.dv ({ x1 with Index:=(w.i64 (x1.Index+1)) }:api_Pos) [])
def X_front_Go (N:Nat):CE:=(c_front_Go,mkF [p_api_Split,p_api_Pos,pB] [p_api_Pos] (front_Go N))
theorem Y_front_Go (N:Nat):CEok Q (X_front_Go N) :=
 fnG (hi:=h_front_Go) (l:=[X_front_has N,X_front_End N]) (t:=[]) ti_ok hmix ⟨Y_front_has N,Y_front_End N,trivial⟩ ⟨rfl,rfl,rfl,trivial⟩ f_14 (by kernel_rfl) (by kernel_rfl) trivial fun ys=>by kernel_rfl
def c_l20_alive:CS:=⟨33,6,⟨[],[]⟩,[.one (.d tB)],true,[]⟩
def h_l20_alive:Hi:=⟨[((1,3),c_r10_Split),((2,2),c_front_Next),((3,2),c_front_Settle),((4,1),c_front_Cells),((4,27),c_front_Go)],[],[32,37,41,44,47,52],[],[]⟩
theorem f_6:Fn Q 6 f6 (codeOf f6):=by constructor <;> kernel_rfl
def l20_alive (N:Nat)  : Option Rs :=
 on1 (r10_Split N (api_Program.mk [(41,(0,api_Write.z))] 0 ([]:List Int)))<|gg [p_api_Split,pI]<|fun (x0:api_Split) (x1:Int) =>
 on1 (front_Next N x0 false (api_Pos.mk 0 0 7))<|gg [p_api_Cell,pI,pB]<|fun (x2:api_Cell) (x3:Int) (x4:Bool) =>
 on1 (front_Settle N x0 true (api_Pos.mk 0 1 0))<|gg [p_api_Pos,pB]<|fun (x5:api_Pos) (x6:Bool) =>
 on1 (front_Cells N (api_Split.mk ([]:List api_Block) (List.replicate 16 (0 :Int))) false 0)<|gg [pD (.sl t_api_Cell)]<|fun (x7:List api_Cell) =>
 bi ((len x7) == 0) (
  bi (x2.1 == 12) (
   bi (x3 == 7) (
    bi x4 (
     bi x6 (
      bi (x5.Index == 1) (
       on1 (front_Go N x0 api_Pos.z false)<|gg [p_api_Pos]<|fun (x8:api_Pos) =>
       some (0,gB.dv (x8.Index == 1) [])) <|
      some (0,gB.dv false [])) <|
     some (0,gB.dv false [])) <|
    some (0,gB.dv false [])) <|
   some (0,gB.dv false [])) <|
  some (0,gB.dv false [])) <|
 some (0,gB.dv false [])
def X_l20_alive (N:Nat):CE:=(c_l20_alive,mkF [] [pB] (l20_alive N))
theorem Y_l20_alive (N:Nat):CEok Q (X_l20_alive N) :=
 fnG (hi:=h_l20_alive) (l:=[X_r10_Split N,X_front_Next N,X_front_Settle N,X_front_Cells N,X_front_Go N]) (t:=[]) ti_ok hmix ⟨Y_r10_Split N,Y_front_Next N,Y_front_Settle N,Y_front_Cells N,Y_front_Go N,trivial⟩ ⟨rfl,rfl,rfl,rfl,rfl,trivial⟩ f_6 (by kernel_rfl) (by kernel_rfl) trivial fun ys=>by kernel_rfl
def c_l4_Few:CS:=⟨34,8,⟨[.agg [.d (.sl t_api_Ins),.d tI,.d (.sl tU)]],[]⟩,[.one (.d tB)],true,[]⟩
def h_l4_Few:Hi:=⟨[],[],[7],[],[]⟩
theorem f_8:Fn Q 8 f8 (codeOf f8):=by constructor <;> kernel_rfl
def l4_Few (N:Nat) (x0:api_Program):Option Rs :=
 bi (decide ((len x0.Code)≤200)) (
  some (0,gB.dv (decide ((len x0.Data)≤500)) [])) <|
 some (0,gB.dv false [])
def X_l4_Few (N:Nat):CE:=(c_l4_Few,mkF [p_api_Program] [pB] (l4_Few N))
theorem Y_l4_Few (N:Nat):CEok Q (X_l4_Few N) :=
 fnG (hi:=h_l4_Few) (l:=[]) (t:=[]) ti_ok hmix trivial trivial f_8 (by kernel_rfl) (by kernel_rfl) trivial fun ys=>by kernel_rfl
def c_r1_First:CS:=⟨35,9,⟨[.agg [.d (.sl t_api_Ins),.d tI,.d (.sl tU)]],[]⟩,[.one (.o tU)],true,[]⟩
def h_r1_First:Hi:=⟨[],[],[],[],[]⟩
theorem f_9:Fn Q 9 f9 (codeOf f9):=by constructor <;> kernel_rfl
def r1_First (N:Nat) (x0:api_Program):Option Rs :=
 gd (decide (0≤x0.Size∧x0.Size≤x0.Size∧x0.Size*((1:Nat):Int)≤((reach:Nat):Int)∧x0.Size≤((reach:Nat):Int))) <|
 some (0,(gD (.sl tU)).dv (laid (List.replicate x0.Size.toNat (0 :Int)) 0 (List.take (List.length (List.replicate x0.Size.toNat (0 :Int))) x0.Data)) [])
def X_r1_First (N:Nat):CE:=(c_r1_First,mkF [p_api_Program] [pD (.sl tU)] (r1_First N))
theorem Y_r1_First (N:Nat):CEok Q (X_r1_First N) :=
 fnG (hi:=h_r1_First) (l:=[]) (t:=[]) ti_ok hmix trivial trivial f_9 (by kernel_rfl) (by kernel_rfl) trivial fun ys=>by kernel_rfl
def c_r1_Int:CS:=⟨36,55,⟨[.one (.d tW)],[]⟩,[.one (.d tI)],true,[]⟩
def h_r1_Int:Hi:=⟨[],[],[7],[],[]⟩
theorem f_55:Fn Q 55 f55 (codeOf f55):=by constructor <;> kernel_rfl
def r1_Int (N:Nat) (x0:Int):Option Rs :=
 bi (decide ((w.i64 x0)≥2147483648)) (
  some (0,gI.dv (w.i64 ((w.i64 x0) - 4294967296)) [])) <|
 some (0,gI.dv (w.i64 x0) [])
def X_r1_Int (N:Nat):CE:=(c_r1_Int,mkF [pW] [pI] (r1_Int N))
theorem Y_r1_Int (N:Nat):CEok Q (X_r1_Int N) :=
 fnG (hi:=h_r1_Int) (l:=[]) (t:=[]) ti_ok hmix trivial trivial f_55 (by kernel_rfl) (by kernel_rfl) trivial fun ys=>by kernel_rfl
def c_r1_Taken:CS:=⟨37,33,⟨[.one (.d tI),.one (.d tW),.one (.d tW)],[]⟩,[.one (.d tB)],true,[]⟩
def h_r1_Taken:Hi:=⟨[((7,1),c_r1_Int),((7,3),c_r1_Int),((9,1),c_r1_Int),((9,3),c_r1_Int)],[],[8,13,18,25,32,37],[],[]⟩
theorem f_33:Fn Q 33 f33 (codeOf f33):=by constructor <;> kernel_rfl
def r1_Taken (N:Nat) (x0:Int) (x1:Int) (x2:Int):Option Rs :=
 bi (x0 == 34) (
  some (0,gB.dv (x1 == x2) [])) <|
 bi (x0 == 35) (
  some (0,gB.dv (x1 != x2) [])) <|
 bi (x0 == 36) (
  on1 (r1_Int N x1)<|gg [pI]<|fun (x3:Int) =>
  on1 (r1_Int N x2)<|gg [pI]<|fun (x4:Int) =>
  some (0,gB.dv (decide (x3 < x4)) [])) <|
 bi (x0 == 37) (
  on1 (r1_Int N x1)<|gg [pI]<|fun (x5:Int) =>
  on1 (r1_Int N x2)<|gg [pI]<|fun (x6:Int) =>
  some (0,gB.dv (decide (x5≥x6)) [])) <|
 bi (x0 == 38) (
  some (0,gB.dv (decide (x1 < x2)) [])) <|
 bi (x0 == 39) (
  some (0,gB.dv (decide (x1≥x2)) [])) <|
 some (0,gB.dv false [])
def X_r1_Taken (N:Nat):CE:=(c_r1_Taken,mkF [pI,pW,pW] [pB] (r1_Taken N))
theorem Y_r1_Taken (N:Nat):CEok Q (X_r1_Taken N) :=
 fnG (hi:=h_r1_Taken) (l:=[X_r1_Int N]) (t:=[]) ti_ok hmix ⟨Y_r1_Int N,trivial⟩ ⟨rfl,rfl,rfl,rfl,trivial⟩ f_33 (by kernel_rfl) (by kernel_rfl) trivial fun ys=>by kernel_rfl
def c_l20_taken:CS:=⟨38,15,⟨[.agg [.d tI,.d tI,.d tI,.d tI,.d tI],.agg q_2],[]⟩,[.one (.d tB)],true,[]⟩
def h_l20_taken:Hi:=⟨[((1,12),c_r1_Taken)],[],[],[],[]⟩
theorem f_15:Fn Q 15 f15 (codeOf f15):=by constructor <;> kernel_rfl
def l20_taken (N:Nat) (x0:api_Ins) (x1:api_Result):Option Rs :=
 gd (idx x0.2.2.1 16) <|
 gd (idx x0.2.2.2.1 16) <|
 on1 (r1_Taken N x0.1 (List.getD x1.Regs x0.2.2.1.toNat 0) (List.getD x1.Regs x0.2.2.2.1.toNat 0))<|gg [pB]<|fun (x2:Bool) =>
 some (0,gB.dv x2 [])
def X_l20_taken (N:Nat):CE:=(c_l20_taken,mkF [p_api_Ins,p_api_Result] [pB] (l20_taken N))
theorem Y_l20_taken (N:Nat):CEok Q (X_l20_taken N) :=
 fnG (hi:=h_l20_taken) (l:=[X_r1_Taken N]) (t:=[]) ti_ok hmix ⟨Y_r1_Taken N,trivial⟩ ⟨rfl,trivial⟩ f_15 (by kernel_rfl) (by kernel_rfl) trivial fun ys=>by kernel_rfl
def c_r1_Copy:CS:=⟨39,21,⟨[.agg q_2],[]⟩,[.agg q_3],true,[]⟩
def h_r1_Copy:Hi:=⟨[],[],[],[],[]⟩
theorem f_21:Fn Q 21 f21 (codeOf f21):=by constructor <;> kernel_rfl
def r1_Copy (N:Nat) (x0:api_Result):Option Rs :=
 gd (rm ([]:List Int) x0.Mem 1) <|
 gd (rm ([]:List api_Write) x0.Writes 24) <|
 some (0,g_api_Result.dv ({ x0 with Mem:=(([]:List Int)++x0.Mem),Writes:=(([]:List api_Write)++x0.Writes) }:api_Result) [])
def X_r1_Copy (N:Nat):CE:=(c_r1_Copy,mkF [p_api_Result] [p_api_Result] (r1_Copy N))
theorem Y_r1_Copy (N:Nat):CEok Q (X_r1_Copy N) :=
 fnG (hi:=h_r1_Copy) (l:=[]) (t:=[]) ti_ok hmix trivial trivial f_21 (by kernel_rfl) (by kernel_rfl) trivial fun ys=>by kernel_rfl
def c_r1_trap:CS:=⟨40,23,⟨[.agg q_2,.one (.d tI),.one (.d tI)],[]⟩,[.agg q_2,.one (.d tI)],false,[]⟩
def h_r1_trap:Hi:=⟨[],[],[],[],[]⟩
theorem f_23:Fn Q 23 f23 (codeOf f23):=by constructor <;> kernel_rfl
def r1_trap (N:Nat) (x0:api_Result) (x1:Int) (x2:Int):Option Rs :=
 some (0,g_api_Result.dv ({ x0 with End:=2,Trap:=(api_Trap.mk x1 x0.Steps x2) }:api_Result) (gI.dv x2 []))
def X_r1_trap (N:Nat):CE:=(c_r1_trap,mkF [p_api_Result,pI,pI] [p_api_Result,pI] (r1_trap N))
theorem Y_r1_trap (N:Nat):CEok Q (X_r1_trap N) :=
 fnG (hi:=h_r1_trap) (l:=[]) (t:=[]) ti_ok hmix trivial trivial f_23 (by kernel_rfl) (by kernel_rfl) trivial fun ys=>by kernel_rfl
def c_r1_value:CS:=⟨41,24,⟨[.agg [.d (.ar 16 tW)],.one (.d tI)],[]⟩,[.one (.d tW)],true,[]⟩
def h_r1_value:Hi:=⟨[],[],[6],[],[]⟩
theorem f_24:Fn Q 24 f24 (codeOf f24):=by constructor <;> kernel_rfl
def r1_value (N:Nat) (x0:List Int) (x1:Int):Option Rs :=
 bi (x1 == 0) (
  some (0,gW.dv 0 [])) <|
 gd (idx x1 16) <|
 some (0,gW.dv (List.getD x0 x1.toNat 0) [])
def X_r1_value (N:Nat):CE:=(c_r1_value,mkF [pD (.ar 16 tW),pI] [pW] (r1_value N))
theorem Y_r1_value (N:Nat):CEok Q (X_r1_value N) :=
 fnG (hi:=h_r1_value) (l:=[]) (t:=[]) ti_ok hmix trivial trivial f_24 (by kernel_rfl) (by kernel_rfl) trivial fun ys=>by kernel_rfl
def c_r1_Size:CS:=⟨42,27,⟨[.one (.d tI)],[]⟩,[.one (.d tI)],true,[]⟩
def h_r1_Size:Hi:=⟨[],[],[4,7,11],[],[]⟩
theorem f_27:Fn Q 27 f27 (codeOf f27):=by constructor <;> kernel_rfl
def r1_Size (N:Nat) (x0:Int):Option Rs :=
 bi (x0 == 26) (
  some (0,gI.dv 4 [])) <|
 bi (x0 == 31) (
  some (0,gI.dv 4 [])) <|
 bi (x0 == 27) (
  some (0,gI.dv 2 [])) <|
 bi (x0 == 28) (
  some (0,gI.dv 2 [])) <|
 bi (x0 == 32) (
  some (0,gI.dv 2 [])) <|
 bi (x0 == 29) (
  some (0,gI.dv 1 [])) <|
 bi (x0 == 30) (
  some (0,gI.dv 1 [])) <|
 bi (x0 == 33) (
  some (0,gI.dv 1 [])) <|
 some (0,gI.dv 0 [])
def X_r1_Size (N:Nat):CE:=(c_r1_Size,mkF [pI] [pI] (r1_Size N))
theorem Y_r1_Size (N:Nat):CEok Q (X_r1_Size N) :=
 fnG (hi:=h_r1_Size) (l:=[]) (t:=[]) ti_ok hmix trivial trivial f_27 (by kernel_rfl) (by kernel_rfl) trivial fun ys=>by kernel_rfl
def c_r1_Check:CS:=⟨43,26,⟨[.one (.d tI),.one (.d tW),.one (.d tI)],[]⟩,[.one (.d tI)],true,[]⟩
def h_r1_Check:Hi:=⟨[],[],[9,15,18,22,31,34,42],[],[]⟩
theorem f_26:Fn Q 26 f26 (codeOf f26):=by constructor <;> kernel_rfl
def r1_Check (N:Nat) (x0:Int) (x1:Int) (x2:Int):Option Rs :=
 bi (decide (x0≥1)) (
  gf (decide (x0 = 0)) <|
  bi ((Int.tmod (w.i64 x1) x0) != 0) (
   some (0,gI.dv 1 [])) <|
  bi (decide (x0 > 0)) (
   bi (decide (x2 < x0)) (
    some (0,gI.dv 2 [])) <|
   bi (decide ((w.i64 x1) > (w.i64 (x2 - x0)))) (
    some (0,gI.dv 2 [])) <|
   bi (decide (x0≤0)) (
    bi (decide (x2 < (w.i64 ((w.i64 x1)+x0)))) (
     some (0,gI.dv 2 [])) <|
    some (0,gI.dv 0 [])) <|
   some (0,gI.dv 0 [])) <|
  bi (decide (x0≤0)) (
   bi (decide (x2 < (w.i64 ((w.i64 x1)+x0)))) (
    some (0,gI.dv 2 [])) <|
   some (0,gI.dv 0 [])) <|
  some (0,gI.dv 0 [])) <|
 bi (decide (x0 > 0)) (
  bi (decide (x2 < x0)) (
   some (0,gI.dv 2 [])) <|
  bi (decide ((w.i64 x1) > (w.i64 (x2 - x0)))) (
   some (0,gI.dv 2 [])) <|
  bi (decide (x0≤0)) (
   bi (decide (x2 < (w.i64 ((w.i64 x1)+x0)))) (
    some (0,gI.dv 2 [])) <|
   some (0,gI.dv 0 [])) <|
  some (0,gI.dv 0 [])) <|
 bi (decide (x0≤0)) (
  bi (decide (x2 < (w.i64 ((w.i64 x1)+x0)))) (
   some (0,gI.dv 2 [])) <|
  some (0,gI.dv 0 [])) <|
 some (0,gI.dv 0 [])
def X_r1_Check (N:Nat):CE:=(c_r1_Check,mkF [pI,pW,pI] [pI] (r1_Check N))
theorem Y_r1_Check (N:Nat):CEok Q (X_r1_Check N) :=
 fnG (hi:=h_r1_Check) (l:=[]) (t:=[]) ti_ok hmix trivial trivial f_26 (by kernel_rfl) (by kernel_rfl) trivial fun ys=>by kernel_rfl
def c_r1_one:CS:=⟨44,56,⟨[.one (.d tB)],[]⟩,[.one (.d tW)],true,[]⟩
def h_r1_one:Hi:=⟨[],[],[3],[],[]⟩
theorem f_56:Fn Q 56 f56 (codeOf f56):=by constructor <;> kernel_rfl
def r1_one (N:Nat) (x0:Bool):Option Rs :=
 bi x0 (
  some (0,gW.dv 1 [])) <|
 some (0,gW.dv 0 [])
def X_r1_one (N:Nat):CE:=(c_r1_one,mkF [pB] [pW] (r1_one N))
theorem Y_r1_one (N:Nat):CEok Q (X_r1_one N) :=
 fnG (hi:=h_r1_one) (l:=[]) (t:=[]) ti_ok hmix trivial trivial f_56 (by kernel_rfl) (by kernel_rfl) trivial fun ys=>by kernel_rfl
def c_r1_div:CS:=⟨45,57,⟨[.one (.d tI),.one (.d tI)],[]⟩,[.one (.d tI),.one (.d tI)],false,[]⟩
def h_r1_div:Hi:=⟨[],[],[],[],[]⟩
theorem f_57:Fn Q 57 f57 (codeOf f57):=by constructor <;> kernel_rfl
def r1_div (N:Nat) (x0:Int) (x1:Int):Option Rs :=
 gf (decide (x1 = 0)) <|
 gf (decide (x1 = 0)) <|
 some (0,gI.dv (w.i64 (Int.tdiv x0 x1)) (gI.dv (Int.tmod x0 x1) []))
def X_r1_div (N:Nat):CE:=(c_r1_div,mkF [pI,pI] [pI,pI] (r1_div N))
theorem Y_r1_div (N:Nat):CEok Q (X_r1_div N) :=
 fnG (hi:=h_r1_div) (l:=[]) (t:=[]) ti_ok hmix trivial trivial f_57 (by kernel_rfl) (by kernel_rfl) trivial fun ys=>by kernel_rfl
def c_r1_Do:CS:=⟨46,28,⟨[.agg [.d tI,.d tI,.d tI,.d tI,.d tI],.one (.d tW),.one (.d tW)],[]⟩,[.one (.d tW),.one (.d tB)],false,[]⟩
def h_r1_Do:Hi:=⟨[((1,2),c_r1_Form),((2,1),c_r1_RightIns),((9,1),c_r1_Int),((10,1),c_r1_Int),((29,3),c_r1_one),((31,3),c_r1_one),((40,2),c_r1_div)],[],[21,25,28,32,48,53,58,63,68,73,79,85,92,98,104,110,117,124,132,136,140],[],[]⟩
theorem f_28:Fn Q 28 f28 (codeOf f28):=by constructor <;> kernel_rfl
def r1_Do (N:Nat) (x0:api_Ins) (x1:Int) (x2:Int):Option Rs :=
 on1 (r1_Form N x0.1)<|gg [pI]<|fun (x3:Int) =>
 on1 (r1_RightIns N x0)<|gg [pB]<|fun (x4:Bool) =>
 bi (!x4) (
  some (0,gW.dv 0 (gB.dv true []))) <|
 bi (decide (x3 < 1)) (
  some (0,gW.dv 0 (gB.dv true []))) <|
 bi (decide (x3 > 3)) (
  some (0,gW.dv 0 (gB.dv true []))) <|
 bi (x3 == 2) (
  gd (idx (w.i64 (x0.1 - 17)) (List.length [(1:Int),3,4,5,9,6,7,8])) <|
  on1 (r1_Int N x1)<|gg [pI]<|fun (x5:Int) =>
  on1 (r1_Int N (w.u32 x0.2.2.2.2.1))<|gg [pI]<|fun (x6:Int) =>
  bi ((List.getD [(1:Int),3,4,5,9,6,7,8] (Int.toNat (w.i64 (x0.1 - 17))) 0) == 1) (
   some (0,gW.dv (w.u32 (x1+(w.u32 x0.2.2.2.2.1))) (gB.dv true []))) <|
  bi ((List.getD [(1:Int),3,4,5,9,6,7,8] (Int.toNat (w.i64 (x0.1 - 17))) 0) == 2) (
   some (0,gW.dv (w.u32 (x1 - (w.u32 x0.2.2.2.2.1))) (gB.dv true []))) <|
  bi ((List.getD [(1:Int),3,4,5,9,6,7,8] (Int.toNat (w.i64 (x0.1 - 17))) 0) == 3) (
   some (0,gW.dv (bitAnd .u32 x1 (w.u32 x0.2.2.2.2.1)) (gB.dv true []))) <|
  bi ((List.getD [(1:Int),3,4,5,9,6,7,8] (Int.toNat (w.i64 (x0.1 - 17))) 0) == 4) (
   some (0,gW.dv (bitOr .u32 x1 (w.u32 x0.2.2.2.2.1)) (gB.dv true []))) <|
  bi ((List.getD [(1:Int),3,4,5,9,6,7,8] (Int.toNat (w.i64 (x0.1 - 17))) 0) == 5) (
   some (0,gW.dv (bitXor .u32 x1 (w.u32 x0.2.2.2.2.1)) (gB.dv true []))) <|
  bi ((List.getD [(1:Int),3,4,5,9,6,7,8] (Int.toNat (w.i64 (x0.1 - 17))) 0) == 6) (
   gf (decide ((bitAnd .u32 (w.u32 x0.2.2.2.2.1) 31) < 0)) <|
   some (0,gW.dv (shl .u32 x1 (bitAnd .u32 (w.u32 x0.2.2.2.2.1) 31)) (gB.dv true []))) <|
  bi ((List.getD [(1:Int),3,4,5,9,6,7,8] (Int.toNat (w.i64 (x0.1 - 17))) 0) == 7) (
   gf (decide ((bitAnd .u32 (w.u32 x0.2.2.2.2.1) 31) < 0)) <|
   some (0,gW.dv (shr .u32 x1 (bitAnd .u32 (w.u32 x0.2.2.2.2.1) 31)) (gB.dv true []))) <|
  bi ((List.getD [(1:Int),3,4,5,9,6,7,8] (Int.toNat (w.i64 (x0.1 - 17))) 0) == 8) (
   gf (decide ((bitAnd .u32 (w.u32 x0.2.2.2.2.1) 31) < 0)) <|
   some (0,gW.dv (w.u32 (shr .i64 x5 (bitAnd .u32 (w.u32 x0.2.2.2.2.1) 31))) (gB.dv true []))) <|
  bi ((List.getD [(1:Int),3,4,5,9,6,7,8] (Int.toNat (w.i64 (x0.1 - 17))) 0) == 9) (
   on1 (r1_one N (decide (x5 < x6)))<|gg [pW]<|fun (x7:Int) =>
   some (0,gW.dv x7 (gB.dv true []))) <|
  bi ((List.getD [(1:Int),3,4,5,9,6,7,8] (Int.toNat (w.i64 (x0.1 - 17))) 0) == 10) (
   on1 (r1_one N (decide (x1 < (w.u32 x0.2.2.2.2.1))))<|gg [pW]<|fun (x8:Int) =>
   some (0,gW.dv x8 (gB.dv true []))) <|
  bi ((List.getD [(1:Int),3,4,5,9,6,7,8] (Int.toNat (w.i64 (x0.1 - 17))) 0) == 11) (
   some (0,gW.dv (w.u32 (w.i64 (x5*x6))) (gB.dv true []))) <|
  bi ((List.getD [(1:Int),3,4,5,9,6,7,8] (Int.toNat (w.i64 (x0.1 - 17))) 0) == 12) (
   gf (decide ((32:Int) < (0:Int))) <|
   some (0,gW.dv (w.u32 (shr .i64 (w.i64 (x5*x6)) 32)) (gB.dv true []))) <|
  bi ((List.getD [(1:Int),3,4,5,9,6,7,8] (Int.toNat (w.i64 (x0.1 - 17))) 0) == 25) (
   gf (decide ((18:Int) < (0:Int))) <|
   some (0,gW.dv (shl .u32 (w.u32 x0.2.2.2.2.1) 18) (gB.dv true []))) <|
  bi ((w.u32 x0.2.2.2.2.1) == 0) (
   some (0,gW.dv 0 (gB.dv false []))) <|
  on1 (r1_div N x5 x6)<|gg [pI,pI]<|fun (x9:Int) (x10:Int) =>
  bi ((List.getD [(1:Int),3,4,5,9,6,7,8] (Int.toNat (w.i64 (x0.1 - 17))) 0) == 13) (
   some (0,gW.dv (w.u32 x9) (gB.dv true []))) <|
  bi ((List.getD [(1:Int),3,4,5,9,6,7,8] (Int.toNat (w.i64 (x0.1 - 17))) 0) == 15) (
   some (0,gW.dv (w.u32 x10) (gB.dv true []))) <|
  bi ((List.getD [(1:Int),3,4,5,9,6,7,8] (Int.toNat (w.i64 (x0.1 - 17))) 0) == 14) (
   gf (decide ((w.u32 x0.2.2.2.2.1) = 0)) <|
   some (0,gW.dv (w.u32 (Int.tdiv x1 (w.u32 x0.2.2.2.2.1))) (gB.dv true []))) <|
  gf (decide ((w.u32 x0.2.2.2.2.1) = 0)) <|
  some (0,gW.dv (Int.tmod x1 (w.u32 x0.2.2.2.2.1)) (gB.dv true []))) <|
 on1 (r1_Int N x1)<|gg [pI]<|fun (x11:Int) =>
 on1 (r1_Int N x2)<|gg [pI]<|fun (x12:Int) =>
 bi (x0.1 == 1) (
  some (0,gW.dv (w.u32 (x1+x2)) (gB.dv true []))) <|
 bi (x0.1 == 2) (
  some (0,gW.dv (w.u32 (x1 - x2)) (gB.dv true []))) <|
 bi (x0.1 == 3) (
  some (0,gW.dv (bitAnd .u32 x1 x2) (gB.dv true []))) <|
 bi (x0.1 == 4) (
  some (0,gW.dv (bitOr .u32 x1 x2) (gB.dv true []))) <|
 bi (x0.1 == 5) (
  some (0,gW.dv (bitXor .u32 x1 x2) (gB.dv true []))) <|
 bi (x0.1 == 6) (
  gf (decide ((bitAnd .u32 x2 31) < 0)) <|
  some (0,gW.dv (shl .u32 x1 (bitAnd .u32 x2 31)) (gB.dv true []))) <|
 bi (x0.1 == 7) (
  gf (decide ((bitAnd .u32 x2 31) < 0)) <|
  some (0,gW.dv (shr .u32 x1 (bitAnd .u32 x2 31)) (gB.dv true []))) <|
 bi (x0.1 == 8) (
  gf (decide ((bitAnd .u32 x2 31) < 0)) <|
  some (0,gW.dv (w.u32 (shr .i64 x11 (bitAnd .u32 x2 31))) (gB.dv true []))) <|
 bi (x0.1 == 9) (
  on1 (r1_one N (decide (x11 < x12)))<|gg [pW]<|fun (x13:Int) =>
  some (0,gW.dv x13 (gB.dv true []))) <|
 bi (x0.1 == 10) (
  on1 (r1_one N (decide (x1 < x2)))<|gg [pW]<|fun (x14:Int) =>
  some (0,gW.dv x14 (gB.dv true []))) <|
 bi (x0.1 == 11) (
  some (0,gW.dv (w.u32 (w.i64 (x11*x12))) (gB.dv true []))) <|
 bi (x0.1 == 12) (
  gf (decide ((32:Int) < (0:Int))) <|
  some (0,gW.dv (w.u32 (shr .i64 (w.i64 (x11*x12)) 32)) (gB.dv true []))) <|
 bi (x0.1 == 25) (
  gf (decide ((18:Int) < (0:Int))) <|
  some (0,gW.dv (shl .u32 (w.u32 x0.2.2.2.2.1) 18) (gB.dv true []))) <|
 bi (x2 == 0) (
  some (0,gW.dv 0 (gB.dv false []))) <|
 on1 (r1_div N x11 x12)<|gg [pI,pI]<|fun (x15:Int) (x16:Int) =>
 bi (x0.1 == 13) (
  some (0,gW.dv (w.u32 x15) (gB.dv true []))) <|
 bi (x0.1 == 15) (
  some (0,gW.dv (w.u32 x16) (gB.dv true []))) <|
 bi (x0.1 == 14) (
  gf (decide (x2 = 0)) <|
  some (0,gW.dv (w.u32 (Int.tdiv x1 x2)) (gB.dv true []))) <|
 gf (decide (x2 = 0)) <|
 some (0,gW.dv (Int.tmod x1 x2) (gB.dv true []))
def X_r1_Do (N:Nat):CE:=(c_r1_Do,mkF [p_api_Ins,pW,pW] [pW,pB] (r1_Do N))
theorem Y_r1_Do (N:Nat):CEok Q (X_r1_Do N) :=
 fnG (hi:=h_r1_Do) (l:=[X_r1_Form N,X_r1_RightIns N,X_r1_Int N,X_r1_one N,X_r1_div N]) (t:=[]) ti_ok hmix ⟨Y_r1_Form N,Y_r1_RightIns N,Y_r1_Int N,Y_r1_one N,Y_r1_div N,trivial⟩ ⟨rfl,rfl,rfl,rfl,rfl,rfl,rfl,trivial⟩ f_28 (by kernel_rfl) (by kernel_rfl) trivial fun ys=>by kernel_rfl
def c_r1_set_Regs:CS:=⟨47,29,⟨[.one (.p 0 5 [16]),.one (.d tI),.one (.d tW)],[q_3]⟩,[],false,[q_3]⟩
def h_r1_set_Regs:Hi:=⟨[],[],[7],[],[]⟩
theorem f_29:Fn Q 29 f29 (codeOf f29):=by constructor <;> kernel_rfl
def r1_set_Regs (N:Nat) (x0:Int) (x1:Int) (x2:api_Result):Option Rs :=
 bi (x0 != 0) (
  gd (idx x0 16) <|
  some (0,g_api_Result.dv ({ x2 with Regs:=(List.set x2.Regs x0.toNat x1) }:api_Result) [])) <|
 some (0,g_api_Result.dv x2 [])
def X_r1_set_Regs (N:Nat):CE:=(c_r1_set_Regs,mkF [pI,pW,p_api_Result] [p_api_Result] (r1_set_Regs N))
theorem Y_r1_set_Regs (N:Nat):CEok Q (X_r1_set_Regs N) :=
 fnG (hi:=h_r1_set_Regs) (l:=[]) (t:=[]) ti_ok hmix trivial trivial f_29 (by kernel_rfl) (by kernel_rfl) trivial fun ys=>by kernel_rfl
def c_r1_Extend:CS:=⟨48,58,⟨[.one (.d tI),.one (.d tW)],[]⟩,[.one (.d tW)],true,[]⟩
def h_r1_Extend:Hi:=⟨[((3,2),c_r1_Int),((5,2),c_r1_Int)],[],[6,13],[],[]⟩
theorem f_58:Fn Q 58 f58 (codeOf f58):=by constructor <;> kernel_rfl
def r1_Extend (N:Nat) (x0:Int) (x1:Int):Option Rs :=
 bi (x0 == 27) (
  gf (decide ((16:Int) < (0:Int))) <|
  on1 (r1_Int N (shl .u32 x1 16))<|gg [pI]<|fun (x2:Int) =>
  gf (decide ((16:Int) < (0:Int))) <|
  some (0,gW.dv (w.u32 (shr .i64 x2 16)) [])) <|
 bi (x0 == 29) (
  gf (decide ((24:Int) < (0:Int))) <|
  on1 (r1_Int N (shl .u32 x1 24))<|gg [pI]<|fun (x3:Int) =>
  gf (decide ((24:Int) < (0:Int))) <|
  some (0,gW.dv (w.u32 (shr .i64 x3 24)) [])) <|
 some (0,gW.dv x1 [])
def X_r1_Extend (N:Nat):CE:=(c_r1_Extend,mkF [pI,pW] [pW] (r1_Extend N))
theorem Y_r1_Extend (N:Nat):CEok Q (X_r1_Extend N) :=
 fnG (hi:=h_r1_Extend) (l:=[X_r1_Int N]) (t:=[]) ti_ok hmix ⟨Y_r1_Int N,trivial⟩ ⟨rfl,rfl,trivial⟩ f_58 (by kernel_rfl) (by kernel_rfl) trivial fun ys=>by kernel_rfl
def c_r1_Load:CS:=⟨49,30,⟨[.one (.d (.sl tU)),.one (.d tI),.one (.d tW)],[]⟩,[.one (.d tW)],true,[]⟩
def s_r1_Load_0:LS:=⟨⟨[.one (.d (.sl tU)),.one (.d tI),.one (.d tW),.no,.no,.no,.no,.one (.d tI),.one (.d tW),.one (.d tI)]++nos 35,[]⟩,[(1,⟨[.no,.one (.d tI)]++nos 6++[.one (.d tW)]++nos 36,[]⟩)]⟩
def h_r1_Load:Hi:=⟨[((1,1),c_r1_Size),((2,1),c_r1_Form),((2,8),c_r1_Check),((9,2),c_r1_Extend)],[(0,s_r1_Load_0)],[15,22,25],[],[]⟩
theorem f_30:Fn Q 30 f30 (codeOf f30):=by constructor <;> kernel_rfl
def T_r1_Load (N:Nat):List CE:=[X_r1_Size N,X_r1_Form N,X_r1_Check N,X_r1_Extend N]
theorem TT_r1_Load (N:Nat):AllP (CEok Q) (T_r1_Load N):=⟨Y_r1_Size N,Y_r1_Form N,Y_r1_Check N,Y_r1_Extend N,trivial⟩
theorem A_r1_Load (N:Nat):AllP (fun e=>lookC (T_r1_Load N) e.2.id = some e.2) h_r1_Load.cs:=⟨rfl,rfl,rfl,rfl,trivial⟩
def r1_Load_r0 (N:Nat) (again:Fn' (Option Rs) [pD (.sl tU),pI,pW,pI,pW,pI]) (x0:List Int) (x1:Int) (x2:Int) (x3:Int) (x4:Int) (x5:Int):Option Rs :=
 bi (decide (x5 < x3)) (
  gd (idx (w.i64 ((w.i64 x2)+x5)) (List.length x0)) <|
  gf (decide ((w.u64 (w.i64 (8*x5))) < 0)) <|
  again x0 x1 x2 x3 (bitOr .u32 x4 (shl .u32 (w.u32 (List.getD x0 (Int.toNat (w.i64 ((w.i64 x2)+x5))) 0)) (w.u64 (w.i64 (8*x5))))) (w.i64 (x5+1))) <|
 some (1,gI.dv x1 (gW.dv x4 []))
def r1_Load_l0 (N:Nat):Nat→Fn' (Option Rs) [pD (.sl tU),pI,pW,pI,pW,pI]:=lpG (r1_Load_r0 N)
def L_r1_Load_0 (N:Nat):LE:=(0,mkM [pD (.sl tU),pI,pW,pI,pW,pI] [(1,[pI,pW])] (r1_Load_l0 N N))
theorem K_r1_Load_0 (N:Nat):LEok Q h_r1_Load (bodOf f30) f30.ntmps 0 (L_r1_Load_0 N) :=
 loopG (hi:=h_r1_Load) (l:=T_r1_Load N) (t:=[]) (r:=r1_Load_r0 N) ti_ok hmix (TT_r1_Load N) (A_r1_Load N) f_30 trivial (ls:=s_r1_Load_0) (body:=bodyAt f30 0) (by kernel_rfl) (by kernel_rfl) fun A ys=>by kernel_rfl
def r1_Load (N:Nat) (x0:List Int) (x1:Int) (x2:Int):Option Rs :=
 on1 (r1_Size N x1)<|gg [pI]<|fun (x3:Int) =>
 on1 (r1_Form N x1)<|gg [pI]<|fun (x4:Int) =>
 bi (x4 != 4) (
  some (0,gW.dv 0 [])) <|
 on1 (r1_Check N x3 x2 (len x0))<|gg [pI]<|fun (x5:Int) =>
 bi (x5 != 0) (
  some (0,gW.dv 0 [])) <|
 onA 1 (r1_Load_l0 N N x0 x1 x2 x3 0 0)<|gg [pI,pW]<|fun (x6:Int) (x7:Int) =>
 on1 (r1_Extend N x6 x7)<|gg [pW]<|fun (x8:Int) =>
 some (0,gW.dv x8 [])
def X_r1_Load (N:Nat):CE:=(c_r1_Load,mkF [pD (.sl tU),pI,pW] [pW] (r1_Load N))
theorem Y_r1_Load (N:Nat):CEok Q (X_r1_Load N) :=
 fnG (hi:=h_r1_Load) (l:=T_r1_Load N) (t:=[L_r1_Load_0 N]) ti_ok hmix (TT_r1_Load N) (A_r1_Load N) f_30 (by kernel_rfl) (by kernel_rfl) ⟨K_r1_Load_0 N,trivial⟩ fun ys=>by kernel_rfl
def c_r1_Mask:CS:=⟨50,31,⟨[.one (.d tW),.one (.d tI)],[]⟩,[.one (.d tW)],true,[]⟩
def h_r1_Mask:Hi:=⟨[],[],[6,10,14],[],[]⟩
theorem f_31:Fn Q 31 f31 (codeOf f31):=by constructor <;> kernel_rfl
def r1_Mask (N:Nat) (x0:Int) (x1:Int):Option Rs :=
 bi (x1 == 1) (
  some (0,gW.dv (bitAnd .u32 x0 255) [])) <|
 bi (x1 == 2) (
  some (0,gW.dv (bitAnd .u32 x0 65535) [])) <|
 bi (x1 == 4) (
  some (0,gW.dv x0 [])) <|
 some (0,gW.dv 0 [])
def X_r1_Mask (N:Nat):CE:=(c_r1_Mask,mkF [pW,pI] [pW] (r1_Mask N))
theorem Y_r1_Mask (N:Nat):CEok Q (X_r1_Mask N) :=
 fnG (hi:=h_r1_Mask) (l:=[]) (t:=[]) ti_ok hmix trivial trivial f_31 (by kernel_rfl) (by kernel_rfl) trivial fun ys=>by kernel_rfl
def c_r1_Store:CS:=⟨51,32,⟨[.one (.d (.sl tU)),.agg [.d tI,.d tI,.d tW]],[]⟩,[.one (.o tU)],true,[]⟩
def s_r1_Store_0:LS:=⟨⟨[.no,.no,.no,.one (.p 0 0 [1,1,1]),.no,.one (.o tU),.one (.d tI)]++nos 57,[[.d tI,.d tI,.d tW]]⟩,[(1,⟨[.no,.no,.no,.no,.no,.one (.o tU)]++nos 58,[]⟩)]⟩
def h_r1_Store:Hi:=⟨[((2,31),c_r1_Check)],[(0,s_r1_Store_0)],[12,17,22,27,32,42,47],[],[]⟩
theorem f_32:Fn Q 32 f32 (codeOf f32):=by constructor <;> kernel_rfl
def T_r1_Store (N:Nat):List CE:=[X_r1_Check N]
theorem TT_r1_Store (N:Nat):AllP (CEok Q) (T_r1_Store N):=⟨Y_r1_Check N,trivial⟩
theorem A_r1_Store (N:Nat):AllP (fun e=>lookC (T_r1_Store N) e.2.id = some e.2) h_r1_Store.cs:=⟨rfl,trivial⟩
def r1_Store_r0 (N:Nat) (again:Fn' (Option Rs) [pD (.sl tU),pI,p_api_Write]) (x0:List Int) (x1:Int) (x2:api_Write):Option Rs :=
 bi (decide (x1 < x2.2.1)) (
  gf (decide ((w.u64 (w.i64 (8*x1))) < 0)) <|
  gd (idx (w.i64 (x2.1+x1)) (List.length x0)) <|
  again (List.set x0 (Int.toNat (w.i64 (x2.1+x1))) (w.u8 (shr .u32 x2.2.2.1 (w.u64 (w.i64 (8*x1)))))) (w.i64 (x1+1)) x2) <|
 some (1,(gD (.sl tU)).dv x0 [])
def r1_Store_l0 (N:Nat):Nat→Fn' (Option Rs) [pD (.sl tU),pI,p_api_Write]:=lpG (r1_Store_r0 N)
def L_r1_Store_0 (N:Nat):LE:=(0,mkM [pD (.sl tU),pI,p_api_Write] [(1,[pD (.sl tU)])] (r1_Store_l0 N N))
theorem K_r1_Store_0 (N:Nat):LEok Q h_r1_Store (bodOf f32) f32.ntmps 0 (L_r1_Store_0 N) :=
 loopG (hi:=h_r1_Store) (l:=T_r1_Store N) (t:=[]) (r:=r1_Store_r0 N) ti_ok hmix (TT_r1_Store N) (A_r1_Store N) f_32 trivial (ls:=s_r1_Store_0) (body:=bodyAt f32 0) (by kernel_rfl) (by kernel_rfl) fun A ys=>by kernel_rfl
def r1_Store (N:Nat) (x0:List Int) (x1:api_Write):Option Rs :=
 gd (rm ([]:List Int) x0 1) <|
 bi (x1.2.1 != 1) (
  bi (x1.2.1 != 2) (
   bi (x1.2.1 != 4) (
    some (0,(gD (.sl tU)).dv (([]:List Int)++x0) [])) <|
   bi (decide (x1.1 < 0)) (
    some (0,(gD (.sl tU)).dv (([]:List Int)++x0) [])) <|
   bi (decide (x1.1 > 4294967295)) (
    some (0,(gD (.sl tU)).dv (([]:List Int)++x0) [])) <|
   on1 (r1_Check N x1.2.1 (w.u32 x1.1) (len x0))<|gg [pI]<|fun (x2:Int) =>
   bi (x2 != 0) (
    some (0,(gD (.sl tU)).dv (([]:List Int)++x0) [])) <|
   onA 1 (r1_Store_l0 N N (([]:List Int)++x0) 0 x1)<|gg [pD (.sl tU)]<|fun (x3:List Int) =>
   some (0,(gD (.sl tU)).dv x3 [])) <|
  bi (decide (x1.1 < 0)) (
   some (0,(gD (.sl tU)).dv (([]:List Int)++x0) [])) <|
  bi (decide (x1.1 > 4294967295)) (
   some (0,(gD (.sl tU)).dv (([]:List Int)++x0) [])) <|
  on1 (r1_Check N x1.2.1 (w.u32 x1.1) (len x0))<|gg [pI]<|fun (x4:Int) =>
  bi (x4 != 0) (
   some (0,(gD (.sl tU)).dv (([]:List Int)++x0) [])) <|
  onA 1 (r1_Store_l0 N N (([]:List Int)++x0) 0 x1)<|gg [pD (.sl tU)]<|fun (x5:List Int) =>
  some (0,(gD (.sl tU)).dv x5 [])) <|
 bi (decide (x1.1 < 0)) (
  some (0,(gD (.sl tU)).dv (([]:List Int)++x0) [])) <|
 bi (decide (x1.1 > 4294967295)) (
  some (0,(gD (.sl tU)).dv (([]:List Int)++x0) [])) <|
 on1 (r1_Check N x1.2.1 (w.u32 x1.1) (len x0))<|gg [pI]<|fun (x6:Int) =>
 bi (x6 != 0) (
  some (0,(gD (.sl tU)).dv (([]:List Int)++x0) [])) <|
 onA 1 (r1_Store_l0 N N (([]:List Int)++x0) 0 x1)<|gg [pD (.sl tU)]<|fun (x7:List Int) =>
 some (0,(gD (.sl tU)).dv x7 [])
def X_r1_Store (N:Nat):CE:=(c_r1_Store,mkF [pD (.sl tU),p_api_Write] [pD (.sl tU)] (r1_Store N))
theorem Y_r1_Store (N:Nat):CEok Q (X_r1_Store N) :=
 fnG (hi:=h_r1_Store) (l:=T_r1_Store N) (t:=[L_r1_Store_0 N]) ti_ok hmix (TT_r1_Store N) (A_r1_Store N) f_32 (by kernel_rfl) (by kernel_rfl) ⟨K_r1_Store_0 N,trivial⟩ fun ys=>by kernel_rfl
def c_r1_Step:CS:=⟨52,10,⟨[.agg [.d (.sl t_api_Ins),.d tI,.d (.sl tU)],.agg q_2,.one (.d tI)],[]⟩,[.agg q_2,.one (.d tI)],false,[]⟩
def h_r1_Step:Hi:=⟨[((1,1),c_r1_Copy),((2,5),c_r1_RightProgram),((5,2),c_r1_trap),((7,4),c_r1_value),((8,4),c_r1_value),((11,2),c_r1_Form),((13,2),c_r1_Size),((13,6),c_r1_Check),((15,3),c_r1_trap),((20,3),c_r1_Do),((22,2),c_r1_trap),((23,4),c_r1_set_Regs),((25,8),c_r1_Load),((25,9),c_r1_set_Regs),((27,4),c_r1_Size),((27,8),c_r1_Size),((27,9),c_r1_Mask),((28,3),c_r1_Store),((31,4),c_r1_Taken)],[],[23,28,35,40,46,79,82,91,99,111,122,134,158,164,169,175,184],[],[]⟩
theorem f_10:Fn Q 10 f10 (codeOf f10):=by constructor <;> kernel_rfl
def r1_Step (N:Nat) (x0:api_Program) (x1:api_Result) (x2:Int):Option Rs :=
 on1 (r1_Copy N x1)<|gg [p_api_Result]<|fun (x3:api_Result) =>
 bi (x3.End != 0) (
  some (0,g_api_Result.dv x3 (gI.dv x2 []))) <|
 on1 (r1_RightProgram N x0)<|gg [pB]<|fun (x4:Bool) =>
 bi (!x4) (
  some (0,g_api_Result.dv x3 (gI.dv x2 []))) <|
 bi ((len x3.Mem) != x0.Size) (
  some (0,g_api_Result.dv x3 (gI.dv x2 []))) <|
 bi (decide (x2 < 0)) (
  on1 (r1_trap N x3 4 x2)<|gg [p_api_Result,pI]<|fun (x5:api_Result) (x6:Int) =>
  some (0,g_api_Result.dv x5 (gI.dv x6 []))) <|
 bi (decide (x2≥(len x0.Code))) (
  on1 (r1_trap N x3 4 x2)<|gg [p_api_Result,pI]<|fun (x7:api_Result) (x8:Int) =>
  some (0,g_api_Result.dv x7 (gI.dv x8 []))) <|
 gd (idx x2 (List.length x0.Code)) <|
 on1 (r1_value N x3.Regs ((List.getD x0.Code x2.toNat api_Ins.z).2.2.1))<|gg [pW]<|fun (x9:Int) =>
 on1 (r1_value N x3.Regs ((List.getD x0.Code x2.toNat api_Ins.z).2.2.2.1))<|gg [pW]<|fun (x10:Int) =>
 on1 (r1_Form N ((List.getD x0.Code x2.toNat api_Ins.z).1))<|gg [pI]<|fun (x11:Int) =>
 bi (x11 == 4) (
  on1 (r1_Size N ((List.getD x0.Code x2.toNat api_Ins.z).1))<|gg [pI]<|fun (x12:Int) =>
  on1 (r1_Check N x12 (w.u32 (x9+(w.u32 (List.getD x0.Code x2.toNat api_Ins.z).2.2.2.2.1))) x0.Size)<|gg [pI]<|fun (x13:Int) =>
  bi (x13 != 0) (
   on1 (r1_trap N x3 x13 x2)<|gg [p_api_Result,pI]<|fun (x14:api_Result) (x15:Int) =>
   some (0,g_api_Result.dv x14 (gI.dv x15 []))) <|
  bi (x11 == 1) (
   on1 (r1_Do N (List.getD x0.Code x2.toNat api_Ins.z) x9 x10)<|gg [pW,pB]<|fun (x16:Int) (x17:Bool) =>
   bi (!x17) (
    on1 (r1_trap N x3 3 x2)<|gg [p_api_Result,pI]<|fun (x18:api_Result) (x19:Int) =>
    some (0,g_api_Result.dv x18 (gI.dv x19 []))) <|
   on1 (r1_set_Regs N ((List.getD x0.Code x2.toNat api_Ins.z).2.1) x16 x3)<|gg [p_api_Result]<|fun (x20:api_Result) =>
   bi (x20.End == 1) (
    some (0,g_api_Result.dv ({ x20 with Steps:=(w.i64 (x20.Steps+1)) }:api_Result) (gI.dv x2 []))) <|
   some (0,g_api_Result.dv ({ x20 with Steps:=(w.i64 (x20.Steps+1)) }:api_Result) (gI.dv (w.i64 (x2+1)) []))) <|
  bi (x11 == 2) (
   on1 (r1_Do N (List.getD x0.Code x2.toNat api_Ins.z) x9 x10)<|gg [pW,pB]<|fun (x21:Int) (x22:Bool) =>
   bi (!x22) (
    on1 (r1_trap N x3 3 x2)<|gg [p_api_Result,pI]<|fun (x23:api_Result) (x24:Int) =>
    some (0,g_api_Result.dv x23 (gI.dv x24 []))) <|
   on1 (r1_set_Regs N ((List.getD x0.Code x2.toNat api_Ins.z).2.1) x21 x3)<|gg [p_api_Result]<|fun (x25:api_Result) =>
   bi (x25.End == 1) (
    some (0,g_api_Result.dv ({ x25 with Steps:=(w.i64 (x25.Steps+1)) }:api_Result) (gI.dv x2 []))) <|
   some (0,g_api_Result.dv ({ x25 with Steps:=(w.i64 (x25.Steps+1)) }:api_Result) (gI.dv (w.i64 (x2+1)) []))) <|
  bi (x11 == 3) (
   on1 (r1_Do N (List.getD x0.Code x2.toNat api_Ins.z) x9 x10)<|gg [pW,pB]<|fun (x26:Int) (x27:Bool) =>
   bi (!x27) (
    on1 (r1_trap N x3 3 x2)<|gg [p_api_Result,pI]<|fun (x28:api_Result) (x29:Int) =>
    some (0,g_api_Result.dv x28 (gI.dv x29 []))) <|
   on1 (r1_set_Regs N ((List.getD x0.Code x2.toNat api_Ins.z).2.1) x26 x3)<|gg [p_api_Result]<|fun (x30:api_Result) =>
   bi (x30.End == 1) (
    some (0,g_api_Result.dv ({ x30 with Steps:=(w.i64 (x30.Steps+1)) }:api_Result) (gI.dv x2 []))) <|
   some (0,g_api_Result.dv ({ x30 with Steps:=(w.i64 (x30.Steps+1)) }:api_Result) (gI.dv (w.i64 (x2+1)) []))) <|
  bi (x11 == 4) (
   on1 (r1_Load N x3.Mem ((List.getD x0.Code x2.toNat api_Ins.z).1) (w.u32 (x9+(w.u32 (List.getD x0.Code x2.toNat api_Ins.z).2.2.2.2.1))))<|gg [pW]<|fun (x31:Int) =>
   on1 (r1_set_Regs N ((List.getD x0.Code x2.toNat api_Ins.z).2.1) x31 x3)<|gg [p_api_Result]<|fun (x32:api_Result) =>
   bi (x32.End == 1) (
    some (0,g_api_Result.dv ({ x32 with Steps:=(w.i64 (x32.Steps+1)) }:api_Result) (gI.dv x2 []))) <|
   some (0,g_api_Result.dv ({ x32 with Steps:=(w.i64 (x32.Steps+1)) }:api_Result) (gI.dv (w.i64 (x2+1)) []))) <|
  bi (x11 == 5) (
   on1 (r1_Size N ((List.getD x0.Code x2.toNat api_Ins.z).1))<|gg [pI]<|fun (x33:Int) =>
   on1 (r1_Size N ((List.getD x0.Code x2.toNat api_Ins.z).1))<|gg [pI]<|fun (x34:Int) =>
   on1 (r1_Mask N x10 x34)<|gg [pW]<|fun (x35:Int) =>
   on1 (r1_Store N x3.Mem ((w.i64 (w.u32 (x9+(w.u32 (List.getD x0.Code x2.toNat api_Ins.z).2.2.2.2.1)))),(x33,(x35,()))))<|gg [pD (.sl tU)]<|fun (x36:List Int) =>
   gd (rm x3.Writes [((w.i64 (w.u32 (x9+(w.u32 (List.getD x0.Code x2.toNat api_Ins.z).2.2.2.2.1)))),(x33,(x35,())))] 24) <|
   bi (x3.End == 1) (
    some (0,g_api_Result.dv ({ x3 with Steps:=(w.i64 (x3.Steps+1)),Mem:=x36,Writes:=(x3.Writes++[((w.i64 (w.u32 (x9+(w.u32 (List.getD x0.Code x2.toNat api_Ins.z).2.2.2.2.1)))),(x33,(x35,())))]) }:api_Result) (gI.dv x2 []))) <|
   some (0,g_api_Result.dv ({ x3 with Steps:=(w.i64 (x3.Steps+1)),Mem:=x36,Writes:=(x3.Writes++[((w.i64 (w.u32 (x9+(w.u32 (List.getD x0.Code x2.toNat api_Ins.z).2.2.2.2.1)))),(x33,(x35,())))]) }:api_Result) (gI.dv (w.i64 (x2+1)) []))) <|
  bi (x11 == 6) (
   on1 (r1_Taken N ((List.getD x0.Code x2.toNat api_Ins.z).1) x9 x10)<|gg [pB]<|fun (x37:Bool) =>
   bi x37 (
    bi (x3.End == 1) (
     some (0,g_api_Result.dv ({ x3 with Steps:=(w.i64 (x3.Steps+1)) }:api_Result) (gI.dv x2 []))) <|
    some (0,g_api_Result.dv ({ x3 with Steps:=(w.i64 (x3.Steps+1)) }:api_Result) (gI.dv (w.i64 (x2+(List.getD x0.Code x2.toNat api_Ins.z).2.2.2.2.1)) []))) <|
   bi (x3.End == 1) (
    some (0,g_api_Result.dv ({ x3 with Steps:=(w.i64 (x3.Steps+1)) }:api_Result) (gI.dv x2 []))) <|
   some (0,g_api_Result.dv ({ x3 with Steps:=(w.i64 (x3.Steps+1)) }:api_Result) (gI.dv (w.i64 (x2+1)) []))) <|
  bi (x11 == 7) (
   bi (x3.End == 1) (
    some (0,g_api_Result.dv ({ x3 with Steps:=(w.i64 (x3.Steps+1)) }:api_Result) (gI.dv x2 []))) <|
   some (0,g_api_Result.dv ({ x3 with Steps:=(w.i64 (x3.Steps+1)) }:api_Result) (gI.dv (w.i64 (x2+(List.getD x0.Code x2.toNat api_Ins.z).2.2.2.2.1)) []))) <|
  bi (x11 == 8) (
   bi ((1:Int) == (1:Int)) (
    some (0,g_api_Result.dv ({ x3 with End:=1,Steps:=(w.i64 (x3.Steps+1)) }:api_Result) (gI.dv x2 []))) <|
   some (0,g_api_Result.dv ({ x3 with End:=1,Steps:=(w.i64 (x3.Steps+1)) }:api_Result) (gI.dv (w.i64 (x2+1)) []))) <|
  bi (x3.End == 1) (
   some (0,g_api_Result.dv ({ x3 with Steps:=(w.i64 (x3.Steps+1)) }:api_Result) (gI.dv x2 []))) <|
  some (0,g_api_Result.dv ({ x3 with Steps:=(w.i64 (x3.Steps+1)) }:api_Result) (gI.dv (w.i64 (x2+1)) []))) <|
 bi (x11 == 5) (
  on1 (r1_Size N ((List.getD x0.Code x2.toNat api_Ins.z).1))<|gg [pI]<|fun (x38:Int) =>
  on1 (r1_Check N x38 (w.u32 (x9+(w.u32 (List.getD x0.Code x2.toNat api_Ins.z).2.2.2.2.1))) x0.Size)<|gg [pI]<|fun (x39:Int) =>
  bi (x39 != 0) (
   on1 (r1_trap N x3 x39 x2)<|gg [p_api_Result,pI]<|fun (x40:api_Result) (x41:Int) =>
   some (0,g_api_Result.dv x40 (gI.dv x41 []))) <|
  bi (x11 == 1) (
   on1 (r1_Do N (List.getD x0.Code x2.toNat api_Ins.z) x9 x10)<|gg [pW,pB]<|fun (x42:Int) (x43:Bool) =>
   bi (!x43) (
    on1 (r1_trap N x3 3 x2)<|gg [p_api_Result,pI]<|fun (x44:api_Result) (x45:Int) =>
    some (0,g_api_Result.dv x44 (gI.dv x45 []))) <|
   on1 (r1_set_Regs N ((List.getD x0.Code x2.toNat api_Ins.z).2.1) x42 x3)<|gg [p_api_Result]<|fun (x46:api_Result) =>
   bi (x46.End == 1) (
    some (0,g_api_Result.dv ({ x46 with Steps:=(w.i64 (x46.Steps+1)) }:api_Result) (gI.dv x2 []))) <|
   some (0,g_api_Result.dv ({ x46 with Steps:=(w.i64 (x46.Steps+1)) }:api_Result) (gI.dv (w.i64 (x2+1)) []))) <|
  bi (x11 == 2) (
   on1 (r1_Do N (List.getD x0.Code x2.toNat api_Ins.z) x9 x10)<|gg [pW,pB]<|fun (x47:Int) (x48:Bool) =>
   bi (!x48) (
    on1 (r1_trap N x3 3 x2)<|gg [p_api_Result,pI]<|fun (x49:api_Result) (x50:Int) =>
    some (0,g_api_Result.dv x49 (gI.dv x50 []))) <|
   on1 (r1_set_Regs N ((List.getD x0.Code x2.toNat api_Ins.z).2.1) x47 x3)<|gg [p_api_Result]<|fun (x51:api_Result) =>
   bi (x51.End == 1) (
    some (0,g_api_Result.dv ({ x51 with Steps:=(w.i64 (x51.Steps+1)) }:api_Result) (gI.dv x2 []))) <|
   some (0,g_api_Result.dv ({ x51 with Steps:=(w.i64 (x51.Steps+1)) }:api_Result) (gI.dv (w.i64 (x2+1)) []))) <|
  bi (x11 == 3) (
   on1 (r1_Do N (List.getD x0.Code x2.toNat api_Ins.z) x9 x10)<|gg [pW,pB]<|fun (x52:Int) (x53:Bool) =>
   bi (!x53) (
    on1 (r1_trap N x3 3 x2)<|gg [p_api_Result,pI]<|fun (x54:api_Result) (x55:Int) =>
    some (0,g_api_Result.dv x54 (gI.dv x55 []))) <|
   on1 (r1_set_Regs N ((List.getD x0.Code x2.toNat api_Ins.z).2.1) x52 x3)<|gg [p_api_Result]<|fun (x56:api_Result) =>
   bi (x56.End == 1) (
    some (0,g_api_Result.dv ({ x56 with Steps:=(w.i64 (x56.Steps+1)) }:api_Result) (gI.dv x2 []))) <|
   some (0,g_api_Result.dv ({ x56 with Steps:=(w.i64 (x56.Steps+1)) }:api_Result) (gI.dv (w.i64 (x2+1)) []))) <|
  bi (x11 == 4) (
   on1 (r1_Load N x3.Mem ((List.getD x0.Code x2.toNat api_Ins.z).1) (w.u32 (x9+(w.u32 (List.getD x0.Code x2.toNat api_Ins.z).2.2.2.2.1))))<|gg [pW]<|fun (x57:Int) =>
   on1 (r1_set_Regs N ((List.getD x0.Code x2.toNat api_Ins.z).2.1) x57 x3)<|gg [p_api_Result]<|fun (x58:api_Result) =>
   bi (x58.End == 1) (
    some (0,g_api_Result.dv ({ x58 with Steps:=(w.i64 (x58.Steps+1)) }:api_Result) (gI.dv x2 []))) <|
   some (0,g_api_Result.dv ({ x58 with Steps:=(w.i64 (x58.Steps+1)) }:api_Result) (gI.dv (w.i64 (x2+1)) []))) <|
  bi (x11 == 5) (
   on1 (r1_Size N ((List.getD x0.Code x2.toNat api_Ins.z).1))<|gg [pI]<|fun (x59:Int) =>
   on1 (r1_Size N ((List.getD x0.Code x2.toNat api_Ins.z).1))<|gg [pI]<|fun (x60:Int) =>
   on1 (r1_Mask N x10 x60)<|gg [pW]<|fun (x61:Int) =>
   on1 (r1_Store N x3.Mem ((w.i64 (w.u32 (x9+(w.u32 (List.getD x0.Code x2.toNat api_Ins.z).2.2.2.2.1)))),(x59,(x61,()))))<|gg [pD (.sl tU)]<|fun (x62:List Int) =>
   gd (rm x3.Writes [((w.i64 (w.u32 (x9+(w.u32 (List.getD x0.Code x2.toNat api_Ins.z).2.2.2.2.1)))),(x59,(x61,())))] 24) <|
   bi (x3.End == 1) (
    some (0,g_api_Result.dv ({ x3 with Steps:=(w.i64 (x3.Steps+1)),Mem:=x62,Writes:=(x3.Writes++[((w.i64 (w.u32 (x9+(w.u32 (List.getD x0.Code x2.toNat api_Ins.z).2.2.2.2.1)))),(x59,(x61,())))]) }:api_Result) (gI.dv x2 []))) <|
   some (0,g_api_Result.dv ({ x3 with Steps:=(w.i64 (x3.Steps+1)),Mem:=x62,Writes:=(x3.Writes++[((w.i64 (w.u32 (x9+(w.u32 (List.getD x0.Code x2.toNat api_Ins.z).2.2.2.2.1)))),(x59,(x61,())))]) }:api_Result) (gI.dv (w.i64 (x2+1)) []))) <|
  bi (x11 == 6) (
   on1 (r1_Taken N ((List.getD x0.Code x2.toNat api_Ins.z).1) x9 x10)<|gg [pB]<|fun (x63:Bool) =>
   bi x63 (
    bi (x3.End == 1) (
     some (0,g_api_Result.dv ({ x3 with Steps:=(w.i64 (x3.Steps+1)) }:api_Result) (gI.dv x2 []))) <|
    some (0,g_api_Result.dv ({ x3 with Steps:=(w.i64 (x3.Steps+1)) }:api_Result) (gI.dv (w.i64 (x2+(List.getD x0.Code x2.toNat api_Ins.z).2.2.2.2.1)) []))) <|
   bi (x3.End == 1) (
    some (0,g_api_Result.dv ({ x3 with Steps:=(w.i64 (x3.Steps+1)) }:api_Result) (gI.dv x2 []))) <|
   some (0,g_api_Result.dv ({ x3 with Steps:=(w.i64 (x3.Steps+1)) }:api_Result) (gI.dv (w.i64 (x2+1)) []))) <|
  bi (x11 == 7) (
   bi (x3.End == 1) (
    some (0,g_api_Result.dv ({ x3 with Steps:=(w.i64 (x3.Steps+1)) }:api_Result) (gI.dv x2 []))) <|
   some (0,g_api_Result.dv ({ x3 with Steps:=(w.i64 (x3.Steps+1)) }:api_Result) (gI.dv (w.i64 (x2+(List.getD x0.Code x2.toNat api_Ins.z).2.2.2.2.1)) []))) <|
  bi (x11 == 8) (
   bi ((1:Int) == (1:Int)) (
    some (0,g_api_Result.dv ({ x3 with End:=1,Steps:=(w.i64 (x3.Steps+1)) }:api_Result) (gI.dv x2 []))) <|
   some (0,g_api_Result.dv ({ x3 with End:=1,Steps:=(w.i64 (x3.Steps+1)) }:api_Result) (gI.dv (w.i64 (x2+1)) []))) <|
  bi (x3.End == 1) (
   some (0,g_api_Result.dv ({ x3 with Steps:=(w.i64 (x3.Steps+1)) }:api_Result) (gI.dv x2 []))) <|
  some (0,g_api_Result.dv ({ x3 with Steps:=(w.i64 (x3.Steps+1)) }:api_Result) (gI.dv (w.i64 (x2+1)) []))) <|
 bi (x11 == 1) (
  on1 (r1_Do N (List.getD x0.Code x2.toNat api_Ins.z) x9 x10)<|gg [pW,pB]<|fun (x64:Int) (x65:Bool) =>
  bi (!x65) (
   on1 (r1_trap N x3 3 x2)<|gg [p_api_Result,pI]<|fun (x66:api_Result) (x67:Int) =>
   some (0,g_api_Result.dv x66 (gI.dv x67 []))) <|
  on1 (r1_set_Regs N ((List.getD x0.Code x2.toNat api_Ins.z).2.1) x64 x3)<|gg [p_api_Result]<|fun (x68:api_Result) =>
  bi (x68.End == 1) (
   some (0,g_api_Result.dv ({ x68 with Steps:=(w.i64 (x68.Steps+1)) }:api_Result) (gI.dv x2 []))) <|
  some (0,g_api_Result.dv ({ x68 with Steps:=(w.i64 (x68.Steps+1)) }:api_Result) (gI.dv (w.i64 (x2+1)) []))) <|
 bi (x11 == 2) (
  on1 (r1_Do N (List.getD x0.Code x2.toNat api_Ins.z) x9 x10)<|gg [pW,pB]<|fun (x69:Int) (x70:Bool) =>
  bi (!x70) (
   on1 (r1_trap N x3 3 x2)<|gg [p_api_Result,pI]<|fun (x71:api_Result) (x72:Int) =>
   some (0,g_api_Result.dv x71 (gI.dv x72 []))) <|
  on1 (r1_set_Regs N ((List.getD x0.Code x2.toNat api_Ins.z).2.1) x69 x3)<|gg [p_api_Result]<|fun (x73:api_Result) =>
  bi (x73.End == 1) (
   some (0,g_api_Result.dv ({ x73 with Steps:=(w.i64 (x73.Steps+1)) }:api_Result) (gI.dv x2 []))) <|
  some (0,g_api_Result.dv ({ x73 with Steps:=(w.i64 (x73.Steps+1)) }:api_Result) (gI.dv (w.i64 (x2+1)) []))) <|
 bi (x11 == 3) (
  on1 (r1_Do N (List.getD x0.Code x2.toNat api_Ins.z) x9 x10)<|gg [pW,pB]<|fun (x74:Int) (x75:Bool) =>
  bi (!x75) (
   on1 (r1_trap N x3 3 x2)<|gg [p_api_Result,pI]<|fun (x76:api_Result) (x77:Int) =>
   some (0,g_api_Result.dv x76 (gI.dv x77 []))) <|
  on1 (r1_set_Regs N ((List.getD x0.Code x2.toNat api_Ins.z).2.1) x74 x3)<|gg [p_api_Result]<|fun (x78:api_Result) =>
  bi (x78.End == 1) (
   some (0,g_api_Result.dv ({ x78 with Steps:=(w.i64 (x78.Steps+1)) }:api_Result) (gI.dv x2 []))) <|
  some (0,g_api_Result.dv ({ x78 with Steps:=(w.i64 (x78.Steps+1)) }:api_Result) (gI.dv (w.i64 (x2+1)) []))) <|
 bi (x11 == 4) (
  on1 (r1_Load N x3.Mem ((List.getD x0.Code x2.toNat api_Ins.z).1) (w.u32 (x9+(w.u32 (List.getD x0.Code x2.toNat api_Ins.z).2.2.2.2.1))))<|gg [pW]<|fun (x79:Int) =>
  on1 (r1_set_Regs N ((List.getD x0.Code x2.toNat api_Ins.z).2.1) x79 x3)<|gg [p_api_Result]<|fun (x80:api_Result) =>
  bi (x80.End == 1) (
   some (0,g_api_Result.dv ({ x80 with Steps:=(w.i64 (x80.Steps+1)) }:api_Result) (gI.dv x2 []))) <|
  some (0,g_api_Result.dv ({ x80 with Steps:=(w.i64 (x80.Steps+1)) }:api_Result) (gI.dv (w.i64 (x2+1)) []))) <|
 bi (x11 == 5) (
  on1 (r1_Size N ((List.getD x0.Code x2.toNat api_Ins.z).1))<|gg [pI]<|fun (x81:Int) =>
  on1 (r1_Size N ((List.getD x0.Code x2.toNat api_Ins.z).1))<|gg [pI]<|fun (x82:Int) =>
  on1 (r1_Mask N x10 x82)<|gg [pW]<|fun (x83:Int) =>
  on1 (r1_Store N x3.Mem ((w.i64 (w.u32 (x9+(w.u32 (List.getD x0.Code x2.toNat api_Ins.z).2.2.2.2.1)))),(x81,(x83,()))))<|gg [pD (.sl tU)]<|fun (x84:List Int) =>
  gd (rm x3.Writes [((w.i64 (w.u32 (x9+(w.u32 (List.getD x0.Code x2.toNat api_Ins.z).2.2.2.2.1)))),(x81,(x83,())))] 24) <|
  bi (x3.End == 1) (
   some (0,g_api_Result.dv ({ x3 with Steps:=(w.i64 (x3.Steps+1)),Mem:=x84,Writes:=(x3.Writes++[((w.i64 (w.u32 (x9+(w.u32 (List.getD x0.Code x2.toNat api_Ins.z).2.2.2.2.1)))),(x81,(x83,())))]) }:api_Result) (gI.dv x2 []))) <|
  some (0,g_api_Result.dv ({ x3 with Steps:=(w.i64 (x3.Steps+1)),Mem:=x84,Writes:=(x3.Writes++[((w.i64 (w.u32 (x9+(w.u32 (List.getD x0.Code x2.toNat api_Ins.z).2.2.2.2.1)))),(x81,(x83,())))]) }:api_Result) (gI.dv (w.i64 (x2+1)) []))) <|
 bi (x11 == 6) (
  on1 (r1_Taken N ((List.getD x0.Code x2.toNat api_Ins.z).1) x9 x10)<|gg [pB]<|fun (x85:Bool) =>
  bi x85 (
   bi (x3.End == 1) (
    some (0,g_api_Result.dv ({ x3 with Steps:=(w.i64 (x3.Steps+1)) }:api_Result) (gI.dv x2 []))) <|
   some (0,g_api_Result.dv ({ x3 with Steps:=(w.i64 (x3.Steps+1)) }:api_Result) (gI.dv (w.i64 (x2+(List.getD x0.Code x2.toNat api_Ins.z).2.2.2.2.1)) []))) <|
  bi (x3.End == 1) (
   some (0,g_api_Result.dv ({ x3 with Steps:=(w.i64 (x3.Steps+1)) }:api_Result) (gI.dv x2 []))) <|
  some (0,g_api_Result.dv ({ x3 with Steps:=(w.i64 (x3.Steps+1)) }:api_Result) (gI.dv (w.i64 (x2+1)) []))) <|
 bi (x11 == 7) (
  bi (x3.End == 1) (
   some (0,g_api_Result.dv ({ x3 with Steps:=(w.i64 (x3.Steps+1)) }:api_Result) (gI.dv x2 []))) <|
  some (0,g_api_Result.dv ({ x3 with Steps:=(w.i64 (x3.Steps+1)) }:api_Result) (gI.dv (w.i64 (x2+(List.getD x0.Code x2.toNat api_Ins.z).2.2.2.2.1)) []))) <|
 bi (x11 == 8) (
  bi ((1:Int) == (1:Int)) (
   some (0,g_api_Result.dv ({ x3 with End:=1,Steps:=(w.i64 (x3.Steps+1)) }:api_Result) (gI.dv x2 []))) <|
  some (0,g_api_Result.dv ({ x3 with End:=1,Steps:=(w.i64 (x3.Steps+1)) }:api_Result) (gI.dv (w.i64 (x2+1)) []))) <|
 bi (x3.End == 1) (
  some (0,g_api_Result.dv ({ x3 with Steps:=(w.i64 (x3.Steps+1)) }:api_Result) (gI.dv x2 []))) <|
 some (0,g_api_Result.dv ({ x3 with Steps:=(w.i64 (x3.Steps+1)) }:api_Result) (gI.dv (w.i64 (x2+1)) []))
def X_r1_Step (N:Nat):CE:=(c_r1_Step,mkF [p_api_Program,p_api_Result,pI] [p_api_Result,pI] (r1_Step N))
theorem Y_r1_Step (N:Nat):CEok Q (X_r1_Step N) :=
 fnG (hi:=h_r1_Step) (l:=[X_r1_Copy N,X_r1_RightProgram N,X_r1_trap N,X_r1_value N,X_r1_Form N,X_r1_Size N,X_r1_Check N,X_r1_Do N,X_r1_set_Regs N,X_r1_Load N,X_r1_Mask N,X_r1_Store N,X_r1_Taken N]) (t:=[]) ti_ok hmix ⟨Y_r1_Copy N,Y_r1_RightProgram N,Y_r1_trap N,Y_r1_value N,Y_r1_Form N,Y_r1_Size N,Y_r1_Check N,Y_r1_Do N,Y_r1_set_Regs N,Y_r1_Load N,Y_r1_Mask N,Y_r1_Store N,Y_r1_Taken N,trivial⟩ ⟨rfl,rfl,rfl,rfl,rfl,rfl,rfl,rfl,rfl,rfl,rfl,rfl,rfl,rfl,rfl,rfl,rfl,rfl,rfl,trivial⟩ f_10 (by kernel_rfl) (by kernel_rfl) trivial fun ys=>by kernel_rfl
def c_l20_FrontWalks:CS:=⟨53,3,⟨[.agg [.d (.sl t_api_Ins),.d tI,.d (.sl tU)],.one (.d tB),.one (.d tI)],[]⟩,[.one (.d tB)],true,[]⟩
def s_l20_FrontWalks_2:LS:=⟨⟨[.no,.one (.d tB),.one (.d tI),.one (.p 0 0 [1,1,1]),.no,.no,.no,.no,.one (.p 1 0 [1,16]),.no,.one (.p 2 0 [1,1,1,1,1,16,1,1]),.one (.d tI),.one (.p 3 0 [1,1,1]),.one (.d tI),.one (.d tI),.one (.d tI),.no,.no,.no,.one (.o t_api_Cell),.no,.one (.d tI)]++nos 176,[[.d (.sl t_api_Ins),.d tI,.d (.sl tU)],[.o t_api_Block,.d (.ar 16 tI)],q_2,[.d tI,.d tI,.d tI]]⟩,[(0,⟨nos 6++[.one (.d tB)]++nos 191,[]⟩),(3,⟨[.no,.one (.d tB),.one (.d tI),.one (.p 0 0 [1,1,1]),.no,.no,.no,.no,.one (.p 1 0 [1,16]),.no,.one (.p 2 0 [1,1,1,1,1,16,1,1]),.one (.d tI),.one (.p 3 0 [1,1,1]),.one (.d tI)]++nos 184,[[.d (.sl t_api_Ins),.d tI,.d (.sl tU)],[.o t_api_Block,.d (.ar 16 tI)],q_2,[.d tI,.d tI,.d tI]]⟩)]⟩
def s_l20_FrontWalks_0:LS:=⟨⟨[.no,.one (.d tB),.one (.d tI),.one (.p 0 0 [1,1,1]),.no,.no,.no,.no,.one (.p 1 0 [1,16]),.no,.one (.p 2 0 [1,1,1,1,1,16,1,1]),.one (.d tI),.one (.p 3 0 [1,1,1]),.one (.d tI)]++nos 184,[[.d (.sl t_api_Ins),.d tI,.d (.sl tU)],[.o t_api_Block,.d (.ar 16 tI)],q_2,[.d tI,.d tI,.d tI]]⟩,[(0,⟨nos 6++[.one (.d tB)]++nos 191,[]⟩),(1,⟨nos 198,[]⟩)]⟩
def h_l20_FrontWalks:Hi:=⟨[((1,0),c_l20_alive),((2,1),c_r10_Split),((3,4),c_l4_Few),((5,1),c_r1_First),((13,3),c_r1_Step),((16,3),c_front_Next),((19,8),c_r10_Emit),((25,3),c_front_Next),((30,3),c_front_Settle),((31,37),c_l20_taken),((31,40),c_front_Go)],[(2,s_l20_FrontWalks_2),(0,s_l20_FrontWalks_0)],[34,39,44,48,52,55,64,68,83,87,98,115,120,140,145,149,162,166,171,178,182,187],[],[]⟩
theorem f_3:Fn Q 3 f3 (codeOf f3):=by constructor <;> kernel_rfl
def T_l20_FrontWalks (N:Nat):List CE:=[X_l20_alive N,X_r10_Split N,X_l4_Few N,X_r1_First N,X_r1_Step N,X_front_Next N,X_r10_Emit N,X_front_Settle N,X_l20_taken N,X_front_Go N]
theorem TT_l20_FrontWalks (N:Nat):AllP (CEok Q) (T_l20_FrontWalks N):=⟨Y_l20_alive N,Y_r10_Split N,Y_l4_Few N,Y_r1_First N,Y_r1_Step N,Y_front_Next N,Y_r10_Emit N,Y_front_Settle N,Y_l20_taken N,Y_front_Go N,trivial⟩
theorem A_l20_FrontWalks (N:Nat):AllP (fun e=>lookC (T_l20_FrontWalks N) e.2.id = some e.2) h_l20_FrontWalks.cs:=⟨rfl,rfl,rfl,rfl,rfl,rfl,rfl,rfl,rfl,rfl,rfl,trivial⟩
def l20_FrontWalks_r2 (N:Nat) (again:Fn' (Option Rs) [pB,pI,pI,pI,pI,pI,pD (.sl t_api_Cell),pI,p_api_Program,p_api_Split,p_api_Result,p_api_Pos]) (x0:Bool) (x1:Int) (x2:Int) (x3:Int) (x4:Int) (x5:Int) (x6:List api_Cell) (x7:Int) (x8:api_Program) (x9:api_Split) (x10:api_Result) (x11:api_Pos):Option Rs :=
 bi (decide (x7 < (len x6))) (
  on1 (front_Next N x9 x0 x11)<|gg [p_api_Cell,pI,pB]<|fun (x12:api_Cell) (x13:Int) (x14:Bool) =>
  gd (idx x7 (List.length x6)) <|
  bi (!x14) (
   some (0,gB.dv false [])) <|
  bi (!((x12.1 == (List.getD x6 x7.toNat api_Cell.z).1) && ((x12.2.1.1 == (List.getD x6 x7.toNat api_Cell.z).2.1.1) && ((x12.2.1.2.1 == (List.getD x6 x7.toNat api_Cell.z).2.1.2.1) && ((x12.2.1.2.2.1 == (List.getD x6 x7.toNat api_Cell.z).2.1.2.2.1) && ((x12.2.1.2.2.2.1 == (List.getD x6 x7.toNat api_Cell.z).2.1.2.2.2.1) && ((x12.2.1.2.2.2.2.1 == (List.getD x6 x7.toNat api_Cell.z).2.1.2.2.2.2.1) && ((x12.2.2.1 == (List.getD x6 x7.toNat api_Cell.z).2.2.1) && ((x12.2.2.2.1 == (List.getD x6 x7.toNat api_Cell.z).2.2.2.1) && (x12.2.2.2.2.1 == x12.2.2.2.2.1)))))))))) (
   some (0,gB.dv false [])) <|
  bi (x13 != x5) (
   some (0,gB.dv false [])) <|
  on1 (front_Settle N x9 x0 x11)<|gg [p_api_Pos,pB]<|fun (x15:api_Pos) (x16:Bool) =>
  bi (x12.1 == 11) (
   on1 (front_Go N x9 x15 true)<|gg [p_api_Pos]<|fun (x17:api_Pos) =>
   again x0 x1 x2 x3 x4 x5 x6 (w.i64 (x7+1)) x8 x9 x10 x17) <|
  bi (x12.1 == 9) (
   bi (x2 != (w.i64 (x4+1))) (
    on1 (front_Go N x9 x15 true)<|gg [p_api_Pos]<|fun (x18:api_Pos) =>
    again x0 x1 x2 x3 x4 x5 x6 (w.i64 (x7+1)) x8 x9 x10 x18) <|
   bi (x12.1 == 9) (
    gd (idx x4 (List.length x8.Code)) <|
    on1 (l20_taken N (List.getD x8.Code x4.toNat api_Ins.z) x10)<|gg [pB]<|fun (x19:Bool) =>
    on1 (front_Go N x9 x15 x19)<|gg [p_api_Pos]<|fun (x20:api_Pos) =>
    again x0 x1 x2 x3 x4 x5 x6 (w.i64 (x7+1)) x8 x9 x10 x20) <|
   bi (x12.1 == 10) (
    gd (idx x4 (List.length x8.Code)) <|
    on1 (l20_taken N (List.getD x8.Code x4.toNat api_Ins.z) x10)<|gg [pB]<|fun (x21:Bool) =>
    on1 (front_Go N x9 x15 x21)<|gg [p_api_Pos]<|fun (x22:api_Pos) =>
    again x0 x1 x2 x3 x4 x5 x6 (w.i64 (x7+1)) x8 x9 x10 x22) <|
   on1 (front_Go N x9 x15 false)<|gg [p_api_Pos]<|fun (x23:api_Pos) =>
   again x0 x1 x2 x3 x4 x5 x6 (w.i64 (x7+1)) x8 x9 x10 x23) <|
  bi (x12.1 == 10) (
   bi (x2 != (w.i64 (x4+1))) (
    on1 (front_Go N x9 x15 true)<|gg [p_api_Pos]<|fun (x24:api_Pos) =>
    again x0 x1 x2 x3 x4 x5 x6 (w.i64 (x7+1)) x8 x9 x10 x24) <|
   bi (x12.1 == 9) (
    gd (idx x4 (List.length x8.Code)) <|
    on1 (l20_taken N (List.getD x8.Code x4.toNat api_Ins.z) x10)<|gg [pB]<|fun (x25:Bool) =>
    on1 (front_Go N x9 x15 x25)<|gg [p_api_Pos]<|fun (x26:api_Pos) =>
    again x0 x1 x2 x3 x4 x5 x6 (w.i64 (x7+1)) x8 x9 x10 x26) <|
   bi (x12.1 == 10) (
    gd (idx x4 (List.length x8.Code)) <|
    on1 (l20_taken N (List.getD x8.Code x4.toNat api_Ins.z) x10)<|gg [pB]<|fun (x27:Bool) =>
    on1 (front_Go N x9 x15 x27)<|gg [p_api_Pos]<|fun (x28:api_Pos) =>
    again x0 x1 x2 x3 x4 x5 x6 (w.i64 (x7+1)) x8 x9 x10 x28) <|
   on1 (front_Go N x9 x15 false)<|gg [p_api_Pos]<|fun (x29:api_Pos) =>
   again x0 x1 x2 x3 x4 x5 x6 (w.i64 (x7+1)) x8 x9 x10 x29) <|
  bi (x12.1 == 9) (
   gd (idx x4 (List.length x8.Code)) <|
   on1 (l20_taken N (List.getD x8.Code x4.toNat api_Ins.z) x10)<|gg [pB]<|fun (x30:Bool) =>
   on1 (front_Go N x9 x15 x30)<|gg [p_api_Pos]<|fun (x31:api_Pos) =>
   again x0 x1 x2 x3 x4 x5 x6 (w.i64 (x7+1)) x8 x9 x10 x31) <|
  bi (x12.1 == 10) (
   gd (idx x4 (List.length x8.Code)) <|
   on1 (l20_taken N (List.getD x8.Code x4.toNat api_Ins.z) x10)<|gg [pB]<|fun (x32:Bool) =>
   on1 (front_Go N x9 x15 x32)<|gg [p_api_Pos]<|fun (x33:api_Pos) =>
   again x0 x1 x2 x3 x4 x5 x6 (w.i64 (x7+1)) x8 x9 x10 x33) <|
  on1 (front_Go N x9 x15 false)<|gg [p_api_Pos]<|fun (x34:api_Pos) =>
  again x0 x1 x2 x3 x4 x5 x6 (w.i64 (x7+1)) x8 x9 x10 x34) <|
 some (3,gB.dv x0 (gI.dv x1 (gI.dv x2 (gI.dv x3 (g_api_Program.dv x8 (g_api_Split.dv x9 (g_api_Result.dv x10 (g_api_Pos.dv x11 []))))))))
def l20_FrontWalks_l2 (N:Nat):Nat→Fn' (Option Rs) [pB,pI,pI,pI,pI,pI,pD (.sl t_api_Cell),pI,p_api_Program,p_api_Split,p_api_Result,p_api_Pos]:=lpG (l20_FrontWalks_r2 N)
def L_l20_FrontWalks_2 (N:Nat):LE:=(2,mkM [pB,pI,pI,pI,pI,pI,pD (.sl t_api_Cell),pI,p_api_Program,p_api_Split,p_api_Result,p_api_Pos] [(0,[pB]),(3,[pB,pI,pI,pI,p_api_Program,p_api_Split,p_api_Result,p_api_Pos])] (l20_FrontWalks_l2 N N))
theorem K_l20_FrontWalks_2 (N:Nat):LEok Q h_l20_FrontWalks (bodOf f3) f3.ntmps 0 (L_l20_FrontWalks_2 N) :=
 loopG (hi:=h_l20_FrontWalks) (l:=T_l20_FrontWalks N) (t:=[]) (r:=l20_FrontWalks_r2 N) ti_ok hmix (TT_l20_FrontWalks N) (A_l20_FrontWalks N) f_3 trivial (ls:=s_l20_FrontWalks_2) (body:=bodyAt f3 2) (by kernel_rfl) (by kernel_rfl) fun A ys=>by kernel_rfl
def l20_FrontWalks_r0 (N:Nat) (again:Fn' (Option Rs) [pB,pI,pI,pI,p_api_Program,p_api_Split,p_api_Result,p_api_Pos]) (x0:Bool) (x1:Int) (x2:Int) (x3:Int) (x4:api_Program) (x5:api_Split) (x6:api_Result) (x7:api_Pos):Option Rs :=
 bi (decide (x3 < x1)) (
  bi (x6.End == 0) (
   on1 (r1_Step N x4 x6 x2)<|gg [p_api_Result,pI]<|fun (x8:api_Result) (x9:Int) =>
   bi (x8.End == 2) (
    bi (x8.Trap.Kind == 4) (
     on1 (front_Next N x5 x0 x7)<|gg [p_api_Cell,pI,pB]<|fun (x10:api_Cell) (x11:Int) (x12:Bool) =>
     bi (!x12) (
      some (0,gB.dv (x11 == x6.Steps) [])) <|
     some (0,gB.dv false [])) <|
    some (0,gB.dv true [])) <|
   gd (idx x2 (List.length x4.Code)) <|
   on1 (r10_Emit N (List.getD x4.Code x2.toNat api_Ins.z) x5.Owner x2 0)<|gg [pD (.sl t_api_Cell),pD (.sl t_api_Cell)]<|fun (x13:List api_Cell) (x14:List api_Cell) =>
   bi x0 (
    onB 0 3 (l20_FrontWalks_l2 N N x0 x1 x9 x3 x2 x6.Steps x14 0 x4 x5 x8 x7) (gg [pB]<|fun (x15:Bool) =>
     some (0,gB.dv x15 []))<|gg [pB,pI,pI,pI,p_api_Program,p_api_Split,p_api_Result,p_api_Pos]<|fun (x16:Bool) (x17:Int) (x18:Int) (x19:Int) (x20:api_Program) (x21:api_Split) (x22:api_Result) (x23:api_Pos) =>
    again x16 x17 x18 (w.i64 (x19+1)) x20 x21 x22 x23) <|
   onB 0 3 (l20_FrontWalks_l2 N N x0 x1 x9 x3 x2 x6.Steps x13 0 x4 x5 x8 x7) (gg [pB]<|fun (x24:Bool) =>
    some (0,gB.dv x24 []))<|gg [pB,pI,pI,pI,p_api_Program,p_api_Split,p_api_Result,p_api_Pos]<|fun (x25:Bool) (x26:Int) (x27:Int) (x28:Int) (x29:api_Program) (x30:api_Split) (x31:api_Result) (x32:api_Pos) =>
   again x25 x26 x27 (w.i64 (x28+1)) x29 x30 x31 x32) <|
  some (1,[])) <|
 some (1,[])
def l20_FrontWalks_l0 (N:Nat):Nat→Fn' (Option Rs) [pB,pI,pI,pI,p_api_Program,p_api_Split,p_api_Result,p_api_Pos]:=lpG (l20_FrontWalks_r0 N)
def L_l20_FrontWalks_0 (N:Nat):LE:=(0,mkM [pB,pI,pI,pI,p_api_Program,p_api_Split,p_api_Result,p_api_Pos] [(0,[pB]),(1,[])] (l20_FrontWalks_l0 N N))
theorem K_l20_FrontWalks_0 (N:Nat):LEok Q h_l20_FrontWalks (bodOf f3) f3.ntmps 0 (L_l20_FrontWalks_0 N) :=
 loopG (hi:=h_l20_FrontWalks) (l:=T_l20_FrontWalks N) (t:=[L_l20_FrontWalks_2 N]) (r:=l20_FrontWalks_r0 N) ti_ok hmix (TT_l20_FrontWalks N) (A_l20_FrontWalks N) f_3 ⟨K_l20_FrontWalks_2 N,trivial⟩ (ls:=s_l20_FrontWalks_0) (body:=bodyAt f3 0) (by kernel_rfl) (by kernel_rfl) fun A ys=>by kernel_rfl
def l20_FrontWalks (N:Nat) (x0:api_Program) (x1:Bool) (x2:Int):Option Rs :=
 on1 (l20_alive N )<|gg [pB]<|fun (x3:Bool) =>
 on1 (r10_Split N x0)<|gg [p_api_Split,pI]<|fun (x4:api_Split) (x5:Int) =>
 bi (!x3) (
  some (0,gB.dv x3 [])) <|
 on1 (l4_Few N x0)<|gg [pB]<|fun (x6:Bool) =>
 bi (!x6) (
  some (0,gB.dv x3 [])) <|
 bi (decide (x0.Size > 300)) (
  some (0,gB.dv x3 [])) <|
 bi (x5 != 0) (
  some (0,gB.dv x3 [])) <|
 bi (decide (x2 < 0)) (
  some (0,gB.dv x3 [])) <|
 bi (decide (x2 > 60)) (
  some (0,gB.dv x3 [])) <|
 on1 (r1_First N x0)<|gg [pD (.sl tU)]<|fun (x7:List Int) =>
 onB 0 1 (l20_FrontWalks_l0 N N x1 x2 0 0 x0 x4 (api_Result.mk 0 api_Trap.z 0 (List.replicate 16 (0 :Int)) x7 ([]:List api_Write)) api_Pos.z) (gg [pB]<|fun (x8:Bool) =>
  some (0,gB.dv x8 []))<|gg [] <|
 some (0,gB.dv true [])
def X_l20_FrontWalks (N:Nat):CE:=(c_l20_FrontWalks,mkF [p_api_Program,pB,pI] [pB] (l20_FrontWalks N))
theorem Y_l20_FrontWalks (N:Nat):CEok Q (X_l20_FrontWalks N) :=
 fnG (hi:=h_l20_FrontWalks) (l:=T_l20_FrontWalks N) (t:=[L_l20_FrontWalks_2 N,L_l20_FrontWalks_0 N]) ti_ok hmix (TT_l20_FrontWalks N) (A_l20_FrontWalks N) f_3 (by kernel_rfl) (by kernel_rfl) ⟨K_l20_FrontWalks_2 N,K_l20_FrontWalks_0 N,trivial⟩ fun ys=>by kernel_rfl
end
end Go.Proofs.Zz

/- Plain functions that texts of the other seat speak of (sizes, checks, masks, memory). -/
set_option maxRecDepth 100000
namespace Go.Proofs.Zz
noncomputable section
open Go
def bytes_Size (N:Nat) (x0:Int):Option Rs :=
 bi (x0 == 26) (
  some (0,gI.dv 4 [])) <|
 bi (x0 == 31) (
  some (0,gI.dv 4 [])) <|
 bi (x0 == 27) (
  some (0,gI.dv 2 [])) <|
 bi (x0 == 28) (
  some (0,gI.dv 2 [])) <|
 bi (x0 == 32) (
  some (0,gI.dv 2 [])) <|
 bi (x0 == 29) (
  some (0,gI.dv 1 [])) <|
 bi (x0 == 30) (
  some (0,gI.dv 1 [])) <|
 bi (x0 == 33) (
  some (0,gI.dv 1 [])) <|
 some (0,gI.dv 0 [])
def bytes_Check (N:Nat) (x0:Int) (x1:Int) (x2:Int):Option Rs :=
 bi (decide (x0≥1)) (
  gf (decide (x0 = 0)) <|
  bi ((Int.tmod (w.i64 x1) x0) != 0) (
   some (0,gI.dv 1 [])) <|
  bi (decide (x0 > 0)) (
   bi (decide (x0 > x2)) (
    some (0,gI.dv 2 [])) <|
   bi (decide ((w.i64 x1) > (w.i64 (x2 - x0)))) (
    some (0,gI.dv 2 [])) <|
   bi (decide (x0≤0)) (
    bi (decide ((w.i64 ((w.i64 x1)+x0)) > x2)) (
     some (0,gI.dv 2 [])) <|
    some (0,gI.dv 0 [])) <|
   some (0,gI.dv 0 [])) <|
  bi (decide (x0≤0)) (
   bi (decide ((w.i64 ((w.i64 x1)+x0)) > x2)) (
    some (0,gI.dv 2 [])) <|
   some (0,gI.dv 0 [])) <|
  some (0,gI.dv 0 [])) <|
 bi (decide (x0 > 0)) (
  bi (decide (x0 > x2)) (
   some (0,gI.dv 2 [])) <|
  bi (decide ((w.i64 x1) > (w.i64 (x2 - x0)))) (
   some (0,gI.dv 2 [])) <|
  bi (decide (x0≤0)) (
   bi (decide ((w.i64 ((w.i64 x1)+x0)) > x2)) (
    some (0,gI.dv 2 [])) <|
   some (0,gI.dv 0 [])) <|
  some (0,gI.dv 0 [])) <|
 bi (decide (x0≤0)) (
  bi (decide ((w.i64 ((w.i64 x1)+x0)) > x2)) (
   some (0,gI.dv 2 [])) <|
  some (0,gI.dv 0 [])) <|
 some (0,gI.dv 0 [])
def saq_Mask (N:Nat) (x0:Int) (x1:Int):Option Rs :=
 bi (x1 == 1) (
  some (0,gW.dv (bitAnd .u32 x0 255) [])) <|
 bi (x1 == 2) (
  some (0,gW.dv (bitAnd .u32 x0 65535) [])) <|
 bi (x1 == 4) (
  some (0,gW.dv x0 [])) <|
 some (0,gW.dv 0 [])
def seq_Memory (N:Nat) (x0:api_Program):Option Rs :=
 gd (decide (0≤x0.Size∧x0.Size≤x0.Size∧x0.Size*((1:Nat):Int)≤((reach:Nat):Int)∧x0.Size≤((reach:Nat):Int))) <|
 some (0,(gD (.sl tU)).dv (laid (List.replicate x0.Size.toNat (0 :Int)) 0 (List.take (List.length (List.replicate x0.Size.toNat (0 :Int))) x0.Data)) [])
end
end Go.Proofs.Zz
