import Derived.Test.YtnfpdmhdpeffjaaGreatK2
import Derived.Test.YtnfpdmhdpeffjaaGreatEnhL
set_option linter.unusedSimpArgs false
set_option linter.unusedVariables false
/- The outer loop of a function that appends to slices within a slice's elements. -/
set_option maxRecDepth 100000
namespace Go.Proofs.Zz
noncomputable section
open Go Go.Proofs.Tryz
abbrev XW:List PG:=[pD (.sl a0y),pI,pD (.sl tU),pD (.ar 16 tI),pD (.sl a0n),pD (.ar 16 tI)]
abbrev SW:List PG:=[pD (.ar 16 tI)]
abbrev UW:List PG:=[pI,pD (.sl a0y),pI,pD (.sl tU),pD (.ar 16 tI),pD (.sl a0n),pD (.ar 16 tI),pI,pI,pD (.ar 16 tI),pI,pI,pI,pI,pD (.sl a0i),pD (.sl a0i)]
def f0Q (N:Nat):(List DV→Option Rs)→List DV→Option Rs:=round cx0 a3W (ctL (a4R N)) (ltL [b2p N]) f67.ntmps 5 0 b4Q (bodyAt f67 0)
def f1F (N:Nat):(List DV→Option Rs)→List DV→Option Rs:=round cx0 a3W (ctL (a4R N)) (ltL []) f67.ntmps 4 0 b5b (bodyAt f67 0)
def stW (n i i1 n1 i2:Int) (r:List DV × List DV × Den (B4 (.sl a0i))):Option (List DV × List DV × Den (B4 (.sl a0i))) :=
 if 0≤i∧i < n∧i1 = i∧n1 = n∧i2 = i∧IntKind.i64.wrap (i+1) = i+1 then some r else none
def st_W (N:Nat) (n i:Int) (X S:List DV) (v:Den (B4 .nl)):Option (List DV × List DV × Den (B4 (.sl a0i))) :=
 gg XW (fun (x0:List a0o) (x1:Int) (x2:List Int) (x3:List Int) (x4:List a0x) (x5:List Int)=>gg SW (fun (so:List Int) =>
  onA 3 (a4q N N i v.1 x0 x1 x2 x3 x4 x5 n i so v.1 v.2.1 v.2.2.1 v.2.2.2.1 [] []) (gg UW (fun (i1:Int) (y0:List a0o) (y1:Int) (y2:List Int) (y3:List Int) (y4:List a0x) (y5:List Int) (n1:Int) (i2:Int) (so1:List Int) (f:Int) (t:Int) (nx:Int) (tk:Int) (A:List a0h) (E:List a0h) =>
   stW n i i1 n1 i2 (dvG XW (y0,y1,y2,y3,y4,y5,()),dvG SW (so1,()),((f,(t,(nx,(tk,(A,(E,())))))):Den (B4 (.sl a0i))))))) S) X
theorem e7u (N:Nat) (n i:Int) (X S:List DV) (v:Den (B4 .nl)) (X' S':List DV) (v':Den (B4 (.sl a0i))) (h:st_W N n i X S v = some (X',S',v')) :
  X'.length = 6∧S'.length = 1∧f0Q N (fun p=>some (7,p)) (⟨.int .i64,i⟩::(X++((⟨.int .i64,n⟩::⟨.int .i64,i⟩::S)++po4 a0i v))) =
   some (7,⟨.int .i64,i+1⟩::(X'++((⟨.int .i64,n⟩::⟨.int .i64,i⟩::S')++pc4 a0i v'))):=by
 unfold st_W at h;obtain ⟨ys,rfl,h1⟩:=d0g h;have h1b:gg SW (fun (so:List Int)=>onA 3 (a4q N N i v.1 ys.1 ys.2.1 ys.2.2.1 ys.2.2.2.1 ys.2.2.2.2.1 ys.2.2.2.2.2.1 n i so v.1 v.2.1 v.2.2.1 v.2.2.2.1 [] []) (gg UW (fun (i1:Int) (y0:List a0o) (y1:Int) (y2:List Int) (y3:List Int) (y4:List a0x) (y5:List Int) (n1:Int) (i2:Int) (so1:List Int) (f:Int) (t:Int) (nx:Int) (tk:Int) (A:List a0h) (E:List a0h) =>
   stW n i i1 n1 i2 (dvG XW (y0,y1,y2,y3,y4,y5,()),dvG SW (so1,()),((f,(t,(nx,(tk,(A,(E,())))))):Den (B4 (.sl a0i))))))) S = some (X',S',v'):=h1
 obtain ⟨zs,rfl,h2⟩:=d0g h1b;have h3:onA 3 (a4q N N i v.1 ys.1 ys.2.1 ys.2.2.1 ys.2.2.2.1 ys.2.2.2.2.1 ys.2.2.2.2.2.1 n i zs.1 v.1 v.2.1 v.2.2.1 v.2.2.2.1 [] []) (gg UW (fun (i1:Int) (y0:List a0o) (y1:Int) (y2:List Int) (y3:List Int) (y4:List a0x) (y5:List Int) (n1:Int) (i2:Int) (so1:List Int) (f:Int) (t:Int) (nx:Int) (tk:Int) (A:List a0h) (E:List a0h) =>
   stW n i i1 n1 i2 (dvG XW (y0,y1,y2,y3,y4,y5,()),dvG SW (so1,()),((f,(t,(nx,(tk,(A,(E,())))))):Den (B4 (.sl a0i)))))) = some (X',S',v'):=h2
 unfold onA at h3;split at h3
 ·
  rename_i m p hr;split at h3
  ·
   rename_i hm;have hm:=Nat.eq_of_beq_eq_true hm;subst hm;obtain ⟨us,rfl,h4⟩:=d0g h3;have h5:stW n i us.1 us.2.2.2.2.2.2.2.1 us.2.2.2.2.2.2.2.2.1 (dvG XW (us.2.1,us.2.2.1,us.2.2.2.1,us.2.2.2.2.1,us.2.2.2.2.2.1,us.2.2.2.2.2.2.1,()),dvG SW (us.2.2.2.2.2.2.2.2.2.1,()),((us.2.2.2.2.2.2.2.2.2.2.1,us.2.2.2.2.2.2.2.2.2.2.2.1,us.2.2.2.2.2.2.2.2.2.2.2.2.1,us.2.2.2.2.2.2.2.2.2.2.2.2.2.1,us.2.2.2.2.2.2.2.2.2.2.2.2.2.2.1,us.2.2.2.2.2.2.2.2.2.2.2.2.2.2.2.1,()):Den (B4 (.sl a0i)))) = some (X',S',v'):=h4;unfold stW at h5;split at h5
   ·
    rename_i hc;obtain ⟨c0,c1,c2,c3,c4,c5⟩:=hc;simp only [Option.some.injEq,Prod.mk.injEq] at h5;obtain ⟨rfl,rfl,rfl⟩:=h5;refine ⟨rfl,rfl,?_⟩;refine (c6W N (fun p=>some (7,p)) (i,ys.1,ys.2.1,ys.2.2.1,ys.2.2.2.1,ys.2.2.2.2.1,ys.2.2.2.2.2.1,n,i,zs.1,v.1,v.2.1,v.2.2.1,v.2.2.2.1,[],[],())).trans ?_;show b7h N (cK _ fun p=>some (7,p)) i ys.1 ys.2.1 ys.2.2.1 ys.2.2.2.1 ys.2.2.2.2.1 ys.2.2.2.2.2.1 n i zs.1 v.1 v.2.1 v.2.2.1 v.2.2.2.1 [] [] = _;unfold b7h;rw [show decide (i < n) = true by simpa using c1,show decide (i = i∧0≤i∧i < n) = true by simp [c0,c1]];simp only [g7n];rw [hr,g7u];refine (c5e UW _ us).trans ?_;show (some (7,gI.dv (IntKind.i64.wrap (HAdd.hAdd (α:=Int) (β:=Int) (γ:=Int) us.1 1)) ((gD (.sl a0y)).dv us.2.1 (gI.dv us.2.2.1 ((gD (.sl tU)).dv us.2.2.2.1 ((gD (.ar 16 tI)).dv us.2.2.2.2.1 ((gD (.sl a0n)).dv us.2.2.2.2.2.1 ((gD (.ar 16 tI)).dv us.2.2.2.2.2.2.1 (gI.dv us.2.2.2.2.2.2.2.1 (gI.dv us.2.2.2.2.2.2.2.2.1 ((gD (.ar 16 tI)).dv us.2.2.2.2.2.2.2.2.2.1 (gI.dv us.2.2.2.2.2.2.2.2.2.2.1 (gI.dv us.2.2.2.2.2.2.2.2.2.2.2.1 (gI.dv us.2.2.2.2.2.2.2.2.2.2.2.2.1 (gI.dv us.2.2.2.2.2.2.2.2.2.2.2.2.2.1 ((gD (.sl a0i)).dv us.2.2.2.2.2.2.2.2.2.2.2.2.2.2.1 ((gD (.sl a0i)).dv us.2.2.2.2.2.2.2.2.2.2.2.2.2.2.2.1 [])))))))))))))))):Option Rs) = _;rw [c2,c3,c4,c5];rfl
   · simp at h5
  · simp at h3
 · simp at h3
theorem e6N (N:Nat) (n:Int) (X S:List DV) (β:Nat→EI) (F:Nat→Prop) (w:World) (hX:RepBs β F w (a4C.h.bx.take 3) 0 X []) (hS:∃ c,RepKs β F w [.d (.ar 16 (.int .i64))] S [] c) :
  f1F N (fun _=>none) (⟨.int .i64,n⟩::(X++(⟨.int .i64,n⟩::⟨.int .i64,n⟩::S))) = some (1,X++(⟨.int .i64,n⟩::⟨.int .i64,n⟩::S)):=by
 obtain ⟨p1,p2,e1,e2,c1,t1,rfl,_,_,k1,_,_,g1⟩:=RepBs.inv hX;obtain ⟨p3,p4,e3,e4,c3,t3,rfl,_,_,k2,_,_,g2⟩:=g1.inv;obtain ⟨p5,p6,e5,e6,c5,t5,rfl,_,_,k3,_,_,g3⟩:=g2.inv;obtain ⟨rfl,_⟩:=g3.inv;obtain ⟨c,hS⟩:=hS;obtain ⟨a1,rfl⟩:=c8z (ts:=[.sl a0y,tI,.sl tU]) k1;obtain ⟨a2,rfl⟩:=c8z (ts:=[.ar 16 tI]) k2;obtain ⟨a3,rfl⟩:=c8z (ts:=[.sl a0n,.ar 16 tI]) k3;obtain ⟨a4,rfl⟩:=c8z (ts:=[.ar 16 tI]) hS;refine (c8t N (fun _=>none) (n,a1.1,a1.2.1,a1.2.2.1,a2.1,a3.1,a3.2.1,n,n,a4.1,())).trans ?_;show b7g N (cK _ fun _=>none) n a1.1 a1.2.1 a1.2.2.1 a2.1 a3.1 a3.2.1 n n a4.1 = _;unfold b7g;rw [show decide (n < n) = false by simp];rfl
def ol_W (N:Nat):OL Q cx0 a3W (a4R N) [b2p N] f67 0 (bodyAt f67 0) where
 bs:=a4C.h.bx.take 3
 av:=a4C.h.av
 ap:=fun _ i=>[⟨.int .i64,i⟩]
 ax:=(sgOf a4C 1).av
 sk:=[.d (.ar 16 (.int .i64))]
 ks:=ks4 a0i
 T0:=B4 .nl
 T1:=B4 (.sl a0i)
 sz:=6
 LR:=b4Q
 LX:=b5b
 L0:=a4C
 po:=po4 a0i
 pc:=pc4 a0i
 step:=st_W N
 okA:=by kernel_rfl
 okX:=by kernel_rfl
 okB:=by kernel_rfl
 okS:=by kernel_rfl
 nA:=fun _ _=>rfl
 nX:=by kernel_rfl
 hR:=by kernel_rfl
 hX:=by kernel_rfl
 xR:=by kernel_rfl
 xX:=by kernel_rfl
 h0:=by kernel_rfl
 x0:=by kernel_rfl
 z0:=by kernel_rfl
 z1:=by kernel_rfl
 zp:=by decide
 zo:=fun _=>rfl
 open_:=open4 a0i
 close:=close4 a0i
 round:=fun n i X S v X' S' v' h _ _=>e7u N n i X S v X' S' v' h
 exit:=e6N N
abbrev LW:List PG:=[pI,pD (.sl a0y),pI,pD (.sl tU),pD (.ar 16 tI),pD (.sl a0n),pD (.ar 16 tI),pD (.sl (B4 .nl)),pD (.ar 16 tI)]
abbrev LX:List PG:=[pD (.sl a0y),pI,pD (.sl tU),pD (.ar 16 tI),pD (.sl a0n),pD (.ar 16 tI),pD (.sl a0n),pD (.ar 16 tI)]
def a6e (N:Nat) (_:Nat) (i:Int) (x0:List a0o) (x1:Int) (x2:List Int) (x3:List Int) (x4:List a0x) (x5:List Int) (xs:List (Den (B4 .nl))) (so:List Int):Option Rs :=
 if i = 0 then match (ol_W N).walk (xs.length:Int) xs 0 (dvG XW (x0,x1,x2,x3,x4,x5,())) (dvG SW (so,())) with
  | some (X2,S2,zs)=>some (1,X2++(⟨.sl (B4 (.sl a0i)),zs⟩::S2))
  | none=>none
 else none
def c3X (N:Nat):LE:=(0,mkM LW [(1,LX)] (a6e N N))
theorem d4V (N:Nat):LEok Q a3W (bodOf f67) f67.ntmps b7K.i.bx.length (c3X N) :=
 e6E (ls:=a4C) (body:=bodyAt f67 0) (by kernel_rfl) (by kernel_rfl) fun ys q h=>by
 have h1:a6e N N ys.1 ys.2.1 ys.2.2.1 ys.2.2.2.1 ys.2.2.2.2.1 ys.2.2.2.2.2.1 ys.2.2.2.2.2.2.1 ys.2.2.2.2.2.2.2.1 ys.2.2.2.2.2.2.2.2.1 = some q:=h;unfold a6e at h1;split at h1
 ·
  rename_i hi;split at h1
  ·
   rename_i X2 S2 zs hw;simp only [Option.some.injEq] at h1;subst h1;have:=OL.loop (ol_W N) a0r hmix (c0h N) (c3K N) f_67 (by kernel_rfl) ⟨d6F N,trivial⟩ (by kernel_rfl) hw;rw [← hi] at this;exact this
  · simp at h1
 · simp at h1
end
end Go.Proofs.Zz
