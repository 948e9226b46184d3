import Derived.Test.YtnfpdmhdpeffjaaGreatMI
set_option linter.unusedSimpArgs false
set_option linter.unusedVariables false
set_option maxRecDepth 100000
namespace Go.Proofs.Zz
open Go
variable {N:Nat}
def fB (v n:Int):Int:=if n=1 then cG .u32 v 255 else if n=2 then cG .u32 v 65535 else if n=4 then v else 0
theorem e3D (v n:Int):b1j N v n=some (0,gW.dv (fB v n) []):=by
 unfold b1j fB;simp only[cP,beq_iff_eq]
 repeat' split
 all_goals rfl
theorem e5W (v n:Int):d7w N v n=some (0,gW.dv (fB v n) []):=e3D (N:=N) v n
def stOp (n:Int):Int:=if n=1 then 33 else if n=2 then 32 else 31
theorem e9J (n:Int):b3i N n=some (0,gI.dv (stOp n) []):=by
 unfold b3i stOp;simp only[cP,beq_iff_eq]
 repeat' split
 all_goals rfl
def iO (e:aF) (q:am):Bool:=!q.1&&ji q.2.2.1 q.2.2.2.1 e.1 e.2.1
theorem e0s (T:List am) (e:aF) (hT:T.length≤1000):∀(n i:Nat),i≤T.length→T.length-i<n →
  ((T.drop i).any (iO e)=true→∃r:Int,0≤r∧kv N n T (len T) (i:Int) e=some (0,gI.dv r (eG.dv e []))) ∧
  ((T.drop i).any (iO e)=false→kv N n T (len T) (i:Int) e=some (1,eG.dv e [])):=by
 intro n;induction n with
 | zero=>intro i h1 h2; omega
 | succ n ih =>
  intro i h1 h2;show (_→∃r:Int,0≤r∧a0N N (kv N n) T (len T) (i:Int) e=_)∧(_→a0N N (kv N n) T (len T) (i:Int) e=_);unfold a0N;by_cases hi:i<T.length
  ·
   have again:=ih (i+1) (by omega) (by omega);have hdrop:T.drop i=T.getD i am.z::T.drop (i+1):=by
    rw[mS hi,mA,mC hi]; rfl
   rw[bV hi,ai,bI hi,aH,mF,hdrop,ny];have hb:a6s N (T.getD i am.z) e=some (0,gB.dv (iO e (T.getD i am.z)) (eG.dv e [])):=by
    unfold a6s iO;rw[c3b,au,ag,aj];cases (T.getD i am.z).1 with
    | true=>rfl
    | false=>rfl
   rw[hb,au,ag,ag,aj,wS (show i≤100000000 by omega)];cases iO e (T.getD i am.z) with
   | true =>
    rw[ai,oE];exact⟨λ_=>⟨_,oB _,rfl⟩,λh=>Bool.noConfusion h⟩
   | false=>rw[ah,nH]; exact again
  ·
   have:i=T.length:=by omega
   subst this;rw[ce (by omega),ah,mi];exact⟨λh=>by simp at h,λ_=>rfl⟩
theorem d7Z (T:List am) (e:aF) (hT:T.length≤1000) (hN:1001<N):a0U N T e=some (0,gB.dv (T.any (iO e)) (eG.dv e [])):=by
 unfold a0U a1F;obtain⟨h1,h2⟩:=e0s (N:=N) T e hT N 0 (by omega) (by omega);rw[mX]at h1 h2;cases h:T.any (iO e) with
 | true =>
  obtain⟨r,hr,h⟩:=h1 h;rw[show kv N N T (len T) 0 e=_ from h,dF,ag,ag,aj,au,ag,ag,aj,dt (show r≥0 from hr)]
 | false =>
  rw[show kv N N T (len T) 0 e=_ from h2 h,dH _ _ (by decide)];rfl
def canM (c:ay) (x:aa):Bool :=
 decide (x.B0.length≠0)&&(!(bM x).2.2.2.1&&(decide (x.C9.length≠0)&&(decide (len x.A0<c.B7)&&((decide (x.A9.C2=0)||decide ((bM x).2.2.1<x.A9.C5))&&!x.A0.any (iO (bM x))))))
theorem e9r (c:ay) (x:aa) (hT:x.A0.length≤1000) (hN:1001<N):b0a N c x=some (0,gB.dv (canM c x) []):=by
 unfold b0a canM bM;by_cases h0:x.B0.length=0
 ·rw[len0,dt h0,ai,decide_eq_false (show ¬x.B0.length≠0 by omega)]; rfl
 rw[len0,df h0,ah,cd (i:=0) (n:=x.B0.length) (by omega) (by omega),aH,decide_eq_true (show x.B0.length≠0 from h0),mO];cases hkn:(x.B0.getD 0 aF.z).2.2.2.1 with
 | true=>rfl
 | false =>
  rw[ah,mn,mO];by_cases h1:x.C9.length=0
  ·rw[len0,dt h1,ai,decide_eq_false (show ¬x.C9.length≠0 by omega)]; rfl
  rw[len0,df h1,ah,decide_eq_true (show x.C9.length≠0 from h1),mO];by_cases hfl:len x.A0<c.B7
  ·
   rw[df (show ¬len x.A0≥c.B7 by omega),decide_eq_true hfl,mO,ah,aH,d7Z (N:=N) x.A0 (x.B0.getD 0 aF.z) hT hN,au,ag,ag,aj];by_cases hk:x.A9.C2=0
   ·rw[show (x.A9.C2 != 0)=false by simp[hk],ah,decide_eq_true hk,oE,mO]
   ·
    rw[show (x.A9.C2 != 0)=true by simp[hk],ai,decide_eq_false hk,nH];by_cases hs:(x.B0.getD 0 aF.z).2.2.1≥x.A9.C5
    ·rw[dt hs,ai,decide_eq_false (by omega)]; rfl
    ·rw[df hs,ah,decide_eq_true (by omega),mO]
  ·rw[dt (show len x.A0≥c.B7 by omega),ai,decide_eq_false hfl]; rfl
def gL (x:aa):aF:=((bM x).1,((bM x).2.1,((bM x).2.2.1,(true,(fB (x.C9.getD 0 0) (bM x).2.1,())))))
def h7O (x:aa):am:=(true,(stOp (bM x).2.1,((bM x).1,((bM x).2.1,(fB (x.C9.getD 0 0) (bM x).2.1,(0,(0,(0,()))))))))
def bD (c:ay) (x:aa):aa :=
 if canM c x=true then {x with C9:=x.C9.drop 1,B0:=x.B0.set 0 (gL x),A0:=x.A0++[h7O x]} else x
theorem d8A {c:ay} {x:aa} (h:canM c x=true):x.B0.length≠0∧x.C9.length≠0:=by
 unfold canM at h;simp only[mE,decide_eq_true_eq]at h;exact⟨h.1,h.2.2.1⟩
theorem e4c (c:ay) (x:aa) (hT:x.A0.length≤1000) (hN:1001<N):a7V N c x=some (0,aA.dv (bD c x) []):=by
 unfold a7V jp g7R bD;rw[e9r c x hT hN,au,ag,aj];cases hc:canM c x with
 | false=>rfl
 | true =>
  obtain⟨h0,h1⟩:=d8A hc;rw[mR,ah,cd (by omega) (by omega),aH,cd (by omega) (by omega),aH,e3D,au,ag,aj,sb_1 h1,aH];have head:∀(e:aF) (h:0<x.B0.length),(x.B0.set 0 e).getD 0 aF.z=e:=by
   intro e h;rw[mA,oF (by omega)]; rfl
  simp only[head _ (show 0<x.B0.length by omega),List.set_set];rw[e9J,au,ag,aj,rmT (by simp; omega),aH];rfl
variable {N:Nat}
variable {N:Nat}
theorem b8A {c:ay} {s:ao} {x:aa} (h:bu c s x=true):len x.Mem≤65536:=by
 unfold bu h7k at h;simp only[mE,decide_eq_true_eq]at h;exact h.2.2.2.2.1.2.2.2.2.2.2.2
theorem c9r {c:ay} {s:ao} {x:aa} (h:bu c s x=true):dh (len x.Mem) true x.B0=true:=by
 unfold bu at h;simp only[mE]at h;exact h.2.2.2.2.2.1.1
theorem b4n {c:ay} {s:ao} {x:aa} (h:bu c s x=true):∀q∈x.A0,reqM (len x.Mem) q=true:=by
 unfold bu at h;simp only[mE]at h;exact mz.1 h.2.2.2.2.2.1.2.1
theorem d9H {s:ao} {x:aa} (hn:NextOk s) (hb:hasM s x.A.A6.A7=true) (h:¬(x.A.A4=true∨x.A.C3>x.A1)) (hf:(kx s false x.A.A6).2=true) :
  (atA s x).2.2.1=false∧(atA s x).2.2.2=bG {x with A:={x.A with A6:=(kx s false x.A.A6).1}} 4 (aT s false x.A.A6).2.1 (bz s (kx s false x.A.A6).1.A7).2.1:=by
 unfold atA;rw[if_neg h];simp only[je hn false _ hb,c1H hf,hf,if_true,mZ,and_self]
theorem d9t {s:ao} {x:aa} (hn:NextOk s) (hb:hasM s x.A.A6.A7=true) (h:¬(x.A.A4=true∨x.A.C3>x.A1)) (hf:(kx s false x.A.A6).2=false) :
  atA s x=((aT s false x.A.A6).1,(aT s false x.A.A6).2.1,(aT s false x.A.A6).2.2&&!dk x (aT s false x.A.A6).2.1,{x with A:={x.A with A6:=(kx s false x.A.A6).1}}):=by
 unfold atA;rw[if_neg h];simp only[je hn false _ hb,hf];rfl
end Go.Proofs.Zz
