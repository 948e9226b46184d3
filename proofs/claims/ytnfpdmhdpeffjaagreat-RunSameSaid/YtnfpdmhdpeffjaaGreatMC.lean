import Derived.Test.YtnfpdmhdpeffjaaGreatMB
set_option linter.unusedSimpArgs false
set_option linter.unusedVariables false
namespace Go.Proofs.Zz
open Go
variable {N:Nat}
def allB (lo hi:Int) (l:List Int):Bool:=l.all λn=>decide (lo≤n∧n≤hi)
def most:Int:=1099511627776
def cfgM (c:ay):Bool:=allB 1 64 [c.B9,c.C9,c.C7,c.C6,c.C8,c.B0,c.B7,c.D8]&&(allB 1 16 [c.B2]&&(allB 1 1000 [c.C4]&&allB 1 50 [c.D7,c.D6]))
def sideM (s:ao) (e:Bool) (d:aI):Bool:=hasM s d.A6.A7&&(allB 0 (len (cu s e d.A6.A7)) [d.A6.B3]&&(allB 0 most [d.A6.D3,d.C3,d.A5]&&allB (-1) most d.A8))
def h7k (c:ay) (x:aa):Bool :=
 decide (len x.B9≤c.B9)&&(decide (len x.C9≤c.C9)&&(decide (len x.C7≤c.C7)&&(decide (len x.C6≤c.C6)&&(decide (len x.C8≤c.C8)&&(decide (len x.B0≤c.B0)&&(decide (len x.A0≤c.B7)&&decide (len x.Mem≤65536)))))))
def h7K (addr size n:Int):Bool:=decide ((size=1∨size=2∨size=4)∧0≤addr∧addr+size≤n∧addr % size=0)
def aZ (op:Int):Int:=if op=26∨op=31 then 4 else if op=27∨op=28∨op=32 then 2 else if op=29∨op=30∨op=33 then 1 else 0
def dh (m:Int):Bool→List aF→Bool
 | _,[]=>true
 | first,e::r=>h7K e.1 e.2.1 m&&(allB 0 most [e.2.2.1]&&((!e.2.2.2.1||first)&&dh m false r))
def reqM (m:Int) (q:am):Bool:=decide (q.2.2.2.1=aZ q.2.1)&&(decide (ae q.2.1=if q.1=true then 5 else 4)&&(h7K q.2.2.1 q.2.2.2.1 m&&(allB 0 1000 [q.2.2.2.2.2.1]&&allB (-1) 15 [q.2.2.2.2.2.2.1])))
def bM (x:aa):aF:=x.B0.getD 0 aF.z
def bQ (x:aa):Int→List am→Option Int
 | n,[]=>some n
 | n,q::r=>if q.1=false then bQ x n r else if x.B0.length=0∨q.2.2.1≠(bM x).1∨q.2.2.2.1≠(bM x).2.1 then none else bQ x (n+1) r
def eJ (x:aa):Bool:=match bQ x 0 x.A0 with
 | none=>false
 | some n=>decide (n=if 0<x.B0.length∧(bM x).2.2.2.1=true then 1 else 0)
def h7l (t:cQ):Bool:=if t.C2=0 then decide (t.C5=0)&&decide (t.Pc=0) else allB 1 4 [t.C2]&&allB 0 most [t.C5,t.Pc]
def bu (c:ay) (s:ao) (x:aa):Bool :=
 cfgM c&&(sideM s false x.A&&(sideM s true x.E&&(allB 0 most [x.A1,x.B6,x.B5,x.C0]&&(h7k c x&&((dh (len x.Mem) true x.B0&&(x.A0.all (reqM (len x.Mem))&&eJ x))&&h7l x.A9)))))
theorem a8H (a b:Bool) (q:List DV):bi a (some (0,gB.dv b q)) (some (0,gB.dv false q))=(some (0,gB.dv (a&&b) q):Option Rs):=by cases a<;>rfl
theorem d7W (lo hi:Int) (l:List Int) (hl:l.length≤1000):∀(n i:Nat),i≤l.length→l.length-i<n →
  (∃r:Nat,a1w N n l (len l) (i:Int) lo hi=some (0,gI.dv (r:Int) (gI.dv lo (gI.dv hi [])))∧allB lo hi (l.drop i)=false) ∨
  (a1w N n l (len l) (i:Int) lo hi=some (1,gI.dv lo (gI.dv hi []))∧allB lo hi (l.drop i)=true):=by
 intro n;induction n with
 | zero=>intro i h0 h1; omega
 | succ n ih =>
  intro i h0 h1;show (∃r:Nat,a1O N (a1w N n) l (len l) (i:Int) lo hi=_∧_)∨(a1O N (a1w N n) l (len l) (i:Int) lo hi=_∧_);unfold a1O;by_cases hi2:i<l.length
  ·
   have h1':a8r N (l.getD i 0) lo hi=some (0,gB.dv (!decide (lo≤l.getD i 0∧l.getD i 0≤hi)) (gI.dv lo (gI.dv hi []))):=by
    unfold a8r;simp only[cP,decide_eq_true_eq];split
    ·rw[df (by omega)]; rfl
    ·
     refine retB ?_;rw[md]; simp only[decide_eq_true_eq,mu,decide_eq_false_iff_not]; omega
   rw[bV hi2,a2r 0 hi2,show allB lo hi (l.getD i 0::l.drop (i+1))=(decide (lo≤l.getD i 0∧l.getD i 0≤hi)&&allB lo hi (l.drop (i+1))) from rfl];simp only[ai,bI hi2,aH,h1',au,ag,aj,mF,wS (show i≤100000000 by omega)];cases h:decide (lo≤l.getD i 0∧l.getD i 0≤hi) with
   | false=>exact .inl ⟨i,rfl,rfl⟩
   | true =>
    simp only[mR,ah,mO];exact ih (i+1) (by omega) (by omega)
  ·
   rw[ce (by omega),nJ (by omega)];exact .inr ⟨rfl,rfl⟩
theorem a1R (lo hi:Int) (l:List Int) (hl:l.length≤1000) (hN:1001<N):a0R N lo hi l=some (0,gB.dv (allB lo hi l) []):=by
 unfold a0R a4p a6P;rcases d7W (N:=N) lo hi l hl N 0 (nU _) (by omega) with⟨r,h1,h2⟩ | ⟨h1,h2⟩
 ·
  rw[mX]at h2;simp only[nD]at h1;rw[h1];simp only[dF,au,ag,aj,dt (show (r:Int)≥0 by omega)];rw[h2]; rfl
 ·
  rw[mX]at h2;simp only[nD]at h1;rw[h1,dH _ _ (by decide)];simp only[au,ag,aj];rw[h2]; rfl
theorem e2d (c:ay) (hN:1001<N):b1Z N c=some (0,gB.dv (cfgM c) []):=by
 unfold b1Z cfgM;simp only[a1R _ _ [c.B9,c.C9,c.C7,c.C6,c.C8,c.B0,c.B7,c.D8] (by simp) hN,a1R _ _ [c.B2] (by simp) hN,a1R _ _ [c.C4] (by simp) hN,a1R _ _ [c.D7,c.D6] (by simp) hN,au,ag,aj,a8H]
theorem b4J (n m:Int):km N n m=some (0,gB.dv (allB 1 m [n]) []):=by
 unfold km;simp only[a8H];refine retB ?_;rw[md]; simp[allB]
theorem e5d (c:ay) (l:List Int) (hl:l.length≤1000):∀(n i:Nat),i≤l.length→l.length-i<n →
  (a2a N n l (i:Int) c=some (0,gB.dv false [])∧allB 1 64 (l.drop i)=false) ∨
  (a2a N n l (i:Int) c=some (1,cM.dv c [])∧allB 1 64 (l.drop i)=true):=by
 intro n;induction n with
 | zero=>intro i h0 h1; omega
 | succ n ih =>
  intro i h0 h1;show (a2F N (a2a N n) l (i:Int) c=_∧_)∨(a2F N (a2a N n) l (i:Int) c=_∧_);unfold a2F;by_cases hi2:i<l.length
  ·
   rw[bV hi2,a2r 0 hi2,show allB 1 64 (l.getD i 0::l.drop (i+1))=(allB 1 64 [l.getD i 0]&&allB 1 64 (l.drop (i+1))) from by simp[allB]];simp only[ai,bI hi2,aH,b4J,au,ag,aj,mF,wS (show i≤100000000 by omega)];cases h:allB 1 64 [l.getD i 0] with
   | false=>exact .inl ⟨rfl,rfl⟩
   | true =>
    simp only[mR,ah,mO];exact ih (i+1) (by omega) (by omega)
  ·
   rw[ce (by omega),nJ (by omega)];exact .inr ⟨rfl,rfl⟩
theorem b9P (c:ay) (hN:1001<N):a4w N c=some (0,gB.dv (cfgM c) []):=by
 unfold a4w cfgM;have h5:allB 1 50 [c.D7,c.D6]=(allB 1 50 [c.D7]&&allB 1 50 [c.D6]):=by simp[allB]
 rcases e5d (N:=N) c [c.B9,c.C9,c.C7,c.C6,c.C8,c.B0,c.B7,c.D8] (by simp) N 0 (nU _) (by simp; omega) with⟨h1,h2⟩ | ⟨h1,h2⟩
 ·
  rw[mX]at h2;simp only[nD]at h1;rw[h1,h2];simp only[dF,ag,aj,mZ]
 ·
  rw[mX]at h2;simp only[nD]at h1;rw[h1,h2,dH _ _ (by decide),h5];simp only[ag,aj,b4J,au,a8H,mO]
variable {N:Nat}
theorem b5j (op:Int):jF N op=some (0,gI.dv (aZ op) []):=by
 unfold jF aZ;simp only[cP,beq_iff_eq];by_cases h1:op=26
 ·rw[if_pos h1,if_pos (.inl h1)]
 by_cases h2:op=31
 ·rw[if_neg h1,if_pos h2,if_pos (.inr h2)]
 rw[if_neg h1,if_neg h2,if_neg (show ¬(op=26∨op=31) by omega)];by_cases h3:op=27
 ·rw[if_pos h3,if_pos (.inl h3)]
 by_cases h4:op=28
 ·rw[if_neg h3,if_pos h4,if_pos (.inr (.inl h4))]
 by_cases h5:op=32
 ·rw[if_neg h3,if_neg h4,if_pos h5,if_pos (.inr (.inr h5))]
 rw[if_neg h3,if_neg h4,if_neg h5,if_neg (show ¬(op=27∨op=28∨op=32) by omega)];by_cases h6:op=29
 ·rw[if_pos h6,if_pos (.inl h6)]
 by_cases h7:op=30
 ·rw[if_neg h6,if_pos h7,if_pos (.inr (.inl h7))]
 by_cases h8:op=33
 ·rw[if_neg h6,if_neg h7,if_pos h8,if_pos (.inr (.inr h8))]
 rw[if_neg h6,if_neg h7,if_neg h8,if_neg (show ¬(op=29∨op=30∨op=33) by omega)]
theorem b3L (op:Int):kI N op=some (0,gI.dv (aZ op) []):=b5j (N:=N) op
def eN (size addr n:Int):Int:=if addr % size≠0 then 1 else if size>n∨addr>n-size then 2 else 0
theorem c0B {a b:Int} (h:0≤a):Int.tmod a b=a % b:=oQ h
theorem a9V {size addr n:Int} (hs:size=1∨size=2∨size=4) (ha:U32 addr) (hn:0≤n∧n≤100000):iI N size addr n=some (0,gI.dv (eN size addr n) []):=by
 unfold iI eN;simp only[U32]at ha;have hw:w.i64 addr=addr:=wI (by omega) (by omega);have hw2:w.i64 (n-size)=n-size:=wI (by omega) (by omega);rw[hw,hw2,c0B ha.1,dt (show size≥1 by omega),df (show ¬size=0 by omega),dt (show size>0 by omega),df (show ¬size≤0 by omega)];simp only[ai,ah,iy];by_cases h1:addr % size=0
 ·
  rw[h1,show ((0:Int) != 0)=false from rfl,ah,if_neg (by simp)];by_cases h2:size>n
  ·rw[dt h2,if_pos (.inl h2)]; rfl
  ·
   rw[df h2,ah];by_cases h3:addr>n-size
   ·rw[dt h3,if_pos (.inr h3)]; rfl
   ·rw[df h3,if_neg (by omega)]; rfl
 ·rw[show (addr % size != 0)=true from bne_iff_ne.2 h1,if_pos h1]; rfl
structure StOk (x:aa):Prop where
 rA:x.A.A8.length=16
 rE:x.E.A8.length=16
 mem:x.Mem.length≤100000
 saq:x.B0.length≤1000
 tab:x.A0.length≤1000
variable {N:Nat}
end Go.Proofs.Zz
