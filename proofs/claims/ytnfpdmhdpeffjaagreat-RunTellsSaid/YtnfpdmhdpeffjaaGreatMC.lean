import Derived.Test.YtnfpdmhdpeffjaaGreatMB
set_option linter.unusedSimpArgs false
set_option linter.unusedVariables false
/- States that may be: program and reference answer as the model says. -/
namespace Go.Proofs.Zz
open Go
variable {N:Nat}
def allB (lo hi:Int) (l:List Int):Bool:=l.all fun n=>decide (lo≤n∧n≤hi)
def most:Int:=1099511627776
def cfgM (c:a0f):Bool:=allB 1 64 [c.Ldq,c.Sdq,c.Aeq,c.Abq,c.Ebq,c.Saq,c.Flight,c.Slip] && (allB 1 16 [c.Banks] && (allB 1 1000 [c.Lat] && allB 1 50 [c.Mul,c.Div]))
def sideM (s:a0g) (e:Bool) (d:a0v):Bool:=hasM s d.Pos.Block && (allB 0 (len (cellsM s e d.Pos.Block)) [d.Pos.Index] && (allB 0 most [d.Pos.Base,d.Wait,d.Done] && allB (-1) most d.Ready))
def queuesM (c:a0f) (x:a0b):Bool :=
 decide (len x.Ldq≤c.Ldq) && (decide (len x.Sdq≤c.Sdq) && (decide (len x.Aeq≤c.Aeq) && (decide (len x.Abq≤c.Abq) && (decide (len x.Ebq≤c.Ebq) && (decide (len x.Saq≤c.Saq) && (decide (len x.Table≤c.Flight) && decide (len x.Mem≤65536)))))))
def liesM (addr size n:Int):Bool:=decide ((size = 1∨size = 2∨size = 4)∧0≤addr∧addr+size≤n∧addr % size = 0)
def sizeM (op:Int):Int:=if op = 26∨op = 31 then 4 else if op = 27∨op = 28∨op = 32 then 2 else if op = 29∨op = 30∨op = 33 then 1 else 0
def entsM (m:Int):Bool→List a0a→Bool
 | _,[]=>true
 | first,e::r=>liesM e.1 e.2.1 m && (allB 0 most [e.2.2.1] && ((!e.2.2.2.1 || first) && entsM m false r))
def reqM (m:Int) (q:a0e):Bool:=decide (q.2.2.2.1 = sizeM q.2.1) && (decide (formM q.2.1 = if q.1 = true then 5 else 4) && (liesM q.2.2.1 q.2.2.2.1 m && (allB 0 1000 [q.2.2.2.2.2.1] && allB (-1) 15 [q.2.2.2.2.2.2.1])))
def headM (x:a0b):a0a:=x.Saq.getD 0 a0a.z
def sentF (x:a0b):Int→List a0e→Option Int
 | n,[]=>some n
 | n,q::r=>if q.1 = false then sentF x n r else if x.Saq.length = 0∨q.2.2.1≠(headM x).1∨q.2.2.2.1≠(headM x).2.1 then none else sentF x (n+1) r
def sentM (x:a0b):Bool:=match sentF x 0 x.Table with
 | none=>false
 | some n=>decide (n = if 0 < x.Saq.length∧(headM x).2.2.2.1 = true then 1 else 0)
def trapOk (t:a1X):Bool:=if t.Kind = 0 then decide (t.Step = 0) && decide (t.Pc = 0) else allB 1 4 [t.Kind] && allB 0 most [t.Step,t.Pc]
def rightM (c:a0f) (s:a0g) (x:a0b):Bool :=
 cfgM c && (sideM s false x.A && (sideM s true x.E && (allB 0 most [x.Cycle,x.Lats,x.Picks,x.Tags] && (queuesM c x && ((entsM (len x.Mem) true x.Saq && (x.Table.all (reqM (len x.Mem)) && sentM x)) && trapOk x.Trap)))))
/-! Conjunctions -/
theorem a8H (a b:Bool) (q:List DV):bi a (some (0,gB.dv b q)) (some (0,gB.dv false q)) = (some (0,gB.dv (a && b) q):Option Rs):=by cases a <;> rfl
theorem d8H (a b:Bool) (q:List DV):bi a (some (0,gB.dv false q)) (some (0,gB.dv b q)) = (some (0,gB.dv (!a && b) q):Option Rs):=by cases a <;> rfl
/-! Numbers within bounds -/
theorem d7W (lo hi:Int) (l:List Int) (hl:l.length≤1000):∀ (n i:Nat),i≤l.length→l.length - i < n →
  (∃ r:Nat,a1w N n l (len l) (i:Int) lo hi = some (0,gI.dv (r:Int) (gI.dv lo (gI.dv hi [])))∧allB lo hi (l.drop i) = false) ∨
  (a1w N n l (len l) (i:Int) lo hi = some (1,gI.dv lo (gI.dv hi []))∧allB lo hi (l.drop i) = true):=by
 intro n;induction n with
 | zero=>intro i h0 h1; omega
 | succ n ih =>
  intro i h0 h1;show (∃ r:Nat,a1O N (a1w N n) l (len l) (i:Int) lo hi = _∧_)∨(a1O N (a1w N n) l (len l) (i:Int) lo hi = _∧_);unfold a1O;by_cases hi2:i < l.length
  ·
   have h1':a8r N (l.getD i 0) lo hi = some (0,gB.dv (!decide (lo≤l.getD i 0∧l.getD i 0≤hi)) (gI.dv lo (gI.dv hi []))):=by
    unfold a8r;simp only [a1u,decide_eq_true_eq];split
    · rw [df (by omega)]; rfl
    ·
     refine retB ?_;rw [Bool.eq_iff_iff]; simp only [decide_eq_true_eq,Bool.not_eq_true',decide_eq_false_iff_not]; omega
   rw [a1f hi2,a2r 0 hi2,show allB lo hi (l.getD i 0::l.drop (i+1)) = (decide (lo≤l.getD i 0∧l.getD i 0≤hi) && allB lo hi (l.drop (i+1))) from rfl];simp only [g7k,a1Q hi2,g7n,h1',g7j,g7m,g7l,Int.toNat_natCast,wS (show i≤100000000 by omega)];cases h:decide (lo≤l.getD i 0∧l.getD i 0≤hi) with
   | false=>exact .inl ⟨i,rfl,rfl⟩
   | true =>
    simp only [Bool.not_true,g7i,Bool.true_and];exact ih (i+1) (by omega) (by omega)
  ·
   rw [a1e (by omega),List.drop_of_length_le (by omega)];exact .inr ⟨rfl,rfl⟩
theorem a1R (lo hi:Int) (l:List Int) (hl:l.length≤1000) (hN:1001 < N):a0R N lo hi l = some (0,gB.dv (allB lo hi l) []):=by
 unfold a0R a4p a6P;rcases d7W (N:=N) lo hi l hl N 0 (Nat.zero_le _) (by omega) with ⟨r,h1,h2⟩ | ⟨h1,h2⟩
 ·
  rw [List.drop_zero] at h2;simp only [Int.natCast_zero] at h1;rw [h1];simp only [g7v,g7j,g7m,g7l,dt (show (r:Int)≥0 by omega)];rw [h2]; rfl
 ·
  rw [List.drop_zero] at h2;simp only [Int.natCast_zero] at h1;rw [h1,g7t _ _ (by decide)];simp only [g7j,g7m,g7l];rw [h2]; rfl
theorem e2d (c:a0f) (hN:1001 < N):b1Z N c = some (0,gB.dv (cfgM c) []):=by
 unfold b1Z cfgM;simp only [a1R _ _ [c.Ldq,c.Sdq,c.Aeq,c.Abq,c.Ebq,c.Saq,c.Flight,c.Slip] (by simp) hN,a1R _ _ [c.Banks] (by simp) hN,a1R _ _ [c.Lat] (by simp) hN,a1R _ _ [c.Mul,c.Div] (by simp) hN,g7j,g7m,g7l,a8H]
theorem allB1 {lo hi n:Int}:allB lo hi [n] = true↔lo≤n∧n≤hi:=by simp [allB]
theorem b4J (n m:Int):a3X N n m = some (0,gB.dv (allB 1 m [n]) []):=by
 unfold a3X;simp only [a8H];refine retB ?_;rw [Bool.eq_iff_iff]; simp [allB]
theorem c6o (n:Int):a5u N n = some (0,gB.dv (allB 0 most [n]) []):=by
 unfold a5u;simp only [a8H];refine retB ?_;rw [Bool.eq_iff_iff,allB1]; simp only [Bool.and_eq_true,decide_eq_true_eq,most] <;> omega
theorem e5d (c:a0f) (l:List Int) (hl:l.length≤1000):∀ (n i:Nat),i≤l.length→l.length - i < n →
  (a2a N n l (i:Int) c = some (0,gB.dv false [])∧allB 1 64 (l.drop i) = false) ∨
  (a2a N n l (i:Int) c = some (1,a0D.dv c [])∧allB 1 64 (l.drop i) = true):=by
 intro n;induction n with
 | zero=>intro i h0 h1; omega
 | succ n ih =>
  intro i h0 h1;show (a2F N (a2a N n) l (i:Int) c = _∧_)∨(a2F N (a2a N n) l (i:Int) c = _∧_);unfold a2F;by_cases hi2:i < l.length
  ·
   rw [a1f hi2,a2r 0 hi2,show allB 1 64 (l.getD i 0::l.drop (i+1)) = (allB 1 64 [l.getD i 0] && allB 1 64 (l.drop (i+1))) from by simp [allB]];simp only [g7k,a1Q hi2,g7n,b4J,g7j,g7m,g7l,Int.toNat_natCast,wS (show i≤100000000 by omega)];cases h:allB 1 64 [l.getD i 0] with
   | false=>exact .inl ⟨rfl,rfl⟩
   | true =>
    simp only [Bool.not_true,g7i,Bool.true_and];exact ih (i+1) (by omega) (by omega)
  ·
   rw [a1e (by omega),List.drop_of_length_le (by omega)];exact .inr ⟨rfl,rfl⟩
theorem b9P (c:a0f) (hN:1001 < N):a4w N c = some (0,gB.dv (cfgM c) []):=by
 unfold a4w cfgM;have h5:allB 1 50 [c.Mul,c.Div] = (allB 1 50 [c.Mul] && allB 1 50 [c.Div]):=by simp [allB]
 rcases e5d (N:=N) c [c.Ldq,c.Sdq,c.Aeq,c.Abq,c.Ebq,c.Saq,c.Flight,c.Slip] (by simp) N 0 (Nat.zero_le _) (by simp; omega) with ⟨h1,h2⟩ | ⟨h1,h2⟩
 ·
  rw [List.drop_zero] at h2;simp only [Int.natCast_zero] at h1;rw [h1,h2];simp only [g7v,g7m,g7l,Bool.false_and]
 ·
  rw [List.drop_zero] at h2;simp only [Int.natCast_zero] at h1;rw [h1,h2,g7t _ _ (by decide),h5];simp only [g7m,g7l,b4J,g7j,a8H,Bool.true_and]
/-! Sides -/
theorem e0m (d : a0v) (h16 : d.Ready.length = 16) : ∀ (n i : Nat), i ≤ 16 → 16 - i < n →
    (a2c N n (i : Int) d = some (0, gB.dv false []) ∧ allB (-1) most (d.Ready.drop i) = false) ∨
    (a2c N n (i : Int) d = some (1, []) ∧ allB (-1) most (d.Ready.drop i) = true) := by
  intro n
  induction n with
  | zero => intro i h0 h1; omega
  | succ n ih =>
    intro i h0 h1
    show (a3M N (a2c N n) (i : Int) d = _ ∧ _) ∨ (a3M N (a2c N n) (i : Int) d = _ ∧ _)
    unfold a3M
    by_cases hi2 : i < 16
    · rw [dt (show (i : Int) < 16 by omega), a2r 0 (by omega), show allB (-1) most (d.Ready.getD i 0 :: d.Ready.drop (i + 1)) = (allB (-1) most [d.Ready.getD i 0] && allB (-1) most (d.Ready.drop (i + 1))) from by simp [allB]]
      simp only [g7k, a1Q hi2, g7n, c6o, g7j, g7m, g7l, Int.toNat_natCast, wS (show i ≤ 100000000 by omega)]
      have hrec := ih (i + 1) (by omega) (by omega)
      by_cases e : d.Ready.getD i 0 = -1
      · rw [e, show ((-1 : Int) != -1) = false from rfl, show allB (-1) most [-1] = true from rfl]
        simpa using hrec
      · rw [show (d.Ready.getD i 0 != -1) = true from bne_iff_ne.2 e, show allB (-1) most [d.Ready.getD i 0] = allB 0 most [d.Ready.getD i 0] from by
          rw [Bool.eq_iff_iff]; simp only [allB, List.all_cons, List.all_nil, Bool.and_true, decide_eq_true_eq]; omega]
        cases h : allB 0 most [d.Ready.getD i 0] with
        | false => exact .inl ⟨rfl, rfl⟩
        | true => simpa using hrec
    · rw [df (show ¬ (i : Int) < 16 by omega), List.drop_of_length_le (by omega)]
      exact .inr ⟨rfl, rfl⟩
theorem c4v (s:a0g) (e:Bool) (d:a0v) (h16:d.Ready.length = 16) (hN:1001 < N):a7i N s e d = some (0,gB.dv (sideM s e d) []):=by
 unfold a7i sideM;have key:(onB 0 1 (a2c N N 0 d) (gg [pB] fun (x7:Bool)=>some (0,gB.dv x7 [])) (gg [] (some (0,gB.dv true []))):Option Rs) = some (0,gB.dv (allB (-1) most d.Ready) []):=by
  rcases e0m (N:=N) d h16 N 0 (by omega) (by omega) with ⟨h1,h2⟩ | ⟨h1,h2⟩
  ·
   rw [List.drop_zero] at h2;simp only [Int.natCast_zero] at h1;rw [h1,h2]; simp only [g7v,g7m,g7l]
  ·
   rw [List.drop_zero] at h2;simp only [Int.natCast_zero] at h1;rw [h1,h2,g7t _ _ (by decide),g7l]
 simp only [c6o,b5M,g7j,g7m,g7l,key,d8H,Bool.not_not];refine retB ?_;have h0:allB 0 most [d.Pos.Base,d.Wait,d.Done] = (allB 0 most [d.Pos.Base] && (allB 0 most [d.Wait] && allB 0 most [d.Done])):=by simp [allB]
 have h1:allB 0 (len (cellsM s e d.Pos.Block)) [d.Pos.Index] = (!decide (d.Pos.Index < 0) && !decide (d.Pos.Index > len (cellsM s e d.Pos.Block))):=by
  rw [Bool.eq_iff_iff]; simp [allB]
 have h2:hasM s d.Pos.Block = (!decide (d.Pos.Block < 0) && !decide (d.Pos.Block≥len s.Blocks)):=by
  rw [Bool.eq_iff_iff]; simp [hasM]
 rw [h0,h1,h2];generalize allB 0 most [d.Pos.Base] = a1;generalize allB 0 most [d.Wait] = a2;generalize allB 0 most [d.Done] = a3;generalize allB (-1) most d.Ready = a4;generalize decide (d.Pos.Index < 0) = a5;generalize decide (d.Pos.Index > len (cellsM s e d.Pos.Block)) = a6;generalize decide (d.Pos.Block < 0) = a7;generalize decide (d.Pos.Block≥len s.Blocks) = a8;cases a1 <;> cases a2 <;> cases a3 <;> cases a4 <;> cases a5 <;> cases a6 <;> cases a7 <;> cases a8 <;> rfl
end Go.Proofs.Zz

/- States that may be, whole: program and reference answer as the model says. -/
namespace Go.Proofs.Zz
open Go
variable {N:Nat}
theorem b5j (op:Int):a3m N op = some (0,gI.dv (sizeM op) []):=by
 unfold a3m sizeM;simp only [a1u,beq_iff_eq];by_cases h1:op = 26
 · rw [if_pos h1,if_pos (.inl h1)]
 by_cases h2:op = 31
 · rw [if_neg h1,if_pos h2,if_pos (.inr h2)]
 rw [if_neg h1,if_neg h2,if_neg (show ¬ (op = 26∨op = 31) by omega)];by_cases h3:op = 27
 · rw [if_pos h3,if_pos (.inl h3)]
 by_cases h4:op = 28
 · rw [if_neg h3,if_pos h4,if_pos (.inr (.inl h4))]
 by_cases h5:op = 32
 · rw [if_neg h3,if_neg h4,if_pos h5,if_pos (.inr (.inr h5))]
 rw [if_neg h3,if_neg h4,if_neg h5,if_neg (show ¬ (op = 27∨op = 28∨op = 32) by omega)];by_cases h6:op = 29
 · rw [if_pos h6,if_pos (.inl h6)]
 by_cases h7:op = 30
 · rw [if_neg h6,if_pos h7,if_pos (.inr (.inl h7))]
 by_cases h8:op = 33
 · rw [if_neg h6,if_neg h7,if_pos h8,if_pos (.inr (.inr h8))]
 rw [if_neg h6,if_neg h7,if_neg h8,if_neg (show ¬ (op = 29∨op = 30∨op = 33) by omega)]
theorem b3L (op:Int):c0u N op = some (0,gI.dv (sizeM op) []):=b5j (N:=N) op
def checkM (size addr n:Int):Int:=if addr % size≠0 then 1 else if size > n∨addr > n - size then 2 else 0
theorem c0B {a b:Int} (h:0≤a):Int.tmod a b = a % b:=Int.tmod_eq_emod_of_nonneg h
theorem a9V {size addr n:Int} (hs:size = 1∨size = 2∨size = 4) (ha:U32 addr) (hn:0≤n∧n≤100000):a1s N size addr n = some (0,gI.dv (checkM size addr n) []):=by
 unfold a1s checkM;simp only [U32] at ha;have hw:w.i64 addr = addr:=wI (by omega) (by omega);have hw2:w.i64 (n - size) = n - size:=wI (by omega) (by omega);rw [hw,hw2,c0B ha.1,dt (show size≥1 by omega),df (show ¬ size = 0 by omega),dt (show size > 0 by omega),df (show ¬ size≤0 by omega)];simp only [g7k,g7i,g7w];by_cases h1:addr % size = 0
 ·
  rw [h1,show ((0:Int) != 0) = false from rfl,g7i,if_neg (by simp)];by_cases h2:size > n
  · rw [dt h2,if_pos (.inl h2)]; rfl
  ·
   rw [df h2,g7i];by_cases h3:addr > n - size
   · rw [dt h3,if_pos (.inr h3)]; rfl
   · rw [df h3,if_neg (by omega)]; rfl
 · rw [show (addr % size != 0) = true from bne_iff_ne.2 h1,if_pos h1]; rfl
theorem d5H (addr size n:Int) (hn:0≤n∧n≤100000):c1t N addr size n = some (0,gB.dv (liesM addr size n) []):=by
 unfold c1t;have key:size = 1∨size = 2∨size = 4→bi (decide (addr≥0)) (bi (decide (addr≤n)) (bi (decide (w.i64 (n - addr)≥size)) (gf (decide (size = (0:Int))) (some (0,gB.dv (Int.tmod addr size == 0) []))) (some (0,gB.dv false []))) (some (0,gB.dv false []))) (some (0,gB.dv false [])) = (some (0,gB.dv (liesM addr size n) []):Option Rs):=by
  intro hs;by_cases h0:addr≥0
  ·
   rw [dt h0,g7k];by_cases h1:addr≤n
   ·
    rw [dt h1,g7k,wI (x:=n - addr) (by omega) (by omega)];by_cases h2:n - addr≥size
    ·
     rw [dt h2,g7k,df (show ¬ size = 0 by omega),g7w,c0B h0];refine retB ?_;unfold liesM;rw [Bool.eq_iff_iff]; simp only [beq_iff_eq,decide_eq_true_eq]; omega
    ·
     rw [df h2];refine retB ?_;unfold liesM; rw [df (by omega)]
   ·
    rw [df h1];refine retB ?_;unfold liesM; rw [df (by omega)]
  ·
   rw [df h0];refine retB ?_;unfold liesM; rw [df (by omega)]
 by_cases h1:size = 1
 · rw [bt h1,g7k]; exact key (by omega)
 rw [bf h1,g7i];by_cases h2:size = 2
 · rw [bt h2,g7k]; exact key (by omega)
 rw [bf h2,g7i];by_cases h3:size = 4
 · rw [bt h3,g7k]; exact key (by omega)
 rw [bf h3,g7i];refine retB ?_;unfold liesM; rw [df (by omega)]
theorem d6k (n:Int) (q:a0e) (hn:0≤n∧n≤100000):a5W N q n = some (0,gB.dv (reqM n q) []):=by
 unfold a5W reqM;have el:allB 0 1000 [q.2.2.2.2.2.1] = (decide (q.2.2.2.2.2.1≥0) && decide (q.2.2.2.2.2.1≤1000)):=by rw [Bool.eq_iff_iff,allB1]; simp only [Bool.and_eq_true,decide_eq_true_eq] <;> omega
 have er:allB (-1) 15 [q.2.2.2.2.2.2.1] = (decide (q.2.2.2.2.2.2.1≥-1) && decide (q.2.2.2.2.2.2.1≤15)):=by rw [Bool.eq_iff_iff,allB1]; simp only [Bool.and_eq_true,decide_eq_true_eq] <;> omega
 have es:(q.2.2.2.1 == sizeM q.2.1) = decide (q.2.2.2.1 = sizeM q.2.1):=by rw [Bool.eq_iff_iff,beq_iff_eq,decide_eq_true_eq]
 have e4:(formM q.2.1 == 4) = decide (formM q.2.1 = 4):=by rw [Bool.eq_iff_iff,beq_iff_eq,decide_eq_true_eq]
 have e5:(formM q.2.1 == 5) = decide (formM q.2.1 = 5):=by rw [Bool.eq_iff_iff,beq_iff_eq,decide_eq_true_eq]
 simp only [a1T,b3L,d5H _ _ _ hn,g7j,g7m,g7l,a8H,el,er,es,e4,e5];generalize decide (q.2.2.2.2.2.1≥0) = a1;generalize decide (q.2.2.2.2.2.1≤1000) = a2;generalize decide (q.2.2.2.2.2.2.1≥-1) = a3;generalize decide (q.2.2.2.2.2.2.1≤15) = a4;generalize liesM q.2.2.1 q.2.2.2.1 n = a5;generalize decide (q.2.2.2.1 = sizeM q.2.1) = a6;cases q.1 with
 | true =>
  simp only [if_true,g7k,Bool.not_true];generalize decide (formM q.2.1 = 5) = a7;cases a1 <;> cases a2 <;> cases a3 <;> cases a4 <;> cases a5 <;> cases a6 <;> cases a7 <;> rfl
 | false =>
  simp only [Bool.false_eq_true,if_false,g7i,Bool.not_false];generalize decide (formM q.2.1 = 4) = a7;cases a1 <;> cases a2 <;> cases a3 <;> cases a4 <;> cases a5 <;> cases a6 <;> cases a7 <;> rfl
/-! Entries -/
structure StOk (x:a0b):Prop where
 rA:x.A.Ready.length = 16
 rE:x.E.Ready.length = 16
 mem:x.Mem.length≤100000
 saq:x.Saq.length≤1000
 tab:x.Table.length≤1000
end Go.Proofs.Zz

/- States that may be: the reference answers as the model says. -/
namespace Go.Proofs.Zz
open Go
variable {N:Nat}
theorem e1n (x:a0b) (hm:x.Mem.length≤100000) (hl:x.Saq.length≤1000):∀ (n i:Nat),i≤x.Saq.length→x.Saq.length - i < n →
  (a1I N n (i:Int) x = some (0,gB.dv false [])∧entsM (len x.Mem) (i == 0) (x.Saq.drop i) = false) ∨
  (a1I N n (i:Int) x = some (1,a0c.dv x [])∧entsM (len x.Mem) (i == 0) (x.Saq.drop i) = true):=by
 intro n;induction n with
 | zero=>intro i h0 h1; omega
 | succ n ih =>
  intro i h0 h1;show (a3s N (a1I N n) (i:Int) x = _∧_)∨(a3s N (a1I N n) (i:Int) x = _∧_);unfold a3s;by_cases hi:i < x.Saq.length
  ·
   rw [a1f hi,a2r a0a.z hi,entsM];have hrec:=ih (i+1) (by omega) (by omega);rw [show (i+1 == 0) = false from rfl] at hrec;simp only [g7k,a1Q hi,g7n,Int.toNat_natCast,d5H _ _ (len x.Mem) (by simp only [len]; omega),c6o,g7j,g7m,g7l,wS (show i≤100000000 by omega)];cases liesM (x.Saq.getD i a0a.z).1 (x.Saq.getD i a0a.z).2.1 (len x.Mem) with
   | false=>exact .inl ⟨rfl,rfl⟩
   | true =>
    cases allB 0 most [(x.Saq.getD i a0a.z).2.2.1] with
    | false=>exact .inl ⟨rfl,rfl⟩
    | true =>
     cases (x.Saq.getD i a0a.z).2.2.2.1 with
     | false=>simpa using hrec
     | true =>
      by_cases e:i = 0
      ·
       rw [df (show ¬ (i:Int) > 0 by omega),show (i == 0) = true from beq_iff_eq.2 e]
       simpa using hrec
      ·
       rw [dt (show (i:Int) > 0 by omega),show (i == 0) = false from beq_eq_false_iff_ne.2 e];exact .inl ⟨rfl,rfl⟩
  ·
   rw [a1e (by omega),List.drop_of_length_le (by omega)];exact .inr ⟨rfl,by cases (i == 0) <;> rfl⟩
theorem e3h (x:a0b) (hm:x.Mem.length≤100000) (hl:x.Table.length≤1000):∀ (n i c:Nat),c≤i→i≤x.Table.length→x.Table.length - i < n →
  (a1H N n (c:Int) (i:Int) x = some (0,gB.dv false [])∧((x.Table.drop i).all (reqM (len x.Mem)) = false∨sentF x c (x.Table.drop i) = none)) ∨
  (∃ m:Int,a1H N n (c:Int) (i:Int) x = some (3,gI.dv m (a0c.dv x []))∧(x.Table.drop i).all (reqM (len x.Mem)) = true∧sentF x c (x.Table.drop i) = some m):=by
 intro n;induction n with
 | zero=>intro i c hc h0 h1; omega
 | succ n ih =>
  intro i c hc h0 h1;show (a3f N (a1H N n) (c:Int) (i:Int) x = _∧_)∨(∃ m:Int,a3f N (a1H N n) (c:Int) (i:Int) x = _∧_);unfold a3f;by_cases hi:i < x.Table.length
  ·
   rw [a1f hi,a2r a0e.z hi,List.all_cons];simp only [g7k,a1Q hi,g7n,Int.toNat_natCast,d6k (len x.Mem) _ (by simp only [len]; omega),g7j,g7m,g7l,wS (show i≤100000000 by omega),wS (show c≤100000000 by omega)];unfold sentF;cases reqM (len x.Mem) (x.Table.getD i a0e.z) with
   | false=>exact .inl ⟨rfl,.inl rfl⟩
   | true =>
    simp only [Bool.not_true,g7i,Bool.true_and];cases (x.Table.getD i a0e.z).1 with
    | false=>simpa using ih (i+1) c (by omega) (by omega) (by omega)
    | true =>
     simp only [g7k,Bool.true_eq_false,if_false,show x.Saq.getD 0 a0a.z = headM x from rfl];by_cases h1:x.Saq.length = 0
     · rw [bt (show len x.Saq = 0 by simp only [len]; omega),if_pos (.inl h1)]; exact .inl ⟨rfl,.inr rfl⟩
     ·
      rw [bf (show len x.Saq≠0 by simp only [len]; omega),g7i,a1l (i:=0) (n:=x.Saq.length) (by omega) (by omega),g7n,g7n];by_cases h2:(x.Table.getD i a0e.z).2.2.1 = (headM x).1
      ·
       rw [h2,show ((headM x).1 != (headM x).1) = false by simp,g7i];by_cases h3:(x.Table.getD i a0e.z).2.2.2.1 = (headM x).2.1
       ·
        rw [h3,show ((headM x).2.1 != (headM x).2.1) = false by simp,g7i,if_neg (by simp only [ne_eq,not_true,or_false]; exact h1)];exact ih (i+1) (c+1) (by omega) (by omega) (by omega)
       · rw [show ((headM x).2.1 != (x.Table.getD i a0e.z).2.2.2.1) = true from bne_iff_ne.2 fun h=>h3 h.symm,if_pos (.inr (.inr h3))]; exact .inl ⟨rfl,.inr rfl⟩
      · rw [show ((headM x).1 != (x.Table.getD i a0e.z).2.2.1) = true from bne_iff_ne.2 fun h=>h2 h.symm,if_pos (.inr (.inl h2))]; exact .inl ⟨rfl,.inr rfl⟩
  ·
   rw [a1e (by omega),List.drop_of_length_le (by omega)];exact .inr ⟨c,rfl,rfl,rfl⟩
theorem d2w (x:a0b):∀ (l:List a0e) (n m:Int),sentF x n l = some m→n≤m
 | [],n,m,h=>by simp only [sentF,Option.some.injEq] at h; omega
 | q::r,n,m,h=>by
  unfold sentF at h;split at h
  · exact d2w x r n m h
  ·
   split at h
   · simp at h
   · have:=d2w x r (n+1) m h; omega
theorem e3f (t:a1X):bi (decide (t.Kind≥0)) (bi (decide (t.Kind≤4)) (bi (allB 0 most [t.Step]) (bi (allB 0 most [t.Pc]) (bi (decide (t.Kind > 0)) (some (0,gB.dv true [])) (bi (t.Step == 0) (some (0,gB.dv (t.Pc == 0) [])) (some (0,gB.dv false [])))) (some (0,gB.dv false []))) (some (0,gB.dv false []))) (some (0,gB.dv false []))) (some (0,gB.dv false [])) = (some (0,gB.dv (trapOk t) []):Option Rs):=by
 unfold trapOk;have e2:allB 0 most [t.Step,t.Pc] = (allB 0 most [t.Step] && allB 0 most [t.Pc]):=by simp [allB]
 by_cases h0:t.Kind = 0
 ·
  rw [if_pos h0,dt (show t.Kind≥0 by omega),dt (show t.Kind≤4 by omega),df (show ¬ t.Kind > 0 by omega)];simp only [g7k,g7i,a8H];refine retB ?_;have a1:(t.Step == 0) = decide (t.Step = 0):=by rw [Bool.eq_iff_iff,beq_iff_eq,decide_eq_true_eq]
  have a2:(t.Pc == 0) = decide (t.Pc = 0):=by rw [Bool.eq_iff_iff,beq_iff_eq,decide_eq_true_eq]
  have b1:decide (t.Step = 0) = true→allB 0 most [t.Step] = true:=by intro h; rw [decide_eq_true_eq] at h; rw [h]; rfl
  have b2:decide (t.Pc = 0) = true→allB 0 most [t.Pc] = true:=by intro h; rw [decide_eq_true_eq] at h; rw [h]; rfl
  rw [a1,a2];generalize decide (t.Step = 0) = c1 at *;generalize decide (t.Pc = 0) = c2 at *;generalize allB 0 most [t.Step] = c3 at *;generalize allB 0 most [t.Pc] = c4 at *;cases c1 <;> cases c2 <;> cases c3 <;> cases c4 <;> simp_all
 ·
  rw [if_neg h0,e2,show allB 1 4 [t.Kind] = (decide (t.Kind≥0) && decide (t.Kind≤4)) by rw [Bool.eq_iff_iff,allB1]; simp only [Bool.and_eq_true,decide_eq_true_eq]; omega];by_cases h1:t.Kind≥0
  ·
   rw [dt h1,dt (show t.Kind > 0 by omega)];simp only [g7k,a8H,Bool.true_and,Bool.and_true]
  · rw [df h1]; rfl
theorem a6E (c:a0f) (s:a0g) (x:a0b) (h:StOk x) (hN:1001 < N):a2i N c s x = some (0,gB.dv (rightM c s x) []):=by
  unfold a2i;have key:(onB 0 1 (a1I N N 0 x) (gg [pB] fun (x10:Bool)=>some (0,gB.dv x10 [])) (gg [a0d] fun (x11:a0b) =>
      onB 0 3 (a1H N N 0 0 x11) (gg [pB] fun (x12:Bool)=>some (0,gB.dv x12 [])) (gg [pI,a0d] fun (x13:Int) (x14:a0b) =>
      bi (decide (len x14.Saq > 0)) (gd (idx 0 x14.Saq.length) (bi (decide (x13 > 1)) (some (0,gB.dv false [])) (bi (!((x14.Saq.getD 0 a0a.z).2.2.2.1 == (x13 == 1))) (some (0,gB.dv false [])) (some (0,gB.dv (trapOk x14.Trap) [])))))
       (bi (decide (x13 > 1)) (some (0,gB.dv false [])) (bi (!(false == (x13 == 1))) (some (0,gB.dv false [])) (some (0,gB.dv (trapOk x14.Trap) [])))))):Option Rs) =
      some (0,gB.dv ((entsM (len x.Mem) true x.Saq && (x.Table.all (reqM (len x.Mem)) && sentM x)) && trapOk x.Trap) []):=by
    rcases e1n (N:=N) x h.mem h.saq N 0 (Nat.zero_le _) (by have:=h.saq; omega) with ⟨h1,h2⟩ | ⟨h1,h2⟩
    · rw [List.drop_zero,show ((0:Nat) == 0) = true from rfl] at h2
      simp only [Int.natCast_zero] at h1;rw [h1,h2,g7v,g7m,g7l]; rfl
    · rw [List.drop_zero,show ((0:Nat) == 0) = true from rfl] at h2
      simp only [Int.natCast_zero] at h1;rw [h1,h2,g7t _ _ (by decide),g7m,g7l,Bool.true_and];rcases e3h (N:=N) x h.mem h.tab N 0 0 (by omega) (by omega) (by have:=h.tab; omega) with ⟨g1,g2⟩ | ⟨m,g1,g2,g3⟩
      · rw [List.drop_zero] at g2
        simp only [Int.natCast_zero] at g1 g2;rw [g1,g7v,g7m,g7l];refine retB ?_;rcases g2 with g2 | g2
        · rw [g2]; rfl
        · unfold sentM; rw [g2]; cases x.Table.all (reqM (len x.Mem)) <;> rfl
      · rw [List.drop_zero] at g2 g3
        simp only [Int.natCast_zero] at g1 g3;have hge:=d2w x _ _ _ g3;rw [g1,g2,g7t _ _ (by decide),g7m,g7m,g7l,Bool.true_and];unfold sentM;rw [g3];by_cases h3:0 < x.Saq.length
        · rw [dt (show len x.Saq > 0 by simp only [len]; omega),g7k,a1l (i:=0) (n:=x.Saq.length) (by omega) (by omega),g7n,show x.Saq.getD 0 a0a.z = headM x from rfl]
          simp only [d8H,Bool.not_not];refine retB ?_;cases h4:(headM x).2.2.2.1 with
          | true =>
            simp only [if_pos (⟨h3,trivial⟩:0 < x.Saq.length∧True)];by_cases hm:m = 1
            · rw [hm]; rfl
            · rw [bf hm,df hm]; simp
          | false =>
            simp only [Bool.false_eq_true,and_false,if_false];by_cases hm:m = 0
            · rw [hm]; rfl
            · rw [df hm]
              by_cases h5:m > 1
              · rw [dt h5]; rfl
              · have:m = 1:=by omega
                rw [this]; rfl
        · rw [df (show ¬ len x.Saq > 0 by simp only [len]; omega),g7i]
          simp only [d8H,Bool.not_not];refine retB ?_;simp only [h3,false_and,if_false];by_cases hm:m = 0
          · rw [hm]; rfl
          · rw [df hm]
            by_cases h5:m > 1
            · rw [dt h5]; rfl
            · have:m = 1:=by omega
              rw [this]; rfl
  simp only [b9P c hN,c4v s false x.A h.rA hN,c4v s true x.E h.rE hN,c6o,g7j,g7m,g7l,e3f,key];simp only [d8H,Bool.not_not];refine retB ?_;unfold rightM queuesM;rw [show allB 0 most [x.Cycle,x.Lats,x.Picks,x.Tags] = (allB 0 most [x.Cycle] && (allB 0 most [x.Lats] && (allB 0 most [x.Picks] && allB 0 most [x.Tags]))) by simp [allB]];have ng:∀ a b:Int,(!decide (a > b)) = decide (a≤b):=fun a b=>by rw [Bool.eq_iff_iff]; simp
  simp only [ng,Bool.and_assoc]
end Go.Proofs.Zz
