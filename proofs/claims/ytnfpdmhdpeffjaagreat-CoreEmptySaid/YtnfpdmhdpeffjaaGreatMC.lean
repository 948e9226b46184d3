import Derived.Test.YtnfpdmhdpeffjaaGreatMB
set_option linter.unusedSimpArgs false
set_option linter.unusedVariables false
/- States that may be: program and reference answer as the model says. -/
namespace Go.Proofs.Zz
open Go
variable {N:Nat}
def allB (lo hi:Int) (l:List Int):Bool:=l.all fun n=>decide (lo≤n∧n≤hi)
def most:Int:=1099511627776
def cfgM (c:a0f):Bool:=allB 1 64 [c.Ldq,c.Sdq,c.Aeq,c.Abq,c.Ebq,c.Saq,c.Flight,c.Slip] && (allB 1 16 [c.Banks] && (allB 1 1000 [c.Lat] && allB 1 50 [c.Mul,c.Div]))
def sideM (s:a0g) (e:Bool) (d:a0v):Bool:=hasM s d.Pos.Block && (allB 0 (len (cellsM s e d.Pos.Block)) [d.Pos.Index] && (allB 0 most [d.Pos.Base,d.Wait,d.Done] && allB (-1) most d.Ready))
def queuesM (c:a0f) (x:a0b):Bool :=
 decide (len x.Ldq≤c.Ldq) && (decide (len x.Sdq≤c.Sdq) && (decide (len x.Aeq≤c.Aeq) && (decide (len x.Abq≤c.Abq) && (decide (len x.Ebq≤c.Ebq) && (decide (len x.Saq≤c.Saq) && (decide (len x.Table≤c.Flight) && decide (len x.Mem≤65536)))))))
def liesM (addr size n:Int):Bool:=decide ((size = 1∨size = 2∨size = 4)∧0≤addr∧addr+size≤n∧addr % size = 0)
def sizeM (op:Int):Int:=if op = 26∨op = 31 then 4 else if op = 27∨op = 28∨op = 32 then 2 else if op = 29∨op = 30∨op = 33 then 1 else 0
def entsM (m:Int):Bool→List a0a→Bool
 | _,[]=>true
 | first,e::r=>liesM e.1 e.2.1 m && (allB 0 most [e.2.2.1] && ((!e.2.2.2.1 || first) && entsM m false r))
def reqM (m:Int) (q:a0e):Bool:=decide (q.2.2.2.1 = sizeM q.2.1) && (decide (formM q.2.1 = if q.1 = true then 5 else 4) && (liesM q.2.2.1 q.2.2.2.1 m && (allB 0 1000 [q.2.2.2.2.2.1] && allB (-1) 15 [q.2.2.2.2.2.2.1])))
def headM (x:a0b):a0a:=x.Saq.getD 0 a0a.z
def sentF (x:a0b):Int→List a0e→Option Int
 | n,[]=>some n
 | n,q::r=>if q.1 = false then sentF x n r else if x.Saq.length = 0∨q.2.2.1≠(headM x).1∨q.2.2.2.1≠(headM x).2.1 then none else sentF x (n+1) r
def sentM (x:a0b):Bool:=match sentF x 0 x.Table with
 | none=>false
 | some n=>decide (n = if 0 < x.Saq.length∧(headM x).2.2.2.1 = true then 1 else 0)
def trapOk (t:a1X):Bool:=if t.Kind = 0 then decide (t.Step = 0) && decide (t.Pc = 0) else allB 1 4 [t.Kind] && allB 0 most [t.Step,t.Pc]
def rightM (c:a0f) (s:a0g) (x:a0b):Bool :=
 cfgM c && (sideM s false x.A && (sideM s true x.E && (allB 0 most [x.Cycle,x.Lats,x.Picks,x.Tags] && (queuesM c x && ((entsM (len x.Mem) true x.Saq && (x.Table.all (reqM (len x.Mem)) && sentM x)) && trapOk x.Trap)))))
/-! Conjunctions -/
theorem a8H (a b:Bool) (q:List DV):bi a (some (0,gB.dv b q)) (some (0,gB.dv false q)) = (some (0,gB.dv (a && b) q):Option Rs):=by cases a <;> rfl
/-! Numbers within bounds -/
theorem d7W (lo hi:Int) (l:List Int) (hl:l.length≤1000):∀ (n i:Nat),i≤l.length→l.length - i < n →
  (∃ r:Nat,a1w N n l (len l) (i:Int) lo hi = some (0,gI.dv (r:Int) (gI.dv lo (gI.dv hi [])))∧allB lo hi (l.drop i) = false) ∨
  (a1w N n l (len l) (i:Int) lo hi = some (1,gI.dv lo (gI.dv hi []))∧allB lo hi (l.drop i) = true):=by
 intro n;induction n with
 | zero=>intro i h0 h1; omega
 | succ n ih =>
  intro i h0 h1;show (∃ r:Nat,a1O N (a1w N n) l (len l) (i:Int) lo hi = _∧_)∨(a1O N (a1w N n) l (len l) (i:Int) lo hi = _∧_);unfold a1O;by_cases hi2:i < l.length
  ·
   have h1':a8r N (l.getD i 0) lo hi = some (0,gB.dv (!decide (lo≤l.getD i 0∧l.getD i 0≤hi)) (gI.dv lo (gI.dv hi []))):=by
    unfold a8r;simp only [a1u,decide_eq_true_eq];split
    · rw [df (by omega)]; rfl
    ·
     refine retB ?_;rw [Bool.eq_iff_iff]; simp only [decide_eq_true_eq,Bool.not_eq_true',decide_eq_false_iff_not]; omega
   rw [a1f hi2,a2r 0 hi2,show allB lo hi (l.getD i 0::l.drop (i+1)) = (decide (lo≤l.getD i 0∧l.getD i 0≤hi) && allB lo hi (l.drop (i+1))) from rfl];simp only [g7k,a1Q hi2,g7n,h1',g7j,g7m,g7l,Int.toNat_natCast,wS (show i≤100000000 by omega)];cases h:decide (lo≤l.getD i 0∧l.getD i 0≤hi) with
   | false=>exact .inl ⟨i,rfl,rfl⟩
   | true =>
    simp only [Bool.not_true,g7i,Bool.true_and];exact ih (i+1) (by omega) (by omega)
  ·
   rw [a1e (by omega),List.drop_of_length_le (by omega)];exact .inr ⟨rfl,rfl⟩
theorem a1R (lo hi:Int) (l:List Int) (hl:l.length≤1000) (hN:1001 < N):a0R N lo hi l = some (0,gB.dv (allB lo hi l) []):=by
 unfold a0R a4p a6P;rcases d7W (N:=N) lo hi l hl N 0 (Nat.zero_le _) (by omega) with ⟨r,h1,h2⟩ | ⟨h1,h2⟩
 ·
  rw [List.drop_zero] at h2;simp only [Int.natCast_zero] at h1;rw [h1];simp only [g7v,g7j,g7m,g7l,dt (show (r:Int)≥0 by omega)];rw [h2]; rfl
 ·
  rw [List.drop_zero] at h2;simp only [Int.natCast_zero] at h1;rw [h1,g7t _ _ (by decide)];simp only [g7j,g7m,g7l];rw [h2]; rfl
theorem e2d (c:a0f) (hN:1001 < N):b1Z N c = some (0,gB.dv (cfgM c) []):=by
 unfold b1Z cfgM;simp only [a1R _ _ [c.Ldq,c.Sdq,c.Aeq,c.Abq,c.Ebq,c.Saq,c.Flight,c.Slip] (by simp) hN,a1R _ _ [c.Banks] (by simp) hN,a1R _ _ [c.Lat] (by simp) hN,a1R _ _ [c.Mul,c.Div] (by simp) hN,g7j,g7m,g7l,a8H]
theorem allB1 {lo hi n:Int}:allB lo hi [n] = true↔lo≤n∧n≤hi:=by simp [allB]
theorem b4J (n m:Int):a3X N n m = some (0,gB.dv (allB 1 m [n]) []):=by
 unfold a3X;simp only [a8H];refine retB ?_;rw [Bool.eq_iff_iff]; simp [allB]
theorem e5d (c:a0f) (l:List Int) (hl:l.length≤1000):∀ (n i:Nat),i≤l.length→l.length - i < n →
  (a2a N n l (i:Int) c = some (0,gB.dv false [])∧allB 1 64 (l.drop i) = false) ∨
  (a2a N n l (i:Int) c = some (1,a0D.dv c [])∧allB 1 64 (l.drop i) = true):=by
 intro n;induction n with
 | zero=>intro i h0 h1; omega
 | succ n ih =>
  intro i h0 h1;show (a2F N (a2a N n) l (i:Int) c = _∧_)∨(a2F N (a2a N n) l (i:Int) c = _∧_);unfold a2F;by_cases hi2:i < l.length
  ·
   rw [a1f hi2,a2r 0 hi2,show allB 1 64 (l.getD i 0::l.drop (i+1)) = (allB 1 64 [l.getD i 0] && allB 1 64 (l.drop (i+1))) from by simp [allB]];simp only [g7k,a1Q hi2,g7n,b4J,g7j,g7m,g7l,Int.toNat_natCast,wS (show i≤100000000 by omega)];cases h:allB 1 64 [l.getD i 0] with
   | false=>exact .inl ⟨rfl,rfl⟩
   | true =>
    simp only [Bool.not_true,g7i,Bool.true_and];exact ih (i+1) (by omega) (by omega)
  ·
   rw [a1e (by omega),List.drop_of_length_le (by omega)];exact .inr ⟨rfl,rfl⟩
theorem b9P (c:a0f) (hN:1001 < N):a4w N c = some (0,gB.dv (cfgM c) []):=by
 unfold a4w cfgM;have h5:allB 1 50 [c.Mul,c.Div] = (allB 1 50 [c.Mul] && allB 1 50 [c.Div]):=by simp [allB]
 rcases e5d (N:=N) c [c.Ldq,c.Sdq,c.Aeq,c.Abq,c.Ebq,c.Saq,c.Flight,c.Slip] (by simp) N 0 (Nat.zero_le _) (by simp; omega) with ⟨h1,h2⟩ | ⟨h1,h2⟩
 ·
  rw [List.drop_zero] at h2;simp only [Int.natCast_zero] at h1;rw [h1,h2];simp only [g7v,g7m,g7l,Bool.false_and]
 ·
  rw [List.drop_zero] at h2;simp only [Int.natCast_zero] at h1;rw [h1,h2,g7t _ _ (by decide),h5];simp only [g7m,g7l,b4J,g7j,a8H,Bool.true_and]
/-! Sides -/
theorem e0L (s:a0g) (b:Int) (h:hasM s b = true):a9N N (s.Blocks.getD b.toNat a0x.z) = some (0,(gD (.sl a0i)).dv (cellsM s false b) []):=by
 unfold a9N cellsM blockM;rw [if_pos h]; rfl
theorem e1D (s:a0g) (b:Int) (h:hasM s b = true):a9z N (s.Blocks.getD b.toNat a0x.z) = some (0,(gD (.sl a0i)).dv (cellsM s true b) []):=by
 unfold a9z cellsM blockM;rw [if_pos h]; rfl
theorem e1T (s:a0g) (d:a0v) (h16:d.Ready.length = 16) (hN:1001 < N):b7G N s d = some (0,gB.dv (sideM s false d) []):=by
 unfold b7G sideM;cases h:hasM s d.Pos.Block with
 | false =>
  have h2:=c9n.1 h;simp only [a1u,decide_eq_true_eq,len];split
  · rfl
  · rw [if_pos (by omega)]; rfl
 | true =>
  have h2:=a2u.1 h;have e:List.take (16 - 0) (List.drop 0 d.Ready) = d.Ready:=by rw [List.drop_zero,List.take_of_length_le (by omega)]
  rw [df (show ¬ d.Pos.Block < 0 by omega),df (show ¬ d.Pos.Block≥len s.Blocks by simp only [len]; omega),a7X h,e0L s _ h,e];simp only [g7n,g7i,a1R _ _ [d.Pos.Index] (by simp) hN,a1R _ _ [d.Pos.Base,d.Wait,d.Done] (by simp) hN,a1R _ _ d.Ready (by omega) hN,g7j,g7m,g7l,a8H,Bool.true_and,most]
theorem e2L (s:a0g) (d:a0v) (h16:d.Ready.length = 16) (hN:1001 < N):b1o N s d = some (0,gB.dv (sideM s true d) []):=by
 unfold b1o sideM;cases h:hasM s d.Pos.Block with
 | false =>
  have h2:=c9n.1 h;simp only [a1u,decide_eq_true_eq,len];split
  · rfl
  · rw [if_pos (by omega)]; rfl
 | true =>
  have h2:=a2u.1 h;have e:List.take (16 - 0) (List.drop 0 d.Ready) = d.Ready:=by rw [List.drop_zero,List.take_of_length_le (by omega)]
  rw [df (show ¬ d.Pos.Block < 0 by omega),df (show ¬ d.Pos.Block≥len s.Blocks by simp only [len]; omega),a7X h,e1D s _ h,e];simp only [g7n,g7i,a1R _ _ [d.Pos.Index] (by simp) hN,a1R _ _ [d.Pos.Base,d.Wait,d.Done] (by simp) hN,a1R _ _ d.Ready (by omega) hN,g7j,g7m,g7l,a8H,Bool.true_and,most]
end Go.Proofs.Zz

/- States that may be, whole: program and reference answer as the model says. -/
namespace Go.Proofs.Zz
open Go
variable {N:Nat}
theorem e3y (c:a0f) (x:a0b):b2a N c x = some (0,gB.dv (queuesM c x) []):=by
 unfold b2a queuesM;simp only [a8H]
theorem b5j (op:Int):a3m N op = some (0,gI.dv (sizeM op) []):=by
 unfold a3m sizeM;simp only [a1u,beq_iff_eq];by_cases h1:op = 26
 · rw [if_pos h1,if_pos (.inl h1)]
 by_cases h2:op = 31
 · rw [if_neg h1,if_pos h2,if_pos (.inr h2)]
 rw [if_neg h1,if_neg h2,if_neg (show ¬ (op = 26∨op = 31) by omega)];by_cases h3:op = 27
 · rw [if_pos h3,if_pos (.inl h3)]
 by_cases h4:op = 28
 · rw [if_neg h3,if_pos h4,if_pos (.inr (.inl h4))]
 by_cases h5:op = 32
 · rw [if_neg h3,if_neg h4,if_pos h5,if_pos (.inr (.inr h5))]
 rw [if_neg h3,if_neg h4,if_neg h5,if_neg (show ¬ (op = 27∨op = 28∨op = 32) by omega)];by_cases h6:op = 29
 · rw [if_pos h6,if_pos (.inl h6)]
 by_cases h7:op = 30
 · rw [if_neg h6,if_pos h7,if_pos (.inr (.inl h7))]
 by_cases h8:op = 33
 · rw [if_neg h6,if_neg h7,if_pos h8,if_pos (.inr (.inr h8))]
 rw [if_neg h6,if_neg h7,if_neg h8,if_neg (show ¬ (op = 29∨op = 30∨op = 33) by omega)]
def checkM (size addr n:Int):Int:=if addr % size≠0 then 1 else if size > n∨addr > n - size then 2 else 0
theorem c0B {a b:Int} (h:0≤a):Int.tmod a b = a % b:=Int.tmod_eq_emod_of_nonneg h
theorem a9V {size addr n:Int} (hs:size = 1∨size = 2∨size = 4) (ha:U32 addr) (hn:0≤n∧n≤100000):a1s N size addr n = some (0,gI.dv (checkM size addr n) []):=by
 unfold a1s checkM;simp only [U32] at ha;have hw:w.i64 addr = addr:=wI (by omega) (by omega);have hw2:w.i64 (n - size) = n - size:=wI (by omega) (by omega);rw [hw,hw2,c0B ha.1,dt (show size≥1 by omega),df (show ¬ size = 0 by omega),dt (show size > 0 by omega),df (show ¬ size≤0 by omega)];simp only [g7k,g7i,g7w];by_cases h1:addr % size = 0
 ·
  rw [h1,show ((0:Int) != 0) = false from rfl,g7i,if_neg (by simp)];by_cases h2:size > n
  · rw [dt h2,if_pos (.inl h2)]; rfl
  ·
   rw [df h2,g7i];by_cases h3:addr > n - size
   · rw [dt h3,if_pos (.inr h3)]; rfl
   · rw [df h3,if_neg (by omega)]; rfl
 · rw [show (addr % size != 0) = true from bne_iff_ne.2 h1,if_pos h1]; rfl
theorem e5v {addr size n:Int} (hs:size = 1∨size = 2∨size = 4) (h0:0≤addr):liesM addr size n = decide (checkM size addr n = 0):=by
 unfold liesM checkM;rw [Bool.eq_iff_iff]; simp only [decide_eq_true_eq];by_cases h1:addr % size = 0
 ·
  rw [if_neg (show ¬ addr % size≠0 from fun h=>h h1)];by_cases h2:size > n∨addr > n - size
  · rw [if_pos h2]; omega
  · rw [if_neg h2]; omega
 ·
  rw [if_pos h1];constructor
  · intro h; exact absurd h.2.2.2 h1
  · intro h; omega
theorem d8G (m:List Int) (addr size:Int) (hm:m.length≤100000):a7W N m addr size = some (0,gB.dv (liesM addr size (len m)) []):=by
 unfold a7W;have key:size = 1∨size = 2∨size = 4→bi (decide (addr≥0)) (bi (decide (addr≤len m)) (on1 (a1s N size (w.u32 addr) (len m)) (gg [pI] fun (x3:Int)=>some (0,gB.dv (x3 == 0) []))) (some (0,gB.dv false []))) (some (0,gB.dv false [])) = (some (0,gB.dv (liesM addr size (len m)) []):Option Rs):=by
  intro hs;by_cases h0:addr≥0
  ·
   rw [dt h0,g7k];by_cases h1:addr≤len m
   ·
    have hu:w.u32 addr = addr:=IntWalk.u32_in _ (by simp only [len] at h1; omega);rw [dt h1,g7k,hu,a9V hs (by simp only [U32,len] at *; omega) (by simp only [len]; omega),g7j,g7m,g7l];refine retB ?_;rw [e5v hs h0,Bool.eq_iff_iff]; simp only [beq_iff_eq,decide_eq_true_eq]
   ·
    rw [df h1];refine retB ?_;unfold liesM; rw [df (by omega)]
  ·
   rw [df h0];refine retB ?_;unfold liesM; rw [df (by omega)]
 by_cases h1:size = 1
 · rw [bt h1,g7k]; exact key (by omega)
 rw [bf h1,g7i];by_cases h2:size = 2
 · rw [bt h2,g7k]; exact key (by omega)
 rw [bf h2,g7i];by_cases h3:size = 4
 · rw [bt h3,g7k]; exact key (by omega)
 rw [bf h3,g7i];refine retB ?_;unfold liesM; rw [df (by omega)]
theorem e1E {op:Int}:formM op = 4↔26≤op∧op≤30:=by
 unfold formM
 repeat' split
 all_goals omega
theorem e1u {op:Int}:formM op = 5↔31≤op∧op≤33:=by
 unfold formM
 repeat' split
 all_goals omega
theorem e0H (m:List Int) (q:a0e) (hm:m.length≤100000) (hN:1001 < N):a9S N m q = some (0,gB.dv (reqM (len m) q) []):=by
 unfold a9S reqM;simp only [b5j,d8G _ _ _ hm,a1R _ _ [q.2.1] (by simp) hN,a1R _ _ [q.2.2.2.2.2.1] (by simp) hN,a1R _ _ [q.2.2.2.2.2.2.1] (by simp) hN,g7j,g7m,g7l,a8H];have e4:allB 26 30 [q.2.1] = decide (formM q.2.1 = 4):=by rw [Bool.eq_iff_iff,allB1,decide_eq_true_eq,e1E]
 have e5:allB 31 33 [q.2.1] = decide (formM q.2.1 = 5):=by rw [Bool.eq_iff_iff,allB1,decide_eq_true_eq,e1u]
 have es:(q.2.2.2.1 == sizeM q.2.1) = decide (q.2.2.2.1 = sizeM q.2.1):=by rw [Bool.eq_iff_iff,beq_iff_eq,decide_eq_true_eq]
 rw [e4,e5,es];cases q.1 <;> rfl
theorem e7v (t:a1X) (hN:1001 < N):b8p N t = some (0,gB.dv (trapOk t) []):=by
 unfold b8p trapOk;simp only [a1R _ _ [t.Kind] (by simp) hN,a1R _ _ [t.Step,t.Pc] (by simp) hN,g7j,g7m,g7l,a8H];by_cases h:t.Kind = 0
 ·
  rw [bt h,if_pos h,g7k];refine retB ?_;rw [Bool.eq_iff_iff]; simp only [Bool.and_eq_true,beq_iff_eq,decide_eq_true_eq]
 · rw [bf h,if_neg h,g7i]; rfl
/-! Entries -/
theorem e2m (x:a0b) (hm:x.Mem.length≤100000) (hl:x.Saq.length≤1000) (hN:1001 < N):∀ (n i:Nat),i≤x.Saq.length→x.Saq.length - i < n →
  (a3p N n x.Saq (len x.Saq) (i:Int) x = some (0,gB.dv false [])∧entsM (len x.Mem) (i == 0) (x.Saq.drop i) = false) ∨
  (a3p N n x.Saq (len x.Saq) (i:Int) x = some (1,a0c.dv x [])∧entsM (len x.Mem) (i == 0) (x.Saq.drop i) = true):=by
 intro n;induction n with
 | zero=>intro i h0 h1; omega
 | succ n ih =>
  intro i h0 h1;show (a4E N (a3p N n) x.Saq (len x.Saq) (i:Int) x = _∧_)∨(a4E N (a3p N n) x.Saq (len x.Saq) (i:Int) x = _∧_);unfold a4E;by_cases hi:i < x.Saq.length
  ·
   rw [a1f hi,a2r a0a.z hi,entsM];have hrec:=ih (i+1) (by omega) (by omega);rw [show (i+1 == 0) = false from rfl] at hrec;simp only [g7k,a1Q hi,g7n,Int.toNat_natCast,d8G _ _ _ hm,a1R _ _ [(x.Saq.getD i a0a.z).2.2.1] (by simp) hN,g7j,g7m,g7l,wS (show i≤100000000 by omega)];rw [show (1099511627776:Int) = most from rfl];cases liesM (x.Saq.getD i a0a.z).1 (x.Saq.getD i a0a.z).2.1 (len x.Mem) with
   | false=>exact .inl ⟨rfl,rfl⟩
   | true =>
    cases allB 0 most [(x.Saq.getD i a0a.z).2.2.1] with
    | false=>exact .inl ⟨rfl,rfl⟩
    | true =>
     cases (x.Saq.getD i a0a.z).2.2.2.1 with
     | false=>simpa using hrec
     | true =>
      by_cases e:i = 0
      ·
       rw [df (show ¬ (i:Int) > 0 by omega),show (i == 0) = true from beq_iff_eq.2 e]
       simpa using hrec
      ·
       rw [dt (show (i:Int) > 0 by omega),show (i == 0) = false from beq_eq_false_iff_ne.2 e];exact .inl ⟨rfl,rfl⟩
  ·
   rw [a1e (by omega),List.drop_of_length_le (by omega)];exact .inr ⟨rfl,by cases (i == 0) <;> rfl⟩
theorem e3v (x:a0b) (hm:x.Mem.length≤100000) (hl:x.Table.length≤1000) (hN:1001 < N):∀ (n i:Nat),i≤x.Table.length→x.Table.length - i < n →
  (∃ r:Nat,a1b N n x.Table (len x.Table) (i:Int) x = some (0,gI.dv (r:Int) (a0c.dv x []))∧(x.Table.drop i).all (reqM (len x.Mem)) = false) ∨
  (a1b N n x.Table (len x.Table) (i:Int) x = some (1,a0c.dv x [])∧(x.Table.drop i).all (reqM (len x.Mem)) = true):=by
 intro n;induction n with
 | zero=>intro i h0 h1; omega
 | succ n ih =>
  intro i h0 h1;show (∃ r:Nat,a1g N (a1b N n) x.Table (len x.Table) (i:Int) x = _∧_)∨(a1g N (a1b N n) x.Table (len x.Table) (i:Int) x = _∧_);unfold a1g b2x;by_cases hi:i < x.Table.length
  ·
   rw [a1f hi,a2r a0e.z hi,List.all_cons];simp only [g7k,a1Q hi,g7n,Int.toNat_natCast,e0H _ _ hm hN,g7j,g7m,g7l,wS (show i≤100000000 by omega)];cases reqM (len x.Mem) (x.Table.getD i a0e.z) with
   | false=>exact .inl ⟨i,rfl,rfl⟩
   | true =>
    simp only [Bool.not_true,g7i,Bool.true_and];exact ih (i+1) (by omega) (by omega)
  ·
   rw [a1e (by omega),List.drop_of_length_le (by omega)];exact .inr ⟨rfl,rfl⟩
theorem e7e (x:a0b) (hm:x.Mem.length≤100000) (hl:x.Table.length≤1000) (hN:1001 < N):a1z N x.Table x = some (0,gB.dv (!x.Table.all (reqM (len x.Mem))) (a0c.dv x [])):=by
 unfold a1z a3i;rcases e3v (N:=N) x hm hl hN N 0 (Nat.zero_le _) (by omega) with ⟨r,h1,h2⟩ | ⟨h1,h2⟩
 ·
  rw [List.drop_zero] at h2;simp only [Int.natCast_zero] at h1;rw [h1,h2];simp only [g7v,g7j,g7m,g7l,dt (show (r:Int)≥0 by omega)];rfl
 ·
  rw [List.drop_zero] at h2;simp only [Int.natCast_zero] at h1;rw [h1,h2,g7t _ _ (by decide)];simp only [g7j,g7m,g7l];rfl
theorem e0b (x:a0b) (hl:x.Table.length≤1000):∀ (n i c:Nat),c≤i→i≤x.Table.length→x.Table.length - i < n →
  (a4W N n (c:Int) x.Table (len x.Table) (i:Int) x = some (0,gB.dv false [])∧sentF x c (x.Table.drop i) = none) ∨
  (∃ m:Int,a4W N n (c:Int) x.Table (len x.Table) (i:Int) x = some (1,gI.dv m (a0c.dv x []))∧sentF x c (x.Table.drop i) = some m):=by
 intro n;induction n with
 | zero=>intro i c hc h0 h1; omega
 | succ n ih =>
  intro i c hc h0 h1;show (a7n N (a4W N n) (c:Int) x.Table (len x.Table) (i:Int) x = _∧_)∨(∃ m:Int,a7n N (a4W N n) (c:Int) x.Table (len x.Table) (i:Int) x = _∧_);unfold a7n;by_cases hi:i < x.Table.length
  ·
   rw [a1f hi,a2r a0e.z hi];simp only [g7k,a1Q hi,g7n,Int.toNat_natCast,wS (show i≤100000000 by omega),wS (show c≤100000000 by omega)];unfold sentF;cases (x.Table.getD i a0e.z).1 with
   | false=>simpa using ih (i+1) c (by omega) (by omega) (by omega)
   | true =>
    simp only [Bool.not_true,g7i,Bool.true_eq_false,if_false,show x.Saq.getD 0 a0a.z = headM x from rfl];by_cases h1:x.Saq.length = 0
    · rw [bt (show len x.Saq = 0 by simp only [len]; omega),if_pos (.inl h1)]; exact .inl ⟨rfl,rfl⟩
    ·
     rw [bf (show len x.Saq≠0 by simp only [len]; omega),g7i,a1l (i:=0) (n:=x.Saq.length) (by omega) (by omega),g7n,g7n];by_cases h2:(x.Table.getD i a0e.z).2.2.1 = (headM x).1
     ·
      rw [h2,show ((headM x).1 != (headM x).1) = false by simp,g7i];by_cases h3:(x.Table.getD i a0e.z).2.2.2.1 = (headM x).2.1
      ·
       rw [h3,show ((headM x).2.1 != (headM x).2.1) = false by simp,g7i,if_neg (by simp only [ne_eq,not_true,or_false]; exact h1)];exact ih (i+1) (c+1) (by omega) (by omega) (by omega)
      · rw [show ((x.Table.getD i a0e.z).2.2.2.1 != (headM x).2.1) = true from bne_iff_ne.2 h3,if_pos (.inr (.inr h3))]; exact .inl ⟨rfl,rfl⟩
     · rw [show ((x.Table.getD i a0e.z).2.2.1 != (headM x).1) = true from bne_iff_ne.2 h2,if_pos (.inr (.inl h2))]; exact .inl ⟨rfl,rfl⟩
  ·
   rw [a1e (by omega),List.drop_of_length_le (by omega)];exact .inr ⟨c,rfl,rfl⟩
theorem e5E (x:a0b) (hl:x.Table.length≤1000) (hN:1001 < N):b7J N x = some (0,gB.dv (sentM x) []):=by
 unfold b7J sentM;rcases e0b (N:=N) x hl N 0 0 (by omega) (by omega) (by omega) with ⟨h1,h2⟩ | ⟨m,h1,h2⟩
 ·
  rw [List.drop_zero] at h2;simp only [Int.natCast_zero] at h1 h2;rw [h1,h2,g7v,g7m,g7l]
 ·
  rw [List.drop_zero] at h2;simp only [Int.natCast_zero] at h1 h2;rw [h1,h2,g7t _ _ (by decide),g7m,g7m,g7l];by_cases h3:0 < x.Saq.length
  ·
   rw [dt (show len x.Saq > 0 by simp only [len]; omega),g7k,a1l (i:=0) (n:=x.Saq.length) (by omega) (by omega),g7n];rw [show x.Saq.getD 0 a0a.z = headM x from rfl];cases h4:(headM x).2.2.2.1 with
   | true =>
    rw [g7k];simp only [if_pos (⟨h3,trivial⟩:0 < x.Saq.length∧True)];refine retB ?_; rw [Bool.eq_iff_iff,beq_iff_eq,decide_eq_true_eq]
   | false =>
    rw [g7i];simp only [Bool.false_eq_true,and_false,if_false];refine retB ?_; rw [Bool.eq_iff_iff,beq_iff_eq,decide_eq_true_eq]
  ·
   rw [df (show ¬ len x.Saq > 0 by simp only [len]; omega),g7i];simp only [h3,false_and,if_false];refine retB ?_; rw [Bool.eq_iff_iff,beq_iff_eq,decide_eq_true_eq]
structure StOk (x:a0b):Prop where
 rA:x.A.Ready.length = 16
 rE:x.E.Ready.length = 16
 mem:x.Mem.length≤100000
 saq:x.Saq.length≤1000
 tab:x.Table.length≤1000
theorem b4e (c:a0f) (s:a0g) (x:a0b) (h:StOk x) (hN:1001 < N):a4o N c s x = some (0,gB.dv (rightM c s x) []):=by
 unfold a4o rightM;have hs:b2m N x = some (0,gB.dv (entsM (len x.Mem) true x.Saq && (x.Table.all (reqM (len x.Mem)) && sentM x)) []):=by
  unfold b2m;rcases e2m (N:=N) x h.mem h.saq hN N 0 (Nat.zero_le _) (by have:=h.saq; omega) with ⟨h1,h2⟩ | ⟨h1,h2⟩
  ·
   rw [List.drop_zero,show ((0:Nat) == 0) = true from rfl] at h2;simp only [Int.natCast_zero] at h1;rw [h1,h2,g7v,g7m,g7l]; rfl
  ·
   rw [List.drop_zero,show ((0:Nat) == 0) = true from rfl] at h2;simp only [Int.natCast_zero] at h1;rw [h1,h2,g7t _ _ (by decide),g7m,g7l,e7e x h.mem h.tab hN];simp only [g7j,g7m,g7l,e5E x h.tab hN,a8H,Bool.not_not,Bool.true_and]
 simp only [e2d c hN,e1T s x.A h.rA hN,e2L s x.E h.rE hN,a1R _ _ [x.Cycle,x.Lats,x.Picks,x.Tags] (by simp) hN,e3y,hs,e7v x.Trap hN,g7j,g7m,g7l,a8H];rfl
end Go.Proofs.Zz

/- States that may be: the reference answers as the model says. -/
namespace Go.Proofs.Zz
open Go
variable {N:Nat}
end Go.Proofs.Zz
