import Derived.Test.YtnfpdmhdpeffjaaGreatMI
set_option linter.unusedSimpArgs false
set_option linter.unusedVariables false
/- A store that is sent: the program's and the document's, alike. -/
set_option maxRecDepth 100000
namespace Go.Proofs.Zz
open Go
variable {N:Nat}
def maskM (v n:Int):Int:=if n = 1 then bitAnd .u32 v 255 else if n = 2 then bitAnd .u32 v 65535 else if n = 4 then v else 0
theorem e3D (v n:Int):b1j N v n = some (0,gW.dv (maskM v n) []):=by
 unfold b1j maskM;simp only [a1u,beq_iff_eq]
 repeat' split
 all_goals rfl
def stOp (n:Int):Int:=if n = 1 then 33 else if n = 2 then 32 else 31
theorem e9J (n:Int):b3i N n = some (0,gI.dv (stOp n) []):=by
 unfold b3i stOp;simp only [a1u,beq_iff_eq]
 repeat' split
 all_goals rfl
def clashQ (e:a0a) (q:a0e):Bool:=!q.1 && overM q.2.2.1 q.2.2.2.1 e.1 e.2.1
theorem e0s (T:List a0e) (e:a0a) (hT:T.length≤1000):∀ (n i:Nat),i≤T.length→T.length - i < n →
  ((T.drop i).any (clashQ e) = true→∃ r:Int,0≤r∧a0A N n T (len T) (i:Int) e = some (0,gI.dv r (a0M.dv e []))) ∧
  ((T.drop i).any (clashQ e) = false→a0A N n T (len T) (i:Int) e = some (1,a0M.dv e [])):=by
 intro n;induction n with
 | zero=>intro i h1 h2; omega
 | succ n ih =>
  intro i h1 h2;show (_→∃ r:Int,0≤r∧a0N N (a0A N n) T (len T) (i:Int) e = _)∧(_→a0N N (a0A N n) T (len T) (i:Int) e = _);unfold a0N;by_cases hi:i < T.length
  ·
   have again:=ih (i+1) (by omega) (by omega);have hdrop:T.drop i = T.getD i a0e.z::T.drop (i+1):=by
    rw [List.drop_eq_getElem_cons hi,List.getD_eq_getElem?_getD,List.getElem?_eq_getElem hi]; rfl
   rw [a1f hi,g7k,a1Q hi,g7n,Int.toNat_natCast,hdrop,List.any_cons];have hb:a6s N (T.getD i a0e.z) e = some (0,gB.dv (clashQ e (T.getD i a0e.z)) (a0M.dv e [])):=by
    unfold a6s clashQ;rw [c3b,g7j,g7m,g7l];cases (T.getD i a0e.z).1 with
    | true=>rfl
    | false=>rfl
   rw [hb,g7j,g7m,g7m,g7l,wS (show i≤100000000 by omega)];cases clashQ e (T.getD i a0e.z) with
   | true =>
    rw [g7k,Bool.true_or];exact ⟨fun _=>⟨_,Int.natCast_nonneg _,rfl⟩,fun h=>Bool.noConfusion h⟩
   | false=>rw [g7i,Bool.false_or]; exact again
  ·
   have:i = T.length:=by omega
   subst this;rw [a1e (by omega),g7i,List.drop_length];exact ⟨fun h=>by simp at h,fun _=>rfl⟩
theorem d7Z (T:List a0e) (e:a0a) (hT:T.length≤1000) (hN:1001 < N):a0U N T e = some (0,gB.dv (T.any (clashQ e)) (a0M.dv e [])):=by
 unfold a0U a1F;obtain ⟨h1,h2⟩:=e0s (N:=N) T e hT N 0 (by omega) (by omega);rw [List.drop_zero] at h1 h2;cases h:T.any (clashQ e) with
 | true =>
  obtain ⟨r,hr,h⟩:=h1 h;rw [show a0A N N T (len T) 0 e = _ from h,g7v,g7m,g7m,g7l,g7j,g7m,g7m,g7l,dt (show r≥0 from hr)]
 | false =>
  rw [show a0A N N T (len T) 0 e = _ from h2 h,g7t _ _ (by decide)];rfl
def canM (c:a0f) (x:a0b):Bool :=
 decide (x.Saq.length≠0) && (!(headM x).2.2.2.1 && (decide (x.Sdq.length≠0) && (decide (len x.Table < c.Flight) && ((decide (x.Trap.Kind = 0) || decide ((headM x).2.2.1 < x.Trap.Step)) && !x.Table.any (clashQ (headM x))))))
theorem e9r (c:a0f) (x:a0b) (hT:x.Table.length≤1000) (hN:1001 < N):b0a N c x = some (0,gB.dv (canM c x) []):=by
 unfold b0a canM headM;by_cases h0:x.Saq.length = 0
 · rw [len0,dt h0,g7k,decide_eq_false (show ¬ x.Saq.length≠0 by omega)]; rfl
 rw [len0,df h0,g7i,a1l (i:=0) (n:=x.Saq.length) (by omega) (by omega),g7n,decide_eq_true (show x.Saq.length≠0 from h0),Bool.true_and];cases hkn:(x.Saq.getD 0 a0a.z).2.2.2.1 with
 | true=>rfl
 | false =>
  rw [g7i,Bool.not_false,Bool.true_and];by_cases h1:x.Sdq.length = 0
  · rw [len0,dt h1,g7k,decide_eq_false (show ¬ x.Sdq.length≠0 by omega)]; rfl
  rw [len0,df h1,g7i,decide_eq_true (show x.Sdq.length≠0 from h1),Bool.true_and];by_cases hfl:len x.Table < c.Flight
  ·
   rw [df (show ¬ len x.Table≥c.Flight by omega),decide_eq_true hfl,Bool.true_and,g7i,g7n,d7Z (N:=N) x.Table (x.Saq.getD 0 a0a.z) hT hN,g7j,g7m,g7m,g7l];by_cases hk:x.Trap.Kind = 0
   · rw [show (x.Trap.Kind != 0) = false by simp [hk],g7i,decide_eq_true hk,Bool.true_or,Bool.true_and]
   ·
    rw [show (x.Trap.Kind != 0) = true by simp [hk],g7k,decide_eq_false hk,Bool.false_or];by_cases hs:(x.Saq.getD 0 a0a.z).2.2.1≥x.Trap.Step
    · rw [dt hs,g7k,decide_eq_false (by omega)]; rfl
    · rw [df hs,g7i,decide_eq_true (by omega),Bool.true_and]
  · rw [dt (show len x.Table≥c.Flight by omega),g7k,decide_eq_false hfl]; rfl
def sentE (x:a0b):a0a:=((headM x).1,((headM x).2.1,((headM x).2.2.1,(true,(maskM (x.Sdq.getD 0 0) (headM x).2.1,())))))
def sentQ (x:a0b):a0e:=(true,(stOp (headM x).2.1,((headM x).1,((headM x).2.1,(maskM (x.Sdq.getD 0 0) (headM x).2.1,(0,(0,(0,()))))))))
def sendM (c:a0f) (x:a0b):a0b :=
 if canM c x = true then { x with Sdq:=x.Sdq.drop 1,Saq:=x.Saq.set 0 (sentE x),Table:=x.Table++[sentQ x] } else x
theorem d8A {c:a0f} {x:a0b} (h:canM c x = true):x.Saq.length≠0∧x.Sdq.length≠0:=by
 unfold canM at h;simp only [Bool.and_eq_true,decide_eq_true_eq] at h;exact ⟨h.1,h.2.2.1⟩
theorem e4c (c:a0f) (x:a0b) (hT:x.Table.length≤1000) (hN:1001 < N):a7V N c x = some (0,a0c.dv (sendM c x) []):=by
 unfold a7V g7P g7R sendM;rw [e9r c x hT hN,g7j,g7m,g7l];cases hc:canM c x with
 | false=>rfl
 | true =>
  obtain ⟨h0,h1⟩:=d8A hc;rw [Bool.not_true,g7i,a1l (by omega) (by omega),g7n,a1l (by omega) (by omega),g7n,e3D,g7j,g7m,g7l,sb_1 h1,g7n];have head:∀ (e:a0a) (h:0 < x.Saq.length),(x.Saq.set 0 e).getD 0 a0a.z = e:=by
   intro e h;rw [List.getD_eq_getElem?_getD,List.getElem?_set_self (by omega)]; rfl
  simp only [head _ (show 0 < x.Saq.length by omega),List.set_set];rw [e9J,g7j,g7m,g7l,rmT (by simp; omega),g7n];rfl
end Go.Proofs.Zz

/- Loads and stores on A: the document's, as the program's. -/
set_option maxRecDepth 100000
namespace Go.Proofs.Zz
open Go
variable {N:Nat}
end Go.Proofs.Zz

/- What A does in a cycle: the document's, as the program's. -/
set_option maxRecDepth 100000
namespace Go.Proofs.Zz
open Go
variable {N:Nat}
theorem b8A {c:a0f} {s:a0g} {x:a0b} (h:rightM c s x = true):len x.Mem≤65536:=by
 unfold rightM queuesM at h;simp only [Bool.and_eq_true,decide_eq_true_eq] at h;exact h.2.2.2.2.1.2.2.2.2.2.2.2
theorem c9r {c:a0f} {s:a0g} {x:a0b} (h:rightM c s x = true):entsM (len x.Mem) true x.Saq = true:=by
 unfold rightM at h;simp only [Bool.and_eq_true] at h;exact h.2.2.2.2.2.1.1
theorem b4n {c:a0f} {s:a0g} {x:a0b} (h:rightM c s x = true):∀ q∈x.Table,reqM (len x.Mem) q = true:=by
 unfold rightM at h;simp only [Bool.and_eq_true] at h;exact List.all_eq_true.1 h.2.2.2.2.2.1.2.1
theorem d9H {s:a0g} {x:a0b} (hn:NextOk s) (hb:hasM s x.A.Pos.Block = true) (h:¬ (x.A.Halted = true∨x.A.Wait > x.Cycle)) (hf:(settleM s false x.A.Pos).2 = true) :
  (atA s x).2.2.1 = false∧(atA s x).2.2.2 = noteM { x with A:={ x.A with Pos:=(settleM s false x.A.Pos).1 } } 4 (nextM s false x.A.Pos).2.1 (blockM s (settleM s false x.A.Pos).1.Block).2.1:=by
 unfold atA;rw [if_neg h];simp only [a1r hn false _ hb,c1H hf,hf,if_true,Bool.false_and,and_self]
theorem d9t {s:a0g} {x:a0b} (hn:NextOk s) (hb:hasM s x.A.Pos.Block = true) (h:¬ (x.A.Halted = true∨x.A.Wait > x.Cycle)) (hf:(settleM s false x.A.Pos).2 = false) :
  atA s x = ((nextM s false x.A.Pos).1,(nextM s false x.A.Pos).2.1,(nextM s false x.A.Pos).2.2 && !stoppedM x (nextM s false x.A.Pos).2.1,{ x with A:={ x.A with Pos:=(settleM s false x.A.Pos).1 } }):=by
 unfold atA;rw [if_neg h];simp only [a1r hn false _ hb,hf];rfl
end Go.Proofs.Zz
