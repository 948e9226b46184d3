import Derived.Test.YtpplgkggclddiaaMB
set_option linter.unusedSimpArgs false
set_option linter.unusedVariables false
/- States that may be: program and reference answer as the model says. -/
namespace Go.Proofs.Zz
open Go
variable {N:Nat}
def allB (lo hi:Int) (l:List Int):Bool:=l.all fun n=>decide (lo≤n∧n≤hi)
def liesM (addr size n:Int):Bool:=decide ((size = 1∨size = 2∨size = 4)∧0≤addr∧addr+size≤n∧addr % size = 0)
def sizeM (op:Int):Int:=if op = 26∨op = 31 then 4 else if op = 27∨op = 28∨op = 32 then 2 else if op = 29∨op = 30∨op = 33 then 1 else 0
def reqM (m:Int) (q:api_Request):Bool:=decide (q.2.2.2.1 = sizeM q.2.1) && (decide (formM q.2.1 = if q.1 = true then 5 else 4) && (liesM q.2.2.1 q.2.2.2.1 m && (allB 0 1000 [q.2.2.2.2.2.1] && allB (-1) 15 [q.2.2.2.2.2.2.1])))
/-! Conjunctions -/
/-! Numbers within bounds -/
/-! Sides -/
end Go.Proofs.Zz

/- States that may be, whole: program and reference answer as the model says. -/
namespace Go.Proofs.Zz
open Go
variable {N:Nat}
theorem Size_is (op:Int):bytes_Size N op = some (0,gI.dv (sizeM op) []):=by
 unfold bytes_Size sizeM;simp only [bi_if,beq_iff_eq];by_cases h1:op = 26
 · rw [if_pos h1,if_pos (.inl h1)]
 by_cases h2:op = 31
 · rw [if_neg h1,if_pos h2,if_pos (.inr h2)]
 rw [if_neg h1,if_neg h2,if_neg (show ¬ (op = 26∨op = 31) by omega)];by_cases h3:op = 27
 · rw [if_pos h3,if_pos (.inl h3)]
 by_cases h4:op = 28
 · rw [if_neg h3,if_pos h4,if_pos (.inr (.inl h4))]
 by_cases h5:op = 32
 · rw [if_neg h3,if_neg h4,if_pos h5,if_pos (.inr (.inr h5))]
 rw [if_neg h3,if_neg h4,if_neg h5,if_neg (show ¬ (op = 27∨op = 28∨op = 32) by omega)];by_cases h6:op = 29
 · rw [if_pos h6,if_pos (.inl h6)]
 by_cases h7:op = 30
 · rw [if_neg h6,if_pos h7,if_pos (.inr (.inl h7))]
 by_cases h8:op = 33
 · rw [if_neg h6,if_neg h7,if_pos h8,if_pos (.inr (.inr h8))]
 rw [if_neg h6,if_neg h7,if_neg h8,if_neg (show ¬ (op = 29∨op = 30∨op = 33) by omega)]
theorem r1_Size_is (op:Int):r1_Size N op = some (0,gI.dv (sizeM op) []):=Size_is (N:=N) op
def checkM (size addr n:Int):Int:=if addr % size≠0 then 1 else if size > n∨addr > n - size then 2 else 0
theorem tmod_nn {a b:Int} (h:0≤a):Int.tmod a b = a % b:=Int.tmod_eq_emod_of_nonneg h
theorem Check_is {size addr n:Int} (hs:size = 1∨size = 2∨size = 4) (ha:U32 addr) (hn:0≤n∧n≤100000):bytes_Check N size addr n = some (0,gI.dv (checkM size addr n) []):=by
 unfold bytes_Check checkM;simp only [U32] at ha;have hw:w.i64 addr = addr:=wI (by omega) (by omega);have hw2:w.i64 (n - size) = n - size:=wI (by omega) (by omega);rw [hw,hw2,tmod_nn ha.1,dt (show size≥1 by omega),df (show ¬ size = 0 by omega),dt (show size > 0 by omega),df (show ¬ size≤0 by omega)];simp only [bi_true,bi_false,gf_false];by_cases h1:addr % size = 0
 ·
  rw [h1,show ((0:Int) != 0) = false from rfl,bi_false,if_neg (by simp)];by_cases h2:size > n
  · rw [dt h2,if_pos (.inl h2)]; rfl
  ·
   rw [df h2,bi_false];by_cases h3:addr > n - size
   · rw [dt h3,if_pos (.inr h3)]; rfl
   · rw [df h3,if_neg (by omega)]; rfl
 · rw [show (addr % size != 0) = true from bne_iff_ne.2 h1,if_pos h1]; rfl
/-! Entries -/
end Go.Proofs.Zz

/- States that may be: the reference answers as the model says. -/
namespace Go.Proofs.Zz
open Go
variable {N:Nat}
end Go.Proofs.Zz
