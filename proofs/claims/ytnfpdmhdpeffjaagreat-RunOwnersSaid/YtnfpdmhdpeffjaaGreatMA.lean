import Derived.Test.YtnfpdmhdpeffjaaGreatKT
import Derived.Test.YtnfpdmhdpeffjaaGreatK5
import Derived.IntWalk
set_option linter.unusedSimpArgs false
set_option linter.unusedVariables false
/- The model of the core: what program and reference both do, over plain data. -/
namespace Go.Proofs.Zz
open Go
/-! Instructions -/
def formM (op:Int):Int :=
 if op < 1∨41 < op then 0 else if op≤16 then 1 else if op≤24 then 2 else if op = 25 then 3 else if op≤30 then 4 else if op≤33 then 5 else if op≤39 then 6 else if op = 40 then 7 else 8
def hasDM (f:Int):Bool:=decide (1≤f∧f≤4)
def hasAM (f:Int):Bool:=decide (f = 1∨f = 2∨f = 4∨f = 5∨f = 6)
def hasBM (f:Int):Bool:=decide (f = 1∨f = 5∨f = 6)
def hasIM (f:Int):Bool:=decide (2≤f∧f≤7)
def fieldM (n:Int) (h:Bool) (lo hi:Int):Bool:=if h = true then decide (lo≤n∧n≤hi) else decide (n = 0)
def loM (op:Int):Int:=if op = 22∨op = 23∨op = 24 then 0 else -8192
def hiM (op:Int):Int:=if op = 22∨op = 23∨op = 24 then 31 else 8191
def rightIns (i:a0o):Bool :=
 decide (formM i.1≠0) && fieldM i.2.1 (hasDM (formM i.1)) 0 15 && fieldM i.2.2.1 (hasAM (formM i.1)) 0 15 && fieldM i.2.2.2.1 (hasBM (formM i.1)) 0 15 && fieldM i.2.2.2.2.1 (hasIM (formM i.1)) (loM i.1) (hiM i.1)
def readsM (i:a0o):List Int :=
 if rightIns i = true then (if hasAM (formM i.1) = true∧i.2.2.1≠0 then [i.2.2.1] else [])++(if hasBM (formM i.1) = true∧i.2.2.2.1≠0 then [i.2.2.2.1] else []) else []
def writesM (i:a0o):Int:=if rightIns i = true then i.2.1 else 0
/-! Cells: kind .1, instruction .2.1, register .2.2.1, place .2.2.2.1, offset .2.2.2.2.1 -/
def named0 (c:a0h):List Int :=
 if c.1 = 1∨c.1 = 2 then readsM c.2.1++[writesM c.2.1]
 else if c.1 = 3∨c.1 = 4 then [c.2.1.2.2.1]
 else if c.1 = 7 then [c.2.1.2.1]
 else if c.1 = 5∨c.1 = 6∨c.1 = 8 then [c.2.2.1]
 else if c.1 = 9 then readsM c.2.1
 else []
def isReg (r:Int):Bool:=decide (1≤r∧r≤15)
def namedM (c:a0h):List Int:=(named0 c).filter isReg
def freeM (d:a0v) (c:a0h) (cycle:Int):Bool:=(namedM c).all fun r=>decide (0≤d.Ready.getD r.toNat 0∧d.Ready.getD r.toNat 0≤cycle)
def noteM (x:a0b) (k st pc:Int):a0b:=if x.Trap.Kind = 0∨x.Trap.Step > st then { x with Trap:=⟨k,st,pc⟩ } else x
def stoppedM (x:a0b) (step:Int):Bool:=decide (x.Trap.Kind≠0∧step≥x.Trap.Step)
/-! Streams: blocks From .1, To .2.1, Next .2.2.1, Taken .2.2.2.1, A .2.2.2.2.1, E .2.2.2.2.2.1 -/
def hasM (s:a0g) (b:Int):Bool:=decide (0≤b∧b < len s.Blocks)
def blockM (s:a0g) (b:Int):a0x:=s.Blocks.getD b.toNat a0x.z
def cellsM (s:a0g) (onE:Bool) (b:Int):List a0h:=if hasM s b = true then (if onE = true then (blockM s b).2.2.2.2.2.1 else (blockM s b).2.2.2.2.1) else []
def endM (s:a0g) (p:a0C):Int:=if hasM s p.Block = true then w.i64 (w.i64 (p.Base+(blockM s p.Block).2.1) - (blockM s p.Block).1) else p.Base
def settleN (s:a0g) (onE:Bool):Nat→a0C→a0C × Bool
 | 0,p=>(p,!hasM s p.Block || decide (p.Index≥len (cellsM s onE p.Block)))
 | n+1,p=>if hasM s p.Block = false then (p,true) else if p.Index < len (cellsM s onE p.Block) then (p,false) else if (blockM s p.Block).2.2.1 < 0 then (p,true) else settleN s onE n ⟨(blockM s p.Block).2.2.1,0,endM s p⟩
def settleM (s:a0g) (onE:Bool) (p:a0C):a0C × Bool:=settleN s onE s.Blocks.length p
def cellAt (s:a0g) (onE:Bool) (p:a0C):a0h:=(cellsM s onE p.Block).getD p.Index.toNat a0h.z
def nextM (s:a0g) (onE:Bool) (p:a0C):a0h × Int × Bool :=
 if (settleM s onE p).2 = true∨(settleM s onE p).1.Index < 0 then (a0h.z,endM s (settleM s onE p).1,false)
 else (cellAt s onE (settleM s onE p).1,w.i64 ((settleM s onE p).1.Base+(cellAt s onE (settleM s onE p).1).2.2.2.2.1),true)
def goM (s:a0g) (p:a0C) (t:Bool):a0C :=
 if t = true∧hasM s p.Block = true∧hasM s (blockM s p.Block).2.2.2.1 = true then ⟨(blockM s p.Block).2.2.2.1,0,endM s p⟩ else { p with Index:=w.i64 (p.Index+1) }
/-! Sides -/
def getM (d:a0v) (r:Int):Int:=if 1≤r∧r≤15 then d.Regs.getD r.toNat 0 else 0
def setM (d:a0v) (r v ready:Int):a0v:=if 1≤r∧r≤15 then { d with Regs:=d.Regs.set r.toNat v,Ready:=d.Ready.set r.toNat ready } else d
def behindM (d:a0v):a0v:={ d with Pos:={ d.Pos with Index:=w.i64 (d.Pos.Index+1) },Done:=w.i64 (d.Done+1) }
def goD (s:a0g) (cycle:Int) (d:a0v) (t:Bool):a0v:={ d with Pos:=goM s d.Pos t,Wait:=if t = true then w.i64 (cycle+2) else d.Wait,Done:=w.i64 (d.Done+1) }
def haltM (d:a0v):a0v:={ d with Halted:=true,Done:=w.i64 (d.Done+1) }
def latM (c:a0f) (op:Int):Int :=
 if op = 11∨op = 12 then (if c.Mul < 1∨c.Mul > 50 then 1 else c.Mul)
 else if 13≤op∧op≤16 then (if c.Div < 1∨c.Div > 50 then 1 else c.Div)
 else 1
def sg (x:Int):Int:=w.i32 x
def takenM (op a b:Int):Bool :=
 if op = 34 then a == b else if op = 35 then a != b else if op = 36 then decide (sg a < sg b) else if op = 37 then decide (sg a≥sg b) else if op = 38 then decide (a < b) else if op = 39 then decide (a≥b) else false
def one01 (b:Bool):Int:=if b = true then 1 else 0
def opM (op a b:Int):Int × Bool :=
 if op = 1 then (w.u32 (a+b),true) else if op = 2 then (w.u32 (a - b),true)
 else if op = 3 then (bitAnd .u32 a b,true) else if op = 4 then (bitOr .u32 a b,true) else if op = 5 then (bitXor .u32 a b,true)
 else if op = 6 then (shl .u32 a (bitAnd .u32 b 31),true) else if op = 7 then (shr .u32 a (bitAnd .u32 b 31),true) else if op = 8 then (w.u32 (shr .i32 (sg a) (bitAnd .u32 b 31)),true)
 else if op = 9 then (one01 (decide (sg a < sg b)),true) else if op = 10 then (one01 (decide (a < b)),true)
 else if op = 11 then (w.u32 (a*b),true) else if op = 12 then (w.u32 (shr .i64 (sg a*sg b) 32),true)
 else if b = 0 then (0,false)
 else if op = 13 then (w.u32 (Int.tdiv (sg a) (sg b)),true) else if op = 15 then (w.u32 (Int.tmod (sg a) (sg b)),true)
 else if op = 14 then (Int.tdiv a b,true) else (Int.tmod a b,true)
def plainM (op:Int):Int :=
 if op = 17 then 1 else if op = 18 then 3 else if op = 19 then 4 else if op = 20 then 5 else if op = 21 then 9 else if op = 22 then 6 else if op = 23 then 7 else if op = 24 then 8 else op
def doM (i:a0o) (a b:Int):Int × Bool :=
 if rightIns i = false∨formM i.1 > 3 then (0,true)
 else if formM i.1 = 3 then (w.u32 (shl .i64 i.2.2.2.2.1 18),true)
 else opM (plainM i.1) a (if formM i.1 = 2 then w.u32 i.2.2.2.2.1 else b)
end Go.Proofs.Zz

/- Instructions: program and reference answer as the model says. -/
namespace Go.Proofs.Zz
open Go
variable {N:Nat}
theorem retB {a b:Bool} {q:List DV} (h:a = b):(some (0,gB.dv a q):Option Rs) = some (0,gB.dv b q):=by rw [h]
theorem retL {t:Ty} {a b:List (Den t)} {q:List DV} (h:a = b):(some (0,(gD (.sl t)).dv a q):Option Rs) = some (0,(gD (.sl t)).dv b q):=by rw [h]
theorem a1T (op:Int):a5s N op = some (0,gI.dv (formM op) []):=by
 unfold a5s formM;simp only [a1u,decide_eq_true_eq,beq_iff_eq]
 repeat' split
 all_goals first | rfl | omega
theorem b4v (op:Int):b8x N op = some (0,gI.dv (formM op) []):=a1T (N:=N) op
theorem d5C (f:Int):d3S N f = some (0,gB.dv (hasDM f && decide (f≠5∧f≠6∧f≠7∧f≠8)) (gB.dv (hasAM f) (gB.dv (hasBM f) (gB.dv (hasIM f) [])))):=by
 unfold d3S hasDM hasAM hasBM hasIM;simp only [a1u,decide_eq_true_eq,beq_iff_eq]
 repeat' split
 all_goals first | (subst_vars; rfl) | skip
 rw [decide_eq_false (p:=1≤f∧f≤4) (by omega),decide_eq_false (p:=f = 1∨f = 2∨f = 4∨f = 5∨f = 6) (by omega),decide_eq_false (p:=f = 1∨f = 5∨f = 6) (by omega),decide_eq_false (p:=2≤f∧f≤7) (by omega)];rfl
theorem c7Z (f:Int):b1N N f = some (0,gB.dv (hasDM f) []):=by
 unfold b1N hasDM;simp only [a1u,decide_eq_true_eq,beq_iff_eq]
 repeat' split
 all_goals refine retB ?_
 all_goals rw [Bool.eq_iff_iff]; simp only [beq_iff_eq,decide_eq_true_eq,Bool.false_eq_true,true_iff,false_iff]; omega
theorem c6M (f:Int):b2r N f = some (0,gB.dv (hasAM f) []):=by
 unfold b2r hasAM;simp only [a1u,decide_eq_true_eq,beq_iff_eq]
 repeat' split
 all_goals refine retB ?_
 all_goals rw [Bool.eq_iff_iff]; simp only [beq_iff_eq,decide_eq_true_eq,Bool.false_eq_true,true_iff,false_iff]; omega
theorem c7Q (f:Int):a8k N f = some (0,gB.dv (hasBM f) []):=by
 unfold a8k hasBM;simp only [a1u,decide_eq_true_eq,beq_iff_eq]
 repeat' split
 all_goals refine retB ?_
 all_goals rw [Bool.eq_iff_iff]; simp only [beq_iff_eq,decide_eq_true_eq,Bool.false_eq_true,true_iff,false_iff]; omega
theorem d2v (f:Int):a8g N f = some (0,gB.dv (hasIM f) []):=by
 unfold a8g hasIM;simp only [a1u,decide_eq_true_eq,beq_iff_eq]
 repeat' split
 all_goals refine retB ?_
 all_goals rw [Bool.eq_iff_iff]; simp only [beq_iff_eq,decide_eq_true_eq,Bool.false_eq_true,true_iff,false_iff]; omega
theorem d1Y (n:Int) (h:Bool) (lo hi:Int):a1k N n h lo hi = some (0,gB.dv (fieldM n h lo hi) []):=by
 unfold a1k fieldM;cases h <;> simp only [a1u,decide_eq_true_eq,Bool.not_true,Bool.not_false,if_true,Bool.false_eq_true,if_false,reduceIte]
 · rfl
 ·
  split
  ·
   refine retB ?_;rw [Bool.eq_iff_iff]; simp only [decide_eq_true_eq]; omega
  ·
   refine retB ?_;rw [Bool.eq_iff_iff]; simp only [decide_eq_true_eq,Bool.false_eq_true,false_iff]; omega
theorem e1V (n:Int) (h:Bool):d0o N n h = some (0,gB.dv (fieldM n h 0 15) []):=by
 unfold d0o fieldM;cases h <;> simp only [a1u,decide_eq_true_eq,beq_iff_eq,Bool.false_eq_true,if_false,if_true]
 all_goals repeat' split
 all_goals refine retB ?_
 all_goals rw [Bool.eq_iff_iff]; simp only [decide_eq_true_eq,Bool.false_eq_true,true_iff,false_iff]; omega
theorem b9T (op:Int):0≤formM op∧formM op≤8:=by
 unfold formM
 repeat' split
 all_goals omega
theorem b6S (i:a0o):b2H N i = some (0,gB.dv (rightIns i) []):=by
 unfold b2H rightIns loM hiM;have hr:=b9T i.1;have h0:(decide (formM i.1≠0)) = decide (formM i.1 > 0):=by rw [Bool.eq_iff_iff]; simp only [decide_eq_true_eq]; omega
 simp only [b4v,c7Z,c6M,c7Q,d2v,d1Y,g7j,g7m,g7l,h0];generalize fieldM i.2.1 (hasDM (formM i.1)) 0 15 = d;generalize fieldM i.2.2.1 (hasAM (formM i.1)) 0 15 = a;generalize fieldM i.2.2.2.1 (hasBM (formM i.1)) 0 15 = b;generalize decide (formM i.1 > 0) = f;by_cases h1:i.1 = 22
 ·
  simp only [h1,beq_self_eq_true,g7k,true_or,if_true];cases f <;> cases d <;> cases a <;> cases b <;> rfl
 ·
  by_cases h2:i.1 = 23
  ·
   simp only [h2,show ((23:Int) == 22) = false from rfl,beq_self_eq_true,g7k,g7i,true_or,or_true,if_true];cases f <;> cases d <;> cases a <;> cases b <;> rfl
  ·
   by_cases h3:i.1 = 24
   ·
    simp only [h3,show ((24:Int) == 22) = false from rfl,show ((24:Int) == 23) = false from rfl,beq_self_eq_true,g7k,g7i,or_true,if_true];cases f <;> cases d <;> cases a <;> cases b <;> rfl
   ·
    simp only [beq_eq_false_iff_ne.2 h1,beq_eq_false_iff_ne.2 h2,beq_eq_false_iff_ne.2 h3,g7i,h1,h2,h3,or_self,if_false];cases f <;> cases d <;> cases a <;> cases b <;> rfl
theorem a5D (i:a0o):a4s N i = some (0,gB.dv (rightIns i) []):=by
 unfold a4s rightIns loM hiM;have hr:=b9T i.1;have hd:(hasDM (formM i.1) && decide (formM i.1≠5∧formM i.1≠6∧formM i.1≠7∧formM i.1≠8)) = hasDM (formM i.1):=by
  unfold hasDM; rw [Bool.eq_iff_iff]; simp only [Bool.and_eq_true,decide_eq_true_eq]; omega
 simp only [a1T,d5C,e1V,g7j,g7m,g7l,hd];have hI:i.1 = 22∨i.1 = 23∨i.1 = 24→hasIM (formM i.1) = true:=by
  rintro (h | h | h) <;> rw [h] <;> rfl
 generalize fieldM i.2.1 (hasDM (formM i.1)) 0 15 = d;generalize fieldM i.2.2.1 (hasAM (formM i.1)) 0 15 = a;generalize fieldM i.2.2.2.1 (hasBM (formM i.1)) 0 15 = b;generalize hasIM (formM i.1) = m at *;by_cases hf:formM i.1 = 0
 · simp only [hf,beq_self_eq_true,g7k,ne_eq,not_true,decide_false,Bool.false_and]
 ·
  simp only [beq_eq_false_iff_ne.2 hf,g7i,ne_eq,hf,not_false_eq_true,decide_true,Bool.true_and];cases d <;> cases a <;> cases b <;> simp only [Bool.not_true,Bool.not_false,g7k,g7i,Bool.true_and,Bool.false_and,Bool.and_false]
  have key:∀ lo hi:Int,bi (decide (i.2.2.2.2.1≥lo)) (some (0,gB.dv (decide (i.2.2.2.2.1≤hi)) [])) (some (0,gB.dv false [])) = (some (0,gB.dv (decide (lo≤i.2.2.2.2.1∧i.2.2.2.2.1≤hi)) []):Option Rs):=by
   intro lo hi;rw [a1u]; simp only [decide_eq_true_eq];split
   · refine retB ?_; rw [Bool.eq_iff_iff]; simp only [decide_eq_true_eq]; omega
   · refine retB ?_; rw [Bool.eq_iff_iff]; simp only [decide_eq_true_eq,Bool.false_eq_true,false_iff]; omega
  unfold fieldM;cases m with
  | true =>
   simp only [Bool.not_true,g7i,key,if_true];simp only [a1u,beq_iff_eq]
   repeat' split
   all_goals first | rfl | omega
  | false =>
   have h1:¬ (i.1 = 22∨i.1 = 23∨i.1 = 24):=fun h=>by have:=hI h; simp at this
   simp only [Bool.not_false,g7k,key,Bool.false_eq_true,if_false];simp only [a1u,bne_iff_ne,beq_iff_eq];split
   · refine retB ?_; rw [Bool.eq_iff_iff]; simp only [decide_eq_true_eq,Bool.false_eq_true,false_iff]; assumption
   ·
    rename_i h;rw [if_neg (by omega),if_neg (by omega),if_neg (by omega)];refine retB ?_; rw [Bool.eq_iff_iff]; simp only [decide_eq_true_eq]; omega
theorem rmT {α:Type} {a b:List α} {n:Nat} (h:(a.length+b.length)*n≤35184372088832):rm a b n = true:=decide_eq_true h
theorem d3B (i:a0o):b3d N i = some (0,(gD (.sl tI)).dv (readsM i) []):=by
 unfold b3d readsM;simp only [b6S,b4v,c6M,c7Q,g7j,g7m,g7l,rmT (a:=([]:List Int)) (b:=[i.2.2.1]) (n:=8) (by simp),rmT (a:=([]:List Int)) (b:=[i.2.2.2.1]) (n:=8) (by simp),rmT (a:=([]:List Int)++[i.2.2.1]) (b:=[i.2.2.2.1]) (n:=8) (by simp),g7n];generalize rightIns i = r;generalize hasAM (formM i.1) = a;generalize hasBM (formM i.1) = b;cases r <;> cases a <;> cases b <;> simp only [a1u,Bool.not_true,Bool.not_false,bne_iff_ne,true_and,false_and,if_true,if_false,Bool.false_eq_true,ne_eq] <;> (repeat' split) <;> rfl
theorem a7Q (i:a0o):a2Q N i = some (0,(gD (.sl tI)).dv (readsM i) []):=by
 unfold a2Q readsM;simp only [a5D,a1T,d5C,g7j,g7m,g7l,rmT (a:=([]:List Int)) (b:=[i.2.2.1]) (n:=8) (by simp),rmT (a:=([]:List Int)) (b:=[i.2.2.2.1]) (n:=8) (by simp),rmT (a:=([]:List Int)++[i.2.2.1]) (b:=[i.2.2.2.1]) (n:=8) (by simp),g7n];generalize rightIns i = r;generalize hasAM (formM i.1) = a;generalize hasBM (formM i.1) = b;cases r <;> cases a <;> cases b <;> simp only [a1u,Bool.not_true,Bool.not_false,bne_iff_ne,true_and,false_and,if_true,if_false,Bool.false_eq_true,ne_eq] <;> (repeat' split) <;> rfl
theorem e0d {i:a0o} (h:rightIns i = true):hasDM (formM i.1) = true∨i.2.1 = 0:=by
 unfold rightIns fieldM at h;simp only [Bool.and_eq_true,decide_eq_true_eq] at h;cases hd:hasDM (formM i.1) with
 | true=>exact .inl rfl
 | false =>
  rw [hd] at h;have:=h.1.1.1.2;simp at this;exact .inr this
theorem d2j (i:a0o):b2U N i = some (0,gI.dv (writesM i) []):=by
 unfold b2U writesM;simp only [b6S,b4v,c7Z,g7j,g7m,g7l];cases hr:rightIns i with
 | false=>rfl
 | true =>
  rcases e0d hr with h | h
  · rw [h]; rfl
  · rw [h]; cases hasDM (formM i.1) <;> rfl
end Go.Proofs.Zz

/- The registers that a cell names, and whether they are free: program and reference answer as the model says. -/
namespace Go.Proofs.Zz
open Go
variable {N:Nat}
theorem wI {x:Int} (h0:-9000000000000000000≤x) (h1:x≤9000000000000000000):w.i64 x = x:=IntWalk.i64_in _ (by omega)
theorem wS {i:Nat} (h:i≤100000000):w.i64 ((i:Int)+1) = ((i+1:Nat):Int):=by rw [wI (by omega) (by omega)]; omega
theorem a1l {i:Int} {n:Nat} (h0:0≤i) (h1:i < n):idx i n = true:=by simp [idx,h0,h1]
theorem a1Q {i n:Nat} (h:i < n):idx (i:Int) n = true:=a1l (by omega) (by omega)
theorem dt {p:Prop} [Decidable p] (h:p):decide p = true:=decide_eq_true h
theorem df {p:Prop} [Decidable p] (h:¬ p):decide p = false:=decide_eq_false h
theorem bt {a b:Int} (h:a = b):(a == b) = true:=beq_iff_eq.2 h
theorem bf {a b:Int} (h:a≠b):(a == b) = false:=beq_eq_false_iff_ne.2 h
theorem a1f {α:Type} {l:List α} {i:Nat} (h:i < l.length):decide ((i:Int) < len l) = true:=dt (by simp only [len]; omega)
theorem a1e {α:Type} {l:List α} {i:Nat} (h:l.length≤i):decide ((i:Int) < len l) = false:=df (by simp only [len]; omega)
theorem a2r {α:Type} {l:List α} {i:Nat} (d:α) (h:i < l.length):l.drop i = l.getD i d::l.drop (i+1):=by
 rw [List.drop_eq_getElem_cons h,List.getD_eq_getElem?_getD,List.getElem?_eq_getElem h,Option.getD_some]
theorem b6f {α:Type} {l:List α} {i:Nat} (d:α) (h:i < l.length):l.take (i+1) = l.take i++[l.getD i d]:=by
 rw [List.take_add_one,List.getD_eq_getElem?_getD,List.getElem?_eq_getElem h,Option.getD_some,Option.toList_some]
theorem a6r (i:a0o):(readsM i).length≤2:=by
 unfold readsM
 repeat' split
 all_goals simp
theorem d1x (c:a0h):(named0 c).length≤3:=by
 unfold named0;have:=a6r c.2.1
 repeat' split
 all_goals simp <;> omega
theorem c9x (c:a0h):b4P N c = some (0,(gD (.sl tI)).dv (named0 c) []):=by
 unfold b4P named0;have hre:∀ x:Int,rm (readsM c.2.1) [x] 8 = true:=fun x=>rmT (by have:=a6r c.2.1; simp only [List.length_cons,List.length_nil]; omega)
 simp only [d3B,d2j,g7j,g7m,g7l,hre,g7n];simp only [a1u,beq_iff_eq]
 repeat' split
 all_goals first | rfl | omega
theorem d1g (x:Int):a6U N x = some (0,gB.dv (!isReg x) []):=by
 unfold a6U isReg;simp only [a1u,decide_eq_true_eq];split
 · refine retB ?_; rw [df (by omega)]; rfl
 · refine retB ?_; rw [Bool.eq_iff_iff]; simp only [decide_eq_true_eq,Bool.not_eq_true',decide_eq_false_iff_not]; omega
theorem e0F (l:List Int) (hl:l.length≤1000):∀ (n i:Nat),i≤l.length→l.length - i < n→(l.take i).filter isReg = l.take i →
  (∃ r:Nat,a1L N n l (len l) (i:Int) = some (0,gI.dv (r:Int) [])∧r < l.length∧(l.take r).filter isReg = l.take r∧isReg (l.getD r 0) = false)∨(a1L N n l (len l) (i:Int) = some (1,[])∧l.filter isReg = l):=by
 intro n;induction n with
 | zero=>intro i h0 h1; omega
 | succ n ih =>
  intro i h0 h1 h2;show (∃ r:Nat,a2m N (a1L N n) l (len l) (i:Int) = _∧_)∨(a2m N (a1L N n) l (len l) (i:Int) = _∧_);unfold a2m;by_cases hi:i < l.length
  ·
   rw [a1f hi];simp only [g7k,a1Q hi,g7n,d1g,g7j,g7m,g7l,Int.toNat_natCast,wS (show i≤100000000 by omega)];cases h:isReg (l.getD i 0) with
   | false=>exact .inl ⟨i,rfl,hi,h2,h⟩
   | true=>exact ih (i+1) (by omega) (by omega) (by rw [b6f 0 hi,List.filter_append,h2,List.filter_cons_of_pos h,List.filter_nil])
  ·
   rw [a1e (by omega)];rw [List.take_of_length_le (by omega)] at h2;exact .inr ⟨rfl,h2⟩
theorem e4C (o : List Int) (ho : o.length ≤ 1000) : ∀ (n : Nat) (l : List Int) (i j : Nat), l.length = o.length → i ≤ j → j ≤ o.length → o.length - j < n → l.take i = (o.take j).filter isReg → l.drop j = o.drop j →
    ∃ (l' : List Int) (i' : Nat), a3d N n l (i : Int) (j : Int) = some (1, (gD (.sl tI)).dv l' (gI.dv (i' : Int) [])) ∧ i' ≤ l'.length ∧ l'.take i' = o.filter isReg ∧ l'.length = o.length := by
  intro n
  induction n with
  | zero => intro l i j h0 h1 h2 h3; omega
  | succ n ih =>
    intro l i j h0 h1 h2 h3 h4 h5
    show ∃ (l' : List Int) (i' : Nat), a3c N (a3d N n) l (i : Int) (j : Int) = _ ∧ _
    unfold a3c
    by_cases hj : j < o.length
    · have hx : l.getD j 0 = o.getD j 0 := by
        have := h5
        rw [a2r 0 (by omega), a2r 0 hj] at this
        exact (List.cons.inj this).1
      have h5' : l.drop (j + 1) = o.drop (j + 1) := by
        have := h5
        rw [a2r 0 (by omega), a2r 0 hj] at this
        exact (List.cons.inj this).2
      rw [a1f (by omega)]
      simp only [g7k, a1Q (show j < l.length by omega), g7n, d1g, g7j, g7m, g7l, Int.toNat_natCast, wS (show j ≤ 100000000 by omega), wS (show i ≤ 100000000 by omega), a1Q (show i < l.length by omega), Bool.not_not]
      cases h : isReg (l.getD j 0) with
      | false =>
        simp only [g7i]
        exact ih l i (j + 1) h0 (by omega) (by omega) (by omega) (by rw [h4, b6f 0 hj, List.filter_append, ← hx, List.filter_cons_of_neg (by rw [h]; simp), List.filter_nil, List.append_nil]) h5'
      | true =>
        simp only [g7k]
        refine ih _ (i + 1) (j + 1) (by simpa using h0) (by omega) (by omega) (by omega) ?_ ?_
        · rw [b6f 0 (by simp; omega), b6f 0 hj, List.filter_append, ← h4, ← hx, List.take_set_of_le (by omega)]
          simp only [List.filter_cons_of_pos h, List.filter_nil]
          congr 2
          rw [List.getD_eq_getElem?_getD, List.getElem?_set_self (by omega), Option.getD_some]
        · rw [List.drop_set_of_lt (by omega)]; exact h5'
    · rw [a1e (by omega)]
      rw [List.take_of_length_le (l := o) (i := j) (by omega)] at h4
      exact ⟨l, i, rfl, by omega, h4, h0⟩
theorem c9H (c:a0h) (hN:1001 < N):b4F N c = some (0,(gD (.sl tI)).dv (namedM c) []):=by
 unfold b4F namedM;rw [c9x,g7j,g7m,g7l];have hl:=d1x c;generalize named0 c = l at *
 suffices h:a4Z N l = some (0,(gD (.sl tI)).dv (l.filter isReg) []) by rw [h]; rfl
 unfold a4Z a8V;rcases e0F (N:=N) l (by omega) N 0 (Nat.zero_le _) (by omega) rfl with ⟨r,h1,h2,h3,h4⟩ | ⟨h1,h2⟩
 ·
  simp only [Int.natCast_zero] at h1;rw [h1,g7v,g7m,g7l,g7j,g7m,g7l,bf (show (r:Int)≠-1 by omega),g7i,wS (by omega)];obtain ⟨l',i',g1,g2,g3,g4⟩:=e4C (N:=N) l (by omega) N l r (r+1) rfl (by omega) (by omega) (by omega) (by
   rw [b6f 0 h2,List.filter_append,h3,List.filter_cons_of_neg (by rw [h4]; simp)]; simp) rfl
  have hlaid:(laid l' i' (List.replicate (List.length l' - i') 0)).length = l'.length:=by simp [laid]; omega
  have hsb:sb (i':Int) (len l') = true:=dt (by simp only [len]; omega);have hsb2:sb (i':Int) (len (laid l' i' (List.replicate (List.length l' - i') 0))) = true:=dt (by simp only [len,hlaid]; omega);rw [g1,g7u,g7m,g7m,g7l];simp only [Int.toNat_natCast,Int.natCast_zero];rw [hsb,g7n,hsb2,g7n];refine retL ?_;simp only [Nat.sub_zero,List.drop_zero,laid];rw [List.take_append_of_le_length (by simp; omega),List.take_take,Nat.min_self,g3]
 ·
  simp only [Int.natCast_zero] at h1;rw [h1,g7t _ _ (by decide),g7l,g7j,g7m,g7l,bt rfl,g7k,h2]
/-! Are they free? -/
theorem e3X (r:Int) (hr:isReg r = true) (d:a0v) (cy:Int):b2b N r d cy = some (0,gB.dv (!decide (0≤d.Ready.getD r.toNat 0∧d.Ready.getD r.toNat 0≤cy)) (a3u.dv d (gI.dv cy []))):=by
 unfold b2b;simp only [isReg,decide_eq_true_eq] at hr;rw [a1l (by omega) (by omega)];simp only [g7n,a1u,decide_eq_true_eq];split
 · rw [df (by omega)]; rfl
 ·
  congr 3;rw [Bool.eq_iff_iff]; simp only [decide_eq_true_eq,Bool.not_eq_true',decide_eq_false_iff_not]; omega
theorem a1E {α:Type} {l:List α} {i:Nat} (d:α) (h:i < l.length):l.getD i d∈l:=by
 rw [List.getD_eq_getElem?_getD,List.getElem?_eq_getElem h,Option.getD_some]; exact List.getElem_mem h
theorem e3T (l:List Int) (hl:l.length≤1000) (hg:∀ x∈l,isReg x = true) (d:a0v) (cy:Int):∀ (n i:Nat),i≤l.length→l.length - i < n →
  (∃ r:Nat,a1v N n l (len l) (i:Int) d cy = some (0,gI.dv (r:Int) (a3u.dv d (gI.dv cy [])))∧((l.drop i).all fun r=>decide (0≤d.Ready.getD r.toNat 0∧d.Ready.getD r.toNat 0≤cy)) = false) ∨
  (a1v N n l (len l) (i:Int) d cy = some (1,a3u.dv d (gI.dv cy []))∧((l.drop i).all fun r=>decide (0≤d.Ready.getD r.toNat 0∧d.Ready.getD r.toNat 0≤cy)) = true):=by
 intro n;induction n with
 | zero=>intro i h0 h1; omega
 | succ n ih =>
  intro i h0 h1;show (∃ r:Nat,a1S N (a1v N n) l (len l) (i:Int) d cy = _∧_)∨(a1S N (a1v N n) l (len l) (i:Int) d cy = _∧_);unfold a1S;by_cases hi:i < l.length
  ·
   rw [a1f hi,a2r 0 hi,List.all_cons];simp only [g7k,a1Q hi,g7n,e3X _ (hg _ (a1E 0 hi)),g7j,g7m,g7l,Int.toNat_natCast,wS (show i≤100000000 by omega)];cases h:decide (0≤d.Ready.getD (l.getD i 0).toNat 0∧d.Ready.getD (l.getD i 0).toNat 0≤cy) with
   | false=>exact .inl ⟨i,rfl,rfl⟩
   | true =>
    simp only [Bool.not_true,g7i,Bool.true_and];exact ih (i+1) (by omega) (by omega)
  ·
   rw [a1e (by omega),List.drop_of_length_le (by omega)];exact .inr ⟨rfl,rfl⟩
theorem d1l (c:a0h):∀ x∈namedM c,isReg x = true:=fun x h=>(List.mem_filter.1 h).2
theorem d1A (c:a0h):(namedM c).length≤3:=Nat.le_trans (List.length_filter_le _ _) (d1x c)
theorem c1g (d:a0v) (c:a0h) (cy:Int) (hN:1001 < N):b3o N d c cy = some (0,gB.dv (freeM d c cy) []):=by
 unfold b3o freeM;rw [c9H c hN,g7j,g7m,g7l];unfold a6b a6V;have h3:=d1A c;rcases e3T (N:=N) (namedM c) (by omega) (d1l c) d cy N 0 (Nat.zero_le _) (by omega) with ⟨r,h1,h2⟩ | ⟨h1,h2⟩
 ·
  rw [List.drop_zero] at h2;simp only [Int.natCast_zero] at h1;rw [h1];simp only [g7v,g7j,g7m,g7l,dt (show (r:Int)≥0 by omega)];rw [h2]; rfl
 ·
  rw [List.drop_zero] at h2;simp only [Int.natCast_zero] at h1;rw [h1,g7t _ _ (by decide)];simp only [g7j,g7m,g7l];rw [h2]; rfl
end Go.Proofs.Zz
