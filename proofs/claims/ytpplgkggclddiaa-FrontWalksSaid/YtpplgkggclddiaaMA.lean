import Derived.Test.YtpplgkggclddiaaF2
import Derived.IntWalk
set_option linter.unusedSimpArgs false
set_option linter.unusedVariables false
/- The model of the core: what program and reference both do, over plain data. -/
namespace Go.Proofs.Zz
open Go
/-! Instructions -/
def formM (op:Int):Int :=
 if op < 1∨41 < op then 0 else if op≤16 then 1 else if op≤24 then 2 else if op = 25 then 3 else if op≤30 then 4 else if op≤33 then 5 else if op≤39 then 6 else if op = 40 then 7 else 8
def hasDM (f:Int):Bool:=decide (1≤f∧f≤4)
def hasAM (f:Int):Bool:=decide (f = 1∨f = 2∨f = 4∨f = 5∨f = 6)
def hasBM (f:Int):Bool:=decide (f = 1∨f = 5∨f = 6)
def hasIM (f:Int):Bool:=decide (2≤f∧f≤7)
def fieldM (n:Int) (h:Bool) (lo hi:Int):Bool:=if h = true then decide (lo≤n∧n≤hi) else decide (n = 0)
def loM (op:Int):Int:=if op = 22∨op = 23∨op = 24 then 0 else -8192
def hiM (op:Int):Int:=if op = 22∨op = 23∨op = 24 then 31 else 8191
def rightIns (i:api_Ins):Bool :=
 decide (formM i.1≠0) && fieldM i.2.1 (hasDM (formM i.1)) 0 15 && fieldM i.2.2.1 (hasAM (formM i.1)) 0 15 && fieldM i.2.2.2.1 (hasBM (formM i.1)) 0 15 && fieldM i.2.2.2.2.1 (hasIM (formM i.1)) (loM i.1) (hiM i.1)
def readsM (i:api_Ins):List Int :=
 if rightIns i = true then (if hasAM (formM i.1) = true∧i.2.2.1≠0 then [i.2.2.1] else [])++(if hasBM (formM i.1) = true∧i.2.2.2.1≠0 then [i.2.2.2.1] else []) else []
/-! Cells: kind .1, instruction .2.1, register .2.2.1, place .2.2.2.1, offset .2.2.2.2.1 -/
/-! Streams: blocks From .1, To .2.1, Next .2.2.1, Taken .2.2.2.1, A .2.2.2.2.1, E .2.2.2.2.2.1 -/
def hasM (s:api_Split) (b:Int):Bool:=decide (0≤b∧b < len s.Blocks)
def blockM (s:api_Split) (b:Int):api_Block:=s.Blocks.getD b.toNat api_Block.z
def cellsM (s:api_Split) (onE:Bool) (b:Int):List api_Cell:=if hasM s b = true then (if onE = true then (blockM s b).2.2.2.2.2.1 else (blockM s b).2.2.2.2.1) else []
def endM (s:api_Split) (p:api_Pos):Int:=if hasM s p.Block = true then w.i64 (w.i64 (p.Base+(blockM s p.Block).2.1) - (blockM s p.Block).1) else p.Base
def settleN (s:api_Split) (onE:Bool):Nat→api_Pos→api_Pos × Bool
 | 0,p=>(p,!hasM s p.Block || decide (p.Index≥len (cellsM s onE p.Block)))
 | n+1,p=>if hasM s p.Block = false then (p,true) else if p.Index < len (cellsM s onE p.Block) then (p,false) else if (blockM s p.Block).2.2.1 < 0 then (p,true) else settleN s onE n ⟨(blockM s p.Block).2.2.1,0,endM s p⟩
def settleM (s:api_Split) (onE:Bool) (p:api_Pos):api_Pos × Bool:=settleN s onE s.Blocks.length p
def cellAt (s:api_Split) (onE:Bool) (p:api_Pos):api_Cell:=(cellsM s onE p.Block).getD p.Index.toNat api_Cell.z
def nextM (s:api_Split) (onE:Bool) (p:api_Pos):api_Cell × Int × Bool :=
 if (settleM s onE p).2 = true∨(settleM s onE p).1.Index < 0 then (api_Cell.z,endM s (settleM s onE p).1,false)
 else (cellAt s onE (settleM s onE p).1,w.i64 ((settleM s onE p).1.Base+(cellAt s onE (settleM s onE p).1).2.2.2.2.1),true)
def goM (s:api_Split) (p:api_Pos) (t:Bool):api_Pos :=
 if t = true∧hasM s p.Block = true∧hasM s (blockM s p.Block).2.2.2.1 = true then ⟨(blockM s p.Block).2.2.2.1,0,endM s p⟩ else { p with Index:=w.i64 (p.Index+1) }
/-! Sides -/
def sg (x:Int):Int:=w.i32 x
def takenM (op a b:Int):Bool :=
 if op = 34 then a == b else if op = 35 then a != b else if op = 36 then decide (sg a < sg b) else if op = 37 then decide (sg a≥sg b) else if op = 38 then decide (a < b) else if op = 39 then decide (a≥b) else false
def one01 (b:Bool):Int:=if b = true then 1 else 0
def opM (op a b:Int):Int × Bool :=
 if op = 1 then (w.u32 (a+b),true) else if op = 2 then (w.u32 (a - b),true)
 else if op = 3 then (bitAnd .u32 a b,true) else if op = 4 then (bitOr .u32 a b,true) else if op = 5 then (bitXor .u32 a b,true)
 else if op = 6 then (shl .u32 a (bitAnd .u32 b 31),true) else if op = 7 then (shr .u32 a (bitAnd .u32 b 31),true) else if op = 8 then (w.u32 (shr .i32 (sg a) (bitAnd .u32 b 31)),true)
 else if op = 9 then (one01 (decide (sg a < sg b)),true) else if op = 10 then (one01 (decide (a < b)),true)
 else if op = 11 then (w.u32 (a*b),true) else if op = 12 then (w.u32 (shr .i64 (sg a*sg b) 32),true)
 else if b = 0 then (0,false)
 else if op = 13 then (w.u32 (Int.tdiv (sg a) (sg b)),true) else if op = 15 then (w.u32 (Int.tmod (sg a) (sg b)),true)
 else if op = 14 then (Int.tdiv a b,true) else (Int.tmod a b,true)
def plainM (op:Int):Int :=
 if op = 17 then 1 else if op = 18 then 3 else if op = 19 then 4 else if op = 20 then 5 else if op = 21 then 9 else if op = 22 then 6 else if op = 23 then 7 else if op = 24 then 8 else op
def doM (i:api_Ins) (a b:Int):Int × Bool :=
 if rightIns i = false∨formM i.1 > 3 then (0,true)
 else if formM i.1 = 3 then (w.u32 (shl .i64 i.2.2.2.2.1 18),true)
 else opM (plainM i.1) a (if formM i.1 = 2 then w.u32 i.2.2.2.2.1 else b)
end Go.Proofs.Zz

/- Instructions: program and reference answer as the model says. -/
namespace Go.Proofs.Zz
open Go
variable {N:Nat}
theorem retB {a b:Bool} {q:List DV} (h:a = b):(some (0,gB.dv a q):Option Rs) = some (0,gB.dv b q):=by rw [h]
theorem r1_Form_is (op:Int):r1_Form N op = some (0,gI.dv (formM op) []):=by
 unfold r1_Form formM;simp only [bi_if,decide_eq_true_eq,beq_iff_eq]
 repeat' split
 all_goals first | rfl | omega
theorem r1_has_is (f:Int):r1_has N f = some (0,gB.dv (hasDM f && decide (f≠5∧f≠6∧f≠7∧f≠8)) (gB.dv (hasAM f) (gB.dv (hasBM f) (gB.dv (hasIM f) [])))):=by
 unfold r1_has hasDM hasAM hasBM hasIM;simp only [bi_if,decide_eq_true_eq,beq_iff_eq]
 repeat' split
 all_goals first | (subst_vars; rfl) | skip
 rw [decide_eq_false (p:=1≤f∧f≤4) (by omega),decide_eq_false (p:=f = 1∨f = 2∨f = 4∨f = 5∨f = 6) (by omega),decide_eq_false (p:=f = 1∨f = 5∨f = 6) (by omega),decide_eq_false (p:=2≤f∧f≤7) (by omega)];rfl
theorem r1_reg_is (n:Int) (h:Bool):r1_reg N n h = some (0,gB.dv (fieldM n h 0 15) []):=by
 unfold r1_reg fieldM;cases h <;> simp only [bi_if,decide_eq_true_eq,beq_iff_eq,Bool.false_eq_true,if_false,if_true]
 all_goals repeat' split
 all_goals refine retB ?_
 all_goals rw [Bool.eq_iff_iff]; simp only [decide_eq_true_eq,Bool.false_eq_true,true_iff,false_iff]; omega
theorem formM_range (op:Int):0≤formM op∧formM op≤8:=by
 unfold formM
 repeat' split
 all_goals omega
theorem r1_RightIns_is (i:api_Ins):r1_RightIns N i = some (0,gB.dv (rightIns i) []):=by
 unfold r1_RightIns rightIns loM hiM;have hr:=formM_range i.1;have hd:(hasDM (formM i.1) && decide (formM i.1≠5∧formM i.1≠6∧formM i.1≠7∧formM i.1≠8)) = hasDM (formM i.1):=by
  unfold hasDM; rw [Bool.eq_iff_iff]; simp only [Bool.and_eq_true,decide_eq_true_eq]; omega
 simp only [r1_Form_is,r1_has_is,r1_reg_is,on1_some,gg_dv,gg_nil,hd];have hI:i.1 = 22∨i.1 = 23∨i.1 = 24→hasIM (formM i.1) = true:=by
  rintro (h | h | h) <;> rw [h] <;> rfl
 generalize fieldM i.2.1 (hasDM (formM i.1)) 0 15 = d;generalize fieldM i.2.2.1 (hasAM (formM i.1)) 0 15 = a;generalize fieldM i.2.2.2.1 (hasBM (formM i.1)) 0 15 = b;generalize hasIM (formM i.1) = m at *;by_cases hf:formM i.1 = 0
 · simp only [hf,beq_self_eq_true,bi_true,ne_eq,not_true,decide_false,Bool.false_and]
 ·
  simp only [beq_eq_false_iff_ne.2 hf,bi_false,ne_eq,hf,not_false_eq_true,decide_true,Bool.true_and];cases d <;> cases a <;> cases b <;> simp only [Bool.not_true,Bool.not_false,bi_true,bi_false,Bool.true_and,Bool.false_and,Bool.and_false]
  have key:∀ lo hi:Int,bi (decide (i.2.2.2.2.1≥lo)) (some (0,gB.dv (decide (i.2.2.2.2.1≤hi)) [])) (some (0,gB.dv false [])) = (some (0,gB.dv (decide (lo≤i.2.2.2.2.1∧i.2.2.2.2.1≤hi)) []):Option Rs):=by
   intro lo hi;rw [bi_if]; simp only [decide_eq_true_eq];split
   · refine retB ?_; rw [Bool.eq_iff_iff]; simp only [decide_eq_true_eq]; omega
   · refine retB ?_; rw [Bool.eq_iff_iff]; simp only [decide_eq_true_eq,Bool.false_eq_true,false_iff]; omega
  unfold fieldM;cases m with
  | true =>
   simp only [Bool.not_true,bi_false,key,if_true];simp only [bi_if,beq_iff_eq]
   repeat' split
   all_goals first | rfl | omega
  | false =>
   have h1:¬ (i.1 = 22∨i.1 = 23∨i.1 = 24):=fun h=>by have:=hI h; simp at this
   simp only [Bool.not_false,bi_true,key,Bool.false_eq_true,if_false];simp only [bi_if,bne_iff_ne,beq_iff_eq];split
   · refine retB ?_; rw [Bool.eq_iff_iff]; simp only [decide_eq_true_eq,Bool.false_eq_true,false_iff]; assumption
   ·
    rename_i h;rw [if_neg (by omega),if_neg (by omega),if_neg (by omega)];refine retB ?_; rw [Bool.eq_iff_iff]; simp only [decide_eq_true_eq]; omega
theorem rmT {α:Type} {a b:List α} {n:Nat} (h:(a.length+b.length)*n≤35184372088832):rm a b n = true:=decide_eq_true h
theorem r1_Reads_is (i:api_Ins):r1_Reads N i = some (0,(gD (.sl tI)).dv (readsM i) []):=by
 unfold r1_Reads readsM;simp only [r1_RightIns_is,r1_Form_is,r1_has_is,on1_some,gg_dv,gg_nil,rmT (a:=([]:List Int)) (b:=[i.2.2.1]) (n:=8) (by simp),rmT (a:=([]:List Int)) (b:=[i.2.2.2.1]) (n:=8) (by simp),rmT (a:=([]:List Int)++[i.2.2.1]) (b:=[i.2.2.2.1]) (n:=8) (by simp),gd_true];generalize rightIns i = r;generalize hasAM (formM i.1) = a;generalize hasBM (formM i.1) = b;cases r <;> cases a <;> cases b <;> simp only [bi_if,Bool.not_true,Bool.not_false,bne_iff_ne,true_and,false_and,if_true,if_false,Bool.false_eq_true,ne_eq] <;> (repeat' split) <;> rfl
end Go.Proofs.Zz

/- The registers that a cell names, and whether they are free: program and reference answer as the model says. -/
namespace Go.Proofs.Zz
open Go
variable {N:Nat}
theorem wI {x:Int} (h0:-9000000000000000000≤x) (h1:x≤9000000000000000000):w.i64 x = x:=IntWalk.i64_in _ (by omega)
theorem wS {i:Nat} (h:i≤100000000):w.i64 ((i:Int)+1) = ((i+1:Nat):Int):=by rw [wI (by omega) (by omega)]; omega
theorem idx_t {i:Int} {n:Nat} (h0:0≤i) (h1:i < n):idx i n = true:=by simp [idx,h0,h1]
theorem idx_n {i n:Nat} (h:i < n):idx (i:Int) n = true:=idx_t (by omega) (by omega)
theorem dt {p:Prop} [Decidable p] (h:p):decide p = true:=decide_eq_true h
theorem df {p:Prop} [Decidable p] (h:¬ p):decide p = false:=decide_eq_false h
theorem bt {a b:Int} (h:a = b):(a == b) = true:=beq_iff_eq.2 h
theorem bf {a b:Int} (h:a≠b):(a == b) = false:=beq_eq_false_iff_ne.2 h
theorem lt_len {α:Type} {l:List α} {i:Nat} (h:i < l.length):decide ((i:Int) < len l) = true:=dt (by simp only [len]; omega)
theorem ge_len {α:Type} {l:List α} {i:Nat} (h:l.length≤i):decide ((i:Int) < len l) = false:=df (by simp only [len]; omega)
theorem readsM_len (i:api_Ins):(readsM i).length≤2:=by
 unfold readsM
 repeat' split
 all_goals simp
/-! Are they free? -/
theorem getD_mem {α:Type} {l:List α} {i:Nat} (d:α) (h:i < l.length):l.getD i d∈l:=by
 rw [List.getD_eq_getElem?_getD,List.getElem?_eq_getElem h,Option.getD_some]; exact List.getElem_mem h
end Go.Proofs.Zz
