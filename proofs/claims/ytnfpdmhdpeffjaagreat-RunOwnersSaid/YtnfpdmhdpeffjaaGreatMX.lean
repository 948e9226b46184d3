import Derived.Test.YtnfpdmhdpeffjaaGreatMC
import Derived.Test.YtnfpdmhdpeffjaaGreatNA
set_option linter.unusedSimpArgs false
set_option linter.unusedVariables false
/- What E does in a cycle: the program answers as the model says. -/
namespace Go.Proofs.Zz
open Go
variable {N:Nat}
structure Wf (x:a0b):Prop extends StOk x where
 ldq:x.Ldq.length≤1000
 sdq:x.Sdq.length≤1000
 aeq:x.Aeq.length≤1000
 abq:x.Abq.length≤1000
 ebq:x.Ebq.length≤1000
 wri:x.Writes.length≤15000
 gA:∀ r∈x.A.Regs,U32 r
 gE:∀ r∈x.E.Regs,U32 r
theorem b1T {d:a0v} (h:∀ r∈d.Regs,U32 r) (r:Int):U32 (getM d r):=by
 unfold getM;split
 ·
  rw [List.getD_eq_getElem?_getD];by_cases hi:r.toNat < d.Regs.length
  · rw [List.getElem?_eq_getElem hi,Option.getD_some]; exact h _ (List.getElem_mem hi)
  · rw [List.getElem?_eq_none (by omega)]; exact ⟨by simp,by simp⟩
 · exact ⟨by simp,by simp⟩
theorem c3Q (k st pc:Int) (x:a0b):a6z N k st pc x = some (0,a0c.dv (noteM x k st pc) []):=by
 unfold a6z noteM;by_cases h:x.Trap.Kind = 0
 · rw [bt h,if_pos (.inl h)]; rfl
 ·
  rw [bf h,g7i];by_cases h2:x.Trap.Step > st
  · rw [dt h2,if_pos (.inr h2)]; rfl
  · rw [df h2,if_neg (by omega)]; rfl
theorem b8F (x:a0b) (st:Int):a2B N x st = some (0,gB.dv (stoppedM x st) []):=by
 unfold a2B stoppedM;simp only [a8H];refine retB ?_;rw [Bool.eq_iff_iff]; simp only [Bool.and_eq_true,bne_iff_ne,decide_eq_true_eq]
theorem rm0 {α:Type} {l:List α} {n:Nat} (h:l.length*n≤35184372088832):rm [] l n = true:=rmT (by simpa using h)
/-! The load queue's first -/
def popM (l:List a0q):List a0q × Int × Bool:=if l.length = 0∨(l.getD 0 a0q.z).2.1 = false then (l,0,false) else (l.drop 1,(l.getD 0 a0q.z).2.2.1,true)
theorem sb_1 {α:Type} {l:List α} (h:l.length≠0):sb 1 (len l) = true:=dt (by simp only [len]; omega)
theorem len0 {α:Type} {l:List α}:(len l == 0) = decide (l.length = 0):=by
 rw [Bool.eq_iff_iff,beq_iff_eq,decide_eq_true_eq]; simp only [len]; omega
theorem e9e (l:List a0q) (h:l.length≤1000):c0G N l = some (0,(gD (.sl a0k)).dv (popM l).1 (gW.dv (popM l).2.1 (gB.dv (popM l).2.2 []))):=by
 unfold c0G a1a popM;rw [rm0 (by omega),g7n,List.nil_append,g7j,g7m,g7l,len0];by_cases h0:l.length = 0
 · rw [dt h0,if_pos (.inl h0)]; rfl
 ·
  rw [df h0,g7i,a1l (i:=0) (by omega) (by omega),g7n];cases hf:(l.getD 0 a0q.z).2.1 with
  | false=>rw [if_pos (.inr rfl)]; rfl
  | true=>rw [if_neg (by simp [h0]),sb_1 h0]; rfl
/-! E's cell, and what it does -/
def atE (s:a0g) (x:a0b):a0h × Int × Bool × a0b :=
 if x.E.Halted = true∨x.E.Wait > x.Cycle then (a0h.z,0,false,x)
 else
  let p:=settleM s true x.E.Pos
  let x1:a0b:={ x with E:={ x.E with Pos:=p.1 } }
  let x2:=if p.2 = true then noteM x1 4 (nextM s true p.1).2.1 (blockM s p.1.Block).2.1 else x1
  ((nextM s true p.1).1,(nextM s true p.1).2.1,(nextM s true p.1).2.2 && !stoppedM x2 (nextM s true p.1).2.1,x2)
def actE (c:a0f) (s:a0g) (k:a0h) (st:Int) (x:a0b):a0b :=
 if k.1 = 1 then
  if (doM k.2.1 (getM x.E k.2.1.2.2.1) (getM x.E k.2.1.2.2.2.1)).2 = true then
   { x with E:=behindM (setM x.E k.2.1.2.1 (doM k.2.1 (getM x.E k.2.1.2.2.1) (getM x.E k.2.1.2.2.2.1)).1 (w.i64 (x.Cycle+latM c k.2.1.1))) }
  else noteM x 3 st k.2.2.2.1
 else if k.1 = 6 then
  if x.Aeq.length = 0 then x else { x with E:=behindM (setM x.E k.2.2.1 (x.Aeq.getD 0 0) (w.i64 (x.Cycle+1))),Aeq:=x.Aeq.drop 1 }
 else if k.1 = 7 then
  if (popM x.Ldq).2.2 = false then x else { x with E:=behindM (setM x.E k.2.1.2.1 (popM x.Ldq).2.1 (w.i64 (x.Cycle+1))),Ldq:=(popM x.Ldq).1 }
 else if k.1 = 8 then
  if len x.Sdq < c.Sdq then { x with E:=behindM x.E,Sdq:=x.Sdq++[getM x.E k.2.2.1] } else x
 else if k.1 = 9 then
  if len x.Ebq≥c.Ebq then x else { x with E:=goD s x.Cycle x.E (takenM k.2.1.1 (getM x.E k.2.1.2.2.1) (getM x.E k.2.1.2.2.2.1)),Ebq:=x.Ebq++[takenM k.2.1.1 (getM x.E k.2.1.2.2.1) (getM x.E k.2.1.2.2.2.1)] }
 else if k.1 = 10 then
  if x.Abq.length = 0 then x else { x with E:=goD s x.Cycle x.E (x.Abq.getD 0 false),Abq:=x.Abq.drop 1 }
 else if k.1 = 11 then { x with E:=goD s x.Cycle x.E true }
 else if k.1 = 12 then { x with E:=haltM x.E }
 else x
def turnE (c:a0f) (s:a0g) (x:a0b):a0b :=
 if (atE s x).2.2.1 = false∨freeM (atE s x).2.2.2.E (atE s x).1 (atE s x).2.2.2.Cycle = false then (atE s x).2.2.2 else actE c s (atE s x).1 (atE s x).2.1 (atE s x).2.2.2
def issueE (c:a0f) (s:a0g) (x:a0b):a0b:=if rightM c s x = true then turnE c s x else x
def NextOk (s:a0g):Prop:=∀ b:Int,hasM s b = true→(blockM s b).2.2.1 < 0∨(b < (blockM s b).2.2.1∧hasM s (blockM s b).2.2.1 = true)
theorem a3G {s:a0g} (h:NextOk s) (e:Bool):∀ (n:Nat) (p:a0C),hasM s p.Block = true→hasM s (settleN s e n p).1.Block = true
 | 0,p,hp=>hp
 | n+1,p,hp=>by
  unfold settleN;rw [if_neg (by rw [hp]; simp)];split
  · exact hp
  ·
   split
   · exact hp
   ·
    rename_i h3;exact a3G h e n _ ((h _ hp).resolve_left h3).2
theorem e6R (s:a0g) (x:a0b) (hl:s.Blocks.length≤100000) (hN:s.Blocks.length < N) (hn:NextOk s) (hb:hasM s x.E.Pos.Block = true) :
  b7V N s true x = some (0,a0G.dv (atE s x).1 (gI.dv (atE s x).2.1 (gB.dv (atE s x).2.2.1 (a0c.dv (atE s x).2.2.2 [])))):=by
 unfold b7V atE;cases hh:x.E.Halted with
 | true=>rw [if_pos (.inl rfl)]; rfl
 | false =>
  by_cases hw:x.E.Wait > x.Cycle
  · rw [dt hw,if_pos (.inr hw)]; rfl
  ·
   rw [df hw,if_neg (by simp [hw]),g7i,g7i];have hs:=a3G hn true s.Blocks.length x.E.Pos hb;rw [show settleN s true s.Blocks.length x.E.Pos = settleM s true x.E.Pos from rfl] at hs;simp only [b0l s true x.E.Pos hl hN,g7j,g7m,g7l,a6W s true _ hl hN,c3Q,b8F];generalize settleM s true x.E.Pos = p at *;obtain ⟨p,f⟩:=p;rw [show s.Blocks.getD p.Block.toNat a0x.z = blockM s p.Block from rfl,a7X hs];cases f with
   | true =>
    simp only [g7k,g7n,if_true];cases (nextM s true p).2.2 <;> rfl
   | false =>
    simp only [g7i,Bool.false_eq_true,if_false];cases (nextM s true p).2.2 <;> rfl
theorem e7A (c:a0f) (k:a0h) (st:Int) (x:a0b) (h:∀ r∈x.E.Regs,U32 r) (hk:k.1 = 1) (s:a0g):b7H N c k st x = some (0,a0c.dv (actE c s k st x) []):=by
 unfold b7H actE;rw [if_pos hk];simp only [a3A,g7j,g7m,g7l,d6i k.2.1 (b1T h _) (b1T h _),c3Q,b9w,a8u,a5e];cases (doM k.2.1 (getM x.E k.2.1.2.2.1) (getM x.E k.2.1.2.2.2.1)).2 <;> rfl
theorem d3Y (c:a0f) (s:a0g) (x:a0b) (h:Wf x) (hl:s.Blocks.length≤100000) (hN:s.Blocks.length < N) (hN2:1001 < N) (hn:NextOk s) (hb:hasM s x.E.Pos.Block = true) :
  b8D N c s x = some (0,a0c.dv (turnE c s x) []):=by
 unfold b8D turnE;simp only [e6R s x hl hN hn hb,g7j,g7m,g7l,c1g _ _ _ hN2];have hw:(atE s x).2.2.2.Ldq = x.Ldq∧(atE s x).2.2.2.Sdq = x.Sdq∧(atE s x).2.2.2.Ebq = x.Ebq∧(atE s x).2.2.2.Abq = x.Abq∧(atE s x).2.2.2.Aeq = x.Aeq∧(atE s x).2.2.2.E.Regs = x.E.Regs:=by
  unfold atE noteM
  repeat' (first | split | exact ⟨rfl,rfl,rfl,rfl,rfl,rfl⟩ | simp only [])
 generalize atE s x = a at *;obtain ⟨k,st,ok,x⟩:=a;simp only at hw ⊢;obtain ⟨w1,w2,w3,w4,w5,w6⟩:=hw;cases ok with
 | false=>rw [if_pos (.inl rfl)]; rfl
 | true =>
  simp only [Bool.not_true,g7i,Bool.true_eq_false,false_or];cases hf:freeM x.E k x.Cycle with
  | false=>rw [if_pos rfl]; rfl
  | true =>
   rw [if_neg (by simp),Bool.not_true,g7i];by_cases h1:k.1 = 1
   · rw [bt h1,g7k,e7A c k st x (by rw [w6]; exact h.gE) h1 s,g7j,g7m,g7l]
   rw [bf h1,g7i];by_cases h6:k.1 = 6
   ·
    unfold actE;rw [bt h6,g7k,if_neg h1,if_pos h6];by_cases hq:x.Aeq.length = 0
    · rw [df (show ¬ len x.Aeq > 0 by simp only [len]; omega),if_pos hq]; rfl
    ·
     rw [dt (show len x.Aeq > 0 by simp only [len]; omega),if_neg hq,g7k,a1l (i:=0) (by omega) (by omega),g7n];simp only [a8u,g7j,g7m,g7l,sb_1 hq,g7n,a5e]
   rw [bf h6,g7i];by_cases h7:k.1 = 7
   ·
    unfold actE c8T;rw [bt h7,g7k,if_neg h1,if_neg h6,if_pos h7];simp only [e9e x.Ldq (by rw [w1]; exact h.ldq),g7j,g7m,g7l,a8u,a5e];cases (popM x.Ldq).2.2 <;> rfl
   rw [bf h7,g7i];by_cases h8:k.1 = 8
   ·
    unfold actE;rw [bt h8,g7k,if_neg h1,if_neg h6,if_neg h7,if_pos h8];by_cases hq:len x.Sdq < c.Sdq
    ·
     rw [dt hq,if_pos hq,g7k];simp only [a3A,g7j,g7m,g7l,rmT (show (x.Sdq.length+[getM x.E k.2.2.1].length)*4≤35184372088832 by rw [w2]; have:=h.sdq; simp; omega),g7n,a5e]
    · rw [df hq,if_neg hq]; rfl
   rw [bf h8,g7i];by_cases h9:k.1 = 9
   ·
    unfold actE a6G;rw [bt h9,g7k,if_neg h1,if_neg h6,if_neg h7,if_neg h8,if_pos h9];by_cases hq:len x.Ebq≥c.Ebq
    · rw [dt hq,if_pos hq]; rfl
    ·
     rw [df hq,if_neg hq,g7i];simp only [a3A,g7j,g7m,g7l,c5r,rmT (show (x.Ebq.length+[takenM k.2.1.1 (getM x.E k.2.1.2.2.1) (getM x.E k.2.1.2.2.2.1)].length)*1≤35184372088832 by rw [w3]; have:=h.ebq; simp; omega),g7n,b3P]
   rw [bf h9,g7i];by_cases h10:k.1 = 10
   ·
    unfold actE a7s;rw [bt h10,g7k,if_neg h1,if_neg h6,if_neg h7,if_neg h8,if_neg h9,if_pos h10,len0];by_cases hq:x.Abq.length = 0
    · rw [dt hq,if_pos hq]; rfl
    ·
     rw [df hq,if_neg hq,g7i,a1l (i:=0) (by omega) (by omega),sb_1 hq];simp only [g7n,b3P,g7j,g7m,g7l]
   rw [bf h10,g7i];by_cases h11:k.1 = 11
   ·
    unfold actE;rw [bt h11,g7k,if_neg h1,if_neg h6,if_neg h7,if_neg h8,if_neg h9,if_neg h10,if_pos h11,b3P,g7j,g7m,g7l]
   rw [bf h11,g7i];by_cases h12:k.1 = 12
   ·
    unfold actE;rw [bt h12,g7k,if_neg h1,if_neg h6,if_neg h7,if_neg h8,if_neg h9,if_neg h10,if_neg h11,if_pos h12,c7y,g7j,g7m,g7l]
   ·
    unfold actE;rw [bf h12,g7i,if_neg h1,if_neg h6,if_neg h7,if_neg h8,if_neg h9,if_neg h10,if_neg h11,if_neg h12]
theorem b1P {c:a0f} {s:a0g} {x:a0b} (h:rightM c s x = true):sideM s true x.E = true:=by
 unfold rightM at h;simp only [Bool.and_eq_true] at h;exact h.2.2.1
theorem b7L {c:a0f} {s:a0g} {x:a0b} (h:rightM c s x = true):sideM s false x.A = true:=by
 unfold rightM at h;simp only [Bool.and_eq_true] at h;exact h.2.1
theorem a6O {s:a0g} {e:Bool} {d:a0v} (h:sideM s e d = true):hasM s d.Pos.Block = true:=by
 unfold sideM at h;simp only [Bool.and_eq_true] at h;exact h.1
end Go.Proofs.Zz

/- Whether two states are the same, of one; states small enough; E's laws. -/
namespace Go.Proofs.Zz
open Go
variable {N:Nat}
theorem NextOk.of {s:a0g} (h:SplitOk s.Blocks):NextOk s:=by
 intro b hb;have h2:=a2u.1 hb;have h3:=(h.blk b.toNat (by omega)).2.2.2.1;unfold blockM;rcases h3 with h3 | h3
 · left; omega
 ·
  right
  exact ⟨by omega,a2u.2 (by omega)⟩
end Go.Proofs.Zz

/- In a cycle E does one cell at most: the model's law, and the reference law's answer. -/
namespace Go.Proofs.Zz
open Go
variable {N:Nat}
structure One (x y:a0b):Prop where
 fr:y = { x with E:=y.E,Ldq:=y.Ldq,Sdq:=y.Sdq,Aeq:=y.Aeq,Abq:=y.Abq,Ebq:=y.Ebq,Trap:=y.Trap }
 on:(y.E.Done = x.E.Done∧y.Sdq.length = x.Sdq.length∧y.Ebq.length = x.Ebq.length∧y.Aeq.length = x.Aeq.length∧y.Abq.length = x.Abq.length∧y.Ldq.length = x.Ldq.length) ∨
  (y.E.Done = w.i64 (x.E.Done+1)∧x.Sdq.length+x.Ebq.length≤y.Sdq.length+y.Ebq.length∧y.Aeq.length+y.Abq.length+y.Ldq.length≤x.Aeq.length+x.Abq.length+x.Ldq.length ∧
   y.Sdq.length+y.Ebq.length+(x.Aeq.length+x.Abq.length+x.Ldq.length)≤1+(x.Sdq.length+x.Ebq.length)+(y.Aeq.length+y.Abq.length+y.Ldq.length))
theorem b5T (d:a0v) (r v y:Int):(setM d r v y).Done = d.Done:=by unfold setM; split <;> rfl
theorem One.refl (x:a0b):One x x:=⟨rfl,.inl ⟨rfl,rfl,rfl,rfl,rfl,rfl⟩⟩
theorem e4z (x:a0b) (k st pc:Int):One x (noteM x k st pc):=by
 unfold noteM;split
 · exact ⟨rfl,.inl ⟨rfl,rfl,rfl,rfl,rfl,rfl⟩⟩
 · exact One.refl x
theorem e6e {l:List a0q} (h:(popM l).2.2≠false):(popM l).1.length+1 = l.length:=by
 unfold popM at *;split
 · rename_i h2; rw [if_pos h2] at h; simp at h
 · rename_i h2; simp only [List.length_drop]; omega
theorem e7k (c:a0f) (s:a0g) (k:a0h) (st:Int) (x:a0b):One x (actE c s k st x):=by
 unfold actE;split
 ·
  split
  · exact ⟨rfl,.inr ⟨by simp only [behindM,b5T],by simp only; omega,by simp only; omega,by simp only; omega⟩⟩
  · exact e4z _ _ _ _
 split
 ·
  split
  · exact One.refl x
  · exact ⟨rfl,.inr ⟨by simp only [behindM,b5T],by simp only; omega,by simp only [List.length_drop]; omega,by simp only [List.length_drop]; omega⟩⟩
 split
 ·
  split
  · exact One.refl x
  ·
   rename_i h;have:=e6e h;exact ⟨rfl,.inr ⟨by simp only [behindM,b5T],by simp only; omega,by simp only; omega,by simp only; omega⟩⟩
 split
 ·
  split
  · exact ⟨rfl,.inr ⟨rfl,by simp only [List.length_append,List.length_cons,List.length_nil]; omega,by simp only; omega,by simp only [List.length_append,List.length_cons,List.length_nil]; omega⟩⟩
  · exact One.refl x
 split
 ·
  split
  · exact One.refl x
  · exact ⟨rfl,.inr ⟨rfl,by simp only [List.length_append,List.length_cons,List.length_nil]; omega,by simp only; omega,by simp only [List.length_append,List.length_cons,List.length_nil]; omega⟩⟩
 split
 ·
  split
  · exact One.refl x
  · exact ⟨rfl,.inr ⟨rfl,by simp only; omega,by simp only [List.length_drop]; omega,by simp only [List.length_drop]; omega⟩⟩
 split
 · exact ⟨rfl,.inr ⟨rfl,by simp only; omega,by simp only; omega,by simp only; omega⟩⟩
 split
 · exact ⟨rfl,.inr ⟨rfl,by simp only; omega,by simp only; omega,by simp only; omega⟩⟩
 · exact One.refl x
structure Came (x y:a0b):Prop where
 fr:y = { x with E:=y.E,Trap:=y.Trap }
 e:y.E = { x.E with Pos:=y.E.Pos }
theorem d8x (s:a0g) (x:a0b):Came x (atE s x).2.2.2:=by
 unfold atE;split
 · exact ⟨rfl,rfl⟩
 ·
  simp only [];split
  ·
   unfold noteM;split <;> exact ⟨rfl,rfl⟩
  · exact ⟨rfl,rfl⟩
theorem Came.one {x y z:a0b} (h:Came x y) (h2:One y z):One x z:=by
 obtain ⟨h1,h3⟩:=h;obtain ⟨h4,h5⟩:=h2;have e1:y.E.Done = x.E.Done:=by rw [h3]
 have e2:y.Sdq = x.Sdq:=by rw [h1]
 have e3:y.Ebq = x.Ebq:=by rw [h1]
 have e4:y.Aeq = x.Aeq:=by rw [h1]
 have e5:y.Abq = x.Abq:=by rw [h1]
 have e6:y.Ldq = x.Ldq:=by rw [h1]
 refine ⟨?_,by rw [e1,e2,e3,e4,e5,e6] at h5; exact h5⟩
 rw [h4,h1]
theorem d9F (c:a0f) (s:a0g) (x:a0b):One x (turnE c s x):=by
 unfold turnE;split
 · exact (d8x s x).one (One.refl _)
 · exact (d8x s x).one (e7k _ _ _ _ _)
end Go.Proofs.Zz
