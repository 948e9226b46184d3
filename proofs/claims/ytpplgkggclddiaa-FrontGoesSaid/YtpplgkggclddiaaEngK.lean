/- Operations, one by one: those that leave memory as it was. -/
import Derived.Test.YtpplgkggclddiaaEngJ
set_option linter.unusedVariables false
set_option linter.unusedSimpArgs false
namespace Go.Proofs.Zz
open Go

/-- What is shown of an operation, its guard aside. -/
def OpP (P : Program) (ok : Nat → List DV → List DV → Prop) (cx : Cx) (hi : Hi) (o : Oper) : Prop :=
  ∀ (C : Frm) (rg ix key : Nat) (A : Nat → Prop) (s : St) (a : Act) (w : World) (wr : Wr) (K : Act → World → Prop) (Q : Exit → Act → World → Prop),
    Ev ok (opSem cx hi rg ix key o) s wr → Rel C A s a w → (∀ k, key ≤ k → k < key + stride → ¬ A k) →
    (∀ a' w', Rel C (fun k => A k ∨ (key ≤ k ∧ k < key + stride)) (apply wr s) a' w' → K a' w') → o.wp P a w K Q

section
variable {P : Program} {ok : Nat → List DV → List DV → Prop} {cx : Cx} {hi : Hi} {o : Oper}
/-- Where the value is known. -/
theorem pure_rel {C : Frm} {A : Nat → Prop} {E : Env} {F : Nat → Prop} {s : St} {a : Act} {w : World} {wr : Wr} {K : Act → World → Prop} {Q : Exit → Act → World → Prop} {x : V} {v : Value} {key : Nat}
    (hrun : (execOp a.eval o).run P w = .ok (.value v) w) (h : Ev ok (fin hi o.dst [] x) s wr) (hm : Mem C A E F s.ob w) (ht : Tms E F s.tm a w) (hx : RepV E F w x v)
    (hK : ∀ a' w', Rel C (fun k => A k ∨ (key ≤ k ∧ k < key + stride)) (apply wr s) a' w' → K a' w') : o.wp P a w K Q :=
  pure_ok hrun h hm ht hx fun a' w' hr => hK a' w' (hr.mono fun _ h => .inl h)

theorem op_move {x : Operand} (ho : o.op = .move x) : OpP P ok cx hi o := by
  intro C rg ix key A s a w wr K Q h hr hA hK
  simp only [opSem, ho] at h
  obtain ⟨E, F, hm, ht⟩ := hr
  obtain ⟨X, h1, h2⟩ := ev_ok h ht
  exact pure_rel (by simp [execOp, ho]) h2 hm ht h1 hK
theorem op_assign {x : Operand} (ho : o.op = .assign x) : OpP P ok cx hi o := by
  intro C rg ix key A s a w wr K Q h hr hA hK
  simp only [opSem, ho] at h
  obtain ⟨E, F, hm, ht⟩ := hr
  obtain ⟨X, h1, h2⟩ := ev_ok h ht
  exact pure_rel (by simp [execOp, ho]) h2 hm ht h1 hK
theorem op_pick {c x y : Operand} (ho : o.op = .pick c x y) : OpP P ok cx hi o := by
  intro C rg ix key A s a w wr K Q h hr hA hK
  simp only [opSem, ho] at h
  obtain ⟨E, F, hm, ht⟩ := hr
  obtain ⟨X, h1, h2⟩ := ev_ok h ht
  split at h2
  · rename_i b
    have hb := of_boo h1
    obtain ⟨Y, h3, h4⟩ := ev_ok h2 ht
    obtain ⟨Z, h5, h6⟩ := ev_ok h4 ht
    rcases h6.ite with ⟨rfl, h7⟩ | ⟨rfl, h7⟩
    · exact pure_rel (by simp [execOp, ho, hb, asBool]) h7 hm ht h3 hK
    · exact pure_rel (by simp [execOp, ho, hb, asBool]) h7 hm ht h5 hK
  · exact h2.fail.elim
theorem op_nilCheck {x : Operand} (ho : o.op = .nilCheck x) : OpP P ok cx hi o := by
  intro C rg ix key A s a w wr K Q h hr hA hK
  simp only [opSem, ho] at h
  obtain ⟨E, F, hm, ht⟩ := hr
  obtain ⟨X, h1, h2⟩ := ev_ok h ht
  have key : ∀ p, a.eval x = .pointer (some p) → (execOp a.eval o).run P w = .ok (.value (a.eval x)) w := fun p hp => by simp [execOp, ho, hp]
  split at h2
  · have := h1.2; rw [RepL] at this; have := this.2.1; simp only [List.cons.injEq, and_true] at this
    exact pure_rel (key _ this) h2 hm ht h1 hK
  · have := h1.2; rw [RepL] at this; have := this.2.2; simp only [List.cons.injEq, and_true] at this
    exact pure_rel (key _ this) h2 hm ht h1 hK
  · have := h1.2; rw [RepL] at this; have := this.2.2.1; simp only [List.cons.injEq, and_true] at this
    exact pure_rel (key _ this) h2 hm ht h1 hK
  · have h1' := h1
    obtain ⟨_, b, oo, ds, h3, _⟩ := h1
    simp only [List.cons.injEq, and_true] at h3
    exact pure_rel (key _ h3) h2 hm ht h1' hK
  · exact h2.fail.elim
theorem op_binOp (hti : TIok P cx) {op : BinOp} {t u : TypeId} {x y : Operand} (ho : o.op = .binOp op t x y u) : OpP P ok cx hi o := by
  intro C rg ix key A s a w wr K Q h hr hA hK
  simp only [opSem, ho] at h
  obtain ⟨E, F, hm, ht⟩ := hr
  obtain ⟨X, h1, h2⟩ := ev_ok h ht
  obtain ⟨Y, h3, h4⟩ := ev_ok h2 ht
  have fin : ∀ i, (i = {} ∨ TOk P t i) → Ev ok (binO i op X Y fun x => fin hi o.dst [] x) s wr → o.wp P a w K Q := by
    intro i hi h5
    obtain ⟨v, Z, k1, k2, k3⟩ := binO_ok (P := P) hi h5 (ox := x) (oy := y) h1 h3
    refine pure_rel ?_ k3 hm ht k2 hK
    simp only [execOp, ho, Sem.run_bind, k1]
    rfl
  split at h4
  · exact fin _ (.inl rfl) h4
  · exact fin _ (.inl rfl) h4
  · obtain ⟨i, hi, h5⟩ := Cx.t_ev h4
    exact fin i (.inr (hti t i hi)) h5
theorem op_unOp {op : UnOp} {t : TypeId} {x : Operand} (ho : o.op = .unOp op t x) : OpP P ok cx hi o := by
  intro C rg ix key A s a w wr K Q h hr hA hK
  simp only [opSem, ho] at h
  obtain ⟨E, F, hm, ht⟩ := hr
  obtain ⟨X, h1, h2⟩ := ev_ok h ht
  unfold unO at h2
  split at h2
  · have := of_boo h1
    exact pure_rel (by simp [execOp, ho, this, Op.unary]) h2 hm ht (rep_boo _) hK
  · have := of_int h1
    exact pure_rel (v := .int _ _) (by simp only [execOp, ho, this, Op.unary, Op.intArith]; rfl) h2 hm ht (rep_int _ _) hK
  · have := of_int h1
    exact pure_rel (v := .int _ _) (by simp only [execOp, ho, this, Op.unary, Op.intBits]; rfl) h2 hm ht (rep_int _ _) hK
  · exact h2.fail.elim
theorem op_extract {x : Operand} {i : Nat} (ho : o.op = .extract x i) : OpP P ok cx hi o := by
  intro C rg ix key A s a w wr K Q h hr hA hK
  simp only [opSem, ho] at h
  obtain ⟨E, F, hm, ht⟩ := hr
  obtain ⟨X, h1, h2⟩ := ev_ok h ht
  split at h2
  · rename_i vs
    obtain ⟨xs, hx, hall⟩ := h1
    have get : ∀ (vs : List V) (ys : List Value) (i : Nat) (v : V), All2 (RepW E F w) vs ys → nthO vs i = some v → ∃ y, ys[i]? = some y ∧ RepW E F w v y := by
      intro vs
      induction vs with
      | nil => intro ys i v _ h; simp [nthO] at h
      | cons u r ih =>
        intro ys i v h hn
        cases ys with
        | nil => exact h.elim
        | cons y q =>
          cases i with
          | zero => simp only [nthO, Option.some.injEq] at hn; subst hn; exact ⟨y, rfl, h.1⟩
          | succ i => obtain ⟨z, h1, h2⟩ := ih q i v h.2 hn; exact ⟨z, by simpa using h1, h2⟩
    split at h2
    · exact h2.fail.elim
    · rename_i v hv hn
      obtain ⟨y, hy, hr⟩ := get vs xs.toList i v hall hn
      have hrv : RepV E F w v y := by
        cases v with
        | one l => exact hr
        | agg ls => exact hr
        | tup vs => exact hr.elim
      have hy' : xs[i]? = some y := by simpa using hy
      exact pure_rel (by simp [execOp, ho, hx, Instr.extract, hy']) h2 hm ht hrv hK
    · exact h2.fail.elim
  · exact h2.fail.elim
theorem caps_ok {E : Env} {F : Nat → Prop} {w : World} : ∀ {vs : List V} {q : List Cp} {ys : List Value}, caps vs = some q → All2 (RepV E F w) vs ys →
    (∀ c ∈ q, E.al c.k ∧ Steps (E.e c.k).loff c.l c.y) ∧ ys = q.map fun c => Value.pointer (some ⟨(E.e c.k).blk, (E.e c.k).loff c.l, none⟩)
  | [], q, [], h, _ => by simp only [caps, Option.some.injEq] at h; subst h; simp
  | [], q, _ :: _, _, h => h.elim
  | _ :: _, _, [], _, h => h.elim
  | v :: vs, q, y :: ys, h, hr => by
    unfold caps at h
    split at h <;> try (first | (rename_i e; cases e; done) | (simp at h; done))
    rename_i n l y' r e
    simp only [List.cons.injEq] at e
    obtain ⟨rfl, rfl⟩ := e
    split at h
    · rename_i q' hq
      simp only [Option.some.injEq] at h; subst h
      obtain ⟨h1, h2⟩ := caps_ok hq hr.2
      have h3 := hr.1.2; rw [RepL] at h3
      refine ⟨fun c hc => ?_, ?_⟩
      · rcases List.mem_cons.1 hc with rfl | hc
        · exact ⟨h3.1, h3.2.2⟩
        · exact h1 c hc
      · rw [h2]; simpa using h3.2.1
    · simp at h
theorem op_makeFunc {f : Nat} {fs cs : Array Operand} (ho : o.op = .makeFunc (.func f) fs cs) : OpP P ok cx hi o := by
  intro C rg ix key A s a w wr K Q h hr hA hK
  simp only [opSem, ho] at h
  obtain ⟨E, F, hm, ht⟩ := hr
  split at h
  · rename_i hfs
    obtain ⟨vs, h1, h2⟩ := evs_ok h ht
    split at h2
    · rename_i q hq
      obtain ⟨h3, h4⟩ := caps_ok hq h1
      have hfs' : fs = #[] := Array.ext' (by simpa using hfs)
      subst hfs'
      refine pure_rel (v := .func (.func f) #[] (cs.map a.eval)) (by simp [execOp, ho, Instr.makeFunc]) h2 hm ht ⟨trivial, h3, ?_⟩ hK
      have : cs.map a.eval = (q.map fun c => Value.pointer (some ⟨(E.e c.k).blk, (E.e c.k).loff c.l, none⟩)).toArray := Array.ext' (by simpa using h4)
      rw [this]
    · exact h2.fail.elim
  · exact h.fail.elim
end
end Go.Proofs.Zz
