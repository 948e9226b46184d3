/- The operation that calls. -/
import Derived.Test.YtpplgkggclddiaaEnhB
set_option linter.unusedVariables false
set_option linter.unusedSimpArgs false
namespace Go.Proofs.Zz
open Go

section
variable {P : Program} {ok : Nat → List DV → List DV → Prop} {cx : Cx} {hi : Hi} {o : Oper}
theorem All2.append {α β : Type} {R : α → β → Prop} : ∀ {xs xs' : List α} {ys ys' : List β}, All2 R xs ys → All2 R xs' ys' → All2 R (xs ++ xs') (ys ++ ys')
  | [], _, [], _, _, h => h
  | [], _, _ :: _, _, h, _ => h.elim
  | _ :: _, _, [], _, h, _ => h.elim
  | _ :: _, _, _ :: _, _, h, h' => ⟨h.1, h.2.append h'⟩
theorem capV_ok {E : Env} {F : Nat → Prop} {w : World} : ∀ {cp : List Cp}, (∀ c ∈ cp, E.al c.k ∧ Steps (E.e c.k).loff c.l c.y) → All2 (RepV E F w) (capV cp) (cp.map fun c => Value.pointer (some ⟨(E.e c.k).blk, (E.e c.k).loff c.l, none⟩))
  | [], _ => trivial
  | c :: r, h => ⟨⟨trivial, (h c (by simp)).1, rfl, (h c (by simp)).2⟩, capV_ok fun x hx => h x (by simp [hx])⟩
theorem blA_notup {ren : Nat → Nat} {a : AK} {b b' : B} {x : V} (h : blA ren a b = some (x, b')) : ∀ vs, x ≠ .tup vs := by
  rintro vs rfl
  cases a with
  | no => simp [blA, bad] at h
  | one k =>
    simp only [blA] at h
    split at h <;> simp at h
  | agg ks =>
    simp only [blA] at h
    split at h <;> simp at h
theorem blAs_w {ren : Nat → Nat} {E : Env} {F : Nat → Prop} {w : World} : ∀ {as : List AK} {b b' : B} {ys : List V} {rs : List Value}, blAs ren as b = some (ys, b') → All2 (RepV E F w) ys rs → All2 (RepW E F w) ys rs
  | [], b, b', ys, rs, h, hr => by
    simp only [blAs, Option.some.injEq, Prod.mk.injEq] at h
    obtain ⟨rfl, rfl⟩ := h
    cases rs with
    | nil => trivial
    | cons _ _ => exact hr.elim
  | a :: as, b, b', ys, rs, h, hr => by
    simp only [blAs] at h
    split at h
    · rename_i x b1 hx
      split at h
      · rename_i q b2 hq
        simp only [Option.some.injEq, Prod.mk.injEq] at h
        obtain ⟨rfl, rfl⟩ := h
        cases rs with
        | nil => exact hr.elim
        | cons v rs =>
          refine ⟨?_, blAs_w hq hr.2⟩
          have := hr.1
          cases x with
          | tup vs => exact (blA_notup hx vs rfl).elim
          | one l => exact this
          | agg ls => exact this
      · simp at h
    · simp at h
theorem op_call (hok : ∀ rg ix c, look2 hi.cs rg ix = some c → ∀ p q, ok c.id p q → CallOK P c p q) {cl : Call} {fo : Operand} (ho : o.op = .call cl) (hc : cl.callee = .value fo) : OpP P ok cx hi o := by
  intro C rg ix key A s a w wr K Q h hr hA hK
  simp only [opSem, ho, hc] at h
  obtain ⟨E, F, hm, ht⟩ := hr
  split at h
  rotate_left
  · exact h.fail.elim
  rename_i c hcs
  obtain ⟨X, h1, h2⟩ := ev_ok h ht
  obtain ⟨xs, h3, h4⟩ := evs_ok h2 ht
  unfold callS at h4
  split at h4
  rotate_left
  · exact h4.fail.elim
  rename_i g cp
  obtain ⟨_, g1, g2⟩ := h1
  simp only [List.cons.injEq, and_true] at g2
  split at h4
  · exact h4.fail.elim
  rename_i hg
  have hg := Nat.eq_of_beq_eq_true hg
  subst hg
  obtain ⟨p, es, bs, tk, bw, k1, k2⟩ := mtSg_ok h4 hm (h3.append (capV_ok g1))
  obtain ⟨out, hq, k1⟩ := k1.call
  obtain ⟨c1, c2⟩ := hok _ _ _ hcs _ _ hq
  dsimp only at k1
  split at k1
  · exact k1.fail.elim
  rename_i ys b1 hb1
  split at k1
  · exact k1.fail.elim
  rename_i bx b2 hb2
  split at k1
  rotate_left
  · exact k1.fail.elim
  split at k1
  · exact k1.fail.elim
  rename_i hnx
  simp only [Bool.and_eq_true, Nat.ble_eq, Nat.beq_eq] at hnx
  split at k1
  · exact k1.fail.elim
  rename_i x hx
  have hal : ∀ {xs : List V} {ys : List Value}, All2 (RepV E F w) xs ys → xs.length = ys.length := by
    intro xs
    induction xs with
    | nil => intro ys h; cases ys with
      | nil => rfl
      | cons _ _ => exact h.elim
    | cons x xs ih => intro ys h; cases ys with
      | nil => exact h.elim
      | cons y ys => simp [ih h.2]
  have hcall := c2 _ _ w es _ (plus_lt hm) (by rw [List.length_append, ← hal h3, List.length_map]; exact hnx.2) k2.sig
  -- what is frozen
  obtain ⟨fz, z0, z1, z2, z3⟩ : ∃ fz : List (Nat × Obj), Ev ok (fin hi o.dst (obs fz ++ (obs (boxes bx) ++ (obs b2.ob ++ deads tk))) x) s wr ∧ (∀ n o, (n, o) ∈ fz → n ∈ bw ∧ ∃ t ys ro, lookO s.ob n = .arr t ys ro ∧ o = .arr t ys true) ∧
      (c.hasSl = true → ∀ n ∈ bw, ∃ o, (n, o) ∈ fz) ∧ (c.hasSl = false → fz = []) := by
    cases hsl : c.hasSl with
    | false =>
      rw [hsl] at k1
      exact ⟨[], k1, by simp, by simp, fun _ => rfl⟩
    | true =>
      rw [hsl] at k1
      obtain ⟨fz, f1, f2, f3⟩ := freeze_ok k1
      exact ⟨fz, f1, f3, fun _ => f2, by simp⟩
  unfold Oper.wp
  have hrun : (execOp a.eval o).run P w = .ok (.enter c.fn (cl.args.toList.map a.eval ++ cp.map fun c => Value.pointer (some ⟨(E.e c.k).blk, (E.e c.k).loff c.l, none⟩)).toArray) w := by
    simp only [execOp, ho, resolve, hc, g2, Deferred.ofValue, Sem.run_bind, Sem.run_pure, Result.andThen_ok, invoke]
    rw [c1]
    congr 2
    apply Array.ext'
    simp
  rw [hrun, Oper.upon_enter]
  refine hcall.mono fun e w' hres => ?_
  obtain ⟨v, F', fs, rfl, hs⟩ := hres
  obtain ⟨E'', F'', m1, m2, m3, rs, m4, m5⟩ := call_rel k2 hm hA hs hb1 hb2 hnx.1.1 hnx.1.2 z1 z2 z3
  refine hK _ _ (rel_fin z0 m1 ?_ ?_)
  · rw [m2]; exact ht.ext m3
  · cases hone : c.one with
    | true =>
      rw [hone] at hx m5
      simp only [if_true] at hx
      simp only at m5
      subst m5
      split at hx
      · simp only [Option.some.injEq] at hx; subst hx
        exact m4.1
      · simp at hx
    | false =>
      rw [hone] at hx m5
      simp only [Bool.false_eq_true, if_false, Option.some.injEq] at hx
      simp only at m5
      subst hx m5
      refine ⟨_, rfl, ?_⟩
      simpa using blAs_w hb1 m4
end
end Go.Proofs.Zz
