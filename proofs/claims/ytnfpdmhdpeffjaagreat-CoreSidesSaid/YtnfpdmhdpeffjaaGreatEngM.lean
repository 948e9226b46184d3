import Derived.Test.YtnfpdmhdpeffjaaGreatEngL
set_option linter.unusedSimpArgs false
set_option linter.unusedVariables false
/- Addresses of fields and elements; cuts; lengths. -/
set_option linter.unusedVariables false
set_option linter.unusedSimpArgs false
namespace Go.Proofs.Zz
open Go

theorem fsOk_get {P : Program} : ∀ (fs : List Field) (fl : List (Nat × List Nat)) (lay : List Nat), fsOk P fs fl lay = true → ∀ (f : Nat) (d : Nat) (z : List Nat), nthO fl f = some (d, z) →
    ∃ x y, fs[f]? = some x ∧ x.offset = (lay.take d).sum ∧ P.info? x.type = some y ∧ y.size = z.sum ∧ y.size ≠ 0 ∧ z = (lay.drop d).take z.length ∧ d + z.length ≤ lay.length
  | [], [], _, _, f, d, z, hn => by simp [nthO] at hn
  | [], _ :: _, _, h, _, _, _, _ => by simp [fsOk] at h
  | _ :: _, [], _, h, _, _, _, _ => by simp [fsOk] at h
  | x :: r, p :: q, lay, h, f, d, z, hn => by
    simp only [fsOk, Bool.and_eq_true, Nat.beq_eq, Nat.ble_eq] at h
    obtain ⟨⟨⟨⟨h1, h2⟩, h3⟩, h4⟩, h5⟩ := h
    cases f with
    | zero =>
      simp only [nthO, Option.some.injEq] at hn; subst hn
      split at h2
      · rename_i y hy
        simp only [Bool.and_eq_true, Nat.beq_eq, Bool.not_eq_true'] at h2
        refine ⟨x, y, rfl, h1, hy, h2.1, ?_, natsEq_spec h3, h4⟩
        intro e
        have := h2.2
        rw [e] at this; simp at this
      · simp at h2
    | succ f =>
      obtain ⟨x', y, g1, g2⟩ := fsOk_get r q lay h5 f d z hn
      exact ⟨x', y, by simpa using g1, g2⟩

section
variable {P : Program} {ok : Nat → List DV → List DV → Prop} {cx : Cx} {hi : Hi} {o : Oper}
theorem run_fieldAt {t : TypeId} {fs : Array Field} {f : Nat} {x : Field} {y : TypeInfo} (hu : P.underlying t = some (.struct fs)) (hf : fs[f]? = some x) (hy : P.info? x.type = some y) (hz : y.size ≠ 0) (b n : Nat) (w : World) :
    (Instr.fieldAt t (.pointer (some ⟨b, n, none⟩)) f).run P w = .ok (.pointer (some ⟨b, n + x.offset, none⟩)) w := by
  simp [Instr.fieldAt, run_underlying hu, hf, Instr.sureAddr, fieldPlace, sizeOf, typeInfo, hy, hz, add_lit]
theorem Steps.sub {g : Nat → Nat} {l d : Nat} {y z : List Nat} (h : Steps g l y) (hz : z = (y.drop d).take z.length) (hd : d + z.length ≤ y.length) : Steps g (l + d) z := by
  intro e he
  have h1 := h (d + e) (by omega)
  have h2 := h d (by omega)
  rw [Nat.add_assoc, h1, h2, Nat.add_assoc]
  congr 1
  have e1 : y.take (d + e) = y.take d ++ (y.drop d).take e := List.take_add ..
  have e2 : z.take e = (y.drop d).take e := by
    rw [hz, List.take_take, Nat.min_eq_left he]
  rw [e1, List.sum_append, e2]
theorem op_fieldAddr (hti : TIok P cx) {t : TypeId} {x : Operand} {f : Nat} (ho : o.op = .fieldAddr t x f) : OpP P ok cx hi o := by
  intro C rg ix key A s a w wr K Q h hr hA hK
  simp only [opSem, ho] at h
  obtain ⟨E, F, hm, ht⟩ := hr
  obtain ⟨i, hi', h⟩ := Cx.t_ev h
  have hT := hti t i hi'
  obtain ⟨X, h1, h2⟩ := ev_ok h ht
  unfold fieldS at h2
  split at h2
  · rename_i d z htd hn
    obtain ⟨fs, hu, hfs⟩ := hT.struct htd
    obtain ⟨fx, y, g1, g2, g3, g4, g5, g6, g7⟩ := fsOk_get _ _ _ hfs f d z hn
    have g1' : fs[f]? = some fx := by simpa using g1
    have run : ∀ b n, a.eval x = .pointer (some ⟨b, n, none⟩) → (execOp a.eval o).run P w = .ok (.value (.pointer (some ⟨b, n + fx.offset, none⟩))) w := by
      intro b n hx
      simp only [execOp, ho, hx, Sem.run_bind, run_fieldAt hu g1' g3 g5]
      rfl
    split at h2
    · rename_i n l y'
      split at h2
      · rename_i hy
        have hy := natsEq_spec hy; subst hy
        have hp := h1.2; rw [RepL] at hp
        obtain ⟨p1, p2, p3⟩ := hp
        simp only [List.cons.injEq, and_true] at p2
        refine pure_rel (run _ _ p2) h2 hm ht ⟨trivial, p1, ?_, p3.sub g6 g7⟩ hK
        rw [p3 d (by omega), g2]
      · exact h2.fail.elim
    · rename_i n j l y'
      split at h2
      · rename_i hy
        have hy := natsEq_spec hy; subst hy
        have hp := h1.2; rw [RepL] at hp
        obtain ⟨p1, p2, p3, p4⟩ := hp
        simp only [List.cons.injEq, and_true] at p3
        refine pure_rel (run _ _ p3) h2 hm ht ⟨trivial, p1, p2, ?_, p4.sub g6 g7⟩ hK
        rw [p4 d (by omega), g2]
        simp [Nat.add_assoc]
      · exact h2.fail.elim
    · rename_i a' v l
      split at h2
      · rename_i hy
        have hy := natsEq_spec hy
        obtain ⟨_, b, o', ds, k1, k2, k3, k4⟩ := h1
        simp only [List.cons.injEq, and_true] at k1
        refine pure_rel (run _ _ k1) h2 hm ht ⟨trivial, b, o', ds, ?_, k2, k3, k4⟩ hK
        have : lOff a' (l + d) = lOff a' l + fx.offset := by
          unfold lOff
          rw [takeN_eq, takeN_eq, g2, ← hy, takeN_eq, dropN_eq, List.take_take, Nat.min_eq_left (by omega), List.take_add, List.sum_append]
        rw [this]; simp [Nat.add_assoc]
      · exact h2.fail.elim
    · exact h2.fail.elim
  · exact h2.fail.elim

theorem run_indexAt_slice {t e : TypeId} {f : TypeInfo} (hu : P.underlying t = some (.slice e)) (hf : P.info? e = some f) {b n len cap : Nat} {k : IntKind} {i : Int} (h0 : 0 ≤ i) (h1 : i < len) (w : World) :
    (Instr.indexAt t (.slice (some ⟨b, n, none⟩) len cap) (.int k i)).run P w = .ok (.pointer (some ⟨b, n + i.toNat * f.size, none⟩)) w := by
  simp [Instr.indexAt, asIntOf, run_underlying hu, h0, h1, sizeOf, typeInfo, hf, add_lit]
theorem run_indexAt_array {t e : TypeId} {f : TypeInfo} {m : Nat} (hu : P.underlying t = some (.array m e)) (hf : P.info? e = some f) {b n : Nat} {k : IntKind} {i : Int} (h0 : 0 ≤ i) (h1 : i < m) (w : World) :
    (Instr.indexAt t (.pointer (some ⟨b, n, none⟩)) (.int k i)).run P w = .ok (.pointer (some ⟨b, n + i.toNat * f.size, none⟩)) w := by
  simp [Instr.indexAt, asIntOf, run_underlying hu, h0, h1, sizeOf, typeInfo, hf, add_lit, Instr.sureAddr]
theorem idx_spec {i : Int} {n : Nat} (h : idx i n = true) : 0 ≤ i ∧ i < n := by simpa [idx] using h
theorem scalar_sz {t : Ty} (h : scalar t = true) : t.sz = 1 := by cases t <;> simp [scalar] at h <;> rfl
theorem steps_zero {a : Ty} {g : Nat → Nat} (h : ∀ l, g l = lOff a l) : Steps g 0 (sizes (unpk a (zeroD a))) := by
  intro d hd
  rw [h, h, Nat.zero_add]
  unfold lOff
  rw [takeN_eq, takeN_eq]; simp
/-- A cut of a slice: where its elements lie. -/
theorem win_at {e : EI} {off n : Nat} {v : Value} (h : Win e off n [v]) (hn : 0 < n) (hc : e.len ≤ e.cap) : ∃ c, v = .slice (some ⟨e.blk, e.base + off * e.esz, none⟩) n c := by
  obtain ⟨h1, a, h2, h3⟩ := h
  have := h3 (by omega)
  simp only [List.cons.injEq, and_true] at h2
  exact ⟨_, by rw [h2, this.2]⟩
theorem op_indexAddr (hti : TIok P cx) {t : TypeId} {x y : Operand} (ho : o.op = .indexAddr t x y) : OpP P ok cx hi o := by
  intro C rg ix key A s a w wr K Q h hr hA hK
  simp only [opSem, ho] at h
  obtain ⟨E, F, hm, ht⟩ := hr
  obtain ⟨i, hi', h⟩ := Cx.t_ev h
  have hT := hti t i hi'
  obtain ⟨X, h1, h2⟩ := ev_ok h ht
  obtain ⟨Y, h3, h4⟩ := ev_ok h2 ht
  unfold indexS at h4
  split at h4
  · rename_i k j
    have hj := of_int h3
    split at h4
    · -- arrays
      rename_i htd
      obtain ⟨e, hu, ⟨f, z, f1, f2, f3, f4, f5⟩, hsc, hzk⟩ := hT.array htd
      have hsz : f.size = 1 := by rw [f2, scalar_sz hsc]
      split at h4
      · rename_i n l y'
        rcases h4.ite with ⟨hb, h4⟩ | ⟨_, h4⟩
        · obtain ⟨b0, b1⟩ := idx_spec hb
          have hp := h1.2; rw [RepL] at hp
          obtain ⟨p1, p2, p3⟩ := hp
          simp only [List.cons.injEq, and_true] at p2
          refine pure_rel (v := .pointer (some ⟨(E.e n).blk, (E.e n).loff l + j.toNat, none⟩)) ?_ h4 hm ht ⟨trivial, p1, by omega, rfl⟩ hK
          simp only [execOp, ho, p2, hj, Sem.run_bind, run_indexAt_array hu f1 b0 b1, hsz, Nat.mul_one]
          rfl
        · exact h4.fail.elim
      · rename_i a' v l
        split at h4
        · rename_i m b w' r hd
          split at h4
          · rename_i hmb
            simp only [Bool.and_eq_true, Nat.beq_eq, tyEq_iff] at hmb
            obtain ⟨rfl, rfl⟩ := hmb
            rcases h4.ite with ⟨hb, h4⟩ | ⟨_, h4⟩
            · obtain ⟨b0, b1⟩ := idx_spec hb
              obtain ⟨_, bb, o', ds, k1, k2, k3, k4⟩ := h1
              simp only [List.cons.injEq, and_true] at k1
              -- the array's cells among the datum's
              obtain ⟨c, g1, g2⟩ := seg_ok (RepD_unpk (E := E) k3) k4 l 1
              rw [← lOff_eq] at g2
              rw [hd] at g1
              have g1 := All.one.1 (show RepLs E F w [L.dat (.ar i.n i.ety) w'] c from g1)
              have g1' := g1
              rw [RepL, RepD] at g1'
              have hlw : List.length w' = i.n := g1'.1
              obtain ⟨d, m1, m2⟩ := elem_at g1'.2 g2 (i := j.toNat) (by rw [hlw]; omega)
              refine pure_rel (v := .pointer (some ⟨bb, o' + lOff a' l + j.toNat * f.size, none⟩)) ?_ h4 hm ht ⟨trivial, bb, o' + lOff a' l + j.toNat * i.ety.sz, d, ?_, k2, m1, m2⟩ hK
              · simp only [execOp, ho, k1, hj, Sem.run_bind, run_indexAt_array hu f1 b0 b1]
                rfl
              · rw [f2]; simp [lOff, takeN]
            · exact h4.fail.elim
          · exact h4.fail.elim
        · exact h4.fail.elim
      · exact h4.fail.elim
    · -- slices
      rename_i htd
      obtain ⟨e, hu, ⟨f, z, f1, f2, f3, f4, f5⟩⟩ := hT.slice htd
      have run : ∀ b n len cap, a.eval x = .slice (some ⟨b, n, none⟩) len cap → 0 ≤ j → j < len → (execOp a.eval o).run P w = .ok (.value (.pointer (some ⟨b, n + j.toNat * i.ety.sz, none⟩))) w := by
        intro b n len cap hx h0 hlt
        rw [← f2]
        simp only [execOp, ho, hx, hj, Sem.run_bind, run_indexAt_slice hu f1 h0 hlt]
        rfl
      have frz : ∀ (xs : List (Den i.ety)), RepD F w (.sl i.ety) xs [a.eval x] → Ev ok (Rd.ite (idx j xs.length) (fin hi o.dst [] (.one (.rf i.ety (xs.getD j.toNat (zeroD i.ety)) 0))) .fail) s wr → o.wp P a w K Q := by
        intro xs hr h4
        rcases h4.ite with ⟨hb, h4⟩ | ⟨_, h4⟩
        · obtain ⟨b0, b1⟩ := idx_spec hb
          rw [RepD] at hr
          obtain ⟨ad, cap, k1, k2, k3⟩ := hr
          rcases k3 with rfl | ⟨b, o', ds, rfl, k4, k5, k6⟩
          · simp at b1; omega
          · simp only [List.cons.injEq, and_true] at k1
            obtain ⟨d, m1, m2⟩ := elem_at k5 k6 (i := j.toNat) (by omega)
            exact pure_rel (run _ _ _ _ k1 b0 b1) h4 hm ht ⟨trivial, b, o' + j.toNat * i.ety.sz, d, by simp [lOff, takeN], k4, m1, m2⟩ hK
        · exact h4.fail.elim
      split at h4
      · rename_i n
        have h4 := h4.get
        simp only [look] at h4
        split at h4
        · rename_i a' xs ro hobj
          simp only [Cn.o.injEq] at hobj
          have e4 := castL_eq h4; subst e4; have h4 := castL_same h4
          rcases h4.ite with ⟨hb, h4⟩ | ⟨_, h4⟩
          · obtain ⟨b0, b1⟩ := idx_spec hb
            obtain ⟨g1, g2, g3, g4, ds, g5, g6⟩ := arr_at hm hobj
            obtain ⟨_, p1, p2⟩ := h1
            obtain ⟨c, hx⟩ := win_at p2 (by omega) g2
            have b1' : j < ((E.e n).len : Int) := by rw [← g1]; exact b1
            refine pure_rel (run _ _ _ _ hx b0 b1') h4 hm ht ⟨trivial, p1, by omega, ?_, steps_zero g4⟩ hK
            rw [g4, g3]; simp [lOff, takeN]
          · exact h4.fail.elim
        · exact h4.fail.elim
      · rename_i n off
        have h4 := h4.get
        simp only [look] at h4
        split at h4
        · rename_i a' xs ro hobj
          simp only [Cn.o.injEq] at hobj
          have e4 := castL_eq h4; subst e4; have h4 := castL_same h4
          rcases h4.ite with ⟨hb, h4⟩ | ⟨_, h4⟩
          · obtain ⟨b0, b1⟩ := idx_spec hb
            obtain ⟨g1, g2, g3, g4, ds, g5, g6⟩ := arr_at hm hobj
            obtain ⟨_, p1, p0, p2⟩ := h1
            have b1' : j < ((E.e n).len - off : Nat) := by rw [← g1]; exact b1
            obtain ⟨c, hx⟩ := win_at p2 (by omega) g2
            refine pure_rel (run _ _ _ _ hx b0 b1') h4 hm ht ⟨trivial, p1, by omega, ?_, steps_zero g4⟩ hK
            rw [g4, g3]; simp [lOff, takeN, Nat.add_mul, Nat.add_assoc]
          · exact h4.fail.elim
        · exact h4.fail.elim
      · rename_i n off len
        have h4 := h4.get
        simp only [look] at h4
        split at h4
        · rename_i a' xs ro hobj
          simp only [Cn.o.injEq] at hobj
          have e4 := castL_eq h4; subst e4; have h4 := castL_same h4
          rcases h4.ite with ⟨hb, h4⟩ | ⟨_, h4⟩
          · obtain ⟨b0, b1⟩ := idx_spec hb
            obtain ⟨g1, g2, g3, g4, ds, g5, g6⟩ := arr_at hm hobj
            obtain ⟨_, p1, p2⟩ := h1
            obtain ⟨c, hx⟩ := win_at p2 (by omega) g2
            have := p2.1
            refine pure_rel (run _ _ _ _ hx b0 b1) h4 hm ht ⟨trivial, p1, by omega, ?_, steps_zero g4⟩ hK
            rw [g4, g3]; simp [lOff, takeN, Nat.add_mul, Nat.add_assoc]
          · exact h4.fail.elim
        · exact h4.fail.elim
      · rename_i a' xs
        have e4 := castL_eq h4; subst e4; have h4 := castL_same h4
        exact frz xs h1.2 h4
      · rename_i a' xs
        have e4 := castL_eq h4; subst e4; have h4 := castL_same h4
        exact frz xs h1.2.1 h4
      · rename_i q n i' sz y'
        split at h4
        · rename_i hsz
          have hsz := Nat.eq_of_beq_eq_true hsz
          rcases h4.ite with ⟨hb, h5⟩ | ⟨_, h5⟩
          · simp only [decide_eq_true_eq] at hb
            obtain ⟨rfl, b0, b1⟩ := hb
            obtain ⟨_, p1, p2, ad, m, c, p3, p4, p5⟩ := h1
            obtain ⟨b, rfl, q1, q2⟩ := p5 b0 b1
            simp only [List.cons.injEq, and_true] at p2
            rw [p3] at p2
            refine pure_rel (x := .one (.ptr q 0 y')) (run _ _ _ _ p2 b0 (by rw [p4]; exact b1)) h5 hm ht ⟨trivial, p1, ?_, q2⟩ hK
            rw [q1, hsz]
          · exact h5.fail.elim
        · exact h4.fail.elim
      · exact h4.fail.elim
    · exact h4.fail.elim
  · exact h4.fail.elim
end
end Go.Proofs.Zz
