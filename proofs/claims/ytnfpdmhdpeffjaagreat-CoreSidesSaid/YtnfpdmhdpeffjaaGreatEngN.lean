import Derived.Test.YtnfpdmhdpeffjaaGreatEngM
set_option linter.unusedSimpArgs false
set_option linter.unusedVariables false
/- Cuts, lengths, bytes of strings, conversions that make nothing, structs built. -/
set_option linter.unusedVariables false
set_option linter.unusedSimpArgs false
namespace Go.Proofs.Zz
open Go

section
variable {P : Program} {ok : Nat → List DV → List DV → Prop} {cx : Cx} {hi : Hi} {o : Oper}
section
variable {α : Type} {s : St} {r : α} {E : Env} {F : Nat → Prop} {w : World} {a : Act}
def RepOpt (E : Env) (F : Nat → Prop) (w : World) : Option V → Option Value → Prop
  | none, none => True
  | some x, some v => RepV E F w x v
  | _, _ => False
theorem evO_ok {x : Option Operand} {k : Option V → Rd α} (h : Ev ok (evO x k) s r) (ht : Tms E F s.tm a w) : ∃ y, RepOpt E F w y (x.map a.eval) ∧ Ev ok (k y) s r := by
  cases x with
  | none => exact ⟨none, trivial, h⟩
  | some x => obtain ⟨X, h1, h2⟩ := ev_ok h ht; exact ⟨some X, h1, h2⟩
theorem run_sliceBound {k : IntKind} {i : Int} {y : Nat} {c : BoundsCode} (h0 : 0 ≤ i) (h1 : i ≤ y) : (Instr.sliceBound (.int k i) y c).run P w = .ok i.toNat w := by
  simp [Instr.sliceBound, asIntOf, h0, h1]
theorem cutLo_int {n cap : Nat} {kl : IntKind} {lv : Int} {k : Nat → Rd α} (h : Ev ok (.ite (decide (0 ≤ lv ∧ lv ≤ (n : Int))) (k lv.toNat) .fail) s r) :
    ∃ l, l ≤ n ∧ Ev ok (k l) s r ∧ ∀ isS : Bool, (isS = true ∨ cap = n) → (Instr.sliceBounds isS n cap (some (.int kl lv)) none none).run P w = .ok (l, n, cap) w := by
  rcases h.ite with ⟨hb, h⟩ | ⟨_, h⟩
  · simp only [decide_eq_true_eq] at hb
    refine ⟨lv.toNat, by omega, h, fun isS hc => ?_⟩
    have : (if isS = true then n else cap) = n := by rcases hc with h | h <;> simp [h]
    simp [Instr.sliceBounds, run_sliceBound hb.1 hb.2, this]
  · exact h.fail.elim
theorem cutLo_ok {n cap : Nat} {lo : V} {lov : Value} {k : Nat → Rd α} (h : Ev ok (cutLo n lo k) s r) (hl : RepV E F w lo lov) :
    ∃ l, l ≤ n ∧ Ev ok (k l) s r ∧ ∀ isS : Bool, (isS = true ∨ cap = n) → (Instr.sliceBounds isS n cap (some lov) none none).run P w = .ok (l, n, cap) w := by
  unfold cutLo at h
  split at h
  · have := of_int hl; subst this
    exact cutLo_int h
  · exact h.fail.elim
theorem cutHi_int {n cap : Nat} (hcap : n ≤ cap) {kh kl : IntKind} {hv lv : Int} {k : Nat → Nat → Rd α} {isS : Bool}
    (h : Ev ok (.ite (decide (0 ≤ hv ∧ hv ≤ (n : Int))) (.ite (decide (0 ≤ lv ∧ lv ≤ hv)) (k lv.toNat hv.toNat) .fail) .fail) s r) :
    ∃ l m, l ≤ m ∧ m ≤ n ∧ Ev ok (k l m) s r ∧ (Instr.sliceBounds isS n cap (some (.int kl lv)) (some (.int kh hv)) none).run P w = .ok (l, m, cap) w := by
  rcases h.ite with ⟨hb, h⟩ | ⟨_, h⟩
  · rcases h.ite with ⟨hb', h⟩ | ⟨_, h⟩
    · simp only [decide_eq_true_eq] at hb hb'
      refine ⟨lv.toNat, hv.toNat, by omega, by omega, h, ?_⟩
      simp [Instr.sliceBounds, run_sliceBound hb.1 (show hv ≤ (cap : Int) by omega), run_sliceBound hb'.1 (show lv ≤ ((hv.toNat : Nat) : Int) by omega)]
    · exact h.fail.elim
  · exact h.fail.elim
theorem cutHi_ok {n cap : Nat} (hcap : n ≤ cap) {kh : IntKind} {hv : Int} {lo : Option V} {lov : Option Value} {k : Nat → Nat → Rd α} {isS : Bool} (h : Ev ok (cutHi n lo hv k) s r) (hl : RepOpt E F w lo lov) :
    ∃ l m, l ≤ m ∧ m ≤ n ∧ Ev ok (k l m) s r ∧ (Instr.sliceBounds isS n cap lov (some (.int kh hv)) none).run P w = .ok (l, m, cap) w := by
  unfold cutHi at h
  split at h
  · rcases h.ite with ⟨hb, h⟩ | ⟨_, h⟩
    · simp only [decide_eq_true_eq] at hb
      cases lov with
      | some v => exact hl.elim
      | none =>
        refine ⟨0, hv.toNat, Nat.zero_le _, by omega, h, ?_⟩
        simp [Instr.sliceBounds, run_sliceBound hb.1 (show hv ≤ (cap : Int) by omega)]
    · exact h.fail.elim
  · cases lov with
    | none => exact hl.elim
    | some v =>
      have := of_int hl; subst this
      exact cutHi_int hcap h
  · exact h.fail.elim
theorem cut_ok {n cap : Nat} (hcap : n ≤ cap) {lo hi : Option V} {lov hiv : Option Value} {k : Nat → Nat → Rd α} {isS : Bool} (h : Ev ok (cut n lo hi k) s r) (hl : RepOpt E F w lo lov) (hh : RepOpt E F w hi hiv) (hcs : isS = true ∨ cap = n) :
    ∃ l m, l ≤ m ∧ m ≤ n ∧ Ev ok (k l m) s r ∧ (Instr.sliceBounds isS n cap lov hiv none).run P w = .ok (l, m, cap) w := by
  unfold cut at h
  split at h
  · rename_i kh hv
    cases hiv with
    | none => exact hh.elim
    | some v =>
      have := of_int hh; subst this
      exact cutHi_ok hcap h hl
  · cases hiv with
    | some v => exact hh.elim
    | none =>
      split at h
      · cases lov with
        | some v => exact hl.elim
        | none => exact ⟨0, n, Nat.zero_le _, Nat.le_refl _, h, by simp [Instr.sliceBounds]⟩
      · cases lov with
        | none => exact hl.elim
        | some v =>
          obtain ⟨l, g1, g2, g3⟩ := cutLo_ok (P := P) (cap := cap) h hl
          exact ⟨l, n, g1, Nat.le_refl _, g2, g3 isS hcs⟩
  · exact h.fail.elim
theorem rep_slice {l : L} {v : Option Addr} {n c : Nat} (h : RepL E F w l [.slice v n c]) : RepV E F w (.one l) (.slice v n c) := by
  cases l <;> first | trivial | exact ⟨trivial, h⟩
theorem run_slice_cut {t e : TypeId} {f : TypeInfo} (hu : P.underlying t = some (.slice e)) (hf : P.info? e = some f) {a : Option Addr} {len cap : Nat} {lov hiv : Option Value} {l m : Nat}
    (hb : (Instr.sliceBounds true len cap lov hiv none).run P w = .ok (l, m, cap) w) :
    (Instr.sliceAt t (.slice a len cap) lov hiv none).run P w = .ok (.slice (if cap = l then a else a.map (·.add (l * f.size))) (m - l) (cap - l)) w := by
  simp [Instr.sliceAt, Instr.slice, run_underlying hu, hb, sizeOf, typeInfo, hf]
theorem Win.sub {e : EI} {off n l m c : Nat} {v : Option Addr} (h : Win e off n [.slice v n c]) (h1 : l ≤ m) (h2 : m ≤ n) (hc : e.len ≤ e.cap) (sz : Nat) (hsz : sz = e.esz) :
    Win e (off + l) (m - l) [.slice (if c = l then v else v.map (·.add (l * sz))) (m - l) (c - l)] := by
  obtain ⟨k1, a, k2, k3⟩ := h
  simp only [List.cons.injEq, Value.slice.injEq, and_true, true_and] at k2
  obtain ⟨rfl, rfl⟩ := k2
  refine ⟨by omega, _, by rw [Nat.sub_sub], fun h => ?_⟩
  have hne : ¬ (e.cap - off = l) := by omega
  obtain ⟨g1, g2⟩ := k3 (by omega)
  refine ⟨g1, ?_⟩
  rw [if_neg hne, g2, hsz]
  simp [add_lit, Nat.add_mul, Nat.add_assoc]
theorem All_sub {R : α → List Value → Prop} {n l m : Nat} (hR : ∀ x c, R x c → c.length = n) {xs : List α} {ds : List Value} (h : All R xs ds) (hm : l ≤ xs.length) : ∃ c d e, ds = c ++ (d ++ e) ∧ c.length = l * n ∧ All R ((xs.drop l).take m) d := by
  have e : xs = xs.take l ++ ((xs.drop l).take m ++ (xs.drop l).drop m) := by rw [List.take_append_drop, List.take_append_drop]
  rw [e] at h
  obtain ⟨c1, d, rfl, h1, h2⟩ := h.split
  obtain ⟨c2, c3, rfl, h3, h4⟩ := h2.split
  refine ⟨c1, c2, c3, rfl, ?_, h3⟩
  rw [h1.len hR]; simp [Nat.min_eq_left hm]
theorem RepD_sub {t : Ty} {xs : List (Den t)} {v : Option Addr} {cap l m : Nat} (h : RepD F w (.sl t) xs [.slice v xs.length cap]) (h1 : l ≤ m) (h2 : m ≤ xs.length) (sz : Nat) (hsz : sz = t.sz) :
    RepD F w (.sl t) ((xs.drop l).take (m - l)) [.slice (if cap = l then v else v.map (·.add (l * sz))) (m - l) (cap - l)] := by
  rw [RepD] at h ⊢
  obtain ⟨ad, c, k1, k2, k3⟩ := h
  simp only [List.cons.injEq, Value.slice.injEq, and_true, true_and] at k1
  obtain ⟨rfl, rfl⟩ := k1
  have hlen : List.length ((xs.drop l).take (m - l)) = m - l := by simp; omega
  refine ⟨_, _, by rw [hlen], by rw [hlen]; omega, ?_⟩
  rcases k3 with rfl | ⟨b, o, ds, rfl, k4, k5, k6⟩
  · left; simp
  · by_cases hz : m - l = 0
    · left; rw [hz]; simp
    · right
      have hne : ¬ (cap = l) := by omega
      obtain ⟨c, d, e, rfl, g1, g2⟩ := All_sub (m := m - l) (fun x c => RepD_len) k5 (show l ≤ xs.length by omega)
      refine ⟨b, o + l * sz, d, by rw [if_neg hne]; simp [add_lit], k4, g2, ?_⟩
      have := (k6.append.2).append.1
      rw [g1] at this
      rw [hsz]; exact this
end
theorem op_slice (hti : TIok P cx) {t : TypeId} {x : Operand} {lo hj : Option Operand} {mx : Option Operand} (ho : o.op = .slice t x lo hj mx) : OpP P ok cx hi o := by
  intro C rg ix key A s a w wr K Q h hr hA hK
  simp only [opSem, ho] at h
  obtain ⟨E, F, hm, ht⟩ := hr
  cases mx with
  | some m => exact h.fail.elim
  | none =>
  obtain ⟨i, hi', h⟩ := Cx.t_ev h
  have hT := hti t i hi'
  obtain ⟨X, h1, h2⟩ := ev_ok h ht
  obtain ⟨LO, h3, h4⟩ := evO_ok h2 ht
  obtain ⟨HI, h5, h6⟩ := evO_ok h4 ht
  have run : ∀ v, (Instr.sliceAt t (a.eval x) (lo.map a.eval) (hj.map a.eval) none).run P w = .ok v w → (execOp a.eval o).run P w = .ok (.value v) w := by
    intro v hv
    simp only [execOp, ho, Sem.run_bind, Option.map_none, hv]
    rfl
  unfold sliceS at h6
  split at h6
  · rename_i sv htd
    have hx := of_str h1
    have hu := hT.str htd
    obtain ⟨l, m, g1, g2, g3, g4⟩ := cut_ok (P := P) (isS := false) (Nat.le_refl _) h6 h3 h5 (.inr rfl)
    refine pure_rel (run (.string (sv.extract l m)) ?_) g3 hm ht (rep_str _) hK
    rw [hx]
    simp [Instr.sliceAt, Instr.slice, run_underlying hu, g4]
  · rename_i n htd
    obtain ⟨e, hu, ⟨f, z, f1, f2, f3, f4, f5⟩⟩ := hT.slice htd
    have h6 := h6.get
    simp only [look] at h6
    split at h6
    · rename_i a' xs ro hobj
      simp only [Cn.o.injEq] at hobj
      have e6 := castL_eq h6; subst e6; have h6 := castL_same h6
      obtain ⟨q1, q2, q3, q4, ds, q5, q6⟩ := arr_at hm hobj
      have h1' := h1
      obtain ⟨_, p1, p2⟩ := h1
      obtain ⟨w1, ad, w2, w3⟩ := id p2
      simp only [List.cons.injEq, and_true] at w2
      have hsz : f.size = (E.e n).esz := by rw [f2, q3]
      rw [w2] at p2
      split at h6
      · -- the whole
        have e5 : hj.map a.eval = none := by cases hq : hj.map a.eval with
          | none => rfl
          | some v => rw [hq] at h5; exact h5.elim
        have e3 : lo.map a.eval = none := by cases hq : lo.map a.eval with
          | none => rfl
          | some v => rw [hq] at h3; exact h3.elim
        refine pure_rel (run _ ?_) h6 hm ht h1' hK
        rw [w2, e3, e5, run_slice_cut hu f1 (l := 0) (m := (E.e n).len) (by simp [Instr.sliceBounds])]
        simp only [Nat.zero_mul, Nat.sub_zero]
        split
        · rfl
        · cases ad with
          | none => rfl
          | some ad => simp [Addr.add]
      · rename_i lov
        have e5 : hj.map a.eval = none := by cases hq : hj.map a.eval with
          | none => rfl
          | some v => rw [hq] at h5; exact h5.elim
        obtain ⟨lv, e3⟩ : ∃ lv, lo.map a.eval = some lv := by cases hq : lo.map a.eval with
          | none => rw [hq] at h3; exact h3.elim
          | some v => exact ⟨v, rfl⟩
        rw [e3] at h3
        obtain ⟨l, g1, g2, g3⟩ := cutLo_ok (P := P) (cap := (E.e n).cap - 0) h6 h3
        rw [q1] at g1 g3
        have hw := p2.sub (l := l) (m := (E.e n).len) g1 (Nat.le_refl _) q2 f.size hsz
        rw [Nat.zero_add] at hw
        refine pure_rel (run _ ?_) g2 hm ht (rep_slice ⟨p1, g1, hw⟩) hK
        rw [w2, e3, e5, run_slice_cut hu f1 (g3 true (.inl rfl))]
      · obtain ⟨l, m, g1, g2, g3, g4⟩ := cut_ok (P := P) (isS := true) (cap := (E.e n).cap - 0) (by rw [q1]; omega) h6 h3 h5 (.inl rfl)
        rw [q1] at g2 g4
        have hw := p2.sub (l := l) (m := m) g1 g2 q2 f.size hsz
        rw [Nat.zero_add] at hw
        refine pure_rel (run _ ?_) g3 hm ht (rep_slice ⟨p1, hw⟩) hK
        rw [w2, run_slice_cut hu f1 g4]
    · exact h6.fail.elim
  · rename_i n off htd
    obtain ⟨e, hu, ⟨f, z, f1, f2, f3, f4, f5⟩⟩ := hT.slice htd
    have h6 := h6.get
    simp only [look] at h6
    split at h6
    · rename_i a' xs ro hobj
      simp only [Cn.o.injEq] at hobj
      have e6 := castL_eq h6; subst e6; have h6 := castL_same h6
      obtain ⟨q1, q2, q3, q4, ds, q5, q6⟩ := arr_at hm hobj
      have h1' := h1
      obtain ⟨_, p1, p0, p2⟩ := h1
      obtain ⟨w1, ad, w2, w3⟩ := id p2
      simp only [List.cons.injEq, and_true] at w2
      have hsz : f.size = (E.e n).esz := by rw [f2, q3]
      rw [w2] at p2
      split at h6
      · have e5 : hj.map a.eval = none := by cases hq : hj.map a.eval with
          | none => rfl
          | some v => rw [hq] at h5; exact h5.elim
        have e3 : lo.map a.eval = none := by cases hq : lo.map a.eval with
          | none => rfl
          | some v => rw [hq] at h3; exact h3.elim
        refine pure_rel (run _ ?_) h6 hm ht h1' hK
        rw [w2, e3, e5, run_slice_cut hu f1 (l := 0) (m := (E.e n).len - off) (by simp [Instr.sliceBounds])]
        simp only [Nat.zero_mul, Nat.sub_zero]
        split
        · rfl
        · cases ad with
          | none => rfl
          | some ad => simp [Addr.add]
      · rename_i lov
        have e5 : hj.map a.eval = none := by cases hq : hj.map a.eval with
          | none => rfl
          | some v => rw [hq] at h5; exact h5.elim
        obtain ⟨lv, e3⟩ : ∃ lv, lo.map a.eval = some lv := by cases hq : lo.map a.eval with
          | none => rw [hq] at h3; exact h3.elim
          | some v => exact ⟨v, rfl⟩
        rw [e3] at h3
        obtain ⟨l, g1, g2, g3⟩ := cutLo_ok (P := P) (cap := (E.e n).cap - off) h6 h3
        rw [q1] at g1 g3
        have hw := p2.sub (l := l) (m := (E.e n).len - off) g1 (Nat.le_refl _) q2 f.size hsz
        refine pure_rel (run _ ?_) g2 hm ht (rep_slice ⟨p1, by omega, by rw [← Nat.sub_sub]; exact hw⟩) hK
        rw [w2, e3, e5, run_slice_cut hu f1 (g3 true (.inl rfl))]
      · obtain ⟨l, m, g1, g2, g3, g4⟩ := cut_ok (P := P) (isS := true) (cap := (E.e n).cap - off) (by rw [q1]; omega) h6 h3 h5 (.inl rfl)
        rw [q1] at g2 g4
        have hw := p2.sub (l := l) (m := m) g1 g2 q2 f.size hsz
        refine pure_rel (run _ ?_) g3 hm ht (rep_slice ⟨p1, hw⟩) hK
        rw [w2, run_slice_cut hu f1 g4]
    · exact h6.fail.elim
  · rename_i n off len htd
    obtain ⟨e, hu, ⟨f, z, f1, f2, f3, f4, f5⟩⟩ := hT.slice htd
    have h6 := h6.get
    simp only [look] at h6
    split at h6
    · rename_i a' xs ro hobj
      simp only [Cn.o.injEq] at hobj
      have e6 := castL_eq h6; subst e6; have h6 := castL_same h6
      obtain ⟨q1, q2, q3, q4, ds, q5, q6⟩ := arr_at hm hobj
      obtain ⟨_, p1, p2⟩ := h1
      obtain ⟨w1, ad, w2, w3⟩ := id p2
      simp only [List.cons.injEq, and_true] at w2
      have hsz : f.size = (E.e n).esz := by rw [f2, q3]
      rw [w2] at p2
      obtain ⟨l, m, g1, g2, g3, g4⟩ := cut_ok (P := P) (isS := true) (cap := (E.e n).cap - off) (by omega) h6 h3 h5 (.inl rfl)
      have hw := p2.sub (l := l) (m := m) g1 g2 q2 f.size hsz
      refine pure_rel (run _ ?_) g3 hm ht (rep_slice ⟨p1, hw⟩) hK
      rw [w2, run_slice_cut hu f1 g4]
    · exact h6.fail.elim
  · rename_i a' xs htd
    obtain ⟨e, hu, ⟨f, z, f1, f2, f3, f4, f5⟩⟩ := hT.slice htd
    have e6 := castL_eq h6; subst e6; have h6 := castL_same h6
    have h1' := h1
    obtain ⟨_, p2⟩ := h1
    rw [RepL] at p2
    have p3 := p2
    rw [RepD] at p3
    obtain ⟨ad, cap, w2, w3, _⟩ := p3
    simp only [List.cons.injEq, and_true] at w2
    rw [w2] at p2
    split at h6
    · have e5 : hj.map a.eval = none := by cases hq : hj.map a.eval with
        | none => rfl
        | some v => rw [hq] at h5; exact h5.elim
      have e3 : lo.map a.eval = none := by cases hq : lo.map a.eval with
        | none => rfl
        | some v => rw [hq] at h3; exact h3.elim
      refine pure_rel (run _ ?_) h6 hm ht h1' hK
      rw [w2, e3, e5, run_slice_cut hu f1 (l := 0) (m := List.length xs) (by simp [Instr.sliceBounds])]
      simp only [Nat.zero_mul, Nat.sub_zero]
      split
      · rfl
      · cases ad with
        | none => rfl
        | some ad => simp [Addr.add]
    · rename_i lov
      have e5 : hj.map a.eval = none := by cases hq : hj.map a.eval with
        | none => rfl
        | some v => rw [hq] at h5; exact h5.elim
      obtain ⟨lv, e3⟩ : ∃ lv, lo.map a.eval = some lv := by cases hq : lo.map a.eval with
        | none => rw [hq] at h3; exact h3.elim
        | some v => exact ⟨v, rfl⟩
      rw [e3] at h3
      obtain ⟨l, g1, g2, g3⟩ := cutLo_ok (P := P) (cap := cap) h6 h3
      have hw := RepD_sub p2 (l := l) (m := List.length xs) g1 (Nat.le_refl _) f.size f2
      have ee : (List.drop l xs).take (List.length xs - l) = List.drop l xs := List.take_of_length_le (by simp)
      rw [ee] at hw
      refine pure_rel (run _ ?_) g2 hm ht (rep_slice hw) hK
      rw [w2, e3, e5, run_slice_cut hu f1 (g3 true (.inl rfl))]
    · obtain ⟨l, m, g1, g2, g3, g4⟩ := cut_ok (P := P) (isS := true) (cap := cap) w3 h6 h3 h5 (.inl rfl)
      have hw := RepD_sub p2 g1 g2 f.size f2
      refine pure_rel (run _ ?_) g3 hm ht (rep_slice hw) hK
      rw [w2, run_slice_cut hu f1 g4]
  · rename_i n l y' htd
    obtain ⟨e, hu, ⟨f, z, f1, f2, f3, f4, f5⟩, hsc, hzk⟩ := hT.array htd
    have hsz : f.size = 1 := by rw [f2, scalar_sz hsc]
    obtain ⟨lo', m, g1, g2, g3, g4⟩ := cut_ok (P := P) (isS := false) (Nat.le_refl _) h6 h3 h5 (.inr rfl)
    obtain ⟨_, p1, p2, p3⟩ := h1
    simp only [List.cons.injEq, and_true] at p2
    refine pure_rel (run (.slice (some (if i.n = lo' then ⟨(E.e n).blk, (E.e n).loff l, none⟩ else ⟨(E.e n).blk, (E.e n).loff l + lo', none⟩)) (m - lo') (i.n - lo')) ?_) g3 hm ht (rep_slice ⟨p1, by omega, _, _, rfl, by omega, fun hne => ?_⟩) hK
    · rw [p2]
      simp [Instr.sliceAt, Instr.sureAddr, run_underlying hu, g4, sizeOf, typeInfo, f1, hsz, add_lit]
    · rw [if_neg (by omega)]
  · exact h6.fail.elim
end
end Go.Proofs.Zz
