/- Blocks with cells: opened with nil slices, closed with slices of one's own. -/
import Derived.Test.YtpplgkggclddiaaEnhP
set_option linter.unusedVariables false
set_option linter.unusedSimpArgs false
namespace Go.Proofs.Zz
open Go

theorem RepKs_d {β : Nat → EI} {F : Nat → Prop} {w : World} : ∀ {ts : List Ty} {p : List DV} {es : List EI} {c : List Value}, RepKs β F w (ts.map LK.d) p es c → ∃ ys : Tup ts, p = ofT ts ys
  | [], p, es, c, h => by
    obtain ⟨rfl, _, _⟩ := h.inv
    exact ⟨(), rfl⟩
  | t :: ts, p, es, c, h => by
    obtain ⟨p1, p2, e1, e2, c1, c2, rfl, rfl, rfl, h1, h2⟩ := RepKs.inv (ks := LK.d t :: ts.map LK.d) h
    obtain ⟨ys, rfl⟩ := RepKs_d h2
    cases h1 with
    | d hd => exact ⟨(_, ys), rfl⟩
theorem un_same {R : Type} {t : Ty} {v : Den t} {p : List DV} {k : Den t → List DV → Option R} : un t (⟨t, v⟩ :: p) k = k v p := by
  unfold un
  simp only [tyc_same]
theorem onG_of {X : Type} : ∀ {ts : List Ty} {ys : Tup ts} {k : Cur (Option X) ts}, onG ts (ofT ts ys) k = appT ts k ys
  | [], _, _ => rfl
  | t :: ts, ys, k => by
    simp only [onG, ofT, appT, un_same]
    exact onG_of
def sgOf (l : LS) (n : Nat) : Sg := match lookN l.x n with
  | some s => s
  | none => l.h
/-- A struct of four numbers and two slices. -/
abbrev B4 (a : Ty) : Ty := .pair (.int .i64) (.pair (.int .i64) (.pair (.int .i64) (.pair (.int .i64) (.pair a (.pair a .unit)))))
abbrev i64T : Ty := .int .i64
def ks4 (t : Ty) : List LK := [.d (.int .i64), .d (.int .i64), .d (.int .i64), .d (.int .i64), .o t, .o t]
def po4 (t : Ty) (v : Den (B4 .nl)) : List DV := [⟨.int .i64, v.1⟩, ⟨.int .i64, v.2.1⟩, ⟨.int .i64, v.2.2.1⟩, ⟨.int .i64, v.2.2.2.1⟩, ⟨.sl t, []⟩, ⟨.sl t, []⟩]
def pc4 (t : Ty) (v : Den (B4 (.sl t))) : List DV := [⟨.int .i64, v.1⟩, ⟨.int .i64, v.2.1⟩, ⟨.int .i64, v.2.2.1⟩, ⟨.int .i64, v.2.2.2.1⟩, ⟨.sl t, v.2.2.2.2.1⟩, ⟨.sl t, v.2.2.2.2.2.1⟩]
theorem nil_own {F : Nat → Prop} {w : World} {β : Nat → EI} (t : Ty) : RepK β F w (.o t) [⟨.sl t, []⟩] [nilEI t] [.slice none 0 0] :=
  .o ⟨by simp [nilEI], none, rfl, fun h => by simp [nilEI] at h⟩ ⟨rfl, Nat.le_refl _, rfl, fun _ => rfl, fun _ => rfl, fun h => by simp [nilEI] at h⟩
theorem open4 (t : Ty) : ∀ (β : Nat → EI) (F : Nat → Prop) (w : World) (v : Den (B4 .nl)) (c : List Value), RepD F w (B4 .nl) v c → ∃ es, RepKs β F w (ks4 t) (po4 t v) es c ∧ ∀ e ∈ es, e.nil = true := by
  intro β F w v c h
  obtain ⟨v1, v2, v3, v4, v5, v6, v7⟩ := v
  simp only [B4, RepD] at h
  obtain ⟨c1, d1, rfl, rfl, c2, d2, rfl, rfl, c3, d3, rfl, rfl, c4, d4, rfl, rfl, c5, d5, rfl, rfl, c6, d6, rfl, rfl, rfl⟩ := h
  refine ⟨[] ++ ([] ++ ([] ++ ([] ++ ([nilEI t] ++ ([nilEI t] ++ []))))), ?_, by simp [nilEI]⟩
  have hd : ∀ x : Int, RepK β F w (.d (.int .i64)) [⟨.int .i64, x⟩] [] [.int .i64 x] := fun x => .d (by rw [RepD])
  exact .cons (hd v1) (.cons (hd v2) (.cons (hd v3) (.cons (hd v4) (.cons (nil_own t) (.cons (nil_own t) .nil)))))
theorem close4 (t : Ty) : ∀ (β : Nat → EI) (F : Nat → Prop) (w : World) (v : Den (B4 (.sl t))) (es : List EI) (c : List Value), RepKs β F w (ks4 t) (pc4 t v) es c → ∀ F2 : Nat → Prop, (∀ b, F b → F2 b) → (∀ e ∈ es, e.nil = false → F2 e.blk) → RepD F2 w (B4 (.sl t)) v c := by
  intro β F w v es c h F2 hF he
  obtain ⟨v1, v2, v3, v4, v5, v6, v7⟩ := v
  obtain ⟨p1, q1, e1, f1, c1, d1, z1, rfl, rfl, h1, h⟩ := RepKs.inv (ks := ks4 t) h
  obtain ⟨p2, q2, e2, f2, c2, d2, rfl, rfl, rfl, h2, h⟩ := h.inv
  obtain ⟨p3, q3, e3, f3, c3, d3, rfl, rfl, rfl, h3, h⟩ := h.inv
  obtain ⟨p4, q4, e4, f4, c4, d4, rfl, rfl, rfl, h4, h⟩ := h.inv
  obtain ⟨p5, q5, e5, f5, c5, d5, rfl, rfl, rfl, h5, h⟩ := h.inv
  obtain ⟨p6, q6, e6, f6, c6, d6, rfl, rfl, rfl, h6, h⟩ := h.inv
  obtain ⟨rfl, rfl, rfl⟩ := h.inv
  cases h1 with
  | d h1 => cases h2 with
    | d h2 => cases h3 with
      | d h3 => cases h4 with
        | d h4 => cases h5 with
          | o w5 a5 => cases h6 with
            | o w6 a6 =>
              simp only [pc4, List.cons_append, List.nil_append, List.cons.injEq, DV.mk.injEq, heq_eq_eq, true_and, and_true] at z1
              obtain ⟨rfl, rfl, rfl, rfl, rfl, rfl⟩ := z1
              have g5 := own_data (F2 := F2) w5 a5 hF (he _ (by simp))
              have g6 := own_data (F2 := F2) w6 a6 hF (he _ (by simp))
              simp only [B4]
              rw [RepD]; refine ⟨_, _, rfl, h1.mono hF, ?_⟩
              rw [RepD]; refine ⟨_, _, rfl, h2.mono hF, ?_⟩
              rw [RepD]; refine ⟨_, _, rfl, h3.mono hF, ?_⟩
              rw [RepD]; refine ⟨_, _, rfl, h4.mono hF, ?_⟩
              rw [RepD]; refine ⟨_, _, rfl, g5, ?_⟩
              rw [RepD]; refine ⟨_, _, rfl, g6, ?_⟩
              rw [RepD]
end Go.Proofs.Zz
