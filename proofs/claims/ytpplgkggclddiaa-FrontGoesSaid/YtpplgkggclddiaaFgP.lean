import Derived.Test.YtpplgkggclddiaaFgI
import Derived.IntWalk
set_option linter.unusedSimpArgs false
set_option linter.unusedVariables false
/- The reference's instructions and programs: what their plain functions answer. -/
set_option linter.unusedVariables false
set_option linter.unusedSimpArgs false
set_option maxRecDepth 100000
namespace Go.Proofs.Zz
open Go
abbrev InsD := Int × (Int × (Int × (Int × (Int × Unit))))
abbrev I0 : InsD := ((0 : Int), ((0 : Int), ((0 : Int), ((0 : Int), ((0 : Int), ())))))
theorem idx_t {i : Int} {n : Nat} (h0 : 0 ≤ i) (h1 : i < n) : idx i n = true := by simp [idx, h0, h1]
theorem idx_f {i : Int} {n : Nat} (h : idx i n = false) : ¬ (0 ≤ i ∧ i < n) := by simpa [idx] using h
variable {N : Nat}
theorem form_is (op : Int) : ∃ y : Int, e25 N op = some (0, [⟨.int .i64, y⟩]) := by
  unfold e25
  repeat' split
  all_goals exact ⟨_, rfl⟩
theorem has_is (f : Int) : ∃ a b c d : Bool, e59 N f = some (0, [⟨.bool, a⟩, ⟨.bool, b⟩, ⟨.bool, c⟩, ⟨.bool, d⟩]) := by
  unfold e59
  repeat' split
  all_goals exact ⟨_, _, _, _, rfl⟩
theorem reg_is (n : Int) (t : Bool) : ∃ y : Bool, e60 N n t = some (0, [⟨.bool, y⟩]) ∧ (y = true → 0 ≤ n ∧ n ≤ 15) := by
  unfold e60
  split
  · rename_i h
    simp only [beq_iff_eq] at h
    exact ⟨true, rfl, fun _ => by omega⟩
  · split
    · split
      · rename_i h
        simp only [decide_eq_true_eq] at h
        exact ⟨_, rfl, fun h' => by simp only [decide_eq_true_eq] at h'; omega⟩
      · exact ⟨_, rfl, fun h => by simp at h⟩
    · exact ⟨_, rfl, fun h => by simp at h⟩
/-- Its registers are registers. -/
def RegsOk (i : InsD) : Prop := (0 ≤ i.2.1 ∧ i.2.1 ≤ 15) ∧ (0 ≤ i.2.2.1 ∧ i.2.2.1 ≤ 15) ∧ (0 ≤ i.2.2.2.1 ∧ i.2.2.2.1 ≤ 15)
theorem rightIns_is (op d a b imm : Int) : ∃ y : Bool, e36 N op d a b imm = some (0, [⟨.bool, y⟩]) ∧ (y = true → (0 ≤ d ∧ d ≤ 15) ∧ (0 ≤ a ∧ a ≤ 15) ∧ (0 ≤ b ∧ b ≤ 15)) := by
  unfold e36
  obtain ⟨f, hf⟩ := form_is (N := N) op
  rw [hf, on25_is]
  obtain ⟨x1, x2, x3, x4, hh⟩ := has_is (N := N) f
  rw [hh, on59_is]
  obtain ⟨y1, r1, p1⟩ := reg_is (N := N) d x1
  obtain ⟨y2, r2, p2⟩ := reg_is (N := N) a x2
  obtain ⟨y3, r3, p3⟩ := reg_is (N := N) b x3
  split
  · exact ⟨_, rfl, fun h => by simp at h⟩
  · rw [r1, on60_is]
    cases y1 with
    | false => exact ⟨_, rfl, fun h => by simp at h⟩
    | true =>
      rw [r2, on60_is]
      cases y2 with
      | false => exact ⟨_, rfl, fun h => by simp at h⟩
      | true =>
        rw [r3, on60_is]
        cases y3 with
        | false => exact ⟨_, rfl, fun h => by simp at h⟩
        | true =>
          have key := And.intro (p1 rfl) (And.intro (p2 rfl) (p3 rfl))
          simp only [Bool.not_true]
          repeat' split
          all_goals exact ⟨_, rfl, fun _ => key⟩
theorem reads_is (op d a b imm : Int) : ∃ l : List Int, e45 N op d a b imm = some (0, [⟨.sl (.int .i64), l⟩]) ∧ (∀ x ∈ l, 1 ≤ x ∧ x ≤ 15) ∧ l.length ≤ 2 := by
  unfold e45
  obtain ⟨y, hy, hp⟩ := rightIns_is (N := N) op d a b imm
  rw [hy, on36_is]
  cases y with
  | false => exact ⟨[], rfl, by simp, by simp⟩
  | true =>
    obtain ⟨h1, h2, h3⟩ := hp rfl
    obtain ⟨f, hf⟩ := form_is (N := N) op
    obtain ⟨x1, x2, x3, x4, hh⟩ := has_is (N := N) f
    simp only [Bool.not_true]
    rw [hf, on25_is, hh, on59_is]
    have r1 : decide ((([] : List Int).length + [a].length) * 8 ≤ reach) = true := by kernel_rfl
    have r2 : decide ((([] : List Int).length + [b].length) * 8 ≤ reach) = true := by kernel_rfl
    have r3 : decide (((([] : List Int) ++ [a]).length + [b].length) * 8 ≤ reach) = true := by kernel_rfl
    simp only [r1, r2, r3]
    have ha : (a != 0) = true → 1 ≤ a ∧ a ≤ 15 := fun h => by simp at h; omega
    have hb : (b != 0) = true → 1 ≤ b ∧ b ≤ 15 := fun h => by simp at h; omega
    cases x2 <;> cases x3 <;> simp only [] <;> repeat' split
    all_goals (refine ⟨_, rfl, ?_, by simp⟩; simp_all)
end Go.Proofs.Zz
/- The reference's targets, programs that may be, owners: what their plain functions answer. -/
set_option linter.unusedVariables false
set_option linter.unusedSimpArgs false
set_option maxRecDepth 100000
namespace Go.Proofs.Zz
open Go
variable {N : Nat}
theorem wrap_succ {i : Int} (h0 : 0 ≤ i) (h1 : i ≤ 100000000) : IntKind.i64.wrap (i + 1) = i + 1 := IntWalk.i64_in _ (by omega)
theorem target_is (code : List InsD) (size : Int) (data : List Int) (i : Int) (h0 : 0 ≤ i) (h1 : i < (code.length : Int)) : ∃ t : Int, e75 N code size data i = some (0, [⟨.int .i64, t⟩]) ∧ (0 ≤ t → t < code.length) := by
  unfold e75
  rw [idx_t h0 h1]
  obtain ⟨f, hf⟩ := form_is (N := N) (code.getD i.toNat I0).1
  simp only []
  rw [hf, on25_is]
  repeat' split
  all_goals refine ⟨_, rfl, fun h => ?_⟩
  all_goals first | (exfalso; omega) | (rename_i h3; simp only [decide_eq_false_iff_not, ge_iff_le, Int.not_le] at h3; exact h3)
theorem targets_loop (code : List InsD) (size : Int) (data : List Int) (hl : code.length ≤ 100000) : ∀ (n : Nat) (i : Int), 0 ≤ i → i ≤ (code.length : Int) → (code.length : Int) - i < n →
    (∃ y : Int, l54_0 N n i code size data = some (0, [⟨.int .i64, y⟩])) ∨ l54_0 N n i code size data = some (1, []) := by
  intro n
  induction n with
  | zero => intro i h0 h1 h2; omega
  | succ n ih =>
    intro i h0 h1 h2
    rw [l54_0]
    unfold r54_0
    by_cases hi : i < (code.length : Int)
    · rw [show decide (i < ((List.length code : Nat) : Int)) = true by simpa using hi, idx_t h0 hi]
      obtain ⟨f, hf⟩ := form_is (N := N) (code.getD i.toNat I0).1
      obtain ⟨t, ht, _⟩ := target_is (N := N) code size data i h0 hi
      have hrec := ih (i + 1) (by omega) (by omega) (by omega)
      simp only []
      rw [hf, on25_is, ht, on75_is, wrap_succ h0 (by omega)]
      repeat' split
      all_goals first | exact .inl ⟨_, rfl⟩ | exact hrec
    · rw [show decide (i < ((List.length code : Nat) : Int)) = false by simpa using hi]
      exact .inr rfl
theorem targets_is (code : List InsD) (size : Int) (data : List Int) (hl : code.length ≤ 100000) (hN : code.length < N) : ∃ y : Int, e54 N code size data = some (0, [⟨.int .i64, y⟩]) := by
  unfold e54
  rcases targets_loop (N := N) code size data hl N 0 (by omega) (by omega) (by omega) with ⟨y, h⟩ | h
  · rw [h, on54_0_0]; exact ⟨_, rfl⟩
  · rw [h, on54_0_1]; exact ⟨_, rfl⟩
theorem right_loop (code : List InsD) (size : Int) (data : List Int) (hl : code.length ≤ 100000) : ∀ (n : Nat) (i : Int), 0 ≤ i → i ≤ (code.length : Int) → (code.length : Int) - i < n → (∀ j : Nat, (j : Int) < i → RegsOk (code.getD j I0)) →
    l22_0 N n i code size data = some (0, [⟨.bool, false⟩]) ∨ (l22_0 N n i code size data = some (1, [⟨.sl (.pair (.int .i64) (.pair (.int .i64) (.pair (.int .i64) (.pair (.int .i64) (.pair (.int .i64) .unit))))), code⟩, ⟨.int .i64, size⟩, ⟨.sl (.int .u8), data⟩]) ∧ ∀ j : Nat, j < code.length → RegsOk (code.getD j I0)) := by
  intro n
  induction n with
  | zero => intro i h0 h1 h2; omega
  | succ n ih =>
    intro i h0 h1 h2 hr
    rw [l22_0]
    unfold r22_0
    by_cases hi : i < (code.length : Int)
    · rw [show decide (i < ((List.length code : Nat) : Int)) = true by simpa using hi, idx_t h0 hi]
      obtain ⟨y, hy, hp⟩ := rightIns_is (N := N) (code.getD i.toNat I0).1 (code.getD i.toNat I0).2.1 (code.getD i.toNat I0).2.2.1 (code.getD i.toNat I0).2.2.2.1 (code.getD i.toNat I0).2.2.2.2.1
      simp only []
      rw [hy, on36_is]
      cases y with
      | false => exact .inl rfl
      | true =>
        rw [wrap_succ h0 (by omega)]
        refine ih (i + 1) (by omega) (by omega) (by omega) fun j hj => ?_
        by_cases e : (j : Int) = i
        · have : i.toNat = j := by omega
          rw [this] at hp
          exact hp rfl
        · exact hr j (by omega)
    · rw [show decide (i < ((List.length code : Nat) : Int)) = false by simpa using hi]
      exact .inr ⟨rfl, fun j hj => hr j (by omega)⟩
/-- A program that may be: its length, its registers. -/
def Right (code : List InsD) : Prop := 1 ≤ code.length ∧ code.length ≤ 2000 ∧ ∀ j : Nat, j < code.length → RegsOk (code.getD j I0)
theorem right_is (code : List InsD) (size : Int) (data : List Int) (hN : 2000 < N) : ∃ y : Bool, e22 N code size data = some (0, [⟨.bool, y⟩]) ∧ (y = true → Right code) := by
  unfold e22
  by_cases h1 : ((code.length : Nat) : Int) < 1
  · rw [show decide (((List.length code : Nat) : Int) < (1 : Int)) = true by simpa using h1]
    exact ⟨_, rfl, fun h => by simp at h⟩
  rw [show decide (((List.length code : Nat) : Int) < (1 : Int)) = false by simpa using h1]
  by_cases h2 : ((code.length : Nat) : Int) > 2000
  · rw [show decide (((List.length code : Nat) : Int) > (2000 : Int)) = true by simpa using h2]
    exact ⟨_, rfl, fun h => by simp at h⟩
  rw [show decide (((List.length code : Nat) : Int) > (2000 : Int)) = false by simpa using h2]
  have hl : code.length ≤ 2000 := by omega
  simp only []
  split
  · exact ⟨_, rfl, fun h => by simp at h⟩
  split
  · exact ⟨_, rfl, fun h => by simp at h⟩
  split
  · exact ⟨_, rfl, fun h => by simp at h⟩
  rcases right_loop (N := N) code size data (by omega) N 0 (by omega) (by omega) (by omega) (fun j hj => by omega) with h | ⟨h, hr⟩
  · rw [h, on22_0_0]; exact ⟨_, rfl, fun h => by simp at h⟩
  · rw [h, on22_0_1]
    obtain ⟨y, hy⟩ := targets_is (N := N) code size data (by omega) (by omega)
    rw [hy, on54_is]
    exact ⟨_, rfl, fun _ => ⟨by omega, hl, hr⟩⟩
theorem onE_is (o : List Int) (n : Int) (h : n ≤ 15) : ∃ y : Bool, e41 N o n = some (0, [⟨.bool, y⟩]) := by
  unfold e41
  split
  · rename_i h1
    simp only [decide_eq_true_eq] at h1
    rw [idx_t (by omega) (by omega)]
    exact ⟨_, rfl⟩
  · exact ⟨_, rfl⟩
theorem getD_mem {l : List Int} {i : Int} (h0 : 0 ≤ i) (h1 : i < l.length) : List.getD l i.toNat 0 ∈ l := by
  rw [List.getD_eq_getElem?_getD, List.getElem?_eq_getElem (by omega)]
  exact List.getElem_mem _
theorem anyE_loop (o l : List Int) (hl : l.length ≤ 100) (hb : ∀ x ∈ l, x ≤ 15) : ∀ (n : Nat) (i : Int), 0 ≤ i → i ≤ (l.length : Int) → (l.length : Int) - i < n →
    l44_0 N n l i o = some (0, [⟨.bool, true⟩]) ∨ l44_0 N n l i o = some (1, []) := by
  intro n
  induction n with
  | zero => intro i h0 h1 h2; omega
  | succ n ih =>
    intro i h0 h1 h2
    rw [l44_0]
    unfold r44_0
    by_cases hi : i < (l.length : Int)
    · rw [show decide (i < ((List.length l : Nat) : Int)) = true by simpa using hi, idx_t h0 hi]
      obtain ⟨y, hy⟩ := onE_is (N := N) o (l.getD i.toNat 0) (hb _ (getD_mem h0 hi))
      simp only []
      rw [hy, on41_is, wrap_succ h0 (by omega)]
      cases y with
      | true => exact .inl rfl
      | false => exact ih (i + 1) (by omega) (by omega) (by omega)
    · rw [show decide (i < ((List.length l : Nat) : Int)) = false by simpa using hi]
      exact .inr rfl
theorem anyE_is (o l : List Int) (hl : l.length ≤ 2) (hb : ∀ x ∈ l, x ≤ 15) (hN : 2000 < N) : ∃ y : Bool, e44 N o l = some (0, [⟨.bool, y⟩]) := by
  unfold e44
  rcases anyE_loop (N := N) o l (by omega) hb N 0 (by omega) (by omega) (by omega) with h | h
  · rw [h, on44_0_0]; exact ⟨_, rfl⟩
  · rw [h, on44_0_1]; exact ⟨_, rfl⟩
end Go.Proofs.Zz
/- The reference's least owner, closed owners: what their plain functions answer. -/
set_option linter.unusedVariables false
set_option linter.unusedSimpArgs false
set_option maxRecDepth 100000
namespace Go.Proofs.Zz
open Go
variable {N : Nat}
abbrev tIns : Ty := .pair (.int .i64) (.pair (.int .i64) (.pair (.int .i64) (.pair (.int .i64) (.pair (.int .i64) .unit))))
theorem own0_loop (code : List InsD) (size : Int) (data o1 : List Int) : ∀ (n : Nat) (i : Int) (o : List Int), 0 ≤ i → i ≤ 16 → 16 - i < n →
    ∃ o', l20_0 N n i code size data o1 o = some (1, [⟨.sl tIns, code⟩, ⟨.int .i64, size⟩, ⟨.sl (.int .u8), data⟩, ⟨.ar 16 (.int .i64), o1⟩, ⟨.ar 16 (.int .i64), o'⟩]) := by
  intro n
  induction n with
  | zero => intro i o h0 h1 h2; omega
  | succ n ih =>
    intro i o h0 h1 h2
    rw [l20_0]
    unfold r20_0
    by_cases hi : i < 16
    · rw [show decide (i < (16 : Int)) = true by simpa using hi, idx_t h0 (by omega)]
      simp only []
      rw [wrap_succ h0 (by omega)]
      exact ih _ _ (by omega) (by omega) (by omega)
    · rw [show decide (i < (16 : Int)) = false by simpa using hi]
      exact ⟨_, rfl⟩
theorem own6_loop (a b : Int) (l : List Int) (hl : l.length ≤ 100) (hb : ∀ x ∈ l, 1 ≤ x ∧ x ≤ 15) (code : List InsD) (size : Int) (data o1 : List Int) : ∀ (n : Nat) (i : Int) (o : List Int), 0 ≤ i → i ≤ (l.length : Int) → (l.length : Int) - i < n →
    ∃ o', l20_6 N n a b l i code size data o1 o = some (7, [⟨.int .i64, a⟩, ⟨.int .i64, b⟩, ⟨.sl tIns, code⟩, ⟨.int .i64, size⟩, ⟨.sl (.int .u8), data⟩, ⟨.ar 16 (.int .i64), o1⟩, ⟨.ar 16 (.int .i64), o'⟩]) := by
  intro n
  induction n with
  | zero => intro i o h0 h1 h2; omega
  | succ n ih =>
    intro i o h0 h1 h2
    rw [l20_6]
    unfold r20_6
    by_cases hi : i < (l.length : Int)
    · have hm := hb _ (getD_mem h0 hi)
      rw [show decide (i < ((List.length l : Nat) : Int)) = true by simpa using hi, idx_t h0 hi, idx_t (i := List.getD l i.toNat 0) (n := 16) (by omega) (by omega)]
      simp only []
      rw [wrap_succ h0 (by omega)]
      exact ih _ _ (by omega) (by omega) (by omega)
    · rw [show decide (i < ((List.length l : Nat) : Int)) = false by simpa using hi]
      exact ⟨_, rfl⟩
theorem own4_loop (a : Int) (code : List InsD) (hc : Right code) (size : Int) (data o1 : List Int) (hN : 2000 < N) : ∀ (n : Nat) (i : Int) (o : List Int), 0 ≤ i → i ≤ (code.length : Int) → (code.length : Int) - i < n →
    ∃ o', l20_4 N n a i code size data o1 o = some (5, [⟨.int .i64, a⟩, ⟨.sl tIns, code⟩, ⟨.int .i64, size⟩, ⟨.sl (.int .u8), data⟩, ⟨.ar 16 (.int .i64), o1⟩, ⟨.ar 16 (.int .i64), o'⟩]) := by
  obtain ⟨hc1, hc2, hc3⟩ := hc
  intro n
  induction n with
  | zero => intro i o h0 h1 h2; omega
  | succ n ih =>
    intro i o h0 h1 h2
    rw [l20_4]
    unfold r20_4
    by_cases hi : i < (code.length : Int)
    · obtain ⟨⟨d0, d1⟩, ⟨a0, a1⟩, _⟩ := hc3 i.toNat (by omega)
      have hrec : ∀ o, ∃ o', l20_4 N n a (IntKind.i64.wrap (i + 1)) code size data o1 o = some (5, [⟨.int .i64, a⟩, ⟨.sl tIns, code⟩, ⟨.int .i64, size⟩, ⟨.sl (.int .u8), data⟩, ⟨.ar 16 (.int .i64), o1⟩, ⟨.ar 16 (.int .i64), o'⟩]) := by
        intro o
        rw [wrap_succ h0 (by omega)]
        exact ih _ _ (by omega) (by omega) (by omega)
      obtain ⟨f, hf⟩ := form_is (N := N) (code.getD i.toNat I0).1
      obtain ⟨l, hl, hl1, hl2⟩ := reads_is (N := N) (code.getD i.toNat I0).1 (code.getD i.toNat I0).2.1 (code.getD i.toNat I0).2.2.1 (code.getD i.toNat I0).2.2.2.1 (code.getD i.toNat I0).2.2.2.2.1
      have h6 := fun o => own6_loop (N := N) a i l (by omega) hl1 code size data o1 N 0 o (by omega) (by omega) (by omega)
      rw [show decide (i < ((List.length code : Nat) : Int)) = true by simpa using hi, idx_t h0 hi]
      simp only []
      rw [hf, on25_is, hl]
      simp only [on45_is, idx_t (i := (code.getD i.toNat I0).2.2.1) (n := 16) a0 (by omega), idx_t (i := (code.getD i.toNat I0).2.1) (n := 16) d0 (by omega)]
      repeat' split
      all_goals first
        | exact hrec _
        | (obtain ⟨o2, h⟩ := h6 (List.set o (Int.toNat (List.getD code i.toNat I0).2.2.1) 1); rw [h, on20_6_7]; exact hrec _)
        | (obtain ⟨o2, h⟩ := h6 o; rw [h, on20_6_7]; exact hrec _)
    · rw [show decide (i < ((List.length code : Nat) : Int)) = false by simpa using hi]
      exact ⟨_, rfl⟩
theorem own2_loop (code : List InsD) (hc : Right code) (size : Int) (data o1 : List Int) (hN : 2000 < N) : ∀ (n : Nat) (i : Int) (o : List Int), 0 ≤ i → i ≤ 17 → 17 - i < n →
    ∃ o', l20_2 N n i code size data o1 o = some (3, [⟨.ar 16 (.int .i64), o1⟩, ⟨.ar 16 (.int .i64), o'⟩]) := by
  intro n
  induction n with
  | zero => intro i o h0 h1 h2; omega
  | succ n ih =>
    intro i o h0 h1 h2
    rw [l20_2]
    unfold r20_2
    by_cases hi : i < 17
    · rw [show decide (i < (17 : Int)) = true by simpa using hi]
      obtain ⟨o2, h⟩ := own4_loop (N := N) i code hc size data o1 hN N 0 o (by omega) (by omega) (by have := hc.2.1; omega)
      simp only []
      rw [h, on20_4_5, wrap_succ h0 (by omega)]
      exact ih _ _ (by omega) (by omega) (by omega)
    · rw [show decide (i < (17 : Int)) = false by simpa using hi]
      exact ⟨_, rfl⟩
theorem owner_is (code : List InsD) (size : Int) (data : List Int) (hN : 2000 < N) : ∃ o : List Int, e20 N code size data = some (0, [⟨.ar 16 (.int .i64), o⟩]) := by
  unfold e20
  obtain ⟨y, hy, hr⟩ := right_is (N := N) code size data hN
  rw [hy, on22_is]
  cases y with
  | false => exact ⟨_, rfl⟩
  | true =>
    obtain ⟨o, h⟩ := own0_loop (N := N) code size data (List.replicate 16 0) N 1 (List.replicate 16 0) (by omega) (by omega) (by omega)
    simp only [Bool.not_true]
    rw [h, on20_0_1]
    obtain ⟨o2, h2⟩ := own2_loop (N := N) code (hr rfl) size data (List.replicate 16 0) hN N 0 o (by omega) (by omega) (by omega)
    rw [h2, on20_2_3]
    exact ⟨_, rfl⟩
theorem closed0_loop (code : List InsD) (size : Int) (data o : List Int) : ∀ (n : Nat) (i : Int), 0 ≤ i → i ≤ 16 → 16 - i < n →
    l52_0 N n i code size data o = some (0, [⟨.bool, false⟩]) ∨ l52_0 N n i code size data o = some (1, [⟨.sl tIns, code⟩, ⟨.int .i64, size⟩, ⟨.sl (.int .u8), data⟩, ⟨.ar 16 (.int .i64), o⟩]) := by
  intro n
  induction n with
  | zero => intro i h0 h1 h2; omega
  | succ n ih =>
    intro i h0 h1 h2
    rw [l52_0]
    unfold r52_0
    by_cases hi : i < 16
    · rw [show decide (i < (16 : Int)) = true by simpa using hi, idx_t h0 (by omega)]
      simp only []
      rw [wrap_succ h0 (by omega)]
      have := ih (i + 1) (by omega) (by omega) (by omega)
      repeat' split
      all_goals first | exact .inl rfl | exact this
    · rw [show decide (i < (16 : Int)) = false by simpa using hi]
      exact .inr rfl
theorem closed2_loop (code : List InsD) (hc : Right code) (size : Int) (data o : List Int) (hN : 2000 < N) : ∀ (n : Nat) (i : Int), 0 ≤ i → i ≤ (code.length : Int) → (code.length : Int) - i < n →
    l52_2 N n i code size data o = some (0, [⟨.bool, false⟩]) ∨ l52_2 N n i code size data o = some (3, []) := by
  obtain ⟨hc1, hc2, hc3⟩ := hc
  intro n
  induction n with
  | zero => intro i h0 h1 h2; omega
  | succ n ih =>
    intro i h0 h1 h2
    rw [l52_2]
    unfold r52_2
    by_cases hi : i < (code.length : Int)
    · obtain ⟨⟨d0, d1⟩, ⟨a0, a1⟩, _⟩ := hc3 i.toNat (by omega)
      have hrec := ih (i + 1) (by omega) (by omega) (by omega)
      obtain ⟨f, hf⟩ := form_is (N := N) (code.getD i.toNat I0).1
      obtain ⟨l, hl, hl1, hl2⟩ := reads_is (N := N) (code.getD i.toNat I0).1 (code.getD i.toNat I0).2.1 (code.getD i.toNat I0).2.2.1 (code.getD i.toNat I0).2.2.2.1 (code.getD i.toNat I0).2.2.2.2.1
      obtain ⟨y1, h1'⟩ := onE_is (N := N) o (code.getD i.toNat I0).2.2.1 a1
      obtain ⟨y2, h2'⟩ := anyE_is (N := N) o l hl2 (fun x hx => (hl1 x hx).2) hN
      rw [show decide (i < ((List.length code : Nat) : Int)) = true by simpa using hi, idx_t h0 hi]
      simp only []
      rw [hf, on25_is, hl, h1', wrap_succ h0 (by omega)]
      simp only [on45_is, on41_is, h2', on44_is, idx_t (i := (code.getD i.toNat I0).2.1) (n := 16) d0 (by omega)]
      repeat' split
      all_goals first | exact .inl rfl | exact hrec
    · rw [show decide (i < ((List.length code : Nat) : Int)) = false by simpa using hi]
      exact .inr rfl
theorem closed_is (code : List InsD) (size : Int) (data o : List Int) (hN : 2000 < N) : ∃ y : Bool, e52 N code size data o = some (0, [⟨.bool, y⟩]) ∧ (y = true → Right code ∧ e22 N code size data = some (0, [⟨.bool, true⟩])) := by
  unfold e52
  obtain ⟨y, hy, hr⟩ := right_is (N := N) code size data hN
  have hy0 := hy
  rw [hy, on22_is]
  cases y with
  | false => exact ⟨_, rfl, fun h => by simp at h⟩
  | true =>
    have hc := hr rfl
    simp only [Bool.not_true, idx_t (i := 0) (n := 16) (by omega) (by omega)]
    split
    · exact ⟨_, rfl, fun h => by simp at h⟩
    · rcases closed0_loop (N := N) code size data o N 1 (by omega) (by omega) (by omega) with h | h
      · rw [h, on52_0_0]; exact ⟨_, rfl, fun h => by simp at h⟩
      · rw [h, on52_0_1]
        rcases closed2_loop (N := N) code hc size data o hN N 0 (by omega) (by omega) (by have := hc.2.1; omega) with h | h
        · rw [h, on52_2_0]; exact ⟨_, rfl, fun h => by simp at h⟩
        · rw [h, on52_2_3]; exact ⟨_, rfl, fun _ => ⟨hc, trivial⟩⟩
end Go.Proofs.Zz
/- The reference's leaders and blocks: what their plain functions answer. -/
set_option linter.unusedVariables false
set_option linter.unusedSimpArgs false
set_option maxRecDepth 100000
namespace Go.Proofs.Zz
open Go
variable {N : Nat}
theorem le_reach {a : Nat} (h : a ≤ 35184372088832) : decide (a ≤ reach) = true := by
  have : reach = 35184372088832 := by kernel_rfl
  rw [this]; simpa using h
theorem ends_is (op d a b imm : Int) : ∃ y : Bool, e79 N op d a b imm = some (0, [⟨.bool, y⟩]) := by
  unfold e79
  obtain ⟨f, hf⟩ := form_is (N := N) op
  rw [hf, on25_is]
  repeat' split
  all_goals exact ⟨_, rfl⟩
theorem set_len (l : List Bool) (i : Nat) : (l.set i true).length = l.length := by simp
theorem set_zero {l : List Bool} (h : l.getD 0 false = true) (i : Nat) : (l.set i true).getD 0 false = true := by
  cases l with
  | nil => simp at h
  | cons x r => cases i <;> simp_all
theorem lead0_loop (code : List InsD) (hc : code.length ≤ 2000) (size : Int) (data : List Int) : ∀ (n : Nat) (i : Int) (s : List Bool), 0 ≤ i → i ≤ (code.length : Int) → (code.length : Int) - i < n → s.length = code.length → s.getD 0 false = true →
    ∃ s', l74_0 N n s i code size data = some (1, [⟨.sl .bool, s'⟩]) ∧ s'.length = code.length ∧ s'.getD 0 false = true := by
  intro n
  induction n with
  | zero => intro i s h0 h1 h2; omega
  | succ n ih =>
    intro i s h0 h1 h2 hs hz
    rw [l74_0]
    unfold r74_0
    by_cases hi : i < (code.length : Int)
    · obtain ⟨t, ht, ht2⟩ := target_is (N := N) code size data i h0 hi
      obtain ⟨y, hy⟩ := ends_is (N := N) (code.getD i.toNat I0).1 (code.getD i.toNat I0).2.1 (code.getD i.toNat I0).2.2.1 (code.getD i.toNat I0).2.2.2.1 (code.getD i.toNat I0).2.2.2.2.1
      have hrec : ∀ s : List Bool, s.length = code.length → s.getD 0 false = true → ∃ s', l74_0 N n s (i + 1) code size data = some (1, [⟨.sl .bool, s'⟩]) ∧ s'.length = code.length ∧ s'.getD 0 false = true :=
        fun s h3 h4 => ih (i + 1) s (by omega) (by omega) (by omega) h3 h4
      rw [show decide (i < ((List.length code : Nat) : Int)) = true by simpa using hi]
      simp only []
      rw [ht, on75_is]
      simp only [idx_t h0 hi, hy, on79_is, wrap_succ h0 (show i ≤ 100000000 by omega), set_len, hs]
      by_cases htt : t ≥ 0
      · rw [show decide (t ≥ 0) = true by simpa using htt, idx_t htt (ht2 htt)]
        cases y with
        | false => exact hrec _ (by rw [set_len, hs]) (set_zero hz _)
        | true =>
          by_cases hj : i + 1 < ((List.length code : Nat) : Int)
          · rw [show decide (i + 1 < ((List.length code : Nat) : Int)) = true by simpa using hj, idx_t (by omega) hj]
            exact hrec _ (by rw [set_len, set_len, hs]) (set_zero (set_zero hz _) _)
          · rw [show decide (i + 1 < ((List.length code : Nat) : Int)) = false by simpa using hj]
            exact hrec _ (by rw [set_len, hs]) (set_zero hz _)
      · rw [show decide (t ≥ 0) = false by simpa using htt]
        cases y with
        | false => exact hrec _ hs hz
        | true =>
          by_cases hj : i + 1 < ((List.length code : Nat) : Int)
          · rw [show decide (i + 1 < ((List.length code : Nat) : Int)) = true by simpa using hj, idx_t (by omega) hj]
            exact hrec _ (by rw [set_len, hs]) (set_zero hz _)
          · rw [show decide (i + 1 < ((List.length code : Nat) : Int)) = false by simpa using hj]
            exact hrec _ hs hz
    · rw [show decide (i < ((List.length code : Nat) : Int)) = false by simpa using hi]
      exact ⟨_, rfl, hs, hz⟩
/-- Increasing, below n. -/
structure Lead (l : List Int) (n : Int) : Prop where
  lo : ∀ k : Nat, k < l.length → 0 ≤ l.getD k 0 ∧ l.getD k 0 < n
  up : ∀ j k : Nat, j < k → k < l.length → l.getD j 0 < l.getD k 0
  len : (l.length : Int) ≤ n
theorem getD_snoc {l : List Int} {x : Int} (k : Nat) : (l ++ [x]).getD k 0 = if k < l.length then l.getD k 0 else if k = l.length then x else 0 := by
  simp only [List.getD_eq_getElem?_getD]
  by_cases h : k < l.length
  · rw [List.getElem?_append_left h, if_pos h]
  · rw [if_neg h, List.getElem?_append_right (by omega)]
    by_cases e : k = l.length
    · subst e; simp
    · rw [if_neg e, List.getElem?_eq_none (by simp; omega)]; rfl
theorem Lead.snoc {l : List Int} {i : Int} (h : Lead l i) (h0 : 0 ≤ i) : Lead (l ++ [i]) (i + 1) := by
  refine ⟨fun k hk => ?_, fun j k hj hk => ?_, by have := h.len; simp; omega⟩
  · simp only [List.length_append, List.length_singleton] at hk
    rw [getD_snoc]
    by_cases e : k < l.length
    · rw [if_pos e]; have := h.lo k e; omega
    · rw [if_neg e, if_pos (by omega)]; omega
  · simp only [List.length_append, List.length_singleton] at hk
    rw [getD_snoc, getD_snoc, if_pos (show j < l.length by omega)]
    by_cases e : k < l.length
    · rw [if_pos e]; exact h.up j k hj e
    · rw [if_neg e, if_pos (by omega)]; exact (h.lo j (by omega)).2
theorem Lead.next {l : List Int} {i : Int} (h : Lead l i) : Lead l (i + 1) := ⟨fun k hk => by have := h.lo k hk; omega, h.up, by have := h.len; omega⟩
theorem lead2_loop (s : List Bool) (hc : s.length ≤ 2000) (hz : s.getD 0 false = true) : ∀ (n : Nat) (i : Int) (l : List Int), 0 ≤ i → i ≤ (s.length : Int) → (s.length : Int) - i < n → Lead l i → (0 < i → l ≠ []) →
    ∃ l', l74_2 N n s l i = some (3, [⟨.sl (.int .i64), l'⟩]) ∧ Lead l' s.length ∧ (0 < s.length → l' ≠ []) := by
  intro n
  induction n with
  | zero => intro i l h0 h1 h2; omega
  | succ n ih =>
    intro i l h0 h1 h2 hl hne
    rw [l74_2]
    unfold r74_2
    by_cases hi : i < (s.length : Int)
    · rw [show decide (i < ((List.length s : Nat) : Int)) = true by simpa using hi, idx_t h0 hi]
      have hlen := hl.len
      simp only [wrap_succ h0 (show i ≤ 100000000 by omega), le_reach (show (List.length l + List.length [i]) * 8 ≤ 35184372088832 by simp; omega)]
      split
      · exact ih (i + 1) _ (by omega) (by omega) (by omega) (hl.snoc h0) (fun _ => by simp)
      · rename_i hf
        refine ih (i + 1) _ (by omega) (by omega) (by omega) hl.next (fun _ => ?_)
        by_cases e : i = 0
        · subst e
          have hf' : s.getD 0 false = false := hf
          rw [hz] at hf'; simp at hf'
        · exact hne (by omega)
    · rw [show decide (i < ((List.length s : Nat) : Int)) = false by simpa using hi]
      have : i = (s.length : Int) := by omega
      subst this
      exact ⟨_, rfl, hl, fun h => hne (by omega)⟩
theorem leaders_is (code : List InsD) (size : Int) (data : List Int) (hN : 2000 < N) (hc : Right code) (h22 : e22 N code size data = some (0, [⟨.bool, true⟩])) : ∃ l : List Int, e74 N code size data = some (0, [⟨.sl (.int .i64), l⟩]) ∧ Lead l code.length ∧ l ≠ [] := by
  unfold e74
  obtain ⟨hc1, hc2, _⟩ := hc
  rw [h22, on22_is]
  have hr : reach = 35184372088832 := by kernel_rfl
  simp only [Bool.not_true]
  rw [show decide (0 ≤ ((List.length code : Nat) : Int) ∧ ((List.length code : Nat) : Int) ≤ ((List.length code : Nat) : Int) ∧ ((List.length code : Nat) : Int) * ((1 : Nat) : Int) ≤ ((reach : Nat) : Int) ∧ ((List.length code : Nat) : Int) ≤ ((reach : Nat) : Int)) = true by
    rw [hr]; simp; omega]
  have hlen : (List.replicate (Int.toNat ((List.length code : Nat) : Int)) false).length = code.length := by simp
  simp only [hlen, idx_t (i := 0) (n := code.length) (by omega) (by omega)]
  obtain ⟨s, h1, h2, h3⟩ := lead0_loop (N := N) code hc2 size data N 0 ((List.replicate (Int.toNat ((List.length code : Nat) : Int)) false).set (Int.toNat 0) true) (by omega) (by omega) (by omega) (by simp) (by
    obtain ⟨m, hm⟩ : ∃ m, code.length = m + 1 := ⟨code.length - 1, by omega⟩
    simp [hm, List.replicate_succ])
  rw [h1, on74_0_1]
  obtain ⟨l, h4, h5, h6⟩ := lead2_loop (N := N) s (by omega) h3 N 0 [] (by omega) (by omega) (by omega) ⟨by simp, by simp, by simp⟩ (fun h => by omega)
  rw [h4, on74_2_3]
  exact ⟨l, rfl, by rw [h2] at h5; exact h5, h6 (by omega)⟩
theorem find_loop (l : List Int) (x : Int) (hl : l.length ≤ 100000) : ∀ (n : Nat) (i : Int), 0 ≤ i → i ≤ (l.length : Int) → (l.length : Int) - i < n →
    (∃ r : Int, l61_0 N n l x i = some (0, [⟨.int .i64, r⟩]) ∧ 0 ≤ r ∧ r < l.length ∧ l.getD r.toNat 0 = x) ∨ l61_0 N n l x i = some (1, []) := by
  intro n
  induction n with
  | zero => intro i h0 h1 h2; omega
  | succ n ih =>
    intro i h0 h1 h2
    rw [l61_0]
    unfold r61_0
    by_cases hi : i < (l.length : Int)
    · rw [show decide (i < ((List.length l : Nat) : Int)) = true by simpa using hi, idx_t h0 hi]
      simp only [wrap_succ h0 (show i ≤ 100000000 by omega)]
      split
      · rename_i he
        exact .inl ⟨i, rfl, h0, hi, by simpa using he⟩
      · exact ih (i + 1) (by omega) (by omega) (by omega)
    · rw [show decide (i < ((List.length l : Nat) : Int)) = false by simpa using hi]
      exact .inr rfl
theorem find_is (l : List Int) (x : Int) (hl : l.length ≤ 2000) (hN : 2000 < N) : ∃ r : Int, e61 N l x = some (0, [⟨.int .i64, r⟩]) ∧ (r = -1 ∨ (0 ≤ r ∧ r < l.length ∧ l.getD r.toNat 0 = x)) := by
  unfold e61
  rcases find_loop (N := N) l x (by omega) N 0 (by omega) (by omega) (by omega) with ⟨r, h, h1, h2, h3⟩ | h
  · rw [h, on61_0_0]; exact ⟨r, rfl, .inr ⟨h1, h2, h3⟩⟩
  · rw [h, on61_0_1]; exact ⟨-1, rfl, .inl rfl⟩
end Go.Proofs.Zz
/- The reference's blocks: what their plain function answers. -/
set_option linter.unusedVariables false
set_option linter.unusedSimpArgs false
set_option maxRecDepth 100000
namespace Go.Proofs.Zz
open Go
variable {N : Nat}
abbrev D0 := Int × (Int × (Int × (Int × (Unit × (Unit × Unit)))))
abbrev tB0 : Ty := B4 .nl
/-- A block, the k-th of L, of n instructions. -/
def BlkOk (L : Nat) (n : Int) (k : Nat) (f t nx : Int) : Prop := 0 ≤ f ∧ f < t ∧ t ≤ n ∧ (nx = -1 ∨ ((k : Int) < nx ∧ nx < L))
abbrev Z0 : D0 := ((0 : Int), ((0 : Int), ((0 : Int), ((0 : Int), ((), ((), ()))))))
theorem getD_snocD {α : Type} {l : List α} {x d : α} (k : Nat) : (l ++ [x]).getD k d = if k < l.length then l.getD k d else if k = l.length then x else d := by
  simp only [List.getD_eq_getElem?_getD]
  by_cases h : k < l.length
  · rw [List.getElem?_append_left h, if_pos h]
  · rw [if_neg h, List.getElem?_append_right (by omega)]
    by_cases e : k = l.length
    · subst e; simp
    · rw [if_neg e, List.getElem?_eq_none (by simp; omega)]; rfl
theorem cut_loop (code : List InsD) (hc1 : 1 ≤ code.length) (hc : code.length ≤ 2000) (size : Int) (data l : List Int) (hl : Lead l code.length) (hN : 2000 < N) : ∀ (n : Nat) (i : Int) (bs : List D0), 0 ≤ i → i ≤ (l.length : Int) → (l.length : Int) - i < n →
    (bs.length : Int) = i → (∀ k : Nat, k < bs.length → BlkOk l.length code.length k (bs.getD k Z0).1 (bs.getD k Z0).2.1 (bs.getD k Z0).2.2.1) →
    ∃ bs' : List D0, l53_0 N n l bs i code size data = some (1, [⟨.sl tB0, bs'⟩]) ∧ bs'.length = l.length ∧ ∀ k : Nat, k < bs'.length → BlkOk l.length code.length k (bs'.getD k Z0).1 (bs'.getD k Z0).2.1 (bs'.getD k Z0).2.2.1 := by
  intro n
  have hL := hl.len
  induction n with
  | zero => intro i bs h0 h1 h2; omega
  | succ n ih =>
    intro i bs h0 h1 h2 hb hok
    rw [l53_0]
    unfold r53_0
    by_cases hi : i < (l.length : Int)
    · have hw := wrap_succ h0 (show i ≤ 100000000 by omega)
      have hfr := hl.lo i.toNat (by omega)
      have hrec : ∀ (to nx tk : Int), BlkOk l.length code.length i.toNat (l.getD i.toNat 0) to nx → ∃ bs' : List D0, l53_0 N n l (bs ++ [(l.getD i.toNat 0, (to, (nx, (tk, ((), ((), ()))))))]) (i + 1) code size data = some (1, [⟨.sl tB0, bs'⟩]) ∧ bs'.length = l.length ∧ ∀ k : Nat, k < bs'.length → BlkOk l.length code.length k (bs'.getD k Z0).1 (bs'.getD k Z0).2.1 (bs'.getD k Z0).2.2.1 := by
        intro to nx tk h
        refine ih (i + 1) _ (by omega) (by omega) (by omega) (by simp; omega) fun k hk => ?_
        simp only [List.length_append, List.length_singleton] at hk
        rw [getD_snocD]
        by_cases e : k < bs.length
        · rw [if_pos e]; exact hok k e
        · rw [if_neg e, if_pos (by omega)]
          have : k = i.toNat := by omega
          rw [this]; exact h
      have hre : ∀ x : D0, decide ((List.length bs + List.length [x]) * 80 ≤ reach) = true := fun x => le_reach (by simp; omega)
      rw [show decide (i < ((List.length l : Nat) : Int)) = true by simpa using hi, idx_t h0 hi]
      simp only [hw]
      by_cases hj : i + 1 < ((List.length l : Nat) : Int)
      · have hto := hl.lo (i + 1).toNat (by omega)
        have hup := hl.up i.toNat (i + 1).toNat (by omega) (by omega)
        have hw2 : IntKind.i64.wrap (l.getD (i + 1).toNat 0 - 1) = l.getD (i + 1).toNat 0 - 1 := IntWalk.i64_in _ (by omega)
        obtain ⟨r, hr, hr2⟩ := find_is (N := N) l (l.getD (i + 1).toNat 0) (by omega) hN
        obtain ⟨t, ht, _⟩ := target_is (N := N) code size data (l.getD (i + 1).toNat 0 - 1) (by omega) (by omega)
        obtain ⟨r3, hr3, _⟩ := find_is (N := N) l t (by omega) hN
        have hbk : BlkOk l.length code.length i.toNat (l.getD i.toNat 0) (l.getD (i + 1).toNat 0) r := by
          refine ⟨hfr.1, hup, by omega, ?_⟩
          rcases hr2 with h | ⟨g1, g2, g3⟩
          · exact .inl h
          · refine .inr ⟨?_, g2⟩
            by_cases h : (i.toNat : Int) < r
            · exact h
            · exfalso
              by_cases e : r = i
              · subst e; omega
              · have := hl.up r.toNat i.toNat (by omega) (by omega)
                omega
        have hbn : BlkOk l.length code.length i.toNat (l.getD i.toNat 0) (l.getD (i + 1).toNat 0) (-1) := ⟨hfr.1, hup, by omega, .inl rfl⟩
        rw [show decide (i + 1 < ((List.length l : Nat) : Int)) = true by simpa using hj, idx_t (by omega) hj]
        simp only [hw2, idx_t (i := l.getD (i + 1).toNat 0 - 1) (n := code.length) (by omega) (by omega), hr, on61_is, ht, on75_is, hr3, hre]
        repeat' split
        all_goals first | exact hrec _ _ _ hbk | exact hrec _ _ _ hbn
      · have hw2 : IntKind.i64.wrap (((List.length code : Nat) : Int) - 1) = ((List.length code : Nat) : Int) - 1 := IntWalk.i64_in _ (by omega)
        obtain ⟨r, hr, hr2⟩ := find_is (N := N) l ((List.length code : Nat) : Int) (by omega) hN
        obtain ⟨t, ht, _⟩ := target_is (N := N) code size data (((List.length code : Nat) : Int) - 1) (by omega) (by omega)
        obtain ⟨r3, hr3, _⟩ := find_is (N := N) l t (by omega) hN
        have hbk : BlkOk l.length code.length i.toNat (l.getD i.toNat 0) ((List.length code : Nat) : Int) r := by
          refine ⟨hfr.1, hfr.2, by omega, ?_⟩
          rcases hr2 with h | ⟨g1, g2, g3⟩
          · exact .inl h
          · have := hl.lo r.toNat (by omega); omega
        have hbn : BlkOk l.length code.length i.toNat (l.getD i.toNat 0) ((List.length code : Nat) : Int) (-1) := ⟨hfr.1, hfr.2, by omega, .inl rfl⟩
        rw [show decide (i + 1 < ((List.length l : Nat) : Int)) = false by simpa using hj]
        simp only [hw2, idx_t (i := ((List.length code : Nat) : Int) - 1) (n := code.length) (by omega) (by omega), hr, on61_is, ht, on75_is, hr3, hre]
        repeat' split
        all_goals first | exact hrec _ _ _ hbk | exact hrec _ _ _ hbn
    · rw [show decide (i < ((List.length l : Nat) : Int)) = false by simpa using hi]
      exact ⟨bs, rfl, by omega, hok⟩
theorem cut_is (code : List InsD) (size : Int) (data : List Int) (hN : 2000 < N) (hc : Right code) (h22 : e22 N code size data = some (0, [⟨.bool, true⟩])) :
    ∃ bs : List D0, e53 N code size data = some (0, [⟨.sl tB0, bs⟩]) ∧ bs.length ≤ 2000 ∧ bs ≠ [] ∧ ∀ k : Nat, k < bs.length → BlkOk bs.length code.length k (bs.getD k Z0).1 (bs.getD k Z0).2.1 (bs.getD k Z0).2.2.1 := by
  unfold e53
  obtain ⟨l, h1, h2, h3⟩ := leaders_is (N := N) code size data hN hc h22
  rw [h1, on74_is]
  have := h2.len
  have := hc.2.1
  obtain ⟨bs, h4, h5, h6⟩ := cut_loop (N := N) code hc.1 hc.2.1 size data l h2 hN N 0 [] (by omega) (by omega) (by omega) rfl (by simp)
  rw [h4, on53_0_1]
  refine ⟨bs, rfl, by omega, fun e => ?_, by rw [h5] at h6 ⊢; exact h6⟩
  rw [e] at h5
  exact h3 (List.length_eq_zero_iff.1 h5.symm)
end Go.Proofs.Zz
/- The reference's cells: what their plain functions answer. -/
set_option linter.unusedVariables false
set_option linter.unusedSimpArgs false
set_option maxRecDepth 100000
namespace Go.Proofs.Zz
open Go
variable {N : Nat}
abbrev CellD := Int × (InsD × (Int × (Int × (Int × Unit))))
abbrev tCell : Ty := .pair (.int .i64) (.pair tIns (.pair (.int .i64) (.pair (.int .i64) (.pair (.int .i64) .unit))))
/-- Cells of one place: at most m. -/
structure CellsOk (pc off : Int) (l : List CellD) (m : Nat) : Prop where
  len : l.length ≤ m
  all : ∀ c ∈ l, c.2.2.2.1 = pc ∧ c.2.2.2.2.1 = off
theorem CellsOk.nil (pc off : Int) : CellsOk pc off [] 0 := ⟨Nat.le_refl _, by simp⟩
theorem CellsOk.mono {pc off : Int} {l : List CellD} {m m' : Nat} (h : CellsOk pc off l m) (hm : m ≤ m') : CellsOk pc off l m' := ⟨Nat.le_trans h.len hm, h.all⟩
theorem CellsOk.snoc {pc off : Int} {l : List CellD} {m : Nat} (h : CellsOk pc off l m) (k : Int) (i : InsD) (r : Int) : CellsOk pc off (l ++ [(k, (i, (r, (pc, (off, ())))))]) (m + 1) := by
  refine ⟨by have := h.len; simp; omega, fun c hc => ?_⟩
  rcases List.mem_append.1 hc with hc | hc
  · exact h.all c hc
  · simp only [List.mem_singleton] at hc; subst hc; exact ⟨rfl, rfl⟩
theorem owned_is (o : List Int) (n : Int) : ∃ y : Int, e42 N o n = some (0, [⟨.int .i64, y⟩]) := by
  unfold e42
  by_cases h1 : n < 1
  · rw [show decide (n < (1 : Int)) = true by simpa using h1]; exact ⟨_, rfl⟩
  rw [show decide (n < (1 : Int)) = false by simpa using h1]
  by_cases h2 : n > 15
  · rw [show decide (n > (15 : Int)) = true by simpa using h2]; exact ⟨_, rfl⟩
  rw [show decide (n > (15 : Int)) = false by simpa using h2]
  rw [idx_t (by omega) (by omega)]
  exact ⟨_, rfl⟩
theorem side_is (op d a b imm : Int) (o : List Int) (hN : 2000 < N) : ∃ y : Int, e37 N op d a b imm o = some (0, [⟨.int .i64, y⟩]) := by
  unfold e37
  obtain ⟨f, hf⟩ := form_is (N := N) op
  obtain ⟨l, hl, hl1, hl2⟩ := reads_is (N := N) op d a b imm
  obtain ⟨w, hw⟩ := owned_is (N := N) o d
  obtain ⟨y, hy⟩ := anyE_is (N := N) o l hl2 (fun x hx => (hl1 x hx).2) hN
  rw [hf, on25_is]
  simp only [hl, on45_is, hw, on42_is, hy, on44_is]
  repeat' split
  all_goals exact ⟨_, rfl⟩
theorem sent_loop (l o : List Int) (hl : l.length ≤ 2) (hN : 2000 < N) : ∀ (n : Nat) (i : Int) (out : List Int), 0 ≤ i → i ≤ (l.length : Int) → (l.length : Int) - i < n → (out.length : Int) ≤ i →
    ∃ out' : List Int, l40_0 N n l out i o = some (1, [⟨.sl (.int .i64), out'⟩]) ∧ out'.length ≤ l.length := by
  intro n
  induction n with
  | zero => intro i out h0 h1 h2; omega
  | succ n ih =>
    intro i out h0 h1 h2 h3
    rw [l40_0]
    unfold r40_0
    by_cases hi : i < (l.length : Int)
    · obtain ⟨w, hw⟩ := owned_is (N := N) o (l.getD i.toNat 0)
      obtain ⟨r, hr, _⟩ := find_is (N := N) out (l.getD i.toNat 0) (by omega) hN
      have ha := ih (i + 1) out (by omega) (by omega) (by omega) (by omega)
      have hb := ih (i + 1) (out ++ [l.getD i.toNat 0]) (by omega) (by omega) (by omega) (by simp; omega)
      rw [show decide (i < ((List.length l : Nat) : Int)) = true by simpa using hi]
      simp only [idx_t h0 hi, hw, on42_is, hr, on61_is, wrap_succ h0 (show i ≤ 100000000 by omega), le_reach (show (List.length out + List.length [l.getD i.toNat 0]) * 8 ≤ 35184372088832 by simp; omega)]
      repeat' split
      all_goals first | exact ha | exact hb
    · rw [show decide (i < ((List.length l : Nat) : Int)) = false by simpa using hi]
      exact ⟨out, rfl, by omega⟩
theorem sent_is (op d a b imm : Int) (o : List Int) (hN : 2000 < N) : ∃ l : List Int, e40 N op d a b imm o = some (0, [⟨.sl (.int .i64), l⟩]) ∧ l.length ≤ 2 := by
  unfold e40
  obtain ⟨l, hl, hl1, hl2⟩ := reads_is (N := N) op d a b imm
  rw [hl, on45_is]
  obtain ⟨out, h, h1⟩ := sent_loop (N := N) l o hl2 hN N 0 [] (by omega) (by omega) (by omega) (by simp)
  rw [h, on40_0_1]
  exact ⟨out, rfl, by omega⟩
section
variable {pc off : Int} {l : List CellD} {m : Nat}
theorem insC_is (k op d a b imm : Int) (h : CellsOk pc off l m) (hm : m ≤ 1000) : ∃ l' : List CellD, e38 N k op d a b imm pc off l = some (0, [⟨.int .i64, pc⟩, ⟨.int .i64, off⟩, ⟨.sl tCell, l'⟩]) ∧ CellsOk pc off l' (m + 1) := by
  unfold e38
  have := h.len
  simp only [le_reach (show (List.length l + List.length [((k, ((op, (d, (a, (b, (imm, ()))))), (0, (pc, (off, ()))))) : CellD)]) * 72 ≤ 35184372088832 by simp; omega)]
  exact ⟨_, rfl, h.snoc k (op, (d, (a, (b, (imm, ()))))) 0⟩
theorem regC_is (k r : Int) (h : CellsOk pc off l m) (hm : m ≤ 1000) : ∃ l' : List CellD, e43 N k r pc off l = some (0, [⟨.int .i64, pc⟩, ⟨.int .i64, off⟩, ⟨.sl tCell, l'⟩]) ∧ CellsOk pc off l' (m + 1) := by
  unfold e43
  have := h.len
  simp only [le_reach (show (List.length l + List.length [((k, (I0, (r, (pc, (off, ()))))) : CellD)]) * 72 ≤ 35184372088832 by simp; omega)]
  exact ⟨_, rfl, h.snoc k I0 r⟩
theorem plainC_is (k : Int) (h : CellsOk pc off l m) (hm : m ≤ 1000) : ∃ l' : List CellD, e46 N k pc off l = some (0, [⟨.int .i64, pc⟩, ⟨.int .i64, off⟩, ⟨.sl tCell, l'⟩]) ∧ CellsOk pc off l' (m + 1) := by
  unfold e46
  have := h.len
  simp only [le_reach (show (List.length l + List.length [((k, (I0, (0, (pc, (off, ()))))) : CellD)]) * 72 ≤ 35184372088832 by simp; omega)]
  exact ⟨_, rfl, h.snoc k I0 0⟩
end
theorem regs_loop (k : Int) (r : List Int) (hr : r.length ≤ 2) (pc off : Int) : ∀ (n : Nat) (i : Int) (l : List CellD) (m : Nat), 0 ≤ i → i ≤ (r.length : Int) → (r.length : Int) - i < n → CellsOk pc off l m → m ≤ 900 + i →
    ∃ l' : List CellD, l39_0 N n k r i pc off l = some (1, [⟨.int .i64, pc⟩, ⟨.int .i64, off⟩, ⟨.sl tCell, l'⟩]) ∧ CellsOk pc off l' (m + ((r.length : Int) - i).toNat) := by
  intro n
  induction n with
  | zero => intro i l m h0 h1 h2; omega
  | succ n ih =>
    intro i l m h0 h1 h2 h3 h4
    rw [l39_0]
    unfold r39_0
    by_cases hi : i < (r.length : Int)
    · obtain ⟨l1, h5, h6⟩ := regC_is (N := N) k (r.getD i.toNat 0) h3 (by omega)
      rw [show decide (i < ((List.length r : Nat) : Int)) = true by simpa using hi]
      simp only [idx_t h0 hi, h5, on43_is, wrap_succ h0 (show i ≤ 100000000 by omega)]
      obtain ⟨l', g1, g2⟩ := ih (i + 1) l1 (m + 1) (by omega) (by omega) (by omega) h6 (by omega)
      exact ⟨l', g1, g2.mono (by omega)⟩
    · rw [show decide (i < ((List.length r : Nat) : Int)) = false by simpa using hi]
      exact ⟨l, rfl, h3.mono (by omega)⟩
theorem regsC_is (k : Int) (r : List Int) (hr : r.length ≤ 2) {pc off : Int} {l : List CellD} {m : Nat} (h : CellsOk pc off l m) (hm : m ≤ 900) (hN : 2000 < N) :
    ∃ l' : List CellD, e39 N k r pc off l = some (0, [⟨.int .i64, pc⟩, ⟨.int .i64, off⟩, ⟨.sl tCell, l'⟩]) ∧ CellsOk pc off l' (m + 2) := by
  unfold e39
  obtain ⟨l', h1, h2⟩ := regs_loop (N := N) k r hr pc off N 0 l m (by omega) (by omega) (by omega) h (by omega)
  rw [h1, on39_0_1]
  exact ⟨l', rfl, h2.mono (by omega)⟩
/-- Two lists of cells of one place. -/
def GoodC (pc off : Int) (r : Option Rs) : Prop := ∃ A E : List CellD, r = some (0, [⟨.sl tCell, A⟩, ⟨.sl tCell, E⟩]) ∧ CellsOk pc off A 8 ∧ CellsOk pc off E 8
section
variable {pc off : Int} {l : List CellD} {m : Nat}
theorem g38 {k op d a b imm : Int} {K : Int → Int → List CellD → Option Rs} (h : CellsOk pc off l m) (hm : m ≤ 900) (hk : ∀ l', CellsOk pc off l' (m + 1) → GoodC pc off (K pc off l')) : GoodC pc off (on38 (e38 N k op d a b imm pc off l) K) := by
  obtain ⟨l', h1, h2⟩ := insC_is (N := N) k op d a b imm h (by omega)
  rw [h1, on38_is]; exact hk l' h2
theorem g43 {k r : Int} {K : Int → Int → List CellD → Option Rs} (h : CellsOk pc off l m) (hm : m ≤ 900) (hk : ∀ l', CellsOk pc off l' (m + 1) → GoodC pc off (K pc off l')) : GoodC pc off (on43 (e43 N k r pc off l) K) := by
  obtain ⟨l', h1, h2⟩ := regC_is (N := N) k r h (by omega)
  rw [h1, on43_is]; exact hk l' h2
theorem g46 {k : Int} {K : Int → Int → List CellD → Option Rs} (h : CellsOk pc off l m) (hm : m ≤ 900) (hk : ∀ l', CellsOk pc off l' (m + 1) → GoodC pc off (K pc off l')) : GoodC pc off (on46 (e46 N k pc off l) K) := by
  obtain ⟨l', h1, h2⟩ := plainC_is (N := N) k h (by omega)
  rw [h1, on46_is]; exact hk l' h2
theorem g39 {k : Int} {r : List Int} {K : Int → Int → List CellD → Option Rs} (hN : 2000 < N) (h : CellsOk pc off l m) (hr : r.length ≤ 2) (hm : m ≤ 900) (hk : ∀ l', CellsOk pc off l' (m + 2) → GoodC pc off (K pc off l')) : GoodC pc off (on39 (e39 N k r pc off l) K) := by
  obtain ⟨l', h1, h2⟩ := regsC_is (N := N) k r hr h hm hN
  rw [h1, on39_is]; exact hk l' h2
theorem g40 {op d a b imm : Int} {o : List Int} {K : List Int → Option Rs} (hN : 2000 < N) (hk : ∀ r : List Int, r.length ≤ 2 → GoodC pc off (K r)) : GoodC pc off (on40 (e40 N op d a b imm o) K) := by
  obtain ⟨r, h1, h2⟩ := sent_is (N := N) op d a b imm o hN
  rw [h1, on40_is]; exact hk r h2
theorem g37 {op d a b imm : Int} {o : List Int} {K : Int → Option Rs} (hN : 2000 < N) (hk : ∀ y, GoodC pc off (K y)) : GoodC pc off (on37 (e37 N op d a b imm o) K) := by
  obtain ⟨r, h1⟩ := side_is (N := N) op d a b imm o hN
  rw [h1, on37_is]; exact hk r
theorem g42 {o : List Int} {n : Int} {K : Int → Option Rs} (hk : ∀ y, GoodC pc off (K y)) : GoodC pc off (on42 (e42 N o n) K) := by
  obtain ⟨r, h1⟩ := owned_is (N := N) o n
  rw [h1, on42_is]; exact hk r
theorem g41 {o : List Int} {n : Int} {K : Bool → Option Rs} (hn : n ≤ 15) (hk : ∀ y, GoodC pc off (K y)) : GoodC pc off (on41 (e41 N o n) K) := by
  obtain ⟨r, h1⟩ := onE_is (N := N) o n hn
  rw [h1, on41_is]; exact hk r
theorem gEnd {A E : List CellD} {m n : Nat} (hA : CellsOk pc off A m) (hE : CellsOk pc off E n) (hm : m ≤ 8) (hn : n ≤ 8) : GoodC pc off (some (0, [⟨.sl tCell, A⟩, ⟨.sl tCell, E⟩])) := ⟨A, E, rfl, hA.mono hm, hE.mono hn⟩
end
theorem emit_is (op d a b imm : Int) (o : List Int) (pc off : Int) (hN : 2000 < N) : GoodC pc off (e12 N op d a b imm o pc off) := by
  unfold e12
  obtain ⟨y, hy, hp⟩ := rightIns_is (N := N) op d a b imm
  rw [hy, on36_is]
  have h0 := CellsOk.nil pc off
  cases y with
  | false => exact gEnd h0 h0 (by omega) (by omega)
  | true =>
    obtain ⟨⟨d0, d1⟩, _, _⟩ := hp rfl
    obtain ⟨f, hf⟩ := form_is (N := N) op
    obtain ⟨r, hr, hr1, hr2⟩ := reads_is (N := N) op d a b imm
    obtain ⟨z, hz⟩ := anyE_is (N := N) o r hr2 (fun x hx => (hr1 x hx).2) hN
    simp only [Bool.not_true]
    rw [hf, on25_is]
    simp only [hr, on45_is, hz, on44_is]
    repeat' first
      | assumption
      | omega
      | intro l' hl'
      | intro y'
      | with_reducible apply g38
      | with_reducible apply g43
      | with_reducible apply g46
      | with_reducible apply g40 hN
      | with_reducible apply g39 hN
      | with_reducible apply g37 hN
      | with_reducible apply g42
      | with_reducible apply g41 d1
      | with_reducible apply gEnd
      | split
end Go.Proofs.Zz
/- The reference's split: what its plain function answers. -/
set_option linter.unusedVariables false
set_option linter.unusedSimpArgs false
set_option maxRecDepth 100000
namespace Go.Proofs.Zz
open Go
variable {N : Nat}
abbrev D1 := Int × (Int × (Int × (Int × (List CellD × (List CellD × Unit)))))
abbrev tB1 : Ty := B4 (.sl tCell)
abbrev Z1 : D1 := ((0 : Int), ((0 : Int), ((0 : Int), ((0 : Int), (([] : List CellD), (([] : List CellD), ()))))))
/-- Cells of instructions from f to ahead of k. -/
structure SpanOk (f k : Int) (l : List CellD) : Prop where
  len : (l.length : Int) ≤ 8 * (k - f)
  all : ∀ c ∈ l, f ≤ c.2.2.2.1 ∧ c.2.2.2.1 < k ∧ c.2.2.2.2.1 = c.2.2.2.1 - f
theorem SpanOk.app {f k : Int} {l r : List CellD} (h : SpanOk f k l) (hk : f ≤ k) (h' : CellsOk k (k - f) r 8) : SpanOk f (k + 1) (l ++ r) := by
  refine ⟨?_, fun c hc => ?_⟩
  · have := h.len; have := h'.len; simp; omega
  · rcases List.mem_append.1 hc with hc | hc
    · have := h.all c hc; omega
    · have := h'.all c hc; omega
theorem with2_loop (ii nn i2 : Int) (code : List InsD) (hc : Right code) (size : Int) (data o : List Int) (rb : List D1) (ro so : List Int) (f t nx tk : Int) (hf : 0 ≤ f) (ht : t ≤ code.length) (hN : 2000 < N) : ∀ (n : Nat) (k : Int) (A E : List CellD), f ≤ k → k ≤ t → t - k < n → SpanOk f k A → SpanOk f k E →
    ∃ A' E' : List CellD, l19_2 N n ii k code size data o rb ro nn i2 so f t nx tk A E = some (3, [⟨.int .i64, ii⟩, ⟨.sl tIns, code⟩, ⟨.int .i64, size⟩, ⟨.sl (.int .u8), data⟩, ⟨.ar 16 (.int .i64), o⟩, ⟨.sl tB1, rb⟩, ⟨.ar 16 (.int .i64), ro⟩, ⟨.int .i64, nn⟩, ⟨.int .i64, i2⟩, ⟨.ar 16 (.int .i64), so⟩, ⟨.int .i64, f⟩, ⟨.int .i64, t⟩, ⟨.int .i64, nx⟩, ⟨.int .i64, tk⟩, ⟨.sl tCell, A'⟩, ⟨.sl tCell, E'⟩]) ∧ SpanOk f t A' ∧ SpanOk f t E' := by
  obtain ⟨hc1, hc2, hc3⟩ := hc
  intro n
  induction n with
  | zero => intro k A E h0 h1 h2; omega
  | succ n ih =>
    intro k A E h0 h1 h2 hA hE
    rw [l19_2]
    unfold r19_2
    by_cases hi : k < t
    · obtain ⟨X, Y, h3, h4, h5⟩ := emit_is (N := N) (code.getD k.toNat I0).1 (code.getD k.toNat I0).2.1 (code.getD k.toNat I0).2.2.1 (code.getD k.toNat I0).2.2.2.1 (code.getD k.toNat I0).2.2.2.2.1 o k (k - f) hN
      have hw : IntKind.i64.wrap (k - f) = k - f := IntWalk.i64_in _ (by omega)
      have hlA := hA.len
      have hlE := hE.len
      have hlX := h4.len
      have hlY := h5.len
      rw [show decide (k < t) = true by simpa using hi]
      simp only [idx_t (i := k) (n := code.length) (by omega) (by omega), hw, h3, on12_is, wrap_succ (show 0 ≤ k by omega) (show k ≤ 100000000 by omega), le_reach (show (List.length A + List.length X) * 72 ≤ 35184372088832 by omega), le_reach (show (List.length E + List.length Y) * 72 ≤ 35184372088832 by omega)]
      exact ih (k + 1) _ _ (by omega) (by omega) (by omega) (hA.app h0 h4) (hE.app h0 h5)
    · rw [show decide (k < t) = false by simpa using hi]
      have : k = t := by omega
      subst this
      exact ⟨A, E, rfl, hA, hE⟩
theorem st_is (code : List InsD) (hc : Right code) (size : Int) (data o : List Int) (rb : List D1) (ro so : List Int) (n i : Int) (h0 : 0 ≤ i) (h1 : i < n) (h2 : n ≤ 2000) (v : D0) (hv0 : 0 ≤ v.1) (hv1 : v.1 ≤ v.2.1) (hv2 : v.2.1 ≤ code.length) (hN : 2000 < N) :
    ∃ A E : List CellD, st19 N n i (ofT X19 (code, size, data, o, rb, ro, ())) (ofT S19 (so, ())) v = some (ofT X19 (code, size, data, o, rb, ro, ()), ofT S19 (so, ()), (v.1, (v.2.1, (v.2.2.1, (v.2.2.2.1, (A, (E, ()))))))) ∧ SpanOk v.1 v.2.1 A ∧ SpanOk v.1 v.2.1 E := by
  obtain ⟨A, E, h3, h4, h5⟩ := with2_loop (N := N) i n i code hc size data o rb ro so v.1 v.2.1 v.2.2.1 v.2.2.2.1 hv0 hv2 hN N v.1 [] [] (by omega) hv1 (by have := hc.2.1; omega) ⟨by simp, by simp⟩ ⟨by simp, by simp⟩
  refine ⟨A, E, ?_, h4, h5⟩
  unfold st19
  rw [onG_of]
  show onG S19 (ofT S19 (so, ())) (fun so => on19_2 (l19_2 N N i v.1 code size data o rb ro n i so v.1 v.2.1 v.2.2.1 v.2.2.2.1 [] []) fun i1 y0 y1 y2 y3 y4 y5 n1 i2 so1 f t nx tk A E =>
    if 0 ≤ i ∧ i < n ∧ i1 = i ∧ n1 = n ∧ i2 = i ∧ IntKind.i64.wrap (i + 1) = i + 1 then some (ofT X19 (y0, y1, y2, y3, y4, y5, ()), ofT S19 (so1, ()), ((f, (t, (nx, (tk, (A, (E, ())))))) : D1)) else none) = _
  rw [onG_of]
  show on19_2 (l19_2 N N i v.1 code size data o rb ro n i so v.1 v.2.1 v.2.2.1 v.2.2.2.1 [] []) (fun i1 y0 y1 y2 y3 y4 y5 n1 i2 so1 f t nx tk A E =>
    if 0 ≤ i ∧ i < n ∧ i1 = i ∧ n1 = n ∧ i2 = i ∧ IntKind.i64.wrap (i + 1) = i + 1 then some (ofT X19 (y0, y1, y2, y3, y4, y5, ()), ofT S19 (so1, ()), ((f, (t, (nx, (tk, (A, (E, ())))))) : D1)) else none) = _
  rw [h3, on19_2_3]
  rw [if_pos ⟨h0, h1, rfl, rfl, rfl, wrap_succ h0 (by omega)⟩]
/-- What a block keeps, and its cells. -/
def Kept (v : D0) (z : D1) : Prop := z.1 = v.1 ∧ z.2.1 = v.2.1 ∧ z.2.2.1 = v.2.2.1 ∧ SpanOk z.1 z.2.1 z.2.2.2.2.1 ∧ SpanOk z.1 z.2.1 z.2.2.2.2.2.1
theorem walk_is (code : List InsD) (hc : Right code) (size : Int) (data o : List Int) (rb : List D1) (ro so : List Int) (n : Int) (h2 : n ≤ 2000) (hN : 2000 < N) : ∀ (rest : List D0) (i : Int), 0 ≤ i → i + rest.length = n → (∀ v ∈ rest, 0 ≤ v.1 ∧ v.1 ≤ v.2.1 ∧ v.2.1 ≤ code.length) →
    ∃ zs : List D1, (ol19 N).walk n rest i (ofT X19 (code, size, data, o, rb, ro, ())) (ofT S19 (so, ())) = some (ofT X19 (code, size, data, o, rb, ro, ()), ofT S19 (so, ()), zs) ∧ zs.length = rest.length ∧ ∀ k : Nat, k < rest.length → Kept (rest.getD k Z0) (zs.getD k Z1)
  | [], i, _, _, _ => ⟨[], rfl, rfl, by simp⟩
  | v :: rest, i, h0, h1, hv => by
    simp only [List.length_cons] at h1
    obtain ⟨g1, g2, g3⟩ := hv v (by simp)
    obtain ⟨A, E, h3, h4, h5⟩ := st_is (N := N) code hc size data o rb ro so n i h0 (by omega) h2 v g1 g2 g3 hN
    obtain ⟨zs, h6, h7, h8⟩ := walk_is code hc size data o rb ro so n h2 hN rest (i + 1) (by omega) (by omega) (fun u hu => hv u (by simp [hu]))
    refine ⟨(v.1, (v.2.1, (v.2.2.1, (v.2.2.2.1, (A, (E, ())))))) :: zs, ?_, by simp [h7], fun k hk => ?_⟩
    · have h3' : (ol19 N).step n i (ofT X19 (code, size, data, o, rb, ro, ())) (ofT S19 (so, ())) v = some (ofT X19 (code, size, data, o, rb, ro, ()), ofT S19 (so, ()), (v.1, (v.2.1, (v.2.2.1, (v.2.2.2.1, (A, (E, ()))))))) := h3
      refine (OL.walk_cons (ol19 N) n v rest i _ _).trans ?_
      rw [h3']
      simp only []
      rw [h6]
      rfl
    · cases k with
      | zero => exact ⟨rfl, rfl, rfl, h4, h5⟩
      | succ k => exact h8 k (by simpa using hk)
/-- A split: blocks of a program of n instructions. -/
structure SplitOk (zs : List D1) : Prop where
  ne : zs ≠ []
  len : zs.length ≤ 2000
  blk : ∀ k : Nat, k < zs.length → 0 ≤ (zs.getD k Z1).1 ∧ (zs.getD k Z1).1 < (zs.getD k Z1).2.1 ∧ (zs.getD k Z1).2.1 ≤ 2000 ∧ ((zs.getD k Z1).2.2.1 = -1 ∨ ((k : Int) < (zs.getD k Z1).2.2.1 ∧ (zs.getD k Z1).2.2.1 < zs.length)) ∧
    SpanOk (zs.getD k Z1).1 (zs.getD k Z1).2.1 (zs.getD k Z1).2.2.2.2.1 ∧ SpanOk (zs.getD k Z1).1 (zs.getD k Z1).2.1 (zs.getD k Z1).2.2.2.2.2.1
theorem with_is (code : List InsD) (size : Int) (data o : List Int) (hN : 2000 < N) : ∃ (zs : List D1) (o' : List Int) (e : Int), e19 N code size data o = some (0, [⟨.sl tB1, zs⟩, ⟨.ar 16 (.int .i64), o'⟩, ⟨.int .i64, e⟩]) ∧ (e = 0 → SplitOk zs) := by
  unfold e19
  obtain ⟨y, hy, hp⟩ := closed_is (N := N) code size data o hN
  rw [hy, on52_is]
  cases y with
  | false => exact ⟨_, _, _, rfl, fun h => by simp at h⟩
  | true =>
    obtain ⟨hc, h22⟩ := hp rfl
    obtain ⟨bs, h1, h2, h3, h4⟩ := cut_is (N := N) code size data hN hc h22
    simp only [Bool.not_true]
    rw [h1, on53_is]
    have hc2 := hc.2.1
    obtain ⟨zs, h5, h6, h7⟩ := walk_is (N := N) code hc size data o [] (List.replicate 16 0) o (bs.length : Int) (by omega) hN bs 0 (by omega) (by omega) (fun v hv => by
      obtain ⟨k, hk, e⟩ := List.getElem_of_mem hv
      have := h4 k hk
      rw [List.getD_eq_getElem?_getD, List.getElem?_eq_getElem hk, Option.getD_some, e] at this
      exact ⟨this.1, by have := this.2.1; omega, this.2.2.1⟩)
    have hl : l19_0 N N 0 code size data o [] (List.replicate 16 0) bs o = some (1, [⟨.sl tIns, code⟩, ⟨.int .i64, size⟩, ⟨.sl (.int .u8), data⟩, ⟨.ar 16 (.int .i64), o⟩, ⟨.sl tB1, []⟩, ⟨.ar 16 (.int .i64), List.replicate 16 0⟩, ⟨.sl tB1, zs⟩, ⟨.ar 16 (.int .i64), o⟩]) := by
      unfold l19_0
      rw [if_pos rfl, h5]
      rfl
    rw [hl, on19_0_1]
    refine ⟨zs, o, 0, rfl, fun _ => ⟨fun e => ?_, by omega, fun k hk => ?_⟩⟩
    · rw [e] at h6; exact h3 (List.length_eq_zero_iff.1 h6.symm)
    · obtain ⟨k1, k2, k3, k4, k5⟩ := h7 k (by omega)
      obtain ⟨g1, g2, g3, g4⟩ := h4 k (by omega)
      rw [k1, k2, k3]
      rw [k1, k2] at k4 k5
      exact ⟨g1, g2, by omega, by rw [h6]; exact g4, k4, k5⟩
theorem split_is (code : List InsD) (size : Int) (data : List Int) (hN : 2000 < N) : ∃ (zs : List D1) (o' : List Int) (e : Int), e7 N code size data = some (0, [⟨.sl tB1, zs⟩, ⟨.ar 16 (.int .i64), o'⟩, ⟨.int .i64, e⟩]) ∧ (e = 0 → SplitOk zs) := by
  unfold e7
  obtain ⟨o, ho⟩ := owner_is (N := N) code size data hN
  rw [ho, on20_is]
  obtain ⟨zs, o', e, h1, h2⟩ := with_is (N := N) code size data o hN
  rw [h1, on19_is]
  exact ⟨zs, o', e, rfl, h2⟩
end Go.Proofs.Zz
/- The streams' places: what their plain functions answer. -/
set_option linter.unusedVariables false
set_option linter.unusedSimpArgs false
set_option maxRecDepth 100000
namespace Go.Proofs.Zz
open Go
variable {N : Nat}
theorem fhas_is (zs : List D1) (o : List Int) (b : Int) : e47 N zs o b = some (0, [⟨.bool, decide (0 ≤ b ∧ b < (zs.length : Int))⟩]) := by
  unfold e47
  by_cases h0 : b ≥ 0
  · rw [show decide (b ≥ (0 : Int)) = true by simpa using h0]
    simp only []
    by_cases h1 : b < ((List.length zs : Nat) : Int)
    · rw [show decide (b < ((List.length zs : Nat) : Int)) = true by simpa using h1, show decide (0 ≤ b ∧ b < (zs.length : Int)) = true from decide_eq_true (by omega)]
    · rw [show decide (b < ((List.length zs : Nat) : Int)) = false by simpa using h1, show decide (0 ≤ b ∧ b < (zs.length : Int)) = false from decide_eq_false (by omega)]
  · rw [show decide (b ≥ (0 : Int)) = false by simpa using h0, show decide (0 ≤ b ∧ b < (zs.length : Int)) = false from decide_eq_false (by omega)]
def sideOf (onE : Bool) (z : D1) : List CellD := match onE with
  | true => z.2.2.2.2.2.1
  | false => z.2.2.2.2.1
theorem fcells_is (zs : List D1) (o : List Int) (onE : Bool) (b : Int) (h0 : 0 ≤ b) (h1 : b < (zs.length : Int)) : e35 N zs o onE b = some (0, [⟨.sl tCell, sideOf onE (zs.getD b.toNat Z1)⟩]) := by
  unfold e35
  rw [fhas_is, on47_is, show decide (0 ≤ b ∧ b < (zs.length : Int)) = true from decide_eq_true (by omega)]
  simp only [Bool.not_true, idx_t h0 h1]
  cases onE <;> rfl
theorem fend_is (zs : List D1) (o : List Int) (hz : SplitOk zs) (b i base : Int) (h0 : 0 ≤ b) (h1 : b < (zs.length : Int)) (hb0 : 0 ≤ base) (hb1 : base ≤ 2147483647) :
    e34 N zs o b i base = some (0, [⟨.int .i64, base + (zs.getD b.toNat Z1).2.1 - (zs.getD b.toNat Z1).1⟩]) := by
  unfold e34
  obtain ⟨g1, g2, g3, _⟩ := hz.blk b.toNat (by omega)
  rw [fhas_is, on47_is, show decide (0 ≤ b ∧ b < (zs.length : Int)) = true from decide_eq_true (by omega)]
  simp only [Bool.not_true, idx_t h0 h1]
  rw [IntWalk.i64_in (base + (zs.getD b.toNat Z1).2.1) (by omega), IntWalk.i64_in (base + (zs.getD b.toNat Z1).2.1 - (zs.getD b.toNat Z1).1) (by omega)]
theorem fCells_is (zs : List D1) (o : List Int) (hz : SplitOk zs) (onE : Bool) (b : Int) (h0 : 0 ≤ b) (h1 : b < (zs.length : Int)) : e16 N zs o onE b = some (0, [⟨.sl tCell, sideOf onE (zs.getD b.toNat Z1)⟩]) := by
  unfold e16
  obtain ⟨g1, g2, g3, _, g4, g5⟩ := hz.blk b.toNat (by omega)
  have hl : (sideOf onE (zs.getD b.toNat Z1)).length ≤ 16000 := by
    have := g4.len; have := g5.len
    cases onE <;> simp only [sideOf] <;> omega
  rw [fcells_is zs o onE b h0 h1, on35_is]
  rw [le_reach (show (List.length ([] : List CellD) + List.length (sideOf onE (zs.getD b.toNat Z1))) * 72 ≤ 35184372088832 by rw [List.length_nil]; omega)]
  rfl
/-- A stream that is at a cell stays. -/
theorem settle_here (zs : List D1) (o : List Int) (onE : Bool) (b i base : Int) (h0 : 0 ≤ b) (h1 : b < (zs.length : Int)) (h2 : i < ((sideOf onE (zs.getD b.toNat Z1)).length : Int)) (hN : 0 < N) : e13 N zs o onE b i base = some (0, [⟨.int .i64, b⟩, ⟨.int .i64, i⟩, ⟨.int .i64, base⟩, ⟨.bool, false⟩]) := by
  unfold e13
  obtain ⟨m, rfl⟩ : ∃ m, N = m + 1 := ⟨N - 1, by omega⟩
  have : l13_0 (m + 1) (m + 1) onE (((List.length zs : Nat) : Int)) 0 zs o b i base 0 0 0 = some (0, [⟨.bool, false⟩, ⟨.int .i64, b⟩, ⟨.int .i64, i⟩, ⟨.int .i64, base⟩]) := by
    rw [l13_0]
    unfold r13_0
    rw [show decide ((0 : Int) < ((List.length zs : Nat) : Int)) = true from decide_eq_true (by omega)]
    simp only []
    rw [fhas_is, on47_is, show decide (0 ≤ b ∧ b < (zs.length : Int)) = true from decide_eq_true (by omega)]
    simp only [Bool.not_true, idx_t h0 h1]
    rw [fcells_is zs o onE b h0 h1, on35_is, show decide (i < ((List.length (sideOf onE (zs.getD b.toNat Z1)) : Nat) : Int)) = true by simpa using h2]
  rw [this, on13_0_0]
/-- Behind a block's cells: where a stream settles, and what the law's own walk comes to. -/
theorem settle_chain (zs : List D1) (o : List Int) (hz : SplitOk zs) (onE : Bool) (hN : 2000 < N) : ∀ (d : Nat) (b : Int), 0 ≤ b → b < (zs.length : Int) → (zs.length : Int) - b ≤ d → ∀ (i base c x y z : Int), ((sideOf onE (zs.getD b.toNat Z1)).length : Int) ≤ i → 0 ≤ c → c ≤ b → 0 ≤ base → base + 2000 * ((zs.length : Int) - b) ≤ 2147483647 →
    ∃ (fell : Bool) (b' i' base' : Int), (∀ n : Nat, d < n → l13_0 N n onE ((zs.length : Nat) : Int) c zs o b i base x y z = some (0, [⟨.bool, fell⟩, ⟨.int .i64, b'⟩, ⟨.int .i64, i'⟩, ⟨.int .i64, base'⟩])) ∧
      ∃ (bz f t nx tk : Int) (A E : List CellD), (∀ (n : Nat) (fl : Bool) (xb xi xs : Int), d < n → l4_2 N n base onE fl zs o (zs.getD b.toNat Z1).1 (zs.getD b.toNat Z1).2.1 (zs.getD b.toNat Z1).2.2.1 (zs.getD b.toNat Z1).2.2.2.1 (zs.getD b.toNat Z1).2.2.2.2.1 (zs.getD b.toNat Z1).2.2.2.2.2.1 xb xi xs =
        some (3, [⟨.int .i64, bz⟩, ⟨.bool, fl⟩, ⟨.int .i64, f⟩, ⟨.int .i64, t⟩, ⟨.int .i64, nx⟩, ⟨.int .i64, tk⟩, ⟨.sl tCell, A⟩, ⟨.sl tCell, E⟩, ⟨.int .i64, xb⟩, ⟨.int .i64, xi⟩, ⟨.int .i64, xs⟩])) ∧
        ((zs.getD b.toNat Z1).2.2.1 < 0 → b' = b ∧ fell = true) ∧
        ((nx < 0 ∧ fell = true) ∨ (0 ≤ nx ∧ fell = false ∧ b' = nx ∧ i' = 0 ∧ base' = IntKind.i64.wrap (IntKind.i64.wrap (bz + t) - f))) := by
  intro d
  induction d with
  | zero => intro b h0 h1 h2; omega
  | succ d ih =>
    intro b h0 h1 h2 i base c x y z hi hc0 hc hb0 hb1
    obtain ⟨g1, g2, g3, g4, _⟩ := hz.blk b.toNat (by omega)
    have hlen := hz.len
    have hend := fend_is (N := N) zs o hz b i base h0 h1 hb0 (by omega)
    have hcl := fcells_is (N := N) zs o onE b h0 h1
    have hd0 : decide (c < ((List.length zs : Nat) : Int)) = true := decide_eq_true (by omega)
    have hd1 : decide (i < ((List.length (sideOf onE (zs.getD b.toNat Z1)) : Nat) : Int)) = false := decide_eq_false (by omega)
    have hh : decide (0 ≤ b ∧ b < (zs.length : Int)) = true := decide_eq_true (by omega)
    -- the head of a round of Settle
    have step : ∀ m : Nat, l13_0 N (m + 1) onE ((zs.length : Nat) : Int) c zs o b i base x y z = (match decide ((zs.getD b.toNat Z1).2.2.1 < (0 : Int)) with
        | true => some (0, [⟨.bool, true⟩, ⟨.int .i64, b⟩, ⟨.int .i64, i⟩, ⟨.int .i64, base⟩])
        | false => l13_0 N m onE ((zs.length : Nat) : Int) (c + 1) zs o (zs.getD b.toNat Z1).2.2.1 0 (base + (zs.getD b.toNat Z1).2.1 - (zs.getD b.toNat Z1).1) x y z) := by
      intro m
      rw [l13_0]
      unfold r13_0
      rw [hd0]
      simp only []
      rw [fhas_is, on47_is, hh]
      simp only [Bool.not_true, idx_t h0 h1]
      rw [hcl, on35_is, hd1]
      simp only []
      rw [hend]
      split
      · rename_i hx; rw [hx]
      · rename_i hx
        rw [hx, on34_is, wrap_succ hc0 (by omega)]
    by_cases hnx : (zs.getD b.toNat Z1).2.2.1 < 0
    · refine ⟨true, b, i, base, fun n hn => ?_, base, (zs.getD b.toNat Z1).1, (zs.getD b.toNat Z1).2.1, (zs.getD b.toNat Z1).2.2.1, (zs.getD b.toNat Z1).2.2.2.1, (zs.getD b.toNat Z1).2.2.2.2.1, (zs.getD b.toNat Z1).2.2.2.2.2.1, fun n fl xb xi xs hn => ?_, fun _ => ⟨rfl, rfl⟩, .inl ⟨hnx, rfl⟩⟩
      · obtain ⟨m, rfl⟩ : ∃ m, n = m + 1 := ⟨n - 1, by omega⟩
        rw [step m, show decide ((zs.getD b.toNat Z1).2.2.1 < (0 : Int)) = true by simpa using hnx]
      · obtain ⟨m, rfl⟩ : ∃ m, n = m + 1 := ⟨n - 1, by omega⟩
        rw [l4_2]
        unfold r4_2
        rw [show decide ((zs.getD b.toNat Z1).2.2.1 ≥ (0 : Int)) = false from decide_eq_false (by omega)]
    · have g5 : b < (zs.getD b.toNat Z1).2.2.1 ∧ (zs.getD b.toNat Z1).2.2.1 < (zs.length : Int) := by
        rcases g4 with h | h
        · omega
        · omega
      generalize hnb : (zs.getD b.toNat Z1).2.2.1 = nb at *
      have hcn := fcells_is (N := N) zs o onE nb (by omega) g5.2
      have hCn := fCells_is (N := N) zs o hz onE nb (by omega) g5.2
      have hdn : decide (nb < (0 : Int)) = false := decide_eq_false (by omega)
      by_cases hne : (sideOf onE (zs.getD nb.toNat Z1)).length = 0
      · obtain ⟨fell, b', i', base', k1, bz, f, t, nx, tk, A, E, k2, _, k3⟩ := ih nb (by omega) g5.2 (by omega) 0 (base + (zs.getD b.toNat Z1).2.1 - (zs.getD b.toNat Z1).1) (c + 1) x y z (by omega) (by omega) (by omega) (by omega) (by omega)
        refine ⟨fell, b', i', base', fun n hn => ?_, bz, f, t, nx, tk, A, E, fun n fl xb xi xs hn => ?_, fun h => by omega, k3⟩
        · obtain ⟨m, rfl⟩ : ∃ m, n = m + 1 := ⟨n - 1, by omega⟩
          rw [step m, hdn]
          exact k1 m (by omega)
        · obtain ⟨m, rfl⟩ : ∃ m, n = m + 1 := ⟨n - 1, by omega⟩
          rw [l4_2]
          unfold r4_2
          rw [show decide (nb ≥ (0 : Int)) = true from decide_eq_true (by omega)]
          simp only []
          rw [hCn, on16_is, show (((List.length (sideOf onE (zs.getD nb.toNat Z1)) : Nat) : Int) == (0 : Int)) = true by rw [hne]; rfl]
          simp only [idx_t (show 0 ≤ nb by omega) g5.2]
          rw [IntWalk.i64_in (base + (zs.getD b.toNat Z1).2.1) (by omega), IntWalk.i64_in (base + (zs.getD b.toNat Z1).2.1 - (zs.getD b.toNat Z1).1) (by omega)]
          exact k2 m fl xb xi xs (by omega)
      · refine ⟨false, nb, 0, base + (zs.getD b.toNat Z1).2.1 - (zs.getD b.toNat Z1).1, fun n hn => ?_, base, (zs.getD b.toNat Z1).1, (zs.getD b.toNat Z1).2.1, nb, (zs.getD b.toNat Z1).2.2.2.1, (zs.getD b.toNat Z1).2.2.2.2.1, (zs.getD b.toNat Z1).2.2.2.2.2.1, fun n fl xb xi xs hn => ?_, fun h => by omega, .inr ⟨by omega, rfl, rfl, rfl, ?_⟩⟩
        · obtain ⟨m, rfl⟩ : ∃ m, n = m + 1 := ⟨n - 1, by omega⟩
          obtain ⟨m, rfl⟩ : ∃ m', m = m' + 1 := ⟨m - 1, by omega⟩
          rw [step (m + 1), hdn]
          simp only []
          rw [l13_0]
          unfold r13_0
          rw [show decide (c + 1 < ((List.length zs : Nat) : Int)) = true from decide_eq_true (by omega)]
          simp only []
          rw [fhas_is, on47_is, show decide (0 ≤ nb ∧ nb < (zs.length : Int)) = true from decide_eq_true (by omega)]
          simp only [Bool.not_true, idx_t (show 0 ≤ nb by omega) g5.2]
          rw [hcn, on35_is, show decide ((0 : Int) < ((List.length (sideOf onE (zs.getD nb.toNat Z1)) : Nat) : Int)) = true from decide_eq_true (by omega)]
        · obtain ⟨m, rfl⟩ : ∃ m, n = m + 1 := ⟨n - 1, by omega⟩
          rw [l4_2]
          unfold r4_2
          rw [show decide (nb ≥ (0 : Int)) = true from decide_eq_true (by omega)]
          simp only []
          rw [hCn, on16_is, show (((List.length (sideOf onE (zs.getD nb.toNat Z1)) : Nat) : Int) == (0 : Int)) = false from beq_eq_false_iff_ne.mpr (by omega)]
        · rw [IntWalk.i64_in (base + (zs.getD b.toNat Z1).2.1) (by omega), IntWalk.i64_in (base + (zs.getD b.toNat Z1).2.1 - (zs.getD b.toNat Z1).1) (by omega)]
end Go.Proofs.Zz
/- A stream that goes on a cell at a time: the law's plain function answers true. -/
set_option linter.unusedVariables false
set_option linter.unusedSimpArgs false
set_option maxRecDepth 100000
namespace Go.Proofs.Zz
open Go
variable {N : Nat}
abbrev ZC : CellD := ((0 : Int), (((0 : Int), ((0 : Int), ((0 : Int), ((0 : Int), ((0 : Int), ()))))), ((0 : Int), ((0 : Int), ((0 : Int), ())))))
theorem next_here (zs : List D1) (o : List Int) (onE : Bool) (b i base : Int) (l : List CellD) (hl : sideOf onE (zs.getD b.toNat Z1) = l) (h0 : 0 ≤ b) (h1 : b < (zs.length : Int)) (hi : 0 ≤ i) (h2 : i < (l.length : Int)) (hN : 0 < N) :
    e11 N zs o onE b i base = some (0, [⟨.int .i64, (l.getD i.toNat ZC).1⟩, ⟨.int .i64, (l.getD i.toNat ZC).2.1.1⟩, ⟨.int .i64, (l.getD i.toNat ZC).2.1.2.1⟩, ⟨.int .i64, (l.getD i.toNat ZC).2.1.2.2.1⟩, ⟨.int .i64, (l.getD i.toNat ZC).2.1.2.2.2.1⟩, ⟨.int .i64, (l.getD i.toNat ZC).2.1.2.2.2.2.1⟩, ⟨.int .i64, (l.getD i.toNat ZC).2.2.1⟩, ⟨.int .i64, (l.getD i.toNat ZC).2.2.2.1⟩, ⟨.int .i64, (l.getD i.toNat ZC).2.2.2.2.1⟩, ⟨.int .i64, IntKind.i64.wrap (base + (l.getD i.toNat ZC).2.2.2.2.1)⟩, ⟨.bool, true⟩]) := by
  unfold e11
  rw [settle_here zs o onE b i base h0 h1 (by rw [hl]; exact h2) hN, on13_is]
  simp only [decide_eq_false (show ¬ i < 0 by omega)]
  rw [fcells_is zs o onE b h0 h1, on35_is, hl]
  simp only [idx_t hi h2]
theorem goes_loop (zs : List D1) (o : List Int) (hz : SplitOk zs) (onE : Bool) (b base tk : Int) (A E : List CellD) (l : List CellD) (hl : sideOf onE (zs.getD b.toNat Z1) = l) (nx : Int) (h0 : 0 ≤ b) (h1 : b < (zs.length : Int)) (hb0 : 0 ≤ base) (hb1 : base ≤ 1073741824) (hN : 2000 < N) :
    ∀ (n : Nat) (j : Int), 0 ≤ j → j ≤ (l.length : Int) → (l.length : Int) - j < n →
      l4_0 N n base onE b l j zs o (zs.getD b.toNat Z1).1 (zs.getD b.toNat Z1).2.1 nx tk A E b j base =
        some (1, [⟨.int .i64, base⟩, ⟨.bool, onE⟩, ⟨.int .i64, b⟩, ⟨.sl tB1, zs⟩, ⟨.ar 16 (.int .i64), o⟩, ⟨.int .i64, (zs.getD b.toNat Z1).1⟩, ⟨.int .i64, (zs.getD b.toNat Z1).2.1⟩, ⟨.int .i64, nx⟩, ⟨.int .i64, tk⟩, ⟨.sl tCell, A⟩, ⟨.sl tCell, E⟩, ⟨.int .i64, b⟩, ⟨.int .i64, (l.length : Int)⟩, ⟨.int .i64, base⟩]) := by
  obtain ⟨g1, g2, g3, _, g4, g5⟩ := hz.blk b.toNat (by omega)
  have hs : SpanOk (zs.getD b.toNat Z1).1 (zs.getD b.toNat Z1).2.1 l := by
    rw [← hl]
    cases onE
    · exact g4
    · exact g5
  have hll := hs.len
  intro n
  induction n with
  | zero => intro j h2 h3 h4; omega
  | succ n ih =>
    intro j h2 h3 h4
    rw [l4_0]
    unfold r4_0
    by_cases hj : j < (l.length : Int)
    · rw [show decide (j < ((List.length l : Nat) : Int)) = true from decide_eq_true hj]
      simp only []
      have hc := hs.all (l.getD j.toNat ZC) (by
        rw [List.getD_eq_getElem?_getD, List.getElem?_eq_getElem (by omega), Option.getD_some]
        exact List.getElem_mem _)
      rw [next_here zs o onE b j base l hl h0 h1 h2 hj (by omega), on11_is]
      simp only [Bool.not_true, idx_t h2 hj, beq_self_eq_true, Bool.and_self]
      have e1 : IntKind.i64.wrap (base + (l.getD j.toNat ZC).2.2.2.2.1) = base + (l.getD j.toNat ZC).2.2.2.2.1 := IntWalk.i64_in _ (by omega)
      have e2 : IntKind.i64.wrap (base + (l.getD j.toNat ZC).2.2.2.1) = base + (l.getD j.toNat ZC).2.2.2.1 := IntWalk.i64_in _ (by omega)
      have e3 : IntKind.i64.wrap (base + (l.getD j.toNat ZC).2.2.2.1 - (zs.getD b.toNat Z1).1) = base + (l.getD j.toNat ZC).2.2.2.1 - (zs.getD b.toNat Z1).1 := IntWalk.i64_in _ (by omega)
      rw [e1, e2, e3, show (base + (l.getD j.toNat ZC).2.2.2.2.1 != base + (l.getD j.toNat ZC).2.2.2.1 - (zs.getD b.toNat Z1).1) = false from bne_eq_false_iff_eq.mpr (by omega)]
      simp only []
      unfold e14
      simp only []
      rw [on14_is, wrap_succ h2 (by omega)]
      exact ih (j + 1) (by omega) (by omega) (by omega)
    · rw [show decide (j < ((List.length l : Nat) : Int)) = false from decide_eq_false hj]
      simp only []
      rw [show j = (l.length : Int) by omega]
theorem plain (code : List InsD) (size : Int) (data : List Int) (block base : Int) (onE : Bool) : e4 20000 code size data block base onE = some (0, [⟨.bool, true⟩]) := by
  unfold e4
  rw [show e6 20000 = some (0, [⟨.bool, true⟩]) by kernel_rfl, on6_is]
  obtain ⟨zs, o, e, h1, h2⟩ := split_is (N := 20000) code size data (by omega)
  rw [h1, on7_is]
  simp only [Bool.not_true]
  have h8 : ∃ y : Bool, e8 20000 code size data = some (0, [⟨.bool, y⟩]) := by
    unfold e8
    split
    · exact ⟨_, rfl⟩
    · exact ⟨_, rfl⟩
  obtain ⟨y, h8⟩ := h8
  rw [h8, on8_is]
  cases y with
  | false => rfl
  | true =>
  simp only [Bool.not_true]
  by_cases he' : e ≠ 0
  · rw [show (e != 0) = true from bne_iff_ne.mpr he']
  have he : e = 0 := Decidable.not_not.1 he'
  rw [show (e != 0) = false from bne_eq_false_iff_eq.mpr he]
  by_cases hb : block < 0
  · rw [show decide (block < (0 : Int)) = true from decide_eq_true hb]
  rw [show decide (block < (0 : Int)) = false from decide_eq_false hb]
  by_cases hb0 : base < 0
  · rw [show decide (base < (0 : Int)) = true from decide_eq_true hb0]
  rw [show decide (base < (0 : Int)) = false from decide_eq_false hb0]
  by_cases hb1 : base > 1073741824
  · rw [show decide (base > (1073741824 : Int)) = true from decide_eq_true hb1]
  rw [show decide (base > (1073741824 : Int)) = false from decide_eq_false hb1]
  have hz := h2 he
  have hlen := hz.len
  have hpos : 0 < zs.length := List.length_pos_iff.2 hz.ne
  rw [show decide (((List.length zs : Nat) : Int) = 0) = false from decide_eq_false (by omega)]
  obtain ⟨k, hk⟩ : ∃ k, Int.tmod block ((List.length zs : Nat) : Int) = k := ⟨_, rfl⟩
  have hk0 : 0 ≤ k := by rw [← hk]; exact Int.tmod_nonneg _ (by omega)
  have hk1 : k < (zs.length : Int) := by rw [← hk]; exact Int.tmod_lt_of_pos _ (by omega)
  simp only [hk, idx_t hk0 hk1]
  rw [fCells_is zs o hz onE k hk0 hk1, on16_is]
  obtain ⟨l, hl⟩ : ∃ l, sideOf onE (zs.getD k.toNat Z1) = l := ⟨_, rfl⟩
  obtain ⟨g1, g2, g3, g4, g5, g6⟩ := hz.blk k.toNat (by omega)
  have hll : (l.length : Int) ≤ 16000 := by
    have := g5.len; have := g6.len
    rw [← hl]
    cases onE <;> simp only [sideOf] <;> omega
  rw [hl, goes_loop zs o hz onE k base _ _ _ l hl _ hk0 hk1 (by omega) (by omega) (by omega) 20000 0 (by omega) (by omega) (by omega), on4_0_1]
  obtain ⟨fell, b', i', base', s1, bz, f, t, nx, tk, A, E, s2, s3, s4⟩ := settle_chain (N := 20000) zs o hz onE (by omega) 2000 k hk0 hk1 (by omega) (l.length : Int) base 0 0 0 0 (by rw [hl]; omega) (by omega) (by omega) (by omega) (by omega)
  unfold e13
  rw [s1 20000 (by omega), on13_0_0, on13_is]
  by_cases hn : (zs.getD k.toNat Z1).2.2.1 < 0
  · rw [show decide ((zs.getD k.toNat Z1).2.2.1 < (0 : Int)) = true from decide_eq_true hn]
    obtain ⟨rfl, rfl⟩ := s3 hn
    simp only [beq_self_eq_true]
  · rw [show decide ((zs.getD k.toNat Z1).2.2.1 < (0 : Int)) = false from decide_eq_false hn]
    simp only []
    rw [s2 20000 _ _ _ _ (by omega), on4_2_3]
    rcases s4 with ⟨q1, rfl⟩ | ⟨q1, rfl, rfl, rfl, rfl⟩
    · rw [show decide (nx < (0 : Int)) = true from decide_eq_true q1]
    · rw [show decide (b' < (0 : Int)) = false from decide_eq_false (by omega)]
      simp only [Bool.not_false, beq_self_eq_true, Bool.and_self]
end Go.Proofs.Zz
