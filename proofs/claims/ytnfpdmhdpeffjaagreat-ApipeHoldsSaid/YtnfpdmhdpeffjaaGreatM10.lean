import Derived.Test.YtnfpdmhdpeffjaaGreatM9
import Derived.Test.YtnfpdmhdpeffjaaGreatNA
set_option linter.unusedSimpArgs false
set_option linter.unusedVariables false
/- Whether two states are the same, of one; states small enough; E's laws. -/
set_option linter.unusedVariables false
set_option linter.unusedSimpArgs false
namespace Go.Proofs.Zz
open Go
variable {N : Nat}
theorem same_l0 (x : api_State) (hl : x.Ldq.length ≤ 1000) : ∀ (n i : Nat), i ≤ x.Ldq.length → x.Ldq.length - i < n → r15_SameState_l0 N n (i : Int) x x = some (1, g_api_State.dv x (g_api_State.dv x [])) := by
  intro n
  induction n with
  | zero => intro i h0 h1; omega
  | succ n ih =>
    intro i h0 h1
    show r15_SameState_r0 N (r15_SameState_l0 N n) (i : Int) x x = _
    unfold r15_SameState_r0
    by_cases hi : i < x.Ldq.length
    · rw [lt_len hi]
      simp only [bi_true, idx_n hi, gd_true, Int.toNat_natCast, beq_self_eq_true, Bool.and_self, Bool.not_true, bi_false, wS (show i ≤ 100000000 by omega)]
      exact ih (i + 1) (by omega) (by omega)
    · rw [ge_len (by omega)]; rfl
theorem same_l2 (x : api_State) (hl : x.Saq.length ≤ 1000) : ∀ (n i : Nat), i ≤ x.Saq.length → x.Saq.length - i < n → r15_SameState_l2 N n (i : Int) x x = some (3, g_api_State.dv x (g_api_State.dv x [])) := by
  intro n
  induction n with
  | zero => intro i h0 h1; omega
  | succ n ih =>
    intro i h0 h1
    show r15_SameState_r2 N (r15_SameState_l2 N n) (i : Int) x x = _
    unfold r15_SameState_r2
    by_cases hi : i < x.Saq.length
    · rw [lt_len hi]
      simp only [bi_true, idx_n hi, gd_true, Int.toNat_natCast, beq_self_eq_true, Bool.and_self, Bool.not_true, bi_false, wS (show i ≤ 100000000 by omega)]
      exact ih (i + 1) (by omega) (by omega)
    · rw [ge_len (by omega)]; rfl
theorem same_l4 (x : api_State) (hl : x.Table.length ≤ 1000) : ∀ (n i : Nat), i ≤ x.Table.length → x.Table.length - i < n → r15_SameState_l4 N n (i : Int) x x = some (5, g_api_State.dv x (g_api_State.dv x [])) := by
  intro n
  induction n with
  | zero => intro i h0 h1; omega
  | succ n ih =>
    intro i h0 h1
    show r15_SameState_r4 N (r15_SameState_l4 N n) (i : Int) x x = _
    unfold r15_SameState_r4
    by_cases hi : i < x.Table.length
    · rw [lt_len hi]
      simp only [bi_true, idx_n hi, gd_true, Int.toNat_natCast, beq_self_eq_true, Bool.and_self, Bool.not_true, bi_false, wS (show i ≤ 100000000 by omega)]
      exact ih (i + 1) (by omega) (by omega)
    · rw [ge_len (by omega)]; rfl
theorem same_l6 (x : api_State) (hl : x.Writes.length ≤ 1000) : ∀ (n i : Nat), i ≤ x.Writes.length → x.Writes.length - i < n → r15_SameState_l6 N n (i : Int) x x = some (7, g_api_State.dv x (g_api_State.dv x [])) := by
  intro n
  induction n with
  | zero => intro i h0 h1; omega
  | succ n ih =>
    intro i h0 h1
    show r15_SameState_r6 N (r15_SameState_l6 N n) (i : Int) x x = _
    unfold r15_SameState_r6
    by_cases hi : i < x.Writes.length
    · rw [lt_len hi]
      simp only [bi_true, idx_n hi, gd_true, Int.toNat_natCast, beq_self_eq_true, Bool.and_self, Bool.not_true, bi_false, wS (show i ≤ 100000000 by omega)]
      exact ih (i + 1) (by omega) (by omega)
    · rw [ge_len (by omega)]; rfl
theorem same_w (l : List Int) (hl : l.length ≤ 1000) : ∀ (n i : Nat), i ≤ l.length → l.length - i < n → r15_SameWords_l0 N n l l (i : Int) = some (1, []) := by
  intro n
  induction n with
  | zero => intro i h0 h1; omega
  | succ n ih =>
    intro i h0 h1
    show r15_SameWords_r0 N (r15_SameWords_l0 N n) l l (i : Int) = _
    unfold r15_SameWords_r0
    by_cases hi : i < l.length
    · rw [lt_len hi]
      simp only [bi_true, idx_n hi, gd_true, Int.toNat_natCast, bne_self_eq_false, bi_false, wS (show i ≤ 100000000 by omega)]
      exact ih (i + 1) (by omega) (by omega)
    · rw [ge_len (by omega)]; rfl
theorem same_b (l : List Bool) (hl : l.length ≤ 1000) : ∀ (n i : Nat), i ≤ l.length → l.length - i < n → r15_SameBools_l0 N n l l (i : Int) = some (1, []) := by
  intro n
  induction n with
  | zero => intro i h0 h1; omega
  | succ n ih =>
    intro i h0 h1
    show r15_SameBools_r0 N (r15_SameBools_l0 N n) l l (i : Int) = _
    unfold r15_SameBools_r0
    by_cases hi : i < l.length
    · rw [lt_len hi]
      simp only [bi_true, idx_n hi, gd_true, Int.toNat_natCast, beq_self_eq_true, Bool.not_true, bi_false, wS (show i ≤ 100000000 by omega)]
      exact ih (i + 1) (by omega) (by omega)
    · rw [ge_len (by omega)]; rfl
theorem words_same (l : List Int) (hl : l.length ≤ 1000) (hN : 1001 < N) : r15_SameWords N l l = some (0, gB.dv true []) := by
  unfold r15_SameWords
  have h := same_w (N := N) l hl N 0 (by omega) (by omega)
  simp only [Int.natCast_zero] at h
  rw [bne_self_eq_false, bi_false, h, onB_snd _ _ (by decide), gg_nil]
theorem bools_same (l : List Bool) (hl : l.length ≤ 1000) (hN : 1001 < N) : r15_SameBools N l l = some (0, gB.dv true []) := by
  unfold r15_SameBools
  have h := same_b (N := N) l hl N 0 (by omega) (by omega)
  simp only [Int.natCast_zero] at h
  rw [bne_self_eq_false, bi_false, h, onB_snd _ _ (by decide), gg_nil]
theorem SameState_same (x : api_State) (h : Wf x) (hN : 1001 < N) : r15_SameState N x x = some (0, gB.dv true []) := by
  unfold r15_SameState
  have h0 := same_l0 (N := N) x h.ldq N 0 (by omega) (by have := h.ldq; omega)
  have h2 := same_l2 (N := N) x h.saq N 0 (by omega) (by have := h.saq; omega)
  have h4 := same_l4 (N := N) x h.tab N 0 (by omega) (by have := h.tab; omega)
  have h6 := same_l6 (N := N) x h.wri N 0 (by omega) (by have := h.wri; omega)
  simp only [Int.natCast_zero] at h0 h2 h4 h6
  simp only [beq_self_eq_true, bne_self_eq_false, Bool.and_self, Bool.not_true, bi_false]
  rw [h0, onB_snd _ _ (by decide), gg_dv, gg_dv, gg_nil, h2, onB_snd _ _ (by decide), gg_dv, gg_dv, gg_nil, h4, onB_snd _ _ (by decide), gg_dv, gg_dv, gg_nil, h6, onB_snd _ _ (by decide), gg_dv, gg_dv, gg_nil]
  simp only [words_same _ h.sdq hN, words_same _ h.aeq hN, bools_same _ h.abq hN, bools_same _ h.ebq hN, on1_some, gg_dv, gg_nil, bi_true]
/-- A state is small. -/
def FewS (x : api_State) : Prop := x.Mem.length ≤ 1000 ∧ x.Table.length ≤ 64 ∧ x.Saq.length ≤ 64 ∧ x.Ldq.length ≤ 64 ∧ x.Writes.length ≤ 100 ∧ x.Sdq.length ≤ 64 ∧ x.Aeq.length ≤ 64 ∧ x.Abq.length ≤ 64 ∧ x.Ebq.length ≤ 64
theorem FewS_is (x : api_State) : ∃ b : Bool, l18_Few N x = some (0, gB.dv b []) ∧ (b = true → FewS x) := by
  unfold l18_Few
  simp only [bi_and]
  refine ⟨_, rfl, fun h => ?_⟩
  simp only [Bool.and_eq_true, decide_eq_true_eq, len] at h
  unfold FewS
  omega
/-- What a state's type tells. -/
structure Typed (x : api_State) : Prop where
  rA : x.A.Ready.length = 16
  rE : x.E.Ready.length = 16
  gA : ∀ r ∈ x.A.Regs, U32 r
  gE : ∀ r ∈ x.E.Regs, U32 r
theorem Wf.of {x : api_State} (h : Typed x) (hf : FewS x) : Wf x := by
  obtain ⟨f1, f2, f3, f4, f5, f6, f7, f8, f9⟩ := hf
  exact { rA := h.rA, rE := h.rE, mem := by omega, saq := by omega, tab := by omega, ldq := by omega, sdq := by omega, aeq := by omega, abq := by omega, ebq := by omega, wri := by omega, gA := h.gA, gE := h.gE }
theorem NextOk.of {s : api_Split} (h : SplitOk s.Blocks) : NextOk s := by
  intro b hb
  have h2 := hasM_iff.1 hb
  have h3 := (h.blk b.toNat (by omega)).2.2.2.1
  unfold blockM
  rcases h3 with h3 | h3
  · left; omega
  · right
    exact ⟨by omega, hasM_iff.2 (by omega)⟩
theorem alive_is : l21_alive 20000 = some (0, gB.dv true []) := by kernel_rfl
theorem w3 {a b c d : Int} (ha : 0 ≤ a ∧ a ≤ 100000) (hb : 0 ≤ b ∧ b ≤ 100000) (hc : 0 ≤ c ∧ c ≤ 100000) (hd : 0 ≤ d ∧ d ≤ 100000) : w.i64 (w.i64 (w.i64 (a - b) + c) - d) = a - b + c - d := by
  rw [wI (x := a - b) (by omega) (by omega), wI (x := a - b + c) (by omega) (by omega), wI (by omega) (by omega)]
theorem w5 {a b c d e f : Int} (ha : 0 ≤ a ∧ a ≤ 100000) (hb : 0 ≤ b ∧ b ≤ 100000) (hc : 0 ≤ c ∧ c ≤ 100000) (hd : 0 ≤ d ∧ d ≤ 100000) (he : 0 ≤ e ∧ e ≤ 100000) (hf : 0 ≤ f ∧ f ≤ 100000) : w.i64 (w.i64 (w.i64 (w.i64 (w.i64 (a - b) + c) - d) + e) - f) = a - b + c - d + e - f := by
  rw [wI (x := a - b) (by omega) (by omega), wI (x := a - b + c) (by omega) (by omega), wI (x := a - b + c - d) (by omega) (by omega), wI (x := a - b + c - d + e) (by omega) (by omega), wI (by omega) (by omega)]
end Go.Proofs.Zz
