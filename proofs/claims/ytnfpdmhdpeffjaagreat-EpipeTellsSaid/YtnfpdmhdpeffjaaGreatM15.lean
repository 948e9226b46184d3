import Derived.Test.YtnfpdmhdpeffjaaGreatM14
set_option linter.unusedSimpArgs false
set_option linter.unusedVariables false
/- What E names, whether it is free, what is noted, what a cycle of E does: the reference law's answer. -/
set_option linter.unusedVariables false
set_option linter.unusedSimpArgs false
namespace Go.Proofs.Zz
open Go
variable {N : Nat}
/-- Lengths that a loop's fuel is enough for. -/
structure Sml (x : api_State) : Prop where
  ldq : x.Ldq.length ≤ 1000
  sdq : x.Sdq.length ≤ 1000
  aeq : x.Aeq.length ≤ 1000
  abq : x.Abq.length ≤ 1000
  ebq : x.Ebq.length ≤ 1000
  saq : x.Saq.length ≤ 1000
  tab : x.Table.length ≤ 1000
  wri : x.Writes.length ≤ 1000
theorem SameState_sml (x : api_State) (h : Sml x) (hN : 1001 < N) : r15_SameState N x x = some (0, gB.dv true []) := by
  unfold r15_SameState
  have h0 := same_l0 (N := N) x h.ldq N 0 (by omega) (by have := h.ldq; omega)
  have h2 := same_l2 (N := N) x h.saq N 0 (by omega) (by have := h.saq; omega)
  have h4 := same_l4 (N := N) x h.tab N 0 (by omega) (by have := h.tab; omega)
  have h6 := same_l6 (N := N) x h.wri N 0 (by omega) (by have := h.wri; omega)
  simp only [Int.natCast_zero] at h0 h2 h4 h6
  simp only [beq_self_eq_true, bne_self_eq_false, Bool.and_self, Bool.not_true, bi_false]
  rw [h0, onB_snd _ _ (by decide), gg_dv, gg_dv, gg_nil, h2, onB_snd _ _ (by decide), gg_dv, gg_dv, gg_nil, h4, onB_snd _ _ (by decide), gg_dv, gg_dv, gg_nil, h6, onB_snd _ _ (by decide), gg_dv, gg_dv, gg_nil]
  simp only [words_same _ h.sdq hN, words_same _ h.aeq hN, bools_same _ h.abq hN, bools_same _ h.ebq hN, on1_some, gg_dv, gg_nil, bi_true]
theorem sml_note {x : api_State} (h : FewS x) (k st pc : Int) : Sml (noteM x k st pc) := by
  obtain ⟨f1, f2, f3, f4, f5, f6, f7, f8, f9⟩ := h
  unfold noteM
  split
  · exact ⟨by simp only; omega, by simp only; omega, by simp only; omega, by simp only; omega, by simp only; omega, by simp only; omega, by simp only; omega, by simp only; omega⟩
  · exact ⟨by omega, by omega, by omega, by omega, by omega, by omega, by omega, by omega⟩
theorem sml_one {x y : api_State} (h : FewS x) (o : One x y) : Sml y := by
  obtain ⟨f1, f2, f3, f4, f5, f6, f7, f8, f9⟩ := h
  obtain ⟨fr, on⟩ := o
  have e1 : y.Saq = x.Saq := by rw [fr]
  have e2 : y.Table = x.Table := by rw [fr]
  have e3 : y.Writes = x.Writes := by rw [fr]
  exact ⟨by omega, by omega, by omega, by omega, by omega, by rw [e1]; omega, by rw [e2]; omega, by rw [e3]; omega⟩
theorem issue_One (c : api_Config) (s : api_Split) (x : api_State) : One x (issueE c s x) := by
  unfold issueE
  split
  · exact turn_One c s x
  · exact One.refl x
theorem tells_loop (k st pc : Int) (l : List Int) (hl : l.length ≤ 1000) (c : api_Config) (x : api_State) (s : api_Split) : ∀ (n i : Nat), i ≤ l.length → l.length - i < n →
    l21_EpipeTells_l0 N n k st pc l l (i : Int) c x s = some (1, gI.dv k (gI.dv st (gI.dv pc (g_api_Config.dv c (g_api_State.dv x (g_api_Split.dv s [])))))) := by
  intro n
  induction n with
  | zero => intro i h0 h1; omega
  | succ n ih =>
    intro i h0 h1
    show l21_EpipeTells_r0 N (l21_EpipeTells_l0 N n) k st pc l l (i : Int) c x s = _
    unfold l21_EpipeTells_r0
    by_cases hi : i < l.length
    · rw [lt_len hi]
      simp only [bi_true, idx_n hi, gd_true, Int.toNat_natCast, bne_self_eq_false, bi_false, wS (show i ≤ 100000000 by omega)]
      exact ih (i + 1) (by omega) (by omega)
    · rw [ge_len (by omega)]; rfl
theorem EpipeTells_true (c : api_Config) (p : api_Program) (pick : Int) (x : api_State) (k : api_Cell) (kd st pc : Int) (h : Typed x) : l21_EpipeTells 20000 c p pick x k kd st pc = some (0, gB.dv true []) := by
  unfold l21_EpipeTells
  obtain ⟨s, ok, hs, hlen, hok⟩ := Splits_is (N := 20000) p pick (by omega)
  obtain ⟨b, hb, hfew⟩ := FewS_is (N := 20000) x
  simp only [alive_is, hs, Few_is, hb, on1_some, gg_dv, gg_nil, Bool.not_true, bi_false]
  generalize decide (p.Code.length ≤ 200 ∧ p.Data.length ≤ 500) = fp
  cases fp with
  | false => rfl
  | true =>
    cases b with
    | false => rfl
    | true =>
      cases ok with
      | false => rfl
      | true =>
        have hf := hfew rfl
        have hw := Wf.of h hf
        have hn := NextOk.of (hok rfl)
        have h3 := namedM_len k
        have hL := tells_loop (N := 20000) kd st pc (namedM k) (by omega) c x s 20000 0 (by omega) (by omega)
        simp only [Int.natCast_zero] at hL
        simp only [Bool.not_true, bi_false, epipe_Named_is k (show 1001 < 20000 by omega), r21_Named_is k (show 1001 < 20000 by omega), epipe_Free_is _ _ _ (show 1001 < 20000 by omega), r21_Free_is _ _ _ (show 1001 < 20000 by omega), on1_some, gg_dv, gg_nil, bne_self_eq_false, beq_self_eq_true]
        rw [hL, onB_snd _ _ (by decide)]
        simp only [gg_dv, gg_nil, Copy_is x hw, on1_some, Note_is x hw, r_Note_is x hw, SameState_sml _ (sml_note hf _ _ _) (show 1001 < 20000 by omega), bi_true, Issue_E_is c s x hw (show s.Blocks.length ≤ 100000 by omega) (show s.Blocks.length < 20000 by omega) (show 1001 < 20000 by omega) hn, IssueE_is c s x hw (show s.Blocks.length ≤ 100000 by omega) (show s.Blocks.length < 20000 by omega) (show 1001 < 20000 by omega) hn, SameState_sml _ (sml_one hf (issue_One c s x)) (show 1001 < 20000 by omega)]
end Go.Proofs.Zz
