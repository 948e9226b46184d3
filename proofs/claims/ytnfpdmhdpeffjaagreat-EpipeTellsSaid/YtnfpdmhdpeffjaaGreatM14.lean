import Derived.Test.YtnfpdmhdpeffjaaGreatM13
set_option linter.unusedSimpArgs false
set_option linter.unusedVariables false
/- What E does in a cycle: the reference answers as the model says. -/
set_option linter.unusedVariables false
set_option linter.unusedSimpArgs false
namespace Go.Proofs.Zz
open Go
variable {N : Nat}
theorem r21_end_is (s : api_Split) (b : Int) (h : hasM s b = true) : r21_end N s b = some (0, gI.dv (blockM s b).2.1 []) := by
  have h2 := hasM_iff.1 h
  unfold r21_end
  rw [df (show ¬ b < 0 by omega), bi_false, df (show ¬ b ≥ len s.Blocks by simp only [len]; omega), bi_false, has_idx h, gd_true]
  rfl
theorem end_I64 (s : api_Split) (p : api_Pos) (h : I64 p.Base) : I64 (endM s p) := by
  unfold endM
  split
  · exact w_I64 _
  · exact h
theorem settleN_keeps {s : api_Split} (e : Bool) : ∀ (n : Nat) (p : api_Pos), I64 p.Base → 0 ≤ p.Index → I64 (settleN s e n p).1.Base ∧ 0 ≤ (settleN s e n p).1.Index
  | 0, p, h, hi => ⟨h, hi⟩
  | n + 1, p, h, hi => by
    unfold settleN
    split
    · exact ⟨h, hi⟩
    · split
      · exact ⟨h, hi⟩
      · split
        · exact ⟨h, hi⟩
        · exact settleN_keeps e n _ (end_I64 s p h) (by simp)
theorem rightM_index {c : api_Config} {s : api_Split} {x : api_State} (h : rightM c s x = true) : 0 ≤ x.E.Pos.Index := by
  have := rightM_E h
  unfold sideM at this
  simp only [Bool.and_eq_true, allB, List.all_cons, List.all_nil, decide_eq_true_eq] at this
  exact this.2.1.1.1
theorem Wf.pos {x : api_State} (h : Wf x) (p : api_Pos) : Wf { x with E := { x.E with Pos := p } } :=
  { rA := h.rA, rE := h.rE, mem := h.mem, saq := h.saq, tab := h.tab, ldq := h.ldq, sdq := h.sdq, aeq := h.aeq, abq := h.abq, ebq := h.ebq, wri := h.wri, gA := h.gA, gE := h.gE }
theorem next_here {s : api_Split} {e : Bool} {p : api_Pos} (h : (settleM s e p).2 = false) (h2 : 0 ≤ (settleM s e p).1.Index) : (nextM s e p).2.2 = true := by
  unfold nextM
  rw [if_neg (by rw [h]; simp; omega)]
theorem turn_wait {c : api_Config} {s : api_Split} {x : api_State} (h : x.E.Halted = true ∨ x.E.Wait > x.Cycle) : turnE c s x = x := by
  unfold turnE
  rw [at_wait h, if_pos (.inl rfl)]
theorem IssueE_is (c : api_Config) (s : api_Split) (x : api_State) (h : Wf x) (hl : s.Blocks.length ≤ 100000) (hN : s.Blocks.length < N) (hN2 : 1001 < N) (hn : NextOk s) :
    r21_IssueE N c s x = some (0, g_api_State.dv (issueE c s x) []) := by
  unfold r21_IssueE
  simp only [Copy_is x h, RightState_is c s x h.toStOk hN2, on1_some, gg_dv, gg_nil]
  cases hr : rightM c s x with
  | false => rw [show issueE c s x = x from if_neg (by rw [hr]; simp)]; rfl
  | true =>
    rw [show issueE c s x = turnE c s x from if_pos hr, Bool.not_true, bi_false]
    have hb := sideM_has (rightM_E hr)
    have hk := settleN_keeps (s := s) true s.Blocks.length x.E.Pos (rightM_base hr) (rightM_index hr)
    rw [show settleN s true s.Blocks.length x.E.Pos = settleM s true x.E.Pos from rfl] at hk
    have bif0 : ∀ {X : Type} {b : Bool} (A B : X), b = false → bi b A B = B := by rintro X b A B rfl; rfl
    have bit0 : ∀ {X : Type} {b : Bool} (A B : X), b = true → bi b A B = A := by rintro X b A B rfl; rfl
    rcases Bool.eq_false_or_eq_true x.E.Halted with hh | hh
    · rw [turn_wait (.inl hh), bit0 _ _ hh]
    · rw [bif0 _ _ hh]
      by_cases hw2 : x.E.Wait > x.Cycle
      · rw [turn_wait (.inr hw2), dt hw2, bi_true]
      rw [df hw2, bi_false]
      have hw : ¬ (x.E.Halted = true ∨ x.E.Wait > x.Cycle) := by rw [hh]; simp [hw2]
      simp only [r15_Settle_is s true x.E.Pos (rightM_base hr) hl hN, on1_some, gg_dv, gg_nil, r15_Next_is s true _ hk.1 hl hN, nextM_settled hn true _ hb]
      cases hf : (settleM s true x.E.Pos).2 with
      | true =>
        obtain ⟨h1, h2⟩ := at_fell hn hb hw hf
        have hs := settleN_has hn true s.Blocks.length x.E.Pos hb
        rw [show settleN s true s.Blocks.length x.E.Pos = settleM s true x.E.Pos from rfl] at hs
        have e : turnE c s x = (atE s x).2.2.2 := by
          unfold turnE
          rw [if_pos (.inl h1)]
        rw [e, h2, bi_true, r21_end_is s _ hs]
        simp only [on1_some, gg_dv, gg_nil, r_Note_is _ (h.pos _)]
      | false =>
        have hi := next_here hf hk.2
        have ha := at_cell hn hb hw hf
        have hx := h.pos (settleM s true x.E.Pos).1
        unfold turnE
        rw [ha, bi_false]
        have hk1 := hk.1
        generalize (settleM s true x.E.Pos).1 = q at *
        generalize nextM s true x.E.Pos = nx at *
        obtain ⟨k, st, is⟩ := nx
        simp only at hi
        subst hi
        simp only [r_stopped_is, r21_Free_is _ _ _ hN2, on1_some, gg_dv, gg_nil]
        rw [show stoppedM { x with E := { x.E with Pos := q } } st = stoppedM x st from rfl]
        cases stoppedM x st with
        | true => rw [bi_true, if_pos (.inl rfl)]
        | false =>
          rw [bi_false]
          cases hfr : freeM { x.E with Pos := q } k x.Cycle with
          | false => rw [if_pos (.inr rfl)]; rfl
          | true =>
            rw [if_neg (by simp), Bool.not_true, bi_false]
            have hg : ∀ r, U32 (getM { x.E with Pos := q } r) := fun r => getM_U32 h.gE r
            simp only [r21_value_is, on1_some, gg_dv, gg_nil, r1_Do_is k.2.1 (hg _) (hg _), r_Note_is _ hx, r1_Latency_is, r21_set_E_is, r21_on_E_is, r_Pop_is x.Ldq h.ldq, r1_Taken_is _ (hg _) (hg _)]
            have ht : ∀ (t : Bool) (cy : Int) (y : api_State), y.E.Pos = q → r21_turn_E N s t cy y = some (0, g_api_State.dv { y with E := goD s cy y.E t } []) := fun t cy y e => r21_turn_E_is s t cy y (by rw [e]; exact hk1)
            by_cases h1 : k.1 = 1
            · unfold actE
              rw [bt h1, bi_true, if_pos h1]
              cases (doM k.2.1 (getM { x.E with Pos := q } k.2.1.2.2.1) (getM { x.E with Pos := q } k.2.1.2.2.2.1)).2 <;> rfl
            rw [bf h1, bi_false]
            by_cases h6 : k.1 = 6
            · unfold actE
              rw [bt h6, bi_true, if_neg h1, if_pos h6]
              by_cases hq : x.Aeq.length = 0
              · rw [df (show ¬ len x.Aeq > 0 by simp only [len]; omega), if_pos hq]; rfl
              · rw [dt (show len x.Aeq > 0 by simp only [len]; omega), if_neg hq, bi_true, idx_t (i := 0) (by omega) (by omega), gd_true, sb_1 hq, gd_true]
            rw [bf h6, bi_false]
            by_cases h7 : k.1 = 7
            · unfold actE
              rw [bt h7, bi_true, if_neg h1, if_neg h6, if_pos h7]
              cases (popM x.Ldq).2.2 <;> rfl
            rw [bf h7, bi_false]
            by_cases h8 : k.1 = 8
            · unfold actE
              rw [bt h8, bi_true, if_neg h1, if_neg h6, if_neg h7, if_pos h8]
              by_cases hq : len x.Sdq < c.Sdq
              · rw [dt hq, if_pos hq, bi_true, rmT (show (x.Sdq.length + [getM { x.E with Pos := q } k.2.2.1].length) * 4 ≤ 35184372088832 by have := h.sdq; simp; omega), gd_true]
              · rw [df hq, if_neg hq]; rfl
            rw [bf h8, bi_false]
            by_cases h9 : k.1 = 9
            · unfold actE
              rw [bt h9, bi_true, if_neg h1, if_neg h6, if_neg h7, if_neg h8, if_pos h9]
              by_cases hq : len x.Ebq < c.Ebq
              · rw [dt hq, if_neg (show ¬ len x.Ebq ≥ c.Ebq by omega), bi_true, rmT (show (x.Ebq.length + [takenM k.2.1.1 (getM { x.E with Pos := q } k.2.1.2.2.1) (getM { x.E with Pos := q } k.2.1.2.2.2.1)].length) * 1 ≤ 35184372088832 by have := h.ebq; simp; omega), gd_true, ht _ _ _ rfl] <;> rfl
              · rw [df hq, if_pos (show len x.Ebq ≥ c.Ebq by omega)]; rfl
            rw [bf h9, bi_false]
            by_cases h10 : k.1 = 10
            · unfold actE
              rw [bt h10, bi_true, if_neg h1, if_neg h6, if_neg h7, if_neg h8, if_neg h9, if_pos h10]
              by_cases hq : x.Abq.length = 0
              · rw [df (show ¬ len x.Abq > 0 by simp only [len]; omega), if_pos hq]; rfl
              · rw [dt (show len x.Abq > 0 by simp only [len]; omega), if_neg hq, bi_true, idx_t (i := 0) (by omega) (by omega), gd_true, sb_1 hq, gd_true, ht _ _ _ rfl] <;> rfl
            rw [bf h10, bi_false]
            by_cases h11 : k.1 = 11
            · unfold actE
              rw [bt h11, bi_true, if_neg h1, if_neg h6, if_neg h7, if_neg h8, if_neg h9, if_neg h10, if_pos h11, ht _ _ _ rfl] <;> rfl
            rw [bf h11, bi_false]
            by_cases h12 : k.1 = 12
            · unfold actE
              rw [bt h12, bi_true, if_neg h1, if_neg h6, if_neg h7, if_neg h8, if_neg h9, if_neg h10, if_neg h11, if_pos h12]
              rfl
            · unfold actE
              rw [bf h12, bi_false, if_neg h1, if_neg h6, if_neg h7, if_neg h8, if_neg h9, if_neg h10, if_neg h11, if_neg h12]
end Go.Proofs.Zz
