import Derived.Test.YtnfpdmhdpeffjaaGreatMF
set_option linter.unusedSimpArgs false
set_option linter.unusedVariables false
/- Steps are small; how far A is ahead; what A's cycle does then. -/
set_option linter.unusedVariables false
set_option linter.unusedSimpArgs false
namespace Go.Proofs.Zz
open Go
variable {N : Nat}
theorem blk_of {s : api_Split} (h : SplitOk s.Blocks) {b : Int} (hb : hasM s b = true) : 0 ≤ (blockM s b).1 ∧ (blockM s b).1 < (blockM s b).2.1 ∧ (blockM s b).2.1 ≤ 2000 ∧ SpanOk KA (blockM s b).1 (blockM s b).2.1 (blockM s b).2.2.2.2.1 ∧ SpanOk KE (blockM s b).1 (blockM s b).2.1 (blockM s b).2.2.2.2.2.1 := by
  have h2 := hasM_iff.1 hb
  have h3 := h.blk b.toNat (by omega)
  exact ⟨h3.1, h3.2.1, h3.2.2.1, h3.2.2.2.2.1, h3.2.2.2.2.2⟩
theorem endM_range {s : api_Split} (h : SplitOk s.Blocks) {p : api_Pos} (hb : hasM s p.Block = true) (h0 : 0 ≤ p.Base) (h1 : p.Base ≤ 9000000000000) : p.Base ≤ endM s p ∧ endM s p ≤ p.Base + 2000 := by
  obtain ⟨g1, g2, g3, _⟩ := blk_of h hb
  unfold endM
  rw [if_pos hb, wI (x := p.Base + (blockM s p.Block).2.1) (by omega) (by omega), wI (by omega) (by omega)]
  omega
theorem settleN_base {s : api_Split} (h : SplitOk s.Blocks) (e : Bool) : ∀ (n : Nat) (p : api_Pos), hasM s p.Block = true → 0 ≤ p.Base → p.Base + 2000 * n ≤ 9000000000000 → 0 ≤ (settleN s e n p).1.Base ∧ (settleN s e n p).1.Base ≤ p.Base + 2000 * n
  | 0, p, hb, h0, h1 => ⟨h0, by simp only [settleN]; omega⟩
  | n + 1, p, hb, h0, h1 => by
    unfold settleN
    rw [if_neg (by rw [hb]; simp)]
    split
    · exact ⟨h0, by simp only; omega⟩
    · split
      · exact ⟨h0, by simp only; omega⟩
      · rename_i h3
        have hr := endM_range h hb h0 (by omega)
        have h4 := ((NextOk.of h) _ hb).resolve_left h3
        have := settleN_base h e n ⟨(blockM s p.Block).2.2.1, 0, endM s p⟩ h4.2 (by simp only; omega) (by simp only; omega)
        simp only at this
        exact ⟨this.1, by omega⟩
theorem cell_range {s : api_Split} (h : SplitOk s.Blocks) (e : Bool) {p : api_Pos} (hb : hasM s p.Block = true) : 0 ≤ (cellAt s e p).2.2.2.2.1 ∧ (cellAt s e p).2.2.2.2.1 ≤ 2000 := by
  obtain ⟨g1, g2, g3, g4, g5⟩ := blk_of h hb
  have key : ∀ (ks : List Int) (l : List api_Cell), SpanOk ks (blockM s p.Block).1 (blockM s p.Block).2.1 l → 0 ≤ (l.getD p.Index.toNat api_Cell.z).2.2.2.2.1 ∧ (l.getD p.Index.toNat api_Cell.z).2.2.2.2.1 ≤ 2000 := by
    intro ks l hl
    by_cases hi : p.Index.toNat < l.length
    · have := hl.all _ (getD_mem api_Cell.z hi)
      omega
    · rw [List.getD_eq_getElem?_getD, List.getElem?_eq_none (by omega)]
      exact ⟨by simp, by simp⟩
  unfold cellAt cellsM
  rw [if_pos hb]
  cases e with
  | true => exact key _ _ g5
  | false => exact key _ _ g4
theorem step_range {s : api_Split} (h : SplitOk s.Blocks) (e : Bool) {p : api_Pos} (hb : hasM s p.Block = true) (h0 : 0 ≤ p.Base) (h1 : p.Base ≤ 1099511627776) : 0 ≤ (nextM s e p).2.1 ∧ (nextM s e p).2.1 ≤ 2000000000000 := by
  have hl := h.len
  have hs := settleN_has (NextOk.of h) e s.Blocks.length p hb
  have hr := settleN_base h e s.Blocks.length p hb h0 (by omega)
  rw [show settleN s e s.Blocks.length p = settleM s e p from rfl] at hs hr
  have he := endM_range h hs hr.1 (by omega)
  have hc := cell_range h e hs
  unfold nextM
  split
  · simp only; omega
  · simp only
    rw [wI (by omega) (by omega)]
    omega
theorem reachM_is {a e n : Int} (ha : 0 ≤ a ∧ a ≤ 2000000000000) (he : 0 ≤ e ∧ e ≤ 2000000000000) (hn : 1 ≤ n ∧ n ≤ 64) : reachM a e n = decide (w.i64 (a - e) ≥ n) := by
  unfold reachM
  rw [wI (x := a - e) (by omega) (by omega)]
  have u : ∀ x : Int, 0 ≤ x → x ≤ 4000000000000 → w.u64 x = x := fun x h1 h2 => IntWalk.u64_in _ (by omega)
  by_cases h : a ≥ e
  · rw [if_pos h, if_neg (by omega), u a (by omega) (by omega), u e (by omega) (by omega), u (a - e) (by omega) (by omega), u n (by omega) (by omega)]
  · rw [if_neg h, if_neg (by omega), df (by omega)]
end Go.Proofs.Zz
/- A that is far ahead waits: the reference law's answer. -/
set_option linter.unusedVariables false
set_option linter.unusedSimpArgs false
namespace Go.Proofs.Zz
open Go
variable {N : Nat}
theorem rightM_baseE {c : api_Config} {s : api_Split} {x : api_State} (h : rightM c s x = true) : 0 ≤ x.E.Pos.Base ∧ x.E.Pos.Base ≤ 1099511627776 := by
  have := rightM_E h
  unfold sideM at this
  simp only [Bool.and_eq_true, allB, List.all_cons, List.all_nil, decide_eq_true_eq, most] at this
  exact of_decide_eq_true this.2.2.1.1
theorem rightM_baseA {c : api_Config} {s : api_Split} {x : api_State} (h : rightM c s x = true) : 0 ≤ x.A.Pos.Base ∧ x.A.Pos.Base ≤ 1099511627776 := by
  have := rightM_A h
  unfold sideM at this
  simp only [Bool.and_eq_true, allB, List.all_cons, List.all_nil, decide_eq_true_eq, most] at this
  exact of_decide_eq_true this.2.2.1.1
theorem rightM_slip {c : api_Config} {s : api_Split} {x : api_State} (h : rightM c s x = true) : 1 ≤ c.Slip ∧ c.Slip ≤ 64 := by
  unfold rightM cfgM at h
  simp only [Bool.and_eq_true, allB, List.all_cons, List.all_nil, decide_eq_true_eq] at h
  exact h.1.1.2.2.2.2.2.2.2.1
theorem ahead_is {c : api_Config} {s : api_Split} {x : api_State} (hs : SplitOk s.Blocks) (h : rightM c s x = true) :
    aheadM c s x = (!x.E.Halted && ((nextM s true x.E.Pos).2.2 && ((nextM s false x.A.Pos).2.2 && decide (w.i64 ((nextM s false x.A.Pos).2.1 - (nextM s true x.E.Pos).2.1) ≥ c.Slip)))) := by
  unfold aheadM
  have hE := rightM_baseE h
  have hA := rightM_baseA h
  rw [reachM_is (step_range hs false (sideM_has (rightM_A h)) hA.1 hA.2) (step_range hs true (sideM_has (rightM_E h)) hE.1 hE.2) (rightM_slip h)]
/-- Far ahead, A comes to its cell at most. -/
theorem turn_ahead {c : api_Config} {s : api_Split} {x : api_State} (hn : NextOk s) (hb : hasM s x.A.Pos.Block = true) (h : aheadM c s x = true) : (turnA c s x).A.Done = x.A.Done ∧ (turnA c s x).Table = x.Table ∧ (turnA c s x).Saq = x.Saq ∧ (turnA c s x).Trap = x.Trap := by
  by_cases hw : x.A.Halted = true ∨ x.A.Wait > x.Cycle
  · have e : atA s x = (api_Cell.z, 0, false, x) := if_pos hw
    have e2 : turnA c s x = x := by
      unfold turnA
      rw [e, if_pos (.inl rfl)]
    rw [e2]
    exact ⟨rfl, rfl, rfl, rfl⟩
  · have hf : (settleM s false x.A.Pos).2 = false := by
      cases hf : (settleM s false x.A.Pos).2 with
      | false => rfl
      | true =>
        have := next_fell hf
        unfold aheadM at h
        rw [this] at h
        simp at h
    have e : atA s x = ((nextM s false x.A.Pos).1, (nextM s false x.A.Pos).2.1, (nextM s false x.A.Pos).2.2 && !stoppedM x (nextM s false x.A.Pos).2.1, { x with A := { x.A with Pos := (settleM s false x.A.Pos).1 } }) := by
      unfold atA
      rw [if_neg hw]
      simp only [nextM_settled hn false _ hb, hf]
      rfl
    have e3 : aheadM c s { x with A := { x.A with Pos := (settleM s false x.A.Pos).1 } } = true := by
      rw [← h]
      unfold aheadM
      simp only [nextM_settled hn false _ hb]
    have e2 : turnA c s x = { x with A := { x.A with Pos := (settleM s false x.A.Pos).1 } } := by
      unfold turnA
      rw [e, if_pos (.inr (.inl e3))]
    rw [e2]
    exact ⟨rfl, rfl, rfl, rfl⟩
theorem ApipeSlips_true (c : api_Config) (p : api_Program) (pick : Int) (x : api_State) (h : Typed x) : l22_ApipeSlips 20000 c p pick x = some (0, gB.dv true []) := by
  unfold l22_ApipeSlips
  obtain ⟨s, ok, hs, hlen, hok⟩ := Splits_is (N := 20000) p pick (by omega)
  obtain ⟨b, hb, hfew⟩ := FewS_is (N := 20000) x
  simp only [alive22_is, hs, Few_is, hb, on1_some, gg_dv, gg_nil, Bool.not_true, bi_false]
  generalize decide (p.Code.length ≤ 200 ∧ p.Data.length ≤ 500) = fp
  cases fp with
  | false => rfl
  | true =>
    cases b with
    | false => rfl
    | true =>
      cases ok with
      | false => rfl
      | true =>
        have hw := Wf.of h (hfew rfl)
        have hA := WfA.of h (hfew rfl)
        have hn := NextOk.of (hok rfl)
        simp only [Bool.not_true, bi_false, RightState_is c s x hw.toStOk (show 1001 < 20000 by omega), on1_some, gg_dv, gg_nil]
        cases hr : rightM c s x with
        | false => rfl
        | true =>
          have ha := ahead_is (hok rfl) hr
          have hbA := rightM_baseA hr
          have hbE := rightM_baseE hr
          have ht := turn_ahead (c := c) hn (sideM_has (rightM_A hr))
          simp only [Bool.not_true, bi_false, r15_Next_is s false x.A.Pos (show I64 _ by unfold I64; omega) (show s.Blocks.length ≤ 100000 by omega) (show s.Blocks.length < 20000 by omega), r15_Next_is s true x.E.Pos (show I64 _ by unfold I64; omega) (show s.Blocks.length ≤ 100000 by omega) (show s.Blocks.length < 20000 by omega), Ahead_is c s x (show s.Blocks.length ≤ 100000 by omega) (show s.Blocks.length < 20000 by omega), Copy_is x hw, on1_some, gg_dv, gg_nil, Issue_A_is c s x hw hA (show s.Blocks.length ≤ 100000 by omega) (show s.Blocks.length < 20000 by omega) (show 1001 < 20000 by omega) hn]
          rw [show issueA c s x = turnA c s x from if_pos hr]
          generalize turnA c s x = y at *
          have tail : aheadM c s x = true → bi (y.A.Done == x.A.Done) (bi ((len y.Table) == (len x.Table)) (bi ((len y.Saq) == (len x.Saq)) (some (0, gB.dv ((y.Trap.Kind == x.Trap.Kind) && ((y.Trap.Step == x.Trap.Step) && (y.Trap.Pc == x.Trap.Pc))) [])) (some (0, gB.dv false []))) (some (0, gB.dv false []))) (some (0, gB.dv false [])) = (some (0, gB.dv true []) : Option Rs) := by
            intro h1
            obtain ⟨t1, t2, t3, t4⟩ := ht h1
            rw [bt t1, t2, t3, bt rfl, bt rfl, trap_same t4]
            rfl
          generalize aheadM c s x = A at *
          generalize nextM s false x.A.Pos = qa at *
          generalize nextM s true x.E.Pos = qe at *
          generalize x.E.Halted = H at *
          obtain ⟨k1, a, fine⟩ := qa
          obtain ⟨k2, e, is⟩ := qe
          simp only at ha ⊢
          cases H <;> cases fine <;> cases is <;> simp only [Bool.not_true, Bool.not_false, Bool.false_and, Bool.true_and, Bool.and_false] at ha <;> subst ha
          all_goals try rfl
          rw [Bool.not_false, bi_true, bi_true, bi_true, beq_self_eq_true, Bool.not_true, bi_false]
          cases hd : decide (w.i64 (a - e) ≥ c.Slip) with
          | false => rfl
          | true =>
            rw [Bool.not_true, bi_false]
            exact tail hd
end Go.Proofs.Zz
