import Derived.Test.YtnfpdmhdpeffjaaGreatMF
import Derived.Test.YtnfpdmhdpeffjaaGreatK6
set_option linter.unusedSimpArgs false
set_option linter.unusedVariables false
/- Steps are small; how far A is ahead; what A's cycle does then. -/
set_option linter.unusedVariables false
set_option linter.unusedSimpArgs false
namespace Go.Proofs.Zz
open Go
variable {N : Nat}
theorem blk_of {s : api_Split} (h : SplitOk s.Blocks) {b : Int} (hb : hasM s b = true) : 0 ≤ (blockM s b).1 ∧ (blockM s b).1 < (blockM s b).2.1 ∧ (blockM s b).2.1 ≤ 2000 ∧ SpanOk KA (blockM s b).1 (blockM s b).2.1 (blockM s b).2.2.2.2.1 ∧ SpanOk KE (blockM s b).1 (blockM s b).2.1 (blockM s b).2.2.2.2.2.1 := by
  have h2 := hasM_iff.1 hb
  have h3 := h.blk b.toNat (by omega)
  exact ⟨h3.1, h3.2.1, h3.2.2.1, h3.2.2.2.2.1, h3.2.2.2.2.2⟩
theorem endM_range {s : api_Split} (h : SplitOk s.Blocks) {p : api_Pos} (hb : hasM s p.Block = true) (h0 : 0 ≤ p.Base) (h1 : p.Base ≤ 9000000000000) : p.Base ≤ endM s p ∧ endM s p ≤ p.Base + 2000 := by
  obtain ⟨g1, g2, g3, _⟩ := blk_of h hb
  unfold endM
  rw [if_pos hb, wI (x := p.Base + (blockM s p.Block).2.1) (by omega) (by omega), wI (by omega) (by omega)]
  omega
theorem settleN_base {s : api_Split} (h : SplitOk s.Blocks) (e : Bool) : ∀ (n : Nat) (p : api_Pos), hasM s p.Block = true → 0 ≤ p.Base → p.Base + 2000 * n ≤ 9000000000000 → 0 ≤ (settleN s e n p).1.Base ∧ (settleN s e n p).1.Base ≤ p.Base + 2000 * n
  | 0, p, hb, h0, h1 => ⟨h0, by simp only [settleN]; omega⟩
  | n + 1, p, hb, h0, h1 => by
    unfold settleN
    rw [if_neg (by rw [hb]; simp)]
    split
    · exact ⟨h0, by simp only; omega⟩
    · split
      · exact ⟨h0, by simp only; omega⟩
      · rename_i h3
        have hr := endM_range h hb h0 (by omega)
        have h4 := ((NextOk.of h) _ hb).resolve_left h3
        have := settleN_base h e n ⟨(blockM s p.Block).2.2.1, 0, endM s p⟩ h4.2 (by simp only; omega) (by simp only; omega)
        simp only at this
        exact ⟨this.1, by omega⟩
theorem cell_range {s : api_Split} (h : SplitOk s.Blocks) (e : Bool) {p : api_Pos} (hb : hasM s p.Block = true) : 0 ≤ (cellAt s e p).2.2.2.2.1 ∧ (cellAt s e p).2.2.2.2.1 ≤ 2000 := by
  obtain ⟨g1, g2, g3, g4, g5⟩ := blk_of h hb
  have key : ∀ (ks : List Int) (l : List api_Cell), SpanOk ks (blockM s p.Block).1 (blockM s p.Block).2.1 l → 0 ≤ (l.getD p.Index.toNat api_Cell.z).2.2.2.2.1 ∧ (l.getD p.Index.toNat api_Cell.z).2.2.2.2.1 ≤ 2000 := by
    intro ks l hl
    by_cases hi : p.Index.toNat < l.length
    · have := hl.all _ (getD_mem api_Cell.z hi)
      omega
    · rw [List.getD_eq_getElem?_getD, List.getElem?_eq_none (by omega)]
      exact ⟨by simp, by simp⟩
  unfold cellAt cellsM
  rw [if_pos hb]
  cases e with
  | true => exact key _ _ g5
  | false => exact key _ _ g4
theorem step_range {s : api_Split} (h : SplitOk s.Blocks) (e : Bool) {p : api_Pos} (hb : hasM s p.Block = true) (h0 : 0 ≤ p.Base) (h1 : p.Base ≤ 1099511627776) : 0 ≤ (nextM s e p).2.1 ∧ (nextM s e p).2.1 ≤ 2000000000000 := by
  have hl := h.len
  have hs := settleN_has (NextOk.of h) e s.Blocks.length p hb
  have hr := settleN_base h e s.Blocks.length p hb h0 (by omega)
  rw [show settleN s e s.Blocks.length p = settleM s e p from rfl] at hs hr
  have he := endM_range h hs hr.1 (by omega)
  have hc := cell_range h e hs
  unfold nextM
  split
  · simp only; omega
  · simp only
    rw [wI (by omega) (by omega)]
    omega
theorem reachM_is {a e n : Int} (ha : 0 ≤ a ∧ a ≤ 2000000000000) (he : 0 ≤ e ∧ e ≤ 2000000000000) (hn : 1 ≤ n ∧ n ≤ 64) : reachM a e n = decide (w.i64 (a - e) ≥ n) := by
  unfold reachM
  rw [wI (x := a - e) (by omega) (by omega)]
  have u : ∀ x : Int, 0 ≤ x → x ≤ 4000000000000 → w.u64 x = x := fun x h1 h2 => IntWalk.u64_in _ (by omega)
  by_cases h : a ≥ e
  · rw [if_pos h, if_neg (by omega), u a (by omega) (by omega), u e (by omega) (by omega), u (a - e) (by omega) (by omega), u n (by omega) (by omega)]
  · rw [if_neg h, if_neg (by omega), df (by omega)]
end Go.Proofs.Zz
/- A that is far ahead waits: the reference law's answer. -/
set_option linter.unusedVariables false
set_option linter.unusedSimpArgs false
namespace Go.Proofs.Zz
open Go
variable {N : Nat}
theorem rightM_baseE {c : api_Config} {s : api_Split} {x : api_State} (h : rightM c s x = true) : 0 ≤ x.E.Pos.Base ∧ x.E.Pos.Base ≤ 1099511627776 := by
  have := rightM_E h
  unfold sideM at this
  simp only [Bool.and_eq_true, allB, List.all_cons, List.all_nil, decide_eq_true_eq, most] at this
  exact of_decide_eq_true this.2.2.1.1
theorem rightM_baseA {c : api_Config} {s : api_Split} {x : api_State} (h : rightM c s x = true) : 0 ≤ x.A.Pos.Base ∧ x.A.Pos.Base ≤ 1099511627776 := by
  have := rightM_A h
  unfold sideM at this
  simp only [Bool.and_eq_true, allB, List.all_cons, List.all_nil, decide_eq_true_eq, most] at this
  exact of_decide_eq_true this.2.2.1.1
theorem rightM_slip {c : api_Config} {s : api_Split} {x : api_State} (h : rightM c s x = true) : 1 ≤ c.Slip ∧ c.Slip ≤ 64 := by
  unfold rightM cfgM at h
  simp only [Bool.and_eq_true, allB, List.all_cons, List.all_nil, decide_eq_true_eq] at h
  exact h.1.1.2.2.2.2.2.2.2.1
theorem ahead_is {c : api_Config} {s : api_Split} {x : api_State} (hs : SplitOk s.Blocks) (h : rightM c s x = true) :
    aheadM c s x = (!x.E.Halted && ((nextM s true x.E.Pos).2.2 && ((nextM s false x.A.Pos).2.2 && decide (w.i64 ((nextM s false x.A.Pos).2.1 - (nextM s true x.E.Pos).2.1) ≥ c.Slip)))) := by
  unfold aheadM
  have hE := rightM_baseE h
  have hA := rightM_baseA h
  rw [reachM_is (step_range hs false (sideM_has (rightM_A h)) hA.1 hA.2) (step_range hs true (sideM_has (rightM_E h)) hE.1 hE.2) (rightM_slip h)]
/-- Far ahead, A comes to its cell at most. -/
theorem turn_ahead {c : api_Config} {s : api_Split} {x : api_State} (hn : NextOk s) (hb : hasM s x.A.Pos.Block = true) (h : aheadM c s x = true) : (turnA c s x).A.Done = x.A.Done ∧ (turnA c s x).Table = x.Table ∧ (turnA c s x).Saq = x.Saq ∧ (turnA c s x).Trap = x.Trap := by
  by_cases hw : x.A.Halted = true ∨ x.A.Wait > x.Cycle
  · have e : atA s x = (api_Cell.z, 0, false, x) := if_pos hw
    have e2 : turnA c s x = x := by
      unfold turnA
      rw [e, if_pos (.inl rfl)]
    rw [e2]
    exact ⟨rfl, rfl, rfl, rfl⟩
  · have hf : (settleM s false x.A.Pos).2 = false := by
      cases hf : (settleM s false x.A.Pos).2 with
      | false => rfl
      | true =>
        have := next_fell hf
        unfold aheadM at h
        rw [this] at h
        simp at h
    have e : atA s x = ((nextM s false x.A.Pos).1, (nextM s false x.A.Pos).2.1, (nextM s false x.A.Pos).2.2 && !stoppedM x (nextM s false x.A.Pos).2.1, { x with A := { x.A with Pos := (settleM s false x.A.Pos).1 } }) := by
      unfold atA
      rw [if_neg hw]
      simp only [nextM_settled hn false _ hb, hf]
      rfl
    have e3 : aheadM c s { x with A := { x.A with Pos := (settleM s false x.A.Pos).1 } } = true := by
      rw [← h]
      unfold aheadM
      simp only [nextM_settled hn false _ hb]
    have e2 : turnA c s x = { x with A := { x.A with Pos := (settleM s false x.A.Pos).1 } } := by
      unfold turnA
      rw [e, if_pos (.inr (.inl e3))]
    rw [e2]
    exact ⟨rfl, rfl, rfl, rfl⟩
theorem ApipeSlips_true (c : api_Config) (p : api_Program) (pick : Int) (x : api_State) (h : Typed x) : l22_ApipeSlips 20000 c p pick x = some (0, gB.dv true []) := by
  unfold l22_ApipeSlips
  obtain ⟨s, ok, hs, hlen, hok⟩ := Splits_is (N := 20000) p pick (by omega)
  obtain ⟨b, hb, hfew⟩ := FewS_is (N := 20000) x
  simp only [alive22_is, hs, Few_is, hb, on1_some, gg_dv, gg_nil, Bool.not_true, bi_false]
  generalize decide (p.Code.length ≤ 200 ∧ p.Data.length ≤ 500) = fp
  cases fp with
  | false => rfl
  | true =>
    cases b with
    | false => rfl
    | true =>
      cases ok with
      | false => rfl
      | true =>
        have hw := Wf.of h (hfew rfl)
        have hA := WfA.of h (hfew rfl)
        have hn := NextOk.of (hok rfl)
        simp only [Bool.not_true, bi_false, RightState_is c s x hw.toStOk (show 1001 < 20000 by omega), on1_some, gg_dv, gg_nil]
        cases hr : rightM c s x with
        | false => rfl
        | true =>
          have ha := ahead_is (hok rfl) hr
          have hbA := rightM_baseA hr
          have hbE := rightM_baseE hr
          have ht := turn_ahead (c := c) hn (sideM_has (rightM_A hr))
          simp only [Bool.not_true, bi_false, r15_Next_is s false x.A.Pos (show I64 _ by unfold I64; omega) (show s.Blocks.length ≤ 100000 by omega) (show s.Blocks.length < 20000 by omega), r15_Next_is s true x.E.Pos (show I64 _ by unfold I64; omega) (show s.Blocks.length ≤ 100000 by omega) (show s.Blocks.length < 20000 by omega), Ahead_is c s x (show s.Blocks.length ≤ 100000 by omega) (show s.Blocks.length < 20000 by omega), Copy_is x hw, on1_some, gg_dv, gg_nil, Issue_A_is c s x hw hA (show s.Blocks.length ≤ 100000 by omega) (show s.Blocks.length < 20000 by omega) (show 1001 < 20000 by omega) hn]
          rw [show issueA c s x = turnA c s x from if_pos hr]
          generalize turnA c s x = y at *
          have tail : aheadM c s x = true → bi (y.A.Done == x.A.Done) (bi ((len y.Table) == (len x.Table)) (bi ((len y.Saq) == (len x.Saq)) (some (0, gB.dv ((y.Trap.Kind == x.Trap.Kind) && ((y.Trap.Step == x.Trap.Step) && (y.Trap.Pc == x.Trap.Pc))) [])) (some (0, gB.dv false []))) (some (0, gB.dv false []))) (some (0, gB.dv false [])) = (some (0, gB.dv true []) : Option Rs) := by
            intro h1
            obtain ⟨t1, t2, t3, t4⟩ := ht h1
            rw [bt t1, t2, t3, bt rfl, bt rfl, trap_same t4]
            rfl
          generalize aheadM c s x = A at *
          generalize nextM s false x.A.Pos = qa at *
          generalize nextM s true x.E.Pos = qe at *
          generalize x.E.Halted = H at *
          obtain ⟨k1, a, fine⟩ := qa
          obtain ⟨k2, e, is⟩ := qe
          simp only at ha ⊢
          cases H <;> cases fine <;> cases is <;> simp only [Bool.not_true, Bool.not_false, Bool.false_and, Bool.true_and, Bool.and_false] at ha <;> subst ha
          all_goals try rfl
          rw [Bool.not_false, bi_true, bi_true, bi_true, beq_self_eq_true, Bool.not_true, bi_false]
          cases hd : decide (w.i64 (a - e) ≥ c.Slip) with
          | false => rfl
          | true =>
            rw [Bool.not_true, bi_false]
            exact tail hd
end Go.Proofs.Zz
/- What waits in E's cycle, and what does not: the model's law. -/
set_option linter.unusedVariables false
set_option linter.unusedSimpArgs false
namespace Go.Proofs.Zz
open Go
variable {N : Nat}
/-- A cell of E's stream is of E's kinds. -/
theorem cell_kind {s : api_Split} (h : SplitOk s.Blocks) {p : api_Pos} (hb : hasM s p.Block = true) (hi : 0 ≤ p.Index) (hl : p.Index < len (cellsM s true p.Block)) : (cellAt s true p).1 ∈ KE := by
  obtain ⟨g1, g2, g3, g4, g5⟩ := blk_of h hb
  unfold cellAt
  unfold cellsM at hl ⊢
  rw [if_pos hb, if_pos rfl] at hl ⊢
  exact g5.kin _ (getD_mem api_Cell.z (by simp only [len] at hl; omega))
/-- E's cell waits, by what it needs. -/
def needM (c : api_Config) (k : api_Cell) (x : api_State) : Bool :=
  !freeM x.E k x.Cycle || ((k.1 == 6 && (len x.Aeq == 0)) || ((k.1 == 7 && !(popM x.Ldq).2.2) || ((k.1 == 8 && (len x.Sdq == c.Sdq)) || ((k.1 == 9 && (len x.Ebq == c.Ebq)) || (k.1 == 10 && (len x.Abq == 0))))))
def waitM (c : api_Config) (s : api_Split) (x : api_State) : Bool :=
  !(nextM s true x.E.Pos).2.2 || (x.E.Halted || (decide (x.E.Wait > x.Cycle) || needM c (nextM s true x.E.Pos).1 x))
/-- Nothing is done. -/
def Still (x y : api_State) : Prop := y.E.Done = x.E.Done ∧ y.E.Regs = x.E.Regs ∧ y.Sdq.length = x.Sdq.length ∧ y.Ebq.length = x.Ebq.length ∧ y.Aeq.length = x.Aeq.length
theorem note_Still (x : api_State) (p : api_Pos) (k st pc : Int) : Still x (noteM { x with E := { x.E with Pos := p } } k st pc) := by
  unfold noteM
  split <;> exact ⟨rfl, rfl, rfl, rfl, rfl⟩
theorem act_wait {c : api_Config} {s : api_Split} {k : api_Cell} {st : Int} {x : api_State} (hq : len x.Sdq ≤ c.Sdq ∧ len x.Ebq ≤ c.Ebq) (h : needM c k x = true) (hf : freeM x.E k x.Cycle = true) : actE c s k st x = x := by
  unfold needM at h
  rw [hf] at h
  simp only [len] at h hq
  simp only [Bool.not_true, Bool.false_or, Bool.or_eq_true, Bool.and_eq_true, beq_iff_eq, Bool.not_eq_true'] at h
  unfold actE
  rcases h with ⟨h1, h2⟩ | ⟨h1, h2⟩ | ⟨h1, h2⟩ | ⟨h1, h2⟩ | ⟨h1, h2⟩
  · rw [if_neg (by omega), if_pos h1, if_pos (by omega)]
  · rw [if_neg (by omega), if_neg (by omega), if_pos h1, if_pos h2]
  · rw [if_neg (by omega), if_neg (by omega), if_neg (by omega), if_pos h1, if_neg (by simp only [len]; omega)]
  · rw [if_neg (by omega), if_neg (by omega), if_neg (by omega), if_neg (by omega), if_pos h1, if_pos (by simp only [len]; omega)]
  · rw [if_neg (by omega), if_neg (by omega), if_neg (by omega), if_neg (by omega), if_neg (by omega), if_pos h1, if_pos (by omega)]
theorem act_done {c : api_Config} {s : api_Split} {k : api_Cell} {st : Int} {x : api_State} (hq : len x.Sdq ≤ c.Sdq ∧ len x.Ebq ≤ c.Ebq) (hk : k.1 ∈ KE) (ht : x.Trap.Kind = 0) (h : needM c k x = false) :
    (actE c s k st x).E.Done = w.i64 (x.E.Done + 1) ∨ (actE c s k st x).Trap.Kind = 3 := by
  unfold needM at h
  simp only [len] at h hq
  simp only [Bool.or_eq_false_iff, Bool.and_eq_false_iff, beq_eq_false_iff_ne, Bool.not_eq_false', ne_eq] at h
  obtain ⟨_, h6, h7, h8, h9, h10⟩ := h
  unfold actE
  by_cases h1 : k.1 = 1
  · rw [if_pos h1]
    split
    · exact .inl (by simp only [behindM, setM_done])
    · right
      unfold noteM
      rw [if_pos (.inl ht)]
  rw [if_neg h1]
  by_cases k6 : k.1 = 6
  · rw [if_pos k6, if_neg (by have := h6.resolve_left (fun h => h k6); omega)]
    exact .inl (by simp only [behindM, setM_done])
  rw [if_neg k6]
  by_cases k7 : k.1 = 7
  · rw [if_pos k7, if_neg (by have := h7.resolve_left (fun h => h k7); simp [this])]
    exact .inl (by simp only [behindM, setM_done])
  rw [if_neg k7]
  by_cases k8 : k.1 = 8
  · rw [if_pos k8, if_pos (by have := h8.resolve_left (fun h => h k8); simp only [len]; omega)]
    exact .inl rfl
  rw [if_neg k8]
  by_cases k9 : k.1 = 9
  · rw [if_pos k9, if_neg (by have := h9.resolve_left (fun h => h k9); simp only [len]; omega)]
    exact .inl rfl
  rw [if_neg k9]
  by_cases k10 : k.1 = 10
  · rw [if_pos k10, if_neg (by have := h10.resolve_left (fun h => h k10); omega)]
    exact .inl rfl
  rw [if_neg k10]
  by_cases k11 : k.1 = 11
  · rw [if_pos k11]
    exact .inl rfl
  rw [if_neg k11]
  by_cases k12 : k.1 = 12
  · rw [if_pos k12]
    exact .inl rfl
  simp only [KE, List.mem_cons, List.not_mem_nil, or_false] at hk
  omega
theorem rightM_queues {c : api_Config} {s : api_Split} {x : api_State} (h : rightM c s x = true) : len x.Sdq ≤ c.Sdq ∧ len x.Ebq ≤ c.Ebq := by
  unfold rightM queuesM at h
  simp only [Bool.and_eq_true, decide_eq_true_eq] at h
  exact ⟨h.2.2.2.2.1.2.1, h.2.2.2.2.1.2.2.2.2.1⟩
theorem settleN_index {s : api_Split} (e : Bool) : ∀ (n : Nat) (p : api_Pos), 0 ≤ p.Index → 0 ≤ (settleN s e n p).1.Index
  | 0, p, h => h
  | n + 1, p, h => by
    unfold settleN
    split
    · exact h
    · split
      · exact h
      · split
        · exact h
        · exact settleN_index e n _ (Int.le_refl _)
/-- E's cycle: what waits stays, what does not is done. -/
theorem turn_waits {c : api_Config} {s : api_Split} {x : api_State} (hs : SplitOk s.Blocks) (hr : rightM c s x = true) :
    (waitM c s x = true → Still x (turnE c s x)) ∧ (waitM c s x = false → x.Trap.Kind ≠ 0 ∨ (turnE c s x).E.Done = w.i64 (x.E.Done + 1) ∨ (turnE c s x).Trap.Kind = 3) := by
  have hn := NextOk.of hs
  have hb := sideM_has (rightM_E hr)
  have hq := rightM_queues hr
  unfold waitM
  by_cases hw : x.E.Halted = true ∨ x.E.Wait > x.Cycle
  · have e : turnE c s x = x := by
      unfold turnE
      rw [at_wait hw, if_pos (.inl rfl)]
    rw [e]
    refine ⟨fun _ => ⟨rfl, rfl, rfl, rfl, rfl⟩, fun h => ?_⟩
    simp only [Bool.or_eq_false_iff, decide_eq_false_iff_not] at h
    rcases hw with hw | hw
    · rw [hw] at h; simp at h
    · exact absurd hw h.2.2.1
  cases hf : (settleM s true x.E.Pos).2 with
  | true =>
    have hi := next_fell hf
    obtain ⟨h1, h2⟩ := at_fell hn hb hw hf
    have e : turnE c s x = (atE s x).2.2.2 := by
      unfold turnE
      rw [if_pos (.inl h1)]
    rw [e, h2, hi]
    exact ⟨fun _ => note_Still _ _ _ _ _, fun h => by simp at h⟩
  | false =>
    have ha := at_cell hn hb hw hf
    cases hi : (nextM s true x.E.Pos).2.2 with
    | false =>
      have e : turnE c s x = { x with E := { x.E with Pos := (settleM s true x.E.Pos).1 } } := by
        unfold turnE
        rw [ha, if_pos (.inl (by simp only [hi, Bool.false_and]))]
      rw [e]
      exact ⟨fun _ => ⟨rfl, rfl, rfl, rfl, rfl⟩, fun h => by simp at h⟩
    | true =>
      have hh : x.E.Halted = false := by
        cases h : x.E.Halted with
        | false => rfl
        | true => exact absurd (.inl h) hw
      have hw2 : decide (x.E.Wait > x.Cycle) = false := decide_eq_false fun h => hw (.inr h)
      rw [hh, hw2]
      simp only [Bool.not_true, Bool.false_or]
      cases hst : stoppedM x (nextM s true x.E.Pos).2.1 with
      | true =>
        have e : turnE c s x = { x with E := { x.E with Pos := (settleM s true x.E.Pos).1 } } := by
          unfold turnE
          rw [ha, if_pos (.inl (by simp only [hst, Bool.not_true, Bool.and_false]))]
        rw [e]
        refine ⟨fun _ => ⟨rfl, rfl, rfl, rfl, rfl⟩, fun _ => .inl ?_⟩
        unfold stoppedM at hst
        exact (of_decide_eq_true hst).1
      | false =>
        have e : turnE c s x = if freeM x.E (nextM s true x.E.Pos).1 x.Cycle = false then { x with E := { x.E with Pos := (settleM s true x.E.Pos).1 } } else actE c s (nextM s true x.E.Pos).1 (nextM s true x.E.Pos).2.1 { x with E := { x.E with Pos := (settleM s true x.E.Pos).1 } } := by
          unfold turnE
          rw [ha]
          simp only [hi, hst, Bool.not_false, Bool.and_true, Bool.true_eq_false, false_or]
          rfl
        cases hfr : freeM x.E (nextM s true x.E.Pos).1 x.Cycle with
        | false =>
          rw [e, hfr, if_pos rfl]
          exact ⟨fun _ => ⟨rfl, rfl, rfl, rfl, rfl⟩, fun h => by unfold needM at h; rw [hfr] at h; simp at h⟩
        | true =>
          rw [e, hfr, if_neg (by simp)]
          have hnd : needM c (nextM s true x.E.Pos).1 { x with E := { x.E with Pos := (settleM s true x.E.Pos).1 } } = needM c (nextM s true x.E.Pos).1 x := rfl
          refine ⟨fun h => ?_, fun h => ?_⟩
          · rw [act_wait (x := { x with E := { x.E with Pos := (settleM s true x.E.Pos).1 } }) hq (hnd.trans h) hfr]
            exact ⟨rfl, rfl, rfl, rfl, rfl⟩
          · by_cases ht : x.Trap.Kind = 0
            · right
              refine act_done (x := { x with E := { x.E with Pos := (settleM s true x.E.Pos).1 } }) hq ?_ ht (hnd.trans h)
              have h1 := settleN_settled hn true s.Blocks.length x.E.Pos hb (by have := hasM_iff.1 hb; omega)
              rw [show settleN s true s.Blocks.length x.E.Pos = settleM s true x.E.Pos from rfl, hf] at h1
              have h2 := settleN_index (s := s) true s.Blocks.length x.E.Pos (rightM_index hr)
              rw [show settleN s true s.Blocks.length x.E.Pos = settleM s true x.E.Pos from rfl] at h2
              have h3 := cell_kind hs h1.1 h2 (h1.2.elim (fun h => h.2) (fun h => Bool.noConfusion h.1))
              have h4 : (nextM s true x.E.Pos).1 = cellAt s true (settleM s true x.E.Pos).1 := by
                unfold nextM
                rw [if_neg (by rw [hf]; simp; omega)]
              rw [h4]
              exact h3
            · exact .inl ht
end Go.Proofs.Zz
/- What waits in E's cycle stays: the reference law's answer. -/
set_option linter.unusedVariables false
set_option linter.unusedSimpArgs false
namespace Go.Proofs.Zz
open Go
variable {N : Nat}
theorem bi_dv (n : Nat) (a p r : Bool) (q : List DV) : bi a (some (n, gB.dv p q)) (some (n, gB.dv r q)) = (some (n, gB.dv (bi a p r) q) : Option Rs) := by cases a <;> rfl
theorem bi_or (a r : Bool) : bi a true r = (a || r) := by cases a <;> rfl
theorem bi_el (a e : Bool) : bi a e false = (a && e) := by cases a <;> rfl
theorem bi_andor (a e r : Bool) : bi a (e || r) r = ((a && e) || r) := by cases a <;> rfl
def waitX (c : api_Config) (is : Bool) (k : api_Cell) (x : api_State) : Bool := !is || (x.E.Halted || (decide (x.E.Wait > x.Cycle) || needM c k x))
theorem pop_ldq (l : List api_Slot) : (!(popM l).2.2) = ((len l == 0) || !(l.getD 0 api_Slot.z).2.1) := by
  unfold popM
  by_cases h : l.length = 0
  · rw [if_pos (.inl h), len0, dt h]; rfl
  · cases hf : (l.getD 0 api_Slot.z).2.1 with
    | false => rw [if_pos (.inr rfl)]; simp
    | true => rw [if_neg (by simp [h]), len0, df h]; rfl
theorem Waits_join (is : Bool) (c : api_Config) (k : api_Cell) (x y : api_State) (hN : 1001 < N) :
    l21_EpipeWaits_j100008 N is k.1 c x k y = some (100009, gB.dv (waitX c is k x) (g_api_State.dv x (g_api_State.dv y []))) := by
  unfold l21_EpipeWaits_j100008 waitX needM
  simp only [epipe_Free_is _ _ _ hN, on1_some, gg_dv, gg_nil, pop_ldq]
  by_cases h : x.Ldq.length = 0
  · rw [len0 (l := x.Ldq), dt h]
    simp only [bi_true, bi_dv, bi_or, bi_el, bi_andor, Bool.true_or, Bool.and_true]
  · rw [len0 (l := x.Ldq), df h, idx_t (i := 0) (n := x.Ldq.length) (by omega) (by omega)]
    simp only [bi_false, gd_true, bi_dv, bi_or, bi_el, bi_andor, Bool.false_or]
theorem EpipeWaits_true (c : api_Config) (p : api_Program) (pick : Int) (x : api_State) (h : Typed x) : l21_EpipeWaits 20000 c p pick x = some (0, gB.dv true []) := by
  unfold l21_EpipeWaits
  obtain ⟨s, ok, hs, hlen, hok⟩ := Splits_is (N := 20000) p pick (by omega)
  obtain ⟨b, hb, hfew⟩ := FewS_is (N := 20000) x
  simp only [alive_is, hs, Few_is, hb, on1_some, gg_dv, gg_nil, Bool.not_true, bi_false]
  generalize decide (p.Code.length ≤ 200 ∧ p.Data.length ≤ 500) = fp
  cases fp with
  | false => rfl
  | true =>
    cases b with
    | false => rfl
    | true =>
      cases ok with
      | false => rfl
      | true =>
        have hw := Wf.of h (hfew rfl)
        have hn := NextOk.of (hok rfl)
        simp only [Bool.not_true, bi_false, RightState_is c s x hw.toStOk (show 1001 < 20000 by omega), on1_some, gg_dv, gg_nil]
        cases hr : rightM c s x with
        | false => rfl
        | true =>
          have ht := turn_waits (hok rfl) hr
          simp only [Bool.not_true, bi_false, r15_Next_is s true x.E.Pos (rightM_base hr) (show s.Blocks.length ≤ 100000 by omega) (show s.Blocks.length < 20000 by omega), Copy_is x hw, on1_some, gg_dv, gg_nil, Issue_E_is c s x hw (show s.Blocks.length ≤ 100000 by omega) (show s.Blocks.length < 20000 by omega) (show 1001 < 20000 by omega) hn, Waits_join _ _ _ _ _ (show 1001 < 20000 by omega), onA_some]
          rw [show issueE c s x = turnE c s x from if_pos hr]
          generalize turnE c s x = y at *
          unfold waitM at ht
          unfold waitX
          cases hwt : (!(nextM s true x.E.Pos).2.2 || (x.E.Halted || (decide (x.E.Wait > x.Cycle) || needM c (nextM s true x.E.Pos).1 x))) with
          | true =>
            obtain ⟨t1, t2, t3, t4, t5⟩ := ht.1 hwt
            rw [bi_true, bt t1, bi_true, t2, show (x.E.Regs == x.E.Regs) = true from beq_self_eq_true _, bi_true, show (len y.Sdq == len x.Sdq) = true from bt (congrArg Nat.cast t3), bi_true, show (len y.Ebq == len x.Ebq) = true from bt (congrArg Nat.cast t4), bi_true, show (len y.Aeq == len x.Aeq) = true from bt (congrArg Nat.cast t5)]
          | false =>
            rw [bi_false]
            by_cases h0 : x.Trap.Kind = 0
            · rw [show (x.Trap.Kind != 0) = false by simp [h0], bi_false]
              rcases (ht.2 hwt).resolve_left (fun h => h h0) with h1 | h1
              · rw [bt h1]; rfl
              · rw [h1]
                generalize (y.E.Done == w.i64 (x.E.Done + 1)) = b
                cases b <;> rfl
            · rw [show (x.Trap.Kind != 0) = true by simp [h0]]; rfl
end Go.Proofs.Zz
