import Derived.Test.YtnfpdmhdpeffjaaGreatM11
set_option linter.unusedSimpArgs false
set_option linter.unusedVariables false
/- With a trap noted no cell of its step, or a later one, is done: the model's law, and the reference law's answer. -/
set_option linter.unusedVariables false
set_option linter.unusedSimpArgs false
namespace Go.Proofs.Zz
open Go
variable {N : Nat}
/-! A settled place is settled -/
theorem settleN_settled {s : api_Split} (h : NextOk s) (e : Bool) : ∀ (n : Nat) (p : api_Pos), hasM s p.Block = true → s.Blocks.length - p.Block.toNat ≤ n →
    hasM s (settleN s e n p).1.Block = true ∧ (((settleN s e n p).2 = false ∧ (settleN s e n p).1.Index < len (cellsM s e (settleN s e n p).1.Block)) ∨ ((settleN s e n p).2 = true ∧ ¬ (settleN s e n p).1.Index < len (cellsM s e (settleN s e n p).1.Block) ∧ (blockM s (settleN s e n p).1.Block).2.2.1 < 0))
  | 0, p, hp, hn => by
    have := hasM_iff.1 hp
    omega
  | n + 1, p, hp, hn => by
    unfold settleN
    rw [if_neg (by rw [hp]; simp)]
    split
    · rename_i h2; exact ⟨hp, .inl ⟨rfl, h2⟩⟩
    · split
      · rename_i h2 h3; exact ⟨hp, .inr ⟨rfl, h2, h3⟩⟩
      · rename_i h3
        have h4 := (h _ hp).resolve_left h3
        have h5 := hasM_iff.1 hp
        exact settleN_settled h e n _ h4.2 (by simp only; omega)
theorem settleM_idem {s : api_Split} (h : NextOk s) (e : Bool) (p : api_Pos) (hp : hasM s p.Block = true) : settleM s e (settleM s e p).1 = settleM s e p := by
  have h1 := settleN_settled h e s.Blocks.length p hp (by omega)
  have h0 := hasM_iff.1 hp
  obtain ⟨k, hk⟩ : ∃ k, s.Blocks.length = k + 1 := ⟨s.Blocks.length - 1, by omega⟩
  unfold settleM
  rw [hk] at h1 ⊢
  generalize settleN s e (k + 1) p = q at *
  obtain ⟨q, f⟩ := q
  obtain ⟨h2, h3⟩ := h1
  simp only at h2 h3 ⊢
  unfold settleN
  rw [if_neg (by rw [h2]; simp)]
  rcases h3 with ⟨rfl, h4⟩ | ⟨rfl, h4, h5⟩
  · rw [if_pos h4]
  · rw [if_neg h4, if_pos h5]
theorem nextM_settled {s : api_Split} (h : NextOk s) (e : Bool) (p : api_Pos) (hp : hasM s p.Block = true) : nextM s e (settleM s e p).1 = nextM s e p := by
  unfold nextM
  rw [settleM_idem h e p hp]
theorem next_fell {s : api_Split} {e : Bool} {p : api_Pos} (h : (settleM s e p).2 = true) : (nextM s e p).2.2 = false := by
  unfold nextM
  rw [if_pos (.inl h)]
/-! Where E comes to -/
theorem at_wait {s : api_Split} {x : api_State} (h : x.E.Halted = true ∨ x.E.Wait > x.Cycle) : atE s x = (api_Cell.z, 0, false, x) := if_pos h
theorem at_fell {s : api_Split} {x : api_State} (hn : NextOk s) (hb : hasM s x.E.Pos.Block = true) (h : ¬ (x.E.Halted = true ∨ x.E.Wait > x.Cycle)) (hf : (settleM s true x.E.Pos).2 = true) :
    (atE s x).2.2.1 = false ∧ (atE s x).2.2.2 = noteM { x with E := { x.E with Pos := (settleM s true x.E.Pos).1 } } 4 (nextM s true x.E.Pos).2.1 (blockM s (settleM s true x.E.Pos).1.Block).2.1 := by
  unfold atE
  rw [if_neg h]
  simp only [nextM_settled hn true _ hb, next_fell hf, hf, if_true, Bool.false_and, and_self]
theorem at_cell {s : api_Split} {x : api_State} (hn : NextOk s) (hb : hasM s x.E.Pos.Block = true) (h : ¬ (x.E.Halted = true ∨ x.E.Wait > x.Cycle)) (hf : (settleM s true x.E.Pos).2 = false) :
    atE s x = ((nextM s true x.E.Pos).1, (nextM s true x.E.Pos).2.1, (nextM s true x.E.Pos).2.2 && !stoppedM x (nextM s true x.E.Pos).2.1, { x with E := { x.E with Pos := (settleM s true x.E.Pos).1 } }) := by
  unfold atE
  rw [if_neg h]
  simp only [nextM_settled hn true _ hb, hf]
  rfl
theorem act_Trap (c : api_Config) (s : api_Split) (k : api_Cell) (st : Int) (x : api_State) : (actE c s k st x).Trap = x.Trap ∨ (actE c s k st x).Trap = (noteM x 3 st k.2.2.2.1).Trap := by
  unfold actE
  split
  · split
    · exact .inl rfl
    · exact .inr rfl
  split
  · split <;> exact .inl rfl
  split
  · split <;> exact .inl rfl
  split
  · split <;> exact .inl rfl
  split
  · split <;> exact .inl rfl
  split
  · split <;> exact .inl rfl
  split
  · exact .inl rfl
  split <;> exact .inl rfl
theorem note_kept {x : api_State} {k st pc : Int} (h0 : x.Trap.Kind ≠ 0) (h : ¬ st < x.Trap.Step) : noteM x k st pc = x := by
  unfold noteM
  rw [if_neg]
  rintro (h2 | h2)
  · exact h0 h2
  · exact h h2
theorem note_step (x : api_State) (k st pc : Int) : (noteM x k st pc).Trap = x.Trap ∨ (noteM x k st pc).Trap.Step = st := by
  unfold noteM
  split
  · exact .inr rfl
  · exact .inl rfl
/-- E's cycle with a trap noted. -/
theorem turn_Stops {c : api_Config} {s : api_Split} {x : api_State} (hn : NextOk s) (hb : hasM s x.E.Pos.Block = true) (h0 : x.Trap.Kind ≠ 0) :
    ((nextM s true x.E.Pos).2.2 = false → (turnE c s x).E.Done = x.E.Done ∧ ((turnE c s x).Trap = x.Trap ∨ (nextM s true x.E.Pos).2.1 < x.Trap.Step)) ∧
    ((nextM s true x.E.Pos).2.2 = true → (nextM s true x.E.Pos).2.1 ≥ x.Trap.Step → (turnE c s x).E.Done = x.E.Done ∧ (turnE c s x).Trap = x.Trap) ∧
    ((nextM s true x.E.Pos).2.2 = true → (nextM s true x.E.Pos).2.1 < x.Trap.Step → (turnE c s x).Trap = x.Trap ∨ (turnE c s x).Trap.Step < x.Trap.Step) := by
  by_cases hw : x.E.Halted = true ∨ x.E.Wait > x.Cycle
  · have e : turnE c s x = x := by
      unfold turnE
      rw [at_wait hw, if_pos (.inl rfl)]
    rw [e]
    exact ⟨fun _ => ⟨rfl, .inl rfl⟩, fun _ _ => ⟨rfl, rfl⟩, fun _ _ => .inl rfl⟩
  cases hf : (settleM s true x.E.Pos).2 with
  | true =>
    have hi := next_fell hf
    obtain ⟨h1, h2⟩ := at_fell hn hb hw hf
    have e : turnE c s x = (atE s x).2.2.2 := by
      unfold turnE
      rw [if_pos (.inl h1)]
    rw [e, h2, hi]
    refine ⟨fun _ => ?_, fun h => (Bool.noConfusion h), fun h => (Bool.noConfusion h)⟩
    by_cases hs : (nextM s true x.E.Pos).2.1 < x.Trap.Step
    · refine ⟨?_, .inr hs⟩
      unfold noteM
      split <;> rfl
    · rw [note_kept (x := { x with E := { x.E with Pos := (settleM s true x.E.Pos).1 } }) h0 hs]
      exact ⟨rfl, .inl rfl⟩
  | false =>
    have ha := at_cell hn hb hw hf
    cases hi : (nextM s true x.E.Pos).2.2 with
    | false =>
      have e : turnE c s x = { x with E := { x.E with Pos := (settleM s true x.E.Pos).1 } } := by
        unfold turnE
        rw [ha, if_pos (.inl (by simp only [hi, Bool.false_and]))]
      rw [e]
      exact ⟨fun _ => ⟨rfl, .inl rfl⟩, fun h => (Bool.noConfusion h), fun h => (Bool.noConfusion h)⟩
    | true =>
      refine ⟨fun h => (Bool.noConfusion h), fun _ hs => ?_, fun _ hs => ?_⟩
      · have e : turnE c s x = { x with E := { x.E with Pos := (settleM s true x.E.Pos).1 } } := by
          unfold turnE
          rw [ha, if_pos (.inl (show ((nextM s true x.E.Pos).2.2 && !stoppedM x (nextM s true x.E.Pos).2.1) = false by simp only [hi, stoppedM, dt (show x.Trap.Kind ≠ 0 ∧ (nextM s true x.E.Pos).2.1 ≥ x.Trap.Step from ⟨h0, hs⟩), Bool.true_and, Bool.not_true]))]
        rw [e]
        exact ⟨rfl, rfl⟩
      · unfold turnE
        rw [ha]
        split
        · exact .inl rfl
        · rcases act_Trap c s (nextM s true x.E.Pos).1 (nextM s true x.E.Pos).2.1 { x with E := { x.E with Pos := (settleM s true x.E.Pos).1 } } with h1 | h1
          · exact .inl h1
          · rw [h1]
            rcases note_step { x with E := { x.E with Pos := (settleM s true x.E.Pos).1 } } 3 (nextM s true x.E.Pos).2.1 (nextM s true x.E.Pos).1.2.2.2.1 with h2 | h2
            · exact .inl h2
            · exact .inr (by rw [h2]; exact hs)
theorem rightM_base {c : api_Config} {s : api_Split} {x : api_State} (h : rightM c s x = true) : I64 x.E.Pos.Base := by
  have := rightM_E h
  unfold sideM at this
  simp only [Bool.and_eq_true, allB, List.all_cons, List.all_nil, decide_eq_true_eq, most] at this
  have h2 := of_decide_eq_true this.2.2.1.1
  unfold I64; omega
theorem trap_same {a b : api_Trap} (h : a = b) : ((a.Kind == b.Kind) && ((a.Step == b.Step) && (a.Pc == b.Pc))) = true := by
  subst h; simp
theorem EpipeStops_true (c : api_Config) (p : api_Program) (pick : Int) (x : api_State) (h : Typed x) : l21_EpipeStops 20000 c p pick x = some (0, gB.dv true []) := by
  unfold l21_EpipeStops
  obtain ⟨s, ok, hs, hlen, hok⟩ := Splits_is (N := 20000) p pick (by omega)
  obtain ⟨b, hb, hfew⟩ := FewS_is (N := 20000) x
  simp only [alive_is, hs, Few_is, hb, on1_some, gg_dv, gg_nil, Bool.not_true, bi_false]
  generalize decide (p.Code.length ≤ 200 ∧ p.Data.length ≤ 500) = fp
  cases fp with
  | false => rfl
  | true =>
    cases b with
    | false => rfl
    | true =>
      cases ok with
      | false => rfl
      | true =>
        have hw := Wf.of h (hfew rfl)
        have hn := NextOk.of (hok rfl)
        simp only [Bool.not_true, bi_false, RightState_is c s x hw.toStOk (show 1001 < 20000 by omega), on1_some, gg_dv, gg_nil]
        cases hr : rightM c s x with
        | false => rfl
        | true =>
          by_cases h0 : x.Trap.Kind = 0
          · simp only [Bool.not_true, bi_false]
            rw [bt h0, bi_true]
          simp only [Bool.not_true, bi_false, bf h0]
          have ht := turn_Stops (c := c) (s := s) (x := x) hn (sideM_has (rightM_E hr)) h0
          simp only [r15_Next_is s true x.E.Pos (rightM_base hr) (show s.Blocks.length ≤ 100000 by omega) (show s.Blocks.length < 20000 by omega), Copy_is x hw, on1_some, gg_dv, gg_nil, Issue_E_is c s x hw (show s.Blocks.length ≤ 100000 by omega) (show s.Blocks.length < 20000 by omega) (show 1001 < 20000 by omega) hn]
          rw [show issueE c s x = turnE c s x from if_pos hr]
          generalize turnE c s x = y at *
          generalize nextM s true x.E.Pos = q at *
          obtain ⟨cell, step, is⟩ := q
          obtain ⟨t1, t2, t3⟩ := ht
          simp only at t1 t2 t3 ⊢
          cases is with
          | false =>
            obtain ⟨u1, u2⟩ := t1 rfl
            rw [Bool.not_false, bi_true, bt u1, bi_true]
            rcases u2 with u2 | u2
            · rw [trap_same u2, bi_true]
            · rw [bi_true, dt u2]
              cases ((y.Trap.Kind == x.Trap.Kind) && ((y.Trap.Step == x.Trap.Step) && (y.Trap.Pc == x.Trap.Pc))) <;> rfl
          | true =>
            rw [Bool.not_true, bi_false]
            by_cases hs : step ≥ x.Trap.Step
            · obtain ⟨u1, u2⟩ := t2 rfl hs
              rw [dt hs, bi_true, bt u1, bi_true, trap_same u2, bi_true]
            · rw [df hs, bi_false]
              rcases t3 rfl (by omega) with u2 | u2
              · rw [trap_same u2, bi_true]
              · rw [dt u2]
                cases ((y.Trap.Kind == x.Trap.Kind) && ((y.Trap.Step == x.Trap.Step) && (y.Trap.Pc == x.Trap.Pc))) <;> rfl
end Go.Proofs.Zz
