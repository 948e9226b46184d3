import Derived.Test.YtnfpdmhdpeffjaaGreatM10
set_option linter.unusedSimpArgs false
set_option linter.unusedVariables false
/- In a cycle E does one cell at most: the model's law, and the reference law's answer. -/
set_option linter.unusedVariables false
set_option linter.unusedSimpArgs false
namespace Go.Proofs.Zz
open Go
variable {N : Nat}
/-- What E's cycle turns: its side, queues, the trap; by one cell at most. -/
structure One (x y : api_State) : Prop where
  fr : y = { x with E := y.E, Ldq := y.Ldq, Sdq := y.Sdq, Aeq := y.Aeq, Abq := y.Abq, Ebq := y.Ebq, Trap := y.Trap }
  on : (y.E.Done = x.E.Done ∧ y.Sdq.length = x.Sdq.length ∧ y.Ebq.length = x.Ebq.length ∧ y.Aeq.length = x.Aeq.length ∧ y.Abq.length = x.Abq.length ∧ y.Ldq.length = x.Ldq.length) ∨
    (y.E.Done = w.i64 (x.E.Done + 1) ∧ x.Sdq.length + x.Ebq.length ≤ y.Sdq.length + y.Ebq.length ∧ y.Aeq.length + y.Abq.length + y.Ldq.length ≤ x.Aeq.length + x.Abq.length + x.Ldq.length ∧
      y.Sdq.length + y.Ebq.length + (x.Aeq.length + x.Abq.length + x.Ldq.length) ≤ 1 + (x.Sdq.length + x.Ebq.length) + (y.Aeq.length + y.Abq.length + y.Ldq.length))
theorem setM_done (d : api_Side) (r v y : Int) : (setM d r v y).Done = d.Done := by unfold setM; split <;> rfl
theorem One.refl (x : api_State) : One x x := ⟨rfl, .inl ⟨rfl, rfl, rfl, rfl, rfl, rfl⟩⟩
theorem note_One (x : api_State) (k st pc : Int) : One x (noteM x k st pc) := by
  unfold noteM
  split
  · exact ⟨rfl, .inl ⟨rfl, rfl, rfl, rfl, rfl, rfl⟩⟩
  · exact One.refl x
theorem popM_len {l : List api_Slot} (h : (popM l).2.2 ≠ false) : (popM l).1.length + 1 = l.length := by
  unfold popM at *
  split
  · rename_i h2; rw [if_pos h2] at h; simp at h
  · rename_i h2; simp only [List.length_drop]; omega
theorem act_One (c : api_Config) (s : api_Split) (k : api_Cell) (st : Int) (x : api_State) : One x (actE c s k st x) := by
  unfold actE
  split
  · split
    · exact ⟨rfl, .inr ⟨by simp only [behindM, setM_done], by simp only; omega, by simp only; omega, by simp only; omega⟩⟩
    · exact note_One _ _ _ _
  split
  · split
    · exact One.refl x
    · exact ⟨rfl, .inr ⟨by simp only [behindM, setM_done], by simp only; omega, by simp only [List.length_drop]; omega, by simp only [List.length_drop]; omega⟩⟩
  split
  · split
    · exact One.refl x
    · rename_i h
      have := popM_len h
      exact ⟨rfl, .inr ⟨by simp only [behindM, setM_done], by simp only; omega, by simp only; omega, by simp only; omega⟩⟩
  split
  · split
    · exact ⟨rfl, .inr ⟨rfl, by simp only [List.length_append, List.length_cons, List.length_nil]; omega, by simp only; omega, by simp only [List.length_append, List.length_cons, List.length_nil]; omega⟩⟩
    · exact One.refl x
  split
  · split
    · exact One.refl x
    · exact ⟨rfl, .inr ⟨rfl, by simp only [List.length_append, List.length_cons, List.length_nil]; omega, by simp only; omega, by simp only [List.length_append, List.length_cons, List.length_nil]; omega⟩⟩
  split
  · split
    · exact One.refl x
    · exact ⟨rfl, .inr ⟨rfl, by simp only; omega, by simp only [List.length_drop]; omega, by simp only [List.length_drop]; omega⟩⟩
  split
  · exact ⟨rfl, .inr ⟨rfl, by simp only; omega, by simp only; omega, by simp only; omega⟩⟩
  split
  · exact ⟨rfl, .inr ⟨rfl, by simp only; omega, by simp only; omega, by simp only; omega⟩⟩
  · exact One.refl x
/-- What E's coming to its cell turns: its place, the trap. -/
structure Came (x y : api_State) : Prop where
  fr : y = { x with E := y.E, Trap := y.Trap }
  e : y.E = { x.E with Pos := y.E.Pos }
theorem at_Came (s : api_Split) (x : api_State) : Came x (atE s x).2.2.2 := by
  unfold atE
  split
  · exact ⟨rfl, rfl⟩
  · simp only []
    split
    · unfold noteM
      split <;> exact ⟨rfl, rfl⟩
    · exact ⟨rfl, rfl⟩
theorem Came.one {x y z : api_State} (h : Came x y) (h2 : One y z) : One x z := by
  obtain ⟨h1, h3⟩ := h
  obtain ⟨h4, h5⟩ := h2
  have e1 : y.E.Done = x.E.Done := by rw [h3]
  have e2 : y.Sdq = x.Sdq := by rw [h1]
  have e3 : y.Ebq = x.Ebq := by rw [h1]
  have e4 : y.Aeq = x.Aeq := by rw [h1]
  have e5 : y.Abq = x.Abq := by rw [h1]
  have e6 : y.Ldq = x.Ldq := by rw [h1]
  refine ⟨?_, by rw [e1, e2, e3, e4, e5, e6] at h5; exact h5⟩
  rw [h4, h1]
theorem turn_One (c : api_Config) (s : api_Split) (x : api_State) : One x (turnE c s x) := by
  unfold turnE
  split
  · exact (at_Came s x).one (One.refl _)
  · exact (at_Came s x).one (act_One _ _ _ _ _)
theorem rightM_done {c : api_Config} {s : api_Split} {x : api_State} (h : rightM c s x = true) : 0 ≤ x.E.Done ∧ x.E.Done ≤ 1099511627776 := by
  have := rightM_E h
  unfold sideM at this
  simp only [Bool.and_eq_true, allB, List.all_cons, List.all_nil, decide_eq_true_eq, most] at this
  exact of_decide_eq_true this.2.2.1.2.2.1
theorem EpipeOne_true (c : api_Config) (p : api_Program) (pick : Int) (x : api_State) (h : Typed x) : l21_EpipeOne 20000 c p pick x = some (0, gB.dv true []) := by
  unfold l21_EpipeOne
  obtain ⟨s, ok, hs, hlen, hok⟩ := Splits_is (N := 20000) p pick (by omega)
  obtain ⟨b, hb, hfew⟩ := FewS_is (N := 20000) x
  simp only [alive_is, hs, Few_is, hb, on1_some, gg_dv, gg_nil, Bool.not_true, bi_false]
  generalize decide (p.Code.length ≤ 200 ∧ p.Data.length ≤ 500) = fp
  cases fp with
  | false => rfl
  | true =>
    cases b with
    | false => rfl
    | true =>
      cases ok with
      | false => rfl
      | true =>
        have hw := Wf.of h (hfew rfl)
        have hn := NextOk.of (hok rfl)
        simp only [Bool.not_true, bi_false, RightState_is c s x hw.toStOk (show 1001 < 20000 by omega), on1_some, gg_dv, gg_nil]
        cases hr : rightM c s x with
        | false => rfl
        | true =>
          have ho := turn_One c s x
          have hd := rightM_done hr
          simp only [Bool.not_true, bi_false, Copy_is x hw, on1_some, gg_dv, gg_nil, Issue_E_is c s x hw (by omega) (by omega) (show 1001 < 20000 by omega) hn]
          rw [show issueE c s x = turnE c s x from if_pos hr]
          generalize turnE c s x = y at *
          obtain ⟨fr, on⟩ := ho
          have hz : ({ y with E := x.E, Ldq := x.Ldq, Sdq := x.Sdq, Aeq := x.Aeq, Abq := x.Abq, Ebq := x.Ebq, Trap := x.Trap } : api_State) = x := by rw [fr]
          rw [hz, SameState_same x hw (by omega), on1_some, gg_dv, gg_nil, bi_true]
          have b1 := hw.sdq; have b2 := hw.ebq; have b3 := hw.aeq; have b4 := hw.abq; have b5 := hw.ldq
          have c1 : y.Sdq.length ≤ 10000 ∧ y.Ebq.length ≤ 10000 ∧ y.Aeq.length ≤ 10000 ∧ y.Abq.length ≤ 10000 ∧ y.Ldq.length ≤ 10000 := by omega
          simp only [len]
          rw [w3 (by omega) (by omega) (by omega) (by omega), w5 (by omega) (by omega) (by omega) (by omega) (by omega) (by omega)]
          rw [wI (x := (y.Sdq.length : Int) - x.Sdq.length + y.Ebq.length - x.Ebq.length + (x.Aeq.length - y.Aeq.length + x.Abq.length - y.Abq.length + x.Ldq.length - y.Ldq.length)) (by omega) (by omega)]
          rcases on with ⟨g1, g2⟩ | ⟨g1, g2⟩
          · rw [bt g1, bi_true, dt (show (y.Sdq.length : Int) - x.Sdq.length + y.Ebq.length - x.Ebq.length ≥ 0 by omega), bi_true, dt (show (x.Aeq.length : Int) - y.Aeq.length + x.Abq.length - y.Abq.length + x.Ldq.length - y.Ldq.length ≥ 0 by omega), bi_true]
            refine retB ?_
            rw [g1, Int.sub_self, wI (x := 0) (by omega) (by omega)]
            exact dt (by omega)
          · have g3 : w.i64 (x.E.Done + 1) = x.E.Done + 1 := wI (by omega) (by omega)
            rw [g3] at g1 ⊢
            rw [bf (show y.E.Done ≠ x.E.Done by omega), bt g1, bi_false, bi_true, dt (show (y.Sdq.length : Int) - x.Sdq.length + y.Ebq.length - x.Ebq.length ≥ 0 by omega), bi_true, dt (show (x.Aeq.length : Int) - y.Aeq.length + x.Abq.length - y.Abq.length + x.Ldq.length - y.Ldq.length ≥ 0 by omega), bi_true]
            refine retB ?_
            rw [g1, wI (x := x.E.Done + 1 - x.E.Done) (by omega) (by omega)]
            exact dt (by omega)
end Go.Proofs.Zz
