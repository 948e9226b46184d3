import Derived.Test.YtnfpdmhdpeffjaaGreatME
import Derived.KernelRfl
set_option linter.unusedSimpArgs false
set_option linter.unusedVariables false
/- A's turn and cycle: the program. -/
set_option linter.unusedVariables false
set_option linter.unusedSimpArgs false
namespace Go.Proofs.Zz
open Go
variable {N : Nat}
def actA (c : api_Config) (s : api_Split) (k : api_Cell) (st : Int) (x : api_State) : api_State :=
  if k.1 = 1 then doA c k st x
  else if k.1 = 2 ∨ k.1 = 3 then loadM c k st x
  else if k.1 = 4 then storeM c k st x
  else if k.1 = 5 then (if len x.Aeq < c.Aeq then { x with A := behindM x.A, Aeq := x.Aeq ++ [getM x.A k.2.2.1] } else x)
  else if k.1 = 9 then branchA s k c.Abq x
  else if k.1 = 10 then followA s x
  else if k.1 = 11 then { x with A := goD s x.Cycle x.A true }
  else if k.1 = 12 then { x with A := haltM x.A }
  else x
def turnA (c : api_Config) (s : api_Split) (x : api_State) : api_State :=
  if (atA s x).2.2.1 = false ∨ aheadM c s (atA s x).2.2.2 = true ∨ freeM (atA s x).2.2.2.A (atA s x).1 (atA s x).2.2.2.Cycle = false then (atA s x).2.2.2 else actA c s (atA s x).1 (atA s x).2.1 (atA s x).2.2.2
def issueA (c : api_Config) (s : api_Split) (x : api_State) : api_State := if rightM c s x = true then turnA c s x else x
/-- Lengths and words that A's turn asks for. -/
structure WfA (x : api_State) : Prop where
  mem : x.Mem.length ≤ 100000
  ldq : x.Ldq.length ≤ 900
  tab : x.Table.length ≤ 900
  saq : x.Saq.length ≤ 1000
  aeq : x.Aeq.length ≤ 1000
  abq : x.Abq.length ≤ 1000
  gA : ∀ r ∈ x.A.Regs, U32 r
theorem Act_A_is (c : api_Config) (s : api_Split) (k : api_Cell) (st : Int) (x : api_State) (h : WfA x) (hN2 : 1001 < N) :
    bi (k.1 == 1) (on1 (epipe_Do_A N c k st x) <| gg [p_api_State] <| fun (x9 : api_State) => some (0, g_api_State.dv x9 [])) (
    bi (k.1 == 2) (on1 (apipe_pipe_load N c s k st x) <| gg [p_api_Config, p_api_Split, p_api_Cell, pI, p_api_State] <| fun (x10 : api_Config) (x11 : api_Split) (x12 : api_Cell) (x13 : Int) (x14 : api_State) => some (0, g_api_State.dv x14 [])) (
    bi (k.1 == 3) (on1 (apipe_pipe_load N c s k st x) <| gg [p_api_Config, p_api_Split, p_api_Cell, pI, p_api_State] <| fun (x10 : api_Config) (x11 : api_Split) (x12 : api_Cell) (x13 : Int) (x14 : api_State) => some (0, g_api_State.dv x14 [])) (
    bi (k.1 == 4) (on1 (apipe_pipe_store N c s k st x) <| gg [p_api_Config, p_api_Split, p_api_Cell, pI, p_api_State] <| fun (x10 : api_Config) (x11 : api_Split) (x12 : api_Cell) (x13 : Int) (x14 : api_State) => some (0, g_api_State.dv x14 [])) (
    bi (k.1 == 5) (bi (decide ((len x.Aeq) < c.Aeq)) (on1 (epipe_Get N x.A k.2.2.1) <| gg [pW] <| fun (x25 : Int) => gd (rm x.Aeq [x25] 4) <| on1 (epipe_Behind_A N ({ x with Aeq := (x.Aeq ++ [x25]) } : api_State)) <| gg [p_api_State] <| fun (x26 : api_State) => some (0, g_api_State.dv x26 [])) (some (0, g_api_State.dv x []))) (
    bi (k.1 == 9) (on1 (epipe_Branch_A_Abq N s k c.Abq x) <| gg [p_api_State] <| fun (x27 : api_State) => some (0, g_api_State.dv x27 [])) (
    bi (k.1 == 10) (on1 (epipe_Follow_A_Ebq N s x) <| gg [p_api_State] <| fun (x28 : api_State) => some (0, g_api_State.dv x28 [])) (
    bi (k.1 == 11) (on1 (epipe_Go_A N s true x) <| gg [p_api_State] <| fun (x29 : api_State) => some (0, g_api_State.dv x29 [])) (
    bi (k.1 == 12) (on1 (epipe_Halt_A N x) <| gg [p_api_State] <| fun (x30 : api_State) => some (0, g_api_State.dv x30 [])) (
    some (0, g_api_State.dv x []))))))))))
    = some (0, g_api_State.dv (actA c s k st x) []) := by
  have hr : ∀ v : Int, rm x.Aeq [v] 4 = true := fun v => rmT (by have := h.aeq; simp; omega)
  simp only [Do_A_is c k st x h.gA, load_is c s k st x h.mem h.ldq h.tab h.saq hN2, store_is c s k st x h.mem h.saq, epipe_Get_is, epipe_Behind_A_is, Branch_A_is s k _ x h.abq, Follow_A_is, epipe_Go_A_is, epipe_Halt_A_is, on1_some, gg_dv, gg_nil, hr, gd_true]
  unfold actA
  simp only [bi_if, beq_iff_eq, decide_eq_true_eq]
  by_cases h1 : k.1 = 1
  · rw [if_pos h1, if_pos h1]
  rw [if_neg h1, if_neg h1]
  by_cases h2 : k.1 = 2
  · rw [if_pos h2, if_pos (.inl h2)]
  rw [if_neg h2]
  by_cases h3 : k.1 = 3
  · rw [if_pos h3, if_pos (.inr h3)]
  rw [if_neg h3, if_neg (show ¬ (k.1 = 2 ∨ k.1 = 3) by omega)]
  repeat' split
  all_goals rfl
theorem Turn_A_is (c : api_Config) (s : api_Split) (x : api_State) (h : WfA x) (hl : s.Blocks.length ≤ 100000) (hN : s.Blocks.length < N) (hN2 : 1001 < N) (hn : NextOk s) (hb : hasM s x.A.Pos.Block = true) :
    apipe_Turn N c s x = some (0, g_api_State.dv (turnA c s x) []) := by
  unfold apipe_Turn turnA
  simp only [At_A_is s x hl hN hn hb, on1_some, gg_dv, gg_nil, Ahead_is c s _ hl hN, epipe_Free_is _ _ _ hN2]
  have hw : WfA (atA s x).2.2.2 := by
    have e : (atA s x).2.2.2.Mem = x.Mem ∧ (atA s x).2.2.2.Ldq = x.Ldq ∧ (atA s x).2.2.2.Table = x.Table ∧ (atA s x).2.2.2.Saq = x.Saq ∧ (atA s x).2.2.2.Aeq = x.Aeq ∧ (atA s x).2.2.2.Abq = x.Abq ∧ (atA s x).2.2.2.A.Regs = x.A.Regs := by
      unfold atA noteM
      repeat' (first | split | exact ⟨rfl, rfl, rfl, rfl, rfl, rfl, rfl⟩ | simp only [])
    obtain ⟨e1, e2, e3, e4, e5, e6, e7⟩ := e
    exact ⟨by rw [e1]; exact h.mem, by rw [e2]; exact h.ldq, by rw [e3]; exact h.tab, by rw [e4]; exact h.saq, by rw [e5]; exact h.aeq, by rw [e6]; exact h.abq, by rw [e7]; exact h.gA⟩
  generalize atA s x = a at *
  obtain ⟨k, st, ok, y⟩ := a
  simp only at hw ⊢
  cases ok with
  | false => rw [if_pos (.inl rfl)]; rfl
  | true =>
    cases ha : aheadM c s y with
    | true => rw [if_pos (.inr (.inl rfl))]; rfl
    | false =>
      cases hf : freeM y.A k y.Cycle with
      | false => rw [if_pos (.inr (.inr rfl))]; rfl
      | true =>
        rw [if_neg (by simp)]
        simp only [Bool.not_true, bi_false]
        exact Act_A_is c s k st y hw hN2
theorem Issue_A_is (c : api_Config) (s : api_Split) (x : api_State) (h : Wf x) (hA : WfA x) (hl : s.Blocks.length ≤ 100000) (hN : s.Blocks.length < N) (hN2 : 1001 < N) (hn : NextOk s) :
    apipe_Issue N c s x = some (0, g_api_State.dv (issueA c s x) []) := by
  unfold apipe_Issue issueA
  simp only [Right_is c s x h.toStOk hN2, Clone_is x h, on1_some, gg_dv, gg_nil]
  cases hr : rightM c s x with
  | false => rfl
  | true =>
    rw [bi_true, Turn_A_is c s x hA hl hN hN2 hn (sideM_has (rightM_A hr)), on1_some, gg_dv, gg_nil]; rfl
end Go.Proofs.Zz
/- In a cycle A does one cell at most: the model's law. -/
set_option linter.unusedVariables false
set_option linter.unusedSimpArgs false
namespace Go.Proofs.Zz
open Go
variable {N : Nat}
/-- What A's cycle turns. -/
structure OneA (x y : api_State) : Prop where
  fr : y = { x with A := y.A, Ldq := y.Ldq, Aeq := y.Aeq, Abq := y.Abq, Ebq := y.Ebq, Saq := y.Saq, Table := y.Table, Trap := y.Trap, Tags := y.Tags }
  on : (y.A.Done = x.A.Done ∧ y.Aeq.length = x.Aeq.length ∧ y.Abq.length = x.Abq.length ∧ y.Ebq.length = x.Ebq.length ∧ y.Saq.length = x.Saq.length) ∨
    (y.A.Done = w.i64 (x.A.Done + 1) ∧ y.Ebq.length ≤ x.Ebq.length ∧ x.Aeq.length + x.Abq.length + x.Saq.length + y.Ebq.length ≤ y.Aeq.length + y.Abq.length + y.Saq.length + x.Ebq.length ∧
      y.Aeq.length + y.Abq.length + y.Saq.length + x.Ebq.length ≤ 1 + (x.Aeq.length + x.Abq.length + x.Saq.length + y.Ebq.length))
  tb : y.Table.length ≤ x.Table.length + 1
  tg : (y.Tags = x.Tags ∧ y.Ldq.length = x.Ldq.length) ∨ (y.Tags = w.i64 (x.Tags + 1) ∧ y.Ldq.length = x.Ldq.length + 1)
theorem OneA.refl (x : api_State) : OneA x x := ⟨rfl, .inl ⟨rfl, rfl, rfl, rfl, rfl⟩, by omega, .inl ⟨rfl, rfl⟩⟩
theorem note_OneA (x : api_State) (k st pc : Int) : OneA x (noteM x k st pc) := by
  unfold noteM
  split
  · exact ⟨rfl, .inl ⟨rfl, rfl, rfl, rfl, rfl⟩, by simp only; omega, .inl ⟨rfl, rfl⟩⟩
  · exact OneA.refl x
/-- One cell is done, and nothing but the side, the reserve and the requests is turned. -/
theorem side_OneA {x : api_State} {d : api_Side} (h : d.Done = w.i64 (x.A.Done + 1)) : OneA x { x with A := d } :=
  ⟨rfl, .inr ⟨h, by simp only; omega, by simp only; omega, by simp only; omega⟩, by simp only; omega, .inl ⟨rfl, rfl⟩⟩
theorem do_OneA (c : api_Config) (k : api_Cell) (st : Int) (x : api_State) : OneA x (doA c k st x) := by
  unfold doA
  split
  · exact side_OneA (by simp only [behindM, setM_done])
  · exact note_OneA _ _ _ _
theorem branch_OneA (s : api_Split) (k : api_Cell) (n : Int) (x : api_State) : OneA x (branchA s k n x) := by
  unfold branchA
  split
  · exact OneA.refl x
  · exact ⟨rfl, .inr ⟨rfl, by simp only; omega, by simp only [List.length_append, List.length_cons, List.length_nil]; omega, by simp only [List.length_append, List.length_cons, List.length_nil]; omega⟩, by simp only; omega, .inl ⟨rfl, rfl⟩⟩
theorem follow_OneA (s : api_Split) (x : api_State) : OneA x (followA s x) := by
  unfold followA
  split
  · exact OneA.refl x
  · exact ⟨rfl, .inr ⟨rfl, by simp only [List.length_drop]; omega, by simp only [List.length_drop]; omega, by simp only [List.length_drop]; omega⟩, by simp only; omega, .inl ⟨rfl, rfl⟩⟩
theorem take_OneA (c : api_Config) (k : api_Cell) (v : Int) (x : api_State) : OneA x (takeM c k v x) := by
  unfold takeM
  split
  · exact side_OneA (by simp only [behindM, setM_done])
  · split
    · rename_i h
      unfold resM
      rw [if_pos h]
      exact ⟨rfl, .inr ⟨rfl, by simp only; omega, by simp only; omega, by simp only; omega⟩, by simp only; omega, .inr ⟨rfl, by simp only [fillM_len, List.length_append, List.length_cons, List.length_nil]⟩⟩
    · exact OneA.refl x
theorem ask_OneA (c : api_Config) (k : api_Cell) (a : Int) (x : api_State) : OneA x (askM c k a x) := by
  unfold askM
  split
  · split
    · rename_i h
      unfold resM
      rw [if_pos h]
      exact ⟨rfl, .inr ⟨rfl, by simp only; omega, by simp only; omega, by simp only; omega⟩, by simp only [List.length_append, List.length_cons, List.length_nil]; omega, .inr ⟨rfl, by simp only [List.length_append, List.length_cons, List.length_nil]⟩⟩
    · exact OneA.refl x
  · split <;> exact ⟨rfl, .inr ⟨rfl, by simp only; omega, by simp only; omega, by simp only; omega⟩, by simp only [List.length_append, List.length_cons, List.length_nil]; omega, .inl ⟨rfl, rfl⟩⟩
theorem load_OneA (c : api_Config) (k : api_Cell) (st : Int) (x : api_State) : OneA x (loadM c k st x) := by
  unfold loadM
  split
  · exact note_OneA _ _ _ _
  split
  · split
    · exact take_OneA _ _ _ _
    · exact OneA.refl x
  split
  · exact ask_OneA _ _ _ _
  · exact OneA.refl x
theorem store_OneA (c : api_Config) (k : api_Cell) (st : Int) (x : api_State) : OneA x (storeM c k st x) := by
  unfold storeM
  split
  · exact note_OneA _ _ _ _
  split
  · exact ⟨rfl, .inr ⟨rfl, by simp only; omega, by simp only [List.length_append, List.length_cons, List.length_nil]; omega, by simp only [List.length_append, List.length_cons, List.length_nil]; omega⟩, by simp only; omega, .inl ⟨rfl, rfl⟩⟩
  · exact OneA.refl x
theorem act_OneA (c : api_Config) (s : api_Split) (k : api_Cell) (st : Int) (x : api_State) : OneA x (actA c s k st x) := by
  unfold actA
  split
  · exact do_OneA _ _ _ _
  split
  · exact load_OneA _ _ _ _
  split
  · exact store_OneA _ _ _ _
  split
  · split
    · exact ⟨rfl, .inr ⟨rfl, by simp only; omega, by simp only [List.length_append, List.length_cons, List.length_nil]; omega, by simp only [List.length_append, List.length_cons, List.length_nil]; omega⟩, by simp only; omega, .inl ⟨rfl, rfl⟩⟩
    · exact OneA.refl x
  split
  · exact branch_OneA _ _ _ _
  split
  · exact follow_OneA _ _
  split
  · exact side_OneA rfl
  split
  · exact side_OneA rfl
  · exact OneA.refl x
end Go.Proofs.Zz
/- In a cycle A does one cell at most: the reference law's answer. -/
set_option linter.unusedVariables false
set_option linter.unusedSimpArgs false
namespace Go.Proofs.Zz
open Go
variable {N : Nat}
structure CameA (x y : api_State) : Prop where
  fr : y = { x with A := y.A, Trap := y.Trap }
  a : y.A = { x.A with Pos := y.A.Pos }
theorem at_CameA (s : api_Split) (x : api_State) : CameA x (atA s x).2.2.2 := by
  unfold atA
  split
  · exact ⟨rfl, rfl⟩
  · simp only []
    split
    · unfold noteM
      split <;> exact ⟨rfl, rfl⟩
    · exact ⟨rfl, rfl⟩
theorem CameA.one {x y z : api_State} (h : CameA x y) (h2 : OneA y z) : OneA x z := by
  obtain ⟨h1, h3⟩ := h
  obtain ⟨h4, h5, h6, h7⟩ := h2
  have e1 : y.A.Done = x.A.Done := by rw [h3]
  have e2 : y.Aeq = x.Aeq := by rw [h1]
  have e3 : y.Abq = x.Abq := by rw [h1]
  have e4 : y.Ebq = x.Ebq := by rw [h1]
  have e5 : y.Saq = x.Saq := by rw [h1]
  have e6 : y.Table = x.Table := by rw [h1]
  have e7 : y.Ldq = x.Ldq := by rw [h1]
  have e8 : y.Tags = x.Tags := by rw [h1]
  refine ⟨?_, by rw [e1, e2, e3, e4, e5] at h5; exact h5, by rw [e6] at h6; exact h6, by rw [e7, e8] at h7; exact h7⟩
  rw [h4, h1]
theorem turn_OneA (c : api_Config) (s : api_Split) (x : api_State) : OneA x (turnA c s x) := by
  unfold turnA
  split
  · exact (at_CameA s x).one (OneA.refl _)
  · exact (at_CameA s x).one (act_OneA _ _ _ _ _)
theorem alive22_is : l22_alive 20000 = some (0, gB.dv true []) := by kernel_rfl
theorem WfA.of {x : api_State} (h : Typed x) (hf : FewS x) : WfA x := by
  obtain ⟨f1, f2, f3, f4, f5, f6, f7, f8, f9⟩ := hf
  exact ⟨by omega, by omega, by omega, by omega, by omega, by omega, h.gA⟩
theorem rightM_doneA {c : api_Config} {s : api_Split} {x : api_State} (h : rightM c s x = true) : 0 ≤ x.A.Done ∧ x.A.Done ≤ 1099511627776 := by
  have := rightM_A h
  unfold sideM at this
  simp only [Bool.and_eq_true, allB, List.all_cons, List.all_nil, decide_eq_true_eq, most] at this
  exact of_decide_eq_true this.2.2.1.2.2.1
end Go.Proofs.Zz
/- ApipeOne: the reference law's answer. -/
set_option linter.unusedVariables false
set_option linter.unusedSimpArgs false
namespace Go.Proofs.Zz
open Go
variable {N : Nat}
theorem rightM_tags {c : api_Config} {s : api_Split} {x : api_State} (h : rightM c s x = true) : 0 ≤ x.Tags ∧ x.Tags ≤ 1099511627776 := by
  unfold rightM at h
  simp only [Bool.and_eq_true, allB, List.all_cons, List.all_nil, decide_eq_true_eq, most] at h
  exact of_decide_eq_true h.2.2.2.1.2.2.2.1
theorem w7 {a b c d e f g h : Int} (ha : 0 ≤ a ∧ a ≤ 100000) (hb : 0 ≤ b ∧ b ≤ 100000) (hc : 0 ≤ c ∧ c ≤ 100000) (hd : 0 ≤ d ∧ d ≤ 100000) (he : 0 ≤ e ∧ e ≤ 100000) (hf : 0 ≤ f ∧ f ≤ 100000) (hg : 0 ≤ g ∧ g ≤ 100000) (hh : 0 ≤ h ∧ h ≤ 100000) :
    w.i64 (w.i64 (w.i64 (w.i64 (w.i64 (w.i64 (w.i64 (a - b) + c) - d) + e) - f) + g) - h) = a - b + c - d + e - f + g - h := by
  rw [wI (x := a - b) (by omega) (by omega), wI (x := a - b + c) (by omega) (by omega), wI (x := a - b + c - d) (by omega) (by omega), wI (x := a - b + c - d + e) (by omega) (by omega), wI (x := a - b + c - d + e - f) (by omega) (by omega), wI (x := a - b + c - d + e - f + g) (by omega) (by omega), wI (by omega) (by omega)]
theorem ApipeOne_true (c : api_Config) (p : api_Program) (pick : Int) (x : api_State) (h : Typed x) : l22_ApipeOne 20000 c p pick x = some (0, gB.dv true []) := by
  unfold l22_ApipeOne
  obtain ⟨s, ok, hs, hlen, hok⟩ := Splits_is (N := 20000) p pick (by omega)
  obtain ⟨b, hb, hfew⟩ := FewS_is (N := 20000) x
  simp only [alive22_is, hs, Few_is, hb, on1_some, gg_dv, gg_nil, Bool.not_true, bi_false]
  generalize decide (p.Code.length ≤ 200 ∧ p.Data.length ≤ 500) = fp
  cases fp with
  | false => rfl
  | true =>
    cases b with
    | false => rfl
    | true =>
      cases ok with
      | false => rfl
      | true =>
        have hw := Wf.of h (hfew rfl)
        have hA := WfA.of h (hfew rfl)
        have hn := NextOk.of (hok rfl)
        simp only [Bool.not_true, bi_false, RightState_is c s x hw.toStOk (show 1001 < 20000 by omega), on1_some, gg_dv, gg_nil]
        cases hr : rightM c s x with
        | false => rfl
        | true =>
          have ho := turn_OneA c s x
          have hd := rightM_doneA hr
          have hg := rightM_tags hr
          simp only [Bool.not_true, bi_false, Copy_is x hw, on1_some, gg_dv, gg_nil, Issue_A_is c s x hw hA (by omega) (by omega) (show 1001 < 20000 by omega) hn]
          rw [show issueA c s x = turnA c s x from if_pos hr]
          generalize turnA c s x = y at *
          obtain ⟨fr, on, tb, tg⟩ := ho
          have hz : ({ x with Cycle := y.Cycle, E := y.E, Sdq := y.Sdq, Mem := y.Mem, Writes := y.Writes, Lats := y.Lats, Picks := y.Picks } : api_State) = x := by rw [fr]
          rw [hz, SameState_same x hw (by omega), on1_some, gg_dv, gg_nil, bi_true]
          obtain ⟨f1, f2, f3, f4, f5, f6, f7, f8, f9⟩ := hfew rfl
          have c1 : y.Aeq.length ≤ 10000 ∧ y.Abq.length ≤ 10000 ∧ y.Ebq.length ≤ 10000 ∧ y.Saq.length ≤ 10000 ∧ y.Table.length ≤ 10000 ∧ y.Ldq.length ≤ 10000 := by omega
          simp only [len]
          rw [w7 (by omega) (by omega) (by omega) (by omega) (by omega) (by omega) (by omega) (by omega), wI (x := (x.Table.length : Int) + 1) (by omega) (by omega), wI (x := (y.Ldq.length : Int) - x.Ldq.length) (by omega) (by omega)]
          have g3 : w.i64 (x.A.Done + 1) = x.A.Done + 1 := wI (by omega) (by omega)
          have g4 : w.i64 (x.Tags + 1) = x.Tags + 1 := wI (by omega) (by omega)
          rw [g4] at tg
          rw [g3] at on
          have ht : (w.i64 (y.Tags - x.Tags) == (y.Ldq.length : Int) - x.Ldq.length) = true := by
            rw [wI (x := y.Tags - x.Tags) (by omega) (by omega)]
            exact bt (by omega)
          have hn0 : (y.Aeq.length : Int) - x.Aeq.length + y.Abq.length - x.Abq.length + x.Ebq.length - y.Ebq.length + y.Saq.length - x.Saq.length ≥ 0 := by omega
          have hdn : w.i64 (y.A.Done - x.A.Done) = y.A.Done - x.A.Done := wI (by omega) (by omega)
          rw [hdn, g3, ht, dt hn0, dt (show (y.Aeq.length : Int) - x.Aeq.length + y.Abq.length - x.Abq.length + x.Ebq.length - y.Ebq.length + y.Saq.length - x.Saq.length ≤ y.A.Done - x.A.Done by omega), dt (show (y.Table.length : Int) ≤ x.Table.length + 1 by omega)]
          rcases on with ⟨g1, _⟩ | ⟨g1, _⟩
          · rw [bt g1]; rfl
          · rw [bf (show y.A.Done ≠ x.A.Done by omega), bt g1]; rfl
end Go.Proofs.Zz
