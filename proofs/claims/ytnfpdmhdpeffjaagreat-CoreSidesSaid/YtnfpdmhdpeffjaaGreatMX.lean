import Derived.Test.YtnfpdmhdpeffjaaGreatMC
import Derived.Test.YtnfpdmhdpeffjaaGreatNA
set_option linter.unusedSimpArgs false
set_option linter.unusedVariables false
/- What E does in a cycle: the program answers as the model says. -/
set_option linter.unusedVariables false
set_option linter.unusedSimpArgs false
namespace Go.Proofs.Zz
open Go
variable {N : Nat}
/-- States small enough; registers are words. -/
structure Wf (x : api_State) : Prop extends StOk x where
  ldq : x.Ldq.length ≤ 1000
  sdq : x.Sdq.length ≤ 1000
  aeq : x.Aeq.length ≤ 1000
  abq : x.Abq.length ≤ 1000
  ebq : x.Ebq.length ≤ 1000
  wri : x.Writes.length ≤ 1000
  gA : ∀ r ∈ x.A.Regs, U32 r
  gE : ∀ r ∈ x.E.Regs, U32 r
theorem getM_U32 {d : api_Side} (h : ∀ r ∈ d.Regs, U32 r) (r : Int) : U32 (getM d r) := by
  unfold getM
  split
  · rw [List.getD_eq_getElem?_getD]
    by_cases hi : r.toNat < d.Regs.length
    · rw [List.getElem?_eq_getElem hi, Option.getD_some]; exact h _ (List.getElem_mem hi)
    · rw [List.getElem?_eq_none (by omega)]; exact ⟨by simp, by simp⟩
  · exact ⟨by simp, by simp⟩
theorem Trap_is (k st pc : Int) (x : api_State) : epipe_Trap N k st pc x = some (0, g_api_State.dv (noteM x k st pc) []) := by
  unfold epipe_Trap noteM
  by_cases h : x.Trap.Kind = 0
  · rw [bt h, if_pos (.inl h)]; rfl
  · rw [bf h, bi_false]
    by_cases h2 : x.Trap.Step > st
    · rw [dt h2, if_pos (.inr h2)]; rfl
    · rw [df h2, if_neg (by omega)]; rfl
theorem Stopped_is (x : api_State) (st : Int) : epipe_Stopped N x st = some (0, gB.dv (stoppedM x st) []) := by
  unfold epipe_Stopped stoppedM
  simp only [bi_and]
  refine retB ?_
  rw [Bool.eq_iff_iff]; simp only [Bool.and_eq_true, bne_iff_ne, decide_eq_true_eq]
theorem rm0 {α : Type} {l : List α} {n : Nat} (h : l.length * n ≤ 35184372088832) : rm [] l n = true := rmT (by simpa using h)
theorem Clone_is (x : api_State) (h : Wf x) : state_Clone N x = some (0, g_api_State.dv x []) := by
  unfold state_Clone sl_Clone_api_Slot sl_Clone_uint32 sl_Clone_bool sl_Clone_api_Entry sl_Clone_api_Request sl_Clone_byte sl_Clone_api_Write
  have h1 := h.ldq; have h2 := h.sdq; have h3 := h.aeq; have h4 := h.abq; have h5 := h.ebq; have h6 := h.saq; have h7 := h.tab; have h8 := h.mem; have h9 := h.wri
  simp only [rm0 (l := x.Ldq) (n := 16) (by omega), rm0 (l := x.Sdq) (n := 4) (by omega), rm0 (l := x.Aeq) (n := 4) (by omega), rm0 (l := x.Abq) (n := 1) (by omega), rm0 (l := x.Ebq) (n := 1) (by omega), rm0 (l := x.Saq) (n := 32) (by omega), rm0 (l := x.Table) (n := 64) (by omega), rm0 (l := x.Mem) (n := 1) (by omega), rm0 (l := x.Writes) (n := 24) (by omega), gd_true, on1_some, gg_dv, gg_nil, List.nil_append]
/-! The load queue's first -/
def popM (l : List api_Slot) : List api_Slot × Int × Bool := if l.length = 0 ∨ (l.getD 0 api_Slot.z).2.1 = false then (l, 0, false) else (l.drop 1, (l.getD 0 api_Slot.z).2.2.1, true)
theorem sb_1 {α : Type} {l : List α} (h : l.length ≠ 0) : sb 1 (len l) = true := dt (by simp only [len]; omega)
theorem len0 {α : Type} {l : List α} : (len l == 0) = decide (l.length = 0) := by
  rw [Bool.eq_iff_iff, beq_iff_eq, decide_eq_true_eq]; simp only [len]; omega
theorem Pop_is (l : List api_Slot) (h : l.length ≤ 1000) : slots_Pop N l = some (0, (gD (.sl t_api_Slot)).dv (popM l).1 (gW.dv (popM l).2.1 (gB.dv (popM l).2.2 []))) := by
  unfold slots_Pop sl_Clone_api_Slot popM
  rw [rm0 (by omega), gd_true, List.nil_append, on1_some, gg_dv, gg_nil, len0]
  by_cases h0 : l.length = 0
  · rw [dt h0, if_pos (.inl h0)]; rfl
  · rw [df h0, bi_false, idx_t (i := 0) (by omega) (by omega), gd_true]
    cases hf : (l.getD 0 api_Slot.z).2.1 with
    | false => rw [if_pos (.inr rfl)]; rfl
    | true => rw [if_neg (by simp [h0]), sb_1 h0]; rfl
/-! E's cell, and what it does -/
def atE (s : api_Split) (x : api_State) : api_Cell × Int × Bool × api_State :=
  if x.E.Halted = true ∨ x.E.Wait > x.Cycle then (api_Cell.z, 0, false, x)
  else
    let p := settleM s true x.E.Pos
    let x1 : api_State := { x with E := { x.E with Pos := p.1 } }
    let x2 := if p.2 = true then noteM x1 4 (nextM s true p.1).2.1 (blockM s p.1.Block).2.1 else x1
    ((nextM s true p.1).1, (nextM s true p.1).2.1, (nextM s true p.1).2.2 && !stoppedM x2 (nextM s true p.1).2.1, x2)
def actE (c : api_Config) (s : api_Split) (k : api_Cell) (st : Int) (x : api_State) : api_State :=
  if k.1 = 1 then
    if (doM k.2.1 (getM x.E k.2.1.2.2.1) (getM x.E k.2.1.2.2.2.1)).2 = true then
      { x with E := behindM (setM x.E k.2.1.2.1 (doM k.2.1 (getM x.E k.2.1.2.2.1) (getM x.E k.2.1.2.2.2.1)).1 (w.i64 (x.Cycle + latM c k.2.1.1))) }
    else noteM x 3 st k.2.2.2.1
  else if k.1 = 6 then
    if x.Aeq.length = 0 then x else { x with E := behindM (setM x.E k.2.2.1 (x.Aeq.getD 0 0) (w.i64 (x.Cycle + 1))), Aeq := x.Aeq.drop 1 }
  else if k.1 = 7 then
    if (popM x.Ldq).2.2 = false then x else { x with E := behindM (setM x.E k.2.1.2.1 (popM x.Ldq).2.1 (w.i64 (x.Cycle + 1))), Ldq := (popM x.Ldq).1 }
  else if k.1 = 8 then
    if len x.Sdq < c.Sdq then { x with E := behindM x.E, Sdq := x.Sdq ++ [getM x.E k.2.2.1] } else x
  else if k.1 = 9 then
    if len x.Ebq ≥ c.Ebq then x else { x with E := goD s x.Cycle x.E (takenM k.2.1.1 (getM x.E k.2.1.2.2.1) (getM x.E k.2.1.2.2.2.1)), Ebq := x.Ebq ++ [takenM k.2.1.1 (getM x.E k.2.1.2.2.1) (getM x.E k.2.1.2.2.2.1)] }
  else if k.1 = 10 then
    if x.Abq.length = 0 then x else { x with E := goD s x.Cycle x.E (x.Abq.getD 0 false), Abq := x.Abq.drop 1 }
  else if k.1 = 11 then { x with E := goD s x.Cycle x.E true }
  else if k.1 = 12 then { x with E := haltM x.E }
  else x
def turnE (c : api_Config) (s : api_Split) (x : api_State) : api_State :=
  if (atE s x).2.2.1 = false ∨ freeM (atE s x).2.2.2.E (atE s x).1 (atE s x).2.2.2.Cycle = false then (atE s x).2.2.2 else actE c s (atE s x).1 (atE s x).2.1 (atE s x).2.2.2
/-- Each block's next one is behind it, if there is one. -/
def NextOk (s : api_Split) : Prop := ∀ b : Int, hasM s b = true → (blockM s b).2.2.1 < 0 ∨ (b < (blockM s b).2.2.1 ∧ hasM s (blockM s b).2.2.1 = true)
theorem settleN_has {s : api_Split} (h : NextOk s) (e : Bool) : ∀ (n : Nat) (p : api_Pos), hasM s p.Block = true → hasM s (settleN s e n p).1.Block = true
  | 0, p, hp => hp
  | n + 1, p, hp => by
    unfold settleN
    rw [if_neg (by rw [hp]; simp)]
    split
    · exact hp
    · split
      · exact hp
      · rename_i h3
        exact settleN_has h e n _ ((h _ hp).resolve_left h3).2
theorem At_E_is (s : api_Split) (x : api_State) (hl : s.Blocks.length ≤ 100000) (hN : s.Blocks.length < N) (hn : NextOk s) (hb : hasM s x.E.Pos.Block = true) :
    epipe_At_E N s true x = some (0, g_api_Cell.dv (atE s x).1 (gI.dv (atE s x).2.1 (gB.dv (atE s x).2.2.1 (g_api_State.dv (atE s x).2.2.2 [])))) := by
  unfold epipe_At_E atE
  cases hh : x.E.Halted with
  | true => rw [if_pos (.inl rfl)]; rfl
  | false =>
    by_cases hw : x.E.Wait > x.Cycle
    · rw [dt hw, if_pos (.inr hw)]; rfl
    · rw [df hw, if_neg (by simp [hw]), bi_false, bi_false]
      have hs := settleN_has hn true s.Blocks.length x.E.Pos hb
      rw [show settleN s true s.Blocks.length x.E.Pos = settleM s true x.E.Pos from rfl] at hs
      simp only [front_Settle_is s true x.E.Pos hl hN, on1_some, gg_dv, gg_nil, front_Next_is s true _ hl hN, Trap_is, Stopped_is]
      generalize settleM s true x.E.Pos = p at *
      obtain ⟨p, f⟩ := p
      rw [show s.Blocks.getD p.Block.toNat api_Block.z = blockM s p.Block from rfl, has_idx hs]
      cases f with
      | true =>
        simp only [bi_true, gd_true, if_true]
        cases (nextM s true p).2.2 <;> rfl
      | false =>
        simp only [bi_false, Bool.false_eq_true, if_false]
        cases (nextM s true p).2.2 <;> rfl
theorem Do_E_is (c : api_Config) (k : api_Cell) (st : Int) (x : api_State) (h : ∀ r ∈ x.E.Regs, U32 r) (hk : k.1 = 1) (s : api_Split) : epipe_Do_E N c k st x = some (0, g_api_State.dv (actE c s k st x) []) := by
  unfold epipe_Do_E actE
  rw [if_pos hk]
  simp only [epipe_Get_is, on1_some, gg_dv, gg_nil, alu_Do_is k.2.1 (getM_U32 h _) (getM_U32 h _), Trap_is, alu_Latency_is, epipe_Set_E_is, epipe_Behind_E_is]
  cases (doM k.2.1 (getM x.E k.2.1.2.2.1) (getM x.E k.2.1.2.2.2.1)).2 <;> rfl
theorem Turn_E_is (c : api_Config) (s : api_Split) (x : api_State) (h : Wf x) (hl : s.Blocks.length ≤ 100000) (hN : s.Blocks.length < N) (hN2 : 1001 < N) (hn : NextOk s) (hb : hasM s x.E.Pos.Block = true) :
    epipe_Turn N c s x = some (0, g_api_State.dv (turnE c s x) []) := by
  unfold epipe_Turn turnE
  simp only [At_E_is s x hl hN hn hb, on1_some, gg_dv, gg_nil, epipe_Free_is _ _ _ hN2]
  have hw : (atE s x).2.2.2.Ldq = x.Ldq ∧ (atE s x).2.2.2.Sdq = x.Sdq ∧ (atE s x).2.2.2.Ebq = x.Ebq ∧ (atE s x).2.2.2.Abq = x.Abq ∧ (atE s x).2.2.2.Aeq = x.Aeq ∧ (atE s x).2.2.2.E.Regs = x.E.Regs := by
    unfold atE noteM
    repeat' (first | split | exact ⟨rfl, rfl, rfl, rfl, rfl, rfl⟩ | simp only [])
  generalize atE s x = a at *
  obtain ⟨k, st, ok, x⟩ := a
  simp only at hw ⊢
  obtain ⟨w1, w2, w3, w4, w5, w6⟩ := hw
  cases ok with
  | false => rw [if_pos (.inl rfl)]; rfl
  | true =>
    simp only [Bool.not_true, bi_false, Bool.true_eq_false, false_or]
    cases hf : freeM x.E k x.Cycle with
    | false => rw [if_pos rfl]; rfl
    | true =>
      rw [if_neg (by simp), Bool.not_true, bi_false]
      by_cases h1 : k.1 = 1
      · rw [bt h1, bi_true, Do_E_is c k st x (by rw [w6]; exact h.gE) h1 s, on1_some, gg_dv, gg_nil]
      rw [bf h1, bi_false]
      by_cases h6 : k.1 = 6
      · unfold actE
        rw [bt h6, bi_true, if_neg h1, if_pos h6]
        by_cases hq : x.Aeq.length = 0
        · rw [df (show ¬ len x.Aeq > 0 by simp only [len]; omega), if_pos hq]; rfl
        · rw [dt (show len x.Aeq > 0 by simp only [len]; omega), if_neg hq, bi_true, idx_t (i := 0) (by omega) (by omega), gd_true]
          simp only [epipe_Set_E_is, on1_some, gg_dv, gg_nil, sb_1 hq, gd_true, epipe_Behind_E_is]
      rw [bf h6, bi_false]
      by_cases h7 : k.1 = 7
      · unfold actE epipe_pop
        rw [bt h7, bi_true, if_neg h1, if_neg h6, if_pos h7]
        simp only [Pop_is x.Ldq (by rw [w1]; exact h.ldq), on1_some, gg_dv, gg_nil, epipe_Set_E_is, epipe_Behind_E_is]
        cases (popM x.Ldq).2.2 <;> rfl
      rw [bf h7, bi_false]
      by_cases h8 : k.1 = 8
      · unfold actE
        rw [bt h8, bi_true, if_neg h1, if_neg h6, if_neg h7, if_pos h8]
        by_cases hq : len x.Sdq < c.Sdq
        · rw [dt hq, if_pos hq, bi_true]
          simp only [epipe_Get_is, on1_some, gg_dv, gg_nil, rmT (show (x.Sdq.length + [getM x.E k.2.2.1].length) * 4 ≤ 35184372088832 by rw [w2]; have := h.sdq; simp; omega), gd_true, epipe_Behind_E_is]
        · rw [df hq, if_neg hq]; rfl
      rw [bf h8, bi_false]
      by_cases h9 : k.1 = 9
      · unfold actE epipe_Branch_E_Ebq
        rw [bt h9, bi_true, if_neg h1, if_neg h6, if_neg h7, if_neg h8, if_pos h9]
        by_cases hq : len x.Ebq ≥ c.Ebq
        · rw [dt hq, if_pos hq]; rfl
        · rw [df hq, if_neg hq, bi_false]
          simp only [epipe_Get_is, on1_some, gg_dv, gg_nil, alu_Taken_is, rmT (show (x.Ebq.length + [takenM k.2.1.1 (getM x.E k.2.1.2.2.1) (getM x.E k.2.1.2.2.2.1)].length) * 1 ≤ 35184372088832 by rw [w3]; have := h.ebq; simp; omega), gd_true, epipe_Go_E_is]
      rw [bf h9, bi_false]
      by_cases h10 : k.1 = 10
      · unfold actE epipe_Follow_E_Abq
        rw [bt h10, bi_true, if_neg h1, if_neg h6, if_neg h7, if_neg h8, if_neg h9, if_pos h10, len0]
        by_cases hq : x.Abq.length = 0
        · rw [dt hq, if_pos hq]; rfl
        · rw [df hq, if_neg hq, bi_false, idx_t (i := 0) (by omega) (by omega), sb_1 hq]
          simp only [gd_true, epipe_Go_E_is, on1_some, gg_dv, gg_nil]
      rw [bf h10, bi_false]
      by_cases h11 : k.1 = 11
      · unfold actE
        rw [bt h11, bi_true, if_neg h1, if_neg h6, if_neg h7, if_neg h8, if_neg h9, if_neg h10, if_pos h11, epipe_Go_E_is, on1_some, gg_dv, gg_nil]
      rw [bf h11, bi_false]
      by_cases h12 : k.1 = 12
      · unfold actE
        rw [bt h12, bi_true, if_neg h1, if_neg h6, if_neg h7, if_neg h8, if_neg h9, if_neg h10, if_neg h11, if_pos h12, epipe_Halt_E_is, on1_some, gg_dv, gg_nil]
      · unfold actE
        rw [bf h12, bi_false, if_neg h1, if_neg h6, if_neg h7, if_neg h8, if_neg h9, if_neg h10, if_neg h11, if_neg h12]
theorem rightM_E {c : api_Config} {s : api_Split} {x : api_State} (h : rightM c s x = true) : sideM s true x.E = true := by
  unfold rightM at h
  simp only [Bool.and_eq_true] at h
  exact h.2.2.1
theorem rightM_A {c : api_Config} {s : api_Split} {x : api_State} (h : rightM c s x = true) : sideM s false x.A = true := by
  unfold rightM at h
  simp only [Bool.and_eq_true] at h
  exact h.2.1
theorem sideM_has {s : api_Split} {e : Bool} {d : api_Side} (h : sideM s e d = true) : hasM s d.Pos.Block = true := by
  unfold sideM at h
  simp only [Bool.and_eq_true] at h
  exact h.1
end Go.Proofs.Zz

/- Whether two states are the same, of one; states small enough; E's laws. -/
set_option linter.unusedVariables false
set_option linter.unusedSimpArgs false
namespace Go.Proofs.Zz
open Go
variable {N : Nat}
/-- A state is small. -/
def FewS (x : api_State) : Prop := x.Mem.length ≤ 1000 ∧ x.Table.length ≤ 64 ∧ x.Saq.length ≤ 64 ∧ x.Ldq.length ≤ 64 ∧ x.Writes.length ≤ 100 ∧ x.Sdq.length ≤ 64 ∧ x.Aeq.length ≤ 64 ∧ x.Abq.length ≤ 64 ∧ x.Ebq.length ≤ 64
/-- What a state's type tells. -/
structure Typed (x : api_State) : Prop where
  rA : x.A.Ready.length = 16
  rE : x.E.Ready.length = 16
  gA : ∀ r ∈ x.A.Regs, U32 r
  gE : ∀ r ∈ x.E.Regs, U32 r
theorem Wf.of {x : api_State} (h : Typed x) (hf : FewS x) : Wf x := by
  obtain ⟨f1, f2, f3, f4, f5, f6, f7, f8, f9⟩ := hf
  exact { rA := h.rA, rE := h.rE, mem := by omega, saq := by omega, tab := by omega, ldq := by omega, sdq := by omega, aeq := by omega, abq := by omega, ebq := by omega, wri := by omega, gA := h.gA, gE := h.gE }
theorem NextOk.of {s : api_Split} (h : SplitOk s.Blocks) : NextOk s := by
  intro b hb
  have h2 := hasM_iff.1 hb
  have h3 := (h.blk b.toNat (by omega)).2.2.2.1
  unfold blockM
  rcases h3 with h3 | h3
  · left; omega
  · right
    exact ⟨by omega, hasM_iff.2 (by omega)⟩
theorem w3 {a b c d : Int} (ha : 0 ≤ a ∧ a ≤ 100000) (hb : 0 ≤ b ∧ b ≤ 100000) (hc : 0 ≤ c ∧ c ≤ 100000) (hd : 0 ≤ d ∧ d ≤ 100000) : w.i64 (w.i64 (w.i64 (a - b) + c) - d) = a - b + c - d := by
  rw [wI (x := a - b) (by omega) (by omega), wI (x := a - b + c) (by omega) (by omega), wI (by omega) (by omega)]
theorem w5 {a b c d e f : Int} (ha : 0 ≤ a ∧ a ≤ 100000) (hb : 0 ≤ b ∧ b ≤ 100000) (hc : 0 ≤ c ∧ c ≤ 100000) (hd : 0 ≤ d ∧ d ≤ 100000) (he : 0 ≤ e ∧ e ≤ 100000) (hf : 0 ≤ f ∧ f ≤ 100000) : w.i64 (w.i64 (w.i64 (w.i64 (w.i64 (a - b) + c) - d) + e) - f) = a - b + c - d + e - f := by
  rw [wI (x := a - b) (by omega) (by omega), wI (x := a - b + c) (by omega) (by omega), wI (x := a - b + c - d) (by omega) (by omega), wI (x := a - b + c - d + e) (by omega) (by omega), wI (by omega) (by omega)]
end Go.Proofs.Zz

/- In a cycle E does one cell at most: the model's law, and the reference law's answer. -/
set_option linter.unusedVariables false
set_option linter.unusedSimpArgs false
namespace Go.Proofs.Zz
open Go
variable {N : Nat}
/-- What E's cycle turns: its side, queues, the trap; by one cell at most. -/
structure One (x y : api_State) : Prop where
  fr : y = { x with E := y.E, Ldq := y.Ldq, Sdq := y.Sdq, Aeq := y.Aeq, Abq := y.Abq, Ebq := y.Ebq, Trap := y.Trap }
  on : (y.E.Done = x.E.Done ∧ y.Sdq.length = x.Sdq.length ∧ y.Ebq.length = x.Ebq.length ∧ y.Aeq.length = x.Aeq.length ∧ y.Abq.length = x.Abq.length ∧ y.Ldq.length = x.Ldq.length) ∨
    (y.E.Done = w.i64 (x.E.Done + 1) ∧ x.Sdq.length + x.Ebq.length ≤ y.Sdq.length + y.Ebq.length ∧ y.Aeq.length + y.Abq.length + y.Ldq.length ≤ x.Aeq.length + x.Abq.length + x.Ldq.length ∧
      y.Sdq.length + y.Ebq.length + (x.Aeq.length + x.Abq.length + x.Ldq.length) ≤ 1 + (x.Sdq.length + x.Ebq.length) + (y.Aeq.length + y.Abq.length + y.Ldq.length))
theorem setM_done (d : api_Side) (r v y : Int) : (setM d r v y).Done = d.Done := by unfold setM; split <;> rfl
theorem One.refl (x : api_State) : One x x := ⟨rfl, .inl ⟨rfl, rfl, rfl, rfl, rfl, rfl⟩⟩
theorem note_One (x : api_State) (k st pc : Int) : One x (noteM x k st pc) := by
  unfold noteM
  split
  · exact ⟨rfl, .inl ⟨rfl, rfl, rfl, rfl, rfl, rfl⟩⟩
  · exact One.refl x
theorem popM_len {l : List api_Slot} (h : (popM l).2.2 ≠ false) : (popM l).1.length + 1 = l.length := by
  unfold popM at *
  split
  · rename_i h2; rw [if_pos h2] at h; simp at h
  · rename_i h2; simp only [List.length_drop]; omega
theorem act_One (c : api_Config) (s : api_Split) (k : api_Cell) (st : Int) (x : api_State) : One x (actE c s k st x) := by
  unfold actE
  split
  · split
    · exact ⟨rfl, .inr ⟨by simp only [behindM, setM_done], by simp only; omega, by simp only; omega, by simp only; omega⟩⟩
    · exact note_One _ _ _ _
  split
  · split
    · exact One.refl x
    · exact ⟨rfl, .inr ⟨by simp only [behindM, setM_done], by simp only; omega, by simp only [List.length_drop]; omega, by simp only [List.length_drop]; omega⟩⟩
  split
  · split
    · exact One.refl x
    · rename_i h
      have := popM_len h
      exact ⟨rfl, .inr ⟨by simp only [behindM, setM_done], by simp only; omega, by simp only; omega, by simp only; omega⟩⟩
  split
  · split
    · exact ⟨rfl, .inr ⟨rfl, by simp only [List.length_append, List.length_cons, List.length_nil]; omega, by simp only; omega, by simp only [List.length_append, List.length_cons, List.length_nil]; omega⟩⟩
    · exact One.refl x
  split
  · split
    · exact One.refl x
    · exact ⟨rfl, .inr ⟨rfl, by simp only [List.length_append, List.length_cons, List.length_nil]; omega, by simp only; omega, by simp only [List.length_append, List.length_cons, List.length_nil]; omega⟩⟩
  split
  · split
    · exact One.refl x
    · exact ⟨rfl, .inr ⟨rfl, by simp only; omega, by simp only [List.length_drop]; omega, by simp only [List.length_drop]; omega⟩⟩
  split
  · exact ⟨rfl, .inr ⟨rfl, by simp only; omega, by simp only; omega, by simp only; omega⟩⟩
  split
  · exact ⟨rfl, .inr ⟨rfl, by simp only; omega, by simp only; omega, by simp only; omega⟩⟩
  · exact One.refl x
/-- What E's coming to its cell turns: its place, the trap. -/
structure Came (x y : api_State) : Prop where
  fr : y = { x with E := y.E, Trap := y.Trap }
  e : y.E = { x.E with Pos := y.E.Pos }
theorem at_Came (s : api_Split) (x : api_State) : Came x (atE s x).2.2.2 := by
  unfold atE
  split
  · exact ⟨rfl, rfl⟩
  · simp only []
    split
    · unfold noteM
      split <;> exact ⟨rfl, rfl⟩
    · exact ⟨rfl, rfl⟩
theorem Came.one {x y z : api_State} (h : Came x y) (h2 : One y z) : One x z := by
  obtain ⟨h1, h3⟩ := h
  obtain ⟨h4, h5⟩ := h2
  have e1 : y.E.Done = x.E.Done := by rw [h3]
  have e2 : y.Sdq = x.Sdq := by rw [h1]
  have e3 : y.Ebq = x.Ebq := by rw [h1]
  have e4 : y.Aeq = x.Aeq := by rw [h1]
  have e5 : y.Abq = x.Abq := by rw [h1]
  have e6 : y.Ldq = x.Ldq := by rw [h1]
  refine ⟨?_, by rw [e1, e2, e3, e4, e5, e6] at h5; exact h5⟩
  rw [h4, h1]
theorem turn_One (c : api_Config) (s : api_Split) (x : api_State) : One x (turnE c s x) := by
  unfold turnE
  split
  · exact (at_Came s x).one (One.refl _)
  · exact (at_Came s x).one (act_One _ _ _ _ _)
end Go.Proofs.Zz
