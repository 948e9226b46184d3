import Derived.Test.YtnfpdmhdpeffjaaGreatMB
import Derived.Test.YtnfpdmhdpeffjaaGreatEnhL
set_option linter.unusedSimpArgs false
set_option linter.unusedVariables false
/- The reference's targets, programs that may be, owners: what their plain functions answer. -/
set_option linter.unusedVariables false
set_option linter.unusedSimpArgs false
namespace Go.Proofs.Zz
open Go
variable {N : Nat}
/-- Its registers are registers. -/
def RegsOk (i : api_Ins) : Prop := (0 ≤ i.2.1 ∧ i.2.1 ≤ 15) ∧ (0 ≤ i.2.2.1 ∧ i.2.2.1 ≤ 15) ∧ (0 ≤ i.2.2.2.1 ∧ i.2.2.2.1 ≤ 15)
theorem fieldM_reg {n : Int} {h : Bool} (hf : fieldM n h 0 15 = true) : 0 ≤ n ∧ n ≤ 15 := by
  unfold fieldM at hf
  split at hf <;> simp only [decide_eq_true_eq] at hf <;> omega
theorem rightIns_regs {i : api_Ins} (h : rightIns i = true) : RegsOk i := by
  unfold rightIns at h
  simp only [Bool.and_eq_true] at h
  exact ⟨fieldM_reg h.1.1.1.2, fieldM_reg h.1.1.2, fieldM_reg h.1.2⟩
theorem readsM_regs (i : api_Ins) : ∀ x ∈ readsM i, 1 ≤ x ∧ x ≤ 15 := by
  intro x hx
  unfold readsM at hx
  split at hx
  · obtain ⟨_, ⟨a0, a1⟩, b0, b1⟩ := rightIns_regs (by assumption)
    rw [List.mem_append] at hx
    rcases hx with hx | hx
    · split at hx
      · rename_i h
        simp only [List.mem_singleton] at hx
        have := h.2; omega
      · simp at hx
    · split at hx
      · rename_i h
        simp only [List.mem_singleton] at hx
        have := h.2; omega
      · simp at hx
  · simp at hx
theorem Target_is (p : api_Program) (i : Int) (h0 : 0 ≤ i) (h1 : i < (p.Code.length : Int)) : ∃ t : Int, r1_Target N p i = some (0, gI.dv t []) ∧ (0 ≤ t → t < p.Code.length) := by
  unfold r1_Target
  rw [idx_t h0 h1]
  simp only [gd_true, r1_Form_is, on1_some, gg_dv, gg_nil]
  simp only [bi_if, bne_iff_ne, decide_eq_true_eq, len]
  repeat' split
  all_goals refine ⟨_, rfl, fun h => ?_⟩
  all_goals omega
theorem Targets_loop (p : api_Program) (hl : p.Code.length ≤ 100000) : ∀ (n i : Nat), i ≤ p.Code.length → p.Code.length - i < n →
    (∃ y : Int, r1_Targets_l0 N n (i : Int) p = some (0, gI.dv y [])) ∨ r1_Targets_l0 N n (i : Int) p = some (1, []) := by
  intro n
  induction n with
  | zero => intro i h1 h2; omega
  | succ n ih =>
    intro i h1 h2
    show (∃ y : Int, r1_Targets_r0 N (r1_Targets_l0 N n) (i : Int) p = _) ∨ r1_Targets_r0 N (r1_Targets_l0 N n) (i : Int) p = _
    unfold r1_Targets_r0
    by_cases hi : i < p.Code.length
    · obtain ⟨t, ht, _⟩ := Target_is (N := N) p (i : Int) (by omega) (by omega)
      have hrec := ih (i + 1) (by omega) (by omega)
      rw [lt_len hi]
      simp only [bi_true, idx_n hi, gd_true, r1_Form_is, ht, on1_some, gg_dv, gg_nil, wS (show i ≤ 100000000 by omega)]
      simp only [bi_if]
      repeat' split
      all_goals first | exact .inl ⟨_, rfl⟩ | exact hrec
    · rw [ge_len (by omega)]
      exact .inr rfl
theorem Targets_is (p : api_Program) (hl : p.Code.length ≤ 100000) (hN : p.Code.length < N) : ∃ y : Int, r1_Targets N p = some (0, gI.dv y []) := by
  unfold r1_Targets
  rcases Targets_loop (N := N) p hl N 0 (by omega) (by omega) with ⟨y, h⟩ | h
  · simp only [Int.natCast_zero] at h
    rw [h]; simp only [onB_fst, gg_dv, gg_nil]; exact ⟨_, rfl⟩
  · simp only [Int.natCast_zero] at h
    rw [h, onB_snd _ _ (by decide)]; simp only [gg_nil]; exact ⟨_, rfl⟩
/-- A program that may be: its code. -/
def Right (p : api_Program) : Prop := 1 ≤ p.Code.length ∧ p.Code.length ≤ 2000 ∧ ∀ j : Nat, j < p.Code.length → rightIns (p.Code.getD j api_Ins.z) = true
theorem Right_loop (p : api_Program) (hl : p.Code.length ≤ 100000) : ∀ (n i : Nat), i ≤ p.Code.length → p.Code.length - i < n → (∀ j : Nat, j < i → rightIns (p.Code.getD j api_Ins.z) = true) →
    r1_RightProgram_l0 N n (i : Int) p = some (0, gB.dv false []) ∨ (r1_RightProgram_l0 N n (i : Int) p = some (1, g_api_Program.dv p []) ∧ ∀ j : Nat, j < p.Code.length → rightIns (p.Code.getD j api_Ins.z) = true) := by
  intro n
  induction n with
  | zero => intro i h1 h2; omega
  | succ n ih =>
    intro i h1 h2 hr
    show r1_RightProgram_r0 N (r1_RightProgram_l0 N n) (i : Int) p = _ ∨ (r1_RightProgram_r0 N (r1_RightProgram_l0 N n) (i : Int) p = _ ∧ _)
    unfold r1_RightProgram_r0
    by_cases hi : i < p.Code.length
    · rw [lt_len hi]
      simp only [bi_true, idx_n hi, gd_true, Int.toNat_natCast, r1_RightIns_is, on1_some, gg_dv, gg_nil, wS (show i ≤ 100000000 by omega)]
      cases h : rightIns (p.Code.getD i api_Ins.z) with
      | false => exact .inl rfl
      | true =>
        refine ih (i + 1) (by omega) (by omega) fun j hj => ?_
        by_cases e : j = i
        · rw [e]; exact h
        · exact hr j (by omega)
    · rw [ge_len (by omega)]
      exact .inr ⟨rfl, fun j hj => hr j (by omega)⟩
theorem RightProgram_is (p : api_Program) (hN : 2000 < N) : ∃ y : Bool, r1_RightProgram N p = some (0, gB.dv y []) ∧ (y = true → Right p) := by
  unfold r1_RightProgram
  have hf : ∃ y : Bool, (some (0, gB.dv false []) : Option Rs) = some (0, gB.dv y []) ∧ (y = true → Right p) := ⟨false, rfl, fun h => by simp at h⟩
  by_cases h1 : ((p.Code.length : Nat) : Int) < 1
  · rw [show decide (len p.Code < 1) = true from dt h1]; exact hf
  rw [show decide (len p.Code < 1) = false from df h1]
  by_cases h2 : ((p.Code.length : Nat) : Int) > 2000
  · rw [show decide (len p.Code > 2000) = true from dt h2]; exact hf
  rw [show decide (len p.Code > 2000) = false from df h2]
  have hl : p.Code.length ≤ 2000 := by omega
  simp only [bi_false]
  generalize decide (p.Size < 0) = c1
  generalize decide (p.Size > 65536) = c2
  generalize decide (len p.Data > p.Size) = c3
  cases c1 with
  | true => exact hf
  | false =>
    cases c2 with
    | true => exact hf
    | false =>
      cases c3 with
      | true => exact hf
      | false =>
        simp only [bi_false]
        rcases Right_loop (N := N) p (by omega) N 0 (by omega) (by omega) (fun j hj => by omega) with h | ⟨h, hr⟩
        · simp only [Int.natCast_zero] at h
          rw [h]; simp only [onB_fst, gg_dv, gg_nil]; exact hf
        · obtain ⟨y, hy⟩ := Targets_is (N := N) p (by omega) (by omega)
          simp only [Int.natCast_zero] at h
          rw [h, onB_snd _ _ (by decide)]; simp only [gg_dv, gg_nil, hy, on1_some]
          exact ⟨_, rfl, fun _ => ⟨by omega, hl, hr⟩⟩
theorem onE_is (o : List Int) (n : Int) (h : n ≤ 15) : ∃ y : Bool, r10_onE N o n = some (0, gB.dv y []) := by
  unfold r10_onE
  by_cases h1 : n > 0
  · rw [dt h1, idx_t (by omega) (by omega)]; exact ⟨_, rfl⟩
  · rw [df h1]; exact ⟨_, rfl⟩
theorem anyE_loop (o l : List Int) (hl : l.length ≤ 100) (hb : ∀ x ∈ l, x ≤ 15) : ∀ (n i : Nat), i ≤ l.length → l.length - i < n →
    r10_anyE_l0 N n l (i : Int) o = some (0, gB.dv true []) ∨ r10_anyE_l0 N n l (i : Int) o = some (1, []) := by
  intro n
  induction n with
  | zero => intro i h1 h2; omega
  | succ n ih =>
    intro i h1 h2
    show r10_anyE_r0 N (r10_anyE_l0 N n) l (i : Int) o = _ ∨ r10_anyE_r0 N (r10_anyE_l0 N n) l (i : Int) o = _
    unfold r10_anyE_r0
    by_cases hi : i < l.length
    · obtain ⟨y, hy⟩ := onE_is (N := N) o (l.getD i 0) (hb _ (getD_mem 0 hi))
      rw [lt_len hi]
      simp only [bi_true, idx_n hi, gd_true, Int.toNat_natCast, hy, on1_some, gg_dv, gg_nil, wS (show i ≤ 100000000 by omega)]
      cases y with
      | true => exact .inl rfl
      | false => exact ih (i + 1) (by omega) (by omega)
    · rw [ge_len (by omega)]
      exact .inr rfl
theorem anyE_is (o l : List Int) (hl : l.length ≤ 2) (hb : ∀ x ∈ l, x ≤ 15) (hN : 2000 < N) : ∃ y : Bool, r10_anyE N o l = some (0, gB.dv y []) := by
  unfold r10_anyE
  rcases anyE_loop (N := N) o l (by omega) hb N 0 (by omega) (by omega) with h | h
  · simp only [Int.natCast_zero] at h
    rw [h]; simp only [onB_fst, gg_dv, gg_nil]; exact ⟨_, rfl⟩
  · simp only [Int.natCast_zero] at h
    rw [h, onB_snd _ _ (by decide)]; simp only [gg_nil]; exact ⟨_, rfl⟩
end Go.Proofs.Zz

/- The reference's least owner, closed owners: what their plain functions answer. -/
set_option linter.unusedVariables false
set_option linter.unusedSimpArgs false
namespace Go.Proofs.Zz
open Go
variable {N : Nat}
theorem wS' {i : Int} (h0 : 0 ≤ i) (h : i ≤ 100000000) : w.i64 (i + 1) = i + 1 := wI (by omega) (by omega)
theorem own0_loop (p : api_Program) (o1 : List Int) : ∀ (n : Nat) (i : Int) (o : List Int), 0 ≤ i → i ≤ 16 → 16 - i < n →
    ∃ o', r10_Owner_l0 N n i p o1 o = some (1, g_api_Program.dv p ((gD (.ar 16 tI)).dv o1 ((gD (.ar 16 tI)).dv o' []))) := by
  intro n
  induction n with
  | zero => intro i o h0 h1 h2; omega
  | succ n ih =>
    intro i o h0 h1 h2
    show ∃ o', r10_Owner_r0 N (r10_Owner_l0 N n) i p o1 o = _
    unfold r10_Owner_r0
    by_cases hi : i < 16
    · rw [dt hi, idx_t h0 (by omega), bi_true, gd_true, wS' h0 (by omega)]
      exact ih _ _ (by omega) (by omega) (by omega)
    · rw [df hi]
      exact ⟨_, rfl⟩
theorem own6_loop (a b : Int) (l : List Int) (hl : l.length ≤ 100) (hb : ∀ x ∈ l, 1 ≤ x ∧ x ≤ 15) (p : api_Program) (o1 : List Int) : ∀ (n i : Nat) (o : List Int), i ≤ l.length → l.length - i < n →
    ∃ o', r10_Owner_l6 N n a b l (i : Int) p o1 o = some (7, gI.dv a (gI.dv b (g_api_Program.dv p ((gD (.ar 16 tI)).dv o1 ((gD (.ar 16 tI)).dv o' []))))) := by
  intro n
  induction n with
  | zero => intro i o h1 h2; omega
  | succ n ih =>
    intro i o h1 h2
    show ∃ o', r10_Owner_r6 N (r10_Owner_l6 N n) a b l (i : Int) p o1 o = _
    unfold r10_Owner_r6
    by_cases hi : i < l.length
    · have hm := hb _ (getD_mem 0 hi)
      rw [lt_len hi, bi_true, idx_n hi, gd_true, Int.toNat_natCast, idx_t (i := l.getD i 0) (n := 16) (by omega) (by omega), gd_true, wS (by omega)]
      exact ih _ _ (by omega) (by omega)
    · rw [ge_len (by omega)]
      exact ⟨_, rfl⟩
theorem own4_loop (a : Int) (p : api_Program) (hc : Right p) (o1 : List Int) (hN : 2000 < N) : ∀ (n i : Nat) (o : List Int), i ≤ p.Code.length → p.Code.length - i < n →
    ∃ o', r10_Owner_l4 N n a (i : Int) p o1 o = some (5, gI.dv a (g_api_Program.dv p ((gD (.ar 16 tI)).dv o1 ((gD (.ar 16 tI)).dv o' [])))) := by
  obtain ⟨hc1, hc2, hc3⟩ := hc
  intro n
  induction n with
  | zero => intro i o h1 h2; omega
  | succ n ih =>
    intro i o h1 h2
    show ∃ o', r10_Owner_r4 N (r10_Owner_l4 N n) a (i : Int) p o1 o = _
    unfold r10_Owner_r4
    by_cases hi : i < p.Code.length
    · obtain ⟨⟨d0, d1⟩, ⟨a0, a1⟩, _⟩ := rightIns_regs (hc3 i hi)
      have hrec : ∀ o, ∃ o', r10_Owner_l4 N n a ((i + 1 : Nat) : Int) p o1 o = some (5, gI.dv a (g_api_Program.dv p ((gD (.ar 16 tI)).dv o1 ((gD (.ar 16 tI)).dv o' [])))) := fun o => ih _ _ (by omega) (by omega)
      have hl1 := readsM_regs (p.Code.getD i api_Ins.z)
      have hl2 := readsM_len (p.Code.getD i api_Ins.z)
      have h6 := fun o => own6_loop (N := N) a (i : Int) (readsM (p.Code.getD i api_Ins.z)) (by omega) hl1 p o1 N 0 o (by omega) (by omega)
      rw [lt_len hi]
      simp only [bi_true, idx_n hi, gd_true, Int.toNat_natCast, r1_Form_is, r1_Reads_is, on1_some, gg_dv, gg_nil, wS (show i ≤ 100000000 by omega), idx_t (i := (p.Code.getD i api_Ins.z).2.2.1) (n := 16) a0 (by omega), idx_t (i := (p.Code.getD i api_Ins.z).2.1) (n := 16) d0 (by omega)]
      simp only [Int.natCast_zero] at h6
      have h7 : ∀ o, ∃ o', onA 7 (r10_Owner_l6 N N a (i : Int) (readsM (p.Code.getD i api_Ins.z)) (0 : Int) p o1 o) (gg [pI, pI, p_api_Program, pD (.ar 16 tI), pD (.ar 16 tI)] fun (x7 : Int) (x8 : Int) (x9 : api_Program) (x10 : List Int) (x11 : List Int) => r10_Owner_l4 N n x7 (w.i64 (x8 + 1)) x9 x10 x11) = some (5, gI.dv a (g_api_Program.dv p ((gD (.ar 16 tI)).dv o1 ((gD (.ar 16 tI)).dv o' [])))) := by
        intro o
        obtain ⟨o2, h⟩ := h6 o
        rw [h]
        simp only [onA_some, gg_dv, gg_nil, wS (show i ≤ 100000000 by omega)]
        exact hrec o2
      simp only [bi_if]
      repeat' split
      all_goals first | exact hrec _ | exact h7 _
    · rw [ge_len (by omega)]
      exact ⟨_, rfl⟩
theorem own2_loop (p : api_Program) (hc : Right p) (o1 : List Int) (hN : 2000 < N) : ∀ (n : Nat) (i : Int) (o : List Int), 0 ≤ i → i ≤ 17 → 17 - i < n →
    ∃ o', r10_Owner_l2 N n i p o1 o = some (3, (gD (.ar 16 tI)).dv o1 ((gD (.ar 16 tI)).dv o' [])) := by
  intro n
  induction n with
  | zero => intro i o h0 h1 h2; omega
  | succ n ih =>
    intro i o h0 h1 h2
    show ∃ o', r10_Owner_r2 N (r10_Owner_l2 N n) i p o1 o = _
    unfold r10_Owner_r2
    by_cases hi : i < 17
    · obtain ⟨o2, h⟩ := own4_loop (N := N) i p hc o1 hN N 0 o (by omega) (by have := hc.2.1; omega)
      rw [dt hi, bi_true, show (0 : Int) = ((0 : Nat) : Int) from rfl, h]
      simp only [onA_some, gg_dv, gg_nil, wS' h0 (show i ≤ 100000000 by omega)]
      exact ih _ _ (by omega) (by omega) (by omega)
    · rw [df hi]
      exact ⟨_, rfl⟩
theorem Owner_is (p : api_Program) (hN : 2000 < N) : ∃ o : List Int, r10_Owner N p = some (0, (gD (.ar 16 tI)).dv o []) := by
  unfold r10_Owner
  obtain ⟨y, hy, hr⟩ := RightProgram_is (N := N) p hN
  rw [hy, on1_some, gg_dv, gg_nil]
  cases y with
  | false => exact ⟨_, rfl⟩
  | true =>
    obtain ⟨o, h⟩ := own0_loop (N := N) p (List.replicate 16 0) N 1 (List.replicate 16 0) (by omega) (by omega) (by omega)
    obtain ⟨o2, h2⟩ := own2_loop (N := N) p (hr rfl) (List.replicate 16 0) hN N 0 o (by omega) (by omega) (by omega)
    simp only [Bool.not_true, bi_false, h, onA_some, gg_dv, gg_nil, h2]
    exact ⟨_, rfl⟩
theorem closed0_loop (p : api_Program) (o : List Int) : ∀ (n : Nat) (i : Int), 0 ≤ i → i ≤ 16 → 16 - i < n →
    r10_Closed_l0 N n i p o = some (0, gB.dv false []) ∨ r10_Closed_l0 N n i p o = some (1, g_api_Program.dv p ((gD (.ar 16 tI)).dv o [])) := by
  intro n
  induction n with
  | zero => intro i h0 h1 h2; omega
  | succ n ih =>
    intro i h0 h1 h2
    show r10_Closed_r0 N (r10_Closed_l0 N n) i p o = _ ∨ r10_Closed_r0 N (r10_Closed_l0 N n) i p o = _
    unfold r10_Closed_r0
    by_cases hi : i < 16
    · have := ih (i + 1) (by omega) (by omega) (by omega)
      rw [dt hi, idx_t h0 (by omega), wS' h0 (by omega)]
      simp only [bi_true, gd_true]
      simp only [bi_if]
      repeat' split
      all_goals first | exact .inl rfl | exact this
    · rw [df hi]
      exact .inr rfl
theorem closed2_loop (p : api_Program) (hc : Right p) (o : List Int) (hN : 2000 < N) : ∀ (n i : Nat), i ≤ p.Code.length → p.Code.length - i < n →
    r10_Closed_l2 N n (i : Int) p o = some (0, gB.dv false []) ∨ r10_Closed_l2 N n (i : Int) p o = some (3, []) := by
  obtain ⟨hc1, hc2, hc3⟩ := hc
  intro n
  induction n with
  | zero => intro i h1 h2; omega
  | succ n ih =>
    intro i h1 h2
    show r10_Closed_r2 N (r10_Closed_l2 N n) (i : Int) p o = _ ∨ r10_Closed_r2 N (r10_Closed_l2 N n) (i : Int) p o = _
    unfold r10_Closed_r2
    by_cases hi : i < p.Code.length
    · obtain ⟨⟨d0, d1⟩, ⟨a0, a1⟩, _⟩ := rightIns_regs (hc3 i hi)
      have hrec := ih (i + 1) (by omega) (by omega)
      have hl1 := readsM_regs (p.Code.getD i api_Ins.z)
      have hl2 := readsM_len (p.Code.getD i api_Ins.z)
      obtain ⟨y1, h1'⟩ := onE_is (N := N) o (p.Code.getD i api_Ins.z).2.2.1 a1
      obtain ⟨y2, h2'⟩ := anyE_is (N := N) o (readsM (p.Code.getD i api_Ins.z)) hl2 (fun x hx => (hl1 x hx).2) hN
      rw [lt_len hi]
      simp only [bi_true, idx_n hi, gd_true, Int.toNat_natCast, r1_Form_is, r1_Reads_is, h1', h2', on1_some, gg_dv, gg_nil, wS (show i ≤ 100000000 by omega), idx_t (i := (p.Code.getD i api_Ins.z).2.1) (n := 16) d0 (by omega)]
      simp only [bi_if]
      repeat' split
      all_goals first | exact .inl rfl | exact hrec
    · rw [ge_len (by omega)]
      exact .inr rfl
theorem Closed_is (p : api_Program) (o : List Int) (hN : 2000 < N) : ∃ y : Bool, r10_Closed N p o = some (0, gB.dv y []) ∧ (y = true → Right p ∧ r1_RightProgram N p = some (0, gB.dv true [])) := by
  obtain ⟨y, hy, hr⟩ := RightProgram_is (N := N) p hN
  have key : ∃ y' : Bool, r10_Closed N p o = some (0, gB.dv y' []) ∧ (y' = true → y = true) := by
    have hf : ∃ y' : Bool, (some (0, gB.dv false []) : Option Rs) = some (0, gB.dv y' []) ∧ (y' = true → y = true) := ⟨false, rfl, fun h => by simp at h⟩
    unfold r10_Closed
    rw [hy, on1_some, gg_dv, gg_nil]
    cases y with
    | false => exact hf
    | true =>
      have hc := hr rfl
      rw [Bool.not_true, bi_false, idx_t (i := 0) (n := 16) (by omega) (by omega), gd_true]
      generalize (List.getD o 0 0 != 0) = c
      cases c with
      | true => exact hf
      | false =>
        rw [bi_false]
        rcases closed0_loop (N := N) p o N 1 (by omega) (by omega) (by omega) with h | h
        · rw [h, onB_fst, gg_dv, gg_nil]; exact hf
        · rw [h, onB_snd _ _ (by decide), gg_dv, gg_dv, gg_nil]
          rcases closed2_loop (N := N) p hc o hN N 0 (by omega) (by have := hc.2.1; omega) with h | h
          · simp only [Int.natCast_zero] at h
            rw [h, onB_fst, gg_dv, gg_nil]; exact hf
          · simp only [Int.natCast_zero] at h
            rw [h, onB_snd _ _ (by decide), gg_nil]; exact ⟨_, rfl, fun _ => rfl⟩
  obtain ⟨y', h1, h2⟩ := key
  exact ⟨y', h1, fun h => by have := h2 h; subst this; exact ⟨hr rfl, hy⟩⟩
end Go.Proofs.Zz

/- The reference's leaders: what their plain functions answer. -/
set_option linter.unusedVariables false
set_option linter.unusedSimpArgs false
namespace Go.Proofs.Zz
open Go
variable {N : Nat}
theorem ends_is (i : api_Ins) : ∃ y : Bool, r10_ends N i = some (0, gB.dv y []) := by
  unfold r10_ends
  simp only [r1_Form_is, on1_some, gg_dv, gg_nil, bi_if]
  repeat' split
  all_goals exact ⟨_, rfl⟩
theorem set_len (l : List Bool) (i : Nat) : (l.set i true).length = l.length := by simp
theorem set_zero {l : List Bool} (h : l.getD 0 false = true) (i : Nat) : (l.set i true).getD 0 false = true := by
  cases l with
  | nil => simp at h
  | cons x r => cases i <;> simp_all
theorem lead0_loop (p : api_Program) (hc : p.Code.length ≤ 2000) : ∀ (n i : Nat) (s : List Bool), i ≤ p.Code.length → p.Code.length - i < n → s.length = p.Code.length → s.getD 0 false = true →
    ∃ s', r10_Leaders_l0 N n s (i : Int) p = some (1, (gD (.sl tB)).dv s' []) ∧ s'.length = p.Code.length ∧ s'.getD 0 false = true := by
  intro n
  induction n with
  | zero => intro i s h1 h2; omega
  | succ n ih =>
    intro i s h1 h2 hs hz
    show ∃ s', r10_Leaders_r0 N (r10_Leaders_l0 N n) s (i : Int) p = _ ∧ _
    unfold r10_Leaders_r0
    by_cases hi : i < p.Code.length
    · obtain ⟨t, ht, ht2⟩ := Target_is (N := N) p (i : Int) (by omega) (by omega)
      obtain ⟨y, hy⟩ := ends_is (N := N) (p.Code.getD i api_Ins.z)
      have hrec : ∀ s : List Bool, s.length = p.Code.length → s.getD 0 false = true → ∃ s', r10_Leaders_l0 N n s ((i + 1 : Nat) : Int) p = some (1, (gD (.sl tB)).dv s' []) ∧ s'.length = p.Code.length ∧ s'.getD 0 false = true :=
        fun s h3 h4 => ih (i + 1) s (by omega) (by omega) h3 h4
      rw [lt_len hi]
      simp only [bi_true, ht, on1_some, gg_dv, gg_nil, idx_n hi, gd_true, Int.toNat_natCast, hy, wS (show i ≤ 100000000 by omega), set_len, hs]
      by_cases htt : t ≥ 0
      · rw [dt htt, bi_true, idx_t htt (ht2 htt), gd_true]
        cases y with
        | false => exact hrec _ (by rw [set_len, hs]) (set_zero hz _)
        | true =>
          by_cases hj : i + 1 < p.Code.length
          · rw [lt_len hj, bi_true, bi_true, idx_n hj, gd_true]
            exact hrec _ (by rw [set_len, set_len, hs]) (set_zero (set_zero hz _) _)
          · rw [ge_len (by omega), bi_true, bi_false]
            exact hrec _ (by rw [set_len, hs]) (set_zero hz _)
      · rw [df htt, bi_false]
        cases y with
        | false => exact hrec _ hs hz
        | true =>
          by_cases hj : i + 1 < p.Code.length
          · rw [lt_len hj, bi_true, bi_true, idx_n hj, gd_true]
            exact hrec _ (by rw [set_len, hs]) (set_zero hz _)
          · rw [ge_len (by omega), bi_true, bi_false]
            exact hrec _ hs hz
    · rw [ge_len (by omega)]
      exact ⟨_, rfl, hs, hz⟩
/-- Increasing, below n. -/
structure Lead (l : List Int) (n : Int) : Prop where
  lo : ∀ k : Nat, k < l.length → 0 ≤ l.getD k 0 ∧ l.getD k 0 < n
  up : ∀ j k : Nat, j < k → k < l.length → l.getD j 0 < l.getD k 0
  len : (l.length : Int) ≤ n
theorem getD_snocD {α : Type} {l : List α} {x d : α} (k : Nat) : (l ++ [x]).getD k d = if k < l.length then l.getD k d else if k = l.length then x else d := by
  simp only [List.getD_eq_getElem?_getD]
  by_cases h : k < l.length
  · rw [List.getElem?_append_left h, if_pos h]
  · rw [if_neg h, List.getElem?_append_right (by omega)]
    by_cases e : k = l.length
    · subst e; simp
    · rw [if_neg e, List.getElem?_eq_none (by simp; omega)]; rfl
theorem Lead.snoc {l : List Int} {i : Int} (h : Lead l i) (h0 : 0 ≤ i) : Lead (l ++ [i]) (i + 1) := by
  refine ⟨fun k hk => ?_, fun j k hj hk => ?_, by have := h.len; simp; omega⟩
  · simp only [List.length_append, List.length_singleton] at hk
    rw [getD_snocD]
    by_cases e : k < l.length
    · rw [if_pos e]; have := h.lo k e; omega
    · rw [if_neg e, if_pos (by omega)]; omega
  · simp only [List.length_append, List.length_singleton] at hk
    rw [getD_snocD, getD_snocD, if_pos (show j < l.length by omega)]
    by_cases e : k < l.length
    · rw [if_pos e]; exact h.up j k hj e
    · rw [if_neg e, if_pos (by omega)]; exact (h.lo j (by omega)).2
theorem Lead.next {l : List Int} {i : Int} (h : Lead l i) : Lead l (i + 1) := ⟨fun k hk => by have := h.lo k hk; omega, h.up, by have := h.len; omega⟩
theorem lead2_loop (s : List Bool) (hc : s.length ≤ 2000) (hz : s.getD 0 false = true) : ∀ (n i : Nat) (l : List Int), i ≤ s.length → s.length - i < n → Lead l i → (0 < i → l ≠ []) →
    ∃ l', r10_Leaders_l2 N n s l (i : Int) = some (3, (gD (.sl tI)).dv l' []) ∧ Lead l' s.length ∧ (0 < s.length → l' ≠ []) := by
  intro n
  induction n with
  | zero => intro i l h1 h2; omega
  | succ n ih =>
    intro i l h1 h2 hl hne
    show ∃ l', r10_Leaders_r2 N (r10_Leaders_l2 N n) s l (i : Int) = _ ∧ _
    unfold r10_Leaders_r2
    by_cases hi : i < s.length
    · have hlen := hl.len
      have hsn : Lead (l ++ [(i : Int)]) ((i + 1 : Nat) : Int) := by have := hl.snoc (by omega); rwa [show ((i : Int) + 1) = ((i + 1 : Nat) : Int) by omega] at this
      have hnx : Lead l ((i + 1 : Nat) : Int) := by have := hl.next; rwa [show ((i : Int) + 1) = ((i + 1 : Nat) : Int) by omega] at this
      rw [lt_len hi]
      simp only [bi_true, idx_n hi, gd_true, Int.toNat_natCast, wS (show i ≤ 100000000 by omega), rmT (show (l.length + [(i : Int)].length) * 8 ≤ 35184372088832 by simp; omega)]
      cases hf : s.getD i false with
      | true => exact ih (i + 1) _ (by omega) (by omega) hsn (fun _ => by simp)
      | false =>
        refine ih (i + 1) _ (by omega) (by omega) hnx (fun _ => ?_)
        by_cases e : i = 0
        · subst e
          rw [hz] at hf; simp at hf
        · exact hne (by omega)
    · rw [ge_len (by omega)]
      have : i = s.length := by omega
      subst this
      exact ⟨_, rfl, hl, fun h => hne (by omega)⟩
theorem reach_is : reach = 35184372088832 := by kernel_rfl
theorem Leaders_is (p : api_Program) (hN : 2000 < N) (hc : Right p) (h22 : r1_RightProgram N p = some (0, gB.dv true [])) : ∃ l : List Int, r10_Leaders N p = some (0, (gD (.sl tI)).dv l []) ∧ Lead l p.Code.length ∧ l ≠ [] := by
  unfold r10_Leaders
  obtain ⟨hc1, hc2, _⟩ := hc
  have hlen : (List.replicate (Int.toNat (len p.Code)) false).length = p.Code.length := by simp [len]
  rw [h22]
  rw [show decide (0 ≤ (len p.Code) ∧ (len p.Code) ≤ (len p.Code) ∧ (len p.Code) * ((1 : Nat) : Int) ≤ ((reach : Nat) : Int) ∧ (len p.Code) ≤ ((reach : Nat) : Int)) = true by
    rw [reach_is]; simp [len]; omega]
  obtain ⟨s, h1, h2, h3⟩ := lead0_loop (N := N) p hc2 N 0 ((List.replicate (Int.toNat (len p.Code)) false).set 0 true) (by omega) (by omega) (by simp [len]) (by
    obtain ⟨m, hm⟩ : ∃ m, p.Code.length = m + 1 := ⟨p.Code.length - 1, by omega⟩
    simp [len, hm, List.replicate_succ])
  obtain ⟨l, h4, h5, h6⟩ := lead2_loop (N := N) s (by omega) h3 N 0 [] (by omega) (by omega) ⟨by simp, by simp, by simp⟩ (fun h => by omega)
  simp only [Int.natCast_zero] at h1 h4
  simp only [on1_some, gg_dv, gg_nil, Bool.not_true, bi_false, gd_true, hlen, idx_t (i := 0) (n := p.Code.length) (by omega) (by omega), h1, onA_some, h4]
  exact ⟨l, rfl, by rw [h2] at h5; exact h5, h6 (by omega)⟩
theorem find_loop (l : List Int) (x : Int) (hl : l.length ≤ 100000) : ∀ (n i : Nat), i ≤ l.length → l.length - i < n →
    (∃ r : Int, r10_find_l0 N n l x (i : Int) = some (0, gI.dv r []) ∧ 0 ≤ r ∧ r < l.length ∧ l.getD r.toNat 0 = x) ∨ r10_find_l0 N n l x (i : Int) = some (1, []) := by
  intro n
  induction n with
  | zero => intro i h1 h2; omega
  | succ n ih =>
    intro i h1 h2
    show (∃ r : Int, r10_find_r0 N (r10_find_l0 N n) l x (i : Int) = _ ∧ _) ∨ r10_find_r0 N (r10_find_l0 N n) l x (i : Int) = _
    unfold r10_find_r0
    by_cases hi : i < l.length
    · rw [lt_len hi]
      simp only [bi_true, idx_n hi, gd_true, Int.toNat_natCast, wS (show i ≤ 100000000 by omega)]
      cases he : (l.getD i 0 == x) with
      | true => exact .inl ⟨i, rfl, by omega, by omega, by simpa using he⟩
      | false => exact ih (i + 1) (by omega) (by omega)
    · rw [ge_len (by omega)]
      exact .inr rfl
theorem find_is (l : List Int) (x : Int) (hl : l.length ≤ 2000) (hN : 2000 < N) : ∃ r : Int, r10_find N l x = some (0, gI.dv r []) ∧ (r = -1 ∨ (0 ≤ r ∧ r < l.length ∧ l.getD r.toNat 0 = x)) := by
  unfold r10_find
  rcases find_loop (N := N) l x (by omega) N 0 (by omega) (by omega) with ⟨r, h, h1, h2, h3⟩ | h
  · simp only [Int.natCast_zero] at h
    rw [h]; simp only [onB_fst, gg_dv, gg_nil]; exact ⟨r, rfl, .inr ⟨h1, h2, h3⟩⟩
  · simp only [Int.natCast_zero] at h
    rw [h, onB_snd _ _ (by decide)]; simp only [gg_nil]; exact ⟨-1, rfl, .inl rfl⟩
end Go.Proofs.Zz

/- The reference's blocks: what their plain function answers. -/
set_option linter.unusedVariables false
set_option linter.unusedSimpArgs false
namespace Go.Proofs.Zz
open Go
variable {N : Nat}
abbrev D0 := Int × (Int × (Int × (Int × (Unit × (Unit × Unit)))))
abbrev tB0 : Ty := B4 .nl
/-- A block, the k-th of L, of n instructions. -/
def BlkOk (L : Nat) (n : Int) (k : Nat) (f t nx : Int) : Prop := 0 ≤ f ∧ f < t ∧ t ≤ n ∧ (nx = -1 ∨ ((k : Int) < nx ∧ nx < L))
abbrev Z0 : D0 := ((0 : Int), ((0 : Int), ((0 : Int), ((0 : Int), ((), ((), ()))))))
theorem cut_loop (p : api_Program) (hc1 : 1 ≤ p.Code.length) (hc : p.Code.length ≤ 2000) (l : List Int) (hl : Lead l p.Code.length) (hN : 2000 < N) : ∀ (n i : Nat) (bs : List D0), i ≤ l.length → l.length - i < n →
    bs.length = i → (∀ k : Nat, k < bs.length → BlkOk l.length p.Code.length k (bs.getD k Z0).1 (bs.getD k Z0).2.1 (bs.getD k Z0).2.2.1) →
    ∃ bs' : List D0, r10_Cut_l0 N n l bs (i : Int) p = some (1, (gD (.sl tB0)).dv bs' []) ∧ bs'.length = l.length ∧ ∀ k : Nat, k < bs'.length → BlkOk l.length p.Code.length k (bs'.getD k Z0).1 (bs'.getD k Z0).2.1 (bs'.getD k Z0).2.2.1 := by
  intro n
  have hL := hl.len
  induction n with
  | zero => intro i bs h1 h2; omega
  | succ n ih =>
    intro i bs h1 h2 hb hok
    show ∃ bs' : List D0, r10_Cut_r0 N (r10_Cut_l0 N n) l bs (i : Int) p = _ ∧ _
    unfold r10_Cut_r0
    by_cases hi : i < l.length
    · have hw := wS (show i ≤ 100000000 by omega)
      have hfr := hl.lo i (by omega)
      have hrec : ∀ (to nx tk : Int), BlkOk l.length p.Code.length i (l.getD i 0) to nx → ∃ bs' : List D0, r10_Cut_l0 N n l (bs ++ [(l.getD i 0, (to, (nx, (tk, ((), ((), ()))))))]) ((i + 1 : Nat) : Int) p = some (1, (gD (.sl tB0)).dv bs' []) ∧ bs'.length = l.length ∧ ∀ k : Nat, k < bs'.length → BlkOk l.length p.Code.length k (bs'.getD k Z0).1 (bs'.getD k Z0).2.1 (bs'.getD k Z0).2.2.1 := by
        intro to nx tk h
        refine ih (i + 1) _ (by omega) (by omega) (by simp; omega) fun k hk => ?_
        simp only [List.length_append, List.length_singleton] at hk
        rw [getD_snocD]
        by_cases e : k < bs.length
        · rw [if_pos e]; exact hok k e
        · rw [if_neg e, if_pos (by omega)]
          have : k = i := by omega
          rw [this]; exact h
      have hre : ∀ x : D0, rm bs [x] 80 = true := fun x => rmT (by simp; omega)
      rw [lt_len hi]
      simp only [bi_true, idx_n hi, gd_true, Int.toNat_natCast, hw]
      by_cases hj : i + 1 < l.length
      · have hto := hl.lo (i + 1) (by omega)
        have hup := hl.up i (i + 1) (by omega) (by omega)
        have hw2 : w.i64 (l.getD (i + 1) 0 - 1) = l.getD (i + 1) 0 - 1 := wI (by omega) (by omega)
        obtain ⟨r, hr, hr2⟩ := find_is (N := N) l (l.getD (i + 1) 0) (by omega) hN
        obtain ⟨t, ht, _⟩ := Target_is (N := N) p (l.getD (i + 1) 0 - 1) (by omega) (by omega)
        obtain ⟨r3, hr3, _⟩ := find_is (N := N) l t (by omega) hN
        have hbk : BlkOk l.length p.Code.length i (l.getD i 0) (l.getD (i + 1) 0) r := by
          refine ⟨hfr.1, hup, by omega, ?_⟩
          rcases hr2 with h | ⟨g1, g2, g3⟩
          · exact .inl h
          · refine .inr ⟨?_, g2⟩
            by_cases h : (i : Int) < r
            · exact h
            · exfalso
              by_cases e : r.toNat = i
              · rw [e] at g3; omega
              · have := hl.up r.toNat i (by omega) (by omega)
                omega
        have hbn : BlkOk l.length p.Code.length i (l.getD i 0) (l.getD (i + 1) 0) (-1) := ⟨hfr.1, hup, by omega, .inl rfl⟩
        rw [lt_len hj, bi_true, idx_n hj, gd_true]
        simp only [hw2, idx_t (i := l.getD (i + 1) 0 - 1) (n := p.Code.length) (by omega) (by omega), gd_true, hr, on1_some, gg_dv, gg_nil, ht, hr3, hre]
        simp only [bi_if]
        repeat' split
        all_goals first | exact hrec _ _ _ hbk | exact hrec _ _ _ hbn
      · have hw2 : w.i64 (len p.Code - 1) = len p.Code - 1 := wI (by simp only [len]; omega) (by simp only [len]; omega)
        obtain ⟨r, hr, hr2⟩ := find_is (N := N) l (len p.Code) (by omega) hN
        obtain ⟨t, ht, _⟩ := Target_is (N := N) p (len p.Code - 1) (by simp only [len]; omega) (by simp only [len]; omega)
        obtain ⟨r3, hr3, _⟩ := find_is (N := N) l t (by omega) hN
        have hbk : BlkOk l.length p.Code.length i (l.getD i 0) (len p.Code) r := by
          refine ⟨hfr.1, by simp only [len]; exact hfr.2, by simp only [len]; omega, ?_⟩
          rcases hr2 with h | ⟨g1, g2, g3⟩
          · exact .inl h
          · have := hl.lo r.toNat (by omega); simp only [len] at g3; omega
        have hbn : BlkOk l.length p.Code.length i (l.getD i 0) (len p.Code) (-1) := ⟨hfr.1, by simp only [len]; exact hfr.2, by simp only [len]; omega, .inl rfl⟩
        rw [ge_len (by omega), bi_false]
        simp only [hw2, idx_t (i := len p.Code - 1) (n := p.Code.length) (by simp only [len]; omega) (by simp only [len]; omega), gd_true, hr, on1_some, gg_dv, gg_nil, ht, hr3, hre]
        simp only [bi_if]
        repeat' split
        all_goals first | exact hrec _ _ _ hbk | exact hrec _ _ _ hbn
    · rw [ge_len (by omega)]
      exact ⟨bs, rfl, by omega, hok⟩
theorem Cut_is (p : api_Program) (hN : 2000 < N) (hc : Right p) (h22 : r1_RightProgram N p = some (0, gB.dv true [])) :
    ∃ bs : List D0, r10_Cut N p = some (0, (gD (.sl tB0)).dv bs []) ∧ bs.length ≤ p.Code.length ∧ bs ≠ [] ∧ ∀ k : Nat, k < bs.length → BlkOk bs.length p.Code.length k (bs.getD k Z0).1 (bs.getD k Z0).2.1 (bs.getD k Z0).2.2.1 := by
  unfold r10_Cut
  obtain ⟨l, h1, h2, h3⟩ := Leaders_is (N := N) p hN hc h22
  have := h2.len
  have := hc.2.1
  obtain ⟨bs, h4, h5, h6⟩ := cut_loop (N := N) p hc.1 hc.2.1 l h2 hN N 0 [] (by omega) (by omega) rfl (by simp)
  simp only [Int.natCast_zero] at h4
  simp only [h1, on1_some, gg_dv, gg_nil]
  refine ⟨bs, ?_, by omega, fun e => ?_, by rw [h5] at h6 ⊢; exact h6⟩
  · rw [h4]; exact onA_some 1 _ _
  · rw [e] at h5
    exact h3 (List.length_eq_zero_iff.1 h5.symm)
end Go.Proofs.Zz

/- The reference's cells: what their plain functions answer. -/
set_option linter.unusedVariables false
set_option linter.unusedSimpArgs false
namespace Go.Proofs.Zz
open Go
variable {N : Nat}
/-- What a cell's kind says of its instruction. -/
def InsK (kd : Int) (i : api_Ins) : Prop := (kd = 2 ∨ kd = 3 → 26 ≤ i.1 ∧ i.1 ≤ 30 ∧ 0 ≤ i.2.1 ∧ i.2.1 ≤ 15) ∧ (kd = 4 → 31 ≤ i.1 ∧ i.1 ≤ 33)
theorem insK_no {kd : Int} {i : api_Ins} (h2 : kd ≠ 2) (h3 : kd ≠ 3) (h4 : kd ≠ 4) : InsK kd i := ⟨fun h => by omega, fun h => by omega⟩
theorem insK_ld {kd : Int} {i : api_Ins} (hd : 0 ≤ i.2.1 ∧ i.2.1 ≤ 15) (h : (formM i.1 == 4) = true) (h4 : kd ≠ 4) : InsK kd i := by
  have h := beq_iff_eq.1 h
  refine ⟨fun _ => ?_, fun h => by omega⟩
  have : 26 ≤ i.1 ∧ i.1 ≤ 30 := by
    unfold formM at h
    repeat' split at h
    all_goals omega
  omega
theorem insK_st {kd : Int} {i : api_Ins} (h : (formM i.1 == 5) = true) (h2 : kd ≠ 2) (h3 : kd ≠ 3) : InsK kd i := by
  have h := beq_iff_eq.1 h
  refine ⟨fun h => by omega, fun _ => ?_⟩
  unfold formM at h
  repeat' split at h
  all_goals omega
/-- Cells of one place: at most m. -/
structure CellsOk (ks : List Int) (pc off : Int) (l : List api_Cell) (m : Nat) : Prop where
  len : l.length ≤ m
  all : ∀ c ∈ l, c.2.2.2.1 = pc ∧ c.2.2.2.2.1 = off
  kin : ∀ c ∈ l, c.1 ∈ ks
  ins : ∀ c ∈ l, InsK c.1 c.2.1
theorem CellsOk.nil (pc off : Int) (ks : List Int) : CellsOk ks pc off [] 0 := ⟨Nat.le_refl _, by simp, by simp, by simp⟩
theorem CellsOk.mono {ks : List Int} {pc off : Int} {l : List api_Cell} {m m' : Nat} (h : CellsOk ks pc off l m) (hm : m ≤ m') : CellsOk ks pc off l m' := ⟨Nat.le_trans h.len hm, h.all, h.kin, h.ins⟩
theorem CellsOk.sub {ks ks' : List Int} {pc off : Int} {l : List api_Cell} {m : Nat} (h : CellsOk ks pc off l m) (hm : ∀ x ∈ ks, x ∈ ks') : CellsOk ks' pc off l m := ⟨h.len, h.all, fun c hc => hm _ (h.kin c hc), h.ins⟩
theorem CellsOk.snoc {ks : List Int} {pc off : Int} {l : List api_Cell} {m : Nat} (h : CellsOk ks pc off l m) (k : Int) (i : api_Ins) (r : Int) (hk : k ∈ ks) (hx : InsK k i) : CellsOk ks pc off (l ++ [(k, (i, (r, (pc, (off, ())))))]) (m + 1) := by
  refine ⟨by have := h.len; simp; omega, fun c hc => ?_, fun c hc => ?_, fun c hc => ?_⟩
  · rcases List.mem_append.1 hc with hc | hc
    · exact h.all c hc
    · simp only [List.mem_singleton] at hc; subst hc; exact ⟨rfl, rfl⟩
  · rcases List.mem_append.1 hc with hc | hc
    · exact h.kin c hc
    · simp only [List.mem_singleton] at hc; subst hc; exact hk
  · rcases List.mem_append.1 hc with hc | hc
    · exact h.ins c hc
    · simp only [List.mem_singleton] at hc; subst hc; exact hx
/-- The kinds of a side's cells. -/
def KA : List Int := [1, 2, 3, 4, 5, 9, 10, 11, 12]
def KE : List Int := [1, 6, 7, 8, 9, 10, 11, 12]
/-- A maker of cells of one place. -/
def MkOk (ks : List Int) (pc off : Int) (m : r10_maker) (k : Nat) : Prop := m.Pc = pc ∧ m.Off = off ∧ CellsOk ks pc off m.L k
theorem MkOk.mk0 (pc off : Int) : MkOk [] pc off (r10_maker.mk pc off []) 0 := ⟨rfl, rfl, CellsOk.nil pc off []⟩
theorem MkOk.cons {ks : List Int} {pc off : Int} {m : r10_maker} {k : Nat} (h : MkOk ks pc off m k) (kd : Int) : MkOk (kd :: ks) pc off m k := ⟨h.1, h.2.1, h.2.2.sub fun x hx => List.mem_cons_of_mem _ hx⟩
theorem owned_is (o : List Int) (n : Int) : ∃ y : Int, r10_owned N o n = some (0, gI.dv y []) := by
  unfold r10_owned
  by_cases h1 : n < 1
  · rw [dt h1]; exact ⟨_, rfl⟩
  rw [df h1]
  by_cases h2 : n > 15
  · rw [dt h2]; exact ⟨_, rfl⟩
  rw [df h2, idx_t (by omega) (by omega)]
  exact ⟨_, rfl⟩
theorem side_is (i : api_Ins) (o : List Int) (hN : 2000 < N) : ∃ y : Int, r10_Side N i o = some (0, gI.dv y []) := by
  unfold r10_Side
  obtain ⟨w, hw⟩ := owned_is (N := N) o i.2.1
  obtain ⟨y, hy⟩ := anyE_is (N := N) o (readsM i) (readsM_len i) (fun x hx => (readsM_regs i x hx).2) hN
  simp only [r1_Form_is, r1_Reads_is, hw, hy, on1_some, gg_dv, gg_nil, bi_if]
  repeat' split
  all_goals exact ⟨_, rfl⟩
theorem sent_loop (l o : List Int) (hl : l.length ≤ 2) (hN : 2000 < N) : ∀ (n i : Nat) (out : List Int), i ≤ l.length → l.length - i < n → out.length ≤ i →
    ∃ out' : List Int, r10_sent_l0 N n l out (i : Int) o = some (1, (gD (.sl tI)).dv out' []) ∧ out'.length ≤ l.length := by
  intro n
  induction n with
  | zero => intro i out h1 h2; omega
  | succ n ih =>
    intro i out h1 h2 h3
    show ∃ out' : List Int, r10_sent_r0 N (r10_sent_l0 N n) l out (i : Int) o = _ ∧ _
    unfold r10_sent_r0
    by_cases hi : i < l.length
    · obtain ⟨w, hw⟩ := owned_is (N := N) o (l.getD i 0)
      obtain ⟨r, hr, _⟩ := find_is (N := N) out (l.getD i 0) (by omega) hN
      have ha := ih (i + 1) out (by omega) (by omega) (by omega)
      have hb := ih (i + 1) (out ++ [l.getD i 0]) (by omega) (by omega) (by simp; omega)
      rw [lt_len hi]
      simp only [bi_true, idx_n hi, gd_true, Int.toNat_natCast, hw, hr, on1_some, gg_dv, gg_nil, wS (show i ≤ 100000000 by omega), rmT (show (out.length + [l.getD i 0].length) * 8 ≤ 35184372088832 by simp; omega)]
      simp only [bi_if]
      repeat' split
      all_goals first | exact ha | exact hb
    · rw [ge_len (by omega)]
      exact ⟨out, rfl, by omega⟩
theorem sent_is (i : api_Ins) (o : List Int) (hN : 2000 < N) : ∃ l : List Int, r10_sent N i o = some (0, (gD (.sl tI)).dv l []) ∧ l.length ≤ 2 := by
  unfold r10_sent
  have h2 := readsM_len i
  obtain ⟨out, h, h1⟩ := sent_loop (N := N) (readsM i) o h2 hN N 0 [] (by omega) (by omega) (by simp)
  simp only [Int.natCast_zero] at h
  simp only [r1_Reads_is, on1_some, gg_dv, gg_nil, h, onA_some]
  exact ⟨out, rfl, by omega⟩
section
variable {ks : List Int} {pc off : Int} {m : r10_maker} {k : Nat}
theorem insC_is (kd : Int) (i : api_Ins) (h : MkOk ks pc off m k) (hm : k ≤ 1000) (hk : kd ∈ ks) (hx : InsK kd i) : ∃ m' : r10_maker, r10_maker_ins N kd i m = some (0, g_r10_maker.dv m' []) ∧ MkOk ks pc off m' (k + 1) := by
  unfold r10_maker_ins
  obtain ⟨rfl, rfl, h⟩ := h
  have := h.len
  rw [rmT (by simp; omega), gd_true]
  exact ⟨_, rfl, rfl, rfl, h.snoc kd i 0 hk hx⟩
theorem regC_is (kd r : Int) (h : MkOk ks pc off m k) (hm : k ≤ 1000) (hk : kd ∈ ks) (hx : InsK kd api_Ins.z) : ∃ m' : r10_maker, r10_maker_reg N kd r m = some (0, g_r10_maker.dv m' []) ∧ MkOk ks pc off m' (k + 1) := by
  unfold r10_maker_reg
  obtain ⟨rfl, rfl, h⟩ := h
  have := h.len
  rw [rmT (by simp; omega), gd_true]
  exact ⟨_, rfl, rfl, rfl, h.snoc kd api_Ins.z r hk hx⟩
theorem plainC_is (kd : Int) (h : MkOk ks pc off m k) (hm : k ≤ 1000) (hk : kd ∈ ks) (hx : InsK kd api_Ins.z) : ∃ m' : r10_maker, r10_maker_plain N kd m = some (0, g_r10_maker.dv m' []) ∧ MkOk ks pc off m' (k + 1) := by
  unfold r10_maker_plain
  obtain ⟨rfl, rfl, h⟩ := h
  have := h.len
  rw [rmT (by simp; omega), gd_true]
  exact ⟨_, rfl, rfl, rfl, h.snoc kd api_Ins.z 0 hk hx⟩
end
theorem MkOk.mono {ks : List Int} {pc off : Int} {m : r10_maker} {k k' : Nat} (h : MkOk ks pc off m k) (hk : k ≤ k') : MkOk ks pc off m k' := ⟨h.1, h.2.1, h.2.2.mono hk⟩
theorem regs_loop (kd : Int) (r : List Int) (hr : r.length ≤ 2) (pc off : Int) (ks : List Int) (hk : kd ∈ ks) (hx : InsK kd api_Ins.z) : ∀ (n i : Nat) (m : r10_maker) (k : Nat), i ≤ r.length → r.length - i < n → MkOk ks pc off m k → k ≤ 900 + i →
    ∃ m' : r10_maker, r10_maker_regs_l0 N n kd r (i : Int) m = some (1, g_r10_maker.dv m' []) ∧ MkOk ks pc off m' (k + (r.length - i)) := by
  intro n
  induction n with
  | zero => intro i m k h1 h2; omega
  | succ n ih =>
    intro i m k h1 h2 h3 h4
    show ∃ m' : r10_maker, r10_maker_regs_r0 N (r10_maker_regs_l0 N n) kd r (i : Int) m = _ ∧ _
    unfold r10_maker_regs_r0
    by_cases hi : i < r.length
    · obtain ⟨m1, h5, h6⟩ := regC_is (N := N) kd (r.getD i 0) h3 (by omega) hk hx
      rw [lt_len hi]
      simp only [bi_true, idx_n hi, gd_true, Int.toNat_natCast, h5, on1_some, gg_dv, gg_nil, wS (show i ≤ 100000000 by omega)]
      obtain ⟨m', g1, g2⟩ := ih (i + 1) m1 (k + 1) (by omega) (by omega) h6 (by omega)
      exact ⟨m', g1, g2.mono (by omega)⟩
    · rw [ge_len (by omega)]
      exact ⟨m, rfl, h3.mono (by omega)⟩
theorem regsC_is (kd : Int) (r : List Int) (hr : r.length ≤ 2) {ks : List Int} {pc off : Int} {m : r10_maker} {k : Nat} (h : MkOk ks pc off m k) (hm : k ≤ 900) (hx : InsK kd api_Ins.z) (hN : 2000 < N) :
    ∃ m' : r10_maker, r10_maker_regs N kd r m = some (0, g_r10_maker.dv m' []) ∧ MkOk (kd :: ks) pc off m' (k + 2) := by
  unfold r10_maker_regs
  obtain ⟨m', h1, h2⟩ := regs_loop (N := N) kd r hr pc off (kd :: ks) (by simp) hx N 0 m k (by omega) (by omega) (h.cons kd) (by omega)
  simp only [Int.natCast_zero] at h1
  rw [h1]
  simp only [onA_some, gg_dv, gg_nil]
  exact ⟨m', rfl, h2.mono (by omega)⟩
/-- Two lists of cells of one place. -/
def GoodC (pc off : Int) (r : Option Rs) : Prop := ∃ A E : List api_Cell, r = some (0, (gD (.sl t_api_Cell)).dv A ((gD (.sl t_api_Cell)).dv E [])) ∧ CellsOk KA pc off A 8 ∧ CellsOk KE pc off E 8
section
variable {ks : List Int} {pc off : Int} {m : r10_maker} {k : Nat}
theorem gIns {kd : Int} {i : api_Ins} {K : r10_maker → Option Rs} (h : MkOk ks pc off m k) (hm : k ≤ 900) (hx : InsK kd i) (hk : ∀ m', MkOk (kd :: ks) pc off m' (k + 1) → GoodC pc off (K m')) : GoodC pc off (on1 (r10_maker_ins N kd i m) (gg [p_r10_maker] K)) := by
  obtain ⟨m', h1, h2⟩ := insC_is (N := N) kd i (h.cons kd) (by omega) (by simp) hx
  rw [h1, on1_some, gg_dv, gg_nil]; exact hk m' h2
theorem gReg {kd r : Int} {K : r10_maker → Option Rs} (h : MkOk ks pc off m k) (hm : k ≤ 900) (hx : InsK kd api_Ins.z) (hk : ∀ m', MkOk (kd :: ks) pc off m' (k + 1) → GoodC pc off (K m')) : GoodC pc off (on1 (r10_maker_reg N kd r m) (gg [p_r10_maker] K)) := by
  obtain ⟨m', h1, h2⟩ := regC_is (N := N) kd r (h.cons kd) (by omega) (by simp) hx
  rw [h1, on1_some, gg_dv, gg_nil]; exact hk m' h2
theorem gPlain {kd : Int} {K : r10_maker → Option Rs} (h : MkOk ks pc off m k) (hm : k ≤ 900) (hx : InsK kd api_Ins.z) (hk : ∀ m', MkOk (kd :: ks) pc off m' (k + 1) → GoodC pc off (K m')) : GoodC pc off (on1 (r10_maker_plain N kd m) (gg [p_r10_maker] K)) := by
  obtain ⟨m', h1, h2⟩ := plainC_is (N := N) kd (h.cons kd) (by omega) (by simp) hx
  rw [h1, on1_some, gg_dv, gg_nil]; exact hk m' h2
theorem gRegs {kd : Int} {r : List Int} {K : r10_maker → Option Rs} (hN : 2000 < N) (h : MkOk ks pc off m k) (hr : r.length ≤ 2) (hm : k ≤ 900) (hx : InsK kd api_Ins.z) (hk : ∀ m', MkOk (kd :: ks) pc off m' (k + 2) → GoodC pc off (K m')) : GoodC pc off (on1 (r10_maker_regs N kd r m) (gg [p_r10_maker] K)) := by
  obtain ⟨m', h1, h2⟩ := regsC_is (N := N) kd r hr h hm hx hN
  rw [h1, on1_some, gg_dv, gg_nil]; exact hk m' h2
theorem gSent {i : api_Ins} {o : List Int} {K : List Int → Option Rs} (hN : 2000 < N) (hk : ∀ r : List Int, r.length ≤ 2 → GoodC pc off (K r)) : GoodC pc off (on1 (r10_sent N i o) (gg [pD (.sl tI)] K)) := by
  obtain ⟨r, h1, h2⟩ := sent_is (N := N) i o hN
  rw [h1, on1_some, gg_dv, gg_nil]; exact hk r h2
theorem gSide {i : api_Ins} {o : List Int} {K : Int → Option Rs} (hN : 2000 < N) (hk : ∀ y, GoodC pc off (K y)) : GoodC pc off (on1 (r10_Side N i o) (gg [pI] K)) := by
  obtain ⟨r, h1⟩ := side_is (N := N) i o hN
  rw [h1, on1_some, gg_dv, gg_nil]; exact hk r
theorem gOwned {o : List Int} {n : Int} {K : Int → Option Rs} (hk : ∀ y, GoodC pc off (K y)) : GoodC pc off (on1 (r10_owned N o n) (gg [pI] K)) := by
  obtain ⟨r, h1⟩ := owned_is (N := N) o n
  rw [h1, on1_some, gg_dv, gg_nil]; exact hk r
theorem gOnE {o : List Int} {n : Int} {K : Bool → Option Rs} (hn : n ≤ 15) (hk : ∀ y, GoodC pc off (K y)) : GoodC pc off (on1 (r10_onE N o n) (gg [pB] K)) := by
  obtain ⟨r, h1⟩ := onE_is (N := N) o n hn
  rw [h1, on1_some, gg_dv, gg_nil]; exact hk r
theorem gBi {c : Bool} {a b : Option Rs} (ha : c = true → GoodC pc off a) (hb : c = false → GoodC pc off b) : GoodC pc off (bi c a b) := by
  cases c with
  | true => exact ha rfl
  | false => exact hb rfl
theorem gEnd {A E : r10_maker} {ka ke : List Int} {m n : Nat} (hA : MkOk ka pc off A m) (hE : MkOk ke pc off E n) (hm : m ≤ 8) (hn : n ≤ 8) (ha : ∀ x ∈ ka, x ∈ KA) (he : ∀ x ∈ ke, x ∈ KE) : GoodC pc off (some (0, (gD (.sl t_api_Cell)).dv A.L ((gD (.sl t_api_Cell)).dv E.L []))) := ⟨A.L, E.L, rfl, (hA.2.2.mono hm).sub ha, (hE.2.2.mono hn).sub he⟩
theorem gEndA {A : r10_maker} {ka : List Int} {m : Nat} (hA : MkOk ka pc off A m) (hm : m ≤ 8) (ha : ∀ x ∈ ka, x ∈ KA) : GoodC pc off (some (0, (gD (.sl t_api_Cell)).dv A.L ((gD (.sl t_api_Cell)).dv ([] : List api_Cell) []))) := ⟨A.L, [], rfl, (hA.2.2.mono hm).sub ha, (CellsOk.nil pc off _).mono (by omega)⟩
theorem gEnd0 : GoodC pc off (some (0, (gD (.sl t_api_Cell)).dv ([] : List api_Cell) ((gD (.sl t_api_Cell)).dv ([] : List api_Cell) []))) := ⟨[], [], rfl, (CellsOk.nil pc off _).mono (by omega), (CellsOk.nil pc off _).mono (by omega)⟩
end
theorem Emit_is (i : api_Ins) (o : List Int) (pc off : Int) (hN : 2000 < N) : GoodC pc off (r10_Emit N i o pc off) := by
  unfold r10_Emit
  have h0 := MkOk.mk0 pc off
  rw [r1_RightIns_is, on1_some, gg_dv, gg_nil]
  cases hi : rightIns i with
  | false => exact gEnd0
  | true =>
    obtain ⟨⟨d0, d1⟩, _, _⟩ := rightIns_regs hi
    obtain ⟨z, hz⟩ := anyE_is (N := N) o (readsM i) (readsM_len i) (fun x hx => (readsM_regs i x hx).2) hN
    simp only [Bool.not_true, bi_false, r1_Form_is, r1_Reads_is, hz, on1_some, gg_dv, gg_nil]
    repeat' first
      | assumption
      | omega
      | decide
      | exact insK_no (by decide) (by decide) (by decide)
      | exact insK_ld ⟨d0, d1⟩ (by assumption) (by decide)
      | exact insK_st (by assumption) (by decide) (by decide)
      | intro l' hl'
      | intro y'
      | with_reducible apply gBi
      | with_reducible apply gIns
      | with_reducible apply gReg
      | with_reducible apply gPlain
      | with_reducible apply gSent hN
      | with_reducible apply gRegs hN
      | with_reducible apply gSide hN
      | with_reducible apply gOwned
      | with_reducible apply gOnE d1
      | with_reducible apply gEnd0
      | with_reducible apply gEndA
      | with_reducible apply gEnd
end Go.Proofs.Zz

/- The reference's splits: what their plain functions answer. -/
set_option linter.unusedVariables false
set_option linter.unusedSimpArgs false
set_option maxRecDepth 100000
namespace Go.Proofs.Zz
open Go
variable {N : Nat}
/-- Cells of instructions from f to ahead of k. -/
structure SpanOk (ks : List Int) (f k : Int) (l : List api_Cell) : Prop where
  len : (l.length : Int) ≤ 8 * (k - f)
  all : ∀ c ∈ l, f ≤ c.2.2.2.1 ∧ c.2.2.2.1 < k ∧ c.2.2.2.2.1 = c.2.2.2.1 - f
  kin : ∀ c ∈ l, c.1 ∈ ks
  ins : ∀ c ∈ l, InsK c.1 c.2.1
theorem SpanOk.app {ks : List Int} {f k : Int} {l r : List api_Cell} (h : SpanOk ks f k l) (hk : f ≤ k) (h' : CellsOk ks k (k - f) r 8) : SpanOk ks f (k + 1) (l ++ r) := by
  refine ⟨?_, fun c hc => ?_, fun c hc => (List.mem_append.1 hc).elim (h.kin c) (h'.kin c), fun c hc => (List.mem_append.1 hc).elim (h.ins c) (h'.ins c)⟩
  · have := h.len; have := h'.len; simp; omega
  · rcases List.mem_append.1 hc with hc | hc
    · have := h.all c hc; omega
    · have := h'.all c hc; omega
theorem with2_loop (ii nn i2 : Int) (p : api_Program) (hc : Right p) (o : List Int) (rb : List api_Block) (ro so : List Int) (f t nx tk : Int) (hf : 0 ≤ f) (ht : t ≤ p.Code.length) (hN : 2000 < N) : ∀ (n : Nat) (k : Int) (A E : List api_Cell), f ≤ k → k ≤ t → t - k < n → SpanOk KA f k A → SpanOk KE f k E →
    ∃ A' E' : List api_Cell, r10_With_l2 N n ii k p.Code p.Size p.Data o rb ro nn i2 so f t nx tk A E = some (3, dvG UW (ii, p.Code, p.Size, p.Data, o, rb, ro, nn, i2, so, f, t, nx, tk, A', E', ())) ∧ SpanOk KA f t A' ∧ SpanOk KE f t E' := by
  obtain ⟨hc1, hc2, hc3⟩ := hc
  intro n
  induction n with
  | zero => intro k A E h0 h1 h2; omega
  | succ n ih =>
    intro k A E h0 h1 h2 hA hE
    show ∃ A' E' : List api_Cell, r10_With_r2 N (r10_With_l2 N n) ii k p.Code p.Size p.Data o rb ro nn i2 so f t nx tk A E = _ ∧ _
    unfold r10_With_r2
    by_cases hi : k < t
    · have hw : w.i64 (k - f) = k - f := wI (by omega) (by omega)
      obtain ⟨X, Y, h3, h4, h5⟩ := Emit_is (N := N) (p.Code.getD k.toNat api_Ins.z) o k (k - f) hN
      have hlA := hA.len
      have hlE := hE.len
      have hlX := h4.len
      have hlY := h5.len
      rw [dt hi]
      simp only [bi_true, idx_t (i := k) (n := p.Code.length) (by omega) (by omega), gd_true, hw, h3, on1_some, gg_dv, gg_nil, wS' (show 0 ≤ k by omega) (show k ≤ 100000000 by omega), rmT (show (A.length + X.length) * 72 ≤ 35184372088832 by omega), rmT (show (E.length + Y.length) * 72 ≤ 35184372088832 by omega)]
      exact ih (k + 1) _ _ (by omega) (by omega) (by omega) (hA.app h0 h4) (hE.app h0 h5)
    · rw [df hi]
      have : k = t := by omega
      subst this
      exact ⟨A, E, rfl, hA, hE⟩
theorem st_is (p : api_Program) (hc : Right p) (o : List Int) (rb : List api_Block) (ro so : List Int) (n i : Int) (h0 : 0 ≤ i) (h1 : i < n) (h2 : n ≤ 2000) (v : D0) (hv0 : 0 ≤ v.1) (hv1 : v.1 ≤ v.2.1) (hv2 : v.2.1 ≤ p.Code.length) (hN : 2000 < N) :
    ∃ A E : List api_Cell, st_W N n i (dvG XW (p.Code, p.Size, p.Data, o, rb, ro, ())) (dvG SW (so, ())) v = some (dvG XW (p.Code, p.Size, p.Data, o, rb, ro, ()), dvG SW (so, ()), (v.1, (v.2.1, (v.2.2.1, (v.2.2.2.1, (A, (E, ()))))))) ∧ SpanOk KA v.1 v.2.1 A ∧ SpanOk KE v.1 v.2.1 E := by
  obtain ⟨A, E, h3, h4, h5⟩ := with2_loop (N := N) i n i p hc o rb ro so v.1 v.2.1 v.2.2.1 v.2.2.2.1 hv0 hv2 hN N v.1 [] [] (by omega) hv1 (by have := hc.2.1; omega) ⟨by simp, by simp, by simp, by simp⟩ ⟨by simp, by simp, by simp, by simp⟩
  refine ⟨A, E, ?_, h4, h5⟩
  unfold st_W
  refine (gg_dvG XW _ (p.Code, p.Size, p.Data, o, rb, ro, ())).trans ?_
  refine (gg_dvG SW _ (so, ())).trans ?_
  show onA 3 (r10_With_l2 N N i v.1 p.Code p.Size p.Data o rb ro n i so v.1 v.2.1 v.2.2.1 v.2.2.2.1 [] []) _ = _
  rw [h3, onA_some]
  refine (gg_dvG UW _ (i, p.Code, p.Size, p.Data, o, rb, ro, n, i, so, v.1, v.2.1, v.2.2.1, v.2.2.2.1, A, E, ())).trans ?_
  show stW n i i n i _ = _
  unfold stW
  rw [if_pos ⟨h0, h1, rfl, rfl, rfl, wS' h0 (by omega)⟩]
/-- What a block keeps, and its cells. -/
def Kept (v : D0) (z : api_Block) : Prop := z.1 = v.1 ∧ z.2.1 = v.2.1 ∧ z.2.2.1 = v.2.2.1 ∧ SpanOk KA z.1 z.2.1 z.2.2.2.2.1 ∧ SpanOk KE z.1 z.2.1 z.2.2.2.2.2.1
theorem walk_is (p : api_Program) (hc : Right p) (o : List Int) (rb : List api_Block) (ro so : List Int) (n : Int) (h2 : n ≤ 2000) (hN : 2000 < N) : ∀ (rest : List D0) (i : Int), 0 ≤ i → i + rest.length = n → (∀ v ∈ rest, 0 ≤ v.1 ∧ v.1 ≤ v.2.1 ∧ v.2.1 ≤ p.Code.length) →
    ∃ zs : List api_Block, (ol_W N).walk n rest i (dvG XW (p.Code, p.Size, p.Data, o, rb, ro, ())) (dvG SW (so, ())) = some (dvG XW (p.Code, p.Size, p.Data, o, rb, ro, ()), dvG SW (so, ()), zs) ∧ zs.length = rest.length ∧ ∀ k : Nat, k < rest.length → Kept (rest.getD k Z0) (zs.getD k api_Block.z)
  | [], i, _, _, _ => ⟨[], rfl, rfl, by simp⟩
  | v :: rest, i, h0, h1, hv => by
    simp only [List.length_cons] at h1
    obtain ⟨g1, g2, g3⟩ := hv v (by simp)
    obtain ⟨A, E, h3, h4, h5⟩ := st_is (N := N) p hc o rb ro so n i h0 (by omega) h2 v g1 g2 g3 hN
    obtain ⟨zs, h6, h7, h8⟩ := walk_is p hc o rb ro so n h2 hN rest (i + 1) (by omega) (by omega) (fun u hu => hv u (by simp [hu]))
    refine ⟨(v.1, (v.2.1, (v.2.2.1, (v.2.2.2.1, (A, (E, ())))))) :: zs, ?_, by simp [h7], fun k hk => ?_⟩
    · have h3' : (ol_W N).step n i (dvG XW (p.Code, p.Size, p.Data, o, rb, ro, ())) (dvG SW (so, ())) v = some (dvG XW (p.Code, p.Size, p.Data, o, rb, ro, ()), dvG SW (so, ()), (v.1, (v.2.1, (v.2.2.1, (v.2.2.2.1, (A, (E, ()))))))) := h3
      refine (OL.walk_cons (ol_W N) n v rest i _ _).trans ?_
      rw [h3']
      simp only []
      rw [h6]
      rfl
    · cases k with
      | zero => exact ⟨rfl, rfl, rfl, h4, h5⟩
      | succ k => exact h8 k (by simpa using hk)
/-- A split: blocks of a program of n instructions. -/
structure SplitOk (zs : List api_Block) : Prop where
  ne : zs ≠ []
  len : zs.length ≤ 2000
  blk : ∀ k : Nat, k < zs.length → 0 ≤ (zs.getD k api_Block.z).1 ∧ (zs.getD k api_Block.z).1 < (zs.getD k api_Block.z).2.1 ∧ (zs.getD k api_Block.z).2.1 ≤ 2000 ∧ ((zs.getD k api_Block.z).2.2.1 = -1 ∨ ((k : Int) < (zs.getD k api_Block.z).2.2.1 ∧ (zs.getD k api_Block.z).2.2.1 < zs.length)) ∧
    SpanOk KA (zs.getD k api_Block.z).1 (zs.getD k api_Block.z).2.1 (zs.getD k api_Block.z).2.2.2.2.1 ∧ SpanOk KE (zs.getD k api_Block.z).1 (zs.getD k api_Block.z).2.1 (zs.getD k api_Block.z).2.2.2.2.2.1
theorem With_is (p : api_Program) (o : List Int) (hN : 2000 < N) : ∃ (s : api_Split) (e : Int), r10_With N p o = some (0, g_api_Split.dv s (gI.dv e [])) ∧ s.Blocks.length ≤ 2000 ∧ (e = 0 → SplitOk s.Blocks) := by
  unfold r10_With
  obtain ⟨y, hy, hp⟩ := Closed_is (N := N) p o hN
  rw [hy, on1_some, gg_dv, gg_nil]
  cases y with
  | false => exact ⟨_, _, rfl, by simp, fun h => by simp at h⟩
  | true =>
    obtain ⟨hc, h22⟩ := hp rfl
    obtain ⟨bs, h1, h2, h3, h4⟩ := Cut_is (N := N) p hN hc h22
    have hc2 := hc.2.1
    obtain ⟨zs, h5, h6, h7⟩ := walk_is (N := N) p hc o [] (List.replicate 16 0) o (bs.length : Int) (by omega) hN bs 0 (by omega) (by omega) (fun v hv => by
      obtain ⟨k, hk, e⟩ := List.getElem_of_mem hv
      have := h4 k hk
      rw [List.getD_eq_getElem?_getD, List.getElem?_eq_getElem hk, Option.getD_some, e] at this
      exact ⟨this.1, by have := this.2.1; omega, this.2.2.1⟩)
    have hl : r10_With_l0 N N 0 p.Code p.Size p.Data o [] (List.replicate 16 0) bs o = some (1, dvG LX (p.Code, p.Size, p.Data, o, [], List.replicate 16 0, zs, o, ())) := by
      unfold r10_With_l0
      rw [if_pos rfl, h5]
      rfl
    rw [Bool.not_true, bi_false, h1, on1_some]
    refine ⟨⟨zs, o⟩, 0, ?_, by simp only; omega, fun _ => ⟨fun e => ?_, by simp only; omega, fun k hk => ?_⟩⟩
    · refine (gg_dv _ _ _ _ _).trans ?_
      rw [gg_nil]
      show onA 1 (r10_With_l0 N N 0 p.Code p.Size p.Data o [] (List.replicate 16 0) bs o) _ = _
      rw [hl, onA_some]
      exact gg_dvG LX _ (p.Code, p.Size, p.Data, o, [], List.replicate 16 0, zs, o, ())
    · simp only at e; rw [e] at h6; exact h3 (List.length_eq_zero_iff.1 h6.symm)
    · simp only at hk ⊢
      obtain ⟨k1, k2, k3, k4, k5⟩ := h7 k (by omega)
      obtain ⟨g1, g2, g3, g4⟩ := h4 k (by omega)
      rw [k1, k2, k3]
      rw [k1, k2] at k4 k5
      exact ⟨g1, g2, by omega, by rw [h6]; exact g4, k4, k5⟩
theorem Split_is (p : api_Program) (hN : 2000 < N) : ∃ (s : api_Split) (e : Int), r10_Split N p = some (0, g_api_Split.dv s (gI.dv e [])) ∧ s.Blocks.length ≤ 2000 ∧ (e = 0 → SplitOk s.Blocks) := by
  unfold r10_Split
  obtain ⟨o, ho⟩ := Owner_is (N := N) p hN
  obtain ⟨s, e, h1, h2⟩ := With_is (N := N) p o hN
  simp only [ho, on1_some, gg_dv, gg_nil, h1]
  exact ⟨s, e, rfl, h2⟩
theorem owners_loop (pick : Int) (r : List Int) : ∀ (n : Nat) (i : Int) (o : List Int), 1 ≤ i → i ≤ 16 → 16 - i < n →
    ∃ o', l11_Owners_l0 N n pick i r o = some (1, (gD (.ar 16 tI)).dv r ((gD (.ar 16 tI)).dv o' [])) := by
  intro n
  induction n with
  | zero => intro i o h0 h1 h2; omega
  | succ n ih =>
    intro i o h0 h1 h2
    show ∃ o', l11_Owners_r0 N (l11_Owners_l0 N n) pick i r o = _
    unfold l11_Owners_r0
    by_cases hi : i < 16
    · have hu : w.u64 i = i := IntWalk.u64_in _ (by omega)
      rw [dt hi, idx_t (by omega) (by omega), hu, df (show ¬ i < 0 by omega), wS' (by omega) (by omega)]
      simp only [bi_true, gd_true, gf_false]
      simp only [bi_if]
      split
      · exact ih _ _ (by omega) (by omega) (by omega)
      · exact ih _ _ (by omega) (by omega) (by omega)
    · rw [df hi]
      exact ⟨_, rfl⟩
theorem Splits_is (p : api_Program) (pick : Int) (hN : 2000 < N) : ∃ (s : api_Split) (ok : Bool), l21_Splits N p pick = some (0, g_api_Split.dv s (gB.dv ok [])) ∧ s.Blocks.length ≤ 2000 ∧ (ok = true → SplitOk s.Blocks) := by
  unfold l21_Splits l11_Owners
  obtain ⟨o, ho⟩ := owners_loop (N := N) pick (List.replicate 16 0) N 1 (List.replicate 16 0) (by omega) (by omega) (by omega)
  obtain ⟨s, e, h1, h2, h3⟩ := With_is (N := N) p o hN
  obtain ⟨s2, e2, g1, g2, g3⟩ := Split_is (N := N) p hN
  simp only [ho, onA_some, on1_some, gg_dv, gg_nil, h1, g1]
  by_cases he : e = 0
  · rw [he]
    exact ⟨s, true, rfl, h2, fun _ => h3 he⟩
  · rw [show (e != 0) = true from bne_iff_ne.2 he]
    exact ⟨s2, e2 == 0, rfl, g2, fun h => g3 (by simpa using h)⟩
theorem Few_is (p : api_Program) : l4_Few N p = some (0, gB.dv (decide (p.Code.length ≤ 200 ∧ p.Data.length ≤ 500)) []) := by
  unfold l4_Few
  simp only [bi_if, decide_eq_true_eq, len]
  split
  · refine retB ?_; rw [Bool.eq_iff_iff]; simp only [decide_eq_true_eq]; omega
  · refine retB ?_; rw [df (by omega)]
end Go.Proofs.Zz
