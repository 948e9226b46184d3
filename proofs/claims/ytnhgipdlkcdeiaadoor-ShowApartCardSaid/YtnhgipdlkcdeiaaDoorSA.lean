import Derived.Lib.ItoaNum
import Derived.Lib.Join
import Derived.Test.YtnhgipdlkcdeiaaDoorA3
import Derived.IntWalk
import Derived.KernelRfl
import Derived.Lib.ItoaLen
import Derived.Lib.SlicesS
set_option linter.unusedSimpArgs false
set_option linter.unusedVariables false
/- Texts of numbers, of registers, of instructions, as bytes: no two alike. No program in sight. -/
set_option linter.unusedVariables false
set_option linter.unusedSimpArgs false
namespace Go.Proofs.Zs
open Go Go.Lib

/-- The number that digits write. -/
def valL (l : List UInt8) : Nat := l.foldl (fun a c => a * 10 + (c.toNat - 48)) 0
theorem valL_snoc (l : List UInt8) (c : UInt8) : valL (l ++ [c]) = valL l * 10 + (c.toNat - 48) := by simp [valL]
theorem digit_toNat {d : Nat} (h : d < 10) : (UInt8.ofNat (48 + d)).toNat = 48 + d := by simp [UInt8.toNat_ofNat]; omega
theorem dec_step {u : Nat} (h : ¬ u < 10) : decDigits u = decDigits (u / 10) ++ [UInt8.ofNat (48 + u % 10)] := by rw [decDigits, dif_neg h]
theorem valL_dec : ∀ u, valL (decDigits u) = u := by
  intro u
  induction u using Nat.strongRecOn with
  | ind u ih =>
    by_cases h : u < 10
    · rw [decDigits_one h]; simp only [valL, List.foldl_cons, List.foldl_nil, digit_toNat h]; omega
    · rw [dec_step h, valL_snoc, ih (u / 10) (by omega), digit_toNat (by omega)]; omega
theorem dec_mem : ∀ (u : Nat), ∀ c ∈ decDigits u, 48 ≤ c.toNat ∧ c.toNat ≤ 57 := by
  intro u
  induction u using Nat.strongRecOn with
  | ind u ih =>
    intro c hc
    by_cases h : u < 10
    · rw [decDigits_one h, List.mem_singleton] at hc; rw [hc, digit_toNat h]; omega
    · rw [dec_step h, List.mem_append, List.mem_singleton] at hc
      rcases hc with hc | hc
      · exact ih (u / 10) (by omega) c hc
      · rw [hc, digit_toNat (by omega)]; omega
theorem dec_inj {u v : Nat} (h : decDigits u = decDigits v) : u = v := by rw [← valL_dec u, h, valL_dec]
theorem dec_ne (u : Nat) : decDigits u ≠ [] := by
  by_cases h : u < 10
  · rw [decDigits_one h]; simp
  · rw [dec_step h]; simp
theorem itoa_mem (n : Int) : ∀ c ∈ itoa n, c = 45 ∨ 48 ≤ c.toNat ∧ c.toNat ≤ 57 := by
  intro c hc
  unfold itoa at hc
  split at hc
  · rcases List.mem_cons.1 hc with h | h
    · exact .inl h
    · exact .inr (dec_mem _ c h)
  · exact .inr (dec_mem _ c hc)
theorem not_dash {u : Nat} {l : List UInt8} (h : decDigits u = 45 :: l) : False := by
  have := dec_mem u 45 (by rw [h]; simp)
  simp at this
theorem itoa_inj {n m : Int} (h : itoa n = itoa m) : n = m := by
  unfold itoa at h
  split at h
  · split at h
    · have := dec_inj (List.cons.inj h).2; omega
    · exact (not_dash h.symm).elim
  · split at h
    · exact (not_dash h).elim
    · have := dec_inj h; omega
theorem itoa_ne (n : Int) : itoa n ≠ [] := by
  unfold itoa
  split
  · simp
  · exact dec_ne _
theorem itoa_not {n : Int} {c : UInt8} (h : c ≠ 45) (h1 : c.toNat < 48 ∨ 57 < c.toNat) : c ∉ itoa n := by
  intro hc
  rcases itoa_mem n c hc with h2 | h2
  · exact h h2
  · omega
/-- What stands ahead of the first sign of a kind. -/
theorem cut_inj {c : UInt8} : ∀ {a a' b b' : List UInt8}, a ++ c :: b = a' ++ c :: b' → c ∉ a → c ∉ a' → a = a' ∧ b = b'
  | [], [], b, b', h, _, _ => by simp at h; exact ⟨rfl, h⟩
  | [], x :: a', b, b', h, _, h2 => by
    simp only [List.nil_append, List.cons_append, List.cons.injEq] at h
    exact absurd (by rw [← h.1]; simp) h2
  | x :: a, [], b, b', h, h1, _ => by
    simp only [List.nil_append, List.cons_append, List.cons.injEq] at h
    exact absurd (by rw [h.1]; simp) h1
  | x :: a, y :: a', b, b', h, h1, h2 => by
    simp only [List.cons_append, List.cons.injEq] at h
    obtain ⟨g1, g2⟩ := cut_inj h.2 (fun hc => h1 (by simp [hc])) (fun hc => h2 (by simp [hc]))
    exact ⟨by rw [h.1, g1], g2⟩
theorem cut_no {c : UInt8} {a b : List UInt8} {l : List UInt8} (h : a = l ++ c :: b) : c ∈ a := by rw [h]; simp

def regL (n : Int) : List UInt8 := 114 :: itoa n
theorem regL_inj {n m : Int} (h : regL n = regL m) : n = m := itoa_inj (List.cons.inj h).2
theorem regL_not {n : Int} {c : UInt8} (h : c ≠ 45) (h1 : c.toNat < 48 ∨ 57 < c.toNat) (h2 : c ≠ 114) : c ∉ regL n := by
  intro hc
  rcases List.mem_cons.1 hc with h3 | h3
  · exact h2 h3
  · exact itoa_not h h1 h3
/-- The fields of an instruction, by its form. -/
def fieldsL (f D A B I : Int) : List UInt8 :=
  if f = 1 then regL D ++ [44, 32] ++ regL A ++ [44, 32] ++ regL B
  else if f = 2 then regL D ++ [44, 32] ++ regL A ++ [44, 32] ++ itoa I
  else if f = 3 then regL D ++ [44, 32] ++ itoa I
  else if f = 4 then regL D ++ [44, 32] ++ itoa I ++ [40] ++ regL A ++ [41]
  else if f = 5 then regL B ++ [44, 32] ++ itoa I ++ [40] ++ regL A ++ [41]
  else if f = 6 then regL A ++ [44, 32] ++ regL B ++ [44, 32] ++ itoa I
  else if f = 7 then itoa I
  else []
theorem c44 (n : Int) : (44 : UInt8) ∉ regL n := regL_not (by decide) (by decide) (by decide)
theorem i40 (n : Int) : (40 : UInt8) ∉ itoa n := itoa_not (by decide) (by decide)
theorem comma_inj {n m : Int} {r s : List UInt8} (h : regL n ++ [44, 32] ++ r = regL m ++ [44, 32] ++ s) : n = m ∧ r = s := by
  simp only [List.append_assoc, List.cons_append, List.nil_append] at h
  obtain ⟨h1, h2⟩ := cut_inj h (c44 n) (c44 m)
  simp only [List.cons.injEq, true_and] at h2
  exact ⟨regL_inj h1, h2⟩
theorem paren_inj {n m a b : Int} (h : itoa n ++ [40] ++ regL a ++ [41] = itoa m ++ [40] ++ regL b ++ [41]) : n = m ∧ a = b := by
  simp only [List.append_assoc, List.cons_append, List.nil_append] at h
  obtain ⟨h1, h2⟩ := cut_inj h (i40 n) (i40 m)
  exact ⟨itoa_inj h1, regL_inj (List.append_cancel_right h2)⟩
theorem fieldsL_inj {f D A B I D' A' B' I' : Int} (h : fieldsL f D A B I = fieldsL f D' A' B' I') :
    (f = 1 → D = D' ∧ A = A' ∧ B = B') ∧ (f = 2 → D = D' ∧ A = A' ∧ I = I') ∧ (f = 3 → D = D' ∧ I = I') ∧ (f = 4 → D = D' ∧ I = I' ∧ A = A') ∧ (f = 5 → B = B' ∧ I = I' ∧ A = A') ∧ (f = 6 → A = A' ∧ B = B' ∧ I = I') ∧ (f = 7 → I = I') := by
  refine ⟨?_, ?_, ?_, ?_, ?_, ?_, ?_⟩ <;> rintro rfl <;> simp only [fieldsL, if_true, if_false, Int.reduceEq] at h
  · simp only [List.append_assoc] at h
    have h1 := comma_inj (by simpa only [List.append_assoc] using h)
    have h2 := comma_inj (by simpa only [List.append_assoc] using h1.2)
    exact ⟨h1.1, h2.1, regL_inj h2.2⟩
  · have h1 := comma_inj (by simpa only [List.append_assoc] using h)
    have h2 := comma_inj (by simpa only [List.append_assoc] using h1.2)
    exact ⟨h1.1, h2.1, itoa_inj h2.2⟩
  · have h1 := comma_inj h
    exact ⟨h1.1, itoa_inj h1.2⟩
  · have h1 := comma_inj (by simpa only [List.append_assoc] using h)
    have h2 := paren_inj (by simpa only [List.append_assoc] using h1.2)
    exact ⟨h1.1, h2⟩
  · have h1 := comma_inj (by simpa only [List.append_assoc] using h)
    have h2 := paren_inj (by simpa only [List.append_assoc] using h1.2)
    exact ⟨h1.1, h2⟩
  · have h1 := comma_inj (by simpa only [List.append_assoc] using h)
    have h2 := comma_inj (by simpa only [List.append_assoc] using h1.2)
    exact ⟨h1.1, h2.1, itoa_inj h2.2⟩
  · exact itoa_inj h
end Go.Proofs.Zs
/- Instructions: program and reference answer as the model says. -/
set_option linter.unusedVariables false
set_option linter.unusedSimpArgs false
namespace Go.Proofs.Zs
open Go
/-! Instructions -/
def formM (op : Int) : Int :=
  if op < 1 ∨ 41 < op then 0 else if op ≤ 16 then 1 else if op ≤ 24 then 2 else if op = 25 then 3 else if op ≤ 30 then 4 else if op ≤ 33 then 5 else if op ≤ 39 then 6 else if op = 40 then 7 else 8
def hasDM (f : Int) : Bool := decide (1 ≤ f ∧ f ≤ 4)
def hasAM (f : Int) : Bool := decide (f = 1 ∨ f = 2 ∨ f = 4 ∨ f = 5 ∨ f = 6)
def hasBM (f : Int) : Bool := decide (f = 1 ∨ f = 5 ∨ f = 6)
def hasIM (f : Int) : Bool := decide (2 ≤ f ∧ f ≤ 7)
def fieldM (n : Int) (h : Bool) (lo hi : Int) : Bool := if h = true then decide (lo ≤ n ∧ n ≤ hi) else decide (n = 0)
def loM (op : Int) : Int := if op = 22 ∨ op = 23 ∨ op = 24 then 0 else -8192
def hiM (op : Int) : Int := if op = 22 ∨ op = 23 ∨ op = 24 then 31 else 8191
def rightIns (i : api_Ins) : Bool :=
  decide (formM i.1 ≠ 0) && fieldM i.2.1 (hasDM (formM i.1)) 0 15 && fieldM i.2.2.1 (hasAM (formM i.1)) 0 15 && fieldM i.2.2.2.1 (hasBM (formM i.1)) 0 15 && fieldM i.2.2.2.2.1 (hasIM (formM i.1)) (loM i.1) (hiM i.1)
section
variable {N : Nat}
theorem retB {a b : Bool} {q : List DV} (h : a = b) : (some (0, gB.dv a q) : Option Rs) = some (0, gB.dv b q) := by rw [h]
theorem retI {a b : Int} {q : List DV} (h : a = b) : (some (0, gI.dv a q) : Option Rs) = some (0, gI.dv b q) := by rw [h]
theorem retL {t : Ty} {a b : List (Den t)} {q : List DV} (h : a = b) : (some (0, (gD (.sl t)).dv a q) : Option Rs) = some (0, (gD (.sl t)).dv b q) := by rw [h]
theorem r1_Form_is (op : Int) : r1_Form N op = some (0, gI.dv (formM op) []) := by
  unfold r1_Form formM
  simp only [bi_if, decide_eq_true_eq, beq_iff_eq]
  repeat' split
  all_goals first | rfl | omega
theorem isa_Form_is (op : Int) : isa_Form N op = some (0, gI.dv (formM op) []) := r1_Form_is (N := N) op
theorem r1_has_is (f : Int) : r1_has N f = some (0, gB.dv (hasDM f && decide (f ≠ 5 ∧ f ≠ 6 ∧ f ≠ 7 ∧ f ≠ 8)) (gB.dv (hasAM f) (gB.dv (hasBM f) (gB.dv (hasIM f) [])))) := by
  unfold r1_has hasDM hasAM hasBM hasIM
  simp only [bi_if, decide_eq_true_eq, beq_iff_eq]
  repeat' split
  all_goals first | (subst_vars; rfl) | skip
  rw [decide_eq_false (p := 1 ≤ f ∧ f ≤ 4) (by omega), decide_eq_false (p := f = 1 ∨ f = 2 ∨ f = 4 ∨ f = 5 ∨ f = 6) (by omega), decide_eq_false (p := f = 1 ∨ f = 5 ∨ f = 6) (by omega), decide_eq_false (p := 2 ≤ f ∧ f ≤ 7) (by omega)]
  rfl
theorem isa_HasD_is (f : Int) : isa_HasD N f = some (0, gB.dv (hasDM f) []) := by
  unfold isa_HasD hasDM
  simp only [bi_if, decide_eq_true_eq, beq_iff_eq]
  repeat' split
  all_goals refine retB ?_
  all_goals rw [Bool.eq_iff_iff]; simp only [beq_iff_eq, decide_eq_true_eq, Bool.false_eq_true, true_iff, false_iff]; omega
theorem isa_HasA_is (f : Int) : isa_HasA N f = some (0, gB.dv (hasAM f) []) := by
  unfold isa_HasA hasAM
  simp only [bi_if, decide_eq_true_eq, beq_iff_eq]
  repeat' split
  all_goals refine retB ?_
  all_goals rw [Bool.eq_iff_iff]; simp only [beq_iff_eq, decide_eq_true_eq, Bool.false_eq_true, true_iff, false_iff]; omega
theorem isa_HasB_is (f : Int) : isa_HasB N f = some (0, gB.dv (hasBM f) []) := by
  unfold isa_HasB hasBM
  simp only [bi_if, decide_eq_true_eq, beq_iff_eq]
  repeat' split
  all_goals refine retB ?_
  all_goals rw [Bool.eq_iff_iff]; simp only [beq_iff_eq, decide_eq_true_eq, Bool.false_eq_true, true_iff, false_iff]; omega
theorem isa_HasImm_is (f : Int) : isa_HasImm N f = some (0, gB.dv (hasIM f) []) := by
  unfold isa_HasImm hasIM
  simp only [bi_if, decide_eq_true_eq, beq_iff_eq]
  repeat' split
  all_goals refine retB ?_
  all_goals rw [Bool.eq_iff_iff]; simp only [beq_iff_eq, decide_eq_true_eq, Bool.false_eq_true, true_iff, false_iff]; omega
theorem isa_within_is (n : Int) (h : Bool) (lo hi : Int) : isa_within N n h lo hi = some (0, gB.dv (fieldM n h lo hi) []) := by
  unfold isa_within fieldM
  cases h <;> simp only [bi_if, decide_eq_true_eq, Bool.not_true, Bool.not_false, if_true, Bool.false_eq_true, if_false, reduceIte]
  · rfl
  · split
    · refine retB ?_
      rw [Bool.eq_iff_iff]; simp only [decide_eq_true_eq]; omega
    · refine retB ?_
      rw [Bool.eq_iff_iff]; simp only [decide_eq_true_eq, Bool.false_eq_true, false_iff]; omega
theorem r1_reg_is (n : Int) (h : Bool) : r1_reg N n h = some (0, gB.dv (fieldM n h 0 15) []) := by
  unfold r1_reg fieldM
  cases h <;> simp only [bi_if, decide_eq_true_eq, beq_iff_eq, Bool.false_eq_true, if_false, if_true]
  all_goals repeat' split
  all_goals refine retB ?_
  all_goals rw [Bool.eq_iff_iff]; simp only [decide_eq_true_eq, Bool.false_eq_true, true_iff, false_iff]; omega
theorem formM_range (op : Int) : 0 ≤ formM op ∧ formM op ≤ 8 := by
  unfold formM
  repeat' split
  all_goals omega
theorem isa_Right_is (i : api_Ins) : isa_Right N i = some (0, gB.dv (rightIns i) []) := by
  unfold isa_Right rightIns loM hiM
  have hr := formM_range i.1
  have h0 : (decide (formM i.1 ≠ 0)) = decide (formM i.1 > 0) := by rw [Bool.eq_iff_iff]; simp only [decide_eq_true_eq]; omega
  simp only [isa_Form_is, isa_HasD_is, isa_HasA_is, isa_HasB_is, isa_HasImm_is, isa_within_is, on1_some, gg_dv, gg_nil, h0]
  generalize fieldM i.2.1 (hasDM (formM i.1)) 0 15 = d
  generalize fieldM i.2.2.1 (hasAM (formM i.1)) 0 15 = a
  generalize fieldM i.2.2.2.1 (hasBM (formM i.1)) 0 15 = b
  generalize decide (formM i.1 > 0) = f
  by_cases h1 : i.1 = 22
  · simp only [h1, beq_self_eq_true, bi_true, true_or, if_true]
    cases f <;> cases d <;> cases a <;> cases b <;> rfl
  · by_cases h2 : i.1 = 23
    · simp only [h2, show ((23 : Int) == 22) = false from rfl, beq_self_eq_true, bi_true, bi_false, true_or, or_true, if_true]
      cases f <;> cases d <;> cases a <;> cases b <;> rfl
    · by_cases h3 : i.1 = 24
      · simp only [h3, show ((24 : Int) == 22) = false from rfl, show ((24 : Int) == 23) = false from rfl, beq_self_eq_true, bi_true, bi_false, or_true, if_true]
        cases f <;> cases d <;> cases a <;> cases b <;> rfl
      · simp only [beq_eq_false_iff_ne.2 h1, beq_eq_false_iff_ne.2 h2, beq_eq_false_iff_ne.2 h3, bi_false, h1, h2, h3, or_self, if_false]
        cases f <;> cases d <;> cases a <;> cases b <;> rfl
theorem r1_RightIns_is (i : api_Ins) : r1_RightIns N i = some (0, gB.dv (rightIns i) []) := by
  unfold r1_RightIns rightIns loM hiM
  have hr := formM_range i.1
  have hd : (hasDM (formM i.1) && decide (formM i.1 ≠ 5 ∧ formM i.1 ≠ 6 ∧ formM i.1 ≠ 7 ∧ formM i.1 ≠ 8)) = hasDM (formM i.1) := by
    unfold hasDM; rw [Bool.eq_iff_iff]; simp only [Bool.and_eq_true, decide_eq_true_eq]; omega
  simp only [r1_Form_is, r1_has_is, r1_reg_is, on1_some, gg_dv, gg_nil, hd]
  have hI : i.1 = 22 ∨ i.1 = 23 ∨ i.1 = 24 → hasIM (formM i.1) = true := by
    rintro (h | h | h) <;> rw [h] <;> rfl
  generalize fieldM i.2.1 (hasDM (formM i.1)) 0 15 = d
  generalize fieldM i.2.2.1 (hasAM (formM i.1)) 0 15 = a
  generalize fieldM i.2.2.2.1 (hasBM (formM i.1)) 0 15 = b
  generalize hasIM (formM i.1) = m at *
  by_cases hf : formM i.1 = 0
  · simp only [hf, beq_self_eq_true, bi_true, ne_eq, not_true, decide_false, Bool.false_and]
  · simp only [beq_eq_false_iff_ne.2 hf, bi_false, ne_eq, hf, not_false_eq_true, decide_true, Bool.true_and]
    cases d <;> cases a <;> cases b <;> simp only [Bool.not_true, Bool.not_false, bi_true, bi_false, Bool.true_and, Bool.false_and, Bool.and_false]
    have key : ∀ lo hi : Int, bi (decide (i.2.2.2.2.1 ≥ lo)) (some (0, gB.dv (decide (i.2.2.2.2.1 ≤ hi)) [])) (some (0, gB.dv false [])) = (some (0, gB.dv (decide (lo ≤ i.2.2.2.2.1 ∧ i.2.2.2.2.1 ≤ hi)) []) : Option Rs) := by
      intro lo hi
      rw [bi_if]; simp only [decide_eq_true_eq]
      split
      · refine retB ?_; rw [Bool.eq_iff_iff]; simp only [decide_eq_true_eq]; omega
      · refine retB ?_; rw [Bool.eq_iff_iff]; simp only [decide_eq_true_eq, Bool.false_eq_true, false_iff]; omega
    unfold fieldM
    cases m with
    | true =>
      simp only [Bool.not_true, bi_false, key, if_true]
      simp only [bi_if, beq_iff_eq]
      repeat' split
      all_goals first | rfl | omega
    | false =>
      have h1 : ¬ (i.1 = 22 ∨ i.1 = 23 ∨ i.1 = 24) := fun h => by have := hI h; simp at this
      simp only [Bool.not_false, bi_true, key, Bool.false_eq_true, if_false]
      simp only [bi_if, bne_iff_ne, beq_iff_eq]
      split
      · refine retB ?_; rw [Bool.eq_iff_iff]; simp only [decide_eq_true_eq, Bool.false_eq_true, false_iff]; assumption
      · rename_i h
        rw [if_neg (by omega), if_neg (by omega), if_neg (by omega)]
        refine retB ?_; rw [Bool.eq_iff_iff]; simp only [decide_eq_true_eq]; omega
end
end Go.Proofs.Zs
/- The names of operations: what the program tells. -/
set_option linter.unusedVariables false
set_option linter.unusedSimpArgs false
set_option maxRecDepth 100000
namespace Go.Proofs.Zs
open Go
def namesB : List ByteArray := [bs [97, 100, 100], bs [115, 117, 98], bs [97, 110, 100], bs [111, 114], bs [120, 111, 114], bs [115, 108, 108], bs [115, 114, 108], bs [115, 114, 97], bs [115, 108, 116], bs [115, 108, 116, 117], bs [109, 117, 108], bs [109, 117, 108, 104], bs [100, 105, 118], bs [100, 105, 118, 117], bs [114, 101, 109], bs [114, 101, 109, 117], bs [97, 100, 100, 105], bs [97, 110, 100, 105], bs [111, 114, 105], bs [120, 111, 114, 105], bs [115, 108, 116, 105], bs [115, 108, 108, 105], bs [115, 114, 108, 105], bs [115, 114, 97, 105], bs [108, 117, 105], bs [108, 119], bs [108, 104], bs [108, 104, 117], bs [108, 98], bs [108, 98, 117], bs [115, 119], bs [115, 104], bs [115, 98], bs [98, 101, 113], bs [98, 110, 101], bs [98, 108, 116], bs [98, 103, 101], bs [98, 108, 116, 117], bs [98, 103, 101, 117], bs [106], bs [104, 97, 108, 116]]
theorem asm_Names_is : asm_Names 300 = some (0, (gD (.sl tS)).dv namesB []) := by kernel_rfl
end Go.Proofs.Zs
/- Texts of registers, fields, instructions: what the program writes. -/
set_option linter.unusedVariables false
set_option linter.unusedSimpArgs false
set_option maxRecDepth 100000
namespace Go.Proofs.Zs
open Go Go.Lib
theorem wI {x : Int} (h0 : -9000000000000000000 ≤ x) (h1 : x ≤ 9000000000000000000) : w.i64 x = x := IntWalk.i64_in _ (by omega)
theorem idx_t {i : Int} {n : Nat} (h0 : 0 ≤ i) (h1 : i < n) : idx i n = true := by simp [idx, h0, h1]
theorem bs_app (a b : List UInt8) : bs a ++ bs b = bs (a ++ b) := by
  apply ByteArray.ext
  apply Array.toList_inj.1
  simp [bs]
theorem bs_size (a : List UInt8) : (bs a).size = a.length := by simp [bs, ByteArray.size]
theorem bs_inj {a b : List UInt8} (h : bs a = bs b) : a = b := by
  have := congrArg (fun x : ByteArray => x.data.toList) h
  simpa [bs] using this
theorem bs_beq (a b : List UInt8) : ((bs a).toList == (bs b).toList) = (a == b) := by
  rw [Bool.eq_iff_iff, bytes_beq_iff, beq_iff_eq]
  exact ⟨bs_inj, fun h => by rw [h]⟩
theorem bs_data (a : List UInt8) : (bs a).data.toList = a := by simp [bs]
theorem bs_of (x : ByteArray) : x = bs x.data.toList := by
  apply ByteArray.ext
  simp [bs]
theorem retT {a b : List UInt8} {q : List DV} (h : a = b) : (some (0, gT.dv (bs a) q) : Option Rs) = some (0, gT.dv (bs b) q) := by rw [h]
/-- Room for words that are no longer than so much. -/
theorem gd_sz {X : Type} {a b : List UInt8} (h : a.length + b.length ≤ 35184372088832) (k : Option X) : gd (decide ((bs a).size + (bs b).size ≤ reach)) k = k := by
  rw [bs_size, bs_size]
  exact gd_t (decide_eq_true h) k
section
variable {N : Nat}
theorem Itoa_is {n : Int} (h0 : -9223372036854775808 ≤ n) (h1 : n ≤ 9223372036854775807) : strconv_Itoa N n = some (0, gT.dv (bs (itoa n)) []) := by
  unfold strconv_Itoa
  rw [if_pos ⟨h0, h1⟩]
  rfl
theorem itoa_len {n : Int} (h0 : -9223372036854775808 ≤ n) (h1 : n ≤ 9223372036854775807) : (itoa n).length ≤ 21 := itoa_length_le n h0 h1
theorem regL_len {n : Int} (h0 : 0 ≤ n) (h1 : n ≤ 15) : (regL n).length ≤ 22 := by
  have := itoa_len (n := n) (by omega) (by omega)
  simp only [regL, List.length_cons]; omega
theorem show_reg_is {n : Int} (h0 : 0 ≤ n) (h1 : n ≤ 15) : show_reg N n = some (0, gT.dv (bs (regL n)) []) := by
  have hl := itoa_len (n := n) (by omega) (by omega)
  unfold show_reg
  simp only [decide_eq_false (show ¬ n < 0 by omega), decide_eq_false (show ¬ n > 15 by omega), bi_false, Itoa_is (N := N) (show -9223372036854775808 ≤ n by omega) (show n ≤ 9223372036854775807 by omega), on1_some, gg_dv, gg_nil]
  rw [gd_sz, bs_app]
  · rfl
  · simp only [List.length_cons, List.length_nil]; omega
theorem show_reg_no {n : Int} (h : n < 0 ∨ 15 < n) : show_reg N n = some (0, gT.dv (bs []) []) := by
  unfold show_reg
  rcases h with h | h
  · simp only [decide_eq_true h, bi_true]
  · simp only [decide_eq_false (show ¬ n < 0 by omega), decide_eq_true (show n > 15 from h), bi_true, bi_false]
theorem Join_is {xs : List (List UInt8)} {s : List UInt8} (h0 : xs ≠ []) (h1 : xs.length ≤ 140737488355328) (h2 : (join xs s).length ≤ 140737488355328) : ss_Join N (xs.map bs) (bs s) = some (0, gT.dv (bs (join xs s)) []) := by
  have e : ((xs.map bs).map fun x : ByteArray => x.data.toList) = xs := by rw [List.map_map, show ((fun x : ByteArray => x.data.toList) ∘ bs) = id from funext fun a => bs_data a, List.map_id]
  unfold ss_Join
  rw [if_pos ⟨by simpa using h0, by simpa using h1, by rw [e, bs_data]; exact h2⟩]
  unfold joinB
  rw [e, bs_data]
theorem join3 (a b c : List UInt8) : join [a, b, c] [44, 32] = a ++ [44, 32] ++ b ++ [44, 32] ++ c := by simp [join, List.intercalate]
theorem Join3_is {a b c : List UInt8} (h : a.length + b.length + c.length ≤ 1000) : ss_Join N [bs a, bs b, bs c] (bs [44, 32]) = some (0, gT.dv (bs (a ++ [44, 32] ++ b ++ [44, 32] ++ c)) []) := by
  have := Join_is (N := N) (xs := [a, b, c]) (s := [44, 32]) (by simp) (by simp) (by rw [join3]; simp only [List.length_append, List.length_cons, List.length_nil]; omega)
  rw [join3] at this
  exact this

/-- What a right instruction has. -/
structure RightI (i : api_Ins) : Prop where
  op : 1 ≤ i.1 ∧ i.1 ≤ 41
  f : 1 ≤ formM i.1 ∧ formM i.1 ≤ 8
  d : 0 ≤ i.2.1 ∧ i.2.1 ≤ 15
  a : 0 ≤ i.2.2.1 ∧ i.2.2.1 ≤ 15
  b : 0 ≤ i.2.2.2.1 ∧ i.2.2.2.1 ≤ 15
  m : -8192 ≤ i.2.2.2.2.1 ∧ i.2.2.2.2.1 ≤ 8191
  nd : ¬ (formM i.1 ≤ 4) → i.2.1 = 0
  na : ¬ (formM i.1 = 1 ∨ formM i.1 = 2 ∨ formM i.1 = 4 ∨ formM i.1 = 5 ∨ formM i.1 = 6) → i.2.2.1 = 0
  nb : ¬ (formM i.1 = 1 ∨ formM i.1 = 5 ∨ formM i.1 = 6) → i.2.2.2.1 = 0
  nm : ¬ (2 ≤ formM i.1 ∧ formM i.1 ≤ 7) → i.2.2.2.2.1 = 0
theorem field_range {n : Int} {h : Bool} {lo hi : Int} (hf : fieldM n h lo hi = true) (h0 : lo ≤ 0) (h1 : 0 ≤ hi) : lo ≤ n ∧ n ≤ hi := by
  unfold fieldM at hf
  split at hf
  · exact of_decide_eq_true hf
  · have := of_decide_eq_true hf; omega
theorem field_no {n : Int} {h : Bool} {lo hi : Int} (hf : fieldM n h lo hi = true) (h0 : h = false) : n = 0 := by
  unfold fieldM at hf
  rw [h0] at hf
  exact of_decide_eq_true hf
theorem right_of {i : api_Ins} (h : rightIns i = true) : RightI i := by
  unfold rightIns at h
  simp only [Bool.and_eq_true, decide_eq_true_eq] at h
  obtain ⟨⟨⟨⟨h1, h2⟩, h3⟩, h4⟩, h5⟩ := h
  have hr := formM_range i.1
  have hm := field_range h5 (by unfold loM; split <;> omega) (by unfold hiM; split <;> omega)
  refine ⟨?_, by omega, field_range h2 (by omega) (by omega), field_range h3 (by omega) (by omega), field_range h4 (by omega) (by omega), ?_, fun hn => field_no h2 (decide_eq_false (by omega)), fun hn => field_no h3 (decide_eq_false hn), fun hn => field_no h4 (decide_eq_false hn), fun hn => field_no h5 (decide_eq_false hn)⟩
  · by_cases ho : i.1 < 1 ∨ 41 < i.1
    · exact absurd (by unfold formM; rw [if_pos ho]) h1
    · omega
  · unfold loM hiM at hm
    split at hm <;> omega
theorem show_fields_is {i : api_Ins} (h : RightI i) : show_fields N i = some (0, gT.dv (bs (fieldsL (formM i.1) i.2.1 i.2.2.1 i.2.2.2.1 i.2.2.2.2.1)) []) := by
  obtain ⟨op, fr, d, a, b, m, _, _, _, _⟩ := h
  have hd := regL_len d.1 d.2
  have ha := regL_len a.1 a.2
  have hb := regL_len b.1 b.2
  have hm := itoa_len (n := i.2.2.2.2.1) (by omega) (by omega)
  unfold show_fields
  simp only [Itoa_is (N := N) (show -9223372036854775808 ≤ i.2.2.2.2.1 by omega) (show i.2.2.2.2.1 ≤ 9223372036854775807 by omega), isa_Form_is, show_reg_is d.1 d.2, show_reg_is a.1 a.2, show_reg_is b.1 b.2, on1_some, gg_dv, gg_nil]
  generalize formM i.1 = f at fr ⊢
  have hf : f = 1 ∨ f = 2 ∨ f = 3 ∨ f = 4 ∨ f = 5 ∨ f = 6 ∨ f = 7 ∨ f = 8 := by omega
  rcases hf with rfl | rfl | rfl | rfl | rfl | rfl | rfl | rfl <;> simp only [Int.reduceBEq, bi_true, bi_false, fieldsL, Int.reduceEq, if_true, if_false]
  · rw [Join3_is (by omega)]; rfl
  · rw [Join3_is (by omega)]; rfl
  · rw [gd_sz, bs_app, gd_sz, bs_app]
    all_goals (simp only [List.length_append, List.length_cons, List.length_nil]; omega)
  · rw [gd_sz, bs_app, gd_sz, bs_app, gd_sz, bs_app, gd_sz, bs_app, gd_sz, bs_app]
    all_goals (simp only [List.length_append, List.length_cons, List.length_nil]; omega)
  · rw [gd_sz, bs_app, gd_sz, bs_app, gd_sz, bs_app, gd_sz, bs_app, gd_sz, bs_app]
    all_goals (simp only [List.length_append, List.length_cons, List.length_nil]; omega)
  · rw [Join3_is (by omega)]; rfl
end
theorem fieldsL_len {i : api_Ins} (h : RightI i) : (fieldsL (formM i.1) i.2.1 i.2.2.1 i.2.2.2.1 i.2.2.2.2.1).length ≤ 100 := by
  have hd := regL_len h.d.1 h.d.2
  have ha := regL_len h.a.1 h.a.2
  have hb := regL_len h.b.1 h.b.2
  have hm := itoa_len (n := i.2.2.2.2.1) (by have := h.m; omega) (by have := h.m; omega)
  unfold fieldsL
  repeat' split
  all_goals first | omega | (simp only [List.length_append, List.length_cons, List.length_nil]; omega)
/-- An operation's name. -/
def nameL (op : Int) : List UInt8 := (namesB.getD (op - 1).toNat ByteArray.empty).data.toList
def insL (i : api_Ins) : List UInt8 := if fieldsL (formM i.1) i.2.1 i.2.2.1 i.2.2.2.1 i.2.2.2.2.1 = [] then nameL i.1 else nameL i.1 ++ [32] ++ fieldsL (formM i.1) i.2.1 i.2.2.1 i.2.2.2.1 i.2.2.2.2.1
theorem names_all : ∀ x ∈ namesB, x.data.toList.length ≤ 4 ∧ (32 : UInt8) ∉ x.data.toList ∧ x.data.toList ≠ [] := by decide
theorem name_in (op : Int) (h : 1 ≤ op ∧ op ≤ 41) : namesB.getD (op - 1).toNat ByteArray.empty ∈ namesB := by
  have hl : namesB.length = 41 := rfl
  rw [List.getD_eq_getElem?_getD, List.getElem?_eq_getElem (by omega), Option.getD_some]
  exact List.getElem_mem _
theorem show_instruction_is {i : api_Ins} (hr : rightIns i = true) : show_instruction 300 i = some (0, gT.dv (bs (insL i)) []) := by
  have h := right_of hr
  have hl : namesB.length = 41 := rfl
  have hn := names_all _ (name_in i.1 h.op)
  have hfl := fieldsL_len h
  unfold show_instruction
  simp only [isa_Right_is, hr, asm_Names_is, show_fields_is h, on1_some, gg_dv, gg_nil, Bool.not_true, bi_false]
  rw [wI (by have := h.op; omega) (by have := h.op; omega), idx_t (by have := h.op; omega) (by have := h.op; omega), gd_true, bs_beq]
  have e : List.getD namesB (Int.toNat (i.1 - 1)) ByteArray.empty = bs (nameL i.1) := bs_of _
  rw [e]
  have hnl : (nameL i.1).length ≤ 4 := hn.1
  unfold insL
  by_cases h0 : fieldsL (formM i.1) i.2.1 i.2.2.1 i.2.2.2.1 i.2.2.2.2.1 = []
  · rw [h0, if_pos rfl]; rfl
  · rw [if_neg h0, beq_eq_false_iff_ne.2 h0]
    simp only [Bool.not_false, bi_true]
    rw [gd_sz, bs_app, gd_sz, bs_app]
    all_goals (simp only [List.length_append, List.length_cons, List.length_nil]; omega)
theorem show_instruction_no {i : api_Ins} {N : Nat} (hr : rightIns i = false) : show_instruction N i = some (0, gT.dv (bs []) []) := by
  unfold show_instruction
  simp only [isa_Right_is, hr, on1_some, gg_dv, gg_nil, Bool.not_false, bi_true]
end Go.Proofs.Zs
/- No two instructions are written alike: the plain law of ShowApart. -/
set_option linter.unusedVariables false
set_option linter.unusedSimpArgs false
set_option maxRecDepth 100000
namespace Go.Proofs.Zs
open Go Go.Lib
theorem names_nodup : (namesB.map fun x => x.data.toList).Nodup := by decide
theorem nameL_inj {a b : Int} (ha : 1 ≤ a ∧ a ≤ 41) (hb : 1 ≤ b ∧ b ≤ 41) (h : nameL a = nameL b) : a = b := by
  have hl : namesB.length = 41 := rfl
  have key : ∀ c : Int, 1 ≤ c ∧ c ≤ 41 → (namesB.map fun x => x.data.toList)[(c - 1).toNat]? = some (nameL c) := by
    intro c hc
    rw [List.getElem?_map, List.getElem?_eq_getElem (by omega)]
    unfold nameL
    rw [List.getD_eq_getElem?_getD, List.getElem?_eq_getElem (by omega)]
    rfl
  have hi := (List.getElem?_inj (i := (a - 1).toNat) (j := (b - 1).toNat) (by rw [List.length_map]; omega) names_nodup).1 ((key a ha).trans (by rw [h]; exact (key b hb).symm))
  omega
theorem fields_ne {f D A B I : Int} (h : 1 ≤ f ∧ f ≤ 7) : fieldsL f D A B I ≠ [] := by
  have hr : ∀ n, regL n ≠ [] := fun n => by simp [regL]
  have hi := itoa_ne I
  have hf : f = 1 ∨ f = 2 ∨ f = 3 ∨ f = 4 ∨ f = 5 ∨ f = 6 ∨ f = 7 := by omega
  rcases hf with rfl | rfl | rfl | rfl | rfl | rfl | rfl <;> simp only [fieldsL, Int.reduceEq, if_true, if_false] <;> first | exact hi | simp
theorem fields_8 {D A B I : Int} : fieldsL 8 D A B I = [] := rfl
theorem name_no (i : Int) (h : 1 ≤ i ∧ i ≤ 41) : (32 : UInt8) ∉ nameL i := (names_all _ (name_in i h)).2.1
theorem insL_inj {i k : api_Ins} (hi : RightI i) (hk : RightI k) (h : insL i = insL k) : i = k := by
  have go : ∀ {i k : api_Ins}, RightI i → RightI k → formM i.1 = 8 → insL i = insL k → formM k.1 = 8 := by
    intro i k hi hk h8 h
    by_cases hf : formM k.1 = 8
    · exact hf
    · exfalso
      have hne := fields_ne (D := k.2.1) (A := k.2.2.1) (B := k.2.2.2.1) (I := k.2.2.2.2.1) (show 1 ≤ formM k.1 ∧ formM k.1 ≤ 7 by have := hk.f; omega)
      unfold insL at h
      rw [h8, if_pos fields_8, if_neg hne] at h
      exact name_no i.1 hi.op (by rw [h]; simp)
  by_cases h8 : formM i.1 = 8
  · have h8' := go hi hk h8 h
    unfold insL at h
    rw [h8, h8', if_pos fields_8, if_pos fields_8] at h
    have ho := nameL_inj hi.op hk.op h
    have e1 := hi.nd (by omega); have e2 := hi.na (by omega); have e3 := hi.nb (by omega); have e4 := hi.nm (by omega)
    have f1 := hk.nd (by omega); have f2 := hk.na (by omega); have f3 := hk.nb (by omega); have f4 := hk.nm (by omega)
    obtain ⟨o, d, a, b, m, u⟩ := i
    obtain ⟨o', d', a', b', m', u'⟩ := k
    simp only at ho e1 e2 e3 e4 f1 f2 f3 f4
    subst ho e1 e2 e3 e4 f1 f2 f3 f4
    rfl
  · have h8' : ¬ formM k.1 = 8 := fun h' => h8 (go hk hi h' h.symm)
    have hne := fields_ne (D := i.2.1) (A := i.2.2.1) (B := i.2.2.2.1) (I := i.2.2.2.2.1) (show 1 ≤ formM i.1 ∧ formM i.1 ≤ 7 by have := hi.f; omega)
    have hne' := fields_ne (D := k.2.1) (A := k.2.2.1) (B := k.2.2.2.1) (I := k.2.2.2.2.1) (show 1 ≤ formM k.1 ∧ formM k.1 ≤ 7 by have := hk.f; omega)
    unfold insL at h
    rw [if_neg hne, if_neg hne'] at h
    simp only [List.append_assoc, List.cons_append, List.nil_append] at h
    obtain ⟨h1, h2⟩ := cut_inj h (name_no _ hi.op) (name_no _ hk.op)
    have ho := nameL_inj hi.op hk.op h1
    rw [← ho] at h2
    obtain ⟨g1, g2, g3, g4, g5, g6, g7⟩ := fieldsL_inj h2
    have a1 := hi.nd; have a2 := hi.na; have a3 := hi.nb; have a4 := hi.nm
    have b1 := hk.nd; have b2 := hk.na; have b3 := hk.nb; have b4 := hk.nm
    have hfi := hi.f
    rw [← ho] at b1 b2 b3 b4
    clear h h1 h2 hi hk go hne hne' h8'
    obtain ⟨o, d, a, b, m, u⟩ := i
    obtain ⟨o', d', a', b', m', u'⟩ := k
    simp only at ho g1 g2 g3 g4 g5 g6 g7 a1 a2 a3 a4 b1 b2 b3 b4 h8 hfi ⊢
    subst ho
    generalize formM o = f at *
    have key : d = d' ∧ a = a' ∧ b = b' ∧ m = m' := by
      have hf : f = 1 ∨ f = 2 ∨ f = 3 ∨ f = 4 ∨ f = 5 ∨ f = 6 ∨ f = 7 := by omega
      rcases hf with rfl | rfl | rfl | rfl | rfl | rfl | rfl
      · have := g1 rfl; have := a4 (by omega); have := b4 (by omega); omega
      · have := g2 rfl; have := a3 (by omega); have := b3 (by omega); omega
      · have := g3 rfl; have := a2 (by omega); have := b2 (by omega); have := a3 (by omega); have := b3 (by omega); omega
      · have := g4 rfl; have := a3 (by omega); have := b3 (by omega); omega
      · have := g5 rfl; have := a1 (by omega); have := b1 (by omega); omega
      · have := g6 rfl; have := a1 (by omega); have := b1 (by omega); omega
      · have := g7 rfl; have := a1 (by omega); have := b1 (by omega); have := a2 (by omega); have := b2 (by omega); have := a3 (by omega); have := b3 (by omega); omega
    obtain ⟨rfl, rfl, rfl, rfl⟩ := key
    rfl
def insT (i : api_Ins) : List UInt8 := if rightIns i = true then insL i else []
theorem show_text_is (i : api_Ins) : show_text 300 i = some (0, gT.dv (bs (insT i)) []) := by
  unfold show_text insT
  cases h : rightIns i with
  | true => simp only [show_instruction_is h, on1_some, gg_dv, gg_nil, if_true]
  | false => simp only [show_instruction_no h, on1_some, gg_dv, gg_nil, Bool.false_eq_true, if_false]
theorem show_Ins_is (i : api_Ins) : show_Ins 300 i = some (0, gT.dv (bs (insT i)) []) := by
  unfold show_Ins
  simp only [show_text_is, on1_some, gg_dv, gg_nil]
theorem name_ne (i : Int) (h : 1 ≤ i ∧ i ≤ 41) : nameL i ≠ [] := (names_all _ (name_in i h)).2.2
theorem insL_ne {i : api_Ins} (h : RightI i) : insL i ≠ [] := by
  unfold insL
  split
  · exact name_ne _ h.op
  · simp
theorem insL_len {i : api_Ins} (h : RightI i) : (insL i).length ≤ 200 := by
  have h1 := (names_all _ (name_in i.1 h.op)).1
  have h2 := fieldsL_len h
  have h3 : (nameL i.1).length ≤ 4 := h1
  unfold insL
  split
  · omega
  · simp only [List.length_append, List.length_cons, List.length_nil]; omega
theorem insT_len (i : api_Ins) : (insT i).length ≤ 200 := by
  unfold insT
  split
  · rename_i h; exact insL_len (right_of h)
  · simp
theorem behind_is {N : Nat} {a b : List UInt8} (h : a.length + b.length ≤ 1000) : show_behind N (bs a) (bs b) = some (0, gT.dv (bs (if b = [] then [] else a ++ [32] ++ b)) []) := by
  unfold show_behind
  rw [bs_beq]
  by_cases h0 : b = []
  · subst h0; rfl
  · rw [beq_eq_false_iff_ne.2 h0, if_neg h0]
    simp only [bi_false]
    rw [gd_sz, bs_app, gd_sz, bs_app]
    all_goals (simp only [List.length_append, List.length_cons, List.length_nil]; omega)
theorem regL_ne (n : Int) : regL n ≠ [] := by simp [regL]
theorem cell_put {r p o : Int} {i : api_Ins} (h0 : 0 ≤ r) (h1 : r ≤ 15) : show_Cell 300 (api_Cell.mk 8 i r p o) = some (0, gT.dv (bs ([112, 117, 116] ++ [32] ++ regL r)) []) := by
  have hl := regL_len h0 h1
  unfold show_Cell show_text_2 show_cell
  simp only [Int.reduceBEq, bi_false, bi_true, show_reg_is h0 h1, on1_some, gg_dv, gg_nil]
  rw [behind_is (by simp only [List.length_cons, List.length_nil]; omega), if_neg (regL_ne r)]
  simp only [on1_some, gg_dv, gg_nil]
theorem cell_send {r p o : Int} {i : api_Ins} (h0 : 0 ≤ r) (h1 : r ≤ 15) : show_Cell 300 (api_Cell.mk 5 i r p o) = some (0, gT.dv (bs ([115, 101, 110, 100] ++ [32] ++ regL r)) []) := by
  have hl := regL_len h0 h1
  unfold show_Cell show_text_2 show_cell
  simp only [Int.reduceBEq, bi_false, bi_true, show_reg_is h0 h1, on1_some, gg_dv, gg_nil]
  rw [behind_is (by simp only [List.length_cons, List.length_nil]; omega), if_neg (regL_ne r)]
  simp only [on1_some, gg_dv, gg_nil]
theorem cell_do {r p o : Int} {i : api_Ins} (h : rightIns i = true) : show_Cell 300 (api_Cell.mk 1 i r p o) = some (0, gT.dv (bs ([100, 111] ++ [32] ++ insL i)) []) := by
  have hl := insL_len (right_of h)
  unfold show_Cell show_text_2 show_cell
  simp only [Int.reduceBEq, bi_true, show_text_is, on1_some, gg_dv, gg_nil]
  rw [behind_is (by simp only [List.length_cons, List.length_nil]; have := insT_len i; omega)]
  simp only [on1_some, gg_dv, gg_nil]
  unfold insT
  rw [if_pos h, if_neg (insL_ne (right_of h))]
theorem itoa_d {n : Nat} (h : n < 10) : itoa (n : Int) = [UInt8.ofNat (48 + n)] := by
  unfold itoa
  rw [if_neg (by omega), Int.toNat_natCast, decDigits_one h]
theorem itoa_neg4 : itoa (-4) = [45, 52] := by
  unfold itoa
  rw [if_pos (by omega), show ((-4 : Int)).natAbs = 4 from rfl, decDigits_one (by omega)]
  rfl
theorem alive9_is : l9_alive 300 = some (0, gB.dv true []) := by
  unfold l9_alive
  have e1 : insT (41, (0, unicode_Range16.z)) = [104, 97, 108, 116] := by decide
  have e2 : insT (26, (1, (2, (0, ((-4 : Int), ()))))) = [108, 119, 32, 114, 49, 44, 32, 45, 52, 40, 114, 50, 41] := by
    unfold insT
    rw [if_pos (by decide)]
    have hf : fieldsL (formM 26) 1 2 0 (-4) = [114, 49, 44, 32, 45, 52, 40, 114, 50, 41] := by
      rw [show formM 26 = 4 by decide]
      simp only [fieldsL, Int.reduceEq, if_true, if_false, regL, itoa_neg4, show itoa 1 = [49] from itoa_d (n := 1) (by omega), show itoa 2 = [50] from itoa_d (n := 2) (by omega)]
      rfl
    unfold insL
    rw [hf]
    rfl
  have e3 : regL 3 = [114, 51] := by
    rw [regL, show itoa 3 = [51] from itoa_d (n := 3) (by omega)]
  simp only [show_Ins_is, e1, e2, cell_send (show (0 : Int) ≤ 3 by omega) (show (3 : Int) ≤ 15 by omega), e3, on1_some, gg_dv, gg_nil, bs_beq]
  rfl
theorem ShowApart_true (i k : api_Ins) (a b : Int) : l9_ShowApart 300 i k a b = some (0, gB.dv true []) := by
  unfold l9_ShowApart
  simp only [alive9_is, r1_RightIns_is, on1_some, gg_dv, gg_nil, Bool.not_true, bi_false]
  cases hi : rightIns i with
  | false => simp only [Bool.not_false, bi_true]
  | true =>
  simp only [Bool.not_true, bi_false]
  cases hk : rightIns k with
  | false => simp only [Bool.not_false, bi_true]
  | true =>
  simp only [Bool.not_true, bi_false]
  have ri := right_of hi
  have rk := right_of hk
  by_cases h1 : a < 0
  · simp only [decide_eq_true h1, bi_true]
  by_cases h2 : a > 15
  · simp only [decide_eq_false h1, decide_eq_true h2, bi_true, bi_false]
  by_cases h3 : b < 0
  · simp only [decide_eq_false h1, decide_eq_false h2, decide_eq_true h3, bi_true, bi_false]
  by_cases h4 : b > 15
  · simp only [decide_eq_false h1, decide_eq_false h2, decide_eq_false h3, decide_eq_true h4, bi_true, bi_false]
  have hl := insL_len ri
  have ei : insT i = insL i := if_pos hi
  have ek : insT k = insL k := if_pos hk
  simp only [decide_eq_false h1, decide_eq_false h2, decide_eq_false h3, decide_eq_false h4, bi_false, show_Ins_is, ei, ek, cell_put (show 0 ≤ a by omega) (show a ≤ 15 by omega), cell_put (show 0 ≤ b by omega) (show b ≤ 15 by omega), cell_do hi, on1_some, gg_dv, gg_nil, bs_beq]
  have e1 : (insL i == []) = false := beq_eq_false_iff_ne.2 (insL_ne ri)
  have e2 : ((insL i == insL k) == (i.1 == k.1 && (i.2.1 == k.2.1 && (i.2.2.1 == k.2.2.1 && (i.2.2.2.1 == k.2.2.2.1 && i.2.2.2.2.1 == k.2.2.2.2.1))))) = true := by
    rw [beq_iff_eq, Bool.eq_iff_iff]
    simp only [beq_iff_eq, Bool.and_eq_true]
    constructor
    · intro h
      have := insL_inj ri rk h
      subst this
      exact ⟨rfl, rfl, rfl, rfl, rfl⟩
    · rintro ⟨g1, g2, g3, g4, g5⟩
      obtain ⟨o, d, a, b, m, u⟩ := i
      obtain ⟨o', d', a', b', m', u'⟩ := k
      simp only at g1 g2 g3 g4 g5
      subst g1 g2 g3 g4 g5
      rfl
  have e3 : (([112, 117, 116] ++ [32] ++ regL a : List UInt8) == []) = false := by simp
  have e4 : ((([112, 117, 116] ++ [32] ++ regL a : List UInt8) == [112, 117, 116] ++ [32] ++ regL b) == (a == b)) = true := by
    rw [beq_iff_eq, Bool.eq_iff_iff]
    simp only [beq_iff_eq]
    constructor
    · intro h
      exact regL_inj (List.append_cancel_left h)
    · rintro rfl; rfl
  rw [e1, e2, e3, e4]
  simp only [Bool.not_false, bi_true]
  rw [gd_sz, bs_app, bs_beq]
  · refine retB ?_
    simp
  · simp only [List.length_cons, List.length_nil]; omega
end Go.Proofs.Zs
