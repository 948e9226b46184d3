import Derived.Test.YtnhgipdlkcdeiaaDoorEngC
import Derived.Orders
set_option linter.unusedSimpArgs false
set_option linter.unusedVariables false
/- A region whose order is open: whatever order comes up, what is left is what the text's order leaves. -/
namespace Go.Proofs.Zs
open Go

/-! States that are alike -/
def eqv (s s' : St) : Prop := s.tm.length = s'.tm.length ∧ s.nx = s'.nx ∧ ∀ l, look s l = look s' l
theorem eqv.refl (s : St) : eqv s s := ⟨rfl, rfl, fun _ => rfl⟩
theorem eqv.symm {s s' : St} (h : eqv s s') : eqv s' s := ⟨h.1.symm, h.2.1.symm, fun l => (h.2.2 l).symm⟩
theorem eqv.trans {s s' s'' : St} (h : eqv s s') (h' : eqv s' s'') : eqv s s'' := ⟨h.1.trans h'.1, h.2.1.trans h'.2.1, fun l => (h.2.2 l).trans (h'.2.2 l)⟩
theorem eqv.ob {s s' : St} (h : eqv s s') (k : Nat) : lookO s.ob k = lookO s'.ob k := by
  have := h.2.2 (.ob k); simpa [look] using this
theorem eqv.tm {s s' : St} (h : eqv s s') (t : Nat) : nthD bad s.tm t = nthD bad s'.tm t := by
  have := h.2.2 (.tmp t); simpa [look] using this
theorem eqv_of {s s' : St} (h1 : s.tm.length = s'.tm.length) (h2 : s.nx = s'.nx) (h3 : ∀ t, nthD bad s.tm t = nthD bad s'.tm t) (h4 : ∀ k, lookO s.ob k = lookO s'.ob k) : eqv s s' :=
  ⟨h1, h2, fun l => by cases l <;> simp only [look, h3, h4]⟩
theorem Rel.eqv {C : Frm} {A : Nat → Prop} {s s' : St} {a : Act} {w : World} (h : Rel C A s a w) (he : eqv s s') : Rel C A s' a w := by
  obtain ⟨E, F, hm, ht⟩ := h
  exact ⟨E, F, hm.same fun k => (he.ob k).symm, fun t => by rw [← he.tm]; exact ht.at_ t, by rw [← he.1]; exact ht.tl, ht.df⟩

theorem setN_len {α : Type} (l : List α) (n : Nat) (x : α) : (setN l n x).length = l.length := by rw [setN_eq]; simp
theorem nthD_setN {α : Type} (d : α) (l : List α) (n m : Nat) (x : α) : nthD d (setN l n x) m = if n = m ∧ n < l.length then x else nthD d l m := by
  simp only [nthD_eq, setN_eq, List.getD_eq_getElem?_getD, List.getElem?_set]
  by_cases h : n = m
  · subst h
    by_cases hl : n < l.length
    · simp [hl]
    · simp [hl]
  · simp [h]
theorem nthO_setN {α : Type} : ∀ (l : List α) (n m : Nat) (x : α), n ≠ m → nthO (setN l n x) m = nthO l m
  | [], _, _, _, _ => rfl
  | _ :: _, 0, 0, _, h => absurd rfl h
  | _ :: _, 0, _ + 1, _, _ => rfl
  | _ :: _, _ + 1, 0, _, _ => rfl
  | _ :: r, n + 1, m + 1, x, h => by simp only [setN, nthO]; exact nthO_setN r n m x (fun e => h (by rw [e]))
theorem asg_len (s : St) (l : Loc) (c : Cn) : (asg s l c).tm.length = s.tm.length := by
  cases l <;> cases c <;> simp only [asg, setN_len]
  split <;> rfl
theorem asg_nx (s : St) (l : Loc) (c : Cn) : (asg s l c).nx = s.nx := by
  cases l <;> cases c <;> simp only [asg]
  split <;> rfl
theorem look_asg_ne {s : St} {l l' : Loc} {c : Cn} (h : overlap l l' = false) : look (asg s l c) l' = look s l' := by
  cases l with
  | tmp t =>
    cases c with
    | v x =>
      cases l' with
      | tmp t' =>
        have : ¬ (t = t') := fun e => by subst e; simp [overlap] at h
        simp [asg, look, nthD_setN, this]
      | lf k i => rfl
      | ob k => rfl
    | l x => rfl
    | o x => rfl
  | lf k i =>
    cases c with
    | v x => rfl
    | o x => rfl
    | l x =>
      simp only [asg]
      split
      · rename_i ls hk
        cases l' with
        | tmp t' => rfl
        | lf k' i' =>
          simp only [look, lookO_putO]
          by_cases e : k = k'
          · subst e
            have : ¬ (i = i') := fun e => by subst e; simp [overlap] at h
            simp [hk, nthO_setN _ _ _ _ this]
          · simp [e]
        | ob k' =>
          have : ¬ (k = k') := fun e => by subst e; simp [overlap] at h
          simp [look, lookO_putO, this]
      · rfl
  | ob k =>
    cases c with
    | v x => rfl
    | l x => rfl
    | o x =>
      cases l' with
      | tmp t' => rfl
      | lf k' i' =>
        have : ¬ (k = k') := fun e => by subst e; simp [overlap] at h
        simp [asg, look, lookO_putO, this]
      | ob k' =>
        have : ¬ (k = k') := fun e => by subst e; simp [overlap] at h
        simp [asg, look, lookO_putO, this]
theorem overlap_comm (l l' : Loc) : overlap l l' = overlap l' l := by
  have e : ∀ a b : Nat, Nat.beq a b = Nat.beq b a := fun a b => by
    rw [Bool.eq_iff_iff]; simp only [Nat.beq_eq]; exact eq_comm
  cases l with
  | tmp a => cases l' <;> simp only [overlap]; exact e _ _
  | lf a b => cases l' with
    | tmp c => rfl
    | lf c d => simp only [overlap]; rw [e a c, e b d]
    | ob c => simp only [overlap]; exact e _ _
  | ob a => cases l' <;> simp only [overlap] <;> exact e _ _
def keyOf : Loc → Option Nat
  | .tmp _ => none
  | .lf k _ => some k
  | .ob k => some k
def upd (l : Loc) (c : Cn) (o : Obj) : Obj :=
  match l, c with
  | .lf _ i, .l x => match o with
    | .box ls => .box (setN ls i x)
    | o => o
  | .ob _, .o x => x
  | _, _ => o
theorem lookO_asg (s : St) (l : Loc) (c : Cn) (n : Nat) : lookO (asg s l c).ob n = if keyOf l = some n then upd l c (lookO s.ob n) else lookO s.ob n := by
  cases l with
  | tmp t => cases c <;> simp [asg, keyOf]
  | lf k i =>
    cases c with
    | v x => simp [asg, upd]
    | o x => simp [asg, upd]
    | l x =>
      simp only [asg, keyOf, Option.some.injEq]
      by_cases e : k = n
      · subst e
        rw [if_pos rfl]
        split
        · rename_i ls hk
          simp [lookO_putO, hk, upd]
        · rename_i hk
          cases ho : lookO s.ob k with
          | box ls => exact absurd ho (hk ls)
          | dead => rfl
          | arr t xs ro => rfl
          | raw r => rfl
      · rw [if_neg e]
        split
        · simp [lookO_putO, e]
        · rfl
  | ob k =>
    cases c with
    | v x => simp [asg, upd]
    | l x => simp [asg, upd]
    | o x =>
      simp only [asg, keyOf, Option.some.injEq, lookO_putO, upd]
theorem nthD_asg (s : St) (l : Loc) (c : Cn) (n : Nat) : nthD bad (asg s l c).tm n = match l, c with
    | .tmp t, .v x => if t = n ∧ t < s.tm.length then x else nthD bad s.tm n
    | _, _ => nthD bad s.tm n := by
  cases l with
  | tmp t => cases c <;> simp [asg, nthD_setN]
  | lf k i =>
    cases c with
    | l x =>
      simp only [asg]
      split <;> rfl
    | v x => rfl
    | o x => rfl
  | ob k => cases c <;> rfl
theorem asg_eqv {s s' : St} (h : eqv s s') (l : Loc) (c : Cn) : eqv (asg s l c) (asg s' l c) := by
  cases l with
  | tmp t =>
    cases c with
    | v x => exact eqv_of (by simp [asg, setN_len, h.1]) h.2.1 (fun m => by simp only [asg, nthD_setN, h.tm, h.1]) (fun k => by simp only [asg]; exact h.ob k)
    | l x => exact h
    | o x => exact h
  | lf k i =>
    cases c with
    | v x => exact h
    | o x => exact h
    | l x =>
      simp only [asg, h.ob k]
      split
      · exact eqv_of h.1 h.2.1 h.tm (fun k' => by simp only [lookO_putO, h.ob])
      · exact h
  | ob k =>
    cases c with
    | v x => exact h
    | l x => exact h
    | o x => exact eqv_of h.1 h.2.1 h.tm (fun k' => by simp only [asg, lookO_putO, h.ob])
theorem asg_comm {s : St} {l l' : Loc} {c c' : Cn} (h : overlap l l' = false) : eqv (asg (asg s l c) l' c') (asg (asg s l' c') l c) := by
  refine eqv_of ?_ ?_ ?_ ?_
  · simp only [asg_len]
  · simp only [asg_nx]
  · intro t
    rw [nthD_asg, nthD_asg _ l c, nthD_asg, nthD_asg, asg_len, asg_len]
    cases l <;> cases l' <;> cases c <;> cases c' <;> try rfl
    rename_i a b x y
    have hne : ¬ (a = b) := fun e => by subst e; simp [overlap] at h
    simp only
    by_cases e : a = t
    · subst e; simp [Ne.symm hne]
    · simp [e]
  · intro n
    rw [lookO_asg, lookO_asg, lookO_asg _ l c, lookO_asg]
    by_cases h1 : keyOf l = some n
    · by_cases h2 : keyOf l' = some n
      · simp only [if_pos h1, if_pos h2]
        cases l with
        | tmp t => simp [keyOf] at h1
        | lf k i =>
          simp only [keyOf, Option.some.injEq] at h1; subst h1
          cases l' with
          | tmp t => simp [keyOf] at h2
          | lf k' j =>
            simp only [keyOf, Option.some.injEq] at h2; subst h2
            have hij : ¬ (i = j) := fun e => by subst e; simp [overlap] at h
            cases c <;> cases c' <;> simp only [upd]
            cases lookO s.ob k' with
            | box ls => simp only; rw [setN_eq, setN_eq, setN_eq, setN_eq, List.set_comm _ _ hij]
            | dead => rfl
            | arr t xs ro => rfl
            | raw r => rfl
          | ob k' => simp only [keyOf, Option.some.injEq] at h2; subst h2; simp [overlap] at h
        | ob k =>
          simp only [keyOf, Option.some.injEq] at h1; subst h1
          cases l' with
          | tmp t => simp [keyOf] at h2
          | lf k' j => simp only [keyOf, Option.some.injEq] at h2; subst h2; simp [overlap] at h
          | ob k' => simp only [keyOf, Option.some.injEq] at h2; subst h2; simp [overlap] at h
      · simp only [if_pos h1, if_neg h2]
    · by_cases h2 : keyOf l' = some n
      · simp only [if_neg h1, if_pos h2]
      · simp only [if_neg h1, if_neg h2]

theorem apply_eqv : ∀ (wr : Wr) {s s' : St}, eqv s s' → eqv (apply wr s) (apply wr s')
  | [], _, _, h => h
  | p :: r, _, _, h => apply_eqv r (asg_eqv h p.1 p.2)
theorem meets_false {l : Loc} : ∀ {ls : List Loc}, meets l ls = false → ∀ x ∈ ls, overlap l x = false
  | [], _ => by simp
  | y :: r, h => by
    simp only [meets, Bool.or_eq_false_iff] at h
    intro x hx
    rcases List.mem_cons.1 hx with rfl | hx
    · exact h.1
    · exact meets_false h.2 x hx
theorem anyMeets_false : ∀ {a b : List Loc}, anyMeets a b = false → ∀ x ∈ a, ∀ y ∈ b, overlap x y = false
  | [], _, _ => by simp
  | z :: r, b, h => by
    simp only [anyMeets, Bool.or_eq_false_iff] at h
    intro x hx
    rcases List.mem_cons.1 hx with rfl | hx
    · exact meets_false h.1
    · exact anyMeets_false h.2 x hx
theorem look_apply_ne : ∀ (wr : Wr) {s : St} {l : Loc}, (∀ x ∈ wrLocs wr, overlap x l = false) → look (apply wr s) l = look s l
  | [], _, _, _ => rfl
  | p :: r, s, l, h => by
    simp only [apply]
    rw [look_apply_ne r fun x hx => h x (by simp [wrLocs, hx])]
    exact look_asg_ne (h p.1 (by simp [wrLocs]))
theorem apply_asg_comm : ∀ (wr : Wr) {s : St} {l : Loc} {c : Cn}, (∀ x ∈ wrLocs wr, overlap x l = false) → eqv (asg (apply wr s) l c) (apply wr (asg s l c))
  | [], _, _, _, _ => eqv.refl _
  | p :: r, s, l, c, h => by
    simp only [apply]
    refine (apply_asg_comm r fun x hx => h x (by simp [wrLocs, hx])).trans (apply_eqv r ?_)
    exact asg_comm (h p.1 (by simp [wrLocs]))
theorem apply_comm : ∀ (wr wr' : Wr) {s : St}, (∀ x ∈ wrLocs wr, ∀ y ∈ wrLocs wr', overlap x y = false) → eqv (apply wr (apply wr' s)) (apply wr' (apply wr s))
  | [], _, _, _ => eqv.refl _
  | p :: r, wr', s, h => by
    simp only [apply]
    have h1 : eqv (asg (apply wr' s) p.1 p.2) (apply wr' (asg s p.1 p.2)) := apply_asg_comm wr' fun y hy => by
      rw [overlap_comm]; exact h p.1 (by simp [wrLocs]) y hy
    exact (apply_eqv r h1).trans (apply_comm r wr' fun x hx y hy => h x (by simp [wrLocs, hx]) y hy)
theorem apply_append : ∀ (wr wr' : Wr) (s : St), apply (wr ++ wr') s = apply wr' (apply wr s)
  | [], _, _ => rfl
  | p :: r, wr', s => by simp only [List.cons_append, apply]; exact apply_append r wr' _

/-! Operations one behind the other, and each of them first -/
structure It where
  ix : Nat
  wr : Wr
  rd : List Loc

def It.fp (i : It) : Fp := ⟨i.ix, i.rd, wrLocs i.wr⟩

def Chain (ok : Nat → List DV → List DV → Prop) (sem : Nat → Rd Wr) : List It → St → St → Prop
  | [], s, s' => s' = s
  | i :: r, s, s' => RdE ok (sem i.ix) s i.wr i.rd ∧ Chain ok sem r (apply i.wr s) s'

section
variable {ok : Nat → List DV → List DV → Prop} {sem : Nat → Rd Wr}
theorem Chain.eqv : ∀ {l : List It} {s t s' : St}, Chain ok sem l s s' → eqv s t → ∃ t', Chain ok sem l t t' ∧ eqv s' t'
  | [], _, t, _, h, e => ⟨t, rfl, by rw [show _ = _ from h]; exact e⟩
  | i :: r, s, t, s', h, e => by
    obtain ⟨t', h1, h2⟩ := Chain.eqv h.2 (apply_eqv i.wr e)
    exact ⟨t', ⟨h.1.local fun l _ => (e.2.2 l).symm, h1⟩, h2⟩
theorem apart_spec {a b : Fp} (h : apart a b = true) : (∀ x ∈ a.wr, ∀ y ∈ b.wr, overlap x y = false) ∧ (∀ x ∈ a.wr, ∀ y ∈ b.rd, overlap x y = false) ∧ (∀ x ∈ a.rd, ∀ y ∈ b.wr, overlap x y = false) := by
  simp only [apart, Bool.and_eq_true, Bool.not_eq_true'] at h
  exact ⟨anyMeets_false h.1.1, anyMeets_false h.1.2, anyMeets_false h.2⟩
/-- An operation that is apart from those ahead may come first. -/
theorem Chain.pull : ∀ {p q : List It} {j : It} {s s' : St}, Chain ok sem (p ++ j :: q) s s' → (∀ i ∈ p, apart i.fp j.fp = true) →
    RdE ok (sem j.ix) s j.wr j.rd ∧ ∃ s'', Chain ok sem (p ++ q) (apply j.wr s) s'' ∧ Zs.eqv s' s''
  | [], q, j, s, s', h, _ => ⟨h.1, s', h.2, eqv.refl _⟩
  | i :: p, q, j, s, s', h, ha => by
    obtain ⟨hi, h⟩ := h
    obtain ⟨hj, s'', h1, h2⟩ := Chain.pull h fun x hx => ha x (by simp [hx])
    obtain ⟨a1, a2, a3⟩ := apart_spec (ha i (by simp))
    have hj' : RdE ok (sem j.ix) s j.wr j.rd := hj.local fun l hl => (look_apply_ne i.wr fun x hx => a2 x hx l hl).symm
    refine ⟨hj', ?_⟩
    have hi' : RdE ok (sem i.ix) (apply j.wr s) i.wr i.rd := hi.local fun l hl => look_apply_ne j.wr fun x hx => by
      rw [overlap_comm]; exact a3 l hl x hx
    obtain ⟨t, h3, h4⟩ := h1.eqv (apply_comm j.wr i.wr fun x hx y hy => by rw [overlap_comm]; exact a1 y hy x hx)
    exact ⟨t, ⟨hi', h3⟩, h2.trans h4⟩
end

/-! What operations wait for -/
theorem bits_spec {acc : List Nat} : ∀ {es : List Edge} {i : Nat}, (bits acc es).testBit i = true → ∃ e ∈ es, Region.binds .any e = true ∧ (e.on = i ∨ (nthD 0 acc e.on).testBit i = true)
  | [], i, h => by simp [bits] at h
  | e :: r, i, h => by
    simp only [bits] at h
    split at h
    · rename_i hb
      simp only [Nat.testBit_or, Bool.or_eq_true] at h
      rcases h with (h | h) | h
      · exact ⟨e, by simp, hb, .inl (by simpa [Nat.testBit_two_pow] using h)⟩
      · exact ⟨e, by simp, hb, .inr h⟩
      · obtain ⟨e', h1, h2⟩ := bits_spec h
        exact ⟨e', by simp [h1], h2⟩
    · obtain ⟨e', h1, h2⟩ := bits_spec h
      exact ⟨e', by simp [h1], h2⟩
theorem waits_pre : ∀ (ops : List Oper) (acc : List Nat), ∃ t, waits ops acc = acc ++ t
  | [], acc => ⟨[], by simp [waits]⟩
  | o :: r, acc => by
    obtain ⟨t, h⟩ := waits_pre r (acc ++ [bits acc o.after.toList])
    exact ⟨[bits acc o.after.toList] ++ t, by simp only [waits]; rw [h, List.append_assoc]⟩
theorem waits_at : ∀ (ops : List Oper) (acc : List Nat) (j : Nat) (o : Oper), ops[j]? = some o →
    nthD 0 (waits ops acc) (acc.length + j) = bits ((waits ops acc).take (acc.length + j)) o.after.toList
  | [], _, _, _, h => by simp at h
  | p :: r, acc, 0, o, h => by
    simp at h; subst h
    simp only [waits]
    obtain ⟨t, ht⟩ := waits_pre r (acc ++ [bits acc p.after.toList])
    rw [ht, nthD_eq, Nat.add_zero, List.append_assoc, List.take_left' rfl, List.getD_eq_getElem?_getD, List.getElem?_append_right (Nat.le_refl _)]
    simp
  | p :: r, acc, j + 1, o, h => by
    simp only [waits]
    have := waits_at r (acc ++ [bits acc p.after.toList]) j o (by simpa using h)
    simp only [List.length_append, List.length_cons, List.length_nil] at this
    rw [show acc.length + (j + 1) = acc.length + (0 + 1) + j by omega]
    exact this
theorem edgesOk_spec : ∀ (ops : List Oper) (n : Nat), edgesOk ops n = true → ∀ (j : Nat) (o : Oper), ops[j]? = some o → ∀ e ∈ o.after.toList, Region.binds .any e = true → e.on < n + j
  | [], _, _, _, _, h => by simp at h
  | p :: r, n, hk, 0, o, h => by
    simp at h; subst h
    simp only [edgesOk, Bool.and_eq_true, List.all_eq_true] at hk
    intro e he hb
    have := hk.1 e he
    simp only [hb, Bool.not_true, Bool.false_or] at this
    simpa using this
  | p :: r, n, hk, j + 1, o, h => by
    simp only [edgesOk, Bool.and_eq_true] at hk
    intro e he hb
    have := edgesOk_spec r (n + 1) hk.2 j o (by simpa using h) e he hb
    omega

/-- The operation's own keys. -/
def keys (base ix : Nat) : Nat → Prop := fun k => base + stride * ix ≤ k ∧ k < base + stride * ix + stride

/-- What is shown of each operation. -/
def OpOk (P : Program) (ok : Nat → List DV → List DV → Prop) (Q : Exit → Act → World → Prop) (C : Frm) (ops : Array Oper) (sem : Nat → Rd Wr) (base : Nat) : Prop :=
  ∀ (ix : Nat) (s : St) (wr : Wr) (rd : List Loc) (A : Nat → Prop) (a : Act) (w : World) (K : Act → World → Prop), ix < ops.size → RdE ok (sem ix) s wr rd → Rel C A s a w →
    (∀ k, keys base ix k → ¬ A k) → (∀ a' w', Rel C (fun k => A k ∨ keys base ix k) (apply wr s) a' w' → K a' w') → wpOp P ops Q ix K a w

section
variable {P : Program} {ok : Nat → List DV → List DV → Prop} {Q : Exit → Act → World → Prop} {C : Frm} {ops : Array Oper} {sem : Nat → Rd Wr} {base : Nat}
/-- Of two operations the latter waits for the former, or they are apart. -/
def Fine (ws : List Nat) (l : List It) : Prop := l.Pairwise fun i j => (nthD 0 ws j.ix).testBit i.ix = true ∨ apart i.fp j.fp = true

theorem any_ok (hop : OpOk P ok Q C ops sem base) (hed : edgesOk ops.toList 0 = true) : ∀ (l : List It) (fuel : Nat) (listed : Array Bool) (A : Nat → Prop) (s s' : St) (a : Act) (w : World),
    l.length ≤ fuel → listed.size = ops.size → (∀ i, i < ops.size → (listed.getD i true = false ↔ i ∈ l.map It.ix)) → (l.map It.ix).Pairwise (· < ·) → (∀ i ∈ l, i.ix < ops.size) →
    (∀ d, listed.getD d false = true → ∀ i, i < ops.size → (nthD 0 (waits ops.toList []) d).testBit i = true → listed.getD i false = true) →
    Fine (waits ops.toList []) l → Chain ok sem l s s' → Rel C A s a w → (∀ k, A k → k < base ∨ ∃ i, i < ops.size ∧ i ∉ l.map It.ix ∧ keys base i k) →
    (∀ a' w', Rel C (fun k => k < base + stride * ops.size) s' a' w' → Q .normal a' w') →
    wpAny P .any ops Q fuel listed a w := by
  intro l
  induction hn : l.length generalizing l with
  | zero =>
    intro fuel listed A s s' a w _ hls hli _ _ _ _ hch hr hA hQ
    have hl : l = [] := List.length_eq_zero_iff.1 hn
    subst hl
    have hready : Region.ready .any ops listed = [] := by
      rw [List.eq_nil_iff_forall_not_mem]
      intro i hi
      rw [mem_ready] at hi
      obtain ⟨hi2, o, ho, _⟩ := hi
      have hi1 : i < ops.size := (Array.getElem?_eq_some_iff.1 ho).1
      have := (hli i hi1).1 hi2
      simp at this
    have hq : Q .normal a w := hQ a w (by
      rw [show s' = s from hch]
      obtain ⟨E, F, hm, ht⟩ := hr
      refine ⟨E, F, hm.mono fun k hk => ?_, ht⟩
      rcases hA k hk with h | ⟨i, h1, _, h2⟩
      · have := Nat.zero_le (stride * ops.size); omega
      · have : stride * i + stride ≤ stride * ops.size := by rw [← Nat.mul_succ]; exact Nat.mul_le_mul_left _ h1
        have := h2.2; omega)
    cases fuel with
    | zero => exact ⟨hready, hq⟩
    | succ n => exact ⟨fun _ => hq, fun i hi => by rw [hready] at hi; simp at hi⟩
  | succ n ih =>
    intro fuel listed A s s' a w hfu hls hli hpw hlt hcl hfine hch hr hA hQ
    obtain ⟨fuel, rfl⟩ : ∃ m, fuel = m + 1 := ⟨fuel - 1, by omega⟩
    refine ⟨fun hempty => ?_, fun j hj => ?_⟩
    · -- the first of those that are left may come up
      exfalso
      match l, hn with
      | i :: r, _ =>
        have hi : i.ix < ops.size := hlt i (by simp)
        have : i.ix ∈ Region.ready .any ops listed := by
          rw [mem_ready]
          refine ⟨(hli i.ix hi).2 (by simp), ?_⟩
          obtain ⟨o, ho⟩ : ∃ o, ops[i.ix]? = some o := ⟨_, Array.getElem?_eq_getElem hi⟩
          refine ⟨o, ho, fun e he hb => ?_⟩
          have h1 : e.on < i.ix := by
            have := edgesOk_spec ops.toList 0 hed i.ix o (by simpa using ho) e (by simpa using he) hb
            omega
          have h2 : ¬ listed.getD e.on true = false := by
            rw [hli e.on (by omega)]
            intro hm
            rw [List.map_cons, List.pairwise_cons] at hpw
            rw [List.map_cons, List.mem_cons] at hm
            rcases hm with hm | hm
            · omega
            · have := hpw.1 _ hm; omega
          have h3 : e.on < listed.size := by omega
          simpa [Array.getD, h3] using h2
        rw [hempty] at this
        simp at this
    · rw [mem_ready] at hj
      obtain ⟨hj2, o, ho, hafter⟩ := hj
      have hj1 : j < ops.size := (Array.getElem?_eq_some_iff.1 ho).1
      have hjl : j ∈ l.map It.ix := (hli j hj1).1 hj2
      obtain ⟨x, hx, rfl⟩ := List.mem_map.1 hjl
      obtain ⟨p, q, rfl⟩ := List.append_of_mem hx
      have hbits : ∀ i, i < ops.size → (nthD 0 (waits ops.toList []) x.ix).testBit i = true → listed.getD i false = true := by
        intro i hi hb
        have h1 := waits_at ops.toList [] x.ix o (by simpa using ho)
        simp only [List.length_nil, Nat.zero_add] at h1
        rw [h1] at hb
        obtain ⟨e, he, hbd, h2⟩ := bits_spec hb
        have h3 := hafter e (by simpa using he) hbd
        rcases h2 with rfl | h2
        · exact h3
        · refine hcl e.on h3 i hi ?_
          rw [nthD_eq, List.getD_eq_getElem?_getD] at h2 ⊢
          rw [List.getElem?_take] at h2
          split at h2
          · exact h2
          · simp at h2
      have hnotl : ∀ i ∈ p, ¬ listed.getD i.ix false = true := by
        intro i hi hl
        have h1 : i.ix < ops.size := hlt i (by simp [hi])
        have h2 := (hli i.ix h1).2 (by simp; exact .inl ⟨i, hi, rfl⟩)
        have h3 : i.ix < listed.size := by omega
        simp [Array.getD, h3] at h2 hl
        rw [h2] at hl; simp at hl
      have hap : ∀ i ∈ p, apart i.fp x.fp = true := by
        intro i hi
        unfold Fine at hfine
        rw [List.pairwise_append] at hfine
        rcases hfine.2.2 i hi x (by simp) with h | h
        · exact absurd (hbits i.ix (hlt i (by simp [hi])) h) (hnotl i hi)
        · exact h
      obtain ⟨hx1, t, hch', heq⟩ := Chain.pull hch hap
      have hpw' : ((p ++ q).map It.ix).Pairwise (· < ·) := hpw.sublist (by
        rw [List.map_append, List.map_append, List.map_cons]
        exact (List.Sublist.refl _).append (List.sublist_cons_self _ _))
      have hnd : x.ix ∉ (p ++ q).map It.ix := by
        intro hm
        rw [List.map_append, List.mem_append] at hm
        rw [List.map_append, List.map_cons, List.pairwise_append, List.pairwise_cons] at hpw
        rcases hm with hm | hm
        · have := hpw.2.2 _ hm x.ix (by simp); omega
        · have := hpw.2.1.1 _ hm; omega
      refine hop x.ix s x.wr x.rd A a w _ hj1 hx1 hr (fun k hk hAk => ?_) fun a' w' hr' => ?_
      · rcases hA k hAk with h | ⟨i, h1, h2, h3⟩
        · have := hk.1; omega
        · have hne : i ≠ x.ix := fun e => h2 (by rw [e]; simp)
          have ha := hk.1
          have hb := hk.2
          have hc := h3.1
          have hd := h3.2
          rcases Nat.lt_or_gt_of_ne hne with hlt' | hgt
          · have : stride * i + stride ≤ stride * x.ix := by rw [← Nat.mul_succ]; exact Nat.mul_le_mul_left _ hlt'
            omega
          · have : stride * x.ix + stride ≤ stride * i := by rw [← Nat.mul_succ]; exact Nat.mul_le_mul_left _ hgt
            omega
      · have hset : ∀ i, i ≠ x.ix → ∀ d, (listed.setIfInBounds x.ix true).getD i d = listed.getD i d := fun i hi d => getD_set_ne d (Ne.symm hi)
        refine ih (p ++ q) (by simp at hn ⊢; omega) fuel _ _ (apply x.wr s) t a' w' (by simp at hfu ⊢; omega) (by simpa using hls) (fun i hi => ?_) hpw' (fun i hi => hlt i (by
          rcases List.mem_append.1 hi with h | h <;> simp [h])) (fun d hd i hi hb => ?_) ?_ hch' hr' (fun k hk => ?_) (fun a'' w'' hr'' => hQ a'' w'' (hr''.eqv heq.symm))
        · by_cases e : i = x.ix
          · subst e
            have h3 : x.ix < listed.size := by omega
            simp only [hnd, iff_false]
            simp [Array.getD, h3]
          · rw [hset i e, hli i hi]
            simp only [List.map_append, List.map_cons, List.mem_append, List.mem_cons]
            constructor
            · rintro (h | h | h)
              · exact .inl h
              · exact absurd h e
              · exact .inr h
            · rintro (h | h)
              · exact .inl h
              · exact .inr (.inr h)
        · by_cases e : d = x.ix
          · subst e
            exact getD_set_true (hbits i hi hb)
          · rw [hset d e] at hd
            exact getD_set_true (hcl d hd i hi hb)
        · unfold Fine at hfine ⊢
          exact hfine.sublist ((List.Sublist.refl _).append (List.sublist_cons_self _ _))
        · rcases hk with hk | hk
          · rcases hA k hk with h | ⟨i, h1, h2, h3⟩
            · exact .inl h
            · refine .inr ⟨i, h1, fun hm => h2 ?_, h3⟩
              simp only [List.map_append, List.map_cons, List.mem_append, List.mem_cons] at hm ⊢
              rcases hm with hm | hm
              · exact .inl hm
              · exact .inr (.inr hm)
          · exact .inr ⟨x.ix, hj1, hnd, hk⟩
end
end Go.Proofs.Zs
/- Regions, walked. -/
namespace Go.Proofs.Zs
open Go

theorem At.heap {w w' : World} {b o : Nat} {ds : List Value} (h : At w b o ds) (hb : w'.heap[b]? = w.heap[b]?) : At w' b o ds := by
  intro j u hj
  have := h j u hj
  unfold World.cell? at this ⊢
  simp only [hb]; exact this
theorem cell?_heap {w w' : World} {a : Addr} (hb : w'.heap[a.block]? = w.heap[a.block]?) : w'.cell? a = w.cell? a := by
  unfold World.cell?; rw [hb]
theorem frozen?_heap {w w' : World} {a : Addr} (hb : w'.heap[a.block]? = w.heap[a.block]?) : w'.frozen? a = w.frozen? a := by
  unfold World.frozen?; rw [hb]

theorem RepArr.ext {F F' : Nat → Prop} {w w' : World} {e : EI} {t : Ty} {xs : List (Den t)} {ro : Bool} (h : RepArr F w e t xs ro) (hf : ∀ b, F b → F' b)
    (hw : ∀ b, F b → ∀ o u, w.cell? ⟨b, o, none⟩ = some u → w'.cell? ⟨b, o, none⟩ = some u) (hb : e.nil = false → w'.heap[e.blk]? = w.heap[e.blk]?) (hF : ro = false → e.nil = false → ¬ F' e.blk) : RepArr F' w' e t xs ro := by
  obtain ⟨h1, h2, h3, h4, h5, h6⟩ := h
  refine ⟨h1, h2, h3, h4, h5, fun hn => ?_⟩
  obtain ⟨cs, u, fr, ds, k1, k2, k3, k4, k5, k6⟩ := h6 hn
  have hbl := hb hn
  refine ⟨cs, u, fr, ds, hbl.trans k1, k2, k3.imp fun _ _ hc => RepD.ext hf hw hc, k4.heap hbl, fun hro => ?_, fun hro => hf _ (k6 hro)⟩
  exact ⟨hF hro hn, fun o ho => (frozen?_heap hbl).trans ((k5 hro).2 o ho)⟩
theorem BoxAt.heap {w w' : World} {e : EI} {t : TypeId} {cs : List Value} (h : BoxAt w e t cs) (hb : w'.heap[e.blk]? = w.heap[e.blk]?) : BoxAt w' e t cs := by
  obtain ⟨ds, fr, h1, h2, h3⟩ := h
  exact ⟨ds, fr, hb.trans h1, h2, fun o ho => (frozen?_heap hb).trans (h3 o ho)⟩
theorem RawAt.ext {F F' : Nat → Prop} {w w' : World} {b : Nat} {r : Raw} (h : RawAt F w b r) (hf : ∀ b, F b → F' b)
    (hw : ∀ b, F b → ∀ o u, w.cell? ⟨b, o, none⟩ = some u → w'.cell? ⟨b, o, none⟩ = some u) (hb : w'.heap[b]? = w.heap[b]?) : RawAt F' w' b r := by
  cases r with
  | it s p => exact ⟨h.1, hb.trans h.2⟩
  | mp t es =>
    obtain ⟨h1, l, c, h2, h3⟩ := h
    exact ⟨h1, l, c, hb.trans h2, h3.imp fun _ _ hc => ⟨hc.1, RepD.ext hf hw hc.2⟩⟩
/-- An object whose block stays says what it said. -/
theorem RepO.ext {E E' : Env} {F F' : Nat → Prop} {w w' : World} {e : EI} {o : Obj} (h : RepO E F w e o) (hx : Ext E F w E' F' w') (hb : o.live → e.nil = false ∨ (∃ ls, o = .box ls) → w'.heap[e.blk]? = w.heap[e.blk]?)
    (hF : excl e o → ¬ F' e.blk) : RepO E' F' w' e o := by
  cases o with
  | dead => trivial
  | box ls =>
    obtain ⟨cs, t, h1, h2, _, h4⟩ := h
    exact ⟨cs, t, h1.heap (hb trivial (.inr ⟨ls, rfl⟩)), RepLs.ext hx h2, hF trivial, h4⟩
  | arr t xs ro => exact RepArr.ext h hx.fz hx.wd (fun hn => hb trivial (.inl hn)) (fun hro hn => by subst hro; exact hF hn)
  | raw r =>
    obtain ⟨h1, h2, h3⟩ := h
    exact ⟨h1, hF trivial, h3.ext hx.fz hx.wd (hb trivial (.inl h1))⟩
theorem excl_notF {C : Frm} {A : Nat → Prop} {E : Env} {F : Nat → Prop} {ob : List (Nat × Obj)} {w : World} (h : Mem C A E F ob w) {k : Nat} (hk : excl (E.e k) (lookO ob k)) : ¬ F (E.e k).blk := by
  have := h.rp k
  cases hb : lookO ob k with
  | dead => rw [hb] at hk; exact hk.elim
  | box ls => rw [hb] at this; obtain ⟨cs, t, _, _, h3, _⟩ := this; exact h3
  | arr t xs ro =>
    rw [hb] at this hk
    cases ro with
    | true => exact hk.elim
    | false =>
      obtain ⟨_, _, _, _, _, h6⟩ := this
      obtain ⟨cs, u, fr, ds, k1, k2, k3, k4, k5, k6⟩ := h6 hk
      exact (k5 rfl).1
  | raw r => rw [hb] at this; exact this.2.1
theorem Mem.heap {C : Frm} {A : Nat → Prop} {E : Env} {F : Nat → Prop} {ob : List (Nat × Obj)} {w w' : World} (h : Mem C A E F ob w) (hh : w'.heap = w.heap) (ho : w'.os = w.os) (ht : w'.tape = w.tape) (hp : w'.output = w.output) :
    Mem C A E F ob w' ∧ Ext E F w E F w' := by
  have hx : Ext E F w E F w' := ⟨fun _ h => h, fun _ _ => rfl, fun _ h => h, fun b _ o u hu => by rw [cell?_heap (w := w) (w' := w') (by rw [hh])]; exact hu⟩
  refine ⟨⟨h.lv, fun k => (h.rp k).ext hx (fun _ _ => by rw [hh]) (fun hk => ?_), h.inj, h.al, fun b hb => by rw [hh]; exact h.fb b hb, h.f0, fun b hb ho => by rw [hh]; exact h.kp b hb ho, h.uf, h.uo, by rw [hh]; exact h.sz, ho.trans h.os, ht.trans h.tape, hp.trans h.output, h.eo⟩, hx⟩
  exact excl_notF h hk
theorem Rel.drawn {C : Frm} {A : Nat → Prop} {s : St} {a : Act} {w : World} (h : Rel C A s a w) (n : Nat) : Rel C A s a { w with drawn := n } := by
  obtain ⟨E, F, hm, ht⟩ := h
  obtain ⟨h1, h2⟩ := hm.heap (w' := { w with drawn := n }) rfl rfl rfl rfl
  exact ⟨E, F, h1, ht.ext h2⟩
theorem Rel.mono {C : Frm} {A A' : Nat → Prop} {s : St} {a : Act} {w : World} (h : Rel C A s a w) (hA : ∀ k, A k → A' k) : Rel C A' s a w := by
  obtain ⟨E, F, hm, ht⟩ := h
  exact ⟨E, F, hm.mono hA, ht⟩

theorem apply_nx : ∀ (wr : Wr) (s : St), (apply wr s).nx = s.nx
  | [], _ => rfl
  | p :: r, s => by simp only [apply]; rw [apply_nx r, asg_nx]
theorem anyMeets_true {a b : List Loc} (h : ∀ x ∈ a, ∀ y ∈ b, overlap x y = false) : anyMeets a b = false := by
  have hm : ∀ (l : Loc) (ls : List Loc), (∀ y ∈ ls, overlap l y = false) → meets l ls = false := by
    intro l ls
    induction ls with
    | nil => intro _; rfl
    | cons y r ih => intro h; simp only [meets, h y (by simp), ih fun z hz => h z (by simp [hz]), Bool.or_self]
  induction a with
  | nil => rfl
  | cons x r ih => simp only [anyMeets, hm x b (h x (by simp)), ih fun y hy => h y (by simp [hy]), Bool.or_self]
theorem apart_perm {ix : Nat} {rd : List Loc} {wr : Wr} {i : It} (h : apart ⟨ix, rd.reverse ++ [], wrLocs wr⟩ i.fp = true) : apart (It.fp ⟨ix, wr, rd⟩) i.fp = true := by
  obtain ⟨h1, h2, h3⟩ := apart_spec h
  simp only [apart, It.fp, Bool.and_eq_true, Bool.not_eq_true']
  exact ⟨⟨anyMeets_true h1, anyMeets_true h2⟩, anyMeets_true fun x hx => h3 x (by simp; exact hx)⟩
theorem apart_perm' {ix : Nat} {rd : List Loc} {wr : Wr} {f : Fp} (h : apart f ⟨ix, rd.reverse ++ [], wrLocs wr⟩ = true) : apart f (It.fp ⟨ix, wr, rd⟩) = true := by
  obtain ⟨h1, h2, h3⟩ := apart_spec h
  simp only [apart, It.fp, Bool.and_eq_true, Bool.not_eq_true']
  exact ⟨⟨anyMeets_true h1, anyMeets_true fun x hx y hy => h2 x hx y (by simp; exact hy)⟩, anyMeets_true h3⟩

def semOf (cx : Cx) (hi : Hi) (rg : Nat) (ops : List Oper) (base : Nat) (ix : Nat) : Rd Wr :=
  match ops[ix]? with
  | some o => opG cx hi rg ix (base + stride * ix) (dstOf ops) o
  | none => .fail

section
variable {P : Program} {ok : Nat → List DV → List DV → Prop} {ct : CT} {Q : Exit → Act → World → Prop} {C : Frm} {cx : Cx} {hi : Hi} {rg : Nat} {ops : Array Oper} {base : Nat} {k : St → Option Rs} {r : Rs}
theorem seq_ok (hct : CTok ok ct) (hop : OpOk P ok Q C ops (semOf cx hi rg ops.toList base) base) : ∀ (l : List Oper) (ix : Nat) (s : St) (a : Act) (w : World), ops.toList.drop ix = l → ix ≤ ops.size →
    seqOps cx hi ct rg (dstOf ops.toList) l ix (base + stride * ix) s k = some r → Rel C (fun k => k < base + stride * ix) s a w →
    (∀ s' a' w', s'.nx = s.nx → k s' = some r → Rel C (fun k => k < base + stride * ops.size) s' a' w' → Q .normal a' w') →
    wpOps P ops Q (List.range' ix (ops.size - ix)) a w
  | [], ix, s, a, w, hl, hle, h, hr, hQ => by
    have : ix = ops.size := by
      have := List.drop_eq_nil_iff.1 hl
      simp at this; omega
    subst this
    simp only [Nat.sub_self, List.range'_zero, wpOps]
    exact hQ s a w rfl h hr
  | o :: l, ix, s, a, w, hl, hle, h, hr, hQ => by
    have hlt : ix < ops.size := by
      rcases Nat.lt_or_ge ix ops.size with h | h
      · exact h
      · rw [List.drop_of_length_le (by simpa using h)] at hl; simp at hl
    have ho : ops.toList[ix]? = some o := by
      have : (ops.toList.drop ix)[0]? = some o := by rw [hl]; rfl
      simpa using this
    simp only [seqOps] at h
    obtain ⟨wr, rd, h1, h2⟩ := rdRun_ev hct h
    rw [show ops.size - ix = (ops.size - (ix + 1)) + 1 by omega, List.range'_succ, wpOps_cons]
    refine hop ix s wr rd _ a w _ hlt (by simp only [semOf, ho]; exact h1) hr (fun n hn hA => by have := hn.1; omega) fun a' w' hr' => ?_
    refine seq_ok hct hop l (ix + 1) (apply wr s) a' w' (by rw [← List.drop_drop, hl]; rfl) hlt (by rw [Nat.mul_succ, ← Nat.add_assoc]; exact h2) (hr'.mono fun n hn => ?_) ?_
    · rw [Nat.mul_succ]
      rcases hn with hn | hn
      · omega
      · have := hn.2; omega
    · intro s' a'' w'' hnx hk hr''
      exact hQ s' a'' w'' (hnx.trans (apply_nx wr s)) hk hr''

/-- What a text's order comes to, told one by one. -/
theorem any_chain (hct : CTok ok ct) (ws : List Nat) : ∀ (l : List Oper) (ix : Nat) (s : St) (fs : List Fp), ops.toList.drop ix = l →
    anyOps cx hi ct rg (dstOf ops.toList) ws l ix (base + stride * ix) fs s k = some r →
    ∃ (its : List It) (s' : St), its.map It.ix = List.range' ix l.length ∧ Chain ok (semOf cx hi rg ops.toList base) its s s' ∧ s'.nx = s.nx ∧ k s' = some r ∧ Fine ws its ∧
      (∀ i ∈ its, ∀ f ∈ fs, (nthD 0 ws i.ix).testBit f.ix = true ∨ apart f i.fp = true)
  | [], ix, s, fs, _, h => ⟨[], s, rfl, rfl, rfl, h, List.Pairwise.nil, by simp⟩
  | o :: l, ix, s, fs, hl, h => by
    have ho : ops.toList[ix]? = some o := by
      have : (ops.toList.drop ix)[0]? = some o := by rw [hl]; rfl
      simpa using this
    simp only [anyOps] at h
    obtain ⟨wr, rd, h1, h2⟩ := rdRun_ev hct h
    split at h2
    · rename_i hap
      obtain ⟨its, s', g1, g2, g3, g4, g5, g6⟩ := any_chain hct ws l (ix + 1) _ _ (by rw [← List.drop_drop, hl]; rfl) (by rw [Nat.mul_succ, ← Nat.add_assoc]; exact h2)
      have key : ∀ fs : List Fp, apartAll (nthD 0 ws ix) ⟨ix, rd.reverse ++ [], wrLocs wr⟩ fs = true → ∀ f ∈ fs, (nthD 0 ws ix).testBit f.ix = true ∨ apart f ⟨ix, rd.reverse ++ [], wrLocs wr⟩ = true := by
        intro fs
        induction fs with
        | nil => simp
        | cons f q ih =>
          intro h
          simp only [apartAll, Bool.and_eq_true, Bool.or_eq_true] at h
          intro g hg
          rcases List.mem_cons.1 hg with rfl | hg
          · exact h.1
          · exact ih h.2 g hg
      -- the readings in either order
      have hrd : RdE ok (semOf cx hi rg ops.toList base ix) s wr rd := by simp only [semOf, ho]; exact h1
      refine ⟨⟨ix, wr, rd⟩ :: its, s', ?_, ⟨hrd, g2⟩, g3.trans (apply_nx wr s), g4, ?_, ?_⟩
      · simp only [List.map_cons, List.length_cons, List.range'_succ, g1]
      · refine List.pairwise_cons.2 ⟨fun i hi => ?_, g5⟩
        have := g6 i hi _ (List.mem_cons_self ..)
        refine this.imp id fun h => ?_
        exact apart_perm h
      · intro i hi f hf
        rcases List.mem_cons.1 hi with rfl | hi
        · refine (key fs hap f hf).imp id fun h => ?_
          exact apart_perm' h
        · exact g6 i hi f (List.mem_cons_of_mem _ hf)
    · simp at h2
end

section
variable {P : Program} {ok : Nat → List DV → List DV → Prop} {ct : CT} {Q : Exit → Act → World → Prop} {C : Frm} {cx : Cx} {hi : Hi} {rg : Nat} {k : St → Option Rs} {r : Rs}
/-- A region: what the run comes to, the machine comes to. -/
theorem region_ok {ops : Array Oper} {draw : Bool} {s : St} {a : Act} {w : World} (hct : CTok ok ct) (hm : P.follows .mixedOrders = true)
    (hop : OpOk P ok Q C ops (semOf cx hi rg ops.toList s.nx) s.nx) (h : region cx hi ct rg ops.toList draw s k = some r) (hr : Rel C (fun k => k < s.nx) s a w)
    (hQ : ∀ s' a' w', k s' = some r → Rel C (fun k => k < s'.nx) s' a' w' → Q .normal a' w') : (Code.region rg ops draw).wp P Q a w := by
  have hr' : Rel C (fun k => k < s.nx) (bump ops.toList.length s) a w := by
    obtain ⟨E, F, h1, h2⟩ := hr
    exact ⟨E, F, h1, h2.at_, h2.tl, h2.df⟩
  cases draw with
  | false =>
    simp only [region] at h
    refine wp_region ?_
    have := seq_ok (base := s.nx) (ops := ops) hct hop ops.toList 0 _ a w rfl (Nat.zero_le _) h (by simpa using hr') (fun s' a' w' hnx hk hr'' => hQ s' a' w' hk (hr''.mono fun n hn => by
      rw [hnx]; simpa [bump] using hn))
    rw [List.range_eq_range']
    exact this
  | true =>
    simp only [region] at h
    split at h
    · rename_i hed
      obtain ⟨its, s', g1, g2, g3, g4, g5, g6⟩ := any_chain (base := s.nx) (ops := ops) hct _ ops.toList 0 _ [] rfl h
      refine wp_region_any hm ?_
      refine any_ok hop hed its ops.size _ _ _ s' a _ ?_ (by simp) ?_ ?_ ?_ ?_ g5 g2 (hr'.drawn _) (fun n hn => .inl hn) fun a' w' hr'' => hQ s' a' w' g4 (hr''.mono fun n hn => by
        rw [g3]; simpa [bump] using hn)
      · have := congrArg List.length g1
        simpa using Nat.le_of_eq this
      · intro i hi
        rw [g1]
        simp [Array.getD, hi]
      · rw [g1]; exact List.pairwise_lt_range' ..
      · intro i hi
        have : i.ix ∈ its.map It.ix := List.mem_map.2 ⟨i, hi, rfl⟩
        rw [g1] at this
        simpa using this
      · intro d hd i hi hb
        exfalso
        by_cases h3 : d < ops.size
        · simp [Array.getD, h3] at hd
        · simp [Array.getD, h3] at hd
    · simp at h
end
end Go.Proofs.Zs
