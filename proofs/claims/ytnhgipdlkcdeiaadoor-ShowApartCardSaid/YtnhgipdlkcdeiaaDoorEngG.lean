import Derived.Test.YtnhgipdlkcdeiaaDoorEngE
import Derived.Laws.Small
import Derived.Laws.StructEq
set_option linter.unusedSimpArgs false
set_option linter.unusedVariables false
/- What memory's events leave: a new block, a block written, a slice handed on, a slice let go, a slice that may not turn any more. -/
namespace Go.Proofs.Zs
open Go

def Env.set (E : Env) (k : Nat) (e : EI) : Env := { e := fun n => if n = k then e else E.e n, al := fun n => E.al n ∨ n = k }
theorem Env.set_self (E : Env) (k : Nat) (e : EI) : (E.set k e).e k = e := if_pos rfl
theorem Env.set_ne (E : Env) {k n : Nat} (e : EI) (h : n ≠ k) : (E.set k e).e n = E.e n := if_neg h
theorem Env.ext_set {E : Env} {F F' : Nat → Prop} {w w' : World} {k : Nat} (hk : ¬ E.al k) (e : EI) (hf : ∀ b, F b → F' b)
    (hw : ∀ b, F b → ∀ o u, w.cell? ⟨b, o, none⟩ = some u → w'.cell? ⟨b, o, none⟩ = some u) : Ext E F w (E.set k e) F' w' :=
  ⟨fun _ h => .inl h, fun n hn => Env.set_ne E e (fun h => hk (h ▸ hn)), hf, hw⟩

theorem lt_of_some {w : World} {b : Nat} {o : Go.Obj} (h : w.heap[b]? = some o) : b < w.heap.size := (Array.getElem?_eq_some_iff.1 h).1

section
variable {C : Frm} {A : Nat → Prop} {E : Env} {F : Nat → Prop} {ob : List (Nat × Obj)} {w w' : World}

/-- The block of what lives (and has one) lies there. -/
theorem Mem.blk_lt (h : Mem C A E F ob w) {k : Nat} (hl : (lookO ob k).live) (hn : (E.e k).nil = false ∨ ∃ ls, lookO ob k = .box ls) : (E.e k).blk < w.heap.size := by
  have := h.rp k
  cases ho : lookO ob k with
  | dead => rw [ho] at hl; exact hl.elim
  | box ls => rw [ho] at this; obtain ⟨cs, t, ⟨ds, fr, h1, _⟩, _⟩ := this; exact lt_of_some h1
  | arr t xs ro =>
    rw [ho] at this
    obtain ⟨_, _, _, _, _, h6⟩ := this
    rcases hn with hn | ⟨ls, hn⟩
    · obtain ⟨cs, u, fr, ds, k1, _⟩ := h6 hn; exact lt_of_some k1
    · rw [ho] at hn; cases hn
  | raw r =>
    rw [ho] at this
    obtain ⟨_, _, h3⟩ := this
    cases r with
    | it s p => exact lt_of_some h3.2
    | mp t es => obtain ⟨_, l, c, h4, _⟩ := h3; exact lt_of_some h4
theorem excl_live {e : EI} {o : Obj} (h : excl e o) : o.live := by
  cases o with
  | dead => exact h.elim
  | box ls => trivial
  | arr t xs ro => trivial
  | raw r => trivial
/-- Another key's block is another block, or one that may not turn. -/
theorem Mem.blk_ne (h : Mem C A E F ob w) {k n : Nat} (hk : excl (E.e k) (lookO ob k)) (hne : n ≠ k) (hl : (lookO ob n).live) (hn : (E.e n).nil = false ∨ ∃ ls, lookO ob n = .box ls) : (E.e n).blk ≠ (E.e k).blk := by
  intro e
  by_cases hx : excl (E.e n) (lookO ob n)
  · exact hne (h.inj n k hx hk e)
  · have := h.rp n
    cases ho : lookO ob n with
    | dead => rw [ho] at hl; exact hl
    | box ls => rw [ho] at hx; exact hx trivial
    | arr t xs ro =>
      rw [ho] at this hx
      rcases hn with hn | ⟨ls, hn⟩
      · cases ro with
        | false => exact hx hn
        | true =>
          obtain ⟨_, _, _, _, _, h6⟩ := this
          obtain ⟨cs, u, fr, ds, k1, k2, k3, k4, k5, k6⟩ := h6 hn
          exact excl_notF h hk (e ▸ k6 rfl)
      · rw [ho] at hn; cases hn
    | raw r => rw [ho] at hx; exact hx trivial

/-- A new block, a new key. -/
theorem Mem.new (h : Mem C A E F ob w) {k : Nat} (hk : ¬ E.al k) {e : EI} {o : Obj} (hos : w'.os = w.os) (htp : w'.tape = w.tape) (hou : w'.output = w.output)
    (hsz : w'.heap.size = w.heap.size + 1) (hold : ∀ b, b < w.heap.size → w'.heap[b]? = w.heap[b]?) (hblk : excl e o → e.blk = w.heap.size)
    (hrp : ∀ hx : Ext E F w (E.set k e) F w', RepO (E.set k e) F w' e o) :
    Mem C (fun n => A n ∨ n = k) (E.set k e) F (putO ob k o) w' ∧ Ext E F w (E.set k e) F w' := by
  have hx : Ext E F w (E.set k e) F w' := Env.ext_set hk e (fun _ h => h) (fun b hb o u hu => by
    rw [cell?_heap (w := w) (hold b (h.fb b hb))]; exact hu)
  have hne : ∀ n, (lookO ob n).live → n ≠ k := fun n hn e => hk (e ▸ h.lv n hn)
  refine ⟨⟨?_, ?_, ?_, ?_, fun b hb => by have := h.fb b hb; omega, h.f0, fun b hb ho => (hold b (Nat.lt_of_lt_of_le hb h.sz)).trans (h.kp b hb ho), h.uf, ?_, by have := h.sz; omega, hos.trans h.os, htp.trans h.tape, hou.trans h.output, fun k hk => ⟨hx.al k (h.eo k hk).1, (hx.e k (h.eo k hk).1).trans (h.eo k hk).2⟩⟩, hx⟩
  · intro n hn
    rw [lookO_putO] at hn
    by_cases e' : k = n
    · exact .inr e'.symm
    · rw [if_neg e'] at hn; exact .inl (h.lv n hn)
  · intro n
    rw [lookO_putO]
    by_cases e' : k = n
    · subst e'; rw [if_pos rfl, Env.set_self]; exact hrp hx
    · rw [if_neg e', Env.set_ne E e (Ne.symm e')]
      exact (h.rp n).ext hx (fun hl hn => hold _ (h.blk_lt hl hn)) (fun hn => excl_notF h hn)
  · intro n m hn hm hb
    rw [lookO_putO] at hn hm
    by_cases e1 : k = n
    · by_cases e2 : k = m
      · omega
      · rw [if_neg e2, Env.set_ne E e (Ne.symm e2)] at hm
        subst e1
        rw [if_pos rfl, Env.set_self] at hn
        rw [Env.set_self, Env.set_ne E e (Ne.symm e2), hblk hn] at hb
        exfalso
        have : (E.e m).blk < w.heap.size := by
          cases ho : lookO ob m with
          | dead => rw [ho] at hm; exact hm.elim
          | box ls => exact h.blk_lt (excl_live hm) (.inr ⟨ls, ho⟩)
          | arr t xs ro =>
            rw [ho] at hm
            cases ro with
            | true => exact hm.elim
            | false => exact h.blk_lt (by rw [ho]; trivial) (.inl hm)
          | raw r => have := h.rp m; rw [ho] at this; exact h.blk_lt (by rw [ho]; trivial) (.inl this.1)
        omega
    · rw [if_neg e1, Env.set_ne E e (Ne.symm e1)] at hn
      by_cases e2 : k = m
      · subst e2
        rw [if_pos rfl, Env.set_self] at hm
        rw [Env.set_self, Env.set_ne E e (Ne.symm e1), hblk hm] at hb
        exfalso
        have : (E.e n).blk < w.heap.size := by
          cases ho : lookO ob n with
          | dead => rw [ho] at hn; exact hn.elim
          | box ls => exact h.blk_lt (excl_live hn) (.inr ⟨ls, ho⟩)
          | arr t xs ro =>
            rw [ho] at hn
            cases ro with
            | true => exact hn.elim
            | false => exact h.blk_lt (by rw [ho]; trivial) (.inl hn)
          | raw r => have := h.rp n; rw [ho] at this; exact h.blk_lt (by rw [ho]; trivial) (.inl this.1)
        omega
      · rw [if_neg e2, Env.set_ne E e (Ne.symm e2)] at hm
        rw [Env.set_ne E e (Ne.symm e1), Env.set_ne E e (Ne.symm e2)] at hb
        exact h.inj n m hn hm hb
  · intro n hn
    rcases hn with hn | rfl
    · exact .inl (h.al n hn)
    · exact .inr rfl
  · intro n hn
    rw [lookO_putO] at hn
    by_cases e' : k = n
    · subst e'
      rw [if_pos rfl, Env.set_self] at hn
      rw [Env.set_self, hblk hn]; exact .inr h.sz
    · rw [if_neg e', Env.set_ne E e (Ne.symm e')] at hn
      rw [Env.set_ne E e (Ne.symm e')]; exact h.uo n hn

/-- The block of a key of one's own is written. -/
theorem Mem.write (h : Mem C A E F ob w) {k : Nat} (hk : excl (E.e k) (lookO ob k)) {o : Obj} (hos : w'.os = w.os) (htp : w'.tape = w.tape) (hou : w'.output = w.output)
    (hsz : w'.heap.size = w.heap.size) (hold : ∀ b, b ≠ (E.e k).blk → w'.heap[b]? = w.heap[b]?) (hlv : o.live) (hex : excl (E.e k) o → excl (E.e k) (lookO ob k))
    (hrp : ∀ hx : Ext E F w E F w', RepO E F w' (E.e k) o) : Mem C A E F (putO ob k o) w' ∧ Ext E F w E F w' := by
  have hnF := excl_notF h hk
  have hx : Ext E F w E F w' := ⟨fun _ h => h, fun _ _ => rfl, fun _ h => h, fun b hb o u hu => by
    rw [cell?_heap (w := w) (hold b (fun e => hnF (e ▸ hb)))]; exact hu⟩
  refine ⟨⟨?_, ?_, ?_, h.al, fun b hb => by rw [hsz]; exact h.fb b hb, h.f0, ?_, h.uf, ?_, by rw [hsz]; exact h.sz, hos.trans h.os, htp.trans h.tape, hou.trans h.output, fun k hk => ⟨hx.al k (h.eo k hk).1, (hx.e k (h.eo k hk).1).trans (h.eo k hk).2⟩⟩, hx⟩
  · intro n hn
    rw [lookO_putO] at hn
    by_cases e' : k = n
    · subst e'; exact h.lv k (excl_live hk)
    · rw [if_neg e'] at hn; exact h.lv n hn
  · intro n
    rw [lookO_putO]
    by_cases e' : k = n
    · subst e'; rw [if_pos rfl]; exact hrp hx
    · rw [if_neg e']
      exact (h.rp n).ext hx (fun hl hn => hold _ (h.blk_ne hk (Ne.symm e') hl hn)) (fun hn => excl_notF h hn)
  · intro n m hn hm hb
    rw [lookO_putO] at hn hm
    refine h.inj n m ?_ ?_ hb
    · by_cases e' : k = n
      · subst e'; exact hk
      · rw [if_neg e'] at hn; exact hn
    · by_cases e' : k = m
      · subst e'; exact hk
      · rw [if_neg e'] at hm; exact hm
  · intro b hb ho
    have : b ≠ (E.e k).blk := by
      intro e
      rcases h.uo k hk with h1 | h1
      · exact ho (e ▸ h1)
      · omega
    exact (hold b this).trans (h.kp b hb ho)
  · intro n hn
    rw [lookO_putO] at hn
    by_cases e' : k = n
    · subst e'; exact h.uo k hk
    · rw [if_neg e'] at hn; exact h.uo n hn

/-- The block of a key of one's own is written, and new blocks are laid. -/
theorem Mem.write2 (h : Mem C A E F ob w) {k : Nat} (hk : excl (E.e k) (lookO ob k)) {o : Obj} (hos : w'.os = w.os) (htp : w'.tape = w.tape) (hou : w'.output = w.output)
    (hsz : w.heap.size ≤ w'.heap.size) (hold : ∀ b, b < w.heap.size → b ≠ (E.e k).blk → w'.heap[b]? = w.heap[b]?) (hlv : o.live) (hex : excl (E.e k) o → excl (E.e k) (lookO ob k))
    (hrp : ∀ hx : Ext E F w E F w', RepO E F w' (E.e k) o) : Mem C A E F (putO ob k o) w' ∧ Ext E F w E F w' := by
  have hnF := excl_notF h hk
  have hx : Ext E F w E F w' := ⟨fun _ h => h, fun _ _ => rfl, fun _ h => h, fun b hb o u hu => by
    rw [cell?_heap (w := w) (hold b (h.fb b hb) (fun e => hnF (e ▸ hb)))]; exact hu⟩
  refine ⟨⟨?_, ?_, ?_, h.al, fun b hb => Nat.lt_of_lt_of_le (h.fb b hb) hsz, h.f0, ?_, h.uf, ?_, Nat.le_trans h.sz hsz, hos.trans h.os, htp.trans h.tape, hou.trans h.output, fun k hk => ⟨hx.al k (h.eo k hk).1, (hx.e k (h.eo k hk).1).trans (h.eo k hk).2⟩⟩, hx⟩
  · intro n hn
    rw [lookO_putO] at hn
    by_cases e' : k = n
    · subst e'; exact h.lv k (excl_live hk)
    · rw [if_neg e'] at hn; exact h.lv n hn
  · intro n
    rw [lookO_putO]
    by_cases e' : k = n
    · subst e'; rw [if_pos rfl]; exact hrp hx
    · rw [if_neg e']
      exact (h.rp n).ext hx (fun hl hn => hold _ (h.blk_lt hl hn) (h.blk_ne hk (Ne.symm e') hl hn)) (fun hn => excl_notF h hn)
  · intro n m hn hm hb
    rw [lookO_putO] at hn hm
    refine h.inj n m ?_ ?_ hb
    · by_cases e' : k = n
      · subst e'; exact hk
      · rw [if_neg e'] at hn; exact hn
    · by_cases e' : k = m
      · subst e'; exact hk
      · rw [if_neg e'] at hm; exact hm
  · intro b hb ho
    have : b ≠ (E.e k).blk := by
      intro e
      rcases h.uo k hk with h1 | h1
      · exact ho (e ▸ h1)
      · omega
    exact (hold b (Nat.lt_of_lt_of_le hb h.sz) this).trans (h.kp b hb ho)
  · intro n hn
    rw [lookO_putO] at hn
    by_cases e' : k = n
    · subst e'; exact h.uo k hk
    · rw [if_neg e'] at hn; exact h.uo n hn

/-- A key is let go. -/
theorem Mem.kill (h : Mem C A E F ob w) (k : Nat) : Mem C A E F (putO ob k .dead) w := by
  refine ⟨?_, ?_, ?_, h.al, h.fb, h.f0, h.kp, h.uf, ?_, h.sz, h.os, h.tape, h.output, h.eo⟩
  · intro n hn
    rw [lookO_putO] at hn
    split at hn
    · exact hn.elim
    · exact h.lv n hn
  · intro n
    rw [lookO_putO]
    split
    · trivial
    · exact h.rp n
  · intro n m hn hm hb
    rw [lookO_putO] at hn hm
    split at hn
    · exact hn.elim
    · split at hm
      · exact hm.elim
      · exact h.inj n m hn hm hb
  · intro n hn
    rw [lookO_putO] at hn
    split at hn
    · exact hn.elim
    · exact h.uo n hn

/-- A slice's block goes over to a new key, and is written. -/
theorem Mem.pass (h : Mem C A E F ob w) {k n : Nat} (hk : excl (E.e k) (lookO ob k)) (hn : ¬ E.al n) {e : EI} {o : Obj} (hblk : e.blk = (E.e k).blk)
    (hos : w'.os = w.os) (htp : w'.tape = w.tape) (hou : w'.output = w.output) (hsz : w'.heap.size = w.heap.size) (hold : ∀ b, b ≠ (E.e k).blk → w'.heap[b]? = w.heap[b]?)
    (hrp : ∀ hx : Ext E F w (E.set n e) F w', RepO (E.set n e) F w' e o) :
    Mem C (fun m => A m ∨ m = n) (E.set n e) F (putO (putO ob k .dead) n o) w' ∧ Ext E F w (E.set n e) F w' := by
  have hnF := excl_notF h hk
  have hx : Ext E F w (E.set n e) F w' := Env.ext_set hn e (fun _ h => h) fun b hb o u hu => by
    rw [cell?_heap (w := w) (hold b (fun e => hnF (e ▸ hb)))]; exact hu
  have hkn : k ≠ n := fun e => hn (e ▸ h.lv k (excl_live hk))
  have hlook : ∀ m, lookO (putO (putO ob k .dead) n o) m = if n = m then o else if k = m then .dead else lookO ob m := fun m => by rw [lookO_putO, lookO_putO]
  refine ⟨⟨?_, ?_, ?_, ?_, fun b hb => by rw [hsz]; exact h.fb b hb, h.f0, ?_, h.uf, ?_, by rw [hsz]; exact h.sz, hos.trans h.os, htp.trans h.tape, hou.trans h.output, fun k hk => ⟨hx.al k (h.eo k hk).1, (hx.e k (h.eo k hk).1).trans (h.eo k hk).2⟩⟩, hx⟩
  · intro m hm
    rw [hlook] at hm
    by_cases e1 : n = m
    · exact .inr e1.symm
    · rw [if_neg e1] at hm
      by_cases e2 : k = m
      · rw [if_pos e2] at hm; exact hm.elim
      · rw [if_neg e2] at hm; exact .inl (h.lv m hm)
  · intro m
    rw [hlook]
    by_cases e1 : n = m
    · subst e1; rw [if_pos rfl, Env.set_self]; exact hrp hx
    · rw [if_neg e1, Env.set_ne E e (Ne.symm e1)]
      by_cases e2 : k = m
      · rw [if_pos e2]; trivial
      · rw [if_neg e2]
        exact (h.rp m).ext hx (fun hl hm => hold _ (h.blk_ne hk (Ne.symm e2) hl hm)) (fun hm => excl_notF h hm)
  · intro m m' hm hm' hb
    rw [hlook] at hm hm'
    by_cases e1 : n = m
    · by_cases e2 : n = m'
      · omega
      · rw [if_neg e2, Env.set_ne E e (Ne.symm e2)] at hm'
        by_cases e3 : k = m'
        · rw [if_pos e3] at hm'; exact hm'.elim
        · rw [if_neg e3] at hm'
          subst e1
          rw [Env.set_self, Env.set_ne E e (Ne.symm e2), hblk] at hb
          exact absurd (h.inj k m' hk hm' hb) e3
    · rw [if_neg e1, Env.set_ne E e (Ne.symm e1)] at hm
      by_cases e3 : k = m
      · rw [if_pos e3] at hm; exact hm.elim
      · rw [if_neg e3] at hm
        by_cases e2 : n = m'
        · subst e2
          rw [Env.set_self, Env.set_ne E e (Ne.symm e1), hblk] at hb
          exact absurd (h.inj m k hm hk hb).symm e3
        · rw [if_neg e2, Env.set_ne E e (Ne.symm e2)] at hm'
          by_cases e4 : k = m'
          · rw [if_pos e4] at hm'; exact hm'.elim
          · rw [if_neg e4] at hm'
            rw [Env.set_ne E e (Ne.symm e1), Env.set_ne E e (Ne.symm e2)] at hb
            exact h.inj m m' hm hm' hb
  · intro m hm
    rcases hm with hm | rfl
    · exact .inl (h.al m hm)
    · exact .inr rfl
  · intro b hb ho
    have : b ≠ (E.e k).blk := by
      intro e
      rcases h.uo k hk with h1 | h1
      · exact ho (e ▸ h1)
      · omega
    exact (hold b this).trans (h.kp b hb ho)
  · intro m hm
    rw [hlook] at hm
    by_cases e1 : n = m
    · subst e1; rw [Env.set_self, hblk]; exact h.uo k hk
    · rw [if_neg e1, Env.set_ne E e (Ne.symm e1)] at hm
      by_cases e2 : k = m
      · rw [if_pos e2] at hm; exact hm.elim
      · rw [if_neg e2] at hm
        rw [Env.set_ne E e (Ne.symm e1)]; exact h.uo m hm
end
end Go.Proofs.Zs
/- The program's types, held against the engine's table; operands; operations on numbers, truth values and strings. -/
namespace Go.Proofs.Zs
open Go

theorem cellOk_iff {v : Value} : cellOk v ↔ v.oneCell' = true := by
  cases v <;> simp [cellOk, Value.oneCell']

/-! A zero value's cells -/
def zrep (f : List Value → Option (List Value)) : Nat → List Value → Option (List Value)
  | 0, r => some r
  | n + 1, r => match f r with
    | some q => zrep f n q
    | none => none
def zD : Ty → List Value → Option (List Value)
  | .unit, r => some r
  | .pair a b, r => match zD a r with
    | some q => zD b q
    | none => none
  | .ar n a, r => zrep (zD a) n r
  | .int k, .int j n :: r => if k = j ∧ n = 0 then some r else none
  | .bool, .bool b :: r => match b with
    | false => some r
    | true => none
  | .str, .string s :: r => if s.size = 0 then some r else none
  | .sl _, .slice none 0 0 :: r => some r
  | .nl, .slice none 0 0 :: r => some r
  | _, _ => none
theorem ba_empty {s : ByteArray} (h : s.size = 0) : s = ByteArray.empty := by
  cases s with
  | mk d =>
    have : d = #[] := Array.eq_empty_of_size_eq_zero h
    subst this; rfl
theorem zrep_rep {F : Nat → Prop} {w : World} {a : Ty} (ih : ∀ cs r, zD a cs = some r → ∃ c, cs = c ++ r ∧ RepD F w a (zeroD a) c) : ∀ (n : Nat) (cs r : List Value), zrep (zD a) n cs = some r →
    ∃ c, cs = c ++ r ∧ All (fun x c => RepD F w a x c) (List.replicate n (zeroD a)) c
  | 0, cs, r, h => by simp only [zrep, Option.some.injEq] at h; subst h; exact ⟨[], rfl, rfl⟩
  | n + 1, cs, r, h => by
    simp only [zrep] at h
    split at h
    · rename_i q hq
      obtain ⟨c, rfl, hc⟩ := ih _ _ hq
      obtain ⟨d, rfl, hd⟩ := zrep_rep ih n _ _ h
      exact ⟨c ++ d, by simp, c, d, rfl, hc, hd⟩
    · simp at h
theorem zD_rep {F : Nat → Prop} {w : World} : ∀ (t : Ty) (cs r : List Value), zD t cs = some r → ∃ c, cs = c ++ r ∧ RepD F w t (zeroD t) c := by
  intro t
  induction t with
  | unit => intro cs r h; rw [zD] at h; simp only [Option.some.injEq] at h; subst h; exact ⟨[], rfl, by rw [RepD]⟩
  | pair a b iha ihb =>
    intro cs r h
    rw [zD] at h
    split at h
    · rename_i q hq
      obtain ⟨c, rfl, hc⟩ := iha _ _ hq
      obtain ⟨d, rfl, hd⟩ := ihb _ _ h
      exact ⟨c ++ d, by simp, by rw [RepD]; exact ⟨c, d, rfl, hc, hd⟩⟩
    · simp at h
  | ar n a ih =>
    intro cs r h
    rw [zD] at h
    obtain ⟨c, e, hc⟩ := zrep_rep ih n _ _ h
    exact ⟨c, e, by rw [RepD]; exact ⟨by simp [zeroD], hc⟩⟩
  | int k =>
    intro cs r h
    unfold zD at h
    split at h <;> try (first | contradiction | simp at h; done)
    all_goals rename_i e; cases e
    split at h
    · rename_i hk
      obtain ⟨rfl, rfl⟩ := hk
      simp only [Option.some.injEq] at h; subst h
      exact ⟨[_], rfl, by rw [RepD]; rfl⟩
    · simp at h
  | bool =>
    intro cs r h
    unfold zD at h
    split at h <;> try (first | contradiction | simp at h; done)
    split at h
    · simp only [Option.some.injEq] at h; subst h
      exact ⟨[_], rfl, by rw [RepD]; rfl⟩
    · simp at h
  | str =>
    intro cs r h
    unfold zD at h
    split at h <;> try (first | contradiction | simp at h; done)
    split at h
    · rename_i hs
      simp only [Option.some.injEq] at h; subst h
      exact ⟨[_], rfl, by rw [RepD, ba_empty hs]; rfl⟩
    · simp at h
  | nl =>
    intro cs r h
    unfold zD at h
    split at h <;> try (first | contradiction | simp at h; done)
    simp only [Option.some.injEq] at h; subst h
    exact ⟨[_], rfl, by rw [RepD]⟩
  | sl a _ =>
    intro cs r h
    unfold zD at h
    split at h <;> try (first | contradiction | simp at h; done)
    simp only [Option.some.injEq] at h; subst h
    exact ⟨[_], rfl, by rw [RepD]; exact ⟨none, 0, rfl, Nat.le_refl _, .inl rfl⟩⟩

def zkD : List ZK → List Value → Bool
  | [], [] => true
  | .d t :: r, cs => match zD t cs with
    | some q => zkD r q
    | none => false
  | .nils :: r, .slice none 0 0 :: q => zkD r q
  | .nilp :: r, .pointer none :: q => zkD r q
  | .any n :: r, cs => Nat.ble n cs.length && (cs.take n).all Value.oneCell' && zkD r (cs.drop n)
  | _, _ => false
theorem zkD_rep {E : Env} {F : Nat → Prop} {w : World} : ∀ (ks : List ZK) (cs : List Value), zkD ks cs = true → RepLs E F w (zs ks) cs
  | [], [], _ => rfl
  | [], _ :: _, h => by simp [zkD] at h
  | .d t :: r, cs, h => by
    rw [zkD] at h
    split at h
    · rename_i q hq
      obtain ⟨c, rfl, hc⟩ := zD_rep (F := F) (w := w) t _ _ hq
      exact ⟨c, q, rfl, hc, zkD_rep r q h⟩
    · simp at h
  | .nils :: r, cs, h => by
    unfold zkD at h
    split at h <;> try (first | contradiction | simp at h; done)
    all_goals rename_i e; cases e
    exact ⟨[_], _, rfl, rfl, zkD_rep r _ h⟩
  | .nilp :: r, cs, h => by
    unfold zkD at h
    split at h <;> try (first | contradiction | simp at h; done)
    all_goals rename_i e; cases e
    exact ⟨[_], _, rfl, rfl, zkD_rep r _ h⟩
  | .any n :: r, cs, h => by
    rw [zkD] at h
    simp only [Bool.and_eq_true, List.all_eq_true, Nat.ble_eq] at h
    exact ⟨cs.take n, cs.drop n, by simp, ⟨by simp; exact Nat.min_eq_left h.1.1, fun u hu => cellOk_iff.2 (h.1.2 u hu)⟩, zkD_rep r _ h.2⟩

/-! Types -/
def isAggD : TypeDesc → Bool
  | .struct _ | .array _ _ => true
  | _ => false
def elOk (P : Program) (e : TypeId) (t : Ty) (by_ : Nat) : Bool :=
  match P.info? e with
  | some f => Nat.beq f.size t.sz && Nat.beq f.bytes by_ && (match f.zero with
    | some z => (match zD t z.cells.toList with | some [] => true | _ => false)
    | none => false)
  | none => false
def fsOk (P : Program) : List Field → List (Nat × List Nat) → List Nat → Bool
  | [], [], _ => true
  | x :: r, p :: q, lay => Nat.beq x.offset ((lay.take p.1).sum) && (match P.info? x.type with
    | some y => Nat.beq y.size p.2.sum && !Nat.beq y.size 0
    | none => false) && natsEq p.2 ((lay.drop p.1).take p.2.length) && Nat.ble (p.1 + p.2.length) lay.length && fsOk P r q lay
  | _, _, _ => false
def tysz (ts : List Ty) : Nat := (ts.map Ty.sz).sum
/-- The leaves' types of what is held against each other leaf by leaf. -/
def eqFs (f : TypeId → Option (List Ty)) : List Field → Nat → Option (List Ty)
  | [], _ => some []
  | x :: r, off => if x.name = "_" ∨ x.offset ≠ off then none else match f x.type with
    | none => none
    | some a => match eqFs f r (off + tysz a) with
      | none => none
      | some b => some (a ++ b)
def eqT (P : Program) : Nat → TypeId → Option (List Ty)
  | 0, _ => none
  | n + 1, t => match P.underlying t with
    | some (.int k) => some [.int k]
    | some .bool => some [.bool]
    | some .string => some [.str]
    | some (.array m e) => match P.info? e, P.underlying e with
      | some i, some (.int k) => if i.size = 1 ∧ P.cellsOf t = m then some [.ar m (.int k)] else none
      | some i, some .bool => if i.size = 1 ∧ P.cellsOf t = m then some [.ar m .bool] else none
      | _, _ => none
    | some (.struct fs) => if P.stoodInHeld t then none else match eqFs (eqT P n) fs.toList 0 with
      | none => none
      | some ts => if P.cellsOf t = tysz ts then some ts else none
    | _ => none
/-- A scalar type's zero value. -/
def zeroSc (P : Program) (e : TypeId) : Ty → Bool
  | .int k => match P.info? e with
    | some f => (match f.zero with | some (.int k' n) => decide (k' = k) && decide (n = 0) | _ => false)
    | none => false
  | .bool => match P.info? e with
    | some f => (match f.zero with | some (.bool b) => !b | _ => false)
    | none => false
  | _ => false
def tdOk (P : Program) (i : TI) : TypeDesc → Bool
  | .int k => match i.td with | .int j => decide (k = j) | _ => false
  | .bool => match i.td with | .bool => true | _ => false
  | .string => match i.td with | .str => true | _ => false
  | .slice e => match i.td with | .slice => elOk P e i.ety i.eby | _ => false
  | .array n e => match i.td with
    | .array => Nat.beq n i.n && elOk P e i.ety i.eby && scalar i.ety && (match i.zk with | [.d t] => decide (t = .ar n i.ety) | _ => false)
    | _ => false
  | .struct fs => match i.td with | .struct => fsOk P fs.toList i.fl i.lay | _ => false
  | .pointer _ => match i.td with | .ptr => true | _ => false
  | .func _ _ _ => match i.td with | .func => true | _ => false
  | .map ky e => match i.td with
    | .map => (match P.underlying ky with | some .string => true | _ => false) && zeroSc P e i.ety
    | .other => true
    | _ => false
  | .interface _ => match i.td with | .iface => true | .other => true | _ => false
  | _ => match i.td with | .other => true | _ => false
def fgOk (P : Program) : List Field → List Bool → Bool
  | _, [] => true
  | x :: r, b :: q => (match P.underlying x.type with
    | some d => isAggD d == b
    | none => false) && fgOk P r q
  | [], _ :: _ => false
def tchk (P : Program) (t : TypeId) (i : TI) : Bool :=
  (match P.info? t with
  | some f => Nat.beq f.size i.lay.sum && (match f.zero with
    | some z => zkD i.zk z.cells.toList && (match z with | .agg _ => i.agg | _ => !i.agg)
    | none => false)
  | none => false) &&
  (match P.underlying t with
  | some d => (isAggD d == i.agg) && tdOk P i d
  | none => false) && natsEq i.lay (sizes (zs i.zk)) &&
  (match i.eqt with
  | none => true
  | some ts => decide (eqT P 40 t = some ts) && !P.eqGuardType P.depth t) &&
  (match P.underlying t with
  | some (.slice e) => match i.ety with
    | .int .u8 => (match P.underlying e with | some (.int .u8) => true | _ => false)
    | _ => true
  | _ => true) &&
  (match P.underlying t with
  | some (.struct fs) => fgOk P fs.toList i.fg
  | _ => true)

structure ElOk (P : Program) (e : TypeId) (t : Ty) (by_ : Nat) : Prop where
  ex : ∃ f z, P.info? e = some f ∧ f.size = t.sz ∧ f.bytes = by_ ∧ f.zero = some z ∧ zD t z.cells.toList = some []
structure TOk (P : Program) (t : TypeId) (i : TI) : Prop where
  inf : ∃ f z, P.info? t = some f ∧ f.size = i.lay.sum ∧ f.zero = some z ∧ zkD i.zk z.cells.toList = true ∧ (match z with | .agg _ => i.agg | _ => !i.agg) = true
  und : ∃ d, P.underlying t = some d ∧ isAggD d = i.agg ∧ tdOk P i d = true
  lay : i.lay = sizes (zs i.zk)
  eq : ∀ ts, i.eqt = some ts → eqT P 40 t = some ts ∧ P.eqGuardType P.depth t = false
  by8 : ∀ e, P.underlying t = some (.slice e) → i.ety = .int .u8 → P.underlying e = some (.int .u8)
  fg : ∀ fs, P.underlying t = some (.struct fs) → fgOk P fs.toList i.fg = true
theorem elOk_spec {P : Program} {e : TypeId} {t : Ty} {n : Nat} (h : elOk P e t n = true) : ElOk P e t n := by
  unfold elOk at h
  split at h
  · rename_i f hf
    simp only [Bool.and_eq_true, Nat.beq_eq] at h
    obtain ⟨⟨h1, h2⟩, h3⟩ := h
    split at h3
    · rename_i z hz
      split at h3
      · rename_i hzd; exact ⟨f, z, hf, h1, h2, hz, hzd⟩
      · simp at h3
    · simp at h3
  · simp at h
theorem tchk_spec {P : Program} {t : TypeId} {i : TI} (h : tchk P t i = true) : TOk P t i := by
  unfold tchk at h
  simp only [Bool.and_eq_true] at h
  obtain ⟨⟨⟨⟨⟨h1, h2⟩, h3⟩, h4⟩, h5⟩, h6⟩ := h
  refine ⟨?_, ?_, natsEq_spec h3, ?_, fun e he h8 => by rw [he] at h5; simp only [h8] at h5; split at h5 <;> first | assumption | simp at h5, fun fs hfs => by rw [hfs] at h6; exact h6⟩
  · split at h1
    · rename_i f hf
      simp only [Bool.and_eq_true, Nat.beq_eq] at h1
      obtain ⟨g1, g2⟩ := h1
      split at g2
      · rename_i z hz
        simp only [Bool.and_eq_true] at g2
        exact ⟨f, z, hf, g1, hz, g2.1, g2.2⟩
      · simp at g2
    · simp at h1
  · split at h2
    · rename_i d hd
      simp only [Bool.and_eq_true, beq_iff_eq] at h2
      exact ⟨d, hd, h2.1, h2.2⟩
    · simp at h2
  · intro ts hts
    rw [hts] at h4
    simpa using h4

/-- All types of the table are the program's. -/
def TIok (P : Program) (cx : Cx) : Prop := ∀ t i, cx.ti t = some i → TOk P t i

theorem Cx.t_ev {ok : Nat → List DV → List DV → Prop} {α : Type} {cx : Cx} {t : Nat} {k : TI → Rd α} {s : St} {a : α} (h : Ev ok (cx.t t k) s a) : ∃ i, cx.ti t = some i ∧ Ev ok (k i) s a := by
  unfold Cx.t at h
  split at h
  · exact ⟨_, ‹_›, h⟩
  · exact h.fail.elim

def finW (dst : Option Nat) (wr : Wr) (y : V) : Wr :=
  match dst with
  | none => wr
  | some d => wr ++ [(.tmp d, .v y)]

section
variable {ok : Nat → List DV → List DV → Prop} {α : Type} {t u : Ty} {s : St} {a : α}
theorem castL_eq {v : List (Den t)} {k : List (Den u) → Rd α} (h : Ev ok (castL? t u v k) s a) : t = u := by
  unfold castL? at h
  rcases tyc_or (t := t) (u := u) (k := fun h => k (h ▸ v)) (e := .fail) with ⟨e, _⟩ | e
  · exact e
  · rw [e] at h; exact h.fail.elim
theorem castL_same {v : List (Den t)} {k : List (Den t) → Rd α} (h : Ev ok (castL? t t v k) s a) : Ev ok (k v) s a := by
  unfold castL? at h
  rw [tyc_same] at h
  exact h
theorem cast_eq' {v : Den t} {k : Den u → Rd α} (h : Ev ok (cast? t u v k) s a) : t = u := by
  unfold cast? at h
  rcases tyc_or (t := t) (u := u) (k := fun h => k (h ▸ v)) (e := .fail) with ⟨e, _⟩ | e
  · exact e
  · rw [e] at h; exact h.fail.elim
theorem cast_same {v : Den t} {k : Den t → Rd α} (h : Ev ok (cast? t t v k) s a) : Ev ok (k v) s a := by
  unfold cast? at h
  rw [tyc_same] at h
  exact h
end

/-! Operands -/
section
variable {ok : Nat → List DV → List DV → Prop} {α : Type} {E : Env} {F : Nat → Prop} {s : St} {a : Act} {w : World} {r : α}
theorem cV_rep {v : Value} {x : V} (h : cV v = some x) : RepV E F w x v := by
  unfold cV at h
  split at h <;> simp only [Option.some.injEq, reduceCtorEq] at h <;> subst h
  · exact ⟨trivial, by rw [RepL, RepD]⟩
  · exact ⟨trivial, by rw [RepL, RepD]⟩
  · exact ⟨trivial, by rw [RepL, RepD]⟩
  · exact ⟨trivial, rfl⟩
  · exact ⟨trivial, rfl⟩
  · exact ⟨trivial, _, rfl, rfl⟩
theorem ev_ok {o : Operand} {k : V → Rd α} (h : Ev ok (ev o k) s r) (ht : Tms E F s.tm a w) : ∃ x, RepV E F w x (a.eval o) ∧ Ev ok (k x) s r := by
  unfold ev at h
  split at h
  · rename_i t
    have h := h.get
    simp only [look] at h
    exact ⟨_, ht.at_ t, h⟩
  · split at h
    · rename_i v x hx
      exact ⟨x, cV_rep hx, h⟩
    · exact h.fail.elim
  · rename_i f
    exact ⟨.one (.fn f []), ⟨trivial, by simp [RepL, Act.eval]⟩, h⟩
  · exact h.fail.elim
theorem evs_ok : ∀ {os : List Operand} {k : List V → Rd α}, Ev ok (evs os k) s r → Tms E F s.tm a w → ∃ xs, All2 (RepV E F w) xs (os.map a.eval) ∧ Ev ok (k xs) s r
  | [], _, h, _ => ⟨[], trivial, h⟩
  | o :: q, k, h, ht => by
    obtain ⟨x, h1, h2⟩ := ev_ok h ht
    obtain ⟨xs, h3, h4⟩ := evs_ok h2 ht
    exact ⟨x :: xs, ⟨h1, h3⟩, h4⟩
theorem evParts_ok : ∀ {os : List (Nat × Operand)} {k : List (Nat × V) → Rd α}, Ev ok (evParts os k) s r → Tms E F s.tm a w →
    ∃ xs, All2 (fun (p : Nat × V) (q : Nat × Value) => p.1 = q.1 ∧ RepV E F w p.2 q.2) xs (os.map fun p => (p.1, a.eval p.2)) ∧ Ev ok (k xs) s r
  | [], _, h, _ => ⟨[], trivial, h⟩
  | o :: q, k, h, ht => by
    obtain ⟨x, h1, h2⟩ := ev_ok h ht
    obtain ⟨xs, h3, h4⟩ := evParts_ok h2 ht
    exact ⟨(o.1, x) :: xs, ⟨⟨rfl, h1⟩, h3⟩, h4⟩

/-- What an operation leaves in its slot. -/
theorem fin_ok {hi : Hi} {dst : Option Nat} {wr wr' : Wr} {x : V} (h : Ev ok (fin hi dst wr x) s wr') :
    ∃ y, (∀ (E : Env) (F : Nat → Prop) (w : World) (v : Value), RepV E F w x v → RepV E F w y v) ∧ wr' = finW dst wr y := by
  cases dst with
  | none => exact ⟨x, fun _ _ _ _ h => h, h.ret⟩
  | some d =>
    simp only [fin] at h
    split at h
    · rename_i b _ _
      rcases h.ite with ⟨hb, h'⟩ | ⟨hb, h'⟩
      · subst hb; exact ⟨_, fun _ _ _ _ h => h, h'.ret⟩
      · subst hb; exact ⟨_, fun _ _ _ _ h => h, h'.ret⟩
    · exact ⟨_, fun _ _ _ _ h => h, h.ret⟩

/-- The machine's value in its slot. -/
theorem rel_fin {C : Frm} {A : Nat → Prop} {E' : Env} {F' : Nat → Prop} {hi : Hi} {dst : Option Nat} {wr wr' : Wr} {x : V} {v : Value} {w' : World} (h : Ev ok (fin hi dst wr x) s wr')
    (hm : Mem C A E' F' (apply wr s).ob w') (ht : Tms E' F' (apply wr s).tm a w') (hx : RepV E' F' w' x v) : Rel C A (apply wr' s) (a.put dst v) w' := by
  obtain ⟨y, hy, rfl⟩ := fin_ok h
  cases dst with
  | none => exact ⟨E', F', hm, ht.put_none v⟩
  | some d =>
    simp only [finW]
    rw [apply_append]
    exact ⟨E', F', hm, ht.put d (hy _ _ _ _ hx)⟩
end

section
variable {P : Program} {ok : Nat → List DV → List DV → Prop} {C : Frm} {A : Nat → Prop} {E : Env} {F : Nat → Prop} {s : St} {a : Act} {w : World} {wr : Wr} {o : Oper} {K : Act → World → Prop} {Q : Exit → Act → World → Prop} {hi : Hi}
/-- An operation that yields a value and leaves memory as it was. -/
theorem pure_ok {x : V} {v : Value} (hrun : (execOp a.eval o).run P w = .ok (.value v) w) (h : Ev ok (fin hi o.dst [] x) s wr) (hm : Mem C A E F s.ob w) (ht : Tms E F s.tm a w) (hx : RepV E F w x v)
    (hK : ∀ a' w', Rel C A (apply wr s) a' w' → K a' w') : o.wp P a w K Q := by
  unfold Oper.wp
  rw [hrun]
  exact hK _ _ (rel_fin h hm ht hx)
end
end Go.Proofs.Zs
