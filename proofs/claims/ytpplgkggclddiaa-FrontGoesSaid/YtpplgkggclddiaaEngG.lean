/- What memory's events leave: a new block, a block written, a slice handed on, a slice let go, a slice that may not turn any more. -/
import Derived.Test.YtpplgkggclddiaaEngF
set_option linter.unusedSimpArgs false
set_option linter.unusedVariables false
namespace Go.Proofs.Zz
open Go

def Env.set (E : Env) (k : Nat) (e : EI) : Env := { e := fun n => if n = k then e else E.e n, al := fun n => E.al n ∨ n = k }
theorem Env.set_self (E : Env) (k : Nat) (e : EI) : (E.set k e).e k = e := if_pos rfl
theorem Env.set_ne (E : Env) {k n : Nat} (e : EI) (h : n ≠ k) : (E.set k e).e n = E.e n := if_neg h
theorem Env.ext_set {E : Env} {F F' : Nat → Prop} {w w' : World} {k : Nat} (hk : ¬ E.al k) (e : EI) (hf : ∀ b, F b → F' b)
    (hw : ∀ b, F b → ∀ o u, w.cell? ⟨b, o, none⟩ = some u → w'.cell? ⟨b, o, none⟩ = some u) : Ext E F w (E.set k e) F' w' :=
  ⟨fun _ h => .inl h, fun n hn => Env.set_ne E e (fun h => hk (h ▸ hn)), hf, hw⟩

theorem lt_of_some {w : World} {b : Nat} {o : Go.Obj} (h : w.heap[b]? = some o) : b < w.heap.size := (Array.getElem?_eq_some_iff.1 h).1

section
variable {C : Frm} {A : Nat → Prop} {E : Env} {F : Nat → Prop} {ob : List (Nat × Obj)} {w w' : World}

/-- The block of what lives (and has one) lies there. -/
theorem Mem.blk_lt (h : Mem C A E F ob w) {k : Nat} (hl : (lookO ob k).live) (hn : (E.e k).nil = false ∨ ∃ ls, lookO ob k = .box ls) : (E.e k).blk < w.heap.size := by
  have := h.rp k
  cases ho : lookO ob k with
  | dead => rw [ho] at hl; exact hl.elim
  | box ls => rw [ho] at this; obtain ⟨cs, t, ⟨ds, fr, h1, _⟩, _⟩ := this; exact lt_of_some h1
  | arr t xs ro =>
    rw [ho] at this
    obtain ⟨_, _, _, _, _, h6⟩ := this
    rcases hn with hn | ⟨ls, hn⟩
    · obtain ⟨cs, u, fr, ds, k1, _⟩ := h6 hn; exact lt_of_some k1
    · rw [ho] at hn; cases hn
theorem excl_live {e : EI} {o : Obj} (h : excl e o) : o.live := by
  cases o with
  | dead => exact h.elim
  | box ls => trivial
  | arr t xs ro => trivial
/-- Another key's block is another block, or one that may not turn. -/
theorem Mem.blk_ne (h : Mem C A E F ob w) {k n : Nat} (hk : excl (E.e k) (lookO ob k)) (hne : n ≠ k) (hl : (lookO ob n).live) (hn : (E.e n).nil = false ∨ ∃ ls, lookO ob n = .box ls) : (E.e n).blk ≠ (E.e k).blk := by
  intro e
  by_cases hx : excl (E.e n) (lookO ob n)
  · exact hne (h.inj n k hx hk e)
  · have := h.rp n
    cases ho : lookO ob n with
    | dead => rw [ho] at hl; exact hl
    | box ls => rw [ho] at hx; exact hx trivial
    | arr t xs ro =>
      rw [ho] at this hx
      rcases hn with hn | ⟨ls, hn⟩
      · cases ro with
        | false => exact hx hn
        | true =>
          obtain ⟨_, _, _, _, _, h6⟩ := this
          obtain ⟨cs, u, fr, ds, k1, k2, k3, k4, k5, k6⟩ := h6 hn
          exact excl_notF h hk (e ▸ k6 rfl)
      · rw [ho] at hn; cases hn

/-- A new block, a new key. -/
theorem Mem.new (h : Mem C A E F ob w) {k : Nat} (hk : ¬ E.al k) {e : EI} {o : Obj} (hos : w'.os = w.os) (htp : w'.tape = w.tape) (hou : w'.output = w.output)
    (hsz : w'.heap.size = w.heap.size + 1) (hold : ∀ b, b < w.heap.size → w'.heap[b]? = w.heap[b]?) (hblk : excl e o → e.blk = w.heap.size)
    (hrp : ∀ hx : Ext E F w (E.set k e) F w', RepO (E.set k e) F w' e o) :
    Mem C (fun n => A n ∨ n = k) (E.set k e) F (putO ob k o) w' ∧ Ext E F w (E.set k e) F w' := by
  have hx : Ext E F w (E.set k e) F w' := Env.ext_set hk e (fun _ h => h) (fun b hb o u hu => by
    rw [cell?_heap (w := w) (hold b (h.fb b hb))]; exact hu)
  have hne : ∀ n, (lookO ob n).live → n ≠ k := fun n hn e => hk (e ▸ h.lv n hn)
  refine ⟨⟨?_, ?_, ?_, ?_, fun b hb => by have := h.fb b hb; omega, h.f0, fun b hb ho => (hold b (Nat.lt_of_lt_of_le hb h.sz)).trans (h.kp b hb ho), h.uf, ?_, by have := h.sz; omega, hos.trans h.os, htp.trans h.tape, hou.trans h.output, fun k hk => ⟨hx.al k (h.eo k hk).1, (hx.e k (h.eo k hk).1).trans (h.eo k hk).2⟩⟩, hx⟩
  · intro n hn
    rw [lookO_putO] at hn
    by_cases e' : k = n
    · exact .inr e'.symm
    · rw [if_neg e'] at hn; exact .inl (h.lv n hn)
  · intro n
    rw [lookO_putO]
    by_cases e' : k = n
    · subst e'; rw [if_pos rfl, Env.set_self]; exact hrp hx
    · rw [if_neg e', Env.set_ne E e (Ne.symm e')]
      exact (h.rp n).ext hx (fun hl hn => hold _ (h.blk_lt hl hn)) (fun hn => excl_notF h hn)
  · intro n m hn hm hb
    rw [lookO_putO] at hn hm
    by_cases e1 : k = n
    · by_cases e2 : k = m
      · omega
      · rw [if_neg e2, Env.set_ne E e (Ne.symm e2)] at hm
        subst e1
        rw [if_pos rfl, Env.set_self] at hn
        rw [Env.set_self, Env.set_ne E e (Ne.symm e2), hblk hn] at hb
        exfalso
        have : (E.e m).blk < w.heap.size := by
          cases ho : lookO ob m with
          | dead => rw [ho] at hm; exact hm.elim
          | box ls => exact h.blk_lt (excl_live hm) (.inr ⟨ls, ho⟩)
          | arr t xs ro =>
            rw [ho] at hm
            cases ro with
            | true => exact hm.elim
            | false => exact h.blk_lt (by rw [ho]; trivial) (.inl hm)
        omega
    · rw [if_neg e1, Env.set_ne E e (Ne.symm e1)] at hn
      by_cases e2 : k = m
      · subst e2
        rw [if_pos rfl, Env.set_self] at hm
        rw [Env.set_self, Env.set_ne E e (Ne.symm e1), hblk hm] at hb
        exfalso
        have : (E.e n).blk < w.heap.size := by
          cases ho : lookO ob n with
          | dead => rw [ho] at hn; exact hn.elim
          | box ls => exact h.blk_lt (excl_live hn) (.inr ⟨ls, ho⟩)
          | arr t xs ro =>
            rw [ho] at hn
            cases ro with
            | true => exact hn.elim
            | false => exact h.blk_lt (by rw [ho]; trivial) (.inl hn)
        omega
      · rw [if_neg e2, Env.set_ne E e (Ne.symm e2)] at hm
        rw [Env.set_ne E e (Ne.symm e1), Env.set_ne E e (Ne.symm e2)] at hb
        exact h.inj n m hn hm hb
  · intro n hn
    rcases hn with hn | rfl
    · exact .inl (h.al n hn)
    · exact .inr rfl
  · intro n hn
    rw [lookO_putO] at hn
    by_cases e' : k = n
    · subst e'
      rw [if_pos rfl, Env.set_self] at hn
      rw [Env.set_self, hblk hn]; exact .inr h.sz
    · rw [if_neg e', Env.set_ne E e (Ne.symm e')] at hn
      rw [Env.set_ne E e (Ne.symm e')]; exact h.uo n hn

/-- The block of a key of one's own is written. -/
theorem Mem.write (h : Mem C A E F ob w) {k : Nat} (hk : excl (E.e k) (lookO ob k)) {o : Obj} (hos : w'.os = w.os) (htp : w'.tape = w.tape) (hou : w'.output = w.output)
    (hsz : w'.heap.size = w.heap.size) (hold : ∀ b, b ≠ (E.e k).blk → w'.heap[b]? = w.heap[b]?) (hlv : o.live) (hex : excl (E.e k) o → excl (E.e k) (lookO ob k))
    (hrp : ∀ hx : Ext E F w E F w', RepO E F w' (E.e k) o) : Mem C A E F (putO ob k o) w' ∧ Ext E F w E F w' := by
  have hnF := excl_notF h hk
  have hx : Ext E F w E F w' := ⟨fun _ h => h, fun _ _ => rfl, fun _ h => h, fun b hb o u hu => by
    rw [cell?_heap (w := w) (hold b (fun e => hnF (e ▸ hb)))]; exact hu⟩
  refine ⟨⟨?_, ?_, ?_, h.al, fun b hb => by rw [hsz]; exact h.fb b hb, h.f0, ?_, h.uf, ?_, by rw [hsz]; exact h.sz, hos.trans h.os, htp.trans h.tape, hou.trans h.output, fun k hk => ⟨hx.al k (h.eo k hk).1, (hx.e k (h.eo k hk).1).trans (h.eo k hk).2⟩⟩, hx⟩
  · intro n hn
    rw [lookO_putO] at hn
    by_cases e' : k = n
    · subst e'; exact h.lv k (excl_live hk)
    · rw [if_neg e'] at hn; exact h.lv n hn
  · intro n
    rw [lookO_putO]
    by_cases e' : k = n
    · subst e'; rw [if_pos rfl]; exact hrp hx
    · rw [if_neg e']
      exact (h.rp n).ext hx (fun hl hn => hold _ (h.blk_ne hk (Ne.symm e') hl hn)) (fun hn => excl_notF h hn)
  · intro n m hn hm hb
    rw [lookO_putO] at hn hm
    refine h.inj n m ?_ ?_ hb
    · by_cases e' : k = n
      · subst e'; exact hk
      · rw [if_neg e'] at hn; exact hn
    · by_cases e' : k = m
      · subst e'; exact hk
      · rw [if_neg e'] at hm; exact hm
  · intro b hb ho
    have : b ≠ (E.e k).blk := by
      intro e
      rcases h.uo k hk with h1 | h1
      · exact ho (e ▸ h1)
      · omega
    exact (hold b this).trans (h.kp b hb ho)
  · intro n hn
    rw [lookO_putO] at hn
    by_cases e' : k = n
    · subst e'; exact h.uo k hk
    · rw [if_neg e'] at hn; exact h.uo n hn

/-- A key is let go. -/
theorem Mem.kill (h : Mem C A E F ob w) (k : Nat) : Mem C A E F (putO ob k .dead) w := by
  refine ⟨?_, ?_, ?_, h.al, h.fb, h.f0, h.kp, h.uf, ?_, h.sz, h.os, h.tape, h.output, h.eo⟩
  · intro n hn
    rw [lookO_putO] at hn
    split at hn
    · exact hn.elim
    · exact h.lv n hn
  · intro n
    rw [lookO_putO]
    split
    · trivial
    · exact h.rp n
  · intro n m hn hm hb
    rw [lookO_putO] at hn hm
    split at hn
    · exact hn.elim
    · split at hm
      · exact hm.elim
      · exact h.inj n m hn hm hb
  · intro n hn
    rw [lookO_putO] at hn
    split at hn
    · exact hn.elim
    · exact h.uo n hn

/-- A slice's block goes over to a new key, and is written. -/
theorem Mem.pass (h : Mem C A E F ob w) {k n : Nat} (hk : excl (E.e k) (lookO ob k)) (hn : ¬ E.al n) {e : EI} {o : Obj} (hblk : e.blk = (E.e k).blk)
    (hos : w'.os = w.os) (htp : w'.tape = w.tape) (hou : w'.output = w.output) (hsz : w'.heap.size = w.heap.size) (hold : ∀ b, b ≠ (E.e k).blk → w'.heap[b]? = w.heap[b]?)
    (hrp : ∀ hx : Ext E F w (E.set n e) F w', RepO (E.set n e) F w' e o) :
    Mem C (fun m => A m ∨ m = n) (E.set n e) F (putO (putO ob k .dead) n o) w' ∧ Ext E F w (E.set n e) F w' := by
  have hnF := excl_notF h hk
  have hx : Ext E F w (E.set n e) F w' := Env.ext_set hn e (fun _ h => h) fun b hb o u hu => by
    rw [cell?_heap (w := w) (hold b (fun e => hnF (e ▸ hb)))]; exact hu
  have hkn : k ≠ n := fun e => hn (e ▸ h.lv k (excl_live hk))
  have hlook : ∀ m, lookO (putO (putO ob k .dead) n o) m = if n = m then o else if k = m then .dead else lookO ob m := fun m => by rw [lookO_putO, lookO_putO]
  refine ⟨⟨?_, ?_, ?_, ?_, fun b hb => by rw [hsz]; exact h.fb b hb, h.f0, ?_, h.uf, ?_, by rw [hsz]; exact h.sz, hos.trans h.os, htp.trans h.tape, hou.trans h.output, fun k hk => ⟨hx.al k (h.eo k hk).1, (hx.e k (h.eo k hk).1).trans (h.eo k hk).2⟩⟩, hx⟩
  · intro m hm
    rw [hlook] at hm
    by_cases e1 : n = m
    · exact .inr e1.symm
    · rw [if_neg e1] at hm
      by_cases e2 : k = m
      · rw [if_pos e2] at hm; exact hm.elim
      · rw [if_neg e2] at hm; exact .inl (h.lv m hm)
  · intro m
    rw [hlook]
    by_cases e1 : n = m
    · subst e1; rw [if_pos rfl, Env.set_self]; exact hrp hx
    · rw [if_neg e1, Env.set_ne E e (Ne.symm e1)]
      by_cases e2 : k = m
      · rw [if_pos e2]; trivial
      · rw [if_neg e2]
        exact (h.rp m).ext hx (fun hl hm => hold _ (h.blk_ne hk (Ne.symm e2) hl hm)) (fun hm => excl_notF h hm)
  · intro m m' hm hm' hb
    rw [hlook] at hm hm'
    by_cases e1 : n = m
    · by_cases e2 : n = m'
      · omega
      · rw [if_neg e2, Env.set_ne E e (Ne.symm e2)] at hm'
        by_cases e3 : k = m'
        · rw [if_pos e3] at hm'; exact hm'.elim
        · rw [if_neg e3] at hm'
          subst e1
          rw [Env.set_self, Env.set_ne E e (Ne.symm e2), hblk] at hb
          exact absurd (h.inj k m' hk hm' hb) e3
    · rw [if_neg e1, Env.set_ne E e (Ne.symm e1)] at hm
      by_cases e3 : k = m
      · rw [if_pos e3] at hm; exact hm.elim
      · rw [if_neg e3] at hm
        by_cases e2 : n = m'
        · subst e2
          rw [Env.set_self, Env.set_ne E e (Ne.symm e1), hblk] at hb
          exact absurd (h.inj m k hm hk hb).symm e3
        · rw [if_neg e2, Env.set_ne E e (Ne.symm e2)] at hm'
          by_cases e4 : k = m'
          · rw [if_pos e4] at hm'; exact hm'.elim
          · rw [if_neg e4] at hm'
            rw [Env.set_ne E e (Ne.symm e1), Env.set_ne E e (Ne.symm e2)] at hb
            exact h.inj m m' hm hm' hb
  · intro m hm
    rcases hm with hm | rfl
    · exact .inl (h.al m hm)
    · exact .inr rfl
  · intro b hb ho
    have : b ≠ (E.e k).blk := by
      intro e
      rcases h.uo k hk with h1 | h1
      · exact ho (e ▸ h1)
      · omega
    exact (hold b this).trans (h.kp b hb ho)
  · intro m hm
    rw [hlook] at hm
    by_cases e1 : n = m
    · subst e1; rw [Env.set_self, hblk]; exact h.uo k hk
    · rw [if_neg e1, Env.set_ne E e (Ne.symm e1)] at hm
      by_cases e2 : k = m
      · rw [if_pos e2] at hm; exact hm.elim
      · rw [if_neg e2] at hm
        rw [Env.set_ne E e (Ne.symm e1)]; exact h.uo m hm
end
end Go.Proofs.Zz
