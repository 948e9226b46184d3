/- What a state says of memory; what an asking comes to; that it hangs on what it asks alone. -/
import Derived.Test.YtpplgkggclddiaaEngC
import Derived.Below
set_option linter.unusedSimpArgs false
set_option linter.unusedVariables false
namespace Go.Proofs.Zz
open Go

theorem nthD_eq {α : Type} (d : α) : ∀ (l : List α) (n : Nat), nthD d l n = l.getD n d
  | [], _ => by simp [nthD]
  | _ :: _, 0 => by simp [nthD]
  | _ :: r, n + 1 => by simp only [nthD, nthD_eq d r n]; simp
theorem setN_eq {α : Type} : ∀ (l : List α) (n : Nat) (x : α), setN l n x = l.set n x
  | [], _, _ => rfl
  | _ :: _, 0, _ => rfl
  | _ :: r, n + 1, x => by simp only [setN, setN_eq r n x]; rfl
theorem takeN_eq {α : Type} : ∀ (n : Nat) (l : List α), takeN n l = l.take n
  | 0, _ => by simp [takeN]
  | _ + 1, [] => by simp [takeN]
  | n + 1, x :: r => by simp [takeN, takeN_eq n r]
theorem dropN_eq {α : Type} : ∀ (n : Nat) (l : List α), dropN n l = l.drop n
  | 0, _ => by simp [dropN]
  | _ + 1, [] => by simp [dropN]
  | n + 1, _ :: r => by simp [dropN, dropN_eq n r]
theorem repl_eq {α : Type} : ∀ (n : Nat) (x : α), repl n x = List.replicate n x
  | 0, _ => rfl
  | n + 1, x => by simp [repl, repl_eq n x, List.replicate_succ]
theorem bads_get : ∀ (n t : Nat), nthD bad (bads n) t = bad
  | 0, _ => rfl
  | _ + 1, 0 => rfl
  | n + 1, t + 1 => bads_get n t
theorem bads_len : ∀ n, (bads n).length = n
  | 0 => rfl
  | n + 1 => by simp [bads, bads_len n]
theorem sizes_eq : ∀ ls : List L, sizes ls = ls.map L.size
  | [] => rfl
  | l :: r => by simp [sizes, sizes_eq r]
theorem natsEq_spec : ∀ {a b : List Nat}, natsEq a b = true → a = b
  | [], [], _ => rfl
  | [], _ :: _, h => by simp [natsEq] at h
  | _ :: _, [], h => by simp [natsEq] at h
  | x :: r, y :: q, h => by
    simp only [natsEq] at h
    split at h
    · rename_i e
      rw [Nat.eq_of_beq_eq_true e, natsEq_spec h]
    · simp at h
theorem memN_spec : ∀ {k : Nat} {l : List Nat}, memN k l = true ↔ k ∈ l
  | k, [] => by simp [memN]
  | k, x :: r => by
    simp only [memN]
    split
    · rename_i e
      simp [Nat.eq_of_beq_eq_true e]
    · rename_i e
      have : ¬ k = x := fun h => by subst h; simp at e
      simp [memN_spec (l := r), this]
theorem memN_false {k : Nat} {l : List Nat} : memN k l = false ↔ k ∉ l := by
  rw [← Bool.not_eq_true, memN_spec]
theorem disj_spec : ∀ {a b : List Nat}, disj a b = true → ∀ x ∈ a, x ∉ b
  | [], _, _ => by simp
  | y :: r, b, h => by
    simp only [disj] at h
    split at h
    · simp at h
    · rename_i e
      intro x hx
      rcases List.mem_cons.1 hx with rfl | hx
      · exact memN_false.1 e
      · exact disj_spec h x hx
theorem distinct_spec : ∀ {a : List Nat}, distinct a = true → a.Nodup
  | [], _ => List.nodup_nil
  | x :: r, h => by
    simp only [distinct] at h
    split at h
    · simp at h
    · rename_i e
      exact List.nodup_cons.2 ⟨memN_false.1 e, distinct_spec h⟩

theorem lookO_putO : ∀ (l : List (Nat × Obj)) (k : Nat) (o : Obj) (k' : Nat), lookO (putO l k o) k' = if k = k' then o else lookO l k'
  | [], k, o, k' => by
    simp only [putO, lookO]
    split
    · rename_i e; rw [if_pos (Nat.eq_of_beq_eq_true e)]
    · rename_i e; rw [if_neg (fun h => by subst h; simp at e)]
  | p :: r, k, o, k' => by
    simp only [putO]
    split
    · rename_i e
      have e := Nat.eq_of_beq_eq_true e
      subst e
      simp only [lookO]
      split
      · rename_i e; rw [if_pos (Nat.eq_of_beq_eq_true e)]
      · rename_i e; rw [if_neg (fun h => by subst h; simp at e)]
    · rename_i e
      simp only [lookO]
      split
      · rename_i e'
        have e' := Nat.eq_of_beq_eq_true e'
        rw [if_neg (fun h => by subst h; subst e'; simp at e)]
      · exact lookO_putO r k o k'

/-! Objects and memory -/
def unfr (w : World) (b n : Nat) : Prop := ∀ o, o < n → w.frozen? ⟨b, o, none⟩ = false

def RepArr (F : Nat → Prop) (w : World) (e : EI) (t : Ty) (xs : List (Den t)) (ro : Bool) : Prop :=
  List.length xs = e.len ∧ e.len ≤ e.cap ∧ e.esz = t.sz ∧ (∀ l, e.eoff l = lOff t l) ∧ (e.nil = true → e.cap = 0) ∧
      (e.nil = false → ∃ cs u fr ds, w.heap[e.blk]? = some (.cells cs u fr) ∧ e.base + e.cap * e.esz ≤ cs.size ∧ All (fun x c => RepD F w t x c) xs ds ∧ At w e.blk e.base ds ∧
        (ro = false → ¬ F e.blk ∧ unfr w e.blk cs.size) ∧ (ro = true → F e.blk))

/-- A box's cells, in their block. -/
def BoxAt (w : World) (e : EI) (t : TypeId) (cs : List Value) : Prop := ∃ ds fr, w.heap[e.blk]? = some (.cells ds t fr) ∧ ds.toList = e.pre ++ (cs ++ e.post) ∧ unfr w e.blk ds.size

def RepO (E : Env) (F : Nat → Prop) (w : World) (e : EI) : Obj → Prop
  | .dead => True
  | .box ls => ∃ cs t, BoxAt w e t cs ∧ RepLs E F w ls cs ∧ ¬ F e.blk ∧
      ∀ i, i ≤ ls.length → e.loff i = e.pre.length + ((sizes ls).take i).sum
  | .arr t xs ro => RepArr F w e t xs ro

def Obj.live : Obj → Prop
  | .dead => False
  | _ => True

/-- It alone has its block. -/
def excl (e : EI) : Obj → Prop
  | .box _ => True
  | .arr _ _ false => e.nil = false
  | _ => False

/-- What is the same throughout a call: the blocks that were handed over; those that may be kept; the world it began in. -/
structure Frm where
  O : Nat → Prop
  F0 : Nat → Prop
  w0 : World
  nb : Nat
  e0 : Nat → EI

structure Mem (C : Frm) (A : Nat → Prop) (E : Env) (F : Nat → Prop) (ob : List (Nat × Obj)) (w : World) : Prop where
  lv : ∀ k, (lookO ob k).live → E.al k
  rp : ∀ k, RepO E F w (E.e k) (lookO ob k)
  inj : ∀ k k', excl (E.e k) (lookO ob k) → excl (E.e k') (lookO ob k') → (E.e k).blk = (E.e k').blk → k = k'
  al : ∀ k, E.al k → A k
  fb : ∀ b, F b → b < w.heap.size
  f0 : ∀ b, C.F0 b → F b
  kp : ∀ b, b < C.w0.heap.size → ¬ C.O b → w.heap[b]? = C.w0.heap[b]?
  uf : ∀ b, F b → C.F0 b ∨ C.O b ∨ C.w0.heap.size ≤ b
  uo : ∀ k, excl (E.e k) (lookO ob k) → C.O (E.e k).blk ∨ C.w0.heap.size ≤ (E.e k).blk
  sz : C.w0.heap.size ≤ w.heap.size
  os : w.os = C.w0.os
  tape : w.tape = C.w0.tape
  output : w.output = C.w0.output
  eo : ∀ k, k < C.nb → E.al k ∧ E.e k = C.e0 k

structure Tms (E : Env) (F : Nat → Prop) (tm : List V) (a : Act) (w : World) : Prop where
  at_ : ∀ t, RepV E F w (nthD bad tm t) (a.tmps.getD t undef)
  tl : tm.length = a.tmps.size
  df : a.defers = []

/-- A state, and the machine's. -/
def Rel (C : Frm) (A : Nat → Prop) (s : St) (a : Act) (w : World) : Prop := ∃ E F, Mem C A E F s.ob w ∧ Tms E F s.tm a w

theorem Mem.mono {C : Frm} {A A' : Nat → Prop} {E : Env} {F : Nat → Prop} {ob : List (Nat × Obj)} {w : World} (h : Mem C A E F ob w) (hA : ∀ k, A k → A' k) : Mem C A' E F ob w :=
  ⟨h.lv, h.rp, h.inj, fun k hk => hA k (h.al k hk), h.fb, h.f0, h.kp, h.uf, h.uo, h.sz, h.os, h.tape, h.output, h.eo⟩
theorem Mem.same {C : Frm} {A : Nat → Prop} {E : Env} {F : Nat → Prop} {ob ob' : List (Nat × Obj)} {w : World} (h : Mem C A E F ob w) (ho : ∀ k, lookO ob' k = lookO ob k) : Mem C A E F ob' w :=
  ⟨fun k => by rw [ho]; exact h.lv k, fun k => by rw [ho]; exact h.rp k, fun k k' => by rw [ho, ho]; exact h.inj k k', h.al, h.fb, h.f0, h.kp, h.uf, fun k => by rw [ho]; exact h.uo k, h.sz, h.os, h.tape, h.output, h.eo⟩
theorem Tms.ext {E E' : Env} {F F' : Nat → Prop} {w w' : World} {tm : List V} {a : Act} (h : Tms E F tm a w) (hx : Ext E F w E' F' w') : Tms E' F' tm a w' :=
  ⟨fun t => (h.at_ t).ext hx, h.tl, h.df⟩
theorem RepV_bad {E : Env} {F : Nat → Prop} {w : World} {v : Value} : RepV E F w bad v := by simp [bad, RepV, RepW]
theorem Tms.put {E : Env} {F : Nat → Prop} {w : World} {tm : List V} {a : Act} (h : Tms E F tm a w) (d : Nat) {x : V} {v : Value} (hx : RepV E F w x v) : Tms E F (setN tm d x) (a.put (some d) v) w := by
  refine ⟨fun t => ?_, ?_, h.df⟩
  · simp only [Act.put, nthD_eq, setN_eq]
    by_cases e : d = t
    · subst e
      by_cases hl : d < tm.length
      · rw [List.getD_eq_getElem?_getD, List.getElem?_set_self hl, Option.getD_some]
        have : d < a.tmps.size := by rw [← h.tl]; exact hl
        simpa [Array.getD, this] using hx
      · rw [List.getD_eq_getElem?_getD, List.getElem?_eq_none (by simpa using hl), Option.getD_none]
        exact RepV_bad
    · have := h.at_ t
      rw [nthD_eq] at this
      rw [List.getD_eq_getElem?_getD, List.getElem?_set_ne e, ← List.getD_eq_getElem?_getD]
      rw [Array.getD_eq_getD_getElem?, Array.getElem?_setIfInBounds_ne e, ← Array.getD_eq_getD_getElem?]
      exact this
  · simp [Act.put, setN_eq, h.tl]
theorem Tms.put_none {E : Env} {F : Nat → Prop} {w : World} {tm : List V} {a : Act} (h : Tms E F tm a w) (v : Value) : Tms E F tm (a.put none v) w := h

/-! What an asking comes to -/
inductive RdE (ok : Nat → List DV → List DV → Prop) {α : Type} : Rd α → St → α → List Loc → Prop
  | ret (a : α) (s : St) : RdE ok (.ret a) s a []
  | get {l : Loc} {k : Cn → Rd α} {s : St} {a : α} {ls : List Loc} : RdE ok (k (look s l)) s a ls → RdE ok (.get l k) s a (l :: ls)
  | thn {t e : Rd α} {s : St} {a : α} {ls : List Loc} : RdE ok t s a ls → RdE ok (.ite true t e) s a ls
  | els {t e : Rd α} {s : St} {a : α} {ls : List Loc} : RdE ok e s a ls → RdE ok (.ite false t e) s a ls
  | call {f : Nat} {p q : List DV} {g : List DV → Rd α} {s : St} {a : α} {ls : List Loc} : ok f p q → RdE ok (g q) s a ls → RdE ok (.call f p g) s a ls

/-- A table of calls tells but what may be told. -/
def CTok (ok : Nat → List DV → List DV → Prop) (ct : CT) : Prop := ∀ f p K r, ct f p K = some r → ∃ q, ok f p q ∧ K q = some r

theorem rdRun_ev {ok : Nat → List DV → List DV → Prop} {ct : CT} (hct : CTok ok ct) {α : Type} : ∀ {m : Rd α} {s : St} {ls : List Loc} {k : α → List Loc → Option Rs} {r : Rs},
    rdRun ct m s ls k = some r → ∃ a rd, RdE ok m s a rd ∧ k a (rd.reverse ++ ls) = some r := by
  intro m
  induction m with
  | ret a => intro s ls k r h; exact ⟨a, [], .ret a s, h⟩
  | fail => intro s ls k r h; simp [rdRun] at h
  | get l g ih =>
    intro s ls k r h
    obtain ⟨a, rd, h1, h2⟩ := ih _ h
    exact ⟨a, l :: rd, .get h1, by simpa using h2⟩
  | ite b t e iht ihe =>
    intro s ls k r h
    cases b with
    | true =>
      obtain ⟨a, rd, h1, h2⟩ := iht h
      exact ⟨a, rd, .thn h1, h2⟩
    | false =>
      obtain ⟨a, rd, h1, h2⟩ := ihe h
      exact ⟨a, rd, .els h1, h2⟩
  | call f p g ih =>
    intro s ls k r h
    obtain ⟨q, h1, h2⟩ := hct _ _ _ _ h
    obtain ⟨a, rd, h3, h4⟩ := ih _ h2
    exact ⟨a, rd, .call h1 h3, h4⟩

/-- It hangs on what it asks alone. -/
theorem RdE.local {ok : Nat → List DV → List DV → Prop} {α : Type} {m : Rd α} {s : St} {a : α} {rd : List Loc} (h : RdE ok m s a rd) {s' : St} (hs : ∀ l ∈ rd, look s' l = look s l) : RdE ok m s' a rd := by
  induction h with
  | ret a s => exact .ret a s'
  | get _ ih =>
    refine .get ?_
    rw [hs _ (by simp)]
    exact ih fun l hl => hs l (by simp [hl])
  | thn _ ih => exact .thn (ih hs)
  | els _ ih => exact .els (ih hs)
  | call hq _ ih => exact .call hq (ih hs)

section
variable {ok : Nat → List DV → List DV → Prop} {α : Type} {s : St} {a : α}
/-- Whatever was asked. -/
def Ev (ok : Nat → List DV → List DV → Prop) {α : Type} (m : Rd α) (s : St) (a : α) : Prop := ∃ rd, RdE ok m s a rd
theorem Ev.ret {x : α} (h : Ev ok (.ret x) s a) : a = x := by obtain ⟨_, h⟩ := h; cases h; rfl
theorem Ev.fail (h : Ev ok (.fail : Rd α) s a) : False := by obtain ⟨_, h⟩ := h; cases h
theorem Ev.get {l : Loc} {k : Cn → Rd α} (h : Ev ok (.get l k) s a) : Ev ok (k (look s l)) s a := by obtain ⟨_, h⟩ := h; cases h with | get h => exact ⟨_, h⟩
theorem Ev.ite {b : Bool} {t e : Rd α} (h : Ev ok (.ite b t e) s a) : (b = true ∧ Ev ok t s a) ∨ (b = false ∧ Ev ok e s a) := by
  obtain ⟨_, h⟩ := h
  cases h with
  | thn h => exact .inl ⟨rfl, _, h⟩
  | els h => exact .inr ⟨rfl, _, h⟩
theorem Ev.call {f : Nat} {p : List DV} {g : List DV → Rd α} (h : Ev ok (.call f p g) s a) : ∃ q, ok f p q ∧ Ev ok (g q) s a := by
  obtain ⟨_, h⟩ := h
  cases h with
  | call hq h => exact ⟨_, hq, _, h⟩
end
end Go.Proofs.Zz
