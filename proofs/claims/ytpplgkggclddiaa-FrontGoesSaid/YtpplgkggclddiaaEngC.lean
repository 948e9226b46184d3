/- What leaves, values and objects say of memory; what is told of them stays told. -/
import Derived.Test.YtpplgkggclddiaaEngB
import Derived.Laws.NewBlocks
set_option linter.unusedSimpArgs false
set_option linter.unusedVariables false
namespace Go.Proofs.Zz
open Go

/-- Not a whole of cells. -/
def cellOk : Value → Prop
  | .agg _ => False
  | .tuple _ => False
  | _ => True

/-- Rows of cells, one behind the other. -/
def All {α : Type} (R : α → List Value → Prop) : List α → List Value → Prop
  | [], cs => cs = []
  | x :: r, cs => ∃ c d, cs = c ++ d ∧ R x c ∧ All R r d

/-- The cells from a place on. -/
def At (w : World) (b o : Nat) (ds : List Value) : Prop := ∀ j u, ds[j]? = some u → w.cell? ⟨b, o + j, none⟩ = some u

def RepD (F : Nat → Prop) (w : World) : (t : Ty) → Den t → List Value → Prop
  | .int k, v, cs => cs = [.int k v]
  | .bool, v, cs => cs = [.bool v]
  | .str, v, cs => cs = [.string v]
  | .unit, _, cs => cs = []
  | .pair a b, v, cs => ∃ c d, cs = c ++ d ∧ RepD F w a v.1 c ∧ RepD F w b v.2 d
  | .ar n a, v, cs => List.length v = n ∧ All (fun x c => RepD F w a x c) v cs
  | .sl a, v, cs => ∃ ad cap, cs = [.slice ad (List.length v) cap] ∧ List.length v ≤ cap ∧
      (v = [] ∨ ∃ b o ds, ad = some ⟨b, o, none⟩ ∧ F b ∧ All (fun x c => RepD F w a x c) v ds ∧ At w b o ds)
  | .nl, _, cs => cs = [.slice none 0 0]

structure EI where
  blk : Nat
  base : Nat
  len : Nat
  cap : Nat
  esz : Nat
  nil : Bool
  loff : Nat → Nat
  eoff : Nat → Nat
  /-- What lies ahead of a box in its block, and behind it; a value that goes with it. -/
  pre : List Value := []
  post : List Value := []
  hd : Value := .bool false

structure Env where
  e : Nat → EI
  al : Nat → Prop

/-- A cut of a slice's places. -/
def Win (e : EI) (off n : Nat) (cs : List Value) : Prop :=
  off + n ≤ e.len ∧ ∃ a, cs = [.slice a n (e.cap - off)] ∧ (e.cap - off ≠ 0 → e.nil = false ∧ a = some ⟨e.blk, e.base + off * e.esz, none⟩)

/-- Where the l-th leaf of a datum begins. -/
def lOff (t : Ty) (l : Nat) : Nat := (takeN l (sizes (unpk t (zeroD t)))).sum

/-- What begins at the l-th leaf has leaves of these sizes. -/
def Steps (f : Nat → Nat) (l : Nat) (y : List Nat) : Prop := ∀ d, d ≤ y.length → f (l + d) = f l + (y.take d).sum

/-- The header of a slice one of whose elements is told as a box. -/
def HdOk (e : EI) (n i : Int) (sz : Nat) (y : List Nat) : Prop := ∃ a m c, e.hd = .slice a m c ∧ (m : Int) = n ∧ (0 ≤ i → i < n → ∃ b, a = some ⟨e.blk, b, none⟩ ∧ e.loff 0 = b + i.toNat * sz ∧ Steps e.loff 0 y)

def RepL (E : Env) (F : Nat → Prop) (w : World) : L → List Value → Prop
  | .any n, cs => cs.length = n ∧ ∀ u ∈ cs, cellOk u
  | .dat t v, cs => RepD F w t v cs
  | .nn t v, cs => RepD F w (.sl t) v cs ∧ ∃ b n c, cs = [.slice (some b) n c]
  | .nils, cs => cs = [.slice none 0 0]
  | .nl, cs => ∃ c, cs = [.slice none 0 c]
  | .cst k, cs => E.al k ∧ cs = [(E.e k).hd] ∧ cellOk (E.e k).hd
  | .oh k n i sz y, cs => E.al k ∧ cs = [(E.e k).hd] ∧ HdOk (E.e k) n i sz y
  | .own k, cs => E.al k ∧ Win (E.e k) 0 (E.e k).len cs
  | .suf k off, cs => E.al k ∧ off ≤ (E.e k).len ∧ Win (E.e k) off ((E.e k).len - off) cs
  | .mid k off n, cs => E.al k ∧ Win (E.e k) off n cs
  | .sla k l m off n, cs => E.al k ∧ off + n ≤ m ∧ ∃ a c, cs = [.slice a n c] ∧ n ≤ c ∧ (c ≠ 0 → a = some ⟨(E.e k).blk, (E.e k).loff l + off, none⟩)
  | .ptr k l y, cs => E.al k ∧ cs = [.pointer (some ⟨(E.e k).blk, (E.e k).loff l, none⟩)] ∧ Steps (E.e k).loff l y
  | .pta k l n i, cs => E.al k ∧ i < n ∧ cs = [.pointer (some ⟨(E.e k).blk, (E.e k).loff l + i, none⟩)]
  | .pte k i l y, cs => E.al k ∧ i < (E.e k).len ∧ cs = [.pointer (some ⟨(E.e k).blk, (E.e k).base + i * (E.e k).esz + (E.e k).eoff l, none⟩)] ∧ Steps (E.e k).eoff l y
  | .rf t v l, cs => ∃ b o ds, cs = [.pointer (some ⟨b, o + lOff t l, none⟩)] ∧ F b ∧ RepD F w t v ds ∧ At w b o ds
  | .nilp, cs => cs = [.pointer none]
  | .fn f caps, cs => (∀ c ∈ caps, E.al c.k ∧ Steps (E.e c.k).loff c.l c.y) ∧ cs = [.func (.func f) #[] (caps.map fun c => Value.pointer (some ⟨(E.e c.k).blk, (E.e c.k).loff c.l, none⟩)).toArray]

abbrev RepLs (E : Env) (F : Nat → Prop) (w : World) : List L → List Value → Prop := All (RepL E F w)

def RepW (E : Env) (F : Nat → Prop) (w : World) : V → Value → Prop
  | .one (.any _), _ => True
  | .one l, v => cellOk v ∧ RepL E F w l [v]
  | .agg ls, v => ∃ cs, v = .agg cs ∧ RepLs E F w ls cs.toList
  | .tup _, _ => False

def All2 {α β : Type} (R : α → β → Prop) : List α → List β → Prop
  | [], [] => True
  | a :: r, b :: q => R a b ∧ All2 R r q
  | _, _ => False

def RepV (E : Env) (F : Nat → Prop) (w : World) : V → Value → Prop
  | .tup vs, v => ∃ xs, v = .tuple xs ∧ All2 (RepW E F w) vs xs.toList
  | x, v => RepW E F w x v

/-! Cells -/
theorem At.append {w : World} {b o : Nat} {c d : List Value} (h : At w b o (c ++ d)) : At w b o c ∧ At w b (o + c.length) d := by
  refine ⟨fun j u hj => ?_, fun j u hj => ?_⟩
  · have hl : j < c.length := (List.getElem?_eq_some_iff.1 hj).1
    exact h j u (by rw [List.getElem?_append_left hl]; exact hj)
  · have := h (c.length + j) u (by rw [List.getElem?_append_right (by omega)]; simpa using hj)
    rwa [Nat.add_assoc]
theorem At.join {w : World} {b o : Nat} {c d : List Value} (h : At w b o c) (h' : At w b (o + c.length) d) : At w b o (c ++ d) := by
  intro j u hj
  by_cases hl : j < c.length
  · rw [List.getElem?_append_left hl] at hj
    exact h j u hj
  · rw [List.getElem?_append_right (by omega)] at hj
    have := h' _ u hj
    rwa [show o + c.length + (j - c.length) = o + j by omega] at this
theorem At.nil {w : World} {b o : Nat} : At w b o [] := fun j u h => by simp at h
theorem At.one {w : World} {b o : Nat} {u : Value} (h : At w b o [u]) : w.cell? ⟨b, o, none⟩ = some u := h 0 u rfl
theorem At.of_one {w : World} {b o : Nat} {u : Value} (h : w.cell? ⟨b, o, none⟩ = some u) : At w b o [u] := by
  intro j v hj
  cases j with
  | zero => simp at hj; subst hj; exact h
  | succ j => simp at hj

theorem All.imp {α : Type} {R S : α → List Value → Prop} (h : ∀ x c, R x c → S x c) : ∀ {xs : List α} {cs : List Value}, All R xs cs → All S xs cs
  | [], _, h' => h'
  | _ :: _, _, ⟨c, d, e, hr, ht⟩ => ⟨c, d, e, h _ _ hr, ht.imp h⟩
theorem All.append {α : Type} {R : α → List Value → Prop} : ∀ {xs ys : List α} {cs ds : List Value}, All R xs cs → All R ys ds → All R (xs ++ ys) (cs ++ ds)
  | [], _, _, _, h, h' => by subst h; simpa using h'
  | _ :: _, _, _, _, ⟨c, d, e, hr, ht⟩, h' => ⟨c, d ++ _, by rw [e, List.append_assoc], hr, ht.append h'⟩
theorem All.split {α : Type} {R : α → List Value → Prop} : ∀ {xs ys : List α} {cs : List Value}, All R (xs ++ ys) cs → ∃ c d, cs = c ++ d ∧ All R xs c ∧ All R ys d
  | [], _, cs, h => ⟨[], cs, rfl, rfl, h⟩
  | _ :: _, _, _, ⟨c, d, e, hr, ht⟩ => by
    obtain ⟨c', d', e', h1, h2⟩ := ht.split
    exact ⟨c ++ c', d', by rw [e, e', List.append_assoc], ⟨c, c', rfl, hr, h1⟩, h2⟩
theorem All.one {α : Type} {R : α → List Value → Prop} {x : α} {cs : List Value} : All R [x] cs ↔ R x cs := by
  constructor
  · rintro ⟨c, d, e, hr, ht⟩
    rw [ht, List.append_nil] at e
    rw [e]; exact hr
  · intro h; exact ⟨cs, [], by simp, h, rfl⟩
theorem All.len {α : Type} {R : α → List Value → Prop} {n : Nat} (h : ∀ x c, R x c → c.length = n) : ∀ {xs : List α} {cs : List Value}, All R xs cs → cs.length = xs.length * n
  | [], _, h' => by subst h'; simp
  | _ :: _, _, ⟨c, d, e, hr, ht⟩ => by
    rw [e, List.length_append, h _ _ hr, ht.len h, List.length_cons, Nat.succ_mul, Nat.add_comm]
theorem All.mem {α : Type} {R : α → List Value → Prop} {p : Value → Prop} (h : ∀ x c, R x c → ∀ u ∈ c, p u) : ∀ {xs : List α} {cs : List Value}, All R xs cs → ∀ u ∈ cs, p u
  | [], _, h' => by subst h'; simp
  | _ :: _, _, ⟨c, d, e, hr, ht⟩ => by
    intro u hu
    rw [e, List.mem_append] at hu
    exact hu.elim (h _ _ hr u) (ht.mem h u)
/-- The i-th of rows of one length. -/
theorem All.get {α : Type} {R : α → List Value → Prop} {n : Nat} (h : ∀ x c, R x c → c.length = n) : ∀ {xs : List α} {cs : List Value} {i : Nat} {x : α}, All R xs cs → xs[i]? = some x →
    ∃ c d e, cs = c ++ (d ++ e) ∧ c.length = i * n ∧ R x d
  | [], _, _, _, _, hx => by simp at hx
  | y :: r, _, 0, x, ⟨c, d, e, hr, ht⟩, hx => by
    simp at hx; subst hx
    exact ⟨[], c, d, by simpa using e, by simp, hr⟩
  | y :: r, _, i + 1, x, ⟨c, d, e, hr, ht⟩, hx => by
    simp at hx
    obtain ⟨c', d', e', h1, h2, h3⟩ := ht.get h hx
    exact ⟨c ++ c', d', e', by rw [e, h1, List.append_assoc], by rw [List.length_append, h _ _ hr, h2, Nat.succ_mul, Nat.add_comm], h3⟩
/-- The i-th exchanged. -/
theorem All.set {α : Type} {R : α → List Value → Prop} {n : Nat} (h : ∀ x c, R x c → c.length = n) : ∀ {xs : List α} {cs : List Value} {i : Nat} {y : α} {d' : List Value}, All R xs cs → i < xs.length → R y d' →
    ∃ c d e, cs = c ++ (d ++ e) ∧ c.length = i * n ∧ d.length = n ∧ All R (xs.set i y) (c ++ (d' ++ e))
  | [], _, _, _, _, _, hi, _ => by simp at hi
  | z :: r, _, 0, y, d', ⟨c, d, e, hr, ht⟩, _, hy => ⟨[], c, d, by simpa using e, by simp, h _ _ hr, by simpa using ⟨d', d, rfl, hy, ht⟩⟩
  | z :: r, _, i + 1, y, d', ⟨c, d, e, hr, ht⟩, hi, hy => by
    obtain ⟨c', d1, e', h1, h2, h3, h4⟩ := ht.set h (by simpa using hi) hy
    exact ⟨c ++ c', d1, e', by rw [e, h1, List.append_assoc], by rw [List.length_append, h _ _ hr, h2, Nat.succ_mul, Nat.add_comm], h3, by
      simp only [List.set_cons_succ]
      exact ⟨c, c' ++ (d' ++ e'), by rw [List.append_assoc], hr, h4⟩⟩

theorem RepD_len {F : Nat → Prop} {w : World} : ∀ {t : Ty} {v : Den t} {cs : List Value}, RepD F w t v cs → cs.length = t.sz
  | .int _, _, _, h => by rw [RepD] at h; subst h; rfl
  | .bool, _, _, h => by rw [RepD] at h; subst h; rfl
  | .str, _, _, h => by rw [RepD] at h; subst h; rfl
  | .unit, _, _, h => by rw [RepD] at h; subst h; rfl
  | .nl, _, _, h => by rw [RepD] at h; subst h; rfl
  | .pair a b, _, _, h => by
    rw [RepD] at h
    obtain ⟨c, d, rfl, h1, h2⟩ := h
    rw [List.length_append, RepD_len h1, RepD_len h2]; rfl
  | .ar n a, v, _, h => by
    rw [RepD] at h
    rw [h.2.len (fun x c => RepD_len), h.1]; rfl
  | .sl a, _, _, h => by
    rw [RepD] at h
    obtain ⟨ad, cap, rfl, _⟩ := h
    rfl
theorem RepD_ok {F : Nat → Prop} {w : World} : ∀ {t : Ty} {v : Den t} {cs : List Value}, RepD F w t v cs → ∀ u ∈ cs, cellOk u
  | .int _, _, _, h => by rw [RepD] at h; subst h; simp [cellOk]
  | .bool, _, _, h => by rw [RepD] at h; subst h; simp [cellOk]
  | .str, _, _, h => by rw [RepD] at h; subst h; simp [cellOk]
  | .unit, _, _, h => by rw [RepD] at h; subst h; simp
  | .nl, _, _, h => by rw [RepD] at h; subst h; simp [cellOk]
  | .pair a b, _, _, h => by
    rw [RepD] at h
    obtain ⟨c, d, rfl, h1, h2⟩ := h
    intro u hu
    rw [List.mem_append] at hu
    exact hu.elim (RepD_ok h1 u) (RepD_ok h2 u)
  | .ar n a, v, _, h => by
    rw [RepD] at h
    exact h.2.mem (fun x c hc => RepD_ok hc)
  | .sl a, _, _, h => by
    rw [RepD] at h
    obtain ⟨ad, cap, rfl, _⟩ := h
    simp [cellOk]

/-- From one memory to a later one: keys stay, what may not turn stays. -/
structure Ext (E : Env) (F : Nat → Prop) (w : World) (E' : Env) (F' : Nat → Prop) (w' : World) : Prop where
  al : ∀ k, E.al k → E'.al k
  e : ∀ k, E.al k → E'.e k = E.e k
  fz : ∀ b, F b → F' b
  wd : ∀ b, F b → ∀ o u, w.cell? ⟨b, o, none⟩ = some u → w'.cell? ⟨b, o, none⟩ = some u

theorem Ext.refl (E : Env) (F : Nat → Prop) (w : World) : Ext E F w E F w := ⟨fun _ h => h, fun _ _ => rfl, fun _ h => h, fun _ _ _ _ h => h⟩
theorem Ext.trans {E E' E'' : Env} {F F' F'' : Nat → Prop} {w w' w'' : World} (h : Ext E F w E' F' w') (h' : Ext E' F' w' E'' F'' w'') : Ext E F w E'' F'' w'' :=
  ⟨fun k hk => h'.al k (h.al k hk), fun k hk => (h'.e k (h.al k hk)).trans (h.e k hk), fun b hb => h'.fz b (h.fz b hb), fun b hb o u hu => h'.wd b (h.fz b hb) o u (h.wd b hb o u hu)⟩

section
variable {E E' : Env} {F F' : Nat → Prop} {w w' : World}
theorem RepD.ext (hF : ∀ b, F b → F' b) (hw : ∀ b, F b → ∀ o u, w.cell? ⟨b, o, none⟩ = some u → w'.cell? ⟨b, o, none⟩ = some u) : ∀ {t : Ty} {v : Den t} {cs : List Value}, RepD F w t v cs → RepD F' w' t v cs
  | .int _, _, _, h => by rw [RepD] at h ⊢; exact h
  | .bool, _, _, h => by rw [RepD] at h ⊢; exact h
  | .str, _, _, h => by rw [RepD] at h ⊢; exact h
  | .unit, _, _, h => by rw [RepD] at h ⊢; exact h
  | .nl, _, _, h => by rw [RepD] at h ⊢; exact h
  | .pair a b, _, _, h => by
    rw [RepD] at h ⊢
    obtain ⟨c, d, e, h1, h2⟩ := h
    exact ⟨c, d, e, RepD.ext hF hw h1, RepD.ext hF hw h2⟩
  | .ar n a, v, _, h => by
    rw [RepD] at h ⊢
    exact ⟨h.1, h.2.imp fun x c hc => RepD.ext hF hw hc⟩
  | .sl a, _, _, h => by
    rw [RepD] at h ⊢
    obtain ⟨ad, cap, e, hl, hh⟩ := h
    refine ⟨ad, cap, e, hl, hh.imp id ?_⟩
    rintro ⟨b, o, ds, h1, h2, h3, h4⟩
    exact ⟨b, o, ds, h1, hF b h2, h3.imp fun x c hc => RepD.ext hF hw hc, fun j u hj => hw b h2 _ _ (h4 j u hj)⟩
theorem RepL.ext (h : Ext E F w E' F' w') {l : L} {cs : List Value} (hr : RepL E F w l cs) : RepL E' F' w' l cs := by
  cases l with
  | any n => exact hr
  | dat t v => exact RepD.ext h.fz h.wd hr
  | nn t v => exact ⟨RepD.ext h.fz h.wd hr.1, hr.2⟩
  | nils => exact hr
  | nl => exact hr
  | cst k => obtain ⟨ha, hr⟩ := hr; exact ⟨h.al k ha, by rw [h.e k ha]; exact hr⟩
  | oh k n i sz y => obtain ⟨ha, hr⟩ := hr; exact ⟨h.al k ha, by rw [h.e k ha]; exact hr⟩
  | own k => obtain ⟨ha, hr⟩ := hr; exact ⟨h.al k ha, by rw [h.e k ha]; exact hr⟩
  | suf k off => obtain ⟨ha, hr⟩ := hr; exact ⟨h.al k ha, by rw [h.e k ha]; exact hr⟩
  | mid k off n => obtain ⟨ha, hr⟩ := hr; exact ⟨h.al k ha, by rw [h.e k ha]; exact hr⟩
  | sla k l m off n => obtain ⟨ha, hr⟩ := hr; exact ⟨h.al k ha, by rw [h.e k ha]; exact hr⟩
  | ptr k l y => obtain ⟨ha, hr⟩ := hr; exact ⟨h.al k ha, by rw [h.e k ha]; exact hr⟩
  | pta k l n i => obtain ⟨ha, hr⟩ := hr; exact ⟨h.al k ha, by rw [h.e k ha]; exact hr⟩
  | pte k i l y => obtain ⟨ha, hr⟩ := hr; exact ⟨h.al k ha, by rw [h.e k ha]; exact hr⟩
  | rf t v l =>
    obtain ⟨b, o, ds, h1, h2, h3, h4⟩ := hr
    exact ⟨b, o, ds, h1, h.fz b h2, RepD.ext h.fz h.wd h3, fun j u hj => h.wd b h2 _ _ (h4 j u hj)⟩
  | nilp => exact hr
  | fn f caps =>
    obtain ⟨ha, hr⟩ := hr
    refine ⟨fun c hc => ⟨h.al _ (ha c hc).1, by rw [h.e _ (ha c hc).1]; exact (ha c hc).2⟩, hr.trans ?_⟩
    congr 3
    apply List.map_congr_left
    intro c hc
    rw [h.e _ (ha c hc).1]
theorem RepLs.ext (h : Ext E F w E' F' w') {ls : List L} {cs : List Value} (hr : RepLs E F w ls cs) : RepLs E' F' w' ls cs := hr.imp fun _ _ hc => hc.ext h
theorem RepW.ext (h : Ext E F w E' F' w') {x : V} {v : Value} (hr : RepW E F w x v) : RepW E' F' w' x v := by
  cases x with
  | one l => cases l <;> first | trivial | exact ⟨hr.1, RepL.ext h hr.2⟩
  | agg ls => obtain ⟨cs, e, hr⟩ := hr; exact ⟨cs, e, RepLs.ext h hr⟩
  | tup vs => exact hr
theorem All2.imp {α β : Type} {R S : α → β → Prop} (h : ∀ a b, R a b → S a b) : ∀ {xs : List α} {ys : List β}, All2 R xs ys → All2 S xs ys
  | [], [], _ => trivial
  | _ :: _, _ :: _, h' => ⟨h _ _ h'.1, h'.2.imp h⟩
  | [], _ :: _, h' => h'.elim
  | _ :: _, [], h' => h'.elim
theorem RepV.ext (h : Ext E F w E' F' w') {x : V} {v : Value} (hr : RepV E F w x v) : RepV E' F' w' x v := by
  cases x with
  | one l => exact RepW.ext (x := .one l) h hr
  | agg ls => exact RepW.ext (x := .agg ls) h hr
  | tup vs => obtain ⟨xs, e, hr⟩ := hr; exact ⟨xs, e, hr.imp fun _ _ => RepW.ext h⟩

theorem RepL_len {l : L} {cs : List Value} (h : RepL E F w l cs) : cs.length = l.size := by
  cases l <;> simp only [RepL] at h
  case any n => exact h.1
  case dat t v => exact RepD_len h
  case nn t v => obtain ⟨_, b, n, c, rfl⟩ := h; rfl
  case nils => rw [h]; rfl
  case nl => obtain ⟨c, rfl⟩ := h; rfl
  case cst k => rw [h.2.1]; rfl
  case oh k n i sz y => rw [h.2.1]; rfl
  case own k => obtain ⟨_, _, a, rfl, _⟩ := h; rfl
  case suf k off => obtain ⟨_, _, _, a, rfl, _⟩ := h; rfl
  case mid k off n => obtain ⟨_, _, a, rfl, _⟩ := h; rfl
  case sla k l m off n => obtain ⟨_, _, a, c, rfl, _⟩ := h; rfl
  case ptr k l y => rw [h.2.1]; rfl
  case pta k l n i => rw [h.2.2]; rfl
  case pte k i l y => rw [h.2.2.1]; rfl
  case rf t v l => obtain ⟨b, o, ds, rfl, _⟩ := h; rfl
  case nilp => rw [h]; rfl
  case fn f caps => rw [h.2]; rfl
theorem RepL_ok {l : L} {cs : List Value} (h : RepL E F w l cs) : ∀ u ∈ cs, cellOk u := by
  cases l <;> simp only [RepL] at h
  case any n => exact h.2
  case dat t v => exact RepD_ok h
  case nn t v => exact RepD_ok h.1
  case nils => rw [h]; simp [cellOk]
  case nl => obtain ⟨c, rfl⟩ := h; simp [cellOk]
  case cst k => rw [h.2.1]; simpa using h.2.2
  case oh k n i sz y => obtain ⟨_, e, a, m, c, e2, _⟩ := h; rw [e, e2]; simp [cellOk]
  case own k => obtain ⟨_, _, a, rfl, _⟩ := h; simp [cellOk]
  case suf k off => obtain ⟨_, _, _, a, rfl, _⟩ := h; simp [cellOk]
  case mid k off n => obtain ⟨_, _, a, rfl, _⟩ := h; simp [cellOk]
  case sla k l m off n => obtain ⟨_, _, a, c, rfl, _⟩ := h; simp [cellOk]
  case ptr k l y => rw [h.2.1]; simp [cellOk]
  case pta k l n i => rw [h.2.2]; simp [cellOk]
  case pte k i l y => rw [h.2.2.1]; simp [cellOk]
  case rf t v l => obtain ⟨b, o, ds, rfl, _⟩ := h; simp [cellOk]
  case nilp => rw [h]; simp [cellOk]
  case fn f caps => rw [h.2]; simp [cellOk]
theorem sizes_sum {ls : List L} : ∀ {cs : List Value}, RepLs E F w ls cs → cs.length = (sizes ls).sum := by
  induction ls with
  | nil => intro cs h; rw [show cs = [] from h]; rfl
  | cons l r ih =>
    rintro cs ⟨c, d, rfl, h1, h2⟩
    rw [List.length_append, RepL_len h1, ih h2]; simp [sizes]
theorem RepLs_ok {ls : List L} {cs : List Value} (h : RepLs E F w ls cs) : ∀ u ∈ cs, cellOk u := h.mem fun _ _ hc => RepL_ok hc
/-- A datum's cells are its leaves'. -/
theorem RepD_unpk : ∀ {t : Ty} {v : Den t} {cs : List Value}, RepD F w t v cs → RepLs E F w (unpk t v) cs
  | .int _, _, _, h => All.one.2 h
  | .bool, _, _, h => All.one.2 h
  | .str, _, _, h => All.one.2 h
  | .unit, _, _, h => by rw [RepD] at h; exact h
  | .nl, _, _, h => All.one.2 h
  | .pair a b, _, _, h => by
    rw [RepD] at h
    obtain ⟨c, d, rfl, h1, h2⟩ := h
    exact (RepD_unpk h1).append (RepD_unpk h2)
  | .ar n a, v, _, h => All.one.2 h
  | .sl a, _, _, h => All.one.2 h
end
theorem sizes_unpk : ∀ {t : Ty} (v : Den t), sizes (unpk t v) = sizes (unpk t (zeroD t)) := by
  intro t
  induction t with
  | pair a b iha ihb =>
    intro v
    have key : ∀ (x y : List L), sizes (x ++ y) = sizes x ++ sizes y := by
      intro x y
      induction x with
      | nil => rfl
      | cons l r ih => simp [sizes, ih]
    simp only [unpk, zeroD]
    rw [key, key, iha, ihb v.2]
  | _ => intro v; rfl
end Go.Proofs.Zz
