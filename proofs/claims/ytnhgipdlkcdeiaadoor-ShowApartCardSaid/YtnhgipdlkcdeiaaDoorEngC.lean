import Derived.Test.YtnhgipdlkcdeiaaDoorEngA
import Derived.Laws.NewBlocks
import Derived.Below
set_option linter.unusedSimpArgs false
set_option linter.unusedVariables false
/- What leaves, values and objects say of memory; what is told of them stays told. -/
namespace Go.Proofs.Zs
open Go

/-- Not a whole of cells. -/
def cellOk : Value → Prop
  | .agg _ => False
  | .tuple _ => False
  | _ => True

/-- Rows of cells, one behind the other. -/
def All {α : Type} (R : α → List Value → Prop) : List α → List Value → Prop
  | [], cs => cs = []
  | x :: r, cs => ∃ c d, cs = c ++ d ∧ R x c ∧ All R r d

/-- The cells from a place on. -/
def At (w : World) (b o : Nat) (ds : List Value) : Prop := ∀ j u, ds[j]? = some u → w.cell? ⟨b, o + j, none⟩ = some u

def RepD (F : Nat → Prop) (w : World) : (t : Ty) → Den t → List Value → Prop
  | .int k, v, cs => cs = [.int k v]
  | .bool, v, cs => cs = [.bool v]
  | .str, v, cs => cs = [.string v]
  | .unit, _, cs => cs = []
  | .pair a b, v, cs => ∃ c d, cs = c ++ d ∧ RepD F w a v.1 c ∧ RepD F w b v.2 d
  | .ar n a, v, cs => List.length v = n ∧ All (fun x c => RepD F w a x c) v cs
  | .sl a, v, cs => ∃ ad cap, cs = [.slice ad (List.length v) cap] ∧ List.length v ≤ cap ∧
      (v = [] ∨ ∃ b o ds, ad = some ⟨b, o, none⟩ ∧ F b ∧ All (fun x c => RepD F w a x c) v ds ∧ At w b o ds)
  | .nl, _, cs => cs = [.slice none 0 0]

structure EI where
  blk : Nat
  base : Nat
  len : Nat
  cap : Nat
  esz : Nat
  nil : Bool
  loff : Nat → Nat
  eoff : Nat → Nat
  /-- What lies ahead of a box in its block, and behind it; a value that goes with it. -/
  pre : List Value := []
  post : List Value := []
  hd : Value := .bool false

structure Env where
  e : Nat → EI
  al : Nat → Prop

/-- A cut of a slice's places. -/
def Win (e : EI) (off n : Nat) (cs : List Value) : Prop :=
  off + n ≤ e.len ∧ ∃ a, cs = [.slice a n (e.cap - off)] ∧ (e.cap - off ≠ 0 → e.nil = false ∧ a = some ⟨e.blk, e.base + off * e.esz, none⟩)

/-- Where the l-th leaf of a datum begins. -/
def lOff (t : Ty) (l : Nat) : Nat := (takeN l (sizes (unpk t (zeroD t)))).sum

/-- What begins at the l-th leaf has leaves of these sizes. -/
def Steps (f : Nat → Nat) (l : Nat) (y : List Nat) : Prop := ∀ d, d ≤ y.length → f (l + d) = f l + (y.take d).sum

/-- The header of a slice one of whose elements is told as a box. -/
def HdOk (e : EI) (n i : Int) (sz : Nat) (y : List Nat) : Prop := ∃ a m c, e.hd = .slice a m c ∧ (m : Int) = n ∧ (0 ≤ i → i < n → ∃ b, a = some ⟨e.blk, b, none⟩ ∧ e.loff 0 = b + i.toNat * sz ∧ Steps e.loff 0 y)

def RepL (E : Env) (F : Nat → Prop) (w : World) : L → List Value → Prop
  | .any n, cs => cs.length = n ∧ ∀ u ∈ cs, cellOk u
  | .dat t v, cs => RepD F w t v cs
  | .nn t v, cs => RepD F w (.sl t) v cs ∧ ∃ b n c, cs = [.slice (some b) n c]
  | .nils, cs => cs = [.slice none 0 0]
  | .nl, cs => ∃ c, cs = [.slice none 0 c]
  | .cst k, cs => E.al k ∧ cs = [(E.e k).hd] ∧ cellOk (E.e k).hd
  | .oh k n i sz y, cs => E.al k ∧ cs = [(E.e k).hd] ∧ HdOk (E.e k) n i sz y
  | .own k, cs => E.al k ∧ Win (E.e k) 0 (E.e k).len cs
  | .suf k off, cs => E.al k ∧ off ≤ (E.e k).len ∧ Win (E.e k) off ((E.e k).len - off) cs
  | .mid k off n, cs => E.al k ∧ Win (E.e k) off n cs
  | .sla k l m off n, cs => E.al k ∧ off + n ≤ m ∧ ∃ a c, cs = [.slice a n c] ∧ n ≤ c ∧ (c ≠ 0 → a = some ⟨(E.e k).blk, (E.e k).loff l + off, none⟩)
  | .ptr k l y, cs => E.al k ∧ cs = [.pointer (some ⟨(E.e k).blk, (E.e k).loff l, none⟩)] ∧ Steps (E.e k).loff l y
  | .pta k l n i, cs => E.al k ∧ i < n ∧ cs = [.pointer (some ⟨(E.e k).blk, (E.e k).loff l + i, none⟩)]
  | .pte k i l y, cs => E.al k ∧ i < (E.e k).len ∧ cs = [.pointer (some ⟨(E.e k).blk, (E.e k).base + i * (E.e k).esz + (E.e k).eoff l, none⟩)] ∧ Steps (E.e k).eoff l y
  | .rf t v l, cs => ∃ b o ds, cs = [.pointer (some ⟨b, o + lOff t l, none⟩)] ∧ F b ∧ RepD F w t v ds ∧ At w b o ds
  | .nilp, cs => cs = [.pointer none]
  | .fn f caps, cs => (∀ c ∈ caps, E.al c.k ∧ Steps (E.e c.k).loff c.l c.y) ∧ cs = [.func (.func f) #[] (caps.map fun c => Value.pointer (some ⟨(E.e c.k).blk, (E.e c.k).loff c.l, none⟩)).toArray]

  | .itp k, cs => E.al k ∧ (E.e k).nil = false ∧ cs = [.pointer (some ⟨(E.e k).blk, 0, none⟩)]
  | .mpp k, cs => E.al k ∧ (E.e k).nil = false ∧ cs = [.map (some (E.e k).blk)]
  | .ifd t vs, cs => (vs.all fun d => scalar d.t) = true ∧ ∃ c, cs = [.iface t (.agg c)] ∧ All (fun (d : DV) cs => RepD F w d.t d.v cs) vs c.toList
  | .ife b, cs => ∃ v, cs = [v] ∧ (match b with | true => v = .nilIface | false => ∃ t u, v = .iface t u)

abbrev RepLs (E : Env) (F : Nat → Prop) (w : World) : List L → List Value → Prop := All (RepL E F w)

def RepW (E : Env) (F : Nat → Prop) (w : World) : V → Value → Prop
  | .one (.any _), _ => True
  | .one l, v => cellOk v ∧ RepL E F w l [v]
  | .agg ls, v => ∃ cs, v = .agg cs ∧ RepLs E F w ls cs.toList
  | .tup _, _ => False

def All2 {α β : Type} (R : α → β → Prop) : List α → List β → Prop
  | [], [] => True
  | a :: r, b :: q => R a b ∧ All2 R r q
  | _, _ => False

def RepV (E : Env) (F : Nat → Prop) (w : World) : V → Value → Prop
  | .tup vs, v => ∃ xs, v = .tuple xs ∧ All2 (RepW E F w) vs xs.toList
  | x, v => RepW E F w x v

/-! Cells -/
theorem At.append {w : World} {b o : Nat} {c d : List Value} (h : At w b o (c ++ d)) : At w b o c ∧ At w b (o + c.length) d := by
  refine ⟨fun j u hj => ?_, fun j u hj => ?_⟩
  · have hl : j < c.length := (List.getElem?_eq_some_iff.1 hj).1
    exact h j u (by rw [List.getElem?_append_left hl]; exact hj)
  · have := h (c.length + j) u (by rw [List.getElem?_append_right (by omega)]; simpa using hj)
    rwa [Nat.add_assoc]
theorem At.join {w : World} {b o : Nat} {c d : List Value} (h : At w b o c) (h' : At w b (o + c.length) d) : At w b o (c ++ d) := by
  intro j u hj
  by_cases hl : j < c.length
  · rw [List.getElem?_append_left hl] at hj
    exact h j u hj
  · rw [List.getElem?_append_right (by omega)] at hj
    have := h' _ u hj
    rwa [show o + c.length + (j - c.length) = o + j by omega] at this
theorem At.nil {w : World} {b o : Nat} : At w b o [] := fun j u h => by simp at h
theorem At.one {w : World} {b o : Nat} {u : Value} (h : At w b o [u]) : w.cell? ⟨b, o, none⟩ = some u := h 0 u rfl
theorem At.of_one {w : World} {b o : Nat} {u : Value} (h : w.cell? ⟨b, o, none⟩ = some u) : At w b o [u] := by
  intro j v hj
  cases j with
  | zero => simp at hj; subst hj; exact h
  | succ j => simp at hj

theorem All.imp {α : Type} {R S : α → List Value → Prop} (h : ∀ x c, R x c → S x c) : ∀ {xs : List α} {cs : List Value}, All R xs cs → All S xs cs
  | [], _, h' => h'
  | _ :: _, _, ⟨c, d, e, hr, ht⟩ => ⟨c, d, e, h _ _ hr, ht.imp h⟩
theorem All.append {α : Type} {R : α → List Value → Prop} : ∀ {xs ys : List α} {cs ds : List Value}, All R xs cs → All R ys ds → All R (xs ++ ys) (cs ++ ds)
  | [], _, _, _, h, h' => by subst h; simpa using h'
  | _ :: _, _, _, _, ⟨c, d, e, hr, ht⟩, h' => ⟨c, d ++ _, by rw [e, List.append_assoc], hr, ht.append h'⟩
theorem All.split {α : Type} {R : α → List Value → Prop} : ∀ {xs ys : List α} {cs : List Value}, All R (xs ++ ys) cs → ∃ c d, cs = c ++ d ∧ All R xs c ∧ All R ys d
  | [], _, cs, h => ⟨[], cs, rfl, rfl, h⟩
  | _ :: _, _, _, ⟨c, d, e, hr, ht⟩ => by
    obtain ⟨c', d', e', h1, h2⟩ := ht.split
    exact ⟨c ++ c', d', by rw [e, e', List.append_assoc], ⟨c, c', rfl, hr, h1⟩, h2⟩
theorem All.one {α : Type} {R : α → List Value → Prop} {x : α} {cs : List Value} : All R [x] cs ↔ R x cs := by
  constructor
  · rintro ⟨c, d, e, hr, ht⟩
    rw [ht, List.append_nil] at e
    rw [e]; exact hr
  · intro h; exact ⟨cs, [], by simp, h, rfl⟩
theorem All.len {α : Type} {R : α → List Value → Prop} {n : Nat} (h : ∀ x c, R x c → c.length = n) : ∀ {xs : List α} {cs : List Value}, All R xs cs → cs.length = xs.length * n
  | [], _, h' => by subst h'; simp
  | _ :: _, _, ⟨c, d, e, hr, ht⟩ => by
    rw [e, List.length_append, h _ _ hr, ht.len h, List.length_cons, Nat.succ_mul, Nat.add_comm]
theorem All.mem {α : Type} {R : α → List Value → Prop} {p : Value → Prop} (h : ∀ x c, R x c → ∀ u ∈ c, p u) : ∀ {xs : List α} {cs : List Value}, All R xs cs → ∀ u ∈ cs, p u
  | [], _, h' => by subst h'; simp
  | _ :: _, _, ⟨c, d, e, hr, ht⟩ => by
    intro u hu
    rw [e, List.mem_append] at hu
    exact hu.elim (h _ _ hr u) (ht.mem h u)
/-- The i-th of rows of one length. -/
theorem All.get {α : Type} {R : α → List Value → Prop} {n : Nat} (h : ∀ x c, R x c → c.length = n) : ∀ {xs : List α} {cs : List Value} {i : Nat} {x : α}, All R xs cs → xs[i]? = some x →
    ∃ c d e, cs = c ++ (d ++ e) ∧ c.length = i * n ∧ R x d
  | [], _, _, _, _, hx => by simp at hx
  | y :: r, _, 0, x, ⟨c, d, e, hr, ht⟩, hx => by
    simp at hx; subst hx
    exact ⟨[], c, d, by simpa using e, by simp, hr⟩
  | y :: r, _, i + 1, x, ⟨c, d, e, hr, ht⟩, hx => by
    simp at hx
    obtain ⟨c', d', e', h1, h2, h3⟩ := ht.get h hx
    exact ⟨c ++ c', d', e', by rw [e, h1, List.append_assoc], by rw [List.length_append, h _ _ hr, h2, Nat.succ_mul, Nat.add_comm], h3⟩
/-- The i-th exchanged. -/
theorem All.set {α : Type} {R : α → List Value → Prop} {n : Nat} (h : ∀ x c, R x c → c.length = n) : ∀ {xs : List α} {cs : List Value} {i : Nat} {y : α} {d' : List Value}, All R xs cs → i < xs.length → R y d' →
    ∃ c d e, cs = c ++ (d ++ e) ∧ c.length = i * n ∧ d.length = n ∧ All R (xs.set i y) (c ++ (d' ++ e))
  | [], _, _, _, _, _, hi, _ => by simp at hi
  | z :: r, _, 0, y, d', ⟨c, d, e, hr, ht⟩, _, hy => ⟨[], c, d, by simpa using e, by simp, h _ _ hr, by simpa using ⟨d', d, rfl, hy, ht⟩⟩
  | z :: r, _, i + 1, y, d', ⟨c, d, e, hr, ht⟩, hi, hy => by
    obtain ⟨c', d1, e', h1, h2, h3, h4⟩ := ht.set h (by simpa using hi) hy
    exact ⟨c ++ c', d1, e', by rw [e, h1, List.append_assoc], by rw [List.length_append, h _ _ hr, h2, Nat.succ_mul, Nat.add_comm], h3, by
      simp only [List.set_cons_succ]
      exact ⟨c, c' ++ (d' ++ e'), by rw [List.append_assoc], hr, h4⟩⟩

theorem RepD_len {F : Nat → Prop} {w : World} : ∀ {t : Ty} {v : Den t} {cs : List Value}, RepD F w t v cs → cs.length = t.sz
  | .int _, _, _, h => by rw [RepD] at h; subst h; rfl
  | .bool, _, _, h => by rw [RepD] at h; subst h; rfl
  | .str, _, _, h => by rw [RepD] at h; subst h; rfl
  | .unit, _, _, h => by rw [RepD] at h; subst h; rfl
  | .nl, _, _, h => by rw [RepD] at h; subst h; rfl
  | .pair a b, _, _, h => by
    rw [RepD] at h
    obtain ⟨c, d, rfl, h1, h2⟩ := h
    rw [List.length_append, RepD_len h1, RepD_len h2]; rfl
  | .ar n a, v, _, h => by
    rw [RepD] at h
    rw [h.2.len (fun x c => RepD_len), h.1]; rfl
  | .sl a, _, _, h => by
    rw [RepD] at h
    obtain ⟨ad, cap, rfl, _⟩ := h
    rfl
theorem RepD_ok {F : Nat → Prop} {w : World} : ∀ {t : Ty} {v : Den t} {cs : List Value}, RepD F w t v cs → ∀ u ∈ cs, cellOk u
  | .int _, _, _, h => by rw [RepD] at h; subst h; simp [cellOk]
  | .bool, _, _, h => by rw [RepD] at h; subst h; simp [cellOk]
  | .str, _, _, h => by rw [RepD] at h; subst h; simp [cellOk]
  | .unit, _, _, h => by rw [RepD] at h; subst h; simp
  | .nl, _, _, h => by rw [RepD] at h; subst h; simp [cellOk]
  | .pair a b, _, _, h => by
    rw [RepD] at h
    obtain ⟨c, d, rfl, h1, h2⟩ := h
    intro u hu
    rw [List.mem_append] at hu
    exact hu.elim (RepD_ok h1 u) (RepD_ok h2 u)
  | .ar n a, v, _, h => by
    rw [RepD] at h
    exact h.2.mem (fun x c hc => RepD_ok hc)
  | .sl a, _, _, h => by
    rw [RepD] at h
    obtain ⟨ad, cap, rfl, _⟩ := h
    simp [cellOk]

/-- From one memory to a later one: keys stay, what may not turn stays. -/
structure Ext (E : Env) (F : Nat → Prop) (w : World) (E' : Env) (F' : Nat → Prop) (w' : World) : Prop where
  al : ∀ k, E.al k → E'.al k
  e : ∀ k, E.al k → E'.e k = E.e k
  fz : ∀ b, F b → F' b
  wd : ∀ b, F b → ∀ o u, w.cell? ⟨b, o, none⟩ = some u → w'.cell? ⟨b, o, none⟩ = some u

theorem Ext.refl (E : Env) (F : Nat → Prop) (w : World) : Ext E F w E F w := ⟨fun _ h => h, fun _ _ => rfl, fun _ h => h, fun _ _ _ _ h => h⟩
theorem Ext.trans {E E' E'' : Env} {F F' F'' : Nat → Prop} {w w' w'' : World} (h : Ext E F w E' F' w') (h' : Ext E' F' w' E'' F'' w'') : Ext E F w E'' F'' w'' :=
  ⟨fun k hk => h'.al k (h.al k hk), fun k hk => (h'.e k (h.al k hk)).trans (h.e k hk), fun b hb => h'.fz b (h.fz b hb), fun b hb o u hu => h'.wd b (h.fz b hb) o u (h.wd b hb o u hu)⟩

section
variable {E E' : Env} {F F' : Nat → Prop} {w w' : World}
theorem RepD.ext (hF : ∀ b, F b → F' b) (hw : ∀ b, F b → ∀ o u, w.cell? ⟨b, o, none⟩ = some u → w'.cell? ⟨b, o, none⟩ = some u) : ∀ {t : Ty} {v : Den t} {cs : List Value}, RepD F w t v cs → RepD F' w' t v cs
  | .int _, _, _, h => by rw [RepD] at h ⊢; exact h
  | .bool, _, _, h => by rw [RepD] at h ⊢; exact h
  | .str, _, _, h => by rw [RepD] at h ⊢; exact h
  | .unit, _, _, h => by rw [RepD] at h ⊢; exact h
  | .nl, _, _, h => by rw [RepD] at h ⊢; exact h
  | .pair a b, _, _, h => by
    rw [RepD] at h ⊢
    obtain ⟨c, d, e, h1, h2⟩ := h
    exact ⟨c, d, e, RepD.ext hF hw h1, RepD.ext hF hw h2⟩
  | .ar n a, v, _, h => by
    rw [RepD] at h ⊢
    exact ⟨h.1, h.2.imp fun x c hc => RepD.ext hF hw hc⟩
  | .sl a, _, _, h => by
    rw [RepD] at h ⊢
    obtain ⟨ad, cap, e, hl, hh⟩ := h
    refine ⟨ad, cap, e, hl, hh.imp id ?_⟩
    rintro ⟨b, o, ds, h1, h2, h3, h4⟩
    exact ⟨b, o, ds, h1, hF b h2, h3.imp fun x c hc => RepD.ext hF hw hc, fun j u hj => hw b h2 _ _ (h4 j u hj)⟩
theorem RepL.ext (h : Ext E F w E' F' w') {l : L} {cs : List Value} (hr : RepL E F w l cs) : RepL E' F' w' l cs := by
  cases l with
  | any n => exact hr
  | dat t v => exact RepD.ext h.fz h.wd hr
  | nn t v => exact ⟨RepD.ext h.fz h.wd hr.1, hr.2⟩
  | nils => exact hr
  | nl => exact hr
  | cst k => obtain ⟨ha, hr⟩ := hr; exact ⟨h.al k ha, by rw [h.e k ha]; exact hr⟩
  | oh k n i sz y => obtain ⟨ha, hr⟩ := hr; exact ⟨h.al k ha, by rw [h.e k ha]; exact hr⟩
  | own k => obtain ⟨ha, hr⟩ := hr; exact ⟨h.al k ha, by rw [h.e k ha]; exact hr⟩
  | suf k off => obtain ⟨ha, hr⟩ := hr; exact ⟨h.al k ha, by rw [h.e k ha]; exact hr⟩
  | mid k off n => obtain ⟨ha, hr⟩ := hr; exact ⟨h.al k ha, by rw [h.e k ha]; exact hr⟩
  | sla k l m off n => obtain ⟨ha, hr⟩ := hr; exact ⟨h.al k ha, by rw [h.e k ha]; exact hr⟩
  | ptr k l y => obtain ⟨ha, hr⟩ := hr; exact ⟨h.al k ha, by rw [h.e k ha]; exact hr⟩
  | pta k l n i => obtain ⟨ha, hr⟩ := hr; exact ⟨h.al k ha, by rw [h.e k ha]; exact hr⟩
  | pte k i l y => obtain ⟨ha, hr⟩ := hr; exact ⟨h.al k ha, by rw [h.e k ha]; exact hr⟩
  | rf t v l =>
    obtain ⟨b, o, ds, h1, h2, h3, h4⟩ := hr
    exact ⟨b, o, ds, h1, h.fz b h2, RepD.ext h.fz h.wd h3, fun j u hj => h.wd b h2 _ _ (h4 j u hj)⟩
  | nilp => exact hr
  | fn f caps =>
    obtain ⟨ha, hr⟩ := hr
    refine ⟨fun c hc => ⟨h.al _ (ha c hc).1, by rw [h.e _ (ha c hc).1]; exact (ha c hc).2⟩, hr.trans ?_⟩
    congr 3
    apply List.map_congr_left
    intro c hc
    rw [h.e _ (ha c hc).1]
  | itp k => obtain ⟨ha, hr⟩ := hr; exact ⟨h.al k ha, by rw [h.e k ha]; exact hr⟩
  | mpp k => obtain ⟨ha, hr⟩ := hr; exact ⟨h.al k ha, by rw [h.e k ha]; exact hr⟩
  | ifd t vs => obtain ⟨hs, c, e, hr⟩ := hr; exact ⟨hs, c, e, hr.imp fun _ _ hc => RepD.ext h.fz h.wd hc⟩
  | ife b => exact hr
theorem RepLs.ext (h : Ext E F w E' F' w') {ls : List L} {cs : List Value} (hr : RepLs E F w ls cs) : RepLs E' F' w' ls cs := hr.imp fun _ _ hc => hc.ext h
theorem RepW.ext (h : Ext E F w E' F' w') {x : V} {v : Value} (hr : RepW E F w x v) : RepW E' F' w' x v := by
  cases x with
  | one l => cases l <;> first | trivial | exact ⟨hr.1, RepL.ext h hr.2⟩
  | agg ls => obtain ⟨cs, e, hr⟩ := hr; exact ⟨cs, e, RepLs.ext h hr⟩
  | tup vs => exact hr
theorem All2.imp {α β : Type} {R S : α → β → Prop} (h : ∀ a b, R a b → S a b) : ∀ {xs : List α} {ys : List β}, All2 R xs ys → All2 S xs ys
  | [], [], _ => trivial
  | _ :: _, _ :: _, h' => ⟨h _ _ h'.1, h'.2.imp h⟩
  | [], _ :: _, h' => h'.elim
  | _ :: _, [], h' => h'.elim
theorem RepV.ext (h : Ext E F w E' F' w') {x : V} {v : Value} (hr : RepV E F w x v) : RepV E' F' w' x v := by
  cases x with
  | one l => exact RepW.ext (x := .one l) h hr
  | agg ls => exact RepW.ext (x := .agg ls) h hr
  | tup vs => obtain ⟨xs, e, hr⟩ := hr; exact ⟨xs, e, hr.imp fun _ _ => RepW.ext h⟩

theorem RepL_len {l : L} {cs : List Value} (h : RepL E F w l cs) : cs.length = l.size := by
  cases l <;> simp only [RepL] at h
  case any n => exact h.1
  case dat t v => exact RepD_len h
  case nn t v => obtain ⟨_, b, n, c, rfl⟩ := h; rfl
  case nils => rw [h]; rfl
  case nl => obtain ⟨c, rfl⟩ := h; rfl
  case cst k => rw [h.2.1]; rfl
  case oh k n i sz y => rw [h.2.1]; rfl
  case own k => obtain ⟨_, _, a, rfl, _⟩ := h; rfl
  case suf k off => obtain ⟨_, _, _, a, rfl, _⟩ := h; rfl
  case mid k off n => obtain ⟨_, _, a, rfl, _⟩ := h; rfl
  case sla k l m off n => obtain ⟨_, _, a, c, rfl, _⟩ := h; rfl
  case ptr k l y => rw [h.2.1]; rfl
  case pta k l n i => rw [h.2.2]; rfl
  case pte k i l y => rw [h.2.2.1]; rfl
  case rf t v l => obtain ⟨b, o, ds, rfl, _⟩ := h; rfl
  case nilp => rw [h]; rfl
  case fn f caps => rw [h.2]; rfl
  case itp k => rw [h.2.2]; rfl
  case mpp k => rw [h.2.2]; rfl
  case ifd t vs => obtain ⟨_, c, rfl, _⟩ := h; rfl
  case ife b => obtain ⟨v, rfl, _⟩ := h; rfl
theorem RepL_ok {l : L} {cs : List Value} (h : RepL E F w l cs) : ∀ u ∈ cs, cellOk u := by
  cases l <;> simp only [RepL] at h
  case any n => exact h.2
  case dat t v => exact RepD_ok h
  case nn t v => exact RepD_ok h.1
  case nils => rw [h]; simp [cellOk]
  case nl => obtain ⟨c, rfl⟩ := h; simp [cellOk]
  case cst k => rw [h.2.1]; simpa using h.2.2
  case oh k n i sz y => obtain ⟨_, e, a, m, c, e2, _⟩ := h; rw [e, e2]; simp [cellOk]
  case own k => obtain ⟨_, _, a, rfl, _⟩ := h; simp [cellOk]
  case suf k off => obtain ⟨_, _, _, a, rfl, _⟩ := h; simp [cellOk]
  case mid k off n => obtain ⟨_, _, a, rfl, _⟩ := h; simp [cellOk]
  case sla k l m off n => obtain ⟨_, _, a, c, rfl, _⟩ := h; simp [cellOk]
  case ptr k l y => rw [h.2.1]; simp [cellOk]
  case pta k l n i => rw [h.2.2]; simp [cellOk]
  case pte k i l y => rw [h.2.2.1]; simp [cellOk]
  case rf t v l => obtain ⟨b, o, ds, rfl, _⟩ := h; simp [cellOk]
  case nilp => rw [h]; simp [cellOk]
  case fn f caps => rw [h.2]; simp [cellOk]
  case itp k => rw [h.2.2]; simp [cellOk]
  case mpp k => rw [h.2.2]; simp [cellOk]
  case ifd t vs => obtain ⟨_, c, rfl, _⟩ := h; simp [cellOk]
  case ife b =>
    obtain ⟨v, rfl, hv⟩ := h
    cases b with
    | true => simp only at hv; subst hv; simp [cellOk]
    | false => simp only at hv; obtain ⟨t, u, rfl⟩ := hv; simp [cellOk]
theorem sizes_sum {ls : List L} : ∀ {cs : List Value}, RepLs E F w ls cs → cs.length = (sizes ls).sum := by
  induction ls with
  | nil => intro cs h; rw [show cs = [] from h]; rfl
  | cons l r ih =>
    rintro cs ⟨c, d, rfl, h1, h2⟩
    rw [List.length_append, RepL_len h1, ih h2]; simp [sizes]
theorem RepLs_ok {ls : List L} {cs : List Value} (h : RepLs E F w ls cs) : ∀ u ∈ cs, cellOk u := h.mem fun _ _ hc => RepL_ok hc
/-- A datum's cells are its leaves'. -/
theorem RepD_unpk : ∀ {t : Ty} {v : Den t} {cs : List Value}, RepD F w t v cs → RepLs E F w (unpk t v) cs
  | .int _, _, _, h => All.one.2 h
  | .bool, _, _, h => All.one.2 h
  | .str, _, _, h => All.one.2 h
  | .unit, _, _, h => by rw [RepD] at h; exact h
  | .nl, _, _, h => All.one.2 h
  | .pair a b, _, _, h => by
    rw [RepD] at h
    obtain ⟨c, d, rfl, h1, h2⟩ := h
    exact (RepD_unpk h1).append (RepD_unpk h2)
  | .ar n a, v, _, h => All.one.2 h
  | .sl a, _, _, h => All.one.2 h
end
theorem sizes_unpk : ∀ {t : Ty} (v : Den t), sizes (unpk t v) = sizes (unpk t (zeroD t)) := by
  intro t
  induction t with
  | pair a b iha ihb =>
    intro v
    have key : ∀ (x y : List L), sizes (x ++ y) = sizes x ++ sizes y := by
      intro x y
      induction x with
      | nil => rfl
      | cons l r ih => simp [sizes, ih]
    simp only [unpk, zeroD]
    rw [key, key, iha, ihb v.2]
  | _ => intro v; rfl
end Go.Proofs.Zs
/- What a state says of memory; what an asking comes to; that it hangs on what it asks alone. -/
namespace Go.Proofs.Zs
open Go

theorem nthD_eq {α : Type} (d : α) : ∀ (l : List α) (n : Nat), nthD d l n = l.getD n d
  | [], _ => by simp [nthD]
  | _ :: _, 0 => by simp [nthD]
  | _ :: r, n + 1 => by simp only [nthD, nthD_eq d r n]; simp
theorem setN_eq {α : Type} : ∀ (l : List α) (n : Nat) (x : α), setN l n x = l.set n x
  | [], _, _ => rfl
  | _ :: _, 0, _ => rfl
  | _ :: r, n + 1, x => by simp only [setN, setN_eq r n x]; rfl
theorem takeN_eq {α : Type} : ∀ (n : Nat) (l : List α), takeN n l = l.take n
  | 0, _ => by simp [takeN]
  | _ + 1, [] => by simp [takeN]
  | n + 1, x :: r => by simp [takeN, takeN_eq n r]
theorem dropN_eq {α : Type} : ∀ (n : Nat) (l : List α), dropN n l = l.drop n
  | 0, _ => by simp [dropN]
  | _ + 1, [] => by simp [dropN]
  | n + 1, _ :: r => by simp [dropN, dropN_eq n r]
theorem repl_eq {α : Type} : ∀ (n : Nat) (x : α), repl n x = List.replicate n x
  | 0, _ => rfl
  | n + 1, x => by simp [repl, repl_eq n x, List.replicate_succ]
theorem bads_get : ∀ (n t : Nat), nthD bad (bads n) t = bad
  | 0, _ => rfl
  | _ + 1, 0 => rfl
  | n + 1, t + 1 => bads_get n t
theorem bads_len : ∀ n, (bads n).length = n
  | 0 => rfl
  | n + 1 => by simp [bads, bads_len n]
theorem sizes_eq : ∀ ls : List L, sizes ls = ls.map L.size
  | [] => rfl
  | l :: r => by simp [sizes, sizes_eq r]
theorem natsEq_spec : ∀ {a b : List Nat}, natsEq a b = true → a = b
  | [], [], _ => rfl
  | [], _ :: _, h => by simp [natsEq] at h
  | _ :: _, [], h => by simp [natsEq] at h
  | x :: r, y :: q, h => by
    simp only [natsEq] at h
    split at h
    · rename_i e
      rw [Nat.eq_of_beq_eq_true e, natsEq_spec h]
    · simp at h
theorem memN_spec : ∀ {k : Nat} {l : List Nat}, memN k l = true ↔ k ∈ l
  | k, [] => by simp [memN]
  | k, x :: r => by
    simp only [memN]
    split
    · rename_i e
      simp [Nat.eq_of_beq_eq_true e]
    · rename_i e
      have : ¬ k = x := fun h => by subst h; simp at e
      simp [memN_spec (l := r), this]
theorem memN_false {k : Nat} {l : List Nat} : memN k l = false ↔ k ∉ l := by
  rw [← Bool.not_eq_true, memN_spec]
theorem disj_spec : ∀ {a b : List Nat}, disj a b = true → ∀ x ∈ a, x ∉ b
  | [], _, _ => by simp
  | y :: r, b, h => by
    simp only [disj] at h
    split at h
    · simp at h
    · rename_i e
      intro x hx
      rcases List.mem_cons.1 hx with rfl | hx
      · exact memN_false.1 e
      · exact disj_spec h x hx
theorem distinct_spec : ∀ {a : List Nat}, distinct a = true → a.Nodup
  | [], _ => List.nodup_nil
  | x :: r, h => by
    simp only [distinct] at h
    split at h
    · simp at h
    · rename_i e
      exact List.nodup_cons.2 ⟨memN_false.1 e, distinct_spec h⟩

theorem lookO_putO : ∀ (l : List (Nat × Obj)) (k : Nat) (o : Obj) (k' : Nat), lookO (putO l k o) k' = if k = k' then o else lookO l k'
  | [], k, o, k' => by
    simp only [putO, lookO]
    split
    · rename_i e; rw [if_pos (Nat.eq_of_beq_eq_true e)]
    · rename_i e; rw [if_neg (fun h => by subst h; simp at e)]
  | p :: r, k, o, k' => by
    simp only [putO]
    split
    · rename_i e
      have e := Nat.eq_of_beq_eq_true e
      subst e
      simp only [lookO]
      split
      · rename_i e; rw [if_pos (Nat.eq_of_beq_eq_true e)]
      · rename_i e; rw [if_neg (fun h => by subst h; simp at e)]
    · rename_i e
      simp only [lookO]
      split
      · rename_i e'
        have e' := Nat.eq_of_beq_eq_true e'
        rw [if_neg (fun h => by subst h; subst e'; simp at e)]
      · exact lookO_putO r k o k'

/-! Objects and memory -/
def unfr (w : World) (b n : Nat) : Prop := ∀ o, o < n → w.frozen? ⟨b, o, none⟩ = false

def RepArr (F : Nat → Prop) (w : World) (e : EI) (t : Ty) (xs : List (Den t)) (ro : Bool) : Prop :=
  List.length xs = e.len ∧ e.len ≤ e.cap ∧ e.esz = t.sz ∧ (∀ l, e.eoff l = lOff t l) ∧ (e.nil = true → e.cap = 0) ∧
      (e.nil = false → ∃ cs u fr ds, w.heap[e.blk]? = some (.cells cs u fr) ∧ e.base + e.cap * e.esz ≤ cs.size ∧ All (fun x c => RepD F w t x c) xs ds ∧ At w e.blk e.base ds ∧
        (ro = false → ¬ F e.blk ∧ unfr w e.blk cs.size) ∧ (ro = true → F e.blk))

/-- A box's cells, in their block. -/
def BoxAt (w : World) (e : EI) (t : TypeId) (cs : List Value) : Prop := ∃ ds fr, w.heap[e.blk]? = some (.cells ds t fr) ∧ ds.toList = e.pre ++ (cs ++ e.post) ∧ unfr w e.blk ds.size

/-- What a string's walk, a map say of memory. -/
def EntOk (F : Nat → Prop) (w : World) (t : Ty) (p : ByteArray × Den t) (m : MapEntry) : Prop := m.key = .string p.1 ∧ RepD F w t p.2 [m.val]
def RawAt (F : Nat → Prop) (w : World) (b : Nat) : Raw → Prop
  | .it s p => 0 ≤ p ∧ w.heap[b]? = some (.stringIter s p.toNat)
  | .mp t es => scalar t = true ∧ ∃ l c, w.heap[b]? = some (.map l c) ∧ All2 (EntOk F w t) es l.toList
def RepO (E : Env) (F : Nat → Prop) (w : World) (e : EI) : Obj → Prop
  | .dead => True
  | .box ls => ∃ cs t, BoxAt w e t cs ∧ RepLs E F w ls cs ∧ ¬ F e.blk ∧
      ∀ i, i ≤ ls.length → e.loff i = e.pre.length + ((sizes ls).take i).sum
  | .arr t xs ro => RepArr F w e t xs ro
  | .raw r => e.nil = false ∧ ¬ F e.blk ∧ RawAt F w e.blk r

def Obj.live : Obj → Prop
  | .dead => False
  | _ => True

/-- It alone has its block. -/
def excl (e : EI) : Obj → Prop
  | .box _ => True
  | .arr _ _ false => e.nil = false
  | .raw _ => True
  | _ => False

/-- What is the same throughout a call: the blocks that were handed over; those that may be kept; the world it began in. -/
structure Frm where
  O : Nat → Prop
  F0 : Nat → Prop
  w0 : World
  nb : Nat
  e0 : Nat → EI

structure Mem (C : Frm) (A : Nat → Prop) (E : Env) (F : Nat → Prop) (ob : List (Nat × Obj)) (w : World) : Prop where
  lv : ∀ k, (lookO ob k).live → E.al k
  rp : ∀ k, RepO E F w (E.e k) (lookO ob k)
  inj : ∀ k k', excl (E.e k) (lookO ob k) → excl (E.e k') (lookO ob k') → (E.e k).blk = (E.e k').blk → k = k'
  al : ∀ k, E.al k → A k
  fb : ∀ b, F b → b < w.heap.size
  f0 : ∀ b, C.F0 b → F b
  kp : ∀ b, b < C.w0.heap.size → ¬ C.O b → w.heap[b]? = C.w0.heap[b]?
  uf : ∀ b, F b → C.F0 b ∨ C.O b ∨ C.w0.heap.size ≤ b
  uo : ∀ k, excl (E.e k) (lookO ob k) → C.O (E.e k).blk ∨ C.w0.heap.size ≤ (E.e k).blk
  sz : C.w0.heap.size ≤ w.heap.size
  os : w.os = C.w0.os
  tape : w.tape = C.w0.tape
  output : w.output = C.w0.output
  eo : ∀ k, k < C.nb → E.al k ∧ E.e k = C.e0 k

structure Tms (E : Env) (F : Nat → Prop) (tm : List V) (a : Act) (w : World) : Prop where
  at_ : ∀ t, RepV E F w (nthD bad tm t) (a.tmps.getD t undef)
  tl : tm.length = a.tmps.size
  df : a.defers = []

/-- A state, and the machine's. -/
def Rel (C : Frm) (A : Nat → Prop) (s : St) (a : Act) (w : World) : Prop := ∃ E F, Mem C A E F s.ob w ∧ Tms E F s.tm a w

/-- A frame whose memory has what is laid. -/
structure FrmOk (P : Program) (C : Frm) : Prop where
  ld : Laid P C.F0 C.w0
  lt : ∀ b, C.F0 b → b < C.w0.heap.size
  no : ∀ b, C.F0 b → ¬ C.O b
theorem Mem.laid {P : Program} {C : Frm} {A : Nat → Prop} {E : Env} {F : Nat → Prop} {ob : List (Nat × Obj)} {w : World} (h : Mem C A E F ob w) (hC : FrmOk P C) : Laid P F w :=
  hC.ld.mono h.f0 fun b hb => h.kp b (hC.lt b hb) (hC.no b hb)
theorem Mem.mono {C : Frm} {A A' : Nat → Prop} {E : Env} {F : Nat → Prop} {ob : List (Nat × Obj)} {w : World} (h : Mem C A E F ob w) (hA : ∀ k, A k → A' k) : Mem C A' E F ob w :=
  ⟨h.lv, h.rp, h.inj, fun k hk => hA k (h.al k hk), h.fb, h.f0, h.kp, h.uf, h.uo, h.sz, h.os, h.tape, h.output, h.eo⟩
theorem Mem.same {C : Frm} {A : Nat → Prop} {E : Env} {F : Nat → Prop} {ob ob' : List (Nat × Obj)} {w : World} (h : Mem C A E F ob w) (ho : ∀ k, lookO ob' k = lookO ob k) : Mem C A E F ob' w :=
  ⟨fun k => by rw [ho]; exact h.lv k, fun k => by rw [ho]; exact h.rp k, fun k k' => by rw [ho, ho]; exact h.inj k k', h.al, h.fb, h.f0, h.kp, h.uf, fun k => by rw [ho]; exact h.uo k, h.sz, h.os, h.tape, h.output, h.eo⟩
theorem Tms.ext {E E' : Env} {F F' : Nat → Prop} {w w' : World} {tm : List V} {a : Act} (h : Tms E F tm a w) (hx : Ext E F w E' F' w') : Tms E' F' tm a w' :=
  ⟨fun t => (h.at_ t).ext hx, h.tl, h.df⟩
theorem RepV_bad {E : Env} {F : Nat → Prop} {w : World} {v : Value} : RepV E F w bad v := by simp [bad, RepV, RepW]
theorem Tms.put {E : Env} {F : Nat → Prop} {w : World} {tm : List V} {a : Act} (h : Tms E F tm a w) (d : Nat) {x : V} {v : Value} (hx : RepV E F w x v) : Tms E F (setN tm d x) (a.put (some d) v) w := by
  refine ⟨fun t => ?_, ?_, h.df⟩
  · simp only [Act.put, nthD_eq, setN_eq]
    by_cases e : d = t
    · subst e
      by_cases hl : d < tm.length
      · rw [List.getD_eq_getElem?_getD, List.getElem?_set_self hl, Option.getD_some]
        have : d < a.tmps.size := by rw [← h.tl]; exact hl
        simpa [Array.getD, this] using hx
      · rw [List.getD_eq_getElem?_getD, List.getElem?_eq_none (by simpa using hl), Option.getD_none]
        exact RepV_bad
    · have := h.at_ t
      rw [nthD_eq] at this
      rw [List.getD_eq_getElem?_getD, List.getElem?_set_ne e, ← List.getD_eq_getElem?_getD]
      rw [Array.getD_eq_getD_getElem?, Array.getElem?_setIfInBounds_ne e, ← Array.getD_eq_getD_getElem?]
      exact this
  · simp [Act.put, setN_eq, h.tl]
theorem Tms.put_none {E : Env} {F : Nat → Prop} {w : World} {tm : List V} {a : Act} (h : Tms E F tm a w) (v : Value) : Tms E F tm (a.put none v) w := h

/-! What an asking comes to -/
inductive RdE (ok : Nat → List DV → List DV → Prop) {α : Type} : Rd α → St → α → List Loc → Prop
  | ret (a : α) (s : St) : RdE ok (.ret a) s a []
  | get {l : Loc} {k : Cn → Rd α} {s : St} {a : α} {ls : List Loc} : RdE ok (k (look s l)) s a ls → RdE ok (.get l k) s a (l :: ls)
  | thn {t e : Rd α} {s : St} {a : α} {ls : List Loc} : RdE ok t s a ls → RdE ok (.ite true t e) s a ls
  | els {t e : Rd α} {s : St} {a : α} {ls : List Loc} : RdE ok e s a ls → RdE ok (.ite false t e) s a ls
  | call {f : Nat} {p q : List DV} {g : List DV → Rd α} {s : St} {a : α} {ls : List Loc} : ok f p q → RdE ok (g q) s a ls → RdE ok (.call f p g) s a ls

/-- A table of calls tells but what may be told. -/
def CTok (ok : Nat → List DV → List DV → Prop) (ct : CT) : Prop := ∀ f p K r, ct f p K = some r → ∃ q, ok f p q ∧ K q = some r

theorem rdRun_ev {ok : Nat → List DV → List DV → Prop} {ct : CT} (hct : CTok ok ct) {α : Type} : ∀ {m : Rd α} {s : St} {ls : List Loc} {k : α → List Loc → Option Rs} {r : Rs},
    rdRun ct m s ls k = some r → ∃ a rd, RdE ok m s a rd ∧ k a (rd.reverse ++ ls) = some r := by
  intro m
  induction m with
  | ret a => intro s ls k r h; exact ⟨a, [], .ret a s, h⟩
  | fail => intro s ls k r h; simp [rdRun] at h
  | get l g ih =>
    intro s ls k r h
    obtain ⟨a, rd, h1, h2⟩ := ih _ h
    exact ⟨a, l :: rd, .get h1, by simpa using h2⟩
  | ite b t e iht ihe =>
    intro s ls k r h
    cases b with
    | true =>
      obtain ⟨a, rd, h1, h2⟩ := iht h
      exact ⟨a, rd, .thn h1, h2⟩
    | false =>
      obtain ⟨a, rd, h1, h2⟩ := ihe h
      exact ⟨a, rd, .els h1, h2⟩
  | call f p g ih =>
    intro s ls k r h
    obtain ⟨q, h1, h2⟩ := hct _ _ _ _ h
    obtain ⟨a, rd, h3, h4⟩ := ih _ h2
    exact ⟨a, rd, .call h1 h3, h4⟩

/-- It hangs on what it asks alone. -/
theorem RdE.local {ok : Nat → List DV → List DV → Prop} {α : Type} {m : Rd α} {s : St} {a : α} {rd : List Loc} (h : RdE ok m s a rd) {s' : St} (hs : ∀ l ∈ rd, look s' l = look s l) : RdE ok m s' a rd := by
  induction h with
  | ret a s => exact .ret a s'
  | get _ ih =>
    refine .get ?_
    rw [hs _ (by simp)]
    exact ih fun l hl => hs l (by simp [hl])
  | thn _ ih => exact .thn (ih hs)
  | els _ ih => exact .els (ih hs)
  | call hq _ ih => exact .call hq (ih hs)

section
variable {ok : Nat → List DV → List DV → Prop} {α : Type} {s : St} {a : α}
/-- Whatever was asked. -/
def Ev (ok : Nat → List DV → List DV → Prop) {α : Type} (m : Rd α) (s : St) (a : α) : Prop := ∃ rd, RdE ok m s a rd
theorem Ev.ret {x : α} (h : Ev ok (.ret x) s a) : a = x := by obtain ⟨_, h⟩ := h; cases h; rfl
theorem Ev.fail (h : Ev ok (.fail : Rd α) s a) : False := by obtain ⟨_, h⟩ := h; cases h
theorem Ev.get {l : Loc} {k : Cn → Rd α} (h : Ev ok (.get l k) s a) : Ev ok (k (look s l)) s a := by obtain ⟨_, h⟩ := h; cases h with | get h => exact ⟨_, h⟩
theorem Ev.ite {b : Bool} {t e : Rd α} (h : Ev ok (.ite b t e) s a) : (b = true ∧ Ev ok t s a) ∨ (b = false ∧ Ev ok e s a) := by
  obtain ⟨_, h⟩ := h
  cases h with
  | thn h => exact .inl ⟨rfl, _, h⟩
  | els h => exact .inr ⟨rfl, _, h⟩
theorem Ev.call {f : Nat} {p : List DV} {g : List DV → Rd α} (h : Ev ok (.call f p g) s a) : ∃ q, ok f p q ∧ Ev ok (g q) s a := by
  obtain ⟨_, h⟩ := h
  cases h with
  | call hq h => exact ⟨_, hq, _, h⟩
end
end Go.Proofs.Zs
