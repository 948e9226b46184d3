import Derived.Test.YtnhgipdlkcdeiaaDoorEnhH
import Derived.OpenShut
import Derived.ChangeArms
import Derived.Below
import Derived.Test.YtnhgipdlkcdeiaaDoorEnhS
set_option linter.unusedSimpArgs false
set_option linter.unusedVariables false
/- What a row's open arguments read as, as plain data; a law's call. -/
set_option linter.unusedVariables false
set_option linter.unusedSimpArgs false
namespace Go.Proofs.Zs
open Go

/-- Plain data that fits its type. -/
def wf : (t : Ty) → Den t → Prop
  | .int k, v => (Lit.int k v).wf = true
  | .bool, _ => True
  | .str, s => ByteArray.size s ≤ maxLen
  | .unit, _ => True
  | .nl, _ => True
  | .pair a b, v => wf a v.1 ∧ wf b v.2
  | .ar n a, v => List.length v = n ∧ ∀ x ∈ v, wf a x
  | .sl a, v => List.length v ≤ maxLen ∧ ∀ x ∈ v, wf a x
noncomputable def isFs (P : Program) (chk : TypeId → Ty → Bool) : List Field → Ty → Nat → Bool
  | [], .unit, _ => true
  | f :: r, .pair a b, o => Nat.beq f.offset o && (Nat.beq (P.cellsOf f.type) a.sz && (chk f.type a && isFs P chk r b (o + a.sz)))
  | _, _, _ => false
/-- A type's values are plain data of this type. -/
noncomputable def isTy (P : Program) : Nat → TypeId → Ty → Bool
  | 0, _, _ => false
  | n + 1, t, T => match P.underlying t, T with
    | some .bool, .bool => true
    | some (.int k), .int k' => decide (k = k')
    | some .string, .str => true
    | some (.slice e), .sl a => Nat.beq (P.cellsOf e) a.sz && (Nat.blt 0 a.sz && isTy P n e a)
    | some (.array m e), .ar m' a => Nat.beq m m' && (Nat.beq (P.cellsOf e) a.sz && (Nat.beq (P.cellsOf t) (m * a.sz) && isTy P n e a))
    | some (.struct fs), T => Nat.beq (P.cellsOf t) T.sz && isFs P (isTy P n) fs.toList T 0
    | _, _ => false
section
variable {H : Type} {enc : TypeId × Value → H} {P : Program} {w : World}
theorem cells_at {a : Addr} {k m : Nat} {row : List Value} (h : w.cells? 0 (a.add k) m = some row) : row.length = m ∧ ∀ j, j < m → w.cell? ((a.add k).add j) = row[j]? := by
  unfold World.cells? at h
  rw [if_pos (Nat.zero_le _)] at h
  refine ⟨by simpa using mapM_some_length h, fun j hj => ?_⟩
  exact mapM_some_get h j j (by simp [hj])
theorem spot_none {a : Addr} {u : Value} (h : w.cell? a = some u) : a.spot = none ∧ a.block < w.heap.size := by
  unfold World.cell? at h
  split at h
  · rename_i c t fr hb
    split at h
    · simp at h
    · rename_i hs
      exact ⟨by cases hq : a.spot with
        | none => rfl
        | some x => rw [hq] at hs; simp at hs, (Array.getElem?_eq_some_iff.1 hb).1⟩
  · simp at h
theorem All_snoc {α : Type} {R : α → List Value → Prop} {xs : List α} {ds : List Value} {x : α} {c : List Value} (h : All R xs ds) (hx : R x c) : All R (xs ++ [x]) (ds ++ c) :=
  h.append ⟨c, [], by simp, hx, rfl⟩
theorem rows_rep {T : Ty} {a : Addr} {len : Nat} (hsz : 0 < T.sz) (hel : ∀ i, i < len → ∃ row v, w.cells? 0 (a.add (i * T.sz)) T.sz = some row ∧ RepD (fun b => b < w.heap.size) w T v row ∧ wf T v) :
    ∃ xs : List (Den T), xs.length = len ∧ (∀ x ∈ xs, wf T x) ∧ (xs = [] ∨ ∃ b o ds, a = ⟨b, o, none⟩ ∧ b < w.heap.size ∧ All (fun x c => RepD (fun b => b < w.heap.size) w T x c) xs ds ∧ At w b o ds) := by
  by_cases hl : len = 0
  · exact ⟨[], by simp [hl], by simp, .inl rfl⟩
  have hsp : a.spot = none ∧ a.block < w.heap.size := by
    obtain ⟨row, v, h1, _, _⟩ := hel 0 (by omega)
    obtain ⟨g1, g2⟩ := cells_at h1
    have := g2 0 hsz
    rw [List.getElem?_eq_getElem (by omega)] at this
    have := spot_none this
    simpa [Addr.add] using this
  obtain ⟨hs1, hs2⟩ := hsp
  have ha : a = ⟨a.block, a.off, none⟩ := by cases a; simp_all
  have key : ∀ k, k ≤ len → ∃ (xs : List (Den T)) (ds : List Value), xs.length = k ∧ ds.length = k * T.sz ∧ (∀ x ∈ xs, wf T x) ∧ All (fun x c => RepD (fun b => b < w.heap.size) w T x c) xs ds ∧ At w a.block a.off ds := by
    intro k
    induction k with
    | zero => intro _; exact ⟨[], [], rfl, by simp, by simp, rfl, fun j u h => by simp at h⟩
    | succ k ih =>
      intro hk
      obtain ⟨xs, ds, h1, h2, h3, h4, h5⟩ := ih (by omega)
      obtain ⟨row, v, g1, g2, g3⟩ := hel k (by omega)
      obtain ⟨r1, r2⟩ := cells_at g1
      refine ⟨xs ++ [v], ds ++ row, by simp [h1], by simp [h2, r1, Nat.succ_mul], ?_, All_snoc h4 g2, ?_⟩
      · intro x hx
        rcases List.mem_append.1 hx with hx | hx
        · exact h3 x hx
        · simp only [List.mem_singleton] at hx; subst hx; exact g3
      · refine h5.join ?_
        intro j u hj
        have hj' : j < T.sz := by rw [← r1]; exact (List.getElem?_eq_some_iff.1 hj).1
        have := r2 j hj'
        rw [ha, add_lit, add_lit, hj] at this
        rw [h2]; exact this
  obtain ⟨xs, ds, h1, h2, h3, h4, h5⟩ := key len (Nat.le_refl _)
  exact ⟨xs, h1, h3, .inr ⟨_, _, ds, ha, hs2, h4, h5⟩⟩
theorem drop_take_split {cs : List Value} {o m : Nat} (h : o + m ≤ cs.length) : cs.drop o = (cs.drop o).take m ++ cs.drop (o + m) := by
  rw [← List.drop_drop, List.take_append_drop]
theorem isFs_rep {chk : TypeId → Ty → Bool} (hc : ∀ t T cs, chk t T = true → (∃ fuel d, DataW.trod enc P w 0 (fun _ => true) true fuel t cs = some d) → ∃ v, RepD (fun b => b < w.heap.size) w T v cs ∧ wf T v) :
    ∀ (fs : List Field) (T : Ty) (o : Nat) (cs : List Value), isFs P chk fs T o = true → cs.length = o + T.sz → (∀ f ∈ fs, ∃ fuel d, DataW.trod enc P w 0 (fun _ => true) true fuel f.type ((cs.drop f.offset).take (P.cellsOf f.type)) = some d) →
      ∃ v, RepD (fun b => b < w.heap.size) w T v (cs.drop o) ∧ wf T v
  | [], .unit, o, cs, _, hl, _ => ⟨(), by rw [RepD, List.drop_of_length_le (by simp [Ty.sz] at hl; omega)], trivial⟩
  | f :: r, .pair a b, o, cs, h, hl, hf => by
    simp only [isFs, Bool.and_eq_true, Nat.beq_eq] at h
    obtain ⟨h1, h2, h3, h4⟩ := h
    simp only [Ty.sz] at hl
    obtain ⟨v, g1, g2⟩ := hc f.type a _ h3 (hf f (by simp))
    obtain ⟨u, k1, k2⟩ := isFs_rep hc r b (o + a.sz) cs h4 (by omega) (fun f' hf' => hf f' (by simp [hf']))
    refine ⟨(v, u), ?_, g2, k2⟩
    rw [RepD]
    rw [h1, h2] at g1
    exact ⟨_, _, drop_take_split (by omega), g1, k1⟩
  | [], .int _, _, _, h, _, _ => by simp [isFs] at h
  | [], .bool, _, _, h, _, _ => by simp [isFs] at h
  | [], .str, _, _, h, _, _ => by simp [isFs] at h
  | [], .pair _ _, _, _, h, _, _ => by simp [isFs] at h
  | [], .ar _ _, _, _, h, _, _ => by simp [isFs] at h
  | [], .sl _, _, _, h, _, _ => by simp [isFs] at h
  | [], .nl, _, _, h, _, _ => by simp [isFs] at h
  | _ :: _, .nl, _, _, h, _, _ => by simp [isFs] at h
  | _ :: _, .unit, _, _, h, _, _ => by simp [isFs] at h
  | _ :: _, .int _, _, _, h, _, _ => by simp [isFs] at h
  | _ :: _, .bool, _, _, h, _, _ => by simp [isFs] at h
  | _ :: _, .str, _, _, h, _, _ => by simp [isFs] at h
  | _ :: _, .ar _ _, _, _, h, _, _ => by simp [isFs] at h
  | _ :: _, .sl _, _, _, h, _, _ => by simp [isFs] at h
theorem arr_rep {T : Ty} : ∀ (n : Nat) (cs : List Value), cs.length = n * T.sz → (∀ i, i < n → ∃ v, RepD (fun b => b < w.heap.size) w T v ((cs.drop (i * T.sz)).take T.sz) ∧ wf T v) →
    ∃ xs : List (Den T), xs.length = n ∧ (∀ x ∈ xs, wf T x) ∧ All (fun x c => RepD (fun b => b < w.heap.size) w T x c) xs cs
  | 0, cs, hl, _ => ⟨[], rfl, by simp, by rw [All]; exact List.eq_nil_of_length_eq_zero (by simpa using hl)⟩
  | n + 1, cs, hl, h => by
    obtain ⟨v, h1, h2⟩ := h 0 (by omega)
    obtain ⟨xs, g1, g2, g3⟩ := arr_rep (T := T) n (cs.drop T.sz) (by simp [hl, Nat.succ_mul]) (fun i hi => by
      obtain ⟨v, k1, k2⟩ := h (i + 1) (by omega)
      refine ⟨v, ?_, k2⟩
      rw [List.drop_drop, Nat.add_comm, ← Nat.succ_mul]; exact k1)
    refine ⟨v :: xs, by simp [g1], ?_, cs.take T.sz, cs.drop T.sz, by simp, by simpa using h1, g3⟩
    intro x hx
    rcases List.mem_cons.1 hx with rfl | hx
    · exact h2
    · exact g2 x hx
theorem rep_of_trod : ∀ (n : Nat) (t : TypeId) (T : Ty) (cs : List Value), isTy P n t T = true → (∃ fuel d, DataW.trod enc P w 0 (fun _ => true) true fuel t cs = some d) → ∃ v, RepD (fun b => b < w.heap.size) w T v cs ∧ wf T v
  | 0, _, _, _, h, _ => by simp [isTy] at h
  | n + 1, t, T, cs, h, ⟨fuel, d, hd⟩ => by
    unfold isTy at h
    split at h
    · rename_i hu
      cases fuel with
      | zero => simp [DataW.trod] at hd
      | succ m =>
        unfold DataW.trod at hd
        rw [hu] at hd
        have key : ∃ b, cs = [.bool b] := by split at hd <;> simp_all
        obtain ⟨b, rfl⟩ := key
        exact ⟨b, by rw [RepD], trivial⟩
    · rename_i k k' hu
      simp only [decide_eq_true_eq] at h
      subst h
      cases fuel with
      | zero => simp [DataW.trod] at hd
      | succ m =>
        unfold DataW.trod at hd
        rw [hu] at hd
        have key : ∃ n, cs = [.int k n] ∧ (Lit.int k n).wf = true := by
          split at hd <;> simp_all
        obtain ⟨n, rfl, hn⟩ := key
        exact ⟨n, by rw [RepD], by rw [wf]; exact hn⟩
    · rename_i hu
      cases fuel with
      | zero => simp [DataW.trod] at hd
      | succ m =>
        unfold DataW.trod at hd
        rw [hu] at hd
        have key : ∃ s : ByteArray, cs = [.string s] ∧ s.size ≤ maxLen := by
          split at hd <;> simp_all
        obtain ⟨s, rfl, hn⟩ := key
        exact ⟨s, by rw [RepD], by rw [wf]; exact hn⟩
    · rename_i e a hu
      simp only [Bool.and_eq_true, Nat.beq_eq, Nat.blt_eq] at h
      obtain ⟨h1, h2, h3⟩ := h
      rcases DataW.trod_slice hu hd with ⟨rfl, _⟩ | ⟨ad, len, cap, elems, rest, m, _, rfl, _, _, hl, hm, hlen, hel, _, _⟩
      · exact ⟨[], by rw [RepD]; exact ⟨none, 0, rfl, Nat.le_refl _, .inl rfl⟩, by rw [wf]; exact ⟨Nat.zero_le _, by simp⟩⟩
      · obtain ⟨xs, g1, g2, g3⟩ := rows_rep (T := a) (a := ad) (len := len) h2 (fun i hi => by
          have := hel i hi
          rw [List.getElem?_eq_getElem (by omega), Option.bind_eq_some_iff] at this
          obtain ⟨row, k1, k2⟩ := this
          rw [h1] at k1
          obtain ⟨v, k3, k4⟩ := rep_of_trod n e a row h3 ⟨_, _, k2⟩
          exact ⟨row, v, k1, k3, k4⟩)
        refine ⟨xs, ?_, ?_⟩
        · rw [RepD]
          refine ⟨some ad, cap, by rw [g1], by rw [g1]; exact hl, ?_⟩
          rcases g3 with h | ⟨b, o, ds, e1, e2, e3, e4⟩
          · exact .inl h
          · exact .inr ⟨b, o, ds, by rw [e1], e2, e3, e4⟩
        · rw [wf]; exact ⟨by rw [g1]; exact Nat.le_trans hl hm, g2⟩
    · rename_i m e m' a hu
      simp only [Bool.and_eq_true, Nat.beq_eq] at h
      obtain ⟨rfl, h1, h2, h3⟩ := h
      obtain ⟨xs, q, _, _, k1, k2, k3⟩ := DataW.trod_array hu hd
      obtain ⟨ys, g1, g2, g3⟩ := arr_rep (w := w) (T := a) m cs (by rw [k1, h2]) (fun i hi => by
        have := k3 i hi
        rw [List.getElem?_eq_getElem (by omega), h1] at this
        exact rep_of_trod n e a _ h3 ⟨_, _, this⟩)
      exact ⟨ys, by rw [RepD]; exact ⟨g1, g3⟩, by rw [wf]; exact ⟨g1, g2⟩⟩
    · rename_i T _ _ fs hu
      simp only [Bool.and_eq_true, Nat.beq_eq] at h
      obtain ⟨xs, q, _, _, k1, k2, k3⟩ := DataW.trod_struct hu hd
      have := isFs_rep (enc := enc) (P := P) (w := w) (chk := isTy P n) (fun t T cs h1 h2 => rep_of_trod n t T cs h1 h2) fs.toList T 0 cs h.2 (by rw [k1, h.1, Nat.zero_add]) (fun f hf => by
        obtain ⟨i, hi, e⟩ := List.getElem_of_mem hf
        have hi' : i < fs.size := by simpa using hi
        have := k3 i f (by rw [Array.getElem?_eq_getElem hi']; simpa using e)
        rw [List.getElem?_eq_getElem (by omega)] at this
        exact ⟨_, _, this⟩)
      simpa using this
    · simp at h
end
/-- A law's call: one truth value, and nothing that was there is changed. -/
theorem law_calls {P : Program} {c : CS} {p : List DV} {b : Bool} (h : CallOK P c p [⟨.bool, b⟩]) (hbx : c.i.bx = []) (hr : c.r = [.one (.d .bool)]) (hob : c.ob = []) (hone : c.one = true) {w : World} {vs : List Value}
    (hL : Facts P w) (hl : vs.length = c.i.av.length) (hA : RepAs (fun _ => nilEI .unit) (fun b => b < w.heap.size) w c.i.av p [] vs) :
    Calls P c.fn vs.toArray w fun e w' => e = .returned (.bool b) ∧ RowKit.Below w.heap.size w w' := by
  have hs : SigIn c.i (fun _ => nilEI .unit) (fun b => b < w.heap.size) w p [] vs := by
    refine ⟨⟨p, [], [], [], by simp, by simp, hA, by rw [hbx]; exact .nil 0⟩, ?_, .nil, ?_, ?_⟩
    · intro i j hi; rw [hbx] at hi; simp at hi
    · intro j hj; rw [hbx] at hj; simp at hj
    · intro e he; simp at he
  refine (h.2.1 _ _ w [] vs (fun b hb => hb) hl hs (laid_all hL)).mono ?_
  rintro e w' ⟨v, F', fs, rfl, ho⟩
  obtain ⟨β', p1, p2, e1, e2, rs, _, hq, _, hA', hrl, hv, hB⟩ := ho.ex
  rw [hone] at hv
  simp only at hv
  subst hv
  rw [hr] at hA'
  rw [hob] at hB
  cases hB
  cases hA' with
  | cons a1 a2 =>
    cases a1 with
    | one h1 h2 h3 =>
      cases h3 with
      | d h4 =>
        cases a2
        simp only [List.append_nil, List.cons_append, List.nil_append, List.cons.injEq, DV.mk.injEq, heq_eq_eq, true_and, and_true] at hq
        subst hq
        rw [RepD] at h4
        simp only [List.cons.injEq, and_true] at h4
        subst h4
        refine ⟨rfl, ho.os, ho.tape, ho.output, ho.sz, fun k hk => ho.kp k hk ?_⟩
        rintro (⟨j, hj, _⟩ | ⟨e, he, _⟩)
        · rw [hbx] at hj; simp at hj
        · simp at he
end Go.Proofs.Zs
/- A row's struct arguments, leaf by leaf. -/
set_option linter.unusedVariables false
namespace Go.Proofs.Zs
open Go
section
variable {β : Nat → EI} {F : Nat → Prop} {w : World}
theorem ks_unit {cs : List Value} {v : Den .unit} (h : RepD F w .unit v cs) : RepKs β F w [] [] [] cs := by
  rw [RepD] at h; subst h; exact .nil
theorem ks_pair {a b : Ty} {v : Den (.pair a b)} {cs : List Value} {ks : List LK} {p : List DV} (h : RepD F w (.pair a b) v cs) (hr : ∀ d : List Value, RepD F w b v.2 d → RepKs β F w ks p [] d) :
    RepKs β F w (.d a :: ks) (⟨a, v.1⟩ :: p) [] cs := by
  rw [RepD] at h
  obtain ⟨c, d, rfl, h1, h2⟩ := h
  exact .cons (p := [⟨a, v.1⟩]) (es := []) (.d h1) (hr d h2)
theorem as_one {t : Ty} {x : Den t} {v : Value} {aks : List AK} {p : List DV} {vs : List Value} (hc : cellOk v) (h : RepD F w t x [v]) (hr : RepAs β F w aks p [] vs) : RepAs β F w (.one (.d t) :: aks) (⟨t, x⟩ :: p) [] (v :: vs) :=
  .cons (p := [⟨t, x⟩]) (es := []) (.one (fun _ => by simp) hc (.d h)) hr
theorem as_int {k : IntKind} {x : Int} {aks : List AK} {p : List DV} {vs : List Value} (hr : RepAs β F w aks p [] vs) : RepAs β F w (.one (.d (.int k)) :: aks) (⟨.int k, x⟩ :: p) [] (.int k x :: vs) :=
  as_one trivial (by rw [RepD]) hr
theorem as_bool {x : Bool} {aks : List AK} {p : List DV} {vs : List Value} (hr : RepAs β F w aks p [] vs) : RepAs β F w (.one (.d .bool) :: aks) (⟨.bool, x⟩ :: p) [] (.bool x :: vs) :=
  as_one trivial (by rw [RepD]) hr
theorem as_sl {t : Ty} {x : Den (.sl t)} {a : Option Addr} {n c : Nat} {aks : List AK} {p : List DV} {vs : List Value} (h : RepD F w (.sl t) x [.slice a n c]) (hr : RepAs β F w aks p [] vs) : RepAs β F w (.one (.d (.sl t)) :: aks) (⟨.sl t, x⟩ :: p) [] (.slice a n c :: vs) :=
  as_one trivial h hr
theorem as_agg {ks : List LK} {p q : List DV} {aks : List AK} {cs : Array Value} {vs : List Value} (h : RepKs β F w ks p [] cs.toList) (hr : RepAs β F w aks q [] vs) : RepAs β F w (.agg ks :: aks) (p ++ q) [] (.agg cs :: vs) :=
  .cons (es := []) (.agg h) hr
end
end Go.Proofs.Zs
/- Rows: a law's call out of its arguments' plain data. -/
set_option linter.unusedVariables false
namespace Go.Proofs.Zs
open Go
def lksOf : Ty → List LK
  | .unit => []
  | .pair a b => lksOf a ++ lksOf b
  | .int k => [.d (.int k)]
  | .bool => [.d .bool]
  | .str => [.d .str]
  | .ar n a => [.d (.ar n a)]
  | .sl a => [.d (.sl a)]
  | .nl => [.d .nl]
def dvsOf : (t : Ty) → Den t → List DV
  | .unit, _ => []
  | .pair a b, v => dvsOf a v.1 ++ dvsOf b v.2
  | .int k, v => [⟨.int k, v⟩]
  | .bool, v => [⟨.bool, v⟩]
  | .str, v => [⟨.str, v⟩]
  | .ar n a, v => [⟨.ar n a, v⟩]
  | .sl a, v => [⟨.sl a, v⟩]
  | .nl, v => [⟨.nl, v⟩]
section
variable {β : Nat → EI} {F : Nat → Prop} {w : World}
theorem ks_app {ks ks' : List LK} {p q : List DV} {es fs : List EI} {c d : List Value} (h : RepKs β F w ks p es c) (h' : RepKs β F w ks' q fs d) : RepKs β F w (ks ++ ks') (p ++ q) (es ++ fs) (c ++ d) := by
  induction h with
  | nil => exact h'
  | cons hk _ ih =>
    rw [List.cons_append, List.append_assoc, List.append_assoc, List.append_assoc]
    exact .cons hk ih
theorem ks_one {t : Ty} {v : Den t} {cs : List Value} (h : RepD F w t v cs) : RepKs β F w [.d t] [⟨t, v⟩] [] cs := by
  have := RepKs.cons (β := β) (p := [⟨t, v⟩]) (es := []) (.d h) .nil
  simpa using this
theorem ks_flat : ∀ {t : Ty} {v : Den t} {cs : List Value}, RepD F w t v cs → RepKs β F w (lksOf t) (dvsOf t v) [] cs := by
  intro t
  induction t with
  | unit => intro v cs h; exact ks_unit h
  | pair a b iha ihb =>
    intro v cs h
    rw [RepD] at h
    obtain ⟨c, d, rfl, h1, h2⟩ := h
    exact ks_app (iha h1) (ihb h2)
  | int k => intro v cs h; exact ks_one h
  | bool => intro v cs h; exact ks_one h
  | str => intro v cs h; exact ks_one h
  | ar n a => intro v cs h; exact ks_one h
  | sl a => intro v cs h; exact ks_one h
  | nl => intro v cs h; exact ks_one h
end
theorem call_of {P : Program} {c : CS} {ts us : List PG} {e : Fn' (Option Rs) ts} (h : CEok P (c, mkF ts us e)) {ys : TupG ts} {zs : TupG us} (he : apG ts e ys = some (0, dvG us zs)) : CallOK P c (dvG ts ys) (dvG us zs) := by
  obtain ⟨q, h1, h2⟩ := h (dvG ts ys) (fun q => some (0, q)) (0, dvG us zs) (by
    show mkF ts us e (dvG ts ys) _ = _
    unfold mkF
    rw [gg_dvG, apG_map, he, on1_some, gg_dvG, apG_cK])
  simp only [Option.some.injEq, Prod.mk.injEq, true_and] at h2
  rw [← h2]; exact h1
end Go.Proofs.Zs
