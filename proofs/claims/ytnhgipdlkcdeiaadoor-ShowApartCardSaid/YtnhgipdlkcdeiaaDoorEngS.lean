import Derived.Test.YtnhgipdlkcdeiaaDoorEngP
import Derived.Deep.Upon
import Derived.MapKept
import Derived.Lib.OthersKept
set_option linter.unusedSimpArgs false
set_option linter.unusedVariables false
/- Stores. -/
set_option linter.unusedVariables false
set_option linter.unusedSimpArgs false
namespace Go.Proofs.Zs
open Go

theorem splice_cons {α : Type} (x : α) (l : List α) (k : Nat) (d : List α) : splice (x :: l) (k + 1) d = x :: splice l k d := by
  simp [splice, Nat.add_right_comm]
theorem splice_set {α : Type} : ∀ (l : List α) (k : Nat) (v : α) (rest : List α), k + (rest.length + 1) ≤ l.length → splice (l.set k v) (k + 1) rest = splice l k (v :: rest)
  | [], _, _, _, h => by simp at h
  | x :: l, 0, v, rest, h => by
    simp only [List.set_cons_zero, splice_cons]
    simp [splice]
  | x :: l, k + 1, v, rest, h => by
    simp only [List.length_cons] at h
    simp only [List.set_cons_succ, splice_cons]
    rw [splice_set l k v rest (by omega)]

/-- Nothing but cells of one block. -/
structure SetW (w w' : World) (b : Nat) : Prop where
  os : w'.os = w.os
  tape : w'.tape = w.tape
  output : w'.output = w.output
  size : w'.heap.size = w.heap.size
  old : ∀ k, k ≠ b → w'.heap[k]? = w.heap[k]?
theorem SetW.refl (w : World) (b : Nat) : SetW w w b := ⟨rfl, rfl, rfl, rfl, fun _ _ => rfl⟩
theorem SetW.trans {w w' w'' : World} {b : Nat} (h : SetW w w' b) (h' : SetW w' w'' b) : SetW w w'' b :=
  ⟨h'.os.trans h.os, h'.tape.trans h.tape, h'.output.trans h.output, h'.size.trans h.size, fun k hk => (h'.old k hk).trans (h.old k hk)⟩
theorem setCell_heap {w : World} {b o : Nat} {v : Value} {cs : Array Value} {t : TypeId} {fr : Nat × Nat} (h : w.heap[b]? = some (.cells cs t fr)) : (w.setCell ⟨b, o, none⟩ v).heap[b]? = some (.cells (cs.setIfInBounds o v) t fr) := by
  simp [World.setCell, Array.getElem?_modify, h]
theorem setCell_setW (w : World) (b o : Nat) (v : Value) : SetW w (w.setCell ⟨b, o, none⟩ v) b := by
  refine ⟨rfl, rfl, rfl, by simp [World.setCell], fun k hk => ?_⟩
  simp [World.setCell, Array.getElem?_modify, Ne.symm hk]
theorem setCells_setW (b : Nat) : ∀ (vs : List Value) (o : Nat) (w : World), SetW w (w.setCells b o vs) b
  | [], _, w => SetW.refl w b
  | v :: r, o, w => (setCell_setW w b o v).trans (setCells_setW b r (o + 1) _)
theorem setCells_heap {b : Nat} {t : TypeId} {fr : Nat × Nat} : ∀ (vs : List Value) (o : Nat) (w : World) (cs : Array Value), w.heap[b]? = some (.cells cs t fr) → o + vs.length ≤ cs.size →
    ∃ cs' : Array Value, (w.setCells b o vs).heap[b]? = some (.cells cs' t fr) ∧ cs'.toList = splice cs.toList o vs ∧ cs'.size = cs.size
  | [], o, w, cs, h, _ => ⟨cs, h, by rw [splice_nil], rfl⟩
  | v :: r, o, w, cs, h, hb => by
    simp only [List.length_cons] at hb
    obtain ⟨cs', h1, h2, h3⟩ := setCells_heap r (o + 1) _ _ (setCell_heap (o := o) (v := v) h) (by simp; omega)
    refine ⟨cs', h1, ?_, by rw [h3]; simp⟩
    rw [h2]
    have := list_seg_step cs.toList o v r (by simp; omega)
    simp only [splice, Array.toList_setIfInBounds, List.length_cons]
    simpa [List.append_assoc] using this

section
variable {P : Program} {ok : Nat → List DV → List DV → Prop} {cx : Cx} {hi : Hi} {o : Oper} {C : Frm} {A : Nat → Prop} {E : Env} {F : Nat → Prop} {s : St} {a : Act} {w : World} {α : Type} {r : α} {wr : Wr}
theorem storeAt_ok {t : TypeId} {i : TI} (hT : TOk P t i) {b o : Nat} {v : Value} (hsz : v.cells.size = i.lay.sum) (h1 : ∀ u ∈ v.cells.toList, cellOk u)
    {cs : Array Value} {ty : TypeId} {fr : Nat × Nat} (hb : w.heap[b]? = some (.cells cs ty fr)) (ho : o + v.cells.size ≤ cs.size) (hf : ∀ j, j < cs.size → w.frozen? ⟨b, j, none⟩ = false) :
    (Instr.storeAt t (.pointer (some ⟨b, o, none⟩)) v).run P w = .ok () (w.setCells b o v.cells.toList) := by
  have hst := run_storeCells_cells (P := P) b o v.cells.toList 0 w (fun j hj => by
      simp only [World.cell?, hb]
      simp at hj
      simp; omega) (fun j hj => hf _ (by simp at hj; omega)) (fun u hu => cellOk_iff.1 (h1 u hu))
  rw [Nat.add_zero] at hst
  obtain ⟨f, z, f1, f2, _⟩ := hT.inf
  simp only [Instr.storeAt, Instr.sureAddr, storeVar, Sem.run_bind, Sem.run_pure, Result.andThen_ok, hT.sizeOf, hsz]
  simp [hst]
theorem apply_wrLs {k : Nat} : ∀ (vl : List L) (l : Nat) (s : St) (bl : List L), lookO s.ob k = .box bl → l + vl.length ≤ bl.length →
    (apply (wrLs k l vl) s).tm = s.tm ∧ ∀ n, lookO (apply (wrLs k l vl) s).ob n = if k = n then .box (splice bl l vl) else lookO s.ob n
  | [], l, s, bl, h, _ => ⟨rfl, fun n => by
      split
      · rename_i e; subst e; rw [splice_nil]; exact h
      · rfl⟩
  | x :: r, l, s, bl, h, hb => by
    simp only [List.length_cons] at hb
    have e1 : asg s (.lf k l) (.l x) = { s with ob := putO s.ob k (.box (bl.set l x)) } := by simp only [asg, h, setN_eq]
    simp only [wrLs, apply, e1]
    obtain ⟨h1, h2⟩ := apply_wrLs r (l + 1) { s with ob := putO s.ob k (.box (bl.set l x)) } (bl.set l x) (by simp only; rw [lookO_putO, if_pos rfl]) (by simp; omega)
    refine ⟨h1, fun n => ?_⟩
    rw [h2 n, lookO_putO]
    split
    · congr 1
      exact splice_set bl l x r hb
    · rfl
/-- What a store leaves. -/
theorem set_rel {x : V} {obj : Obj} {n : Nat} {s' : St} {wr' : Wr} {w' : World} {K : Act → World → Prop} {Q : Exit → Act → World → Prop} {key : Nat} (hw : SetW w w' (E.e n).blk)
    (hrun : (execOp a.eval o).run P w = .ok .skip w') (hwr : wr = match (motive := Option Nat → Wr) o.dst with | none => wr' | some d => wr' ++ [(.tmp d, .v bad)])
    (htm : (apply wr' s).tm = s.tm) (hob : ∀ m, lookO (apply wr' s).ob m = if n = m then obj else lookO s.ob m) (hm : Mem C A E F s.ob w) (ht : Tms E F s.tm a w)
    (hk : excl (E.e n) (lookO s.ob n)) (hlv : obj.live) (hex : excl (E.e n) obj → excl (E.e n) (lookO s.ob n)) (hrp : ∀ hx : Ext E F w E F w', RepO E F w' (E.e n) obj)
    (hK : ∀ a' w', Rel C (fun k => A k ∨ (key ≤ k ∧ k < key + stride)) (apply wr s) a' w' → K a' w') : o.wp P a w K Q := by
  unfold Oper.wp
  rw [hrun]
  show K (a.put o.dst undef) w'
  obtain ⟨m, hx⟩ := hm.write hk hw.os hw.tape hw.output hw.size hw.old hlv hex hrp
  have m := (m.same (ob' := (apply wr' s).ob) (fun k => by rw [hob, lookO_putO])).mono (A' := fun k => A k ∨ (key ≤ k ∧ k < key + stride)) fun _ h => .inl h
  have ht' : Tms E F (apply wr' s).tm a w' := by rw [htm]; exact ht.ext hx
  apply hK
  cases hd : o.dst with
  | none =>
    rw [hd] at hwr
    simp only at hwr
    subst hwr
    exact ⟨E, F, m, ht'.put_none undef⟩
  | some d =>
    rw [hd] at hwr
    simp only at hwr
    subst hwr
    rw [apply_append]
    exact ⟨E, F, m, ht'.put d RepV_bad⟩
end
end Go.Proofs.Zs
/- Stores, whole. -/
set_option linter.unusedVariables false
set_option linter.unusedSimpArgs false
namespace Go.Proofs.Zs
open Go

theorem splice_mid {α : Type} {p d q d' : List α} (h : d.length = d'.length) : splice (p ++ (d ++ q)) p.length d' = p ++ (d' ++ q) := by
  rw [splice, List.take_left', ← h, ← List.length_append, ← List.append_assoc p d q, List.drop_left']
  · rfl
  · rfl
theorem All.leaf {α : Type} {R : α → List Value → Prop} : ∀ {xs : List α} {cs : List Value} {l : Nat} {x : α}, All R xs cs → xs[l]? = some x →
    ∃ c1 c c3, cs = c1 ++ (c ++ c3) ∧ All R (xs.take l) c1 ∧ R x c ∧ ∀ x' c', R x' c' → All R (xs.set l x') (c1 ++ (c' ++ c3))
  | [], _, _, _, _, h => by simp at h
  | y :: r, _, 0, x, ⟨c, d, e, hr, ht⟩, h => by
    simp at h; subst h
    exact ⟨[], c, d, by simpa using e, rfl, hr, fun x' c' h' => by simpa using ⟨c', d, rfl, h', ht⟩⟩
  | y :: r, _, l + 1, x, ⟨c, d, e, hr, ht⟩, h => by
    simp at h
    obtain ⟨c1, c', c3, e1, h1, h2, h3⟩ := ht.leaf h
    exact ⟨c ++ c1, c', c3, by rw [e, e1, List.append_assoc], ⟨c, c1, rfl, hr, h1⟩, h2, fun x' c'' h' => ⟨c, c1 ++ (c'' ++ c3), by rw [List.append_assoc], hr, h3 x' c'' h'⟩⟩
theorem splice_in {α : Type} {p c q d : List α} {o : Nat} (h : o + d.length ≤ c.length) : splice (p ++ (c ++ q)) (p.length + o) d = p ++ (splice c o d ++ q) := by
  simp only [splice]
  rw [List.take_append, List.take_of_length_le (by omega), Nat.add_sub_cancel_left, List.take_append_of_le_length (by omega)]
  rw [List.drop_append, List.drop_of_length_le (show p.length ≤ p.length + o + d.length by omega), List.nil_append, show p.length + o + d.length - p.length = o + d.length by omega, List.drop_append_of_le_length (by omega)]
  simp
theorem unfr_cells {w w' : World} {b n : Nat} {cs cs' : Array Value} {t : TypeId} {fr : Nat × Nat} (h : w.heap[b]? = some (.cells cs t fr)) (h' : w'.heap[b]? = some (.cells cs' t fr)) (hu : unfr w b n) : unfr w' b n := by
  intro o ho
  have := hu o ho
  unfold World.frozen? at this ⊢
  simp only [h] at this
  simp only [h']
  exact this
theorem splice_one {α : Type} (ls : List α) (l : Nat) (x : α) (h : l < ls.length) : splice ls l [x] = ls.set l x := by
  simp only [splice, List.length_singleton, List.singleton_append]
  rw [List.set_eq_take_append_cons_drop, if_pos h]
theorem sizes_set {ls : List L} {l : Nat} {x y : L} (h : ls[l]? = some x) (e : y.size = x.size) : sizes (ls.set l y) = sizes ls := by
  rw [sizes_eq, sizes_eq, List.map_set, e]
  apply List.ext_getElem?
  intro i
  by_cases hi : l = i
  · subst hi
    have := (List.getElem?_eq_some_iff.1 h)
    obtain ⟨hl, he⟩ := this
    rw [List.getElem?_set_self (by simpa using hl), List.getElem?_map, List.getElem?_eq_getElem hl, he]; rfl
  · rw [List.getElem?_set_ne hi]
theorem At.set {w : World} {b base o : Nat} {ds vs : List Value} (h : At w b base ds) (hb : o + vs.length ≤ ds.length) : At (w.setCells b (base + o) vs) b base (splice ds o vs) := by
  intro j u hj
  have hc : ∀ j, j < vs.length → (w.cell? ⟨b, base + o + j, none⟩).isSome = true := fun j hj' => by
    have := h (o + j) _ (List.getElem?_eq_getElem (by omega))
    rw [Nat.add_assoc, this]; rfl
  simp only [splice] at hj
  by_cases h1 : j < o
  · rw [World.cell?_setCells_out b vs (base + o) w ⟨b, base + j, none⟩ (fun _ _ => .inl (by simp; omega))]
    rw [List.getElem?_append_left (by simp; omega), List.getElem?_take, if_pos h1] at hj
    exact h j u hj
  · have hl : (ds.take o).length = o := by simp; omega
    rw [List.getElem?_append_right (by omega), hl] at hj
    by_cases h2 : j - o < vs.length
    · rw [List.getElem?_append_left h2] at hj
      obtain ⟨hj', e⟩ := List.getElem?_eq_some_iff.1 hj
      have := World.cell?_setCells_in b vs (base + o) w hc (j - o) hj'
      rw [show base + o + (j - o) = base + j by omega, e] at this
      exact this
    · rw [World.cell?_setCells_out b vs (base + o) w ⟨b, base + j, none⟩ (fun _ _ => .inr (by simp; omega))]
      rw [List.getElem?_append_right (by omega), List.getElem?_drop, show o + vs.length + (j - o - vs.length) = j by omega] at hj
      exact h j u hj

section
variable {P : Program} {ok : Nat → List DV → List DV → Prop} {cx : Cx} {hi : Hi} {o : Oper} {C : Frm} {A : Nat → Prop} {E : Env} {F : Nat → Prop} {s : St} {a : Act} {w : World} {α : Type} {r : α} {wr : Wr} {K : Act → World → Prop} {Q : Exit → Act → World → Prop} {key : Nat}
theorem store_wr {d : Option Nat} {w0 : Wr} (h : Ev ok (match (motive := Option Nat → Rd Wr) d with | none => .ret w0 | some d => .ret (w0 ++ [(.tmp d, .v bad)])) s wr) :
    wr = match (motive := Option Nat → Wr) d with | none => w0 | some d => w0 ++ [(.tmp d, .v bad)] := by
  cases d <;> exact h.ret
/-- A scalar of an array in a box. -/
theorem pta_ok {x y : Operand} {t : TypeId} {i : TI} (ho : o.op = .store t x y) (hT : TOk P t i) {n l m j : Nat} {T : Ty} (hsc : scalar T = true) {v : List (Den T)} {z : Den T}
    (h1 : RepV E F w (.one (.pta n l m j)) (a.eval x)) (hobj : look s (.lf n l) = .l (.dat (.ar m T) v)) (h3 : RepL E F w (.dat T z) [a.eval y]) (hsz : (a.eval y).cells = #[a.eval y]) (hlay : i.lay.sum = 1)
    (hwr : wr = match (motive := Option Nat → Wr) o.dst with | none => [(.lf n l, .l (.dat (.ar m T) (v.set j z)))] | some d => [(.lf n l, .l (.dat (.ar m T) (v.set j z)))] ++ [(.tmp d, .v bad)])
    (hm : Mem C A E F s.ob w) (ht : Tms E F s.tm a w)
    (hK : ∀ a' w', Rel C (fun k => A k ∨ (key ≤ k ∧ k < key + stride)) (apply wr s) a' w' → K a' w') : o.wp P a w K Q := by
  obtain ⟨bl, hb, hx⟩ := lf_ok hobj
  have hlt := (List.getElem?_eq_some_iff.1 hx).1
  have hrp := hm.rp n
  rw [hb] at hrp
  obtain ⟨cl, ty, ⟨cs, fr, g1, gp, gu⟩, g2, g3, g4⟩ := hrp
  obtain ⟨_, p1, p2, p3⟩ := h1
  simp only [List.cons.injEq, and_true] at p3
  obtain ⟨c1, c, c3, e1, k1, k2, k3⟩ := All.leaf g2 hx
  have k2' := k2
  rw [RepL, RepD] at k2'
  have hv : List.length v = m := k2'.1
  obtain ⟨d1, d, d3, e2, q1, q2, q3⟩ := k2'.2.set (fun x c => RepD_len) (show j < List.length v by omega) (show RepD F w T z [a.eval y] from h3)
  have q1 : d1.length = j := by rw [q1, scalar_sz hsc, Nat.mul_one]
  have q2 : d.length = 1 := by rw [q2, scalar_sz hsc]
  have hc1 : (E.e n).pre.length + c1.length = (E.e n).loff l := by rw [sizes_sum k1, sizes_take, g4 l (by omega)]
  have hp : cs.toList = ((E.e n).pre ++ (c1 ++ d1)) ++ (d ++ (d3 ++ (c3 ++ (E.e n).post))) := by rw [gp, e1, e2]; simp
  have hbnd : (E.e n).loff l + j + 1 ≤ cs.size := by
    have := congrArg List.length hp
    simp only [List.length_append, Array.length_toList] at this
    omega
  have hst := storeAt_ok (P := P) (w := w) hT (b := (E.e n).blk) (o := (E.e n).loff l + j) (v := a.eval y) (by rw [hsz, hlay]; rfl) (by rw [hsz]; intro u hu; simp at hu; subst hu; exact RepL_ok h3 _ (by simp)) g1 (by rw [hsz]; exact hbnd) gu
  rw [hsz] at hst
  obtain ⟨cs', m1, m2, m3⟩ := setCells_heap [a.eval y] ((E.e n).loff l + j) w cs g1 hbnd
  have hsp : cs'.toList = (E.e n).pre ++ ((c1 ++ ((d1 ++ ([a.eval y] ++ d3)) ++ c3)) ++ (E.e n).post) := by
    rw [m2, hp, show (E.e n).loff l + j = ((E.e n).pre ++ (c1 ++ d1)).length by simp only [List.length_append]; omega, splice_mid (by rw [q2]; rfl)]
    simp
  obtain ⟨t1, t2⟩ := apply_wrLs (k := n) [.dat (.ar m T) (v.set j z)] l s bl hb (by simp; omega)
  have hss : splice bl l [.dat (.ar m T) (v.set j z)] = bl.set l (.dat (.ar m T) (v.set j z)) := splice_one _ _ _ hlt
  rw [hss] at t2
  have hk : excl (E.e n) (lookO s.ob n) := by rw [hb]; trivial
  refine set_rel (obj := .box (bl.set l (.dat (.ar m T) (v.set j z)))) (n := n) (setCells_setW (E.e n).blk [a.eval y] ((E.e n).loff l + j) w) ?_ hwr t1 t2 hm ht hk trivial (fun _ => hk) (fun hx' => ?_) hK (x := bad) (s' := s)
  · simp only [execOp, ho, p3, Sem.run_bind, hst]; rfl
  · refine ⟨_, ty, ⟨cs', fr, m1, hsp, by rw [m3]; exact unfr_cells g1 m1 gu⟩, ?_, g3, fun k hk => ?_⟩
    · exact RepLs.ext hx' (k3 (.dat (.ar m T) (v.set j z)) _ (by rw [RepL, RepD]; exact ⟨by simpa using hv, by simpa using q3⟩))
    · rw [sizes_set (y := .dat (.ar m T) (v.set j z)) hx rfl]; exact g4 k (by simpa using hk)
theorem op_store (hti : TIok P cx) {t : TypeId} {x y : Operand} (ho : o.op = .store t x y) : OpP P ok cx hi o := by
  intro C hC rg ix key A s a w wr K Q h hr hA hK
  simp only [opSem, ho] at h
  obtain ⟨E, F, hm, ht⟩ := hr
  obtain ⟨i, hi', h⟩ := Cx.t_ev h
  have hT := hti t i hi'
  obtain ⟨X, h1, h2⟩ := ev_ok h ht
  obtain ⟨Y, h3, h4⟩ := ev_ok h2 ht
  unfold storeS at h4
  split at h4
  · exact h4.fail.elim
  rename_i vl hvl
  have hvr := cls_ok h3 hvl
  split at h4
  · exact h4.fail.elim
  rename_i hz
  simp only [Bool.and_eq_true, Bool.not_eq_true', List.isEmpty_eq_false_iff] at hz
  obtain ⟨hz, hne⟩ := hz
  have hz := natsEq_spec hz
  have hvs : (a.eval y).cells.size = i.lay.sum := by
    have := sizes_sum hvr
    rw [hz] at this; simpa using this
  have hlen : vl.length = i.lay.length := by rw [← hz, sizes_len]
  have run : ∀ b n w', a.eval x = .pointer (some ⟨b, n, none⟩) → (Instr.storeAt t (.pointer (some ⟨b, n, none⟩)) (a.eval y)).run P w = .ok () w' → (execOp a.eval o).run P w = .ok .skip w' := by
    intro b n w' hx hs
    simp only [execOp, ho, hx, Sem.run_bind, hs]; rfl
  split at h4
  · -- a box's leaves
    rename_i n l yy
    obtain ⟨old, k1, k2, k3⟩ := rdLs_ok _ _ h4
    split at k2
    · rename_i hold
      have hold := natsEq_spec hold
      rcases k3 with k3 | ⟨bl, hb, rfl, k4⟩
      · exact absurd (List.length_eq_zero_iff.1 k3) hne
      · rw [takeN_eq, dropN_eq, ← hlen] at hold
        rw [← hlen] at k4
        have hzz : sizes vl = sizes ((bl.drop l).take vl.length) := by rw [hz, hold]
        have hrp := hm.rp n
        rw [hb] at hrp
        obtain ⟨cl, ty, ⟨cs, fr, g1, gp, gu⟩, g2, g3, g4⟩ := hrp
        have hp := h1.2
        rw [RepL] at hp
        obtain ⟨p1, p2, p3⟩ := hp
        simp only [List.cons.injEq, and_true] at p2
        obtain ⟨q1, q2⟩ := RepLs_splice g2 hvr k4 hzz
        have hl := g4 l (by omega)
        have q3 : (E.e n).loff l + (a.eval y).cells.toList.length ≤ cs.size := by
          have := congrArg List.length gp
          simp only [List.length_append, Array.length_toList] at this
          rw [hl]; omega
        have hst := storeAt_ok (P := P) (w := w) hT hvs (RepLs_ok hvr) g1 (by simpa using q3) gu
        obtain ⟨cs', m1, m2, m3⟩ := setCells_heap (a.eval y).cells.toList ((E.e n).loff l) w cs g1 q3
        rw [gp, hl, splice_in q2] at m2
        obtain ⟨t1, t2⟩ := apply_wrLs (k := n) vl l s bl hb k4
        have hk : excl (E.e n) (lookO s.ob n) := by rw [hb]; trivial
        refine set_rel (obj := .box (splice bl l vl)) (n := n) (setCells_setW (E.e n).blk (a.eval y).cells.toList ((E.e n).loff l) w) (run _ _ _ p2 hst) (store_wr k2) t1 t2 hm ht hk trivial (fun _ => hk) (fun hx' => ?_) hK (x := bad) (s' := s)
        refine ⟨_, ty, ⟨cs', fr, m1, m2, by rw [m3]; exact unfr_cells g1 m1 gu⟩, ?_, g3, fun k hk => ?_⟩
        · exact RepLs.ext hx' q1
        · rw [sizes_splice k4 hzz]
          refine g4 k ?_
          rw [← sizes_len, sizes_splice k4 hzz, sizes_len] at hk
          exact hk
    · exact k2.fail.elim
  · -- a scalar of an array
    rename_i n l m j
    have h4 := h4.get
    split at h4
    · rename_i m' T v hobj
      split at h4
      · rename_i k hmm _
        have hmm := Nat.eq_of_beq_eq_true hmm
        subst hmm
        have h3' := of_one (by simp) h3
        split at h4
        · rename_i hjj
          subst hjj
          have hcs : (a.eval y).cells = #[a.eval y] := by have := of_int h3; rw [this]; rfl
          refine pta_ok ho hT rfl h1 hobj h3'.2 hcs (by rw [← hvs, hcs]; rfl) (store_wr h4) hm ht hK
        · exact h4.fail.elim
      · rename_i hmm _
        have hmm := Nat.eq_of_beq_eq_true hmm
        subst hmm
        have h3' := of_one (by simp) h3
        have hcs : (a.eval y).cells = #[a.eval y] := by have := of_boo h3; rw [this]; rfl
        exact pta_ok ho hT rfl h1 hobj h3'.2 hcs (by rw [← hvs, hcs]; rfl) (store_wr h4) hm ht hK
      · exact h4.fail.elim
    · exact h4.fail.elim
  · -- an element's leaves
    rename_i n j l yy
    have h4 := h4.get
    simp only [look] at h4
    split at h4
    · rename_i T xs hobj
      simp only [Cn.o.injEq] at hobj
      split at h4
      · rename_i hold
        have hold := natsEq_spec hold
        rw [takeN_eq, dropN_eq, ← hlen] at hold
        have hp := h1.2
        rw [RepL] at hp
        obtain ⟨p1, p2, p3, p4⟩ := hp
        simp only [List.cons.injEq, and_true] at p3
        have hrp := hm.rp n
        rw [hobj] at hrp
        obtain ⟨r1, r2, r3, r4, r5, r6⟩ := hrp
        have hnil : (E.e n).nil = false := by
          cases hn : (E.e n).nil with
          | false => rfl
          | true => have := r5 hn; omega
        obtain ⟨cs, ty, fr, ds, c1, c2, c3, c4, c5, c6⟩ := r6 hnil
        obtain ⟨cF, cU⟩ := c5 rfl
        have hjx : j < xs.length := by omega
        obtain ⟨d1, d, d3, e1, e2, e3⟩ := c3.get (fun x c => RepD_len) (List.getElem?_eq_getElem hjx)
        have hgd : xs.getD j (zeroD T) = xs[j] := by rw [List.getD_eq_getElem?_getD, List.getElem?_eq_getElem hjx]; rfl
        rw [hgd] at h4 hold
        have hu := RepD_unpk (E := E) e3
        have hzz : sizes vl = sizes (((unpk T xs[j]).drop l).take vl.length) := by rw [hz, hold]
        have hb : l + vl.length ≤ (unpk T xs[j]).length := by
          have := congrArg List.length hzz
          rw [sizes_len, sizes_len] at this
          simp only [List.length_take, List.length_drop] at this
          have hpos : 0 < vl.length := by
            rw [hlen]; exact List.length_pos_iff.2 hne
          omega
        obtain ⟨q1, q2⟩ := RepLs_splice hu hvr hb hzz
        rw [over_eq _ _ _ hb] at h4
        obtain ⟨v', q', nb, cc, dd, ee, k1, k2, k3, hsz0⟩ := pk_ok hm h4 q1
        split at k3
        · rename_i hnb
          have hnb : nb = [] := by simpa using hnb
          subst hnb
          have hdd : dd = [] := k2
          subst hdd
          rw [List.append_nil] at ee
          have k1 := k1.plus_nil
          rw [← ee] at k1
          rw [← lOff_eq, ← r4] at k1 q2
          -- the elements' cells with this one's set
          have hdl : d.length = T.sz := RepD_len e3
          obtain ⟨d1', d', d3', f1, f2, f3, f4⟩ := c3.set (fun x c => RepD_len) hjx k1
          have hds : d1 = d1' ∧ d ++ d3 = d' ++ d3' := List.append_inj (by rw [← e1, f1]) (by rw [e2, f2])
          have hds' : d = d' ∧ d3 = d3' := List.append_inj hds.2 (by rw [hdl, f3])
          obtain ⟨⟨rfl, _⟩, rfl, rfl⟩ := And.intro hds hds'
          have hspl : d1 ++ (splice d ((E.e n).eoff l) (a.eval y).cells.toList ++ d3) = splice ds (j * (E.e n).esz + (E.e n).eoff l) (a.eval y).cells.toList := by
            rw [e1, r3, ← e2]
            obtain ⟨dp, dm, dq, rfl, hdp, hdm⟩ : ∃ dp dm dq, d = dp ++ (dm ++ dq) ∧ dp.length = (E.e n).eoff l ∧ dm.length = (a.eval y).cells.toList.length :=
              ⟨d.take ((E.e n).eoff l), (d.drop ((E.e n).eoff l)).take (a.eval y).cells.toList.length, (d.drop ((E.e n).eoff l)).drop (a.eval y).cells.toList.length, by rw [List.take_append_drop, List.take_append_drop], by simp; omega, by simp; simp at q2; omega⟩
            rw [← hdp, splice_mid hdm]
            rw [show d1 ++ ((dp ++ (dm ++ dq)) ++ d3) = (d1 ++ dp) ++ (dm ++ (dq ++ d3)) by simp, ← List.length_append, splice_mid hdm]
            simp
          rw [hspl] at f4
          have hdsl : ds.length = xs.length * T.sz := c3.len (fun x c => RepD_len)
          have hjs : j * T.sz + T.sz ≤ xs.length * T.sz := by
            have : (j + 1) * T.sz ≤ xs.length * T.sz := Nat.mul_le_mul_right _ hjx
            rwa [Nat.succ_mul] at this
          have hcap : xs.length * T.sz ≤ (E.e n).cap * T.sz := Nat.mul_le_mul_right _ (by omega)
          simp only [Array.length_toList] at q2
          rw [hdl] at q2
          rw [r3] at c2 p3
          have hbnd : (E.e n).base + j * T.sz + (E.e n).eoff l + (a.eval y).cells.size ≤ cs.size := by omega
          have hst := storeAt_ok (P := P) (w := w) hT hvs (RepLs_ok hvr) c1 hbnd cU
          obtain ⟨cs', m1, m2, m3⟩ := setCells_heap (a.eval y).cells.toList ((E.e n).base + j * T.sz + (E.e n).eoff l) w cs c1 (by simpa using hbnd)
          have hk : excl (E.e n) (lookO s.ob n) := by rw [hobj]; exact hnil
          refine set_rel (obj := .arr T (xs.set j v') false) (n := n) (s' := s) (setCells_setW (E.e n).blk (a.eval y).cells.toList ((E.e n).base + j * T.sz + (E.e n).eoff l) w) (run _ _ _ p3 hst) (store_wr k3) rfl
            (fun m => by rw [apply_ob]; exact lookO_putO _ _ _ _) hm ht hk trivial (fun _ => hk) (fun hx' => ?_) hK (x := bad)
          refine ⟨by simpa using r1, r2, r3, r4, r5, fun _ => ⟨cs', ty, fr, _, m1, by rw [m3, r3]; exact c2, f4.imp fun x c hc => RepD.ext hx'.fz hx'.wd hc, ?_, fun _ => ⟨cF, ?_⟩, fun h => by simp at h⟩⟩
          · have := c4.set (o := j * (E.e n).esz + (E.e n).eoff l) (vs := (a.eval y).cells.toList) (by rw [hdsl, r3]; simp; omega)
            rw [r3, ← Nat.add_assoc] at this
            rw [r3]; exact this
          · intro oo hoo
            rw [World.frozen?_setCells]
            exact cU oo (by omega)
        · exact k3.fail.elim
      · exact h4.fail.elim
    · exact h4.fail.elim
  · exact h4.fail.elim
end
end Go.Proofs.Zs
/- append. -/
set_option linter.unusedVariables false
set_option linter.unusedSimpArgs false
namespace Go.Proofs.Zs
open Go

section
variable {P : Program} {ok : Nat → List DV → List DV → Prop} {cx : Cx} {hi : Hi} {o : Oper} {C : Frm} {A : Nat → Prop} {E : Env} {F : Nat → Prop} {s : St} {a : Act} {w w' : World} {α : Type} {r : α} {wr : Wr} {K : Act → World → Prop} {Q : Exit → Act → World → Prop} {key : Nat}
/-- A key for a slice without cells. -/
theorem Mem.add {ob : List (Nat × Obj)} (h : Mem C A E F ob w) {k : Nat} (hk : ¬ E.al k) {e : EI} {o : Obj} (hne : ¬ excl e o) (hrp : ∀ hx : Ext E F w (E.set k e) F w, RepO (E.set k e) F w e o) :
    Mem C (fun n => A n ∨ n = k) (E.set k e) F (putO ob k o) w ∧ Ext E F w (E.set k e) F w := by
  have hx : Ext E F w (E.set k e) F w := Env.ext_set hk e (fun _ h => h) (fun _ _ _ _ h => h)
  refine ⟨⟨?_, ?_, ?_, ?_, h.fb, h.f0, h.kp, h.uf, ?_, h.sz, h.os, h.tape, h.output, fun k hk => ⟨hx.al k (h.eo k hk).1, (hx.e k (h.eo k hk).1).trans (h.eo k hk).2⟩⟩, hx⟩
  · intro n hn
    rw [lookO_putO] at hn
    by_cases e' : k = n
    · exact .inr e'.symm
    · rw [if_neg e'] at hn; exact .inl (h.lv n hn)
  · intro n
    rw [lookO_putO]
    by_cases e' : k = n
    · subst e'; rw [if_pos rfl, Env.set_self]; exact hrp hx
    · rw [if_neg e', Env.set_ne E e (Ne.symm e')]
      exact (h.rp n).ext hx (fun hl hn => rfl) (fun hn => excl_notF h hn)
  · intro n m hn hm hb
    rw [lookO_putO] at hn hm
    by_cases e1 : k = n
    · subst e1; rw [if_pos rfl, Env.set_self] at hn; exact (hne hn).elim
    · by_cases e2 : k = m
      · subst e2; rw [if_pos rfl, Env.set_self] at hm; exact (hne hm).elim
      · rw [if_neg e1, Env.set_ne E e (Ne.symm e1)] at hn
        rw [if_neg e2, Env.set_ne E e (Ne.symm e2)] at hm
        rw [Env.set_ne E e (Ne.symm e1), Env.set_ne E e (Ne.symm e2)] at hb
        exact h.inj n m hn hm hb
  · intro n hn
    rcases hn with hn | rfl
    · exact .inl (h.al n hn)
    · exact .inr rfl
  · intro n hn
    rw [lookO_putO] at hn
    by_cases e' : k = n
    · subst e'; rw [if_pos rfl, Env.set_self] at hn; exact (hne hn).elim
    · rw [if_neg e', Env.set_ne E e (Ne.symm e')] at hn
      rw [Env.set_ne E e (Ne.symm e')]; exact h.uo n hn

/-- What is appended to: its places, alone. -/
inductive OldOk (E : Env) (F : Nat → Prop) (w : World) (s : St) (t : Ty) : List (Den t) → Wr → Value → Prop
  | none (ad : Option Addr) (gone : Wr) (hg : gone = [] ∨ ∃ n, gone = [(.ob n, .o .dead)]) : OldOk E F w s t [] gone (.slice ad 0 0)
  | some (n o cap : Nat) (xs : List (Den t)) (cs : Array Value) (u : TypeId) (fr : Nat × Nat) (ds : List Value) (he : excl (E.e n) (lookO s.ob n)) (hl : List.length xs ≤ cap)
      (hb : w.heap[(E.e n).blk]? = some (.cells cs u fr)) (hc : o + cap * t.sz ≤ cs.size) (hd : All (fun x c => RepD F w t x c) xs ds) (ha : At w (E.e n).blk o ds) (hu : unfr w (E.e n).blk cs.size) :
      OldOk E F w s t xs [(.ob n, .o .dead)] (.slice (some ⟨(E.e n).blk, o, none⟩) xs.length cap)
theorem win_old {n off len : Nat} {t : Ty} {xs : List (Den t)} {v : Value} (hm : Mem C A E F s.ob w) (hobj : lookO s.ob n = .arr t xs false) (hw : Win (E.e n) off len [v]) : OldOk E F w s t ((xs.drop off).take len) [(.ob n, .o .dead)] v := by
  obtain ⟨h1, ad, h2, h3⟩ := hw
  simp only [List.cons.injEq, and_true] at h2
  subst h2
  have hrp := hm.rp n
  rw [hobj] at hrp
  obtain ⟨q1, q2, q3, q4, q5, q6⟩ := hrp
  by_cases hz : (E.e n).cap - off = 0
  · have : len = 0 := by omega
    subst this
    rw [hz, List.take_zero]
    exact .none ad _ (.inr ⟨n, rfl⟩)
  · obtain ⟨hnil, rfl⟩ := h3 hz
    obtain ⟨cs, u, fr, ds, k1, k2, k3, k4, k5, k6⟩ := q6 hnil
    obtain ⟨cF, cU⟩ := k5 rfl
    have hlen : List.length ((xs.drop off).take len) = len := by simp; omega
    obtain ⟨c, d, e', rfl, g1, g2⟩ := All_sub (m := len) (fun x c => RepD_len) k3 (show off ≤ xs.length by omega)
    have := OldOk.some (E := E) (F := F) (w := w) (s := s) (t := t) n ((E.e n).base + off * (E.e n).esz) ((E.e n).cap - off) ((xs.drop off).take len) cs u fr d (by rw [hobj]; exact hnil) (by rw [hlen]; omega) k1 (by
      rw [Nat.add_assoc, q3, ← Nat.add_mul, Nat.add_sub_cancel' (by omega), ← q3]; exact k2) g2 (by
      have := (k4.append.2).append.1
      rw [g1, ← q3] at this
      exact this) cU
    rw [hlen] at this
    exact this
theorem oldS_ok {t : Ty} {x : V} {v : Value} {k : List (Den t) → Wr → Rd Wr} (h : Ev ok (oldS t x k) s wr) (hm : Mem C A E F s.ob w) (hr : RepV E F w x v) : ∃ xs gone, OldOk E F w s t xs gone v ∧ Ev ok (k xs gone) s wr := by
  unfold oldS at h
  split at h
  · have hv := hr.2
    rw [RepL] at hv
    simp only [List.cons.injEq, and_true] at hv
    subst hv
    exact ⟨[], [], .none _ _ (.inl rfl), h⟩
  · rename_i n
    have h := h.get
    simp only [look] at h
    split at h
    · rename_i a' xs hobj
      simp only [Cn.o.injEq] at hobj
      have e := castL_eq h; subst e; have h := castL_same h
      refine ⟨_, _, ?_, h⟩
      have := win_old hm hobj hr.2.2
      rw [← (arr_at hm hobj).1] at this
      simpa using this
    · exact h.fail.elim
  · rename_i n off
    have h := h.get
    simp only [look] at h
    split at h
    · rename_i a' xs hobj
      simp only [Cn.o.injEq] at hobj
      have e := castL_eq h; subst e; have h := castL_same h
      refine ⟨_, _, ?_, h⟩
      have := win_old hm hobj hr.2.2.2
      rw [← (arr_at hm hobj).1, List.take_of_length_le (by simp)] at this
      exact this
    · exact h.fail.elim
  · rename_i n off len
    have h := h.get
    simp only [look] at h
    split at h
    · rename_i a' xs hobj
      simp only [Cn.o.injEq] at hobj
      have e := castL_eq h; subst e; have h := castL_same h
      exact ⟨_, _, win_old hm hobj hr.2.2, h⟩
    · exact h.fail.elim
  · exact h.fail.elim
theorem byteCells_eq (s : ByteArray) : byteCells s = (bytesOf s).map (Value.int .u8) := by simp [byteCells, bytesOf]
/-- What is appended. -/
theorem newS_ok {t : Ty} {x : V} {v : Value} {tx : TypeId} {k : List (Den t) → Rd Wr} (h : Ev ok (newS t x k) s wr) (hm : Mem C A E F s.ob w) (hr : RepV E F w x v) (hk : (∃ e', P.underlying tx = some (.slice e')) ∨ P.underlying tx = some .string) :
    ∃ xs news, Src P t.sz tx v (List.length xs) news w ∧ All (fun x c => RepD F w t x c) xs news ∧ Ev ok (k xs) s wr := by
  unfold newS at h
  split at h
  · rename_i sv
    have hv := of_str hr
    subst hv
    have e := castL_eq h; subst e; have h := castL_same h
    refine ⟨bytesOf sv, (bytesOf sv).map (Value.int .u8), ?_, bytes_cells sv, h⟩
    have hlen : (bytesOf sv).length = sv.size := by simp [bytesOf]
    rw [← byteCells_eq, hlen]
    exact ⟨hk, fun _ => rfl, firstCells_string sv w, firstCells_string sv w.drew, by rw [byteCells_length]; simp [Ty.sz], fun u hu => by
      obtain ⟨_, _, rfl⟩ := List.mem_map.1 hu
      rfl⟩
  · rename_i l _
    obtain ⟨xs, nb, h3, h4⟩ := slD_ok h hm (cs := [v]) (by cases l <;> first | exact Ev.fail h |>.elim | exact hr.2)
    obtain ⟨ad, cap, k1, k2, k3⟩ := h3
    simp only [List.cons.injEq, and_true] at k1
    subst k1
    rcases k3 with rfl | ⟨b, oo, ds, rfl, k4, k5, k6⟩
    · refine ⟨[], [], ?_, rfl, h4⟩
      cases ad with
      | none => exact ⟨hk, fun _ => rfl, run_firstCells_none w t.sz 0 0 cap, run_firstCells_none w.drew t.sz 0 0 cap, by simp, fun _ h => by simp at h⟩
      | some ad => exact ⟨hk, fun _ => rfl, run_firstCells_some w t.sz 0 ad 0 cap [] (by simp) (by simp), run_firstCells_some w.drew t.sz 0 ad 0 cap [] (by simp) (by simp), by simp, fun _ h => by simp at h⟩
    · have hl : ds.length = xs.length * t.sz := k5.len (fun x c => RepD_len)
      have hat : ∀ j u, ds[j]? = some u → w.cell? ((⟨b, oo, none⟩ : Addr).add j) = some u := fun j u hj => by rw [add_lit]; exact k6 j u hj
      exact ⟨xs, ds, ⟨hk, fun _ => rfl, run_firstCells_some w t.sz _ _ _ cap ds hl hat, run_firstCells_some w.drew t.sz _ _ _ cap ds hl (by simpa using hat), hl, fun u hu => cellOk_iff.1 (k5.mem (fun x c hc => RepD_ok hc) u hu)⟩, k5, h4⟩
  · exact h.fail.elim
theorem apply_gone {gone : Wr} {obj : Obj} (hg : gone = [] ∨ ∃ n, gone = [(.ob n, .o .dead)]) : (apply (gone ++ [(.ob key, .o obj)]) s).tm = s.tm ∧ ∃ ob', (∀ {A : Nat → Prop}, Mem C A E F s.ob w → Mem C A E F ob' w) ∧ (apply (gone ++ [(.ob key, .o obj)]) s).ob = putO ob' key obj := by
  rcases hg with rfl | ⟨n, rfl⟩
  · exact ⟨rfl, s.ob, fun h => h, rfl⟩
  · exact ⟨rfl, putO s.ob n .dead, fun h => h.kill n, rfl⟩
theorem gone_rel {obj : Obj} {gone : Wr} {e : EI} {x : V} {v : Value} {ho : Go.Obj} (hg : gone = [] ∨ ∃ n, gone = [(.ob n, .o .dead)]) (hrun : (execOp a.eval o).run P w = .ok (.value v) w') (hw : NewW w w' ho)
    (h : Ev ok (fin hi o.dst (gone ++ [(.ob key, .o obj)]) x) s wr) (hm : Mem C A E F s.ob w) (ht : Tms E F s.tm a w) (hA : ∀ k, key ≤ k → k < key + stride → ¬ A k)
    (hblk : e.blk = w.heap.size) (hrp : ∀ hx : Ext E F w (E.set key e) F w', RepO (E.set key e) F w' e obj) (hv : ∀ hx : Ext E F w (E.set key e) F w', RepV (E.set key e) F w' x v)
    (hK : ∀ a' w', Rel C (fun k => A k ∨ (key ≤ k ∧ k < key + stride)) (apply wr s) a' w' → K a' w') : o.wp P a w K Q := by
  unfold Oper.wp
  rw [hrun]
  have hk : ¬ E.al key := fun h => hA key (Nat.le_refl _) (by simp [stride]) (hm.al _ h)
  obtain ⟨t1, ob', t2, t3⟩ := apply_gone (C := C) (E := E) (F := F) (s := s) (w := w) (key := key) (obj := obj) hg
  obtain ⟨m, hx⟩ := (t2 hm).new (w' := w') hk (e := e) (o := obj) hw.os hw.tape hw.output hw.size (fun b hb => hw.old hb) (fun _ => hblk) hrp
  refine hK _ _ (rel_fin h (E' := E.set key e) (F' := F) ?_ ?_ (hv hx))
  · rw [t3]
    exact m.mono fun k hk => hk.imp id fun e => by subst e; exact ⟨Nat.le_refl _, by simp [stride]⟩
  · rw [t1]; exact ht.ext hx
theorem old_first {t : Ty} {xs : List (Den t)} {gone : Wr} {v : Value} (h : OldOk E F w s t xs gone v) : ∃ base cap olds, v = .slice base xs.length cap ∧ xs.length ≤ cap ∧
    (Builtin.firstCells t.sz xs.length v).run P w.drew = .ok olds.toArray w.drew ∧ All (fun x c => RepD F w t x c) xs olds ∧ (gone = [] ∨ ∃ n, gone = [(.ob n, .o .dead)]) := by
  cases h with
  | none ad _ hg =>
    refine ⟨ad, 0, [], rfl, Nat.le_refl _, ?_, rfl, hg⟩
    cases ad with
    | none => exact run_firstCells_none w.drew t.sz 0 0 0
    | some ad => exact run_firstCells_some w.drew t.sz 0 ad 0 0 [] (by simp) (by simp)
  | some n o cap _ cs u fr ds he hl hb hc hd ha hu =>
    exact ⟨_, cap, ds, rfl, hl, run_firstCells_some w.drew t.sz _ _ _ cap ds (hd.len (fun x c => RepD_len)) (fun j u hj => by rw [add_lit]; simpa using ha j u hj), hd, .inr ⟨n, rfl⟩⟩
def nilEI (t : Ty) : EI := { blk := 0, base := 0, len := 0, cap := 0, esz := t.sz, nil := true, loff := fun _ => 0, eoff := lOff t }
def onEI (b o n c : Nat) (t : Ty) : EI := { blk := b, base := o, len := n, cap := c, esz := t.sz, nil := false, loff := fun _ => 0, eoff := lOff t }
theorem op_append (hti : TIok P cx) {c : Call} (ho : o.op = .call c) (hc : c.callee = .builtin .append) : OpP P ok cx hi o := by
  intro C hC rg ix key A s a w wr K Q h hr hA hK
  simp only [opSem, ho, hc] at h
  obtain ⟨E, F, hm, ht⟩ := hr
  obtain ⟨xs, h1, h2⟩ := evs_ok h ht
  split at h2
  · rename_i x y
    split at h2
    · rename_i t tx hat
      obtain ⟨p, q, hp, h3, h4⟩ := two_args h1
      obtain ⟨i, hi', h5⟩ := Cx.t_ev h2
      obtain ⟨j, hj', h6⟩ := Cx.t_ev h5
      clear h2 h1 h5
      have hT := hti t i hi'
      have hU := hti tx j hj'
      have hat : c.argTypes = #[t, tx] := by rw [← Array.toList_inj, hat]
      have h7 : Ev ok (appendS key i x y fun x wr => fin hi o.dst wr x) s wr ∧ ((∃ e', P.underlying tx = some (.slice e')) ∨ P.underlying tx = some .string) := by
        split at h6
        · rename_i htd
          obtain ⟨e', hu', _⟩ := hU.slice htd
          exact ⟨h6, .inl ⟨e', hu'⟩⟩
        · rename_i htd
          exact ⟨h6, .inr (hU.str htd)⟩
        · exact h6.fail.elim
      obtain ⟨h7, hkd⟩ := h7
      clear h6
      obtain ⟨cs, hrun⟩ := run_builtin (P := P) ho hc a w
      have run : ∀ v w', (Builtin.append_ #[t, tx] o.type #[a.eval p, a.eval q]).run P w = .ok v w' → (execOp a.eval o).run P w = .ok (.value v) w' := by
        intro v w' hv
        rw [hrun, hp, hat, show (Array.map a.eval #[p, q]) = #[a.eval p, a.eval q] by simp]
        simp only [builtin, Sem.run_bind, hv]
        rfl
      unfold appendS at h7
      split at h7
      · rename_i htd hby
        obtain ⟨e, hu, ⟨f, z, f1, f2, f3, f4, f5⟩⟩ := hT.slice htd
        obtain ⟨old, gone, g1, g2⟩ := oldS_ok h7 hm h3
        obtain ⟨new, news, g3, g4, g5⟩ := newS_ok (P := P) g2 hm h4 hkd
        rcases g5.ite with ⟨hb, g5⟩ | ⟨_, g5⟩
        · have hb := of_decide_eq_true hb
          unfold reach at hb
          have hby : i.eby ≠ 0 := by intro e0; rw [e0] at hby; simp at hby
          have h63 : ((old.length + new.length : Nat) : Int) ≤ 9223372036854775807 := by
            have : old.length + new.length ≤ (old.length + new.length) * i.eby := Nat.le_mul_of_pos_right _ (Nat.pos_of_ne_zero hby)
            omega
          have hk : ¬ E.al key := fun h => hA key (Nat.le_refl _) (by simp [stride]) (hm.al _ h)
          -- no room
          have grow : ∀ cap base, a.eval p = .slice base old.length cap → cap < old.length + new.length → o.wp P a w K Q := by
            intro cap base hv hlt
            obtain ⟨base', cap', olds, k1, k2, k3, k4, k5⟩ := old_first (P := P) g1
            rw [hv] at k1 k3
            simp only [Value.slice.injEq, true_and] at k1
            obtain ⟨rfl, rfl⟩ := k1
            have hfit := growslice_fits hlt (bytes := f.bytes) (by rw [f3]; omega)
            have hap := run_append_grow_src (P := P) w t tx o.type e f z hu f1 f4 base old.length cap olds (by rw [f2]; exact k3) (a.eval q) new.length news (by rw [f2]; exact g3) hlt h63 hfit
            have hgc := grownCap_ge w (old.length + new.length) cap e
            have hol : olds.length = old.length * i.ety.sz := k4.len (fun x c => RepD_len)
            have hnl : news.length = new.length * i.ety.sz := g4.len (fun x c => RepD_len)
            have hzl : z.cells.size = i.ety.sz := by
              obtain ⟨zc, hz1, hz2⟩ := zD_rep (F := F) (w := w) _ _ _ f5
              rw [List.append_nil] at hz1
              rw [← hz1] at hz2
              rw [← RepD_len hz2]; simp
            have hw := NewW.drew w (.cells ((olds ++ news).toArray ++ Builtin.zeroCells z.cells (grownCap w (old.length + new.length) cap e - (old.length + new.length))) e)
            refine gone_rel (e := arrEI w.heap.size (old.length + new.length) (grownCap w (old.length + new.length) cap e) i.ety) k5 (run _ _ (by rw [hv]; exact hap)) hw g5 hm ht hA rfl (fun hx => ?_) (fun hx => ?_) hK
            · refine ⟨by simp [arrEI], hgc, rfl, fun _ => rfl, fun h => by simp [arrEI] at h, fun _ => ⟨_, _, _, olds ++ news, hw.last, ?_, (k4.append g4).imp fun x c hc => RepD.ext hx.fz hx.wd hc, hw.at_ (d := (Builtin.zeroCells z.cells (grownCap w (old.length + new.length) cap e - (old.length + new.length))).toList) (by simp), fun _ => ⟨fun hf => ?_, ?_⟩, fun h => by simp at h⟩⟩
              · obtain ⟨d, hd⟩ : ∃ d, grownCap w (old.length + new.length) cap e = old.length + new.length + d := Nat.exists_eq_add_of_le hgc
                rw [hd]
                simp [arrEI, Builtin.zeroCells, hol, hnl, hzl, Nat.add_mul]
              · have := hm.fb _ hf; simp [arrEI] at this
              · intro oo ho
                simp only [World.frozen?, arrEI, hw.last]
                simp
            · refine rep_slice ⟨.inr rfl, ?_⟩
              rw [Env.set_self]
              exact ⟨by simp [arrEI], _, rfl, fun _ => ⟨rfl, by simp [arrEI]⟩⟩
          generalize hv : a.eval p = v at g1
          cases g1 with
          | none ad _ hg =>
            by_cases hn : new.length = 0
            · have hnew : new = [] := List.length_eq_zero_iff.1 hn
              subst hnew
              have : news = [] := g4
              subst this
              have hap := run_append_nothing (P := P) w t tx o.type e f hu f1 ad 0 0 (Nat.le_refl _) (a.eval q) (by rw [f2]; exact g3)
              have hrun' := run _ _ (by rw [hv]; exact hap)
              unfold Oper.wp
              rw [hrun']
              obtain ⟨t1, ob', t2, t3⟩ := apply_gone (C := C) (E := E) (F := F) (s := s) (w := w) (key := key) (obj := .arr i.ety (([] : List (Den i.ety)) ++ []) false) hg
              obtain ⟨m, hx⟩ := (t2 hm).add hk (e := nilEI i.ety) (o := .arr i.ety (([] : List (Den i.ety)) ++ []) false) (by simp [excl, nilEI]) (fun hx => ⟨rfl, Nat.le_refl _, rfl, fun _ => rfl, fun _ => rfl, fun h => by simp [nilEI] at h⟩)
              refine hK _ _ (rel_fin g5 (E' := E.set key (nilEI i.ety)) (F' := F) ?_ ?_ (rep_slice ⟨.inr rfl, ?_⟩))
              · rw [t3]
                exact m.mono fun k hk => hk.imp id fun e => by subst e; exact ⟨Nat.le_refl _, by simp [stride]⟩
              · rw [t1]; exact ht.ext hx
              · rw [Env.set_self]; exact ⟨by simp [nilEI], _, rfl, fun h => by simp [nilEI] at h⟩
            · exact grow 0 ad hv (by simp; omega)
          | some n oo cap _ cs u fr ds he hl hbk hcs hd ha hun =>
            by_cases hroom : old.length + new.length ≤ cap
            · have hnl : news.length = new.length * i.ety.sz := g4.len (fun x c => RepD_len)
              have hdl : ds.length = old.length * i.ety.sz := hd.len (fun x c => RepD_len)
              have hle : (old.length + new.length) * i.ety.sz ≤ cap * i.ety.sz := Nat.mul_le_mul_right _ hroom
              rw [Nat.add_mul] at hle
              have hcell : ∀ j, j < news.length → (w.cell? ⟨(E.e n).blk, oo + old.length * f.size + j, none⟩).isSome = true := by
                intro j hj
                rw [f2]
                simp only [World.cell?, hbk]
                simp; omega
              have hap := run_append_room_src (P := P) w t tx o.type e f hu f1 (E.e n).blk oo old.length cap (a.eval q) new.length news (by rw [f2]; exact g3) hroom hcell (fun j hj => hun _ (by rw [f2]; omega))
              rw [f2] at hap hcell
              have hrun' := run _ _ (by rw [hv]; exact hap)
              unfold Oper.wp
              rw [hrun']
              have hsw := setCells_setW (E.e n).blk news (oo + old.length * i.ety.sz) w
              obtain ⟨cs', m1, m2, m3⟩ := setCells_heap news (oo + old.length * i.ety.sz) w cs hbk (by omega)
              obtain ⟨m, hx⟩ := hm.pass he hk (e := onEI (E.e n).blk oo (old.length + new.length) cap i.ety) (o := .arr i.ety (old ++ new) false) rfl hsw.os hsw.tape hsw.output hsw.size hsw.old (fun hx => by
                refine ⟨by simp [onEI], hroom, rfl, fun _ => rfl, fun h => by simp [onEI] at h, fun _ => ⟨cs', u, fr, ds ++ news, m1, by rw [m3]; exact hcs, (hd.append g4).imp fun x c hc => RepD.ext hx.fz hx.wd hc, ?_, fun _ => ⟨excl_notF hm he, ?_⟩, fun h => by simp at h⟩⟩
                · refine At.join (fun j u' hj => ?_) (fun j u' hj => ?_)
                  · have hlt := (List.getElem?_eq_some_iff.1 hj).1
                    rw [World.cell?_setCells_out]
                    · exact ha j u' hj
                    · intro _ _; left; simp only [onEI]; omega
                  · obtain ⟨hlt, e'⟩ := List.getElem?_eq_some_iff.1 hj
                    have := World.cell?_setCells_in (E.e n).blk news (oo + old.length * i.ety.sz) w hcell j hlt
                    rw [e'] at this
                    rw [hdl]; exact this
                · intro k hk'
                  rw [World.frozen?_setCells]
                  exact hun k (by rw [← m3]; exact hk'))
              refine hK _ _ (rel_fin g5 (E' := E.set key (onEI (E.e n).blk oo (old.length + new.length) cap i.ety)) (F' := F) ?_ ?_ (rep_slice ⟨.inr rfl, ?_⟩))
              · exact m.mono fun k hk => hk.imp id fun e => by subst e; exact ⟨Nat.le_refl _, by simp [stride]⟩
              · exact ht.ext hx
              · rw [Env.set_self]; exact ⟨by simp [onEI], some ⟨(E.e n).blk, oo, none⟩, by simp [onEI], fun h => ⟨rfl, by simp [onEI]⟩⟩
            · exact grow cap _ hv (by omega)
        · exact g5.fail.elim
      · exact h7.fail.elim
    · exact h2.fail.elim
  · exact h2.fail.elim
end
end Go.Proofs.Zs
/- copy, clear. -/
set_option linter.unusedVariables false
set_option linter.unusedSimpArgs false
namespace Go.Proofs.Zs
open Go

section
variable {P : Program} {ok : Nat → List DV → List DV → Prop} {cx : Cx} {hi : Hi} {o : Oper} {C : Frm} {A : Nat → Prop} {E : Env} {F : Nat → Prop} {s : St} {a : Act} {w w' : World} {α : Type} {r : α} {wr : Wr} {K : Act → World → Prop} {Q : Exit → Act → World → Prop} {key : Nat}
theorem laid_nil {α : Type} (xs : List α) (n : Nat) : laid xs n [] = xs := by simp [laid]
theorem lay_ok {n off len : Nat} {T : Ty} {xs ys : List (Den T)} {news : List Value} {v : Value} (hm : Mem C A E F s.ob w) (hobj : lookO s.ob n = .arr T xs false) (hw : Win (E.e n) off len [v])
    (hall : All (fun x c => RepD F w T x c) ys news) (hle : ys.length ≤ len) :
    ∃ w' ad cap, v = .slice ad len cap ∧ (∀ ad', ad = some ad' → (storeCells ad' news).run P w = .ok () w') ∧ (ad = none → w' = w ∧ news = [] ∧ len = 0) ∧
      Mem C A E F (putO s.ob n (.arr T (laid xs off ys) false)) w' ∧ Ext E F w E F w' := by
  have hlen : news.length = ys.length * T.sz := hall.len (fun x c => RepD_len)
  have hrp := hm.rp n
  rw [hobj] at hrp
  obtain ⟨r1, r2, r3, r4, r5, r6⟩ := hrp
  by_cases h0 : ys.length = 0
  · obtain rfl := List.length_eq_zero_iff.1 h0
    have hn : news = [] := List.length_eq_zero_iff.1 (by rw [hlen]; simp)
    subst hn
    obtain ⟨h1, ad, h2, h3⟩ := hw
    simp only [List.cons.injEq, and_true] at h2
    refine ⟨w, ad, _, h2, fun ad' _ => rfl, fun e => ⟨rfl, rfl, ?_⟩, ?_, Ext.refl E F w⟩
    · have hc : ¬ (E.e n).cap - off ≠ 0 := fun hc => by rw [(h3 hc).2] at e; simp at e
      omega
    · rw [laid_nil]
      refine hm.same fun k => ?_
      rw [lookO_putO]
      split
      · rename_i e; subst e; exact hobj.symm
      · rfl
  · obtain ⟨c, hv⟩ := win_at hw (by omega) r2
    obtain ⟨h1, ad, h2, h3⟩ := hw
    obtain ⟨hnil, _⟩ := h3 (by omega)
    obtain ⟨cs, ty, fr, ds, c1, c2, c3, c4, c5, c6⟩ := r6 hnil
    obtain ⟨cF, cU⟩ := c5 rfl
    have hsplit : xs = xs.take off ++ ((xs.drop off).take ys.length ++ xs.drop (off + ys.length)) := by rw [← List.drop_drop, List.take_append_drop, List.take_append_drop]
    have c3' := c3
    rw [hsplit] at c3'
    obtain ⟨d1, dd, e1, k1, k2⟩ := c3'.split
    obtain ⟨d2, d3, e2, k3, k4⟩ := k2.split
    have l1 : d1.length = off * T.sz := by rw [k1.len (fun x c => RepD_len)]; congr 1; simp; omega
    have l2 : d2.length = ys.length * T.sz := by rw [k3.len (fun x c => RepD_len)]; congr 1; simp; omega
    have hdl : ds.length = xs.length * T.sz := c3.len (fun x c => RepD_len)
    have hbnd : off * T.sz + news.length ≤ ds.length := by rw [e1, e2]; simp only [List.length_append]; omega
    have hcap : xs.length * T.sz ≤ (E.e n).cap * T.sz := Nat.mul_le_mul_right _ (by omega)
    rw [r3] at c2 hv
    have hb2 : (E.e n).base + off * T.sz + news.length ≤ cs.size := by omega
    have hst := run_storeCells_cells (P := P) (E.e n).blk ((E.e n).base + off * T.sz) news 0 w (fun j hj => by
      simp only [World.cell?, c1]
      simp; omega) (fun j hj => cU _ (by omega)) (fun u hu => cellOk_iff.1 (hall.mem (fun x c hc => RepD_ok hc) u hu))
    rw [Nat.add_zero] at hst
    obtain ⟨cs', m1, m2, m3⟩ := setCells_heap news ((E.e n).base + off * T.sz) w cs c1 hb2
    have hk : excl (E.e n) (lookO s.ob n) := by rw [hobj]; exact hnil
    have hsw := setCells_setW (E.e n).blk news ((E.e n).base + off * T.sz) w
    obtain ⟨m, hx⟩ := hm.write (o := .arr T (laid xs off ys) false) hk hsw.os hsw.tape hsw.output hsw.size hsw.old trivial (fun _ => hk) (fun hx => by
      have hll : List.length (laid xs off ys) = List.length xs := by simp [laid]; omega
      refine ⟨by rw [hll]; exact r1, r2, r3, r4, r5, fun _ => ⟨cs', ty, fr, splice ds (off * T.sz) news, m1, by rw [m3, r3]; exact c2, ?_, ?_, fun _ => ⟨cF, ?_⟩, fun h => by simp at h⟩⟩
      · rw [e1, e2, show splice (d1 ++ (d2 ++ d3)) (off * T.sz) news = d1 ++ (news ++ d3) by rw [← l1]; exact splice_mid (by omega)]
        exact (k1.append (hall.append k4)).imp fun x c hc => RepD.ext hx.fz hx.wd hc
      · exact c4.set hbnd
      · intro oo hoo
        rw [World.frozen?_setCells]
        exact cU oo (by omega))
    refine ⟨_, _, _, hv, fun ad' e => ?_, fun e => by simp at e, m, hx⟩
    simp only [Option.some.injEq] at e
    subst e
    exact hst
theorem winS_ok {x : V} {v : Value} {k : Nat → (t : Ty) → List (Den t) → Nat → Nat → Rd Wr} (h : Ev ok (winS x k) s wr) (hm : Mem C A E F s.ob w) (hr : RepV E F w x v) :
    ∃ n T xs off len, lookO s.ob n = .arr T xs false ∧ Win (E.e n) off len [v] ∧ Ev ok (k n T xs off len) s wr := by
  unfold winS at h
  split at h
  · rename_i n
    have h := h.get
    simp only [look] at h
    split at h
    · rename_i a' xs hobj
      simp only [Cn.o.injEq] at hobj
      refine ⟨n, _, xs, 0, _, hobj, ?_, h⟩
      have := hr.2.2
      rw [← (arr_at hm hobj).1] at this
      exact this
    · exact h.fail.elim
  · rename_i n off
    have h := h.get
    simp only [look] at h
    split at h
    · rename_i a' xs hobj
      simp only [Cn.o.injEq] at hobj
      refine ⟨n, _, xs, off, _, hobj, ?_, h⟩
      have := hr.2.2.2
      rw [← (arr_at hm hobj).1] at this
      exact this
    · exact h.fail.elim
  · rename_i n off len
    have h := h.get
    simp only [look] at h
    split at h
    · rename_i a' xs hobj
      simp only [Cn.o.injEq] at hobj
      exact ⟨n, _, xs, off, len, hobj, hr.2.2, h⟩
    · exact h.fail.elim
  · exact h.fail.elim
theorem op_clear (hti : TIok P cx) {c : Call} (ho : o.op = .call c) (hc : c.callee = .builtin .clear) : OpP P ok cx hi o := by
  intro C hC rg ix key A s a w wr K Q h hr hA hK
  simp only [opSem, ho, hc] at h
  obtain ⟨E, F, hm, ht⟩ := hr
  obtain ⟨xs, h1, h2⟩ := evs_ok h ht
  split at h2
  · rename_i x
    split at h2
    · rename_i t hat
      obtain ⟨p, hp, h3⟩ := one_arg h1
      obtain ⟨i, hi', h5⟩ := Cx.t_ev h2
      have hT := hti t i hi'
      have hat : c.argTypes = #[t] := by rw [← Array.toList_inj, hat]
      unfold clearS at h5
      split at h5
      · rename_i htd
        obtain ⟨e, hu, ⟨f, z, f1, f2, f3, f4, f5⟩⟩ := hT.slice htd
        obtain ⟨n, T, xs, off, len, hobj, hwin, h6⟩ := winS_ok h5 hm h3
        have e := castL_eq h6; subst e; have h6 := castL_same h6
        obtain ⟨zc, hz1, hz2⟩ := zD_rep (F := F) (w := w) _ _ _ f5
        rw [List.append_nil] at hz1
        rw [← hz1] at hz2
        have hzs : z.cells.size = i.ety.sz := by rw [← RepD_len hz2]; simp
        have hall := made_all (F := F) (w := w) hz2 len
        obtain ⟨w', ad, cap, hv, g1, g2, g3, g4⟩ := lay_ok (P := P) hm hobj hwin hall (by simp)
        obtain ⟨cs, hrun⟩ := run_builtin (P := P) ho hc a w
        have hex : (execOp a.eval o).run P w = .ok (.value (.tuple #[])) w' := by
          rw [hrun, hp, hat, show (Array.map a.eval #[p]) = #[a.eval p] by simp, hv]
          have hzv : (zeroValue e).run P w = .ok z w := by
            simp [zeroValue, typeInfo, f1, f4]
          cases ad with
          | none =>
            obtain ⟨rfl, _, _⟩ := g2 rfl
            simp only [builtin, Builtin.clear_, Sem.run_bind]
            simp [run_underlying hu]
          | some ad =>
            have := g1 ad rfl
            cases len with
            | zero =>
              have e0 : (madeCells z.cells (0 * i.ety.sz)).toList = [] := by simp [madeCells]
              rw [e0] at this
              have : w' = w := by simpa [storeCells] using this.symm
              subst this
              simp only [builtin, Builtin.clear_, Sem.run_bind]
              simp [run_underlying hu]
            | succ len =>
              have e1 : Builtin.zeroCells z.cells (len + 1) = madeCells z.cells ((len + 1) * i.ety.sz) := by rw [← hzs]; rfl
              rw [← e1] at this
              simp only [builtin, Builtin.clear_, Sem.run_bind]
              simp [run_underlying hu, hzv, this]
        unfold Oper.wp
        rw [hex]
        refine hK _ _ (rel_fin h6 (E' := E) (F' := F) ?_ ?_ ⟨#[], rfl, trivial⟩)
        · exact g3.mono fun k hk => .inl hk
        · exact ht.ext g4
      · exact h5.fail.elim
    · exact h2.fail.elim
  · exact h2.fail.elim
theorem op_copy (hti : TIok P cx) {c : Call} (ho : o.op = .call c) (hc : c.callee = .builtin .copy) : OpP P ok cx hi o := by
  intro C hC rg ix key A s a w wr K Q h hr hA hK
  simp only [opSem, ho, hc] at h
  obtain ⟨E, F, hm, ht⟩ := hr
  obtain ⟨xs, h1, h2⟩ := evs_ok h ht
  split at h2
  · rename_i x y
    split at h2
    · rename_i t tx hat
      obtain ⟨p, q, hp, h3, h4⟩ := two_args h1
      obtain ⟨i, hi', h5⟩ := Cx.t_ev h2
      have hT := hti t i hi'
      have hat : c.argTypes = #[t, tx] := by rw [← Array.toList_inj, hat]
      unfold copyS at h5
      split at h5
      · rename_i l htd
        obtain ⟨e, hu, ⟨f, z, f1, f2, f3, f4, f5⟩⟩ := hT.slice htd
        obtain ⟨n, T, xs, off, len, hobj, hwin, h6⟩ := winS_ok h5 hm h3
        have e' := castL_eq h6; subst e'; have h6 := castL_same h6
        obtain ⟨ys, nb, h7, h8⟩ := slD_ok h6 hm (cs := [a.eval q]) (by cases l <;> first | exact Ev.fail h6 |>.elim | exact h4.2)
        obtain ⟨sad, scap, k1, k2, k3⟩ := h7
        simp only [List.cons.injEq, and_true] at k1
        have hmin : (ys.take len).length = Nat.min ys.length len := by rw [List.length_take, Nat.min_comm]
        have hsz : (sizeOf e).run P w = .ok i.ety.sz w := by simp [sizeOf, typeInfo, f1, f2]
        obtain ⟨news, hall, hfc⟩ : ∃ news, All (fun x c => RepD F w i.ety x c) (ys.take len) news ∧ (Builtin.firstCells i.ety.sz (Nat.min ys.length len) (.slice sad ys.length scap)).run P w = .ok news.toArray w := by
          rcases k3 with rfl | ⟨b, oo, ds, rfl, k4, k5, k6⟩
          · refine ⟨[], by simp [All], ?_⟩
            cases sad with
            | none => exact run_firstCells_none w _ _ _ _
            | some ad => exact run_firstCells_some w _ _ ad _ _ [] (by simp) (by simp)
          · have k5' := k5
            rw [← List.take_append_drop len ys] at k5'
            obtain ⟨d1, d2, e1, q1, q2⟩ := k5'.split
            refine ⟨d1, q1, run_firstCells_some w _ _ _ _ _ d1 ?_ ?_⟩
            · rw [q1.len (fun x c => RepD_len), hmin]
            · intro j u hj
              rw [add_lit]
              refine k6 j u ?_
              rw [e1, List.getElem?_append_left (List.getElem?_eq_some_iff.1 hj).1]
              exact hj
        obtain ⟨w', ad, cap, hv, g1, g2, g3, g4⟩ := lay_ok (P := P) hm hobj hwin hall (by rw [List.length_take]; omega)
        obtain ⟨cs, hrun⟩ := run_builtin (P := P) ho hc a w
        have hex : (execOp a.eval o).run P w = .ok (.value (.int .i64 ((ys.take len).length : Int))) w' := by
          rw [hrun, hp, hat, show (Array.map a.eval #[p, q]) = #[a.eval p, a.eval q] by simp, hv, k1]
          rw [hmin]
          simp only [builtin, Builtin.copy_, Sem.run_bind]
          cases ad with
          | none =>
            obtain ⟨rfl, rfl, rfl⟩ := g2 rfl
            rw [show Nat.min ys.length 0 = 0 from Nat.min_zero _] at hfc
            simp [run_underlying hu, Builtin.lenOf, hsz, hfc, goInt]
          | some ad =>
            simp [run_underlying hu, Builtin.lenOf, hsz, hfc, g1 ad rfl, goInt]
        unfold Oper.wp
        rw [hex]
        refine hK _ _ (rel_fin h8 (E' := E) (F' := F) ?_ ?_ ?_)
        · exact g3.mono fun k hk => .inl hk
        · exact ht.ext g4
        · exact ⟨by simp [cellOk], by rw [RepL, RepD]⟩
      · exact h5.fail.elim
    · exact h2.fail.elim
  · exact h2.fail.elim
end
end Go.Proofs.Zs
/- Strings walked through; maps of one's own; values of interfaces. -/
set_option linter.unusedVariables false
set_option linter.unusedSimpArgs false
namespace Go.Proofs.Zs
open Go MapKept

def rawEI (b : Nat) : EI := { blk := b, base := 0, len := 0, cap := 0, esz := 0, nil := false, loff := fun _ => 0, eoff := fun _ => 0 }
theorem TOk.map {P : Program} {t : TypeId} {i : TI} (h : TOk P t i) (htd : i.td = .map) : ∃ ky e, P.underlying t = some (.map ky e) ∧ P.underlying ky = some .string ∧ zeroSc P e i.ety = true := by
  obtain ⟨d, d1, d2, d3⟩ := h.und
  cases d <;> simp only [tdOk, htd, Bool.false_eq_true] at d3
  case map ky e =>
    simp only [Bool.and_eq_true] at d3
    obtain ⟨g1, g2⟩ := d3
    refine ⟨ky, e, d1, ?_, g2⟩
    split at g1
    · assumption
    · cases g1
section
variable {P : Program} {ok : Nat → List DV → List DV → Prop} {cx : Cx} {hi : Hi} {o : Oper} {C : Frm} {A : Nat → Prop} {E : Env} {F : Nat → Prop} {s : St} {a : Act} {w w' : World} {wr : Wr} {K : Act → World → Prop} {Q : Exit → Act → World → Prop}
theorem raw_at {n : Nat} {x : Raw} (hm : Mem C A E F s.ob w) (hobj : lookO s.ob n = .raw x) : (E.e n).nil = false ∧ ¬ F (E.e n).blk ∧ RawAt F w (E.e n).blk x := by
  have := hm.rp n
  rw [hobj] at this
  exact this
theorem op_range (hti : TIok P cx) {t : TypeId} {x : Operand} (ho : o.op = .range t x) : OpP P ok cx hi o := by
  intro C hC rg ix key A s a w wr K Q h hr hA hK
  simp only [opSem, ho] at h
  obtain ⟨E, F, hm, ht⟩ := hr
  obtain ⟨i, hi', h⟩ := Cx.t_ev h
  have hT := hti t i hi'
  obtain ⟨X, h1, h2⟩ := ev_ok h ht
  unfold rangeS at h2
  split at h2
  · rename_i s0 htd
    have hx := of_str h1
    have hw := NewW.alloc w (.stringIter s0 0)
    refine new_rel (e := rawEI w.heap.size) (v := .pointer (some ⟨w.heap.size, 0, none⟩)) (ho := .stringIter s0 0) ?_ hw h2 hm ht hA rfl (fun hx => ⟨rfl, fun hf => ?_, Int.le_refl _, hw.last⟩) (fun hx => ⟨trivial, .inr rfl, by rw [Env.set_self]; rfl, by rw [Env.set_self]; rfl⟩) hK
    · simp only [execOp, ho, hx, Instr.range, Sem.run_bind, run_underlying (hT.str htd)]
      rfl
    · have := hm.fb _ hf
      simp [rawEI] at this
  · exact h2.fail.elim
/-- What writes in place and answers. -/
theorem set_rel2 {x : V} {v : Value} {obj : Obj} {n : Nat} {w' : World} {key : Nat} (hw : SetW w w' (E.e n).blk)
    (hrun : (execOp a.eval o).run P w = .ok (.value v) w') (h : Ev ok (fin hi o.dst [(.ob n, .o obj)] x) s wr) (hm : Mem C A E F s.ob w) (ht : Tms E F s.tm a w)
    (hk : excl (E.e n) (lookO s.ob n)) (hlv : obj.live) (hrp : ∀ hx : Ext E F w E F w', RepO E F w' (E.e n) obj) (hv : ∀ hx : Ext E F w E F w', RepV E F w' x v)
    (hK : ∀ a' w', Rel C (fun k => A k ∨ (key ≤ k ∧ k < key + stride)) (apply wr s) a' w' → K a' w') : o.wp P a w K Q := by
  unfold Oper.wp
  rw [hrun]
  obtain ⟨m, hx⟩ := hm.write hk hw.os hw.tape hw.output hw.size hw.old hlv (fun _ => hk) hrp
  refine hK _ _ (rel_fin h (E' := E) (F' := F) ?_ ?_ (hv hx))
  · rw [apply_ob]; exact m.mono fun _ h => .inl h
  · rw [apply_ob]; exact ht.ext hx
theorem setIf_run {b : Nat} {old obj : Go.Obj} {w : World} (hb : w.heap[b]? = some old) : SetW w { w with heap := w.heap.setIfInBounds b obj } b ∧ ({ w with heap := w.heap.setIfInBounds b obj } : World).heap[b]? = some obj := by
  obtain ⟨h1, h2⟩ := MapKept.heap_set (o' := obj) hb
  exact ⟨⟨rfl, rfl, rfl, by simp, h2⟩, h1⟩
theorem op_next {x : Operand} (ho : o.op = .next x true) : OpP P ok cx hi o := by
  intro C hC rg ix key A s a w wr K Q h hr hA hK
  simp only [opSem, ho] at h
  obtain ⟨E, F, hm, ht⟩ := hr
  obtain ⟨X, h1, h2⟩ := ev_ok h ht
  unfold nextS at h2
  split at h2
  · rename_i n
    obtain ⟨_, _, p2, p3⟩ := of_one (by intro _ e; cases e) h1
    simp only [List.cons.injEq, and_true] at p3
    have h2 := h2.get
    simp only [look] at h2
    split at h2
    · rename_i s0 p hobj
      simp only [Cn.o.injEq] at hobj
      obtain ⟨q1, q2, q3, q4⟩ := raw_at hm hobj
      rcases h2.ite with ⟨hb, h2⟩ | ⟨hb, h2⟩
      · have hb := of_decide_eq_true hb
        have hb' : p.toNat < s0.size := by omega
        obtain ⟨hs1, hs2⟩ := setIf_run (obj := .stringIter s0 (p.toNat + (Utf8.decode s0 p.toNat).2)) q4
        have e : ((p.toNat : Nat) : Int) = p := by omega
        refine set_rel2 (v := .tuple #[.bool true, .int .i64 p, .int .i32 (runeC s0 p)]) hs1 ?_ h2 hm ht (by rw [hobj]; trivial) trivial (fun hx => ⟨q1, q2, ?_, ?_⟩) (fun hx => ⟨_, rfl, ⟨trivial, ?_⟩, ⟨trivial, ?_⟩, ⟨trivial, ?_⟩, trivial⟩) hK
        · simp only [execOp, ho, p3, Sem.run_bind, Lib.run_next_any_at w _ s0 _ _ q4 hb', Result.andThen]
          rw [e]
          rfl
        · unfold runeW; omega
        · rw [hs2]; congr 2; unfold runeW; omega
        · rw [RepL, RepD]
        · rw [RepL, RepD]
        · rw [RepL, RepD]
      · have hb := of_decide_eq_false hb
        refine pure_rel (v := .tuple #[.bool false]) ?_ h2 hm ht ⟨_, rfl, ⟨trivial, by rw [RepL, RepD]⟩, trivial⟩ hK
        simp only [execOp, ho, p3, Sem.run_bind, Lib.run_next_end_at w _ s0 _ _ q4 (show ¬ p.toNat < s0.size by omega), Result.andThen]
        rfl
    · exact h2.fail.elim
  · exact h2.fail.elim
theorem op_makeMap (hti : TIok P cx) {t : TypeId} (ho : o.op = .makeMap t none) : OpP P ok cx hi o := by
  intro C hC rg ix key A s a w wr K Q h hr hA hK
  simp only [opSem, ho] at h
  obtain ⟨E, F, hm, ht⟩ := hr
  obtain ⟨i, hi', h⟩ := Cx.t_ev h
  unfold makeMapS at h
  split at h
  · rename_i htd hs
    have hw := NewW.alloc w (.map #[] 0)
    refine new_rel (e := rawEI w.heap.size) (v := .map (some w.heap.size)) (ho := .map #[] 0) ?_ hw h hm ht hA rfl (fun hx => ⟨rfl, fun hf => ?_, hs, #[], 0, hw.last, trivial⟩) (fun hx => ⟨trivial, .inr rfl, by rw [Env.set_self]; rfl, by rw [Env.set_self]; rfl⟩) hK
    · simp only [execOp, ho, Instr.makeMap, Sem.run_bind]
      rfl
    · have := hm.fb _ hf
      simp [rawEI] at this
  · exact h.fail.elim
/-- Entries of the machine's, and of the list. -/
theorem find_ent {F : Nat → Prop} {w : World} {t : Ty} {k : ByteArray} : ∀ {es : List (ByteArray × Den t)} {l : List MapEntry} (i : Nat), All2 (EntOk F w t) es l →
    (mapHas es k = false ∧ Instr.findNow .string (.string k) l i = some none) ∨
    (mapHas es k = true ∧ ∃ j m, Instr.findNow .string (.string k) l i = some (some (i + j, m.val)) ∧ l[j]? = some m ∧ m.key = .string k ∧ RepD F w t (mapGet (zeroD t) es k) [m.val] ∧
      ∀ v u, RepD F w t v [u] → All2 (EntOk F w t) (mapSet es k v) (l.modify j fun e => { e with key := .string k, val := u }))
  | [], [], i, _ => .inl ⟨rfl, rfl⟩
  | [], _ :: _, _, h => h.elim
  | _ :: _, [], _, h => h.elim
  | p :: es, m :: l, i, ⟨⟨h1, h2⟩, h⟩ => by
    have hs : Instr.sameNow .string (.string k) m.key = some (k == p.1) := by rw [h1]; rfl
    cases hk : k == p.1 with
    | true =>
      have he : k = p.1 := (bytes_beq _ _).1 hk
      refine .inr ⟨by simp [mapHas, hk], 0, m, by simp [Instr.findNow, hs, hk], rfl, by rw [h1, he], by simp only [mapGet, hk, if_true]; exact h2, fun v u hv => ?_⟩
      simp only [mapSet, hk, if_true]
      exact ⟨⟨by show Value.string k = _; rw [he], hv⟩, h⟩
    | false =>
      rcases find_ent (k := k) (i + 1) h with ⟨g1, g2⟩ | ⟨g1, j, m', g2, g3, g4, g5, g6⟩
      · exact .inl ⟨by simp [mapHas, hk, g1], by simp [Instr.findNow, hs, hk, g2]⟩
      · refine .inr ⟨by simp [mapHas, hk, g1], j + 1, m', by simp [Instr.findNow, hs, hk, g2]; omega, by simpa using g3, g4, by simp only [mapGet, hk]; simpa using g5, fun v u hv => ?_⟩
        simp only [mapSet, hk]
        exact ⟨⟨h1, h2⟩, g6 v u hv⟩
theorem set_new {F : Nat → Prop} {w : World} {t : Ty} {k : ByteArray} {v : Den t} {u : Value} {c : Nat} (hv : RepD F w t v [u]) : ∀ {es : List (ByteArray × Den t)} {l : List MapEntry}, All2 (EntOk F w t) es l → mapHas es k = false → All2 (EntOk F w t) (mapSet es k v) (l ++ [{ key := .string k, val := u, born := c }])
  | [], [], _, _ => ⟨⟨rfl, hv⟩, trivial⟩
  | [], _ :: _, h, _ => h.elim
  | _ :: _, [], h, _ => h.elim
  | p :: es, m :: l, ⟨h1, h⟩, hk => by
    simp only [mapHas, Bool.or_eq_false_iff] at hk
    simp only [mapSet, hk.1]
    exact ⟨h1, set_new hv h hk.2⟩
theorem scalar_one {F : Nat → Prop} {w : World} {t : Ty} (hs : scalar t = true) {v : Den t} {cs : List Value} (h : RepD F w t v cs) : ∃ u, cs = [u] ∧ RepW E F w (.one (.dat t v)) u := by
  cases t <;> simp only [scalar, Bool.false_eq_true] at hs
  case int k => rw [RepD] at h; exact ⟨_, h, trivial, by rw [RepL, RepD]⟩
  case bool => rw [RepD] at h; exact ⟨_, h, trivial, by rw [RepL, RepD]⟩
theorem mapGet_none {α : Type} {z : α} {k : ByteArray} : ∀ {es : List (ByteArray × α)}, mapHas es k = false → mapGet z es k = z
  | [], _ => rfl
  | p :: r, h => by
    simp only [mapHas, Bool.or_eq_false_iff] at h
    simp only [mapGet, h.1]
    exact mapGet_none h.2
theorem zeroSc_spec {e : TypeId} {t : Ty} (h : zeroSc P e t = true) : scalar t = true ∧ ∃ z, (zeroValue e).run P w = .ok z w ∧ RepW E F w (.one (.dat t (zeroD t))) z := by
  cases t <;> simp only [zeroSc, Bool.false_eq_true] at h
  case int k =>
    split at h
    · rename_i f hf
      split at h
      · rename_i k' n hz
        simp only [Bool.and_eq_true, decide_eq_true_eq] at h
        obtain ⟨rfl, rfl⟩ := h
        exact ⟨rfl, .int k' 0, by simp [zeroValue, typeInfo, hf, hz], trivial, by rw [RepL, RepD]; rfl⟩
      · cases h
    · cases h
  case bool =>
    split at h
    · rename_i f hf
      split at h
      · rename_i b hz
        cases b with
        | true => cases h
        | false => exact ⟨rfl, .bool false, by simp [zeroValue, typeInfo, hf, hz], trivial, by rw [RepL, RepD]; rfl⟩
      · cases h
    · cases h
theorem op_lookup (hti : TIok P cx) {t : TypeId} {x i : Operand} {k : Bool} (ho : o.op = .lookup t x i k) : OpP P ok cx hi o := by
  intro C hC rg ix key A s a w wr K Q h hr hA hK
  simp only [opSem, ho] at h
  obtain ⟨E, F, hm, ht⟩ := hr
  obtain ⟨T, hi', h0⟩ := Cx.t_ev h
  clear h
  have hT := hti t T hi'
  obtain ⟨X, h1, hx⟩ := ev_ok h0 ht
  clear h0
  obtain ⟨I, h2, h⟩ := ev_ok hx ht
  clear hx
  unfold lookupS at h
  split at h
  · rename_i n kk htd
    obtain ⟨_, _, p2, p3⟩ := of_one (by intro _ e; cases e) h1
    simp only [List.cons.injEq, and_true] at p3
    have hk := of_str h2
    obtain ⟨ky, e, d1, d2, d3⟩ := hT.map htd
    have h := h.get
    simp only [look] at h
    split at h
    · rename_i u es hobj
      simp only [Cn.o.injEq] at hobj
      obtain ⟨q1, q2, q3, l, c, q4, q5⟩ := raw_at hm hobj
      split at h
      · rename_i hu hsc
        have hu := tyEq_spec hu
        subst hu
        obtain ⟨hsc, z, hz, hzr⟩ := zeroSc_spec (w := w) (E := E) (F := F) d3
        have hkey : MapKept.IsKey .string (.string kk) := trivial
        have run : ∃ v, (Instr.lookup t (a.eval x) (a.eval i) k).run P w = .ok (if k then .tuple #[v, .bool (mapHas es kk)] else v) w ∧ RepW E F w (.one (.dat T.ety (mapGet (zeroD T.ety) es kk))) v := by
          rcases find_ent (k := kk) 0 q5 with ⟨g1, g2⟩ | ⟨g1, j, m, g2, g3, g4, g5, _⟩
          · refine ⟨z, ?_, by rw [mapGet_none g1]; exact hzr⟩
            simp [Instr.lookup, p3, hk, run_underlying d1, MapKept.run_getObj_map q4, MapKept.run_checkKey d2 hkey, MapKept.run_findKey d2 g2, hz, g1, Result.andThen]
          · obtain ⟨v, hv, hr⟩ := scalar_one (E := E) hsc g5
            simp only [List.cons.injEq, and_true] at hv
            subst hv
            refine ⟨m.val, ?_, hr⟩
            simp [Instr.lookup, p3, hk, run_underlying d1, MapKept.run_getObj_map q4, MapKept.run_checkKey d2 hkey, MapKept.run_findKey d2 g2, g1, Result.andThen]
        obtain ⟨v, hrun, hv⟩ := run
        split at h
        · refine pure_rel (v := .tuple #[v, .bool (mapHas es kk)]) ?_ h hm ht ⟨_, rfl, hv, ⟨trivial, by rw [RepL, RepD]⟩, trivial⟩ hK
          simp only [execOp, ho, Sem.run_bind, hrun, Result.andThen]
          rfl
        · refine pure_rel (v := v) ?_ h hm ht hv hK
          simp only [execOp, ho, Sem.run_bind, hrun, Result.andThen]
          rfl
      · exact h.fail.elim
    · exact h.fail.elim
  · exact h.fail.elim
theorem tyc_ev {α : Type} {t u : Ty} {k : t = u → Rd α} {r : α} (h : Ev ok (tyc t u k .fail) s r) : ∃ e : t = u, Ev ok (k e) s r := by
  rcases tyc_or (t := t) (u := u) (k := k) (e := .fail) with ⟨e, h1⟩ | h1
  · rw [h1] at h; exact ⟨e, h⟩
  · rw [h1] at h; exact h.fail.elim
theorem op_mapUpdate (hti : TIok P cx) {t : TypeId} {x i v : Operand} (ho : o.op = .mapUpdate t x i v) : OpP P ok cx hi o := by
  intro C hC rg ix key A s a w wr K Q h hr hA hK
  simp only [opSem, ho] at h
  obtain ⟨E, F, hm, ht⟩ := hr
  obtain ⟨T, hi', h0⟩ := Cx.t_ev h
  clear h
  have hT := hti t T hi'
  obtain ⟨X, h1, hx⟩ := ev_ok h0 ht
  clear h0
  obtain ⟨I, h2, h0⟩ := ev_ok hx ht
  clear hx
  obtain ⟨Y, h3, h⟩ := ev_ok h0 ht
  clear h0
  unfold mapSetS at h
  split at h
  · rename_i n kk u y htd
    obtain ⟨_, _, p2, p3⟩ := of_one (by intro _ e; cases e) h1
    simp only [List.cons.injEq, and_true] at p3
    have hk := of_str h2
    obtain ⟨ky, e, d1, d2, d3⟩ := hT.map htd
    have h := h.get
    simp only [look] at h
    split at h
    · rename_i u' es hobj
      simp only [Cn.o.injEq] at hobj
      obtain ⟨q1, q2, q3, l, c, q4, q5⟩ := raw_at hm hobj
      split at h
      · rename_i hsc
        obtain ⟨hy, h9⟩ := tyc_ev h
        clear h
        subst hy
        have h := h9
        have hv : RepD F w u y [a.eval v] := (of_one (by intro _ e; cases e) h3).2
        have hkey : MapKept.IsKey .string (.string kk) := trivial
        have run : ∃ l' c', (Instr.mapUpdate t (a.eval x) (a.eval i) (a.eval v)).run P w = .ok () { w with heap := w.heap.setIfInBounds (E.e n).blk (.map l' c') } ∧ All2 (EntOk F w u) (mapSet es kk y) l'.toList := by
          rcases find_ent (k := kk) 0 q5 with ⟨g1, g2⟩ | ⟨g1, j, m, g2, g3, g4, g5, g6⟩
          · refine ⟨l.push ⟨.string kk, a.eval v, c⟩, c + 1, ?_, by rw [Array.toList_push]; exact set_new hv q5 g1⟩
            simp [Instr.mapUpdate, p3, hk, run_underlying d1, MapKept.run_getObj_map q4, MapKept.run_checkKey d2 hkey, MapKept.run_findKey d2 g2, MapKept.run_setObj_map _ q4, Result.andThen]
          · have hj : l[j]? = some m := by rw [← Array.getElem?_toList]; exact g3
            refine ⟨l.modify j fun e => { e with key := .string kk, val := a.eval v }, c, ?_, by rw [Array.toList_modify]; exact g6 y _ hv⟩
            simp [Instr.mapUpdate, p3, hk, run_underlying d1, MapKept.run_getObj_map q4, MapKept.run_checkKey d2 hkey, MapKept.run_findKey d2 g2, hj, g4, MapKept.run_keyThatStays hkey, MapKept.run_setObj_map _ q4, Result.andThen]
        obtain ⟨l', c', hrun, hl⟩ := run
        obtain ⟨hs1, hs2⟩ := setIf_run (obj := .map l' c') q4
        have hwr : wr = match (motive := Option Nat → Wr) o.dst with | none => [(Loc.ob n, Cn.o (.raw (.mp u (mapSet es kk y))))] | some d => [(Loc.ob n, Cn.o (.raw (.mp u (mapSet es kk y))))] ++ [(.tmp d, .v bad)] := by
          cases hd : o.dst with
          | none => rw [hd] at h; exact h.ret
          | some d => rw [hd] at h; exact h.ret
        refine set_rel (x := bad) (s' := s) (n := n) (obj := .raw (.mp u (mapSet es kk y))) hs1 ?_ hwr rfl (fun m => by rw [apply_ob]; exact lookO_putO _ _ _ _) hm ht (by rw [hobj]; trivial) trivial (fun _ => by rw [hobj]; trivial) (fun hx => ⟨q1, q2, q3, l', c', hs2, hl.imp fun _ _ hc => ⟨hc.1, RepD.ext hx.fz hx.wd hc.2⟩⟩) hK
        simp only [execOp, ho, Sem.run_bind, hrun, Result.andThen]
        rfl
      · exact h.fail.elim
    · exact h.fail.elim
  · exact h.fail.elim
theorem dvs_spec {E : Env} : ∀ {ls : List L} {vs : List DV}, dvs ls = some vs → (vs.all fun d => scalar d.t) = true ∧ ∀ {cs : List Value}, RepLs E F w ls cs → All (fun (d : DV) cs => RepD F w d.t d.v cs) vs cs
  | [], vs, h => by simp only [dvs, Option.some.injEq] at h; subst h; exact ⟨rfl, fun h => h⟩
  | l :: r, vs, h => by
    cases l <;> simp only [dvs, reduceCtorEq] at h
    case dat t v =>
      split at h
      · rename_i q hs hq
        simp only [Option.some.injEq] at h
        subst h
        obtain ⟨g1, g2⟩ := dvs_spec (E := E) hq
        refine ⟨by simp [hs, g1], fun ⟨c, d, e, h1, h2⟩ => ⟨c, d, e, h1, g2 h2⟩⟩
      · cases h
theorem op_makeInterface (hti : TIok P cx) {t : TypeId} {x : Operand} (ho : o.op = .makeInterface t x) : OpP P ok cx hi o := by
  intro C hC rg ix key A s a w wr K Q h hr hA hK
  simp only [opSem, ho] at h
  obtain ⟨E, F, hm, ht⟩ := hr
  obtain ⟨T, hi', h0⟩ := Cx.t_ev h
  clear h
  have hT := hti t T hi'
  obtain ⟨X, h1, h⟩ := ev_ok h0 ht
  clear h0
  unfold ifaceS at h
  split at h
  · rename_i ls htd
    obtain ⟨cs, hcs, hr⟩ := of_agg h1
    obtain ⟨fs, hu, _⟩ := hT.struct htd
    split at h
    · rename_i vs hvs
      obtain ⟨g1, g2⟩ := dvs_spec (E := E) (F := F) (w := w) hvs
      refine pure_rel (v := .iface t (.agg cs)) ?_ h hm ht ⟨trivial, g1, cs, rfl, g2 hr⟩ hK
      simp [execOp, ho, hcs, Instr.makeInterface, run_underlying hu, Result.andThen]
    · exact h.fail.elim
  · exact h.fail.elim
theorem lsOf_rep {E : Env} : ∀ {vs : List DV} {cs : List Value}, All (fun (d : DV) cs => RepD F w d.t d.v cs) vs cs → RepLs E F w (lsOf vs) cs
  | [], _, h => h
  | d :: r, _, ⟨c, e, h1, h2, h3⟩ => ⟨c, e, h1, h2, lsOf_rep h3⟩
theorem op_typeAssert (hti : TIok P cx) {t u : TypeId} {x : Operand} (ho : o.op = .typeAssert x u t true) : OpP P ok cx hi o := by
  intro C hC rg ix key A s a w wr K Q h hr hA hK
  simp only [opSem, ho] at h
  obtain ⟨E, F, hm, ht⟩ := hr
  obtain ⟨T, hi', h0⟩ := Cx.t_ev h
  clear h
  have hT := hti t T hi'
  obtain ⟨X, h1, h⟩ := ev_ok h0 ht
  clear h0
  unfold assertS at h
  split at h
  · rename_i m vs htd
    obtain ⟨_, g1, cs, g2, g3⟩ := of_one (by intro _ e; cases e) h1
    simp only [List.cons.injEq, and_true] at g2
    obtain ⟨fs, hu, _⟩ := hT.struct htd
    split at h
    · rename_i hb
      have hb := Nat.eq_of_beq_eq_true hb
      subst hb
      refine pure_rel (v := .tuple #[.agg cs, .bool true]) ?_ h hm ht ⟨_, rfl, ⟨cs, rfl, lsOf_rep g3⟩, ⟨trivial, by rw [RepL, RepD]⟩, trivial⟩ hK
      simp [execOp, ho, g2, Instr.typeAssert, run_underlying hu, Result.andThen]
    · rename_i hb
      have hb : ¬ m = t := fun e => by rw [e, Nat.beq_refl] at hb; cases hb
      obtain ⟨f, z, f1, f2, f3, f4, f5⟩ := hT.inf
      have hag : T.agg = true := by unfold TI.agg; rw [htd]
      have hz : ∃ c, z = .agg c := by
        cases z <;> simp only [hag, Bool.not_true, Bool.false_eq_true] at f5
        exact ⟨_, rfl⟩
      obtain ⟨c, rfl⟩ := hz
      refine pure_rel (v := .tuple #[.agg c, .bool false]) ?_ h hm ht ⟨_, rfl, ⟨c, rfl, zkD_rep _ _ f4⟩, ⟨trivial, by rw [RepL, RepD]⟩, trivial⟩ hK
      simp [execOp, ho, g2, Instr.typeAssert, run_underlying hu, Result.andThen, hb, zeroValue, typeInfo, f1, f3]
  · exact h.fail.elim
end
end Go.Proofs.Zs
