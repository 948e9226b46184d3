import Derived.Test.YtnfpdmhdpeffjaaGreatEngR
set_option linter.unusedSimpArgs false
set_option linter.unusedVariables false
/- Stores. -/
set_option linter.unusedVariables false
set_option linter.unusedSimpArgs false
namespace Go.Proofs.Zz
open Go

theorem splice_cons {α : Type} (x : α) (l : List α) (k : Nat) (d : List α) : splice (x :: l) (k + 1) d = x :: splice l k d := by
  simp [splice, Nat.add_right_comm]
theorem splice_set {α : Type} : ∀ (l : List α) (k : Nat) (v : α) (rest : List α), k + (rest.length + 1) ≤ l.length → splice (l.set k v) (k + 1) rest = splice l k (v :: rest)
  | [], _, _, _, h => by simp at h
  | x :: l, 0, v, rest, h => by
    simp only [List.set_cons_zero, splice_cons]
    simp [splice]
  | x :: l, k + 1, v, rest, h => by
    simp only [List.length_cons] at h
    simp only [List.set_cons_succ, splice_cons]
    rw [splice_set l k v rest (by omega)]

/-- Nothing but cells of one block. -/
structure SetW (w w' : World) (b : Nat) : Prop where
  os : w'.os = w.os
  tape : w'.tape = w.tape
  output : w'.output = w.output
  size : w'.heap.size = w.heap.size
  old : ∀ k, k ≠ b → w'.heap[k]? = w.heap[k]?
theorem SetW.refl (w : World) (b : Nat) : SetW w w b := ⟨rfl, rfl, rfl, rfl, fun _ _ => rfl⟩
theorem SetW.trans {w w' w'' : World} {b : Nat} (h : SetW w w' b) (h' : SetW w' w'' b) : SetW w w'' b :=
  ⟨h'.os.trans h.os, h'.tape.trans h.tape, h'.output.trans h.output, h'.size.trans h.size, fun k hk => (h'.old k hk).trans (h.old k hk)⟩
theorem setCell_heap {w : World} {b o : Nat} {v : Value} {cs : Array Value} {t : TypeId} {fr : Nat × Nat} (h : w.heap[b]? = some (.cells cs t fr)) : (w.setCell ⟨b, o, none⟩ v).heap[b]? = some (.cells (cs.setIfInBounds o v) t fr) := by
  simp [World.setCell, Array.getElem?_modify, h]
theorem setCell_setW (w : World) (b o : Nat) (v : Value) : SetW w (w.setCell ⟨b, o, none⟩ v) b := by
  refine ⟨rfl, rfl, rfl, by simp [World.setCell], fun k hk => ?_⟩
  simp [World.setCell, Array.getElem?_modify, Ne.symm hk]
theorem setCells_setW (b : Nat) : ∀ (vs : List Value) (o : Nat) (w : World), SetW w (w.setCells b o vs) b
  | [], _, w => SetW.refl w b
  | v :: r, o, w => (setCell_setW w b o v).trans (setCells_setW b r (o + 1) _)
theorem setCells_heap {b : Nat} {t : TypeId} {fr : Nat × Nat} : ∀ (vs : List Value) (o : Nat) (w : World) (cs : Array Value), w.heap[b]? = some (.cells cs t fr) → o + vs.length ≤ cs.size →
    ∃ cs' : Array Value, (w.setCells b o vs).heap[b]? = some (.cells cs' t fr) ∧ cs'.toList = splice cs.toList o vs ∧ cs'.size = cs.size
  | [], o, w, cs, h, _ => ⟨cs, h, by rw [splice_nil], rfl⟩
  | v :: r, o, w, cs, h, hb => by
    simp only [List.length_cons] at hb
    obtain ⟨cs', h1, h2, h3⟩ := setCells_heap r (o + 1) _ _ (setCell_heap (o := o) (v := v) h) (by simp; omega)
    refine ⟨cs', h1, ?_, by rw [h3]; simp⟩
    rw [h2]
    have := list_seg_step cs.toList o v r (by simp; omega)
    simp only [splice, Array.toList_setIfInBounds, List.length_cons]
    simpa [List.append_assoc] using this

section
variable {P : Program} {ok : Nat → List DV → List DV → Prop} {cx : Cx} {hi : Hi} {o : Oper} {C : Frm} {A : Nat → Prop} {E : Env} {F : Nat → Prop} {s : St} {a : Act} {w : World} {α : Type} {r : α} {wr : Wr}
theorem storeAt_ok {t : TypeId} {i : TI} (hT : TOk P t i) {b o : Nat} {v : Value} (hsz : v.cells.size = i.lay.sum) (h1 : ∀ u ∈ v.cells.toList, cellOk u)
    {cs : Array Value} {ty : TypeId} {fr : Nat × Nat} (hb : w.heap[b]? = some (.cells cs ty fr)) (ho : o + v.cells.size ≤ cs.size) (hf : ∀ j, j < cs.size → w.frozen? ⟨b, j, none⟩ = false) :
    (Instr.storeAt t (.pointer (some ⟨b, o, none⟩)) v).run P w = .ok () (w.setCells b o v.cells.toList) := by
  have hst := run_storeCells_cells (P := P) b o v.cells.toList 0 w (fun j hj => by
      simp only [World.cell?, hb]
      simp at hj
      simp; omega) (fun j hj => hf _ (by simp at hj; omega)) (fun u hu => cellOk_iff.1 (h1 u hu))
  rw [Nat.add_zero] at hst
  obtain ⟨f, z, f1, f2, _⟩ := hT.inf
  simp only [Instr.storeAt, Instr.sureAddr, storeVar, Sem.run_bind, Sem.run_pure, Result.andThen_ok, hT.sizeOf, hsz]
  simp [hst]
theorem apply_wrLs {k : Nat} : ∀ (vl : List L) (l : Nat) (s : St) (bl : List L), lookO s.ob k = .box bl → l + vl.length ≤ bl.length →
    (apply (wrLs k l vl) s).tm = s.tm ∧ ∀ n, lookO (apply (wrLs k l vl) s).ob n = if k = n then .box (splice bl l vl) else lookO s.ob n
  | [], l, s, bl, h, _ => ⟨rfl, fun n => by
      split
      · rename_i e; subst e; rw [splice_nil]; exact h
      · rfl⟩
  | x :: r, l, s, bl, h, hb => by
    simp only [List.length_cons] at hb
    have e1 : asg s (.lf k l) (.l x) = { s with ob := putO s.ob k (.box (bl.set l x)) } := by simp only [asg, h, setN_eq]
    simp only [wrLs, apply, e1]
    obtain ⟨h1, h2⟩ := apply_wrLs r (l + 1) { s with ob := putO s.ob k (.box (bl.set l x)) } (bl.set l x) (by simp only; rw [lookO_putO, if_pos rfl]) (by simp; omega)
    refine ⟨h1, fun n => ?_⟩
    rw [h2 n, lookO_putO]
    split
    · congr 1
      exact splice_set bl l x r hb
    · rfl
/-- What a store leaves. -/
theorem set_rel {x : V} {obj : Obj} {n : Nat} {s' : St} {wr' : Wr} {w' : World} {K : Act → World → Prop} {Q : Exit → Act → World → Prop} {key : Nat} (hw : SetW w w' (E.e n).blk)
    (hrun : (execOp a.eval o).run P w = .ok .skip w') (hwr : wr = match (motive := Option Nat → Wr) o.dst with | none => wr' | some d => wr' ++ [(.tmp d, .v bad)])
    (htm : (apply wr' s).tm = s.tm) (hob : ∀ m, lookO (apply wr' s).ob m = if n = m then obj else lookO s.ob m) (hm : Mem C A E F s.ob w) (ht : Tms E F s.tm a w)
    (hk : excl (E.e n) (lookO s.ob n)) (hlv : obj.live) (hex : excl (E.e n) obj → excl (E.e n) (lookO s.ob n)) (hrp : ∀ hx : Ext E F w E F w', RepO E F w' (E.e n) obj)
    (hK : ∀ a' w', Rel C (fun k => A k ∨ (key ≤ k ∧ k < key + stride)) (apply wr s) a' w' → K a' w') : o.wp P a w K Q := by
  unfold Oper.wp
  rw [hrun]
  show K (a.put o.dst undef) w'
  obtain ⟨m, hx⟩ := hm.write hk hw.os hw.tape hw.output hw.size hw.old hlv hex hrp
  have m := (m.same (ob' := (apply wr' s).ob) (fun k => by rw [hob, lookO_putO])).mono (A' := fun k => A k ∨ (key ≤ k ∧ k < key + stride)) fun _ h => .inl h
  have ht' : Tms E F (apply wr' s).tm a w' := by rw [htm]; exact ht.ext hx
  apply hK
  cases hd : o.dst with
  | none =>
    rw [hd] at hwr
    simp only at hwr
    subst hwr
    exact ⟨E, F, m, ht'.put_none undef⟩
  | some d =>
    rw [hd] at hwr
    simp only at hwr
    subst hwr
    rw [apply_append]
    exact ⟨E, F, m, ht'.put d RepV_bad⟩
end
end Go.Proofs.Zz
