import Derived.Test.YtnfpdmhdpeffjaaGreatEngJ
import Derived.Laws.Cells
set_option linter.unusedSimpArgs false
set_option linter.unusedVariables false
/- Loads and addresses. -/
set_option linter.unusedVariables false
set_option linter.unusedSimpArgs false
namespace Go.Proofs.Zz
open Go

theorem add_lit (b o n : Nat) : (⟨b, o, none⟩ : Addr).add n = ⟨b, o + n, none⟩ := by
  unfold Addr.add
  split
  · rename_i h; subst h; rfl
  · rfl
theorem nthO_eq {α : Type} : ∀ (l : List α) (n : Nat), nthO l n = l[n]?
  | [], _ => by simp [nthO]
  | _ :: _, 0 => by simp [nthO]
  | _ :: r, n + 1 => by simp only [nthO, nthO_eq r n]; simp
theorem sizes_append (a b : List L) : sizes (a ++ b) = sizes a ++ sizes b := by simp [sizes_eq]
theorem sizes_take (l : List L) (n : Nat) : sizes (l.take n) = (sizes l).take n := by simp [sizes_eq]
theorem sizes_len (l : List L) : (sizes l).length = l.length := by simp [sizes_eq]

section
variable {P : Program} {E : Env} {F : Nat → Prop} {w : World} {t : TypeId} {i : TI}
/-- Some leaves' cells, where they lie. -/
theorem seg_ok {ls : List L} {c : List Value} {b o : Nat} (h : RepLs E F w ls c) (ha : At w b o c) (l n : Nat) :
    ∃ c', RepLs E F w (takeN n (dropN l ls)) c' ∧ At w b (o + ((sizes ls).take l).sum) c' := by
  rw [takeN_eq, dropN_eq]
  have e : ls = ls.take l ++ ((ls.drop l).take n ++ (ls.drop l).drop n) := by rw [List.take_append_drop, List.take_append_drop]
  rw [e] at h
  obtain ⟨c1, d, rfl, h1, h2⟩ := h.split
  obtain ⟨c2, c3, rfl, h3, h4⟩ := h2.split
  refine ⟨c2, h3, ?_⟩
  have := (ha.append.2).append.1
  rwa [sizes_sum h1, sizes_take] at this

theorem TOk.one (h : TOk P t i) (ha : i.agg = false) : i.lay.sum = 1 := by
  obtain ⟨f, z, h1, h2, h3, h4, h5⟩ := h.inf
  have := sizes_sum (zkD_rep (E := ⟨fun _ => ⟨0, 0, 0, 0, 0, false, fun _ => 0, fun _ => 0, [], [], .bool false⟩, fun _ => False⟩) (F := fun _ => False) (w := default) _ _ h4)
  rw [← h.lay] at this
  rw [← this]
  cases z <;> simp [ha, Value.cells] at h5 ⊢
theorem TOk.isAgg (h : TOk P t i) : (isAgg t).run P w = .ok i.agg w := by
  obtain ⟨d, h1, h2, _⟩ := h.und
  unfold Go.isAgg
  simp only [Sem.run_bind, run_underlying h1, Result.andThen_ok]
  rw [← h2]
  cases d <;> simp [isAggD]
theorem TOk.sizeOf (h : TOk P t i) : (sizeOf t).run P w = .ok i.lay.sum w := by
  obtain ⟨f, z, h1, h2, _⟩ := h.inf
  simp [Go.sizeOf, typeInfo, h1, h2]
theorem load_ok (h : TOk P t i) {b o : Nat} {c : List Value} {ls : List L} (hr : RepLs E F w ls c) (ha : At w b o c) (hl : natsEq (sizes ls) i.lay = true) {v : V} (hv : toV i ls = some v) :
    ∃ y, (Instr.loadAt t (.pointer (some ⟨b, o, none⟩))).run P w = .ok y w ∧ RepV E F w v y := by
  have hl := natsEq_spec hl
  have hc : c.length = i.lay.sum := by rw [sizes_sum hr, hl]
  unfold toV at hv
  cases hag : i.agg with
  | true =>
    rw [hag] at hv
    simp only [Option.some.injEq] at hv; subst hv
    refine ⟨.agg c.toArray, ?_, c.toArray, rfl, by simpa using hr⟩
    simp only [Instr.loadAt, Instr.sureAddr, loadVar, Sem.run_bind, Sem.run_pure, Result.andThen_ok, h.isAgg, hag, if_true, h.sizeOf]
    rw [← hc, run_loadCells_list w ⟨b, o, none⟩ c (fun j u hj => by rw [add_lit]; exact ha j u hj)]
    rfl
  | false =>
    rw [hag] at hv
    match ls, hv, hr with
    | [l], hv, hr =>
      simp only [Option.some.injEq] at hv; subst hv
      have hr := All.one.1 hr
      have h1 := h.one hag
      match c, hr, ha, hc with
      | [u], hr, ha, hc =>
        refine ⟨u, ?_, one_of (RepL_ok hr u (by simp)) hr⟩
        simp only [Instr.loadAt, Instr.sureAddr, loadVar, Sem.run_bind, Sem.run_pure, Result.andThen_ok, h.isAgg, hag, Bool.false_eq_true, if_false, run_load, ha.one]
      | [], _, _, hc => simp at hc; omega
      | _ :: _ :: _, _, _, hc => simp at hc; omega
    | [], hv, _ => simp at hv
    | _ :: _ :: _, hv, _ => simp at hv
end

section
variable {P : Program} {ok : Nat → List DV → List DV → Prop} {α : Type} {s : St} {r : α} {C : Frm} {A : Nat → Prop} {E : Env} {F : Nat → Prop} {w : World}
/-- Leaves read out of a box. -/
theorem rdLs_ok {k : Nat} : ∀ (n l : Nat) {f : List L → Rd α}, Ev ok (rdLs k n l f) s r →
    ∃ ls, ls.length = n ∧ Ev ok (f ls) s r ∧ (n = 0 ∨ ∃ bl, lookO s.ob k = .box bl ∧ ls = takeN n (dropN l bl) ∧ l + n ≤ bl.length)
  | 0, l, f, h => ⟨[], rfl, h, .inl rfl⟩
  | n + 1, l, f, h => by
    simp only [rdLs] at h
    have h := h.get
    split at h
    · rename_i x hx
      obtain ⟨ls, h1, h2, h3⟩ := rdLs_ok n (l + 1) h
      simp only [look] at hx
      split at hx
      · rename_i bl hbl
        split at hx
        · rename_i y hy
          simp only [Cn.l.injEq] at hx; subst hx
          rw [nthO_eq] at hy
          have hlt := (List.getElem?_eq_some_iff.1 hy).1
          refine ⟨y :: ls, by simp [h1], h2, .inr ⟨bl, hbl, ?_, ?_⟩⟩
          · rcases h3 with rfl | ⟨bl', e1, e2, e3⟩
            · have : ls = [] := List.length_eq_zero_iff.1 h1
              subst this
              rw [takeN_eq, dropN_eq, List.drop_eq_getElem_cons hlt]
              simp [(List.getElem?_eq_some_iff.1 hy).2]
            · rw [hbl] at e1; simp only [Obj.box.injEq] at e1; subst e1
              rw [takeN_eq, dropN_eq, List.drop_eq_getElem_cons hlt, List.take_succ_cons, (List.getElem?_eq_some_iff.1 hy).2]
              rw [e2, takeN_eq, dropN_eq]
          · rcases h3 with rfl | ⟨bl', e1, e2, e3⟩
            · omega
            · rw [hbl] at e1; simp only [Obj.box.injEq] at e1; subst e1; omega
        · simp at hx
      · simp at hx
    · exact h.fail.elim
theorem box_at {k : Nat} {bl : List L} (hm : Mem C A E F s.ob w) (hb : lookO s.ob k = .box bl) : ∃ cs t, BoxAt w (E.e k) t cs ∧ RepLs E F w bl cs ∧ At w (E.e k).blk (E.e k).pre.length cs ∧
    ∀ i, i ≤ bl.length → (E.e k).loff i = (E.e k).pre.length + ((sizes bl).take i).sum := by
  have := hm.rp k
  rw [hb] at this
  obtain ⟨cs, t, h1, h2, h3, h4⟩ := this
  refine ⟨cs, t, h1, h2, fun j u hj => ?_, h4⟩
  obtain ⟨ds, fr, k1, k2, k3⟩ := h1
  unfold World.cell?
  simp only [k1, Option.isSome_none, Bool.false_eq_true, if_false]
  have hlt := (List.getElem?_eq_some_iff.1 hj).1
  rw [← Array.getElem?_toList, k2, List.getElem?_append_right (by omega), Nat.add_sub_cancel_left, List.getElem?_append_left hlt]
  exact hj
theorem box_seg {k n l : Nat} {ls : List L} (hm : Mem C A E F s.ob w) (hn : ls.length = n) (h : n = 0 ∨ ∃ bl, lookO s.ob k = .box bl ∧ ls = takeN n (dropN l bl) ∧ l + n ≤ bl.length) :
    ∃ c, RepLs E F w ls c ∧ At w (E.e k).blk ((E.e k).loff l) c := by
  rcases h with rfl | ⟨bl, h1, rfl, h3⟩
  · have : ls = [] := List.length_eq_zero_iff.1 hn
    subst this
    exact ⟨[], rfl, At.nil⟩
  · obtain ⟨cs, t, k1, k2, k3, k4⟩ := box_at hm h1
    obtain ⟨c, g1, g2⟩ := seg_ok k2 k3 l n
    refine ⟨c, g1, ?_⟩
    rw [k4 l (by omega)]
    simpa using g2
theorem lf_ok {k l : Nat} {x : L} (h : look s (.lf k l) = .l x) : ∃ bl, lookO s.ob k = .box bl ∧ bl[l]? = some x := by
  simp only [look] at h
  split at h
  · rename_i bl hbl
    split at h
    · rename_i y hy
      simp only [Cn.l.injEq] at h; subst h
      exact ⟨bl, hbl, by rw [← nthO_eq]; exact hy⟩
    · simp at h
  · simp at h
theorem leaf_at {k l : Nat} {x : L} {bl : List L} (hm : Mem C A E F s.ob w) (h : lookO s.ob k = .box bl) (hx : bl[l]? = some x) : ∃ c, RepL E F w x c ∧ At w (E.e k).blk ((E.e k).loff l) c := by
  have hlt := (List.getElem?_eq_some_iff.1 hx).1
  obtain ⟨c, h1, h2⟩ := box_seg (s := s) (k := k) (l := l) (n := 1) (ls := [x]) hm rfl (.inr ⟨bl, h, by
    rw [takeN_eq, dropN_eq, List.drop_eq_getElem_cons hlt]; simp [(List.getElem?_eq_some_iff.1 hx).2], hlt⟩)
  exact ⟨c, All.one.1 h1, h2⟩
theorem lOff_eq {a : Ty} (v : Den a) (l : Nat) : lOff a l = ((sizes (unpk a v)).take l).sum := by
  unfold lOff; rw [takeN_eq, sizes_unpk v]
theorem arr_at {k : Nat} {a : Ty} {xs : List (Den a)} {ro : Bool} (hm : Mem C A E F s.ob w) (h : lookO s.ob k = .arr a xs ro) : xs.length = (E.e k).len ∧ (E.e k).len ≤ (E.e k).cap ∧ (E.e k).esz = a.sz ∧ (∀ l, (E.e k).eoff l = lOff a l) ∧
    ∃ ds, All (fun x c => RepD F w a x c) xs ds ∧ At w (E.e k).blk (E.e k).base ds := by
  have := hm.rp k
  rw [h] at this
  obtain ⟨h1, h2, h3, h4, h5, h6⟩ := this
  refine ⟨h1, h2, h3, h4, ?_⟩
  cases hn : (E.e k).nil with
  | false => obtain ⟨cs, u, fr, ds, k1, k2, k3, k4, _⟩ := h6 hn; exact ⟨ds, k3, k4⟩
  | true =>
    have hz := h5 hn
    have : xs = [] := List.length_eq_zero_iff.1 (by omega)
    subst this
    exact ⟨[], rfl, At.nil⟩
/-- An element's cells, where they lie. -/
theorem elem_at {a : Ty} {xs : List (Den a)} {ds : List Value} {b o i : Nat} (h : All (fun x c => RepD F w a x c) xs ds) (ha : At w b o ds) (hi : i < xs.length) :
    ∃ d, RepD F w a (xs.getD i (zeroD a)) d ∧ At w b (o + i * a.sz) d := by
  have hx : xs[i]? = some (xs.getD i (zeroD a)) := by simp [List.getD, hi]
  obtain ⟨c, d, e, rfl, h2, h3⟩ := h.get (fun x c => RepD_len) hx
  refine ⟨d, h3, ?_⟩
  have := (ha.append.2).append.1
  rwa [h2] at this

theorem op_load {cx : Cx} {hi : Hi} {o : Oper} (hti : TIok P cx) {t : TypeId} {x : Operand} (ho : o.op = .load t x) : OpP P ok cx hi o := by
  intro C rg ix key A s a w wr K Q h hr hA hK
  simp only [opSem, ho] at h
  obtain ⟨E, F, hm, ht⟩ := hr
  obtain ⟨i, hi', h⟩ := Cx.t_ev h
  have hT := hti t i hi'
  obtain ⟨X, h1, h2⟩ := ev_ok h ht
  have fin : ∀ (b o' : Nat) (c : List Value) (ls : List L), a.eval x = .pointer (some ⟨b, o', none⟩) → RepLs E F w ls c → At w b o' c →
      Ev ok (match natsEq (sizes ls) i.lay with
        | true => match toV i ls with
          | some v => fin hi o.dst [] v
          | none => .fail
        | false => .fail) s wr → o.wp P a w K Q := by
    intro b o' c ls hx hl hat h
    split at h
    · rename_i hz
      split at h
      · rename_i v hv
        obtain ⟨y, k1, k2⟩ := load_ok hT hl hat hz hv
        refine pure_rel ?_ h hm ht k2 hK
        simp only [execOp, ho, hx, Sem.run_bind, k1]
        rfl
      · exact h.fail.elim
    · exact h.fail.elim
  unfold loadS at h2
  split at h2
  · rename_i n l
    obtain ⟨ls, k1, k2, k3⟩ := rdLs_ok _ _ h2
    obtain ⟨c, g1, g2⟩ := box_seg hm k1 k3
    have := h1.2; rw [RepL] at this; have := this.2.1; simp only [List.cons.injEq, and_true] at this
    exact fin _ _ c ls this g1 g2 k2
  · rename_i n l m i'
    have h2 := h2.get
    split at h2
    · rename_i m' a' v hv
      obtain ⟨bl, g1, g2⟩ := lf_ok hv
      obtain ⟨c, g3, g4⟩ := leaf_at hm g1 g2
      have hp := h1.2; rw [RepL] at hp
      obtain ⟨_, hlt, hp⟩ := hp
      simp only [List.cons.injEq, and_true] at hp
      split at h2
      · rename_i j v hmm
        have hmm := Nat.eq_of_beq_eq_true hmm
        rw [RepL, RepD] at g3
        have hc := All_int g3.2
        have hl : List.length (α := Int) v = m := by rw [hmm]; exact g3.1
        refine fin _ _ [.int j ((v : List Int).getD i' 0)] _ hp (All.one.2 (by rw [RepL, RepD])) (At.of_one ?_) h2
        have : c[i']? = some (.int j ((v : List Int).getD i' 0)) := by
          rw [hc]; simp [List.getD, hl, hlt]
        exact g4 i' _ this
      · rename_i v hmm
        have hmm := Nat.eq_of_beq_eq_true hmm
        rw [RepL, RepD] at g3
        have hc := All_bool g3.2
        have hl : List.length (α := Bool) v = m := by rw [hmm]; exact g3.1
        refine fin _ _ [.bool ((v : List Bool).getD i' false)] _ hp (All.one.2 (by rw [RepL, RepD])) (At.of_one ?_) h2
        have : c[i']? = some (.bool ((v : List Bool).getD i' false)) := by
          rw [hc]; simp [List.getD, hl, hlt]
        exact g4 i' _ this
      · exact h2.fail.elim
    · exact h2.fail.elim
  · rename_i n i' l y'
    have h2 := h2.get
    simp only [look] at h2
    split at h2
    · rename_i a' xs ro hobj
      simp only [Cn.o.injEq] at hobj
      obtain ⟨g1, g2, g3, g4, ds, g5, g6⟩ := arr_at hm hobj
      have hp := h1.2; rw [RepL] at hp
      obtain ⟨_, hlt, hp, _⟩ := hp
      simp only [List.cons.injEq, and_true] at hp
      obtain ⟨d, k1, k2⟩ := elem_at g5 g6 (i := i') (by omega)
      obtain ⟨c, k3, k4⟩ := seg_ok (RepD_unpk (E := E) k1) k2 l i.lay.length
      rw [← lOff_eq, ← g4, ← g3] at k4
      exact fin _ _ c _ hp k3 k4 h2
    · exact h2.fail.elim
  · rename_i a' v l
    obtain ⟨_, b, o', ds, k1, k2, k3, k4⟩ := h1
    simp only [List.cons.injEq, and_true] at k1
    obtain ⟨c, g1, g2⟩ := seg_ok (RepD_unpk (E := E) k3) k4 l i.lay.length
    rw [← lOff_eq] at g2
    exact fin _ _ c _ k1 g1 g2 h2
  · exact h2.fail.elim
end
end Go.Proofs.Zz
