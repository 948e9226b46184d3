import Derived.Test.YtnhgipdlkcdeiaaDoorEngI
import Derived.Laws.Cells
import Derived.Laws.IdiomStrings
set_option linter.unusedSimpArgs false
set_option linter.unusedVariables false
/- Loads and addresses. -/
set_option linter.unusedVariables false
set_option linter.unusedSimpArgs false
namespace Go.Proofs.Zs
open Go

theorem add_lit (b o n : Nat) : (⟨b, o, none⟩ : Addr).add n = ⟨b, o + n, none⟩ := by
  unfold Addr.add
  split
  · rename_i h; subst h; rfl
  · rfl
theorem nthO_eq {α : Type} : ∀ (l : List α) (n : Nat), nthO l n = l[n]?
  | [], _ => by simp [nthO]
  | _ :: _, 0 => by simp [nthO]
  | _ :: r, n + 1 => by simp only [nthO, nthO_eq r n]; simp
theorem sizes_append (a b : List L) : sizes (a ++ b) = sizes a ++ sizes b := by simp [sizes_eq]
theorem sizes_take (l : List L) (n : Nat) : sizes (l.take n) = (sizes l).take n := by simp [sizes_eq]
theorem sizes_len (l : List L) : (sizes l).length = l.length := by simp [sizes_eq]

section
variable {P : Program} {E : Env} {F : Nat → Prop} {w : World} {t : TypeId} {i : TI}
/-- Some leaves' cells, where they lie. -/
theorem seg_ok {ls : List L} {c : List Value} {b o : Nat} (h : RepLs E F w ls c) (ha : At w b o c) (l n : Nat) :
    ∃ c', RepLs E F w (takeN n (dropN l ls)) c' ∧ At w b (o + ((sizes ls).take l).sum) c' := by
  rw [takeN_eq, dropN_eq]
  have e : ls = ls.take l ++ ((ls.drop l).take n ++ (ls.drop l).drop n) := by rw [List.take_append_drop, List.take_append_drop]
  rw [e] at h
  obtain ⟨c1, d, rfl, h1, h2⟩ := h.split
  obtain ⟨c2, c3, rfl, h3, h4⟩ := h2.split
  refine ⟨c2, h3, ?_⟩
  have := (ha.append.2).append.1
  rwa [sizes_sum h1, sizes_take] at this

theorem TOk.one (h : TOk P t i) (ha : i.agg = false) : i.lay.sum = 1 := by
  obtain ⟨f, z, h1, h2, h3, h4, h5⟩ := h.inf
  have := sizes_sum (zkD_rep (E := ⟨fun _ => ⟨0, 0, 0, 0, 0, false, fun _ => 0, fun _ => 0, [], [], .bool false⟩, fun _ => False⟩) (F := fun _ => False) (w := default) _ _ h4)
  rw [← h.lay] at this
  rw [← this]
  cases z <;> simp [ha, Value.cells] at h5 ⊢
theorem TOk.isAgg (h : TOk P t i) : (isAgg t).run P w = .ok i.agg w := by
  obtain ⟨d, h1, h2, _⟩ := h.und
  unfold Go.isAgg
  simp only [Sem.run_bind, run_underlying h1, Result.andThen_ok]
  rw [← h2]
  cases d <;> simp [isAggD]
theorem TOk.sizeOf (h : TOk P t i) : (sizeOf t).run P w = .ok i.lay.sum w := by
  obtain ⟨f, z, h1, h2, _⟩ := h.inf
  simp [Go.sizeOf, typeInfo, h1, h2]
theorem load_ok (h : TOk P t i) {b o : Nat} {c : List Value} {ls : List L} (hr : RepLs E F w ls c) (ha : At w b o c) (hl : natsEq (sizes ls) i.lay = true) {v : V} (hv : toV i ls = some v) :
    ∃ y, (Instr.loadAt t (.pointer (some ⟨b, o, none⟩))).run P w = .ok y w ∧ RepV E F w v y := by
  have hl := natsEq_spec hl
  have hc : c.length = i.lay.sum := by rw [sizes_sum hr, hl]
  unfold toV at hv
  cases hag : i.agg with
  | true =>
    rw [hag] at hv
    simp only [Option.some.injEq] at hv; subst hv
    refine ⟨.agg c.toArray, ?_, c.toArray, rfl, by simpa using hr⟩
    simp only [Instr.loadAt, Instr.sureAddr, loadVar, Sem.run_bind, Sem.run_pure, Result.andThen_ok, h.isAgg, hag, if_true, h.sizeOf]
    rw [← hc, run_loadCells_list w ⟨b, o, none⟩ c (fun j u hj => by rw [add_lit]; exact ha j u hj)]
    rfl
  | false =>
    rw [hag] at hv
    match ls, hv, hr with
    | [l], hv, hr =>
      simp only [Option.some.injEq] at hv; subst hv
      have hr := All.one.1 hr
      have h1 := h.one hag
      match c, hr, ha, hc with
      | [u], hr, ha, hc =>
        refine ⟨u, ?_, one_of (RepL_ok hr u (by simp)) hr⟩
        simp only [Instr.loadAt, Instr.sureAddr, loadVar, Sem.run_bind, Sem.run_pure, Result.andThen_ok, h.isAgg, hag, Bool.false_eq_true, if_false, run_load, ha.one]
      | [], _, _, hc => simp at hc; omega
      | _ :: _ :: _, _, _, hc => simp at hc; omega
    | [], hv, _ => simp at hv
    | _ :: _ :: _, hv, _ => simp at hv
end

section
variable {P : Program} {ok : Nat → List DV → List DV → Prop} {α : Type} {s : St} {r : α} {C : Frm} {A : Nat → Prop} {E : Env} {F : Nat → Prop} {w : World}
/-- Leaves read out of a box. -/
theorem rdLs_ok {k : Nat} : ∀ (n l : Nat) {f : List L → Rd α}, Ev ok (rdLs k n l f) s r →
    ∃ ls, ls.length = n ∧ Ev ok (f ls) s r ∧ (n = 0 ∨ ∃ bl, lookO s.ob k = .box bl ∧ ls = takeN n (dropN l bl) ∧ l + n ≤ bl.length)
  | 0, l, f, h => ⟨[], rfl, h, .inl rfl⟩
  | n + 1, l, f, h => by
    simp only [rdLs] at h
    have h := h.get
    split at h
    · rename_i x hx
      obtain ⟨ls, h1, h2, h3⟩ := rdLs_ok n (l + 1) h
      simp only [look] at hx
      split at hx
      · rename_i bl hbl
        split at hx
        · rename_i y hy
          simp only [Cn.l.injEq] at hx; subst hx
          rw [nthO_eq] at hy
          have hlt := (List.getElem?_eq_some_iff.1 hy).1
          refine ⟨y :: ls, by simp [h1], h2, .inr ⟨bl, hbl, ?_, ?_⟩⟩
          · rcases h3 with rfl | ⟨bl', e1, e2, e3⟩
            · have : ls = [] := List.length_eq_zero_iff.1 h1
              subst this
              rw [takeN_eq, dropN_eq, List.drop_eq_getElem_cons hlt]
              simp [(List.getElem?_eq_some_iff.1 hy).2]
            · rw [hbl] at e1; simp only [Obj.box.injEq] at e1; subst e1
              rw [takeN_eq, dropN_eq, List.drop_eq_getElem_cons hlt, List.take_succ_cons, (List.getElem?_eq_some_iff.1 hy).2]
              rw [e2, takeN_eq, dropN_eq]
          · rcases h3 with rfl | ⟨bl', e1, e2, e3⟩
            · omega
            · rw [hbl] at e1; simp only [Obj.box.injEq] at e1; subst e1; omega
        · simp at hx
      · simp at hx
    · exact h.fail.elim
theorem box_at {k : Nat} {bl : List L} (hm : Mem C A E F s.ob w) (hb : lookO s.ob k = .box bl) : ∃ cs t, BoxAt w (E.e k) t cs ∧ RepLs E F w bl cs ∧ At w (E.e k).blk (E.e k).pre.length cs ∧
    ∀ i, i ≤ bl.length → (E.e k).loff i = (E.e k).pre.length + ((sizes bl).take i).sum := by
  have := hm.rp k
  rw [hb] at this
  obtain ⟨cs, t, h1, h2, h3, h4⟩ := this
  refine ⟨cs, t, h1, h2, fun j u hj => ?_, h4⟩
  obtain ⟨ds, fr, k1, k2, k3⟩ := h1
  unfold World.cell?
  simp only [k1, Option.isSome_none, Bool.false_eq_true, if_false]
  have hlt := (List.getElem?_eq_some_iff.1 hj).1
  rw [← Array.getElem?_toList, k2, List.getElem?_append_right (by omega), Nat.add_sub_cancel_left, List.getElem?_append_left hlt]
  exact hj
theorem box_seg {k n l : Nat} {ls : List L} (hm : Mem C A E F s.ob w) (hn : ls.length = n) (h : n = 0 ∨ ∃ bl, lookO s.ob k = .box bl ∧ ls = takeN n (dropN l bl) ∧ l + n ≤ bl.length) :
    ∃ c, RepLs E F w ls c ∧ At w (E.e k).blk ((E.e k).loff l) c := by
  rcases h with rfl | ⟨bl, h1, rfl, h3⟩
  · have : ls = [] := List.length_eq_zero_iff.1 hn
    subst this
    exact ⟨[], rfl, At.nil⟩
  · obtain ⟨cs, t, k1, k2, k3, k4⟩ := box_at hm h1
    obtain ⟨c, g1, g2⟩ := seg_ok k2 k3 l n
    refine ⟨c, g1, ?_⟩
    rw [k4 l (by omega)]
    simpa using g2
theorem lf_ok {k l : Nat} {x : L} (h : look s (.lf k l) = .l x) : ∃ bl, lookO s.ob k = .box bl ∧ bl[l]? = some x := by
  simp only [look] at h
  split at h
  · rename_i bl hbl
    split at h
    · rename_i y hy
      simp only [Cn.l.injEq] at h; subst h
      exact ⟨bl, hbl, by rw [← nthO_eq]; exact hy⟩
    · simp at h
  · simp at h
theorem leaf_at {k l : Nat} {x : L} {bl : List L} (hm : Mem C A E F s.ob w) (h : lookO s.ob k = .box bl) (hx : bl[l]? = some x) : ∃ c, RepL E F w x c ∧ At w (E.e k).blk ((E.e k).loff l) c := by
  have hlt := (List.getElem?_eq_some_iff.1 hx).1
  obtain ⟨c, h1, h2⟩ := box_seg (s := s) (k := k) (l := l) (n := 1) (ls := [x]) hm rfl (.inr ⟨bl, h, by
    rw [takeN_eq, dropN_eq, List.drop_eq_getElem_cons hlt]; simp [(List.getElem?_eq_some_iff.1 hx).2], hlt⟩)
  exact ⟨c, All.one.1 h1, h2⟩
theorem lOff_eq {a : Ty} (v : Den a) (l : Nat) : lOff a l = ((sizes (unpk a v)).take l).sum := by
  unfold lOff; rw [takeN_eq, sizes_unpk v]
theorem arr_at {k : Nat} {a : Ty} {xs : List (Den a)} {ro : Bool} (hm : Mem C A E F s.ob w) (h : lookO s.ob k = .arr a xs ro) : xs.length = (E.e k).len ∧ (E.e k).len ≤ (E.e k).cap ∧ (E.e k).esz = a.sz ∧ (∀ l, (E.e k).eoff l = lOff a l) ∧
    ∃ ds, All (fun x c => RepD F w a x c) xs ds ∧ At w (E.e k).blk (E.e k).base ds := by
  have := hm.rp k
  rw [h] at this
  obtain ⟨h1, h2, h3, h4, h5, h6⟩ := this
  refine ⟨h1, h2, h3, h4, ?_⟩
  cases hn : (E.e k).nil with
  | false => obtain ⟨cs, u, fr, ds, k1, k2, k3, k4, _⟩ := h6 hn; exact ⟨ds, k3, k4⟩
  | true =>
    have hz := h5 hn
    have : xs = [] := List.length_eq_zero_iff.1 (by omega)
    subst this
    exact ⟨[], rfl, At.nil⟩
/-- An element's cells, where they lie. -/
theorem elem_at {a : Ty} {xs : List (Den a)} {ds : List Value} {b o i : Nat} (h : All (fun x c => RepD F w a x c) xs ds) (ha : At w b o ds) (hi : i < xs.length) :
    ∃ d, RepD F w a (xs.getD i (zeroD a)) d ∧ At w b (o + i * a.sz) d := by
  have hx : xs[i]? = some (xs.getD i (zeroD a)) := by simp [List.getD, hi]
  obtain ⟨c, d, e, rfl, h2, h3⟩ := h.get (fun x c => RepD_len) hx
  refine ⟨d, h3, ?_⟩
  have := (ha.append.2).append.1
  rwa [h2] at this

theorem op_load {cx : Cx} {hi : Hi} {o : Oper} (hti : TIok P cx) {t : TypeId} {x : Operand} (ho : o.op = .load t x) : OpP P ok cx hi o := by
  intro C hC rg ix key A s a w wr K Q h hr hA hK
  simp only [opSem, ho] at h
  obtain ⟨E, F, hm, ht⟩ := hr
  obtain ⟨i, hi', h⟩ := Cx.t_ev h
  have hT := hti t i hi'
  obtain ⟨X, h1, h2⟩ := ev_ok h ht
  have fin : ∀ (b o' : Nat) (c : List Value) (ls : List L), a.eval x = .pointer (some ⟨b, o', none⟩) → RepLs E F w ls c → At w b o' c →
      Ev ok (match natsEq (sizes ls) i.lay with
        | true => match toV i ls with
          | some v => fin hi o.dst [] v
          | none => .fail
        | false => .fail) s wr → o.wp P a w K Q := by
    intro b o' c ls hx hl hat h
    split at h
    · rename_i hz
      split at h
      · rename_i v hv
        obtain ⟨y, k1, k2⟩ := load_ok hT hl hat hz hv
        refine pure_rel ?_ h hm ht k2 hK
        simp only [execOp, ho, hx, Sem.run_bind, k1]
        rfl
      · exact h.fail.elim
    · exact h.fail.elim
  unfold loadS at h2
  split at h2
  · rename_i n l
    obtain ⟨ls, k1, k2, k3⟩ := rdLs_ok _ _ h2
    obtain ⟨c, g1, g2⟩ := box_seg hm k1 k3
    have := h1.2; rw [RepL] at this; have := this.2.1; simp only [List.cons.injEq, and_true] at this
    exact fin _ _ c ls this g1 g2 k2
  · rename_i n l m i'
    have h2 := h2.get
    split at h2
    · rename_i m' a' v hv
      obtain ⟨bl, g1, g2⟩ := lf_ok hv
      obtain ⟨c, g3, g4⟩ := leaf_at hm g1 g2
      have hp := h1.2; rw [RepL] at hp
      obtain ⟨_, hlt, hp⟩ := hp
      simp only [List.cons.injEq, and_true] at hp
      split at h2
      · rename_i j v hmm
        have hmm := Nat.eq_of_beq_eq_true hmm
        rw [RepL, RepD] at g3
        have hc := All_int g3.2
        have hl : List.length (α := Int) v = m := by rw [hmm]; exact g3.1
        refine fin _ _ [.int j ((v : List Int).getD i' 0)] _ hp (All.one.2 (by rw [RepL, RepD])) (At.of_one ?_) h2
        have : c[i']? = some (.int j ((v : List Int).getD i' 0)) := by
          rw [hc]; simp [List.getD, hl, hlt]
        exact g4 i' _ this
      · rename_i v hmm
        have hmm := Nat.eq_of_beq_eq_true hmm
        rw [RepL, RepD] at g3
        have hc := All_bool g3.2
        have hl : List.length (α := Bool) v = m := by rw [hmm]; exact g3.1
        refine fin _ _ [.bool ((v : List Bool).getD i' false)] _ hp (All.one.2 (by rw [RepL, RepD])) (At.of_one ?_) h2
        have : c[i']? = some (.bool ((v : List Bool).getD i' false)) := by
          rw [hc]; simp [List.getD, hl, hlt]
        exact g4 i' _ this
      · exact h2.fail.elim
    · exact h2.fail.elim
  · rename_i n i' l y'
    have h2 := h2.get
    simp only [look] at h2
    split at h2
    · rename_i a' xs ro hobj
      simp only [Cn.o.injEq] at hobj
      obtain ⟨g1, g2, g3, g4, ds, g5, g6⟩ := arr_at hm hobj
      have hp := h1.2; rw [RepL] at hp
      obtain ⟨_, hlt, hp, _⟩ := hp
      simp only [List.cons.injEq, and_true] at hp
      obtain ⟨d, k1, k2⟩ := elem_at g5 g6 (i := i') (by omega)
      obtain ⟨c, k3, k4⟩ := seg_ok (RepD_unpk (E := E) k1) k2 l i.lay.length
      rw [← lOff_eq, ← g4, ← g3] at k4
      exact fin _ _ c _ hp k3 k4 h2
    · exact h2.fail.elim
  · rename_i a' v l
    obtain ⟨_, b, o', ds, k1, k2, k3, k4⟩ := h1
    simp only [List.cons.injEq, and_true] at k1
    obtain ⟨c, g1, g2⟩ := seg_ok (RepD_unpk (E := E) k3) k4 l i.lay.length
    rw [← lOff_eq] at g2
    exact fin _ _ c _ k1 g1 g2 h2
  · exact h2.fail.elim
end
end Go.Proofs.Zs
/- Addresses of fields and elements; cuts; lengths. -/
set_option linter.unusedVariables false
set_option linter.unusedSimpArgs false
namespace Go.Proofs.Zs
open Go

theorem fsOk_get {P : Program} : ∀ (fs : List Field) (fl : List (Nat × List Nat)) (lay : List Nat), fsOk P fs fl lay = true → ∀ (f : Nat) (d : Nat) (z : List Nat), nthO fl f = some (d, z) →
    ∃ x y, fs[f]? = some x ∧ x.offset = (lay.take d).sum ∧ P.info? x.type = some y ∧ y.size = z.sum ∧ y.size ≠ 0 ∧ z = (lay.drop d).take z.length ∧ d + z.length ≤ lay.length
  | [], [], _, _, f, d, z, hn => by simp [nthO] at hn
  | [], _ :: _, _, h, _, _, _, _ => by simp [fsOk] at h
  | _ :: _, [], _, h, _, _, _, _ => by simp [fsOk] at h
  | x :: r, p :: q, lay, h, f, d, z, hn => by
    simp only [fsOk, Bool.and_eq_true, Nat.beq_eq, Nat.ble_eq] at h
    obtain ⟨⟨⟨⟨h1, h2⟩, h3⟩, h4⟩, h5⟩ := h
    cases f with
    | zero =>
      simp only [nthO, Option.some.injEq] at hn; subst hn
      split at h2
      · rename_i y hy
        simp only [Bool.and_eq_true, Nat.beq_eq, Bool.not_eq_true'] at h2
        refine ⟨x, y, rfl, h1, hy, h2.1, ?_, natsEq_spec h3, h4⟩
        intro e
        have := h2.2
        rw [e] at this; simp at this
      · simp at h2
    | succ f =>
      obtain ⟨x', y, g1, g2⟩ := fsOk_get r q lay h5 f d z hn
      exact ⟨x', y, by simpa using g1, g2⟩

section
variable {P : Program} {ok : Nat → List DV → List DV → Prop} {cx : Cx} {hi : Hi} {o : Oper}
theorem run_fieldAt {t : TypeId} {fs : Array Field} {f : Nat} {x : Field} {y : TypeInfo} (hu : P.underlying t = some (.struct fs)) (hf : fs[f]? = some x) (hy : P.info? x.type = some y) (hz : y.size ≠ 0) (b n : Nat) (w : World) :
    (Instr.fieldAt t (.pointer (some ⟨b, n, none⟩)) f).run P w = .ok (.pointer (some ⟨b, n + x.offset, none⟩)) w := by
  simp [Instr.fieldAt, run_underlying hu, hf, Instr.sureAddr, fieldPlace, sizeOf, typeInfo, hy, hz, add_lit]
theorem Steps.sub {g : Nat → Nat} {l d : Nat} {y z : List Nat} (h : Steps g l y) (hz : z = (y.drop d).take z.length) (hd : d + z.length ≤ y.length) : Steps g (l + d) z := by
  intro e he
  have h1 := h (d + e) (by omega)
  have h2 := h d (by omega)
  rw [Nat.add_assoc, h1, h2, Nat.add_assoc]
  congr 1
  have e1 : y.take (d + e) = y.take d ++ (y.drop d).take e := List.take_add ..
  have e2 : z.take e = (y.drop d).take e := by
    rw [hz, List.take_take, Nat.min_eq_left he]
  rw [e1, List.sum_append, e2]
theorem op_fieldAddr (hti : TIok P cx) {t : TypeId} {x : Operand} {f : Nat} (ho : o.op = .fieldAddr t x f) : OpP P ok cx hi o := by
  intro C hC rg ix key A s a w wr K Q h hr hA hK
  simp only [opSem, ho] at h
  obtain ⟨E, F, hm, ht⟩ := hr
  obtain ⟨i, hi', h⟩ := Cx.t_ev h
  have hT := hti t i hi'
  obtain ⟨X, h1, h2⟩ := ev_ok h ht
  unfold fieldS at h2
  split at h2
  · rename_i d z htd hn
    obtain ⟨fs, hu, hfs⟩ := hT.struct htd
    obtain ⟨fx, y, g1, g2, g3, g4, g5, g6, g7⟩ := fsOk_get _ _ _ hfs f d z hn
    have g1' : fs[f]? = some fx := by simpa using g1
    have run : ∀ b n, a.eval x = .pointer (some ⟨b, n, none⟩) → (execOp a.eval o).run P w = .ok (.value (.pointer (some ⟨b, n + fx.offset, none⟩))) w := by
      intro b n hx
      simp only [execOp, ho, hx, Sem.run_bind, run_fieldAt hu g1' g3 g5]
      rfl
    split at h2
    · rename_i n l y'
      split at h2
      · rename_i hy
        have hy := natsEq_spec hy; subst hy
        have hp := h1.2; rw [RepL] at hp
        obtain ⟨p1, p2, p3⟩ := hp
        simp only [List.cons.injEq, and_true] at p2
        refine pure_rel (run _ _ p2) h2 hm ht ⟨trivial, p1, ?_, p3.sub g6 g7⟩ hK
        rw [p3 d (by omega), g2]
      · exact h2.fail.elim
    · rename_i n j l y'
      split at h2
      · rename_i hy
        have hy := natsEq_spec hy; subst hy
        have hp := h1.2; rw [RepL] at hp
        obtain ⟨p1, p2, p3, p4⟩ := hp
        simp only [List.cons.injEq, and_true] at p3
        refine pure_rel (run _ _ p3) h2 hm ht ⟨trivial, p1, p2, ?_, p4.sub g6 g7⟩ hK
        rw [p4 d (by omega), g2]
        simp [Nat.add_assoc]
      · exact h2.fail.elim
    · rename_i a' v l
      split at h2
      · rename_i hy
        have hy := natsEq_spec hy
        obtain ⟨_, b, o', ds, k1, k2, k3, k4⟩ := h1
        simp only [List.cons.injEq, and_true] at k1
        refine pure_rel (run _ _ k1) h2 hm ht ⟨trivial, b, o', ds, ?_, k2, k3, k4⟩ hK
        have : lOff a' (l + d) = lOff a' l + fx.offset := by
          unfold lOff
          rw [takeN_eq, takeN_eq, g2, ← hy, takeN_eq, dropN_eq, List.take_take, Nat.min_eq_left (by omega), List.take_add, List.sum_append]
        rw [this]; simp [Nat.add_assoc]
      · exact h2.fail.elim
    · exact h2.fail.elim
  · exact h2.fail.elim

theorem run_indexAt_slice {t e : TypeId} {f : TypeInfo} (hu : P.underlying t = some (.slice e)) (hf : P.info? e = some f) {b n len cap : Nat} {k : IntKind} {i : Int} (h0 : 0 ≤ i) (h1 : i < len) (w : World) :
    (Instr.indexAt t (.slice (some ⟨b, n, none⟩) len cap) (.int k i)).run P w = .ok (.pointer (some ⟨b, n + i.toNat * f.size, none⟩)) w := by
  simp [Instr.indexAt, asIntOf, run_underlying hu, h0, h1, sizeOf, typeInfo, hf, add_lit]
theorem run_indexAt_array {t e : TypeId} {f : TypeInfo} {m : Nat} (hu : P.underlying t = some (.array m e)) (hf : P.info? e = some f) {b n : Nat} {k : IntKind} {i : Int} (h0 : 0 ≤ i) (h1 : i < m) (w : World) :
    (Instr.indexAt t (.pointer (some ⟨b, n, none⟩)) (.int k i)).run P w = .ok (.pointer (some ⟨b, n + i.toNat * f.size, none⟩)) w := by
  simp [Instr.indexAt, asIntOf, run_underlying hu, h0, h1, sizeOf, typeInfo, hf, add_lit, Instr.sureAddr]
theorem idx_spec {i : Int} {n : Nat} (h : idx i n = true) : 0 ≤ i ∧ i < n := by simpa [idx] using h
theorem scalar_sz {t : Ty} (h : scalar t = true) : t.sz = 1 := by cases t <;> simp [scalar] at h <;> rfl
theorem steps_zero {a : Ty} {g : Nat → Nat} (h : ∀ l, g l = lOff a l) : Steps g 0 (sizes (unpk a (zeroD a))) := by
  intro d hd
  rw [h, h, Nat.zero_add]
  unfold lOff
  rw [takeN_eq, takeN_eq]; simp
/-- A cut of a slice: where its elements lie. -/
theorem win_at {e : EI} {off n : Nat} {v : Value} (h : Win e off n [v]) (hn : 0 < n) (hc : e.len ≤ e.cap) : ∃ c, v = .slice (some ⟨e.blk, e.base + off * e.esz, none⟩) n c := by
  obtain ⟨h1, a, h2, h3⟩ := h
  have := h3 (by omega)
  simp only [List.cons.injEq, and_true] at h2
  exact ⟨_, by rw [h2, this.2]⟩
theorem op_indexAddr (hti : TIok P cx) {t : TypeId} {x y : Operand} (ho : o.op = .indexAddr t x y) : OpP P ok cx hi o := by
  intro C hC rg ix key A s a w wr K Q h hr hA hK
  simp only [opSem, ho] at h
  obtain ⟨E, F, hm, ht⟩ := hr
  obtain ⟨i, hi', h⟩ := Cx.t_ev h
  have hT := hti t i hi'
  obtain ⟨X, h1, h2⟩ := ev_ok h ht
  obtain ⟨Y, h3, h4⟩ := ev_ok h2 ht
  unfold indexS at h4
  split at h4
  · rename_i k j
    have hj := of_int h3
    split at h4
    · -- arrays
      rename_i htd
      obtain ⟨e, hu, ⟨f, z, f1, f2, f3, f4, f5⟩, hsc, hzk⟩ := hT.array htd
      have hsz : f.size = 1 := by rw [f2, scalar_sz hsc]
      split at h4
      · rename_i n l y'
        rcases h4.ite with ⟨hb, h4⟩ | ⟨_, h4⟩
        · obtain ⟨b0, b1⟩ := idx_spec hb
          have hp := h1.2; rw [RepL] at hp
          obtain ⟨p1, p2, p3⟩ := hp
          simp only [List.cons.injEq, and_true] at p2
          refine pure_rel (v := .pointer (some ⟨(E.e n).blk, (E.e n).loff l + j.toNat, none⟩)) ?_ h4 hm ht ⟨trivial, p1, by omega, rfl⟩ hK
          simp only [execOp, ho, p2, hj, Sem.run_bind, run_indexAt_array hu f1 b0 b1, hsz, Nat.mul_one]
          rfl
        · exact h4.fail.elim
      · rename_i a' v l
        split at h4
        · rename_i m b w' r hd
          split at h4
          · rename_i hmb
            simp only [Bool.and_eq_true, Nat.beq_eq, tyEq_iff] at hmb
            obtain ⟨rfl, rfl⟩ := hmb
            rcases h4.ite with ⟨hb, h4⟩ | ⟨_, h4⟩
            · obtain ⟨b0, b1⟩ := idx_spec hb
              obtain ⟨_, bb, o', ds, k1, k2, k3, k4⟩ := h1
              simp only [List.cons.injEq, and_true] at k1
              -- the array's cells among the datum's
              obtain ⟨c, g1, g2⟩ := seg_ok (RepD_unpk (E := E) k3) k4 l 1
              rw [← lOff_eq] at g2
              rw [hd] at g1
              have g1 := All.one.1 (show RepLs E F w [L.dat (.ar i.n i.ety) w'] c from g1)
              have g1' := g1
              rw [RepL, RepD] at g1'
              have hlw : List.length w' = i.n := g1'.1
              obtain ⟨d, m1, m2⟩ := elem_at g1'.2 g2 (i := j.toNat) (by rw [hlw]; omega)
              refine pure_rel (v := .pointer (some ⟨bb, o' + lOff a' l + j.toNat * f.size, none⟩)) ?_ h4 hm ht ⟨trivial, bb, o' + lOff a' l + j.toNat * i.ety.sz, d, ?_, k2, m1, m2⟩ hK
              · simp only [execOp, ho, k1, hj, Sem.run_bind, run_indexAt_array hu f1 b0 b1]
                rfl
              · rw [f2]; simp [lOff, takeN]
            · exact h4.fail.elim
          · exact h4.fail.elim
        · exact h4.fail.elim
      · exact h4.fail.elim
    · -- slices
      rename_i htd
      obtain ⟨e, hu, ⟨f, z, f1, f2, f3, f4, f5⟩⟩ := hT.slice htd
      have run : ∀ b n len cap, a.eval x = .slice (some ⟨b, n, none⟩) len cap → 0 ≤ j → j < len → (execOp a.eval o).run P w = .ok (.value (.pointer (some ⟨b, n + j.toNat * i.ety.sz, none⟩))) w := by
        intro b n len cap hx h0 hlt
        rw [← f2]
        simp only [execOp, ho, hx, hj, Sem.run_bind, run_indexAt_slice hu f1 h0 hlt]
        rfl
      have frz : ∀ (xs : List (Den i.ety)), RepD F w (.sl i.ety) xs [a.eval x] → Ev ok (Rd.ite (idx j xs.length) (fin hi o.dst [] (.one (.rf i.ety (xs.getD j.toNat (zeroD i.ety)) 0))) .fail) s wr → o.wp P a w K Q := by
        intro xs hr h4
        rcases h4.ite with ⟨hb, h4⟩ | ⟨_, h4⟩
        · obtain ⟨b0, b1⟩ := idx_spec hb
          rw [RepD] at hr
          obtain ⟨ad, cap, k1, k2, k3⟩ := hr
          rcases k3 with rfl | ⟨b, o', ds, rfl, k4, k5, k6⟩
          · simp at b1; omega
          · simp only [List.cons.injEq, and_true] at k1
            obtain ⟨d, m1, m2⟩ := elem_at k5 k6 (i := j.toNat) (by omega)
            exact pure_rel (run _ _ _ _ k1 b0 b1) h4 hm ht ⟨trivial, b, o' + j.toNat * i.ety.sz, d, by simp [lOff, takeN], k4, m1, m2⟩ hK
        · exact h4.fail.elim
      split at h4
      · rename_i n
        have h4 := h4.get
        simp only [look] at h4
        split at h4
        · rename_i a' xs ro hobj
          simp only [Cn.o.injEq] at hobj
          have e4 := castL_eq h4; subst e4; have h4 := castL_same h4
          rcases h4.ite with ⟨hb, h4⟩ | ⟨_, h4⟩
          · obtain ⟨b0, b1⟩ := idx_spec hb
            obtain ⟨g1, g2, g3, g4, ds, g5, g6⟩ := arr_at hm hobj
            obtain ⟨_, p1, p2⟩ := h1
            obtain ⟨c, hx⟩ := win_at p2 (by omega) g2
            have b1' : j < ((E.e n).len : Int) := by rw [← g1]; exact b1
            refine pure_rel (run _ _ _ _ hx b0 b1') h4 hm ht ⟨trivial, p1, by omega, ?_, steps_zero g4⟩ hK
            rw [g4, g3]; simp [lOff, takeN]
          · exact h4.fail.elim
        · exact h4.fail.elim
      · rename_i n off
        have h4 := h4.get
        simp only [look] at h4
        split at h4
        · rename_i a' xs ro hobj
          simp only [Cn.o.injEq] at hobj
          have e4 := castL_eq h4; subst e4; have h4 := castL_same h4
          rcases h4.ite with ⟨hb, h4⟩ | ⟨_, h4⟩
          · obtain ⟨b0, b1⟩ := idx_spec hb
            obtain ⟨g1, g2, g3, g4, ds, g5, g6⟩ := arr_at hm hobj
            obtain ⟨_, p1, p0, p2⟩ := h1
            have b1' : j < ((E.e n).len - off : Nat) := by rw [← g1]; exact b1
            obtain ⟨c, hx⟩ := win_at p2 (by omega) g2
            refine pure_rel (run _ _ _ _ hx b0 b1') h4 hm ht ⟨trivial, p1, by omega, ?_, steps_zero g4⟩ hK
            rw [g4, g3]; simp [lOff, takeN, Nat.add_mul, Nat.add_assoc]
          · exact h4.fail.elim
        · exact h4.fail.elim
      · rename_i n off len
        have h4 := h4.get
        simp only [look] at h4
        split at h4
        · rename_i a' xs ro hobj
          simp only [Cn.o.injEq] at hobj
          have e4 := castL_eq h4; subst e4; have h4 := castL_same h4
          rcases h4.ite with ⟨hb, h4⟩ | ⟨_, h4⟩
          · obtain ⟨b0, b1⟩ := idx_spec hb
            obtain ⟨g1, g2, g3, g4, ds, g5, g6⟩ := arr_at hm hobj
            obtain ⟨_, p1, p2⟩ := h1
            obtain ⟨c, hx⟩ := win_at p2 (by omega) g2
            have := p2.1
            refine pure_rel (run _ _ _ _ hx b0 b1) h4 hm ht ⟨trivial, p1, by omega, ?_, steps_zero g4⟩ hK
            rw [g4, g3]; simp [lOff, takeN, Nat.add_mul, Nat.add_assoc]
          · exact h4.fail.elim
        · exact h4.fail.elim
      · rename_i a' xs
        have e4 := castL_eq h4; subst e4; have h4 := castL_same h4
        exact frz xs h1.2 h4
      · rename_i a' xs
        have e4 := castL_eq h4; subst e4; have h4 := castL_same h4
        exact frz xs h1.2.1 h4
      · rename_i q n i' sz y'
        split at h4
        · rename_i hsz
          have hsz := Nat.eq_of_beq_eq_true hsz
          rcases h4.ite with ⟨hb, h5⟩ | ⟨_, h5⟩
          · simp only [decide_eq_true_eq] at hb
            obtain ⟨rfl, b0, b1⟩ := hb
            obtain ⟨_, p1, p2, ad, m, c, p3, p4, p5⟩ := h1
            obtain ⟨b, rfl, q1, q2⟩ := p5 b0 b1
            simp only [List.cons.injEq, and_true] at p2
            rw [p3] at p2
            refine pure_rel (x := .one (.ptr q 0 y')) (run _ _ _ _ p2 b0 (by rw [p4]; exact b1)) h5 hm ht ⟨trivial, p1, ?_, q2⟩ hK
            rw [q1, hsz]
          · exact h5.fail.elim
        · exact h4.fail.elim
      · exact h4.fail.elim
    · exact h4.fail.elim
  · exact h4.fail.elim
end
end Go.Proofs.Zs
/- Cuts, lengths, bytes of strings, conversions that make nothing, structs built. -/
set_option linter.unusedVariables false
set_option linter.unusedSimpArgs false
namespace Go.Proofs.Zs
open Go

section
variable {P : Program} {ok : Nat → List DV → List DV → Prop} {cx : Cx} {hi : Hi} {o : Oper}
section
variable {α : Type} {s : St} {r : α} {E : Env} {F : Nat → Prop} {w : World} {a : Act}
def RepOpt (E : Env) (F : Nat → Prop) (w : World) : Option V → Option Value → Prop
  | none, none => True
  | some x, some v => RepV E F w x v
  | _, _ => False
theorem evO_ok {x : Option Operand} {k : Option V → Rd α} (h : Ev ok (evO x k) s r) (ht : Tms E F s.tm a w) : ∃ y, RepOpt E F w y (x.map a.eval) ∧ Ev ok (k y) s r := by
  cases x with
  | none => exact ⟨none, trivial, h⟩
  | some x => obtain ⟨X, h1, h2⟩ := ev_ok h ht; exact ⟨some X, h1, h2⟩
theorem run_sliceBound {k : IntKind} {i : Int} {y : Nat} {c : BoundsCode} (h0 : 0 ≤ i) (h1 : i ≤ y) : (Instr.sliceBound (.int k i) y c).run P w = .ok i.toNat w := by
  simp [Instr.sliceBound, asIntOf, h0, h1]
theorem cutLo_int {n cap : Nat} {kl : IntKind} {lv : Int} {k : Nat → Rd α} (h : Ev ok (.ite (decide (0 ≤ lv ∧ lv ≤ (n : Int))) (k lv.toNat) .fail) s r) :
    ∃ l, l ≤ n ∧ Ev ok (k l) s r ∧ ∀ isS : Bool, (isS = true ∨ cap = n) → (Instr.sliceBounds isS n cap (some (.int kl lv)) none none).run P w = .ok (l, n, cap) w := by
  rcases h.ite with ⟨hb, h⟩ | ⟨_, h⟩
  · simp only [decide_eq_true_eq] at hb
    refine ⟨lv.toNat, by omega, h, fun isS hc => ?_⟩
    have : (if isS = true then n else cap) = n := by rcases hc with h | h <;> simp [h]
    simp [Instr.sliceBounds, run_sliceBound hb.1 hb.2, this]
  · exact h.fail.elim
theorem cutLo_ok {n cap : Nat} {lo : V} {lov : Value} {k : Nat → Rd α} (h : Ev ok (cutLo n lo k) s r) (hl : RepV E F w lo lov) :
    ∃ l, l ≤ n ∧ Ev ok (k l) s r ∧ ∀ isS : Bool, (isS = true ∨ cap = n) → (Instr.sliceBounds isS n cap (some lov) none none).run P w = .ok (l, n, cap) w := by
  unfold cutLo at h
  split at h
  · have := of_int hl; subst this
    exact cutLo_int h
  · exact h.fail.elim
theorem cutHi_int {n cap : Nat} (hcap : n ≤ cap) {kh kl : IntKind} {hv lv : Int} {k : Nat → Nat → Rd α} {isS : Bool}
    (h : Ev ok (.ite (decide (0 ≤ hv ∧ hv ≤ (n : Int))) (.ite (decide (0 ≤ lv ∧ lv ≤ hv)) (k lv.toNat hv.toNat) .fail) .fail) s r) :
    ∃ l m, l ≤ m ∧ m ≤ n ∧ Ev ok (k l m) s r ∧ (Instr.sliceBounds isS n cap (some (.int kl lv)) (some (.int kh hv)) none).run P w = .ok (l, m, cap) w := by
  rcases h.ite with ⟨hb, h⟩ | ⟨_, h⟩
  · rcases h.ite with ⟨hb', h⟩ | ⟨_, h⟩
    · simp only [decide_eq_true_eq] at hb hb'
      refine ⟨lv.toNat, hv.toNat, by omega, by omega, h, ?_⟩
      simp [Instr.sliceBounds, run_sliceBound hb.1 (show hv ≤ (cap : Int) by omega), run_sliceBound hb'.1 (show lv ≤ ((hv.toNat : Nat) : Int) by omega)]
    · exact h.fail.elim
  · exact h.fail.elim
theorem cutHi_ok {n cap : Nat} (hcap : n ≤ cap) {kh : IntKind} {hv : Int} {lo : Option V} {lov : Option Value} {k : Nat → Nat → Rd α} {isS : Bool} (h : Ev ok (cutHi n lo hv k) s r) (hl : RepOpt E F w lo lov) :
    ∃ l m, l ≤ m ∧ m ≤ n ∧ Ev ok (k l m) s r ∧ (Instr.sliceBounds isS n cap lov (some (.int kh hv)) none).run P w = .ok (l, m, cap) w := by
  unfold cutHi at h
  split at h
  · rcases h.ite with ⟨hb, h⟩ | ⟨_, h⟩
    · simp only [decide_eq_true_eq] at hb
      cases lov with
      | some v => exact hl.elim
      | none =>
        refine ⟨0, hv.toNat, Nat.zero_le _, by omega, h, ?_⟩
        simp [Instr.sliceBounds, run_sliceBound hb.1 (show hv ≤ (cap : Int) by omega)]
    · exact h.fail.elim
  · cases lov with
    | none => exact hl.elim
    | some v =>
      have := of_int hl; subst this
      exact cutHi_int hcap h
  · exact h.fail.elim
theorem cut_ok {n cap : Nat} (hcap : n ≤ cap) {lo hi : Option V} {lov hiv : Option Value} {k : Nat → Nat → Rd α} {isS : Bool} (h : Ev ok (cut n lo hi k) s r) (hl : RepOpt E F w lo lov) (hh : RepOpt E F w hi hiv) (hcs : isS = true ∨ cap = n) :
    ∃ l m, l ≤ m ∧ m ≤ n ∧ Ev ok (k l m) s r ∧ (Instr.sliceBounds isS n cap lov hiv none).run P w = .ok (l, m, cap) w := by
  unfold cut at h
  split at h
  · rename_i kh hv
    cases hiv with
    | none => exact hh.elim
    | some v =>
      have := of_int hh; subst this
      exact cutHi_ok hcap h hl
  · cases hiv with
    | some v => exact hh.elim
    | none =>
      split at h
      · cases lov with
        | some v => exact hl.elim
        | none => exact ⟨0, n, Nat.zero_le _, Nat.le_refl _, h, by simp [Instr.sliceBounds]⟩
      · cases lov with
        | none => exact hl.elim
        | some v =>
          obtain ⟨l, g1, g2, g3⟩ := cutLo_ok (P := P) (cap := cap) h hl
          exact ⟨l, n, g1, Nat.le_refl _, g2, g3 isS hcs⟩
  · exact h.fail.elim
theorem rep_slice {l : L} {v : Option Addr} {n c : Nat} (h : RepL E F w l [.slice v n c]) : RepV E F w (.one l) (.slice v n c) := by
  cases l <;> first | trivial | exact ⟨trivial, h⟩
theorem run_slice_cut {t e : TypeId} {f : TypeInfo} (hu : P.underlying t = some (.slice e)) (hf : P.info? e = some f) {a : Option Addr} {len cap : Nat} {lov hiv : Option Value} {l m : Nat}
    (hb : (Instr.sliceBounds true len cap lov hiv none).run P w = .ok (l, m, cap) w) :
    (Instr.sliceAt t (.slice a len cap) lov hiv none).run P w = .ok (.slice (if cap = l then a else a.map (·.add (l * f.size))) (m - l) (cap - l)) w := by
  simp [Instr.sliceAt, Instr.slice, run_underlying hu, hb, sizeOf, typeInfo, hf]
theorem Win.sub {e : EI} {off n l m c : Nat} {v : Option Addr} (h : Win e off n [.slice v n c]) (h1 : l ≤ m) (h2 : m ≤ n) (hc : e.len ≤ e.cap) (sz : Nat) (hsz : sz = e.esz) :
    Win e (off + l) (m - l) [.slice (if c = l then v else v.map (·.add (l * sz))) (m - l) (c - l)] := by
  obtain ⟨k1, a, k2, k3⟩ := h
  simp only [List.cons.injEq, Value.slice.injEq, and_true, true_and] at k2
  obtain ⟨rfl, rfl⟩ := k2
  refine ⟨by omega, _, by rw [Nat.sub_sub], fun h => ?_⟩
  have hne : ¬ (e.cap - off = l) := by omega
  obtain ⟨g1, g2⟩ := k3 (by omega)
  refine ⟨g1, ?_⟩
  rw [if_neg hne, g2, hsz]
  simp [add_lit, Nat.add_mul, Nat.add_assoc]
theorem All_sub {R : α → List Value → Prop} {n l m : Nat} (hR : ∀ x c, R x c → c.length = n) {xs : List α} {ds : List Value} (h : All R xs ds) (hm : l ≤ xs.length) : ∃ c d e, ds = c ++ (d ++ e) ∧ c.length = l * n ∧ All R ((xs.drop l).take m) d := by
  have e : xs = xs.take l ++ ((xs.drop l).take m ++ (xs.drop l).drop m) := by rw [List.take_append_drop, List.take_append_drop]
  rw [e] at h
  obtain ⟨c1, d, rfl, h1, h2⟩ := h.split
  obtain ⟨c2, c3, rfl, h3, h4⟩ := h2.split
  refine ⟨c1, c2, c3, rfl, ?_, h3⟩
  rw [h1.len hR]; simp [Nat.min_eq_left hm]
theorem RepD_sub {t : Ty} {xs : List (Den t)} {v : Option Addr} {cap l m : Nat} (h : RepD F w (.sl t) xs [.slice v xs.length cap]) (h1 : l ≤ m) (h2 : m ≤ xs.length) (sz : Nat) (hsz : sz = t.sz) :
    RepD F w (.sl t) ((xs.drop l).take (m - l)) [.slice (if cap = l then v else v.map (·.add (l * sz))) (m - l) (cap - l)] := by
  rw [RepD] at h ⊢
  obtain ⟨ad, c, k1, k2, k3⟩ := h
  simp only [List.cons.injEq, Value.slice.injEq, and_true, true_and] at k1
  obtain ⟨rfl, rfl⟩ := k1
  have hlen : List.length ((xs.drop l).take (m - l)) = m - l := by simp; omega
  refine ⟨_, _, by rw [hlen], by rw [hlen]; omega, ?_⟩
  rcases k3 with rfl | ⟨b, o, ds, rfl, k4, k5, k6⟩
  · left; simp
  · by_cases hz : m - l = 0
    · left; rw [hz]; simp
    · right
      have hne : ¬ (cap = l) := by omega
      obtain ⟨c, d, e, rfl, g1, g2⟩ := All_sub (m := m - l) (fun x c => RepD_len) k5 (show l ≤ xs.length by omega)
      refine ⟨b, o + l * sz, d, by rw [if_neg hne]; simp [add_lit], k4, g2, ?_⟩
      have := (k6.append.2).append.1
      rw [g1] at this
      rw [hsz]; exact this
end
theorem op_slice (hti : TIok P cx) {t : TypeId} {x : Operand} {lo hj : Option Operand} {mx : Option Operand} (ho : o.op = .slice t x lo hj mx) : OpP P ok cx hi o := by
  intro C hC rg ix key A s a w wr K Q h hr hA hK
  simp only [opSem, ho] at h
  obtain ⟨E, F, hm, ht⟩ := hr
  cases mx with
  | some m => exact h.fail.elim
  | none =>
  obtain ⟨i, hi', h⟩ := Cx.t_ev h
  have hT := hti t i hi'
  obtain ⟨X, h1, h2⟩ := ev_ok h ht
  obtain ⟨LO, h3, h4⟩ := evO_ok h2 ht
  obtain ⟨HI, h5, h6⟩ := evO_ok h4 ht
  have run : ∀ v, (Instr.sliceAt t (a.eval x) (lo.map a.eval) (hj.map a.eval) none).run P w = .ok v w → (execOp a.eval o).run P w = .ok (.value v) w := by
    intro v hv
    simp only [execOp, ho, Sem.run_bind, Option.map_none, hv]
    rfl
  unfold sliceS at h6
  split at h6
  · rename_i sv htd
    have hx := of_str h1
    have hu := hT.str htd
    obtain ⟨l, m, g1, g2, g3, g4⟩ := cut_ok (P := P) (isS := false) (Nat.le_refl _) h6 h3 h5 (.inr rfl)
    refine pure_rel (run (.string (sv.extract l m)) ?_) g3 hm ht (rep_str _) hK
    rw [hx]
    simp [Instr.sliceAt, Instr.slice, run_underlying hu, g4]
  · rename_i n htd
    obtain ⟨e, hu, ⟨f, z, f1, f2, f3, f4, f5⟩⟩ := hT.slice htd
    have h6 := h6.get
    simp only [look] at h6
    split at h6
    · rename_i a' xs ro hobj
      simp only [Cn.o.injEq] at hobj
      have e6 := castL_eq h6; subst e6; have h6 := castL_same h6
      obtain ⟨q1, q2, q3, q4, ds, q5, q6⟩ := arr_at hm hobj
      have h1' := h1
      obtain ⟨_, p1, p2⟩ := h1
      obtain ⟨w1, ad, w2, w3⟩ := id p2
      simp only [List.cons.injEq, and_true] at w2
      have hsz : f.size = (E.e n).esz := by rw [f2, q3]
      rw [w2] at p2
      split at h6
      · -- the whole
        have e5 : hj.map a.eval = none := by cases hq : hj.map a.eval with
          | none => rfl
          | some v => rw [hq] at h5; exact h5.elim
        have e3 : lo.map a.eval = none := by cases hq : lo.map a.eval with
          | none => rfl
          | some v => rw [hq] at h3; exact h3.elim
        refine pure_rel (run _ ?_) h6 hm ht h1' hK
        rw [w2, e3, e5, run_slice_cut hu f1 (l := 0) (m := (E.e n).len) (by simp [Instr.sliceBounds])]
        simp only [Nat.zero_mul, Nat.sub_zero]
        split
        · rfl
        · cases ad with
          | none => rfl
          | some ad => simp [Addr.add]
      · rename_i lov
        have e5 : hj.map a.eval = none := by cases hq : hj.map a.eval with
          | none => rfl
          | some v => rw [hq] at h5; exact h5.elim
        obtain ⟨lv, e3⟩ : ∃ lv, lo.map a.eval = some lv := by cases hq : lo.map a.eval with
          | none => rw [hq] at h3; exact h3.elim
          | some v => exact ⟨v, rfl⟩
        rw [e3] at h3
        obtain ⟨l, g1, g2, g3⟩ := cutLo_ok (P := P) (cap := (E.e n).cap - 0) h6 h3
        rw [q1] at g1 g3
        have hw := p2.sub (l := l) (m := (E.e n).len) g1 (Nat.le_refl _) q2 f.size hsz
        rw [Nat.zero_add] at hw
        refine pure_rel (run _ ?_) g2 hm ht (rep_slice ⟨p1, g1, hw⟩) hK
        rw [w2, e3, e5, run_slice_cut hu f1 (g3 true (.inl rfl))]
      · obtain ⟨l, m, g1, g2, g3, g4⟩ := cut_ok (P := P) (isS := true) (cap := (E.e n).cap - 0) (by rw [q1]; omega) h6 h3 h5 (.inl rfl)
        rw [q1] at g2 g4
        have hw := p2.sub (l := l) (m := m) g1 g2 q2 f.size hsz
        rw [Nat.zero_add] at hw
        refine pure_rel (run _ ?_) g3 hm ht (rep_slice ⟨p1, hw⟩) hK
        rw [w2, run_slice_cut hu f1 g4]
    · exact h6.fail.elim
  · rename_i n off htd
    obtain ⟨e, hu, ⟨f, z, f1, f2, f3, f4, f5⟩⟩ := hT.slice htd
    have h6 := h6.get
    simp only [look] at h6
    split at h6
    · rename_i a' xs ro hobj
      simp only [Cn.o.injEq] at hobj
      have e6 := castL_eq h6; subst e6; have h6 := castL_same h6
      obtain ⟨q1, q2, q3, q4, ds, q5, q6⟩ := arr_at hm hobj
      have h1' := h1
      obtain ⟨_, p1, p0, p2⟩ := h1
      obtain ⟨w1, ad, w2, w3⟩ := id p2
      simp only [List.cons.injEq, and_true] at w2
      have hsz : f.size = (E.e n).esz := by rw [f2, q3]
      rw [w2] at p2
      split at h6
      · have e5 : hj.map a.eval = none := by cases hq : hj.map a.eval with
          | none => rfl
          | some v => rw [hq] at h5; exact h5.elim
        have e3 : lo.map a.eval = none := by cases hq : lo.map a.eval with
          | none => rfl
          | some v => rw [hq] at h3; exact h3.elim
        refine pure_rel (run _ ?_) h6 hm ht h1' hK
        rw [w2, e3, e5, run_slice_cut hu f1 (l := 0) (m := (E.e n).len - off) (by simp [Instr.sliceBounds])]
        simp only [Nat.zero_mul, Nat.sub_zero]
        split
        · rfl
        · cases ad with
          | none => rfl
          | some ad => simp [Addr.add]
      · rename_i lov
        have e5 : hj.map a.eval = none := by cases hq : hj.map a.eval with
          | none => rfl
          | some v => rw [hq] at h5; exact h5.elim
        obtain ⟨lv, e3⟩ : ∃ lv, lo.map a.eval = some lv := by cases hq : lo.map a.eval with
          | none => rw [hq] at h3; exact h3.elim
          | some v => exact ⟨v, rfl⟩
        rw [e3] at h3
        obtain ⟨l, g1, g2, g3⟩ := cutLo_ok (P := P) (cap := (E.e n).cap - off) h6 h3
        rw [q1] at g1 g3
        have hw := p2.sub (l := l) (m := (E.e n).len - off) g1 (Nat.le_refl _) q2 f.size hsz
        refine pure_rel (run _ ?_) g2 hm ht (rep_slice ⟨p1, by omega, by rw [← Nat.sub_sub]; exact hw⟩) hK
        rw [w2, e3, e5, run_slice_cut hu f1 (g3 true (.inl rfl))]
      · obtain ⟨l, m, g1, g2, g3, g4⟩ := cut_ok (P := P) (isS := true) (cap := (E.e n).cap - off) (by rw [q1]; omega) h6 h3 h5 (.inl rfl)
        rw [q1] at g2 g4
        have hw := p2.sub (l := l) (m := m) g1 g2 q2 f.size hsz
        refine pure_rel (run _ ?_) g3 hm ht (rep_slice ⟨p1, hw⟩) hK
        rw [w2, run_slice_cut hu f1 g4]
    · exact h6.fail.elim
  · rename_i n off len htd
    obtain ⟨e, hu, ⟨f, z, f1, f2, f3, f4, f5⟩⟩ := hT.slice htd
    have h6 := h6.get
    simp only [look] at h6
    split at h6
    · rename_i a' xs ro hobj
      simp only [Cn.o.injEq] at hobj
      have e6 := castL_eq h6; subst e6; have h6 := castL_same h6
      obtain ⟨q1, q2, q3, q4, ds, q5, q6⟩ := arr_at hm hobj
      obtain ⟨_, p1, p2⟩ := h1
      obtain ⟨w1, ad, w2, w3⟩ := id p2
      simp only [List.cons.injEq, and_true] at w2
      have hsz : f.size = (E.e n).esz := by rw [f2, q3]
      rw [w2] at p2
      obtain ⟨l, m, g1, g2, g3, g4⟩ := cut_ok (P := P) (isS := true) (cap := (E.e n).cap - off) (by omega) h6 h3 h5 (.inl rfl)
      have hw := p2.sub (l := l) (m := m) g1 g2 q2 f.size hsz
      refine pure_rel (run _ ?_) g3 hm ht (rep_slice ⟨p1, hw⟩) hK
      rw [w2, run_slice_cut hu f1 g4]
    · exact h6.fail.elim
  · rename_i a' xs htd
    obtain ⟨e, hu, ⟨f, z, f1, f2, f3, f4, f5⟩⟩ := hT.slice htd
    have e6 := castL_eq h6; subst e6; have h6 := castL_same h6
    have h1' := h1
    obtain ⟨_, p2⟩ := h1
    rw [RepL] at p2
    have p3 := p2
    rw [RepD] at p3
    obtain ⟨ad, cap, w2, w3, _⟩ := p3
    simp only [List.cons.injEq, and_true] at w2
    rw [w2] at p2
    split at h6
    · have e5 : hj.map a.eval = none := by cases hq : hj.map a.eval with
        | none => rfl
        | some v => rw [hq] at h5; exact h5.elim
      have e3 : lo.map a.eval = none := by cases hq : lo.map a.eval with
        | none => rfl
        | some v => rw [hq] at h3; exact h3.elim
      refine pure_rel (run _ ?_) h6 hm ht h1' hK
      rw [w2, e3, e5, run_slice_cut hu f1 (l := 0) (m := List.length xs) (by simp [Instr.sliceBounds])]
      simp only [Nat.zero_mul, Nat.sub_zero]
      split
      · rfl
      · cases ad with
        | none => rfl
        | some ad => simp [Addr.add]
    · rename_i lov
      have e5 : hj.map a.eval = none := by cases hq : hj.map a.eval with
        | none => rfl
        | some v => rw [hq] at h5; exact h5.elim
      obtain ⟨lv, e3⟩ : ∃ lv, lo.map a.eval = some lv := by cases hq : lo.map a.eval with
        | none => rw [hq] at h3; exact h3.elim
        | some v => exact ⟨v, rfl⟩
      rw [e3] at h3
      obtain ⟨l, g1, g2, g3⟩ := cutLo_ok (P := P) (cap := cap) h6 h3
      have hw := RepD_sub p2 (l := l) (m := List.length xs) g1 (Nat.le_refl _) f.size f2
      have ee : (List.drop l xs).take (List.length xs - l) = List.drop l xs := List.take_of_length_le (by simp)
      rw [ee] at hw
      refine pure_rel (run _ ?_) g2 hm ht (rep_slice hw) hK
      rw [w2, e3, e5, run_slice_cut hu f1 (g3 true (.inl rfl))]
    · obtain ⟨l, m, g1, g2, g3, g4⟩ := cut_ok (P := P) (isS := true) (cap := cap) w3 h6 h3 h5 (.inl rfl)
      have hw := RepD_sub p2 g1 g2 f.size f2
      refine pure_rel (run _ ?_) g3 hm ht (rep_slice hw) hK
      rw [w2, run_slice_cut hu f1 g4]
  · rename_i n l y' htd
    obtain ⟨e, hu, ⟨f, z, f1, f2, f3, f4, f5⟩, hsc, hzk⟩ := hT.array htd
    have hsz : f.size = 1 := by rw [f2, scalar_sz hsc]
    obtain ⟨lo', m, g1, g2, g3, g4⟩ := cut_ok (P := P) (isS := false) (Nat.le_refl _) h6 h3 h5 (.inr rfl)
    obtain ⟨_, p1, p2, p3⟩ := h1
    simp only [List.cons.injEq, and_true] at p2
    refine pure_rel (run (.slice (some (if i.n = lo' then ⟨(E.e n).blk, (E.e n).loff l, none⟩ else ⟨(E.e n).blk, (E.e n).loff l + lo', none⟩)) (m - lo') (i.n - lo')) ?_) g3 hm ht (rep_slice ⟨p1, by omega, _, _, rfl, by omega, fun hne => ?_⟩) hK
    · rw [p2]
      simp [Instr.sliceAt, Instr.sureAddr, run_underlying hu, g4, sizeOf, typeInfo, f1, hsz, add_lit]
    · rw [if_neg (by omega)]
  · exact h6.fail.elim
end
end Go.Proofs.Zs
/- Lengths, bytes of strings, least and greatest, conversions that make nothing. -/
set_option linter.unusedVariables false
set_option linter.unusedSimpArgs false
namespace Go.Proofs.Zs
open Go

theorem toList_eq (s : ByteArray) : s.size = s.data.toList.length := rfl

section
variable {P : Program} {ok : Nat → List DV → List DV → Prop} {cx : Cx} {hi : Hi} {o : Oper}
theorem run_index_str {w : World} {t : TypeId} (hu : P.underlying t = some .string) {s : ByteArray} {k : IntKind} {i : Int} (h0 : 0 ≤ i) (h1 : i < s.size) :
    (Instr.index t (.string s) (.int k i)).run P w = .ok (.int .u8 (byteAt s i)) w := by
  have hlt : i.toNat < s.size := by omega
  have hlt' : i.toNat < s.data.toList.length := by rw [← toList_eq]; exact hlt
  have : s[i.toNat]? = some s[i.toNat] := by simp [hlt]
  simp only [Instr.index, asIntOf, Sem.run_bind, Sem.run_pure, run_underlying hu, Result.andThen_ok, h0, if_true, this, byteAt]
  rw [List.getD_eq_getElem?_getD, List.getElem?_eq_getElem hlt', Option.getD_some]
  rfl
theorem op_index (hti : TIok P cx) {t : TypeId} {x y : Operand} (ho : o.op = .index t x y) : OpP P ok cx hi o := by
  intro C hC rg ix key A s a w wr K Q h hr hA hK
  simp only [opSem, ho] at h
  obtain ⟨E, F, hm, ht⟩ := hr
  obtain ⟨i, hi', h⟩ := Cx.t_ev h
  have hT := hti t i hi'
  obtain ⟨X, h1, h2⟩ := ev_ok h ht
  obtain ⟨Y, h3, h4⟩ := ev_ok h2 ht
  unfold index2 at h4
  split at h4
  · rename_i sv k j htd
    have hx := of_str h1
    have hy := of_int h3
    have hu := hT.str htd
    rcases h4.ite with ⟨hb, h4⟩ | ⟨_, h4⟩
    · obtain ⟨b0, b1⟩ := idx_spec hb
      refine pure_rel ?_ h4 hm ht (rep_int _ _) hK
      simp only [execOp, ho, hx, hy, Sem.run_bind, run_index_str hu b0 b1]
      rfl
    · exact h4.fail.elim
  · exact h4.fail.elim

theorem fgOk_get {P : Program} : ∀ {fs : List Field} {bs : List Bool}, fgOk P fs bs = true → ∀ {f : Nat} {x : Field} {b : Bool}, fs[f]? = some x → nthO bs f = some b → ∃ d, P.underlying x.type = some d ∧ isAggD d = b
  | _, [], _, f, x, b, _, hb => by simp [nthO] at hb
  | [], _ :: _, h, _, _, _, _, _ => by simp [fgOk] at h
  | y :: r, c :: q, h, 0, x, b, hx, hb => by
    simp only [fgOk, Bool.and_eq_true] at h
    simp only [List.getElem?_cons_zero, Option.some.injEq] at hx
    simp only [nthO, Option.some.injEq] at hb
    subst hx; subst hb
    obtain ⟨h, _⟩ := h
    split at h
    · rename_i d hd; exact ⟨d, hd, by simpa using h⟩
    · simp at h
  | y :: r, c :: q, h, f + 1, x, b, hx, hb => by
    simp only [fgOk, Bool.and_eq_true] at h
    exact fgOk_get h.2 (by simpa using hx) (by simpa [nthO] using hb)
theorem RepLs_sub {E : Env} {F : Nat → Prop} {w : World} {ls : List L} {cs : List Value} (h : RepLs E F w ls cs) (l n : Nat) :
    RepLs E F w (takeN n (dropN l ls)) ((cs.drop ((sizes ls).take l).sum).take (sizes (takeN n (dropN l ls))).sum) := by
  rw [takeN_eq, dropN_eq]
  have e : ls = ls.take l ++ ((ls.drop l).take n ++ (ls.drop l).drop n) := by rw [List.take_append_drop, List.take_append_drop]
  have h' := h
  rw [e] at h'
  obtain ⟨c1, d, rfl, h1, h2⟩ := h'.split
  obtain ⟨c2, c3, rfl, h3, h4⟩ := h2.split
  have e1 : c1.length = ((sizes ls).take l).sum := by rw [sizes_sum h1, sizes_take]
  have e2 : c2.length = (sizes ((ls.drop l).take n)).sum := sizes_sum h3
  rw [← e1, ← e2, List.drop_left', List.take_left']
  · exact h3
  · rfl
  · rfl
theorem op_field (hti : TIok P cx) {t : TypeId} {x : Operand} {f : Nat} (ho : o.op = .field t x f) : OpP P ok cx hi o := by
  intro C hC rg ix key A s a w wr K Q h hr hA hK
  simp only [opSem, ho] at h
  obtain ⟨E, F, hm, ht⟩ := hr
  obtain ⟨i, hi', h⟩ := Cx.t_ev h
  have hT := hti t i hi'
  obtain ⟨X, h1, h2⟩ := ev_ok h ht
  unfold fieldV at h2
  split at h2
  · rename_i d z g ls htd hn hg
    split at h2
    · rename_i hz1 hz2
      have hz1 := natsEq_spec hz1
      have hz2 := natsEq_spec hz2
      obtain ⟨fs, hu, hfs⟩ := hT.struct htd
      obtain ⟨fx, y, g1, g2, g3, g4, g5, g6, g7⟩ := fsOk_get _ _ _ hfs f d z hn
      have g1' : fs[f]? = some fx := by simpa using g1
      obtain ⟨d', k1, k2⟩ := fgOk_get (hT.fg fs hu) g1 hg
      obtain ⟨cs, e, hls⟩ := of_agg h1
      have hsub := RepLs_sub hls d z.length
      rw [hz2, hz1, ← g2, ← g4] at hsub
      have hag : (isAgg fx.type).run P w = .ok g w := by
        unfold Go.isAgg
        simp only [Sem.run_bind, run_underlying k1, Result.andThen_ok]
        rw [← k2]
        cases d' <;> simp [isAggD]
      have run : ∀ v, (part fx.type cs fx.offset).run P w = .ok v w → (execOp a.eval o).run P w = .ok (.value v) w := by
        intro v hv
        simp only [execOp, ho, e, Instr.field, Sem.run_bind, run_underlying hu, Result.andThen_ok, g1', asAgg, Sem.run_pure, hv]
      split at h2
      · refine pure_rel (run (.agg (cs.extract fx.offset (fx.offset + y.size))) ?_) h2 hm ht ⟨_, rfl, ?_⟩ hK
        · simp [part, Sem.run_bind, hag, Go.sizeOf, typeInfo, g3]
        · have e3 : (cs.extract fx.offset (fx.offset + y.size)).toList = (cs.toList.drop fx.offset).take y.size := by simp [List.take_drop]
          rw [e3]; exact hsub
      · rename_i yl hq
        split at h2
        · rename_i hy1
          have hy1 := Nat.eq_of_beq_eq_true hy1
          rw [hq] at hsub
          have hone := All.one.1 hsub
          have hysz : y.size = 1 := by rw [g4, ← hz2, hq]; simp [sizes, hy1]
          have hlen := RepL_len hone
          rw [hysz] at hone hlen
          have hlt : fx.offset < cs.toList.length := by
            rw [hy1] at hlen
            simp only [List.length_take, List.length_drop] at hlen
            omega
          rw [List.drop_eq_getElem_cons hlt, List.take_succ_cons, List.take_zero] at hone
          have hv1 : cs[fx.offset]? = some cs.toList[fx.offset] := by
            rw [← Array.getElem?_toList, List.getElem?_eq_getElem hlt]
          refine pure_rel (x := .one yl) (run cs.toList[fx.offset] ?_) h2 hm ht (one_of (RepL_ok hone _ (by simp)) hone) hK
          unfold part
          simp only [Sem.run_bind, hag, Result.andThen_ok, Bool.false_eq_true, if_false, hv1, Sem.run_pure]
        · exact h2.fail.elim
      · exact h2.fail.elim
    · exact h2.fail.elim
  · exact h2.fail.elim

/-- Two arguments. -/
theorem two_args {E : Env} {F : Nat → Prop} {w : World} {x y : V} {args : Array Operand} {a : Act} (h : All2 (RepV E F w) [x, y] (args.toList.map a.eval)) : ∃ p q, args = #[p, q] ∧ RepV E F w x (a.eval p) ∧ RepV E F w y (a.eval q) := by
  match args, h with
  | ⟨[p, q]⟩, h => exact ⟨p, q, rfl, h.1, h.2.1⟩
  | ⟨[]⟩, h => exact h.elim
  | ⟨[_]⟩, h => exact h.2.elim
  | ⟨_ :: _ :: _ :: _⟩, h => exact h.2.2.elim
theorem one_arg {E : Env} {F : Nat → Prop} {w : World} {x : V} {args : Array Operand} {a : Act} (h : All2 (RepV E F w) [x] (args.toList.map a.eval)) : ∃ p, args = #[p] ∧ RepV E F w x (a.eval p) := by
  match args, h with
  | ⟨[p]⟩, h => exact ⟨p, rfl, h.1⟩
  | ⟨[]⟩, h => exact h.elim
  | ⟨_ :: _ :: _⟩, h => exact h.2.elim
theorem run_builtin {c : Call} {b : Builtin} (ho : o.op = .call c) (hc : c.callee = .builtin b) (a : Act) (w : World) : ∃ cs, (execOp a.eval o).run P w = (builtin b c.argTypes o.type cs (c.args.map a.eval)).run P w := by
  refine ⟨c.args.map fun | .const _ => true | _ => false, ?_⟩
  simp only [execOp, ho, resolve, hc, Sem.run_bind, Sem.run_pure, Result.andThen_ok, invoke]
  rfl

/-- A slice's length. -/
theorem op_len (hti : TIok P cx) {c : Call} (ho : o.op = .call c) (hc : c.callee = .builtin .len) : OpP P ok cx hi o := by
  intro C hC rg ix key A s a w wr K Q h hr hA hK
  simp only [opSem, ho, hc] at h
  obtain ⟨E, F, hm, ht⟩ := hr
  obtain ⟨xs, h1, h2⟩ := evs_ok h ht
  split at h2
  · rename_i x
    split at h2
    · rename_i t r htl
      obtain ⟨p, hp, h4⟩ := one_arg h1
      obtain ⟨i, hi', h3⟩ := Cx.t_ev h2
      clear h2 h1
      have h2 := h3; have h1 := h4
      clear h3 h4
      have hT := hti _ i hi'
      obtain ⟨cs, hrun⟩ := run_builtin (P := P) ho hc a w
      have hat : c.argTypes[0]? = some t := by rw [← Array.getElem?_toList, htl]; rfl
      have run : ∀ n : Nat, (Builtin.len_ c.argTypes o.type #[a.eval p]).run P w = .ok (goInt n) w → (execOp a.eval o).run P w = .ok (.value (goInt n)) w := by
        intro n hn
        rw [hrun, hp, show (Array.map a.eval #[p]) = #[a.eval p] by simp]
        simp only [builtin, Sem.run_bind, hn]
        rfl
      have sl : ∀ {v : Option Addr} {n c' : Nat}, i.td = .slice → a.eval p = .slice v n c' → (execOp a.eval o).run P w = .ok (.value (goInt n)) w := by
        intro v n c' htd hv
        obtain ⟨e, hu, _⟩ := hT.slice htd
        exact run _ (by simp [Builtin.len_, hat, hv, run_underlying hu])
      have wi : ∀ {e : EI} {off n : Nat}, i.td = .slice → Win e off n [a.eval p] → (execOp a.eval o).run P w = .ok (.value (goInt n)) w := by
        intro e off n htd hw
        obtain ⟨_, v, hw, _⟩ := hw
        simp only [List.cons.injEq, and_true] at hw
        exact sl htd hw
      unfold lenS at h2
      split at h2
      · rename_i sv htd
        have hx := of_str h1
        exact pure_rel (run _ (by simp [Builtin.len_, hat, hx, run_underlying (hT.str htd)])) h2 hm ht (rep_int .i64 _) hK
      · rename_i a' xs htd
        have p2 := h1.2
        rw [RepL, RepD] at p2
        obtain ⟨ad, cap, p2, _⟩ := p2
        simp only [List.cons.injEq, and_true] at p2
        exact pure_rel (sl htd p2) h2 hm ht (rep_int .i64 _) hK
      · rename_i a' xs htd
        have p2 := h1.2
        rw [RepL, RepD] at p2
        obtain ⟨⟨ad, cap, p2, _⟩, _⟩ := p2
        simp only [List.cons.injEq, and_true] at p2
        exact pure_rel (sl htd p2) h2 hm ht (rep_int .i64 _) hK
      · rename_i htd
        have p2 := h1.2
        rw [RepL] at p2
        simp only [List.cons.injEq, and_true] at p2
        exact pure_rel (sl htd p2) h2 hm ht (rep_int .i64 _) hK
      · rename_i n htd
        have h2 := h2.get
        simp only [look] at h2
        split at h2
        · rename_i a' xs ro hobj
          simp only [Cn.o.injEq] at hobj
          obtain ⟨q1, _⟩ := arr_at hm hobj
          obtain ⟨_, p1, p2⟩ := h1
          refine pure_rel (wi htd p2) h2 hm ht ?_ hK
          rw [← q1]; exact rep_int .i64 _
        · exact h2.fail.elim
      · rename_i n off htd
        have h2 := h2.get
        simp only [look] at h2
        split at h2
        · rename_i a' xs ro hobj
          simp only [Cn.o.injEq] at hobj
          obtain ⟨q1, _⟩ := arr_at hm hobj
          obtain ⟨_, p1, _, p2⟩ := h1
          refine pure_rel (wi htd p2) h2 hm ht ?_ hK
          rw [← q1]; exact rep_int .i64 _
        · exact h2.fail.elim
      · rename_i n off len htd
        obtain ⟨_, p1, p2⟩ := h1
        exact pure_rel (wi htd p2) h2 hm ht (rep_int .i64 _) hK
      · rename_i n l m off len htd
        obtain ⟨_, p1, _, v, c', p2, _⟩ := h1
        simp only [List.cons.injEq, and_true] at p2
        exact pure_rel (sl htd p2) h2 hm ht (rep_int .i64 _) hK
      · rename_i n m i' sz y htd
        obtain ⟨_, _, p1, ad, q, c', p2, p3, _⟩ := h1
        simp only [List.cons.injEq, and_true] at p1
        rw [p2] at p1
        refine pure_rel (sl htd p1) h2 hm ht ?_ hK
        rw [← p3]; exact rep_int .i64 _
      · rename_i htd
        obtain ⟨e, hu, _⟩ := hT.array htd
        exact pure_rel (run _ (by simp [Builtin.len_, hat, run_underlying hu])) h2 hm ht (rep_int .i64 _) hK
      · exact h2.fail.elim
    · exact h2.fail.elim
  · exact h2.fail.elim
theorem op_min {c : Call} (ho : o.op = .call c) (hc : c.callee = .builtin .min) : OpP P ok cx hi o := by
  intro C hC rg ix key A s a w wr K Q h hr hA hK
  simp only [opSem, ho, hc] at h
  obtain ⟨E, F, hm, ht⟩ := hr
  obtain ⟨xs, h1, h2⟩ := evs_ok h ht
  split at h2
  · rename_i i x j y
    obtain ⟨p, q, hp, h1, h3⟩ := two_args h1
    have hx := of_int h1
    have hy := of_int h3
    obtain ⟨cs, hrun⟩ := run_builtin (P := P) ho hc a w
    refine pure_rel ?_ h2 hm ht (rep_int _ _) hK
    rw [hrun, hp, show (Array.map a.eval #[p, q]) = #[a.eval p, a.eval q] by simp, hx, hy]
    simp [builtin, Builtin.min_, Builtin.min2]
  · exact h2.fail.elim
theorem op_max {c : Call} (ho : o.op = .call c) (hc : c.callee = .builtin .max) : OpP P ok cx hi o := by
  intro C hC rg ix key A s a w wr K Q h hr hA hK
  simp only [opSem, ho, hc] at h
  obtain ⟨E, F, hm, ht⟩ := hr
  obtain ⟨xs, h1, h2⟩ := evs_ok h ht
  split at h2
  · rename_i i x j y
    obtain ⟨p, q, hp, h1, h3⟩ := two_args h1
    have hx := of_int h1
    have hy := of_int h3
    obtain ⟨cs, hrun⟩ := run_builtin (P := P) ho hc a w
    refine pure_rel ?_ h2 hm ht (rep_int _ _) hK
    rw [hrun, hp, show (Array.map a.eval #[p, q]) = #[a.eval p, a.eval q] by simp, hx, hy]
    simp [builtin, Builtin.max_, Builtin.max2]
  · exact h2.fail.elim
end
end Go.Proofs.Zs
