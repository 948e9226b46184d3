import Derived.Test.YtnfpdmhdpeffjaaGreatEngN
import Derived.Laws.IdiomStrings
set_option linter.unusedSimpArgs false
set_option linter.unusedVariables false
/- Lengths, bytes of strings, least and greatest, conversions that make nothing. -/
set_option linter.unusedVariables false
set_option linter.unusedSimpArgs false
namespace Go.Proofs.Zz
open Go

theorem toList_eq (s : ByteArray) : s.size = s.data.toList.length := rfl

section
variable {P : Program} {ok : Nat → List DV → List DV → Prop} {cx : Cx} {hi : Hi} {o : Oper}
theorem run_index_str {w : World} {t : TypeId} (hu : P.underlying t = some .string) {s : ByteArray} {k : IntKind} {i : Int} (h0 : 0 ≤ i) (h1 : i < s.size) :
    (Instr.index t (.string s) (.int k i)).run P w = .ok (.int .u8 (byteAt s i)) w := by
  have hlt : i.toNat < s.size := by omega
  have hlt' : i.toNat < s.data.toList.length := by rw [← toList_eq]; exact hlt
  have : s[i.toNat]? = some s[i.toNat] := by simp [hlt]
  simp only [Instr.index, asIntOf, Sem.run_bind, Sem.run_pure, run_underlying hu, Result.andThen_ok, h0, if_true, this, byteAt]
  rw [List.getD_eq_getElem?_getD, List.getElem?_eq_getElem hlt', Option.getD_some]
  rfl
theorem op_index (hti : TIok P cx) {t : TypeId} {x y : Operand} (ho : o.op = .index t x y) : OpP P ok cx hi o := by
  intro C rg ix key A s a w wr K Q h hr hA hK
  simp only [opSem, ho] at h
  obtain ⟨E, F, hm, ht⟩ := hr
  obtain ⟨i, hi', h⟩ := Cx.t_ev h
  have hT := hti t i hi'
  obtain ⟨X, h1, h2⟩ := ev_ok h ht
  obtain ⟨Y, h3, h4⟩ := ev_ok h2 ht
  unfold index2 at h4
  split at h4
  · rename_i sv k j htd
    have hx := of_str h1
    have hy := of_int h3
    have hu := hT.str htd
    rcases h4.ite with ⟨hb, h4⟩ | ⟨_, h4⟩
    · obtain ⟨b0, b1⟩ := idx_spec hb
      refine pure_rel ?_ h4 hm ht (rep_int _ _) hK
      simp only [execOp, ho, hx, hy, Sem.run_bind, run_index_str hu b0 b1]
      rfl
    · exact h4.fail.elim
  · exact h4.fail.elim

theorem fgOk_get {P : Program} : ∀ {fs : List Field} {bs : List Bool}, fgOk P fs bs = true → ∀ {f : Nat} {x : Field} {b : Bool}, fs[f]? = some x → nthO bs f = some b → ∃ d, P.underlying x.type = some d ∧ isAggD d = b
  | _, [], _, f, x, b, _, hb => by simp [nthO] at hb
  | [], _ :: _, h, _, _, _, _, _ => by simp [fgOk] at h
  | y :: r, c :: q, h, 0, x, b, hx, hb => by
    simp only [fgOk, Bool.and_eq_true] at h
    simp only [List.getElem?_cons_zero, Option.some.injEq] at hx
    simp only [nthO, Option.some.injEq] at hb
    subst hx; subst hb
    obtain ⟨h, _⟩ := h
    split at h
    · rename_i d hd; exact ⟨d, hd, by simpa using h⟩
    · simp at h
  | y :: r, c :: q, h, f + 1, x, b, hx, hb => by
    simp only [fgOk, Bool.and_eq_true] at h
    exact fgOk_get h.2 (by simpa using hx) (by simpa [nthO] using hb)
theorem RepLs_sub {E : Env} {F : Nat → Prop} {w : World} {ls : List L} {cs : List Value} (h : RepLs E F w ls cs) (l n : Nat) :
    RepLs E F w (takeN n (dropN l ls)) ((cs.drop ((sizes ls).take l).sum).take (sizes (takeN n (dropN l ls))).sum) := by
  rw [takeN_eq, dropN_eq]
  have e : ls = ls.take l ++ ((ls.drop l).take n ++ (ls.drop l).drop n) := by rw [List.take_append_drop, List.take_append_drop]
  have h' := h
  rw [e] at h'
  obtain ⟨c1, d, rfl, h1, h2⟩ := h'.split
  obtain ⟨c2, c3, rfl, h3, h4⟩ := h2.split
  have e1 : c1.length = ((sizes ls).take l).sum := by rw [sizes_sum h1, sizes_take]
  have e2 : c2.length = (sizes ((ls.drop l).take n)).sum := sizes_sum h3
  rw [← e1, ← e2, List.drop_left', List.take_left']
  · exact h3
  · rfl
  · rfl
theorem op_field (hti : TIok P cx) {t : TypeId} {x : Operand} {f : Nat} (ho : o.op = .field t x f) : OpP P ok cx hi o := by
  intro C rg ix key A s a w wr K Q h hr hA hK
  simp only [opSem, ho] at h
  obtain ⟨E, F, hm, ht⟩ := hr
  obtain ⟨i, hi', h⟩ := Cx.t_ev h
  have hT := hti t i hi'
  obtain ⟨X, h1, h2⟩ := ev_ok h ht
  unfold fieldV at h2
  split at h2
  · rename_i d z g ls htd hn hg
    split at h2
    · rename_i hz1 hz2
      have hz1 := natsEq_spec hz1
      have hz2 := natsEq_spec hz2
      obtain ⟨fs, hu, hfs⟩ := hT.struct htd
      obtain ⟨fx, y, g1, g2, g3, g4, g5, g6, g7⟩ := fsOk_get _ _ _ hfs f d z hn
      have g1' : fs[f]? = some fx := by simpa using g1
      obtain ⟨d', k1, k2⟩ := fgOk_get (hT.fg fs hu) g1 hg
      obtain ⟨cs, e, hls⟩ := of_agg h1
      have hsub := RepLs_sub hls d z.length
      rw [hz2, hz1, ← g2, ← g4] at hsub
      have hag : (isAgg fx.type).run P w = .ok g w := by
        unfold Go.isAgg
        simp only [Sem.run_bind, run_underlying k1, Result.andThen_ok]
        rw [← k2]
        cases d' <;> simp [isAggD]
      have run : ∀ v, (part fx.type cs fx.offset).run P w = .ok v w → (execOp a.eval o).run P w = .ok (.value v) w := by
        intro v hv
        simp only [execOp, ho, e, Instr.field, Sem.run_bind, run_underlying hu, Result.andThen_ok, g1', asAgg, Sem.run_pure, hv]
      split at h2
      · refine pure_rel (run (.agg (cs.extract fx.offset (fx.offset + y.size))) ?_) h2 hm ht ⟨_, rfl, ?_⟩ hK
        · simp [part, Sem.run_bind, hag, Go.sizeOf, typeInfo, g3]
        · have e3 : (cs.extract fx.offset (fx.offset + y.size)).toList = (cs.toList.drop fx.offset).take y.size := by simp [List.take_drop]
          rw [e3]; exact hsub
      · rename_i yl hq
        split at h2
        · rename_i hy1
          have hy1 := Nat.eq_of_beq_eq_true hy1
          rw [hq] at hsub
          have hone := All.one.1 hsub
          have hysz : y.size = 1 := by rw [g4, ← hz2, hq]; simp [sizes, hy1]
          have hlen := RepL_len hone
          rw [hysz] at hone hlen
          have hlt : fx.offset < cs.toList.length := by
            rw [hy1] at hlen
            simp only [List.length_take, List.length_drop] at hlen
            omega
          rw [List.drop_eq_getElem_cons hlt, List.take_succ_cons, List.take_zero] at hone
          have hv1 : cs[fx.offset]? = some cs.toList[fx.offset] := by
            rw [← Array.getElem?_toList, List.getElem?_eq_getElem hlt]
          refine pure_rel (x := .one yl) (run cs.toList[fx.offset] ?_) h2 hm ht (one_of (RepL_ok hone _ (by simp)) hone) hK
          unfold part
          simp only [Sem.run_bind, hag, Result.andThen_ok, Bool.false_eq_true, if_false, hv1, Sem.run_pure]
        · exact h2.fail.elim
      · exact h2.fail.elim
    · exact h2.fail.elim
  · exact h2.fail.elim

/-- Two arguments. -/
theorem two_args {E : Env} {F : Nat → Prop} {w : World} {x y : V} {args : Array Operand} {a : Act} (h : All2 (RepV E F w) [x, y] (args.toList.map a.eval)) : ∃ p q, args = #[p, q] ∧ RepV E F w x (a.eval p) ∧ RepV E F w y (a.eval q) := by
  match args, h with
  | ⟨[p, q]⟩, h => exact ⟨p, q, rfl, h.1, h.2.1⟩
  | ⟨[]⟩, h => exact h.elim
  | ⟨[_]⟩, h => exact h.2.elim
  | ⟨_ :: _ :: _ :: _⟩, h => exact h.2.2.elim
theorem one_arg {E : Env} {F : Nat → Prop} {w : World} {x : V} {args : Array Operand} {a : Act} (h : All2 (RepV E F w) [x] (args.toList.map a.eval)) : ∃ p, args = #[p] ∧ RepV E F w x (a.eval p) := by
  match args, h with
  | ⟨[p]⟩, h => exact ⟨p, rfl, h.1⟩
  | ⟨[]⟩, h => exact h.elim
  | ⟨_ :: _ :: _⟩, h => exact h.2.elim
theorem run_builtin {c : Call} {b : Builtin} (ho : o.op = .call c) (hc : c.callee = .builtin b) (a : Act) (w : World) : ∃ cs, (execOp a.eval o).run P w = (builtin b c.argTypes o.type cs (c.args.map a.eval)).run P w := by
  refine ⟨c.args.map fun | .const _ => true | _ => false, ?_⟩
  simp only [execOp, ho, resolve, hc, Sem.run_bind, Sem.run_pure, Result.andThen_ok, invoke]
  rfl

/-- A slice's length. -/
theorem op_len (hti : TIok P cx) {c : Call} (ho : o.op = .call c) (hc : c.callee = .builtin .len) : OpP P ok cx hi o := by
  intro C rg ix key A s a w wr K Q h hr hA hK
  simp only [opSem, ho, hc] at h
  obtain ⟨E, F, hm, ht⟩ := hr
  obtain ⟨xs, h1, h2⟩ := evs_ok h ht
  split at h2
  · rename_i x
    split at h2
    · rename_i t r htl
      obtain ⟨p, hp, h4⟩ := one_arg h1
      obtain ⟨i, hi', h3⟩ := Cx.t_ev h2
      clear h2 h1
      have h2 := h3; have h1 := h4
      clear h3 h4
      have hT := hti _ i hi'
      obtain ⟨cs, hrun⟩ := run_builtin (P := P) ho hc a w
      have hat : c.argTypes[0]? = some t := by rw [← Array.getElem?_toList, htl]; rfl
      have run : ∀ n : Nat, (Builtin.len_ c.argTypes o.type #[a.eval p]).run P w = .ok (goInt n) w → (execOp a.eval o).run P w = .ok (.value (goInt n)) w := by
        intro n hn
        rw [hrun, hp, show (Array.map a.eval #[p]) = #[a.eval p] by simp]
        simp only [builtin, Sem.run_bind, hn]
        rfl
      have sl : ∀ {v : Option Addr} {n c' : Nat}, i.td = .slice → a.eval p = .slice v n c' → (execOp a.eval o).run P w = .ok (.value (goInt n)) w := by
        intro v n c' htd hv
        obtain ⟨e, hu, _⟩ := hT.slice htd
        exact run _ (by simp [Builtin.len_, hat, hv, run_underlying hu])
      have wi : ∀ {e : EI} {off n : Nat}, i.td = .slice → Win e off n [a.eval p] → (execOp a.eval o).run P w = .ok (.value (goInt n)) w := by
        intro e off n htd hw
        obtain ⟨_, v, hw, _⟩ := hw
        simp only [List.cons.injEq, and_true] at hw
        exact sl htd hw
      unfold lenS at h2
      split at h2
      · rename_i sv htd
        have hx := of_str h1
        exact pure_rel (run _ (by simp [Builtin.len_, hat, hx, run_underlying (hT.str htd)])) h2 hm ht (rep_int .i64 _) hK
      · rename_i a' xs htd
        have p2 := h1.2
        rw [RepL, RepD] at p2
        obtain ⟨ad, cap, p2, _⟩ := p2
        simp only [List.cons.injEq, and_true] at p2
        exact pure_rel (sl htd p2) h2 hm ht (rep_int .i64 _) hK
      · rename_i a' xs htd
        have p2 := h1.2
        rw [RepL, RepD] at p2
        obtain ⟨⟨ad, cap, p2, _⟩, _⟩ := p2
        simp only [List.cons.injEq, and_true] at p2
        exact pure_rel (sl htd p2) h2 hm ht (rep_int .i64 _) hK
      · rename_i htd
        have p2 := h1.2
        rw [RepL] at p2
        simp only [List.cons.injEq, and_true] at p2
        exact pure_rel (sl htd p2) h2 hm ht (rep_int .i64 _) hK
      · rename_i n htd
        have h2 := h2.get
        simp only [look] at h2
        split at h2
        · rename_i a' xs ro hobj
          simp only [Cn.o.injEq] at hobj
          obtain ⟨q1, _⟩ := arr_at hm hobj
          obtain ⟨_, p1, p2⟩ := h1
          refine pure_rel (wi htd p2) h2 hm ht ?_ hK
          rw [← q1]; exact rep_int .i64 _
        · exact h2.fail.elim
      · rename_i n off htd
        have h2 := h2.get
        simp only [look] at h2
        split at h2
        · rename_i a' xs ro hobj
          simp only [Cn.o.injEq] at hobj
          obtain ⟨q1, _⟩ := arr_at hm hobj
          obtain ⟨_, p1, _, p2⟩ := h1
          refine pure_rel (wi htd p2) h2 hm ht ?_ hK
          rw [← q1]; exact rep_int .i64 _
        · exact h2.fail.elim
      · rename_i n off len htd
        obtain ⟨_, p1, p2⟩ := h1
        exact pure_rel (wi htd p2) h2 hm ht (rep_int .i64 _) hK
      · rename_i n l m off len htd
        obtain ⟨_, p1, _, v, c', p2, _⟩ := h1
        simp only [List.cons.injEq, and_true] at p2
        exact pure_rel (sl htd p2) h2 hm ht (rep_int .i64 _) hK
      · rename_i n m i' sz y htd
        obtain ⟨_, _, p1, ad, q, c', p2, p3, _⟩ := h1
        simp only [List.cons.injEq, and_true] at p1
        rw [p2] at p1
        refine pure_rel (sl htd p1) h2 hm ht ?_ hK
        rw [← p3]; exact rep_int .i64 _
      · rename_i htd
        obtain ⟨e, hu, _⟩ := hT.array htd
        exact pure_rel (run _ (by simp [Builtin.len_, hat, run_underlying hu])) h2 hm ht (rep_int .i64 _) hK
      · exact h2.fail.elim
    · exact h2.fail.elim
  · exact h2.fail.elim
theorem op_min {c : Call} (ho : o.op = .call c) (hc : c.callee = .builtin .min) : OpP P ok cx hi o := by
  intro C rg ix key A s a w wr K Q h hr hA hK
  simp only [opSem, ho, hc] at h
  obtain ⟨E, F, hm, ht⟩ := hr
  obtain ⟨xs, h1, h2⟩ := evs_ok h ht
  split at h2
  · rename_i i x j y
    obtain ⟨p, q, hp, h1, h3⟩ := two_args h1
    have hx := of_int h1
    have hy := of_int h3
    obtain ⟨cs, hrun⟩ := run_builtin (P := P) ho hc a w
    refine pure_rel ?_ h2 hm ht (rep_int _ _) hK
    rw [hrun, hp, show (Array.map a.eval #[p, q]) = #[a.eval p, a.eval q] by simp, hx, hy]
    simp [builtin, Builtin.min_, Builtin.min2]
  · exact h2.fail.elim
theorem op_max {c : Call} (ho : o.op = .call c) (hc : c.callee = .builtin .max) : OpP P ok cx hi o := by
  intro C rg ix key A s a w wr K Q h hr hA hK
  simp only [opSem, ho, hc] at h
  obtain ⟨E, F, hm, ht⟩ := hr
  obtain ⟨xs, h1, h2⟩ := evs_ok h ht
  split at h2
  · rename_i i x j y
    obtain ⟨p, q, hp, h1, h3⟩ := two_args h1
    have hx := of_int h1
    have hy := of_int h3
    obtain ⟨cs, hrun⟩ := run_builtin (P := P) ho hc a w
    refine pure_rel ?_ h2 hm ht (rep_int _ _) hK
    rw [hrun, hp, show (Array.map a.eval #[p, q]) = #[a.eval p, a.eval q] by simp, hx, hy]
    simp [builtin, Builtin.max_, Builtin.max2]
  · exact h2.fail.elim
end
end Go.Proofs.Zz
