import Derived.Test.YtnhgipdlkcdeiaaDoorEnhA
set_option linter.unusedSimpArgs false
set_option linter.unusedVariables false
/- The operation that calls. -/
set_option linter.unusedVariables false
set_option linter.unusedSimpArgs false
namespace Go.Proofs.Zs
open Go

section
variable {P : Program} {ok : Nat → List DV → List DV → Prop} {cx : Cx} {hi : Hi} {o : Oper}
theorem All2.append {α β : Type} {R : α → β → Prop} : ∀ {xs xs' : List α} {ys ys' : List β}, All2 R xs ys → All2 R xs' ys' → All2 R (xs ++ xs') (ys ++ ys')
  | [], _, [], _, _, h => h
  | [], _, _ :: _, _, h, _ => h.elim
  | _ :: _, _, [], _, h, _ => h.elim
  | _ :: _, _, _ :: _, _, h, h' => ⟨h.1, h.2.append h'⟩
theorem capV_ok {E : Env} {F : Nat → Prop} {w : World} : ∀ {cp : List Cp}, (∀ c ∈ cp, E.al c.k ∧ Steps (E.e c.k).loff c.l c.y) → All2 (RepV E F w) (capV cp) (cp.map fun c => Value.pointer (some ⟨(E.e c.k).blk, (E.e c.k).loff c.l, none⟩))
  | [], _ => trivial
  | c :: r, h => ⟨⟨trivial, (h c (by simp)).1, rfl, (h c (by simp)).2⟩, capV_ok fun x hx => h x (by simp [hx])⟩
theorem blA_notup {ren : Nat → Nat} {a : AK} {b b' : B} {x : V} (h : blA ren a b = some (x, b')) : ∀ vs, x ≠ .tup vs := by
  rintro vs rfl
  cases a with
  | no => simp [blA, bad] at h
  | one k =>
    simp only [blA] at h
    split at h <;> simp at h
  | agg ks =>
    simp only [blA] at h
    split at h <;> simp at h
theorem ghosts_ok {ok : Nat → List DV → List DV → Prop} {s : St} {α : Type} {r : α} : ∀ {g : List (Nat × Nat)} {pre : List (Option Nat)} {k : List (Option Nat) → Rd α}, Ev ok (ghosts g pre k) s r → ∃ pre', pre'.length = pre.length ∧ Ev ok (k pre') s r
  | [], pre, k, h => ⟨pre, rfl, h⟩
  | g :: gr, pre, k, h => by
    simp only [ghosts] at h
    have h := h.get
    split at h
    · obtain ⟨pre', h1, h2⟩ := ghosts_ok h
      exact ⟨pre', by rw [h1, setN_eq]; simp, h2⟩
    · exact h.fail.elim
theorem blAs_w {ren : Nat → Nat} {E : Env} {F : Nat → Prop} {w : World} : ∀ {aks : List AK} {b b' : B} {ys : List V} {rs : List Value}, blAs ren aks b = some (ys, b') → All2 (RepV E F w) ys rs → All2 (RepW E F w) ys rs
  | [], b, b', ys, rs, h, hr => by
    simp only [blAs, Option.some.injEq, Prod.mk.injEq] at h
    obtain ⟨rfl, rfl⟩ := h
    cases rs with
    | nil => trivial
    | cons _ _ => exact hr.elim
  | a :: aks, b, b', ys, rs, h, hr => by
    simp only [blAs] at h
    split at h
    · rename_i x b1 hx
      split at h
      · rename_i q b2 hq
        simp only [Option.some.injEq, Prod.mk.injEq] at h
        obtain ⟨rfl, rfl⟩ := h
        cases rs with
        | nil => exact hr.elim
        | cons v rs =>
          refine ⟨?_, blAs_w hq hr.2⟩
          have := hr.1
          cases x with
          | tup vs => exact (blA_notup hx vs rfl).elim
          | one l => exact this
          | agg ls => exact this
      · simp at h
    · simp at h
/-- A call that writes its argument in place. -/
theorem op_wr (hok : ∀ rg ix c, look2 hi.cs rg ix = some c → ∀ p q, ok c.id p q → CallOK P c p q) {cl : Call} {fo : Operand} (ho : o.op = .call cl) (hc : cl.callee = .value fo) {C : Frm} {rg ix key : Nat} {A : Nat → Prop} {s : St} {a : Act} {w : World} {wr : Wr}
    {K : Act → World → Prop} {Q : Exit → Act → World → Prop} {c : CS} {t : Ty} (hcs : look2 hi.cs rg ix = some c) (hwt : wrT c = some t) {E : Env} {F : Nat → Prop} (hm : Mem C A E F s.ob w) (ht : Tms E F s.tm a w)
    (h : Ev ok (ev fo fun f => evs cl.args.toList fun args => wrS c t f args fun x wr => fin hi o.dst wr x) s wr) (hK : ∀ a' w', Rel C (fun k => A k ∨ (key ≤ k ∧ k < key + stride)) (apply wr s) a' w' → K a' w') : o.wp P a w K Q := by
  have hci : c.i.av = [.one (.w t)] := by
    unfold wrT at hwt
    split at hwt
    · rename_i u e; simp only [Option.some.injEq] at hwt; rw [e, hwt]
    · simp at hwt
  obtain ⟨X, h1, h2⟩ := ev_ok h ht
  obtain ⟨xs, h3, h4⟩ := evs_ok h2 ht
  unfold wrS at h4
  split at h4
  rotate_left
  · exact h4.fail.elim
  rename_i g n
  split at h4
  · exact h4.fail.elim
  rename_i hg
  have hg := Nat.eq_of_beq_eq_true hg
  subst hg
  have h4 := h4.get
  simp only [look] at h4
  split at h4
  rotate_left
  · exact h4.fail.elim
  rename_i u ys0 hobj
  simp only [Cn.o.injEq] at hobj
  have := castL_eq h4
  subst this
  have h4 := castL_same h4
  obtain ⟨out, hq, h4⟩ := h4.call
  obtain ⟨c1, _, c3⟩ := hok _ _ _ hcs _ _ hq
  obtain ⟨xs', zs, hp, hz, c4⟩ := c3 _ hci
  simp only [List.cons.injEq, DV.mk.injEq, heq_eq_eq, true_and, and_true] at hp
  subst hp
  subst hz
  have h4 := castL_same h4
  obtain ⟨_, g1, g2⟩ := h1
  simp only [List.cons.injEq, and_true] at g2
  obtain ⟨v, hv, hrv⟩ : ∃ v, cl.args.toList.map a.eval = [v] ∧ RepV E F w (.one (.own n)) v := by
    cases hl : cl.args.toList.map a.eval with
    | nil => rw [hl] at h3; exact h3.elim
    | cons v r =>
      rw [hl] at h3
      cases r with
      | nil => exact ⟨v, rfl, h3.1⟩
      | cons _ _ => exact h3.2.elim
  obtain ⟨_, hal, hwin⟩ := hrv
  have hrp := hm.rp n
  rw [hobj] at hrp
  obtain ⟨q1, q2, q3, q4, q5, q6⟩ := hrp
  have hO : RepArrO F w (E.e n) u ys0 := ⟨q1, q2, q3, q4, q5, fun hn => by
    obtain ⟨cs, ty, fr, ds, r1, r2, r3, r4, r5, r6⟩ := q6 hn
    exact ⟨cs, ty, fr, ds, r1, r2, r3, r4, (r5 rfl).2⟩⟩
  have hcall := c4 F w (E.e n) v hO hwin
  unfold Oper.wp
  have hrun : (execOp a.eval o).run P w = .ok (.enter c.fn #[v]) w := by
    simp only [execOp, ho, resolve, hc, g2, Deferred.ofValue, Sem.run_bind, Sem.run_pure, Result.andThen_ok, invoke]
    rw [c1]
    congr 2
    apply Array.ext'
    simpa using hv
  rw [hrun, Oper.upon_enter]
  refine hcall.mono fun e w' hres => ?_
  obtain ⟨rfl, hres⟩ := hres
  have hap : (apply [(.ob n, .o (.arr u zs false))] s) = { s with ob := putO s.ob n (.arr u zs false) } := rfl
  rcases hres with ⟨hn, rfl, hz⟩ | ⟨hn, hO', hsz, hold, hos, htp, hou⟩
  · have hx0 : ys0 = [] := List.length_eq_zero_iff.1 (by have := q5 hn; omega)
    refine hK _ _ (rel_fin (E' := E) (F' := F) h4 ?_ ?_ ⟨#[], rfl, trivial⟩)
    · rw [hap]
      refine (hm.same fun k => ?_).mono fun _ h => .inl h
      simp only
      rw [lookO_putO]
      split
      · rename_i e; subst e; rw [hobj, hz, hx0]
      · rfl
    · rw [hap]; exact ht
  · have hk : excl (E.e n) (lookO s.ob n) := by rw [hobj]; exact hn
    obtain ⟨m, hx⟩ := hm.write2 (o := .arr u zs false) hk hos htp hou hsz hold trivial (fun _ => hk) (fun hx => by
      obtain ⟨p1, p2, p3, p4, p5, p6⟩ := hO'
      refine ⟨p1, p2, p3, p4, p5, fun hn => ?_⟩
      obtain ⟨cs, ty, fr, ds, r1, r2, r3, r4, r5⟩ := p6 hn
      exact ⟨cs, ty, fr, ds, r1, r2, r3, r4, fun _ => ⟨excl_notF hm hk, r5⟩, fun h => by simp at h⟩)
    refine hK _ _ (rel_fin (E' := E) (F' := F) h4 ?_ ?_ ⟨#[], rfl, trivial⟩)
    · rw [hap]; exact m.mono fun _ h => .inl h
    · rw [hap]; exact ht.ext hx
theorem op_call (hok : ∀ rg ix c, look2 hi.cs rg ix = some c → ∀ p q, ok c.id p q → CallOK P c p q) {cl : Call} {fo : Operand} (ho : o.op = .call cl) (hc : cl.callee = .value fo) : OpP P ok cx hi o := by
  intro C hC rg ix key A s a w wr K Q h hr hA hK
  simp only [opSem, ho, hc] at h
  obtain ⟨E, F, hm, ht⟩ := hr
  split at h
  rotate_left
  · exact h.fail.elim
  rename_i c hcs
  split at h
  · rename_i t hwt
    exact op_wr hok ho hc hcs hwt hm ht h hK
  obtain ⟨X, h1, h2⟩ := ev_ok h ht
  obtain ⟨xs, h3, h4⟩ := evs_ok h2 ht
  unfold callS at h4
  split at h4
  rotate_left
  · exact h4.fail.elim
  rename_i g cp
  obtain ⟨_, g1, g2⟩ := h1
  simp only [List.cons.injEq, and_true] at g2
  split at h4
  · exact h4.fail.elim
  rename_i hg
  have hg := Nat.eq_of_beq_eq_true hg
  subst hg
  obtain ⟨pre, hpre, h4⟩ := ghosts_ok h4
  obtain ⟨p, es, bs, tk, bw, k1, k2⟩ := mtSgP_ok (hpre.trans (nones_len _)) h4 hm (h3.append (capV_ok g1))
  obtain ⟨out, hq, k1⟩ := k1.call
  obtain ⟨c1, c2, _⟩ := hok _ _ _ hcs _ _ hq
  dsimp only at k1
  split at k1
  · exact k1.fail.elim
  rename_i ys b1 hb1
  split at k1
  · exact k1.fail.elim
  rename_i bx b2 hb2
  split at k1
  rotate_left
  · exact k1.fail.elim
  split at k1
  · exact k1.fail.elim
  rename_i hnx
  simp only [Bool.and_eq_true, Nat.ble_eq, Nat.beq_eq] at hnx
  split at k1
  · exact k1.fail.elim
  rename_i x hx
  have hal : ∀ {xs : List V} {ys : List Value}, All2 (RepV E F w) xs ys → xs.length = ys.length := by
    intro xs
    induction xs with
    | nil => intro ys h; cases ys with
      | nil => rfl
      | cons _ _ => exact h.elim
    | cons x xs ih => intro ys h; cases ys with
      | nil => exact h.elim
      | cons y ys => simp [ih h.2]
  have hcall := c2 _ _ w es _ (plus_lt hm) (by rw [List.length_append, ← hal h3, List.length_map]; exact hnx.2) k2.sig ((hm.laid hC).mono (fun _ h => .inl h) fun _ _ => rfl)
  -- what is frozen
  obtain ⟨fz, z0, z1, z2, z3⟩ : ∃ fz : List (Nat × Obj), Ev ok (fin hi o.dst (obs fz ++ (obs (boxes bx) ++ (obs b2.ob ++ deads tk))) x) s wr ∧ (∀ n o, (n, o) ∈ fz → n ∈ bw ∧ ∃ t ys ro, lookO s.ob n = .arr t ys ro ∧ o = .arr t ys true) ∧
      (c.hasSl = true → ∀ n ∈ bw, ∃ o, (n, o) ∈ fz) ∧ (c.hasSl = false → fz = []) := by
    cases hsl : c.hasSl with
    | false =>
      rw [hsl] at k1
      exact ⟨[], k1, by simp, by simp, fun _ => rfl⟩
    | true =>
      rw [hsl] at k1
      obtain ⟨fz, f1, f2, f3⟩ := freeze_ok k1
      exact ⟨fz, f1, f3, fun _ => f2, by simp⟩
  unfold Oper.wp
  have hrun : (execOp a.eval o).run P w = .ok (.enter c.fn (cl.args.toList.map a.eval ++ cp.map fun c => Value.pointer (some ⟨(E.e c.k).blk, (E.e c.k).loff c.l, none⟩)).toArray) w := by
    simp only [execOp, ho, resolve, hc, g2, Deferred.ofValue, Sem.run_bind, Sem.run_pure, Result.andThen_ok, invoke]
    rw [c1]
    congr 2
    apply Array.ext'
    simp
  rw [hrun, Oper.upon_enter]
  refine hcall.mono fun e w' hres => ?_
  obtain ⟨v, F', fs, rfl, hs⟩ := hres
  obtain ⟨E'', F'', m1, m2, m3, rs, m4, m5⟩ := call_rel k2 hm hA hs hb1 hb2 hnx.1.1 hnx.1.2 z1 z2 z3
  refine hK _ _ (rel_fin z0 m1 ?_ ?_)
  · rw [m2]; exact ht.ext m3
  · cases hone : c.one with
    | true =>
      rw [hone] at hx m5
      simp only [if_true] at hx
      simp only at m5
      subst m5
      split at hx
      · simp only [Option.some.injEq] at hx; subst hx
        exact m4.1
      · simp at hx
    | false =>
      rw [hone] at hx m5
      simp only [Bool.false_eq_true, if_false, Option.some.injEq] at hx
      simp only at m5
      subst hx m5
      refine ⟨_, rfl, ?_⟩
      simpa using blAs_w hb1 m4
end
end Go.Proofs.Zs
/- All operations; guards. -/
set_option linter.unusedVariables false
set_option linter.unusedSimpArgs false
namespace Go.Proofs.Zs
open Go

section
variable {P : Program} {ok : Nat → List DV → List DV → Prop} {cx : Cx} {hi : Hi}
theorem op_all (hti : TIok P cx) (hok : ∀ rg ix c, look2 hi.cs rg ix = some c → ∀ p q, ok c.id p q → CallOK P c p q) (o : Oper) : OpP P ok cx hi o := by
  cases ho : o.op with
  | move x => exact op_move ho
  | assign x => exact op_assign ho
  | pick c a b => exact op_pick ho
  | alloc t => exact op_alloc hti ho
  | box t x => exact op_box hti ho
  | build t ps => exact op_build hti ho
  | buildSlice t n ps => exact op_buildSlice hti ho
  | load t x => exact op_load hti ho
  | store t x y => exact op_store hti ho
  | nilCheck x => exact op_nilCheck ho
  | binOp op t x y u => exact op_binOp hti ho
  | unOp op t x => exact op_unOp ho
  | convert s d x => exact op_convert hti ho
  | makeFunc fn fs cs => cases fn with
    | func f => exact op_makeFunc ho
    | _ =>
      intro C hC rg ix key A s a w wr K Q h
      simp only [opSem, ho] at h
      exact h.fail.elim
  | makeSlice t n c => exact op_makeSlice hti ho
  | slice t x lo hi mx => exact op_slice hti ho
  | fieldAddr t x f => exact op_fieldAddr hti ho
  | field t x f => exact op_field hti ho
  | indexAddr t x y => exact op_indexAddr hti ho
  | index t x y => exact op_index hti ho
  | extract x i => exact op_extract ho
  | range t x => exact op_range hti ho
  | next x b => cases b with
    | true => exact op_next ho
    | false =>
      intro C hC rg ix key A s a w wr K Q h
      simp only [opSem, ho] at h
      exact h.fail.elim
  | makeMap t r => cases r with
    | none => exact op_makeMap hti ho
    | some r =>
      intro C hC rg ix key A s a w wr K Q h
      simp only [opSem, ho] at h
      exact h.fail.elim
  | lookup t x i k => exact op_lookup hti ho
  | mapUpdate t x i v => exact op_mapUpdate hti ho
  | makeInterface t x => exact op_makeInterface hti ho
  | typeAssert x u t k => cases k with
    | true => exact op_typeAssert hti ho
    | false =>
      intro C hC rg ix key A s a w wr K Q h
      simp only [opSem, ho] at h
      exact h.fail.elim
  | call c => cases hc : c.callee with
    | builtin b => cases b with
      | len => exact op_len hti ho hc
      | append => exact op_append hti ho hc
      | copy => exact op_copy hti ho hc
      | clear => exact op_clear hti ho hc
      | min => exact op_min ho hc
      | max => exact op_max ho hc
      | _ =>
        intro C hC rg ix key A s a w wr K Q h
        simp only [opSem, ho, hc] at h
        exact h.fail.elim
    | value f => exact op_call hok ho hc
    | invoke r n =>
      intro C hC rg ix key A s a w wr K Q h
      simp only [opSem, ho, hc] at h
      exact h.fail.elim
  | _ =>
    intro C hC rg ix key A s a w wr K Q h
    simp only [opSem, ho] at h
    exact h.fail.elim

theorem opG_ok (hti : TIok P cx) (hok : ∀ rg ix c, look2 hi.cs rg ix = some c → ∀ p q, ok c.id p q → CallOK P c p q) (C : Frm) (hF : FrmOk P C) (Q : Exit → Act → World → Prop) (rg : Nat) (ops : Array Oper) (base : Nat) :
    OpOk P ok Q C ops (semOf cx hi rg ops.toList base) base := by
  intro ix s wr rd A a w K hix hrd hr hk hK
  have hev : Ev ok (semOf cx hi rg ops.toList base ix) s wr := ⟨rd, hrd⟩
  unfold semOf at hev
  have hget : ops[ix]? = some ops[ix] := Array.getElem?_eq_getElem hix
  have hget' : ops.toList[ix]? = some ops[ix] := by rw [Array.getElem?_toList]; exact hget
  rw [hget'] at hev
  simp only at hev
  unfold wpOp
  rw [hget]
  simp only
  have hop := op_all (ok := ok) hti hok ops[ix]
  have go : Ev ok (opSem cx hi rg ix (base + stride * ix) ops[ix]) s wr → ops[ix].wp P a w K Q := fun h => hop C hF rg ix _ A s a w wr K Q h hr (fun k h1 h2 => hk k ⟨h1, h2⟩) hK
  have skip : wr = (match (motive := Option Nat → Wr) ops[ix].dst with | none => [] | some d => [(.tmp d, .v (.tup []))]) → K (a.put ops[ix].dst undef) w := by
    intro hwr
    obtain ⟨E, F, hm, ht⟩ := hr
    apply hK
    cases hd : ops[ix].dst with
    | none =>
      rw [hd] at hwr
      subst hwr
      exact ⟨E, F, hm.mono fun _ h => .inl h, ht.put_none undef⟩
    | some d =>
      rw [hd] at hwr
      subst hwr
      exact ⟨E, F, hm.mono fun _ h => .inl h, ht.put d (x := .tup []) ⟨#[], rfl, trivial⟩⟩
  have off : Ev ok (match (motive := Option Nat → Rd Wr) ops[ix].dst with | none => .ret [] | some d => .ret [(.tmp d, .v (.tup []))]) s wr → wr = (match (motive := Option Nat → Wr) ops[ix].dst with | none => [] | some d => [(.tmp d, .v (.tup []))]) := by
    intro h
    cases hd : ops[ix].dst with
    | none => rw [hd] at h; exact h.ret
    | some d => rw [hd] at h; exact h.ret
  unfold opG at hev
  dsimp only at hev
  split at hev
  · rename_i hg
    rw [if_pos (by simp [Region.wanted, hg])]
    exact .inl (go hev)
  · rename_i j want hg
    split at hev
    · rename_i d hd
      have h := hev.get
      simp only [look] at h
      split at h
      · rename_i b hb
        simp only [Cn.v.injEq] at hb
        have hy : yielded ops a.tmps j = some b := by
          obtain ⟨E, F, hm, ht⟩ := hr
          have := ht.at_ d
          rw [hb] at this
          have := of_boo this
          have hdst : (ops[j]?).bind (·.dst) = some d := by
            simp only [dstOf, nthD_eq] at hd
            rw [List.getD_eq_getElem?_getD, List.getElem?_map, Array.getElem?_toList] at hd
            cases hj : ops[j]? with
            | none => rw [hj] at hd; simp at hd
            | some x => rw [hj] at hd; simpa using hd
          unfold yielded
          rw [hdst]
          have ht' : a.tmps[d]? = some (.bool b) := by
            rw [Array.getD_eq_getD_getElem?] at this
            cases hx : a.tmps[d]? with
            | none => rw [hx] at this; simp [undef] at this
            | some v => rw [hx] at this; simpa using this
          simp [ht']
        split at h
        · rcases h.ite with ⟨hbb, h9⟩ | ⟨hbb, h9⟩ <;> subst hbb
          · rw [if_pos (by simp [Region.wanted, hg, hy])]
            exact .inl (go h9)
          · rw [if_neg (by simp [Region.wanted, hg, hy])]
            exact skip (off h9)
        · rcases h.ite with ⟨hbb, h9⟩ | ⟨hbb, h9⟩ <;> subst hbb
          · rw [if_neg (by simp [Region.wanted, hg, hy])]
            exact skip (off h9)
          · rw [if_pos (by simp [Region.wanted, hg, hy])]
            exact .inl (go h9)
      · rename_i hb
        simp only [Cn.v.injEq] at hb
        have hy : yielded ops a.tmps j = none := by
          obtain ⟨E, F, hm, ht⟩ := hr
          have := ht.at_ d
          rw [hb] at this
          obtain ⟨xs, hx, _⟩ := this
          have hdst : (ops[j]?).bind (·.dst) = some d := by
            simp only [dstOf, nthD_eq] at hd
            rw [List.getD_eq_getElem?_getD, List.getElem?_map, Array.getElem?_toList] at hd
            cases hj : ops[j]? with
            | none => rw [hj] at hd; simp at hd
            | some x => rw [hj] at hd; simpa using hd
          unfold yielded
          rw [hdst]
          rw [Array.getD_eq_getD_getElem?] at hx
          cases hq : a.tmps[d]? with
          | none => simp [hq]
          | some v => rw [hq] at hx; simp at hx; subst hx; simp [hq]
        rw [if_neg (by simp [Region.wanted, hg, hy])]
        exact skip (off h)
      · exact h.fail.elim
    · exact hev.fail.elim
end
end Go.Proofs.Zs
/- The run of a function's code is the machine's. -/
set_option linter.unusedVariables false
set_option linter.unusedSimpArgs false
namespace Go.Proofs.Zs
open Go

/-- A loop whose rounds are counted. -/
theorem wp_loop_fuel {P : Program} {Q : Exit → Act → World → Prop} {c : Code} (J : Nat → Act → World → Prop) {n : Nat} {a : Act} {w : World} (h0 : J n a w)
    (round : ∀ n a w, J n a w → c.wp P (Exit.then (fun a' w' => ∃ m, m < n ∧ J m a' w') Q) a w) : (Code.loop c).wp P Q a w := by
  intro b k cs
  have key : ∀ n a w, J n a w → ∃ e a' w', Q e a' w' ∧ Arrives P (lone (b.at a (.code c :: .inLoop c :: k)) cs w) b k cs e a' w' := by
    intro n
    induction n using Nat.strongRecOn with
    | _ n ih =>
      intro a w hJ
      obtain ⟨e, a1, w1, hq, harr⟩ := round n a w hJ b (.inLoop c :: k) cs
      cases e with
      | normal =>
        obtain ⟨m, hlt, hJ1⟩ := hq
        obtain ⟨e2, a2, w2, hq2, harr2⟩ := ih m hlt a1 w1 hJ1
        exact ⟨e2, a2, w2, hq2, .of_steps (Go.Steps.trans harr (.one step_inLoop)) harr2⟩
      | exit id => exact ⟨_, a1, w1, hq, .pass (x := .inLoop c) rfl (fun _ _ => .inl (by simp)) harr⟩
      | goto l => exact ⟨_, a1, w1, hq, .pass (x := .inLoop c) rfl (fun _ _ => .inl (by simp)) harr⟩
      | ret => exact ⟨_, a1, w1, hq, .pass (x := .inLoop c) rfl (fun _ _ => .inl (by simp)) harr⟩
      | panic ch => exact ⟨_, a1, w1, hq, .pass (x := .inLoop c) rfl (fun _ _ => .inl (by simp)) harr⟩
      | outgrown => exact ⟨_, a1, w1, hq, .pass (x := .inLoop c) rfl (fun _ _ => .inl (by simp)) harr⟩
  obtain ⟨e, a', w', hq, harr⟩ := key _ a w h0
  exact ⟨e, a', w', hq, .of_steps (.one step_loop) harr⟩

section
variable {ok : Nat → List DV → List DV → Prop} {C : Frm} {A : Nat → Prop} {E : Env} {F : Nat → Prop} {s : St} {w : World} {α : Type} {r : α}
theorem upto_len : ∀ n, (upto n).length = n
  | 0 => rfl
  | n + 1 => by simp [upto, upto_len n]
theorem upto_get : ∀ n k, k < n → (upto n)[k]? = some k
  | 0, k, h => by omega
  | n + 1, k, h => by
    by_cases e : k = n
    · subst e
      rw [upto, List.getElem?_append_right (by rw [upto_len]; exact Nat.le_refl _), upto_len]; simp
    · rw [upto, List.getElem?_append_left (by rw [upto_len]; omega)]
      exact upto_get n k (by omega)
theorem kept_ok {nb : Nat} {bs : List Nat} {pay x : List DV} (h : Ev ok (kept nb bs pay) s x) : x = pay ∧ nb ≤ bs.length ∧ ∀ j, j < nb → nthD 0 bs j = j := by
  unfold kept at h
  split at h
  · rename_i he
    have he := natsEq_spec he
    rw [takeN_eq] at he
    have hlen := congrArg List.length he
    rw [upto_len, List.length_take] at hlen
    refine ⟨h.ret, by omega, fun j hj => ?_⟩
    have := upto_get nb j hj
    rw [← he, List.getElem?_take, if_pos hj] at this
    rw [nthD_eq, List.getD_eq_getElem?_getD, this]; rfl
  · exact h.fail.elim
/-- What fits a signature goes on in the same frame. -/
theorem Fit.enter {sg : Sg} {vs : List Value} {p : List DV} {es : List EI} {bs tk bw : List Nat} (hf : Fit C A E F s w sg vs p es bs tk bw) (hm : Mem C A E F s.ob w) (hn : C.nb ≤ bs.length) (hk : ∀ j, j < C.nb → nthD 0 bs j = j) :
    Enter C (plus s.ob E F bw) w sg.bx.length (fun j => E.e (nthD 0 bs j)) es := by
  refine ⟨plus_lt hm, fun b hb => .inl (hm.f0 b hb), hm.kp, plus_uf hm, fun b hb => ?_, hm.sz, hm.os, hm.tape, hm.output, by rw [← hf.len]; exact hn, fun k hk' => ?_⟩
  · rcases hb with ⟨j, hj, rfl⟩ | ⟨e, he, hn, rfl⟩
    · have hj' : j < bs.length := by rw [hf.len]; exact hj
      have : nthD 0 bs j = bs[j] := by rw [nthD_eq, List.getD_eq_getElem?_getD, List.getElem?_eq_getElem hj']; rfl
      obtain ⟨ls, h⟩ := hf.box _ (List.getElem_mem hj')
      show C.O (E.e (nthD 0 bs j)).blk ∨ C.w0.heap.size ≤ (E.e (nthD 0 bs j)).blk
      rw [this]
      exact hm.uo _ (by rw [h]; trivial)
    · obtain ⟨ea, ho, rfl⟩ := hf.own
      obtain ⟨n, h1, h2, h3⟩ := ho.key e (List.mem_reverse.1 he) hn
      rw [h2]; exact hm.uo n h3
  · simp only [hk k hk']; exact (hm.eo k hk').2
theorem boxKeys_ok (hm : Mem C A E F s.ob w) : ∀ n, n ≤ C.nb → All2 (RepV E F w) (boxKeys n) ((upto n).map fun k => Value.pointer (some ⟨(E.e k).blk, (E.e k).loff 0, none⟩))
  | 0, _ => trivial
  | n + 1, h => by
    simp only [boxKeys, upto, List.map_append]
    refine (boxKeys_ok hm n (by omega)).append ⟨⟨trivial, (hm.eo n (by omega)).1, rfl, ?_⟩, trivial⟩
    intro d hd
    simp at hd
    subst hd
    simp
theorem RepAs.split {β : Nat → EI} {G : Nat → Prop} : ∀ {aks bs : List AK} {p : List DV} {es : List EI} {vs : List Value}, RepAs β G w (aks ++ bs) p es vs →
    ∃ p1 p2 e1 e2 v1 v2, p = p1 ++ p2 ∧ es = e1 ++ e2 ∧ vs = v1 ++ v2 ∧ v1.length = aks.length ∧ RepAs β G w aks p1 e1 v1 ∧ RepAs β G w bs p2 e2 v2
  | [], bs, p, es, vs, h => ⟨[], p, [], es, [], vs, rfl, rfl, rfl, rfl, .nil [], h⟩
  | a :: aks, bs, p, es, vs, h => by
    obtain ⟨p1, p2, e1, e2, v, q, rfl, rfl, rfl, h1, h2⟩ := h.inv
    obtain ⟨p3, p4, e3, e4, v3, v4, rfl, rfl, rfl, h3, h4, h5⟩ := RepAs.split h2
    exact ⟨p1 ++ p3, p4, e1 ++ e3, e4, v :: v3, v4, by simp, by simp, rfl, by simp [h3], .cons h1 h4, h5⟩
theorem boxAs_none {β : Nat → EI} {G : Nat → Prop} : ∀ {n : Nat} {p : List DV} {es : List EI} {vs : List Value}, RepAs β G w (boxAs n) p es vs → p = [] ∧ es = []
  | 0, p, es, vs, h => h.inv
  | n + 1, p, es, vs, h => by
    obtain ⟨p1, p2, e1, e2, v1, v2, rfl, rfl, rfl, _, h4, h5⟩ := RepAs.split (aks := boxAs n) h
    obtain ⟨rfl, rfl⟩ := boxAs_none h4
    obtain ⟨p3, p4, e3, e4, v, q, rfl, rfl, rfl, h6, h7⟩ := h5.inv
    obtain ⟨rfl, rfl⟩ := h7.inv
    cases h6 with
    | one _ _ hk => cases hk; exact ⟨rfl, rfl⟩
theorem boxAs_len : ∀ n, (boxAs n).length = n
  | 0 => rfl
  | n + 1 => by simp [boxAs, boxAs_len n]
theorem SigIn.strip {sg : Sg} {nb : Nat} {β : Nat → EI} {G : Nat → Prop} {p : List DV} {es : List EI} {v1 v2 : List Value} (h : SigIn (sg.at_ nb) β G w p es (v1 ++ v2)) (hl : v1.length = nb) : SigIn sg β G w p es v2 := by
  obtain ⟨p1, p2, e1, e2, rfl, rfl, hA, hB⟩ := h.ex
  obtain ⟨p3, p4, e3, e4, v3, v4, rfl, rfl, hv, h3, h4, h5⟩ := RepAs.split (aks := boxAs nb) hA
  obtain ⟨rfl, rfl⟩ := boxAs_none h4
  rw [boxAs_len] at h3
  obtain ⟨rfl, rfl⟩ := List.append_inj hv (by rw [hl, h3])
  exact ⟨⟨p4, p2, e4, e2, by simp, by simp, h5, hB⟩, h.bd, h.ed, h.be, h.ef⟩
theorem rep_list {E : Env} {F : Nat → Prop} {tm : List V} {a : Act} (ht : Tms E F tm a w) : All2 (RepV E F w) tm a.tmps.toList := by
  have key : ∀ (xs : List V) (ys : List Value), xs.length = ys.length → (∀ t, t < xs.length → RepV E F w (nthD bad xs t) (ys.getD t undef)) → All2 (RepV E F w) xs ys := by
    intro xs
    induction xs with
    | nil => intro ys h _; cases ys with
      | nil => trivial
      | cons _ _ => simp at h
    | cons x xs ih => intro ys h hh; cases ys with
      | nil => simp at h
      | cons y ys =>
        refine ⟨by simpa [nthD] using hh 0 (by simp), ih ys (by simpa using h) fun t ht => ?_⟩
        have := hh (t + 1) (by simpa using ht)
        simpa [nthD] using this
  refine key _ _ (by rw [ht.tl]; simp) fun t _ => ?_
  have := ht.at_ t
  rw [Array.getD_eq_getD_getElem?] at this
  rw [List.getD_eq_getElem?_getD, Array.getElem?_toList]
  exact this
/-- What leaves at a head or an exit. -/
theorem leave_ok {ct : CT} (hct : CTok ok ct) {nt : Nat} {sg : Sg} {a : Act} {k : List DV → Option Rs} {q : Rs} (h : leave nt C.nb ct sg s k = some q) (hr : Rel C A s a w) :
    ∃ p β G es, k p = some q ∧ SigIn sg β G w p es a.tmps.toList ∧ Enter C G w sg.bx.length β es ∧ a.tmps.size = nt ∧ a.defers = [] := by
  unfold leave at h
  split at h
  · rename_i hl
    have hl := Nat.eq_of_beq_eq_true hl
    obtain ⟨x, rd, h1, h2⟩ := rdRun_ev hct h
    obtain ⟨E, F, hm, ht⟩ := hr
    obtain ⟨p, es, bs, tk, bw, k1, k2⟩ := mtSg_ok ⟨rd, h1⟩ hm ((boxKeys_ok hm C.nb (Nat.le_refl _)).append (rep_list ht))
    obtain ⟨rfl, k3, k4⟩ := kept_ok k1
    have e := k2.enter hm k3 k4
    exact ⟨x, _, _, es, h2, k2.sig.strip (by simp [upto_len]), e, by rw [← ht.tl]; exact hl, ht.df⟩
  · simp at h
end
end Go.Proofs.Zs
