/- All operations; guards. -/
import Derived.Test.YtpplgkggclddiaaEnhC
set_option linter.unusedVariables false
set_option linter.unusedSimpArgs false
namespace Go.Proofs.Zz
open Go

section
variable {P : Program} {ok : Nat → List DV → List DV → Prop} {cx : Cx} {hi : Hi}
theorem op_all (hti : TIok P cx) (hok : ∀ rg ix c, look2 hi.cs rg ix = some c → ∀ p q, ok c.id p q → CallOK P c p q) (o : Oper) : OpP P ok cx hi o := by
  cases ho : o.op with
  | move x => exact op_move ho
  | assign x => exact op_assign ho
  | pick c a b => exact op_pick ho
  | alloc t => exact op_alloc hti ho
  | box t x => exact op_box hti ho
  | build t ps => exact op_build hti ho
  | buildSlice t n ps => exact op_buildSlice hti ho
  | load t x => exact op_load hti ho
  | store t x y => exact op_store hti ho
  | nilCheck x => exact op_nilCheck ho
  | binOp op t x y u => exact op_binOp hti ho
  | unOp op t x => exact op_unOp ho
  | convert s d x => exact op_convert hti ho
  | makeFunc fn fs cs => cases fn with
    | func f => exact op_makeFunc ho
    | _ =>
      intro C rg ix key A s a w wr K Q h
      simp only [opSem, ho] at h
      exact h.fail.elim
  | makeSlice t n c => exact op_makeSlice hti ho
  | slice t x lo hi mx => exact op_slice hti ho
  | fieldAddr t x f => exact op_fieldAddr hti ho
  | field t x f => exact op_field hti ho
  | indexAddr t x y => exact op_indexAddr hti ho
  | index t x y => exact op_index hti ho
  | extract x i => exact op_extract ho
  | call c => cases hc : c.callee with
    | builtin b => cases b with
      | len => exact op_len hti ho hc
      | append => exact op_append hti ho hc
      | min => exact op_min ho hc
      | max => exact op_max ho hc
      | _ =>
        intro C rg ix key A s a w wr K Q h
        simp only [opSem, ho, hc] at h
        exact h.fail.elim
    | value f => exact op_call hok ho hc
    | invoke r n =>
      intro C rg ix key A s a w wr K Q h
      simp only [opSem, ho, hc] at h
      exact h.fail.elim
  | _ =>
    intro C rg ix key A s a w wr K Q h
    simp only [opSem, ho] at h
    exact h.fail.elim

theorem opG_ok (hti : TIok P cx) (hok : ∀ rg ix c, look2 hi.cs rg ix = some c → ∀ p q, ok c.id p q → CallOK P c p q) (C : Frm) (Q : Exit → Act → World → Prop) (rg : Nat) (ops : Array Oper) (base : Nat) :
    OpOk P ok Q C ops (semOf cx hi rg ops.toList base) base := by
  intro ix s wr rd A a w K hix hrd hr hk hK
  have hev : Ev ok (semOf cx hi rg ops.toList base ix) s wr := ⟨rd, hrd⟩
  unfold semOf at hev
  have hget : ops[ix]? = some ops[ix] := Array.getElem?_eq_getElem hix
  have hget' : ops.toList[ix]? = some ops[ix] := by rw [Array.getElem?_toList]; exact hget
  rw [hget'] at hev
  simp only at hev
  unfold wpOp
  rw [hget]
  simp only
  have hop := op_all (ok := ok) hti hok ops[ix]
  have go : Ev ok (opSem cx hi rg ix (base + stride * ix) ops[ix]) s wr → ops[ix].wp P a w K Q := fun h => hop C rg ix _ A s a w wr K Q h hr (fun k h1 h2 => hk k ⟨h1, h2⟩) hK
  have skip : wr = (match (motive := Option Nat → Wr) ops[ix].dst with | none => [] | some d => [(.tmp d, .v (.tup []))]) → K (a.put ops[ix].dst undef) w := by
    intro hwr
    obtain ⟨E, F, hm, ht⟩ := hr
    apply hK
    cases hd : ops[ix].dst with
    | none =>
      rw [hd] at hwr
      subst hwr
      exact ⟨E, F, hm.mono fun _ h => .inl h, ht.put_none undef⟩
    | some d =>
      rw [hd] at hwr
      subst hwr
      exact ⟨E, F, hm.mono fun _ h => .inl h, ht.put d (x := .tup []) ⟨#[], rfl, trivial⟩⟩
  have off : Ev ok (match (motive := Option Nat → Rd Wr) ops[ix].dst with | none => .ret [] | some d => .ret [(.tmp d, .v (.tup []))]) s wr → wr = (match (motive := Option Nat → Wr) ops[ix].dst with | none => [] | some d => [(.tmp d, .v (.tup []))]) := by
    intro h
    cases hd : ops[ix].dst with
    | none => rw [hd] at h; exact h.ret
    | some d => rw [hd] at h; exact h.ret
  unfold opG at hev
  dsimp only at hev
  split at hev
  · rename_i hg
    rw [if_pos (by simp [Region.wanted, hg])]
    exact .inl (go hev)
  · rename_i j want hg
    split at hev
    · rename_i d hd
      have h := hev.get
      simp only [look] at h
      split at h
      · rename_i b hb
        simp only [Cn.v.injEq] at hb
        have hy : yielded ops a.tmps j = some b := by
          obtain ⟨E, F, hm, ht⟩ := hr
          have := ht.at_ d
          rw [hb] at this
          have := of_boo this
          have hdst : (ops[j]?).bind (·.dst) = some d := by
            simp only [dstOf, nthD_eq] at hd
            rw [List.getD_eq_getElem?_getD, List.getElem?_map, Array.getElem?_toList] at hd
            cases hj : ops[j]? with
            | none => rw [hj] at hd; simp at hd
            | some x => rw [hj] at hd; simpa using hd
          unfold yielded
          rw [hdst]
          have ht' : a.tmps[d]? = some (.bool b) := by
            rw [Array.getD_eq_getD_getElem?] at this
            cases hx : a.tmps[d]? with
            | none => rw [hx] at this; simp [undef] at this
            | some v => rw [hx] at this; simpa using this
          simp [ht']
        split at h
        · rcases h.ite with ⟨hbb, h9⟩ | ⟨hbb, h9⟩ <;> subst hbb
          · rw [if_pos (by simp [Region.wanted, hg, hy])]
            exact .inl (go h9)
          · rw [if_neg (by simp [Region.wanted, hg, hy])]
            exact skip (off h9)
        · rcases h.ite with ⟨hbb, h9⟩ | ⟨hbb, h9⟩ <;> subst hbb
          · rw [if_neg (by simp [Region.wanted, hg, hy])]
            exact skip (off h9)
          · rw [if_pos (by simp [Region.wanted, hg, hy])]
            exact .inl (go h9)
      · rename_i hb
        simp only [Cn.v.injEq] at hb
        have hy : yielded ops a.tmps j = none := by
          obtain ⟨E, F, hm, ht⟩ := hr
          have := ht.at_ d
          rw [hb] at this
          obtain ⟨xs, hx, _⟩ := this
          have hdst : (ops[j]?).bind (·.dst) = some d := by
            simp only [dstOf, nthD_eq] at hd
            rw [List.getD_eq_getElem?_getD, List.getElem?_map, Array.getElem?_toList] at hd
            cases hj : ops[j]? with
            | none => rw [hj] at hd; simp at hd
            | some x => rw [hj] at hd; simpa using hd
          unfold yielded
          rw [hdst]
          rw [Array.getD_eq_getD_getElem?] at hx
          cases hq : a.tmps[d]? with
          | none => simp [hq]
          | some v => rw [hq] at hx; simp at hx; subst hx; simp [hq]
        rw [if_neg (by simp [Region.wanted, hg, hy])]
        exact skip (off h)
      · exact h.fail.elim
    · exact hev.fail.elim
end
end Go.Proofs.Zz
