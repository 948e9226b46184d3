/- Operations that leave memory as it was, one by one. -/
import Derived.Test.YtpplgkggclddiaaEngI
import Derived.WalkSpells
import Derived.Laws.Pointers
import Derived.Lib.SliceRun
set_option linter.unusedVariables false
set_option linter.unusedSimpArgs false
namespace Go.Proofs.Zz
open Go

section
variable {P : Program} {ok : Nat → List DV → List DV → Prop} {α : Type} {s : St} {r : α} {t : TypeId} {E : Env} {F : Nat → Prop} {w : World}
theorem of_agg {ls : List L} {v : Value} (h : RepV E F w (.agg ls) v) : ∃ cs, v = .agg cs ∧ RepLs E F w ls cs.toList := h
theorem of_one {l : L} {v : Value} (hl : ∀ n, l ≠ .any n) (h : RepV E F w (.one l) v) : cellOk v ∧ RepL E F w l [v] := by
  cases l <;> first | exact h | exact absurd rfl (hl _)
theorem one_of {l : L} {v : Value} (h : cellOk v) (h' : RepL E F w l [v]) : RepV E F w (.one l) v := by
  cases l <;> first | exact ⟨h, h'⟩ | trivial
theorem TOk.slice {i : TI} (h : TOk P t i) (hd : i.td = .slice) : ∃ e, P.underlying t = some (.slice e) ∧ ElOk P e i.ety i.eby := by
  obtain ⟨d, h1, h2, h3⟩ := h.und
  cases d <;> simp [tdOk, hd] at h3
  exact ⟨_, h1, elOk_spec h3⟩
theorem TOk.bool {i : TI} (h : TOk P t i) (hd : i.td = .bool) : P.underlying t = some .bool := by
  obtain ⟨d, h1, h2, h3⟩ := h.und
  cases d <;> simp [tdOk, hd] at h3
  exact h1
theorem TOk.str {i : TI} (h : TOk P t i) (hd : i.td = .str) : P.underlying t = some .string := by
  obtain ⟨d, h1, h2, h3⟩ := h.und
  cases d <;> simp [tdOk, hd] at h3
  exact h1
theorem TOk.int {i : TI} {k : IntKind} (h : TOk P t i) (hd : i.td = .int k) : P.underlying t = some (.int k) := by
  obtain ⟨d, h1, h2, h3⟩ := h.und
  cases d <;> simp [tdOk, hd] at h3
  subst h3
  exact h1
theorem TOk.ptr {i : TI} (h : TOk P t i) (hd : i.td = .ptr) : ∃ e, P.underlying t = some (.pointer e) := by
  obtain ⟨d, h1, h2, h3⟩ := h.und
  cases d <;> simp [tdOk, hd] at h3
  exact ⟨_, h1⟩
theorem TOk.array {i : TI} (h : TOk P t i) (hd : i.td = .array) : ∃ e, P.underlying t = some (.array i.n e) ∧ ElOk P e i.ety i.eby ∧ scalar i.ety = true ∧ i.zk = [.d (.ar i.n i.ety)] := by
  obtain ⟨d, h1, h2, h3⟩ := h.und
  cases d <;> simp [tdOk, hd] at h3
  obtain ⟨⟨⟨k1, k2⟩, k3⟩, k4⟩ := h3
  subst k1
  refine ⟨_, h1, elOk_spec k2, k3, ?_⟩
  split at k4
  · rename_i hz; rw [hz]; simp at k4; rw [k4]
  · simp at k4
theorem TOk.struct {i : TI} (h : TOk P t i) (hd : i.td = .struct) : ∃ fs, P.underlying t = some (.struct fs) ∧ fsOk P fs.toList i.fl i.lay = true := by
  obtain ⟨d, h1, h2, h3⟩ := h.und
  cases d <;> simp [tdOk, hd] at h3
  exact ⟨_, h1, h3⟩

theorem eqT_size {n : Nat} {ts : List Ty} {d : TypeDesc} (h : eqT P (n + 1) t = some ts) (hu : P.underlying t = some d) (ha : isAggD d = true) : P.cellsOf t = tysz ts := by
  unfold eqT at h
  rw [hu] at h
  cases d <;> simp [isAggD] at ha
  · simp only at h
    split at h
    · split at h
      · rename_i hsz; simp only [Option.some.injEq] at h; subst h; rw [hsz.2]; simp [tysz, Ty.sz]
      · simp at h
    · split at h
      · rename_i hsz; simp only [Option.some.injEq] at h; subst h; rw [hsz.2]; simp [tysz, Ty.sz]
      · simp at h
    · simp at h
  · simp only at h
    split at h
    · simp at h
    · split at h
      · simp at h
      · split at h
        · rename_i hsz; simp only [Option.some.injEq] at h; subst h; exact hsz
        · simp at h

theorem binO_ok {i : TI} (hi : i = {} ∨ TOk P t i) {op : BinOp} {x y : V} {k : V → Rd α} (h : Ev ok (binO i op x y k) s r) {ox oy : Operand} {vx vy : Value} (hx : RepV E F w x vx) (hy : RepV E F w y vy) :
    ∃ v X, (do eqGuard op t ox oy vx vy; binOp op t vx vy : Sem Value).run P w = .ok v w ∧ RepV E F w X v ∧ Ev ok (k X) s r := by
  unfold binO at h
  split at h
  · rename_i i' a j b
    have := of_int hx; subst this
    have := of_int hy; subst this
    obtain ⟨v, X, h1, h2, h3⟩ := binI_ok (P := P) (t := t) h
    refine ⟨v, X, ?_, h2 _ _ _, h3⟩
    have : (eqGuard op t ox oy (.int i' a) (.int j b)).run P w = .ok () w := by cases op <;> simp [eqGuard]
    simp [this, h1]
  · rename_i a b
    have := of_str hx; subst this
    have := of_str hy; subst this
    obtain ⟨v, X, h1, h2, h3⟩ := binS_ok (P := P) (t := t) h
    refine ⟨v, X, ?_, h2 _ _ _, h3⟩
    have : (eqGuard op t ox oy (.string a) (.string b)).run P w = .ok () w := by cases op <;> simp [eqGuard]
    simp [this, h1]
  · rename_i a b
    have := of_boo hx; subst this
    have := of_boo hy; subst this
    have hg : (eqGuard op t ox oy (.bool a) (.bool b)).run P w = .ok () w := by cases op <;> simp [eqGuard]
    split at h
    · rename_i htd
      have hu := (hi.resolve_left (by rintro rfl; simp at htd)).bool htd
      exact ⟨_, _, by rw [Sem.run_bind, hg, Result.andThen_ok, run_eql_bool w t a b hu], rep_boo _, h⟩
    · rename_i htd
      have hu := (hi.resolve_left (by rintro rfl; simp at htd)).bool htd
      exact ⟨_, _, by rw [Sem.run_bind, hg, Result.andThen_ok, run_neq_bool w t a b hu], rep_boo _, h⟩
    · exact h.fail.elim
  · rename_i a b
    split at h
    · exact h.fail.elim
    · exact h.fail.elim
    · rename_i ts hts hagg
      split at h
      · exact h.fail.elim
      · rename_i hty
        simp only [Bool.and_eq_true] at hty
        obtain ⟨ca, rfl, ha⟩ := of_agg hx
        obtain ⟨cb, rfl, hb⟩ := of_agg hy
        have hT := hi.resolve_left (by rintro rfl; simp at hts)
        obtain ⟨he, hgt⟩ := hT.eq ts hts
        obtain ⟨va, vb, c, k1, k2, k3, k4⟩ := eqT_ok (P := P) (w := w) 40 t ts he 9959 ca cb 0 a b _ _ hty.1 hty.2 ha hb ⟨[], [], by simp, rfl⟩ ⟨[], [], by simp, rfl⟩
        obtain ⟨d, hu, hd, _⟩ := hT.und
        rw [hagg] at hd
        obtain ⟨f, z, g1, g2, g3, g4, g5⟩ := hT.inf
        have hsz : f.size = tysz ts := by
          have := eqT_size he hu hd
          rw [← this]; simp [Program.cellsOf, g1]
        have l1 : ca.size = f.size := by have := tysz_len hty.1 ha; rw [hsz, ← this]; simp
        have l2 : cb.size = f.size := by have := tysz_len hty.2 hb; rw [hsz, ← this]; simp
        have e1 := run_part_agg (P := P) hu hd g1 (xs := ca) (off := 0) w
        have e2 := run_part_agg (P := P) hu hd g1 (xs := cb) (off := 0) w
        rw [k1] at e1; rw [k2] at e2
        simp only [Result.ok.injEq, and_true] at e1 e2
        have f1 : ca.extract 0 (0 + f.size) = ca := by rw [Nat.zero_add, ← l1]; simp
        have f2 : cb.extract 0 (0 + f.size) = cb := by rw [Nat.zero_add, ← l2]; simp
        rw [f1] at e1; rw [f2] at e2
        subst e1; subst e2
        have hg := run_eqGuard_agg (P := P) w op t ox oy ca cb hgt
        have k4 : (Op.equalIn 10000 t (.agg ca) (.agg cb)).run P w = .ok c w := k4
        split at h
        · rename_i c' hc'
          rw [k3] at hc'; simp only [Option.some.injEq] at hc'; subst hc'
          exact ⟨_, _, by rw [Sem.run_bind, hg, Result.andThen_ok, run_eql_struct, k4]; rfl, rep_boo _, h⟩
        · rename_i c' hc'
          rw [k3] at hc'; simp only [Option.some.injEq] at hc'; subst hc'
          exact ⟨_, _, by rw [Sem.run_bind, hg, Result.andThen_ok, run_neq_struct, k4]; rfl, rep_boo _, h⟩
        · exact h.fail.elim
  · rename_i a
    have hz : vy = .slice none 0 0 := by have := hy.2; rw [RepL] at this; simpa using this
    subst hz
    have key : ∀ c, isNilS a = some c → ∃ b n m, vx = .slice b n m ∧ b.isNone = c := by
      intro c hc
      cases a <;> simp [isNilS] at hc
      · subst hc
        obtain ⟨_, _, b, n, m, h2⟩ := hx
        exact ⟨some b, n, m, by simpa using h2, rfl⟩
      · subst hc
        have := hx.2; rw [RepL] at this
        exact ⟨none, 0, 0, by simpa using this, rfl⟩
      · subst hc
        obtain ⟨_, c, h2⟩ := hx
        exact ⟨none, 0, c, by simpa using h2, rfl⟩
    split at h
    · rename_i htd hc
      obtain ⟨e, hu, _⟩ := (hi.resolve_left (by rintro rfl; simp at htd)).slice htd
      obtain ⟨b, n, m, rfl, rfl⟩ := key _ hc
      have hg : (eqGuard .eql t ox oy (.slice b n m) (.slice none 0 0)).run P w = .ok () w := by simp [eqGuard]
      exact ⟨_, _, by rw [Sem.run_bind, hg, Result.andThen_ok, Lib.run_eql_slice_nil w t e b n m 0 0 hu], rep_boo _, h⟩
    · rename_i htd hc
      obtain ⟨e, hu, _⟩ := (hi.resolve_left (by rintro rfl; simp at htd)).slice htd
      obtain ⟨b, n, m, rfl, rfl⟩ := key _ hc
      have hg : (eqGuard .neq t ox oy (.slice b n m) (.slice none 0 0)).run P w = .ok () w := by simp [eqGuard]
      exact ⟨_, _, by rw [Sem.run_bind, hg, Result.andThen_ok, run_neq_slice_nil_any w t e b n m 0 0 hu], rep_boo _, h⟩
    · exact h.fail.elim
  · rename_i a
    have hz : vy = .pointer none := by have := hy.2; rw [RepL] at this; simpa using this
    subst hz
    have key : ∀ c, isNilP a = some c → ∃ b, vx = .pointer b ∧ b.isNone = c := by
      intro c hc
      cases a <;> simp [isNilP] at hc <;> subst hc
      · have := hx.2; rw [RepL] at this; exact ⟨_, by simpa using this.2.1, rfl⟩
      · have := hx.2; rw [RepL] at this; exact ⟨_, by simpa using this.2.2, rfl⟩
      · have := hx.2; rw [RepL] at this; exact ⟨_, by simpa using this.2.2.1, rfl⟩
      · obtain ⟨_, b, o, ds, h2, _⟩ := hx; exact ⟨_, by simpa using h2, rfl⟩
      · have := hx.2; rw [RepL] at this; exact ⟨_, by simpa using this, rfl⟩
    split at h
    · rename_i htd hc
      obtain ⟨e, hu⟩ := (hi.resolve_left (by rintro rfl; simp at htd)).ptr htd
      obtain ⟨b, rfl, rfl⟩ := key _ hc
      have hg : (eqGuard .eql t ox oy (.pointer b) (.pointer none)).run P w = .ok () w := by simp [eqGuard]
      have hp : P.underlying t = some (.pointer (P.pointee t)) := by rw [hu]; simp [Program.pointee, hu]
      exact ⟨_, _, by rw [Sem.run_bind, hg, Result.andThen_ok, run_eql_pointer_nil w t b hp], rep_boo _, h⟩
    · rename_i htd hc
      obtain ⟨e, hu⟩ := (hi.resolve_left (by rintro rfl; simp at htd)).ptr htd
      obtain ⟨b, rfl, rfl⟩ := key _ hc
      have hg : (eqGuard .neq t ox oy (.pointer b) (.pointer none)).run P w = .ok () w := by simp [eqGuard]
      have hp : P.underlying t = some (.pointer (P.pointee t)) := by rw [hu]; simp [Program.pointee, hu]
      exact ⟨_, _, by rw [Sem.run_bind, hg, Result.andThen_ok, run_neq_pointer_nil w t b hp], rep_boo _, h⟩
    · exact h.fail.elim
  · exact h.fail.elim
end
end Go.Proofs.Zz
