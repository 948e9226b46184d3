import Derived.Test.YtnfpdmhdpeffjaaGreatEngP
set_option linter.unusedSimpArgs false
set_option linter.unusedVariables false
/- Data out of leaves; conversions; values built; slices made. -/
set_option linter.unusedVariables false
set_option linter.unusedSimpArgs false
namespace Go.Proofs.Zz
open Go

section
variable {P : Program} {ok : Nat → List DV → List DV → Prop} {cx : Cx} {hi : Hi} {o : Oper} {C : Frm} {A : Nat → Prop} {E : Env} {F : Nat → Prop} {s : St} {w : World} {α : Type} {r : α}
theorem pk_ok (hm : Mem C A E F s.ob w) : ∀ {t : Ty} {ls : List L} {bw : List Nat} {k : Den t → List L → List Nat → Rd α}, Ev ok (pk t ls bw k) s r → ∀ {cs : List Value}, RepLs E F w ls cs →
    ∃ v q nb c d, cs = c ++ d ∧ RepD (plus s.ob E F nb) w t v c ∧ RepLs E F w q d ∧ Ev ok (k v q (nb ++ bw)) s r ∧ sizes ls = sizes (unpk t (zeroD t)) ++ sizes q := by
  intro t
  induction t with
  | unit => intro ls bw k h cs hr; rw [pk] at h; exact ⟨(), ls, [], [], cs, rfl, by rw [RepD], hr, h, rfl⟩
  | pair a b iha ihb =>
    intro ls bw k h cs hr
    rw [pk] at h
    obtain ⟨x, q, nb, c, d, rfl, h1, h2, h3, hz1⟩ := iha h hr
    obtain ⟨y, q', nb', c', d', rfl, h4, h5, h6, hz2⟩ := ihb h3 h2
    refine ⟨(x, y), q', nb' ++ nb, c ++ c', d', by simp, ?_, h5, by rw [List.append_assoc]; exact h6, by simp only [unpk, zeroD, sizes_append, hz1, hz2, List.append_assoc]⟩
    rw [RepD]
    exact ⟨c, c', rfl, h1.mono (plus_mono (by simp +contextual)), h4.mono (plus_mono (by simp +contextual))⟩
  | sl a =>
    intro ls bw k h cs hr
    cases ls with
    | nil => exact Ev.fail h |>.elim
    | cons l q =>
    have h : Ev ok (slD a l bw fun xs bw => k xs q bw) s r := h
    obtain ⟨c, d, rfl, h1, h2⟩ := hr
    obtain ⟨xs, nb, h3, h4⟩ := slD_ok h hm h1
    refine ⟨xs, q, nb, c, d, rfl, h3.data (fun _ h => .inl h), h2, h4, ?_⟩
    obtain ⟨ad, cap, rfl, _⟩ := h3
    have := RepL_len h1
    simp only [List.length_singleton] at this
    show l.size :: sizes q = 1 :: sizes q
    rw [← this]
  | int i =>
    intro ls bw k h cs hr
    unfold pk at h
    split at h <;> try (first | contradiction | exact h.fail.elim)
    rename_i e; cases e
    have e := cast_eq' h; subst e; have h := cast_same h
    obtain ⟨c, d, rfl, h1, h2⟩ := hr
    exact ⟨_, _, [], c, d, rfl, RepD.mono (fun _ h => .inl h) h1, h2, h, rfl⟩
  | nl =>
    intro ls bw k h cs hr
    unfold pk at h
    split at h <;> try (first | contradiction | exact h.fail.elim)
    · have e := cast_eq' h; subst e; have h := cast_same h
      obtain ⟨c, d, rfl, h1, h2⟩ := hr
      exact ⟨_, _, [], c, d, rfl, RepD.mono (fun _ h => .inl h) h1, h2, h, rfl⟩
    · obtain ⟨c, d, rfl, h1, h2⟩ := hr
      exact ⟨_, _, [], c, d, rfl, by rw [RepL] at h1; rw [RepD]; exact h1, h2, h, rfl⟩
  | bool =>
    intro ls bw k h cs hr
    unfold pk at h
    split at h <;> try (first | contradiction | exact h.fail.elim)
    have e := cast_eq' h; subst e; have h := cast_same h
    obtain ⟨c, d, rfl, h1, h2⟩ := hr
    exact ⟨_, _, [], c, d, rfl, RepD.mono (fun _ h => .inl h) h1, h2, h, rfl⟩
  | str =>
    intro ls bw k h cs hr
    unfold pk at h
    split at h <;> try (first | contradiction | exact h.fail.elim)
    have e := cast_eq' h; subst e; have h := cast_same h
    obtain ⟨c, d, rfl, h1, h2⟩ := hr
    exact ⟨_, _, [], c, d, rfl, RepD.mono (fun _ h => .inl h) h1, h2, h, rfl⟩
  | ar n a ih =>
    intro ls bw k h cs hr
    cases ls with
    | nil => exact Ev.fail h |>.elim
    | cons l q =>
    cases l with
    | dat t v =>
    have h : Ev ok (cast? t (.ar n a) v fun x => k x q bw) s r := h
    have e := cast_eq' h; subst e; have h := cast_same h
    obtain ⟨c, d, rfl, h1, h2⟩ := hr
    exact ⟨_, _, [], c, d, rfl, RepD.mono (fun _ h => .inl h) h1, h2, h, rfl⟩
    | _ => exact Ev.fail h |>.elim
theorem RepD.plus_nil {t : Ty} {v : Den t} {c : List Value} (h : RepD (plus s.ob E F []) w t v c) : RepD F w t v c := h.mono fun b hb => hb.elim id fun ⟨k, hk, _⟩ => by simp at hk

/-! Conversions -/
theorem RepD_bytes : ∀ {xs : List Int} {ds : List Value}, All (fun x c => RepD F w (.int .u8) x c) xs ds → ds = xs.map (Value.int .u8)
  | [], _, h => h
  | x :: r, _, ⟨c, d, rfl, h1, h2⟩ => by
    have h1 : c = [Value.int .u8 x] := by unfold RepD at h1; exact h1
    subst h1
    rw [RepD_bytes h2]; rfl
theorem foldl_push : ∀ (l : List Int) (r : ByteArray), l.foldl (fun r n => r.push (UInt8.ofNat n.toNat)) r = ⟨r.data ++ (l.map fun n => UInt8.ofNat n.toNat).toArray⟩
  | [], r => by simp
  | b :: l, r => by
    simp only [List.foldl_cons, List.map_cons]
    rw [foldl_push l]
    simp [ByteArray.push]
theorem run_bytes_str {xs : List Int} {v : Value} {src dst e : TypeId} (hs : P.underlying src = some (.slice e)) (he : P.underlying e = some (.int .u8)) (hd : P.underlying dst = some .string) {F' : Nat → Prop}
    (h : RepD F' w (.sl (.int .u8)) xs [v]) : (convert src dst v).run P w = .ok (.string (strOf xs)) w := by
  rw [RepD] at h
  obtain ⟨ad, cap, h1, h2, h3⟩ := h
  simp only [List.cons.injEq, and_true] at h1
  subst h1
  rw [run_convert_bytes_string w src dst e ad _ cap hs he hd]
  have nil : (xs : List Int) = [] → (Conv.bytesToString (.slice none 0 cap)).run P w = .ok (.string (strOf xs)) w := by
    rintro rfl
    simp [Conv.bytesToString, strOf]
    rfl
  rcases h3 with rfl | ⟨b, oo, ds, rfl, h4, h5, h6⟩
  · cases ad with
    | none => exact nil rfl
    | some ad =>
      have hl := run_loadCells_list (P := P) w ad [] (by simp)
      rw [List.length_nil] at hl
      have := run_bytesToString (P := P) w ad 0 cap [] (by simpa using hl)
      exact this
  · have h5 := RepD_bytes h5
    subst h5
    have hl := run_loadCells_list (P := P) w ⟨b, oo, none⟩ (List.map (Value.int .u8) xs) (fun j u hj => by rw [add_lit]; exact h6 j u hj)
    rw [List.length_map] at hl
    rw [run_bytesToString w ⟨b, oo, none⟩ _ cap xs (by simpa using hl), foldl_push]
    simp [strOf]
theorem bytes_cells (s : ByteArray) : All (fun x c => RepD F w (.int .u8) x c) (bytesOf s) ((bytesOf s).map (Value.int .u8)) := by
  induction bytesOf s with
  | nil => rfl
  | cons x r ih => exact ⟨[_], _, rfl, by unfold RepD; rfl, ih⟩
theorem op_convert (hti : TIok P cx) {t u : TypeId} {x : Operand} (ho : o.op = .convert t u x) : OpP P ok cx hi o := by
  intro C rg ix key A s a w wr K Q h hr hA hK
  simp only [opSem, ho] at h
  obtain ⟨E, F, hm, ht⟩ := hr
  obtain ⟨i, hi', h⟩ := Cx.t_ev h
  have hT := hti t i hi'
  obtain ⟨j, hj', h⟩ := Cx.t_ev h
  have hU := hti u j hj'
  obtain ⟨X, h1, h2⟩ := ev_ok h ht
  obtain ⟨dt, hdt, _⟩ := hT.und
  have run : ∀ v, (convert t u (a.eval x)).run P w = .ok v w → (execOp a.eval o).run P w = .ok (.value v) w := by
    intro v hv
    simp only [execOp, ho, Sem.run_bind, hv]
    rfl
  have run' : ∀ {v w'}, (convert t u (a.eval x)).run P w = .ok v w' → (execOp a.eval o).run P w = .ok (.value v) w' := by
    intro v w' hv
    simp only [execOp, ho, Sem.run_bind, hv]
    rfl
  unfold convS at h2
  split at h2
  · rename_i k k' n htd
    have hx := of_int h1
    refine pure_rel (run _ ?_) h2 hm ht (rep_int _ _) hK
    rw [hx]
    simp [convert, run_underlying hdt, run_underlying (hU.int htd), Conv.intToInt]
  · rename_i sv htd
    have hx := of_str h1
    refine pure_rel (run _ ?_) h2 hm ht (rep_str _) hK
    rw [hx]
    simp [convert, run_underlying hdt, run_underlying (hU.str htd)]
  · rename_i k' n htd
    have hx := of_int h1
    refine pure_rel (run _ ?_) h2 hm ht (rep_str _) hK
    rw [hx]
    simp [convert, run_underlying hdt, run_underlying (hU.str htd), Conv.intToString]
  · rename_i l _ _ htd
    split at h2
    · rename_i hts hety
      obtain ⟨e, hu, _⟩ := hT.slice hts
      have he := hT.by8 e hu hety
      obtain ⟨xs, nb, h3, h4⟩ := slD_ok h2 hm (cs := [a.eval x]) (by cases l <;> first | exact Ev.fail h2 |>.elim | exact h1.2)
      exact pure_rel (run _ (run_bytes_str hu he (hU.str htd) (h3.data (fun _ h => .inl h)))) h4 hm ht (rep_str _) hK
    · exact h2.fail.elim
  · rename_i sv htd
    have hx := of_str h1
    split at h2
    · rename_i hts hety
      obtain ⟨e, hu, f, z, f1, f2, f3, f4, f5⟩ := hU.slice htd
      have he := hU.by8 e hu hety
      rcases h2.ite with ⟨hb, h2⟩ | ⟨_, h2⟩
      · have hc : sv.size ≤ grownCap w sv.size 0 e := grownCap_ge w sv.size 0 e
        have hlen : (bytesOf sv).length = sv.size := by simp [bytesOf]
        have hw := NewW.drew w (.cells (bytesRow sv (grownCap w sv.size 0 e)) e ((bytesRow sv (grownCap w sv.size 0 e)).size, (bytesRow sv (grownCap w sv.size 0 e)).size + 1))
        refine new_rel (e := arrEI w.heap.size sv.size (grownCap w sv.size 0 e) (.int .u8)) (v := .slice (some ⟨w.heap.size, 0, none⟩) sv.size (grownCap w sv.size 0 e)) (run' ?_) hw h2 hm ht hA rfl (fun hx' => ?_) (fun hx' => ?_) hK
        · rw [hx]; exact run_bytes_of_string w t u e sv (hT.str hts) hu he
        · refine ⟨hlen, hc, rfl, fun _ => rfl, fun h => by simp [arrEI] at h, fun _ => ⟨_, _, _, (bytesOf sv).map (Value.int .u8), hw.last, ?_, bytes_cells sv, ?_, fun _ => ⟨fun hf => ?_, ?_⟩, fun h => by simp at h⟩⟩
          · have e1 : sv.data.size = sv.size := rfl
            simp only [arrEI, bytesRow, Ty.sz, Array.size_append, Array.size_map, Array.size_replicate, e1]
            omega
          · exact hw.at_ (d := List.replicate (grownCap w sv.size 0 e - sv.size) (.int .u8 0)) (by simp [bytesRow, bytesOf])
          · have := hm.fb _ hf; simp [arrEI] at this
          · intro oo ho
            simp only [World.frozen?, arrEI, hw.last]
            simp only [Bool.and_eq_false_iff, decide_eq_false_iff_not]
            left; omega
        · refine rep_slice ⟨.inr rfl, ?_⟩
          rw [Env.set_self]
          exact ⟨by simp [arrEI], _, rfl, fun _ => ⟨rfl, by simp [arrEI]⟩⟩
      · exact h2.fail.elim
    · exact h2.fail.elim
  · exact h2.fail.elim
end
end Go.Proofs.Zz
