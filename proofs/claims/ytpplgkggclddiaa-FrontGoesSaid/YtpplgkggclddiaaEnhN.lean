/- A loop over a slice of structs, an element at a time told as a box: its proof. -/
import Derived.Test.YtpplgkggclddiaaEnhM
set_option linter.unusedVariables false
set_option linter.unusedSimpArgs false
namespace Go.Proofs.Zz
open Go

section
variable {P : Program} {cx : Cx} {hi : Hi} {l0 : List CE} {t0 : List LE} {f : FuncId} {fn : Func} {b : Nat} {body : Code} {o : OL P cx hi l0 t0 fn b body} {C : Frm} {β : Nat → EI} {e : EI} {F : Nat → Prop} {a : Act} {w : World} {X S : List DV} {ys : List (Den o.T1)} {rest : List (Den o.T0)}
theorem cell_kept {C1 : Frm} {F1 : Nat → Prop} {w1 : World} {nb : Nat} {β1 : Nat → EI} {es : List EI} (h1 : Enter C1 F1 w1 nb β1 es) (hb : ∀ b, C1.F0 b → b < C1.w0.heap.size) (hO : ∀ b, C1.F0 b → ¬ C1.O b) :
    ∀ b, C1.F0 b → ∀ o u, C1.w0.cell? ⟨b, o, none⟩ = some u → w1.cell? ⟨b, o, none⟩ = some u := by
  intro b hF o u hu
  have := h1.kp b (hb b hF) (hO b hF)
  rw [cell?_heap (w := C1.w0) (w' := w1) this]; exact hu
theorem OI.exit_ok (h : OI o C β e F a w X S ys []) (hti : TIok P cx) (hmix : P.follows .mixedOrders = true) (hct : AllP (CEok P) l0) (hcs : AllP (fun e => lookC l0 e.2.id = some e.2) hi.cs) (hf : Fn P f fn (codeOf fn)) (hbod : bodOf fn b = some body) :
    body.wp P (fun e' a' w' => e' ≠ .normal ∧ LoopPost C o.L0 fn.ntmps (1, X ++ (⟨.sl o.T1, ys⟩ :: S)) e' a' w') a w := by
  obtain ⟨t, c2, hbx, hsk⟩ := h.sb
  have hlen : (ys.length : Int) = (e.len : Int) := by have := h.len; simp at this; omega
  obtain ⟨_, ad, hw1, hw2⟩ := h.win
  simp only [List.cons.injEq, and_true] at hw1
  have hin : SigIn o.LX.h β F w (⟨.int .i64, (ys.length : Int)⟩ :: (X ++ (⟨.int .i64, (ys.length : Int)⟩ :: ⟨.int .i64, (ys.length : Int)⟩ :: S))) [] a.tmps.toList := by
    rw [o.hX]
    refine ⟨⟨[⟨.int .i64, (ys.length : Int)⟩], X ++ (([⟨.int .i64, (ys.length : Int)⟩, ⟨.int .i64, (ys.length : Int)⟩] ++ S) ++ []), [], [] ++ ([] ++ []), by simp, by simp, h.tm, ?_⟩, ?_, .nil, ?_, ?_⟩
    · refine RepBs.join h.bx (.cons (cs := [(β o.bs.length).hd] ++ c2) (by rw [Nat.zero_add]; exact hbx) (.cons (.oh ?_) hsk) (by rw [Nat.zero_add]; exact h.sn) ?_ (.nil _))
      · exact ⟨ad, e.len, _, hw1, hlen.symm, fun _ h2 => by omega⟩
      · intro i hi
        rw [Nat.zero_add]
        exact h.sl i (by simpa [szsL, LK.szs, Nat.add_comm] using hi)
    · intro i j hi hj; exact h.bd i j (by simpa using hi) (by simpa using hj)
    · intro j hj e' he'; simp at he'
    · intro e' he'; simp at he'
  have hlh : o.LX.h.bx.length = o.bs.length + 1 := by rw [o.hX]; simp
  have hown : ∀ b', ownB (o.bs.length + 1) β [] b' → C.O b' ∨ C.w0.heap.size ≤ b' := h.ent.uo
  have he : Enter ⟨ownB (o.bs.length + 1) β [], F, w, o.bs.length + 1, β⟩ F w o.LX.h.bx.length β [] := by
    rw [hlh]
    exact ⟨h.ent.fb, fun _ h => h, fun _ _ _ => rfl, fun _ h => .inl h, fun _ h => .inl h, Nat.le_refl _, rfl, rfl, rfl, Nat.le_refl _, fun _ _ => rfl⟩
  have hrd := o.exit (ys.length : Int) X S β F w h.bx ⟨c2, hsk⟩
  refine wp_mono (round_ok' (t0 := []) hti hmix hct hcs hf trivial hbod hrd rfl hin he h.tz h.df) fun e' a' w' hpost => ?_
  rcases hpost with ⟨_, p', _, _, _, k1, _⟩ | ⟨hne, hp⟩
  · simp at k1
  · refine ⟨hne, ?_⟩
    obtain ⟨k1, k2, k3, sgx, β', F', fs, k4, k5, k6⟩ := hp
    rw [o.xX] at k4
    simp only [Option.some.injEq] at k4
    subst k4
    obtain ⟨p1, p2, e1, e2, q1, q2, hA, hB⟩ := k5.ex
    have q1 : X ++ (⟨.int .i64, (ys.length : Int)⟩ :: ⟨.int .i64, (ys.length : Int)⟩ :: S) = p1 ++ p2 := q1
    have hp1 : p1 = [] := List.length_eq_zero_iff.1 (by rw [hA.plen]; exact o.nX)
    subst hp1
    have he1 := hA.noes o.okX
    subst he1
    obtain ⟨x1, x2, f1, f2, rfl, rfl, hB1, hB2⟩ := RepBs.split hB
    have hf1 := hB1.noes o.okB
    subst hf1
    have hx1 : x1.length = X.length := by rw [hB1.plen, h.bx.plen]
    simp only [List.nil_append] at q1 q2
    obtain ⟨rfl, q3⟩ := List.append_inj q1 hx1.symm
    obtain ⟨s1, s2, g1, g2, cs, t', rfl, rfl, b1, b2, b3, b4, b5⟩ := hB2.inv
    obtain ⟨rfl, rfl⟩ := b5.inv
    obtain ⟨u1, u2, v1, v2, c1, c3, rfl, rfl, rfl, m1, m2⟩ := b2.inv
    have hv2 := m2.noes o.okS
    subst hv2
    have hu1 := m1.plen
    have q4 : [⟨.int .i64, (ys.length : Int)⟩, ⟨.int .i64, (ys.length : Int)⟩] ++ S = u1 ++ u2 := by simpa using q3
    have hu2 : u2 = S := (List.append_inj q4 (by rw [hu1]; rfl)).2.symm
    subst hu2
    have hc1 : c1 = [(β' o.bs.length).hd] ∧ v1 = [] := by cases m1; exact ⟨rfl, rfl⟩
    obtain ⟨rfl, rfl⟩ := hc1
    simp only [List.nil_append, List.append_nil] at q2
    subst q2
    have hβ : ∀ j, j < o.bs.length + 1 → β' j = β j := fun j hj => k6.e0 j hj
    have hm := hβ o.bs.length (by omega)
    rw [Nat.zero_add] at b1 b3 b4
    have hFO : ∀ b', F b' → ¬ ownB (o.bs.length + 1) β [] b' := by
      rintro b' hb' (⟨j, hj, rfl⟩ | ⟨e', he', _⟩)
      · by_cases ej : j = o.bs.length
        · subst ej; exact h.sn hb'
        · exact h.bx.none j (Nat.zero_le _) (by omega) hb'
      · simp at he'
    have hkeep := cell_kept k6 h.ent.fb hFO
    have hF : ∀ b', F b' → F' b' := k6.f0
    -- the array, as it lay
    have harr : e.nil = false → w'.heap[e.blk]? = w.heap[e.blk]? ∧ ¬ F' e.blk := by
      intro hn
      obtain ⟨cs0, u0, fr0, pre, d1, d2, post, r1, _⟩ := h.arr hn
      have hlt := (Array.getElem?_eq_some_iff.1 r1).1
      have hno : ¬ ownB (o.bs.length + 1) β [] e.blk := by
        rintro (⟨j, hj, hb'⟩ | ⟨e', he', _⟩)
        · exact h.nb hn j hj hb'
        · simp at he'
      refine ⟨k6.kp e.blk hlt hno, fun hc => ?_⟩
      rcases k6.uf e.blk hc with h3 | h3 | h3
      · exact h.nf hn h3
      · exact hno h3
      · exact Nat.lt_irrefl _ (Nat.lt_of_lt_of_le hlt h3)
    have hwin : Win e 0 e.len [(β' o.bs.length).hd] := by rw [hm]; exact h.win
    have hao : RepArrO F' w' e o.T1 ys := by
      refine ⟨by omega, h.cap, by rw [h.esz, o.z1], fun l => by rw [h.eoff, o.zo], h.nz, fun hn => ?_⟩
      obtain ⟨cs0, u0, fr0, pre, d1, d2, post, r1, r2, r3, r4, r5, r6, r7⟩ := h.arr hn
      have hd2 : d2 = [] := r5
      subst hd2
      have hh := (harr hn).1
      have r1' := hh.trans r1
      refine ⟨cs0, u0, fr0, d1, r1', r7, r4.imp fun x c hc => RepD.ext hF hkeep hc, ?_, fun j hj => (frozen?_heap hh).trans (r6 j hj)⟩
      rw [← r3]
      exact At_of r1' r2
    have hnb' : e.nil = false → ∀ j, j < o.bs.length + 1 → (β' j).blk ≠ e.blk := fun hn j hj => by rw [hβ j hj]; exact h.nb hn j hj
    have hlx : ({ av := o.ax, bx := o.bs ++ [.oh o.bs.length o.sz (szsL o.ks) :: o.sk] } : Sg).bx.length = o.bs.length + 1 := by simp
    refine ⟨k1, k2, k3, { av := o.ax, bx := o.bs ++ [.o o.T1 :: o.sk] }, β', F', [e], o.x0, ⟨⟨[], X ++ (([⟨.sl o.T1, ys⟩] ++ u2) ++ []), [], [] ++ (([e] ++ []) ++ []), by simp, by simp, hA, ?_⟩, ?_, by simp, ?_, ?_⟩, ?_⟩
    · refine RepBs.join hB1 (.cons (cs := [(β' o.bs.length).hd] ++ c3) (by rw [Nat.zero_add]; exact b1) (.cons (.o hwin hao) m2) (by rw [Nat.zero_add]; exact b3) ?_ (.nil _))
      intro i hi
      rw [Nat.zero_add]
      exact b4 i (by simpa [szsL, LK.szs] using hi)
    · intro i j hi hj; exact k5.bd i j (by simpa using hi) (by simpa using hj)
    · intro j hj e' he' hn hb'
      simp only [List.mem_singleton] at he'; subst he'
      exact hnb' hn j (by simpa using hj) hb'
    · intro e' he' hn
      simp only [List.mem_singleton] at he'; subst he'
      exact (harr hn).2
    · have hcl : ({ av := o.ax, bx := o.bs ++ [.o o.T1 :: o.sk] } : Sg).bx.length = o.bs.length + 1 := by simp
      rw [hcl]
      refine Enter.comp h.ent (O1 := ownB (o.bs.length + 1) β []) hown (by rw [hlx] at k6; exact k6) (fun _ h => h) (fun _ h => .inl h) ?_ h.ent.nb (fun k hk => ?_)
      · rintro b' (⟨j, hj, rfl⟩ | ⟨e', he', hn, rfl⟩)
        · exact hown _ (.inl ⟨j, hj, by rw [hβ j hj]⟩)
        · simp only [List.mem_singleton] at he'; subst he'
          exact h.own hn
      · rw [hβ k (by have := h.ent.nb; omega)]; exact h.ent.e0 k hk
end
end Go.Proofs.Zz
