/- The run of a function's code is the machine's. -/
import Derived.Test.YtpplgkggclddiaaEnhD
set_option linter.unusedVariables false
set_option linter.unusedSimpArgs false
namespace Go.Proofs.Zz
open Go

/-- A loop whose rounds are counted. -/
theorem wp_loop_fuel {P : Program} {Q : Exit → Act → World → Prop} {c : Code} (J : Nat → Act → World → Prop) {n : Nat} {a : Act} {w : World} (h0 : J n a w)
    (round : ∀ n a w, J n a w → c.wp P (Exit.then (fun a' w' => ∃ m, m < n ∧ J m a' w') Q) a w) : (Code.loop c).wp P Q a w := by
  intro b k cs
  have key : ∀ n a w, J n a w → ∃ e a' w', Q e a' w' ∧ Arrives P (lone (b.at a (.code c :: .inLoop c :: k)) cs w) b k cs e a' w' := by
    intro n
    induction n using Nat.strongRecOn with
    | _ n ih =>
      intro a w hJ
      obtain ⟨e, a1, w1, hq, harr⟩ := round n a w hJ b (.inLoop c :: k) cs
      cases e with
      | normal =>
        obtain ⟨m, hlt, hJ1⟩ := hq
        obtain ⟨e2, a2, w2, hq2, harr2⟩ := ih m hlt a1 w1 hJ1
        exact ⟨e2, a2, w2, hq2, .of_steps (Go.Steps.trans harr (.one step_inLoop)) harr2⟩
      | exit id => exact ⟨_, a1, w1, hq, .pass (x := .inLoop c) rfl (fun _ _ => .inl (by simp)) harr⟩
      | goto l => exact ⟨_, a1, w1, hq, .pass (x := .inLoop c) rfl (fun _ _ => .inl (by simp)) harr⟩
      | ret => exact ⟨_, a1, w1, hq, .pass (x := .inLoop c) rfl (fun _ _ => .inl (by simp)) harr⟩
      | panic ch => exact ⟨_, a1, w1, hq, .pass (x := .inLoop c) rfl (fun _ _ => .inl (by simp)) harr⟩
      | outgrown => exact ⟨_, a1, w1, hq, .pass (x := .inLoop c) rfl (fun _ _ => .inl (by simp)) harr⟩
  obtain ⟨e, a', w', hq, harr⟩ := key _ a w h0
  exact ⟨e, a', w', hq, .of_steps (.one step_loop) harr⟩

section
variable {ok : Nat → List DV → List DV → Prop} {C : Frm} {A : Nat → Prop} {E : Env} {F : Nat → Prop} {s : St} {w : World} {α : Type} {r : α}
theorem upto_len : ∀ n, (upto n).length = n
  | 0 => rfl
  | n + 1 => by simp [upto, upto_len n]
theorem upto_get : ∀ n k, k < n → (upto n)[k]? = some k
  | 0, k, h => by omega
  | n + 1, k, h => by
    by_cases e : k = n
    · subst e
      rw [upto, List.getElem?_append_right (by rw [upto_len]; exact Nat.le_refl _), upto_len]; simp
    · rw [upto, List.getElem?_append_left (by rw [upto_len]; omega)]
      exact upto_get n k (by omega)
theorem kept_ok {nb : Nat} {bs : List Nat} {pay x : List DV} (h : Ev ok (kept nb bs pay) s x) : x = pay ∧ nb ≤ bs.length ∧ ∀ j, j < nb → nthD 0 bs j = j := by
  unfold kept at h
  split at h
  · rename_i he
    have he := natsEq_spec he
    rw [takeN_eq] at he
    have hlen := congrArg List.length he
    rw [upto_len, List.length_take] at hlen
    refine ⟨h.ret, by omega, fun j hj => ?_⟩
    have := upto_get nb j hj
    rw [← he, List.getElem?_take, if_pos hj] at this
    rw [nthD_eq, List.getD_eq_getElem?_getD, this]; rfl
  · exact h.fail.elim
/-- What fits a signature goes on in the same frame. -/
theorem Fit.enter {sg : Sg} {vs : List Value} {p : List DV} {es : List EI} {bs tk bw : List Nat} (hf : Fit C A E F s w sg vs p es bs tk bw) (hm : Mem C A E F s.ob w) (hn : C.nb ≤ bs.length) (hk : ∀ j, j < C.nb → nthD 0 bs j = j) :
    Enter C (plus s.ob E F bw) w sg.bx.length (fun j => E.e (nthD 0 bs j)) es := by
  refine ⟨plus_lt hm, fun b hb => .inl (hm.f0 b hb), hm.kp, plus_uf hm, fun b hb => ?_, hm.sz, hm.os, hm.tape, hm.output, by rw [← hf.len]; exact hn, fun k hk' => ?_⟩
  · rcases hb with ⟨j, hj, rfl⟩ | ⟨e, he, hn, rfl⟩
    · have hj' : j < bs.length := by rw [hf.len]; exact hj
      have : nthD 0 bs j = bs[j] := by rw [nthD_eq, List.getD_eq_getElem?_getD, List.getElem?_eq_getElem hj']; rfl
      obtain ⟨ls, h⟩ := hf.box _ (List.getElem_mem hj')
      show C.O (E.e (nthD 0 bs j)).blk ∨ C.w0.heap.size ≤ (E.e (nthD 0 bs j)).blk
      rw [this]
      exact hm.uo _ (by rw [h]; trivial)
    · obtain ⟨ea, ho, rfl⟩ := hf.own
      obtain ⟨n, h1, h2, h3⟩ := ho.key e (List.mem_reverse.1 he) hn
      rw [h2]; exact hm.uo n h3
  · simp only [hk k hk']; exact (hm.eo k hk').2
theorem boxKeys_ok (hm : Mem C A E F s.ob w) : ∀ n, n ≤ C.nb → All2 (RepV E F w) (boxKeys n) ((upto n).map fun k => Value.pointer (some ⟨(E.e k).blk, (E.e k).loff 0, none⟩))
  | 0, _ => trivial
  | n + 1, h => by
    simp only [boxKeys, upto, List.map_append]
    refine (boxKeys_ok hm n (by omega)).append ⟨⟨trivial, (hm.eo n (by omega)).1, rfl, ?_⟩, trivial⟩
    intro d hd
    simp at hd
    subst hd
    simp
theorem RepAs.split {β : Nat → EI} {G : Nat → Prop} : ∀ {as bs : List AK} {p : List DV} {es : List EI} {vs : List Value}, RepAs β G w (as ++ bs) p es vs →
    ∃ p1 p2 e1 e2 v1 v2, p = p1 ++ p2 ∧ es = e1 ++ e2 ∧ vs = v1 ++ v2 ∧ v1.length = as.length ∧ RepAs β G w as p1 e1 v1 ∧ RepAs β G w bs p2 e2 v2
  | [], bs, p, es, vs, h => ⟨[], p, [], es, [], vs, rfl, rfl, rfl, rfl, .nil [], h⟩
  | a :: as, bs, p, es, vs, h => by
    obtain ⟨p1, p2, e1, e2, v, q, rfl, rfl, rfl, h1, h2⟩ := h.inv
    obtain ⟨p3, p4, e3, e4, v3, v4, rfl, rfl, rfl, h3, h4, h5⟩ := RepAs.split h2
    exact ⟨p1 ++ p3, p4, e1 ++ e3, e4, v :: v3, v4, by simp, by simp, rfl, by simp [h3], .cons h1 h4, h5⟩
theorem boxAs_none {β : Nat → EI} {G : Nat → Prop} : ∀ {n : Nat} {p : List DV} {es : List EI} {vs : List Value}, RepAs β G w (boxAs n) p es vs → p = [] ∧ es = []
  | 0, p, es, vs, h => h.inv
  | n + 1, p, es, vs, h => by
    obtain ⟨p1, p2, e1, e2, v1, v2, rfl, rfl, rfl, _, h4, h5⟩ := RepAs.split (as := boxAs n) h
    obtain ⟨rfl, rfl⟩ := boxAs_none h4
    obtain ⟨p3, p4, e3, e4, v, q, rfl, rfl, rfl, h6, h7⟩ := h5.inv
    obtain ⟨rfl, rfl⟩ := h7.inv
    cases h6 with
    | one _ _ hk => cases hk; exact ⟨rfl, rfl⟩
theorem boxAs_len : ∀ n, (boxAs n).length = n
  | 0 => rfl
  | n + 1 => by simp [boxAs, boxAs_len n]
theorem SigIn.strip {sg : Sg} {nb : Nat} {β : Nat → EI} {G : Nat → Prop} {p : List DV} {es : List EI} {v1 v2 : List Value} (h : SigIn (sg.at_ nb) β G w p es (v1 ++ v2)) (hl : v1.length = nb) : SigIn sg β G w p es v2 := by
  obtain ⟨p1, p2, e1, e2, rfl, rfl, hA, hB⟩ := h.ex
  obtain ⟨p3, p4, e3, e4, v3, v4, rfl, rfl, hv, h3, h4, h5⟩ := RepAs.split (as := boxAs nb) hA
  obtain ⟨rfl, rfl⟩ := boxAs_none h4
  rw [boxAs_len] at h3
  obtain ⟨rfl, rfl⟩ := List.append_inj hv (by rw [hl, h3])
  exact ⟨⟨p4, p2, e4, e2, by simp, by simp, h5, hB⟩, h.bd, h.ed, h.be, h.ef⟩
theorem rep_list {E : Env} {F : Nat → Prop} {tm : List V} {a : Act} (ht : Tms E F tm a w) : All2 (RepV E F w) tm a.tmps.toList := by
  have key : ∀ (xs : List V) (ys : List Value), xs.length = ys.length → (∀ t, t < xs.length → RepV E F w (nthD bad xs t) (ys.getD t undef)) → All2 (RepV E F w) xs ys := by
    intro xs
    induction xs with
    | nil => intro ys h _; cases ys with
      | nil => trivial
      | cons _ _ => simp at h
    | cons x xs ih => intro ys h hh; cases ys with
      | nil => simp at h
      | cons y ys =>
        refine ⟨by simpa [nthD] using hh 0 (by simp), ih ys (by simpa using h) fun t ht => ?_⟩
        have := hh (t + 1) (by simpa using ht)
        simpa [nthD] using this
  refine key _ _ (by rw [ht.tl]; simp) fun t _ => ?_
  have := ht.at_ t
  rw [Array.getD_eq_getD_getElem?] at this
  rw [List.getD_eq_getElem?_getD, Array.getElem?_toList]
  exact this
/-- What leaves at a head or an exit. -/
theorem leave_ok {ct : CT} (hct : CTok ok ct) {nt : Nat} {sg : Sg} {a : Act} {k : List DV → Option Rs} {q : Rs} (h : leave nt C.nb ct sg s k = some q) (hr : Rel C A s a w) :
    ∃ p β G es, k p = some q ∧ SigIn sg β G w p es a.tmps.toList ∧ Enter C G w sg.bx.length β es ∧ a.tmps.size = nt ∧ a.defers = [] := by
  unfold leave at h
  split at h
  · rename_i hl
    have hl := Nat.eq_of_beq_eq_true hl
    obtain ⟨x, rd, h1, h2⟩ := rdRun_ev hct h
    obtain ⟨E, F, hm, ht⟩ := hr
    obtain ⟨p, es, bs, tk, bw, k1, k2⟩ := mtSg_ok ⟨rd, h1⟩ hm ((boxKeys_ok hm C.nb (Nat.le_refl _)).append (rep_list ht))
    obtain ⟨rfl, k3, k4⟩ := kept_ok k1
    have e := k2.enter hm k3 k4
    exact ⟨x, _, _, es, h2, k2.sig.strip (by simp [upto_len]), e, by rw [← ht.tl]; exact hl, ht.df⟩
  · simp at h
end
end Go.Proofs.Zz
