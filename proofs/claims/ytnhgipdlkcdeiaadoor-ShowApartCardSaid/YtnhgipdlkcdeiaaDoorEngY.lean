import Derived.Test.YtnhgipdlkcdeiaaDoorEngV
set_option linter.unusedSimpArgs false
set_option linter.unusedVariables false
/- A state made of a signature and a payload. -/
set_option linter.unusedVariables false
set_option linter.unusedSimpArgs false
namespace Go.Proofs.Zs
open Go

theorem blt_spec {a b : Nat} (h : Nat.blt a b = true) : a < b := by
  have : a + 1 ≤ b := by simpa [Nat.blt] using h
  exact this
inductive ArrOk (F : Nat → Prop) (w : World) : List EI → Nat → List (Nat × Obj) → Prop
  | nil (n : Nat) : ArrOk F w [] n []
  | cons {es : List EI} {n : Nat} {new : List (Nat × Obj)} {e : EI} {o : Obj} : OwnO F w e o → ArrOk F w es (n + 1) new → ArrOk F w (e :: es) n ((n, o) :: new)
theorem ArrOk.append {F : Nat → Prop} {w : World} {es fs : List EI} {n : Nat} {new new' : List (Nat × Obj)} (h : ArrOk F w es n new) (h' : ArrOk F w fs (n + es.length) new') : ArrOk F w (es ++ fs) n (new ++ new') := by
  induction h with
  | nil n => simpa using h'
  | cons hr _ ih => exact .cons hr (ih (by simpa [Nat.add_assoc, Nat.add_comm 1] using h'))
theorem ArrOk.mem {F : Nat → Prop} {w : World} {es : List EI} {n : Nat} {new : List (Nat × Obj)} (h : ArrOk F w es n new) {k : Nat} {o : Obj} (hk : (k, o) ∈ new) :
    ∃ e, n ≤ k ∧ es[k - n]? = some e ∧ OwnO F w e o := by
  induction h with
  | nil n => simp at hk
  | @cons es n new e o hr _ ih =>
    rcases List.mem_cons.1 hk with hk | hk
    · simp only [Prod.mk.injEq] at hk
      obtain ⟨rfl, rfl⟩ := hk
      exact ⟨_, Nat.le_refl _, by simp, hr⟩
    · obtain ⟨e', h1, h2, h3⟩ := ih hk
      refine ⟨e', by omega, ?_, h3⟩
      rw [show k - n = (k - (n + 1)) + 1 by omega]; simpa using h2

/-- An environment that knows the boxes and the new slices. -/
structure EnvOk (E : Env) (β : Nat → EI) (ren : Nat → Nat) (nb nx : Nat) (es : List EI) : Prop where
  bx : ∀ j, j < nb → E.al (ren j) ∧ E.e (ren j) = β j
  ar : ∀ i e, es[i]? = some e → E.al (nx + i) ∧ E.e (nx + i) = e
theorem EnvOk.left {E : Env} {β : Nat → EI} {ren : Nat → Nat} {nb nx : Nat} {es fs : List EI} (h : EnvOk E β ren nb nx (es ++ fs)) : EnvOk E β ren nb nx es :=
  ⟨h.bx, fun i e hi => h.ar i e (by rw [List.getElem?_append_left (List.getElem?_eq_some_iff.1 hi).1]; exact hi)⟩
theorem EnvOk.right {E : Env} {β : Nat → EI} {ren : Nat → Nat} {nb nx : Nat} {es fs : List EI} (h : EnvOk E β ren nb nx (es ++ fs)) : EnvOk E β ren nb (nx + es.length) fs :=
  ⟨h.bx, fun i e hi => by
    have := h.ar (es.length + i) e (by rw [List.getElem?_append_right (by omega)]; simpa using hi)
    rwa [← Nat.add_assoc] at this⟩

/-- What a making leaves. -/
structure BOk (F : Nat → Prop) (w : World) (b b' : B) (q : List DV) (es : List EI) (new : List (Nat × Obj)) : Prop where
  pay : b'.pay = q
  nx : b'.nx = b.nx + es.length
  nb : b'.nb = b.nb
  ob : b'.ob = new.reverse ++ b.ob
  arr : ArrOk F w es b.nx new
theorem BOk.refl {F : Nat → Prop} {w : World} (b : B) : BOk F w b b b.pay [] [] := ⟨rfl, rfl, rfl, rfl, .nil _⟩
theorem BOk.trans {F : Nat → Prop} {w : World} {b b' b'' : B} {q q' : List DV} {es fs : List EI} {new new' : List (Nat × Obj)} (h : BOk F w b b' q es new) (h' : BOk F w b' b'' q' fs new') : BOk F w b b'' q' (es ++ fs) (new ++ new') :=
  ⟨h'.pay, by rw [h'.nx, h.nx]; simp [Nat.add_assoc], h'.nb.trans h.nb, by rw [h'.ob, h.ob]; simp, h.arr.append (by have := h'.arr; rwa [h.nx] at this)⟩

section
variable {β : Nat → EI} {F : Nat → Prop} {w : World} {ren : Nat → Nat}
theorem lOff_zero (t : Ty) : lOff t 0 = 0 := by simp [lOff, takeN]
theorem popD_same : ∀ (vs : List DV) (q : List DV), popD (vs.map (·.t)) (vs ++ q) = some (vs, q)
  | [], q => rfl
  | d :: r, q => by simp only [List.map_cons, List.cons_append, popD, tyEq_refl, popD_same r q]
theorem blL_ok {k : LK} {p q : List DV} {es : List EI} {cs : List Value} (h : RepK β F w k p es cs) {b b' : B} (hp : b.pay = p ++ q) {ls : List L} (hb : blL k ren b = some (ls, b')) :
    ∃ new, BOk F w b b' q es new ∧ sizes ls = k.szs ∧ ∀ E, EnvOk E β ren b.nb b.nx es → RepLs E F w ls cs := by
  cases h with
  | any hn hc =>
    simp only [blL, Option.some.injEq, Prod.mk.injEq] at hb
    obtain ⟨rfl, rfl⟩ := hb
    exact ⟨[], ⟨by simpa using hp, rfl, rfl, rfl, .nil _⟩, rfl, fun E _ => All.one.2 ⟨hn, hc⟩⟩
  | d hd =>
    simp only [blL, hp, List.singleton_append, tyc_same, Option.some.injEq, Prod.mk.injEq] at hb
    obtain ⟨rfl, rfl⟩ := hb
    exact ⟨[], ⟨rfl, rfl, rfl, rfl, .nil _⟩, sizes_unpk _, fun E _ => RepD_unpk hd⟩
  | o hw ha =>
    simp only [blL, hp, List.singleton_append, tyc_same, Option.some.injEq, Prod.mk.injEq] at hb
    obtain ⟨rfl, rfl⟩ := hb
    refine ⟨[_], ⟨rfl, rfl, rfl, rfl, .cons ha (.nil _)⟩, rfl, fun E hE => All.one.2 ?_⟩
    obtain ⟨h1, h2⟩ := hE.ar 0 _ rfl
    rw [Nat.add_zero] at h1 h2
    exact ⟨h1, by rw [h2]; exact hw⟩
  | r hF hd ha =>
    simp only [blL, hp, List.singleton_append, tyc_same, Option.some.injEq, Prod.mk.injEq] at hb
    obtain ⟨rfl, rfl⟩ := hb
    exact ⟨[], ⟨rfl, rfl, rfl, rfl, .nil _⟩, rfl, fun E _ => All.one.2 ⟨_, _, _, by rw [lOff_zero]; rfl, hF, hd, ha⟩⟩
  | p hs =>
    simp only [blL] at hb
    split at hb
    · rename_i hj
      have hj := blt_spec hj
      simp only [Option.some.injEq, Prod.mk.injEq] at hb
      obtain ⟨rfl, rfl⟩ := hb
      refine ⟨[], ⟨by simpa using hp, rfl, rfl, rfl, .nil _⟩, rfl, fun E hE => All.one.2 ?_⟩
      obtain ⟨h1, h2⟩ := hE.bx _ hj
      exact ⟨h1, by rw [h2], by rw [h2]; exact hs⟩
    · simp at hb
  | @f g caps hs =>
    simp only [blL] at hb
    split at hb
    · rename_i hj
      simp only [List.all_eq_true] at hj
      simp only [Option.some.injEq, Prod.mk.injEq] at hb
      obtain ⟨rfl, rfl⟩ := hb
      refine ⟨[], ⟨by simpa using hp, rfl, rfl, rfl, .nil _⟩, rfl, fun E hE => All.one.2 ?_⟩
      have hk : ∀ c ∈ caps, E.al (ren c.k) ∧ E.e (ren c.k) = β c.k := fun c hc => hE.bx _ (blt_spec (hj c hc))
      refine ⟨fun c hc => ?_, ?_⟩
      · obtain ⟨c', hc', rfl⟩ := List.mem_map.1 hc
        obtain ⟨h1, h2⟩ := hk c' hc'
        exact ⟨h1, by simp only [h2]; exact hs c' hc'⟩
      · simp only [List.map_map, List.cons.injEq, Value.func.injEq, true_and, and_true]
        congr 1
        apply List.map_congr_left
        intro c hc
        simp only [Function.comp, (hk c hc).2]
    · simp at hb
  | np =>
    simp only [blL, Option.some.injEq, Prod.mk.injEq] at hb
    obtain ⟨rfl, rfl⟩ := hb
    exact ⟨[], ⟨by simpa using hp, rfl, rfl, rfl, .nil _⟩, rfl, fun E _ => All.one.2 rfl⟩
  | oh hc =>
    simp only [blL, hp, List.cons_append, List.nil_append] at hb
    split at hb
    · rename_i hj
      have hj := blt_spec hj
      simp only [Option.some.injEq, Prod.mk.injEq] at hb
      obtain ⟨rfl, rfl⟩ := hb
      refine ⟨[], ⟨rfl, rfl, rfl, rfl, .nil _⟩, rfl, fun E hE => All.one.2 ?_⟩
      obtain ⟨h1, h2⟩ := hE.bx _ hj
      exact ⟨h1, by rw [h2], by rw [h2]; exact hc⟩
    · simp at hb
  | hd h1 h2 h3 =>
    simp only [blL, Option.some.injEq, Prod.mk.injEq] at hb
    obtain ⟨rfl, rfl⟩ := hb
    obtain ⟨_, a, rfl, _⟩ := h1
    exact ⟨[], ⟨by simpa using hp, rfl, rfl, rfl, .nil _⟩, rfl, fun E _ => All.one.2 ⟨rfl, by simp [cellOk]⟩⟩
  | cst hc =>
    simp only [blL] at hb
    split at hb
    · rename_i hj
      have hj := blt_spec hj
      simp only [Option.some.injEq, Prod.mk.injEq] at hb
      obtain ⟨rfl, rfl⟩ := hb
      refine ⟨[], ⟨by simpa using hp, rfl, rfl, rfl, .nil _⟩, rfl, fun E hE => All.one.2 ?_⟩
      obtain ⟨h1, h2⟩ := hE.bx _ hj
      exact ⟨h1, by rw [h2], by rw [h2]; exact hc⟩
    · simp at hb
  | @it x p e cs hn hc ha =>
    simp only [blL, hp, List.cons_append, List.nil_append, Option.some.injEq, Prod.mk.injEq] at hb
    obtain ⟨rfl, rfl⟩ := hb
    refine ⟨[_], ⟨rfl, rfl, rfl, rfl, .cons (o := .raw (.it x p)) ⟨hn, ha⟩ (.nil _)⟩, rfl, fun E hE => All.one.2 ?_⟩
    obtain ⟨h1, h2⟩ := hE.ar 0 _ rfl
    rw [Nat.add_zero] at h1 h2
    exact ⟨h1, by rw [h2]; exact hn, by rw [h2]; exact hc⟩
  | @mp t xs e cs hn hc ha =>
    simp only [blL, hp, List.singleton_append, tyc_same, Option.some.injEq, Prod.mk.injEq] at hb
    obtain ⟨rfl, rfl⟩ := hb
    refine ⟨[_], ⟨rfl, rfl, rfl, rfl, .cons (o := .raw (.mp t xs)) ⟨hn, ha⟩ (.nil _)⟩, rfl, fun E hE => All.one.2 ?_⟩
    obtain ⟨h1, h2⟩ := hE.ar 0 _ rfl
    rw [Nat.add_zero] at h1 h2
    exact ⟨h1, by rw [h2]; exact hn, by rw [h2]; exact hc⟩
  | @ifd t ts vs c ht hs ha =>
    subst ht
    simp only [blL, hp, popD_same, Option.some.injEq, Prod.mk.injEq] at hb
    obtain ⟨rfl, rfl⟩ := hb
    exact ⟨[], ⟨rfl, rfl, rfl, rfl, .nil _⟩, rfl, fun E _ => All.one.2 ⟨hs, c, rfl, ha⟩⟩
  | ife hv =>
    simp only [blL, hp, List.singleton_append, Option.some.injEq, Prod.mk.injEq] at hb
    obtain ⟨rfl, rfl⟩ := hb
    exact ⟨[], ⟨rfl, rfl, rfl, rfl, .nil _⟩, rfl, fun E _ => All.one.2 ⟨_, rfl, hv⟩⟩
theorem win_same {e e' : EI} {u v : Value} (h1 : Win e 0 e.len [v]) (h2 : Win e 0 e.len [u]) (h3 : Win e' 0 e'.len [u]) : Win e' 0 e'.len [v] := by
  obtain ⟨_, a, q1, q2⟩ := h1
  obtain ⟨_, b, r1, r2⟩ := h2
  obtain ⟨_, c, s1, s2⟩ := h3
  simp only [List.cons.injEq, and_true] at q1 r1 s1
  rw [r1] at s1
  simp only [Value.slice.injEq] at s1
  obtain ⟨e1, e2, e3⟩ := s1
  refine ⟨by omega, a, by rw [q1, e2, e3], fun hne => ⟨(s2 hne).1, ?_⟩⟩
  have hc : e.cap - 0 ≠ 0 := by rw [e3]; exact hne
  rw [(q2 hc).2, ← (r2 hc).2, e1, (s2 hne).2]
theorem blLs_ok {ks : List LK} : ∀ {p q : List DV} {es : List EI} {cs : List Value}, RepKs β F w ks p es cs → ∀ {b b' : B}, b.pay = p ++ q → ∀ {ls : List L}, blLs ren ks b = some (ls, b') →
    ∃ new, BOk F w b b' q es new ∧ sizes ls = szsL ks ∧ ∀ E, EnvOk E β ren b.nb b.nx es → RepLs E F w ls cs := by
  induction ks with
  | nil =>
    intro p q es cs h b b' hp ls hb
    obtain ⟨rfl, rfl, rfl⟩ := h.inv
    simp only [blLs, Option.some.injEq, Prod.mk.injEq] at hb
    obtain ⟨rfl, rfl⟩ := hb
    exact ⟨[], ⟨by simpa using hp, rfl, rfl, rfl, .nil _⟩, rfl, fun E _ => rfl⟩
  | cons k ks ih =>
    intro p q es cs h b b' hp ls hb
    obtain ⟨p1, p2, e1, e2, c1, c2, rfl, rfl, rfl, h1, h2⟩ := h.inv
    simp only [blLs] at hb
    split at hb
    · rename_i l b1 hl
      split at hb
      · rename_i q1 b2 hq
        simp only [Option.some.injEq, Prod.mk.injEq] at hb
        obtain ⟨rfl, rfl⟩ := hb
        obtain ⟨n1, g1, g2, g3⟩ := blL_ok h1 (q := p2 ++ q) (by rw [hp]; simp) hl
        obtain ⟨n2, k1, k2, k3⟩ := ih h2 g1.pay hq
        refine ⟨n1 ++ n2, g1.trans k1, by rw [sizes_append, g2, k2]; rfl, fun E hE => (g3 E hE.left).append (k3 E ?_)⟩
        have := hE.right
        rw [← g1.nx, ← g1.nb] at this
        exact this
      · simp at hb
    · simp at hb
theorem blA_ok {a : AK} {p q : List DV} {es : List EI} {v : Value} (h : RepA β F w a p es v) {b b' : B} (hp : b.pay = p ++ q) {x : V} (hb : blA ren a b = some (x, b')) :
    ∃ new, BOk F w b b' q es new ∧ ∀ E, EnvOk E β ren b.nb b.nx es → RepV E F w x v := by
  cases h with
  | no v =>
    simp only [blA, Option.some.injEq, Prod.mk.injEq] at hb
    obtain ⟨rfl, rfl⟩ := hb
    exact ⟨[], ⟨by simpa using hp, rfl, rfl, rfl, .nil _⟩, fun E _ => RepV_bad⟩
  | any n v =>
    simp only [blA, blL, Option.some.injEq, Prod.mk.injEq] at hb
    obtain ⟨rfl, rfl⟩ := hb
    exact ⟨[], ⟨by simpa using hp, rfl, rfl, rfl, .nil _⟩, fun E _ => by simp [RepV, RepW]⟩
  | one hne hc hk =>
    simp only [blA] at hb
    split at hb
    · rename_i l b1 hl
      simp only [Option.some.injEq, Prod.mk.injEq] at hb
      obtain ⟨rfl, rfl⟩ := hb
      obtain ⟨n1, g1, g2, g3⟩ := blL_ok hk hp hl
      exact ⟨n1, g1, fun E hE => one_of hc (All.one.1 (g3 E hE))⟩
    · simp at hb
  | agg hk =>
    simp only [blA] at hb
    split at hb
    · rename_i ls b1 hl
      simp only [Option.some.injEq, Prod.mk.injEq] at hb
      obtain ⟨rfl, rfl⟩ := hb
      obtain ⟨n1, g1, g2, g3⟩ := blLs_ok hk hp hl
      exact ⟨n1, g1, fun E hE => ⟨_, rfl, g3 E hE⟩⟩
    · simp at hb
theorem RepAs.inv {aks : List AK} {p : List DV} {es : List EI} {vs : List Value} (h : RepAs β F w aks p es vs) :
    match aks with
    | [] => p = [] ∧ es = []
    | a :: r => ∃ p1 p2 e1 e2 v q, p = p1 ++ p2 ∧ es = e1 ++ e2 ∧ vs = v :: q ∧ RepA β F w a p1 e1 v ∧ RepAs β F w r p2 e2 q := by
  cases h with
  | nil => exact ⟨rfl, rfl⟩
  | cons a b => exact ⟨_, _, _, _, _, _, rfl, rfl, rfl, a, b⟩
theorem blAs_ok {aks : List AK} : ∀ {p q : List DV} {es : List EI} {vs : List Value}, RepAs β F w aks p es vs → ∀ {b b' : B}, b.pay = p ++ q → ∀ {xs : List V}, blAs ren aks b = some (xs, b') →
    ∃ new v1 v2, BOk F w b b' q es new ∧ vs = v1 ++ v2 ∧ v1.length = aks.length ∧ xs.length = aks.length ∧ ∀ E, EnvOk E β ren b.nb b.nx es → All2 (RepV E F w) xs v1 := by
  induction aks with
  | nil =>
    intro p q es vs h b b' hp xs hb
    obtain ⟨rfl, rfl⟩ := h.inv
    simp only [blAs, Option.some.injEq, Prod.mk.injEq] at hb
    obtain ⟨rfl, rfl⟩ := hb
    exact ⟨[], [], vs, ⟨by simpa using hp, rfl, rfl, rfl, .nil _⟩, rfl, rfl, rfl, fun E _ => trivial⟩
  | cons a aks ih =>
    intro p q es vs h b b' hp xs hb
    obtain ⟨p1, p2, e1, e2, v, vq, rfl, rfl, rfl, h1, h2⟩ := h.inv
    simp only [blAs] at hb
    split at hb
    · rename_i x b1 hl
      split at hb
      · rename_i q1 b2 hq
        simp only [Option.some.injEq, Prod.mk.injEq] at hb
        obtain ⟨rfl, rfl⟩ := hb
        obtain ⟨n1, g1, g2⟩ := blA_ok h1 (q := p2 ++ q) (by rw [hp]; simp) hl
        obtain ⟨n2, v1, v2, k1, k2, k3, k4, k5⟩ := ih h2 g1.pay hq
        refine ⟨n1 ++ n2, v :: v1, v2, g1.trans k1, by rw [k2]; rfl, by simp [k3], by simp [k4], fun E hE => ⟨g2 E hE.left, k5 E ?_⟩⟩
        have := hE.right
        rw [← g1.nx, ← g1.nb] at this
        exact this
      · simp at hb
    · simp at hb
theorem RepBs.inv {kss : List (List LK)} {j : Nat} {p : List DV} {es : List EI} (h : RepBs β F w kss j p es) :
    match kss with
    | [] => p = [] ∧ es = []
    | ks :: r => ∃ p1 p2 e1 e2 cs t, p = p1 ++ p2 ∧ es = e1 ++ e2 ∧ BoxAt w (β j) t cs ∧ RepKs β F w ks p1 e1 cs ∧ ¬ F (β j).blk ∧
        (∀ i, i ≤ (szsL ks).length → (β j).loff i = (β j).pre.length + ((szsL ks).take i).sum) ∧ RepBs β F w r (j + 1) p2 e2 := by
  cases h with
  | nil => exact ⟨rfl, rfl⟩
  | cons a b c d e => exact ⟨_, _, _, _, _, _, rfl, rfl, a, b, c, d, e⟩
theorem blBs_ok {kss : List (List LK)} : ∀ {j : Nat} {p q : List DV} {es : List EI}, RepBs β F w kss j p es → ∀ {b b' : B}, b.pay = p ++ q → ∀ {bx : List (Nat × List L)}, blBs ren kss j b = some (bx, b') →
    ∃ new, BOk F w b b' q es new ∧ ∀ E, EnvOk E β ren b.nb b.nx es → ∀ n ls, (n, ls) ∈ bx → ∃ i, i < kss.length ∧ n = ren (j + i) ∧ RepO E F w (β (j + i)) (.box ls) := by
  induction kss with
  | nil =>
    intro j p q es h b b' hp bx hb
    obtain ⟨rfl, rfl⟩ := h.inv
    simp only [blBs, Option.some.injEq, Prod.mk.injEq] at hb
    obtain ⟨rfl, rfl⟩ := hb
    exact ⟨[], ⟨by simpa using hp, rfl, rfl, rfl, .nil _⟩, fun E _ n ls h => by simp at h⟩
  | cons ks r ih =>
    intro j p q es h b b' hp bx hb
    obtain ⟨p1, p2, e1, e2, cs, t, rfl, rfl, h1, h2, h3, h4, h5⟩ := h.inv
    simp only [blBs] at hb
    split at hb
    · rename_i l b1 hl
      split at hb
      · rename_i q1 b2 hq
        simp only [Option.some.injEq, Prod.mk.injEq] at hb
        obtain ⟨rfl, rfl⟩ := hb
        obtain ⟨n1, g1, g2, g3⟩ := blLs_ok h2 (q := p2 ++ q) (by rw [hp]; simp) hl
        obtain ⟨n2, k1, k2⟩ := ih h5 g1.pay hq
        refine ⟨n1 ++ n2, g1.trans k1, fun E hE n ls hm => ?_⟩
        rcases List.mem_cons.1 hm with hm | hm
        · simp only [Prod.mk.injEq] at hm
          obtain ⟨rfl, rfl⟩ := hm
          refine ⟨0, by simp, rfl, cs, t, h1, g3 E hE.left, h3, fun i hi => ?_⟩
          rw [g2]
          refine h4 i ?_
          rw [← g2, sizes_len]; exact hi
        · have := hE.right
          rw [← g1.nx, ← g1.nb] at this
          obtain ⟨i, a1, a2, a3⟩ := k2 E this n ls hm
          rw [show j + 1 + i = j + (i + 1) by omega] at a2 a3
          exact ⟨i + 1, by simpa using a1, a2, a3⟩
      · simp at hb
    · simp at hb
end
theorem lookO_mem : ∀ (l : List (Nat × Obj)) (k : Nat), lookO l k = .dead ∨ (k, lookO l k) ∈ l
  | [], k => .inl rfl
  | p :: r, k => by
    simp only [lookO]
    split
    · rename_i e
      have e := Nat.eq_of_beq_eq_true e
      subst e
      exact .inr (by simp)
    · rcases lookO_mem r k with h | h
      · exact .inl h
      · exact .inr (by simp [h])
end Go.Proofs.Zs
/- The state of a signature stands for memory. -/
set_option linter.unusedVariables false
set_option linter.unusedSimpArgs false
namespace Go.Proofs.Zs
open Go

/-- The blocks that a signature hands over. -/
def ownB (nb : Nat) (β : Nat → EI) (es : List EI) (b : Nat) : Prop := (∃ j, j < nb ∧ (β j).blk = b) ∨ ∃ e ∈ es, e.nil = false ∧ e.blk = b

/-- What is asked of a frame that goes on with a signature's state. -/
structure Enter (C : Frm) (F : Nat → Prop) (w : World) (nb : Nat) (β : Nat → EI) (es : List EI) : Prop where
  fb : ∀ b, F b → b < w.heap.size
  f0 : ∀ b, C.F0 b → F b
  kp : ∀ b, b < C.w0.heap.size → ¬ C.O b → w.heap[b]? = C.w0.heap[b]?
  uf : ∀ b, F b → C.F0 b ∨ C.O b ∨ C.w0.heap.size ≤ b
  uo : ∀ b, ownB nb β es b → C.O b ∨ C.w0.heap.size ≤ b
  sz : C.w0.heap.size ≤ w.heap.size
  os : w.os = C.w0.os
  tape : w.tape = C.w0.tape
  output : w.output = C.w0.output
  nb : C.nb ≤ nb
  e0 : ∀ k, k < C.nb → β k = C.e0 k

theorem RepBs.notF {β : Nat → EI} {F : Nat → Prop} {w : World} {kss : List (List LK)} {j : Nat} {p : List DV} {es : List EI} (h : RepBs β F w kss j p es) : ∀ i, i < kss.length → ¬ F (β (j + i)).blk := by
  induction h with
  | nil j => intro i hi; simp at hi
  | cons h1 h2 h3 h4 h5 ih =>
    intro i hi
    cases i with
    | zero => exact h3
    | succ i =>
      have := ih i (by simpa using hi)
      rwa [Nat.add_assoc, Nat.add_comm 1 i] at this
theorem SigIn.notO {sg : Sg} {β : Nat → EI} {F : Nat → Prop} {w : World} {p : List DV} {es : List EI} {vs : List Value} (h : SigIn sg β F w p es vs) : ∀ b, F b → ¬ ownB sg.bx.length β es b := by
  rintro b hF (⟨j, hj, rfl⟩ | ⟨e, he, hn, rfl⟩)
  · obtain ⟨_, _, _, _, _, _, _, hB⟩ := h.ex
    have := hB.notF j hj
    rw [Nat.zero_add] at this
    exact this hF
  · exact h.ef e he hn hF
theorem FrmOk.of {P : Program} {sg : Sg} {β : Nat → EI} {F : Nat → Prop} {w : World} {p : List DV} {es : List EI} {vs : List Value} {n : Nat} {e0 : Nat → EI} (hfb : ∀ b, F b → b < w.heap.size) (h : SigIn sg β F w p es vs) (hl : Laid P F w) :
    FrmOk P ⟨ownB sg.bx.length β es, F, w, n, e0⟩ := ⟨hl, hfb, h.notO⟩
theorem Enter.laid {P : Program} {C : Frm} {F : Nat → Prop} {w : World} {nb : Nat} {β : Nat → EI} {es : List EI} (h : Enter C F w nb β es) (hC : FrmOk P C) : Laid P F w :=
  hC.ld.mono h.f0 fun b hb => h.kp b (hC.lt b hb) (hC.no b hb)
def entE (nb : Nat) (β : Nat → EI) (es : List EI) : Env := { e := fun k => if k < nb then β k else es.getD (k - nb) (nilEI .unit), al := fun k => k < nb + es.length }
theorem bads_nth (n t : Nat) (xs : List V) (h : xs.length ≤ t) : nthD bad (xs ++ bads n) t = bad := by
  rw [nthD_eq, List.getD_eq_getElem?_getD, List.getElem?_append_right h, ← List.getD_eq_getElem?_getD, ← nthD_eq, bads_get]
theorem All2.get {α β : Type} {R : α → β → Prop} : ∀ {xs : List α} {ys : List β}, All2 R xs ys → ∀ {i : Nat} {x : α}, xs[i]? = some x → ∃ y, ys[i]? = some y ∧ R x y
  | [], [], _, i, x, h => by simp at h
  | [], _ :: _, h, _, _, _ => h.elim
  | _ :: _, [], h, _, _, _ => h.elim
  | a :: r, b :: q, h, 0, x, hx => by simp at hx; subst hx; exact ⟨b, rfl, h.1⟩
  | a :: r, b :: q, h, i + 1, x, hx => by simp at hx; simpa using h.2.get hx
theorem mem_boxes : ∀ {bx : List (Nat × List L)} {k : Nat} {o : Obj}, (k, o) ∈ boxes bx → ∃ ls, o = .box ls ∧ (k, ls) ∈ bx
  | [], k, o, h => by simp [boxes] at h
  | p :: r, k, o, h => by
    simp only [boxes, List.mem_cons, Prod.mk.injEq] at h
    rcases h with ⟨rfl, rfl⟩ | h
    · exact ⟨p.2, rfl, by simp⟩
    · obtain ⟨ls, h1, h2⟩ := mem_boxes h
      exact ⟨ls, h1, by simp [h2]⟩
theorem ed_ne {es : List EI} (h : es.Pairwise fun a b => a.nil = false → b.nil = false → a.blk ≠ b.blk) {i j : Nat} {a b : EI} (hi : es[i]? = some a) (hj : es[j]? = some b) (ha : a.nil = false) (hb : b.nil = false) (he : a.blk = b.blk) : i = j := by
  obtain ⟨hi', ei⟩ := List.getElem?_eq_some_iff.1 hi
  obtain ⟨hj', ej⟩ := List.getElem?_eq_some_iff.1 hj
  rcases Nat.lt_trichotomy i j with hlt | rfl | hlt
  · exact (List.pairwise_iff_getElem.1 h i j hi' hj' hlt (by rw [ei]; exact ha) (by rw [ej]; exact hb) (by rw [ei, ej]; exact he)).elim
  · rfl
  · exact (List.pairwise_iff_getElem.1 h j i hj' hi' hlt (by rw [ej]; exact hb) (by rw [ei]; exact ha) (by rw [ei, ej]; exact he.symm)).elim
theorem patch_len (ob : List (Nat × Obj)) : ∀ (aks : List AK) (xs : List V), (patch ob aks xs).length = xs.length
  | [], xs => by cases xs <;> rfl
  | a :: aks, [] => by cases a with
    | one k => cases k <;> rfl
    | _ => rfl
  | a :: aks, x :: xs => by
    cases a with
    | one k => cases k <;> simp [patch, patch_len ob aks xs]
    | _ => simp [patch, patch_len ob aks xs]
theorem patch_ok {β : Nat → EI} {E : Env} {F : Nat → Prop} {w : World} {ob : List (Nat × Obj)}
    (H : ∀ j ls l k, lookO ob j = .box ls → nthO ls l = some (.own k) → ∀ v e u, Win e 0 e.len [v] → Win e 0 e.len [u] → At w (β j).blk ((β j).loff l) [u] → RepL E F w (.own k) [v]) :
    ∀ {aks : List AK} {p : List DV} {es : List EI} {v1 v2 : List Value} {xs : List V}, RepAs β F w aks p es (v1 ++ v2) → v1.length = aks.length → All2 (RepV E F w) xs v1 → All2 (RepV E F w) (patch ob aks xs) v1 := by
  intro aks
  induction aks with
  | nil =>
    intro p es v1 v2 xs h hl hx
    cases xs <;> exact hx
  | cons a aks ih =>
    intro p es v1 v2 xs h hl hx
    cases v1 with
    | nil => simp at hl
    | cons v v1 =>
      cases xs with
      | nil => exact hx.elim
      | cons x xs =>
        obtain ⟨p1, p2, e1, e2, v', q, rfl, rfl, hv, h1, h2⟩ := h.inv
        simp only [List.cons_append, List.cons.injEq] at hv
        obtain ⟨rfl, rfl⟩ := hv
        have hr := ih h2 (by simpa using hl) hx.2
        have keep : patch ob (a :: aks) (x :: xs) = x :: patch ob aks xs → All2 (RepV E F w) (patch ob (a :: aks) (x :: xs)) (v :: v1) := fun e => by rw [e]; exact ⟨hx.1, hr⟩
        cases a with
        | no => exact keep rfl
        | agg ks => exact keep rfl
        | one kk =>
          cases kk with
          | hd j l =>
            simp only [patch]
            refine ⟨?_, hr⟩
            split
            · rename_i ls hls
              split
              · rename_i k hk
                cases h1 with
                | one hne hc hk' =>
                  cases hk' with
                  | hd w1 w2 w3 => exact one_of hc (H j ls l k hls hk v _ _ w1 w2 w3)
              · exact hx.1
            · exact hx.1
          | _ => exact keep rfl
theorem mkSt_ok {C : Frm} {sg : Sg} {β : Nat → EI} {F : Nat → Prop} {w : World} {p : List DV} {es : List EI} {vs rest : List Value} {n : Nat} {s0 : St} (hs : SigIn sg β F w p es vs) (he : Enter C F w sg.bx.length β es)
    (h : mkSt sg n p = some s0) {a : Act} (ha : a.tmps.toList = vs ++ rest) (hn : a.tmps.size = n) (hd : a.defers = []) : s0.nx = sg.bx.length + es.length ∧ Rel C (fun k => k < s0.nx) s0 a w := by
  obtain ⟨p1, p2, e1, e2, rfl, rfl, hA, hB⟩ := hs.ex
  unfold mkSt at h
  split at h
  · rename_i xs b1 hb1
    split at h
    · rename_i bx b2 hb2
      split at h
      · simp only [Option.some.injEq] at h
        subst h
        obtain ⟨n1, v1, v2, k1, k2, k3, k4, k5⟩ := blAs_ok hA rfl hb1
        obtain ⟨n2, g1, g2⟩ := blBs_ok hB (q := []) (by rw [k1.pay]; simp) hb2
        have hk := k1.trans g1
        have hE : EnvOk (entE sg.bx.length β (e1 ++ e2)) β (fun j => j) sg.bx.length sg.bx.length (e1 ++ e2) := by
          refine ⟨fun j hj => ⟨by simp [entE]; omega, by simp [entE, hj]⟩, fun i e hi => ?_⟩
          have hlt := (List.getElem?_eq_some_iff.1 hi).1
          refine ⟨by simp only [entE]; omega, ?_⟩
          simp only [entE]
          rw [if_neg (by omega), Nat.add_sub_cancel_left, List.getD_eq_getElem?_getD, hi]; rfl
        have hbx := g2 _ (by have := hE.right; rw [k1.nx, k1.nb]; exact this)
        have hxs := k5 _ hE.left
        -- what lies under a key
        have look : ∀ k, lookO (boxes bx ++ b2.ob) k = .dead ∨ (∃ ls, k < sg.bx.length ∧ lookO (boxes bx ++ b2.ob) k = .box ls ∧ RepO (entE sg.bx.length β (e1 ++ e2)) F w (β k) (.box ls)) ∨
            ∃ e, sg.bx.length ≤ k ∧ (e1 ++ e2)[k - sg.bx.length]? = some e ∧ OwnO F w e (lookO (boxes bx ++ b2.ob) k) := by
          intro k
          rcases lookO_mem (boxes bx ++ b2.ob) k with h | h
          · exact .inl h
          · rw [hk.ob, List.append_nil, List.mem_append] at h
            rcases h with h | h
            · obtain ⟨ls, h1, h2⟩ := mem_boxes h
              obtain ⟨i, i1, i2, i3⟩ := hbx k ls h2
              rw [Nat.zero_add] at i2 i3
              subst i2
              exact .inr (.inl ⟨ls, i1, by rw [hk.ob, List.append_nil]; exact h1, i3⟩)
            · rw [List.mem_reverse] at h
              obtain ⟨e, i1, i2, i3⟩ := hk.arr.mem h
              exact .inr (.inr ⟨e, i1, i2, by rw [hk.ob, List.append_nil]; exact i3⟩)
        have ee : ∀ k e, sg.bx.length ≤ k → (e1 ++ e2)[k - sg.bx.length]? = some e → (entE sg.bx.length β (e1 ++ e2)).e k = e := by
          intro k e h1 h2
          simp only [entE]
          rw [if_neg (by omega), List.getD_eq_getElem?_getD, h2]; rfl
        have eb : ∀ k, k < sg.bx.length → (entE sg.bx.length β (e1 ++ e2)).e k = β k := fun k h => by simp [entE, h]
        have hnx : b2.nx = sg.bx.length + (e1 ++ e2).length := hk.nx
        -- what is excl lies among the owned
        have exc : ∀ k, excl ((entE sg.bx.length β (e1 ++ e2)).e k) (lookO (boxes bx ++ b2.ob) k) → (k < sg.bx.length ∧ (entE sg.bx.length β (e1 ++ e2)).e k = β k) ∨
            ∃ e, sg.bx.length ≤ k ∧ (e1 ++ e2)[k - sg.bx.length]? = some e ∧ (entE sg.bx.length β (e1 ++ e2)).e k = e ∧ e.nil = false := by
          intro k hx
          rcases look k with h | ⟨ls, h1, h2, h3⟩ | ⟨e, h1, h2, h3⟩
          · rw [h] at hx; exact hx.elim
          · exact .inl ⟨h1, eb k h1⟩
          · rw [ee k e h1 h2] at hx
            exact .inr ⟨e, h1, h2, ee k e h1 h2, h3.nil hx⟩
        have hM : Mem C (fun k => k < b2.nx) (entE sg.bx.length β (e1 ++ e2)) F (boxes bx ++ b2.ob) w := by
          refine ⟨?_, ?_, ?_, ?_, he.fb, he.f0, he.kp, he.uf, ?_, he.sz, he.os, he.tape, he.output, ?_⟩
          · intro k hl
            rcases look k with h | ⟨ls, h1, h2, h3⟩ | ⟨e, h1, h2, h3⟩
            · rw [h] at hl; exact hl.elim
            · show k < _; omega
            · have := (List.getElem?_eq_some_iff.1 h2).1
              show k < _; omega
          · intro k
            rcases look k with h | ⟨ls, h1, h2, h3⟩ | ⟨e, h1, h2, h3⟩
            · rw [h]; trivial
            · rw [h2, eb k h1]; exact h3
            · rw [ee k e h1 h2]
              exact h3.rep fun hnil => hs.ef e (List.mem_of_getElem? h2) hnil
          · intro k k' hx hx' hb
            rcases exc k hx with ⟨a1, a2⟩ | ⟨e, a1, a2, a3, a4⟩ <;> rcases exc k' hx' with ⟨c1, c2⟩ | ⟨e', c1, c2, c3, c4⟩
            · rw [a2, c2] at hb; exact hs.bd k k' a1 c1 hb
            · rw [a2, c3] at hb; exact (hs.be k a1 e' (List.mem_of_getElem? c2) c4 hb).elim
            · rw [a3, c2] at hb; exact (hs.be k' c1 e (List.mem_of_getElem? a2) a4 hb.symm).elim
            · rw [a3, c3] at hb
              have := ed_ne hs.ed a2 c2 a4 c4 hb
              omega
          · intro k hal
            have hal : k < sg.bx.length + (e1 ++ e2).length := hal
            show k < b2.nx
            rw [hnx]; exact hal
          · intro k hx
            rcases exc k hx with ⟨a1, a2⟩ | ⟨e, a1, a2, a3, a4⟩
            · rw [a2]; exact he.uo _ (.inl ⟨k, a1, rfl⟩)
            · rw [a3]; exact he.uo _ (.inr ⟨e, List.mem_of_getElem? a2, a4, rfl⟩)
          · intro k hk'
            have := he.nb
            exact ⟨by show k < _; omega, by rw [eb k (by omega)]; exact he.e0 k hk'⟩
        have hys : All2 (RepV (entE sg.bx.length β (e1 ++ e2)) F w) (tmsOf (boxes bx ++ b2.ob) sg.av xs) v1 := by
          unfold tmsOf
          split
          · subst k2
            refine patch_ok (fun j ls l k hj hl v e u q1 q2 q3 => ?_) hA k3 hxs
            rcases look j with h | ⟨ls', h1, h2, h3⟩ | ⟨e', h1, h2, h3⟩
            · rw [h] at hj; cases hj
            · rw [h2] at hj
              simp only [Obj.box.injEq] at hj
              subst hj
              obtain ⟨c, g1, g2⟩ := leaf_at (s := { tm := [], ob := boxes bx ++ b2.ob, nx := 0 }) hM h2 (by rw [← nthO_eq]; exact hl)
              rw [eb j h1] at g2
              obtain ⟨ga, gw⟩ := g1
              obtain ⟨u', rfl⟩ : ∃ u', c = [u'] := by
                obtain ⟨_, a, e, _⟩ := gw
                exact ⟨_, e⟩
              have e1 := g2 0 u' rfl
              have e2 := q3 0 u rfl
              rw [e1] at e2
              simp only [Option.some.injEq] at e2
              subst e2
              exact ⟨ga, win_same q1 q2 gw⟩
            · rw [hj] at h3; exact h3.elim
          · exact hxs
        have hyl : (tmsOf (boxes bx ++ b2.ob) sg.av xs).length = xs.length := by
          unfold tmsOf
          split
          · exact patch_len _ _ _
          · rfl
        generalize tmsOf (boxes bx ++ b2.ob) sg.av xs = ys at hys hyl ⊢
        refine ⟨hnx, entE sg.bx.length β (e1 ++ e2), F, hM, ?_, ?_, hd⟩
        · intro t
          by_cases ht : t < ys.length
          · obtain ⟨v, hv, hr⟩ := hys.get (List.getElem?_eq_getElem ht)
            have h1 : nthD bad (ys ++ bads (n - xs.length)) t = ys[t] := by
              rw [nthD_eq, List.getD_eq_getElem?_getD, List.getElem?_append_left ht, List.getElem?_eq_getElem ht]; rfl
            have h2 : a.tmps.getD t undef = v := by
              have : a.tmps.toList[t]? = some v := by rw [ha, k2, List.append_assoc, List.getElem?_append_left (List.getElem?_eq_some_iff.1 hv).1]; exact hv
              rw [Array.getElem?_toList] at this
              rw [Array.getD_eq_getD_getElem?, this]; rfl
            rw [h1, h2]; exact hr
          · rw [bads_nth _ _ _ (by omega)]; exact RepV_bad
        · have h1 : xs.length = v1.length := by rw [k3, k4]
          have h2 : v1.length ≤ n := by
            have := congrArg List.length ha
            rw [k2, Array.length_toList, hn] at this
            simp only [List.length_append] at this
            omega
          simp only [List.length_append, bads_len, hn]
          omega
      · simp at h
    · simp at h
  · simp at h
end Go.Proofs.Zs
